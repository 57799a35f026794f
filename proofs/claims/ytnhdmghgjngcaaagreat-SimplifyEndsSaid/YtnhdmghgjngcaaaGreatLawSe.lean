import Derived.Test.YtnhdmghgjngcaaaGreatJ33
import Derived.Test.YtnhdmghgjngcaaaGreatJ35
import Derived.Test.YtnhdmghgjngcaaaGreatLawSf
import Derived.Test.YtnhdmghgjngcaaaGreatJ42
set_option linter.unusedSimpArgs false
set_option linter.unusedVariables false
namespace Go.Proofs.YtnhdmghgjngcaaaGreat
open Go.RowKit

theorem ThinOf.mod {p q:Pl} (h:ThinOf p q) (hm:Mod34 p):Mod34 q :=
 ⟨by rw [h.nodes];exact hm.nds,by rw [h.num];exact hm.ars,fun b hb=>by
  obtain ⟨a,ha,-,hs⟩:=h.mem hb
  have:=hm.via a ha
  have:=hs.length_le
  omega⟩
theorem ThinOf.wf {p q:Pl} (h:ThinOf p q) (hw:∀ a∈p.arcs,wfI a.id):∀ a∈q.arcs,wfI a.id:=fun b hb=>by
 obtain ⟨a,ha,e,-⟩:=h.mem hb
 rw [← e];exact hw a ha

set_option maxRecDepth 100000 in
set_option maxHeartbeats 8000000 in
theorem SimplifyEnds_spec (v:Value) (p:Pl) (tol:Int) (w:World) (h:PlV w v p) (hw:∀ a∈p.arcs,wfI a.id) :
  Calls Tryz.prog 4 #[v,.int .i64 tol] w fun e w'=>e=.returned (.bool true)∧Below w.heap.size w w':=by
 have HAw:=Lib.hid awake34_spec
 have HFw:=Lib.hid (fun W (hW:Below w.heap.size w W)=>Few_spec v p 60 W (h.mono hW) (by omega))
 have HS1:=Lib.hid (fun tol hm hf W (hW:Below w.heap.size w W)=>Simplify34_spec v p tol W (h.mono hW) hm hf hw)
 have HPv:=Lib.hid h
 obtain ⟨An,cn,Aa,ca,Af,cf,rfl⟩:=h.form
 have HWf:=Lib.hid hw
 clear h hw
 obtain ⟨nn,hnn⟩:∃ nn,p.nodes.length=nn:=⟨_,rfl⟩
 obtain ⟨na,hna⟩:∃ na,p.arcs.length=na:=⟨_,rfl⟩
 obtain ⟨nf,hnf⟩:∃ nf,p.faces.length=nf:=⟨_,rfl⟩
 rw [hnn,hna,hnf] at HS1 HPv HFw ⊢
 have HNf:=Lib.hid hnf;have HNn:=Lib.hid hnn;have HNa:=Lib.hid hna
 obtain ⟨few,hfew⟩:∃ few,fewS p 60=few:=⟨_,rfl⟩
 rw [hfew] at HFw
 have HFew:=Lib.hid hfew
 clear hfew hnf hnn hna
 go_enter Tryz.func4,Tryz.ntmps4
 go_upto_region 1 with fail
 obtain ⟨g2,hg2⟩:∃ g,w.heap.size=g:=⟨_,rfl⟩
 obtain ⟨W1,hW⟩:∃ W:World,W=w.alloc (.cells #[.slice An nn cn,.slice Aa na ca,.slice Af nf cf] 26):=⟨_,rfl⟩
 have X2:Blk W1 g2 26 #[.slice An nn cn,.slice Aa na ca,.slice Af nf cf]:=by rw [hW,← hg2];exact Blk.made rfl _ _
 have HB1:=Lib.hid (show Below w.heap.size w W1 by rw [hW];exact bA (bR w) _)
 rw [← hW]
 try rw [hg2]
 clear hW hg2
 have HX2:=Lib.hid X2
 obtain ⟨X2l,X2a,X2b,X2c,-,-,-⟩:=X2.facts3
 go_wp2_with fail
 refine (HFw.out _ HB1.out).mono ?_
 rintro e w2 ⟨rfl,hb2⟩
 have HB2:=Lib.hid (bT HB1.out hb2);have HX22:=Lib.hid (HX2.out.keep hb2)
 clear hb2 X2 X2l X2a X2b X2c HX2 HB1 HFw
 cases few
 case false =>
  go_wp2_with fail
  refine (HAw.out _).mono ?_
  rintro e w3 ⟨rfl,hb3⟩
  have HB3:=Lib.hid (bT HB2.out hb3)
  clear hb3
  go_wp2_with fail
  go_ret
  exact ⟨rfl,HB3.out⟩
 have hm:=Mod34.of_few HFew.out
 have hfc:p.faces.length≤1000000:=by
  have h:=HFew.out
  unfold fewS at h
  have h:=of_decide_eq_true h
  omega
 by_cases hz:rchkS p=0
 case neg =>
  have HG1:=Lib.hid (show ∀ W,Below w.heap.size w W→Calls Tryz.prog 9 #[.agg #[.slice An nn cn,.slice Aa na ca,.slice Af nf cf],.int .i64 tol] W (RetSm W (pl0,rchkS p)) from fun W hW=>by
   have h9:=HS1.out tol hm.1 (by rw [← HNf.out];exact hfc) W hW
   unfold smR at h9
   rw [if_pos hz] at h9
   exact h9)
  generalize rchkS p=z at *
  have hzb:(z != 0)=true:=by simpa using hz
  clear HS1 hm hfc hz
  have X2:=HX22.out
  try clear X2l
  try clear X2a
  try clear X2b
  try clear X2c
  obtain ⟨X2l,X2a,X2b,X2c,-,-,-⟩:=X2.facts3
  go_wp2_with fail
  refine (HG1.out _ HB2.out).mono ?_
  rintro e w5 ⟨v5,rfl,hb5,hp5⟩
  obtain ⟨A5,c5,D5,d5,E5,e5,rfl⟩:=hp5.form
  have HB5:=Lib.hid (bT HB2.out hb5)
  clear hb5 hp5 X2 X2l X2a X2b X2c HX22 HB2
  go_wp2_with fail
  refine (HAw.out _).mono ?_
  rintro e w7 ⟨rfl,hb7⟩
  have HB7:=Lib.hid (bT (bA HB5.out _) hb7)
  clear hb7
  go_wp2_with fail
  go_ret
  exact ⟨rfl,HB7.out⟩
 obtain ⟨q,hq⟩:∃ q,simpS p tol=q:=⟨_,rfl⟩
 have hsame:=same_simp hz tol
 have hend:=least_end p tol
 have hag:=simp_again p tol
 rw [hq] at hsame hend hag
 have hmq:=hsame.thin.mod hm.1
 have hfq:q.faces.length≤1000000:=by rw [hsame.thin.faces];exact hfc
 have hwq:=hsame.thin.wf HWf.out
 have HG1:=Lib.hid (show ∀ W,Below w.heap.size w W→Calls Tryz.prog 9 #[.agg #[.slice An nn cn,.slice Aa na ca,.slice Af nf cf],.int .i64 tol] W (RetSm W (q,0)) from fun W hW=>by
  have h9:=HS1.out tol hm.1 (by rw [← HNf.out];exact hfc) W hW
  unfold smR at h9
  rw [if_neg (by rw [hz];simp),hq] at h9
  exact h9)
 have HG3:=Lib.hid (show ∀ W,Below w.heap.size w W→Calls Tryz.prog 9 #[.agg #[.slice An nn cn,.slice Aa na ca,.slice Af nf cf],.int .i64 0] W (RetSm W (p,0)) from fun W hW=>by
  have h9:=HS1.out 0 hm.1 (by rw [← HNf.out];exact hfc) W hW
  unfold smR at h9
  rw [if_neg (by rw [hz];simp),simp_zero] at h9
  exact h9)
 have HG2:=Lib.hid (show ∀ u W,PlV W u q→Calls Tryz.prog 9 #[u,.int .i64 tol] W (RetSm W (q,0)) from fun u W hu=>by
  have h9:=Simplify34_spec u q tol W hu hmq hfq hwq
  unfold smR at h9
  rw [if_neg (by rw [hsame.ok];simp),hag] at h9
  exact h9)
 have HLe:=Lib.hid (show ∀ u W,PlV W u q→Calls Tryz.prog 15 #[u,.int .i64 tol] W (fun e w'=>e=.returned (.tuple #[.int .i64 0,.int .i64 0,.int .i64 0,.bool false])∧Below W.heap.size W w') from fun u W hu=>by
  have h9:=Least_spec u q tol W hu hmq hwq
  rw [hend] at h9
  exact h9)
 clear hmq hfq hwq hsame hend hag hq hm hfc hz HS1 HWf HFew
 have X2:=HX22.out
 try clear X2l
 try clear X2a
 try clear X2b
 try clear X2c
 obtain ⟨X2l,X2a,X2b,X2c,-,-,-⟩:=X2.facts3
 go_wp2_with fail
 refine (HG1.out _ HB2.out).mono ?_
 rintro e w5 ⟨v5,rfl,hb5,hp5⟩
 obtain ⟨A5,c5,D5,d5,E5,e5,rfl⟩:=hp5.form
 have HP5:=Lib.hid hp5;have HB5:=Lib.hid (bT HB2.out hb5);have HX52:=Lib.hid (HX22.out.keep hb5)
 clear hb5 hp5 X2 X2l X2a X2b X2c HX22 HB2
 simp only at HP5 ⊢
 obtain ⟨n1,hn1⟩:∃ n1,q.nodes.length=n1:=⟨_,rfl⟩
 obtain ⟨n2,hn2⟩:∃ n2,q.arcs.length=n2:=⟨_,rfl⟩
 obtain ⟨n3,hn3⟩:∃ n3,q.faces.length=n3:=⟨_,rfl⟩
 rw [hn1,hn2,hn3] at HP5 ⊢
 have HN1:=Lib.hid hn1;have HN2:=Lib.hid hn2;have HN3:=Lib.hid hn3
 clear hn1 hn2 hn3
 go_upto_region 4 with fail
 obtain ⟨g5,hg5⟩:∃ g,w5.heap.size=g:=⟨_,rfl⟩
 obtain ⟨W5,hW⟩:∃ W:World,W=w5.alloc (.cells #[.slice A5 n1 c5,.slice D5 n2 d5,.slice E5 n3 e5] 26):=⟨_,rfl⟩
 have hb:Below w5.heap.size w5 W5:=by rw [hW];exact bA (bR w5) _
 have HX5:=Lib.hid (show Blk W5 g5 26 #[.slice A5 n1 c5,.slice D5 n2 d5,.slice E5 n3 e5] by rw [hW,← hg5];exact Blk.made rfl _ _)
 have HQ:=Lib.hid (HP5.out.mono hb);have HC5:=Lib.hid (bT HB5.out hb);have HX3:=Lib.hid (HX52.out.keep hb)
 rw [hg5,← hW]
 clear hb hW HP5 HB5 HX52 hg5
 have X5:=HX5.out
 obtain ⟨X5l,X5a,X5b,X5c,-,-,-⟩:=X5.facts3
 go_wp2_with fail
 refine (HLe.out _ _ HQ.out).mono ?_
 rintro e w6 ⟨rfl,hb6⟩
 have HX6:=Lib.hid (HX5.out.keep hb6);have HQ6:=Lib.hid (HQ.out.mono hb6);have HC6:=Lib.hid (bT HC5.out hb6);have HX36:=Lib.hid (HX3.out.keep hb6)
 clear hb6 X5 X5l X5a X5b X5c HX5 HQ HC5 HX3 HLe
 have X5:=HX6.out
 try clear X5l
 try clear X5a
 try clear X5b
 try clear X5c
 obtain ⟨X5l,X5a,X5b,X5c,-,-,-⟩:=X5.facts3
 go_wp2_with fail
 refine (HG2.out _ _ HQ6.out).mono ?_
 rintro e w7 ⟨v7,rfl,hb7,hp7⟩
 obtain ⟨A7,c7,D7,d7,E7,e7,rfl⟩:=hp7.form
 simp only [HN1.out,HN2.out,HN3.out] at hp7 ⊢
 have HP7:=Lib.hid hp7;have HC7:=Lib.hid (bT HC6.out hb7);have HX37:=Lib.hid (HX36.out.keep hb7)
 have HY7:=Lib.hid (HX6.out.keep hb7);have HQ7:=Lib.hid (HQ6.out.mono hb7)
 clear hb7 hp7 X5 X5l X5a X5b X5c HX6 HQ6 HC6 HX36 HG2
 go_upto_region 8 with fail
 obtain ⟨g7,hg7⟩:∃ g,w7.heap.size=g:=⟨_,rfl⟩
 obtain ⟨W7,hW⟩:∃ W:World,W=w7.alloc (.cells #[.slice A7 n1 c7,.slice D7 n2 d7,.slice E7 n3 e7] 26):=⟨_,rfl⟩
 have hb:Below w7.heap.size w7 W7:=by rw [hW];exact bA (bR w7) _
 have HX8:=Lib.hid (show Blk W7 g7 26 #[.slice A7 n1 c7,.slice D7 n2 d7,.slice E7 n3 e7] by rw [hW,← hg7];exact Blk.made rfl _ _)
 have HP8:=Lib.hid (HP7.out.mono hb);have HY8:=Lib.hid (HY7.out.keep hb);have HQ8:=Lib.hid (HQ7.out.mono hb);have HC8:=Lib.hid (bT HC7.out hb);have HX38:=Lib.hid (HX37.out.keep hb)
 rw [hg7,← hW]
 clear hb hW HP7 HY7 HQ7 HC7 HX37 hg7
 have X2:=HX38.out
 try clear X2l
 try clear X2a
 try clear X2b
 try clear X2c
 obtain ⟨X2l,X2a,X2b,X2c,-,-,-⟩:=X2.facts3
 go_wp2_with fail
 refine (HG3.out _ HC8.out).mono ?_
 rintro e w9 ⟨v9,rfl,hb9,hp9⟩
 obtain ⟨A9,c9,D9,d9,E9,e9,rfl⟩:=hp9.form
 simp only [HNn.out,HNa.out,HNf.out] at hp9 ⊢
 have HP9:=Lib.hid hp9;have HC9:=Lib.hid (bT HC8.out hb9);have HX39:=Lib.hid (HX38.out.keep hb9)
 have HY9:=Lib.hid (HY8.out.keep hb9);have HQ9:=Lib.hid (HQ8.out.mono hb9);have HX9:=Lib.hid (HX8.out.keep hb9);have HR9:=Lib.hid (HP8.out.mono hb9)
 clear hb9 hp9 X2 X2l X2a X2b X2c HX38 HY8 HQ8 HC8 HX8 HP8 HG3
 go_upto_region 9 with fail
 obtain ⟨g9,hg9⟩:∃ g,w9.heap.size=g:=⟨_,rfl⟩
 obtain ⟨W9,hW⟩:∃ W:World,W=w9.alloc (.cells #[.slice A9 nn c9,.slice D9 na d9,.slice E9 nf e9] 26):=⟨_,rfl⟩
 have hb:Below w9.heap.size w9 W9:=by rw [hW];exact bA (bR w9) _
 have HXa:=Lib.hid (show Blk W9 g9 26 #[.slice A9 nn c9,.slice D9 na d9,.slice E9 nf e9] by rw [hW,← hg9];exact Blk.made rfl _ _)
 have HPa:=Lib.hid (HP9.out.mono hb);have HYa:=Lib.hid (HY9.out.keep hb);have HQa:=Lib.hid (HQ9.out.mono hb);have HCa:=Lib.hid (bT HC9.out hb);have HX3a:=Lib.hid (HX39.out.keep hb);have HX8a:=Lib.hid (HX9.out.keep hb);have HRa:=Lib.hid (HR9.out.mono hb)
 rw [hg9,← hW]
 clear hb hW HP9 HY9 HQ9 HC9 HX39 HX9 HR9 hg9
 have X5:=HYa.out;have X7:=HX8a.out
 have HSa:=Lib.hid (fun u1 u2 P W (h1:PlV W u1 P) (h2:PlV W u2 P)=>RSame14_true u1 u2 P W h1 h2)
 try clear X5l
 try clear X5a
 try clear X5b
 try clear X5c
 obtain ⟨X5l,X5a,X5b,X5c,-,-,-⟩:=X5.facts3
 obtain ⟨X7l,X7a,X7b,X7c,-,-,-⟩:=X7.facts3
 go_wp2_with fail
 refine (HSa.out _ _ q _ HRa.out HQa.out).mono ?_
 rintro e wb ⟨rfl,hbb⟩
 have HCb:=Lib.hid (bT HCa.out hbb);have HXb:=Lib.hid (HXa.out.keep hbb);have HX3b:=Lib.hid (HX3a.out.keep hbb);have HPb:=Lib.hid (HPa.out.mono hbb)
 have HPp:=Lib.hid (show PlV wb (.agg #[.slice An nn cn,.slice Aa na ca,.slice Af nf cf]) p from HPv.out.mono HCb.out)
 clear hbb X5 X5l X5a X5b X5c X7 X7l X7a X7b X7c HCa HXa HX3a HPa HYa HQa HX8a HRa
 have X5:=HXb.out;have X7:=HX3b.out
 try clear X5l
 try clear X5a
 try clear X5b
 try clear X5c
 obtain ⟨X5l,X5a,X5b,X5c,-,-,-⟩:=X5.facts3
 try clear X7l
 try clear X7a
 try clear X7b
 try clear X7c
 obtain ⟨X7l,X7a,X7b,X7c,-,-,-⟩:=X7.facts3
 go_wp2_with fail
 refine (HSa.out _ _ p _ HPb.out HPp.out).mono ?_
 rintro e wc ⟨rfl,hbc⟩
 have HCc:=Lib.hid (bT HCb.out hbc)
 clear hbc X5 X5l X5a X5b X5c X7 X7l X7a X7b X7c
 go_wp2_with fail
 refine (HAw.out _).mono ?_
 rintro e wd ⟨rfl,hbd⟩
 have HCd:=Lib.hid (bT HCc.out hbd)
 clear hbd
 go_wp2_with fail
 go_ret
 exact ⟨ret_bool (by simp),HCd.out⟩
end Go.Proofs.YtnhdmghgjngcaaaGreat
