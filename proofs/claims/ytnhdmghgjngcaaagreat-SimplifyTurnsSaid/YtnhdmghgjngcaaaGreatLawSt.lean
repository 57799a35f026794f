import Derived.Test.YtnhdmghgjngcaaaGreatJ33
import Derived.Test.YtnhdmghgjngcaaaGreatJ35
import Derived.Test.YtnhdmghgjngcaaaGreatLawSf
import Derived.Test.YtnhdmghgjngcaaaGreatJ44
set_option linter.unusedSimpArgs false
set_option linter.unusedVariables false
namespace Go.Proofs.YtnhdmghgjngcaaaGreat
open Go.RowKit

structure TurnOk (p:Pl):Prop where
 nds:∀ n∈p.nodes,bd20 n.pt
 vias:∀ a∈p.arcs,∀ q∈a.via,bd20 q
 ln:p.nodes.length≤1000
 la:p.arcs.length≤1000
 lv:∀ a∈p.arcs,a.via.length≤1000
theorem TurnOk.of {p:Pl} (hv:Valid p) (hf:fewS p 60=true):TurnOk p:=by
 have hr:=hv.rng
 unfold rangesS at hr
 rw [Bool.and_eq_true,List.all_eq_true] at hr
 have ok:∀ q,ptOk q=true→bd20 q:=fun q h=>by
  unfold ptOk at h
  simp only [Bool.and_eq_true,decide_eq_true_eq] at h
  unfold bd20
  omega
 have hl:=hv.lim_parts
 unfold fewS at hf
 have hf:=of_decide_eq_true hf
 refine ⟨fun n hn=>ok _ (hr.2 _ (List.mem_append_left _ (List.mem_map_of_mem hn))),fun a ha q hq=>ok _ (hr.2 _ (List.mem_append_right _ (List.mem_flatMap.2 ⟨a,ha,hq⟩))),by omega,by omega,fun a ha=>?_⟩
 have h1:=List.any_eq_false.1 hl.1 a ha
 simp only [decide_eq_true_eq] at h1
 omega
theorem TurnOk.thin {p q:Pl} (h:TurnOk p) (k:ThinOf p q):TurnOk q:=by
 refine ⟨by rw [k.nodes];exact h.nds,fun b hb x hx=>?_,by rw [k.nodes];exact h.ln,by rw [k.num];exact h.la,fun b hb=>?_⟩
 ·
  obtain ⟨a,ha,-,hs⟩:=k.mem hb
  exact h.vias a ha x (hs.subset hx)
 ·
  obtain ⟨a,ha,-,hs⟩:=k.mem hb
  have:=h.lv a ha
  have:=hs.length_le
  omega
set_option maxRecDepth 100000 in
set_option maxHeartbeats 4000000 in
theorem Turned34_spec (v:Value) (p:Pl) (w:World) (h:PlV w v p) (ht:TurnOk p):Calls Tryz.prog 16 #[v] w (RetPlan w (qP p)):=by
 have HM:=Lib.hid (fun W (hW:Below w.heap.size w W)=>show Calls Tryz.prog 29 #[v,.agg #[.int .i64 0,.int .i64 0],.bool true] W (RetPlan W (qP p)) from Mapped_spec v p ⟨0,0⟩ true W (h.mono hW) ht.nds ht.vias (by unfold bd22;simp) ht.ln ht.la ht.lv)
 obtain ⟨An,cn,Aa,ca,Af,cf,rfl⟩:=h.form
 generalize p.nodes.length=nn at *
 generalize p.arcs.length=na at *
 generalize p.faces.length=nf at *
 generalize qP p=q at *
 clear h ht
 go_enter Tryz.func16,Tryz.ntmps16
 go_upto_region 1 with fail
 obtain ⟨g1,hg1⟩:∃ g,w.heap.size=g:=⟨_,rfl⟩
 obtain ⟨g2,hg2⟩:∃ g,g1+1=g:=⟨_,rfl⟩
 obtain ⟨W1,hW⟩:∃ W:World,W=(w.alloc (.cells #[.slice An nn cn,.slice Aa na ca,.slice Af nf cf] 26)).alloc (.cells #[.slice none 0 0,.slice none 0 0,.slice none 0 0] 26):=⟨_,rfl⟩
 have X1:Blk W1 g1 26 #[.slice An nn cn,.slice Aa na ca,.slice Af nf cf]:=by rw [hW,← hg1];exact (Blk.made rfl _ _).alloc _
 have X2:Blk W1 g2 26 #[.slice none 0 0,.slice none 0 0,.slice none 0 0]:=by rw [hW,← hg2,← hg1];exact Blk.made (by simp) _ _
 have HB1:=Lib.hid (show Below w.heap.size w W1 by rw [hW];exact bA (bA (bR w) _) _)
 have hgg:w.heap.size≤g2:=by omega
 rw [← hW]
 try rw [hg1]
 try rw [hg2]
 have HX2:=Lib.hid X2
 clear hW hg1 hg2
 obtain ⟨X1l,X1a,X1b,X1c,-,-,-⟩:=X1.facts3
 go_wp2_with fail
 refine (HM.out _ HB1.out).mono ?_
 rintro e w3 ⟨v3,rfl,hb3,hp3⟩
 obtain ⟨A3,c3,D3,d3,E3,e3,rfl⟩:=hp3.form
 have HP3:=Lib.hid hp3;have HB3:=Lib.hid (bT HB1.out hb3);have HX3:=Lib.hid (HX2.out.keep hb3)
 generalize q.nodes.length=m1 at *
 generalize q.arcs.length=m2 at *
 generalize q.faces.length=m3 at *
 clear hb3 hp3 X1 X1l X1a X1b X1c X2 HX2 HB1
 have X2:=HX3.out
 obtain ⟨X2l,X2a,X2b,X2c,X2fa,X2fb,X2fc⟩:=X2.facts3
 go_wp2_with fail
 refine res_cell (t:=26) (g:=g2) (cs:=#[.slice A3 m1 c3,.slice D3 m2 d3,.slice E3 m3 e3]) rfl struct_pl rfl rfl (Blk.put3 HX3.out) ?_
 have h1:=HX3.out.set_ 0 (.slice A3 m1 c3)
 have h2:=h1.set_ 1 (.slice D3 m2 d3)
 have p1:=PlV.put HP3.out (Blk.sl3 HX3.out) (i:=0) (by omega) (.slice A3 m1 c3)
 have p2:=PlV.put p1 (Blk.sl3 h1) (i:=1) (by omega) (.slice D3 m2 d3)
 have p3:=PlV.put p2 (Blk.sl3 h2) (i:=2) (by omega) (.slice E3 m3 e3)
 exact ⟨_,rfl,bS (p:=⟨g2,2,none⟩) (bS (p:=⟨g2,1,none⟩) (bS (p:=⟨g2,0,none⟩) HB3.out hgg _) hgg _) hgg _,p3⟩

set_option maxRecDepth 100000 in
set_option maxHeartbeats 8000000 in
theorem SimplifyTurns_spec (v:Value) (p:Pl) (tol:Int) (w:World) (h:PlV w v p) (hw:∀ a∈p.arcs,wfI a.id) :
  Calls Tryz.prog 5 #[v,.int .i64 tol] w fun e w'=>e=.returned (.bool true)∧Below w.heap.size w w':=by
 have HAw:=Lib.hid awake34_spec
 have HFw:=Lib.hid (fun W (hW:Below w.heap.size w W)=>Few_spec v p 60 W (h.mono hW) (by omega))
 have HCk:=Lib.hid (fun W (hW:Below w.heap.size w W)=>RegCheck_spec v p W (h.mono hW))
 have HS1:=Lib.hid (fun hm hf W (hW:Below w.heap.size w W)=>Simplify34_spec v p tol W (h.mono hW) hm hf hw)
 have HT1:=Lib.hid (fun ht W (hW:Below w.heap.size w W)=>Turned34_spec v p W (h.mono hW) ht)
 obtain ⟨An,cn,Aa,ca,Af,cf,rfl⟩:=h.form
 have HWf:=Lib.hid hw
 clear h hw
 obtain ⟨nn,hnn⟩:∃ nn,p.nodes.length=nn:=⟨_,rfl⟩
 obtain ⟨na,hna⟩:∃ na,p.arcs.length=na:=⟨_,rfl⟩
 obtain ⟨nf,hnf⟩:∃ nf,p.faces.length=nf:=⟨_,rfl⟩
 rw [hnn,hna,hnf] at HS1 HFw HCk HT1 ⊢
 have HNf:=Lib.hid hnf
 obtain ⟨few,hfew⟩:∃ few,fewS p 60=few:=⟨_,rfl⟩
 rw [hfew] at HFw
 have HFew:=Lib.hid hfew
 clear hfew hnf hnn hna
 go_enter Tryz.func5,Tryz.ntmps5
 go_upto_region 1 with fail
 obtain ⟨g2,hg2⟩:∃ g,w.heap.size=g:=⟨_,rfl⟩
 obtain ⟨W1,hW⟩:∃ W:World,W=w.alloc (.cells #[.slice An nn cn,.slice Aa na ca,.slice Af nf cf] 26):=⟨_,rfl⟩
 have X2:Blk W1 g2 26 #[.slice An nn cn,.slice Aa na ca,.slice Af nf cf]:=by rw [hW,← hg2];exact Blk.made rfl _ _
 have HB1:=Lib.hid (show Below w.heap.size w W1 by rw [hW];exact bA (bR w) _)
 rw [← hW]
 try rw [hg2]
 clear hW hg2
 have HX2:=Lib.hid X2
 obtain ⟨X2l,X2a,X2b,X2c,-,-,-⟩:=X2.facts3
 go_wp2_with fail
 refine (HFw.out _ HB1.out).mono ?_
 rintro e w2 ⟨rfl,hb2⟩
 have HB2:=Lib.hid (bT HB1.out hb2);have HX22:=Lib.hid (HX2.out.keep hb2)
 clear hb2 X2 X2l X2a X2b X2c HX2 HB1 HFw
 cases few
 case false =>
  go_wp2_with fail
  refine (HAw.out _).mono ?_
  rintro e w3 ⟨rfl,hb3⟩
  have HB3:=Lib.hid (bT HB2.out hb3)
  clear hb3
  go_wp2_with fail
  go_ret
  exact ⟨rfl,HB3.out⟩
 have X2:=HX22.out
 try clear X2l
 try clear X2a
 try clear X2b
 try clear X2c
 obtain ⟨X2l,X2a,X2b,X2c,-,-,-⟩:=X2.facts3
 go_wp2_with fail
 refine (HCk.out _ HB2.out).mono ?_
 rintro e w3 ⟨rfl,hb3⟩
 have HB3:=Lib.hid (bT HB2.out hb3);have HX23:=Lib.hid (HX22.out.keep hb3)
 clear hb3 X2 X2l X2a X2b X2c HX22 HB2 HCk
 by_cases hz:rchkS p=0
 case neg =>
  generalize rchkS p=z at *
  have hzb:(z != 0)=true:=by simpa using hz
  clear hz
  go_wp2_with fail
  refine (HAw.out _).mono ?_
  rintro e w4 ⟨rfl,hb4⟩
  have HB4:=Lib.hid (bT HB3.out hb4)
  clear hb4
  go_wp2_with fail
  go_ret
  exact ⟨rfl,HB4.out⟩
 have hm:=Mod34.of_few HFew.out
 have hfc:p.faces.length≤1000000:=by
  have h:=HFew.out
  unfold fewS at h
  have h:=of_decide_eq_true h
  omega
 have hv:Valid p:=(rchk_ok hz).1
 have hto:=TurnOk.of hv HFew.out
 have hzq:=q_rchk hz
 have hsq:=q_simp p tol
 obtain ⟨q,hq⟩:∃ q,simpS p tol=q:=⟨_,rfl⟩
 have hth:=thin_simp p tol
 rw [hq] at hsq hth
 have htoq:=hto.thin hth
 have HTp:=Lib.hid (HT1.out hto)
 have HTq:=Lib.hid (fun u W (hu:PlV W u q)=>Turned34_spec u q W hu htoq)
 have HSp:=Lib.hid (show ∀ W,Below w.heap.size w W→Calls Tryz.prog 9 #[.agg #[.slice An nn cn,.slice Aa na ca,.slice Af nf cf],.int .i64 tol] W (RetSm W (q,0)) from fun W hW=>by
  have h9:=HS1.out hm.1 (by rw [← HNf.out];exact hfc) W hW
  unfold smR at h9
  rw [if_neg (by rw [hz];simp),hq] at h9
  exact h9)
 have hmq:Mod34 (qP p):=⟨by show (p.nodes.map _).length≤_;rw [List.length_map];exact hm.1.nds,by show (p.arcs.map _).length≤_;rw [List.length_map];exact hm.1.ars,fun b hb=>by
  obtain ⟨a,ha,rfl⟩:=List.mem_map.1 (show b∈p.arcs.map qA from hb)
  show (a.via.map _).length≤_
  rw [List.length_map];exact hm.1.via a ha⟩
 have hwq:∀ a∈(qP p).arcs,wfI a.id:=fun b hb=>by
  obtain ⟨a,ha,rfl⟩:=List.mem_map.1 (show b∈p.arcs.map qA from hb)
  exact HWf.out a ha
 have HSq:=Lib.hid (show ∀ u W,PlV W u (qP p)→Calls Tryz.prog 9 #[u,.int .i64 tol] W (RetSm W (qP q,0)) from fun u W hu=>by
  have h9:=Simplify34_spec u (qP p) tol W hu hmq (show p.faces.length≤1000000 from hfc) hwq
  unfold smR at h9
  rw [if_neg (by rw [hzq];simp),hsq] at h9
  exact h9)
 rw [hz]
 clear hm hfc hv hto hzq hsq hq hth htoq hmq hwq hz HS1 HT1 HWf HFew
 generalize qP p=P at *
 obtain ⟨Q,hQ⟩:∃ Q,qP q=Q:=⟨_,rfl⟩
 rw [hQ] at HSq HTq
 clear hQ
 have X2:=HX23.out
 try clear X2l
 try clear X2a
 try clear X2b
 try clear X2c
 obtain ⟨X2l,X2a,X2b,X2c,-,-,-⟩:=X2.facts3
 go_wp2_with fail
 refine (HTp.out _ HB3.out).mono ?_
 rintro e w4 ⟨v4,rfl,hb4,hp4⟩
 have HP4:=Lib.hid hp4;have HB4:=Lib.hid (bT HB3.out hb4);have HX24:=Lib.hid (HX23.out.keep hb4)
 clear hb4 hp4 X2 X2l X2a X2b X2c HX23 HB3 HTp
 go_wp2_with fail
 refine (HSq.out _ _ HP4.out).mono ?_
 rintro e w5 ⟨v5,rfl,hb5,hp5⟩
 obtain ⟨A5,c5,D5,d5,E5,e5,rfl⟩:=hp5.form
 have HP5:=Lib.hid hp5;have HB5:=Lib.hid (bT HB4.out hb5);have HX25:=Lib.hid (HX24.out.keep hb5)
 clear hb5 hp5 HX24 HB4 HSq HP4
 simp only at HP5 ⊢
 generalize Q.nodes.length=n1 at *
 generalize Q.arcs.length=n2 at *
 generalize Q.faces.length=n3 at *
 go_upto_region 4 with fail
 obtain ⟨g5,hg5⟩:∃ g,w5.heap.size=g:=⟨_,rfl⟩
 obtain ⟨W5,hW⟩:∃ W:World,W=w5.alloc (.cells #[.slice A5 n1 c5,.slice D5 n2 d5,.slice E5 n3 e5] 26):=⟨_,rfl⟩
 have hb:Below w5.heap.size w5 W5:=by rw [hW];exact bA (bR w5) _
 have HX5:=Lib.hid (show Blk W5 g5 26 #[.slice A5 n1 c5,.slice D5 n2 d5,.slice E5 n3 e5] by rw [hW,← hg5];exact Blk.made rfl _ _)
 have HQ:=Lib.hid (HP5.out.mono hb);have HC5:=Lib.hid (bT HB5.out hb);have HX3:=Lib.hid (HX25.out.keep hb)
 rw [hg5,← hW]
 clear hb hW HP5 HB5 HX25 hg5
 have X2:=HX3.out
 try clear X2l
 try clear X2a
 try clear X2b
 try clear X2c
 obtain ⟨X2l,X2a,X2b,X2c,-,-,-⟩:=X2.facts3
 go_wp2_with fail
 refine (HSp.out _ HC5.out).mono ?_
 rintro e w7 ⟨v7,rfl,hb7,hp7⟩
 obtain ⟨A7,c7,D7,d7,E7,e7,rfl⟩:=hp7.form
 have HP7:=Lib.hid hp7;have HB7:=Lib.hid (bT HC5.out hb7)
 have HY5:=Lib.hid (HX5.out.keep hb7);have HQ5:=Lib.hid (HQ.out.mono hb7)
 clear hb7 hp7 X2 X2l X2a X2b X2c HX3 HC5 HX5 HQ HSp
 simp only at HP7 ⊢
 generalize q.nodes.length=m1 at *
 generalize q.arcs.length=m2 at *
 generalize q.faces.length=m3 at *
 go_upto_region 5 with fail
 obtain ⟨g7,hg7⟩:∃ g,w7.heap.size=g:=⟨_,rfl⟩
 obtain ⟨W7,hW⟩:∃ W:World,W=w7.alloc (.cells #[.slice A7 m1 c7,.slice D7 m2 d7,.slice E7 m3 e7] 26):=⟨_,rfl⟩
 have hb:Below w7.heap.size w7 W7:=by rw [hW];exact bA (bR w7) _
 have HX7:=Lib.hid (show Blk W7 g7 26 #[.slice A7 m1 c7,.slice D7 m2 d7,.slice E7 m3 e7] by rw [hW,← hg7];exact Blk.made rfl _ _)
 have HP8:=Lib.hid (HP7.out.mono hb);have HY8:=Lib.hid (HY5.out.keep hb);have HQ8:=Lib.hid (HQ5.out.mono hb);have HC8:=Lib.hid (bT HB7.out hb)
 rw [hg7,← hW]
 clear hb hW HP7 HY5 HQ5 HB7 hg7
 have HTq2:=Lib.hid (fun W (hW:Below W7.heap.size W7 W)=>HTq.out _ W (HP8.out.mono hW))
 have HSa:=Lib.hid (fun u W (h1:Below W7.heap.size W7 W) (h2:PlV W u Q)=>RSame14_true _ u Q W (HQ8.out.mono h1) h2)
 have X5:=HY8.out;have X7:=HX7.out
 obtain ⟨X5l,X5a,X5b,X5c,-,-,-⟩:=X5.facts3
 obtain ⟨X7l,X7a,X7b,X7c,-,-,-⟩:=X7.facts3
 refine rg_start (Since W7) (.run 9 0 0 (.call 9 1023 (.call 10 2047 (.take 11 4095 (.take 12 8191 (.call 13 16383 (.take 14 32767 (.take 15 65535 (.done))))))))) (by kernel_rfl) (bD (bR _)) (by kernel_rfl) (by kernel_rfl) (Nat.le_of_ble_eq_true (by kernel_rfl)) ?_
 intro opsR QR Hops HQrg hS
 iterate 3
  apply rg_p;exact Hops;exact rfl;exact hS;exact rfl
  · intro _ hqc;go_simp;try rfl
  try simp only [pu]
 iterate 2
  apply rg_g;exact Hops;exact rfl;exact hS;iterate 4 exact rfl
  · intro _ hqc;go_simp;try rfl
  try simp only [pu]
 iterate 2
  apply rg_p;exact Hops;exact rfl;exact hS;exact rfl
  · intro _ hqc;go_simp;try rfl
  try simp only [pu]
 iterate 2
  apply rg_g;exact Hops;exact rfl;exact hS;iterate 4 exact rfl
  · intro _ hqc;go_simp;try rfl
  try simp only [pu]
 refine rg_call (i:=9) (get_of Hops rfl) (fun K hK=>?_)
 have HSrg:=Lib.hid hS;clear hS
 refine rg_run (wanted_yes rfl (get_of Hops rfl) rfl rfl) ?_
 go_simp
 refine (HTq2.out _ HSrg.out).mono ?_
 rintro e wr1 ⟨v9,rfl,hbr1,hp9⟩
 have hS:Since W7 wr1:=bT (w:=W7) HSrg.out hbr1
 clear HSrg
 refine hK.out _ _ hS (fun _=>?_)
 clear hK K
 try simp only [pu]
 refine rg_call (i:=10) (get_of Hops rfl) (fun K hK=>?_)
 have HSrg:=Lib.hid hS;clear hS
 refine rg_run (wanted_yes rfl (get_of Hops rfl) rfl rfl) ?_
 go_simp
 refine (HSa.out _ _ HSrg.out hp9).mono ?_
 rintro e wr2 ⟨rfl,hbr2⟩
 have hS:Since W7 wr2:=bT (w:=W7) HSrg.out hbr2
 clear HSrg
 refine hK.out _ _ hS (fun _=>?_)
 clear hK K
 try simp only [pu]
 iterate 2
  apply rg_p;exact Hops;exact rfl;exact hS;exact rfl
  · intro _ hqc;go_simp;try rfl
  try simp only [pu]
 refine rg_call (i:=13) (get_of Hops rfl) (fun K hK=>?_)
 have HSrg:=Lib.hid hS;clear hS
 refine rg_run (wanted_yes rfl (get_of Hops rfl) rfl rfl) ?_
 go_simp
 refine (HAw.out _).mono ?_
 rintro e wr3 ⟨rfl,hbr3⟩
 have hS:Since W7 wr3:=bT (w:=W7) HSrg.out hbr3
 clear HSrg
 refine hK.out _ _ hS (fun _=>?_)
 clear hK K
 try simp only [pu]
 iterate 2
  apply rg_p;exact Hops;exact rfl;exact hS;exact rfl
  · intro _ hqc;go_simp;try rfl
  try simp only [pu]
 refine rg_done ?_
 refine HQrg.down _ _ ?_
 have hB:Below W7.heap.size W7 wr3:=hS
 clear hS HQrg Hops
 have HB9:=Lib.hid (bT HC8.out hB)
 clear hB
 go_wp2_with fail
 go_ret
 exact ⟨ret_bool (by simp),HB9.out⟩
end Go.Proofs.YtnhdmghgjngcaaaGreat
