import Derived.Test.YtnhdmghgjngcaaaGreatJ30
import Derived.Test.YtnhdmghgjngcaaaGreatJ32
import Derived.Test.YtnhdmghgjngcaaaGreatLawSf
import Derived.Test.YtnhdmghgjngcaaaGreatJ39
import Derived.Test.YtnhdmghgjngcaaaGreatSamI
import Derived.Test.YtnhdmghgjngcaaaGreatJ29
set_option linter.unusedSimpArgs false
set_option linter.unusedVariables false
namespace Go.Proofs.YtnhdmghgjngcaaaGreat
open Go.RowKit

theorem SameR.rgs {p q:Pl} (h:SameR p q):rgsO q (sortK (outX q))=rgsO p (sortK (outX p)):=by
 have hf:∀ b,faceX q b=faceX p b:=fun b=>by
  cases b with
  | none=>rfl
  | some X=>exact h.side _
 have hr:∀ b,rgX q b=rgX p b:=fun b=>by unfold rgX;rw [hf,h.inn,h.alo]
 have hg:rgsF q=rgsF p:=by
  funext O f
  unfold rgsF
  simp only [hf,hr]
 unfold rgsO
 rw [hr,h.out,h.thin.faces,hg]
theorem same_area {L M:List AD} (h:M.map adG=L.map adG):M.length=L.length∧∀ k (h1:k<L.length) (h2:k<M.length),M[k].tw=L[k].tw∧M[k].alo=L[k].alo:=by
 have hl:M.length=L.length:=by have:=congrArg List.length h;simpa using this
 refine ⟨hl,fun k h1 h2=>?_⟩
 have e1:(L.map adG)[k]'(by simpa using h1)=adG L[k]:=by rw [List.getElem_map]
 have e2:(M.map adG)[k]'(by simpa using h2)=adG M[k]:=by rw [List.getElem_map]
 have e:adG M[k]=adG L[k]:=by
  rw [← e1,← e2]
  congr 1
 unfold adG at e
 injection e with q1 q2 q3 q4
 exact ⟨q1,q4⟩

set_option maxRecDepth 100000 in
set_option maxHeartbeats 8000000 in
theorem SimplifyStays_spec (v:Value) (p:Pl) (tol:Int) (w:World) (h:PlV w v p) (hw:∀ a∈p.arcs,wfI a.id) :
  Calls Tryz.prog 6 #[v,.int .i64 tol] w fun e w'=>e=.returned (.bool true)∧Below w.heap.size w w':=by
 have HAw:=Lib.hid awake34_spec
 have HFw:=Lib.hid (fun W (hW:Below w.heap.size w W)=>Few_spec v p 60 W (h.mono hW) (by omega))
 have HS1:=Lib.hid (fun hm hf W (hW:Below w.heap.size w W)=>Simplify34_spec v p tol W (h.mono hW) hm hf hw)
 have HRp:=Lib.hid (fun hz W (hW:Below w.heap.size w W)=>Regions_spec v p W (h.mono hW) hz)
 obtain ⟨An,cn,Aa,ca,Af,cf,rfl⟩:=h.form
 clear h hw
 obtain ⟨nn,hnn⟩:∃ nn,p.nodes.length=nn:=⟨_,rfl⟩
 obtain ⟨na,hna⟩:∃ na,p.arcs.length=na:=⟨_,rfl⟩
 obtain ⟨nf,hnf⟩:∃ nf,p.faces.length=nf:=⟨_,rfl⟩
 rw [hnn,hna,hnf] at HS1 HFw HRp ⊢
 have HNf:=Lib.hid hnf
 obtain ⟨few,hfew⟩:∃ few,fewS p 60=few:=⟨_,rfl⟩
 rw [hfew] at HFw
 have HFew:=Lib.hid hfew
 clear hfew hnf hnn hna
 go_enter Tryz.func6,Tryz.ntmps6
 go_upto_region 1 with fail
 obtain ⟨g2,hg2⟩:∃ g,w.heap.size=g:=⟨_,rfl⟩
 obtain ⟨W1,hW⟩:∃ W:World,W=w.alloc (.cells #[.slice An nn cn,.slice Aa na ca,.slice Af nf cf] 26):=⟨_,rfl⟩
 have X2:Blk W1 g2 26 #[.slice An nn cn,.slice Aa na ca,.slice Af nf cf]:=by rw [hW,← hg2];exact Blk.made rfl _ _
 have HB1:=Lib.hid (show Below w.heap.size w W1 by rw [hW];exact bA (bR w) _)
 rw [← hW]
 try rw [hg2]
 clear hW hg2
 have HX2:=Lib.hid X2
 obtain ⟨X2l,X2a,X2b,X2c,-,-,-⟩:=X2.facts3
 go_wp2_with fail
 refine (HFw.out _ HB1.out).mono ?_
 rintro e w2 ⟨rfl,hb2⟩
 have HB2:=Lib.hid (bT HB1.out hb2);have HX22:=Lib.hid (HX2.out.keep hb2)
 clear hb2 X2 X2l X2a X2b X2c HX2 HB1 HFw
 cases few
 case false =>
  go_wp2_with fail
  refine (HAw.out _).mono ?_
  rintro e w3 ⟨rfl,hb3⟩
  have HB3:=Lib.hid (bT HB2.out hb3)
  clear hb3
  go_wp2_with fail
  go_ret
  exact ⟨rfl,HB3.out⟩
 have hm:=Mod34.of_few HFew.out
 have hfc:p.faces.length≤1000000:=by
  have h:=HFew.out
  unfold fewS at h
  have h:=of_decide_eq_true h
  omega
 by_cases hz:rchkS p=0
 case neg =>
  have HG1:=Lib.hid (show ∀ W,Below w.heap.size w W→Calls Tryz.prog 9 #[.agg #[.slice An nn cn,.slice Aa na ca,.slice Af nf cf],.int .i64 tol] W (RetSm W (pl0,rchkS p)) from fun W hW=>by
   have h9:=HS1.out hm.1 (by rw [← HNf.out];exact hfc) W hW
   unfold smR at h9
   rw [if_pos hz] at h9
   exact h9)
  generalize rchkS p=z at *
  have hzb:(z != 0)=true:=by simpa using hz
  clear HS1 hm hfc hz
  have X2:=HX22.out
  try clear X2l
  try clear X2a
  try clear X2b
  try clear X2c
  obtain ⟨X2l,X2a,X2b,X2c,-,-,-⟩:=X2.facts3
  go_wp2_with fail
  refine (HG1.out _ HB2.out).mono ?_
  rintro e w5 ⟨v5,rfl,hb5,hp5⟩
  obtain ⟨A5,c5,D5,d5,E5,e5,rfl⟩:=hp5.form
  have HB5:=Lib.hid (bT HB2.out hb5)
  clear hb5 hp5 X2 X2l X2a X2b X2c HX22 HB2
  go_wp2_with fail
  refine (HAw.out _).mono ?_
  rintro e w7 ⟨rfl,hb7⟩
  have HB7:=Lib.hid (bT (bA HB5.out _) hb7)
  clear hb7
  go_wp2_with fail
  go_ret
  exact ⟨rfl,HB7.out⟩
 obtain ⟨q,hq⟩:∃ q,simpS p tol=q:=⟨_,rfl⟩
 have hsame:=same_simp hz tol
 rw [hq] at hsame
 have hrg:=hsame.rgs
 have hokq:=hsame.ok
 have HG1:=Lib.hid (show ∀ W,Below w.heap.size w W→Calls Tryz.prog 9 #[.agg #[.slice An nn cn,.slice Aa na ca,.slice Af nf cf],.int .i64 tol] W (RetSm W (q,0)) from fun W hW=>by
  have h9:=HS1.out hm.1 (by rw [← HNf.out];exact hfc) W hW
  unfold smR at h9
  rw [if_neg (by rw [hz];simp),hq] at h9
  exact h9)
 have HR1:=Lib.hid (HRp.out hz)
 have HR2:=Lib.hid (fun u W (hu:PlV W u q)=>Regions_spec u q W hu hokq)
 unfold RetRgs at HR1 HR2
 rw [hrg] at HR2
 generalize rgsO p (sortK (outX p))=R at *
 clear hsame hrg hokq hq hm hfc hz HS1 HFew HRp
 have X2:=HX22.out
 try clear X2l
 try clear X2a
 try clear X2b
 try clear X2c
 obtain ⟨X2l,X2a,X2b,X2c,-,-,-⟩:=X2.facts3
 go_wp2_with fail
 refine (HG1.out _ HB2.out).mono ?_
 rintro e w5 ⟨v5,rfl,hb5,hp5⟩
 obtain ⟨A5,c5,D5,d5,E5,e5,rfl⟩:=hp5.form
 have HP5:=Lib.hid hp5;have HB5:=Lib.hid (bT HB2.out hb5);have HX25:=Lib.hid (HX22.out.keep hb5)
 clear hb5 hp5 X2 X2l X2a X2b X2c HX22 HB2
 simp only at HP5 ⊢
 generalize q.nodes.length=n1 at *
 generalize q.arcs.length=n2 at *
 generalize q.faces.length=n3 at *
 go_upto_region 4 with fail
 obtain ⟨g5,hg5⟩:∃ g,w5.heap.size=g:=⟨_,rfl⟩
 obtain ⟨W5,hW⟩:∃ W:World,W=w5.alloc (.cells #[.slice A5 n1 c5,.slice D5 n2 d5,.slice E5 n3 e5] 26):=⟨_,rfl⟩
 have hb:Below w5.heap.size w5 W5:=by rw [hW];exact bA (bR w5) _
 have HX5:=Lib.hid (show Blk W5 g5 26 #[.slice A5 n1 c5,.slice D5 n2 d5,.slice E5 n3 e5] by rw [hW,← hg5];exact Blk.made rfl _ _)
 have HQ:=Lib.hid (HP5.out.mono hb);have HC5:=Lib.hid (bT HB5.out hb);have HX3:=Lib.hid (HX25.out.keep hb)
 rw [hg5,← hW]
 clear hb hW HP5 HB5 HX25 hg5
 have X2:=HX3.out
 try clear X2l
 try clear X2a
 try clear X2b
 try clear X2c
 obtain ⟨X2l,X2a,X2b,X2c,-,-,-⟩:=X2.facts3
 go_wp2_with fail
 refine (HR1.out _ HC5.out).mono ?_
 rintro e w6 ⟨Ar1,cr1,L,rfl,hb6,hf6,hm6⟩
 have HC6:=Lib.hid (bT HC5.out hb6);have HX56:=Lib.hid (HX5.out.keep hb6);have HQ6:=Lib.hid (HQ.out.mono hb6);have HF6:=Lib.hid hf6
 clear hb6 hf6 X2 X2l X2a X2b X2c HX3 HX5 HC5 HQ HR1
 have X5:=HX56.out
 obtain ⟨X5l,X5a,X5b,X5c,-,-,-⟩:=X5.facts3
 go_wp2_with fail
 refine (HR2.out _ _ HQ6.out).mono ?_
 rintro e w7 ⟨Ar2,cr2,M,rfl,hb7,hf7,hm7⟩
 obtain ⟨hml,hmk⟩:=same_area (hm7.trans hm6.symm)
 have HC7:=Lib.hid (bT HC6.out hb7);have HF7:=Lib.hid (HF6.out.mono hb7);have HG7:=Lib.hid hf7;have HMk:=Lib.hid hmk;have HMl:=Lib.hid hml
 clear hb7 hf7 X5 X5l X5a X5b X5c HC6 HF6 HX56 HQ6 hm6 hm7 hmk HR2
 rw [hml]
 clear hml
 obtain ⟨_,_,he1,hs1,hs2,hRL⟩:=HF7.out.sl
 injection he1 with e1 _ e3
 subst e1 e3
 obtain ⟨_,_,he1,-,-,hRM⟩:=HG7.out.sl
 injection he1 with e1 _ e3
 subst e1 e3
 unfold maxLen at hs2
 have HRL:=Lib.hid hRL;have HRM:=Lib.hid hRM
 have hll:((L.length:Int) != L.length)=false:=by simp
 have hlb:L.length≤9223372036854775807:=by omega
 clear hRL hRM hs1 hs2
 go_wp2_with fail
 go_loopw [11] (fun u wr=>∃ k:Nat,k≤L.length∧u=.int .i64 k∧Below w7.heap.size w7 wr) (fun u _=>L.length-(intOf u).toNat)
 case atStart => exact ⟨0,Nat.zero_le _,rfl,bR w7⟩
 case round =>
  obtain ⟨k,hk,rfl,hb⟩:=hrel
  obtain ⟨wo,rfl⟩:∃ wo:World,wo=wr:=⟨_,rfl⟩
  have Hb:=Lib.hid hb
  clear hb
  by_cases hlt:k<L.length
  ·
   have hlt':k<M.length:=by rw [HMl.out];exact hlt
   obtain ⟨b,o,rfl,hlb1,c0,c1,c2,c3⟩:=(HRL.out.mono Hb.out).ad hlt
   obtain ⟨b',o',rfl,hlb1',d0,d1,d2,d3⟩:=(HRM.out.mono Hb.out).ad hlt'
   obtain ⟨i1,i2⟩:=HMk.out k hlt hlt'
   have ha1:=HF7.out.alo _ (List.getElem_mem hlt)
   have ha2:=HG7.out.alo _ (List.getElem_mem hlt')
   rw [i1] at d0
   rw [i2] at ha2
   generalize L[k]=x at *
   generalize M[k]=y at *
   have HSi:=Lib.hid (fun W (hW:Below w7.heap.size w7 W)=>show Calls Tryz.prog 12 #[svV x.av,svV y.av] W fun e w'=>e=.returned (.bool true)∧Below W.heap.size W w' from by
    have h9:=SameInts_spec _ _ x.alo x.alo W (ha1.mono hW) (ha2.mono hW)
    rw [decide_eq_true rfl] at h9
    exact h9)
   obtain ⟨tw,out,⟨oa,on,oc⟩,inn,⟨ia,in_,ic⟩,alo,⟨aa,an,ac⟩⟩:=x
   obtain ⟨tw',out',⟨oa',on',oc'⟩,inn',⟨ia',in_',ic'⟩,alo',⟨aa',an',ac'⟩⟩:=y
   unfold svV at c1 c2 c3 d1 d2 d3 HSi
   simp only at c0 c1 c2 c3 d0 d1 d2 d3 HSi
   have htt:(tw != tw)=false:=by simp
   have k1:(k:Int)<L.length:=by omega
   have k2:0≤(k:Int):=by omega
   clear ha1 ha2 i1 i2 hlt'
   go_upto_region 13 with fail
   refine rg_start (Since wo) (.run 22 0 0 (.call 22 8388607 (.take 23 16777215 (.take 24 33554431 (.done))))) (by kernel_rfl) (bD (bR _)) (by kernel_rfl) (by kernel_rfl) (Nat.le_of_ble_eq_true (by kernel_rfl)) ?_
   intro opsR QR Hops HQrg hS
   iterate 12
    apply rg_p;exact Hops;exact rfl;exact hS;exact rfl
    · intro _ hqc;go_simp;try rfl
    try simp only [pu]
   iterate 10
    apply rg_g;exact Hops;exact rfl;exact hS;iterate 4 exact rfl
    · intro _ hqc;go_simp;try rfl
    try simp only [pu]
   refine rg_call (i:=22) (get_of Hops rfl) (fun K hK=>?_)
   have HSrg:=Lib.hid hS;clear hS
   refine rg_run (wanted_yes rfl (get_of Hops rfl) rfl rfl) ?_
   go_simp
   refine (HSi.out _ (bT Hb.out HSrg.out)).mono ?_
   rintro e wr1 ⟨rfl,hbr1⟩
   have hS:Since wo wr1:=bT (w:=wo) HSrg.out hbr1
   clear HSrg
   refine hK.out _ _ hS (fun _=>?_)
   clear hK K
   try simp only [pu]
   apply rg_g;exact Hops;exact rfl;exact hS;iterate 4 exact rfl
   · intro _ hqc;go_simp;try rfl
   try simp only [pu]
   apply rg_p;exact Hops;exact rfl;exact hS;exact rfl
   · intro _ hqc;go_simp;try rfl
   try simp only [pu]
   refine rg_done ?_
   refine HQrg.down _ _ ?_
   have hB:Below wo.heap.size wo wr1:=hS
   clear hS HQrg Hops
   have HB4:=Lib.hid (bT Hb.out hB)
   clear hB c0 c1 c2 c3 d0 d1 d2 d3
   go_wp2_with fail
   go_roundw
   case rel => exact ⟨k+1,by omega,by go_num,HB4.out⟩
   case measure => simp [intOf];omega
  ·
   have k1:¬ (k:Int)<L.length:=by omega
   clear hlt
   go_wp2_with fail
   refine (HAw.out _).mono ?_
   rintro e w9 ⟨rfl,hb9⟩
   have HB9:=Lib.hid (bT (bT HC7.out Hb.out) hb9)
   clear hb9
   go_wp2_with fail
   go_ret
   exact ⟨rfl,HB9.out⟩
end Go.Proofs.YtnhdmghgjngcaaaGreat
