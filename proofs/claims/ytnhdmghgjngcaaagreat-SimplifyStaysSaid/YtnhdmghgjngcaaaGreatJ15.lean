import Derived.Test.YtnhdmghgjngcaaaGreatJ14
import Derived.Test.YtnhdmghgjngcaaaGreatJ08
import Derived.Test.YtnhdmghgjngcaaaGreatJ13
import Derived.Test.YtnhdmghgjngcaaaGreatJ04
set_option linter.unusedSimpArgs false
set_option linter.unusedVariables false
namespace Go.Proofs.YtnhdmghgjngcaaaGreat
open Go.RowKit

def SepV (u v:Value):Prop:=∀ g,u.ownBlock=some g→v.ownBlock≠some g

end Go.Proofs.YtnhdmghgjngcaaaGreat
namespace Go.Proofs.YtnhdmghgjngcaaaGreat
open Go.RowKit

structure AD where
 tw:Int
 out:List Int
 ov:SV
 inn:List (List Int×SV)
 iv:SV
 alo:List Int
 av:SV
def adC (x:AD):List Value:=[.int .i64 x.tw,svV x.ov,svV x.iv,svV x.av]
theorem adC_len (x:AD):(adC x).length=4:=rfl
theorem adC_one (x:AD):∀ u∈adC x,u.oneCell'=true:=by simp [adC,svV,Value.oneCell']
theorem elem_ad:Elem Tryz.prog 57 70 4 80:=Elem.mk_ (z:=.agg #[.int .i64 0,.slice none 0 0,.slice none 0 0,.slice none 0 0]) (by kernel_rfl) (by kernel_rfl) rfl (by omega)
structure AdT (e:TypeId) (w0 w:World) (B:Nat) (v:Value) (L:List AD):Prop where
 own:Own w B e 4 adC v L
 out:∀ x∈L,Ints w0 (svV x.ov) x.out
 inn:∀ x∈L,Own w B 24 1 cyC (svV x.iv) x.inn
 cyc:∀ x∈L,∀ c∈x.inn,Ints w0 (svV c.2) c.1
 alo:∀ x∈L,Own w B 3 1 inC (svV x.av) x.alo
 sepI:L.Pairwise (fun x y=>SepV (svV x.iv) (svV y.iv))
 sepA:L.Pairwise (fun x y=>SepV (svV x.av) (svV y.av))
theorem AdT.keep {e:TypeId} {w0 w w':World} {B:Nat} {v:Value} {L:List AD} (h:AdT e w0 w B v L) (hb:Below w.heap.size w w'):AdT e w0 w' B v L :=
 ⟨h.own.keep hb,h.out,fun x hx=>(h.inn x hx).keep hb,h.cyc,fun x hx=>(h.alo x hx).keep hb,h.sepI,h.sepA⟩
end Go.Proofs.YtnhdmghgjngcaaaGreat
namespace Go.Proofs.YtnhdmghgjngcaaaGreat
open Go.RowKit

theorem segX_succ (p:Pl) {X:List Int} {k:Nat} (hk:k<X.length):segX p (X.take (k+1))=segX p (X.take k)++segL (pthD p X[k]):=by
 unfold segX
 rw [List.take_succ_eq_append_getElem hk,List.flatMap_append]
 simp
theorem segL_succ {P:List Pt} {m:Nat} (hm:m+1<P.length):(segL P).take (m+1)=(segL P).take m++[(P.getD m pt0,P.getD (m+1) pt0)]:=by
 have h:m<(segL P).length:=by unfold segL;rw [List.length_map,List.length_range];omega
 rw [List.take_succ_eq_append_getElem h]
 simp [segL]

set_option maxRecDepth 100000 in
set_option maxHeartbeats 8000000 in
theorem SegsE_spec {σ:Type} (w:World) (gm:Nat) (p:Pl) (f:Int→SV) (hpm:PathsM w gm p f) (hv:Valid p) (vc:Value) (X:List Int) (hX:Ints w vc X) (hd:∀ d∈X,d∈dartsD p) (g1 g2 g3:Nat)
  (Inv:σ→World→Prop) (upd:σ→Pt×Pt→σ) (hI:∀ s W,Inv s W→Below w.heap.size w W) (hD:∀ s W,Inv s W→Inv s W.drew)
  (hst:∀ s W q,q∈segX p X→Inv s W→Calls Tryz.prog 128 #[ptV q.1,ptV q.2,.pointer (some ⟨g1,0,none⟩),.pointer (some ⟨g2,0,none⟩),.pointer (some ⟨g3,0,none⟩)] W fun e W'=>e=.returned (.tuple #[])∧Inv (upd s q) W'∧Below w.heap.size W W')
  (s:σ) (W:World) (h0:Inv s W) :
  Calls Tryz.prog 127 #[.map (some gm),vc,.func (.func 128) #[] #[.pointer (some ⟨g1,0,none⟩),.pointer (some ⟨g2,0,none⟩),.pointer (some ⟨g3,0,none⟩)]] W fun e W'=>e=.returned (.tuple #[])∧Inv ((segX p X).foldl upd s) W'∧Below w.heap.size W W':=by
 obtain ⟨Ac,cc,rfl,hc1,hc2,hRc⟩:=hX
 unfold maxLen at hc2
 have HRc:=Lib.hid hRc;have HPm:=Lib.hid hpm;have HI:=Lib.hid hI;have HSt:=Lib.hid hst;have HDr:=Lib.hid hD;have HDd:=Lib.hid hd;have HV:=Lib.hid hv
 have H0:=Lib.hid h0
 have HTk:=Lib.hid (fun k (hk:k<X.length)=>segX_succ p hk)
 obtain ⟨R,hR⟩:∃ R,(segX p X).foldl upd s=R:=⟨_,rfl⟩
 rw [hR]
 have HRr:=Lib.hid hR
 have HMem:=Lib.hid (fun k (hk:k<X.length) q (hq:q∈segL (pthD p X[k]))=>show q∈segX p X from List.mem_flatMap.2 ⟨_,List.getElem_mem hk,hq⟩)
 clear hRc hpm hI hst hD hd hv h0 hR
 go_enter Tryz.func127,Tryz.ntmps127
 go_wp2_with fail
 go_loopw [12] (fun i wr=>∃ k:Nat,k≤X.length∧i=.int .i64 k∧Inv ((segX p (X.take k)).foldl upd s) wr∧Below w.heap.size W wr) (fun i _=>X.length-(intOf i).toNat)
 case atStart => exact ⟨0,Nat.zero_le _,rfl,H0.out,Below.refl _ _⟩
 case round =>
  obtain ⟨k,hk,rfl,hinv,hbw⟩:=hrel
  obtain ⟨wo,rfl⟩:∃ wo:World,wo=wr:=⟨_,rfl⟩
  have HIn:=Lib.hid hinv;have HBw:=Lib.hid hbw
  have Hb:=Lib.hid (HI.out _ _ hinv)
  clear hinv hbw
  by_cases hlt:k<X.length
  ·
   obtain ⟨b,o,rfl,hlb,c0⟩:=(HRc.out.mono Hb.out).int hlt
   have hdd:=HDd.out _ (List.getElem_mem hlt)
   have htk:=HTk.out k hlt
   have hmem:=HMem.out k hlt
   generalize X[k]=d at *
   obtain ⟨a,ha,hor,hpt⟩:=HV.out.pth_dart hdd
   have hid:=HV.out.id_pos ha
   rw [hpt] at htk hmem
   obtain ⟨n,hmp⟩:=(HPm.out.keep Hb.out).mp
   have hlk:=hmp.look a.id (wfI_of (by omega) (by omega))
   have hpts:=HPm.out.rd a ha
   have hlen:2≤(pathS p a).length:=by have:=pathS_length p a;omega
   have HTk2:=Lib.hid htk
   have HMm:=Lib.hid hmem
   have k1:IntKind.i64.wrap (-d)=-d:=IntWalk.i64_in _ (by omega)
   have km:max d (-d)=a.id:=by omega
   have hvia:=HV.out.via_len ha
   have hpl:(pathS p a).length≤66:=by have:=pathS_length p a;omega
   generalize f a.id=x at *
   obtain ⟨Ap,np,cp⟩:=x
   unfold svV at hlk hpts
   obtain ⟨Ap',cp',he,hp1,hp2,hRp⟩:=hpts
   injection he with e1 e2 e3
   subst e1 e2 e3
   unfold maxLen at hp2
   have HRp:=Lib.hid hRp
   clear hmp hdd htk hmem hpt hor ha hRp hvia
   generalize a.id=ai at *
   generalize pathS p a=P at *
   clear hid
   obtain ⟨s1,hs1⟩:∃ s1,(segX p (X.take k)).foldl upd s=s1:=⟨_,rfl⟩
   rw [hs1] at HIn
   have HS1:=Lib.hid hs1
   clear hs1
   go_upto_block 2 with fail
   go_wp2_with fail
   go_loopw [9] (fun i wr=>∃ j:Nat,1≤j∧j≤P.length∧i=.int .i64 j∧Inv (((segL P).take (j-1)).foldl upd s1) wr∧Below w.heap.size wo wr) (fun i _=>P.length-(intOf i).toNat)
   case atStart => exact ⟨1,Nat.le_refl _,by omega,rfl,HIn.out,Below.refl _ _⟩
   case round =>
    obtain ⟨j,hj1,hj2,rfl,hinv,hbo⟩:=hrel
    have HIn2:=Lib.hid hinv;have HBo:=Lib.hid hbo
    have Hb2:=Lib.hid (HI.out _ _ hinv)
    clear hinv hbo
    by_cases hlj:j<P.length
    ·
     obtain ⟨m,rfl⟩:∃ m,j=m+1:=⟨j-1,by omega⟩
     have hmp:m<P.length:=by omega
     have hq:=HMm.out (P.getD m pt0,P.getD (m+1) pt0) (List.mem_map.2 ⟨m,List.mem_range.2 (by omega),rfl⟩)
     have htk:=segL_succ hlj
     have hst:=HSt.out _ wr.drew _ hq (HDr.out _ _ HIn2.out)
     rw [show m+1-1=m by omega] at hst
     have ea:P.getD m pt0=P[m]:=by simp only [List.getD_eq_getElem?_getD,List.getElem?_eq_getElem hmp,Option.getD_some]
     have eb:P.getD (m+1) pt0=P[m+1]:=by simp only [List.getD_eq_getElem?_getD,List.getElem?_eq_getElem hlj,Option.getD_some]
     rw [ea,eb] at hst htk
     obtain ⟨bp,op,hAp,hlp,e10,e11⟩:=(HRp.out).pt hmp
     obtain ⟨bp',op',hAp',-,e20,e21⟩:=(HRp.out).pt hlj
     rw [hAp] at hAp'
     injection hAp' with hAp'
     injection hAp' with x1 x2 _
     subst x1 x2
     replace e10:=keepc Hb2.out e10
     replace e11:=keepc Hb2.out e11
     replace e20:=keepc Hb2.out e20
     replace e21:=keepc Hb2.out e21
     have HTl:=Lib.hid htk
     generalize P[m]=pa at *
     generalize P[m+1]=pb at *
     unfold ptV at hst
     simp only at hst
     have HC:=Lib.hid hst
     clear hst htk ea eb hq
     subst hAp
     have k2:IntKind.i64.wrap ((m:Int)+1-1)=m:=by rw [show (m:Int)+1-1=m by omega];exact IntWalk.i64_in _ (by omega)
     have k3:(m:Int)<P.length:=by omega
     have k8:IntKind.i64.wrap (m:Int)=m:=IntWalk.i64_in _ (by omega)
     have k4:0≤(m:Int):=by omega
     have k5:(m:Int)+1-1=m:=by omega
     have k6:(m:Int)+1<P.length:=by omega
     have k7:0≤(m:Int)+1:=by omega
     rw [show (((m+1:Nat)):Int)=(m:Int)+1 from by omega]
     go_upto_region 7 with fail
     refine rg_start (SinceB (w.heap.size) wr) (.run 10 0 0 (.call 10 2047 (.done))) (by kernel_rfl) (Below.drew (Below.refl _ _)) (by kernel_rfl) (by kernel_rfl) (Nat.le_of_ble_eq_true (by kernel_rfl)) ?_
     intro opsR QR Hops HQrg hS
     iterate 10
      apply rg_pB;exact Hops;exact rfl;exact hS;exact rfl
      · intro _ hqc;go_simp;try rfl
      try simp only [pu]
     refine rg_call (i:=10) (get_of Hops rfl) (fun K hK=>?_)
     have HSrg:=Lib.hid hS;clear hS
     refine rg_run (wanted_plain rfl) ?_
     go_simp
     refine HC.out.mono ?_
     rintro e w4 ⟨rfl,hin4,hb4⟩
     have hS:SinceB w.heap.size wr w4:=Below.trans HSrg.out hb4
     have HIn4:=Lib.hid hin4
     clear hb4 hin4
     clear HSrg
     refine hK.out _ _ hS (fun _=>?_)
     clear hK K
     try simp only [pu]
     refine rg_done ?_
     refine HQrg.down _ _ ?_
     have hB:Below (w.heap.size) wr _:=hS
     clear hS HQrg Hops
     have HBo2:=Lib.hid (Below.trans HBo.out hB)
     clear hB e10 e11 e20 e21 hlp
     go_wp2_with fail
     go_roundw
     case rel => exact ⟨m+1+1,by omega,by omega,by go_num,by rw [show m+1+1-1=m+1 by omega,HTl.out,List.foldl_append];exact HIn4.out,HBo2.out⟩
     case measure => simp [intOf];omega
    ·
     obtain rfl:j=P.length:=by omega
     have hlS:(segL P).length=P.length-1:=by unfold segL;rw [List.length_map,List.length_range]
     have hfin:=HIn2.out
     rw [List.take_of_length_le (by omega),← HS1.out,← List.foldl_append,← HTk2.out] at hfin
     have HF:=Lib.hid hfin
     clear hfin hlS
     go_wp2_with fail
     go_roundw
     case rel => exact ⟨k+1,by omega,by go_num,HF.out,Below.trans HBw.out HBo.out⟩
     case measure => simp [intOf];omega
  ·
   obtain rfl:k=X.length:=by omega
   have hfin:=HIn.out
   rw [List.take_length,HRr.out] at hfin
   have HF:=Lib.hid hfin
   clear hfin
   go_wp2_with fail
   exact bodyPost_end (v:=.tuple #[]) (results_none rfl _ _ _) rfl ⟨rfl,HF.out,HBw.out⟩

end Go.Proofs.YtnhdmghgjngcaaaGreat
