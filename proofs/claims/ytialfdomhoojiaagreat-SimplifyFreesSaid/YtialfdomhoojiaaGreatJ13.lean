import Derived.Test.YtialfdomhoojiaaGreatJ12
import Derived.Test.YtialfdomhoojiaaGreatJ08
import Derived.Test.YtialfdomhoojiaaGreatJ11
import Derived.Test.YtialfdomhoojiaaGreatJ04
set_option linter.unusedSimpArgs false
set_option linter.unusedVariables false
namespace Go.Proofs.YtialfdomhoojiaaGreat
open Go.RowKit
def jv (u v:Value):Prop:=∀ g,u.ownBlock=some g->v.ownBlock≠some g
structure AD where
 tw:Int
 out:List Int
 ov:SV
 inn:List (List Int×SV)
 iv:SV
 dM:List Int
 av:SV
def qQ (x:AD):List Value:=[.int .i64 x.tw,aP x.ov,aP x.iv,aP x.av]
theorem KG (x:AD):(qQ x).length=4:=rfl
theorem afz (x:AD):∀ u∈qQ x,u.oneCell'=true:=by simp [qQ,aP,Value.oneCell']
theorem afA:Elem Tryz.prog 76 82 4 80:=Elem.rH (z:=.agg #[.int .i64 0,.slice none 0 0,.slice none 0 0,.slice none 0 0]) (by kernel_rfl) (by kernel_rfl) rfl (by omega)
structure iJ (e:TypeId) (w0 w:World) (B:Nat) (v:Value) (L:List AD):Prop where
 own:Own w B e 4 qQ v L
 out:∀ x∈L,Ints w0 (aP x.ov) x.out
 inn:∀ x∈L,Own w B 24 1 kL (aP x.iv) x.inn
 jA:∀ x∈L,∀ c∈x.inn,Ints w0 (aP c.2) c.1
 dM:∀ x∈L,Own w B 3 1 dX (aP x.av) x.dM
 BM:L.Pairwise (fun x y=>jv (aP x.iv) (aP y.iv))
 BN:L.Pairwise (fun x y=>jv (aP x.av) (aP y.av))
theorem iJ.keep {e:TypeId} {w0 w w':World} {B:Nat} {v:Value} {L:List AD} (h:iJ e w0 w B v L) (hb:Below w.heap.size w w'):iJ e w0 w' B v L :=
 ⟨h.own.keep hb,h.out,fun x hx=>(h.inn x hx).keep hb,h.jA,fun x hx=>(h.dM x hx).keep hb,h.BM,h.BN⟩
theorem afB (p:Pl) {X:List Int} {k:Nat} (hk:k<X.length):qL p (X.take (k+1))=qL p (X.take k)++uD (Eo p X[k]):=by
 unfold qL;rw [List.take_succ_eq_append_getElem hk,List.flatMap_append];simp
theorem afC {P:List Pt} {m:Nat} (hm:m+1<P.length):(uD P).take (m+1)=(uD P).take m++[(P.getD m aQ,P.getD (m+1) aQ)]:=by
 have h:m<(uD P).length:=by unfold uD;rw [List.length_map,List.length_range];omega
 rw [List.take_succ_eq_append_getElem h];simp [uD]
set_option maxRecDepth 100000 in
set_option maxHeartbeats 8000000 in
theorem afD {σ:Type} (w:World) (gm:Nat) (p:Pl) (f:Int->SV) (hpm:uF w gm p f) (hv:Valid p) (vc:Value) (X:List Int) (hX:Ints w vc X) (hd:∀ d∈X,d∈dS p) (g1 g2 g3:Nat)
  (Inv:σ->World->Prop) (upd:σ->Pt×Pt->σ) (hI:∀ s W,Inv s W->Below w.heap.size w W) (hD:∀ s W,Inv s W->Inv s W.drew)
  (hst:∀ s W q,q∈qL p X->Inv s W->Calls Tryz.prog 199 #[aF q.1,aF q.2,.pointer (some ⟨g1,0,none⟩),.pointer (some ⟨g2,0,none⟩),.pointer (some ⟨g3,0,none⟩)] W fun e W'=>e=.returned (.tuple #[])/\Inv (upd s q) W'/\Below w.heap.size W W')
  (s:σ) (W:World) (h0:Inv s W) :
  Calls Tryz.prog 79 #[.map (some gm),vc,.func (.func 199) #[] #[.pointer (some ⟨g1,0,none⟩),.pointer (some ⟨g2,0,none⟩),.pointer (some ⟨g3,0,none⟩)]] W fun e W'=>e=.returned (.tuple #[])/\Inv ((qL p X).foldl upd s) W'/\Below w.heap.size W W':=by
 obtain ⟨Ac,cc,rfl,hc1,hc2,G8⟩:=hX;unfold maxLen at hc2;have KH:=Lib.hid G8;have sH:=Lib.hid hpm;have HI:=Lib.hid hI;have iG:=Lib.hid hst;have HDr:=Lib.hid hD;have HDd:=Lib.hid hd;have HV:=Lib.hid hv;have H0:=Lib.hid h0;have mQ:=Lib.hid (fun k (hk:k<X.length)=>afB p hk);obtain ⟨R,hR⟩:∃ R,(qL p X).foldl upd s=R:=⟨_,rfl⟩;rw [hR];have dL:=Lib.hid hR;have PK:=Lib.hid (fun k (hk:k<X.length) q (hq:q∈uD (Eo p X[k]))=>show q∈qL p X from List.mem_flatMap.2 ⟨_,List.getElem_mem hk,hq⟩);clear G8 hpm hI hst hD hd hv h0 hR;go_enter Tryz.func79,Tryz.ntmps79;go_wp2_with fail;go_loopw [12] (fun i wr=>∃ k:Nat,k<=X.length/\i=.int .i64 k/\Inv ((qL p (X.take k)).foldl upd s) wr/\Below w.heap.size W wr) (fun i _=>X.length-(intOf i).toNat)
 case atStart => exact ⟨0,Nat.zero_le _,rfl,H0.out,Below.refl _ _⟩
 case round =>
  obtain ⟨k,hk,rfl,hinv,hbw⟩:=hrel;obtain ⟨wo,rfl⟩:∃ wo:World,wo=wr:=⟨_,rfl⟩;have zB:=Lib.hid hinv;have kX:=Lib.hid hbw;have Hb:=Lib.hid (HI.out _ _ hinv);clear hinv hbw;by_cases hlt:k<X.length
  ·obtain ⟨b,o,rfl,hlb,c0⟩:=(KH.out.mono Hb.out).int hlt;have hdd:=HDd.out _ (List.getElem_mem hlt);have htk:=mQ.out k hlt;have hmem:=PK.out k hlt;generalize X[k]=d at *;obtain ⟨a,ha,hor,hpt⟩:=HV.out.Pz hdd;have hid:=HV.out.oC ha;rw [hpt] at htk hmem;obtain ⟨n,hmp⟩:=(sH.out.keep Hb.out).mp;have hlk:=hmp.look a.id (nR (by omega) (by omega));have EG:=sH.out.rd a ha;have hlen:2<=(aK p a).length:=by have:=jQ p a;omega
   have afE:=Lib.hid htk;have HMm:=Lib.hid hmem;have k1:IntKind.i64.wrap (-d)=-d:=IntWalk.i64_in _ (by omega);have km:max d (-d)=a.id:=by omega
   have Ee:=HV.out.Em ha;have hpl:(aK p a).length<=66:=by have:=jQ p a;omega
   generalize f a.id=x at *;obtain ⟨Ap,np,cp⟩:=x;unfold aP at hlk EG;obtain ⟨YH,cp',he,hp1,hp2,oI⟩:=EG;injection he with e1 e2 e3;subst e1 e2 e3;unfold maxLen at hp2;have YI:=Lib.hid oI;clear hmp hdd htk hmem hpt hor ha oI Ee;generalize a.id=ai at *;generalize aK p a=P at *;clear hid;obtain ⟨s1,hs1⟩:∃ s1,(qL p (X.take k)).foldl upd s=s1:=⟨_,rfl⟩;rw [hs1] at zB;have oJ:=Lib.hid hs1;clear hs1;go_upto_block 2 with fail;go_wp2_with fail;go_loopw [9] (fun i wr=>∃ j:Nat,1<=j/\j<=P.length/\i=.int .i64 j/\Inv (((uD P).take (j-1)).foldl upd s1) wr/\Below w.heap.size wo wr) (fun i _=>P.length-(intOf i).toNat)
   case atStart => exact ⟨1,Nat.le_refl _,by omega,rfl,zB.out,Below.refl _ _⟩
   case round =>
    obtain ⟨j,hj1,hj2,rfl,hinv,rY⟩:=hrel;have YJ:=Lib.hid hinv;have jl:=Lib.hid rY;have Hb2:=Lib.hid (HI.out _ _ hinv);clear hinv rY;by_cases hlj:j<P.length
    ·obtain ⟨m,rfl⟩:∃ m,j=m+1:=⟨j-1,by omega⟩;have hmp:m<P.length:=by omega
     have hq:=HMm.out (P.getD m aQ,P.getD (m+1) aQ) (List.mem_map.2 ⟨m,List.mem_range.2 (by omega),rfl⟩);have htk:=afC hlj;have hst:=iG.out _ wr.drew _ hq (HDr.out _ _ YJ.out);rw [show m+1-1=m by omega] at hst;have ea:P.getD m aQ=P[m]:=by simp only [List.getD_eq_getElem?_getD,List.getElem?_eq_getElem hmp,Option.getD_some]
     have eb:P.getD (m+1) aQ=P[m+1]:=by simp only [List.getD_eq_getElem?_getD,List.getElem?_eq_getElem hlj,Option.getD_some]
     rw [ea,eb] at hst htk;obtain ⟨bp,op,o9,hlp,e10,e11⟩:=(YI.out).pt hmp;obtain ⟨bp',op',KI,-,e20,e21⟩:=(YI.out).pt hlj;rw [o9] at KI;injection KI with KI;injection KI with x1 x2 _;subst x1 x2;replace e10:=pX Hb2.out e10;replace e11:=pX Hb2.out e11;replace e20:=pX Hb2.out e20;replace e21:=pX Hb2.out e21;have Gw:=Lib.hid htk;generalize P[m]=pa at *;generalize P[m+1]=pb at *;unfold aF at hst;simp only at hst;have HC:=Lib.hid hst;clear hst htk ea eb hq;subst o9;have k2:IntKind.i64.wrap ((m:Int)+1-1)=m:=by rw [show (m:Int)+1-1=m by omega];exact IntWalk.i64_in _ (by omega)
     have k3:(m:Int)<P.length:=by omega
     have k8:IntKind.i64.wrap (m:Int)=m:=IntWalk.i64_in _ (by omega);have k4:0<=(m:Int):=by omega
     have k5:(m:Int)+1-1=m:=by omega
     have k6:(m:Int)+1<P.length:=by omega
     have k7:0<=(m:Int)+1:=by omega
     rw [show (((m+1:Nat)):Int)=(m:Int)+1 from by omega];go_upto_region 7 with fail;refine dN (fA (w.heap.size) wr) (.run 10 0 0 (.call 10 2047 (.done))) (by kernel_rfl) (Below.drew (Below.refl _ _)) (by kernel_rfl) (by kernel_rfl) (Nat.le_of_ble_eq_true (by kernel_rfl)) ?_;intro dO QR aj aA hS
     iterate 10
      apply qh;exact aj;exact rfl;exact hS;exact rfl
      · intro _ hqc;go_simp;try rfl
      try simp only [pu]
     refine aS (i:=10) (aB aj rfl) (fun K hK=>?_);have ak:=Lib.hid hS;clear hS;refine aG (aN rfl) ?_;go_simp;refine HC.out.mono ?_;rintro e w4 ⟨rfl,YK,hb4⟩;have hS:fA w.heap.size wr w4:=Below.trans ak.out hb4;have afF:=Lib.hid YK;clear hb4 YK;clear ak;refine hK.out _ _ hS (fun _=>?_);clear hK K
     try simp only [pu]
     refine dF ?_;refine aA.down _ _ ?_;have hB:Below (w.heap.size) wr _:=hS;clear hS aA aj;have afG:=Lib.hid (Below.trans jl.out hB);clear hB e10 e11 e20 e21 hlp;go_wp2_with fail;go_roundw
     case rel => exact ⟨m+1+1,by omega,by omega,by go_num,by rw [show m+1+1-1=m+1 by omega,Gw.out,List.foldl_append];exact afF.out,afG.out⟩
     case measure => simp [intOf];omega
    ·obtain rfl:j=P.length:=by omega
     have hlS:(uD P).length=P.length-1:=by unfold uD;rw [List.length_map,List.length_range]
     have hfin:=YJ.out;rw [List.take_of_length_le (by omega),<- oJ.out,<- List.foldl_append,<- afE.out] at hfin;have HF:=Lib.hid hfin;clear hfin hlS;go_wp2_with fail;go_roundw
     case rel => exact ⟨k+1,by omega,by go_num,HF.out,Below.trans kX.out jl.out⟩
     case measure => simp [intOf];omega
  ·obtain rfl:k=X.length:=by omega
   have hfin:=zB.out;rw [List.take_length,dL.out] at hfin;have HF:=Lib.hid hfin;clear hfin;go_wp2_with fail;exact bodyPost_end (v:=.tuple #[]) (results_none rfl _ _ _) rfl ⟨rfl,HF.out,kX.out⟩
end Go.Proofs.YtialfdomhoojiaaGreat
