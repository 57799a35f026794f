import Derived.Test.YtpempeioeiaijaaGreatJ15
set_option linter.unusedSimpArgs false
set_option linter.unusedVariables false
set_option maxRecDepth 100000
set_option maxHeartbeats 8000000
namespace Go.Proofs.YtpempeioeiaijaaGreat
open Go.RowKit Tryz
theorem aun (l:List Int) (x:Int):(l.any fun y=>y == x)=decide (x∈l):=by
 rw [Jh,OA,decide_eq_true_iff];constructor
 ·rintro ⟨y,hy,e⟩;rw [beq_iff_eq] at e;exact e ▸ hy
 ·intro h;exact ⟨x,h,Ah⟩
theorem alK (v:Value) (p:Pl) (w:World) (h:D6 w v p) (hv:Valid p) :
  Calls prog 133 #[v] w (afl w (Cb p) 0):=by
 have hck:Gn p=0:=(fH p).2 hv;have Fe:=AB (fun W (hW:AU w W)=>adS v p W (h.mono hW));rw [hck] at Fe;obtain ⟨HFl,HDt,HHs⟩:=CG (fun W (hW:AU w W)=>au9 v p W (h.mono hW) hv) (fun W (hW:AU w W)=>asn v p W (h.mono hW) hv) (@asl);obtain ⟨vn,va,vf,al,rfl,-⟩:=h;have hD:∀ x∈Bj p,FC p x∈Bj p:=fun x hx=>(hv.Q5 hx).1;have hi:∀ x∈Bj p,∀ y∈Bj p,FC p x=FC p y->x=y:=fun x hx y hy=>hv.XJ hx hy;have hdl:=hv.al6;have hpl:=hv.asj;obtain ⟨QH,fC,QK,auo⟩:=DW (@auf (FC p) (Bj p) hD hi (Nu p p.nodes.length) (fun x hx=>(hv.ash hx).2) (fun d hd=>hv.asi hd) hpl AA) hD hi (fun k=>hv.al7 k);obtain ⟨q,hq⟩:=BI (Cb p);rw [hq];unfold Cb aaC at hq;have Hq:=AB hq;clear hv hck hD hi hq hpl;generalize Bj p=D at *;generalize FC p=f at *;generalize Nu p p.nodes.length=P at *;go_enter func133,ntmps133;go_wp2_with fail;refine (Fe.1 _ (bA (bR w) _)).mono ?_;rintro e w1 ⟨rfl,hb1⟩;have X1:AO w1 w.heap.size 34 #[vn,va,vf]:=(AO.made rfl _ _).keep hb1;have Dt:=AB X1;have B1:=AB (bT (bA (bR w) _) hb1);clear hb1 Fe;obtain ⟨BJ,BK,BL,BQ,-⟩:=X1.Az;go_wp2_with fail;refine (HFl.1 _ B1.1).mono ?_;rintro e w2 ⟨Af,cf,Ag,cg,rfl,hb2,hof,hog⟩;obtain ⟨B2,Rf,HOg,DC⟩:=DW (bT B1.1 hb2) (Own.sl hof) (Own.sl hog) (Dt.1.keep hb2);clear hb2 hof hog X1 BJ BK BL BQ HFl Dt;have X1:=DC.1
 try clear BJ BK BL BQ
 obtain ⟨BJ,BK,BL,BQ,-⟩:=X1.Az;go_wp2_with fail;refine (HDt.1 _ B2.1).mono ?_;rintro e w3 ⟨Ad,cd,rfl,hb3,hod⟩;obtain ⟨B3,jd,aT,abu⟩:=DW (bT B2.1 hb3) (Own.sl hod) (show Ints w3 (.slice Af P.length cf) (P.map (·.1)) from (Rf.1).mono hb3) (show Ints w3 (.slice Ag P.length cg) (P.map (·.2)) from (HOg.1).mono hb3);have HDs:=AB (show Ints w3 (.slice Ad D.length cd) D from jd.1);clear hb3 hod X1 BJ BK BL BQ HDt Rf HOg jd DC;have hrd:=(HDs.1.slice).2.2.2;have hrm:=(HDs.1.slice).2.2.1;unfold maxLen at hrm;have OO:=AB hrd;clear hrd;go_upto_block 0 with fail;go_wp2_with fail;go_loopw [5,6,10] (fun s t i wr=>∃ (k:Nat) (acc:List (List Int×SV)),k<=D.length/\i=.int .i64 k/\acc.length<=k/\(∃ A c,s=.slice A acc.length c)/\(∃ A c,t=.slice A (acc.map (·.1)).flatten.length c)/\Sj wr w3.heap.size s acc/\Own wr w3.heap.size 3 1 DY t (acc.map (·.1)).flatten/\acc.map (·.1)=(D.take k).foldl (Ou f D) []/\(∀ x∈acc,IV (.slice x.2.a x.2.n x.2.c) t)/\AU w3 wr) (fun _ _ i _=>D.length-(intOf i).toNat)
 case atStart => exact ⟨0,[],BX _,rfl,BX _,⟨none,0,rfl⟩,⟨none,0,rfl⟩,⟨Own.nil _ _ _ _ _,fun x hx=>by cases hx⟩,Own.nil _ _ _ _ _,rfl,(fun x hx=>by cases hx),bR w3⟩
 case round =>
  obtain ⟨k,acc,hk,rfl,hak,⟨A2,c2,rfl⟩,⟨A3,c3,rfl⟩,wF,own,hacc,sep,hb⟩:=hrel;obtain ⟨afY,HO,jc,Sm,HB⟩:=I4 wF own hacc sep hb;have hzr:=hb.size;clear wF own hacc sep hb;by_cases hlt:k<D.length
  ·obtain ⟨bq,iH,rfl,iI,e0⟩:=(OO.1.mono HB.1).int hlt;have hx:D[k]∈D:=BO hlt;have hsucc:=akK f D k hlt;rw [<- jc.1] at hsucc;have UF:=auo.1 k;rw [<- jc.1] at UF;generalize D[k]=x at *;have hfn:(acc.map (·.1)).flatten.length<=D.length:=Vk UF.nodup (fun y hy=>by
    obtain ⟨l,hl,hy⟩:=kF.1 hy;obtain ⟨d,h1,h2,-⟩:=UF.ng l hl;subst h2;exact uV fC.1 (kW h1) hy)
   have U9:=AB hsucc;have qB:=AB hx;clear hsucc UF hx;obtain ⟨T,hT0⟩:=BI ((acc.map (·.1)).flatten);have HTT:=AB hT0;rw [hT0] at HO hfn Sm ⊢;have hT:=HHs.1 (.slice A3 T.length c3) T x wr (Own.sl HO.1);rw [aun] at hT;by_cases hm:x∈T
   ·rw [JB hm] at hT;have hst:=AB (show Ou f D (acc.map (·.1)) x=acc.map (·.1) by unfold Ou;rw [hT0,AZ hm]);have HT:=AB hT;clear hm hT hT0;go_wp2_with fail;refine HT.1.mono ?_;rintro e w4 ⟨rfl,hb4⟩;have HB4:=AB hb4;clear hb4 e0 iI;go_wp2;go_roundw
    case rel => exact ⟨k+1,acc,AA,BG,AA,⟨A2,c2,rfl⟩,⟨A3,c3,by rw [HTT.1]⟩,afY.1.keep HB4.1,by rw [HTT.1];exact HO.1.keep HB4.1,by rw [U9.1,hst.1],Sm.1,bT HB.1 HB4.1⟩
    case measure => exact BH
   ·rw [Fg hm] at hT;have hst:=AB (show Ou f D (acc.map (·.1)) x=acc.map (·.1)++[JZ f D x] by unfold Ou;rw [hT0,AX hm]);have HT:=AB hT;have hol:(JZ f D x).length<=D.length+1:=by
     have h:=Vl fC.1 QK.1 qB.1;rw [h.2.2.2.2.2];exact h.2.1
    have HC:=AB (fun W (hW:AU w3 W)=>QH.1 (.slice Af P.length cf) (.slice Ag P.length cg) x qB.1 W (aT.1.mono hW) (abu.1.mono hW));clear hm hT hT0;generalize JZ f D x=o at *;go_wp2_with fail;refine HT.1.mono ?_;rintro e w4 ⟨rfl,hb4⟩;obtain ⟨HB4,aup,Jc⟩:=CG (bT HB.1 hb4) (afY.1.keep hb4) (HO.1.keep hb4);replace e0:=KL hb4 e0;have auq:bq<w4.heap.size:=by have:=hb4.size;omega
    have aN:=hb4.size;clear hb4 iI HT;go_wp2_with fail;refine (HC.1 _ HB4.1).mono ?_;rintro e w5 ⟨A5,c5,rfl,hb5,Dj⟩;obtain ⟨Ce,oQ,Ep,xP⟩:=DW (bT HB4.1 hb5) (aup.1.keep hb5) (Jc.1.keep hb5) (Own.EM Dj (b':=w3.heap.size) AA);have nN:=AB (show IV (.slice A5 o.length c5) (.slice A3 T.length c3) from fun g hg e=>by
     have h1:=(Dj.lt g hg).1;have h2:=(Jc.1.lt g e).2;omega)
    have QA:=hb5.size;clear hb5 Dj HC e0 auq;have HFt:=AB (show ((acc++[((o,⟨A5,o.length,c5⟩):List Int×SV)]).map (·.1)).flatten=T++o by rw [FH,yY,HTT.1];simp);clear Jc;go_upto_region 14 with
     (at_builtin
      refine FK _ rfl (.tmp 43) (.tmp 44) _ rfl (base:=w3.heap.size) Jk JV Jl rfl Ep.1 rfl (l2:=o) (Own.sl xP.1) AA AA AA ?_;intro v6 w6 NT FN Yo;obtain ⟨A6,c6,hv6,-⟩:=Own.GU NT;rw [Es] at hv6;subst hv6;have JQ:=AB NT;have iJ:∀ g,(Value.slice A6 (T.length+o.length) c6).ownBlock=some g->(Value.slice A3 T.length c3).ownBlock=some g\/g=w5.heap.size:=fun g hg=>by
       rcases Yo with h | h
       · exact .inl (h.symm.trans hg)
       · rw [hg] at h;exact .inr (DV h)
      obtain ⟨afZ,alL,abL⟩:=CG (Own.grown oQ.1.1 FN (fun g hg e=>Own.apart oQ.1.1 Ep.1 Aw g hg e)) (show ∀ y∈acc,Own w6 w3.heap.size 3 1 DY (.slice y.2.a y.2.n y.2.c) y.1 from fun y hy=>Own.grown (oQ.1.2 y hy) FN (fun g hg e=>Sm.1 y hy g hg e.symm)) (Own.grown xP.1 FN (fun g hg e=>nN.1 g hg e.symm));have HS6:=AB (show ∀ y∈acc,IV (.slice y.2.a y.2.n y.2.c) (.slice A6 (T.length+o.length) c6) from fun y hy g hg e=>by
       rcases iJ g e with h | h
       · exact Sm.1 y hy g hg h
       · have:=((oQ.1.2 y hy).lt g hg).2;omega)
      have aur:=AB (show IV (.slice A5 o.length c5) (.slice A6 (T.length+o.length) c6) from fun g hg e=>by
       rcases iJ g e with h | h
       · exact nN.1 g hg h
       · have:=(xP.1.lt g hg).2;omega)
      have Ew:=AB (bG Ce.1 FN (fun g hg=>(Ep.1.lt g hg).1));have UW:=FN.size;clear NT FN Yo iJ
      )
    go_upto_region 10 with
     (at_builtin
      refine FK _ rfl (.tmp 46) (.tmp 48) _ rfl (base:=w3.heap.size) Yk WS Yj rfl (Own.alloc afZ.1 _) rfl (l2:=[((o,⟨A5,o.length,c5⟩):List Int×SV)]) (Sl.lit (n:=1) (AO.made rfl _ _) rfl (D7 AA)) Dl Dl (by have:=Ew.1.size;simp;omega) ?_;intro v7 w7 Dv DN Jd;obtain ⟨A7,c7,hv7,-⟩:=Own.GU Dv;rw [show (acc++[((o,⟨A5,o.length,c5⟩):List Int×SV)]).length=acc.length+1 by simp] at hv7;subst hv7;have Wu:∀ {l:List Int} {A':Option Addr} {n' c':Nat} {b':Nat},Own w6 b' 3 1 DY (.slice A' n' c') l->∀ g,(Value.slice A' n' c').ownBlock=some g->some g≠(Value.slice A2 acc.length c2).ownBlock:=fun h g hg=>Own.apart h afZ.1 Aw g hg;have aus:=AB (show Sj w7 w3.heap.size (.slice A7 (acc.length+1) c7) (acc++[((o,⟨A5,o.length,c5⟩):List Int×SV)]) from ⟨Dv,fun y hy=>by
       rcases GI.1 hy with hy | hy
       · exact Own.grown (Own.alloc (alL.1 y hy) _) DN (Wu (alL.1 y hy))
       ·rw [Eb] at hy;subst hy;exact Own.grown (Own.alloc abL.1 _) DN (Wu abL.1)⟩)
      have NU:=AB (Own.grown (Own.alloc JQ.1 _) DN (Wu JQ.1));have Gx:=AB (bG (bA Ew.1 _) DN (fun g hg=>(afZ.1.lt g hg).1));clear Dv DN Jd Wu
      )
    go_wp2;go_roundw
    case rel => exact ⟨k+1,acc++[((o,⟨A5,o.length,c5⟩):List Int×SV)],AA,BG,by rw [Es,yu];omega,⟨A7,c7,by rw [Es,yu]⟩,⟨A6,c6,by rw [HFt.1,Es]⟩,aus.1,by rw [HFt.1];exact NU.1,by rw [U9.1,hst.1,FH];rfl,(fun y hy=>by
     rcases GI.1 hy with hy | hy
     · exact HS6.1 y hy
     · rw [Eb] at hy;subst hy;exact aur.1),Gx.1⟩
    case measure => exact BH
  ·obtain rfl:k=D.length:=AA
   have hfin:=jc.1;rw [I5,Hq.1] at hfin;have hfl:acc.length=q.length:=by rw [<- hfin,CV]
   have afX:=AB hfin;have hc:=afY.1;rw [hfl] at hc ⊢;generalize (acc.map (·.1)).flatten=T at *;have HC:=AB hc;have hz3:=B3.1.size;clear hfin hc hfl;go_wp2_with fail;go_ret2;exact ⟨A2,c2,acc,rfl,bT B3.1 HB.1,afX.1,⟨HC.1.1.EM hz3,fun y hy=>(HC.1.2 y hy).EM hz3⟩⟩
theorem Own.xQ {e:TypeId} {w:World} {B:Nat} {A:Option Addr} {n c:Nat} {L:List (List Int×SV)} (h:Own w B e 1 J5 (.slice A n c) L) (hl:0<L.length):∃ g,A=some ⟨g,0,none⟩/\B<=g/\g<w.heap.size/\(∀ j,w.frozen? ⟨g,j,none⟩=false) /\
  ∀ k (hk:k<L.length),w.cell? ⟨g,k,none⟩=some (.slice L[k].2.a L[k].2.n L[k].2.c):=by
 have hr:=h.row_of;rcases h.2 with ⟨_,h0⟩ | ⟨g,cap,cur,hv,hg,hh,-⟩
 · omega
 ·injection hv with e1 e2 e3;subst e1;refine ⟨g,rfl,hg,AO.lt hh,fun j=>AO.frozen hh j,fun k hk=>?_⟩;obtain ⟨b,o,Ik,-,c0⟩:=hr.cy hk;injection Ik with Ik;injection Ik with y1 y2 _;subst y1 y2;simpa only [Ug] using c0
theorem Own.afa {w:World} {base g n c i:Nat} {e:TypeId} {l:List (List Int×SV)} (h:Own w base e 1 J5 (.slice (some ⟨g,0,none⟩) n c) l) (hi:i<l.length) (y:List Int×SV):Own (w.setCell ⟨g,i,none⟩ (.slice y.2.a y.2.n y.2.c)) base e 1 J5 (.slice (some ⟨g,0,none⟩) n c) (l.set i y):=by
 have:=Own.jC WS h hi (j:=0) AA y (.slice y.2.a y.2.n y.2.c) rfl
 simpa using this
def MO (Q:List (List Int×SV)) (k:Nat) (z:List Int×SV):List (List Int×SV):=Q.take k++z::Q.drop k
theorem eH {Q:List (List Int×SV)} {k:Nat} (hk:k<=Q.length) (z:List Int×SV):(MO Q k z).length=Q.length+1:=by
 unfold MO;simp only [Es,JA,GH,Ue];omega
theorem aut (Q:List (List Int×SV)) (z:List Int×SV):Q++[z]=MO Q Q.length z:=by unfold MO;rw [I5,ZK]
theorem auu {Q:List (List Int×SV)} {k j:Nat} (hj:j<k) (hk:k<=Q.length) (z:List Int×SV):(MO Q k z)[j]'(by rw [eH hk];omega)=Q[j]:=by
 unfold MO;rw [List.getElem_append_left jw,List.getElem_take]
theorem auv {Q:List (List Int×SV)} {k:Nat} (hk:k<Q.length) (z:List Int×SV):(MO Q (k+1) z).set (k+1) Q[k]=MO Q k Q[k]:=by
 unfold MO;have hl:(Q.take (k+1)).length=k+1:=by rw [GH];omega
 rw [ah3 (k+1) _ AA,hl,Nat.sub_self,ah4,Em hk,LJ];congr 1;rw [kU hk];rfl
theorem alM {Q:List (List Int×SV)} {k:Nat} (hk:k<=Q.length) (z y:List Int×SV):(MO Q k z).set k y=MO Q k y:=by
 unfold MO;have hl:(Q.take k).length=k:=by rw [GH];omega
 rw [ah3 k _ AA,hl,Nat.sub_self,ah4]
theorem abM (Q:List (List Int×SV)) (k:Nat) (z:List Int×SV):(MO Q k z).Perm (z::Q):=by
 unfold MO;refine List.perm_middle.trans ?_;rw [yM]
theorem alN {Q:List (List Int×SV)} {k:Nat} (hk:k<=Q.length) {x:List Int×SV} (hs:(Q.map (·.1)).Pairwise (fun a b=>Qo b a=false))
  (h1:∀ j (hj:j<Q.length),k<=j->Gh (Dp x.1) (Dp Q[j].1)=true) (h2:k=0\/∃ hj:k-1<Q.length,Gh (Dp x.1) (Dp Q[k-1].1)=false) :
  ((MO Q k x).map (·.1)).Pairwise (fun a b=>Qo b a=false):=by
 have hs':=IX.1 hs;rw [G9] at hs';refine IX.2 ?_;unfold MO;rw [dZ,P8];have hsl:Q.Pairwise (fun a b=>Qo b.1 a.1=false):=IX.1 hs;refine ⟨hsl.sublist (List.take_sublist _ _),⟨fun y hy=>?_,hsl.sublist (List.drop_sublist _ _)⟩,fun a ha b hb=>?_⟩
 ·obtain ⟨j,hj,rfl⟩:=EF.1 hy;rw [Ue] at hj;rw [List.getElem_drop];exact akd (h1 (k+j) AA AA)
 ·obtain ⟨i,hi,rfl⟩:=EF.1 ha;rw [GH] at hi;rw [List.getElem_take];rcases FI.1 hb with rfl | hb
  ·rcases h2 with h2 | ⟨hj,h2⟩
   · omega
   ·show Gh (Dp b.1) (Dp Q[i].1)=false
    by_cases e:i=k-1
    · subst e;exact h2
    ·have h3:Gh (Dp Q[k-1].1) (Dp Q[i].1)=false:=hs' i (k-1) AA hj AA;rw [<- IL];intro hc;by_cases h4:Gh (Dp Q[i].1) (Dp Q[k-1].1)=true
     · rw [afu hc h4] at h2;cases h2
     ·have:=akc (by simpa using h4) h3
      rw [this,h2] at hc
      cases hc
  ·obtain ⟨j,hj,rfl⟩:=EF.1 hb;rw [Ue] at hj;rw [List.getElem_drop];exact hs' i (k+j) AA AA AA
def auw (w:World) (p:Pl) (e:Ending) (w':World):Prop :=
 ∃ A c L,e=.returned (.slice A L.length c)/\AU w w'/\Sj w' w.heap.size (.slice A L.length c) L/\L.map (·.1)=sortK (Ci p)
theorem auy (v:Value) (p:Pl) (w:World) (h:D6 w v p) (hv:Valid p):Calls prog 132 #[v] w (auw w p):=by
 have Fe:=AB (fun W (hW:AU w W)=>alK v p W (h.mono hW) hv);have QE:=AB (fun u l (hl:l∈Cb p) W (hu:Ints W u l) (hW:AU w W)=>show Calls prog 134 #[v,u] W fun e w'=>e=.returned (.int .i64 (F8 p l))/\AU W w' from by
  have t:=aez v u p l W (h.mono hW) hu hv (fun d hd=>by have:=hv.QC ((hv.Ic hl).2 d hd);exact KC AA AA);rw [hv.abg hl] at t;exact t)
 obtain ⟨HKy,mJ,oG⟩:=CG (fun u l (hl:l∈Cb p) W (hu:Ints W u l)=>av7 u l W hu (kN.2 (hv.WY hl)) (fun d hd=>hv.QC ((hv.Ic hl).2 d hd))) (fun l (hl:l∈Cb p)=>hv.QC ((hv.Ic hl).2 _ (wL (hv.WY hl)))) (fun l hl hs=>hv.akg (l:=l) hl hs);have hcn:=hv.Yu;obtain ⟨_,_,_,al,rfl,hpa,⟨An,cn,rfl,-⟩,⟨⟨Aa,ca,rfl,-⟩,-⟩,⟨Af,cf,rfl,-⟩⟩:=h;clear hpa hv;generalize p.nodes.length=nn at *;generalize al.length=na at *;generalize p.faces.length=nf at *;go_enter func132,ntmps132;go_wp2_with fail;refine (Fe.1 _ (bA (bR w) _)).mono ?_;rintro e w1 ⟨Ac,cc,CL,rfl,hb1,hcl,hco⟩;have hcr:=hco.read;have hle:(Cb p).length=CL.length:=by rw [<- hcl,CV]
 have xR:=AB (show ∀ x∈CL,Own w1 w.heap.size 3 1 DY (.slice x.2.a x.2.n x.2.c) x.1 from fun x hx=>(hco.2 x hx).EM Ah);rw [hle] at hcr hcn ⊢;obtain ⟨⟨Ac',cc',he',hc1,hc2,RY⟩,hI⟩:=hcr;injection he' with y1 y2 y3;subst y1 y3;clear y2;unfold maxLen at hc2;have X1:AO w1 w.heap.size 34 #[.slice An nn cn,.slice Aa na ca,.slice Af nf cf]:=(AO.made rfl _ _).keep hb1;obtain ⟨HB1,Dt,VP,HI,ML,Jj⟩:=Jz (bT (bA (bR w) _) hb1) X1 RY hI hcl hle;clear hb1 Fe hcl hco hle X1 RY hI;go_upto_block 0 with fail;go_wp2_with fail;go_loopw [5,6] (fun s i wr=>∃ (k:Nat) (Q:List (List Int×SV)),k<=CL.length/\i=.int .i64 k/\(∃ A c,s=.slice A Q.length c)/\Own wr w1.heap.size 32 1 J5 s Q/\Q.length<=k/\(Q.map (·.1)).Perm (iW p k)/\(Q.map (·.1)).Pairwise (fun a b=>Qo b a=false)/\(∀ x∈Q,Own w1 w.heap.size 3 1 DY (.slice x.2.a x.2.n x.2.c) x.1/\x.1∈Cb p)/\AU w1 wr) (fun _ i _=>CL.length-(intOf i).toNat)
 case atStart => exact ⟨0,[],BX _,rfl,⟨none,0,rfl⟩,Own.nil _ _ _ _ _,Cj _,List.Perm.refl _,List.Pairwise.nil,(fun x hx=>by cases hx),bR w1⟩
 case round =>
  obtain ⟨k,Q,hk,rfl,⟨A,c,rfl⟩,ho,nK,hpe,hso,vg,hb⟩:=hrel;obtain ⟨wo,rfl⟩:=BR wr;obtain ⟨HO,je,abN,Yx,HB⟩:=I4 ho hpe hso vg hb;clear ho hpe hso vg hb;by_cases hlt:k<CL.length
  ·have hlc:k<(Cb p).length:=by have:=Jj.1;omega
   obtain ⟨b,o,rfl,hlb0,c00⟩:=(VP.1).cy hlt;have hlb:b<wo.heap.size:=by have:=HB.1.size;omega
   have c0:=KL HB.1 c00;have hin:=HI.1 CL[k] (BO hlt);have VZ:=xR.1 CL[k] (BO hlt);have hmem:(Cb p)[k]∈Cb p:=BO hlc;have hos:=am0 hlc;rw [pY ML.1 hlt hlc] at hmem hos;generalize CL[k]=x at *;obtain ⟨X,xa,xn,xc⟩:=x;simp only at hin VZ c0 c00 hmem hos;have xU:=AB VZ;clear VZ;have ad3:=AB c00;clear c00;obtain ⟨Kz,dG,Ei,HKx⟩:=DW c0 hmem (fun W (hW:AU w1 W)=>QE.1 _ X hmem W (hin.mono hW) (bT HB1.1 hW)) (fun W (hW:AU w1 W)=>HKy.1 _ X hmem W (hin.mono hW));have hkb:=mJ.1 X hmem;obtain ⟨t,ht⟩:=BI (F8 p X);rw [ht] at Ei hos;have Yh:=AB hos;have k1:(k:Int)<CL.length:=AA
   have k2:0<=(k:Int):=AA
   have X1:=Dt.1.keep HB.1;clear hin hmem hos ht hlc;obtain ⟨BJ,BK,BL,BQ,-⟩:=X1.Az;go_upto_region 6 with fail;refine D9 (wo) (.run 5 0 0 (.call 5 63 (.take 6 127 (.done)))) fun CQ QR Ae Aj hS=>?_
   iterate 5 refine Ak ?_
   refine II (Ei.1 _ (bT HB.1 hS)) ?_;clear hS;intro BZ BU hS;refine Ak ?_;refine D5 ?_;clear hS Aj Ae;intro hB;obtain ⟨W3,hW3⟩:∃ W:World,W=BZ:=⟨_,rfl⟩;rw [<- hW3] at hB BU ⊢;have HB3:=AB (bT HB.1 hB);have G7:=AB (HO.1.keep hB);replace c0:=KL hB Kz.1;have YP:b<W3.heap.size:=by have:=hB.size;omega
   have hz3:=HB3.1.size;clear hB BU hW3 X1 BJ BK BL BQ Kz hlb Ei HB HO;by_cases h0:t<=0
   ·have hos:=Yh.1;rw [AX AA,MC] at hos;have aP:=AB hos;clear hos;go_wp2;go_roundw
    case rel => exact ⟨k+1,Q,AA,BG,⟨_,_,rfl⟩,G7.1,AA,by rw [aP.1];exact je.1,abN.1,Yx.1,HB3.1⟩
    case measure => exact BH
   ·have hos:=Yh.1;rw [AZ AA] at hos;have aP:=AB hos;clear hos;have hsh:(Q++[((X,⟨xa,xn,xc⟩):List Int×SV)]).length=Q.length+1:=by simp
    have ED:=AB hsh;clear hsh;go_upto_region 8 with fail;go_upto_block 2 with
     (at_builtin
      refine FK _ rfl (.tmp 28) (.tmp 33) _ rfl (base:=w1.heap.size) Yk WS Yj rfl (Own.alloc G7.1 _) rfl (l2:=[((X,⟨xa,xn,xc⟩):List Int×SV)]) (Sl.lit (n:=1) (AO.made rfl _ _) rfl (D7 AA)) Dl Dl DR ?_;intro v4 w4 Nc hg4 aaM;obtain ⟨A4,c4,hv4,-⟩:=Own.GU Nc;rw [ED.1] at hv4;subst hv4;have Jc:=AB Nc;have HB4:=AB (bG (bA HB3.1 _) hg4 (fun g hg=>(G7.1.lt g hg).1));have aN:=hg4.size;simp only [World.size_alloc] at aN;clear Nc hg4 aaM
      )
    obtain ⟨g,hgA,hg0,-⟩:=Own.xQ Jc.1 (by rw [ED.1];omega);subst hgA;clear c0 YP G7 HB3;go_wp2_with fail;go_loopw [7] (fun i wr=>∃ (m:Nat) (z:List Int×SV),m<=Q.length/\i=.int .i64 m/\Own wr w1.heap.size 32 1 J5 (.slice (some ⟨g,0,none⟩) (Q.length+1) c4) (MO Q m z)/\(∀ j (hj:j<Q.length),m<=j->Gh (Dp X) (Dp Q[j].1)=true)/\AU w1 wr) (fun i _=>(intOf i).toNat)
    case atStart => exact ⟨Q.length,(X,⟨xa,xn,xc⟩),Cj _,rfl,by rw [<- aut];exact Jc.1,(fun j hj h=>AA),HB4.1⟩
    case round =>
     clear Jc HB4 aN;obtain ⟨m,z,hm,rfl,Dj,hge,hb5⟩:=hrel;obtain ⟨wq,rfl⟩:=BR wr;obtain ⟨xW,YQ,aU⟩:=CG Dj hge hb5;clear Dj hge hb5;rcases kL m with h9 | h9
     ·subst h9;go_upto_region 9 with fail;refine D9 (wq) (.run 16 0 0 (.done)) fun CQ QR Ae Aj hS=>?_
      iterate 3 refine Ak ?_
      iterate 12 refine JW ?_
      refine Ak ?_;refine D5 ?_;clear hS Aj Ae;intro hB;obtain ⟨W5,IZ⟩:∃ W:World,W=wq.drew:=⟨_,rfl⟩;rw [<- IZ] at hB ⊢;have Ce:=AB (bT aU.1 hB);have Ep:=AB (xW.1.keep hB);clear hB IZ aU xW;have hst:=show (0:Nat)=0\/∃ hj:0-1<Q.length,Gh (Dp X) (Dp Q[0-1].1)=false from .inl rfl
      have afb:=AB hst;obtain ⟨g',Gj,-,Ri,G8,Hw⟩:=Own.xQ Ep.1 (by rw [eH (BX _)];omega);injection Gj with Gj;injection Gj with Gj _ _;subst Gj;have f0:=Hw 0 (by rw [eH (BX _)];omega);have hf0:=G8 0;have c0:=KL Ce.1 ad3.1;have jE:b<W5.heap.size:=by have:=Ce.1.size;omega
      have hm1:(0:Int)<(Q.length:Int)+1:=AA
      have Rf:=AB (show Own (W5.setCell ⟨g,0,none⟩ (.slice xa xn xc)) w1.heap.size 32 1 J5 (.slice (some ⟨g,0,none⟩) (Q.length+1) c4) (MO Q (0) (X,⟨xa,xn,xc⟩)) from by
       have:=Own.afa Ep.1 (i:=0) (by rw [eH (BX _)];omega) (X,⟨xa,xn,xc⟩)
       rwa [alM (BX _)] at this)
      have Fv:=AB (bS (p:=⟨g,0,none⟩) Ce.1 hg0 (.slice xa xn xc));clear Hw G8 hst Ep;go_wp2;go_roundw
      case rel => exact ⟨k+1,MO Q (0) (X,⟨xa,xn,xc⟩),AA,BG,⟨_,_,by rw [eH (BX _)]⟩,Rf.1,by rw [eH (BX _)];omega,by
        rw [aP.1];refine ((abM Q (0) (X,⟨xa,xn,xc⟩)).map (·.1)).trans ?_;rw [Ey];exact ((je.1).cons X).trans (List.perm_append_comm (l₁:=[X])),alN (BX _) abN.1 YQ.1 afb.1,(fun y hy=>by
         rcases FI.1 ((abM Q (0) _).subset hy) with rfl | hy
         · exact ⟨xU.1,dG.1⟩
         · exact Yx.1 y hy),Fv.1⟩
      case measure => exact BH
     ·obtain ⟨m,rfl⟩:∃ m',m=m'+1:=⟨m-1,AA⟩;have hmq:m<Q.length:=AA
      obtain ⟨g',Gj,-,Ri,-,Hw⟩:=Own.xQ xW.1 ZA;injection Gj with Gj;injection Gj with Gj _ _;subst Gj;have e0:=Hw m ZA;rw [auu (Nat.lt_succ_self m) hm] at e0;obtain ⟨alO,afc⟩:=Yx.1 Q[m] (BO hmq);have afd:Ints w1 (.slice Q[m].2.a Q[m].2.n Q[m].2.c) Q[m].1:=alO.sl;clear alO;have abO:=AB (fun (h:Gh (Dp X) (Dp Q[m].1)=true)=>show ∀ j (hj:j<Q.length),m<=j->Gh (Dp X) (Dp Q[j].1)=true from fun j hj hmj=>by
       by_cases e:j=m
       · subst e;exact h
       · exact YQ.1 j hj AA)
      have Sm:=AB (fun (h:Gh (Dp X) (Dp Q[m].1)=false)=>show m+1=0\/∃ hj:m+1-1<Q.length,Gh (Dp X) (Dp Q[m+1-1].1)=false from .inr ⟨hmq,h⟩);have HDn:=AB (auv hmq z);have hkb2:=mJ.1 Q[m].1 afc;have HKq:=AB (fun W (hW:AU w1 W)=>HKy.1 _ Q[m].1 afc W (afd.mono hW));have Yt:=AB (fun (W:World) (h:Own W w1.heap.size 32 1 J5 (.slice (some ⟨g,0,none⟩) (Q.length+1) c4) (MO Q (m+1) z))=>Own.afa h (i:=m+1) ZA Q[m]);generalize Q[m]=y at *;obtain ⟨Y,ya,yn,yc⟩:=y;simp only at e0 HKq hkb2 abO Sm HDn afd Yt;generalize Dp Y=ky at *;obtain ⟨kx,hkx⟩:=BI (Dp X);rw [hkx] at HKx hkb abO Sm YQ;have HKe:=AB hkx;have WZ:=AB (fun W=>aly kx ky W AA AA);obtain ⟨E,hE⟩:=BI (Gh kx ky);rw [hE] at WZ abO Sm;clear hE hkx afc afd Hw;have c0:=KL aU.1 ad3.1;have alP:b<wq.heap.size:=by have:=aU.1.size;omega
      have m1:(0:Int)<(m:Int)+1:=AA
      have m2:=EL ((m:Int)+1);have m3:=EL (m:Int);have m4:(m:Int)<(Q.length:Int)+1:=AA
      have m5:0<=(m:Int):=AA
      have m6:IntKind.i64.wrap ((m:Int)+1-1)=(m:Int):=by rw [Jw _ AA];omega
      go_upto_region 9 with fail;refine D9 (wq) (.run 7 0 0 (.run 5 8 127 (.call 7 8191 (.call 13 16383 (.call 14 32767 (.take 15 65535 (.done))))))) fun CQ QR Ae Aj hS=>?_
      iterate 3 refine Ak ?_
      iterate 9 refine E5 ?_
      refine II (HKx.1 _ (bT aU.1 hS)) ?_;clear hS;intro BZ BU hS;refine II (HKq.1 _ (bT aU.1 hS)) ?_;clear hS;intro wr2 Du hS;refine II (WZ.1 _) ?_;clear hS;intro wr3 NG hS;refine Ak ?_;refine D5 ?_;clear hS Aj Ae;intro hB;obtain ⟨W5,IZ⟩:∃ W:World,W=wr3:=⟨_,rfl⟩;rw [<- IZ] at hB ⊢;have Ce:=AB (bT aU.1 hB);have Ep:=AB (xW.1.keep hB);replace e0:=KL hB e0;clear hB BU Du NG IZ aU xW Ri alP WZ HKq c0
      cases E
      ·rw [HKe.1.symm] at Sm YQ;clear e0 m1 m2 m3 m4 m5 m6;have hst:=Sm.1 rfl;have afb:=AB hst;obtain ⟨g',Gj,-,Ri,G8,Hw⟩:=Own.xQ Ep.1 ZA;injection Gj with Gj;injection Gj with Gj _ _;subst Gj;have f0:=Hw (m+1) ZA;have hf0:=G8 (m+1);have c0:=KL Ce.1 ad3.1;have jE:b<W5.heap.size:=by have:=Ce.1.size;omega
       have hm1:(m:Int)+1<(Q.length:Int)+1:=AA
       have Rf:=AB (show Own (W5.setCell ⟨g,m+1,none⟩ (.slice xa xn xc)) w1.heap.size 32 1 J5 (.slice (some ⟨g,0,none⟩) (Q.length+1) c4) (MO Q (m+1) (X,⟨xa,xn,xc⟩)) from by
        have:=Own.afa Ep.1 (i:=m+1) ZA (X,⟨xa,xn,xc⟩)
        rwa [alM hm] at this)
       have Fv:=AB (bS (p:=⟨g,m+1,none⟩) Ce.1 hg0 (.slice xa xn xc));clear Hw G8 hst Ep;go_wp2;go_roundw
       case rel => exact ⟨k+1,MO Q (m+1) (X,⟨xa,xn,xc⟩),AA,BG,⟨_,_,by rw [eH hm]⟩,Rf.1,ZA,by
         rw [aP.1];refine ((abM Q (m+1) (X,⟨xa,xn,xc⟩)).map (·.1)).trans ?_;rw [Ey];exact ((je.1).cons X).trans (List.perm_append_comm (l₁:=[X])),alN hm abN.1 YQ.1 afb.1,(fun y hy=>by
          rcases FI.1 ((abM Q (m+1) _).subset hy) with rfl | hy
          · exact ⟨xU.1,dG.1⟩
          · exact Yx.1 y hy),Fv.1⟩
       case measure => exact BH
      ·obtain ⟨g',Gj,-,Ri,G8,Hw⟩:=Own.xQ Ep.1 ZA;injection Gj with Gj;injection Gj with Gj _ _;subst Gj;have f0:=Hw (m+1) ZA;have hf0:=G8 (m+1);have JQ:=AB (Yt.1 _ Ep.1);rw [HDn.1] at JQ;have Ew:=AB (bS (p:=⟨g,m+1,none⟩) Ce.1 hg0 (.slice ya yn yc));have HGx:=abO.1 rfl;rw [<- HKe.1] at HGx;have HGz:=AB HGx;have m7:(m:Int)+1<(Q.length:Int)+1:=AA
       clear Hw G8 HGx Ep;go_wp2;go_roundw
       case rel => exact ⟨m,_,AA,BG,JQ.1,HGz.1,Ew.1⟩
       case measure => simp [intOf]
  ·have hkk:k=(Cb p).length:=by have:=Jj.1;omega
   have hpe:=je.1;rw [hkk,am2] at hpe;have HF:=AB (oG.1 _ hpe abN.1);have hz9:=HB1.1.size;have Rk:=AB (show Sj wo w.heap.size (.slice A Q.length c) Q from ⟨HO.1.EM hz9,fun x hx=>((Yx.1 x hx).1).keep HB.1⟩);clear hpe hkk;go_wp2;go_ret;exact ⟨A,c,Q,rfl,bT HB1.1 HB.1,Rk.1,HF.1⟩
theorem gS {w0 w1:World} {g:Nat} (h:w0.grownBy w1 (some g)) (i:Nat) (u:Value):w0.grownBy (w1.setCell ⟨g,i,none⟩ u) (some g):=by
 refine gT h ⟨rfl,rfl,rfl,?_,fun j _ hne=>?_⟩
 · simp
 · exact Below.heap_setCell w1 ⟨g,i,none⟩ u j (fun e=>hne RD)
theorem auz:Elem prog 113 117 4 80:=Elem.QV (z:=.agg #[.int .i64 0,.slice none 0 0,.slice none 0 0,.slice none 0 0]) Gl Gl rfl AA
structure xX (w:World) (B:Nat) (v:Value) (L:List AD):Prop where
 own:Own w B 117 4 F9 v L
 out:∀ x∈L,Own w B 3 1 DY (BF x.ov) x.out
 inn:∀ x∈L,Own w B 32 1 J5 (BF x.iv) x.inn
 KT:∀ x∈L,∀ c∈x.inn,Own w B 3 1 DY (BF c.2) c.1
 EP:∀ x∈L,Own w B 3 1 DY (BF x.av) x.EP
def av1 (w:World) (p:Pl) (e:Ending) (w':World):Prop :=
 ∃ A c L,e=.returned (.slice A L.length c)/\AU w w'/\xX w' w.heap.size (.slice A L.length c) L/\Ie p L (sortK (Ci p)) (Nl p) p.nodes/\∀ x∈L,x.tw=0
theorem Zm.first {w:World} {P:List Pt} {e:Ending} {w':World} (h:Zm w P e w') (hP:0<P.length):∃ b o c,e=.returned (.slice (some ⟨b,o,none⟩) P.length c)/\AU w w'/\w'.cell? ⟨b,o,none⟩=some (.int .i64 (P.getD 0 AY).x)/\w'.cell? ⟨b,o+1,none⟩=some (.int .i64 (P.getD 0 AY).y)/\b<w'.heap.size:=by
 obtain ⟨A,c,rfl,hb,ho⟩:=h;obtain ⟨b,o,rfl,hlb,c0,c1⟩:=(ho.row_of).pt hP;simp only [kP,RF] at c0 c1;have e:P.getD 0 AY=P[0]:=by simp only [Gm,Di hP,Ih]
 rw [e];exact ⟨b,o,c,rfl,hb,c0,c1,hlb⟩
theorem jG {w0 w1 w2:World} {row r:Option Nat} (h:w0.grownBy w1 row) (k:w1.grownBy w2 r) (hr:∀ g,r=some g->w0.heap.size<=g):w0.grownBy w2 row :=
 ⟨k.os.trans h.os,k.tape.trans h.tape,k.output.trans h.output,EG h.size k.size,fun i hi hne=>by
  rw [k.block i (QS hi h.size) (fun e=>by have:=hr i e.symm;omega)];exact h.block i hi hne⟩
theorem jH {n m:Nat} {v v':Value} (hat:v'.ownBlock=v.ownBlock\/v'.ownBlock=some m) (h1:∀ q,v.ownBlock=some q->n<=q) (h2:n<=m):∀ q,v'.ownBlock=some q->n<=q:=fun q hq=>by
 rcases hat with h | h
 · exact h1 q (h.symm.trans hq)
 ·rw [hq] at h;have:=DV h
  omega
theorem Valid.av2 {p:Pl} (h:Valid p) {c:List Int} (hc:c∈Cb p):CJ ((Nv p (c.headD 0)).getD 0 AY)=true/\MG p ((Nv p (c.headD 0)).getD 0 AY)=MG p (UU p c):=by
 have hne:=h.WY hc;have hd:c.headD 0∈Bj p:=(h.Ic hc).2 _ (by
  cases c with
  | nil=>exact absurd rfl hne
  | cons a c=>exact JC)
 obtain ⟨a,ha,-,hpt⟩:=h.gQ hd;have hl:=Fa p a;unfold UU Nv;rw [hpt];split
 · exact ⟨h.Dh ha AA,rfl⟩
 ·rw [afL AA];exact ⟨h.Dh ha AA,h.asy ha ha rfl AA AA⟩
theorem av3 (v:Value) (p:Pl) (w:World) (h:D6 w v p) (hv:Valid p):Calls prog 86 #[v] w (av1 w p):=by
 have HOu:=AB (fun W (hW:AU w W)=>auy v p W (h.mono hW) hv);have Fe:=AB (fun W (hW:AU w W)=>alK v p W (h.mono hW) hv);have QE:=AB (fun u l (hl:l∈Cb p) W (hu:Ints W u l) (hW:AU w W)=>show Calls prog 134 #[v,u] W fun e w'=>e=.returned (.int .i64 (F8 p l))/\AU W w' from by
  have t:=aez v u p l W (h.mono hW) hu hv (fun d hd=>by have:=hv.QC ((hv.Ic hl).2 d hd);exact KC AA AA);rw [hv.abg hl] at t;exact t)
 have NW:=AB (fun d (hd:d∈Bj p) W (hW:AU w W)=>(alz v p d W (h.mono hW) hv hd).mono fun e w' hr=>hr.first (by have:=hv.afO hd;omega));have afe:=fun vl CL at_ W (hW:AU w W) hC hcl nv=>aud v vl p CL (sortK (Ci p)) at_ W (h.mono hW) hv hC hcl (dK (Ci p)).1 nv;unfold BA at afe;obtain ⟨NJ,ZP,HV⟩:=CG afe (fun id W (hW:AU w W)=>aon v p id W (h.mono hW) (by have:=hv.lim;unfold KD at this;simp only [OC,JH] at this;omega)) hv;have hcn:=hv.Yu;have hnl:=hv.aat;have Rh:=AB ((dK (Ci p)).1.nodup_iff.2 hv.afK);have hol:(sortK (Ci p)).length<=512:=by
  rw [(dK (Ci p)).1.length_eq];exact EG (SC _ _) hv.Yu
 obtain ⟨_,_,_,al,rfl,hpa,⟨An,cn,rfl,hn1,hn2,hR⟩,⟨⟨Aa,ca,rfl,-⟩,-⟩,⟨Af,cf,rfl,-⟩⟩:=h;unfold maxLen at hn2;have HRn:=AB hR;clear hpa hv afe hR;generalize al.length=na at *;generalize p.faces.length=nf at *;obtain ⟨O,hO⟩:=BI (sortK (Ci p));have oU:=AB hO;rw [hO] at Rh hol NJ;clear hO;go_enter func86,ntmps86;go_wp2_with fail;refine (HOu.1 _ (bA (bR w) _)).mono ?_;rintro e w1 ⟨Ao,co,OL,rfl,hb1,jI,jJ⟩;rw [oU.1] at jJ;have hle:OL.length=O.length:=by rw [<- jJ,CV]
 have azs:OL.length<=512:=AA
 have X1:AO w1 w.heap.size 34 #[.slice An p.nodes.length cn,.slice Aa na ca,.slice Af nf cf]:=(AO.made rfl _ _).keep hb1;obtain ⟨HB1,Dt,QB,eP,HLe⟩:=I4 (bT (bA (bR w) _) hb1) X1 (show Sj w1 w.heap.size (.slice Ao OL.length co) OL from ⟨jI.1.EM Ah,fun x hx=>(jI.2 x hx).EM Ah⟩) jJ hle;clear hb1 HOu jI jJ hle X1;go_upto_region 3 with fail;obtain ⟨W2,hW⟩:∃ W:World,W=w1.alloc (.cells #[.int .i64 0,.slice none 0 0,.slice none 0 0,.slice none 0 0] 117):=⟨_,rfl⟩;have Fq:=AB (show Own W2 w1.heap.size 117 4 F9 (.slice (some ⟨w1.heap.size,0,none⟩) 1 1) [ad0] by rw [hW];exact Own.lit _ _ _ _ _ _ _ _ _ rfl rfl (Cj _) (D7 AA) rfl rfl);have HB2:=AB (show AU w1 W2 by rw [hW];exact bA (bR w1) _);rw [<- hW];clear hW;have HA2:=AB (show GY 117 w1 W2 w1.heap.size (.slice (some ⟨w1.heap.size,0,none⟩) 1 1) [ad0] from ⟨Fq.1,(fun x hx=>by rw [Eb] at hx;subst hx;exact Sl.nil _),(fun x hx=>by rw [Eb] at hx;subst hx;exact Own.nil _ _ _ _ _),(fun x hx=>by rw [Eb] at hx;subst hx;intro c hc;cases hc),(fun x hx=>by rw [Eb] at hx;subst hx;exact Own.nil _ _ _ _ _),dh _ _,dh _ _⟩);clear Fq;go_wp2_with fail;go_loopw [4,5] (fun s i wr=>∃ (k:Nat) (L:List AD),k<=OL.length/\i=.int .i64 k/\(∃ A c,s=.slice A L.length c)/\GY 117 w1 wr w1.heap.size s L/\Ie p L (O.take k) [] []/\(∀ x∈L,x.iv=sv0/\x.av=sv0/\x.inn=[]/\x.tw=0/\Own w1 w.heap.size 3 1 DY (BF x.ov) x.out)/\L.length=k+1/\AU w1 wr) (fun _ i _=>OL.length-(intOf i).toNat)
 case atStart => exact ⟨0,[ad0],BX _,rfl,⟨_,_,rfl⟩,HA2.1,by rw [OD];exact Ie.start p ad0 rfl rfl rfl,(fun x hx=>by rw [Eb] at hx;subst hx;exact ⟨rfl,rfl,rfl,rfl,Own.nil _ _ _ _ _⟩),rfl,HB2.1⟩
 case round =>
  clear HA2 HB2;obtain ⟨k,L,hk,rfl,⟨A,c,rfl⟩,had,hdv,hz,hll,hb⟩:=hrel;obtain ⟨wo,rfl⟩:=BR wr;obtain ⟨HA,HD,HZ,HB⟩:=DW had hdv hz hb;have NK:L.length<=513/\0<L.length:=AA
  have Jj:=AB hll;clear had hdv hz hb hll;by_cases hlt:k<OL.length
  ·have hlo:k<O.length:=by have:=HLe.1;omega
   obtain ⟨b,o,rfl,hlb,c0⟩:=(QB.1.1.keep HB.1).row_of.cy hlt;have VZ:=QB.1.2 OL[k] (BO hlt);have hoe:=pY eP.1 hlt hlo;have htk:O.take (k+1)=O.take k++[O[k]]:=Em hlo;rw [hoe] at htk;generalize OL[k]=x at *;obtain ⟨X,xa,xn,xc⟩:=x;simp only at VZ c0 htk hoe;have xU:=AB VZ;have Ei:=AB htk;have k1:(k:Int)<OL.length:=AA
   have k2:0<=(k:Int):=AA
   clear VZ htk hoe hlo;have hsh:(L++[(⟨0,X,⟨xa,xn,xc⟩,[],sv0,[],sv0⟩:AD)]).length=L.length+1:=by simp
   have ED:=AB hsh;clear hsh;go_upto_region 5 with
    (at_builtin
     refine FK _ rfl (.tmp 22) (.tmp 28) _ rfl (base:=w1.heap.size) auz Sr afq rfl (Own.alloc HA.1.own _) rfl (l2:=[(⟨0,X,⟨xa,xn,xc⟩,[],sv0,[],sv0⟩:AD)]) (Sl.lit (n:=1) (AO.made rfl _ _) rfl (D7 AA)) Dl Dl (by have:=HB.1.size;simp;omega) ?_;intro v3 w3 ho3 hg3 Vo;obtain ⟨A3,c3,hv3,-⟩:=Own.GU ho3;rw [ED.1] at hv3;subst hv3;have MN:=AB (GY.more Aw (HA.1.keep (bA (bR wo) _)) ho3 hg3 xU.1.sl rfl rfl rfl rfl);have HB3:=AB (bG (bA HB.1 _) hg3 (fun g hg=>(HA.1.own.lt g hg).1));clear ho3 hg3 Vo
     )
   clear c0 hlb;go_wp2;go_roundw
   case rel => exact ⟨k+1,_,AA,BG,⟨A3,c3,by rw [ED.1]⟩,MN.1,by rw [Ei.1];exact HD.1.more rfl rfl _ rfl rfl,(fun x hx=>by
     rcases GI.1 hx with hx | hx
     · exact HZ.1 x hx
     · rw [Eb] at hx;subst hx;exact ⟨rfl,rfl,rfl,rfl,xU.1⟩),by rw [ED.1,Jj.1],HB3.1⟩
   case measure => exact BH
  ·have hkk:k=O.length:=by have:=HLe.1;omega
   have hd:=HD.1;rw [hkk,I5] at hd;have HD3:=AB hd;have X1:=Dt.1.keep HB.1;obtain ⟨gL,hgA,av4,auT,-⟩:=Own.Ol HA.1.own AA;subst hgA;clear hd HD hkk;obtain ⟨BJ,BK,BL,BQ,-⟩:=X1.Az;go_wp2_with fail;refine (Fe.1 _ (bT HB1.1 HB.1)).mono ?_;rintro e w4 ⟨Ac,cc,CL,rfl,hb4,hcl,hco⟩;have hle:(Cb p).length=CL.length:=by rw [<- hcl,CV]
   rw [hle] at hco hcn ⊢;obtain ⟨ML,Oa,HLc,HB4⟩:=DW hcl hco hle (bT HB.1 hb4);have Io:=AB (show GY 117 w4 w4 w1.heap.size (.slice (some ⟨gL,0,none⟩) L.length c) L from by
    have h:=HA.1.keep hb4;exact ⟨h.own,fun x hx=>(h.out x hx).mono HB4.1,h.inn,fun x hx c hc=>(h.KT x hx c hc).mono HB4.1,h.EP,h.dB,h.dF⟩)
   have aN:gL<w4.heap.size:=by have:=hb4.size;omega
   have azt:w1.heap.size<=w4.heap.size:=HB4.1.size;have azu:w1.heap.size<=wo.heap.size:=HB.1.size;clear hb4 hcl hco hle X1 BJ BK BL BQ HA HB auT;have HL4:=AB Io.1.own;have azv:L.length<=513/\0<L.length:=NK;go_wp2_with fail;go_loopw [8] (fun i wr=>∃ (j:Nat) (L2:List AD),j<=CL.length/\i=.int .i64 j/\L2.length=L.length/\GY 117 w4 wr w1.heap.size (.slice (some ⟨gL,0,none⟩) L.length c) L2/\Ie p L2 O (aO p j) []/\(∀ x∈L2,(∀ g,(BF x.iv).ownBlock=some g->w4.heap.size<=g)/\x.av=sv0/\(∀ d∈x.inn,d∈CL)/\x.tw=0/\Own w1 w.heap.size 3 1 DY (BF x.ov) x.out)/\w4.grownBy wr (some gL)) (fun i _=>CL.length-(intOf i).toNat)
   case atStart => exact ⟨0,L,BX _,rfl,rfl,Io.1,HD3.1,(fun x hx=>by
    obtain ⟨e1,e2,e3,e4,e5⟩:=HZ.1 x hx;exact ⟨(fun g hg=>by rw [e1] at hg;cases hg),e2,(fun d hd=>by rw [e3] at hd;cases hd),e4,e5⟩),gR w4 _⟩
   case round =>
    clear Io HD3 HZ;obtain ⟨j,L2,hj,rfl,hl3,had,hdv,hz,hg⟩:=hrel;obtain ⟨wp,rfl⟩:=BR wr;obtain ⟨HA,HD,HZ,HG,HB⟩:=I4 had hdv hz hg (show AU w1 wp from bG HB4.1 hg (fun g hg=>by have:=DV hg;omega));have hzp:w4.heap.size<=wp.heap.size:=hg.size;clear had hdv hz hg;by_cases hlj:j<CL.length
    ·have hlc:j<(Cb p).length:=by have:=HLc.1;omega
     have hcr:=Own.grown Oa.1.1 HG.1 (fun g hg=>Own.apart Oa.1.1 HL4.1 Aw g hg);have Rk:=AB hcr;obtain ⟨b,o,hAc,hlb,c0⟩:=hcr.row_of.cy hlj;subst hAc;have hcm:CL[j]∈CL:=BO hlj;have VZ:=Own.grown (Oa.1.2 CL[j] hcm) HG.1 (fun g hg=>Own.apart (Oa.1.2 CL[j] hcm) HL4.1 Aw g hg);have hoe:=pY ML.1 hlj hlc;have hmem:(Cb p)[j]∈Cb p:=BO hlc;have hrs:=am1 hlc;rw [hoe] at hmem hrs;generalize CL[j]=x at *;obtain ⟨X,xa,xn,xc⟩:=x;simp only at VZ c0 hmem hrs hoe;have HCm:=AB hcm;have dG:=AB hmem;have hin:=VZ.sl;have Ei:=AB (fun W (hW:AU wp W)=>QE.1 _ X hmem W (Sl.mono hin hW) (bT (bT HB1.1 HB.1) hW));obtain ⟨t,ht⟩:=BI (F8 p X);rw [ht] at Ei hrs;obtain ⟨HRs,QU,Kz⟩:=CG hrs hin c0;have k1:(j:Int)<CL.length:=AA
     have k2:0<=(j:Int):=AA
     have X1:=Dt.1.keep HB.1;clear VZ hoe hmem hrs ht hlc hin hcr hcm
     try clear BJ BK BL BQ
     obtain ⟨BJ,BK,BL,BQ,-⟩:=X1.Az;go_upto_region 11 with fail;refine D9 (wp) (.run 5 0 0 (.call 5 63 (.take 6 127 (.done)))) fun CQ QR Ae Aj hS=>?_
     iterate 5 refine Ak ?_
     refine II (Ei.1 _ hS) ?_;clear hS;intro BZ BU hS;refine Ak ?_;refine D5 ?_;clear hS Aj Ae;intro hB;obtain ⟨W3,hW3⟩:∃ W:World,W=BZ:=⟨_,rfl⟩;rw [<- hW3] at hB BU ⊢;obtain ⟨HB3,MN,Qj,alQ,anv⟩:=I4 (bT HB.1 hB) (HA.1.keep hB) (gB HG.1 hB) (Sl.mono QU.1 hB) (Rk.1.keep hB);replace c0:=KL hB Kz.1;have YP:b<W3.heap.size:=by have:=hB.size;omega
     have hz3:w4.heap.size<=W3.heap.size:=by have:=hB.size;omega
     clear hB BU hW3 X1 BJ BK BL BQ Kz hlb Ei HB HA HG QU Rk hzp;by_cases h0:t<=0
     ·have hrs:=HRs.1;rw [AX AA] at hrs;have Yy:=AB hrs;have hne:=HV.1.WY dG.1;have hkl:0<X.length:=kN.2 hne;have hhd:X.headD 0=X[0]:=by
       cases X with
       | nil=>exact absurd rfl hne
       | cons d l'=>rfl
      have hdd:X[0]∈Bj p:=(HV.1.Ic dG.1).2 _ (BO hkl);obtain ⟨nv,hhm⟩:=HV.1.av2 dG.1;rw [hhd] at nv hhm;obtain ⟨Al,cl,hel,-,-,hRl⟩:=alQ.1;injection hel with y1 y2 y3;subst y1 y2 y3;obtain ⟨bl,ol,wB,wC,d0⟩:=(show Row W3 xa (X.flatMap DY) from hRl).int hkl;subst wB;simp only [RF] at d0;have kz:(0:Int)<X.length:=AA
      have kn:¬ X=[]:=hne;have hpl:=HV.1.afO hdd;have ZR:=AB (fun W (hW:AU W3 W)=>NW.1 X[0] hdd W (bT (bT HB1.1 HB3.1) hW));generalize X[0]=dd at *;generalize Nv p dd=P at *;have xY:=AB (fun W (hW:AU W3 W)=>NJ.1 (.slice Ao OL.length co) OL (P.getD 0 AY) W (bT (bT HB1.1 HB3.1) hW) (QB.1.read.mono (bT HB3.1 hW)) eP.1 nv);generalize P.getD 0 AY=pt at *;have iE:=AB hhm;have kp:(0:Int)<P.length:=AA
      have kp3:0<P.length:=AA
      have kp2:¬ P=[]:=fun e=>by rw [e] at hpl;simp at hpl
      have X1:=Dt.1.keep HB3.1;clear hrs hne hhd hdd nv hhm hRl
      try clear BJ BK BL BQ
      obtain ⟨BJ,BK,BL,BQ,-⟩:=X1.Az;go_upto_region 12 with fail;refine D9 (W3) (.run 9 0 0 (.call 9 1023 (.take 10 2047 (.call 11 4095 (.call 12 8191 (.take 13 16383 (.take 14 32767 (.done)))))))) fun CQ QR Ae Aj hS=>?_
      iterate 9 refine Ak ?_
      refine BN ?_;clear hS;intro K hK AP;go_simp;refine (ZR.1 _ AP.out).mono ?_;rintro e BZ ⟨b9,o9,c9,rfl,BU,e10,e11,hl9⟩;have hS:Since W3 BZ:=bT (w:=W3) AP.out BU;clear AP;refine hK.out _ _ hS (fun _=>?_);clear hK K
      try simp only [pu]
      refine Ak ?_;refine BN ?_;clear hS;intro K hK AP;go_simp;refine hK.out _ _ AP.out (fun hS=>?_);clear hK K AP
      try simp only [pu]
      refine BN ?_;clear hS;intro K hK AP;go_simp;refine (xY.1 _ AP.out).mono ?_;rintro e wr2 ⟨⟨n9,rfl,hn9,hh9⟩,Du⟩;have hS:Since W3 wr2:=bT (w:=W3) AP.out Du;clear AP;refine hK.out _ _ hS (fun _=>?_);clear hK K
      try simp only [pu]
      iterate 2 refine Ak ?_
      refine D5 ?_;clear hS Aj Ae;intro hB;obtain ⟨W5,IZ⟩:∃ W:World,W=wr2:=⟨_,rfl⟩;rw [<- IZ] at hB ⊢;obtain ⟨Ce,Ip,Rl⟩:=CG (bT HB3.1 hB) (MN.1.keep hB) (gB Qj.1 hB);replace c0:=KL hB c0;have jE:b<W5.heap.size:=by have:=hB.size;omega
      have QA:w4.heap.size<=W5.heap.size:=by have:=hB.size;omega
      have oV:w1.heap.size<=W5.heap.size:=AA
      rw [iE.1] at hh9;have oW:=AB hh9;have auU:n9<=512:=AA
      have xZ:IntKind.i64.wrap (1+((n9:Int)-1))=(n9:Int):=by rw [Jw _ AA];omega
      try rw [xZ]
      have hbl:n9<L2.length:=by have:=HD.1.len;omega
      clear hB BU Du IZ X1 BJ BK BL BQ ZR xY HB3 MN Qj anv e10 e11 hl9 d0 wC YP kz kn kp kp2 kp3 hh9 xZ hpl alQ;obtain ⟨g',Gj,-,hgl,-,hce⟩:=Own.Ol Ip.1.own AA;injection Gj with Gj;injection Gj with Gj _ _;subst Gj;obtain ⟨-,-,e2,-⟩:=hce n9 hbl;have Ky:=Ip.1.inn _ (BO hbl);have hse:=(HZ.1 _ (BO hbl)).1;have hNl:L2[n9].inn.length<=512:=by
       have:=congrArg List.length (HD.1.inn n9 hbl)
       rw [CV] at this;rw [this];refine EG (SC _ _) ?_;unfold aO;refine EG (SC _ _) ?_;rw [GH];omega
      have xR:=AB (show Ints w4 (BF ⟨some ⟨bl,ol,none⟩,X.length,xc⟩) X from (Oa.1.2 _ HCm.1).sl);have Sv:=AB (fun (Oi:SV) (h9:∀ q,(BF Oi).ownBlock=some q->w4.heap.size<=q)=>show ∀ x∈L2.set n9 {L2[n9] with inn:=L2[n9].inn++[((X,⟨some ⟨bl,ol,none⟩,X.length,xc⟩):List Int×SV)],iv:=Oi},(∀ g,(BF x.iv).ownBlock=some g->w4.heap.size<=g)/\x.av=sv0/\(∀ d∈x.inn,d∈CL)/\x.tw=0/\Own w1 w.heap.size 3 1 DY (BF x.ov) x.out from fun x hx=>by
       rcases UE hx with ⟨rfl,_⟩ | ⟨q,hq,_,rfl⟩
       ·obtain ⟨z1,z2,z3,z4,z5⟩:=HZ.1 _ (BO hbl);refine ⟨h9,z2,fun d hd=>?_,z4,z5⟩;rcases GI.1 hd with hd | hd
        · exact z3 d hd
        · rw [Eb] at hd;subst hd;exact HCm.1
       · exact HZ.1 _ (BO hq))
      obtain ⟨iv,hiv⟩:=BI (L2[n9].iv);obtain ⟨N,hN⟩:=BI (L2[n9].inn);rw [hiv,hN] at Ky;rw [hiv] at e2 hse;rw [hN] at hNl;obtain ⟨ia,Ld,ic⟩:=iv;unfold BF at Ky e2 hse;obtain ⟨yw,ZN,Qq,Gi⟩:=DW hiv hN hse Ky;clear hiv hN hce hse Ky;have kb1:(n9:Int)<L.length:=AA
      have kb2:0<=(n9:Int):=AA
      have hsh:(N++[((X,⟨some ⟨bl,ol,none⟩,X.length,xc⟩):List Int×SV)]).length=N.length+1:=by simp
      have ED:=AB hsh;clear hsh;go_upto_region 13 with fail;refine PE (w1.heap.size) (W5) (.run 6 0 0 (.run 3 7 63 (.two 6 1023 (.call 10 2047 (.call 11 4095 (.call 12 8191 (.take 13 16383 (.take 14 32767 (.call 15 65535 (.done))))))) 10 1983 (.two 6 2047 (.call 11 4095 (.call 12 8191 (.take 13 16383 (.take 14 32767 (.call 15 65535 (.done)))))) 11 4031 (.call 6 4095 (.call 12 8191 (.take 13 16383 (.take 14 32767 (.call 15 65535 (.done)))))))))) fun CQ QR Ae Aj hS=>?_
      iterate 9 refine Ak ?_
      refine MQ (i:=6) (j:=10) (ET Ae rfl) (ET Ae rfl) (fun K hK=>?_) (fun K hK=>?_)
      ·have AP:=AB hS;clear hS;refine En (Eh rfl) ?_;go_simp;refine hK.out _ _ AP.out (fun hS=>?_);clear hK K AP
       try simp only [pu]
       refine BN ?_;clear hS;intro K hK AP;go_simp;refine hK.out _ _ AP.out (fun hS=>?_);clear hK K AP
       try simp only [pu]
       refine BN ?_;clear hS;intro K hK AP;go_simp;refine hK.out _ _ (Ej AA AP.out _) (fun hS=>?_);clear hK K AP
       try simp only [pu]
       refine BN ?_;clear hS;intro K hK AP;refine GK (.tmp 68) (.tmp 73) _ rfl (base:=w1.heap.size) Yk WS Yj rfl ((Gi.1.keep (bD (bR W5))).alloc _) rfl (l2:=[((X,⟨some ⟨bl,ol,none⟩,X.length,xc⟩):List Int×SV)]) (Sl.lit (n:=1) (AO.made rfl _ _) rfl (D7 AA)) Dl Dl DR ?_;intro v5 w5 Dj hg5 G5;obtain ⟨A5,c5,hv5,-⟩:=Own.GU Dj;rw [ED.1] at hv5;subst hv5;have hown5:=Own.grown ((Ip.1.own.keep (bD (bR W5))).alloc _) hg5 (fun g hg=>Own.apart Ip.1.own Gi.1 Aw g hg);obtain ⟨g',hg',-,Ri,G8,Hw⟩:=Own.Ol hown5 AA;injection hg' with hg';injection hg' with hg' _ _;subst hg';obtain ⟨-,-,f2,-⟩:=Hw n9 hbl;have hf2:=G8 (n9*4+2);obtain ⟨UG,Va,YR⟩:=CG (GY.abl Aw (Ip.1.keep (bA (bD (bR W5)) _)) hbl (Oi:=⟨A5,N.length+1,c5⟩) (c:=(X,⟨some ⟨bl,ol,none⟩,X.length,xc⟩)) ZI ZH Z9 (xR.1)) (gS (jG (gA (gD Rl.1) _) hg5 (fun q hq=>Qq.1 q hq)) (n9*4+2) (.slice A5 (N.length+1) c5)) (show ∀ q,(Value.slice A5 (N.length+1) c5).ownBlock=some q->w4.heap.size<=q from jH G5 Qq.1 DR);have hS:E8 (w1.heap.size) W5 w5:=Below.grown (show Below w1.heap.size W5 _ from AP.out) hg5 (EG oV (show Below w1.heap.size W5 _ from AP.out).size) (fun g hg=>(Gi.1.lt g hg).1);clear Dj hg5 G5 hown5 Hw G8 e2;clear AP;refine hK.out _ _ hS (fun _=>?_);clear hK K
       try simp only [pu]
       iterate 2 refine Ak ?_
       refine BN ?_;clear hS;intro K hK AP;go_simp;refine hK.out _ _ (by unfold E8;have h:Below _ _ _:=AP.out;repeat (first | with_reducible assumption | with_reducible exact Below.refl _ _ | with_reducible refine JG ?_ Jv _ | with_reducible refine Below.drew ?_ | with_reducible refine Ej AA ?_ _ | exact h)) ?_;intro hS;clear hK K AP
       try simp only [pu]
       refine J3 ?_;clear hS Aj Ae;intro hB;go_wp2;go_roundw
       case rel => exact ⟨j+1,_,AA,BG,by rw [P7];exact hl3,UG.1,by rw [Yy.1];exact HD.1.inner Rh.1 hbl X ⟨some ⟨bl,ol,none⟩,X.length,xc⟩ ⟨A5,N.length+1,c5⟩ oW.1,Sv.1 ⟨A5,N.length+1,c5⟩ YR.1,Va.1⟩
       case measure => exact BH
      ·have AP:=AB hS;clear hS;refine En (Eh rfl) ?_;go_simp;refine hK.out _ _ AP.out (fun hS=>?_);clear hK K AP
       try simp only [pu]
       refine MQ (i:=6) (j:=11) (ET Ae rfl) (ET Ae rfl) (fun K hK=>?_) (fun K hK=>?_)
       ·have AP:=AB hS;clear hS;refine En (Eh rfl) ?_;go_simp;refine hK.out _ _ AP.out (fun hS=>?_);clear hK K AP
        try simp only [pu]
        refine BN ?_;clear hS;intro K hK AP;go_simp;refine hK.out _ _ (Ej AA AP.out _) (fun hS=>?_);clear hK K AP
        try simp only [pu]
        refine BN ?_;clear hS;intro K hK AP;refine GK (.tmp 68) (.tmp 73) _ rfl (base:=w1.heap.size) Yk WS Yj rfl ((Gi.1.keep (bD (bR W5))).alloc _) rfl (l2:=[((X,⟨some ⟨bl,ol,none⟩,X.length,xc⟩):List Int×SV)]) (Sl.lit (n:=1) (AO.made rfl _ _) rfl (D7 AA)) Dl Dl DR ?_;intro v5 w5 Dj hg5 G5;obtain ⟨A5,c5,hv5,-⟩:=Own.GU Dj;rw [ED.1] at hv5;subst hv5;have hown5:=Own.grown ((Ip.1.own.keep (bD (bR W5))).alloc _) hg5 (fun g hg=>Own.apart Ip.1.own Gi.1 Aw g hg);obtain ⟨g',hg',-,Ri,G8,Hw⟩:=Own.Ol hown5 AA;injection hg' with hg';injection hg' with hg' _ _;subst hg';obtain ⟨-,-,f2,-⟩:=Hw n9 hbl;have hf2:=G8 (n9*4+2);obtain ⟨UG,Va,YR⟩:=CG (GY.abl Aw (Ip.1.keep (bA (bD (bR W5)) _)) hbl (Oi:=⟨A5,N.length+1,c5⟩) (c:=(X,⟨some ⟨bl,ol,none⟩,X.length,xc⟩)) ZI ZH Z9 (xR.1)) (gS (jG (gA (gD Rl.1) _) hg5 (fun q hq=>Qq.1 q hq)) (n9*4+2) (.slice A5 (N.length+1) c5)) (show ∀ q,(Value.slice A5 (N.length+1) c5).ownBlock=some q->w4.heap.size<=q from jH G5 Qq.1 DR);have hS:E8 (w1.heap.size) W5 w5:=Below.grown (show Below w1.heap.size W5 _ from AP.out) hg5 (EG oV (show Below w1.heap.size W5 _ from AP.out).size) (fun g hg=>(Gi.1.lt g hg).1);clear Dj hg5 G5 hown5 Hw G8 e2;clear AP;refine hK.out _ _ hS (fun _=>?_);clear hK K
        try simp only [pu]
        iterate 2 refine Ak ?_
        refine BN ?_;clear hS;intro K hK AP;go_simp;refine hK.out _ _ (by unfold E8;have h:Below _ _ _:=AP.out;repeat (first | with_reducible assumption | with_reducible exact Below.refl _ _ | with_reducible refine JG ?_ Jv _ | with_reducible refine Below.drew ?_ | with_reducible refine Ej AA ?_ _ | exact h)) ?_;intro hS;clear hK K AP
        try simp only [pu]
        refine J3 ?_;clear hS Aj Ae;intro hB;go_wp2;go_roundw
        case rel => exact ⟨j+1,_,AA,BG,by rw [P7];exact hl3,UG.1,by rw [Yy.1];exact HD.1.inner Rh.1 hbl X ⟨some ⟨bl,ol,none⟩,X.length,xc⟩ ⟨A5,N.length+1,c5⟩ oW.1,Sv.1 ⟨A5,N.length+1,c5⟩ YR.1,Va.1⟩
        case measure => exact BH
       ·have AP:=AB hS;clear hS;refine En (Eh rfl) ?_;go_simp;refine hK.out _ _ (Ej AA AP.out _) (fun hS=>?_);clear hK K AP
        try simp only [pu]
        refine BN ?_;clear hS;intro K hK AP;go_simp;refine hK.out _ _ AP.out (fun hS=>?_);clear hK K AP
        try simp only [pu]
        refine BN ?_;clear hS;intro K hK AP;refine GK (.tmp 68) (.tmp 73) _ rfl (base:=w1.heap.size) Yk WS Yj rfl ((Gi.1.keep (bD (bR W5))).alloc _) rfl (l2:=[((X,⟨some ⟨bl,ol,none⟩,X.length,xc⟩):List Int×SV)]) (Sl.lit (n:=1) (AO.made rfl _ _) rfl (D7 AA)) Dl Dl DR ?_;intro v5 w5 Dj hg5 G5;obtain ⟨A5,c5,hv5,-⟩:=Own.GU Dj;rw [ED.1] at hv5;subst hv5;have hown5:=Own.grown ((Ip.1.own.keep (bD (bR W5))).alloc _) hg5 (fun g hg=>Own.apart Ip.1.own Gi.1 Aw g hg);obtain ⟨g',hg',-,Ri,G8,Hw⟩:=Own.Ol hown5 AA;injection hg' with hg';injection hg' with hg' _ _;subst hg';obtain ⟨-,-,f2,-⟩:=Hw n9 hbl;have hf2:=G8 (n9*4+2);obtain ⟨UG,Va,YR⟩:=CG (GY.abl Aw (Ip.1.keep (bA (bD (bR W5)) _)) hbl (Oi:=⟨A5,N.length+1,c5⟩) (c:=(X,⟨some ⟨bl,ol,none⟩,X.length,xc⟩)) ZI ZH Z9 (xR.1)) (gS (jG (gA (gD Rl.1) _) hg5 (fun q hq=>Qq.1 q hq)) (n9*4+2) (.slice A5 (N.length+1) c5)) (show ∀ q,(Value.slice A5 (N.length+1) c5).ownBlock=some q->w4.heap.size<=q from jH G5 Qq.1 DR);have hS:E8 (w1.heap.size) W5 w5:=Below.grown (show Below w1.heap.size W5 _ from AP.out) hg5 (EG oV (show Below w1.heap.size W5 _ from AP.out).size) (fun g hg=>(Gi.1.lt g hg).1);clear Dj hg5 G5 hown5 Hw G8 e2;clear AP;refine hK.out _ _ hS (fun _=>?_);clear hK K
        try simp only [pu]
        iterate 2 refine Ak ?_
        refine BN ?_;clear hS;intro K hK AP;go_simp;refine hK.out _ _ (by unfold E8;have h:Below _ _ _:=AP.out;repeat (first | with_reducible assumption | with_reducible exact Below.refl _ _ | with_reducible refine JG ?_ Jv _ | with_reducible refine Below.drew ?_ | with_reducible refine Ej AA ?_ _ | exact h)) ?_;intro hS;clear hK K AP
        try simp only [pu]
        refine J3 ?_;clear hS Aj Ae;intro hB;go_wp2;go_roundw
        case rel => exact ⟨j+1,_,AA,BG,by rw [P7];exact hl3,UG.1,by rw [Yy.1];exact HD.1.inner Rh.1 hbl X ⟨some ⟨bl,ol,none⟩,X.length,xc⟩ ⟨A5,N.length+1,c5⟩ oW.1,Sv.1 ⟨A5,N.length+1,c5⟩ YR.1,Va.1⟩
        case measure => exact BH
     ·have hrs:=HRs.1;rw [AZ AA,MC] at hrs;have Yy:=AB hrs;clear hrs;go_wp2;go_roundw
      case rel => exact ⟨j+1,L2,AA,BG,hl3,MN.1,by rw [Yy.1];exact HD.1,HZ.1,Qj.1⟩
      case measure => exact BH
    ·have hjj:j=(Cb p).length:=by have:=HLc.1;omega
     have hd:=HD.1;rw [hjj,am3] at hd;have HD6:=AB hd;have hXB:w.heap.size<w1.heap.size:=Dt.1.lt;clear hd HD hjj;go_wp2_with fail;go_loopw [10] (fun i wr=>∃ (k:Nat) (L3:List AD),k<=p.nodes.length/\i=.int .i64 k/\L3.length=L.length/\GY 117 w4 wr w1.heap.size (.slice (some ⟨gL,0,none⟩) L.length c) L3/\Ie p L3 O (Nl p) (p.nodes.take k)/\(∀ x∈L3,(∀ g,(BF x.av).ownBlock=some g->w4.heap.size<=g)/\(∀ d∈x.inn,d∈CL)/\x.tw=0/\Own w1 w.heap.size 3 1 DY (BF x.ov) x.out)/\w4.grownBy wr (some gL)) (fun i _=>p.nodes.length-(intOf i).toNat)
     case atStart => exact ⟨0,L2,BX _,rfl,hl3,HA.1,by rw [OD];exact HD6.1,(fun x hx=>by
      obtain ⟨e1,e2,e3,e4,e5⟩:=HZ.1 x hx;exact ⟨(fun g hg=>by rw [e2] at hg;cases hg),e3,e4,e5⟩),HG.1⟩
     case round =>
      clear HA HD6 HZ HG HB hzp;obtain ⟨k,L3,hk,rfl,hl4,had,hdv,hz,hg⟩:=hrel;obtain ⟨wq,rfl⟩:=BR wr;obtain ⟨HA,HD,HZ,HG,HB⟩:=I4 had hdv hz hg (show AU w1 wq from bG HB4.1 hg (fun g hg=>by have:=DV hg;omega));have hzq:w4.heap.size<=wq.heap.size:=hg.size;have X1:=Dt.1.keep HB.1;clear had hdv hz hg
      try clear BJ BK BL BQ
      obtain ⟨BJ,BK,BL,BQ,-⟩:=X1.Az;by_cases hlk:k<p.nodes.length
      ·obtain ⟨b,o,rfl,hlb0,c0,c1,c2⟩:=(HRn.1).nd hlk;have azB:b<w1.heap.size:=AA
       have htk:p.nodes.take (k+1)=p.nodes.take k++[p.nodes[k]]:=Em hlk;have nv:=HV.1.uU (BO hlk);generalize p.nodes[k]=nd at *;obtain ⟨Ei,Yw,Kz,abk,HC2,iF,YK⟩:=WI htk nv c0 c1 c2 (fun W (hW:AU w W)=>ZP.1 nd.id W hW) (fun h0=>HD.1.pass nd h0);clear htk nv c0 c1 c2;obtain ⟨dg,hdg⟩:=BI (Oe p.AQ nd.id);rw [hdg] at iF YK;have pq:=AB hdg;clear hdg;have c0:=KL (bT HB1.1 HB.1) Kz.1;have hlb:b<wq.heap.size:=AA
       go_upto_region 17 with fail;refine D9 (wq) (.run 7 0 0 (.call 7 255 (.take 8 511 (.done)))) fun CQ QR Ae Aj hS=>?_
       iterate 7 refine Ak ?_
       refine II (iF.1 _ (bT (bT HB1.1 HB.1) hS)) ?_;clear hS;intro BZ BU hS;refine Ak ?_;refine D5 ?_;clear hS Aj Ae;intro hB;obtain ⟨W3,hW3⟩:∃ W:World,W=BZ:=⟨_,rfl⟩;rw [<- hW3] at hB BU ⊢;obtain ⟨HB3,MN,Qj⟩:=CG (bT HB.1 hB) (HA.1.keep hB) (gB HG.1 hB);have YP:b<W3.heap.size:=by have:=hB.size;omega
       have hz3:w4.heap.size<=W3.heap.size:=by have:=hB.size;omega
       clear hB BU hW3 X1 BJ BK BL BQ HB HA HG hzq c0 hlb iF;by_cases h0:dg=0
       ·subst h0;have xY:=AB (fun W (hW:AU W3 W)=>NJ.1 (.slice Ao OL.length co) OL nd.pt W (bT (bT HB1.1 HB3.1) hW) (QB.1.read.mono (bT HB3.1 hW)) eP.1 Yw.1);have X1:=Dt.1.keep HB3.1;have c0:=KL (bT HB1.1 HB3.1) Kz.1;have c1:=KL (bT HB1.1 HB3.1) abk.1;have c2:=KL (bT HB1.1 HB3.1) HC2.1;clear YK
        try clear BJ BK BL BQ
        obtain ⟨BJ,BK,BL,BQ,-⟩:=X1.Az;go_upto_region 18 with fail;refine D9 (W3) (.run 8 0 0 (.call 8 511 (.take 9 1023 (.take 10 2047 (.done))))) fun CQ QR Ae Aj hS=>?_
        iterate 8 refine Ak ?_
        refine BN ?_;clear hS;intro K hK AP;go_simp;refine (xY.1 _ AP.out).mono ?_;rintro e BZ ⟨⟨n9,rfl,hn9,hh9⟩,BU⟩;have hS:Since W3 BZ:=bT (w:=W3) AP.out BU;clear AP;refine hK.out _ _ hS (fun _=>?_);clear hK K
        try simp only [pu]
        iterate 2 refine Ak ?_
        refine D5 ?_;clear hS Aj Ae;intro hB;obtain ⟨W5,IZ⟩:∃ W:World,W=BZ:=⟨_,rfl⟩;rw [<- IZ] at hB ⊢;obtain ⟨Ce,Ip,Rl⟩:=CG (bT HB3.1 hB) (MN.1.keep hB) (gB Qj.1 hB);have jE:b<W5.heap.size:=by have:=hB.size;omega
        have QA:w4.heap.size<=W5.heap.size:=by have:=hB.size;omega
        have oV:w1.heap.size<=W5.heap.size:=AA
        have oW:=AB hh9;have auU:n9<=512:=AA
        have xZ:IntKind.i64.wrap (1+((n9:Int)-1))=(n9:Int):=by rw [Jw _ AA];omega
        try rw [xZ]
        have hbl:n9<L3.length:=by have:=HD.1.len;omega
        clear hB BU IZ X1 BJ BK BL BQ xY HB3 MN Qj YP hh9 xZ c0 c1 c2;obtain ⟨g',Gj,-,hgl,-,hce⟩:=Own.Ol Ip.1.own AA;injection Gj with Gj;injection Gj with Gj _ _;subst Gj;obtain ⟨-,-,-,e2⟩:=hce n9 hbl;have Ky:=Ip.1.EP _ (BO hbl);have hse:=(HZ.1 _ (BO hbl)).1;have hNl:L3[n9].EP.length<=256:=by
         rw [HD.1.EP n9 hbl,CV];exact EG (SC _ _) jw
        have Sv:=AB (fun (OV:SV) (h9:∀ q,(BF OV).ownBlock=some q->w4.heap.size<=q)=>show ∀ x∈L3.set n9 {L3[n9] with EP:=L3[n9].EP++[nd.id],av:=OV},(∀ g,(BF x.av).ownBlock=some g->w4.heap.size<=g)/\(∀ d∈x.inn,d∈CL)/\x.tw=0/\Own w1 w.heap.size 3 1 DY (BF x.ov) x.out from fun x hx=>by
         rcases UE hx with ⟨rfl,_⟩ | ⟨q,hq,_,rfl⟩
         ·obtain ⟨z1,z2,z3,z4⟩:=HZ.1 _ (BO hbl);exact ⟨h9,z2,z3,z4⟩
         · exact HZ.1 _ (BO hq))
        obtain ⟨iv,hiv⟩:=BI (L3[n9].av);obtain ⟨N,hN⟩:=BI (L3[n9].EP);rw [hiv,hN] at Ky;rw [hiv] at e2 hse;rw [hN] at hNl;obtain ⟨ia,Ld,ic⟩:=iv;unfold BF at Ky e2 hse;obtain ⟨yw,ZN,Qq,Gi⟩:=DW hiv hN hse Ky;clear hiv hN hce hse Ky;have kb1:(n9:Int)<L.length:=AA
        have kb2:0<=(n9:Int):=AA
        have hsh:(N++[nd.id]).length=N.length+1:=by simp
        have ED:=AB hsh;clear hsh;have X1:=Dt.1.keep Ce.1;have c0:=KL (bT HB1.1 Ce.1) Kz.1
        try clear BJ BK BL BQ
        obtain ⟨BJ,BK,BL,BQ,-⟩:=X1.Az;go_upto_region 19 with fail;refine PE (w1.heap.size) (W5) (.run 6 0 0 (.run 6 7 63 (.two 6 8191 (.call 13 16383 (.call 14 32767 (.take 15 65535 (.take 16 131071 (.call 17 262143 (.done)))))) 13 16319 (.call 6 16383 (.call 14 32767 (.take 15 65535 (.take 16 131071 (.call 17 262143 (.done))))))))) fun CQ QR Ae Aj hS=>?_
        iterate 12 refine Ak ?_
        refine MQ (i:=6) (j:=13) (ET Ae rfl) (ET Ae rfl) (fun K hK=>?_) (fun K hK=>?_)
        ·have AP:=AB hS;clear hS;refine En (Eh rfl) ?_;go_simp;refine hK.out _ _ AP.out (fun hS=>?_);clear hK K AP
         try simp only [pu]
         refine BN ?_;clear hS;intro K hK AP;go_simp;refine hK.out _ _ (Ej AA AP.out _) (fun hS=>?_);clear hK K AP
         try simp only [pu]
         refine BN ?_;clear hS;intro K hK AP;refine GK (.tmp 109) (.tmp 116) _ rfl (base:=w1.heap.size) Jk JV Jl rfl ((Gi.1.keep (bD (bR W5))).alloc _) rfl (l2:=[nd.id]) (Sl.lit (n:=1) (AO.made rfl _ _) rfl (D7 AA)) Dl Dl DR ?_;intro v5 w5 Dj hg5 G5;obtain ⟨A5,c5,hv5,-⟩:=Own.GU Dj;rw [ED.1] at hv5;subst hv5;have hown5:=Own.grown ((Ip.1.own.keep (bD (bR W5))).alloc _) hg5 (fun g hg=>Own.apart Ip.1.own Gi.1 Aw g hg);obtain ⟨g',hg',-,Ri,G8,Hw⟩:=Own.Ol hown5 AA;injection hg' with hg';injection hg' with hg' _ _;subst hg';obtain ⟨-,-,-,f2⟩:=Hw n9 hbl;have hf2:=G8 (n9*4+3);obtain ⟨UG,Va,YR⟩:=CG (GY.vZ Aw (Ip.1.keep (bA (bD (bR W5)) _)) hbl (OV:=⟨A5,N.length+1,c5⟩) (c:=nd.id) ZI ZH Z9) (gS (jG (gA (gD Rl.1) _) hg5 (fun q hq=>Qq.1 q hq)) (n9*4+3) (.slice A5 (N.length+1) c5)) (show ∀ q,(Value.slice A5 (N.length+1) c5).ownBlock=some q->w4.heap.size<=q from jH G5 Qq.1 DR);have hS:E8 (w1.heap.size) W5 w5:=Below.grown (show Below w1.heap.size W5 _ from AP.out) hg5 (EG oV (show Below w1.heap.size W5 _ from AP.out).size) (fun g hg=>(Gi.1.lt g hg).1);clear Dj hg5 G5 hown5 Hw G8 e2;clear AP;refine hK.out _ _ hS (fun _=>?_);clear hK K
         try simp only [pu]
         iterate 2 refine Ak ?_
         refine BN ?_;clear hS;intro K hK AP;go_simp;refine hK.out _ _ (by unfold E8;have h:Below _ _ _:=AP.out;repeat (first | with_reducible assumption | with_reducible exact Below.refl _ _ | with_reducible refine JG ?_ Jv _ | with_reducible refine Below.drew ?_ | with_reducible refine Ej AA ?_ _ | exact h)) ?_;intro hS;clear hK K AP
         try simp only [pu]
         refine J3 ?_;clear hS Aj Ae;intro hB;go_wp2;go_roundw
         case rel => exact ⟨k+1,_,AA,BG,yJ,UG.1,by rw [Ei.1];exact HD.1.lone Rh.1 hbl nd ⟨A5,N.length+1,c5⟩ pq.1 oW.1,Sv.1 ⟨A5,N.length+1,c5⟩ YR.1,Va.1⟩
         case measure => exact BH
        ·have AP:=AB hS;clear hS;refine En (Eh rfl) ?_;go_simp;refine hK.out _ _ (Ej AA AP.out _) (fun hS=>?_);clear hK K AP
         try simp only [pu]
         refine BN ?_;clear hS;intro K hK AP;go_simp;refine hK.out _ _ AP.out (fun hS=>?_);clear hK K AP
         try simp only [pu]
         refine BN ?_;clear hS;intro K hK AP;refine GK (.tmp 109) (.tmp 116) _ rfl (base:=w1.heap.size) Jk JV Jl rfl ((Gi.1.keep (bD (bR W5))).alloc _) rfl (l2:=[nd.id]) (Sl.lit (n:=1) (AO.made rfl _ _) rfl (D7 AA)) Dl Dl DR ?_;intro v5 w5 Dj hg5 G5;obtain ⟨A5,c5,hv5,-⟩:=Own.GU Dj;rw [ED.1] at hv5;subst hv5;have hown5:=Own.grown ((Ip.1.own.keep (bD (bR W5))).alloc _) hg5 (fun g hg=>Own.apart Ip.1.own Gi.1 Aw g hg);obtain ⟨g',hg',-,Ri,G8,Hw⟩:=Own.Ol hown5 AA;injection hg' with hg';injection hg' with hg' _ _;subst hg';obtain ⟨-,-,-,f2⟩:=Hw n9 hbl;have hf2:=G8 (n9*4+3);obtain ⟨UG,Va,YR⟩:=CG (GY.vZ Aw (Ip.1.keep (bA (bD (bR W5)) _)) hbl (OV:=⟨A5,N.length+1,c5⟩) (c:=nd.id) ZI ZH Z9) (gS (jG (gA (gD Rl.1) _) hg5 (fun q hq=>Qq.1 q hq)) (n9*4+3) (.slice A5 (N.length+1) c5)) (show ∀ q,(Value.slice A5 (N.length+1) c5).ownBlock=some q->w4.heap.size<=q from jH G5 Qq.1 DR);have hS:E8 (w1.heap.size) W5 w5:=Below.grown (show Below w1.heap.size W5 _ from AP.out) hg5 (EG oV (show Below w1.heap.size W5 _ from AP.out).size) (fun g hg=>(Gi.1.lt g hg).1);clear Dj hg5 G5 hown5 Hw G8 e2;clear AP;refine hK.out _ _ hS (fun _=>?_);clear hK K
         try simp only [pu]
         iterate 2 refine Ak ?_
         refine BN ?_;clear hS;intro K hK AP;go_simp;refine hK.out _ _ (by unfold E8;have h:Below _ _ _:=AP.out;repeat (first | with_reducible assumption | with_reducible exact Below.refl _ _ | with_reducible refine JG ?_ Jv _ | with_reducible refine Below.drew ?_ | with_reducible refine Ej AA ?_ _ | exact h)) ?_;intro hS;clear hK K AP
         try simp only [pu]
         refine J3 ?_;clear hS Aj Ae;intro hB;go_wp2;go_roundw
         case rel => exact ⟨k+1,_,AA,BG,yJ,UG.1,by rw [Ei.1];exact HD.1.lone Rh.1 hbl nd ⟨A5,N.length+1,c5⟩ pq.1 oW.1,Sv.1 ⟨A5,N.length+1,c5⟩ YR.1,Va.1⟩
         case measure => exact BH
       ·have h1:(dg == 0)=false:=by simpa using h0
        have pz:=AB (YK.1 h0);clear h0 YK;go_wp2;go_roundw
        case rel => exact ⟨k+1,L3,AA,BG,hl4,MN.1,by rw [Ei.1];exact pz.1,HZ.1,Qj.1⟩
        case measure => exact BH
      ·have hkk:k=p.nodes.length:=AA
       have hd:=HD.1;rw [hkk,I5] at hd;have HDf:=AB hd;have hz1:=HB1.1.size;have HW:=AB (show xX wq w.heap.size (.slice (some ⟨gL,0,none⟩) L.length c) L3 from ⟨HA.1.own.EM hz1,fun x hx=>(HZ.1 x hx).2.2.2.keep HB.1,fun x hx=>(HA.1.inn x hx).EM hz1,fun x hx d hd=>by
        have hm:=(HZ.1 x hx).2.1 d hd;have:=Own.grown (Oa.1.2 d hm) HG.1 (fun g hg=>Own.apart (Oa.1.2 d hm) HL4.1 Aw g hg)
        exact Own.EM this AA,fun x hx=>(HA.1.EP x hx).EM hz1⟩)
       clear hd hkk;go_wp2;go_ret;exact ⟨some ⟨gL,0,none⟩,c,L3,by rw [hl4];rfl,bT HB1.1 HB.1,by rw [hl4];exact HW.1,by rw [oU.1];exact HDf.1,fun x hx=>(HZ.1 x hx).2.2.1⟩
