import Derived.Test.YtpempeioeiaijaaGreatJ27
set_option linter.unusedSimpArgs false
set_option linter.unusedVariables false
set_option maxRecDepth 100000
set_option maxHeartbeats 8000000
namespace Go.Proofs.YtpempeioeiaijaaGreat
open Go.RowKit Go.Sort Tryz
theorem D6.ayd {w:World} {B:Nat} {vn va:Value} {p:Pl} {ol:List (Ar×SV)} (hn:Own w B 47 3 PD vn p.nodes) (ha:Own w B 50 6 Ja va ol) (hv:∀ y∈ol,CZ w (BF y.2) y.1.via) (he:ol.map (·.1)=p.AQ) (hf:p.faces=[]):D6 w (.agg #[vn,va,.slice none 0 0]) p:=by
 refine ⟨vn,va,.slice none 0 0,ol.map jB,rfl,?_,hn.sl,⟨?_,fun k hk=>?_⟩,by rw [hf];exact Sl.nil w⟩
 · rw [IW,<- he];rfl
 ·have:=ha.sl
  rw [CV,aau];exact this
 ·have hk':k<ol.length:=by simpa using hk
  rw [Iu];exact hv _ (BO hk')
theorem Row.put {w:World} {A:Option Addr} {xs:List Value} {g i:Nat} {u:Value} (h:Row w A xs) (hz:∀ j,j<3->∃ a n c,w.cell? ⟨g,j,none⟩=some (.slice a n c)) (hi:i<3) (hf:∀ j v,xs[j]? = some v->j<3->∃ n,v=.int .i64 n):Row (w.setCell ⟨g,i,none⟩ u) A xs:=by
 intro hne;obtain ⟨b,o,rfl,hlt,hc⟩:=h hne;refine ⟨b,o,rfl,by simpa using hlt,fun j v hj=>?_⟩;have h1:=hc j v hj;by_cases e:(⟨g,i,none⟩:Addr)=⟨b,o+j,none⟩
 ·injection e with e1 e2 _;subst e1;obtain ⟨n,rfl⟩:=hf j v hj AA;obtain ⟨a,m,c,h2⟩:=hz (o+j) AA;rw [h2] at h1
  cases h1
 · exact (World.cell?_setCell_other w _ _ _ e).trans h1
theorem Sl.put {w:World} {v:Value} {n:Nat} {xs:List Value} {g i:Nat} {u:Value} (h:Sl w v n xs) (hz:∀ j,j<3->∃ a n c,w.cell? ⟨g,j,none⟩=some (.slice a n c)) (hi:i<3) (hf:∀ j v,xs[j]? = some v->j<3->∃ n,v=.int .i64 n):Sl (w.setCell ⟨g,i,none⟩ u) v n xs:=by
 obtain ⟨A,c,hv,h1,h2,h3⟩:=h;exact ⟨A,c,hv,h1,h2,h3.put hz hi hf⟩
theorem ag8 {α:Type} {f:α->List Value} (hf:∀ x,∀ v∈f x,∃ n,v=Value.int .i64 n) (l:List α):∀ (j:Nat) v,(l.flatMap f)[j]? = some v->j<3->∃ n,v=Value.int .i64 n:=fun j v hj _=>by
 obtain ⟨x,-,hx⟩:=Ii.1 (kQ hj);exact hf x v hx
theorem D6.put {w:World} {v:Value} {p:Pl} {g i:Nat} (h:D6 w v p) (hz:∀ j,j<3->∃ a n c,w.cell? ⟨g,j,none⟩=some (.slice a n c)) (hi:i<3) (u:Value):D6 (w.setCell ⟨g,i,none⟩ u) v p:=by
 obtain ⟨vn,va,vf,al,rfl,he,hn,⟨ha,hv⟩,hff⟩:=h;refine ⟨vn,va,vf,al,rfl,he,Sl.put hn hz hi (ag8 (fun x v hv=>?_) _),⟨Sl.put ha hz hi fun j v hj h3=>?_,fun k hk=>Sl.put (hv k hk) hz hi (ag8 (fun x v hv=>?_) _)⟩,Sl.put hff hz hi (ag8 (fun x v hv=>?_) _)⟩
 ·simp only [PD,FI,acv,or_false] at hv;rcases hv with rfl | rfl | rfl<;>exact ⟨_,rfl⟩
 · cases al with
  | nil=>simp at hj
  | cons x r =>
   rw [N7,List.getElem?_append_left (by show j<6;omega)] at hj
   match j,h3 with
   | 0,_=>exact ⟨_,(DV hj).symm⟩
   | 1,_=>exact ⟨_,(DV hj).symm⟩
   | 2,_=>exact ⟨_,(DV hj).symm⟩
 ·simp only [DK,FI,acv,or_false] at hv;rcases hv with rfl | rfl<;>exact ⟨_,rfl⟩
 ·simp only [DY,FI,acv,or_false] at hv;exact ⟨_,hv⟩
theorem AO.sl3 {w:World} {g:Nat} {a b c:Option Addr} {k1 k2 k3 m1 m2 m3:Nat} (h:AO w g 34 #[.slice a k1 m1,.slice b k2 m2,.slice c k3 m3]):∀ j,j<3->∃ a n c,w.cell? ⟨g,j,none⟩=some (.slice a n c):=fun j hj=>by
 obtain ⟨-,x1,x2,x3,-⟩:=AO.Az h
 match j,hj with
 | 0,_=>exact ⟨_,_,_,x1⟩
 | 1,_=>exact ⟨_,_,_,x2⟩
 | 2,_=>exact ⟨_,_,_,x3⟩
theorem aye (v:Value) (xs:List (SV×List Pt)) (w:World) (h:FY w v xs) (hn:xs.length<=1000000) (hs:∀ k (hk:k<xs.length),xs[k].2.length<=1000000) (hz:GZ (xs.map (·.2))≠0) :
  Calls prog 20 #[v] w (Lu w (xs.map (·.2))):=by
 have HC:=AB (fun W (hW:AU w W)=>awm v xs W (h.mono hW) hn hs hz);have hb:O1 (xs.map (·.2))=GZ (xs.map (·.2)):=by unfold O1;rw [AZ hz]
 have HZ:=AB hb;obtain ⟨⟨A,c,rfl,-⟩,-⟩:=h;generalize xs.map (·.2)=L at *;generalize GZ L=z at *;have hz':(z != 0)=true:=by simpa using hz
 have Hz:=AB hz;clear hz hb;go_enter func20,ntmps20;go_upto_region 1 with fail;obtain ⟨W1,hW⟩:∃ W:World,W=w.alloc (.cells #[.slice none 0 0,.slice none 0 0,.slice none 0 0] 34):=⟨_,rfl⟩;have X2:AO W1 w.heap.size 34 #[.slice none 0 0,.slice none 0 0,.slice none 0 0]:=by rw [hW];exact AO.made rfl _ _
 have HB1:=AB (show AU w W1 by rw [hW];exact bA (bR w) _);have DC:=AB X2;rw [<- hW];clear hW X2;go_wp2_with fail;refine (HC.1 _ HB1.1).mono ?_;rintro e w2 ⟨rfl,hb2⟩;have HB2:=AB (bT HB1.1 hb2);have EY:=AB (DC.1.keep hb2);have X3:=EY.1;clear hb2;obtain ⟨Dk,EI,EN,Gv,iC,aaY,axc⟩:=X3.Az;go_wp2_with fail;refine Iz (g:=w.heap.size) (cs:=#[.slice none 0 0,.slice none 0 0,.slice none 0 0]) rfl Na rfl rfl (AO.LG EY.1) ?_;exact Lu.bad HZ.1 Hz.1 (bS (p:=⟨w.heap.size,2,none⟩) (bS (p:=⟨w.heap.size,1,none⟩) (bS (p:=⟨w.heap.size,0,none⟩) HB2.1 (Cj _) _) (Cj _) _) (Cj _) _)
theorem ayf (v:Value) (xs:List (SV×List Pt)) (w:World) (h:FY w v xs) (hg:UN (xs.map (·.2))) :
  Calls prog 20 #[v] w (Lu w (xs.map (·.2))):=by
 have HC:=AB (fun W (hW:AU w W)=>awp v xs W (h.mono hW) hg);have HD:=AB (fun W (hW:AU w W)=>awr v xs W (h.mono hW) hg);have Lp:ah (xs.map (·.2))=KW (xs.map (·.2)):=avp fun l hl e=>by have:=hg.two l hl;rw [e] at this;simp at this
 rw [Lp] at HC;obtain ⟨⟨A,c,rfl,-⟩,-⟩:=h;generalize xs.map (·.2)=L at *;have HG:=AB hg;have LY:=AB (show aZ L=(decide (256<(KW L).length) || (decide (256<(MP L).length) || (MP L).any (fun q=>decide (66<q.length)))) from rfl);have qI:=akH L;have hTl:(KW L).length<=1048576:=by
  have h1:=acG qI (m:=L.flatten) (fun x hx=>iO (pO.1 hx));have h3:L.flatten.length<=L.length*4096:=by
   have:=aA L id 4096 (fun l hl=>hg.len l hl)
   simpa [List.flatMap_id] using this
  have h4:=hg.num;omega
 have I9:=AB (show ∀ q∈MP L,agq (KW L) q from fun q hq=>an8 hg hq);have hPl:(∀ q∈MP L,q.length<=4096)/\(MP L).length<=1048576:=by
  refine ⟨fun q hq=>?_,?_⟩
  ·obtain ⟨l,hl,x,r,-,-,-,hi,-⟩:=agp hg ((mM _).mem_iff.1 hq);exact EG hi.length_le (hg.len l hl)
  ·show (WX (Wp L)).length<=_
   rw [(mM (Wp L)).length_eq];have h3:(Wp L).length<=L.length*4096:=aA L _ 4096 (fun l hl=>EG (ang _ l) (hg.len l hl));have h4:=hg.num;omega
 have jf:=AB (show IK L=yB (KW L) (MP L) from rfl);unfold anX at HC;unfold anZ at HD;generalize KW L=T at *;generalize MP L=P at *;have NZ:=AB hPl;clear qI hg hPl Lp;go_enter func20,ntmps20;go_upto_region 1 with fail;obtain ⟨W1,hW⟩:∃ W:World,W=w.alloc (.cells #[.slice none 0 0,.slice none 0 0,.slice none 0 0] 34):=⟨_,rfl⟩;have X2:AO W1 w.heap.size 34 #[.slice none 0 0,.slice none 0 0,.slice none 0 0]:=by rw [hW];exact AO.made rfl _ _
 have HB1:=AB (show AU w W1 by rw [hW];exact bA (bR w) _);have DC:=AB X2;rw [<- hW];clear hW X2;go_wp2_with fail;refine (HC.1 _ HB1.1).mono ?_;rintro e w2 ⟨At,ct,rfl,hb2,hp2⟩;obtain ⟨HB2,EY,Fq⟩:=CG (bT HB1.1 hb2) (DC.1.keep hb2) hp2;clear hb2 hp2 HC;go_wp2_with fail;refine (HD.1 _ HB2.1).mono ?_;rintro e w7 ⟨Ay,cy,ys,rfl,hb7,hl7,VK⟩;obtain ⟨Gx,Il,NU,HLn,O5,TI⟩:=Jz (bT HB2.1 hb7) (EY.1.keep hb7) (Fq.1.mono hb7) hl7 VK (show ys.length=P.length by rw [<- VK,CV]);have hyn:ys.length<=1048576:=by rw [TI.1];exact NZ.1.2
 have wu:=AB (show ∀ k (hk:k<ys.length),ys[k].2.length<=4096 from fun k hk=>NZ.1.1 _ (by rw [<- VK];exact FZ (BO hk)));clear hb7 hl7 VK HD HB2 EY Fq DC HB1;by_cases hT:256<T.length
 ·have HZ:=AB (qH HG.1 (by rw [LY.1];simp [hT]));have hT':(256:Int)<(T.length:Int):=AA
  have X7:=Il.1;obtain ⟨EJ,EK,F7,SQ,Ob,Oc,Un⟩:=X7.Az;go_wp2_with fail;refine Iz (g:=w.heap.size) (cs:=#[.slice none 0 0,.slice none 0 0,.slice none 0 0]) rfl Na rfl rfl (AO.LG Il.1) ?_;exact Lu.bad HZ.1 Aw (bS (p:=⟨w.heap.size,2,none⟩) (bS (p:=⟨w.heap.size,1,none⟩) (bS (p:=⟨w.heap.size,0,none⟩) Gx.1 (Cj _) _) (Cj _) _) (Cj _) _)
 by_cases hY:256<ys.length
 ·have HZ:=AB (qH HG.1 (by rw [LY.1];rw [TI.1] at hY;simp [hY]));have hT':¬ (256:Int)<(T.length:Int):=AA
  have Nk:(256:Int)<(ys.length:Int):=AA
  have X7:=Il.1
  try clear EJ EK F7 SQ
  try clear Ob Oc Un
  obtain ⟨EJ,EK,F7,SQ,Ob,Oc,Un⟩:=X7.Az;go_wp2_with fail;refine Iz (g:=w.heap.size) (cs:=#[.slice none 0 0,.slice none 0 0,.slice none 0 0]) rfl Na rfl rfl (AO.LG Il.1) ?_;exact Lu.bad HZ.1 Aw (bS (p:=⟨w.heap.size,2,none⟩) (bS (p:=⟨w.heap.size,1,none⟩) (bS (p:=⟨w.heap.size,0,none⟩) Gx.1 (Cj _) _) (Cj _) _) (Cj _) _)
 have hT':¬ (256:Int)<(T.length:Int):=AA
 have Nk:¬ (256:Int)<(ys.length:Int):=AA
 go_upto_region 8 with fail;obtain ⟨w8,hw8⟩:=BR w7;rw [<- hw8] at Gx Il NU HLn ⊢;clear hw8;obtain ⟨g10,JL⟩:=BR w8.heap.size;obtain ⟨W9,hW⟩:∃ W:World,W=w8.alloc (.cells #[.slice none 0 0,.slice none 0 0,.slice none 0 0] 34):=⟨_,rfl⟩;have Ls:=AB (show AO W9 g10 34 #[.slice none 0 0,.slice none 0 0,.slice none 0 0] by rw [hW,JL];exact AO.made rfl _ _);have GX:=AB (show AU w8 W9 by rw [hW];exact bA (bR w8) _);have hgg:w8.heap.size<=g10:=AA
 rw [<- hW,<- JL];clear hW JL hT' Nk;go_upto_block 0 with fail;go_wp2_with fail;go_loopw [8] (fun u wr=>∃ (k:Nat) (An:Option Addr) (cn:Nat),k<=T.length/\u=.int .i64 k/\Own wr w8.heap.size 47 3 PD (.slice An k cn) (Nz (T.take k))/\AO wr g10 34 #[.slice An k cn,.slice none 0 0,.slice none 0 0]/\AU w8 wr) (fun u _=>T.length-(intOf u).toNat)
 case atStart => exact ⟨0,none,0,BX _,rfl,Own.nil _ _ _ _ _,Ls.1,GX.1⟩
 case round =>
  obtain ⟨k,An,cn,hk,rfl,ho,hx,hb⟩:=hrel;obtain ⟨w10,rfl⟩:=BR wr;obtain ⟨HO,HX,Hb⟩:=CG ho hx hb;clear ho hx hb Ls GX;by_cases hlt:k<T.length
  ·obtain ⟨Ax,cx,hAx,-,-,hRT⟩:=NU.1;injection hAx with hAx _ _;subst hAx;obtain ⟨b,o,rfl,az4,-⟩:=hRT.pt hlt;obtain ⟨b',o',hA2,hlb,d0,d1⟩:=(Row.mono hRT Hb.1).pt hlt;simp only [Gt,Addr.mk.injEq,and_true] at hA2;obtain ⟨rfl,rfl⟩:=hA2;have bH:=an6 hlt;have hlk:(Nz (T.take k)).length=k:=by unfold Nz;rw [CV,P9,GH];omega
   generalize T[k]=p at *;have Ei:=AB bH;have hwr:=EL ((k:Int)+1);have z1:(k:Int)<T.length:=AA
   have z2:(0:Int)<=k:=AA
   have CB:=HX.1;have abw:=Own.EX HO.1 CB Aw;have e1:=AB (fun x:Nd=>show (Nz (T.take k)++[x]).length=k+1 from by rw [Es,hlk];rfl);have hb8:=Hb.1.size;clear bH hRT;go_upto_region 11 with fail;refine PE (w8.heap.size) (w10) (.take 0 1 (.run 7 2 1 (.two 1 511 (.call 9 1023 (.call 10 2047 (.take 11 4095 (.call 12 8191 (.done))))) 9 1021 (.call 1 1023 (.call 10 2047 (.take 11 4095 (.call 12 8191 (.done)))))))) fun CQ QR Ae Aj hS=>?_;replace CB:=CB.drew
   iterate 8 refine Ak ?_
   refine MQ (i:=1) (j:=9) (ET Ae rfl) (ET Ae rfl) (fun K hK=>?_) (fun K hK=>?_)
   ·have AP:=AB hS;clear hS;refine En (Eh rfl) ?_;obtain ⟨q1,q2,q3,q4,-⟩:=AO.Az CB;go_simp;refine hK.out _ _ AP.out (fun hS=>?_);clear hK K AP
    try simp only [pu]
    refine BN ?_;clear hS;intro K hK AP;go_simp;have VR:Below (w8.heap.size) w10 (w10.drew):=AP.out;have Le:w8.heap.size<=(w10.drew).heap.size:=EG AA (show Below (w8.heap.size) w10 (w10.drew) from AP.out).size;refine hK.out _ _ (Ej AA AP.out _) (fun hS=>?_);clear hK K AP
    try replace CB:=CB.alloc (.cells #[.int .i64 ((k:Int)+1),.int .i64 p.x,.int .i64 p.y] 47)
    try replace XL:=XL.alloc (.cells #[.int .i64 ((k:Int)+1),.int .i64 p.x,.int .i64 p.y] 47)
    have XL:=AO.new (w10.drew) 47 #[.int .i64 ((k:Int)+1),.int .i64 p.x,.int .i64 p.y]
    try simp only [World.size_drew,World.size_alloc] at XL Le
    try simp only [World.alloc_drew] at CB
    try simp only [World.alloc_drew] at XL
    try simp only [pu]
    refine BN ?_;clear hS;intro K hK AP;refine GK (.tmp 38) (.tmp 46) _ rfl (base:=w8.heap.size) sV sW sZ rfl ((HO.1.keep (bD (bR w10))).alloc _) rfl (l2:=[(⟨(k:Int)+1,p⟩:Nd)]) (Sl.lit (n:=1) (AO.made rfl _ _) rfl (D7 AA)) qU qU DR ?_;intro v7 w7 Dv DN Jd;obtain ⟨A7,c7,hv7,-⟩:=Own.GU Dv;rw [e1.1] at hv7;subst hv7;rw [<- Ei.1] at Dv;have EW:=AO.grown CB DN (fun e=>abw e.symm);obtain ⟨q1,q2,q3,q4,q5,q6,q7⟩:=AO.Az EW;obtain ⟨Lh,OZ,Fv⟩:=CG (Own.far Dv (p:=⟨g10,0,none⟩) (Own.EX Dv EW Aw) (.slice A7 (k+1) c7)) (EW.EH 0 (.slice A7 (k+1) c7)) (bS (p:=⟨g10,0,none⟩) (bG (bA (bT Hb.1 (bD (bR w10))) _) DN (fun q hq=>(HO.1.lt q hq).1)) hgg (.slice A7 (k+1) c7));have hS:E8 w8.heap.size w10 w7:=Below.grown (show Below w8.heap.size w10 _ from AP.out) DN DR (fun q hq=>(HO.1.lt q hq).1);clear EW Dv DN Jd;clear AP;refine hK.out _ _ hS (fun _=>?_);clear hK K
    try simp only [pu]
    refine Ak ?_;refine BN ?_;clear hS;intro K hK AP;go_simp;refine hK.out _ _ (by unfold E8;have h:Below _ _ _:=AP.out;repeat (first | with_reducible assumption | with_reducible exact Below.refl _ _ | with_reducible refine JG ?_ Jv _ | with_reducible refine Below.drew ?_ | with_reducible refine Ej AA ?_ _ | exact h)) ?_;intro hS;clear hK K AP
    try simp only [pu]
    refine J3 ?_;clear hS Aj Ae;intro hB;go_wp2;go_roundw
    case rel => exact ⟨k+1,AA,BG,A7,c7,Lh.1,Rz,Fv.1⟩
    case measure => exact BH
   ·have AP:=AB hS;clear hS;refine En (Eh rfl) ?_;go_simp;have VR:Below (w8.heap.size) w10 (w10.drew):=AP.out;have Le:w8.heap.size<=(w10.drew).heap.size:=EG AA (show Below (w8.heap.size) w10 (w10.drew) from AP.out).size;refine hK.out _ _ (Ej AA AP.out _) (fun hS=>?_);clear hK K AP
    try replace CB:=CB.alloc (.cells #[.int .i64 ((k:Int)+1),.int .i64 p.x,.int .i64 p.y] 47)
    try replace XL:=XL.alloc (.cells #[.int .i64 ((k:Int)+1),.int .i64 p.x,.int .i64 p.y] 47)
    have XL:=AO.new (w10.drew) 47 #[.int .i64 ((k:Int)+1),.int .i64 p.x,.int .i64 p.y]
    try simp only [World.size_drew,World.size_alloc] at XL Le
    try simp only [World.alloc_drew] at CB
    try simp only [World.alloc_drew] at XL
    try simp only [pu]
    refine BN ?_;clear hS;intro K hK AP;obtain ⟨q1,q2,q3,q4,-⟩:=AO.Az CB;go_simp;refine hK.out _ _ AP.out (fun hS=>?_);clear hK K AP
    try simp only [pu]
    refine BN ?_;clear hS;intro K hK AP;refine GK (.tmp 38) (.tmp 46) _ rfl (base:=w8.heap.size) sV sW sZ rfl ((HO.1.keep (bD (bR w10))).alloc _) rfl (l2:=[(⟨(k:Int)+1,p⟩:Nd)]) (Sl.lit (n:=1) (AO.made rfl _ _) rfl (D7 AA)) qU qU DR ?_;intro v7 w7 Dv DN Jd;obtain ⟨A7,c7,hv7,-⟩:=Own.GU Dv;rw [e1.1] at hv7;subst hv7;rw [<- Ei.1] at Dv;have EW:=AO.grown CB DN (fun e=>abw e.symm);obtain ⟨q1,q2,q3,q4,q5,q6,q7⟩:=AO.Az EW;obtain ⟨Lh,OZ,Fv⟩:=CG (Own.far Dv (p:=⟨g10,0,none⟩) (Own.EX Dv EW Aw) (.slice A7 (k+1) c7)) (EW.EH 0 (.slice A7 (k+1) c7)) (bS (p:=⟨g10,0,none⟩) (bG (bA (bT Hb.1 (bD (bR w10))) _) DN (fun q hq=>(HO.1.lt q hq).1)) hgg (.slice A7 (k+1) c7));have hS:E8 w8.heap.size w10 w7:=Below.grown (show Below w8.heap.size w10 _ from AP.out) DN DR (fun q hq=>(HO.1.lt q hq).1);clear EW Dv DN Jd;clear AP;refine hK.out _ _ hS (fun _=>?_);clear hK K
    try simp only [pu]
    refine Ak ?_;refine BN ?_;clear hS;intro K hK AP;go_simp;refine hK.out _ _ (by unfold E8;have h:Below _ _ _:=AP.out;repeat (first | with_reducible assumption | with_reducible exact Below.refl _ _ | with_reducible refine JG ?_ Jv _ | with_reducible refine Below.drew ?_ | with_reducible refine Ej AA ?_ _ | exact h)) ?_;intro hS;clear hK K AP
    try simp only [pu]
    refine J3 ?_;clear hS Aj Ae;intro hB;go_wp2;go_roundw
    case rel => exact ⟨k+1,AA,BG,A7,c7,Lh.1,Rz,Fv.1⟩
    case measure => exact BH
  ·have hkn:k=T.length:=AA
   subst hkn;rw [I5] at HO;have MI:=AB HO.1;clear HO;go_upto_block 2 with fail;go_wp2_with fail;go_loopw [9] (fun u wr=>∃ (k:Nat) (ol:List (Ar×SV)) (Aa:Option Addr) (ca:Nat),k<=ys.length/\u=.int .i64 k/\ol.length=k/\ol.map (·.1)=OQ T (P.take k)/\Own wr w8.heap.size 50 6 Ja (.slice Aa k ca) ol/\(∀ y∈ol,CZ w8 (BF y.2) y.1.via)/\Own wr w8.heap.size 47 3 PD (.slice An T.length cn) (Nz T)/\AO wr g10 34 #[.slice An T.length cn,.slice Aa k ca,.slice none 0 0]/\AU w8 wr/\∀ j (hj:j<ys.length),j<k->ys[j].2.length<=66) (fun u _=>ys.length-(intOf u).toNat)
   case atStart => exact ⟨0,[],none,0,BX _,rfl,rfl,rfl,Own.nil _ _ _ _ _,(fun y h=>by cases h),MI.1,HX.1,Hb.1,fun _ _ h=>AA⟩
   case round =>
    obtain ⟨k,ol,Aa,ca,hk,rfl,hol,jJ,hoa,hov,hon,hx,hb,h66⟩:=hrel;obtain ⟨Df,rfl⟩:=BR wr;obtain ⟨Oz,eP,HA,HV⟩:=DW hol jJ hoa hov;replace MI:=AB hon;replace HX:=AB hx;replace Hb:=AB hb;have H66:=AB h66;clear hol jJ hoa hov hon hx hb h66;by_cases hlt:k<ys.length
    ·obtain ⟨⟨Ax,cx,hAx,-,-,hRL⟩,hPL⟩:=HLn.1;injection hAx with hAx _ _;subst hAx;obtain ⟨b,o,rfl,hlb0,hc0⟩:=Row.oK hRL hlt;have wU:=hPL k hlt;have ayg:=wu.1 k hlt;have H6s:=AB (fun e:ys[k].2.length<=66=>all_succ (p:=fun y:SV×List Pt=>y.2.length<=66) H66.1 hlt e);have Yz:P[k]? = some ys[k].2:=by rw [<- O5.1,List.getElem?_map,Di hlt];rfl
     have hpart:=I9.1 ys[k].2 (kQ Yz);obtain ⟨Aq,cq,hvq,hq1,hq2,xA⟩:=wU;rw [hvq] at hc0;unfold maxLen at hq2;clear hvq hRL hPL;generalize ys[k].2=q at *;have Kz:=AB hc0;have Z5:=AB xA;have z1:(k:Int)<ys.length:=AA
     have z2:(0:Int)<=k:=AA
     have hwr2:=EL ((q.length:Int)-2);have c0:=Kz.1 _ Hb.1;have hlb:b<Df.heap.size:=QS hlb0 Hb.1.size;clear hc0 xA;by_cases ani:66<q.length
     ·have ayh:(64:Int)<(q.length:Int)-2:=AA
      obtain ⟨HZ,Il,GX⟩:=CG (qH HG.1 (by rw [LY.1,OA.2 ⟨q,kQ Yz,by simpa using ani⟩];simp)) (Il.1.keep Hb.1) (bT Gx.1 Hb.1);have X7:=Il.1;clear Yz hpart
      try clear EJ EK F7 SQ
      try clear Ob Oc Un
      obtain ⟨EJ,EK,F7,SQ,Ob,Oc,Un⟩:=X7.Az;go_wp2_with fail;refine Iz (g:=w.heap.size) (cs:=#[.slice none 0 0,.slice none 0 0,.slice none 0 0]) rfl Na rfl rfl (AO.LG Il.1) ?_;exact Lu.bad HZ.1 Aw (bS (p:=⟨w.heap.size,2,none⟩) (bS (p:=⟨w.heap.size,1,none⟩) (bS (p:=⟨w.heap.size,0,none⟩) GX.1 (Cj _) _) (Cj _) _) (Cj _) _)
     have ayh:¬ (64:Int)<(q.length:Int)-2:=AA
     have ac3:=AB (H6s.1 AA);have harr:OQ T (P.take (k+1))=OQ T (P.take k)++[Wq T k q]:=by
      obtain ⟨h1,h2⟩:=List.getElem?_eq_some_iff.1 Yz;rw [an7 T h1,h2]
     obtain ⟨x,mid,y,hqe,hxT,hyT⟩:=hpart.ex;have hlast:q.getLastD ⟨0,0⟩=y:=by rw [hqe,List.getLastD_eq_getLast?,<- qc,an2];rfl
     have xB:Wq T k q=⟨(k:Int)+1,Ig T x,Ig T y,mid,0,0⟩:=by
      unfold Wq;rw [hlast,hqe,List.headD_cons,yt,List.dropLast_concat]
     rw [xB] at harr;have YT:q.length=mid.length+2:=by rw [hqe];simp
     obtain ⟨jg,qp,Ju,HNy⟩:=DW hqe harr (fun W (hW:AU w8 W)=>anc _ T x W (NU.1.mono hW) AA) (fun W (hW:AU w8 W)=>anc _ T y W (NU.1.mono hW) AA);obtain ⟨N,hN⟩:=BI (mid.length+1);have hqN:q.length=N+1:=AA
     obtain ⟨b1,o1,hAq,az5,hcq0⟩:=Z5.1.at_ (n:=2) (fun _=>rfl) (k:=0) (show 0<q.length by omega) AA;subst hAq;obtain ⟨b2,o2,hA2,NK,d0,d1⟩:=(Row.mono Z5.1 Hb.1).pt (k:=0) (show 0<q.length by omega);simp only [Gt,Addr.mk.injEq,and_true] at hA2;obtain ⟨rfl,rfl⟩:=hA2;obtain ⟨b2,o2,hA2,-,f0,f1⟩:=(Row.mono Z5.1 Hb.1).pt (k:=N) (show N<q.length by omega);simp only [Gt,Addr.mk.injEq,and_true] at hA2;obtain ⟨rfl,rfl⟩:=hA2;have e0:q[0]'(show 0<q.length by omega)=x:=by simp only [jg.1];rfl
     have e1:q[N]'(show N<q.length by omega)=y:=by
      simp only [jg.1,<- hN,List.getElem_cons_succ];rw [List.getElem_append_right (Cj _)];simp
     rw [e0] at d0 d1;rw [e1] at f0 f1;simp only [kP,RF] at d0 d1;obtain ⟨Am,hAm⟩:=BI (QW (some ⟨b1,o1,none⟩) cq 1 2);obtain ⟨Cm,jh⟩:=BI (cq-1);have hmid:=Sl.aaG I7 (show Sl w8 (.slice (some ⟨b1,o1,none⟩) q.length cq) q.length (q.flatMap DK) from ⟨_,_,rfl,hq1,hq2,Z5.1⟩) 1 N AA AA;have xC:(q.drop 1).take (N-1)=mid:=by
      rw [jg.1,List.drop_one,yt,show N-1=mid.length by omega,List.take_left]
     have hn1:N-1=mid.length:=AA
     rw [xC,hAm,jh,hn1] at hmid;have hcut:=fun W=>aaF (P:=prog) Tryz.underlying25 (e:=42) (size:=2) (fun _=>by kernel_rfl) (some ⟨b1,o1,none⟩) q.length cq 1 N AA AA hq1 (1:Int) (N:Int) rfl rfl W;rw [hAm,jh,hn1] at hcut;have wW:=AB (show CZ w8 (BF ⟨Am,mid.length,Cm⟩) mid from hmid);have hwN:IntKind.i64.wrap ((q.length:Int)-1)=N:=by rw [show ((q.length:Int)-1)=N by omega];exact Jw _ AA
     have hwr:=EL ((k:Int)+1);have z3:(N:Int)<q.length:=AA
     have z4:(0:Int)<=N:=AA
     have z5:0<q.length:=AA
     have z6:N<q.length:=AA
     have hml:mid.length<=64:=AA
     have CB:=HX.1;have n5:=Own.EX HA.1 CB Aw;have ED:=AB (fun (y:Ar×SV)=>show (ol++[y]).length=k+1 from by rw [Es,Oz.1];rfl);have ag2:ol.length<=1000000:=by rw [Oz.1];omega
     have hb8:=Hb.1.size;clear hqe harr xB hlast hpart Yz YT hqN hN e0 e1 xC hAm jh hn1 hmid hcq0 H6s hxT hyT ayg;generalize Ig T x=nx at *;generalize Ig T y=ny at *;have ac4:=AB (show ∀ y∈ol++[((⟨(k:Int)+1,nx,ny,mid,0,0⟩:Ar),(⟨Am,mid.length,Cm⟩:SV))],CZ w8 (BF y.2) y.1.via from fun y hy=>(GI.1 hy).elim (HV.1 y) (fun h=>by rw [Eb.1 h];exact wW.1));go_upto_region 18 with fail;refine PE (w8.heap.size) (Df) (.take 0 1 (.run 9 2 1 (.run 9 12 2045 (.run 7 22 2095101 (.two 1 534771711 (.call 11 534773759 (.call 21 536870911 (.take 29 1073741823 (.call 30 2147483647 (.call 31 4294967295 (.take 32 8589934591 (.call 33 17179869183 (.done)))))))) 11 534773757 (.two 1 534773759 (.call 21 536870911 (.take 29 1073741823 (.call 30 2147483647 (.call 31 4294967295 (.take 32 8589934591 (.call 33 17179869183 (.done))))))) 21 536870909 (.take 29 1073741821 (.two 1 1073741823 (.call 30 2147483647 (.call 31 4294967295 (.take 32 8589934591 (.call 33 17179869183 (.done))))) 30 2147483645 (.call 1 2147483647 (.call 31 4294967295 (.take 32 8589934591 (.call 33 17179869183 (.done))))))))))))) fun CQ QR Ae Aj hS=>?_;replace CB:=CB.drew
     iterate 26 refine Ak ?_
     refine MQ (i:=1) (j:=11) (ET Ae rfl) (ET Ae rfl) (fun K hK=>?_) (fun K hK=>?_)
     ·have AP:=AB hS;clear hS;refine En (Eh rfl) ?_;obtain ⟨q1,q2,q3,q4,-⟩:=AO.Az CB;go_simp;refine hK.out _ _ AP.out (fun hS=>?_);clear hK K AP
      try simp only [pu]
      refine BN ?_;clear hS;intro K hK AP;go_simp;refine (Ju.1 _ (Hb.1.trans AP.out)).mono ?_;rintro e BZ ⟨rfl,BU⟩;have hS:E8 (w8.heap.size) Df BZ:=(show Below (w8.heap.size) Df _ from AP.out).trans (BU.mono (EG AA (show Below (w8.heap.size) Df _ from AP.out).size));clear AP
      try replace XL:=XL.keep BU
      try replace CB:=CB.keep BU
      refine hK.out _ _ hS (fun _=>?_);clear hK K
      try simp only [pu]
      refine BN ?_;clear hS;intro K hK AP;go_simp;refine (HNy.1 _ (Hb.1.trans AP.out)).mono ?_;rintro e wr2 ⟨rfl,Du⟩;have hS:E8 (w8.heap.size) Df wr2:=(show Below (w8.heap.size) Df _ from AP.out).trans (Du.mono (EG AA (show Below (w8.heap.size) Df _ from AP.out).size));clear AP
      try replace XL:=XL.keep Du
      try replace CB:=CB.keep Du
      refine hK.out _ _ hS (fun _=>?_);clear hK K
      try simp only [pu]
      refine Ak ?_;refine BN ?_;clear hS;intro K hK AP;go_simp;have VR:Below (w8.heap.size) Df (wr2):=AP.out;have Le:w8.heap.size<=(wr2).heap.size:=EG AA (show Below (w8.heap.size) Df (wr2) from AP.out).size;refine hK.out _ _ (Ej AA AP.out _) (fun hS=>?_);clear hK K AP
      try replace CB:=CB.alloc (.cells #[.int .i64 ((k:Int)+1),.int .i64 nx,.int .i64 ny,.slice Am mid.length Cm,.int .i64 0,.int .i64 0] 50)
      try replace XL:=XL.alloc (.cells #[.int .i64 ((k:Int)+1),.int .i64 nx,.int .i64 ny,.slice Am mid.length Cm,.int .i64 0,.int .i64 0] 50)
      have XL:=AO.new (wr2) 50 #[.int .i64 ((k:Int)+1),.int .i64 nx,.int .i64 ny,.slice Am mid.length Cm,.int .i64 0,.int .i64 0]
      try simp only [World.size_drew,World.size_alloc] at XL Le
      try simp only [World.alloc_drew] at CB
      try simp only [World.alloc_drew] at XL
      try simp only [pu]
      refine BN ?_;clear hS;intro K hK AP;refine GK (.tmp 65) (.tmp 94) _ rfl (base:=w8.heap.size) Uw Ql Vw rfl ((((HA.1.keep (bD (bR Df))).keep BU).keep Du).alloc _) rfl (l2:=[((⟨(k:Int)+1,nx,ny,mid,0,0⟩:Ar),(⟨Am,mid.length,Cm⟩:SV))]) (Sl.lit (n:=1) (AO.made rfl _ _) rfl (D7 AA)) Dl Dl dQ ?_;intro v7 w7 Dv DN Jd;obtain ⟨A7,c7,hv7,-⟩:=Own.GU Dv;rw [ED.1] at hv7;subst hv7;have EW:=AO.grown CB DN (fun e=>n5 e.symm);obtain ⟨q1,q2,q3,q4,q5,q6,q7⟩:=AO.Az EW;have Qu:=Own.grown (((((MI.1.keep (bD (bR Df))).keep BU).keep Du).alloc _)) DN (Own.apart MI.1 HA.1 Aw);obtain ⟨jo,fB,OZ,Fv⟩:=DW (Own.far Dv (p:=⟨g10,1,none⟩) (Own.EX Dv EW Aw) (.slice A7 (k+1) c7)) (Own.far Qu (p:=⟨g10,1,none⟩) (Own.EX Qu EW Aw) (.slice A7 (k+1) c7)) (EW.EH 1 (.slice A7 (k+1) c7)) (bS (p:=⟨g10,1,none⟩) (bG (bA (bT (bT (bT Hb.1 (bD (bR Df))) BU) Du) _) DN (fun q hq=>(HA.1.lt q hq).1)) hgg (.slice A7 (k+1) c7));have hS:E8 w8.heap.size Df w7:=Below.grown (show Below w8.heap.size Df _ from AP.out) DN dQ (fun q hq=>(HA.1.lt q hq).1);clear Qu EW Dv DN Jd;clear AP;refine hK.out _ _ hS (fun _=>?_);clear hK K
      try simp only [pu]
      refine Ak ?_;refine BN ?_;clear hS;intro K hK AP;go_simp;refine hK.out _ _ (by unfold E8;have h:Below _ _ _:=AP.out;repeat (first | with_reducible assumption | with_reducible exact Below.refl _ _ | with_reducible refine JG ?_ Jv _ | with_reducible refine Below.drew ?_ | with_reducible refine Ej AA ?_ _ | exact h)) ?_;intro hS;clear hK K AP
      try simp only [pu]
      refine J3 ?_;clear hS Aj Ae;intro hB;go_wp2;go_roundw
      case rel => exact ⟨k+1,AA,BG,_,ED.1 _,acR,A7,c7,jo.1,fun a b hy=>ac4.1 (a,b) hy,fB.1,Rz,Fv.1,ac3.1⟩
      case measure => exact BH
     ·have AP:=AB hS;clear hS;refine En (Eh rfl) ?_;go_simp;refine (Ju.1 _ (Hb.1.trans AP.out)).mono ?_;rintro e BZ ⟨rfl,BU⟩;have hS:E8 (w8.heap.size) Df BZ:=(show Below (w8.heap.size) Df _ from AP.out).trans (BU.mono (EG AA (show Below (w8.heap.size) Df _ from AP.out).size));clear AP
      try replace XL:=XL.keep BU
      try replace CB:=CB.keep BU
      refine hK.out _ _ hS (fun _=>?_);clear hK K
      try simp only [pu]
      refine MQ (i:=1) (j:=21) (ET Ae rfl) (ET Ae rfl) (fun K hK=>?_) (fun K hK=>?_)
      ·have AP:=AB hS;clear hS;refine En (Eh rfl) ?_;obtain ⟨q1,q2,q3,q4,-⟩:=AO.Az CB;go_simp;refine hK.out _ _ AP.out (fun hS=>?_);clear hK K AP
       try simp only [pu]
       refine BN ?_;clear hS;intro K hK AP;go_simp;refine (HNy.1 _ (Hb.1.trans AP.out)).mono ?_;rintro e wr2 ⟨rfl,Du⟩;have hS:E8 (w8.heap.size) Df wr2:=(show Below (w8.heap.size) Df _ from AP.out).trans (Du.mono (EG AA (show Below (w8.heap.size) Df _ from AP.out).size));clear AP
       try replace XL:=XL.keep Du
       try replace CB:=CB.keep Du
       refine hK.out _ _ hS (fun _=>?_);clear hK K
       try simp only [pu]
       refine Ak ?_;refine BN ?_;clear hS;intro K hK AP;go_simp;have VR:Below (w8.heap.size) Df (wr2):=AP.out;have Le:w8.heap.size<=(wr2).heap.size:=EG AA (show Below (w8.heap.size) Df (wr2) from AP.out).size;refine hK.out _ _ (Ej AA AP.out _) (fun hS=>?_);clear hK K AP
       try replace CB:=CB.alloc (.cells #[.int .i64 ((k:Int)+1),.int .i64 nx,.int .i64 ny,.slice Am mid.length Cm,.int .i64 0,.int .i64 0] 50)
       try replace XL:=XL.alloc (.cells #[.int .i64 ((k:Int)+1),.int .i64 nx,.int .i64 ny,.slice Am mid.length Cm,.int .i64 0,.int .i64 0] 50)
       have XL:=AO.new (wr2) 50 #[.int .i64 ((k:Int)+1),.int .i64 nx,.int .i64 ny,.slice Am mid.length Cm,.int .i64 0,.int .i64 0]
       try simp only [World.size_drew,World.size_alloc] at XL Le
       try simp only [World.alloc_drew] at CB
       try simp only [World.alloc_drew] at XL
       try simp only [pu]
       refine BN ?_;clear hS;intro K hK AP;refine GK (.tmp 65) (.tmp 94) _ rfl (base:=w8.heap.size) Uw Ql Vw rfl ((((HA.1.keep (bD (bR Df))).keep BU).keep Du).alloc _) rfl (l2:=[((⟨(k:Int)+1,nx,ny,mid,0,0⟩:Ar),(⟨Am,mid.length,Cm⟩:SV))]) (Sl.lit (n:=1) (AO.made rfl _ _) rfl (D7 AA)) Dl Dl dQ ?_;intro v7 w7 Dv DN Jd;obtain ⟨A7,c7,hv7,-⟩:=Own.GU Dv;rw [ED.1] at hv7;subst hv7;have EW:=AO.grown CB DN (fun e=>n5 e.symm);obtain ⟨q1,q2,q3,q4,q5,q6,q7⟩:=AO.Az EW;have Qu:=Own.grown (((((MI.1.keep (bD (bR Df))).keep BU).keep Du).alloc _)) DN (Own.apart MI.1 HA.1 Aw);obtain ⟨jo,fB,OZ,Fv⟩:=DW (Own.far Dv (p:=⟨g10,1,none⟩) (Own.EX Dv EW Aw) (.slice A7 (k+1) c7)) (Own.far Qu (p:=⟨g10,1,none⟩) (Own.EX Qu EW Aw) (.slice A7 (k+1) c7)) (EW.EH 1 (.slice A7 (k+1) c7)) (bS (p:=⟨g10,1,none⟩) (bG (bA (bT (bT (bT Hb.1 (bD (bR Df))) BU) Du) _) DN (fun q hq=>(HA.1.lt q hq).1)) hgg (.slice A7 (k+1) c7));have hS:E8 w8.heap.size Df w7:=Below.grown (show Below w8.heap.size Df _ from AP.out) DN dQ (fun q hq=>(HA.1.lt q hq).1);clear Qu EW Dv DN Jd;clear AP;refine hK.out _ _ hS (fun _=>?_);clear hK K
       try simp only [pu]
       refine Ak ?_;refine BN ?_;clear hS;intro K hK AP;go_simp;refine hK.out _ _ (by unfold E8;have h:Below _ _ _:=AP.out;repeat (first | with_reducible assumption | with_reducible exact Below.refl _ _ | with_reducible refine JG ?_ Jv _ | with_reducible refine Below.drew ?_ | with_reducible refine Ej AA ?_ _ | exact h)) ?_;intro hS;clear hK K AP
       try simp only [pu]
       refine J3 ?_;clear hS Aj Ae;intro hB;go_wp2;go_roundw
       case rel => exact ⟨k+1,AA,BG,_,ED.1 _,acR,A7,c7,jo.1,fun a b hy=>ac4.1 (a,b) hy,fB.1,Rz,Fv.1,ac3.1⟩
       case measure => exact BH
      ·have AP:=AB hS;clear hS;refine En (Eh rfl) ?_;go_simp;refine (HNy.1 _ (Hb.1.trans AP.out)).mono ?_;rintro e wr2 ⟨rfl,Du⟩;have hS:E8 (w8.heap.size) Df wr2:=(show Below (w8.heap.size) Df _ from AP.out).trans (Du.mono (EG AA (show Below (w8.heap.size) Df _ from AP.out).size));clear AP
       try replace XL:=XL.keep Du
       try replace CB:=CB.keep Du
       refine hK.out _ _ hS (fun _=>?_);clear hK K
       try simp only [pu]
       refine Ak ?_;refine MQ (i:=1) (j:=30) (ET Ae rfl) (ET Ae rfl) (fun K hK=>?_) (fun K hK=>?_)
       ·have AP:=AB hS;clear hS;refine En (Eh rfl) ?_;obtain ⟨q1,q2,q3,q4,-⟩:=AO.Az CB;go_simp;refine hK.out _ _ AP.out (fun hS=>?_);clear hK K AP
        try simp only [pu]
        refine BN ?_;clear hS;intro K hK AP;go_simp;have VR:Below (w8.heap.size) Df (wr2):=AP.out;have Le:w8.heap.size<=(wr2).heap.size:=EG AA (show Below (w8.heap.size) Df (wr2) from AP.out).size;refine hK.out _ _ (Ej AA AP.out _) (fun hS=>?_);clear hK K AP
        try replace CB:=CB.alloc (.cells #[.int .i64 ((k:Int)+1),.int .i64 nx,.int .i64 ny,.slice Am mid.length Cm,.int .i64 0,.int .i64 0] 50)
        try replace XL:=XL.alloc (.cells #[.int .i64 ((k:Int)+1),.int .i64 nx,.int .i64 ny,.slice Am mid.length Cm,.int .i64 0,.int .i64 0] 50)
        have XL:=AO.new (wr2) 50 #[.int .i64 ((k:Int)+1),.int .i64 nx,.int .i64 ny,.slice Am mid.length Cm,.int .i64 0,.int .i64 0]
        try simp only [World.size_drew,World.size_alloc] at XL Le
        try simp only [World.alloc_drew] at CB
        try simp only [World.alloc_drew] at XL
        try simp only [pu]
        refine BN ?_;clear hS;intro K hK AP;refine GK (.tmp 65) (.tmp 94) _ rfl (base:=w8.heap.size) Uw Ql Vw rfl ((((HA.1.keep (bD (bR Df))).keep BU).keep Du).alloc _) rfl (l2:=[((⟨(k:Int)+1,nx,ny,mid,0,0⟩:Ar),(⟨Am,mid.length,Cm⟩:SV))]) (Sl.lit (n:=1) (AO.made rfl _ _) rfl (D7 AA)) Dl Dl dQ ?_;intro v7 w7 Dv DN Jd;obtain ⟨A7,c7,hv7,-⟩:=Own.GU Dv;rw [ED.1] at hv7;subst hv7;have EW:=AO.grown CB DN (fun e=>n5 e.symm);obtain ⟨q1,q2,q3,q4,q5,q6,q7⟩:=AO.Az EW;have Qu:=Own.grown (((((MI.1.keep (bD (bR Df))).keep BU).keep Du).alloc _)) DN (Own.apart MI.1 HA.1 Aw);obtain ⟨jo,fB,OZ,Fv⟩:=DW (Own.far Dv (p:=⟨g10,1,none⟩) (Own.EX Dv EW Aw) (.slice A7 (k+1) c7)) (Own.far Qu (p:=⟨g10,1,none⟩) (Own.EX Qu EW Aw) (.slice A7 (k+1) c7)) (EW.EH 1 (.slice A7 (k+1) c7)) (bS (p:=⟨g10,1,none⟩) (bG (bA (bT (bT (bT Hb.1 (bD (bR Df))) BU) Du) _) DN (fun q hq=>(HA.1.lt q hq).1)) hgg (.slice A7 (k+1) c7));have hS:E8 w8.heap.size Df w7:=Below.grown (show Below w8.heap.size Df _ from AP.out) DN dQ (fun q hq=>(HA.1.lt q hq).1);clear Qu EW Dv DN Jd;clear AP;refine hK.out _ _ hS (fun _=>?_);clear hK K
        try simp only [pu]
        refine Ak ?_;refine BN ?_;clear hS;intro K hK AP;go_simp;refine hK.out _ _ (by unfold E8;have h:Below _ _ _:=AP.out;repeat (first | with_reducible assumption | with_reducible exact Below.refl _ _ | with_reducible refine JG ?_ Jv _ | with_reducible refine Below.drew ?_ | with_reducible refine Ej AA ?_ _ | exact h)) ?_;intro hS;clear hK K AP
        try simp only [pu]
        refine J3 ?_;clear hS Aj Ae;intro hB;go_wp2;go_roundw
        case rel => exact ⟨k+1,AA,BG,_,ED.1 _,acR,A7,c7,jo.1,fun a b hy=>ac4.1 (a,b) hy,fB.1,Rz,Fv.1,ac3.1⟩
        case measure => exact BH
       ·have AP:=AB hS;clear hS;refine En (Eh rfl) ?_;go_simp;have VR:Below (w8.heap.size) Df (wr2):=AP.out;have Le:w8.heap.size<=(wr2).heap.size:=EG AA (show Below (w8.heap.size) Df (wr2) from AP.out).size;refine hK.out _ _ (Ej AA AP.out _) (fun hS=>?_);clear hK K AP
        try replace CB:=CB.alloc (.cells #[.int .i64 ((k:Int)+1),.int .i64 nx,.int .i64 ny,.slice Am mid.length Cm,.int .i64 0,.int .i64 0] 50)
        try replace XL:=XL.alloc (.cells #[.int .i64 ((k:Int)+1),.int .i64 nx,.int .i64 ny,.slice Am mid.length Cm,.int .i64 0,.int .i64 0] 50)
        have XL:=AO.new (wr2) 50 #[.int .i64 ((k:Int)+1),.int .i64 nx,.int .i64 ny,.slice Am mid.length Cm,.int .i64 0,.int .i64 0]
        try simp only [World.size_drew,World.size_alloc] at XL Le
        try simp only [World.alloc_drew] at CB
        try simp only [World.alloc_drew] at XL
        try simp only [pu]
        refine BN ?_;clear hS;intro K hK AP;obtain ⟨q1,q2,q3,q4,-⟩:=AO.Az CB;go_simp;refine hK.out _ _ AP.out (fun hS=>?_);clear hK K AP
        try simp only [pu]
        refine BN ?_;clear hS;intro K hK AP;refine GK (.tmp 65) (.tmp 94) _ rfl (base:=w8.heap.size) Uw Ql Vw rfl ((((HA.1.keep (bD (bR Df))).keep BU).keep Du).alloc _) rfl (l2:=[((⟨(k:Int)+1,nx,ny,mid,0,0⟩:Ar),(⟨Am,mid.length,Cm⟩:SV))]) (Sl.lit (n:=1) (AO.made rfl _ _) rfl (D7 AA)) Dl Dl dQ ?_;intro v7 w7 Dv DN Jd;obtain ⟨A7,c7,hv7,-⟩:=Own.GU Dv;rw [ED.1] at hv7;subst hv7;have EW:=AO.grown CB DN (fun e=>n5 e.symm);obtain ⟨q1,q2,q3,q4,q5,q6,q7⟩:=AO.Az EW;have Qu:=Own.grown (((((MI.1.keep (bD (bR Df))).keep BU).keep Du).alloc _)) DN (Own.apart MI.1 HA.1 Aw);obtain ⟨jo,fB,OZ,Fv⟩:=DW (Own.far Dv (p:=⟨g10,1,none⟩) (Own.EX Dv EW Aw) (.slice A7 (k+1) c7)) (Own.far Qu (p:=⟨g10,1,none⟩) (Own.EX Qu EW Aw) (.slice A7 (k+1) c7)) (EW.EH 1 (.slice A7 (k+1) c7)) (bS (p:=⟨g10,1,none⟩) (bG (bA (bT (bT (bT Hb.1 (bD (bR Df))) BU) Du) _) DN (fun q hq=>(HA.1.lt q hq).1)) hgg (.slice A7 (k+1) c7));have hS:E8 w8.heap.size Df w7:=Below.grown (show Below w8.heap.size Df _ from AP.out) DN dQ (fun q hq=>(HA.1.lt q hq).1);clear Qu EW Dv DN Jd;clear AP;refine hK.out _ _ hS (fun _=>?_);clear hK K
        try simp only [pu]
        refine Ak ?_;refine BN ?_;clear hS;intro K hK AP;go_simp;refine hK.out _ _ (by unfold E8;have h:Below _ _ _:=AP.out;repeat (first | with_reducible assumption | with_reducible exact Below.refl _ _ | with_reducible refine JG ?_ Jv _ | with_reducible refine Below.drew ?_ | with_reducible refine Ej AA ?_ _ | exact h)) ?_;intro hS;clear hK K AP
        try simp only [pu]
        refine J3 ?_;clear hS Aj Ae;intro hB;go_wp2;go_roundw
        case rel => exact ⟨k+1,AA,BG,_,ED.1 _,acR,A7,c7,jo.1,fun a b hy=>ac4.1 (a,b) hy,fB.1,Rz,Fv.1,ac3.1⟩
        case measure => exact BH
    ·have hkn:k=ys.length:=AA
     subst hkn;have xG:P.take ys.length=P:=IE (by rw [TI.1];exact Cj _);have hA:P.any (fun q=>decide (66<q.length))=false:=by
      rw [<- O5.1,XW,MB];intro y hy;obtain ⟨j,hj,rfl⟩:=EF.1 hy;have:=H66.1 j hj hj
      simp;omega
     have Fv:=AB (show aZ L=false by rw [LY.1,hA];rw [TI.1] at hY;simp [hT,hY]);have ji:=AB (show D6 Df (.agg #[.slice An T.length cn,.slice Aa ys.length ca,.slice none 0 0]) (IK L) by
      rw [jf.1];exact D6.ayd (p:=yB T P) MI.1 HA.1 (fun y hy=>(HV.1 y hy).mono Hb.1) (by rw [eP.1,xG];rfl) rfl)
     have hmod:Mod (IK L):=by
      rw [jf.1];refine ⟨?_,?_,fun a ha=>?_⟩
      ·show (Nz T).length<=_
       unfold Nz;rw [CV,P9];omega
      ·show (OQ T P).length<=_
       unfold OQ;rw [CV,P9,<- TI.1];omega
      ·have ha':a∈OQ T P:=ha;unfold OQ at ha';obtain ⟨i,hi,rfl⟩:=Ez.1 ha';have hi:=FQ.1 hi;have h1:=NZ.1.1 (P.getD i []) (by rw [Gm,Di hi];exact BO hi);unfold Wq;simp only [List.length_dropLast,ah2];omega
     obtain ⟨Fe,aQ,HBc,Vd⟩:=DW (adS _ (IK L) _ ji.1) (fun W (hW:AU Df W)=>axK _ (IK L) W (ji.1.mono hW) hmod) (fun hc=>ane HG.1 Fv.1 hc) (fun hc=>anf HG.1 Fv.1 hc);have jR:=AB (fun (hc:Gn (IK L)=0)=>show L9 L=if Om (IK L)=0 then J6 (IK L) else pl0 by
      unfold L9;rw [Vd.1 hc];rfl)
     have Ws:=AB (Il.1.keep Hb.1);have jk:=AB (bT Gx.1 Hb.1);have CB:=HX.1;unfold anA at aQ;clear xG hA NZ wu I9 NU Il Gx hmod Fv ji O5 TI hyn hTl HA HV MI HLn H66 eP Oz jf LY;generalize Gn (IK L)=z at *;generalize (if Om (IK L)=0 then J6 (IK L) else pl0)=Q at *;generalize Om (IK L)=lz at *;obtain ⟨Gz,Hg,Hu,ND,-⟩:=CB.Az;go_wp2_with fail;refine Fe.1.mono ?_;rintro e w12 ⟨rfl,VL⟩;obtain ⟨VN,Z8,UA,agM⟩:=DW (Ws.1.keep VL) (bT jk.1 VL) (HX.1.keep VL) VL;clear VL Ws jk CB Gz Hg Hu ND HX Fe;by_cases hz:z=0
     ·subst hz;have HZ0:=AB (Vd.1 (by trivial));have jP:=AB (jR.1 (by trivial));have CB:=UA.1;clear Vd jR HBc
      try clear Gz Hg Hu ND
      obtain ⟨Gz,Hg,Hu,ND,-⟩:=CB.Az;go_wp2_with fail;refine (aQ.1 _ agM.1).mono ?_;rintro e w13 ⟨v13,q13,rfl,VO,ag9,ayi⟩;subst ayi;obtain ⟨A1,c1,A2,c2,A3,c3,ayj⟩:=D6.form ag9;subst ayj;obtain ⟨QG,jl,ac2⟩:=CG (VN.1.keep VO) (bT Z8.1 VO) ag9;have Xm:=QG.1;clear VO ag9 CB Gz Hg Hu ND UA;generalize q13.nodes.length=m1 at *;generalize q13.AQ.length=m2 at *;generalize q13.faces.length=m3 at *;obtain ⟨aa8,aa9,aaA,aaB,agN,agO,agP⟩:=Xm.Az;go_wp2_with fail;refine Iz (g:=w.heap.size) (cs:=#[.slice A1 m1 c1,.slice A2 m2 c2,.slice A3 m3 c3]) rfl Na rfl rfl (AO.LG QG.1) ?_;have h1:=QG.1.EH 0 (.slice A1 m1 c1);have h2:=h1.EH 1 (.slice A2 m2 c2);have p1:=D6.put ac2.1 (AO.sl3 QG.1) (i:=0) AA (.slice A1 m1 c1);have p2:=D6.put p1 (AO.sl3 h1) (i:=1) AA (.slice A2 m2 c2);have p3:=D6.put p2 (AO.sl3 h2) (i:=2) AA (.slice A3 m3 c3);exact ⟨_,by rw [HZ0.1];rfl,bS (p:=⟨w.heap.size,2,none⟩) (bS (p:=⟨w.heap.size,1,none⟩) (bS (p:=⟨w.heap.size,0,none⟩) jl.1 (Cj _) _) (Cj _) _) (Cj _) _,by rw [jP.1];exact p3⟩
     ·have hz':(z != 0)=true:=by simpa using hz
      have HZ:=AB (HBc.1 hz);have x9:=VN.1;clear hz HBc Vd jR aQ UA;obtain ⟨agJ,agK,agL,anj,axe,axf,axg⟩:=x9.Az;go_wp2_with fail;refine Iz (g:=w.heap.size) (cs:=#[.slice none 0 0,.slice none 0 0,.slice none 0 0]) rfl Na rfl rfl (AO.LG VN.1) ?_;exact Lu.bad HZ.1 Aw (bS (p:=⟨w.heap.size,2,none⟩) (bS (p:=⟨w.heap.size,1,none⟩) (bS (p:=⟨w.heap.size,0,none⟩) Z8.1 (Cj _) _) (Cj _) _) (Cj _) _)
open Go.RowKit Go.Sort
structure aH (w:World) (B:Nat) (v:Value) (ys:List (SV×List Pt)):Prop where
 own:Own w B 25 1 Kw v ys
 rd:∀ y∈ys,Own w B 42 2 DK (BF y.1) y.2
theorem aH.keep {w w':World} {B:Nat} {v:Value} {ys:List (SV×List Pt)} (h:aH w B v ys) (hb:AU w w'):aH w' B v ys:=⟨h.own.keep hb,fun y hy=>(h.rd y hy).keep hb⟩
theorem aH.lns {w:World} {B:Nat} {v:Value} {ys:List (SV×List Pt)} (h:aH w B v ys):FY w v ys:=⟨Sl.SK h.own,fun k hk=>Sl.SK (h.rd _ (BO hk))⟩
def ayk (w:World) (L:List (List Pt)) (e:Ending) (w':World):Prop :=
 ∃ A c ys,e=.returned (.slice A ys.length c)/\AU w w'/\aH w' w.heap.size (.slice A ys.length c) ys/\ys.map (·.2)=L
theorem ayl {α β:Type} (f:α->Option β) {l:List α} {k:Nat} (hk:k<l.length):(l.take (k+1)).filterMap f=(l.take k).filterMap f++(f l[k]).toList:=by
 rw [Em hk,List.filterMap_append];congr 1
theorem aym (v:Value) (p:Pl) (w:World) (h:D6 w v p) (hsh:Short p) (hn:p.AQ.length<=1000000):Calls prog 16 #[v] w (ayk w (pJ p)):=by
 have I9:=AB (fun id W (hW:AU w W)=>sF v p id W (h.mono hW) hsh);obtain ⟨_,_,_,al,rfl,hpa,⟨An,cn,rfl,-⟩,⟨⟨Aa,ca,rfl,hm1,hm2,FT⟩,bZ⟩,⟨Af,cf,rfl,-⟩⟩:=h;unfold maxLen at hm2;have hal:al.length<=1000000:=by rw [hpa,CV] at hn;exact hn
 have hlk:∀ k (hk:k<al.length),(p.AQ.take (k+1)).filterMap (fun a=>pathOf p a.id)=(p.AQ.take k).filterMap (fun a=>pathOf p a.id)++(pathOf p al[k].1.id).toList:=fun k hk=>by
  have h1:k<p.AQ.length:=by rw [hpa,CV];exact hk
  rw [ayl _ h1];have h2:p.AQ[k]=al[k].1:=by simp only [hpa,Iu]
  rw [h2]
 have hend:(p.AQ.take al.length).filterMap (fun a=>pathOf p a.id)=pJ p:=by
  unfold pJ;rw [IE (by rw [hpa,CV];exact Cj _)]
 obtain ⟨jS,mg,Ij,vW⟩:=DW hlk hend FT bZ;obtain ⟨G,hG⟩:∃ G:Nat->List (List Pt),G=fun k=>(p.AQ.take k).filterMap (fun a=>pathOf p a.id):=⟨_,rfl⟩;obtain ⟨VJ,HG0,YQ⟩:=CG (show ∀ k (hk:k<al.length),G (k+1)=G k++(pathOf p al[k].1.id).toList from fun k hk=>by rw [hG];exact hlk k hk) (show G 0=[] by rw [hG];rfl) (show G al.length=pJ p by rw [hG];exact hend);generalize p.nodes.length=nn at *;generalize p.faces.length=nf at *;generalize pJ p=LL at *;clear hpa FT bZ hsh hlk hend hG jS mg hn;go_enter func16,ntmps16;go_upto_region 1 with fail;obtain ⟨W1,hW⟩:=BR (w.alloc (.cells #[.slice An nn cn,.slice Aa al.length ca,.slice Af nf cf] 34));have X1:AO W1 w.heap.size 34 #[.slice An nn cn,.slice Aa al.length ca,.slice Af nf cf]:=by rw [hW];exact AO.made rfl _ _
 have HB1:=AB (show AU w W1 by rw [hW];exact bA (bR w) _);have Dt:=AB X1;rw [<- hW];clear hW;obtain ⟨BJ,BK,BL,BQ,-⟩:=X1.Az;go_upto_block 0 with fail;clear X1 BJ BK BL BQ;go_wp2_with fail;go_loopw [2,10] (fun z u wr=>∃ (k:Nat) (ys:List (SV×List Pt)),k<=al.length/\u=.int .i64 k/\aH wr w.heap.size z ys/\AO wr w.heap.size 34 #[.slice An nn cn,.slice Aa al.length ca,.slice Af nf cf]/\AU w wr/\ys.map (·.2)=G k/\ys.length<=k) (fun _ u _=>al.length-(intOf u).toNat)
 case atStart => exact ⟨0,[],BX _,rfl,⟨Own.nil _ _ _ _ _,fun y hy=>(by cases hy)⟩,Dt.1,HB1.1,HG0.1.symm,Cj _⟩
 case round =>
  obtain ⟨k,ys,hk,rfl,ho,hx,hb,hys,hyl⟩:=hrel;obtain ⟨wo,rfl⟩:=BR wr;obtain ⟨HO,HX,Hb,O5⟩:=DW ho hx hb hys;clear ho hx hb hys Dt HB1;by_cases hlt:k<al.length
  ·obtain ⟨b,o,rfl,hlb,c0,c1,c2,c3,c4,c5⟩:=(Row.mono Ij.1 Hb.1).ar hlt;obtain ⟨Av,cv,hvv,-⟩:=vW.1 k hlt;rw [hvv] at c3;have hGk:=VJ.1 k hlt;have hpt:=I9.1 al[k].1.id;clear hvv;generalize al[k].1=a at *;obtain ⟨aid,mV,mW,aeB,mX,aright⟩:=a;simp only at c0 c1 c2 c3 c4 c5 hpt hGk;generalize aeB.length=vn at *;generalize pathOf p aid=r at *;have mY:=AB hpt;have nD:=AB hGk;clear hpt hGk;go_upto_region 4 with fail;obtain ⟨W5,hW⟩:∃ W:World,W=wo.alloc (.cells #[.int .i64 aid,.int .i64 mV,.int .i64 mW,.slice Av vn cv,.int .i64 mX,.int .i64 aright] 50):=⟨_,rfl⟩;have HA:=AB (show AU wo W5 by rw [hW];exact bA (bR wo) _);have X5:AO W5 wo.heap.size 50 #[.int .i64 aid,.int .i64 mV,.int .i64 mW,.slice Av vn cv,.int .i64 mX,.int .i64 aright]:=by rw [hW];exact AO.made rfl _ _
   rw [<- hW];clear hW c0 c1 c2 c3 c4 c5 hlb;have X1:=HX.1.keep HA.1;obtain ⟨DI,DJ,DU,IJ,XC,sH,sJ,-⟩:=X5.Iy
   try clear BJ BK BL BQ
   obtain ⟨BJ,BK,BL,BQ,-⟩:=X1.Az;go_wp2_with fail;refine (mY.1 _ (bT Hb.1 HA.1)).mono ?_;rintro e w6 ⟨A6,c6,rfl,hb6,NT⟩;have Ew:=AB (bT HA.1 hb6);obtain ⟨agA,JQ,JM,UH⟩:=DW (bT Hb.1 Ew.1) (HO.1.keep Ew.1) (HX.1.keep Ew.1) (NT.EM (b':=w.heap.size) (bT Hb.1 HA.1).size);have UW:=agA.1.size;clear hb6 NT X1 BJ BK BL BQ X5 DI DJ DU IJ XC sH sJ mY
   cases r with
   | none =>
    simp only [kE,QL,if_false,qW];go_wp2;go_roundw
    case rel => exact ⟨k+1,ys,AA,BG,JQ.1,JM.1,agA.1,by rw [nD.1,O5.1];simp,AA⟩
    case measure => exact BH
   | some q =>
    simp only [Ud,if_true,Ih] at UH ⊢;obtain ⟨N,hN⟩:=BI q.length;rw [hN] at UH ⊢;clear hN;go_wp2_with
     (at_builtin
      refine FK _ rfl (.tmp 23) (.tmp 25) _ rfl (base:=w.heap.size) au YH bC rfl (JQ.1.own.alloc _) rfl (l2:=[((⟨A6,N,c6⟩:SV),q)]) (Sl.lit (n:=1) (AO.made Ah _ _) rfl (D7 AA)) Dl Dl DR ?_;intro v1 w1 ho1 hg1 MH;have Fp:=AB (show aH w1 w.heap.size v1 (ys++[((⟨A6,N,c6⟩:SV),q)]) from ⟨ho1,fun y hy=>by
       have key:∀ y:SV×List Pt,Own w6 w.heap.size 42 2 DK (BF y.1) y.2->Own w1 w.heap.size 42 2 DK (BF y.1) y.2:=fun y h =>
        Own.grown (h.alloc _) hg1 (Own.apart h JQ.1.own Aw)
       rcases GI.1 hy with h | h
       · exact key y (JQ.1.rd y h)
       · rw [Eb.1 h];exact key _ UH.1⟩)
      have Dt:=AB ((JM.1.alloc _).grown hg1 (fun e=>(Own.EX JQ.1.own JM.1 Aw) e.symm));have HB1:=AB (show AU w w1 from bG (w:=w) (bA agA.1 _) hg1 (fun q hq=>(JQ.1.own.lt q hq).1));clear ho1 hg1 MH)
    go_roundw
    case rel => exact ⟨k+1,_,AA,BG,Fp.1,Dt.1,HB1.1,by rw [FH,O5.1,nD.1];rfl,Qz⟩
    case measure => exact BH
  ·have hkn:k=al.length:=AA
   subst hkn;have hX:=HX.1;go_wp2_with fail;obtain ⟨A9,c9,cZ,-⟩:=Own.shape HO.1.own;subst cZ;go_ret;exact ⟨A9,c9,ys,rfl,Hb.1,HO.1,by rw [O5.1,YQ.1]⟩
open Go.RowKit Go.Sort
def Ro (L:List (List Pt)):Nat:=(L.map fun l=>min l.length 71).sum
def jq (L:List (List Pt)):Bool:=decide (L.length<=14) && decide (Ro (L.take 15)<=70)
theorem ayn {L:List (List Pt)} {l:List Pt} (h:l∈L):min l.length 71<=Ro L:=by
 unfold Ro
 induction L with
 | nil=>cases h
 | cons a L ih =>
  rw [Ey,IC];rcases FI.1 h with rfl | h
  · omega
  · have:=ih h;omega
theorem ayo {L:List (List Pt)} (h:jq L=true):L.length<=14/\∀ l∈L,l.length<=70:=by
 unfold jq at h;simp only [ER,Dq] at h;refine ⟨h.1,fun l hl=>?_⟩;have h2:=h.2;rw [IE AA] at h2;have:=ayn hl
 omega
theorem ayp {α:Type} (f:α->List Pt) {xs:List α} {k:Nat} (hk:k<xs.length):Ro ((xs.take (k+1)).map f)=Ro ((xs.take k).map f)+min (f xs[k]).length 71:=by
 rw [Em hk];unfold Ro;rw [FH,FH,O8];simp only [Ey,O9,IC,Vz,RF]
theorem ay2 {α:Type} (f:α->List Pt) (xs:List α):Ro (xs.map f)<=xs.length*71:=by
 unfold Ro
 induction xs with
 | nil=>simp
 | cons a L ih=>simp only [Ey,IC,JA] at ih ⊢;omega
theorem ay3 (v:Value) (xs:List (SV×List Pt)) (w:World) (h:FY w v xs):Calls prog 10 #[v] w fun e w'=>e=.returned (.bool (jq (xs.map (·.2))))/\AU w w':=by
 have hL:jq (xs.map (·.2))=(decide (xs.length<=14) && decide (Ro ((xs.take 15).map (·.2))<=70)):=by
  unfold jq;rw [CV,<- List.map_take]
 obtain ⟨⟨A,c,rfl,hc1,hc2,hR⟩,hP⟩:=h;unfold maxLen at hc2;have HR:=AB hR;have HP:=AB hP;obtain ⟨q,hq⟩:=BI (jq (xs.map (·.2)));rw [hq];rw [hq] at hL;have Hq:=AB hL;clear hR hP hL hq;go_enter func10,ntmps10;go_upto_block 0 with fail;go_wp2_with fail;go_loopw [3,4] (fun z u wr=>∃ k:Nat,k<=xs.length/\k<=15/\u=.int .i64 k/\z=.int .i64 (Ro ((xs.take k).map (·.2)):Nat)/\w=wr) (fun _ u _=>15-(intOf u).toNat)
 case atStart => exact ⟨0,BX _,AA,rfl,rfl,rfl⟩
 case round =>
  obtain ⟨k,hk,azA,rfl,rfl,rfl⟩:=hrel;have hsb:Ro ((xs.take k).map (·.2))<=k*71:=by
   have:=ay2 (fun x:SV×List Pt=>x.2) (xs.take k)
   rw [GH] at this;have h9:=qX 71 (Nat.min_le_left k xs.length);omega
  by_cases hlt:k<xs.length/\k<15
  ·obtain ⟨h1,h2⟩:=hlt;obtain ⟨b,o,rfl,hlb,c0⟩:=HR.1.ln h1;obtain ⟨A1,c1,hv1,hc3,hc4,-⟩:=HP.1 k h1;rw [hv1] at c0;unfold maxLen at hc4;have HT:=AB (ayp (fun x:SV×List Pt=>x.2) h1);generalize Ro ((xs.take k).map (·.2))=S at *;clear hv1;generalize xs[k].2.length=m at *;have z1:(k:Int)<xs.length:=AA
   go_wp2;go_roundw
   case rel => exact ⟨k+1,AA,AA,BG,by rw [HT.1];congr 1;omega,trivial⟩
   case measure => exact BH
  ·have hkk:(xs.take 15).map (·.2)=(xs.take k).map (·.2):=by
    by_cases h15:k=15
    · rw [h15]
    ·have:k=xs.length:=AA
     rw [IE AA,IE AA]
   have HKk:=AB (congrArg Ro hkk);generalize Ro ((xs.take k).map (·.2))=S at *;clear hkk;go_wp2_with fail
   all_goals
    go_ret;refine ⟨CP ?_,bR _⟩;rw [Hq.1,HKk.1,Jh];simp only [ER,Dq,QL,false_iff,true_iff];omega
def TK:List (List Pt):=[[⟨0,0⟩,⟨5,0⟩,⟨9,0⟩],[⟨5,0⟩,⟨5,5⟩]]
def aI:List (List Pt):=[[⟨0,0⟩,⟨4,0⟩,⟨4,4⟩,⟨0,0⟩]]
def jr:List (List Pt):=[[⟨0,0⟩,⟨9,0⟩],[⟨5,0⟩,⟨5,5⟩]]
theorem ay4:KW TK=[⟨0,0⟩,⟨5,0⟩,⟨5,5⟩,⟨9,0⟩]:=by decide +kernel
theorem anK:GZ TK=0:=by decide +kernel
theorem ay5:GZ aI=0:=by decide +kernel
theorem ay6:GZ jr=0:=by decide +kernel
theorem ay7:O1 TK=0:=by decide +kernel
theorem ay8:O1 aI=0:=by decide +kernel
theorem ay9:O1 jr=11:=by decide +kernel
theorem ac5:(L9 TK).nodes.length=4/\(L9 TK).AQ.length=3/\(L9 TK).faces.length=0:=by decide +kernel
theorem ayA:pJ (L9 TK)=[[⟨0,0⟩,⟨5,0⟩],[⟨5,0⟩,⟨5,5⟩],[⟨5,0⟩,⟨9,0⟩]]:=by decide +kernel
theorem anL:(L9 aI).AQ.map (fun a=>(a.left,a.right))=[(1,0)]:=by decide +kernel
open Go.RowKit Go.Sort
theorem FY.two {w:World} {g0 g1 g2 n m c d:Nat} {t:TypeId} {l l':List Pt} (h:AO w g2 t #[.slice (some ⟨g0,0,none⟩) n c,.slice (some ⟨g1,0,none⟩) m d]) (h0:CZ w (.slice (some ⟨g0,0,none⟩) n c) l) (h1:CZ w (.slice (some ⟨g1,0,none⟩) m d) l') :
  FY w (.slice (some ⟨g2,0,none⟩) 2 2) [(⟨some ⟨g0,0,none⟩,n,c⟩,l),(⟨some ⟨g1,0,none⟩,m,d⟩,l')] :=
 ⟨Sl.lit (n:=2) h rfl (D7 AA),fun k hk=>by
  match k,hk with
  | 0,_=>exact h0
  | 1,_=>exact h1⟩
theorem FY.one {w:World} {g2 n c:Nat} {A:Option Addr} {t:TypeId} {l:List Pt} (h:AO w g2 t #[.slice A n c]) (h0:CZ w (.slice A n c) l):FY w (.slice (some ⟨g2,0,none⟩) 1 1) [(⟨A,n,c⟩,l)] :=
 ⟨Sl.lit (n:=1) h rfl (D7 AA),fun k hk=>by
  match k,hk with
  | 0,_=>exact h0⟩
theorem FY.three {w:World} {g2 n m r c d e:Nat} {A B C:Option Addr} {t:TypeId} {l l' l'':List Pt} (h:AO w g2 t #[.slice A n c,.slice B m d,.slice C r e]) (h0:CZ w (.slice A n c) l) (h1:CZ w (.slice B m d) l') (h2:CZ w (.slice C r e) l'') :
  FY w (.slice (some ⟨g2,0,none⟩) 3 3) [(⟨A,n,c⟩,l),(⟨B,m,d⟩,l'),(⟨C,r,e⟩,l'')] :=
 ⟨Sl.lit (n:=3) h rfl (D7 AA),fun k hk=>by
  match k,hk with
  | 0,_=>exact h0
  | 1,_=>exact h1
  | 2,_=>exact h2⟩
theorem D6.xO {w:World} {v:Value} {p:Pl} (h:D6 w v p):∃ An cn Aa ca Af cf,v=.agg #[.slice An p.nodes.length cn,.slice Aa p.AQ.length ca,.slice Af p.faces.length cf]:=by
 obtain ⟨_,_,_,al,rfl,hpa,⟨An,cn,rfl,-⟩,⟨⟨Aa,ca,rfl,-⟩,-⟩,⟨Af,cf,rfl,-⟩⟩:=h;exact ⟨An,cn,Aa,ca,Af,cf,by rw [hpa,CV]⟩
theorem ayB:(L9 TK).AQ.all (fun a=>decide (a.via.length<=3))=true:=by decide +kernel
theorem ayC (w:World):Calls prog 11 #[] w fun e w'=>e=.returned (.bool true)/\AU w w':=by
 go_enter func11,ntmps11;go_upto_region 2 with fail;obtain ⟨W1,hW⟩:∃ W:World,W=((w.alloc (.cells #[.int .i64 0,.int .i64 0,.int .i64 5,.int .i64 0,.int .i64 9,.int .i64 0] 42)).alloc (.cells #[.int .i64 5,.int .i64 0,.int .i64 5,.int .i64 5] 42)).alloc (.cells #[.slice (some ⟨w.heap.size,0,none⟩) 3 3,.slice (some ⟨w.heap.size+1,0,none⟩) 2 2] 25):=⟨_,rfl⟩;have L1:FY W1 (.slice (some ⟨w.heap.size+1+1,0,none⟩) 2 2) [(⟨some ⟨w.heap.size,0,none⟩,3,3⟩,[⟨0,0⟩,⟨5,0⟩,⟨9,0⟩]),(⟨some ⟨w.heap.size+1,0,none⟩,2,2⟩,[⟨5,0⟩,⟨5,5⟩])]:=by
  rw [hW];exact FY.two (AO.made Ah _ _) (Sl.lit (n:=3) (((AO.made rfl _ _).alloc _).alloc _) rfl (D7 AA)) (Sl.lit (n:=2) ((AO.made Ah _ _).alloc _) rfl (D7 AA))
 have HB1:=AB (show AU w W1 by rw [hW];exact bA (bA (bA (bR w) _) _) _);obtain ⟨g3,hg3⟩:=BI (w.heap.size+1+1);rw [hg3] at L1;have OJ:=AB (fun W (hW:AU W1 W)=>show Calls prog 12 #[.slice (some ⟨g3,0,none⟩) 2 2] W (amh W [⟨0,0⟩,⟨5,0⟩,⟨5,5⟩,⟨9,0⟩]) from by
  have h9:=ami _ _ W (L1.mono hW) (Ve.1 (show GZ TK=0 from anK));have e9:KW (([(⟨some ⟨w.heap.size,0,none⟩,3,3⟩,[⟨0,0⟩,⟨5,0⟩,⟨9,0⟩]),(⟨some ⟨w.heap.size+1,0,none⟩,2,2⟩,[⟨5,0⟩,⟨5,5⟩])] : List (SV×List Pt)).map (·.2))=[⟨0,0⟩,⟨5,0⟩,⟨5,5⟩,⟨9,0⟩]:=ay4;rw [e9] at h9;exact h9)
 have HBu:=AB (fun W (hW:AU W1 W)=>show Calls prog 18 #[.slice (some ⟨g3,0,none⟩) 2 2] W (Lu W TK) from acO _ _ W (L1.mono hW) (Ve.1 (show GZ TK=0 from anK)));rw [<- hW]
 try rw [hg3]
 clear hW L1 hg3;go_wp2_with fail;refine (OJ.1 _ (bR W1)).mono ?_;rintro e w2 ⟨A2,c2,rfl,hb2,ho2⟩;have HB2:=AB hb2;have I9:=AB (show CZ w2 (.slice A2 4 c2) [⟨0,0⟩,⟨5,0⟩,⟨5,5⟩,⟨9,0⟩] from Sl.SK ho2);clear hb2 ho2 OJ;go_wp2_with fail;refine (HBu.1 _ HB2.1).mono ?_;rintro e w3 ⟨v3,rfl,hb3,hp3⟩;rw [ay7];have OH:=AB hp3;obtain ⟨An,cn,Aa,ca,Af,cf,hv3⟩:=hp3.xO;rw [ac5.1,ac5.2.1,ac5.2.2] at hv3;subst hv3;have HB3:=AB (bT (bT HB1.1 HB2.1) hb3);have anM:=AB (I9.1.mono hb3);clear hb3 hp3 HBu I9 HB2 HB1;go_upto_region 4 with fail;obtain ⟨g4,hg4⟩:=BI w3.heap.size;obtain ⟨W4,hW⟩:∃ W:World,W=w3.alloc (.cells #[.slice An 4 cn,.slice Aa 3 ca,.slice Af 0 cf] 34):=⟨_,rfl⟩;have Io:=AB (show AU w3 W4 by rw [hW];exact bA (bR w3) _);have DL:=AB (show AO W4 g4 34 #[.slice An 4 cn,.slice Aa 3 ca,.slice Af 0 cf] by rw [hW];exact AO.made hg4.symm _ _);rw [<- hW]
 try rw [hg4]
 clear hW hg4;have anN:=AB (fun W g g' (hx:AO W g' 25 #[.slice (some ⟨g,0,none⟩) 4 4]) (h0:AO W g 42 #[.int .i64 0,.int .i64 0,.int .i64 4,.int .i64 0,.int .i64 4,.int .i64 4,.int .i64 0,.int .i64 0])=>show Calls prog 18 #[.slice (some ⟨g',0,none⟩) 1 1] W (Lu W aI) from
  acO _ [(⟨some ⟨g,0,none⟩,4,4⟩,[⟨0,0⟩,⟨4,0⟩,⟨4,4⟩,⟨0,0⟩])] W (FY.one hx (Sl.lit (n:=4) h0 rfl (D7 AA))) (Ve.1 (show GZ aI=0 from ay5)))
 have anO:=AB (fun W g g' g'' (hx:AO W g'' 25 #[.slice (some ⟨g,0,none⟩) 2 2,.slice (some ⟨g',0,none⟩) 2 2]) (h0:AO W g 42 #[.int .i64 0,.int .i64 0,.int .i64 9,.int .i64 0]) (h1:AO W g' 42 #[.int .i64 5,.int .i64 0,.int .i64 5,.int .i64 5])=>show Calls prog 18 #[.slice (some ⟨g'',0,none⟩) 2 2] W (Lu W jr) from
  acO _ [(⟨some ⟨g,0,none⟩,2,2⟩,[⟨0,0⟩,⟨9,0⟩]),(⟨some ⟨g',0,none⟩,2,2⟩,[⟨5,0⟩,⟨5,5⟩])] W (FY.two hx (Sl.lit (n:=2) h0 rfl (D7 AA)) (Sl.lit (n:=2) h1 rfl (D7 AA))) (Ve.1 (show GZ jr=0 from ay6)))
 go_wp2_with fail;refine (anN.1 _ W4.heap.size _ (AO.made Ah _ _) ((AO.made rfl _ _).alloc _)).mono ?_;rintro e w5 ⟨v5,rfl,hb5,Wn⟩;rw [ay8];have Qr:=AB Wn;have hal2:(L9 aI).AQ.length=1:=by have:=congrArg List.length anL;simpa using this
 obtain ⟨Bn,dn,Ba,da,Bf,df,hv5⟩:=Wn.xO;rw [hal2] at hv5;obtain ⟨m1,hm1⟩:=BI ((L9 aI).nodes.length);obtain ⟨m2,hm2⟩:=BI ((L9 aI).faces.length);rw [hm1,hm2] at hv5;subst hv5;have Ip:=AB (bT (bA (bA (bR W4) _) _) hb5);obtain ⟨DX,Ce,WV⟩:=CG (DL.1.keep Ip.1) (bT (bT HB3.1 Io.1) Ip.1) (bT Io.1 Ip.1);clear hb5 Wn hal2 hm1 hm2 anN DL Io Ip;go_upto_region 5 with fail;obtain ⟨g6,FN⟩:=BI w5.heap.size;obtain ⟨W6,hW⟩:∃ W:World,W=w5.alloc (.cells #[.slice Bn m1 dn,.slice Ba 1 da,.slice Bf m2 df] 34):=⟨_,rfl⟩;have UG:=AB (show AU w5 W6 by rw [hW];exact bA (bR w5) _);have JM:=AB (show AO W6 g6 34 #[.slice Bn m1 dn,.slice Ba 1 da,.slice Bf m2 df] by rw [hW];exact AO.made FN.symm _ _);rw [<- hW]
 try rw [FN]
 clear hW FN;go_wp2_with fail;refine (anO.1 _ W6.heap.size (W6.heap.size+1) _ (AO.made Ah _ _) (((AO.made rfl _ _).alloc _).alloc _) ((AO.made Ah _ _).alloc _)).mono ?_;rintro e w7 ⟨v7,rfl,hb7,hp7⟩;rw [ay9];obtain ⟨Cn,en,Ca,ea,Cf,ef,hv7⟩:=hp7.xO;obtain ⟨k1,hk1⟩:=BI ((L9 jr).nodes.length);obtain ⟨k2,hk2⟩:=BI ((L9 jr).AQ.length);obtain ⟨k3,hk3⟩:=BI ((L9 jr).faces.length);rw [hk1,hk2,hk3] at hv7;subst hv7;have jL:=AB (bT (bA (bA (bA (bR W6) _) _) _) hb7);have qM:=AB (bT UG.1 jL.1);obtain ⟨DL,Il,Gx,UJ,HL7,HT7⟩:=Jz (DX.1.keep qM.1) (JM.1.keep jL.1) (bT Ce.1 qM.1) (Qr.1.mono qM.1) (OH.1.mono (bT WV.1 qM.1)) (anM.1.mono (bT WV.1 qM.1));clear hb7 hp7 hk1 hk2 hk3 anO DX JM UG jL qM Qr OH anM Ce WV HB3;go_upto_region 6 with fail;obtain ⟨W8,hW⟩:∃ W:World,W=w7.alloc (.cells #[.slice Cn k1 en,.slice Ca k2 ea,.slice Cf k3 ef] 34):=⟨_,rfl⟩;have jv:=AB (show AU w7 W8 by rw [hW];exact bA (bR w7) _);rw [<- hW];clear hW;obtain ⟨anP,abT,Jb,Wi,HL8,HT8⟩:=Jz (DL.1.keep jv.1) (Il.1.keep jv.1) (bT Gx.1 jv.1) (UJ.1.mono jv.1) (HL7.1.mono jv.1) (HT7.1.mono jv.1);clear DL Il Gx UJ HL7 HT7 jv;have lq:=AB (fun W g g' g'' (h0:AO W g 25 #[.slice A2 4 c2]) (hp:CZ W (.slice A2 4 c2) [⟨0,0⟩,⟨5,0⟩,⟨5,5⟩,⟨9,0⟩]) (h1:AO W g' 42 #[.int .i64 0,.int .i64 0,.int .i64 5,.int .i64 0,.int .i64 5,.int .i64 5,.int .i64 9,.int .i64 0]) (h2:AO W g'' 25 #[.slice (some ⟨g',0,none⟩) 4 4]) =>
  show Calls prog 14 #[.slice (some ⟨g,0,none⟩) 1 1,.slice (some ⟨g'',0,none⟩) 1 1] W fun e w'=>e=.returned (.bool true)/\AU W w' from
   amZ _ _ [(⟨A2,4,c2⟩,[⟨0,0⟩,⟨5,0⟩,⟨5,5⟩,⟨9,0⟩])] [(⟨some ⟨g',0,none⟩,4,4⟩,[⟨0,0⟩,⟨5,0⟩,⟨5,5⟩,⟨9,0⟩])] W (FY.one h0 hp) (FY.one h2 (Sl.lit (n:=4) h1 rfl (D7 AA))) Ah Ah (fun k hk=>by match k,hk with | 0,_=>simp) (fun k hk=>by match k,hk with | 0,_=>simp))
 have aJ:=AB (fun v W (h:D6 W v (L9 TK))=>aym v (L9 TK) W h (fun a ha=>by
  have:=LK.1 ayB a ha
  simp only [Dq] at this;omega) (by rw [ac5.2.1];omega))
 go_wp2_with fail;refine (lq.1 _ W8.heap.size (W8.heap.size+1) _ (((AO.made rfl _ _).alloc _).alloc _) (HT8.1.mono (bA (bA (bA (bR W8) _) _) _)) ((AO.made Ah _ _).alloc _) (AO.made Ah _ _)).mono ?_;rintro e w9 ⟨rfl,Nh⟩;have qN:=AB (bT (bA (bA (bA (bR W8) _) _) _) Nh);obtain ⟨TU,JM,GX,YV,HL9⟩:=I4 (anP.1.keep qN.1) (abT.1.keep qN.1) (bT Jb.1 qN.1) (Wi.1.mono qN.1) (HL8.1.mono qN.1);clear Nh qN anP abT Jb Wi HL8 HT8 lq;have X4:=TU.1;obtain ⟨Bg,CO,CU,ES,-⟩:=X4.Az;go_wp2_with fail;refine (aJ.1 _ _ HL9.1).mono ?_;rintro e w10 ⟨A5,c5,ys,rfl,Tz,anQ,ac6⟩;rw [ayA] at ac6;obtain ⟨Ls,qL,Rn,HLn⟩:=DW (JM.1.keep Tz) (bT GX.1 Tz) (YV.1.mono Tz) anQ.lns;have hyl:ys.length=3:=by have:=congrArg List.length ac6;simpa using this
 have HYl:=AB hyl;have HY:=AB ac6;clear Tz anQ ac6 hyl aJ X4 Bg CO CU ES TU JM GX YV HL9;have HS2:=AB (fun W g0 g1 g2 g3 (hl:FY W (.slice A5 ys.length c5) ys) (h0:AO W g0 42 #[.int .i64 0,.int .i64 0,.int .i64 5,.int .i64 0]) (h1:AO W g1 42 #[.int .i64 5,.int .i64 0,.int .i64 5,.int .i64 5]) (h2:AO W g2 42 #[.int .i64 5,.int .i64 0,.int .i64 9,.int .i64 0]) (h3:AO W g3 25 #[.slice (some ⟨g0,0,none⟩) 2 2,.slice (some ⟨g1,0,none⟩) 2 2,.slice (some ⟨g2,0,none⟩) 2 2]) =>
  show Calls prog 14 #[.slice A5 ys.length c5,.slice (some ⟨g3,0,none⟩) 3 3] W fun e w'=>e=.returned (.bool true)/\AU W w' from by
   have h9:=amZ _ _ ys [(⟨some ⟨g0,0,none⟩,2,2⟩,[⟨0,0⟩,⟨5,0⟩]),(⟨some ⟨g1,0,none⟩,2,2⟩,[⟨5,0⟩,⟨5,5⟩]),(⟨some ⟨g2,0,none⟩,2,2⟩,[⟨5,0⟩,⟨9,0⟩])] W hl (FY.three h3 (Sl.lit (n:=2) h0 rfl (D7 AA)) (Sl.lit (n:=2) h1 rfl (D7 AA)) (Sl.lit (n:=2) h2 rfl (D7 AA))) (by rw [HYl.1];omega) Ah (fun k hk=>by
    have h1:ys[k].2∈ys.map (·.2):=FZ (BO hk);rw [HY.1] at h1;simp only [FI,acv,or_false] at h1;rcases h1 with h | h | h<;>rw [h]<;>simp) (fun k hk=>by match k,hk with | 0,_=>simp | 1,_=>simp | 2,_=>simp)
   rw [HY.1] at h9;exact h9)
 generalize ys.length=yn at *;go_wp2_with fail;refine (HS2.1 _ w10.heap.size (w10.heap.size+1) (w10.heap.size+1+1) _ (HLn.1.mono (bA (bA (bA (bA (bR w10) _) _) _) _)) ((((AO.made rfl _ _).alloc _).alloc _).alloc _) (((AO.made Ah _ _).alloc _).alloc _) ((AO.made Ah _ _).alloc _) (AO.made Ah _ _)).mono ?_;rintro e Df ⟨rfl,Tc⟩;have ac7:=AB (bT (bA (bA (bA (bA (bR w10) _) _) _) _) Tc);have X6:=Ls.1.keep ac7.1;have jk:=AB (bT qL.1 ac7.1);have hP:=Rn.1.mono ac7.1;obtain ⟨va,vb,vc,al,hvv,hpa,-,⟨⟨Ba',da',hva,-,-,FT⟩,-⟩,-⟩:=hP;have hab:vb=.slice Ba 1 da:=by
  injection hvv with hvv;have:=congrArg (fun a:Array Value=>a.toList) hvv
  simp only [List.cons.injEq,and_true] at this;exact this.2.1.symm
 have YD:(al.map (·.1)).map (fun a=>(a.left,a.right))=[(1,0)]:=by rw [<- hpa];exact anL
 have hal:∃ a,al=[a]/\a.1.left=1/\a.1.right=0:=by
  have hl:al.length=1:=by have:=congrArg List.length YD;simpa using this
  obtain ⟨a,ha⟩:=List.length_eq_one_iff.1 hl;rw [ha] at YD;simp only [Ey,O9,List.cons.injEq,Prod.mk.injEq,and_true] at YD;exact ⟨a,ha,YD.1,YD.2⟩
 obtain ⟨a,rfl,ha1,ha2⟩:=hal;rw [hab] at hva;injection hva with hva e1 e2;subst hva;clear e1 e2;obtain ⟨b,o,hBa,hlb,-,-,-,-,c4,c5⟩:=FT.ar (k:=0) Ah;simp only [List.getElem_cons_zero,kP,RF] at c4 c5;rw [ha1] at c4;rw [ha2] at c5;subst hBa;clear hvv hab hpa YD ha1 ha2 FT Tc HS2 Ls qL Rn HLn ac7;obtain ⟨FU,FV,FW,QZ,-⟩:=X6.Az;go_wp2;go_ret;exact ⟨rfl,jk.1⟩
