import Derived.Test.YtialfdomhoojiaaGreatJ21
import Derived.Test.YtialfdomhoojiaaGreatLaySortAd
import Derived.Test.YtialfdomhoojiaaGreatLaySortRg
set_option linter.unusedSimpArgs false
set_option linter.unusedVariables false
set_option maxRecDepth 100000
set_option maxHeartbeats 8000000
namespace Go.Proofs.YtialfdomhoojiaaGreat
open Go.RowKit
def atr (w:World) (l:List Nd) (e:Ending) (w':World):Prop :=
 ∃ A c,e=.returned (.slice A l.length c)/\AP w w'/\Own w' w.heap.size 45 3 SA (.slice A l.length c) l
theorem att (v:Value) (l:List Nd) (w:World) (h:aI w v l) (hl:l.length<=1048576) :
  Calls Tryz.prog 113 #[v] w (atr w l):=by
 have H:=h;obtain ⟨A,c,rfl,hn,hc,hR⟩:=h;have hE:=Lib.run_eql_slice_nil (P:=Tryz.prog) (t:=22) (e:=45);rcases A with _ | ad
 ·have hl0:l=[]:=by
   rcases l with _ | ⟨a,l⟩
   · rfl
   ·obtain ⟨b,o,e,_⟩:=hR (by simp [SA])
    cases e
  subst hl0;clear hR H;simp only [Md] at hn ⊢;have hE1:∀ W:World,(binOp .eql 22 (.slice none 0 c) (.slice none 0 0)).run Tryz.prog W=.ok (.bool true) W:=fun W=>Lib.run_eql_slice_nil W _ 45 none _ c 0 0 Tryz.underlying22;clear hE;go_enter Tryz.func113,Tryz.ntmps113;go_wp2;go_ret;exact ⟨_,_,rfl,bR w,Own.nil _ _ _ _ _⟩
 ·have hE1:∀ W:World,(binOp .eql 22 (.slice (some ad) l.length c) (.slice none 0 0)).run Tryz.prog W=.ok (.bool false) W:=fun W=>Lib.run_eql_slice_nil W _ 45 (some ad) _ c 0 0 Tryz.underlying22;clear hE hR;have HH:=AA H;clear H;go_enter Tryz.func113,Tryz.ntmps113;go_wp2_with
   (at_builtin
    refine Ew _ rfl (.tmp 5) (.tmp 6) _ rfl (base:=w.heap.size) agZ acR aga rfl (Own.lit _ _ _ _ SA [] _ 0 _ rfl rfl (DT _) (D6 AB) rfl rfl) rfl (HH.out.mono (bA (bR w) _)) Xz Xz Aw ?_;intro v1 w1 hown hg hat)
  go_ret;obtain ⟨A1,c1,rfl,-⟩:=Own.sl hown;simp only [QD] at hown ⊢;exact ⟨A1,c1,rfl,bG (bA (bR w) _) hg (fun k hk=>by have:w.heap.size=k:=Dc hk;omega),hown⟩
def xG (a:Ar):Ar:=⟨a.id,a.fr,a.dst,a.via,0,0⟩
def I5 (p:Pl):Pl:=⟨p.nodes,p.AU.map xG,[]⟩
structure IJ (w:World) (B:Nat) (vn va vf:Value) (p:Pl) (bl:List (Ar×SV)):Prop where
 QZ:Own w B 45 3 SA vn p.nodes
 I7:Own w B 50 6 YU va bl
 NQ:∀ x∈bl,Own w B 39 2 EX (BJ x.2) x.1.via
 eq:bl.map (·.1)=p.AU
 NR:Own w B 3 1 D5 vf p.faces
theorem IJ.keep {w w':World} {B:Nat} {vn va vf:Value} {p:Pl} {bl:List (Ar×SV)} (h:IJ w B vn va vf p bl) (hb:AP w w'):IJ w' B vn va vf p bl :=
 ⟨h.QZ.keep hb,h.I7.keep hb,fun x hx=>(h.NQ x hx).keep hb,h.eq,h.NR.keep hb⟩
theorem IJ.aCe {w:World} {B:Nat} {vn va vf:Value} {p:Pl} {bl:List (Ar×SV)} (h:IJ w B vn va vf p bl):Cb w (.agg #[vn,va,vf]) p:=by
 refine ⟨vn,va,vf,bl.map yO,rfl,?_,h.QZ.sl,⟨?_,fun k hk=>?_⟩,h.NR.sl⟩
 · rw [Mc,<- h.eq];rfl
 ·have:=h.I7.sl
  rw [Cm,ain];exact this
 ·have hk':k<bl.length:=by simpa using hk
  rw [Gq];exact (h.NQ _ (BH hk')).sl
def atu (w:World) (p:Pl) (e:Ending) (w':World):Prop :=
 ∃ An cn Aa ca bl,e=.returned (.agg #[.slice An p.nodes.length cn,.slice Aa p.AU.length ca,.slice none 0 0])/\AP w w'/\IJ w' w.heap.size (.slice An p.nodes.length cn) (.slice Aa p.AU.length ca) (.slice none 0 0) p bl
theorem IJ.more {w w1:World} {B:Nat} {vn va va' vf:Value} {p:Pl} {bl:List (Ar×SV)} {x:Ar×SV} (h:IJ w B vn va vf p bl) (ho:Own w1 B 50 6 YU va' (bl++[x])) (hg:w.grownBy w1 va.ownBlock) (hx:Own w B 39 2 EX (BJ x.2) x.1.via) :
  IJ w1 B vn va' vf ⟨p.nodes,p.AU++[x.1],p.faces⟩ (bl++[x]) :=
 ⟨Own.grown h.QZ hg (Own.apart h.QZ h.I7 BG),ho,fun y hy=>by
  rcases FZ.1 hy with hy | hy
  · exact Own.grown (h.NQ y hy) hg (Own.apart (h.NQ y hy) h.I7 BG)
  ·rw [ED] at hy;subst hy;exact Own.grown hx hg (Own.apart hx h.I7 BG),by rw [GL,h.eq];rfl,Own.grown h.NR hg (Own.apart h.NR h.I7 BG)⟩
theorem IJ.far {w:World} {B:Nat} {vn va vf:Value} {p:Pl} {bl:List (Ar×SV)} (h:IJ w B vn va vf p bl) {g:Nat} {t:TypeId} {cs:Array Value} (hb:AO w g t cs) (h1:45≠t) (h2:50≠t) (h3:39≠t) (h4:3≠t) (j:Nat) (u:Value):IJ (w.setCell ⟨g,j,none⟩ u) B vn va vf p bl :=
 ⟨Own.far h.QZ (Own.Dz h.QZ hb h1) u,Own.far h.I7 (Own.Dz h.I7 hb h2) u,fun x hx=>Own.far (h.NQ x hx) (Own.Dz (h.NQ x hx) hb h3) u,h.eq,Own.far h.NR (Own.Dz h.NR hb h4) u⟩
theorem Row.at6 {w:World} {A:Option Addr} {l:List (Ar×SV)} (h:Row w A (l.flatMap YU)) {k:Nat} (hk:k<l.length) :
  ∃ b o,A=some ⟨b,o,none⟩/\b<w.heap.size/\w.cell? ⟨b,o+k*6,none⟩=some (.int .i64 l[k].1.id)/\w.cell? ⟨b,o+k*6+1,none⟩=some (.int .i64 l[k].1.fr)/\w.cell? ⟨b,o+k*6+2,none⟩=some (.int .i64 l[k].1.dst) /\
   w.cell? ⟨b,o+k*6+3,none⟩=some (.slice l[k].2.a l[k].2.n l[k].2.c)/\w.cell? ⟨b,o+k*6+4,none⟩=some (.int .i64 l[k].1.left)/\w.cell? ⟨b,o+k*6+5,none⟩=some (.int .i64 l[k].1.right):=by
 obtain ⟨b,o,hA,hb,hc⟩:=h.at_ (n:=6) (fun _=>rfl) hk AB;exact ⟨b,o,hA,hb,hc 0 _ rfl,hc 1 _ rfl,hc 2 _ rfl,hc 3 _ rfl,hc 4 _ rfl,hc 5 _ rfl⟩
theorem akC (v:Value) (p:Pl) (w:World) (h:Cb w v p) (hn:p.nodes.length<=100000) (ha:p.AU.length<=100000) (hvl:∀ a∈p.AU,a.via.length<=100000):Calls Tryz.prog 56 #[v] w (atu w (I5 p)):=by
 obtain ⟨_,_,_,al,rfl,hpa,hN,⟨⟨Aa,ca,rfl,ha1,ha2,FU⟩,hV⟩,⟨Af,cf,rfl,-⟩⟩:=h;obtain ⟨bl,rfl⟩:=hV.sv;have hres:p.AU=bl.map (·.1):=by rw [hpa,Mc];rfl
 have hbl:bl.length<=100000:=by rw [hres,Cm] at ha;exact ha
 rw [Cm] at ha1;rw [ain] at FU;have HVk:=AA (show ∀ k (hk:k<bl.length),Dq w (.slice bl[k].2.a bl[k].2.n bl[k].2.c) bl[k].1.via from fun k hk=>by
  have:=hV k (by simpa using hk)
  simpa [yO] using this)
 have HVl:=AA (show ∀ k (hk:k<bl.length),bl[k].1.via.length<=100000 from fun k hk=>hvl _ (by rw [hres];exact Gs (BH hk)));have Gu:=AA (show Row w Aa (bl.flatMap YU) from FU);have HCn:=AA (fun W (hW:AP w W)=>att _ p.nodes W (hN.mono hW) AB);have jf:=AA (fun u l W (hu:Dq W u l) (hl:l.length<=1048576)=>agK u l W hu hl);obtain ⟨An,cn,rfl,hn1,hn2,-⟩:=hN;have ajd:=AA hres;rw [Cm] at *;unfold maxLen at ha2 hn2;clear hV FU hpa hres hvl;generalize p.faces.length=nf at *;go_enter Tryz.func56,Tryz.ntmps56;go_upto_region 1 with fail;obtain ⟨g2,hg2⟩:=BL (w.heap.size+1);obtain ⟨W1,hW⟩:∃ W:World,W=(w.alloc (.cells #[.slice An p.nodes.length cn,.slice Aa bl.length ca,.slice Af nf cf] 26)).alloc (.cells #[.slice none 0 0,.slice none 0 0,.slice none 0 0] 26):=⟨_,rfl⟩;have X1:AO W1 w.heap.size 26 #[.slice An p.nodes.length cn,.slice Aa bl.length ca,.slice Af nf cf]:=by rw [hW];exact (AO.made rfl _ _).alloc _
 have X2:AO W1 g2 26 #[.slice none 0 0,.slice none 0 0,.slice none 0 0]:=by rw [hW];exact AO.made (by rw [<- hg2];simp) _ _
 have HB1:=AA (show AP w W1 by rw [hW];exact bA (bA (bR w) _) _);rw [<- hW]
 try rw [hg2]
 have D9:=AA X1;have CG:=AA X2;have n12:¬ g2=w.heap.size:=by omega
 have hgw:w.heap.size<=g2:=by omega
 clear hW hg2;obtain ⟨Ak,Au,Az,BA,-,-,-⟩:=X1.BF;obtain ⟨BQ,BR,BX,CZ,XI,iy,qV⟩:=X2.BF;go_wp2_with fail;refine (HCn.out _ HB1.out).mono ?_;rintro e w2 ⟨Js,Jt,rfl,hb2,hon⟩;have HB2:=AA (bT HB1.out hb2);have Ep:=AA (D9.out.keep hb2);have DJ:=AA (CG.out.keep hb2);have aje:=hon.Du (b':=w.heap.size) HB1.out.size;have WT:=AA (show IJ w2 w.heap.size (.slice Js p.nodes.length Jt) (.slice none 0 0) (.slice none 0 0) ⟨p.nodes,[],[]⟩ [] from ⟨aje,Own.nil _ _ _ _ _,(fun x hx=>by cases hx),rfl,Own.nil _ _ _ _ _⟩);clear hb2 hon aje HCn X1 Ak Au Az BA X2 BQ BR BX CZ XI iy qV;have X3:=Ep.out;have X4:=DJ.out;obtain ⟨E5,Eo,F9,LC,-,-,-⟩:=X3.BF;obtain ⟨Bh,Bl,CV,FB,Dl,Ey,Ia⟩:=X4.BF;go_wp2_with fail;go_loopw [12] (fun i wr=>∃ (k:Nat) (ol:List (Ar×SV)) (A:Option Addr) (c:Nat),k<=bl.length/\i=.int .i64 k/\ol.length=k/\IJ wr w.heap.size (.slice Js p.nodes.length Jt) (.slice A k c) (.slice none 0 0) ⟨p.nodes,(bl.take k).map (fun x=>xG x.1),[]⟩ ol/\AO wr g2 26 #[.slice Js p.nodes.length Jt,.slice A k c,.slice none 0 0]/\AP w wr) (fun i _=>bl.length-(intOf i).toNat)
 case atStart => exact ⟨0,[],none,0,BZ _,rfl,rfl,WT.out.far DJ.out BG BG BG BG 0 _,by simpa using DJ.out.EW 0 (.slice Js p.nodes.length Jt),bS HB2.out hgw _⟩
 case round =>
  clear WT DJ HB2 X3 E5 Eo F9 LC X4 Bh Bl CV FB Dl Ey Ia;obtain ⟨k,ol,A,c,hk,rfl,hol,hpo,X4,hb⟩:=hrel;obtain ⟨wo,rfl⟩:=BO wr;have HP:=AA hpo;have DJ:=AA X4;have HB:=AA hb;have YX:=AA hol;have hl4:=X4.lt;clear hpo hb;by_cases hlt:k<bl.length
  ·obtain ⟨b,o,V6,hlb,c0,c1,c2,c3,c4,c5⟩:=(Row.mono Gu.out HB.out).at6 hlt;subst V6;have hv:=HVk.out k hlt;have hvl:=HVl.out k hlt;have htk:bl.take (k+1)=bl.take k++[bl[k]]:=En hlt;generalize bl[k]=x at *;obtain ⟨⟨id,fr,dst,via,lf,rt⟩,⟨va,vn,vc⟩⟩:=x;simp only at c0 c1 c2 c3 c4 c5 hv hvl htk;have hv0:=hv;obtain ⟨Av,cv,hev,-,-,-⟩:=hv;injection hev with y1 y2 y3;subst y1 y2 y3;have qW:=AA (fun W (hW:AP w W)=>jf.out (.slice va via.length vc) via W (hv0.mono hW) AB);clear hv0;have Et:=AA htk;clear htk;go_upto_region 5 with fail;obtain ⟨W2,hW⟩:∃ W:World,W=wo.alloc (.cells #[.int .i64 id,.int .i64 fr,.int .i64 dst,.slice va via.length vc,.int .i64 lf,.int .i64 rt] 50):=⟨_,rfl⟩;have hA:AP wo W2:=by rw [hW];exact bA (bR wo) _
   obtain ⟨g4,hg4⟩:=BL wo.heap.size;have X6:AO W2 g4 50 #[.int .i64 id,.int .i64 fr,.int .i64 dst,.slice va via.length vc,.int .i64 lf,.int .i64 rt]:=by rw [hW];exact AO.made hg4.symm _ _
   have HB2:=AA (bT HB.out hA);have HP2:=AA (HP.out.keep hA);have D8:=AA (DJ.out.keep hA);have n4:some g4≠(Value.slice A k c).ownBlock:=fun e=>by have:=(HP.out.I7.lt _ e.symm).2;omega
   have n42:¬ g4=g2:=by omega
   have hz2:=HB2.out.size;have ayt:=hA.size;rw [<- hW]
   try rw [hg4]
   clear hW hA c0 c1 c2 c3 c4 c5 hlb HP HB DJ;have X5:=D8.out;clear X4;have DL:=AA (fun (y:Ar×SV)=>show (ol++[y]).length=k+1 from by rw [EC,YX.out];rfl);have ayu:ol.length<=100000:=by omega
   have ads:w.heap.size<=g2:=hgw;have HXt:=AA (fun (A7:Option Addr) (c7:Nat)=>show (bl.take (k+1)).map (fun x=>xG x.1)=(bl.take k).map (fun x=>xG x.1)++[(⟨id,fr,dst,via,0,0⟩:Ar)] from by rw [Et.out,GL];rfl);obtain ⟨EF,EG,EH,Nb,Sj,mD,mF,-,-,-,-,-,-⟩:=X6.IU;have hl5:=X5.lt;have n5:=Own.Dz HP2.out.I7 D8.out BG;refine aAT (OX (w.heap.size) (g4) W2) (.take 0 1 (.run 8 2 1 (.two 1 1023 (.call 10 2047 (.take 11 4095 (.call 12 8191 (.call 13 16383 (.take 14 32767 (.call 15 65535 (.done))))))) 10 2045 (.take 11 4093 (.two 1 4095 (.call 12 8191 (.call 13 16383 (.take 14 32767 (.call 15 65535 (.done))))) 12 8189 (.call 1 8191 (.call 13 16383 (.take 14 32767 (.call 15 65535 (.done)))))))))) FC (kR _) FC FC (abW FC) ?_;intro Bv QR Ae Ah hS;replace X5:=X5.drew
   iterate 9
    apply oC;exact Ae;exact rfl;exact hS;exact rfl
    · intro _ hqc zV;go_simp;try rfl
    try simp only [pu]
   refine Oc (i:=1) (j:=10) (Ej Ae rfl) (Ej Ae rfl) (fun K hK=>?_) (fun K hK=>?_)
   ·have AQ:=AA hS;clear hS;refine FQ (FM rfl) ?_;obtain ⟨z1,z2,z3,z4,-⟩:=AO.BF X5;go_simp;refine hK.out _ _ AQ.out (fun hS=>?_);clear hK K AQ
    try simp only [pu]
    refine UK (i:=10) (Ej Ae rfl) (fun K hK=>?_);have AQ:=AA hS;clear hS;refine FQ (FM rfl) ?_;go_simp;refine (qW.out _ (bT HB2.out (bD (bR W2)))).mono ?_;rintro e Bq ⟨A9,c9,rfl,Bf,Jo⟩;have hS:OX (w.heap.size) (g4) W2 Bq:=kC AQ.out Bf AB AB;clear AQ
    try replace XL:=XL.keep Bf
    try replace X5:=X5.keep Bf
    refine hK.out _ _ hS (fun _=>?_);clear hK K
    try simp only [pu]
    apply oC;exact Ae;exact rfl;exact hS;exact rfl
    · intro _ hqc zV;go_simp;try rfl
    try simp only [pu]
    refine UK (i:=12) (Ej Ae rfl) (fun K hK=>?_);have AQ:=AA hS;clear hS;refine FQ (FM rfl) ?_;go_simp;have XLy:Below (w.heap.size) W2 (Bq):=AQ.out.1;have zW:w.heap.size<=(Bq).heap.size:=Dn AB (show Below (w.heap.size) W2 (Bq) from AQ.out.1).size;refine hK.out _ _ (kA AQ.out AB AB _) (fun hS=>?_);clear hK K AQ
    try replace X5:=X5.alloc (.cells #[.int .i64 id,.int .i64 fr,.int .i64 dst,.slice A9 via.length c9,.int .i64 0,.int .i64 0] 50)
    try replace XL:=XL.alloc (.cells #[.int .i64 id,.int .i64 fr,.int .i64 dst,.slice A9 via.length c9,.int .i64 0,.int .i64 0] 50)
    have XL:=AO.new (Bq) 50 #[.int .i64 id,.int .i64 fr,.int .i64 dst,.slice A9 via.length c9,.int .i64 0,.int .i64 0]
    try simp only [World.size_drew,World.size_alloc] at XL zW
    try simp only [World.alloc_drew] at X5
    try simp only [World.alloc_drew] at XL
    try simp only [pu]
    refine UK (i:=13) (Ej Ae rfl) (fun K hK=>?_);have AQ:=AA hS;clear hS;refine FQ (FM rfl) ?_;refine IZ (.tmp 17) (.tmp 28) _ rfl (base:=w.heap.size) acQ yN aeR rfl (((HP2.out.I7.keep (bD (bR W2))).keep Bf).alloc _) rfl (l2:=[((⟨id,fr,dst,via,0,0⟩:Ar),(⟨A9,via.length,c9⟩:SV))]) (Sl.lit (n:=1) (AO.made rfl _ _) rfl (D6 AB)) DR DR (by have:=Bf.size;simp at this;simp;omega) ?_;intro v7 w7 MS Fg RZ;obtain ⟨A7,c7,hv7,-⟩:=Own.IE MS;rw [DL.out] at hv7;subst hv7;have SN:=AO.grown X5 Fg (fun e=>n5 e.symm);obtain ⟨q1,q2,q3,q4,q5,q6,q7⟩:=AO.BF SN;have hmr:=IJ.more (((HP2.out.keep (bD (bR W2))).keep Bf).keep (bA (bR _) _)) MS Fg (Own.alloc (Jo.Du DC) _);have ZC:=AA (hmr.far SN BG BG BG BG 1 (.slice A7 (k+1) c7));have fC:=AA (SN.EW 1 (.slice A7 (k+1) c7));have MV:=AA (bS (p:=⟨g2,1,none⟩) (bG (bA (bT (bT HB2.out (bD (bR W2))) Bf) _) Fg (fun q hq=>(HP2.out.I7.lt q hq).1)) ads (.slice A7 (k+1) c7));have hS:OX w.heap.size g4 W2 w7:=kG AQ.out Fg (fun q hq=>(HP2.out.I7.lt q hq).1) n4 AB AB;clear hmr SN MS Fg RZ;clear AQ;refine hK.out _ _ hS (fun _=>?_);clear hK K
    try simp only [pu]
    apply oC;exact Ae;exact rfl;exact hS;exact rfl
    · intro _ hqc zV;go_simp;try rfl
    try simp only [pu]
    refine UK (i:=15) (Ej Ae rfl) (fun K hK=>?_);have AQ:=AA hS;clear hS;refine FQ (FM rfl) ?_;go_simp;refine hK.out _ _ (kS AQ.out OC OC _) (fun hS=>?_);clear hK K AQ
    try simp only [pu]
    refine nI ?_;refine Ah.down _ _ ?_;have hBk:=hS.2;have hB:Below (w.heap.size) W2 _:=hS.1;clear hS Ah Ae;go_wp2;go_roundw
    case rel => exact ⟨k+1,_,A7,c7,AB,BI,DL.out _,by rw [HXt.out A7 c7];exact ZC.out,by simpa using fC.out,MV.out⟩
    case measure => exact BK
   ·have AQ:=AA hS;clear hS;refine FQ (FM rfl) ?_;go_simp;refine (qW.out _ (bT HB2.out (bD (bR W2)))).mono ?_;rintro e Bq ⟨A9,c9,rfl,Bf,Jo⟩;have hS:OX (w.heap.size) (g4) W2 Bq:=kC AQ.out Bf AB AB;clear AQ
    try replace XL:=XL.keep Bf
    try replace X5:=X5.keep Bf
    refine hK.out _ _ hS (fun _=>?_);clear hK K
    try simp only [pu]
    apply oC;exact Ae;exact rfl;exact hS;exact rfl
    · intro _ hqc zV;go_simp;try rfl
    try simp only [pu]
    refine Oc (i:=1) (j:=12) (Ej Ae rfl) (Ej Ae rfl) (fun K hK=>?_) (fun K hK=>?_)
    ·have AQ:=AA hS;clear hS;refine FQ (FM rfl) ?_;obtain ⟨z1,z2,z3,z4,-⟩:=AO.BF X5;go_simp;refine hK.out _ _ AQ.out (fun hS=>?_);clear hK K AQ
     try simp only [pu]
     refine UK (i:=12) (Ej Ae rfl) (fun K hK=>?_);have AQ:=AA hS;clear hS;refine FQ (FM rfl) ?_;go_simp;have XLy:Below (w.heap.size) W2 (Bq):=AQ.out.1;have zW:w.heap.size<=(Bq).heap.size:=Dn AB (show Below (w.heap.size) W2 (Bq) from AQ.out.1).size;refine hK.out _ _ (kA AQ.out AB AB _) (fun hS=>?_);clear hK K AQ
     try replace X5:=X5.alloc (.cells #[.int .i64 id,.int .i64 fr,.int .i64 dst,.slice A9 via.length c9,.int .i64 0,.int .i64 0] 50)
     try replace XL:=XL.alloc (.cells #[.int .i64 id,.int .i64 fr,.int .i64 dst,.slice A9 via.length c9,.int .i64 0,.int .i64 0] 50)
     have XL:=AO.new (Bq) 50 #[.int .i64 id,.int .i64 fr,.int .i64 dst,.slice A9 via.length c9,.int .i64 0,.int .i64 0]
     try simp only [World.size_drew,World.size_alloc] at XL zW
     try simp only [World.alloc_drew] at X5
     try simp only [World.alloc_drew] at XL
     try simp only [pu]
     refine UK (i:=13) (Ej Ae rfl) (fun K hK=>?_);have AQ:=AA hS;clear hS;refine FQ (FM rfl) ?_;refine IZ (.tmp 17) (.tmp 28) _ rfl (base:=w.heap.size) acQ yN aeR rfl (((HP2.out.I7.keep (bD (bR W2))).keep Bf).alloc _) rfl (l2:=[((⟨id,fr,dst,via,0,0⟩:Ar),(⟨A9,via.length,c9⟩:SV))]) (Sl.lit (n:=1) (AO.made rfl _ _) rfl (D6 AB)) DR DR (by have:=Bf.size;simp at this;simp;omega) ?_;intro v7 w7 MS Fg RZ;obtain ⟨A7,c7,hv7,-⟩:=Own.IE MS;rw [DL.out] at hv7;subst hv7;have SN:=AO.grown X5 Fg (fun e=>n5 e.symm);obtain ⟨q1,q2,q3,q4,q5,q6,q7⟩:=AO.BF SN;have hmr:=IJ.more (((HP2.out.keep (bD (bR W2))).keep Bf).keep (bA (bR _) _)) MS Fg (Own.alloc (Jo.Du DC) _);have ZC:=AA (hmr.far SN BG BG BG BG 1 (.slice A7 (k+1) c7));have fC:=AA (SN.EW 1 (.slice A7 (k+1) c7));have MV:=AA (bS (p:=⟨g2,1,none⟩) (bG (bA (bT (bT HB2.out (bD (bR W2))) Bf) _) Fg (fun q hq=>(HP2.out.I7.lt q hq).1)) ads (.slice A7 (k+1) c7));have hS:OX w.heap.size g4 W2 w7:=kG AQ.out Fg (fun q hq=>(HP2.out.I7.lt q hq).1) n4 AB AB;clear hmr SN MS Fg RZ;clear AQ;refine hK.out _ _ hS (fun _=>?_);clear hK K
     try simp only [pu]
     apply oC;exact Ae;exact rfl;exact hS;exact rfl
     · intro _ hqc zV;go_simp;try rfl
     try simp only [pu]
     refine UK (i:=15) (Ej Ae rfl) (fun K hK=>?_);have AQ:=AA hS;clear hS;refine FQ (FM rfl) ?_;go_simp;refine hK.out _ _ (kS AQ.out OC OC _) (fun hS=>?_);clear hK K AQ
     try simp only [pu]
     refine nI ?_;refine Ah.down _ _ ?_;have hBk:=hS.2;have hB:Below (w.heap.size) W2 _:=hS.1;clear hS Ah Ae;go_wp2;go_roundw
     case rel => exact ⟨k+1,_,A7,c7,AB,BI,DL.out _,by rw [HXt.out A7 c7];exact ZC.out,by simpa using fC.out,MV.out⟩
     case measure => exact BK
    ·have AQ:=AA hS;clear hS;refine FQ (FM rfl) ?_;go_simp;have XLy:Below (w.heap.size) W2 (Bq):=AQ.out.1;have zW:w.heap.size<=(Bq).heap.size:=Dn AB (show Below (w.heap.size) W2 (Bq) from AQ.out.1).size;refine hK.out _ _ (kA AQ.out AB AB _) (fun hS=>?_);clear hK K AQ
     try replace X5:=X5.alloc (.cells #[.int .i64 id,.int .i64 fr,.int .i64 dst,.slice A9 via.length c9,.int .i64 0,.int .i64 0] 50)
     try replace XL:=XL.alloc (.cells #[.int .i64 id,.int .i64 fr,.int .i64 dst,.slice A9 via.length c9,.int .i64 0,.int .i64 0] 50)
     have XL:=AO.new (Bq) 50 #[.int .i64 id,.int .i64 fr,.int .i64 dst,.slice A9 via.length c9,.int .i64 0,.int .i64 0]
     try simp only [World.size_drew,World.size_alloc] at XL zW
     try simp only [World.alloc_drew] at X5
     try simp only [World.alloc_drew] at XL
     try simp only [pu]
     refine UK (i:=1) (Ej Ae rfl) (fun K hK=>?_);have AQ:=AA hS;clear hS;refine FQ (FM rfl) ?_;obtain ⟨z1,z2,z3,z4,-⟩:=AO.BF X5;go_simp;refine hK.out _ _ AQ.out (fun hS=>?_);clear hK K AQ
     try simp only [pu]
     refine UK (i:=13) (Ej Ae rfl) (fun K hK=>?_);have AQ:=AA hS;clear hS;refine FQ (FM rfl) ?_;refine IZ (.tmp 17) (.tmp 28) _ rfl (base:=w.heap.size) acQ yN aeR rfl (((HP2.out.I7.keep (bD (bR W2))).keep Bf).alloc _) rfl (l2:=[((⟨id,fr,dst,via,0,0⟩:Ar),(⟨A9,via.length,c9⟩:SV))]) (Sl.lit (n:=1) (AO.made rfl _ _) rfl (D6 AB)) DR DR (by have:=Bf.size;simp at this;simp;omega) ?_;intro v7 w7 MS Fg RZ;obtain ⟨A7,c7,hv7,-⟩:=Own.IE MS;rw [DL.out] at hv7;subst hv7;have SN:=AO.grown X5 Fg (fun e=>n5 e.symm);obtain ⟨q1,q2,q3,q4,q5,q6,q7⟩:=AO.BF SN;have hmr:=IJ.more (((HP2.out.keep (bD (bR W2))).keep Bf).keep (bA (bR _) _)) MS Fg (Own.alloc (Jo.Du DC) _);have ZC:=AA (hmr.far SN BG BG BG BG 1 (.slice A7 (k+1) c7));have fC:=AA (SN.EW 1 (.slice A7 (k+1) c7));have MV:=AA (bS (p:=⟨g2,1,none⟩) (bG (bA (bT (bT HB2.out (bD (bR W2))) Bf) _) Fg (fun q hq=>(HP2.out.I7.lt q hq).1)) ads (.slice A7 (k+1) c7));have hS:OX w.heap.size g4 W2 w7:=kG AQ.out Fg (fun q hq=>(HP2.out.I7.lt q hq).1) n4 AB AB;clear hmr SN MS Fg RZ;clear AQ;refine hK.out _ _ hS (fun _=>?_);clear hK K
     try simp only [pu]
     apply oC;exact Ae;exact rfl;exact hS;exact rfl
     · intro _ hqc zV;go_simp;try rfl
     try simp only [pu]
     refine UK (i:=15) (Ej Ae rfl) (fun K hK=>?_);have AQ:=AA hS;clear hS;refine FQ (FM rfl) ?_;go_simp;refine hK.out _ _ (kS AQ.out OC OC _) (fun hS=>?_);clear hK K AQ
     try simp only [pu]
     refine nI ?_;refine Ah.down _ _ ?_;have hBk:=hS.2;have hB:Below (w.heap.size) W2 _:=hS.1;clear hS Ah Ae;go_wp2;go_roundw
     case rel => exact ⟨k+1,_,A7,c7,AB,BI,DL.out _,by rw [HXt.out A7 c7];exact ZC.out,by simpa using fC.out,MV.out⟩
     case measure => exact BK
  ·obtain rfl:k=bl.length:=by omega
   have hlen:p.AU.length=bl.length:=by rw [ajd.out,Cm]
   have hpe:(⟨p.nodes,(bl.take bl.length).map (fun x=>xG x.1),[]⟩:Pl)=I5 p:=by
    unfold I5;rw [H8,ajd.out,Mc];rfl
   have hpo:=HP.out;rw [hpe] at hpo;have ZC:=AA (((hpo.far DJ.out BG BG BG BG 0 (.slice Js p.nodes.length Jt)).far (DJ.out.EW 0 _) BG BG BG BG 1 (.slice A bl.length c)).far ((DJ.out.EW 0 _).EW 1 _) BG BG BG BG 2 (.slice none 0 0));have MV:=AA (bS (p:=⟨g2,2,none⟩) (bS (p:=⟨g2,1,none⟩) (bS (p:=⟨g2,0,none⟩) HB.out hgw (.slice Js p.nodes.length Jt)) hgw (.slice A bl.length c)) hgw (.slice none 0 0));have HLn:=AA hlen;clear hpo hpe hlen HP
   try clear Bh Bl CV FB
   try clear Dl Ey Ia
   obtain ⟨Bh,Bl,CV,FB,Dl,Ey,Ia⟩:=X4.BF;go_wp2_with fail;refine gY (g:=g2) (cs:=#[.slice Js p.nodes.length Jt,.slice A bl.length c,.slice none 0 0]) rfl uO rfl rfl (AO.Zr DJ.out) ?_;have hl1:(I5 p).AU.length=bl.length:=by unfold I5;rw [Cm];exact HLn.out
   refine ⟨Js,Jt,A,c,ol,by rw [hl1];rfl,MV.out,?_⟩;rw [hl1];exact ZC.out
theorem ajf {k d:Int} (h:max d (-d)<max k (-k)\/(d=-k/\0<d)):RN k d=d:=by
 unfold RN;rw [AZ];rw [bM];unfold Ee;split<;>split<;>omega
theorem ajg {k d:Int} (h:¬ (max d (-d)<max k (-k))) (h2:¬ (d=-k/\0<d)):RN k d=k:=by
 unfold RN;rw [AX];rw [bM];unfold Ee;split<;>split<;>omega
theorem ajh (v:Value) (c:List Int) (w:World) (h:Ints w v c) (hne:0<c.length) (hb:∀ d∈c,-1073741824<=d/\d<=1073741824) :
  Calls Tryz.prog 63 #[v] w fun e w'=>e=.returned (.int .i64 (DZ c))/\w=w':=by
 obtain ⟨A,cp,rfl,hn1,hn2,hR⟩:=h;unfold maxLen at hn2;have HR:=AA hR;obtain ⟨R,hRr⟩:=BL (DZ c);rw [hRr];have hR0:=aiy c;rw [hRr] at hR0;have Kr:=AA hR0;have HUp:=AA (fun n (hn:n<c.length)=>aix (c:=c) hn);have qX:=AA (show ∀ n,-1073741824<=OU c n/\OU c n<=1073741824 from fun n=>by
  have h1:c.headD 0∈c:=by
   cases c with
   | nil=>cases hne
   | cons a c=>exact Ea
  rcases aBF (c.take n) (c.headD 0) with e | e
  · unfold OU;rw [e];exact hb _ h1
  · exact hb _ (aAE e))
 have xU:=AA (fun n (hn:n<c.length)=>hb _ (BH hn));have hh:c.headD 0=c[0]:=by
  cases c with
  | nil=>cases hne
  | cons a c=>rfl
 have h0:OU c 0=c[0]:=by unfold OU;rw [OB];exact hh
 obtain ⟨b0,o0,rfl,hlb0,c0⟩:=(HR.out).int hne;rw [<- h0] at c0;simp only [VJ] at c0;have kz:(0:Int)<c.length:=by omega
 have kn:¬ c=[]:=fun e=>by have:=congrArg List.length e;simp only [Md] at this;omega
 clear hb hR hRr hR0 h0 hh;go_enter Tryz.func63,Tryz.ntmps63;go_wp2_with fail;go_loopw [3,11] (fun s i wr=>∃ k:Nat,k<=c.length/\i=.int .i64 k/\s=.int .i64 (OU c k)/\wr=w) (fun _ i _=>c.length-(intOf i).toNat)
 case atStart => exact ⟨0,BZ _,rfl,rfl,rfl⟩
 case round =>
  obtain ⟨k,hk,rfl,rfl,hw⟩:=hrel;obtain rfl:=hw.symm;have hkb:=qX.out k;by_cases hlt:k<c.length
  ·obtain ⟨b,o,hA,hlb,c1⟩:=(HR.out).int hlt;injection hA with hA;injection hA with y1 y2 _;subst y1 y2;have hdb:=xU.out k hlt;have hup:=HUp.out k hlt;generalize c[k]=d at *;generalize OU c k=q at *;have HU:=AA hup;clear hup c0;have k1:IntKind.i64.wrap (-d)=-d:=Ci _ AB;have k2:IntKind.i64.wrap (-q)=-q:=Ci _ AB;have m1:max d (-d)=(if d<0 then -d else d):=by split<;>omega
   by_cases h1:max d (-d)<max q (-q)
   ·have hs:=AA (ajf (.inl h1));clear m1;go_wp2;go_roundw
    case rel => exact ⟨k+1,AB,BI,by rw [HU.out,hs.out],trivial⟩
    case measure => exact BK
   ·clear m1;by_cases h2:d=-q
    ·by_cases h3:0<d
     ·have hs:=AA (ajf (.inr ⟨h2,h3⟩));have h2b:(d == -q)=true:=by simpa using h2
      clear h2;go_wp2;go_roundw
      case rel => exact ⟨k+1,AB,BI,by rw [HU.out,hs.out],trivial⟩
      case measure => exact BK
     ·have hs:=AA (ajg h1 (fun e=>h3 e.2));have h2b:(d == -q)=true:=by simpa using h2
      clear h2;go_wp2;go_roundw
      case rel => exact ⟨k+1,AB,BI,by rw [HU.out,hs.out],trivial⟩
      case measure => exact BK
    ·have hs:=AA (ajg h1 (fun e=>h2 e.1));have h2b:(d == -q)=false:=by simpa using h2
     clear h2;go_wp2;go_roundw
     case rel => exact ⟨k+1,AB,BI,by rw [HU.out,hs.out],trivial⟩
     case measure => exact BK
  ·obtain rfl:k=c.length:=by omega
   have hf:=Kr.out;rw [hf];go_wp2;go_ret;exact ⟨rfl,rfl⟩
def jg (l:List Int):Int:=(l.find? (fun x=>decide (x≠0))).getD 0
theorem atv (v:Value) (l:List Int) (w:World) (h:Ints w v l) (hs:l.length<=1000):Calls Tryz.prog 122 #[v] w fun e w'=>e=.returned (.int .i64 (jg l))/\w=w':=by
 obtain ⟨A,c,rfl,hn,hc,hR⟩:=h;unfold maxLen at hc;have HR:=AA hR;clear hR;obtain ⟨q,hq⟩:=BL (jg l);rw [hq];have Hq:=AA hq;clear hq;go_enter Tryz.func122,Tryz.ntmps122;go_wp2_with fail;go_loopw [8] (fun u wr=>∃ k:Nat,k<=l.length/\u=.int .i64 k/\wr=w/\∀ j (hj:j<l.length),j<k->l[j]=0) (fun u _=>l.length-(intOf u).toNat)
 case atStart => exact ⟨0,BZ _,rfl,rfl,fun _ _ h=>by omega⟩
 case round =>
  obtain ⟨k,hk,rfl,rfl,hno⟩:=hrel;have Hno:=AA hno;clear hno;by_cases hlt:k<l.length
  ·obtain ⟨b,o,rfl,hlb,c0⟩:=HR.out.int hlt;by_cases hz:l[k]=0
   ·have hz':(l[k] != 0)=false:=by simp [hz]
    have Hz:=AA hz;clear hz;go_wp2;go_roundw
    case rel => exact ⟨k+1,AB,BI,trivial,fun j hj hjk=>if e:j<k then Hno.out j hj e else by
      have:j=k:=by omega
      subst this;exact Hz.out⟩
    case measure => exact BK
   ·have hz':(l[k] != 0)=true:=by simp [hz]
    have hf:=uN l (fun x=>decide (x≠0)) k hlt (fun j hj hjk=>by simp [Hno.out j hj hjk]) (by simp [hz]);have Hf:=AA hf;clear hz hf;go_wp2;go_ret;exact ⟨DU (by rw [<- Hq.out,jg,Hf.out];rfl),rfl⟩
  ·have hf:=aAq l (fun x=>decide (x≠0)) (fun j hj=>by simp [Hno.out j hj AB]);have Hf:=AA hf;clear hf;go_wp2;go_ret;exact ⟨DU (by rw [<- Hq.out,jg,Hf.out];rfl),rfl⟩
theorem atw (v:Value) (l:List Int) (w:World) (h:Ints w v l) (hs:l.length<=1000):Calls Tryz.prog 122 #[v] w fun e w'=>e=.returned (.int .i64 (jg l))/\NZ w w' :=
 (atv v l w h hs).mono fun e w' h=>⟨h.1,by rw [<- h.2];exact ⟨bR w,dR w⟩⟩
open Go.RowKit Go.Sort
theorem atx (s t:AD) (w:World):Calls Tryz.prog 51 #[.agg #[.int .i64 s.tw,BJ s.ov,BJ s.iv,BJ s.av],.agg #[.int .i64 t.tw,BJ t.ov,BJ t.iv,BJ t.av]] w fun e w'=>e=.returned (.int .i64 (KC s.tw t.tw))/\NZ w w':=by
 unfold BJ;go_enter Tryz.func51,Tryz.ntmps51;go_wp2_with fail;refine (uh s.tw t.tw _).mono ?_;rintro e w1 ⟨rfl,hb1,hd1⟩;have HB1:=AA (bT (bA (bA (bR w) _) _) hb1);have HD1:=AA (dT (dA (dA (dR w) _) _) hd1);clear hb1 hd1;go_wp2;go_ret;exact ⟨rfl,HB1.out,HD1.out⟩
def cmpK (a b:Int):Int:=jg [KC (max a (-a)) (max b (-b)),KC b a]
theorem aty (a b:Int):cmpK a b<0↔GX a b=true:=by
 rw [bM];unfold cmpK jg KC Ee;have e1:max a (-a)=if a<0 then -a else a:=by split<;>omega
 have e2:max b (-b)=if b<0 then -b else b:=by split<;>omega
 rw [e1,e2];generalize (if a<0 then -a else a)=c;generalize (if b<0 then -b else b)=d;by_cases h1:c<d
 · simp [h1]
 ·by_cases h2:d<c
  · simp [h1,h2];omega
  ·by_cases h3:b<a
   · simp [h1,h2,h3];omega
   · by_cases h4:a<b<;>simp [h1,h2,h3,h4]<;>omega
theorem aBf {α:Type} (f:α->Int) (x y:α):ltOf (fun x y=>cmpK (f x) (f y)) x y=GX (f x) (f y):=by
 rw [LX,<- aty];unfold ltOf;simp only [E8]
theorem atz {α:Type} (f:α->Int):SWO (ltOf (fun x y:α=>cmpK (f x) (f y))) where
 irrefl x:=by rw [aBf];exact asf _
 trans x y z h1 h2:=by rw [aBf] at *;exact aeW h1 h2
 ntrans x y z h1 h2:=by
  rw [aBf] at *;rw [<- Iz] at *;rw [bM] at *;omega
theorem Ints.au0 {w:World} {g:Nat} {t:TypeId} {a b:Int} (h:AO w g t #[.int .i64 a,.int .i64 b]):Ints w (.slice (some ⟨g,0,none⟩) 2 2) [a,b] :=
 Sl.lit (n:=2) h rfl (D6 AB)
theorem au1 (a b:Int) (w:World) (ha:-1073741824<=a/\a<=1073741824) (hb:-1073741824<=b/\b<=1073741824) :
  Calls Tryz.prog 62 #[.int .i64 a,.int .i64 b] w fun e w'=>e=.returned (.int .i64 (cmpK a b))/\NZ w w':=by
 have k1:IntKind.i64.wrap (-a)=-a:=Ci _ AB;have k2:IntKind.i64.wrap (-b)=-b:=Ci _ AB;unfold cmpK;have HX:=AA (fun W=>uh (max a (-a)) (max b (-b)) W);have HY:=AA (fun W=>uh b a W);generalize KC (max a (-a)) (max b (-b))=x at *;generalize KC b a=y at *;go_enter Tryz.func62,Tryz.ntmps62;go_wp2_with fail;refine (HX.out _).mono ?_;rintro e w1 ⟨rfl,hb1,hd1⟩;go_wp2_with fail;refine (HY.out _).mono ?_;rintro e w2 ⟨rfl,hb2,hd2⟩;have HB2:=AA (bA (bT hb1 hb2) (.cells #[.int .i64 x,.int .i64 y] 3));have HD2:=AA (dA (dT hd1 hd2) (.cells #[.int .i64 x,.int .i64 y] 3));have hlit:=Ints.au0 (AO.made (w:=w2) rfl 3 #[.int .i64 x,.int .i64 y]);have HO:=AA (atw _ _ _ hlit Aw);clear hb1 hb2 hd1 hd2 k1 k2 hlit;go_wp2_with fail;refine (HO.out).mono ?_;rintro e w3 ⟨rfl,hb3,hd3⟩;have HB3:=AA (bT HB2.out hb3);have HD3:=AA (dT HD2.out hd3);clear hb3 hd3;go_wp2;go_ret;exact ⟨rfl,HB3.out,HD3.out⟩
def NS (w0:World) (s:AD):Prop:=Ints w0 (BJ s.ov) s.out/\0<s.out.length/\∀ d∈s.out,-1073741824<=d/\d<=1073741824
theorem NS.mono {w w':World} {s:AD} (h:NS w s) (hb:AP w w'):NS w' s:=⟨h.1.mono hb,h.2⟩
theorem au2 (s t:AD) (w:World) (hs:NS w s) (ht:NS w t):Calls Tryz.prog 61 #[.agg #[.int .i64 s.tw,BJ s.ov,BJ s.iv,BJ s.av],.agg #[.int .i64 t.tw,BJ t.ov,BJ t.iv,BJ t.av]] w fun e w'=>e=.returned (.int .i64 (cmpK (DZ s.out) (DZ t.out)))/\NZ w w':=by
 have HS:=AA (fun W (hW:AP w W)=>(ajh (BJ s.ov) s.out W (hs.1.mono hW) hs.2.1 hs.2.2).mono (R':=fun e w'=>e=.returned (.int .i64 (DZ s.out))/\NZ W w') fun e w' g=>⟨g.1,by rw [<- g.2];exact ⟨bR W,dR W⟩⟩);have HT:=AA (fun W (hW:AP w W)=>(ajh (BJ t.ov) t.out W (ht.1.mono hW) ht.2.1 ht.2.2).mono (R':=fun e w'=>e=.returned (.int .i64 (DZ t.out))/\NZ W w') fun e w' g=>⟨g.1,by rw [<- g.2];exact ⟨bR W,dR W⟩⟩);have HC:=AA (fun W=>au1 (DZ s.out) (DZ t.out) W (hs.2.2 _ (yQ (fun e=>by have:=hs.2.1;rw [e] at this;cases this))) (ht.2.2 _ (yQ (fun e=>by have:=ht.2.1;rw [e] at this;cases this))));unfold BJ at *;generalize DZ s.out=x at *;generalize DZ t.out=y at *;clear hs ht;obtain ⟨tw,so,⟨oa,on,oc⟩,si,⟨ia,FY,ic⟩,sa,⟨aa,an,ac⟩⟩:=s;obtain ⟨tw',so',⟨oa',on',oc'⟩,si',⟨ia',adt,ic'⟩,sa',⟨aa',an',ac'⟩⟩:=t;simp only at *;go_enter Tryz.func61,Tryz.ntmps61;go_upto_region 1 with fail;obtain ⟨W,hW⟩:=BO ((w.alloc (.cells #[.int .i64 tw,.slice oa on oc,.slice ia FY ic,.slice aa an ac] 82)).alloc (.cells #[.int .i64 tw',.slice oa' on' oc',.slice ia' adt ic',.slice aa' an' ac'] 82));have Bw:AP w W:=by rw [hW];exact bA (bA (bR w) _) _
 have Dw:=AA (show w.drawn<=W.drawn by rw [hW];exact dA (dA (dR w) _) _);have X1:AO W w.heap.size 82 #[.int .i64 tw,.slice oa on oc,.slice ia FY ic,.slice aa an ac]:=by rw [hW];exact (AO.made rfl _ _).alloc _
 have X2:AO W (w.heap.size+1) 82 #[.int .i64 tw',.slice oa' on' oc',.slice ia' adt ic',.slice aa' an' ac']:=by rw [hW];exact AO.made Aw _ _
 rw [<- hW];clear hW;obtain ⟨Ak,Au,Az,BA,X1d,-,-,-,-⟩:=X1.MC;obtain ⟨BQ,BR,BX,CZ,uG,-,-,-,-⟩:=X2.MC;refine Cj (W) (.take 0 1 (.take 1 3 (.take 3 11 (.take 4 27 (.call 2 31 (.call 5 63 (.call 6 127 (.take 7 255 (.done))))))))) fun Bv QR Ae Ah hS=>?_
 iterate 4 refine Aj ?_
 refine BP ?_;clear hS;intro K hK AQ;go_simp;refine (HS.out _ (bT Bw AQ.out)).mono ?_;rintro e Bq ⟨rfl,Bf,hd1⟩;have hS:Since W Bq:=bT (w:=W) AQ.out Bf;clear AQ;refine hK.out _ _ hS (fun _=>?_);clear hK K
 try simp only [pu]
 refine BP ?_;clear hS;intro K hK AQ;go_simp;refine (HT.out _ (bT Bw AQ.out)).mono ?_;rintro e wr2 ⟨rfl,FT,hd2⟩;have hS:Since W wr2:=bT (w:=W) AQ.out FT;clear AQ;refine hK.out _ _ hS (fun _=>?_);clear hK K
 try simp only [pu]
 refine BP ?_;clear hS;intro K hK AQ;go_simp;refine (HC.out _).mono ?_;rintro e wr3 ⟨rfl,Oi,hd3⟩;have hS:Since W wr3:=bT (w:=W) AQ.out Oi;clear AQ;refine hK.out _ _ hS (fun _=>?_);clear hK K
 try simp only [pu]
 refine Aj ?_;refine Ce ?_;clear hS Ah Ae;intro hB;have D3:=AA (dT (dT (dT (dD Dw.out) hd1) hd2) hd3);go_wp2;go_ret;exact ⟨rfl,bT Bw hB,D3.out⟩
open Go.RowKit Go.Sort
theorem au3:∀ w,(isAgg 82).run Tryz.prog w=.ok true w:=fun _=>by kernel_rfl
theorem au4:∀ w,(Go.sizeOf 82).run Tryz.prog w=.ok 4 w:=fun _=>by kernel_rfl
open Go.RowKit Go.Sort
theorem au5 (w0:World) (base g c cap:Nat) (z:AD) (sl:List AD) (w:World) (hown:Own w base 82 4 Di (.slice (some ⟨g,0,none⟩) (sl.length+1) c) (z::sl)) (hpos:0<sl.length) (hb0:AP w0 w) (hbase:w0.heap.size<=base) (hok:∀ s∈sl,NS w0 s) (hn:sl.length<=4294967296) :
  Calls Tryz.prog 60 #[.slice (some ⟨g,4,none⟩) sl.length cap,.func (.func 61) #[] #[]] w fun e w'=>e=.returned (.tuple #[])/\∃ sl':List AD,sl'.Perm sl/\sl'.Pairwise (fun a b=>ltOf (fun x y:AD=>cmpK (DZ x.out) (DZ y.out)) b a=false)/\Own w' base 82 4 Di (.slice (some ⟨g,0,none⟩) (sl.length+1) c) (z::sl')/\w.grownBy w' (some g):=by
 have hs0:sl[0]∈sl:=BH hpos;obtain ⟨hlen,hown2⟩:=hown;rcases hown2 with ⟨_,h0⟩ | ⟨g',cap',cur,hv,hg,hh,hnc,hcm,hcs,hx⟩
 · cases h0
 injection hv with e1 _ e3;injection e1 with e1;injection e1 with e1 _ _;subst e1 e3;have hnl:(z::sl).length=sl.length+1:=rfl;rw [hnl] at hnc hx hlen;have hfl:(z::sl).flatMap Di=Di z++sl.flatMap Di:=rfl;have au6:(sl.flatMap Di).length=sl.length*4:=flat_length Di 4 Pz sl
 haveI hI:Inhabited {s:AD // NS w0 s}:=⟨⟨sl[0],hok _ hs0⟩⟩
 have hdl:∃ dl:List {s:AD // NS w0 s},dl.map (·.1)=sl:=⟨sl.attachWith (fun s=>NS w0 s) hok,Aw⟩;obtain ⟨dl,hdl⟩:=hdl;have hdn:dl.length=sl.length:=by rw [<- hdl];simp
 have hfm:dl.flatMap (fun x=>Di x.1)=sl.flatMap Di:=by rw [<- hdl,P9]
 have hcur:∀ j,j<sl.length*4->cur[4+j]? = (sl.flatMap Di)[j]? := fun j hj=>by
  have h9:((z::sl).flatMap Di)[4+j]? = (sl.flatMap Di)[j]? := by
   rw [hfl,List.getElem?_append_right (by rw [Pz];omega),Pz,abg]
  rw [<- h9,<- hx,List.getElem?_take,AZ AB];simp
 have eg:∀ args w,(callFunc 61 args).run Tryz.prog w=.ok (.enter 61 args) w:=enters_of Tryz.func61 FC rfl;have hkk:∀ x:{s:AD // NS w0 s},(Di x.1).length=4:=fun _=>rfl;have hcmp:CmpLays Tryz.prog 61 #[] (fun x:{s:AD // NS w0 s}=>Di x.1) 4 (fun x y=>(fun x y:AD=>cmpK (DZ x.out) (DZ y.out)) x.1 y.1) g 4 dl.toArray.size w:=fun m os dk hdk x y=>by
  have hg':=dJ (fun x:{s:AD // NS w0 s}=>Di x.1) 4 w g 4 m dk os;have Vj:AP w0 _:=bG hb0 hg' (fun q hq=>by have:=Dc hq;omega);exact (au2 x.1 y.1 _ (x.2.mono Vj) (y.2.mono Vj)).mono fun e w' h=>⟨h.1,uq h.2⟩
 have hsz:dl.toArray.size*4=sl.length*4:=by simp [hdn]
 have hH:HoldsK (fun x:{s:AD // NS w0 s}=>Di x.1) 4 w g 4 dl.toArray:=fun j hj=>by
  rw [size_flatK,hsz] at hj;refine ⟨?_,AO.frozen (t:=82) (cs:=cur) hh _⟩;rw [cell_of_row w g _ cur 82 (0,0) hh,hcur j hj,dK _ 4 hkk _ j (by rw [hsz];exact hj)];simp only [id];rw [hfm,List.getElem!_eq_getElem?_getD]
  have:j<(sl.flatMap Di).length:=by rw [au6];exact hj
  rw [DK this];rfl
 have hcon:=AnyQ.slices_SortFunc Tryz.sortAd 4 au3 au4 (fun x:{s:AD // NS w0 s}=>Di x.1) hkk (fun x=>oQ x.1) (fun x y=>(fun x y:AD=>cmpK (DZ x.out) (DZ y.out)) x.1 y.1) (atz fun x:{s:AD // NS w0 s}=>DZ x.1.out) 61 #[] g 4 cap dl.toArray w eg hcmp hH (AO.lt hh) DC;have hns:dl.toArray.size=sl.length:=by simp [hdn]
 rw [hns] at hcon;refine Calls.mono hcon ?_;rintro e w' ⟨rfl,d',n,os,hp,hs,rfl⟩;obtain ⟨p1,-,p3⟩:=hp;have hd':d'.size=sl.length:=by rw [p1,hns]
 have hperm:d'.toList.Perm dl:=by
  have e1:d'.extract 0 sl.length=d':=by rw [<- hd'];simp
  have e2:dl.toArray.extract 0 sl.length=dl.toArray:=by rw [<- hns];simp
  rw [e1,e2] at p3;simpa using p3
 have hg':=dJ (fun x:{s:AD // NS w0 s}=>Di x.1) 4 w g 4 n d' os;refine ⟨rfl,d'.toList.map (·.1),by rw [<- hdl];exact hperm.map _,?_,?_,hg'⟩
 ·rw [IL,Fe];intro i j hi hj hij;have hj':j<d'.size:=by simpa using hj
  have:=hs i j (BZ _) hij (by rw [<- hd'];exact hj')
  rw [getElem!_pos d' j hj',getElem!_pos d' i AB] at this;exact this
 ·have hl':(d'.toList.map (·.1)).length=sl.length:=by simp [hd']
  unfold Own;have hl2:(z::d'.toList.map (·.1)).length=sl.length+1:=by rw [I9,hl']
  rw [hl2];have hfd:(d'.toList.map (·.1)).flatMap Di=d'.toList.flatMap (fun x=>Di x.1):=by rw [P9]
  have hln:((d'.toList.map (·.1)).flatMap Di).length=sl.length*4:=by rw [flat_length Di 4 Pz,hl']
  have adu:(z::d'.toList.map (·.1)).flatMap Di=Di z++(d'.toList.map (·.1)).flatMap Di:=rfl;have aji:((z::d'.toList.map (·.1)).flatMap Di).length=(sl.length+1)*4:=by rw [adu,EC,Pz,hln];omega
  refine ⟨aji,.inr ⟨g,c,putCells id 4 (flatK (fun x:{s:AD // NS w0 s}=>Di x.1) 4 d') cur,rfl,hg,?_,hnc,hcm,tH,?_⟩⟩
  ·have hgl:g<w.heap.size:=AO.lt hh;rw [nD,Array.getElem?_append_left (by simpa using hgl),Array.getElem?_modify,AZ rfl,hh];rfl
  ·apply lK;intro j;rw [List.getElem?_take];by_cases hj:j<(sl.length+1)*4
   ·rw [AZ hj,adu,hfd];have hjc:j<cur.size:=by rw [hcs];have:=lM 4 hnc;omega
    by_cases h4:j<4
    ·have e1:(putCells id 4 (flatK (fun x:{s:AD // NS w0 s}=>Di x.1) 4 d') cur).toList[j]? = cur.toList[j]? := by
      simp [putCells,hjc,show ¬ 4<=j by omega]
     rw [e1,List.getElem?_append_left (by rw [Pz];exact h4)];have h9:((z::sl).flatMap Di)[j]? = (Di z)[j]? := by rw [hfl,List.getElem?_append_left (by rw [Pz];exact h4)]
     rw [<- h9,<- hx,List.getElem?_take,AZ AB]
    ·obtain ⟨i,rfl⟩:∃ i,j=4+i:=⟨j-4,AB⟩;have hjd:i<d'.size*4:=by rw [hd'];omega
     have e1:(putCells id 4 (flatK (fun x:{s:AD // NS w0 s}=>Di x.1) 4 d') cur).toList[4+i]? = some (flatK (fun x:{s:AD // NS w0 s}=>Di x.1) 4 d')[i]! := by
      simp [putCells,hjc,hjd]
     rw [e1,dK _ 4 hkk _ i hjd,List.getElem!_eq_getElem?_getD,List.getElem?_append_right (by rw [Pz];omega),Pz,abg]
     have:i<(d'.toList.flatMap fun x=>Di x.1).length:=by rw [<- hfd,hln];omega
     rw [DK this];rfl
   · rw [AX hj,Y0 (by rw [aji];omega)]
open Go.RowKit Go.Sort
theorem au7:∀ w,(isAgg 62).run Tryz.prog w=.ok true w:=fun _=>by kernel_rfl
theorem au8:∀ w,(Go.sizeOf 62).run Tryz.prog w=.ok 4 w:=fun _=>by kernel_rfl
def au9 (w:World) (base:Nat) (v:Value) (sl:List AD) (e:Ending) (w':World):Prop :=
 e=.returned (.tuple #[])/\∃ sl':List AD,sl'.Perm sl/\sl'.Pairwise (fun a b=>ltOf (fun x y:AD=>KC x.tw y.tw) b a=false)/\Own w' base 62 4 Di v sl'/\w.grownBy w' v.ownBlock
theorem auA (base:Nat) (v:Value) (sl:List AD) (w:World) (hown:Own w base 62 4 Di v sl) (hn:sl.length<=4294967296) :
  Calls Tryz.prog 50 #[v,.func (.func 51) #[] #[]] w (au9 w base v sl):=by
 rcases sl with _ | ⟨s0,rest⟩
 ·have hv:∃ p cap,v=.slice p 0 cap:=by
   rcases hown.2 with ⟨h,_⟩ | ⟨g,cap,cur,h,_⟩
   · exact ⟨_,_,h⟩
   · exact ⟨_,_,h⟩
  obtain ⟨p,cap,rfl⟩:=hv;refine Calls.mono (AnyF.slices_SortFunc_none Tryz.sortRg p cap (.func (.func 51) #[] #[]) w) ?_;rintro e w' ⟨rfl,rfl⟩;exact ⟨rfl,[],List.Perm.refl _,List.Pairwise.nil,hown,World.grownBy.refl _ _⟩
 generalize hsl:s0::rest=sl at *;have hs0:s0∈sl:=by rw [<- hsl];simp
 have hpos:0<sl.length:=by rw [<- hsl];simp
 obtain ⟨hlen,hown2⟩:=hown;rcases hown2 with ⟨_,h0⟩ | ⟨g,cap,cur,rfl,hg,hh,hnc,hcm,hcs,hx⟩
 · omega
 haveI hI:Inhabited {s:AD // s=s}:=⟨⟨s0,rfl⟩⟩
 have hdl:∃ dl:List {s:AD // s=s},dl.map (·.1)=sl:=⟨sl.attachWith (fun s=>s=s) (fun _ _=>rfl),Aw⟩;obtain ⟨dl,hdl⟩:=hdl;have hdn:dl.length=sl.length:=by rw [<- hdl];simp
 have hfm:dl.flatMap (fun x=>Di x.1)=sl.flatMap Di:=by rw [<- hdl,P9]
 have hcur:∀ j,j<sl.length*4->cur[j]? = (sl.flatMap Di)[j]? := fun j hj=>by
  rw [<- hx,List.getElem?_take,AZ hj];simp
 have eg:∀ args w,(callFunc 51 args).run Tryz.prog w=.ok (.enter 51 args) w:=enters_of Tryz.func51 FC rfl;have hkk:∀ x:{s:AD // s=s},(Di x.1).length=4:=fun _=>rfl;have hcmp:CmpLays Tryz.prog 51 #[] (fun x:{s:AD // s=s}=>Di x.1) 4 (fun x y=>(fun x y:AD=>KC x.tw y.tw) x.1 y.1) g 0 dl.toArray.size w:=fun m os dk hdk x y=>by
  have hg':=dJ (fun x:{s:AD // s=s}=>Di x.1) 4 w g 0 m dk os
  exact (atx x.1 y.1 _).mono fun e w' h=>⟨h.1,uq h.2⟩
 have hsz:dl.toArray.size*4=sl.length*4:=by simp [hdn]
 have hH:HoldsK (fun x:{s:AD // s=s}=>Di x.1) 4 w g 0 dl.toArray:=fun j hj=>by
  rw [size_flatK,hsz] at hj;refine ⟨?_,AO.frozen (t:=62) (cs:=cur) hh _⟩;rw [cell_of_row w g _ cur 62 (0,0) hh,QC,hcur j hj,dK _ 4 hkk _ j (by rw [hsz];exact hj)];simp only [id];rw [hfm,List.getElem!_eq_getElem?_getD]
  have:j<(sl.flatMap Di).length:=by rw [hlen];exact hj
  rw [DK this];rfl
 have hcon:=AnyQ.slices_SortFunc Tryz.sortRg 4 au7 au8 (fun x:{s:AD // s=s}=>Di x.1) hkk (fun x=>oQ x.1) (fun x y=>(fun x y:AD=>KC x.tw y.tw) x.1 y.1) (adL fun x:{s:AD // s=s}=>x.1.tw) 51 #[] g 0 cap dl.toArray w eg hcmp hH (AO.lt hh) DC;have hns:dl.toArray.size=sl.length:=by simp [hdn]
 rw [hns] at hcon;refine Calls.mono hcon ?_;rintro e w' ⟨rfl,d',n,os,hp,hs,rfl⟩;obtain ⟨p1,-,p3⟩:=hp;have hd':d'.size=sl.length:=by rw [p1,hns]
 have hperm:d'.toList.Perm dl:=by
  have e1:d'.extract 0 sl.length=d':=by rw [<- hd'];simp
  have e2:dl.toArray.extract 0 sl.length=dl.toArray:=by rw [<- hns];simp
  rw [e1,e2] at p3;simpa using p3
 have hg':=dJ (fun x:{s:AD // s=s}=>Di x.1) 4 w g 0 n d' os;refine ⟨rfl,d'.toList.map (·.1),by rw [<- hdl];exact hperm.map _,?_,?_,hg'⟩
 ·rw [IL,Fe];intro i j hi hj hij;have hj':j<d'.size:=by simpa using hj
  have:=hs i j (BZ _) hij (by rw [<- hd'];exact hj')
  rw [getElem!_pos d' j hj',getElem!_pos d' i AB] at this;exact this
 ·have hl':(d'.toList.map (·.1)).length=sl.length:=by simp [hd']
  unfold Own;rw [hl'];have hfd:(d'.toList.map (·.1)).flatMap Di=d'.toList.flatMap (fun x=>Di x.1):=by rw [P9]
  have hln:((d'.toList.map (·.1)).flatMap Di).length=sl.length*4:=by rw [flat_length Di 4 Pz,hl']
  refine ⟨hln,.inr ⟨g,cap,putCells id 0 (flatK (fun x:{s:AD // s=s}=>Di x.1) 4 d') cur,rfl,hg,?_,hnc,hcm,tH,?_⟩⟩
  ·have hgl:g<w.heap.size:=AO.lt hh;rw [nD,Array.getElem?_append_left (by simpa using hgl),Array.getElem?_modify,AZ rfl,hh];rfl
  ·apply lK;intro j;rw [List.getElem?_take];by_cases hj:j<sl.length*4
   ·rw [AZ hj,hfd];have hjc:j<cur.size:=by rw [hcs];have:=lM 4 hnc;omega
    have hjd:j<d'.size*4:=by rw [hd'];exact hj
    have e1:(putCells id 0 (flatK (fun x:{s:AD // s=s}=>Di x.1) 4 d') cur).toList[j]? = some (flatK (fun x:{s:AD // s=s}=>Di x.1) 4 d')[j]! := by
     simp [putCells,hjc,hjd]
    rw [e1,dK _ 4 hkk _ j hjd,List.getElem!_eq_getElem?_getD]
    have:j<(d'.toList.flatMap fun x=>Di x.1).length:=by rw [<- hfd,hln];exact hj
    rw [DK this];rfl
   · rw [AX hj,Y0 (by rw [hln];omega)]
set_option linter.unusedSectionVars false
theorem aBg (P:List Pt):(Ei P).length=P.length-1:=by unfold Ei;simp
theorem ajj {P:List Pt} {k:Nat} (hk:k<(Ei P).length):(Ei P)[k]=(P.getD k AY,P.getD (k+1) AY):=by unfold Ei;simp
theorem afE {P:List Pt} {k:Nat} (hk:k<P.length):P.reverse.getD k AY=P.getD (P.length-1-k) AY:=by
 rw [Fj,Fj,List.getElem?_reverse hk]
theorem auB (P:List Pt):Ei P.reverse=((Ei P).map fun q=>(q.2,q.1)).reverse:=by
 apply U6 (by simp [aBg]);intro k h1 h2;simp only [aBg,Wp] at h1;rw [ajj,List.getElem_reverse,Gq,ajj];simp only [Cm,aBg];rw [afE AB,afE AB];rw [show P.length-1-1-k+1=P.length-1-k by omega,show P.length-1-(k+1)=P.length-1-1-k by omega]
theorem auC (a b v:Pt):EO a b v=EO b a v:=by
 unfold EO;have e1:Dy [a,b,v]=Dy [b,a,v]:=by unfold Dy;simp only [aAD,aaq];cases Bg a<;>cases Bg b<;>rfl
 have t:tw b a v=-tw a b v:=by unfold tw;grind
 rw [e1,t,sG b.x a.x,sH b.x a.x,sG b.y a.y,sH b.y a.y];congr 1;by_cases h:tw a b v=0
 · rw [h];rfl
 · simp [h]
theorem ajk (v a b:Pt):Iq v a b=Iq v b a:=by
 have t:tw b a v=-tw a b v:=by unfold tw;grind
 unfold Iq;rw [t,decide_eq_decide];omega
def Ky (p:Pl) (d:Int):List Pt:=if 0<d then GV p d else (GV p d).reverse
def Qa (p:Pl) (X:List Int):List (Pt×Pt):=X.flatMap fun d=>Ei (Ky p d)
def aBh (p:Pl) (X:List Int) (v:Pt):Bool:=(SG v (Qa p X)).2 && !(SG v (Qa p X)).1
theorem ajl (p:Pl) (d:Int) (v:Pt):((Ei (Ky p d)).any fun q=>EO q.1 q.2 v)=((Ei (GV p d)).any fun q=>EO q.1 q.2 v) /\
  ((Ei (Ky p d)).map fun q=>if Iq v q.1 q.2 then (1:Int) else 0).sum=((Ei (GV p d)).map fun q=>if Iq v q.1 q.2 then (1:Int) else 0).sum:=by
 unfold Ky;split
 · exact ⟨rfl,rfl⟩
 ·rw [auB];refine ⟨?_,?_⟩
  ·rw [List.any_reverse,lI];congr 1
   funext q
   exact auC _ _ _
  ·rw [List.map_reverse,List.sum_reverse,Mc];congr 2
   funext q
   simp only [Function.comp];rw [ajk]
theorem ajm (p:Pl) (X:List Int) (v:Pt):aBh p X v=encS p X v:=by
 unfold aBh encS;rw [aB6,aB6];have h1:((Qa p X).any fun q=>EO q.1 q.2 v)=((DV p X).any fun q=>EO q.1 q.2 v):=by
  unfold Qa DV;rw [List.any_flatMap,List.any_flatMap];congr 1
  funext d
  exact (ajl p d v).1
 have h2:((Qa p X).map fun q=>if Iq v q.1 q.2 then (1:Int) else 0).sum=((DV p X).map fun q=>if Iq v q.1 q.2 then (1:Int) else 0).sum:=by
  unfold Qa DV;clear h1
  induction X with
  | nil=>rfl
  | cons d X ih =>
   rw [Ju,Ju,GL,GL,OA,OA,ih,(ajl p d v).2]
 rw [h1,h2]
