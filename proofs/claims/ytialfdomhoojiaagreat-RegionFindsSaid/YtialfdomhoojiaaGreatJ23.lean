import Derived.Test.YtialfdomhoojiaaGreatJ22
set_option linter.unusedSimpArgs false
set_option linter.unusedVariables false
set_option maxRecDepth 100000
set_option maxHeartbeats 8000000
namespace Go.Proofs.YtialfdomhoojiaaGreat
open Go.RowKit
def fD (w:World) (v:Value) (L:List (List Int×SV)):Prop:=Sl w v L.length (L.flatMap Ib)/\∀ x∈L,Ints w (.slice x.2.a x.2.n x.2.c) x.1
theorem fD.mono {w w':World} {v:Value} {L:List (List Int×SV)} (h:fD w v L) (hb:AP w w'):fD w' v L :=
 ⟨Sl.mono h.1 hb,fun x hx=>(h.2 x hx).mono hb⟩
theorem TY.read {w:World} {B:Nat} {v:Value} {L:List (List Int×SV)} (h:TY w B v L):fD w v L:=⟨h.1.sl,fun x hx=>(h.2 x hx).sl⟩
theorem Row.cy {w:World} {A:Option Addr} {l:List (List Int×SV)} (h:Row w A (l.flatMap Ib)) {k:Nat} (hk:k<l.length) :
  ∃ b o,A=some ⟨b,o,none⟩/\b<w.heap.size/\w.cell? ⟨b,o+k,none⟩=some (.slice l[k].2.a l[k].2.n l[k].2.c):=by
 obtain ⟨b,o,hA,hb,hc⟩:=h.at_ (n:=1) (fun _=>rfl) hk AB;exact ⟨b,o,hA,hb,by simpa using hc 0 _ rfl⟩
def ZE (a b c:Pt):Int:=if 0<tw a b c then 1 else if tw a b c<0 then -1 else 0
theorem al8 (a b c:Pt) (w:World) (ha:lim a) (hb:lim b) (hc:lim c) :
  Calls Tryz.prog 201 #[BD a,BD b,BD c] w fun e w'=>e=.returned (.int .i64 (ZE a b c))/\AP w w':=by
 obtain ⟨a1,a2,a3,a4⟩:=ha;obtain ⟨b1,b2,b3,b4⟩:=hb;obtain ⟨c1,c2,c3,c4⟩:=hc;obtain ⟨m1,m2⟩:=Qr (b.x-a.x) (c.y-a.y) 4194304 AB AB AB AB;obtain ⟨m3,m4⟩:=Qr (c.x-a.x) (b.y-a.y) 4194304 AB AB AB AB;simp only [Int.reduceMul,Int.reduceNeg] at m1 m2 m3 m4;have ht:tw a b c=(b.x-a.x)*(c.y-a.y)-(c.x-a.x)*(b.y-a.y):=by unfold tw;rw [KL (b.y-a.y)]
 unfold BD ZE;rw [ht];clear ht;go_enter Tryz.func201,Tryz.ntmps201;go_wp2_with fail
 all_goals
  go_ret;refine ⟨DU rfl,?_⟩;exact Dk
theorem auD {a b c:Pt}:0<ZE a b c↔0<tw a b c:=by unfold ZE;split<;>(try split)<;>omega
theorem auE {a b c:Pt}:ZE a b c=0↔tw a b c=0:=by unfold ZE;split<;>(try split)<;>omega
theorem al9 (a b p:Pt) (w:World) (hn:Dy [a,b,p]=true) :
  Calls Tryz.prog 136 #[BD a,BD b,BD p] w fun e w'=>e=.returned (.bool (EO a b p))/\AP w w':=by
 obtain ⟨ha,hb,hc⟩:=aAX hn;have T:∀ W,Calls Tryz.prog 201 #[BD a,BD b,BD p] W _:=fun W=>al8 a b p W ha hb hc;unfold BD at T ⊢;have hS:EO a b p=(decide (ZE a b p=0) && decide (min a.x b.x<=p.x) && decide (p.x<=max a.x b.x) && decide (min a.y b.y<=p.y) && decide (p.y<=max a.y b.y)):=by simp [EO,hn,auE]
 rw [hS];generalize ZE a b p=t at *;have HT:=AA T;clear T ha hb hc hS hn;go_enter Tryz.func136,Tryz.ntmps136;go_wp2_with fail;refine (HT.out _).mono ?_;rintro e w2 ⟨rfl,hb2⟩;obtain ⟨anM,anN⟩:=Vm hb2;have ac1:=hb2.size
 try simp only [World.size_alloc,World.size_setCell,World.size_drew] at ac1
 have anO:w.heap.size<w2.heap.size:=by omega
 have aoD:w.heap.size+1<w2.heap.size:=by omega
 have aoE:w.heap.size+1+1<w2.heap.size:=by omega
 by_cases ht:t=0
 ·subst ht;go_wp2_with fail
  all_goals
   go_ret;refine ⟨C9 (by first | rfl | (rw [LX];simp only [Em,E8,Rt,false_iff,true_iff];try omega)),?_⟩;exact Dk
 ·have ht':(t == 0)=false:=by simpa using ht
  go_wp2;go_ret;refine ⟨C9 (by simp [ht]),?_⟩;exact Dk
theorem auF {d:Int}:max d (-d)=Ee d:=by
 unfold Ee;split
 · omega
 · omega
theorem afF (d:Int) (w:World) (h:-4611686018427387904<=d/\d<=4611686018427387904):Calls Tryz.prog 142 #[.int .i64 d] w fun e w'=>e=.returned (.int .i64 (Ee d))/\AP w w':=by
 have k1:IntKind.i64.wrap (-d)=-d:=Ci _ AB;rw [<- auF];go_enter Tryz.func142,Tryz.ntmps142;go_wp2;go_ret;exact ⟨rfl,bR w⟩
theorem alA (a b:Int) (w:World) (ha:-4611686018427387904<=a/\a<=4611686018427387904) (hb:-4611686018427387904<=b/\b<=4611686018427387904):Calls Tryz.prog 137 #[.int .i64 a,.int .i64 b] w fun e w'=>e=.returned (.bool (GX a b))/\AP w w':=by
 have HA:=AA (fun W=>afF a W ha);have HB:=AA (fun W=>afF b W hb);have hq:GX a b=(decide (Ee a<Ee b) || (decide (Ee a=Ee b) && decide (b<a))):=rfl;rw [hq];clear hq ha hb;generalize Ee a=x at *;generalize Ee b=y at *;go_enter Tryz.func137,Tryz.ntmps137;go_wp2_with fail;refine (HA.out _).mono ?_;rintro e w1 ⟨rfl,hb1⟩;go_wp2_with fail;refine (HB.out _).mono ?_;rintro e w2 ⟨rfl,hb2⟩;have B2:=AA (bT hb1 hb2);clear hb1 hb2;by_cases h1:x<y
 ·go_wp2;go_ret;exact ⟨C9 (by simp [h1]),B2.out⟩
 ·go_wp2_with fail;refine (HA.out _).mono ?_;rintro e w3 ⟨rfl,hb3⟩;go_wp2_with fail;refine (HB.out _).mono ?_;rintro e w4 ⟨rfl,hb4⟩;have B4:=AA (bT B2.out (bT hb3 hb4));clear hb3 hb4;by_cases h2:x=y
  ·have h2':(x == y)=true:=by simpa using h2
   by_cases h3:b<a
   ·have HF:=AA (show (decide (x<y) || (decide (x=y) && decide (b<a)))=true by simp [h2,h3]);clear h2;go_wp2;go_ret;exact ⟨C9 (by rw [HF.out];try simp [h1,h3]),B4.out⟩
   ·have HF:=AA (show (decide (x<y) || (decide (x=y) && decide (b<a)))=false by simp [h1,h3]);clear h2;go_wp2;go_ret;exact ⟨C9 (by rw [HF.out];try simp [h1,h3]),B4.out⟩
  ·have h2':(x == y)=false:=by simpa using h2
   have HF:=AA (show (decide (x<y) || (decide (x=y) && decide (b<a)))=false by simp [h1,h2]);clear h2;go_wp2;go_ret;exact ⟨C9 (by rw [HF.out];try simp [h1]),B4.out⟩
theorem auG (v:Value) (c:List Int) (w:World) (h:Ints w v c) (hne:0<c.length) (hb:∀ d∈c,-1073741824<=d/\d<=1073741824):Calls Tryz.prog 138 #[v] w fun e w'=>e=.returned (.int .i64 (DZ c))/\AP w w':=by
 obtain ⟨A,cc,rfl,h1,h2,hR⟩:=h;unfold maxLen at h2;have HR:=AA hR;have HUp:=AA (fun n (hn:n<c.length)=>aix (c:=c) hn);have afG:=AA (aiy c);have qX:=AA (show ∀ n,-1073741824<=OU c n/\OU c n<=1073741824 from fun n=>by
  have h1:c.headD 0∈c:=by
   cases c with
   | nil=>cases hne
   | cons a c=>exact Ea
  rcases aBF (c.take n) (c.headD 0) with e | e
  · unfold OU;rw [e];exact hb _ h1
  · exact hb _ (aAE e))
 have xU:=AA (fun n (hn:n<c.length)=>hb _ (BH hn));have hh:c.headD 0=c[0]:=by
  cases c with
  | nil=>cases hne
  | cons a c=>rfl
 have h0:OU c 0=c[0]:=by unfold OU;rw [OB];exact hh
 obtain ⟨b0,o0,rfl,hlb0,c0⟩:=(HR.out).int hne;rw [<- h0] at c0;simp only [VJ] at c0;have kz:(0:Int)<c.length:=by omega
 have kn:¬ c=[]:=fun e=>by have:=congrArg List.length e;simp only [Md] at this;omega
 clear hb hR h0 hh;go_enter Tryz.func138,Tryz.ntmps138;go_wp2_with fail;clear c0 hlb0;go_loopw [3,4] (fun s i wr=>∃ k:Nat,k<=c.length/\i=.int .i64 k/\s=.int .i64 (OU c k)/\AP w wr) (fun _ i _=>c.length-(intOf i).toNat)
 case atStart => exact ⟨0,BZ _,rfl,rfl,bR w⟩
 case round =>
  obtain ⟨k,hk,rfl,rfl,hbw⟩:=hrel;have EY:=AA hbw;have hkb:=qX.out k;clear hbw;by_cases hlt:k<c.length
  ·obtain ⟨b,o,hA,hlb,c1⟩:=(HR.out.mono EY.out).int hlt;injection hA with hA;injection hA with y1 y2 _;subst y1 y2;have hdb:=xU.out k hlt;have HU:=AA (HUp.out k hlt);generalize c[k]=d at *;generalize OU c k=q at *;have qY:=AA (fun W=>alA d q W AB AB);obtain ⟨z,hz⟩:=BL (GX d q);rw [hz] at qY;have HZ:=AA hz;have fB:=AA c1;have Rz:=hlb;clear hz;go_wp2_with fail;refine (qY.out _).mono ?_;rintro e w2 ⟨rfl,hb2⟩;have HB2:=AA (bT EY.out hb2);have c2:=Dv hb2 fB.out;have aBi:b0<w2.heap.size:=by have:=hb2.size;omega
   clear hb2 c1 hlb Rz fB
   cases z
   ·have hs:=AA (show RN q d=q by unfold RN;rw [HZ.out];rfl);go_wp2;go_roundw
    case rel => exact ⟨k+1,AB,BI,by rw [HU.out,hs.out],HB2.out⟩
    case measure => exact BK
   ·have hs:=AA (show RN q d=d by unfold RN;rw [HZ.out];rfl);go_wp2;go_roundw
    case rel => exact ⟨k+1,AB,BI,by rw [HU.out,hs.out],HB2.out⟩
    case measure => exact BK
  ·obtain rfl:k=c.length:=by omega
   have hf:=afG.out;rw [hf];go_wp2;go_ret;exact ⟨rfl,EY.out⟩
theorem IG.symm {u v:Value} (h:IG u v):IG v u:=fun g hg e=>h g e hg
theorem qZ {α:Type} {R:α->α->Prop} (hs:∀ a b,R a b->R b a) {l:List α} (h:l.Pairwise R) {i j:Nat} (hi:i<l.length) (hj:j<l.length) (hne:i≠j):R l[i] l[j]:=by
 rw [Fe] at h;by_cases c:i<j
 · exact h i j hi hj c
 · exact hs _ _ (h j i hj hi AB)
theorem Qb {α:Type} {l:List α} {i:Nat} {y x:α} (h:x∈l.set i y):(x=y/\i<l.length)\/∃ j,∃ hj:j<l.length,j≠i/\x=l[j]:=by
 obtain ⟨j,hj,rfl⟩:=Dp.1 h;have hj':j<l.length:=by simpa using hj
 rw [QG];by_cases e:i=j
 · subst e;rw [AZ rfl];exact .inl ⟨rfl,hj'⟩
 · rw [AX e];exact .inr ⟨j,hj',fun h=>e h.symm,rfl⟩
theorem GH.read {e:TypeId} {w0 w:World} {B:Nat} {v:Value} {L:List AD} (h:GH e w0 w B v L) (hb:AP w0 w):aCs w v L:=⟨h.own.sl,fun x hx=>(h.out x hx).mono hb⟩
theorem Own.row_of {α:Type} {f:α->List Value} {w:World} {base:Nat} {e:TypeId} {size:Nat} {A:Option Addr} {n c:Nat} {l:List α} (h:Own w base e size f (.slice A n c) l):Row w A (l.flatMap f):=by
 obtain ⟨A',c',he,-,-,hr⟩:=h.sl;injection he with e1 e2 e3;subst e1;exact hr
theorem Own.OY {e:TypeId} {w:World} {B:Nat} {A:Option Addr} {n c:Nat} {L:List AD} (h:Own w B e 4 Di (.slice A n c) L) (hl:0<L.length):∃ g,A=some ⟨g,0,none⟩/\B<=g/\g<w.heap.size/\(∀ j,w.frozen? ⟨g,j,none⟩=false) /\
  ∀ k (hk:k<L.length),w.cell? ⟨g,k*4,none⟩=some (.int .i64 L[k].tw)/\w.cell? ⟨g,k*4+1,none⟩=some (BJ L[k].ov)/\w.cell? ⟨g,k*4+2,none⟩=some (BJ L[k].iv)/\w.cell? ⟨g,k*4+3,none⟩=some (BJ L[k].av):=by
 have hr:=h.row_of;rcases h.2 with ⟨_,h0⟩ | ⟨g,cap,cur,hv,hg,hh,-⟩
 · omega
 ·injection hv with e1 e2 e3;subst e1;refine ⟨g,rfl,hg,AO.lt hh,fun j=>AO.frozen hh j,fun k hk=>?_⟩;obtain ⟨b,o,Ec,-,c0,c1,c2,c3⟩:=hr.ad hk;injection Ec with Ec;injection Ec with y1 y2 _;subst y1 y2;simp only [QC] at c0 c1 c2 c3;exact ⟨c0,c1,c2,c3⟩
structure Nw (w:World) (v:Value) (L:List AD):Prop where
 sl:Sl w v L.length (L.flatMap Di)
 out:∀ x∈L,Ints w (BJ x.ov) x.out
 inn:∀ x∈L,Sl w (BJ x.iv) x.inn.length (x.inn.flatMap Ib)
 Gi:∀ x∈L,∀ c∈x.inn,Ints w (BJ c.2) c.1
 CU:∀ x∈L,Ints w (BJ x.av) x.CU
theorem Nw.mono {w w':World} {v:Value} {L:List AD} (h:Nw w v L) (hb:AP w w'):Nw w' v L :=
 ⟨h.sl.mono hb,fun x hx=>(h.out x hx).mono hb,fun x hx=>(h.inn x hx).mono hb,fun x hx c hc=>(h.Gi x hx c hc).mono hb,fun x hx=>(h.CU x hx).mono hb⟩
theorem Nw.read {w:World} {v:Value} {L:List AD} (h:Nw w v L):aCs w v L:=⟨h.sl,h.out⟩
theorem GH.full {e:TypeId} {w0 w:World} {B:Nat} {v:Value} {L:List AD} (h:GH e w0 w B v L) (hb:AP w0 w):Nw w v L :=
 ⟨h.own.sl,fun x hx=>(h.out x hx).mono hb,fun x hx=>(h.inn x hx).sl,fun x hx c hc=>(h.Gi x hx c hc).mono hb,fun x hx=>(h.CU x hx).sl⟩
theorem GH.more {e:TypeId} (he:e≠24/\e≠3) {w0 w w1:World} {B:Nat} {v v':Value} {L:List AD} (h:GH e w0 w B v L) {x:AD} (ho:Own w1 B e 4 Di v' (L++[x])) (hg:w.grownBy w1 v.ownBlock)
  (hx:Ints w0 (BJ x.ov) x.out) (h1:x.inn=[]) (h2:x.iv=sv0) (h3:x.CU=[]) (h4:x.av=sv0):GH e w0 w1 B v' (L++[x]):=by
 have s0:∀ u,IG u (BJ sv0):=fun u g _ e=>by cases e
 refine ⟨ho,fun y hy=>?_,fun y hy=>?_,fun y hy=>?_,fun y hy=>?_,?_,?_⟩
 ·rcases FZ.1 hy with hy | hy
  · exact h.out y hy
  · rw [ED] at hy;subst hy;exact hx
 ·rcases FZ.1 hy with hy | hy
  · exact Own.grown (h.inn y hy) hg (fun g hg'=>Own.apart (h.inn y hy) h.own he.1.symm g hg')
  ·rw [ED] at hy;subst hy;rw [h1,h2];exact Own.nil _ _ _ _ _
 ·rcases FZ.1 hy with hy | hy
  · exact h.Gi y hy
  ·rw [ED] at hy;subst hy;rw [h1];intro c hc;cases hc
 ·rcases FZ.1 hy with hy | hy
  · exact Own.grown (h.CU y hy) hg (fun g hg'=>Own.apart (h.CU y hy) h.own he.2.symm g hg')
  ·rw [ED] at hy;subst hy;rw [h3,h4];exact Own.nil _ _ _ _ _
 ·rw [Ql];refine ⟨h.aN,sQ _ _,fun a _ b hb=>?_⟩;rw [ED] at hb;subst hb;rw [h2];exact s0 _
 ·rw [Ql];refine ⟨h.aO,sQ _ _,fun a _ b hb=>?_⟩;rw [ED] at hb;subst hb;rw [h4];exact s0 _
theorem GH.ath {e:TypeId} (he:e≠24/\e≠3) {w0 w w1:World} {B B':Nat} {v u:Value} {L:List AD} {R:List (List Int×SV)} (h:GH e w0 w B v L) (hg:w.grownBy w1 u.ownBlock) (hu:Own w B' 24 1 Ib u R) (hz:∀ x∈L,x.iv=sv0):GH e w0 w1 B v L:=by
 refine ⟨Own.grown h.own hg (fun g hg'=>Own.apart h.own hu he.1 g hg'),h.out,fun x hx=>?_,h.Gi,fun x hx=>Own.grown (h.CU x hx) hg (fun g hg'=>Own.apart (h.CU x hx) hu BG g hg'),h.aN,h.aO⟩;refine Own.grown (h.inn x hx) hg (fun g hg'=>?_);rw [hz x hx] at hg'
 cases hg'
theorem GH.aaJ {e:TypeId} (he:e≠24/\e≠3) {w0 w w1:World} {B g n cc:Nat} {L:List AD} (h:GH e w0 w B (.slice (some ⟨g,0,none⟩) n cc) L) {i:Nat} (hi:i<L.length) {Ox:SV} {c:List Int×SV}
  (ho:Own w1 B 24 1 Ib (BJ Ox) (L[i].inn++[c])) (hg:w.grownBy w1 (BJ L[i].iv).ownBlock) (hat:(BJ Ox).ownBlock=(BJ L[i].iv).ownBlock\/(BJ Ox).ownBlock=some w.heap.size) (hc:Ints w0 (BJ c.2) c.1) :
  GH e w0 (w1.setCell ⟨g,i*4+2,none⟩ (BJ Ox)) B (.slice (some ⟨g,0,none⟩) n cc) (L.set i {L[i] with inn:=L[i].inn++[c],iv:=Ox}):=by
 have hgv:(Value.slice (some ⟨g,0,none⟩) n cc).ownBlock=some g:=rfl;have hm:=BH hi;have zZ:Own w1 B e 4 Di (.slice (some ⟨g,0,none⟩) n cc) L:=Own.grown h.own hg (fun g' hg'=>Own.apart h.own (h.inn _ hm) he.1 g' hg');have jh:∀ {b:Nat} {e9:TypeId} {s:Nat} {α:Type} {f:α->List Value} {v:Value} {l:List α},Own w1 b e9 s f v l->e9≠e->Own (w1.setCell ⟨g,i*4+2,none⟩ (BJ Ox)) b e9 s f v l:=fun h9 hne=>Own.far h9 (fun e8=>Own.apart h9 zZ hne g e8 hgv.symm) _;have sep1:∀ j (hj:j<L.length),j≠i->IG (BJ L[j].iv) (BJ Ox):=fun j hj hji g' hg' e=>by
  rcases hat with h9 | h9
  ·rw [h9] at e;exact qZ (fun a b=>IG.symm) h.aN hj hi hji g' hg' e
  ·rw [h9] at e;have:=((h.inn _ (BH hj)).lt g' hg').2
   have:=Dc e
   omega
 refine ⟨Own.jH Pz zZ hi AB _ _ rfl,fun x hx=>?_,fun x hx=>?_,fun x hx=>?_,fun x hx=>?_,?_,?_⟩
 ·rcases Qb hx with ⟨rfl,_⟩ | ⟨j,hj,_,rfl⟩
  · exact h.out L[i] hm
  · exact h.out _ (BH hj)
 ·rcases Qb hx with ⟨rfl,_⟩ | ⟨j,hj,hji,rfl⟩
  · exact jh ho he.1.symm
  · exact jh (Own.grown (h.inn _ (BH hj)) hg (fun g' hg' e=>qZ (fun a b=>IG.symm) h.aN hj hi hji g' hg' e.symm)) he.1.symm
 ·rcases Qb hx with ⟨rfl,_⟩ | ⟨j,hj,_,rfl⟩
  ·intro d hd;rcases FZ.1 hd with hd | hd
   · exact h.Gi L[i] hm d hd
   · rw [ED] at hd;subst hd;exact hc
  · exact h.Gi _ (BH hj)
 ·have:∀ y∈L,Own (w1.setCell ⟨g,i*4+2,none⟩ (BJ Ox)) B 3 1 D5 (BJ y.av) y.CU:=fun y hy=>jh (Own.grown (h.CU y hy) hg (fun g' hg'=>Own.apart (h.CU y hy) (h.inn _ hm) BG g' hg')) he.2.symm
  rcases Qb hx with ⟨rfl,_⟩ | ⟨j,hj,_,rfl⟩
  · exact this L[i] hm
  · exact this _ (BH hj)
 ·rw [Fe];intro a b ha hb hab;simp only [Qm] at ha hb;rw [QG,QG];by_cases e1:i=a
  ·subst e1;rw [AZ rfl,AX AB];exact (sep1 b hb AB).symm
  ·rw [AX e1];by_cases e2:i=b
   ·subst e2;rw [AZ rfl];exact sep1 a ha AB
   ·rw [AX e2];exact qZ (fun a b=>IG.symm) h.aN ha hb AB
 ·have e:(L.set i {L[i] with inn:=L[i].inn++[c],iv:=Ox}).map (·.av)=L.map (·.av):=by
   apply U6 Aw;intro j h1 h2;rw [Gq,Gq,QG];split
   · rename_i e;subst e;rfl
   · rfl
  have hp:(L.map (·.av)).Pairwise (fun x y=>IG (BJ x) (BJ y)):=IL.2 h.aO;rw [<- e] at hp;exact (IL (f:=fun x:AD=>x.av) (R:=fun x y=>IG (BJ x) (BJ y))).1 hp
theorem GH.zf {e:TypeId} (he:e≠24/\e≠3) {w0 w w1:World} {B g n cc:Nat} {L:List AD} (h:GH e w0 w B (.slice (some ⟨g,0,none⟩) n cc) L) {i:Nat} (hi:i<L.length) {OV:SV} {c:Int}
  (ho:Own w1 B 3 1 D5 (BJ OV) (L[i].CU++[c])) (hg:w.grownBy w1 (BJ L[i].av).ownBlock) (hat:(BJ OV).ownBlock=(BJ L[i].av).ownBlock\/(BJ OV).ownBlock=some w.heap.size) :
  GH e w0 (w1.setCell ⟨g,i*4+3,none⟩ (BJ OV)) B (.slice (some ⟨g,0,none⟩) n cc) (L.set i {L[i] with CU:=L[i].CU++[c],av:=OV}):=by
 have hgv:(Value.slice (some ⟨g,0,none⟩) n cc).ownBlock=some g:=rfl;have hm:=BH hi;have zZ:Own w1 B e 4 Di (.slice (some ⟨g,0,none⟩) n cc) L:=Own.grown h.own hg (fun g' hg'=>Own.apart h.own (h.CU _ hm) he.2 g' hg');have jh:∀ {b:Nat} {e9:TypeId} {s:Nat} {α:Type} {f:α->List Value} {v:Value} {l:List α},Own w1 b e9 s f v l->e9≠e->Own (w1.setCell ⟨g,i*4+3,none⟩ (BJ OV)) b e9 s f v l:=fun h9 hne=>Own.far h9 (fun e8=>Own.apart h9 zZ hne g e8 hgv.symm) _;have sep1:∀ j (hj:j<L.length),j≠i->IG (BJ L[j].av) (BJ OV):=fun j hj hji g' hg' e=>by
  rcases hat with h9 | h9
  ·rw [h9] at e;exact qZ (fun a b=>IG.symm) h.aO hj hi hji g' hg' e
  ·rw [h9] at e;have:=((h.CU _ (BH hj)).lt g' hg').2
   have:=Dc e
   omega
 refine ⟨Own.jH Pz zZ hi AB _ _ rfl,fun x hx=>?_,fun x hx=>?_,fun x hx=>?_,fun x hx=>?_,?_,?_⟩
 ·rcases Qb hx with ⟨rfl,_⟩ | ⟨j,hj,_,rfl⟩
  · exact h.out L[i] hm
  · exact h.out _ (BH hj)
 ·have:∀ y∈L,Own (w1.setCell ⟨g,i*4+3,none⟩ (BJ OV)) B 24 1 Ib (BJ y.iv) y.inn:=fun y hy=>jh (Own.grown (h.inn y hy) hg (fun g' hg'=>Own.apart (h.inn y hy) (h.CU _ hm) BG g' hg')) he.1.symm
  rcases Qb hx with ⟨rfl,_⟩ | ⟨j,hj,hji,rfl⟩
  · exact this L[i] hm
  · exact this _ (BH hj)
 ·rcases Qb hx with ⟨rfl,_⟩ | ⟨j,hj,_,rfl⟩
  · exact h.Gi L[i] hm
  · exact h.Gi _ (BH hj)
 ·rcases Qb hx with ⟨rfl,_⟩ | ⟨j,hj,hji,rfl⟩
  · exact jh ho he.2.symm
  · exact jh (Own.grown (h.CU _ (BH hj)) hg (fun g' hg' e=>qZ (fun a b=>IG.symm) h.aO hj hi hji g' hg' e.symm)) he.2.symm
 ·have e:(L.set i {L[i] with CU:=L[i].CU++[c],av:=OV}).map (·.iv)=L.map (·.iv):=by
   apply U6 Aw;intro j h1 h2;rw [Gq,Gq,QG];split
   · rename_i e;subst e;rfl
   · rfl
  have hp:(L.map (·.iv)).Pairwise (fun x y=>IG (BJ x) (BJ y)):=IL.2 h.aN;rw [<- e] at hp;exact (IL (f:=fun x:AD=>x.iv) (R:=fun x y=>IG (BJ x) (BJ y))).1 hp
 ·rw [Fe];intro a b ha hb hab;simp only [Qm] at ha hb;rw [QG,QG];by_cases e1:i=a
  ·subst e1;rw [AZ rfl,AX AB];exact (sep1 b hb AB).symm
  ·rw [AX e1];by_cases e2:i=b
   ·subst e2;rw [AZ rfl];exact sep1 a ha AB
   ·rw [AX e2];exact qZ (fun a b=>IG.symm) h.aO ha hb AB
theorem ati {P:List Pt} {k:Nat} (hk:k<P.length):P.reverse.take (k+1)=P.reverse.take k++[P[P.length-1-k]'(by omega)]:=by
 rw [En (by simpa using hk),List.getElem_reverse]
theorem afH (v:Value) (p:Pl) (d:Int) (w:World) (h:Cb w v p) (hv:Valid p) (hd:d∈BU p):Calls Tryz.prog 84 #[v,.int .i64 d] w (YD w (Ky p d)):=by
 have hbd:=hv.Qo hd;obtain ⟨a,ha,hor,hpt⟩:=hv.Tq hd;have hid:=hv.Gh ha;have hai:Ee d=a.id:=by unfold Ee;rcases hor with rfl | rfl<;>split<;>omega
 have hpo:=hv.sound.path ha;have Ui:=AA (fun W=>afF d W AB);have Jd:=AA (fun W (hW:AP w W)=>agW v p (Ee d) W (h.mono hW) hv.short);rw [hai,hpo] at Jd;rw [hai] at Ui;unfold iW at Jd;simp only [Gp,VH,if_true] at Jd;have hq:Ky p d=if 0<d then AV p a else (AV p a).reverse:=by unfold Ky;rw [hpt]
 rw [hq];have PY:=hv.Sv ha;have hpl:2<=(AV p a).length/\(AV p a).length<=66:=by have:=Eh p a;omega
 obtain ⟨_,_,_,al,rfl,hpa,⟨An,cn,rfl,-⟩,⟨⟨Aa,ca,rfl,-⟩,-⟩,⟨Af,cf,rfl,-⟩⟩:=h;clear hpa hv hor hpt hpo hai hq PY ha hd;generalize p.nodes.length=nn at *;generalize al.length=na at *;generalize p.faces.length=nf at *;generalize a.id=ai at *;generalize AV p a=P at *;go_enter Tryz.func84,Tryz.ntmps84;go_upto_region 1 with fail;obtain ⟨W1,hW⟩:∃ W:World,W=w.alloc (.cells #[.slice An nn cn,.slice Aa na ca,.slice Af nf cf] 26):=⟨_,rfl⟩;have X1:AO W1 w.heap.size 26 #[.slice An nn cn,.slice Aa na ca,.slice Af nf cf]:=by rw [hW];exact AO.made rfl _ _
 have HB1:=AA (show AP w W1 by rw [hW];exact bA (bR w) _);rw [<- hW];clear hW;have hz1:=HB1.out.size;obtain ⟨Ak,Au,Az,BA,-,-,-⟩:=X1.BF;refine Cj (W1) (.take 0 1 (.take 1 3 (.call 2 7 (.call 3 15 (.run 5 4 15 (.done)))))) fun Bv QR Ae Ah hS=>?_
 iterate 2 refine Aj ?_
 refine FD (Ui.out _) ?_;clear hS;intro Bq Bf hS;refine BP ?_;clear hS;intro K hK AQ;go_simp;refine (Jd.out _ (bT HB1.out AQ.out)).mono ?_;rintro e wr2 ⟨A,c,rfl,FT,ho⟩;have hS:Since W1 wr2:=bT (w:=W1) AQ.out FT;clear AQ;refine hK.out _ _ hS (fun _=>?_);clear hK K
 try simp only [pu]
 iterate 5 refine Aj ?_
 refine Ce ?_;clear hS Ah Ae;intro hB;have HB2:=AA (bT HB1.out hB);have hz3:w.heap.size<=Bq.heap.size:=by have h1:=(bD (bR W1)).size;have h2:=Bf.size;have:=HB1.out.size;omega
 have HO:=AA (ho.Du hz3);clear hB Bf FT ho X1 Ak Au Az BA HB1 Jd Ui hz3;by_cases h0:0<d
 ·rw [AZ h0];go_wp2;go_ret;exact ⟨A,c,rfl,HB2.out,HO.out⟩
 ·rw [AX h0];have Ov:=AA (fun k (hk:k<P.length)=>ati hk);go_upto_block 0 with fail;go_wp2_with fail;go_loopw [7,8] (fun s i wr=>∃ k:Nat,k<=P.length/\i=.int .i64 ((P.length:Int)-1-k)/\(∃ A c,s=.slice A k c)/\Own wr wr2.heap.size 39 2 EX s (P.reverse.take k)/\AP wr2 wr) (fun _ i _=>(intOf i+1).toNat)
  case atStart => exact ⟨0,BZ _,Aw,⟨none,0,rfl⟩,Own.nil _ _ _ _ _,bR wr2⟩
  case round =>
   obtain ⟨k,hk,rfl,⟨A3,c3,rfl⟩,ho3,hb3⟩:=hrel;have EI:=AA ho3;have HB3:=AA hb3;clear ho3 hb3;by_cases hlt:k<P.length
   ·have hsu:=Ov.out k hlt;obtain ⟨b,o,rfl,hlb,c0,c1⟩:=((HO.out.keep HB3.out).row_of).pt (k:=P.length-1-k) AB;have ek:((P.length-1-k:Nat):Int)=(P.length:Int)-1-k:=by omega
    have hi1:((P.length:Int)-1-k).toNat=P.length-1-k:=by omega
    generalize P[P.length-1-k]'_=pt at *;have atj:=AA hsu;have HT:=AA (show (P.reverse.take k).length=k by rw [Ie,Wp];omega);have HT1:=AA (show (P.reverse.take (k+1)).length=k+1 by rw [Ie,Wp];omega);clear hsu;obtain ⟨m,hm⟩:=BO (P.length-1-k);have OT:(P.length:Int)-1-k=m:=by omega
    rw [<- hm] at c0 c1;rw [OT];have Hmi:=AA OT;have adv:m<P.length:=by omega
    clear ek hi1 hm OT;have k1:(m:Int)<P.length:=by omega
    have k2:0<=(m:Int):=by omega
    go_upto_region 7 with
     (at_builtin
      refine Ew _ rfl (.tmp 26) (.tmp 31) _ rfl (base:=wr2.heap.size) KR Jv KT rfl (Own.alloc EI.out _) rfl (l2:=[pt]) (Sl.lit (n:=1) (AO.made rfl _ _) rfl (D6 AB)) (by have:=HT.out;simp only [I9,Md];omega) (by have:=HT.out;simp only [I9,Md];omega) (by have:=HB3.out.size;simp;omega) ?_;intro v4 w4 JY hg4 Zw;rw [<- atj.out] at JY;obtain ⟨A4,c4,hv4,-⟩:=Own.IE JY;rw [HT1.out] at hv4;subst hv4;have JA:=AA JY;have HB4:=AA (bG (bA HB3.out _) hg4 (fun g hg=>(EI.out.lt g hg).1));clear JY hg4 Zw
      )
    clear c0 c1 hlb;go_wp2;go_roundw
    case rel => exact ⟨k+1,AB,by rw [show (P.length:Int)-1-((k+1:Nat):Int)=(m:Int)-1 by have:=Hmi.out;omega];try go_num,⟨A4,c4,rfl⟩,JA.out,HB4.out⟩
    case measure => have:=Hmi.out;simp [intOf];try omega
   ·have hkk:k=P.length:=by omega
    have ho:=EI.out;rw [show P.reverse.take k=P.reverse by rw [Hw DC]] at ho;have RJ:=AA (ho.Du HB2.out.size);have h1:(P.length:Int)-1-k=-1:=by omega
    rw [h1];clear ho h1;go_wp2;go_ret;exact ⟨A3,c3,by rw [Wp,<- hkk];rfl,bT HB2.out HB3.out,by rw [Wp,<- hkk];exact RJ.out⟩
theorem atl (v:Pt) (l m:List (Pt×Pt)):SG v (l++m)=m.foldl (QS v) (SG v l):=by unfold SG;rw [O9]
theorem atm (p:Pl) {X:List Int} {k:Nat} (hk:k<X.length):Qa p (X.take (k+1))=Qa p (X.take k)++Ei (Ky p X[k]):=by
 unfold Qa;rw [En hk,KO];simp
theorem atn {p:Pl} {X:List Int} {v:Pt} {q:Pt×Pt} (hq:q∈Qa p X) (h:EO q.1 q.2 v=true):encS p X v=false:=by
 rw [<- ajm];unfold aBh;rw [aB6];have:((Qa p X).any fun q=>EO q.1 q.2 v)=true:=PE.2 ⟨q,hq,h⟩
 rw [this];rfl
theorem ato {p:Pl} {X:List Int} {v:Pt} {o:Bool} (h:SG v (Qa p X)=(false,o)):encS p X v=o:=by
 rw [<- ajm];unfold aBh;rw [h];simp
theorem atp {v:Pt} {o:Bool} {q:Pt×Pt} (h:EO q.1 q.2 v=false):QS v (false,o) q=(false,if Iq v q.1 q.2=true then !o else o):=by
 unfold QS;rw [AX (by rw [h];decide)];split<;>rfl
theorem atq {v a b lo hi:Pt} (h:(b.y<a.y/\lo=b/\hi=a)\/(¬ b.y<a.y/\lo=a/\hi=b)):Iq v a b=decide (lo.y<=v.y/\v.y<hi.y/\0<tw lo hi v):=by
 rcases h with ⟨c,rfl,rfl⟩ | ⟨c,rfl,rfl⟩
 ·rw [ajk];unfold Iq;rw [decide_eq_decide];omega
 ·unfold Iq;rw [decide_eq_decide];omega
section
variable {p:Pl} (h:Valid p)
include h
theorem Valid.av2 {d:Int} (hd:d∈BU p) {q:Pt} (hq:q∈Ky p d):Bg q=true:=by
 obtain ⟨a,ha,-,hpt⟩:=h.Tq hd;refine h.wF ha ?_;unfold Ky at hq;rw [hpt] at hq;split at hq
 · exact hq
 · exact aAJ.1 hq
theorem Valid.afI {d:Int} (hd:d∈BU p):2<=(Ky p d).length/\(Ky p d).length<=66:=by
 obtain ⟨a,ha,-,hpt⟩:=h.Tq hd;have h1:=h.Sv ha;have h2:=Eh p a;unfold Ky;rw [hpt];split
 · omega
 · rw [Wp];omega
end
theorem av3 (v vc:Value) (p:Pl) (X:List Int) (at_:Pt) (w:World) (h:Cb w v p) (hv:Valid p) (hX:Ints w vc X) (hd:∀ d∈X,d∈BU p) (hl:X.length<=1000) (nv:Bg at_=true) :
  Calls Tryz.prog 198 #[v,vc,BD at_] w fun e w'=>e=.returned (.bool (encS p X at_))/\AP w w':=by
 have LH:=AA (fun d (hd:d∈BU p) W (hW:AP w W)=>afH v p d W (h.mono hW) hv hd);have WU:=AA hd;have HV:=AA hv;have Vt:=AA nv;have Ov:=AA (fun k (hk:k<X.length)=>atm p hk);have II:=AA (fun q (hq:q∈Qa p X) hon=>atn (p:=p) (X:=X) (v:=at_) (q:=q) hq hon);have NI:=AA (fun k (hk:k<X.length) q (hq:q∈Ei (Ky p X[k]))=>show q∈Qa p X from GY.2 ⟨_,BH hk,hq⟩);have aCf:=AA (fun o h=>ato (p:=p) (X:=X) (v:=at_) (o:=o) h);obtain ⟨R,hR⟩:=BL (encS p X at_);rw [hR] at II aCf ⊢;obtain ⟨Ac,cc,rfl,hc1,hc2,IC⟩:=hX;unfold maxLen at hc2;obtain ⟨_,_,_,al,rfl,hpa,⟨An,cn,rfl,-⟩,⟨⟨Aa,ca,rfl,-⟩,-⟩,⟨Af,cf,rfl,-⟩⟩:=h;have NH:=AA IC;clear hpa hv hd IC hR nv;generalize p.nodes.length=nn at *;generalize al.length=na at *;generalize p.faces.length=nf at *;unfold BD;go_enter Tryz.func198,Tryz.ntmps198;go_upto_block 0 with fail;obtain ⟨W1,hW⟩:∃ W:World,W=(w.alloc (.cells #[.slice An nn cn,.slice Aa na ca,.slice Af nf cf] 26)).alloc (.cells #[.int .i64 at_.x,.int .i64 at_.y] 39):=⟨_,rfl⟩;have D9:=AA (show AO W1 w.heap.size 26 #[.slice An nn cn,.slice Aa na ca,.slice Af nf cf] by rw [hW];exact (AO.made rfl _ _).alloc _);have CG:=AA (show AO W1 (w.heap.size+1) 39 #[.int .i64 at_.x,.int .i64 at_.y] by rw [hW];exact AO.made Aw _ _);have HB1:=AA (show AP w W1 by rw [hW];exact bA (bA (bR w) _) _);rw [<- hW];clear hW;go_wp2_with fail;go_loopw [7,8] (fun s i wr=>∃ (k:Nat) (o:Bool),k<=X.length/\i=.int .i64 k/\s=.bool o/\SG at_ (Qa p (X.take k))=(false,o)/\AP W1 wr) (fun _ i _=>X.length-(intOf i).toNat)
 case atStart => exact ⟨0,false,BZ _,rfl,rfl,rfl,bR W1⟩
 case round =>
  obtain ⟨k,o,hk,rfl,rfl,he,hb⟩:=hrel;obtain ⟨wo,rfl⟩:=BO wr;have HE:=AA he;have HB:=AA hb;clear he hb;by_cases hlt:k<X.length
  ·obtain ⟨b,ofs,rfl,hlb,c0⟩:=(NH.out.mono (bT HB1.out HB.out)).int hlt;have hdm:=WU.out _ (BH hlt);have hsu:=Ov.out k hlt;have hmem:=NI.out k hlt;generalize X[k]=d at *;have Z9:=fun q (hq:q∈Ky p d)=>HV.out.av2 hdm hq;have hlen:=HV.out.afI hdm;have dN:=AA (LH.out d hdm);obtain ⟨P,hP⟩:=BL (Ky p d);rw [hP] at hsu hmem Z9 hlen dN;have HSk:=AA hsu;have Vs:=AA hmem;have fE:=AA Z9;have X1:=D9.out.keep HB.out;have k1:(k:Int)<X.length:=by omega
   have k2:0<=(k:Int):=by omega
   clear hdm hsu hmem Z9 hP;obtain ⟨Ak,Au,Az,BA,-,-,-⟩:=X1.BF;go_upto_region 5 with fail;refine Cj (wo) (.run 5 0 0 (.call 5 63 (.take 6 127 (.done)))) fun Bv QR Ae Ah hS=>?_
   iterate 5 refine Aj ?_
   refine BP ?_;clear hS;intro K hK AQ;go_simp;refine (dN.out _ (bT (bT HB1.out HB.out) AQ.out)).mono ?_;rintro e Bq ⟨A,c,rfl,Bf,ho⟩;have hS:Since wo Bq:=bT (w:=wo) AQ.out Bf;clear AQ;refine hK.out _ _ hS (fun _=>?_);clear hK K
   try simp only [pu]
   refine Aj ?_;refine Ce ?_;clear hS Ah Ae;intro hB;obtain ⟨W3,hW3⟩:∃ W:World,W=Bq:=⟨_,rfl⟩;rw [<- hW3] at hB ho Bf ⊢;have afJ:=AA hB;have WV:=AA ho.row_of;have hz3:=afJ.out.size;clear hB ho Bf hW3 X1 Ak Au Az BA c0 hlb dN;go_upto_block 2 with fail;go_wp2_with fail;go_loopw [7,10] (fun s i wr=>∃ (j:Nat) (o2:Bool),1<=j/\j<=P.length/\i=.int .i64 j/\s=.bool o2/\((Ei P).take (j-1)).foldl (QS at_) (false,o)=(false,o2)/\AP W3 wr) (fun _ i _=>P.length-(intOf i).toNat)
   case atStart => exact ⟨1,o,DT _,AB,rfl,rfl,rfl,bR W3⟩
   case round =>
    obtain ⟨j,o2,hj1,hj2,rfl,rfl,he2,hb2⟩:=hrel;obtain ⟨wp,rfl⟩:=BO wr;have HE2:=AA he2;have HB2:=AA hb2;clear he2 hb2;by_cases hlj:j<P.length
    ·obtain ⟨m,rfl⟩:∃ m,j=m+1:=⟨j-1,AB⟩;have hmp:m<P.length:=by omega
     have hq:=Vs.out (P.getD m AY,P.getD (m+1) AY) (EM.2 ⟨m,F5.2 AB,rfl⟩);have htk:=aBB hlj;have hee:=HE2.out;rw [show m+1-1=m by omega] at hee;have ea:P.getD m AY=P[m]:=by simp only [Fj,DK hmp,Gp]
     have eb:P.getD (m+1) AY=P[m+1]:=by simp only [Fj,DK hlj,Gp]
     rw [ea,eb] at hq htk;have na:=fE.out _ (BH hmp);have nb:=fE.out _ (BH hlj);obtain ⟨bp,op,rfl,hlp,e10,e11⟩:=(WV.out.mono HB2.out).pt hmp;obtain ⟨bp',op',Jl,-,e20,e21⟩:=(WV.out.mono HB2.out).pt hlj;injection Jl with Jl;injection Jl with y1 y2 _;subst y1 y2;generalize P[m]=a at *;generalize P[m+1]=b2 at *;have Et:=AA htk;have HQ:=AA hq;have oV:=AA hee;have HGo:=AA (fun W=>al9 a b2 at_ W (by simp [Dy,na,nb,Vt.out]));have XW:=AA na;have ZI:=AA nb;clear htk hq hee ea eb na nb HE2;unfold BD at HGo;have kw:IntKind.i64.wrap ((m:Int)+1-1)=(m:Int):=by rw [Ci _ AB];omega
     have kw2:IntKind.i64.wrap (m:Int)=(m:Int):=Ci _ AB;have k3:(m:Int)<P.length:=by omega
     have k4:0<=(m:Int):=by omega
     have k5:(m:Int)+1<P.length:=by omega
     have k6:0<=(m:Int)+1:=by omega
     have k7:IntKind.i64.wrap ((m:Int)+1)=(m:Int)+1:=Ci _ AB;go_upto_region 9 with fail;go_cut [11,12] (fun u v wx=>∃ ga gb,u=.pointer (some ⟨ga,0,none⟩)/\v=.pointer (some ⟨gb,0,none⟩)/\AO wx ga 39 #[.int .i64 a.x,.int .i64 a.y]/\AO wx gb 39 #[.int .i64 b2.x,.int .i64 b2.y]/\ga≠gb/\wp.heap.size<=ga/\wp.heap.size<=gb/\AP wp wx)
     case first =>
      refine QK (wp.heap.size) (wp) (.run 9 0 0 (.two 9 1023 (.call 10 2047 (.call 11 4095 (.call 12 8191 (.done)))) 10 1535 (.call 9 2047 (.call 11 4095 (.call 12 8191 (.done)))))) fun Bv QR Ae Ah hS=>?_
      iterate 9 refine Aj ?_
      refine Oc (i:=9) (j:=10) (Ej Ae rfl) (Ej Ae rfl) (fun K hK=>?_) (fun K hK=>?_)
      ·have AQ:=AA hS;clear hS;refine FQ (FM rfl) ?_;go_simp;refine hK.out _ _ (Gj AB AQ.out _) (fun hS=>?_);clear hK K AQ
       try simp only [pu]
       refine BP ?_;clear hS;intro K hK AQ;go_simp;refine hK.out _ _ (Gj AB AQ.out _) (fun hS=>?_);clear hK K AQ
       try simp only [pu]
       refine BP ?_;clear hS;intro K hK AQ;go_simp;refine hK.out _ _ (by unfold Fb;have h:Below _ _ _:=AQ.out;repeat (first | with_reducible assumption | with_reducible exact Below.refl _ _ | with_reducible refine MK ?_ OC _ | with_reducible refine Below.drew ?_ | with_reducible refine Gj AB ?_ _ | exact h)) ?_;intro hS;clear hK K AQ
       try simp only [pu]
       refine BP ?_;clear hS;intro K hK AQ;go_simp;refine hK.out _ _ (by unfold Fb;have h:Below _ _ _:=AQ.out;repeat (first | with_reducible assumption | with_reducible exact Below.refl _ _ | with_reducible refine MK ?_ OC _ | with_reducible refine Below.drew ?_ | with_reducible refine Gj AB ?_ _ | exact h)) ?_;intro hS;clear hK K AQ
       try simp only [pu]
       refine KW ?_;clear hS Ah Ae;intro hB;go_wp2;go_meet
       case rel => first | exact ⟨_,_,rfl,rfl,((AO.made rfl _ _).alloc _).drew,(AO.made Aw _ _).drew,AB,AB,AB,hB⟩ | exact ⟨_,_,rfl,rfl,(AO.made Aw _ _).drew,((AO.made rfl _ _).alloc _).drew,AB,AB,AB,hB⟩
      ·have AQ:=AA hS;clear hS;refine FQ (FM rfl) ?_;go_simp;refine hK.out _ _ (Gj AB AQ.out _) (fun hS=>?_);clear hK K AQ
       try simp only [pu]
       refine BP ?_;clear hS;intro K hK AQ;go_simp;refine hK.out _ _ (Gj AB AQ.out _) (fun hS=>?_);clear hK K AQ
       try simp only [pu]
       refine BP ?_;clear hS;intro K hK AQ;go_simp;refine hK.out _ _ (by unfold Fb;have h:Below _ _ _:=AQ.out;repeat (first | with_reducible assumption | with_reducible exact Below.refl _ _ | with_reducible refine MK ?_ OC _ | with_reducible refine Below.drew ?_ | with_reducible refine Gj AB ?_ _ | exact h)) ?_;intro hS;clear hK K AQ
       try simp only [pu]
       refine BP ?_;clear hS;intro K hK AQ;go_simp;refine hK.out _ _ (by unfold Fb;have h:Below _ _ _:=AQ.out;repeat (first | with_reducible assumption | with_reducible exact Below.refl _ _ | with_reducible refine MK ?_ OC _ | with_reducible refine Below.drew ?_ | with_reducible refine Gj AB ?_ _ | exact h)) ?_;intro hS;clear hK K AQ
       try simp only [pu]
       refine KW ?_;clear hS Ah Ae;intro hB;go_wp2;go_meet
       case rel => first | exact ⟨_,_,rfl,rfl,((AO.made rfl _ _).alloc _).drew,(AO.made Aw _ _).drew,AB,AB,AB,hB⟩ | exact ⟨_,_,rfl,rfl,(AO.made Aw _ _).drew,((AO.made rfl _ _).alloc _).drew,AB,AB,AB,hB⟩
     case rest =>
      obtain ⟨ga,gb,rfl,rfl,xa,xb,aaK,hga,hgb,hb4⟩:=hcut;have HXa:=AA xa;have HXb:=AA xb;have HB4:=AA (bT HB2.out hb4);have F7:=AA (bT HB.out (bT afJ.out (bT HB2.out hb4)));have X2:=CG.out.keep F7.out;have zh:=AA X2;have ji:=hb4.size;clear hb4 e10 e11 e20 e21 hlp kw kw2 k3 k4 k5 k6;obtain ⟨BQ,BR,BX,-,-⟩:=X2.BN;obtain ⟨aaL,aaM,aaN,-,-⟩:=xa.BN;obtain ⟨aaO,aaP,aaQ,-,-⟩:=xb.BN;go_wp2_with fail;refine (HGo.out _).mono ?_;rintro e w5 ⟨rfl,hb5⟩;obtain ⟨on,hon⟩:=BL (EO a b2 at_);rw [hon];have TI:=AA hon;have CW:=AA (bT HB4.out hb5);have av4:=AA (bT F7.out hb5);have afK:=AA (HXa.out.keep hb5);have afL:=AA (HXb.out.keep hb5);have afM:=AA (zh.out.keep hb5);have RG:=hb5.size;clear hb5 xa aaL aaM aaN xb aaO aaP aaQ X2 BQ BR BX HXa HXb zh HGo hon HB4 F7
      cases on
      case true =>
       have HF:=AA (II.out (a,b2) HQ.out TI.out);go_wp2;go_ret;exact ⟨C9 HF.out.symm,bT HB1.out av4.out⟩
      case false =>
       have hst:=atp (v:=at_) (o:=o2) (q:=(a,b2)) TI.out;obtain ⟨lo,hi,hlh⟩:∃ lo hi:Pt,(b2.y<a.y/\lo=b2/\hi=a)\/(¬ b2.y<a.y/\lo=a/\hi=b2):=by
        by_cases c:b2.y<a.y
        · exact ⟨b2,a,.inl ⟨c,rfl,rfl⟩⟩
        · exact ⟨a,b2,.inr ⟨c,rfl,rfl⟩⟩
       rw [atq hlh] at hst;have hlm:lim lo/\lim hi:=by
        rcases hlh with ⟨-,rfl,rfl⟩ | ⟨-,rfl,rfl⟩
        · exact ⟨UL ZI.out,UL XW.out⟩
        · exact ⟨UL XW.out,UL ZI.out⟩
       have DI:=AA hst;have afN:=fun W=>al8 lo hi at_ W hlm.1 hlm.2 (UL Vt.out);unfold BD at afN;have aaR:=AA afN;clear afN hst hlm;have X2:=afM.out;have xa:=afK.out;have xb:=afL.out
       try clear BQ BR BX
       obtain ⟨BQ,BR,BX,-,-⟩:=X2.BN
       try clear aaL aaM aaN
       obtain ⟨aaL,aaM,aaN,av5,av6⟩:=xa.BN
       try clear aaO aaP aaQ
       obtain ⟨aaO,aaP,aaQ,av7,av8⟩:=xb.BN;go_upto_if 48 with fail;go_cut [] (fun wx=>AO wx ga 39 #[.int .i64 lo.x,.int .i64 lo.y]/\AO wx gb 39 #[.int .i64 hi.x,.int .i64 hi.y]/\AO wx (w.heap.size+1) 39 #[.int .i64 at_.x,.int .i64 at_.y]/\AP W3 wx)
       case first =>
        have ayv:w.heap.size+1<W1.heap.size:=CG.out.lt;have hzw:=HB.out.size;have hz8:=HB2.out.size;have n1:w.heap.size+1≠ga:=by omega
        have n2:w.heap.size+1≠gb:=by omega
        rcases hlh with ⟨c,rfl,rfl⟩ | ⟨c,rfl,rfl⟩
        ·go_wp2;go_meet
         case rel =>
          refine ⟨?_,?_,?_,?_⟩
          ·have h:=(((xa.EW 0 (.int .i64 lo.x)).EW 1 (.int .i64 lo.y)).far (p:=⟨gb,0,none⟩) aaK (.int .i64 hi.x)).far (p:=⟨gb,1,none⟩) aaK (.int .i64 hi.y);simpa using h
          ·have h:=((xb.far (p:=⟨ga,0,none⟩) (fun e=>aaK e.symm) (.int .i64 lo.x)).far (p:=⟨ga,1,none⟩) (fun e=>aaK e.symm) (.int .i64 lo.y)).EW 0 (.int .i64 hi.x);have h:=h.EW 1 (.int .i64 hi.y);simpa using h
          · exact (((X2.far (p:=⟨ga,0,none⟩) n1 (.int .i64 lo.x)).far (p:=⟨ga,1,none⟩) n1 (.int .i64 lo.y)).far (p:=⟨gb,0,none⟩) n2 (.int .i64 hi.x)).far (p:=⟨gb,1,none⟩) n2 (.int .i64 hi.y)
          · exact bS (bS (bS (bS CW.out (p:=⟨ga,0,none⟩) DC _) (p:=⟨ga,1,none⟩) DC _) (p:=⟨gb,0,none⟩) DC _) (p:=⟨gb,1,none⟩) DC _
        ·go_wp2;go_meet
         case rel => exact ⟨afK.out,afL.out,afM.out,CW.out⟩
       case rest =>
        obtain ⟨ya,yb,y2,hb6⟩:=hcut;have Eb:=AA hb6;have KD:=AA (fun (o3:Bool) (h3:(if decide (lo.y<=at_.y/\at_.y<hi.y/\0<tw lo hi at_)=true then !o2 else o2)=o3)=>show ((Ei P).take (m+1)).foldl (QS at_) (false,o)=(false,o3) by rw [Et.out,O9,oV.out];show QS at_ (false,o2) (a,b2)=_;rw [DI.out,h3]);clear hb6 X2 BQ BR BX xa aaL aaM aaN av5 av6 xb aaO aaP aaQ av7 av8 afK afL afM CW DI hlh;obtain ⟨yal,yaa,yab,-,-⟩:=ya.BN;obtain ⟨ybl,yba,ybb,-,-⟩:=yb.BN;obtain ⟨y2l,y2a,y2b,-,-⟩:=y2.BN;by_cases c1:lo.y<=at_.y
        ·by_cases c2:at_.y<hi.y
         ·go_wp2_with fail;refine (aaR.out _).mono ?_;rintro e w7 ⟨rfl,hb7⟩;have Jf:=AA (bT Eb.out hb7);have hp:=auD (a:=lo) (b:=hi) (c:=at_);clear hb7 ya yal yaa yab yb ybl yba ybb y2 y2l y2a y2b aaR;generalize ZE lo hi at_=gs at *;by_cases c3:0<gs
          ·have ZJ:=AA (KD.out (!o2) (by rw [AZ (by simp only [E8];exact ⟨c1,c2,hp.1 c3⟩)]));clear hp
           cases o2
           all_goals
            go_wp2;go_roundw
            case rel => exact ⟨m+1+1,_,AB,AB,BI,rfl,ZJ.out,Jf.out⟩
            case measure => exact BK
          ·have ZJ:=AA (KD.out o2 (by rw [AX (by simp only [E8];exact fun h=>c3 (hp.2 h.2.2))]));clear hp;go_wp2;go_roundw
           case rel => exact ⟨m+1+1,_,AB,AB,BI,rfl,ZJ.out,Jf.out⟩
           case measure => exact BK
         ·have ZJ:=AA (KD.out o2 (by rw [AX (by simp only [E8];exact fun h=>c2 h.2.1)]));go_wp2;go_roundw
          case rel => exact ⟨m+1+1,_,AB,AB,BI,rfl,ZJ.out,Eb.out⟩
          case measure => exact BK
        ·have ZJ:=AA (KD.out o2 (by rw [AX (by simp only [E8];exact fun h=>c1 h.1)]));go_wp2;go_roundw
         case rel => exact ⟨m+1+1,_,AB,AB,BI,rfl,ZJ.out,Eb.out⟩
         case measure => exact BK
    ·have hjj:j=P.length:=by omega
     have hee:=HE2.out;rw [Hw (by rw [aBg];omega)] at hee;have HF:=AA (show SG at_ (Qa p (X.take (k+1)))=(false,o2) by rw [HSk.out,atl,HE.out];exact hee);clear hee hjj;go_wp2;go_roundw
     case rel => exact ⟨k+1,o2,AB,BI,rfl,HF.out,bT HB.out (bT afJ.out HB2.out)⟩
     case measure => exact BK
  ·have hkk:k=X.length:=by omega
   have hee:=HE.out;rw [hkk,H8] at hee;have hf:=aCf.out o hee;rw [<- hf];clear hee hkk;go_wp2;go_ret;exact ⟨rfl,bT HB1.out HB.out⟩
