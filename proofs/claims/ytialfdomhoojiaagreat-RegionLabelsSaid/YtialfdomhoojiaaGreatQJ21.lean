import Derived.Test.YtialfdomhoojiaaGreatQJ20
set_option linter.unusedSimpArgs false
set_option linter.unusedVariables false
set_option maxRecDepth 100000
set_option maxHeartbeats 8000000
namespace Go.Proofs.YtialfdomhoojiaaGreat
open Go.RowKit
def Zg (a b c:Pt):Int:=if 0<tw a b c then 1 else if tw a b c<0 then -1 else 0
theorem aje (a b c:Pt) (w:World) (ha:lim a) (hb:lim b) (hc:lim c) :
  Calls Tryz.prog 201 #[BA a,BA b,BA c] w fun e w'=>e=.returned (.int .i64 (Zg a b c))/\AU w w':=by
 obtain ⟨a1,a2,a3,a4⟩:=ha;obtain ⟨b1,b2,b3,b4⟩:=hb;obtain ⟨c1,c2,c3,c4⟩:=hc;obtain ⟨m1,m2⟩:=Qs (b.x-a.x) (c.y-a.y) 4194304 AB AB AB AB;obtain ⟨m3,m4⟩:=Qs (c.x-a.x) (b.y-a.y) 4194304 AB AB AB AB;simp only [Int.reduceMul,Int.reduceNeg] at m1 m2 m3 m4;have ht:tw a b c=(b.x-a.x)*(c.y-a.y)-(c.x-a.x)*(b.y-a.y):=by unfold tw;rw [KP (b.y-a.y)]
 unfold BA Zg;rw [ht];clear ht;go_enter Tryz.func201,Tryz.ntmps201;go_wp2_with fail
 all_goals
  go_ret;refine ⟨Df rfl,?_⟩;exact EC
theorem at6 {a b c:Pt}:0<Zg a b c↔0<tw a b c:=by unfold Zg;split<;>(try split)<;>omega
theorem at7 {a b c:Pt}:Zg a b c=0↔tw a b c=0:=by unfold Zg;split<;>(try split)<;>omega
theorem atA (a b p:Pt) (w:World) (hn:EN [a,b,p]=true) :
  Calls Tryz.prog 136 #[BA a,BA b,BA p] w fun e w'=>e=.returned (.bool (Ea a b p))/\AU w w':=by
 obtain ⟨ha,hb,hc⟩:=aAl hn;have T:∀ W,Calls Tryz.prog 201 #[BA a,BA b,BA p] W _:=fun W=>aje a b p W ha hb hc;unfold BA at T ⊢;have hS:Ea a b p=(decide (Zg a b p=0) && decide (min a.x b.x<=p.x) && decide (p.x<=max a.x b.x) && decide (min a.y b.y<=p.y) && decide (p.y<=max a.y b.y)):=by simp [Ea,hn,at7]
 rw [hS];generalize Zg a b p=t at *;have HT:=AA T;clear T ha hb hc hS hn;go_enter Tryz.func136,Tryz.ntmps136;go_wp2_with fail;refine (HT.out _).mono ?_;rintro e w2 ⟨rfl,hb2⟩;obtain ⟨an5,an6⟩:=VX hb2;have abt:=hb2.size
 try simp only [World.size_alloc,World.size_setCell,World.size_drew] at abt
 have an7:w.heap.size<w2.heap.size:=by omega
 have an8:w.heap.size+1<w2.heap.size:=by omega
 have an9:w.heap.size+1+1<w2.heap.size:=by omega
 by_cases ht:t=0
 ·subst ht;go_wp2_with fail
  all_goals
   go_ret;refine ⟨CW (by first | rfl | (rw [MH];simp only [Ei,EO,Rq,false_iff,true_iff];try omega)),?_⟩;exact EC
 ·have ht':(t == 0)=false:=by simpa using ht
  go_wp2;go_ret;refine ⟨CW (by simp [ht]),?_⟩;exact EC
theorem atB {d:Int}:max d (-d)=Ez d:=by
 unfold Ez;split
 · omega
 · omega
theorem adw (d:Int) (w:World) (h:-4611686018427387904<=d/\d<=4611686018427387904):Calls Tryz.prog 142 #[.int .i64 d] w fun e w'=>e=.returned (.int .i64 (Ez d))/\AU w w':=by
 have k1:IntKind.i64.wrap (-d)=-d:=D6 _ AB;rw [<- atB];go_enter Tryz.func142,Tryz.ntmps142;go_wp2;go_ret;exact ⟨rfl,bR w⟩
theorem ajf (a b:Int) (w:World) (ha:-4611686018427387904<=a/\a<=4611686018427387904) (hb:-4611686018427387904<=b/\b<=4611686018427387904):Calls Tryz.prog 137 #[.int .i64 a,.int .i64 b] w fun e w'=>e=.returned (.bool (Gl a b))/\AU w w':=by
 have HA:=AA (fun W=>adw a W ha);have HB:=AA (fun W=>adw b W hb);have hq:Gl a b=(decide (Ez a<Ez b) || (decide (Ez a=Ez b) && decide (b<a))):=rfl;rw [hq];clear hq ha hb;generalize Ez a=x at *;generalize Ez b=y at *;go_enter Tryz.func137,Tryz.ntmps137;go_wp2_with fail;refine (HA.out _).mono ?_;rintro e w1 ⟨rfl,hb1⟩;go_wp2_with fail;refine (HB.out _).mono ?_;rintro e w2 ⟨rfl,hb2⟩;have B2:=AA (bT hb1 hb2);clear hb1 hb2;by_cases h1:x<y
 ·go_wp2;go_ret;exact ⟨CW (by simp [h1]),B2.out⟩
 ·go_wp2_with fail;refine (HA.out _).mono ?_;rintro e w3 ⟨rfl,hb3⟩;go_wp2_with fail;refine (HB.out _).mono ?_;rintro e w4 ⟨rfl,hb4⟩;have B4:=AA (bT B2.out (bT hb3 hb4));clear hb3 hb4;by_cases h2:x=y
  ·have h2':(x == y)=true:=by simpa using h2
   by_cases h3:b<a
   ·have HF:=AA (show (decide (x<y) || (decide (x=y) && decide (b<a)))=true by simp [h2,h3]);clear h2;go_wp2;go_ret;exact ⟨CW (by rw [HF.out];try simp [h1,h3]),B4.out⟩
   ·have HF:=AA (show (decide (x<y) || (decide (x=y) && decide (b<a)))=false by simp [h1,h3]);clear h2;go_wp2;go_ret;exact ⟨CW (by rw [HF.out];try simp [h1,h3]),B4.out⟩
  ·have h2':(x == y)=false:=by simpa using h2
   have HF:=AA (show (decide (x<y) || (decide (x=y) && decide (b<a)))=false by simp [h1,h2]);clear h2;go_wp2;go_ret;exact ⟨CW (by rw [HF.out];try simp [h1]),B4.out⟩
theorem atC (v:Value) (c:List Int) (w:World) (h:Ints w v c) (hne:0<c.length) (hb:∀ d∈c,-1073741824<=d/\d<=1073741824):Calls Tryz.prog 138 #[v] w fun e w'=>e=.returned (.int .i64 (Dp c))/\AU w w':=by
 obtain ⟨A,cc,rfl,h1,h2,hR⟩:=h;unfold maxLen at h2;have HR:=AA hR;have HUp:=AA (fun n (hn:n<c.length)=>ak9 (c:=c) hn);have adx:=AA (akA c);have qZ:=AA (show ∀ n,-1073741824<=OU c n/\OU c n<=1073741824 from fun n=>by
  have h1:c.headD 0∈c:=by
   cases c with
   | nil=>cases hne
   | cons a c=>exact Eu
  rcases aBs (c.take n) (c.headD 0) with e | e
  · unfold OU;rw [e];exact hb _ h1
  · exact hb _ (aAG e))
 have kF:=AA (fun n (hn:n<c.length)=>hb _ (BO hn));have hh:c.headD 0=c[0]:=by
  cases c with
  | nil=>cases hne
  | cons a c=>rfl
 have h0:OU c 0=c[0]:=by unfold OU;rw [O8];exact hh
 obtain ⟨b0,o0,rfl,hlb0,c0⟩:=(HR.out).int hne;rw [<- h0] at c0;simp only [YJ] at c0;have kz:(0:Int)<c.length:=by omega
 have kn:¬ c=[]:=fun e=>by have:=congrArg List.length e;simp only [LX] at this;omega
 clear hb hR h0 hh;go_enter Tryz.func138,Tryz.ntmps138;go_wp2_with fail;clear c0 hlb0;go_loopw [3,4] (fun s i wr=>∃ k:Nat,k<=c.length/\i=.int .i64 k/\s=.int .i64 (OU c k)/\AU w wr) (fun _ i _=>c.length-(intOf i).toNat)
 case atStart => exact ⟨0,Bv _,rfl,rfl,bR w⟩
 case round =>
  obtain ⟨k,hk,rfl,rfl,hbw⟩:=hrel;have Ep:=AA hbw;have hkb:=qZ.out k;clear hbw;by_cases hlt:k<c.length
  ·obtain ⟨b,o,hA,hlb,c1⟩:=(HR.out.mono Ep.out).int hlt;injection hA with hA;injection hA with y1 y2 _;subst y1 y2;have hdb:=kF.out k hlt;have HU:=AA (HUp.out k hlt);generalize c[k]=d at *;generalize OU c k=q at *;have qg:=AA (fun W=>ajf d q W AB AB);obtain ⟨z,hz⟩:=BN (Gl d q);rw [hz] at qg;have HZ:=AA hz;have dZ:=AA c1;have QJ:=hlb;clear hz;go_wp2_with fail;refine (qg.out _).mono ?_;rintro e w2 ⟨rfl,hb2⟩;have HB2:=AA (bT Ep.out hb2);have c2:=Eh hb2 dZ.out;have aCA:b0<w2.heap.size:=by have:=hb2.size;omega
   clear hb2 c1 hlb QJ dZ
   cases z
   ·have hs:=AA (show RQ q d=q by unfold RQ;rw [HZ.out];rfl);go_wp2;go_roundw
    case rel => exact ⟨k+1,AB,BJ,by rw [HU.out,hs.out],HB2.out⟩
    case measure => exact BL
   ·have hs:=AA (show RQ q d=d by unfold RQ;rw [HZ.out];rfl);go_wp2;go_roundw
    case rel => exact ⟨k+1,AB,BJ,by rw [HU.out,hs.out],HB2.out⟩
    case measure => exact BL
  ·obtain rfl:k=c.length:=by omega
   have hf:=adx.out;rw [hf];go_wp2;go_ret;exact ⟨rfl,Ep.out⟩
theorem IL.symm {u v:Value} (h:IL u v):IL v u:=fun g hg e=>h g e hg
theorem qh {α:Type} {R:α->α->Prop} (hs:∀ a b,R a b->R b a) {l:List α} (h:l.Pairwise R) {i j:Nat} (hi:i<l.length) (hj:j<l.length) (hne:i≠j):R l[i] l[j]:=by
 rw [Fa] at h;by_cases c:i<j
 · exact h i j hi hj c
 · exact hs _ _ (h j i hj hi AB)
theorem V7 {α:Type} {l:List α} {i:Nat} {y x:α} (h:x∈l.set i y):(x=y/\i<l.length)\/∃ j,∃ hj:j<l.length,j≠i/\x=l[j]:=by
 obtain ⟨j,hj,rfl⟩:=EF.1 h;have hj':j<l.length:=by simpa using hj
 rw [Qo];by_cases e:i=j
 · subst e;rw [AZ rfl];exact .inl ⟨rfl,hj'⟩
 · rw [AX e];exact .inr ⟨j,hj',fun h=>e h.symm,rfl⟩
theorem GY.read {e:TypeId} {w0 w:World} {B:Nat} {v:Value} {L:List AD} (h:GY e w0 w B v L) (hb:AU w0 w):aBo w v L:=⟨h.own.sl,fun x hx=>(h.out x hx).mono hb⟩
theorem Own.row_of {α:Type} {f:α->List Value} {w:World} {base:Nat} {e:TypeId} {size:Nat} {A:Option Addr} {n c:Nat} {l:List α} (h:Own w base e size f (.slice A n c) l):Row w A (l.flatMap f):=by
 obtain ⟨A',c',he,-,-,hr⟩:=h.sl;injection he with e1 e2 e3;subst e1;exact hr
theorem Own.P5 {e:TypeId} {w:World} {B:Nat} {A:Option Addr} {n c:Nat} {L:List AD} (h:Own w B e 4 E8 (.slice A n c) L) (hl:0<L.length):∃ g,A=some ⟨g,0,none⟩/\B<=g/\g<w.heap.size/\(∀ j,w.frozen? ⟨g,j,none⟩=false) /\
  ∀ k (hk:k<L.length),w.cell? ⟨g,k*4,none⟩=some (.int .i64 L[k].tw)/\w.cell? ⟨g,k*4+1,none⟩=some (BK L[k].ov)/\w.cell? ⟨g,k*4+2,none⟩=some (BK L[k].iv)/\w.cell? ⟨g,k*4+3,none⟩=some (BK L[k].av):=by
 have hr:=h.row_of;rcases h.2 with ⟨_,h0⟩ | ⟨g,cap,cur,hv,hg,hh,-⟩
 · omega
 ·injection hv with e1 e2 e3;subst e1;refine ⟨g,rfl,hg,AO.lt hh,fun j=>AO.frozen hh j,fun k hk=>?_⟩;obtain ⟨b,o,Eo,-,c0,c1,c2,c3⟩:=hr.ad hk;injection Eo with Eo;injection Eo with y1 y2 _;subst y1 y2;simp only [Qm] at c0 c1 c2 c3;exact ⟨c0,c1,c2,c3⟩
structure SN (w:World) (v:Value) (L:List AD):Prop where
 sl:Sl w v L.length (L.flatMap E8)
 out:∀ x∈L,Ints w (BK x.ov) x.out
 inn:∀ x∈L,Sl w (BK x.iv) x.inn.length (x.inn.flatMap Ia)
 Ja:∀ x∈L,∀ c∈x.inn,Ints w (BK c.2) c.1
 DC:∀ x∈L,Ints w (BK x.av) x.DC
theorem SN.mono {w w':World} {v:Value} {L:List AD} (h:SN w v L) (hb:AU w w'):SN w' v L :=
 ⟨h.sl.mono hb,fun x hx=>(h.out x hx).mono hb,fun x hx=>(h.inn x hx).mono hb,fun x hx c hc=>(h.Ja x hx c hc).mono hb,fun x hx=>(h.DC x hx).mono hb⟩
theorem SN.read {w:World} {v:Value} {L:List AD} (h:SN w v L):aBo w v L:=⟨h.sl,h.out⟩
theorem GY.full {e:TypeId} {w0 w:World} {B:Nat} {v:Value} {L:List AD} (h:GY e w0 w B v L) (hb:AU w0 w):SN w v L :=
 ⟨h.own.sl,fun x hx=>(h.out x hx).mono hb,fun x hx=>(h.inn x hx).sl,fun x hx c hc=>(h.Ja x hx c hc).mono hb,fun x hx=>(h.DC x hx).sl⟩
theorem GY.more {e:TypeId} (he:e≠24/\e≠3) {w0 w w1:World} {B:Nat} {v v':Value} {L:List AD} (h:GY e w0 w B v L) {x:AD} (ho:Own w1 B e 4 E8 v' (L++[x])) (hg:w.grownBy w1 v.ownBlock)
  (hx:Ints w0 (BK x.ov) x.out) (h1:x.inn=[]) (h2:x.iv=sv0) (h3:x.DC=[]) (h4:x.av=sv0):GY e w0 w1 B v' (L++[x]):=by
 have s0:∀ u,IL u (BK sv0):=fun u g _ e=>by cases e
 refine ⟨ho,fun y hy=>?_,fun y hy=>?_,fun y hy=>?_,fun y hy=>?_,?_,?_⟩
 ·rcases FX.1 hy with hy | hy
  · exact h.out y hy
  · rw [EP] at hy;subst hy;exact hx
 ·rcases FX.1 hy with hy | hy
  · exact Own.grown (h.inn y hy) hg (fun g hg'=>Own.apart (h.inn y hy) h.own he.1.symm g hg')
  ·rw [EP] at hy;subst hy;rw [h1,h2];exact Own.nil _ _ _ _ _
 ·rcases FX.1 hy with hy | hy
  · exact h.Ja y hy
  ·rw [EP] at hy;subst hy;rw [h1];intro c hc;cases hc
 ·rcases FX.1 hy with hy | hy
  · exact Own.grown (h.DC y hy) hg (fun g hg'=>Own.apart (h.DC y hy) h.own he.2.symm g hg')
  ·rw [EP] at hy;subst hy;rw [h3,h4];exact Own.nil _ _ _ _ _
 ·rw [Qn];refine ⟨h.fM,sQ _ _,fun a _ b hb=>?_⟩;rw [EP] at hb;subst hb;rw [h2];exact s0 _
 ·rw [Qn];refine ⟨h.fO,sQ _ _,fun a _ b hb=>?_⟩;rw [EP] at hb;subst hb;rw [h4];exact s0 _
theorem GY.asW {e:TypeId} (he:e≠24/\e≠3) {w0 w w1:World} {B B':Nat} {v u:Value} {L:List AD} {R:List (List Int×SV)} (h:GY e w0 w B v L) (hg:w.grownBy w1 u.ownBlock) (hu:Own w B' 24 1 Ia u R) (hz:∀ x∈L,x.iv=sv0):GY e w0 w1 B v L:=by
 refine ⟨Own.grown h.own hg (fun g hg'=>Own.apart h.own hu he.1 g hg'),h.out,fun x hx=>?_,h.Ja,fun x hx=>Own.grown (h.DC x hx) hg (fun g hg'=>Own.apart (h.DC x hx) hu Aw g hg'),h.fM,h.fO⟩;refine Own.grown (h.inn x hx) hg (fun g hg'=>?_);rw [hz x hx] at hg'
 cases hg'
theorem GY.aCa {e:TypeId} (he:e≠24/\e≠3) {w0 w w1:World} {B g n cc:Nat} {L:List AD} (h:GY e w0 w B (.slice (some ⟨g,0,none⟩) n cc) L) {i:Nat} (hi:i<L.length) {Oy:SV} {c:List Int×SV}
  (ho:Own w1 B 24 1 Ia (BK Oy) (L[i].inn++[c])) (hg:w.grownBy w1 (BK L[i].iv).ownBlock) (hat:(BK Oy).ownBlock=(BK L[i].iv).ownBlock\/(BK Oy).ownBlock=some w.heap.size) (hc:Ints w0 (BK c.2) c.1) :
  GY e w0 (w1.setCell ⟨g,i*4+2,none⟩ (BK Oy)) B (.slice (some ⟨g,0,none⟩) n cc) (L.set i {L[i] with inn:=L[i].inn++[c],iv:=Oy}):=by
 have hgv:(Value.slice (some ⟨g,0,none⟩) n cc).ownBlock=some g:=rfl;have hm:=BO hi;have wO:Own w1 B e 4 E8 (.slice (some ⟨g,0,none⟩) n cc) L:=Own.grown h.own hg (fun g' hg'=>Own.apart h.own (h.inn _ hm) he.1 g' hg');have kV:∀ {b:Nat} {e9:TypeId} {s:Nat} {α:Type} {f:α->List Value} {v:Value} {l:List α},Own w1 b e9 s f v l->e9≠e->Own (w1.setCell ⟨g,i*4+2,none⟩ (BK Oy)) b e9 s f v l:=fun h9 hne=>Own.far h9 (fun e8=>Own.apart h9 wO hne g e8 hgv.symm) _;have sep1:∀ j (hj:j<L.length),j≠i->IL (BK L[j].iv) (BK Oy):=fun j hj hji g' hg' e=>by
  rcases hat with h9 | h9
  ·rw [h9] at e;exact qh (fun a b=>IL.symm) h.fM hj hi hji g' hg' e
  ·rw [h9] at e;have:=((h.inn _ (BO hj)).lt g' hg').2
   have:=Dq e
   omega
 refine ⟨Own.bn RN wO hi AB _ _ rfl,fun x hx=>?_,fun x hx=>?_,fun x hx=>?_,fun x hx=>?_,?_,?_⟩
 ·rcases V7 hx with ⟨rfl,_⟩ | ⟨j,hj,_,rfl⟩
  · exact h.out L[i] hm
  · exact h.out _ (BO hj)
 ·rcases V7 hx with ⟨rfl,_⟩ | ⟨j,hj,hji,rfl⟩
  · exact kV ho he.1.symm
  · exact kV (Own.grown (h.inn _ (BO hj)) hg (fun g' hg' e=>qh (fun a b=>IL.symm) h.fM hj hi hji g' hg' e.symm)) he.1.symm
 ·rcases V7 hx with ⟨rfl,_⟩ | ⟨j,hj,_,rfl⟩
  ·intro d hd;rcases FX.1 hd with hd | hd
   · exact h.Ja L[i] hm d hd
   · rw [EP] at hd;subst hd;exact hc
  · exact h.Ja _ (BO hj)
 ·have:∀ y∈L,Own (w1.setCell ⟨g,i*4+2,none⟩ (BK Oy)) B 3 1 DR (BK y.av) y.DC:=fun y hy=>kV (Own.grown (h.DC y hy) hg (fun g' hg'=>Own.apart (h.DC y hy) (h.inn _ hm) Aw g' hg')) he.2.symm
  rcases V7 hx with ⟨rfl,_⟩ | ⟨j,hj,_,rfl⟩
  · exact this L[i] hm
  · exact this _ (BO hj)
 ·rw [Fa];intro a b ha hb hab;simp only [OD] at ha hb;rw [Qo,Qo];by_cases e1:i=a
  ·subst e1;rw [AZ rfl,AX AB];exact (sep1 b hb AB).symm
  ·rw [AX e1];by_cases e2:i=b
   ·subst e2;rw [AZ rfl];exact sep1 a ha AB
   ·rw [AX e2];exact qh (fun a b=>IL.symm) h.fM ha hb AB
 ·have e:(L.set i {L[i] with inn:=L[i].inn++[c],iv:=Oy}).map (·.av)=L.map (·.av):=by
   apply Zq Ak;intro j h1 h2;rw [Gp,Gp,Qo];split
   · rename_i e;subst e;rfl
   · rfl
  have hp:(L.map (·.av)).Pairwise (fun x y=>IL (BK x) (BK y)):=I5.2 h.fO;rw [<- e] at hp;exact (I5 (f:=fun x:AD=>x.av) (R:=fun x y=>IL (BK x) (BK y))).1 hp
theorem GY.wP {e:TypeId} (he:e≠24/\e≠3) {w0 w w1:World} {B g n cc:Nat} {L:List AD} (h:GY e w0 w B (.slice (some ⟨g,0,none⟩) n cc) L) {i:Nat} (hi:i<L.length) {OV:SV} {c:Int}
  (ho:Own w1 B 3 1 DR (BK OV) (L[i].DC++[c])) (hg:w.grownBy w1 (BK L[i].av).ownBlock) (hat:(BK OV).ownBlock=(BK L[i].av).ownBlock\/(BK OV).ownBlock=some w.heap.size) :
  GY e w0 (w1.setCell ⟨g,i*4+3,none⟩ (BK OV)) B (.slice (some ⟨g,0,none⟩) n cc) (L.set i {L[i] with DC:=L[i].DC++[c],av:=OV}):=by
 have hgv:(Value.slice (some ⟨g,0,none⟩) n cc).ownBlock=some g:=rfl;have hm:=BO hi;have wO:Own w1 B e 4 E8 (.slice (some ⟨g,0,none⟩) n cc) L:=Own.grown h.own hg (fun g' hg'=>Own.apart h.own (h.DC _ hm) he.2 g' hg');have kV:∀ {b:Nat} {e9:TypeId} {s:Nat} {α:Type} {f:α->List Value} {v:Value} {l:List α},Own w1 b e9 s f v l->e9≠e->Own (w1.setCell ⟨g,i*4+3,none⟩ (BK OV)) b e9 s f v l:=fun h9 hne=>Own.far h9 (fun e8=>Own.apart h9 wO hne g e8 hgv.symm) _;have sep1:∀ j (hj:j<L.length),j≠i->IL (BK L[j].av) (BK OV):=fun j hj hji g' hg' e=>by
  rcases hat with h9 | h9
  ·rw [h9] at e;exact qh (fun a b=>IL.symm) h.fO hj hi hji g' hg' e
  ·rw [h9] at e;have:=((h.DC _ (BO hj)).lt g' hg').2
   have:=Dq e
   omega
 refine ⟨Own.bn RN wO hi AB _ _ rfl,fun x hx=>?_,fun x hx=>?_,fun x hx=>?_,fun x hx=>?_,?_,?_⟩
 ·rcases V7 hx with ⟨rfl,_⟩ | ⟨j,hj,_,rfl⟩
  · exact h.out L[i] hm
  · exact h.out _ (BO hj)
 ·have:∀ y∈L,Own (w1.setCell ⟨g,i*4+3,none⟩ (BK OV)) B 24 1 Ia (BK y.iv) y.inn:=fun y hy=>kV (Own.grown (h.inn y hy) hg (fun g' hg'=>Own.apart (h.inn y hy) (h.DC _ hm) Aw g' hg')) he.1.symm
  rcases V7 hx with ⟨rfl,_⟩ | ⟨j,hj,hji,rfl⟩
  · exact this L[i] hm
  · exact this _ (BO hj)
 ·rcases V7 hx with ⟨rfl,_⟩ | ⟨j,hj,_,rfl⟩
  · exact h.Ja L[i] hm
  · exact h.Ja _ (BO hj)
 ·rcases V7 hx with ⟨rfl,_⟩ | ⟨j,hj,hji,rfl⟩
  · exact kV ho he.2.symm
  · exact kV (Own.grown (h.DC _ (BO hj)) hg (fun g' hg' e=>qh (fun a b=>IL.symm) h.fO hj hi hji g' hg' e.symm)) he.2.symm
 ·have e:(L.set i {L[i] with DC:=L[i].DC++[c],av:=OV}).map (·.iv)=L.map (·.iv):=by
   apply Zq Ak;intro j h1 h2;rw [Gp,Gp,Qo];split
   · rename_i e;subst e;rfl
   · rfl
  have hp:(L.map (·.iv)).Pairwise (fun x y=>IL (BK x) (BK y)):=I5.2 h.fM;rw [<- e] at hp;exact (I5 (f:=fun x:AD=>x.iv) (R:=fun x y=>IL (BK x) (BK y))).1 hp
 ·rw [Fa];intro a b ha hb hab;simp only [OD] at ha hb;rw [Qo,Qo];by_cases e1:i=a
  ·subst e1;rw [AZ rfl,AX AB];exact (sep1 b hb AB).symm
  ·rw [AX e1];by_cases e2:i=b
   ·subst e2;rw [AZ rfl];exact sep1 a ha AB
   ·rw [AX e2];exact qh (fun a b=>IL.symm) h.fO ha hb AB
theorem asX {P:List Pt} {k:Nat} (hk:k<P.length):P.reverse.take (k+1)=P.reverse.take k++[P[P.length-1-k]'(by omega)]:=by
 rw [F7 (by simpa using hk),List.getElem_reverse]
theorem ajg (v:Value) (p:Pl) (d:Int) (w:World) (h:Ci w v p) (hv:Valid p) (hd:d∈Bh p):Calls Tryz.prog 84 #[v,.int .i64 d] w (bU w (MC p d)):=by
 have hbd:=hv.Qh hd;obtain ⟨a,ha,hor,hpt⟩:=hv.TY hd;have hid:=hv.Gx ha;have hai:Ez d=a.id:=by unfold Ez;rcases hor with rfl | rfl<;>split<;>omega
 have hpo:=hv.sound.path ha;have Un:=AA (fun W=>adw d W AB);have Kr:=AA (fun W (hW:AU w W)=>agM v p (Ez d) W (h.mono hW) hv.short);rw [hai,hpo] at Kr;rw [hai] at Un;unfold iR at Kr;simp only [H9,VP,if_true] at Kr;have hq:MC p d=if 0<d then AV p a else (AV p a).reverse:=by unfold MC;rw [hpt]
 rw [hq];have Rk:=hv.Tv ha;have hpl:2<=(AV p a).length/\(AV p a).length<=66:=by have:=Ey p a;omega
 obtain ⟨_,_,_,al,rfl,hpa,⟨An,cn,rfl,-⟩,⟨⟨Aa,ca,rfl,-⟩,-⟩,⟨Af,cf,rfl,-⟩⟩:=h;clear hpa hv hor hpt hpo hai hq Rk ha hd;generalize p.nodes.length=nn at *;generalize al.length=na at *;generalize p.faces.length=nf at *;generalize a.id=ai at *;generalize AV p a=P at *;go_enter Tryz.func84,Tryz.ntmps84;go_upto_region 1 with fail;obtain ⟨W1,hW⟩:∃ W:World,W=w.alloc (.cells #[.slice An nn cn,.slice Aa na ca,.slice Af nf cf] 26):=⟨_,rfl⟩;have X1:AO W1 w.heap.size 26 #[.slice An nn cn,.slice Aa na ca,.slice Af nf cf]:=by rw [hW];exact AO.made rfl _ _
 have HB1:=AA (show AU w W1 by rw [hW];exact bA (bR w) _);rw [<- hW];clear hW;have hz1:=HB1.out.size;obtain ⟨BF,BG,BH,BI,-,-,-⟩:=X1.Az;refine DJ (W1) (.take 0 1 (.take 1 3 (.call 2 7 (.call 3 15 (.run 5 4 15 (.done)))))) fun CU QR Ae Ah hS=>?_
 iterate 2 refine Aj ?_
 refine GL (Un.out _) ?_;clear hS;intro CX CV hS;refine Bj ?_;clear hS;intro K hK AQ;go_simp;refine (Kr.out _ (bT HB1.out AQ.out)).mono ?_;rintro e wr2 ⟨A,c,rfl,Fp,ho⟩;have hS:Since W1 wr2:=bT (w:=W1) AQ.out Fp;clear AQ;refine hK.out _ _ hS (fun _=>?_);clear hK K
 try simp only [pu]
 iterate 5 refine Aj ?_
 refine DF ?_;clear hS Ah Ae;intro hB;have HB2:=AA (bT HB1.out hB);have hz3:w.heap.size<=CX.heap.size:=by have h1:=(bD (bR W1)).size;have h2:=CV.size;have:=HB1.out.size;omega
 have HO:=AA (ho.ES hz3);clear hB CV Fp ho X1 BF BG BH BI HB1 Kr Un hz3;by_cases h0:0<d
 ·rw [AZ h0];go_wp2;go_ret;exact ⟨A,c,rfl,HB2.out,HO.out⟩
 ·rw [AX h0];have QZ:=AA (fun k (hk:k<P.length)=>asX hk);go_upto_block 0 with fail;go_wp2_with fail;go_loopw [7,8] (fun s i wr=>∃ k:Nat,k<=P.length/\i=.int .i64 ((P.length:Int)-1-k)/\(∃ A c,s=.slice A k c)/\Own wr wr2.heap.size 39 2 Ee s (P.reverse.take k)/\AU wr2 wr) (fun _ i _=>(intOf i+1).toNat)
  case atStart => exact ⟨0,Bv _,Ak,⟨none,0,rfl⟩,Own.nil _ _ _ _ _,bR wr2⟩
  case round =>
   obtain ⟨k,hk,rfl,⟨A3,c3,rfl⟩,ho3,hb3⟩:=hrel;have F5:=AA ho3;have HB3:=AA hb3;clear ho3 hb3;by_cases hlt:k<P.length
   ·have hsu:=QZ.out k hlt;obtain ⟨b,o,rfl,hlb,c0,c1⟩:=((HO.out.keep HB3.out).row_of).pt (k:=P.length-1-k) AB;have ek:((P.length-1-k:Nat):Int)=(P.length:Int)-1-k:=by omega
    have hi1:((P.length:Int)-1-k).toNat=P.length-1-k:=by omega
    generalize P[P.length-1-k]'_=pt at *;have asY:=AA hsu;have HT:=AA (show (P.reverse.take k).length=k by rw [Iw,XU];omega);have HT1:=AA (show (P.reverse.take (k+1)).length=k+1 by rw [Iw,XU];omega);clear hsu;obtain ⟨m,hm⟩:=BR (P.length-1-k);have SG:(P.length:Int)-1-k=m:=by omega
    rw [<- hm] at c0 c1;rw [SG];have Hmi:=AA SG;have aeG:m<P.length:=by omega
    clear ek hi1 hm SG;have k1:(m:Int)<P.length:=by omega
    have k2:0<=(m:Int):=by omega
    go_upto_region 7 with
     (at_builtin
      refine FK _ rfl (.tmp 26) (.tmp 31) _ rfl (base:=wr2.heap.size) L6 KJ L8 rfl (Own.alloc F5.out _) rfl (l2:=[pt]) (Sl.lit (n:=1) (AO.made rfl _ _) rfl (DN AB)) (by have:=HT.out;simp only [IU,LX];omega) (by have:=HT.out;simp only [IU,LX];omega) (by have:=HB3.out.size;simp;omega) ?_;intro v4 w4 Jk hg4 bV;rw [<- asY.out] at Jk;obtain ⟨A4,c4,hv4,-⟩:=Own.Ig Jk;rw [HT1.out] at hv4;subst hv4;have JH:=AA Jk;have HB4:=AA (bG (bA HB3.out _) hg4 (fun g hg=>(F5.out.lt g hg).1));clear Jk hg4 bV
      )
    clear c0 c1 hlb;go_wp2;go_roundw
    case rel => exact ⟨k+1,AB,by rw [show (P.length:Int)-1-((k+1:Nat):Int)=(m:Int)-1 by have:=Hmi.out;omega];try go_num,⟨A4,c4,rfl⟩,JH.out,HB4.out⟩
    case measure => have:=Hmi.out;simp [intOf];try omega
   ·have hkk:k=P.length:=by omega
    have ho:=F5.out;rw [show P.reverse.take k=P.reverse by rw [IQ DT]] at ho;have RV:=AA (ho.ES HB2.out.size);have h1:(P.length:Int)-1-k=-1:=by omega
    rw [h1];clear ho h1;go_wp2;go_ret;exact ⟨A3,c3,by rw [XU,<- hkk];rfl,bT HB2.out HB3.out,by rw [XU,<- hkk];exact RV.out⟩
theorem asZ (v:Pt) (l m:List (Pt×Pt)):TG v (l++m)=m.foldl (QX v) (TG v l):=by unfold TG;rw [Oi]
theorem asa (p:Pl) {X:List Int} {k:Nat} (hk:k<X.length):Qc p (X.take (k+1))=Qc p (X.take k)++Es (MC p X[k]):=by
 unfold Qc;rw [F7 hk,LC];simp
theorem asb {p:Pl} {X:List Int} {v:Pt} {q:Pt×Pt} (hq:q∈Qc p X) (h:Ea q.1 q.2 v=true):encS p X v=false:=by
 rw [<- ajd];unfold aBz;rw [aCh];have:((Qc p X).any fun q=>Ea q.1 q.2 v)=true:=OC.2 ⟨q,hq,h⟩
 rw [this];rfl
theorem asc {p:Pl} {X:List Int} {v:Pt} {o:Bool} (h:TG v (Qc p X)=(false,o)):encS p X v=o:=by
 rw [<- ajd];unfold aBz;rw [h];simp
theorem ase {v:Pt} {o:Bool} {q:Pt×Pt} (h:Ea q.1 q.2 v=false):QX v (false,o) q=(false,if J6 v q.1 q.2=true then !o else o):=by
 unfold QX;rw [AX (by rw [h];decide)];split<;>rfl
theorem au6 {v a b lo hi:Pt} (h:(b.y<a.y/\lo=b/\hi=a)\/(¬ b.y<a.y/\lo=a/\hi=b)):J6 v a b=decide (lo.y<=v.y/\v.y<hi.y/\0<tw lo hi v):=by
 rcases h with ⟨c,rfl,rfl⟩ | ⟨c,rfl,rfl⟩
 ·rw [akN];unfold J6;rw [decide_eq_decide];omega
 ·unfold J6;rw [decide_eq_decide];omega
section
variable {p:Pl} (h:Valid p)
include h
theorem Valid.au7 {d:Int} (hd:d∈Bh p) {q:Pt} (hq:q∈MC p d):C9 q=true:=by
 obtain ⟨a,ha,-,hpt⟩:=h.TY hd;refine h.adF ha ?_;unfold MC at hq;rw [hpt] at hq;split at hq
 · exact hq
 · exact aAI.1 hq
theorem Valid.ady {d:Int} (hd:d∈Bh p):2<=(MC p d).length/\(MC p d).length<=66:=by
 obtain ⟨a,ha,-,hpt⟩:=h.TY hd;have h1:=h.Tv ha;have h2:=Ey p a;unfold MC;rw [hpt];split
 · omega
 · rw [XU];omega
end
theorem au8 (v vc:Value) (p:Pl) (X:List Int) (at_:Pt) (w:World) (h:Ci w v p) (hv:Valid p) (hX:Ints w vc X) (hd:∀ d∈X,d∈Bh p) (hl:X.length<=1000) (nv:C9 at_=true) :
  Calls Tryz.prog 198 #[v,vc,BA at_] w fun e w'=>e=.returned (.bool (encS p X at_))/\AU w w':=by
 have Kv:=AA (fun d (hd:d∈Bh p) W (hW:AU w W)=>ajg v p d W (h.mono hW) hv hd);have Zc:=AA hd;have HV:=AA hv;have WJ:=AA nv;have QZ:=AA (fun k (hk:k<X.length)=>asa p hk);have JI:=AA (fun q (hq:q∈Qc p X) hon=>asb (p:=p) (X:=X) (v:=at_) (q:=q) hq hon);have Qg:=AA (fun k (hk:k<X.length) q (hq:q∈Es (MC p X[k]))=>show q∈Qc p X from Gf.2 ⟨_,BO hk,hq⟩);have aCm:=AA (fun o h=>asc (p:=p) (X:=X) (v:=at_) (o:=o) h);obtain ⟨R,hR⟩:=BN (encS p X at_);rw [hR] at JI aCm ⊢;obtain ⟨Ac,cc,rfl,hc1,hc2,Jb⟩:=hX;unfold maxLen at hc2;obtain ⟨_,_,_,al,rfl,hpa,⟨An,cn,rfl,-⟩,⟨⟨Aa,ca,rfl,-⟩,-⟩,⟨Af,cf,rfl,-⟩⟩:=h;have Pv:=AA Jb;clear hpa hv hd Jb hR nv;generalize p.nodes.length=nn at *;generalize al.length=na at *;generalize p.faces.length=nf at *;unfold BA;go_enter Tryz.func198,Tryz.ntmps198;go_upto_block 0 with fail;obtain ⟨W1,hW⟩:∃ W:World,W=(w.alloc (.cells #[.slice An nn cn,.slice Aa na ca,.slice Af nf cf] 26)).alloc (.cells #[.int .i64 at_.x,.int .i64 at_.y] 39):=⟨_,rfl⟩;have Dt:=AA (show AO W1 w.heap.size 26 #[.slice An nn cn,.slice Aa na ca,.slice Af nf cf] by rw [hW];exact (AO.made rfl _ _).alloc _);have CG:=AA (show AO W1 (w.heap.size+1) 39 #[.int .i64 at_.x,.int .i64 at_.y] by rw [hW];exact AO.made Ak _ _);have HB1:=AA (show AU w W1 by rw [hW];exact bA (bA (bR w) _) _);rw [<- hW];clear hW;go_wp2_with fail;go_loopw [7,8] (fun s i wr=>∃ (k:Nat) (o:Bool),k<=X.length/\i=.int .i64 k/\s=.bool o/\TG at_ (Qc p (X.take k))=(false,o)/\AU W1 wr) (fun _ i _=>X.length-(intOf i).toNat)
 case atStart => exact ⟨0,false,Bv _,rfl,rfl,rfl,bR W1⟩
 case round =>
  obtain ⟨k,o,hk,rfl,rfl,he,hb⟩:=hrel;obtain ⟨wo,rfl⟩:=BR wr;have HE:=AA he;have HB:=AA hb;clear he hb;by_cases hlt:k<X.length
  ·obtain ⟨b,ofs,rfl,hlb,c0⟩:=(Pv.out.mono (bT HB1.out HB.out)).int hlt;have hdm:=Zc.out _ (BO hlt);have hsu:=QZ.out k hlt;have hmem:=Qg.out k hlt;generalize X[k]=d at *;have YU:=fun q (hq:q∈MC p d)=>HV.out.au7 hdm hq;have hlen:=HV.out.ady hdm;have au:=AA (Kv.out d hdm);obtain ⟨P,hP⟩:=BN (MC p d);rw [hP] at hsu hmem YU hlen au;have WL:=AA hsu;have SQ:=AA hmem;have HNr:=AA YU;have X1:=Dt.out.keep HB.out;have k1:(k:Int)<X.length:=by omega
   have k2:0<=(k:Int):=by omega
   clear hdm hsu hmem YU hP;obtain ⟨BF,BG,BH,BI,-,-,-⟩:=X1.Az;go_upto_region 5 with fail;refine DJ (wo) (.run 5 0 0 (.call 5 63 (.take 6 127 (.done)))) fun CU QR Ae Ah hS=>?_
   iterate 5 refine Aj ?_
   refine Bj ?_;clear hS;intro K hK AQ;go_simp;refine (au.out _ (bT (bT HB1.out HB.out) AQ.out)).mono ?_;rintro e CX ⟨A,c,rfl,CV,ho⟩;have hS:Since wo CX:=bT (w:=wo) AQ.out CV;clear AQ;refine hK.out _ _ hS (fun _=>?_);clear hK K
   try simp only [pu]
   refine Aj ?_;refine DF ?_;clear hS Ah Ae;intro hB;obtain ⟨W3,hW3⟩:∃ W:World,W=CX:=⟨_,rfl⟩;rw [<- hW3] at hB ho CV ⊢;have adz:=AA hB;have WC:=AA ho.row_of;have hz3:=adz.out.size;clear hB ho CV hW3 X1 BF BG BH BI c0 hlb au;go_upto_block 2 with fail;go_wp2_with fail;go_loopw [7,10] (fun s i wr=>∃ (j:Nat) (o2:Bool),1<=j/\j<=P.length/\i=.int .i64 j/\s=.bool o2/\((Es P).take (j-1)).foldl (QX at_) (false,o)=(false,o2)/\AU W3 wr) (fun _ i _=>P.length-(intOf i).toNat)
   case atStart => exact ⟨1,o,Dc _,AB,rfl,rfl,rfl,bR W3⟩
   case round =>
    obtain ⟨j,o2,hj1,hj2,rfl,rfl,he2,hb2⟩:=hrel;obtain ⟨wp,rfl⟩:=BR wr;have HE2:=AA he2;have HB2:=AA hb2;clear he2 hb2;by_cases hlj:j<P.length
    ·obtain ⟨m,rfl⟩:∃ m,j=m+1:=⟨j-1,AB⟩;have hmp:m<P.length:=by omega
     have hq:=SQ.out (P.getD m AY,P.getD (m+1) AY) (ED.2 ⟨m,Et.2 AB,rfl⟩);have htk:=aBn hlj;have hee:=HE2.out;rw [show m+1-1=m by omega] at hee;have ea:P.getD m AY=P[m]:=by simp only [Fj,Dh hmp,H9]
     have eb:P.getD (m+1) AY=P[m+1]:=by simp only [Fj,Dh hlj,H9]
     rw [ea,eb] at hq htk;have na:=HNr.out _ (BO hmp);have nb:=HNr.out _ (BO hlj);obtain ⟨bp,op,rfl,hlp,e10,e11⟩:=(WC.out.mono HB2.out).pt hmp;obtain ⟨bp',op',Lu,-,e20,e21⟩:=(WC.out.mono HB2.out).pt hlj;injection Lu with Lu;injection Lu with y1 y2 _;subst y1 y2;generalize P[m]=a at *;generalize P[m+1]=b2 at *;have FI:=AA htk;have HQ:=AA hq;have qW:=AA hee;have HGo:=AA (fun W=>atA a b2 at_ W (by simp [EN,na,nb,WJ.out]));have Xx:=AA na;have Zh:=AA nb;clear htk hq hee ea eb na nb HE2;unfold BA at HGo;have kw:IntKind.i64.wrap ((m:Int)+1-1)=(m:Int):=by rw [D6 _ AB];omega
     have kw2:IntKind.i64.wrap (m:Int)=(m:Int):=D6 _ AB;have k3:(m:Int)<P.length:=by omega
     have k4:0<=(m:Int):=by omega
     have k5:(m:Int)+1<P.length:=by omega
     have k6:0<=(m:Int)+1:=by omega
     have k7:IntKind.i64.wrap ((m:Int)+1)=(m:Int)+1:=D6 _ AB;go_upto_region 9 with fail;go_cut [11,12] (fun u v wx=>∃ ga gb,u=.pointer (some ⟨ga,0,none⟩)/\v=.pointer (some ⟨gb,0,none⟩)/\AO wx ga 39 #[.int .i64 a.x,.int .i64 a.y]/\AO wx gb 39 #[.int .i64 b2.x,.int .i64 b2.y]/\ga≠gb/\wp.heap.size<=ga/\wp.heap.size<=gb/\AU wp wx)
     case first =>
      refine Rz (wp.heap.size) (wp) (.run 9 0 0 (.two 9 1023 (.call 10 2047 (.call 11 4095 (.call 12 8191 (.done)))) 10 1535 (.call 9 2047 (.call 11 4095 (.call 12 8191 (.done)))))) fun CU QR Ae Ah hS=>?_
      iterate 9 refine Aj ?_
      refine PD (i:=9) (j:=10) (Ew Ae rfl) (Ew Ae rfl) (fun K hK=>?_) (fun K hK=>?_)
      ·have AQ:=AA hS;clear hS;refine FY (FV rfl) ?_;go_simp;refine hK.out _ _ (IB AB AQ.out _) (fun hS=>?_);clear hK K AQ
       try simp only [pu]
       refine Bj ?_;clear hS;intro K hK AQ;go_simp;refine hK.out _ _ (IB AB AQ.out _) (fun hS=>?_);clear hK K AQ
       try simp only [pu]
       refine Bj ?_;clear hS;intro K hK AQ;go_simp;refine hK.out _ _ (by unfold GK;have h:Below _ _ _:=AQ.out;repeat (first | with_reducible assumption | with_reducible exact Below.refl _ _ | with_reducible refine MO ?_ OB _ | with_reducible refine Below.drew ?_ | with_reducible refine IB AB ?_ _ | exact h)) ?_;intro hS;clear hK K AQ
       try simp only [pu]
       refine Bj ?_;clear hS;intro K hK AQ;go_simp;refine hK.out _ _ (by unfold GK;have h:Below _ _ _:=AQ.out;repeat (first | with_reducible assumption | with_reducible exact Below.refl _ _ | with_reducible refine MO ?_ OB _ | with_reducible refine Below.drew ?_ | with_reducible refine IB AB ?_ _ | exact h)) ?_;intro hS;clear hK K AQ
       try simp only [pu]
       refine LY ?_;clear hS Ah Ae;intro hB;go_wp2;go_meet
       case rel => first | exact ⟨_,_,rfl,rfl,((AO.made rfl _ _).alloc _).drew,(AO.made Ak _ _).drew,AB,AB,AB,hB⟩ | exact ⟨_,_,rfl,rfl,(AO.made Ak _ _).drew,((AO.made rfl _ _).alloc _).drew,AB,AB,AB,hB⟩
      ·have AQ:=AA hS;clear hS;refine FY (FV rfl) ?_;go_simp;refine hK.out _ _ (IB AB AQ.out _) (fun hS=>?_);clear hK K AQ
       try simp only [pu]
       refine Bj ?_;clear hS;intro K hK AQ;go_simp;refine hK.out _ _ (IB AB AQ.out _) (fun hS=>?_);clear hK K AQ
       try simp only [pu]
       refine Bj ?_;clear hS;intro K hK AQ;go_simp;refine hK.out _ _ (by unfold GK;have h:Below _ _ _:=AQ.out;repeat (first | with_reducible assumption | with_reducible exact Below.refl _ _ | with_reducible refine MO ?_ OB _ | with_reducible refine Below.drew ?_ | with_reducible refine IB AB ?_ _ | exact h)) ?_;intro hS;clear hK K AQ
       try simp only [pu]
       refine Bj ?_;clear hS;intro K hK AQ;go_simp;refine hK.out _ _ (by unfold GK;have h:Below _ _ _:=AQ.out;repeat (first | with_reducible assumption | with_reducible exact Below.refl _ _ | with_reducible refine MO ?_ OB _ | with_reducible refine Below.drew ?_ | with_reducible refine IB AB ?_ _ | exact h)) ?_;intro hS;clear hK K AQ
       try simp only [pu]
       refine LY ?_;clear hS Ah Ae;intro hB;go_wp2;go_meet
       case rel => first | exact ⟨_,_,rfl,rfl,((AO.made rfl _ _).alloc _).drew,(AO.made Ak _ _).drew,AB,AB,AB,hB⟩ | exact ⟨_,_,rfl,rfl,(AO.made Ak _ _).drew,((AO.made rfl _ _).alloc _).drew,AB,AB,AB,hB⟩
     case rest =>
      obtain ⟨ga,gb,rfl,rfl,xa,xb,aCb,hga,hgb,hb4⟩:=hcut;have wQ:=AA xa;have HXb:=AA xb;have HB4:=AA (bT HB2.out hb4);have FP:=AA (bT HB.out (bT adz.out (bT HB2.out hb4)));have X2:=CG.out.keep FP.out;have kW:=AA X2;have dh:=hb4.size;clear hb4 e10 e11 e20 e21 hlp kw kw2 k3 k4 k5 k6;obtain ⟨BU,BX,Bg,-,-⟩:=X2.BQ;obtain ⟨aBd,aBe,aBf,-,-⟩:=xa.BQ;obtain ⟨aBg,aaF,aaG,-,-⟩:=xb.BQ;go_wp2_with fail;refine (HGo.out _).mono ?_;rintro e w5 ⟨rfl,hb5⟩;obtain ⟨on,hon⟩:=BN (Ea a b2 at_);rw [hon];have Nk:=AA hon;have Cm:=AA (bT HB4.out hb5);have au9:=AA (bT FP.out hb5);have ae0:=AA (wQ.out.keep hb5);have ae1:=AA (HXb.out.keep hb5);have kX:=AA (kW.out.keep hb5);have Tc:=hb5.size;clear hb5 xa aBd aBe aBf xb aBg aaF aaG X2 BU BX Bg wQ HXb kW HGo hon HB4 FP
      cases on
      case true =>
       have HF:=AA (JI.out (a,b2) HQ.out Nk.out);go_wp2;go_ret;exact ⟨CW HF.out.symm,bT HB1.out au9.out⟩
      case false =>
       have hst:=ase (v:=at_) (o:=o2) (q:=(a,b2)) Nk.out;obtain ⟨lo,hi,hlh⟩:∃ lo hi:Pt,(b2.y<a.y/\lo=b2/\hi=a)\/(¬ b2.y<a.y/\lo=a/\hi=b2):=by
        by_cases c:b2.y<a.y
        · exact ⟨b2,a,.inl ⟨c,rfl,rfl⟩⟩
        · exact ⟨a,b2,.inr ⟨c,rfl,rfl⟩⟩
       rw [au6 hlh] at hst;have hlm:lim lo/\lim hi:=by
        rcases hlh with ⟨-,rfl,rfl⟩ | ⟨-,rfl,rfl⟩
        · exact ⟨UZ Zh.out,UZ Xx.out⟩
        · exact ⟨UZ Xx.out,UZ Zh.out⟩
       have DU:=AA hst;have ae2:=fun W=>aje lo hi at_ W hlm.1 hlm.2 (UZ WJ.out);unfold BA at ae2;have aaH:=AA ae2;clear ae2 hst hlm;have X2:=kX.out;have xa:=ae0.out;have xb:=ae1.out
       try clear BU BX Bg
       obtain ⟨BU,BX,Bg,-,-⟩:=X2.BQ
       try clear aBd aBe aBf
       obtain ⟨aBd,aBe,aBf,auA,auB⟩:=xa.BQ
       try clear aBg aaF aaG
       obtain ⟨aBg,aaF,aaG,auC,auD⟩:=xb.BQ;go_upto_if 48 with fail;go_cut [] (fun wx=>AO wx ga 39 #[.int .i64 lo.x,.int .i64 lo.y]/\AO wx gb 39 #[.int .i64 hi.x,.int .i64 hi.y]/\AO wx (w.heap.size+1) 39 #[.int .i64 at_.x,.int .i64 at_.y]/\AU W3 wx)
       case first =>
        have az5:w.heap.size+1<W1.heap.size:=CG.out.lt;have hzw:=HB.out.size;have hz8:=HB2.out.size;have n1:w.heap.size+1≠ga:=by omega
        have n2:w.heap.size+1≠gb:=by omega
        rcases hlh with ⟨c,rfl,rfl⟩ | ⟨c,rfl,rfl⟩
        ·go_wp2;go_meet
         case rel =>
          refine ⟨?_,?_,?_,?_⟩
          ·have h:=(((xa.EI 0 (.int .i64 lo.x)).EI 1 (.int .i64 lo.y)).far (p:=⟨gb,0,none⟩) aCb (.int .i64 hi.x)).far (p:=⟨gb,1,none⟩) aCb (.int .i64 hi.y);simpa using h
          ·have h:=((xb.far (p:=⟨ga,0,none⟩) (fun e=>aCb e.symm) (.int .i64 lo.x)).far (p:=⟨ga,1,none⟩) (fun e=>aCb e.symm) (.int .i64 lo.y)).EI 0 (.int .i64 hi.x);have h:=h.EI 1 (.int .i64 hi.y);simpa using h
          · exact (((X2.far (p:=⟨ga,0,none⟩) n1 (.int .i64 lo.x)).far (p:=⟨ga,1,none⟩) n1 (.int .i64 lo.y)).far (p:=⟨gb,0,none⟩) n2 (.int .i64 hi.x)).far (p:=⟨gb,1,none⟩) n2 (.int .i64 hi.y)
          · exact bS (bS (bS (bS Cm.out (p:=⟨ga,0,none⟩) DT _) (p:=⟨ga,1,none⟩) DT _) (p:=⟨gb,0,none⟩) DT _) (p:=⟨gb,1,none⟩) DT _
        ·go_wp2;go_meet
         case rel => exact ⟨ae0.out,ae1.out,kX.out,Cm.out⟩
       case rest =>
        obtain ⟨ya,yb,y2,hb6⟩:=hcut;have GU:=AA hb6;have PZ:=AA (fun (o3:Bool) (h3:(if decide (lo.y<=at_.y/\at_.y<hi.y/\0<tw lo hi at_)=true then !o2 else o2)=o3)=>show ((Es P).take (m+1)).foldl (QX at_) (false,o)=(false,o3) by rw [FI.out,Oi,qW.out];show QX at_ (false,o2) (a,b2)=_;rw [DU.out,h3]);clear hb6 X2 BU BX Bg xa aBd aBe aBf auA auB xb aBg aaF aaG auC auD ae0 ae1 kX Cm DU hlh;obtain ⟨yal,yaa,yab,-,-⟩:=ya.BQ;obtain ⟨ybl,yba,ybb,-,-⟩:=yb.BQ;obtain ⟨y2l,y2a,y2b,-,-⟩:=y2.BQ;by_cases c1:lo.y<=at_.y
        ·by_cases c2:at_.y<hi.y
         ·go_wp2_with fail;refine (aaH.out _).mono ?_;rintro e w7 ⟨rfl,hb7⟩;have MW:=AA (bT GU.out hb7);have hp:=at6 (a:=lo) (b:=hi) (c:=at_);clear hb7 ya yal yaa yab yb ybl yba ybb y2 y2l y2a y2b aaH;generalize Zg lo hi at_=gs at *;by_cases c3:0<gs
          ·have kY:=AA (PZ.out (!o2) (by rw [AZ (by simp only [EO];exact ⟨c1,c2,hp.1 c3⟩)]));clear hp
           cases o2
           all_goals
            go_wp2;go_roundw
            case rel => exact ⟨m+1+1,_,AB,AB,BJ,rfl,kY.out,MW.out⟩
            case measure => exact BL
          ·have kY:=AA (PZ.out o2 (by rw [AX (by simp only [EO];exact fun h=>c3 (hp.2 h.2.2))]));clear hp;go_wp2;go_roundw
           case rel => exact ⟨m+1+1,_,AB,AB,BJ,rfl,kY.out,MW.out⟩
           case measure => exact BL
         ·have kY:=AA (PZ.out o2 (by rw [AX (by simp only [EO];exact fun h=>c2 h.2.1)]));go_wp2;go_roundw
          case rel => exact ⟨m+1+1,_,AB,AB,BJ,rfl,kY.out,GU.out⟩
          case measure => exact BL
        ·have kY:=AA (PZ.out o2 (by rw [AX (by simp only [EO];exact fun h=>c1 h.1)]));go_wp2;go_roundw
         case rel => exact ⟨m+1+1,_,AB,AB,BJ,rfl,kY.out,GU.out⟩
         case measure => exact BL
    ·have hjj:j=P.length:=by omega
     have hee:=HE2.out;rw [IQ (by rw [aBy];omega)] at hee;have HF:=AA (show TG at_ (Qc p (X.take (k+1)))=(false,o2) by rw [WL.out,asZ,HE.out];exact hee);clear hee hjj;go_wp2;go_roundw
     case rel => exact ⟨k+1,o2,AB,BJ,rfl,HF.out,bT HB.out (bT adz.out HB2.out)⟩
     case measure => exact BL
  ·have hkk:k=X.length:=by omega
   have hee:=HE.out;rw [hkk,I4] at hee;have hf:=aCm.out o hee;rw [<- hf];clear hee hkk;go_wp2;go_ret;exact ⟨rfl,bT HB1.out HB.out⟩
