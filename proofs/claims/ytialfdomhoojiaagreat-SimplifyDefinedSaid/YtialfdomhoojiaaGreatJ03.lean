import Derived.Test.YtialfdomhoojiaaGreatJ02
import Derived.Test.YtialfdomhoojiaaGreatGE
set_option linter.unusedSimpArgs false
set_option linter.unusedVariables false
set_option maxRecDepth 100000
set_option maxHeartbeats 2000000
namespace Go.Proofs.YtialfdomhoojiaaGreat
open Go.RowKit
theorem Zw (a b c d:Pt) (ha:lim a) (hb:lim b) (hc:lim c) (hd:lim d):-35184372088832<=aP a b c d/\aP a b c d<=35184372088832:=by
 obtain ⟨a1,a2,a3,a4⟩:=ha;obtain ⟨b1,b2,b3,b4⟩:=hb;obtain ⟨c1,c2,c3,c4⟩:=hc;obtain ⟨d1,d2,d3,d4⟩:=hd;obtain ⟨m1,m2⟩:=qH (b.x-a.x) (d.y-c.y) 4194304 Pe Pe Pe Pe;obtain ⟨m3,m4⟩:=qH (b.y-a.y) (d.x-c.x) 4194304 Pe Pe Pe Pe;simp only [Int.reduceMul,Int.reduceNeg] at m1 m2 m3 m4;unfold aP;omega
def pG (a b c d:Pt):Int :=
 if a=b/\c=d/\¬ a=c then 0
 else if aP a b c d=0 then
  if aP a b a c=0/\aP a b a d=0/\aP c d c a=0/\aP c d c b=0 then mO a b c d else 0
 else if aP a b c d<0 then
  if 0<=-aP a c c d/\-aP a c c d<=-aP a b c d/\0<=-aP a c a b/\-aP a c a b<=-aP a b c d then 1 else 0
 else if 0<=aP a c c d/\aP a c c d<=aP a b c d/\0<=aP a c a b/\aP a c a b<=aP a b c d then 1 else 0
def iQ (a b c d:Pt):Int:=if eu [a,b,c,d]=true then pG a b c d else 0
theorem adB (a b c d:Pt) (w:World) :
  Calls Tryz.prog 248 #[aK a,aK b,aK c,aK d] w fun e w'=>e=.returned (.int .i64 (iQ a b c d))/\Below w.heap.size w w':=by
 have TS:∀ W,Calls Tryz.prog 273 #[aK a,aK b,aK c,aK d] W _:=fun W=>ajO a b c d W;have TC:∀ p q r s:Pt,lim p->lim q->lim r->lim s->∀ W,Calls Tryz.prog 213 #[aK p,aK q,aK r,aK s] W _:=fun p q r s hp hq hr hs W=>Ux p q r s W hp hq hr hs;unfold aK at TS TC ⊢;have HS:=avE TS;clear TS;have HC:=avE TC;clear TC
 cases hn:eu [a,b,c,d]
 ·have hm:iQ a b c d=0:=by rw [iQ,hn];rfl
  have Hm:=avE hm;clear hm;go_enter Tryz.func248,Tryz.ntmps248;go_wp2_with fail;refine (J9 _ [a,b,c,d] _ (dM.Uj (ah.made ars _ _))).mono ?_;rintro e w1 ⟨rfl,hb1⟩;rw [hn];go_wp2;go_ret;refine ⟨dL Hm.out.symm,?_⟩;exact eF
 obtain ⟨la,lb,lc,ld⟩:=ajD hn;have hm:iQ a b c d=pG a b c d:=by rw [iQ,if_pos hn]
 unfold pG at hm;have Hm:=avE hm;clear hm;have Ha:=avE la;have Hb:=avE lb;have Hc:=avE lc;have Hd:=avE ld;clear la lb lc ld;go_enter Tryz.func248,Tryz.ntmps248;go_wp2_with fail;refine (J9 _ [a,b,c,d] _ (dM.Uj (ah.made ars _ _))).mono ?_;rintro e w1 ⟨rfl,hb1⟩;rw [hn];clear hn;have Bw:Below w.heap.size w w1:=by
  exact eF
 have X4:ah _ (w.heap.size) 39 #[.int .i64 a.x,.int .i64 a.y]:=ah.keep (by repeat (first | exact ah.made ars _ _ | refine ah.alloc ?_ _)) hb1;have X5:ah _ (w.heap.size+1) 39 #[.int .i64 b.x,.int .i64 b.y]:=ah.keep (by repeat (first | exact ah.made ars _ _ | refine ah.alloc ?_ _)) hb1;have X6:ah _ (w.heap.size+1+1) 39 #[.int .i64 c.x,.int .i64 c.y]:=ah.keep (by repeat (first | exact ah.made ars _ _ | refine ah.alloc ?_ _)) hb1;have X7:ah _ (w.heap.size+1+1+1) 39 #[.int .i64 d.x,.int .i64 d.y]:=ah.keep (by repeat (first | exact ah.made ars _ _ | refine ah.alloc ?_ _)) hb1;clear hb1;obtain ⟨aV,aX,bn,-,-⟩:=X4.aQ;obtain ⟨bI,bJ,bV,-,-⟩:=X5.aQ;obtain ⟨fO,fQ,gK,-,-⟩:=X6.aQ;obtain ⟨dY,dZ,gI,-,-⟩:=X7.aQ;go_upto_region 3 with fail;go_cut [31] (fun s wx=>s=.bool (decide (a=b/\c=d/\¬ a=c))/\wx=w1)
 case first =>
  have e1:=yT a b;have e2:=yT c d;have e3:=DX a c;by_cases h1:a=b
  ·have h1':decide (a=b)=true:=by simpa using h1
   have H1:=avE h1;clear h1;by_cases h2:c=d
   ·have h2':decide (c=d)=true:=by simpa using h2
    have H2:=avE h2;clear h2;go_wp2;go_meet
    case rel => exact ⟨by simp [H1.out,H2.out],rfl⟩
   ·have h2':decide (c=d)=false:=by simpa using h2
    have H2:=avE h2;clear h2;go_wp2;go_meet
    case rel => exact ⟨by simp [H2.out],rfl⟩
  ·have h1':decide (a=b)=false:=by simpa using h1
   have H1:=avE h1;clear h1;go_wp2;go_meet
   case rel => exact ⟨by simp [H1.out],rfl⟩
 case rest =>
 obtain ⟨rfl,rfl⟩:=hcut;by_cases hz:a=b/\c=d/\¬ a=c
 ·have hm:=Hm.out;rw [if_pos hz] at hm;replace Hm:=avE hm;clear hm;have hz':decide (a=b/\c=d/\¬ a=c)=true:=avW hz;rw [hz'];clear hz hz';go_wp2;go_ret;exact ⟨dL Hm.out.symm,Bw⟩
 have hm:=Hm.out;rw [if_neg hz] at hm;replace Hm:=avE hm;clear hm;have hz':decide (a=b/\c=d/\¬ a=c)=false:=avV hz;rw [hz'];clear hz hz';go_wp2_with fail;refine (HC.out a b c d Ha.out Hb.out Hc.out Hd.out _).mono ?_;rintro e w2 ⟨rfl,hb2⟩;replace Bw:=bT Bw hb2;replace X4:=X4.keep hb2;replace X5:=X5.keep hb2;replace X6:=X6.keep hb2;replace X7:=X7.keep hb2;clear hb2
 try clear aV
 try clear aX
 try clear bn
 try clear bI
 try clear bJ
 try clear bV
 try clear fO
 try clear fQ
 try clear gK
 try clear dY
 try clear dZ
 try clear gI
 try clear aV
 try clear aX
 try clear bn
 obtain ⟨aV,aX,bn,-,-⟩:=X4.aQ
 try clear bI
 try clear bJ
 try clear bV
 obtain ⟨bI,bJ,bV,-,-⟩:=X5.aQ
 try clear fO
 try clear fQ
 try clear gK
 obtain ⟨fO,fQ,gK,-,-⟩:=X6.aQ
 try clear dY
 try clear dZ
 try clear gI
 obtain ⟨dY,dZ,gI,-,-⟩:=X7.aQ;obtain ⟨nb1,nb2⟩:=Zw a b c d Ha.out Hb.out Hc.out Hd.out;generalize aP a b c d=n at *;by_cases hn0:n=0
 ·subst hn0;have hm:=Hm.out;rw [if_pos rfl] at hm;replace Hm:=avE hm;clear hm;go_wp2_with fail;refine (HC.out a b a c Ha.out Hb.out Ha.out Hc.out _).mono ?_;rintro e w3 ⟨rfl,hb3⟩;replace Bw:=bT Bw hb3;replace X4:=X4.keep hb3;replace X5:=X5.keep hb3;replace X6:=X6.keep hb3;replace X7:=X7.keep hb3;clear hb3
  try clear aV
  try clear aX
  try clear bn
  try clear bI
  try clear bJ
  try clear bV
  try clear fO
  try clear fQ
  try clear gK
  try clear dY
  try clear dZ
  try clear gI
  try clear aV
  try clear aX
  try clear bn
  obtain ⟨aV,aX,bn,-,-⟩:=X4.aQ
  try clear bI
  try clear bJ
  try clear bV
  obtain ⟨bI,bJ,bV,-,-⟩:=X5.aQ
  try clear fO
  try clear fQ
  try clear gK
  obtain ⟨fO,fQ,gK,-,-⟩:=X6.aQ
  try clear dY
  try clear dZ
  try clear gI
  obtain ⟨dY,dZ,gI,-,-⟩:=X7.aQ;generalize aP a b a c=c1 at *;by_cases hc1:c1=0
  case neg =>
   have hm:=Hm.out;rw [if_neg (fun h=>hc1 h.1)] at hm;replace Hm:=avE hm;clear hm;have hc':(c1 != 0)=true:=by simpa using hc1
   clear hc1;go_wp2;go_ret;exact ⟨dL Hm.out.symm,Bw⟩
  case pos =>
  subst hc1;go_wp2_with fail;refine (HC.out a b a d Ha.out Hb.out Ha.out Hd.out _).mono ?_;rintro e w4 ⟨rfl,hb4⟩;replace Bw:=bT Bw hb4;replace X4:=X4.keep hb4;replace X5:=X5.keep hb4;replace X6:=X6.keep hb4;replace X7:=X7.keep hb4;clear hb4
  try clear aV
  try clear aX
  try clear bn
  try clear bI
  try clear bJ
  try clear bV
  try clear fO
  try clear fQ
  try clear gK
  try clear dY
  try clear dZ
  try clear gI
  try clear aV
  try clear aX
  try clear bn
  obtain ⟨aV,aX,bn,-,-⟩:=X4.aQ
  try clear bI
  try clear bJ
  try clear bV
  obtain ⟨bI,bJ,bV,-,-⟩:=X5.aQ
  try clear fO
  try clear fQ
  try clear gK
  obtain ⟨fO,fQ,gK,-,-⟩:=X6.aQ
  try clear dY
  try clear dZ
  try clear gI
  obtain ⟨dY,dZ,gI,-,-⟩:=X7.aQ;generalize aP a b a d=c2 at *;by_cases hc2:c2=0
  case neg =>
   have hm:=Hm.out;rw [if_neg (fun h=>hc2 h.2.1)] at hm;replace Hm:=avE hm;clear hm;have hc':(c2 != 0)=true:=by simpa using hc2
   clear hc2;go_wp2;go_ret;exact ⟨dL Hm.out.symm,Bw⟩
  case pos =>
  subst hc2;go_wp2_with fail;refine (HC.out c d c a Hc.out Hd.out Hc.out Ha.out _).mono ?_;rintro e w5 ⟨rfl,hb5⟩;replace Bw:=bT Bw hb5;replace X4:=X4.keep hb5;replace X5:=X5.keep hb5;replace X6:=X6.keep hb5;replace X7:=X7.keep hb5;clear hb5
  try clear aV
  try clear aX
  try clear bn
  try clear bI
  try clear bJ
  try clear bV
  try clear fO
  try clear fQ
  try clear gK
  try clear dY
  try clear dZ
  try clear gI
  try clear aV
  try clear aX
  try clear bn
  obtain ⟨aV,aX,bn,-,-⟩:=X4.aQ
  try clear bI
  try clear bJ
  try clear bV
  obtain ⟨bI,bJ,bV,-,-⟩:=X5.aQ
  try clear fO
  try clear fQ
  try clear gK
  obtain ⟨fO,fQ,gK,-,-⟩:=X6.aQ
  try clear dY
  try clear dZ
  try clear gI
  obtain ⟨dY,dZ,gI,-,-⟩:=X7.aQ;generalize aP c d c a=c3 at *;by_cases hc3:c3=0
  case neg =>
   have hm:=Hm.out;rw [if_neg (fun h=>hc3 h.2.2.1)] at hm;replace Hm:=avE hm;clear hm;have hc':(c3 != 0)=true:=by simpa using hc3
   clear hc3;go_wp2;go_ret;exact ⟨dL Hm.out.symm,Bw⟩
  case pos =>
  subst hc3;go_wp2_with fail;refine (HC.out c d c b Hc.out Hd.out Hc.out Hb.out _).mono ?_;rintro e w6 ⟨rfl,hb6⟩;replace Bw:=bT Bw hb6;replace X4:=X4.keep hb6;replace X5:=X5.keep hb6;replace X6:=X6.keep hb6;replace X7:=X7.keep hb6;clear hb6
  try clear aV
  try clear aX
  try clear bn
  try clear bI
  try clear bJ
  try clear bV
  try clear fO
  try clear fQ
  try clear gK
  try clear dY
  try clear dZ
  try clear gI
  try clear aV
  try clear aX
  try clear bn
  obtain ⟨aV,aX,bn,-,-⟩:=X4.aQ
  try clear bI
  try clear bJ
  try clear bV
  obtain ⟨bI,bJ,bV,-,-⟩:=X5.aQ
  try clear fO
  try clear fQ
  try clear gK
  obtain ⟨fO,fQ,gK,-,-⟩:=X6.aQ
  try clear dY
  try clear dZ
  try clear gI
  obtain ⟨dY,dZ,gI,-,-⟩:=X7.aQ;generalize aP c d c b=c4 at *;by_cases hc4:c4=0
  case neg =>
   have hm:=Hm.out;rw [if_neg (fun h=>hc4 h.2.2.2)] at hm;replace Hm:=avE hm;clear hm;have hc':(c4 != 0)=true:=by simpa using hc4
   clear hc4;go_wp2;go_ret;exact ⟨dL Hm.out.symm,Bw⟩
  case pos =>
  subst hc4;have hm:=Hm.out;simp only [and_self,if_true] at hm;replace Hm:=avE hm;clear hm;go_wp2_with fail;refine (HS.out _).mono ?_;rintro e w8 ⟨rfl,hb8⟩;go_wp2;go_ret;exact ⟨dL Hm.out.symm,bT Bw hb8⟩
 have aua:(n == 0)=false:=by simpa using hn0
 have hm:=Hm.out;rw [if_neg hn0] at hm;replace Hm:=avE hm;clear hm;obtain ⟨sb1,sb2⟩:=Zw a c c d Ha.out Hc.out Hc.out Hd.out;obtain ⟨tb1,tb2⟩:=Zw a c a b Ha.out Hc.out Ha.out Hb.out;have Zb:=avE hn0;clear hn0;go_upto_region 10 with fail;go_cut [10,11] (fun s t wx=>s=.int .i64 (aP a c c d)/\t=.int .i64 (aP a c a b)/\Below w.heap.size w wx)
 case first =>
  go_region_held3 (fun W=>W.cell? ⟨w.heap.size,0,none⟩=some (.int .i64 a.x)/\W.cell? ⟨w.heap.size,1,none⟩=some (.int .i64 a.y)/\W.cell? ⟨w.heap.size+1,0,none⟩=some (.int .i64 b.x)/\W.cell? ⟨w.heap.size+1,1,none⟩=some (.int .i64 b.y)/\W.cell? ⟨w.heap.size+1+1,0,none⟩=some (.int .i64 c.x)/\W.cell? ⟨w.heap.size+1+1,1,none⟩=some (.int .i64 c.y)/\W.cell? ⟨w.heap.size+1+1+1,0,none⟩=some (.int .i64 d.x)/\W.cell? ⟨w.heap.size+1+1+1,1,none⟩=some (.int .i64 d.y)) ((repeat' apply And.intro)<;>(repeat (refine kF avD ?_))<;>(first | assumption | simp [*]))
   (first | (go_at_call 213;refine (HC.out _ _ _ _ (by first | exact Ha.out | exact Hc.out) (by first | exact Hc.out) (by first | exact Hc.out | exact Ha.out) (by first | exact Hd.out | exact Hb.out) _).mono ?_;rintro e w' ⟨rfl,hb'⟩))
  go_wp2;go_meet
  case rel =>
  refine ⟨rfl,rfl,?_⟩;exact eF
 case rest =>
 clear X4 X5 X6 X7 Bw;clear aV aX bn;clear bI bJ bV;clear fO fQ gK;clear dY dZ gI;obtain ⟨rfl,rfl,Bw⟩:=hcut;generalize aP a c c d=s at *;generalize aP a c a b=t at *;by_cases hneg:n<0
 ·have hm:=Hm.out;rw [if_pos hneg] at hm;replace Hm:=avE hm;clear hm;go_wp2_with fail
  all_goals (first | (go_ret;refine ⟨dL ?_,Bw⟩;rw [Hm.out];first | rw [if_pos Pe] | rw [if_neg Pe]) | (exfalso;omega))
 ·have hm:=Hm.out;rw [if_neg hneg] at hm;replace Hm:=avE hm;clear hm;go_wp2_with fail
  all_goals (first | (go_ret;refine ⟨dL ?_,Bw⟩;rw [Hm.out];first | rw [if_pos Pe] | rw [if_neg Pe]) | (exfalso;omega))
theorem adD (a:Int):0<=a*a:=by
 rcases Int.le_total 0 a with h | h
 · exact Int.mul_nonneg h h
 · exact Int.mul_nonneg_of_nonpos_of_nonpos h h
theorem akd {a b:Int}:a*b<=0↔(0<=a/\b<=0)\/(a<=0/\0<=b):=by
 constructor
 ·intro h;by_cases ha:a=0
  · omega
  by_cases hp:0<a
  ·left;refine ⟨by omega,?_⟩;by_cases hb:0<b
   · have:=Int.mul_pos hp hb;omega
   · omega
  ·right;refine ⟨by omega,?_⟩;by_cases hb:b<0
   · have:=Int.mul_pos_of_neg_of_neg (show a<0 by omega) hb;omega
   · omega
 ·rintro (⟨ha,hb⟩ | ⟨ha,hb⟩)
  · exact Int.mul_nonpos_of_nonneg_of_nonpos ha hb
  · exact Int.mul_nonpos_of_nonpos_of_nonneg ha hb
theorem UJ {p a b:Int}:(p-a)*(p-b)<=0↔min a b<=p/\p<=max a b:=by
 rw [akd];omega
theorem ake {ux uy vx vy:Int} (hc:ux*vy=uy*vx):ux*vx+uy*vy<=0↔ux*vx<=0/\uy*vy<=0:=by
 constructor
 ·intro h;have hp:0<=(ux*vx)*(uy*vy):=by
   have e:(ux*vx)*(uy*vy)=(ux*vy)*(ux*vy):=by grind
   rw [e];exact adD _
  by_cases h1:0<ux*vx
  · have:=Int.mul_neg_of_pos_of_neg h1 (show uy*vy<0 by omega);omega
  ·by_cases h2:0<uy*vy
   · have:=Int.mul_neg_of_neg_of_pos (show ux*vx<0 by omega) h2;omega
   · omega
 · omega
theorem parallel {ux uy vx vy wx wy:Int} (h:¬ (ux=0/\uy=0)) (h1:ux*vy-uy*vx=0) (h2:ux*wy-uy*wx=0):vx*wy-vy*wx=0:=by
 have e1:ux*(vx*wy-vy*wx)=0:=by grind
 have e2:uy*(vx*wy-vy*wx)=0:=by grind
 rcases Int.mul_eq_zero.1 e1 with h3 | h3
 ·rcases Int.mul_eq_zero.1 e2 with h4 | h4
  · exact absurd ⟨h3,h4⟩ h
  · exact h4
 · exact h3
theorem UK (a b p:Pt):dQ a b p=nV a b p:=by
 unfold dQ nV
 cases eu [a,b,p]
 · rfl
 have hc:aP a b a p=tw a b p:=rfl;rw [hc];by_cases h:tw a b p=0
 ·simp only [h,decide_true,Bool.true_and,Bool.and_assoc];rw [Bool.eq_iff_iff];simp only [avR,avQ];unfold Fb;rw [ake (by unfold tw at h;grind),UJ,UJ];omega
 · simp [h]
theorem oP (a b:Pt):bF a b=true↔a.x<b.x\/(a.x=b.x/\a.y<b.y):=by simp [bF]
theorem Kr (a:Pt):bF a a=false:=by rw [<- Bool.not_eq_true,oP];omega
theorem sW {a b:Pt} (h:bF a b=true):bF b a=false:=by
 rw [<- Bool.not_eq_true,oP];rw [oP] at h;omega
theorem Ns {a b:Pt} (h:bF a b=false) (h':bF b a=false):a=b:=by
 rw [<- Bool.not_eq_true,oP] at h h';rw [Pt.ext_iff'];omega
def lo (a b:Pt):Pt:=if bF b a then b else a
def hi (a b:Pt):Pt:=if bF b a then a else b
theorem Zx (a b:Pt):lo a b=lo b a:=by
 unfold lo
 cases h:bF b a<;>cases h':bF a b<;>simp
 · exact Ns h' h
 · exact absurd (sW h) (by simp [h'])
theorem UL (a b:Pt):hi a b=hi b a:=by
 unfold hi
 cases h:bF b a<;>cases h':bF a b<;>simp
 · exact (Ns h' h).symm
 · exact absurd (sW h) (by simp [h'])
theorem CX (a b c d:Pt):mO a b c d=if hi (lo a b) (lo c d)=lo (hi a b) (hi c d) then 1 else if bF (hi (lo a b) (lo c d)) (lo (hi a b) (hi c d)) then 2 else 0:=by
 have e1:∀ p q:Pt,(if bF p q then q else p)=hi p q:=fun p q=>by
  unfold hi;cases h:bF q p<;>cases h':bF p q<;>simp
  · exact Ns h' h
  · exact absurd (sW h) (by simp [h'])
 have e2:∀ p q:Pt,(if bF q p then q else p)=lo p q:=fun p q=>rfl;have e3:∀ p q:Pt,(if bF q p then p else q)=hi p q:=fun p q=>rfl;unfold mO;simp only [e2,e3,e1];rw [UL (lo c d) (lo a b)]
theorem D8 (a b c d:Pt):mO a b c d=mO c d a b:=by
 rw [CX a b c d,UL (lo a b) (lo c d),Zx (hi a b) (hi c d),<- CX]
theorem Nu (a b c d:Pt):mO a b c d=mO b a c d:=by
 rw [CX,CX,Zx a b,UL a b]
theorem Fg (c d:Pt):(lo c d=c/\hi c d=d/\bF d c=false)\/(lo c d=d/\hi c d=c/\bF d c=true):=by
 unfold lo hi
 cases h:bF d c<;>simp
theorem Zy (c d a:Pt) (hcd:c≠d) (h:tw c d a=0) :
  (min c.x d.x<=a.x/\a.x<=max c.x d.x/\min c.y d.y<=a.y/\a.y<=max c.y d.y)↔(bF a (lo c d)=false/\bF (hi c d) a=false):=by
 have hne:¬ (c.x=d.x/\c.y=d.y):=fun e=>hcd (Pt.ext_iff'.2 e);unfold tw at h;have hp:(a.x-c.x)*(a.y-d.y)=(a.y-c.y)*(a.x-d.x):=by grind
 have hs:0<=((a.x-c.x)*(a.x-d.x))*((a.y-c.y)*(a.y-d.y)):=by
  have e:((a.x-c.x)*(a.x-d.x))*((a.y-c.y)*(a.y-d.y))=((a.x-c.x)*(a.y-d.y))*((a.x-c.x)*(a.y-d.y)):=by grind
  rw [e];exact adD _
 have b1:(a.x-c.x)*(a.x-d.x)<=0↔min c.x d.x<=a.x/\a.x<=max c.x d.x:=UJ;have b2:(a.y-c.y)*(a.y-d.y)<=0↔min c.y d.y<=a.y/\a.y<=max c.y d.y:=UJ;have k1:a.x=c.x->(d.x-c.x)*(a.y-c.y)=0:=fun e=>by rw [e] at h;grind
 have k2:a.x=d.x->(d.x-c.x)*(a.y-d.y)=0:=fun e=>by rw [e] at h;grind
 have k3:(a.x-c.x)*(a.x-d.x)<0->(a.y-c.y)*(a.y-d.y)<=0:=fun e=>by
  by_cases hy:0<(a.y-c.y)*(a.y-d.y)
  · have:=Int.mul_neg_of_neg_of_pos e hy;omega
  · omega
 rw [<- Bool.not_eq_true,<- Bool.not_eq_true,oP,oP];by_cases hx:c.x=d.x
 ·have hax:a.x=c.x\/¬ a.x=c.x:=Classical.em _;have hz:a.x=c.x:=by
   have:(d.y-c.y)*(a.x-c.x)=0:=by rw [hx] at h ⊢;grind
   rcases Int.mul_eq_zero.1 this with e | e
   · exact absurd ⟨hx,by omega⟩ hne
   · omega
  have hl:=Fg c d;rcases hl with ⟨e1,e2,e3⟩ | ⟨e1,e2,e3⟩<;>rw [e1,e2]
  · rw [<- Bool.not_eq_true,oP] at e3;omega
  · rw [oP] at e3;omega
 ·have k1':a.x=c.x->a.y=c.y:=fun e=>by
   rcases Int.mul_eq_zero.1 (k1 e) with f | f<;>omega
  have k2':a.x=d.x->a.y=d.y:=fun e=>by
   rcases Int.mul_eq_zero.1 (k2 e) with f | f<;>omega
  have k3':(min c.x d.x<a.x/\a.x<max c.x d.x)->min c.y d.y<=a.y/\a.y<=max c.y d.y:=fun e=>by
   refine b2.1 (k3 ?_);rcases Int.lt_or_gt_of_ne hx with f | f
   · exact Int.mul_neg_of_pos_of_neg Pe Pe
   · exact Int.mul_neg_of_neg_of_pos Pe Pe
  have hl:=Fg c d;clear h hp hs b1 b2 k1 k2 k3;rcases hl with ⟨e1,e2,e3⟩ | ⟨e1,e2,e3⟩<;>rw [e1,e2]
  · rw [<- Bool.not_eq_true,oP] at e3;omega
  · rw [oP] at e3;omega
theorem adE (c d a:Pt) (hcd:c≠d) (h:tw c d a=0):mO a a c d=if (min c.x d.x<=a.x/\a.x<=max c.x d.x/\min c.y d.y<=a.y/\a.y<=max c.y d.y) then 1 else 0:=by
 have hl:lo a a=a:=by simp [lo]
 have hh:hi a a=a:=by simp [hi]
 have hb:=Zy c d a hcd h;rw [CX,hl,hh];generalize hC:lo c d=C at *;generalize hD:hi c d=D at *;have hCD:bF D C=false:=by
  rcases Fg c d with ⟨e1,e2,e3⟩ | ⟨e1,e2,e3⟩<;>rw [<- hC,<- hD,e1,e2]
  · exact e3
  · exact sW e3
 by_cases hin:bF a C=false/\bF D a=false
 ·rw [if_pos (hb.2 hin)];have e1:hi a C=a:=by
   unfold hi;cases h':bF C a<;>simp;exact (Ns hin.1 h').symm
  have e2:lo a D=a:=by unfold lo;rw [hin.2];rfl
  rw [e1,e2];simp
 ·rw [if_neg (fun e=>hin (hb.1 e))]
  cases h1:bF a C
  ·have h2:bF D a=true:=by simpa [h1] using hin
   have e2:lo a D=D:=by unfold lo;rw [h2];rfl
   have e1:hi a C=a:=by
    unfold hi;cases h':bF C a<;>simp;exact (Ns h1 h').symm
   rw [e1,e2,if_neg (fun e=>by rw [e,Kr] at h2;cases h2),sW h2];rfl
  ·have e1:hi a C=C:=by unfold hi;rw [sW h1];rfl
   have h2:bF D a=false:=by
    rw [<- Bool.not_eq_true,oP] at hCD ⊢;rw [oP] at h1;omega
   have e2:lo a D=a:=by unfold lo;rw [h2];rfl
   rw [e1,e2,if_neg (fun e=>by rw [e,Kr] at h1;cases h1),sW h1];rfl
theorem Pt.UM {a b:Pt} (h:a≠b):¬ (b.x-a.x=0/\b.y-a.y=0):=fun e=>h (Pt.ext_iff'.2 ⟨by omega,by omega⟩)
theorem adF {a b c:Pt} (h:eu [a,b,c]=true):dK a b c=0↔tw a b c=0:=by
 unfold dK kY;rw [if_pos h];split
 · omega
 · split<;>omega
theorem adG {a b c d e f:Pt} (h1:eu [a,b,c]=true) (h2:eu [d,e,f]=true):dK a b c*dK d e f<=0↔(0<=tw a b c/\tw d e f<=0)\/(tw a b c<=0/\0<=tw d e f):=by
 unfold dK kY;rw [if_pos h1,if_pos h2];generalize tw a b c=p;generalize tw d e f=q;split<;>split<;>(try split)<;>(try split)<;>simp<;>omega
theorem PW (a b c d:Pt):lq a b c d=iQ a b c d:=by
 unfold lq iQ;by_cases hn:eu [a,b,c,d]=true
 case neg => rw [if_neg hn,if_neg hn]
 rw [if_pos hn,if_pos hn];have hn':aZ a=true/\aZ b=true/\aZ c=true/\aZ d=true:=by simpa [eu] using hn
 obtain ⟨na,nb,nc,nd⟩:=hn';have nn:∀ p q r:Pt,aZ p=true->aZ q=true->aZ r=true->eu [p,q,r]=true:=fun p q r h1 h2 h3=>by simp [eu,h1,h2,h3]
 unfold pG;by_cases hab:a=b
 ·subst hab;rw [if_pos rfl];have c0:aP a a c d=0:=by unfold aP;grind
  have c1:aP a a a c=0:=by unfold aP;grind
  have c2:aP a a a d=0:=by unfold aP;grind
  by_cases hcd:c=d
  ·subst hcd;have hon:dQ c c a=decide (a=c):=by
    unfold dQ tw;rw [nn c c a nc nc na,Bool.eq_iff_iff];simp only [avR,avQ,Bool.true_and,Pt.ext_iff']
    grind
   rw [hon];by_cases hac:a=c
   ·subst hac;have hl:lo a a=a:=by simp [lo]
    have hh:hi a a=a:=by simp [hi]
    have:mO a a a a=1:=by rw [CX,hl,hh,hl];simp
    simp [c0,this]
   · simp [hac]
  ·rw [if_neg (show ¬ (a=a/\c=d/\¬ a=c) from fun e=>hcd e.2.1),if_pos c0];have ct:aP c d c a=tw c d a:=rfl;unfold dQ;rw [nn c d a nc nd na];by_cases ht:tw c d a=0
   ·rw [if_pos (show aP a a a c=0/\aP a a a d=0/\aP c d c a=0/\aP c d c a=0 from ⟨c1,c2,ht,ht⟩),adE c d a hcd ht];simp only [ht,decide_true,Bool.true_and,avR,avQ,and_assoc]
   ·rw [if_neg (show ¬ (aP a a a c=0/\aP a a a d=0/\aP c d c a=0/\aP c d c a=0) from fun e=>ht e.2.2.1)];simp [ht]
 rw [if_neg hab];by_cases hcd:c=d
 ·subst hcd;rw [if_pos rfl];have c0:aP a b c c=0:=by unfold aP;grind
  have c1:aP c c c a=0:=by unfold aP;grind
  have c2:aP c c c b=0:=by unfold aP;grind
  rw [if_neg (show ¬ (a=b/\c=c/\¬ a=c) from fun e=>hab e.1),if_pos c0];unfold dQ;rw [nn a b c na nb nc];have ct:aP a b a c=tw a b c:=rfl;by_cases ht:tw a b c=0
  ·rw [if_pos (show aP a b a c=0/\aP a b a c=0/\aP c c c a=0/\aP c c c b=0 from ⟨ht,ht,c1,c2⟩),D8,adE a b c hab ht];simp only [ht,decide_true,Bool.true_and,avR,avQ,and_assoc]
  ·rw [if_neg (show ¬ (aP a b a c=0/\aP a b a c=0/\aP c c c a=0/\aP c c c b=0) from fun e=>ht e.1)];simp [ht]
 rw [if_neg hcd,if_neg (show ¬ (a=b/\c=d/\¬ a=c) from fun e=>hab e.1)];have e1:aP a b a c=tw a b c:=rfl;have e2:aP a b a d=tw a b d:=rfl;have e0:aP a b c d=tw a b d-tw a b c:=by unfold aP tw;grind
 have es:aP a c c d=tw c d a:=by unfold aP tw;grind
 have es2:tw c d b=tw c d a-aP a b c d:=by unfold aP tw;grind
 have et:aP a c a b=- tw a b c:=by unfold aP tw;grind
 simp only [adF (nn a b c na nb nc),adF (nn a b d na nb nd)];by_cases hz:tw a b c=0/\tw a b d=0
 ·obtain ⟨z1,z2⟩:=hz;have p1:aP c d c a=0:=by
   unfold aP;refine parallel (Pt.UM hab) ?_ ?_
   · unfold tw at z1 z2;grind
   · unfold tw at z1 z2;grind
  have p2:aP c d c b=0:=by
   unfold aP;refine parallel (Pt.UM hab) ?_ ?_
   · unfold tw at z1 z2;grind
   · unfold tw at z1 z2;grind
  rw [if_pos (show tw a b c=0/\tw a b d=0 from ⟨z1,z2⟩),if_pos (show aP a b c d=0 by rw [e0,z1,z2];rfl),if_pos (show aP a b a c=0/\aP a b a d=0/\aP c d c a=0/\aP c d c b=0 from ⟨z1,z2,p1,p2⟩)]
 ·rw [if_neg hz];simp only [adG (nn a b c na nb nc) (nn a b d na nb nd),adG (nn c d a nc nd na) (nn c d b nc nd nb),es2,et,es];generalize aP a b c d=n at *;generalize tw c d a=s at *;by_cases hn0:n=0
  ·rw [if_pos hn0,if_neg (show ¬ (aP a b a c=0/\aP a b a d=0/\aP c d c a=0/\aP c d c b=0) from fun e=>hz ⟨e.1,e.2.1⟩),if_neg];omega
  ·rw [if_neg hn0];by_cases hneg:n<0
   ·rw [if_pos hneg];have:(((0<=tw a b c/\tw a b d<=0\/tw a b c<=0/\0<=tw a b d)/\(0<=s/\s-n<=0\/s<=0/\0<=s-n))↔(0<=-s/\-s<=-n/\0<=- -tw a b c/\- -tw a b c<=-n)):=by omega
    simp only [this]
   ·rw [if_neg hneg];have:(((0<=tw a b c/\tw a b d<=0\/tw a b c<=0/\0<=tw a b d)/\(0<=s/\s-n<=0\/s<=0/\0<=s-n))↔(0<=s/\s<=n/\0<=-tw a b c/\-tw a b c<=n)):=by omega
    simp only [this]
structure Sg where
 arc:Ar
 i:Nat
 n:Nat
 a:Pt
 b:Pt
structure SV where
 a:Option Addr
 n:Nat
 c:Nat
def Fh (s:Sg×SV):List Value:=[.int .i64 s.1.arc.id,.int .i64 s.1.arc.fr,.int .i64 s.1.arc.dst,.slice s.2.a s.2.n s.2.c,.int .i64 s.1.arc.left,.int .i64 s.1.arc.right,.int .i64 s.1.i,.int .i64 s.1.n,.int .i64 s.1.a.x,.int .i64 s.1.a.y,.int .i64 s.1.b.x,.int .i64 s.1.b.y]
def vW (s:Sg) (v:Value):Value:=.agg #[.int .i64 s.arc.id,.int .i64 s.arc.fr,.int .i64 s.arc.dst,v,.int .i64 s.arc.left,.int .i64 s.arc.right,.int .i64 s.i,.int .i64 s.n,.int .i64 s.a.x,.int .i64 s.a.y,.int .i64 s.b.x,.int .i64 s.b.y]
theorem ah.xW {w:World} {g:Nat} {t:TypeId} {v0 v1 v2 v3 v4 v5 v6 v7 v8 v9 v10 v11:Value} (h:ah w g t #[v0,v1,v2,v3,v4,v5,v6,v7,v8,v9,v10,v11]) :
  g<w.heap.size/\w.cell? ⟨g,0,none⟩=some v0/\w.cell? ⟨g,1,none⟩=some v1/\w.cell? ⟨g,2,none⟩=some v2/\w.cell? ⟨g,3,none⟩=some v3/\w.cell? ⟨g,4,none⟩=some v4/\w.cell? ⟨g,5,none⟩=some v5/\w.cell? ⟨g,6,none⟩=some v6/\w.cell? ⟨g,7,none⟩=some v7/\w.cell? ⟨g,8,none⟩=some v8/\w.cell? ⟨g,9,none⟩=some v9/\w.cell? ⟨g,10,none⟩=some v10/\w.cell? ⟨g,11,none⟩=some v11 /\
  w.frozen? ⟨g,0,none⟩=false/\w.frozen? ⟨g,1,none⟩=false/\w.frozen? ⟨g,2,none⟩=false/\w.frozen? ⟨g,3,none⟩=false/\w.frozen? ⟨g,4,none⟩=false/\w.frozen? ⟨g,5,none⟩=false/\w.frozen? ⟨g,6,none⟩=false/\w.frozen? ⟨g,7,none⟩=false/\w.frozen? ⟨g,8,none⟩=false/\w.frozen? ⟨g,9,none⟩=false/\w.frozen? ⟨g,10,none⟩=false/\w.frozen? ⟨g,11,none⟩=false :=
 ⟨h.lt,h.cell 0,h.cell 1,h.cell 2,h.cell 3,h.cell 4,h.cell 5,h.cell 6,h.cell 7,h.cell 8,h.cell 9,h.cell 10,h.cell 11,h.frozen 0,h.frozen 1,h.frozen 2,h.frozen 3,h.frozen 4,h.frozen 5,h.frozen 6,h.frozen 7,h.frozen 8,h.frozen 9,h.frozen 10,h.frozen 11⟩
def CZ (a:Ar) (id:Int):Bool:=a.fr == id || a.dst == id
theorem akf (a:Ar) (A:Option Addr) (n c:Nat) (id:Int) (w:World) :
  Calls Tryz.prog 249 #[.agg #[.int .i64 a.id,.int .i64 a.fr,.int .i64 a.dst,.slice A n c,.int .i64 a.left,.int .i64 a.right],.int .i64 id] w fun e w'=>e=.returned (.bool (CZ a id))/\Below w.heap.size w w':=by
 unfold CZ
 cases h1:(a.fr == id)
 ·cases h2:(a.dst == id)
  all_goals
   go_enter Tryz.func249,Tryz.ntmps249;go_wp2;go_ret;exact ⟨rfl,bA (bR w) _⟩
 ·go_enter Tryz.func249,Tryz.ntmps249;go_wp2;go_ret;exact ⟨rfl,bA (bR w) _⟩
def zl (s t:Sg):Bool:=if t.i=s.i+1\/(s.i=0/\t.i+1=t.n/\s.arc.fr=s.arc.dst) then iQ s.a s.b t.a t.b == 1 else iQ s.a s.b t.a t.b == 0
theorem apart_spec (s t:Sg) (A A':Option Addr) (n n' c c':Nat) (w:World) (hs:s.i<=2097152) (ht:t.n<=2097152) (ht':1<=t.n) :
  Calls Tryz.prog 190 #[vW s (.slice A n c),vW t (.slice A' n' c')] w fun e w'=>e=.returned (.bool (zl s t))/\Below w.heap.size w w':=by
 have TM:∀ W,Calls Tryz.prog 248 #[aK s.a,aK s.b,aK t.a,aK t.b] W _:=fun W=>adB s.a s.b t.a t.b W;unfold aK at TM;have HM:=avE TM;clear TM;unfold vW;obtain ⟨q,hq⟩:∃ q,zl s t=q:=⟨_,rfl⟩;rw [hq];unfold zl at hq;have Hq:=avE hq;clear hq;go_enter Tryz.func190,Tryz.ntmps190;go_wp2_with fail;refine (HM.out _).mono ?_;rintro e w1 ⟨rfl,hb1⟩;have Bw:Below w.heap.size w w1:=by
  exact eF
 have X2:ah _ (w.heap.size) 202 #[.int .i64 s.arc.id,.int .i64 s.arc.fr,.int .i64 s.arc.dst,.slice A n c,.int .i64 s.arc.left,.int .i64 s.arc.right,.int .i64 s.i,.int .i64 s.n,.int .i64 s.a.x,.int .i64 s.a.y,.int .i64 s.b.x,.int .i64 s.b.y]:=ah.keep (by repeat (first | exact ah.made ars _ _ | refine ah.alloc ?_ _)) hb1;have X3:ah _ (w.heap.size+1) 202 #[.int .i64 t.arc.id,.int .i64 t.arc.fr,.int .i64 t.arc.dst,.slice A' n' c',.int .i64 t.arc.left,.int .i64 t.arc.right,.int .i64 t.i,.int .i64 t.n,.int .i64 t.a.x,.int .i64 t.a.y,.int .i64 t.b.x,.int .i64 t.b.y]:=ah.keep (by repeat (first | exact ah.made ars _ _ | refine ah.alloc ?_ _)) hb1;clear hb1;generalize iQ s.a s.b t.a t.b=m at *;obtain ⟨aG,aI,aJ,aO,X2d,X2e,X2f,X2g,X2h,X2i,X2j,X2k,aG,-,-,-,-,-,-,-,-,-,-,-,-⟩:=X2.xW;obtain ⟨bH,bU,bY,fP,pq,pz,pF,AQ,AU,AV,AX,AY,bH,-,-,-,-,-,-,-,-,-,-,-,-⟩:=X3.xW
 cases h1:((t.i:Int) == (s.i:Int)+1)
 case true =>
  have hf:=avE (show (m == 1)=q by rw [<- Hq.out,if_pos];left;have:=eq_of_beq h1;omega);go_wp2;go_ret;exact ⟨aY hf.out,Bw⟩
 case false =>
  cases h2:((s.i:Int) == 0)
  case false =>
   have hf:=avE (show (m == 0)=q by rw [<- Hq.out,if_neg];simp only [beq_eq_false_iff_ne] at h1 h2;omega);go_wp2;go_ret;exact ⟨aY hf.out,Bw⟩
  case true =>
   cases h3:((t.i:Int) == (t.n:Int)-1)
   case false =>
    have hf:=avE (show (m == 0)=q by rw [<- Hq.out,if_neg];simp only [beq_eq_false_iff_ne,beq_iff_eq] at h1 h2 h3;omega);go_wp2;go_ret;exact ⟨aY hf.out,Bw⟩
   case true =>
    cases h4:(s.arc.fr == s.arc.dst)
    case false =>
     have hf:=avE (show (m == 0)=q by rw [<- Hq.out,if_neg];simp only [beq_eq_false_iff_ne,beq_iff_eq] at h1 h2 h3 h4;omega);go_wp2;go_ret;exact ⟨aY hf.out,Bw⟩
    case true =>
     have hf:=avE (show (m == 1)=q by rw [<- Hq.out,if_pos];simp only [beq_eq_false_iff_ne,beq_iff_eq] at h1 h2 h3 h4;omega);go_wp2;go_ret;exact ⟨aY hf.out,Bw⟩
end Go.Proofs.YtialfdomhoojiaaGreat
