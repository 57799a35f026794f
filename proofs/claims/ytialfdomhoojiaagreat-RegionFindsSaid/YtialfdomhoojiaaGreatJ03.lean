import Derived.Test.YtialfdomhoojiaaGreatJ02
import Derived.Test.YtialfdomhoojiaaGreatGE
set_option linter.unusedSimpArgs false
set_option linter.unusedVariables false
set_option maxRecDepth 100000
set_option maxHeartbeats 4000000
namespace Go.Proofs.YtialfdomhoojiaaGreat
open Go.RowKit
theorem acK (a b c d:Pt) (ha:lim a) (hb:lim b) (hc:lim c) (hd:lim d):-35184372088832<=BM a b c d/\BM a b c d<=35184372088832:=by
 obtain ⟨a1,a2,a3,a4⟩:=ha;obtain ⟨b1,b2,b3,b4⟩:=hb;obtain ⟨c1,c2,c3,c4⟩:=hc;obtain ⟨d1,d2,d3,d4⟩:=hd;obtain ⟨m1,m2⟩:=Qr (b.x-a.x) (d.y-c.y) 4194304 AB AB AB AB;obtain ⟨m3,m4⟩:=Qr (b.y-a.y) (d.x-c.x) 4194304 AB AB AB AB;simp only [Int.reduceMul,Int.reduceNeg] at m1 m2 m3 m4;unfold BM;omega
def Me (a b c d:Pt):Int :=
 if a=b/\c=d/\¬ a=c then 0
 else if BM a b c d=0 then
  if BM a b a c=0/\BM a b a d=0/\BM c d c a=0/\BM c d c b=0 then Jw a b c d else 0
 else if BM a b c d<0 then
  if 0<=-BM a c c d/\-BM a c c d<=-BM a b c d/\0<=-BM a c a b/\-BM a c a b<=-BM a b c d then 1 else 0
 else if 0<=BM a c c d/\BM a c c d<=BM a b c d/\0<=BM a c a b/\BM a c a b<=BM a b c d then 1 else 0
def Fp (a b c d:Pt):Int:=if Dy [a,b,c,d]=true then Me a b c d else 0
theorem afx (a b c d:Pt) (w:World) :
  Calls Tryz.prog 248 #[BD a,BD b,BD c,BD d] w fun e w'=>e=.returned (.int .i64 (Fp a b c d))/\AP w w':=by
 have TS:∀ W,Calls Tryz.prog 273 #[BD a,BD b,BD c,BD d] W _:=fun W=>aoK a b c d W;have TC:∀ p q r s:Pt,lim p->lim q->lim r->lim s->∀ W,Calls Tryz.prog 213 #[BD p,BD q,BD r,BD s] W _:=fun p q r s hp hq hr hs W=>ac3 p q r s W hp hq hr hs;unfold BD at TS TC ⊢;have HS:=AA TS;clear TS;have HC:=AA TC;clear TC
 cases hn:Dy [a,b,c,d]
 ·have hm:Fp a b c d=0:=by rw [Fp,hn];rfl
  have Hm:=AA hm;clear hm;go_enter Tryz.func248,Tryz.ntmps248;go_wp2_with fail;refine (uV _ [a,b,c,d] _ (Dq.aAp (AO.made Aw _ _))).mono ?_;rintro e w1 ⟨rfl,hb1⟩;rw [hn];go_wp2;go_ret;refine ⟨DU Hm.out.symm,?_⟩;exact Dk
 obtain ⟨la,lb,lc,ld⟩:=anK hn;have hm:Fp a b c d=Me a b c d:=by rw [Fp,AZ hn]
 unfold Me at hm;have Hm:=AA hm;clear hm;have Ha:=AA la;have Hb:=AA lb;have Hc:=AA lc;have Hd:=AA ld;clear la lb lc ld;go_enter Tryz.func248,Tryz.ntmps248;go_wp2_with fail;refine (uV _ [a,b,c,d] _ (Dq.aAp (AO.made Aw _ _))).mono ?_;rintro e w1 ⟨rfl,hb1⟩;rw [hn];clear hn;have Bw:AP w w1:=by
  exact Dk
 have X4:AO _ (w.heap.size) 39 #[.int .i64 a.x,.int .i64 a.y]:=AO.keep (by repeat (first | exact AO.made Aw _ _ | refine AO.alloc ?_ _)) hb1;have X5:AO _ (w.heap.size+1) 39 #[.int .i64 b.x,.int .i64 b.y]:=AO.keep (by repeat (first | exact AO.made Aw _ _ | refine AO.alloc ?_ _)) hb1;have X6:AO _ (w.heap.size+1+1) 39 #[.int .i64 c.x,.int .i64 c.y]:=AO.keep (by repeat (first | exact AO.made Aw _ _ | refine AO.alloc ?_ _)) hb1;have X7:AO _ (w.heap.size+1+1+1) 39 #[.int .i64 d.x,.int .i64 d.y]:=AO.keep (by repeat (first | exact AO.made Aw _ _ | refine AO.alloc ?_ _)) hb1;clear hb1;obtain ⟨Bh,Bl,CV,-,-⟩:=X4.BN;obtain ⟨CJ,CO,CS,-,-⟩:=X5.BN;obtain ⟨EF,EG,EH,-,-⟩:=X6.BN;obtain ⟨EK,EL,FN,-,-⟩:=X7.BN;go_upto_region 3 with fail;go_cut [31] (fun s wx=>s=.bool (decide (a=b/\c=d/\¬ a=c))/\wx=w1)
 case first =>
  have e1:=U8 a b;have e2:=U8 c d;have e3:=aAt a c;by_cases h1:a=b
  ·have h1':decide (a=b)=true:=by simpa using h1
   have H1:=AA h1;clear h1;by_cases h2:c=d
   ·have h2':decide (c=d)=true:=by simpa using h2
    have H2:=AA h2;clear h2;go_wp2;go_meet
    case rel => exact ⟨by simp [H1.out,H2.out],rfl⟩
   ·have h2':decide (c=d)=false:=by simpa using h2
    have H2:=AA h2;clear h2;go_wp2;go_meet
    case rel => exact ⟨by simp [H2.out],rfl⟩
  ·have h1':decide (a=b)=false:=by simpa using h1
   have H1:=AA h1;clear h1;go_wp2;go_meet
   case rel => exact ⟨by simp [H1.out],rfl⟩
 case rest =>
 obtain ⟨rfl,rfl⟩:=hcut;by_cases hz:a=b/\c=d/\¬ a=c
 ·have hm:=Hm.out;rw [AZ hz] at hm;replace Hm:=AA hm;clear hm;have hz':decide (a=b/\c=d/\¬ a=c)=true:=JE hz;rw [hz'];clear hz hz';go_wp2;go_ret;exact ⟨DU Hm.out.symm,Bw⟩
 have hm:=Hm.out;rw [AX hz] at hm;replace Hm:=AA hm;clear hm;have hz':decide (a=b/\c=d/\¬ a=c)=false:=G8 hz;rw [hz'];clear hz hz';go_wp2_with fail;refine (HC.out a b c d Ha.out Hb.out Hc.out Hd.out _).mono ?_;rintro e w2 ⟨rfl,hb2⟩;replace Bw:=bT Bw hb2;replace X4:=X4.keep hb2;replace X5:=X5.keep hb2;replace X6:=X6.keep hb2;replace X7:=X7.keep hb2;clear hb2
 try clear Bh Bl CV
 try clear CJ CO CS
 try clear EF EG EH
 try clear EK EL FN
 try clear Bh Bl CV
 obtain ⟨Bh,Bl,CV,-,-⟩:=X4.BN
 try clear CJ CO CS
 obtain ⟨CJ,CO,CS,-,-⟩:=X5.BN
 try clear EF EG EH
 obtain ⟨EF,EG,EH,-,-⟩:=X6.BN
 try clear EK EL FN
 obtain ⟨EK,EL,FN,-,-⟩:=X7.BN;obtain ⟨nb1,nb2⟩:=acK a b c d Ha.out Hb.out Hc.out Hd.out;generalize BM a b c d=n at *;by_cases hn0:n=0
 ·subst hn0;have hm:=Hm.out;rw [AZ rfl] at hm;replace Hm:=AA hm;clear hm;go_wp2_with fail;refine (HC.out a b a c Ha.out Hb.out Ha.out Hc.out _).mono ?_;rintro e w3 ⟨rfl,hb3⟩;replace Bw:=bT Bw hb3;replace X4:=X4.keep hb3;replace X5:=X5.keep hb3;replace X6:=X6.keep hb3;replace X7:=X7.keep hb3;clear hb3
  try clear Bh Bl CV
  try clear CJ CO CS
  try clear EF EG EH
  try clear EK EL FN
  try clear Bh Bl CV
  obtain ⟨Bh,Bl,CV,-,-⟩:=X4.BN
  try clear CJ CO CS
  obtain ⟨CJ,CO,CS,-,-⟩:=X5.BN
  try clear EF EG EH
  obtain ⟨EF,EG,EH,-,-⟩:=X6.BN
  try clear EK EL FN
  obtain ⟨EK,EL,FN,-,-⟩:=X7.BN;generalize BM a b a c=c1 at *;by_cases hc1:c1=0
  case neg =>
   have hm:=Hm.out;rw [AX (fun h=>hc1 h.1)] at hm;replace Hm:=AA hm;clear hm;have hc':(c1 != 0)=true:=by simpa using hc1
   clear hc1;go_wp2;go_ret;exact ⟨DU Hm.out.symm,Bw⟩
  case pos =>
  subst hc1;go_wp2_with fail;refine (HC.out a b a d Ha.out Hb.out Ha.out Hd.out _).mono ?_;rintro e w4 ⟨rfl,hb4⟩;replace Bw:=bT Bw hb4;replace X4:=X4.keep hb4;replace X5:=X5.keep hb4;replace X6:=X6.keep hb4;replace X7:=X7.keep hb4;clear hb4
  try clear Bh Bl CV
  try clear CJ CO CS
  try clear EF EG EH
  try clear EK EL FN
  try clear Bh Bl CV
  obtain ⟨Bh,Bl,CV,-,-⟩:=X4.BN
  try clear CJ CO CS
  obtain ⟨CJ,CO,CS,-,-⟩:=X5.BN
  try clear EF EG EH
  obtain ⟨EF,EG,EH,-,-⟩:=X6.BN
  try clear EK EL FN
  obtain ⟨EK,EL,FN,-,-⟩:=X7.BN;generalize BM a b a d=c2 at *;by_cases hc2:c2=0
  case neg =>
   have hm:=Hm.out;rw [AX (fun h=>hc2 h.2.1)] at hm;replace Hm:=AA hm;clear hm;have hc':(c2 != 0)=true:=by simpa using hc2
   clear hc2;go_wp2;go_ret;exact ⟨DU Hm.out.symm,Bw⟩
  case pos =>
  subst hc2;go_wp2_with fail;refine (HC.out c d c a Hc.out Hd.out Hc.out Ha.out _).mono ?_;rintro e w5 ⟨rfl,hb5⟩;replace Bw:=bT Bw hb5;replace X4:=X4.keep hb5;replace X5:=X5.keep hb5;replace X6:=X6.keep hb5;replace X7:=X7.keep hb5;clear hb5
  try clear Bh Bl CV
  try clear CJ CO CS
  try clear EF EG EH
  try clear EK EL FN
  try clear Bh Bl CV
  obtain ⟨Bh,Bl,CV,-,-⟩:=X4.BN
  try clear CJ CO CS
  obtain ⟨CJ,CO,CS,-,-⟩:=X5.BN
  try clear EF EG EH
  obtain ⟨EF,EG,EH,-,-⟩:=X6.BN
  try clear EK EL FN
  obtain ⟨EK,EL,FN,-,-⟩:=X7.BN;generalize BM c d c a=c3 at *;by_cases hc3:c3=0
  case neg =>
   have hm:=Hm.out;rw [AX (fun h=>hc3 h.2.2.1)] at hm;replace Hm:=AA hm;clear hm;have hc':(c3 != 0)=true:=by simpa using hc3
   clear hc3;go_wp2;go_ret;exact ⟨DU Hm.out.symm,Bw⟩
  case pos =>
  subst hc3;go_wp2_with fail;refine (HC.out c d c b Hc.out Hd.out Hc.out Hb.out _).mono ?_;rintro e w6 ⟨rfl,hb6⟩;replace Bw:=bT Bw hb6;replace X4:=X4.keep hb6;replace X5:=X5.keep hb6;replace X6:=X6.keep hb6;replace X7:=X7.keep hb6;clear hb6
  try clear Bh Bl CV
  try clear CJ CO CS
  try clear EF EG EH
  try clear EK EL FN
  try clear Bh Bl CV
  obtain ⟨Bh,Bl,CV,-,-⟩:=X4.BN
  try clear CJ CO CS
  obtain ⟨CJ,CO,CS,-,-⟩:=X5.BN
  try clear EF EG EH
  obtain ⟨EF,EG,EH,-,-⟩:=X6.BN
  try clear EK EL FN
  obtain ⟨EK,EL,FN,-,-⟩:=X7.BN;generalize BM c d c b=c4 at *;by_cases hc4:c4=0
  case neg =>
   have hm:=Hm.out;rw [AX (fun h=>hc4 h.2.2.2)] at hm;replace Hm:=AA hm;clear hm;have hc':(c4 != 0)=true:=by simpa using hc4
   clear hc4;go_wp2;go_ret;exact ⟨DU Hm.out.symm,Bw⟩
  case pos =>
  subst hc4;have hm:=Hm.out;simp only [and_self,if_true] at hm;replace Hm:=AA hm;clear hm;go_wp2_with fail;refine (HS.out _).mono ?_;rintro e w8 ⟨rfl,hb8⟩;go_wp2;go_ret;exact ⟨DU Hm.out.symm,bT Bw hb8⟩
 have azF:(n == 0)=false:=by simpa using hn0
 have hm:=Hm.out;rw [AX hn0] at hm;replace Hm:=AA hm;clear hm;obtain ⟨sb1,sb2⟩:=acK a c c d Ha.out Hc.out Hc.out Hd.out;obtain ⟨tb1,tb2⟩:=acK a c a b Ha.out Hc.out Ha.out Hb.out;have Hn0:=AA hn0;clear hn0;go_upto_region 10 with fail;go_cut [10,11] (fun s t wx=>s=.int .i64 (BM a c c d)/\t=.int .i64 (BM a c a b)/\AP w wx)
 case first =>
  go_region_held3 (fun W=>W.cell? ⟨w.heap.size,0,none⟩=some (.int .i64 a.x)/\W.cell? ⟨w.heap.size,1,none⟩=some (.int .i64 a.y)/\W.cell? ⟨w.heap.size+1,0,none⟩=some (.int .i64 b.x)/\W.cell? ⟨w.heap.size+1,1,none⟩=some (.int .i64 b.y)/\W.cell? ⟨w.heap.size+1+1,0,none⟩=some (.int .i64 c.x)/\W.cell? ⟨w.heap.size+1+1,1,none⟩=some (.int .i64 c.y)/\W.cell? ⟨w.heap.size+1+1+1,0,none⟩=some (.int .i64 d.x)/\W.cell? ⟨w.heap.size+1+1+1,1,none⟩=some (.int .i64 d.y)) ((repeat' apply And.intro)<;>(repeat (refine Dv KP ?_))<;>(first | assumption | simp [*]))
   (first | (go_at_call 213;refine (HC.out _ _ _ _ (by first | exact Ha.out | exact Hc.out) (by first | exact Hc.out) (by first | exact Hc.out | exact Ha.out) (by first | exact Hd.out | exact Hb.out) _).mono ?_;rintro e w' ⟨rfl,hb'⟩))
  go_wp2;go_meet
  case rel =>
  refine ⟨rfl,rfl,?_⟩;exact Dk
 case rest =>
 clear X4 X5 X6 X7 Bw;clear Bh Bl CV;clear CJ CO CS;clear EF EG EH;clear EK EL FN;obtain ⟨rfl,rfl,Bw⟩:=hcut;generalize BM a c c d=s at *;generalize BM a c a b=t at *;by_cases hneg:n<0
 ·have hm:=Hm.out;rw [AZ hneg] at hm;replace Hm:=AA hm;clear hm;go_wp2_with fail
  all_goals (first | (go_ret;refine ⟨DU ?_,Bw⟩;rw [Hm.out];first | rw [AZ AB] | rw [AX AB]) | (exfalso;omega))
 ·have hm:=Hm.out;rw [AX hneg] at hm;replace Hm:=AA hm;clear hm;go_wp2_with fail
  all_goals (first | (go_ret;refine ⟨DU ?_,Bw⟩;rw [Hm.out];first | rw [AZ AB] | rw [AX AB]) | (exfalso;omega))
theorem afy (a:Int):0<=a*a:=by
 rcases Zj 0 a with h | h
 · exact KQ h h
 · exact Int.mul_nonneg_of_nonpos_of_nonpos h h
theorem anx {a b:Int}:a*b<=0↔(0<=a/\b<=0)\/(a<=0/\0<=b):=by
 constructor
 ·intro h;by_cases ha:a=0
  · omega
  by_cases hp:0<a
  ·left;refine ⟨AB,?_⟩;by_cases hb:0<b
   · have:=JO hp hb;omega
   · omega
  ·right;refine ⟨AB,?_⟩;by_cases hb:b<0
   · have:=rW (show a<0 by omega) hb;omega
   · omega
 ·rintro (⟨ha,hb⟩ | ⟨ha,hb⟩)
  · exact aAA ha hb
  · exact aAB ha hb
theorem aAg {p a b:Int}:(p-a)*(p-b)<=0↔min a b<=p/\p<=max a b:=by
 rw [anx];omega
theorem anz {ux uy vx vy:Int} (hc:ux*vy=uy*vx):ux*vx+uy*vy<=0↔ux*vx<=0/\uy*vy<=0:=by
 constructor
 ·intro h;have hp:0<=(ux*vx)*(uy*vy):=by
   have e:(ux*vx)*(uy*vy)=(ux*vy)*(ux*vy):=by grind
   rw [e];exact afy _
  by_cases h1:0<ux*vx
  · have:=Wj h1 (show uy*vy<0 by omega);omega
  ·by_cases h2:0<uy*vy
   · have:=VI (show ux*vx<0 by omega) h2;omega
   · omega
 · omega
theorem parallel {ux uy vx vy wx wy:Int} (h:¬ (ux=0/\uy=0)) (h1:ux*vy-uy*vx=0) (h2:ux*wy-uy*wx=0):vx*wy-vy*wx=0:=by
 have e1:ux*(vx*wy-vy*wx)=0:=by grind
 have e2:uy*(vx*wy-vy*wx)=0:=by grind
 rcases Wn.1 e1 with h3 | h3
 ·rcases Wn.1 e2 with h4 | h4
  · exact absurd ⟨h3,h4⟩ h
  · exact h4
 · exact h3
theorem acL (a b p:Pt):EO a b p=LZ a b p:=by
 unfold EO LZ
 cases Dy [a,b,p]
 · rfl
 have hc:BM a b a p=tw a b p:=rfl;rw [hc];by_cases h:tw a b p=0
 ·simp only [h,decide_true,lH,Bool.and_assoc];rw [LX];simp only [Em,E8];unfold Y9;rw [anz (by unfold tw at h;grind),aAg,aAg];omega
 · simp [h]
theorem MH (a b:Pt):CB a b=true↔a.x<b.x\/(a.x=b.x/\a.y<b.y):=by simp [CB]
theorem iY (a:Pt):CB a a=false:=by rw [<- Iz,MH];omega
theorem PO {a b:Pt} (h:CB a b=true):CB b a=false:=by
 rw [<- Iz,MH];rw [MH] at h;omega
theorem nU {a b:Pt} (h:CB a b=false) (h':CB b a=false):a=b:=by
 rw [<- Iz,MH] at h h';rw [Pt.ext_iff'];omega
def lo (a b:Pt):Pt:=if CB b a then b else a
def hi (a b:Pt):Pt:=if CB b a then a else b
theorem acM (a b:Pt):lo a b=lo b a:=by
 unfold lo
 cases h:CB b a<;>cases h':CB a b<;>simp
 · exact nU h' h
 · exact absurd (PO h) (by simp [h'])
theorem aAh (a b:Pt):hi a b=hi b a:=by
 unfold hi
 cases h:CB b a<;>cases h':CB a b<;>simp
 · exact (nU h' h).symm
 · exact absurd (PO h) (by simp [h'])
theorem Ve (a b c d:Pt):Jw a b c d=if hi (lo a b) (lo c d)=lo (hi a b) (hi c d) then 1 else if CB (hi (lo a b) (lo c d)) (lo (hi a b) (hi c d)) then 2 else 0:=by
 have e1:∀ p q:Pt,(if CB p q then q else p)=hi p q:=fun p q=>by
  unfold hi;cases h:CB q p<;>cases h':CB p q<;>simp
  · exact nU h' h
  · exact absurd (PO h) (by simp [h'])
 have e2:∀ p q:Pt,(if CB q p then q else p)=lo p q:=fun p q=>rfl;have e3:∀ p q:Pt,(if CB q p then p else q)=hi p q:=fun p q=>rfl;unfold Jw;simp only [e2,e3,e1];rw [aAh (lo c d) (lo a b)]
theorem XF (a b c d:Pt):Jw a b c d=Jw c d a b:=by
 rw [Ve a b c d,aAh (lo a b) (lo c d),acM (hi a b) (hi c d),<- Ve]
theorem nV (a b c d:Pt):Jw a b c d=Jw b a c d:=by
 rw [Ve,Ve,acM a b,aAh a b]
theorem YE (c d:Pt):(lo c d=c/\hi c d=d/\CB d c=false)\/(lo c d=d/\hi c d=c/\CB d c=true):=by
 unfold lo hi
 cases h:CB d c<;>simp
theorem acN (c d a:Pt) (hcd:c≠d) (h:tw c d a=0) :
  (min c.x d.x<=a.x/\a.x<=max c.x d.x/\min c.y d.y<=a.y/\a.y<=max c.y d.y)↔(CB a (lo c d)=false/\CB (hi c d) a=false):=by
 have hne:¬ (c.x=d.x/\c.y=d.y):=fun e=>hcd (Pt.ext_iff'.2 e);unfold tw at h;have hp:(a.x-c.x)*(a.y-d.y)=(a.y-c.y)*(a.x-d.x):=by grind
 have hs:0<=((a.x-c.x)*(a.x-d.x))*((a.y-c.y)*(a.y-d.y)):=by
  have e:((a.x-c.x)*(a.x-d.x))*((a.y-c.y)*(a.y-d.y))=((a.x-c.x)*(a.y-d.y))*((a.x-c.x)*(a.y-d.y)):=by grind
  rw [e];exact afy _
 have b1:(a.x-c.x)*(a.x-d.x)<=0↔min c.x d.x<=a.x/\a.x<=max c.x d.x:=aAg;have b2:(a.y-c.y)*(a.y-d.y)<=0↔min c.y d.y<=a.y/\a.y<=max c.y d.y:=aAg;have k1:a.x=c.x->(d.x-c.x)*(a.y-c.y)=0:=fun e=>by rw [e] at h;grind
 have k2:a.x=d.x->(d.x-c.x)*(a.y-d.y)=0:=fun e=>by rw [e] at h;grind
 have k3:(a.x-c.x)*(a.x-d.x)<0->(a.y-c.y)*(a.y-d.y)<=0:=fun e=>by
  by_cases hy:0<(a.y-c.y)*(a.y-d.y)
  · have:=VI e hy;omega
  · omega
 rw [<- Iz,<- Iz,MH,MH];by_cases hx:c.x=d.x
 ·have hax:a.x=c.x\/¬ a.x=c.x:=Classical.em _;have hz:a.x=c.x:=by
   have:(d.y-c.y)*(a.x-c.x)=0:=by rw [hx] at h ⊢;grind
   rcases Wn.1 this with e | e
   · exact absurd ⟨hx,AB⟩ hne
   · omega
  have hl:=YE c d;rcases hl with ⟨e1,e2,e3⟩ | ⟨e1,e2,e3⟩<;>rw [e1,e2]
  · rw [<- Iz,MH] at e3;omega
  · rw [MH] at e3;omega
 ·have k1':a.x=c.x->a.y=c.y:=fun e=>by
   rcases Wn.1 (k1 e) with f | f<;>omega
  have k2':a.x=d.x->a.y=d.y:=fun e=>by
   rcases Wn.1 (k2 e) with f | f<;>omega
  have k3':(min c.x d.x<a.x/\a.x<max c.x d.x)->min c.y d.y<=a.y/\a.y<=max c.y d.y:=fun e=>by
   refine b2.1 (k3 ?_);rcases Int.lt_or_gt_of_ne hx with f | f
   · exact Wj AB AB
   · exact VI AB AB
  have hl:=YE c d;clear h hp hs b1 b2 k1 k2 k3;rcases hl with ⟨e1,e2,e3⟩ | ⟨e1,e2,e3⟩<;>rw [e1,e2]
  · rw [<- Iz,MH] at e3;omega
  · rw [MH] at e3;omega
theorem afz (c d a:Pt) (hcd:c≠d) (h:tw c d a=0):Jw a a c d=if (min c.x d.x<=a.x/\a.x<=max c.x d.x/\min c.y d.y<=a.y/\a.y<=max c.y d.y) then 1 else 0:=by
 have hl:lo a a=a:=by simp [lo]
 have hh:hi a a=a:=by simp [hi]
 have hb:=acN c d a hcd h;rw [Ve,hl,hh];generalize hC:lo c d=C at *;generalize hD:hi c d=D at *;have hCD:CB D C=false:=by
  rcases YE c d with ⟨e1,e2,e3⟩ | ⟨e1,e2,e3⟩<;>rw [<- hC,<- hD,e1,e2]
  · exact e3
  · exact PO e3
 by_cases hin:CB a C=false/\CB D a=false
 ·rw [AZ (hb.2 hin)];have e1:hi a C=a:=by
   unfold hi;cases h':CB C a<;>simp;exact (nU hin.1 h').symm
  have e2:lo a D=a:=by unfold lo;rw [hin.2];rfl
  rw [e1,e2];simp
 ·rw [AX (fun e=>hin (hb.1 e))]
  cases h1:CB a C
  ·have h2:CB D a=true:=by simpa [h1] using hin
   have e2:lo a D=D:=by unfold lo;rw [h2];rfl
   have e1:hi a C=a:=by
    unfold hi;cases h':CB C a<;>simp;exact (nU h1 h').symm
   rw [e1,e2,AX (fun e=>by rw [e,iY] at h2;cases h2),PO h2];rfl
  ·have e1:hi a C=C:=by unfold hi;rw [PO h1];rfl
   have h2:CB D a=false:=by
    rw [<- Iz,MH] at hCD ⊢;rw [MH] at h1;omega
   have e2:lo a D=a:=by unfold lo;rw [h2];rfl
   rw [e1,e2,AX (fun e=>by rw [e,iY] at h1;cases h1),PO h1];rfl
theorem Pt.aAi {a b:Pt} (h:a≠b):¬ (b.x-a.x=0/\b.y-a.y=0):=fun e=>h (Pt.ext_iff'.2 ⟨AB,AB⟩)
theorem ag0 {a b c:Pt} (h:Dy [a,b,c]=true):FH a b c=0↔tw a b c=0:=by
 unfold FH YH;rw [AZ h];split
 · omega
 · split<;>omega
theorem ag1 {a b c d e f:Pt} (h1:Dy [a,b,c]=true) (h2:Dy [d,e,f]=true):FH a b c*FH d e f<=0↔(0<=tw a b c/\tw d e f<=0)\/(tw a b c<=0/\0<=tw d e f):=by
 unfold FH YH;rw [AZ h1,AZ h2];generalize tw a b c=p;generalize tw d e f=q;split<;>split<;>(try split)<;>(try split)<;>simp<;>omega
theorem uF (a b c d:Pt):JJ a b c d=Fp a b c d:=by
 unfold JJ Fp;by_cases hn:Dy [a,b,c,d]=true
 case neg => rw [AX hn,AX hn]
 rw [AZ hn,AZ hn];have hn':Bg a=true/\Bg b=true/\Bg c=true/\Bg d=true:=by simpa [Dy] using hn
 obtain ⟨na,nb,nc,nd⟩:=hn';have nn:∀ p q r:Pt,Bg p=true->Bg q=true->Bg r=true->Dy [p,q,r]=true:=fun p q r h1 h2 h3=>by simp [Dy,h1,h2,h3]
 unfold Me;by_cases hab:a=b
 ·subst hab;rw [AZ rfl];have c0:BM a a c d=0:=by unfold BM;grind
  have c1:BM a a a c=0:=by unfold BM;grind
  have c2:BM a a a d=0:=by unfold BM;grind
  by_cases hcd:c=d
  ·subst hcd;have hon:EO c c a=decide (a=c):=by
    unfold EO tw;rw [nn c c a nc nc na,LX];simp only [Em,E8,lH,Pt.ext_iff']
    grind
   rw [hon];by_cases hac:a=c
   ·subst hac;have hl:lo a a=a:=by simp [lo]
    have hh:hi a a=a:=by simp [hi]
    have:Jw a a a a=1:=by rw [Ve,hl,hh,hl];simp
    simp [c0,this]
   · simp [hac]
  ·rw [AX (show ¬ (a=a/\c=d/\¬ a=c) from fun e=>hcd e.2.1),AZ c0];have ct:BM c d c a=tw c d a:=rfl;unfold EO;rw [nn c d a nc nd na];by_cases ht:tw c d a=0
   ·rw [AZ (show BM a a a c=0/\BM a a a d=0/\BM c d c a=0/\BM c d c a=0 from ⟨c1,c2,ht,ht⟩),afz c d a hcd ht];simp only [ht,decide_true,lH,Em,E8,and_assoc]
   ·rw [AX (show ¬ (BM a a a c=0/\BM a a a d=0/\BM c d c a=0/\BM c d c a=0) from fun e=>ht e.2.2.1)];simp [ht]
 rw [AX hab];by_cases hcd:c=d
 ·subst hcd;rw [AZ rfl];have c0:BM a b c c=0:=by unfold BM;grind
  have c1:BM c c c a=0:=by unfold BM;grind
  have c2:BM c c c b=0:=by unfold BM;grind
  rw [AX (show ¬ (a=b/\c=c/\¬ a=c) from fun e=>hab e.1),AZ c0];unfold EO;rw [nn a b c na nb nc];have ct:BM a b a c=tw a b c:=rfl;by_cases ht:tw a b c=0
  ·rw [AZ (show BM a b a c=0/\BM a b a c=0/\BM c c c a=0/\BM c c c b=0 from ⟨ht,ht,c1,c2⟩),XF,afz a b c hab ht];simp only [ht,decide_true,lH,Em,E8,and_assoc]
  ·rw [AX (show ¬ (BM a b a c=0/\BM a b a c=0/\BM c c c a=0/\BM c c c b=0) from fun e=>ht e.1)];simp [ht]
 rw [AX hcd,AX (show ¬ (a=b/\c=d/\¬ a=c) from fun e=>hab e.1)];have e1:BM a b a c=tw a b c:=rfl;have e2:BM a b a d=tw a b d:=rfl;have e0:BM a b c d=tw a b d-tw a b c:=by unfold BM tw;grind
 have es:BM a c c d=tw c d a:=by unfold BM tw;grind
 have es2:tw c d b=tw c d a-BM a b c d:=by unfold BM tw;grind
 have et:BM a c a b=- tw a b c:=by unfold BM tw;grind
 simp only [ag0 (nn a b c na nb nc),ag0 (nn a b d na nb nd)];by_cases hz:tw a b c=0/\tw a b d=0
 ·obtain ⟨z1,z2⟩:=hz;have p1:BM c d c a=0:=by
   unfold BM;refine parallel (Pt.aAi hab) ?_ ?_
   · unfold tw at z1 z2;grind
   · unfold tw at z1 z2;grind
  have p2:BM c d c b=0:=by
   unfold BM;refine parallel (Pt.aAi hab) ?_ ?_
   · unfold tw at z1 z2;grind
   · unfold tw at z1 z2;grind
  rw [AZ (show tw a b c=0/\tw a b d=0 from ⟨z1,z2⟩),AZ (show BM a b c d=0 by rw [e0,z1,z2];rfl),AZ (show BM a b a c=0/\BM a b a d=0/\BM c d c a=0/\BM c d c b=0 from ⟨z1,z2,p1,p2⟩)]
 ·rw [AX hz];simp only [ag1 (nn a b c na nb nc) (nn a b d na nb nd),ag1 (nn c d a nc nd na) (nn c d b nc nd nb),es2,et,es];generalize BM a b c d=n at *;generalize tw c d a=s at *;by_cases hn0:n=0
  ·rw [AZ hn0,AX (show ¬ (BM a b a c=0/\BM a b a d=0/\BM c d c a=0/\BM c d c b=0) from fun e=>hz ⟨e.1,e.2.1⟩),AX];omega
  ·rw [AX hn0];by_cases hneg:n<0
   ·rw [AZ hneg];have:(((0<=tw a b c/\tw a b d<=0\/tw a b c<=0/\0<=tw a b d)/\(0<=s/\s-n<=0\/s<=0/\0<=s-n))↔(0<=-s/\-s<=-n/\0<=- -tw a b c/\- -tw a b c<=-n)):=by omega
    simp only [this]
   ·rw [AX hneg];have:(((0<=tw a b c/\tw a b d<=0\/tw a b c<=0/\0<=tw a b d)/\(0<=s/\s-n<=0\/s<=0/\0<=s-n))↔(0<=s/\s<=n/\0<=-tw a b c/\-tw a b c<=n)):=by omega
    simp only [this]
structure Sg where
 arc:Ar
 i:Nat
 n:Nat
 a:Pt
 b:Pt
structure SV where
 a:Option Addr
 n:Nat
 c:Nat
def Yi (s:Sg×SV):List Value:=[.int .i64 s.1.arc.id,.int .i64 s.1.arc.fr,.int .i64 s.1.arc.dst,.slice s.2.a s.2.n s.2.c,.int .i64 s.1.arc.left,.int .i64 s.1.arc.right,.int .i64 s.1.i,.int .i64 s.1.n,.int .i64 s.1.a.x,.int .i64 s.1.a.y,.int .i64 s.1.b.x,.int .i64 s.1.b.y]
def Rk (s:Sg) (v:Value):Value:=.agg #[.int .i64 s.arc.id,.int .i64 s.arc.fr,.int .i64 s.arc.dst,v,.int .i64 s.arc.left,.int .i64 s.arc.right,.int .i64 s.i,.int .i64 s.n,.int .i64 s.a.x,.int .i64 s.a.y,.int .i64 s.b.x,.int .i64 s.b.y]
theorem AO.S9 {w:World} {g:Nat} {t:TypeId} {v0 v1 v2 v3 v4 v5 v6 v7 v8 v9 v10 v11:Value} (h:AO w g t #[v0,v1,v2,v3,v4,v5,v6,v7,v8,v9,v10,v11]) :
  g<w.heap.size/\w.cell? ⟨g,0,none⟩=some v0/\w.cell? ⟨g,1,none⟩=some v1/\w.cell? ⟨g,2,none⟩=some v2/\w.cell? ⟨g,3,none⟩=some v3/\w.cell? ⟨g,4,none⟩=some v4/\w.cell? ⟨g,5,none⟩=some v5/\w.cell? ⟨g,6,none⟩=some v6/\w.cell? ⟨g,7,none⟩=some v7/\w.cell? ⟨g,8,none⟩=some v8/\w.cell? ⟨g,9,none⟩=some v9/\w.cell? ⟨g,10,none⟩=some v10/\w.cell? ⟨g,11,none⟩=some v11 /\
  w.frozen? ⟨g,0,none⟩=false/\w.frozen? ⟨g,1,none⟩=false/\w.frozen? ⟨g,2,none⟩=false/\w.frozen? ⟨g,3,none⟩=false/\w.frozen? ⟨g,4,none⟩=false/\w.frozen? ⟨g,5,none⟩=false/\w.frozen? ⟨g,6,none⟩=false/\w.frozen? ⟨g,7,none⟩=false/\w.frozen? ⟨g,8,none⟩=false/\w.frozen? ⟨g,9,none⟩=false/\w.frozen? ⟨g,10,none⟩=false/\w.frozen? ⟨g,11,none⟩=false :=
 ⟨h.lt,h.cell 0,h.cell 1,h.cell 2,h.cell 3,h.cell 4,h.cell 5,h.cell 6,h.cell 7,h.cell 8,h.cell 9,h.cell 10,h.cell 11,h.frozen 0,h.frozen 1,h.frozen 2,h.frozen 3,h.frozen 4,h.frozen 5,h.frozen 6,h.frozen 7,h.frozen 8,h.frozen 9,h.frozen 10,h.frozen 11⟩
def Vf (a:Ar) (id:Int):Bool:=a.fr == id || a.dst == id
theorem ao0 (a:Ar) (A:Option Addr) (n c:Nat) (id:Int) (w:World) :
  Calls Tryz.prog 249 #[.agg #[.int .i64 a.id,.int .i64 a.fr,.int .i64 a.dst,.slice A n c,.int .i64 a.left,.int .i64 a.right],.int .i64 id] w fun e w'=>e=.returned (.bool (Vf a id))/\AP w w':=by
 unfold Vf
 cases h1:(a.fr == id)
 ·cases h2:(a.dst == id)
  all_goals
   go_enter Tryz.func249,Tryz.ntmps249;go_wp2;go_ret;exact ⟨rfl,bA (bR w) _⟩
 ·go_enter Tryz.func249,Tryz.ntmps249;go_wp2;go_ret;exact ⟨rfl,bA (bR w) _⟩
def UD (s t:Sg):Bool:=if t.i=s.i+1\/(s.i=0/\t.i+1=t.n/\s.arc.fr=s.arc.dst) then Fp s.a s.b t.a t.b == 1 else Fp s.a s.b t.a t.b == 0
theorem apart_spec (s t:Sg) (A A':Option Addr) (n n' c c':Nat) (w:World) (hs:s.i<=2097152) (ht:t.n<=2097152) (ht':1<=t.n) :
  Calls Tryz.prog 190 #[Rk s (.slice A n c),Rk t (.slice A' n' c')] w fun e w'=>e=.returned (.bool (UD s t))/\AP w w':=by
 have TM:∀ W,Calls Tryz.prog 248 #[BD s.a,BD s.b,BD t.a,BD t.b] W _:=fun W=>afx s.a s.b t.a t.b W;unfold BD at TM;have HM:=AA TM;clear TM;unfold Rk;obtain ⟨q,hq⟩:=BL (UD s t);rw [hq];unfold UD at hq;have Hq:=AA hq;clear hq;go_enter Tryz.func190,Tryz.ntmps190;go_wp2_with fail;refine (HM.out _).mono ?_;rintro e w1 ⟨rfl,hb1⟩;have Bw:AP w w1:=by
  exact Dk
 have X2:AO _ (w.heap.size) 202 #[.int .i64 s.arc.id,.int .i64 s.arc.fr,.int .i64 s.arc.dst,.slice A n c,.int .i64 s.arc.left,.int .i64 s.arc.right,.int .i64 s.i,.int .i64 s.n,.int .i64 s.a.x,.int .i64 s.a.y,.int .i64 s.b.x,.int .i64 s.b.y]:=AO.keep (by repeat (first | exact AO.made Aw _ _ | refine AO.alloc ?_ _)) hb1;have X3:AO _ (w.heap.size+1) 202 #[.int .i64 t.arc.id,.int .i64 t.arc.fr,.int .i64 t.arc.dst,.slice A' n' c',.int .i64 t.arc.left,.int .i64 t.arc.right,.int .i64 t.i,.int .i64 t.n,.int .i64 t.a.x,.int .i64 t.a.y,.int .i64 t.b.x,.int .i64 t.b.y]:=AO.keep (by repeat (first | exact AO.made Aw _ _ | refine AO.alloc ?_ _)) hb1;clear hb1;generalize Fp s.a s.b t.a t.b=m at *;obtain ⟨BQ,BR,BX,CZ,uG,X2e,X2f,X2g,X2h,X2i,X2j,X2k,BQ,-,-,-,-,-,-,-,-,-,-,-,-⟩:=X2.S9;obtain ⟨E5,Eo,F9,LC,KZ,PK,PN,UW,UY,UZ,Ua,Ub,E5,-,-,-,-,-,-,-,-,-,-,-,-⟩:=X3.S9
 cases h1:((t.i:Int) == (s.i:Int)+1)
 case true =>
  have hf:=AA (show (m == 1)=q by rw [<- Hq.out,AZ];left;have:=eq_of_beq h1;omega);go_wp2;go_ret;exact ⟨C9 hf.out,Bw⟩
 case false =>
  cases h2:((s.i:Int) == 0)
  case false =>
   have hf:=AA (show (m == 0)=q by rw [<- Hq.out,AX];simp only [beq_eq_false_iff_ne] at h1 h2;omega);go_wp2;go_ret;exact ⟨C9 hf.out,Bw⟩
  case true =>
   cases h3:((t.i:Int) == (t.n:Int)-1)
   case false =>
    have hf:=AA (show (m == 0)=q by rw [<- Hq.out,AX];simp only [beq_eq_false_iff_ne,beq_iff_eq] at h1 h2 h3;omega);go_wp2;go_ret;exact ⟨C9 hf.out,Bw⟩
   case true =>
    cases h4:(s.arc.fr == s.arc.dst)
    case false =>
     have hf:=AA (show (m == 0)=q by rw [<- Hq.out,AX];simp only [beq_eq_false_iff_ne,beq_iff_eq] at h1 h2 h3 h4;omega);go_wp2;go_ret;exact ⟨C9 hf.out,Bw⟩
    case true =>
     have hf:=AA (show (m == 1)=q by rw [<- Hq.out,AZ];simp only [beq_eq_false_iff_ne,beq_iff_eq] at h1 h2 h3 h4;omega);go_wp2;go_ret;exact ⟨C9 hf.out,Bw⟩
def BJ (x:SV):Value:=.slice x.a x.n x.c
def SY (n:Nat):DataW Unit:=.lit (.int .i64 (n:Int))
def Yj (x:SV):DataW Unit:=match x.a with
 | none=>.agg [SY x.n,SY x.c]
 | some ⟨b,o,none⟩=>.agg [SY b,SY o,SY x.n,SY x.c]
 | some ⟨_,_,some _⟩=>.agg []
def aAj:Value->Option (DataW Unit×List MemPlace)
 | .slice none n c=>some (.agg [SY n,SY c],[])
 | .slice (some ⟨b,o,none⟩) n c=>some (.agg [SY b,SY o,SY n,SY c],[])
 | _=>none
theorem ao1 {v:Value} {x:SV} {ps:List MemPlace} (h:aAj v=some (Yj x,ps)):v=BJ x:=by
 obtain ⟨a,n,c⟩:=x;unfold aAj at h;split at h
 ·rename_i n' c';unfold Yj at h;rcases a with _ | ⟨b,o,_ | q⟩
  ·simp only [JD,Prod.mk.injEq,DataW.agg.injEq,List.cons.injEq,SY,DataW.lit.injEq,Lit.int.injEq,and_true,true_and] at h;have h1:n'=n:=by omega
   have h2:c'=c:=by omega
   subst h1 h2;rfl
  · simp at h
  · simp at h
 ·rename_i b' o' n' c';unfold Yj at h;rcases a with _ | ⟨b,o,_ | q⟩
  · simp at h
  ·simp only [JD,Prod.mk.injEq,DataW.agg.injEq,List.cons.injEq,SY,DataW.lit.injEq,Lit.int.injEq,and_true,true_and] at h;have h1:b'=b:=by omega
   have h2:o'=o:=by omega
   have h3:n'=n:=by omega
   have h4:c'=c:=by omega
   subst h1 h2 h3 h4;rfl
  · simp at h
 · cases h
def SV.ok (x:SV):Prop:=x.a=none\/∃ b o,x.a=some ⟨b,o,none⟩
theorem ao2 {x:SV} (h:x.ok):aAj (BJ x)=some (Yj x,[]):=by
 obtain ⟨a,n,c⟩:=x;rcases h with h | ⟨b,o,h⟩
 · simp only at h;subst h;rfl
 · simp only at h;subst h;rfl
def sv0:SV:=⟨none,0,0⟩
def N7 (w:World) (b n:Nat) (f:Int->SV):Prop :=
 ∃ D:DataW Unit,w.ownsMap Tryz.prog 3 aAj b n D/\Maps.IsMap D/\∀ id,D.atKey (.int .i64 id) (Yj sv0)=Yj (f id)
theorem N7.kept {w w':World} {b n:Nat} {f:Int->SV} (h:N7 w b n f) {row:Option Nat} (hg:w.grownBy w' row) (hr:some b≠row):N7 w' b n f:=by
 obtain ⟨D,h1,h2⟩:=h;exact ⟨D,h1.kept hg hr,h2⟩
theorem N7.keep {w w':World} {b n:Nat} {f:Int->SV} (h:N7 w b n f) (hb:AP w w'):N7 w' b n f :=
 h.kept (row:=none) ⟨hb.os,hb.tape,hb.output,hb.size,fun i hi _=>hb.block i hi⟩ Aw
theorem N7.lt {w:World} {b n:Nat} {f:Int->SV} (h:N7 w b n f):b<w.heap.size:=by
 obtain ⟨D,h1,h2⟩:=h;exact h1.lt
theorem N7.made (w:World):N7 (w.alloc (.map #[] 0)) w.heap.size 0 (fun _=>sv0) :=
 ⟨.map [],World.ownsMap_made _ _ _ _,⟨_,rfl⟩,fun _=>rfl⟩
theorem ao3 (w:World):(zeroValue 46).run Tryz.prog w=.ok (.slice none 0 0) w:=by kernel_rfl
theorem N7.look {w:World} {b n:Nat} {f:Int->SV} (h:N7 w b n f) (id:Int) (hid:ES id) :
  (Instr.lookup 78 (.map (some b)) (.int .i64 id) false).run Tryz.prog w=.ok (BJ (f id)) w:=by
 obtain ⟨D,h1,-,h2⟩:=h;obtain ⟨v,ps,hr,hv⟩:=h1.lookup Vo Tryz.underlying78 (ao3 w) (zd:=Yj sv0) (zp:=[]) rfl (Maps.keyOf_int_mk Tryz.underlying3 hid);rw [h2] at hv;rw [hr,ao1 hv]
theorem N7.upd {w:World} {b n:Nat} {f:Int->SV} (h:N7 w b n f) (hn:n<4294967296) (id:Int) (hid:ES id) (x:SV) (hx:x.ok) :
  ∃ w',(Instr.mapUpdate 78 (.map (some b)) (.int .i64 id) (BJ x)).run Tryz.prog w=.ok () w'/\N7 w' b (n+1) (fun i=>if i=id then x else f i)/\w.grownBy w' (some b):=by
 obtain ⟨D,h1,hm,h2⟩:=h;obtain ⟨w',hr,ho,hg⟩:=h1.update Vo Tryz.underlying78 tC (Maps.keyOf_int_mk Tryz.underlying3 hid) (val:=BJ x) (d:=Yj x) (ps:=[]) (ao2 hx);refine ⟨w',hr,⟨_,ho,?_,fun i=>?_⟩,hg⟩
 · obtain ⟨es,rfl⟩:=hm;exact ⟨_,rfl⟩
 ·show _=Yj (if i=id then x else f i)
  by_cases e:i=id
  ·subst e;rw [AZ rfl];exact Maps.atKey_put_same hm (by trivial) _ _
  · rw [AX e,Maps.atKey_put_other (fun h=>e (by injection h)),h2]
theorem ao4 {n:Nat} (h:n<=8796093022208):n<=maxLen:=by
 have:maxLen=9223372036854775807:=rfl
 omega
def Vg (p:Pl):Prop:=∀ a∈p.AU,a.via.length<=8796093022208
theorem ag2 {P:Program} (w:World) {ops:Array Oper} {rest:List Oper} {o:Oper} {a:Act} {Q:Exit->Act->World->Prop} (hgd:o.guard=none) (s x:Operand) (t:TypeId)
  (ho:o.op=.call {callee:=.builtin .append,args:=#[s,x],argTypes:=#[t,t]})
  {α:Type} {f:α->List Value} {base:Nat} {e:TypeId} {size bytes:Nat} (hE:Elem P t e size bytes) (hf:∀ a,(f a).length=size) (hone:∀ a,∀ u∈f a,u.oneCell'=true)
  {v:Value} {l:List α} (hs:a.eval s=v) (hown:Own w base e size f v l)
  {src:Value} {l2:List α} (hx:a.eval x=src) (hr:Sl w src l2.length (l2.flatMap f))
  (hbytes:(l.length+l2.length)*bytes<=140737488355328) (h32:l.length+l2.length<=8796093022208) (hbase:base<=w.heap.size)
  (h:∀ v' w',Own w' base e size f v' (l++l2)->w.grownBy w' v.ownBlock->(v'.ownBlock=v.ownBlock\/v'.ownBlock=some w.heap.size)->wpList P ops Q rest (a.put o.dst v') w'):wpList P ops Q (o::rest) a w:=by
 obtain ⟨ht,i,z,hi,hz,hsize,hby,hzs,hsz⟩:=hE;refine agY w hgd s x t ho base e i z size bytes ht hi hz hsize hby hzs hsz v l.length (l.flatMap f) hs hown src l2.length (l2.flatMap f) hx hr (flat_length f size hf l2)
  (fun u hu=>?_) (ao4 h32) hbytes hbase (fun v' w' h1 h2 h3=>h v' w' ?_ h2 h3)
 ·obtain ⟨a,_,hu⟩:=GY.1 hu;exact hone a u hu
 ·unfold Own;rw [EC,KO];exact h1
theorem ao5 (v:Value) (l:List Pt) (w:World) (h:Dq w v l) (hl:l.length<=8796093022208) :
  Calls Tryz.prog 114 #[v] w (YD w l):=by
 have H:=h;obtain ⟨A,c,rfl,hn,hc,hR⟩:=h;have hE:=Lib.run_eql_slice_nil (P:=Tryz.prog) (t:=46) (e:=39);rcases A with _ | ad
 ·have hl0:l=[]:=by
   rcases l with _ | ⟨a,l⟩
   · rfl
   ·obtain ⟨b,o,e,_⟩:=hR (by simp [EX])
    cases e
  subst hl0;clear hR H;simp only [Md] at hn ⊢;have hE1:∀ W:World,(binOp .eql 46 (.slice none 0 c) (.slice none 0 0)).run Tryz.prog W=.ok (.bool true) W:=fun W=>Lib.run_eql_slice_nil W _ 39 none _ c 0 0 Tryz.underlying46;clear hE;go_enter Tryz.func114,Tryz.ntmps114;go_wp2;go_ret;exact ⟨_,_,rfl,bR w,Own.nil _ _ _ _ _⟩
 ·have hE1:∀ W:World,(binOp .eql 46 (.slice (some ad) l.length c) (.slice none 0 0)).run Tryz.prog W=.ok (.bool false) W:=fun W=>Lib.run_eql_slice_nil W _ 39 (some ad) _ c 0 0 Tryz.underlying46;clear hE hR;have HH:=AA H;clear H;go_enter Tryz.func114,Tryz.ntmps114;go_wp2_with
   (at_builtin
    refine ag2 _ rfl (.tmp 5) (.tmp 6) _ rfl (base:=w.heap.size) KR Jv KT rfl (Own.lit _ _ _ _ EX [] _ 0 _ rfl rfl (DT _) (D6 AB) rfl rfl) rfl (HH.out.mono (bA (bR w) _)) Xz Xz Aw ?_;intro v1 w1 hown hg hat)
  go_ret;obtain ⟨A1,c1,rfl,-⟩:=Own.sl hown;simp only [QD] at hown ⊢;exact ⟨A1,c1,rfl,bG (bA (bR w) _) hg (fun k hk=>by have:w.heap.size=k:=Dc hk;omega),hown⟩
theorem ao6 (v:Value) (p:Pl) (id:Int) (w:World) (h:Cb w v p) (hsh:Vg p) :
  Calls Tryz.prog 73 #[v,.int .i64 id] w (nK w (findAr p.AU id)):=by
 obtain ⟨vn,_,vf,al,rfl,hpa,-,⟨⟨An,cn,rfl,hn1,hn2,hR⟩,hV⟩,-⟩:=h;unfold maxLen at hn2;unfold Vg at hsh;rw [hpa] at hsh ⊢;clear hpa;have hsh':∀ k (hk:k<al.length),al[k].1.via.length<=8796093022208:=fun k hk=>hsh _ (Gs (BH hk));have HV:=AA hV;clear hV hsh;have DL:=AA hsh';clear hsh';go_enter Tryz.func73,Tryz.ntmps73;go_wp2_with fail;go_loopw [11] (fun i wr=>∃ k:Nat,k<=al.length/\i=.int .i64 k/\AP w wr/\AO wr (w.heap.size+1) 50 #[.int .i64 0,.int .i64 0,.int .i64 0,.slice none 0 0,.int .i64 0,.int .i64 0]/\∀ j (hj:j<al.length),j<k->(al[j].1.id == id)=false) (fun i _=>al.length-(intOf i).toNat)
 case atStart => exact ⟨0,BZ _,rfl,bA (bA (bR w) _) _,AO.made Aw _ _,fun j _ h=>by omega⟩
 case round =>
  obtain ⟨k,hk,rfl,hb,X4,hno⟩:=hrel;have Hb:=AA hb;have Hno:=AA hno;clear hb hno;obtain ⟨Bh,Bl,CV,FB,JV,Jy,Jz,Dl,Ey,Ia,OD,Pq,PG⟩:=X4.IU;by_cases hlt:k<al.length
  ·obtain ⟨b,o,rfl,hlb,c0,c1,c2,c3,c4,c5⟩:=(hR.mono Hb.out).ar hlt;have HR:=AA hR;clear hR;have hvk:=(HV.out k hlt);obtain ⟨Av,cv,hv,-⟩:=hvk;have hvk:=(HV.out k hlt);rw [hv] at c3 hvk;generalize hvl:al[k].1.via.length=vl at *;have uX:=AA hvl;have Qp:=AA hvk;clear hvk hv hvl
   cases he:(al[k].1.id == id)
   ·go_wp2;go_roundw
    case rel => exact ⟨k+1,AB,BI,bA Hb.out _,X4.alloc _,all_succ (p:=fun x=>(x.1.id == id)=false) Hno.out hlt he⟩
    case measure => exact BK
   ·have hf:=aAa al id k hlt Hno.out he;have Hf:=AA hf;clear hf;go_wp2_with fail;refine (ao5 _ _ _ (Qp.out.mono (bA Hb.out _)) (DL.out k hlt)).mono ?_;rintro e w1 ⟨A1,JW,rfl,hb1,hown⟩;have Bw:AP w w1:=bT (bA Hb.out _) hb1;have X7:AO w1 wr.heap.size 50 #[.int .i64 al[k].1.id,.int .i64 al[k].1.fr,.int .i64 al[k].1.dst,.slice Av vl cv,.int .i64 al[k].1.left,.int .i64 al[k].1.right]:=(AO.made rfl _ _).keep hb1;have hw8:w.heap.size+1<wr.heap.size:=by omega
    have hw7:w.heap.size+1≠wr.heap.size:=by omega
    replace X4:=(X4.alloc _).keep hb1;have hown':=hown.Du (b':=wr.heap.size+1) Aw;have hP:=Own.sl hown;have Ef:=AA hown';clear hb1 c0 c1 c2 c3 c4 c5 hlb hown hown' hP
    try clear Bh Bl CV FB JV Jy Jz
    try clear Dl Ey Ia OD Pq PG
    obtain ⟨Bh,Bl,CV,FB,JV,Jy,Jz,Dl,Ey,Ia,OD,Pq,PG⟩:=X4.IU;obtain ⟨EK,EL,FN,nM,X7d,X7e,X7f,YA,YC,ac5,ac6,ac7,ac8⟩:=X7.IU;go_wp2_with fail;have nN:=Hb.out.size;have UU:(Value.slice A1 al[k].1.via.length JW).ownBlock≠some wr.heap.size:=fun e=>by have:=(Ef.out.lt _ e).1;omega
    have Jm:(Value.slice A1 al[k].1.via.length JW).ownBlock≠some (w.heap.size+1):=fun e=>by have:=(Ef.out.lt _ e).1;omega
    have HP:=Own.sl (((((((Ef.out.far (p:=⟨wr.heap.size,3,none⟩) UU (.slice A1 al[k].1.via.length JW)).far (p:=⟨w.heap.size+1,0,none⟩) Jm (.int .i64 al[k].1.id)).far (p:=⟨w.heap.size+1,1,none⟩) Jm (.int .i64 al[k].1.fr)).far (p:=⟨w.heap.size+1,2,none⟩) Jm (.int .i64 al[k].1.dst)).far (p:=⟨w.heap.size+1,3,none⟩) Jm (.slice A1 al[k].1.via.length JW)).far (p:=⟨w.heap.size+1,4,none⟩) Jm (.int .i64 al[k].1.left)).far (p:=⟨w.heap.size+1,5,none⟩) Jm (.int .i64 al[k].1.right));refine LG (g:=w.heap.size+1) (cs:=#[.int .i64 al[k].1.id,.int .i64 al[k].1.fr,.int .i64 al[k].1.dst,.slice A1 al[k].1.via.length JW,.int .i64 al[k].1.left,.int .i64 al[k].1.right]) rfl SC rfl rfl (AO.SB (X4.far (p:=⟨wr.heap.size,3,none⟩) hw7 _)) ⟨.slice A1 al[k].1.via.length JW,Ws,?_,by rw [Hf.out];exact HP⟩;exact Dk
  ·have hf:=aAb al id (fun j hj=>Hno.out j hj AB);have Hf:=AA hf;clear hf;go_wp2;have Bw:=Hb.out;refine LG (g:=w.heap.size+1) (cs:=#[.int .i64 0,.int .i64 0,.int .i64 0,.slice none 0 0,.int .i64 0,.int .i64 0]) rfl SC rfl rfl (AO.SB X4) ⟨.slice none 0 0,Ws,?_,by rw [Hf.out];exact Sl.nil _⟩;exact Dk
theorem ao7 (v:Value) (p:Pl) (id:Int) (w:World) (h:Cb w v p) (hsh:Vg p) :
  Calls Tryz.prog 99 #[v,.int .i64 id] w (nK w (findAr p.AU id)):=by
 obtain ⟨vn,_,vf,al,rfl,hpa,-,⟨⟨An,cn,rfl,hn1,hn2,hR⟩,hV⟩,-⟩:=h;unfold maxLen at hn2;unfold Vg at hsh;rw [hpa] at hsh ⊢;clear hpa;have hsh':∀ k (hk:k<al.length),al[k].1.via.length<=8796093022208:=fun k hk=>hsh _ (Gs (BH hk));have HV:=AA hV;clear hV hsh;have DL:=AA hsh';clear hsh';go_enter Tryz.func99,Tryz.ntmps99;go_wp2_with fail;go_loopw [6] (fun i wr=>∃ k:Nat,k<=al.length/\i=.int .i64 k/\AP w wr/\AO wr w.heap.size 26 #[vn,.slice An al.length cn,vf]/\AO wr (w.heap.size+1) 50 #[.int .i64 0,.int .i64 0,.int .i64 0,.slice none 0 0,.int .i64 0,.int .i64 0]/\∀ j (hj:j<al.length),j<k->(al[j].1.id == id)=false) (fun i _=>al.length-(intOf i).toNat)
 case atStart => exact ⟨0,BZ _,rfl,bA (bA (bR w) _) _,(AO.made rfl _ _).alloc _,AO.made Aw _ _,fun j _ h=>by omega⟩
 case round =>
  obtain ⟨k,hk,rfl,hb,X2,X4,hno⟩:=hrel;have Hb:=AA hb;have Hno:=AA hno;clear hb hno;obtain ⟨BQ,BR,BX,CZ,-,-,-⟩:=X2.BF;obtain ⟨Bh,Bl,CV,FB,JV,Jy,Jz,Dl,Ey,Ia,OD,Pq,PG⟩:=X4.IU;by_cases hlt:k<al.length
  ·obtain ⟨b,o,rfl,hlb,c0,c1,c2,c3,c4,c5⟩:=(hR.mono Hb.out).ar hlt;have HR:=AA hR;clear hR;have hvk:=(HV.out k hlt);obtain ⟨Av,cv,hv,-⟩:=hvk;have hvk:=(HV.out k hlt);rw [hv] at c3 hvk;have Qp:=AA hvk;clear hvk hv
   cases he:(al[k].1.id == id)
   ·go_wp2;go_roundw
    case rel => exact ⟨k+1,AB,BI,Hb.out,X2,X4,all_succ (p:=fun x=>(x.1.id == id)=false) Hno.out hlt he⟩
    case measure => exact BK
   ·have hf:=aAa al id k hlt Hno.out he;have Hf:=AA hf;clear hf;have hsv:=DL.out k hlt;go_wp2_with
     (at_builtin
      refine ag2 _ rfl (.tmp 28) (.tmp 30) _ rfl (base:=wr.heap.size+1) KR Jv KT rfl (Own.lit _ _ _ _ EX [] _ 0 _ Aw rfl Aw (D6 AB) rfl rfl) rfl (Qp.out.mono (bA (bA Hb.out _) _)) Xz Xz Aw ?_;intro v1 w1 hown hg hat;have hb1:Below (wr.alloc (.cells #[.int .i64 al[k].1.id,.int .i64 al[k].1.fr,.int .i64 al[k].1.dst,.slice Av al[k].1.via.length cv,.int .i64 al[k].1.left,.int .i64 al[k].1.right] 50)).heap.size (wr.alloc (.cells #[.int .i64 al[k].1.id,.int .i64 al[k].1.fr,.int .i64 al[k].1.dst,.slice Av al[k].1.via.length cv,.int .i64 al[k].1.left,.int .i64 al[k].1.right] 50)) w1:=bG (bA (bR _) _) hg (fun g hk=>by have:wr.heap.size+1=g:=Dc hk;simp;omega);simp only [QD] at hown;obtain ⟨A1,JW,rfl,-⟩:=Own.sl hown;have Ef:=AA hown;have Bw:AP w w1:=bT (bA Hb.out _) hb1;have X7:AO w1 wr.heap.size 50 #[.int .i64 al[k].1.id,.int .i64 al[k].1.fr,.int .i64 al[k].1.dst,.slice Av al[k].1.via.length cv,.int .i64 al[k].1.left,.int .i64 al[k].1.right]:=(AO.made rfl _ _).keep hb1;have hw8:w.heap.size+1<wr.heap.size:=by omega
      have hw7:w.heap.size+1≠wr.heap.size:=by omega
      replace X4:=(X4.alloc _).keep hb1;clear hb1 c0 c1 c2 c3 c4 c5 hlb hown hg hat
      try clear Bh Bl CV FB JV Jy Jz
      try clear Dl Ey Ia OD Pq PG
      obtain ⟨Bh,Bl,CV,FB,JV,Jy,Jz,Dl,Ey,Ia,OD,Pq,PG⟩:=X4.IU;obtain ⟨EK,EL,FN,nM,X7d,X7e,X7f,YA,YC,ac5,ac6,ac7,ac8⟩:=X7.IU
      )
    have nN:=Hb.out.size;have UU:(Value.slice A1 al[k].1.via.length JW).ownBlock≠some wr.heap.size:=fun e=>by have:=(Ef.out.lt _ e).1;omega
    have Jm:(Value.slice A1 al[k].1.via.length JW).ownBlock≠some (w.heap.size+1):=fun e=>by have:=(Ef.out.lt _ e).1;omega
    have HP:=Own.sl (((((((Ef.out.far (p:=⟨wr.heap.size,3,none⟩) UU (.slice A1 al[k].1.via.length JW)).far (p:=⟨w.heap.size+1,0,none⟩) Jm (.int .i64 al[k].1.id)).far (p:=⟨w.heap.size+1,1,none⟩) Jm (.int .i64 al[k].1.fr)).far (p:=⟨w.heap.size+1,2,none⟩) Jm (.int .i64 al[k].1.dst)).far (p:=⟨w.heap.size+1,3,none⟩) Jm (.slice A1 al[k].1.via.length JW)).far (p:=⟨w.heap.size+1,4,none⟩) Jm (.int .i64 al[k].1.left)).far (p:=⟨w.heap.size+1,5,none⟩) Jm (.int .i64 al[k].1.right));refine LG (g:=w.heap.size+1) (cs:=#[.int .i64 al[k].1.id,.int .i64 al[k].1.fr,.int .i64 al[k].1.dst,.slice A1 al[k].1.via.length JW,.int .i64 al[k].1.left,.int .i64 al[k].1.right]) rfl SC rfl rfl (AO.SB (X4.far (p:=⟨wr.heap.size,3,none⟩) hw7 _)) ⟨.slice A1 al[k].1.via.length JW,Ws,?_,by rw [Hf.out];exact HP⟩;exact Dk
  ·have hf:=aAb al id (fun j hj=>Hno.out j hj AB);have Hf:=AA hf;clear hf;go_wp2;have Bw:=Hb.out;refine LG (g:=w.heap.size+1) (cs:=#[.int .i64 0,.int .i64 0,.int .i64 0,.slice none 0 0,.int .i64 0,.int .i64 0]) rfl SC rfl rfl (AO.SB X4) ⟨.slice none 0 0,Ws,?_,by rw [Hf.out];exact Sl.nil _⟩;exact Dk
