import Derived.Test.YtialfdomhoojiaaGreatQJ02
import Derived.Test.YtialfdomhoojiaaGreatQGE
set_option linter.unusedSimpArgs false
set_option linter.unusedVariables false
set_option maxRecDepth 100000
set_option maxHeartbeats 2000000
namespace Go.Proofs.YtialfdomhoojiaaGreat
open Go.RowKit
theorem acB (a b c d:Pt) (ha:lim a) (hb:lim b) (hc:lim c) (hd:lim d):-35184372088832<=BM a b c d/\BM a b c d<=35184372088832:=by
 obtain ⟨a1,a2,a3,a4⟩:=ha;obtain ⟨b1,b2,b3,b4⟩:=hb;obtain ⟨c1,c2,c3,c4⟩:=hc;obtain ⟨d1,d2,d3,d4⟩:=hd;obtain ⟨m1,m2⟩:=Qs (b.x-a.x) (d.y-c.y) 4194304 AB AB AB AB;obtain ⟨m3,m4⟩:=Qs (b.y-a.y) (d.x-c.x) 4194304 AB AB AB AB;simp only [Int.reduceMul,Int.reduceNeg] at m1 m2 m3 m4;unfold BM;omega
def ND (a b c d:Pt):Int :=
 if a=b/\c=d/\¬ a=c then 0
 else if BM a b c d=0 then
  if BM a b a c=0/\BM a b a d=0/\BM c d c a=0/\BM c d c b=0 then KL a b c d else 0
 else if BM a b c d<0 then
  if 0<=-BM a c c d/\-BM a c c d<=-BM a b c d/\0<=-BM a c a b/\-BM a c a b<=-BM a b c d then 1 else 0
 else if 0<=BM a c c d/\BM a c c d<=BM a b c d/\0<=BM a c a b/\BM a c a b<=BM a b c d then 1 else 0
def Fq (a b c d:Pt):Int:=if EN [a,b,c,d]=true then ND a b c d else 0
theorem agN (a b c d:Pt) (w:World) :
  Calls Tryz.prog 248 #[BA a,BA b,BA c,BA d] w fun e w'=>e=.returned (.int .i64 (Fq a b c d))/\AU w w':=by
 have TS:∀ W,Calls Tryz.prog 273 #[BA a,BA b,BA c,BA d] W _:=fun W=>ao7 a b c d W;have TC:∀ p q r s:Pt,lim p->lim q->lim r->lim s->∀ W,Calls Tryz.prog 213 #[BA p,BA q,BA r,BA s] W _:=fun p q r s hp hq hr hs W=>abv p q r s W hp hq hr hs;unfold BA at TS TC ⊢;have HS:=AA TS;clear TS;have HC:=AA TC;clear TC
 cases hn:EN [a,b,c,d]
 ·have hm:Fq a b c d=0:=by rw [Fq,hn];rfl
  have Hm:=AA hm;clear hm;go_enter Tryz.func248,Tryz.ntmps248;go_wp2_with fail;refine (tK _ [a,b,c,d] _ (Dv.aAu (AO.made Ak _ _))).mono ?_;rintro e w1 ⟨rfl,hb1⟩;rw [hn];go_wp2;go_ret;refine ⟨Df Hm.out.symm,?_⟩;exact EC
 obtain ⟨la,lb,lc,ld⟩:=an3 hn;have hm:Fq a b c d=ND a b c d:=by rw [Fq,AZ hn]
 unfold ND at hm;have Hm:=AA hm;clear hm;have Ha:=AA la;have Hb:=AA lb;have Hc:=AA lc;have Hd:=AA ld;clear la lb lc ld;go_enter Tryz.func248,Tryz.ntmps248;go_wp2_with fail;refine (tK _ [a,b,c,d] _ (Dv.aAu (AO.made Ak _ _))).mono ?_;rintro e w1 ⟨rfl,hb1⟩;rw [hn];clear hn;have Bw:AU w w1:=by
  exact EC
 have X4:AO _ (w.heap.size) 39 #[.int .i64 a.x,.int .i64 a.y]:=AO.keep (by repeat (first | exact AO.made Ak _ _ | refine AO.alloc ?_ _)) hb1;have X5:AO _ (w.heap.size+1) 39 #[.int .i64 b.x,.int .i64 b.y]:=AO.keep (by repeat (first | exact AO.made Ak _ _ | refine AO.alloc ?_ _)) hb1;have X6:AO _ (w.heap.size+1+1) 39 #[.int .i64 c.x,.int .i64 c.y]:=AO.keep (by repeat (first | exact AO.made Ak _ _ | refine AO.alloc ?_ _)) hb1;have X7:AO _ (w.heap.size+1+1+1) 39 #[.int .i64 d.x,.int .i64 d.y]:=AO.keep (by repeat (first | exact AO.made Ak _ _ | refine AO.alloc ?_ _)) hb1;clear hb1;obtain ⟨BZ,Bl,CQ,-,-⟩:=X4.BQ;obtain ⟨CJ,CO,CS,-,-⟩:=X5.BQ;obtain ⟨EK,EL,EM,-,-⟩:=X6.BQ;obtain ⟨Eb,Ec,Fe,-,-⟩:=X7.BQ;go_upto_region 3 with fail;go_cut [31] (fun s wx=>s=.bool (decide (a=b/\c=d/\¬ a=c))/\wx=w1)
 case first =>
  have e1:=UF a b;have e2:=UF c d;have e3:=aAb a c;by_cases h1:a=b
  ·have h1':decide (a=b)=true:=by simpa using h1
   have H1:=AA h1;clear h1;by_cases h2:c=d
   ·have h2':decide (c=d)=true:=by simpa using h2
    have H2:=AA h2;clear h2;go_wp2;go_meet
    case rel => exact ⟨by simp [H1.out,H2.out],rfl⟩
   ·have h2':decide (c=d)=false:=by simpa using h2
    have H2:=AA h2;clear h2;go_wp2;go_meet
    case rel => exact ⟨by simp [H2.out],rfl⟩
  ·have h1':decide (a=b)=false:=by simpa using h1
   have H1:=AA h1;clear h1;go_wp2;go_meet
   case rel => exact ⟨by simp [H1.out],rfl⟩
 case rest =>
 obtain ⟨rfl,rfl⟩:=hcut;by_cases hz:a=b/\c=d/\¬ a=c
 ·have hm:=Hm.out;rw [AZ hz] at hm;replace Hm:=AA hm;clear hm;have hz':decide (a=b/\c=d/\¬ a=c)=true:=JO hz;rw [hz'];clear hz hz';go_wp2;go_ret;exact ⟨Df Hm.out.symm,Bw⟩
 have hm:=Hm.out;rw [AX hz] at hm;replace Hm:=AA hm;clear hm;have hz':decide (a=b/\c=d/\¬ a=c)=false:=Gg hz;rw [hz'];clear hz hz';go_wp2_with fail;refine (HC.out a b c d Ha.out Hb.out Hc.out Hd.out _).mono ?_;rintro e w2 ⟨rfl,hb2⟩;replace Bw:=bT Bw hb2;replace X4:=X4.keep hb2;replace X5:=X5.keep hb2;replace X6:=X6.keep hb2;replace X7:=X7.keep hb2;clear hb2
 try clear BZ Bl CQ
 try clear CJ CO CS
 try clear EK EL EM
 try clear Eb Ec Fe
 try clear BZ Bl CQ
 obtain ⟨BZ,Bl,CQ,-,-⟩:=X4.BQ
 try clear CJ CO CS
 obtain ⟨CJ,CO,CS,-,-⟩:=X5.BQ
 try clear EK EL EM
 obtain ⟨EK,EL,EM,-,-⟩:=X6.BQ
 try clear Eb Ec Fe
 obtain ⟨Eb,Ec,Fe,-,-⟩:=X7.BQ;obtain ⟨nb1,nb2⟩:=acB a b c d Ha.out Hb.out Hc.out Hd.out;generalize BM a b c d=n at *;by_cases hn0:n=0
 ·subst hn0;have hm:=Hm.out;rw [AZ rfl] at hm;replace Hm:=AA hm;clear hm;go_wp2_with fail;refine (HC.out a b a c Ha.out Hb.out Ha.out Hc.out _).mono ?_;rintro e w3 ⟨rfl,hb3⟩;replace Bw:=bT Bw hb3;replace X4:=X4.keep hb3;replace X5:=X5.keep hb3;replace X6:=X6.keep hb3;replace X7:=X7.keep hb3;clear hb3
  try clear BZ Bl CQ
  try clear CJ CO CS
  try clear EK EL EM
  try clear Eb Ec Fe
  try clear BZ Bl CQ
  obtain ⟨BZ,Bl,CQ,-,-⟩:=X4.BQ
  try clear CJ CO CS
  obtain ⟨CJ,CO,CS,-,-⟩:=X5.BQ
  try clear EK EL EM
  obtain ⟨EK,EL,EM,-,-⟩:=X6.BQ
  try clear Eb Ec Fe
  obtain ⟨Eb,Ec,Fe,-,-⟩:=X7.BQ;generalize BM a b a c=c1 at *;by_cases hc1:c1=0
  case neg =>
   have hm:=Hm.out;rw [AX (fun h=>hc1 h.1)] at hm;replace Hm:=AA hm;clear hm;have hc':(c1 != 0)=true:=by simpa using hc1
   clear hc1;go_wp2;go_ret;exact ⟨Df Hm.out.symm,Bw⟩
  case pos =>
  subst hc1;go_wp2_with fail;refine (HC.out a b a d Ha.out Hb.out Ha.out Hd.out _).mono ?_;rintro e w4 ⟨rfl,hb4⟩;replace Bw:=bT Bw hb4;replace X4:=X4.keep hb4;replace X5:=X5.keep hb4;replace X6:=X6.keep hb4;replace X7:=X7.keep hb4;clear hb4
  try clear BZ Bl CQ
  try clear CJ CO CS
  try clear EK EL EM
  try clear Eb Ec Fe
  try clear BZ Bl CQ
  obtain ⟨BZ,Bl,CQ,-,-⟩:=X4.BQ
  try clear CJ CO CS
  obtain ⟨CJ,CO,CS,-,-⟩:=X5.BQ
  try clear EK EL EM
  obtain ⟨EK,EL,EM,-,-⟩:=X6.BQ
  try clear Eb Ec Fe
  obtain ⟨Eb,Ec,Fe,-,-⟩:=X7.BQ;generalize BM a b a d=c2 at *;by_cases hc2:c2=0
  case neg =>
   have hm:=Hm.out;rw [AX (fun h=>hc2 h.2.1)] at hm;replace Hm:=AA hm;clear hm;have hc':(c2 != 0)=true:=by simpa using hc2
   clear hc2;go_wp2;go_ret;exact ⟨Df Hm.out.symm,Bw⟩
  case pos =>
  subst hc2;go_wp2_with fail;refine (HC.out c d c a Hc.out Hd.out Hc.out Ha.out _).mono ?_;rintro e w5 ⟨rfl,hb5⟩;replace Bw:=bT Bw hb5;replace X4:=X4.keep hb5;replace X5:=X5.keep hb5;replace X6:=X6.keep hb5;replace X7:=X7.keep hb5;clear hb5
  try clear BZ Bl CQ
  try clear CJ CO CS
  try clear EK EL EM
  try clear Eb Ec Fe
  try clear BZ Bl CQ
  obtain ⟨BZ,Bl,CQ,-,-⟩:=X4.BQ
  try clear CJ CO CS
  obtain ⟨CJ,CO,CS,-,-⟩:=X5.BQ
  try clear EK EL EM
  obtain ⟨EK,EL,EM,-,-⟩:=X6.BQ
  try clear Eb Ec Fe
  obtain ⟨Eb,Ec,Fe,-,-⟩:=X7.BQ;generalize BM c d c a=c3 at *;by_cases hc3:c3=0
  case neg =>
   have hm:=Hm.out;rw [AX (fun h=>hc3 h.2.2.1)] at hm;replace Hm:=AA hm;clear hm;have hc':(c3 != 0)=true:=by simpa using hc3
   clear hc3;go_wp2;go_ret;exact ⟨Df Hm.out.symm,Bw⟩
  case pos =>
  subst hc3;go_wp2_with fail;refine (HC.out c d c b Hc.out Hd.out Hc.out Hb.out _).mono ?_;rintro e w6 ⟨rfl,hb6⟩;replace Bw:=bT Bw hb6;replace X4:=X4.keep hb6;replace X5:=X5.keep hb6;replace X6:=X6.keep hb6;replace X7:=X7.keep hb6;clear hb6
  try clear BZ Bl CQ
  try clear CJ CO CS
  try clear EK EL EM
  try clear Eb Ec Fe
  try clear BZ Bl CQ
  obtain ⟨BZ,Bl,CQ,-,-⟩:=X4.BQ
  try clear CJ CO CS
  obtain ⟨CJ,CO,CS,-,-⟩:=X5.BQ
  try clear EK EL EM
  obtain ⟨EK,EL,EM,-,-⟩:=X6.BQ
  try clear Eb Ec Fe
  obtain ⟨Eb,Ec,Fe,-,-⟩:=X7.BQ;generalize BM c d c b=c4 at *;by_cases hc4:c4=0
  case neg =>
   have hm:=Hm.out;rw [AX (fun h=>hc4 h.2.2.2)] at hm;replace Hm:=AA hm;clear hm;have hc':(c4 != 0)=true:=by simpa using hc4
   clear hc4;go_wp2;go_ret;exact ⟨Df Hm.out.symm,Bw⟩
  case pos =>
  subst hc4;have hm:=Hm.out;simp only [and_self,if_true] at hm;replace Hm:=AA hm;clear hm;go_wp2_with fail;refine (HS.out _).mono ?_;rintro e w8 ⟨rfl,hb8⟩;go_wp2;go_ret;exact ⟨Df Hm.out.symm,bT Bw hb8⟩
 have aym:(n == 0)=false:=by simpa using hn0
 have hm:=Hm.out;rw [AX hn0] at hm;replace Hm:=AA hm;clear hm;obtain ⟨sb1,sb2⟩:=acB a c c d Ha.out Hc.out Hc.out Hd.out;obtain ⟨tb1,tb2⟩:=acB a c a b Ha.out Hc.out Ha.out Hb.out;have Hn0:=AA hn0;clear hn0;go_upto_region 10 with fail;go_cut [10,11] (fun s t wx=>s=.int .i64 (BM a c c d)/\t=.int .i64 (BM a c a b)/\AU w wx)
 case first =>
  go_region_held3 (fun W=>W.cell? ⟨w.heap.size,0,none⟩=some (.int .i64 a.x)/\W.cell? ⟨w.heap.size,1,none⟩=some (.int .i64 a.y)/\W.cell? ⟨w.heap.size+1,0,none⟩=some (.int .i64 b.x)/\W.cell? ⟨w.heap.size+1,1,none⟩=some (.int .i64 b.y)/\W.cell? ⟨w.heap.size+1+1,0,none⟩=some (.int .i64 c.x)/\W.cell? ⟨w.heap.size+1+1,1,none⟩=some (.int .i64 c.y)/\W.cell? ⟨w.heap.size+1+1+1,0,none⟩=some (.int .i64 d.x)/\W.cell? ⟨w.heap.size+1+1+1,1,none⟩=some (.int .i64 d.y)) ((repeat' apply And.intro)<;>(repeat (refine Eh KT ?_))<;>(first | assumption | simp [*]))
   (first | (go_at_call 213;refine (HC.out _ _ _ _ (by first | exact Ha.out | exact Hc.out) (by first | exact Hc.out) (by first | exact Hc.out | exact Ha.out) (by first | exact Hd.out | exact Hb.out) _).mono ?_;rintro e w' ⟨rfl,hb'⟩))
  go_wp2;go_meet
  case rel =>
  refine ⟨rfl,rfl,?_⟩;exact EC
 case rest =>
 clear X4 X5 X6 X7 Bw;clear BZ Bl CQ;clear CJ CO CS;clear EK EL EM;clear Eb Ec Fe;obtain ⟨rfl,rfl,Bw⟩:=hcut;generalize BM a c c d=s at *;generalize BM a c a b=t at *;by_cases hneg:n<0
 ·have hm:=Hm.out;rw [AZ hneg] at hm;replace Hm:=AA hm;clear hm;go_wp2_with fail
  all_goals (first | (go_ret;refine ⟨Df ?_,Bw⟩;rw [Hm.out];first | rw [AZ AB] | rw [AX AB]) | (exfalso;omega))
 ·have hm:=Hm.out;rw [AX hneg] at hm;replace Hm:=AA hm;clear hm;go_wp2_with fail
  all_goals (first | (go_ret;refine ⟨Df ?_,Bw⟩;rw [Hm.out];first | rw [AZ AB] | rw [AX AB]) | (exfalso;omega))
theorem afn (a:Int):0<=a*a:=by
 rcases Zp 0 a with h | h
 · exact KR h h
 · exact Int.mul_nonneg_of_nonpos_of_nonpos h h
theorem anh {a b:Int}:a*b<=0↔(0<=a/\b<=0)\/(a<=0/\0<=b):=by
 constructor
 ·intro h;by_cases ha:a=0
  · omega
  by_cases hp:0<a
  ·left;refine ⟨AB,?_⟩;by_cases hb:0<b
   · have:=Jg hp hb;omega
   · omega
  ·right;refine ⟨AB,?_⟩;by_cases hb:b<0
   · have:=rW (show a<0 by omega) hb;omega
   · omega
 ·rintro (⟨ha,hb⟩ | ⟨ha,hb⟩)
  · exact aAB ha hb
  · exact aAC ha hb
theorem aBE {p a b:Int}:(p-a)*(p-b)<=0↔min a b<=p/\p<=max a b:=by
 rw [anh];omega
theorem ani {ux uy vx vy:Int} (hc:ux*vy=uy*vx):ux*vx+uy*vy<=0↔ux*vx<=0/\uy*vy<=0:=by
 constructor
 ·intro h;have hp:0<=(ux*vx)*(uy*vy):=by
   have e:(ux*vx)*(uy*vy)=(ux*vy)*(ux*vy):=by grind
   rw [e];exact afn _
  by_cases h1:0<ux*vx
  · have:=XK h1 (show uy*vy<0 by omega);omega
  ·by_cases h2:0<uy*vy
   · have:=VQ (show ux*vx<0 by omega) h2;omega
   · omega
 · omega
theorem parallel {ux uy vx vy wx wy:Int} (h:¬ (ux=0/\uy=0)) (h1:ux*vy-uy*vx=0) (h2:ux*wy-uy*wx=0):vx*wy-vy*wx=0:=by
 have e1:ux*(vx*wy-vy*wx)=0:=by grind
 have e2:uy*(vx*wy-vy*wx)=0:=by grind
 rcases XM.1 e1 with h3 | h3
 ·rcases XM.1 e2 with h4 | h4
  · exact absurd ⟨h3,h4⟩ h
  · exact h4
 · exact h3
theorem acC (a b p:Pt):Ea a b p=LZ a b p:=by
 unfold Ea LZ
 cases EN [a,b,p]
 · rfl
 have hc:BM a b a p=tw a b p:=rfl;rw [hc];by_cases h:tw a b p=0
 ·simp only [h,decide_true,lY,Bool.and_assoc];rw [MH];simp only [Ei,EO];unfold Yr;rw [ani (by unfold tw at h;grind),aBE,aBE];omega
 · simp [h]
theorem MN (a b:Pt):CP a b=true↔a.x<b.x\/(a.x=b.x/\a.y<b.y):=by simp [CP]
theorem iT (a:Pt):CP a a=false:=by rw [<- JK,MN];omega
theorem PX {a b:Pt} (h:CP a b=true):CP b a=false:=by
 rw [<- JK,MN];rw [MN] at h;omega
theorem nH {a b:Pt} (h:CP a b=false) (h':CP b a=false):a=b:=by
 rw [<- JK,MN] at h h';rw [Pt.ext_iff'];omega
def lo (a b:Pt):Pt:=if CP b a then b else a
def hi (a b:Pt):Pt:=if CP b a then a else b
theorem acD (a b:Pt):lo a b=lo b a:=by
 unfold lo
 cases h:CP b a<;>cases h':CP a b<;>simp
 · exact nH h' h
 · exact absurd (PX h) (by simp [h'])
theorem aBF (a b:Pt):hi a b=hi b a:=by
 unfold hi
 cases h:CP b a<;>cases h':CP a b<;>simp
 · exact (nH h' h).symm
 · exact absurd (PX h) (by simp [h'])
theorem VU (a b c d:Pt):KL a b c d=if hi (lo a b) (lo c d)=lo (hi a b) (hi c d) then 1 else if CP (hi (lo a b) (lo c d)) (lo (hi a b) (hi c d)) then 2 else 0:=by
 have e1:∀ p q:Pt,(if CP p q then q else p)=hi p q:=fun p q=>by
  unfold hi;cases h:CP q p<;>cases h':CP p q<;>simp
  · exact nH h' h
  · exact absurd (PX h) (by simp [h'])
 have e2:∀ p q:Pt,(if CP q p then q else p)=lo p q:=fun p q=>rfl;have e3:∀ p q:Pt,(if CP q p then p else q)=hi p q:=fun p q=>rfl;unfold KL;simp only [e2,e3,e1];rw [aBF (lo c d) (lo a b)]
theorem Xf (a b c d:Pt):KL a b c d=KL c d a b:=by
 rw [VU a b c d,aBF (lo a b) (lo c d),acD (hi a b) (hi c d),<- VU]
theorem nI (a b c d:Pt):KL a b c d=KL b a c d:=by
 rw [VU,VU,acD a b,aBF a b]
theorem Yt (c d:Pt):(lo c d=c/\hi c d=d/\CP d c=false)\/(lo c d=d/\hi c d=c/\CP d c=true):=by
 unfold lo hi
 cases h:CP d c<;>simp
theorem acE (c d a:Pt) (hcd:c≠d) (h:tw c d a=0) :
  (min c.x d.x<=a.x/\a.x<=max c.x d.x/\min c.y d.y<=a.y/\a.y<=max c.y d.y)↔(CP a (lo c d)=false/\CP (hi c d) a=false):=by
 have hne:¬ (c.x=d.x/\c.y=d.y):=fun e=>hcd (Pt.ext_iff'.2 e);unfold tw at h;have hp:(a.x-c.x)*(a.y-d.y)=(a.y-c.y)*(a.x-d.x):=by grind
 have hs:0<=((a.x-c.x)*(a.x-d.x))*((a.y-c.y)*(a.y-d.y)):=by
  have e:((a.x-c.x)*(a.x-d.x))*((a.y-c.y)*(a.y-d.y))=((a.x-c.x)*(a.y-d.y))*((a.x-c.x)*(a.y-d.y)):=by grind
  rw [e];exact afn _
 have b1:(a.x-c.x)*(a.x-d.x)<=0↔min c.x d.x<=a.x/\a.x<=max c.x d.x:=aBE;have b2:(a.y-c.y)*(a.y-d.y)<=0↔min c.y d.y<=a.y/\a.y<=max c.y d.y:=aBE;have k1:a.x=c.x->(d.x-c.x)*(a.y-c.y)=0:=fun e=>by rw [e] at h;grind
 have k2:a.x=d.x->(d.x-c.x)*(a.y-d.y)=0:=fun e=>by rw [e] at h;grind
 have k3:(a.x-c.x)*(a.x-d.x)<0->(a.y-c.y)*(a.y-d.y)<=0:=fun e=>by
  by_cases hy:0<(a.y-c.y)*(a.y-d.y)
  · have:=VQ e hy;omega
  · omega
 rw [<- JK,<- JK,MN,MN];by_cases hx:c.x=d.x
 ·have hax:a.x=c.x\/¬ a.x=c.x:=Classical.em _;have hz:a.x=c.x:=by
   have:(d.y-c.y)*(a.x-c.x)=0:=by rw [hx] at h ⊢;grind
   rcases XM.1 this with e | e
   · exact absurd ⟨hx,AB⟩ hne
   · omega
  have hl:=Yt c d;rcases hl with ⟨e1,e2,e3⟩ | ⟨e1,e2,e3⟩<;>rw [e1,e2]
  · rw [<- JK,MN] at e3;omega
  · rw [MN] at e3;omega
 ·have k1':a.x=c.x->a.y=c.y:=fun e=>by
   rcases XM.1 (k1 e) with f | f<;>omega
  have k2':a.x=d.x->a.y=d.y:=fun e=>by
   rcases XM.1 (k2 e) with f | f<;>omega
  have k3':(min c.x d.x<a.x/\a.x<max c.x d.x)->min c.y d.y<=a.y/\a.y<=max c.y d.y:=fun e=>by
   refine b2.1 (k3 ?_);rcases Int.lt_or_gt_of_ne hx with f | f
   · exact XK AB AB
   · exact VQ AB AB
  have hl:=Yt c d;clear h hp hs b1 b2 k1 k2 k3;rcases hl with ⟨e1,e2,e3⟩ | ⟨e1,e2,e3⟩<;>rw [e1,e2]
  · rw [<- JK,MN] at e3;omega
  · rw [MN] at e3;omega
theorem afo (c d a:Pt) (hcd:c≠d) (h:tw c d a=0):KL a a c d=if (min c.x d.x<=a.x/\a.x<=max c.x d.x/\min c.y d.y<=a.y/\a.y<=max c.y d.y) then 1 else 0:=by
 have hl:lo a a=a:=by simp [lo]
 have hh:hi a a=a:=by simp [hi]
 have hb:=acE c d a hcd h;rw [VU,hl,hh];generalize hC:lo c d=C at *;generalize hD:hi c d=D at *;have hCD:CP D C=false:=by
  rcases Yt c d with ⟨e1,e2,e3⟩ | ⟨e1,e2,e3⟩<;>rw [<- hC,<- hD,e1,e2]
  · exact e3
  · exact PX e3
 by_cases hin:CP a C=false/\CP D a=false
 ·rw [AZ (hb.2 hin)];have e1:hi a C=a:=by
   unfold hi;cases h':CP C a<;>simp;exact (nH hin.1 h').symm
  have e2:lo a D=a:=by unfold lo;rw [hin.2];rfl
  rw [e1,e2];simp
 ·rw [AX (fun e=>hin (hb.1 e))]
  cases h1:CP a C
  ·have h2:CP D a=true:=by simpa [h1] using hin
   have e2:lo a D=D:=by unfold lo;rw [h2];rfl
   have e1:hi a C=a:=by
    unfold hi;cases h':CP C a<;>simp;exact (nH h1 h').symm
   rw [e1,e2,AX (fun e=>by rw [e,iT] at h2;cases h2),PX h2];rfl
  ·have e1:hi a C=C:=by unfold hi;rw [PX h1];rfl
   have h2:CP D a=false:=by
    rw [<- JK,MN] at hCD ⊢;rw [MN] at h1;omega
   have e2:lo a D=a:=by unfold lo;rw [h2];rfl
   rw [e1,e2,AX (fun e=>by rw [e,iT] at h1;cases h1),PX h1];rfl
theorem Pt.aBG {a b:Pt} (h:a≠b):¬ (b.x-a.x=0/\b.y-a.y=0):=fun e=>h (Pt.ext_iff'.2 ⟨AB,AB⟩)
theorem afp {a b c:Pt} (h:EN [a,b,c]=true):FQ a b c=0↔tw a b c=0:=by
 unfold FQ Yq;rw [AZ h];split
 · omega
 · split<;>omega
theorem afq {a b c d e f:Pt} (h1:EN [a,b,c]=true) (h2:EN [d,e,f]=true):FQ a b c*FQ d e f<=0↔(0<=tw a b c/\tw d e f<=0)\/(tw a b c<=0/\0<=tw d e f):=by
 unfold FQ Yq;rw [AZ h1,AZ h2];generalize tw a b c=p;generalize tw d e f=q;split<;>split<;>(try split)<;>(try split)<;>simp<;>omega
theorem vF (a b c d:Pt):JX a b c d=Fq a b c d:=by
 unfold JX Fq;by_cases hn:EN [a,b,c,d]=true
 case neg => rw [AX hn,AX hn]
 rw [AZ hn,AZ hn];have hn':C9 a=true/\C9 b=true/\C9 c=true/\C9 d=true:=by simpa [EN] using hn
 obtain ⟨na,nb,nc,nd⟩:=hn';have nn:∀ p q r:Pt,C9 p=true->C9 q=true->C9 r=true->EN [p,q,r]=true:=fun p q r h1 h2 h3=>by simp [EN,h1,h2,h3]
 unfold ND;by_cases hab:a=b
 ·subst hab;rw [AZ rfl];have c0:BM a a c d=0:=by unfold BM;grind
  have c1:BM a a a c=0:=by unfold BM;grind
  have c2:BM a a a d=0:=by unfold BM;grind
  by_cases hcd:c=d
  ·subst hcd;have hon:Ea c c a=decide (a=c):=by
    unfold Ea tw;rw [nn c c a nc nc na,MH];simp only [Ei,EO,lY,Pt.ext_iff']
    grind
   rw [hon];by_cases hac:a=c
   ·subst hac;have hl:lo a a=a:=by simp [lo]
    have hh:hi a a=a:=by simp [hi]
    have:KL a a a a=1:=by rw [VU,hl,hh,hl];simp
    simp [c0,this]
   · simp [hac]
  ·rw [AX (show ¬ (a=a/\c=d/\¬ a=c) from fun e=>hcd e.2.1),AZ c0];have ct:BM c d c a=tw c d a:=rfl;unfold Ea;rw [nn c d a nc nd na];by_cases ht:tw c d a=0
   ·rw [AZ (show BM a a a c=0/\BM a a a d=0/\BM c d c a=0/\BM c d c a=0 from ⟨c1,c2,ht,ht⟩),afo c d a hcd ht];simp only [ht,decide_true,lY,Ei,EO,and_assoc]
   ·rw [AX (show ¬ (BM a a a c=0/\BM a a a d=0/\BM c d c a=0/\BM c d c a=0) from fun e=>ht e.2.2.1)];simp [ht]
 rw [AX hab];by_cases hcd:c=d
 ·subst hcd;rw [AZ rfl];have c0:BM a b c c=0:=by unfold BM;grind
  have c1:BM c c c a=0:=by unfold BM;grind
  have c2:BM c c c b=0:=by unfold BM;grind
  rw [AX (show ¬ (a=b/\c=c/\¬ a=c) from fun e=>hab e.1),AZ c0];unfold Ea;rw [nn a b c na nb nc];have ct:BM a b a c=tw a b c:=rfl;by_cases ht:tw a b c=0
  ·rw [AZ (show BM a b a c=0/\BM a b a c=0/\BM c c c a=0/\BM c c c b=0 from ⟨ht,ht,c1,c2⟩),Xf,afo a b c hab ht];simp only [ht,decide_true,lY,Ei,EO,and_assoc]
  ·rw [AX (show ¬ (BM a b a c=0/\BM a b a c=0/\BM c c c a=0/\BM c c c b=0) from fun e=>ht e.1)];simp [ht]
 rw [AX hcd,AX (show ¬ (a=b/\c=d/\¬ a=c) from fun e=>hab e.1)];have e1:BM a b a c=tw a b c:=rfl;have e2:BM a b a d=tw a b d:=rfl;have e0:BM a b c d=tw a b d-tw a b c:=by unfold BM tw;grind
 have es:BM a c c d=tw c d a:=by unfold BM tw;grind
 have es2:tw c d b=tw c d a-BM a b c d:=by unfold BM tw;grind
 have et:BM a c a b=- tw a b c:=by unfold BM tw;grind
 simp only [afp (nn a b c na nb nc),afp (nn a b d na nb nd)];by_cases hz:tw a b c=0/\tw a b d=0
 ·obtain ⟨z1,z2⟩:=hz;have p1:BM c d c a=0:=by
   unfold BM;refine parallel (Pt.aBG hab) ?_ ?_
   · unfold tw at z1 z2;grind
   · unfold tw at z1 z2;grind
  have p2:BM c d c b=0:=by
   unfold BM;refine parallel (Pt.aBG hab) ?_ ?_
   · unfold tw at z1 z2;grind
   · unfold tw at z1 z2;grind
  rw [AZ (show tw a b c=0/\tw a b d=0 from ⟨z1,z2⟩),AZ (show BM a b c d=0 by rw [e0,z1,z2];rfl),AZ (show BM a b a c=0/\BM a b a d=0/\BM c d c a=0/\BM c d c b=0 from ⟨z1,z2,p1,p2⟩)]
 ·rw [AX hz];simp only [afq (nn a b c na nb nc) (nn a b d na nb nd),afq (nn c d a nc nd na) (nn c d b nc nd nb),es2,et,es];generalize BM a b c d=n at *;generalize tw c d a=s at *;by_cases hn0:n=0
  ·rw [AZ hn0,AX (show ¬ (BM a b a c=0/\BM a b a d=0/\BM c d c a=0/\BM c d c b=0) from fun e=>hz ⟨e.1,e.2.1⟩),AX];omega
  ·rw [AX hn0];by_cases hneg:n<0
   ·rw [AZ hneg];have:(((0<=tw a b c/\tw a b d<=0\/tw a b c<=0/\0<=tw a b d)/\(0<=s/\s-n<=0\/s<=0/\0<=s-n))↔(0<=-s/\-s<=-n/\0<=- -tw a b c/\- -tw a b c<=-n)):=by omega
    simp only [this]
   ·rw [AX hneg];have:(((0<=tw a b c/\tw a b d<=0\/tw a b c<=0/\0<=tw a b d)/\(0<=s/\s-n<=0\/s<=0/\0<=s-n))↔(0<=s/\s<=n/\0<=-tw a b c/\-tw a b c<=n)):=by omega
    simp only [this]
structure Sg where
 arc:Ar
 i:Nat
 n:Nat
 a:Pt
 b:Pt
structure SV where
 a:Option Addr
 n:Nat
 c:Nat
def Yu (s:Sg×SV):List Value:=[.int .i64 s.1.arc.id,.int .i64 s.1.arc.fr,.int .i64 s.1.arc.dst,.slice s.2.a s.2.n s.2.c,.int .i64 s.1.arc.left,.int .i64 s.1.arc.right,.int .i64 s.1.i,.int .i64 s.1.n,.int .i64 s.1.a.x,.int .i64 s.1.a.y,.int .i64 s.1.b.x,.int .i64 s.1.b.y]
def Qx (s:Sg) (v:Value):Value:=.agg #[.int .i64 s.arc.id,.int .i64 s.arc.fr,.int .i64 s.arc.dst,v,.int .i64 s.arc.left,.int .i64 s.arc.right,.int .i64 s.i,.int .i64 s.n,.int .i64 s.a.x,.int .i64 s.a.y,.int .i64 s.b.x,.int .i64 s.b.y]
theorem AO.SC {w:World} {g:Nat} {t:TypeId} {v0 v1 v2 v3 v4 v5 v6 v7 v8 v9 v10 v11:Value} (h:AO w g t #[v0,v1,v2,v3,v4,v5,v6,v7,v8,v9,v10,v11]) :
  g<w.heap.size/\w.cell? ⟨g,0,none⟩=some v0/\w.cell? ⟨g,1,none⟩=some v1/\w.cell? ⟨g,2,none⟩=some v2/\w.cell? ⟨g,3,none⟩=some v3/\w.cell? ⟨g,4,none⟩=some v4/\w.cell? ⟨g,5,none⟩=some v5/\w.cell? ⟨g,6,none⟩=some v6/\w.cell? ⟨g,7,none⟩=some v7/\w.cell? ⟨g,8,none⟩=some v8/\w.cell? ⟨g,9,none⟩=some v9/\w.cell? ⟨g,10,none⟩=some v10/\w.cell? ⟨g,11,none⟩=some v11 /\
  w.frozen? ⟨g,0,none⟩=false/\w.frozen? ⟨g,1,none⟩=false/\w.frozen? ⟨g,2,none⟩=false/\w.frozen? ⟨g,3,none⟩=false/\w.frozen? ⟨g,4,none⟩=false/\w.frozen? ⟨g,5,none⟩=false/\w.frozen? ⟨g,6,none⟩=false/\w.frozen? ⟨g,7,none⟩=false/\w.frozen? ⟨g,8,none⟩=false/\w.frozen? ⟨g,9,none⟩=false/\w.frozen? ⟨g,10,none⟩=false/\w.frozen? ⟨g,11,none⟩=false :=
 ⟨h.lt,h.cell 0,h.cell 1,h.cell 2,h.cell 3,h.cell 4,h.cell 5,h.cell 6,h.cell 7,h.cell 8,h.cell 9,h.cell 10,h.cell 11,h.frozen 0,h.frozen 1,h.frozen 2,h.frozen 3,h.frozen 4,h.frozen 5,h.frozen 6,h.frozen 7,h.frozen 8,h.frozen 9,h.frozen 10,h.frozen 11⟩
def VW (a:Ar) (id:Int):Bool:=a.fr == id || a.dst == id
theorem anj (a:Ar) (A:Option Addr) (n c:Nat) (id:Int) (w:World) :
  Calls Tryz.prog 249 #[.agg #[.int .i64 a.id,.int .i64 a.fr,.int .i64 a.dst,.slice A n c,.int .i64 a.left,.int .i64 a.right],.int .i64 id] w fun e w'=>e=.returned (.bool (VW a id))/\AU w w':=by
 unfold VW
 cases h1:(a.fr == id)
 ·cases h2:(a.dst == id)
  all_goals
   go_enter Tryz.func249,Tryz.ntmps249;go_wp2;go_ret;exact ⟨rfl,bA (bR w) _⟩
 ·go_enter Tryz.func249,Tryz.ntmps249;go_wp2;go_ret;exact ⟨rfl,bA (bR w) _⟩
def SE (s t:Sg):Bool:=if t.i=s.i+1\/(s.i=0/\t.i+1=t.n/\s.arc.fr=s.arc.dst) then Fq s.a s.b t.a t.b == 1 else Fq s.a s.b t.a t.b == 0
theorem apart_spec (s t:Sg) (A A':Option Addr) (n n' c c':Nat) (w:World) (hs:s.i<=2097152) (ht:t.n<=2097152) (ht':1<=t.n) :
  Calls Tryz.prog 190 #[Qx s (.slice A n c),Qx t (.slice A' n' c')] w fun e w'=>e=.returned (.bool (SE s t))/\AU w w':=by
 have TM:∀ W,Calls Tryz.prog 248 #[BA s.a,BA s.b,BA t.a,BA t.b] W _:=fun W=>agN s.a s.b t.a t.b W;unfold BA at TM;have HM:=AA TM;clear TM;unfold Qx;obtain ⟨q,hq⟩:=BN (SE s t);rw [hq];unfold SE at hq;have Hq:=AA hq;clear hq;go_enter Tryz.func190,Tryz.ntmps190;go_wp2_with fail;refine (HM.out _).mono ?_;rintro e w1 ⟨rfl,hb1⟩;have Bw:AU w w1:=by
  exact EC
 have X2:AO _ (w.heap.size) 202 #[.int .i64 s.arc.id,.int .i64 s.arc.fr,.int .i64 s.arc.dst,.slice A n c,.int .i64 s.arc.left,.int .i64 s.arc.right,.int .i64 s.i,.int .i64 s.n,.int .i64 s.a.x,.int .i64 s.a.y,.int .i64 s.b.x,.int .i64 s.b.y]:=AO.keep (by repeat (first | exact AO.made Ak _ _ | refine AO.alloc ?_ _)) hb1;have X3:AO _ (w.heap.size+1) 202 #[.int .i64 t.arc.id,.int .i64 t.arc.fr,.int .i64 t.arc.dst,.slice A' n' c',.int .i64 t.arc.left,.int .i64 t.arc.right,.int .i64 t.i,.int .i64 t.n,.int .i64 t.a.x,.int .i64 t.a.y,.int .i64 t.b.x,.int .i64 t.b.y]:=AO.keep (by repeat (first | exact AO.made Ak _ _ | refine AO.alloc ?_ _)) hb1;clear hb1;generalize Fq s.a s.b t.a t.b=m at *;obtain ⟨BU,BX,Bg,CB,vG,X2e,X2f,X2g,X2h,X2i,X2j,X2k,BU,-,-,-,-,-,-,-,-,-,-,-,-⟩:=X2.SC;obtain ⟨Dk,EJ,ET,I9,KZ,PV,PW,Uf,Ug,Uh,Uy,Uz,Dk,-,-,-,-,-,-,-,-,-,-,-,-⟩:=X3.SC
 cases h1:((t.i:Int) == (s.i:Int)+1)
 case true =>
  have hf:=AA (show (m == 1)=q by rw [<- Hq.out,AZ];left;have:=eq_of_beq h1;omega);go_wp2;go_ret;exact ⟨CW hf.out,Bw⟩
 case false =>
  cases h2:((s.i:Int) == 0)
  case false =>
   have hf:=AA (show (m == 0)=q by rw [<- Hq.out,AX];simp only [beq_eq_false_iff_ne] at h1 h2;omega);go_wp2;go_ret;exact ⟨CW hf.out,Bw⟩
  case true =>
   cases h3:((t.i:Int) == (t.n:Int)-1)
   case false =>
    have hf:=AA (show (m == 0)=q by rw [<- Hq.out,AX];simp only [beq_eq_false_iff_ne,beq_iff_eq] at h1 h2 h3;omega);go_wp2;go_ret;exact ⟨CW hf.out,Bw⟩
   case true =>
    cases h4:(s.arc.fr == s.arc.dst)
    case false =>
     have hf:=AA (show (m == 0)=q by rw [<- Hq.out,AX];simp only [beq_eq_false_iff_ne,beq_iff_eq] at h1 h2 h3 h4;omega);go_wp2;go_ret;exact ⟨CW hf.out,Bw⟩
    case true =>
     have hf:=AA (show (m == 1)=q by rw [<- Hq.out,AZ];simp only [beq_eq_false_iff_ne,beq_iff_eq] at h1 h2 h3 h4;omega);go_wp2;go_ret;exact ⟨CW hf.out,Bw⟩
