import Derived.Test.YtialfdomhoojiaaGreatQRegQ
import Derived.RegionTactic
set_option linter.unusedSimpArgs false
set_option linter.unusedVariables false
set_option maxRecDepth 100000
set_option maxHeartbeats 4000000
namespace Go.Proofs.YtialfdomhoojiaaGreat
open Go.RowKit
def C9 (p:Pt):Bool:=decide (-2097152<=p.x) && decide (p.x<=2097152) && decide (-2097152<=p.y) && decide (p.y<=2097152)
def EN (l:List Pt):Bool:=l.all C9
def tw (a b c:Pt):Int:=(b.x-a.x)*(c.y-a.y)-(b.y-a.y)*(c.x-a.x)
theorem Qr (p:Pt):C9 p=true↔-2097152<=p.x/\p.x<=2097152/\-2097152<=p.y/\p.y<=2097152:=by
 simp [C9,and_assoc]
theorem acO (l:List Pt) (k:Nat) (hk:k<l.length) (h:C9 l[k]=false):EN l=false:=by
 unfold EN;rw [gY];exact ⟨l[k],BO hk,by simp [h]⟩
theorem acP (l:List Pt) (h:∀ j (hj:j<l.length),C9 l[j]=true):EN l=true:=by
 unfold EN;rw [KU];intro x hx;obtain ⟨i,hi,rfl⟩:=EF.1 hx;exact h i hi
theorem mY (v:Value) (l:List Pt) (w:World) (h:Dv w v l) :
  Calls Tryz.prog 76 #[v] w fun e w'=>e=.returned (.bool (EN l))/\AU w w':=by
 obtain ⟨A,c,rfl,hn,hc,hR⟩:=h;unfold maxLen at hc;go_enter Tryz.func76,Tryz.ntmps76;go_wp2_with fail;go_loopw [7] (fun i wr=>∃ k:Nat,k<=l.length/\i=.int .i64 k/\AU w wr/\∀ j (hj:j<l.length),j<k->C9 l[j]=true) (fun i _=>l.length-(intOf i).toNat)
 case atStart => exact ⟨0,Bv _,rfl,Below.refl _ _,fun j _ h=>by omega⟩
 case round =>
  obtain ⟨k,hk,rfl,hb,hno⟩:=hrel;have Hb:=AA hb;have Hno:=AA hno;have hs:=hb.size;clear hb hno;by_cases hlt:k<l.length
  ·obtain ⟨b,o,rfl,hlb,c0,c1⟩:=(hR.mono Hb.out).pt hlt;have HR:=AA hR;clear hR;by_cases hnr:C9 l[k]=true
   ·have Hn:=AA hnr;obtain ⟨n1,n2,n3,n4⟩:=(Qr _).1 hnr;clear hnr;go_wp2;go_roundw
    case rel => exact ⟨k+1,AB,BJ,Hb.out.alloc hs _,all_succ (p:=fun x=>C9 x=true) Hno.out hlt Hn.out⟩
    case measure => exact BL
   ·have hn':C9 l[k]=false:=by simpa using hnr
    have Hf:=AA (acO l k hlt hn');clear hn';have uT:=AA hnr;clear hnr;go_wp2
    all_goals first
     | (go_ret;exact ⟨CW Hf.out.symm,Hb.out.alloc hs _⟩)
     | (exfalso;exact uT.out ((Qr _).2 ⟨AB,AB,AB,AB⟩))
  ·go_wp2;go_ret;exact ⟨CW (acP l fun j hj=>Hno.out j hj AB).symm,Hb.out⟩
def lim (p:Pt):Prop:=-2097152<=p.x/\p.x<=2097152/\-2097152<=p.y/\p.y<=2097152
theorem Qs (a b m:Int) (h1:-m<=a) (h2:a<=m) (h3:-m<=b) (h4:b<=m):-(m*m)<=a*b/\a*b<=m*m:=by
 have hm:0<=m:=by omega
 rcases Zp 0 a with ha | ha<;>rcases Zp 0 b with hb | hb
 · exact ⟨by have:=KR ha hb;have:=KR hm hm;omega,aal h2 h4 hb hm⟩
 ·have e:a*b=-(a * -b):=by rw [aAE];omega
  have h:=aal h2 (show -b<=m by omega) AB hm;have h':=KR ha (show 0<=-b by omega);have:=KR hm hm
  omega
 ·have e:a*b=-(-a*b):=by rw [Oh];omega
  have h:=aal (show -a<=m by omega) h4 hb hm;have h':=KR (show 0<=-a by omega) hb;have:=KR hm hm
  omega
 ·have e:a*b=-a * -b:=by rw [Int.neg_mul_neg]
  have h:=aal (show -a<=m by omega) (show -b<=m by omega) AB hm;have h':=KR (show 0<=-a by omega) (show 0<=-b by omega);have:=KR hm hm
  omega
theorem ag1 (a b c:Pt) (w:World) (ha:lim a) (hb:lim b) (hc:lim c) :
  Calls Tryz.prog 77 #[BA a,BA b,BA c] w fun e w'=>e=.returned (.int .i64 (tw a b c))/\AU w w':=by
 obtain ⟨a1,a2,a3,a4⟩:=ha;obtain ⟨b1,b2,b3,b4⟩:=hb;obtain ⟨c1,c2,c3,c4⟩:=hc;obtain ⟨m1,m2⟩:=Qs (b.x-a.x) (c.y-a.y) 4194304 AB AB AB AB;obtain ⟨m3,m4⟩:=Qs (b.y-a.y) (c.x-a.x) 4194304 AB AB AB AB;simp only [Int.reduceMul,Int.reduceNeg] at m1 m2 m3 m4;unfold BA;go_enter Tryz.func77,Tryz.ntmps77;go_wp2;go_ret;exact ⟨Df rfl,(((Below.refl _ _).alloc (Dc _) _).alloc Ak _).alloc DT _⟩
theorem UZ {p:Pt} (h:C9 p=true):lim p:=(Qr p).1 h
theorem aAl {a b c:Pt} (h:EN [a,b,c]=true):lim a/\lim b/\lim c:=by
 simp only [EN,aAF,aam,aan,Ei] at h;exact ⟨UZ h.1,UZ h.2.1,UZ h.2.2⟩
theorem an3 {a b c d:Pt} (h:EN [a,b,c,d]=true):lim a/\lim b/\lim c/\lim d:=by
 simp only [EN,aAF,aam,aan,Ei] at h;exact ⟨UZ h.1,UZ h.2.1,UZ h.2.2.1,UZ h.2.2.2⟩
def Yq (a b c:Pt):Int:=if EN [a,b,c]=true then tw a b c else 0
theorem an4 (a b c:Pt) (w:World) :
  Calls Tryz.prog 102 #[BA a,BA b,BA c] w fun e w'=>e=.returned (.int .i64 (Yq a b c))/\AU w w':=by
 unfold BA;by_cases hn:EN [a,b,c]=true
 ·obtain ⟨ha,hb,hc⟩:=aAl hn;have Ha:=AA ha;have Hb:=AA hb;have Hc:=AA hc;clear ha hb hc;go_enter Tryz.func102,Tryz.ntmps102;go_wp2_with fail;refine (mY _ [a,b,c] _ (Dv.aB (AO.made Ak _ _))).mono ?_;rintro e w1 ⟨rfl,hb1⟩;obtain ⟨acQ,acR⟩:=VX hb1;have iO:=hb1.size
  try simp only [World.size_alloc,World.size_setCell,World.size_drew] at iO
  have acS:w.heap.size<w1.heap.size:=by omega
  have abq:w.heap.size+1<w1.heap.size:=by omega
  have abr:w.heap.size+1+1<w1.heap.size:=by omega
  go_wp2_with fail;refine (ag1 a b c _ Ha.out Hb.out Hc.out).mono ?_;rintro e w2 ⟨rfl,hb2⟩;go_wp2;go_ret;refine ⟨Df (by simp [Yq,hn]),?_⟩;exact EC
 ·have hn':EN [a,b,c]=false:=by simpa using hn
  clear hn;go_enter Tryz.func102,Tryz.ntmps102;go_wp2_with fail;refine (mY _ [a,b,c] _ (Dv.aB (AO.made Ak _ _))).mono ?_;rintro e w1 ⟨rfl,hb1⟩;obtain ⟨acQ,acR⟩:=VX hb1;have iO:=hb1.size
  try simp only [World.size_alloc,World.size_setCell,World.size_drew] at iO
  have acS:w.heap.size<w1.heap.size:=by omega
  have abq:w.heap.size+1<w1.heap.size:=by omega
  have abr:w.heap.size+1+1<w1.heap.size:=by omega
  go_wp2;go_ret;refine ⟨Df (by simp [Yq,hn']),?_⟩;exact EC
def FQ (a b c:Pt):Int:=if 0<Yq a b c then 1 else if Yq a b c<0 then -1 else 0
theorem ag2 (a b c:Pt) (w:World) :
  Calls Tryz.prog 200 #[BA a,BA b,BA c] w fun e w'=>e=.returned (.int .i64 (FQ a b c))/\AU w w':=by
 have T:∀ W,Calls Tryz.prog 102 #[BA a,BA b,BA c] W _:=fun W=>an4 a b c W;unfold BA at T ⊢;unfold FQ;generalize Yq a b c=t at *;have HT:=AA T;clear T;go_enter Tryz.func200,Tryz.ntmps200;go_wp2_with fail;refine (HT.out _).mono ?_;rintro e w1 ⟨rfl,hb1⟩;go_wp2_with fail
 all_goals
  go_ret;refine ⟨Df rfl,?_⟩;exact EC
def Ea (a b p:Pt):Bool:=EN [a,b,p] && decide (tw a b p=0) && decide (min a.x b.x<=p.x) && decide (p.x<=max a.x b.x) && decide (min a.y b.y<=p.y) && decide (p.y<=max a.y b.y)
theorem tJ (a b p:Pt) (w:World) :
  Calls Tryz.prog 28 #[BA a,BA b,BA p] w fun e w'=>e=.returned (.bool (Ea a b p))/\AU w w':=by
 unfold BA;by_cases hn:EN [a,b,p]=true
 ·obtain ⟨ha,hb,hc⟩:=aAl hn;have T:∀ W,Calls Tryz.prog 77 #[BA a,BA b,BA p] W _:=fun W=>ag1 a b p W ha hb hc;unfold BA at T;have hS:Ea a b p=(decide (tw a b p=0) && decide (min a.x b.x<=p.x) && decide (p.x<=max a.x b.x) && decide (min a.y b.y<=p.y) && decide (p.y<=max a.y b.y)):=by simp [Ea,hn]
  rw [hS];generalize tw a b p=t at *;have HT:=AA T;clear T ha hb hc hS;go_enter Tryz.func28,Tryz.ntmps28;go_wp2_with fail;refine (mY _ [a,b,p] _ (Dv.aB (AO.made Ak _ _))).mono ?_;rintro e w1 ⟨rfl,hb1⟩;obtain ⟨acQ,acR⟩:=VX hb1;have iO:=hb1.size
  try simp only [World.size_alloc,World.size_setCell,World.size_drew] at iO
  have acS:w.heap.size<w1.heap.size:=by omega
  have abq:w.heap.size+1<w1.heap.size:=by omega
  have abr:w.heap.size+1+1<w1.heap.size:=by omega
  go_wp2_with fail;refine (HT.out _).mono ?_;rintro e w2 ⟨rfl,hb2⟩;obtain ⟨an5,an6⟩:=VX hb2;have abt:=hb2.size
  try simp only [World.size_alloc,World.size_setCell,World.size_drew] at abt
  have an7:w.heap.size<w2.heap.size:=by omega
  have an8:w.heap.size+1<w2.heap.size:=by omega
  have an9:w.heap.size+1+1<w2.heap.size:=by omega
  by_cases ht:t=0
  ·subst ht;go_wp2_with fail
   all_goals
    go_ret;refine ⟨CW (by rw [MH];simp only [Ei,EO,Rq,false_iff,true_iff];omega),?_⟩;exact EC
  ·have ht':(t == 0)=false:=by simpa using ht
   go_wp2;go_ret;refine ⟨CW (by simp [ht]),?_⟩;exact EC
 ·have hn':EN [a,b,p]=false:=by simpa using hn
  clear hn;go_enter Tryz.func28,Tryz.ntmps28;go_wp2_with fail;refine (mY _ [a,b,p] _ (Dv.aB (AO.made Ak _ _))).mono ?_;rintro e w1 ⟨rfl,hb1⟩;obtain ⟨acQ,acR⟩:=VX hb1;have iO:=hb1.size
  try simp only [World.size_alloc,World.size_setCell,World.size_drew] at iO
  have acS:w.heap.size<w1.heap.size:=by omega
  have abq:w.heap.size+1<w1.heap.size:=by omega
  have abr:w.heap.size+1+1<w1.heap.size:=by omega
  go_wp2;go_ret;refine ⟨CW (by simp [Ea,hn']),?_⟩;exact EC
theorem anA (a b:Pt) (w:World) :
  Calls Tryz.prog 297 #[BA a,BA b] w fun e w'=>e=.returned (.bool (CP a b))/\AU w w':=by
 unfold BA;by_cases h1:a.x<b.x
 ·go_enter Tryz.func297,Tryz.ntmps297;go_wp2;go_ret;refine ⟨CW (by simp [CP,h1]),?_⟩;exact EC
 ·by_cases h2:(a.x == b.x)=true
  ·go_enter Tryz.func297,Tryz.ntmps297;go_wp2;go_ret;refine ⟨CW (by simp only [CP];simp_all),?_⟩;exact EC
  ·have h2':(a.x == b.x)=false:=by simpa using h2
   clear h2;go_enter Tryz.func297,Tryz.ntmps297;go_wp2;go_ret;refine ⟨CW (by simp only [CP];simp_all),?_⟩;exact EC
def KL (a b c d:Pt):Int :=
 let a':=if CP b a then b else a
 let b':=if CP b a then a else b
 let c':=if CP d c then d else c
 let d':=if CP d c then c else d
 let f:=if CP a' c' then c' else a'
 let l:=if CP d' b' then d' else b'
 if f=l then 1 else if CP f l then 2 else 0
theorem ao3 (a b c d:Pt) (w:World) :
  Calls Tryz.prog 286 #[BA a,BA b,BA c,BA d] w fun e w'=>e=.returned (.int .i64 (KL a b c d))/\AU w w':=by
 have T:∀ p q:Pt,∀ W,Calls Tryz.prog 297 #[BA p,BA q] W _:=fun p q W=>anA p q W;unfold BA at T ⊢;have HT:=AA T;clear T;go_enter Tryz.func286,Tryz.ntmps286;go_wp2_with fail;refine (HT.out b a _).mono ?_;rintro e w1 ⟨rfl,hb1⟩;have N9:AU w w1:=by
  exact EC
 have X4:Boxed w1 w.heap.size a:=((((Boxed.new _ a rfl).alloc _).alloc _).alloc _).keep hb1;have X5:Boxed w1 (w.heap.size+1) b:=(((Boxed.new _ b Ak).alloc _).alloc _).keep hb1;have X6:Boxed w1 (w.heap.size+1+1) c:=((Boxed.new _ c Ak).alloc _).keep hb1;have X7:Boxed w1 (w.heap.size+1+1+1) d:=(Boxed.new _ d Ak).keep hb1;clear hb1;go_upto_if 13 with fail;go_cut [] (fun wx=>Boxed wx w.heap.size (if CP b a then b else a)/\Boxed wx (w.heap.size+1) (if CP b a then a else b)/\Boxed wx (w.heap.size+1+1) c/\Boxed wx (w.heap.size+1+1+1) d/\AU w wx)
 case first =>
  obtain ⟨Ua,x40,x41,x4f,x4g⟩:=X4.facts;obtain ⟨Ub,Uc,Ud,x5f,x5g⟩:=X5.facts
  cases h:CP b a
  ·go_wp2;go_meet
   case rel =>
   rw [h];exact ⟨X4,X5,X6,X7,N9⟩
  ·go_wp2;go_meet
   case rel =>
   rw [h];exact ⟨(X4.EI.far DK _).far DK _,(X5.far DK _ |>.far DK _).EI,(((X6.far DK _).far DK _).far DK _).far DK _,(((X7.far DK _).far DK _).far DK _).far DK _,bS (bS (bS (bS N9 DK _) DK _) DK _) DK _⟩
 case rest =>
  clear N9 X4 X5 X6 X7;obtain ⟨X4,X5,X6,X7,Bw⟩:=hcut;obtain ⟨a1,ha1⟩:=BR ((if CP b a then b else a));obtain ⟨b1,hb1⟩:=BR ((if CP b a then a else b));rw [<- ha1] at X4;rw [<- hb1] at X5;have Ha:=AA ha1;clear ha1;have Hb:=AA hb1;clear hb1;obtain ⟨Vd,Ve,Vf,-,-⟩:=X6.facts;obtain ⟨QH,Qu,Qv,-,-⟩:=X7.facts;go_wp2_with fail;refine (HT.out d c _).mono ?_;rintro e w2 ⟨rfl,hb2⟩;clear Vd Ve Vf QH Qu Qv;replace Bw:AU w w2:=bT Bw hb2;replace X4:=X4.keep hb2;replace X5:=X5.keep hb2;replace X6:=X6.keep hb2;replace X7:=X7.keep hb2;clear hb2;go_upto_if 18 with fail;go_cut [] (fun wx=>Boxed wx w.heap.size a1/\Boxed wx (w.heap.size+1) b1/\Boxed wx (w.heap.size+1+1) (if CP d c then d else c)/\Boxed wx (w.heap.size+1+1+1) (if CP d c then c else d)/\AU w wx)
  case first =>
   obtain ⟨Vd,Ve,Vf,x6f,x6g⟩:=X6.facts;obtain ⟨QH,Qu,Qv,x7f,x7g⟩:=X7.facts
   cases h:CP d c
   ·go_wp2;go_meet
    case rel =>
    rw [h];exact ⟨X4,X5,X6,X7,Bw⟩
   ·go_wp2;go_meet
    case rel =>
    rw [h];exact ⟨(((X4.far DK _).far DK _).far DK _).far DK _,(((X5.far DK _).far DK _).far DK _).far DK _,(X6.EI.far DK _).far DK _,(X7.far DK _ |>.far DK _).EI,bS (bS (bS (bS Bw DK _) DK _) DK _) DK _⟩
  case rest =>
   clear Bw X4 X5 X6 X7;obtain ⟨X4,X5,X6,X7,Bw⟩:=hcut;obtain ⟨c1,hc1⟩:=BR ((if CP d c then d else c));obtain ⟨d1,hd1⟩:=BR ((if CP d c then c else d));rw [<- hc1] at X6;rw [<- hd1] at X7;have Hc:=AA hc1;clear hc1;have Hd:=AA hd1;clear hd1;obtain ⟨Ua,x40,x41,x4f,x4g⟩:=X4.facts;obtain ⟨Ub,Uc,Ud,x5f,x5g⟩:=X5.facts;go_upto_region 5 with fail;go_cut [9,10] (fun s9 s10 wx=>∃ g9 g10:Nat,s9=.pointer (some ⟨g9,0,none⟩)/\s10=.pointer (some ⟨g10,0,none⟩)/\Boxed wx g9 a1/\Boxed wx g10 b1/\g9≠g10/\w.heap.size+1+1+1<g9/\w.heap.size+1+1+1<g10/\Boxed wx (w.heap.size+1+1) c1/\Boxed wx (w.heap.size+1+1+1) d1/\AU w wx)
   case first =>
    have QH:=X7.lt;go_region
    ·go_wp2;go_meet
     case rel => exact ⟨_,_,rfl,rfl,((Boxed.new _ a1 rfl).alloc _).drew,(Boxed.new _ b1 Ak).drew,DK,DK,DK,((X6.alloc _).alloc _).drew,((X7.alloc _).alloc _).drew,bD (bA (bA Bw _) _)⟩
    ·go_wp2;go_meet
     case rel => exact ⟨_,_,rfl,rfl,(Boxed.new _ a1 Ak).drew,((Boxed.new _ b1 rfl).alloc _).drew,DK,DK,DK,((X6.alloc _).alloc _).drew,((X7.alloc _).alloc _).drew,bD (bA (bA Bw _) _)⟩
   case rest =>
    clear Bw X4 X5 X6 X7 Ua x40 x41 x4f x4g Ub Uc Ud x5f x5g;obtain ⟨g9,g10,rfl,rfl,X9,EY,hne,Je,MI,X6,X7,Bw⟩:=hcut;obtain ⟨x9l,x90,x91,-,-⟩:=X9.facts;obtain ⟨Vd,Ve,Vf,-,-⟩:=X6.facts;go_wp2_with fail;refine (HT.out a1 c1 _).mono ?_;rintro e w3 ⟨rfl,hb3⟩;replace Bw:AU w w3:=bT Bw hb3;replace X9:=X9.keep hb3;replace EY:=EY.keep hb3;replace X6:=X6.keep hb3;replace X7:=X7.keep hb3;clear hb3 x9l x90 x91 Vd Ve Vf;go_upto_if 25 with fail;go_cut [] (fun wx=>Boxed wx g9 (if CP a1 c1 then c1 else a1)/\Boxed wx g10 b1/\Boxed wx (w.heap.size+1+1+1) d1/\AU w wx)
    case first =>
     obtain ⟨x9l,x90,x91,x9f,x9g⟩:=X9.facts;obtain ⟨Vd,Ve,Vf,x6f,x6g⟩:=X6.facts
     cases h:CP a1 c1
     ·go_wp2;go_meet
      case rel =>
      rw [h];exact ⟨X9,EY,X7,Bw⟩
     ·go_wp2;go_meet
      case rel =>
      rw [h];exact ⟨X9.EI,(EY.far DK _).far DK _,(X7.far DK _).far DK _,bS (bS Bw DK _) DK _⟩
    case rest =>
     clear Bw X9 EY X6 X7;obtain ⟨X9,EY,X7,Bw⟩:=hcut;obtain ⟨f1,hf1⟩:=BR ((if CP a1 c1 then c1 else a1));rw [<- hf1] at X9;have Hf:=AA hf1;clear hf1;obtain ⟨abu,x100,x101,-,-⟩:=EY.facts;obtain ⟨QH,Qu,Qv,-,-⟩:=X7.facts;go_wp2_with fail;refine (HT.out d1 b1 _).mono ?_;rintro e w4 ⟨rfl,hb4⟩;replace Bw:AU w w4:=bT Bw hb4;replace X9:=X9.keep hb4;replace EY:=EY.keep hb4;replace X7:=X7.keep hb4;clear hb4 abu x100 x101 QH Qu Qv;go_upto_if 29 with fail;go_cut [] (fun wx=>Boxed wx g9 f1/\Boxed wx g10 (if CP d1 b1 then d1 else b1)/\AU w wx)
     case first =>
      obtain ⟨abu,x100,x101,x10f,ayj⟩:=EY.facts;obtain ⟨QH,Qu,Qv,x7f,x7g⟩:=X7.facts
      cases h:CP d1 b1
      ·go_wp2;go_meet
       case rel =>
       rw [h];exact ⟨X9,EY,Bw⟩
      ·go_wp2;go_meet
       case rel =>
       rw [h];exact ⟨(X9.far DK _).far DK _,EY.EI,bS (bS Bw DK _) DK _⟩
     case rest =>
      clear Bw X9 EY X7;obtain ⟨X9,EY,Bw⟩:=hcut;obtain ⟨l1,hl1⟩:=BR ((if CP d1 b1 then d1 else b1));rw [<- hl1] at EY;have Hl:=AA hl1;clear hl1;have HS:KL a b c d=if f1=l1 then 1 else if CP f1 l1 then 2 else 0:=by
       rw [Hf.out,Hl.out,Ha.out,Hb.out,Hc.out,Hd.out];rfl
      replace HS:=AA HS;obtain ⟨abu,x100,x101,-,-⟩:=EY.facts;obtain ⟨x9l,x90,x91,-,-⟩:=X9.facts;have hE:=UF f1 l1;go_wp2_with fail
      ·go_ret;refine ⟨Df ?_,Bw⟩;rw [HS.out,AZ KT]
      ·refine (HT.out f1 l1 _).mono ?_;rintro e w5 ⟨rfl,hb5⟩;have hfl:¬ f1=l1:=by assumption
       cases h:CP f1 l1
       ·go_wp2;go_ret;refine ⟨Df ?_,bT Bw hb5⟩;rw [HS.out,AX hfl,h];rfl
       ·go_wp2;go_ret;refine ⟨Df ?_,bT Bw hb5⟩;rw [HS.out,AX hfl,h];rfl
def JX (a b c d:Pt):Int :=
 if EN [a,b,c,d]=true then
  if a=b then (if Ea c d a then 1 else 0)
  else if c=d then (if Ea a b c then 1 else 0)
  else if FQ a b c=0/\FQ a b d=0 then KL a b c d
  else if FQ a b c*FQ a b d<=0/\FQ c d a*FQ c d b<=0 then 1 else 0
 else 0
theorem aAm (a b c:Pt):-1<=FQ a b c/\FQ a b c<=1:=by
 unfold FQ;split
 · omega
 · split<;>omega
theorem ao4 (a b c d:Pt) (w:World) :
  Calls Tryz.prog 260 #[BA a,BA b,BA c,BA d] w fun e w'=>e=.returned (.int .i64 (JX a b c d))/\AU w w':=by
 have TS:∀ p q r:Pt,∀ W,Calls Tryz.prog 200 #[BA p,BA q,BA r] W _:=fun p q r W=>ag2 p q r W;have TO:∀ p q r:Pt,∀ W,Calls Tryz.prog 28 #[BA p,BA q,BA r] W _:=fun p q r W=>tJ p q r W;have TH:∀ p q r s:Pt,∀ W,Calls Tryz.prog 286 #[BA p,BA q,BA r,BA s] W _:=fun p q r s W=>ao3 p q r s W;unfold BA at TS TO TH ⊢;have HS:=AA TS;clear TS;have HO:=AA TO;clear TO;have HH:=AA TH;clear TH;by_cases hn:EN [a,b,c,d]=true
 case neg =>
  have hn':EN [a,b,c,d]=false:=by simpa using hn
  have hm:JX a b c d=0:=by simp [JX,hn']
  have Hm:=AA hm;clear hn hm;go_enter Tryz.func260,Tryz.ntmps260;go_wp2_with fail;refine (mY _ [a,b,c,d] _ (Dv.aAu (AO.made Ak _ _))).mono ?_;rintro e w1 ⟨rfl,hb1⟩;go_wp2;go_ret;refine ⟨Df Hm.out.symm,?_⟩;exact EC
 case pos =>
 have Hn:=AA hn;go_enter Tryz.func260,Tryz.ntmps260;go_wp2_with fail;refine (mY _ [a,b,c,d] _ (Dv.aAu (AO.made Ak _ _))).mono ?_;rintro e w1 ⟨rfl,hb1⟩;have Bw:AU w w1:=by
  exact EC
 have X4:Boxed w1 w.heap.size a:=(((((Boxed.new _ a rfl).alloc _).alloc _).alloc _).alloc _).keep hb1;have X5:Boxed w1 (w.heap.size+1) b:=((((Boxed.new _ b Ak).alloc _).alloc _).alloc _).keep hb1;have X6:Boxed w1 (w.heap.size+1+1) c:=(((Boxed.new _ c Ak).alloc _).alloc _).keep hb1;have X7:Boxed w1 (w.heap.size+1+1+1) d:=((Boxed.new _ d Ak).alloc _).keep hb1;clear hb1;obtain ⟨Ua,x40,x41,-,-⟩:=X4.facts;obtain ⟨Ub,Uc,Ud,-,-⟩:=X5.facts;obtain ⟨Vd,Ve,Vf,-,-⟩:=X6.facts;obtain ⟨QH,Qu,Qv,-,-⟩:=X7.facts;have hE1:=UF a b;have hE2:=UF c d;have hs1:=aAm a b c;have hs2:=aAm a b d;have hs3:=aAm c d a;have hs4:=aAm c d b;by_cases hab:a=b
 ·have hm:JX a b c d=if Ea c d a then 1 else 0:=by rw [JX,AZ Hn.out,AZ hab]
  have Hm:=AA hm;clear hm;have hab':decide (a=b)=true:=by simpa using hab
  have Hab:=AA hab;clear hab;go_wp2_with fail;refine (HO.out c d a _).mono ?_;rintro e w2 ⟨rfl,hb2⟩
  cases h:Ea c d a
  ·rw [h] at Hm;go_wp2;go_ret;refine ⟨Df Hm.out.symm,?_⟩;exact EC
  ·rw [h] at Hm;go_wp2;go_ret;refine ⟨Df Hm.out.symm,?_⟩;exact EC
 by_cases hcd:c=d
 ·have hm:JX a b c d=if Ea a b c then 1 else 0:=by rw [JX,AZ Hn.out,AX hab,AZ hcd]
  have Hm:=AA hm;clear hm;have hab':decide (a=b)=false:=by simpa using hab
  have ag3:decide (c=d)=true:=by simpa using hcd
  have Hcd:=AA hcd;clear hab hcd;go_wp2_with fail;refine (HO.out a b c _).mono ?_;rintro e w2 ⟨rfl,hb2⟩
  cases h:Ea a b c
  ·rw [h] at Hm;go_wp2;go_ret;refine ⟨Df Hm.out.symm,?_⟩;exact EC
  ·rw [h] at Hm;go_wp2;go_ret;refine ⟨Df Hm.out.symm,?_⟩;exact EC
 by_cases hl:FQ a b c=0/\FQ a b d=0
 ·have hm:JX a b c d=KL a b c d:=by rw [JX,AZ Hn.out,AX hab,AX hcd,AZ hl]
  have Hm:=AA hm;clear hm;have hab':decide (a=b)=false:=by simpa using hab
  have ag3:decide (c=d)=false:=by simpa using hcd
  obtain ⟨l1,l2⟩:=hl;have L1:=AA l1;have L2:=AA l2;clear hab hcd l1 l2;go_wp2_with fail;refine (HS.out a b c _).mono ?_;rintro e w2 ⟨rfl,hb2⟩;rw [L1.out];replace Bw:AU w w2:=bT Bw hb2;replace X4:=X4.keep hb2;replace X5:=X5.keep hb2;replace X6:=X6.keep hb2;replace X7:=X7.keep hb2;clear hb2 Ua x40 x41 Ub Uc Ud Vd Ve Vf QH Qu Qv;obtain ⟨Ua,x40,x41,-,-⟩:=X4.facts;obtain ⟨Ub,Uc,Ud,-,-⟩:=X5.facts;obtain ⟨QH,Qu,Qv,-,-⟩:=X7.facts;go_wp2_with fail;refine (HS.out a b d _).mono ?_;rintro e w3 ⟨rfl,hb3⟩;rw [L2.out];replace Bw:AU w w3:=bT Bw hb3;replace X4:=X4.keep hb3;replace X5:=X5.keep hb3;replace X6:=X6.keep hb3;replace X7:=X7.keep hb3;clear hb3 Ua x40 x41 Ub Uc Ud QH Qu Qv;obtain ⟨Ua,x40,x41,-,-⟩:=X4.facts;obtain ⟨Ub,Uc,Ud,-,-⟩:=X5.facts;obtain ⟨Vd,Ve,Vf,-,-⟩:=X6.facts;obtain ⟨QH,Qu,Qv,-,-⟩:=X7.facts;go_wp2_with fail;refine (HH.out a b c d _).mono ?_;rintro e w4 ⟨rfl,hb4⟩;go_wp2;go_ret;refine ⟨Df Hm.out.symm,?_⟩;exact EC
 have hm:JX a b c d=if FQ a b c*FQ a b d<=0/\FQ c d a*FQ c d b<=0 then 1 else 0:=by rw [JX,AZ Hn.out,AX hab,AX hcd,AX hl]
 have Hm:=AA hm;clear hm;have hab':decide (a=b)=false:=by simpa using hab
 have ag3:decide (c=d)=false:=by simpa using hcd
 have Hl:=AA hl;clear hab hcd hl;go_upto_region 9 with fail;go_cut [55] (fun s55 wx=>s55=.bool false/\Boxed wx w.heap.size a/\Boxed wx (w.heap.size+1) b/\Boxed wx (w.heap.size+1+1) c/\Boxed wx (w.heap.size+1+1+1) d/\AU w wx)
 case first =>
  go_wp2_with fail;refine (HS.out a b c _).mono ?_;rintro e w2 ⟨rfl,hb2⟩;replace Bw:AU w w2:=bT Bw hb2;replace X4:=X4.keep hb2;replace X5:=X5.keep hb2;replace X6:=X6.keep hb2;replace X7:=X7.keep hb2;clear hb2 Ua x40 x41 Ub Uc Ud Vd Ve Vf QH Qu Qv;by_cases hz:FQ a b c=0
  ·have hz2:¬ FQ a b d=0:=fun h=>Hl.out ⟨hz,h⟩;have hz2':(FQ a b d == 0)=false:=by simpa using hz2
   have Hz2:=AA hz2;clear hz2;rw [hz];clear hz;obtain ⟨Ua,x40,x41,-,-⟩:=X4.facts;obtain ⟨Ub,Uc,Ud,-,-⟩:=X5.facts;obtain ⟨QH,Qu,Qv,-,-⟩:=X7.facts;go_wp2_with fail;refine (HS.out a b d _).mono ?_;rintro e w3 ⟨rfl,hb3⟩;replace Bw:AU w w3:=bT Bw hb3;replace X4:=X4.keep hb3;replace X5:=X5.keep hb3;replace X6:=X6.keep hb3;replace X7:=X7.keep hb3;clear hb3 Ua x40 x41 Ub Uc Ud QH Qu Qv;go_wp2;go_meet
   case rel => exact ⟨rfl,X4,X5,X6,X7,Bw⟩
  ·have hz':(FQ a b c == 0)=false:=by simpa using hz
   have Hz:=AA hz;clear hz;go_wp2;go_meet
   case rel => exact ⟨rfl,X4,X5,X6,X7,Bw⟩
 case rest =>
  clear X4 X5 X6 X7 Bw Ua x40 x41 Ub Uc Ud Vd Ve Vf QH Qu Qv Hl;obtain ⟨rfl,X4,X5,X6,X7,Bw⟩:=hcut;obtain ⟨Ua,x40,x41,-,-⟩:=X4.facts;obtain ⟨Ub,Uc,Ud,-,-⟩:=X5.facts;obtain ⟨Vd,Ve,Vf,-,-⟩:=X6.facts;obtain ⟨QH,Qu,Qv,-,-⟩:=X7.facts;go_upto_region 4 with fail;obtain ⟨p1,p2⟩:=Qs (FQ a b c) (FQ a b d) 1 AB AB AB AB;obtain ⟨p3,p4⟩:=Qs (FQ c d a) (FQ c d b) 1 AB AB AB AB;simp only [Int.reduceMul,Int.reduceNeg] at p1 p2 p3 p4;have hw1:IntKind.i64.wrap (FQ a b c*FQ a b d)=FQ a b c*FQ a b d:=D6 _ AB;have hw2:IntKind.i64.wrap (FQ c d a*FQ c d b)=FQ c d a*FQ c d b:=D6 _ AB;by_cases hg:FQ a b c*FQ a b d<=0
  ·have hg':decide (FQ a b c*FQ a b d<=0)=true:=by simpa using hg
   clear hs1 hs2 hs3 hs4;go_region_held3 (fun W=>W.cell? ⟨w.heap.size,0,none⟩=some (.int .i64 a.x)/\W.cell? ⟨w.heap.size,1,none⟩=some (.int .i64 a.y)/\W.cell? ⟨w.heap.size+1,0,none⟩=some (.int .i64 b.x)/\W.cell? ⟨w.heap.size+1,1,none⟩=some (.int .i64 b.y)/\W.cell? ⟨w.heap.size+1+1,0,none⟩=some (.int .i64 c.x)/\W.cell? ⟨w.heap.size+1+1,1,none⟩=some (.int .i64 c.y)/\W.cell? ⟨w.heap.size+1+1+1,0,none⟩=some (.int .i64 d.x)/\W.cell? ⟨w.heap.size+1+1+1,1,none⟩=some (.int .i64 d.y)) ((repeat' apply And.intro)<;>(repeat (refine Eh KT ?_))<;>(first | assumption | simp [*]))
     (first | (go_at_call 200;refine (HS.out _ _ _ _).mono ?_;rintro e w' ⟨rfl,hb'⟩))
   by_cases hg2:FQ c d a*FQ c d b<=0
   ·have hq:JX a b c d=1:=by rw [Hm.out,AZ ⟨hg,hg2⟩]
    have Hq:=AA hq;clear hq Hm;go_wp2;go_ret;refine ⟨Df Hq.out.symm,?_⟩;exact EC
   ·have hq:JX a b c d=0:=by rw [Hm.out,AX (fun h=>hg2 h.2)]
    have Hq:=AA hq;clear hq Hm;go_wp2;go_ret;refine ⟨Df Hq.out.symm,?_⟩;exact EC
  ·have hg':decide (FQ a b c*FQ a b d<=0)=false:=by simpa using hg
   have hq:JX a b c d=0:=by rw [Hm.out,AX (fun h=>hg h.1)]
   have Hq:=AA hq;clear hq Hm;clear hs1 hs2 hs3 hs4;refine DJ (wc) (.run 3 0 0 (.run 3 4 7 (.call 3 127 (.call 7 255 (.run 15 8 255 (.done)))))) fun CU QR Ae Ah hS=>?_
   iterate 6 refine Aj ?_
   refine GL (HS.out a b c _) ?_;clear hS;intro CX CV hS;refine GL (HS.out a b d _) ?_;clear hS;intro wr2 Fp hS
   iterate 3 refine Aj ?_
   iterate 10 refine Jh ?_
   iterate 2 refine Aj ?_
   refine DF ?_;clear hS Ah Ae;intro hB;go_wp2;go_ret;refine ⟨Df Hq.out.symm,?_⟩;exact EC
theorem tK (v:Value) (l:List Pt) (w:World) (h:Dv w v l) :
  Calls Tryz.prog 212 #[v] w fun e w'=>e=.returned (.bool (EN l))/\AU w w':=by
 obtain ⟨A,c,rfl,hn,hc,hR⟩:=h;unfold maxLen at hc;go_enter Tryz.func212,Tryz.ntmps212;go_wp2_with fail;go_loopw [3] (fun i wr=>∃ k:Nat,k<=l.length/\i=.int .i64 k/\AU w wr/\∀ j (hj:j<l.length),j<k->C9 l[j]=true) (fun i _=>l.length-(intOf i).toNat)
 case atStart => exact ⟨0,Bv _,rfl,Below.refl _ _,fun j _ h=>by omega⟩
 case round =>
  obtain ⟨k,hk,rfl,hb,hno⟩:=hrel;have Hb:=AA hb;have Hno:=AA hno;have hs:=hb.size;clear hb hno;by_cases hlt:k<l.length
  ·obtain ⟨b,o,rfl,hlb,c0,c1⟩:=(hR.mono Hb.out).pt hlt;have HR:=AA hR;clear hR;by_cases hnr:C9 l[k]=true
   ·have Hn:=AA hnr;obtain ⟨n1,n2,n3,n4⟩:=(Qr _).1 hnr;clear hnr;go_wp2;go_roundw
    case rel => exact ⟨k+1,AB,BJ,Hb.out,all_succ (p:=fun x=>C9 x=true) Hno.out hlt Hn.out⟩
    case measure => exact BL
   ·have hn':C9 l[k]=false:=by simpa using hnr
    have Hf:=AA (acO l k hlt hn');clear hn';have uT:=AA hnr;clear hnr;go_wp2
    all_goals first
     | (go_ret;exact ⟨CW Hf.out.symm,Hb.out⟩)
     | (exfalso;exact uT.out ((Qr _).2 ⟨AB,AB,AB,AB⟩))
  ·go_wp2;go_ret;exact ⟨CW (acP l fun j hj=>Hno.out j hj AB).symm,Hb.out⟩
def BM (a b c d:Pt):Int:=(b.x-a.x)*(d.y-c.y)-(b.y-a.y)*(d.x-c.x)
def Yr (a b c d:Pt):Int:=(b.x-a.x)*(d.x-c.x)+(b.y-a.y)*(d.y-c.y)
theorem abv (a b c d:Pt) (w:World) (ha:lim a) (hb:lim b) (hc:lim c) (hd:lim d) :
  Calls Tryz.prog 213 #[BA a,BA b,BA c,BA d] w fun e w'=>e=.returned (.int .i64 (BM a b c d))/\AU w w':=by
 obtain ⟨a1,a2,a3,a4⟩:=ha;obtain ⟨b1,b2,b3,b4⟩:=hb;obtain ⟨c1,c2,c3,c4⟩:=hc;obtain ⟨d1,d2,d3,d4⟩:=hd;obtain ⟨m1,m2⟩:=Qs (b.x-a.x) (d.y-c.y) 4194304 AB AB AB AB;obtain ⟨m3,m4⟩:=Qs (b.y-a.y) (d.x-c.x) 4194304 AB AB AB AB;simp only [Int.reduceMul,Int.reduceNeg] at m1 m2 m3 m4;unfold BA;go_enter Tryz.func213,Tryz.ntmps213;go_wp2;go_ret;refine ⟨Df rfl,?_⟩;exact EC
theorem ao5 (a b c d:Pt) (w:World) (ha:lim a) (hb:lim b) (hc:lim c) (hd:lim d) :
  Calls Tryz.prog 214 #[BA a,BA b,BA c,BA d] w fun e w'=>e=.returned (.int .i64 (Yr a b c d))/\AU w w':=by
 obtain ⟨a1,a2,a3,a4⟩:=ha;obtain ⟨b1,b2,b3,b4⟩:=hb;obtain ⟨c1,c2,c3,c4⟩:=hc;obtain ⟨d1,d2,d3,d4⟩:=hd;obtain ⟨m1,m2⟩:=Qs (b.x-a.x) (d.x-c.x) 4194304 AB AB AB AB;obtain ⟨m3,m4⟩:=Qs (b.y-a.y) (d.y-c.y) 4194304 AB AB AB AB;simp only [Int.reduceMul,Int.reduceNeg] at m1 m2 m3 m4;unfold BA;go_enter Tryz.func214,Tryz.ntmps214;go_wp2;go_ret;refine ⟨Df rfl,?_⟩;exact EC
theorem ao6 (a b:Pt) (w:World) :
  Calls Tryz.prog 291 #[BA a,BA b] w fun e w'=>e=.returned (.bool (CP a b))/\AU w w':=by
 unfold BA;by_cases h1:a.x<b.x
 ·go_enter Tryz.func291,Tryz.ntmps291;go_wp2;go_ret;refine ⟨CW (by simp [CP,h1]),?_⟩;exact EC
 ·by_cases h2:(a.x == b.x)=true
  ·go_enter Tryz.func291,Tryz.ntmps291;go_wp2;go_ret;refine ⟨CW (by simp only [CP];simp_all),?_⟩;exact EC
  ·have h2':(a.x == b.x)=false:=by simpa using h2
   clear h2;go_enter Tryz.func291,Tryz.ntmps291;go_wp2;go_ret;refine ⟨CW (by simp only [CP];simp_all),?_⟩;exact EC
def LZ (a b p:Pt):Bool:=EN [a,b,p] && decide (BM a b a p=0) && decide (Yr a p b p<=0)
theorem ag4 (a b p:Pt) (w:World) :
  Calls Tryz.prog 150 #[BA a,BA b,BA p] w fun e w'=>e=.returned (.bool (LZ a b p))/\AU w w':=by
 have hn0:∀ q,EN [a,b,p]=q->LZ a b p=(q && decide (BM a b a p=0) && decide (Yr a p b p<=0)):=fun q h=>by rw [LZ,h]
 have Hn0:=AA hn0;clear hn0
 cases hn:EN [a,b,p]
 ·have Hs:=AA (Hn0.out _ hn);unfold BA;go_enter Tryz.func150,Tryz.ntmps150;go_wp2_with fail;refine (tK _ [a,b,p] _ (Dv.aB (AO.made Ak _ _))).mono ?_;rintro e w1 ⟨rfl,hb1⟩;rw [hn];go_wp2;go_ret;refine ⟨CW Hs.out.symm,?_⟩;exact EC
 ·obtain ⟨ha,hb,hc⟩:=aAl hn;have TC:∀ W,Calls Tryz.prog 213 #[BA a,BA b,BA a,BA p] W _:=fun W=>abv a b a p W ha hb ha hc;have TD:∀ W,Calls Tryz.prog 214 #[BA a,BA p,BA b,BA p] W _:=fun W=>ao5 a p b p W ha hc hb hc;have Hs:=AA (Hn0.out _ hn);generalize BM a b a p=cr at *;generalize Yr a p b p=dt at *;unfold BA at TC TD ⊢;have HC:=AA TC;clear TC;have HD:=AA TD;clear TD;clear ha hb hc;go_enter Tryz.func150,Tryz.ntmps150;go_wp2_with fail;refine (tK _ [a,b,p] _ (Dv.aB (AO.made Ak _ _))).mono ?_;rintro e w1 ⟨rfl,hb1⟩;rw [hn];have Bw:AU w w1:=by
   exact EC
  have X3:AO _ (w.heap.size) 39 #[.int .i64 a.x,.int .i64 a.y]:=AO.keep (by repeat (first | exact AO.made Ak _ _ | refine AO.alloc ?_ _)) hb1;have X4:AO _ (w.heap.size+1) 39 #[.int .i64 b.x,.int .i64 b.y]:=AO.keep (by repeat (first | exact AO.made Ak _ _ | refine AO.alloc ?_ _)) hb1;have X5:AO _ (w.heap.size+1+1) 39 #[.int .i64 p.x,.int .i64 p.y]:=AO.keep (by repeat (first | exact AO.made Ak _ _ | refine AO.alloc ?_ _)) hb1;clear hb1;obtain ⟨Dk,EJ,ET,-,-⟩:=X3.BQ;obtain ⟨BZ,Bl,CQ,-,-⟩:=X4.BQ;obtain ⟨CJ,CO,CS,-,-⟩:=X5.BQ;go_wp2_with fail;refine (HC.out _).mono ?_;rintro e w2 ⟨rfl,hb2⟩;replace Bw:=bT Bw hb2;replace X3:=X3.keep hb2;replace X4:=X4.keep hb2;replace X5:=X5.keep hb2;clear hb2
  try clear Dk EJ ET
  try clear BZ Bl CQ
  try clear CJ CO CS
  try clear Dk EJ ET
  obtain ⟨Dk,EJ,ET,-,-⟩:=X3.BQ
  try clear BZ Bl CQ
  obtain ⟨BZ,Bl,CQ,-,-⟩:=X4.BQ
  try clear CJ CO CS
  obtain ⟨CJ,CO,CS,-,-⟩:=X5.BQ;by_cases hcr:cr=0
  ·subst hcr;go_wp2_with fail;refine (HD.out _).mono ?_;rintro e w3 ⟨rfl,hb3⟩;go_wp2;go_ret;refine ⟨CW (by rw [Hs.out];simp),?_⟩;exact EC
  ·have ayk:(cr == 0)=false:=by simpa using hcr
   have Hcr:=AA hcr;clear hcr;go_wp2;go_ret;refine ⟨CW (by rw [Hs.out];simp [Hcr.out]),?_⟩;exact EC
theorem ao7 (a b c d:Pt) (w:World) :
  Calls Tryz.prog 273 #[BA a,BA b,BA c,BA d] w fun e w'=>e=.returned (.int .i64 (KL a b c d))/\AU w w':=by
 have T:∀ p q:Pt,∀ W,Calls Tryz.prog 291 #[BA p,BA q] W _:=fun p q W=>ao6 p q W;unfold BA at T ⊢;have HT:=AA T;clear T;go_enter Tryz.func273,Tryz.ntmps273;go_wp2_with fail;refine (HT.out b a _).mono ?_;rintro e w1 ⟨rfl,hb1⟩;have Bw:AU w w1:=by
  exact EC
 have X4:Boxed w1 w.heap.size a:=((((Boxed.new _ a rfl).alloc _).alloc _).alloc _).keep hb1;have X5:Boxed w1 (w.heap.size+1) b:=(((Boxed.new _ b Ak).alloc _).alloc _).keep hb1;have X6:Boxed w1 (w.heap.size+1+1) c:=((Boxed.new _ c Ak).alloc _).keep hb1;have X7:Boxed w1 (w.heap.size+1+1+1) d:=(Boxed.new _ d Ak).keep hb1;clear hb1;go_upto_if 11 with fail;go_cut [] (fun wx=>Boxed wx (w.heap.size) (if CP b a then b else a)/\Boxed wx (w.heap.size+1) (if CP b a then a else b)/\Boxed wx (w.heap.size+1+1) c/\Boxed wx (w.heap.size+1+1+1) d/\AU w wx)
 case first =>
  obtain ⟨BZ,Bl,CQ,EG,FW⟩:=X4.BQ;obtain ⟨CJ,CO,CS,Vg,Vh⟩:=X5.BQ
  cases h:CP b a
  ·go_wp2;go_meet
   case rel =>
   rw [h];exact ⟨X4,X5,X6,X7,Bw⟩
  ·go_wp2;go_meet
   case rel =>
   rw [h];exact ⟨(((X4).EI).far DK _).far DK _,(((X5).far DK _).far DK _).EI,((((X6).far DK _).far DK _).far DK _).far DK _,((((X7).far DK _).far DK _).far DK _).far DK _,bS (bS (bS (bS (Bw) DK _) DK _) DK _) DK _⟩
 case rest =>
  clear X4 X5 X6 X7 Bw;obtain ⟨X4,X5,X6,X7,Bw⟩:=hcut;obtain ⟨a1,ha1⟩:=BR ((if CP b a then b else a));rw [<- ha1] at X4;have Ha1:=AA ha1;clear ha1;obtain ⟨b1,hb1⟩:=BR ((if CP b a then a else b));rw [<- hb1] at X5;have Hb1:=AA hb1;clear hb1;obtain ⟨EK,EL,EM,-,-⟩:=X6.BQ;obtain ⟨Eb,Ec,Fe,-,-⟩:=X7.BQ;go_wp2_with fail;refine (HT.out d c _).mono ?_;rintro e w2 ⟨rfl,hb2⟩;replace Bw:=bT Bw hb2;replace X4:=X4.keep hb2;replace X5:=X5.keep hb2;replace X6:=X6.keep hb2;replace X7:=X7.keep hb2;clear hb2
  try clear BZ Bl CQ
  try clear EG FW
  try clear CJ CO CS
  try clear Vg Vh
  try clear EK EL EM
  try clear Eb Ec Fe
  go_upto_if 16 with fail;go_cut [] (fun wx=>Boxed wx (w.heap.size) a1/\Boxed wx (w.heap.size+1) b1/\Boxed wx (w.heap.size+1+1) (if CP d c then d else c)/\Boxed wx (w.heap.size+1+1+1) (if CP d c then c else d)/\AU w wx)
  case first =>
   try clear EK EL EM
   obtain ⟨EK,EL,EM,Xw,Xd⟩:=X6.BQ
   try clear Eb Ec Fe
   obtain ⟨Eb,Ec,Fe,aF,bQ⟩:=X7.BQ
   cases h:CP d c
   ·go_wp2;go_meet
    case rel =>
    rw [h];exact ⟨X4,X5,X6,X7,Bw⟩
   ·go_wp2;go_meet
    case rel =>
    rw [h];exact ⟨((((X4).far DK _).far DK _).far DK _).far DK _,((((X5).far DK _).far DK _).far DK _).far DK _,(((X6).EI).far DK _).far DK _,(((X7).far DK _).far DK _).EI,bS (bS (bS (bS (Bw) DK _) DK _) DK _) DK _⟩
  case rest =>
   clear X4 X5 X6 X7 Bw;obtain ⟨X4,X5,X6,X7,Bw⟩:=hcut;obtain ⟨c1,hc1⟩:=BR ((if CP d c then d else c));rw [<- hc1] at X6;have Hc1:=AA hc1;clear hc1;obtain ⟨d1,hd1⟩:=BR ((if CP d c then c else d));rw [<- hd1] at X7;have Hd1:=AA hd1;clear hd1
   try clear BZ Bl CQ
   try clear EG FW
   obtain ⟨BZ,Bl,CQ,-,-⟩:=X4.BQ
   try clear EK EL EM
   try clear Xw Xd
   obtain ⟨EK,EL,EM,-,-⟩:=X6.BQ;go_wp2_with fail;refine (HT.out a1 c1 _).mono ?_;rintro e w3 ⟨rfl,hb3⟩;replace Bw:=bT Bw hb3;replace X4:=X4.keep hb3;replace X5:=X5.keep hb3;replace X6:=X6.keep hb3;replace X7:=X7.keep hb3;clear hb3
   try clear BZ Bl CQ
   try clear EG FW
   try clear CJ CO CS
   try clear Vg Vh
   try clear EK EL EM
   try clear Xw Xd
   try clear Eb Ec Fe
   try clear aF bQ
   go_upto_if 21 with fail;go_cut [] (fun wx=>Boxed wx (w.heap.size) (if CP a1 c1 then c1 else a1)/\Boxed wx (w.heap.size+1) b1/\Boxed wx (w.heap.size+1+1) c1/\Boxed wx (w.heap.size+1+1+1) d1/\AU w wx)
   case first =>
    try clear BZ Bl CQ
    try clear EG FW
    obtain ⟨BZ,Bl,CQ,EG,FW⟩:=X4.BQ
    try clear EK EL EM
    try clear Xw Xd
    obtain ⟨EK,EL,EM,Xw,Xd⟩:=X6.BQ
    cases h:CP a1 c1
    ·go_wp2;go_meet
     case rel =>
     rw [h];exact ⟨X4,X5,X6,X7,Bw⟩
    ·go_wp2;go_meet
     case rel =>
     rw [h];exact ⟨(X4).EI,((X5).far DK _).far DK _,((X6).far DK _).far DK _,((X7).far DK _).far DK _,bS (bS (Bw) DK _) DK _⟩
   case rest =>
    clear X4 X5 X6 X7 Bw;obtain ⟨X4,X5,X6,X7,Bw⟩:=hcut;obtain ⟨a2,ha2⟩:=BR ((if CP a1 c1 then c1 else a1));rw [<- ha2] at X4;have Ha2:=AA ha2;clear ha2
    try clear CJ CO CS
    try clear Vg Vh
    obtain ⟨CJ,CO,CS,-,-⟩:=X5.BQ
    try clear Eb Ec Fe
    try clear aF bQ
    obtain ⟨Eb,Ec,Fe,-,-⟩:=X7.BQ;go_wp2_with fail;refine (HT.out d1 b1 _).mono ?_;rintro e w4 ⟨rfl,hb4⟩;replace Bw:=bT Bw hb4;replace X4:=X4.keep hb4;replace X5:=X5.keep hb4;replace X6:=X6.keep hb4;replace X7:=X7.keep hb4;clear hb4
    try clear BZ Bl CQ
    try clear EG FW
    try clear CJ CO CS
    try clear Vg Vh
    try clear EK EL EM
    try clear Xw Xd
    try clear Eb Ec Fe
    try clear aF bQ
    go_upto_if 25 with fail;go_cut [] (fun wx=>Boxed wx (w.heap.size) a2/\Boxed wx (w.heap.size+1) (if CP d1 b1 then d1 else b1)/\Boxed wx (w.heap.size+1+1) c1/\Boxed wx (w.heap.size+1+1+1) d1/\AU w wx)
    case first =>
     try clear CJ CO CS
     try clear Vg Vh
     obtain ⟨CJ,CO,CS,Vg,Vh⟩:=X5.BQ
     try clear Eb Ec Fe
     try clear aF bQ
     obtain ⟨Eb,Ec,Fe,aF,bQ⟩:=X7.BQ
     cases h:CP d1 b1
     ·go_wp2;go_meet
      case rel =>
      rw [h];exact ⟨X4,X5,X6,X7,Bw⟩
     ·go_wp2;go_meet
      case rel =>
      rw [h];exact ⟨((X4).far DK _).far DK _,(X5).EI,((X6).far DK _).far DK _,((X7).far DK _).far DK _,bS (bS (Bw) DK _) DK _⟩
    case rest =>
     clear X4 X5 X6 X7 Bw;obtain ⟨X4,X5,X6,X7,Bw⟩:=hcut;obtain ⟨b2,hb2⟩:=BR ((if CP d1 b1 then d1 else b1));rw [<- hb2] at X5;have Hb2:=AA hb2;clear hb2;have HS:KL a b c d=if a2=b2 then 1 else if CP a2 b2 then 2 else 0:=by
      rw [Ha2.out,Hb2.out,Ha1.out,Hb1.out,Hc1.out,Hd1.out];rfl
     replace HS:=AA HS
     try clear BZ Bl CQ
     try clear EG FW
     obtain ⟨BZ,Bl,CQ,-,-⟩:=X4.BQ
     try clear CJ CO CS
     try clear Vg Vh
     obtain ⟨CJ,CO,CS,-,-⟩:=X5.BQ;have hE:=UF a2 b2;go_wp2_with fail
     ·go_ret;refine ⟨Df ?_,Bw⟩;rw [HS.out,AZ KT]
     ·refine (HT.out a2 b2 _).mono ?_;rintro e w5 ⟨rfl,hb5⟩;have hfl:¬ a2=b2:=by assumption
      cases h:CP a2 b2
      ·go_wp2;go_ret;refine ⟨Df ?_,bT Bw hb5⟩;rw [HS.out,AX hfl,h];rfl
      ·go_wp2;go_ret;refine ⟨Df ?_,bT Bw hb5⟩;rw [HS.out,AX hfl,h];rfl
