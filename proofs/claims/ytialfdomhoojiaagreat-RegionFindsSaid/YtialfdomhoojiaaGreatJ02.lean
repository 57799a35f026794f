import Derived.Test.YtialfdomhoojiaaGreatRegQ
import Derived.RegionTactic
set_option linter.unusedSimpArgs false
set_option linter.unusedVariables false
set_option maxRecDepth 100000
set_option maxHeartbeats 4000000
namespace Go.Proofs.YtialfdomhoojiaaGreat
open Go.RowKit
def Bg (p:Pt):Bool:=decide (-2097152<=p.x) && decide (p.x<=2097152) && decide (-2097152<=p.y) && decide (p.y<=2097152)
def Dy (l:List Pt):Bool:=l.all Bg
def tw (a b c:Pt):Int:=(b.x-a.x)*(c.y-a.y)-(b.y-a.y)*(c.x-a.x)
theorem Qq (p:Pt):Bg p=true↔-2097152<=p.x/\p.x<=2097152/\-2097152<=p.y/\p.y<=2097152:=by
 simp [Bg,and_assoc]
theorem acX (l:List Pt) (k:Nat) (hk:k<l.length) (h:Bg l[k]=false):Dy l=false:=by
 unfold Dy;rw [Y3];exact ⟨l[k],BH hk,by simp [h]⟩
theorem acY (l:List Pt) (h:∀ j (hj:j<l.length),Bg l[j]=true):Dy l=true:=by
 unfold Dy;rw [JF];intro x hx;obtain ⟨i,hi,rfl⟩:=Dp.1 hx;exact h i hi
theorem nJ (v:Value) (l:List Pt) (w:World) (h:Dq w v l) :
  Calls Tryz.prog 76 #[v] w fun e w'=>e=.returned (.bool (Dy l))/\AP w w':=by
 obtain ⟨A,c,rfl,hn,hc,hR⟩:=h;unfold maxLen at hc;go_enter Tryz.func76,Tryz.ntmps76;go_wp2_with fail;go_loopw [7] (fun i wr=>∃ k:Nat,k<=l.length/\i=.int .i64 k/\AP w wr/\∀ j (hj:j<l.length),j<k->Bg l[j]=true) (fun i _=>l.length-(intOf i).toNat)
 case atStart => exact ⟨0,BZ _,rfl,Below.refl _ _,fun j _ h=>by omega⟩
 case round =>
  obtain ⟨k,hk,rfl,hb,hno⟩:=hrel;have Hb:=AA hb;have Hno:=AA hno;have hs:=hb.size;clear hb hno;by_cases hlt:k<l.length
  ·obtain ⟨b,o,rfl,hlb,c0,c1⟩:=(hR.mono Hb.out).pt hlt;have HR:=AA hR;clear hR;by_cases hnr:Bg l[k]=true
   ·have Hn:=AA hnr;obtain ⟨n1,n2,n3,n4⟩:=(Qq _).1 hnr;clear hnr;go_wp2;go_roundw
    case rel => exact ⟨k+1,AB,BI,Hb.out.alloc hs _,all_succ (p:=fun x=>Bg x=true) Hno.out hlt Hn.out⟩
    case measure => exact BK
   ·have hn':Bg l[k]=false:=by simpa using hnr
    have Hf:=AA (acX l k hlt hn');clear hn';have uT:=AA hnr;clear hnr;go_wp2
    all_goals first
     | (go_ret;exact ⟨C9 Hf.out.symm,Hb.out.alloc hs _⟩)
     | (exfalso;exact uT.out ((Qq _).2 ⟨AB,AB,AB,AB⟩))
  ·go_wp2;go_ret;exact ⟨C9 (acY l fun j hj=>Hno.out j hj AB).symm,Hb.out⟩
def lim (p:Pt):Prop:=-2097152<=p.x/\p.x<=2097152/\-2097152<=p.y/\p.y<=2097152
theorem Qr (a b m:Int) (h1:-m<=a) (h2:a<=m) (h3:-m<=b) (h4:b<=m):-(m*m)<=a*b/\a*b<=m*m:=by
 have hm:0<=m:=by omega
 rcases Zj 0 a with ha | ha<;>rcases Zj 0 b with hb | hb
 · exact ⟨by have:=KQ ha hb;have:=KQ hm hm;omega,aap h2 h4 hb hm⟩
 ·have e:a*b=-(a * -b):=by rw [aAC];omega
  have h:=aap h2 (show -b<=m by omega) AB hm;have h':=KQ ha (show 0<=-b by omega);have:=KQ hm hm
  omega
 ·have e:a*b=-(-a*b):=by rw [OZ];omega
  have h:=aap (show -a<=m by omega) h4 hb hm;have h':=KQ (show 0<=-a by omega) hb;have:=KQ hm hm
  omega
 ·have e:a*b=-a * -b:=by rw [Int.neg_mul_neg]
  have h:=aap (show -a<=m by omega) (show -b<=m by omega) AB hm;have h':=KQ (show 0<=-a by omega) (show 0<=-b by omega);have:=KQ hm hm
  omega
theorem agD (a b c:Pt) (w:World) (ha:lim a) (hb:lim b) (hc:lim c) :
  Calls Tryz.prog 77 #[BD a,BD b,BD c] w fun e w'=>e=.returned (.int .i64 (tw a b c))/\AP w w':=by
 obtain ⟨a1,a2,a3,a4⟩:=ha;obtain ⟨b1,b2,b3,b4⟩:=hb;obtain ⟨c1,c2,c3,c4⟩:=hc;obtain ⟨m1,m2⟩:=Qr (b.x-a.x) (c.y-a.y) 4194304 AB AB AB AB;obtain ⟨m3,m4⟩:=Qr (b.y-a.y) (c.x-a.x) 4194304 AB AB AB AB;simp only [Int.reduceMul,Int.reduceNeg] at m1 m2 m3 m4;unfold BD;go_enter Tryz.func77,Tryz.ntmps77;go_wp2;go_ret;exact ⟨DU rfl,(((Below.refl _ _).alloc (DT _) _).alloc Aw _).alloc DC _⟩
theorem UL {p:Pt} (h:Bg p=true):lim p:=(Qq p).1 h
theorem aAX {a b c:Pt} (h:Dy [a,b,c]=true):lim a/\lim b/\lim c:=by
 simp only [Dy,aAD,aaq,aar,Em] at h;exact ⟨UL h.1,UL h.2.1,UL h.2.2⟩
theorem anK {a b c d:Pt} (h:Dy [a,b,c,d]=true):lim a/\lim b/\lim c/\lim d:=by
 simp only [Dy,aAD,aaq,aar,Em] at h;exact ⟨UL h.1,UL h.2.1,UL h.2.2.1,UL h.2.2.2⟩
def YH (a b c:Pt):Int:=if Dy [a,b,c]=true then tw a b c else 0
theorem anL (a b c:Pt) (w:World) :
  Calls Tryz.prog 102 #[BD a,BD b,BD c] w fun e w'=>e=.returned (.int .i64 (YH a b c))/\AP w w':=by
 unfold BD;by_cases hn:Dy [a,b,c]=true
 ·obtain ⟨ha,hb,hc⟩:=aAX hn;have Ha:=AA ha;have Hb:=AA hb;have Hc:=AA hc;clear ha hb hc;go_enter Tryz.func102,Tryz.ntmps102;go_wp2_with fail;refine (nJ _ [a,b,c] _ (Dq.Zq (AO.made Aw _ _))).mono ?_;rintro e w1 ⟨rfl,hb1⟩;obtain ⟨acZ,acd⟩:=Vm hb1;have gu:=hb1.size
  try simp only [World.size_alloc,World.size_setCell,World.size_drew] at gu
  have ace:w.heap.size<w1.heap.size:=by omega
  have acf:w.heap.size+1<w1.heap.size:=by omega
  have ac0:w.heap.size+1+1<w1.heap.size:=by omega
  go_wp2_with fail;refine (agD a b c _ Ha.out Hb.out Hc.out).mono ?_;rintro e w2 ⟨rfl,hb2⟩;go_wp2;go_ret;refine ⟨DU (by simp [YH,hn]),?_⟩;exact Dk
 ·have hn':Dy [a,b,c]=false:=by simpa using hn
  clear hn;go_enter Tryz.func102,Tryz.ntmps102;go_wp2_with fail;refine (nJ _ [a,b,c] _ (Dq.Zq (AO.made Aw _ _))).mono ?_;rintro e w1 ⟨rfl,hb1⟩;obtain ⟨acZ,acd⟩:=Vm hb1;have gu:=hb1.size
  try simp only [World.size_alloc,World.size_setCell,World.size_drew] at gu
  have ace:w.heap.size<w1.heap.size:=by omega
  have acf:w.heap.size+1<w1.heap.size:=by omega
  have ac0:w.heap.size+1+1<w1.heap.size:=by omega
  go_wp2;go_ret;refine ⟨DU (by simp [YH,hn']),?_⟩;exact Dk
def FH (a b c:Pt):Int:=if 0<YH a b c then 1 else if YH a b c<0 then -1 else 0
theorem agE (a b c:Pt) (w:World) :
  Calls Tryz.prog 200 #[BD a,BD b,BD c] w fun e w'=>e=.returned (.int .i64 (FH a b c))/\AP w w':=by
 have T:∀ W,Calls Tryz.prog 102 #[BD a,BD b,BD c] W _:=fun W=>anL a b c W;unfold BD at T ⊢;unfold FH;generalize YH a b c=t at *;have HT:=AA T;clear T;go_enter Tryz.func200,Tryz.ntmps200;go_wp2_with fail;refine (HT.out _).mono ?_;rintro e w1 ⟨rfl,hb1⟩;go_wp2_with fail
 all_goals
  go_ret;refine ⟨DU rfl,?_⟩;exact Dk
def EO (a b p:Pt):Bool:=Dy [a,b,p] && decide (tw a b p=0) && decide (min a.x b.x<=p.x) && decide (p.x<=max a.x b.x) && decide (min a.y b.y<=p.y) && decide (p.y<=max a.y b.y)
theorem uU (a b p:Pt) (w:World) :
  Calls Tryz.prog 28 #[BD a,BD b,BD p] w fun e w'=>e=.returned (.bool (EO a b p))/\AP w w':=by
 unfold BD;by_cases hn:Dy [a,b,p]=true
 ·obtain ⟨ha,hb,hc⟩:=aAX hn;have T:∀ W,Calls Tryz.prog 77 #[BD a,BD b,BD p] W _:=fun W=>agD a b p W ha hb hc;unfold BD at T;have hS:EO a b p=(decide (tw a b p=0) && decide (min a.x b.x<=p.x) && decide (p.x<=max a.x b.x) && decide (min a.y b.y<=p.y) && decide (p.y<=max a.y b.y)):=by simp [EO,hn]
  rw [hS];generalize tw a b p=t at *;have HT:=AA T;clear T ha hb hc hS;go_enter Tryz.func28,Tryz.ntmps28;go_wp2_with fail;refine (nJ _ [a,b,p] _ (Dq.Zq (AO.made Aw _ _))).mono ?_;rintro e w1 ⟨rfl,hb1⟩;obtain ⟨acZ,acd⟩:=Vm hb1;have gu:=hb1.size
  try simp only [World.size_alloc,World.size_setCell,World.size_drew] at gu
  have ace:w.heap.size<w1.heap.size:=by omega
  have acf:w.heap.size+1<w1.heap.size:=by omega
  have ac0:w.heap.size+1+1<w1.heap.size:=by omega
  go_wp2_with fail;refine (HT.out _).mono ?_;rintro e w2 ⟨rfl,hb2⟩;obtain ⟨anM,anN⟩:=Vm hb2;have ac1:=hb2.size
  try simp only [World.size_alloc,World.size_setCell,World.size_drew] at ac1
  have anO:w.heap.size<w2.heap.size:=by omega
  have aoD:w.heap.size+1<w2.heap.size:=by omega
  have aoE:w.heap.size+1+1<w2.heap.size:=by omega
  by_cases ht:t=0
  ·subst ht;go_wp2_with fail
   all_goals
    go_ret;refine ⟨C9 (by rw [LX];simp only [Em,E8,Rt,false_iff,true_iff];omega),?_⟩;exact Dk
  ·have ht':(t == 0)=false:=by simpa using ht
   go_wp2;go_ret;refine ⟨C9 (by simp [ht]),?_⟩;exact Dk
 ·have hn':Dy [a,b,p]=false:=by simpa using hn
  clear hn;go_enter Tryz.func28,Tryz.ntmps28;go_wp2_with fail;refine (nJ _ [a,b,p] _ (Dq.Zq (AO.made Aw _ _))).mono ?_;rintro e w1 ⟨rfl,hb1⟩;obtain ⟨acZ,acd⟩:=Vm hb1;have gu:=hb1.size
  try simp only [World.size_alloc,World.size_setCell,World.size_drew] at gu
  have ace:w.heap.size<w1.heap.size:=by omega
  have acf:w.heap.size+1<w1.heap.size:=by omega
  have ac0:w.heap.size+1+1<w1.heap.size:=by omega
  go_wp2;go_ret;refine ⟨C9 (by simp [EO,hn']),?_⟩;exact Dk
theorem aoF (a b:Pt) (w:World) :
  Calls Tryz.prog 297 #[BD a,BD b] w fun e w'=>e=.returned (.bool (CB a b))/\AP w w':=by
 unfold BD;by_cases h1:a.x<b.x
 ·go_enter Tryz.func297,Tryz.ntmps297;go_wp2;go_ret;refine ⟨C9 (by simp [CB,h1]),?_⟩;exact Dk
 ·by_cases h2:(a.x == b.x)=true
  ·go_enter Tryz.func297,Tryz.ntmps297;go_wp2;go_ret;refine ⟨C9 (by simp only [CB];simp_all),?_⟩;exact Dk
  ·have h2':(a.x == b.x)=false:=by simpa using h2
   clear h2;go_enter Tryz.func297,Tryz.ntmps297;go_wp2;go_ret;refine ⟨C9 (by simp only [CB];simp_all),?_⟩;exact Dk
def Jw (a b c d:Pt):Int :=
 let a':=if CB b a then b else a
 let b':=if CB b a then a else b
 let c':=if CB d c then d else c
 let d':=if CB d c then c else d
 let f:=if CB a' c' then c' else a'
 let l:=if CB d' b' then d' else b'
 if f=l then 1 else if CB f l then 2 else 0
theorem aoG (a b c d:Pt) (w:World) :
  Calls Tryz.prog 286 #[BD a,BD b,BD c,BD d] w fun e w'=>e=.returned (.int .i64 (Jw a b c d))/\AP w w':=by
 have T:∀ p q:Pt,∀ W,Calls Tryz.prog 297 #[BD p,BD q] W _:=fun p q W=>aoF p q W;unfold BD at T ⊢;have HT:=AA T;clear T;go_enter Tryz.func286,Tryz.ntmps286;go_wp2_with fail;refine (HT.out b a _).mono ?_;rintro e w1 ⟨rfl,hb1⟩;have MF:AP w w1:=by
  exact Dk
 have X4:Boxed w1 w.heap.size a:=((((Boxed.new _ a rfl).alloc _).alloc _).alloc _).keep hb1;have X5:Boxed w1 (w.heap.size+1) b:=(((Boxed.new _ b Aw).alloc _).alloc _).keep hb1;have X6:Boxed w1 (w.heap.size+1+1) c:=((Boxed.new _ c Aw).alloc _).keep hb1;have X7:Boxed w1 (w.heap.size+1+1+1) d:=(Boxed.new _ d Aw).keep hb1;clear hb1;go_upto_if 13 with fail;go_cut [] (fun wx=>Boxed wx w.heap.size (if CB b a then b else a)/\Boxed wx (w.heap.size+1) (if CB b a then a else b)/\Boxed wx (w.heap.size+1+1) c/\Boxed wx (w.heap.size+1+1+1) d/\AP w wx)
 case first =>
  obtain ⟨UM,x40,x41,x4f,x4g⟩:=X4.facts;obtain ⟨UN,UO,UQ,x5f,x5g⟩:=X5.facts
  cases h:CB b a
  ·go_wp2;go_meet
   case rel =>
   rw [h];exact ⟨X4,X5,X6,X7,MF⟩
  ·go_wp2;go_meet
   case rel =>
   rw [h];exact ⟨(X4.EW.far D7 _).far D7 _,(X5.far D7 _ |>.far D7 _).EW,(((X6.far D7 _).far D7 _).far D7 _).far D7 _,(((X7.far D7 _).far D7 _).far D7 _).far D7 _,bS (bS (bS (bS MF D7 _) D7 _) D7 _) D7 _⟩
 case rest =>
  clear MF X4 X5 X6 X7;obtain ⟨X4,X5,X6,X7,Bw⟩:=hcut;obtain ⟨a1,ha1⟩:=BO ((if CB b a then b else a));obtain ⟨b1,hb1⟩:=BO ((if CB b a then a else b));rw [<- ha1] at X4;rw [<- hb1] at X5;have Ha:=AA ha1;clear ha1;have Hb:=AA hb1;clear hb1;obtain ⟨Vq,Vr,VR,-,-⟩:=X6.facts;obtain ⟨QL,Qs,Qu,-,-⟩:=X7.facts;go_wp2_with fail;refine (HT.out d c _).mono ?_;rintro e w2 ⟨rfl,hb2⟩;clear Vq Vr VR QL Qs Qu;replace Bw:AP w w2:=bT Bw hb2;replace X4:=X4.keep hb2;replace X5:=X5.keep hb2;replace X6:=X6.keep hb2;replace X7:=X7.keep hb2;clear hb2;go_upto_if 18 with fail;go_cut [] (fun wx=>Boxed wx w.heap.size a1/\Boxed wx (w.heap.size+1) b1/\Boxed wx (w.heap.size+1+1) (if CB d c then d else c)/\Boxed wx (w.heap.size+1+1+1) (if CB d c then c else d)/\AP w wx)
  case first =>
   obtain ⟨Vq,Vr,VR,x6f,x6g⟩:=X6.facts;obtain ⟨QL,Qs,Qu,x7f,x7g⟩:=X7.facts
   cases h:CB d c
   ·go_wp2;go_meet
    case rel =>
    rw [h];exact ⟨X4,X5,X6,X7,Bw⟩
   ·go_wp2;go_meet
    case rel =>
    rw [h];exact ⟨(((X4.far D7 _).far D7 _).far D7 _).far D7 _,(((X5.far D7 _).far D7 _).far D7 _).far D7 _,(X6.EW.far D7 _).far D7 _,(X7.far D7 _ |>.far D7 _).EW,bS (bS (bS (bS Bw D7 _) D7 _) D7 _) D7 _⟩
  case rest =>
   clear Bw X4 X5 X6 X7;obtain ⟨X4,X5,X6,X7,Bw⟩:=hcut;obtain ⟨c1,hc1⟩:=BO ((if CB d c then d else c));obtain ⟨d1,hd1⟩:=BO ((if CB d c then c else d));rw [<- hc1] at X6;rw [<- hd1] at X7;have Hc:=AA hc1;clear hc1;have Hd:=AA hd1;clear hd1;obtain ⟨UM,x40,x41,x4f,x4g⟩:=X4.facts;obtain ⟨UN,UO,UQ,x5f,x5g⟩:=X5.facts;go_upto_region 5 with fail;go_cut [9,10] (fun s9 s10 wx=>∃ g9 g10:Nat,s9=.pointer (some ⟨g9,0,none⟩)/\s10=.pointer (some ⟨g10,0,none⟩)/\Boxed wx g9 a1/\Boxed wx g10 b1/\g9≠g10/\w.heap.size+1+1+1<g9/\w.heap.size+1+1+1<g10/\Boxed wx (w.heap.size+1+1) c1/\Boxed wx (w.heap.size+1+1+1) d1/\AP w wx)
   case first =>
    have QL:=X7.lt;go_region
    ·go_wp2;go_meet
     case rel => exact ⟨_,_,rfl,rfl,((Boxed.new _ a1 rfl).alloc _).drew,(Boxed.new _ b1 Aw).drew,D7,D7,D7,((X6.alloc _).alloc _).drew,((X7.alloc _).alloc _).drew,bD (bA (bA Bw _) _)⟩
    ·go_wp2;go_meet
     case rel => exact ⟨_,_,rfl,rfl,(Boxed.new _ a1 Aw).drew,((Boxed.new _ b1 rfl).alloc _).drew,D7,D7,D7,((X6.alloc _).alloc _).drew,((X7.alloc _).alloc _).drew,bD (bA (bA Bw _) _)⟩
   case rest =>
    clear Bw X4 X5 X6 X7 UM x40 x41 x4f x4g UN UO UQ x5f x5g;obtain ⟨g9,g10,rfl,rfl,X9,EP,hne,KX,Zt,X6,X7,Bw⟩:=hcut;obtain ⟨x9l,x90,x91,-,-⟩:=X9.facts;obtain ⟨Vq,Vr,VR,-,-⟩:=X6.facts;go_wp2_with fail;refine (HT.out a1 c1 _).mono ?_;rintro e w3 ⟨rfl,hb3⟩;replace Bw:AP w w3:=bT Bw hb3;replace X9:=X9.keep hb3;replace EP:=EP.keep hb3;replace X6:=X6.keep hb3;replace X7:=X7.keep hb3;clear hb3 x9l x90 x91 Vq Vr VR;go_upto_if 25 with fail;go_cut [] (fun wx=>Boxed wx g9 (if CB a1 c1 then c1 else a1)/\Boxed wx g10 b1/\Boxed wx (w.heap.size+1+1+1) d1/\AP w wx)
    case first =>
     obtain ⟨x9l,x90,x91,x9f,x9g⟩:=X9.facts;obtain ⟨Vq,Vr,VR,x6f,x6g⟩:=X6.facts
     cases h:CB a1 c1
     ·go_wp2;go_meet
      case rel =>
      rw [h];exact ⟨X9,EP,X7,Bw⟩
     ·go_wp2;go_meet
      case rel =>
      rw [h];exact ⟨X9.EW,(EP.far D7 _).far D7 _,(X7.far D7 _).far D7 _,bS (bS Bw D7 _) D7 _⟩
    case rest =>
     clear Bw X9 EP X6 X7;obtain ⟨X9,EP,X7,Bw⟩:=hcut;obtain ⟨f1,hf1⟩:=BO ((if CB a1 c1 then c1 else a1));rw [<- hf1] at X9;have Hf:=AA hf1;clear hf1;obtain ⟨ac2,x100,x101,-,-⟩:=EP.facts;obtain ⟨QL,Qs,Qu,-,-⟩:=X7.facts;go_wp2_with fail;refine (HT.out d1 b1 _).mono ?_;rintro e w4 ⟨rfl,hb4⟩;replace Bw:AP w w4:=bT Bw hb4;replace X9:=X9.keep hb4;replace EP:=EP.keep hb4;replace X7:=X7.keep hb4;clear hb4 ac2 x100 x101 QL Qs Qu;go_upto_if 29 with fail;go_cut [] (fun wx=>Boxed wx g9 f1/\Boxed wx g10 (if CB d1 b1 then d1 else b1)/\AP w wx)
     case first =>
      obtain ⟨ac2,x100,x101,x10f,azB⟩:=EP.facts;obtain ⟨QL,Qs,Qu,x7f,x7g⟩:=X7.facts
      cases h:CB d1 b1
      ·go_wp2;go_meet
       case rel =>
       rw [h];exact ⟨X9,EP,Bw⟩
      ·go_wp2;go_meet
       case rel =>
       rw [h];exact ⟨(X9.far D7 _).far D7 _,EP.EW,bS (bS Bw D7 _) D7 _⟩
     case rest =>
      clear Bw X9 EP X7;obtain ⟨X9,EP,Bw⟩:=hcut;obtain ⟨l1,hl1⟩:=BO ((if CB d1 b1 then d1 else b1));rw [<- hl1] at EP;have Hl:=AA hl1;clear hl1;have HS:Jw a b c d=if f1=l1 then 1 else if CB f1 l1 then 2 else 0:=by
       rw [Hf.out,Hl.out,Ha.out,Hb.out,Hc.out,Hd.out];rfl
      replace HS:=AA HS;obtain ⟨ac2,x100,x101,-,-⟩:=EP.facts;obtain ⟨x9l,x90,x91,-,-⟩:=X9.facts;have hE:=U8 f1 l1;go_wp2_with fail
      ·go_ret;refine ⟨DU ?_,Bw⟩;rw [HS.out,AZ KP]
      ·refine (HT.out f1 l1 _).mono ?_;rintro e w5 ⟨rfl,hb5⟩;have hfl:¬ f1=l1:=by assumption
       cases h:CB f1 l1
       ·go_wp2;go_ret;refine ⟨DU ?_,bT Bw hb5⟩;rw [HS.out,AX hfl,h];rfl
       ·go_wp2;go_ret;refine ⟨DU ?_,bT Bw hb5⟩;rw [HS.out,AX hfl,h];rfl
def JJ (a b c d:Pt):Int :=
 if Dy [a,b,c,d]=true then
  if a=b then (if EO c d a then 1 else 0)
  else if c=d then (if EO a b c then 1 else 0)
  else if FH a b c=0/\FH a b d=0 then Jw a b c d
  else if FH a b c*FH a b d<=0/\FH c d a*FH c d b<=0 then 1 else 0
 else 0
theorem aAY (a b c:Pt):-1<=FH a b c/\FH a b c<=1:=by
 unfold FH;split
 · omega
 · split<;>omega
theorem aoH (a b c d:Pt) (w:World) :
  Calls Tryz.prog 260 #[BD a,BD b,BD c,BD d] w fun e w'=>e=.returned (.int .i64 (JJ a b c d))/\AP w w':=by
 have TS:∀ p q r:Pt,∀ W,Calls Tryz.prog 200 #[BD p,BD q,BD r] W _:=fun p q r W=>agE p q r W;have TO:∀ p q r:Pt,∀ W,Calls Tryz.prog 28 #[BD p,BD q,BD r] W _:=fun p q r W=>uU p q r W;have TH:∀ p q r s:Pt,∀ W,Calls Tryz.prog 286 #[BD p,BD q,BD r,BD s] W _:=fun p q r s W=>aoG p q r s W;unfold BD at TS TO TH ⊢;have HS:=AA TS;clear TS;have HO:=AA TO;clear TO;have HH:=AA TH;clear TH;by_cases hn:Dy [a,b,c,d]=true
 case neg =>
  have hn':Dy [a,b,c,d]=false:=by simpa using hn
  have hm:JJ a b c d=0:=by simp [JJ,hn']
  have Hm:=AA hm;clear hn hm;go_enter Tryz.func260,Tryz.ntmps260;go_wp2_with fail;refine (nJ _ [a,b,c,d] _ (Dq.aAp (AO.made Aw _ _))).mono ?_;rintro e w1 ⟨rfl,hb1⟩;go_wp2;go_ret;refine ⟨DU Hm.out.symm,?_⟩;exact Dk
 case pos =>
 have Hn:=AA hn;go_enter Tryz.func260,Tryz.ntmps260;go_wp2_with fail;refine (nJ _ [a,b,c,d] _ (Dq.aAp (AO.made Aw _ _))).mono ?_;rintro e w1 ⟨rfl,hb1⟩;have Bw:AP w w1:=by
  exact Dk
 have X4:Boxed w1 w.heap.size a:=(((((Boxed.new _ a rfl).alloc _).alloc _).alloc _).alloc _).keep hb1;have X5:Boxed w1 (w.heap.size+1) b:=((((Boxed.new _ b Aw).alloc _).alloc _).alloc _).keep hb1;have X6:Boxed w1 (w.heap.size+1+1) c:=(((Boxed.new _ c Aw).alloc _).alloc _).keep hb1;have X7:Boxed w1 (w.heap.size+1+1+1) d:=((Boxed.new _ d Aw).alloc _).keep hb1;clear hb1;obtain ⟨UM,x40,x41,-,-⟩:=X4.facts;obtain ⟨UN,UO,UQ,-,-⟩:=X5.facts;obtain ⟨Vq,Vr,VR,-,-⟩:=X6.facts;obtain ⟨QL,Qs,Qu,-,-⟩:=X7.facts;have hE1:=U8 a b;have hE2:=U8 c d;have hs1:=aAY a b c;have hs2:=aAY a b d;have hs3:=aAY c d a;have hs4:=aAY c d b;by_cases hab:a=b
 ·have hm:JJ a b c d=if EO c d a then 1 else 0:=by rw [JJ,AZ Hn.out,AZ hab]
  have Hm:=AA hm;clear hm;have hab':decide (a=b)=true:=by simpa using hab
  have Hab:=AA hab;clear hab;go_wp2_with fail;refine (HO.out c d a _).mono ?_;rintro e w2 ⟨rfl,hb2⟩
  cases h:EO c d a
  ·rw [h] at Hm;go_wp2;go_ret;refine ⟨DU Hm.out.symm,?_⟩;exact Dk
  ·rw [h] at Hm;go_wp2;go_ret;refine ⟨DU Hm.out.symm,?_⟩;exact Dk
 by_cases hcd:c=d
 ·have hm:JJ a b c d=if EO a b c then 1 else 0:=by rw [JJ,AZ Hn.out,AX hab,AZ hcd]
  have Hm:=AA hm;clear hm;have hab':decide (a=b)=false:=by simpa using hab
  have agF:decide (c=d)=true:=by simpa using hcd
  have Hcd:=AA hcd;clear hab hcd;go_wp2_with fail;refine (HO.out a b c _).mono ?_;rintro e w2 ⟨rfl,hb2⟩
  cases h:EO a b c
  ·rw [h] at Hm;go_wp2;go_ret;refine ⟨DU Hm.out.symm,?_⟩;exact Dk
  ·rw [h] at Hm;go_wp2;go_ret;refine ⟨DU Hm.out.symm,?_⟩;exact Dk
 by_cases hl:FH a b c=0/\FH a b d=0
 ·have hm:JJ a b c d=Jw a b c d:=by rw [JJ,AZ Hn.out,AX hab,AX hcd,AZ hl]
  have Hm:=AA hm;clear hm;have hab':decide (a=b)=false:=by simpa using hab
  have agF:decide (c=d)=false:=by simpa using hcd
  obtain ⟨l1,l2⟩:=hl;have L1:=AA l1;have L2:=AA l2;clear hab hcd l1 l2;go_wp2_with fail;refine (HS.out a b c _).mono ?_;rintro e w2 ⟨rfl,hb2⟩;rw [L1.out];replace Bw:AP w w2:=bT Bw hb2;replace X4:=X4.keep hb2;replace X5:=X5.keep hb2;replace X6:=X6.keep hb2;replace X7:=X7.keep hb2;clear hb2 UM x40 x41 UN UO UQ Vq Vr VR QL Qs Qu;obtain ⟨UM,x40,x41,-,-⟩:=X4.facts;obtain ⟨UN,UO,UQ,-,-⟩:=X5.facts;obtain ⟨QL,Qs,Qu,-,-⟩:=X7.facts;go_wp2_with fail;refine (HS.out a b d _).mono ?_;rintro e w3 ⟨rfl,hb3⟩;rw [L2.out];replace Bw:AP w w3:=bT Bw hb3;replace X4:=X4.keep hb3;replace X5:=X5.keep hb3;replace X6:=X6.keep hb3;replace X7:=X7.keep hb3;clear hb3 UM x40 x41 UN UO UQ QL Qs Qu;obtain ⟨UM,x40,x41,-,-⟩:=X4.facts;obtain ⟨UN,UO,UQ,-,-⟩:=X5.facts;obtain ⟨Vq,Vr,VR,-,-⟩:=X6.facts;obtain ⟨QL,Qs,Qu,-,-⟩:=X7.facts;go_wp2_with fail;refine (HH.out a b c d _).mono ?_;rintro e w4 ⟨rfl,hb4⟩;go_wp2;go_ret;refine ⟨DU Hm.out.symm,?_⟩;exact Dk
 have hm:JJ a b c d=if FH a b c*FH a b d<=0/\FH c d a*FH c d b<=0 then 1 else 0:=by rw [JJ,AZ Hn.out,AX hab,AX hcd,AX hl]
 have Hm:=AA hm;clear hm;have hab':decide (a=b)=false:=by simpa using hab
 have agF:decide (c=d)=false:=by simpa using hcd
 have Hl:=AA hl;clear hab hcd hl;go_upto_region 9 with fail;go_cut [55] (fun s55 wx=>s55=.bool false/\Boxed wx w.heap.size a/\Boxed wx (w.heap.size+1) b/\Boxed wx (w.heap.size+1+1) c/\Boxed wx (w.heap.size+1+1+1) d/\AP w wx)
 case first =>
  go_wp2_with fail;refine (HS.out a b c _).mono ?_;rintro e w2 ⟨rfl,hb2⟩;replace Bw:AP w w2:=bT Bw hb2;replace X4:=X4.keep hb2;replace X5:=X5.keep hb2;replace X6:=X6.keep hb2;replace X7:=X7.keep hb2;clear hb2 UM x40 x41 UN UO UQ Vq Vr VR QL Qs Qu;by_cases hz:FH a b c=0
  ·have hz2:¬ FH a b d=0:=fun h=>Hl.out ⟨hz,h⟩;have hz2':(FH a b d == 0)=false:=by simpa using hz2
   have Hz2:=AA hz2;clear hz2;rw [hz];clear hz;obtain ⟨UM,x40,x41,-,-⟩:=X4.facts;obtain ⟨UN,UO,UQ,-,-⟩:=X5.facts;obtain ⟨QL,Qs,Qu,-,-⟩:=X7.facts;go_wp2_with fail;refine (HS.out a b d _).mono ?_;rintro e w3 ⟨rfl,hb3⟩;replace Bw:AP w w3:=bT Bw hb3;replace X4:=X4.keep hb3;replace X5:=X5.keep hb3;replace X6:=X6.keep hb3;replace X7:=X7.keep hb3;clear hb3 UM x40 x41 UN UO UQ QL Qs Qu;go_wp2;go_meet
   case rel => exact ⟨rfl,X4,X5,X6,X7,Bw⟩
  ·have hz':(FH a b c == 0)=false:=by simpa using hz
   have Hz:=AA hz;clear hz;go_wp2;go_meet
   case rel => exact ⟨rfl,X4,X5,X6,X7,Bw⟩
 case rest =>
  clear X4 X5 X6 X7 Bw UM x40 x41 UN UO UQ Vq Vr VR QL Qs Qu Hl;obtain ⟨rfl,X4,X5,X6,X7,Bw⟩:=hcut;obtain ⟨UM,x40,x41,-,-⟩:=X4.facts;obtain ⟨UN,UO,UQ,-,-⟩:=X5.facts;obtain ⟨Vq,Vr,VR,-,-⟩:=X6.facts;obtain ⟨QL,Qs,Qu,-,-⟩:=X7.facts;go_upto_region 4 with fail;obtain ⟨p1,p2⟩:=Qr (FH a b c) (FH a b d) 1 AB AB AB AB;obtain ⟨p3,p4⟩:=Qr (FH c d a) (FH c d b) 1 AB AB AB AB;simp only [Int.reduceMul,Int.reduceNeg] at p1 p2 p3 p4;have hw1:IntKind.i64.wrap (FH a b c*FH a b d)=FH a b c*FH a b d:=Ci _ AB;have hw2:IntKind.i64.wrap (FH c d a*FH c d b)=FH c d a*FH c d b:=Ci _ AB;by_cases hg:FH a b c*FH a b d<=0
  ·have hg':decide (FH a b c*FH a b d<=0)=true:=by simpa using hg
   clear hs1 hs2 hs3 hs4;go_region_held3 (fun W=>W.cell? ⟨w.heap.size,0,none⟩=some (.int .i64 a.x)/\W.cell? ⟨w.heap.size,1,none⟩=some (.int .i64 a.y)/\W.cell? ⟨w.heap.size+1,0,none⟩=some (.int .i64 b.x)/\W.cell? ⟨w.heap.size+1,1,none⟩=some (.int .i64 b.y)/\W.cell? ⟨w.heap.size+1+1,0,none⟩=some (.int .i64 c.x)/\W.cell? ⟨w.heap.size+1+1,1,none⟩=some (.int .i64 c.y)/\W.cell? ⟨w.heap.size+1+1+1,0,none⟩=some (.int .i64 d.x)/\W.cell? ⟨w.heap.size+1+1+1,1,none⟩=some (.int .i64 d.y)) ((repeat' apply And.intro)<;>(repeat (refine Dv KP ?_))<;>(first | assumption | simp [*]))
     (first | (go_at_call 200;refine (HS.out _ _ _ _).mono ?_;rintro e w' ⟨rfl,hb'⟩))
   by_cases hg2:FH c d a*FH c d b<=0
   ·have hq:JJ a b c d=1:=by rw [Hm.out,AZ ⟨hg,hg2⟩]
    have Hq:=AA hq;clear hq Hm;go_wp2;go_ret;refine ⟨DU Hq.out.symm,?_⟩;exact Dk
   ·have hq:JJ a b c d=0:=by rw [Hm.out,AX (fun h=>hg2 h.2)]
    have Hq:=AA hq;clear hq Hm;go_wp2;go_ret;refine ⟨DU Hq.out.symm,?_⟩;exact Dk
  ·have hg':decide (FH a b c*FH a b d<=0)=false:=by simpa using hg
   have hq:JJ a b c d=0:=by rw [Hm.out,AX (fun h=>hg h.1)]
   have Hq:=AA hq;clear hq Hm;clear hs1 hs2 hs3 hs4;refine Cj (wc) (.run 3 0 0 (.run 3 4 7 (.call 3 127 (.call 7 255 (.run 15 8 255 (.done)))))) fun Bv QR Ae Ah hS=>?_
   iterate 6 refine Aj ?_
   refine FD (HS.out a b c _) ?_;clear hS;intro Bq Bf hS;refine FD (HS.out a b d _) ?_;clear hS;intro wr2 FT hS
   iterate 3 refine Aj ?_
   iterate 10 refine JU ?_
   iterate 2 refine Aj ?_
   refine Ce ?_;clear hS Ah Ae;intro hB;go_wp2;go_ret;refine ⟨DU Hq.out.symm,?_⟩;exact Dk
theorem uV (v:Value) (l:List Pt) (w:World) (h:Dq w v l) :
  Calls Tryz.prog 212 #[v] w fun e w'=>e=.returned (.bool (Dy l))/\AP w w':=by
 obtain ⟨A,c,rfl,hn,hc,hR⟩:=h;unfold maxLen at hc;go_enter Tryz.func212,Tryz.ntmps212;go_wp2_with fail;go_loopw [3] (fun i wr=>∃ k:Nat,k<=l.length/\i=.int .i64 k/\AP w wr/\∀ j (hj:j<l.length),j<k->Bg l[j]=true) (fun i _=>l.length-(intOf i).toNat)
 case atStart => exact ⟨0,BZ _,rfl,Below.refl _ _,fun j _ h=>by omega⟩
 case round =>
  obtain ⟨k,hk,rfl,hb,hno⟩:=hrel;have Hb:=AA hb;have Hno:=AA hno;have hs:=hb.size;clear hb hno;by_cases hlt:k<l.length
  ·obtain ⟨b,o,rfl,hlb,c0,c1⟩:=(hR.mono Hb.out).pt hlt;have HR:=AA hR;clear hR;by_cases hnr:Bg l[k]=true
   ·have Hn:=AA hnr;obtain ⟨n1,n2,n3,n4⟩:=(Qq _).1 hnr;clear hnr;go_wp2;go_roundw
    case rel => exact ⟨k+1,AB,BI,Hb.out,all_succ (p:=fun x=>Bg x=true) Hno.out hlt Hn.out⟩
    case measure => exact BK
   ·have hn':Bg l[k]=false:=by simpa using hnr
    have Hf:=AA (acX l k hlt hn');clear hn';have uT:=AA hnr;clear hnr;go_wp2
    all_goals first
     | (go_ret;exact ⟨C9 Hf.out.symm,Hb.out⟩)
     | (exfalso;exact uT.out ((Qq _).2 ⟨AB,AB,AB,AB⟩))
  ·go_wp2;go_ret;exact ⟨C9 (acY l fun j hj=>Hno.out j hj AB).symm,Hb.out⟩
def BM (a b c d:Pt):Int:=(b.x-a.x)*(d.y-c.y)-(b.y-a.y)*(d.x-c.x)
def Y9 (a b c d:Pt):Int:=(b.x-a.x)*(d.x-c.x)+(b.y-a.y)*(d.y-c.y)
theorem ac3 (a b c d:Pt) (w:World) (ha:lim a) (hb:lim b) (hc:lim c) (hd:lim d) :
  Calls Tryz.prog 213 #[BD a,BD b,BD c,BD d] w fun e w'=>e=.returned (.int .i64 (BM a b c d))/\AP w w':=by
 obtain ⟨a1,a2,a3,a4⟩:=ha;obtain ⟨b1,b2,b3,b4⟩:=hb;obtain ⟨c1,c2,c3,c4⟩:=hc;obtain ⟨d1,d2,d3,d4⟩:=hd;obtain ⟨m1,m2⟩:=Qr (b.x-a.x) (d.y-c.y) 4194304 AB AB AB AB;obtain ⟨m3,m4⟩:=Qr (b.y-a.y) (d.x-c.x) 4194304 AB AB AB AB;simp only [Int.reduceMul,Int.reduceNeg] at m1 m2 m3 m4;unfold BD;go_enter Tryz.func213,Tryz.ntmps213;go_wp2;go_ret;refine ⟨DU rfl,?_⟩;exact Dk
theorem aoI (a b c d:Pt) (w:World) (ha:lim a) (hb:lim b) (hc:lim c) (hd:lim d) :
  Calls Tryz.prog 214 #[BD a,BD b,BD c,BD d] w fun e w'=>e=.returned (.int .i64 (Y9 a b c d))/\AP w w':=by
 obtain ⟨a1,a2,a3,a4⟩:=ha;obtain ⟨b1,b2,b3,b4⟩:=hb;obtain ⟨c1,c2,c3,c4⟩:=hc;obtain ⟨d1,d2,d3,d4⟩:=hd;obtain ⟨m1,m2⟩:=Qr (b.x-a.x) (d.x-c.x) 4194304 AB AB AB AB;obtain ⟨m3,m4⟩:=Qr (b.y-a.y) (d.y-c.y) 4194304 AB AB AB AB;simp only [Int.reduceMul,Int.reduceNeg] at m1 m2 m3 m4;unfold BD;go_enter Tryz.func214,Tryz.ntmps214;go_wp2;go_ret;refine ⟨DU rfl,?_⟩;exact Dk
theorem aoJ (a b:Pt) (w:World) :
  Calls Tryz.prog 291 #[BD a,BD b] w fun e w'=>e=.returned (.bool (CB a b))/\AP w w':=by
 unfold BD;by_cases h1:a.x<b.x
 ·go_enter Tryz.func291,Tryz.ntmps291;go_wp2;go_ret;refine ⟨C9 (by simp [CB,h1]),?_⟩;exact Dk
 ·by_cases h2:(a.x == b.x)=true
  ·go_enter Tryz.func291,Tryz.ntmps291;go_wp2;go_ret;refine ⟨C9 (by simp only [CB];simp_all),?_⟩;exact Dk
  ·have h2':(a.x == b.x)=false:=by simpa using h2
   clear h2;go_enter Tryz.func291,Tryz.ntmps291;go_wp2;go_ret;refine ⟨C9 (by simp only [CB];simp_all),?_⟩;exact Dk
def LZ (a b p:Pt):Bool:=Dy [a,b,p] && decide (BM a b a p=0) && decide (Y9 a p b p<=0)
theorem agG (a b p:Pt) (w:World) :
  Calls Tryz.prog 150 #[BD a,BD b,BD p] w fun e w'=>e=.returned (.bool (LZ a b p))/\AP w w':=by
 have hn0:∀ q,Dy [a,b,p]=q->LZ a b p=(q && decide (BM a b a p=0) && decide (Y9 a p b p<=0)):=fun q h=>by rw [LZ,h]
 have Hn0:=AA hn0;clear hn0
 cases hn:Dy [a,b,p]
 ·have Hs:=AA (Hn0.out _ hn);unfold BD;go_enter Tryz.func150,Tryz.ntmps150;go_wp2_with fail;refine (uV _ [a,b,p] _ (Dq.Zq (AO.made Aw _ _))).mono ?_;rintro e w1 ⟨rfl,hb1⟩;rw [hn];go_wp2;go_ret;refine ⟨C9 Hs.out.symm,?_⟩;exact Dk
 ·obtain ⟨ha,hb,hc⟩:=aAX hn;have TC:∀ W,Calls Tryz.prog 213 #[BD a,BD b,BD a,BD p] W _:=fun W=>ac3 a b a p W ha hb ha hc;have TD:∀ W,Calls Tryz.prog 214 #[BD a,BD p,BD b,BD p] W _:=fun W=>aoI a p b p W ha hc hb hc;have Hs:=AA (Hn0.out _ hn);generalize BM a b a p=cr at *;generalize Y9 a p b p=dt at *;unfold BD at TC TD ⊢;have HC:=AA TC;clear TC;have HD:=AA TD;clear TD;clear ha hb hc;go_enter Tryz.func150,Tryz.ntmps150;go_wp2_with fail;refine (uV _ [a,b,p] _ (Dq.Zq (AO.made Aw _ _))).mono ?_;rintro e w1 ⟨rfl,hb1⟩;rw [hn];have Bw:AP w w1:=by
   exact Dk
  have X3:AO _ (w.heap.size) 39 #[.int .i64 a.x,.int .i64 a.y]:=AO.keep (by repeat (first | exact AO.made Aw _ _ | refine AO.alloc ?_ _)) hb1;have X4:AO _ (w.heap.size+1) 39 #[.int .i64 b.x,.int .i64 b.y]:=AO.keep (by repeat (first | exact AO.made Aw _ _ | refine AO.alloc ?_ _)) hb1;have X5:AO _ (w.heap.size+1+1) 39 #[.int .i64 p.x,.int .i64 p.y]:=AO.keep (by repeat (first | exact AO.made Aw _ _ | refine AO.alloc ?_ _)) hb1;clear hb1;obtain ⟨E5,Eo,F9,-,-⟩:=X3.BN;obtain ⟨Bh,Bl,CV,-,-⟩:=X4.BN;obtain ⟨CJ,CO,CS,-,-⟩:=X5.BN;go_wp2_with fail;refine (HC.out _).mono ?_;rintro e w2 ⟨rfl,hb2⟩;replace Bw:=bT Bw hb2;replace X3:=X3.keep hb2;replace X4:=X4.keep hb2;replace X5:=X5.keep hb2;clear hb2
  try clear E5 Eo F9
  try clear Bh Bl CV
  try clear CJ CO CS
  try clear E5 Eo F9
  obtain ⟨E5,Eo,F9,-,-⟩:=X3.BN
  try clear Bh Bl CV
  obtain ⟨Bh,Bl,CV,-,-⟩:=X4.BN
  try clear CJ CO CS
  obtain ⟨CJ,CO,CS,-,-⟩:=X5.BN;by_cases hcr:cr=0
  ·subst hcr;go_wp2_with fail;refine (HD.out _).mono ?_;rintro e w3 ⟨rfl,hb3⟩;go_wp2;go_ret;refine ⟨C9 (by rw [Hs.out];simp),?_⟩;exact Dk
  ·have azC:(cr == 0)=false:=by simpa using hcr
   have Hcr:=AA hcr;clear hcr;go_wp2;go_ret;refine ⟨C9 (by rw [Hs.out];simp [Hcr.out]),?_⟩;exact Dk
theorem aoK (a b c d:Pt) (w:World) :
  Calls Tryz.prog 273 #[BD a,BD b,BD c,BD d] w fun e w'=>e=.returned (.int .i64 (Jw a b c d))/\AP w w':=by
 have T:∀ p q:Pt,∀ W,Calls Tryz.prog 291 #[BD p,BD q] W _:=fun p q W=>aoJ p q W;unfold BD at T ⊢;have HT:=AA T;clear T;go_enter Tryz.func273,Tryz.ntmps273;go_wp2_with fail;refine (HT.out b a _).mono ?_;rintro e w1 ⟨rfl,hb1⟩;have Bw:AP w w1:=by
  exact Dk
 have X4:Boxed w1 w.heap.size a:=((((Boxed.new _ a rfl).alloc _).alloc _).alloc _).keep hb1;have X5:Boxed w1 (w.heap.size+1) b:=(((Boxed.new _ b Aw).alloc _).alloc _).keep hb1;have X6:Boxed w1 (w.heap.size+1+1) c:=((Boxed.new _ c Aw).alloc _).keep hb1;have X7:Boxed w1 (w.heap.size+1+1+1) d:=(Boxed.new _ d Aw).keep hb1;clear hb1;go_upto_if 11 with fail;go_cut [] (fun wx=>Boxed wx (w.heap.size) (if CB b a then b else a)/\Boxed wx (w.heap.size+1) (if CB b a then a else b)/\Boxed wx (w.heap.size+1+1) c/\Boxed wx (w.heap.size+1+1+1) d/\AP w wx)
 case first =>
  obtain ⟨Bh,Bl,CV,Dl,Ey⟩:=X4.BN;obtain ⟨CJ,CO,CS,VT,VU⟩:=X5.BN
  cases h:CB b a
  ·go_wp2;go_meet
   case rel =>
   rw [h];exact ⟨X4,X5,X6,X7,Bw⟩
  ·go_wp2;go_meet
   case rel =>
   rw [h];exact ⟨(((X4).EW).far D7 _).far D7 _,(((X5).far D7 _).far D7 _).EW,((((X6).far D7 _).far D7 _).far D7 _).far D7 _,((((X7).far D7 _).far D7 _).far D7 _).far D7 _,bS (bS (bS (bS (Bw) D7 _) D7 _) D7 _) D7 _⟩
 case rest =>
  clear X4 X5 X6 X7 Bw;obtain ⟨X4,X5,X6,X7,Bw⟩:=hcut;obtain ⟨a1,ha1⟩:=BO ((if CB b a then b else a));rw [<- ha1] at X4;have Ha1:=AA ha1;clear ha1;obtain ⟨b1,hb1⟩:=BO ((if CB b a then a else b));rw [<- hb1] at X5;have Hb1:=AA hb1;clear hb1;obtain ⟨EF,EG,EH,-,-⟩:=X6.BN;obtain ⟨EK,EL,FN,-,-⟩:=X7.BN;go_wp2_with fail;refine (HT.out d c _).mono ?_;rintro e w2 ⟨rfl,hb2⟩;replace Bw:=bT Bw hb2;replace X4:=X4.keep hb2;replace X5:=X5.keep hb2;replace X6:=X6.keep hb2;replace X7:=X7.keep hb2;clear hb2
  try clear Bh Bl CV
  try clear Dl Ey
  try clear CJ CO CS
  try clear VT VU
  try clear EF EG EH
  try clear EK EL FN
  go_upto_if 16 with fail;go_cut [] (fun wx=>Boxed wx (w.heap.size) a1/\Boxed wx (w.heap.size+1) b1/\Boxed wx (w.heap.size+1+1) (if CB d c then d else c)/\Boxed wx (w.heap.size+1+1+1) (if CB d c then c else d)/\AP w wx)
  case first =>
   try clear EF EG EH
   obtain ⟨EF,EG,EH,XD,XE⟩:=X6.BN
   try clear EK EL FN
   obtain ⟨EK,EL,FN,YA,YC⟩:=X7.BN
   cases h:CB d c
   ·go_wp2;go_meet
    case rel =>
    rw [h];exact ⟨X4,X5,X6,X7,Bw⟩
   ·go_wp2;go_meet
    case rel =>
    rw [h];exact ⟨((((X4).far D7 _).far D7 _).far D7 _).far D7 _,((((X5).far D7 _).far D7 _).far D7 _).far D7 _,(((X6).EW).far D7 _).far D7 _,(((X7).far D7 _).far D7 _).EW,bS (bS (bS (bS (Bw) D7 _) D7 _) D7 _) D7 _⟩
  case rest =>
   clear X4 X5 X6 X7 Bw;obtain ⟨X4,X5,X6,X7,Bw⟩:=hcut;obtain ⟨c1,hc1⟩:=BO ((if CB d c then d else c));rw [<- hc1] at X6;have Hc1:=AA hc1;clear hc1;obtain ⟨d1,hd1⟩:=BO ((if CB d c then c else d));rw [<- hd1] at X7;have Hd1:=AA hd1;clear hd1
   try clear Bh Bl CV
   try clear Dl Ey
   obtain ⟨Bh,Bl,CV,-,-⟩:=X4.BN
   try clear EF EG EH
   try clear XD XE
   obtain ⟨EF,EG,EH,-,-⟩:=X6.BN;go_wp2_with fail;refine (HT.out a1 c1 _).mono ?_;rintro e w3 ⟨rfl,hb3⟩;replace Bw:=bT Bw hb3;replace X4:=X4.keep hb3;replace X5:=X5.keep hb3;replace X6:=X6.keep hb3;replace X7:=X7.keep hb3;clear hb3
   try clear Bh Bl CV
   try clear Dl Ey
   try clear CJ CO CS
   try clear VT VU
   try clear EF EG EH
   try clear XD XE
   try clear EK EL FN
   try clear YA YC
   go_upto_if 21 with fail;go_cut [] (fun wx=>Boxed wx (w.heap.size) (if CB a1 c1 then c1 else a1)/\Boxed wx (w.heap.size+1) b1/\Boxed wx (w.heap.size+1+1) c1/\Boxed wx (w.heap.size+1+1+1) d1/\AP w wx)
   case first =>
    try clear Bh Bl CV
    try clear Dl Ey
    obtain ⟨Bh,Bl,CV,Dl,Ey⟩:=X4.BN
    try clear EF EG EH
    try clear XD XE
    obtain ⟨EF,EG,EH,XD,XE⟩:=X6.BN
    cases h:CB a1 c1
    ·go_wp2;go_meet
     case rel =>
     rw [h];exact ⟨X4,X5,X6,X7,Bw⟩
    ·go_wp2;go_meet
     case rel =>
     rw [h];exact ⟨(X4).EW,((X5).far D7 _).far D7 _,((X6).far D7 _).far D7 _,((X7).far D7 _).far D7 _,bS (bS (Bw) D7 _) D7 _⟩
   case rest =>
    clear X4 X5 X6 X7 Bw;obtain ⟨X4,X5,X6,X7,Bw⟩:=hcut;obtain ⟨a2,ha2⟩:=BO ((if CB a1 c1 then c1 else a1));rw [<- ha2] at X4;have Ha2:=AA ha2;clear ha2
    try clear CJ CO CS
    try clear VT VU
    obtain ⟨CJ,CO,CS,-,-⟩:=X5.BN
    try clear EK EL FN
    try clear YA YC
    obtain ⟨EK,EL,FN,-,-⟩:=X7.BN;go_wp2_with fail;refine (HT.out d1 b1 _).mono ?_;rintro e w4 ⟨rfl,hb4⟩;replace Bw:=bT Bw hb4;replace X4:=X4.keep hb4;replace X5:=X5.keep hb4;replace X6:=X6.keep hb4;replace X7:=X7.keep hb4;clear hb4
    try clear Bh Bl CV
    try clear Dl Ey
    try clear CJ CO CS
    try clear VT VU
    try clear EF EG EH
    try clear XD XE
    try clear EK EL FN
    try clear YA YC
    go_upto_if 25 with fail;go_cut [] (fun wx=>Boxed wx (w.heap.size) a2/\Boxed wx (w.heap.size+1) (if CB d1 b1 then d1 else b1)/\Boxed wx (w.heap.size+1+1) c1/\Boxed wx (w.heap.size+1+1+1) d1/\AP w wx)
    case first =>
     try clear CJ CO CS
     try clear VT VU
     obtain ⟨CJ,CO,CS,VT,VU⟩:=X5.BN
     try clear EK EL FN
     try clear YA YC
     obtain ⟨EK,EL,FN,YA,YC⟩:=X7.BN
     cases h:CB d1 b1
     ·go_wp2;go_meet
      case rel =>
      rw [h];exact ⟨X4,X5,X6,X7,Bw⟩
     ·go_wp2;go_meet
      case rel =>
      rw [h];exact ⟨((X4).far D7 _).far D7 _,(X5).EW,((X6).far D7 _).far D7 _,((X7).far D7 _).far D7 _,bS (bS (Bw) D7 _) D7 _⟩
    case rest =>
     clear X4 X5 X6 X7 Bw;obtain ⟨X4,X5,X6,X7,Bw⟩:=hcut;obtain ⟨b2,hb2⟩:=BO ((if CB d1 b1 then d1 else b1));rw [<- hb2] at X5;have Hb2:=AA hb2;clear hb2;have HS:Jw a b c d=if a2=b2 then 1 else if CB a2 b2 then 2 else 0:=by
      rw [Ha2.out,Hb2.out,Ha1.out,Hb1.out,Hc1.out,Hd1.out];rfl
     replace HS:=AA HS
     try clear Bh Bl CV
     try clear Dl Ey
     obtain ⟨Bh,Bl,CV,-,-⟩:=X4.BN
     try clear CJ CO CS
     try clear VT VU
     obtain ⟨CJ,CO,CS,-,-⟩:=X5.BN;have hE:=U8 a2 b2;go_wp2_with fail
     ·go_ret;refine ⟨DU ?_,Bw⟩;rw [HS.out,AZ KP]
     ·refine (HT.out a2 b2 _).mono ?_;rintro e w5 ⟨rfl,hb5⟩;have hfl:¬ a2=b2:=by assumption
      cases h:CB a2 b2
      ·go_wp2;go_ret;refine ⟨DU ?_,bT Bw hb5⟩;rw [HS.out,AX hfl,h];rfl
      ·go_wp2;go_ret;refine ⟨DU ?_,bT Bw hb5⟩;rw [HS.out,AX hfl,h];rfl
