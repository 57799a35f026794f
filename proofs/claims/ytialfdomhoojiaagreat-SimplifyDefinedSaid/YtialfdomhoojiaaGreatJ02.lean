import Derived.Test.YtialfdomhoojiaaGreatRegQ
import Derived.RegionTactic
set_option linter.unusedSimpArgs false
set_option linter.unusedVariables false
set_option maxRecDepth 100000
set_option maxHeartbeats 4000000
namespace Go.Proofs.YtialfdomhoojiaaGreat
open Go.RowKit
def aZ (p:Pt):Bool:=decide (-2097152<=p.x) && decide (p.x<=2097152) && decide (-2097152<=p.y) && decide (p.y<=2097152)
def eu (l:List Pt):Bool:=l.all aZ
def tw (a b c:Pt):Int:=(b.x-a.x)*(c.y-a.y)-(b.y-a.y)*(c.x-a.x)
theorem vJ (p:Pt):aZ p=true↔-2097152<=p.x/\p.x<=2097152/\-2097152<=p.y/\p.y<=2097152:=by
 simp [aZ,and_assoc]
theorem YU (l:List Pt) (k:Nat) (hk:k<l.length) (h:aZ l[k]=false):eu l=false:=by
 unfold eu;rw [List.all_eq_false];exact ⟨l[k],avF hk,by simp [h]⟩
theorem YW (l:List Pt) (h:∀ j (hj:j<l.length),aZ l[j]=true):eu l=true:=by
 unfold eu;rw [awh];intro x hx;obtain ⟨i,hi,rfl⟩:=avI.1 hx;exact h i hi
theorem Na (v:Value) (l:List Pt) (w:World) (h:dM w v l) :
  Calls Tryz.prog 76 #[v] w fun e w'=>e=.returned (.bool (eu l))/\Below w.heap.size w w':=by
 obtain ⟨A,c,rfl,hn,hc,hR⟩:=h;unfold maxLen at hc;go_enter Tryz.func76,Tryz.ntmps76;go_wp2_with fail;go_loopw [7] (fun i wr=>∃ k:Nat,k<=l.length/\i=.int .i64 k/\Below w.heap.size w wr/\∀ j (hj:j<l.length),j<k->aZ l[j]=true) (fun i _=>l.length-(intOf i).toNat)
 case atStart => exact ⟨0,avK _,rfl,Below.refl _ _,fun j _ h=>by omega⟩
 case round =>
  obtain ⟨k,hk,rfl,hb,hno⟩:=hrel;have Hb:=avE hb;have Hno:=avE hno;have hs:=hb.size;clear hb hno;by_cases hlt:k<l.length
  ·obtain ⟨b,o,rfl,hlb,c0,c1⟩:=(hR.mono Hb.out).pt hlt;have HR:=avE hR;clear hR;by_cases hnr:aZ l[k]=true
   ·have Hn:=avE hnr;obtain ⟨n1,n2,n3,n4⟩:=(vJ _).1 hnr;clear hnr;go_wp2;go_roundw
    case rel => exact ⟨k+1,by omega,by go_num,Hb.out.alloc hs _,all_succ (p:=fun x=>aZ x=true) Hno.out hlt Hn.out⟩
    case measure => simp [intOf];omega
   ·have hn':aZ l[k]=false:=by simpa using hnr
    have Hf:=avE (YU l k hlt hn');clear hn';have Py:=avE hnr;clear hnr;go_wp2
    all_goals first
     | (go_ret;exact ⟨aY Hf.out.symm,Hb.out.alloc hs _⟩)
     | (exfalso;exact Py.out ((vJ _).2 ⟨by omega,by omega,by omega,by omega⟩))
  ·go_wp2;go_ret;exact ⟨aY (YW l fun j hj=>Hno.out j hj Pe).symm,Hb.out⟩
def lim (p:Pt):Prop:=-2097152<=p.x/\p.x<=2097152/\-2097152<=p.y/\p.y<=2097152
theorem qH (a b m:Int) (h1:-m<=a) (h2:a<=m) (h3:-m<=b) (h4:b<=m):-(m*m)<=a*b/\a*b<=m*m:=by
 have hm:0<=m:=by omega
 rcases Int.le_total 0 a with ha | ha<;>rcases Int.le_total 0 b with hb | hb
 · exact ⟨by have:=Int.mul_nonneg ha hb;have:=Int.mul_nonneg hm hm;omega,Int.mul_le_mul h2 h4 hb hm⟩
 ·have e:a*b=-(a * -b):=by rw [Int.mul_neg];omega
  have h:=Int.mul_le_mul h2 (show -b<=m by omega) Pe hm;have h':=Int.mul_nonneg ha (show 0<=-b by omega);have:=Int.mul_nonneg hm hm
  omega
 ·have e:a*b=-(-a*b):=by rw [Int.neg_mul];omega
  have h:=Int.mul_le_mul (show -a<=m by omega) h4 hb hm;have h':=Int.mul_nonneg (show 0<=-a by omega) hb;have:=Int.mul_nonneg hm hm
  omega
 ·have e:a*b=-a * -b:=by rw [Int.neg_mul_neg]
  have h:=Int.mul_le_mul (show -a<=m by omega) (show -b<=m by omega) Pe hm;have h':=Int.mul_nonneg (show 0<=-a by omega) (show 0<=-b by omega);have:=Int.mul_nonneg hm hm
  omega
theorem adb (a b c:Pt) (w:World) (ha:lim a) (hb:lim b) (hc:lim c) :
  Calls Tryz.prog 77 #[aK a,aK b,aK c] w fun e w'=>e=.returned (.int .i64 (tw a b c))/\Below w.heap.size w w':=by
 obtain ⟨a1,a2,a3,a4⟩:=ha;obtain ⟨b1,b2,b3,b4⟩:=hb;obtain ⟨c1,c2,c3,c4⟩:=hc;obtain ⟨m1,m2⟩:=qH (b.x-a.x) (c.y-a.y) 4194304 Pe Pe Pe Pe;obtain ⟨m3,m4⟩:=qH (b.y-a.y) (c.x-a.x) 4194304 Pe Pe Pe Pe;simp only [Int.reduceMul,Int.reduceNeg] at m1 m2 m3 m4;unfold aK;go_enter Tryz.func77,Tryz.ntmps77;go_wp2;go_ret;exact ⟨dL rfl,(((Below.refl _ _).alloc (awe _) _).alloc ars _).alloc arV _⟩
theorem Aj {p:Pt} (h:aZ p=true):lim p:=(vJ p).1 h
theorem J6 {a b c:Pt} (h:eu [a,b,c]=true):lim a/\lim b/\lim c:=by
 simp only [eu,List.all_cons,List.all_nil,Bool.and_true,avR] at h;exact ⟨Aj h.1,Aj h.2.1,Aj h.2.2⟩
theorem ajD {a b c d:Pt} (h:eu [a,b,c,d]=true):lim a/\lim b/\lim c/\lim d:=by
 simp only [eu,List.all_cons,List.all_nil,Bool.and_true,avR] at h;exact ⟨Aj h.1,Aj h.2.1,Aj h.2.2.1,Aj h.2.2.2⟩
def kY (a b c:Pt):Int:=if eu [a,b,c]=true then tw a b c else 0
theorem ade (a b c:Pt) (w:World) :
  Calls Tryz.prog 102 #[aK a,aK b,aK c] w fun e w'=>e=.returned (.int .i64 (kY a b c))/\Below w.heap.size w w':=by
 unfold aK;by_cases hn:eu [a,b,c]=true
 ·obtain ⟨ha,hb,hc⟩:=J6 hn;have Ha:=avE ha;have Hb:=avE hb;have Hc:=avE hc;clear ha hb hc;go_enter Tryz.func102,Tryz.ntmps102;go_wp2_with fail;refine (Na _ [a,b,c] _ (dM.DW (ah.made ars _ _))).mono ?_;rintro e w1 ⟨rfl,hb1⟩;obtain ⟨YX,YZ⟩:=Cj hb1;have J7:=hb1.size
  try simp only [World.size_alloc,World.size_setCell,World.size_drew] at J7
  have Y0:w.heap.size<w1.heap.size:=by omega
  have Y3:w.heap.size+1<w1.heap.size:=by omega
  have Y8:w.heap.size+1+1<w1.heap.size:=by omega
  go_wp2_with fail;refine (adb a b c _ Ha.out Hb.out Hc.out).mono ?_;rintro e w2 ⟨rfl,hb2⟩;go_wp2;go_ret;refine ⟨dL (by simp [kY,hn]),?_⟩;exact eF
 ·have hn':eu [a,b,c]=false:=by simpa using hn
  clear hn;go_enter Tryz.func102,Tryz.ntmps102;go_wp2_with fail;refine (Na _ [a,b,c] _ (dM.DW (ah.made ars _ _))).mono ?_;rintro e w1 ⟨rfl,hb1⟩;obtain ⟨YX,YZ⟩:=Cj hb1;have J7:=hb1.size
  try simp only [World.size_alloc,World.size_setCell,World.size_drew] at J7
  have Y0:w.heap.size<w1.heap.size:=by omega
  have Y3:w.heap.size+1<w1.heap.size:=by omega
  have Y8:w.heap.size+1+1<w1.heap.size:=by omega
  go_wp2;go_ret;refine ⟨dL (by simp [kY,hn']),?_⟩;exact eF
def dK (a b c:Pt):Int:=if 0<kY a b c then 1 else if kY a b c<0 then -1 else 0
theorem Nb (a b c:Pt) (w:World) :
  Calls Tryz.prog 200 #[aK a,aK b,aK c] w fun e w'=>e=.returned (.int .i64 (dK a b c))/\Below w.heap.size w w':=by
 have T:∀ W,Calls Tryz.prog 102 #[aK a,aK b,aK c] W _:=fun W=>ade a b c W;unfold aK at T ⊢;unfold dK;generalize kY a b c=t at *;have HT:=avE T;clear T;go_enter Tryz.func200,Tryz.ntmps200;go_wp2_with fail;refine (HT.out _).mono ?_;rintro e w1 ⟨rfl,hb1⟩;go_wp2_with fail
 all_goals
  go_ret;refine ⟨dL rfl,?_⟩;exact eF
def dQ (a b p:Pt):Bool:=eu [a,b,p] && decide (tw a b p=0) && decide (min a.x b.x<=p.x) && decide (p.x<=max a.x b.x) && decide (min a.y b.y<=p.y) && decide (p.y<=max a.y b.y)
theorem J8 (a b p:Pt) (w:World) :
  Calls Tryz.prog 28 #[aK a,aK b,aK p] w fun e w'=>e=.returned (.bool (dQ a b p))/\Below w.heap.size w w':=by
 unfold aK;by_cases hn:eu [a,b,p]=true
 ·obtain ⟨ha,hb,hc⟩:=J6 hn;have T:∀ W,Calls Tryz.prog 77 #[aK a,aK b,aK p] W _:=fun W=>adb a b p W ha hb hc;unfold aK at T;have hS:dQ a b p=(decide (tw a b p=0) && decide (min a.x b.x<=p.x) && decide (p.x<=max a.x b.x) && decide (min a.y b.y<=p.y) && decide (p.y<=max a.y b.y)):=by simp [dQ,hn]
  rw [hS];generalize tw a b p=t at *;have HT:=avE T;clear T ha hb hc hS;go_enter Tryz.func28,Tryz.ntmps28;go_wp2_with fail;refine (Na _ [a,b,p] _ (dM.DW (ah.made ars _ _))).mono ?_;rintro e w1 ⟨rfl,hb1⟩;obtain ⟨YX,YZ⟩:=Cj hb1;have J7:=hb1.size
  try simp only [World.size_alloc,World.size_setCell,World.size_drew] at J7
  have Y0:w.heap.size<w1.heap.size:=by omega
  have Y3:w.heap.size+1<w1.heap.size:=by omega
  have Y8:w.heap.size+1+1<w1.heap.size:=by omega
  go_wp2_with fail;refine (HT.out _).mono ?_;rintro e w2 ⟨rfl,hb2⟩;obtain ⟨ajE,ajF⟩:=Cj hb2;have Y9:=hb2.size
  try simp only [World.size_alloc,World.size_setCell,World.size_drew] at Y9
  have ajG:w.heap.size<w2.heap.size:=by omega
  have ajH:w.heap.size+1<w2.heap.size:=by omega
  have ajI:w.heap.size+1+1<w2.heap.size:=by omega
  by_cases ht:t=0
  ·subst ht;go_wp2_with fail
   all_goals
    go_ret;refine ⟨aY (by rw [Bool.eq_iff_iff];simp only [avR,avQ,Bool.false_eq_true,false_iff,true_iff];omega),?_⟩;exact eF
  ·have ht':(t == 0)=false:=by simpa using ht
   go_wp2;go_ret;refine ⟨aY (by simp [ht]),?_⟩;exact eF
 ·have hn':eu [a,b,p]=false:=by simpa using hn
  clear hn;go_enter Tryz.func28,Tryz.ntmps28;go_wp2_with fail;refine (Na _ [a,b,p] _ (dM.DW (ah.made ars _ _))).mono ?_;rintro e w1 ⟨rfl,hb1⟩;obtain ⟨YX,YZ⟩:=Cj hb1;have J7:=hb1.size
  try simp only [World.size_alloc,World.size_setCell,World.size_drew] at J7
  have Y0:w.heap.size<w1.heap.size:=by omega
  have Y3:w.heap.size+1<w1.heap.size:=by omega
  have Y8:w.heap.size+1+1<w1.heap.size:=by omega
  go_wp2;go_ret;refine ⟨aY (by simp [dQ,hn']),?_⟩;exact eF
theorem ajJ (a b:Pt) (w:World) :
  Calls Tryz.prog 297 #[aK a,aK b] w fun e w'=>e=.returned (.bool (bF a b))/\Below w.heap.size w w':=by
 unfold aK;by_cases h1:a.x<b.x
 ·go_enter Tryz.func297,Tryz.ntmps297;go_wp2;go_ret;refine ⟨aY (by simp [bF,h1]),?_⟩;exact eF
 ·by_cases h2:(a.x == b.x)=true
  ·go_enter Tryz.func297,Tryz.ntmps297;go_wp2;go_ret;refine ⟨aY (by simp only [bF];simp_all),?_⟩;exact eF
  ·have h2':(a.x == b.x)=false:=by simpa using h2
   clear h2;go_enter Tryz.func297,Tryz.ntmps297;go_wp2;go_ret;refine ⟨aY (by simp only [bF];simp_all),?_⟩;exact eF
def mO (a b c d:Pt):Int :=
 let a':=if bF b a then b else a
 let b':=if bF b a then a else b
 let c':=if bF d c then d else c
 let d':=if bF d c then c else d
 let f:=if bF a' c' then c' else a'
 let l:=if bF d' b' then d' else b'
 if f=l then 1 else if bF f l then 2 else 0
theorem ajK (a b c d:Pt) (w:World) :
  Calls Tryz.prog 286 #[aK a,aK b,aK c,aK d] w fun e w'=>e=.returned (.int .i64 (mO a b c d))/\Below w.heap.size w w':=by
 have T:∀ p q:Pt,∀ W,Calls Tryz.prog 297 #[aK p,aK q] W _:=fun p q W=>ajJ p q W;unfold aK at T ⊢;have HT:=avE T;clear T;go_enter Tryz.func286,Tryz.ntmps286;go_wp2_with fail;refine (HT.out b a _).mono ?_;rintro e w1 ⟨rfl,hb1⟩;have oL:Below w.heap.size w w1:=by
  exact eF
 have X4:Boxed w1 w.heap.size a:=((((Boxed.new _ a rfl).alloc _).alloc _).alloc _).keep hb1;have X5:Boxed w1 (w.heap.size+1) b:=(((Boxed.new _ b ars).alloc _).alloc _).keep hb1;have X6:Boxed w1 (w.heap.size+1+1) c:=((Boxed.new _ c ars).alloc _).keep hb1;have X7:Boxed w1 (w.heap.size+1+1+1) d:=(Boxed.new _ d ars).keep hb1;clear hb1;go_upto_if 13 with fail;go_cut [] (fun wx=>Boxed wx w.heap.size (if bF b a then b else a)/\Boxed wx (w.heap.size+1) (if bF b a then a else b)/\Boxed wx (w.heap.size+1+1) c/\Boxed wx (w.heap.size+1+1+1) d/\Below w.heap.size w wx)
 case first =>
  obtain ⟨Ak,x40,x41,x4f,x4g⟩:=X4.facts;obtain ⟨Am,Aw,Az,x5f,x5g⟩:=X5.facts
  cases h:bF b a
  ·go_wp2;go_meet
   case rel =>
   rw [h];exact ⟨X4,X5,X6,X7,oL⟩
  ·go_wp2;go_meet
   case rel =>
   rw [h];exact ⟨(X4.fF.far adC _).far adC _,(X5.far adC _ |>.far adC _).fF,(((X6.far adC _).far adC _).far adC _).far adC _,(((X7.far adC _).far adC _).far adC _).far adC _,bS (bS (bS (bS oL adC _) adC _) adC _) adC _⟩
 case rest =>
  clear oL X4 X5 X6 X7;obtain ⟨X4,X5,X6,X7,Bw⟩:=hcut;obtain ⟨a1,ha1⟩:∃ a1,a1=(if bF b a then b else a):=⟨_,rfl⟩;obtain ⟨b1,hb1⟩:∃ b1,b1=(if bF b a then a else b):=⟨_,rfl⟩;rw [<- ha1] at X4;rw [<- hb1] at X5;have Ha:=avE ha1;clear ha1;have Hb:=avE hb1;clear hb1;obtain ⟨CG,CJ,CO,-,-⟩:=X6.facts;obtain ⟨uH,vK,vM,-,-⟩:=X7.facts;go_wp2_with fail;refine (HT.out d c _).mono ?_;rintro e w2 ⟨rfl,hb2⟩;clear CG CJ CO uH vK vM;replace Bw:Below w.heap.size w w2:=bT Bw hb2;replace X4:=X4.keep hb2;replace X5:=X5.keep hb2;replace X6:=X6.keep hb2;replace X7:=X7.keep hb2;clear hb2;go_upto_if 18 with fail;go_cut [] (fun wx=>Boxed wx w.heap.size a1/\Boxed wx (w.heap.size+1) b1/\Boxed wx (w.heap.size+1+1) (if bF d c then d else c)/\Boxed wx (w.heap.size+1+1+1) (if bF d c then c else d)/\Below w.heap.size w wx)
  case first =>
   obtain ⟨CG,CJ,CO,x6f,x6g⟩:=X6.facts;obtain ⟨uH,vK,vM,x7f,x7g⟩:=X7.facts
   cases h:bF d c
   ·go_wp2;go_meet
    case rel =>
    rw [h];exact ⟨X4,X5,X6,X7,Bw⟩
   ·go_wp2;go_meet
    case rel =>
    rw [h];exact ⟨(((X4.far adC _).far adC _).far adC _).far adC _,(((X5.far adC _).far adC _).far adC _).far adC _,(X6.fF.far adC _).far adC _,(X7.far adC _ |>.far adC _).fF,bS (bS (bS (bS Bw adC _) adC _) adC _) adC _⟩
  case rest =>
   clear Bw X4 X5 X6 X7;obtain ⟨X4,X5,X6,X7,Bw⟩:=hcut;obtain ⟨c1,hc1⟩:∃ c1,c1=(if bF d c then d else c):=⟨_,rfl⟩;obtain ⟨d1,hd1⟩:∃ d1,d1=(if bF d c then c else d):=⟨_,rfl⟩;rw [<- hc1] at X6;rw [<- hd1] at X7;have Hc:=avE hc1;clear hc1;have Hd:=avE hd1;clear hd1;obtain ⟨Ak,x40,x41,x4f,x4g⟩:=X4.facts;obtain ⟨Am,Aw,Az,x5f,x5g⟩:=X5.facts;go_upto_region 5 with fail;go_cut [9,10] (fun s9 s10 wx=>∃ g9 g10:Nat,s9=.pointer (some ⟨g9,0,none⟩)/\s10=.pointer (some ⟨g10,0,none⟩)/\Boxed wx g9 a1/\Boxed wx g10 b1/\g9≠g10/\w.heap.size+1+1+1<g9/\w.heap.size+1+1+1<g10/\Boxed wx (w.heap.size+1+1) c1/\Boxed wx (w.heap.size+1+1+1) d1/\Below w.heap.size w wx)
   case first =>
    have uH:=X7.lt;go_region
    ·go_wp2;go_meet
     case rel => exact ⟨_,_,rfl,rfl,((Boxed.new _ a1 rfl).alloc _).drew,(Boxed.new _ b1 ars).drew,adC,adC,adC,((X6.alloc _).alloc _).drew,((X7.alloc _).alloc _).drew,bD (bA (bA Bw _) _)⟩
    ·go_wp2;go_meet
     case rel => exact ⟨_,_,rfl,rfl,(Boxed.new _ a1 ars).drew,((Boxed.new _ b1 rfl).alloc _).drew,adC,adC,adC,((X6.alloc _).alloc _).drew,((X7.alloc _).alloc _).drew,bD (bA (bA Bw _) _)⟩
   case rest =>
    clear Bw X4 X5 X6 X7 Ak x40 x41 x4f x4g Am Aw Az x5f x5g;obtain ⟨g9,g10,rfl,rfl,X9,gZ,hne,kH,atZ,X6,X7,Bw⟩:=hcut;obtain ⟨Ib,x90,x91,-,-⟩:=X9.facts;obtain ⟨CG,CJ,CO,-,-⟩:=X6.facts;go_wp2_with fail;refine (HT.out a1 c1 _).mono ?_;rintro e w3 ⟨rfl,hb3⟩;replace Bw:Below w.heap.size w w3:=bT Bw hb3;replace X9:=X9.keep hb3;replace gZ:=gZ.keep hb3;replace X6:=X6.keep hb3;replace X7:=X7.keep hb3;clear hb3 Ib x90 x91 CG CJ CO;go_upto_if 25 with fail;go_cut [] (fun wx=>Boxed wx g9 (if bF a1 c1 then c1 else a1)/\Boxed wx g10 b1/\Boxed wx (w.heap.size+1+1+1) d1/\Below w.heap.size w wx)
    case first =>
     obtain ⟨Ib,x90,x91,x9f,x9g⟩:=X9.facts;obtain ⟨CG,CJ,CO,x6f,x6g⟩:=X6.facts
     cases h:bF a1 c1
     ·go_wp2;go_meet
      case rel =>
      rw [h];exact ⟨X9,gZ,X7,Bw⟩
     ·go_wp2;go_meet
      case rel =>
      rw [h];exact ⟨X9.fF,(gZ.far adC _).far adC _,(X7.far adC _).far adC _,bS (bS Bw adC _) adC _⟩
    case rest =>
     clear Bw X9 gZ X6 X7;obtain ⟨X9,gZ,X7,Bw⟩:=hcut;obtain ⟨f1,hf1⟩:∃ f1,f1=(if bF a1 c1 then c1 else a1):=⟨_,rfl⟩;rw [<- hf1] at X9;have Hf:=avE hf1;clear hf1;obtain ⟨CP,x100,x101,-,-⟩:=gZ.facts;obtain ⟨uH,vK,vM,-,-⟩:=X7.facts;go_wp2_with fail;refine (HT.out d1 b1 _).mono ?_;rintro e w4 ⟨rfl,hb4⟩;replace Bw:Below w.heap.size w w4:=bT Bw hb4;replace X9:=X9.keep hb4;replace gZ:=gZ.keep hb4;replace X7:=X7.keep hb4;clear hb4 CP x100 x101 uH vK vM;go_upto_if 29 with fail;go_cut [] (fun wx=>Boxed wx g9 f1/\Boxed wx g10 (if bF d1 b1 then d1 else b1)/\Below w.heap.size w wx)
     case first =>
      obtain ⟨CP,x100,x101,x10f,at1⟩:=gZ.facts;obtain ⟨uH,vK,vM,x7f,x7g⟩:=X7.facts
      cases h:bF d1 b1
      ·go_wp2;go_meet
       case rel =>
       rw [h];exact ⟨X9,gZ,Bw⟩
      ·go_wp2;go_meet
       case rel =>
       rw [h];exact ⟨(X9.far adC _).far adC _,gZ.fF,bS (bS Bw adC _) adC _⟩
     case rest =>
      clear Bw X9 gZ X7;obtain ⟨X9,gZ,Bw⟩:=hcut;obtain ⟨l1,hl1⟩:∃ l1,l1=(if bF d1 b1 then d1 else b1):=⟨_,rfl⟩;rw [<- hl1] at gZ;have Hl:=avE hl1;clear hl1;have HS:mO a b c d=if f1=l1 then 1 else if bF f1 l1 then 2 else 0:=by
       rw [Hf.out,Hl.out,Ha.out,Hb.out,Hc.out,Hd.out];rfl
      replace HS:=avE HS;obtain ⟨CP,x100,x101,-,-⟩:=gZ.facts;obtain ⟨Ib,x90,x91,-,-⟩:=X9.facts;have hE:=yT f1 l1;go_wp2_with fail
      ·go_ret;refine ⟨dL ?_,Bw⟩;rw [HS.out,if_pos avD]
      ·refine (HT.out f1 l1 _).mono ?_;rintro e w5 ⟨rfl,hb5⟩;have hfl:¬ f1=l1:=by assumption
       cases h:bF f1 l1
       ·go_wp2;go_ret;refine ⟨dL ?_,bT Bw hb5⟩;rw [HS.out,if_neg hfl,h];rfl
       ·go_wp2;go_ret;refine ⟨dL ?_,bT Bw hb5⟩;rw [HS.out,if_neg hfl,h];rfl
def lq (a b c d:Pt):Int :=
 if eu [a,b,c,d]=true then
  if a=b then (if dQ c d a then 1 else 0)
  else if c=d then (if dQ a b c then 1 else 0)
  else if dK a b c=0/\dK a b d=0 then mO a b c d
  else if dK a b c*dK a b d<=0/\dK c d a*dK c d b<=0 then 1 else 0
 else 0
theorem Ic (a b c:Pt):-1<=dK a b c/\dK a b c<=1:=by
 unfold dK;split
 · omega
 · split<;>omega
theorem ajL (a b c d:Pt) (w:World) :
  Calls Tryz.prog 260 #[aK a,aK b,aK c,aK d] w fun e w'=>e=.returned (.int .i64 (lq a b c d))/\Below w.heap.size w w':=by
 have TS:∀ p q r:Pt,∀ W,Calls Tryz.prog 200 #[aK p,aK q,aK r] W _:=fun p q r W=>Nb p q r W;have TO:∀ p q r:Pt,∀ W,Calls Tryz.prog 28 #[aK p,aK q,aK r] W _:=fun p q r W=>J8 p q r W;have TH:∀ p q r s:Pt,∀ W,Calls Tryz.prog 286 #[aK p,aK q,aK r,aK s] W _:=fun p q r s W=>ajK p q r s W;unfold aK at TS TO TH ⊢;have HS:=avE TS;clear TS;have HO:=avE TO;clear TO;have HH:=avE TH;clear TH;by_cases hn:eu [a,b,c,d]=true
 case neg =>
  have hn':eu [a,b,c,d]=false:=by simpa using hn
  have hm:lq a b c d=0:=by simp [lq,hn']
  have Hm:=avE hm;clear hn hm;go_enter Tryz.func260,Tryz.ntmps260;go_wp2_with fail;refine (Na _ [a,b,c,d] _ (dM.Uj (ah.made ars _ _))).mono ?_;rintro e w1 ⟨rfl,hb1⟩;go_wp2;go_ret;refine ⟨dL Hm.out.symm,?_⟩;exact eF
 case pos =>
 have Hn:=avE hn;go_enter Tryz.func260,Tryz.ntmps260;go_wp2_with fail;refine (Na _ [a,b,c,d] _ (dM.Uj (ah.made ars _ _))).mono ?_;rintro e w1 ⟨rfl,hb1⟩;have Bw:Below w.heap.size w w1:=by
  exact eF
 have X4:Boxed w1 w.heap.size a:=(((((Boxed.new _ a rfl).alloc _).alloc _).alloc _).alloc _).keep hb1;have X5:Boxed w1 (w.heap.size+1) b:=((((Boxed.new _ b ars).alloc _).alloc _).alloc _).keep hb1;have X6:Boxed w1 (w.heap.size+1+1) c:=(((Boxed.new _ c ars).alloc _).alloc _).keep hb1;have X7:Boxed w1 (w.heap.size+1+1+1) d:=((Boxed.new _ d ars).alloc _).keep hb1;clear hb1;obtain ⟨Ak,x40,x41,-,-⟩:=X4.facts;obtain ⟨Am,Aw,Az,-,-⟩:=X5.facts;obtain ⟨CG,CJ,CO,-,-⟩:=X6.facts;obtain ⟨uH,vK,vM,-,-⟩:=X7.facts;have hE1:=yT a b;have hE2:=yT c d;have hs1:=Ic a b c;have hs2:=Ic a b d;have hs3:=Ic c d a;have hs4:=Ic c d b;by_cases hab:a=b
 ·have hm:lq a b c d=if dQ c d a then 1 else 0:=by rw [lq,if_pos Hn.out,if_pos hab]
  have Hm:=avE hm;clear hm;have hab':decide (a=b)=true:=by simpa using hab
  have Hab:=avE hab;clear hab;go_wp2_with fail;refine (HO.out c d a _).mono ?_;rintro e w2 ⟨rfl,hb2⟩
  cases h:dQ c d a
  ·rw [h] at Hm;go_wp2;go_ret;refine ⟨dL Hm.out.symm,?_⟩;exact eF
  ·rw [h] at Hm;go_wp2;go_ret;refine ⟨dL Hm.out.symm,?_⟩;exact eF
 by_cases hcd:c=d
 ·have hm:lq a b c d=if dQ a b c then 1 else 0:=by rw [lq,if_pos Hn.out,if_neg hab,if_pos hcd]
  have Hm:=avE hm;clear hm;have hab':decide (a=b)=false:=by simpa using hab
  have adf:decide (c=d)=true:=by simpa using hcd
  have Hcd:=avE hcd;clear hab hcd;go_wp2_with fail;refine (HO.out a b c _).mono ?_;rintro e w2 ⟨rfl,hb2⟩
  cases h:dQ a b c
  ·rw [h] at Hm;go_wp2;go_ret;refine ⟨dL Hm.out.symm,?_⟩;exact eF
  ·rw [h] at Hm;go_wp2;go_ret;refine ⟨dL Hm.out.symm,?_⟩;exact eF
 by_cases hl:dK a b c=0/\dK a b d=0
 ·have hm:lq a b c d=mO a b c d:=by rw [lq,if_pos Hn.out,if_neg hab,if_neg hcd,if_pos hl]
  have Hm:=avE hm;clear hm;have hab':decide (a=b)=false:=by simpa using hab
  have adf:decide (c=d)=false:=by simpa using hcd
  obtain ⟨l1,l2⟩:=hl;have L1:=avE l1;have L2:=avE l2;clear hab hcd l1 l2;go_wp2_with fail;refine (HS.out a b c _).mono ?_;rintro e w2 ⟨rfl,hb2⟩;rw [L1.out];replace Bw:Below w.heap.size w w2:=bT Bw hb2;replace X4:=X4.keep hb2;replace X5:=X5.keep hb2;replace X6:=X6.keep hb2;replace X7:=X7.keep hb2;clear hb2 Ak x40 x41 Am Aw Az CG CJ CO uH vK vM;obtain ⟨Ak,x40,x41,-,-⟩:=X4.facts;obtain ⟨Am,Aw,Az,-,-⟩:=X5.facts;obtain ⟨uH,vK,vM,-,-⟩:=X7.facts;go_wp2_with fail;refine (HS.out a b d _).mono ?_;rintro e w3 ⟨rfl,hb3⟩;rw [L2.out];replace Bw:Below w.heap.size w w3:=bT Bw hb3;replace X4:=X4.keep hb3;replace X5:=X5.keep hb3;replace X6:=X6.keep hb3;replace X7:=X7.keep hb3;clear hb3 Ak x40 x41 Am Aw Az uH vK vM;obtain ⟨Ak,x40,x41,-,-⟩:=X4.facts;obtain ⟨Am,Aw,Az,-,-⟩:=X5.facts;obtain ⟨CG,CJ,CO,-,-⟩:=X6.facts;obtain ⟨uH,vK,vM,-,-⟩:=X7.facts;go_wp2_with fail;refine (HH.out a b c d _).mono ?_;rintro e w4 ⟨rfl,hb4⟩;go_wp2;go_ret;refine ⟨dL Hm.out.symm,?_⟩;exact eF
 have hm:lq a b c d=if dK a b c*dK a b d<=0/\dK c d a*dK c d b<=0 then 1 else 0:=by rw [lq,if_pos Hn.out,if_neg hab,if_neg hcd,if_neg hl]
 have Hm:=avE hm;clear hm;have hab':decide (a=b)=false:=by simpa using hab
 have adf:decide (c=d)=false:=by simpa using hcd
 have Hl:=avE hl;clear hab hcd hl;go_upto_region 9 with fail;go_cut [55] (fun s55 wx=>s55=.bool false/\Boxed wx w.heap.size a/\Boxed wx (w.heap.size+1) b/\Boxed wx (w.heap.size+1+1) c/\Boxed wx (w.heap.size+1+1+1) d/\Below w.heap.size w wx)
 case first =>
  go_wp2_with fail;refine (HS.out a b c _).mono ?_;rintro e w2 ⟨rfl,hb2⟩;replace Bw:Below w.heap.size w w2:=bT Bw hb2;replace X4:=X4.keep hb2;replace X5:=X5.keep hb2;replace X6:=X6.keep hb2;replace X7:=X7.keep hb2;clear hb2 Ak x40 x41 Am Aw Az CG CJ CO uH vK vM;by_cases hz:dK a b c=0
  ·have hz2:¬ dK a b d=0:=fun h=>Hl.out ⟨hz,h⟩;have hz2':(dK a b d == 0)=false:=by simpa using hz2
   have Hz2:=avE hz2;clear hz2;rw [hz];clear hz;obtain ⟨Ak,x40,x41,-,-⟩:=X4.facts;obtain ⟨Am,Aw,Az,-,-⟩:=X5.facts;obtain ⟨uH,vK,vM,-,-⟩:=X7.facts;go_wp2_with fail;refine (HS.out a b d _).mono ?_;rintro e w3 ⟨rfl,hb3⟩;replace Bw:Below w.heap.size w w3:=bT Bw hb3;replace X4:=X4.keep hb3;replace X5:=X5.keep hb3;replace X6:=X6.keep hb3;replace X7:=X7.keep hb3;clear hb3 Ak x40 x41 Am Aw Az uH vK vM;go_wp2;go_meet
   case rel => exact ⟨rfl,X4,X5,X6,X7,Bw⟩
  ·have hz':(dK a b c == 0)=false:=by simpa using hz
   have Hz:=avE hz;clear hz;go_wp2;go_meet
   case rel => exact ⟨rfl,X4,X5,X6,X7,Bw⟩
 case rest =>
  clear X4 X5 X6 X7 Bw Ak x40 x41 Am Aw Az CG CJ CO uH vK vM Hl;obtain ⟨rfl,X4,X5,X6,X7,Bw⟩:=hcut;obtain ⟨Ak,x40,x41,-,-⟩:=X4.facts;obtain ⟨Am,Aw,Az,-,-⟩:=X5.facts;obtain ⟨CG,CJ,CO,-,-⟩:=X6.facts;obtain ⟨uH,vK,vM,-,-⟩:=X7.facts;go_upto_region 4 with fail;obtain ⟨p1,p2⟩:=qH (dK a b c) (dK a b d) 1 Pe Pe Pe Pe;obtain ⟨p3,p4⟩:=qH (dK c d a) (dK c d b) 1 Pe Pe Pe Pe;simp only [Int.reduceMul,Int.reduceNeg] at p1 p2 p3 p4;have hw1:IntKind.i64.wrap (dK a b c*dK a b d)=dK a b c*dK a b d:=avS _ Pe;have hw2:IntKind.i64.wrap (dK c d a*dK c d b)=dK c d a*dK c d b:=avS _ Pe;by_cases hg:dK a b c*dK a b d<=0
  ·have hg':decide (dK a b c*dK a b d<=0)=true:=by simpa using hg
   clear hs1 hs2 hs3 hs4;go_region_held3 (fun W=>W.cell? ⟨w.heap.size,0,none⟩=some (.int .i64 a.x)/\W.cell? ⟨w.heap.size,1,none⟩=some (.int .i64 a.y)/\W.cell? ⟨w.heap.size+1,0,none⟩=some (.int .i64 b.x)/\W.cell? ⟨w.heap.size+1,1,none⟩=some (.int .i64 b.y)/\W.cell? ⟨w.heap.size+1+1,0,none⟩=some (.int .i64 c.x)/\W.cell? ⟨w.heap.size+1+1,1,none⟩=some (.int .i64 c.y)/\W.cell? ⟨w.heap.size+1+1+1,0,none⟩=some (.int .i64 d.x)/\W.cell? ⟨w.heap.size+1+1+1,1,none⟩=some (.int .i64 d.y)) ((repeat' apply And.intro)<;>(repeat (refine kF avD ?_))<;>(first | assumption | simp [*]))
     (first | (go_at_call 200;refine (HS.out _ _ _ _).mono ?_;rintro e w' ⟨rfl,hb'⟩))
   by_cases hg2:dK c d a*dK c d b<=0
   ·have hq:lq a b c d=1:=by rw [Hm.out,if_pos ⟨hg,hg2⟩]
    have Hq:=avE hq;clear hq Hm;go_wp2;go_ret;refine ⟨dL Hq.out.symm,?_⟩;exact eF
   ·have hq:lq a b c d=0:=by rw [Hm.out,if_neg (fun h=>hg2 h.2)]
    have Hq:=avE hq;clear hq Hm;go_wp2;go_ret;refine ⟨dL Hq.out.symm,?_⟩;exact eF
  ·have hg':decide (dK a b c*dK a b d<=0)=false:=by simpa using hg
   have hq:lq a b c d=0:=by rw [Hm.out,if_neg (fun h=>hg h.1)]
   have Hq:=avE hq;clear hq Hm;clear hs1 hs2 hs3 hs4;refine dH (wc) (.run 3 0 0 (.run 3 4 7 (.call 3 127 (.call 7 255 (.run 15 8 255 (.done)))))) fun bZ QR aB aH hS=>?_
   iterate 6 refine aC ?_
   refine fV (HS.out a b c _) ?_;clear hS;intro cZ bW hS;refine fV (HS.out a b d _) ?_;clear hS;intro wr2 iW hS
   iterate 3 refine aC ?_
   iterate 10 refine jC ?_
   iterate 2 refine aC ?_
   refine dB ?_;clear hS aH aB;intro hB;go_wp2;go_ret;refine ⟨dL Hq.out.symm,?_⟩;exact eF
theorem J9 (v:Value) (l:List Pt) (w:World) (h:dM w v l) :
  Calls Tryz.prog 212 #[v] w fun e w'=>e=.returned (.bool (eu l))/\Below w.heap.size w w':=by
 obtain ⟨A,c,rfl,hn,hc,hR⟩:=h;unfold maxLen at hc;go_enter Tryz.func212,Tryz.ntmps212;go_wp2_with fail;go_loopw [3] (fun i wr=>∃ k:Nat,k<=l.length/\i=.int .i64 k/\Below w.heap.size w wr/\∀ j (hj:j<l.length),j<k->aZ l[j]=true) (fun i _=>l.length-(intOf i).toNat)
 case atStart => exact ⟨0,avK _,rfl,Below.refl _ _,fun j _ h=>by omega⟩
 case round =>
  obtain ⟨k,hk,rfl,hb,hno⟩:=hrel;have Hb:=avE hb;have Hno:=avE hno;have hs:=hb.size;clear hb hno;by_cases hlt:k<l.length
  ·obtain ⟨b,o,rfl,hlb,c0,c1⟩:=(hR.mono Hb.out).pt hlt;have HR:=avE hR;clear hR;by_cases hnr:aZ l[k]=true
   ·have Hn:=avE hnr;obtain ⟨n1,n2,n3,n4⟩:=(vJ _).1 hnr;clear hnr;go_wp2;go_roundw
    case rel => exact ⟨k+1,by omega,by go_num,Hb.out,all_succ (p:=fun x=>aZ x=true) Hno.out hlt Hn.out⟩
    case measure => simp [intOf];omega
   ·have hn':aZ l[k]=false:=by simpa using hnr
    have Hf:=avE (YU l k hlt hn');clear hn';have Py:=avE hnr;clear hnr;go_wp2
    all_goals first
     | (go_ret;exact ⟨aY Hf.out.symm,Hb.out⟩)
     | (exfalso;exact Py.out ((vJ _).2 ⟨by omega,by omega,by omega,by omega⟩))
  ·go_wp2;go_ret;exact ⟨aY (YW l fun j hj=>Hno.out j hj Pe).symm,Hb.out⟩
def aP (a b c d:Pt):Int:=(b.x-a.x)*(d.y-c.y)-(b.y-a.y)*(d.x-c.x)
def Fb (a b c d:Pt):Int:=(b.x-a.x)*(d.x-c.x)+(b.y-a.y)*(d.y-c.y)
theorem Ux (a b c d:Pt) (w:World) (ha:lim a) (hb:lim b) (hc:lim c) (hd:lim d) :
  Calls Tryz.prog 213 #[aK a,aK b,aK c,aK d] w fun e w'=>e=.returned (.int .i64 (aP a b c d))/\Below w.heap.size w w':=by
 obtain ⟨a1,a2,a3,a4⟩:=ha;obtain ⟨b1,b2,b3,b4⟩:=hb;obtain ⟨c1,c2,c3,c4⟩:=hc;obtain ⟨d1,d2,d3,d4⟩:=hd;obtain ⟨m1,m2⟩:=qH (b.x-a.x) (d.y-c.y) 4194304 Pe Pe Pe Pe;obtain ⟨m3,m4⟩:=qH (b.y-a.y) (d.x-c.x) 4194304 Pe Pe Pe Pe;simp only [Int.reduceMul,Int.reduceNeg] at m1 m2 m3 m4;unfold aK;go_enter Tryz.func213,Tryz.ntmps213;go_wp2;go_ret;refine ⟨dL rfl,?_⟩;exact eF
theorem ajM (a b c d:Pt) (w:World) (ha:lim a) (hb:lim b) (hc:lim c) (hd:lim d) :
  Calls Tryz.prog 214 #[aK a,aK b,aK c,aK d] w fun e w'=>e=.returned (.int .i64 (Fb a b c d))/\Below w.heap.size w w':=by
 obtain ⟨a1,a2,a3,a4⟩:=ha;obtain ⟨b1,b2,b3,b4⟩:=hb;obtain ⟨c1,c2,c3,c4⟩:=hc;obtain ⟨d1,d2,d3,d4⟩:=hd;obtain ⟨m1,m2⟩:=qH (b.x-a.x) (d.x-c.x) 4194304 Pe Pe Pe Pe;obtain ⟨m3,m4⟩:=qH (b.y-a.y) (d.y-c.y) 4194304 Pe Pe Pe Pe;simp only [Int.reduceMul,Int.reduceNeg] at m1 m2 m3 m4;unfold aK;go_enter Tryz.func214,Tryz.ntmps214;go_wp2;go_ret;refine ⟨dL rfl,?_⟩;exact eF
theorem ajN (a b:Pt) (w:World) :
  Calls Tryz.prog 291 #[aK a,aK b] w fun e w'=>e=.returned (.bool (bF a b))/\Below w.heap.size w w':=by
 unfold aK;by_cases h1:a.x<b.x
 ·go_enter Tryz.func291,Tryz.ntmps291;go_wp2;go_ret;refine ⟨aY (by simp [bF,h1]),?_⟩;exact eF
 ·by_cases h2:(a.x == b.x)=true
  ·go_enter Tryz.func291,Tryz.ntmps291;go_wp2;go_ret;refine ⟨aY (by simp only [bF];simp_all),?_⟩;exact eF
  ·have h2':(a.x == b.x)=false:=by simpa using h2
   clear h2;go_enter Tryz.func291,Tryz.ntmps291;go_wp2;go_ret;refine ⟨aY (by simp only [bF];simp_all),?_⟩;exact eF
def nV (a b p:Pt):Bool:=eu [a,b,p] && decide (aP a b a p=0) && decide (Fb a p b p<=0)
theorem Za (a b p:Pt) (w:World) :
  Calls Tryz.prog 150 #[aK a,aK b,aK p] w fun e w'=>e=.returned (.bool (nV a b p))/\Below w.heap.size w w':=by
 have hn0:∀ q,eu [a,b,p]=q->nV a b p=(q && decide (aP a b a p=0) && decide (Fb a p b p<=0)):=fun q h=>by rw [nV,h]
 have Zb:=avE hn0;clear hn0
 cases hn:eu [a,b,p]
 ·have Hs:=avE (Zb.out _ hn);unfold aK;go_enter Tryz.func150,Tryz.ntmps150;go_wp2_with fail;refine (J9 _ [a,b,p] _ (dM.DW (ah.made ars _ _))).mono ?_;rintro e w1 ⟨rfl,hb1⟩;rw [hn];go_wp2;go_ret;refine ⟨aY Hs.out.symm,?_⟩;exact eF
 ·obtain ⟨ha,hb,hc⟩:=J6 hn;have TC:∀ W,Calls Tryz.prog 213 #[aK a,aK b,aK a,aK p] W _:=fun W=>Ux a b a p W ha hb ha hc;have TD:∀ W,Calls Tryz.prog 214 #[aK a,aK p,aK b,aK p] W _:=fun W=>ajM a p b p W ha hc hb hc;have Hs:=avE (Zb.out _ hn);generalize aP a b a p=cr at *;generalize Fb a p b p=dt at *;unfold aK at TC TD ⊢;have HC:=avE TC;clear TC;have HD:=avE TD;clear TD;clear ha hb hc;go_enter Tryz.func150,Tryz.ntmps150;go_wp2_with fail;refine (J9 _ [a,b,p] _ (dM.DW (ah.made ars _ _))).mono ?_;rintro e w1 ⟨rfl,hb1⟩;rw [hn];have Bw:Below w.heap.size w w1:=by
   exact eF
  have X3:ah _ (w.heap.size) 39 #[.int .i64 a.x,.int .i64 a.y]:=ah.keep (by repeat (first | exact ah.made ars _ _ | refine ah.alloc ?_ _)) hb1;have X4:ah _ (w.heap.size+1) 39 #[.int .i64 b.x,.int .i64 b.y]:=ah.keep (by repeat (first | exact ah.made ars _ _ | refine ah.alloc ?_ _)) hb1;have X5:ah _ (w.heap.size+1+1) 39 #[.int .i64 p.x,.int .i64 p.y]:=ah.keep (by repeat (first | exact ah.made ars _ _ | refine ah.alloc ?_ _)) hb1;clear hb1;obtain ⟨bH,bU,bY,-,-⟩:=X3.aQ;obtain ⟨aV,aX,bn,-,-⟩:=X4.aQ;obtain ⟨bI,bJ,bV,-,-⟩:=X5.aQ;go_wp2_with fail;refine (HC.out _).mono ?_;rintro e w2 ⟨rfl,hb2⟩;replace Bw:=bT Bw hb2;replace X3:=X3.keep hb2;replace X4:=X4.keep hb2;replace X5:=X5.keep hb2;clear hb2
  try clear bH
  try clear bU
  try clear bY
  try clear aV
  try clear aX
  try clear bn
  try clear bI
  try clear bJ
  try clear bV
  try clear bH
  try clear bU
  try clear bY
  obtain ⟨bH,bU,bY,-,-⟩:=X3.aQ
  try clear aV
  try clear aX
  try clear bn
  obtain ⟨aV,aX,bn,-,-⟩:=X4.aQ
  try clear bI
  try clear bJ
  try clear bV
  obtain ⟨bI,bJ,bV,-,-⟩:=X5.aQ;by_cases hcr:cr=0
  ·subst hcr;go_wp2_with fail;refine (HD.out _).mono ?_;rintro e w3 ⟨rfl,hb3⟩;go_wp2;go_ret;refine ⟨aY (by rw [Hs.out];simp),?_⟩;exact eF
  ·have at7:(cr == 0)=false:=by simpa using hcr
   have Hcr:=avE hcr;clear hcr;go_wp2;go_ret;refine ⟨aY (by rw [Hs.out];simp [Hcr.out]),?_⟩;exact eF
theorem ajO (a b c d:Pt) (w:World) :
  Calls Tryz.prog 273 #[aK a,aK b,aK c,aK d] w fun e w'=>e=.returned (.int .i64 (mO a b c d))/\Below w.heap.size w w':=by
 have T:∀ p q:Pt,∀ W,Calls Tryz.prog 291 #[aK p,aK q] W _:=fun p q W=>ajN p q W;unfold aK at T ⊢;have HT:=avE T;clear T;go_enter Tryz.func273,Tryz.ntmps273;go_wp2_with fail;refine (HT.out b a _).mono ?_;rintro e w1 ⟨rfl,hb1⟩;have Bw:Below w.heap.size w w1:=by
  exact eF
 have X4:Boxed w1 w.heap.size a:=((((Boxed.new _ a rfl).alloc _).alloc _).alloc _).keep hb1;have X5:Boxed w1 (w.heap.size+1) b:=(((Boxed.new _ b ars).alloc _).alloc _).keep hb1;have X6:Boxed w1 (w.heap.size+1+1) c:=((Boxed.new _ c ars).alloc _).keep hb1;have X7:Boxed w1 (w.heap.size+1+1+1) d:=(Boxed.new _ d ars).keep hb1;clear hb1;go_upto_if 11 with fail;go_cut [] (fun wx=>Boxed wx (w.heap.size) (if bF b a then b else a)/\Boxed wx (w.heap.size+1) (if bF b a then a else b)/\Boxed wx (w.heap.size+1+1) c/\Boxed wx (w.heap.size+1+1+1) d/\Below w.heap.size w wx)
 case first =>
  obtain ⟨aV,aX,bn,dV,gy⟩:=X4.aQ;obtain ⟨bI,bJ,bV,xP,DZ⟩:=X5.aQ
  cases h:bF b a
  ·go_wp2;go_meet
   case rel =>
   rw [h];exact ⟨X4,X5,X6,X7,Bw⟩
  ·go_wp2;go_meet
   case rel =>
   rw [h];exact ⟨(((X4).fF).far adC _).far adC _,(((X5).far adC _).far adC _).fF,((((X6).far adC _).far adC _).far adC _).far adC _,((((X7).far adC _).far adC _).far adC _).far adC _,bS (bS (bS (bS (Bw) adC _) adC _) adC _) adC _⟩
 case rest =>
  clear X4 X5 X6 X7 Bw;obtain ⟨X4,X5,X6,X7,Bw⟩:=hcut;obtain ⟨a1,ha1⟩:∃ a1,a1=(if bF b a then b else a):=⟨_,rfl⟩;rw [<- ha1] at X4;have Ha1:=avE ha1;clear ha1;obtain ⟨b1,hb1⟩:∃ b1,b1=(if bF b a then a else b):=⟨_,rfl⟩;rw [<- hb1] at X5;have Hb1:=avE hb1;clear hb1;obtain ⟨fO,fQ,gK,-,-⟩:=X6.aQ;obtain ⟨dY,dZ,gI,-,-⟩:=X7.aQ;go_wp2_with fail;refine (HT.out d c _).mono ?_;rintro e w2 ⟨rfl,hb2⟩;replace Bw:=bT Bw hb2;replace X4:=X4.keep hb2;replace X5:=X5.keep hb2;replace X6:=X6.keep hb2;replace X7:=X7.keep hb2;clear hb2
  try clear aV
  try clear aX
  try clear bn
  try clear dV
  try clear gy
  try clear bI
  try clear bJ
  try clear bV
  try clear xP
  try clear DZ
  try clear fO
  try clear fQ
  try clear gK
  try clear dY
  try clear dZ
  try clear gI
  go_upto_if 16 with fail;go_cut [] (fun wx=>Boxed wx (w.heap.size) a1/\Boxed wx (w.heap.size+1) b1/\Boxed wx (w.heap.size+1+1) (if bF d c then d else c)/\Boxed wx (w.heap.size+1+1+1) (if bF d c then c else d)/\Below w.heap.size w wx)
  case first =>
   try clear fO
   try clear fQ
   try clear gK
   obtain ⟨fO,fQ,gK,D6,Nc⟩:=X6.aQ
   try clear dY
   try clear dZ
   try clear gI
   obtain ⟨dY,dZ,gI,qY,xQ⟩:=X7.aQ
   cases h:bF d c
   ·go_wp2;go_meet
    case rel =>
    rw [h];exact ⟨X4,X5,X6,X7,Bw⟩
   ·go_wp2;go_meet
    case rel =>
    rw [h];exact ⟨((((X4).far adC _).far adC _).far adC _).far adC _,((((X5).far adC _).far adC _).far adC _).far adC _,(((X6).fF).far adC _).far adC _,(((X7).far adC _).far adC _).fF,bS (bS (bS (bS (Bw) adC _) adC _) adC _) adC _⟩
  case rest =>
   clear X4 X5 X6 X7 Bw;obtain ⟨X4,X5,X6,X7,Bw⟩:=hcut;obtain ⟨c1,hc1⟩:∃ c1,c1=(if bF d c then d else c):=⟨_,rfl⟩;rw [<- hc1] at X6;have Hc1:=avE hc1;clear hc1;obtain ⟨d1,hd1⟩:∃ d1,d1=(if bF d c then c else d):=⟨_,rfl⟩;rw [<- hd1] at X7;have Hd1:=avE hd1;clear hd1
   try clear aV
   try clear aX
   try clear bn
   try clear dV
   try clear gy
   obtain ⟨aV,aX,bn,-,-⟩:=X4.aQ
   try clear fO
   try clear fQ
   try clear gK
   try clear D6
   try clear Nc
   obtain ⟨fO,fQ,gK,-,-⟩:=X6.aQ;go_wp2_with fail;refine (HT.out a1 c1 _).mono ?_;rintro e w3 ⟨rfl,hb3⟩;replace Bw:=bT Bw hb3;replace X4:=X4.keep hb3;replace X5:=X5.keep hb3;replace X6:=X6.keep hb3;replace X7:=X7.keep hb3;clear hb3
   try clear aV
   try clear aX
   try clear bn
   try clear dV
   try clear gy
   try clear bI
   try clear bJ
   try clear bV
   try clear xP
   try clear DZ
   try clear fO
   try clear fQ
   try clear gK
   try clear D6
   try clear Nc
   try clear dY
   try clear dZ
   try clear gI
   try clear qY
   try clear xQ
   go_upto_if 21 with fail;go_cut [] (fun wx=>Boxed wx (w.heap.size) (if bF a1 c1 then c1 else a1)/\Boxed wx (w.heap.size+1) b1/\Boxed wx (w.heap.size+1+1) c1/\Boxed wx (w.heap.size+1+1+1) d1/\Below w.heap.size w wx)
   case first =>
    try clear aV
    try clear aX
    try clear bn
    try clear dV
    try clear gy
    obtain ⟨aV,aX,bn,dV,gy⟩:=X4.aQ
    try clear fO
    try clear fQ
    try clear gK
    try clear D6
    try clear Nc
    obtain ⟨fO,fQ,gK,D6,Nc⟩:=X6.aQ
    cases h:bF a1 c1
    ·go_wp2;go_meet
     case rel =>
     rw [h];exact ⟨X4,X5,X6,X7,Bw⟩
    ·go_wp2;go_meet
     case rel =>
     rw [h];exact ⟨(X4).fF,((X5).far adC _).far adC _,((X6).far adC _).far adC _,((X7).far adC _).far adC _,bS (bS (Bw) adC _) adC _⟩
   case rest =>
    clear X4 X5 X6 X7 Bw;obtain ⟨X4,X5,X6,X7,Bw⟩:=hcut;obtain ⟨a2,ha2⟩:∃ a2,a2=(if bF a1 c1 then c1 else a1):=⟨_,rfl⟩;rw [<- ha2] at X4;have Ha2:=avE ha2;clear ha2
    try clear bI
    try clear bJ
    try clear bV
    try clear xP
    try clear DZ
    obtain ⟨bI,bJ,bV,-,-⟩:=X5.aQ
    try clear dY
    try clear dZ
    try clear gI
    try clear qY
    try clear xQ
    obtain ⟨dY,dZ,gI,-,-⟩:=X7.aQ;go_wp2_with fail;refine (HT.out d1 b1 _).mono ?_;rintro e w4 ⟨rfl,hb4⟩;replace Bw:=bT Bw hb4;replace X4:=X4.keep hb4;replace X5:=X5.keep hb4;replace X6:=X6.keep hb4;replace X7:=X7.keep hb4;clear hb4
    try clear aV
    try clear aX
    try clear bn
    try clear dV
    try clear gy
    try clear bI
    try clear bJ
    try clear bV
    try clear xP
    try clear DZ
    try clear fO
    try clear fQ
    try clear gK
    try clear D6
    try clear Nc
    try clear dY
    try clear dZ
    try clear gI
    try clear qY
    try clear xQ
    go_upto_if 25 with fail;go_cut [] (fun wx=>Boxed wx (w.heap.size) a2/\Boxed wx (w.heap.size+1) (if bF d1 b1 then d1 else b1)/\Boxed wx (w.heap.size+1+1) c1/\Boxed wx (w.heap.size+1+1+1) d1/\Below w.heap.size w wx)
    case first =>
     try clear bI
     try clear bJ
     try clear bV
     try clear xP
     try clear DZ
     obtain ⟨bI,bJ,bV,xP,DZ⟩:=X5.aQ
     try clear dY
     try clear dZ
     try clear gI
     try clear qY
     try clear xQ
     obtain ⟨dY,dZ,gI,qY,xQ⟩:=X7.aQ
     cases h:bF d1 b1
     ·go_wp2;go_meet
      case rel =>
      rw [h];exact ⟨X4,X5,X6,X7,Bw⟩
     ·go_wp2;go_meet
      case rel =>
      rw [h];exact ⟨((X4).far adC _).far adC _,(X5).fF,((X6).far adC _).far adC _,((X7).far adC _).far adC _,bS (bS (Bw) adC _) adC _⟩
    case rest =>
     clear X4 X5 X6 X7 Bw;obtain ⟨X4,X5,X6,X7,Bw⟩:=hcut;obtain ⟨b2,hb2⟩:∃ b2,b2=(if bF d1 b1 then d1 else b1):=⟨_,rfl⟩;rw [<- hb2] at X5;have Hb2:=avE hb2;clear hb2;have HS:mO a b c d=if a2=b2 then 1 else if bF a2 b2 then 2 else 0:=by
      rw [Ha2.out,Hb2.out,Ha1.out,Hb1.out,Hc1.out,Hd1.out];rfl
     replace HS:=avE HS
     try clear aV
     try clear aX
     try clear bn
     try clear dV
     try clear gy
     obtain ⟨aV,aX,bn,-,-⟩:=X4.aQ
     try clear bI
     try clear bJ
     try clear bV
     try clear xP
     try clear DZ
     obtain ⟨bI,bJ,bV,-,-⟩:=X5.aQ;have hE:=yT a2 b2;go_wp2_with fail
     ·go_ret;refine ⟨dL ?_,Bw⟩;rw [HS.out,if_pos avD]
     ·refine (HT.out a2 b2 _).mono ?_;rintro e w5 ⟨rfl,hb5⟩;have hfl:¬ a2=b2:=by assumption
      cases h:bF a2 b2
      ·go_wp2;go_ret;refine ⟨dL ?_,bT Bw hb5⟩;rw [HS.out,if_neg hfl,h];rfl
      ·go_wp2;go_ret;refine ⟨dL ?_,bT Bw hb5⟩;rw [HS.out,if_neg hfl,h];rfl
end Go.Proofs.YtialfdomhoojiaaGreat
