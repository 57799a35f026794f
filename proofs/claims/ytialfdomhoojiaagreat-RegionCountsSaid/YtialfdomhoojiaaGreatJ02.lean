import Derived.Test.YtialfdomhoojiaaGreatGB
import Derived.Test.YtialfdomhoojiaaGreatProg
import Derived.RegionTactic
import Derived.Deep.DeepCutAuto
import Derived.Deep.RegionHeld3
set_option linter.unusedSimpArgs false
set_option linter.unusedVariables false
namespace Go.Proofs.YtialfdomhoojiaaGreat
open Go.RowKit
def aW (p:Pt):Bool:=decide (-2097152<=p.x) && decide (p.x<=2097152) && decide (-2097152<=p.y) && decide (p.y<=2097152)
def fH (l:List Pt):Bool:=l.all aW
def tw (a b c:Pt):Int:=(b.x-a.x)*(c.y-a.y)-(b.y-a.y)*(c.x-a.x)
theorem wL (p:Pt):aW p=true↔-2097152<=p.x/\p.x<=2097152/\-2097152<=p.y/\p.y<=2097152:=by
 simp [aW,and_assoc]
theorem abQ (l:List Pt) (k:Nat) (hk:k<l.length) (h:aW l[k]=false):fH l=false:=by
 unfold fH;rw [List.all_eq_false];exact ⟨l[k],List.getElem_mem hk,by simp [h]⟩
theorem abR (l:List Pt) (h:∀ j (hj:j<l.length),aW l[j]=true):fH l=true:=by
 unfold fH;rw [List.all_eq_true];intro x hx;obtain ⟨i,hi,rfl⟩:=List.mem_iff_getElem.1 hx;exact h i hi
set_option maxHeartbeats 400000 in
theorem Jw (v:Value) (l:List Pt) (w:World) (h:gG w v l) :
  Calls Tryz.prog 76 #[v] w fun e w'=>e=.returned (.bool (fH l))/\Below w.heap.size w w':=by
 obtain ⟨A,c,rfl,hn,hc,hR⟩:=h;unfold maxLen at hc;go_enter Tryz.func76,Tryz.ntmps76;go_wp2_with fail;go_loopw [7] (fun i wr=>∃ k:Nat,k<=l.length/\i=.int .i64 k/\Below w.heap.size w wr/\∀ j (hj:j<l.length),j<k->aW l[j]=true) (fun i _=>l.length-(intOf i).toNat)
 case atStart => exact ⟨0,Nat.zero_le _,rfl,Below.refl _ _,fun j _ h=>by omega⟩
 case round =>
  obtain ⟨k,hk,rfl,hb,hno⟩:=hrel;have Hb:=Lib.hid hb;have Hno:=Lib.hid hno;have hs:=hb.size;clear hb hno;by_cases hlt:k<l.length
  ·obtain ⟨b,o,rfl,hlb,c0,c1⟩:=(hR.mono Hb.out).pt hlt;have HR:=Lib.hid hR;clear hR;by_cases hnr:aW l[k]=true
   ·have Hn:=Lib.hid hnr;obtain ⟨n1,n2,n3,n4⟩:=(wL _).1 hnr;clear hnr;go_wp2;go_roundw
    case rel => exact ⟨k+1,by omega,by go_num,Hb.out.alloc hs _,all_succ (p:=fun x=>aW x=true) Hno.out hlt Hn.out⟩
    case measure => simp [intOf];omega
   ·have hn':aW l[k]=false:=by simpa using hnr
    have Hf:=Lib.hid (abQ l k hlt hn');clear hn';have V7:=Lib.hid hnr;clear hnr;go_wp2
    all_goals first
     | (go_ret;exact ⟨eP Hf.out.symm,Hb.out.alloc hs _⟩)
     | (exfalso;exact V7.out ((wL _).2 ⟨by omega,by omega,by omega,by omega⟩))
  ·go_wp2;go_ret;exact ⟨eP (abR l fun j hj=>Hno.out j hj (by omega)).symm,Hb.out⟩
def lim (p:Pt):Prop:=-2097152<=p.x/\p.x<=2097152/\-2097152<=p.y/\p.y<=2097152
theorem Gs (a b m:Int) (h1:-m<=a) (h2:a<=m) (h3:-m<=b) (h4:b<=m):-(m*m)<=a*b/\a*b<=m*m:=by
 have hm:0<=m:=by omega
 rcases Int.le_total 0 a with ha | ha<;>rcases Int.le_total 0 b with hb | hb
 · exact ⟨by have:=Int.mul_nonneg ha hb;have:=Int.mul_nonneg hm hm;omega,Int.mul_le_mul h2 h4 hb hm⟩
 ·have e:a*b=-(a * -b):=by rw [Int.mul_neg];omega
  have h:=Int.mul_le_mul h2 (show -b<=m by omega) (by omega) hm;have h':=Int.mul_nonneg ha (show 0<=-b by omega);have:=Int.mul_nonneg hm hm
  omega
 ·have e:a*b=-(-a*b):=by rw [Int.neg_mul];omega
  have h:=Int.mul_le_mul (show -a<=m by omega) h4 hb hm;have h':=Int.mul_nonneg (show 0<=-a by omega) hb;have:=Int.mul_nonneg hm hm
  omega
 ·have e:a*b=-a * -b:=by rw [Int.neg_mul_neg]
  have h:=Int.mul_le_mul (show -a<=m by omega) (show -b<=m by omega) (by omega) hm;have h':=Int.mul_nonneg (show 0<=-a by omega) (show 0<=-b by omega);have:=Int.mul_nonneg hm hm
  omega
set_option maxHeartbeats 400000 in
theorem abS (a b c:Pt) (w:World) (ha:lim a) (hb:lim b) (hc:lim c) :
  Calls Tryz.prog 77 #[aZ a,aZ b,aZ c] w fun e w'=>e=.returned (.int .i64 (tw a b c))/\Below w.heap.size w w':=by
 obtain ⟨a1,a2,a3,a4⟩:=ha;obtain ⟨b1,b2,b3,b4⟩:=hb;obtain ⟨c1,c2,c3,c4⟩:=hc;obtain ⟨m1,m2⟩:=Gs (b.x-a.x) (c.y-a.y) 4194304 (by omega) (by omega) (by omega) (by omega);obtain ⟨m3,m4⟩:=Gs (b.y-a.y) (c.x-a.x) 4194304 (by omega) (by omega) (by omega) (by omega);simp only [Int.reduceMul,Int.reduceNeg] at m1 m2 m3 m4;unfold aZ;go_enter Tryz.func77,Tryz.ntmps77;go_wp2;go_ret;exact ⟨fA rfl,(((Below.refl _ _).alloc (Nat.le_refl _) _).alloc (by simp) _).alloc (by simp;omega) _⟩
theorem V8 {p:Pt} (h:aW p=true):lim p:=(wL p).1 h
theorem abT {a b c:Pt} (h:fH [a,b,c]=true):lim a/\lim b/\lim c:=by
 simp only [fH,List.all_cons,List.all_nil,Bool.and_true,Bool.and_eq_true] at h;exact ⟨V8 h.1,V8 h.2.1,V8 h.2.2⟩
def Cb (a b c:Pt):Int:=if fH [a,b,c]=true then tw a b c else 0
set_option maxHeartbeats 400000 in
theorem aiY (a b c:Pt) (w:World) :
  Calls Tryz.prog 102 #[aZ a,aZ b,aZ c] w fun e w'=>e=.returned (.int .i64 (Cb a b c))/\Below w.heap.size w w':=by
 unfold aZ;by_cases hn:fH [a,b,c]=true
 ·obtain ⟨ha,hb,hc⟩:=abT hn;have Ha:=Lib.hid ha;have Hb:=Lib.hid hb;have Hc:=Lib.hid hc;clear ha hb hc;go_enter Tryz.func102,Tryz.ntmps102;go_wp2_with fail;refine (Jw _ [a,b,c] _ (gG.MK (aj.made (by simp) _ _))).mono ?_;rintro e w1 ⟨rfl,hb1⟩;obtain ⟨V9,Wh⟩:=D9 hb1;have Gt:=hb1.size
  try simp only [World.size_alloc,World.size_setCell,World.size_drew] at Gt
  have Wi:w.heap.size<w1.heap.size:=by omega
  have Wj:w.heap.size+1<w1.heap.size:=by omega
  have Wn:w.heap.size+1+1<w1.heap.size:=by omega
  go_wp2_with fail;refine (abS a b c _ Ha.out Hb.out Hc.out).mono ?_;rintro e w2 ⟨rfl,hb2⟩;go_wp2_with fail;go_ret;refine ⟨fA (by simp [Cb,hn]),?_⟩
  repeat (first | with_reducible exact bR _ | with_reducible assumption | with_reducible refine bA ?_ _ | with_reducible refine bD ?_ | with_reducible refine bN ?_ _ | ((with_reducible refine bS ?_ ?_ _);rotate_left;(simp;try omega)) | ((with_reducible refine bT ?_ ?_);rotate_left;with_reducible assumption) | with_reducible refine bT ?_ (by assumption))
 ·have hn':fH [a,b,c]=false:=by simpa using hn
  clear hn;go_enter Tryz.func102,Tryz.ntmps102;go_wp2_with fail;refine (Jw _ [a,b,c] _ (gG.MK (aj.made (by simp) _ _))).mono ?_;rintro e w1 ⟨rfl,hb1⟩;obtain ⟨V9,Wh⟩:=D9 hb1;have Gt:=hb1.size
  try simp only [World.size_alloc,World.size_setCell,World.size_drew] at Gt
  have Wi:w.heap.size<w1.heap.size:=by omega
  have Wj:w.heap.size+1<w1.heap.size:=by omega
  have Wn:w.heap.size+1+1<w1.heap.size:=by omega
  go_wp2_with fail;go_ret;refine ⟨fA (by simp [Cb,hn']),?_⟩
  repeat (first | with_reducible exact bR _ | with_reducible assumption | with_reducible refine bA ?_ _ | with_reducible refine bD ?_ | with_reducible refine bN ?_ _ | ((with_reducible refine bS ?_ ?_ _);rotate_left;(simp;try omega)) | ((with_reducible refine bT ?_ ?_);rotate_left;with_reducible assumption) | with_reducible refine bT ?_ (by assumption))
def fC (a b c:Pt):Int:=if 0<Cb a b c then 1 else if Cb a b c<0 then -1 else 0
set_option maxHeartbeats 400000 in
theorem abU (a b c:Pt) (w:World) :
  Calls Tryz.prog 200 #[aZ a,aZ b,aZ c] w fun e w'=>e=.returned (.int .i64 (fC a b c))/\Below w.heap.size w w':=by
 have T:∀ W,Calls Tryz.prog 102 #[aZ a,aZ b,aZ c] W _:=fun W=>aiY a b c W;unfold aZ at T ⊢;unfold fC;generalize Cb a b c=t at *;have HT:=Lib.hid T;clear T;go_enter Tryz.func200,Tryz.ntmps200;go_wp2_with fail;refine (HT.out _).mono ?_;rintro e w1 ⟨rfl,hb1⟩;go_wp2_with fail
 all_goals
  go_ret;refine ⟨fA rfl,?_⟩
  repeat (first | with_reducible exact bR _ | with_reducible assumption | with_reducible refine bA ?_ _ | with_reducible refine bD ?_ | with_reducible refine bN ?_ _ | ((with_reducible refine bS ?_ ?_ _);rotate_left;(simp;try omega)) | ((with_reducible refine bT ?_ ?_);rotate_left;with_reducible assumption) | with_reducible refine bT ?_ (by assumption))
def fO (a b p:Pt):Bool:=fH [a,b,p] && decide (tw a b p=0) && decide (min a.x b.x<=p.x) && decide (p.x<=max a.x b.x) && decide (min a.y b.y<=p.y) && decide (p.y<=max a.y b.y)
set_option maxHeartbeats 1000000 in
theorem MS (a b p:Pt) (w:World) :
  Calls Tryz.prog 28 #[aZ a,aZ b,aZ p] w fun e w'=>e=.returned (.bool (fO a b p))/\Below w.heap.size w w':=by
 unfold aZ;by_cases hn:fH [a,b,p]=true
 ·obtain ⟨ha,hb,hc⟩:=abT hn;have T:∀ W,Calls Tryz.prog 77 #[aZ a,aZ b,aZ p] W _:=fun W=>abS a b p W ha hb hc;unfold aZ at T;have hS:fO a b p=(decide (tw a b p=0) && decide (min a.x b.x<=p.x) && decide (p.x<=max a.x b.x) && decide (min a.y b.y<=p.y) && decide (p.y<=max a.y b.y)):=by simp [fO,hn]
  rw [hS];generalize tw a b p=t at *;have HT:=Lib.hid T;clear T ha hb hc hS;go_enter Tryz.func28,Tryz.ntmps28;go_wp2_with fail;refine (Jw _ [a,b,p] _ (gG.MK (aj.made (by simp) _ _))).mono ?_;rintro e w1 ⟨rfl,hb1⟩;obtain ⟨V9,Wh⟩:=D9 hb1;have Gt:=hb1.size
  try simp only [World.size_alloc,World.size_setCell,World.size_drew] at Gt
  have Wi:w.heap.size<w1.heap.size:=by omega
  have Wj:w.heap.size+1<w1.heap.size:=by omega
  have Wn:w.heap.size+1+1<w1.heap.size:=by omega
  go_wp2_with fail;refine (HT.out _).mono ?_;rintro e w2 ⟨rfl,hb2⟩;obtain ⟨asZ,as1⟩:=D9 hb2;have aiZ:=hb2.size
  try simp only [World.size_alloc,World.size_setCell,World.size_drew] at aiZ
  have as2:w.heap.size<w2.heap.size:=by omega
  have as3:w.heap.size+1<w2.heap.size:=by omega
  have as4:w.heap.size+1+1<w2.heap.size:=by omega
  by_cases ht:t=0
  ·subst ht;go_wp2_with fail
   all_goals
    go_ret;refine ⟨eP (by rw [Bool.eq_iff_iff];simp only [Bool.and_eq_true,decide_eq_true_eq,Bool.false_eq_true,false_iff,true_iff];omega),?_⟩
    repeat (first | with_reducible exact bR _ | with_reducible assumption | with_reducible refine bA ?_ _ | with_reducible refine bD ?_ | with_reducible refine bN ?_ _ | ((with_reducible refine bS ?_ ?_ _);rotate_left;(simp;try omega)) | ((with_reducible refine bT ?_ ?_);rotate_left;with_reducible assumption) | with_reducible refine bT ?_ (by assumption))
  ·have ht':(t == 0)=false:=by simpa using ht
   go_wp2_with fail;go_ret;refine ⟨eP (by simp [ht]),?_⟩
   repeat (first | with_reducible exact bR _ | with_reducible assumption | with_reducible refine bA ?_ _ | with_reducible refine bD ?_ | with_reducible refine bN ?_ _ | ((with_reducible refine bS ?_ ?_ _);rotate_left;(simp;try omega)) | ((with_reducible refine bT ?_ ?_);rotate_left;with_reducible assumption) | with_reducible refine bT ?_ (by assumption))
 ·have hn':fH [a,b,p]=false:=by simpa using hn
  clear hn;go_enter Tryz.func28,Tryz.ntmps28;go_wp2_with fail;refine (Jw _ [a,b,p] _ (gG.MK (aj.made (by simp) _ _))).mono ?_;rintro e w1 ⟨rfl,hb1⟩;obtain ⟨V9,Wh⟩:=D9 hb1;have Gt:=hb1.size
  try simp only [World.size_alloc,World.size_setCell,World.size_drew] at Gt
  have Wi:w.heap.size<w1.heap.size:=by omega
  have Wj:w.heap.size+1<w1.heap.size:=by omega
  have Wn:w.heap.size+1+1<w1.heap.size:=by omega
  go_wp2_with fail;go_ret;refine ⟨eP (by simp [fO,hn']),?_⟩
  repeat (first | with_reducible exact bR _ | with_reducible assumption | with_reducible refine bA ?_ _ | with_reducible refine bD ?_ | with_reducible refine bN ?_ _ | ((with_reducible refine bS ?_ ?_ _);rotate_left;(simp;try omega)) | ((with_reducible refine bT ?_ ?_);rotate_left;with_reducible assumption) | with_reducible refine bT ?_ (by assumption))
set_option maxHeartbeats 400000 in
theorem ai0 (a b:Pt) (w:World) :
  Calls Tryz.prog 297 #[aZ a,aZ b] w fun e w'=>e=.returned (.bool (bF a b))/\Below w.heap.size w w':=by
 unfold aZ;by_cases h1:a.x<b.x
 ·go_enter Tryz.func297,Tryz.ntmps297;go_wp2;go_ret;refine ⟨eP (by simp [bF,h1]),?_⟩
  repeat (first | with_reducible exact bR _ | with_reducible assumption | with_reducible refine bA ?_ _ | with_reducible refine bD ?_ | with_reducible refine bN ?_ _ | ((with_reducible refine bS ?_ ?_ _);rotate_left;(simp;try omega)) | ((with_reducible refine bT ?_ ?_);rotate_left;with_reducible assumption) | with_reducible refine bT ?_ (by assumption))
 ·by_cases h2:(a.x == b.x)=true
  ·go_enter Tryz.func297,Tryz.ntmps297;go_wp2;go_ret;refine ⟨eP (by simp only [bF];simp_all),?_⟩
   repeat (first | with_reducible exact bR _ | with_reducible assumption | with_reducible refine bA ?_ _ | with_reducible refine bD ?_ | with_reducible refine bN ?_ _ | ((with_reducible refine bS ?_ ?_ _);rotate_left;(simp;try omega)) | ((with_reducible refine bT ?_ ?_);rotate_left;with_reducible assumption) | with_reducible refine bT ?_ (by assumption))
  ·have h2':(a.x == b.x)=false:=by simpa using h2
   clear h2;go_enter Tryz.func297,Tryz.ntmps297;go_wp2;go_ret;refine ⟨eP (by simp only [bF];simp_all),?_⟩
   repeat (first | with_reducible exact bR _ | with_reducible assumption | with_reducible refine bA ?_ _ | with_reducible refine bD ?_ | with_reducible refine bN ?_ _ | ((with_reducible refine bS ?_ ?_ _);rotate_left;(simp;try omega)) | ((with_reducible refine bT ?_ ?_);rotate_left;with_reducible assumption) | with_reducible refine bT ?_ (by assumption))
def lM (a b c d:Pt):Int :=
 let a':=if bF b a then b else a
 let b':=if bF b a then a else b
 let c':=if bF d c then d else c
 let d':=if bF d c then c else d
 let f:=if bF a' c' then c' else a'
 let l:=if bF d' b' then d' else b'
 if f=l then 1 else if bF f l then 2 else 0
set_option maxHeartbeats 1000000 in
theorem ai1 (a b c d:Pt) (w:World) :
  Calls Tryz.prog 286 #[aZ a,aZ b,aZ c,aZ d] w fun e w'=>e=.returned (.int .i64 (lM a b c d))/\Below w.heap.size w w':=by
 have T:∀ p q:Pt,∀ W,Calls Tryz.prog 297 #[aZ p,aZ q] W _:=fun p q W=>ai0 p q W;unfold aZ at T ⊢;have HT:=Lib.hid T;clear T;go_enter Tryz.func286,Tryz.ntmps286;go_wp2_with fail;refine (HT.out b a _).mono ?_;rintro e w1 ⟨rfl,hb1⟩;have yT:Below w.heap.size w w1:=by
  repeat (first | with_reducible exact bR _ | with_reducible assumption | with_reducible refine bA ?_ _ | with_reducible refine bD ?_ | with_reducible refine bN ?_ _ | ((with_reducible refine bS ?_ ?_ _);rotate_left;(simp;try omega)) | ((with_reducible refine bT ?_ ?_);rotate_left;with_reducible assumption) | with_reducible refine bT ?_ (by assumption))
 have X4:Boxed w1 w.heap.size a:=((((Boxed.new _ a rfl).alloc _).alloc _).alloc _).keep hb1;have X5:Boxed w1 (w.heap.size+1) b:=(((Boxed.new _ b (by simp)).alloc _).alloc _).keep hb1;have X6:Boxed w1 (w.heap.size+1+1) c:=((Boxed.new _ c (by simp)).alloc _).keep hb1;have X7:Boxed w1 (w.heap.size+1+1+1) d:=(Boxed.new _ d (by simp)).keep hb1;clear hb1;go_upto_if 13 with fail;go_cut [] (fun wx=>Boxed wx w.heap.size (if bF b a then b else a)/\Boxed wx (w.heap.size+1) (if bF b a then a else b)/\Boxed wx (w.heap.size+1+1) c/\Boxed wx (w.heap.size+1+1+1) d/\Below w.heap.size w wx)
 case first =>
  obtain ⟨xW,x40,x41,x4f,x4g⟩:=X4.facts;obtain ⟨xX,xY,xZ,x5f,x5g⟩:=X5.facts
  cases h:bF b a
  ·go_wp2_with fail;go_meet
   case rel =>
   rw [h];exact ⟨X4,X5,X6,X7,yT⟩
  ·go_wp2_with fail;go_meet
   case rel =>
   rw [h];exact ⟨(X4.fF.far (by first | omega | (simp;done) | (simp;omega)) _).far (by first | omega | (simp;done) | (simp;omega)) _,(X5.far (by first | omega | (simp;done) | (simp;omega)) _ |>.far (by first | omega | (simp;done) | (simp;omega)) _).fF,(((X6.far (by first | omega | (simp;done) | (simp;omega)) _).far (by first | omega | (simp;done) | (simp;omega)) _).far (by first | omega | (simp;done) | (simp;omega)) _).far (by first | omega | (simp;done) | (simp;omega)) _,(((X7.far (by first | omega | (simp;done) | (simp;omega)) _).far (by first | omega | (simp;done) | (simp;omega)) _).far (by first | omega | (simp;done) | (simp;omega)) _).far (by first | omega | (simp;done) | (simp;omega)) _,bS (bS (bS (bS yT (by first | omega | (simp;done) | (simp;omega)) _) (by first | omega | (simp;done) | (simp;omega)) _) (by first | omega | (simp;done) | (simp;omega)) _) (by first | omega | (simp;done) | (simp;omega)) _⟩
 case rest =>
  clear yT X4 X5 X6 X7;obtain ⟨X4,X5,X6,X7,Bw⟩:=hcut;obtain ⟨a1,ha1⟩:∃ a1,a1=(if bF b a then b else a):=⟨_,rfl⟩;obtain ⟨b1,hb1⟩:∃ b1,b1=(if bF b a then a else b):=⟨_,rfl⟩;rw [<- ha1] at X4;rw [<- hb1] at X5;have Ha:=Lib.hid ha1;clear ha1;have Hb:=Lib.hid hb1;clear hb1;obtain ⟨yU,yV,yX,-,-⟩:=X6.facts;obtain ⟨sG,tN,tV,-,-⟩:=X7.facts;go_wp2_with fail;refine (HT.out d c _).mono ?_;rintro e w2 ⟨rfl,hb2⟩;clear yU yV yX sG tN tV;replace Bw:Below w.heap.size w w2:=bT Bw hb2;replace X4:=X4.keep hb2;replace X5:=X5.keep hb2;replace X6:=X6.keep hb2;replace X7:=X7.keep hb2;clear hb2;go_upto_if 18 with fail;go_cut [] (fun wx=>Boxed wx w.heap.size a1/\Boxed wx (w.heap.size+1) b1/\Boxed wx (w.heap.size+1+1) (if bF d c then d else c)/\Boxed wx (w.heap.size+1+1+1) (if bF d c then c else d)/\Below w.heap.size w wx)
  case first =>
   obtain ⟨yU,yV,yX,x6f,x6g⟩:=X6.facts;obtain ⟨sG,tN,tV,x7f,x7g⟩:=X7.facts
   cases h:bF d c
   ·go_wp2_with fail;go_meet
    case rel =>
    rw [h];exact ⟨X4,X5,X6,X7,Bw⟩
   ·go_wp2_with fail;go_meet
    case rel =>
    rw [h];exact ⟨(((X4.far (by first | omega | (simp;done) | (simp;omega)) _).far (by first | omega | (simp;done) | (simp;omega)) _).far (by first | omega | (simp;done) | (simp;omega)) _).far (by first | omega | (simp;done) | (simp;omega)) _,(((X5.far (by first | omega | (simp;done) | (simp;omega)) _).far (by first | omega | (simp;done) | (simp;omega)) _).far (by first | omega | (simp;done) | (simp;omega)) _).far (by first | omega | (simp;done) | (simp;omega)) _,(X6.fF.far (by first | omega | (simp;done) | (simp;omega)) _).far (by first | omega | (simp;done) | (simp;omega)) _,(X7.far (by first | omega | (simp;done) | (simp;omega)) _ |>.far (by first | omega | (simp;done) | (simp;omega)) _).fF,bS (bS (bS (bS Bw (by first | omega | (simp;done) | (simp;omega)) _) (by first | omega | (simp;done) | (simp;omega)) _) (by first | omega | (simp;done) | (simp;omega)) _) (by first | omega | (simp;done) | (simp;omega)) _⟩
  case rest =>
   clear Bw X4 X5 X6 X7;obtain ⟨X4,X5,X6,X7,Bw⟩:=hcut;obtain ⟨c1,hc1⟩:∃ c1,c1=(if bF d c then d else c):=⟨_,rfl⟩;obtain ⟨d1,hd1⟩:∃ d1,d1=(if bF d c then c else d):=⟨_,rfl⟩;rw [<- hc1] at X6;rw [<- hd1] at X7;have Hc:=Lib.hid hc1;clear hc1;have Hd:=Lib.hid hd1;clear hd1;obtain ⟨xW,x40,x41,x4f,x4g⟩:=X4.facts;obtain ⟨xX,xY,xZ,x5f,x5g⟩:=X5.facts;go_upto_region 5 with fail;go_cut [9,10] (fun s9 s10 wx=>∃ g9 g10:Nat,s9=.pointer (some ⟨g9,0,none⟩)/\s10=.pointer (some ⟨g10,0,none⟩)/\Boxed wx g9 a1/\Boxed wx g10 b1/\g9≠g10/\w.heap.size+1+1+1<g9/\w.heap.size+1+1+1<g10/\Boxed wx (w.heap.size+1+1) c1/\Boxed wx (w.heap.size+1+1+1) d1/\Below w.heap.size w wx)
   case first =>
    have sG:=X7.lt;go_region
    ·go_wp2_with fail;go_meet
     case rel => exact ⟨_,_,rfl,rfl,((Boxed.new _ a1 rfl).alloc _).drew,(Boxed.new _ b1 (by simp)).drew,(by first | omega | (simp;done) | (simp;omega)),(by first | omega | (simp;done) | (simp;omega)),(by first | omega | (simp;done) | (simp;omega)),((X6.alloc _).alloc _).drew,((X7.alloc _).alloc _).drew,bD (bA (bA Bw _) _)⟩
    ·go_wp2_with fail;go_meet
     case rel => exact ⟨_,_,rfl,rfl,(Boxed.new _ a1 (by simp)).drew,((Boxed.new _ b1 rfl).alloc _).drew,(by first | omega | (simp;done) | (simp;omega)),(by first | omega | (simp;done) | (simp;omega)),(by first | omega | (simp;done) | (simp;omega)),((X6.alloc _).alloc _).drew,((X7.alloc _).alloc _).drew,bD (bA (bA Bw _) _)⟩
   case rest =>
    clear Bw X4 X5 X6 X7 xW x40 x41 x4f x4g xX xY xZ x5f x5g;obtain ⟨g9,g10,rfl,rfl,X9,dU,hne,wM,Eb,X6,X7,Bw⟩:=hcut;obtain ⟨Wp,x90,x91,-,-⟩:=X9.facts;obtain ⟨yU,yV,yX,-,-⟩:=X6.facts;go_wp2_with fail;refine (HT.out a1 c1 _).mono ?_;rintro e w3 ⟨rfl,hb3⟩;replace Bw:Below w.heap.size w w3:=bT Bw hb3;replace X9:=X9.keep hb3;replace dU:=dU.keep hb3;replace X6:=X6.keep hb3;replace X7:=X7.keep hb3;clear hb3 Wp x90 x91 yU yV yX;go_upto_if 25 with fail;go_cut [] (fun wx=>Boxed wx g9 (if bF a1 c1 then c1 else a1)/\Boxed wx g10 b1/\Boxed wx (w.heap.size+1+1+1) d1/\Below w.heap.size w wx)
    case first =>
     obtain ⟨Wp,x90,x91,x9f,x9g⟩:=X9.facts;obtain ⟨yU,yV,yX,x6f,x6g⟩:=X6.facts
     cases h:bF a1 c1
     ·go_wp2_with fail;go_meet
      case rel =>
      rw [h];exact ⟨X9,dU,X7,Bw⟩
     ·go_wp2_with fail;go_meet
      case rel =>
      rw [h];exact ⟨X9.fF,(dU.far (by first | omega | (simp;done) | (simp;omega)) _).far (by first | omega | (simp;done) | (simp;omega)) _,(X7.far (by first | omega | (simp;done) | (simp;omega)) _).far (by first | omega | (simp;done) | (simp;omega)) _,bS (bS Bw (by first | omega | (simp;done) | (simp;omega)) _) (by first | omega | (simp;done) | (simp;omega)) _⟩
    case rest =>
     clear Bw X9 dU X6 X7;obtain ⟨X9,dU,X7,Bw⟩:=hcut;obtain ⟨f1,hf1⟩:∃ f1,f1=(if bF a1 c1 then c1 else a1):=⟨_,rfl⟩;rw [<- hf1] at X9;have Hf:=Lib.hid hf1;clear hf1;obtain ⟨Wq,x100,x101,-,-⟩:=dU.facts;obtain ⟨sG,tN,tV,-,-⟩:=X7.facts;go_wp2_with fail;refine (HT.out d1 b1 _).mono ?_;rintro e w4 ⟨rfl,hb4⟩;replace Bw:Below w.heap.size w w4:=bT Bw hb4;replace X9:=X9.keep hb4;replace dU:=dU.keep hb4;replace X7:=X7.keep hb4;clear hb4 Wq x100 x101 sG tN tV;go_upto_if 29 with fail;go_cut [] (fun wx=>Boxed wx g9 f1/\Boxed wx g10 (if bF d1 b1 then d1 else b1)/\Below w.heap.size w wx)
     case first =>
      obtain ⟨Wq,x100,x101,x10f,as5⟩:=dU.facts;obtain ⟨sG,tN,tV,x7f,x7g⟩:=X7.facts
      cases h:bF d1 b1
      ·go_wp2_with fail;go_meet
       case rel =>
       rw [h];exact ⟨X9,dU,Bw⟩
      ·go_wp2_with fail;go_meet
       case rel =>
       rw [h];exact ⟨(X9.far (by first | omega | (simp;done) | (simp;omega)) _).far (by first | omega | (simp;done) | (simp;omega)) _,dU.fF,bS (bS Bw (by first | omega | (simp;done) | (simp;omega)) _) (by first | omega | (simp;done) | (simp;omega)) _⟩
     case rest =>
      clear Bw X9 dU X7;obtain ⟨X9,dU,Bw⟩:=hcut;obtain ⟨l1,hl1⟩:∃ l1,l1=(if bF d1 b1 then d1 else b1):=⟨_,rfl⟩;rw [<- hl1] at dU;have Hl:=Lib.hid hl1;clear hl1;have HS:lM a b c d=if f1=l1 then 1 else if bF f1 l1 then 2 else 0:=by
       rw [Hf.out,Hl.out,Ha.out,Hb.out,Hc.out,Hd.out];rfl
      replace HS:=Lib.hid HS;obtain ⟨Wq,x100,x101,-,-⟩:=dU.facts;obtain ⟨Wp,x90,x91,-,-⟩:=X9.facts;have hE:=Gj f1 l1;go_wp2_with fail
      ·go_ret;refine ⟨fA ?_,Bw⟩;rw [HS.out,if_pos (by assumption)]
      ·refine (HT.out f1 l1 _).mono ?_;rintro e w5 ⟨rfl,hb5⟩;have hfl:¬ f1=l1:=by assumption
       cases h:bF f1 l1
       ·go_wp2_with fail;go_ret;refine ⟨fA ?_,bT Bw hb5⟩;rw [HS.out,if_neg hfl,h];rfl
       ·go_wp2_with fail;go_ret;refine ⟨fA ?_,bT Bw hb5⟩;rw [HS.out,if_neg hfl,h];rfl
def ku (a b c d:Pt):Int :=
 if fH [a,b,c,d]=true then
  if a=b then (if fO c d a then 1 else 0)
  else if c=d then (if fO a b c then 1 else 0)
  else if fC a b c=0/\fC a b d=0 then lM a b c d
  else if fC a b c*fC a b d<=0/\fC c d a*fC c d b<=0 then 1 else 0
 else 0
theorem QJ (a b c:Pt):-1<=fC a b c/\fC a b c<=1:=by
 unfold fC;split
 · omega
 · split<;>omega
set_option maxRecDepth 100000 in
set_option maxHeartbeats 4000000 in
theorem ai2 (a b c d:Pt) (w:World) :
  Calls Tryz.prog 260 #[aZ a,aZ b,aZ c,aZ d] w fun e w'=>e=.returned (.int .i64 (ku a b c d))/\Below w.heap.size w w':=by
 have TS:∀ p q r:Pt,∀ W,Calls Tryz.prog 200 #[aZ p,aZ q,aZ r] W _:=fun p q r W=>abU p q r W;have TO:∀ p q r:Pt,∀ W,Calls Tryz.prog 28 #[aZ p,aZ q,aZ r] W _:=fun p q r W=>MS p q r W;have TH:∀ p q r s:Pt,∀ W,Calls Tryz.prog 286 #[aZ p,aZ q,aZ r,aZ s] W _:=fun p q r s W=>ai1 p q r s W;unfold aZ at TS TO TH ⊢;have HS:=Lib.hid TS;clear TS;have HO:=Lib.hid TO;clear TO;have HH:=Lib.hid TH;clear TH;by_cases hn:fH [a,b,c,d]=true
 case neg =>
  have hn':fH [a,b,c,d]=false:=by simpa using hn
  have hm:ku a b c d=0:=by simp [ku,hn']
  have Hm:=Lib.hid hm;clear hn hm;go_enter Tryz.func260,Tryz.ntmps260;go_wp2_with fail;refine (Jw _ [a,b,c,d] _ (gG.abw (aj.made (by simp) _ _))).mono ?_;rintro e w1 ⟨rfl,hb1⟩;go_wp2_with fail;go_ret;refine ⟨fA Hm.out.symm,?_⟩
  repeat (first | with_reducible exact bR _ | with_reducible assumption | with_reducible refine bA ?_ _ | with_reducible refine bD ?_ | with_reducible refine bN ?_ _ | ((with_reducible refine bS ?_ ?_ _);rotate_left;(simp;try omega)) | ((with_reducible refine bT ?_ ?_);rotate_left;with_reducible assumption) | with_reducible refine bT ?_ (by assumption))
 case pos =>
 have Hn:=Lib.hid hn;go_enter Tryz.func260,Tryz.ntmps260;go_wp2_with fail;refine (Jw _ [a,b,c,d] _ (gG.abw (aj.made (by simp) _ _))).mono ?_;rintro e w1 ⟨rfl,hb1⟩;have Bw:Below w.heap.size w w1:=by
  repeat (first | with_reducible exact bR _ | with_reducible assumption | with_reducible refine bA ?_ _ | with_reducible refine bD ?_ | with_reducible refine bN ?_ _ | ((with_reducible refine bS ?_ ?_ _);rotate_left;(simp;try omega)) | ((with_reducible refine bT ?_ ?_);rotate_left;with_reducible assumption) | with_reducible refine bT ?_ (by assumption))
 have X4:Boxed w1 w.heap.size a:=(((((Boxed.new _ a rfl).alloc _).alloc _).alloc _).alloc _).keep hb1;have X5:Boxed w1 (w.heap.size+1) b:=((((Boxed.new _ b (by simp)).alloc _).alloc _).alloc _).keep hb1;have X6:Boxed w1 (w.heap.size+1+1) c:=(((Boxed.new _ c (by simp)).alloc _).alloc _).keep hb1;have X7:Boxed w1 (w.heap.size+1+1+1) d:=((Boxed.new _ d (by simp)).alloc _).keep hb1;clear hb1;obtain ⟨xW,x40,x41,-,-⟩:=X4.facts;obtain ⟨xX,xY,xZ,-,-⟩:=X5.facts;obtain ⟨yU,yV,yX,-,-⟩:=X6.facts;obtain ⟨sG,tN,tV,-,-⟩:=X7.facts;have hE1:=Gj a b;have hE2:=Gj c d;have hs1:=QJ a b c;have hs2:=QJ a b d;have hs3:=QJ c d a;have hs4:=QJ c d b;by_cases hab:a=b
 ·have hm:ku a b c d=if fO c d a then 1 else 0:=by rw [ku,if_pos Hn.out,if_pos hab]
  have Hm:=Lib.hid hm;clear hm;have hab':decide (a=b)=true:=by simpa using hab
  have Hab:=Lib.hid hab;clear hab;go_wp2_with fail;refine (HO.out c d a _).mono ?_;rintro e w2 ⟨rfl,hb2⟩
  cases h:fO c d a
  ·rw [h] at Hm;go_wp2_with fail;go_ret;refine ⟨fA Hm.out.symm,?_⟩
   repeat (first | with_reducible exact bR _ | with_reducible assumption | with_reducible refine bA ?_ _ | with_reducible refine bD ?_ | with_reducible refine bN ?_ _ | ((with_reducible refine bS ?_ ?_ _);rotate_left;(simp;try omega)) | ((with_reducible refine bT ?_ ?_);rotate_left;with_reducible assumption) | with_reducible refine bT ?_ (by assumption))
  ·rw [h] at Hm;go_wp2_with fail;go_ret;refine ⟨fA Hm.out.symm,?_⟩
   repeat (first | with_reducible exact bR _ | with_reducible assumption | with_reducible refine bA ?_ _ | with_reducible refine bD ?_ | with_reducible refine bN ?_ _ | ((with_reducible refine bS ?_ ?_ _);rotate_left;(simp;try omega)) | ((with_reducible refine bT ?_ ?_);rotate_left;with_reducible assumption) | with_reducible refine bT ?_ (by assumption))
 by_cases hcd:c=d
 ·have hm:ku a b c d=if fO a b c then 1 else 0:=by rw [ku,if_pos Hn.out,if_neg hab,if_pos hcd]
  have Hm:=Lib.hid hm;clear hm;have hab':decide (a=b)=false:=by simpa using hab
  have abV:decide (c=d)=true:=by simpa using hcd
  have Hcd:=Lib.hid hcd;clear hab hcd;go_wp2_with fail;refine (HO.out a b c _).mono ?_;rintro e w2 ⟨rfl,hb2⟩
  cases h:fO a b c
  ·rw [h] at Hm;go_wp2_with fail;go_ret;refine ⟨fA Hm.out.symm,?_⟩
   repeat (first | with_reducible exact bR _ | with_reducible assumption | with_reducible refine bA ?_ _ | with_reducible refine bD ?_ | with_reducible refine bN ?_ _ | ((with_reducible refine bS ?_ ?_ _);rotate_left;(simp;try omega)) | ((with_reducible refine bT ?_ ?_);rotate_left;with_reducible assumption) | with_reducible refine bT ?_ (by assumption))
  ·rw [h] at Hm;go_wp2_with fail;go_ret;refine ⟨fA Hm.out.symm,?_⟩
   repeat (first | with_reducible exact bR _ | with_reducible assumption | with_reducible refine bA ?_ _ | with_reducible refine bD ?_ | with_reducible refine bN ?_ _ | ((with_reducible refine bS ?_ ?_ _);rotate_left;(simp;try omega)) | ((with_reducible refine bT ?_ ?_);rotate_left;with_reducible assumption) | with_reducible refine bT ?_ (by assumption))
 by_cases hl:fC a b c=0/\fC a b d=0
 ·have hm:ku a b c d=lM a b c d:=by rw [ku,if_pos Hn.out,if_neg hab,if_neg hcd,if_pos hl]
  have Hm:=Lib.hid hm;clear hm;have hab':decide (a=b)=false:=by simpa using hab
  have abV:decide (c=d)=false:=by simpa using hcd
  obtain ⟨l1,l2⟩:=hl;have L1:=Lib.hid l1;have L2:=Lib.hid l2;clear hab hcd l1 l2;go_wp2_with fail;refine (HS.out a b c _).mono ?_;rintro e w2 ⟨rfl,hb2⟩;rw [L1.out];replace Bw:Below w.heap.size w w2:=bT Bw hb2;replace X4:=X4.keep hb2;replace X5:=X5.keep hb2;replace X6:=X6.keep hb2;replace X7:=X7.keep hb2;clear hb2 xW x40 x41 xX xY xZ yU yV yX sG tN tV;obtain ⟨xW,x40,x41,-,-⟩:=X4.facts;obtain ⟨xX,xY,xZ,-,-⟩:=X5.facts;obtain ⟨sG,tN,tV,-,-⟩:=X7.facts;go_wp2_with fail;refine (HS.out a b d _).mono ?_;rintro e w3 ⟨rfl,hb3⟩;rw [L2.out];replace Bw:Below w.heap.size w w3:=bT Bw hb3;replace X4:=X4.keep hb3;replace X5:=X5.keep hb3;replace X6:=X6.keep hb3;replace X7:=X7.keep hb3;clear hb3 xW x40 x41 xX xY xZ sG tN tV;obtain ⟨xW,x40,x41,-,-⟩:=X4.facts;obtain ⟨xX,xY,xZ,-,-⟩:=X5.facts;obtain ⟨yU,yV,yX,-,-⟩:=X6.facts;obtain ⟨sG,tN,tV,-,-⟩:=X7.facts;go_wp2_with fail;refine (HH.out a b c d _).mono ?_;rintro e w4 ⟨rfl,hb4⟩;go_wp2_with fail;go_ret;refine ⟨fA Hm.out.symm,?_⟩
  repeat (first | with_reducible exact bR _ | with_reducible assumption | with_reducible refine bA ?_ _ | with_reducible refine bD ?_ | with_reducible refine bN ?_ _ | ((with_reducible refine bS ?_ ?_ _);rotate_left;(simp;try omega)) | ((with_reducible refine bT ?_ ?_);rotate_left;with_reducible assumption) | with_reducible refine bT ?_ (by assumption))
 have hm:ku a b c d=if fC a b c*fC a b d<=0/\fC c d a*fC c d b<=0 then 1 else 0:=by rw [ku,if_pos Hn.out,if_neg hab,if_neg hcd,if_neg hl]
 have Hm:=Lib.hid hm;clear hm;have hab':decide (a=b)=false:=by simpa using hab
 have abV:decide (c=d)=false:=by simpa using hcd
 have Hl:=Lib.hid hl;clear hab hcd hl;go_upto_region 9 with fail;go_cut [55] (fun s55 wx=>s55=.bool false/\Boxed wx w.heap.size a/\Boxed wx (w.heap.size+1) b/\Boxed wx (w.heap.size+1+1) c/\Boxed wx (w.heap.size+1+1+1) d/\Below w.heap.size w wx)
 case first =>
  go_wp2_with fail;refine (HS.out a b c _).mono ?_;rintro e w2 ⟨rfl,hb2⟩;replace Bw:Below w.heap.size w w2:=bT Bw hb2;replace X4:=X4.keep hb2;replace X5:=X5.keep hb2;replace X6:=X6.keep hb2;replace X7:=X7.keep hb2;clear hb2 xW x40 x41 xX xY xZ yU yV yX sG tN tV;by_cases hz:fC a b c=0
  ·have hz2:¬ fC a b d=0:=fun h=>Hl.out ⟨hz,h⟩;have hz2':(fC a b d == 0)=false:=by simpa using hz2
   have Hz2:=Lib.hid hz2;clear hz2;rw [hz];clear hz;obtain ⟨xW,x40,x41,-,-⟩:=X4.facts;obtain ⟨xX,xY,xZ,-,-⟩:=X5.facts;obtain ⟨sG,tN,tV,-,-⟩:=X7.facts;go_wp2_with fail;refine (HS.out a b d _).mono ?_;rintro e w3 ⟨rfl,hb3⟩;replace Bw:Below w.heap.size w w3:=bT Bw hb3;replace X4:=X4.keep hb3;replace X5:=X5.keep hb3;replace X6:=X6.keep hb3;replace X7:=X7.keep hb3;clear hb3 xW x40 x41 xX xY xZ sG tN tV;go_wp2_with fail;go_meet
   case rel => exact ⟨rfl,X4,X5,X6,X7,Bw⟩
  ·have hz':(fC a b c == 0)=false:=by simpa using hz
   have Hz:=Lib.hid hz;clear hz;go_wp2_with fail;go_meet
   case rel => exact ⟨rfl,X4,X5,X6,X7,Bw⟩
 case rest =>
  clear X4 X5 X6 X7 Bw xW x40 x41 xX xY xZ yU yV yX sG tN tV Hl;obtain ⟨rfl,X4,X5,X6,X7,Bw⟩:=hcut;obtain ⟨xW,x40,x41,-,-⟩:=X4.facts;obtain ⟨xX,xY,xZ,-,-⟩:=X5.facts;obtain ⟨yU,yV,yX,-,-⟩:=X6.facts;obtain ⟨sG,tN,tV,-,-⟩:=X7.facts;go_upto_region 4 with fail;obtain ⟨p1,p2⟩:=Gs (fC a b c) (fC a b d) 1 (by omega) (by omega) (by omega) (by omega);obtain ⟨p3,p4⟩:=Gs (fC c d a) (fC c d b) 1 (by omega) (by omega) (by omega) (by omega);simp only [Int.reduceMul,Int.reduceNeg] at p1 p2 p3 p4;have hw1:IntKind.i64.wrap (fC a b c*fC a b d)=fC a b c*fC a b d:=IntWalk.i64_in _ (by omega);have hw2:IntKind.i64.wrap (fC c d a*fC c d b)=fC c d a*fC c d b:=IntWalk.i64_in _ (by omega);by_cases hg:fC a b c*fC a b d<=0
  ·have hg':decide (fC a b c*fC a b d<=0)=true:=by simpa using hg
   clear hs1 hs2 hs3 hs4;go_region_held3 (fun W=>W.cell? ⟨w.heap.size,0,none⟩=some (.int .i64 a.x)/\W.cell? ⟨w.heap.size,1,none⟩=some (.int .i64 a.y)/\W.cell? ⟨w.heap.size+1,0,none⟩=some (.int .i64 b.x)/\W.cell? ⟨w.heap.size+1,1,none⟩=some (.int .i64 b.y)/\W.cell? ⟨w.heap.size+1+1,0,none⟩=some (.int .i64 c.x)/\W.cell? ⟨w.heap.size+1+1,1,none⟩=some (.int .i64 c.y)/\W.cell? ⟨w.heap.size+1+1+1,0,none⟩=some (.int .i64 d.x)/\W.cell? ⟨w.heap.size+1+1+1,1,none⟩=some (.int .i64 d.y)) ((repeat' apply And.intro)<;>(repeat (refine fG (by assumption) ?_))<;>(first | assumption | simp [*]))
     (first | (go_at_call 200;refine (HS.out _ _ _ _).mono ?_;rintro e w' ⟨rfl,hb'⟩))
   by_cases hg2:fC c d a*fC c d b<=0
   ·have hq:ku a b c d=1:=by rw [Hm.out,if_pos ⟨hg,hg2⟩]
    have Hq:=Lib.hid hq;clear hq Hm;go_wp2_with fail;go_ret;refine ⟨fA Hq.out.symm,?_⟩
    repeat (first | with_reducible exact bR _ | with_reducible assumption | with_reducible refine bA ?_ _ | with_reducible refine bD ?_ | with_reducible refine bN ?_ _ | ((with_reducible refine bS ?_ ?_ _);rotate_left;(simp;try omega)) | ((with_reducible refine bT ?_ ?_);rotate_left;with_reducible assumption) | with_reducible refine bT ?_ (by assumption))
   ·have hq:ku a b c d=0:=by rw [Hm.out,if_neg (fun h=>hg2 h.2)]
    have Hq:=Lib.hid hq;clear hq Hm;go_wp2_with fail;go_ret;refine ⟨fA Hq.out.symm,?_⟩
    repeat (first | with_reducible exact bR _ | with_reducible assumption | with_reducible refine bA ?_ _ | with_reducible refine bD ?_ | with_reducible refine bN ?_ _ | ((with_reducible refine bS ?_ ?_ _);rotate_left;(simp;try omega)) | ((with_reducible refine bT ?_ ?_);rotate_left;with_reducible assumption) | with_reducible refine bT ?_ (by assumption))
  ·have hg':decide (fC a b c*fC a b d<=0)=false:=by simpa using hg
   have hq:ku a b c d=0:=by rw [Hm.out,if_neg (fun h=>hg h.1)]
   have Hq:=Lib.hid hq;clear hq Hm;clear hs1 hs2 hs3 hs4;refine bZ (Since wc) (.run 3 0 0 (.run 3 4 7 (.call 3 127 (.call 7 255 (.run 15 8 255 (.done)))))) (by kernel_rfl) (bD (bR _)) (by kernel_rfl) (by kernel_rfl) (Nat.le_of_ble_eq_true (by kernel_rfl)) ?_;intro cO QR ak aC hS
   iterate 6
    apply bg;exact ak;exact rfl;exact hS;exact rfl
    · intro _ hqc;go_simp;try rfl
    try simp only [pu]
   refine aT (i:=3) (aG ak rfl) (fun K hK=>?_);have aA:=Lib.hid hS;clear hS;refine aO (aV rfl) ?_;go_simp;refine (HS.out a b c _).mono ?_;rintro e bH ⟨rfl,bJ⟩;have hS:Since wc bH:=bT (w:=wc) aA.out bJ;clear aA;refine hK.out _ _ hS (fun _=>?_);clear hK K
   try simp only [pu]
   refine aT (i:=7) (aG ak rfl) (fun K hK=>?_);have aA:=Lib.hid hS;clear hS;refine aO (aV rfl) ?_;go_simp;refine (HS.out a b d _).mono ?_;rintro e wr2 ⟨rfl,gZ⟩;have hS:Since wc wr2:=bT (w:=wc) aA.out gZ;clear aA;refine hK.out _ _ hS (fun _=>?_);clear hK K
   try simp only [pu]
   iterate 3
    apply bg;exact ak;exact rfl;exact hS;exact rfl
    · intro _ hqc;go_simp;try rfl
    try simp only [pu]
   iterate 10
    refine qH ak rfl hS rfl rfl rfl rfl rfl ?_
    try simp only [pu]
   iterate 2
    apply bg;exact ak;exact rfl;exact hS;exact rfl
    · intro _ hqc;go_simp;try rfl
    try simp only [pu]
   refine bM ?_;refine aC.down _ _ ?_;have hB:Below wc.heap.size wc wr2:=hS;clear hS aC ak;go_wp2_with fail;go_ret;refine ⟨fA Hq.out.symm,?_⟩
   repeat (first | with_reducible exact bR _ | with_reducible assumption | with_reducible refine bA ?_ _ | with_reducible refine bD ?_ | with_reducible refine bN ?_ _ | ((with_reducible refine bS ?_ ?_ _);rotate_left;(simp;try omega)) | ((with_reducible refine bT ?_ ?_);rotate_left;with_reducible assumption) | with_reducible refine bT ?_ (by assumption))
def aF (a b c d:Pt):Int:=(b.x-a.x)*(d.y-c.y)-(b.y-a.y)*(d.x-c.x)
def Jy (a b c d:Pt):Int:=(b.x-a.x)*(d.x-c.x)+(b.y-a.y)*(d.y-c.y)
def qX (a b p:Pt):Bool:=fH [a,b,p] && decide (aF a b a p=0) && decide (Jy a p b p<=0)
def qg (a b c d:Pt):Int :=
 if a=b/\c=d/\¬ a=c then 0
 else if aF a b c d=0 then
  if aF a b a c=0/\aF a b a d=0/\aF c d c a=0/\aF c d c b=0 then lM a b c d else 0
 else if aF a b c d<0 then
  if 0<=-aF a c c d/\-aF a c c d<=-aF a b c d/\0<=-aF a c a b/\-aF a c a b<=-aF a b c d then 1 else 0
 else if 0<=aF a c c d/\aF a c c d<=aF a b c d/\0<=aF a c a b/\aF a c a b<=aF a b c d then 1 else 0
def ig (a b c d:Pt):Int:=if fH [a,b,c,d]=true then qg a b c d else 0
end Go.Proofs.YtialfdomhoojiaaGreat
