import Derived.Test.YtialfdomhoojiaaGreatGB
import Derived.Test.YtialfdomhoojiaaGreatProg
import Derived.RegionTactic
import Derived.Deep.DeepCutAuto
import Derived.Deep.RegionHeld3
set_option linter.unusedSimpArgs false
set_option linter.unusedVariables false
namespace Go.Proofs.YtialfdomhoojiaaGreat
open Go.RowKit
def dI (p:Pt):Bool:=decide (-2097152<=p.x) && decide (p.x<=2097152) && decide (-2097152<=p.y) && decide (p.y<=2097152)
def dU (l:List Pt):Bool:=l.all dI
def tw (a b c:Pt):Int:=(b.x-a.x)*(c.y-a.y)-(b.y-a.y)*(c.x-a.x)
theorem tC (p:Pt):dI p=true↔-2097152<=p.x/\p.x<=2097152/\-2097152<=p.y/\p.y<=2097152:=by
 simp [dI,and_assoc]
theorem NG (l:List Pt) (k:Nat) (hk:k<l.length) (h:dI l[k]=false):dU l=false:=by
 unfold dU;rw [List.all_eq_false];exact ⟨l[k],List.getElem_mem hk,by simp [h]⟩
theorem NH (l:List Pt) (h:∀ j (hj:j<l.length),dI l[j]=true):dU l=true:=by
 unfold dU;rw [List.all_eq_true];intro x hx;obtain ⟨i,hi,rfl⟩:=List.mem_iff_getElem.1 hx;exact h i hi
set_option maxHeartbeats 400000 in
theorem Dq (v:Value) (l:List Pt) (w:World) (h:bU w v l) :
  Calls Tryz.prog 76 #[v] w fun e w'=>e=.returned (.bool (dU l))/\Below w.heap.size w w':=by
 obtain ⟨A,c,rfl,hn,hc,hR⟩:=h;unfold maxLen at hc;go_enter Tryz.func76,Tryz.ntmps76;go_wp2_with fail;go_loopw [7] (fun i wr=>∃ k:Nat,k<=l.length/\i=.int .i64 k/\Below w.heap.size w wr/\∀ j (hj:j<l.length),j<k->dI l[j]=true) (fun i _=>l.length-(intOf i).toNat)
 case atStart => exact ⟨0,Nat.zero_le _,rfl,Below.refl _ _,fun j _ h=>by omega⟩
 case round =>
  obtain ⟨k,hk,rfl,hb,hno⟩:=hrel;have Hb:=Lib.hid hb;have Hno:=Lib.hid hno;have hs:=hb.size;clear hb hno;by_cases hlt:k<l.length
  ·obtain ⟨b,o,rfl,hlb,c0,c1⟩:=(hR.mono Hb.out).pt hlt;have HR:=Lib.hid hR;clear hR;by_cases hnr:dI l[k]=true
   ·have Hn:=Lib.hid hnr;obtain ⟨n1,n2,n3,n4⟩:=(tC _).1 hnr;clear hnr;go_wp2;go_roundw
    case rel => exact ⟨k+1,by omega,by go_num,Hb.out.alloc hs _,all_succ (p:=fun x=>dI x=true) Hno.out hlt Hn.out⟩
    case measure => simp [intOf];omega
   ·have hn':dI l[k]=false:=by simpa using hnr
    have Hf:=Lib.hid (NG l k hlt hn');clear hn';have Fq:=Lib.hid hnr;clear hnr;go_wp2
    all_goals first
     | (go_ret;exact ⟨aT Hf.out.symm,Hb.out.alloc hs _⟩)
     | (exfalso;exact Fq.out ((tC _).2 ⟨by omega,by omega,by omega,by omega⟩))
  ·go_wp2;go_ret;exact ⟨aT (NH l fun j hj=>Hno.out j hj (by omega)).symm,Hb.out⟩
def lim (p:Pt):Prop:=-2097152<=p.x/\p.x<=2097152/\-2097152<=p.y/\p.y<=2097152
theorem qj (a b m:Int) (h1:-m<=a) (h2:a<=m) (h3:-m<=b) (h4:b<=m):-(m*m)<=a*b/\a*b<=m*m:=by
 have hm:0<=m:=by omega
 rcases Int.le_total 0 a with ha | ha<;>rcases Int.le_total 0 b with hb | hb
 · exact ⟨by have:=Int.mul_nonneg ha hb;have:=Int.mul_nonneg hm hm;omega,Int.mul_le_mul h2 h4 hb hm⟩
 ·have e:a*b=-(a * -b):=by rw [Int.mul_neg];omega
  have h:=Int.mul_le_mul h2 (show -b<=m by omega) (by omega) hm;have h':=Int.mul_nonneg ha (show 0<=-b by omega);have:=Int.mul_nonneg hm hm
  omega
 ·have e:a*b=-(-a*b):=by rw [Int.neg_mul];omega
  have h:=Int.mul_le_mul (show -a<=m by omega) h4 hb hm;have h':=Int.mul_nonneg (show 0<=-a by omega) hb;have:=Int.mul_nonneg hm hm
  omega
 ·have e:a*b=-a * -b:=by rw [Int.neg_mul_neg]
  have h:=Int.mul_le_mul (show -a<=m by omega) (show -b<=m by omega) (by omega) hm;have h':=Int.mul_nonneg (show 0<=-a by omega) (show 0<=-b by omega);have:=Int.mul_nonneg hm hm
  omega
set_option maxHeartbeats 400000 in
theorem Uw (a b c:Pt) (w:World) (ha:lim a) (hb:lim b) (hc:lim c) :
  Calls Tryz.prog 77 #[aF a,aF b,aF c] w fun e w'=>e=.returned (.int .i64 (tw a b c))/\Below w.heap.size w w':=by
 obtain ⟨a1,a2,a3,a4⟩:=ha;obtain ⟨b1,b2,b3,b4⟩:=hb;obtain ⟨c1,c2,c3,c4⟩:=hc;obtain ⟨m1,m2⟩:=qj (b.x-a.x) (c.y-a.y) 4194304 (by omega) (by omega) (by omega) (by omega);obtain ⟨m3,m4⟩:=qj (b.y-a.y) (c.x-a.x) 4194304 (by omega) (by omega) (by omega) (by omega);simp only [Int.reduceMul,Int.reduceNeg] at m1 m2 m3 m4;unfold aF;go_enter Tryz.func77,Tryz.ntmps77;go_wp2;go_ret;exact ⟨dY rfl,(((Below.refl _ _).alloc (Nat.le_refl _) _).alloc (by simp) _).alloc (by simp;omega) _⟩
theorem NI {p:Pt} (h:dI p=true):lim p:=(tC p).1 h
theorem Fv {a b c:Pt} (h:dU [a,b,c]=true):lim a/\lim b/\lim c:=by
 simp only [dU,List.all_cons,List.all_nil,Bool.and_true,Bool.and_eq_true] at h;exact ⟨NI h.1,NI h.2.1,NI h.2.2⟩
def jF (a b c:Pt):Int:=if dU [a,b,c]=true then tw a b c else 0
set_option maxHeartbeats 400000 in
theorem Ux (a b c:Pt) (w:World) :
  Calls Tryz.prog 102 #[aF a,aF b,aF c] w fun e w'=>e=.returned (.int .i64 (jF a b c))/\Below w.heap.size w w':=by
 unfold aF;by_cases hn:dU [a,b,c]=true
 ·obtain ⟨ha,hb,hc⟩:=Fv hn;have Ha:=Lib.hid ha;have Hb:=Lib.hid hb;have Hc:=Lib.hid hc;clear ha hb hc;go_enter Tryz.func102,Tryz.ntmps102;go_wp2_with fail;refine (Dq _ [a,b,c] _ (bU.vX (ah.made (by simp) _ _))).mono ?_;rintro e w1 ⟨rfl,hb1⟩;obtain ⟨NJ,NK⟩:=xX hb1;have zX:=hb1.size
  try simp only [World.size_alloc,World.size_setCell,World.size_drew] at zX
  have NM:w.heap.size<w1.heap.size:=by omega
  have NP:w.heap.size+1<w1.heap.size:=by omega
  have NQ:w.heap.size+1+1<w1.heap.size:=by omega
  go_wp2_with fail;refine (Uw a b c _ Ha.out Hb.out Hc.out).mono ?_;rintro e w2 ⟨rfl,hb2⟩;go_wp2_with fail;go_ret;refine ⟨dY (by simp [jF,hn]),?_⟩
  repeat (first | with_reducible exact bR _ | with_reducible assumption | with_reducible refine bA ?_ _ | with_reducible refine bD ?_ | with_reducible refine bN ?_ _ | ((with_reducible refine bS ?_ ?_ _);rotate_left;(simp;try omega)) | ((with_reducible refine bT ?_ ?_);rotate_left;with_reducible assumption) | with_reducible refine bT ?_ (by assumption))
 ·have hn':dU [a,b,c]=false:=by simpa using hn
  clear hn;go_enter Tryz.func102,Tryz.ntmps102;go_wp2_with fail;refine (Dq _ [a,b,c] _ (bU.vX (ah.made (by simp) _ _))).mono ?_;rintro e w1 ⟨rfl,hb1⟩;obtain ⟨NJ,NK⟩:=xX hb1;have zX:=hb1.size
  try simp only [World.size_alloc,World.size_setCell,World.size_drew] at zX
  have NM:w.heap.size<w1.heap.size:=by omega
  have NP:w.heap.size+1<w1.heap.size:=by omega
  have NQ:w.heap.size+1+1<w1.heap.size:=by omega
  go_wp2_with fail;go_ret;refine ⟨dY (by simp [jF,hn']),?_⟩
  repeat (first | with_reducible exact bR _ | with_reducible assumption | with_reducible refine bA ?_ _ | with_reducible refine bD ?_ | with_reducible refine bN ?_ _ | ((with_reducible refine bS ?_ ?_ _);rotate_left;(simp;try omega)) | ((with_reducible refine bT ?_ ?_);rotate_left;with_reducible assumption) | with_reducible refine bT ?_ (by assumption))
def bC (a b c:Pt):Int:=if 0<jF a b c then 1 else if jF a b c<0 then -1 else 0
set_option maxHeartbeats 400000 in
theorem Dt (a b c:Pt) (w:World) :
  Calls Tryz.prog 200 #[aF a,aF b,aF c] w fun e w'=>e=.returned (.int .i64 (bC a b c))/\Below w.heap.size w w':=by
 have T:∀ W,Calls Tryz.prog 102 #[aF a,aF b,aF c] W _:=fun W=>Ux a b c W;unfold aF at T ⊢;unfold bC;generalize jF a b c=t at *;have HT:=Lib.hid T;clear T;go_enter Tryz.func200,Tryz.ntmps200;go_wp2_with fail;refine (HT.out _).mono ?_;rintro e w1 ⟨rfl,hb1⟩;go_wp2_with fail
 all_goals
  go_ret;refine ⟨dY rfl,?_⟩
  repeat (first | with_reducible exact bR _ | with_reducible assumption | with_reducible refine bA ?_ _ | with_reducible refine bD ?_ | with_reducible refine bN ?_ _ | ((with_reducible refine bS ?_ ?_ _);rotate_left;(simp;try omega)) | ((with_reducible refine bT ?_ ?_);rotate_left;with_reducible assumption) | with_reducible refine bT ?_ (by assumption))
def dV (a b p:Pt):Bool:=dU [a,b,p] && decide (tw a b p=0) && decide (min a.x b.x<=p.x) && decide (p.x<=max a.x b.x) && decide (min a.y b.y<=p.y) && decide (p.y<=max a.y b.y)
set_option maxHeartbeats 1000000 in
theorem zY (a b p:Pt) (w:World) :
  Calls Tryz.prog 28 #[aF a,aF b,aF p] w fun e w'=>e=.returned (.bool (dV a b p))/\Below w.heap.size w w':=by
 unfold aF;by_cases hn:dU [a,b,p]=true
 ·obtain ⟨ha,hb,hc⟩:=Fv hn;have T:∀ W,Calls Tryz.prog 77 #[aF a,aF b,aF p] W _:=fun W=>Uw a b p W ha hb hc;unfold aF at T;have hS:dV a b p=(decide (tw a b p=0) && decide (min a.x b.x<=p.x) && decide (p.x<=max a.x b.x) && decide (min a.y b.y<=p.y) && decide (p.y<=max a.y b.y)):=by simp [dV,hn]
  rw [hS];generalize tw a b p=t at *;have HT:=Lib.hid T;clear T ha hb hc hS;go_enter Tryz.func28,Tryz.ntmps28;go_wp2_with fail;refine (Dq _ [a,b,p] _ (bU.vX (ah.made (by simp) _ _))).mono ?_;rintro e w1 ⟨rfl,hb1⟩;obtain ⟨NJ,NK⟩:=xX hb1;have zX:=hb1.size
  try simp only [World.size_alloc,World.size_setCell,World.size_drew] at zX
  have NM:w.heap.size<w1.heap.size:=by omega
  have NP:w.heap.size+1<w1.heap.size:=by omega
  have NQ:w.heap.size+1+1<w1.heap.size:=by omega
  go_wp2_with fail;refine (HT.out _).mono ?_;rintro e w2 ⟨rfl,hb2⟩;obtain ⟨ajl,ajm⟩:=xX hb2;have abA:=hb2.size
  try simp only [World.size_alloc,World.size_setCell,World.size_drew] at abA
  have ajn:w.heap.size<w2.heap.size:=by omega
  have ajo:w.heap.size+1<w2.heap.size:=by omega
  have ajp:w.heap.size+1+1<w2.heap.size:=by omega
  by_cases ht:t=0
  ·subst ht;go_wp2_with fail
   all_goals
    go_ret;refine ⟨aT (by rw [Bool.eq_iff_iff];simp only [Bool.and_eq_true,decide_eq_true_eq,Bool.false_eq_true,false_iff,true_iff];omega),?_⟩
    repeat (first | with_reducible exact bR _ | with_reducible assumption | with_reducible refine bA ?_ _ | with_reducible refine bD ?_ | with_reducible refine bN ?_ _ | ((with_reducible refine bS ?_ ?_ _);rotate_left;(simp;try omega)) | ((with_reducible refine bT ?_ ?_);rotate_left;with_reducible assumption) | with_reducible refine bT ?_ (by assumption))
  ·have ht':(t == 0)=false:=by simpa using ht
   go_wp2_with fail;go_ret;refine ⟨aT (by simp [ht]),?_⟩
   repeat (first | with_reducible exact bR _ | with_reducible assumption | with_reducible refine bA ?_ _ | with_reducible refine bD ?_ | with_reducible refine bN ?_ _ | ((with_reducible refine bS ?_ ?_ _);rotate_left;(simp;try omega)) | ((with_reducible refine bT ?_ ?_);rotate_left;with_reducible assumption) | with_reducible refine bT ?_ (by assumption))
 ·have hn':dU [a,b,p]=false:=by simpa using hn
  clear hn;go_enter Tryz.func28,Tryz.ntmps28;go_wp2_with fail;refine (Dq _ [a,b,p] _ (bU.vX (ah.made (by simp) _ _))).mono ?_;rintro e w1 ⟨rfl,hb1⟩;obtain ⟨NJ,NK⟩:=xX hb1;have zX:=hb1.size
  try simp only [World.size_alloc,World.size_setCell,World.size_drew] at zX
  have NM:w.heap.size<w1.heap.size:=by omega
  have NP:w.heap.size+1<w1.heap.size:=by omega
  have NQ:w.heap.size+1+1<w1.heap.size:=by omega
  go_wp2_with fail;go_ret;refine ⟨aT (by simp [dV,hn']),?_⟩
  repeat (first | with_reducible exact bR _ | with_reducible assumption | with_reducible refine bA ?_ _ | with_reducible refine bD ?_ | with_reducible refine bN ?_ _ | ((with_reducible refine bS ?_ ?_ _);rotate_left;(simp;try omega)) | ((with_reducible refine bT ?_ ?_);rotate_left;with_reducible assumption) | with_reducible refine bT ?_ (by assumption))
set_option maxHeartbeats 400000 in
theorem abB (a b:Pt) (w:World) :
  Calls Tryz.prog 297 #[aF a,aF b] w fun e w'=>e=.returned (.bool (bn a b))/\Below w.heap.size w w':=by
 unfold aF;by_cases h1:a.x<b.x
 ·go_enter Tryz.func297,Tryz.ntmps297;go_wp2;go_ret;refine ⟨aT (by simp [bn,h1]),?_⟩
  repeat (first | with_reducible exact bR _ | with_reducible assumption | with_reducible refine bA ?_ _ | with_reducible refine bD ?_ | with_reducible refine bN ?_ _ | ((with_reducible refine bS ?_ ?_ _);rotate_left;(simp;try omega)) | ((with_reducible refine bT ?_ ?_);rotate_left;with_reducible assumption) | with_reducible refine bT ?_ (by assumption))
 ·by_cases h2:(a.x == b.x)=true
  ·go_enter Tryz.func297,Tryz.ntmps297;go_wp2;go_ret;refine ⟨aT (by simp only [bn];simp_all),?_⟩
   repeat (first | with_reducible exact bR _ | with_reducible assumption | with_reducible refine bA ?_ _ | with_reducible refine bD ?_ | with_reducible refine bN ?_ _ | ((with_reducible refine bS ?_ ?_ _);rotate_left;(simp;try omega)) | ((with_reducible refine bT ?_ ?_);rotate_left;with_reducible assumption) | with_reducible refine bT ?_ (by assumption))
  ·have h2':(a.x == b.x)=false:=by simpa using h2
   clear h2;go_enter Tryz.func297,Tryz.ntmps297;go_wp2;go_ret;refine ⟨aT (by simp only [bn];simp_all),?_⟩
   repeat (first | with_reducible exact bR _ | with_reducible assumption | with_reducible refine bA ?_ _ | with_reducible refine bD ?_ | with_reducible refine bN ?_ _ | ((with_reducible refine bS ?_ ?_ _);rotate_left;(simp;try omega)) | ((with_reducible refine bT ?_ ?_);rotate_left;with_reducible assumption) | with_reducible refine bT ?_ (by assumption))
def kR (a b c d:Pt):Int :=
 let a':=if bn b a then b else a
 let b':=if bn b a then a else b
 let c':=if bn d c then d else c
 let d':=if bn d c then c else d
 let f:=if bn a' c' then c' else a'
 let l:=if bn d' b' then d' else b'
 if f=l then 1 else if bn f l then 2 else 0
set_option maxHeartbeats 1000000 in
theorem abC (a b c d:Pt) (w:World) :
  Calls Tryz.prog 286 #[aF a,aF b,aF c,aF d] w fun e w'=>e=.returned (.int .i64 (kR a b c d))/\Below w.heap.size w w':=by
 have T:∀ p q:Pt,∀ W,Calls Tryz.prog 297 #[aF p,aF q] W _:=fun p q W=>abB p q W;unfold aF at T ⊢;have HT:=Lib.hid T;clear T;go_enter Tryz.func286,Tryz.ntmps286;go_wp2_with fail;refine (HT.out b a _).mono ?_;rintro e w1 ⟨rfl,hb1⟩;have nS:Below w.heap.size w w1:=by
  repeat (first | with_reducible exact bR _ | with_reducible assumption | with_reducible refine bA ?_ _ | with_reducible refine bD ?_ | with_reducible refine bN ?_ _ | ((with_reducible refine bS ?_ ?_ _);rotate_left;(simp;try omega)) | ((with_reducible refine bT ?_ ?_);rotate_left;with_reducible assumption) | with_reducible refine bT ?_ (by assumption))
 have X4:Boxed w1 w.heap.size a:=((((Boxed.new _ a rfl).alloc _).alloc _).alloc _).keep hb1;have X5:Boxed w1 (w.heap.size+1) b:=(((Boxed.new _ b (by simp)).alloc _).alloc _).keep hb1;have X6:Boxed w1 (w.heap.size+1+1) c:=((Boxed.new _ c (by simp)).alloc _).keep hb1;have X7:Boxed w1 (w.heap.size+1+1+1) d:=(Boxed.new _ d (by simp)).keep hb1;clear hb1;go_upto_if 13 with fail;go_cut [] (fun wx=>Boxed wx w.heap.size (if bn b a then b else a)/\Boxed wx (w.heap.size+1) (if bn b a then a else b)/\Boxed wx (w.heap.size+1+1) c/\Boxed wx (w.heap.size+1+1+1) d/\Below w.heap.size w wx)
 case first =>
  obtain ⟨rM,x40,x41,Uy,Uz⟩:=X4.facts;obtain ⟨rO,rP,rQ,UA,UC⟩:=X5.facts
  cases h:bn b a
  ·go_wp2_with fail;go_meet
   case rel =>
   rw [h];exact ⟨X4,X5,X6,X7,nS⟩
  ·go_wp2_with fail;go_meet
   case rel =>
   rw [h];exact ⟨(X4.fB.far (by first | omega | (simp;done) | (simp;omega)) _).far (by first | omega | (simp;done) | (simp;omega)) _,(X5.far (by first | omega | (simp;done) | (simp;omega)) _ |>.far (by first | omega | (simp;done) | (simp;omega)) _).fB,(((X6.far (by first | omega | (simp;done) | (simp;omega)) _).far (by first | omega | (simp;done) | (simp;omega)) _).far (by first | omega | (simp;done) | (simp;omega)) _).far (by first | omega | (simp;done) | (simp;omega)) _,(((X7.far (by first | omega | (simp;done) | (simp;omega)) _).far (by first | omega | (simp;done) | (simp;omega)) _).far (by first | omega | (simp;done) | (simp;omega)) _).far (by first | omega | (simp;done) | (simp;omega)) _,bS (bS (bS (bS nS (by first | omega | (simp;done) | (simp;omega)) _) (by first | omega | (simp;done) | (simp;omega)) _) (by first | omega | (simp;done) | (simp;omega)) _) (by first | omega | (simp;done) | (simp;omega)) _⟩
 case rest =>
  clear nS X4 X5 X6 X7;obtain ⟨X4,X5,X6,X7,Bw⟩:=hcut;obtain ⟨a1,ha1⟩:∃ a1,a1=(if bn b a then b else a):=⟨_,rfl⟩;obtain ⟨b1,hb1⟩:∃ b1,b1=(if bn b a then a else b):=⟨_,rfl⟩;rw [<- ha1] at X4;rw [<- hb1] at X5;have Ha:=Lib.hid ha1;clear ha1;have Hb:=Lib.hid hb1;clear hb1;obtain ⟨tH,tJ,tK,-,-⟩:=X6.facts;obtain ⟨ny,nT,nU,-,-⟩:=X7.facts;go_wp2_with fail;refine (HT.out d c _).mono ?_;rintro e w2 ⟨rfl,hb2⟩;clear tH tJ tK ny nT nU;replace Bw:Below w.heap.size w w2:=bT Bw hb2;replace X4:=X4.keep hb2;replace X5:=X5.keep hb2;replace X6:=X6.keep hb2;replace X7:=X7.keep hb2;clear hb2;go_upto_if 18 with fail;go_cut [] (fun wx=>Boxed wx w.heap.size a1/\Boxed wx (w.heap.size+1) b1/\Boxed wx (w.heap.size+1+1) (if bn d c then d else c)/\Boxed wx (w.heap.size+1+1+1) (if bn d c then c else d)/\Below w.heap.size w wx)
  case first =>
   obtain ⟨tH,tJ,tK,x6f,x6g⟩:=X6.facts;obtain ⟨ny,nT,nU,x7f,x7g⟩:=X7.facts
   cases h:bn d c
   ·go_wp2_with fail;go_meet
    case rel =>
    rw [h];exact ⟨X4,X5,X6,X7,Bw⟩
   ·go_wp2_with fail;go_meet
    case rel =>
    rw [h];exact ⟨(((X4.far (by first | omega | (simp;done) | (simp;omega)) _).far (by first | omega | (simp;done) | (simp;omega)) _).far (by first | omega | (simp;done) | (simp;omega)) _).far (by first | omega | (simp;done) | (simp;omega)) _,(((X5.far (by first | omega | (simp;done) | (simp;omega)) _).far (by first | omega | (simp;done) | (simp;omega)) _).far (by first | omega | (simp;done) | (simp;omega)) _).far (by first | omega | (simp;done) | (simp;omega)) _,(X6.fB.far (by first | omega | (simp;done) | (simp;omega)) _).far (by first | omega | (simp;done) | (simp;omega)) _,(X7.far (by first | omega | (simp;done) | (simp;omega)) _ |>.far (by first | omega | (simp;done) | (simp;omega)) _).fB,bS (bS (bS (bS Bw (by first | omega | (simp;done) | (simp;omega)) _) (by first | omega | (simp;done) | (simp;omega)) _) (by first | omega | (simp;done) | (simp;omega)) _) (by first | omega | (simp;done) | (simp;omega)) _⟩
  case rest =>
   clear Bw X4 X5 X6 X7;obtain ⟨X4,X5,X6,X7,Bw⟩:=hcut;obtain ⟨c1,hc1⟩:∃ c1,c1=(if bn d c then d else c):=⟨_,rfl⟩;obtain ⟨d1,hd1⟩:∃ d1,d1=(if bn d c then c else d):=⟨_,rfl⟩;rw [<- hc1] at X6;rw [<- hd1] at X7;have Hc:=Lib.hid hc1;clear hc1;have Hd:=Lib.hid hd1;clear hd1;obtain ⟨rM,x40,x41,Uy,Uz⟩:=X4.facts;obtain ⟨rO,rP,rQ,UA,UC⟩:=X5.facts;go_upto_region 5 with fail;go_cut [9,10] (fun s9 s10 wx=>∃ g9 g10:Nat,s9=.pointer (some ⟨g9,0,none⟩)/\s10=.pointer (some ⟨g10,0,none⟩)/\Boxed wx g9 a1/\Boxed wx g10 b1/\g9≠g10/\w.heap.size+1+1+1<g9/\w.heap.size+1+1+1<g10/\Boxed wx (w.heap.size+1+1) c1/\Boxed wx (w.heap.size+1+1+1) d1/\Below w.heap.size w wx)
   case first =>
    have ny:=X7.lt;go_region
    ·go_wp2_with fail;go_meet
     case rel => exact ⟨_,_,rfl,rfl,((Boxed.new _ a1 rfl).alloc _).drew,(Boxed.new _ b1 (by simp)).drew,(by first | omega | (simp;done) | (simp;omega)),(by first | omega | (simp;done) | (simp;omega)),(by first | omega | (simp;done) | (simp;omega)),((X6.alloc _).alloc _).drew,((X7.alloc _).alloc _).drew,bD (bA (bA Bw _) _)⟩
    ·go_wp2_with fail;go_meet
     case rel => exact ⟨_,_,rfl,rfl,(Boxed.new _ a1 (by simp)).drew,((Boxed.new _ b1 rfl).alloc _).drew,(by first | omega | (simp;done) | (simp;omega)),(by first | omega | (simp;done) | (simp;omega)),(by first | omega | (simp;done) | (simp;omega)),((X6.alloc _).alloc _).drew,((X7.alloc _).alloc _).drew,bD (bA (bA Bw _) _)⟩
   case rest =>
    clear Bw X4 X5 X6 X7 rM x40 x41 Uy Uz rO rP rQ UA UC;obtain ⟨g9,g10,rfl,rfl,X9,dZ,hne,lG,ajq,X6,X7,Bw⟩:=hcut;obtain ⟨yc,x90,x91,-,-⟩:=X9.facts;obtain ⟨tH,tJ,tK,-,-⟩:=X6.facts;go_wp2_with fail;refine (HT.out a1 c1 _).mono ?_;rintro e w3 ⟨rfl,hb3⟩;replace Bw:Below w.heap.size w w3:=bT Bw hb3;replace X9:=X9.keep hb3;replace dZ:=dZ.keep hb3;replace X6:=X6.keep hb3;replace X7:=X7.keep hb3;clear hb3 yc x90 x91 tH tJ tK;go_upto_if 25 with fail;go_cut [] (fun wx=>Boxed wx g9 (if bn a1 c1 then c1 else a1)/\Boxed wx g10 b1/\Boxed wx (w.heap.size+1+1+1) d1/\Below w.heap.size w wx)
    case first =>
     obtain ⟨yc,x90,x91,x9f,x9g⟩:=X9.facts;obtain ⟨tH,tJ,tK,x6f,x6g⟩:=X6.facts
     cases h:bn a1 c1
     ·go_wp2_with fail;go_meet
      case rel =>
      rw [h];exact ⟨X9,dZ,X7,Bw⟩
     ·go_wp2_with fail;go_meet
      case rel =>
      rw [h];exact ⟨X9.fB,(dZ.far (by first | omega | (simp;done) | (simp;omega)) _).far (by first | omega | (simp;done) | (simp;omega)) _,(X7.far (by first | omega | (simp;done) | (simp;omega)) _).far (by first | omega | (simp;done) | (simp;omega)) _,bS (bS Bw (by first | omega | (simp;done) | (simp;omega)) _) (by first | omega | (simp;done) | (simp;omega)) _⟩
    case rest =>
     clear Bw X9 dZ X6 X7;obtain ⟨X9,dZ,X7,Bw⟩:=hcut;obtain ⟨f1,hf1⟩:∃ f1,f1=(if bn a1 c1 then c1 else a1):=⟨_,rfl⟩;rw [<- hf1] at X9;have Hf:=Lib.hid hf1;clear hf1;obtain ⟨tN,x100,x101,-,-⟩:=dZ.facts;obtain ⟨ny,nT,nU,-,-⟩:=X7.facts;go_wp2_with fail;refine (HT.out d1 b1 _).mono ?_;rintro e w4 ⟨rfl,hb4⟩;replace Bw:Below w.heap.size w w4:=bT Bw hb4;replace X9:=X9.keep hb4;replace dZ:=dZ.keep hb4;replace X7:=X7.keep hb4;clear hb4 tN x100 x101 ny nT nU;go_upto_if 29 with fail;go_cut [] (fun wx=>Boxed wx g9 f1/\Boxed wx g10 (if bn d1 b1 then d1 else b1)/\Below w.heap.size w wx)
     case first =>
      obtain ⟨tN,x100,x101,x10f,ajr⟩:=dZ.facts;obtain ⟨ny,nT,nU,x7f,x7g⟩:=X7.facts
      cases h:bn d1 b1
      ·go_wp2_with fail;go_meet
       case rel =>
       rw [h];exact ⟨X9,dZ,Bw⟩
      ·go_wp2_with fail;go_meet
       case rel =>
       rw [h];exact ⟨(X9.far (by first | omega | (simp;done) | (simp;omega)) _).far (by first | omega | (simp;done) | (simp;omega)) _,dZ.fB,bS (bS Bw (by first | omega | (simp;done) | (simp;omega)) _) (by first | omega | (simp;done) | (simp;omega)) _⟩
     case rest =>
      clear Bw X9 dZ X7;obtain ⟨X9,dZ,Bw⟩:=hcut;obtain ⟨l1,hl1⟩:∃ l1,l1=(if bn d1 b1 then d1 else b1):=⟨_,rfl⟩;rw [<- hl1] at dZ;have Hl:=Lib.hid hl1;clear hl1;have HS:kR a b c d=if f1=l1 then 1 else if bn f1 l1 then 2 else 0:=by
       rw [Hf.out,Hl.out,Ha.out,Hb.out,Hc.out,Hd.out];rfl
      replace HS:=Lib.hid HS;obtain ⟨tN,x100,x101,-,-⟩:=dZ.facts;obtain ⟨yc,x90,x91,-,-⟩:=X9.facts;have hE:=zV f1 l1;go_wp2_with fail
      ·go_ret;refine ⟨dY ?_,Bw⟩;rw [HS.out,if_pos (by assumption)]
      ·refine (HT.out f1 l1 _).mono ?_;rintro e w5 ⟨rfl,hb5⟩;have hfl:¬ f1=l1:=by assumption
       cases h:bn f1 l1
       ·go_wp2_with fail;go_ret;refine ⟨dY ?_,bT Bw hb5⟩;rw [HS.out,if_neg hfl,h];rfl
       ·go_wp2_with fail;go_ret;refine ⟨dY ?_,bT Bw hb5⟩;rw [HS.out,if_neg hfl,h];rfl
def iK (a b c d:Pt):Int :=
 if dU [a,b,c,d]=true then
  if a=b then (if dV c d a then 1 else 0)
  else if c=d then (if dV a b c then 1 else 0)
  else if bC a b c=0/\bC a b d=0 then kR a b c d
  else if bC a b c*bC a b d<=0/\bC c d a*bC c d b<=0 then 1 else 0
 else 0
theorem yg (a b c:Pt):-1<=bC a b c/\bC a b c<=1:=by
 unfold bC;split
 · omega
 · split<;>omega
set_option maxRecDepth 100000 in
set_option maxHeartbeats 4000000 in
theorem abD (a b c d:Pt) (w:World) :
  Calls Tryz.prog 260 #[aF a,aF b,aF c,aF d] w fun e w'=>e=.returned (.int .i64 (iK a b c d))/\Below w.heap.size w w':=by
 have TS:∀ p q r:Pt,∀ W,Calls Tryz.prog 200 #[aF p,aF q,aF r] W _:=fun p q r W=>Dt p q r W;have TO:∀ p q r:Pt,∀ W,Calls Tryz.prog 28 #[aF p,aF q,aF r] W _:=fun p q r W=>zY p q r W;have TH:∀ p q r s:Pt,∀ W,Calls Tryz.prog 286 #[aF p,aF q,aF r,aF s] W _:=fun p q r s W=>abC p q r s W;unfold aF at TS TO TH ⊢;have HS:=Lib.hid TS;clear TS;have HO:=Lib.hid TO;clear TO;have HH:=Lib.hid TH;clear TH;by_cases hn:dU [a,b,c,d]=true
 case neg =>
  have hn':dU [a,b,c,d]=false:=by simpa using hn
  have hm:iK a b c d=0:=by simp [iK,hn']
  have Hm:=Lib.hid hm;clear hn hm;go_enter Tryz.func260,Tryz.ntmps260;go_wp2_with fail;refine (Dq _ [a,b,c,d] _ (bU.Ud (ah.made (by simp) _ _))).mono ?_;rintro e w1 ⟨rfl,hb1⟩;go_wp2_with fail;go_ret;refine ⟨dY Hm.out.symm,?_⟩
  repeat (first | with_reducible exact bR _ | with_reducible assumption | with_reducible refine bA ?_ _ | with_reducible refine bD ?_ | with_reducible refine bN ?_ _ | ((with_reducible refine bS ?_ ?_ _);rotate_left;(simp;try omega)) | ((with_reducible refine bT ?_ ?_);rotate_left;with_reducible assumption) | with_reducible refine bT ?_ (by assumption))
 case pos =>
 have Hn:=Lib.hid hn;go_enter Tryz.func260,Tryz.ntmps260;go_wp2_with fail;refine (Dq _ [a,b,c,d] _ (bU.Ud (ah.made (by simp) _ _))).mono ?_;rintro e w1 ⟨rfl,hb1⟩;have Bw:Below w.heap.size w w1:=by
  repeat (first | with_reducible exact bR _ | with_reducible assumption | with_reducible refine bA ?_ _ | with_reducible refine bD ?_ | with_reducible refine bN ?_ _ | ((with_reducible refine bS ?_ ?_ _);rotate_left;(simp;try omega)) | ((with_reducible refine bT ?_ ?_);rotate_left;with_reducible assumption) | with_reducible refine bT ?_ (by assumption))
 have X4:Boxed w1 w.heap.size a:=(((((Boxed.new _ a rfl).alloc _).alloc _).alloc _).alloc _).keep hb1;have X5:Boxed w1 (w.heap.size+1) b:=((((Boxed.new _ b (by simp)).alloc _).alloc _).alloc _).keep hb1;have X6:Boxed w1 (w.heap.size+1+1) c:=(((Boxed.new _ c (by simp)).alloc _).alloc _).keep hb1;have X7:Boxed w1 (w.heap.size+1+1+1) d:=((Boxed.new _ d (by simp)).alloc _).keep hb1;clear hb1;obtain ⟨rM,x40,x41,-,-⟩:=X4.facts;obtain ⟨rO,rP,rQ,-,-⟩:=X5.facts;obtain ⟨tH,tJ,tK,-,-⟩:=X6.facts;obtain ⟨ny,nT,nU,-,-⟩:=X7.facts;have hE1:=zV a b;have hE2:=zV c d;have hs1:=yg a b c;have hs2:=yg a b d;have hs3:=yg c d a;have hs4:=yg c d b;by_cases hab:a=b
 ·have hm:iK a b c d=if dV c d a then 1 else 0:=by rw [iK,if_pos Hn.out,if_pos hab]
  have Hm:=Lib.hid hm;clear hm;have hab':decide (a=b)=true:=by simpa using hab
  have Hab:=Lib.hid hab;clear hab;go_wp2_with fail;refine (HO.out c d a _).mono ?_;rintro e w2 ⟨rfl,hb2⟩
  cases h:dV c d a
  ·rw [h] at Hm;go_wp2_with fail;go_ret;refine ⟨dY Hm.out.symm,?_⟩
   repeat (first | with_reducible exact bR _ | with_reducible assumption | with_reducible refine bA ?_ _ | with_reducible refine bD ?_ | with_reducible refine bN ?_ _ | ((with_reducible refine bS ?_ ?_ _);rotate_left;(simp;try omega)) | ((with_reducible refine bT ?_ ?_);rotate_left;with_reducible assumption) | with_reducible refine bT ?_ (by assumption))
  ·rw [h] at Hm;go_wp2_with fail;go_ret;refine ⟨dY Hm.out.symm,?_⟩
   repeat (first | with_reducible exact bR _ | with_reducible assumption | with_reducible refine bA ?_ _ | with_reducible refine bD ?_ | with_reducible refine bN ?_ _ | ((with_reducible refine bS ?_ ?_ _);rotate_left;(simp;try omega)) | ((with_reducible refine bT ?_ ?_);rotate_left;with_reducible assumption) | with_reducible refine bT ?_ (by assumption))
 by_cases hcd:c=d
 ·have hm:iK a b c d=if dV a b c then 1 else 0:=by rw [iK,if_pos Hn.out,if_neg hab,if_pos hcd]
  have Hm:=Lib.hid hm;clear hm;have hab':decide (a=b)=false:=by simpa using hab
  have UD:decide (c=d)=true:=by simpa using hcd
  have Hcd:=Lib.hid hcd;clear hab hcd;go_wp2_with fail;refine (HO.out a b c _).mono ?_;rintro e w2 ⟨rfl,hb2⟩
  cases h:dV a b c
  ·rw [h] at Hm;go_wp2_with fail;go_ret;refine ⟨dY Hm.out.symm,?_⟩
   repeat (first | with_reducible exact bR _ | with_reducible assumption | with_reducible refine bA ?_ _ | with_reducible refine bD ?_ | with_reducible refine bN ?_ _ | ((with_reducible refine bS ?_ ?_ _);rotate_left;(simp;try omega)) | ((with_reducible refine bT ?_ ?_);rotate_left;with_reducible assumption) | with_reducible refine bT ?_ (by assumption))
  ·rw [h] at Hm;go_wp2_with fail;go_ret;refine ⟨dY Hm.out.symm,?_⟩
   repeat (first | with_reducible exact bR _ | with_reducible assumption | with_reducible refine bA ?_ _ | with_reducible refine bD ?_ | with_reducible refine bN ?_ _ | ((with_reducible refine bS ?_ ?_ _);rotate_left;(simp;try omega)) | ((with_reducible refine bT ?_ ?_);rotate_left;with_reducible assumption) | with_reducible refine bT ?_ (by assumption))
 by_cases hl:bC a b c=0/\bC a b d=0
 ·have hm:iK a b c d=kR a b c d:=by rw [iK,if_pos Hn.out,if_neg hab,if_neg hcd,if_pos hl]
  have Hm:=Lib.hid hm;clear hm;have hab':decide (a=b)=false:=by simpa using hab
  have UD:decide (c=d)=false:=by simpa using hcd
  obtain ⟨l1,l2⟩:=hl;have L1:=Lib.hid l1;have L2:=Lib.hid l2;clear hab hcd l1 l2;go_wp2_with fail;refine (HS.out a b c _).mono ?_;rintro e w2 ⟨rfl,hb2⟩;rw [L1.out];replace Bw:Below w.heap.size w w2:=bT Bw hb2;replace X4:=X4.keep hb2;replace X5:=X5.keep hb2;replace X6:=X6.keep hb2;replace X7:=X7.keep hb2;clear hb2 rM x40 x41 rO rP rQ tH tJ tK ny nT nU;obtain ⟨rM,x40,x41,-,-⟩:=X4.facts;obtain ⟨rO,rP,rQ,-,-⟩:=X5.facts;obtain ⟨ny,nT,nU,-,-⟩:=X7.facts;go_wp2_with fail;refine (HS.out a b d _).mono ?_;rintro e w3 ⟨rfl,hb3⟩;rw [L2.out];replace Bw:Below w.heap.size w w3:=bT Bw hb3;replace X4:=X4.keep hb3;replace X5:=X5.keep hb3;replace X6:=X6.keep hb3;replace X7:=X7.keep hb3;clear hb3 rM x40 x41 rO rP rQ ny nT nU;obtain ⟨rM,x40,x41,-,-⟩:=X4.facts;obtain ⟨rO,rP,rQ,-,-⟩:=X5.facts;obtain ⟨tH,tJ,tK,-,-⟩:=X6.facts;obtain ⟨ny,nT,nU,-,-⟩:=X7.facts;go_wp2_with fail;refine (HH.out a b c d _).mono ?_;rintro e w4 ⟨rfl,hb4⟩;go_wp2_with fail;go_ret;refine ⟨dY Hm.out.symm,?_⟩
  repeat (first | with_reducible exact bR _ | with_reducible assumption | with_reducible refine bA ?_ _ | with_reducible refine bD ?_ | with_reducible refine bN ?_ _ | ((with_reducible refine bS ?_ ?_ _);rotate_left;(simp;try omega)) | ((with_reducible refine bT ?_ ?_);rotate_left;with_reducible assumption) | with_reducible refine bT ?_ (by assumption))
 have hm:iK a b c d=if bC a b c*bC a b d<=0/\bC c d a*bC c d b<=0 then 1 else 0:=by rw [iK,if_pos Hn.out,if_neg hab,if_neg hcd,if_neg hl]
 have Hm:=Lib.hid hm;clear hm;have hab':decide (a=b)=false:=by simpa using hab
 have UD:decide (c=d)=false:=by simpa using hcd
 have Hl:=Lib.hid hl;clear hab hcd hl;go_upto_region 9 with fail;go_cut [55] (fun s55 wx=>s55=.bool false/\Boxed wx w.heap.size a/\Boxed wx (w.heap.size+1) b/\Boxed wx (w.heap.size+1+1) c/\Boxed wx (w.heap.size+1+1+1) d/\Below w.heap.size w wx)
 case first =>
  go_wp2_with fail;refine (HS.out a b c _).mono ?_;rintro e w2 ⟨rfl,hb2⟩;replace Bw:Below w.heap.size w w2:=bT Bw hb2;replace X4:=X4.keep hb2;replace X5:=X5.keep hb2;replace X6:=X6.keep hb2;replace X7:=X7.keep hb2;clear hb2 rM x40 x41 rO rP rQ tH tJ tK ny nT nU;by_cases hz:bC a b c=0
  ·have hz2:¬ bC a b d=0:=fun h=>Hl.out ⟨hz,h⟩;have hz2':(bC a b d == 0)=false:=by simpa using hz2
   have Hz2:=Lib.hid hz2;clear hz2;rw [hz];clear hz;obtain ⟨rM,x40,x41,-,-⟩:=X4.facts;obtain ⟨rO,rP,rQ,-,-⟩:=X5.facts;obtain ⟨ny,nT,nU,-,-⟩:=X7.facts;go_wp2_with fail;refine (HS.out a b d _).mono ?_;rintro e w3 ⟨rfl,hb3⟩;replace Bw:Below w.heap.size w w3:=bT Bw hb3;replace X4:=X4.keep hb3;replace X5:=X5.keep hb3;replace X6:=X6.keep hb3;replace X7:=X7.keep hb3;clear hb3 rM x40 x41 rO rP rQ ny nT nU;go_wp2_with fail;go_meet
   case rel => exact ⟨rfl,X4,X5,X6,X7,Bw⟩
  ·have hz':(bC a b c == 0)=false:=by simpa using hz
   have Hz:=Lib.hid hz;clear hz;go_wp2_with fail;go_meet
   case rel => exact ⟨rfl,X4,X5,X6,X7,Bw⟩
 case rest =>
  clear X4 X5 X6 X7 Bw rM x40 x41 rO rP rQ tH tJ tK ny nT nU Hl;obtain ⟨rfl,X4,X5,X6,X7,Bw⟩:=hcut;obtain ⟨rM,x40,x41,-,-⟩:=X4.facts;obtain ⟨rO,rP,rQ,-,-⟩:=X5.facts;obtain ⟨tH,tJ,tK,-,-⟩:=X6.facts;obtain ⟨ny,nT,nU,-,-⟩:=X7.facts;go_upto_region 4 with fail;obtain ⟨p1,p2⟩:=qj (bC a b c) (bC a b d) 1 (by omega) (by omega) (by omega) (by omega);obtain ⟨p3,p4⟩:=qj (bC c d a) (bC c d b) 1 (by omega) (by omega) (by omega) (by omega);simp only [Int.reduceMul,Int.reduceNeg] at p1 p2 p3 p4;have hw1:IntKind.i64.wrap (bC a b c*bC a b d)=bC a b c*bC a b d:=IntWalk.i64_in _ (by omega);have hw2:IntKind.i64.wrap (bC c d a*bC c d b)=bC c d a*bC c d b:=IntWalk.i64_in _ (by omega);by_cases hg:bC a b c*bC a b d<=0
  ·have hg':decide (bC a b c*bC a b d<=0)=true:=by simpa using hg
   clear hs1 hs2 hs3 hs4;go_region_held3 (fun W=>W.cell? ⟨w.heap.size,0,none⟩=some (.int .i64 a.x)/\W.cell? ⟨w.heap.size,1,none⟩=some (.int .i64 a.y)/\W.cell? ⟨w.heap.size+1,0,none⟩=some (.int .i64 b.x)/\W.cell? ⟨w.heap.size+1,1,none⟩=some (.int .i64 b.y)/\W.cell? ⟨w.heap.size+1+1,0,none⟩=some (.int .i64 c.x)/\W.cell? ⟨w.heap.size+1+1,1,none⟩=some (.int .i64 c.y)/\W.cell? ⟨w.heap.size+1+1+1,0,none⟩=some (.int .i64 d.x)/\W.cell? ⟨w.heap.size+1+1+1,1,none⟩=some (.int .i64 d.y)) ((repeat' apply And.intro)<;>(repeat (refine pX (by assumption) ?_))<;>(first | assumption | simp [*]))
     (first | (go_at_call 200;refine (HS.out _ _ _ _).mono ?_;rintro e w' ⟨rfl,hb'⟩))
   by_cases hg2:bC c d a*bC c d b<=0
   ·have hq:iK a b c d=1:=by rw [Hm.out,if_pos ⟨hg,hg2⟩]
    have Hq:=Lib.hid hq;clear hq Hm;go_wp2_with fail;go_ret;refine ⟨dY Hq.out.symm,?_⟩
    repeat (first | with_reducible exact bR _ | with_reducible assumption | with_reducible refine bA ?_ _ | with_reducible refine bD ?_ | with_reducible refine bN ?_ _ | ((with_reducible refine bS ?_ ?_ _);rotate_left;(simp;try omega)) | ((with_reducible refine bT ?_ ?_);rotate_left;with_reducible assumption) | with_reducible refine bT ?_ (by assumption))
   ·have hq:iK a b c d=0:=by rw [Hm.out,if_neg (fun h=>hg2 h.2)]
    have Hq:=Lib.hid hq;clear hq Hm;go_wp2_with fail;go_ret;refine ⟨dY Hq.out.symm,?_⟩
    repeat (first | with_reducible exact bR _ | with_reducible assumption | with_reducible refine bA ?_ _ | with_reducible refine bD ?_ | with_reducible refine bN ?_ _ | ((with_reducible refine bS ?_ ?_ _);rotate_left;(simp;try omega)) | ((with_reducible refine bT ?_ ?_);rotate_left;with_reducible assumption) | with_reducible refine bT ?_ (by assumption))
  ·have hg':decide (bC a b c*bC a b d<=0)=false:=by simpa using hg
   have hq:iK a b c d=0:=by rw [Hm.out,if_neg (fun h=>hg h.1)]
   have Hq:=Lib.hid hq;clear hq Hm;clear hs1 hs2 hs3 hs4;refine dN (Since wc) (.run 3 0 0 (.run 3 4 7 (.call 3 127 (.call 7 255 (.run 15 8 255 (.done)))))) (by kernel_rfl) (bD (bR _)) (by kernel_rfl) (by kernel_rfl) (Nat.le_of_ble_eq_true (by kernel_rfl)) ?_;intro dO QR aj aA hS
   iterate 6
    apply aH;exact aj;exact rfl;exact hS;exact rfl
    · intro _ hqc;go_simp;try rfl
    try simp only [pu]
   refine aS (i:=3) (aB aj rfl) (fun K hK=>?_);have ak:=Lib.hid hS;clear hS;refine aG (aN rfl) ?_;go_simp;refine (HS.out a b c _).mono ?_;rintro e bY ⟨rfl,dB⟩;have hS:Since wc bY:=bT (w:=wc) ak.out dB;clear ak;refine hK.out _ _ hS (fun _=>?_);clear hK K
   try simp only [pu]
   refine aS (i:=7) (aB aj rfl) (fun K hK=>?_);have ak:=Lib.hid hS;clear hS;refine aG (aN rfl) ?_;go_simp;refine (HS.out a b d _).mono ?_;rintro e wr2 ⟨rfl,fG⟩;have hS:Since wc wr2:=bT (w:=wc) ak.out fG;clear ak;refine hK.out _ _ hS (fun _=>?_);clear hK K
   try simp only [pu]
   iterate 3
    apply aH;exact aj;exact rfl;exact hS;exact rfl
    · intro _ hqc;go_simp;try rfl
    try simp only [pu]
   iterate 10
    refine iH aj rfl hS rfl rfl rfl rfl rfl ?_
    try simp only [pu]
   iterate 2
    apply aH;exact aj;exact rfl;exact hS;exact rfl
    · intro _ hqc;go_simp;try rfl
    try simp only [pu]
   refine dF ?_;refine aA.down _ _ ?_;have hB:Below wc.heap.size wc wr2:=hS;clear hS aA aj;go_wp2_with fail;go_ret;refine ⟨dY Hq.out.symm,?_⟩
   repeat (first | with_reducible exact bR _ | with_reducible assumption | with_reducible refine bA ?_ _ | with_reducible refine bD ?_ | with_reducible refine bN ?_ _ | ((with_reducible refine bS ?_ ?_ _);rotate_left;(simp;try omega)) | ((with_reducible refine bT ?_ ?_);rotate_left;with_reducible assumption) | with_reducible refine bT ?_ (by assumption))
set_option maxHeartbeats 400000 in
theorem Ji (v:Value) (l:List Pt) (w:World) (h:bU w v l) :
  Calls Tryz.prog 212 #[v] w fun e w'=>e=.returned (.bool (dU l))/\Below w.heap.size w w':=by
 obtain ⟨A,c,rfl,hn,hc,hR⟩:=h;unfold maxLen at hc;go_enter Tryz.func212,Tryz.ntmps212;go_wp2_with fail;go_loopw [3] (fun i wr=>∃ k:Nat,k<=l.length/\i=.int .i64 k/\Below w.heap.size w wr/\∀ j (hj:j<l.length),j<k->dI l[j]=true) (fun i _=>l.length-(intOf i).toNat)
 case atStart => exact ⟨0,Nat.zero_le _,rfl,Below.refl _ _,fun j _ h=>by omega⟩
 case round =>
  obtain ⟨k,hk,rfl,hb,hno⟩:=hrel;have Hb:=Lib.hid hb;have Hno:=Lib.hid hno;have hs:=hb.size;clear hb hno;by_cases hlt:k<l.length
  ·obtain ⟨b,o,rfl,hlb,c0,c1⟩:=(hR.mono Hb.out).pt hlt;have HR:=Lib.hid hR;clear hR;by_cases hnr:dI l[k]=true
   ·have Hn:=Lib.hid hnr;obtain ⟨n1,n2,n3,n4⟩:=(tC _).1 hnr;clear hnr;go_wp2;go_roundw
    case rel => exact ⟨k+1,by omega,by go_num,Hb.out,all_succ (p:=fun x=>dI x=true) Hno.out hlt Hn.out⟩
    case measure => simp [intOf];omega
   ·have hn':dI l[k]=false:=by simpa using hnr
    have Hf:=Lib.hid (NG l k hlt hn');clear hn';have Fq:=Lib.hid hnr;clear hnr;go_wp2
    all_goals first
     | (go_ret;exact ⟨aT Hf.out.symm,Hb.out⟩)
     | (exfalso;exact Fq.out ((tC _).2 ⟨by omega,by omega,by omega,by omega⟩))
  ·go_wp2;go_ret;exact ⟨aT (NH l fun j hj=>Hno.out j hj (by omega)).symm,Hb.out⟩
def aC (a b c d:Pt):Int:=(b.x-a.x)*(d.y-c.y)-(b.y-a.y)*(d.x-c.x)
def Fz (a b c d:Pt):Int:=(b.x-a.x)*(d.x-c.x)+(b.y-a.y)*(d.y-c.y)
set_option maxHeartbeats 400000 in
theorem UE (a b c d:Pt) (w:World) (ha:lim a) (hb:lim b) (hc:lim c) (hd:lim d) :
  Calls Tryz.prog 213 #[aF a,aF b,aF c,aF d] w fun e w'=>e=.returned (.int .i64 (aC a b c d))/\Below w.heap.size w w':=by
 obtain ⟨a1,a2,a3,a4⟩:=ha;obtain ⟨b1,b2,b3,b4⟩:=hb;obtain ⟨c1,c2,c3,c4⟩:=hc;obtain ⟨d1,d2,d3,d4⟩:=hd;obtain ⟨m1,m2⟩:=qj (b.x-a.x) (d.y-c.y) 4194304 (by omega) (by omega) (by omega) (by omega);obtain ⟨m3,m4⟩:=qj (b.y-a.y) (d.x-c.x) 4194304 (by omega) (by omega) (by omega) (by omega);simp only [Int.reduceMul,Int.reduceNeg] at m1 m2 m3 m4;unfold aF;go_enter Tryz.func213,Tryz.ntmps213;go_wp2;go_ret;refine ⟨dY rfl,?_⟩
 repeat (first | with_reducible exact bR _ | with_reducible assumption | with_reducible refine bA ?_ _ | with_reducible refine bD ?_ | with_reducible refine bN ?_ _ | ((with_reducible refine bS ?_ ?_ _);rotate_left;(simp;try omega)) | ((with_reducible refine bT ?_ ?_);rotate_left;with_reducible assumption) | with_reducible refine bT ?_ (by assumption))
set_option maxHeartbeats 400000 in
theorem abE (a b c d:Pt) (w:World) (ha:lim a) (hb:lim b) (hc:lim c) (hd:lim d) :
  Calls Tryz.prog 214 #[aF a,aF b,aF c,aF d] w fun e w'=>e=.returned (.int .i64 (Fz a b c d))/\Below w.heap.size w w':=by
 obtain ⟨a1,a2,a3,a4⟩:=ha;obtain ⟨b1,b2,b3,b4⟩:=hb;obtain ⟨c1,c2,c3,c4⟩:=hc;obtain ⟨d1,d2,d3,d4⟩:=hd;obtain ⟨m1,m2⟩:=qj (b.x-a.x) (d.x-c.x) 4194304 (by omega) (by omega) (by omega) (by omega);obtain ⟨m3,m4⟩:=qj (b.y-a.y) (d.y-c.y) 4194304 (by omega) (by omega) (by omega) (by omega);simp only [Int.reduceMul,Int.reduceNeg] at m1 m2 m3 m4;unfold aF;go_enter Tryz.func214,Tryz.ntmps214;go_wp2;go_ret;refine ⟨dY rfl,?_⟩
 repeat (first | with_reducible exact bR _ | with_reducible assumption | with_reducible refine bA ?_ _ | with_reducible refine bD ?_ | with_reducible refine bN ?_ _ | ((with_reducible refine bS ?_ ?_ _);rotate_left;(simp;try omega)) | ((with_reducible refine bT ?_ ?_);rotate_left;with_reducible assumption) | with_reducible refine bT ?_ (by assumption))
def ql (a b p:Pt):Bool:=dU [a,b,p] && decide (aC a b a p=0) && decide (Fz a p b p<=0)
set_option maxHeartbeats 1000000 in
theorem abG (a b p:Pt) (w:World) :
  Calls Tryz.prog 150 #[aF a,aF b,aF p] w fun e w'=>e=.returned (.bool (ql a b p))/\Below w.heap.size w w':=by
 have hn0:∀ q,dU [a,b,p]=q->ql a b p=(q && decide (aC a b a p=0) && decide (Fz a p b p<=0)):=fun q h=>by rw [ql,h]
 have UF:=Lib.hid hn0;clear hn0
 cases hn:dU [a,b,p]
 ·have Hs:=Lib.hid (UF.out _ hn);unfold aF;go_enter Tryz.func150,Tryz.ntmps150;go_wp2_with fail;refine (Ji _ [a,b,p] _ (bU.vX (ah.made (by simp) _ _))).mono ?_;rintro e w1 ⟨rfl,hb1⟩;rw [hn];go_wp2_with fail;go_ret;refine ⟨aT Hs.out.symm,?_⟩
  repeat (first | with_reducible exact bR _ | with_reducible assumption | with_reducible refine bA ?_ _ | with_reducible refine bD ?_ | with_reducible refine bN ?_ _ | ((with_reducible refine bS ?_ ?_ _);rotate_left;(simp;try omega)) | ((with_reducible refine bT ?_ ?_);rotate_left;with_reducible assumption) | with_reducible refine bT ?_ (by assumption))
 ·obtain ⟨ha,hb,hc⟩:=Fv hn;have TC:∀ W,Calls Tryz.prog 213 #[aF a,aF b,aF a,aF p] W _:=fun W=>UE a b a p W ha hb ha hc;have TD:∀ W,Calls Tryz.prog 214 #[aF a,aF p,aF b,aF p] W _:=fun W=>abE a p b p W ha hc hb hc;have Hs:=Lib.hid (UF.out _ hn);generalize aC a b a p=cr at *;generalize Fz a p b p=dt at *;unfold aF at TC TD ⊢;have HC:=Lib.hid TC;clear TC;have HD:=Lib.hid TD;clear TD;clear ha hb hc;go_enter Tryz.func150,Tryz.ntmps150;go_wp2_with fail;refine (Ji _ [a,b,p] _ (bU.vX (ah.made (by simp) _ _))).mono ?_;rintro e w1 ⟨rfl,hb1⟩;rw [hn];have Bw:Below w.heap.size w w1:=by
   repeat (first | with_reducible exact bR _ | with_reducible assumption | with_reducible refine bA ?_ _ | with_reducible refine bD ?_ | with_reducible refine bN ?_ _ | ((with_reducible refine bS ?_ ?_ _);rotate_left;(simp;try omega)) | ((with_reducible refine bT ?_ ?_);rotate_left;with_reducible assumption) | with_reducible refine bT ?_ (by assumption))
  have X3:ah _ (w.heap.size) 39 #[.int .i64 a.x,.int .i64 a.y]:=ah.keep (by repeat (first | exact ah.made (by simp) _ _ | refine ah.alloc ?_ _)) hb1;have X4:ah _ (w.heap.size+1) 39 #[.int .i64 b.x,.int .i64 b.y]:=ah.keep (by repeat (first | exact ah.made (by simp) _ _ | refine ah.alloc ?_ _)) hb1;have X5:ah _ (w.heap.size+1+1) 39 #[.int .i64 p.x,.int .i64 p.y]:=ah.keep (by repeat (first | exact ah.made (by simp) _ _ | refine ah.alloc ?_ _)) hb1;clear hb1;obtain ⟨aW,aX,aY,-,-⟩:=X3.aO;obtain ⟨aU,aV,bQ,-,-⟩:=X4.aO;obtain ⟨bV,bW,dH,-,-⟩:=X5.aO;go_wp2_with fail;refine (HC.out _).mono ?_;rintro e w2 ⟨rfl,hb2⟩;replace Bw:=bT Bw hb2;replace X3:=X3.keep hb2;replace X4:=X4.keep hb2;replace X5:=X5.keep hb2;clear hb2
  try clear aW
  try clear aX
  try clear aY
  try clear aU
  try clear aV
  try clear bQ
  try clear bV
  try clear bW
  try clear dH
  try clear aW
  try clear aX
  try clear aY
  obtain ⟨aW,aX,aY,-,-⟩:=X3.aO
  try clear aU
  try clear aV
  try clear bQ
  obtain ⟨aU,aV,bQ,-,-⟩:=X4.aO
  try clear bV
  try clear bW
  try clear dH
  obtain ⟨bV,bW,dH,-,-⟩:=X5.aO;by_cases hcr:cr=0
  ·subst hcr;go_wp2_with fail;refine (HD.out _).mono ?_;rintro e w3 ⟨rfl,hb3⟩;go_wp2_with fail;go_ret;refine ⟨aT (by rw [Hs.out];simp),?_⟩
   repeat (first | with_reducible exact bR _ | with_reducible assumption | with_reducible refine bA ?_ _ | with_reducible refine bD ?_ | with_reducible refine bN ?_ _ | ((with_reducible refine bS ?_ ?_ _);rotate_left;(simp;try omega)) | ((with_reducible refine bT ?_ ?_);rotate_left;with_reducible assumption) | with_reducible refine bT ?_ (by assumption))
  ·have ajs:(cr == 0)=false:=by simpa using hcr
   have Hcr:=Lib.hid hcr;clear hcr;go_wp2_with fail;go_ret;refine ⟨aT (by rw [Hs.out];simp [Hcr.out]),?_⟩
   repeat (first | with_reducible exact bR _ | with_reducible assumption | with_reducible refine bA ?_ _ | with_reducible refine bD ?_ | with_reducible refine bN ?_ _ | ((with_reducible refine bS ?_ ?_ _);rotate_left;(simp;try omega)) | ((with_reducible refine bT ?_ ?_);rotate_left;with_reducible assumption) | with_reducible refine bT ?_ (by assumption))
def uV (a b c d:Pt):Int :=
 if a=b/\c=d/\¬ a=c then 0
 else if aC a b c d=0 then
  if aC a b a c=0/\aC a b a d=0/\aC c d c a=0/\aC c d c b=0 then kR a b c d else 0
 else if aC a b c d<0 then
  if 0<=-aC a c c d/\-aC a c c d<=-aC a b c d/\0<=-aC a c a b/\-aC a c a b<=-aC a b c d then 1 else 0
 else if 0<=aC a c c d/\aC a c c d<=aC a b c d/\0<=aC a c a b/\aC a c a b<=aC a b c d then 1 else 0
def gV (a b c d:Pt):Int:=if dU [a,b,c,d]=true then uV a b c d else 0
end Go.Proofs.YtialfdomhoojiaaGreat
