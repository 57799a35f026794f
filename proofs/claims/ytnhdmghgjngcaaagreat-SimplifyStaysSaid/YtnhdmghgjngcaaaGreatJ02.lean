import Derived.Test.YtnhdmghgjngcaaaGreatGB
import Derived.Test.YtnhdmghgjngcaaaGreatProg
import Derived.RegionTactic
import Derived.Deep.DeepCutAuto
import Derived.Deep.RegionHeld3
set_option linter.unusedSimpArgs false
set_option linter.unusedVariables false
namespace Go.Proofs.YtnhdmghgjngcaaaGreat
open Go.RowKit

def near1 (p:Pt):Bool:=decide (-2097152≤p.x) && decide (p.x≤2097152) && decide (-2097152≤p.y) && decide (p.y≤2097152)
def nears (l:List Pt):Bool:=l.all near1
def tw (a b c:Pt):Int:=(b.x-a.x)*(c.y-a.y)-(b.y-a.y)*(c.x-a.x)

theorem near1_iff (p:Pt):near1 p=true↔-2097152≤p.x∧p.x≤2097152∧-2097152≤p.y∧p.y≤2097152:=by
 simp [near1,and_assoc]

theorem nears_hit (l:List Pt) (k:Nat) (hk:k<l.length) (h:near1 l[k]=false):nears l=false:=by
 unfold nears
 rw [List.all_eq_false]
 exact ⟨l[k],List.getElem_mem hk,by simp [h]⟩
theorem nears_all (l:List Pt) (h:∀ j (hj:j<l.length),near1 l[j]=true):nears l=true:=by
 unfold nears
 rw [List.all_eq_true]
 intro x hx
 obtain ⟨i,hi,rfl⟩:=List.mem_iff_getElem.1 hx
 exact h i hi

set_option maxHeartbeats 400000 in
theorem near_spec (v:Value) (l:List Pt) (w:World) (h:Pts w v l) :
  Calls Tryz.prog 46 #[v] w fun e w'=>e=.returned (.bool (nears l))∧Below w.heap.size w w':=by
 obtain ⟨A,c,rfl,hn,hc,hR⟩:=h
 unfold maxLen at hc
 go_enter Tryz.func46,Tryz.ntmps46
 go_wp2_with fail
 go_loopw [7] (fun i wr=>∃ k:Nat,k≤l.length∧i=.int .i64 k∧Below w.heap.size w wr∧∀ j (hj:j<l.length),j<k→near1 l[j]=true) (fun i _=>l.length-(intOf i).toNat)
 case atStart => exact ⟨0,Nat.zero_le _,rfl,Below.refl _ _,fun j _ h=>by omega⟩
 case round =>
  obtain ⟨k,hk,rfl,hb,hno⟩:=hrel
  have Hb:=Lib.hid hb
  have Hno:=Lib.hid hno
  have hs:=hb.size
  clear hb hno
  by_cases hlt:k<l.length
  ·
   obtain ⟨b,o,rfl,hlb,c0,c1⟩:=(hR.mono Hb.out).pt hlt
   have HR:=Lib.hid hR;clear hR
   by_cases hnr:near1 l[k]=true
   ·
    have Hn:=Lib.hid hnr
    obtain ⟨n1,n2,n3,n4⟩:=(near1_iff _).1 hnr
    clear hnr
    go_wp2
    go_roundw
    case rel => exact ⟨k+1,by omega,by go_num,Hb.out.alloc hs _,all_succ (p:=fun x=>near1 x=true) Hno.out hlt Hn.out⟩
    case measure => simp [intOf];omega
   ·
    have hn':near1 l[k]=false:=by simpa using hnr
    have Hf:=Lib.hid (nears_hit l k hlt hn')
    clear hn'
    have Hnr:=Lib.hid hnr;clear hnr
    go_wp2
    all_goals first
     | (go_ret;exact ⟨ret_bool Hf.out.symm,Hb.out.alloc hs _⟩)
     | (exfalso;exact Hnr.out ((near1_iff _).2 ⟨by omega,by omega,by omega,by omega⟩))
  ·
   go_wp2
   go_ret
   exact ⟨ret_bool (nears_all l fun j hj=>Hno.out j hj (by omega)).symm,Hb.out⟩

def lim (p:Pt):Prop:=-2097152≤p.x∧p.x≤2097152∧-2097152≤p.y∧p.y≤2097152

theorem mul_bd (a b m:Int) (h1:-m≤a) (h2:a≤m) (h3:-m≤b) (h4:b≤m):-(m*m)≤a*b∧a*b≤m*m:=by
 have hm:0≤m:=by omega
 rcases Int.le_total 0 a with ha | ha<;>rcases Int.le_total 0 b with hb | hb
 · exact ⟨by have:=Int.mul_nonneg ha hb;have:=Int.mul_nonneg hm hm;omega,Int.mul_le_mul h2 h4 hb hm⟩
 ·
  have e:a*b=-(a * -b):=by rw [Int.mul_neg];omega
  have h:=Int.mul_le_mul h2 (show -b≤m by omega) (by omega) hm
  have h':=Int.mul_nonneg ha (show 0≤-b by omega)
  have:=Int.mul_nonneg hm hm
  omega
 ·
  have e:a*b=-(-a*b):=by rw [Int.neg_mul];omega
  have h:=Int.mul_le_mul (show -a≤m by omega) h4 hb hm
  have h':=Int.mul_nonneg (show 0≤-a by omega) hb
  have:=Int.mul_nonneg hm hm
  omega
 ·
  have e:a*b=-a * -b:=by rw [Int.neg_mul_neg]
  have h:=Int.mul_le_mul (show -a≤m by omega) (show -b≤m by omega) (by omega) hm
  have h':=Int.mul_nonneg (show 0≤-a by omega) (show 0≤-b by omega)
  have:=Int.mul_nonneg hm hm
  omega

set_option maxHeartbeats 400000 in
theorem twice_spec (a b c:Pt) (w:World) (ha:lim a) (hb:lim b) (hc:lim c) :
  Calls Tryz.prog 47 #[ptV a,ptV b,ptV c] w fun e w'=>e=.returned (.int .i64 (tw a b c))∧Below w.heap.size w w':=by
 obtain ⟨a1,a2,a3,a4⟩:=ha
 obtain ⟨b1,b2,b3,b4⟩:=hb
 obtain ⟨c1,c2,c3,c4⟩:=hc
 obtain ⟨m1,m2⟩:=mul_bd (b.x-a.x) (c.y-a.y) 4194304 (by omega) (by omega) (by omega) (by omega)
 obtain ⟨m3,m4⟩:=mul_bd (b.y-a.y) (c.x-a.x) 4194304 (by omega) (by omega) (by omega) (by omega)
 simp only [Int.reduceMul,Int.reduceNeg] at m1 m2 m3 m4
 unfold ptV
 go_enter Tryz.func47,Tryz.ntmps47
 go_wp2
 go_ret
 exact ⟨ret_int rfl,(((Below.refl _ _).alloc (Nat.le_refl _) _).alloc (by simp) _).alloc (by simp;omega) _⟩
end Go.Proofs.YtnhdmghgjngcaaaGreat
namespace Go.Proofs.YtnhdmghgjngcaaaGreat
open Go.RowKit

theorem lim_of {p:Pt} (h:near1 p=true):lim p:=(near1_iff p).1 h
theorem nears3 {a b c:Pt} (h:nears [a,b,c]=true):lim a∧lim b∧lim c:=by
 simp only [nears,List.all_cons,List.all_nil,Bool.and_true,Bool.and_eq_true] at h
 exact ⟨lim_of h.1,lim_of h.2.1,lim_of h.2.2⟩
def twS (a b c:Pt):Int:=if nears [a,b,c]=true then tw a b c else 0

set_option maxHeartbeats 400000 in
theorem Twice_spec (a b c:Pt) (w:World) :
  Calls Tryz.prog 27 #[ptV a,ptV b,ptV c] w fun e w'=>e=.returned (.int .i64 (twS a b c))∧Below w.heap.size w w':=by
 unfold ptV
 by_cases hn:nears [a,b,c]=true
 ·
  obtain ⟨ha,hb,hc⟩:=nears3 hn
  have Ha:=Lib.hid ha;have Hb:=Lib.hid hb;have Hc:=Lib.hid hc;clear ha hb hc
  go_enter Tryz.func27,Tryz.ntmps27
  go_wp2_with fail
  refine (near_spec _ [a,b,c] _ (Pts.lit3 (Blk.made (by simp) _ _))).mono ?_
  rintro e w1 ⟨rfl,hb1⟩
  obtain ⟨hb1c,hb1f⟩:=bcell hb1
  have hb1z:=hb1.size
  try simp only [World.size_alloc,World.size_setCell,World.size_drew] at hb1z
  have hb1l0:w.heap.size<w1.heap.size:=by omega
  have hb1l1:w.heap.size+1<w1.heap.size:=by omega
  have hb1l2:w.heap.size+1+1<w1.heap.size:=by omega
  go_wp2_with fail
  refine (twice_spec a b c _ Ha.out Hb.out Hc.out).mono ?_
  rintro e w2 ⟨rfl,hb2⟩
  go_wp2_with fail
  go_ret
  refine ⟨ret_int (by simp [twS,hn]),?_⟩
  repeat (first | with_reducible exact bR _ | with_reducible assumption | with_reducible refine bA ?_ _ | with_reducible refine bD ?_ | with_reducible refine bN ?_ _ | ((with_reducible refine bS ?_ ?_ _);rotate_left;(simp;try omega)) | ((with_reducible refine bT ?_ ?_);rotate_left;with_reducible assumption) | with_reducible refine bT ?_ (by assumption))
 ·
  have hn':nears [a,b,c]=false:=by simpa using hn
  clear hn
  go_enter Tryz.func27,Tryz.ntmps27
  go_wp2_with fail
  refine (near_spec _ [a,b,c] _ (Pts.lit3 (Blk.made (by simp) _ _))).mono ?_
  rintro e w1 ⟨rfl,hb1⟩
  obtain ⟨hb1c,hb1f⟩:=bcell hb1
  have hb1z:=hb1.size
  try simp only [World.size_alloc,World.size_setCell,World.size_drew] at hb1z
  have hb1l0:w.heap.size<w1.heap.size:=by omega
  have hb1l1:w.heap.size+1<w1.heap.size:=by omega
  have hb1l2:w.heap.size+1+1<w1.heap.size:=by omega
  go_wp2_with fail
  go_ret
  refine ⟨ret_int (by simp [twS,hn']),?_⟩
  repeat (first | with_reducible exact bR _ | with_reducible assumption | with_reducible refine bA ?_ _ | with_reducible refine bD ?_ | with_reducible refine bN ?_ _ | ((with_reducible refine bS ?_ ?_ _);rotate_left;(simp;try omega)) | ((with_reducible refine bT ?_ ?_);rotate_left;with_reducible assumption) | with_reducible refine bT ?_ (by assumption))

def sideS (a b c:Pt):Int:=if 0<twS a b c then 1 else if twS a b c<0 then -1 else 0

set_option maxHeartbeats 400000 in
theorem Side_spec (a b c:Pt) (w:World) :
  Calls Tryz.prog 70 #[ptV a,ptV b,ptV c] w fun e w'=>e=.returned (.int .i64 (sideS a b c))∧Below w.heap.size w w':=by
 have T:∀ W,Calls Tryz.prog 27 #[ptV a,ptV b,ptV c] W _:=fun W=>Twice_spec a b c W
 unfold ptV at T ⊢
 unfold sideS
 generalize twS a b c=t at *
 have HT:=Lib.hid T;clear T
 go_enter Tryz.func70,Tryz.ntmps70
 go_wp2_with fail
 refine (HT.out _).mono ?_
 rintro e w1 ⟨rfl,hb1⟩
 go_wp2_with fail
 all_goals
  go_ret
  refine ⟨ret_int rfl,?_⟩
  repeat (first | with_reducible exact bR _ | with_reducible assumption | with_reducible refine bA ?_ _ | with_reducible refine bD ?_ | with_reducible refine bN ?_ _ | ((with_reducible refine bS ?_ ?_ _);rotate_left;(simp;try omega)) | ((with_reducible refine bT ?_ ?_);rotate_left;with_reducible assumption) | with_reducible refine bT ?_ (by assumption))

def onS (a b p:Pt):Bool:=nears [a,b,p] && decide (tw a b p=0) && decide (min a.x b.x≤p.x) && decide (p.x≤max a.x b.x) && decide (min a.y b.y≤p.y) && decide (p.y≤max a.y b.y)

set_option maxHeartbeats 1000000 in
theorem On_spec (a b p:Pt) (w:World) :
  Calls Tryz.prog 72 #[ptV a,ptV b,ptV p] w fun e w'=>e=.returned (.bool (onS a b p))∧Below w.heap.size w w':=by
 unfold ptV
 by_cases hn:nears [a,b,p]=true
 ·
  obtain ⟨ha,hb,hc⟩:=nears3 hn
  have T:∀ W,Calls Tryz.prog 47 #[ptV a,ptV b,ptV p] W _:=fun W=>twice_spec a b p W ha hb hc
  unfold ptV at T
  have hS:onS a b p=(decide (tw a b p=0) && decide (min a.x b.x≤p.x) && decide (p.x≤max a.x b.x) && decide (min a.y b.y≤p.y) && decide (p.y≤max a.y b.y)):=by simp [onS,hn]
  rw [hS]
  generalize tw a b p=t at *
  have HT:=Lib.hid T;clear T ha hb hc hS
  go_enter Tryz.func72,Tryz.ntmps72
  go_wp2_with fail
  refine (near_spec _ [a,b,p] _ (Pts.lit3 (Blk.made (by simp) _ _))).mono ?_
  rintro e w1 ⟨rfl,hb1⟩
  obtain ⟨hb1c,hb1f⟩:=bcell hb1
  have hb1z:=hb1.size
  try simp only [World.size_alloc,World.size_setCell,World.size_drew] at hb1z
  have hb1l0:w.heap.size<w1.heap.size:=by omega
  have hb1l1:w.heap.size+1<w1.heap.size:=by omega
  have hb1l2:w.heap.size+1+1<w1.heap.size:=by omega
  go_wp2_with fail
  refine (HT.out _).mono ?_
  rintro e w2 ⟨rfl,hb2⟩
  obtain ⟨hb2c,hb2f⟩:=bcell hb2
  have hb2z:=hb2.size
  try simp only [World.size_alloc,World.size_setCell,World.size_drew] at hb2z
  have hb2l0:w.heap.size<w2.heap.size:=by omega
  have hb2l1:w.heap.size+1<w2.heap.size:=by omega
  have hb2l2:w.heap.size+1+1<w2.heap.size:=by omega
  by_cases ht:t=0
  ·
   subst ht
   go_wp2_with fail
   all_goals
    go_ret
    refine ⟨ret_bool (by rw [Bool.eq_iff_iff];simp only [Bool.and_eq_true,decide_eq_true_eq,Bool.false_eq_true,false_iff,true_iff];omega),?_⟩
    repeat (first | with_reducible exact bR _ | with_reducible assumption | with_reducible refine bA ?_ _ | with_reducible refine bD ?_ | with_reducible refine bN ?_ _ | ((with_reducible refine bS ?_ ?_ _);rotate_left;(simp;try omega)) | ((with_reducible refine bT ?_ ?_);rotate_left;with_reducible assumption) | with_reducible refine bT ?_ (by assumption))
  ·
   have ht':(t == 0)=false:=by simpa using ht
   go_wp2_with fail
   go_ret
   refine ⟨ret_bool (by simp [ht]),?_⟩
   repeat (first | with_reducible exact bR _ | with_reducible assumption | with_reducible refine bA ?_ _ | with_reducible refine bD ?_ | with_reducible refine bN ?_ _ | ((with_reducible refine bS ?_ ?_ _);rotate_left;(simp;try omega)) | ((with_reducible refine bT ?_ ?_);rotate_left;with_reducible assumption) | with_reducible refine bT ?_ (by assumption))
 ·
  have hn':nears [a,b,p]=false:=by simpa using hn
  clear hn
  go_enter Tryz.func72,Tryz.ntmps72
  go_wp2_with fail
  refine (near_spec _ [a,b,p] _ (Pts.lit3 (Blk.made (by simp) _ _))).mono ?_
  rintro e w1 ⟨rfl,hb1⟩
  obtain ⟨hb1c,hb1f⟩:=bcell hb1
  have hb1z:=hb1.size
  try simp only [World.size_alloc,World.size_setCell,World.size_drew] at hb1z
  have hb1l0:w.heap.size<w1.heap.size:=by omega
  have hb1l1:w.heap.size+1<w1.heap.size:=by omega
  have hb1l2:w.heap.size+1+1<w1.heap.size:=by omega
  go_wp2_with fail
  go_ret
  refine ⟨ret_bool (by simp [onS,hn']),?_⟩
  repeat (first | with_reducible exact bR _ | with_reducible assumption | with_reducible refine bA ?_ _ | with_reducible refine bD ?_ | with_reducible refine bN ?_ _ | ((with_reducible refine bS ?_ ?_ _);rotate_left;(simp;try omega)) | ((with_reducible refine bT ?_ ?_);rotate_left;with_reducible assumption) | with_reducible refine bT ?_ (by assumption))
end Go.Proofs.YtnhdmghgjngcaaaGreat
namespace Go.Proofs.YtnhdmghgjngcaaaGreat
open Go.RowKit


set_option maxHeartbeats 400000 in
theorem before_spec (a b:Pt) (w:World) :
  Calls Tryz.prog 161 #[ptV a,ptV b] w fun e w'=>e=.returned (.bool (bef a b))∧Below w.heap.size w w':=by
 unfold ptV
 by_cases h1:a.x<b.x
 ·
  go_enter Tryz.func161,Tryz.ntmps161
  go_wp2
  go_ret
  refine ⟨ret_bool (by simp [bef,h1]),?_⟩
  repeat (first | with_reducible exact bR _ | with_reducible assumption | with_reducible refine bA ?_ _ | with_reducible refine bD ?_ | with_reducible refine bN ?_ _ | ((with_reducible refine bS ?_ ?_ _);rotate_left;(simp;try omega)) | ((with_reducible refine bT ?_ ?_);rotate_left;with_reducible assumption) | with_reducible refine bT ?_ (by assumption))
 ·
  by_cases h2:(a.x == b.x)=true
  ·
   go_enter Tryz.func161,Tryz.ntmps161
   go_wp2
   go_ret
   refine ⟨ret_bool (by simp only [bef];simp_all),?_⟩
   repeat (first | with_reducible exact bR _ | with_reducible assumption | with_reducible refine bA ?_ _ | with_reducible refine bD ?_ | with_reducible refine bN ?_ _ | ((with_reducible refine bS ?_ ?_ _);rotate_left;(simp;try omega)) | ((with_reducible refine bT ?_ ?_);rotate_left;with_reducible assumption) | with_reducible refine bT ?_ (by assumption))
  ·
   have h2':(a.x == b.x)=false:=by simpa using h2
   clear h2
   go_enter Tryz.func161,Tryz.ntmps161
   go_wp2
   go_ret
   refine ⟨ret_bool (by simp only [bef];simp_all),?_⟩
   repeat (first | with_reducible exact bR _ | with_reducible assumption | with_reducible refine bA ?_ _ | with_reducible refine bD ?_ | with_reducible refine bN ?_ _ | ((with_reducible refine bS ?_ ?_ _);rotate_left;(simp;try omega)) | ((with_reducible refine bT ?_ ?_);rotate_left;with_reducible assumption) | with_reducible refine bT ?_ (by assumption))

def sharedS (a b c d:Pt):Int :=
 let a':=if bef b a then b else a
 let b':=if bef b a then a else b
 let c':=if bef d c then d else c
 let d':=if bef d c then c else d
 let f:=if bef a' c' then c' else a'
 let l:=if bef d' b' then d' else b'
 if f=l then 1 else if bef f l then 2 else 0

set_option maxHeartbeats 1000000 in
theorem shared_spec (a b c d:Pt) (w:World) :
  Calls Tryz.prog 153 #[ptV a,ptV b,ptV c,ptV d] w fun e w'=>e=.returned (.int .i64 (sharedS a b c d))∧Below w.heap.size w w':=by
 have T:∀ p q:Pt,∀ W,Calls Tryz.prog 161 #[ptV p,ptV q] W _:=fun p q W=>before_spec p q W
 unfold ptV at T ⊢
 have HT:=Lib.hid T;clear T
 go_enter Tryz.func153,Tryz.ntmps153
 go_wp2_with fail
 refine (HT.out b a _).mono ?_
 rintro e w1 ⟨rfl,hb1⟩
 have Bw1:Below w.heap.size w w1:=by
  repeat (first | with_reducible exact bR _ | with_reducible assumption | with_reducible refine bA ?_ _ | with_reducible refine bD ?_ | with_reducible refine bN ?_ _ | ((with_reducible refine bS ?_ ?_ _);rotate_left;(simp;try omega)) | ((with_reducible refine bT ?_ ?_);rotate_left;with_reducible assumption) | with_reducible refine bT ?_ (by assumption))
 have X4:Boxed w1 w.heap.size a:=((((Boxed.new _ a rfl).alloc _).alloc _).alloc _).keep hb1
 have X5:Boxed w1 (w.heap.size+1) b:=(((Boxed.new _ b (by simp)).alloc _).alloc _).keep hb1
 have X6:Boxed w1 (w.heap.size+1+1) c:=((Boxed.new _ c (by simp)).alloc _).keep hb1
 have X7:Boxed w1 (w.heap.size+1+1+1) d:=(Boxed.new _ d (by simp)).keep hb1
 clear hb1
 go_upto_if 13 with fail
 go_cut [] (fun wx=>Boxed wx w.heap.size (if bef b a then b else a)∧Boxed wx (w.heap.size+1) (if bef b a then a else b)∧Boxed wx (w.heap.size+1+1) c∧Boxed wx (w.heap.size+1+1+1) d∧Below w.heap.size w wx)
 case first =>
  obtain ⟨x4l,x40,x41,x4f,x4g⟩:=X4.facts
  obtain ⟨x5l,x50,x51,x5f,x5g⟩:=X5.facts
  cases h:bef b a
  ·
   go_wp2_with fail
   go_meet
   case rel =>
   rw [h]
   exact ⟨X4,X5,X6,X7,Bw1⟩
  ·
   go_wp2_with fail
   go_meet
   case rel =>
   rw [h]
   exact ⟨(X4.set_.far (by first | omega | (simp;done) | (simp;omega)) _).far (by first | omega | (simp;done) | (simp;omega)) _,(X5.far (by first | omega | (simp;done) | (simp;omega)) _ |>.far (by first | omega | (simp;done) | (simp;omega)) _).set_,(((X6.far (by first | omega | (simp;done) | (simp;omega)) _).far (by first | omega | (simp;done) | (simp;omega)) _).far (by first | omega | (simp;done) | (simp;omega)) _).far (by first | omega | (simp;done) | (simp;omega)) _,(((X7.far (by first | omega | (simp;done) | (simp;omega)) _).far (by first | omega | (simp;done) | (simp;omega)) _).far (by first | omega | (simp;done) | (simp;omega)) _).far (by first | omega | (simp;done) | (simp;omega)) _,bS (bS (bS (bS Bw1 (by first | omega | (simp;done) | (simp;omega)) _) (by first | omega | (simp;done) | (simp;omega)) _) (by first | omega | (simp;done) | (simp;omega)) _) (by first | omega | (simp;done) | (simp;omega)) _⟩
 case rest =>
  clear Bw1 X4 X5 X6 X7
  obtain ⟨X4,X5,X6,X7,Bw⟩:=hcut
  obtain ⟨a1,ha1⟩:∃ a1,a1=(if bef b a then b else a):=⟨_,rfl⟩
  obtain ⟨b1,hb1⟩:∃ b1,b1=(if bef b a then a else b):=⟨_,rfl⟩
  rw [← ha1] at X4
  rw [← hb1] at X5
  have Ha:=Lib.hid ha1;clear ha1
  have Hb:=Lib.hid hb1;clear hb1
  obtain ⟨x6l,x60,x61,-,-⟩:=X6.facts
  obtain ⟨x7l,x70,x71,-,-⟩:=X7.facts
  go_wp2_with fail
  refine (HT.out d c _).mono ?_
  rintro e w2 ⟨rfl,hb2⟩
  clear x6l x60 x61 x7l x70 x71
  replace Bw:Below w.heap.size w w2:=bT Bw hb2
  replace X4:=X4.keep hb2
  replace X5:=X5.keep hb2
  replace X6:=X6.keep hb2
  replace X7:=X7.keep hb2
  clear hb2
  go_upto_if 18 with fail
  go_cut [] (fun wx=>Boxed wx w.heap.size a1∧Boxed wx (w.heap.size+1) b1∧Boxed wx (w.heap.size+1+1) (if bef d c then d else c)∧Boxed wx (w.heap.size+1+1+1) (if bef d c then c else d)∧Below w.heap.size w wx)
  case first =>
   obtain ⟨x6l,x60,x61,x6f,x6g⟩:=X6.facts
   obtain ⟨x7l,x70,x71,x7f,x7g⟩:=X7.facts
   cases h:bef d c
   ·
    go_wp2_with fail
    go_meet
    case rel =>
    rw [h]
    exact ⟨X4,X5,X6,X7,Bw⟩
   ·
    go_wp2_with fail
    go_meet
    case rel =>
    rw [h]
    exact ⟨(((X4.far (by first | omega | (simp;done) | (simp;omega)) _).far (by first | omega | (simp;done) | (simp;omega)) _).far (by first | omega | (simp;done) | (simp;omega)) _).far (by first | omega | (simp;done) | (simp;omega)) _,(((X5.far (by first | omega | (simp;done) | (simp;omega)) _).far (by first | omega | (simp;done) | (simp;omega)) _).far (by first | omega | (simp;done) | (simp;omega)) _).far (by first | omega | (simp;done) | (simp;omega)) _,(X6.set_.far (by first | omega | (simp;done) | (simp;omega)) _).far (by first | omega | (simp;done) | (simp;omega)) _,(X7.far (by first | omega | (simp;done) | (simp;omega)) _ |>.far (by first | omega | (simp;done) | (simp;omega)) _).set_,bS (bS (bS (bS Bw (by first | omega | (simp;done) | (simp;omega)) _) (by first | omega | (simp;done) | (simp;omega)) _) (by first | omega | (simp;done) | (simp;omega)) _) (by first | omega | (simp;done) | (simp;omega)) _⟩
  case rest =>
   clear Bw X4 X5 X6 X7
   obtain ⟨X4,X5,X6,X7,Bw⟩:=hcut
   obtain ⟨c1,hc1⟩:∃ c1,c1=(if bef d c then d else c):=⟨_,rfl⟩
   obtain ⟨d1,hd1⟩:∃ d1,d1=(if bef d c then c else d):=⟨_,rfl⟩
   rw [← hc1] at X6
   rw [← hd1] at X7
   have Hc:=Lib.hid hc1;clear hc1
   have Hd:=Lib.hid hd1;clear hd1
   obtain ⟨x4l,x40,x41,x4f,x4g⟩:=X4.facts
   obtain ⟨x5l,x50,x51,x5f,x5g⟩:=X5.facts
   go_upto_region 5 with fail
   go_cut [9,10] (fun s9 s10 wx=>∃ g9 g10:Nat,s9=.pointer (some ⟨g9,0,none⟩)∧s10=.pointer (some ⟨g10,0,none⟩)∧Boxed wx g9 a1∧Boxed wx g10 b1∧g9≠g10∧w.heap.size+1+1+1<g9∧w.heap.size+1+1+1<g10∧Boxed wx (w.heap.size+1+1) c1∧Boxed wx (w.heap.size+1+1+1) d1∧Below w.heap.size w wx)
   case first =>
    have x7l:=X7.lt
    go_region
    ·
     go_wp2_with fail
     go_meet
     case rel => exact ⟨_,_,rfl,rfl,((Boxed.new _ a1 rfl).alloc _).drew,(Boxed.new _ b1 (by simp)).drew,(by first | omega | (simp;done) | (simp;omega)),(by first | omega | (simp;done) | (simp;omega)),(by first | omega | (simp;done) | (simp;omega)),((X6.alloc _).alloc _).drew,((X7.alloc _).alloc _).drew,bD (bA (bA Bw _) _)⟩
    ·
     go_wp2_with fail
     go_meet
     case rel => exact ⟨_,_,rfl,rfl,(Boxed.new _ a1 (by simp)).drew,((Boxed.new _ b1 rfl).alloc _).drew,(by first | omega | (simp;done) | (simp;omega)),(by first | omega | (simp;done) | (simp;omega)),(by first | omega | (simp;done) | (simp;omega)),((X6.alloc _).alloc _).drew,((X7.alloc _).alloc _).drew,bD (bA (bA Bw _) _)⟩
   case rest =>
    clear Bw X4 X5 X6 X7 x4l x40 x41 x4f x4g x5l x50 x51 x5f x5g
    obtain ⟨g9,g10,rfl,rfl,X9,X10,hne,hg9,hg10,X6,X7,Bw⟩:=hcut
    obtain ⟨x9l,x90,x91,-,-⟩:=X9.facts
    obtain ⟨x6l,x60,x61,-,-⟩:=X6.facts
    go_wp2_with fail
    refine (HT.out a1 c1 _).mono ?_
    rintro e w3 ⟨rfl,hb3⟩
    replace Bw:Below w.heap.size w w3:=bT Bw hb3
    replace X9:=X9.keep hb3
    replace X10:=X10.keep hb3
    replace X6:=X6.keep hb3
    replace X7:=X7.keep hb3
    clear hb3 x9l x90 x91 x6l x60 x61
    go_upto_if 25 with fail
    go_cut [] (fun wx=>Boxed wx g9 (if bef a1 c1 then c1 else a1)∧Boxed wx g10 b1∧Boxed wx (w.heap.size+1+1+1) d1∧Below w.heap.size w wx)
    case first =>
     obtain ⟨x9l,x90,x91,x9f,x9g⟩:=X9.facts
     obtain ⟨x6l,x60,x61,x6f,x6g⟩:=X6.facts
     cases h:bef a1 c1
     ·
      go_wp2_with fail
      go_meet
      case rel =>
      rw [h]
      exact ⟨X9,X10,X7,Bw⟩
     ·
      go_wp2_with fail
      go_meet
      case rel =>
      rw [h]
      exact ⟨X9.set_,(X10.far (by first | omega | (simp;done) | (simp;omega)) _).far (by first | omega | (simp;done) | (simp;omega)) _,(X7.far (by first | omega | (simp;done) | (simp;omega)) _).far (by first | omega | (simp;done) | (simp;omega)) _,bS (bS Bw (by first | omega | (simp;done) | (simp;omega)) _) (by first | omega | (simp;done) | (simp;omega)) _⟩
    case rest =>
     clear Bw X9 X10 X6 X7
     obtain ⟨X9,X10,X7,Bw⟩:=hcut
     obtain ⟨f1,hf1⟩:∃ f1,f1=(if bef a1 c1 then c1 else a1):=⟨_,rfl⟩
     rw [← hf1] at X9
     have Hf:=Lib.hid hf1;clear hf1
     obtain ⟨x10l,x100,x101,-,-⟩:=X10.facts
     obtain ⟨x7l,x70,x71,-,-⟩:=X7.facts
     go_wp2_with fail
     refine (HT.out d1 b1 _).mono ?_
     rintro e w4 ⟨rfl,hb4⟩
     replace Bw:Below w.heap.size w w4:=bT Bw hb4
     replace X9:=X9.keep hb4
     replace X10:=X10.keep hb4
     replace X7:=X7.keep hb4
     clear hb4 x10l x100 x101 x7l x70 x71
     go_upto_if 29 with fail
     go_cut [] (fun wx=>Boxed wx g9 f1∧Boxed wx g10 (if bef d1 b1 then d1 else b1)∧Below w.heap.size w wx)
     case first =>
      obtain ⟨x10l,x100,x101,x10f,x10g⟩:=X10.facts
      obtain ⟨x7l,x70,x71,x7f,x7g⟩:=X7.facts
      cases h:bef d1 b1
      ·
       go_wp2_with fail
       go_meet
       case rel =>
       rw [h]
       exact ⟨X9,X10,Bw⟩
      ·
       go_wp2_with fail
       go_meet
       case rel =>
       rw [h]
       exact ⟨(X9.far (by first | omega | (simp;done) | (simp;omega)) _).far (by first | omega | (simp;done) | (simp;omega)) _,X10.set_,bS (bS Bw (by first | omega | (simp;done) | (simp;omega)) _) (by first | omega | (simp;done) | (simp;omega)) _⟩
     case rest =>
      clear Bw X9 X10 X7
      obtain ⟨X9,X10,Bw⟩:=hcut
      obtain ⟨l1,hl1⟩:∃ l1,l1=(if bef d1 b1 then d1 else b1):=⟨_,rfl⟩
      rw [← hl1] at X10
      have Hl:=Lib.hid hl1;clear hl1
      have HS:sharedS a b c d=if f1=l1 then 1 else if bef f1 l1 then 2 else 0:=by
       rw [Hf.out,Hl.out,Ha.out,Hb.out,Hc.out,Hd.out]
       rfl
      replace HS:=Lib.hid HS
      obtain ⟨x10l,x100,x101,-,-⟩:=X10.facts
      obtain ⟨x9l,x90,x91,-,-⟩:=X9.facts
      have hE:=run_eql_pt f1 l1
      go_wp2_with fail
      ·
       go_ret
       refine ⟨ret_int ?_,Bw⟩
       rw [HS.out,if_pos (by assumption)]
      ·
       refine (HT.out f1 l1 _).mono ?_
       rintro e w5 ⟨rfl,hb5⟩
       have hfl:¬ f1=l1:=by assumption
       cases h:bef f1 l1
       ·
        go_wp2_with fail
        go_ret
        refine ⟨ret_int ?_,bT Bw hb5⟩
        rw [HS.out,if_neg hfl,h]
        rfl
       ·
        go_wp2_with fail
        go_ret
        refine ⟨ret_int ?_,bT Bw hb5⟩
        rw [HS.out,if_neg hfl,h]
        rfl
end Go.Proofs.YtnhdmghgjngcaaaGreat
namespace Go.Proofs.YtnhdmghgjngcaaaGreat
open Go.RowKit

def meetS (a b c d:Pt):Int :=
 if nears [a,b,c,d]=true then
  if a=b then (if onS c d a then 1 else 0)
  else if c=d then (if onS a b c then 1 else 0)
  else if sideS a b c=0∧sideS a b d=0 then sharedS a b c d
  else if sideS a b c*sideS a b d≤0∧sideS c d a*sideS c d b≤0 then 1 else 0
 else 0

theorem side3 (a b c:Pt):-1≤sideS a b c∧sideS a b c≤1:=by
 unfold sideS
 split
 · omega
 · split<;>omega

set_option maxRecDepth 100000 in
set_option maxHeartbeats 4000000 in
theorem Meet_spec (a b c d:Pt) (w:World) :
  Calls Tryz.prog 133 #[ptV a,ptV b,ptV c,ptV d] w fun e w'=>e=.returned (.int .i64 (meetS a b c d))∧Below w.heap.size w w':=by
 have TS:∀ p q r:Pt,∀ W,Calls Tryz.prog 70 #[ptV p,ptV q,ptV r] W _:=fun p q r W=>Side_spec p q r W
 have TO:∀ p q r:Pt,∀ W,Calls Tryz.prog 72 #[ptV p,ptV q,ptV r] W _:=fun p q r W=>On_spec p q r W
 have TH:∀ p q r s:Pt,∀ W,Calls Tryz.prog 153 #[ptV p,ptV q,ptV r,ptV s] W _:=fun p q r s W=>shared_spec p q r s W
 unfold ptV at TS TO TH ⊢
 have HS:=Lib.hid TS;clear TS
 have HO:=Lib.hid TO;clear TO
 have HH:=Lib.hid TH;clear TH
 by_cases hn:nears [a,b,c,d]=true
 case neg =>
  have hn':nears [a,b,c,d]=false:=by simpa using hn
  have hm:meetS a b c d=0:=by simp [meetS,hn']
  have Hm:=Lib.hid hm
  clear hn hm
  go_enter Tryz.func133,Tryz.ntmps133
  go_wp2_with fail
  refine (near_spec _ [a,b,c,d] _ (Pts.lit4 (Blk.made (by simp) _ _))).mono ?_
  rintro e w1 ⟨rfl,hb1⟩
  go_wp2_with fail
  go_ret
  refine ⟨ret_int Hm.out.symm,?_⟩
  repeat (first | with_reducible exact bR _ | with_reducible assumption | with_reducible refine bA ?_ _ | with_reducible refine bD ?_ | with_reducible refine bN ?_ _ | ((with_reducible refine bS ?_ ?_ _);rotate_left;(simp;try omega)) | ((with_reducible refine bT ?_ ?_);rotate_left;with_reducible assumption) | with_reducible refine bT ?_ (by assumption))
 case pos =>
 have Hn:=Lib.hid hn
 go_enter Tryz.func133,Tryz.ntmps133
 go_wp2_with fail
 refine (near_spec _ [a,b,c,d] _ (Pts.lit4 (Blk.made (by simp) _ _))).mono ?_
 rintro e w1 ⟨rfl,hb1⟩
 have Bw:Below w.heap.size w w1:=by
  repeat (first | with_reducible exact bR _ | with_reducible assumption | with_reducible refine bA ?_ _ | with_reducible refine bD ?_ | with_reducible refine bN ?_ _ | ((with_reducible refine bS ?_ ?_ _);rotate_left;(simp;try omega)) | ((with_reducible refine bT ?_ ?_);rotate_left;with_reducible assumption) | with_reducible refine bT ?_ (by assumption))
 have X4:Boxed w1 w.heap.size a:=(((((Boxed.new _ a rfl).alloc _).alloc _).alloc _).alloc _).keep hb1
 have X5:Boxed w1 (w.heap.size+1) b:=((((Boxed.new _ b (by simp)).alloc _).alloc _).alloc _).keep hb1
 have X6:Boxed w1 (w.heap.size+1+1) c:=(((Boxed.new _ c (by simp)).alloc _).alloc _).keep hb1
 have X7:Boxed w1 (w.heap.size+1+1+1) d:=((Boxed.new _ d (by simp)).alloc _).keep hb1
 clear hb1
 obtain ⟨x4l,x40,x41,-,-⟩:=X4.facts
 obtain ⟨x5l,x50,x51,-,-⟩:=X5.facts
 obtain ⟨x6l,x60,x61,-,-⟩:=X6.facts
 obtain ⟨x7l,x70,x71,-,-⟩:=X7.facts
 have hE1:=run_eql_pt a b
 have hE2:=run_eql_pt c d
 have hs1:=side3 a b c
 have hs2:=side3 a b d
 have hs3:=side3 c d a
 have hs4:=side3 c d b
 by_cases hab:a=b
 ·
  have hm:meetS a b c d=if onS c d a then 1 else 0:=by rw [meetS,if_pos Hn.out,if_pos hab]
  have Hm:=Lib.hid hm;clear hm
  have hab':decide (a=b)=true:=by simpa using hab
  have Hab:=Lib.hid hab
  clear hab
  go_wp2_with fail
  refine (HO.out c d a _).mono ?_
  rintro e w2 ⟨rfl,hb2⟩
  cases h:onS c d a
  ·
   rw [h] at Hm
   go_wp2_with fail
   go_ret
   refine ⟨ret_int Hm.out.symm,?_⟩
   repeat (first | with_reducible exact bR _ | with_reducible assumption | with_reducible refine bA ?_ _ | with_reducible refine bD ?_ | with_reducible refine bN ?_ _ | ((with_reducible refine bS ?_ ?_ _);rotate_left;(simp;try omega)) | ((with_reducible refine bT ?_ ?_);rotate_left;with_reducible assumption) | with_reducible refine bT ?_ (by assumption))
  ·
   rw [h] at Hm
   go_wp2_with fail
   go_ret
   refine ⟨ret_int Hm.out.symm,?_⟩
   repeat (first | with_reducible exact bR _ | with_reducible assumption | with_reducible refine bA ?_ _ | with_reducible refine bD ?_ | with_reducible refine bN ?_ _ | ((with_reducible refine bS ?_ ?_ _);rotate_left;(simp;try omega)) | ((with_reducible refine bT ?_ ?_);rotate_left;with_reducible assumption) | with_reducible refine bT ?_ (by assumption))
 by_cases hcd:c=d
 ·
  have hm:meetS a b c d=if onS a b c then 1 else 0:=by rw [meetS,if_pos Hn.out,if_neg hab,if_pos hcd]
  have Hm:=Lib.hid hm;clear hm
  have hab':decide (a=b)=false:=by simpa using hab
  have hcd':decide (c=d)=true:=by simpa using hcd
  have Hcd:=Lib.hid hcd
  clear hab hcd
  go_wp2_with fail
  refine (HO.out a b c _).mono ?_
  rintro e w2 ⟨rfl,hb2⟩
  cases h:onS a b c
  ·
   rw [h] at Hm
   go_wp2_with fail
   go_ret
   refine ⟨ret_int Hm.out.symm,?_⟩
   repeat (first | with_reducible exact bR _ | with_reducible assumption | with_reducible refine bA ?_ _ | with_reducible refine bD ?_ | with_reducible refine bN ?_ _ | ((with_reducible refine bS ?_ ?_ _);rotate_left;(simp;try omega)) | ((with_reducible refine bT ?_ ?_);rotate_left;with_reducible assumption) | with_reducible refine bT ?_ (by assumption))
  ·
   rw [h] at Hm
   go_wp2_with fail
   go_ret
   refine ⟨ret_int Hm.out.symm,?_⟩
   repeat (first | with_reducible exact bR _ | with_reducible assumption | with_reducible refine bA ?_ _ | with_reducible refine bD ?_ | with_reducible refine bN ?_ _ | ((with_reducible refine bS ?_ ?_ _);rotate_left;(simp;try omega)) | ((with_reducible refine bT ?_ ?_);rotate_left;with_reducible assumption) | with_reducible refine bT ?_ (by assumption))
 by_cases hl:sideS a b c=0∧sideS a b d=0
 ·
  have hm:meetS a b c d=sharedS a b c d:=by rw [meetS,if_pos Hn.out,if_neg hab,if_neg hcd,if_pos hl]
  have Hm:=Lib.hid hm;clear hm
  have hab':decide (a=b)=false:=by simpa using hab
  have hcd':decide (c=d)=false:=by simpa using hcd
  obtain ⟨l1,l2⟩:=hl
  have L1:=Lib.hid l1;have L2:=Lib.hid l2
  clear hab hcd l1 l2
  go_wp2_with fail
  refine (HS.out a b c _).mono ?_
  rintro e w2 ⟨rfl,hb2⟩
  rw [L1.out]
  replace Bw:Below w.heap.size w w2:=bT Bw hb2
  replace X4:=X4.keep hb2
  replace X5:=X5.keep hb2
  replace X6:=X6.keep hb2
  replace X7:=X7.keep hb2
  clear hb2 x4l x40 x41 x5l x50 x51 x6l x60 x61 x7l x70 x71
  obtain ⟨x4l,x40,x41,-,-⟩:=X4.facts
  obtain ⟨x5l,x50,x51,-,-⟩:=X5.facts
  obtain ⟨x7l,x70,x71,-,-⟩:=X7.facts
  go_wp2_with fail
  refine (HS.out a b d _).mono ?_
  rintro e w3 ⟨rfl,hb3⟩
  rw [L2.out]
  replace Bw:Below w.heap.size w w3:=bT Bw hb3
  replace X4:=X4.keep hb3
  replace X5:=X5.keep hb3
  replace X6:=X6.keep hb3
  replace X7:=X7.keep hb3
  clear hb3 x4l x40 x41 x5l x50 x51 x7l x70 x71
  obtain ⟨x4l,x40,x41,-,-⟩:=X4.facts
  obtain ⟨x5l,x50,x51,-,-⟩:=X5.facts
  obtain ⟨x6l,x60,x61,-,-⟩:=X6.facts
  obtain ⟨x7l,x70,x71,-,-⟩:=X7.facts
  go_wp2_with fail
  refine (HH.out a b c d _).mono ?_
  rintro e w4 ⟨rfl,hb4⟩
  go_wp2_with fail
  go_ret
  refine ⟨ret_int Hm.out.symm,?_⟩
  repeat (first | with_reducible exact bR _ | with_reducible assumption | with_reducible refine bA ?_ _ | with_reducible refine bD ?_ | with_reducible refine bN ?_ _ | ((with_reducible refine bS ?_ ?_ _);rotate_left;(simp;try omega)) | ((with_reducible refine bT ?_ ?_);rotate_left;with_reducible assumption) | with_reducible refine bT ?_ (by assumption))
 have hm:meetS a b c d=if sideS a b c*sideS a b d≤0∧sideS c d a*sideS c d b≤0 then 1 else 0:=by rw [meetS,if_pos Hn.out,if_neg hab,if_neg hcd,if_neg hl]
 have Hm:=Lib.hid hm;clear hm
 have hab':decide (a=b)=false:=by simpa using hab
 have hcd':decide (c=d)=false:=by simpa using hcd
 have Hl:=Lib.hid hl
 clear hab hcd hl
 go_upto_region 9 with fail
 go_cut [55] (fun s55 wx=>s55=.bool false∧Boxed wx w.heap.size a∧Boxed wx (w.heap.size+1) b∧Boxed wx (w.heap.size+1+1) c∧Boxed wx (w.heap.size+1+1+1) d∧Below w.heap.size w wx)
 case first =>
  go_wp2_with fail
  refine (HS.out a b c _).mono ?_
  rintro e w2 ⟨rfl,hb2⟩
  replace Bw:Below w.heap.size w w2:=bT Bw hb2
  replace X4:=X4.keep hb2
  replace X5:=X5.keep hb2
  replace X6:=X6.keep hb2
  replace X7:=X7.keep hb2
  clear hb2 x4l x40 x41 x5l x50 x51 x6l x60 x61 x7l x70 x71
  by_cases hz:sideS a b c=0
  ·
   have hz2:¬ sideS a b d=0:=fun h=>Hl.out ⟨hz,h⟩
   have hz2':(sideS a b d == 0)=false:=by simpa using hz2
   have Hz2:=Lib.hid hz2;clear hz2
   rw [hz]
   clear hz
   obtain ⟨x4l,x40,x41,-,-⟩:=X4.facts
   obtain ⟨x5l,x50,x51,-,-⟩:=X5.facts
   obtain ⟨x7l,x70,x71,-,-⟩:=X7.facts
   go_wp2_with fail
   refine (HS.out a b d _).mono ?_
   rintro e w3 ⟨rfl,hb3⟩
   replace Bw:Below w.heap.size w w3:=bT Bw hb3
   replace X4:=X4.keep hb3
   replace X5:=X5.keep hb3
   replace X6:=X6.keep hb3
   replace X7:=X7.keep hb3
   clear hb3 x4l x40 x41 x5l x50 x51 x7l x70 x71
   go_wp2_with fail
   go_meet
   case rel => exact ⟨rfl,X4,X5,X6,X7,Bw⟩
  ·
   have hz':(sideS a b c == 0)=false:=by simpa using hz
   have Hz:=Lib.hid hz;clear hz
   go_wp2_with fail
   go_meet
   case rel => exact ⟨rfl,X4,X5,X6,X7,Bw⟩
 case rest =>
  clear X4 X5 X6 X7 Bw x4l x40 x41 x5l x50 x51 x6l x60 x61 x7l x70 x71 Hl
  obtain ⟨rfl,X4,X5,X6,X7,Bw⟩:=hcut
  obtain ⟨x4l,x40,x41,-,-⟩:=X4.facts
  obtain ⟨x5l,x50,x51,-,-⟩:=X5.facts
  obtain ⟨x6l,x60,x61,-,-⟩:=X6.facts
  obtain ⟨x7l,x70,x71,-,-⟩:=X7.facts
  go_upto_region 4 with fail
  obtain ⟨p1,p2⟩:=mul_bd (sideS a b c) (sideS a b d) 1 (by omega) (by omega) (by omega) (by omega)
  obtain ⟨p3,p4⟩:=mul_bd (sideS c d a) (sideS c d b) 1 (by omega) (by omega) (by omega) (by omega)
  simp only [Int.reduceMul,Int.reduceNeg] at p1 p2 p3 p4
  have hw1:IntKind.i64.wrap (sideS a b c*sideS a b d)=sideS a b c*sideS a b d:=IntWalk.i64_in _ (by omega)
  have hw2:IntKind.i64.wrap (sideS c d a*sideS c d b)=sideS c d a*sideS c d b:=IntWalk.i64_in _ (by omega)
  by_cases hg:sideS a b c*sideS a b d≤0
  ·
   have hg':decide (sideS a b c*sideS a b d≤0)=true:=by simpa using hg
   clear hs1 hs2 hs3 hs4
   go_region_held3 (fun W=>W.cell? ⟨w.heap.size,0,none⟩=some (.int .i64 a.x)∧W.cell? ⟨w.heap.size,1,none⟩=some (.int .i64 a.y)∧W.cell? ⟨w.heap.size+1,0,none⟩=some (.int .i64 b.x)∧W.cell? ⟨w.heap.size+1,1,none⟩=some (.int .i64 b.y)∧W.cell? ⟨w.heap.size+1+1,0,none⟩=some (.int .i64 c.x)∧W.cell? ⟨w.heap.size+1+1,1,none⟩=some (.int .i64 c.y)∧W.cell? ⟨w.heap.size+1+1+1,0,none⟩=some (.int .i64 d.x)∧W.cell? ⟨w.heap.size+1+1+1,1,none⟩=some (.int .i64 d.y)) ((repeat' apply And.intro)<;>(repeat (refine keepc (by assumption) ?_))<;>(first | assumption | simp [*]))
     (first | (go_at_call 70;refine (HS.out _ _ _ _).mono ?_;rintro e w' ⟨rfl,hb'⟩))
   by_cases hg2:sideS c d a*sideS c d b≤0
   ·
    have hq:meetS a b c d=1:=by rw [Hm.out,if_pos ⟨hg,hg2⟩]
    have Hq:=Lib.hid hq;clear hq Hm
    go_wp2_with fail
    go_ret
    refine ⟨ret_int Hq.out.symm,?_⟩
    repeat (first | with_reducible exact bR _ | with_reducible assumption | with_reducible refine bA ?_ _ | with_reducible refine bD ?_ | with_reducible refine bN ?_ _ | ((with_reducible refine bS ?_ ?_ _);rotate_left;(simp;try omega)) | ((with_reducible refine bT ?_ ?_);rotate_left;with_reducible assumption) | with_reducible refine bT ?_ (by assumption))
   ·
    have hq:meetS a b c d=0:=by rw [Hm.out,if_neg (fun h=>hg2 h.2)]
    have Hq:=Lib.hid hq;clear hq Hm
    go_wp2_with fail
    go_ret
    refine ⟨ret_int Hq.out.symm,?_⟩
    repeat (first | with_reducible exact bR _ | with_reducible assumption | with_reducible refine bA ?_ _ | with_reducible refine bD ?_ | with_reducible refine bN ?_ _ | ((with_reducible refine bS ?_ ?_ _);rotate_left;(simp;try omega)) | ((with_reducible refine bT ?_ ?_);rotate_left;with_reducible assumption) | with_reducible refine bT ?_ (by assumption))
  ·
   have hg':decide (sideS a b c*sideS a b d≤0)=false:=by simpa using hg
   have hq:meetS a b c d=0:=by rw [Hm.out,if_neg (fun h=>hg h.1)]
   have Hq:=Lib.hid hq;clear hq Hm
   clear hs1 hs2 hs3 hs4
   refine rg_start (Since wc) (.run 3 0 0 (.run 3 4 7 (.call 3 127 (.call 7 255 (.run 15 8 255 (.done)))))) (by kernel_rfl) (bD (bR _)) (by kernel_rfl) (by kernel_rfl) (Nat.le_of_ble_eq_true (by kernel_rfl)) ?_
   intro opsR QR Hops HQrg hS
   iterate 6
    apply rg_p;exact Hops;exact rfl;exact hS;exact rfl
    · intro _ hqc;go_simp;try rfl
    try simp only [pu]
   refine rg_call (i:=3) (get_of Hops rfl) (fun K hK=>?_)
   have HSrg:=Lib.hid hS;clear hS
   refine rg_run (wanted_plain rfl) ?_
   go_simp
   refine (HS.out a b c _).mono ?_
   rintro e wr1 ⟨rfl,hbr1⟩
   have hS:Since wc wr1:=bT (w:=wc) HSrg.out hbr1
   clear HSrg
   refine hK.out _ _ hS (fun _=>?_)
   clear hK K
   try simp only [pu]
   refine rg_call (i:=7) (get_of Hops rfl) (fun K hK=>?_)
   have HSrg:=Lib.hid hS;clear hS
   refine rg_run (wanted_plain rfl) ?_
   go_simp
   refine (HS.out a b d _).mono ?_
   rintro e wr2 ⟨rfl,hbr2⟩
   have hS:Since wc wr2:=bT (w:=wc) HSrg.out hbr2
   clear HSrg
   refine hK.out _ _ hS (fun _=>?_)
   clear hK K
   try simp only [pu]
   iterate 3
    apply rg_p;exact Hops;exact rfl;exact hS;exact rfl
    · intro _ hqc;go_simp;try rfl
    try simp only [pu]
   iterate 10
    refine rg_yn Hops rfl hS rfl rfl rfl rfl rfl ?_
    try simp only [pu]
   iterate 2
    apply rg_p;exact Hops;exact rfl;exact hS;exact rfl
    · intro _ hqc;go_simp;try rfl
    try simp only [pu]
   refine rg_done ?_
   refine HQrg.down _ _ ?_
   have hB:Below wc.heap.size wc wr2:=hS
   clear hS HQrg Hops
   go_wp2_with fail
   go_ret
   refine ⟨ret_int Hq.out.symm,?_⟩
   repeat (first | with_reducible exact bR _ | with_reducible assumption | with_reducible refine bA ?_ _ | with_reducible refine bD ?_ | with_reducible refine bN ?_ _ | ((with_reducible refine bS ?_ ?_ _);rotate_left;(simp;try omega)) | ((with_reducible refine bT ?_ ?_);rotate_left;with_reducible assumption) | with_reducible refine bT ?_ (by assumption))
end Go.Proofs.YtnhdmghgjngcaaaGreat
namespace Go.Proofs.YtnhdmghgjngcaaaGreat
open Go.RowKit

def crossS (a b c d:Pt):Int:=(b.x-a.x)*(d.y-c.y)-(b.y-a.y)*(d.x-c.x)
def dotS (a b c d:Pt):Int:=(b.x-a.x)*(d.x-c.x)+(b.y-a.y)*(d.y-c.y)

def ronS (a b p:Pt):Bool:=nears [a,b,p] && decide (crossS a b a p=0) && decide (dotS a p b p≤0)

end Go.Proofs.YtnhdmghgjngcaaaGreat
namespace Go.Proofs.YtnhdmghgjngcaaaGreat
open Go.RowKit

def rmeetN (a b c d:Pt):Int :=
 if a=b∧c=d∧¬ a=c then 0
 else if crossS a b c d=0 then
  if crossS a b a c=0∧crossS a b a d=0∧crossS c d c a=0∧crossS c d c b=0 then sharedS a b c d else 0
 else if crossS a b c d<0 then
  if 0≤-crossS a c c d∧-crossS a c c d≤-crossS a b c d∧0≤-crossS a c a b∧-crossS a c a b≤-crossS a b c d then 1 else 0
 else if 0≤crossS a c c d∧crossS a c c d≤crossS a b c d∧0≤crossS a c a b∧crossS a c a b≤crossS a b c d then 1 else 0
def rmeetS (a b c d:Pt):Int:=if nears [a,b,c,d]=true then rmeetN a b c d else 0

end Go.Proofs.YtnhdmghgjngcaaaGreat
