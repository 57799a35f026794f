import Derived.Test.YtnhdmghgjngcaaaGreatJ16
import Derived.Test.YtnhdmghgjngcaaaGreatJ13
import Derived.Test.YtnhdmghgjngcaaaGreatJ15
import Derived.Test.YtnhdmghgjngcaaaGreatJ05
import Derived.Test.YtnhdmghgjngcaaaGreatSortB
import Derived.Test.YtnhdmghgjngcaaaGreatJ32
import Derived.Test.YtnhdmghgjngcaaaGreatGB
import Derived.Test.YtnhdmghgjngcaaaGreatJ22
import Derived.Test.YtnhdmghgjngcaaaGreatJ14
import Derived.Test.YtnhdmghgjngcaaaGreatJ08
import Derived.Test.YtnhdmghgjngcaaaGreatJ37
import Derived.Test.YtnhdmghgjngcaaaGreatJ23
import Derived.Test.YtnhdmghgjngcaaaGreatGE
import Derived.Test.YtnhdmghgjngcaaaGreatJ09
import Derived.Test.YtnhdmghgjngcaaaGreatJ24
import Derived.Test.YtnhdmghgjngcaaaGreatJ25
import Derived.Test.YtnhdmghgjngcaaaGreatJ26
import Derived.Test.YtnhdmghgjngcaaaGreatJ28
import Derived.Test.YtnhdmghgjngcaaaGreatJ04
import Derived.Test.YtnhdmghgjngcaaaGreatJ17
import Derived.Test.YtnhdmghgjngcaaaGreatJ01
import Derived.Test.YtnhdmghgjngcaaaGreatJ29
import Derived.Test.YtnhdmghgjngcaaaGreatJ27
set_option linter.unusedSimpArgs false
set_option linter.unusedVariables false
namespace Go.Proofs.YtnhdmghgjngcaaaGreat
open Go.RowKit
set_option linter.unusedSectionVars false

section
variable (p:Pl)
end
def SameG (p q:Pl):Prop:=bareP p=bareP q
section
variable {p q:Pl} (h:SameG p q)
include h
end
end Go.Proofs.YtnhdmghgjngcaaaGreat
namespace Go.Proofs.YtnhdmghgjngcaaaGreat
open Go.RowKit
set_option linter.unusedSectionVars false

def revG (e:Int) (a:Ar):Ar:=if a.id=e then revA a else a
structure Twin (p q:Pl) (e:Int):Prop where
 vp:Valid p
 vq:Valid q
 nodes:p.nodes=q.nodes
 arcs:q.arcs=p.arcs.map (revG e)
 faces:p.faces=q.faces
 pos:1≤e
section
variable {p q:Pl} {e:Int} (h:Twin p q e)
include h
end
section
variable {p q:Pl} {e:Int} (h:Twin p q e)
include h
end
end Go.Proofs.YtnhdmghgjngcaaaGreat
namespace Go.Proofs.YtnhdmghgjngcaaaGreat
open Go.RowKit

def mvPt (by_:Pt) (t:Bool) (q:Pt):Pt:=if t then ⟨-q.y+by_.x,q.x+by_.y⟩ else ⟨q.x+by_.x,q.y+by_.y⟩
def mvNd (by_:Pt) (t:Bool) (n:Nd):Nd:=⟨n.id,mvPt by_ t n.pt⟩
def mvAr (by_:Pt) (t:Bool) (a:Ar):Ar:=⟨a.id,a.fr,a.dst,a.via.map (mvPt by_ t),a.left,a.right⟩
def mvPl (by_:Pt) (t:Bool) (p:Pl):Pl:=⟨p.nodes.map (mvNd by_ t),p.arcs.map (mvAr by_ t),p.faces⟩

section
variable (d:Pt) (t:Bool)
theorem mv_inj {a b:Pt} (h:mvPt d t a=mvPt d t b):a=b:=by
 unfold mvPt at h
 cases t<;>simp only [Bool.false_eq_true,if_false,if_true,Pt.mk.injEq] at h<;>exact Pt.ext_iff'.2 (by omega)
theorem mv_cross (a b c e:Pt):crossS (mvPt d t a) (mvPt d t b) (mvPt d t c) (mvPt d t e)=crossS a b c e:=by
 unfold crossS mvPt
 cases t<;>simp only [Bool.false_eq_true,if_false,if_true]<;>grind
theorem mv_dot (a b c e:Pt):dotS (mvPt d t a) (mvPt d t b) (mvPt d t c) (mvPt d t e)=dotS a b c e:=by
 unfold dotS mvPt
 cases t<;>simp only [Bool.false_eq_true,if_false,if_true]<;>grind

theorem mv_bef {a b:Pt} (hab:a≠b):(∀ x y:Pt,crossS a b x y=0→bef (mvPt d t x) (mvPt d t y)=bef x y)∨(∀ x y:Pt,crossS a b x y=0→bef (mvPt d t x) (mvPt d t y)=bef y x):=by
 cases t
 ·
  left
  intro x y _
  rw [Bool.eq_iff_iff,bef_iff,bef_iff]
  unfold mvPt
  simp only [Bool.false_eq_true,if_false]
  omega
 ·
  have hu:¬ (b.x-a.x=0∧b.y-a.y=0):=Pt.sub_ne hab
  have key:∀ x y:Pt,crossS a b x y=0→(b.x-a.x)*(y.y-x.y)=(b.y-a.y)*(y.x-x.x):=fun x y h=>by unfold crossS at h;omega
  have hbef:∀ x y:Pt,(bef (mvPt d true x) (mvPt d true y)=true↔y.y-x.y<0∨(y.y-x.y=0∧0<y.x-x.x)):=fun x y=>by
   rw [bef_iff];unfold mvPt;simp only [if_true];omega
  have hbef2:∀ x y:Pt,(bef x y=true↔0<y.x-x.x∨(y.x-x.x=0∧0<y.y-x.y)):=fun x y=>by rw [bef_iff];omega
  generalize b.x-a.x=ux at *
  generalize b.y-a.y=uy at *
  by_cases hs:(0<ux∧uy≤0)∨(ux<0∧0≤uy)
  ·
   left
   intro x y h
   have hk:=key x y h
   rw [Bool.eq_iff_iff,hbef,hbef2]
   generalize y.x-x.x=p at *
   generalize y.y-x.y=q at *
   rcases hs with ⟨h1,h2⟩ | ⟨h1,h2⟩
   ·
    constructor
    ·
     rintro (h3 | ⟨h3,h4⟩)
     ·
      left
      have:ux*q<0:=Int.mul_neg_of_pos_of_neg h1 h3
      rcases (show 0<p∨p≤0 by omega) with h5 | h5
      · exact h5
      · have:=Int.mul_nonneg_of_nonpos_of_nonpos h2 h5;omega
     · left;exact h4
    ·
     rintro (h3 | ⟨h3,h4⟩)
     ·
      have h5:uy*p≤0:=Int.mul_nonpos_of_nonpos_of_nonneg h2 (by omega)
      rcases Int.lt_trichotomy q 0 with h6 | h6 | h6
      · left;exact h6
      · right;exact ⟨h6,h3⟩
      · have:=Int.mul_pos h1 h6;omega
     ·
      subst h3
      have:=Int.mul_pos h1 h4
      simp at hk
      omega
   ·
    constructor
    ·
     rintro (h3 | ⟨h3,h4⟩)
     ·
      left
      have:0<ux*q:=Int.mul_pos_of_neg_of_neg h1 h3
      rcases (show 0<p∨p≤0 by omega) with h5 | h5
      · exact h5
      · have:=Int.mul_nonpos_of_nonneg_of_nonpos h2 h5;omega
     · left;exact h4
    ·
     rintro (h3 | ⟨h3,h4⟩)
     ·
      have h5:0≤uy*p:=Int.mul_nonneg h2 (by omega)
      rcases Int.lt_trichotomy q 0 with h6 | h6 | h6
      · left;exact h6
      · right;exact ⟨h6,h3⟩
      · have:=Int.mul_neg_of_neg_of_pos h1 h6;omega
     ·
      subst h3
      have:=Int.mul_neg_of_neg_of_pos h1 h4
      simp at hk
      omega
  ·
   right
   intro x y h
   have hk:=key x y h
   rw [Bool.eq_iff_iff,hbef,hbef2]
   have hs':(0≤ux∧0<uy)∨(ux≤0∧uy<0):=by omega
   have hy1:x.x-y.x=-(y.x-x.x):=by omega
   have hy2:x.y-y.y=-(y.y-x.y):=by omega
   rw [hy1,hy2]
   generalize y.x-x.x=p at *
   generalize y.y-x.y=q at *
   rcases hs' with ⟨h1,h2⟩ | ⟨h1,h2⟩
   ·
    constructor
    ·
     rintro (h3 | ⟨h3,h4⟩)
     ·
      have:ux*q≤0:=Int.mul_nonpos_of_nonneg_of_nonpos h1 (by omega)
      rcases Int.lt_trichotomy p 0 with h6 | h6 | h6
      · left;omega
      · right;exact ⟨by omega,by omega⟩
      · have:=Int.mul_pos h2 h6;omega
     ·
      subst h3
      have:=Int.mul_pos h2 h4
      simp at hk
      omega
    ·
     rintro (h3 | ⟨h3,h4⟩)
     ·
      left
      have:uy*p<0:=Int.mul_neg_of_pos_of_neg h2 (by omega)
      rcases (show q<0∨0≤q by omega) with h5 | h5
      · exact h5
      · have:=Int.mul_nonneg h1 h5;omega
     · left;omega
   ·
    constructor
    ·
     rintro (h3 | ⟨h3,h4⟩)
     ·
      have:0≤ux*q:=Int.mul_nonneg_of_nonpos_of_nonpos h1 (by omega)
      rcases Int.lt_trichotomy p 0 with h6 | h6 | h6
      · left;omega
      · right;exact ⟨by omega,by omega⟩
      · have:=Int.mul_neg_of_neg_of_pos h2 h6;omega
     ·
      subst h3
      have:=Int.mul_neg_of_neg_of_pos h2 h4
      simp at hk
      omega
    ·
     rintro (h3 | ⟨h3,h4⟩)
     ·
      left
      have:0<uy*p:=Int.mul_pos_of_neg_of_neg h2 (by omega)
      rcases (show q<0∨0≤q by omega) with h5 | h5
      · exact h5
      · have:=Int.mul_nonpos_of_nonpos_of_nonneg h1 h5;omega
     · left;omega

theorem lo_same {f:Pt→Pt} {x y:Pt} (h:bef (f y) (f x)=bef y x):lo (f x) (f y)=f (lo x y):=by
 unfold lo;rw [h];split<;>rfl
theorem hi_same {f:Pt→Pt} {x y:Pt} (h:bef (f y) (f x)=bef y x):hi (f x) (f y)=f (hi x y):=by
 unfold hi;rw [h];split<;>rfl
theorem lo_turn {f:Pt→Pt} {x y:Pt} (h:bef (f y) (f x)=bef x y):lo (f x) (f y)=f (hi x y):=by
 unfold lo hi
 rw [h]
 cases h1:bef x y
 ·
  cases h2:bef y x
  · rw [bef_tri h1 h2];simp
  · simp
 · rw [bef_asym h1];simp
theorem hi_turn {f:Pt→Pt} {x y:Pt} (h:bef (f y) (f x)=bef x y):hi (f x) (f y)=f (lo x y):=by
 unfold lo hi
 rw [h]
 cases h1:bef x y
 ·
  cases h2:bef y x
  · rw [bef_tri h1 h2];simp
  · simp
 · rw [bef_asym h1];simp

theorem mv_shared {a b c e:Pt} (hab:a≠b) (h1:crossS a b a c=0) (h2:crossS a b a e=0):sharedS (mvPt d t a) (mvPt d t b) (mvPt d t c) (mvPt d t e)=sharedS a b c e:=by
 have line:∀ x y:Pt,crossS a b a x=0→crossS a b a y=0→crossS a b x y=0:=fun x y hx hy=>by
  have:crossS a b x y=crossS a b a y-crossS a b a x:=by unfold crossS;grind
  omega
 have ha:crossS a b a a=0:=by unfold crossS;grind
 have hb:crossS a b a b=0:=by unfold crossS;grind
 have pick:∀ (q:Pt→Prop) (x y:Pt),q x→q y→q (lo x y)∧q (hi x y):=fun q x y hx hy=>by
  rcases lo_hi x y with ⟨e1,e2,-⟩ | ⟨e1,e2,-⟩<;>rw [e1,e2]
  · exact ⟨hx,hy⟩
  · exact ⟨hy,hx⟩
 obtain ⟨l1,l2⟩:=pick (fun x=>crossS a b a x=0) a b ha hb
 obtain ⟨l3,l4⟩:=pick (fun x=>crossS a b a x=0) c e h1 h2
 obtain ⟨m1,m2⟩:=pick (fun x=>crossS a b a x=0) (lo a b) (lo c e) l1 l3
 obtain ⟨m3,m4⟩:=pick (fun x=>crossS a b a x=0) (hi a b) (hi c e) l2 l4
 have inj:∀ x y:Pt,mvPt d t x=mvPt d t y↔x=y:=fun x y=>⟨mv_inj d t,fun h=>by rw [h]⟩
 rw [sharedS_def,sharedS_def]
 rcases mv_bef d t hab with hs | hs
 ·
  rw [lo_same (hs _ _ (line _ _ hb ha)),lo_same (hs _ _ (line _ _ h2 h1)),hi_same (hs _ _ (line _ _ hb ha)),hi_same (hs _ _ (line _ _ h2 h1)),hi_same (hs _ _ (line _ _ l3 l1)),lo_same (hs _ _ (line _ _ l4 l2)),hs _ _ (line _ _ m2 m3)]
  simp only [inj]
 ·
  rw [lo_turn (hs _ _ (line _ _ hb ha)),lo_turn (hs _ _ (line _ _ h2 h1)),hi_turn (hs _ _ (line _ _ hb ha)),hi_turn (hs _ _ (line _ _ h2 h1)),hi_turn (hs _ _ (line _ _ l4 l2)),lo_turn (hs _ _ (line _ _ l3 l1)),hs _ _ (line _ _ m3 m2)]
  simp only [inj]
  have:lo (hi a b) (hi c e)=hi (lo a b) (lo c e)↔hi (lo a b) (lo c e)=lo (hi a b) (hi c e):=eq_comm
  simp only [this]
theorem mv_meet {a b c e:Pt} (hab:a≠b) (hn:nears [a,b,c,e]=true) (hn':nears [mvPt d t a,mvPt d t b,mvPt d t c,mvPt d t e]=true):rmeetS (mvPt d t a) (mvPt d t b) (mvPt d t c) (mvPt d t e)=rmeetS a b c e:=by
 unfold rmeetS
 rw [if_pos hn,if_pos hn']
 unfold rmeetN
 have hab':mvPt d t a≠mvPt d t b:=fun h=>hab (mv_inj d t h)
 rw [if_neg (show ¬ (mvPt d t a=mvPt d t b∧mvPt d t c=mvPt d t e∧¬ mvPt d t a=mvPt d t c) from fun h=>hab' h.1),if_neg (show ¬ (a=b∧c=e∧¬ a=c) from fun h=>hab h.1)]
 simp only [mv_cross]
 split
 ·
  split
  ·
   rename_i hz
   exact mv_shared d t hab hz.1 hz.2.1
  · rfl
 · rfl
theorem mv_on {a b q:Pt} (hn:nears [a,b,q]=true) (hn':nears [mvPt d t a,mvPt d t b,mvPt d t q]=true):ronS (mvPt d t a) (mvPt d t b) (mvPt d t q)=ronS a b q:=by
 unfold ronS
 rw [hn,hn',mv_cross,mv_dot]
end
end Go.Proofs.YtnhdmghgjngcaaaGreat
namespace Go.Proofs.YtnhdmghgjngcaaaGreat
open Go.RowKit

section
variable (d:Pt) (t:Bool) {p:Pl}
theorem mv_points (p:Pl):pointsS (mvPl d t p)=(pointsS p).map (mvPt d t):=by
 unfold pointsS mvPl
 rw [List.map_append,List.map_map,List.map_map,List.flatMap_map,List.map_flatMap]
 rfl
theorem mv_find (p:Pl) (id:Int):findNd (mvPl d t p).nodes id=(findNd p.nodes id).map (mvNd d t):=by
 unfold findNd mvPl
 rw [List.find?_map]
 rfl
theorem mv_node {p:Pl} {id:Int} (h:(findNd p.nodes id).isSome=true):nodeAt (mvPl d t p) id=mvPt d t (nodeAt p id):=by
 unfold nodeAt
 rw [mv_find]
 obtain ⟨n,hn⟩:=Option.isSome_iff_exists.1 h
 rw [hn]
 rfl
theorem mv_ends (p:Pl) (a:Ar):hasEnds (mvPl d t p) (mvAr d t a)=hasEnds p a:=by
 unfold hasEnds
 rw [mv_find,mv_find,Option.isSome_map,Option.isSome_map]
 rfl
theorem mv_path {p:Pl} {a:Ar} (h:hasEnds p a=true):pathS (mvPl d t p) (mvAr d t a)=(pathS p a).map (mvPt d t):=by
 unfold hasEnds at h
 rw [Bool.and_eq_true] at h
 unfold pathS
 have e1:nodeAt (mvPl d t p) (mvAr d t a).fr=mvPt d t (nodeAt p a.fr):=mv_node d t h.1
 have e2:nodeAt (mvPl d t p) (mvAr d t a).dst=mvPt d t (nodeAt p a.dst):=mv_node d t h.2
 rw [e1,e2]
 simp [mvAr]
theorem getD_map (l:List Pt) (f:Pt→Pt) (k:Nat) (hk:k<l.length):(l.map f).getD k pt0=f (l.getD k pt0):=by
 rw [List.getD_eq_getElem?_getD,List.getD_eq_getElem?_getD,List.getElem?_map,List.getElem?_eq_getElem hk]
 rfl
theorem mv_seg {p:Pl} {a:Ar} (h:hasEnds p a=true) {k:Nat} (hk:k+1<(pathS p a).length):segK (mvPl d t p) (mvAr d t a) k=⟨mvAr d t a,k,(pathS p a).length-1,mvPt d t (segK p a k).a,mvPt d t (segK p a k).b⟩:=by
 unfold segK
 rw [mv_path d t h,List.length_map,getD_map _ _ _ (by omega),getD_map _ _ _ hk]

variable (h:Valid p) (hok:(pointsS (mvPl d t p)).all ptOk=true)
include h hok
theorem mv_near {a:Ar} (ha:a∈p.arcs) {q:Pt} (hq:q∈pathS p a):near1 (mvPt d t q)=true:=by
 rw [mv_points,List.all_map] at hok
 have key:∀ q∈pointsS p,near1 (mvPt d t q)=true:=fun q hq=>ptOk_near (List.all_eq_true.1 hok q hq)
 unfold pathS at hq
 rcases List.mem_cons.1 hq with rfl | hq
 ·
  obtain ⟨n,hn,-,e⟩:=h.sound.at_fr ha
  rw [e];exact key _ (List.mem_append_left _ (List.mem_map_of_mem hn))
 ·
  rcases List.mem_append.1 hq with hq | hq
  · exact key _ (List.mem_append_right _ (List.mem_flatMap.2 ⟨a,ha,hq⟩))
  ·
   rw [List.mem_singleton] at hq
   subst hq
   obtain ⟨n,hn,-,e⟩:=h.sound.at_dst ha
   rw [e];exact key _ (List.mem_append_left _ (List.mem_map_of_mem hn))
omit h in
theorem mv_nnear {n:Nd} (hn:n∈p.nodes):near1 (mvPt d t n.pt)=true:=by
 rw [mv_points,List.all_map] at hok
 exact ptOk_near (List.all_eq_true.1 hok _ (List.mem_append_left _ (List.mem_map_of_mem hn)))
theorem mv_near4 {a b:Ar} (ha:a∈p.arcs) (hb:b∈p.arcs) {k m:Nat} (hk:k+1<(pathS p a).length) (hm:m+1<(pathS p b).length) :
  nears [(segK p a k).a,(segK p a k).b,(segK p b m).a,(segK p b m).b]=true∧nears [mvPt d t (segK p a k).a,mvPt d t (segK p a k).b,mvPt d t (segK p b m).a,mvPt d t (segK p b m).b]=true:=by
 unfold segK
 exact ⟨near4 (h.pt_near ha (by omega)) (h.pt_near ha hk) (h.pt_near hb (by omega)) (h.pt_near hb hm),
  near4 (mv_near d t h hok ha (path_mem p a k (by omega))) (mv_near d t h hok ha (path_mem p a _ hk)) (mv_near d t h hok hb (path_mem p b m (by omega))) (mv_near d t h hok hb (path_mem p b _ hm))⟩
theorem mv_ron {a:Ar} (ha:a∈p.arcs) {k:Nat} (hk:k+1<(pathS p a).length) {n:Nd} (hn:n∈p.nodes):ronS (mvPt d t (segK p a k).a) (mvPt d t (segK p a k).b) (mvPt d t n.pt)=ronS (segK p a k).a (segK p a k).b n.pt:=by
 have h4:=mv_near4 d t h hok ha ha hk hk
 have n1:=h.node_near hn
 have n2:=mv_nnear d t hok hn
 refine mv_on d t ?_ ?_
 · simp [nears] at h4 ⊢;exact ⟨h4.1.1,h4.1.2.1,n1⟩
 · simp [nears] at h4 ⊢;exact ⟨h4.2.1,h4.2.2.1,n2⟩
theorem mv_rmeet {a b:Ar} (ha:a∈p.arcs) (hb:b∈p.arcs) {k m:Nat} (hk:k+1<(pathS p a).length) (hm:m+1<(pathS p b).length) :
  rmeetS (mvPt d t (segK p a k).a) (mvPt d t (segK p a k).b) (mvPt d t (segK p b m).a) (mvPt d t (segK p b m).b)=rmeetS (segK p a k).a (segK p a k).b (segK p b m).a (segK p b m).b:=by
 obtain ⟨n1,n2⟩:=mv_near4 d t h hok ha hb hk hm
 exact mv_meet d t (h.distinct ha hk).1 n1 n2
theorem mv_planar:planarR (mvPl d t p)=true:=by
 obtain ⟨o1,o2,o3⟩:=h.ord_parts
 have hends:=List.all_eq_true.1 h.ends
 have e2:(mvPl d t p).arcs.map (·.id)=p.arcs.map (·.id):=by unfold mvPl;rw [List.map_map];rfl
 have hp:=(planar_iff p o2).1 h.planar
 refine (planar_iff (mvPl d t p) (by rw [e2];exact o2)).2 ⟨fun a' ha'=>?_,?_⟩
 ·
  obtain ⟨a,ha,rfl⟩:=List.mem_map.1 ha'
  have hg:=hp.1 a ha
  constructor
  ·
   intro k hk
   rw [mv_path d t (hends a ha),List.length_map] at hk
   have h1:=hg.1 k hk
   rw [mv_seg d t (hends a ha) hk]
   unfold aloneS at h1 ⊢
   rw [Bool.and_eq_true] at h1 ⊢
   constructor
   ·
    rw [List.all_eq_true] at h1 ⊢
    intro n' hn'
    obtain ⟨n,hn,rfl⟩:=List.mem_map.1 hn'
    have h2:=h1.1 n hn
    unfold offNd at h2 ⊢
    have hr:=mv_ron d t h hok ha hk hn
    show (isEnd _ _ || !ronS (mvPt d t (segK p a k).a) (mvPt d t (segK p a k).b) (mvPt d t n.pt))=true
    rw [hr]
    exact h2
   ·
    have h2:=h1.2
    unfold soundS at h2 ⊢
    rw [Bool.and_eq_true] at h2 ⊢
    refine ⟨?_,h2.2⟩
    have h3:=(h.distinct ha hk).1
    rw [Bool.not_eq_true',decide_eq_false_iff_not]
    exact fun e=>h3 (mv_inj d t e)
  ·
   intro k m hkm hm
   rw [mv_path d t (hends a ha),List.length_map] at hm
   have h1:=hg.2 k m hkm hm
   rw [mv_seg d t (hends a ha) (by omega),mv_seg d t (hends a ha) hm]
   unfold apartS at h1 ⊢
   simp only [mv_rmeet d t h hok ha ha (show k+1<(pathS p a).length by omega) hm]
   exact h1
 ·
  unfold mvPl
  rw [List.pairwise_map]
  refine (List.Pairwise.and_mem.1 hp.2).imp ?_
  rintro a b ⟨ha,hb,hab⟩ k hk m hm
  have ea:pathS ⟨p.nodes.map (mvNd d t),p.arcs.map (mvAr d t),p.faces⟩ (mvAr d t a)=(pathS p a).map (mvPt d t):=mv_path d t (hends a ha)
  have eb:pathS ⟨p.nodes.map (mvNd d t),p.arcs.map (mvAr d t),p.faces⟩ (mvAr d t b)=(pathS p b).map (mvPt d t):=mv_path d t (hends b hb)
  rw [ea,List.length_map] at hk
  rw [eb,List.length_map] at hm
  have h1:=hab k hk m hm
  have sa:segK ⟨p.nodes.map (mvNd d t),p.arcs.map (mvAr d t),p.faces⟩ (mvAr d t a) k=_:=mv_seg d t (hends a ha) hk
  have sb:segK ⟨p.nodes.map (mvNd d t),p.arcs.map (mvAr d t),p.faces⟩ (mvAr d t b) m=_:=mv_seg d t (hends b hb) hm
  rw [sa,sb]
  unfold joinedS at h1 ⊢
  simp only [mv_rmeet d t h hok ha hb hk hm]
  split
  ·
   rename_i hr
   rw [if_pos hr,List.any_eq_true] at h1
   obtain ⟨n,hn,hn'⟩:=h1
   rw [List.any_eq_true]
   refine ⟨mvNd d t n,List.mem_map_of_mem hn,?_⟩
   unfold meetAt at hn' ⊢
   have r1:=mv_ron d t h hok ha hk hn
   have r2:=mv_ron d t h hok hb hm hn
   show (endsS a n.id && endsS b n.id && ronS (mvPt d t (segK p a k).a) (mvPt d t (segK p a k).b) (mvPt d t n.pt) && ronS (mvPt d t (segK p b m).a) (mvPt d t (segK p b m).b) (mvPt d t n.pt))=true
   rw [r1,r2]
   exact hn'
  ·
   rename_i hr
   rw [if_neg hr] at h1
   exact h1
end

theorem mv_check (d:Pt) (t:Bool) (p:Pl) (h:Valid p):checkS (mvPl d t p)=if (pointsS (mvPl d t p)).all ptOk=true then 0 else 2:=by
 obtain ⟨o1,o2,o3⟩:=h.ord_parts
 obtain ⟨r1,r2,r3,r4⟩:=h.rng_parts
 obtain ⟨l1,l2,l3,l4⟩:=h.lim_parts
 have en:(mvPl d t p).nodes.map (·.id)=p.nodes.map (·.id):=by unfold mvPl;rw [List.map_map];rfl
 have ea:(mvPl d t p).arcs.map (·.id)=p.arcs.map (·.id):=by unfold mvPl;rw [List.map_map];rfl
 have e1:limS (mvPl d t p)=false:=by
  unfold limS
  have:(mvPl d t p).arcs.any (fun a=>decide (64<a.via.length))=p.arcs.any fun a=>decide (64<a.via.length):=by
   unfold mvPl
   rw [List.any_map]
   congr 1
   funext a
   simp [mvAr]
  rw [this,l1]
  unfold mvPl
  simp only [List.length_map,Bool.false_or,Bool.or_eq_false_iff,decide_eq_false_iff_not]
  exact ⟨⟨l2,l3⟩,l4⟩
 have e2:orderedS (mvPl d t p)=true:=by
  unfold orderedS
  rw [en,ea,asc_of_pw _ o1,asc_of_pw _ o2]
  exact o3
 by_cases hok:(pointsS (mvPl d t p)).all ptOk=true
 ·
  rw [if_pos hok]
  refine (check_zero _).2 ⟨e1,e2,?_,?_,?_,?_,mv_planar d t h hok⟩
  ·
   unfold rangesS
   rw [List.any_append,List.any_append,en,ea,r1,r2,hok]
   show (!(false || false || p.faces.any idBad) && true)=true
   rw [r3];rfl
  ·
   rw [dup_iff]
   have:=(dup_iff _).1 h.dup
   have e:(mvPl d t p).nodes.map (·.pt)=(p.nodes.map (·.pt)).map (mvPt d t):=by unfold mvPl;rw [List.map_map,List.map_map];rfl
   rw [e,List.pairwise_map]
   exact this.imp fun hne e=>hne (mv_inj d t e)
  ·
   rw [List.all_eq_true]
   intro a' ha'
   obtain ⟨a,ha,rfl⟩:=List.mem_map.1 ha'
   rw [mv_ends]
   exact List.all_eq_true.1 h.ends a ha
  ·
   have:=h.sides
   unfold sidesS at this ⊢
   rw [List.all_eq_true] at this ⊢
   intro a' ha'
   obtain ⟨a,ha,rfl⟩:=List.mem_map.1 ha'
   exact this a ha
 ·
  rw [if_neg hok]
  unfold checkS
  have e3:rangesS (mvPl d t p)=false:=by
   unfold rangesS
   rw [Bool.not_eq_true] at hok
   rw [hok,Bool.and_false]
  rw [e1,e2,e3]
  simp
end Go.Proofs.YtnhdmghgjngcaaaGreat
namespace Go.Proofs.YtnhdmghgjngcaaaGreat
open Go.RowKit
set_option linter.unusedSectionVars false

def qt (q:Pt):Pt:=mvPt ⟨0,0⟩ true q
def qA (a:Ar):Ar:=mvAr ⟨0,0⟩ true a
def qP (p:Pl):Pl:=mvPl ⟨0,0⟩ true p
theorem qt_eq (q:Pt):qt q=⟨-q.y+0,q.x+0⟩:=rfl
theorem qt_inj {a b:Pt} (h:qt a=qt b):a=b:=mv_inj _ _ h
theorem qt_ptOk (q:Pt):ptOk (qt q)=ptOk q:=by
 rw [qt_eq]
 unfold ptOk
 rw [Bool.eq_iff_iff]
 simp only [Bool.and_eq_true,decide_eq_true_eq]
 omega
theorem qt_near (q:Pt):near1 (qt q)=near1 q:=by
 rw [Bool.eq_iff_iff,near1_iff,near1_iff,qt_eq]
 simp only
 omega
theorem qt_tw (a b c:Pt):tw (qt a) (qt b) (qt c)=tw a b c:=by
 rw [qt_eq,qt_eq,qt_eq]
 unfold tw
 simp only
 grind
theorem qt_onS {a b q:Pt} (h:nears [a,b,q]=true):onS (qt a) (qt b) (qt q)=onS a b q:=by
 have h':nears [qt a,qt b,qt q]=true:=by
  rw [nears3_iff,qt_near,qt_near,qt_near]
  exact nears3_iff.1 h
 rw [Bool.eq_iff_iff,onS_iff h,onS_iff h',qt_tw]
 simp only [qt_eq]
 refine and_congr_right fun _=>?_
 omega

theorem mul_sgn (x y:Int):(0<x∧0<y∧0<x*y)∨(0<x∧y<0∧x*y<0)∨(x<0∧0<y∧x*y<0)∨(x<0∧y<0∧0<x*y)∨(x=0∧x*y=0)∨(y=0∧x*y=0):=by
 rcases Int.lt_trichotomy x 0 with a | a | a
 ·
  rcases Int.lt_trichotomy y 0 with b | b | b
  · exact .inr (.inr (.inr (.inl ⟨a,b,Int.mul_pos_of_neg_of_neg a b⟩)))
  · exact .inr (.inr (.inr (.inr (.inr ⟨b,by rw [b,Int.mul_zero]⟩))))
  · exact .inr (.inr (.inl ⟨a,b,Int.mul_neg_of_neg_of_pos a b⟩))
 · exact .inr (.inr (.inr (.inr (.inl ⟨a,by rw [a,Int.zero_mul]⟩))))
 ·
  rcases Int.lt_trichotomy y 0 with b | b | b
  · exact .inr (.inl ⟨a,b,Int.mul_neg_of_pos_of_neg a b⟩)
  · exact .inr (.inr (.inr (.inr (.inr ⟨b,by rw [b,Int.mul_zero]⟩))))
  · exact .inl ⟨a,b,Int.mul_pos a b⟩
set_option maxHeartbeats 4000000 in
theorem cr_int (x1 y1 x2 y2:Int) (hoff:¬ (x1*y2-y1*x2=0∧min x1 x2≤0∧0≤max x1 x2∧min y1 y2≤0∧0≤max y1 y2)) :
  (if x1≤0∧0<x2∧0<x1*y2-y1*x2 then (1:Int) else if x2≤0∧0<x1∧x1*y2-y1*x2<0 then -1 else 0) =
  (if y1≤0∧0<y2∧0<x1*y2-y1*x2 then 1 else if y2≤0∧0<y1∧x1*y2-y1*x2<0 then -1 else 0)+((if 0<x2∧y2≤0 then 1 else 0)-(if 0<x1∧y1≤0 then 1 else 0)):=by
 have h1:=mul_sgn x1 y2
 have h2:=mul_sgn y1 x2
 generalize x1*y2=p at *
 generalize y1*x2=q at *
 rcases h1 with h1 | h1 | h1 | h1 | h1 | h1<;>rcases h2 with h2 | h2 | h2 | h2 | h2 | h2<;>omega
def qd (v u:Pt):Int:=if 0<u.x-v.x∧u.y-v.y≤0 then 1 else 0
theorem cr_turn {a b v:Pt} (hoff:¬ onP a b v):crY (qt v) (qt a) (qt b)=crY v a b+(qd v b-qd v a):=by
 have t1:tw a b v=(a.x-v.x)*(b.y-v.y)-(a.y-v.y)*(b.x-v.x):=by unfold tw;grind
 have t2:tw b a v=-tw a b v:=by unfold tw;grind
 have h:=cr_int (a.x-v.x) (a.y-v.y) (b.x-v.x) (b.y-v.y) (fun h=>hoff (by
  unfold onP
  rw [t1]
  refine ⟨h.1,?_⟩
  have:=h.2
  omega))
 rw [← t1] at h
 unfold crY qd
 rw [qt_tw,qt_tw,t2]
 simp only [qt_eq]
 generalize tw a b v=t at *
 have e1:(a.x+0≤v.x+0∧v.x+0<b.x+0∧0<t)↔(a.x-v.x≤0∧0<b.x-v.x∧0<t):=by omega
 have e2:(b.x+0≤v.x+0∧v.x+0<a.x+0∧0 < -t)↔(b.x-v.x≤0∧0<a.x-v.x∧t<0):=by omega
 have e3:(a.y≤v.y∧v.y<b.y∧0<t)↔(a.y-v.y≤0∧0<b.y-v.y∧0<t):=by omega
 have e4:(b.y≤v.y∧v.y<a.y∧0 < -t)↔(b.y-v.y≤0∧0<a.y-v.y∧t<0):=by omega
 simp only [e1,e2,e3,e4]
 exact h
theorem stp_map (f:Pt→Pt→Int) (g:Pt→Pt) (l:List Pt):stp f (l.map g)=stp (fun a b=>f (g a) (g b)) l:=by
 unfold stp
 rw [List.length_map]
 refine sumC _ _ _ fun k hk=>?_
 have hk:=List.mem_range.1 hk
 have e:∀ j,j<l.length→(l.map g).getD j pt0=g (l.getD j pt0):=fun j hj=>by
  rw [List.getD_eq_getElem?_getD,List.getD_eq_getElem?_getD,List.getElem?_map,List.getElem?_eq_getElem hj]
  rfl
 rw [e k (by omega),e (k+1) (by omega)]
theorem stp_congr {f g:Pt→Pt→Int} {l:List Pt} (h:∀ k,k+1<l.length→f (l.getD k pt0) (l.getD (k+1) pt0)=g (l.getD k pt0) (l.getD (k+1) pt0)):stp f l=stp g l:=by
 unfold stp
 refine sumC _ _ _ fun k hk=>?_
 have hk:=List.mem_range.1 hk
 exact h k (by omega)
theorem getD_map' (g:Pt→Pt) (l:List Pt) {j:Nat} (hj:j<l.length):(l.map g).getD j pt0=g (l.getD j pt0):=by
 rw [List.getD_eq_getElem?_getD,List.getD_eq_getElem?_getD,List.getElem?_map,List.getElem?_eq_getElem hj]
 rfl

section
variable {p:Pl} (h:Valid p)
include h
theorem Valid.qP:Valid (qP p):=by
 refine (check_zero _).1 ?_
 unfold Go.Proofs.YtnhdmghgjngcaaaGreat.qP
 rw [mv_check _ _ p h,if_pos]
 rw [mv_points,List.all_map,List.all_eq_true]
 intro x hx
 have hr:=h.rng
 unfold rangesS at hr
 rw [Bool.and_eq_true,List.all_eq_true] at hr
 show ptOk (qt x)=true
 rw [qt_ptOk]
 exact hr.2 x hx
theorem Valid.qt_path {a:Ar} (ha:a∈p.arcs):pathS (Go.Proofs.YtnhdmghgjngcaaaGreat.qP p) (qA a)=(pathS p a).map qt:=mv_path _ _ (h.sound.ends a ha)
omit h in
theorem q_arcs:(Go.Proofs.YtnhdmghgjngcaaaGreat.qP p).arcs=p.arcs.map qA:=rfl
omit h in
theorem q_find (i:Int):findAr (Go.Proofs.YtnhdmghgjngcaaaGreat.qP p).arcs i=(findAr p.arcs i).map qA:=by
 unfold findAr
 rw [q_arcs,List.find?_map]
 rfl
omit h in
theorem q_arcD (d:Int):arcD (Go.Proofs.YtnhdmghgjngcaaaGreat.qP p) d=(arcD p d).map qA:=by
 unfold arcD
 split
 · rfl
 · exact q_find _
omit h in
theorem q_start (d:Int):startD (Go.Proofs.YtnhdmghgjngcaaaGreat.qP p) d=startD p d:=by
 unfold startD
 rw [q_arcD]
 cases arcD p d<;>rfl
omit h in
theorem q_side (d:Int):sideD (Go.Proofs.YtnhdmghgjngcaaaGreat.qP p) d=sideD p d:=by
 unfold sideD
 rw [q_arcD]
 cases arcD p d<;>rfl
omit h in
theorem q_darts:dartsD (Go.Proofs.YtnhdmghgjngcaaaGreat.qP p)=dartsD p:=by
 unfold dartsD
 rw [q_arcs,List.map_map,List.map_map]
 rfl
omit h in
theorem q_dartL (n:Int):dartL (Go.Proofs.YtnhdmghgjngcaaaGreat.qP p).arcs n=dartL p.arcs n:=by
 unfold dartL
 rw [q_arcs,List.flatMap_map]
 rfl
theorem Valid.q_to {d:Int} (hd:d∈dartsD p):toD (Go.Proofs.YtnhdmghgjngcaaaGreat.qP p) d=qt (toD p d):=by
 obtain ⟨a,ha,hor⟩:=mem_dartsD.1 hd
 have hq:=h.qP
 have ha':qA a∈(Go.Proofs.YtnhdmghgjngcaaaGreat.qP p).arcs:=List.mem_map_of_mem ha
 have hl:=pathS_length p a
 rcases hor with rfl | rfl
 ·
  have e1:=hq.to_pos ha'
  rw [h.qt_path ha,getD_map' _ _ (by omega)] at e1
  rw [h.to_pos ha]
  exact e1
 ·
  have e1:=hq.to_neg ha'
  have e0:(qA a).via.length=a.via.length:=List.length_map _
  rw [h.qt_path ha,e0,getD_map' _ _ (by omega)] at e1
  rw [h.to_neg ha]
  exact e1
end

def q3 (o a:Pt):Bool:=decide (0≤a.x-o.x) && decide (a.y-o.y<0)
theorem dir_q3 {o a b:Pt} (ha:a≠o) (hb:b≠o) (hd:dirLt o a b) (h3:q3 o a=true):q3 o b=true:=by
 have ha:=ne_vec.1 ha;have hb:=ne_vec.1 hb
 unfold q3 at *
 unfold dirLt ltV lowV at hd
 simp only [Bool.and_eq_true,decide_eq_true_eq] at *
 have m1:=mul_sgn (a.x-o.x) (b.y-o.y)
 have m2:=mul_sgn (a.y-o.y) (b.x-o.x)
 generalize (a.x-o.x)*(b.y-o.y)=m at *
 generalize (a.y-o.y)*(b.x-o.x)=n at *
 omega
theorem dir_turn {o a b:Pt} (ha:a≠o) (hb:b≠o):dirLt (qt o) (qt a) (qt b)↔(q3 o a=true∧q3 o b=false)∨(q3 o a=q3 o b∧dirLt o a b):=by
 have ha:=ne_vec.1 ha;have hb:=ne_vec.1 hb
 unfold q3 dirLt ltV lowV
 simp only [qt_eq]
 rw [show -a.y+0-(-o.y+0)=-(a.y-o.y) by omega,show a.x+0-(o.x+0)=a.x-o.x by omega,show -b.y+0-(-o.y+0)=-(b.y-o.y) by omega,show b.x+0-(o.x+0)=b.x-o.x by omega]
 have e:-(a.y-o.y)*(b.x-o.x)-(a.x-o.x) * -(b.y-o.y)=(a.x-o.x)*(b.y-o.y)-(a.y-o.y)*(b.x-o.x):=by grind
 rw [e]
 have m1:=mul_sgn (a.x-o.x) (b.y-o.y)
 have m2:=mul_sgn (a.y-o.y) (b.x-o.x)
 generalize (a.x-o.x)*(b.y-o.y)=m at *
 generalize (a.y-o.y)*(b.x-o.x)=n at *
 generalize a.x-o.x=ax at *
 generalize a.y-o.y=ay at *
 generalize b.x-o.x=bx at *
 generalize b.y-o.y=by_ at *
 have k1:(decide (0≤ax) && decide (ay<0))=true↔(0≤ax∧ay<0):=by simp
 have k2:(decide (0≤bx) && decide (by_<0))=true↔(0≤bx∧by_<0):=by simp
 cases hc1:(decide (0≤ax) && decide (ay<0))<;>cases hc2:(decide (0≤bx) && decide (by_<0))<;>rw [hc1] at k1<;>rw [hc2] at k2 <;>
  simp only [Bool.false_eq_true,false_iff,true_iff,Bool.true_eq_false,and_false,and_true,false_and,true_and,false_or,or_false,and_self,Bool.false_eq_true,true_or,iff_false,iff_true] at * <;>
  omega
theorem sorted_cut {lt:Int→Int→Bool} {Q:Int→Bool}:∀ {l:List Int},l.Pairwise (fun a b=>lt b a=false)→(∀ a∈l,∀ b∈l,lt b a=false→Q a=true→Q b=true)→l=l.filter (fun x=>!Q x)++l.filter Q
 | [],_,_=>rfl
 | a::l,hs,hq=>by
  obtain ⟨h1,h2⟩:=List.pairwise_cons.1 hs
  have ih:=sorted_cut h2 (fun x hx y hy=>hq x (List.mem_cons_of_mem _ hx) y (List.mem_cons_of_mem _ hy))
  cases hQ:Q a
  ·
   simp only [List.filter_cons,hQ,Bool.not_false,if_true,Bool.false_eq_true,if_false,List.cons_append]
   rw [← ih]
  ·
   have hall:∀ x∈l,Q x=true:=fun x hx=>hq a List.mem_cons_self x (List.mem_cons_of_mem _ hx) (h1 x hx) hQ
   have e1:l.filter Q=l:=List.filter_eq_self.2 hall
   have e2:l.filter (fun x=>!Q x)=[]:=List.filter_eq_nil_iff.2 fun x hx=>by rw [hall x hx];simp
   simp only [List.filter_cons,hQ,Bool.not_true,Bool.false_eq_true,if_false,if_true]
   rw [e1,e2,List.nil_append]
theorem rot_arith (x y i:Nat) (hi':i<x+y):((i+y) % (x+y)+(x+y)-1) % (x+y)=((i+(x+y)-1) % (x+y)+y) % (x+y):=by
 have m1:∀ t,t<x+y→(t+y) % (x+y)=if t<x then t+y else t-x:=fun t ht=>by
  split
  · exact Nat.mod_eq_of_lt (by omega)
  ·
   have:t+y=(t-x)+(x+y):=by omega
   rw [this,Nat.add_mod_right,Nat.mod_eq_of_lt (by omega)]
 have m2:∀ t,t<x+y→(t+(x+y)-1) % (x+y)=if t=0 then x+y-1 else t-1:=fun t ht=>by
  split
  · rename_i h0;subst h0;rw [Nat.mod_eq_of_lt (by omega)];omega
  ·
   have:t+(x+y)-1=(t-1)+(x+y):=by omega
   rw [this,Nat.add_mod_right,Nat.mod_eq_of_lt (by omega)]
 rw [m1 i hi',m2 i hi']
 by_cases h0:i=0
 ·
  subst h0
  rw [if_pos rfl]
  by_cases hx:0<x
  ·
   rw [if_pos hx,m2 _ (by omega),m1 _ (by omega)]
   by_cases hy:y=0
   · subst hy;rw [if_pos (by omega),if_pos (by omega)];omega
   · rw [if_neg (by omega),if_neg (by omega)];omega
  ·
   rw [if_neg hx,m2 _ (by omega),m1 _ (by omega)]
   rw [if_pos (by omega),if_neg (by omega)];omega
 ·
  rw [if_neg h0,m1 (i-1) (by omega)]
  by_cases c:i<x
  · rw [if_pos c,if_pos (by omega),m2 _ (by omega),if_neg (by omega)];omega
  ·
   rw [if_neg c,m2 _ (by omega)]
   by_cases c2:i=x
   · rw [if_pos (by omega),if_pos (by omega)];omega
   · rw [if_neg (by omega),if_neg (by omega)];omega
theorem prec_rot {A B:List Int} (hn:(A++B).Nodup) {d:Int} (hd:d∈A++B):precD (B++A) d=precD (A++B) d:=by
 have hn2:(B++A).Nodup:=(List.perm_append_comm).nodup_iff.1 hn
 obtain ⟨i,hi,rfl⟩:=List.mem_iff_getElem.1 hd
 rw [precD_at hn hi]
 have hlen:(A++B).length=A.length+B.length:=List.length_append
 have hlen2:(B++A).length=A.length+B.length:=by rw [List.length_append];omega
 have key:∀ i (hi:i<(A++B).length),∃ j,∃ hj:j<(B++A).length,(B++A)[j]=(A++B)[i]∧j=(i+B.length) % (A.length+B.length):=fun i hi=>by
  have hi':i<A.length+B.length:=by rw [← hlen];exact hi
  by_cases c:i<A.length
  ·
   refine ⟨i+B.length,by rw [hlen2];omega,?_,?_⟩
   ·
    rw [List.getElem_append_right (by omega),List.getElem_append_left c]
    congr 1;omega
   · rw [Nat.mod_eq_of_lt (by omega)]
  ·
   refine ⟨i-A.length,by rw [hlen2];omega,?_,?_⟩
   · rw [List.getElem_append_left (by omega),List.getElem_append_right (by omega)]
   ·
    have:i+B.length=(i-A.length)+(A.length+B.length):=by omega
    rw [this,Nat.add_mod_right,Nat.mod_eq_of_lt (by omega)]
 obtain ⟨j,hj,e1,e2⟩:=key i hi
 rw [← e1,precD_at hn2 hj]
 have hpos:0<A.length+B.length:=by omega
 obtain ⟨k,hk,e3,e4⟩:=key ((i+(A++B).length-1) % (A++B).length) (Nat.mod_lt _ (by omega))
 rw [← e3]
 congr 1
 rw [e2,e4,hlen,hlen2]
 exact rot_arith _ _ _ (by rw [← hlen];exact hi)
section
variable {p:Pl} (h:Valid p)
include h
theorem Valid.q_around {n:Nd} (hn:n∈p.nodes):∃ A B,aroundD p n.id=A++B∧aroundD (Go.Proofs.YtnhdmghgjngcaaaGreat.qP p) n.id=B++A:=by
 have hq:=h.qP
 obtain ⟨n',hn'⟩:∃ n',n'=mvNd ⟨0,0⟩ true n:=⟨_,rfl⟩
 have hnq:n'∈(Go.Proofs.YtnhdmghgjngcaaaGreat.qP p).nodes:=by rw [hn'];exact List.mem_map_of_mem hn
 have hid:n'.id=n.id:=by rw [hn'];rfl
 have hpt:n'.pt=qt n.pt:=by rw [hn'];rfl
 have h1:=h.around_eq hn
 have h2:=hq.around_eq hnq
 obtain ⟨f1,f2⟩:=sortB_facts (h.ordOn hn)
 rw [hid,q_dartL] at h2
 have hord:=hq.ordOn hnq
 rw [hid,q_dartL] at hord
 have facts:∀ d∈dartL p.arcs n.id,toD p d≠n.pt∧toD (Go.Proofs.YtnhdmghgjngcaaaGreat.qP p) d=qt (toD p d)∧near1 (toD p d)=true:=fun d hd=>by
  obtain ⟨n0,n1,x1⟩:=h.to_facts hn hd
  exact ⟨x1,h.q_to (h.dartL_start hd).1,n1⟩
 have nn:=h.node_near hn
 have lt1:∀ d∈dartL p.arcs n.id,∀ e∈dartL p.arcs n.id,(ltD p n.pt d e=true↔dirLt n.pt (toD p d) (toD p e)):=fun d hd e he=>by
  obtain ⟨x1,-,m1⟩:=facts d hd
  obtain ⟨x2,-,m2⟩:=facts e he
  unfold ltD
  rw [less_iff]
  exact ⟨fun h=>h.2.2.2,fun h=>⟨by simp [nears,nn,m1,m2],x1,x2,h⟩⟩
 have lt2:∀ d∈dartL p.arcs n.id,∀ e∈dartL p.arcs n.id,(ltD (Go.Proofs.YtnhdmghgjngcaaaGreat.qP p) n'.pt d e=true↔dirLt (qt n.pt) (qt (toD p d)) (qt (toD p e))):=fun d hd e he=>by
  obtain ⟨x1,t1,m1⟩:=facts d hd
  obtain ⟨x2,t2,m2⟩:=facts e he
  unfold ltD
  rw [less_iff,hpt,t1,t2]
  exact ⟨fun h=>h.2.2.2,fun h=>⟨by simp [nears,qt_near,nn,m1,m2],fun e=>x1 (qt_inj e),fun e=>x2 (qt_inj e),h⟩⟩
 obtain ⟨Q,hQ⟩:∃ Q:Int→Bool,Q=fun d=>q3 n.pt (toD p d):=⟨_,rfl⟩
 have hsub:∀ d∈aroundD p n.id,d∈dartL p.arcs n.id:=fun d hd=>by rw [h1] at hd;exact f1.subset hd
 have hs:(aroundD p n.id).Pairwise (fun a b=>ltD p n.pt b a=false):=by rw [h1];exact f2
 have hcut:=sorted_cut (Q:=Q) hs (fun a ha b hb hab hQa=>by
  rw [hQ] at hQa ⊢
  simp only at hQa ⊢
  have ha':=hsub a ha;have hb':=hsub b hb
  by_cases e:a=b
  · subst e;exact hQa
  ·
   have hlt:dirLt n.pt (toD p a) (toD p b):=by
    rcases h.dirs hn ha' hb' e with h3 | h3
    · exact h3
    · rw [← lt1 b hb' a ha',hab] at h3;cases h3
   exact dir_q3 (facts a ha').1 (facts b hb').1 hlt hQa)
 refine ⟨_,_,hcut,?_⟩
 rw [h2]
 symm
 refine sortB_of hord ?_ ?_
 ·
  refine List.perm_append_comm.trans ?_
  rw [← hcut,h1]
  exact f1
 ·
  rw [List.pairwise_append]
  have hsub2:∀ (f:Int→Bool),∀ d∈(aroundD p n.id).filter f,d∈dartL p.arcs n.id:=fun f d hd=>hsub d (List.mem_filter.1 hd).1
  have inner:∀ (f:Int→Bool) (z:Bool),(∀ d,f d=true→Q d=z)→((aroundD p n.id).filter f).Pairwise (fun a b=>ltD (Go.Proofs.YtnhdmghgjngcaaaGreat.qP p) n'.pt b a=false):=fun f z hf=>by
   refine List.Pairwise.imp_of_mem (fun {a b} ha hb hab=>?_) (hs.filter f)
   have ha':=hsub2 f a ha;have hb':=hsub2 f b hb
   rw [← Bool.not_eq_true,lt2 b hb' a ha',dir_turn (facts b hb').1 (facts a ha').1]
   have q1:=hf a (List.mem_filter.1 ha).2
   have q2:=hf b (List.mem_filter.1 hb).2
   rw [hQ] at q1 q2
   simp only at q1 q2
   rw [q1,q2]
   rintro (⟨g1,g2⟩ | ⟨-,g⟩)
   · rw [g1] at g2;cases g2
   · rw [← lt1 b hb' a ha',hab] at g;cases g
  refine ⟨inner Q true (fun d hd=>hd),inner _ false (fun d hd=>by simpa using hd),fun a ha b hb=>?_⟩
  have ha':=hsub2 _ a ha;have hb':=hsub2 _ b hb
  have q1:=(List.mem_filter.1 ha).2
  have q2:=(List.mem_filter.1 hb).2
  rw [hQ] at q1 q2
  simp only [Bool.not_eq_true'] at q1 q2
  rw [← Bool.not_eq_true,lt2 b hb' a ha',dir_turn (facts b hb').1 (facts a ha').1,q1,q2]
  rintro (⟨g1,g2⟩ | ⟨g1,-⟩)
  · cases g1
  · cases g1
theorem Valid.q_next (d:Int):nextD (Go.Proofs.YtnhdmghgjngcaaaGreat.qP p) d=nextD p d:=by
 unfold nextD
 rw [q_arcD,Option.isSome_map]
 split
 ·
  rename_i hs
  have hd:d∈dartsD p:=by
   unfold arcD at hs
   split at hs
   · cases hs
   ·
    rename_i h0
    obtain ⟨a,ha⟩:=Option.isSome_iff_exists.1 hs
    have hm:=findAr_mem ha
    have hid:a.id=absI d:=by
     have:=List.find?_some ha
     simpa using this
    refine mem_dartsD.2 ⟨a,hm,?_⟩
    unfold absI at hid
    split at hid
    · right;omega
    · left;omega
  obtain ⟨n,hn,e1,hm,e2⟩:=h.next_eq hd
  obtain ⟨A,B,r1,r2⟩:=h.q_around hn
  rw [q_start,← e1,r1,r2]
  have hnd:=h.around_nodup hn
  rw [r1] at hnd hm
  exact prec_rot hnd hm
 · rfl
theorem Valid.q_cycles:cyclesD (Go.Proofs.YtnhdmghgjngcaaaGreat.qP p)=cyclesD p:=by
 unfold cyclesD
 rw [q_darts,show nextD (Go.Proofs.YtnhdmghgjngcaaaGreat.qP p)=nextD p from funext h.q_next]
end
end Go.Proofs.YtnhdmghgjngcaaaGreat
