import Derived.Test.YtpempeioeiaijaaGreatJ08
import Derived.Test.YtpempeioeiaijaaGreatJ07
set_option linter.unusedSimpArgs false
set_option linter.unusedVariables false
namespace Go.Proofs.YtpempeioeiaijaaGreat
open Go.RowKit
set_option linter.unusedSectionVars false

def chX (X:List Int) (i:Int):Int:=(if i∈X then 1 else 0)-(if -i∈X then 1 else 0)
def arX (p:Pl) (X:List Int):Int:=(X.map (dartT p)).sum
theorem twiceUp_sum (p:Pl) (l:List Int) (k:Nat) (hk:k≤l.length):twiceUp p l k=((l.take k).map (dartT p)).sum:=by
 induction k with
 | zero=>simp [twiceUp]
 | succ k ih =>
  rw [twiceUp,ih (by omega),List.take_succ_eq_append_getElem (show k<l.length by omega),List.map_append,List.sum_append,List.getD_eq_getElem?_getD,List.getElem?_eq_getElem (show k<l.length by omega)]
  simp
section
variable {p:Pl} (h:Valid p)
include h
theorem Valid.cyc_nodup {X:List Int} (hX:X∈cyclesD p):X.Nodup∧(∀ d∈X,d∈dartsD p):=by
 obtain ⟨x,hx,e,-,-⟩:=h.cyc_form hX
 have hD:∀ x∈dartsD p,nextD p x∈dartsD p:=fun x hx=>(h.next_mem hx).1
 have hf:=orb_facts hD (fun x hx y hy=>h.next_inj hx hy) hx
 rw [e]
 exact ⟨hf.2.2.2.2.1,fun d hd=>orb_mem hD hx hd⟩
end
end Go.Proofs.YtpempeioeiaijaaGreat
namespace Go.Proofs.YtpempeioeiaijaaGreat
open Go.RowKit
set_option linter.unusedSectionVars false

def onP (a b v:Pt):Prop:=tw a b v=0∧min a.x b.x≤v.x∧v.x≤max a.x b.x∧min a.y b.y≤v.y∧v.y≤max a.y b.y
instance (a b v:Pt):Decidable (onP a b v):=by unfold onP;infer_instance
section
variable {p:Pl} (h:Valid p)
include h
end
end Go.Proofs.YtpempeioeiaijaaGreat
namespace Go.Proofs.YtpempeioeiaijaaGreat
open Go.RowKit

def pthD (p:Pl) (d:Int):List Pt:=match findAr p.arcs (absI d) with
 | some a=>pathS p a
 | none=>[]
def segL (P:List Pt):List (Pt×Pt):=(List.range (P.length-1)).map fun k=>(P.getD k pt0,P.getD (k+1) pt0)
def segX (p:Pl) (X:List Int):List (Pt×Pt):=X.flatMap fun d=>segL (pthD p d)
def pasE (v a b:Pt):Bool:=decide ((a.y≤v.y∧v.y<b.y∧0<tw a b v)∨(b.y≤v.y∧v.y<a.y∧tw a b v<0))
def encStep (v:Pt) (s:Bool×Bool) (q:Pt×Pt):Bool×Bool:=if onS q.1 q.2 v then (true,s.2) else if pasE v q.1 q.2 then (s.1,!s.2) else s
def encF (v:Pt) (l:List (Pt×Pt)):Bool×Bool:=l.foldl (encStep v) (false,false)
def encS (p:Pl) (X:List Int) (v:Pt):Bool:=(encF v (segX p X)).2 && !(encF v (segX p X)).1
section
variable {p:Pl} (h:Valid p)
include h
theorem Valid.pth_dart {d:Int} (hd:d∈dartsD p):∃ a∈p.arcs,(d=a.id∨d=-a.id)∧pthD p d=pathS p a:=by
 obtain ⟨a,ha,e⟩:=mem_dartsD.1 hd
 have hid:=(h.id_pos ha).1
 refine ⟨a,ha,e,?_⟩
 unfold pthD
 have:absI d=a.id:=by unfold absI;rcases e with rfl | rfl<;>split<;>omega
 rw [this,h.find ha]
theorem Valid.seg_mem {X:List Int} (hX:∀ d∈X,d∈dartsD p) {q:Pt×Pt} (hq:q∈segX p X):∃ a∈p.arcs,(a.id∈X∨-a.id∈X)∧∃ k,k+1<(pathS p a).length∧q=((pathS p a).getD k pt0,(pathS p a).getD (k+1) pt0):=by
 obtain ⟨d,hd,hq⟩:=List.mem_flatMap.1 hq
 obtain ⟨a,ha,e,hp⟩:=h.pth_dart (hX d hd)
 rw [hp] at hq
 obtain ⟨k,hk,rfl⟩:=List.mem_map.1 hq
 have hk:=List.mem_range.1 hk
 refine ⟨a,ha,?_,k,by omega,rfl⟩
 rcases e with rfl | rfl
 · exact .inl hd
 · exact .inr hd
end
section
variable {α:Type} (E:α→Bool) (t:α→Int)
def bestStep (b:Option α) (x:α):Option α:=if (E x && (match b with | none=>true | some y=>decide (t x<t y)))=true then some x else b
def bestC (l:List α):Option α:=l.foldl (bestStep E t) none
theorem best_snoc (l:List α) (x:α):bestC E t (l++[x])=bestStep E t (bestC E t l) x:=by unfold bestC;rw [List.foldl_append];rfl
theorem snoc_ind {P:List α→Prop} (h0:P []) (h1:∀ l x,P l→P (l++[x])) (l:List α):P l:=by
 have:∀ k,k≤l.length→P (l.take k):=by
  intro k
  induction k with
  | zero=>intro _;exact h0
  | succ k ih=>intro hk;rw [List.take_succ_eq_append_getElem (show k<l.length by omega)];exact h1 _ _ (ih (by omega))
 have:=this l.length (Nat.le_refl _)
 rwa [List.take_length] at this
theorem best_facts (l:List α):match bestC E t l with
  | none=>∀ x∈l,E x=false
  | some x=>x∈l∧E x=true∧∀ y∈l,E y=true→t x≤t y:=by
 induction l using snoc_ind with
 | h0=>exact fun x hx=>by cases hx
 | h1 l x ih =>
  rw [best_snoc]
  unfold bestStep
  cases hb:bestC E t l with
  | none =>
   rw [hb] at ih
   simp only [Bool.and_true]
   by_cases hE:E x=true
   ·
    rw [if_pos hE]
    refine ⟨by simp,hE,fun y hy hEy=>?_⟩
    rcases List.mem_append.1 hy with hy | hy
    · rw [ih y hy] at hEy;cases hEy
    · rw [List.mem_singleton] at hy;subst hy;exact Int.le_refl _
   ·
    rw [if_neg hE]
    intro y hy
    rcases List.mem_append.1 hy with hy | hy
    · exact ih y hy
    · rw [List.mem_singleton] at hy;subst hy;simpa using hE
  | some z =>
   rw [hb] at ih
   simp only [Bool.and_eq_true,decide_eq_true_eq]
   by_cases hE:E x=true∧t x<t z
   ·
    rw [if_pos hE]
    refine ⟨by simp,hE.1,fun y hy hEy=>?_⟩
    rcases List.mem_append.1 hy with hy | hy
    · have:=ih.2.2 y hy hEy;omega
    · rw [List.mem_singleton] at hy;subst hy;exact Int.le_refl _
   ·
    rw [if_neg hE]
    refine ⟨List.mem_append_left _ ih.1,ih.2.1,fun y hy hEy=>?_⟩
    rcases List.mem_append.1 hy with hy | hy
    · exact ih.2.2 y hy hEy
    ·
     rw [List.mem_singleton] at hy;subst hy
     have:¬ t y<t z:=fun h=>hE ⟨hEy,h⟩
     omega
theorem best_some {l:List α} {x:α} (h:bestC E t l=some x):x∈l∧E x=true∧∀ y∈l,E y=true→t x≤t y:=by
 have:=best_facts E t l
 rw [h] at this
 exact this
end
end Go.Proofs.YtpempeioeiaijaaGreat
namespace Go.Proofs.YtpempeioeiaijaaGreat
open Go.RowKit
set_option linter.unusedSectionVars false

def outX (p:Pl):List (List Int):=(cyclesD p).filter (fun X=>decide (0<arX p X))
def resX (p:Pl):List (List Int):=(cyclesD p).filter (fun X=>!decide (0<arX p X))
def homeP (p:Pl) (v:Pt):Option (List Int):=bestC (fun X=>encS p X v) (arX p) (outX p)
theorem mem_outX {p:Pl} {X:List Int}:X∈outX p↔X∈cyclesD p∧0<arX p X:=by unfold outX;rw [List.mem_filter,decide_eq_true_eq]
theorem mem_resX {p:Pl} {X:List Int}:X∈resX p↔X∈cyclesD p∧¬ 0<arX p X:=by unfold resX;rw [List.mem_filter];simp
section
variable {p:Pl} (h:Valid p)
include h
end
def cycPt (p:Pl) (c:List Int):Pt:=(pthD p (c.headD 0)).getD 0 pt0
def innX (p:Pl) (b:Option (List Int)):List (List Int):=(resX p).filter (fun c=>decide (homeP p (cycPt p c)=b))
def faceX (p:Pl) (b:Option (List Int)):Int:=match b with
 | none=>0
 | some X=>sideD p (X.headD 0)
def cysX (p:Pl) (b:Option (List Int)):List (List Int):=b.getD []::innX p b
structure FaceOK (p:Pl):Prop where
 some:∀ X∈outX p,sideD p (X.headD 0)≠0
 differ:((outX p).map (fun X=>sideD p (X.headD 0))).Nodup
 sides:∀ b,(b=none∨∃ X∈outX p,b=Option.some X)→∀ c∈cysX p b,∀ d∈c,sideD p d=faceX p b
 all:(outX p).length=p.faces.length
end Go.Proofs.YtpempeioeiaijaaGreat
