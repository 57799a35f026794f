import Derived.Test.YtialfdomhoojiaaGreatJ09
import Derived.Test.YtialfdomhoojiaaGreatJ08
set_option linter.unusedSimpArgs false
set_option linter.unusedVariables false
namespace Go.Proofs.YtialfdomhoojiaaGreat
open Go.RowKit
section
variable {p:Pl} (h:Valid p)
include h
def XF (p:Pl) (z:Int->Int) (τ:Int):Prop:=∀ a∈p.au,z a.id≠0->∀ k,k<(aK p a).length->2*hY ((aK p a).getD k aQ)≠τ
omit h in
theorem XF.odd (z:Int->Int) {τ:Int} (hτ:τ % 2=1):XF p z τ:=fun a _ _ k _=>by omega
end
set_option linter.unusedSectionVars false
def oG (p:Pl) (X:List Int):Int:=(X.map (Bh p)).sum
theorem aeN (p:Pl) (l:List Int) (k:Nat) (hk:k<=l.length):oD p l k=((l.take k).map (Bh p)).sum:=by
 induction k with
 | zero=>simp [oD]
 | succ k ih =>
  rw [oD,ih (by omega),List.take_succ_eq_append_getElem (show k<l.length by omega),List.map_append,List.sum_append,List.getD_eq_getElem?_getD,List.getElem?_eq_getElem (show k<l.length by omega)];simp
section
variable {p:Pl} (h:Valid p)
include h
theorem Valid.Bv {X:List Int} (hX:X∈gJ p):X.Nodup/\(∀ d∈X,d∈dS p):=by
 obtain ⟨x,hx,e,-,-⟩:=h.XE hX;have hD:∀ x∈dS p,kJ p x∈dS p:=fun x hx=>(h.y9 hx).1;have hf:=yY hD (fun x hx y hy=>h.Gu hx hy) hx;rw [e];exact ⟨hf.2.2.2.2.1,fun d hd=>OT hD hx hd⟩
end
set_option linter.unusedSectionVars false
def XG (a b v:Pt):Prop:=tw a b v=0/\min a.x b.x<=v.x/\v.x<=max a.x b.x/\min a.y b.y<=v.y/\v.y<=max a.y b.y
instance (a b v:Pt):Decidable (XG a b v):=by unfold XG;infer_instance
theorem Bl.add {p:Pl} {z u:Int->Int} (h1:Bl p z) (h2:Bl p u):Bl p (fun i=>z i+u i):=fun n hn=>by
 have e1:=h1 n hn;have e2:=h2 n hn;refine (Gz _ _ (fun a:Ar=>z a.id*((if a.dst=n.id then (1:Int) else 0)-(if a.fr=n.id then 1 else 0))+u a.id*((if a.dst=n.id then (1:Int) else 0)-(if a.fr=n.id then 1 else 0))) (fun a _=>Int.add_mul _ _ _)).trans ?_;rw [Xx,e1,e2];rfl
theorem Bl.neg {p:Pl} {z:Int->Int} (h1:Bl p z):Bl p (fun i=>-z i):=fun n hn=>by
 have e1:=h1 n hn;refine (Gz _ _ (fun a:Ar=>-(z a.id*((if a.dst=n.id then (1:Int) else 0)-(if a.fr=n.id then 1 else 0)))) (fun a _=>Int.neg_mul _ _)).trans ?_;rw [Xy,e1];rfl
section
variable {p:Pl} (h:Valid p)
include h
end
def Eo (p:Pl) (d:Int):List Pt:=match findAr p.au (mO d) with
 | some a=>aK p a
 | none=>[]
def uD (P:List Pt):List (Pt×Pt):=(List.range (P.length-1)).map fun k=>(P.getD k aQ,P.getD (k+1) aQ)
def qL (p:Pl) (X:List Int):List (Pt×Pt):=X.flatMap fun d=>uD (Eo p d)
def XH (v a b:Pt):Bool:=decide ((a.y<=v.y/\v.y<b.y/\0<tw a b v)\/(b.y<=v.y/\v.y<a.y/\tw a b v<0))
def Ep (v:Pt) (s:Bool×Bool) (q:Pt×Pt):Bool×Bool:=if dV q.1 q.2 v then (true,s.2) else if XH v q.1 q.2 then (s.1,!s.2) else s
def Py (v:Pt) (l:List (Pt×Pt)):Bool×Bool:=l.foldl (Ep v) (false,false)
def encS (p:Pl) (X:List Int) (v:Pt):Bool:=(Py v (qL p X)).2 && !(Py v (qL p X)).1
section
variable {p:Pl} (h:Valid p)
include h
theorem Valid.Pz {d:Int} (hd:d∈dS p):∃ a∈p.au,(d=a.id\/d=-a.id)/\Eo p d=aK p a:=by
 obtain ⟨a,ha,e⟩:=y7.1 hd;have hid:=(h.oC ha).1;refine ⟨a,ha,e,?_⟩;unfold Eo
 have:mO d=a.id:=by unfold mO;rcases e with rfl | rfl<;>split<;>omega
 rw [this,h.find ha]
theorem Valid.aeO {X:List Int} (hX:∀ d∈X,d∈dS p) {q:Pt×Pt} (hq:q∈qL p X):∃ a∈p.au,(a.id∈X\/-a.id∈X)/\∃ k,k+1<(aK p a).length/\q=((aK p a).getD k aQ,(aK p a).getD (k+1) aQ):=by
 obtain ⟨d,hd,hq⟩:=List.mem_flatMap.1 hq;obtain ⟨a,ha,e,hp⟩:=h.Pz (hX d hd);rw [hp] at hq;obtain ⟨k,hk,rfl⟩:=List.mem_map.1 hq;have hk:=List.mem_range.1 hk;refine ⟨a,ha,?_,k,by omega,rfl⟩;rcases e with rfl | rfl
 · exact .inl hd
 · exact .inr hd
end
section
variable {α:Type} (E:α->Bool) (t:α->Int)
def zo (b:Option α) (x:α):Option α:=if (E x && (match b with | none=>true | some y=>decide (t x<t y)))=true then some x else b
def nG (l:List α):Option α:=l.foldl (zo E t) none
theorem zq (l:List α) (x:α):nG E t (l++[x])=zo E t (nG E t l) x:=by unfold nG;rw [List.foldl_append];rfl
theorem PD {P:List α->Prop} (h0:P []) (h1:∀ l x,P l->P (l++[x])) (l:List α):P l:=by
 have:∀ k,k<=l.length->P (l.take k):=by
  intro k
  induction k with
  | zero=>intro _;exact h0
  | succ k ih=>intro hk;rw [List.take_succ_eq_append_getElem (show k<l.length by omega)];exact h1 _ _ (ih (by omega))
 have:=this l.length (Nat.le_refl _)
 rwa [List.take_length] at this
theorem aeP (l:List α):match nG E t l with
  | none=>∀ x∈l,E x=false
  | some x=>x∈l/\E x=true/\∀ y∈l,E y=true->t x<=t y:=by
 induction l using PD with
 | h0=>exact fun x hx=>by cases hx
 | h1 l x ih =>
  rw [zq];unfold zo
  cases hb:nG E t l with
  | none =>
   rw [hb] at ih;simp only [Bool.and_true];by_cases hE:E x=true
   ·rw [if_pos hE];refine ⟨by simp,hE,fun y hy BA=>?_⟩;rcases List.mem_append.1 hy with hy | hy
    · rw [ih y hy] at BA;cases BA
    · rw [List.mem_singleton] at hy;subst hy;exact Int.le_refl _
   ·rw [if_neg hE];intro y hy;rcases List.mem_append.1 hy with hy | hy
    · exact ih y hy
    · rw [List.mem_singleton] at hy;subst hy;simpa using hE
  | some z =>
   rw [hb] at ih;simp only [Bool.and_eq_true,decide_eq_true_eq];by_cases hE:E x=true/\t x<t z
   ·rw [if_pos hE];refine ⟨by simp,hE.1,fun y hy BA=>?_⟩;rcases List.mem_append.1 hy with hy | hy
    · have:=ih.2.2 y hy BA;omega
    · rw [List.mem_singleton] at hy;subst hy;exact Int.le_refl _
   ·rw [if_neg hE];refine ⟨List.mem_append_left _ ih.1,ih.2.1,fun y hy BA=>?_⟩;rcases List.mem_append.1 hy with hy | hy
    · exact ih.2.2 y hy BA
    ·rw [List.mem_singleton] at hy;subst hy;have:¬ t y<t z:=fun h=>hE ⟨BA,h⟩
     omega
theorem aeQ {l:List α} {x:α} (h:nG E t l=some x):x∈l/\E x=true/\∀ y∈l,E y=true->t x<=t y:=by
 have:=aeP E t l
 rw [h] at this;exact this
end
set_option linter.unusedSectionVars false
def jc (p:Pl):List (List Int):=(gJ p).filter (fun X=>decide (0<oG p X))
def qM (p:Pl):List (List Int):=(gJ p).filter (fun X=>!decide (0<oG p X))
def zu (p:Pl) (v:Pt):Option (List Int):=nG (fun X=>encS p X v) (oG p) (jc p)
theorem J9 {p:Pl} {X:List Int}:X∈jc p↔X∈gJ p/\0<oG p X:=by unfold jc;rw [List.mem_filter,decide_eq_true_eq]
theorem XI {p:Pl} {X:List Int}:X∈qM p↔X∈gJ p/\¬ 0<oG p X:=by unfold qM;rw [List.mem_filter];simp
section
variable {p:Pl} (h:Valid p)
include h
end
def GH (p:Pl) (c:List Int):Pt:=(Eo p (c.headD 0)).getD 0 aQ
def XJ (p:Pl) (b:Option (List Int)):List (List Int):=(qM p).filter (fun c=>decide (zu p (GH p c)=b))
def Ko (p:Pl) (b:Option (List Int)):Int:=match b with
 | none=>0
 | some X=>iF p (X.headD 0)
def GI (p:Pl) (b:Option (List Int)):List (List Int):=b.getD []::XJ p b
structure XK (p:Pl):Prop where
 some:∀ X∈jc p,iF p (X.headD 0)≠0
 differ:((jc p).map (fun X=>iF p (X.headD 0))).Nodup
 sides:∀ b,(b=none\/∃ X∈jc p,b=Option.some X)->∀ c∈GI p b,∀ d∈c,iF p d=Ko p b
 all:(jc p).length=p.faces.length
end Go.Proofs.YtialfdomhoojiaaGreat
