import Derived.Test.YtpempeioeiaijaaGreatJ14
import Derived.Test.YtpempeioeiaijaaGreatRegLB
import Derived.Test.YtpempeioeiaijaaGreatGE
import Derived.Deep.CutBlock
set_option linter.unusedSimpArgs false
set_option linter.unusedVariables false
namespace Go.Proofs.YtpempeioeiaijaaGreat

def twiceL:List Pt→Bool
 | []=>false
 | [_]=>false
 | a::b::l=>decide (b=a) || twiceL (b::l)
def chkL (L:List (List Pt)):Int :=
 if 256<L.length then 3 else if L.any (fun l=>decide (4096<l.length)) then 3 else if L.any (fun l=>decide (l.length<2)) then 1
 else if L.any (fun l=>l.any (fun p=>!ptOk p)) then 2 else if L.any twiceL then 1 else 0
def cutF (M:Pt→Bool):List Pt→List Pt→List (List Pt)
 | _,[]=>[]
 | cur,p::r=>if M p then (cur++[p])::cutF M [p] r else cutF M (cur++[p]) r
def cutL (M:Pt→Bool):List Pt→List (List Pt)
 | []=>[]
 | p::r=>cutF M [p] r
def partsU (L:List (List Pt)):List (List Pt):=L.flatMap (cutL (meets L))
def partsL (L:List (List Pt)):List (List Pt):=srtL (partsU L)
def numP:List Pt→Pt→Int
 | [],_=>0
 | q::l,p=>if q=p then 1 else let n:=numP l p;if n=0 then 0 else n+1
def ndsI (at_:List Pt):List Nd:=(List.range at_.length).map fun i:Nat=>⟨(i:Int)+1,at_.getD i ⟨0,0⟩⟩
def arI (at_:List Pt) (i:Nat) (q:List Pt):Ar:=⟨(i:Int)+1,numP at_ (q.headD ⟨0,0⟩),numP at_ (q.getLastD ⟨0,0⟩),q.tail.dropLast,0,0⟩
def arsI (at_:List Pt) (P:List (List Pt)):List Ar:=(List.range P.length).map fun i:Nat=>arI at_ i (P.getD i [])
def planI (at_:List Pt) (P:List (List Pt)):Pl:=⟨ndsI at_,arsI at_ P,[]⟩
def plI (L:List (List Pt)):Pl:=planI (meetL L) (partsL L)
def bigI (L:List (List Pt)):Bool:=decide (256<(meetL L).length) || (decide (256<(partsL L).length) || (partsL L).any (fun q=>decide (66<q.length)))
def bldZ (L:List (List Pt)):Int :=
 if chkL L≠0 then chkL L else if bigI L then 3 else if checkS (plI L)≠0 then 11 else labZ (plI L)
def plE:Pl:=⟨[],[],[]⟩
def bldP (L:List (List Pt)):Pl:=if bldZ L=0 then labP (plI L) else plE

theorem last_app {α:Type} (l:List α) (x:α) (r:List α):(l++x::r).getLast? = (x::r).getLast? := by
 rw [List.getLast?_append]
 cases h:(x::r).getLast? with
 | none=>simp at h
 | some y=>rfl
section
variable {A C:List (List Pt)} {a b:List Pt} {p:Pt}
end
end Go.Proofs.YtpempeioeiaijaaGreat
namespace Go.Proofs.YtpempeioeiaijaaGreat

structure PieceM (M:Pt→Bool) (h:Pt) (q:List Pt):Prop where
 ex:∃ x mid y,q=x::(mid++[y])∧M y=true∧(∀ z∈mid,M z=false)∧(x=h∨M x=true)
theorem cutF_piece (M:Pt→Bool) (h:Pt):∀ (r:List Pt) (x:Pt) (mid:List Pt),(∀ z∈mid,M z=false)→(x=h∨M x=true)→∀ q∈cutF M (x::mid) r,PieceM M h q
 | [],_,_,_,_,q,hq=>by simp [cutF] at hq
 | p::r,x,mid,hm,hx,q,hq=>by
  unfold cutF at hq
  split at hq
  ·
   rename_i hp
   rcases List.mem_cons.1 hq with rfl | hq
   · exact ⟨x,mid,p,rfl,hp,hm,hx⟩
   · exact cutF_piece M h r p [] (fun _ hz=>by cases hz) (.inr hp) q hq
  ·
   rename_i hp
   refine cutF_piece M h r x (mid++[p]) (fun z hz=>?_) hx q hq
   rcases List.mem_append.1 hz with hz | hz
   · exact hm z hz
   · rw [List.mem_singleton.1 hz];simpa using hp
theorem cutF_infix (M:Pt→Bool):∀ (r cur:List Pt),∀ q∈cutF M cur r,q <:+: cur++r
 | [],_,q,hq=>by simp [cutF] at hq
 | p::r,cur,q,hq=>by
  unfold cutF at hq
  have e:cur++p::r=(cur++[p])++r:=by simp
  split at hq
  ·
   rcases List.mem_cons.1 hq with rfl | hq
   · rw [e];exact (List.prefix_append _ _).isInfix
   ·
    have h1:=cutF_infix M r [p] q hq
    exact h1.trans (List.suffix_append cur (p::r)).isInfix
  · rw [e];exact cutF_infix M r (cur++[p]) q hq
structure GoodL (L:List (List Pt)):Prop where
 num:L.length≤256
 len:∀ l∈L,l.length≤4096
 two:∀ l∈L,2≤l.length
 pts:∀ l∈L,∀ p∈l,ptOk p=true
 dup:∀ l∈L,twiceL l=false
theorem chkL_good {L:List (List Pt)}:chkL L=0↔GoodL L:=by
 unfold chkL
 constructor
 ·
  intro h
  by_cases h1:256<L.length
  · rw [if_pos h1] at h;cases h
  rw [if_neg h1] at h
  by_cases h2:L.any (fun l=>decide (4096<l.length))=true
  · rw [if_pos h2] at h;cases h
  rw [if_neg h2] at h
  by_cases h3:L.any (fun l=>decide (l.length<2))=true
  · rw [if_pos h3] at h;cases h
  rw [if_neg h3] at h
  by_cases h4:L.any (fun l=>l.any (fun p=>!ptOk p))=true
  · rw [if_pos h4] at h;cases h
  rw [if_neg h4] at h
  by_cases h5:L.any twiceL=true
  · rw [if_pos h5] at h;cases h
  simp only [Bool.not_eq_true,List.any_eq_false,decide_eq_true_eq] at h2 h3 h4 h5
  exact ⟨by omega,fun l hl=>by have:=h2 l hl;omega,fun l hl=>by have:=h3 l hl;omega,fun l hl p hp=>by
   have:=h4 l hl p hp
   simpa using this,h5⟩
 ·
  intro h
  rw [if_neg (by have:=h.num;omega),if_neg (by
   rw [Bool.not_eq_true,List.any_eq_false];intro l hl;have:=h.len l hl;simp;omega),if_neg (by
   rw [Bool.not_eq_true,List.any_eq_false];intro l hl;have:=h.two l hl;simp;omega),if_neg (by
   rw [Bool.not_eq_true,List.any_eq_false];intro l hl
   rw [Bool.not_eq_true,List.any_eq_false];intro p hp;rw [h.pts l hl p hp];simp),if_neg (by
   rw [Bool.not_eq_true,List.any_eq_false];intro l hl;rw [h.dup l hl];simp)]
theorem two_split {l:List Pt} (h:2≤l.length):∃ x r,l=x::r∧r≠[]:=by
 match l,h with
 | x::y::r,_=>exact ⟨x,y::r,rfl,by simp⟩

section
variable {L:List (List Pt)} (hg:GoodL L)
include hg
theorem meets_ends {l:List Pt} (hl:l∈L) {z:Pt} (hz:l.head? = some z∨l.getLast? = some z):meets L z=true:=by
 unfold meets
 rw [decide_eq_true_eq]
 have h1:(bump l).count z≤(bumps L).count z:=by
  unfold bumps
  obtain ⟨A,C,rfl⟩:=List.append_of_mem hl
  simp only [List.flatMap_append,List.flatMap_cons,List.count_append]
  omega
 have h2:2≤(bump l).count z:=by
  have hm:z∈l:=by
   rcases hz with hz | hz
   · exact List.mem_of_head? hz
   · exact List.mem_of_getLast? hz
  have hc:0<l.count z:=List.count_pos_iff.2 hm
  unfold bump
  simp only [List.count_append]
  rcases hz with hz | hz
  · rw [hz];simp;omega
  · rw [hz];simp;omega
 omega
theorem parts_piece {q:List Pt} (hq:q∈partsU L):∃ l∈L,∃ x r,l=x::r∧q∈cutF (meets L) [x] r∧PieceM (meets L) x q∧q <:+: l∧meets L x=true:=by
 unfold partsU at hq
 obtain ⟨l,hl,hq⟩:=List.mem_flatMap.1 hq
 obtain ⟨x,r,rfl,hr⟩:=two_split (hg.two l hl)
 exact ⟨x::r,hl,x,r,rfl,hq,cutF_piece _ x r x [] (fun _ h=>by cases h) (.inl rfl) q hq,cutF_infix _ r [x] q hq,meets_ends hg hl (.inl rfl)⟩
theorem parts_shape {q:List Pt} (hq:q∈partsU L):∃ x mid y,q=x::(mid++[y])∧meets L x=true∧meets L y=true∧∀ z∈mid,meets L z=false:=by
 obtain ⟨l,-,h,r,-,-,hp,-,hh⟩:=parts_piece hg hq
 obtain ⟨x,mid,y,rfl,hy,hm,hx⟩:=hp.ex
 exact ⟨x,mid,y,rfl,by rcases hx with rfl | hx<;>assumption,hy,hm⟩
end
end Go.Proofs.YtpempeioeiaijaaGreat
namespace Go.Proofs.YtpempeioeiaijaaGreat

def linesS (p:Pl):List (List Pt):=p.arcs.filterMap (fun a=>pathOf p a.id)

theorem numP_mem {at_:List Pt} {p:Pt} (h:p∈at_):∃ k,∃ hk:k<at_.length,numP at_ p=(k:Int)+1∧at_[k]=p:=by
 induction at_ with
 | nil=>cases h
 | cons q l ih =>
  unfold numP
  by_cases e:q=p
  · exact ⟨0,by simp,by rw [if_pos e];rfl,e⟩
  ·
   rw [if_neg e]
   obtain ⟨k,hk,h1,h2⟩:=ih ((List.mem_cons.1 h).resolve_left fun h=>e h.symm)
   refine ⟨k+1,by simpa using hk,?_,by simpa using h2⟩
   simp only [h1]
   rw [if_neg (by omega)]
   omega
theorem find_range {β:Type} (n:Nat) (f:Nat→β) (g:β→Int) (hg:∀ i,g (f i)=(i:Int)+1) (k:Nat) (hk:k<n):((List.range n).map f).find? (fun x=>g x == (k:Int)+1)=some (f k):=by
 have h:(((List.range n).map f).map g).Pairwise (· < ·):=by
  rw [List.map_map,List.pairwise_map]
  refine List.pairwise_lt_range.imp fun {a b} hab=>?_
  simp only [Function.comp,hg]
  omega
 have:=find_uniq g _ h (f k) (List.mem_map_of_mem (List.mem_range.2 hk))
 rw [hg] at this
 exact this
theorem ndsI_find (at_:List Pt) {k:Nat} (hk:k<at_.length):findNd (ndsI at_) ((k:Int)+1)=some ⟨(k:Int)+1,at_[k]⟩:=by
 unfold findNd ndsI
 rw [find_range at_.length (fun i:Nat=>(⟨(i:Int)+1,at_.getD i ⟨0,0⟩⟩:Nd)) (·.id) (fun _=>rfl) k hk]
 simp [List.getD_eq_getElem?_getD,List.getElem?_eq_getElem hk]
theorem arsI_find (at_:List Pt) (P:List (List Pt)) {k:Nat} (hk:k<P.length):findAr (arsI at_ P) ((k:Int)+1)=some (arI at_ k P[k]):=by
 unfold findAr arsI
 rw [find_range P.length (fun i:Nat=>arI at_ i (P.getD i [])) (·.id) (fun _=>rfl) k hk]
 simp [List.getD_eq_getElem?_getD,List.getElem?_eq_getElem hk]
theorem ndsI_snoc {l:List Pt} {k:Nat} (hk:k<l.length):ndsI (l.take (k+1))=ndsI (l.take k)++[⟨(k:Int)+1,l[k]⟩]:=by
 have h1:(l.take (k+1)).length=k+1:=by rw [List.length_take];omega
 have h2:(l.take k).length=k:=by rw [List.length_take];omega
 unfold ndsI
 rw [h1,h2,List.range_succ,List.map_append]
 congr 1
 ·
  refine List.map_congr_left fun i hi=>?_
  have hi:=List.mem_range.1 hi
  simp only [List.getD_eq_getElem?_getD,List.getElem?_take]
  rw [if_pos (by omega),if_pos hi]
 ·
  simp only [List.map_cons,List.map_nil,List.getD_eq_getElem?_getD,List.getElem?_take]
  rw [if_pos (by omega),List.getElem?_eq_getElem hk]
  rfl
theorem arsI_snoc (at_:List Pt) {P:List (List Pt)} {k:Nat} (hk:k<P.length):arsI at_ (P.take (k+1))=arsI at_ (P.take k)++[arI at_ k P[k]]:=by
 have h1:(P.take (k+1)).length=k+1:=by rw [List.length_take];omega
 have h2:(P.take k).length=k:=by rw [List.length_take];omega
 unfold arsI
 rw [h1,h2,List.range_succ,List.map_append]
 congr 1
 ·
  refine List.map_congr_left fun i hi=>?_
  have hi:=List.mem_range.1 hi
  simp only [List.getD_eq_getElem?_getD,List.getElem?_take]
  rw [if_pos (by omega),if_pos hi]
 ·
  simp only [List.map_cons,List.map_nil,List.getD_eq_getElem?_getD,List.getElem?_take]
  rw [if_pos (by omega),List.getElem?_eq_getElem hk]
  rfl
structure PartI (at_:List Pt) (q:List Pt):Prop where
 ex:∃ x mid y,q=x::(mid++[y])∧x∈at_∧y∈at_
theorem pathOf_planI {at_:List Pt} {P:List (List Pt)} {k:Nat} (hk:k<P.length) (h:PartI at_ P[k]):pathOf (planI at_ P) ((k:Int)+1)=some P[k]:=by
 obtain ⟨x,mid,y,e,hx,hy⟩:=h.ex
 obtain ⟨i,hi,n1,a1⟩:=numP_mem hx
 obtain ⟨j,hj,n2,a2⟩:=numP_mem hy
 unfold pathOf
 have e1:(planI at_ P).arcs=arsI at_ P:=rfl
 have e2:(planI at_ P).nodes=ndsI at_:=rfl
 rw [e1,arsI_find at_ P hk]
 simp only
 have hl:(x::(mid++[y])).getLastD ⟨0,0⟩=y:=by
  rw [List.getLastD_eq_getLast?,← List.cons_append,last_app];rfl
 have ha:arI at_ k P[k]=⟨(k:Int)+1,(i:Int)+1,(j:Int)+1,mid,0,0⟩:=by
  rw [e]
  unfold arI
  rw [hl,List.headD_cons,n1,n2,List.tail_cons,List.dropLast_concat]
 rw [ha]
 unfold hasEnds pathS nodeAt
 rw [e2]
 simp only
 rw [ndsI_find at_ hi,ndsI_find at_ hj]
 simp only [Option.isSome_some,Bool.and_self,if_true,Option.getD_some]
 rw [a1,a2,e]
theorem filterMap_all {α β:Type} {l:List α} {f:α→Option β} {m:List β} (hl:l.length=m.length) (h:∀ k (h1:k<l.length) (h2:k<m.length),f l[k]=some m[k]):l.filterMap f=m:=by
 induction l generalizing m with
 | nil=>exact (List.eq_nil_of_length_eq_zero (by simpa using hl.symm)).symm
 | cons a l ih =>
  cases m with
  | nil=>simp at hl
  | cons b m =>
   have h0:f a=some b:=h 0 (by simp) (by simp)
   rw [List.filterMap_cons_some h0]
   congr 1
   exact ih (by simpa using hl) fun k h1 h2=>h (k+1) (Nat.succ_lt_succ h1) (Nat.succ_lt_succ h2)
theorem lines_planI {at_:List Pt} {P:List (List Pt)} (h:∀ q∈P,PartI at_ q):linesS (planI at_ P)=P:=by
 have hl:(planI at_ P).arcs.length=P.length:=by simp [planI,arsI]
 refine filterMap_all hl fun k h1 h2=>?_
 have e:(planI at_ P).arcs[k].id=(k:Int)+1:=by simp [planI,arsI,arI]
 rw [e]
 exact pathOf_planI h2 (h _ (List.getElem_mem h2))
theorem find_map_id (l:List Ar) (f:Ar→Ar) (hf:∀ a,(f a).id=a.id) (id:Int):findAr (l.map f) id=(findAr l id).map f:=by
 unfold findAr
 rw [List.find?_map]
 congr 1
 have:((fun a:Ar=>a.id == id) ∘ f)=fun a=>a.id == id:=by funext a;simp [hf]
 rw [this]
theorem pathOf_map {p q:Pl} (f:Ar→Ar) (hn:q.nodes=p.nodes) (ha:q.arcs=p.arcs.map f) (h1:∀ a,(f a).id=a.id) (h2:∀ a,(f a).fr=a.fr) (h3:∀ a,(f a).dst=a.dst) (h4:∀ a,(f a).via=a.via) (id:Int):pathOf q id=pathOf p id:=by
 unfold pathOf
 rw [ha,find_map_id _ f h1]
 cases findAr p.arcs id with
 | none=>rfl
 | some a =>
  simp only [Option.map_some]
  unfold hasEnds pathS nodeAt
  rw [hn,h2,h3,h4]
theorem lines_map {p q:Pl} (f:Ar→Ar) (hn:q.nodes=p.nodes) (ha:q.arcs=p.arcs.map f) (h1:∀ a,(f a).id=a.id) (h2:∀ a,(f a).fr=a.fr) (h3:∀ a,(f a).dst=a.dst) (h4:∀ a,(f a).via=a.via):linesS q=linesS p:=by
 unfold linesS
 rw [ha,List.filterMap_map]
 congr 1
 funext a
 simp only [Function.comp,h1]
 exact pathOf_map f hn ha h1 h2 h3 h4 _
theorem lines_labP (p:Pl):linesS (labP p)=linesS p:=by
 refine lines_map (fun a=>labA (bareP p) (sortK (outX (bareP p))) (bareA a)) rfl ?_ (fun _=>rfl) (fun _=>rfl) (fun _=>rfl) (fun _=>rfl)
 show (bareP p).arcs.map _=_
 unfold bareP
 rw [List.map_map]
 rfl
theorem partsL_part {L:List (List Pt)} (hg:GoodL L) {q:List Pt} (hq:q∈partsL L):PartI (meetL L) q:=by
 obtain ⟨x,mid,y,e,hx,hy,-⟩:=parts_shape hg ((srtL_perm _).mem_iff.1 hq)
 exact ⟨x,mid,y,e,meetL_mem.2 hx,meetL_mem.2 hy⟩
theorem lines_bld {L:List (List Pt)} (h:bldZ L=0):linesS (bldP L)=partsL L:=by
 have hg:GoodL L:=by
  unfold bldZ at h
  by_cases h1:chkL L≠0
  · rw [if_pos h1] at h;exact absurd h h1
  · exact chkL_good.1 (by simpa using h1)
 unfold bldP
 rw [if_pos h,lines_labP]
 exact lines_planI fun q hq=>partsL_part hg hq
end Go.Proofs.YtpempeioeiaijaaGreat
namespace Go.Proofs.YtpempeioeiaijaaGreat

theorem twiceL_iff:∀ {l:List Pt},twiceL l=true↔∃ i,∃ h:i+1<l.length,l[i+1]=l[i]
 | []=>by simp [twiceL]
 | [_]=>by simp [twiceL]
 | a::b::l=>by
  rw [twiceL,Bool.or_eq_true,decide_eq_true_eq,twiceL_iff]
  constructor
  ·
   rintro (h | ⟨i,h,e⟩)
   · exact ⟨0,by simp,h⟩
   · exact ⟨i+1,Nat.succ_lt_succ h,e⟩
  ·
   rintro ⟨i,h,e⟩
   cases i with
   | zero=>exact .inl e
   | succ i=>exact .inr ⟨i,Nat.lt_of_succ_lt_succ h,e⟩
section
variable {α:Type} {f:α→List Pt} {xs:List α}
theorem chk1 (h:256<xs.length):chkL (xs.map f)=3:=by
 unfold chkL
 rw [List.length_map,if_pos h]
theorem anyk {q:List Pt→Bool} {k:Nat} (hk:k<xs.length) (h:q (f xs[k])=true):(xs.map f).any q=true :=
 List.any_eq_true.2 ⟨_,List.mem_map_of_mem (List.getElem_mem hk),h⟩
theorem anyn {q:List Pt→Bool} (h:∀ k (hk:k<xs.length),q (f xs[k])=false):(xs.map f).any q=false:=by
 rw [List.any_eq_false]
 intro l hl
 obtain ⟨x,hx,rfl⟩:=List.mem_map.1 hl
 obtain ⟨k,hk,rfl⟩:=List.mem_iff_getElem.1 hx
 rw [h k hk];simp
theorem chk2 (h1:¬ 256<xs.length) {k:Nat} (hk:k<xs.length) (h:4096<(f xs[k]).length):chkL (xs.map f)=3:=by
 unfold chkL
 rw [List.length_map,if_neg h1,if_pos (anyk (q:=fun l=>decide (4096<l.length)) hk (decide_eq_true h))]
theorem chk3 (h1:¬ 256<xs.length) (h2:∀ k (hk:k<xs.length),¬ 4096<(f xs[k]).length) {k:Nat} (hk:k<xs.length) (h:(f xs[k]).length<2):chkL (xs.map f)=1:=by
 unfold chkL
 rw [List.length_map,if_neg h1,anyn (q:=fun l=>decide (4096<l.length)) (fun k hk=>decide_eq_false (h2 k hk)),if_neg (by simp),if_pos (anyk (q:=fun l=>decide (l.length<2)) hk (decide_eq_true h))]
theorem chk4 (h1:¬ 256<xs.length) (h2:∀ k (hk:k<xs.length),¬ 4096<(f xs[k]).length) (h3:∀ k (hk:k<xs.length),¬ (f xs[k]).length<2) {k:Nat} (hk:k<xs.length) {i:Nat} (hi:i<(f xs[k]).length) (h:ptOk (f xs[k])[i]=false):chkL (xs.map f)=2:=by
 unfold chkL
 rw [List.length_map,if_neg h1,anyn (q:=fun l=>decide (4096<l.length)) (fun k hk=>decide_eq_false (h2 k hk)),if_neg (by simp),anyn (q:=fun l=>decide (l.length<2)) (fun k hk=>decide_eq_false (h3 k hk)),if_neg (by simp),
  if_pos (anyk (q:=fun l=>l.any (fun p=>!ptOk p)) hk (List.any_eq_true.2 ⟨_,List.getElem_mem hi,by rw [h];rfl⟩))]
theorem chk5 (h1:¬ 256<xs.length) (h2:∀ k (hk:k<xs.length),¬ 4096<(f xs[k]).length) (h3:∀ k (hk:k<xs.length),¬ (f xs[k]).length<2) (h4:∀ k (hk:k<xs.length) i (hi:i<(f xs[k]).length),ptOk (f xs[k])[i]=true)
  {k:Nat} (hk:k<xs.length) {i:Nat} (hi:i+1<(f xs[k]).length) (h:(f xs[k])[i+1]=(f xs[k])[i]):chkL (xs.map f)=1:=by
 unfold chkL
 have e4:(xs.map f).any (fun l=>l.any (fun p=>!ptOk p))=false:=anyn (q:=fun l=>l.any (fun p=>!ptOk p)) (fun k hk=>by
  rw [List.any_eq_false];intro p hp
  obtain ⟨i,hi,rfl⟩:=List.mem_iff_getElem.1 hp
  rw [h4 k hk i hi];simp)
 rw [List.length_map,if_neg h1,anyn (q:=fun l=>decide (4096<l.length)) (fun k hk=>decide_eq_false (h2 k hk)),if_neg (by simp),anyn (q:=fun l=>decide (l.length<2)) (fun k hk=>decide_eq_false (h3 k hk)),if_neg (by simp),e4,if_neg (by simp),
  if_pos (anyk (q:=twiceL) hk (twiceL_iff.2 ⟨i,hi,h⟩))]
theorem chk6 (h1:¬ 256<xs.length) (h2:∀ k (hk:k<xs.length),¬ 4096<(f xs[k]).length) (h3:∀ k (hk:k<xs.length),¬ (f xs[k]).length<2) (h4:∀ k (hk:k<xs.length) i (hi:i<(f xs[k]).length),ptOk (f xs[k])[i]=true)
  (h5:∀ k (hk:k<xs.length) i (hi:i+1<(f xs[k]).length),¬ (f xs[k])[i+1]=(f xs[k])[i]):chkL (xs.map f)=0:=by
 unfold chkL
 have e4:(xs.map f).any (fun l=>l.any (fun p=>!ptOk p))=false:=anyn (q:=fun l=>l.any (fun p=>!ptOk p)) (fun k hk=>by
  rw [List.any_eq_false];intro p hp
  obtain ⟨i,hi,rfl⟩:=List.mem_iff_getElem.1 hp
  rw [h4 k hk i hi];simp)
 have e5:(xs.map f).any twiceL=false:=anyn (q:=twiceL) (fun k hk=>by
  cases h:twiceL (f xs[k])
  · rfl
  ·
   obtain ⟨i,hi,e⟩:=twiceL_iff.1 h
   exact absurd e (h5 k hk i hi))
 rw [List.length_map,if_neg h1,anyn (q:=fun l=>decide (4096<l.length)) (fun k hk=>decide_eq_false (h2 k hk)),if_neg (by simp),anyn (q:=fun l=>decide (l.length<2)) (fun k hk=>decide_eq_false (h3 k hk)),if_neg (by simp),e4,if_neg (by simp),e5,if_neg (by simp)]
end
end Go.Proofs.YtpempeioeiaijaaGreat
namespace Go.Proofs.YtpempeioeiaijaaGreat
open Go.RowKit Go.Sort

set_option maxRecDepth 100000 in
set_option maxHeartbeats 8000000 in
theorem Check19_spec (v:Value) (xs:List (SV×List Pt)) (w:World) (h:Lns19 w v xs) (hn:xs.length≤1000000) (hs:∀ k (hk:k<xs.length),xs[k].2.length≤1000000) :
  Calls Tryz.prog 25 #[v] w fun e w'=>e=.returned (.int .i64 (chkL (xs.map (·.2))))∧Below w.heap.size w w':=by
 obtain ⟨⟨A,c,rfl,hc1,hc2,hR⟩,hP⟩:=h
 unfold maxLen at hc2
 have HR:=Lib.hid hR;have HP:=Lib.hid hP;have HS:=Lib.hid hs
 have HV:=Lib.hid (fun p W=>Valid19_spec p W)
 obtain ⟨q,hq⟩:∃ q,chkL (xs.map (·.2))=q:=⟨_,rfl⟩
 rw [hq]
 have Hq:=Lib.hid hq
 clear hR hP hs hq
 by_cases h1:256<xs.length
 ·
  have H9:=Lib.hid (chk1 (f:=fun x:SV×List Pt=>x.2) h1)
  go_enter Tryz.func25,Tryz.ntmps25
  go_wp2_with fail
  go_ret
  exact ⟨ret_int (by rw [← Hq.out,H9.out]),bR w⟩
 go_enter Tryz.func25,Tryz.ntmps25
 go_upto_block 0 with fail
 go_wp2_with fail
 go_loopw [19] (fun u wr=>∃ k:Nat,k≤xs.length∧u=.int .i64 k∧w=wr∧∀ j (hj:j<xs.length),j<k→¬ 4096<xs[j].2.length) (fun u _=>xs.length-(intOf u).toNat)
 case atStart => exact ⟨0,Nat.zero_le _,rfl,rfl,fun _ _ h=>by omega⟩
 case round =>
  obtain ⟨k,hk,rfl,rfl,hno⟩:=hrel
  have H2:=Lib.hid hno
  clear hno
  by_cases hlt:k<xs.length
  ·
   obtain ⟨b,o,rfl,hlb,c0⟩:=HR.out.ln hlt
   obtain ⟨A1,c1,hv1,hc3,hc4,-⟩:=HP.out k hlt
   rw [hv1] at c0
   unfold maxLen at hc4
   clear hv1
   by_cases he:4096<xs[k].2.length
   ·
    have H9:=Lib.hid (chk2 (f:=fun x:SV×List Pt=>x.2) h1 hlt he)
    go_wp2_with fail
    go_ret
    exact ⟨ret_int (by rw [← Hq.out,H9.out]),bR _⟩
   ·
    have He:=Lib.hid he
    go_wp2_with fail
    go_roundw
    case rel => exact ⟨k+1,by omega,by go_num,trivial,fun j hj hjk=>if e:j<k then H2.out j hj e else by
      have:j=k:=by omega
      subst this;exact He.out⟩
    case measure => simp [intOf];omega
  ·
   replace H2:=Lib.hid (fun j hj=>H2.out j hj (by omega))
   have hkn:k=xs.length:=by omega
   subst hkn
   go_upto_block 2 with fail
   go_wp2_with fail
   go_loopw [29] (fun u wr=>∃ k:Nat,k≤xs.length∧u=.int .i64 k∧w=wr∧∀ j (hj:j<xs.length),j<k→¬ xs[j].2.length<2) (fun u _=>xs.length-(intOf u).toNat)
   case atStart => exact ⟨0,Nat.zero_le _,rfl,rfl,fun _ _ h=>by omega⟩
   case round =>
    obtain ⟨k,hk,rfl,rfl,hno⟩:=hrel
    have H3:=Lib.hid hno
    clear hno
    by_cases hlt:k<xs.length
    ·
     obtain ⟨b,o,rfl,hlb,c0⟩:=HR.out.ln hlt
     obtain ⟨A1,c1,hv1,hc3,hc4,-⟩:=HP.out k hlt
     rw [hv1] at c0
     unfold maxLen at hc4
     clear hv1
     by_cases he:xs[k].2.length<2
     ·
      have H9:=Lib.hid (chk3 (f:=fun x:SV×List Pt=>x.2) h1 H2.out hlt he)
      go_wp2_with fail
      go_ret
      exact ⟨ret_int (by rw [← Hq.out,H9.out]),bR _⟩
     ·
      have He:=Lib.hid he
      go_wp2_with fail
      go_roundw
      case rel => exact ⟨k+1,by omega,by go_num,trivial,fun j hj hjk=>if e:j<k then H3.out j hj e else by
        have:j=k:=by omega
        subst this;exact He.out⟩
      case measure => simp [intOf];omega
    ·
     replace H3:=Lib.hid (fun j hj=>H3.out j hj (by omega))
     have hkn:k=xs.length:=by omega
     subst hkn
     go_upto_block 4 with fail
     go_wp2_with fail
     go_loopw [39] (fun u wr=>∃ k:Nat,k≤xs.length∧u=.int .i64 k∧Below w.heap.size w wr∧∀ j (hj:j<xs.length),j<k→∀ i (hi:i<xs[j].2.length),ptOk xs[j].2[i]=true) (fun u _=>xs.length-(intOf u).toNat)
     case atStart => exact ⟨0,Nat.zero_le _,rfl,bR _,fun _ _ h=>by omega⟩
     case round =>
      obtain ⟨k,hk,rfl,hb,hno⟩:=hrel
      obtain ⟨w4,rfl⟩:∃ w4:World,w4=wr:=⟨_,rfl⟩
      have H4:=Lib.hid hno;have Hb:=Lib.hid hb
      clear hno hb
      by_cases hlt:k<xs.length
      ·
       obtain ⟨b,o,rfl,hlb,c0⟩:=(HR.out.mono Hb.out).ln hlt
       obtain ⟨A1,c1,hv1,hc3,hc4,hR1⟩:=HP.out k hlt
       have hk1:=HS.out k hlt
       have HR1:=Lib.hid hR1
       rw [hv1] at c0
       unfold maxLen at hc4
       clear hv1 hR1
       obtain ⟨L,hL⟩:∃ L,xs[k].2=L:=⟨_,rfl⟩
       rw [hL] at c0 HR1 hk1 hc3
       have HL:=Lib.hid hL
       clear hL
       go_upto_block 6 with fail
       clear c0 hlb
       go_wp2_with fail
       go_loopw [45] (fun u wr=>∃ i:Nat,i≤L.length∧u=.int .i64 i∧Below w.heap.size w wr∧∀ j (hj:j<L.length),j<i→ptOk L[j]=true) (fun u _=>L.length-(intOf u).toNat)
       case atStart => exact ⟨0,Nat.zero_le _,rfl,Hb.out,fun _ _ h=>by omega⟩
       case round =>
        obtain ⟨i,hi,rfl,hb2,hno2⟩:=hrel
        obtain ⟨w5,rfl⟩:∃ w5:World,w5=wr:=⟨_,rfl⟩
        have H5:=Lib.hid hno2;have Hb2:=Lib.hid hb2
        clear hno2 hb2
        by_cases hli:i<L.length
        ·
         obtain ⟨b1,o1,rfl,hlb1,d0,d1⟩:=(HR1.out.mono Hb2.out).pt hli
         obtain ⟨p,hp⟩:∃ p,L[i]=p:=⟨_,rfl⟩
         rw [hp] at d0 d1
         have Hp:=Lib.hid hp
         have HVp:=Lib.hid (HV.out p)
         clear hp
         go_wp2_with fail
         refine (HVp.out _).mono ?_
         rintro e w1 ⟨rfl,hb3⟩
         have Hb3:=Lib.hid (bT (bA Hb2.out _) hb3)
         clear hb3 d0 d1 hlb1
         cases hpo:ptOk p
         ·
          have H9:=Lib.hid (chk4 (f:=fun x:SV×List Pt=>x.2) h1 H2.out H3.out hlt (i:=i) (by rw [HL.out];exact hli) (by simp only [HL.out,Hp.out];exact hpo))
          clear hpo
          go_wp2_with fail
          go_ret
          exact ⟨ret_int (by rw [← Hq.out,H9.out]),Hb3.out⟩
         ·
          have Hpo:=Lib.hid hpo
          clear hpo
          go_wp2_with fail
          go_roundw
          case rel => exact ⟨i+1,by omega,by go_num,Hb3.out,fun j hj hji=>if e:j<i then H5.out j hj e else by
            have:j=i:=by omega
            subst this;rw [Hp.out];exact Hpo.out⟩
          case measure => simp [intOf];omega
        ·
         go_wp2_with fail
         go_roundw
         case rel => exact ⟨k+1,by omega,by go_num,Hb2.out,fun j hj hjk=>if e:j<k then H4.out j hj e else by
           have:j=k:=by omega
           subst this;intro i' hi'
           have h9:=H5.out i' (by rw [← HL.out];exact hi') (by rw [HL.out] at hi';omega)
           simp only [HL.out];exact h9⟩
         case measure => simp [intOf];omega
      ·
       replace H4:=Lib.hid (fun j hj=>H4.out j hj (by omega))
       have hkn:k=xs.length:=by omega
       subst hkn
       go_upto_block 8 with fail
       go_wp2_with fail
       go_loopw [56] (fun u wr=>∃ k:Nat,k≤xs.length∧u=.int .i64 k∧Below w.heap.size w wr∧∀ j (hj:j<xs.length),j<k→∀ i (hi:i+1<xs[j].2.length),¬ xs[j].2[i+1]=xs[j].2[i]) (fun u _=>xs.length-(intOf u).toNat)
       case atStart => exact ⟨0,Nat.zero_le _,rfl,Hb.out,fun _ _ h=>by omega⟩
       case round =>
        obtain ⟨k,hk,rfl,hb,hno⟩:=hrel
        obtain ⟨w5,rfl⟩:∃ w5:World,w5=wr:=⟨_,rfl⟩
        have H5:=Lib.hid hno
        replace Hb:=Lib.hid hb
        clear hno hb
        by_cases hlt:k<xs.length
        ·
         obtain ⟨b,o,rfl,hlb,c0⟩:=(HR.out.mono Hb.out).ln hlt
         obtain ⟨A1,c1,hv1,hc3,hc4,hR1⟩:=HP.out k hlt
         have hk1:=HS.out k hlt
         have HR1:=Lib.hid hR1
         rw [hv1] at c0
         unfold maxLen at hc4
         clear hv1 hR1
         obtain ⟨L,hL⟩:∃ L,xs[k].2=L:=⟨_,rfl⟩
         rw [hL] at c0 HR1 hk1 hc3
         have hl2:2≤L.length:=by have:=H3.out k hlt;rw [hL] at this;omega
         have HL:=Lib.hid hL
         clear hL
         go_upto_block 10 with fail
         clear c0 hlb
         go_wp2_with fail
         go_loopw [13] (fun u wr=>∃ i:Nat,i+1≤L.length∧u=.int .i64 ((i:Int)+1)∧Below w.heap.size w wr∧∀ j (hj:j+1<L.length),j<i→¬ L[j+1]=L[j]) (fun u _=>L.length-(intOf u).toNat)
         case atStart => exact ⟨0,by omega,rfl,Hb.out,fun _ _ h=>by omega⟩
         case round =>
          obtain ⟨i,hi,rfl,hb2,hno2⟩:=hrel
          obtain ⟨wo,rfl⟩:∃ wo:World,wo=wr:=⟨_,rfl⟩
          have H6:=Lib.hid hno2;have Hb2:=Lib.hid hb2
          clear hno2 hb2
          by_cases hli:i+1<L.length
          ·
           obtain ⟨b1,o1,hA1,hlb1,d0,d1⟩:=(HR1.out.mono Hb2.out).pt hli
           obtain ⟨b2,o2,hA2,-,f0,f1⟩:=(HR1.out.mono Hb2.out).pt (k:=i) (by omega)
           rw [hA1] at hA2
           simp only [Option.some.injEq,Addr.mk.injEq,and_true] at hA2
           obtain ⟨rfl,rfl⟩:=hA2
           subst hA1
           obtain ⟨p,hp⟩:∃ p,L[i+1]=p:=⟨_,rfl⟩
           obtain ⟨r,hr⟩:∃ r,L[i]=r:=⟨_,rfl⟩
           rw [hp] at d0 d1
           rw [hr] at f0 f1
           have Hp:=Lib.hid hp;have Hr:=Lib.hid hr
           have e0:IntKind.i64.wrap (i:Int)=i:=IntWalk.i64_in _ (by omega)
           have heq:=run_eql_pt p r
           clear hp hr
           have z1:((i:Int)+1)<L.length:=by omega
           have z2:(0:Int)≤(i:Int)+1:=by omega
           have z3:(i:Int)<L.length:=by omega
           have z4:(0:Int)≤(i:Int):=by omega
           go_upto_region 31 with fail
           refine rg_start (Since wo) (.run 10 0 0 (.done)) (by kernel_rfl) (bD (bR _)) (by kernel_rfl) (by kernel_rfl) (Nat.le_of_ble_eq_true (by kernel_rfl)) ?_
           intro opsR QR Hops HQrg hS
           iterate 10
            apply rg_p;exact Hops;exact rfl;exact hS;exact rfl
            · intro _ hqc;go_simp;try rfl
            try simp only [pu]
           refine rg_done ?_
           refine HQrg.down _ _ ?_
           have hB:Below wo.heap.size wo wo.drew:=hS
           clear hS HQrg Hops
           have Hb3:=Lib.hid (bT Hb2.out hB)
           clear heq e0 z1 z2 z3 z4 d0 d1 f0 f1
           by_cases hpr:p=r
           ·
            have H9:=Lib.hid (chk5 (f:=fun x:SV×List Pt=>x.2) h1 H2.out H3.out H4.out hlt (i:=i) (by rw [HL.out];exact hli) (by simp only [HL.out,Hp.out,Hr.out];exact hpr))
            simp only [hpr,decide_true]
            go_wp2_with fail
            go_ret
            exact ⟨ret_int (by rw [← Hq.out,H9.out]),Hb3.out⟩
           ·
            have Hpr:=Lib.hid hpr
            simp only [hpr,decide_false]
            clear hpr
            go_wp2_with fail
            go_roundw
            case rel => exact ⟨i+1,by omega,by go_num,Hb3.out,fun j hj hji=>if e:j<i then H6.out j hj e else by
              have:j=i:=by omega
              subst this;rw [Hp.out,Hr.out];exact Hpr.out⟩
            case measure => simp [intOf];omega
          ·
           go_wp2_with fail
           go_roundw
           case rel => exact ⟨k+1,by omega,by go_num,Hb2.out,fun j hj hjk=>if e:j<k then H5.out j hj e else by
             have:j=k:=by omega
             subst this;intro i' hi'
             have h9:=H6.out i' (by rw [← HL.out];exact hi') (by rw [HL.out] at hi';omega)
             simp only [HL.out];exact h9⟩
           case measure => simp [intOf];omega
        ·
         replace H5:=Lib.hid (fun j hj=>H5.out j hj (by omega))
         have H9:=Lib.hid (chk6 (f:=fun x:SV×List Pt=>x.2) h1 H2.out H3.out H4.out H5.out)
         go_wp2_with fail
         go_ret
         exact ⟨ret_int (by rw [← Hq.out,H9.out]),Hb.out⟩
end Go.Proofs.YtpempeioeiaijaaGreat
