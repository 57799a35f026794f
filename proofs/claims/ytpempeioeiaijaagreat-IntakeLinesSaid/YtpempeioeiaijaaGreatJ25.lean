import Derived.Test.YtpempeioeiaijaaGreatJ15
import Derived.Test.YtpempeioeiaijaaGreatRegLB
import Derived.Test.YtpempeioeiaijaaGreatGE
import Derived.Deep.CutBlock
import Derived.ProofKit
import Derived.Test.YtpempeioeiaijaaGreatProg
import Derived.Test.YtpempeioeiaijaaGreatChecked
import Derived.Deep.Slices
import Derived.Maps.Own
import Derived.Maps.Views
import Derived.DeepKeys4
import Derived.Test.YtpempeioeiaijaaGreatJ20
import Derived.Maps.OwnSet
import Derived.Maps.RangeWalk
import Derived.WideKeyEntry
import Derived.ChangeKeysEq
import Derived.Test.YtpempeioeiaijaaGreatJ04
set_option linter.unusedSimpArgs false
set_option linter.unusedVariables false
namespace Go.Proofs.YtpempeioeiaijaaGreat

def twiceL:List Pt→Bool
 | []=>false
 | [_]=>false
 | a::b::l=>decide (b=a) || twiceL (b::l)
def chkL (L:List (List Pt)):Int :=
 if 256<L.length then 3 else if L.any (fun l=>decide (4096<l.length)) then 3 else if L.any (fun l=>decide (l.length<2)) then 1
 else if L.any (fun l=>l.any (fun p=>!ptOk p)) then 2 else if L.any twiceL then 1 else 0
def cutF (M:Pt→Bool):List Pt→List Pt→List (List Pt)
 | _,[]=>[]
 | cur,p::r=>if M p then (cur++[p])::cutF M [p] r else cutF M (cur++[p]) r
def cutL (M:Pt→Bool):List Pt→List (List Pt)
 | []=>[]
 | p::r=>cutF M [p] r
def partsU (L:List (List Pt)):List (List Pt):=L.flatMap (cutL (meets L))
def partsL (L:List (List Pt)):List (List Pt):=srtL (partsU L)
def numP:List Pt→Pt→Int
 | [],_=>0
 | q::l,p=>if q=p then 1 else let n:=numP l p;if n=0 then 0 else n+1
def ndsI (at_:List Pt):List Nd:=(List.range at_.length).map fun i:Nat=>⟨(i:Int)+1,at_.getD i ⟨0,0⟩⟩
def arI (at_:List Pt) (i:Nat) (q:List Pt):Ar:=⟨(i:Int)+1,numP at_ (q.headD ⟨0,0⟩),numP at_ (q.getLastD ⟨0,0⟩),q.tail.dropLast,0,0⟩
def arsI (at_:List Pt) (P:List (List Pt)):List Ar:=(List.range P.length).map fun i:Nat=>arI at_ i (P.getD i [])
def planI (at_:List Pt) (P:List (List Pt)):Pl:=⟨ndsI at_,arsI at_ P,[]⟩
def plI (L:List (List Pt)):Pl:=planI (meetL L) (partsL L)
def bigI (L:List (List Pt)):Bool:=decide (256<(meetL L).length) || (decide (256<(partsL L).length) || (partsL L).any (fun q=>decide (66<q.length)))
def bldZ (L:List (List Pt)):Int :=
 if chkL L≠0 then chkL L else if bigI L then 3 else if checkS (plI L)≠0 then 11 else labZ (plI L)
def plE:Pl:=⟨[],[],[]⟩
def bldP (L:List (List Pt)):Pl:=if bldZ L=0 then labP (plI L) else plE

theorem last_app {α:Type} (l:List α) (x:α) (r:List α):(l++x::r).getLast? = (x::r).getLast? := by
 rw [List.getLast?_append]
 cases h:(x::r).getLast? with
 | none=>simp at h
 | some y=>rfl
section
variable {A C:List (List Pt)} {a b:List Pt} {p:Pt}
end
end Go.Proofs.YtpempeioeiaijaaGreat
namespace Go.Proofs.YtpempeioeiaijaaGreat

structure PieceM (M:Pt→Bool) (h:Pt) (q:List Pt):Prop where
 ex:∃ x mid y,q=x::(mid++[y])∧M y=true∧(∀ z∈mid,M z=false)∧(x=h∨M x=true)
theorem cutF_piece (M:Pt→Bool) (h:Pt):∀ (r:List Pt) (x:Pt) (mid:List Pt),(∀ z∈mid,M z=false)→(x=h∨M x=true)→∀ q∈cutF M (x::mid) r,PieceM M h q
 | [],_,_,_,_,q,hq=>by simp [cutF] at hq
 | p::r,x,mid,hm,hx,q,hq=>by
  unfold cutF at hq
  split at hq
  ·
   rename_i hp
   rcases List.mem_cons.1 hq with rfl | hq
   · exact ⟨x,mid,p,rfl,hp,hm,hx⟩
   · exact cutF_piece M h r p [] (fun _ hz=>by cases hz) (.inr hp) q hq
  ·
   rename_i hp
   refine cutF_piece M h r x (mid++[p]) (fun z hz=>?_) hx q hq
   rcases List.mem_append.1 hz with hz | hz
   · exact hm z hz
   · rw [List.mem_singleton.1 hz];simpa using hp
theorem cutF_infix (M:Pt→Bool):∀ (r cur:List Pt),∀ q∈cutF M cur r,q <:+: cur++r
 | [],_,q,hq=>by simp [cutF] at hq
 | p::r,cur,q,hq=>by
  unfold cutF at hq
  have e:cur++p::r=(cur++[p])++r:=by simp
  split at hq
  ·
   rcases List.mem_cons.1 hq with rfl | hq
   · rw [e];exact (List.prefix_append _ _).isInfix
   ·
    have h1:=cutF_infix M r [p] q hq
    exact h1.trans (List.suffix_append cur (p::r)).isInfix
  · rw [e];exact cutF_infix M r (cur++[p]) q hq
structure GoodL (L:List (List Pt)):Prop where
 num:L.length≤256
 len:∀ l∈L,l.length≤4096
 two:∀ l∈L,2≤l.length
 pts:∀ l∈L,∀ p∈l,ptOk p=true
 dup:∀ l∈L,twiceL l=false
theorem chkL_good {L:List (List Pt)}:chkL L=0↔GoodL L:=by
 unfold chkL
 constructor
 ·
  intro h
  by_cases h1:256<L.length
  · rw [if_pos h1] at h;cases h
  rw [if_neg h1] at h
  by_cases h2:L.any (fun l=>decide (4096<l.length))=true
  · rw [if_pos h2] at h;cases h
  rw [if_neg h2] at h
  by_cases h3:L.any (fun l=>decide (l.length<2))=true
  · rw [if_pos h3] at h;cases h
  rw [if_neg h3] at h
  by_cases h4:L.any (fun l=>l.any (fun p=>!ptOk p))=true
  · rw [if_pos h4] at h;cases h
  rw [if_neg h4] at h
  by_cases h5:L.any twiceL=true
  · rw [if_pos h5] at h;cases h
  simp only [Bool.not_eq_true,List.any_eq_false,decide_eq_true_eq] at h2 h3 h4 h5
  exact ⟨by omega,fun l hl=>by have:=h2 l hl;omega,fun l hl=>by have:=h3 l hl;omega,fun l hl p hp=>by
   have:=h4 l hl p hp
   simpa using this,h5⟩
 ·
  intro h
  rw [if_neg (by have:=h.num;omega),if_neg (by
   rw [Bool.not_eq_true,List.any_eq_false];intro l hl;have:=h.len l hl;simp;omega),if_neg (by
   rw [Bool.not_eq_true,List.any_eq_false];intro l hl;have:=h.two l hl;simp;omega),if_neg (by
   rw [Bool.not_eq_true,List.any_eq_false];intro l hl
   rw [Bool.not_eq_true,List.any_eq_false];intro p hp;rw [h.pts l hl p hp];simp),if_neg (by
   rw [Bool.not_eq_true,List.any_eq_false];intro l hl;rw [h.dup l hl];simp)]
theorem two_split {l:List Pt} (h:2≤l.length):∃ x r,l=x::r∧r≠[]:=by
 match l,h with
 | x::y::r,_=>exact ⟨x,y::r,rfl,by simp⟩

section
variable {L:List (List Pt)} (hg:GoodL L)
include hg
theorem meets_ends {l:List Pt} (hl:l∈L) {z:Pt} (hz:l.head? = some z∨l.getLast? = some z):meets L z=true:=by
 unfold meets
 rw [decide_eq_true_eq]
 have h1:(bump l).count z≤(bumps L).count z:=by
  unfold bumps
  obtain ⟨A,C,rfl⟩:=List.append_of_mem hl
  simp only [List.flatMap_append,List.flatMap_cons,List.count_append]
  omega
 have h2:2≤(bump l).count z:=by
  have hm:z∈l:=by
   rcases hz with hz | hz
   · exact List.mem_of_head? hz
   · exact List.mem_of_getLast? hz
  have hc:0<l.count z:=List.count_pos_iff.2 hm
  unfold bump
  simp only [List.count_append]
  rcases hz with hz | hz
  · rw [hz];simp;omega
  · rw [hz];simp;omega
 omega
theorem parts_piece {q:List Pt} (hq:q∈partsU L):∃ l∈L,∃ x r,l=x::r∧q∈cutF (meets L) [x] r∧PieceM (meets L) x q∧q <:+: l∧meets L x=true:=by
 unfold partsU at hq
 obtain ⟨l,hl,hq⟩:=List.mem_flatMap.1 hq
 obtain ⟨x,r,rfl,hr⟩:=two_split (hg.two l hl)
 exact ⟨x::r,hl,x,r,rfl,hq,cutF_piece _ x r x [] (fun _ h=>by cases h) (.inl rfl) q hq,cutF_infix _ r [x] q hq,meets_ends hg hl (.inl rfl)⟩
theorem parts_shape {q:List Pt} (hq:q∈partsU L):∃ x mid y,q=x::(mid++[y])∧meets L x=true∧meets L y=true∧∀ z∈mid,meets L z=false:=by
 obtain ⟨l,-,h,r,-,-,hp,-,hh⟩:=parts_piece hg hq
 obtain ⟨x,mid,y,rfl,hy,hm,hx⟩:=hp.ex
 exact ⟨x,mid,y,rfl,by rcases hx with rfl | hx<;>assumption,hy,hm⟩
end
end Go.Proofs.YtpempeioeiaijaaGreat
namespace Go.Proofs.YtpempeioeiaijaaGreat

def linesS (p:Pl):List (List Pt):=p.arcs.filterMap (fun a=>pathOf p a.id)

theorem numP_mem {at_:List Pt} {p:Pt} (h:p∈at_):∃ k,∃ hk:k<at_.length,numP at_ p=(k:Int)+1∧at_[k]=p:=by
 induction at_ with
 | nil=>cases h
 | cons q l ih =>
  unfold numP
  by_cases e:q=p
  · exact ⟨0,by simp,by rw [if_pos e];rfl,e⟩
  ·
   rw [if_neg e]
   obtain ⟨k,hk,h1,h2⟩:=ih ((List.mem_cons.1 h).resolve_left fun h=>e h.symm)
   refine ⟨k+1,by simpa using hk,?_,by simpa using h2⟩
   simp only [h1]
   rw [if_neg (by omega)]
   omega
theorem ndsI_snoc {l:List Pt} {k:Nat} (hk:k<l.length):ndsI (l.take (k+1))=ndsI (l.take k)++[⟨(k:Int)+1,l[k]⟩]:=by
 have h1:(l.take (k+1)).length=k+1:=by rw [List.length_take];omega
 have h2:(l.take k).length=k:=by rw [List.length_take];omega
 unfold ndsI
 rw [h1,h2,List.range_succ,List.map_append]
 congr 1
 ·
  refine List.map_congr_left fun i hi=>?_
  have hi:=List.mem_range.1 hi
  simp only [List.getD_eq_getElem?_getD,List.getElem?_take]
  rw [if_pos (by omega),if_pos hi]
 ·
  simp only [List.map_cons,List.map_nil,List.getD_eq_getElem?_getD,List.getElem?_take]
  rw [if_pos (by omega),List.getElem?_eq_getElem hk]
  rfl
theorem arsI_snoc (at_:List Pt) {P:List (List Pt)} {k:Nat} (hk:k<P.length):arsI at_ (P.take (k+1))=arsI at_ (P.take k)++[arI at_ k P[k]]:=by
 have h1:(P.take (k+1)).length=k+1:=by rw [List.length_take];omega
 have h2:(P.take k).length=k:=by rw [List.length_take];omega
 unfold arsI
 rw [h1,h2,List.range_succ,List.map_append]
 congr 1
 ·
  refine List.map_congr_left fun i hi=>?_
  have hi:=List.mem_range.1 hi
  simp only [List.getD_eq_getElem?_getD,List.getElem?_take]
  rw [if_pos (by omega),if_pos hi]
 ·
  simp only [List.map_cons,List.map_nil,List.getD_eq_getElem?_getD,List.getElem?_take]
  rw [if_pos (by omega),List.getElem?_eq_getElem hk]
  rfl
structure PartI (at_:List Pt) (q:List Pt):Prop where
 ex:∃ x mid y,q=x::(mid++[y])∧x∈at_∧y∈at_
theorem partsL_part {L:List (List Pt)} (hg:GoodL L) {q:List Pt} (hq:q∈partsL L):PartI (meetL L) q:=by
 obtain ⟨x,mid,y,e,hx,hy,-⟩:=parts_shape hg ((srtL_perm _).mem_iff.1 hq)
 exact ⟨x,mid,y,e,meetL_mem.2 hx,meetL_mem.2 hy⟩
end Go.Proofs.YtpempeioeiaijaaGreat
namespace Go.Proofs.YtpempeioeiaijaaGreat

theorem twiceL_iff:∀ {l:List Pt},twiceL l=true↔∃ i,∃ h:i+1<l.length,l[i+1]=l[i]
 | []=>by simp [twiceL]
 | [_]=>by simp [twiceL]
 | a::b::l=>by
  rw [twiceL,Bool.or_eq_true,decide_eq_true_eq,twiceL_iff]
  constructor
  ·
   rintro (h | ⟨i,h,e⟩)
   · exact ⟨0,by simp,h⟩
   · exact ⟨i+1,Nat.succ_lt_succ h,e⟩
  ·
   rintro ⟨i,h,e⟩
   cases i with
   | zero=>exact .inl e
   | succ i=>exact .inr ⟨i,Nat.lt_of_succ_lt_succ h,e⟩
section
variable {α:Type} {f:α→List Pt} {xs:List α}
theorem chk1 (h:256<xs.length):chkL (xs.map f)=3:=by
 unfold chkL
 rw [List.length_map,if_pos h]
theorem anyk {q:List Pt→Bool} {k:Nat} (hk:k<xs.length) (h:q (f xs[k])=true):(xs.map f).any q=true :=
 List.any_eq_true.2 ⟨_,List.mem_map_of_mem (List.getElem_mem hk),h⟩
theorem anyn {q:List Pt→Bool} (h:∀ k (hk:k<xs.length),q (f xs[k])=false):(xs.map f).any q=false:=by
 rw [List.any_eq_false]
 intro l hl
 obtain ⟨x,hx,rfl⟩:=List.mem_map.1 hl
 obtain ⟨k,hk,rfl⟩:=List.mem_iff_getElem.1 hx
 rw [h k hk];simp
theorem chk2 (h1:¬ 256<xs.length) {k:Nat} (hk:k<xs.length) (h:4096<(f xs[k]).length):chkL (xs.map f)=3:=by
 unfold chkL
 rw [List.length_map,if_neg h1,if_pos (anyk (q:=fun l=>decide (4096<l.length)) hk (decide_eq_true h))]
theorem chk3 (h1:¬ 256<xs.length) (h2:∀ k (hk:k<xs.length),¬ 4096<(f xs[k]).length) {k:Nat} (hk:k<xs.length) (h:(f xs[k]).length<2):chkL (xs.map f)=1:=by
 unfold chkL
 rw [List.length_map,if_neg h1,anyn (q:=fun l=>decide (4096<l.length)) (fun k hk=>decide_eq_false (h2 k hk)),if_neg (by simp),if_pos (anyk (q:=fun l=>decide (l.length<2)) hk (decide_eq_true h))]
theorem chk4 (h1:¬ 256<xs.length) (h2:∀ k (hk:k<xs.length),¬ 4096<(f xs[k]).length) (h3:∀ k (hk:k<xs.length),¬ (f xs[k]).length<2) {k:Nat} (hk:k<xs.length) {i:Nat} (hi:i<(f xs[k]).length) (h:ptOk (f xs[k])[i]=false):chkL (xs.map f)=2:=by
 unfold chkL
 rw [List.length_map,if_neg h1,anyn (q:=fun l=>decide (4096<l.length)) (fun k hk=>decide_eq_false (h2 k hk)),if_neg (by simp),anyn (q:=fun l=>decide (l.length<2)) (fun k hk=>decide_eq_false (h3 k hk)),if_neg (by simp),
  if_pos (anyk (q:=fun l=>l.any (fun p=>!ptOk p)) hk (List.any_eq_true.2 ⟨_,List.getElem_mem hi,by rw [h];rfl⟩))]
theorem chk5 (h1:¬ 256<xs.length) (h2:∀ k (hk:k<xs.length),¬ 4096<(f xs[k]).length) (h3:∀ k (hk:k<xs.length),¬ (f xs[k]).length<2) (h4:∀ k (hk:k<xs.length) i (hi:i<(f xs[k]).length),ptOk (f xs[k])[i]=true)
  {k:Nat} (hk:k<xs.length) {i:Nat} (hi:i+1<(f xs[k]).length) (h:(f xs[k])[i+1]=(f xs[k])[i]):chkL (xs.map f)=1:=by
 unfold chkL
 have e4:(xs.map f).any (fun l=>l.any (fun p=>!ptOk p))=false:=anyn (q:=fun l=>l.any (fun p=>!ptOk p)) (fun k hk=>by
  rw [List.any_eq_false];intro p hp
  obtain ⟨i,hi,rfl⟩:=List.mem_iff_getElem.1 hp
  rw [h4 k hk i hi];simp)
 rw [List.length_map,if_neg h1,anyn (q:=fun l=>decide (4096<l.length)) (fun k hk=>decide_eq_false (h2 k hk)),if_neg (by simp),anyn (q:=fun l=>decide (l.length<2)) (fun k hk=>decide_eq_false (h3 k hk)),if_neg (by simp),e4,if_neg (by simp),
  if_pos (anyk (q:=twiceL) hk (twiceL_iff.2 ⟨i,hi,h⟩))]
theorem chk6 (h1:¬ 256<xs.length) (h2:∀ k (hk:k<xs.length),¬ 4096<(f xs[k]).length) (h3:∀ k (hk:k<xs.length),¬ (f xs[k]).length<2) (h4:∀ k (hk:k<xs.length) i (hi:i<(f xs[k]).length),ptOk (f xs[k])[i]=true)
  (h5:∀ k (hk:k<xs.length) i (hi:i+1<(f xs[k]).length),¬ (f xs[k])[i+1]=(f xs[k])[i]):chkL (xs.map f)=0:=by
 unfold chkL
 have e4:(xs.map f).any (fun l=>l.any (fun p=>!ptOk p))=false:=anyn (q:=fun l=>l.any (fun p=>!ptOk p)) (fun k hk=>by
  rw [List.any_eq_false];intro p hp
  obtain ⟨i,hi,rfl⟩:=List.mem_iff_getElem.1 hp
  rw [h4 k hk i hi];simp)
 have e5:(xs.map f).any twiceL=false:=anyn (q:=twiceL) (fun k hk=>by
  cases h:twiceL (f xs[k])
  · rfl
  ·
   obtain ⟨i,hi,e⟩:=twiceL_iff.1 h
   exact absurd e (h5 k hk i hi))
 rw [List.length_map,if_neg h1,anyn (q:=fun l=>decide (4096<l.length)) (fun k hk=>decide_eq_false (h2 k hk)),if_neg (by simp),anyn (q:=fun l=>decide (l.length<2)) (fun k hk=>decide_eq_false (h3 k hk)),if_neg (by simp),e4,if_neg (by simp),e5,if_neg (by simp)]
end
end Go.Proofs.YtpempeioeiaijaaGreat
namespace Go.Proofs.YtpempeioeiaijaaGreat
open Go.RowKit Go.Sort

set_option maxRecDepth 100000 in
set_option maxHeartbeats 8000000 in
theorem Check19_spec (v:Value) (xs:List (SV×List Pt)) (w:World) (h:Lns19 w v xs) (hn:xs.length≤1000000) (hs:∀ k (hk:k<xs.length),xs[k].2.length≤1000000) :
  Calls Tryz.prog 25 #[v] w fun e w'=>e=.returned (.int .i64 (chkL (xs.map (·.2))))∧Below w.heap.size w w':=by
 obtain ⟨⟨A,c,rfl,hc1,hc2,hR⟩,hP⟩:=h
 unfold maxLen at hc2
 have HR:=Lib.hid hR;have HP:=Lib.hid hP;have HS:=Lib.hid hs
 have HV:=Lib.hid (fun p W=>Valid19_spec p W)
 obtain ⟨q,hq⟩:∃ q,chkL (xs.map (·.2))=q:=⟨_,rfl⟩
 rw [hq]
 have Hq:=Lib.hid hq
 clear hR hP hs hq
 by_cases h1:256<xs.length
 ·
  have H9:=Lib.hid (chk1 (f:=fun x:SV×List Pt=>x.2) h1)
  go_enter Tryz.func25,Tryz.ntmps25
  go_wp2_with fail
  go_ret
  exact ⟨ret_int (by rw [← Hq.out,H9.out]),bR w⟩
 go_enter Tryz.func25,Tryz.ntmps25
 go_upto_block 0 with fail
 go_wp2_with fail
 go_loopw [19] (fun u wr=>∃ k:Nat,k≤xs.length∧u=.int .i64 k∧w=wr∧∀ j (hj:j<xs.length),j<k→¬ 4096<xs[j].2.length) (fun u _=>xs.length-(intOf u).toNat)
 case atStart => exact ⟨0,Nat.zero_le _,rfl,rfl,fun _ _ h=>by omega⟩
 case round =>
  obtain ⟨k,hk,rfl,rfl,hno⟩:=hrel
  have H2:=Lib.hid hno
  clear hno
  by_cases hlt:k<xs.length
  ·
   obtain ⟨b,o,rfl,hlb,c0⟩:=HR.out.ln hlt
   obtain ⟨A1,c1,hv1,hc3,hc4,-⟩:=HP.out k hlt
   rw [hv1] at c0
   unfold maxLen at hc4
   clear hv1
   by_cases he:4096<xs[k].2.length
   ·
    have H9:=Lib.hid (chk2 (f:=fun x:SV×List Pt=>x.2) h1 hlt he)
    go_wp2_with fail
    go_ret
    exact ⟨ret_int (by rw [← Hq.out,H9.out]),bR _⟩
   ·
    have He:=Lib.hid he
    go_wp2_with fail
    go_roundw
    case rel => exact ⟨k+1,by omega,by go_num,trivial,fun j hj hjk=>if e:j<k then H2.out j hj e else by
      have:j=k:=by omega
      subst this;exact He.out⟩
    case measure => simp [intOf];omega
  ·
   replace H2:=Lib.hid (fun j hj=>H2.out j hj (by omega))
   have hkn:k=xs.length:=by omega
   subst hkn
   go_upto_block 2 with fail
   go_wp2_with fail
   go_loopw [29] (fun u wr=>∃ k:Nat,k≤xs.length∧u=.int .i64 k∧w=wr∧∀ j (hj:j<xs.length),j<k→¬ xs[j].2.length<2) (fun u _=>xs.length-(intOf u).toNat)
   case atStart => exact ⟨0,Nat.zero_le _,rfl,rfl,fun _ _ h=>by omega⟩
   case round =>
    obtain ⟨k,hk,rfl,rfl,hno⟩:=hrel
    have H3:=Lib.hid hno
    clear hno
    by_cases hlt:k<xs.length
    ·
     obtain ⟨b,o,rfl,hlb,c0⟩:=HR.out.ln hlt
     obtain ⟨A1,c1,hv1,hc3,hc4,-⟩:=HP.out k hlt
     rw [hv1] at c0
     unfold maxLen at hc4
     clear hv1
     by_cases he:xs[k].2.length<2
     ·
      have H9:=Lib.hid (chk3 (f:=fun x:SV×List Pt=>x.2) h1 H2.out hlt he)
      go_wp2_with fail
      go_ret
      exact ⟨ret_int (by rw [← Hq.out,H9.out]),bR _⟩
     ·
      have He:=Lib.hid he
      go_wp2_with fail
      go_roundw
      case rel => exact ⟨k+1,by omega,by go_num,trivial,fun j hj hjk=>if e:j<k then H3.out j hj e else by
        have:j=k:=by omega
        subst this;exact He.out⟩
      case measure => simp [intOf];omega
    ·
     replace H3:=Lib.hid (fun j hj=>H3.out j hj (by omega))
     have hkn:k=xs.length:=by omega
     subst hkn
     go_upto_block 4 with fail
     go_wp2_with fail
     go_loopw [39] (fun u wr=>∃ k:Nat,k≤xs.length∧u=.int .i64 k∧Below w.heap.size w wr∧∀ j (hj:j<xs.length),j<k→∀ i (hi:i<xs[j].2.length),ptOk xs[j].2[i]=true) (fun u _=>xs.length-(intOf u).toNat)
     case atStart => exact ⟨0,Nat.zero_le _,rfl,bR _,fun _ _ h=>by omega⟩
     case round =>
      obtain ⟨k,hk,rfl,hb,hno⟩:=hrel
      obtain ⟨w4,rfl⟩:∃ w4:World,w4=wr:=⟨_,rfl⟩
      have H4:=Lib.hid hno;have Hb:=Lib.hid hb
      clear hno hb
      by_cases hlt:k<xs.length
      ·
       obtain ⟨b,o,rfl,hlb,c0⟩:=(HR.out.mono Hb.out).ln hlt
       obtain ⟨A1,c1,hv1,hc3,hc4,hR1⟩:=HP.out k hlt
       have hk1:=HS.out k hlt
       have HR1:=Lib.hid hR1
       rw [hv1] at c0
       unfold maxLen at hc4
       clear hv1 hR1
       obtain ⟨L,hL⟩:∃ L,xs[k].2=L:=⟨_,rfl⟩
       rw [hL] at c0 HR1 hk1 hc3
       have HL:=Lib.hid hL
       clear hL
       go_upto_block 6 with fail
       clear c0 hlb
       go_wp2_with fail
       go_loopw [45] (fun u wr=>∃ i:Nat,i≤L.length∧u=.int .i64 i∧Below w.heap.size w wr∧∀ j (hj:j<L.length),j<i→ptOk L[j]=true) (fun u _=>L.length-(intOf u).toNat)
       case atStart => exact ⟨0,Nat.zero_le _,rfl,Hb.out,fun _ _ h=>by omega⟩
       case round =>
        obtain ⟨i,hi,rfl,hb2,hno2⟩:=hrel
        obtain ⟨w5,rfl⟩:∃ w5:World,w5=wr:=⟨_,rfl⟩
        have H5:=Lib.hid hno2;have Hb2:=Lib.hid hb2
        clear hno2 hb2
        by_cases hli:i<L.length
        ·
         obtain ⟨b1,o1,rfl,hlb1,d0,d1⟩:=(HR1.out.mono Hb2.out).pt hli
         obtain ⟨p,hp⟩:∃ p,L[i]=p:=⟨_,rfl⟩
         rw [hp] at d0 d1
         have Hp:=Lib.hid hp
         have HVp:=Lib.hid (HV.out p)
         clear hp
         go_wp2_with fail
         refine (HVp.out _).mono ?_
         rintro e w1 ⟨rfl,hb3⟩
         have Hb3:=Lib.hid (bT (bA Hb2.out _) hb3)
         clear hb3 d0 d1 hlb1
         cases hpo:ptOk p
         ·
          have H9:=Lib.hid (chk4 (f:=fun x:SV×List Pt=>x.2) h1 H2.out H3.out hlt (i:=i) (by rw [HL.out];exact hli) (by simp only [HL.out,Hp.out];exact hpo))
          clear hpo
          go_wp2_with fail
          go_ret
          exact ⟨ret_int (by rw [← Hq.out,H9.out]),Hb3.out⟩
         ·
          have Hpo:=Lib.hid hpo
          clear hpo
          go_wp2_with fail
          go_roundw
          case rel => exact ⟨i+1,by omega,by go_num,Hb3.out,fun j hj hji=>if e:j<i then H5.out j hj e else by
            have:j=i:=by omega
            subst this;rw [Hp.out];exact Hpo.out⟩
          case measure => simp [intOf];omega
        ·
         go_wp2_with fail
         go_roundw
         case rel => exact ⟨k+1,by omega,by go_num,Hb2.out,fun j hj hjk=>if e:j<k then H4.out j hj e else by
           have:j=k:=by omega
           subst this;intro i' hi'
           have h9:=H5.out i' (by rw [← HL.out];exact hi') (by rw [HL.out] at hi';omega)
           simp only [HL.out];exact h9⟩
         case measure => simp [intOf];omega
      ·
       replace H4:=Lib.hid (fun j hj=>H4.out j hj (by omega))
       have hkn:k=xs.length:=by omega
       subst hkn
       go_upto_block 8 with fail
       go_wp2_with fail
       go_loopw [56] (fun u wr=>∃ k:Nat,k≤xs.length∧u=.int .i64 k∧Below w.heap.size w wr∧∀ j (hj:j<xs.length),j<k→∀ i (hi:i+1<xs[j].2.length),¬ xs[j].2[i+1]=xs[j].2[i]) (fun u _=>xs.length-(intOf u).toNat)
       case atStart => exact ⟨0,Nat.zero_le _,rfl,Hb.out,fun _ _ h=>by omega⟩
       case round =>
        obtain ⟨k,hk,rfl,hb,hno⟩:=hrel
        obtain ⟨w5,rfl⟩:∃ w5:World,w5=wr:=⟨_,rfl⟩
        have H5:=Lib.hid hno
        replace Hb:=Lib.hid hb
        clear hno hb
        by_cases hlt:k<xs.length
        ·
         obtain ⟨b,o,rfl,hlb,c0⟩:=(HR.out.mono Hb.out).ln hlt
         obtain ⟨A1,c1,hv1,hc3,hc4,hR1⟩:=HP.out k hlt
         have hk1:=HS.out k hlt
         have HR1:=Lib.hid hR1
         rw [hv1] at c0
         unfold maxLen at hc4
         clear hv1 hR1
         obtain ⟨L,hL⟩:∃ L,xs[k].2=L:=⟨_,rfl⟩
         rw [hL] at c0 HR1 hk1 hc3
         have hl2:2≤L.length:=by have:=H3.out k hlt;rw [hL] at this;omega
         have HL:=Lib.hid hL
         clear hL
         go_upto_block 10 with fail
         clear c0 hlb
         go_wp2_with fail
         go_loopw [13] (fun u wr=>∃ i:Nat,i+1≤L.length∧u=.int .i64 ((i:Int)+1)∧Below w.heap.size w wr∧∀ j (hj:j+1<L.length),j<i→¬ L[j+1]=L[j]) (fun u _=>L.length-(intOf u).toNat)
         case atStart => exact ⟨0,by omega,rfl,Hb.out,fun _ _ h=>by omega⟩
         case round =>
          obtain ⟨i,hi,rfl,hb2,hno2⟩:=hrel
          obtain ⟨wo,rfl⟩:∃ wo:World,wo=wr:=⟨_,rfl⟩
          have H6:=Lib.hid hno2;have Hb2:=Lib.hid hb2
          clear hno2 hb2
          by_cases hli:i+1<L.length
          ·
           obtain ⟨b1,o1,hA1,hlb1,d0,d1⟩:=(HR1.out.mono Hb2.out).pt hli
           obtain ⟨b2,o2,hA2,-,f0,f1⟩:=(HR1.out.mono Hb2.out).pt (k:=i) (by omega)
           rw [hA1] at hA2
           simp only [Option.some.injEq,Addr.mk.injEq,and_true] at hA2
           obtain ⟨rfl,rfl⟩:=hA2
           subst hA1
           obtain ⟨p,hp⟩:∃ p,L[i+1]=p:=⟨_,rfl⟩
           obtain ⟨r,hr⟩:∃ r,L[i]=r:=⟨_,rfl⟩
           rw [hp] at d0 d1
           rw [hr] at f0 f1
           have Hp:=Lib.hid hp;have Hr:=Lib.hid hr
           have e0:IntKind.i64.wrap (i:Int)=i:=IntWalk.i64_in _ (by omega)
           have heq:=run_eql_pt p r
           clear hp hr
           have z1:((i:Int)+1)<L.length:=by omega
           have z2:(0:Int)≤(i:Int)+1:=by omega
           have z3:(i:Int)<L.length:=by omega
           have z4:(0:Int)≤(i:Int):=by omega
           go_upto_region 31 with fail
           refine rg_start (Since wo) (.run 10 0 0 (.done)) (by kernel_rfl) (bD (bR _)) (by kernel_rfl) (by kernel_rfl) (Nat.le_of_ble_eq_true (by kernel_rfl)) ?_
           intro opsR QR Hops HQrg hS
           iterate 10
            apply rg_p;exact Hops;exact rfl;exact hS;exact rfl
            · intro _ hqc;go_simp;try rfl
            try simp only [pu]
           refine rg_done ?_
           refine HQrg.down _ _ ?_
           have hB:Below wo.heap.size wo wo.drew:=hS
           clear hS HQrg Hops
           have Hb3:=Lib.hid (bT Hb2.out hB)
           clear heq e0 z1 z2 z3 z4 d0 d1 f0 f1
           by_cases hpr:p=r
           ·
            have H9:=Lib.hid (chk5 (f:=fun x:SV×List Pt=>x.2) h1 H2.out H3.out H4.out hlt (i:=i) (by rw [HL.out];exact hli) (by simp only [HL.out,Hp.out,Hr.out];exact hpr))
            simp only [hpr,decide_true]
            go_wp2_with fail
            go_ret
            exact ⟨ret_int (by rw [← Hq.out,H9.out]),Hb3.out⟩
           ·
            have Hpr:=Lib.hid hpr
            simp only [hpr,decide_false]
            clear hpr
            go_wp2_with fail
            go_roundw
            case rel => exact ⟨i+1,by omega,by go_num,Hb3.out,fun j hj hji=>if e:j<i then H6.out j hj e else by
              have:j=i:=by omega
              subst this;rw [Hp.out,Hr.out];exact Hpr.out⟩
            case measure => simp [intOf];omega
          ·
           go_wp2_with fail
           go_roundw
           case rel => exact ⟨k+1,by omega,by go_num,Hb2.out,fun j hj hjk=>if e:j<k then H5.out j hj e else by
             have:j=k:=by omega
             subst this;intro i' hi'
             have h9:=H6.out i' (by rw [← HL.out];exact hi') (by rw [HL.out] at hi';omega)
             simp only [HL.out];exact h9⟩
           case measure => simp [intOf];omega
        ·
         replace H5:=Lib.hid (fun j hj=>H5.out j hj (by omega))
         have H9:=Lib.hid (chk6 (f:=fun x:SV×List Pt=>x.2) h1 H2.out H3.out H4.out H5.out)
         go_wp2_with fail
         go_ret
         exact ⟨ret_int (by rw [← Hq.out,H9.out]),Hb.out⟩
end Go.Proofs.YtpempeioeiaijaaGreat
namespace Go.Proofs.YtpempeioeiaijaaGreat
open Go.ChangeShapes Go.WideShapes Go.RowKit

theorem own_knob:ownKnob Tryz.prog.godebug=none:=by kernel_rfl
theorem laid_out:laidOutB Tryz.prog=true:=by kernel_rfl

section
variable {H:Type} {enc:TypeId×Value→H} {P:Program}
theorem arg_again {t:TypeId} (hl:laidOutB P=true) (hr:P.readableRec t=true) (hrow:t<P.types.size) {W W':World} {v:Value} {d:DataW H} {ps:List MemPlace} {sp:Nat→Bool}
  (h:DataW.Trod enc P W 0 (fun _=>true) true t v d ps) (hb:Below W.heap.size W W') (hlt:∀ x∈ps,x.block<W.heap.size) (hs:∀ x∈ps,sp x.block=true):DataW.Trod enc P W' 0 sp true t v d ps :=
 WideElems.Trod_stays hl hr hrow h (fun x hx=>hb.same (hlt x hx)) hs

theorem law_post {f:Func} {s:ChangeSpec} {W W':World} {args:Array Value} {v:Value} {ds gs:List (DataW H)} {before:List MemPlace}
  (hW:DataW.Whole enc P f.params.toList s.vars false W args.toList ds gs before) (hv:s.vars=[]) (hb:Below W.heap.size W W')
  (hres:∀ (b:Nat) (sp:Nat→Bool) (hd:Bool),DataW.TrodAll enc P W' b sp hd f.resultTypes.toList (v.resultList f.resultTypes.size) (s.fn H (ds++gs)).results [])
  (hargs:∀ sp:Nat→Bool,(∀ p∈before,sp p.block=true)→DataW.TrodAll enc P W' 0 sp true f.params.toList args.toList (s.fn H (ds++gs)).args before)
  (hvars:(s.fn H (ds++gs)).vars=[])
  (hok:∀ (j:Nat) (t:TypeId) (r:Value),f.resultTypes[j]? = some t→(v.resultList f.resultTypes.size)[j]? = some r→Value.okWide P W' .any 0 t r) :
  s.post enc P f false true false false W args v W':=by
 have hlow:∀ p∈before,p.block<W.heap.size:=fun p hp=>hW.lt p hp
 have hno:∀ sp:Nat→Bool,DataW.TrodVars enc P W' sp s.vars (s.fn H (ds++gs)).vars []:=fun sp=>by rw [hv,hvars];rfl
 have htest:∀ p∈before,(fun b=>decide (b<W.heap.size)) p.block=true:=fun p hp=>decide_eq_true (hlow p hp)
 refine ⟨ds,gs,before,[],before,[],hW,hres _ _ _,hargs _ htest,hno _,?_,fun hc=>by cases hc⟩
 exact World.keptBut_mono (fun p hp=>⟨hp,Or.inr (Or.inl hp)⟩) (hb.frame (·∈before))
end
end Go.Proofs.YtpempeioeiaijaaGreat
namespace Go.Proofs.YtpempeioeiaijaaGreat
open Go.RowKit

theorem keyed_pt:Maps.Keyed Tryz.prog 42:=Maps.Keyed.of_law (deep_law_laid laid_out (m:=2) (by omega) (of_decide_eq_true (by kernel_rfl)) (by kernel_rfl) (by kernel_rfl))
theorem ntypes:∃ n,Tryz.prog.types.size=n+1:=⟨Tryz.prog.types.size-1,by kernel_rfl⟩
theorem key_pt (p:Pt) (h:wfPt p):∃ l,keyOf Tryz.prog 42 (ptV p)=some l:=by
 obtain ⟨n,hn⟩:=ntypes
 have h1:Tryz.prog.keyType 42=true:=by kernel_rfl
 have h2:(ptV p).formed Tryz.prog 42=true:=by
  unfold ptV Value.formed
  rw [Tryz.underlying42]
  simp only [c_pt]
  rfl
 have h3:∃ ls,Tryz.prog.keyLits (n+1+1) 42 (ptV p).cells.toList=some ls:=by
  have hx:=h.1;have hy:=h.2
  unfold wfI at hx hy
  simp [Program.keyLits,Tryz.underlying42,Tryz.underlying3,c_pt,c_int,ptV,Value.cells,hx,hy]
 obtain ⟨ls,h3⟩:=h3
 refine ⟨.string (keyBytes ls),?_⟩
 unfold keyOf
 rw [Tryz.underlying42,hn]
 simp only
 rw [h1,h2,h3]
 rfl

end Go.Proofs.YtpempeioeiaijaaGreat
namespace Go.Proofs.YtpempeioeiaijaaGreat
open Go.RowKit

structure PNf (f:Pt→Int) (D:DataW Unit):Prop where
 at_:∀ p l,keyOf Tryz.prog 42 (ptV p)=some l→D.atKey l (iiD 0)=iiD (f p)
 has:∀ p l,keyOf Tryz.prog 42 (ptV p)=some l→Maps.has D l=decide (f p≠0)
theorem ptV_inj {p q:Pt} (h:ptV p=ptV q):p=q:=by
 unfold ptV at h
 simp only [Value.agg.injEq] at h
 have h0:=congrArg (fun a:Array Value=>a.toList) h
 simp only [List.cons.injEq,Value.int.injEq,and_true,true_and] at h0
 exact Pt.ext_iff'.2 ⟨h0.1,h0.2⟩
theorem key_ne {p q:Pt} {l m:Lit} (hp:keyOf Tryz.prog 42 (ptV p)=some l) (hq:keyOf Tryz.prog 42 (ptV q)=some m) (h:p≠q):l≠m:=fun e=>by
 subst e
 exact h (ptV_inj (keyed_pt.inj hp hq))
set_option maxRecDepth 100000 in
theorem key_inv {key:Value} {l:Lit} (h:keyOf Tryz.prog 42 key=some l):∃ p,key=ptV p∧wfPt p:=by
 obtain ⟨n,hn⟩:=ntypes
 unfold keyOf at h
 rw [Tryz.underlying42,hn] at h
 simp only at h
 split at h
 ·
  rename_i h1
  rw [Bool.and_eq_true] at h1
  have hf:=h1.2
  obtain ⟨ls,hls,-⟩:=Option.map_eq_some_iff.1 h
  have hcs:∃ a b,key=.agg #[a,b]:=by
   cases key with
   | agg cs =>
    unfold Value.formed at hf
    rw [Tryz.underlying42] at hf
    simp only [c_pt] at hf
    obtain ⟨cs⟩:=cs
    have h2:cs.length=2:=by simpa using hf
    obtain ⟨a,b,rfl⟩:=lst2 h2
    exact ⟨a,b,rfl⟩
   | _=>unfold Value.formed at hf;rw [Tryz.underlying42] at hf;cases hf
  obtain ⟨a,b,rfl⟩:=hcs
  rw [Program.keyLits.eq_def] at hls
  simp only [Tryz.underlying42,c_pt,Value.cells] at hls
  split at hls
  ·
   obtain ⟨ls2,hls2,-⟩:=Option.map_eq_some_iff.1 hls
   simp only [List.mapM_cons,List.mapM_nil,List.drop,List.take,c_int] at hls2
   obtain ⟨la,ha,hls2⟩:=Option.bind_eq_some_iff.1 hls2
   obtain ⟨lb,hb,-⟩:=Option.bind_eq_some_iff.1 hls2
   obtain ⟨x,hx,-⟩:=keyLits_int' Tryz.underlying3 ha
   obtain ⟨lb2,hb2,-⟩:=Option.bind_eq_some_iff.1 hb
   obtain ⟨y,hy,-⟩:=keyLits_int' Tryz.underlying3 hb2
   simp only [List.cons.injEq,and_true] at hx hy
   subst hx hy
   rw [Program.keyLits.eq_def] at ha hb2
   simp only [Tryz.underlying3,true_and] at ha hb2
   refine ⟨⟨x,y⟩,rfl,?_,?_⟩
   ·
    unfold wfI
    split at ha
    · assumption
    · cases ha
   ·
    unfold wfI
    split at hb2
    · assumption
    · cases hb2
  · cases hls
 · cases h
def MapPN (w:World) (b n:Nat) (f:Pt→Int):Prop :=
 ∃ D:DataW Unit,w.ownsMap Tryz.prog 42 iiR b n D∧Maps.IsMap D∧PNf f D
theorem MapPN.kept {w w':World} {b n:Nat} {f:Pt→Int} (h:MapPN w b n f) {row:Option Nat} (hg:w.grownBy w' row) (hr:some b≠row):MapPN w' b n f:=by
 obtain ⟨D,h1,h2⟩:=h
 exact ⟨D,h1.kept hg hr,h2⟩
theorem MapPN.keep {w w':World} {b n:Nat} {f:Pt→Int} (h:MapPN w b n f) (hb:Below w.heap.size w w'):MapPN w' b n f :=
 h.kept (row:=none) ⟨hb.os,hb.tape,hb.output,hb.size,fun i hi _=>hb.block i hi⟩ (by simp)
theorem MapPN.made (w:World):MapPN (w.alloc (.map #[] 0)) w.heap.size 0 (fun _=>0) :=
 ⟨.map [],World.ownsMap_made _ _ _ _,⟨_,rfl⟩,fun _ _ _=>rfl,fun _ _ _=>rfl⟩
set_option maxRecDepth 100000 in
theorem MapPN.look {w:World} {b n:Nat} {f:Pt→Int} (h:MapPN w b n f) (p:Pt) (hp:wfPt p) :
  (Instr.lookup 52 (.map (some b)) (.agg #[.int .i64 p.x,.int .i64 p.y]) false).run Tryz.prog w=.ok (.int .i64 (f p)) w:=by
 obtain ⟨D,h1,-,h2⟩:=h
 obtain ⟨l,hl⟩:=key_pt p hp
 obtain ⟨v,ps,hr,hv⟩:=h1.lookup keyed_pt Tryz.underlying52 (zero_ii w) (zd:=iiD 0) (zp:=[]) rfl hl
 rw [h2.at_ p l hl] at hv
 have hr':(Instr.lookup 52 (.map (some b)) (.agg #[.int .i64 p.x,.int .i64 p.y]) false).run Tryz.prog w=.ok v w:=hr
 rw [hr',iiR_inv hv]
set_option maxRecDepth 100000 in
theorem MapPN.look_ok {w:World} {b n:Nat} {f:Pt→Int} (h:MapPN w b n f) (p:Pt) (hp:wfPt p) :
  (Instr.lookup 52 (.map (some b)) (.agg #[.int .i64 p.x,.int .i64 p.y]) true).run Tryz.prog w=.ok (.tuple #[.int .i64 (f p),.bool (decide (f p≠0))]) w:=by
 obtain ⟨D,h1,-,h2⟩:=h
 obtain ⟨l,hl⟩:=key_pt p hp
 obtain ⟨v,ps,hr,hv⟩:=h1.look_ok keyed_pt Tryz.underlying52 (zero_ii w) (zd:=iiD 0) (zp:=[]) rfl hl
 rw [h2.at_ p l hl] at hv
 have hr':(Instr.lookup 52 (.map (some b)) (.agg #[.int .i64 p.x,.int .i64 p.y]) true).run Tryz.prog w=.ok (.tuple #[v,.bool (Maps.has D l)]) w:=hr
 rw [hr',iiR_inv hv,h2.has p l hl]
set_option maxRecDepth 100000 in
theorem PNf.put {f:Pt→Int} {D:DataW Unit} (h:PNf f D) (hm:Maps.IsMap D) {p:Pt} {l:Lit} (hl:keyOf Tryz.prog 42 (ptV p)=some l) (x:Int) (hx:x≠0):PNf (fun i=>if i=p then x else f i) (D.put l (iiD x)) where
 at_ i l' hl':=by
  by_cases e:i=p
  ·
   subst e
   rw [hl] at hl'
   injection hl' with hl'
   subst hl'
   simp only [if_true]
   exact Maps.atKey_put_same hm (keyed_pt.key hl) _ _
  ·
   simp only [if_neg e]
   rw [Maps.atKey_put_other (key_ne hl' hl e),h.at_ i l' hl']
 has i l' hl':=by
  by_cases e:i=p
  ·
   subst e
   rw [hl] at hl'
   injection hl' with hl'
   subst hl'
   simp only [if_true]
   rw [Maps.has_put_same hm (keyed_pt.key hl),decide_eq_true hx]
  ·
   simp only [if_neg e]
   rw [Maps.has_put_other (key_ne hl' hl e),h.has i l' hl']
set_option maxRecDepth 100000 in
theorem MapPN.upd {w:World} {b n:Nat} {f:Pt→Int} (h:MapPN w b n f) (hn:n<4294967296) (p:Pt) (hp:wfPt p) (x:Int) (hx:x≠0) :
  ∃ w',(Instr.mapUpdate 52 (.map (some b)) (.agg #[.int .i64 p.x,.int .i64 p.y]) (.int .i64 x)).run Tryz.prog w=.ok () w'∧MapPN w' b (n+1) (fun i=>if i=p then x else f i)∧w.grownBy w' (some b):=by
 obtain ⟨D,h1,hm,h2⟩:=h
 obtain ⟨l,hl⟩:=key_pt p hp
 obtain ⟨w',hr,ho,hg⟩:=h1.update keyed_pt Tryz.underlying52 (by unfold maxLen;omega) hl (val:=.int .i64 x) (d:=iiD x) (ps:=[]) rfl
 exact ⟨w',hr,⟨_,ho,hm.put _ _,h2.put hm hl x hx⟩,hg⟩
section
open Go.WideElems Go.ChangeShapes Go.WideShapes Go.MapKept Go.ChangeMaps
open Go.WideMaps (KeyLaw)
theorem entry_upd {H:Type} {P:Program} {w:World} {t k e:TypeId} {R:Value→Option (DataW H×List MemPlace)} {b:Nat} {es:Array MapEntry} {clock:Nat} (K:KeyLaw P k) (ht:P.underlying t=some (.map k e)) {z:Value} (hz:∀ u:World,(zeroValue e).run P u=.ok z u) (hb:w.heap[b]? = some (.map es clock)) (F:Fit P k R es clock)
  {key:Value} {kl:Lit} (hkey:keyOf P k key=some kl) :
  ∃ v0 st w1,(Instr.mapEntry t (.map (some b)) key).run P w=.ok (.tuple #[v0,goInt st]) w1∧(Instr.mapUpdate t (.map (some b)) key v0).run P w=.ok () w1∧(Instr.lookup t (.map (some b)) key false).run P w=.ok v0 w:=by
 rcases K.find w hkey es.toList F.keys with ⟨h1,h2⟩ | ⟨j,e0,h1,h2,h3⟩
 ·
  refine ⟨z,clock,setBlock w b (.map (es.push ⟨key,z,clock⟩) (clock+1)),?_,?_,?_⟩
  · simp [Instr.mapEntry,run_underlying ht,MapKept.run_getObj_map hb,K.check w false hkey,h1,hz,MapKept.run_setObj_map _ hb,Result.andThen,setBlock]
  · simp [Instr.mapUpdate,run_underlying ht,MapKept.run_getObj_map hb,K.check w false hkey,h1,MapKept.run_setObj_map _ hb,Result.andThen,setBlock]
  · simp [Instr.lookup,run_underlying ht,MapKept.run_getObj_map hb,K.check w _ hkey,h1,hz,Result.andThen]
 ·
  have hj:es[j]? = some e0:=by simpa using h2
  have hsame:es.modify j (fun e=>{e with key:=key})=es:=by
   apply Array.ext'
   rw [Array.toList_modify,modify_eq_set _ _ _ _ h2]
   have:({e0 with key:=key}:MapEntry)=e0:=by rw [← h3]
   rw [this]
   exact set_self _ _ _ h2
  have hsame2:es.modify j (fun e=>{e with key:=key,val:=e0.val})=es:=by
   apply Array.ext'
   rw [Array.toList_modify,modify_eq_set _ _ _ _ h2]
   have:({e0 with key:=key,val:=e0.val}:MapEntry)=e0:=by rw [← h3]
   rw [this]
   exact set_self _ _ _ h2
  refine ⟨e0.val,e0.born,setBlock w b (.map es clock),?_,?_,?_⟩
  · simp [Instr.mapEntry,run_underlying ht,MapKept.run_getObj_map hb,K.check w false hkey,h1,hj,h3,K.stays w hkey,hsame,MapKept.run_setObj_map _ hb,Result.andThen,setBlock]
  · simp [Instr.mapUpdate,run_underlying ht,MapKept.run_getObj_map hb,K.check w false hkey,h1,hj,h3,K.stays w hkey,hsame2,MapKept.run_setObj_map _ hb,Result.andThen,setBlock]
  · simp [Instr.lookup,run_underlying ht,MapKept.run_getObj_map hb,K.check w _ hkey,h1,hj,h3,Result.andThen]
theorem setBlock_twice (w:World) (b:Nat) (x y:Obj):setBlock (setBlock w b x) b y=setBlock w b y:=by
 unfold setBlock
 simp
theorem law_pt:KeyLaw Tryz.prog 42:=deep_law_laid laid_out (m:=2) (by omega) (of_decide_eq_true (by kernel_rfl)) (by kernel_rfl) (by kernel_rfl)
end
set_option maxRecDepth 100000 in
theorem MapPN.bump {w:World} {b n:Nat} {f:Pt→Int} (h:MapPN w b n f) (hn:n+1<4294967296) (p:Pt) (hp:wfPt p) (x:Int) (hx:x≠0) :
  ∃ (st:Int) (w1 w2:World),(Instr.mapEntry 52 (.map (some b)) (.agg #[.int .i64 p.x,.int .i64 p.y])).run Tryz.prog w=.ok (.tuple #[.int .i64 (f p),.int .i64 st]) w1∧w.grownBy w1 (some b) ∧
   (Instr.lookup 52 (.map (some b)) (.agg #[.int .i64 p.x,.int .i64 p.y]) false).run Tryz.prog w1=.ok (.int .i64 (f p)) w1 ∧
   (Instr.entryStore 52 (.map (some b)) (.int .i64 st) (.int .i64 x)).run Tryz.prog w1=.ok () w2∧MapPN w2 b (n+1) (fun i=>if i=p then x else f i)∧w.grownBy w2 (some b):=by
 obtain ⟨w2,hr2,hm2,hg2⟩:=h.upd (by omega) p hp x hx
 have hlk:=h.look p hp
 obtain ⟨D,h1,hm,h2⟩:=h
 obtain ⟨l,hl⟩:=key_pt p hp
 have h1':=h1
 obtain ⟨es,clock,hb,F,hsz,hD⟩:=h1'
 obtain ⟨v0,st,w1,r1,r2,r3⟩:=entry_upd law_pt Tryz.underlying52 zero_ii hb F hl
 obtain ⟨v0',st',es1,c1,r1',-,hst⟩:=Go.WideElems.entry_then_store law_pt Tryz.underlying52 zero_ii hb F hl
 rw [r1] at r1'
 have hv:v0=.int .i64 (f p):=by
  have e:(Instr.lookup 52 (.map (some b)) (.agg #[.int .i64 p.x,.int .i64 p.y]) false).run Tryz.prog w=.ok v0 w:=r3
  rw [hlk] at e
  injection e with e
  exact e.symm
 subst hv
 injection r1' with e1 e2
 have e3:st'=st:=by
  injection e1 with e1
  have:=congrArg (fun a:Array Value=>a.toList) e1
  simp only [List.cons.injEq,and_true] at this
  have h9:=this.2
  unfold goInt at h9
  injection h9 with _ h9
  omega
 subst e3
 obtain ⟨es',clock',hs1,hs2⟩:=hst w1 (.int .i64 x) (by rw [e2];exact Go.ChangeMaps.heap_setBlock_same hb _)
 have hw2:Go.ChangeMaps.setBlock w1 b (.map es' clock')=w2:=by
  have e:(Instr.mapUpdate 52 (.map (some b)) (.agg #[.int .i64 p.x,.int .i64 p.y]) (.int .i64 x)).run Tryz.prog w=.ok () (Go.ChangeMaps.setBlock w b (.map es' clock')):=hs2
  rw [hr2] at e
  injection e with _ e
  rw [e,e2,setBlock_twice]
 rw [hw2] at hs1
 obtain ⟨w1',hr1,ho1,hg1⟩:=h1.update keyed_pt Tryz.underlying52 (by unfold maxLen;omega) hl (val:=.int .i64 (f p)) (d:=iiD (f p)) (ps:=[]) rfl
 rw [r2] at hr1
 injection hr1 with _ hr1
 subst hr1
 refine ⟨st',w1,w2,r1,hg1,?_,hs1,hm2,hg2⟩
 obtain ⟨v,ps,hr,hv⟩:=ho1.lookup keyed_pt Tryz.underlying52 (zero_ii w1) (zd:=iiD 0) (zp:=[]) rfl hl
 rw [Maps.atKey_put_same hm (keyed_pt.key hl)] at hv
 have hr':(Instr.lookup 52 (.map (some b)) (.agg #[.int .i64 p.x,.int .i64 p.y]) false).run Tryz.prog w1=.ok v w1:=hr
 rw [hr',iiR_inv hv]
end Go.Proofs.YtpempeioeiaijaaGreat
namespace Go.Proofs.YtpempeioeiaijaaGreat
open Go.RowKit

def RngP (w:World) (b r n:Nat) (g:Pt→Int) (S:Pt→Bool) (cnt:Nat):Prop :=
 ∃ (D:DataW Unit) (left:Lit→Bool),w.ranges Tryz.prog 42 iiR b r n D left cnt∧Maps.IsMap D∧PNf g D∧∀ p l,keyOf Tryz.prog 42 (ptV p)=some l→left l=S p
theorem RngP.owns {w:World} {b r n:Nat} {g:Pt→Int} {S:Pt→Bool} {cnt:Nat} (h:RngP w b r n g S cnt):MapPN w b n g:=by
 obtain ⟨D,left,h1,h2,h3,-⟩:=h
 exact ⟨D,h1.owns,h2,h3⟩
theorem RngP.kept {w w':World} {b r n:Nat} {g:Pt→Int} {S:Pt→Bool} {cnt:Nat} (h:RngP w b r n g S cnt) {row:Option Nat} (hg:w.grownBy w' row) (hb:some b≠row) (hr:some r≠row):RngP w' b r n g S cnt:=by
 obtain ⟨D,left,h1,h2⟩:=h
 exact ⟨D,left,h1.kept hg hb hr,h2⟩
theorem RngP.left_eq {w:World} {b r n:Nat} {g:Pt→Int} {S:Pt→Bool} {cnt:Nat} (h:RngP w b r n g S cnt):w.rangeLeft b r=cnt:=by
 obtain ⟨D,left,h1,h2⟩:=h
 exact h1.left_eq
theorem MapPN.own_ne {w:World} {b n:Nat} {g:Pt→Int} (h:MapPN w b n g) {base:Nat} {e:TypeId} {size:Nat} {α:Type} {f:α→List Value} {v:Value} {l:List α} (ho:Own w base e size f v l):v.ownBlock≠some b:=by
 obtain ⟨D,h1,-⟩:=h
 obtain ⟨es,clock,hb,-⟩:=h1
 rcases ho.2 with ⟨rfl,_⟩ | ⟨g,cap,cur,rfl,_,hh,_⟩
 · simp [Value.ownBlock]
 ·
  intro e'
  have e2:g=b:=by simpa [Value.ownBlock] using e'
  rw [e2,hb] at hh;cases hh
theorem MapPN.blk_ne {w:World} {b n:Nat} {f:Pt→Int} (h:MapPN w b n f) {g:Nat} {t:TypeId} {cs:Array Value} (hg:Blk w g t cs):g≠b:=by
 rintro rfl
 obtain ⟨D,h1,-⟩:=h
 obtain ⟨es,clock,hb,-⟩:=h1
 unfold Blk at hg
 rw [hg] at hb
 cases hb
theorem RngP.own_ne {w:World} {b r n:Nat} {g:Pt→Int} {S:Pt→Bool} {cnt:Nat} (h:RngP w b r n g S cnt) {base:Nat} {e:TypeId} {size:Nat} {α:Type} {f:α→List Value} {v:Value} {l:List α} (ho:Own w base e size f v l):v.ownBlock≠some b∧v.ownBlock≠some r:=by
 obtain ⟨D,left,h1,-⟩:=h
 obtain ⟨es,clock,since,seen,c0,hb,-,-,-,hr,-⟩:=h1
 rcases ho.2 with ⟨rfl,_⟩ | ⟨g,cap,cur,rfl,_,hh,_⟩
 · simp [Value.ownBlock]
 ·
  constructor
  ·
   intro e'
   have e2:g=b:=by simpa [Value.ownBlock] using e'
   rw [e2,hb] at hh;cases hh
  ·
   intro e'
   have e2:g=r:=by simpa [Value.ownBlock] using e'
   rw [e2,hr] at hh;cases hh
set_option maxRecDepth 100000 in
theorem key_str {p:Pt} {l:Lit} (h:keyOf Tryz.prog 42 (ptV p)=some l) {q:Pt} {m:Lit} (h':keyOf Tryz.prog 42 (ptV q)=some m):m.sameKey l=decide (q=p):=by
 by_cases e:q=p
 ·
  subst e
  rw [h] at h'
  injection h' with h'
  subst h'
  rw [WideAt.sameKey_self (keyed_pt.key h)];simp
 · rw [Maps.sameKey_ne (key_ne h' h e)];simp [e]

section
variable (w:World) {ops:Array Oper} {rest:List Oper} {o:Oper} {a:Act} {Q:Exit→Act→World→Prop}
theorem wp_range_pn (hg:o.guard=none) (m:Operand) (hop:o.op=Op.range 52 m) (b n:Nat) (f:Pt→Int) (hm:a.eval m=.map (some b)) (h:MapPN w b n f)
  (hK:∀ w' cnt,RngP w' b w.heap.size n f (fun p=>decide (f p≠0)) cnt→w.grownBy w' none→w'.heap.size=w.heap.size+1→wpList Tryz.prog ops Q rest (a.put o.dst (.pointer (some ⟨w.heap.size,0,none⟩))) w') :
  wpList Tryz.prog ops Q (o::rest) a w:=by
 obtain ⟨D,h1,h2,h3⟩:=h
 exact wpList_range_own w hg m _ hop _ _ keyed_pt Tryz.underlying52 iiR b n D hm h1 fun w' hr hg' hs=>hK w' _ ⟨D,_,hr,h2,h3,fun p l hl=>h3.has p l hl⟩ hg' hs
theorem wp_next_pn (hg:o.guard=none) (it:Operand) (hop:o.op=Op.next it false) (b r n:Nat) (g:Pt→Int) (S:Pt→Bool) (cnt:Nat) (hit:a.eval it=.pointer (some ⟨r,0,none⟩)) (h:RngP w b r n g S cnt)
  (hDone:(∀ p,wfPt p→S p=false)→wpList Tryz.prog ops Q rest (a.put o.dst (.tuple #[.bool false])) w)
  (hMore:∀ (p:Pt) (w':World) (cnt':Nat),wfPt p→S p=true→RngP w' b r n g (fun q=>S q && !decide (q=p)) cnt'→cnt'<cnt→w.grownBy w' (some r)→w'.heap.size=w.heap.size →
   (Instr.entry (.pointer (some ⟨r,0,none⟩))).run Tryz.prog w'=.ok (.tuple #[.agg #[.int .i64 p.x,.int .i64 p.y],.int .i64 (g p)]) w'→wpList Tryz.prog ops Q rest (a.put o.dst (.tuple #[.bool true,.agg #[.int .i64 p.x,.int .i64 p.y],.int .i64 (g p)])) w') :
  wpList Tryz.prog ops Q (o::rest) a w:=by
 obtain ⟨D,left,h1,h2,h3,h4⟩:=h
 refine wpList_next_ranges w hg it hop _ keyed_pt iiR (fun p:Pt=>.agg #[.int .i64 p.x,.int .i64 p.y]) (fun c:Int=>.int .i64 c) (fun key kl hk=>?_) (fun v y hv=>?_) b r n D left cnt hit h1 (fun _ hl=>hDone fun p hp=>?_) ?_
 ·
  obtain ⟨p,rfl,-⟩:=key_inv hk
  exact ⟨p,rfl⟩
 ·
  unfold iiR at hv
  split at hv
  · exact ⟨_,rfl⟩
  · cases hv
 ·
  obtain ⟨l,hk⟩:=key_pt p hp
  rw [← h4 p l hk];exact hl l
 ·
  intro p c kl y w' cnt' hk hlk hy hat hr hlt hgr hsz hen
  have hk':keyOf Tryz.prog 42 (ptV p)=some kl:=hk
  have hwf:wfPt p:=by
   obtain ⟨p',e,hw⟩:=key_inv hk'
   rw [ptV_inj e];exact hw
  have hc:c=g p:=by
   have e1:=h3.at_ p kl hk'
   rw [hat] at e1
   unfold iiR at hy
   simp only [Option.some.injEq] at hy
   rw [← hy] at e1
   simpa [iiD] using e1
  subst hc
  exact hMore p w' cnt' hwf (by rw [← h4 p kl hk'];exact hlk) ⟨D,_,hr,h2,h3,fun q l hl=>by rw [h4 q l hl,key_str hk' hl]⟩ hlt hgr hsz hen
set_option maxRecDepth 100000 in
theorem wp_del_pn (hg:o.guard=none) (m x:Operand) (hop:o.op=Op.call {callee:=Callee.builtin Builtin.delete,args:=#[m,x],argTypes:=#[52,42]}) (b r n:Nat) (g:Pt→Int) (S:Pt→Bool) (cnt:Nat) (hm:a.eval m=.map (some b)) (p:Pt) (hp:wfPt p)
  (hx:a.eval x=.agg #[.int .i64 p.x,.int .i64 p.y]) (h:RngP w b r n g S cnt)
  (hK:∀ w' cnt',RngP w' b r n (fun q=>if q=p then 0 else g q) (fun q=>S q && !decide (q=p)) cnt'→cnt'≤cnt→w.mapTurned w' b→wpList Tryz.prog ops Q rest (a.put o.dst (.tuple #[])) w') :
  wpList Tryz.prog ops Q (o::rest) a w:=by
 obtain ⟨D,left,h1,h2,h3,h4⟩:=h
 obtain ⟨kl,hk⟩:=key_pt p hp
 refine wpList_delete_ranges w hg m x _ _ hop _ keyed_pt Tryz.underlying52 iiR b r n D left cnt hm h1 _ kl hx hk fun w' cnt' hr hle ht=>hK w' cnt' ⟨_,_,hr,h2.del _,⟨fun q l hl=>?_,fun q l hl=>?_⟩,fun q l hl=>?_⟩ hle ht
 ·
  by_cases e:q=p
  ·
   subst e
   rw [hk] at hl
   injection hl with hl
   subst hl
   rw [if_pos rfl,Maps.atKey_del_same]
  · rw [if_neg e,Maps.atKey_del_other (key_ne hl hk e),h3.at_ q l hl]
 ·
  by_cases e:q=p
  ·
   subst e
   rw [hk] at hl
   injection hl with hl
   subst hl
   rw [if_pos rfl,Maps.has_del_same];simp
  · rw [if_neg e,Maps.has_del_other (key_ne hl hk e),h3.has q l hl]
 · rw [h4 q l hl,key_str hk hl]
end
end Go.Proofs.YtpempeioeiaijaaGreat
