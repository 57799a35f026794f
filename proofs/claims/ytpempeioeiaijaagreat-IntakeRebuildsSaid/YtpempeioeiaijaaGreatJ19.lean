import Derived.Deep.Slices
import Derived.Lib.SmallJoins
import Derived.Test.YtpempeioeiaijaaGreatGB
set_option linter.unusedSimpArgs false
set_option linter.unusedVariables false
namespace Go.Proofs.YtpempeioeiaijaaGreat
open Go.RowKit Go.ChangeShapes Go.WideShapes Go.Deep Go.Joins

instance:Inhabited Pt:=⟨⟨0,0⟩⟩
instance:Inhabited Nd:=⟨⟨0,⟨0,0⟩⟩⟩
instance:Inhabited Ar:=⟨⟨0,0,0,[],0,0⟩⟩

def wfPt (p:Pt):Prop:=wfI p.x∧wfI p.y
def wfNd (n:Nd):Prop:=wfI n.id∧wfPt n.pt
def wfAr (a:Ar):Prop:=wfI a.id∧wfI a.fr∧wfI a.dst∧wfI a.left∧wfI a.right∧∀ p∈a.via,wfPt p
def wfPl (p:Pl):Prop:=(∀ n∈p.nodes,wfNd n)∧(∀ a∈p.arcs,wfAr a)∧∀ f∈p.faces,wfI f

theorem lst2 {α:Type} {l:List α} (h:l.length=2):∃ a b,l=[a,b]:=by
 match l,h with
 | [a,b],_=>exact ⟨a,b,rfl⟩
theorem lst3 {α:Type} {l:List α} (h:l.length=3):∃ a b c,l=[a,b,c]:=by
 match l,h with
 | [a,b,c],_=>exact ⟨a,b,c,rfl⟩
theorem lst6 {α:Type} {l:List α} (h:l.length=6):∃ a b c d e f,l=[a,b,c,d,e,f]:=by
 match l,h with
 | [a,b,c,d,e,f],_=>exact ⟨a,b,c,d,e,f,rfl⟩

section
variable {H:Type} {enc:TypeId×Value→H} {w:World} {base:Nat} {spare:Nat→Bool} {held:Bool}
theorem sl_of {P:Program} {α:Type} [Inhabited α] {t e:TypeId} {n:Nat} (f:α→List Value) (Q:α→Prop) (ht:P.underlying t=some (.slice e)) (hc:P.cellsOf e=n) (hn:∀ a,(f a).length=n)
  (hel:∀ m cs x,DataW.trod enc P w base spare held m e cs=some x→∃ a,cs=f a∧Q a) {fuel:Nat} {cs:List Value} {x:DataW H×List MemPlace} (h:DataW.trod enc P w base spare held fuel t cs=some x) :
  ∃ l:List α,(∃ v,cs=[v]∧Sl w v l.length (l.flatMap f))∧∀ a∈l,Q a:=by
 rcases open_slice ht h with ⟨rfl,_⟩ | ⟨a,len,cap,m,k,D,Pl,rfl,hb,hl,hm,hmm,-,hi⟩
 · exact ⟨[],⟨_,rfl,none,0,rfl,Nat.le_refl _,by simp [maxLen],Row.nil⟩,fun _ h=>by cases h⟩
 ·
  have hlm:len≤m:=by rw [hmm];split<;>omega
  obtain ⟨F,hF⟩:=choose_lt (α:=α) (p:=fun i y=>w.cells? base (a.add (i*n)) n=some (f y)∧Q y) (n:=len) (fun i hil=>by
   obtain ⟨cs',h1,h2⟩:=hi i (by omega)
   obtain ⟨y,rfl,hq⟩:=hel _ _ _ h2
   rw [hc] at h1
   exact ⟨y,h1,hq⟩)
  have hlen:((List.range len).map F).length=len:=by simp
  refine ⟨(List.range len).map F,⟨_,rfl,some a,cap,by rw [hlen],by rw [hlen];exact hl,hm,?_⟩,fun y hy=>?_⟩
  ·
   intro hne
   have hfl:=flat_length f n hn ((List.range len).map F)
   rw [hlen] at hfl
   have hpos:0<len*n:=by
    rcases Nat.eq_zero_or_pos (len*n) with h0 | h0
    · exact absurd (List.eq_nil_of_length_eq_zero (by omega)) hne
    · exact h0
   have hn0:0<n:=Nat.pos_of_mul_pos_left hpos
   have key:∀ j,j<len*n→w.cell? (a.add j)=(((List.range len).map F).flatMap f)[j]? := fun j hj=>by
    have h1:j / n<len:=Nat.div_lt_of_lt_mul (by rw [Nat.mul_comm];exact hj)
    have h2:j % n<n:=Nat.mod_lt _ hn0
    have h3:=flat_get f n hn ((List.range len).map F) (j / n) (j % n) (by rw [hlen];exact h1) h2
    rw [Nat.div_add_mod'] at h3
    have h4:=(World.cells?_some (hF (j / n) h1).1).2.2 (j % n) h2
    rw [Go.Deep.add_add,Nat.div_add_mod'] at h4
    rw [h4,h3]
    simp
   have h00:=key 0 hpos
   obtain ⟨b,o,spot⟩:=a
   have hex:∃ v,w.cell? (Addr.add ⟨b,o,spot⟩ 0)=some v:=by
    rw [h00,List.getElem?_eq_getElem (by omega)]
    exact ⟨_,rfl⟩
   obtain ⟨v0,hv0⟩:=hex
   have hspot:spot=none:=by simpa [Addr.add] using World.cell?_spot hv0
   subst hspot
   refine ⟨b,o,rfl,?_,fun j v hj=>?_⟩
   ·
    have:=World.block_lt_of_cell? w _ hv0
    simpa [Addr.add] using this
   ·
    have hjl:j<len*n:=by
     rcases Nat.lt_or_ge j (len*n) with h' | h'
     · exact h'
     · rw [List.getElem?_eq_none (by omega)] at hj;cases hj
    rw [← Go.WideShapes.add_plain,key j hjl]
    exact hj
  ·
   obtain ⟨i,hi',rfl⟩:=List.mem_map.1 hy
   exact (hF i (List.mem_range.1 hi')).2

theorem c_int:Tryz.prog.cellsOf 3=1:=by kernel_rfl
theorem c_pt:Tryz.prog.cellsOf 42=2:=by kernel_rfl
theorem c_nd:Tryz.prog.cellsOf 47=3:=by kernel_rfl
theorem c_ar:Tryz.prog.cellsOf 50=6:=by kernel_rfl
theorem c_pl:Tryz.prog.cellsOf 34=3:=by kernel_rfl
theorem c_pts:Tryz.prog.cellsOf 25=1:=by kernel_rfl
theorem trod_in {fuel:Nat} {cs:List Value} {x:DataW H×List MemPlace} (h:DataW.trod enc Tryz.prog w base spare held fuel 3 cs=some x):∃ n:Int,cs=inC n∧wfI n:=by
 obtain ⟨n,h1,-,h2⟩:=DataW.trod_int Tryz.underlying3 h
 exact ⟨n,h1,h2⟩
theorem trod_pt {fuel:Nat} {cs:List Value} {x:DataW H×List MemPlace} (h:DataW.trod enc Tryz.prog w base spare held fuel 42 cs=some x):∃ p:Pt,cs=ptC p∧wfPt p:=by
 obtain ⟨y0,y1,n,-,hl,h0,h1⟩:=trod_struct2 Tryz.underlying42 h
 rw [c_pt] at hl
 obtain ⟨c0,c1,rfl⟩:=lst2 hl
 simp only [c_int,List.drop_zero,List.drop_succ_cons,List.take_succ_cons,List.take_zero] at h0 h1
 obtain ⟨a,ha,hwa⟩:=trod_in h0
 obtain ⟨b,hb,hwb⟩:=trod_in h1
 simp only [inC,List.cons.injEq,and_true] at ha hb
 subst ha hb
 exact ⟨⟨a,b⟩,rfl,hwa,hwb⟩
theorem trod_nd {fuel:Nat} {cs:List Value} {x:DataW H×List MemPlace} (h:DataW.trod enc Tryz.prog w base spare held fuel 47 cs=some x):∃ p:Nd,cs=ndC p∧wfNd p:=by
 obtain ⟨y0,y1,n,-,hl,h0,h1⟩:=trod_struct2 Tryz.underlying47 h
 rw [c_nd] at hl
 obtain ⟨c0,c1,c2,rfl⟩:=lst3 hl
 simp only [c_int,c_pt,List.drop_zero,List.drop_succ_cons,List.take_succ_cons,List.take_zero] at h0 h1
 obtain ⟨a,ha,hwa⟩:=trod_in h0
 obtain ⟨b,hb,hwb⟩:=trod_pt h1
 simp only [inC,ptC,List.cons.injEq,and_true] at ha hb
 obtain ⟨hb1,hb2⟩:=hb
 subst ha hb1 hb2
 exact ⟨⟨a,b⟩,rfl,hwa,hwb⟩
end
end Go.Proofs.YtpempeioeiaijaaGreat
