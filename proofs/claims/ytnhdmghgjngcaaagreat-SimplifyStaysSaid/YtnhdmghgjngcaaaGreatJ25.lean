import Derived.Test.YtnhdmghgjngcaaaGreatGB
import Derived.Test.YtnhdmghgjngcaaaGreatJ22
import Derived.Test.YtnhdmghgjngcaaaGreatJ16
import Derived.Test.YtnhdmghgjngcaaaGreatJ21
import Derived.Test.YtnhdmghgjngcaaaGreatGE
import Derived.Test.YtnhdmghgjngcaaaGreatJ09
import Derived.Test.YtnhdmghgjngcaaaGreatJ15
import Derived.Test.YtnhdmghgjngcaaaGreatJ23
import Derived.Test.YtnhdmghgjngcaaaGreatJ14
import Derived.Test.YtnhdmghgjngcaaaGreatJ24
import Derived.Deep.Slices
import Derived.Lib.SmallJoins
set_option linter.unusedSimpArgs false
set_option linter.unusedVariables false
namespace Go.Proofs.YtnhdmghgjngcaaaGreat
open Go.RowKit

theorem gS {w0 w1:World} {g:Nat} (h:w0.grownBy w1 (some g)) (i:Nat) (u:Value):w0.grownBy (w1.setCell ⟨g,i,none⟩ u) (some g):=by
 refine gT h ⟨rfl,rfl,rfl,?_,fun j _ hne=>?_⟩
 · simp
 · exact Below.heap_setCell w1 ⟨g,i,none⟩ u j (fun e=>hne (by rw [e]))

end Go.Proofs.YtnhdmghgjngcaaaGreat
namespace Go.Proofs.YtnhdmghgjngcaaaGreat
open Go.RowKit

theorem elem_rg:Elem Tryz.prog 47 52 4 80:=Elem.mk_ (z:=.agg #[.int .i64 0,.slice none 0 0,.slice none 0 0,.slice none 0 0]) (by kernel_rfl) (by kernel_rfl) rfl (by omega)
end Go.Proofs.YtnhdmghgjngcaaaGreat
namespace Go.Proofs.YtnhdmghgjngcaaaGreat
open Go.RowKit Go.ChangeShapes Go.WideShapes Go.Deep Go.Joins

instance:Inhabited Pt:=⟨⟨0,0⟩⟩
instance:Inhabited Nd:=⟨⟨0,⟨0,0⟩⟩⟩
instance:Inhabited Ar:=⟨⟨0,0,0,[],0,0⟩⟩

def wfPt (p:Pt):Prop:=wfI p.x∧wfI p.y
def wfNd (n:Nd):Prop:=wfI n.id∧wfPt n.pt
def wfAr (a:Ar):Prop:=wfI a.id∧wfI a.fr∧wfI a.dst∧wfI a.left∧wfI a.right∧∀ p∈a.via,wfPt p
def wfPl (p:Pl):Prop:=(∀ n∈p.nodes,wfNd n)∧(∀ a∈p.arcs,wfAr a)∧∀ f∈p.faces,wfI f

theorem lst2 {α:Type} {l:List α} (h:l.length=2):∃ a b,l=[a,b]:=by
 match l,h with
 | [a,b],_=>exact ⟨a,b,rfl⟩
theorem lst3 {α:Type} {l:List α} (h:l.length=3):∃ a b c,l=[a,b,c]:=by
 match l,h with
 | [a,b,c],_=>exact ⟨a,b,c,rfl⟩
theorem lst6 {α:Type} {l:List α} (h:l.length=6):∃ a b c d e f,l=[a,b,c,d,e,f]:=by
 match l,h with
 | [a,b,c,d,e,f],_=>exact ⟨a,b,c,d,e,f,rfl⟩

section
variable {H:Type} {enc:TypeId×Value→H} {w:World} {base:Nat} {spare:Nat→Bool} {held:Bool}
theorem sl_of {P:Program} {α:Type} [Inhabited α] {t e:TypeId} {n:Nat} (f:α→List Value) (Q:α→Prop) (ht:P.underlying t=some (.slice e)) (hc:P.cellsOf e=n) (hn:∀ a,(f a).length=n)
  (hel:∀ m cs x,DataW.trod enc P w base spare held m e cs=some x→∃ a,cs=f a∧Q a) {fuel:Nat} {cs:List Value} {x:DataW H×List MemPlace} (h:DataW.trod enc P w base spare held fuel t cs=some x) :
  ∃ l:List α,(∃ v,cs=[v]∧Sl w v l.length (l.flatMap f))∧∀ a∈l,Q a:=by
 rcases open_slice ht h with ⟨rfl,_⟩ | ⟨a,len,cap,m,k,D,Pl,rfl,hb,hl,hm,hmm,-,hi⟩
 · exact ⟨[],⟨_,rfl,none,0,rfl,Nat.le_refl _,by simp [maxLen],Row.nil⟩,fun _ h=>by cases h⟩
 ·
  have hlm:len≤m:=by rw [hmm];split<;>omega
  obtain ⟨F,hF⟩:=choose_lt (α:=α) (p:=fun i y=>w.cells? base (a.add (i*n)) n=some (f y)∧Q y) (n:=len) (fun i hil=>by
   obtain ⟨cs',h1,h2⟩:=hi i (by omega)
   obtain ⟨y,rfl,hq⟩:=hel _ _ _ h2
   rw [hc] at h1
   exact ⟨y,h1,hq⟩)
  have hlen:((List.range len).map F).length=len:=by simp
  refine ⟨(List.range len).map F,⟨_,rfl,some a,cap,by rw [hlen],by rw [hlen];exact hl,hm,?_⟩,fun y hy=>?_⟩
  ·
   intro hne
   have hfl:=flat_length f n hn ((List.range len).map F)
   rw [hlen] at hfl
   have hpos:0<len*n:=by
    rcases Nat.eq_zero_or_pos (len*n) with h0 | h0
    · exact absurd (List.eq_nil_of_length_eq_zero (by omega)) hne
    · exact h0
   have hn0:0<n:=Nat.pos_of_mul_pos_left hpos
   have key:∀ j,j<len*n→w.cell? (a.add j)=(((List.range len).map F).flatMap f)[j]? := fun j hj=>by
    have h1:j / n<len:=Nat.div_lt_of_lt_mul (by rw [Nat.mul_comm];exact hj)
    have h2:j % n<n:=Nat.mod_lt _ hn0
    have h3:=flat_get f n hn ((List.range len).map F) (j / n) (j % n) (by rw [hlen];exact h1) h2
    rw [Nat.div_add_mod'] at h3
    have h4:=(World.cells?_some (hF (j / n) h1).1).2.2 (j % n) h2
    rw [Go.Deep.add_add,Nat.div_add_mod'] at h4
    rw [h4,h3]
    simp
   have h00:=key 0 hpos
   obtain ⟨b,o,spot⟩:=a
   have hex:∃ v,w.cell? (Addr.add ⟨b,o,spot⟩ 0)=some v:=by
    rw [h00,List.getElem?_eq_getElem (by omega)]
    exact ⟨_,rfl⟩
   obtain ⟨v0,hv0⟩:=hex
   have hspot:spot=none:=by simpa [Addr.add] using World.cell?_spot hv0
   subst hspot
   refine ⟨b,o,rfl,?_,fun j v hj=>?_⟩
   ·
    have:=World.block_lt_of_cell? w _ hv0
    simpa [Addr.add] using this
   ·
    have hjl:j<len*n:=by
     rcases Nat.lt_or_ge j (len*n) with h' | h'
     · exact h'
     · rw [List.getElem?_eq_none (by omega)] at hj;cases hj
    rw [← Go.WideShapes.add_plain,key j hjl]
    exact hj
  ·
   obtain ⟨i,hi',rfl⟩:=List.mem_map.1 hy
   exact (hF i (List.mem_range.1 hi')).2

theorem trod_struct6 {P:Program} {t:TypeId} {f0 f1 f2 f3 f4 f5:Field} {fuel:Nat} {cs:List Value} {x:DataW H×List MemPlace} (ht:P.underlying t=some (.struct #[f0,f1,f2,f3,f4,f5])) (h:DataW.trod enc P w base spare held fuel t cs=some x) :
  ∃ (y0 y1 y2 y3 y4 y5:DataW H×List MemPlace) (n:Nat),cs.length=P.cellsOf t∧DataW.trod enc P w base spare held n f0.type ((cs.drop f0.offset).take (P.cellsOf f0.type))=some y0∧DataW.trod enc P w base spare held n f1.type ((cs.drop f1.offset).take (P.cellsOf f1.type))=some y1∧DataW.trod enc P w base spare held n f2.type ((cs.drop f2.offset).take (P.cellsOf f2.type))=some y2∧DataW.trod enc P w base spare held n f3.type ((cs.drop f3.offset).take (P.cellsOf f3.type))=some y3∧DataW.trod enc P w base spare held n f4.type ((cs.drop f4.offset).take (P.cellsOf f4.type))=some y4∧DataW.trod enc P w base spare held n f5.type ((cs.drop f5.offset).take (P.cellsOf f5.type))=some y5:=by
 obtain ⟨xs,n,_,-,hl,hlen,hf⟩:=DataW.trod_struct ht h
 match xs,hlen with
 | [y0,y1,y2,y3,y4,y5],_=>exact ⟨y0,y1,y2,y3,y4,y5,n,hl,by simpa using hf 0 f0 rfl,by simpa using hf 1 f1 rfl,by simpa using hf 2 f2 rfl,by simpa using hf 3 f3 rfl,by simpa using hf 4 f4 rfl,by simpa using hf 5 f5 rfl⟩
theorem c_int:Tryz.prog.cellsOf 3=1:=by kernel_rfl
theorem c_pt:Tryz.prog.cellsOf 36=2:=by kernel_rfl
theorem c_nd:Tryz.prog.cellsOf 38=3:=by kernel_rfl
theorem c_ar:Tryz.prog.cellsOf 41=6:=by kernel_rfl
theorem c_pl:Tryz.prog.cellsOf 26=3:=by kernel_rfl
theorem c_pts:Tryz.prog.cellsOf 39=1:=by kernel_rfl
theorem trod_in {fuel:Nat} {cs:List Value} {x:DataW H×List MemPlace} (h:DataW.trod enc Tryz.prog w base spare held fuel 3 cs=some x):∃ n:Int,cs=inC n∧wfI n:=by
 obtain ⟨n,h1,-,h2⟩:=DataW.trod_int Tryz.underlying3 h
 exact ⟨n,h1,h2⟩
theorem trod_pt {fuel:Nat} {cs:List Value} {x:DataW H×List MemPlace} (h:DataW.trod enc Tryz.prog w base spare held fuel 36 cs=some x):∃ p:Pt,cs=ptC p∧wfPt p:=by
 obtain ⟨y0,y1,n,-,hl,h0,h1⟩:=trod_struct2 Tryz.underlying36 h
 rw [c_pt] at hl
 obtain ⟨c0,c1,rfl⟩:=lst2 hl
 simp only [c_int,List.drop_zero,List.drop_succ_cons,List.take_succ_cons,List.take_zero] at h0 h1
 obtain ⟨a,ha,hwa⟩:=trod_in h0
 obtain ⟨b,hb,hwb⟩:=trod_in h1
 simp only [inC,List.cons.injEq,and_true] at ha hb
 subst ha hb
 exact ⟨⟨a,b⟩,rfl,hwa,hwb⟩
theorem trod_nd {fuel:Nat} {cs:List Value} {x:DataW H×List MemPlace} (h:DataW.trod enc Tryz.prog w base spare held fuel 38 cs=some x):∃ p:Nd,cs=ndC p∧wfNd p:=by
 obtain ⟨y0,y1,n,-,hl,h0,h1⟩:=trod_struct2 Tryz.underlying38 h
 rw [c_nd] at hl
 obtain ⟨c0,c1,c2,rfl⟩:=lst3 hl
 simp only [c_int,c_pt,List.drop_zero,List.drop_succ_cons,List.take_succ_cons,List.take_zero] at h0 h1
 obtain ⟨a,ha,hwa⟩:=trod_in h0
 obtain ⟨b,hb,hwb⟩:=trod_pt h1
 simp only [inC,ptC,List.cons.injEq,and_true] at ha hb
 obtain ⟨hb1,hb2⟩:=hb
 subst ha hb1 hb2
 exact ⟨⟨a,b⟩,rfl,hwa,hwb⟩
theorem trod_pts {fuel:Nat} {cs:List Value} {x:DataW H×List MemPlace} (h:DataW.trod enc Tryz.prog w base spare held fuel 39 cs=some x):∃ l:List Pt,(∃ v,cs=[v]∧Pts w v l)∧∀ p∈l,wfPt p :=
 sl_of ptC wfPt Tryz.underlying39 c_pt ptC_len (fun _ _ _ h=>trod_pt h) h
set_option maxRecDepth 100000 in
theorem trod_ar {fuel:Nat} {cs:List Value} {x:DataW H×List MemPlace} (h:DataW.trod enc Tryz.prog w base spare held fuel 41 cs=some x):∃ p:Ar×Value,cs=arC p∧Pts w p.2 p.1.via∧wfAr p.1:=by
 obtain ⟨y0,y1,y2,y3,y4,y5,n,hl,h0,h1,h2,h3,h4,h5⟩:=trod_struct6 Tryz.underlying41 h
 rw [c_ar] at hl
 obtain ⟨c0,c1,c2,c3,c4,c5,rfl⟩:=lst6 hl
 simp only [c_int,c_pts,List.drop_zero,List.drop_succ_cons,List.take_succ_cons,List.take_zero] at h0 h1 h2 h3 h4 h5
 obtain ⟨a0,e0,k0⟩:=trod_in h0
 obtain ⟨a1,e1,k1⟩:=trod_in h1
 obtain ⟨a2,e2,k2⟩:=trod_in h2
 obtain ⟨l,⟨v,e3,hv⟩,k3⟩:=trod_pts h3
 obtain ⟨a4,e4,k4⟩:=trod_in h4
 obtain ⟨a5,e5,k5⟩:=trod_in h5
 simp only [inC,List.cons.injEq,and_true] at e0 e1 e2 e3 e4 e5
 subst e0 e1 e2 e3 e4 e5
 exact ⟨(⟨a0,a1,a2,l,a4,a5⟩,c3),rfl,hv,k0,k1,k2,k4,k5,k3⟩

set_option maxRecDepth 100000 in
theorem PlV.of_trod {r:Reach} {b0:Nat} {v:Value} {d:DataW H} {ps:List MemPlace} (hv:Value.okWide Tryz.prog w r b0 26 v) (h:DataW.Trod enc Tryz.prog w base spare held 26 v d ps):∃ p,PlV w v p∧wfPl p:=by
 obtain ⟨v0,v1,v2,y0,y1,y2,n,rfl,-,-,h0,h1,h2⟩:=open_agg3 Tryz.underlying26 (by kernel_rfl) c_pl hv h
 obtain ⟨nl,⟨u0,e0,hn⟩,wn⟩:=sl_of ndC wfNd Tryz.underlying22 c_nd ndC_len (fun _ _ _ h=>trod_nd h) h0
 obtain ⟨al,⟨u1,e1,ha⟩,wa⟩:=sl_of arC (fun x=>Pts w x.2 x.1.via∧wfAr x.1) Tryz.underlying23 c_ar arC_len (fun _ _ _ h=>trod_ar h) h1
 obtain ⟨fl,⟨u2,e2,hf⟩,wf⟩:=sl_of inC wfI Tryz.underlying24 c_int inC_len (fun _ _ _ h=>trod_in h) h2
 simp only [List.cons.injEq,and_true] at e0 e1 e2
 subst e0 e1 e2
 refine ⟨⟨nl,al.map (·.1),fl⟩,⟨v0,v1,v2,al,rfl,rfl,hn,⟨ha,fun k hk=>(wa _ (List.getElem_mem hk)).1⟩,hf⟩,wn,fun a ha=>?_,wf⟩
 obtain ⟨x,hx,rfl⟩:=List.mem_map.1 ha
 exact (wa x hx).2
end
end Go.Proofs.YtnhdmghgjngcaaaGreat
