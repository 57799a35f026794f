import Derived.WalkKit
import Derived.WalkSpells
import Derived.WalkLawsBesides
import Derived.Lib.Hide
import Derived.Deep.QuietTactic
import Derived.BigQuiet
import Derived.Maps.AppendAt
import Derived.OwnWalk
import Derived.KernelRfl
import Derived.Test.YtpempeioeiaijaaGreatProg
import Derived.Deep.RegionHeld3
import Derived.Deep.DeepCutAuto
import Derived.Maps.Own
import Derived.Maps.Views
set_option linter.unusedSimpArgs false
set_option linter.unusedVariables false
namespace Go.Proofs.YtpempeioeiaijaaGreat
open Go.RowKit
abbrev ayq(w:World)(v:Value)(e:Ending)(w':World):Prop:=e=.returned v/\Below w.heap.size w w'
abbrev AU(w w':World):Prop:=Below w.heap.size w w'
theorem BI{α:Sort _}(a:α):∃ x,a=x:=⟨_,rfl⟩
theorem BR{α:Sort _}(a:α):∃ x,x=a:=⟨_,rfl⟩
theorem BH{p:Prop}(h:p:=by simp [intOf];omega):p:=h
theorem AA{p:Prop}(h:p:=by omega):p:=h
theorem ayr{p:Prop}(h:p:=by unfold E8;have h:Below _ _ _:=AP.out;repeat (first | with_reducible assumption | with_reducible exact Below.refl _ _ | with_reducible refine JG ?_ (by first | omega | (simp;omega)) _ | with_reducible refine Below.drew ?_ | with_reducible refine Ej (by omega) ?_ _ | exact h)):p:=h
theorem DF{p:Prop}(h:p:=by first | omega | (simp;done) | (simp;omega)):p:=h
theorem Dl{p:Prop}(h:p:=by simp only [List.length_cons,List.length_nil];omega):p:=h
theorem Aw{p:Prop}(h:p:=by decide):p:=h
theorem Ah{p:Prop}(h:p:=by simp):p:=h
theorem BG{p:Prop}(h:p:=by go_num):p:=h
theorem ays{p:Prop}(h:p:=by repeat (first | exact AO.made (by simp) _ _ | refine AO.alloc ?_ _)):p:=h
theorem DR{p:Prop}(h:p:=by simp;omega):p:=h
theorem Qz{p:Prop}(h:p:=by simp only [List.length_append,List.length_cons,List.length_nil];omega):p:=h
theorem acP{p:Prop}(h:p:=by first | exact gS AP.out _ _ | (unfold SE;have hS9:World.grownBy _ _ _:=AP.out;repeat (first | with_reducible assumption | with_reducible exact World.grownBy.refl _ _ | with_reducible refine gS ?_ _ _ | with_reducible refine gD ?_ | with_reducible refine gA ?_ _))):p:=h
theorem Jv{p:Prop}(h:p:=by first | omega | (simp;omega)):p:=h
theorem dL{p:Prop}(h:p:=by have:=Ui.out;have:=qo.out;simp only [List.length_append,List.length_cons,List.length_nil];omega):p:=h
theorem XR{p:Prop}(h:p:=by have:=Hlen.out;simp only [List.length_cons,List.length_nil];omega):p:=h
theorem dP{p:Prop}(h:p:=by have:=Jj.out;simp only [List.length_append,List.length_cons,List.length_nil];omega):p:=h
theorem XT{p:Prop}(h:p:=by have:=Ui.out;simp only [List.length_cons,List.length_nil];omega):p:=h
theorem Gl{p:Prop}(h:p:=by kernel_rfl):p:=h
theorem dQ{p:Prop}(h:p:=by have h1:=BU.size;have h2:=Du.size;simp at h1;simp;omega):p:=h
theorem Ua{p:Prop}(h:p:=by simp only [List.length_nil];omega):p:=h
theorem dS{p:Prop}(h:p:=by have:=Ui.out;simp only [List.length_nil];omega):p:=h
theorem qR{p:Prop}(h:p:=by have:=Jj.out;simp only [List.length_cons,List.length_nil];omega):p:=h
theorem NY{p:Prop}(h:p:=by unfold BM;grind):p:=h
theorem ZF{p:Prop}(h:p:=by have:=BU.size;simp at this;simp;omega):p:=h
theorem qU{p:Prop}(h:p:=by rw [hlk];simp only [List.length_cons,List.length_nil];omega):p:=h
theorem yK{p:Prop}(h:p:=by rw [List.take_succ_eq_append_getElem hlt,List.map_append];exact WJ.out):p:=h
theorem KX{p:Prop}(h:p:=by assumption):p:=h
theorem acS{p:Prop}(h:p:=by first | rfl | (simp;done) | (simp;intros;omega) | (rw [Bool.eq_iff_iff];simp;omega)):p:=h
theorem Ub{p:Prop}(h:p:=by rw [<- Hq.out,H9.out]):p:=h
theorem acT{p:Prop}(h:p:=by have:=HLj.out;simp only [List.length_map,List.length_cons,List.length_nil];omega):p:=h
theorem acU{p:Prop}(h:p:=by have:=HLen.out;(try simp only [List.length_append,List.length_singleton]);omega):p:=h
theorem Rz{p:Prop}(h:p:=by simpa using OZ.out):p:=h
theorem ZG{p:Prop}(h:p:=by show w.heap.size<=g2;omega):p:=h
theorem qV{p:Prop}(h:p:=by first | exact Dj | exact Dj.alloc _):p:=h
theorem ZH{p:Prop}(h:p:=by rw [yw.out];exact hg5):p:=h
theorem XU{p:Prop}(h:p:=by rw [<- Hr.out];rfl):p:=h
theorem Uc{p:Prop}(h:p:=by simpa using hk):p:=h
theorem ZI{p:Prop}(h:p:=by rw [ZN.out];exact Dj):p:=h
theorem Z9{p:Prop}(h:p:=by rw [yw.out];exact G5):p:=h
theorem jw{p:Prop}(h:p:=by rw [List.length_take];omega):p:=h
theorem qO{p:Prop}(h:p:=by simpa [Value.ownBlock] using e'):p:=h
theorem acQ{p:Prop}(h:p:=by simp only [WL,List.length_cons,List.length_nil];omega):p:=h
theorem yH{p:Prop}(h:p:=by unfold CX;rw [if_neg c1,if_neg c2];rfl):p:=h
theorem ZA{p:Prop}(h:p:=by rw [eH hm];omega):p:=h
theorem dM{p:Prop}(h:p:=by have:=Hl.out;omega):p:=h
theorem ZC{p:Prop}(h:p:=by rw [Hf.out];rfl):p:=h
theorem yI{p:Prop}(h:p:=by have:=List.mem_range.1 hk;omega):p:=h
theorem ZE{p:Prop}(h:p:=by simpa using hj):p:=h
theorem yJ{p:Prop}(h:p:=by rw [List.length_set];exact hl4):p:=h
theorem jy{p:Prop}(h:p:=by unfold maxLen;omega):p:=h
theorem dN{p:Prop}(h:p:=by rw [hf.out];simp):p:=h
theorem qP{p:Prop}(h:p:=by simp only [BP];simp_all):p:=h
theorem acR{p:Prop}(h:p:=by rw [List.map_append,eP.out,qp.out];rfl):p:=h
theorem dO{p:Prop}(h:p:=by simpa using hb2):p:=h
theorem kD{p:Prop}(h:p:=by simpa using hi):p:=h
theorem qQ{p:Prop}(h:p:=by simp [putCells,hcs]):p:=h
theorem RD{p:Prop}(h:p:=by rw [e]):p:=h
abbrev BO:=@List.getElem_mem
abbrev Di:=@List.getElem?_eq_getElem
abbrev Em:=@List.take_succ_eq_append_getElem
abbrev EF:=@List.mem_iff_getElem
abbrev G9:=@List.pairwise_iff_getElem
abbrev BX:=@Nat.zero_le
abbrev Es:=@List.length_append
abbrev CV:=@List.length_map
abbrev LH:=@List.length_nil
abbrev JA:=@List.length_cons
abbrev DV:=@Option.some.inj
abbrev Dq:=@decide_eq_true_eq
abbrev ER:=@Bool.and_eq_true
abbrev Jw:=@IntWalk.i64_in
abbrev Gm:=@List.getD_eq_getElem?_getD
abbrev Ih:=@Option.getD_some
abbrev Fg:=@decide_eq_false
abbrev JB:=@decide_eq_true
abbrev JH:=@decide_eq_false_iff_not
abbrev Eb:=@List.mem_singleton
abbrev EG:=@Nat.le_trans
abbrev GI:=@List.mem_append
abbrev FI:=@List.mem_cons
abbrev JC:=@List.mem_cons_self
abbrev Iu:=@List.getElem_map
abbrev N7:=@List.flatMap_cons
abbrev Ez:=@List.mem_map
abbrev QN:=@List.mem_filter
abbrev QO:=@List.getElem_set
abbrev P7:=@List.length_set
abbrev IW:=@List.map_map
abbrev FZ:=@List.mem_map_of_mem
abbrev Cj:=@Nat.le_refl
abbrev QS:=@Nat.lt_of_lt_of_le
abbrev OA:=@List.any_eq_true
abbrev LK:=@List.all_eq_true
abbrev agv:=@List.eq_nil_of_length_eq_zero
abbrev ZJ:=@List.getElem?_eq_none
abbrev GH:=@List.length_take
abbrev Ue:=@List.length_drop
abbrev LJ:=@List.append_assoc
abbrev AX:=@if_neg
abbrev AZ:=@if_pos
abbrev acW:=@Nat.le_of_ble_eq_true
abbrev OW:=@List.nil_append
abbrev Ey:=@List.map_cons
abbrev IC:=@List.sum_cons
abbrev FH:=@List.map_append
abbrev O8:=@List.sum_append
abbrev O9:=@List.map_nil
abbrev Vz:=@List.sum_nil
abbrev IE:=@List.take_of_length_le
abbrev FQ:=@List.mem_range
abbrev dU:=@List.all_eq_false
abbrev dV:=@List.ext_getElem
abbrev Jh:=@Bool.eq_iff_iff
abbrev MB:=@List.any_eq_false
abbrev XW:=@List.any_map
abbrev yL:=@Bool.false_or
abbrev Ir:=@Bool.or_eq_true
abbrev QL:=@Bool.false_eq_true
abbrev QM:=@Bool.not_eq_true'
abbrev acX:=@Bool.and_eq_false_iff
abbrev yM:=@List.take_append_drop
abbrev O7:=@List.flatMap_append
abbrev S9:=@List.flatMap_map
abbrev IL:=@Bool.not_eq_true
abbrev XV:=@List.mem_of_find?_eq_some
abbrev qW:=@Option.getD_none
abbrev kE:=@Option.isSome_none
abbrev Ud:=@Option.isSome_some
abbrev KY:=@Int.mul_nonneg
abbrev acV:=@Int.mul_le_mul
abbrev SA:=@Int.neg_mul
abbrev yQ:=@List.all_cons
abbrev acn:=@List.all_nil
abbrev aco:=@Bool.and_true
abbrev Ji:=@Int.mul_pos
abbrev qZ:=@Int.mul_pos_of_neg_of_neg
abbrev acp:=@Int.mul_nonpos_of_nonneg_of_nonpos
abbrev yR:=@Int.mul_nonpos_of_nonpos_of_nonneg
abbrev WE:=@Int.mul_neg_of_pos_of_neg
abbrev Uf:=@Int.mul_neg_of_neg_of_pos
abbrev WG:=@Int.mul_eq_zero
abbrev kK:=@Bool.true_and
abbrev yS:=@List.flatMap_nil
abbrev MC:=@List.append_nil
abbrev Ii:=@List.mem_flatMap
abbrev OC:=@Bool.or_eq_false_iff
abbrev WH:=@List.all_map
abbrev Ug:=@Nat.zero_add
abbrev qc:=@List.cons_append
abbrev acr:=@Nat.le_succ
abbrev P9:=@List.length_range
abbrev kL:=@Nat.eq_zero_or_pos
abbrev agy:=@Nat.div_lt_of_lt_mul
abbrev yT:=@Nat.mul_comm
abbrev Uh:=@Nat.mod_lt
abbrev acs:=@Nat.div_add_mod'
abbrev kM:=@List.ext_getElem?
abbrev qX:=@Nat.mul_le_mul_right
abbrev OB:=@Int.mul_comm
abbrev acd:=@Int.lt_or_le
abbrev dW:=@Int.le_of_lt
abbrev KO:=@Int.mul_zero
abbrev Jy:=@Int.zero_mul
abbrev P8:=@List.pairwise_cons
abbrev agx:=@List.map_flatMap
abbrev yO:=@List.pairwise_flatMap
abbrev IX:=@List.pairwise_map
abbrev ace:=@List.getD_cons_succ
abbrev WC:=@List.foldl_append
abbrev kH:=@List.foldl_cons
abbrev dY:=@Int.le_refl
abbrev qY:=@List.any_cons
abbrev acf:=@List.any_append
abbrev SB:=@List.mem_append_left
abbrev kJ:=@List.mem_append_right
abbrev Iw:=@Int.lt_trichotomy
abbrev LM:=@List.mem_cons_of_mem
abbrev yP:=@List.nodup_cons
abbrev acg:=@List.length_pos_of_mem
abbrev ach:=@List.nodup_append
abbrev aci:=@Nat.sub_add_cancel
abbrev dZ:=@List.pairwise_append
abbrev acj:=@List.perm_ext_iff_of_nodup
abbrev kF:=@List.mem_flatten
abbrev OX:=@Int.neg_neg
abbrev acY:=@List.mem_reverse
abbrev QT:=@Nat.lt_trichotomy
abbrev agw:=@List.takeWhile_append_dropWhile
abbrev WA:=@Nat.mod_eq_of_lt
abbrev yN:=@Nat.add_mod_right
abbrev WB:=@List.length_reverse
abbrev ZK:=@List.drop_length
abbrev acZ:=@List.drop_zero
abbrev kU:=@List.drop_eq_getElem_cons
abbrev yg:=@Nat.add_sub_cancel
abbrev dw:=@Int.mul_sub
abbrev kV:=@List.map_congr_left
abbrev acw:=@Int.mul_add
abbrev XY:=@List.range_succ
abbrev eF:=@Int.add_zero
abbrev acy:=@Int.sub_eq_add_neg
abbrev yj:=@Int.sub_self
abbrev qg:=@List.nodup_iff_pairwise_ne
abbrev ah7:=@List.pairwise_flatten
abbrev ah8:=@List.Pairwise.imp_of_mem
abbrev ah9:=@List.drop_eq_nil_of_le
abbrev qh:=@Int.mul_assoc
abbrev ahA:=@Nat.min_eq_right
abbrev acz:=@Int.mul_ediv_cancel_left
abbrev qj:=@Int.neg_dvd
abbrev eG:=@List.filter_cons
abbrev ql:=@Int.min_comm
abbrev qm:=@Int.max_comm
abbrev I5:=@List.take_length
abbrev ahB:=@List.length_take_le
abbrev kW:=@List.mem_of_mem_take
abbrev OD:=@List.take_zero
abbrev yt:=@List.tail_cons
abbrev yu:=@List.length_singleton
abbrev RF:=@Nat.add_zero
abbrev dh:=@List.pairwise_singleton
abbrev agz:=@List.mem_of_head?
abbrev ah0:=@List.mem_of_getLast?
abbrev ah1:=@List.count_pos_iff
abbrev yX:=@List.filter_append
abbrev acu:=@List.filter_nil
abbrev ah2:=@List.length_tail
abbrev kN:=@List.length_pos_iff
abbrev kP:=@Nat.zero_mul
abbrev SC:=@List.length_filter_le
abbrev yY:=@List.flatten_append
abbrev ah3:=@List.set_append_right
abbrev ah4:=@List.set_cons_zero
abbrev kQ:=@List.mem_of_getElem?
abbrev ZL:=@List.count_append
abbrev yZ:=@List.count_eq_zero
abbrev ah5:=@List.count_le_length
abbrev ah6:=@Option.bind_eq_some_iff
abbrev kT:=@List.singleton_append
abbrev acv:=@List.not_mem_nil
abbrev OY:=@Classical.byContradiction
abbrev Gt:=@Option.some.injEq
structure Et(p:Prop):Prop where out:p
theorem AB{p:Prop}(h:p):Et p:=⟨h⟩
theorem EL(x:Int)(h:-9223372036854775808<=x/\x<=9223372036854775807:=by omega):IntKind.i64.wrap x=x:=IntWalk.i64_in _ h
theorem CG{p0 p1 p2:Prop}(h0:p0)(h1:p1)(h2:p2):Et p0/\Et p1/\Et p2:=⟨⟨h0⟩,⟨h1⟩,⟨h2⟩⟩
theorem DW{p0 p1 p2 p3:Prop}(h0:p0)(h1:p1)(h2:p2)(h3:p3):Et p0/\Et p1/\Et p2/\Et p3:=⟨⟨h0⟩,⟨h1⟩,⟨h2⟩,⟨h3⟩⟩
theorem I4{p0 p1 p2 p3 p4:Prop}(h0:p0)(h1:p1)(h2:p2)(h3:p3)(h4:p4):Et p0/\Et p1/\Et p2/\Et p3/\Et p4:=⟨⟨h0⟩,⟨h1⟩,⟨h2⟩,⟨h3⟩,⟨h4⟩⟩
theorem Jz{p0 p1 p2 p3 p4 p5:Prop}(h0:p0)(h1:p1)(h2:p2)(h3:p3)(h4:p4)(h5:p5):Et p0/\Et p1/\Et p2/\Et p3/\Et p4/\Et p5:=⟨⟨h0⟩,⟨h1⟩,⟨h2⟩,⟨h3⟩,⟨h4⟩,⟨h5⟩⟩
theorem WI{p0 p1 p2 p3 p4 p5 p6:Prop}(h0:p0)(h1:p1)(h2:p2)(h3:p3)(h4:p4)(h5:p5)(h6:p6):Et p0/\Et p1/\Et p2/\Et p3/\Et p4/\Et p5/\Et p6:=⟨⟨h0⟩,⟨h1⟩,⟨h2⟩,⟨h3⟩,⟨h4⟩,⟨h5⟩,⟨h6⟩⟩
theorem yU{p0 p1 p2 p3 p4 p5 p6 p7:Prop}(h0:p0)(h1:p1)(h2:p2)(h3:p3)(h4:p4)(h5:p5)(h6:p6)(h7:p7):Et p0/\Et p1/\Et p2/\Et p3/\Et p4/\Et p5/\Et p6/\Et p7:=⟨⟨h0⟩,⟨h1⟩,⟨h2⟩,⟨h3⟩,⟨h4⟩,⟨h5⟩,⟨h6⟩,⟨h7⟩⟩
theorem yV{p0 p1 p2 p3 p4 p5 p6 p7 p8:Prop}(h0:p0)(h1:p1)(h2:p2)(h3:p3)(h4:p4)(h5:p5)(h6:p6)(h7:p7)(h8:p8):Et p0/\Et p1/\Et p2/\Et p3/\Et p4/\Et p5/\Et p6/\Et p7/\Et p8:=⟨⟨h0⟩,⟨h1⟩,⟨h2⟩,⟨h3⟩,⟨h4⟩,⟨h5⟩,⟨h6⟩,⟨h7⟩,⟨h8⟩⟩
def AO (w:World) (g:Nat) (t:TypeId) (cs:Array Value):Prop:=w.heap[g]? = some (.cells cs t (0,0))
section
variable {w w':World} {g:Nat} {t:TypeId} {cs:Array Value}
theorem AO.lt (h:AO w g t cs):g<w.heap.size:=by
 rcases Nat.lt_or_ge g w.heap.size with hlt | hge
 · exact hlt
 · unfold AO at h;rw [Array.getElem?_eq_none hge] at h;cases h
theorem AO.cell (h:AO w g t cs) (i:Nat):w.cell? ⟨g,i,none⟩=cs[i]? := cell_of_row w g i cs t (0,0) h
theorem AO.frozen (h:AO w g t cs) (i:Nat):w.frozen? ⟨g,i,none⟩=false:=by
 unfold AO at h;simp [World.frozen?,h]
theorem AO.new (w:World) (t:TypeId) (cs:Array Value):AO (w.alloc (.cells cs t)) w.heap.size t cs:=heap_alloc_new w _
theorem AO.made {o:Nat} (h:o=w.heap.size) (t:TypeId) (cs:Array Value):AO (w.alloc (.cells cs t)) o t cs:=by subst h;exact AO.new w t cs
theorem AO.drew (h:AO w g t cs):AO w.drew g t cs:=h
theorem AO.alloc (h:AO w g t cs) (o:Obj):AO (w.alloc o) g t cs:=(Below.heap_alloc w o g h.lt).trans h
theorem AO.EH (h:AO w g t cs) (i:Nat) (u:Value):AO (w.setCell ⟨g,i,none⟩ u) g t (cs.setIfInBounds i u):=by
 unfold AO at h ⊢;simp [World.setCell,Array.getElem?_modify,h]
theorem AO.far (h:AO w g t cs) {p:Addr} (hp:g≠p.block) (u:Value):AO (w.setCell p u) g t cs:=(Below.heap_setCell w p u g hp).trans h
theorem AO.below {B:Nat} (h:AO w g t cs) (hb:Below B w w') (hg:g<B):AO w' g t cs:=(hb.block g hg).trans h
theorem AO.keep (h:AO w g t cs) (hb:Below w.heap.size w w'):AO w' g t cs:=(hb.block g h.lt).trans h
theorem AO.grown {row:Option Nat} (h:AO w g t cs) (hb:w.grownBy w' row) (hg:some g≠row):AO w' g t cs:=(hb.block g h.lt hg).trans h
theorem AO.sN {g':Nat} {t':TypeId} {cs':Array Value} (h:AO w g t cs) (h':AO w g' t' cs') (hne:t≠t'):g≠g':=by
 rintro rfl;unfold AO at h h';rw [h] at h';injection h' with h';injection h' with _ ht;exact hne ht
theorem ao5 {base:Nat} {e:TypeId} {size n:Nat} {v:Value} {xs:List Value} (h:w.ownsRow base e size v n xs) (hg:AO w g t cs) (hne:e≠t):v.ownBlock≠some g:=by
 rcases h.2 with ⟨rfl,_⟩ | ⟨g',cap,cur,rfl,_,hh,_⟩
 · simp [Value.ownBlock]
 ·intro he
  have:g'=g:=by simpa [Value.ownBlock] using he
  subst this;exact AO.sN (t:=e) hh hg hne rfl
end
theorem Uu {W w1:World} (hb:Below W.heap.size W w1):(∀ b o,b<W.heap.size->w1.cell? ⟨b,o,none⟩=W.cell? ⟨b,o,none⟩)/\(∀ b o,b<W.heap.size->w1.frozen? ⟨b,o,none⟩=W.frozen? ⟨b,o,none⟩) :=
 ⟨fun b o h=>hb.cell (p:=⟨b,o,none⟩) h,fun b o h=>hb.frozen (p:=⟨b,o,none⟩) h⟩
section
variable {w:World} {g:Nat} {t:TypeId}
theorem AO.LD {v0:Value} (h:AO w g t #[v0]):g<w.heap.size/\w.cell? ⟨g,0,none⟩=some v0/\w.frozen? ⟨g,0,none⟩=false :=
 ⟨h.lt,h.cell 0,h.frozen 0⟩
theorem AO.Bl {v0 v1:Value} (h:AO w g t #[v0,v1]):g<w.heap.size/\w.cell? ⟨g,0,none⟩=some v0/\w.cell? ⟨g,1,none⟩=some v1/\w.frozen? ⟨g,0,none⟩=false/\w.frozen? ⟨g,1,none⟩=false :=
 ⟨h.lt,h.cell 0,h.cell 1,h.frozen 0,h.frozen 1⟩
theorem AO.Az {v0 v1 v2:Value} (h:AO w g t #[v0,v1,v2]):g<w.heap.size/\w.cell? ⟨g,0,none⟩=some v0/\w.cell? ⟨g,1,none⟩=some v1/\w.cell? ⟨g,2,none⟩=some v2/\w.frozen? ⟨g,0,none⟩=false/\w.frozen? ⟨g,1,none⟩=false/\w.frozen? ⟨g,2,none⟩=false :=
 ⟨h.lt,h.cell 0,h.cell 1,h.cell 2,h.frozen 0,h.frozen 1,h.frozen 2⟩
theorem AO.sO {v0 v1 v2 v3:Value} (h:AO w g t #[v0,v1,v2,v3]):g<w.heap.size/\w.cell? ⟨g,0,none⟩=some v0/\w.cell? ⟨g,1,none⟩=some v1/\w.cell? ⟨g,2,none⟩=some v2/\w.cell? ⟨g,3,none⟩=some v3/\w.frozen? ⟨g,0,none⟩=false/\w.frozen? ⟨g,1,none⟩=false/\w.frozen? ⟨g,2,none⟩=false/\w.frozen? ⟨g,3,none⟩=false :=
 ⟨h.lt,h.cell 0,h.cell 1,h.cell 2,h.cell 3,h.frozen 0,h.frozen 1,h.frozen 2,h.frozen 3⟩
theorem AO.Iy {v0 v1 v2 v3 v4 v5:Value} (h:AO w g t #[v0,v1,v2,v3,v4,v5]):g<w.heap.size/\w.cell? ⟨g,0,none⟩=some v0/\w.cell? ⟨g,1,none⟩=some v1/\w.cell? ⟨g,2,none⟩=some v2/\w.cell? ⟨g,3,none⟩=some v3/\w.cell? ⟨g,4,none⟩=some v4/\w.cell? ⟨g,5,none⟩=some v5/\w.frozen? ⟨g,0,none⟩=false/\w.frozen? ⟨g,1,none⟩=false/\w.frozen? ⟨g,2,none⟩=false/\w.frozen? ⟨g,3,none⟩=false/\w.frozen? ⟨g,4,none⟩=false/\w.frozen? ⟨g,5,none⟩=false :=
 ⟨h.lt,h.cell 0,h.cell 1,h.cell 2,h.cell 3,h.cell 4,h.cell 5,h.frozen 0,h.frozen 1,h.frozen 2,h.frozen 3,h.frozen 4,h.frozen 5⟩
end
section
variable {w w1 w2:World}
theorem bR (w:World):Below w.heap.size w w:=Below.refl _ _
theorem bA (h:Below w.heap.size w w1) (o:Obj):Below w.heap.size w (w1.alloc o):=h.alloc h.size o
theorem bD (h:Below w.heap.size w w1):Below w.heap.size w w1.drew:=h.drew
theorem bN (h:Below w.heap.size w w1) (n:Nat):Below w.heap.size w (w1.drewN n):=⟨h.os,h.tape,h.output,h.size,h.block⟩
theorem bT (h:Below w.heap.size w w1) (k:Below w1.heap.size w1 w2):Below w.heap.size w w2:=h.trans (k.mono h.size)
theorem bS (h:Below w.heap.size w w1) {p:Addr} (hp:w.heap.size<=p.block) (u:Value):Below w.heap.size w (w1.setCell p u):=h.setCell hp u
theorem bG (h:Below w.heap.size w w1) {row:Option Nat} (hg:w1.grownBy w2 row) (hr:∀ k,row=some k->w.heap.size<=k):Below w.heap.size w w2:=h.grown hg h.size hr
end
theorem KL {W w':World} (hb:Below W.heap.size W w') {p:Addr} {v:Value} (h:W.cell? p=some v):w'.cell? p=some v:=by
 rw [hb.cell (World.block_lt_of_cell? W p h)];exact h
def Row (w:World) (A:Option Addr) (xs:List Value):Prop :=
 xs≠[]->∃ b o,A=some ⟨b,o,none⟩/\b<w.heap.size/\∀ j v,xs[j]? = some v->w.cell? ⟨b,o+j,none⟩=some v
theorem Row.mono {w w':World} {A:Option Addr} {xs:List Value} (h:Row w A xs) (hb:Below w.heap.size w w'):Row w' A xs:=by
 intro hne;obtain ⟨b,o,rfl,hlt,hc⟩:=h hne;exact ⟨b,o,rfl,Nat.lt_of_lt_of_le hlt hb.size,fun j v hj=>by rw [hb.cell (p:=⟨b,_,none⟩) hlt];exact hc j v hj⟩
theorem Row.nil {w:World} {A:Option Addr}:Row w A []:=fun h=>absurd rfl h
theorem Row.SK {w:World} {base:Nat} {e:TypeId} {size n:Nat} {A:Option Addr} {c:Nat} {xs:List Value} (h:w.ownsRow base e size (.slice A n c) n xs):Row w A xs:=by
 intro hne;rcases h.2 with ⟨hv,hn⟩ | ⟨g,cap,cur,hv,_,hh,_,_,hsz,hx⟩
 · exact absurd (List.eq_nil_of_length_eq_zero (by rw [h.1,hn];simp)) hne
 ·injection hv with hA _ _;subst hA;refine ⟨g,0,rfl,?_,fun j v hj=>?_⟩
  · exact AO.lt hh
  ·rw [cell_of_row w g _ cur e (0,0) hh];subst hx;rw [List.getElem?_take] at hj;split at hj
   · simpa using hj
   · cases hj
def Sl (w:World) (v:Value) (n:Nat) (xs:List Value):Prop :=
 ∃ A c,v=.slice A n c/\n<=c/\c<=maxLen/\Row w A xs
theorem Sl.mono {w w':World} {v:Value} {n:Nat} {xs:List Value} (h:Sl w v n xs) (hb:Below w.heap.size w w'):Sl w' v n xs:=by
 obtain ⟨A,c,hv,h1,h2,h3⟩:=h;exact ⟨A,c,hv,h1,h2,h3.mono hb⟩
theorem Sl.SK {w:World} {base:Nat} {e:TypeId} {size n:Nat} {v:Value} {xs:List Value} (h:w.ownsRow base e size v n xs):Sl w v n xs:=by
 rcases h.2 with ⟨hv,hn⟩ | ⟨g,cap,cur,hv,hg,hh,h1,h2,hsz,hx⟩
 ·subst hv;subst hn;exact ⟨none,0,rfl,Nat.le_refl _,by simp [maxLen],Row.SK h⟩
 ·subst hv;exact ⟨_,cap,rfl,h1,h2,Row.SK h⟩
theorem own_below {w w':World} {base:Nat} {e:TypeId} {size n:Nat} {v:Value} {xs:List Value} (h:w.ownsRow base e size v n xs) (hb:Below w.heap.size w w'):w'.ownsRow base e size v n xs:=by
 obtain ⟨h1,h2⟩:=h;refine ⟨h1,?_⟩;rcases h2 with h2 | ⟨g,cap,cur,hv,hg,hh,r⟩
 · exact .inl h2
 · exact .inr ⟨g,cap,cur,hv,hg,(hb.block g (AO.lt hh)).trans hh,r⟩
theorem flat_get {α:Type} (f:α->List Value) (n:Nat) (hn:∀ a,(f a).length=n) (l:List α) (k j:Nat) (hk:k<l.length) (hj:j<n) :
  (l.flatMap f)[k*n+j]? = (f l[k])[j]? := by
 induction l generalizing k with
 | nil=>simp at hk
 | cons a l ih =>
  cases k with
  | zero=>simp [List.flatMap_cons,List.getElem?_append_left,hn,hj]
  | succ k =>
   have hk':k<l.length:=by simpa using hk
   rw [List.flatMap_cons,List.getElem?_append_right (by rw [hn,Nat.succ_mul];omega),hn];rw [show (k+1)*n+j-n=k*n+j by rw [Nat.succ_mul];omega,ih k hk'];simp
theorem flat_length {α:Type} (f:α->List Value) (n:Nat) (hn:∀ a,(f a).length=n) (l:List α):(l.flatMap f).length=l.length*n:=by
 induction l with
 | nil=>simp
 | cons a l ih=>simp [List.flatMap_cons,hn,ih,Nat.succ_mul];omega
theorem Row.at_ {w:World} {A:Option Addr} {α:Type} {f:α->List Value} {n:Nat} (hn:∀ a,(f a).length=n) {l:List α} (h:Row w A (l.flatMap f)) {k:Nat} (hk:k<l.length) (hpos:0<n) :
  ∃ b o,A=some ⟨b,o,none⟩/\b<w.heap.size/\∀ j u,(f l[k])[j]? = some u->w.cell? ⟨b,o+k*n+j,none⟩=some u:=by
 have hne:l.flatMap f≠[]:=by
  intro h0;have:=flat_length f n hn l
  rw [h0] at this
  have:0<l.length*n:=Nat.mul_pos (by omega) hpos
  simp at *;omega
 obtain ⟨b,o,rfl,hlt,hc⟩:=h hne;refine ⟨b,o,rfl,hlt,fun j u hj=>?_⟩;have hj':j<n:=by
  rcases Nat.lt_or_ge j n with h' | h'
  · exact h'
  · rw [List.getElem?_eq_none (by rw [hn];exact h')] at hj;cases hj
 have:=hc (k*n+j) u (by rw [flat_get f n hn l k j hk hj'];exact hj)
 rwa [<- Nat.add_assoc] at this
structure Pt where
 x:Int
 y:Int
structure Nd where
 id:Int
 pt:Pt
structure Ar where
 id:Int
 fr:Int
 dst:Int
 via:List Pt
 left:Int
 right:Int
structure Pl where
 nodes:List Nd
 AQ:List Ar
 faces:List Int
structure Bx where
 x0:Int
 y0:Int
 x1:Int
 y1:Int
instance:DecidableEq Pt:=fun a b =>
 if h:a.x=b.x/\a.y=b.y then isTrue (by cases a;cases b;simp_all) else isFalse (by rintro rfl;simp at h)
instance:DecidableEq Nd:=fun a b =>
 if h:a.id=b.id/\a.pt=b.pt then isTrue (by cases a;cases b;simp_all) else isFalse (by rintro rfl;simp at h)
instance:DecidableEq Ar:=fun a b =>
 if h:a.id=b.id/\a.fr=b.fr/\a.dst=b.dst/\a.via=b.via/\a.left=b.left/\a.right=b.right then isTrue (by cases a;cases b;simp_all) else isFalse (by rintro rfl;simp at h)
instance:DecidableEq Bx:=fun a b =>
 if h:a.x0=b.x0/\a.y0=b.y0/\a.x1=b.x1/\a.y1=b.y1 then isTrue (by cases a;cases b;simp_all) else isFalse (by rintro rfl;simp at h)
theorem Pt.ext_iff' {a b:Pt}:a=b↔a.x=b.x/\a.y=b.y:=by cases a;cases b;simp
def DY (n:Int):List Value:=[.int .i64 n]
def DK (p:Pt):List Value:=[.int .i64 p.x,.int .i64 p.y]
def PD (n:Nd):List Value:=[.int .i64 n.id,.int .i64 n.pt.x,.int .i64 n.pt.y]
def zN (p:Ar×Value):List Value:=[.int .i64 p.1.id,.int .i64 p.1.fr,.int .i64 p.1.dst,p.2,.int .i64 p.1.left,.int .i64 p.1.right]
def BA (p:Pt):Value:=.agg #[.int .i64 p.x,.int .i64 p.y]
def sQ (n:Nd):Value:=.agg #[.int .i64 n.id,.int .i64 n.pt.x,.int .i64 n.pt.y]
def Uj (a:Ar) (v:Value):Value:=.agg #[.int .i64 a.id,.int .i64 a.fr,.int .i64 a.dst,v,.int .i64 a.left,.int .i64 a.right]
def Ints (w:World) (v:Value) (l:List Int):Prop:=Sl w v l.length (l.flatMap DY)
def CZ (w:World) (v:Value) (l:List Pt):Prop:=Sl w v l.length (l.flatMap DK)
def lV (w:World) (v:Value) (l:List Nd):Prop:=Sl w v l.length (l.flatMap PD)
def eU (w:World) (l:List (Ar×Value)):Prop:=∀ k (hk:k<l.length),CZ w l[k].2 l[k].1.via
def zO (w:World) (v:Value) (l:List (Ar×Value)):Prop:=Sl w v l.length (l.flatMap zN)/\eU w l
def D6 (w:World) (v:Value) (p:Pl):Prop :=
 ∃ vn va vf al,v=.agg #[vn,va,vf]/\p.AQ=al.map (·.1)/\lV w vn p.nodes/\zO w va al/\Ints w vf p.faces
section
variable {w w':World} {v:Value}
theorem Ints.mono {l:List Int} (h:Ints w v l) (hb:Below w.heap.size w w'):Ints w' v l:=Sl.mono h hb
theorem CZ.mono {l:List Pt} (h:CZ w v l) (hb:Below w.heap.size w w'):CZ w' v l:=Sl.mono h hb
theorem lV.mono {l:List Nd} (h:lV w v l) (hb:Below w.heap.size w w'):lV w' v l:=Sl.mono h hb
theorem eU.mono {l:List (Ar×Value)} (h:eU w l) (hb:Below w.heap.size w w'):eU w' l:=fun k hk=>(h k hk).mono hb
theorem zO.mono {l:List (Ar×Value)} (h:zO w v l) (hb:Below w.heap.size w w'):zO w' v l:=⟨Sl.mono h.1 hb,h.2.mono hb⟩
theorem D6.mono {p:Pl} (h:D6 w v p) (hb:Below w.heap.size w w'):D6 w' v p:=by
 obtain ⟨vn,va,vf,al,hv,hp,h1,h2,h3⟩:=h;exact ⟨vn,va,vf,al,hv,hp,h1.mono hb,h2.mono hb,h3.mono hb⟩
end
section
variable {w:World} {A:Option Addr}
theorem Row.int {l:List Int} (h:Row w A (l.flatMap DY)) {k:Nat} (hk:k<l.length) :
  ∃ b o,A=some ⟨b,o,none⟩/\b<w.heap.size/\w.cell? ⟨b,o+k,none⟩=some (.int .i64 l[k]):=by
 obtain ⟨b,o,hA,hb,hc⟩:=h.at_ (n:=1) (fun _=>rfl) hk (by omega);exact ⟨b,o,hA,hb,by simpa using hc 0 _ rfl⟩
theorem Row.pt {l:List Pt} (h:Row w A (l.flatMap DK)) {k:Nat} (hk:k<l.length) :
  ∃ b o,A=some ⟨b,o,none⟩/\b<w.heap.size/\w.cell? ⟨b,o+k*2,none⟩=some (.int .i64 l[k].x)/\w.cell? ⟨b,o+k*2+1,none⟩=some (.int .i64 l[k].y):=by
 obtain ⟨b,o,hA,hb,hc⟩:=h.at_ (n:=2) (fun _=>rfl) hk (by omega);exact ⟨b,o,hA,hb,hc 0 _ rfl,hc 1 _ rfl⟩
theorem Row.nd {l:List Nd} (h:Row w A (l.flatMap PD)) {k:Nat} (hk:k<l.length) :
  ∃ b o,A=some ⟨b,o,none⟩/\b<w.heap.size/\w.cell? ⟨b,o+k*3,none⟩=some (.int .i64 l[k].id)/\w.cell? ⟨b,o+k*3+1,none⟩=some (.int .i64 l[k].pt.x)/\w.cell? ⟨b,o+k*3+2,none⟩=some (.int .i64 l[k].pt.y):=by
 obtain ⟨b,o,hA,hb,hc⟩:=h.at_ (n:=3) (fun _=>rfl) hk (by omega);exact ⟨b,o,hA,hb,hc 0 _ rfl,hc 1 _ rfl,hc 2 _ rfl⟩
theorem Row.ar {l:List (Ar×Value)} (h:Row w A (l.flatMap zN)) {k:Nat} (hk:k<l.length) :
  ∃ b o,A=some ⟨b,o,none⟩/\b<w.heap.size/\w.cell? ⟨b,o+k*6,none⟩=some (.int .i64 l[k].1.id)/\w.cell? ⟨b,o+k*6+1,none⟩=some (.int .i64 l[k].1.fr)/\w.cell? ⟨b,o+k*6+2,none⟩=some (.int .i64 l[k].1.dst) /\
   w.cell? ⟨b,o+k*6+3,none⟩=some l[k].2/\w.cell? ⟨b,o+k*6+4,none⟩=some (.int .i64 l[k].1.left)/\w.cell? ⟨b,o+k*6+5,none⟩=some (.int .i64 l[k].1.right):=by
 obtain ⟨b,o,hA,hb,hc⟩:=h.at_ (n:=6) (fun _=>rfl) hk (by omega);exact ⟨b,o,hA,hb,hc 0 _ rfl,hc 1 _ rfl,hc 2 _ rfl,hc 3 _ rfl,hc 4 _ rfl,hc 5 _ rfl⟩
end
theorem D7 {n:Nat} (h:n<=4294967296):n<=maxLen:=by
 have:maxLen=9223372036854775807:=rfl
 omega
theorem Sl.lit {w:World} {g n:Nat} {t:TypeId} {cs:Array Value} {xs:List Value} (h:AO w g t cs) (hx:cs.toList=xs) (hn:n<=maxLen):Sl w (.slice (some ⟨g,0,none⟩) n n) n xs :=
 ⟨_,n,rfl,Nat.le_refl _,hn,fun _=>⟨g,0,rfl,h.lt,fun j v hj=>by rw [h.cell,<- hj,<- hx];simp⟩⟩
theorem CZ.Zl {w:World} {g:Nat} {t:TypeId} {a b c:Pt} (h:AO w g t #[.int .i64 a.x,.int .i64 a.y,.int .i64 b.x,.int .i64 b.y,.int .i64 c.x,.int .i64 c.y]):CZ w (.slice (some ⟨g,0,none⟩) 3 3) [a,b,c] :=
 Sl.lit (n:=3) h rfl (D7 (by omega))
theorem CZ.zQ {w:World} {g:Nat} {t:TypeId} {a b c d:Pt} (h:AO w g t #[.int .i64 a.x,.int .i64 a.y,.int .i64 b.x,.int .i64 b.y,.int .i64 c.x,.int .i64 c.y,.int .i64 d.x,.int .i64 d.y]):CZ w (.slice (some ⟨g,0,none⟩) 4 4) [a,b,c,d] :=
 Sl.lit (n:=4) h rfl (D7 (by omega))
theorem all_succ {α:Type} {l:List α} {p:α->Prop} {k:Nat} (h:∀ j (hj:j<l.length),j<k->p l[j]) (hk:k<l.length) (hp:p l[k]):∀ j (hj:j<l.length),j<k+1->p l[j]:=by
 intro j hj hjk;by_cases e:j<k
 · exact h j hj e
 ·have:j=k:=by omega
  subst this;exact hp
theorem D8 {k:IntKind} {a b:Int} (h:a=b):Ending.returned (.int k a)=.returned (.int k b):=by rw [h]
theorem CP {a b:Bool} (h:a=b):Ending.returned (.bool a)=.returned (.bool b):=by rw [h]
section
variable {P:Program} (w:World)
theorem Row.at0 {w:World} {ad:Addr} {xs:List Value} (h:Row w (some ad) xs) (j:Nat) (u:Value) (hu:xs[j]? = some u):w.cell? (ad.add j)=some u:=by
 have hne:xs≠[]:=by rintro rfl;simp at hu
 obtain ⟨b,o,e,_,hc⟩:=h hne;injection e with e;subst e;have:=hc j u hu
 unfold Addr.add;split
 · rename_i h0;subst h0;simpa using this
 · exact this
theorem ao6 (base:Nat) (t ty e:TypeId) (i:TypeInfo) (z:Value) (size bytes:Nat) (ht:P.underlying t=some (.slice e)) (hi:P.info? e=some i) (hz:i.zero=some z)
  (hsize:i.size=size) (hby:i.bytes=bytes) (hzs:z.cells.size=size) (hsz:0<size)
  (v:Value) (n:Nat) (xs:List Value) (hown:w.ownsRow base e size v n xs)
  (s:Value) (m:Nat) (news:List Value) (hs:Sl w s m news) (hl:news.length=m*size) (h1:∀ u∈news,u.oneCell'=true)
  (h63:n+m<=maxLen) (hbytes:(n+m)*bytes<=140737488355328) (hbase:base<=w.heap.size) :
  ∃ v' w',(Builtin.append_ #[t,t] ty #[v,s]).run P w=.ok v' w'/\w'.ownsRow base e size v' (n+m) (xs++news)/\w.grownBy w' v.ownBlock /\
   (v'.ownBlock=v.ownBlock\/v'.ownBlock=some w.heap.size):=by
 obtain ⟨A,c,rfl,_,_,hr⟩:=hs;rcases A with _ | ad
 ·have hn:news=[]:=by
   rcases news with _ | ⟨u,us⟩
   · rfl
   ·obtain ⟨b,o,e,_⟩:=hr (by simp)
    cases e
  subst hn;have hm:m=0:=by
   rcases Nat.eq_zero_or_pos m with h0 | h0
   · exact h0
   ·have:=Nat.mul_pos h0 hsz
    simp at hl;omega
  subst hm;refine ⟨v,w,?_,by simpa using hown,World.grownBy.refl w _,.inl rfl⟩;rcases hown.2 with ⟨rfl,rfl⟩ | ⟨g,cap,cur,rfl,_,_,hnc,_⟩
  · simp [Builtin.append_,run_underlying ht,sizeOf,typeInfo,hi,Builtin.lenOf,Builtin.firstCells]
  · simp [Builtin.append_,run_underlying ht,sizeOf,typeInfo,hi,Builtin.lenOf,Builtin.firstCells,hnc,storeCells]
 ·obtain ⟨v',w',hrun,h2,h3,_,h5⟩:=run_append_own_at (P:=P) w base t ty e i z size bytes ht hi hz hsize hby hzs hsz v n xs hown ad m c news hl (fun j u hu=>hr.at0 j u hu) h1 h63 hbytes hbase;exact ⟨v',w',hrun,h2,h3,h5⟩
theorem ahD {o:Oper} {a:Act} {K:Act->World->Prop} {Q:Exit->Act->World->Prop} (s x:Operand) (t:TypeId)
  (ho:o.op=.call {callee:=.builtin .append,args:=#[s,x],argTypes:=#[t,t]})
  (base:Nat) (e:TypeId) (i:TypeInfo) (z:Value) (size bytes:Nat) (ht:P.underlying t=some (.slice e)) (hi:P.info? e=some i) (hz:i.zero=some z)
  (hsize:i.size=size) (hby:i.bytes=bytes) (hzs:z.cells.size=size) (hsz:0<size)
  (v:Value) (n:Nat) (xs:List Value) (hs:a.eval s=v) (hown:w.ownsRow base e size v n xs)
  (src:Value) (m:Nat) (news:List Value) (hx:a.eval x=src) (hr:Sl w src m news) (hl:news.length=m*size) (h1:∀ u∈news,u.oneCell'=true)
  (h63:n+m<=maxLen) (hbytes:(n+m)*bytes<=140737488355328) (hbase:base<=w.heap.size)
  (h:∀ v' w',w'.ownsRow base e size v' (n+m) (xs++news)->w.grownBy w' v.ownBlock->(v'.ownBlock=v.ownBlock\/v'.ownBlock=some w.heap.size)->K (a.put o.dst v') w'):o.wp P a w K Q:=by
 obtain ⟨v',w',hrun,h2,h3,h4⟩:=ao6 (P:=P) w base t o.type e i z size bytes ht hi hz hsize hby hzs hsz v n xs hown src m news hr hl h1 h63 hbytes hbase;unfold Oper.wp execOp;simp only [ho,resolve,invoke,builtin,Sem.run_bind,Sem.run_pure,Result.andThen_ok,List.map_toArray,List.map_cons,List.map_nil,hs,hx,hrun];exact h v' w' h2 h3 h4
theorem ahE {ops:Array Oper} {rest:List Oper} {o:Oper} {a:Act} {Q:Exit->Act->World->Prop} (hgd:o.guard=none) (s x:Operand) (t:TypeId)
  (ho:o.op=.call {callee:=.builtin .append,args:=#[s,x],argTypes:=#[t,t]})
  (base:Nat) (e:TypeId) (i:TypeInfo) (z:Value) (size bytes:Nat) (ht:P.underlying t=some (.slice e)) (hi:P.info? e=some i) (hz:i.zero=some z)
  (hsize:i.size=size) (hby:i.bytes=bytes) (hzs:z.cells.size=size) (hsz:0<size)
  (v:Value) (n:Nat) (xs:List Value) (hs:a.eval s=v) (hown:w.ownsRow base e size v n xs)
  (src:Value) (m:Nat) (news:List Value) (hx:a.eval x=src) (hr:Sl w src m news) (hl:news.length=m*size) (h1:∀ u∈news,u.oneCell'=true)
  (h63:n+m<=maxLen) (hbytes:(n+m)*bytes<=140737488355328) (hbase:base<=w.heap.size)
  (h:∀ v' w',w'.ownsRow base e size v' (n+m) (xs++news)->w.grownBy w' v.ownBlock->(v'.ownBlock=v.ownBlock\/v'.ownBlock=some w.heap.size)->wpList P ops Q rest (a.put o.dst v') w'):wpList P ops Q (o::rest) a w :=
 wpList_plain hgd fun _ hK=>ahD w s x t ho base e i z size bytes ht hi hz hsize hby hzs hsz v n xs hs hown src m news hx hr hl h1 h63 hbytes hbase fun v' w' h2 h3 h4=>hK _ _ (h v' w' h2 h3 h4)
end
def Elem (P:Program) (t e:TypeId) (size bytes:Nat):Prop :=
 P.underlying t=some (.slice e)/\∃ i z,P.info? e=some i/\i.zero=some z/\i.size=size/\i.bytes=bytes/\z.cells.size=size/\0<size
theorem Elem.QV {P:Program} {t e:TypeId} {size bytes:Nat} {z:Value} (h:P.underlying t=some (.slice e)) (h':(P.info? e).map (fun i=>(i.zero,i.size,i.bytes))=some (some z,size,bytes)) (hz:z.cells.size=size) (hp:0<size):Elem P t e size bytes:=by
 obtain ⟨i0,hi,hz0,hz1,hz2⟩:=info_parts h';exact ⟨h,i0,z,hi,hz0,hz1,hz2,hz,hp⟩
def Own {α:Type} (w:World) (base:Nat) (e:TypeId) (size:Nat) (f:α->List Value) (v:Value) (l:List α):Prop:=w.ownsRow base e size v l.length (l.flatMap f)
section
variable {α:Type} {w w':World} {base:Nat} {e:TypeId} {size:Nat} {f:α->List Value} {v:Value} {l:List α}
theorem Own.sl (h:Own w base e size f v l):Sl w v l.length (l.flatMap f):=Sl.SK h
theorem Own.keep (h:Own w base e size f v l) (hb:Below w.heap.size w w'):Own w' base e size f v l:=own_below h hb
theorem Own.alloc (h:Own w base e size f v l) (o:Obj):Own (w.alloc o) base e size f v l:=World.ownsRow.alloc h o
theorem Own.lt (h:Own w base e size f v l):∀ k,v.ownBlock=some k->base<=k/\k<w.heap.size:=World.ownsRow.lt h
theorem Own.nil (w:World) (base:Nat) (e:TypeId) (size:Nat) (f:α->List Value):Own w base e size f (.slice none 0 0) []:=World.ownsRow_nil w base e size
theorem Own.far (h:Own w base e size f v l) {p:Addr} (hp:v.ownBlock≠some p.block) (u:Value):Own (w.setCell p u) base e size f v l:=by
 obtain ⟨h1,h2⟩:=h;refine ⟨h1,?_⟩;rcases h2 with h2 | ⟨g,cap,cur,hv,hg,hh,r⟩
 · exact .inl h2
 ·subst hv;refine .inr ⟨g,cap,cur,rfl,hg,(Below.heap_setCell w p u g (fun e=>hp (by rw [<- e];rfl))).trans hh,r⟩
theorem Own.EX (h:Own w base e size f v l) {g:Nat} {t:TypeId} {cs:Array Value} (hg:AO w g t cs) (hne:e≠t):v.ownBlock≠some g:=ao5 h hg hne
theorem Own.EM (h:Own w base e size f v l) {b':Nat} (hb:b'<=base):Own w b' e size f v l:=by
 obtain ⟨h1,h2⟩:=h;refine ⟨h1,?_⟩;rcases h2 with h2 | ⟨g,cap,cur,hv,hg,r⟩
 · exact .inl h2
 · exact .inr ⟨g,cap,cur,hv,Nat.le_trans hb hg,r⟩
end
theorem Own.lit {α:Type} (w:World) (base:Nat) (e:TypeId) (size:Nat) (f:α->List Value) (l:List α) (cs:Array Value) (n:Nat) (g:Nat) (hg:g=w.heap.size) (hn:n=l.length) (hb:base<=w.heap.size) (hm:n<=maxLen) (hs:cs.size=n*size) (hx:cs.toList=l.flatMap f) :
  Own (w.alloc (.cells cs e)) base e size f (.slice (some ⟨g,0,none⟩) n n) l:=by
 subst hg;subst hn;have:=World.ownsRow_lit (base:=base) (e:=e) (size:=size) w cs l.length hb hm hs
 unfold Own;rw [<- hx];simpa [<- hs] using this
theorem GK {P:Program} {w:World} {o:Oper} {a:Act} {K:Act->World->Prop} {Q:Exit->Act->World->Prop} (s x:Operand) (t:TypeId)
  (ho:o.op=.call {callee:=.builtin .append,args:=#[s,x],argTypes:=#[t,t]})
  {α:Type} {f:α->List Value} {base:Nat} {e:TypeId} {size bytes:Nat} (hE:Elem P t e size bytes) (hf:∀ a,(f a).length=size) (hone:∀ a,∀ u∈f a,u.oneCell'=true)
  {v:Value} {l:List α} (hs:a.eval s=v) (hown:Own w base e size f v l)
  {src:Value} {l2:List α} (hx:a.eval x=src) (hr:Sl w src l2.length (l2.flatMap f))
  (hbytes:(l.length+l2.length)*bytes<=140737488355328) (h32:l.length+l2.length<=4294967296) (hbase:base<=w.heap.size)
  (h:∀ v' w',Own w' base e size f v' (l++l2)->w.grownBy w' v.ownBlock->(v'.ownBlock=v.ownBlock\/v'.ownBlock=some w.heap.size)->K (a.put o.dst v') w'):o.wp P a w K Q:=by
 obtain ⟨ht,i,z,hi,hz,hsize,hby,hzs,hsz⟩:=hE;refine ahD w s x t ho base e i z size bytes ht hi hz hsize hby hzs hsz v l.length (l.flatMap f) hs hown src l2.length (l2.flatMap f) hx hr (flat_length f size hf l2)
  (fun u hu=>?_) (D7 h32) hbytes hbase (fun v' w' h1 h2 h3=>h v' w' ?_ h2 h3)
 ·obtain ⟨a,_,hu⟩:=List.mem_flatMap.1 hu;exact hone a u hu
 ·unfold Own;rw [List.length_append,List.flatMap_append];exact h1
theorem FK {P:Program} (w:World) {ops:Array Oper} {rest:List Oper} {o:Oper} {a:Act} {Q:Exit->Act->World->Prop} (hgd:o.guard=none) (s x:Operand) (t:TypeId)
  (ho:o.op=.call {callee:=.builtin .append,args:=#[s,x],argTypes:=#[t,t]})
  {α:Type} {f:α->List Value} {base:Nat} {e:TypeId} {size bytes:Nat} (hE:Elem P t e size bytes) (hf:∀ a,(f a).length=size) (hone:∀ a,∀ u∈f a,u.oneCell'=true)
  {v:Value} {l:List α} (hs:a.eval s=v) (hown:Own w base e size f v l)
  {src:Value} {l2:List α} (hx:a.eval x=src) (hr:Sl w src l2.length (l2.flatMap f))
  (hbytes:(l.length+l2.length)*bytes<=140737488355328) (h32:l.length+l2.length<=4294967296) (hbase:base<=w.heap.size)
  (h:∀ v' w',Own w' base e size f v' (l++l2)->w.grownBy w' v.ownBlock->(v'.ownBlock=v.ownBlock\/v'.ownBlock=some w.heap.size)->wpList P ops Q rest (a.put o.dst v') w'):wpList P ops Q (o::rest) a w:=by
 obtain ⟨ht,i,z,hi,hz,hsize,hby,hzs,hsz⟩:=hE;refine ahE w hgd s x t ho base e i z size bytes ht hi hz hsize hby hzs hsz v l.length (l.flatMap f) hs hown src l2.length (l2.flatMap f) hx hr (flat_length f size hf l2)
  (fun u hu=>?_) (D7 h32) hbytes hbase (fun v' w' h1 h2 h3=>h v' w' ?_ h2 h3)
 ·obtain ⟨a,_,hu⟩:=List.mem_flatMap.1 hu;exact hone a u hu
 ·unfold Own;rw [List.length_append,List.flatMap_append];exact h1
theorem sU {α:Type} (l:List α) (q:α->Bool) (k:Nat) (hk:k<l.length) (h:∀ j (hj:j<l.length),j<k->q l[j]=false) (he:q l[k]=true):l.find? q=some l[k]:=by
 induction l generalizing k with
 | nil=>simp at hk
 | cons a l ih =>
  cases k with
  | zero=>simp only [List.getElem_cons_zero] at he ⊢;rw [List.find?_cons_of_pos he]
  | succ k =>
   have h0:=h 0 (by simp) (by omega);simp only [List.getElem_cons_zero] at h0;rw [List.find?_cons_of_neg (by simp [h0])];simp only [List.getElem_cons_succ] at he ⊢;exact ih k (by simpa using hk) (fun j hj hjk=>by have h1:=h (j+1) (by simpa using hj) (by omega);simpa only [List.getElem_cons_succ] using h1) he
theorem zB {α:Type} (l:List α) (q:α->Bool) (h:∀ j (hj:j<l.length),q l[j]=false):l.find? q=none:=by
 rw [List.find?_eq_none];intro x hx;obtain ⟨i,hi,rfl⟩:=List.mem_iff_getElem.1 hx;simp [h i hi]
theorem JI:Elem Tryz.prog 25 42 2 16:=Elem.QV (z:=.agg #[.int .i64 0,.int .i64 0]) (by kernel_rfl) (by kernel_rfl) rfl (by omega)
theorem sV:Elem Tryz.prog 30 47 3 24:=Elem.QV (z:=.agg #[.int .i64 0,.int .i64 0,.int .i64 0]) (by kernel_rfl) (by kernel_rfl) rfl (by omega)
theorem Uw:Elem Tryz.prog 31 50 6 64:=Elem.QV (z:=.agg #[.int .i64 0,.int .i64 0,.int .i64 0,.slice none 0 0,.int .i64 0,.int .i64 0]) (by kernel_rfl) (by kernel_rfl) rfl (by omega)
theorem Jk:Elem Tryz.prog 32 3 1 8:=Elem.QV (z:=.int .i64 0) (by kernel_rfl) (by kernel_rfl) rfl (by omega)
theorem I7 (p:Pt):(DK p).length=2:=rfl
theorem sW (p:Nd):(PD p).length=3:=rfl
theorem JV (p:Int):(DY p).length=1:=rfl
theorem JD (p:Pt):∀ u∈DK p,u.oneCell'=true:=by simp [DK,Value.oneCell']
theorem sZ (p:Nd):∀ u∈PD p,u.oneCell'=true:=by simp [PD,Value.oneCell']
theorem Jl (p:Int):∀ u∈DY p,u.oneCell'=true:=by simp [DY,Value.oneCell']
theorem AO.ad9 {w:World} {g:Nat} {t:TypeId} {v0 x0:Value} (h:AO w g t #[v0]):AO (w.setCell ⟨g,0,none⟩ x0) g t #[x0]:=by
 have:=(AO.EH h 0 x0)
 simpa using this
theorem AO.lW {w:World} {g:Nat} {t:TypeId} {v0 v1 x0 x1:Value} (h:AO w g t #[v0,v1]):AO ((w.setCell ⟨g,0,none⟩ x0).setCell ⟨g,1,none⟩ x1) g t #[x0,x1]:=by
 have:=(AO.EH (AO.EH h 0 x0) 1 x1)
 simpa using this
theorem AO.LG {w:World} {g:Nat} {t:TypeId} {v0 v1 v2 x0 x1 x2:Value} (h:AO w g t #[v0,v1,v2]):AO (((w.setCell ⟨g,0,none⟩ x0).setCell ⟨g,1,none⟩ x1).setCell ⟨g,2,none⟩ x2) g t #[x0,x1,x2]:=by
 have:=(AO.EH (AO.EH (AO.EH h 0 x0) 1 x1) 2 x2)
 simpa using this
theorem AO.Uk {w:World} {g:Nat} {t:TypeId} {v0 v1 v2 v3 v4 v5 x0 x1 x2 x3 x4 x5:Value} (h:AO w g t #[v0,v1,v2,v3,v4,v5]):AO ((((((w.setCell ⟨g,0,none⟩ x0).setCell ⟨g,1,none⟩ x1).setCell ⟨g,2,none⟩ x2).setCell ⟨g,3,none⟩ x3).setCell ⟨g,4,none⟩ x4).setCell ⟨g,5,none⟩ x5) g t #[x0,x1,x2,x3,x4,x5]:=by
 have:=(AO.EH (AO.EH (AO.EH (AO.EH (AO.EH (AO.EH h 0 x0) 1 x1) 2 x2) 3 x3) 4 x4) 5 x5)
 simpa using this
def StructOf (P:Program) (ty:TypeId) (n:Nat):Prop :=
 ∃ fs,P.underlying ty=some (.struct fs)/\(P.info? ty).map (·.size)=some n
theorem StructOf.QV {P:Program} {ty:TypeId} {n:Nat} {fs:Array Field} (h:P.underlying ty=some (.struct fs)) (h':(P.info? ty).map (·.size)=some n):StructOf P ty n:=⟨_,h,h'⟩
theorem Iz {P:Program} {fn:Func} {p u:Tmp} {ty t:TypeId} {R:Ending->World->Prop} {a:Act} {w:World} {g:Nat} {cs:Array Value} (h:fn.results=#[.cell p ty,.tmp u])
  (hS:StructOf P ty cs.size) (hp:a.tmps.getD p undef=.pointer (some ⟨g,0,none⟩)) (hd:a.defers=[]) (hb:AO w g t cs) (hR:R (.returned (.tuple #[.agg cs,a.tmps.getD u undef])) w):bodyPost P fn R .ret a w:=by
 obtain ⟨fs,h1,h3⟩:=hS;refine bodyPost_ret ?_ hd hR;rw [results_cell_tmp h,hp];have:=run_loadVar_row (P:=P) w g t ty cs (0,0) (.struct fs) hb h1 rfl h3
 simp [asAddr,Sem.run_pure,Result.andThen,this]
theorem adA {P:Program} {fn:Func} {p:Tmp} {ty t:TypeId} {R:Ending->World->Prop} {a:Act} {w:World} {g:Nat} {cs:Array Value} (h:fn.results=#[.cell p ty])
  (hS:StructOf P ty cs.size) (hp:a.tmps.getD p undef=.pointer (some ⟨g,0,none⟩)) (hd:a.defers=[]) (hb:AO w g t cs) (hR:R (.returned (.agg cs)) w):bodyPost P fn R .ret a w:=by
 obtain ⟨fs,h1,h3⟩:=hS;refine bodyPost_ret ?_ hd hR;have:=run_loadVar_row (P:=P) w g t ty cs (0,0) (.struct fs) hb h1 rfl h3
 have hp':a.tmps[p]?.getD undef=.pointer (some ⟨g,0,none⟩):=by simpa using hp
 simp only [results,h];simp [hp',asAddr,Sem.run_bind,Sem.run_pure,Result.andThen,this]
theorem zC:StructOf Tryz.prog 42 2:=.QV Tryz.underlying42 (by kernel_rfl)
theorem zF:StructOf Tryz.prog 47 3:=.QV Tryz.underlying47 (by kernel_rfl)
theorem Ul:StructOf Tryz.prog 50 6:=.QV Tryz.underlying50 (by kernel_rfl)
theorem Na:StructOf Tryz.prog 34 3:=.QV Tryz.underlying34 (by kernel_rfl)
def Boxed (w:World) (g:Nat) (p:Pt):Prop:=AO w g 42 #[.int .i64 p.x,.int .i64 p.y]
theorem Boxed.facts {w:World} {g:Nat} {p:Pt} (h:Boxed w g p):g<w.heap.size/\w.cell? ⟨g,0,none⟩=some (.int .i64 p.x)/\w.cell? ⟨g,1,none⟩=some (.int .i64 p.y)/\w.frozen? ⟨g,0,none⟩=false/\w.frozen? ⟨g,1,none⟩=false :=
 ⟨h.lt,h.cell 0,h.cell 1,h.frozen 0,h.frozen 1⟩
theorem Boxed.keep {w w':World} {g:Nat} {p:Pt} (h:Boxed w g p) (hb:Below w.heap.size w w'):Boxed w' g p:=AO.keep h hb
theorem Boxed.EH {w:World} {g:Nat} {p q:Pt} (h:Boxed w g p):Boxed ((w.setCell ⟨g,0,none⟩ (.int .i64 q.x)).setCell ⟨g,1,none⟩ (.int .i64 q.y)) g q:=by
 have:=(AO.EH h 0 (.int .i64 q.x)).EH 1 (.int .i64 q.y)
 unfold Boxed;simpa using this
theorem Boxed.far {w:World} {g:Nat} {p:Pt} (h:Boxed w g p) {q:Addr} (hq:g≠q.block) (u:Value):Boxed (w.setCell q u) g p:=AO.far h hq u
theorem Boxed.new (w:World) (p:Pt) {g:Nat} (h:g=w.heap.size):Boxed (w.alloc (.cells #[.int .i64 p.x,.int .i64 p.y] 42)) g p:=AO.made h _ _
theorem Boxed.alloc {w:World} {g:Nat} {p:Pt} (h:Boxed w g p) (o:Obj):Boxed (w.alloc o) g p:=AO.alloc h o
theorem Boxed.drew {w:World} {g:Nat} {p:Pt} (h:Boxed w g p):Boxed w.drew g p:=h
def BP (a b:Pt):Bool:=decide (a.x<b.x) || (decide (a.x=b.x) && decide (a.y<b.y))
theorem KP (a b:Pt) (W:World):(binOp .eql 42 (.agg #[.int .i64 a.x,.int .i64 a.y]) (.agg #[.int .i64 b.x,.int .i64 b.y])).run Tryz.prog W=.ok (.bool (decide (a=b))) W:=by
 by_cases h:a=b
 ·subst h;go_simp
 ·have h':¬ (a.x=b.x/\a.y=b.y):=fun e=>h (Pt.ext_iff'.2 e);by_cases hx:(a.x == b.x)=true
  ·have hy:(a.y == b.y)=false:=by
    have:a.x=b.x:=by simpa using hx
    simpa [this] using h'
   go_simp
  ·have hx':(a.x == b.x)=false:=by simpa using hx
   clear hx;go_simp
theorem lX (a b:Pt) (W:World):(binOp .neq 42 (.agg #[.int .i64 a.x,.int .i64 a.y]) (.agg #[.int .i64 b.x,.int .i64 b.y])).run Tryz.prog W=.ok (.bool (!decide (a=b))) W:=by
 by_cases h:a=b
 ·subst h;go_simp
 ·have h':¬ (a.x=b.x/\a.y=b.y):=fun e=>h (Pt.ext_iff'.2 e);by_cases hx:(a.x == b.x)=true
  ·have hy:(a.y == b.y)=false:=by
    have:a.x=b.x:=by simpa using hx
    simpa [this] using h'
   go_simp
  ·have hx':(a.x == b.x)=false:=by simpa using hx
   clear hx;go_simp
theorem Nd.ext_iff' {a b:Nd}:a=b↔a.id=b.id/\a.pt.x=b.pt.x/\a.pt.y=b.pt.y:=by
 rcases a with ⟨i,⟨x,y⟩⟩;rcases b with ⟨i',⟨x',y'⟩⟩;simp
theorem ao7 (a b:Nd) (W:World):(binOp .neq 47 (.agg #[.int .i64 a.id,.int .i64 a.pt.x,.int .i64 a.pt.y]) (.agg #[.int .i64 b.id,.int .i64 b.pt.x,.int .i64 b.pt.y])).run Tryz.prog W=.ok (.bool (!decide (a=b))) W:=by
 by_cases h:a=b
 ·subst h;go_simp
 ·have h':¬ (a.id=b.id/\a.pt.x=b.pt.x/\a.pt.y=b.pt.y):=fun e=>h (Nd.ext_iff'.2 e);by_cases hi:(a.id == b.id)=true
  ·have hi':a.id=b.id:=by simpa using hi
   by_cases hx:(a.pt.x == b.pt.x)=true
   ·have hx':a.pt.x=b.pt.x:=by simpa using hx
    have hy:(a.pt.y == b.pt.y)=false:=by simpa [hi',hx'] using h'
    clear hi' hx';go_simp
   ·have hx':(a.pt.x == b.pt.x)=false:=by simpa using hx
    clear hx hi';go_simp
  ·have hi':(a.id == b.id)=false:=by simpa using hi
   clear hi;go_simp
section
variable {P:Program} {ops:Array Oper} {Q:Exit->Act->World->Prop} {w0:World}
def Since (w0:World):World->Prop:=fun w=>Below w0.heap.size w0 w
end
section
variable {P:Program} {ops:Array Oper} {Q:Exit->Act->World->Prop} {w0 w1 w2:World} {row:Option Nat}
def SE (w0:World) (row:Option Nat):World->Prop:=fun w=>w0.grownBy w row
theorem gR (w:World) (row:Option Nat):w.grownBy w row:=World.grownBy.refl w row
theorem gT (h:w0.grownBy w1 row) (k:w1.grownBy w2 row):w0.grownBy w2 row :=
 ⟨k.os.trans h.os,k.tape.trans h.tape,k.output.trans h.output,Nat.le_trans h.size k.size,fun i hi hr=>(k.block i (Nat.lt_of_lt_of_le hi h.size) hr).trans (h.block i hi hr)⟩
theorem gB (h:w0.grownBy w1 row) (k:Below w1.heap.size w1 w2):w0.grownBy w2 row :=
 gT h ⟨k.os,k.tape,k.output,k.size,fun i hi _=>k.block i hi⟩
theorem gA (h:w0.grownBy w1 row) (o:Obj):w0.grownBy (w1.alloc o) row:=gB h (bA (bR w1) o)
theorem gD (h:w0.grownBy w1 row):w0.grownBy w1.drew row:=gB h (bD (bR w1))
theorem gOf (h:Below w0.heap.size w0 w1):w0.grownBy w1 row:=gB (gR w0 row) h
theorem adB {wq:World} (hq:w0.grownBy wq row):(∀ b o,b<w0.heap.size->some b≠row->wq.cell? ⟨b,o,none⟩=w0.cell? ⟨b,o,none⟩)/\(∀ b o,b<w0.heap.size->some b≠row->wq.frozen? ⟨b,o,none⟩=w0.frozen? ⟨b,o,none⟩):=by
 refine ⟨fun b o h hr=>?_,fun b o h hr=>?_⟩
 ·have:=hq.block b h hr
  simp only [World.cell?,this]
 ·have:=hq.block b h hr
  simp only [World.frozen?,this]
theorem ao8 {W:World} {B:Nat} (h:Below B W w0) (hB:B<=w0.heap.size) (g:w0.grownBy w1 row) (hr:∀ k,row=some k->B<=k):Below B W w1:=h.grown g hB hr
theorem AO.grow {g:Nat} {t:TypeId} {cs:Array Value} (h:AO w0 g t cs) (hb:w0.grownBy w1 row) (hg:some g≠row):AO w1 g t cs:=(hb.block g h.lt hg).trans h
end
inductive IG where
 | done
 | take (i m:Nat) (r:IG)
 | call (i m:Nat) (r:IG)
 | two (i m:Nat) (r:IG) (j m':Nat) (s:IG)
def IG.run:Nat->Nat->Nat->IG->IG
 | 0,_,_,r=>r
 | n+1,i,m,r=>.take i (m ||| (1 <<< i)) (IG.run n (i+1) (m ||| (1 <<< i)) r)
def IG.depth:IG->Nat
 | .done=>0
 | .take _ _ r=>r.depth+1
 | .call _ _ r=>r.depth+1
 | .two _ _ r _ _ s=>Nat.max r.depth s.depth+1
def Xb (ops:Array Oper):IG->Array Bool->Prop
 | .done,l=>Region.ready .any ops l=[]
 | .take i _ r,l=>Region.free .any ops l i=true/\(Region.ready .any ops l).contains i=true/\Xb ops r (l.setIfInBounds i true)
 | .call i _ r,l=>Region.ready .any ops l=[i]/\Xb ops r (l.setIfInBounds i true)
 | .two i _ r j _ s,l=>Region.ready .any ops l=[i,j]/\Xb ops r (l.setIfInBounds i true)/\Xb ops s (l.setIfInBounds j true)
def zG (m i:Nat):Bool:=m.testBit i
def su (ops:Array Oper) (m i:Nat):Bool:=!zG m i && match ops[i]? with
 | some o=>o.after.all fun e=>!Region.binds .any e || zG m e.on
 | none=>false
def lY (ops:Array Oper) (m:Nat):List Nat:=(List.range ops.size).filter (su ops m)
def adC (ops:Array Oper) (m i:Nat):Bool:=match ops[i]? with
 | none=>false
 | some oi=>(List.range ops.size).all fun j=>Nat.beq j i || zG m j || match ops[j]? with
   | some oj=>oj.after.any (fun e=>Region.binds .any e && Nat.beq e.on i) || oi.apart ops oj
   | none=>true
def SL (ops:Array Oper):IG->Nat->Bool
 | .done,m=>(lY ops m).isEmpty
 | .take i m' r,m=>Nat.beq m' (m ||| (1 <<< i)) && (adC ops m i && (su ops m i && SL ops r m'))
 | .call i m' r,m=>Nat.beq m' (m ||| (1 <<< i)) && (decide (lY ops m=[i]) && SL ops r m')
 | .two i m' r j m'' s,m=>Nat.beq m' (m ||| (1 <<< i)) && (Nat.beq m'' (m ||| (1 <<< j)) && (decide (lY ops m=[i,j]) && (SL ops r m' && SL ops s m'')))
def Pq (n m:Nat):Array Bool:=Array.ofFn (n:=n) fun i=>m.testBit i
theorem zH (n m i:Nat) (h:i<n) (d:Bool):(Pq n m).getD i d=m.testBit i:=by simp [Pq,h]
theorem ao9 (n m i:Nat) (h:¬ i<n):(Pq n m).getD i false=false:=by simp [Pq,h]
theorem zI (n m i:Nat) (hi:i<n):(Pq n m).setIfInBounds i true=Pq n (m ||| (1 <<< i)):=by
 apply Array.ext
 · simp [Pq]
 ·intro j h1 h2;have hj:j<n:=by simpa [Pq] using h2
  simp only [Pq,Array.getElem_setIfInBounds,Array.getElem_ofFn,Nat.testBit_or,Nat.one_shiftLeft,Nat.testBit_two_pow];by_cases e:i=j
  · subst e;simp
  ·have h3:j<(Array.ofFn (n:=n) fun i=>m.testBit i).size:=by simpa using hj
   have h4:((Array.ofFn (n:=n) fun i=>m.testBit i).setIfInBounds i true)[j]'(by simpa using hj)=(Array.ofFn (n:=n) fun i=>m.testBit i)[j]:=Array.getElem_setIfInBounds_ne h3 e;rw [h4,Array.getElem_ofFn];simp [e]
theorem aoA (n:Nat):Pq n 0=Array.replicate n false:=by
 apply Array.ext
 · simp [Pq]
 · intro j h1 h2;simp [Pq]
theorem zJ (ops:Array Oper) (m:Nat) (hm:m<2 ^ ops.size):Region.ready .any ops (Pq ops.size m)=lY ops m:=by
 unfold Region.ready lY;apply List.filter_congr;intro i hi;have hi:=List.mem_range.1 hi;rw [zH _ _ _ hi];unfold su zG
 cases h:ops[i]? with
 | none=>simp
 | some o =>
  simp only [Option.map_some,Option.getD_some];congr 1;have:∀ e:Edge,(!Region.binds .any e || (Pq ops.size m).getD e.on false)=(!Region.binds .any e || m.testBit e.on):=fun e=>by
   by_cases he:e.on<ops.size
   · rw [zH _ _ _ he]
   · rw [ao9 _ _ _ he,Nat.testBit_lt_two_pow (Nat.lt_of_lt_of_le hm (Nat.pow_le_pow_right (by omega) (by omega)))]
  simp only [this]
theorem ahF (a b:Nat):Nat.beq a b=(a == b):=by rw [Bool.eq_iff_iff];simp [Nat.beq_eq]
theorem aoB (ops:Array Oper) (m i:Nat):Region.free .any ops (Pq ops.size m) i=adC ops m i:=by
 unfold Region.free adC
 cases ops[i]? with
 | none=>rfl
 | some oi =>
  simp only [];rw [Bool.eq_iff_iff,List.all_eq_true,List.all_eq_true];constructor
  ·intro h j hj;have:=h j hj
   rw [zH _ _ _ (List.mem_range.1 hj)] at this;simp only [ahF];exact this
  ·intro h j hj;rw [zH _ _ _ (List.mem_range.1 hj)];have:=h j hj
   simp only [ahF] at this;exact this
theorem zK {n m i:Nat} (hm:m<2 ^ n) (hi:i<n):m ||| (1 <<< i)<2 ^ n:=by
 apply Nat.or_lt_two_pow hm;rw [Nat.shiftLeft_eq,Nat.one_mul];exact Nat.pow_lt_pow_right (by omega) hi
theorem aoC {ops:Array Oper} {m i:Nat} (h:su ops m i=true):i<ops.size:=by
 unfold su at h
 cases ho:ops[i]? with
 | none=>simp [ho] at h
 | some o=>exact (Array.getElem?_eq_some_iff.1 ho).1
theorem adD {ops:Array Oper} {m i:Nat} (h:i∈lY ops m):i<ops.size:=List.mem_range.1 (List.mem_filter.1 h).1
theorem tC (ops:Array Oper):∀ (p:IG) (m:Nat),m<2 ^ ops.size->SL ops p m=true->Xb ops p (Pq ops.size m)
 | .done,m,hm,h=>by
  simp only [SL,List.isEmpty_iff] at h
  show Region.ready .any ops _=[]
  rw [zJ _ _ hm,h]
 | .take i m' r,m,hm,h=>by
  simp only [SL,Bool.and_eq_true,Nat.beq_eq] at h;obtain ⟨h1,h2,h3,h4⟩:=h;have hi:=aoC h3;refine ⟨by rw [aoB];exact h2,?_,?_⟩
  ·rw [zJ _ _ hm,List.contains_iff_mem];exact List.mem_filter.2 ⟨List.mem_range.2 hi,h3⟩
  ·rw [zI _ _ _ hi,<- h1];exact tC ops r m' (by rw [h1];exact zK hm hi) h4
 | .call i m' r,m,hm,h=>by
  simp only [SL,Bool.and_eq_true,Nat.beq_eq,decide_eq_true_eq] at h;obtain ⟨h1,h2,h3⟩:=h;have hi:i<ops.size:=adD (m:=m) (by rw [h2];simp);refine ⟨by rw [zJ _ _ hm,h2],?_⟩;rw [zI _ _ _ hi,<- h1];exact tC ops r m' (by rw [h1];exact zK hm hi) h3
 | .two i m' r j m'' s,m,hm,h=>by
  simp only [SL,Bool.and_eq_true,Nat.beq_eq,decide_eq_true_eq] at h;obtain ⟨h1,h2,h3,h4,h5⟩:=h;have hi:i<ops.size:=adD (m:=m) (by rw [h3];simp);have hj:j<ops.size:=adD (m:=m) (by rw [h3];simp);refine ⟨by rw [zJ _ _ hm,h3],?_,?_⟩
  ·rw [zI _ _ _ hi,<- h1];exact tC ops r m' (by rw [h1];exact zK hm hi) h4
  ·rw [zI _ _ _ hj,<- h2];exact tC ops s m'' (by rw [h2];exact zK hm hj) h5
section
variable {P:Program} {ops:Array Oper} {Q:Exit->Act->World->Prop} {S:World->Prop}
def Gf (P:Program) (ops:Array Oper) (Q:Exit->Act->World->Prop) (S:World->Prop) (p:IG) (a:Act) (w:World):Prop :=
 ∀ (l:Array Bool) (f:Nat),Region.noSelect ops=true->Xb ops p l->p.depth<=f->wpAnyH P .any ops Q S f l a w
theorem zL {id:Nat} {a:Act} {w:World} (S:World->Prop) (p:IG) (hm:P.follows .mixedOrders=true) (hS:S w.drew)
  (hsel:Region.noSelect ops=true) (hp:SL ops p 0=true) (hd:p.depth<=ops.size)
  (h:∀ ops' Q',PLift (ops'=ops)->PLift (∀ a w,Q .normal a w->Q' .normal a w)->S w.drew->Gf P ops' (NoPanic Q') S p a w.drew):(Code.region id ops true).wp P Q a w :=
 wp_region_noPanic (wp_region_held_drew hm hS fun hS=>h ops Q ⟨rfl⟩ ⟨fun _ _ h=>h⟩ hS _ _ hsel (by have:=tC ops p 0 (Nat.pow_pos (by omega)) hp;rwa [aoA] at this) hd)
theorem ET {ops':Array Oper} {l:List Oper} (h:PLift (ops'=l.toArray)) {i:Nat} {o:Oper} (hi:l[i]? = some o):ops'[i]? = some o:=by rw [h.down];simpa using hi
theorem adE {i m:Nat} {oi:Oper} {r:IG} {a:Act} {w:World} (hi:ops[i]? = some oi) (hS:S w)
  (h:∃ v:Value,YieldsIf P ops S oi v a/\Gf P ops (NoPanic Q) S r (a.put oi.dst v) w):Gf P ops (NoPanic Q) S (.take i m r) a w:=by
 obtain ⟨v,hy,h⟩:=h;intro l f hsel hp hd;simp only [Xb] at hp
 cases f with
 | zero=>simp [IG.depth] at hd
 | succ f=>exact wpAnyH_take hi hsel hp.1 hp.2.1 (fun _ _ _ h=>h) hy hS (h _ _ hsel hp.2.2 (by simpa [IG.depth] using hd))
theorem Um {i m:Nat} {oi:Oper} {r:IG} {a:Act} {w:World} (hi:ops[i]? = some oi)
  (h:∀ K':Act->World->Prop,Shut (∀ a w,S w->(S w->Gf P ops (NoPanic Q) S r a w)->K' a w)->if Region.wanted oi (yielded ops a.tmps)=true then Oper.wp P oi a w K' (NoPanic Q) else K' (a.put oi.dst undef) w) :
  Gf P ops (NoPanic Q) S (.call i m r) a w:=by
 intro l f hsel hp hd;simp only [Xb] at hp
 cases f with
 | zero=>simp [IG.depth] at hd
 | succ f=>exact wpAnyH_ready hp.1 (by simp) (AllReadyH.cons hi (fun K' hK=>h K' (fun a w hS hW=>hK.out a w hS fun hS=>hW hS _ _ hsel hp.2 (by simpa [IG.depth] using hd))) AllReadyH.nil)
theorem MQ {i j m m':Nat} {oi oj:Oper} {r s:IG} {a:Act} {w:World} (hi:ops[i]? = some oi) (hj:ops[j]? = some oj)
  (h:∀ K':Act->World->Prop,Shut (∀ a w,S w->(S w->Gf P ops (NoPanic Q) S r a w)->K' a w)->if Region.wanted oi (yielded ops a.tmps)=true then Oper.wp P oi a w K' (NoPanic Q) else K' (a.put oi.dst undef) w)
  (h':∀ K':Act->World->Prop,Shut (∀ a w,S w->(S w->Gf P ops (NoPanic Q) S s a w)->K' a w)->if Region.wanted oj (yielded ops a.tmps)=true then Oper.wp P oj a w K' (NoPanic Q) else K' (a.put oj.dst undef) w) :
  Gf P ops (NoPanic Q) S (.two i m r j m' s) a w:=by
 intro l f hsel hp hd;simp only [Xb] at hp
 cases f with
 | zero=>simp [IG.depth] at hd
 | succ f =>
  simp only [IG.depth,Nat.add_le_add_iff_right,Nat.max_le] at hd;exact wpAnyH_ready hp.1 (by simp) (AllReadyH.cons hi (fun K' hK=>h K' (fun a w hS hW=>hK.out a w hS fun hS=>hW hS _ _ hsel hp.2.1 hd.1))
   (AllReadyH.cons hj (fun K' hK=>h' K' (fun a w hS hW=>hK.out a w hS fun hS=>hW hS _ _ hsel hp.2.2 hd.2)) AllReadyH.nil))
theorem lZ {a:Act} {w:World} (h:Q .normal a w):Gf P ops (NoPanic Q) S .done a w:=by
 intro l f _ hp _;exact wpAnyH_done hp (NoPanic.normal h) f
theorem Eh {o:Oper} {f:Nat->Option Bool} (h:o.guard=none):Region.wanted o f=true:=by unfold Region.wanted;rw [h]
theorem adF {o og:Oper} {tmps:Array Value} {g d:Nat} {b:Bool} (h:o.guard=some (g,b)) (hg:ops[g]? = some og) (hd:og.dst=some d) (hv:tmps[d]? = some (.bool b)):Region.wanted o (yielded ops tmps)=true:=by
 unfold Region.wanted yielded;rw [h];simp only [hg,Option.bind_some,hd,hv];simp
theorem az3 {o og:Oper} {tmps:Array Value} {g d:Nat} {b:Bool} (h:o.guard=some (g,b)) (hg:ops[g]? = some og) (hd:og.dst=some d) {v:Value} (hv:tmps[d]? = some v) (hb:(match v with | .bool x=>x != b | _=>true)=true):Region.wanted o (yielded ops tmps)=false:=by
 unfold Region.wanted yielded;rw [h];simp only [hg,Option.bind_some,hd,hv]
 cases v<;>simp_all
def zM (v:Value) (b:Bool):Bool:=match v with | .bool x=>x != b | _=>true
theorem anw {o og:Oper} {tmps:Array Value} {g d:Nat} {b:Bool} {v:Value} (h:o.guard=some (g,b)) (hg:ops[g]? = some og) (hd:og.dst=some d) (hv:tmps[d]? = some v) (hb:zM v b=true):Region.wanted o (yielded ops tmps)=false:=by
 unfold Region.wanted yielded;rw [h];simp only [hg,Option.bind_some,hd,hv]
 cases v<;>simp_all [zM]
theorem eu {l:List Oper} {i m:Nat} {oi:Oper} {r:IG} {a:Act} {w:World} {v:Value} (H:PLift (ops=l.toArray)) (hi:l[i]? = some oi) (hS:S w) (hg:oi.guard=none)
  (hy:∀ wq,S wq->(execOp a.eval oi).run P wq=.ok (.value v) wq) (h:Gf P ops (NoPanic Q) S r (a.put oi.dst v) w):Gf P ops (NoPanic Q) S (.take i m r) a w :=
 adE (ET H hi) hS ⟨v,.inl ⟨Eh hg,hy⟩,h⟩
theorem aho {l:List Oper} {i m g d:Nat} {b:Bool} {oi og:Oper} {r:IG} {a:Act} {w:World} {v:Value} (H:PLift (ops=l.toArray)) (hi:l[i]? = some oi) (hS:S w) (hg:oi.guard=some (g,b)) (ho:l[g]? = some og) (hd:og.dst=some d) (hv:a.tmps[d]? = some (.bool b))
  (hy:∀ wq,S wq->(execOp a.eval oi).run P wq=.ok (.value v) wq) (h:Gf P ops (NoPanic Q) S r (a.put oi.dst v) w):Gf P ops (NoPanic Q) S (.take i m r) a w :=
 adE (ET H hi) hS ⟨v,.inl ⟨adF hg (ET H ho) hd hv,hy⟩,h⟩
theorem anx {l:List Oper} {i m g d:Nat} {b:Bool} {oi og:Oper} {r:IG} {a:Act} {w:World} {v:Value} (H:PLift (ops=l.toArray)) (hi:l[i]? = some oi) (hS:S w) (hg:oi.guard=some (g,b)) (ho:l[g]? = some og) (hd:og.dst=some d) (hv:a.tmps[d]? = some v) (hb:zM v b=true)
  (h:Gf P ops (NoPanic Q) S r (a.put oi.dst undef) w):Gf P ops (NoPanic Q) S (.take i m r) a w :=
 adE (ET H hi) hS ⟨undef,.inr ⟨anw hg (ET H ho) hd hv hb,rfl⟩,h⟩
theorem pu1 {α:Type} (l:List α) (i:Nat) (x:α):l.toArray.setIfInBounds i x=(l.set i x).toArray:=by simp
theorem pu2 {α:Type} (l:List α) (y x:α):(y::l).set 0 x=x::l:=rfl
theorem pu3 {α:Type} (l:List α) (y x:α) (n:Nat):(y::l).set (n+1) x=y::l.set n x:=rfl
theorem pu:(∀ (a:Act) (t:Tmp) (v:Value),a.put (some t) v = {a with tmps:=a.tmps.setIfInBounds t v})/\(∀ (a:Act) (v:Value),a.put none v=a)/\(∀ (l:List Value) (i:Nat) (x:Value),l.toArray.setIfInBounds i x=(l.set i x).toArray)/\(∀ (l:List Value) (y x:Value),(y::l).set 0 x=x::l)/\(∀ (l:List Value) (y x:Value) (n:Nat),(y::l).set (n+1) x=y::l.set n x) :=
 ⟨fun _ _ _=>rfl,fun _ _=>rfl,pu1,pu2,pu3⟩
theorem ayt {l:List Oper} {i m:Nat} {oi:Oper} {r:IG} {a:Act} {w W:World} {v:Value} (H:PLift (ops=l.toArray)) (hi:l[i]? = some oi) (hS:Since W w) (hg:oi.guard=none)
  (hy:∀ wq:World,(∀ b o,b<W.heap.size->wq.cell? ⟨b,o,none⟩=W.cell? ⟨b,o,none⟩)->(execOp a.eval oi).run P wq=.ok (.value v) wq) (h:Gf P ops (NoPanic Q) (Since W) r (a.put oi.dst v) w):Gf P ops (NoPanic Q) (Since W) (.take i m r) a w :=
 eu H hi hS hg (fun wq hq=>hy wq (Uu hq).1) h
theorem ayu {l:List Oper} {i m g d:Nat} {b:Bool} {oi og:Oper} {r:IG} {a:Act} {w W:World} {v:Value} (H:PLift (ops=l.toArray)) (hi:l[i]? = some oi) (hS:Since W w) (hg:oi.guard=some (g,b)) (ho:l[g]? = some og) (hd:og.dst=some d) (hv:a.tmps[d]? = some (.bool b))
  (hy:∀ wq:World,(∀ b o,b<W.heap.size->wq.cell? ⟨b,o,none⟩=W.cell? ⟨b,o,none⟩)->(execOp a.eval oi).run P wq=.ok (.value v) wq) (h:Gf P ops (NoPanic Q) (Since W) r (a.put oi.dst v) w):Gf P ops (NoPanic Q) (Since W) (.take i m r) a w :=
 aho H hi hS hg ho hd hv (fun wq hq=>hy wq (Uu hq).1) h
theorem ayv {l:List Oper} {i m:Nat} {oi:Oper} {r:IG} {a:Act} {w W:World} {row:Option Nat} {v:Value} (H:PLift (ops=l.toArray)) (hi:l[i]? = some oi) (hS:SE W row w) (hg:oi.guard=none)
  (hy:∀ wq:World,(∀ b o,b<W.heap.size->some b≠row->wq.cell? ⟨b,o,none⟩=W.cell? ⟨b,o,none⟩)->(execOp a.eval oi).run P wq=.ok (.value v) wq) (h:Gf P ops (NoPanic Q) (SE W row) r (a.put oi.dst v) w):Gf P ops (NoPanic Q) (SE W row) (.take i m r) a w :=
 eu H hi hS hg (fun wq hq=>hy wq (adB hq).1) h
theorem En {C:Prop} [Decidable C] {A B:Prop} (hc:C) (h:A):if C then A else B:=by rw [if_pos hc];exact h
end
def E8 (B:Nat) (w0:World):World->Prop:=fun w=>Below B w0 w
theorem aaD {B:Nat} {W w1:World} (hb:Below B W w1):(∀ b o,b<B->w1.cell? ⟨b,o,none⟩=W.cell? ⟨b,o,none⟩)/\(∀ b o,b<B->w1.frozen? ⟨b,o,none⟩=W.frozen? ⟨b,o,none⟩) :=
 ⟨fun b o h=>hb.cell (p:=⟨b,o,none⟩) h,fun b o h=>hb.frozen (p:=⟨b,o,none⟩) h⟩
def MR (w w':World):Prop:=Below w.heap.size w w'/\w.drawn<=w'.drawn
theorem dR (w:World):w.drawn<=w.drawn:=Nat.le_refl _
section
variable {n:Nat} {w w':World}
theorem dA (h:n<=w.drawn) (o:Obj):n<=(w.alloc o).drawn:=h
theorem dD (h:n<=w.drawn):n<=w.drew.drawn:=Nat.le_succ_of_le h
theorem dT (h:n<=w.drawn) (k:w.drawn<=w'.drawn):n<=w'.drawn:=Nat.le_trans h k
end
theorem anz {P:Program} {fn:Func} {p q:Tmp} {ty ty':TypeId} {R:Ending->World->Prop} {a:Act} {w:World} {g g':Nat} {cs cs':Array Value} (h:fn.results=#[.cell p ty,.cell q ty'])
  (hS:StructOf P ty cs.size) (hS':StructOf P ty' cs'.size) (hp:a.tmps.getD p undef=.pointer (some ⟨g,0,none⟩)) (hq:a.tmps.getD q undef=.pointer (some ⟨g',0,none⟩)) (hd:a.defers=[]) (hb:AO w g ty cs) (hb':AO w g' ty' cs') (hR:R (.returned (.tuple #[.agg cs,.agg cs'])) w):bodyPost P fn R .ret a w:=by
 obtain ⟨fs,h1,h3⟩:=hS;obtain ⟨fs',h1',h3'⟩:=hS';refine bodyPost_ret ?_ hd hR;have e1:=run_loadVar_row (P:=P) w g ty ty cs (0,0) (.struct fs) hb h1 rfl h3;have e2:=run_loadVar_row (P:=P) w g' ty' ty' cs' (0,0) (.struct fs') hb' h1' rfl h3';have hp':a.tmps[p]?.getD undef=.pointer (some ⟨g,0,none⟩):=by simpa using hp
 have hq':a.tmps[q]?.getD undef=.pointer (some ⟨g',0,none⟩):=by simpa using hq
 simp only [results,h];simp [hp',hq',asAddr,Sem.run_bind,Sem.run_pure,Result.andThen,e1,e2]
section
variable {P:Program} {ops:Array Oper} {Q:Exit->Act->World->Prop}
theorem ayw {l:List Oper} {i m:Nat} {oi:Oper} {r:IG} {a:Act} {w W:World} {B:Nat} {v:Value} (H:PLift (ops=l.toArray)) (hi:l[i]? = some oi) (hS:E8 B W w) (hg:oi.guard=none)
  (hy:∀ wq:World,(∀ b o,b<B->wq.cell? ⟨b,o,none⟩=W.cell? ⟨b,o,none⟩)->(execOp a.eval oi).run P wq=.ok (.value v) wq) (h:Gf P ops (NoPanic Q) (E8 B W) r (a.put oi.dst v) w):Gf P ops (NoPanic Q) (E8 B W) (.take i m r) a w :=
 eu H hi hS hg (fun wq hq=>hy wq (aaD hq).1) h
end
def fA (p:Pt):DataW Unit:=.agg [.lit (.int .i64 p.x),.lit (.int .i64 p.y)]
def aaE:Value->Option (DataW Unit×List MemPlace)
 | .agg cs=>match cs.toList with
  | [.int .i64 x,.int .i64 y]=>some (fA ⟨x,y⟩,[])
  | _=>none
 | _=>none
theorem ahp (p:Pt):aaE (BA p)=some (fA p,[]):=rfl
theorem ao0 {v:Value} {p:Pt} {ps:List MemPlace} (h:aaE v=some (fA p,ps)):v=BA p:=by
 unfold aaE at h;split at h
 ·rename_i cs;split at h
  ·rename_i x y hc;simp only [Option.some.injEq,Prod.mk.injEq,fA,DataW.agg.injEq,List.cons.injEq,DataW.lit.injEq,Lit.int.injEq,and_true,true_and] at h;obtain ⟨⟨rfl,rfl⟩,-⟩:=h
   have:cs=#[.int .i64 p.x,.int .i64 p.y]:=by rw [<- Array.toList_inj];exact hc
   rw [this];rfl
  · cases h
 · cases h
def z0:Pt:=⟨0,0⟩
def F6 (id:Int):Prop:=(Lit.int .i64 id).wf=true
theorem KC {id:Int} (h1:-9223372036854775808<=id) (h2:id<=9223372036854775807):F6 id:=WalkArith.wf_i64 ⟨h1,h2⟩
def JJ (w:World) (b n:Nat) (f:Int->Pt):Prop :=
 ∃ D:DataW Unit,w.ownsMap Tryz.prog 3 aaE b n D/\Maps.IsMap D/\∀ id,D.atKey (.int .i64 id) (fA z0)=fA (f id)
theorem JJ.kept {w w':World} {b n:Nat} {f:Int->Pt} (h:JJ w b n f) {row:Option Nat} (hg:w.grownBy w' row) (hr:some b≠row):JJ w' b n f:=by
 obtain ⟨D,h1,h2⟩:=h;exact ⟨D,h1.kept hg hr,h2⟩
theorem JJ.keep {w w':World} {b n:Nat} {f:Int->Pt} (h:JJ w b n f) (hb:Below w.heap.size w w'):JJ w' b n f :=
 h.kept (row:=none) ⟨hb.os,hb.tape,hb.output,hb.size,fun i hi _=>hb.block i hi⟩ (by simp)
theorem JJ.lt {w:World} {b n:Nat} {f:Int->Pt} (h:JJ w b n f):b<w.heap.size:=by
 obtain ⟨D,h1,h2⟩:=h;exact h1.lt
theorem JJ.made (w:World):JJ (w.alloc (.map #[] 0)) w.heap.size 0 (fun _=>z0) :=
 ⟨.map [],World.ownsMap_made _ _ _ _,⟨_,rfl⟩,fun _=>rfl⟩
theorem Ux:Maps.Keyed Tryz.prog 3:=Maps.int_keyed Tryz.underlying3
theorem ao1 (w:World):(zeroValue 42).run Tryz.prog w=.ok (BA z0) w:=by kernel_rfl
theorem JJ.look {w:World} {b n:Nat} {f:Int->Pt} (h:JJ w b n f) (id:Int) (hid:F6 id) :
  (Instr.lookup 128 (.map (some b)) (.int .i64 id) false).run Tryz.prog w=.ok (BA (f id)) w:=by
 obtain ⟨D,h1,-,h2⟩:=h;obtain ⟨v,ps,hr,hv⟩:=h1.lookup Ux Tryz.underlying128 (ao1 w) (ahp z0) (Maps.keyOf_int_mk Tryz.underlying3 hid);rw [h2] at hv;rw [hr,ao0 hv]
theorem JJ.upd {w:World} {b n:Nat} {f:Int->Pt} (h:JJ w b n f) (hn:n<4294967296) (id:Int) (hid:F6 id) (p:Pt) :
  ∃ w',(Instr.mapUpdate 128 (.map (some b)) (.int .i64 id) (BA p)).run Tryz.prog w=.ok () w'/\JJ w' b (n+1) (fun i=>if i=id then p else f i)/\w.grownBy w' (some b):=by
 obtain ⟨D,h1,hm,h2⟩:=h;obtain ⟨w',hr,ho,hg⟩:=h1.update Ux Tryz.underlying128 (by unfold maxLen;omega) (Maps.keyOf_int_mk Tryz.underlying3 hid) (ahp p);refine ⟨w',hr,⟨_,ho,?_,fun i=>?_⟩,hg⟩
 · obtain ⟨es,rfl⟩:=hm;exact ⟨_,rfl⟩
 ·show _=fA (if i=id then p else f i)
  by_cases e:i=id
  ·subst e;rw [if_pos rfl];exact Maps.atKey_put_same hm (by trivial) _ _
  · rw [if_neg e,Maps.atKey_put_other (fun h=>e (by injection h)),h2]
def QW (A:Option Addr) (c k size:Nat):Option Addr:=if c=k then A else A.map (·.add (k*size))
theorem Row.cut {w:World} {A:Option Addr} {xs:List Value} (h:Row w A xs) {k size c:Nat} (hx:xs.length<=c*size):Row w (QW A c k size) (xs.drop (k*size)):=by
 intro hne;unfold QW;have hlt:k*size<xs.length:=by
  rcases Nat.lt_or_ge (k*size) xs.length with h' | h'
  · exact h'
  · exact absurd (List.drop_of_length_le h') hne
 have hck:¬ c=k:=fun e=>by subst e;omega
 rw [if_neg hck];obtain ⟨b,o,rfl,hb,hc⟩:=h (by rintro rfl;simp at hlt);refine ⟨b,o+k*size,?_,hb,fun j v hj=>?_⟩
 ·simp only [Option.map_some,Addr.add];split
  · rename_i h0;simp [h0]
  · rfl
 ·rw [List.getElem?_drop] at hj;have:=hc _ v hj
  rwa [<- Nat.add_assoc] at this
theorem adG {P:Program} {t e:TypeId} {size:Nat} (ht:P.underlying t=some (.slice e)) (hsz:∀ w,(sizeOf e).run P w=.ok size w) (A:Option Addr) (n c k:Nat) (hk:k<=n) (i:Int) (hi:i=k) (w:World) :
  (Instr.slice t (.slice A n c) (some (.int .i64 i)) none none).run P w=.ok (.slice (QW A c k size) (n-k) (c-k)) w:=by
 subst hi;have he:P.elem t=e:=by simp [Program.elem,ht]
 have ht':P.underlying t=some (.slice (P.elem t)):=by rw [he];exact ht
 rw [run_slice_l w t A n c ht' .i64 (k:Int) (by omega) (by omega),he,hsz];simp [Result.andThen,sliced,QW]
theorem ahq {α:Type} (f:α->List Value) (n:Nat) (hn:∀ a,(f a).length=n) (l:List α) (k:Nat):(l.flatMap f).drop (k*n)=(l.drop k).flatMap f:=by
 induction k generalizing l with
 | zero=>simp
 | succ k ih =>
  cases l with
  | nil=>simp
  | cons a l =>
   rw [List.flatMap_cons,List.drop_succ_cons,<- ih,Nat.succ_mul,Nat.add_comm,<- List.drop_drop,List.drop_left' (hn a)]
theorem Row.take {α:Type} {w:World} {A:Option Addr} {f:α->List Value} {l:List α} (h:Row w A (l.flatMap f)) (i:Nat):Row w A ((l.take i).flatMap f):=by
 have e:l.flatMap f=(l.take i).flatMap f++(l.drop i).flatMap f:=by rw [<- List.flatMap_append,List.take_append_drop]
 rw [e] at h;intro hne;obtain ⟨b,o,hA,hb,hc⟩:=h (fun h0=>hne (List.append_eq_nil_iff.1 h0).1);refine ⟨b,o,hA,hb,fun j v hj=>hc j v ?_⟩;rw [List.getElem?_append_left]
 · exact hj
 ·rcases Nat.lt_or_ge j ((l.take i).flatMap f).length with h' | h'
  · exact h'
  · rw [List.getElem?_eq_none h'] at hj;cases hj
theorem ahr {P:Program} {t e:TypeId} {size:Nat} (ht:P.underlying t=some (.slice e)) (hsz:∀ w,(sizeOf e).run P w=.ok size w) (A:Option Addr) (n c k:Nat) (hk:k<=n) (hc:n<=c) (w:World) :
  (Instr.slice t (.slice A n c) none (some (.int .i64 (k:Int))) none).run P w=.ok (.slice A k c) w:=by
 have he:P.elem t=e:=by simp [Program.elem,ht]
 have ht':P.underlying t=some (.slice (P.elem t)):=by rw [he];exact ht
 rw [run_slice_h w t A n c ht' .i64 (k:Int) (by omega) (by omega),he,hsz]
 have:A.map (fun x=>x.add 0)=A:=by cases A<;>simp [Addr.add]
 simp [Result.andThen,sliced,this]
theorem Sl.adH {α:Type} {w:World} {A:Option Addr} {c:Nat} {f:α->List Value} {l:List α} (h:Sl w (.slice A l.length c) l.length (l.flatMap f)) (i:Nat) (hi:i<=l.length):Sl w (.slice A i c) (l.take i).length ((l.take i).flatMap f):=by
 obtain ⟨A',c',he,h1,h2,hR⟩:=h;injection he with e1 e2 e3;subst e1 e3;have hl:(l.take i).length=i:=by rw [List.length_take];omega
 rw [hl];exact ⟨_,_,rfl,by omega,h2,hR.take i⟩
theorem aaF {P:Program} {t e:TypeId} {size:Nat} (ht:P.underlying t=some (.slice e)) (hsz:∀ w,(sizeOf e).run P w=.ok size w) (A:Option Addr) (n c k m:Nat) (hk:k<=m) (hm:m<=n) (hc:n<=c) (i j:Int) (hi:i=k) (hj:j=m) (w:World) :
  (Instr.slice t (.slice A n c) (some (.int .i64 i)) (some (.int .i64 j)) none).run P w=.ok (.slice (QW A c k size) (m-k) (c-k)) w:=by
 subst hi hj;have he:P.elem t=e:=by simp [Program.elem,ht]
 have ht':P.underlying t=some (.slice (P.elem t)):=by rw [he];exact ht
 rw [run_slice_lh w t A n c ht' .i64 .i64 (k:Int) (m:Int) (by omega) (by omega) (by omega),he,hsz];simp [Result.andThen,sliced,QW]
theorem Sl.from_ {α:Type} {w:World} {A:Option Addr} {c size:Nat} {f:α->List Value} (hf:∀ a,(f a).length=size) {l:List α} (h:Sl w (.slice A l.length c) l.length (l.flatMap f)) (i:Nat) (hi:i<=l.length):Sl w (.slice (QW A c i size) (l.length-i) (c-i)) (l.drop i).length ((l.drop i).flatMap f):=by
 obtain ⟨A',c',he,h1,h2,hR⟩:=h;injection he with e1 e2 e3;subst e1 e3;rw [List.length_drop];refine ⟨_,_,rfl,by omega,by omega,?_⟩;rw [<- ahq f size hf];exact hR.cut (by rw [flat_length f size hf];exact Nat.mul_le_mul_right _ h1)
theorem Sl.aaG {α:Type} {w:World} {A:Option Addr} {c size:Nat} {f:α->List Value} (hf:∀ a,(f a).length=size) {l:List α} (h:Sl w (.slice A l.length c) l.length (l.flatMap f)) (i j:Nat) (hij:i<=j) (hj:j<=l.length):Sl w (.slice (QW A c i size) (j-i) (c-i)) ((l.drop i).take (j-i)).length (((l.drop i).take (j-i)).flatMap f):=by
 have h1:=Sl.from_ hf h i (by omega);rw [show l.length-i=(l.drop i).length by rw [List.length_drop]] at h1;exact Sl.adH h1 (j-i) (by rw [List.length_drop];omega)
