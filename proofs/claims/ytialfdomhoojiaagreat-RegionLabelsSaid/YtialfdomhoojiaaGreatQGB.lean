import Derived.WalkKit
import Derived.WalkSpells
import Derived.WalkLawsBesides
import Derived.Lib.Hide
import Derived.Deep.QuietTactic
import Derived.BigQuiet
import Derived.Maps.AppendAt
import Derived.OwnWalk
import Derived.KernelRfl
import Derived.Test.YtialfdomhoojiaaGreatProg
import Derived.Deep.RegionHeld3
import Derived.Deep.DeepCutAuto
import Derived.Maps.Own
import Derived.Maps.Views
set_option linter.unusedSimpArgs false
set_option linter.unusedVariables false
namespace Go.Proofs.YtialfdomhoojiaaGreat
open Go.RowKit
abbrev ayY(w:World)(v:Value)(e:Ending)(w':World):Prop:=e=.returned v/\Below w.heap.size w w'
abbrev AU(w w':World):Prop:=Below w.heap.size w w'
theorem BN{α:Sort _}(a:α):∃ x,a=x:=⟨_,rfl⟩
theorem BR{α:Sort _}(a:α):∃ x,x=a:=⟨_,rfl⟩
theorem BL{p:Prop}(h:p:=by simp [intOf];omega):p:=h
theorem AB{p:Prop}(h:p:=by omega):p:=h
theorem DZ{p:Prop}(h:p:=by simp only [List.length_cons,List.length_nil];omega):p:=h
theorem DK{p:Prop}(h:p:=by first | omega | (simp;done) | (simp;omega)):p:=h
theorem Aw{p:Prop}(h:p:=by decide):p:=h
theorem BJ{p:Prop}(h:p:=by go_num):p:=h
theorem Ak{p:Prop}(h:p:=by simp):p:=h
theorem DT{p:Prop}(h:p:=by simp;omega):p:=h
theorem VR{p:Prop}(h:p:=by simp only [List.length_append,List.length_cons,List.length_nil];omega):p:=h
theorem YL{p:Prop}(h:p:=by have:=Hlen.out;simp only [List.length_cons,List.length_nil];omega):p:=h
theorem iE{p:Prop}(h:p:=by have:=JQ.out;simp only [List.length_append,List.length_cons,List.length_nil];omega):p:=h
theorem OB{p:Prop}(h:p:=by first | omega | (simp;omega)):p:=h
theorem I8{p:Prop}(h:p:=by kernel_rfl):p:=h
theorem VT{p:Prop}(h:p:=by simp only [List.length_nil];omega):p:=h
theorem sV{p:Prop}(h:p:=by have:=JQ.out;simp only [List.length_cons,List.length_nil];omega):p:=h
theorem NW{p:Prop}(h:p:=by unfold BM;grind):p:=h
theorem aAS{p:Prop}(h:p:=by rw [List.take_succ_eq_append_getElem hlt,List.map_append];exact XV.out):p:=h
theorem KT{p:Prop}(h:p:=by assumption):p:=h
theorem abJ{p:Prop}(h:p:=by have:=HLj.out;simp only [List.length_map,List.length_cons,List.length_nil];omega):p:=h
theorem abK{p:Prop}(h:p:=by have:=HLen.out;(try simp only [List.length_append,List.length_singleton]);omega):p:=h
theorem Zt{p:Prop}(h:p:=by show w.heap.size<=g2;omega):p:=h
theorem sW{p:Prop}(h:p:=by first | exact Di | exact Di.alloc _):p:=h
theorem Zu{p:Prop}(h:p:=by rw [aAW.out];exact hg5):p:=h
theorem YP{p:Prop}(h:p:=by rw [<- Hr.out];rfl):p:=h
theorem Zv{p:Prop}(h:p:=by rw [aAW.out];exact Gi):p:=h
theorem Zw{p:Prop}(h:p:=by rw [OE.out];exact Di):p:=h
theorem sZ{p:Prop}(h:p:=by simpa [Value.ownBlock] using e'):p:=h
theorem abL{p:Prop}(h:p:=by simp only [XW,List.length_cons,List.length_nil];omega):p:=h
theorem aAT{p:Prop}(h:p:=by unfold CZ;rw [if_neg c1,if_neg c2];rfl):p:=h
theorem su{p:Prop}(h:p:=by rw [List.length_take];omega):p:=h
theorem Zx{p:Prop}(h:p:=by rw [iH hm];omega):p:=h
theorem afl{p:Prop}(h:p:=by rw [show m+1+1-1=m+1 by omega,UE.out,List.foldl_append];exact abM.out):p:=h
theorem iF{p:Prop}(h:p:=by have:=Hl.out;omega):p:=h
theorem Zy{p:Prop}(h:p:=by rw [Hf.out];rfl):p:=h
theorem aAU{p:Prop}(h:p:=by have:=List.mem_range.1 hk;omega):p:=h
theorem aAV{p:Prop}(h:p:=by rw [List.length_set];exact hl4):p:=h
theorem iG{p:Prop}(h:p:=by simpa using hb2):p:=h
theorem mF{p:Prop}(h:p:=by simpa using hi):p:=h
theorem tC{p:Prop}(h:p:=by unfold maxLen;omega):p:=h
theorem tH{p:Prop}(h:p:=by simp [putCells,hcs]):p:=h
theorem Rt{p:Prop}(h:p:=by rw [e]):p:=h
abbrev AA:=@Lib.hid
abbrev BO:=@List.getElem_mem
abbrev Dh:=@List.getElem?_eq_getElem
abbrev F7:=@List.take_succ_eq_append_getElem
abbrev EF:=@List.mem_iff_getElem
abbrev Fa:=@List.pairwise_iff_getElem
abbrev Bv:=@Nat.zero_le
abbrev ER:=@List.length_append
abbrev Cj:=@List.length_map
abbrev LX:=@List.length_nil
abbrev IU:=@List.length_cons
abbrev Dq:=@Option.some.inj
abbrev EO:=@decide_eq_true_eq
abbrev Ei:=@Bool.and_eq_true
abbrev D6:=@IntWalk.i64_in
abbrev Fj:=@List.getD_eq_getElem?_getD
abbrev H9:=@Option.getD_some
abbrev Gg:=@decide_eq_false
abbrev JO:=@decide_eq_true
abbrev Iy:=@decide_eq_false_iff_not
abbrev EP:=@List.mem_singleton
abbrev EH:=@Nat.le_trans
abbrev FX:=@List.mem_append
abbrev EW:=@List.mem_cons
abbrev Eu:=@List.mem_cons_self
abbrev Gp:=@List.getElem_map
abbrev KI:=@List.flatMap_cons
abbrev ED:=@List.mem_map
abbrev QE:=@List.mem_filter
abbrev Qo:=@List.getElem_set
abbrev OD:=@List.length_set
abbrev IV:=@List.map_map
abbrev Gh:=@List.mem_map_of_mem
abbrev Dc:=@Nat.le_refl
abbrev LW:=@Nat.lt_of_lt_of_le
abbrev OC:=@List.any_eq_true
abbrev KU:=@List.all_eq_true
abbrev lu:=@List.eq_nil_of_length_eq_zero
abbrev YN:=@List.getElem?_eq_none
abbrev Iw:=@List.length_take
abbrev mD:=@List.length_drop
abbrev KW:=@List.append_assoc
abbrev AX:=@if_neg
abbrev AZ:=@if_pos
abbrev aak:=@Nat.le_of_ble_eq_true
abbrev gY:=@List.all_eq_false
abbrev Zp:=@Int.le_total
abbrev KR:=@Int.mul_nonneg
abbrev aal:=@Int.mul_le_mul
abbrev aAE:=@Int.mul_neg
abbrev Oh:=@Int.neg_mul
abbrev aAF:=@List.all_cons
abbrev aam:=@List.all_nil
abbrev aan:=@Bool.and_true
abbrev MH:=@Bool.eq_iff_iff
abbrev Rq:=@Bool.false_eq_true
abbrev Qj:=@List.nil_append
abbrev FM:=@List.map_cons
abbrev IJ:=@List.sum_cons
abbrev GI:=@List.map_append
abbrev O7:=@List.sum_append
abbrev QD:=@List.map_nil
abbrev YH:=@List.sum_nil
abbrev IQ:=@List.take_of_length_le
abbrev Et:=@List.mem_range
abbrev Zq:=@List.ext_getElem
abbrev XO:=@List.any_eq_false
abbrev gZ:=@List.any_map
abbrev KD:=@Bool.or_eq_true
abbrev Qk:=@Bool.not_eq_true'
abbrev aai:=@Bool.and_eq_false_iff
abbrev Zo:=@List.take_append_drop
abbrev LC:=@List.flatMap_append
abbrev Og:=@List.flatMap_map
abbrev rU:=@Nat.lt_or_ge
abbrev JK:=@Bool.not_eq_true
abbrev VO:=@List.mem_of_find?_eq_some
abbrev rV:=@Option.getD_none
abbrev gX:=@Option.isSome_none
abbrev VP:=@Option.isSome_some
abbrev Jg:=@Int.mul_pos
abbrev rW:=@Int.mul_pos_of_neg_of_neg
abbrev aAB:=@Int.mul_nonpos_of_nonneg_of_nonpos
abbrev aAC:=@Int.mul_nonpos_of_nonpos_of_nonneg
abbrev XK:=@Int.mul_neg_of_pos_of_neg
abbrev VQ:=@Int.mul_neg_of_neg_of_pos
abbrev XM:=@Int.mul_eq_zero
abbrev lY:=@Bool.true_and
abbrev aAD:=@List.map_congr_left
abbrev YG:=@Nat.eq_zero_or_pos
abbrev aaj:=@Nat.div_lt_of_lt_mul
abbrev rX:=@Nat.mul_comm
abbrev UC:=@Nat.mod_lt
abbrev rY:=@Nat.div_add_mod'
abbrev lZ:=@List.ext_getElem?
abbrev lq:=@Nat.mul_le_mul_right
abbrev KP:=@Int.mul_comm
abbrev aag:=@Int.lt_or_le
abbrev gW:=@Int.le_of_lt
abbrev KQ:=@Int.mul_zero
abbrev Jf:=@Int.zero_mul
abbrev aah:=@List.flatMap_nil
abbrev JA:=@List.append_nil
abbrev Gf:=@List.mem_flatMap
abbrev QC:=@Bool.or_eq_false_iff
abbrev XJ:=@List.all_map
abbrev Qm:=@Nat.zero_add
abbrev aau:=@List.cons_append
abbrev aav:=@Nat.le_succ
abbrev PO:=@List.length_range
abbrev JL:=@List.pairwise_cons
abbrev aAL:=@List.map_flatMap
abbrev sO:=@List.pairwise_flatMap
abbrev I5:=@List.pairwise_map
abbrev aaw:=@List.getD_cons_succ
abbrev Oi:=@List.foldl_append
abbrev UD:=@List.foldl_cons
abbrev KH:=@Int.le_refl
abbrev aAM:=@List.any_cons
abbrev aAN:=@List.any_append
abbrev O9:=@List.mem_append_left
abbrev YI:=@List.mem_append_right
abbrev Ik:=@Int.lt_trichotomy
abbrev I7:=@List.mem_cons_of_mem
abbrev aAO:=@List.nodup_cons
abbrev abS:=@List.length_pos_of_mem
abbrev aax:=@Nat.sub_add_cancel
abbrev Qn:=@List.pairwise_append
abbrev aay:=@List.perm_ext_iff_of_nodup
abbrev aAP:=@List.mem_flatten
abbrev Oj:=@Int.neg_neg
abbrev aAI:=@List.mem_reverse
abbrev PN:=@Nat.lt_trichotomy
abbrev aap:=@List.takeWhile_append_dropWhile
abbrev sF:=@List.dropWhile_cons
abbrev XP:=@Nat.mod_eq_of_lt
abbrev aAJ:=@Nat.add_mod_right
abbrev XU:=@List.length_reverse
abbrev aaq:=@List.drop_length
abbrev sG:=@List.drop_zero
abbrev Ql:=@List.drop_eq_getElem_cons
abbrev gu:=@Nat.add_sub_cancel
abbrev gy:=@Int.mul_sub
abbrev aar:=@Int.mul_add
abbrev Zr:=@List.range_succ
abbrev iC:=@Int.add_zero
abbrev aas:=@Int.sub_eq_add_neg
abbrev aAK:=@Int.sub_self
abbrev sH:=@List.nodup_iff_pairwise_ne
abbrev abO:=@List.pairwise_flatten
abbrev abP:=@List.Pairwise.imp_of_mem
abbrev abQ:=@List.drop_eq_nil_of_le
abbrev sJ:=@Int.mul_assoc
abbrev aat:=@Int.add_mul
abbrev abR:=@Nat.min_eq_right
abbrev sK:=@Int.mul_ediv_cancel_left
abbrev sN:=@Int.neg_dvd
abbrev gq:=@List.filter_cons
abbrev rZ:=@Int.min_comm
abbrev ru:=@Int.max_comm
abbrev I4:=@List.take_length
abbrev aao:=@List.length_take_le
abbrev aAG:=@List.mem_of_mem_take
abbrev aAH:=@List.countP_eq_zero
abbrev abN:=@List.countP_append
abbrev O8:=@List.take_zero
abbrev sD:=@List.length_singleton
abbrev YJ:=@Nat.add_zero
abbrev aAQ:=@List.filter_append
abbrev aaz:=@List.filter_nil
abbrev iD:=@List.length_pos_iff
abbrev sQ:=@List.pairwise_singleton
abbrev sU:=@Nat.zero_mul
abbrev OA:=@List.length_filter_le
abbrev ab1:=@List.flatten_append
abbrev ab2:=@List.set_append_right
abbrev ab3:=@Nat.sub_self
abbrev abT:=@List.set_cons_zero
abbrev abU:=@List.perm_append_comm
abbrev abV:=@List.drop_succ_cons
abbrev abW:=@List.take_succ_cons
abbrev abX:=@List.mem_of_getElem?
abbrev ab4:=@List.filter_filter
abbrev abY:=@List.filter_append_perm
abbrev abZ:=@List.countP_cons_of_pos
abbrev abb:=@Int.mul_le_mul_of_nonneg_right
abbrev abd:=@Int.ediv_le_ediv
abbrev YK:=@List.not_mem_nil
abbrev abe:=@List.flatMap_assoc
abbrev ab5:=@List.flatten_eq_flatMap
abbrev aAR:=@Int.mul_le_mul_of_nonneg_left
abbrev afm:=@Int.mul_le_mul_of_nonpos_left
abbrev NV:=@Classical.byContradiction
abbrev JM:=@Option.some.injEq
def AO (w:World) (g:Nat) (t:TypeId) (cs:Array Value):Prop:=w.heap[g]? = some (.cells cs t (0,0))
section
variable {w w':World} {g:Nat} {t:TypeId} {cs:Array Value}
theorem AO.lt (h:AO w g t cs):g<w.heap.size:=by
 rcases Nat.lt_or_ge g w.heap.size with hlt | hge
 · exact hlt
 · unfold AO at h;rw [Array.getElem?_eq_none hge] at h;cases h
theorem AO.cell (h:AO w g t cs) (i:Nat):w.cell? ⟨g,i,none⟩=cs[i]? := cell_of_row w g i cs t (0,0) h
theorem AO.frozen (h:AO w g t cs) (i:Nat):w.frozen? ⟨g,i,none⟩=false:=by
 unfold AO at h;simp [World.frozen?,h]
theorem AO.new (w:World) (t:TypeId) (cs:Array Value):AO (w.alloc (.cells cs t)) w.heap.size t cs:=heap_alloc_new w _
theorem AO.made {o:Nat} (h:o=w.heap.size) (t:TypeId) (cs:Array Value):AO (w.alloc (.cells cs t)) o t cs:=by subst h;exact AO.new w t cs
theorem AO.drew (h:AO w g t cs):AO w.drew g t cs:=h
theorem AO.alloc (h:AO w g t cs) (o:Obj):AO (w.alloc o) g t cs:=(Below.heap_alloc w o g h.lt).trans h
theorem AO.EI (h:AO w g t cs) (i:Nat) (u:Value):AO (w.setCell ⟨g,i,none⟩ u) g t (cs.setIfInBounds i u):=by
 unfold AO at h ⊢;simp [World.setCell,Array.getElem?_modify,h]
theorem AO.far (h:AO w g t cs) {p:Addr} (hp:g≠p.block) (u:Value):AO (w.setCell p u) g t cs:=(Below.heap_setCell w p u g hp).trans h
theorem AO.below {B:Nat} (h:AO w g t cs) (hb:Below B w w') (hg:g<B):AO w' g t cs:=(hb.block g hg).trans h
theorem AO.keep (h:AO w g t cs) (hb:Below w.heap.size w w'):AO w' g t cs:=(hb.block g h.lt).trans h
theorem AO.grown {row:Option Nat} (h:AO w g t cs) (hb:w.grownBy w' row) (hg:some g≠row):AO w' g t cs:=(hb.block g h.lt hg).trans h
theorem AO.Me {g':Nat} {t':TypeId} {cs':Array Value} (h:AO w g t cs) (h':AO w g' t' cs') (hne:t≠t'):g≠g':=by
 rintro rfl;unfold AO at h h';rw [h] at h';injection h' with h';injection h' with _ ht;exact hne ht
theorem anB {base:Nat} {e:TypeId} {size n:Nat} {v:Value} {xs:List Value} (h:w.ownsRow base e size v n xs) (hg:AO w g t cs) (hne:e≠t):v.ownBlock≠some g:=by
 rcases h.2 with ⟨rfl,_⟩ | ⟨g',cap,cur,rfl,_,hh,_⟩
 · simp [Value.ownBlock]
 ·intro he
  have:g'=g:=by simpa [Value.ownBlock] using he
  subst this;exact AO.Me (t:=e) hh hg hne rfl
end
theorem VX {W w1:World} (hb:Below W.heap.size W w1):(∀ b o,b<W.heap.size->w1.cell? ⟨b,o,none⟩=W.cell? ⟨b,o,none⟩)/\(∀ b o,b<W.heap.size->w1.frozen? ⟨b,o,none⟩=W.frozen? ⟨b,o,none⟩) :=
 ⟨fun b o h=>hb.cell (p:=⟨b,o,none⟩) h,fun b o h=>hb.frozen (p:=⟨b,o,none⟩) h⟩
section
variable {w:World} {g:Nat} {t:TypeId}
theorem AO.Fb {v0:Value} (h:AO w g t #[v0]):g<w.heap.size/\w.cell? ⟨g,0,none⟩=some v0/\w.frozen? ⟨g,0,none⟩=false :=
 ⟨h.lt,h.cell 0,h.frozen 0⟩
theorem AO.BQ {v0 v1:Value} (h:AO w g t #[v0,v1]):g<w.heap.size/\w.cell? ⟨g,0,none⟩=some v0/\w.cell? ⟨g,1,none⟩=some v1/\w.frozen? ⟨g,0,none⟩=false/\w.frozen? ⟨g,1,none⟩=false :=
 ⟨h.lt,h.cell 0,h.cell 1,h.frozen 0,h.frozen 1⟩
theorem AO.Az {v0 v1 v2:Value} (h:AO w g t #[v0,v1,v2]):g<w.heap.size/\w.cell? ⟨g,0,none⟩=some v0/\w.cell? ⟨g,1,none⟩=some v1/\w.cell? ⟨g,2,none⟩=some v2/\w.frozen? ⟨g,0,none⟩=false/\w.frozen? ⟨g,1,none⟩=false/\w.frozen? ⟨g,2,none⟩=false :=
 ⟨h.lt,h.cell 0,h.cell 1,h.cell 2,h.frozen 0,h.frozen 1,h.frozen 2⟩
theorem AO.N7 {v0 v1 v2 v3:Value} (h:AO w g t #[v0,v1,v2,v3]):g<w.heap.size/\w.cell? ⟨g,0,none⟩=some v0/\w.cell? ⟨g,1,none⟩=some v1/\w.cell? ⟨g,2,none⟩=some v2/\w.cell? ⟨g,3,none⟩=some v3/\w.frozen? ⟨g,0,none⟩=false/\w.frozen? ⟨g,1,none⟩=false/\w.frozen? ⟨g,2,none⟩=false/\w.frozen? ⟨g,3,none⟩=false :=
 ⟨h.lt,h.cell 0,h.cell 1,h.cell 2,h.cell 3,h.frozen 0,h.frozen 1,h.frozen 2,h.frozen 3⟩
theorem AO.IW {v0 v1 v2 v3 v4 v5:Value} (h:AO w g t #[v0,v1,v2,v3,v4,v5]):g<w.heap.size/\w.cell? ⟨g,0,none⟩=some v0/\w.cell? ⟨g,1,none⟩=some v1/\w.cell? ⟨g,2,none⟩=some v2/\w.cell? ⟨g,3,none⟩=some v3/\w.cell? ⟨g,4,none⟩=some v4/\w.cell? ⟨g,5,none⟩=some v5/\w.frozen? ⟨g,0,none⟩=false/\w.frozen? ⟨g,1,none⟩=false/\w.frozen? ⟨g,2,none⟩=false/\w.frozen? ⟨g,3,none⟩=false/\w.frozen? ⟨g,4,none⟩=false/\w.frozen? ⟨g,5,none⟩=false :=
 ⟨h.lt,h.cell 0,h.cell 1,h.cell 2,h.cell 3,h.cell 4,h.cell 5,h.frozen 0,h.frozen 1,h.frozen 2,h.frozen 3,h.frozen 4,h.frozen 5⟩
end
section
variable {w w1 w2:World}
theorem bR (w:World):Below w.heap.size w w:=Below.refl _ _
theorem bA (h:Below w.heap.size w w1) (o:Obj):Below w.heap.size w (w1.alloc o):=h.alloc h.size o
theorem bD (h:Below w.heap.size w w1):Below w.heap.size w w1.drew:=h.drew
theorem bN (h:Below w.heap.size w w1) (n:Nat):Below w.heap.size w (w1.drewN n):=⟨h.os,h.tape,h.output,h.size,h.block⟩
theorem bT (h:Below w.heap.size w w1) (k:Below w1.heap.size w1 w2):Below w.heap.size w w2:=h.trans (k.mono h.size)
theorem bS (h:Below w.heap.size w w1) {p:Addr} (hp:w.heap.size<=p.block) (u:Value):Below w.heap.size w (w1.setCell p u):=h.setCell hp u
theorem bG (h:Below w.heap.size w w1) {row:Option Nat} (hg:w1.grownBy w2 row) (hr:∀ k,row=some k->w.heap.size<=k):Below w.heap.size w w2:=h.grown hg h.size hr
end
theorem Eh {W w':World} (hb:Below W.heap.size W w') {p:Addr} {v:Value} (h:W.cell? p=some v):w'.cell? p=some v:=by
 rw [hb.cell (World.block_lt_of_cell? W p h)];exact h
def Row (w:World) (A:Option Addr) (xs:List Value):Prop :=
 xs≠[]->∃ b o,A=some ⟨b,o,none⟩/\b<w.heap.size/\∀ j v,xs[j]? = some v->w.cell? ⟨b,o+j,none⟩=some v
theorem Row.mono {w w':World} {A:Option Addr} {xs:List Value} (h:Row w A xs) (hb:Below w.heap.size w w'):Row w' A xs:=by
 intro hne;obtain ⟨b,o,rfl,hlt,hc⟩:=h hne;exact ⟨b,o,rfl,Nat.lt_of_lt_of_le hlt hb.size,fun j v hj=>by rw [hb.cell (p:=⟨b,_,none⟩) hlt];exact hc j v hj⟩
theorem Row.nil {w:World} {A:Option Addr}:Row w A []:=fun h=>absurd rfl h
theorem Row.aAs {w:World} {base:Nat} {e:TypeId} {size n:Nat} {A:Option Addr} {c:Nat} {xs:List Value} (h:w.ownsRow base e size (.slice A n c) n xs):Row w A xs:=by
 intro hne;rcases h.2 with ⟨hv,hn⟩ | ⟨g,cap,cur,hv,_,hh,_,_,hsz,hx⟩
 · exact absurd (List.eq_nil_of_length_eq_zero (by rw [h.1,hn];simp)) hne
 ·injection hv with hA _ _;subst hA;refine ⟨g,0,rfl,?_,fun j v hj=>?_⟩
  · exact AO.lt hh
  ·rw [cell_of_row w g _ cur e (0,0) hh];subst hx;rw [List.getElem?_take] at hj;split at hj
   · simpa using hj
   · cases hj
def Sl (w:World) (v:Value) (n:Nat) (xs:List Value):Prop :=
 ∃ A c,v=.slice A n c/\n<=c/\c<=maxLen/\Row w A xs
theorem Sl.mono {w w':World} {v:Value} {n:Nat} {xs:List Value} (h:Sl w v n xs) (hb:Below w.heap.size w w'):Sl w' v n xs:=by
 obtain ⟨A,c,hv,h1,h2,h3⟩:=h;exact ⟨A,c,hv,h1,h2,h3.mono hb⟩
theorem Sl.aAs {w:World} {base:Nat} {e:TypeId} {size n:Nat} {v:Value} {xs:List Value} (h:w.ownsRow base e size v n xs):Sl w v n xs:=by
 rcases h.2 with ⟨hv,hn⟩ | ⟨g,cap,cur,hv,hg,hh,h1,h2,hsz,hx⟩
 ·subst hv;subst hn;exact ⟨none,0,rfl,Nat.le_refl _,by simp [maxLen],Row.aAs h⟩
 ·subst hv;exact ⟨_,cap,rfl,h1,h2,Row.aAs h⟩
theorem own_below {w w':World} {base:Nat} {e:TypeId} {size n:Nat} {v:Value} {xs:List Value} (h:w.ownsRow base e size v n xs) (hb:Below w.heap.size w w'):w'.ownsRow base e size v n xs:=by
 obtain ⟨h1,h2⟩:=h;refine ⟨h1,?_⟩;rcases h2 with h2 | ⟨g,cap,cur,hv,hg,hh,r⟩
 · exact .inl h2
 · exact .inr ⟨g,cap,cur,hv,hg,(hb.block g (AO.lt hh)).trans hh,r⟩
theorem flat_get {α:Type} (f:α->List Value) (n:Nat) (hn:∀ a,(f a).length=n) (l:List α) (k j:Nat) (hk:k<l.length) (hj:j<n) :
  (l.flatMap f)[k*n+j]? = (f l[k])[j]? := by
 induction l generalizing k with
 | nil=>simp at hk
 | cons a l ih =>
  cases k with
  | zero=>simp [List.flatMap_cons,List.getElem?_append_left,hn,hj]
  | succ k =>
   have hk':k<l.length:=by simpa using hk
   rw [List.flatMap_cons,List.getElem?_append_right (by rw [hn,Nat.succ_mul];omega),hn];rw [show (k+1)*n+j-n=k*n+j by rw [Nat.succ_mul];omega,ih k hk'];simp
theorem flat_length {α:Type} (f:α->List Value) (n:Nat) (hn:∀ a,(f a).length=n) (l:List α):(l.flatMap f).length=l.length*n:=by
 induction l with
 | nil=>simp
 | cons a l ih=>simp [List.flatMap_cons,hn,ih,Nat.succ_mul];omega
theorem Row.at_ {w:World} {A:Option Addr} {α:Type} {f:α->List Value} {n:Nat} (hn:∀ a,(f a).length=n) {l:List α} (h:Row w A (l.flatMap f)) {k:Nat} (hk:k<l.length) (hpos:0<n) :
  ∃ b o,A=some ⟨b,o,none⟩/\b<w.heap.size/\∀ j u,(f l[k])[j]? = some u->w.cell? ⟨b,o+k*n+j,none⟩=some u:=by
 have hne:l.flatMap f≠[]:=by
  intro h0;have:=flat_length f n hn l
  rw [h0] at this
  have:0<l.length*n:=Nat.mul_pos (by omega) hpos
  simp at *;omega
 obtain ⟨b,o,rfl,hlt,hc⟩:=h hne;refine ⟨b,o,rfl,hlt,fun j u hj=>?_⟩;have hj':j<n:=by
  rcases Nat.lt_or_ge j n with h' | h'
  · exact h'
  · rw [List.getElem?_eq_none (by rw [hn];exact h')] at hj;cases hj
 have:=hc (k*n+j) u (by rw [flat_get f n hn l k j hk hj'];exact hj)
 rwa [<- Nat.add_assoc] at this
structure Pt where
 x:Int
 y:Int
structure Nd where
 id:Int
 pt:Pt
structure Ar where
 id:Int
 fr:Int
 dst:Int
 via:List Pt
 left:Int
 right:Int
structure Pl where
 nodes:List Nd
 AP:List Ar
 faces:List Int
structure Bx where
 x0:Int
 y0:Int
 x1:Int
 y1:Int
instance:DecidableEq Pt:=fun a b =>
 if h:a.x=b.x/\a.y=b.y then isTrue (by cases a;cases b;simp_all) else isFalse (by rintro rfl;simp at h)
instance:DecidableEq Nd:=fun a b =>
 if h:a.id=b.id/\a.pt=b.pt then isTrue (by cases a;cases b;simp_all) else isFalse (by rintro rfl;simp at h)
instance:DecidableEq Ar:=fun a b =>
 if h:a.id=b.id/\a.fr=b.fr/\a.dst=b.dst/\a.via=b.via/\a.left=b.left/\a.right=b.right then isTrue (by cases a;cases b;simp_all) else isFalse (by rintro rfl;simp at h)
instance:DecidableEq Bx:=fun a b =>
 if h:a.x0=b.x0/\a.y0=b.y0/\a.x1=b.x1/\a.y1=b.y1 then isTrue (by cases a;cases b;simp_all) else isFalse (by rintro rfl;simp at h)
theorem Pt.ext_iff' {a b:Pt}:a=b↔a.x=b.x/\a.y=b.y:=by cases a;cases b;simp
def DR (n:Int):List Value:=[.int .i64 n]
def Ee (p:Pt):List Value:=[.int .i64 p.x,.int .i64 p.y]
def QY (n:Nd):List Value:=[.int .i64 n.id,.int .i64 n.pt.x,.int .i64 n.pt.y]
def iy (p:Ar×Value):List Value:=[.int .i64 p.1.id,.int .i64 p.1.fr,.int .i64 p.1.dst,p.2,.int .i64 p.1.left,.int .i64 p.1.right]
def BA (p:Pt):Value:=.agg #[.int .i64 p.x,.int .i64 p.y]
def uM (n:Nd):Value:=.agg #[.int .i64 n.id,.int .i64 n.pt.x,.int .i64 n.pt.y]
def UQ (a:Ar) (v:Value):Value:=.agg #[.int .i64 a.id,.int .i64 a.fr,.int .i64 a.dst,v,.int .i64 a.left,.int .i64 a.right]
def Ints (w:World) (v:Value) (l:List Int):Prop:=Sl w v l.length (l.flatMap DR)
def Dv (w:World) (v:Value) (l:List Pt):Prop:=Sl w v l.length (l.flatMap Ee)
def Zz (w:World) (v:Value) (l:List Nd):Prop:=Sl w v l.length (l.flatMap QY)
def aA (w:World) (l:List (Ar×Value)):Prop:=∀ k (hk:k<l.length),Dv w l[k].2 l[k].1.via
def aAt (w:World) (v:Value) (l:List (Ar×Value)):Prop:=Sl w v l.length (l.flatMap iy)/\aA w l
def Ci (w:World) (v:Value) (p:Pl):Prop :=
 ∃ vn va vf al,v=.agg #[vn,va,vf]/\p.AP=al.map (·.1)/\Zz w vn p.nodes/\aAt w va al/\Ints w vf p.faces
section
variable {w w':World} {v:Value}
theorem Ints.mono {l:List Int} (h:Ints w v l) (hb:Below w.heap.size w w'):Ints w' v l:=Sl.mono h hb
theorem Dv.mono {l:List Pt} (h:Dv w v l) (hb:Below w.heap.size w w'):Dv w' v l:=Sl.mono h hb
theorem Zz.mono {l:List Nd} (h:Zz w v l) (hb:Below w.heap.size w w'):Zz w' v l:=Sl.mono h hb
theorem aA.mono {l:List (Ar×Value)} (h:aA w l) (hb:Below w.heap.size w w'):aA w' l:=fun k hk=>(h k hk).mono hb
theorem aAt.mono {l:List (Ar×Value)} (h:aAt w v l) (hb:Below w.heap.size w w'):aAt w' v l:=⟨Sl.mono h.1 hb,h.2.mono hb⟩
theorem Ci.mono {p:Pl} (h:Ci w v p) (hb:Below w.heap.size w w'):Ci w' v p:=by
 obtain ⟨vn,va,vf,al,hv,hp,h1,h2,h3⟩:=h;exact ⟨vn,va,vf,al,hv,hp,h1.mono hb,h2.mono hb,h3.mono hb⟩
end
section
variable {w:World} {A:Option Addr}
theorem Row.int {l:List Int} (h:Row w A (l.flatMap DR)) {k:Nat} (hk:k<l.length) :
  ∃ b o,A=some ⟨b,o,none⟩/\b<w.heap.size/\w.cell? ⟨b,o+k,none⟩=some (.int .i64 l[k]):=by
 obtain ⟨b,o,hA,hb,hc⟩:=h.at_ (n:=1) (fun _=>rfl) hk (by omega);exact ⟨b,o,hA,hb,by simpa using hc 0 _ rfl⟩
theorem Row.pt {l:List Pt} (h:Row w A (l.flatMap Ee)) {k:Nat} (hk:k<l.length) :
  ∃ b o,A=some ⟨b,o,none⟩/\b<w.heap.size/\w.cell? ⟨b,o+k*2,none⟩=some (.int .i64 l[k].x)/\w.cell? ⟨b,o+k*2+1,none⟩=some (.int .i64 l[k].y):=by
 obtain ⟨b,o,hA,hb,hc⟩:=h.at_ (n:=2) (fun _=>rfl) hk (by omega);exact ⟨b,o,hA,hb,hc 0 _ rfl,hc 1 _ rfl⟩
theorem Row.nd {l:List Nd} (h:Row w A (l.flatMap QY)) {k:Nat} (hk:k<l.length) :
  ∃ b o,A=some ⟨b,o,none⟩/\b<w.heap.size/\w.cell? ⟨b,o+k*3,none⟩=some (.int .i64 l[k].id)/\w.cell? ⟨b,o+k*3+1,none⟩=some (.int .i64 l[k].pt.x)/\w.cell? ⟨b,o+k*3+2,none⟩=some (.int .i64 l[k].pt.y):=by
 obtain ⟨b,o,hA,hb,hc⟩:=h.at_ (n:=3) (fun _=>rfl) hk (by omega);exact ⟨b,o,hA,hb,hc 0 _ rfl,hc 1 _ rfl,hc 2 _ rfl⟩
theorem Row.ar {l:List (Ar×Value)} (h:Row w A (l.flatMap iy)) {k:Nat} (hk:k<l.length) :
  ∃ b o,A=some ⟨b,o,none⟩/\b<w.heap.size/\w.cell? ⟨b,o+k*6,none⟩=some (.int .i64 l[k].1.id)/\w.cell? ⟨b,o+k*6+1,none⟩=some (.int .i64 l[k].1.fr)/\w.cell? ⟨b,o+k*6+2,none⟩=some (.int .i64 l[k].1.dst) /\
   w.cell? ⟨b,o+k*6+3,none⟩=some l[k].2/\w.cell? ⟨b,o+k*6+4,none⟩=some (.int .i64 l[k].1.left)/\w.cell? ⟨b,o+k*6+5,none⟩=some (.int .i64 l[k].1.right):=by
 obtain ⟨b,o,hA,hb,hc⟩:=h.at_ (n:=6) (fun _=>rfl) hk (by omega);exact ⟨b,o,hA,hb,hc 0 _ rfl,hc 1 _ rfl,hc 2 _ rfl,hc 3 _ rfl,hc 4 _ rfl,hc 5 _ rfl⟩
end
theorem DN {n:Nat} (h:n<=4294967296):n<=maxLen:=by
 have:maxLen=9223372036854775807:=rfl
 omega
theorem Sl.lit {w:World} {g n:Nat} {t:TypeId} {cs:Array Value} {xs:List Value} (h:AO w g t cs) (hx:cs.toList=xs) (hn:n<=maxLen):Sl w (.slice (some ⟨g,0,none⟩) n n) n xs :=
 ⟨_,n,rfl,Nat.le_refl _,hn,fun _=>⟨g,0,rfl,h.lt,fun j v hj=>by rw [h.cell,<- hj,<- hx];simp⟩⟩
theorem Dv.aB {w:World} {g:Nat} {t:TypeId} {a b c:Pt} (h:AO w g t #[.int .i64 a.x,.int .i64 a.y,.int .i64 b.x,.int .i64 b.y,.int .i64 c.x,.int .i64 c.y]):Dv w (.slice (some ⟨g,0,none⟩) 3 3) [a,b,c] :=
 Sl.lit (n:=3) h rfl (DN (by omega))
theorem Dv.aAu {w:World} {g:Nat} {t:TypeId} {a b c d:Pt} (h:AO w g t #[.int .i64 a.x,.int .i64 a.y,.int .i64 b.x,.int .i64 b.y,.int .i64 c.x,.int .i64 c.y,.int .i64 d.x,.int .i64 d.y]):Dv w (.slice (some ⟨g,0,none⟩) 4 4) [a,b,c,d] :=
 Sl.lit (n:=4) h rfl (DN (by omega))
theorem all_succ {α:Type} {l:List α} {p:α->Prop} {k:Nat} (h:∀ j (hj:j<l.length),j<k->p l[j]) (hk:k<l.length) (hp:p l[k]):∀ j (hj:j<l.length),j<k+1->p l[j]:=by
 intro j hj hjk;by_cases e:j<k
 · exact h j hj e
 ·have:j=k:=by omega
  subst this;exact hp
theorem Df {k:IntKind} {a b:Int} (h:a=b):Ending.returned (.int k a)=.returned (.int k b):=by rw [h]
theorem CW {a b:Bool} (h:a=b):Ending.returned (.bool a)=.returned (.bool b):=by rw [h]
section
variable {P:Program} (w:World)
theorem Row.at0 {w:World} {ad:Addr} {xs:List Value} (h:Row w (some ad) xs) (j:Nat) (u:Value) (hu:xs[j]? = some u):w.cell? (ad.add j)=some u:=by
 have hne:xs≠[]:=by rintro rfl;simp at hu
 obtain ⟨b,o,e,_,hc⟩:=h hne;injection e with e;subst e;have:=hc j u hu
 unfold Addr.add;split
 · rename_i h0;subst h0;simpa using this
 · exact this
theorem anC (base:Nat) (t ty e:TypeId) (i:TypeInfo) (z:Value) (size bytes:Nat) (ht:P.underlying t=some (.slice e)) (hi:P.info? e=some i) (hz:i.zero=some z)
  (hsize:i.size=size) (hby:i.bytes=bytes) (hzs:z.cells.size=size) (hsz:0<size)
  (v:Value) (n:Nat) (xs:List Value) (hown:w.ownsRow base e size v n xs)
  (s:Value) (m:Nat) (news:List Value) (hs:Sl w s m news) (hl:news.length=m*size) (h1:∀ u∈news,u.oneCell'=true)
  (h63:n+m<=maxLen) (hbytes:(n+m)*bytes<=140737488355328) (hbase:base<=w.heap.size) :
  ∃ v' w',(Builtin.append_ #[t,t] ty #[v,s]).run P w=.ok v' w'/\w'.ownsRow base e size v' (n+m) (xs++news)/\w.grownBy w' v.ownBlock /\
   (v'.ownBlock=v.ownBlock\/v'.ownBlock=some w.heap.size):=by
 obtain ⟨A,c,rfl,_,_,hr⟩:=hs;rcases A with _ | ad
 ·have hn:news=[]:=by
   rcases news with _ | ⟨u,us⟩
   · rfl
   ·obtain ⟨b,o,e,_⟩:=hr (by simp)
    cases e
  subst hn;have hm:m=0:=by
   rcases Nat.eq_zero_or_pos m with h0 | h0
   · exact h0
   ·have:=Nat.mul_pos h0 hsz
    simp at hl;omega
  subst hm;refine ⟨v,w,?_,by simpa using hown,World.grownBy.refl w _,.inl rfl⟩;rcases hown.2 with ⟨rfl,rfl⟩ | ⟨g,cap,cur,rfl,_,_,hnc,_⟩
  · simp [Builtin.append_,run_underlying ht,sizeOf,typeInfo,hi,Builtin.lenOf,Builtin.firstCells]
  · simp [Builtin.append_,run_underlying ht,sizeOf,typeInfo,hi,Builtin.lenOf,Builtin.firstCells,hnc,storeCells]
 ·obtain ⟨v',w',hrun,h2,h3,_,h5⟩:=run_append_own_at (P:=P) w base t ty e i z size bytes ht hi hz hsize hby hzs hsz v n xs hown ad m c news hl (fun j u hu=>hr.at0 j u hu) h1 h63 hbytes hbase;exact ⟨v',w',hrun,h2,h3,h5⟩
theorem agO {o:Oper} {a:Act} {K:Act->World->Prop} {Q:Exit->Act->World->Prop} (s x:Operand) (t:TypeId)
  (ho:o.op=.call {callee:=.builtin .append,args:=#[s,x],argTypes:=#[t,t]})
  (base:Nat) (e:TypeId) (i:TypeInfo) (z:Value) (size bytes:Nat) (ht:P.underlying t=some (.slice e)) (hi:P.info? e=some i) (hz:i.zero=some z)
  (hsize:i.size=size) (hby:i.bytes=bytes) (hzs:z.cells.size=size) (hsz:0<size)
  (v:Value) (n:Nat) (xs:List Value) (hs:a.eval s=v) (hown:w.ownsRow base e size v n xs)
  (src:Value) (m:Nat) (news:List Value) (hx:a.eval x=src) (hr:Sl w src m news) (hl:news.length=m*size) (h1:∀ u∈news,u.oneCell'=true)
  (h63:n+m<=maxLen) (hbytes:(n+m)*bytes<=140737488355328) (hbase:base<=w.heap.size)
  (h:∀ v' w',w'.ownsRow base e size v' (n+m) (xs++news)->w.grownBy w' v.ownBlock->(v'.ownBlock=v.ownBlock\/v'.ownBlock=some w.heap.size)->K (a.put o.dst v') w'):o.wp P a w K Q:=by
 obtain ⟨v',w',hrun,h2,h3,h4⟩:=anC (P:=P) w base t o.type e i z size bytes ht hi hz hsize hby hzs hsz v n xs hown src m news hr hl h1 h63 hbytes hbase;unfold Oper.wp execOp;simp only [ho,resolve,invoke,builtin,Sem.run_bind,Sem.run_pure,Result.andThen_ok,List.map_toArray,List.map_cons,List.map_nil,hs,hx,hrun];exact h v' w' h2 h3 h4
theorem agP {ops:Array Oper} {rest:List Oper} {o:Oper} {a:Act} {Q:Exit->Act->World->Prop} (hgd:o.guard=none) (s x:Operand) (t:TypeId)
  (ho:o.op=.call {callee:=.builtin .append,args:=#[s,x],argTypes:=#[t,t]})
  (base:Nat) (e:TypeId) (i:TypeInfo) (z:Value) (size bytes:Nat) (ht:P.underlying t=some (.slice e)) (hi:P.info? e=some i) (hz:i.zero=some z)
  (hsize:i.size=size) (hby:i.bytes=bytes) (hzs:z.cells.size=size) (hsz:0<size)
  (v:Value) (n:Nat) (xs:List Value) (hs:a.eval s=v) (hown:w.ownsRow base e size v n xs)
  (src:Value) (m:Nat) (news:List Value) (hx:a.eval x=src) (hr:Sl w src m news) (hl:news.length=m*size) (h1:∀ u∈news,u.oneCell'=true)
  (h63:n+m<=maxLen) (hbytes:(n+m)*bytes<=140737488355328) (hbase:base<=w.heap.size)
  (h:∀ v' w',w'.ownsRow base e size v' (n+m) (xs++news)->w.grownBy w' v.ownBlock->(v'.ownBlock=v.ownBlock\/v'.ownBlock=some w.heap.size)->wpList P ops Q rest (a.put o.dst v') w'):wpList P ops Q (o::rest) a w :=
 wpList_plain hgd fun _ hK=>agO w s x t ho base e i z size bytes ht hi hz hsize hby hzs hsz v n xs hs hown src m news hx hr hl h1 h63 hbytes hbase fun v' w' h2 h3 h4=>hK _ _ (h v' w' h2 h3 h4)
end
def Elem (P:Program) (t e:TypeId) (size bytes:Nat):Prop :=
 P.underlying t=some (.slice e)/\∃ i z,P.info? e=some i/\i.zero=some z/\i.size=size/\i.bytes=bytes/\z.cells.size=size/\0<size
theorem Elem.PU {P:Program} {t e:TypeId} {size bytes:Nat} {z:Value} (h:P.underlying t=some (.slice e)) (h':(P.info? e).map (fun i=>(i.zero,i.size,i.bytes))=some (some z,size,bytes)) (hz:z.cells.size=size) (hp:0<size):Elem P t e size bytes:=by
 obtain ⟨i0,hi,hz0,hz1,hz2⟩:=info_parts h';exact ⟨h,i0,z,hi,hz0,hz1,hz2,hz,hp⟩
def Own {α:Type} (w:World) (base:Nat) (e:TypeId) (size:Nat) (f:α->List Value) (v:Value) (l:List α):Prop:=w.ownsRow base e size v l.length (l.flatMap f)
section
variable {α:Type} {w w':World} {base:Nat} {e:TypeId} {size:Nat} {f:α->List Value} {v:Value} {l:List α}
theorem Own.sl (h:Own w base e size f v l):Sl w v l.length (l.flatMap f):=Sl.aAs h
theorem Own.keep (h:Own w base e size f v l) (hb:Below w.heap.size w w'):Own w' base e size f v l:=own_below h hb
theorem Own.alloc (h:Own w base e size f v l) (o:Obj):Own (w.alloc o) base e size f v l:=World.ownsRow.alloc h o
theorem Own.lt (h:Own w base e size f v l):∀ k,v.ownBlock=some k->base<=k/\k<w.heap.size:=World.ownsRow.lt h
theorem Own.nil (w:World) (base:Nat) (e:TypeId) (size:Nat) (f:α->List Value):Own w base e size f (.slice none 0 0) []:=World.ownsRow_nil w base e size
theorem Own.far (h:Own w base e size f v l) {p:Addr} (hp:v.ownBlock≠some p.block) (u:Value):Own (w.setCell p u) base e size f v l:=by
 obtain ⟨h1,h2⟩:=h;refine ⟨h1,?_⟩;rcases h2 with h2 | ⟨g,cap,cur,hv,hg,hh,r⟩
 · exact .inl h2
 ·subst hv;refine .inr ⟨g,cap,cur,rfl,hg,(Below.heap_setCell w p u g (fun e=>hp (by rw [<- e];rfl))).trans hh,r⟩
theorem Own.Dz (h:Own w base e size f v l) {g:Nat} {t:TypeId} {cs:Array Value} (hg:AO w g t cs) (hne:e≠t):v.ownBlock≠some g:=anB h hg hne
theorem Own.ES (h:Own w base e size f v l) {b':Nat} (hb:b'<=base):Own w b' e size f v l:=by
 obtain ⟨h1,h2⟩:=h;refine ⟨h1,?_⟩;rcases h2 with h2 | ⟨g,cap,cur,hv,hg,r⟩
 · exact .inl h2
 · exact .inr ⟨g,cap,cur,hv,Nat.le_trans hb hg,r⟩
end
theorem Own.lit {α:Type} (w:World) (base:Nat) (e:TypeId) (size:Nat) (f:α->List Value) (l:List α) (cs:Array Value) (n:Nat) (g:Nat) (hg:g=w.heap.size) (hn:n=l.length) (hb:base<=w.heap.size) (hm:n<=maxLen) (hs:cs.size=n*size) (hx:cs.toList=l.flatMap f) :
  Own (w.alloc (.cells cs e)) base e size f (.slice (some ⟨g,0,none⟩) n n) l:=by
 subst hg;subst hn;have:=World.ownsRow_lit (base:=base) (e:=e) (size:=size) w cs l.length hb hm hs
 unfold Own;rw [<- hx];simpa [<- hs] using this
theorem JV {P:Program} {w:World} {o:Oper} {a:Act} {K:Act->World->Prop} {Q:Exit->Act->World->Prop} (s x:Operand) (t:TypeId)
  (ho:o.op=.call {callee:=.builtin .append,args:=#[s,x],argTypes:=#[t,t]})
  {α:Type} {f:α->List Value} {base:Nat} {e:TypeId} {size bytes:Nat} (hE:Elem P t e size bytes) (hf:∀ a,(f a).length=size) (hone:∀ a,∀ u∈f a,u.oneCell'=true)
  {v:Value} {l:List α} (hs:a.eval s=v) (hown:Own w base e size f v l)
  {src:Value} {l2:List α} (hx:a.eval x=src) (hr:Sl w src l2.length (l2.flatMap f))
  (hbytes:(l.length+l2.length)*bytes<=140737488355328) (h32:l.length+l2.length<=4294967296) (hbase:base<=w.heap.size)
  (h:∀ v' w',Own w' base e size f v' (l++l2)->w.grownBy w' v.ownBlock->(v'.ownBlock=v.ownBlock\/v'.ownBlock=some w.heap.size)->K (a.put o.dst v') w'):o.wp P a w K Q:=by
 obtain ⟨ht,i,z,hi,hz,hsize,hby,hzs,hsz⟩:=hE;refine agO w s x t ho base e i z size bytes ht hi hz hsize hby hzs hsz v l.length (l.flatMap f) hs hown src l2.length (l2.flatMap f) hx hr (flat_length f size hf l2)
  (fun u hu=>?_) (DN h32) hbytes hbase (fun v' w' h1 h2 h3=>h v' w' ?_ h2 h3)
 ·obtain ⟨a,_,hu⟩:=List.mem_flatMap.1 hu;exact hone a u hu
 ·unfold Own;rw [List.length_append,List.flatMap_append];exact h1
theorem FK {P:Program} (w:World) {ops:Array Oper} {rest:List Oper} {o:Oper} {a:Act} {Q:Exit->Act->World->Prop} (hgd:o.guard=none) (s x:Operand) (t:TypeId)
  (ho:o.op=.call {callee:=.builtin .append,args:=#[s,x],argTypes:=#[t,t]})
  {α:Type} {f:α->List Value} {base:Nat} {e:TypeId} {size bytes:Nat} (hE:Elem P t e size bytes) (hf:∀ a,(f a).length=size) (hone:∀ a,∀ u∈f a,u.oneCell'=true)
  {v:Value} {l:List α} (hs:a.eval s=v) (hown:Own w base e size f v l)
  {src:Value} {l2:List α} (hx:a.eval x=src) (hr:Sl w src l2.length (l2.flatMap f))
  (hbytes:(l.length+l2.length)*bytes<=140737488355328) (h32:l.length+l2.length<=4294967296) (hbase:base<=w.heap.size)
  (h:∀ v' w',Own w' base e size f v' (l++l2)->w.grownBy w' v.ownBlock->(v'.ownBlock=v.ownBlock\/v'.ownBlock=some w.heap.size)->wpList P ops Q rest (a.put o.dst v') w'):wpList P ops Q (o::rest) a w:=by
 obtain ⟨ht,i,z,hi,hz,hsize,hby,hzs,hsz⟩:=hE;refine agP w hgd s x t ho base e i z size bytes ht hi hz hsize hby hzs hsz v l.length (l.flatMap f) hs hown src l2.length (l2.flatMap f) hx hr (flat_length f size hf l2)
  (fun u hu=>?_) (DN h32) hbytes hbase (fun v' w' h1 h2 h3=>h v' w' ?_ h2 h3)
 ·obtain ⟨a,_,hu⟩:=List.mem_flatMap.1 hu;exact hone a u hu
 ·unfold Own;rw [List.length_append,List.flatMap_append];exact h1
theorem uN {α:Type} (l:List α) (q:α->Bool) (k:Nat) (hk:k<l.length) (h:∀ j (hj:j<l.length),j<k->q l[j]=false) (he:q l[k]=true):l.find? q=some l[k]:=by
 induction l generalizing k with
 | nil=>simp at hk
 | cons a l ih =>
  cases k with
  | zero=>simp only [List.getElem_cons_zero] at he ⊢;rw [List.find?_cons_of_pos he]
  | succ k =>
   have h0:=h 0 (by simp) (by omega);simp only [List.getElem_cons_zero] at h0;rw [List.find?_cons_of_neg (by simp [h0])];simp only [List.getElem_cons_succ] at he ⊢;exact ih k (by simpa using hk) (fun j hj hjk=>by have h1:=h (j+1) (by simpa using hj) (by omega);simpa only [List.getElem_cons_succ] using h1) he
theorem aAv {α:Type} (l:List α) (q:α->Bool) (h:∀ j (hj:j<l.length),q l[j]=false):l.find? q=none:=by
 rw [List.find?_eq_none];intro x hx;obtain ⟨i,hi,rfl⟩:=List.mem_iff_getElem.1 hx;simp [h i hi]
theorem L6:Elem Tryz.prog 46 39 2 16:=Elem.PU (z:=.agg #[.int .i64 0,.int .i64 0]) (by kernel_rfl) (by kernel_rfl) rfl (by omega)
theorem acH:Elem Tryz.prog 22 45 3 24:=Elem.PU (z:=.agg #[.int .i64 0,.int .i64 0,.int .i64 0]) (by kernel_rfl) (by kernel_rfl) rfl (by omega)
theorem aAX:Elem Tryz.prog 23 50 6 64:=Elem.PU (z:=.agg #[.int .i64 0,.int .i64 0,.int .i64 0,.slice none 0 0,.int .i64 0,.int .i64 0]) (by kernel_rfl) (by kernel_rfl) rfl (by omega)
theorem JW:Elem Tryz.prog 24 3 1 8:=Elem.PU (z:=.int .i64 0) (by kernel_rfl) (by kernel_rfl) rfl (by omega)
theorem KJ (p:Pt):(Ee p).length=2:=rfl
theorem aAY (p:Nd):(QY p).length=3:=rfl
theorem anD (p:Ar×Value):(iy p).length=6:=rfl
theorem Iz (p:Int):(DR p).length=1:=rfl
theorem L8 (p:Pt):∀ u∈Ee p,u.oneCell'=true:=by simp [Ee,Value.oneCell']
theorem acI (p:Nd):∀ u∈QY p,u.oneCell'=true:=by simp [QY,Value.oneCell']
theorem JR (p:Int):∀ u∈DR p,u.oneCell'=true:=by simp [DR,Value.oneCell']
theorem AO.aAZ {w:World} {g:Nat} {t:TypeId} {v0 x0:Value} (h:AO w g t #[v0]):AO (w.setCell ⟨g,0,none⟩ x0) g t #[x0]:=by
 have:=(AO.EI h 0 x0)
 simpa using this
theorem AO.QF {w:World} {g:Nat} {t:TypeId} {v0 v1 x0 x1:Value} (h:AO w g t #[v0,v1]):AO ((w.setCell ⟨g,0,none⟩ x0).setCell ⟨g,1,none⟩ x1) g t #[x0,x1]:=by
 have:=(AO.EI (AO.EI h 0 x0) 1 x1)
 simpa using this
theorem AO.VY {w:World} {g:Nat} {t:TypeId} {v0 v1 v2 x0 x1 x2:Value} (h:AO w g t #[v0,v1,v2]):AO (((w.setCell ⟨g,0,none⟩ x0).setCell ⟨g,1,none⟩ x1).setCell ⟨g,2,none⟩ x2) g t #[x0,x1,x2]:=by
 have:=(AO.EI (AO.EI (AO.EI h 0 x0) 1 x1) 2 x2)
 simpa using this
theorem AO.jA {w:World} {g:Nat} {t:TypeId} {v0 v1 v2 v3 x0 x1 x2 x3:Value} (h:AO w g t #[v0,v1,v2,v3]):AO ((((w.setCell ⟨g,0,none⟩ x0).setCell ⟨g,1,none⟩ x1).setCell ⟨g,2,none⟩ x2).setCell ⟨g,3,none⟩ x3) g t #[x0,x1,x2,x3]:=by
 have:=(AO.EI (AO.EI (AO.EI (AO.EI h 0 x0) 1 x1) 2 x2) 3 x3)
 simpa using this
theorem AO.UR {w:World} {g:Nat} {t:TypeId} {v0 v1 v2 v3 v4 v5 x0 x1 x2 x3 x4 x5:Value} (h:AO w g t #[v0,v1,v2,v3,v4,v5]):AO ((((((w.setCell ⟨g,0,none⟩ x0).setCell ⟨g,1,none⟩ x1).setCell ⟨g,2,none⟩ x2).setCell ⟨g,3,none⟩ x3).setCell ⟨g,4,none⟩ x4).setCell ⟨g,5,none⟩ x5) g t #[x0,x1,x2,x3,x4,x5]:=by
 have:=(AO.EI (AO.EI (AO.EI (AO.EI (AO.EI (AO.EI h 0 x0) 1 x1) 2 x2) 3 x3) 4 x4) 5 x5)
 simpa using this
def StructOf (P:Program) (ty:TypeId) (n:Nat):Prop :=
 ∃ fs,P.underlying ty=some (.struct fs)/\(P.info? ty).map (·.size)=some n
theorem StructOf.PU {P:Program} {ty:TypeId} {n:Nat} {fs:Array Field} (h:P.underlying ty=some (.struct fs)) (h':(P.info? ty).map (·.size)=some n):StructOf P ty n:=⟨_,h,h'⟩
theorem L9 {P:Program} {fn:Func} {p u:Tmp} {ty t:TypeId} {R:Ending->World->Prop} {a:Act} {w:World} {g:Nat} {cs:Array Value} (h:fn.results=#[.cell p ty,.tmp u])
  (hS:StructOf P ty cs.size) (hp:a.tmps.getD p undef=.pointer (some ⟨g,0,none⟩)) (hd:a.defers=[]) (hb:AO w g t cs) (hR:R (.returned (.tuple #[.agg cs,a.tmps.getD u undef])) w):bodyPost P fn R .ret a w:=by
 obtain ⟨fs,h1,h3⟩:=hS;refine bodyPost_ret ?_ hd hR;rw [results_cell_tmp h,hp];have:=run_loadVar_row (P:=P) w g t ty cs (0,0) (.struct fs) hb h1 rfl h3
 simp [asAddr,Sem.run_pure,Result.andThen,this]
theorem iL {P:Program} {fn:Func} {p:Tmp} {ty t:TypeId} {R:Ending->World->Prop} {a:Act} {w:World} {g:Nat} {cs:Array Value} (h:fn.results=#[.cell p ty])
  (hS:StructOf P ty cs.size) (hp:a.tmps.getD p undef=.pointer (some ⟨g,0,none⟩)) (hd:a.defers=[]) (hb:AO w g t cs) (hR:R (.returned (.agg cs)) w):bodyPost P fn R .ret a w:=by
 obtain ⟨fs,h1,h3⟩:=hS;refine bodyPost_ret ?_ hd hR;have:=run_loadVar_row (P:=P) w g t ty cs (0,0) (.struct fs) hb h1 rfl h3
 have hp':a.tmps[p]?.getD undef=.pointer (some ⟨g,0,none⟩):=by simpa using hp
 simp only [results,h];simp [hp',asAddr,Sem.run_bind,Sem.run_pure,Result.andThen,this]
theorem Xv:StructOf Tryz.prog 39 2:=.PU Tryz.underlying39 (by kernel_rfl)
theorem aAa:StructOf Tryz.prog 45 3:=.PU Tryz.underlying45 (by kernel_rfl)
theorem UU:StructOf Tryz.prog 50 6:=.PU Tryz.underlying50 (by kernel_rfl)
theorem aC:StructOf Tryz.prog 26 3:=.PU Tryz.underlying26 (by kernel_rfl)
theorem anE:StructOf Tryz.prog 73 4:=.PU Tryz.underlying73 (by kernel_rfl)
def Boxed (w:World) (g:Nat) (p:Pt):Prop:=AO w g 39 #[.int .i64 p.x,.int .i64 p.y]
theorem Boxed.facts {w:World} {g:Nat} {p:Pt} (h:Boxed w g p):g<w.heap.size/\w.cell? ⟨g,0,none⟩=some (.int .i64 p.x)/\w.cell? ⟨g,1,none⟩=some (.int .i64 p.y)/\w.frozen? ⟨g,0,none⟩=false/\w.frozen? ⟨g,1,none⟩=false :=
 ⟨h.lt,h.cell 0,h.cell 1,h.frozen 0,h.frozen 1⟩
theorem Boxed.keep {w w':World} {g:Nat} {p:Pt} (h:Boxed w g p) (hb:Below w.heap.size w w'):Boxed w' g p:=AO.keep h hb
theorem Boxed.EI {w:World} {g:Nat} {p q:Pt} (h:Boxed w g p):Boxed ((w.setCell ⟨g,0,none⟩ (.int .i64 q.x)).setCell ⟨g,1,none⟩ (.int .i64 q.y)) g q:=by
 have:=(AO.EI h 0 (.int .i64 q.x)).EI 1 (.int .i64 q.y)
 unfold Boxed;simpa using this
theorem Boxed.far {w:World} {g:Nat} {p:Pt} (h:Boxed w g p) {q:Addr} (hq:g≠q.block) (u:Value):Boxed (w.setCell q u) g p:=AO.far h hq u
theorem Boxed.new (w:World) (p:Pt) {g:Nat} (h:g=w.heap.size):Boxed (w.alloc (.cells #[.int .i64 p.x,.int .i64 p.y] 39)) g p:=AO.made h _ _
theorem Boxed.alloc {w:World} {g:Nat} {p:Pt} (h:Boxed w g p) (o:Obj):Boxed (w.alloc o) g p:=AO.alloc h o
theorem Boxed.drew {w:World} {g:Nat} {p:Pt} (h:Boxed w g p):Boxed w.drew g p:=h
def CP (a b:Pt):Bool:=decide (a.x<b.x) || (decide (a.x=b.x) && decide (a.y<b.y))
theorem UF (a b:Pt) (W:World):(binOp .eql 39 (.agg #[.int .i64 a.x,.int .i64 a.y]) (.agg #[.int .i64 b.x,.int .i64 b.y])).run Tryz.prog W=.ok (.bool (decide (a=b))) W:=by
 by_cases h:a=b
 ·subst h;go_simp
 ·have h':¬ (a.x=b.x/\a.y=b.y):=fun e=>h (Pt.ext_iff'.2 e);by_cases hx:(a.x == b.x)=true
  ·have hy:(a.y == b.y)=false:=by
    have:a.x=b.x:=by simpa using hx
    simpa [this] using h'
   go_simp
  ·have hx':(a.x == b.x)=false:=by simpa using hx
   clear hx;go_simp
theorem aAb (a b:Pt) (W:World):(binOp .neq 39 (.agg #[.int .i64 a.x,.int .i64 a.y]) (.agg #[.int .i64 b.x,.int .i64 b.y])).run Tryz.prog W=.ok (.bool (!decide (a=b))) W:=by
 by_cases h:a=b
 ·subst h;go_simp
 ·have h':¬ (a.x=b.x/\a.y=b.y):=fun e=>h (Pt.ext_iff'.2 e);by_cases hx:(a.x == b.x)=true
  ·have hy:(a.y == b.y)=false:=by
    have:a.x=b.x:=by simpa using hx
    simpa [this] using h'
   go_simp
  ·have hx':(a.x == b.x)=false:=by simpa using hx
   clear hx;go_simp
theorem Nd.ext_iff' {a b:Nd}:a=b↔a.id=b.id/\a.pt.x=b.pt.x/\a.pt.y=b.pt.y:=by
 rcases a with ⟨i,⟨x,y⟩⟩;rcases b with ⟨i',⟨x',y'⟩⟩;simp
theorem anF (a b:Nd) (W:World):(binOp .neq 45 (.agg #[.int .i64 a.id,.int .i64 a.pt.x,.int .i64 a.pt.y]) (.agg #[.int .i64 b.id,.int .i64 b.pt.x,.int .i64 b.pt.y])).run Tryz.prog W=.ok (.bool (!decide (a=b))) W:=by
 by_cases h:a=b
 ·subst h;go_simp
 ·have h':¬ (a.id=b.id/\a.pt.x=b.pt.x/\a.pt.y=b.pt.y):=fun e=>h (Nd.ext_iff'.2 e);by_cases hi:(a.id == b.id)=true
  ·have hi':a.id=b.id:=by simpa using hi
   by_cases hx:(a.pt.x == b.pt.x)=true
   ·have hx':a.pt.x=b.pt.x:=by simpa using hx
    have hy:(a.pt.y == b.pt.y)=false:=by simpa [hi',hx'] using h'
    clear hi' hx';go_simp
   ·have hx':(a.pt.x == b.pt.x)=false:=by simpa using hx
    clear hx hi';go_simp
  ·have hi':(a.id == b.id)=false:=by simpa using hi
   clear hi;go_simp
section
variable {P:Program} {ops:Array Oper} {Q:Exit->Act->World->Prop} {w0:World}
def Since (w0:World):World->Prop:=fun w=>Below w0.heap.size w0 w
end
section
variable {P:Program} {ops:Array Oper} {Q:Exit->Act->World->Prop} {w0 w1 w2:World} {row:Option Nat}
def JU (w0:World) (row:Option Nat):World->Prop:=fun w=>w0.grownBy w row
theorem gR (w:World) (row:Option Nat):w.grownBy w row:=World.grownBy.refl w row
theorem gT (h:w0.grownBy w1 row) (k:w1.grownBy w2 row):w0.grownBy w2 row :=
 ⟨k.os.trans h.os,k.tape.trans h.tape,k.output.trans h.output,Nat.le_trans h.size k.size,fun i hi hr=>(k.block i (Nat.lt_of_lt_of_le hi h.size) hr).trans (h.block i hi hr)⟩
theorem gB (h:w0.grownBy w1 row) (k:Below w1.heap.size w1 w2):w0.grownBy w2 row :=
 gT h ⟨k.os,k.tape,k.output,k.size,fun i hi _=>k.block i hi⟩
theorem gA (h:w0.grownBy w1 row) (o:Obj):w0.grownBy (w1.alloc o) row:=gB h (bA (bR w1) o)
theorem gD (h:w0.grownBy w1 row):w0.grownBy w1.drew row:=gB h (bD (bR w1))
theorem gOf (h:Below w0.heap.size w0 w1):w0.grownBy w1 row:=gB (gR w0 row) h
theorem acJ {wq:World} (hq:w0.grownBy wq row):(∀ b o,b<w0.heap.size->some b≠row->wq.cell? ⟨b,o,none⟩=w0.cell? ⟨b,o,none⟩)/\(∀ b o,b<w0.heap.size->some b≠row->wq.frozen? ⟨b,o,none⟩=w0.frozen? ⟨b,o,none⟩):=by
 refine ⟨fun b o h hr=>?_,fun b o h hr=>?_⟩
 ·have:=hq.block b h hr
  simp only [World.cell?,this]
 ·have:=hq.block b h hr
  simp only [World.frozen?,this]
theorem agQ {W:World} {B:Nat} (h:Below B W w0) (hB:B<=w0.heap.size) (g:w0.grownBy w1 row) (hr:∀ k,row=some k->B<=k):Below B W w1:=h.grown g hB hr
theorem AO.grow {g:Nat} {t:TypeId} {cs:Array Value} (h:AO w0 g t cs) (hb:w0.grownBy w1 row) (hg:some g≠row):AO w1 g t cs:=(hb.block g h.lt hg).trans h
end
inductive IE where
 | done
 | take (i m:Nat) (r:IE)
 | call (i m:Nat) (r:IE)
 | two (i m:Nat) (r:IE) (j m':Nat) (s:IE)
def IE.run:Nat->Nat->Nat->IE->IE
 | 0,_,_,r=>r
 | n+1,i,m,r=>.take i (m ||| (1 <<< i)) (IE.run n (i+1) (m ||| (1 <<< i)) r)
def IE.depth:IE->Nat
 | .done=>0
 | .take _ _ r=>r.depth+1
 | .call _ _ r=>r.depth+1
 | .two _ _ r _ _ s=>Nat.max r.depth s.depth+1
def Yp (ops:Array Oper):IE->Array Bool->Prop
 | .done,l=>Region.ready .any ops l=[]
 | .take i _ r,l=>Region.free .any ops l i=true/\(Region.ready .any ops l).contains i=true/\Yp ops r (l.setIfInBounds i true)
 | .call i _ r,l=>Region.ready .any ops l=[i]/\Yp ops r (l.setIfInBounds i true)
 | .two i _ r j _ s,l=>Region.ready .any ops l=[i,j]/\Yp ops r (l.setIfInBounds i true)/\Yp ops s (l.setIfInBounds j true)
def aAc (m i:Nat):Bool:=m.testBit i
def uO (ops:Array Oper) (m i:Nat):Bool:=!aAc m i && match ops[i]? with
 | some o=>o.after.all fun e=>!Region.binds .any e || aAc m e.on
 | none=>false
def mW (ops:Array Oper) (m:Nat):List Nat:=(List.range ops.size).filter (uO ops m)
def acK (ops:Array Oper) (m i:Nat):Bool:=match ops[i]? with
 | none=>false
 | some oi=>(List.range ops.size).all fun j=>Nat.beq j i || aAc m j || match ops[j]? with
   | some oj=>oj.after.any (fun e=>Region.binds .any e && Nat.beq e.on i) || oi.apart ops oj
   | none=>true
def UG (ops:Array Oper):IE->Nat->Bool
 | .done,m=>(mW ops m).isEmpty
 | .take i m' r,m=>Nat.beq m' (m ||| (1 <<< i)) && (acK ops m i && (uO ops m i && UG ops r m'))
 | .call i m' r,m=>Nat.beq m' (m ||| (1 <<< i)) && (decide (mW ops m=[i]) && UG ops r m')
 | .two i m' r j m'' s,m=>Nat.beq m' (m ||| (1 <<< i)) && (Nat.beq m'' (m ||| (1 <<< j)) && (decide (mW ops m=[i,j]) && (UG ops r m' && UG ops s m'')))
def QG (n m:Nat):Array Bool:=Array.ofFn (n:=n) fun i=>m.testBit i
theorem aAd (n m i:Nat) (h:i<n) (d:Bool):(QG n m).getD i d=m.testBit i:=by simp [QG,h]
theorem anG (n m i:Nat) (h:¬ i<n):(QG n m).getD i false=false:=by simp [QG,h]
theorem aAe (n m i:Nat) (hi:i<n):(QG n m).setIfInBounds i true=QG n (m ||| (1 <<< i)):=by
 apply Array.ext
 · simp [QG]
 ·intro j h1 h2;have hj:j<n:=by simpa [QG] using h2
  simp only [QG,Array.getElem_setIfInBounds,Array.getElem_ofFn,Nat.testBit_or,Nat.one_shiftLeft,Nat.testBit_two_pow];by_cases e:i=j
  · subst e;simp
  ·have h3:j<(Array.ofFn (n:=n) fun i=>m.testBit i).size:=by simpa using hj
   have h4:((Array.ofFn (n:=n) fun i=>m.testBit i).setIfInBounds i true)[j]'(by simpa using hj)=(Array.ofFn (n:=n) fun i=>m.testBit i)[j]:=Array.getElem_setIfInBounds_ne h3 e;rw [h4,Array.getElem_ofFn];simp [e]
theorem anH (n:Nat):QG n 0=Array.replicate n false:=by
 apply Array.ext
 · simp [QG]
 · intro j h1 h2;simp [QG]
theorem aAf (ops:Array Oper) (m:Nat) (hm:m<2 ^ ops.size):Region.ready .any ops (QG ops.size m)=mW ops m:=by
 unfold Region.ready mW;apply List.filter_congr;intro i hi;have hi:=List.mem_range.1 hi;rw [aAd _ _ _ hi];unfold uO aAc
 cases h:ops[i]? with
 | none=>simp
 | some o =>
  simp only [Option.map_some,Option.getD_some];congr 1;have:∀ e:Edge,(!Region.binds .any e || (QG ops.size m).getD e.on false)=(!Region.binds .any e || m.testBit e.on):=fun e=>by
   by_cases he:e.on<ops.size
   · rw [aAd _ _ _ he]
   · rw [anG _ _ _ he,Nat.testBit_lt_two_pow (Nat.lt_of_lt_of_le hm (Nat.pow_le_pow_right (by omega) (by omega)))]
  simp only [this]
theorem afy (a b:Nat):Nat.beq a b=(a == b):=by rw [Bool.eq_iff_iff];simp [Nat.beq_eq]
theorem anI (ops:Array Oper) (m i:Nat):Region.free .any ops (QG ops.size m) i=acK ops m i:=by
 unfold Region.free acK
 cases ops[i]? with
 | none=>rfl
 | some oi =>
  simp only [];rw [Bool.eq_iff_iff,List.all_eq_true,List.all_eq_true];constructor
  ·intro h j hj;have:=h j hj
   rw [aAd _ _ _ (List.mem_range.1 hj)] at this;simp only [afy];exact this
  ·intro h j hj;rw [aAd _ _ _ (List.mem_range.1 hj)];have:=h j hj
   simp only [afy] at this;exact this
theorem aAg {n m i:Nat} (hm:m<2 ^ n) (hi:i<n):m ||| (1 <<< i)<2 ^ n:=by
 apply Nat.or_lt_two_pow hm;rw [Nat.shiftLeft_eq,Nat.one_mul];exact Nat.pow_lt_pow_right (by omega) hi
theorem anJ {ops:Array Oper} {m i:Nat} (h:uO ops m i=true):i<ops.size:=by
 unfold uO at h
 cases ho:ops[i]? with
 | none=>simp [ho] at h
 | some o=>exact (Array.getElem?_eq_some_iff.1 ho).1
theorem acL {ops:Array Oper} {m i:Nat} (h:i∈mW ops m):i<ops.size:=List.mem_range.1 (List.mem_filter.1 h).1
theorem uP (ops:Array Oper):∀ (p:IE) (m:Nat),m<2 ^ ops.size->UG ops p m=true->Yp ops p (QG ops.size m)
 | .done,m,hm,h=>by
  simp only [UG,List.isEmpty_iff] at h
  show Region.ready .any ops _=[]
  rw [aAf _ _ hm,h]
 | .take i m' r,m,hm,h=>by
  simp only [UG,Bool.and_eq_true,Nat.beq_eq] at h;obtain ⟨h1,h2,h3,h4⟩:=h;have hi:=anJ h3;refine ⟨by rw [anI];exact h2,?_,?_⟩
  ·rw [aAf _ _ hm,List.contains_iff_mem];exact List.mem_filter.2 ⟨List.mem_range.2 hi,h3⟩
  ·rw [aAe _ _ _ hi,<- h1];exact uP ops r m' (by rw [h1];exact aAg hm hi) h4
 | .call i m' r,m,hm,h=>by
  simp only [UG,Bool.and_eq_true,Nat.beq_eq,decide_eq_true_eq] at h;obtain ⟨h1,h2,h3⟩:=h;have hi:i<ops.size:=acL (m:=m) (by rw [h2];simp);refine ⟨by rw [aAf _ _ hm,h2],?_⟩;rw [aAe _ _ _ hi,<- h1];exact uP ops r m' (by rw [h1];exact aAg hm hi) h3
 | .two i m' r j m'' s,m,hm,h=>by
  simp only [UG,Bool.and_eq_true,Nat.beq_eq,decide_eq_true_eq] at h;obtain ⟨h1,h2,h3,h4,h5⟩:=h;have hi:i<ops.size:=acL (m:=m) (by rw [h3];simp);have hj:j<ops.size:=acL (m:=m) (by rw [h3];simp);refine ⟨by rw [aAf _ _ hm,h3],?_,?_⟩
  ·rw [aAe _ _ _ hi,<- h1];exact uP ops r m' (by rw [h1];exact aAg hm hi) h4
  ·rw [aAe _ _ _ hj,<- h2];exact uP ops s m'' (by rw [h2];exact aAg hm hj) h5
section
variable {P:Program} {ops:Array Oper} {Q:Exit->Act->World->Prop} {S:World->Prop}
def Gj (P:Program) (ops:Array Oper) (Q:Exit->Act->World->Prop) (S:World->Prop) (p:IE) (a:Act) (w:World):Prop :=
 ∀ (l:Array Bool) (f:Nat),Region.noSelect ops=true->Yp ops p l->p.depth<=f->wpAnyH P .any ops Q S f l a w
theorem aAh {id:Nat} {a:Act} {w:World} (S:World->Prop) (p:IE) (hm:P.follows .mixedOrders=true) (hS:S w.drew)
  (hsel:Region.noSelect ops=true) (hp:UG ops p 0=true) (hd:p.depth<=ops.size)
  (h:∀ ops' Q',PLift (ops'=ops)->PLift (∀ a w,Q .normal a w->Q' .normal a w)->S w.drew->Gj P ops' (NoPanic Q') S p a w.drew):(Code.region id ops true).wp P Q a w :=
 wp_region_noPanic (wp_region_held_drew hm hS fun hS=>h ops Q ⟨rfl⟩ ⟨fun _ _ h=>h⟩ hS _ _ hsel (by have:=uP ops p 0 (Nat.pow_pos (by omega)) hp;rwa [anH] at this) hd)
theorem Ew {ops':Array Oper} {l:List Oper} (h:PLift (ops'=l.toArray)) {i:Nat} {o:Oper} (hi:l[i]? = some o):ops'[i]? = some o:=by rw [h.down];simpa using hi
theorem acM {i m:Nat} {oi:Oper} {r:IE} {a:Act} {w:World} (hi:ops[i]? = some oi) (hS:S w)
  (h:∃ v:Value,YieldsIf P ops S oi v a/\Gj P ops (NoPanic Q) S r (a.put oi.dst v) w):Gj P ops (NoPanic Q) S (.take i m r) a w:=by
 obtain ⟨v,hy,h⟩:=h;intro l f hsel hp hd;simp only [Yp] at hp
 cases f with
 | zero=>simp [IE.depth] at hd
 | succ f=>exact wpAnyH_take hi hsel hp.1 hp.2.1 (fun _ _ _ h=>h) hy hS (h _ _ hsel hp.2.2 (by simpa [IE.depth] using hd))
theorem UW {i m:Nat} {oi:Oper} {r:IE} {a:Act} {w:World} (hi:ops[i]? = some oi)
  (h:∀ K':Act->World->Prop,Shut (∀ a w,S w->(S w->Gj P ops (NoPanic Q) S r a w)->K' a w)->if Region.wanted oi (yielded ops a.tmps)=true then Oper.wp P oi a w K' (NoPanic Q) else K' (a.put oi.dst undef) w) :
  Gj P ops (NoPanic Q) S (.call i m r) a w:=by
 intro l f hsel hp hd;simp only [Yp] at hp
 cases f with
 | zero=>simp [IE.depth] at hd
 | succ f=>exact wpAnyH_ready hp.1 (by simp) (AllReadyH.cons hi (fun K' hK=>h K' (fun a w hS hW=>hK.out a w hS fun hS=>hW hS _ _ hsel hp.2 (by simpa [IE.depth] using hd))) AllReadyH.nil)
theorem PD {i j m m':Nat} {oi oj:Oper} {r s:IE} {a:Act} {w:World} (hi:ops[i]? = some oi) (hj:ops[j]? = some oj)
  (h:∀ K':Act->World->Prop,Shut (∀ a w,S w->(S w->Gj P ops (NoPanic Q) S r a w)->K' a w)->if Region.wanted oi (yielded ops a.tmps)=true then Oper.wp P oi a w K' (NoPanic Q) else K' (a.put oi.dst undef) w)
  (h':∀ K':Act->World->Prop,Shut (∀ a w,S w->(S w->Gj P ops (NoPanic Q) S s a w)->K' a w)->if Region.wanted oj (yielded ops a.tmps)=true then Oper.wp P oj a w K' (NoPanic Q) else K' (a.put oj.dst undef) w) :
  Gj P ops (NoPanic Q) S (.two i m r j m' s) a w:=by
 intro l f hsel hp hd;simp only [Yp] at hp
 cases f with
 | zero=>simp [IE.depth] at hd
 | succ f =>
  simp only [IE.depth,Nat.add_le_add_iff_right,Nat.max_le] at hd;exact wpAnyH_ready hp.1 (by simp) (AllReadyH.cons hi (fun K' hK=>h K' (fun a w hS hW=>hK.out a w hS fun hS=>hW hS _ _ hsel hp.2.1 hd.1))
   (AllReadyH.cons hj (fun K' hK=>h' K' (fun a w hS hW=>hK.out a w hS fun hS=>hW hS _ _ hsel hp.2.2 hd.2)) AllReadyH.nil))
theorem mX {a:Act} {w:World} (h:Q .normal a w):Gj P ops (NoPanic Q) S .done a w:=by
 intro l f _ hp _;exact wpAnyH_done hp (NoPanic.normal h) f
theorem FV {o:Oper} {f:Nat->Option Bool} (h:o.guard=none):Region.wanted o f=true:=by unfold Region.wanted;rw [h]
theorem acN {o og:Oper} {tmps:Array Value} {g d:Nat} {b:Bool} (h:o.guard=some (g,b)) (hg:ops[g]? = some og) (hd:og.dst=some d) (hv:tmps[d]? = some (.bool b)):Region.wanted o (yielded ops tmps)=true:=by
 unfold Region.wanted yielded;rw [h];simp only [hg,Option.bind_some,hd,hv];simp
theorem az9 {o og:Oper} {tmps:Array Value} {g d:Nat} {b:Bool} (h:o.guard=some (g,b)) (hg:ops[g]? = some og) (hd:og.dst=some d) {v:Value} (hv:tmps[d]? = some v) (hb:(match v with | .bool x=>x != b | _=>true)=true):Region.wanted o (yielded ops tmps)=false:=by
 unfold Region.wanted yielded;rw [h];simp only [hg,Option.bind_some,hd,hv]
 cases v<;>simp_all
def aAi (v:Value) (b:Bool):Bool:=match v with | .bool x=>x != b | _=>true
theorem anK {o og:Oper} {tmps:Array Value} {g d:Nat} {b:Bool} {v:Value} (h:o.guard=some (g,b)) (hg:ops[g]? = some og) (hd:og.dst=some d) (hv:tmps[d]? = some v) (hb:aAi v b=true):Region.wanted o (yielded ops tmps)=false:=by
 unfold Region.wanted yielded;rw [h];simp only [hg,Option.bind_some,hd,hv]
 cases v<;>simp_all [aAi]
theorem uQ {l:List Oper} {i m:Nat} {oi:Oper} {r:IE} {a:Act} {w:World} {v:Value} (H:PLift (ops=l.toArray)) (hi:l[i]? = some oi) (hS:S w) (hg:oi.guard=none)
  (hy:∀ wq,S wq->(execOp a.eval oi).run P wq=.ok (.value v) wq) (h:Gj P ops (NoPanic Q) S r (a.put oi.dst v) w):Gj P ops (NoPanic Q) S (.take i m r) a w :=
 acM (Ew H hi) hS ⟨v,.inl ⟨FV hg,hy⟩,h⟩
theorem afz {l:List Oper} {i m g d:Nat} {b:Bool} {oi og:Oper} {r:IE} {a:Act} {w:World} {v:Value} (H:PLift (ops=l.toArray)) (hi:l[i]? = some oi) (hS:S w) (hg:oi.guard=some (g,b)) (ho:l[g]? = some og) (hd:og.dst=some d) (hv:a.tmps[d]? = some (.bool b))
  (hy:∀ wq,S wq->(execOp a.eval oi).run P wq=.ok (.value v) wq) (h:Gj P ops (NoPanic Q) S r (a.put oi.dst v) w):Gj P ops (NoPanic Q) S (.take i m r) a w :=
 acM (Ew H hi) hS ⟨v,.inl ⟨acN hg (Ew H ho) hd hv,hy⟩,h⟩
theorem anL {l:List Oper} {i m g d:Nat} {b:Bool} {oi og:Oper} {r:IE} {a:Act} {w:World} {v:Value} (H:PLift (ops=l.toArray)) (hi:l[i]? = some oi) (hS:S w) (hg:oi.guard=some (g,b)) (ho:l[g]? = some og) (hd:og.dst=some d) (hv:a.tmps[d]? = some v) (hb:aAi v b=true)
  (h:Gj P ops (NoPanic Q) S r (a.put oi.dst undef) w):Gj P ops (NoPanic Q) S (.take i m r) a w :=
 acM (Ew H hi) hS ⟨undef,.inr ⟨anK hg (Ew H ho) hd hv hb,rfl⟩,h⟩
theorem pu1 {α:Type} (l:List α) (i:Nat) (x:α):l.toArray.setIfInBounds i x=(l.set i x).toArray:=by simp
theorem pu2 {α:Type} (l:List α) (y x:α):(y::l).set 0 x=x::l:=rfl
theorem pu3 {α:Type} (l:List α) (y x:α) (n:Nat):(y::l).set (n+1) x=y::l.set n x:=rfl
theorem pu:(∀ (a:Act) (t:Tmp) (v:Value),a.put (some t) v = {a with tmps:=a.tmps.setIfInBounds t v})/\(∀ (a:Act) (v:Value),a.put none v=a)/\(∀ (l:List Value) (i:Nat) (x:Value),l.toArray.setIfInBounds i x=(l.set i x).toArray)/\(∀ (l:List Value) (y x:Value),(y::l).set 0 x=x::l)/\(∀ (l:List Value) (y x:Value) (n:Nat),(y::l).set (n+1) x=y::l.set n x) :=
 ⟨fun _ _ _=>rfl,fun _ _=>rfl,pu1,pu2,pu3⟩
theorem azA {l:List Oper} {i m:Nat} {oi:Oper} {r:IE} {a:Act} {w W:World} {v:Value} (H:PLift (ops=l.toArray)) (hi:l[i]? = some oi) (hS:Since W w) (hg:oi.guard=none)
  (hy:∀ wq:World,(∀ b o,b<W.heap.size->wq.cell? ⟨b,o,none⟩=W.cell? ⟨b,o,none⟩)->(execOp a.eval oi).run P wq=.ok (.value v) wq) (h:Gj P ops (NoPanic Q) (Since W) r (a.put oi.dst v) w):Gj P ops (NoPanic Q) (Since W) (.take i m r) a w :=
 uQ H hi hS hg (fun wq hq=>hy wq (VX hq).1) h
theorem azB {l:List Oper} {i m g d:Nat} {b:Bool} {oi og:Oper} {r:IE} {a:Act} {w W:World} {v:Value} (H:PLift (ops=l.toArray)) (hi:l[i]? = some oi) (hS:Since W w) (hg:oi.guard=some (g,b)) (ho:l[g]? = some og) (hd:og.dst=some d) (hv:a.tmps[d]? = some (.bool b))
  (hy:∀ wq:World,(∀ b o,b<W.heap.size->wq.cell? ⟨b,o,none⟩=W.cell? ⟨b,o,none⟩)->(execOp a.eval oi).run P wq=.ok (.value v) wq) (h:Gj P ops (NoPanic Q) (Since W) r (a.put oi.dst v) w):Gj P ops (NoPanic Q) (Since W) (.take i m r) a w :=
 afz H hi hS hg ho hd hv (fun wq hq=>hy wq (VX hq).1) h
theorem azC {l:List Oper} {i m:Nat} {oi:Oper} {r:IE} {a:Act} {w W:World} {row:Option Nat} {v:Value} (H:PLift (ops=l.toArray)) (hi:l[i]? = some oi) (hS:JU W row w) (hg:oi.guard=none)
  (hy:∀ wq:World,(∀ b o,b<W.heap.size->some b≠row->wq.cell? ⟨b,o,none⟩=W.cell? ⟨b,o,none⟩)->(execOp a.eval oi).run P wq=.ok (.value v) wq) (h:Gj P ops (NoPanic Q) (JU W row) r (a.put oi.dst v) w):Gj P ops (NoPanic Q) (JU W row) (.take i m r) a w :=
 uQ H hi hS hg (fun wq hq=>hy wq (acJ hq).1) h
theorem FY {C:Prop} [Decidable C] {A B:Prop} (hc:C) (h:A):if C then A else B:=by rw [if_pos hc];exact h
end
def GK (B:Nat) (w0:World):World->Prop:=fun w=>Below B w0 w
theorem aAj {B:Nat} {W w1:World} (hb:Below B W w1):(∀ b o,b<B->w1.cell? ⟨b,o,none⟩=W.cell? ⟨b,o,none⟩)/\(∀ b o,b<B->w1.frozen? ⟨b,o,none⟩=W.frozen? ⟨b,o,none⟩) :=
 ⟨fun b o h=>hb.cell (p:=⟨b,o,none⟩) h,fun b o h=>hb.frozen (p:=⟨b,o,none⟩) h⟩
def NY (w w':World):Prop:=Below w.heap.size w w'/\w.drawn<=w'.drawn
theorem dR (w:World):w.drawn<=w.drawn:=Nat.le_refl _
section
variable {n:Nat} {w w':World}
theorem dA (h:n<=w.drawn) (o:Obj):n<=(w.alloc o).drawn:=h
theorem dD (h:n<=w.drawn):n<=w.drew.drawn:=Nat.le_succ_of_le h
theorem dT (h:n<=w.drawn) (k:w.drawn<=w'.drawn):n<=w'.drawn:=Nat.le_trans h k
end
theorem anM {P:Program} {fn:Func} {p q:Tmp} {ty ty':TypeId} {R:Ending->World->Prop} {a:Act} {w:World} {g g':Nat} {cs cs':Array Value} (h:fn.results=#[.cell p ty,.cell q ty'])
  (hS:StructOf P ty cs.size) (hS':StructOf P ty' cs'.size) (hp:a.tmps.getD p undef=.pointer (some ⟨g,0,none⟩)) (hq:a.tmps.getD q undef=.pointer (some ⟨g',0,none⟩)) (hd:a.defers=[]) (hb:AO w g ty cs) (hb':AO w g' ty' cs') (hR:R (.returned (.tuple #[.agg cs,.agg cs'])) w):bodyPost P fn R .ret a w:=by
 obtain ⟨fs,h1,h3⟩:=hS;obtain ⟨fs',h1',h3'⟩:=hS';refine bodyPost_ret ?_ hd hR;have e1:=run_loadVar_row (P:=P) w g ty ty cs (0,0) (.struct fs) hb h1 rfl h3;have e2:=run_loadVar_row (P:=P) w g' ty' ty' cs' (0,0) (.struct fs') hb' h1' rfl h3';have hp':a.tmps[p]?.getD undef=.pointer (some ⟨g,0,none⟩):=by simpa using hp
 have hq':a.tmps[q]?.getD undef=.pointer (some ⟨g',0,none⟩):=by simpa using hq
 simp only [results,h];simp [hp',hq',asAddr,Sem.run_bind,Sem.run_pure,Result.andThen,e1,e2]
section
variable {P:Program} {ops:Array Oper} {Q:Exit->Act->World->Prop}
theorem azD {l:List Oper} {i m:Nat} {oi:Oper} {r:IE} {a:Act} {w W:World} {B:Nat} {v:Value} (H:PLift (ops=l.toArray)) (hi:l[i]? = some oi) (hS:GK B W w) (hg:oi.guard=none)
  (hy:∀ wq:World,(∀ b o,b<B->wq.cell? ⟨b,o,none⟩=W.cell? ⟨b,o,none⟩)->(execOp a.eval oi).run P wq=.ok (.value v) wq) (h:Gj P ops (NoPanic Q) (GK B W) r (a.put oi.dst v) w):Gj P ops (NoPanic Q) (GK B W) (.take i m r) a w :=
 uQ H hi hS hg (fun wq hq=>hy wq (aAj hq).1) h
end
def iM (p:Pt):DataW Unit:=.agg [.lit (.int .i64 p.x),.lit (.int .i64 p.y)]
def aAk:Value->Option (DataW Unit×List MemPlace)
 | .agg cs=>match cs.toList with
  | [.int .i64 x,.int .i64 y]=>some (iM ⟨x,y⟩,[])
  | _=>none
 | _=>none
theorem ag0 (p:Pt):aAk (BA p)=some (iM p,[]):=rfl
theorem anN {v:Value} {p:Pt} {ps:List MemPlace} (h:aAk v=some (iM p,ps)):v=BA p:=by
 unfold aAk at h;split at h
 ·rename_i cs;split at h
  ·rename_i x y hc;simp only [Option.some.injEq,Prod.mk.injEq,iM,DataW.agg.injEq,List.cons.injEq,DataW.lit.injEq,Lit.int.injEq,and_true,true_and] at h;obtain ⟨⟨rfl,rfl⟩,-⟩:=h
   have:cs=#[.int .i64 p.x,.int .i64 p.y]:=by rw [<- Array.toList_inj];exact hc
   rw [this];rfl
  · cases h
 · cases h
def z0:Pt:=⟨0,0⟩
def En (id:Int):Prop:=(Lit.int .i64 id).wf=true
theorem N8 {id:Int} (h1:-9223372036854775808<=id) (h2:id<=9223372036854775807):En id:=WalkArith.wf_i64 ⟨h1,h2⟩
def JB (w:World) (b n:Nat) (f:Int->Pt):Prop :=
 ∃ D:DataW Unit,w.ownsMap Tryz.prog 3 aAk b n D/\Maps.IsMap D/\∀ id,D.atKey (.int .i64 id) (iM z0)=iM (f id)
theorem JB.kept {w w':World} {b n:Nat} {f:Int->Pt} (h:JB w b n f) {row:Option Nat} (hg:w.grownBy w' row) (hr:some b≠row):JB w' b n f:=by
 obtain ⟨D,h1,h2⟩:=h;exact ⟨D,h1.kept hg hr,h2⟩
theorem JB.keep {w w':World} {b n:Nat} {f:Int->Pt} (h:JB w b n f) (hb:Below w.heap.size w w'):JB w' b n f :=
 h.kept (row:=none) ⟨hb.os,hb.tape,hb.output,hb.size,fun i hi _=>hb.block i hi⟩ (by simp)
theorem JB.lt {w:World} {b n:Nat} {f:Int->Pt} (h:JB w b n f):b<w.heap.size:=by
 obtain ⟨D,h1,h2⟩:=h;exact h1.lt
theorem JB.made (w:World):JB (w.alloc (.map #[] 0)) w.heap.size 0 (fun _=>z0) :=
 ⟨.map [],World.ownsMap_made _ _ _ _,⟨_,rfl⟩,fun _=>rfl⟩
theorem VZ:Maps.Keyed Tryz.prog 3:=Maps.int_keyed Tryz.underlying3
theorem anO (w:World):(zeroValue 39).run Tryz.prog w=.ok (BA z0) w:=by kernel_rfl
theorem JB.look {w:World} {b n:Nat} {f:Int->Pt} (h:JB w b n f) (id:Int) (hid:En id) :
  (Instr.lookup 189 (.map (some b)) (.int .i64 id) false).run Tryz.prog w=.ok (BA (f id)) w:=by
 obtain ⟨D,h1,-,h2⟩:=h;obtain ⟨v,ps,hr,hv⟩:=h1.lookup VZ Tryz.underlying189 (anO w) (ag0 z0) (Maps.keyOf_int_mk Tryz.underlying3 hid);rw [h2] at hv;rw [hr,anN hv]
theorem JB.upd {w:World} {b n:Nat} {f:Int->Pt} (h:JB w b n f) (hn:n<4294967296) (id:Int) (hid:En id) (p:Pt) :
  ∃ w',(Instr.mapUpdate 189 (.map (some b)) (.int .i64 id) (BA p)).run Tryz.prog w=.ok () w'/\JB w' b (n+1) (fun i=>if i=id then p else f i)/\w.grownBy w' (some b):=by
 obtain ⟨D,h1,hm,h2⟩:=h;obtain ⟨w',hr,ho,hg⟩:=h1.update VZ Tryz.underlying189 (by unfold maxLen;omega) (Maps.keyOf_int_mk Tryz.underlying3 hid) (ag0 p);refine ⟨w',hr,⟨_,ho,?_,fun i=>?_⟩,hg⟩
 · obtain ⟨es,rfl⟩:=hm;exact ⟨_,rfl⟩
 ·show _=iM (if i=id then p else f i)
  by_cases e:i=id
  ·subst e;rw [if_pos rfl];exact Maps.atKey_put_same hm (by trivial) _ _
  · rw [if_neg e,Maps.atKey_put_other (fun h=>e (by injection h)),h2]
def uS (A:Option Addr) (c k size:Nat):Option Addr:=if c=k then A else A.map (·.add (k*size))
theorem Row.cut {w:World} {A:Option Addr} {xs:List Value} (h:Row w A xs) {k size c:Nat} (hx:xs.length<=c*size):Row w (uS A c k size) (xs.drop (k*size)):=by
 intro hne;unfold uS;have hlt:k*size<xs.length:=by
  rcases Nat.lt_or_ge (k*size) xs.length with h' | h'
  · exact h'
  · exact absurd (List.drop_of_length_le h') hne
 have hck:¬ c=k:=fun e=>by subst e;omega
 rw [if_neg hck];obtain ⟨b,o,rfl,hb,hc⟩:=h (by rintro rfl;simp at hlt);refine ⟨b,o+k*size,?_,hb,fun j v hj=>?_⟩
 ·simp only [Option.map_some,Addr.add];split
  · rename_i h0;simp [h0]
  · rfl
 ·rw [List.getElem?_drop] at hj;have:=hc _ v hj
  rwa [<- Nat.add_assoc] at this
theorem an1 {P:Program} {t e:TypeId} {size:Nat} (ht:P.underlying t=some (.slice e)) (hsz:∀ w,(sizeOf e).run P w=.ok size w) (A:Option Addr) (n c k:Nat) (hk:k<=n) (i:Int) (hi:i=k) (w:World) :
  (Instr.slice t (.slice A n c) (some (.int .i64 i)) none none).run P w=.ok (.slice (uS A c k size) (n-k) (c-k)) w:=by
 subst hi;have he:P.elem t=e:=by simp [Program.elem,ht]
 have ht':P.underlying t=some (.slice (P.elem t)):=by rw [he];exact ht
 rw [run_slice_l w t A n c ht' .i64 (k:Int) (by omega) (by omega),he,hsz];simp [Result.andThen,sliced,uS]
theorem an2 {α:Type} (f:α->List Value) (n:Nat) (hn:∀ a,(f a).length=n) (l:List α) (k:Nat):(l.flatMap f).drop (k*n)=(l.drop k).flatMap f:=by
 induction k generalizing l with
 | zero=>simp
 | succ k ih =>
  cases l with
  | nil=>simp
  | cons a l =>
   rw [List.flatMap_cons,List.drop_succ_cons,<- ih,Nat.succ_mul,Nat.add_comm,<- List.drop_drop,List.drop_left' (hn a)]
