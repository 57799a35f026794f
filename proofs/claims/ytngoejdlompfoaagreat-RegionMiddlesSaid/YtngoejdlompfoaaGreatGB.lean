import Derived.WalkKit
import Derived.WalkSpells
import Derived.WalkLawsBesides
import Derived.Lib.Hide
import Derived.Deep.QuietTactic
import Derived.BigQuiet
import Derived.Maps.AppendAt
import Derived.OwnWalk
import Derived.KernelRfl
import Derived.Test.YtngoejdlompfoaaGreatProg
import Derived.Deep.RegionHeld3
import Derived.Deep.DeepCutAuto
import Derived.Maps.Own
import Derived.Maps.Views
set_option linter.unusedSimpArgs false
set_option linter.unusedVariables false
namespace Go.Proofs.YtngoejdlompfoaaGreat
open Go.RowKit
abbrev ayh(w:World)(v:Value)(e:Ending)(w':World):Prop:=e=.returned v/\Below w.heap.size w w'
abbrev AU(w w':World):Prop:=Below w.heap.size w w'
theorem BM{α:Sort _}(a:α):∃x,a=x:=⟨_,rfl⟩
theorem BR{α:Sort _}(a:α):∃x,x=a:=⟨_,rfl⟩
theorem BJ{p:Prop}(h:p:=by simp[intOf];omega):p:=h
theorem I{p:Prop}(h:p:=by omega):p:=h
theorem QG{p:Prop}(h:p:=by first|exact gS AQ.out _ _|(unfold aV;have azw:World.grownBy _ _ _:=AQ.out;repeat(first|with_reducible assumption|with_reducible exact World.grownBy.refl _ _|with_reducible refine gS ?_ _ _|with_reducible refine gD ?_|with_reducible refine gA ?_ _))):p:=h
theorem DY{p:Prop}(h:p:=by simp only[List.length_cons,List.length_nil];omega):p:=h
theorem DJ{p:Prop}(h:p:=by first|omega|(simp;done)|(simp;omega)):p:=h
theorem azv{p:Prop}(h:p:=by unfold Fh;have h:Below _ _ _:=AQ.out;repeat(first|with_reducible assumption|with_reducible exact Below.refl _ _|with_reducible refine Na ?_ (by first|omega|(simp;omega)) _|with_reducible refine Below.drew ?_|with_reducible refine Gs (by omega) ?_ _|exact h)):p:=h
theorem Ak{p:Prop}(h:p:=by simp):p:=h
theorem BH{p:Prop}(h:p:=by go_num):p:=h
theorem BI{p:Prop}(h:p:=by decide):p:=h
theorem azV{p:Prop}(h:p:=by repeat(first|exact AO.made (by simp) _ _|refine AO.alloc ?_ _)):p:=h
theorem D8{p:Prop}(h:p:=by simp;omega):p:=h
theorem Xc{p:Prop}(h:p:=by simp only[List.length_append,List.length_cons,List.length_nil];omega):p:=h
theorem aJ{p:Prop}(h:p:=by have:=Hlen.out;simp only[List.length_cons,List.length_nil];omega):p:=h
theorem kY{p:Prop}(h:p:=by have:=Jw.out;simp only[List.length_append,List.length_cons,List.length_nil];omega):p:=h
theorem PV{p:Prop}(h:p:=by first|omega|(simp;omega)):p:=h
theorem IK{p:Prop}(h:p:=by kernel_rfl):p:=h
theorem xQ{p:Prop}(h:p:=by have:=U6.out;simp only[List.length_cons,List.length_nil];omega):p:=h
theorem xR{p:Prop}(h:p:=by have:=Jw.out;simp only[List.length_cons,List.length_nil];omega):p:=h
theorem Oj{p:Prop}(h:p:=by unfold BQ;grind):p:=h
theorem aK{p:Prop}(h:p:=by simp only[List.length_nil];omega):p:=h
theorem aDW{p:Prop}(h:p:=by have:=U6.out;have:=aCk.out;simp only[List.length_append,List.length_cons,List.length_nil];omega):p:=h
theorem aCI{p:Prop}(h:p:=by rw[List.take_succ_eq_append_getElem hlt,List.map_append];exact ZH.out):p:=h
theorem aDX{p:Prop}(h:p:=by have:=HLj.out;simp only[List.length_map,List.length_cons,List.length_nil];omega):p:=h
theorem aDY{p:Prop}(h:p:=by have:=HLen.out;(try simp only[List.length_append,List.length_singleton]);omega):p:=h
theorem Ol{p:Prop}(h:p:=by assumption):p:=h
theorem xU{p:Prop}(h:p:=by first|exact Dq|exact Dq.alloc _):p:=h
theorem fU{p:Prop}(h:p:=by rw[aCj.out];exact hg5):p:=h
theorem aI{p:Prop}(h:p:=by rw[<-Hr.out];rfl):p:=h
theorem fV{p:Prop}(h:p:=by rw[aCj.out];exact IE):p:=h
theorem fZ{p:Prop}(h:p:=by rw[Ro.out];exact Dq):p:=h
theorem Yw{p:Prop}(h:p:=by rw[Hf.out];rfl):p:=h
theorem Yx{p:Prop}(h:p:=by rw[HF.out];rfl):p:=h
theorem xO{p:Prop}(h:p:=by simpa[Value.ownBlock]using e'):p:=h
theorem aDV{p:Prop}(h:p:=by simp only[Xj,List.length_cons,List.length_nil];omega):p:=h
theorem aCH{p:Prop}(h:p:=by unfold BK;rw[if_neg c1,if_neg c2];rfl):p:=h
theorem xP{p:Prop}(h:p:=by show w.heap.size<=g2+1;omega):p:=h
theorem xW{p:Prop}(h:p:=by rw[List.length_take];omega):p:=h
theorem gG{p:Prop}(h:p:=by rw[lJ hm];omega):p:=h
theorem aDa{p:Prop}(h:p:=by have:=U6.out;simp only[List.length_nil];omega):p:=h
theorem aFw{p:Prop}(h:p:=by rw[show m+1+1-1=m+1 by omega,U6.out,List.foldl_append];exact aFv.out):p:=h
theorem ku{p:Prop}(h:p:=by have:=Hl.out;omega):p:=h
theorem aCJ{p:Prop}(h:p:=by have:=List.mem_range.1 hk;omega):p:=h
theorem aCK{p:Prop}(h:p:=by show w.heap.size<=g2+1+1;omega):p:=h
theorem aCL{p:Prop}(h:p:=by rw[List.length_set];exact hl4):p:=h
theorem Rf{p:Prop}(h:p:=by rw[e]):p:=h
theorem l7{p:Prop}(h:p:=by unfold JG;omega):p:=h
theorem l9{p:Prop}(h:p:=by simpa using hb2):p:=h
theorem qj{p:Prop}(h:p:=by simpa using hi):p:=h
theorem ql{p:Prop}(h:p:=by simpa using h0):p:=h
theorem xX{p:Prop}(h:p:=by have:=hv.Rq hd;omega):p:=h
theorem aO{p:Prop}(h:p:=by rw[e];rfl):p:=h
theorem xY{p:Prop}(h:p:=by unfold maxLen;omega):p:=h
theorem xZ{p:Prop}(h:p:=by simp[putCells,hcs]):p:=h
abbrev BG:=@List.getElem_mem
abbrev DK:=@List.getElem?_eq_getElem
abbrev Eu:=@List.take_succ_eq_append_getElem
abbrev Dy:=@List.mem_iff_getElem
abbrev FT:=@List.pairwise_iff_getElem
abbrev C9:=@Nat.zero_le
abbrev EK:=@List.length_append
abbrev D6:=@List.length_map
abbrev Nb:=@List.length_nil
abbrev Gy:=@List.length_cons
abbrev Dn:=@Option.some.inj
abbrev DI:=@decide_eq_true_eq
abbrev EC:=@Bool.and_eq_true
abbrev Gz:=@IntWalk.i64_in
abbrev G5:=@List.getD_eq_getElem?_getD
abbrev I7:=@Option.getD_some
abbrev GX:=@decide_eq_false
abbrev Ia:=@decide_eq_true
abbrev IL:=@decide_eq_false_iff_not
abbrev EJ:=@List.mem_singleton
abbrev Du:=@Nat.le_trans
abbrev F9:=@List.mem_append
abbrev Dv:=@List.mem_cons
abbrev ED:=@List.mem_cons_self
abbrev Ib:=@List.getElem_map
abbrev LC:=@List.flatMap_cons
abbrev EP:=@List.mem_map
abbrev Nc:=@List.mem_filter
abbrev RZ:=@List.getElem_set
abbrev U5:=@List.length_set
abbrev KP:=@List.map_map
abbrev H6:=@List.mem_map_of_mem
abbrev Dh:=@Nat.le_refl
abbrev IQ:=@Nat.lt_of_lt_of_le
abbrev PW:=@List.any_eq_true
abbrev KO:=@List.all_eq_true
abbrev qh:=@List.eq_nil_of_length_eq_zero
abbrev aN:=@List.getElem?_eq_none
abbrev JF:=@List.length_take
abbrev kZ:=@List.length_drop
abbrev Jv:=@List.append_assoc
abbrev AX:=@if_neg
abbrev AZ:=@if_pos
abbrev aDZ:=@Nat.le_of_ble_eq_true
abbrev FW:=@List.mem_cons_of_mem
abbrev O8:=@List.mem_append_left
abbrev aQ:=@List.mem_append_right
abbrev I8:=@List.pairwise_cons
abbrev J8:=@Int.le_refl
abbrev qo:=@List.length_singleton
abbrev gI:=@Nat.add_sub_cancel
abbrev aDf:=@List.set_append_right
abbrev aDg:=@Nat.sub_self
abbrev QE:=@List.pairwise_append
abbrev I9:=@List.append_nil
abbrev lC:=@List.dropWhile_cons
abbrev PY:=@Int.neg_mul
abbrev KT:=@Int.mul_comm
abbrev aCS:=@Int.add_mul
abbrev aCT:=@Int.sub_mul
abbrev lD:=@List.nodup_cons
abbrev Rk:=@Nat.zero_add
abbrev aDh:=@Nat.sub_add_cancel
abbrev aS:=@Int.le_of_lt
abbrev xq:=@List.perm_ext_iff_of_nodup
abbrev aCU:=@List.mem_flatten
abbrev aT:=@List.all_eq_false
abbrev gJ:=@Int.le_total
abbrev LX:=@Int.mul_nonneg
abbrev aDi:=@Int.mul_le_mul
abbrev qm:=@Int.mul_neg
abbrev aCM:=@List.all_cons
abbrev aDb:=@List.all_nil
abbrev aCN:=@Bool.and_true
abbrev KQ:=@Bool.eq_iff_iff
abbrev O7:=@Bool.false_eq_true
abbrev V7:=@Nat.mod_lt
abbrev aDc:=@Int.one_mul
abbrev aFx:=@Int.lt_or_gt_of_ne
abbrev aDd:=@Int.ediv_nonneg
abbrev aFy:=@Int.emod_lt_of_pos
abbrev aDe:=@Int.tdiv_eq_ediv_of_nonneg
abbrev aCO:=@Int.tmod_eq_emod_of_nonneg
abbrev Rj:=@List.nil_append
abbrev aCP:=@Int.mul_add
abbrev KR:=@Int.mul_pos
abbrev xg:=@Int.mul_pos_of_neg_of_neg
abbrev xk:=@Int.mul_nonpos_of_nonneg_of_nonpos
abbrev aCQ:=@Int.mul_nonpos_of_nonpos_of_nonneg
abbrev Yy:=@Int.mul_neg_of_pos_of_neg
abbrev Xd:=@Int.mul_neg_of_neg_of_pos
abbrev Yz:=@Int.mul_eq_zero
abbrev Z8:=@Bool.true_and
abbrev Je:=@Bool.not_eq_true
abbrev aCR:=@Int.lt_or_le
abbrev LD:=@Int.mul_zero
abbrev JQ:=@Int.zero_mul
abbrev LW:=@Bool.or_eq_true
abbrev Rh:=@Bool.not_eq_true'
abbrev FB:=@List.map_cons
abbrev H8:=@List.sum_cons
abbrev Gt:=@List.map_append
abbrev PX:=@List.sum_append
abbrev Ri:=@List.map_nil
abbrev aP:=@List.sum_nil
abbrev Ip:=@List.take_of_length_le
abbrev FC:=@List.mem_range
abbrev Xf:=@List.ext_getElem
abbrev Xg:=@List.any_eq_false
abbrev lH:=@List.any_map
abbrev yE:=@Bool.and_eq_false_iff
abbrev gK:=@List.take_append_drop
abbrev LY:=@List.flatMap_append
abbrev Qm:=@List.flatMap_map
abbrev Vz:=@List.mem_of_find?_eq_some
abbrev yF:=@Option.getD_none
abbrev lI:=@Option.isSome_none
abbrev Xh:=@Option.isSome_some
abbrev aCa:=@List.flatMap_nil
abbrev Fj:=@List.mem_flatMap
abbrev aDo:=@Bool.not_true
abbrev Rl:=@Bool.or_eq_false_iff
abbrev ZE:=@List.all_map
abbrev aa3:=@List.cons_append
abbrev aDp:=@Nat.le_succ
abbrev Oo:=@List.length_range
abbrev aCb:=@List.map_flatMap
abbrev qy:=@List.pairwise_flatMap
abbrev H9:=@List.pairwise_map
abbrev aDq:=@List.getD_cons_succ
abbrev LG:=@List.foldl_append
abbrev V8:=@List.foldl_cons
abbrev Xe:=@Nat.eq_zero_or_pos
abbrev aDj:=@Nat.div_lt_of_lt_mul
abbrev yA:=@Nat.mul_comm
abbrev yB:=@Nat.div_add_mod'
abbrev qw:=@List.ext_getElem?
abbrev qx:=@Nat.mul_le_mul_right
abbrev aDk:=@List.any_cons
abbrev aDl:=@List.any_append
abbrev aa2:=@List.filter_eq_nil_iff
abbrev yC:=@List.filter_append
abbrev JR:=@Int.lt_trichotomy
abbrev QF:=@Int.neg_neg
abbrev aCV:=@List.mem_reverse
abbrev Om:=@Nat.lt_trichotomy
abbrev lF:=@Int.mul_sub
abbrev aCW:=@List.takeWhile_append_dropWhile
abbrev aDm:=@List.takeWhile_cons
abbrev ZC:=@Nat.mod_eq_of_lt
abbrev aCX:=@Nat.add_mod_right
abbrev yD:=@List.map_congr_left
abbrev aU:=@List.range_succ
abbrev lG:=@Int.add_zero
abbrev aCY:=@Int.sub_eq_add_neg
abbrev aCZ:=@Int.sub_self
abbrev aDn:=@List.nodup_iff_pairwise_ne
abbrev Ql:=@List.drop_eq_getElem_cons
abbrev aFz:=@List.drop_eq_nil_of_le
abbrev qp:=@Int.mul_assoc
abbrev Z9:=@List.length_reverse
abbrev aa0:=@Nat.min_eq_right
abbrev xu:=@Int.mul_ediv_cancel_left
abbrev y7:=@Int.neg_dvd
abbrev ZA:=@List.filter_cons
abbrev aa1:=@List.Pairwise.imp_of_mem
abbrev y8:=@Int.min_comm
abbrev y9:=@Int.max_comm
abbrev Gu:=@List.take_length
abbrev aCf:=@List.drop_length
abbrev yI:=@List.drop_zero
abbrev aa7:=@List.reverse_cons
abbrev aDw:=@Bool.not_false
abbrev aDx:=@List.length_take_le
abbrev aCg:=@List.mem_of_mem_take
abbrev aCh:=@List.countP_eq_zero
abbrev aa8:=@List.countP_append
abbrev PZ:=@List.take_zero
abbrev aDy:=@List.filter_nil
abbrev ZG:=@List.length_pos_iff
abbrev aDz:=@Int.mul_le_mul_of_nonneg_right
abbrev aE0:=@Int.le_of_mul_le_mul_right
abbrev aeb:=@Int.mul_le_mul_of_nonpos_right
abbrev aa9:=@List.countP_cons_of_pos
abbrev VA:=@Nat.add_zero
abbrev yJ:=@List.pairwise_singleton
abbrev yK:=@Nat.zero_mul
abbrev NH:=@List.length_filter_le
abbrev aCi:=@Nat.lt_or_ge
abbrev aE1:=@List.flatten_append
abbrev aaA:=@List.set_cons_zero
abbrev aaB:=@List.perm_append_comm
abbrev aaC:=@Nat.lt_succ_self
abbrev aDr:=@List.drop_succ_cons
abbrev aDs:=@List.take_succ_cons
abbrev yG:=@Int.mul_le_mul_of_nonneg_left
abbrev aDt:=@Int.toNat_natCast
abbrev aCc:=@List.mem_of_getElem?
abbrev aa4:=@Int.ediv_le_ediv
abbrev ZF:=@List.not_mem_nil
abbrev aCd:=@Int.not_le
abbrev aDu:=@List.filter_filter
abbrev aa5:=@List.filter_append_perm
abbrev aa6:=@List.flatMap_assoc
abbrev aea:=@Int.mul_le_mul_of_nonpos_left
abbrev aDv:=@List.flatten_eq_flatMap
abbrev Iq:=@Classical.byContradiction
abbrev JU:=@Option.some.injEq
structure FK(p:Prop):Prop where out:p
theorem V{p:Prop}(h:p):FK p:=⟨h⟩
theorem DR(x:Int)(h:-9223372036854775808<=x/\x<=9223372036854775807:=by omega):IntKind.i64.wrap x=x:=IntWalk.i64_in _ h
theorem CB{c j o:Prop}(h0:c)(h1:j)(h2:o):FK c/\FK j/\FK o:=⟨⟨h0⟩,⟨h1⟩,⟨h2⟩⟩
theorem D9{c j o s:Prop}(h0:c)(h1:j)(h2:o)(h3:s):FK c/\FK j/\FK o/\FK s:=⟨⟨h0⟩,⟨h1⟩,⟨h2⟩,⟨h3⟩⟩
theorem G9{c j o s z:Prop}(h0:c)(h1:j)(h2:o)(h3:s)(C:z):FK c/\FK j/\FK o/\FK s/\FK z:=⟨⟨h0⟩,⟨h1⟩,⟨h2⟩,⟨h3⟩,⟨C⟩⟩
theorem Lp{c j o s z C:Prop}(h0:c)(h1:j)(h2:o)(h3:s)(K:z)(M:C):FK c/\FK j/\FK o/\FK s/\FK z/\FK C:=⟨⟨h0⟩,⟨h1⟩,⟨h2⟩,⟨h3⟩,⟨K⟩,⟨M⟩⟩
theorem V9{c j o s z C K:Prop}(h0:c)(h1:j)(h2:o)(h3:s)(M:z)(T:C)(U:K):FK c/\FK j/\FK o/\FK s/\FK z/\FK C/\FK K:=⟨⟨h0⟩,⟨h1⟩,⟨h2⟩,⟨h3⟩,⟨M⟩,⟨T⟩,⟨U⟩⟩
theorem aCe{c j o s z C K M:Prop}(h0:c)(h1:j)(h2:o)(h3:s)(T:z)(U:C)(h6:K)(h7:M):FK c/\FK j/\FK o/\FK s/\FK z/\FK C/\FK K/\FK M:=⟨⟨h0⟩,⟨h1⟩,⟨h2⟩,⟨h3⟩,⟨T⟩,⟨U⟩,⟨h6⟩,⟨h7⟩⟩
theorem yH{c j o s z C K M T:Prop}(h0:c)(h1:j)(h2:o)(h3:s)(U:z)(h5:C)(h6:K)(h7:M)(h8:T):FK c/\FK j/\FK o/\FK s/\FK z/\FK C/\FK K/\FK M/\FK T:=⟨⟨h0⟩,⟨h1⟩,⟨h2⟩,⟨h3⟩,⟨U⟩,⟨h5⟩,⟨h6⟩,⟨h7⟩,⟨h8⟩⟩
def AO(w:World)(g:Nat)(t:TypeId)(cs:Array Value):Prop:=w.heap[g]?=some (.cells cs t (0,0))
section
variable{w w':World}{g:Nat}{t:TypeId}{cs:Array Value}
theorem AO.lt(h:AO w g t cs):g<w.heap.size:=by
 rcases Nat.lt_or_ge g w.heap.size with hlt|c;.exact hlt
 unfold AO at h;rw[Array.getElem?_eq_none c]at h;cases h
theorem AO.cell(h:AO w g t cs)(i:Nat):w.cell? ⟨g,i,none⟩=cs[i]?:=cell_of_row w g i cs t (0,0) h
theorem AO.frozen(h:AO w g t cs)(i:Nat):w.frozen? ⟨g,i,none⟩=false:=by unfold AO at h;simp[World.frozen?,h]
theorem AO.new(w:World)(t:TypeId)(cs:Array Value):AO (w.alloc<|.cells cs t) w.heap.size t cs:=heap_alloc_new w _
theorem AO.made{o:Nat}(h:o=w.heap.size)(t:TypeId)(cs:Array Value):AO (w.alloc<|.cells cs t) o t cs:=by subst h;exact AO.new w t cs
theorem AO.drew(h:AO w g t cs):AO w.drew g t cs:=h
theorem AO.alloc(h:AO w g t cs)(o:Obj):AO (w.alloc o) g t cs:=(Below.heap_alloc w o g h.lt).trans h
theorem AO.EM(h:AO w g t cs)(i:Nat)(u:Value):AO (w.setCell ⟨g,i,none⟩ u) g t<|cs.setIfInBounds i u:=by unfold AO at h⊢;simp[World.setCell,Array.getElem?_modify,h]
theorem AO.far(h:AO w g t cs){p:Addr}(c:g≠p.block)(u:Value):AO (w.setCell p u) g t cs:=(Below.heap_setCell w p u g c).trans h
theorem AO.below{B:Nat}(h:AO w g t cs)(hb:Below B w w')(c:g<B):AO w' g t cs:=(hb.block g c).trans h
theorem AO.keep(h:AO w g t cs)(hb:Below w.heap.size w w'):AO w' g t cs:=(hb.block g h.lt).trans h
theorem AO.grown{row:Option Nat}(h:AO w g t cs)(hb:w.grownBy w' row)(c:some g≠row):AO w' g t cs:=(hb.block g h.lt c).trans h
theorem AO.Nh{g':Nat}{o:TypeId}{cs':Array Value}(h:AO w g t cs)(c:AO w g' o cs')(j:t≠o):g≠g':=by rintro rfl;unfold AO at h c;rw[h]at c;injection c with c;injection c with _ s;exact j s
theorem anQ{base:Nat}{e:TypeId}{size n:Nat}{v:Value}{xs:List Value}(h:w.ownsRow base e size v n xs)(j:AO w g t cs)(c:e≠t):v.ownBlock≠some g:=by
 rcases h.2 with⟨rfl,_⟩|⟨g',o,s,rfl,_,z,_⟩;.simp[Value.ownBlock]
 intro C;have:g'=g:=by simpa[Value.ownBlock]using C
 subst this;exact AO.Nh (t:=e) z j c rfl
end
theorem dH{W w1:World}(hb:Below W.heap.size W w1):(∀b o,b<W.heap.size->w1.cell? ⟨b,o,none⟩=W.cell? ⟨b,o,none⟩)/\∀b o,b<W.heap.size->w1.frozen? ⟨b,o,none⟩=W.frozen? ⟨b,o,none⟩:=⟨λb o h=>hb.cell (p:=⟨b,o,none⟩) h,λb o h=>hb.frozen (p:=⟨b,o,none⟩) h⟩
section
variable{w:World}{g:Nat}{t:TypeId}
theorem AO.G7{c:Value}(h:AO w g t #[c]):g<w.heap.size/\w.cell? ⟨g,0,none⟩=some c/\w.frozen? ⟨g,0,none⟩=false:=⟨h.lt,h.cell 0,h.frozen 0⟩
theorem AO.BL{c j:Value}(h:AO w g t #[c,j]):g<w.heap.size/\w.cell? ⟨g,0,none⟩=some c/\w.cell? ⟨g,1,none⟩=some j/\w.frozen? ⟨g,0,none⟩=false/\w.frozen? ⟨g,1,none⟩=false:=⟨h.lt,h.cell 0,h.cell 1,h.frozen 0,h.frozen 1⟩
theorem AO.BF{c j o:Value}(h:AO w g t #[c,j,o]):g<w.heap.size/\w.cell? ⟨g,0,none⟩=some c/\w.cell? ⟨g,1,none⟩=some j/\w.cell? ⟨g,2,none⟩=some o/\w.frozen? ⟨g,0,none⟩=false/\w.frozen? ⟨g,1,none⟩=false/\w.frozen? ⟨g,2,none⟩=false:=⟨h.lt,h.cell 0,h.cell 1,h.cell 2,h.frozen 0,h.frozen 1,h.frozen 2⟩
theorem AO.MC{c j o s:Value}(h:AO w g t #[c,j,o,s]):g<w.heap.size/\w.cell? ⟨g,0,none⟩=some c/\w.cell? ⟨g,1,none⟩=some j/\w.cell? ⟨g,2,none⟩=some o/\w.cell? ⟨g,3,none⟩=some s/\w.frozen? ⟨g,0,none⟩=false/\w.frozen? ⟨g,1,none⟩=false/\w.frozen? ⟨g,2,none⟩=false/\w.frozen? ⟨g,3,none⟩=false:=⟨h.lt,h.cell 0,h.cell 1,h.cell 2,h.cell 3,h.frozen 0,h.frozen 1,h.frozen 2,h.frozen 3⟩
theorem AO.J9{c j o s z C:Value}(h:AO w g t #[c,j,o,s,z,C]):g<w.heap.size/\w.cell? ⟨g,0,none⟩=some c/\w.cell? ⟨g,1,none⟩=some j/\w.cell? ⟨g,2,none⟩=some o/\w.cell? ⟨g,3,none⟩=some s/\w.cell? ⟨g,4,none⟩=some z/\w.cell? ⟨g,5,none⟩=some C/\w.frozen? ⟨g,0,none⟩=false/\w.frozen? ⟨g,1,none⟩=false/\w.frozen? ⟨g,2,none⟩=false/\w.frozen? ⟨g,3,none⟩=false/\w.frozen? ⟨g,4,none⟩=false/\w.frozen? ⟨g,5,none⟩=false:=⟨h.lt,h.cell 0,h.cell 1,h.cell 2,h.cell 3,h.cell 4,h.cell 5,h.frozen 0,h.frozen 1,h.frozen 2,h.frozen 3,h.frozen 4,h.frozen 5⟩
end
section
variable{w w1 w2:World}
theorem bR(w:World):Below w.heap.size w w:=Below.refl _ _
theorem bA(h:Below w.heap.size w w1)(o:Obj):Below w.heap.size w<|w1.alloc o:=h.alloc h.size o
theorem bD(h:Below w.heap.size w w1):Below w.heap.size w w1.drew:=h.drew
theorem bN(h:Below w.heap.size w w1)(n:Nat):Below w.heap.size w<|w1.drewN n:=⟨h.os,h.tape,h.output,h.size,h.block⟩
theorem J(h:Below w.heap.size w w1)(k:Below w1.heap.size w1 w2):Below w.heap.size w w2:=h.trans<|k.mono h.size
theorem bS(h:Below w.heap.size w w1){p:Addr}(c:w.heap.size<=p.block)(u:Value):Below w.heap.size w<|w1.setCell p u:=h.setCell c u
theorem bG(h:Below w.heap.size w w1){row:Option Nat}(c:w1.grownBy w2 row)(j:∀k,row=some k->w.heap.size<=k):Below w.heap.size w w2:=h.grown c h.size j
end
theorem Dk{W w':World}(hb:Below W.heap.size W w'){p:Addr}{v:Value}(h:W.cell? p=some v):w'.cell? p=some v:=by rw[hb.cell<|World.block_lt_of_cell? W p h];exact h
def Row(w:World)(A:Option Addr)(xs:List Value):Prop:=xs≠[]->∃b o,A=some ⟨b,o,none⟩/\b<w.heap.size/\∀j v,xs[j]?=some v->w.cell? ⟨b,o+j,none⟩=some v
theorem Row.mono{w w':World}{A:Option Addr}{xs:List Value}(h:Row w A xs)(hb:Below w.heap.size w w'):Row w' A xs:=by intro c;obtain⟨b,o,rfl,hlt,s⟩:=h c;exact⟨b,o,rfl,Nat.lt_of_lt_of_le hlt hb.size,λj v z=>by rw[hb.cell (p:=⟨b,_,none⟩) hlt];exact s j v z⟩
theorem Row.nil{w:World}{A:Option Addr}:Row w A []:=λh=>absurd rfl h
theorem Row.aD7{w:World}{base:Nat}{e:TypeId}{size n:Nat}{A:Option Addr}{c:Nat}{xs:List Value}(h:w.ownsRow base e size (.slice A n c) n xs):Row w A xs:=by
 intro s;rcases h.2 with⟨hv,hn⟩|⟨g,K,z,hv,_,C,_,_,M,T⟩;.exact absurd (List.eq_nil_of_length_eq_zero<|by rw[h.1,hn];simp) s
 injection hv with U _ _;subst U;refine⟨g,0,rfl,?_,λj v o=>?_⟩;.exact AO.lt C
 rw[cell_of_row w g _ z e (0,0) C];subst T;rw[List.getElem?_take]at o;split at o;.simpa using o
 cases o
def Sl(w:World)(v:Value)(n:Nat)(xs:List Value):Prop:=∃A c,v=.slice A n c/\n<=c/\c<=maxLen/\Row w A xs
theorem Sl.mono{w w':World}{v:Value}{n:Nat}{xs:List Value}(h:Sl w v n xs)(hb:Below w.heap.size w w'):Sl w' v n xs:=by obtain⟨A,c,hv,h1,h2,h3⟩:=h;exact⟨A,c,hv,h1,h2,h3.mono hb⟩
theorem Sl.aD7{w:World}{base:Nat}{e:TypeId}{size n:Nat}{v:Value}{xs:List Value}(h:w.ownsRow base e size v n xs):Sl w v n xs:=by
 rcases h.2 with⟨hv,hn⟩|⟨g,c,j,hv,s,z,h1,h2,o,C⟩;.subst hv;subst hn;exact⟨none,0,rfl,Nat.le_refl _,by simp[maxLen],Row.aD7 h⟩
 subst hv;exact⟨_,c,rfl,h1,h2,Row.aD7 h⟩
theorem own_below{w w':World}{base:Nat}{e:TypeId}{size n:Nat}{v:Value}{xs:List Value}(h:w.ownsRow base e size v n xs)(hb:Below w.heap.size w w'):w'.ownsRow base e size v n xs:=by
 obtain⟨h1,h2⟩:=h;refine⟨h1,?_⟩;rcases h2 with h2|⟨g,c,j,hv,s,o,r⟩;.exact .inl h2
 exact .inr ⟨g,c,j,hv,s,(hb.block g<|AO.lt o).trans o,r⟩
theorem flat_get{α:Type}(f:α->List Value)(n:Nat)(hn:∀a,(f a).length=n)(l:List α)(k j:Nat)(hk:k<l.length)(o:j<n):(l.flatMap f)[k*n+j]?=(f l[k])[j]?:=by induction l generalizing k with|nil=>simp at hk|cons a l s=>cases k with|zero=>simp[List.flatMap_cons,List.getElem?_append_left,hn,o]|succ k=>
   have c:k<l.length:=by simpa using hk
   rw[List.flatMap_cons,List.getElem?_append_right<|by rw[hn,Nat.succ_mul];omega,hn];rw[show(k+1)*n+j-n=k*n+j by rw[Nat.succ_mul];omega,s k c];simp
theorem flat_length{α:Type}(f:α->List Value)(n:Nat)(hn:∀a,(f a).length=n)(l:List α):(l.flatMap f).length=l.length*n:=by induction l with|nil=>simp|cons a l c=>simp[List.flatMap_cons,hn,c,Nat.succ_mul];omega
theorem Row.at_{w:World}{A:Option Addr}{α:Type}{f:α->List Value}{n:Nat}(hn:∀a,(f a).length=n){l:List α}(h:Row w A<|l.flatMap f){k:Nat}(hk:k<l.length)(c:0<n):∃b o,A=some ⟨b,o,none⟩/\b<w.heap.size/\∀j u,(f l[k])[j]?=some u->w.cell? ⟨b,o+k*n+j,none⟩=some u:=by
 have s:l.flatMap f≠[]:=by intro h0;have:=flat_length f n hn l;rw[h0]at this;have:0<l.length*n:=Nat.mul_pos (by omega) c;simp at*;omega
 obtain⟨b,o,rfl,hlt,M⟩:=h s;refine⟨b,o,rfl,hlt,λj u z=>?_⟩;have C:j<n:=by
  rcases Nat.lt_or_ge j n with K|K;.exact K
  rw[List.getElem?_eq_none<|by rw[hn];exact K]at z;cases z
 have:=M (k*n+j) u (by rw[flat_get f n hn l k j hk C];exact z);rwa[<-Nat.add_assoc]at this
structure Pt where
 x:Int
 y:Int
structure Nd where
 id:Int
 pt:Pt
structure Ar where
 id:Int
 fr:Int
 dst:Int
 via:List Pt
 left:Int
 right:Int
structure Pl where
 nodes:List Nd
 AP:List Ar
 faces:List Int
structure Bx where
 x0:Int
 y0:Int
 x1:Int
 y1:Int
instance:DecidableEq Pt:=λa b=>if h:a.x=b.x/\a.y=b.y then isTrue<|by cases a;cases b;simp_all else isFalse<|by rintro rfl;simp at h
instance:DecidableEq Nd:=λa b=>if h:a.id=b.id/\a.pt=b.pt then isTrue<|by cases a;cases b;simp_all else isFalse<|by rintro rfl;simp at h
instance:DecidableEq Ar:=λa b=>if h:a.id=b.id/\a.fr=b.fr/\a.dst=b.dst/\a.via=b.via/\a.left=b.left/\a.right=b.right then isTrue<|by cases a;cases b;simp_all else isFalse<|by rintro rfl;simp at h
instance:DecidableEq Bx:=λa b=>if h:a.x0=b.x0/\a.y0=b.y0/\a.x1=b.x1/\a.y1=b.y1 then isTrue<|by cases a;cases b;simp_all else isFalse<|by rintro rfl;simp at h
theorem Pt.ext_iff'{a b:Pt}:a=b↔a.x=b.x/\a.y=b.y:=by cases a;cases b;simp
def DF(n:Int):List Value:=[.int .i64 n]
def Ep(p:Pt):List Value:=[.int .i64 p.x,.int .i64 p.y]
def UO(n:Nd):List Value:=[.int .i64 n.id,.int .i64 n.pt.x,.int .i64 n.pt.y]
def lK(p:Ar×Value):List Value:=[.int .i64 p.1.id,.int .i64 p.1.fr,.int .i64 p.1.dst,p.2,.int .i64 p.1.left,.int .i64 p.1.right]
def BD(p:Pt):Value:=.agg #[.int .i64 p.x,.int .i64 p.y]
def yX(n:Nd):Value:=.agg #[.int .i64 n.id,.int .i64 n.pt.x,.int .i64 n.pt.y]
def rH(a:Ar)(v:Value):Value:=.agg #[.int .i64 a.id,.int .i64 a.fr,.int .i64 a.dst,v,.int .i64 a.left,.int .i64 a.right]
def Ints(w:World)(v:Value)(l:List Int):Prop:=Sl w v l.length<|l.flatMap DF
def EL(w:World)(v:Value)(l:List Pt):Prop:=Sl w v l.length<|l.flatMap Ep
def Xq(w:World)(v:Value)(l:List Nd):Prop:=Sl w v l.length<|l.flatMap UO
def gU(w:World)(l:List<|Ar×Value):Prop:=∀k(hk:k<l.length),EL w l[k].2 l[k].1.via
def yY(w:World)(v:Value)(l:List<|Ar×Value):Prop:=Sl w v l.length (l.flatMap lK)/\gU w l
def Cj(w:World)(v:Value)(p:Pl):Prop:=∃vn va vf al,v=.agg #[vn,va,vf]/\p.AP=al.map (·.1)/\Xq w vn p.nodes/\yY w va al/\Ints w vf p.faces
section
variable{w w':World}{v:Value}
theorem Ints.mono{l:List Int}(h:Ints w v l)(hb:Below w.heap.size w w'):Ints w' v l:=Sl.mono h hb
theorem EL.mono{l:List Pt}(h:EL w v l)(hb:Below w.heap.size w w'):EL w' v l:=Sl.mono h hb
theorem Xq.mono{l:List Nd}(h:Xq w v l)(hb:Below w.heap.size w w'):Xq w' v l:=Sl.mono h hb
theorem gU.mono{l:List<|Ar×Value}(h:gU w l)(hb:Below w.heap.size w w'):gU w' l:=λk hk=>(h k hk).mono hb
theorem yY.mono{l:List<|Ar×Value}(h:yY w v l)(hb:Below w.heap.size w w'):yY w' v l:=⟨Sl.mono h.1 hb,h.2.mono hb⟩
theorem Cj.mono{p:Pl}(h:Cj w v p)(hb:Below w.heap.size w w'):Cj w' v p:=by obtain⟨c,j,o,al,hv,s,h1,h2,h3⟩:=h;exact⟨c,j,o,al,hv,s,h1.mono hb,h2.mono hb,h3.mono hb⟩
end
section
variable{w:World}{A:Option Addr}
theorem Row.int{l:List Int}(h:Row w A<|l.flatMap DF){k:Nat}(hk:k<l.length):∃b o,A=some ⟨b,o,none⟩/\b<w.heap.size/\w.cell? ⟨b,o+k,none⟩=some (.int .i64 l[k]):=by obtain⟨b,o,c,hb,j⟩:=h.at_ (n:=1) (λ_=>rfl) hk (by omega);exact⟨b,o,c,hb,by simpa using j 0 _ rfl⟩
theorem Row.pt{l:List Pt}(h:Row w A<|l.flatMap Ep){k:Nat}(hk:k<l.length):∃b o,A=some ⟨b,o,none⟩/\b<w.heap.size/\w.cell? ⟨b,o+k*2,none⟩=some (.int .i64 l[k].x)/\w.cell? ⟨b,o+k*2+1,none⟩=some (.int .i64 l[k].y):=by obtain⟨b,o,j,hb,c⟩:=h.at_ (n:=2) (λ_=>rfl) hk (by omega);exact⟨b,o,j,hb,c 0 _ rfl,c 1 _ rfl⟩
theorem Row.nd{l:List Nd}(h:Row w A<|l.flatMap UO){k:Nat}(hk:k<l.length):∃b o,A=some ⟨b,o,none⟩/\b<w.heap.size/\w.cell? ⟨b,o+k*3,none⟩=some (.int .i64 l[k].id)/\w.cell? ⟨b,o+k*3+1,none⟩=some (.int .i64 l[k].pt.x)/\w.cell? ⟨b,o+k*3+2,none⟩=some (.int .i64 l[k].pt.y):=by obtain⟨b,o,j,hb,c⟩:=h.at_ (n:=3) (λ_=>rfl) hk (by omega);exact⟨b,o,j,hb,c 0 _ rfl,c 1 _ rfl,c 2 _ rfl⟩
theorem Row.ar{l:List<|Ar×Value}(h:Row w A<|l.flatMap lK){k:Nat}(hk:k<l.length):∃b o,A=some ⟨b,o,none⟩/\b<w.heap.size/\w.cell? ⟨b,o+k*6,none⟩=some (.int .i64 l[k].1.id)/\w.cell? ⟨b,o+k*6+1,none⟩=some (.int .i64 l[k].1.fr)/\w.cell? ⟨b,o+k*6+2,none⟩=some (.int .i64 l[k].1.dst)/\w.cell? ⟨b,o+k*6+3,none⟩=some l[k].2/\w.cell? ⟨b,o+k*6+4,none⟩=some (.int .i64 l[k].1.left)/\w.cell? ⟨b,o+k*6+5,none⟩=some (.int .i64 l[k].1.right):=by obtain⟨b,o,j,hb,c⟩:=h.at_ (n:=6) (λ_=>rfl) hk (by omega);exact⟨b,o,j,hb,c 0 _ rfl,c 1 _ rfl,c 2 _ rfl,c 3 _ rfl,c 4 _ rfl,c 5 _ rfl⟩
end
theorem DC{n:Nat}(h:n<=4294967296):n<=maxLen:=by have:maxLen=9223372036854775807:=rfl;omega
theorem Sl.lit{w:World}{g n:Nat}{t:TypeId}{cs:Array Value}{xs:List Value}(h:AO w g t cs)(c:cs.toList=xs)(hn:n<=maxLen):Sl w (.slice (some ⟨g,0,none⟩) n n) n xs:=⟨_,n,rfl,Nat.le_refl _,hn,λ_=>⟨g,0,rfl,h.lt,λj v o=>by rw[h.cell,<-o,<-c];simp⟩⟩
theorem EL.gV{w:World}{g:Nat}{t:TypeId}{a b c:Pt}(h:AO w g t #[.int .i64 a.x,.int .i64 a.y,.int .i64 b.x,.int .i64 b.y,.int .i64 c.x,.int .i64 c.y]):EL w (.slice (some ⟨g,0,none⟩) 3 3) [a,b,c]:=Sl.lit (n:=3) h rfl<|DC<|by omega
theorem EL.aD8{w:World}{g:Nat}{t:TypeId}{a b c d:Pt}(h:AO w g t #[.int .i64 a.x,.int .i64 a.y,.int .i64 b.x,.int .i64 b.y,.int .i64 c.x,.int .i64 c.y,.int .i64 d.x,.int .i64 d.y]):EL w (.slice (some ⟨g,0,none⟩) 4 4) [a,b,c,d]:=Sl.lit (n:=4) h rfl<|DC<|by omega
theorem all_succ{α:Type}{l:List α}{p:α->Prop}{k:Nat}(h:∀j(c:j<l.length),j<k->p l[j])(hk:k<l.length)(o:p l[k]):∀j(c:j<l.length),j<k+1->p l[j]:=by
 intro j c s;by_cases e:j<k;.exact h j c e
 have:j=k:=by omega
 subst this;exact o
theorem DZ{k:IntKind}{a b:Int}(h:a=b):Ending.returned (.int k a)=.returned (.int k b):=by rw[h]
theorem Cm{a b:Bool}(h:a=b):Ending.returned (.bool a)=.returned (.bool b):=by rw[h]
section
variable{P:Program}(w:World)
theorem Row.at0{w:World}{ad:Addr}{xs:List Value}(h:Row w (some ad) xs)(j:Nat)(u:Value)(s:xs[j]?=some u):w.cell? (ad.add j)=some u:=by
 have c:xs≠[]:=by rintro rfl;simp at s
 obtain⟨b,o,e,_,z⟩:=h c;injection e with e;subst e;have:=z j u s;unfold Addr.add;split;.rename_i h0;subst h0;simpa using this
 exact this
theorem anR(base:Nat)(t ty e:TypeId)(i:TypeInfo)(z:Value)(size bytes:Nat)(ht:P.underlying t=some (.slice e))(hi:P.info? e=some i)(hz:i.zero=some z)(T:i.size=size)(hby:i.bytes=bytes)(hzs:z.cells.size=size)(hsz:0<size)(v:Value)(n:Nat)(xs:List Value)(K:w.ownsRow base e size v n xs)(s:Value)(m:Nat)(C:List Value)(hs:Sl w s m C)(hl:C.length=m*size)(h1:∀u∈C,u.oneCell'=true)(h63:n+m<=maxLen)(M:(n+m)*bytes<=140737488355328)(U:base<=w.heap.size):∃v' w',(Builtin.append_ #[t,t] ty #[v,s]).run P w=.ok v' w'/\w'.ownsRow base e size v' (n+m) (xs++C)/\w.grownBy w' v.ownBlock/\(v'.ownBlock=v.ownBlock\/v'.ownBlock=some w.heap.size):=by
 obtain⟨A,c,rfl,_,_,hr⟩:=hs;rcases A with _|ad
 .have hn:C=[]:=by
   rcases C with _|⟨u,us⟩;.rfl
   obtain⟨b,o,e,_⟩:=hr (by simp);cases e
  subst hn;have hm:m=0:=by
   rcases Nat.eq_zero_or_pos m with h0|h0;.exact h0
   have:=Nat.mul_pos h0 hsz;simp at hl;omega
  subst hm;refine⟨v,w,?_,by simpa using K,World.grownBy.refl w _,.inl rfl⟩;rcases K.2 with⟨rfl,rfl⟩|⟨g,cap,cur,rfl,_,_,hnc,_⟩;.simp[Builtin.append_,run_underlying ht,sizeOf,typeInfo,hi,Builtin.lenOf,Builtin.firstCells]
  simp[Builtin.append_,run_underlying ht,sizeOf,typeInfo,hi,Builtin.lenOf,Builtin.firstCells,hnc,storeCells]
 obtain⟨v',w',hrun,h2,h3,_,h5⟩:=run_append_own_at (P:=P) w base t ty e i z size bytes ht hi hz T hby hzs hsz v n xs K ad m c C hl (λj u hu=>hr.at0 j u hu) h1 h63 M U;exact⟨v',w',hrun,h2,h3,h5⟩
theorem afI{o:Oper}{a:Act}{K:Act->World->Prop}{Q:Exit->Act->World->Prop}(s x:Operand)(t:TypeId)(ho:o.op=.call {callee:=.builtin .append,args:=#[s,x],argTypes:=#[t,t]})(base:Nat)(e:TypeId)(i:TypeInfo)(z:Value)(size bytes:Nat)(ht:P.underlying t=some (.slice e))(hi:P.info? e=some i)(hz:i.zero=some z)(C:i.size=size)(hby:i.bytes=bytes)(hzs:z.cells.size=size)(hsz:0<size)(v:Value)(n:Nat)(xs:List Value)(hs:a.eval s=v)(U:w.ownsRow base e size v n xs)(M:Value)(m:Nat)(c:List Value)(hx:a.eval x=M)(hr:Sl w M m c)(hl:c.length=m*size)(h1:∀u∈c,u.oneCell'=true)(h63:n+m<=maxLen)(j:(n+m)*bytes<=140737488355328)(T:base<=w.heap.size)(h:∀v' w',w'.ownsRow base e size v' (n+m) (xs++c)->w.grownBy w' v.ownBlock->v'.ownBlock=v.ownBlock\/v'.ownBlock=some w.heap.size->K (a.put o.dst v') w'):o.wp P a w K Q:=by obtain⟨v',w',hrun,h2,h3,h4⟩:=anR (P:=P) w base t o.type e i z size bytes ht hi hz C hby hzs hsz v n xs U M m c hr hl h1 h63 j T;unfold Oper.wp execOp;simp only[ho,resolve,invoke,builtin,Sem.run_bind,Sem.run_pure,Result.andThen_ok,List.map_toArray,List.map_cons,List.map_nil,hs,hx,hrun];exact h v' w' h2 h3 h4
theorem afJ{ops:Array Oper}{rest:List Oper}{o:Oper}{a:Act}{Q:Exit->Act->World->Prop}(U:o.guard=none)(s x:Operand)(t:TypeId)(ho:o.op=.call {callee:=.builtin .append,args:=#[s,x],argTypes:=#[t,t]})(base:Nat)(e:TypeId)(i:TypeInfo)(z:Value)(size bytes:Nat)(ht:P.underlying t=some (.slice e))(hi:P.info? e=some i)(hz:i.zero=some z)(C:i.size=size)(hby:i.bytes=bytes)(hzs:z.cells.size=size)(hsz:0<size)(v:Value)(n:Nat)(xs:List Value)(hs:a.eval s=v)(T:w.ownsRow base e size v n xs)(K:Value)(m:Nat)(c:List Value)(hx:a.eval x=K)(hr:Sl w K m c)(hl:c.length=m*size)(h1:∀u∈c,u.oneCell'=true)(h63:n+m<=maxLen)(j:(n+m)*bytes<=140737488355328)(M:base<=w.heap.size)(h:∀v' w',w'.ownsRow base e size v' (n+m) (xs++c)->w.grownBy w' v.ownBlock->v'.ownBlock=v.ownBlock\/v'.ownBlock=some w.heap.size->wpList P ops Q rest (a.put o.dst v') w'):wpList P ops Q (o::rest) a w:=wpList_plain U λ_ hK=>afI w s x t ho base e i z size bytes ht hi hz C hby hzs hsz v n xs hs T K m c hx hr hl h1 h63 j M λv' w' h2 h3 h4=>hK _ _<|h v' w' h2 h3 h4
end
def Elem(P:Program)(t e:TypeId)(size bytes:Nat):Prop:=P.underlying t=some (.slice e)/\∃i z,P.info? e=some i/\i.zero=some z/\i.size=size/\i.bytes=bytes/\z.cells.size=size/\0<size
theorem Elem.QI{P:Program}{t e:TypeId}{size bytes:Nat}{z:Value}(h:P.underlying t=some (.slice e))(s:(P.info? e).map (λi=>(i.zero,i.size,i.bytes))=some (some z,size,bytes))(C:z.cells.size=size)(K:0<size):Elem P t e size bytes:=by obtain⟨M,hi,c,j,o⟩:=info_parts s;exact⟨h,M,z,hi,c,j,o,C,K⟩
def Own{α:Type}(w:World)(base:Nat)(e:TypeId)(size:Nat)(f:α->List Value)(v:Value)(l:List α):Prop:=w.ownsRow base e size v l.length<|l.flatMap f
section
variable{α:Type}{w w':World}{base:Nat}{e:TypeId}{size:Nat}{f:α->List Value}{v:Value}{l:List α}
theorem Own.sl(h:Own w base e size f v l):Sl w v l.length<|l.flatMap f:=Sl.aD7 h
theorem Own.keep(h:Own w base e size f v l)(hb:Below w.heap.size w w'):Own w' base e size f v l:=own_below h hb
theorem Own.alloc(h:Own w base e size f v l)(o:Obj):Own (w.alloc o) base e size f v l:=World.ownsRow.alloc h o
theorem Own.lt(h:Own w base e size f v l):∀k,v.ownBlock=some k->base<=k/\k<w.heap.size:=World.ownsRow.lt h
theorem Own.nil(w:World)(base:Nat)(e:TypeId)(size:Nat)(f:α->List Value):Own w base e size f (.slice none 0 0) []:=World.ownsRow_nil w base e size
theorem Own.far(h:Own w base e size f v l){p:Addr}(o:v.ownBlock≠some p.block)(u:Value):Own (w.setCell p u) base e size f v l:=by
 obtain⟨h1,h2⟩:=h;refine⟨h1,?_⟩;rcases h2 with h2|⟨g,c,j,hv,s,z,r⟩;.exact .inl h2
 subst hv;refine .inr ⟨g,c,j,rfl,s,(Below.heap_setCell w p u g<|λe=>o<|by rw[<-e];rfl).trans z,r⟩
theorem Own.ET(h:Own w base e size f v l){g:Nat}{t:TypeId}{cs:Array Value}(j:AO w g t cs)(c:e≠t):v.ownBlock≠some g:=anQ h j c
theorem Own.EN(h:Own w base e size f v l){b':Nat}(hb:b'<=base):Own w b' e size f v l:=by
 obtain⟨h1,h2⟩:=h;refine⟨h1,?_⟩;rcases h2 with h2|⟨g,c,j,hv,o,r⟩;.exact .inl h2
 exact .inr ⟨g,c,j,hv,Nat.le_trans hb o,r⟩
end
theorem Own.lit{α:Type}(w:World)(base:Nat)(e:TypeId)(size:Nat)(f:α->List Value)(l:List α)(cs:Array Value)(n:Nat)(g:Nat)(j:g=w.heap.size)(hn:n=l.length)(hb:base<=w.heap.size)(hm:n<=maxLen)(c:cs.size=n*size)(o:cs.toList=l.flatMap f):Own (w.alloc<|.cells cs e) base e size f (.slice (some ⟨g,0,none⟩) n n) l:=by subst j;subst hn;have:=World.ownsRow_lit (base:=base) (e:=e) (size:=size) w cs l.length hb hm c;unfold Own;rw[<-o];simpa[<-c]using this
theorem Ir{P:Program}{w:World}{o:Oper}{a:Act}{K:Act->World->Prop}{Q:Exit->Act->World->Prop}(s x:Operand)(t:TypeId)(ho:o.op=.call {callee:=.builtin .append,args:=#[s,x],argTypes:=#[t,t]}){α:Type}{f:α->List Value}{base:Nat}{e:TypeId}{size bytes:Nat}(hE:Elem P t e size bytes)(hf:∀a,(f a).length=size)(T:∀a,∀u∈f a,u.oneCell'=true){v:Value}{l:List α}(hs:a.eval s=v)(U:Own w base e size f v l){j:Value}{l2:List α}(hx:a.eval x=j)(hr:Sl w j l2.length<|l2.flatMap f)(c:(l.length+l2.length)*bytes<=140737488355328)(h32:l.length+l2.length<=4294967296)(C:base<=w.heap.size)(h:∀v' w',Own w' base e size f v' (l++l2)->w.grownBy w' v.ownBlock->v'.ownBlock=v.ownBlock\/v'.ownBlock=some w.heap.size->K (a.put o.dst v') w'):o.wp P a w K Q:=by
 obtain⟨ht,i,z,hi,hz,M,hby,hzs,hsz⟩:=hE;refine afI w s x t ho base e i z size bytes ht hi hz M hby hzs hsz v l.length (l.flatMap f) hs U j l2.length (l2.flatMap f) hx hr (flat_length f size hf l2)
  (λu hu=>?_) (DC h32) c C λv' w' h1 h2 h3=>h v' w' ?_ h2 h3;.obtain⟨a,_,hu⟩:=List.mem_flatMap.1 hu;exact T a u hu
 unfold Own;rw[List.length_append,List.flatMap_append];exact h1
theorem FV{P:Program}(w:World){ops:Array Oper}{rest:List Oper}{o:Oper}{a:Act}{Q:Exit->Act->World->Prop}(U:o.guard=none)(s x:Operand)(t:TypeId)(ho:o.op=.call {callee:=.builtin .append,args:=#[s,x],argTypes:=#[t,t]}){α:Type}{f:α->List Value}{base:Nat}{e:TypeId}{size bytes:Nat}(hE:Elem P t e size bytes)(hf:∀a,(f a).length=size)(M:∀a,∀u∈f a,u.oneCell'=true){v:Value}{l:List α}(hs:a.eval s=v)(T:Own w base e size f v l){j:Value}{l2:List α}(hx:a.eval x=j)(hr:Sl w j l2.length<|l2.flatMap f)(c:(l.length+l2.length)*bytes<=140737488355328)(h32:l.length+l2.length<=4294967296)(C:base<=w.heap.size)(h:∀v' w',Own w' base e size f v' (l++l2)->w.grownBy w' v.ownBlock->v'.ownBlock=v.ownBlock\/v'.ownBlock=some w.heap.size->wpList P ops Q rest (a.put o.dst v') w'):wpList P ops Q (o::rest) a w:=by
 obtain⟨ht,i,z,hi,hz,K,hby,hzs,hsz⟩:=hE;refine afJ w U s x t ho base e i z size bytes ht hi hz K hby hzs hsz v l.length (l.flatMap f) hs T j l2.length (l2.flatMap f) hx hr (flat_length f size hf l2)
  (λu hu=>?_) (DC h32) c C λv' w' h1 h2 h3=>h v' w' ?_ h2 h3;.obtain⟨a,_,hu⟩:=List.mem_flatMap.1 hu;exact M a u hu
 unfold Own;rw[List.length_append,List.flatMap_append];exact h1
theorem yZ{α:Type}(l:List α)(q:α->Bool)(k:Nat)(hk:k<l.length)(h:∀j(o:j<l.length),j<k->q l[j]=false)(c:q l[k]=true):l.find? q=some l[k]:=by induction l generalizing k with|nil=>simp at hk|cons a l s=>cases k with|zero=>simp only[List.getElem_cons_zero]at c⊢;rw[List.find?_cons_of_pos c]|succ k=>have h0:=h 0 (by simp) (by omega);simp only[List.getElem_cons_zero]at h0;rw[List.find?_cons_of_neg<|by simp[h0]];simp only[List.getElem_cons_succ]at c⊢;exact s k (by simpa using hk) (λj o z=>by have h1:=h (j+1) (by simpa using o) (by omega);simpa only[List.getElem_cons_succ]using h1) c
theorem aD9{α:Type}(l:List α)(q:α->Bool)(h:∀j(o:j<l.length),q l[j]=false):l.find? q=none:=by rw[List.find?_eq_none];intro x c;obtain⟨i,hi,rfl⟩:=List.mem_iff_getElem.1 c;simp[h i hi]
theorem LZ:Elem Tryz.prog 29 50 2 16:=Elem.QI (z:=.agg #[.int .i64 0,.int .i64 0]) (by kernel_rfl) (by kernel_rfl) rfl<|by omega
theorem afK:Elem Tryz.prog 22 56 3 24:=Elem.QI (z:=.agg #[.int .i64 0,.int .i64 0,.int .i64 0]) (by kernel_rfl) (by kernel_rfl) rfl<|by omega
theorem aaM:Elem Tryz.prog 23 31 6 64:=Elem.QI (z:=.agg #[.int .i64 0,.int .i64 0,.int .i64 0,.slice none 0 0,.int .i64 0,.int .i64 0]) (by kernel_rfl) (by kernel_rfl) rfl<|by omega
theorem J3:Elem Tryz.prog 24 3 1 8:=Elem.QI (z:=.int .i64 0) (by kernel_rfl) (by kernel_rfl) rfl<|by omega
theorem LK(p:Pt):(Ep p).length=2:=rfl
theorem aaN(p:Nd):(UO p).length=3:=rfl
theorem anS(p:Ar×Value):(lK p).length=6:=rfl
theorem IV(p:Int):(DF p).length=1:=rfl
theorem La(p:Pt):∀u∈Ep p,u.oneCell'=true:=by simp[Ep,Value.oneCell']
theorem afL(p:Nd):∀u∈UO p,u.oneCell'=true:=by simp[UO,Value.oneCell']
theorem J4(p:Int):∀u∈DF p,u.oneCell'=true:=by simp[DF,Value.oneCell']
theorem AO.aDA{w:World}{g:Nat}{t:TypeId}{c x0:Value}(h:AO w g t #[c]):AO (w.setCell ⟨g,0,none⟩ x0) g t #[x0]:=by have:=AO.EM h 0 x0;simpa using this
theorem AO.O9{w:World}{g:Nat}{t:TypeId}{c j x0 x1:Value}(h:AO w g t #[c,j]):AO ((w.setCell ⟨g,0,none⟩ x0).setCell ⟨g,1,none⟩ x1) g t #[x0,x1]:=by have:=AO.EM (AO.EM h 0 x0) 1 x1;simpa using this
theorem AO.lM{w:World}{g:Nat}{t:TypeId}{j o s x0 x1 c:Value}(h:AO w g t #[j,o,s]):AO (((w.setCell ⟨g,0,none⟩ x0).setCell ⟨g,1,none⟩ x1).setCell ⟨g,2,none⟩ c) g t #[x0,x1,c]:=by have:=AO.EM (AO.EM (AO.EM h 0 x0) 1 x1) 2 c;simpa using this
theorem AO.nD{w:World}{g:Nat}{t:TypeId}{o s z C x0 x1 c j:Value}(h:AO w g t #[o,s,z,C]):AO ((((w.setCell ⟨g,0,none⟩ x0).setCell ⟨g,1,none⟩ x1).setCell ⟨g,2,none⟩ c).setCell ⟨g,3,none⟩ j) g t #[x0,x1,c,j]:=by have:=AO.EM (AO.EM (AO.EM (AO.EM h 0 x0) 1 x1) 2 c) 3 j;simpa using this
theorem AO.UQ{w:World}{g:Nat}{t:TypeId}{z C K M T U x0 x1 c j o s:Value}(h:AO w g t #[z,C,K,M,T,U]):AO ((((((w.setCell ⟨g,0,none⟩ x0).setCell ⟨g,1,none⟩ x1).setCell ⟨g,2,none⟩ c).setCell ⟨g,3,none⟩ j).setCell ⟨g,4,none⟩ o).setCell ⟨g,5,none⟩ s) g t #[x0,x1,c,j,o,s]:=by have:=AO.EM (AO.EM (AO.EM (AO.EM (AO.EM (AO.EM h 0 x0) 1 x1) 2 c) 3 j) 4 o) 5 s;simpa using this
def StructOf(P:Program)(ty:TypeId)(n:Nat):Prop:=∃fs,P.underlying ty=some (.struct fs)/\(P.info? ty).map (·.size)=some n
theorem StructOf.QI{P:Program}{c:TypeId}{n:Nat}{j:Array Field}(h:P.underlying c=some (.struct j))(o:(P.info? c).map (·.size)=some n):StructOf P c n:=⟨_,h,o⟩
theorem L6{P:Program}{j:Func}{p u:Tmp}{c t:TypeId}{R:Ending->World->Prop}{a:Act}{w:World}{g:Nat}{cs:Array Value}(h:j.results=#[.cell p c,.tmp u])(hS:StructOf P c cs.size)(o:a.tmps.getD p undef=.pointer (some ⟨g,0,none⟩))(hd:a.defers=[])(hb:AO w g t cs)(s:R (.returned<|.tuple #[.agg cs,a.tmps.getD u undef]) w):bodyPost P j R .ret a w:=by obtain⟨z,h1,h3⟩:=hS;refine bodyPost_ret ?_ hd s;rw[results_cell_tmp h,o];have:=run_loadVar_row (P:=P) w g t c cs (0,0) (.struct z) hb h1 rfl h3;simp[asAddr,Sem.run_pure,Result.andThen,this]
theorem nG{P:Program}{o:Func}{p:Tmp}{c t:TypeId}{R:Ending->World->Prop}{a:Act}{w:World}{g:Nat}{cs:Array Value}(h:o.results=#[.cell p c])(hS:StructOf P c cs.size)(s:a.tmps.getD p undef=.pointer (some ⟨g,0,none⟩))(hd:a.defers=[])(hb:AO w g t cs)(z:R (.returned<|.agg cs) w):bodyPost P o R .ret a w:=by
 obtain⟨C,h1,h3⟩:=hS;refine bodyPost_ret ?_ hd z;have:=run_loadVar_row (P:=P) w g t c cs (0,0) (.struct C) hb h1 rfl h3;have j:a.tmps[p]?.getD undef=.pointer (some ⟨g,0,none⟩):=by simpa using s
 simp only[results,h];simp[j,asAddr,Sem.run_bind,Sem.run_pure,Result.andThen,this]
theorem UR:StructOf Tryz.prog 50 2:=.QI Tryz.underlying50<|by kernel_rfl
theorem aDB:StructOf Tryz.prog 56 3:=.QI Tryz.underlying56<|by kernel_rfl
theorem UU:StructOf Tryz.prog 31 6:=.QI Tryz.underlying31<|by kernel_rfl
theorem aDC:StructOf Tryz.prog 26 3:=.QI Tryz.underlying26<|by kernel_rfl
theorem anT:StructOf Tryz.prog 95 4:=.QI Tryz.underlying95<|by kernel_rfl
def Boxed(w:World)(g:Nat)(p:Pt):Prop:=AO w g 50 #[.int .i64 p.x,.int .i64 p.y]
theorem Boxed.facts{w:World}{g:Nat}{p:Pt}(h:Boxed w g p):g<w.heap.size/\w.cell? ⟨g,0,none⟩=some (.int .i64 p.x)/\w.cell? ⟨g,1,none⟩=some (.int .i64 p.y)/\w.frozen? ⟨g,0,none⟩=false/\w.frozen? ⟨g,1,none⟩=false:=⟨h.lt,h.cell 0,h.cell 1,h.frozen 0,h.frozen 1⟩
theorem Boxed.keep{w w':World}{g:Nat}{p:Pt}(h:Boxed w g p)(hb:Below w.heap.size w w'):Boxed w' g p:=AO.keep h hb
theorem Boxed.EM{w:World}{g:Nat}{p q:Pt}(h:Boxed w g p):Boxed ((w.setCell ⟨g,0,none⟩<|.int .i64 q.x).setCell ⟨g,1,none⟩<|.int .i64 q.y) g q:=by have:=(AO.EM h 0<|.int .i64 q.x).EM 1<|.int .i64 q.y;unfold Boxed;simpa using this
theorem Boxed.far{w:World}{g:Nat}{p:Pt}(h:Boxed w g p){q:Addr}(c:g≠q.block)(u:Value):Boxed (w.setCell q u) g p:=AO.far h c u
theorem Boxed.new(w:World)(p:Pt){g:Nat}(h:g=w.heap.size):Boxed (w.alloc<|.cells #[.int .i64 p.x,.int .i64 p.y] 50) g p:=AO.made h _ _
theorem Boxed.alloc{w:World}{g:Nat}{p:Pt}(h:Boxed w g p)(o:Obj):Boxed (w.alloc o) g p:=AO.alloc h o
theorem Boxed.drew{w:World}{g:Nat}{p:Pt}(h:Boxed w g p):Boxed w.drew g p:=h
def CU(a b:Pt):Bool:=decide (a.x<b.x)||decide (a.x=b.x)&&decide (a.y<b.y)
theorem Vd(a b:Pt)(W:World):(binOp .eql 50 (.agg #[.int .i64 a.x,.int .i64 a.y])<|.agg #[.int .i64 b.x,.int .i64 b.y]).run Tryz.prog W=.ok (.bool<|decide<|a=b) W:=by
 by_cases h:a=b;.subst h;go_simp
 have c:¬(a.x=b.x/\a.y=b.y):=λe=>h<|Pt.ext_iff'.2 e;by_cases hx:(a.x==b.x)=true
 .have o:(a.y==b.y)=false:=by
   have:a.x=b.x:=by simpa using hx
   simpa[this]using c
  go_simp
 have j:(a.x==b.x)=false:=by simpa using hx
 clear hx;go_simp
theorem afM(a b:Pt)(W:World):(binOp .neq 50 (.agg #[.int .i64 a.x,.int .i64 a.y])<|.agg #[.int .i64 b.x,.int .i64 b.y]).run Tryz.prog W=.ok (.bool<|!decide (a=b)) W:=by
 by_cases h:a=b;.subst h;go_simp
 have c:¬(a.x=b.x/\a.y=b.y):=λe=>h<|Pt.ext_iff'.2 e;by_cases hx:(a.x==b.x)=true
 .have o:(a.y==b.y)=false:=by
   have:a.x=b.x:=by simpa using hx
   simpa[this]using c
  go_simp
 have j:(a.x==b.x)=false:=by simpa using hx
 clear hx;go_simp
theorem Nd.ext_iff'{a b:Nd}:a=b↔a.id=b.id/\a.pt.x=b.pt.x/\a.pt.y=b.pt.y:=by rcases a with⟨i,⟨x,y⟩⟩;rcases b with⟨c,⟨j,o⟩⟩;simp
section
variable{P:Program}{ops:Array Oper}{Q:Exit->Act->World->Prop}{w0:World}
def Since(w0:World):World->Prop:=λw=>Below w0.heap.size w0 w
end
section
variable{P:Program}{ops:Array Oper}{Q:Exit->Act->World->Prop}{w0 w1 w2:World}{row:Option Nat}
def aV(w0:World)(row:Option Nat):World->Prop:=λw=>w0.grownBy w row
theorem gR(w:World)(row:Option Nat):w.grownBy w row:=World.grownBy.refl w row
theorem gT(h:w0.grownBy w1 row)(k:w1.grownBy w2 row):w0.grownBy w2 row:=⟨k.os.trans h.os,k.tape.trans h.tape,k.output.trans h.output,Nat.le_trans h.size k.size,λi hi c=>(k.block i (Nat.lt_of_lt_of_le hi h.size) c).trans<|h.block i hi c⟩
theorem gB(h:w0.grownBy w1 row)(k:Below w1.heap.size w1 w2):w0.grownBy w2 row:=gT h ⟨k.os,k.tape,k.output,k.size,λi hi _=>k.block i hi⟩
theorem gA(h:w0.grownBy w1 row)(o:Obj):w0.grownBy (w1.alloc o) row:=gB h<|bA (bR w1) o
theorem gD(h:w0.grownBy w1 row):w0.grownBy w1.drew row:=gB h<|bD<|bR w1
theorem gOf(h:Below w0.heap.size w0 w1):w0.grownBy w1 row:=gB (gR w0 row) h
theorem aaO{c:World}(s:w0.grownBy c row):(∀b o,b<w0.heap.size->some b≠row->c.cell? ⟨b,o,none⟩=w0.cell? ⟨b,o,none⟩)/\∀b o,b<w0.heap.size->some b≠row->c.frozen? ⟨b,o,none⟩=w0.frozen? ⟨b,o,none⟩:=by
 refine⟨λb o h j=>?_,λb o h j=>?_⟩;.have:=s.block b h j;simp only[World.cell?,this]
 have:=s.block b h j;simp only[World.frozen?,this]
theorem afN{W:World}{B:Nat}(h:Below B W w0)(c:B<=w0.heap.size)(g:w0.grownBy w1 row)(j:∀k,row=some k->B<=k):Below B W w1:=h.grown g c j
theorem AO.grow{g:Nat}{t:TypeId}{cs:Array Value}(h:AO w0 g t cs)(hb:w0.grownBy w1 row)(c:some g≠row):AO w1 g t cs:=(hb.block g h.lt c).trans h
theorem Row.grow{A:Option Addr}{xs:List Value}(h:Row w0 A xs)(hb:w0.grownBy w1 row)(s:∀a,A=some a->some a.block≠row):Row w1 A xs:=by intro c;obtain⟨b,o,rfl,hlt,z⟩:=h c;exact⟨b,o,rfl,Nat.lt_of_lt_of_le hlt hb.size,λj v C=>by rw[(aaO hb).1 b _ hlt<|s _ rfl];exact z j v C⟩
end
inductive JV where|done|take(i m:Nat)(r:JV)|call(i m:Nat)(r:JV)|two(i m:Nat)(r:JV)(j m':Nat)(s:JV)
def JV.run:Nat->Nat->Nat->JV->JV|0,_,_,r=>r|n+1,i,m,r=>.take i (m|||1<<<i)<|JV.run n (i+1) (m|||1<<<i) r
def JV.depth:JV->Nat|.done=>0|.take _ _ r=>r.depth+1|.call _ _ r=>r.depth+1|.two _ _ r _ _ s=>Nat.max r.depth s.depth+1
def dI(ops:Array Oper):JV->Array Bool->Prop|.done,l=>Region.ready .any ops l=[]|.take i _ r,l=>Region.free .any ops l i=true/\(Region.ready .any ops l).contains i=true/\dI ops r (l.setIfInBounds i true)|.call i _ r,l=>Region.ready .any ops l=[i]/\dI ops r (l.setIfInBounds i true)|.two i _ r j _ s,l=>Region.ready .any ops l=[i,j]/\dI ops r (l.setIfInBounds i true)/\dI ops s (l.setIfInBounds j true)
def aDD(m i:Nat):Bool:=m.testBit i
def yg(ops:Array Oper)(m i:Nat):Bool:=!aDD m i&&match ops[i]? with|some o=>o.after.all λe=>!Region.binds .any e||aDD m e.on|none=>false
def rJ(ops:Array Oper)(m:Nat):List Nat:=(List.range ops.size).filter<|yg ops m
def aaD(ops:Array Oper)(m i:Nat):Bool:=match ops[i]? with|none=>false|some oi=>(List.range ops.size).all λj=>Nat.beq j i||aDD m j||match ops[j]? with|some oj=>oj.after.any (λe=>Region.binds .any e&&Nat.beq e.on i)||oi.apart ops oj|none=>true
def Ve(ops:Array Oper):JV->Nat->Bool|.done,m=>(rJ ops m).isEmpty|.take i m' r,m=>Nat.beq m' (m|||1<<<i)&&(aaD ops m i&&(yg ops m i&&Ve ops r m'))|.call i m' r,m=>Nat.beq m' (m|||1<<<i)&&(decide (rJ ops m=[i])&&Ve ops r m')|.two i m' r j m'' s,m=>Nat.beq m' (m|||1<<<i)&&(Nat.beq m'' (m|||1<<<j)&&(decide (rJ ops m=[i,j])&&(Ve ops r m'&&Ve ops s m'')))
def Rx(n m:Nat):Array Bool:=Array.ofFn (n:=n) λi=>m.testBit i
theorem aDE(n m i:Nat)(h:i<n)(d:Bool):(Rx n m).getD i d=m.testBit i:=by simp[Rx,h]
theorem anU(n m i:Nat)(h:¬i<n):(Rx n m).getD i false=false:=by simp[Rx,h]
theorem aDF(n m i:Nat)(hi:i<n):(Rx n m).setIfInBounds i true=Rx n (m|||1<<<i):=by
 apply Array.ext;.simp[Rx]
 intro j h1 h2;have c:j<n:=by simpa[Rx]using h2
 simp only[Rx,Array.getElem_setIfInBounds,Array.getElem_ofFn,Nat.testBit_or,Nat.one_shiftLeft,Nat.testBit_two_pow];by_cases e:i=j;.subst e;simp
 have h3:j<(Array.ofFn (n:=n) λi=>m.testBit i).size:=by simpa using c
 have o:((Array.ofFn (n:=n) λi=>m.testBit i).setIfInBounds i true)[j]'(by simpa using c)=(Array.ofFn (n:=n) λi=>m.testBit i)[j]:=Array.getElem_setIfInBounds_ne h3 e;rw[o,Array.getElem_ofFn];simp[e]
theorem anV(n:Nat):Rx n 0=Array.replicate n false:=by
 apply Array.ext;.simp[Rx]
 intro j h1 h2;simp[Rx]
theorem aDG(ops:Array Oper)(m:Nat)(hm:m<2^ops.size):Region.ready .any ops (Rx ops.size m)=rJ ops m:=by unfold Region.ready rJ;apply List.filter_congr;intro i hi;have hi:=List.mem_range.1 hi;rw[aDE _ _ _ hi];unfold yg aDD;cases h:ops[i]? with|none=>simp|some o=>
  simp only[Option.map_some,Option.getD_some];congr 1;have:∀e:Edge,(!Region.binds .any e||(Rx ops.size m).getD e.on false)=(!Region.binds .any e||m.testBit e.on):=λe=>by
   by_cases he:e.on<ops.size;.rw[aDE _ _ _ he]
   rw[anU _ _ _ he,Nat.testBit_lt_two_pow<|Nat.lt_of_lt_of_le hm<|Nat.pow_le_pow_right (by omega)<|by omega]
  simp only[this]
theorem afO(a b:Nat):Nat.beq a b=(a==b):=by rw[Bool.eq_iff_iff];simp[Nat.beq_eq]
theorem anW(ops:Array Oper)(m i:Nat):Region.free .any ops (Rx ops.size m) i=aaD ops m i:=by unfold Region.free aaD;cases ops[i]? with|none=>rfl|some oi=>
  simp only[];rw[Bool.eq_iff_iff,List.all_eq_true,List.all_eq_true];constructor;.intro h j c;have:=h j c;rw[aDE _ _ _<|List.mem_range.1 c]at this;simp only[afO];exact this
  .intro h j c;rw[aDE _ _ _<|List.mem_range.1 c];have:=h j c;simp only[afO]at this;exact this
theorem aDH{n m i:Nat}(hm:m<2^n)(hi:i<n):m|||1<<<i<2^n:=by apply Nat.or_lt_two_pow hm;rw[Nat.shiftLeft_eq,Nat.one_mul];exact Nat.pow_lt_pow_right (by omega) hi
theorem anX{ops:Array Oper}{m i:Nat}(h:yg ops m i=true):i<ops.size:=by unfold yg at h;cases ho:ops[i]? with|none=>simp[ho]at h|some o=>exact(Array.getElem?_eq_some_iff.1 ho).1
theorem aaE{ops:Array Oper}{m i:Nat}(h:i∈rJ ops m):i<ops.size:=List.mem_range.1 (List.mem_filter.1 h).1
theorem yj(ops:Array Oper):∀(p:JV)(m:Nat),m<2^ops.size->Ve ops p m=true->dI ops p (Rx ops.size m)
 |.done,m,hm,h=>by simp only[Ve,List.isEmpty_iff]at h;show Region.ready .any ops _=[];rw[aDG _ _ hm,h]|.take i m' r,m,hm,h=>by
  simp only[Ve,Bool.and_eq_true,Nat.beq_eq]at h;obtain⟨h1,h2,h3,c⟩:=h;have hi:=anX h3;refine⟨by rw[anW];exact h2,?_,?_⟩;.rw[aDG _ _ hm,List.contains_iff_mem];exact List.mem_filter.2 ⟨List.mem_range.2 hi,h3⟩
  rw[aDF _ _ _ hi,<-h1];exact yj ops r m' (by rw[h1];exact aDH hm hi) c|.call i m' r,m,hm,h=>by simp only[Ve,Bool.and_eq_true,Nat.beq_eq,decide_eq_true_eq]at h;obtain⟨h1,h2,h3⟩:=h;have hi:i<ops.size:=aaE (m:=m) (by rw[h2];simp);refine⟨by rw[aDG _ _ hm,h2],?_⟩;rw[aDF _ _ _ hi,<-h1];exact yj ops r m' (by rw[h1];exact aDH hm hi) h3|.two i m' r j m'' s,m,hm,h=>by
  simp only[Ve,Bool.and_eq_true,Nat.beq_eq,decide_eq_true_eq]at h;obtain⟨h1,h2,h3,c,z⟩:=h;have hi:i<ops.size:=aaE (m:=m) (by rw[h3];simp);have o:j<ops.size:=aaE (m:=m) (by rw[h3];simp);refine⟨by rw[aDG _ _ hm,h3],?_,?_⟩;.rw[aDF _ _ _ hi,<-h1];exact yj ops r m' (by rw[h1];exact aDH hm hi) c
  rw[aDF _ _ _ o,<-h2];exact yj ops s m'' (by rw[h2];exact aDH hm o) z
section
variable{P:Program}{ops:Array Oper}{Q:Exit->Act->World->Prop}{S:World->Prop}
def JH(P:Program)(ops:Array Oper)(Q:Exit->Act->World->Prop)(S:World->Prop)(p:JV)(a:Act)(w:World):Prop:=∀(l:Array Bool)(f:Nat),Region.noSelect ops=true->dI ops p l->p.depth<=f->wpAnyH P .any ops Q S f l a w
theorem aDI{id:Nat}{a:Act}{w:World}(S:World->Prop)(p:JV)(hm:P.follows .mixedOrders=true)(hS:S w.drew)(j:Region.noSelect ops=true)(s:Ve ops p 0=true)(hd:p.depth<=ops.size)(h:∀c o,PLift (c=ops)->PLift (∀a w,Q .normal a w->o .normal a w)->S w.drew->JH P c (NoPanic o) S p a w.drew):(Code.region id ops true).wp P Q a w:=wp_region_noPanic<|wp_region_held_drew hm hS λhS=>h ops Q ⟨rfl⟩ ⟨λ_ _ h=>h⟩ hS _ _ j (by have:=yj ops p 0 (Nat.pow_pos<|by omega) s;rwa[anV]at this) hd
theorem FD{c:Array Oper}{l:List Oper}(h:PLift<|c=l.toArray){i:Nat}{o:Oper}(hi:l[i]?=some o):c[i]?=some o:=by rw[h.down];simpa using hi
theorem aaF{i m:Nat}{oi:Oper}{r:JV}{a:Act}{w:World}(hi:ops[i]?=some oi)(hS:S w)(h:∃v:Value,YieldsIf P ops S oi v a/\JH P ops (NoPanic Q) S r (a.put oi.dst v) w):JH P ops (NoPanic Q) S (.take i m r) a w:=by obtain⟨v,o,h⟩:=h;intro l f c j hd;simp only[dI]at j;cases f with|zero=>simp[JV.depth]at hd|succ f=>exact wpAnyH_take hi c j.1 j.2.1 (λ_ _ _ h=>h) o hS<|h _ _ c j.2.2<|by simpa[JV.depth]using hd
theorem Wj{i m:Nat}{oi:Oper}{r:JV}{a:Act}{w:World}(hi:ops[i]?=some oi)(h:∀c:Act->World->Prop,Shut (∀a w,S w->(S w->JH P ops (NoPanic Q) S r a w)->c a w)->if Region.wanted oi (yielded ops a.tmps)=true then Oper.wp P oi a w c<|NoPanic Q else c (a.put oi.dst undef) w):JH P ops (NoPanic Q) S (.call i m r) a w:=by intro l f j o hd;simp only[dI]at o;cases f with|zero=>simp[JV.depth]at hd|succ f=>exact wpAnyH_ready o.1 (by simp)<|AllReadyH.cons hi (λc hK=>h c<|λa w hS s=>hK.out a w hS λhS=>s hS _ _ j o.2<|by simpa[JV.depth]using hd) AllReadyH.nil
theorem QJ{i j m M:Nat}{oi z:Oper}{r s:JV}{a:Act}{w:World}(hi:ops[i]?=some oi)(T:ops[j]?=some z)(h:∀c:Act->World->Prop,Shut (∀a w,S w->(S w->JH P ops (NoPanic Q) S r a w)->c a w)->if Region.wanted oi (yielded ops a.tmps)=true then Oper.wp P oi a w c<|NoPanic Q else c (a.put oi.dst undef) w)(U:∀c:Act->World->Prop,Shut (∀a w,S w->(S w->JH P ops (NoPanic Q) S s a w)->c a w)->if Region.wanted z (yielded ops a.tmps)=true then Oper.wp P z a w c<|NoPanic Q else c (a.put z.dst undef) w):JH P ops (NoPanic Q) S (.two i m r j M s) a w:=by intro l f o C hd;simp only[dI]at C;cases f with|zero=>simp[JV.depth]at hd|succ f=>simp only[JV.depth,Nat.add_le_add_iff_right,Nat.max_le]at hd;exact wpAnyH_ready C.1 (by simp) (AllReadyH.cons hi (λc hK=>h c<|λa w hS K=>hK.out a w hS λhS=>K hS _ _ o C.2.1 hd.1)
  <|AllReadyH.cons T (λc hK=>U c<|λa w hS K=>hK.out a w hS λhS=>K hS _ _ o C.2.2 hd.2) AllReadyH.nil)
theorem rM{a:Act}{w:World}(h:Q .normal a w):JH P ops (NoPanic Q) S .done a w:=by intro l f _ c _;exact wpAnyH_done c (NoPanic.normal h) f
theorem Fb{o:Oper}{f:Nat->Option Bool}(h:o.guard=none):Region.wanted o f=true:=by unfold Region.wanted;rw[h]
theorem aaG{o og:Oper}{c:Array Value}{g d:Nat}{b:Bool}(h:o.guard=some (g,b))(j:ops[g]?=some og)(hd:og.dst=some d)(hv:c[d]?=some (.bool b)):Region.wanted o (yielded ops c)=true:=by unfold Region.wanted yielded;rw[h];simp only[j,Option.bind_some,hd,hv];simp
def aDJ(v:Value)(b:Bool):Bool:=match v with|.bool x=>x !=b|_=>true
theorem anY{o og:Oper}{c:Array Value}{g d:Nat}{b:Bool}{v:Value}(h:o.guard=some (g,b))(j:ops[g]?=some og)(hd:og.dst=some d)(hv:c[d]?=some v)(hb:aDJ v b=true):Region.wanted o (yielded ops c)=false:=by unfold Region.wanted yielded;rw[h];simp only[j,Option.bind_some,hd,hv];cases v<;>simp_all[aDJ]
theorem afP{l:List Oper}{i m:Nat}{oi:Oper}{r:JV}{a:Act}{w:World}{v:Value}(H:PLift<|ops=l.toArray)(hi:l[i]?=some oi)(hS:S w)(j:oi.guard=none)(o:∀c,S c->(execOp a.eval oi).run P c=.ok (.value v) c)(h:JH P ops (NoPanic Q) S r (a.put oi.dst v) w):JH P ops (NoPanic Q) S (.take i m r) a w:=aaF (FD H hi) hS ⟨v,.inl ⟨Fb j,o⟩,h⟩
theorem anZ{l:List Oper}{i m g d:Nat}{b:Bool}{oi og:Oper}{r:JV}{a:Act}{w:World}{v:Value}(H:PLift<|ops=l.toArray)(hi:l[i]?=some oi)(hS:S w)(j:oi.guard=some (g,b))(ho:l[g]?=some og)(hd:og.dst=some d)(hv:a.tmps[d]?=some (.bool b))(o:∀c,S c->(execOp a.eval oi).run P c=.ok (.value v) c)(h:JH P ops (NoPanic Q) S r (a.put oi.dst v) w):JH P ops (NoPanic Q) S (.take i m r) a w:=aaF (FD H hi) hS ⟨v,.inl ⟨aaG j (FD H ho) hd hv,o⟩,h⟩
theorem ana{l:List Oper}{i m g d:Nat}{b:Bool}{oi og:Oper}{r:JV}{a:Act}{w:World}{v:Value}(H:PLift<|ops=l.toArray)(hi:l[i]?=some oi)(hS:S w)(c:oi.guard=some (g,b))(ho:l[g]?=some og)(hd:og.dst=some d)(hv:a.tmps[d]?=some v)(hb:aDJ v b=true)(h:JH P ops (NoPanic Q) S r (a.put oi.dst undef) w):JH P ops (NoPanic Q) S (.take i m r) a w:=aaF (FD H hi) hS ⟨undef,.inr ⟨anY c (FD H ho) hd hv hb,rfl⟩,h⟩
theorem pu1{α:Type}(l:List α)(i:Nat)(x:α):l.toArray.setIfInBounds i x=(l.set i x).toArray:=by simp
theorem pu2{α:Type}(l:List α)(y x:α):(y::l).set 0 x=x::l:=rfl
theorem pu3{α:Type}(l:List α)(y x:α)(n:Nat):(y::l).set (n+1) x=y::l.set n x:=rfl
theorem pu:(∀(a:Act)(t:Tmp)(v:Value),a.put (some t) v={a with tmps:=a.tmps.setIfInBounds t v})/\(∀(a:Act)(v:Value),a.put none v=a)/\(∀(l:List Value)(i:Nat)(x:Value),l.toArray.setIfInBounds i x=(l.set i x).toArray)/\(∀(l:List Value)(y x:Value),(y::l).set 0 x=x::l)/\∀(l:List Value)(y x:Value)(n:Nat),(y::l).set (n+1) x=y::l.set n x:=⟨λ_ _ _=>rfl,λ_ _=>rfl,pu1,pu2,pu3⟩
theorem Fp{C:Prop}[Decidable C]{A B:Prop}(c:C)(h:A):if C then A else B:=by rw[if_pos c];exact h
end
def Fh(B:Nat)(w0:World):World->Prop:=λw=>Below B w0 w
theorem aaH{B:Nat}{W w1:World}(hb:Below B W w1):(∀b o,b<B->w1.cell? ⟨b,o,none⟩=W.cell? ⟨b,o,none⟩)/\∀b o,b<B->w1.frozen? ⟨b,o,none⟩=W.frozen? ⟨b,o,none⟩:=⟨λb o h=>hb.cell (p:=⟨b,o,none⟩) h,λb o h=>hb.frozen (p:=⟨b,o,none⟩) h⟩
def Nj(w w':World):Prop:=Below w.heap.size w w'/\w.drawn<=w'.drawn
theorem Nj.below{w w':World}(h:Nj w w'):Below w.heap.size w w':=h.1
theorem dR(w:World):w.drawn<=w.drawn:=Nat.le_refl _
section
variable{n:Nat}{w w':World}
theorem dA(h:n<=w.drawn)(o:Obj):n<=(w.alloc o).drawn:=h
theorem dD(h:n<=w.drawn):n<=w.drew.drawn:=Nat.le_succ_of_le h
theorem dT(h:n<=w.drawn)(k:w.drawn<=w'.drawn):n<=w'.drawn:=Nat.le_trans h k
end
theorem anb{P:Program}{U:Func}{p q:Tmp}{j c:TypeId}{R:Ending->World->Prop}{a:Act}{w:World}{g g':Nat}{cs cs':Array Value}(h:U.results=#[.cell p j,.cell q c])(hS:StructOf P j cs.size)(o:StructOf P c cs'.size)(hp:a.tmps.getD p undef=.pointer (some ⟨g,0,none⟩))(hq:a.tmps.getD q undef=.pointer (some ⟨g',0,none⟩))(hd:a.defers=[])(hb:AO w g j cs)(s:AO w g' c cs')(hR:R (.returned<|.tuple #[.agg cs,.agg cs']) w):bodyPost P U R .ret a w:=by
 obtain⟨fs,h1,h3⟩:=hS;obtain⟨z,C,K⟩:=o;refine bodyPost_ret ?_ hd hR;have e1:=run_loadVar_row (P:=P) w g j j cs (0,0) (.struct fs) hb h1 rfl h3;have e2:=run_loadVar_row (P:=P) w g' c c cs' (0,0) (.struct z) s C rfl K;have M:a.tmps[p]?.getD undef=.pointer (some ⟨g,0,none⟩):=by simpa using hp
 have T:a.tmps[q]?.getD undef=.pointer (some ⟨g',0,none⟩):=by simpa using hq
 simp only[results,h];simp[M,T,asAddr,Sem.run_bind,Sem.run_pure,Result.andThen,e1,e2]
section
variable{P:Program}{ops:Array Oper}{Q:Exit->Act->World->Prop}
end
def nH(p:Pt):DataW Unit:=.agg [.lit<|.int .i64 p.x,.lit<|.int .i64 p.y]
def aDK:Value->Option (DataW Unit×List MemPlace)
 |.agg cs=>match cs.toList with|[.int .i64 x,.int .i64 y]=>some (nH ⟨x,y⟩,[])|_=>none
 |_=>none
theorem afQ(p:Pt):aDK (BD p)=some (nH p,[]):=rfl
theorem anc{v:Value}{p:Pt}{ps:List MemPlace}(h:aDK v=some (nH p,ps)):v=BD p:=by
 unfold aDK at h;split at h
 .rename_i cs;split at h
  .rename_i x y c;simp only[Option.some.injEq,Prod.mk.injEq,nH,DataW.agg.injEq,List.cons.injEq,DataW.lit.injEq,Lit.int.injEq,and_true,true_and]at h;obtain⟨⟨rfl,rfl⟩,-⟩:=h;have:cs=#[.int .i64 p.x,.int .i64 p.y]:=by rw[<-Array.toList_inj];exact c
   rw[this];rfl
  cases h
 cases h
def z0:Pt:=⟨0,0⟩
def Eb(id:Int):Prop:=(Lit.int .i64 id).wf=true
theorem L8{id:Int}(h1:-9223372036854775808<=id)(h2:id<=9223372036854775807):Eb id:=WalkArith.wf_i64 ⟨h1,h2⟩
def Jp(w:World)(b n:Nat)(f:Int->Pt):Prop:=∃D:DataW Unit,w.ownsMap Tryz.prog 3 aDK b n D/\Maps.IsMap D/\∀id,D.atKey (.int .i64 id) (nH z0)=nH (f id)
theorem Jp.kept{w w':World}{b n:Nat}{f:Int->Pt}(h:Jp w b n f){row:Option Nat}(c:w.grownBy w' row)(j:some b≠row):Jp w' b n f:=by obtain⟨D,h1,h2⟩:=h;exact⟨D,h1.kept c j,h2⟩
theorem Jp.keep{w w':World}{b n:Nat}{f:Int->Pt}(h:Jp w b n f)(hb:Below w.heap.size w w'):Jp w' b n f:=h.kept (row:=none) ⟨hb.os,hb.tape,hb.output,hb.size,λi hi _=>hb.block i hi⟩<|by simp
theorem Jp.lt{w:World}{b n:Nat}{f:Int->Pt}(h:Jp w b n f):b<w.heap.size:=by obtain⟨D,h1,h2⟩:=h;exact h1.lt
theorem Jp.made(w:World):Jp (w.alloc<|.map #[] 0) w.heap.size 0 λ_=>z0:=⟨.map [],World.ownsMap_made _ _ _ _,⟨_,rfl⟩,λ_=>rfl⟩
theorem Xr:Maps.Keyed Tryz.prog 3:=Maps.int_keyed Tryz.underlying3
theorem ane(w:World):(zeroValue 50).run Tryz.prog w=.ok (BD z0) w:=by kernel_rfl
theorem Jp.look{w:World}{b n:Nat}{f:Int->Pt}(h:Jp w b n f)(id:Int)(hid:Eb id):(Instr.lookup 193 (.map<|some b) (.int .i64 id) false).run Tryz.prog w=.ok (BD<|f id) w:=by obtain⟨D,h1,-,h2⟩:=h;obtain⟨v,ps,c,hv⟩:=h1.lookup Xr Tryz.underlying193 (ane w) (afQ z0)<|Maps.keyOf_int_mk Tryz.underlying3 hid;rw[h2]at hv;rw[c,anc hv]
theorem Jp.upd{w:World}{b n:Nat}{f:Int->Pt}(h:Jp w b n f)(hn:n<4294967296)(id:Int)(hid:Eb id)(p:Pt):∃w',(Instr.mapUpdate 193 (.map<|some b) (.int .i64 id)<|BD p).run Tryz.prog w=.ok () w'/\Jp w' b (n+1) (λi=>if i=id then p else f i)/\w.grownBy w' (some b):=by
 obtain⟨D,h1,hm,h2⟩:=h;obtain⟨w',c,ho,j⟩:=h1.update Xr Tryz.underlying193 (by unfold maxLen;omega) (Maps.keyOf_int_mk Tryz.underlying3 hid)<|afQ p;refine⟨w',c,⟨_,ho,?_,λi=>?_⟩,j⟩;.obtain⟨o,rfl⟩:=hm;exact⟨_,rfl⟩
 show _=nH (if i=id then p else f i);by_cases e:i=id;.subst e;rw[if_pos rfl];exact Maps.atKey_put_same hm (by trivial) _ _
 rw[if_neg e,Maps.atKey_put_other λh=>e<|by injection h,h2]
def nI(A:Option Addr)(c k size:Nat):Option Addr:=if c=k then A else A.map (·.add<|k*size)
theorem Row.cut{w:World}{A:Option Addr}{xs:List Value}(h:Row w A xs){k size c:Nat}(T:xs.length<=c*size):Row w (nI A c k size)<|xs.drop<|k*size:=by
 intro s;unfold nI;have hlt:k*size<xs.length:=by
  rcases Nat.lt_or_ge (k*size) xs.length with z|z;.exact z
  exact absurd (List.drop_of_length_le z) s
 have C:¬c=k:=λe=>by subst e;omega
 rw[if_neg C];obtain⟨b,o,rfl,hb,M⟩:=h (by rintro rfl;simp at hlt);refine⟨b,o+k*size,?_,hb,λj v K=>?_⟩
 .simp only[Option.map_some,Addr.add];split;.rename_i h0;simp[h0]
  rfl
 rw[List.getElem?_drop]at K;have:=M _ v K;rwa[<-Nat.add_assoc]at this
theorem afR{P:Program}{t e:TypeId}{size:Nat}(s:P.underlying t=some (.slice e))(j:∀w,(sizeOf e).run P w=.ok size w)(A:Option Addr)(n c k:Nat)(hk:k<=n)(i:Int)(hi:i=k)(w:World):(Instr.slice t (.slice A n c) (some<|.int .i64 i) none none).run P w=.ok (.slice (nI A c k size) (n-k)<|c-k) w:=by
 subst hi;have z:P.elem t=e:=by simp[Program.elem,s]
 have o:P.underlying t=some (.slice<|P.elem t):=by rw[z];exact s
 rw[run_slice_l w t A n c o .i64 (k:Int) (by omega)<|by omega,z,j];simp[Result.andThen,sliced,nI]
theorem afS{α:Type}(f:α->List Value)(n:Nat)(hn:∀a,(f a).length=n)(l:List α)(k:Nat):(l.flatMap f).drop (k*n)=(l.drop k).flatMap f:=by induction k generalizing l with|zero=>simp|succ k c=>cases l with|nil=>simp|cons a l=>rw[List.flatMap_cons,List.drop_succ_cons,<-c,Nat.succ_mul,Nat.add_comm,<-List.drop_drop,List.drop_left'<|hn a]
theorem Row.take{α:Type}{w:World}{A:Option Addr}{f:α->List Value}{l:List α}(h:Row w A<|l.flatMap f)(i:Nat):Row w A<|(l.take i).flatMap f:=by
 have e:l.flatMap f=(l.take i).flatMap f++(l.drop i).flatMap f:=by rw[<-List.flatMap_append,List.take_append_drop]
 rw[e]at h;intro c;obtain⟨b,o,C,hb,K⟩:=h λh0=>c (List.append_eq_nil_iff.1 h0).1;refine⟨b,o,C,hb,λj v s=>K j v ?_⟩;rw[List.getElem?_append_left];.exact s
 rcases Nat.lt_or_ge j ((l.take i).flatMap f).length with z|z;.exact z
 rw[List.getElem?_eq_none z]at s;cases s
theorem anf{P:Program}{t e:TypeId}{size:Nat}(s:P.underlying t=some (.slice e))(j:∀w,(sizeOf e).run P w=.ok size w)(A:Option Addr)(n c k:Nat)(hk:k<=n)(C:n<=c)(w:World):(Instr.slice t (.slice A n c) none (some<|.int .i64 (k:Int)) none).run P w=.ok (.slice A k c) w:=by
 have z:P.elem t=e:=by simp[Program.elem,s]
 have o:P.underlying t=some (.slice<|P.elem t):=by rw[z];exact s
 rw[run_slice_h w t A n c o .i64 (k:Int) (by omega)<|by omega,z,j];have:A.map (λx=>x.add 0)=A:=by cases A<;>simp[Addr.add]
 simp[Result.andThen,sliced,this]
theorem Sl.ang{α:Type}{w:World}{A:Option Addr}{c:Nat}{f:α->List Value}{l:List α}(h:Sl w (.slice A l.length c) l.length<|l.flatMap f)(i:Nat)(hi:i<=l.length):Sl w (.slice A i c) (l.take i).length<|(l.take i).flatMap f:=by
 obtain⟨K,M,j,h1,h2,o⟩:=h;injection j with s T z;subst s z;have C:(l.take i).length=i:=by rw[List.length_take];omega
 rw[C];exact⟨_,_,rfl,by omega,h2,o.take i⟩
theorem Sl.from_{α:Type}{w:World}{A:Option Addr}{c size:Nat}{f:α->List Value}(j:∀a,(f a).length=size){l:List α}(h:Sl w (.slice A l.length c) l.length<|l.flatMap f)(i:Nat)(hi:i<=l.length):Sl w (.slice (nI A c i size) (l.length-i)<|c-i) (l.drop i).length<|(l.drop i).flatMap f:=by obtain⟨K,M,o,h1,h2,s⟩:=h;injection o with z T C;subst z C;rw[List.length_drop];refine⟨_,_,rfl,by omega,by omega,?_⟩;rw[<-afS f size j];exact s.cut<|by rw[flat_length f size j];exact Nat.mul_le_mul_right _ h1
