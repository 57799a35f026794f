import Derived.Test.YtialfdomhoojiaaGreatJ18
import Derived.Test.YtialfdomhoojiaaGreatJ09
import Derived.Test.YtialfdomhoojiaaGreatJ12
import Derived.Test.YtialfdomhoojiaaGreatJ15
import Derived.Test.YtialfdomhoojiaaGreatJ14
import Derived.Test.YtialfdomhoojiaaGreatJ17
import Derived.Test.YtialfdomhoojiaaGreatJ13
import Derived.Test.YtialfdomhoojiaaGreatJ08
set_option linter.unusedSimpArgs false
set_option linter.unusedVariables false
namespace Go.Proofs.YtialfdomhoojiaaGreat
open Go.RowKit

def AdR (w:World) (v:Value) (L:List AD):Prop:=Sl w v L.length (L.flatMap adC)∧∀ x∈L,Ints w (svV x.ov) x.out
theorem AdR.mono {w w':World} {v:Value} {L:List AD} (h:AdR w v L) (hb:Below w.heap.size w w'):AdR w' v L:=⟨h.1.mono hb,fun x hx=>(h.2 x hx).mono hb⟩
theorem Row.ad {w:World} {A:Option Addr} {l:List AD} (h:Row w A (l.flatMap adC)) {k:Nat} (hk:k<l.length) :
  ∃ b o,A=some ⟨b,o,none⟩∧b<w.heap.size∧w.cell? ⟨b,o+k*4,none⟩=some (.int .i64 l[k].tw)∧w.cell? ⟨b,o+k*4+1,none⟩=some (svV l[k].ov)∧w.cell? ⟨b,o+k*4+2,none⟩=some (svV l[k].iv)∧w.cell? ⟨b,o+k*4+3,none⟩=some (svV l[k].av):=by
 obtain ⟨b,o,hA,hb,hc⟩:=h.at_ (n:=4) (fun _=>rfl) hk (by omega)
 exact ⟨b,o,hA,hb,hc 0 _ rfl,hc 1 _ rfl,hc 2 _ rfl,hc 3 _ rfl⟩
def bestIx (p:Pl) (v:Pt) (L:List AD) (k b:Nat):Prop :=
 (b=0∧bestC (fun x:AD=>encS p x.out v) (·.tw) (L.tail.take k)=none)∨∃ hb:b<L.length,1≤b∧b≤k∧bestC (fun x:AD=>encS p x.out v) (·.tw) (L.tail.take k)=some L[b]
theorem tail_get {L:List AD} {k:Nat} (hk:k+1<L.length):L.tail.take (k+1)=L.tail.take k++[L[k+1]]:=by
 cases L with
 | nil=>cases hk
 | cons a L=>simp only [List.tail_cons,List.getElem_cons_succ];exact List.take_succ_eq_append_getElem (by simpa using hk)
theorem bestIx_zero (p:Pl) (v:Pt) (L:List AD):bestIx p v L 0 0:=.inl ⟨rfl,by rw [List.take_zero];rfl⟩
theorem bestIx_take {p:Pl} {v:Pt} {L:List AD} {k b:Nat} (h:bestIx p v L k b) (hk:k+1<L.length) (hE:encS p L[k+1].out v=true) (hlt:b=0∨∃ hb:b<L.length,L[k+1].tw<L[b].tw):bestIx p v L (k+1) (k+1):=by
 refine .inr ⟨hk,by omega,Nat.le_refl _,?_⟩
 rw [tail_get hk,best_snoc]
 unfold bestStep
 rcases h with ⟨rfl,e⟩ | ⟨hb,h1,h2,e⟩
 · rw [e];simp [hE]
 ·
  rw [e]
  rcases hlt with g | ⟨_,g⟩
  · omega
  · simp [hE,g]
theorem bestIx_skip {p:Pl} {v:Pt} {L:List AD} {k b:Nat} (h:bestIx p v L k b) (hk:k+1<L.length) (hno:encS p L[k+1].out v=false∨(b≠0∧∃ hb:b<L.length,¬ L[k+1].tw<L[b].tw)):bestIx p v L (k+1) b:=by
 rcases h with ⟨rfl,e⟩ | ⟨hb,h1,h2,e⟩
 ·
  refine .inl ⟨rfl,?_⟩
  rw [tail_get hk,best_snoc,e]
  rcases hno with g | ⟨g,-⟩
  · unfold bestStep;simp [g]
  · exact absurd rfl g
 ·
  refine .inr ⟨hb,h1,by omega,?_⟩
  rw [tail_get hk,best_snoc,e]
  unfold bestStep
  rcases hno with g | ⟨-,_,g⟩
  · simp [g]
  · simp [g]

set_option maxRecDepth 100000 in
set_option maxHeartbeats 8000000 in
theorem Find_spec (w:World) (gm:Nat) (p:Pl) (f:Int→SV) (hpm:PathsM w gm p f) (hv:Valid p) (vl:Value) (L:List AD) (hL:AdR w vl L) (hd:∀ x∈L,∀ d∈x.out,d∈dartsD p) (hl:L.length≤1000) (v:Pt) (nv:near1 v=true) :
  Calls Tryz.prog 70 #[.map (some gm),vl,ptV v] w fun e w'=>(∃ b:Nat,e=.returned (.int .i64 b)∧bestIx p v L (L.length-1) b)∧Below w.heap.size w w':=by
 have HEn:=Lib.hid (fun k (hk:k<L.length) W (hW:Below w.heap.size w W)=>Encloses_spec W gm p f (hpm.keep hW) hv _ L[k].out ((hL.2 _ (List.getElem_mem hk)).mono hW) (hd _ (List.getElem_mem hk)) v nv)
 obtain ⟨⟨Al,cl,rfl,hc1,hc2,hR⟩,-⟩:=hL
 unfold maxLen at hc2
 have HR:=Lib.hid hR
 unfold ptV at HEn ⊢
 clear hR hpm hv hd nv
 go_enter Tryz.func70,Tryz.ntmps70
 go_upto_block 0 with fail
 obtain ⟨W1,hW⟩:∃ W1:World,W1=w.alloc (.cells #[.int .i64 v.x,.int .i64 v.y] 39):=⟨_,rfl⟩
 have HB1:=Lib.hid (show Below w.heap.size w W1 by rw [hW];exact bA (bR w) _)
 have HX1:=Lib.hid (show Blk W1 w.heap.size 39 #[.int .i64 v.x,.int .i64 v.y] by rw [hW];exact Blk.made rfl _ _)
 rw [← hW]
 clear hW
 go_wp2_with fail
 go_loopw [7,8] (fun s i wr=>∃ k b:Nat,(k+1≤L.length∨k=0)∧i=.int .i64 ((k:Int)+1)∧s=.int .i64 b∧bestIx p v L k b∧Below W1.heap.size W1 wr) (fun _ i _=>L.length-(intOf i).toNat)
 case atStart => exact ⟨0,0,.inr rfl,rfl,rfl,bestIx_zero p v L,bR W1⟩
 case round =>
  obtain ⟨k,b,hk,rfl,rfl,hbx,hb⟩:=hrel
  have HBx:=Lib.hid hbx;have Hb:=Lib.hid (bT HB1.out hb)
  have HBw:=Lib.hid hb
  have X5:=HX1.out.keep hb
  clear hb
  by_cases hlt:k+1<L.length
  ·
   obtain ⟨bq,oq,rfl,hlb,c0,c1,-,-⟩:=(HR.out.mono Hb.out).ad hlt
   have HE:=Lib.hid (HEn.out (k+1) hlt)
   obtain ⟨E,hE⟩:∃ E,encS p L[k+1].out v=E:=⟨_,rfl⟩
   rw [hE] at HE
   have HEe:=Lib.hid hE
   clear hE
   have k1:IntKind.i64.wrap ((k:Int)+1)=(k:Int)+1:=IntWalk.i64_in _ (by omega)
   have k2:(k:Int)+1<L.length:=by omega
   have k3:0≤(k:Int)+1:=by omega
   have HTw:=Lib.hid (show ∀ t,L[k+1].tw=t→∀ b':Nat,b=b'→True from fun _ _ _ _=>trivial)
   clear HTw
   rcases HBx.out with ⟨hb0,-⟩ | ⟨hbl,hb1,hb2,-⟩
   ·
    subst hb0
    have hyes:=Lib.hid (fun h=>bestIx_take HBx.out hlt (HEe.out.trans h) (.inl rfl))
    have hnot:=Lib.hid (fun h=>bestIx_skip HBx.out hlt (.inl (HEe.out.trans h)))
    generalize L[k+1].tw=t at *
    generalize L[k+1].ov=sv at *
    obtain ⟨sa,sn,sc⟩:=sv
    unfold svV at c1 HE
    obtain ⟨X5l,X5a,X5b,-,-⟩:=X5.facts2
    go_upto_region 5 with fail
    refine rg_start (Since wr) (.run 23 0 0 (.call 23 16777215 (.take 24 33554431 (.done)))) (by kernel_rfl) (bD (bR _)) (by kernel_rfl) (by kernel_rfl) (Nat.le_of_ble_eq_true (by kernel_rfl)) ?_
    intro opsR QR Hops HQrg hS
    iterate 3
     apply rg_p;exact Hops;exact rfl;exact hS;exact rfl
     · intro _ hqc;go_simp;try rfl
     try simp only [pu]
    iterate 11
     refine rg_yn Hops rfl hS rfl rfl rfl rfl rfl ?_
     try simp only [pu]
    iterate 2
     apply rg_p;exact Hops;exact rfl;exact hS;exact rfl
     · intro _ hqc;go_simp;try rfl
     try simp only [pu]
    iterate 7
     apply rg_g;exact Hops;exact rfl;exact hS;iterate 4 exact rfl
     · intro _ hqc;go_simp;try rfl
     try simp only [pu]
    refine rg_call (i:=23) (get_of Hops rfl) (fun K hK=>?_)
    have HSrg:=Lib.hid hS;clear hS
    refine rg_run (wanted_yes rfl (get_of Hops rfl) rfl rfl) ?_
    go_simp
    refine (HE.out _ (bT Hb.out HSrg.out)).mono ?_
    rintro e wr1 ⟨rfl,hbr1⟩
    have hS:Since wr wr1:=bT (w:=wr) HSrg.out hbr1
    clear HSrg
    refine hK.out _ _ hS (fun _=>?_)
    clear hK K
    try simp only [pu]
    apply rg_p;exact Hops;exact rfl;exact hS;exact rfl
    · intro _ hqc;go_simp;try rfl
    try simp only [pu]
    refine rg_done ?_
    refine HQrg.down _ _ ?_
    have hB:Below wr.heap.size wr wr1:=hS
    clear hS HQrg Hops
    have HB5:=Lib.hid (bT HBw.out hB)
    clear hB c0 c1 X5 X5l X5a X5b
    cases E
    ·
     go_wp2_with fail
     go_roundw
     case rel => exact ⟨k+1,0,.inl (by omega),by go_num,rfl,hnot.out rfl,HB5.out⟩
     case measure => simp [intOf];omega
    ·
     go_wp2_with fail
     go_roundw
     case rel => exact ⟨k+1,k+1,.inl (by omega),by go_num,by go_num,hyes.out rfl,HB5.out⟩
     case measure => simp [intOf];omega
   ·
    obtain ⟨bq',oq',hA',-,e0,-,-,-⟩:=(HR.out.mono Hb.out).ad hbl
    injection hA' with hA'
    injection hA' with y1 y2 _
    subst y1 y2
    have k4:IntKind.i64.wrap (b:Int)=b:=IntWalk.i64_in _ (by omega)
    have k5:(b:Int)<L.length:=by omega
    have k6:0≤(b:Int):=by omega
    have kb:((b:Int) == 0)=false:=by simp;omega
    have hyes:=Lib.hid (fun h g=>bestIx_take HBx.out hlt (HEe.out.trans h) (.inr ⟨hbl,g⟩))
    have hnot:=Lib.hid (fun h=>bestIx_skip HBx.out hlt (.inl (HEe.out.trans h)))
    have hnot2:=Lib.hid (fun g=>bestIx_skip HBx.out hlt (.inr ⟨by omega,hbl,g⟩))
    generalize L[b].tw=tb at *
    generalize L[k+1].tw=t at *
    generalize L[k+1].ov=sv at *
    obtain ⟨sa,sn,sc⟩:=sv
    unfold svV at c1 HE
    try clear X5l
    try clear X5a
    try clear X5b
    obtain ⟨X5l,X5a,X5b,-,-⟩:=X5.facts2
    by_cases hlt2:t<tb
    ·
     go_upto_region 5 with fail
     refine rg_start (Since wr) (.run 23 0 0 (.call 23 16777215 (.take 24 33554431 (.done)))) (by kernel_rfl) (bD (bR _)) (by kernel_rfl) (by kernel_rfl) (Nat.le_of_ble_eq_true (by kernel_rfl)) ?_
     intro opsR QR Hops HQrg hS
     iterate 3
      apply rg_p;exact Hops;exact rfl;exact hS;exact rfl
      · intro _ hqc;go_simp;try rfl
      try simp only [pu]
     iterate 11
      apply rg_g;exact Hops;exact rfl;exact hS;iterate 4 exact rfl
      · intro _ hqc;go_simp;try rfl
      try simp only [pu]
     iterate 2
      apply rg_p;exact Hops;exact rfl;exact hS;exact rfl
      · intro _ hqc;go_simp;try rfl
      try simp only [pu]
     iterate 7
      apply rg_g;exact Hops;exact rfl;exact hS;iterate 4 exact rfl
      · intro _ hqc;go_simp;try rfl
      try simp only [pu]
     refine rg_call (i:=23) (get_of Hops rfl) (fun K hK=>?_)
     have HSrg:=Lib.hid hS;clear hS
     refine rg_run (wanted_yes rfl (get_of Hops rfl) rfl rfl) ?_
     go_simp
     refine (HE.out _ (bT Hb.out HSrg.out)).mono ?_
     rintro e wr1 ⟨rfl,hbr1⟩
     have hS:Since wr wr1:=bT (w:=wr) HSrg.out hbr1
     clear HSrg
     refine hK.out _ _ hS (fun _=>?_)
     clear hK K
     try simp only [pu]
     apply rg_p;exact Hops;exact rfl;exact hS;exact rfl
     · intro _ hqc;go_simp;try rfl
     try simp only [pu]
     refine rg_done ?_
     refine HQrg.down _ _ ?_
     have hB:Below wr.heap.size wr wr1:=hS
     clear hS HQrg Hops
     have HB5:=Lib.hid (bT HBw.out hB)
     clear hB c0 c1 e0 X5 X5l X5a X5b
     cases E
     ·
      go_wp2_with fail
      go_roundw
      case rel => exact ⟨k+1,b,.inl (by omega),by go_num,rfl,hnot.out rfl,HB5.out⟩
      case measure => simp [intOf];omega
     ·
      go_wp2_with fail
      go_roundw
      case rel => exact ⟨k+1,k+1,.inl (by omega),by go_num,by go_num,hyes.out rfl hlt2,HB5.out⟩
      case measure => simp [intOf];omega
    ·
     go_upto_region 5 with fail
     refine rg_start (Since wr) (.run 25 0 0 (.done)) (by kernel_rfl) (bD (bR _)) (by kernel_rfl) (by kernel_rfl) (Nat.le_of_ble_eq_true (by kernel_rfl)) ?_
     intro opsR QR Hops HQrg hS
     iterate 3
      apply rg_p;exact Hops;exact rfl;exact hS;exact rfl
      · intro _ hqc;go_simp;try rfl
      try simp only [pu]
     iterate 11
      apply rg_g;exact Hops;exact rfl;exact hS;iterate 4 exact rfl
      · intro _ hqc;go_simp;try rfl
      try simp only [pu]
     iterate 2
      apply rg_p;exact Hops;exact rfl;exact hS;exact rfl
      · intro _ hqc;go_simp;try rfl
      try simp only [pu]
     iterate 8
      refine rg_yn Hops rfl hS rfl rfl rfl rfl rfl ?_
      try simp only [pu]
     apply rg_p;exact Hops;exact rfl;exact hS;exact rfl
     · intro _ hqc;go_simp;try rfl
     try simp only [pu]
     refine rg_done ?_
     refine HQrg.down _ _ ?_
     have hB:Below wr.heap.size wr wr.drew:=hS
     clear hS HQrg Hops
     have HB5:=Lib.hid (bT HBw.out hB)
     clear hB c0 c1 e0 X5 X5l X5a X5b
     go_wp2_with fail
     go_roundw
     case rel => exact ⟨k+1,b,.inl (by omega),by go_num,rfl,hnot2.out hlt2,HB5.out⟩
     case measure => simp [intOf];omega
  ·
   have hkl:L.length-1=k:=by omega
   have HF:=Lib.hid hkl
   clear hkl X5
   go_wp2_with fail
   go_ret
   exact ⟨⟨b,rfl,by rw [HF.out];exact HBx.out⟩,Hb.out⟩
end Go.Proofs.YtialfdomhoojiaaGreat
namespace Go.Proofs.YtialfdomhoojiaaGreat
open Go.RowKit
set_option linter.unusedSectionVars false

section
variable {p:Pl} (h:Valid p)
include h
theorem Valid.dart_cnt:(dartsD p).length≤512:=by
 have hl:=h.lim
 unfold limS at hl
 simp only [Bool.or_eq_false_iff,decide_eq_false_iff_not] at hl
 have h2:=hl.2
 unfold dartsD
 rw [List.length_append,List.length_reverse,List.length_map,List.length_map]
 omega
theorem Valid.tw_ar {X:List Int} (hX:X∈cyclesD p):twiceD p X=arX p X:=by
 obtain ⟨h1,h2⟩:=h.cyc_nodup hX
 have hl:=nodup_le h1 h2
 have h3:=h.dart_cnt
 unfold twiceD
 rw [if_pos ⟨by omega,fun d hd=>h.arcD_some (h2 d hd)⟩,twiceUp_sum p X X.length (Nat.le_refl _),List.take_length]
 rfl
end
end Go.Proofs.YtialfdomhoojiaaGreat
namespace Go.Proofs.YtialfdomhoojiaaGreat
open Go.RowKit
set_option linter.unusedSectionVars false

theorem best_map {α β:Type} (f:α→β) (E:β→Bool) (t:β→Int) (l:List α):bestC E t (l.map f)=(bestC (fun x=>E (f x)) (fun x=>t (f x)) l).map f:=by
 induction l using snoc_ind with
 | h0=>rfl
 | h1 l x ih =>
  rw [List.map_append,List.map_cons,List.map_nil,best_snoc,best_snoc,ih]
  unfold bestStep
  cases bestC (fun x=>E (f x)) (fun x=>t (f x)) l<;>simp only [Option.map]<;>split<;>rfl
theorem best_congr {α:Type} {E E':α→Bool} {t t':α→Int} {l:List α} (h:∀ x∈l,E x=E' x∧t x=t' x):bestC E t l=bestC E' t' l:=by
 induction l using snoc_ind with
 | h0=>rfl
 | h1 l x ih =>
  have ih:=ih fun y hy=>h y (List.mem_append_left _ hy)
  rw [best_snoc,best_snoc,ih]
  obtain ⟨e1,e2⟩:=h x (List.mem_append_right _ List.mem_cons_self)
  unfold bestStep
  cases hb:bestC E' t' l with
  | none=>simp only [e1]
  | some y =>
   have hy:=(best_some E' t' hb).1
   have e3:=(h y (List.mem_append_left _ hy)).2
   simp only [e1,e2,e3]
def keyA (O:List (List Int)) (i:Nat):Option (List Int):=if i=0 then none else O[i-1]?
theorem keyA_inj {O:List (List Int)} (hn:O.Nodup) {i j:Nat} (hi:i≤O.length) (hj:j≤O.length) (e:keyA O i=keyA O j):i=j:=by
 unfold keyA at e
 by_cases h1:i=0
 ·
  by_cases h2:j=0
  · omega
  · rw [if_pos h1,if_neg h2,List.getElem?_eq_getElem (by omega)] at e;cases e
 ·
  by_cases h2:j=0
  · rw [if_neg h1,if_pos h2,List.getElem?_eq_getElem (by omega)] at e;cases e
  ·
   rw [if_neg h1,if_neg h2,List.getElem?_eq_getElem (by omega),List.getElem?_eq_getElem (by omega)] at e
   injection e with e
   unfold List.Nodup at hn
   rw [List.pairwise_iff_getElem] at hn
   rcases Nat.lt_trichotomy i j with g | g | g
   · exact absurd e (hn (i-1) (j-1) (by omega) (by omega) (by omega))
   · exact g
   · exact absurd e.symm (hn (j-1) (i-1) (by omega) (by omega) (by omega))
theorem keyA_some {O:List (List Int)} {i:Nat} (h0:1≤i) (hi:i≤O.length):keyA O i=some (O[i-1]'(by omega)):=by
 unfold keyA
 rw [if_neg (by omega),List.getElem?_eq_getElem (by omega)]
def TwA (p:Pl) (L:List AD):Prop:=∀ i (hi:i<L.length),1≤i→L[i].tw=arX p L[i].out
theorem TwA.set {p:Pl} {L:List AD} (h:TwA p L) {b:Nat} {y:AD} (hb:b<L.length) (h1:y.tw=L[b].tw) (h2:y.out=L[b].out):TwA p (L.set b y):=by
 intro i hi hi1
 simp only [List.length_set] at hi
 rw [List.getElem_set]
 split
 · rename_i e;subst e;rw [h1,h2];exact h b hb hi1
 · exact h i hi hi1
theorem TwA.more {p:Pl} {L:List AD} (h:TwA p L) {x:AD} (h1:x.tw=arX p x.out):TwA p (L++[x]):=by
 intro i hi hi1
 by_cases e:i<L.length
 · rw [List.getElem_append_left e];exact h i e hi1
 ·
  have:i=L.length:=by simp at hi;omega
  subst this
  simpa using h1
theorem TwA.one (p:Pl) (x:AD):TwA p [x]:=fun i hi hi1=>by simp at hi;omega
structure DivA (p:Pl) (L:List AD) (O R:List (List Int)) (N:List Nd):Prop where
 out:L.map (·.out)=[]::O
 inn:∀ i (hi:i<L.length),L[i].inn.map (·.1)=R.filter (fun c=>decide (homeP p (cycPt p c)=keyA O i))
 alo:∀ i (hi:i<L.length),L[i].alo=(N.filter (fun n=>decide (degS p.arcs n.id=0∧homeP p n.pt=keyA O i))).map (·.id)
section
variable {p:Pl} {L:List AD} {O R:List (List Int)} {N:List Nd} (h:DivA p L O R N)
include h
theorem DivA.len:L.length=O.length+1:=by
 have:=congrArg List.length h.out
 simpa using this
theorem DivA.out_at {i:Nat} (hi:i<L.length) (h1:1≤i):L[i].out=O[i-1]'(by have:=h.len;omega):=by
 have e:(L.map (·.out))[i]'(by simpa using hi)=L[i].out:=by rw [List.getElem_map]
 rw [← e]
 have h2:=h.out
 obtain ⟨j,rfl⟩:∃ j,i=j+1:=⟨i-1,by omega⟩
 simp only [h2,List.getElem_cons_succ,Nat.add_sub_cancel]
theorem DivA.out_zero (h0:0<L.length):L[0].out=[]:=by
 have e:(L.map (·.out))[0]'(by simpa using h0)=L[0].out:=by rw [List.getElem_map]
 rw [← e]
 have h2:=h.out
 simp only [h2,List.getElem_cons_zero]
theorem DivA.out_mem {x:AD} (hx:x∈L):x.out=[]∨x.out∈O:=by
 have:x.out∈L.map (·.out):=List.mem_map_of_mem hx
 rw [h.out] at this
 rcases List.mem_cons.1 this with e | e
 · exact .inl e
 · exact .inr e
theorem DivA.more (hR:R=[]) (hN:N=[]) (x:AD) (h2:x.inn=[]) (h3:x.alo=[]):DivA p (L++[x]) (O++[x.out]) R N:=by
 subst hR hN
 have hl:=h.len
 refine ⟨by rw [List.map_append,h.out];rfl,fun i hi=>?_,fun i hi=>?_⟩
 ·
  by_cases e:i<L.length
  · rw [List.getElem_append_left e,h.inn i e];rfl
  ·
   have:i=L.length:=by simp at hi;omega
   subst this
   simp [h2]
 ·
  by_cases e:i<L.length
  · rw [List.getElem_append_left e,h.alo i e];rfl
  ·
   have:i=L.length:=by simp at hi;omega
   subst this
   simp [h3]
theorem DivA.inner (hn:O.Nodup) {b:Nat} (hb:b<L.length) (c:List Int) (sv iv':SV) (hh:homeP p (cycPt p c)=keyA O b) :
  DivA p (L.set b {L[b] with inn:=L[b].inn++[(c,sv)],iv:=iv'}) O (R++[c]) N:=by
 have hl:=h.len
 refine ⟨?_,fun i hi=>?_,fun i hi=>?_⟩
 ·
  rw [← h.out]
  apply List.ext_getElem (by simp)
  intro i h1 h2
  rw [List.getElem_map,List.getElem_map,List.getElem_set]
  split
  · rename_i e;subst e;rfl
  · rfl
 ·
  simp only [List.length_set] at hi
  rw [List.getElem_set,List.filter_append]
  split
  ·
   rename_i e
   subst e
   rw [List.map_append,h.inn b hb,List.filter_cons,if_pos (by simpa using hh)]
   rfl
  ·
   rename_i e
   rw [h.inn i hi,List.filter_cons,if_neg (by
    rw [decide_eq_true_eq,hh]
    exact fun g=>e (keyA_inj hn (by omega) (by omega) g)),List.filter_nil,List.append_nil]
 ·
  simp only [List.length_set] at hi
  rw [List.getElem_set]
  split
  · rename_i e;subst e;exact h.alo b hb
  · exact h.alo i hi
theorem DivA.lone (hn:O.Nodup) {b:Nat} (hb:b<L.length) (n:Nd) (av':SV) (h0:degS p.arcs n.id=0) (hh:homeP p n.pt=keyA O b) :
  DivA p (L.set b {L[b] with alo:=L[b].alo++[n.id],av:=av'}) O R (N++[n]):=by
 have hl:=h.len
 refine ⟨?_,fun i hi=>?_,fun i hi=>?_⟩
 ·
  rw [← h.out]
  apply List.ext_getElem (by simp)
  intro i h1 h2
  rw [List.getElem_map,List.getElem_map,List.getElem_set]
  split
  · rename_i e;subst e;rfl
  · rfl
 ·
  simp only [List.length_set] at hi
  rw [List.getElem_set]
  split
  · rename_i e;subst e;exact h.inn b hb
  · exact h.inn i hi
 ·
  simp only [List.length_set] at hi
  rw [List.getElem_set,List.filter_append]
  split
  ·
   rename_i e
   subst e
   rw [List.map_append,h.alo b hb,List.filter_cons,if_pos (by rw [decide_eq_true_eq];exact ⟨h0,hh⟩)]
   rfl
  ·
   rename_i e
   rw [h.alo i hi,List.filter_cons,if_neg (by
    rw [decide_eq_true_eq,hh]
    exact fun g=>e (keyA_inj hn (by omega) (by omega) g.2)),List.filter_nil,List.append_nil]
theorem DivA.pass (n:Nd) (h0:degS p.arcs n.id≠0):DivA p L O R (N++[n]) :=
 ⟨h.out,h.inn,fun i hi=>by
  rw [h.alo i hi,List.filter_append,List.filter_cons,if_neg (by rw [decide_eq_true_eq];exact fun g=>h0 g.1),List.filter_nil,List.append_nil]⟩
theorem DivA.home (hO:O=outX p) (hT:TwA p L) {v:Pt} {b:Nat} (hb:bestIx p v L (L.length-1) b):b<L.length∧homeP p v=keyA O b:=by
 have hl:=h.len
 have ht:L.tail.take (L.length-1)=L.tail:=List.take_of_length_le (by simp)
 have hm:L.tail.map (·.out)=O:=by rw [List.map_tail,h.out];rfl
 have e1:homeP p v=(bestC (fun x:AD=>encS p x.out v) (fun x:AD=>x.tw) L.tail).map (·.out):=by
  unfold homeP
  rw [← hO,← hm,best_map]
  congr 1
  refine best_congr fun x hx=>⟨rfl,?_⟩
  obtain ⟨i,hi,rfl⟩:=List.mem_iff_getElem.1 hx
  rw [List.getElem_tail]
  simp only [List.length_tail] at hi
  exact (hT (i+1) (by omega) (by omega)).symm
 unfold bestIx at hb
 rw [ht] at hb
 rcases hb with ⟨rfl,e⟩ | ⟨hbl,h1,h2,e⟩
 ·
  rw [e] at e1
  exact ⟨by omega,by rw [e1];rfl⟩
 ·
  rw [e] at e1
  refine ⟨hbl,?_⟩
  rw [e1,keyA_some h1 (by omega)]
  show some L[b].out=_
  rw [h.out_at hbl h1]
end
theorem DivA.start (p:Pl) (x:AD) (h1:x.out=[]) (h2:x.inn=[]) (h3:x.alo=[]):DivA p [x] [] [] []:=by
 refine ⟨by simp [h1],fun i hi=>?_,fun i hi=>?_⟩
 ·
  have:i=0:=by simp at hi;omega
  subst this;simp [h2]
 ·
  have:i=0:=by simp at hi;omega
  subst this;simp [h3]
section
variable {p:Pl} (h:Valid p)
include h
theorem Valid.cyc_ne {X:List Int} (hX:X∈cyclesD p):X≠[]:=fun e=>by
 obtain ⟨x,-,-,-,hx⟩:=h.cyc_form hX
 rw [e] at hx;cases hx
theorem Valid.cycles_nodup:(cyclesD p).Nodup:=by
 have hp:=h.cyc_perm.nodup_iff.2 h.darts_nodup
 have hd:(cyclesD p).Pairwise (fun a b=>∀ x∈a,∀ y∈b,x≠y):=by
  have h2:=List.pairwise_flatten.1 hp
  exact h2.2
 unfold List.Nodup
 refine List.Pairwise.imp_of_mem (fun {a b} ha hb hab e=>?_) hd
 subst e
 have hne:=h.cyc_ne ha
 cases a with
 | nil=>exact hne rfl
 | cons x a=>exact hab x List.mem_cons_self x List.mem_cons_self rfl
theorem Valid.cycs_len:(cyclesD p).length≤512:=by
 have:∀ L:List (List Int),(∀ X∈L,X≠[])→L.length≤L.flatten.length:=by
  intro L
  induction L with
  | nil=>intro _;exact Nat.le_refl _
  | cons X L ih =>
   intro hL
   have h1:=ih fun Y hY=>hL Y (List.mem_cons_of_mem _ hY)
   have h2:=List.length_pos_iff.2 (hL X List.mem_cons_self)
   rw [List.flatten_cons,List.length_append,List.length_cons]
   omega
 have h1:=this (cyclesD p) fun X hX=>h.cyc_ne hX
 have h2:=h.cyc_perm.length_eq
 have h3:=h.dart_cnt
 omega
theorem Valid.faces_asc:p.faces.Pairwise (· < ·):=by
 have ho:=h.ord
 unfold orderedS at ho
 rw [Bool.and_eq_true,Bool.and_eq_true] at ho
 exact asc_pw _ ho.2
theorem Valid.face_pos {f:Int} (hf:f∈p.faces):1≤f∧f≤1073741824:=by
 have hr:=h.rng
 unfold rangesS at hr
 rw [Bool.and_eq_true] at hr
 have h1:=hr.1
 rw [Bool.not_eq_true',List.any_eq_false] at h1
 have:=h1 f (List.mem_append_right _ hf)
 unfold idBad at this
 simp only [Bool.or_eq_true,decide_eq_true_eq,not_or] at this
 omega
theorem Valid.side_face (d:Int):sideD p d=0∨sideD p d∈p.faces:=by
 have hs:=h.sides
 unfold sidesS at hs
 rw [List.all_eq_true] at hs
 have hf:∀ n,faceS p.faces n=true→n=0∨n∈p.faces:=fun n hn=>by
  unfold faceS at hn
  rw [Bool.or_eq_true,List.any_eq_true] at hn
  rcases hn with ⟨x,hx,e⟩ | e
  · have:=eq_of_beq e;subst this;exact .inr hx
  · exact .inl (eq_of_beq e)
 unfold sideD
 split
 · exact .inl rfl
 ·
  rename_i a e
  have ha:a∈p.arcs:=by
   unfold arcD at e
   split at e
   · cases e
   · exact List.mem_of_find?_eq_some e
  have:=hs a ha
  rw [Bool.and_eq_true] at this
  split
  · exact hf _ this.1
  · exact hf _ this.2
theorem Valid.side_bd (d:Int):0≤sideD p d∧sideD p d≤1073741824:=by
 rcases h.side_face d with e | e
 · omega
 · have:=h.face_pos e;omega
theorem Valid.outX_nodup:(outX p).Nodup:=h.cycles_nodup.filter _
end
def fcI (p:Pl) (O:List (List Int)) (i:Nat):Int:=faceX p (keyA O i)
def cyI (p:Pl) (O:List (List Int)) (i:Nat):List (List Int):=cysX p (keyA O i)
structure FacU (p:Pl) (O:List (List Int)) (k:Nat):Prop where
 some:∀ i,1≤i→i<k→fcI p O i≠0
 differ:∀ i j,1≤i→i<j→j<k→fcI p O i≠fcI p O j
 sides:∀ i,i<k→∀ c∈cyI p O i,∀ d∈c,sideD p d=fcI p O i
theorem FacU.zero (p:Pl) (O:List (List Int)):FacU p O 0:=⟨fun i _ h=>by omega,fun i j _ _ h=>by omega,fun i h=>by omega⟩
def seenF (p:Pl) (O:List (List Int)) (k:Nat):List Int:=(List.range (k-1)).map fun i=>fcI p O (i+1)
theorem seenF_succ (p:Pl) (O:List (List Int)) {k:Nat} (h:1≤k):seenF p O (k+1)=seenF p O k++[fcI p O k]:=by
 unfold seenF
 rw [show k+1-1=(k-1)+1 by omega,List.range_succ,List.map_append]
 simp only [List.map_cons,List.map_nil]
 rw [show k-1+1=k by omega]
theorem mem_seenF {p:Pl} {O:List (List Int)} {k:Nat} {x:Int}:x∈seenF p O k↔∃ i,1≤i∧i<k∧fcI p O i=x:=by
 unfold seenF
 rw [List.mem_map]
 constructor
 ·
  rintro ⟨i,hi,rfl⟩
  rw [List.mem_range] at hi
  exact ⟨i+1,by omega,by omega,rfl⟩
 ·
  rintro ⟨i,h1,h2,rfl⟩
  exact ⟨i-1,by rw [List.mem_range];omega,by rw [show i-1+1=i by omega]⟩
theorem seenF_len (p:Pl) (O:List (List Int)) (k:Nat):(seenF p O k).length=k-1:=by unfold seenF;simp
theorem FacU.succ {p:Pl} {O:List (List Int)} {k:Nat} (h:FacU p O k) (h1:1≤k→fcI p O k≠0) (h2:1≤k→fcI p O k∉seenF p O k) (h3:∀ c∈cyI p O k,∀ d∈c,sideD p d=fcI p O k):FacU p O (k+1):=by
 refine ⟨fun i hi hk=>?_,fun i j hi hj hk=>?_,fun i hi=>?_⟩
 ·
  by_cases e:i=k
  · subst e;exact h1 hi
  · exact h.some i hi (by omega)
 ·
  by_cases e:j=k
  ·
   subst e
   exact fun g=>h2 (by omega) (mem_seenF.2 ⟨i,hi,hj,g⟩)
  · exact h.differ i j hi hj (by omega)
 ·
  by_cases e:i=k
  · subst e;exact h3
  · exact h.sides i (by omega)
theorem fcI_some {p:Pl} {O:List (List Int)} {i:Nat} (h1:1≤i) (hi:i≤O.length):fcI p O i=sideD p ((O[i-1]'(by omega)).headD 0):=by
 unfold fcI;rw [keyA_some h1 hi];rfl
theorem FacU.iff {p:Pl} {O:List (List Int)} (hp:O.Perm (outX p)):FaceOK p↔FacU p O (O.length+1)∧O.length=p.faces.length:=by
 constructor
 ·
  intro h
  refine ⟨⟨fun i h1 h2=>?_,fun i j h1 h2 h3=>?_,fun i hi=>?_⟩,by rw [hp.length_eq];exact h.all⟩
  ·
   rw [fcI_some h1 (by omega)]
   exact h.some _ (hp.subset (List.getElem_mem _))
  ·
   rw [fcI_some h1 (by omega),fcI_some (by omega) (by omega)]
   intro e
   have hd:=(hp.map (fun X=>sideD p (X.headD 0))).nodup_iff.2 h.differ
   unfold List.Nodup at hd
   rw [List.pairwise_map,List.pairwise_iff_getElem] at hd
   exact hd (i-1) (j-1) (by omega) (by omega) (by omega) e
  ·
   refine h.sides _ ?_
   by_cases e:i=0
   · subst e;exact .inl rfl
   ·
    rw [keyA_some (by omega) (by omega)]
    exact .inr ⟨_,hp.subset (List.getElem_mem _),rfl⟩
 ·
  rintro ⟨h,ha⟩
  refine ⟨fun X hX=>?_,?_,fun b hb=>?_,by rw [← hp.length_eq];exact ha⟩
  ·
   obtain ⟨i,hi,rfl⟩:=List.mem_iff_getElem.1 (hp.symm.subset hX)
   have:=h.some (i+1) (by omega) (by omega)
   rw [fcI_some (by omega) (by omega)] at this
   exact this
  ·
   refine (hp.map (fun X=>sideD p (X.headD 0))).nodup_iff.1 ?_
   unfold List.Nodup
   rw [List.pairwise_map,List.pairwise_iff_getElem]
   intro i j hi hj hij
   have:=h.differ (i+1) (j+1) (by omega) (by omega) (by omega)
   rw [fcI_some (by omega) (by omega),fcI_some (by omega) (by omega)] at this
   exact this
  ·
   rcases hb with rfl | ⟨X,hX,rfl⟩
   · exact h.sides 0 (by omega)
   ·
    obtain ⟨i,hi,rfl⟩:=List.mem_iff_getElem.1 (hp.symm.subset hX)
    have:=h.sides (i+1) (by omega)
    unfold cyI fcI at this
    rw [keyA_some (by omega) (by omega)] at this
    exact this
def regsX (p:Pl):List (Option (List Int)):=none::(outX p).map some
def facB (p:Pl):Bool:=(outX p).all (fun X=>sideD p (X.headD 0) != 0) && decide ((outX p).map (fun X=>sideD p (X.headD 0))).Nodup && (regsX p).all (fun b=>(cysX p b).all fun c=>c.all fun d=>sideD p d == faceX p b) && decide ((outX p).length=p.faces.length)
theorem facB_iff {p:Pl}:facB p=true↔FaceOK p:=by
 unfold facB regsX
 simp only [Bool.and_eq_true,decide_eq_true_eq,List.all_eq_true,List.mem_cons,List.mem_map,bne_iff_ne,beq_iff_eq]
 constructor
 ·
  rintro ⟨⟨⟨h1,h2⟩,h3⟩,h4⟩
  refine ⟨h1,h2,fun b hb=>h3 b ?_,h4⟩
  rcases hb with h | ⟨X,hX,h⟩
  · exact .inl h
  · exact .inr ⟨X,hX,h.symm⟩
 ·
  rintro ⟨h1,h2,h3,h4⟩
  refine ⟨⟨⟨h1,h2⟩,fun b hb=>h3 b ?_⟩,h4⟩
  rcases hb with h | ⟨X,hX,h⟩
  · exact .inl h
  · exact .inr ⟨X,hX,h.symm⟩
theorem facB_iffU {p:Pl} {O:List (List Int)} (hp:O.Perm (outX p)):facB p=true↔FacU p O (O.length+1)∧O.length=p.faces.length:=facB_iff.trans (FacU.iff hp)
end Go.Proofs.YtialfdomhoojiaaGreat
namespace Go.Proofs.YtialfdomhoojiaaGreat
open Go.RowKit

def lowP (a b:Pt):Pt:=if b.y<a.y then b else a
def highP (a b:Pt):Pt:=if b.y<a.y then a else b
def atRow (y:Int) (a b:Pt):Int:=ceilQ ((y-(lowP a b).y)*((highP a b).x-(lowP a b).x)) ((highP a b).y-(lowP a b).y)
def crsS (y:Int) (q:Pt×Pt):List Int:=if (lowP q.1 q.2).y≤y∧y<(highP q.1 q.2).y then [(lowP q.1 q.2).x+atRow y q.1 q.2] else []
def tknS (y:Int) (q:Pt×Pt):List Rn :=
 if y<(lowP q.1 q.2).y∨(highP q.1 q.2).y<y then []
 else if (lowP q.1 q.2).y=(highP q.1 q.2).y then [⟨min (lowP q.1 q.2).x (highP q.1 q.2).x,max (lowP q.1 q.2).x (highP q.1 q.2).x+1⟩]
 else if atRow y q.1 q.2*((highP q.1 q.2).y-(lowP q.1 q.2).y)=(y-(lowP q.1 q.2).y)*((highP q.1 q.2).x-(lowP q.1 q.2).x) then [⟨(lowP q.1 q.2).x+atRow y q.1 q.2,(lowP q.1 q.2).x+atRow y q.1 q.2+1⟩]
 else []
def gapR:List Int→List Rn
 | a::b::l=>addR a b++gapR l
 | _=>[]
def aloR (ns:List Nd) (y id:Int):List Rn:=match findNd ns id with
 | some n=>if n.pt.y=y then [⟨n.pt.x,n.pt.x+1⟩] else []
 | none=>[]
def insI (a:Int):List Int→List Int
 | []=>[a]
 | b::l=>if a≤b then a::b::l else b::insI a l
def sortZ (l:List Int):List Int:=l.foldr insI []
theorem insI_perm (a:Int):∀ l,(insI a l).Perm (a::l)
 | []=>List.Perm.refl _
 | b::l=>by
  unfold insI
  split
  · exact List.Perm.refl _
  · exact ((insI_perm a l).cons b).trans (List.Perm.swap _ _ _)
theorem insI_asc (a:Int):∀ l,l.Pairwise (·≤·)→(insI a l).Pairwise (·≤·)
 | [],_=>by unfold insI;simp
 | b::l,h=>by
  have h':=List.pairwise_cons.1 h
  unfold insI
  split
  ·
   rename_i e
   rw [List.pairwise_cons]
   refine ⟨fun y hy=>?_,h⟩
   rcases List.mem_cons.1 hy with rfl | hy
   · exact e
   · have:=h'.1 y hy;omega
  ·
   rename_i e
   rw [List.pairwise_cons]
   refine ⟨fun y hy=>?_,insI_asc a l h'.2⟩
   rcases List.mem_cons.1 ((insI_perm a l).subset hy) with rfl | hy
   · omega
   · exact h'.1 y hy
theorem sortZ_facts:∀ l,(sortZ l).Perm l∧(sortZ l).Pairwise (·≤·)
 | []=>⟨List.Perm.refl _,List.Pairwise.nil⟩
 | a::l=>by
  obtain ⟨h1,h2⟩:=sortZ_facts l
  exact ⟨(insI_perm a _).trans (h1.cons a),insI_asc a _ h2⟩
theorem sortZ_any {l m:List Int} (hp:m.Perm l) (hs:m.Pairwise (·≤·)):m=sortZ l:=by
 refine sorted_uniq (lt:=fun a b=>decide (a<b)) (hp.trans (sortZ_facts l).1.symm) (hs.imp (fun h=>by simp;omega)) ((sortZ_facts l).2.imp (fun h=>by simp;omega)) (fun a _ b _ h1 h2=>?_)
 simp only [decide_eq_false_iff_not] at h1 h2
 omega
theorem ascL_eq (l:List Int):ascL l=sortZ l:=sortZ_any (ascL_perm l) (ascL_sorted l)
def runsL (S:List (Pt×Pt)) (T:List Rn) (y:Int):List Rn:=diffR (spnS (gapR (sortZ (S.flatMap (crsS y))))) (spnS (S.flatMap (tknS y)++T))
def segB (p:Pl) (b:Option (List Int)):List (Pt×Pt):=(cysX p b).flatMap (segX p)
def aloB (p:Pl) (b:Option (List Int)) (y:Int):List Rn:=(aloX p b).flatMap (aloR p.nodes y)
def runsB (p:Pl) (b:Option (List Int)) (y:Int):List Rn:=runsL (segB p b) (aloB p b y) y
def midStep (s:Int×Option Int) (x:Rn):Int×Option Int:=if s.1<x.hi-x.lo then (x.hi-x.lo,some ((x.lo+x.hi-1) / 2)) else s
def midS (l:List Rn):Int×Option Int:=l.foldl midStep (0,none)
def midRow (p:Pl) (b:Option (List Int)) (y0 y1 y:Int):Option Pt:=if y<y0∨y1<y then none else ((midS (runsB p b y)).2).map fun x=>⟨x,y⟩
def midD (p:Pl) (b:Option (List Int)) (y0 y1 m:Int) (d:Nat):Option Pt:=(midRow p b y0 y1 (m+d)).or (midRow p b y0 y1 (m-d))
def midB (p:Pl) (b:Option (List Int)) (y0 y1:Int):Option Pt:=(List.range (y1-y0+2).toNat).findSome? (midD p b y0 y1 ((y0+y1) / 2))
def regOf (p:Pl) (f:Int):Option (List Int):=(outX p).find? fun X=>faceX p (some X) == f
def endsL (S:List (Pt×Pt)):List Pt:=S.flatMap fun q=>[q.1,q.2]
def midP (p:Pl) (f:Int):Option Pt:=match regOf p f with
 | none=>none
 | some X=>midB p (some X) (boxL (endsL (segX p X))).y0 (boxL (endsL (segX p X))).y1
end Go.Proofs.YtialfdomhoojiaaGreat
namespace Go.Proofs.YtialfdomhoojiaaGreat
open Go.RowKit

structure IntBox (w:World) (B g:Nat) (l:List Int) (v:Value):Prop where
 box:Blk w g 24 #[v]
 own:Own w B 3 1 inC v l
structure RowSt (w:World) (B g1 g2 g3:Nat) (y:Int) (T:List Rn) (C:List Int) (vt vc:Value):Prop where
 row:Blk w g1 3 #[.int .i64 y]
 tkn:RnBox w B g2 T vt
 crs:IntBox w B g3 C vc
theorem RowSt.keep {w w':World} {B g1 g2 g3:Nat} {y:Int} {T:List Rn} {C:List Int} {vt vc:Value} (h:RowSt w B g1 g2 g3 y T C vt vc) (hb:Below w.heap.size w w'):RowSt w' B g1 g2 g3 y T C vt vc :=
 ⟨h.row.keep hb,h.tkn.keep hb,h.crs.box.keep hb,h.crs.own.keep hb⟩
structure Kept2 (B g2 g3:Nat) (W W':World):Prop where
 below:∀ w0:World,Below w0.heap.size w0 W→w0.heap.size≤B→w0.heap.size≤g2→w0.heap.size≤g3→Below w0.heap.size w0 W'
 size:W.heap.size≤W'.heap.size
 blk:∀ g,g<B→g≠g2→g≠g3→W'.heap[g]? = W.heap[g]?
theorem Kept2.refl (B g2 g3:Nat) (W:World):Kept2 B g2 g3 W W:=⟨fun _ h _ _ _=>h,Nat.le_refl _,fun _ _ _ _=>rfl⟩
theorem Kept2.trans {B g2 g3:Nat} {W W' W'':World} (h:Kept2 B g2 g3 W W') (h':Kept2 B g2 g3 W' W''):Kept2 B g2 g3 W W'' :=
 ⟨fun w0 k0 k1 k2 k3=>h'.below w0 (h.below w0 k0 k1 k2 k3) k1 k2 k3,Nat.le_trans h.size h'.size,fun g k1 k2 k3=>(h'.blk g k1 k2 k3).trans (h.blk g k1 k2 k3)⟩
theorem Kept2.of {B g2 g3:Nat} {W W':World} (hB:B≤W.heap.size) (h:Below W.heap.size W W'):Kept2 B g2 g3 W W' :=
 ⟨fun w0 k0 _ _ _=>bT k0 h,h.size,fun g k1 _ _=>h.block g (Nat.lt_of_lt_of_le k1 hB)⟩
theorem Kept2.keep {B g2 g3:Nat} {W W':World} (h:Kept2 B g2 g3 W W') {g:Nat} {t:TypeId} {cs:Array Value} (hb:Blk W g t cs) (h1:g<B) (h2:g≠g2) (h3:g≠g3):Blk W' g t cs:=(h.blk g h1 h2 h3).trans hb
theorem RowSt.addT {w w3:World} {B g1 g2 g3:Nat} {y:Int} {T T2:List Rn} {C:List Int} {vt vc vt2:Value} {o:Obj} (h:RowSt w B g1 g2 g3 y T C vt vc) (hB:B≤w.heap.size) (hg:(w.alloc o).grownBy w3 vt.ownBlock) (ho:Own w3 B 121 2 rnC vt2 T2) :
  RowSt (w3.setCell ⟨g2,0,none⟩ vt2) B g1 g2 g3 y T2 C vt2 vc∧Kept2 B g2 g3 w (w3.setCell ⟨g2,0,none⟩ vt2):=by
 have X2:=Blk.grown (h.tkn.box.alloc o) hg (fun e=>Own.ne_blk h.tkn.own h.tkn.box (by decide) e.symm)
 have X1:=Blk.grown (h.row.alloc o) hg (fun e=>Own.ne_blk h.tkn.own h.row (by decide) e.symm)
 have X3:=Blk.grown (h.crs.box.alloc o) hg (fun e=>Own.ne_blk h.tkn.own h.crs.box (by decide) e.symm)
 have O3:=Own.grown (Own.alloc h.crs.own o) hg (fun g hg=>Own.apart h.crs.own h.tkn.own (by decide) g hg)
 refine ⟨⟨X1.far (p:=⟨g2,0,none⟩) (Blk.ne_ X1 X2 (by decide)) _,⟨X2.set_ 0 _,ho.far (p:=⟨g2,0,none⟩) (Own.ne_blk ho X2 (by decide)) _⟩,⟨X3.far (p:=⟨g2,0,none⟩) (Blk.ne_ X3 X2 (by decide)) _,O3.far (p:=⟨g2,0,none⟩) (Own.ne_blk O3 X2 (by decide)) _⟩⟩,fun w0 k1 k2 k3 _=>?_,?_,fun g k1 k2 _=>?_⟩
 · exact bS (p:=⟨g2,0,none⟩) (bG (bA k1 _) hg (fun k hk=>Nat.le_trans k2 (h.tkn.own.lt k hk).1)) k3 _
 · have:=hg.size;simp at this;simp;omega
 ·
  rw [Below.heap_setCell w3 ⟨g2,0,none⟩ _ g k2,hg.block g (by simp;omega) (fun e=>by have:=(h.tkn.own.lt g e.symm).1;omega)]
  exact Below.heap_alloc w _ g (by omega)
theorem RowSt.addC {w w3:World} {B g1 g2 g3:Nat} {y:Int} {T:List Rn} {C C2:List Int} {vt vc vc2:Value} {o:Obj} (h:RowSt w B g1 g2 g3 y T C vt vc) (hB:B≤w.heap.size) (hg:(w.alloc o).grownBy w3 vc.ownBlock) (ho:Own w3 B 3 1 inC vc2 C2) (hn:vc.ownBlock≠some g1) (hn2:vc2.ownBlock≠some g3) :
  RowSt (w3.setCell ⟨g3,0,none⟩ vc2) B g1 g2 g3 y T C2 vt vc2∧Kept2 B g2 g3 w (w3.setCell ⟨g3,0,none⟩ vc2):=by
 have X3:=Blk.grown (h.crs.box.alloc o) hg (fun e=>Own.ne_blk h.crs.own h.crs.box (by decide) e.symm)
 have X1:=Blk.grown (h.row.alloc o) hg (fun e=>hn e.symm)
 have X2:=Blk.grown (h.tkn.box.alloc o) hg (fun e=>Own.ne_blk h.crs.own h.tkn.box (by decide) e.symm)
 have O2:=Own.grown (Own.alloc h.tkn.own o) hg (fun g hg=>Own.apart h.tkn.own h.crs.own (by decide) g hg)
 refine ⟨⟨X1.far (p:=⟨g3,0,none⟩) (Blk.ne_ X1 X3 (by decide)) _,⟨X2.far (p:=⟨g3,0,none⟩) (Blk.ne_ X2 X3 (by decide)) _,O2.far (p:=⟨g3,0,none⟩) (Own.ne_blk O2 X3 (by decide)) _⟩,⟨X3.set_ 0 _,ho.far (p:=⟨g3,0,none⟩) hn2 _⟩⟩,fun w0 k1 k2 _ k3=>?_,?_,fun g k1 _ k2=>?_⟩
 · exact bS (p:=⟨g3,0,none⟩) (bG (bA k1 _) hg (fun k hk=>Nat.le_trans k2 (h.crs.own.lt k hk).1)) k3 _
 · have:=hg.size;simp at this;simp;omega
 ·
  rw [Below.heap_setCell w3 ⟨g3,0,none⟩ _ g k2,hg.block g (by simp;omega) (fun e=>by have:=(h.crs.own.lt g e.symm).1;omega)]
  exact Below.heap_alloc w _ g (by omega)
def RowRet (W:World) (B g1 g2 g3:Nat) (y:Int) (T:List Rn) (C:List Int) (e:Ending) (W':World):Prop :=
 e=.returned (.tuple #[])∧(∃ vt vc,RowSt W' B g1 g2 g3 y T C vt vc)∧Kept2 B g2 g3 W W'

theorem mul_bd21 {u v:Int} (hu:-2097152≤u∧u≤2097152) (hv:-2097152≤v∧v≤2097152):-4398046511104≤u*v∧u*v≤4398046511104:=by
 have h1:=Int.mul_le_mul_of_nonneg_left hv.2 (show (0:Int)≤2097152 by omega)
 rcases Int.le_total 0 u with h | h
 ·
  have a1:=Int.mul_le_mul_of_nonneg_left hv.2 h
  have a2:=Int.mul_le_mul_of_nonneg_left hv.1 h
  omega
 ·
  have a1:=Int.mul_le_mul_of_nonpos_left h hv.1
  have a2:=Int.mul_le_mul_of_nonpos_left h hv.2
  omega
theorem ceil_bd {t d H D:Int} (hH:0<H) (h0:0≤t) (h1:t≤H) (hd:-D≤d∧d≤D):-D≤ceilQ (t*d) H∧ceilQ (t*d) H≤D:=by
 have hD:0≤D:=by omega
 constructor
 ·
  have h2:¬ ceilQ (t*d) H≤-D-1:=by
   rw [ceilQ_le hH]
   have a1:t*(-D)≤t*d:=Int.mul_le_mul_of_nonneg_left hd.1 h0
   have a2:t*D≤H*D:=Int.mul_le_mul_of_nonneg_right h1 hD
   have a3:(-D-1)*H=-(H*D)-H:=by rw [Int.sub_mul,Int.neg_mul,Int.one_mul,Int.mul_comm D H]
   have a4:t*(-D)=-(t*D):=by rw [Int.mul_neg]
   omega
  omega
 ·
  rw [ceilQ_le hH]
  have a1:t*d≤t*D:=Int.mul_le_mul_of_nonneg_left hd.2 h0
  have a2:t*D≤H*D:=Int.mul_le_mul_of_nonneg_right h1 hD
  have a3:D*H=H*D:=Int.mul_comm D H
  omega

set_option maxRecDepth 100000 in
set_option maxHeartbeats 8000000 in
theorem runsStep_spec (a b:Pt) (ha:big1 a) (hb:big1 b) (y:Int) (B g1 g2 g3:Nat) (T:List Rn) (C:List Int) (vt vc:Value) (w:World) (h:RowSt w B g1 g2 g3 y T C vt vc) (hBw:B≤w.heap.size) (hg1:g1<B) (hT:T.length≤1000000) (hC:C.length≤1000000) :
  Calls Tryz.prog 202 #[ptV a,ptV b,.pointer (some ⟨g1,0,none⟩),.pointer (some ⟨g2,0,none⟩),.pointer (some ⟨g3,0,none⟩)] w (RowRet w B g1 g2 g3 y (T++tknS y (a,b)) (C++crsS y (a,b))):=by
 have HCe:=Lib.hid (@Ceil_spec)
 obtain ⟨lo,hlo⟩:∃ lo,lowP a b=lo:=⟨_,rfl⟩
 obtain ⟨hi,hhi⟩:∃ hi,highP a b=hi:=⟨_,rfl⟩
 obtain ⟨R,hR⟩:∃ R,tknS y (a,b)=R:=⟨_,rfl⟩
 obtain ⟨S,hS⟩:∃ S,crsS y (a,b)=S:=⟨_,rfl⟩
 rw [hR,hS]
 obtain ⟨rise,hrise⟩:∃ rise,(y-lo.y)*(hi.x-lo.x)=rise:=⟨_,rfl⟩
 obtain ⟨q,hq⟩:∃ q,ceilQ rise (hi.y-lo.y)=q:=⟨_,rfl⟩
 have hat:atRow y a b=q:=by unfold atRow;rw [hlo,hhi,hrise,hq]
 have HR:=Lib.hid (show R=if y<lo.y∨hi.y<y then [] else if lo.y=hi.y then [⟨min lo.x hi.x,max lo.x hi.x+1⟩] else if q*(hi.y-lo.y)=rise then [⟨lo.x+q,lo.x+q+1⟩] else [] by
  rw [← hR]
  unfold tknS
  simp only
  rw [hat,hlo,hhi,hrise])
 have HS:=Lib.hid (show S=if lo.y≤y∧y<hi.y then [lo.x+q] else [] by
  rw [← hS]
  unfold crsS
  simp only
  rw [hat,hlo,hhi])
 have HRi:=Lib.hid hrise;have HQ:=Lib.hid hq
 clear hat hrise hq
 have hll:(b.y<a.y∧lo=b∧hi=a)∨(¬ b.y<a.y∧lo=a∧hi=b):=by
  rw [← hlo,← hhi]
  unfold lowP highP
  by_cases e:b.y<a.y
  · exact .inl ⟨e,by rw [if_pos e],by rw [if_pos e]⟩
  · exact .inr ⟨e,by rw [if_neg e],by rw [if_neg e]⟩
 have blo:big1 lo:=by rcases hll with ⟨-,e,-⟩ | ⟨-,e,-⟩<;>rw [e]<;>assumption
 have bhi:big1 hi:=by rcases hll with ⟨-,-,e⟩ | ⟨-,-,e⟩<;>rw [e]<;>assumption
 have hlh:lo.y≤hi.y:=by rcases hll with ⟨e0,e,e2⟩ | ⟨e0,e,e2⟩<;>rw [e,e2]<;>omega
 have HH:=Lib.hid h
 have X1:=h.row
 have hg2:=h.tkn.box.lt
 have hg3:=h.crs.box.lt
 have hg1:=X1.lt
 unfold ptV
 clear hR hS hlo hhi h
 go_enter Tryz.func202,Tryz.ntmps202
 go_upto_region 1 with fail
 obtain ⟨W1,hW⟩:∃ W1:World,W1=(w.alloc (.cells #[.int .i64 a.x,.int .i64 a.y] 39)).alloc (.cells #[.int .i64 b.x,.int .i64 b.y] 39):=⟨_,rfl⟩
 have X5:Blk W1 w.heap.size 39 #[.int .i64 a.x,.int .i64 a.y]:=by rw [hW];exact (Blk.made rfl _ _).alloc _
 have X6:Blk W1 (w.heap.size+1) 39 #[.int .i64 b.x,.int .i64 b.y]:=by rw [hW];exact Blk.made (by simp) _ _
 have hA:Below w.heap.size w W1:=by rw [hW];exact bA (bA (bR w) _) _
 have HA:=Lib.hid hA
 rw [← hW]
 clear hW hA X1
 obtain ⟨g6,hg6⟩:∃ g6,w.heap.size+1=g6:=⟨_,rfl⟩
 obtain ⟨g5,hg5⟩:∃ g5,w.heap.size=g5:=⟨_,rfl⟩
 have hl5:w.heap.size≤g5:=by omega
 have hl6:w.heap.size≤g6:=by omega
 have n1:g5≠g6:=by omega
 have n2:g6≠g5:=by omega
 rw [hg6] at X6 ⊢
 rw [hg5] at X5 ⊢
 clear hg5 hg6
 have HX5:=Lib.hid X5;have HX6:=Lib.hid X6
 obtain ⟨X5l,X5a,X5b,X5fa,X5fb⟩:=X5.facts2
 obtain ⟨X6l,X6a,X6b,X6fa,X6fb⟩:=X6.facts2
 rcases hll with ⟨hsw,e1,e2⟩ | ⟨hsw,e1,e2⟩
 subst e1 e2
 go_upto_region 3 with fail
 obtain ⟨W2,hW⟩:∃ W2:World,W2=(((W1.setCell ⟨g5,0,none⟩ (.int .i64 lo.x)).setCell ⟨g5,1,none⟩ (.int .i64 lo.y)).setCell ⟨g6,0,none⟩ (.int .i64 hi.x)).setCell ⟨g6,1,none⟩ (.int .i64 hi.y):=⟨_,rfl⟩
 have Y5:Blk W2 g5 39 #[.int .i64 lo.x,.int .i64 lo.y]:=by rw [hW];exact ((Blk.put2 HX5.out).far (p:=⟨g6,0,none⟩) n1 _).far (p:=⟨g6,1,none⟩) n1 _
 have Y6:Blk W2 (g6) 39 #[.int .i64 hi.x,.int .i64 hi.y]:=by rw [hW];exact Blk.put2 ((HX6.out.far (p:=⟨g5,0,none⟩) n2 _).far (p:=⟨g5,1,none⟩) n2 _)
 have HA2:=Lib.hid (show Below w.heap.size w W2 by rw [hW];exact bS (p:=⟨g6,1,none⟩) (bS (p:=⟨g6,0,none⟩) (bS (p:=⟨g5,1,none⟩) (bS (p:=⟨g5,0,none⟩) HA.out hl5 _) hl5 _) hl6 _) hl6 _)
 rw [← hW]
 clear hW HA HX5 HX6 X5 X6 X5l X5a X5b X5fa X5fb X6l X6a X6b X6fa X6fb
 rotate_left
 subst e1 e2
 go_upto_region 3 with fail
 obtain ⟨W2,hW⟩:∃ W2:World,W2=W1:=⟨_,rfl⟩
 have Y5:=X5;have Y6:=X6
 rw [← hW] at Y5 Y6 HA ⊢
 have HA2:=HA
 clear hW HA HX5 HX6 X5 X6 X5l X5a X5b X5fa X5fb X6l X6a X6b X6fa X6fb
 all_goals
  have HH2:=Lib.hid (HH.out.keep HA2.out)
  have X1:=HH2.out.row
  have HY5:=Lib.hid Y5;have HY6:=Lib.hid Y6
  clear HH
  obtain ⟨X1l,X1a,-⟩:=X1.facts1
  obtain ⟨Y5l,Y5a,Y5b,-,-⟩:=Y5.facts2
  obtain ⟨Y6l,Y6a,Y6b,-,-⟩:=Y6.facts2
  by_cases h1:y<lo.y
  ·
   have hr:=HR.out
   have hs:=HS.out
   rw [if_pos (.inl h1)] at hr
   rw [if_neg (fun e=>by omega)] at hs
   subst hr hs
   clear HR HS
   go_wp2_with fail
   refine bodyPost_ret (results_none rfl _ _ _) rfl ⟨rfl,⟨vt,vc,by simpa using HH2.out⟩,Kept2.of hBw HA2.out⟩
  by_cases h2:hi.y<y
  ·
   have hr:=HR.out
   have hs:=HS.out
   rw [if_pos (.inr h2)] at hr
   rw [if_neg (fun e=>by omega)] at hs
   subst hr hs
   clear HR HS
   go_wp2_with fail
   refine bodyPost_ret (results_none rfl _ _ _) rfl ⟨rfl,⟨vt,vc,by simpa using HH2.out⟩,Kept2.of hBw HA2.out⟩
  have hr:=HR.out
  rw [if_neg (fun e=>e.elim h1 h2)] at hr
  have HR2:=Lib.hid hr
  clear hr HR
  obtain ⟨At,ct,hvt,-⟩:=HH2.out.tkn.own.sl
  obtain ⟨Ac,cc,hvc,-⟩:=HH2.out.crs.own.sl
  subst hvt hvc
  have X2:=HH2.out.tkn.box
  have X3:=HH2.out.crs.box
  have HX2:=Lib.hid X2;have HX3:=Lib.hid X3
  by_cases hfl:lo.y=hi.y
  · first
  | exfalso;omega
  | skip
    have hr:=HR2.out
    have hs:=HS.out
    rw [if_pos hfl] at hr
    rw [if_neg (fun e=>by omega)] at hs
    subst hr hs
    clear HR2 HS
    have kx:IntKind.i64.wrap (max lo.x hi.x+1)=max lo.x hi.x+1:=IntWalk.i64_in _ (by have:=blo.1;have:=bhi.1;omega)
    have hB2:B≤W2.heap.size:=Nat.le_trans hBw HA2.out.size
    have hsh:(T++[(⟨min lo.x hi.x,max lo.x hi.x+1⟩:Rn)]).length=T.length+1:=by simp
    have HSh:=Lib.hid hsh
    clear hsh
    obtain ⟨X2l,X2a,X2fa⟩:=X2.facts1
    go_wp2_with
     (at_builtin
      refine wpList_appl _ rfl (.tmp 33) (.tmp 46) _ rfl (base:=B) elem_rn rnC_len rnC_one rfl (Own.alloc HH2.out.tkn.own _) rfl (l2:=[(⟨min lo.x hi.x,max lo.x hi.x+1⟩:Rn)]) (Sl.lit (n:=1) (Blk.made rfl _ _) rfl (le_maxLen (by omega))) (by simp only [List.length_cons,List.length_nil];omega) (by simp only [List.length_cons,List.length_nil];omega) (by simp;omega) ?_
      intro v3 w3 ho3 hg3 hat3
      obtain ⟨A3,c3,hv3,-⟩:=ho3.sl
      rw [HSh.out] at hv3
      subst hv3
      have HF:=Lib.hid (HH2.out.addT hB2 hg3 ho3)
      have X43:=Blk.grown (HX2.out.alloc _) hg3 (fun e=>Own.ne_blk HH2.out.tkn.own HX2.out (by decide) e.symm)
      clear ho3 hg3 hat3 X2 X2l X2a X2fa
      obtain ⟨X43l,X43a,X43fa⟩:=X43.facts1
      )
    refine bodyPost_ret (results_none rfl _ _ _) rfl ⟨rfl,⟨_,_,by first | exact HF.out.1 | (rw [List.append_nil];exact HF.out.1)⟩,(Kept2.of hBw HA2.out).trans HF.out.2⟩
  have hH:0<hi.y-lo.y:=by omega
  have hr:=HR2.out
  rw [if_neg hfl] at hr
  have HR3:=Lib.hid hr
  have hcb:=ceil_bd (t:=y-lo.y) (d:=hi.x-lo.x) (H:=hi.y-lo.y) (D:=2097152) hH (by omega) (by omega) (by have:=blo.1;have:=bhi.1;omega)
  have hrb:=mul_bd21 (u:=y-lo.y) (v:=hi.x-lo.x) (by have:=blo.2;have:=bhi.2;omega) (by have:=blo.1;have:=bhi.1;omega)
  have hqb:=mul_bd21 (u:=q) (v:=hi.y-lo.y) (by rw [HRi.out,HQ.out] at hcb;omega) (by have:=blo.2;have:=bhi.2;omega)
  rw [HRi.out] at hcb hrb
  rw [HQ.out] at hcb
  have b1:=blo.1
  have b2:=bhi.1
  have b3:=blo.2
  have b4:=bhi.2
  have hbd:bd60 rise:=by unfold bd60;omega
  have hce:=fun W=>HCe.out rise (hi.y-lo.y) W hbd hH
  rw [HQ.out] at hce
  have HC1:=Lib.hid hce
  have hB2:B≤W2.heap.size:=Nat.le_trans hBw HA2.out.size
  have kf:IntKind.i64.wrap (lo.x+q)=lo.x+q:=IntWalk.i64_in _ (by omega)
  have kg:IntKind.i64.wrap (lo.x+q+1)=lo.x+q+1:=IntWalk.i64_in _ (by omega)
  have KF:=Lib.hid kf;have KG:=Lib.hid kg
  have ke:IntKind.i64.wrap (q*(hi.y-lo.y))=q*(hi.y-lo.y):=IntWalk.i64_in _ (by omega)
  have KE:=Lib.hid ke
  have ka:IntKind.i64.wrap (y-lo.y)=y-lo.y:=IntWalk.i64_in _ (by omega)
  have kb:IntKind.i64.wrap (hi.x-lo.x)=hi.x-lo.x:=IntWalk.i64_in _ (by omega)
  have kd:IntKind.i64.wrap (hi.y-lo.y)=hi.y-lo.y:=IntWalk.i64_in _ (by omega)
  have kc:IntKind.i64.wrap ((y-lo.y)*(hi.x-lo.x))=rise:=by rw [HRi.out];exact IntWalk.i64_in _ (by omega)
  clear hr hcb hrb hqb hce hbd kf kg ke HCe HR2
  go_upto_region 6 with fail
  refine rg_start (Since W2) (.run 17 0 0 (.done)) (by kernel_rfl) (bD (bR _)) (by kernel_rfl) (by kernel_rfl) (Nat.le_of_ble_eq_true (by kernel_rfl)) ?_
  intro opsR QR Hops HQrg hS
  iterate 17
   apply rg_p;exact Hops;exact rfl;exact hS;exact rfl
   · intro _ hqc;go_simp;try rfl
   try simp only [pu]
  refine rg_done ?_
  refine HQrg.down _ _ ?_
  have hB:Below W2.heap.size W2 W2.drew:=hS
  clear hS HQrg Hops
  skip
  clear ka kb kc kd
  have ke:=KE.out
  have kf:=KF.out
  have kg:=KG.out
  go_wp2_with fail
  refine (HC1.out _).mono ?_
  rintro e w4 ⟨rfl,hw4⟩
  have HHn:=Lib.hid (HH2.out.keep hB)
  have HAn:=Lib.hid (bT HA2.out hB)
  have HY5n:=Lib.hid (HY5.out.keep hB);have HY6n:=Lib.hid (HY6.out.keep hB)
  have hBn:B≤W2.drew.heap.size:=Nat.le_trans hB2 hB.size
  rw [hw4] at *
  clear X1 X1l X1a Y5 Y5l Y5a Y5b Y6 Y6l Y6a Y6b X2 X3 HX2 HX3 HH2 HY5 HY6 hB2
  have XR:=HHn.out.row
  have XT:=HHn.out.tkn.box
  have Z5:=HY5n.out
  have Z6:=HY6n.out
  have HXT:=Lib.hid XT
  obtain ⟨XRl,XRa,-⟩:=XR.facts1
  obtain ⟨XTl,XTa,XTfa⟩:=XT.facts1
  obtain ⟨Z5l,Z5a,Z5b,-,-⟩:=Z5.facts2
  obtain ⟨Z6l,Z6a,Z6b,-,-⟩:=Z6.facts2
  rcases Decidable.em (q*(hi.y-lo.y)=rise) with h3 | h3
  have hr:=HR3.out
  rw [if_pos h3] at hr
  subst hr
  have hsh:(T++[(⟨lo.x+q,lo.x+q+1⟩:Rn)]).length=T.length+1:=by simp
  have HSh:=Lib.hid hsh
  have kr:IntKind.i64.wrap rise=rise:=by rw [← h3];exact ke
  clear hsh HR3
  go_upto_region 10 with
   (at_builtin
    refine wpList_appl _ rfl (.tmp 74) (.tmp 85) _ rfl (base:=B) elem_rn rnC_len rnC_one rfl (Own.alloc HHn.out.tkn.own _) rfl (l2:=[(⟨lo.x+q,lo.x+q+1⟩:Rn)]) (Sl.lit (n:=1) (Blk.made rfl _ _) rfl (le_maxLen (by omega))) (by simp only [List.length_cons,List.length_nil];omega) (by simp only [List.length_cons,List.length_nil];omega) (by simp;omega) ?_
    intro v3 w3 ho3 hg3 hat3
    obtain ⟨A3,c3,hv3,-⟩:=ho3.sl
    rw [HSh.out] at hv3
    subst hv3
    have HF:=Lib.hid (HHn.out.addT hBn hg3 ho3)
    have X43:=Blk.grown (HXT.out.alloc _) hg3 (fun e=>Own.ne_blk HHn.out.tkn.own HXT.out (by decide) e.symm)
    have HW5:=Lib.hid ((Blk.grown (HY5n.out.alloc _) hg3 (fun e=>Own.ne_blk HHn.out.tkn.own HY5n.out (by decide) e.symm)).far (p:=⟨g2,0,none⟩) (Blk.ne_ HY5n.out HXT.out (by decide)) (.slice A3 (T.length+1) c3))
    have HW6:=Lib.hid ((Blk.grown (HY6n.out.alloc _) hg3 (fun e=>Own.ne_blk HHn.out.tkn.own HY6n.out (by decide) e.symm)).far (p:=⟨g2,0,none⟩) (Blk.ne_ HY6n.out HXT.out (by decide)) (.slice A3 (T.length+1) c3))
    clear ho3 hg3 hat3 XT XTl XTa XTfa
    try clear X43l
    try clear X43a
    try clear X43fa
    obtain ⟨X43l,X43a,X43fa⟩:=X43.facts1
    )
  obtain ⟨W5,hW5⟩:∃ W5:World,W5=w3.setCell ⟨g2,0,none⟩ (.slice A3 (T.length+1) c3):=⟨_,rfl⟩
  have HQ:=Lib.hid HF.out.1;have HKp:=Lib.hid ((Kept2.of hBw HAn.out).trans HF.out.2)
  rw [← hW5] at HQ HKp HW5 HW6 ⊢
  clear hW5 HF X43 X43l X43a X43fa HHn HAn HY5n HY6n HXT XR XRl XRa Z5 Z5l Z5a Z5b Z6 Z6l Z6a Z6b hBn
  rotate_left
  have hr:=HR3.out
  rw [if_neg h3] at hr
  subst hr
  clear HR3
  go_upto_region 10 with fail
  obtain ⟨W5,hW5⟩:∃ W5:World,W5=w4:=⟨_,rfl⟩
  have HQ:=Lib.hid (show RowSt _ _ _ _ _ _ (T++[]) _ _ _ by rw [List.append_nil];exact HHn.out);have HKp:=Lib.hid (Kept2.of (g2:=g2) (g3:=g3) hBw HAn.out);have HW5:=HY5n;have HW6:=HY6n
  rw [← hW5] at HQ HKp HW5 HW6 ⊢
  clear hW5 HHn HAn HY5n HY6n HXT XR XRl XRa XT XTl XTa XTfa Z5 Z5l Z5a Z5b Z6 Z6l Z6a Z6b hBn
  all_goals
   have XR:=HQ.out.row
   have Z5:=HW5.out
   have Z6:=HW6.out
   have XC:=HQ.out.crs.box
   have HXC:=Lib.hid XC
   have hB5:B≤W5.heap.size:=Nat.le_trans hBw HKp.out.size
   have kf:=KF.out
   try clear XRl
   try clear XRa
   obtain ⟨XRl,XRa,-⟩:=XR.facts1
   try clear Z5l
   try clear Z5a
   try clear Z5b
   obtain ⟨Z5l,Z5a,Z5b,-,-⟩:=Z5.facts2
   try clear Z6l
   try clear Z6a
   try clear Z6b
   obtain ⟨Z6l,Z6a,Z6b,-,-⟩:=Z6.facts2
   obtain ⟨XCl,XCa,XCfa⟩:=XC.facts1
   by_cases h4:y<hi.y
   ·
    have hs:=HS.out
    rw [if_pos ⟨by omega,h4⟩] at hs
    subst hs
    have hsh:(C++[lo.x+q]).length=C.length+1:=by simp
    have HSh:=Lib.hid hsh
    clear hsh HS
    go_wp2_with
     (at_builtin
      refine wpList_appl _ rfl (.tmp 91) (.tmp 96) _ rfl (base:=B) elem_in inC_len inC_one rfl (Own.alloc HQ.out.crs.own _) rfl (l2:=[lo.x+q]) (Sl.lit (n:=1) (Blk.made rfl _ _) rfl (le_maxLen (by omega))) (by simp only [List.length_cons,List.length_nil];omega) (by simp only [List.length_cons,List.length_nil];omega) (by simp;omega) ?_
      intro v3 w3 ho3 hg3 hat3
      obtain ⟨A3,c3,hv3,-⟩:=ho3.sl
      rw [HSh.out] at hv3
      subst hv3
      have X43:=Blk.grown (HXC.out.alloc _) hg3 (fun e=>Own.ne_blk HQ.out.crs.own HXC.out (by decide) e.symm)
      have HF:=Lib.hid (HQ.out.addC hB5 hg3 ho3 (fun e=>by have:=(HQ.out.crs.own.lt g1 e).1;omega) (Own.ne_blk ho3 X43 (by decide)))
      clear ho3 hg3 hat3 XC XCl XCa XCfa
      try clear X43l
      try clear X43a
      try clear X43fa
      obtain ⟨X43l,X43a,X43fa⟩:=X43.facts1
      )
    exact bodyPost_end (v:=.tuple #[]) (results_none rfl _ _ _) rfl ⟨rfl,⟨_,_,by first | exact HF.out.1 | (have hf:=HF.out.1;simp only [List.append_nil] at hf;exact hf)⟩,HKp.out.trans HF.out.2⟩
   ·
    have hs:=HS.out
    rw [if_neg (fun e=>h4 e.2)] at hs
    subst hs
    clear HS
    go_wp2_with fail
    exact bodyPost_end (v:=.tuple #[]) (results_none rfl _ _ _) rfl ⟨rfl,⟨_,_,by first | exact HQ.out | (have hf:=HQ.out;simp only [List.append_nil] at hf;exact hf)⟩,HKp.out⟩
end Go.Proofs.YtialfdomhoojiaaGreat
