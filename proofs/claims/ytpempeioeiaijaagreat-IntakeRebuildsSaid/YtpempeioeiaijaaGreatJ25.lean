import Derived.Test.YtpempeioeiaijaaGreatJ14
import Derived.ProofKit
import Derived.Test.YtpempeioeiaijaaGreatProg
import Derived.Test.YtpempeioeiaijaaGreatChecked
import Derived.Deep.Slices
import Derived.Maps.Own
import Derived.Maps.Views
import Derived.DeepKeys4
import Derived.Test.YtpempeioeiaijaaGreatJ19
import Derived.Maps.OwnSet
import Derived.Maps.RangeWalk
import Derived.WideKeyEntry
import Derived.ChangeKeysEq
import Derived.Test.YtpempeioeiaijaaGreatJ04
set_option linter.unusedSimpArgs false
set_option linter.unusedVariables false
namespace Go.Proofs.YtpempeioeiaijaaGreat
open Go.RowKit Go.Sort

theorem cmpL_nil:cmpL [] []=0:=rfl
theorem cmpL_nil_cons (p:Pt) (l:List Pt):cmpL [] (p::l)=-1:=rfl
theorem cmpL_cons_nil (p:Pt) (l:List Pt):cmpL (p::l) []=1:=rfl
theorem cmpL_same (p:Pt) (a b:List Pt):cmpL (p::a) (p::b)=cmpL a b:=by unfold cmpL;simp [lexL]
theorem cmpL_ne {p q:Pt} (h:p≠q) (a b:List Pt):cmpL (p::a) (q::b)=cmpB p q:=by
 have h':¬ q=p:=fun e=>h e.symm
 unfold cmpL cmpB
 simp [lexL,h,h']
theorem cmpB_zero {p q:Pt}:cmpB p q=0↔p=q:=by
 unfold cmpB
 constructor
 ·
  intro h
  cases h1:bef p q
  ·
   cases h2:bef q p
   · exact bef_tri h1 h2
   · rw [h1,h2] at h;simp at h
  · rw [h1] at h;simp at h
 · rintro rfl;simp [bef_irr]
theorem drop_get {α:Type} (l:List α) {k:Nat} (h:k<l.length):l.drop k=l[k]::l.drop (k+1):=List.drop_eq_getElem_cons h

set_option maxRecDepth 100000 in
set_option maxHeartbeats 4000000 in
theorem CompareFn_spec (x y:SV×List Pt) (w:World) (hx:Pts w (svV x.1) x.2) (hy:Pts w (svV y.1) y.2) (hlx:x.2.length≤1000000000) (hly:y.2.length≤1000000000) :
  Calls Tryz.prog 67 #[svV x.1,svV y.1,.func (.func 27) #[] #[]] w fun e w'=>e=.returned (.int .i64 (cmpL x.2 y.2))∧BelowD w w':=by
 have HC:=Lib.hid (fun a b W=>Cmp19_spec a b W)
 obtain ⟨sx,lx⟩:=x
 obtain ⟨sy,ly⟩:=y
 simp only at *
 obtain ⟨A1,c1,hv1,hc1,hc1',hR1⟩:=hx
 obtain ⟨A2,c2,hv2,hc2,hc2',hR2⟩:=hy
 rw [hv1,hv2]
 have HR1:=Lib.hid hR1;have HR2:=Lib.hid hR2
 obtain ⟨q,hq⟩:∃ q,cmpL lx ly=q:=⟨_,rfl⟩
 rw [hq]
 have Hq:=Lib.hid (show cmpL (lx.drop 0) (ly.drop 0)=q from hq)
 unfold maxLen at hc1' hc2'
 clear hv1 hv2 hR1 hR2 hq
 go_enter Tryz.func67,Tryz.ntmps67
 go_upto_block 0 with fail
 go_wp2_with fail
 go_loopw [13] (fun u wr=>∃ k:Nat,k≤lx.length∧u=.int .i64 k∧BelowD w wr∧cmpL (lx.drop k) (ly.drop k)=q) (fun u _=>lx.length-(intOf u).toNat)
 case atStart => exact ⟨0,Nat.zero_le _,rfl,⟨bR w,dR w⟩,Hq.out⟩
 case round =>
  obtain ⟨k,hk,rfl,hbd,hcm⟩:=hrel
  have HB:=Lib.hid hbd.1;have HD:=Lib.hid hbd.2;have HQ:=Lib.hid hcm
  clear hbd hcm Hq
  by_cases hlt:k<lx.length
  ·
   obtain ⟨b,o,rfl,hlb,d0,d1⟩:=(HR1.out.mono HB.out).pt hlt
   obtain ⟨p,hp⟩:∃ p,lx[k]=p:=⟨_,rfl⟩
   rw [hp] at d0 d1
   have Hx:=Lib.hid (drop_get lx hlt)
   rw [hp] at Hx
   clear hp
   by_cases hlt2:k<ly.length
   ·
    obtain ⟨b2,o2,rfl,hlb2,f0,f1⟩:=(HR2.out.mono HB.out).pt hlt2
    obtain ⟨r,hr⟩:∃ r,ly[k]=r:=⟨_,rfl⟩
    rw [hr] at f0 f1
    have Hy:=Lib.hid (drop_get ly hlt2)
    rw [hr] at Hy
    clear hr
    have HCp:=Lib.hid (HC.out p r)
    go_wp2_with fail
    refine (HCp.out _).mono ?_
    rintro e w1 ⟨rfl,hb1,hd1⟩
    have HB1:=Lib.hid (bT (bA (bA HB.out _) _) hb1);have HD1:=Lib.hid (dT (dA (dA HD.out _) _) hd1)
    clear hb1 hd1 d0 d1 f0 f1 hlb hlb2
    by_cases hz:cmpB p r=0
    ·
     have e9:=cmpB_zero.1 hz
     subst e9
     have H9:=Lib.hid (show cmpL (lx.drop (k+1)) (ly.drop (k+1))=q by rw [← HQ.out,Hx.out,Hy.out,cmpL_same])
     generalize cmpB p p=z at *
     subst hz
     go_wp2_with fail
     go_roundw
     case rel => exact ⟨k+1,by omega,by go_num,⟨HB1.out,HD1.out⟩,H9.out⟩
     case measure => simp [intOf];omega
    ·
     have H9:=Lib.hid (show cmpB p r=q by
      rw [← HQ.out,Hx.out,Hy.out,cmpL_ne (fun e=>hz (cmpB_zero.2 e))])
     generalize cmpB p r=z at *
     have hz':(z != 0)=true:=by simpa using hz
     go_wp2_with fail
     go_ret
     exact ⟨ret_int H9.out,HB1.out,HD1.out⟩
   ·
    have H9:=Lib.hid (show (1:Int)=q by
     rw [← HQ.out,Hx.out,List.drop_eq_nil_of_le (show ly.length≤k by omega),cmpL_cons_nil])
    go_wp2_with fail
    go_ret
    exact ⟨ret_int H9.out,bA HB.out _,dA HD.out _⟩
  ·
   have hkn:k=lx.length:=by omega
   subst hkn
   have Hx:=Lib.hid (List.drop_length (l:=lx))
   by_cases hlt2:lx.length<ly.length
   ·
    have H9:=Lib.hid (show (-1:Int)=q by
     rw [← HQ.out,Hx.out,drop_get ly hlt2,cmpL_nil_cons])
    go_wp2_with fail
    go_ret
    exact ⟨ret_int H9.out,HB.out,HD.out⟩
   ·
    have H9:=Lib.hid (show (0:Int)=q by
     rw [← HQ.out,Hx.out,List.drop_eq_nil_of_le (show ly.length≤lx.length by omega),cmpL_nil])
    go_wp2_with fail
    go_ret
    exact ⟨ret_int H9.out,HB.out,HD.out⟩

set_option maxRecDepth 100000 in
set_option maxHeartbeats 1000000 in
theorem CmpLn_spec (x y:SV×List Pt) (w:World) (hx:Pts w (svV x.1) x.2) (hy:Pts w (svV y.1) y.2) (hlx:x.2.length≤1000000000) (hly:y.2.length≤1000000000) :
  Calls Tryz.prog 66 #[svV x.1,svV y.1] w fun e w'=>e=.returned (.int .i64 (cmpL x.2 y.2))∧BelowD w w':=by
 have HX:=Lib.hid (CompareFn_spec x y w hx hy hlx hly)
 generalize cmpL x.2 y.2=q at *
 clear hx hy hlx hly
 obtain ⟨⟨a1,n1,c1⟩,lx⟩:=x
 obtain ⟨⟨a2,n2,c2⟩,ly⟩:=y
 unfold svV at *
 simp only at *
 go_enter Tryz.func66,Tryz.ntmps66
 go_wp2_with fail
 refine HX.out.mono ?_
 rintro e w1 ⟨rfl,hb1,hd1⟩
 go_wp2_with fail
 go_ret
 exact ⟨rfl,hb1,hd1⟩
end Go.Proofs.YtpempeioeiaijaaGreat
namespace Go.Proofs.YtpempeioeiaijaaGreat
open Go.RowKit Go.Sort

set_option maxHeartbeats 400000 in
theorem Bef19_spec (a b:Pt) (w:World) :
  Calls Tryz.prog 59 #[.agg #[.int .i64 a.x,.int .i64 a.y],.agg #[.int .i64 b.x,.int .i64 b.y]] w fun e w'=>e=.returned (.bool (bef a b))∧Below w.heap.size w w':=by
 by_cases h1:a.x<b.x
 ·
  go_enter Tryz.func59,Tryz.ntmps59
  go_wp2
  go_ret
  refine ⟨ret_bool (by simp [bef,h1]),?_⟩
  repeat (first | with_reducible exact bR _ | with_reducible assumption | with_reducible refine bA ?_ _ | with_reducible refine bD ?_ | with_reducible refine bN ?_ _ | ((with_reducible refine bS ?_ ?_ _);rotate_left;(simp;try omega)) | ((with_reducible refine bT ?_ ?_);rotate_left;with_reducible assumption) | with_reducible refine bT ?_ (by assumption))
 ·
  by_cases h2:(a.x == b.x)=true
  ·
   go_enter Tryz.func59,Tryz.ntmps59
   go_wp2
   go_ret
   refine ⟨ret_bool (by simp only [bef];simp_all),?_⟩
   repeat (first | with_reducible exact bR _ | with_reducible assumption | with_reducible refine bA ?_ _ | with_reducible refine bD ?_ | with_reducible refine bN ?_ _ | ((with_reducible refine bS ?_ ?_ _);rotate_left;(simp;try omega)) | ((with_reducible refine bT ?_ ?_);rotate_left;with_reducible assumption) | with_reducible refine bT ?_ (by assumption))
  ·
   have h2':(a.x == b.x)=false:=by simpa using h2
   clear h2
   go_enter Tryz.func59,Tryz.ntmps59
   go_wp2
   go_ret
   refine ⟨ret_bool (by simp only [bef];simp_all),?_⟩
   repeat (first | with_reducible exact bR _ | with_reducible assumption | with_reducible refine bA ?_ _ | with_reducible refine bD ?_ | with_reducible refine bN ?_ _ | ((with_reducible refine bS ?_ ?_ _);rotate_left;(simp;try omega)) | ((with_reducible refine bT ?_ ?_);rotate_left;with_reducible assumption) | with_reducible refine bT ?_ (by assumption))

theorem lexL_drop_ne {a b:List Pt} {k:Nat} (ha:k<a.length) (hb:k<b.length) (h:a[k]≠b[k]):lexL (a.drop k) (b.drop k)=bef a[k] b[k]:=by
 rw [drop_get a ha,drop_get b hb]
 simp [lexL,h]
theorem lexL_drop_eq {a b:List Pt} {k:Nat} (ha:k<a.length) (hb:k<b.length) (h:a[k]=b[k]):lexL (a.drop k) (b.drop k)=lexL (a.drop (k+1)) (b.drop (k+1)):=by
 rw [drop_get a ha,drop_get b hb]
 simp [lexL,h]
theorem lexL_drop_end {a b:List Pt} {k:Nat} (hka:k≤a.length) (hkb:k≤b.length) (h:¬ (k<a.length∧k<b.length)):lexL (a.drop k) (b.drop k)=decide (a.length<b.length):=by
 by_cases ha:k<a.length
 ·
  have hb:k=b.length:=by omega
  subst hb
  rw [List.drop_length,drop_get a ha,decide_eq_false (by omega)]
  rfl
 ·
  have ha':k=a.length:=by omega
  subst ha'
  rw [List.drop_length]
  by_cases hb:a.length<b.length
  · rw [drop_get b hb,decide_eq_true hb];rfl
  ·
   have:a.length=b.length:=by omega
   rw [this,List.drop_length,decide_eq_false (by omega)];rfl

set_option maxRecDepth 100000 in
set_option maxHeartbeats 4000000 in
theorem Less19_spec (x y:SV×List Pt) (w:World) (hx:Pts w (svV x.1) x.2) (hy:Pts w (svV y.1) y.2) (hlx:x.2.length≤1000000000) (hly:y.2.length≤1000000000) :
  Calls Tryz.prog 31 #[svV x.1,svV y.1] w fun e w'=>e=.returned (.bool (lexL x.2 y.2))∧Below w.heap.size w w':=by
 have HBe:=Lib.hid (fun a b W=>Bef19_spec a b W)
 obtain ⟨sx,lx⟩:=x
 obtain ⟨sy,ly⟩:=y
 simp only at *
 obtain ⟨A1,c1,hv1,hc1,hc1',hR1⟩:=hx
 obtain ⟨A2,c2,hv2,hc2,hc2',hR2⟩:=hy
 rw [hv1,hv2]
 have HR1:=Lib.hid hR1;have HR2:=Lib.hid hR2
 obtain ⟨q,hq⟩:∃ q,lexL lx ly=q:=⟨_,rfl⟩
 rw [hq]
 have Hq:=Lib.hid (show lexL (lx.drop 0) (ly.drop 0)=q from hq)
 unfold maxLen at hc1' hc2'
 clear hv1 hv2 hR1 hR2 hq
 go_enter Tryz.func31,Tryz.ntmps31
 go_upto_block 0 with fail
 go_wp2_with fail
 go_loopw [5] (fun u wr=>∃ k:Nat,k≤lx.length∧k≤ly.length∧u=.int .i64 k∧Below w.heap.size w wr∧lexL (lx.drop k) (ly.drop k)=q) (fun u _=>lx.length-(intOf u).toNat)
 case atStart => exact ⟨0,Nat.zero_le _,Nat.zero_le _,rfl,bR w,Hq.out⟩
 case round =>
  obtain ⟨k,hk,hk2,rfl,hb,hcm⟩:=hrel
  obtain ⟨wo,rfl⟩:∃ wo:World,wo=wr:=⟨_,rfl⟩
  have HB:=Lib.hid hb;have HQ:=Lib.hid hcm
  clear hb hcm Hq
  by_cases hlt:k<lx.length∧k<ly.length
  ·
   obtain ⟨h1,h2⟩:=hlt
   obtain ⟨b,o,rfl,hlb,d0,d1⟩:=(HR1.out.mono HB.out).pt h1
   obtain ⟨b2,o2,rfl,hlb2,f0,f1⟩:=(HR2.out.mono HB.out).pt h2
   have He:=Lib.hid (lexL_drop_eq h1 h2)
   have Hn:=Lib.hid (lexL_drop_ne h1 h2)
   generalize lx[k]=p at *
   generalize ly[k]=r at *
   have z1:(k:Int)<lx.length:=by omega
   have z2:(k:Int)<ly.length:=by omega
   have z3:(0:Int)≤k:=by omega
   by_cases hpr:p=r
   ·
    subst hpr
    have hneq:∀ W,(binOp .neq 42 (.agg #[.int .i64 p.x,.int .i64 p.y]) (.agg #[.int .i64 p.x,.int .i64 p.y])).run Tryz.prog W=.ok (.bool false) W:=fun W=>by rw [run_neq_pt];simp
    go_upto_region 4 with fail
    refine rg_start (Since wo) (.run 9 0 0 (.done)) (by kernel_rfl) (bD (bR _)) (by kernel_rfl) (by kernel_rfl) (Nat.le_of_ble_eq_true (by kernel_rfl)) ?_
    intro opsR QR Hops HQrg hS
    iterate 9
     apply rg_p;exact Hops;exact rfl;exact hS;exact rfl
     · intro _ hqc;go_simp;try rfl
     try simp only [pu]
    refine rg_done ?_
    refine HQrg.down _ _ ?_
    have hB:Below wo.heap.size wo wo.drew:=hS
    clear hS HQrg Hops
    have HB9:=Lib.hid (bT HB.out hB)
    have H9:=Lib.hid (show lexL (lx.drop (k+1)) (ly.drop (k+1))=q by rw [← HQ.out,He.out (by trivial)])
    clear hneq d0 d1 f0 f1
    go_wp2_with fail
    go_roundw
    case rel => exact ⟨k+1,by omega,by omega,by go_num,HB9.out,H9.out⟩
    case measure => simp [intOf];omega
   ·
    have hneq:∀ W,(binOp .neq 42 (.agg #[.int .i64 p.x,.int .i64 p.y]) (.agg #[.int .i64 r.x,.int .i64 r.y])).run Tryz.prog W=.ok (.bool true) W:=fun W=>by rw [run_neq_pt];simp [hpr]
    have H9:=Lib.hid (show bef p r=q by rw [← HQ.out,Hn.out hpr])
    have HBp:=Lib.hid (HBe.out p r)
    clear hpr
    go_upto_region 4 with fail
    refine rg_start (Since wo) (.run 9 0 0 (.done)) (by kernel_rfl) (bD (bR _)) (by kernel_rfl) (by kernel_rfl) (Nat.le_of_ble_eq_true (by kernel_rfl)) ?_
    intro opsR QR Hops HQrg hS
    iterate 9
     apply rg_p;exact Hops;exact rfl;exact hS;exact rfl
     · intro _ hqc;go_simp;try rfl
     try simp only [pu]
    refine rg_done ?_
    refine HQrg.down _ _ ?_
    have hB:Below wo.heap.size wo wo.drew:=hS
    clear hS HQrg Hops
    go_upto_region 5 with fail
    obtain ⟨W9,hW9⟩:∃ W9:World,W9=wo.drew:=⟨_,rfl⟩
    have HB9:=Lib.hid (show Below w.heap.size w W9 by rw [hW9];exact bD HB.out)
    have y0:W9.cell? ⟨b,o+k*2,none⟩=some (.int .i64 p.x):=by rw [hW9];exact d0
    have y1:W9.cell? ⟨b,o+k*2+1,none⟩=some (.int .i64 p.y):=by rw [hW9];exact d1
    have y2:W9.cell? ⟨b2,o2+k*2,none⟩=some (.int .i64 r.x):=by rw [hW9];exact f0
    have y3:W9.cell? ⟨b2,o2+k*2+1,none⟩=some (.int .i64 r.y):=by rw [hW9];exact f1
    have y4:b<W9.heap.size:=by rw [hW9];exact hlb
    have y5:b2<W9.heap.size:=by rw [hW9];exact hlb2
    rw [← hW9]
    clear hW9 d0 d1 f0 f1 hlb hlb2 hneq hB
    refine rg_start (Since W9) (.run 8 0 0 (.call 8 511 (.take 9 1023 (.done)))) (by kernel_rfl) (bD (bR _)) (by kernel_rfl) (by kernel_rfl) (Nat.le_of_ble_eq_true (by kernel_rfl)) ?_
    intro opsR QR Hops HQrg hS
    iterate 8
     apply rg_p;exact Hops;exact rfl;exact hS;exact rfl
     · intro _ hqc;go_simp;try rfl
     try simp only [pu]
    refine rg_call (i:=8) (get_of Hops rfl) (fun K hK=>?_)
    have HSrg:=Lib.hid hS;clear hS
    refine rg_run (wanted_plain rfl) ?_
    go_simp
    refine (HBp.out _).mono ?_
    rintro e wr1 ⟨rfl,hbr1⟩
    have hS:Since W9 wr1:=bT (w:=W9) HSrg.out hbr1
    clear HSrg
    refine hK.out _ _ hS (fun _=>?_)
    clear hK K
    try simp only [pu]
    apply rg_p;exact Hops;exact rfl;exact hS;exact rfl
    · intro _ hqc;go_simp;try rfl
    try simp only [pu]
    refine rg_done ?_
    refine HQrg.down _ _ ?_
    have hB:Below W9.heap.size W9 wr1:=hS
    clear hS HQrg Hops
    go_wp2_with fail
    go_ret
    exact ⟨ret_bool H9.out,bT HB9.out hB⟩
  ·
   have H9:=Lib.hid (lexL_drop_end hk hk2 hlt)
   go_wp2_with fail
   all_goals
    go_ret
    refine ⟨ret_bool ?_,HB.out⟩
    rw [← HQ.out,H9.out]
    first | done | (rw [Bool.eq_iff_iff];simp only [decide_eq_true_eq];omega) | (simp;omega)

set_option maxRecDepth 100000 in
set_option maxHeartbeats 4000000 in
theorem Same19_spec (v u:Value) (xs ys:List (SV×List Pt)) (w:World) (hx:Lns19 w v xs) (hy:Lns19 w u ys) (hnx:xs.length≤1000000) (hny:ys.length≤1000000) (hlx:∀ k (hk:k<xs.length),xs[k].2.length≤1000000000) (hly:∀ k (hk:k<ys.length),ys[k].2.length≤1000000000) :
  Calls Tryz.prog 14 #[v,u] w fun e w'=>e=.returned (.bool (decide (xs.map (·.2)=ys.map (·.2))))∧Below w.heap.size w w':=by
 have HL1:=Lib.hid (fun k (h1:k<xs.length) (h2:k<ys.length) W (hW:Below w.heap.size w W)=>Less19_spec xs[k] ys[k] W ((hx.2 k h1).mono hW) ((hy.2 k h2).mono hW) (hlx k h1) (hly k h2))
 have HL2:=Lib.hid (fun k (h1:k<xs.length) (h2:k<ys.length) W (hW:Below w.heap.size w W)=>Less19_spec ys[k] xs[k] W ((hy.2 k h2).mono hW) ((hx.2 k h1).mono hW) (hly k h2) (hlx k h1))
 obtain ⟨⟨A1,c1,rfl,hc1,hc1',hR1⟩,-⟩:=hx
 obtain ⟨⟨A2,c2,rfl,hc2,hc2',hR2⟩,-⟩:=hy
 obtain ⟨q,hq⟩:∃ q,decide (xs.map (·.2)=ys.map (·.2))=q:=⟨_,rfl⟩
 rw [hq]
 have Hq:=Lib.hid hq
 have HR1:=Lib.hid hR1;have HR2:=Lib.hid hR2
 unfold maxLen at hc1' hc2'
 clear hq hR1 hR2 hlx hly
 by_cases hne:xs.length=ys.length
 case neg =>
  have H9:=Lib.hid (show q=false by
   rw [← Hq.out,decide_eq_false]
   intro e
   have:=congrArg List.length e
   simp only [List.length_map] at this
   exact hne this)
  have hni:¬ (xs.length:Int)=ys.length:=by omega
  have hnb:((xs.length:Int) != ys.length)=true:=by simp;omega
  clear hne
  go_enter Tryz.func14,Tryz.ntmps14
  go_wp2_with fail
  go_ret
  exact ⟨ret_bool H9.out.symm,bR w⟩
 case pos =>
  have Hne:=Lib.hid hne
  have hnb:((xs.length:Int) != ys.length)=false:=by simp [hne]
  clear hne
  go_enter Tryz.func14,Tryz.ntmps14
  go_upto_block 0 with fail
  go_wp2_with fail
  go_loopw [5] (fun z wr=>∃ k:Nat,k≤xs.length∧z=.int .i64 k∧Below w.heap.size w wr∧∀ j (h1:j<xs.length) (h2:j<ys.length),j<k→xs[j].2=ys[j].2) (fun z _=>xs.length-(intOf z).toNat)
  case atStart => exact ⟨0,Nat.zero_le _,rfl,bR w,fun _ _ _ h=>by omega⟩
  case round =>
   obtain ⟨k,hk,rfl,hb,hno⟩:=hrel
   obtain ⟨wo,rfl⟩:∃ wo:World,wo=wr:=⟨_,rfl⟩
   have HB:=Lib.hid hb;have HNo:=Lib.hid hno
   clear hb hno
   by_cases hlt:k<xs.length
   ·
    have hlt2:k<ys.length:=by rw [← Hne.out];exact hlt
    obtain ⟨b,o,rfl,hlb,c0⟩:=(HR1.out.mono HB.out).ln hlt
    obtain ⟨b2,o2,rfl,hlb2,d0⟩:=(HR2.out.mono HB.out).ln hlt2
    have z1:(k:Int)<xs.length:=by omega
    have z2:(k:Int)<ys.length:=by omega
    have z3:(0:Int)≤k:=by omega
    have HLa:=Lib.hid (HL1.out k hlt hlt2)
    have HLb:=Lib.hid (HL2.out k hlt hlt2)
    unfold svV at c0 d0 HLa HLb
    have hoff:∀ (h:xs[k].2≠ys[k].2),q=false:=fun h=>by
     rw [← Hq.out,decide_eq_false]
     intro e
     have h1:(xs.map (·.2))[k]? = (ys.map (·.2))[k]? := by rw [e]
     rw [List.getElem?_map,List.getElem?_map,List.getElem?_eq_getElem hlt,List.getElem?_eq_getElem hlt2] at h1
     exact h (Option.some.inj h1)
    have Hoff:=Lib.hid hoff
    have HNk:=Lib.hid (fun (h9:xs[k].2=ys[k].2)=>show ∀ j (h1:j<xs.length) (h2:j<ys.length),j<k+1→xs[j].2=ys[j].2 from fun j h1 h2 hjk=>if e:j<k then HNo.out j h1 h2 e else by
     have:j=k:=by omega
     subst this;exact h9)
    have HIr:=Lib.hid (lexL_irr xs[k].2)
    have HTr:=Lib.hid (@lexL_tri xs[k].2 ys[k].2)
    clear hoff HNo
    generalize xs[k]=x at *
    generalize ys[k]=y at *
    obtain ⟨⟨xa,xn,xc⟩,lx⟩:=x
    obtain ⟨⟨ya,yn,yc⟩,ly⟩:=y
    simp only at *
    cases hl:lexL lx ly
    ·
     rw [hl] at HLa
     cases hl2:lexL ly lx
     ·
      rw [hl2] at HLb
      have H9:=Lib.hid (HTr.out hl hl2)
      clear hl hl2 Hoff
      go_upto_region 6 with fail
      refine rg_start (Since wo) (.run 8 0 0 (.call 8 511 (.run 9 9 511 (.call 18 524287 (.take 19 1048575 (.done)))))) (by kernel_rfl) (bD (bR _)) (by kernel_rfl) (by kernel_rfl) (Nat.le_of_ble_eq_true (by kernel_rfl)) ?_
      intro opsR QR Hops HQrg hS
      iterate 8
       apply rg_p;exact Hops;exact rfl;exact hS;exact rfl
       · intro _ hqc;go_simp;try rfl
       try simp only [pu]
      refine rg_call (i:=8) (get_of Hops rfl) (fun K hK=>?_)
      have HSrg:=Lib.hid hS;clear hS
      refine rg_run (wanted_plain rfl) ?_
      go_simp
      refine (HLa.out _ (bT HB.out HSrg.out)).mono ?_
      rintro e wr1 ⟨rfl,hbr1⟩
      have hS:Since wo wr1:=bT (w:=wo) HSrg.out hbr1
      clear HSrg
      refine hK.out _ _ hS (fun _=>?_)
      clear hK K
      try simp only [pu]
      apply rg_p;exact Hops;exact rfl;exact hS;exact rfl
      · intro _ hqc;go_simp;try rfl
      try simp only [pu]
      iterate 8
       apply rg_g;exact Hops;exact rfl;exact hS;iterate 4 exact rfl
       · intro _ hqc;go_simp;try rfl
       try simp only [pu]
      refine rg_call (i:=18) (get_of Hops rfl) (fun K hK=>?_)
      have HSrg:=Lib.hid hS;clear hS
      refine rg_run (wanted_yes rfl (get_of Hops rfl) rfl rfl) ?_
      go_simp
      refine (HLb.out _ (bT HB.out HSrg.out)).mono ?_
      rintro e wr2 ⟨rfl,hbr2⟩
      have hS:Since wo wr2:=bT (w:=wo) HSrg.out hbr2
      clear HSrg
      refine hK.out _ _ hS (fun _=>?_)
      clear hK K
      try simp only [pu]
      apply rg_p;exact Hops;exact rfl;exact hS;exact rfl
      · intro _ hqc;go_simp;try rfl
      try simp only [pu]
      refine rg_done ?_
      refine HQrg.down _ _ ?_
      have hB:Below wo.heap.size wo wr2:=hS
      clear hS HQrg Hops
      have HB9:=Lib.hid (bT HB.out hB)
      go_wp2_with fail
      go_roundw
      case rel => exact ⟨k+1,by omega,by go_num,HB9.out,HNk.out H9.out⟩
      case measure => simp [intOf];omega
     ·
      rw [hl2] at HLb
      have H9:=Lib.hid (Hoff.out (fun e=>by rw [e] at hl2;rw [lexL_irr] at hl2;cases hl2))
      clear hl hl2 Hoff
      go_upto_region 6 with fail
      refine rg_start (Since wo) (.run 8 0 0 (.call 8 511 (.run 9 9 511 (.call 18 524287 (.take 19 1048575 (.done)))))) (by kernel_rfl) (bD (bR _)) (by kernel_rfl) (by kernel_rfl) (Nat.le_of_ble_eq_true (by kernel_rfl)) ?_
      intro opsR QR Hops HQrg hS
      iterate 8
       apply rg_p;exact Hops;exact rfl;exact hS;exact rfl
       · intro _ hqc;go_simp;try rfl
       try simp only [pu]
      refine rg_call (i:=8) (get_of Hops rfl) (fun K hK=>?_)
      have HSrg:=Lib.hid hS;clear hS
      refine rg_run (wanted_plain rfl) ?_
      go_simp
      refine (HLa.out _ (bT HB.out HSrg.out)).mono ?_
      rintro e wr1 ⟨rfl,hbr1⟩
      have hS:Since wo wr1:=bT (w:=wo) HSrg.out hbr1
      clear HSrg
      refine hK.out _ _ hS (fun _=>?_)
      clear hK K
      try simp only [pu]
      apply rg_p;exact Hops;exact rfl;exact hS;exact rfl
      · intro _ hqc;go_simp;try rfl
      try simp only [pu]
      iterate 8
       apply rg_g;exact Hops;exact rfl;exact hS;iterate 4 exact rfl
       · intro _ hqc;go_simp;try rfl
       try simp only [pu]
      refine rg_call (i:=18) (get_of Hops rfl) (fun K hK=>?_)
      have HSrg:=Lib.hid hS;clear hS
      refine rg_run (wanted_yes rfl (get_of Hops rfl) rfl rfl) ?_
      go_simp
      refine (HLb.out _ (bT HB.out HSrg.out)).mono ?_
      rintro e wr2 ⟨rfl,hbr2⟩
      have hS:Since wo wr2:=bT (w:=wo) HSrg.out hbr2
      clear HSrg
      refine hK.out _ _ hS (fun _=>?_)
      clear hK K
      try simp only [pu]
      apply rg_p;exact Hops;exact rfl;exact hS;exact rfl
      · intro _ hqc;go_simp;try rfl
      try simp only [pu]
      refine rg_done ?_
      refine HQrg.down _ _ ?_
      have hB:Below wo.heap.size wo wr2:=hS
      clear hS HQrg Hops
      have HB9:=Lib.hid (bT HB.out hB)
      go_wp2_with fail
      go_ret
      exact ⟨ret_bool H9.out.symm,HB9.out⟩
    ·
     rw [hl] at HLa
     have H9:=Lib.hid (Hoff.out (fun e=>by rw [e] at hl;rw [lexL_irr] at hl;cases hl))
     clear hl Hoff
     go_upto_region 6 with fail
     refine rg_start (Since wo) (.run 8 0 0 (.call 8 511 (.run 11 9 511 (.done)))) (by kernel_rfl) (bD (bR _)) (by kernel_rfl) (by kernel_rfl) (Nat.le_of_ble_eq_true (by kernel_rfl)) ?_
     intro opsR QR Hops HQrg hS
     iterate 8
      apply rg_p;exact Hops;exact rfl;exact hS;exact rfl
      · intro _ hqc;go_simp;try rfl
      try simp only [pu]
     refine rg_call (i:=8) (get_of Hops rfl) (fun K hK=>?_)
     have HSrg:=Lib.hid hS;clear hS
     refine rg_run (wanted_plain rfl) ?_
     go_simp
     refine (HLa.out _ (bT HB.out HSrg.out)).mono ?_
     rintro e wr1 ⟨rfl,hbr1⟩
     have hS:Since wo wr1:=bT (w:=wo) HSrg.out hbr1
     clear HSrg
     refine hK.out _ _ hS (fun _=>?_)
     clear hK K
     try simp only [pu]
     apply rg_p;exact Hops;exact rfl;exact hS;exact rfl
     · intro _ hqc;go_simp;try rfl
     try simp only [pu]
     iterate 9
      refine rg_yn Hops rfl hS rfl rfl rfl rfl rfl ?_
      try simp only [pu]
     apply rg_p;exact Hops;exact rfl;exact hS;exact rfl
     · intro _ hqc;go_simp;try rfl
     try simp only [pu]
     refine rg_done ?_
     refine HQrg.down _ _ ?_
     have hB:Below wo.heap.size wo wr1:=hS
     clear hS HQrg Hops
     have HB9:=Lib.hid (bT HB.out hB)
     go_wp2_with fail
     go_ret
     exact ⟨ret_bool H9.out.symm,HB9.out⟩
   ·
    have H9:=Lib.hid (show q=true by
     rw [← Hq.out,decide_eq_true]
     refine List.ext_getElem (by simpa using Hne.out) fun j h1 h2=>?_
     rw [List.getElem_map,List.getElem_map]
     exact HNo.out j _ _ (by simp only [List.length_map] at h1;omega))
    go_wp2_with fail
    go_ret
    exact ⟨ret_bool H9.out.symm,HB.out⟩
end Go.Proofs.YtpempeioeiaijaaGreat
namespace Go.Proofs.YtpempeioeiaijaaGreat
open Go.ChangeShapes Go.WideShapes Go.RowKit

theorem own_knob:ownKnob Tryz.prog.godebug=none:=by kernel_rfl
theorem laid_out:laidOutB Tryz.prog=true:=by kernel_rfl

section
variable {H:Type} {enc:TypeId×Value→H} {P:Program}
theorem arg_again {t:TypeId} (hl:laidOutB P=true) (hr:P.readableRec t=true) (hrow:t<P.types.size) {W W':World} {v:Value} {d:DataW H} {ps:List MemPlace} {sp:Nat→Bool}
  (h:DataW.Trod enc P W 0 (fun _=>true) true t v d ps) (hb:Below W.heap.size W W') (hlt:∀ x∈ps,x.block<W.heap.size) (hs:∀ x∈ps,sp x.block=true):DataW.Trod enc P W' 0 sp true t v d ps :=
 WideElems.Trod_stays hl hr hrow h (fun x hx=>hb.same (hlt x hx)) hs

theorem law_post {f:Func} {s:ChangeSpec} {W W':World} {args:Array Value} {v:Value} {ds gs:List (DataW H)} {before:List MemPlace}
  (hW:DataW.Whole enc P f.params.toList s.vars false W args.toList ds gs before) (hv:s.vars=[]) (hb:Below W.heap.size W W')
  (hres:∀ (b:Nat) (sp:Nat→Bool) (hd:Bool),DataW.TrodAll enc P W' b sp hd f.resultTypes.toList (v.resultList f.resultTypes.size) (s.fn H (ds++gs)).results [])
  (hargs:∀ sp:Nat→Bool,(∀ p∈before,sp p.block=true)→DataW.TrodAll enc P W' 0 sp true f.params.toList args.toList (s.fn H (ds++gs)).args before)
  (hvars:(s.fn H (ds++gs)).vars=[])
  (hok:∀ (j:Nat) (t:TypeId) (r:Value),f.resultTypes[j]? = some t→(v.resultList f.resultTypes.size)[j]? = some r→Value.okWide P W' .any 0 t r) :
  s.post enc P f false true false false W args v W':=by
 have hlow:∀ p∈before,p.block<W.heap.size:=fun p hp=>hW.lt p hp
 have hno:∀ sp:Nat→Bool,DataW.TrodVars enc P W' sp s.vars (s.fn H (ds++gs)).vars []:=fun sp=>by rw [hv,hvars];rfl
 have htest:∀ p∈before,(fun b=>decide (b<W.heap.size)) p.block=true:=fun p hp=>decide_eq_true (hlow p hp)
 refine ⟨ds,gs,before,[],before,[],hW,hres _ _ _,hargs _ htest,hno _,?_,fun hc=>by cases hc⟩
 exact World.keptBut_mono (fun p hp=>⟨hp,Or.inr (Or.inl hp)⟩) (hb.frame (·∈before))
end
end Go.Proofs.YtpempeioeiaijaaGreat
namespace Go.Proofs.YtpempeioeiaijaaGreat
open Go.RowKit

theorem keyed_pt:Maps.Keyed Tryz.prog 42:=Maps.Keyed.of_law (deep_law_laid laid_out (m:=2) (by omega) (of_decide_eq_true (by kernel_rfl)) (by kernel_rfl) (by kernel_rfl))
theorem ntypes:∃ n,Tryz.prog.types.size=n+1:=⟨Tryz.prog.types.size-1,by kernel_rfl⟩
theorem key_pt (p:Pt) (h:wfPt p):∃ l,keyOf Tryz.prog 42 (ptV p)=some l:=by
 obtain ⟨n,hn⟩:=ntypes
 have h1:Tryz.prog.keyType 42=true:=by kernel_rfl
 have h2:(ptV p).formed Tryz.prog 42=true:=by
  unfold ptV Value.formed
  rw [Tryz.underlying42]
  simp only [c_pt]
  rfl
 have h3:∃ ls,Tryz.prog.keyLits (n+1+1) 42 (ptV p).cells.toList=some ls:=by
  have hx:=h.1;have hy:=h.2
  unfold wfI at hx hy
  simp [Program.keyLits,Tryz.underlying42,Tryz.underlying3,c_pt,c_int,ptV,Value.cells,hx,hy]
 obtain ⟨ls,h3⟩:=h3
 refine ⟨.string (keyBytes ls),?_⟩
 unfold keyOf
 rw [Tryz.underlying42,hn]
 simp only
 rw [h1,h2,h3]
 rfl

end Go.Proofs.YtpempeioeiaijaaGreat
namespace Go.Proofs.YtpempeioeiaijaaGreat
open Go.RowKit

structure PNf (f:Pt→Int) (D:DataW Unit):Prop where
 at_:∀ p l,keyOf Tryz.prog 42 (ptV p)=some l→D.atKey l (iiD 0)=iiD (f p)
 has:∀ p l,keyOf Tryz.prog 42 (ptV p)=some l→Maps.has D l=decide (f p≠0)
theorem ptV_inj {p q:Pt} (h:ptV p=ptV q):p=q:=by
 unfold ptV at h
 simp only [Value.agg.injEq] at h
 have h0:=congrArg (fun a:Array Value=>a.toList) h
 simp only [List.cons.injEq,Value.int.injEq,and_true,true_and] at h0
 exact Pt.ext_iff'.2 ⟨h0.1,h0.2⟩
theorem key_ne {p q:Pt} {l m:Lit} (hp:keyOf Tryz.prog 42 (ptV p)=some l) (hq:keyOf Tryz.prog 42 (ptV q)=some m) (h:p≠q):l≠m:=fun e=>by
 subst e
 exact h (ptV_inj (keyed_pt.inj hp hq))
set_option maxRecDepth 100000 in
theorem key_inv {key:Value} {l:Lit} (h:keyOf Tryz.prog 42 key=some l):∃ p,key=ptV p∧wfPt p:=by
 obtain ⟨n,hn⟩:=ntypes
 unfold keyOf at h
 rw [Tryz.underlying42,hn] at h
 simp only at h
 split at h
 ·
  rename_i h1
  rw [Bool.and_eq_true] at h1
  have hf:=h1.2
  obtain ⟨ls,hls,-⟩:=Option.map_eq_some_iff.1 h
  have hcs:∃ a b,key=.agg #[a,b]:=by
   cases key with
   | agg cs =>
    unfold Value.formed at hf
    rw [Tryz.underlying42] at hf
    simp only [c_pt] at hf
    obtain ⟨cs⟩:=cs
    have h2:cs.length=2:=by simpa using hf
    obtain ⟨a,b,rfl⟩:=lst2 h2
    exact ⟨a,b,rfl⟩
   | _=>unfold Value.formed at hf;rw [Tryz.underlying42] at hf;cases hf
  obtain ⟨a,b,rfl⟩:=hcs
  rw [Program.keyLits.eq_def] at hls
  simp only [Tryz.underlying42,c_pt,Value.cells] at hls
  split at hls
  ·
   obtain ⟨ls2,hls2,-⟩:=Option.map_eq_some_iff.1 hls
   simp only [List.mapM_cons,List.mapM_nil,List.drop,List.take,c_int] at hls2
   obtain ⟨la,ha,hls2⟩:=Option.bind_eq_some_iff.1 hls2
   obtain ⟨lb,hb,-⟩:=Option.bind_eq_some_iff.1 hls2
   obtain ⟨x,hx,-⟩:=keyLits_int' Tryz.underlying3 ha
   obtain ⟨lb2,hb2,-⟩:=Option.bind_eq_some_iff.1 hb
   obtain ⟨y,hy,-⟩:=keyLits_int' Tryz.underlying3 hb2
   simp only [List.cons.injEq,and_true] at hx hy
   subst hx hy
   rw [Program.keyLits.eq_def] at ha hb2
   simp only [Tryz.underlying3,true_and] at ha hb2
   refine ⟨⟨x,y⟩,rfl,?_,?_⟩
   ·
    unfold wfI
    split at ha
    · assumption
    · cases ha
   ·
    unfold wfI
    split at hb2
    · assumption
    · cases hb2
  · cases hls
 · cases h
def MapPN (w:World) (b n:Nat) (f:Pt→Int):Prop :=
 ∃ D:DataW Unit,w.ownsMap Tryz.prog 42 iiR b n D∧Maps.IsMap D∧PNf f D
theorem MapPN.kept {w w':World} {b n:Nat} {f:Pt→Int} (h:MapPN w b n f) {row:Option Nat} (hg:w.grownBy w' row) (hr:some b≠row):MapPN w' b n f:=by
 obtain ⟨D,h1,h2⟩:=h
 exact ⟨D,h1.kept hg hr,h2⟩
theorem MapPN.keep {w w':World} {b n:Nat} {f:Pt→Int} (h:MapPN w b n f) (hb:Below w.heap.size w w'):MapPN w' b n f :=
 h.kept (row:=none) ⟨hb.os,hb.tape,hb.output,hb.size,fun i hi _=>hb.block i hi⟩ (by simp)
theorem MapPN.made (w:World):MapPN (w.alloc (.map #[] 0)) w.heap.size 0 (fun _=>0) :=
 ⟨.map [],World.ownsMap_made _ _ _ _,⟨_,rfl⟩,fun _ _ _=>rfl,fun _ _ _=>rfl⟩
set_option maxRecDepth 100000 in
theorem MapPN.look {w:World} {b n:Nat} {f:Pt→Int} (h:MapPN w b n f) (p:Pt) (hp:wfPt p) :
  (Instr.lookup 52 (.map (some b)) (.agg #[.int .i64 p.x,.int .i64 p.y]) false).run Tryz.prog w=.ok (.int .i64 (f p)) w:=by
 obtain ⟨D,h1,-,h2⟩:=h
 obtain ⟨l,hl⟩:=key_pt p hp
 obtain ⟨v,ps,hr,hv⟩:=h1.lookup keyed_pt Tryz.underlying52 (zero_ii w) (zd:=iiD 0) (zp:=[]) rfl hl
 rw [h2.at_ p l hl] at hv
 have hr':(Instr.lookup 52 (.map (some b)) (.agg #[.int .i64 p.x,.int .i64 p.y]) false).run Tryz.prog w=.ok v w:=hr
 rw [hr',iiR_inv hv]
set_option maxRecDepth 100000 in
theorem MapPN.look_ok {w:World} {b n:Nat} {f:Pt→Int} (h:MapPN w b n f) (p:Pt) (hp:wfPt p) :
  (Instr.lookup 52 (.map (some b)) (.agg #[.int .i64 p.x,.int .i64 p.y]) true).run Tryz.prog w=.ok (.tuple #[.int .i64 (f p),.bool (decide (f p≠0))]) w:=by
 obtain ⟨D,h1,-,h2⟩:=h
 obtain ⟨l,hl⟩:=key_pt p hp
 obtain ⟨v,ps,hr,hv⟩:=h1.look_ok keyed_pt Tryz.underlying52 (zero_ii w) (zd:=iiD 0) (zp:=[]) rfl hl
 rw [h2.at_ p l hl] at hv
 have hr':(Instr.lookup 52 (.map (some b)) (.agg #[.int .i64 p.x,.int .i64 p.y]) true).run Tryz.prog w=.ok (.tuple #[v,.bool (Maps.has D l)]) w:=hr
 rw [hr',iiR_inv hv,h2.has p l hl]
set_option maxRecDepth 100000 in
theorem PNf.put {f:Pt→Int} {D:DataW Unit} (h:PNf f D) (hm:Maps.IsMap D) {p:Pt} {l:Lit} (hl:keyOf Tryz.prog 42 (ptV p)=some l) (x:Int) (hx:x≠0):PNf (fun i=>if i=p then x else f i) (D.put l (iiD x)) where
 at_ i l' hl':=by
  by_cases e:i=p
  ·
   subst e
   rw [hl] at hl'
   injection hl' with hl'
   subst hl'
   simp only [if_true]
   exact Maps.atKey_put_same hm (keyed_pt.key hl) _ _
  ·
   simp only [if_neg e]
   rw [Maps.atKey_put_other (key_ne hl' hl e),h.at_ i l' hl']
 has i l' hl':=by
  by_cases e:i=p
  ·
   subst e
   rw [hl] at hl'
   injection hl' with hl'
   subst hl'
   simp only [if_true]
   rw [Maps.has_put_same hm (keyed_pt.key hl),decide_eq_true hx]
  ·
   simp only [if_neg e]
   rw [Maps.has_put_other (key_ne hl' hl e),h.has i l' hl']
set_option maxRecDepth 100000 in
theorem MapPN.upd {w:World} {b n:Nat} {f:Pt→Int} (h:MapPN w b n f) (hn:n<4294967296) (p:Pt) (hp:wfPt p) (x:Int) (hx:x≠0) :
  ∃ w',(Instr.mapUpdate 52 (.map (some b)) (.agg #[.int .i64 p.x,.int .i64 p.y]) (.int .i64 x)).run Tryz.prog w=.ok () w'∧MapPN w' b (n+1) (fun i=>if i=p then x else f i)∧w.grownBy w' (some b):=by
 obtain ⟨D,h1,hm,h2⟩:=h
 obtain ⟨l,hl⟩:=key_pt p hp
 obtain ⟨w',hr,ho,hg⟩:=h1.update keyed_pt Tryz.underlying52 (by unfold maxLen;omega) hl (val:=.int .i64 x) (d:=iiD x) (ps:=[]) rfl
 exact ⟨w',hr,⟨_,ho,hm.put _ _,h2.put hm hl x hx⟩,hg⟩
section
open Go.WideElems Go.ChangeShapes Go.WideShapes Go.MapKept Go.ChangeMaps
open Go.WideMaps (KeyLaw)
theorem entry_upd {H:Type} {P:Program} {w:World} {t k e:TypeId} {R:Value→Option (DataW H×List MemPlace)} {b:Nat} {es:Array MapEntry} {clock:Nat} (K:KeyLaw P k) (ht:P.underlying t=some (.map k e)) {z:Value} (hz:∀ u:World,(zeroValue e).run P u=.ok z u) (hb:w.heap[b]? = some (.map es clock)) (F:Fit P k R es clock)
  {key:Value} {kl:Lit} (hkey:keyOf P k key=some kl) :
  ∃ v0 st w1,(Instr.mapEntry t (.map (some b)) key).run P w=.ok (.tuple #[v0,goInt st]) w1∧(Instr.mapUpdate t (.map (some b)) key v0).run P w=.ok () w1∧(Instr.lookup t (.map (some b)) key false).run P w=.ok v0 w:=by
 rcases K.find w hkey es.toList F.keys with ⟨h1,h2⟩ | ⟨j,e0,h1,h2,h3⟩
 ·
  refine ⟨z,clock,setBlock w b (.map (es.push ⟨key,z,clock⟩) (clock+1)),?_,?_,?_⟩
  · simp [Instr.mapEntry,run_underlying ht,MapKept.run_getObj_map hb,K.check w false hkey,h1,hz,MapKept.run_setObj_map _ hb,Result.andThen,setBlock]
  · simp [Instr.mapUpdate,run_underlying ht,MapKept.run_getObj_map hb,K.check w false hkey,h1,MapKept.run_setObj_map _ hb,Result.andThen,setBlock]
  · simp [Instr.lookup,run_underlying ht,MapKept.run_getObj_map hb,K.check w _ hkey,h1,hz,Result.andThen]
 ·
  have hj:es[j]? = some e0:=by simpa using h2
  have hsame:es.modify j (fun e=>{e with key:=key})=es:=by
   apply Array.ext'
   rw [Array.toList_modify,modify_eq_set _ _ _ _ h2]
   have:({e0 with key:=key}:MapEntry)=e0:=by rw [← h3]
   rw [this]
   exact set_self _ _ _ h2
  have hsame2:es.modify j (fun e=>{e with key:=key,val:=e0.val})=es:=by
   apply Array.ext'
   rw [Array.toList_modify,modify_eq_set _ _ _ _ h2]
   have:({e0 with key:=key,val:=e0.val}:MapEntry)=e0:=by rw [← h3]
   rw [this]
   exact set_self _ _ _ h2
  refine ⟨e0.val,e0.born,setBlock w b (.map es clock),?_,?_,?_⟩
  · simp [Instr.mapEntry,run_underlying ht,MapKept.run_getObj_map hb,K.check w false hkey,h1,hj,h3,K.stays w hkey,hsame,MapKept.run_setObj_map _ hb,Result.andThen,setBlock]
  · simp [Instr.mapUpdate,run_underlying ht,MapKept.run_getObj_map hb,K.check w false hkey,h1,hj,h3,K.stays w hkey,hsame2,MapKept.run_setObj_map _ hb,Result.andThen,setBlock]
  · simp [Instr.lookup,run_underlying ht,MapKept.run_getObj_map hb,K.check w _ hkey,h1,hj,h3,Result.andThen]
theorem setBlock_twice (w:World) (b:Nat) (x y:Obj):setBlock (setBlock w b x) b y=setBlock w b y:=by
 unfold setBlock
 simp
theorem law_pt:KeyLaw Tryz.prog 42:=deep_law_laid laid_out (m:=2) (by omega) (of_decide_eq_true (by kernel_rfl)) (by kernel_rfl) (by kernel_rfl)
end
set_option maxRecDepth 100000 in
theorem MapPN.bump {w:World} {b n:Nat} {f:Pt→Int} (h:MapPN w b n f) (hn:n+1<4294967296) (p:Pt) (hp:wfPt p) (x:Int) (hx:x≠0) :
  ∃ (st:Int) (w1 w2:World),(Instr.mapEntry 52 (.map (some b)) (.agg #[.int .i64 p.x,.int .i64 p.y])).run Tryz.prog w=.ok (.tuple #[.int .i64 (f p),.int .i64 st]) w1∧w.grownBy w1 (some b) ∧
   (Instr.lookup 52 (.map (some b)) (.agg #[.int .i64 p.x,.int .i64 p.y]) false).run Tryz.prog w1=.ok (.int .i64 (f p)) w1 ∧
   (Instr.entryStore 52 (.map (some b)) (.int .i64 st) (.int .i64 x)).run Tryz.prog w1=.ok () w2∧MapPN w2 b (n+1) (fun i=>if i=p then x else f i)∧w.grownBy w2 (some b):=by
 obtain ⟨w2,hr2,hm2,hg2⟩:=h.upd (by omega) p hp x hx
 have hlk:=h.look p hp
 obtain ⟨D,h1,hm,h2⟩:=h
 obtain ⟨l,hl⟩:=key_pt p hp
 have h1':=h1
 obtain ⟨es,clock,hb,F,hsz,hD⟩:=h1'
 obtain ⟨v0,st,w1,r1,r2,r3⟩:=entry_upd law_pt Tryz.underlying52 zero_ii hb F hl
 obtain ⟨v0',st',es1,c1,r1',-,hst⟩:=Go.WideElems.entry_then_store law_pt Tryz.underlying52 zero_ii hb F hl
 rw [r1] at r1'
 have hv:v0=.int .i64 (f p):=by
  have e:(Instr.lookup 52 (.map (some b)) (.agg #[.int .i64 p.x,.int .i64 p.y]) false).run Tryz.prog w=.ok v0 w:=r3
  rw [hlk] at e
  injection e with e
  exact e.symm
 subst hv
 injection r1' with e1 e2
 have e3:st'=st:=by
  injection e1 with e1
  have:=congrArg (fun a:Array Value=>a.toList) e1
  simp only [List.cons.injEq,and_true] at this
  have h9:=this.2
  unfold goInt at h9
  injection h9 with _ h9
  omega
 subst e3
 obtain ⟨es',clock',hs1,hs2⟩:=hst w1 (.int .i64 x) (by rw [e2];exact Go.ChangeMaps.heap_setBlock_same hb _)
 have hw2:Go.ChangeMaps.setBlock w1 b (.map es' clock')=w2:=by
  have e:(Instr.mapUpdate 52 (.map (some b)) (.agg #[.int .i64 p.x,.int .i64 p.y]) (.int .i64 x)).run Tryz.prog w=.ok () (Go.ChangeMaps.setBlock w b (.map es' clock')):=hs2
  rw [hr2] at e
  injection e with _ e
  rw [e,e2,setBlock_twice]
 rw [hw2] at hs1
 obtain ⟨w1',hr1,ho1,hg1⟩:=h1.update keyed_pt Tryz.underlying52 (by unfold maxLen;omega) hl (val:=.int .i64 (f p)) (d:=iiD (f p)) (ps:=[]) rfl
 rw [r2] at hr1
 injection hr1 with _ hr1
 subst hr1
 refine ⟨st',w1,w2,r1,hg1,?_,hs1,hm2,hg2⟩
 obtain ⟨v,ps,hr,hv⟩:=ho1.lookup keyed_pt Tryz.underlying52 (zero_ii w1) (zd:=iiD 0) (zp:=[]) rfl hl
 rw [Maps.atKey_put_same hm (keyed_pt.key hl)] at hv
 have hr':(Instr.lookup 52 (.map (some b)) (.agg #[.int .i64 p.x,.int .i64 p.y]) false).run Tryz.prog w1=.ok v w1:=hr
 rw [hr',iiR_inv hv]
end Go.Proofs.YtpempeioeiaijaaGreat
