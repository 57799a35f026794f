import Derived.Test.YtpempeioeiaijaaGreatJ24
import Derived.Test.YtpempeioeiaijaaGreatJ18
import Derived.Test.YtpempeioeiaijaaGreatJ19
import Derived.Test.YtpempeioeiaijaaGreatGB
import Derived.Test.YtpempeioeiaijaaGreatJ25
import Derived.Test.YtpempeioeiaijaaGreatJ26
import Derived.Test.YtpempeioeiaijaaGreatJ20
import Derived.Test.YtpempeioeiaijaaGreatJ03
set_option linter.unusedSimpArgs false
set_option linter.unusedVariables false
namespace Go.Proofs.YtpempeioeiaijaaGreat
open Go.RowKit Go.Sort

def ltX (x y:SV×List Pt):Bool:=lexL x.2 y.2
theorem plc_at {α:Type} {lt:α→α→Bool} {x:α} {l:List α} {k:Nat} (h:∀ j (hj:j<l.length),j<k→lt l[j] x=true) (he:k=l.length∨∃ hk:k<l.length,lt l[k] x=false):plc lt x l=l.take k++x::l.drop k:=by
 induction l generalizing k with
 | nil =>
  rcases he with rfl | ⟨hk,-⟩
  · rfl
  · exact absurd hk (by simp)
 | cons a l ih =>
  cases k with
  | zero =>
   rcases he with he | ⟨hk,h1⟩
   · simp at he
   ·
    simp only [List.getElem_cons_zero] at h1
    simp [plc,h1]
  | succ k =>
   have ha:lt a x=true:=h 0 (by simp) (by omega)
   rw [plc,if_pos ha,ih (k:=k) (fun j hj hjk=>h (j+1) (by simpa using hj) (by omega)) (by
    rcases he with he | ⟨hk,h1⟩
    · left;simpa using he
    · right;exact ⟨by simpa using hk,by simpa using h1⟩)]
   simp
theorem plc_len {α:Type} (lt:α→α→Bool) (x:α) (l:List α):(plc lt x l).length=l.length+1:=(plc_perm lt x l).length_eq
theorem plc_map (x:SV×List Pt):∀ l:List (SV×List Pt),(plc ltX x l).map (·.2)=plc lexL x.2 (l.map (·.2))
 | []=>rfl
 | y::l=>by
  unfold plc
  rw [List.map_cons]
  simp only
  have e:ltX y x=lexL y.2 x.2:=rfl
  rw [e]
  split
  · rw [List.map_cons,plc_map x l]
  · rfl
theorem plcs_snoc {α:Type} (lt:α→α→Bool) (l:List α) (x:α):plcs lt (l++[x])=plc lt x (plcs lt l):=by
 unfold plcs
 rw [List.foldl_append]
 rfl
def RetLnR (w:World) (ys:List (SV×List Pt)) (e:Ending) (w':World):Prop :=
 ∃ A c,e=.returned (.slice A ys.length c)∧Below w.heap.size w w'∧Lns19 w' (.slice A ys.length c) ys

set_option maxRecDepth 100000 in
set_option maxHeartbeats 8000000 in
theorem Place19_spec (v:Value) (xs:List (SV×List Pt)) (x:SV×List Pt) (w:World) (h:Lns19 w v xs) (hx:Pts w (svV x.1) x.2) (hn:xs.length≤2000000) (hs:∀ k (hk:k<xs.length),xs[k].2.length≤1000000000) (hxl:x.2.length≤1000000000) :
  Calls Tryz.prog 52 #[v,svV x.1] w (RetLnR w (plc ltX x xs)):=by
 have HLs:=Lib.hid (fun k (hk:k<xs.length) W (hW:Below w.heap.size w W)=>Less19_spec xs[k] x W ((h.2 k hk).mono hW) (hx.mono hW) (hs k hk) hxl)
 have HP:=Lib.hid h.2
 have HX:=Lib.hid hx
 have hplen:=plc_len ltX x xs
 obtain ⟨⟨A,c,rfl,hm1,hm2,hR⟩,-⟩:=h
 have HC:=Lib.hid (show Sl w (.slice A xs.length c) xs.length (xs.flatMap llC) from ⟨A,c,rfl,hm1,hm2,hR⟩)
 unfold maxLen at hm2
 have HR:=Lib.hid hR
 obtain ⟨q,hq⟩:∃ q,plc ltX x xs=q:=⟨_,rfl⟩
 rw [hq] at hplen ⊢
 have Hq:=Lib.hid hq
 have Hlen:=Lib.hid hplen
 clear hq hR hx hs hplen
 have HRd:=Lib.hid (show ∀ k W,Below w.heap.size w W→q=xs.take k++x::xs.drop k→∀ j (hj:j<q.length),Pts W (svV q[j].1) q[j].2 from fun k W hW he j hj=>by
  have key:∀ y∈xs,Pts w (svV y.1) y.2:=fun y hy=>by
   obtain ⟨j,hj,e⟩:=List.mem_iff_getElem.1 hy
   rw [← e]
   exact HP.out j hj
  have hm:=List.getElem_mem hj
  obtain ⟨z,hz⟩:∃ z,q[j]=z:=⟨_,rfl⟩
  rw [hz] at hm ⊢
  rw [he,List.mem_append,List.mem_cons] at hm
  rcases hm with h | h | h
  · exact (key _ (List.mem_of_mem_take h)).mono hW
  · rw [h];exact HX.out.mono hW
  · exact (key _ (List.mem_of_mem_drop h)).mono hW)
 go_enter Tryz.func52,Tryz.ntmps52
 go_upto_block 0 with fail
 go_wp2_with fail
 go_loopw [5] (fun u wr=>∃ k:Nat,k≤xs.length∧u=.int .i64 k∧Below w.heap.size w wr∧∀ j (hj:j<xs.length),j<k→ltX xs[j] x=true) (fun u _=>xs.length-(intOf u).toNat)
 case atStart => exact ⟨0,Nat.zero_le _,rfl,bR w,fun _ _ h=>by omega⟩
 case round =>
  obtain ⟨k,hk,rfl,hb,hno⟩:=hrel
  obtain ⟨wo,rfl⟩:∃ wo:World,wo=wr:=⟨_,rfl⟩
  have Hb:=Lib.hid hb;have HNo:=Lib.hid hno
  clear hb hno
  have hrun1:=run_pre Tryz.underlying22 (fun w=>show (Go.sizeOf 25).run Tryz.prog w=.ok 1 w by kernel_rfl) A xs.length c k hk hm1
  have hrun2:=run_cut Tryz.underlying22 (fun w=>show (Go.sizeOf 25).run Tryz.prog w=.ok 1 w by kernel_rfl) A xs.length c k hk (k:Int) rfl
  have HTk:=Lib.hid (show Sl w (.slice A k c) (xs.take k).length ((xs.take k).flatMap llC) from Sl.pre_ HC.out k hk)
  have HDr:=Lib.hid (show Sl w (.slice (cutA A c k 1) (xs.length-k) (c-k)) (xs.drop k).length ((xs.drop k).flatMap llC) from Sl.from_ llC_len HC.out k hk)
  have HTl:=Lib.hid (show (xs.take k).length≤2000000 by rw [List.length_take];omega)
  have HDl:=Lib.hid (show (xs.drop k).length≤2000000 by rw [List.length_drop];omega)
  have HRun1:=Lib.hid hrun1;have HRun2:=Lib.hid hrun2
  clear hrun1 hrun2
  by_cases hlt:k<xs.length
  ·
   obtain ⟨b,o,rfl,hlb,c0⟩:=(HR.out.mono Hb.out).ln hlt
   have HGk:=Lib.hid (fun W (hW:Below wo.heap.size wo W)=>HLs.out k hlt W (bT Hb.out hW))
   have hbr:ltX xs[k] x=lexL xs[k].2 x.2:=rfl
   have HIns:=Lib.hid (fun (e:ltX xs[k] x=false)=>show q=xs.take k++x::xs.drop k by rw [← Hq.out];exact plc_at HNo.out (.inr ⟨hlt,e⟩))
   have HNx:=Lib.hid (fun (e:ltX xs[k] x=true)=>all_succ (p:=fun y=>ltX y x=true) HNo.out hlt e)
   rw [hbr] at HIns HNx
   generalize xs[k]=y at *
   obtain ⟨sy,ly⟩:=y
   simp only at HGk HIns HNx c0
   unfold svV at c0 HGk
   generalize lexL ly x.2=br at *
   clear hbr
   go_wp2_with fail
   refine (HGk.out _ (bR wo)).mono ?_
   rintro e w1 ⟨rfl,hb1⟩
   have HB1:=Lib.hid (bT Hb.out hb1)
   clear hb1 c0 hlb
   cases br
   case true =>
    have HN9:=Lib.hid (HNx.out rfl)
    go_wp2_with fail
    go_roundw
    case rel => exact ⟨k+1,by omega,by go_num,HB1.out,HN9.out⟩
    case measure => simp [intOf];omega
   case false =>
    have HI:=Lib.hid (HIns.out rfl)
    clear HIns HNx
    have hrun1:=HRun1.out;have hrun2:=HRun2.out
    clear HRun1 HRun2
    go_upto_region 5 with
     (at_builtin
      refine wpList_appl _ rfl (.tmp 21) (.tmp 24) _ rfl (base:=w.heap.size) elem_ln llC_len llC_one rfl (Own.lit _ _ _ _ llC [] _ 0 _ rfl rfl HB1.out.size (le_maxLen (by omega)) rfl rfl) rfl (l2:=xs.take k) (HTk.out.mono (bA HB1.out _)) (by have:=HTl.out;simp only [List.length_nil];omega) (by have:=HTl.out;simp only [List.length_nil];omega) (by have:=HB1.out.size;simp;omega) ?_
      intro v5 w5 ho5 hg5 hat5
      rw [List.nil_append] at ho5
      have HO5:=Lib.hid ho5
      have HB5:=Lib.hid (show Below w.heap.size w w5 from bG (bA HB1.out _) hg5 (fun g hg=>by have h:=Option.some.inj hg;have:=HB1.out.size;simp at h;omega))
      have hz5:w.heap.size≤w5.heap.size:=HB5.out.size
      clear ho5 hg5 hat5)
    unfold svV
    refine rg_start (SinceB (w.heap.size) w5) (.take 0 1 (.take 1 3 (.run 3 4 3 (.call 2 119 (.call 3 127 (.call 7 255 (.take 8 511 (.done)))))))) (by kernel_rfl) (Below.drew (Below.refl _ _)) (by kernel_rfl) (by kernel_rfl) (Nat.le_of_ble_eq_true (by kernel_rfl)) ?_
    intro opsR QR Hops HQrg hS
    iterate 5
     apply rg_pB;exact Hops;exact rfl;exact hS;exact rfl
     · intro _ hqc;go_simp;try rfl
     try simp only [pu]
    refine rg_call (i:=2) (get_of Hops rfl) (fun K hK=>?_)
    have HSrg:=Lib.hid hS;clear hS
    refine rg_run (wanted_plain rfl) ?_
    go_simp
    refine hK.out _ _ (bAB (by omega) HSrg.out _) (fun hS=>?_)
    clear hK K HSrg
    try simp only [pu]
    refine rg_call (i:=3) (get_of Hops rfl) (fun K hK=>?_)
    have HSrg:=Lib.hid hS;clear hS
    refine rg_run (wanted_plain rfl) ?_
    refine wp_appl (.tmp 26) (.tmp 28) _ rfl (base:=w.heap.size) elem_ln llC_len llC_one rfl (Own.alloc (HO5.out.keep (bD (bR w5))) _) rfl (l2:=[x]) (Sl.lit (n:=1) (Blk.made rfl _ _) rfl (le_maxLen (by omega))) (by have:=HTl.out;simp only [List.length_cons,List.length_nil];omega) (by have:=HTl.out;simp only [List.length_cons,List.length_nil];omega) (by simp;omega) ?_
    intro v6 w6 ho6 hg6 hat6
    have hB6:Below w.heap.size w5 w6:=Below.grown (Below.alloc (Below.drew (Below.refl _ _)) (by simp;omega) _) hg6 (by simp;omega) (fun g hg=>(HO5.out.lt g hg).1)
    have hS:SinceB (w.heap.size) w5 w6:=hB6
    have HB6:=Lib.hid hB6
    have HO6:=Lib.hid ho6
    have hz6:w.heap.size≤w6.heap.size:=Nat.le_trans hz5 hB6.size
    clear ho6 hg6 hat6 hB6
    clear HSrg
    refine hK.out _ _ hS (fun _=>?_)
    clear hK K
    try simp only [pu]
    refine rg_call (i:=7) (get_of Hops rfl) (fun K hK=>?_)
    have HSrg:=Lib.hid hS;clear hS
    refine rg_run (wanted_plain rfl) ?_
    refine wp_appl (.tmp 29) (.tmp 32) _ rfl (base:=w.heap.size) elem_ln llC_len llC_one rfl HO6.out rfl (l2:=xs.drop k) (HDr.out.mono (HB5.out.trans HB6.out)) (by have:=HTl.out;have:=HDl.out;simp only [List.length_append,List.length_cons,List.length_nil];omega) (by have:=HTl.out;have:=HDl.out;simp only [List.length_append,List.length_cons,List.length_nil];omega) hz6 ?_
    intro v7 w7 ho7 hg7 hat7
    rw [List.append_assoc,List.singleton_append,← HI.out] at ho7
    have hS:SinceB (w.heap.size) w5 w7:=Below.grown HB6.out hg7 hz6 (fun g hg=>(HO6.out.lt g hg).1)
    obtain ⟨A7,c7,hv7,-,-⟩:=Own.shape_ ho7
    subst hv7
    have HO7:=Lib.hid ho7
    clear ho7 hg7 hat7
    clear HSrg
    refine hK.out _ _ hS (fun _=>?_)
    clear hK K
    try simp only [pu]
    apply rg_pB;exact Hops;exact rfl;exact hS;exact rfl
    · intro _ hqc;go_simp;try rfl
    try simp only [pu]
    refine rg_done ?_
    refine HQrg.down _ _ ?_
    have hB:Below (w.heap.size) w5 _:=hS
    clear hS HQrg Hops
    have HB9:=Lib.hid (HB5.out.trans hB)
    go_wp2_with fail
    go_ret
    exact ⟨A7,c7,rfl,HB9.out,Own.sl HO7.out,HRd.out k _ HB9.out HI.out⟩
  ·
   have hkl:k=xs.length:=by omega
   have HI:=Lib.hid (show q=xs.take k++x::xs.drop k by rw [← Hq.out];exact plc_at HNo.out (.inl hkl))
   clear hkl
   have hrun1:=HRun1.out;have hrun2:=HRun2.out
   clear HRun1 HRun2
   go_upto_region 5 with
    (at_builtin
     refine wpList_appl _ rfl (.tmp 21) (.tmp 24) _ rfl (base:=w.heap.size) elem_ln llC_len llC_one rfl (Own.lit _ _ _ _ llC [] _ 0 _ rfl rfl Hb.out.size (le_maxLen (by omega)) rfl rfl) rfl (l2:=xs.take k) (HTk.out.mono (bA Hb.out _)) (by have:=HTl.out;simp only [List.length_nil];omega) (by have:=HTl.out;simp only [List.length_nil];omega) (by have:=Hb.out.size;simp;omega) ?_
     intro v5 w5 ho5 hg5 hat5
     rw [List.nil_append] at ho5
     have HO5:=Lib.hid ho5
     have HB5:=Lib.hid (show Below w.heap.size w w5 from bG (bA Hb.out _) hg5 (fun g hg=>by have h:=Option.some.inj hg;have:=Hb.out.size;simp at h;omega))
     have hz5:w.heap.size≤w5.heap.size:=HB5.out.size
     clear ho5 hg5 hat5)
   unfold svV
   refine rg_start (SinceB (w.heap.size) w5) (.take 0 1 (.take 1 3 (.run 3 4 3 (.call 2 119 (.call 3 127 (.call 7 255 (.take 8 511 (.done)))))))) (by kernel_rfl) (Below.drew (Below.refl _ _)) (by kernel_rfl) (by kernel_rfl) (Nat.le_of_ble_eq_true (by kernel_rfl)) ?_
   intro opsR QR Hops HQrg hS
   iterate 5
    apply rg_pB;exact Hops;exact rfl;exact hS;exact rfl
    · intro _ hqc;go_simp;try rfl
    try simp only [pu]
   refine rg_call (i:=2) (get_of Hops rfl) (fun K hK=>?_)
   have HSrg:=Lib.hid hS;clear hS
   refine rg_run (wanted_plain rfl) ?_
   go_simp
   refine hK.out _ _ (bAB (by omega) HSrg.out _) (fun hS=>?_)
   clear hK K HSrg
   try simp only [pu]
   refine rg_call (i:=3) (get_of Hops rfl) (fun K hK=>?_)
   have HSrg:=Lib.hid hS;clear hS
   refine rg_run (wanted_plain rfl) ?_
   refine wp_appl (.tmp 26) (.tmp 28) _ rfl (base:=w.heap.size) elem_ln llC_len llC_one rfl (Own.alloc (HO5.out.keep (bD (bR w5))) _) rfl (l2:=[x]) (Sl.lit (n:=1) (Blk.made rfl _ _) rfl (le_maxLen (by omega))) (by have:=HTl.out;simp only [List.length_cons,List.length_nil];omega) (by have:=HTl.out;simp only [List.length_cons,List.length_nil];omega) (by simp;omega) ?_
   intro v6 w6 ho6 hg6 hat6
   have hB6:Below w.heap.size w5 w6:=Below.grown (Below.alloc (Below.drew (Below.refl _ _)) (by simp;omega) _) hg6 (by simp;omega) (fun g hg=>(HO5.out.lt g hg).1)
   have hS:SinceB (w.heap.size) w5 w6:=hB6
   have HB6:=Lib.hid hB6
   have HO6:=Lib.hid ho6
   have hz6:w.heap.size≤w6.heap.size:=Nat.le_trans hz5 hB6.size
   clear ho6 hg6 hat6 hB6
   clear HSrg
   refine hK.out _ _ hS (fun _=>?_)
   clear hK K
   try simp only [pu]
   refine rg_call (i:=7) (get_of Hops rfl) (fun K hK=>?_)
   have HSrg:=Lib.hid hS;clear hS
   refine rg_run (wanted_plain rfl) ?_
   refine wp_appl (.tmp 29) (.tmp 32) _ rfl (base:=w.heap.size) elem_ln llC_len llC_one rfl HO6.out rfl (l2:=xs.drop k) (HDr.out.mono (HB5.out.trans HB6.out)) (by have:=HTl.out;have:=HDl.out;simp only [List.length_append,List.length_cons,List.length_nil];omega) (by have:=HTl.out;have:=HDl.out;simp only [List.length_append,List.length_cons,List.length_nil];omega) hz6 ?_
   intro v7 w7 ho7 hg7 hat7
   rw [List.append_assoc,List.singleton_append,← HI.out] at ho7
   have hS:SinceB (w.heap.size) w5 w7:=Below.grown HB6.out hg7 hz6 (fun g hg=>(HO6.out.lt g hg).1)
   obtain ⟨A7,c7,hv7,-,-⟩:=Own.shape_ ho7
   subst hv7
   have HO7:=Lib.hid ho7
   clear ho7 hg7 hat7
   clear HSrg
   refine hK.out _ _ hS (fun _=>?_)
   clear hK K
   try simp only [pu]
   apply rg_pB;exact Hops;exact rfl;exact hS;exact rfl
   · intro _ hqc;go_simp;try rfl
   try simp only [pu]
   refine rg_done ?_
   refine HQrg.down _ _ ?_
   have hB:Below (w.heap.size) w5 _:=hS
   clear hS HQrg Hops
   have HB9:=Lib.hid (HB5.out.trans hB)
   go_wp2_with fail
   go_ret
   exact ⟨A7,c7,rfl,HB9.out,Own.sl HO7.out,HRd.out k _ HB9.out HI.out⟩
end Go.Proofs.YtpempeioeiaijaaGreat
namespace Go.Proofs.YtpempeioeiaijaaGreat
open Go.RowKit Go.Sort

def RetPr19 (w:World) (P:List (List Pt)) (e:Ending) (w':World):Prop :=
 ∃ A c ys,e=.returned (.slice A ys.length c)∧Below w.heap.size w w'∧Lns19 w' (.slice A ys.length c) ys∧ys.map (·.2)=P
theorem plc_all {x:SV×List Pt} {l:List (SV×List Pt)} {m:Nat} (hx:x.2.length≤m) (h:∀ y∈l,y.2.length≤m):∀ y∈plc ltX x l,y.2.length≤m:=fun y hy=>by
 rcases (plc_mem ltX x l).1 hy with rfl | hy
 · exact hx
 · exact h y hy

end Go.Proofs.YtpempeioeiaijaaGreat
namespace Go.Proofs.YtpempeioeiaijaaGreat
open Go.RowKit Go.Sort

set_option maxRecDepth 100000 in
set_option maxHeartbeats 4000000 in
theorem RSorted19_spec (v:Value) (xs:List (SV×List Pt)) (w:World) (h:Lns19 w v xs) (hn:xs.length≤1000000) (hs:∀ k (hk:k<xs.length),xs[k].2.length≤1000000) :
  Calls Tryz.prog 24 #[v] w (RetPr19 w (srtL (xs.map (·.2)))):=by
 have HPc:=Lib.hid (@Place19_spec)
 have hLk:∀ k (hk:k<xs.length),(xs.map (·.2)).take (k+1)=(xs.map (·.2)).take k++[xs[k].2]:=fun k hk=>by
  rw [List.take_succ_eq_append_getElem (by simpa using hk)];simp
 have hLn:(xs.map (·.2)).length=xs.length:=by simp
 generalize xs.map (·.2)=L at *
 obtain ⟨P,hP2⟩:∃ P,srtL L=P:=⟨_,rfl⟩
 rw [hP2]
 have HFin:=Lib.hid (show plcs lexL L=P from hP2)
 obtain ⟨⟨A,c,rfl,hc1,hc2,hR⟩,hP⟩:=h
 unfold maxLen at hc2
 have HR:=Lib.hid hR;have HP:=Lib.hid hP;have HLk:=Lib.hid hLk;have HLn:=Lib.hid hLn;have HS:=Lib.hid hs
 clear hR hP hLk hLn hP2 hs
 go_enter Tryz.func24,Tryz.ntmps24
 go_upto_block 0 with fail
 go_wp2_with fail
 go_loopw [3,4] (fun z u wr=>∃ (k:Nat) (ys:List (SV×List Pt)),k≤xs.length∧u=.int .i64 k∧Lns19 wr z ys∧Below w.heap.size w wr∧ys.map (·.2)=plcs lexL (L.take k)∧ys.length=k∧∀ y∈ys,y.2.length≤1000000) (fun _ u _=>xs.length-(intOf u).toNat)
 case atStart => exact ⟨0,[],Nat.zero_le _,rfl,⟨Sl.of_own (Own.nil w w.heap.size 25 1 llC),fun k hk=>by simp at hk⟩,bR w,rfl,rfl,fun y h=>(by cases h)⟩
 case round =>
  obtain ⟨k,ys,hk,rfl,ho,hb,hys,hyl,hym⟩:=hrel
  obtain ⟨w2,rfl⟩:∃ w2:World,w2=wr:=⟨_,rfl⟩
  have HO:=Lib.hid ho;have Hb:=Lib.hid hb;have HYs:=Lib.hid hys;have HYm:=Lib.hid hym;have Hyl:=Lib.hid hyl
  obtain ⟨⟨A2,c2,rfl,-⟩,-⟩:=ho
  clear hb hys hym hyl
  by_cases hlt:k<xs.length
  ·
   obtain ⟨b,o,rfl,hlb,c0⟩:=(HR.out.mono Hb.out).ln hlt
   have hT:=HLk.out k hlt
   have hPx:=HP.out k hlt
   have hxl:=HS.out k hlt
   have HCl:=Lib.hid (show Calls Tryz.prog 52 #[.slice A2 ys.length c2,svV xs[k].1] w2 (RetLnR w2 (plc ltX xs[k] ys)) from HPc.out _ ys xs[k] w2 HO.out (hPx.mono Hb.out) (by rw [Hyl.out];omega) (fun j hj=>by have:=HYm.out _ (List.getElem_mem hj);omega) (by omega))
   have HPa:=Lib.hid (plc_all (x:=xs[k]) (m:=1000000) hxl HYm.out)
   have HPm:=Lib.hid (show (plc ltX xs[k] ys).map (·.2)=plcs lexL (L.take (k+1)) by rw [plc_map,HYs.out,hT,plcs_snoc])
   have HPl:=Lib.hid (show (plc ltX xs[k] ys).length=k+1 by rw [plc_len,Hyl.out])
   generalize plc ltX xs[k] ys=q at *
   clear hT hPx hxl
   unfold svV at c0 HCl
   go_wp2_with fail
   refine HCl.out.mono ?_
   rintro e w6 ⟨A6,c6,rfl,hb6,hl6⟩
   have HB6:=Lib.hid (bT Hb.out hb6)
   have HL6:=Lib.hid hl6
   clear hb6 hl6 c0
   go_wp2_with fail
   go_roundw
   case rel => exact ⟨k+1,q,by omega,by go_num,HL6.out,HB6.out,HPm.out,HPl.out,HPa.out⟩
   case measure => simp [intOf];omega
  ·
   have hkn:k=xs.length:=by omega
   have hB9:=HYs.out
   rw [hkn,List.take_of_length_le (by rw [HLn.out];exact Nat.le_refl _)] at hB9
   have HYs9:=Lib.hid (show ys.map (·.2)=P from hB9.trans HFin.out)
   clear hB9 HYs
   go_wp2_with fail
   go_ret
   exact ⟨A2,c2,ys,rfl,Hb.out,HO.out,HYs9.out⟩
end Go.Proofs.YtpempeioeiaijaaGreat
namespace Go.Proofs.YtpempeioeiaijaaGreat
open Go.RowKit Go.Sort

structure LnsO (w:World) (B:Nat) (v:Value) (ys:List (SV×List Pt)):Prop where
 own:Own w B 25 1 llC v ys
 rd:∀ y∈ys,Own w B 42 2 ptC (svV y.1) y.2
theorem LnsO.keep {w w':World} {B:Nat} {v:Value} {ys:List (SV×List Pt)} (h:LnsO w B v ys) (hb:Below w.heap.size w w'):LnsO w' B v ys:=⟨h.own.keep hb,fun y hy=>(h.rd y hy).keep hb⟩
theorem LnsO.lns {w:World} {B:Nat} {v:Value} {ys:List (SV×List Pt)} (h:LnsO w B v ys):Lns19 w v ys:=⟨Sl.of_own h.own,fun k hk=>Sl.of_own (h.rd _ (List.getElem_mem hk))⟩
def RetLns (w:World) (L:List (List Pt)) (e:Ending) (w':World):Prop :=
 ∃ A c ys,e=.returned (.slice A ys.length c)∧Below w.heap.size w w'∧LnsO w' w.heap.size (.slice A ys.length c) ys∧ys.map (·.2)=L
theorem filterMap_take {α β:Type} (f:α→Option β) {l:List α} {k:Nat} (hk:k<l.length):(l.take (k+1)).filterMap f=(l.take k).filterMap f++(f l[k]).toList:=by
 rw [List.take_succ_eq_append_getElem hk,List.filterMap_append]
 congr 1

set_option maxRecDepth 100000 in
set_option maxHeartbeats 8000000 in
theorem Lines19_spec (v:Value) (p:Pl) (w:World) (h:PlV w v p) (hsh:Short p) (hn:p.arcs.length≤1000000):Calls Tryz.prog 16 #[v] w (RetLns w (linesS p)):=by
 have HPt:=Lib.hid (fun id W (hW:Below w.heap.size w W)=>Path_spec v p id W (h.mono hW) hsh)
 obtain ⟨_,_,_,al,rfl,hpa,⟨An,cn,rfl,-⟩,⟨⟨Aa,ca,rfl,hm1,hm2,hRa⟩,hVi⟩,⟨Af,cf,rfl,-⟩⟩:=h
 unfold maxLen at hm2
 have hal:al.length≤1000000:=by rw [hpa,List.length_map] at hn;exact hn
 have hlk:∀ k (hk:k<al.length),(p.arcs.take (k+1)).filterMap (fun a=>pathOf p a.id)=(p.arcs.take k).filterMap (fun a=>pathOf p a.id)++(pathOf p al[k].1.id).toList:=fun k hk=>by
  have h1:k<p.arcs.length:=by rw [hpa,List.length_map];exact hk
  rw [filterMap_take _ h1]
  have h2:p.arcs[k]=al[k].1:=by simp only [hpa,List.getElem_map]
  rw [h2]
 have hend:(p.arcs.take al.length).filterMap (fun a=>pathOf p a.id)=linesS p:=by
  unfold linesS
  rw [List.take_of_length_le (by rw [hpa,List.length_map];exact Nat.le_refl _)]
 have HLk:=Lib.hid hlk;have HEnd:=Lib.hid hend;have HRa:=Lib.hid hRa;have HVi:=Lib.hid hVi
 obtain ⟨G,hG⟩:∃ G:Nat→List (List Pt),G=fun k=>(p.arcs.take k).filterMap (fun a=>pathOf p a.id):=⟨_,rfl⟩
 have HGk:=Lib.hid (show ∀ k (hk:k<al.length),G (k+1)=G k++(pathOf p al[k].1.id).toList from fun k hk=>by rw [hG];exact hlk k hk)
 have HG0:=Lib.hid (show G 0=[] by rw [hG];rfl)
 have HGe:=Lib.hid (show G al.length=linesS p by rw [hG];exact hend)
 generalize p.nodes.length=nn at *
 generalize p.faces.length=nf at *
 generalize linesS p=LL at *
 clear hpa hRa hVi hsh hlk hend hG HLk HEnd hn
 go_enter Tryz.func16,Tryz.ntmps16
 go_upto_region 1 with fail
 obtain ⟨W1,hW⟩:∃ W1:World,W1=w.alloc (.cells #[.slice An nn cn,.slice Aa al.length ca,.slice Af nf cf] 34):=⟨_,rfl⟩
 have X1:Blk W1 w.heap.size 34 #[.slice An nn cn,.slice Aa al.length ca,.slice Af nf cf]:=by rw [hW];exact Blk.made rfl _ _
 have HB1:=Lib.hid (show Below w.heap.size w W1 by rw [hW];exact bA (bR w) _)
 have HX1:=Lib.hid X1
 rw [← hW]
 clear hW
 obtain ⟨X1l,X1a,X1b,X1c,-,-,-⟩:=X1.facts3
 go_upto_block 0 with fail
 clear X1 X1l X1a X1b X1c
 go_wp2_with fail
 go_loopw [2,10] (fun z u wr=>∃ (k:Nat) (ys:List (SV×List Pt)),k≤al.length∧u=.int .i64 k∧LnsO wr w.heap.size z ys∧Blk wr w.heap.size 34 #[.slice An nn cn,.slice Aa al.length ca,.slice Af nf cf]∧Below w.heap.size w wr∧ys.map (·.2)=G k∧ys.length≤k) (fun _ u _=>al.length-(intOf u).toNat)
 case atStart => exact ⟨0,[],Nat.zero_le _,rfl,⟨Own.nil _ _ _ _ _,fun y hy=>(by cases hy)⟩,HX1.out,HB1.out,HG0.out.symm,Nat.le_refl _⟩
 case round =>
  obtain ⟨k,ys,hk,rfl,ho,hx,hb,hys,hyl⟩:=hrel
  obtain ⟨wo,rfl⟩:∃ wo:World,wo=wr:=⟨_,rfl⟩
  have HO:=Lib.hid ho;have HX:=Lib.hid hx;have Hb:=Lib.hid hb;have HYs:=Lib.hid hys
  clear ho hx hb hys HX1 HB1
  by_cases hlt:k<al.length
  ·
   obtain ⟨b,o,rfl,hlb,c0,c1,c2,c3,c4,c5⟩:=(Row.mono HRa.out Hb.out).ar hlt
   obtain ⟨Av,cv,hvv,-⟩:=HVi.out k hlt
   rw [hvv] at c3
   have hGk:=HGk.out k hlt
   have hpt:=HPt.out al[k].1.id
   clear hvv
   generalize al[k].1=a at *
   obtain ⟨aid,afr,adst,avia,aleft,aright⟩:=a
   simp only at c0 c1 c2 c3 c4 c5 hpt hGk
   generalize avia.length=vn at *
   generalize pathOf p aid=r at *
   have HPk:=Lib.hid hpt;have HG1:=Lib.hid hGk
   clear hpt hGk
   go_upto_region 4 with fail
   obtain ⟨W5,hW⟩:∃ W:World,W=wo.alloc (.cells #[.int .i64 aid,.int .i64 afr,.int .i64 adst,.slice Av vn cv,.int .i64 aleft,.int .i64 aright] 50):=⟨_,rfl⟩
   have HA:=Lib.hid (show Below wo.heap.size wo W5 by rw [hW];exact bA (bR wo) _)
   have X5:Blk W5 wo.heap.size 50 #[.int .i64 aid,.int .i64 afr,.int .i64 adst,.slice Av vn cv,.int .i64 aleft,.int .i64 aright]:=by rw [hW];exact Blk.made rfl _ _
   rw [← hW]
   clear hW c0 c1 c2 c3 c4 c5 hlb
   have X1:=HX.out.keep HA.out
   obtain ⟨X5l,X5a,X5b,X5c,X5d,X5e,X5f,-,-,-,-,-,-⟩:=X5.facts6
   try clear X1l
   try clear X1a
   try clear X1b
   try clear X1c
   obtain ⟨X1l,X1a,X1b,X1c,-,-,-⟩:=X1.facts3
   go_wp2_with fail
   refine (HPk.out _ (bT Hb.out HA.out)).mono ?_
   rintro e w6 ⟨A6,c6,rfl,hb6,ho6⟩
   have HB6:=Lib.hid (bT HA.out hb6)
   have HB6':=Lib.hid (bT Hb.out HB6.out)
   have HO6:=Lib.hid (HO.out.keep HB6.out)
   have HX6:=Lib.hid (HX.out.keep HB6.out)
   have HP6:=Lib.hid (ho6.mono_base (b':=w.heap.size) (bT Hb.out HA.out).size)
   have hz6:=HB6'.out.size
   clear hb6 ho6 X1 X1l X1a X1b X1c X5 X5l X5a X5b X5c X5d X5e X5f HPk
   cases r with
   | none =>
    simp only [Option.isSome_none,Bool.false_eq_true,if_false,Option.getD_none]
    go_wp2_with fail
    go_roundw
    case rel => exact ⟨k+1,ys,by omega,by go_num,HO6.out,HX6.out,HB6'.out,by rw [HG1.out,HYs.out];simp,by omega⟩
    case measure => simp [intOf];omega
   | some q =>
    simp only [Option.isSome_some,if_true,Option.getD_some] at HP6 ⊢
    obtain ⟨N,hN⟩:∃ N,q.length=N:=⟨_,rfl⟩
    rw [hN] at HP6 ⊢
    have HN:=Lib.hid hN
    clear hN
    go_wp2_with
     (at_builtin
      refine wpList_appl _ rfl (.tmp 23) (.tmp 25) _ rfl (base:=w.heap.size) elem_ln llC_len llC_one rfl (HO6.out.own.alloc _) rfl (l2:=[((⟨A6,N,c6⟩:SV),q)]) (Sl.lit (n:=1) (Blk.made (by simp) _ _) rfl (le_maxLen (by omega))) (by simp only [List.length_cons,List.length_nil];omega) (by simp only [List.length_cons,List.length_nil];omega) (by simp;omega) ?_
      intro v1 w1 ho1 hg1 hat1
      have HO1:=Lib.hid (show LnsO w1 w.heap.size v1 (ys++[((⟨A6,N,c6⟩:SV),q)]) from ⟨ho1,fun y hy=>by
       have key:∀ y:SV×List Pt,Own w6 w.heap.size 42 2 ptC (svV y.1) y.2→Own w1 w.heap.size 42 2 ptC (svV y.1) y.2:=fun y h =>
        Own.grown (h.alloc _) hg1 (Own.apart h HO6.out.own (by decide))
       rcases List.mem_append.1 hy with h | h
       · exact key y (HO6.out.rd y h)
       · rw [List.mem_singleton.1 h];exact key _ HP6.out⟩)
      have HX1:=Lib.hid ((HX6.out.alloc _).grown hg1 (fun e=>(Own.ne_blk HO6.out.own HX6.out (by decide)) e.symm))
      have HB1:=Lib.hid (show Below w.heap.size w w1 from bG (w:=w) (bA HB6'.out _) hg1 (fun q hq=>(HO6.out.own.lt q hq).1))
      clear ho1 hg1 hat1)
    go_roundw
    case rel => exact ⟨k+1,_,by omega,by go_num,HO1.out,HX1.out,HB1.out,by rw [List.map_append,HYs.out,HG1.out];rfl,by simp only [List.length_append,List.length_cons,List.length_nil];omega⟩
    case measure => simp [intOf];omega
  ·
   have hkn:k=al.length:=by omega
   subst hkn
   have hX:=HX.out
   go_wp2_with fail
   obtain ⟨A9,c9,hv9,-⟩:=Own.shape HO.out.own
   subst hv9
   go_ret
   exact ⟨A9,c9,ys,rfl,Hb.out,HO.out,by rw [HYs.out,HGe.out]⟩
end Go.Proofs.YtpempeioeiaijaaGreat
