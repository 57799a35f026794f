import Derived.Test.YtpempeioeiaijaaGreatGD
set_option linter.unusedSimpArgs false
set_option linter.unusedVariables false
namespace Go.Proofs.YtpempeioeiaijaaGreat
open Go.RowKit

def nodeAt (p:Pl) (id:Int):Pt:=((findNd p.nodes id).getD nd0).pt
def pathS (p:Pl) (a:Ar):List Pt:=nodeAt p a.fr::(a.via++[nodeAt p a.dst])
def hasEnds (p:Pl) (a:Ar):Bool:=(findNd p.nodes a.fr).isSome && (findNd p.nodes a.dst).isSome
def RetPath (w:World) (l:List Pt) (b:Bool) (e:Ending) (w':World):Prop :=
 ∃ v,e=.returned (.tuple #[v,.bool b])∧Below w.heap.size w w'∧Own w' w.heap.size 42 2 ptC v l

set_option maxRecDepth 100000 in
set_option maxHeartbeats 2000000 in
theorem line_spec (v va:Value) (p:Pl) (a:Ar) (w:World) (h:PlV w v p) (ha:Pts w va a.via) (hs:a.via.length≤1048576) :
  Calls Tryz.prog 64 #[v,arV a va] w (RetPath w (pathS p a) (hasEnds p a)):=by
 have HP:=Lib.hid h
 have HA:=Lib.hid ha
 obtain ⟨vn,vr,vf,al,rfl,-⟩:=h
 obtain ⟨A,c,rfl,-⟩:=ha
 have TN:∀ id W,Below w.heap.size w W→Calls Tryz.prog 116 #[.agg #[vn,vr,vf],.int .i64 id] W _:=fun id W hW=>RNode_spec _ p id W (HP.out.mono hW)
 simp only [ndRes,ndV] at TN
 have HN:=Lib.hid TN;clear TN
 unfold arV
 go_enter Tryz.func64,Tryz.ntmps64
 go_wp2_with fail
 refine (HN.out a.fr _ (bA (bA (bR w) _) _)).mono ?_
 rintro e w1 ⟨rfl,hb1⟩
 have Bw:Below w.heap.size w w1:=by
  repeat (first | with_reducible exact bR _ | with_reducible assumption | with_reducible refine bA ?_ _ | with_reducible refine bD ?_ | with_reducible refine bN ?_ _ | ((with_reducible refine bS ?_ ?_ _);rotate_left;(simp;try omega)) | ((with_reducible refine bT ?_ ?_);rotate_left;with_reducible assumption) | with_reducible refine bT ?_ (by assumption))
 have X2:Blk _ (w.heap.size) 34 #[vn,vr,vf]:=Blk.keep (by repeat (first | exact Blk.made (by simp) _ _ | refine Blk.alloc ?_ _)) hb1
 have X3:Blk _ (w.heap.size+1) 50 #[.int .i64 a.id,.int .i64 a.fr,.int .i64 a.dst,.slice A a.via.length c,.int .i64 a.left,.int .i64 a.right]:=Blk.keep (by repeat (first | exact Blk.made (by simp) _ _ | refine Blk.alloc ?_ _)) hb1
 clear hb1
 generalize hn1:(findNd p.nodes a.fr).getD nd0=n1 at *
 generalize hs1:(findNd p.nodes a.fr).isSome=s1 at *
 have Hn1:=Lib.hid hn1;have Hs1:=Lib.hid hs1;clear hn1 hs1
 obtain ⟨X2l,X2a,X2b,X2c,-,-,-⟩:=X2.facts3
 obtain ⟨X3l,X3a,X3b,X3c,X3d,X3e,X3f,-,-,-,-,-,-⟩:=X3.facts6
 go_wp2_with fail
 refine (HN.out a.dst _ (bA Bw _)).mono ?_
 rintro e w2 ⟨rfl,hb2⟩
 have X6:Blk w2 w1.heap.size 47 #[.int .i64 n1.id,.int .i64 n1.pt.x,.int .i64 n1.pt.y]:=(Blk.made rfl _ _).keep hb2
 replace X3:=(X3.alloc _).keep hb2
 replace Bw:Below w.heap.size w w2:=bT (bA Bw _) hb2
 clear hb2 X2 X2l X2a X2b X2c
 generalize hn2:(findNd p.nodes a.dst).getD nd0=n2 at *
 generalize hs2:(findNd p.nodes a.dst).isSome=s2 at *
 have Hn2:=Lib.hid hn2;have Hs2:=Lib.hid hs2;clear hn2 hs2
 try clear X3l
 try clear X3a
 try clear X3b
 try clear X3c
 try clear X3d
 try clear X3e
 try clear X3f
 obtain ⟨X3l,X3a,X3b,X3c,X3d,X3e,X3f,-,-,-,-,-,-⟩:=X3.facts6
 obtain ⟨X6l,X6a,X6b,X6c,-,-,-⟩:=X6.facts3
 go_upto_region 3 with fail
 obtain ⟨W3,hW3⟩:∃ W3:World,W3=w2.alloc (.cells #[.int .i64 n2.id,.int .i64 n2.pt.x,.int .i64 n2.pt.y] 47):=⟨_,rfl⟩
 have X8:Blk W3 w2.heap.size 47 #[.int .i64 n2.id,.int .i64 n2.pt.x,.int .i64 n2.pt.y]:=by rw [hW3];exact Blk.made rfl _ _
 have hb3:Below w2.heap.size w2 W3:=by rw [hW3];exact bA (bR w2) _
 rw [← hW3]
 clear hW3
 replace X3:=X3.keep hb3
 replace X6:=X6.keep hb3
 replace Bw:Below w.heap.size w W3:=bT Bw hb3
 clear hb3
 try clear X3l
 try clear X3a
 try clear X3b
 try clear X3c
 try clear X3d
 try clear X3e
 try clear X3f
 obtain ⟨X3l,X3a,X3b,X3c,X3d,X3e,X3f,-,-,-,-,-,-⟩:=X3.facts6
 try clear X6l
 try clear X6a
 try clear X6b
 try clear X6c
 obtain ⟨X6l,X6a,X6b,X6c,-,-,-⟩:=X6.facts3
 obtain ⟨X8l,X8a,X8b,X8c,-,-,-⟩:=X8.facts3
 go_cut [4,5] (fun s t wx=>Own wx w.heap.size 42 2 ptC s (n1.pt::(a.via++[n2.pt]))∧t=.bool (s1 && s2)∧Below w.heap.size w wx)
 case first =>
  cases s1
  ·
   refine rg_start (Since W3) (.take 0 1 (.take 1 3 (.take 3 11 (.take 4 27 (.take 6 91 (.take 7 219 (.take 10 1243 (.two 2 1247 (.two 5 1279 (.call 8 1535 (.call 9 2047 (.run 5 11 2047 (.done)))) 8 1503 (.call 5 1535 (.call 9 2047 (.run 5 11 2047 (.done))))) 8 1499 (.call 2 1503 (.call 5 1535 (.call 9 2047 (.run 5 11 2047 (.done))))))))))))) (by kernel_rfl) (bD (bR _)) (by kernel_rfl) (by kernel_rfl) (Nat.le_of_ble_eq_true (by kernel_rfl)) ?_
   intro opsR QR Hops HQrg hS
   iterate 7
    apply rg_p;exact Hops;exact rfl;exact hS;exact rfl
    · intro _ hqc;go_simp;try rfl
    try simp only [pu]
   refine rg_two (i:=2) (j:=8) (get_of Hops rfl) (get_of Hops rfl) (fun K hK=>?_) (fun K hK=>?_)
   ·
    have HSrg:=Lib.hid hS;clear hS
    refine rg_run (wanted_plain rfl) ?_
    go_simp
    refine hK.out _ _ (bA HSrg.out _) (fun hS=>?_)
    clear hK K HSrg
    try simp only [pu]
    refine rg_two (i:=5) (j:=8) (get_of Hops rfl) (get_of Hops rfl) (fun K hK=>?_) (fun K hK=>?_)
    ·
     have HSrg:=Lib.hid hS;clear hS
     refine rg_run (wanted_plain rfl) ?_
     refine wp_appl (.tmp 26) (.tmp 28) _ rfl (base:=W3.heap.size) (l:=[n1.pt]) elem_pt ptC_len ptC_one rfl ?_ rfl (HA.out.mono (bT Bw HSrg.out)) (by simp only [List.length_cons,List.length_nil];omega) (by simp only [List.length_cons,List.length_nil];omega) (Below.size HSrg.out) ?_
     · first | exact Own.lit _ _ _ _ ptC [n1.pt] _ 1 _ (by simp) rfl (by simp) (le_maxLen (by omega)) rfl rfl | exact (Own.lit _ _ _ _ ptC [n1.pt] _ 1 _ (by simp) rfl (by simp) (le_maxLen (by omega)) rfl rfl).alloc _
     intro v5 wr5 ho5 hg5 hat5
     have hS:Since W3 wr5:=bG (w:=W3) HSrg.out hg5 (fun g hk=>by have:=Option.some.inj hk;simp at this;omega)
     clear HSrg
     refine hK.out _ _ hS (fun _=>?_)
     clear hK K
     try simp only [pu]
     refine rg_call (i:=8) (get_of Hops rfl) (fun K hK=>?_)
     have HSrg:=Lib.hid hS;clear hS
     refine rg_run (wanted_plain rfl) ?_
     go_simp
     refine hK.out _ _ (bA HSrg.out _) (fun hS=>?_)
     clear hK K HSrg
     try simp only [pu]
     refine rg_call (i:=9) (get_of Hops rfl) (fun K hK=>?_)
     have HSrg:=Lib.hid hS;clear hS
     refine rg_run (wanted_plain rfl) ?_
     refine wp_appl (.tmp 29) (.tmp 32) _ rfl (base:=W3.heap.size) (l2:=[n2.pt]) elem_pt ptC_len ptC_one rfl (by first | exact ho5 | exact ho5.alloc _) rfl ?_ (by simp only [List.length_append,List.length_cons,List.length_nil];omega) (by simp only [List.length_append,List.length_cons,List.length_nil];omega) (Below.size HSrg.out) ?_
     · first | exact Pts.one (Blk.made (by simp) _ _) | exact Pts.one ((Blk.made (by simp) _ _).drew.grown hg5 (fun e=>by have:=Option.some.inj e;simp at this)) | exact Pts.one (((Blk.made (by simp) _ _).alloc _).drew.grown hg5 (fun e=>by have:=Option.some.inj e;simp at this))
     intro v9 wr9 ho9 hg9 hat9
     have hS:Since W3 wr9:=bG (w:=W3) HSrg.out hg9 (fun g hk=>(ho5.lt g hk).1)
     clear HSrg
     refine hK.out _ _ hS (fun _=>?_)
     clear hK K
     try simp only [pu]
     apply rg_p;exact Hops;exact rfl;exact hS;exact rfl
     · intro _ hqc;go_simp;try rfl
     try simp only [pu]
     refine rg_yn Hops rfl hS rfl rfl rfl rfl rfl ?_
     try simp only [pu]
     iterate 3
      apply rg_p;exact Hops;exact rfl;exact hS;exact rfl
      · intro _ hqc;go_simp;try rfl
      try simp only [pu]
     refine rg_done ?_
     refine HQrg.down _ _ ?_
     have hB:Below W3.heap.size W3 _:=hS
     clear hS HQrg Hops
     go_wp2_with fail
     go_meet
     case rel => exact ⟨ho9.mono_base Bw.size,rfl,bT Bw hB⟩
    ·
     have HSrg:=Lib.hid hS;clear hS
     refine rg_run (wanted_plain rfl) ?_
     go_simp
     refine hK.out _ _ (bA HSrg.out _) (fun hS=>?_)
     clear hK K HSrg
     try simp only [pu]
     refine rg_call (i:=5) (get_of Hops rfl) (fun K hK=>?_)
     have HSrg:=Lib.hid hS;clear hS
     refine rg_run (wanted_plain rfl) ?_
     refine wp_appl (.tmp 26) (.tmp 28) _ rfl (base:=W3.heap.size) (l:=[n1.pt]) elem_pt ptC_len ptC_one rfl ?_ rfl (HA.out.mono (bT Bw HSrg.out)) (by simp only [List.length_cons,List.length_nil];omega) (by simp only [List.length_cons,List.length_nil];omega) (Below.size HSrg.out) ?_
     · first | exact Own.lit _ _ _ _ ptC [n1.pt] _ 1 _ (by simp) rfl (by simp) (le_maxLen (by omega)) rfl rfl | exact (Own.lit _ _ _ _ ptC [n1.pt] _ 1 _ (by simp) rfl (by simp) (le_maxLen (by omega)) rfl rfl).alloc _
     intro v5 wr5 ho5 hg5 hat5
     have hS:Since W3 wr5:=bG (w:=W3) HSrg.out hg5 (fun g hk=>by have:=Option.some.inj hk;simp at this;omega)
     clear HSrg
     refine hK.out _ _ hS (fun _=>?_)
     clear hK K
     try simp only [pu]
     refine rg_call (i:=9) (get_of Hops rfl) (fun K hK=>?_)
     have HSrg:=Lib.hid hS;clear hS
     refine rg_run (wanted_plain rfl) ?_
     refine wp_appl (.tmp 29) (.tmp 32) _ rfl (base:=W3.heap.size) (l2:=[n2.pt]) elem_pt ptC_len ptC_one rfl (by first | exact ho5 | exact ho5.alloc _) rfl ?_ (by simp only [List.length_append,List.length_cons,List.length_nil];omega) (by simp only [List.length_append,List.length_cons,List.length_nil];omega) (Below.size HSrg.out) ?_
     · first | exact Pts.one (Blk.made (by simp) _ _) | exact Pts.one ((Blk.made (by simp) _ _).drew.grown hg5 (fun e=>by have:=Option.some.inj e;simp at this)) | exact Pts.one (((Blk.made (by simp) _ _).alloc _).drew.grown hg5 (fun e=>by have:=Option.some.inj e;simp at this))
     intro v9 wr9 ho9 hg9 hat9
     have hS:Since W3 wr9:=bG (w:=W3) HSrg.out hg9 (fun g hk=>(ho5.lt g hk).1)
     clear HSrg
     refine hK.out _ _ hS (fun _=>?_)
     clear hK K
     try simp only [pu]
     apply rg_p;exact Hops;exact rfl;exact hS;exact rfl
     · intro _ hqc;go_simp;try rfl
     try simp only [pu]
     refine rg_yn Hops rfl hS rfl rfl rfl rfl rfl ?_
     try simp only [pu]
     iterate 3
      apply rg_p;exact Hops;exact rfl;exact hS;exact rfl
      · intro _ hqc;go_simp;try rfl
      try simp only [pu]
     refine rg_done ?_
     refine HQrg.down _ _ ?_
     have hB:Below W3.heap.size W3 _:=hS
     clear hS HQrg Hops
     go_wp2_with fail
     go_meet
     case rel => exact ⟨ho9.mono_base Bw.size,rfl,bT Bw hB⟩
   ·
    have HSrg:=Lib.hid hS;clear hS
    refine rg_run (wanted_plain rfl) ?_
    go_simp
    refine hK.out _ _ (bA HSrg.out _) (fun hS=>?_)
    clear hK K HSrg
    try simp only [pu]
    refine rg_call (i:=2) (get_of Hops rfl) (fun K hK=>?_)
    have HSrg:=Lib.hid hS;clear hS
    refine rg_run (wanted_plain rfl) ?_
    go_simp
    refine hK.out _ _ (bA HSrg.out _) (fun hS=>?_)
    clear hK K HSrg
    try simp only [pu]
    refine rg_call (i:=5) (get_of Hops rfl) (fun K hK=>?_)
    have HSrg:=Lib.hid hS;clear hS
    refine rg_run (wanted_plain rfl) ?_
    refine wp_appl (.tmp 26) (.tmp 28) _ rfl (base:=W3.heap.size) (l:=[n1.pt]) elem_pt ptC_len ptC_one rfl ?_ rfl (HA.out.mono (bT Bw HSrg.out)) (by simp only [List.length_cons,List.length_nil];omega) (by simp only [List.length_cons,List.length_nil];omega) (Below.size HSrg.out) ?_
    · first | exact Own.lit _ _ _ _ ptC [n1.pt] _ 1 _ (by simp) rfl (by simp) (le_maxLen (by omega)) rfl rfl | exact (Own.lit _ _ _ _ ptC [n1.pt] _ 1 _ (by simp) rfl (by simp) (le_maxLen (by omega)) rfl rfl).alloc _
    intro v5 wr5 ho5 hg5 hat5
    have hS:Since W3 wr5:=bG (w:=W3) HSrg.out hg5 (fun g hk=>by have:=Option.some.inj hk;simp at this;omega)
    clear HSrg
    refine hK.out _ _ hS (fun _=>?_)
    clear hK K
    try simp only [pu]
    refine rg_call (i:=9) (get_of Hops rfl) (fun K hK=>?_)
    have HSrg:=Lib.hid hS;clear hS
    refine rg_run (wanted_plain rfl) ?_
    refine wp_appl (.tmp 29) (.tmp 32) _ rfl (base:=W3.heap.size) (l2:=[n2.pt]) elem_pt ptC_len ptC_one rfl (by first | exact ho5 | exact ho5.alloc _) rfl ?_ (by simp only [List.length_append,List.length_cons,List.length_nil];omega) (by simp only [List.length_append,List.length_cons,List.length_nil];omega) (Below.size HSrg.out) ?_
    · first | exact Pts.one (Blk.made (by simp) _ _) | exact Pts.one ((Blk.made (by simp) _ _).drew.grown hg5 (fun e=>by have:=Option.some.inj e;simp at this)) | exact Pts.one (((Blk.made (by simp) _ _).alloc _).drew.grown hg5 (fun e=>by have:=Option.some.inj e;simp at this))
    intro v9 wr9 ho9 hg9 hat9
    have hS:Since W3 wr9:=bG (w:=W3) HSrg.out hg9 (fun g hk=>(ho5.lt g hk).1)
    clear HSrg
    refine hK.out _ _ hS (fun _=>?_)
    clear hK K
    try simp only [pu]
    apply rg_p;exact Hops;exact rfl;exact hS;exact rfl
    · intro _ hqc;go_simp;try rfl
    try simp only [pu]
    refine rg_yn Hops rfl hS rfl rfl rfl rfl rfl ?_
    try simp only [pu]
    iterate 3
     apply rg_p;exact Hops;exact rfl;exact hS;exact rfl
     · intro _ hqc;go_simp;try rfl
     try simp only [pu]
    refine rg_done ?_
    refine HQrg.down _ _ ?_
    have hB:Below W3.heap.size W3 _:=hS
    clear hS HQrg Hops
    go_wp2_with fail
    go_meet
    case rel => exact ⟨ho9.mono_base Bw.size,rfl,bT Bw hB⟩
  ·
   refine rg_start (Since W3) (.take 0 1 (.take 1 3 (.take 3 11 (.take 4 27 (.take 6 91 (.take 7 219 (.take 10 1243 (.two 2 1247 (.two 5 1279 (.call 8 1535 (.call 9 2047 (.run 5 11 2047 (.done)))) 8 1503 (.call 5 1535 (.call 9 2047 (.run 5 11 2047 (.done))))) 8 1499 (.call 2 1503 (.call 5 1535 (.call 9 2047 (.run 5 11 2047 (.done))))))))))))) (by kernel_rfl) (bD (bR _)) (by kernel_rfl) (by kernel_rfl) (Nat.le_of_ble_eq_true (by kernel_rfl)) ?_
   intro opsR QR Hops HQrg hS
   iterate 7
    apply rg_p;exact Hops;exact rfl;exact hS;exact rfl
    · intro _ hqc;go_simp;try rfl
    try simp only [pu]
   refine rg_two (i:=2) (j:=8) (get_of Hops rfl) (get_of Hops rfl) (fun K hK=>?_) (fun K hK=>?_)
   ·
    have HSrg:=Lib.hid hS;clear hS
    refine rg_run (wanted_plain rfl) ?_
    go_simp
    refine hK.out _ _ (bA HSrg.out _) (fun hS=>?_)
    clear hK K HSrg
    try simp only [pu]
    refine rg_two (i:=5) (j:=8) (get_of Hops rfl) (get_of Hops rfl) (fun K hK=>?_) (fun K hK=>?_)
    ·
     have HSrg:=Lib.hid hS;clear hS
     refine rg_run (wanted_plain rfl) ?_
     refine wp_appl (.tmp 26) (.tmp 28) _ rfl (base:=W3.heap.size) (l:=[n1.pt]) elem_pt ptC_len ptC_one rfl ?_ rfl (HA.out.mono (bT Bw HSrg.out)) (by simp only [List.length_cons,List.length_nil];omega) (by simp only [List.length_cons,List.length_nil];omega) (Below.size HSrg.out) ?_
     · first | exact Own.lit _ _ _ _ ptC [n1.pt] _ 1 _ (by simp) rfl (by simp) (le_maxLen (by omega)) rfl rfl | exact (Own.lit _ _ _ _ ptC [n1.pt] _ 1 _ (by simp) rfl (by simp) (le_maxLen (by omega)) rfl rfl).alloc _
     intro v5 wr5 ho5 hg5 hat5
     have hS:Since W3 wr5:=bG (w:=W3) HSrg.out hg5 (fun g hk=>by have:=Option.some.inj hk;simp at this;omega)
     clear HSrg
     refine hK.out _ _ hS (fun _=>?_)
     clear hK K
     try simp only [pu]
     refine rg_call (i:=8) (get_of Hops rfl) (fun K hK=>?_)
     have HSrg:=Lib.hid hS;clear hS
     refine rg_run (wanted_plain rfl) ?_
     go_simp
     refine hK.out _ _ (bA HSrg.out _) (fun hS=>?_)
     clear hK K HSrg
     try simp only [pu]
     refine rg_call (i:=9) (get_of Hops rfl) (fun K hK=>?_)
     have HSrg:=Lib.hid hS;clear hS
     refine rg_run (wanted_plain rfl) ?_
     refine wp_appl (.tmp 29) (.tmp 32) _ rfl (base:=W3.heap.size) (l2:=[n2.pt]) elem_pt ptC_len ptC_one rfl (by first | exact ho5 | exact ho5.alloc _) rfl ?_ (by simp only [List.length_append,List.length_cons,List.length_nil];omega) (by simp only [List.length_append,List.length_cons,List.length_nil];omega) (Below.size HSrg.out) ?_
     · first | exact Pts.one (Blk.made (by simp) _ _) | exact Pts.one ((Blk.made (by simp) _ _).drew.grown hg5 (fun e=>by have:=Option.some.inj e;simp at this)) | exact Pts.one (((Blk.made (by simp) _ _).alloc _).drew.grown hg5 (fun e=>by have:=Option.some.inj e;simp at this))
     intro v9 wr9 ho9 hg9 hat9
     have hS:Since W3 wr9:=bG (w:=W3) HSrg.out hg9 (fun g hk=>(ho5.lt g hk).1)
     clear HSrg
     refine hK.out _ _ hS (fun _=>?_)
     clear hK K
     try simp only [pu]
     apply rg_p;exact Hops;exact rfl;exact hS;exact rfl
     · intro _ hqc;go_simp;try rfl
     try simp only [pu]
     apply rg_g;exact Hops;exact rfl;exact hS;iterate 4 exact rfl
     · intro _ hqc;go_simp;try rfl
     try simp only [pu]
     iterate 3
      apply rg_p;exact Hops;exact rfl;exact hS;exact rfl
      · intro _ hqc;go_simp;try rfl
      try simp only [pu]
     refine rg_done ?_
     refine HQrg.down _ _ ?_
     have hB:Below W3.heap.size W3 _:=hS
     clear hS HQrg Hops
     go_wp2_with fail
     go_meet
     case rel => exact ⟨ho9.mono_base Bw.size,rfl,bT Bw hB⟩
    ·
     have HSrg:=Lib.hid hS;clear hS
     refine rg_run (wanted_plain rfl) ?_
     go_simp
     refine hK.out _ _ (bA HSrg.out _) (fun hS=>?_)
     clear hK K HSrg
     try simp only [pu]
     refine rg_call (i:=5) (get_of Hops rfl) (fun K hK=>?_)
     have HSrg:=Lib.hid hS;clear hS
     refine rg_run (wanted_plain rfl) ?_
     refine wp_appl (.tmp 26) (.tmp 28) _ rfl (base:=W3.heap.size) (l:=[n1.pt]) elem_pt ptC_len ptC_one rfl ?_ rfl (HA.out.mono (bT Bw HSrg.out)) (by simp only [List.length_cons,List.length_nil];omega) (by simp only [List.length_cons,List.length_nil];omega) (Below.size HSrg.out) ?_
     · first | exact Own.lit _ _ _ _ ptC [n1.pt] _ 1 _ (by simp) rfl (by simp) (le_maxLen (by omega)) rfl rfl | exact (Own.lit _ _ _ _ ptC [n1.pt] _ 1 _ (by simp) rfl (by simp) (le_maxLen (by omega)) rfl rfl).alloc _
     intro v5 wr5 ho5 hg5 hat5
     have hS:Since W3 wr5:=bG (w:=W3) HSrg.out hg5 (fun g hk=>by have:=Option.some.inj hk;simp at this;omega)
     clear HSrg
     refine hK.out _ _ hS (fun _=>?_)
     clear hK K
     try simp only [pu]
     refine rg_call (i:=9) (get_of Hops rfl) (fun K hK=>?_)
     have HSrg:=Lib.hid hS;clear hS
     refine rg_run (wanted_plain rfl) ?_
     refine wp_appl (.tmp 29) (.tmp 32) _ rfl (base:=W3.heap.size) (l2:=[n2.pt]) elem_pt ptC_len ptC_one rfl (by first | exact ho5 | exact ho5.alloc _) rfl ?_ (by simp only [List.length_append,List.length_cons,List.length_nil];omega) (by simp only [List.length_append,List.length_cons,List.length_nil];omega) (Below.size HSrg.out) ?_
     · first | exact Pts.one (Blk.made (by simp) _ _) | exact Pts.one ((Blk.made (by simp) _ _).drew.grown hg5 (fun e=>by have:=Option.some.inj e;simp at this)) | exact Pts.one (((Blk.made (by simp) _ _).alloc _).drew.grown hg5 (fun e=>by have:=Option.some.inj e;simp at this))
     intro v9 wr9 ho9 hg9 hat9
     have hS:Since W3 wr9:=bG (w:=W3) HSrg.out hg9 (fun g hk=>(ho5.lt g hk).1)
     clear HSrg
     refine hK.out _ _ hS (fun _=>?_)
     clear hK K
     try simp only [pu]
     apply rg_p;exact Hops;exact rfl;exact hS;exact rfl
     · intro _ hqc;go_simp;try rfl
     try simp only [pu]
     apply rg_g;exact Hops;exact rfl;exact hS;iterate 4 exact rfl
     · intro _ hqc;go_simp;try rfl
     try simp only [pu]
     iterate 3
      apply rg_p;exact Hops;exact rfl;exact hS;exact rfl
      · intro _ hqc;go_simp;try rfl
      try simp only [pu]
     refine rg_done ?_
     refine HQrg.down _ _ ?_
     have hB:Below W3.heap.size W3 _:=hS
     clear hS HQrg Hops
     go_wp2_with fail
     go_meet
     case rel => exact ⟨ho9.mono_base Bw.size,rfl,bT Bw hB⟩
   ·
    have HSrg:=Lib.hid hS;clear hS
    refine rg_run (wanted_plain rfl) ?_
    go_simp
    refine hK.out _ _ (bA HSrg.out _) (fun hS=>?_)
    clear hK K HSrg
    try simp only [pu]
    refine rg_call (i:=2) (get_of Hops rfl) (fun K hK=>?_)
    have HSrg:=Lib.hid hS;clear hS
    refine rg_run (wanted_plain rfl) ?_
    go_simp
    refine hK.out _ _ (bA HSrg.out _) (fun hS=>?_)
    clear hK K HSrg
    try simp only [pu]
    refine rg_call (i:=5) (get_of Hops rfl) (fun K hK=>?_)
    have HSrg:=Lib.hid hS;clear hS
    refine rg_run (wanted_plain rfl) ?_
    refine wp_appl (.tmp 26) (.tmp 28) _ rfl (base:=W3.heap.size) (l:=[n1.pt]) elem_pt ptC_len ptC_one rfl ?_ rfl (HA.out.mono (bT Bw HSrg.out)) (by simp only [List.length_cons,List.length_nil];omega) (by simp only [List.length_cons,List.length_nil];omega) (Below.size HSrg.out) ?_
    · first | exact Own.lit _ _ _ _ ptC [n1.pt] _ 1 _ (by simp) rfl (by simp) (le_maxLen (by omega)) rfl rfl | exact (Own.lit _ _ _ _ ptC [n1.pt] _ 1 _ (by simp) rfl (by simp) (le_maxLen (by omega)) rfl rfl).alloc _
    intro v5 wr5 ho5 hg5 hat5
    have hS:Since W3 wr5:=bG (w:=W3) HSrg.out hg5 (fun g hk=>by have:=Option.some.inj hk;simp at this;omega)
    clear HSrg
    refine hK.out _ _ hS (fun _=>?_)
    clear hK K
    try simp only [pu]
    refine rg_call (i:=9) (get_of Hops rfl) (fun K hK=>?_)
    have HSrg:=Lib.hid hS;clear hS
    refine rg_run (wanted_plain rfl) ?_
    refine wp_appl (.tmp 29) (.tmp 32) _ rfl (base:=W3.heap.size) (l2:=[n2.pt]) elem_pt ptC_len ptC_one rfl (by first | exact ho5 | exact ho5.alloc _) rfl ?_ (by simp only [List.length_append,List.length_cons,List.length_nil];omega) (by simp only [List.length_append,List.length_cons,List.length_nil];omega) (Below.size HSrg.out) ?_
    · first | exact Pts.one (Blk.made (by simp) _ _) | exact Pts.one ((Blk.made (by simp) _ _).drew.grown hg5 (fun e=>by have:=Option.some.inj e;simp at this)) | exact Pts.one (((Blk.made (by simp) _ _).alloc _).drew.grown hg5 (fun e=>by have:=Option.some.inj e;simp at this))
    intro v9 wr9 ho9 hg9 hat9
    have hS:Since W3 wr9:=bG (w:=W3) HSrg.out hg9 (fun g hk=>(ho5.lt g hk).1)
    clear HSrg
    refine hK.out _ _ hS (fun _=>?_)
    clear hK K
    try simp only [pu]
    apply rg_p;exact Hops;exact rfl;exact hS;exact rfl
    · intro _ hqc;go_simp;try rfl
    try simp only [pu]
    apply rg_g;exact Hops;exact rfl;exact hS;iterate 4 exact rfl
    · intro _ hqc;go_simp;try rfl
    try simp only [pu]
    iterate 3
     apply rg_p;exact Hops;exact rfl;exact hS;exact rfl
     · intro _ hqc;go_simp;try rfl
     try simp only [pu]
    refine rg_done ?_
    refine HQrg.down _ _ ?_
    have hB:Below W3.heap.size W3 _:=hS
    clear hS HQrg Hops
    go_wp2_with fail
    go_meet
    case rel => exact ⟨ho9.mono_base Bw.size,rfl,bT Bw hB⟩
 case rest =>
  obtain ⟨hown,rfl,Bwc⟩:=hcut
  go_wp2_with fail
  go_ret2
  refine ⟨_,by rw [hasEnds,Hs1.out,Hs2.out];rfl,Bwc,?_⟩
  rw [pathS,nodeAt,nodeAt,Hn1.out,Hn2.out]
  exact hown
end Go.Proofs.YtpempeioeiaijaaGreat
namespace Go.Proofs.YtpempeioeiaijaaGreat
open Go.RowKit

def pathOf (p:Pl) (id:Int):Option (List Pt) :=
 match findAr p.arcs id with
 | some a=>if hasEnds p a then some (pathS p a) else none
 | none=>none
def RetPathE (w:World) (r:Option (List Pt)) (e:Ending) (w':World):Prop :=
 ∃ A c,e=.returned (.tuple #[.slice A (r.getD []).length c,.int .i64 (if r.isSome then 0 else 7)])∧Below w.heap.size w w'∧Own w' w.heap.size 42 2 ptC (.slice A (r.getD []).length c) (r.getD [])

theorem findAr_mem {l:List Ar} {id:Int} {a:Ar} (h:findAr l id=some a):a∈l:=List.mem_of_find?_eq_some h
set_option maxRecDepth 100000 in
set_option maxHeartbeats 1000000 in
theorem RPath_spec (v:Value) (p:Pl) (id:Int) (w:World) (h:PlV w v p) (hsh:Short p) :
  Calls Tryz.prog 34 #[v,.int .i64 id] w (RetPathE w (pathOf p id)):=by
 have HP:=Lib.hid h
 have HSh:=Lib.hid hsh;clear hsh
 obtain ⟨vn,vr,vf,al,rfl,-⟩:=h
 obtain ⟨q,hq⟩:∃ q,pathOf p id=q:=⟨_,rfl⟩
 rw [hq]
 have Hq:=Lib.hid hq;clear hq
 go_enter Tryz.func34,Tryz.ntmps34
 go_wp2_with fail
 refine (RArc_spec _ p id _ (HP.out.mono (bA (bR w) _)) HSh.out).mono ?_
 rintro e w1 ⟨v1,rfl,hb1,hp1⟩
 have Bw:Below w.heap.size w w1:=by
  repeat (first | with_reducible exact bR _ | with_reducible assumption | with_reducible refine bA ?_ _ | with_reducible refine bD ?_ | with_reducible refine bN ?_ _ | ((with_reducible refine bS ?_ ?_ _);rotate_left;(simp;try omega)) | ((with_reducible refine bT ?_ ?_);rotate_left;with_reducible assumption) | with_reducible refine bT ?_ (by assumption))
 have X2:Blk _ (w.heap.size) 34 #[vn,vr,vf]:=Blk.keep (by repeat (first | exact Blk.made (by simp) _ _ | refine Blk.alloc ?_ _)) hb1
 clear hb1
 have HP1:=Lib.hid hp1
 obtain ⟨A1,c1,rfl,-⟩:=hp1
 generalize hr:findAr p.arcs id=r at *
 have Hr:=Lib.hid hr;clear hr
 obtain ⟨X2l,X2a,X2b,X2c,-,-,-⟩:=X2.facts3
 cases r with
 | none =>
  simp only [Option.getD_none,Option.isSome_none,arV]
  have hf:=Lib.hid (show q=none by rw [← Hq.out,pathOf,Hr.out])
  go_wp2_with fail
  go_ret2
  refine ⟨none,0,by rw [hf.out];rfl,?_,by rw [hf.out];exact Own.nil _ _ _ _ _⟩
  repeat (first | with_reducible exact bR _ | with_reducible assumption | with_reducible refine bA ?_ _ | with_reducible refine bD ?_ | with_reducible refine bN ?_ _ | ((with_reducible refine bS ?_ ?_ _);rotate_left;(simp;try omega)) | ((with_reducible refine bT ?_ ?_);rotate_left;with_reducible assumption) | with_reducible refine bT ?_ (by assumption))
 | some a =>
  simp only [Option.getD_some,Option.isSome_some,arV] at HP1 ⊢
  have hs:=Lib.hid (HSh.out a (findAr_mem Hr.out))
  go_wp2_with fail
  refine (line_spec _ _ p a _ (HP.out.mono (bA Bw _)) (HP1.out.mono (bA (bR w1) _)) hs.out).mono ?_
  rintro e w2 ⟨v2,rfl,hb2,hown⟩
  replace hown:=hown.mono_base (b':=w.heap.size) (by have:=Bw.size;simp;omega)
  replace Bw:Below w.heap.size w w2:=bT (bA Bw _) hb2
  obtain ⟨A2,c2,rfl,-⟩:=Own.sl hown
  have Hown:=Lib.hid hown
  clear hb2 hown X2 X2l X2a X2b X2c
  cases he:hasEnds p a
  ·
   have hf:=Lib.hid (show q=none by rw [← Hq.out,pathOf,Hr.out];simp [he])
   clear he
   go_wp2_with fail
   go_ret2
   exact ⟨none,0,by rw [hf.out];rfl,Bw,by rw [hf.out];exact Own.nil _ _ _ _ _⟩
  ·
   have hf:=Lib.hid (show q=some (pathS p a) by rw [← Hq.out,pathOf,Hr.out];simp [he])
   clear he
   go_wp2_with fail
   go_ret2
   exact ⟨A2,c2,by rw [hf.out];rfl,Bw,by rw [hf.out];exact Hown.out⟩
end Go.Proofs.YtpempeioeiaijaaGreat
