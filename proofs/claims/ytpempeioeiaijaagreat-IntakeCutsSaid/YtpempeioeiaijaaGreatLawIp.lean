import Derived.Test.YtpempeioeiaijaaGreatJ28
import Derived.Test.YtpempeioeiaijaaGreatJ29
set_option linter.unusedSimpArgs false
set_option linter.unusedVariables false
namespace Go.Proofs.YtpempeioeiaijaaGreat
open Go.RowKit Go.Sort

def ptsS (L:List (List Pt)):List Pt:=if chkL L=0 then meetL L else []
def RetPA (w:World) (L:List (List Pt)) (e:Ending) (w':World):Prop :=
 ∃ A c,e=.returned (.tuple #[.slice A (ptsS L).length c,.int .i64 (chkL L)])∧Below w.heap.size w w'∧Pts w' (.slice A (ptsS L).length c) (ptsS L)
theorem Pts19_any (v:Value) (xs:List (SV×List Pt)) (w:World) (h:Lns19 w v xs) (hl:light19S (xs.map (·.2))=true):Calls Tryz.prog 12 #[v] w (RetPA w (xs.map (·.2))):=by
 obtain ⟨h1,h2⟩:=light_bd hl
 by_cases hz:chkL (xs.map (·.2))=0
 ·
  refine (Points19_ok v xs w h (chkL_good.1 hz)).mono ?_
  rintro e w' ⟨A,c,rfl,hb,ho⟩
  have e1:ptsS (xs.map (·.2))=meetL (xs.map (·.2)):=by unfold ptsS;rw [if_pos hz]
  unfold RetPA
  rw [e1,hz]
  exact ⟨A,c,rfl,hb,ho.sl⟩
 ·
  refine (Points19_bad v xs w h (by simp at h1;omega) (fun k hk=>?_) hz).mono ?_
  ·
   have:=h2 _ (List.mem_map_of_mem (List.getElem_mem hk))
   omega
  ·
   rintro e w' ⟨rfl,hb⟩
   have e1:ptsS (xs.map (·.2))=[]:=by unfold ptsS;rw [if_neg hz]
   unfold RetPA
   rw [e1]
   exact ⟨none,0,rfl,hb,Sl.of_own (Own.nil _ w.heap.size 42 2 ptC)⟩
theorem RPts19_any (v:Value) (xs:List (SV×List Pt)) (w:World) (h:Lns19 w v xs) (hl:light19S (xs.map (·.2))=true):Calls Tryz.prog 13 #[v] w (RetPA w (xs.map (·.2))):=by
 obtain ⟨h1,h2⟩:=light_bd hl
 by_cases hz:chkL (xs.map (·.2))=0
 ·
  refine (RPoints19_ok v xs w h (chkL_good.1 hz)).mono ?_
  rintro e w' ⟨A,c,rfl,hb,ho⟩
  have e1:ptsS (xs.map (·.2))=rptsL (xs.map (·.2)):=by
   unfold ptsS
   rw [if_pos hz,rptsL_eq fun l hl e=>by have:=(chkL_good.1 hz).two l hl;rw [e] at this;simp at this]
  unfold RetPA
  rw [e1,hz]
  exact ⟨A,c,rfl,hb,ho⟩
 ·
  refine (RPoints19_bad v xs w h (by simp at h1;omega) (fun k hk=>?_) hz).mono ?_
  ·
   have:=h2 _ (List.mem_map_of_mem (List.getElem_mem hk))
   omega
  ·
   rintro e w' ⟨rfl,hb⟩
   have e1:ptsS (xs.map (·.2))=[]:=by unfold ptsS;rw [if_neg hz]
   unfold RetPA
   rw [e1]
   exact ⟨none,0,rfl,hb,Sl.of_own (Own.nil _ w.heap.size 42 2 ptC)⟩
theorem ptsS_len {L:List (List Pt)} (hl:light19S L=true):(ptsS L).length≤1000000000:=by
 unfold ptsS
 split
 ·
  obtain ⟨h1,h2⟩:=light_bd hl
  have h3:(meetL L).length≤(bumps L).length:=nodup_len (meetL_nodup L) fun p hp=>by
   have h9:=meetL_mem.1 hp
   unfold meets at h9
   exact List.count_pos_iff.1 (by have:=of_decide_eq_true h9;omega)
  have h4:=bumps_len L 70 h2
  omega
 · exact Nat.zero_le _
theorem Same19_one (A B:Option Addr) (n c d:Nat) (l:List Pt) (v u:Value) (w:World) (hl:l.length=n) (hl2:n≤1000000000) (hp:Pts w (.slice A n c) l) (hq:Pts w (.slice B n d) l)
  (hv:Lns19 w v [((⟨A,n,c⟩:SV),l)]) (hu:Lns19 w u [((⟨B,n,d⟩:SV),l)]):Calls Tryz.prog 14 #[v,u] w fun e w'=>e=.returned (.bool true)∧Below w.heap.size w w':=by
 have h9:=Same19_spec v u _ _ w hv hu (by simp) (by simp) (fun k hk=>by
  have:k=0:=by simpa using hk
  subst this;simp only [List.getElem_cons_zero];omega) (fun k hk=>by
  have:k=0:=by simpa using hk
  subst this;simp only [List.getElem_cons_zero];omega)
 rw [decide_eq_true (by rfl)] at h9
 exact h9
set_option maxRecDepth 100000 in
set_option maxHeartbeats 8000000 in
theorem IntakePoints_spec (v:Value) (xs:List (SV×List Pt)) (w:World) (h:Lns19 w v xs):Calls Tryz.prog 3 #[v] w fun e w'=>e=.returned (.bool true)∧Below w.heap.size w w':=by
 have HAw:=Lib.hid (fun W=>Awake19_spec W)
 have HLi:=Lib.hid (Light19_spec v xs w h)
 have HP1:=Lib.hid (fun W (hW:Below w.heap.size w W) (hl:light19S (xs.map (·.2))=true)=>Pts19_any v xs W (h.mono hW) hl)
 have HP2:=Lib.hid (fun W (hW:Below w.heap.size w W) (hl:light19S (xs.map (·.2))=true)=>RPts19_any v xs W (h.mono hW) hl)
 obtain ⟨⟨A,c,rfl,-⟩,-⟩:=h
 generalize xs.map (·.2)=L at *
 cases hl:light19S L
 case false =>
  rw [hl] at HLi
  clear hl HP1 HP2
  go_enter Tryz.func3,Tryz.ntmps3
  go_wp2_with fail
  refine HLi.out.mono ?_
  rintro e w1 ⟨rfl,hb1⟩
  go_wp2_with fail
  refine (HAw.out _).mono ?_
  rintro e w2 ⟨rfl,hb2⟩
  go_wp2_with fail
  go_ret
  exact ⟨rfl,bT hb1 hb2⟩
 case true =>
  rw [hl] at HLi
  have HQ1:=Lib.hid (fun W (hW:Below w.heap.size w W)=>HP1.out W hW hl)
  have HQ2:=Lib.hid (fun W (hW:Below w.heap.size w W)=>HP2.out W hW hl)
  have hln:=ptsS_len hl
  unfold RetPA at HQ1 HQ2
  generalize ptsS L=l at *
  generalize hnl:l.length=n at *
  generalize chkL L=z at *
  have HN:=Lib.hid hnl
  clear hl HP1 HP2 hnl
  go_enter Tryz.func3,Tryz.ntmps3
  go_wp2_with fail
  refine HLi.out.mono ?_
  rintro e w1 ⟨rfl,hb1⟩
  have HB1:=Lib.hid hb1
  clear hb1
  go_wp2_with fail
  refine (HQ1.out _ HB1.out).mono ?_
  rintro e w2 ⟨A2,c2,rfl,hb2,hp2⟩
  have HB2:=Lib.hid (bT HB1.out hb2);have Hp2:=Lib.hid hp2
  clear hb2 hp2
  go_wp2_with fail
  refine (HQ2.out _ HB2.out).mono ?_
  rintro e w3 ⟨A3,c3,rfl,hb3,hp3⟩
  have HB3:=Lib.hid (bT HB2.out hb3);have Hp3:=Lib.hid hp3;have Hp2':=Lib.hid (Pts.mono Hp2.out hb3)
  clear hb3 hp3
  go_wp2_with fail
  refine (HAw.out _).mono ?_
  rintro e w4 ⟨rfl,hb4⟩
  have HB4:=Lib.hid (bT HB3.out hb4);have Hp4:=Lib.hid (Pts.mono Hp3.out hb4);have Hp4':=Lib.hid (Pts.mono Hp2'.out hb4)
  clear hb4
  go_wp2_with fail
  refine (Same19_one A2 A3 n c2 c3 l _ _ _ HN.out hln (Hp4'.out.mono (bA (bA (bR w4) _) _)) (Hp4.out.mono (bA (bA (bR w4) _) _)) (Lns19.one ((Blk.made rfl _ _).alloc _) (Hp4'.out.mono (bA (bA (bR w4) _) _))) (Lns19.one (Blk.made (by simp) _ _) (Hp4.out.mono (bA (bA (bR w4) _) _)))).mono ?_
  rintro e w5 ⟨rfl,hb5⟩
  have HB5:=Lib.hid (bT (bA (bA HB4.out _) _) hb5)
  clear hb5
  go_wp2_with fail
  go_ret
  exact ⟨ret_bool (by simp),HB5.out⟩
end Go.Proofs.YtpempeioeiaijaaGreat
