import Derived.Test.YtnhdmghgjngcaaaGreatJ05
import Derived.Test.YtnhdmghgjngcaaaGreatGB
import Derived.Test.YtnhdmghgjngcaaaGreatJ04
import Derived.Test.YtnhdmghgjngcaaaGreatJ03
set_option linter.unusedSimpArgs false
set_option linter.unusedVariables false
namespace Go.Proofs.YtnhdmghgjngcaaaGreat
open Go.RowKit

def chainS (a b:PSg):Bool:=decide (a.k+1=b.k) || ((a.ln.arc.fr == a.ln.arc.dst) && decide (a.k=0) && decide ((b.k:Int)=(b.ln.path.length:Int)-2))
def sameArcS (m:Int) (a b:PSg):Bool:=if chainS a b then m == 1 else m == 0
def atNodeS (f:Int→Pt) (s t:PSg) (id:Int):Bool:=(id == t.ln.arc.fr || id == t.ln.arc.dst) && onS s.fst s.snd (f id) && onS t.fst t.snd (f id)
def compatS (f:Int→Pt) (s t:PSg):Bool :=
 if s.ln.arc.id=t.ln.arc.id then (if t.k<s.k then sameArcS (meetS s.fst s.snd t.fst t.snd) t s else sameArcS (meetS s.fst s.snd t.fst t.snd) s t)
 else if meetS s.fst s.snd t.fst t.snd=1 then atNodeS f s t s.ln.arc.fr || atNodeS f s t s.ln.arc.dst
 else meetS s.fst s.snd t.fst t.snd == 0

theorem SgOk.line {w:World} {s:PSg} (h:SgOk w s):Blk w s.ln.g 161 #[.int .i64 s.ln.arc.id,.int .i64 s.ln.arc.fr,.int .i64 s.ln.arc.dst,.slice s.ln.via.a s.ln.via.n s.ln.via.c,.int .i64 s.ln.arc.left,.int .i64 s.ln.arc.right,.slice s.ln.pa s.ln.path.length s.ln.pc]:=h.1.1

set_option maxRecDepth 100000 in
set_option maxHeartbeats 4000000 in
theorem compat_spec (f:Int→Pt) (mb n:Nat) (s t:PSg) (w:World) (hs:SgOk w s) (ht:SgOk w t) (hm:MapPts w mb n f)
  (hw1:wfI s.ln.arc.fr) (hw2:wfI s.ln.arc.dst) :
  Calls Tryz.prog 112 #[psgV s,psgV t,.map (some mb)] w fun e w'=>e=.returned (.bool (compatS f s t))∧Below w.heap.size w w':=by
 have TS:∀ W,Below w.heap.size w W→Calls Tryz.prog 113 #[psgV s] W _:=fun W hW=>ends2_spec s W (hs.keep hW)
 have TT:∀ W,Below w.heap.size w W→Calls Tryz.prog 113 #[psgV t] W _:=fun W hW=>ends2_spec t W (ht.keep hW)
 have TM:∀ W,Calls Tryz.prog 133 #[ptV s.fst,ptV s.snd,ptV t.fst,ptV t.snd] W _:=fun W=>Meet_spec s.fst s.snd t.fst t.snd W
 have TO:∀ p q r:Pt,∀ W,Calls Tryz.prog 72 #[ptV p,ptV q,ptV r] W _:=fun p q r W=>On_spec p q r W
 unfold psgV ptV at TS TT
 unfold ptV at TM TO
 unfold psgV
 have HS:=Lib.hid TS;have HT:=Lib.hid TT;have HM:=Lib.hid TM;have HO:=Lib.hid TO
 have Ks:=Lib.hid hs;have Kt:=Lib.hid ht;have Km:=Lib.hid hm
 have hsk:s.k≤2097152:=by have:=hs.2;omega
 have htk:t.k≤2097152:=by have:=ht.2;omega
 clear TS TT TM TO hs ht hm
 obtain ⟨q,hq⟩:∃ q,compatS f s t=q:=⟨_,rfl⟩
 rw [hq]
 unfold compatS at hq
 have Hq:=Lib.hid hq;clear hq
 go_enter Tryz.func112,Tryz.ntmps112
 go_wp2_with fail
 refine (HS.out _ (bA (bA (bR w) _) _)).mono ?_
 rintro e w1 ⟨rfl,hb1,-⟩
 have Bw:Below w.heap.size w w1:=by
  repeat (first | with_reducible exact bR _ | with_reducible assumption | with_reducible refine bA ?_ _ | with_reducible refine bD ?_ | with_reducible refine bN ?_ _ | ((with_reducible refine bS ?_ ?_ _);rotate_left;(simp;try omega)) | ((with_reducible refine bT ?_ ?_);rotate_left;with_reducible assumption) | with_reducible refine bT ?_ (by assumption))
 have X3:Blk _ (w.heap.size) 154 #[.pointer (some ⟨s.ln.g,0,none⟩),.int .i64 s.k]:=Blk.keep (by repeat (first | exact Blk.made (by simp) _ _ | refine Blk.alloc ?_ _)) hb1
 have X4:Blk _ (w.heap.size+1) 154 #[.pointer (some ⟨t.ln.g,0,none⟩),.int .i64 t.k]:=Blk.keep (by repeat (first | exact Blk.made (by simp) _ _ | refine Blk.alloc ?_ _)) hb1
 clear hb1
 obtain ⟨X3l,X3a,X3b,-,-⟩:=X3.facts2
 obtain ⟨X4l,X4a,X4b,-,-⟩:=X4.facts2
 go_wp2_with fail
 refine (HT.out _ (bA (bA Bw _) _)).mono ?_
 rintro e w2 ⟨rfl,hb2,-⟩
 have X7:Blk w2 w1.heap.size 36 #[.int .i64 s.fst.x,.int .i64 s.fst.y]:=((Blk.made rfl _ _).alloc _).keep hb2
 have X8:Blk w2 (w1.heap.size+1) 36 #[.int .i64 s.snd.x,.int .i64 s.snd.y]:=(Blk.made (by simp) _ _).keep hb2
 replace X3:=((X3.alloc _).alloc _).keep hb2
 replace X4:=((X4.alloc _).alloc _).keep hb2
 replace Bw:=bT (bA (bA Bw _) _) hb2
 clear hb2
 try clear X3l
 try clear X3a
 try clear X3b
 obtain ⟨X3l,X3a,X3b,-,-⟩:=X3.facts2
 try clear X4l
 try clear X4a
 try clear X4b
 obtain ⟨X4l,X4a,X4b,-,-⟩:=X4.facts2
 obtain ⟨X7l,X7a,X7b,-,-⟩:=X7.facts2
 obtain ⟨X8l,X8a,X8b,-,-⟩:=X8.facts2
 go_wp2_with fail
 refine (HM.out _).mono ?_
 rintro e w3 ⟨rfl,hb3⟩
 have X9:Blk w3 w2.heap.size 36 #[.int .i64 t.fst.x,.int .i64 t.fst.y]:=((Blk.made rfl _ _).alloc _).keep hb3
 have X10:Blk w3 (w2.heap.size+1) 36 #[.int .i64 t.snd.x,.int .i64 t.snd.y]:=(Blk.made (by simp) _ _).keep hb3
 replace X3:=((X3.alloc _).alloc _).keep hb3
 replace X4:=((X4.alloc _).alloc _).keep hb3
 replace X7:=((X7.alloc _).alloc _).keep hb3
 replace X8:=((X8.alloc _).alloc _).keep hb3
 replace Bw:=bT (bA (bA Bw _) _) hb3
 clear hb3
 generalize meetS s.fst s.snd t.fst t.snd=m at *
 have Y1:=(Ks.out.keep Bw).line
 have Y2:=(Kt.out.keep Bw).line
 try clear X3l
 try clear X3a
 try clear X3b
 obtain ⟨X3l,X3a,X3b,X3fa,X3fb⟩:=X3.facts2
 try clear X4l
 try clear X4a
 try clear X4b
 obtain ⟨X4l,X4a,X4b,X4fa,X4fb⟩:=X4.facts2
 obtain ⟨Y1l,Y1a,Y1b,Y1c,Y1d,Y1e,Y1f,Y1g,-,-,-,-,-,-,-⟩:=Y1.facts7
 obtain ⟨Y2l,Y2a,Y2b,Y2c,Y2d,Y2e,Y2f,Y2g,-,-,-,-,-,-,-⟩:=Y2.facts7
 go_upto_region 4 with fail
 refine rg_start (Since w3) (.run 13 0 0 (.done)) (by kernel_rfl) (bD (bR _)) (by kernel_rfl) (by kernel_rfl) (Nat.le_of_ble_eq_true (by kernel_rfl)) ?_
 intro opsR QR Hops HQrg hS
 iterate 13
  apply rg_p;exact Hops;exact rfl;exact hS;exact rfl
  · intro _ hqc;go_simp;try rfl
  try simp only [pu]
 refine rg_done ?_
 refine HQrg.down _ _ ?_
 have hB:Below w3.heap.size w3 w3.drew:=hS
 clear hS HQrg Hops
 have Bd:Below w.heap.size w w3.drew:=bD Bw
 clear hB
 by_cases hid:s.ln.arc.id=t.ln.arc.id
 case neg =>
  have hid':(s.ln.arc.id == t.ln.arc.id)=false:=beq_eq_false_iff_ne.2 hid
  have hq:=Hq.out
  rw [if_neg hid] at hq
  replace Hq:=Lib.hid hq
  rw [hid']
  clear hid hq
  by_cases hm1:m=1
  case neg =>
   have hm':(m != 1)=true:=by simpa using hm1
   have hf:=Lib.hid (show (m == 0)=q by rw [← Hq.out,if_neg hm1])
   clear hm1
   go_wp2_with fail
   go_ret
   exact ⟨ret_bool hf.out,Bd⟩
  subst hm1
  have hq:=Hq.out
  rw [if_pos rfl] at hq
  replace Hq:=Lib.hid hq
  clear hq
  go_upto_region 12 with fail
  obtain ⟨w4,hw4⟩:∃ w4:World,w4=w3.drew:=⟨_,rfl⟩
  have hA4:Below w3.heap.size w3 w4:=by rw [hw4];exact bD (bR w3)
  rw [← hw4]
  rw [← hw4] at Bd
  clear hw4
  replace X3:=X3.keep hA4
  replace X4:=X4.keep hA4
  replace X7:=X7.keep hA4
  replace X8:=X8.keep hA4
  replace X9:=X9.keep hA4
  replace X10:=X10.keep hA4
  replace Y1:=Y1.keep hA4
  replace Y2:=Y2.keep hA4
  try clear X3l
  try clear X3a
  try clear X3b
  try clear X3fa
  try clear X3fb
  obtain ⟨X3l,X3a,X3b,-,-⟩:=X3.facts2
  try clear Y1l
  try clear Y1a
  try clear Y1b
  try clear Y1c
  try clear Y1d
  try clear Y1e
  try clear Y1f
  try clear Y1g
  obtain ⟨Y1l,Y1a,Y1b,Y1c,Y1d,Y1e,Y1f,Y1g,-,-,-,-,-,-,-⟩:=Y1.facts7
  refine rg_start (Since w4) (.run 14 0 0 (.done)) (by kernel_rfl) (bD (bR _)) (by kernel_rfl) (by kernel_rfl) (Nat.le_of_ble_eq_true (by kernel_rfl)) ?_
  intro opsR QR Hops HQrg hS
  iterate 14
   apply rg_p;exact Hops;exact rfl;exact hS;exact rfl
   · intro _ hqc;go_simp;try rfl
   try simp only [pu]
  refine rg_done ?_
  refine HQrg.down _ _ ?_
  have hB:Below w4.heap.size w4 w4.drew:=hS
  clear hS HQrg Hops
  have hB4:Below w4.heap.size w4 w4.drew:=bD (bR w4)
  obtain ⟨W,hW⟩:∃ W:World,W=w4.drew:=⟨_,rfl⟩
  rw [← hW]
  rw [← hW] at hB4
  have HBW:=Lib.hid (bT Bd hB4)
  have HX4:=Lib.hid (X4.keep hB4)
  have HX7:=Lib.hid (X7.keep hB4)
  have HX8:=Lib.hid (X8.keep hB4)
  have HX9:=Lib.hid (X9.keep hB4)
  have HX10:=Lib.hid (X10.keep hB4)
  have HY2:=Lib.hid (Y2.keep hB4)
  clear hB hB4 hW hA4 Bw Bd X3 X3l X3a X3b X4 X4l X4a X4b X7 X7l X7a X7b X8 X8l X8a X8b X9 X10 Y1 Y1l Y1a Y1b Y1c Y1d Y1e Y1f Y1g Y2 Y2l Y2a Y2b Y2c Y2d Y2e Y2f Y2g
  go_wp2_with fail
  go_loopw [100] (fun u wx=>∃ j:Int,(j=0∨j=1∨j=2)∧u=.int .i64 j∧Below W.heap.size W wx∧(1≤j→atNodeS f s t s.ln.arc.fr=false)∧(2≤j→atNodeS f s t s.ln.arc.dst=false)) (fun u _=>2-(intOf u).toNat)
  case atStart => exact ⟨0,by omega,rfl,bR W,fun h=>by omega,fun h=>by omega⟩
  case round =>
   obtain ⟨j,hj,rfl,hb,hl,hr⟩:=hrel
   have Hb:=Lib.hid hb
   have Hl:=Lib.hid hl
   have Hr:=Lib.hid hr
   have X4:=HX4.out.keep hb
   have X7:=HX7.out.keep hb
   have X8:=HX8.out.keep hb
   have X9:=HX9.out.keep hb
   have X10:=HX10.out.keep hb
   have Y2:=HY2.out.keep hb
   clear hb hl hr
   try clear X4l
   try clear X4a
   try clear X4b
   try clear X4fa
   try clear X4fb
   obtain ⟨X4l,X4a,X4b,-,-⟩:=X4.facts2
   try clear X7l
   try clear X7a
   try clear X7b
   obtain ⟨X7l,X7a,X7b,-,-⟩:=X7.facts2
   try clear X8l
   try clear X8a
   try clear X8b
   obtain ⟨X8l,X8a,X8b,-,-⟩:=X8.facts2
   obtain ⟨X9l,X9a,X9b,-,-⟩:=X9.facts2
   obtain ⟨X10l,X10a,X10b,-,-⟩:=X10.facts2
   try clear Y2l
   try clear Y2a
   try clear Y2b
   try clear Y2c
   try clear Y2d
   try clear Y2e
   try clear Y2f
   try clear Y2g
   obtain ⟨Y2l,Y2a,Y2b,Y2c,Y2d,Y2e,Y2f,Y2g,-,-,-,-,-,-,-⟩:=Y2.facts7
   rcases hj with rfl | rfl | rfl
   ·
    have hI:∀ w,(Instr.index 147 (.agg #[.int .i64 s.ln.arc.fr,.int .i64 s.ln.arc.dst]) (.int .i64 0)).run Tryz.prog w=.ok (.int .i64 s.ln.arc.fr) w:=fun _=>by kernel_rfl
    have hlk:=(Km.out.keep (bT HBW.out Hb.out)).look s.ln.arc.fr hw1
    unfold ptV at hlk
    cases h1:(s.ln.arc.fr == t.ln.arc.fr)
    case false =>
     cases h2:(s.ln.arc.fr == t.ln.arc.dst)
     case false =>
      have hy:=Lib.hid (show atNodeS f s t s.ln.arc.fr=false by simp [atNodeS,h1,h2])
      go_wp2_with fail
      go_roundw
      case rel => exact ⟨1,by omega,rfl,bA Hb.out _,fun h=>by first | exact hy.out | exact Hl.out (by omega),fun h=>by first | omega | exact hy.out⟩
      case measure => simp [intOf]
     case true =>
      have hc:=Lib.hid (show (s.ln.arc.fr == t.ln.arc.fr || s.ln.arc.fr == t.ln.arc.dst)=true by rw [h2];simp)
      go_wp2_with fail
      refine (HO.out s.fst s.snd (f s.ln.arc.fr) _).mono ?_
      rintro e w5 ⟨rfl,hb5⟩
      have B5:Below W.heap.size W w5:=bT (bA Hb.out _) hb5
      have X14:Blk w5 wr.heap.size 36 #[.int .i64 (f s.ln.arc.fr).x,.int .i64 (f s.ln.arc.fr).y]:=(Blk.made rfl _ _).keep hb5
      clear hb5 X4 X4l X4a X4b Y2 Y2l Y2a Y2b Y2c Y2d Y2e Y2f Y2g X7 X7l X7a X7b X8 X8l X8a X8b X9 X9l X9a X9b X10 X10l X10a X10b hlk
      cases e3:onS s.fst s.snd (f s.ln.arc.fr)
      case false =>
       have hy:=Lib.hid (show atNodeS f s t s.ln.arc.fr=false by simp [atNodeS,e3])
       clear e3
       go_wp2_with fail
       go_roundw
       case rel => exact ⟨1,by omega,rfl,B5,fun h=>by first | exact hy.out | exact Hl.out (by omega),fun h=>by first | omega | exact hy.out⟩
       case measure => simp [intOf]
      have E3:=Lib.hid e3;clear e3
      have X9:=HX9.out.keep B5
      have X10:=HX10.out.keep B5
      try clear X9l
      try clear X9a
      try clear X9b
      obtain ⟨X9l,X9a,X9b,-,-⟩:=X9.facts2
      try clear X10l
      try clear X10a
      try clear X10b
      obtain ⟨X10l,X10a,X10b,-,-⟩:=X10.facts2
      obtain ⟨X14l,X14a,X14b,-,-⟩:=X14.facts2
      go_wp2_with fail
      refine (HO.out t.fst t.snd (f s.ln.arc.fr) _).mono ?_
      rintro e w6 ⟨rfl,hb6⟩
      have B6:Below W.heap.size W w6:=bT B5 hb6
      clear hb6 X14 X14l X14a X14b X9 X9l X9a X9b X10 X10l X10a X10b
      cases e4:onS t.fst t.snd (f s.ln.arc.fr)
      case false =>
       have hy:=Lib.hid (show atNodeS f s t s.ln.arc.fr=false by simp [atNodeS,e4])
       clear e4
       go_wp2_with fail
       go_roundw
       case rel => exact ⟨1,by omega,rfl,B6,fun h=>by first | exact hy.out | exact Hl.out (by omega),fun h=>by first | omega | exact hy.out⟩
       case measure => simp [intOf]
      have hy:=Lib.hid (show atNodeS f s t s.ln.arc.fr=true by simp only [atNodeS,hc.out,E3.out,e4];rfl)
      have hf:=Lib.hid (show true=q by rw [← Hq.out,hy.out];simp)
      clear e4
      go_wp2_with fail
      go_ret
      exact ⟨ret_bool hf.out,bT HBW.out B6⟩
    case true =>
     have hc:=Lib.hid (show (s.ln.arc.fr == t.ln.arc.fr || s.ln.arc.fr == t.ln.arc.dst)=true by rw [h1];simp)
     go_wp2_with fail
     refine (HO.out s.fst s.snd (f s.ln.arc.fr) _).mono ?_
     rintro e w5 ⟨rfl,hb5⟩
     have B5:Below W.heap.size W w5:=bT (bA Hb.out _) hb5
     have X14:Blk w5 wr.heap.size 36 #[.int .i64 (f s.ln.arc.fr).x,.int .i64 (f s.ln.arc.fr).y]:=(Blk.made rfl _ _).keep hb5
     clear hb5 X4 X4l X4a X4b Y2 Y2l Y2a Y2b Y2c Y2d Y2e Y2f Y2g X7 X7l X7a X7b X8 X8l X8a X8b X9 X9l X9a X9b X10 X10l X10a X10b hlk
     cases e3:onS s.fst s.snd (f s.ln.arc.fr)
     case false =>
      have hy:=Lib.hid (show atNodeS f s t s.ln.arc.fr=false by simp [atNodeS,e3])
      clear e3
      go_wp2_with fail
      go_roundw
      case rel => exact ⟨1,by omega,rfl,B5,fun h=>by first | exact hy.out | exact Hl.out (by omega),fun h=>by first | omega | exact hy.out⟩
      case measure => simp [intOf]
     have E3:=Lib.hid e3;clear e3
     have X9:=HX9.out.keep B5
     have X10:=HX10.out.keep B5
     try clear X9l
     try clear X9a
     try clear X9b
     obtain ⟨X9l,X9a,X9b,-,-⟩:=X9.facts2
     try clear X10l
     try clear X10a
     try clear X10b
     obtain ⟨X10l,X10a,X10b,-,-⟩:=X10.facts2
     try clear X14l
     try clear X14a
     try clear X14b
     obtain ⟨X14l,X14a,X14b,-,-⟩:=X14.facts2
     go_wp2_with fail
     refine (HO.out t.fst t.snd (f s.ln.arc.fr) _).mono ?_
     rintro e w6 ⟨rfl,hb6⟩
     have B6:Below W.heap.size W w6:=bT B5 hb6
     clear hb6 X14 X14l X14a X14b X9 X9l X9a X9b X10 X10l X10a X10b
     cases e4:onS t.fst t.snd (f s.ln.arc.fr)
     case false =>
      have hy:=Lib.hid (show atNodeS f s t s.ln.arc.fr=false by simp [atNodeS,e4])
      clear e4
      go_wp2_with fail
      go_roundw
      case rel => exact ⟨1,by omega,rfl,B6,fun h=>by first | exact hy.out | exact Hl.out (by omega),fun h=>by first | omega | exact hy.out⟩
      case measure => simp [intOf]
     have hy:=Lib.hid (show atNodeS f s t s.ln.arc.fr=true by simp only [atNodeS,hc.out,E3.out,e4];rfl)
     have hf:=Lib.hid (show true=q by rw [← Hq.out,hy.out];simp)
     clear e4
     go_wp2_with fail
     go_ret
     exact ⟨ret_bool hf.out,bT HBW.out B6⟩
   ·
    have hI:∀ w,(Instr.index 147 (.agg #[.int .i64 s.ln.arc.fr,.int .i64 s.ln.arc.dst]) (.int .i64 1)).run Tryz.prog w=.ok (.int .i64 s.ln.arc.dst) w:=fun _=>by kernel_rfl
    have hlk:=(Km.out.keep (bT HBW.out Hb.out)).look s.ln.arc.dst hw2
    unfold ptV at hlk
    cases h1:(s.ln.arc.dst == t.ln.arc.fr)
    case false =>
     cases h2:(s.ln.arc.dst == t.ln.arc.dst)
     case false =>
      have hy:=Lib.hid (show atNodeS f s t s.ln.arc.dst=false by simp [atNodeS,h1,h2])
      go_wp2_with fail
      go_roundw
      case rel => exact ⟨2,by omega,rfl,bA Hb.out _,fun h=>by first | exact hy.out | exact Hl.out (by omega),fun h=>by first | omega | exact hy.out⟩
      case measure => simp [intOf]
     case true =>
      have hc:=Lib.hid (show (s.ln.arc.dst == t.ln.arc.fr || s.ln.arc.dst == t.ln.arc.dst)=true by rw [h2];simp)
      go_wp2_with fail
      refine (HO.out s.fst s.snd (f s.ln.arc.dst) _).mono ?_
      rintro e w5 ⟨rfl,hb5⟩
      have B5:Below W.heap.size W w5:=bT (bA Hb.out _) hb5
      have X14:Blk w5 wr.heap.size 36 #[.int .i64 (f s.ln.arc.dst).x,.int .i64 (f s.ln.arc.dst).y]:=(Blk.made rfl _ _).keep hb5
      clear hb5 X4 X4l X4a X4b Y2 Y2l Y2a Y2b Y2c Y2d Y2e Y2f Y2g X7 X7l X7a X7b X8 X8l X8a X8b X9 X9l X9a X9b X10 X10l X10a X10b hlk
      cases e3:onS s.fst s.snd (f s.ln.arc.dst)
      case false =>
       have hy:=Lib.hid (show atNodeS f s t s.ln.arc.dst=false by simp [atNodeS,e3])
       clear e3
       go_wp2_with fail
       go_roundw
       case rel => exact ⟨2,by omega,rfl,B5,fun h=>by first | exact hy.out | exact Hl.out (by omega),fun h=>by first | omega | exact hy.out⟩
       case measure => simp [intOf]
      have E3:=Lib.hid e3;clear e3
      have X9:=HX9.out.keep B5
      have X10:=HX10.out.keep B5
      try clear X9l
      try clear X9a
      try clear X9b
      obtain ⟨X9l,X9a,X9b,-,-⟩:=X9.facts2
      try clear X10l
      try clear X10a
      try clear X10b
      obtain ⟨X10l,X10a,X10b,-,-⟩:=X10.facts2
      try clear X14l
      try clear X14a
      try clear X14b
      obtain ⟨X14l,X14a,X14b,-,-⟩:=X14.facts2
      go_wp2_with fail
      refine (HO.out t.fst t.snd (f s.ln.arc.dst) _).mono ?_
      rintro e w6 ⟨rfl,hb6⟩
      have B6:Below W.heap.size W w6:=bT B5 hb6
      clear hb6 X14 X14l X14a X14b X9 X9l X9a X9b X10 X10l X10a X10b
      cases e4:onS t.fst t.snd (f s.ln.arc.dst)
      case false =>
       have hy:=Lib.hid (show atNodeS f s t s.ln.arc.dst=false by simp [atNodeS,e4])
       clear e4
       go_wp2_with fail
       go_roundw
       case rel => exact ⟨2,by omega,rfl,B6,fun h=>by first | exact hy.out | exact Hl.out (by omega),fun h=>by first | omega | exact hy.out⟩
       case measure => simp [intOf]
      have hy:=Lib.hid (show atNodeS f s t s.ln.arc.dst=true by simp only [atNodeS,hc.out,E3.out,e4];rfl)
      have hf:=Lib.hid (show true=q by rw [← Hq.out,hy.out];simp)
      clear e4
      go_wp2_with fail
      go_ret
      exact ⟨ret_bool hf.out,bT HBW.out B6⟩
    case true =>
     have hc:=Lib.hid (show (s.ln.arc.dst == t.ln.arc.fr || s.ln.arc.dst == t.ln.arc.dst)=true by rw [h1];simp)
     go_wp2_with fail
     refine (HO.out s.fst s.snd (f s.ln.arc.dst) _).mono ?_
     rintro e w5 ⟨rfl,hb5⟩
     have B5:Below W.heap.size W w5:=bT (bA Hb.out _) hb5
     have X14:Blk w5 wr.heap.size 36 #[.int .i64 (f s.ln.arc.dst).x,.int .i64 (f s.ln.arc.dst).y]:=(Blk.made rfl _ _).keep hb5
     clear hb5 X4 X4l X4a X4b Y2 Y2l Y2a Y2b Y2c Y2d Y2e Y2f Y2g X7 X7l X7a X7b X8 X8l X8a X8b X9 X9l X9a X9b X10 X10l X10a X10b hlk
     cases e3:onS s.fst s.snd (f s.ln.arc.dst)
     case false =>
      have hy:=Lib.hid (show atNodeS f s t s.ln.arc.dst=false by simp [atNodeS,e3])
      clear e3
      go_wp2_with fail
      go_roundw
      case rel => exact ⟨2,by omega,rfl,B5,fun h=>by first | exact hy.out | exact Hl.out (by omega),fun h=>by first | omega | exact hy.out⟩
      case measure => simp [intOf]
     have E3:=Lib.hid e3;clear e3
     have X9:=HX9.out.keep B5
     have X10:=HX10.out.keep B5
     try clear X9l
     try clear X9a
     try clear X9b
     obtain ⟨X9l,X9a,X9b,-,-⟩:=X9.facts2
     try clear X10l
     try clear X10a
     try clear X10b
     obtain ⟨X10l,X10a,X10b,-,-⟩:=X10.facts2
     try clear X14l
     try clear X14a
     try clear X14b
     obtain ⟨X14l,X14a,X14b,-,-⟩:=X14.facts2
     go_wp2_with fail
     refine (HO.out t.fst t.snd (f s.ln.arc.dst) _).mono ?_
     rintro e w6 ⟨rfl,hb6⟩
     have B6:Below W.heap.size W w6:=bT B5 hb6
     clear hb6 X14 X14l X14a X14b X9 X9l X9a X9b X10 X10l X10a X10b
     cases e4:onS t.fst t.snd (f s.ln.arc.dst)
     case false =>
      have hy:=Lib.hid (show atNodeS f s t s.ln.arc.dst=false by simp [atNodeS,e4])
      clear e4
      go_wp2_with fail
      go_roundw
      case rel => exact ⟨2,by omega,rfl,B6,fun h=>by first | exact hy.out | exact Hl.out (by omega),fun h=>by first | omega | exact hy.out⟩
      case measure => simp [intOf]
     have hy:=Lib.hid (show atNodeS f s t s.ln.arc.dst=true by simp only [atNodeS,hc.out,E3.out,e4];rfl)
     have hf:=Lib.hid (show true=q by rw [← Hq.out,hy.out];simp)
     clear e4
     go_wp2_with fail
     go_ret
     exact ⟨ret_bool hf.out,bT HBW.out B6⟩
   ·
    have hf:=Lib.hid (show false=q by rw [← Hq.out,Hl.out (by omega),Hr.out (by omega)];rfl)
    go_wp2_with fail
    go_ret
    exact ⟨ret_bool hf.out,bT HBW.out Hb.out⟩
 case pos =>
  have hid':(s.ln.arc.id == t.ln.arc.id)=true:=beq_iff_eq.2 hid
  have hq:=Hq.out
  rw [if_pos hid] at hq
  replace Hq:=Lib.hid hq
  clear hid hq
  clear X7 X7l X7a X7b X8 X8l X8a X8b X9 X10
  go_upto_if 47 with fail
  go_cut [48] (fun u wx=>∃ a b:PSg,SgOk w a∧SgOk w b∧Blk wx w.heap.size 154 #[.pointer (some ⟨a.ln.g,0,none⟩),.int .i64 a.k]∧Blk wx (w.heap.size+1) 154 #[.pointer (some ⟨b.ln.g,0,none⟩),.int .i64 b.k]∧sameArcS m a b=q∧a.k≤2097152∧b.k≤2097152∧Below w.heap.size w wx)
  case first =>
   by_cases hsw:t.k<s.k
   ·
    have hf:=Lib.hid (show sameArcS m t s=q by rw [← Hq.out,if_pos hsw])
    go_wp2_with fail
    go_meet
    case rel =>
     refine ⟨t,s,Kt.out,Ks.out,?_,?_,hf.out,htk,hsk,?_⟩
     · exact ((Blk.put2 (Blk.drew X3)).far (p:=⟨w.heap.size+1,0,none⟩) (by simp) _).far (p:=⟨w.heap.size+1,1,none⟩) (by simp) _
     · exact Blk.put2 (((Blk.drew X4).far (p:=⟨w.heap.size,0,none⟩) (by simp) _).far (p:=⟨w.heap.size,1,none⟩) (by simp) _)
     · exact bS (bS (bS (bS Bd (p:=⟨w.heap.size,0,none⟩) (Nat.le_refl _) _) (p:=⟨w.heap.size,1,none⟩) (Nat.le_refl _) _) (p:=⟨w.heap.size+1,0,none⟩) (Nat.le_succ _) _) (p:=⟨w.heap.size+1,1,none⟩) (Nat.le_succ _) _
   ·
    have hf:=Lib.hid (show sameArcS m s t=q by rw [← Hq.out,if_neg hsw])
    go_wp2_with fail
    go_meet
    case rel => exact ⟨s,t,Ks.out,Kt.out,Blk.drew X3,Blk.drew X4,hf.out,hsk,htk,Bd⟩
  case rest =>
  obtain ⟨a,b,Ka,Kb,X3',X4',hf,ha,hb,Bc⟩:=hcut
  have Hf:=Lib.hid hf
  replace Ka:=Lib.hid Ka
  replace Kb:=Lib.hid Kb
  clear X3 X4 X3l X3a X3b X4l X4a X4b Y1 Y2 Y1l Y1a Y1b Y1c Y1d Y1e Y1f Y1g Y2l Y2a Y2b Y2c Y2d Y2e Y2f Y2g hf Bd Bw
  have Y1:=(Ka.out.keep Bc).line
  try clear X3'l
  try clear X3'a
  try clear X3'b
  try clear X3'fa
  try clear X3'fb
  obtain ⟨X3'l,X3'a,X3'b,-,-⟩:=X3'.facts2
  try clear X4'l
  try clear X4'a
  try clear X4'b
  try clear X4'fa
  try clear X4'fb
  obtain ⟨X4'l,X4'a,X4'b,-,-⟩:=X4'.facts2
  try clear Y1l
  try clear Y1a
  try clear Y1b
  try clear Y1c
  try clear Y1d
  try clear Y1e
  try clear Y1f
  try clear Y1g
  obtain ⟨Y1l,Y1a,Y1b,Y1c,Y1d,Y1e,Y1f,Y1g,-,-,-,-,-,-,-⟩:=Y1.facts7
  have w1e:IntKind.i64.wrap ((a.k:Int)+1)=(a.k:Int)+1:=IntWalk.i64_in _ (by omega)
  have TF:∀ W,Calls Tryz.prog 114 #[psgV a] W _:=fun W=>segfirst_spec a W
  have TL:∀ W,Below w.heap.size w W→Calls Tryz.prog 115 #[psgV b] W _:=fun W hW=>seglast_spec b W (Kb.out.keep hW)
  unfold psgV at TF TL
  have TF':=TF;have TL':=TL
  have q1:0≤(a.k:Int):=by omega
  cases h1:((a.k:Int)+1 == (b.k:Int))
  case true =>
   have hf:=Lib.hid (show (m == 1)=q by
    rw [← Hf.out,sameArcS,if_pos]
    have:=eq_of_beq h1
    simp only [chainS,Bool.or_eq_true,decide_eq_true_eq];left;omega)
   clear TF TL TF' TL'
   go_upto_region 7 with fail
   refine rg_start (Since wc) (.run 29 0 0 (.done)) (by kernel_rfl) (bD (bR _)) (by kernel_rfl) (by kernel_rfl) (Nat.le_of_ble_eq_true (by kernel_rfl)) ?_
   intro opsR QR Hops HQrg hS
   iterate 7
    apply rg_p;exact Hops;exact rfl;exact hS;exact rfl
    · intro _ hqc;go_simp;try rfl
    try simp only [pu]
   iterate 21
    refine rg_yn Hops rfl hS rfl rfl rfl rfl rfl ?_
    try simp only [pu]
   apply rg_p;exact Hops;exact rfl;exact hS;exact rfl
   · intro _ hqc;go_simp;try rfl
   try simp only [pu]
   refine rg_done ?_
   refine HQrg.down _ _ ?_
   have hB:Below wc.heap.size wc wc.drew:=hS
   clear hS HQrg Hops
   go_wp2_with fail
   go_ret
   exact ⟨ret_bool hf.out,bT Bc hB⟩
  case false =>
  have hk:¬ a.k+1=b.k:=by have:=ne_of_beq_false h1;omega
  cases h2:(a.ln.arc.fr == a.ln.arc.dst)
  case false =>
   have hf:=Lib.hid (show (m == 0)=q by
    rw [← Hf.out,sameArcS,if_neg]
    simp only [chainS,h2,decide_eq_false hk];simp)
   clear TF TL TF' TL'
   go_upto_region 7 with fail
   refine rg_start (Since wc) (.run 29 0 0 (.done)) (by kernel_rfl) (bD (bR _)) (by kernel_rfl) (by kernel_rfl) (Nat.le_of_ble_eq_true (by kernel_rfl)) ?_
   intro opsR QR Hops HQrg hS
   iterate 7
    apply rg_p;exact Hops;exact rfl;exact hS;exact rfl
    · intro _ hqc;go_simp;try rfl
    try simp only [pu]
   iterate 14
    apply rg_g;exact Hops;exact rfl;exact hS;iterate 4 exact rfl
    · intro _ hqc;go_simp;try rfl
    try simp only [pu]
   iterate 2
    refine rg_yn Hops rfl hS rfl rfl rfl rfl rfl ?_
    try simp only [pu]
   iterate 2
    apply rg_g;exact Hops;exact rfl;exact hS;iterate 4 exact rfl
    · intro _ hqc;go_simp;try rfl
    try simp only [pu]
   iterate 2
    refine rg_yn Hops rfl hS rfl rfl rfl rfl rfl ?_
    try simp only [pu]
   apply rg_g;exact Hops;exact rfl;exact hS;iterate 4 exact rfl
   · intro _ hqc;go_simp;try rfl
   try simp only [pu]
   apply rg_p;exact Hops;exact rfl;exact hS;exact rfl
   · intro _ hqc;go_simp;try rfl
   try simp only [pu]
   refine rg_done ?_
   refine HQrg.down _ _ ?_
   have hB:Below wc.heap.size wc wc.drew:=hS
   clear hS HQrg Hops
   go_wp2_with fail
   go_ret
   exact ⟨ret_bool hf.out,bT Bc hB⟩
  case true =>
  cases h3:((a.k:Int) == 0)
  case false =>
   rw [h3] at TF
   have HF:=Lib.hid TF
   have hf:=Lib.hid (show (m == 0)=q by
    have h3':¬ a.k=0:=by have:=ne_of_beq_false h3;omega
    rw [← Hf.out,sameArcS,if_neg]
    simp only [chainS,h2,decide_eq_false hk,decide_eq_false h3'];simp)
   clear TF TL TF' TL' h3
   go_upto_region 7 with fail
   refine rg_start (Since wc) (.run 22 0 0 (.call 22 8388607 (.run 6 23 8388607 (.done)))) (by kernel_rfl) (bD (bR _)) (by kernel_rfl) (by kernel_rfl) (Nat.le_of_ble_eq_true (by kernel_rfl)) ?_
   intro opsR QR Hops HQrg hS
   iterate 7
    apply rg_p;exact Hops;exact rfl;exact hS;exact rfl
    · intro _ hqc;go_simp;try rfl
    try simp only [pu]
   iterate 15
    apply rg_g;exact Hops;exact rfl;exact hS;iterate 4 exact rfl
    · intro _ hqc;go_simp;try rfl
    try simp only [pu]
   refine rg_call (i:=22) (get_of Hops rfl) (fun K hK=>?_)
   have HSrg:=Lib.hid hS;clear hS
   refine rg_run (wanted_yes rfl (get_of Hops rfl) rfl rfl) ?_
   go_simp
   refine (HF.out _).mono ?_
   rintro e wr1 ⟨rfl,hbr1⟩
   have hS:Since wc wr1:=bT (w:=wc) HSrg.out hbr1
   clear HSrg
   refine hK.out _ _ hS (fun _=>?_)
   clear hK K
   try simp only [pu]
   iterate 2
    apply rg_g;exact Hops;exact rfl;exact hS;iterate 4 exact rfl
    · intro _ hqc;go_simp;try rfl
    try simp only [pu]
   iterate 2
    refine rg_yn Hops rfl hS rfl rfl rfl rfl rfl ?_
    try simp only [pu]
   apply rg_g;exact Hops;exact rfl;exact hS;iterate 4 exact rfl
   · intro _ hqc;go_simp;try rfl
   try simp only [pu]
   apply rg_p;exact Hops;exact rfl;exact hS;exact rfl
   · intro _ hqc;go_simp;try rfl
   try simp only [pu]
   refine rg_done ?_
   refine HQrg.down _ _ ?_
   have hB:Below wc.heap.size wc wr1:=hS
   clear hS HQrg Hops
   go_wp2_with fail
   go_ret
   exact ⟨ret_bool hf.out,bT Bc hB⟩
  case true =>
  rw [h3] at TF
  have HF:=Lib.hid TF
  cases h4:((b.k:Int) == (b.ln.path.length:Int)-2)
  case false =>
   rw [h4] at TL
   have HL:=Lib.hid TL
   have hf:=Lib.hid (show (m == 0)=q by
    have h4':=ne_of_beq_false h4
    rw [← Hf.out,sameArcS,if_neg]
    simp only [chainS,decide_eq_false hk,decide_eq_false h4'];simp)
   clear TF TL TF' TL' h3 h4
   go_upto_region 7 with fail
   refine rg_start (Since wc) (.run 22 0 0 (.call 22 8388607 (.run 3 23 8388607 (.call 26 134217727 (.take 27 268435455 (.take 28 536870911 (.done))))))) (by kernel_rfl) (bD (bR _)) (by kernel_rfl) (by kernel_rfl) (Nat.le_of_ble_eq_true (by kernel_rfl)) ?_
   intro opsR QR Hops HQrg hS
   iterate 7
    apply rg_p;exact Hops;exact rfl;exact hS;exact rfl
    · intro _ hqc;go_simp;try rfl
    try simp only [pu]
   iterate 15
    apply rg_g;exact Hops;exact rfl;exact hS;iterate 4 exact rfl
    · intro _ hqc;go_simp;try rfl
    try simp only [pu]
   refine rg_call (i:=22) (get_of Hops rfl) (fun K hK=>?_)
   have HSrg:=Lib.hid hS;clear hS
   refine rg_run (wanted_yes rfl (get_of Hops rfl) rfl rfl) ?_
   go_simp
   refine (HF.out _).mono ?_
   rintro e wr1 ⟨rfl,hbr1⟩
   have hS:Since wc wr1:=bT (w:=wc) HSrg.out hbr1
   clear HSrg
   refine hK.out _ _ hS (fun _=>?_)
   clear hK K
   try simp only [pu]
   iterate 3
    apply rg_g;exact Hops;exact rfl;exact hS;iterate 4 exact rfl
    · intro _ hqc;go_simp;try rfl
    try simp only [pu]
   refine rg_call (i:=26) (get_of Hops rfl) (fun K hK=>?_)
   have HSrg:=Lib.hid hS;clear hS
   refine rg_run (wanted_yes rfl (get_of Hops rfl) rfl rfl) ?_
   go_simp
   refine (HL.out _ (bT Bc HSrg.out)).mono ?_
   rintro e wr2 ⟨rfl,hbr2⟩
   have hS:Since wc wr2:=bT (w:=wc) HSrg.out hbr2
   clear HSrg
   refine hK.out _ _ hS (fun _=>?_)
   clear hK K
   try simp only [pu]
   apply rg_g;exact Hops;exact rfl;exact hS;iterate 4 exact rfl
   · intro _ hqc;go_simp;try rfl
   try simp only [pu]
   apply rg_p;exact Hops;exact rfl;exact hS;exact rfl
   · intro _ hqc;go_simp;try rfl
   try simp only [pu]
   refine rg_done ?_
   refine HQrg.down _ _ ?_
   have hB:Below wc.heap.size wc wr2:=hS
   clear hS HQrg Hops
   go_wp2_with fail
   go_ret
   exact ⟨ret_bool hf.out,bT Bc hB⟩
  case true =>
   rw [h4] at TL
   have HL:=Lib.hid TL
   have hf:=Lib.hid (show (m == 1)=q by
    have h3':a.k=0:=by have:=eq_of_beq h3;omega
    have h4':=eq_of_beq h4
    rw [← Hf.out,sameArcS,if_pos]
    simp only [chainS,h2,decide_eq_true h3',decide_eq_true h4'];simp)
   clear TF TL TF' TL' h3 h4
   go_upto_region 7 with fail
   refine rg_start (Since wc) (.run 22 0 0 (.call 22 8388607 (.run 3 23 8388607 (.call 26 134217727 (.take 27 268435455 (.take 28 536870911 (.done))))))) (by kernel_rfl) (bD (bR _)) (by kernel_rfl) (by kernel_rfl) (Nat.le_of_ble_eq_true (by kernel_rfl)) ?_
   intro opsR QR Hops HQrg hS
   iterate 7
    apply rg_p;exact Hops;exact rfl;exact hS;exact rfl
    · intro _ hqc;go_simp;try rfl
    try simp only [pu]
   iterate 15
    apply rg_g;exact Hops;exact rfl;exact hS;iterate 4 exact rfl
    · intro _ hqc;go_simp;try rfl
    try simp only [pu]
   refine rg_call (i:=22) (get_of Hops rfl) (fun K hK=>?_)
   have HSrg:=Lib.hid hS;clear hS
   refine rg_run (wanted_yes rfl (get_of Hops rfl) rfl rfl) ?_
   go_simp
   refine (HF.out _).mono ?_
   rintro e wr1 ⟨rfl,hbr1⟩
   have hS:Since wc wr1:=bT (w:=wc) HSrg.out hbr1
   clear HSrg
   refine hK.out _ _ hS (fun _=>?_)
   clear hK K
   try simp only [pu]
   iterate 3
    apply rg_g;exact Hops;exact rfl;exact hS;iterate 4 exact rfl
    · intro _ hqc;go_simp;try rfl
    try simp only [pu]
   refine rg_call (i:=26) (get_of Hops rfl) (fun K hK=>?_)
   have HSrg:=Lib.hid hS;clear hS
   refine rg_run (wanted_yes rfl (get_of Hops rfl) rfl rfl) ?_
   go_simp
   refine (HL.out _ (bT Bc HSrg.out)).mono ?_
   rintro e wr2 ⟨rfl,hbr2⟩
   have hS:Since wc wr2:=bT (w:=wc) HSrg.out hbr2
   clear HSrg
   refine hK.out _ _ hS (fun _=>?_)
   clear hK K
   try simp only [pu]
   apply rg_g;exact Hops;exact rfl;exact hS;iterate 4 exact rfl
   · intro _ hqc;go_simp;try rfl
   try simp only [pu]
   apply rg_p;exact Hops;exact rfl;exact hS;exact rfl
   · intro _ hqc;go_simp;try rfl
   try simp only [pu]
   refine rg_done ?_
   refine HQrg.down _ _ ?_
   have hB:Below wc.heap.size wc wr2:=hS
   clear hS HQrg Hops
   go_wp2_with fail
   go_ret
   exact ⟨ret_bool hf.out,bT Bc hB⟩
end Go.Proofs.YtnhdmghgjngcaaaGreat
namespace Go.Proofs.YtnhdmghgjngcaaaGreat
open Go.RowKit

theorem shared_apart (a b c d:Pt) (h1:a.x<c.x) (h2:a.x<d.x) (h3:b.x<c.x) (h4:b.x<d.x):sharedS a b c d=0:=by
 rw [sharedS_def]
 have hac:bef a c=true:=(bef_iff a c).2 (.inl h1)
 have had:bef a d=true:=(bef_iff a d).2 (.inl h2)
 have hbc:bef b c=true:=(bef_iff b c).2 (.inl h3)
 have hbd:bef b d=true:=(bef_iff b d).2 (.inl h4)
 have hca:=bef_asym hac
 have hda:=bef_asym had
 have hcb:=bef_asym hbc
 have hdb:=bef_asym hbd
 have n1:c≠a:=fun e=>by subst e;omega
 have n2:d≠a:=fun e=>by subst e;omega
 have n3:c≠b:=fun e=>by subst e;omega
 have n4:d≠b:=fun e=>by subst e;omega
 obtain ⟨e1,e2,-⟩ | ⟨e1,e2,-⟩:=lo_hi c d<;>obtain ⟨f1,f2,-⟩ | ⟨f1,f2,-⟩:=lo_hi a b <;>
  rw [e1,e2,f1,f2]<;>simp [hi,lo,hac,had,hbc,hbd,hca,hda,hcb,hdb,n1,n2,n3,n4]

theorem conv_le {n s p q M:Int} (h0:0≤s) (h1:s≤n) (hp:p≤M) (hq:q≤M):n*p+s*(q-p)≤n*M:=by
 have e:n*M-(n*p+s*(q-p))=(n-s)*(M-p)+s*(M-q):=by grind
 have:=Int.mul_nonneg (show 0≤n-s by omega) (show 0≤M-p by omega)
 have:=Int.mul_nonneg h0 (show 0≤M-q by omega)
 omega
theorem conv_ge {n s p q M:Int} (h0:0≤s) (h1:s≤n) (hp:M≤p) (hq:M≤q):n*M≤n*p+s*(q-p):=by
 have e:(n*p+s*(q-p))-n*M=(n-s)*(p-M)+s*(q-M):=by grind
 have:=Int.mul_nonneg (show 0≤n-s by omega) (show 0≤p-M by omega)
 have:=Int.mul_nonneg h0 (show 0≤q-M by omega)
 omega
theorem conv_no {n s u p q r t:Int} (hn:0<n) (h0:0≤s) (h1:s≤n) (h2:0≤u) (h3:u≤n) (hpr:max p q<min r t)
  (e:n*p+s*(q-p)=n*r+u*(t-r)):False:=by
 have l1:=conv_le (p:=p) (q:=q) (M:=max p q) h0 h1 (by omega) (by omega)
 have l2:=conv_ge (p:=r) (q:=t) (M:=min r t) h2 h3 (by omega) (by omega)
 have:n*max p q<n*min r t:=Int.mul_lt_mul_of_pos_left hpr hn
 omega

theorem meet_apart (a b c d:Pt) (h:max a.x b.x<min c.x d.x):meetS a b c d=0:=by
 rw [meetS_eq]
 unfold rmeetS
 split
 case isFalse => rfl
 unfold rmeetN
 have id1:crossS a b c d*a.x+crossS a c c d*(b.x-a.x)=crossS a b c d*c.x+crossS a c a b*(d.x-c.x):=by unfold crossS;grind
 split
 · rfl
 split
 ·
  split
  · exact shared_apart a b c d (by omega) (by omega) (by omega) (by omega)
  · rfl
 split
 ·
  rename_i hn
  split
  ·
   rename_i hh
   obtain ⟨q1,q2,q3,q4⟩:=hh
   exact (conv_no (n:=-crossS a b c d) (s:=-crossS a c c d) (u:=-crossS a c a b) (by omega) q1 q2 q3 q4 h (by
    rw [Int.neg_mul,Int.neg_mul,Int.neg_mul,Int.neg_mul];omega)).elim
  · rfl
 ·
  rename_i h0 hn
  split
  ·
   rename_i hh
   obtain ⟨q1,q2,q3,q4⟩:=hh
   exact (conv_no (n:=crossS a b c d) (s:=crossS a c c d) (u:=crossS a c a b) (by omega) q1 q2 q3 q4 h id1).elim
  · rfl

theorem rmeetS_comm (a b c d:Pt):rmeetS a b c d=rmeetS c d a b:=by
 have hn:nears [a,b,c,d]=nears [c,d,a,b]:=by
  rw [Bool.eq_iff_iff];simp [nears];constructor<;>(rintro ⟨h1,h2,h3,h4⟩;exact ⟨h3,h4,h1,h2⟩)
 unfold rmeetS
 rw [hn]
 split
 case isFalse => rfl
 unfold rmeetN
 have e0:crossS c d a b=- crossS a b c d:=by unfold crossS;grind
 have e1:crossS c a a b=crossS a c a b*(-1):=by unfold crossS;grind
 have e2:crossS c a c d=crossS a c c d*(-1):=by unfold crossS;grind
 have e3:crossS a b c d=- crossS c d a b:=by rw [e0];omega
 by_cases h1:a=b∧c=d∧¬ a=c
 · rw [if_pos h1,if_pos ⟨h1.2.1,h1.1,fun e=>h1.2.2 e.symm⟩]
 rw [if_neg h1,if_neg (show ¬ (c=d∧a=b∧¬ c=a) from fun e=>h1 ⟨e.2.1,e.1,fun e'=>e.2.2 e'.symm⟩)]
 rw [e0,e1,e2]
 by_cases hz:crossS a b c d=0
 ·
  rw [if_pos hz,if_pos (show-crossS a b c d=0 by omega),sharedS_comm a b c d]
  by_cases hh:crossS a b a c=0∧crossS a b a d=0∧crossS c d c a=0∧crossS c d c b=0
  · rw [if_pos hh,if_pos (show crossS c d c a=0∧crossS c d c b=0∧crossS a b a c=0∧crossS a b a d=0 from ⟨hh.2.2.1,hh.2.2.2,hh.1,hh.2.1⟩)]
  · rw [if_neg hh,if_neg (show ¬ (crossS c d c a=0∧crossS c d c b=0∧crossS a b a c=0∧crossS a b a d=0) from fun e=>hh ⟨e.2.2.1,e.2.2.2,e.1,e.2.1⟩)]
 ·
  rw [if_neg hz,if_neg (show ¬ - crossS a b c d=0 by omega)]
  by_cases hneg:crossS a b c d<0
  ·
   rw [if_pos hneg,if_neg (show ¬ - crossS a b c d<0 by omega)]
   congr 1
   simp only [eq_iff_iff]
   omega
  ·
   rw [if_neg hneg,if_pos (show-crossS a b c d<0 by omega)]
   congr 1
   simp only [eq_iff_iff]
   omega
theorem meetS_comm (a b c d:Pt):meetS a b c d=meetS c d a b:=by rw [meetS_eq,meetS_eq,rmeetS_comm]

def Abs.fst (s:Abs):Pt:=s.path.getD s.k pt0
def Abs.snd (s:Abs):Pt:=s.path.getD (s.k+1) pt0
def Abs.west (s:Abs):Int:=min s.fst.x s.snd.x
def Abs.east (s:Abs):Int:=max s.fst.x s.snd.x
def Abs.sg (s:Abs):Sg:=⟨s.arc,s.k,s.path.length-1,s.fst,s.snd⟩
def chainA (a b:Abs):Bool:=decide (a.k+1=b.k) || ((a.arc.fr == a.arc.dst) && decide (a.k=0) && decide ((b.k:Int)=(b.path.length:Int)-2))
def sameArcA (m:Int) (a b:Abs):Bool:=if chainA a b then m == 1 else m == 0
def atNodeA (f:Int→Pt) (s t:Abs) (id:Int):Bool:=(id == t.arc.fr || id == t.arc.dst) && onS s.fst s.snd (f id) && onS t.fst t.snd (f id)
def compatA (f:Int→Pt) (s t:Abs):Bool :=
 if s.arc.id=t.arc.id then (if t.k<s.k then sameArcA (meetS s.fst s.snd t.fst t.snd) t s else sameArcA (meetS s.fst s.snd t.fst t.snd) s t)
 else if meetS s.fst s.snd t.fst t.snd=1 then atNodeA f s t s.arc.fr || atNodeA f s t s.arc.dst
 else meetS s.fst s.snd t.fst t.snd == 0
theorem compat_abs (f:Int→Pt) (s t:PSg):compatS f s t=compatA f s.abs t.abs:=rfl
def freeA (s:Abs) (n:Nd):Bool:=!(onS s.fst s.snd n.pt && !(((s.k:Int) == 0) && (s.arc.fr == n.id)) && !(((s.k:Int) == (s.path.length:Int)-2) && (s.arc.dst == n.id)))
def freeS (s:PSg) (n:Nd):Bool:=freeA s.abs n

def SweepP (f:Int→Pt) (nl:List Nd) (sl:List PSg):Prop :=
 (∀ i j (_:i<j) (hj:j<sl.length),westS sl[j]≤eastS (sl[i]'(by omega))→compatS f (sl[i]'(by omega)) sl[j]=true)∧∀ s∈sl,∀ n∈nl,freeS s n=true

theorem asc_pw (l:List Int) (h:asc l=true):l.Pairwise (· < ·):=by
 have h1:∀ j (hj:j+1<l.length),l[j]<l[j+1]:=fun j hj=>by
  unfold asc at h
  rw [List.all_eq_true] at h
  have:=h j (List.mem_range.2 (by omega))
  simpa [List.getD,List.getElem?_eq_getElem hj,List.getElem?_eq_getElem (show j<l.length by omega)] using this
 have h2:∀ d i (hi:i+d+1<l.length),l[i]'(by omega)<l[i+d+1]:=by
  intro d
  induction d with
  | zero=>intro i hi;exact h1 i hi
  | succ d ih=>intro i hi;have:=ih i (by omega);have:=h1 (i+d+1) (by omega);simp only [Nat.add_assoc] at *;omega
 rw [List.pairwise_iff_getElem]
 intro i j hi hj hij
 have:=h2 (j-i-1) i (by omega)
 simp only [show i+(j-i-1)+1=j by omega] at this
 exact this

theorem triB_iff {α:Type} (l:List α) (f:α→Bool) (g:α→α→Bool):triB l f g=true↔(∀ x∈l,f x=true)∧l.Pairwise (fun s t=>g s t=true):=by
 constructor
 ·
  intro h
  constructor
  ·
   intro x hx
   obtain ⟨i,hi,rfl⟩:=List.mem_iff_getElem.1 hx
   cases hf:f l[i]
   · rw [tri_f l f g i hi hf] at h;cases h
   · rfl
  ·
   rw [List.pairwise_iff_getElem]
   intro k i hk hi hki
   cases hg:g l[k] l[i]
   · rw [tri_g l f g i k hki hi hg] at h;cases h
   · rfl
 ·
  rintro ⟨h1,h2⟩
  rw [List.pairwise_iff_getElem] at h2
  exact tri_ok l f g (fun i hi=>h1 _ (List.getElem_mem hi)) (fun i k hk hi=>h2 k i (by omega) hi hk)

structure Sound (p:Pl):Prop where
 nodes:(p.nodes.map (·.id)).Pairwise (· < ·)
 arcs:(p.arcs.map (·.id)).Pairwise (· < ·)
 ends:∀ a∈p.arcs,hasEnds p a=true

theorem find_uniq {α:Type} (f:α→Int) (l:List α) (h:(l.map f).Pairwise (· < ·)) (a:α) (ha:a∈l):l.find? (fun x=>f x == f a)=some a:=by
 induction l with
 | nil=>cases ha
 | cons b l ih =>
  rw [List.map_cons,List.pairwise_cons] at h
  rcases List.mem_cons.1 ha with rfl | ha'
  · simp
  ·
   have:=h.1 (f a) (List.mem_map_of_mem ha')
   rw [List.find?_cons_of_neg (by simp;omega)]
   exact ih h.2 ha'

theorem Sound.path {p:Pl} (hp:Sound p) {a:Ar} (ha:a∈p.arcs):pathOf p a.id=some (pathS p a):=by
 unfold pathOf findAr
 rw [find_uniq (·.id) p.arcs hp.arcs a ha]
 simp [hp.ends a ha]
theorem Sound.absOf_eq {p:Pl} (hp:Sound p) {a:Ar} (ha:a∈p.arcs):absOf p a=(List.range ((pathS p a).length-1)).map fun k=>⟨a,pathS p a,k⟩:=by
 unfold absOf
 rw [hp.path ha]
 rfl
theorem Sound.mem {p:Pl} (hp:Sound p) {x:Abs} (hx:x∈p.arcs.flatMap (absOf p)):x.arc∈p.arcs∧x.path=pathS p x.arc∧x.k+1<x.path.length:=by
 obtain ⟨a,ha,hx⟩:=List.mem_flatMap.1 hx
 rw [hp.absOf_eq ha] at hx
 obtain ⟨k,hk,rfl⟩:=List.mem_map.1 hx
 have:=List.mem_range.1 hk
 exact ⟨ha,rfl,by show k+1<(pathS p a).length;omega⟩
theorem Sound.node_eq {p:Pl} (hp:Sound p) {x:Nd} (hx:x∈p.nodes):nodeAt p x.id=x.pt:=by
 unfold nodeAt findNd
 rw [find_uniq (·.id) p.nodes hp.nodes x hx]
 rfl
theorem Sound.node_of {p:Pl} (hp:Sound p) {a:Ar} (ha:a∈p.arcs):(∃ x∈p.nodes,x.id=a.fr)∧∃ x∈p.nodes,x.id=a.dst:=by
 have h:=hp.ends a ha
 unfold hasEnds at h
 rw [Bool.and_eq_true] at h
 obtain ⟨h1,h2⟩:=h
 obtain ⟨x,hx⟩:=Option.isSome_iff_exists.1 h1
 obtain ⟨y,hy⟩:=Option.isSome_iff_exists.1 h2
 exact ⟨⟨x,List.mem_of_find?_eq_some hx,by simpa using List.find?_some hx⟩,⟨y,List.mem_of_find?_eq_some hy,by simpa using List.find?_some hy⟩⟩
theorem Sound.segs {p:Pl} (hp:Sound p):segsS p=(p.arcs.flatMap (absOf p)).map Abs.sg:=by
 unfold segsS
 rw [List.map_flatMap]
 have:∀ l:List Ar,(∀ a∈l,a∈p.arcs)→l.flatMap (fun a=>segsOf a (pathS p a))=l.flatMap (fun a=>(absOf p a).map Abs.sg):=by
  intro l
  induction l with
  | nil=>intro _;rfl
  | cons a l ih =>
   intro h
   rw [List.flatMap_cons,List.flatMap_cons,ih (fun b hb=>h b (by simp [hb])),hp.absOf_eq (h a (by simp)),List.map_map]
   rfl
 exact this _ fun a ha=>ha
theorem Sound.pw {p:Pl} (hp:Sound p):(p.arcs.flatMap (absOf p)).Pairwise (fun x y=>x.arc.id=y.arc.id→x.arc=y.arc∧x.k<y.k):=by
 rw [List.pairwise_flatMap]
 constructor
 ·
  intro a ha
  rw [hp.absOf_eq ha,List.pairwise_map]
  exact List.pairwise_lt_range.imp fun h _=>⟨rfl,h⟩
 ·
  have h:=hp.arcs
  rw [List.pairwise_map] at h
  refine (List.Pairwise.and_mem.1 h).imp ?_
  rintro a b ⟨ha,hb,hlt⟩ x hx y hy he
  rw [hp.absOf_eq ha] at hx
  rw [hp.absOf_eq hb] at hy
  obtain ⟨k,-,rfl⟩:=List.mem_map.1 hx
  obtain ⟨m,-,rfl⟩:=List.mem_map.1 hy
  have he':a.id=b.id:=he
  omega

theorem Sound.fst0 {p:Pl} (hp:Sound p) {x:Abs} (hx:x∈p.arcs.flatMap (absOf p)) (h:x.k=0):x.fst=nodeAt p x.arc.fr:=by
 obtain ⟨-,h2,-⟩:=hp.mem hx
 unfold Abs.fst
 rw [h2,h]
 rfl
theorem Sound.sndL {p:Pl} (hp:Sound p) {x:Abs} (hx:x∈p.arcs.flatMap (absOf p)) (h:(x.k:Int)=(x.path.length:Int)-2):x.snd=nodeAt p x.arc.dst:=by
 obtain ⟨-,h2,h3⟩:=hp.mem hx
 unfold Abs.snd
 have:x.k+1=x.arc.via.length+1:=by rw [h2,pathS_length] at h;omega
 rw [h2,this]
 unfold pathS
 rw [List.getD_cons_succ,List.getD_eq_getElem?_getD,List.getElem?_append_right (Nat.le_refl _)]
 simp

theorem Sound.chain {p:Pl} (hp:Sound p) {x y:Abs} (hx:x∈p.arcs.flatMap (absOf p)) (hy:y∈p.arcs.flatMap (absOf p)) (ha:x.arc=y.arc) (hc:chainA x y=true):x.west≤y.east∧y.west≤x.east:=by
 have hpth:x.path=y.path:=by rw [(hp.mem hx).2.1,(hp.mem hy).2.1,ha]
 unfold chainA at hc
 rw [Bool.or_eq_true] at hc
 unfold Abs.west Abs.east
 rcases hc with hc | hc
 ·
  have hk:x.k+1=y.k:=by simpa using hc
  have e:x.snd=y.fst:=by unfold Abs.snd Abs.fst;rw [hpth,hk]
  rw [e];omega
 ·
  simp only [Bool.and_eq_true,decide_eq_true_eq,beq_iff_eq] at hc
  obtain ⟨⟨h1,h2⟩,h3⟩:=hc
  have e:x.fst=y.snd:=by rw [hp.fst0 hx h2,hp.sndL hy h3,h1,ha]
  rw [e];omega

theorem Sound.apart_ok {p:Pl} (hp:Sound p) (f:Int→Pt) {x y:Abs} (hx:x∈p.arcs.flatMap (absOf p)) (hy:y∈p.arcs.flatMap (absOf p)) (hd:x.arc.id=y.arc.id→x.arc=y.arc) (h:x.east<y.west):compatA f x y=true:=by
 have hm:meetS x.fst x.snd y.fst y.snd=0:=meet_apart _ _ _ _ h
 have hle:y.west≤y.east:=by unfold Abs.west Abs.east;omega
 have hle':x.west≤x.east:=by unfold Abs.west Abs.east;omega
 unfold compatA
 rw [hm]
 by_cases hid:x.arc.id=y.arc.id
 ·
  have ha:=hd hid
  rw [if_pos hid]
  have n1:chainA x y=false:=by
   rw [← Bool.not_eq_true];intro hc;have:=hp.chain hx hy ha hc;omega
  have n2:chainA y x=false:=by
   rw [← Bool.not_eq_true];intro hc;have:=hp.chain hy hx ha.symm hc;omega
  simp [sameArcA,n1,n2]
 · simp [hid]

theorem Sound.sym {p:Pl} {x y:Abs} (hd:x.arc.id=y.arc.id→x.k≠y.k):compatA (nodeAt p) x y=compatA (nodeAt p) y x:=by
 unfold compatA
 rw [meetS_comm y.fst y.snd x.fst x.snd]
 by_cases hid:x.arc.id=y.arc.id
 ·
  have hk:=hd hid
  rw [if_pos hid,if_pos hid.symm]
  by_cases hlt:y.k<x.k
  · rw [if_pos hlt,if_neg (show ¬ x.k<y.k by omega)]
  · rw [if_neg hlt,if_pos (show x.k<y.k by omega)]
 ·
  rw [if_neg hid,if_neg (show ¬ y.arc.id=x.arc.id from fun e=>hid e.symm)]
  split
  ·
   rw [Bool.eq_iff_iff]
   simp only [atNodeA,Bool.or_eq_true,Bool.and_eq_true,beq_iff_eq]
   constructor
   · rintro (⟨⟨h1,h2⟩,h3⟩ | ⟨⟨h1,h2⟩,h3⟩)<;>rcases h1 with h1 | h1<;>rw [h1] at h2 h3<;>simp [h1,h2,h3]
   · rintro (⟨⟨h1,h2⟩,h3⟩ | ⟨⟨h1,h2⟩,h3⟩)<;>rcases h1 with h1 | h1<;>rw [h1] at h2 h3<;>simp [h1,h2,h3]
  · rfl

theorem Sound.pair {p:Pl} (hp:Sound p) {x y:Abs} (hx:x∈p.arcs.flatMap (absOf p)) (hy:y∈p.arcs.flatMap (absOf p)) (hd:x.arc.id=y.arc.id→x.arc=y.arc∧x.k<y.k):pairR p x.sg y.sg=compatA (nodeAt p) x y:=by
 obtain ⟨mx,px,kx⟩:=hp.mem hx
 obtain ⟨my,py,ky⟩:=hp.mem hy
 unfold pairR compatA
 show (if x.arc.id=y.arc.id then _ else _)=_
 by_cases hid:x.arc.id=y.arc.id
 ·
  obtain ⟨ha,hk⟩:=hd hid
  rw [if_pos hid,if_pos hid,if_neg (show ¬ y.k<x.k by omega)]
  unfold apartS sameArcA chainA
  rw [meetS_eq]
  show (if y.k=x.k+1∨(x.k=0∧y.k+1=y.path.length-1∧x.arc.fr=x.arc.dst) then rmeetS x.fst x.snd y.fst y.snd == 1 else rmeetS x.fst x.snd y.fst y.snd == 0)=_
  have:(y.k=x.k+1∨(x.k=0∧y.k+1=y.path.length-1∧x.arc.fr=x.arc.dst))↔(decide (x.k+1=y.k) || ((x.arc.fr == x.arc.dst) && decide (x.k=0) && decide ((y.k:Int)=(y.path.length:Int)-2)))=true:=by
   simp only [Bool.or_eq_true,Bool.and_eq_true,decide_eq_true_eq,beq_iff_eq]
   constructor
   ·
    rintro (h | ⟨h1,h2,h3⟩)
    · left;omega
    · right;exact ⟨⟨h3,h1⟩,by omega⟩
   ·
    rintro (h | ⟨⟨h1,h2⟩,h3⟩)
    · left;omega
    · right;exact ⟨h2,by omega,h1⟩
  simp only [this]
 ·
  rw [if_neg hid,if_neg hid]
  unfold joinedS
  rw [meetS_eq]
  show (if rmeetS x.fst x.snd y.fst y.snd=1 then _ else rmeetS x.fst x.snd y.fst y.snd == 0)=_
  split
  ·
   rw [Bool.eq_iff_iff,List.any_eq_true]
   simp only [meetAt,endsS,atNodeA,Bool.or_eq_true,Bool.and_eq_true,beq_iff_eq,Abs.sg,← onS_eq]
   constructor
   ·
    rintro ⟨n,hn,⟨⟨⟨h1,h2⟩,h3⟩,h4⟩⟩
    have hpt:=hp.node_eq hn
    rw [← hpt] at h3 h4
    rcases h1 with h1 | h1
    ·
     left
     rw [h1]
     exact ⟨⟨by rcases h2 with h2 | h2<;>simp [h2],h3⟩,h4⟩
    ·
     right
     rw [h1]
     exact ⟨⟨by rcases h2 with h2 | h2<;>simp [h2],h3⟩,h4⟩
   ·
    obtain ⟨⟨n1,hn1,e1⟩,⟨n2,hn2,e2⟩⟩:=hp.node_of mx
    rintro (⟨⟨h1,h2⟩,h3⟩ | ⟨⟨h1,h2⟩,h3⟩)
    ·
     refine ⟨n1,hn1,⟨⟨⟨.inl e1.symm,by rcases h1 with h1 | h1<;>simp [e1,h1]⟩,?_⟩,?_⟩⟩
     · rw [← hp.node_eq hn1,e1];exact h2
     · rw [← hp.node_eq hn1,e1];exact h3
    ·
     refine ⟨n2,hn2,⟨⟨⟨.inr e2.symm,by rcases h1 with h1 | h1<;>simp [e2,h1]⟩,?_⟩,?_⟩⟩
     · rw [← hp.node_eq hn2,e2];exact h2
     · rw [← hp.node_eq hn2,e2];exact h3
  · rfl

theorem Sound.free {p:Pl} (hp:Sound p) {x:Abs} (hx:x∈p.arcs.flatMap (absOf p)) (n:Nd):freeA x n=offNd x.sg n:=by
 obtain ⟨mx,px,kx⟩:=hp.mem hx
 unfold freeA offNd isEnd
 rw [onS_eq]
 show _=((((x.k:Int) == 0) && (x.arc.fr == n.id)) || (((x.k:Int) == ((x.path.length-1:Nat):Int)-1) && (x.arc.dst == n.id)) || !ronS x.fst x.snd n.pt)
 rw [show ((x.path.length-1:Nat):Int)-1=(x.path.length:Int)-2 by omega]
 cases ronS x.fst x.snd n.pt<;>cases (((x.k:Int) == 0) && (x.arc.fr == n.id))<;>cases (((x.k:Int) == (x.path.length:Int)-2) && (x.arc.dst == n.id))<;>rfl

theorem Sound.arcs_ok {p:Pl} (hp:Sound p):p.arcs.all (arcOk p)=true↔∀ x∈p.arcs.flatMap (absOf p),soundS x.sg=true:=by
 rw [List.all_eq_true]
 constructor
 ·
  intro h x hx
  obtain ⟨mx,px,kx⟩:=hp.mem hx
  have ha:=h _ mx
  unfold arcOk at ha
  rw [hp.path mx] at ha
  simp only [Bool.and_eq_true,Bool.not_eq_true',Bool.and_eq_false_iff,beq_eq_false_iff_ne,decide_eq_false_iff_not] at ha
  obtain ⟨h1,h2⟩:=ha
  rw [← px] at h1 h2
  unfold soundS
  simp only [Bool.and_eq_true,Bool.not_eq_true',decide_eq_false_iff_not,Bool.or_eq_true,bne_iff_ne,decide_eq_true_eq]
  show ¬ x.fst=x.snd∧(x.arc.fr≠x.arc.dst∨3≤((x.path.length-1:Nat):Int))
  constructor
  ·
   intro e
   unfold distinctB at h2
   rw [List.all_eq_true] at h2
   have:=h2 x.k (List.mem_range.2 (by omega))
   simp only [Bool.not_eq_true',decide_eq_false_iff_not] at this
   exact this e
  ·
   rcases h1 with h1 | h1
   · exact .inl h1
   · right;omega
 ·
  intro h a ha
  unfold arcOk
  rw [hp.path ha]
  have hmem:∀ k,k+1<(pathS p a).length→(⟨a,pathS p a,k⟩:Abs)∈p.arcs.flatMap (absOf p):=fun k hk=>by
   refine List.mem_flatMap.2 ⟨a,ha,?_⟩
   rw [hp.absOf_eq ha]
   exact List.mem_map.2 ⟨k,List.mem_range.2 (by omega),rfl⟩
  have hs:∀ k,k+1<(pathS p a).length→¬ (pathS p a).getD k pt0=(pathS p a).getD (k+1) pt0∧(a.fr≠a.dst∨3≤(((pathS p a).length-1:Nat):Int)):=fun k hk=>by
   have:=h _ (hmem k hk)
   unfold soundS at this
   simp only [Bool.and_eq_true,Bool.not_eq_true',decide_eq_false_iff_not,Bool.or_eq_true,bne_iff_ne,decide_eq_true_eq] at this
   exact this
  have hl:=pathS_length p a
  simp only [Bool.and_eq_true,Bool.not_eq_true',Bool.and_eq_false_iff,beq_eq_false_iff_ne,decide_eq_false_iff_not]
  constructor
  ·
   rcases (hs 0 (by omega)).2 with h1 | h1
   · exact .inl h1
   · right;omega
  ·
   unfold distinctB
   rw [List.all_eq_true]
   intro k hk
   have hk:=List.mem_range.1 hk
   simpa using (hs k (by omega)).1

theorem Sound.planar_yes {p:Pl} (hp:Sound p) (hok:p.arcs.all (arcOk p)=true) (sl:List PSg) (hs:(sl.map PSg.abs).Perm (p.arcs.flatMap (absOf p))):SweepP (nodeAt p) p.nodes sl↔planarR p=true:=by
 generalize hL:p.arcs.flatMap (absOf p)=L at *
 have hmemL:∀ {x},x∈L→x∈p.arcs.flatMap (absOf p):=fun h=>by rw [hL];exact h
 have hpw:L.Pairwise (fun x y=>x.arc.id=y.arc.id→x.arc=y.arc∧x.k<y.k):=by rw [← hL];exact hp.pw
 have hdist:L.Pairwise (fun x y=>x.arc.id=y.arc.id→x.arc=y.arc∧x.k≠y.k):=hpw.imp fun h e=>⟨(h e).1,by have:=(h e).2;omega⟩
 have hdistS:(sl.map PSg.abs).Pairwise (fun x y=>x.arc.id=y.arc.id→x.arc=y.arc∧x.k≠y.k) :=
  (hs.pairwise_iff (fun h e=>⟨(h e.symm).1.symm,fun e'=>(h e.symm).2 e'.symm⟩)).2 hdist
 have hmemS:∀ {x},x∈sl.map PSg.abs→x∈p.arcs.flatMap (absOf p):=fun h=>hmemL (hs.mem_iff.1 h)
 let R:Abs→Abs→Prop:=fun x y=>compatA (nodeAt p) x y=true∧compatA (nodeAt p) y x=true
 have h1:(sl.map PSg.abs).Pairwise R↔L.Pairwise R:=hs.pairwise_iff (fun h=>⟨h.2,h.1⟩)
 have h2:L.Pairwise R↔(L.map Abs.sg).Pairwise (fun s t=>pairR p s t=true):=by
  rw [List.pairwise_map,List.pairwise_iff_getElem,List.pairwise_iff_getElem]
  rw [List.pairwise_iff_getElem] at hpw
  constructor
  ·
   intro h i j hi hj hij
   rw [hp.pair (hmemL (List.getElem_mem hi)) (hmemL (List.getElem_mem hj)) (hpw i j hi hj hij)]
   exact (h i j hi hj hij).1
  ·
   intro h i j hi hj hij
   have hh:=h i j hi hj hij
   have ho:=hpw i j hi hj hij
   rw [hp.pair (hmemL (List.getElem_mem hi)) (hmemL (List.getElem_mem hj)) ho] at hh
   refine ⟨hh,?_⟩
   rw [← Sound.sym (p:=p) (fun e=>by have:=(ho e).2;omega)]
   exact hh
 have h3:(∀ i j (_:i<j) (hj:j<sl.length),westS sl[j]≤eastS (sl[i]'(by omega))→compatS (nodeAt p) (sl[i]'(by omega)) sl[j]=true)↔(sl.map PSg.abs).Pairwise R:=by
  rw [List.pairwise_iff_getElem]
  rw [List.pairwise_iff_getElem] at hdistS
  constructor
  ·
   intro h i j hi hj hij
   have hj':j<sl.length:=by simpa using hj
   have mi:=hmemS (List.getElem_mem hi)
   have mj:=hmemS (List.getElem_mem hj)
   have hd:=hdistS i j hi hj hij
   have hc:compatA (nodeAt p) ((sl.map PSg.abs)[i]) ((sl.map PSg.abs)[j])=true:=by
    by_cases hw:westS sl[j]≤eastS (sl[i]'(by omega))
    ·
     have:=h i j hij hj' hw
     rw [compat_abs] at this
     simpa using this
    ·
     refine hp.apart_ok (nodeAt p) mi mj (fun e=>(hd e).1) ?_
     have hlt:eastS (sl[i]'(by omega))<westS sl[j]:=by omega
     rw [List.getElem_map,List.getElem_map]
     exact hlt
   refine ⟨hc,?_⟩
   rw [← Sound.sym (p:=p) (fun e=>(hd e).2)]
   exact hc
  ·
   intro h i j hij hj _
   have:=(h i j (by simp;omega) (by simpa using hj) hij).1
   rw [compat_abs]
   simpa using this
 have h4:(∀ s∈sl,∀ n∈p.nodes,freeS s n=true)↔∀ x∈L,p.nodes.all (offNd x.sg)=true:=by
  constructor
  ·
   intro h x hx
   rw [List.all_eq_true]
   intro n hn
   obtain ⟨s,hs',rfl⟩:=List.mem_map.1 (hs.mem_iff.2 hx)
   rw [← hp.free (hmemL hx)]
   exact h s hs' n hn
  ·
   intro h s hs' n hn
   have hx:=hs.mem_iff.1 (List.mem_map_of_mem (f:=PSg.abs) hs')
   have:=List.all_eq_true.1 (h _ hx) n hn
   unfold freeS
   rw [hp.free (hmemL hx)]
   exact this
 unfold SweepP planarR
 rw [hp.segs,hL,triB_iff,h3,h1,h2,h4,and_comm]
 refine and_congr_left fun _=>?_
 constructor
 ·
  intro h s hs'
  obtain ⟨x,hx,rfl⟩:=List.mem_map.1 hs'
  unfold aloneS
  rw [h x hx,hp.arcs_ok.1 hok x (hmemL hx)]
  rfl
 ·
  intro h x hx
  have:=h _ (List.mem_map_of_mem (f:=Abs.sg) hx)
  unfold aloneS at this
  rw [Bool.and_eq_true] at this
  exact this.1
theorem Sound.planar_no {p:Pl} (hp:Sound p) (hok:p.arcs.all (arcOk p)=false):planarR p=false:=by
 rw [← Bool.not_eq_true]
 intro h
 unfold planarR at h
 rw [triB_iff,hp.segs] at h
 have:p.arcs.all (arcOk p)=true:=hp.arcs_ok.2 fun x hx=>by
  have:=h.1 _ (List.mem_map_of_mem (f:=Abs.sg) hx)
  unfold aloneS at this
  rw [Bool.and_eq_true] at this
  exact this.2
 rw [hok] at this
 cases this

def lastAt (l:List Nd):Int→Pt:=l.foldl (fun f n=>fun i=>if i=n.id then n.pt else f i) (fun _=>z0)
theorem lastAt_succ (l:List Nd) (k:Nat) (hk:k<l.length):lastAt (l.take (k+1))=fun i=>if i=l[k].id then l[k].pt else lastAt (l.take k) i:=by
 unfold lastAt
 rw [List.take_succ_eq_append_getElem hk,List.foldl_append]
 rfl
theorem lastAt_eq (p:Pl) (h:(p.nodes.map (·.id)).Pairwise (· < ·)):lastAt p.nodes=nodeAt p:=by
 unfold nodeAt findNd
 generalize p.nodes=l at *
 have gen:∀ (l:List Nd) (f:Int→Pt),(l.map (·.id)).Pairwise (· < ·)→∀ i,(l.foldl (fun f n=>fun i=>if i=n.id then n.pt else f i) f) i=match l.find? (fun n=>n.id == i) with | some n=>n.pt | none=>f i:=by
  intro l
  induction l with
  | nil=>intro f _ i;rfl
  | cons a l ih =>
   intro f h i
   rw [List.map_cons,List.pairwise_cons] at h
   rw [List.foldl_cons,ih _ h.2]
   by_cases e:a.id=i
   ·
    rw [List.find?_cons_of_pos (by simp [e])]
    have:l.find? (fun n=>n.id == i)=none:=by
     rw [List.find?_eq_none]
     intro x hx
     have:=h.1 x.id (List.mem_map_of_mem hx)
     simp;omega
    rw [this]
    simp [e]
   ·
    rw [List.find?_cons_of_neg (by simp [e])]
    split
    · rfl
    · rw [if_neg (fun e'=>e e'.symm)]
 funext i
 have:=gen l (fun _=>z0) h i
 unfold lastAt
 rw [this]
 cases l.find? (fun n=>n.id == i)<;>rfl
end Go.Proofs.YtnhdmghgjngcaaaGreat
