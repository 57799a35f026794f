import Derived.Test.YtialfdomhoojiaaGreatGB
import Derived.Test.YtialfdomhoojiaaGreatJ04
set_option linter.unusedSimpArgs false
set_option linter.unusedVariables false
namespace Go.Proofs.YtialfdomhoojiaaGreat
open Go.RowKit

set_option maxHeartbeats 400000 in
theorem isNaN_int_spec (x:Int) (w:World):Calls Tryz.prog 111 #[.int .i64 x] w fun e w'=>e=.returned (.bool false)∧w=w':=by
 have hx:(x != x)=false:=by simp
 go_enter Tryz.func111,Tryz.ntmps111
 go_wp2_with fail
 go_ret
 exact ⟨by simp,rfl⟩

def cmpI (x y:Int):Int:=if x<y then -1 else if y<x then 1 else 0
set_option maxHeartbeats 400000 in
theorem Compare_int_spec (x y:Int) (w:World):Calls Tryz.prog 52 #[.int .i64 x,.int .i64 y] w fun e w'=>e=.returned (.int .i64 (cmpI x y))∧w=w':=by
 have HN:=Lib.hid (fun (z:Int) (W:World)=>isNaN_int_spec z W)
 obtain ⟨q,hq⟩:∃ q,cmpI x y=q:=⟨_,rfl⟩
 rw [hq]
 have Hq:=Lib.hid hq;clear hq
 go_enter Tryz.func52,Tryz.ntmps52
 go_wp2_with fail
 refine (HN.out _ _).mono ?_
 rintro e w' ⟨rfl,rfl⟩
 go_wp2_with fail
 refine (HN.out _ _).mono ?_
 rintro e w' ⟨rfl,rfl⟩
 go_wp2_with fail
 all_goals
  go_ret
  refine ⟨ret_int ?_,rfl⟩
  rw [← Hq.out]
  unfold cmpI
  first | rw [if_pos (by assumption)] | (rw [if_neg (by assumption),if_pos (by assumption)]) | (rw [if_neg (by assumption),if_neg (by assumption)]) | (split<;>(try split)<;>omega)

end Go.Proofs.YtialfdomhoojiaaGreat
namespace Go.Proofs.YtialfdomhoojiaaGreat
open Go.RowKit

theorem Compare_int_spec' (x y:Int) (w:World):Calls Tryz.prog 52 #[.int .i64 x,.int .i64 y] w fun e w'=>e=.returned (.int .i64 (cmpI x y))∧BelowD w w' :=
 (Compare_int_spec x y w).mono fun e w' h=>⟨h.1,by rw [← h.2];exact ⟨bR w,dR w⟩⟩

set_option maxRecDepth 100000 in
set_option maxHeartbeats 1000000 in
theorem cmpSeg_spec (s t:PSg) (w:World) (hs:SgOk w s) (ht:SgOk w t) :
  Calls Tryz.prog 227 #[psgV s,psgV t] w fun e w'=>e=.returned (.int .i64 (cmpI (westS s) (westS t)))∧BelowD w w':=by
 have TS:∀ W,Below w.heap.size w W→Calls Tryz.prog 228 #[psgV s] W _:=fun W hW=>west_spec s W (hs.keep hW)
 have TT:∀ W,Below w.heap.size w W→Calls Tryz.prog 228 #[psgV t] W _:=fun W hW=>west_spec t W (ht.keep hW)
 unfold psgV at TS TT ⊢
 have HS:=Lib.hid TS;have HT:=Lib.hid TT
 clear TS TT hs ht
 generalize westS s=x at *
 generalize westS t=y at *
 generalize s.k=k at *
 generalize t.k=m at *
 generalize s.ln.g=g at *
 generalize t.ln.g=h at *
 go_enter Tryz.func227,Tryz.ntmps227
 go_upto_region 1 with fail
 obtain ⟨W,hW⟩:∃ W:World,W=(w.alloc (.cells #[.pointer (some ⟨g,0,none⟩),.int .i64 k] 230)).alloc (.cells #[.pointer (some ⟨h,0,none⟩),.int .i64 m] 230):=⟨_,rfl⟩
 have Bw:Below w.heap.size w W:=by rw [hW];exact bA (bA (bR w) _) _
 have Dw:=Lib.hid (show w.drawn≤W.drawn by rw [hW];exact dA (dA (dR w) _) _)
 have X1:Blk W w.heap.size 230 #[.pointer (some ⟨g,0,none⟩),.int .i64 k]:=by rw [hW];exact (Blk.made rfl _ _).alloc _
 have X2:Blk W (w.heap.size+1) 230 #[.pointer (some ⟨h,0,none⟩),.int .i64 m]:=by rw [hW];exact Blk.made (by simp) _ _
 rw [← hW]
 clear hW
 obtain ⟨X1l,X1a,X1b,-,-⟩:=X1.facts2
 obtain ⟨X2l,X2a,X2b,-,-⟩:=X2.facts2
 refine rg_start (Since W) (.take 0 1 (.take 2 5 (.call 1 7 (.call 3 15 (.call 4 31 (.take 5 63 (.done))))))) (by kernel_rfl) (bD (bR _)) (by kernel_rfl) (by kernel_rfl) (Nat.le_of_ble_eq_true (by kernel_rfl)) ?_
 intro opsR QR Hops HQrg hS
 iterate 2
  apply rg_p;exact Hops;exact rfl;exact hS;exact rfl
  · intro _ hqc;go_simp;try rfl
  try simp only [pu]
 refine rg_call (i:=1) (get_of Hops rfl) (fun K hK=>?_)
 have HSrg:=Lib.hid hS;clear hS
 refine rg_run (wanted_plain rfl) ?_
 go_simp
 refine (HS.out _ (bT Bw HSrg.out)).mono ?_
 rintro e wr1 ⟨rfl,hbr1,hd1⟩
 have hS:Since W wr1:=bT (w:=W) HSrg.out hbr1
 clear HSrg
 refine hK.out _ _ hS (fun _=>?_)
 clear hK K
 try simp only [pu]
 refine rg_call (i:=3) (get_of Hops rfl) (fun K hK=>?_)
 have HSrg:=Lib.hid hS;clear hS
 refine rg_run (wanted_plain rfl) ?_
 go_simp
 refine (HT.out _ (bT Bw HSrg.out)).mono ?_
 rintro e wr2 ⟨rfl,hbr2,hd2⟩
 have hS:Since W wr2:=bT (w:=W) HSrg.out hbr2
 clear HSrg
 refine hK.out _ _ hS (fun _=>?_)
 clear hK K
 try simp only [pu]
 refine rg_call (i:=4) (get_of Hops rfl) (fun K hK=>?_)
 have HSrg:=Lib.hid hS;clear hS
 refine rg_run (wanted_plain rfl) ?_
 go_simp
 refine (Compare_int_spec' x y _).mono ?_
 rintro e wr3 ⟨rfl,hbr3,hd3⟩
 have hS:Since W wr3:=bT (w:=W) HSrg.out hbr3
 clear HSrg
 refine hK.out _ _ hS (fun _=>?_)
 clear hK K
 try simp only [pu]
 apply rg_p;exact Hops;exact rfl;exact hS;exact rfl
 · intro _ hqc;go_simp;try rfl
 try simp only [pu]
 refine rg_done ?_
 refine HQrg.down _ _ ?_
 have hB:Below W.heap.size W wr3:=hS
 clear hS HQrg Hops
 have D3:=Lib.hid (dT (dT (dT (dD Dw.out) hd1) hd2) hd3)
 go_wp2_with fail
 go_ret
 exact ⟨rfl,bT Bw hB,D3.out⟩
end Go.Proofs.YtialfdomhoojiaaGreat
namespace Go.Proofs.YtialfdomhoojiaaGreat
open Go.RowKit

def chainS (a b:PSg):Bool:=decide (a.k+1=b.k) || ((a.ln.arc.fr == a.ln.arc.dst) && decide (a.k=0) && decide ((b.k:Int)=(b.ln.path.length:Int)-2))
def sameArcS (m:Int) (a b:PSg):Bool:=if chainS a b then m == 1 else m == 0
def atNodeS (f:Int→Pt) (s t:PSg) (id:Int):Bool:=(id == t.ln.arc.fr || id == t.ln.arc.dst) && onS s.fst s.snd (f id) && onS t.fst t.snd (f id)
def compatS (f:Int→Pt) (s t:PSg):Bool :=
 if s.ln.arc.id=t.ln.arc.id then (if t.k<s.k then sameArcS (meetS s.fst s.snd t.fst t.snd) t s else sameArcS (meetS s.fst s.snd t.fst t.snd) s t)
 else if meetS s.fst s.snd t.fst t.snd=1 then atNodeS f s t s.ln.arc.fr || atNodeS f s t s.ln.arc.dst
 else meetS s.fst s.snd t.fst t.snd == 0

theorem SgOk.line {w:World} {s:PSg} (h:SgOk w s):Blk w s.ln.g 237 #[.int .i64 s.ln.arc.id,.int .i64 s.ln.arc.fr,.int .i64 s.ln.arc.dst,.slice s.ln.via.a s.ln.via.n s.ln.via.c,.int .i64 s.ln.arc.left,.int .i64 s.ln.arc.right,.slice s.ln.pa s.ln.path.length s.ln.pc]:=h.1.1

set_option maxRecDepth 100000 in
set_option maxHeartbeats 4000000 in
theorem compat_spec (f:Int→Pt) (mb n:Nat) (s t:PSg) (w:World) (hs:SgOk w s) (ht:SgOk w t) (hm:MapPts w mb n f)
  (hw1:wfI s.ln.arc.fr) (hw2:wfI s.ln.arc.dst) :
  Calls Tryz.prog 230 #[psgV s,psgV t,.map (some mb)] w fun e w'=>e=.returned (.bool (compatS f s t))∧Below w.heap.size w w':=by
 have TS:∀ W,Below w.heap.size w W→Calls Tryz.prog 231 #[psgV s] W _:=fun W hW=>ends2_spec s W (hs.keep hW)
 have TT:∀ W,Below w.heap.size w W→Calls Tryz.prog 231 #[psgV t] W _:=fun W hW=>ends2_spec t W (ht.keep hW)
 have TM:∀ W,Calls Tryz.prog 260 #[ptV s.fst,ptV s.snd,ptV t.fst,ptV t.snd] W _:=fun W=>Meet_spec s.fst s.snd t.fst t.snd W
 have TO:∀ p q r:Pt,∀ W,Calls Tryz.prog 28 #[ptV p,ptV q,ptV r] W _:=fun p q r W=>On_spec p q r W
 unfold psgV ptV at TS TT
 unfold ptV at TM TO
 unfold psgV
 have HS:=Lib.hid TS;have HT:=Lib.hid TT;have HM:=Lib.hid TM;have HO:=Lib.hid TO
 have Ks:=Lib.hid hs;have Kt:=Lib.hid ht;have Km:=Lib.hid hm
 have hsk:s.k≤2097152:=by have:=hs.2;omega
 have htk:t.k≤2097152:=by have:=ht.2;omega
 clear TS TT TM TO hs ht hm
 obtain ⟨q,hq⟩:∃ q,compatS f s t=q:=⟨_,rfl⟩
 rw [hq]
 unfold compatS at hq
 have Hq:=Lib.hid hq;clear hq
 go_enter Tryz.func230,Tryz.ntmps230
 go_wp2_with fail
 refine (HS.out _ (bA (bA (bR w) _) _)).mono ?_
 rintro e w1 ⟨rfl,hb1,-⟩
 have Bw:Below w.heap.size w w1:=by
  repeat (first | with_reducible exact bR _ | with_reducible assumption | with_reducible refine bA ?_ _ | with_reducible refine bD ?_ | with_reducible refine bN ?_ _ | ((with_reducible refine bS ?_ ?_ _);rotate_left;(simp;try omega)) | ((with_reducible refine bT ?_ ?_);rotate_left;with_reducible assumption) | with_reducible refine bT ?_ (by assumption))
 have X3:Blk _ (w.heap.size) 230 #[.pointer (some ⟨s.ln.g,0,none⟩),.int .i64 s.k]:=Blk.keep (by repeat (first | exact Blk.made (by simp) _ _ | refine Blk.alloc ?_ _)) hb1
 have X4:Blk _ (w.heap.size+1) 230 #[.pointer (some ⟨t.ln.g,0,none⟩),.int .i64 t.k]:=Blk.keep (by repeat (first | exact Blk.made (by simp) _ _ | refine Blk.alloc ?_ _)) hb1
 clear hb1
 obtain ⟨X3l,X3a,X3b,-,-⟩:=X3.facts2
 obtain ⟨X4l,X4a,X4b,-,-⟩:=X4.facts2
 go_wp2_with fail
 refine (HT.out _ (bA (bA Bw _) _)).mono ?_
 rintro e w2 ⟨rfl,hb2,-⟩
 have X7:Blk w2 w1.heap.size 39 #[.int .i64 s.fst.x,.int .i64 s.fst.y]:=((Blk.made rfl _ _).alloc _).keep hb2
 have X8:Blk w2 (w1.heap.size+1) 39 #[.int .i64 s.snd.x,.int .i64 s.snd.y]:=(Blk.made (by simp) _ _).keep hb2
 replace X3:=((X3.alloc _).alloc _).keep hb2
 replace X4:=((X4.alloc _).alloc _).keep hb2
 replace Bw:=bT (bA (bA Bw _) _) hb2
 clear hb2
 try clear X3l
 try clear X3a
 try clear X3b
 obtain ⟨X3l,X3a,X3b,-,-⟩:=X3.facts2
 try clear X4l
 try clear X4a
 try clear X4b
 obtain ⟨X4l,X4a,X4b,-,-⟩:=X4.facts2
 obtain ⟨X7l,X7a,X7b,-,-⟩:=X7.facts2
 obtain ⟨X8l,X8a,X8b,-,-⟩:=X8.facts2
 go_wp2_with fail
 refine (HM.out _).mono ?_
 rintro e w3 ⟨rfl,hb3⟩
 have X9:Blk w3 w2.heap.size 39 #[.int .i64 t.fst.x,.int .i64 t.fst.y]:=((Blk.made rfl _ _).alloc _).keep hb3
 have X10:Blk w3 (w2.heap.size+1) 39 #[.int .i64 t.snd.x,.int .i64 t.snd.y]:=(Blk.made (by simp) _ _).keep hb3
 replace X3:=((X3.alloc _).alloc _).keep hb3
 replace X4:=((X4.alloc _).alloc _).keep hb3
 replace X7:=((X7.alloc _).alloc _).keep hb3
 replace X8:=((X8.alloc _).alloc _).keep hb3
 replace Bw:=bT (bA (bA Bw _) _) hb3
 clear hb3
 generalize meetS s.fst s.snd t.fst t.snd=m at *
 have Y1:=(Ks.out.keep Bw).line
 have Y2:=(Kt.out.keep Bw).line
 try clear X3l
 try clear X3a
 try clear X3b
 obtain ⟨X3l,X3a,X3b,X3fa,X3fb⟩:=X3.facts2
 try clear X4l
 try clear X4a
 try clear X4b
 obtain ⟨X4l,X4a,X4b,X4fa,X4fb⟩:=X4.facts2
 obtain ⟨Y1l,Y1a,Y1b,Y1c,Y1d,Y1e,Y1f,Y1g,-,-,-,-,-,-,-⟩:=Y1.facts7
 obtain ⟨Y2l,Y2a,Y2b,Y2c,Y2d,Y2e,Y2f,Y2g,-,-,-,-,-,-,-⟩:=Y2.facts7
 go_upto_region 4 with fail
 refine rg_start (Since w3) (.run 13 0 0 (.done)) (by kernel_rfl) (bD (bR _)) (by kernel_rfl) (by kernel_rfl) (Nat.le_of_ble_eq_true (by kernel_rfl)) ?_
 intro opsR QR Hops HQrg hS
 iterate 13
  apply rg_p;exact Hops;exact rfl;exact hS;exact rfl
  · intro _ hqc;go_simp;try rfl
  try simp only [pu]
 refine rg_done ?_
 refine HQrg.down _ _ ?_
 have hB:Below w3.heap.size w3 w3.drew:=hS
 clear hS HQrg Hops
 have Bd:Below w.heap.size w w3.drew:=bD Bw
 clear hB
 by_cases hid:s.ln.arc.id=t.ln.arc.id
 case neg =>
  have hid':(s.ln.arc.id == t.ln.arc.id)=false:=beq_eq_false_iff_ne.2 hid
  have hq:=Hq.out
  rw [if_neg hid] at hq
  replace Hq:=Lib.hid hq
  rw [hid']
  clear hid hq
  by_cases hm1:m=1
  case neg =>
   have hm':(m != 1)=true:=by simpa using hm1
   have hf:=Lib.hid (show (m == 0)=q by rw [← Hq.out,if_neg hm1])
   clear hm1
   go_wp2_with fail
   go_ret
   exact ⟨ret_bool hf.out,Bd⟩
  subst hm1
  have hq:=Hq.out
  rw [if_pos rfl] at hq
  replace Hq:=Lib.hid hq
  clear hq
  go_upto_region 12 with fail
  obtain ⟨w4,hw4⟩:∃ w4:World,w4=w3.drew:=⟨_,rfl⟩
  have hA4:Below w3.heap.size w3 w4:=by rw [hw4];exact bD (bR w3)
  rw [← hw4]
  rw [← hw4] at Bd
  clear hw4
  replace X3:=X3.keep hA4
  replace X4:=X4.keep hA4
  replace X7:=X7.keep hA4
  replace X8:=X8.keep hA4
  replace X9:=X9.keep hA4
  replace X10:=X10.keep hA4
  replace Y1:=Y1.keep hA4
  replace Y2:=Y2.keep hA4
  try clear X3l
  try clear X3a
  try clear X3b
  try clear X3fa
  try clear X3fb
  obtain ⟨X3l,X3a,X3b,-,-⟩:=X3.facts2
  try clear Y1l
  try clear Y1a
  try clear Y1b
  try clear Y1c
  try clear Y1d
  try clear Y1e
  try clear Y1f
  try clear Y1g
  obtain ⟨Y1l,Y1a,Y1b,Y1c,Y1d,Y1e,Y1f,Y1g,-,-,-,-,-,-,-⟩:=Y1.facts7
  refine rg_start (Since w4) (.run 14 0 0 (.done)) (by kernel_rfl) (bD (bR _)) (by kernel_rfl) (by kernel_rfl) (Nat.le_of_ble_eq_true (by kernel_rfl)) ?_
  intro opsR QR Hops HQrg hS
  iterate 14
   apply rg_p;exact Hops;exact rfl;exact hS;exact rfl
   · intro _ hqc;go_simp;try rfl
   try simp only [pu]
  refine rg_done ?_
  refine HQrg.down _ _ ?_
  have hB:Below w4.heap.size w4 w4.drew:=hS
  clear hS HQrg Hops
  have hB4:Below w4.heap.size w4 w4.drew:=bD (bR w4)
  obtain ⟨W,hW⟩:∃ W:World,W=w4.drew:=⟨_,rfl⟩
  rw [← hW]
  rw [← hW] at hB4
  have HBW:=Lib.hid (bT Bd hB4)
  have HX4:=Lib.hid (X4.keep hB4)
  have HX7:=Lib.hid (X7.keep hB4)
  have HX8:=Lib.hid (X8.keep hB4)
  have HX9:=Lib.hid (X9.keep hB4)
  have HX10:=Lib.hid (X10.keep hB4)
  have HY2:=Lib.hid (Y2.keep hB4)
  clear hB hB4 hW hA4 Bw Bd X3 X3l X3a X3b X4 X4l X4a X4b X7 X7l X7a X7b X8 X8l X8a X8b X9 X10 Y1 Y1l Y1a Y1b Y1c Y1d Y1e Y1f Y1g Y2 Y2l Y2a Y2b Y2c Y2d Y2e Y2f Y2g
  go_wp2_with fail
  go_loopw [100] (fun u wx=>∃ j:Int,(j=0∨j=1∨j=2)∧u=.int .i64 j∧Below W.heap.size W wx∧(1≤j→atNodeS f s t s.ln.arc.fr=false)∧(2≤j→atNodeS f s t s.ln.arc.dst=false)) (fun u _=>2-(intOf u).toNat)
  case atStart => exact ⟨0,by omega,rfl,bR W,fun h=>by omega,fun h=>by omega⟩
  case round =>
   obtain ⟨j,hj,rfl,hb,hl,hr⟩:=hrel
   have Hb:=Lib.hid hb
   have Hl:=Lib.hid hl
   have Hr:=Lib.hid hr
   have X4:=HX4.out.keep hb
   have X7:=HX7.out.keep hb
   have X8:=HX8.out.keep hb
   have X9:=HX9.out.keep hb
   have X10:=HX10.out.keep hb
   have Y2:=HY2.out.keep hb
   clear hb hl hr
   try clear X4l
   try clear X4a
   try clear X4b
   try clear X4fa
   try clear X4fb
   obtain ⟨X4l,X4a,X4b,-,-⟩:=X4.facts2
   try clear X7l
   try clear X7a
   try clear X7b
   obtain ⟨X7l,X7a,X7b,-,-⟩:=X7.facts2
   try clear X8l
   try clear X8a
   try clear X8b
   obtain ⟨X8l,X8a,X8b,-,-⟩:=X8.facts2
   obtain ⟨X9l,X9a,X9b,-,-⟩:=X9.facts2
   obtain ⟨X10l,X10a,X10b,-,-⟩:=X10.facts2
   try clear Y2l
   try clear Y2a
   try clear Y2b
   try clear Y2c
   try clear Y2d
   try clear Y2e
   try clear Y2f
   try clear Y2g
   obtain ⟨Y2l,Y2a,Y2b,Y2c,Y2d,Y2e,Y2f,Y2g,-,-,-,-,-,-,-⟩:=Y2.facts7
   rcases hj with rfl | rfl | rfl
   ·
    have hI:∀ w,(Instr.index 116 (.agg #[.int .i64 s.ln.arc.fr,.int .i64 s.ln.arc.dst]) (.int .i64 0)).run Tryz.prog w=.ok (.int .i64 s.ln.arc.fr) w:=fun _=>by kernel_rfl
    have hlk:=(Km.out.keep (bT HBW.out Hb.out)).look s.ln.arc.fr hw1
    unfold ptV at hlk
    cases h1:(s.ln.arc.fr == t.ln.arc.fr)
    case false =>
     cases h2:(s.ln.arc.fr == t.ln.arc.dst)
     case false =>
      have hy:=Lib.hid (show atNodeS f s t s.ln.arc.fr=false by simp [atNodeS,h1,h2])
      go_wp2_with fail
      go_roundw
      case rel => exact ⟨1,by omega,rfl,bA Hb.out _,fun h=>by first | exact hy.out | exact Hl.out (by omega),fun h=>by first | omega | exact hy.out⟩
      case measure => simp [intOf]
     case true =>
      have hc:=Lib.hid (show (s.ln.arc.fr == t.ln.arc.fr || s.ln.arc.fr == t.ln.arc.dst)=true by rw [h2];simp)
      go_wp2_with fail
      refine (HO.out s.fst s.snd (f s.ln.arc.fr) _).mono ?_
      rintro e w5 ⟨rfl,hb5⟩
      have B5:Below W.heap.size W w5:=bT (bA Hb.out _) hb5
      have X14:Blk w5 wr.heap.size 39 #[.int .i64 (f s.ln.arc.fr).x,.int .i64 (f s.ln.arc.fr).y]:=(Blk.made rfl _ _).keep hb5
      clear hb5 X4 X4l X4a X4b Y2 Y2l Y2a Y2b Y2c Y2d Y2e Y2f Y2g X7 X7l X7a X7b X8 X8l X8a X8b X9 X9l X9a X9b X10 X10l X10a X10b hlk
      cases e3:onS s.fst s.snd (f s.ln.arc.fr)
      case false =>
       have hy:=Lib.hid (show atNodeS f s t s.ln.arc.fr=false by simp [atNodeS,e3])
       clear e3
       go_wp2_with fail
       go_roundw
       case rel => exact ⟨1,by omega,rfl,B5,fun h=>by first | exact hy.out | exact Hl.out (by omega),fun h=>by first | omega | exact hy.out⟩
       case measure => simp [intOf]
      have E3:=Lib.hid e3;clear e3
      have X9:=HX9.out.keep B5
      have X10:=HX10.out.keep B5
      try clear X9l
      try clear X9a
      try clear X9b
      obtain ⟨X9l,X9a,X9b,-,-⟩:=X9.facts2
      try clear X10l
      try clear X10a
      try clear X10b
      obtain ⟨X10l,X10a,X10b,-,-⟩:=X10.facts2
      obtain ⟨X14l,X14a,X14b,-,-⟩:=X14.facts2
      go_wp2_with fail
      refine (HO.out t.fst t.snd (f s.ln.arc.fr) _).mono ?_
      rintro e w6 ⟨rfl,hb6⟩
      have B6:Below W.heap.size W w6:=bT B5 hb6
      clear hb6 X14 X14l X14a X14b X9 X9l X9a X9b X10 X10l X10a X10b
      cases e4:onS t.fst t.snd (f s.ln.arc.fr)
      case false =>
       have hy:=Lib.hid (show atNodeS f s t s.ln.arc.fr=false by simp [atNodeS,e4])
       clear e4
       go_wp2_with fail
       go_roundw
       case rel => exact ⟨1,by omega,rfl,B6,fun h=>by first | exact hy.out | exact Hl.out (by omega),fun h=>by first | omega | exact hy.out⟩
       case measure => simp [intOf]
      have hy:=Lib.hid (show atNodeS f s t s.ln.arc.fr=true by simp only [atNodeS,hc.out,E3.out,e4];rfl)
      have hf:=Lib.hid (show true=q by rw [← Hq.out,hy.out];simp)
      clear e4
      go_wp2_with fail
      go_ret
      exact ⟨ret_bool hf.out,bT HBW.out B6⟩
    case true =>
     have hc:=Lib.hid (show (s.ln.arc.fr == t.ln.arc.fr || s.ln.arc.fr == t.ln.arc.dst)=true by rw [h1];simp)
     go_wp2_with fail
     refine (HO.out s.fst s.snd (f s.ln.arc.fr) _).mono ?_
     rintro e w5 ⟨rfl,hb5⟩
     have B5:Below W.heap.size W w5:=bT (bA Hb.out _) hb5
     have X14:Blk w5 wr.heap.size 39 #[.int .i64 (f s.ln.arc.fr).x,.int .i64 (f s.ln.arc.fr).y]:=(Blk.made rfl _ _).keep hb5
     clear hb5 X4 X4l X4a X4b Y2 Y2l Y2a Y2b Y2c Y2d Y2e Y2f Y2g X7 X7l X7a X7b X8 X8l X8a X8b X9 X9l X9a X9b X10 X10l X10a X10b hlk
     cases e3:onS s.fst s.snd (f s.ln.arc.fr)
     case false =>
      have hy:=Lib.hid (show atNodeS f s t s.ln.arc.fr=false by simp [atNodeS,e3])
      clear e3
      go_wp2_with fail
      go_roundw
      case rel => exact ⟨1,by omega,rfl,B5,fun h=>by first | exact hy.out | exact Hl.out (by omega),fun h=>by first | omega | exact hy.out⟩
      case measure => simp [intOf]
     have E3:=Lib.hid e3;clear e3
     have X9:=HX9.out.keep B5
     have X10:=HX10.out.keep B5
     try clear X9l
     try clear X9a
     try clear X9b
     obtain ⟨X9l,X9a,X9b,-,-⟩:=X9.facts2
     try clear X10l
     try clear X10a
     try clear X10b
     obtain ⟨X10l,X10a,X10b,-,-⟩:=X10.facts2
     try clear X14l
     try clear X14a
     try clear X14b
     obtain ⟨X14l,X14a,X14b,-,-⟩:=X14.facts2
     go_wp2_with fail
     refine (HO.out t.fst t.snd (f s.ln.arc.fr) _).mono ?_
     rintro e w6 ⟨rfl,hb6⟩
     have B6:Below W.heap.size W w6:=bT B5 hb6
     clear hb6 X14 X14l X14a X14b X9 X9l X9a X9b X10 X10l X10a X10b
     cases e4:onS t.fst t.snd (f s.ln.arc.fr)
     case false =>
      have hy:=Lib.hid (show atNodeS f s t s.ln.arc.fr=false by simp [atNodeS,e4])
      clear e4
      go_wp2_with fail
      go_roundw
      case rel => exact ⟨1,by omega,rfl,B6,fun h=>by first | exact hy.out | exact Hl.out (by omega),fun h=>by first | omega | exact hy.out⟩
      case measure => simp [intOf]
     have hy:=Lib.hid (show atNodeS f s t s.ln.arc.fr=true by simp only [atNodeS,hc.out,E3.out,e4];rfl)
     have hf:=Lib.hid (show true=q by rw [← Hq.out,hy.out];simp)
     clear e4
     go_wp2_with fail
     go_ret
     exact ⟨ret_bool hf.out,bT HBW.out B6⟩
   ·
    have hI:∀ w,(Instr.index 116 (.agg #[.int .i64 s.ln.arc.fr,.int .i64 s.ln.arc.dst]) (.int .i64 1)).run Tryz.prog w=.ok (.int .i64 s.ln.arc.dst) w:=fun _=>by kernel_rfl
    have hlk:=(Km.out.keep (bT HBW.out Hb.out)).look s.ln.arc.dst hw2
    unfold ptV at hlk
    cases h1:(s.ln.arc.dst == t.ln.arc.fr)
    case false =>
     cases h2:(s.ln.arc.dst == t.ln.arc.dst)
     case false =>
      have hy:=Lib.hid (show atNodeS f s t s.ln.arc.dst=false by simp [atNodeS,h1,h2])
      go_wp2_with fail
      go_roundw
      case rel => exact ⟨2,by omega,rfl,bA Hb.out _,fun h=>by first | exact hy.out | exact Hl.out (by omega),fun h=>by first | omega | exact hy.out⟩
      case measure => simp [intOf]
     case true =>
      have hc:=Lib.hid (show (s.ln.arc.dst == t.ln.arc.fr || s.ln.arc.dst == t.ln.arc.dst)=true by rw [h2];simp)
      go_wp2_with fail
      refine (HO.out s.fst s.snd (f s.ln.arc.dst) _).mono ?_
      rintro e w5 ⟨rfl,hb5⟩
      have B5:Below W.heap.size W w5:=bT (bA Hb.out _) hb5
      have X14:Blk w5 wr.heap.size 39 #[.int .i64 (f s.ln.arc.dst).x,.int .i64 (f s.ln.arc.dst).y]:=(Blk.made rfl _ _).keep hb5
      clear hb5 X4 X4l X4a X4b Y2 Y2l Y2a Y2b Y2c Y2d Y2e Y2f Y2g X7 X7l X7a X7b X8 X8l X8a X8b X9 X9l X9a X9b X10 X10l X10a X10b hlk
      cases e3:onS s.fst s.snd (f s.ln.arc.dst)
      case false =>
       have hy:=Lib.hid (show atNodeS f s t s.ln.arc.dst=false by simp [atNodeS,e3])
       clear e3
       go_wp2_with fail
       go_roundw
       case rel => exact ⟨2,by omega,rfl,B5,fun h=>by first | exact hy.out | exact Hl.out (by omega),fun h=>by first | omega | exact hy.out⟩
       case measure => simp [intOf]
      have E3:=Lib.hid e3;clear e3
      have X9:=HX9.out.keep B5
      have X10:=HX10.out.keep B5
      try clear X9l
      try clear X9a
      try clear X9b
      obtain ⟨X9l,X9a,X9b,-,-⟩:=X9.facts2
      try clear X10l
      try clear X10a
      try clear X10b
      obtain ⟨X10l,X10a,X10b,-,-⟩:=X10.facts2
      try clear X14l
      try clear X14a
      try clear X14b
      obtain ⟨X14l,X14a,X14b,-,-⟩:=X14.facts2
      go_wp2_with fail
      refine (HO.out t.fst t.snd (f s.ln.arc.dst) _).mono ?_
      rintro e w6 ⟨rfl,hb6⟩
      have B6:Below W.heap.size W w6:=bT B5 hb6
      clear hb6 X14 X14l X14a X14b X9 X9l X9a X9b X10 X10l X10a X10b
      cases e4:onS t.fst t.snd (f s.ln.arc.dst)
      case false =>
       have hy:=Lib.hid (show atNodeS f s t s.ln.arc.dst=false by simp [atNodeS,e4])
       clear e4
       go_wp2_with fail
       go_roundw
       case rel => exact ⟨2,by omega,rfl,B6,fun h=>by first | exact hy.out | exact Hl.out (by omega),fun h=>by first | omega | exact hy.out⟩
       case measure => simp [intOf]
      have hy:=Lib.hid (show atNodeS f s t s.ln.arc.dst=true by simp only [atNodeS,hc.out,E3.out,e4];rfl)
      have hf:=Lib.hid (show true=q by rw [← Hq.out,hy.out];simp)
      clear e4
      go_wp2_with fail
      go_ret
      exact ⟨ret_bool hf.out,bT HBW.out B6⟩
    case true =>
     have hc:=Lib.hid (show (s.ln.arc.dst == t.ln.arc.fr || s.ln.arc.dst == t.ln.arc.dst)=true by rw [h1];simp)
     go_wp2_with fail
     refine (HO.out s.fst s.snd (f s.ln.arc.dst) _).mono ?_
     rintro e w5 ⟨rfl,hb5⟩
     have B5:Below W.heap.size W w5:=bT (bA Hb.out _) hb5
     have X14:Blk w5 wr.heap.size 39 #[.int .i64 (f s.ln.arc.dst).x,.int .i64 (f s.ln.arc.dst).y]:=(Blk.made rfl _ _).keep hb5
     clear hb5 X4 X4l X4a X4b Y2 Y2l Y2a Y2b Y2c Y2d Y2e Y2f Y2g X7 X7l X7a X7b X8 X8l X8a X8b X9 X9l X9a X9b X10 X10l X10a X10b hlk
     cases e3:onS s.fst s.snd (f s.ln.arc.dst)
     case false =>
      have hy:=Lib.hid (show atNodeS f s t s.ln.arc.dst=false by simp [atNodeS,e3])
      clear e3
      go_wp2_with fail
      go_roundw
      case rel => exact ⟨2,by omega,rfl,B5,fun h=>by first | exact hy.out | exact Hl.out (by omega),fun h=>by first | omega | exact hy.out⟩
      case measure => simp [intOf]
     have E3:=Lib.hid e3;clear e3
     have X9:=HX9.out.keep B5
     have X10:=HX10.out.keep B5
     try clear X9l
     try clear X9a
     try clear X9b
     obtain ⟨X9l,X9a,X9b,-,-⟩:=X9.facts2
     try clear X10l
     try clear X10a
     try clear X10b
     obtain ⟨X10l,X10a,X10b,-,-⟩:=X10.facts2
     try clear X14l
     try clear X14a
     try clear X14b
     obtain ⟨X14l,X14a,X14b,-,-⟩:=X14.facts2
     go_wp2_with fail
     refine (HO.out t.fst t.snd (f s.ln.arc.dst) _).mono ?_
     rintro e w6 ⟨rfl,hb6⟩
     have B6:Below W.heap.size W w6:=bT B5 hb6
     clear hb6 X14 X14l X14a X14b X9 X9l X9a X9b X10 X10l X10a X10b
     cases e4:onS t.fst t.snd (f s.ln.arc.dst)
     case false =>
      have hy:=Lib.hid (show atNodeS f s t s.ln.arc.dst=false by simp [atNodeS,e4])
      clear e4
      go_wp2_with fail
      go_roundw
      case rel => exact ⟨2,by omega,rfl,B6,fun h=>by first | exact hy.out | exact Hl.out (by omega),fun h=>by first | omega | exact hy.out⟩
      case measure => simp [intOf]
     have hy:=Lib.hid (show atNodeS f s t s.ln.arc.dst=true by simp only [atNodeS,hc.out,E3.out,e4];rfl)
     have hf:=Lib.hid (show true=q by rw [← Hq.out,hy.out];simp)
     clear e4
     go_wp2_with fail
     go_ret
     exact ⟨ret_bool hf.out,bT HBW.out B6⟩
   ·
    have hf:=Lib.hid (show false=q by rw [← Hq.out,Hl.out (by omega),Hr.out (by omega)];rfl)
    go_wp2_with fail
    go_ret
    exact ⟨ret_bool hf.out,bT HBW.out Hb.out⟩
 case pos =>
  have hid':(s.ln.arc.id == t.ln.arc.id)=true:=beq_iff_eq.2 hid
  have hq:=Hq.out
  rw [if_pos hid] at hq
  replace Hq:=Lib.hid hq
  clear hid hq
  clear X7 X7l X7a X7b X8 X8l X8a X8b X9 X10
  go_upto_if 47 with fail
  go_cut [48] (fun u wx=>∃ a b:PSg,SgOk w a∧SgOk w b∧Blk wx w.heap.size 230 #[.pointer (some ⟨a.ln.g,0,none⟩),.int .i64 a.k]∧Blk wx (w.heap.size+1) 230 #[.pointer (some ⟨b.ln.g,0,none⟩),.int .i64 b.k]∧sameArcS m a b=q∧a.k≤2097152∧b.k≤2097152∧Below w.heap.size w wx)
  case first =>
   by_cases hsw:t.k<s.k
   ·
    have hf:=Lib.hid (show sameArcS m t s=q by rw [← Hq.out,if_pos hsw])
    go_wp2_with fail
    go_meet
    case rel =>
     refine ⟨t,s,Kt.out,Ks.out,?_,?_,hf.out,htk,hsk,?_⟩
     · exact ((Blk.put2 (Blk.drew X3)).far (p:=⟨w.heap.size+1,0,none⟩) (by simp) _).far (p:=⟨w.heap.size+1,1,none⟩) (by simp) _
     · exact Blk.put2 (((Blk.drew X4).far (p:=⟨w.heap.size,0,none⟩) (by simp) _).far (p:=⟨w.heap.size,1,none⟩) (by simp) _)
     · exact bS (bS (bS (bS Bd (p:=⟨w.heap.size,0,none⟩) (Nat.le_refl _) _) (p:=⟨w.heap.size,1,none⟩) (Nat.le_refl _) _) (p:=⟨w.heap.size+1,0,none⟩) (Nat.le_succ _) _) (p:=⟨w.heap.size+1,1,none⟩) (Nat.le_succ _) _
   ·
    have hf:=Lib.hid (show sameArcS m s t=q by rw [← Hq.out,if_neg hsw])
    go_wp2_with fail
    go_meet
    case rel => exact ⟨s,t,Ks.out,Kt.out,Blk.drew X3,Blk.drew X4,hf.out,hsk,htk,Bd⟩
  case rest =>
  obtain ⟨a,b,Ka,Kb,X3',X4',hf,ha,hb,Bc⟩:=hcut
  have Hf:=Lib.hid hf
  replace Ka:=Lib.hid Ka
  replace Kb:=Lib.hid Kb
  clear X3 X4 X3l X3a X3b X4l X4a X4b Y1 Y2 Y1l Y1a Y1b Y1c Y1d Y1e Y1f Y1g Y2l Y2a Y2b Y2c Y2d Y2e Y2f Y2g hf Bd Bw
  have Y1:=(Ka.out.keep Bc).line
  try clear X3'l
  try clear X3'a
  try clear X3'b
  try clear X3'fa
  try clear X3'fb
  obtain ⟨X3'l,X3'a,X3'b,-,-⟩:=X3'.facts2
  try clear X4'l
  try clear X4'a
  try clear X4'b
  try clear X4'fa
  try clear X4'fb
  obtain ⟨X4'l,X4'a,X4'b,-,-⟩:=X4'.facts2
  try clear Y1l
  try clear Y1a
  try clear Y1b
  try clear Y1c
  try clear Y1d
  try clear Y1e
  try clear Y1f
  try clear Y1g
  obtain ⟨Y1l,Y1a,Y1b,Y1c,Y1d,Y1e,Y1f,Y1g,-,-,-,-,-,-,-⟩:=Y1.facts7
  have w1e:IntKind.i64.wrap ((a.k:Int)+1)=(a.k:Int)+1:=IntWalk.i64_in _ (by omega)
  have TF:∀ W,Calls Tryz.prog 232 #[psgV a] W _:=fun W=>segfirst_spec a W
  have TL:∀ W,Below w.heap.size w W→Calls Tryz.prog 233 #[psgV b] W _:=fun W hW=>seglast_spec b W (Kb.out.keep hW)
  unfold psgV at TF TL
  have TF':=TF;have TL':=TL
  have q1:0≤(a.k:Int):=by omega
  cases h1:((a.k:Int)+1 == (b.k:Int))
  case true =>
   have hf:=Lib.hid (show (m == 1)=q by
    rw [← Hf.out,sameArcS,if_pos]
    have:=eq_of_beq h1
    simp only [chainS,Bool.or_eq_true,decide_eq_true_eq];left;omega)
   clear TF TL TF' TL'
   go_upto_region 7 with fail
   refine rg_start (Since wc) (.run 29 0 0 (.done)) (by kernel_rfl) (bD (bR _)) (by kernel_rfl) (by kernel_rfl) (Nat.le_of_ble_eq_true (by kernel_rfl)) ?_
   intro opsR QR Hops HQrg hS
   iterate 7
    apply rg_p;exact Hops;exact rfl;exact hS;exact rfl
    · intro _ hqc;go_simp;try rfl
    try simp only [pu]
   iterate 21
    refine rg_yn Hops rfl hS rfl rfl rfl rfl rfl ?_
    try simp only [pu]
   apply rg_p;exact Hops;exact rfl;exact hS;exact rfl
   · intro _ hqc;go_simp;try rfl
   try simp only [pu]
   refine rg_done ?_
   refine HQrg.down _ _ ?_
   have hB:Below wc.heap.size wc wc.drew:=hS
   clear hS HQrg Hops
   go_wp2_with fail
   go_ret
   exact ⟨ret_bool hf.out,bT Bc hB⟩
  case false =>
  have hk:¬ a.k+1=b.k:=by have:=ne_of_beq_false h1;omega
  cases h2:(a.ln.arc.fr == a.ln.arc.dst)
  case false =>
   have hf:=Lib.hid (show (m == 0)=q by
    rw [← Hf.out,sameArcS,if_neg]
    simp only [chainS,h2,decide_eq_false hk];simp)
   clear TF TL TF' TL'
   go_upto_region 7 with fail
   refine rg_start (Since wc) (.run 29 0 0 (.done)) (by kernel_rfl) (bD (bR _)) (by kernel_rfl) (by kernel_rfl) (Nat.le_of_ble_eq_true (by kernel_rfl)) ?_
   intro opsR QR Hops HQrg hS
   iterate 7
    apply rg_p;exact Hops;exact rfl;exact hS;exact rfl
    · intro _ hqc;go_simp;try rfl
    try simp only [pu]
   iterate 14
    apply rg_g;exact Hops;exact rfl;exact hS;iterate 4 exact rfl
    · intro _ hqc;go_simp;try rfl
    try simp only [pu]
   iterate 2
    refine rg_yn Hops rfl hS rfl rfl rfl rfl rfl ?_
    try simp only [pu]
   iterate 2
    apply rg_g;exact Hops;exact rfl;exact hS;iterate 4 exact rfl
    · intro _ hqc;go_simp;try rfl
    try simp only [pu]
   iterate 2
    refine rg_yn Hops rfl hS rfl rfl rfl rfl rfl ?_
    try simp only [pu]
   apply rg_g;exact Hops;exact rfl;exact hS;iterate 4 exact rfl
   · intro _ hqc;go_simp;try rfl
   try simp only [pu]
   apply rg_p;exact Hops;exact rfl;exact hS;exact rfl
   · intro _ hqc;go_simp;try rfl
   try simp only [pu]
   refine rg_done ?_
   refine HQrg.down _ _ ?_
   have hB:Below wc.heap.size wc wc.drew:=hS
   clear hS HQrg Hops
   go_wp2_with fail
   go_ret
   exact ⟨ret_bool hf.out,bT Bc hB⟩
  case true =>
  cases h3:((a.k:Int) == 0)
  case false =>
   rw [h3] at TF
   have HF:=Lib.hid TF
   have hf:=Lib.hid (show (m == 0)=q by
    have h3':¬ a.k=0:=by have:=ne_of_beq_false h3;omega
    rw [← Hf.out,sameArcS,if_neg]
    simp only [chainS,h2,decide_eq_false hk,decide_eq_false h3'];simp)
   clear TF TL TF' TL' h3
   go_upto_region 7 with fail
   refine rg_start (Since wc) (.run 22 0 0 (.call 22 8388607 (.run 6 23 8388607 (.done)))) (by kernel_rfl) (bD (bR _)) (by kernel_rfl) (by kernel_rfl) (Nat.le_of_ble_eq_true (by kernel_rfl)) ?_
   intro opsR QR Hops HQrg hS
   iterate 7
    apply rg_p;exact Hops;exact rfl;exact hS;exact rfl
    · intro _ hqc;go_simp;try rfl
    try simp only [pu]
   iterate 15
    apply rg_g;exact Hops;exact rfl;exact hS;iterate 4 exact rfl
    · intro _ hqc;go_simp;try rfl
    try simp only [pu]
   refine rg_call (i:=22) (get_of Hops rfl) (fun K hK=>?_)
   have HSrg:=Lib.hid hS;clear hS
   refine rg_run (wanted_yes rfl (get_of Hops rfl) rfl rfl) ?_
   go_simp
   refine (HF.out _).mono ?_
   rintro e wr1 ⟨rfl,hbr1⟩
   have hS:Since wc wr1:=bT (w:=wc) HSrg.out hbr1
   clear HSrg
   refine hK.out _ _ hS (fun _=>?_)
   clear hK K
   try simp only [pu]
   iterate 2
    apply rg_g;exact Hops;exact rfl;exact hS;iterate 4 exact rfl
    · intro _ hqc;go_simp;try rfl
    try simp only [pu]
   iterate 2
    refine rg_yn Hops rfl hS rfl rfl rfl rfl rfl ?_
    try simp only [pu]
   apply rg_g;exact Hops;exact rfl;exact hS;iterate 4 exact rfl
   · intro _ hqc;go_simp;try rfl
   try simp only [pu]
   apply rg_p;exact Hops;exact rfl;exact hS;exact rfl
   · intro _ hqc;go_simp;try rfl
   try simp only [pu]
   refine rg_done ?_
   refine HQrg.down _ _ ?_
   have hB:Below wc.heap.size wc wr1:=hS
   clear hS HQrg Hops
   go_wp2_with fail
   go_ret
   exact ⟨ret_bool hf.out,bT Bc hB⟩
  case true =>
  rw [h3] at TF
  have HF:=Lib.hid TF
  cases h4:((b.k:Int) == (b.ln.path.length:Int)-2)
  case false =>
   rw [h4] at TL
   have HL:=Lib.hid TL
   have hf:=Lib.hid (show (m == 0)=q by
    have h4':=ne_of_beq_false h4
    rw [← Hf.out,sameArcS,if_neg]
    simp only [chainS,decide_eq_false hk,decide_eq_false h4'];simp)
   clear TF TL TF' TL' h3 h4
   go_upto_region 7 with fail
   refine rg_start (Since wc) (.run 22 0 0 (.call 22 8388607 (.run 3 23 8388607 (.call 26 134217727 (.take 27 268435455 (.take 28 536870911 (.done))))))) (by kernel_rfl) (bD (bR _)) (by kernel_rfl) (by kernel_rfl) (Nat.le_of_ble_eq_true (by kernel_rfl)) ?_
   intro opsR QR Hops HQrg hS
   iterate 7
    apply rg_p;exact Hops;exact rfl;exact hS;exact rfl
    · intro _ hqc;go_simp;try rfl
    try simp only [pu]
   iterate 15
    apply rg_g;exact Hops;exact rfl;exact hS;iterate 4 exact rfl
    · intro _ hqc;go_simp;try rfl
    try simp only [pu]
   refine rg_call (i:=22) (get_of Hops rfl) (fun K hK=>?_)
   have HSrg:=Lib.hid hS;clear hS
   refine rg_run (wanted_yes rfl (get_of Hops rfl) rfl rfl) ?_
   go_simp
   refine (HF.out _).mono ?_
   rintro e wr1 ⟨rfl,hbr1⟩
   have hS:Since wc wr1:=bT (w:=wc) HSrg.out hbr1
   clear HSrg
   refine hK.out _ _ hS (fun _=>?_)
   clear hK K
   try simp only [pu]
   iterate 3
    apply rg_g;exact Hops;exact rfl;exact hS;iterate 4 exact rfl
    · intro _ hqc;go_simp;try rfl
    try simp only [pu]
   refine rg_call (i:=26) (get_of Hops rfl) (fun K hK=>?_)
   have HSrg:=Lib.hid hS;clear hS
   refine rg_run (wanted_yes rfl (get_of Hops rfl) rfl rfl) ?_
   go_simp
   refine (HL.out _ (bT Bc HSrg.out)).mono ?_
   rintro e wr2 ⟨rfl,hbr2⟩
   have hS:Since wc wr2:=bT (w:=wc) HSrg.out hbr2
   clear HSrg
   refine hK.out _ _ hS (fun _=>?_)
   clear hK K
   try simp only [pu]
   apply rg_g;exact Hops;exact rfl;exact hS;iterate 4 exact rfl
   · intro _ hqc;go_simp;try rfl
   try simp only [pu]
   apply rg_p;exact Hops;exact rfl;exact hS;exact rfl
   · intro _ hqc;go_simp;try rfl
   try simp only [pu]
   refine rg_done ?_
   refine HQrg.down _ _ ?_
   have hB:Below wc.heap.size wc wr2:=hS
   clear hS HQrg Hops
   go_wp2_with fail
   go_ret
   exact ⟨ret_bool hf.out,bT Bc hB⟩
  case true =>
   rw [h4] at TL
   have HL:=Lib.hid TL
   have hf:=Lib.hid (show (m == 1)=q by
    have h3':a.k=0:=by have:=eq_of_beq h3;omega
    have h4':=eq_of_beq h4
    rw [← Hf.out,sameArcS,if_pos]
    simp only [chainS,h2,decide_eq_true h3',decide_eq_true h4'];simp)
   clear TF TL TF' TL' h3 h4
   go_upto_region 7 with fail
   refine rg_start (Since wc) (.run 22 0 0 (.call 22 8388607 (.run 3 23 8388607 (.call 26 134217727 (.take 27 268435455 (.take 28 536870911 (.done))))))) (by kernel_rfl) (bD (bR _)) (by kernel_rfl) (by kernel_rfl) (Nat.le_of_ble_eq_true (by kernel_rfl)) ?_
   intro opsR QR Hops HQrg hS
   iterate 7
    apply rg_p;exact Hops;exact rfl;exact hS;exact rfl
    · intro _ hqc;go_simp;try rfl
    try simp only [pu]
   iterate 15
    apply rg_g;exact Hops;exact rfl;exact hS;iterate 4 exact rfl
    · intro _ hqc;go_simp;try rfl
    try simp only [pu]
   refine rg_call (i:=22) (get_of Hops rfl) (fun K hK=>?_)
   have HSrg:=Lib.hid hS;clear hS
   refine rg_run (wanted_yes rfl (get_of Hops rfl) rfl rfl) ?_
   go_simp
   refine (HF.out _).mono ?_
   rintro e wr1 ⟨rfl,hbr1⟩
   have hS:Since wc wr1:=bT (w:=wc) HSrg.out hbr1
   clear HSrg
   refine hK.out _ _ hS (fun _=>?_)
   clear hK K
   try simp only [pu]
   iterate 3
    apply rg_g;exact Hops;exact rfl;exact hS;iterate 4 exact rfl
    · intro _ hqc;go_simp;try rfl
    try simp only [pu]
   refine rg_call (i:=26) (get_of Hops rfl) (fun K hK=>?_)
   have HSrg:=Lib.hid hS;clear hS
   refine rg_run (wanted_yes rfl (get_of Hops rfl) rfl rfl) ?_
   go_simp
   refine (HL.out _ (bT Bc HSrg.out)).mono ?_
   rintro e wr2 ⟨rfl,hbr2⟩
   have hS:Since wc wr2:=bT (w:=wc) HSrg.out hbr2
   clear HSrg
   refine hK.out _ _ hS (fun _=>?_)
   clear hK K
   try simp only [pu]
   apply rg_g;exact Hops;exact rfl;exact hS;iterate 4 exact rfl
   · intro _ hqc;go_simp;try rfl
   try simp only [pu]
   apply rg_p;exact Hops;exact rfl;exact hS;exact rfl
   · intro _ hqc;go_simp;try rfl
   try simp only [pu]
   refine rg_done ?_
   refine HQrg.down _ _ ?_
   have hB:Below wc.heap.size wc wr2:=hS
   clear hS HQrg Hops
   go_wp2_with fail
   go_ret
   exact ⟨ret_bool hf.out,bT Bc hB⟩
end Go.Proofs.YtialfdomhoojiaaGreat
