import Derived.Test.YtialfdomhoojiaaGreatGB
import Derived.Test.YtialfdomhoojiaaGreatJ04
set_option linter.unusedSimpArgs false
set_option linter.unusedVariables false
namespace Go.Proofs.YtialfdomhoojiaaGreat
open Go.RowKit
set_option maxHeartbeats 400000 in
theorem alf (x:Int) (w:World):Calls Tryz.prog 111 #[.int .i64 x] w fun e w'=>e=.returned (.bool false)/\w=w':=by
 have hx:(x != x)=false:=by simp
 go_enter Tryz.func111,Tryz.ntmps111;go_wp2_with fail;go_ret;exact ⟨by simp,rfl⟩
def lQ (x y:Int):Int:=if x<y then -1 else if y<x then 1 else 0
set_option maxHeartbeats 400000 in
theorem alg (x y:Int) (w:World):Calls Tryz.prog 52 #[.int .i64 x,.int .i64 y] w fun e w'=>e=.returned (.int .i64 (lQ x y))/\w=w':=by
 have HN:=Lib.hid (fun (z:Int) (W:World)=>alf z W);obtain ⟨q,hq⟩:∃ q,lQ x y=q:=⟨_,rfl⟩;rw [hq];have Hq:=Lib.hid hq;clear hq;go_enter Tryz.func52,Tryz.ntmps52;go_wp2_with fail;refine (HN.out _ _).mono ?_;rintro e w' ⟨rfl,rfl⟩;go_wp2_with fail;refine (HN.out _ _).mono ?_;rintro e w' ⟨rfl,rfl⟩;go_wp2_with fail
 all_goals
  go_ret;refine ⟨fZ ?_,rfl⟩;rw [<- Hq.out];unfold lQ
  first | rw [if_pos (by assumption)] | (rw [if_neg (by assumption),if_pos (by assumption)]) | (rw [if_neg (by assumption),if_neg (by assumption)]) | (split<;>(try split)<;>omega)
theorem OL (x y:Int) (w:World):Calls Tryz.prog 52 #[.int .i64 x,.int .i64 y] w fun e w'=>e=.returned (.int .i64 (lQ x y))/\oG w w' :=
 (alg x y w).mono fun e w' h=>⟨h.1,by rw [<- h.2];exact ⟨bR w,dR w⟩⟩
set_option maxRecDepth 100000 in
set_option maxHeartbeats 1000000 in
theorem alh (s t:bY) (w:World) (hs:gX w s) (ht:gX w t) :
  Calls Tryz.prog 227 #[jh s,jh t] w fun e w'=>e=.returned (.int .i64 (lQ (jQ s) (jQ t)))/\oG w w':=by
 have TS:∀ W,Below w.heap.size w W->Calls Tryz.prog 228 #[jh s] W _:=fun W hW=>YT s W (hs.keep hW);have TT:∀ W,Below w.heap.size w W->Calls Tryz.prog 228 #[jh t] W _:=fun W hW=>YT t W (ht.keep hW);unfold jh at TS TT ⊢;have HS:=Lib.hid TS;have HT:=Lib.hid TT;clear TS TT hs ht;generalize jQ s=x at *;generalize jQ t=y at *;generalize s.k=k at *;generalize t.k=m at *;generalize s.ln.g=g at *;generalize t.ln.g=h at *;go_enter Tryz.func227,Tryz.ntmps227;go_upto_region 1 with fail;obtain ⟨W,hW⟩:∃ W:World,W=(w.alloc (.cells #[.pointer (some ⟨g,0,none⟩),.int .i64 k] 230)).alloc (.cells #[.pointer (some ⟨h,0,none⟩),.int .i64 m] 230):=⟨_,rfl⟩;have Bw:Below w.heap.size w W:=by rw [hW];exact bA (bA (bR w) _) _
 have Dw:=Lib.hid (show w.drawn<=W.drawn by rw [hW];exact dA (dA (dR w) _) _);have X1:aj W w.heap.size 230 #[.pointer (some ⟨g,0,none⟩),.int .i64 k]:=by rw [hW];exact (aj.made rfl _ _).alloc _
 have X2:aj W (w.heap.size+1) 230 #[.pointer (some ⟨h,0,none⟩),.int .i64 m]:=by rw [hW];exact aj.made (by simp) _ _
 rw [<- hW];clear hW;obtain ⟨aO,aP,aS,-,-⟩:=X1.bH;obtain ⟨cu,cO,dH,-,-⟩:=X2.bH;refine cZ (Since W) (.take 0 1 (.take 2 5 (.call 1 7 (.call 3 15 (.call 4 31 (.take 5 63 (.done))))))) (by kernel_rfl) (bD (bR _)) (by kernel_rfl) (by kernel_rfl) (Nat.le_of_ble_eq_true (by kernel_rfl)) ?_;intro dn QR au aC hS
 iterate 2
  apply bn;exact au;exact rfl;exact hS;exact rfl
  · intro _ hqc;go_simp;try rfl
  try simp only [pu]
 refine aW (i:=1) (aH au rfl) (fun K hK=>?_);have aA:=Lib.hid hS;clear hS;refine aN (aV rfl) ?_;go_simp;refine (HS.out _ (bT Bw aA.out)).mono ?_;rintro e bC ⟨rfl,bM,hd1⟩;have hS:Since W bC:=bT (w:=W) aA.out bM;clear aA;refine hK.out _ _ hS (fun _=>?_);clear hK K
 try simp only [pu]
 refine aW (i:=3) (aH au rfl) (fun K hK=>?_);have aA:=Lib.hid hS;clear hS;refine aN (aV rfl) ?_;go_simp;refine (HT.out _ (bT Bw aA.out)).mono ?_;rintro e wr2 ⟨rfl,jr,hd2⟩;have hS:Since W wr2:=bT (w:=W) aA.out jr;clear aA;refine hK.out _ _ hS (fun _=>?_);clear hK K
 try simp only [pu]
 refine aW (i:=4) (aH au rfl) (fun K hK=>?_);have aA:=Lib.hid hS;clear hS;refine aN (aV rfl) ?_;go_simp;refine (OL x y _).mono ?_;rintro e wr3 ⟨rfl,uU,hd3⟩;have hS:Since W wr3:=bT (w:=W) aA.out uU;clear aA;refine hK.out _ _ hS (fun _=>?_);clear hK K
 try simp only [pu]
 apply bn;exact au;exact rfl;exact hS;exact rfl
 · intro _ hqc;go_simp;try rfl
 try simp only [pu]
 refine bQ ?_;refine aC.down _ _ ?_;have hB:Below W.heap.size W wr3:=hS;clear hS aC au;have D3:=Lib.hid (dT (dT (dT (dD Dw.out) hd1) hd2) hd3);go_wp2_with fail;go_ret;exact ⟨rfl,bT Bw hB,D3.out⟩
def KJ (a b:bY):Bool:=decide (a.k+1=b.k) || ((a.ln.arc.fr == a.ln.arc.dst) && decide (a.k=0) && decide ((b.k:Int)=(b.ln.path.length:Int)-2))
def CP (m:Int) (a b:bY):Bool:=if KJ a b then m == 1 else m == 0
def jR (f:Int->Pt) (s t:bY) (id:Int):Bool:=(id == t.ln.arc.fr || id == t.ln.arc.dst) && fJ s.fst s.snd (f id) && fJ t.fst t.snd (f id)
def rC (f:Int->Pt) (s t:bY):Bool :=
 if s.ln.arc.id=t.ln.arc.id then (if t.k<s.k then CP (kW s.fst s.snd t.fst t.snd) t s else CP (kW s.fst s.snd t.fst t.snd) s t)
 else if kW s.fst s.snd t.fst t.snd=1 then jR f s t s.ln.arc.fr || jR f s t s.ln.arc.dst
 else kW s.fst s.snd t.fst t.snd == 0
theorem gX.line {w:World} {s:bY} (h:gX w s):aj w s.ln.g 237 #[.int .i64 s.ln.arc.id,.int .i64 s.ln.arc.fr,.int .i64 s.ln.arc.dst,.slice s.ln.via.a s.ln.via.n s.ln.via.c,.int .i64 s.ln.arc.left,.int .i64 s.ln.arc.right,.slice s.ln.pa s.ln.path.length s.ln.pc]:=h.1.1
set_option maxRecDepth 100000 in
set_option maxHeartbeats 4000000 in
theorem ali (f:Int->Pt) (mb n:Nat) (s t:bY) (w:World) (hs:gX w s) (ht:gX w t) (hm:kJ w mb n f)
  (hw1:eG s.ln.arc.fr) (hw2:eG s.ln.arc.dst) :
  Calls Tryz.prog 230 #[jh s,jh t,.map (some mb)] w fun e w'=>e=.returned (.bool (rC f s t))/\Below w.heap.size w w':=by
 have TS:∀ W,Below w.heap.size w W->Calls Tryz.prog 231 #[jh s] W _:=fun W hW=>OD s W (hs.keep hW);have TT:∀ W,Below w.heap.size w W->Calls Tryz.prog 231 #[jh t] W _:=fun W hW=>OD t W (ht.keep hW);have TM:∀ W,Calls Tryz.prog 260 #[bg s.fst,bg s.snd,bg t.fst,bg t.snd] W _:=fun W=>aku s.fst s.snd t.fst t.snd W;have TO:∀ p q r:Pt,∀ W,Calls Tryz.prog 28 #[bg p,bg q,bg r] W _:=fun p q r W=>KC p q r W;unfold jh bg at TS TT;unfold bg at TM TO;unfold jh;have HS:=Lib.hid TS;have HT:=Lib.hid TT;have HM:=Lib.hid TM;have HO:=Lib.hid TO;have Ks:=Lib.hid hs;have Kt:=Lib.hid ht;have Km:=Lib.hid hm;have hsk:s.k<=2097152:=by have:=hs.2;omega
 have htk:t.k<=2097152:=by have:=ht.2;omega
 clear TS TT TM TO hs ht hm;obtain ⟨q,hq⟩:∃ q,rC f s t=q:=⟨_,rfl⟩;rw [hq];unfold rC at hq;have Hq:=Lib.hid hq;clear hq;go_enter Tryz.func230,Tryz.ntmps230;go_wp2_with fail;refine (HS.out _ (bA (bA (bR w) _) _)).mono ?_;rintro e w1 ⟨rfl,hb1,-⟩;have Bw:Below w.heap.size w w1:=by
  repeat (first | with_reducible exact bR _ | with_reducible assumption | with_reducible refine bA ?_ _ | with_reducible refine bD ?_ | with_reducible refine bN ?_ _ | ((with_reducible refine bS ?_ ?_ _);rotate_left;(simp;try omega)) | ((with_reducible refine bT ?_ ?_);rotate_left;with_reducible assumption) | with_reducible refine bT ?_ (by assumption))
 have X3:aj _ (w.heap.size) 230 #[.pointer (some ⟨s.ln.g,0,none⟩),.int .i64 s.k]:=aj.keep (by repeat (first | exact aj.made (by simp) _ _ | refine aj.alloc ?_ _)) hb1;have X4:aj _ (w.heap.size+1) 230 #[.pointer (some ⟨t.ln.g,0,none⟩),.int .i64 t.k]:=aj.keep (by repeat (first | exact aj.made (by simp) _ _ | refine aj.alloc ?_ _)) hb1;clear hb1;obtain ⟨lM,lN,nN,-,-⟩:=X3.bH;obtain ⟨dF,dG,fG,-,-⟩:=X4.bH;go_wp2_with fail;refine (HT.out _ (bA (bA Bw _) _)).mono ?_;rintro e w2 ⟨rfl,hb2,-⟩;have X7:aj w2 w1.heap.size 39 #[.int .i64 s.fst.x,.int .i64 s.fst.y]:=((aj.made rfl _ _).alloc _).keep hb2;have X8:aj w2 (w1.heap.size+1) 39 #[.int .i64 s.snd.x,.int .i64 s.snd.y]:=(aj.made (by simp) _ _).keep hb2;replace X3:=((X3.alloc _).alloc _).keep hb2;replace X4:=((X4.alloc _).alloc _).keep hb2;replace Bw:=bT (bA (bA Bw _) _) hb2;clear hb2
 try clear lM
 try clear lN
 try clear nN
 obtain ⟨lM,lN,nN,-,-⟩:=X3.bH
 try clear dF
 try clear dG
 try clear fG
 obtain ⟨dF,dG,fG,-,-⟩:=X4.bH;obtain ⟨jW,jX,rX,-,-⟩:=X7.bH;obtain ⟨qY,qZ,qF,-,-⟩:=X8.bH;go_wp2_with fail;refine (HM.out _).mono ?_;rintro e w3 ⟨rfl,hb3⟩;have X9:aj w3 w2.heap.size 39 #[.int .i64 t.fst.x,.int .i64 t.fst.y]:=((aj.made rfl _ _).alloc _).keep hb3;have dY:aj w3 (w2.heap.size+1) 39 #[.int .i64 t.snd.x,.int .i64 t.snd.y]:=(aj.made (by simp) _ _).keep hb3;replace X3:=((X3.alloc _).alloc _).keep hb3;replace X4:=((X4.alloc _).alloc _).keep hb3;replace X7:=((X7.alloc _).alloc _).keep hb3;replace X8:=((X8.alloc _).alloc _).keep hb3;replace Bw:=bT (bA (bA Bw _) _) hb3;clear hb3;generalize kW s.fst s.snd t.fst t.snd=m at *;have Y1:=(Ks.out.keep Bw).line;have Y2:=(Kt.out.keep Bw).line
 try clear lM
 try clear lN
 try clear nN
 obtain ⟨lM,lN,nN,FQ,OE⟩:=X3.bH
 try clear dF
 try clear dG
 try clear fG
 obtain ⟨dF,dG,fG,fH,jw⟩:=X4.bH;obtain ⟨KL,KN,KO,KP,KQ,KR,KT,KU,-,-,-,-,-,-,-⟩:=Y1.FP;obtain ⟨FT,FU,FV,FW,FX,FY,FZ,F5,-,-,-,-,-,-,-⟩:=Y2.FP;go_upto_region 4 with fail;refine cZ (Since w3) (.run 13 0 0 (.done)) (by kernel_rfl) (bD (bR _)) (by kernel_rfl) (by kernel_rfl) (Nat.le_of_ble_eq_true (by kernel_rfl)) ?_;intro dn QR au aC hS
 iterate 13
  apply bn;exact au;exact rfl;exact hS;exact rfl
  · intro _ hqc;go_simp;try rfl
  try simp only [pu]
 refine bQ ?_;refine aC.down _ _ ?_;have hB:Below w3.heap.size w3 w3.drew:=hS;clear hS aC au;have Bd:Below w.heap.size w w3.drew:=bD Bw;clear hB;by_cases hid:s.ln.arc.id=t.ln.arc.id
 case neg =>
  have adD:(s.ln.arc.id == t.ln.arc.id)=false:=beq_eq_false_iff_ne.2 hid;have hq:=Hq.out;rw [if_neg hid] at hq;replace Hq:=Lib.hid hq;rw [adD];clear hid hq;by_cases hm1:m=1
  case neg =>
   have hm':(m != 1)=true:=by simpa using hm1
   have hf:=Lib.hid (show (m == 0)=q by rw [<- Hq.out,if_neg hm1]);clear hm1;go_wp2_with fail;go_ret;exact ⟨eu hf.out,Bd⟩
  subst hm1;have hq:=Hq.out;rw [if_pos rfl] at hq;replace Hq:=Lib.hid hq;clear hq;go_upto_region 12 with fail;obtain ⟨w4,hw4⟩:∃ w4:World,w4=w3.drew:=⟨_,rfl⟩;have D7:Below w3.heap.size w3 w4:=by rw [hw4];exact bD (bR w3)
  rw [<- hw4];rw [<- hw4] at Bd;clear hw4;replace X3:=X3.keep D7;replace X4:=X4.keep D7;replace X7:=X7.keep D7;replace X8:=X8.keep D7;replace X9:=X9.keep D7;replace dY:=dY.keep D7;replace Y1:=Y1.keep D7;replace Y2:=Y2.keep D7
  try clear lM
  try clear lN
  try clear nN
  try clear FQ
  try clear OE
  obtain ⟨lM,lN,nN,-,-⟩:=X3.bH
  try clear KL
  try clear KN
  try clear KO
  try clear KP
  try clear KQ
  try clear KR
  try clear KT
  try clear KU
  obtain ⟨KL,KN,KO,KP,KQ,KR,KT,KU,-,-,-,-,-,-,-⟩:=Y1.FP;refine cZ (Since w4) (.run 14 0 0 (.done)) (by kernel_rfl) (bD (bR _)) (by kernel_rfl) (by kernel_rfl) (Nat.le_of_ble_eq_true (by kernel_rfl)) ?_;intro dn QR au aC hS
  iterate 14
   apply bn;exact au;exact rfl;exact hS;exact rfl
   · intro _ hqc;go_simp;try rfl
   try simp only [pu]
  refine bQ ?_;refine aC.down _ _ ?_;have hB:Below w4.heap.size w4 w4.drew:=hS;clear hS aC au;have hB4:Below w4.heap.size w4 w4.drew:=bD (bR w4);obtain ⟨W,hW⟩:∃ W:World,W=w4.drew:=⟨_,rfl⟩;rw [<- hW];rw [<- hW] at hB4;have vX:=Lib.hid (bT Bd hB4);have dI:=Lib.hid (X4.keep hB4);have kX:=Lib.hid (X7.keep hB4);have D8:=Lib.hid (X8.keep hB4);have l9:=Lib.hid (X9.keep hB4);have xO:=Lib.hid (dY.keep hB4);have HY2:=Lib.hid (Y2.keep hB4);clear hB hB4 hW D7 Bw Bd X3 lM lN nN X4 dF dG fG X7 jW jX rX X8 qY qZ qF X9 dY Y1 KL KN KO KP KQ KR KT KU Y2 FT FU FV FW FX FY FZ F5;go_wp2_with fail;go_loopw [100] (fun u wx=>∃ j:Int,(j=0\/j=1\/j=2)/\u=.int .i64 j/\Below W.heap.size W wx/\(1<=j->jR f s t s.ln.arc.fr=false)/\(2<=j->jR f s t s.ln.arc.dst=false)) (fun u _=>2-(intOf u).toNat)
  case atStart => exact ⟨0,by omega,rfl,bR W,fun h=>by omega,fun h=>by omega⟩
  case round =>
   obtain ⟨j,hj,rfl,hb,hl,hr⟩:=hrel;have Hb:=Lib.hid hb;have Hl:=Lib.hid hl;have Hr:=Lib.hid hr;have X4:=dI.out.keep hb;have X7:=kX.out.keep hb;have X8:=D8.out.keep hb;have X9:=l9.out.keep hb;have dY:=xO.out.keep hb;have Y2:=HY2.out.keep hb;clear hb hl hr
   try clear dF
   try clear dG
   try clear fG
   try clear fH
   try clear jw
   obtain ⟨dF,dG,fG,-,-⟩:=X4.bH
   try clear jW
   try clear jX
   try clear rX
   obtain ⟨jW,jX,rX,-,-⟩:=X7.bH
   try clear qY
   try clear qZ
   try clear qF
   obtain ⟨qY,qZ,qF,-,-⟩:=X8.bH;obtain ⟨gy,gG,iP,-,-⟩:=X9.bH;obtain ⟨kL,kM,kN,-,-⟩:=dY.bH
   try clear FT
   try clear FU
   try clear FV
   try clear FW
   try clear FX
   try clear FY
   try clear FZ
   try clear F5
   obtain ⟨FT,FU,FV,FW,FX,FY,FZ,F5,-,-,-,-,-,-,-⟩:=Y2.FP;rcases hj with rfl | rfl | rfl
   ·have hI:∀ w,(Instr.index 116 (.agg #[.int .i64 s.ln.arc.fr,.int .i64 s.ln.arc.dst]) (.int .i64 0)).run Tryz.prog w=.ok (.int .i64 s.ln.arc.fr) w:=fun _=>by kernel_rfl
    have hlk:=(Km.out.keep (bT vX.out Hb.out)).look s.ln.arc.fr hw1;unfold bg at hlk
    cases h1:(s.ln.arc.fr == t.ln.arc.fr)
    case false =>
     cases h2:(s.ln.arc.fr == t.ln.arc.dst)
     case false =>
      have hy:=Lib.hid (show jR f s t s.ln.arc.fr=false by simp [jR,h1,h2]);go_wp2_with fail;go_roundw
      case rel => exact ⟨1,by omega,rfl,bA Hb.out _,fun h=>by first | exact hy.out | exact Hl.out (by omega),fun h=>by first | omega | exact hy.out⟩
      case measure => simp [intOf]
     case true =>
      have hc:=Lib.hid (show (s.ln.arc.fr == t.ln.arc.fr || s.ln.arc.fr == t.ln.arc.dst)=true by rw [h2];simp);go_wp2_with fail;refine (HO.out s.fst s.snd (f s.ln.arc.fr) _).mono ?_;rintro e w5 ⟨rfl,hb5⟩;have B5:Below W.heap.size W w5:=bT (bA Hb.out _) hb5;have xP:aj w5 wr.heap.size 39 #[.int .i64 (f s.ln.arc.fr).x,.int .i64 (f s.ln.arc.fr).y]:=(aj.made rfl _ _).keep hb5;clear hb5 X4 dF dG fG Y2 FT FU FV FW FX FY FZ F5 X7 jW jX rX X8 qY qZ qF X9 gy gG iP dY kL kM kN hlk
      cases e3:fJ s.fst s.snd (f s.ln.arc.fr)
      case false =>
       have hy:=Lib.hid (show jR f s t s.ln.arc.fr=false by simp [jR,e3]);clear e3;go_wp2_with fail;go_roundw
       case rel => exact ⟨1,by omega,rfl,B5,fun h=>by first | exact hy.out | exact Hl.out (by omega),fun h=>by first | omega | exact hy.out⟩
       case measure => simp [intOf]
      have E3:=Lib.hid e3;clear e3;have X9:=l9.out.keep B5;have dY:=xO.out.keep B5
      try clear gy
      try clear gG
      try clear iP
      obtain ⟨gy,gG,iP,-,-⟩:=X9.bH
      try clear kL
      try clear kM
      try clear kN
      obtain ⟨kL,kM,kN,-,-⟩:=dY.bH;obtain ⟨Aw,Az,AA,-,-⟩:=xP.bH;go_wp2_with fail;refine (HO.out t.fst t.snd (f s.ln.arc.fr) _).mono ?_;rintro e w6 ⟨rfl,hb6⟩;have B6:Below W.heap.size W w6:=bT B5 hb6;clear hb6 xP Aw Az AA X9 gy gG iP dY kL kM kN
      cases e4:fJ t.fst t.snd (f s.ln.arc.fr)
      case false =>
       have hy:=Lib.hid (show jR f s t s.ln.arc.fr=false by simp [jR,e4]);clear e4;go_wp2_with fail;go_roundw
       case rel => exact ⟨1,by omega,rfl,B6,fun h=>by first | exact hy.out | exact Hl.out (by omega),fun h=>by first | omega | exact hy.out⟩
       case measure => simp [intOf]
      have hy:=Lib.hid (show jR f s t s.ln.arc.fr=true by simp only [jR,hc.out,E3.out,e4];rfl);have hf:=Lib.hid (show true=q by rw [<- Hq.out,hy.out];simp);clear e4;go_wp2_with fail;go_ret;exact ⟨eu hf.out,bT vX.out B6⟩
    case true =>
     have hc:=Lib.hid (show (s.ln.arc.fr == t.ln.arc.fr || s.ln.arc.fr == t.ln.arc.dst)=true by rw [h1];simp);go_wp2_with fail;refine (HO.out s.fst s.snd (f s.ln.arc.fr) _).mono ?_;rintro e w5 ⟨rfl,hb5⟩;have B5:Below W.heap.size W w5:=bT (bA Hb.out _) hb5;have xP:aj w5 wr.heap.size 39 #[.int .i64 (f s.ln.arc.fr).x,.int .i64 (f s.ln.arc.fr).y]:=(aj.made rfl _ _).keep hb5;clear hb5 X4 dF dG fG Y2 FT FU FV FW FX FY FZ F5 X7 jW jX rX X8 qY qZ qF X9 gy gG iP dY kL kM kN hlk
     cases e3:fJ s.fst s.snd (f s.ln.arc.fr)
     case false =>
      have hy:=Lib.hid (show jR f s t s.ln.arc.fr=false by simp [jR,e3]);clear e3;go_wp2_with fail;go_roundw
      case rel => exact ⟨1,by omega,rfl,B5,fun h=>by first | exact hy.out | exact Hl.out (by omega),fun h=>by first | omega | exact hy.out⟩
      case measure => simp [intOf]
     have E3:=Lib.hid e3;clear e3;have X9:=l9.out.keep B5;have dY:=xO.out.keep B5
     try clear gy
     try clear gG
     try clear iP
     obtain ⟨gy,gG,iP,-,-⟩:=X9.bH
     try clear kL
     try clear kM
     try clear kN
     obtain ⟨kL,kM,kN,-,-⟩:=dY.bH
     try clear Aw
     try clear Az
     try clear AA
     obtain ⟨Aw,Az,AA,-,-⟩:=xP.bH;go_wp2_with fail;refine (HO.out t.fst t.snd (f s.ln.arc.fr) _).mono ?_;rintro e w6 ⟨rfl,hb6⟩;have B6:Below W.heap.size W w6:=bT B5 hb6;clear hb6 xP Aw Az AA X9 gy gG iP dY kL kM kN
     cases e4:fJ t.fst t.snd (f s.ln.arc.fr)
     case false =>
      have hy:=Lib.hid (show jR f s t s.ln.arc.fr=false by simp [jR,e4]);clear e4;go_wp2_with fail;go_roundw
      case rel => exact ⟨1,by omega,rfl,B6,fun h=>by first | exact hy.out | exact Hl.out (by omega),fun h=>by first | omega | exact hy.out⟩
      case measure => simp [intOf]
     have hy:=Lib.hid (show jR f s t s.ln.arc.fr=true by simp only [jR,hc.out,E3.out,e4];rfl);have hf:=Lib.hid (show true=q by rw [<- Hq.out,hy.out];simp);clear e4;go_wp2_with fail;go_ret;exact ⟨eu hf.out,bT vX.out B6⟩
   ·have hI:∀ w,(Instr.index 116 (.agg #[.int .i64 s.ln.arc.fr,.int .i64 s.ln.arc.dst]) (.int .i64 1)).run Tryz.prog w=.ok (.int .i64 s.ln.arc.dst) w:=fun _=>by kernel_rfl
    have hlk:=(Km.out.keep (bT vX.out Hb.out)).look s.ln.arc.dst hw2;unfold bg at hlk
    cases h1:(s.ln.arc.dst == t.ln.arc.fr)
    case false =>
     cases h2:(s.ln.arc.dst == t.ln.arc.dst)
     case false =>
      have hy:=Lib.hid (show jR f s t s.ln.arc.dst=false by simp [jR,h1,h2]);go_wp2_with fail;go_roundw
      case rel => exact ⟨2,by omega,rfl,bA Hb.out _,fun h=>by first | exact hy.out | exact Hl.out (by omega),fun h=>by first | omega | exact hy.out⟩
      case measure => simp [intOf]
     case true =>
      have hc:=Lib.hid (show (s.ln.arc.dst == t.ln.arc.fr || s.ln.arc.dst == t.ln.arc.dst)=true by rw [h2];simp);go_wp2_with fail;refine (HO.out s.fst s.snd (f s.ln.arc.dst) _).mono ?_;rintro e w5 ⟨rfl,hb5⟩;have B5:Below W.heap.size W w5:=bT (bA Hb.out _) hb5;have xP:aj w5 wr.heap.size 39 #[.int .i64 (f s.ln.arc.dst).x,.int .i64 (f s.ln.arc.dst).y]:=(aj.made rfl _ _).keep hb5;clear hb5 X4 dF dG fG Y2 FT FU FV FW FX FY FZ F5 X7 jW jX rX X8 qY qZ qF X9 gy gG iP dY kL kM kN hlk
      cases e3:fJ s.fst s.snd (f s.ln.arc.dst)
      case false =>
       have hy:=Lib.hid (show jR f s t s.ln.arc.dst=false by simp [jR,e3]);clear e3;go_wp2_with fail;go_roundw
       case rel => exact ⟨2,by omega,rfl,B5,fun h=>by first | exact hy.out | exact Hl.out (by omega),fun h=>by first | omega | exact hy.out⟩
       case measure => simp [intOf]
      have E3:=Lib.hid e3;clear e3;have X9:=l9.out.keep B5;have dY:=xO.out.keep B5
      try clear gy
      try clear gG
      try clear iP
      obtain ⟨gy,gG,iP,-,-⟩:=X9.bH
      try clear kL
      try clear kM
      try clear kN
      obtain ⟨kL,kM,kN,-,-⟩:=dY.bH
      try clear Aw
      try clear Az
      try clear AA
      obtain ⟨Aw,Az,AA,-,-⟩:=xP.bH;go_wp2_with fail;refine (HO.out t.fst t.snd (f s.ln.arc.dst) _).mono ?_;rintro e w6 ⟨rfl,hb6⟩;have B6:Below W.heap.size W w6:=bT B5 hb6;clear hb6 xP Aw Az AA X9 gy gG iP dY kL kM kN
      cases e4:fJ t.fst t.snd (f s.ln.arc.dst)
      case false =>
       have hy:=Lib.hid (show jR f s t s.ln.arc.dst=false by simp [jR,e4]);clear e4;go_wp2_with fail;go_roundw
       case rel => exact ⟨2,by omega,rfl,B6,fun h=>by first | exact hy.out | exact Hl.out (by omega),fun h=>by first | omega | exact hy.out⟩
       case measure => simp [intOf]
      have hy:=Lib.hid (show jR f s t s.ln.arc.dst=true by simp only [jR,hc.out,E3.out,e4];rfl);have hf:=Lib.hid (show true=q by rw [<- Hq.out,hy.out];simp);clear e4;go_wp2_with fail;go_ret;exact ⟨eu hf.out,bT vX.out B6⟩
    case true =>
     have hc:=Lib.hid (show (s.ln.arc.dst == t.ln.arc.fr || s.ln.arc.dst == t.ln.arc.dst)=true by rw [h1];simp);go_wp2_with fail;refine (HO.out s.fst s.snd (f s.ln.arc.dst) _).mono ?_;rintro e w5 ⟨rfl,hb5⟩;have B5:Below W.heap.size W w5:=bT (bA Hb.out _) hb5;have xP:aj w5 wr.heap.size 39 #[.int .i64 (f s.ln.arc.dst).x,.int .i64 (f s.ln.arc.dst).y]:=(aj.made rfl _ _).keep hb5;clear hb5 X4 dF dG fG Y2 FT FU FV FW FX FY FZ F5 X7 jW jX rX X8 qY qZ qF X9 gy gG iP dY kL kM kN hlk
     cases e3:fJ s.fst s.snd (f s.ln.arc.dst)
     case false =>
      have hy:=Lib.hid (show jR f s t s.ln.arc.dst=false by simp [jR,e3]);clear e3;go_wp2_with fail;go_roundw
      case rel => exact ⟨2,by omega,rfl,B5,fun h=>by first | exact hy.out | exact Hl.out (by omega),fun h=>by first | omega | exact hy.out⟩
      case measure => simp [intOf]
     have E3:=Lib.hid e3;clear e3;have X9:=l9.out.keep B5;have dY:=xO.out.keep B5
     try clear gy
     try clear gG
     try clear iP
     obtain ⟨gy,gG,iP,-,-⟩:=X9.bH
     try clear kL
     try clear kM
     try clear kN
     obtain ⟨kL,kM,kN,-,-⟩:=dY.bH
     try clear Aw
     try clear Az
     try clear AA
     obtain ⟨Aw,Az,AA,-,-⟩:=xP.bH;go_wp2_with fail;refine (HO.out t.fst t.snd (f s.ln.arc.dst) _).mono ?_;rintro e w6 ⟨rfl,hb6⟩;have B6:Below W.heap.size W w6:=bT B5 hb6;clear hb6 xP Aw Az AA X9 gy gG iP dY kL kM kN
     cases e4:fJ t.fst t.snd (f s.ln.arc.dst)
     case false =>
      have hy:=Lib.hid (show jR f s t s.ln.arc.dst=false by simp [jR,e4]);clear e4;go_wp2_with fail;go_roundw
      case rel => exact ⟨2,by omega,rfl,B6,fun h=>by first | exact hy.out | exact Hl.out (by omega),fun h=>by first | omega | exact hy.out⟩
      case measure => simp [intOf]
     have hy:=Lib.hid (show jR f s t s.ln.arc.dst=true by simp only [jR,hc.out,E3.out,e4];rfl);have hf:=Lib.hid (show true=q by rw [<- Hq.out,hy.out];simp);clear e4;go_wp2_with fail;go_ret;exact ⟨eu hf.out,bT vX.out B6⟩
   ·have hf:=Lib.hid (show false=q by rw [<- Hq.out,Hl.out (by omega),Hr.out (by omega)];rfl);go_wp2_with fail;go_ret;exact ⟨eu hf.out,bT vX.out Hb.out⟩
 case pos =>
  have adD:(s.ln.arc.id == t.ln.arc.id)=true:=beq_iff_eq.2 hid;have hq:=Hq.out;rw [if_pos hid] at hq;replace Hq:=Lib.hid hq;clear hid hq;clear X7 jW jX rX X8 qY qZ qF X9 dY;go_upto_if 47 with fail;go_cut [48] (fun u wx=>∃ a b:bY,gX w a/\gX w b/\aj wx w.heap.size 230 #[.pointer (some ⟨a.ln.g,0,none⟩),.int .i64 a.k]/\aj wx (w.heap.size+1) 230 #[.pointer (some ⟨b.ln.g,0,none⟩),.int .i64 b.k]/\CP m a b=q/\a.k<=2097152/\b.k<=2097152/\Below w.heap.size w wx)
  case first =>
   by_cases hsw:t.k<s.k
   ·have hf:=Lib.hid (show CP m t s=q by rw [<- Hq.out,if_pos hsw]);go_wp2_with fail;go_meet
    case rel =>
     refine ⟨t,s,Kt.out,Ks.out,?_,?_,hf.out,htk,hsk,?_⟩
     · exact ((aj.rW (aj.drew X3)).far (p:=⟨w.heap.size+1,0,none⟩) (by simp) _).far (p:=⟨w.heap.size+1,1,none⟩) (by simp) _
     · exact aj.rW (((aj.drew X4).far (p:=⟨w.heap.size,0,none⟩) (by simp) _).far (p:=⟨w.heap.size,1,none⟩) (by simp) _)
     · exact bS (bS (bS (bS Bd (p:=⟨w.heap.size,0,none⟩) (Nat.le_refl _) _) (p:=⟨w.heap.size,1,none⟩) (Nat.le_refl _) _) (p:=⟨w.heap.size+1,0,none⟩) (Nat.le_succ _) _) (p:=⟨w.heap.size+1,1,none⟩) (Nat.le_succ _) _
   ·have hf:=Lib.hid (show CP m s t=q by rw [<- Hq.out,if_neg hsw]);go_wp2_with fail;go_meet
    case rel => exact ⟨s,t,Ks.out,Kt.out,aj.drew X3,aj.drew X4,hf.out,hsk,htk,Bd⟩
  case rest =>
  obtain ⟨a,b,Ka,Kb,X3',X4',hf,ha,hb,Bc⟩:=hcut;have Hf:=Lib.hid hf;replace Ka:=Lib.hid Ka;replace Kb:=Lib.hid Kb;clear X3 X4 lM lN nN dF dG fG Y1 Y2 KL KN KO KP KQ KR KT KU FT FU FV FW FX FY FZ F5 hf Bd Bw;have Y1:=(Ka.out.keep Bc).line
  try clear alj
  try clear alk
  try clear alm
  try clear auS
  try clear auT
  obtain ⟨alj,alk,alm,-,-⟩:=X3'.bH
  try clear aln
  try clear alp
  try clear alq
  try clear auU
  try clear auV
  obtain ⟨aln,alp,alq,-,-⟩:=X4'.bH
  try clear KL
  try clear KN
  try clear KO
  try clear KP
  try clear KQ
  try clear KR
  try clear KT
  try clear KU
  obtain ⟨KL,KN,KO,KP,KQ,KR,KT,KU,-,-,-,-,-,-,-⟩:=Y1.FP;have TD:IntKind.i64.wrap ((a.k:Int)+1)=(a.k:Int)+1:=IntWalk.i64_in _ (by omega);have TF:∀ W,Calls Tryz.prog 232 #[jh a] W _:=fun W=>adp a W;have TL:∀ W,Below w.heap.size w W->Calls Tryz.prog 233 #[jh b] W _:=fun W hW=>adq b W (Kb.out.keep hW);unfold jh at TF TL;have OM:=TF;have OO:=TL;have q1:0<=(a.k:Int):=by omega
  cases h1:((a.k:Int)+1 == (b.k:Int))
  case true =>
   have hf:=Lib.hid (show (m == 1)=q by
    rw [<- Hf.out,CP,if_pos];have:=eq_of_beq h1
    simp only [KJ,Bool.or_eq_true,decide_eq_true_eq];left;omega)
   clear TF TL OM OO;go_upto_region 7 with fail;refine cZ (Since wc) (.run 29 0 0 (.done)) (by kernel_rfl) (bD (bR _)) (by kernel_rfl) (by kernel_rfl) (Nat.le_of_ble_eq_true (by kernel_rfl)) ?_;intro dn QR au aC hS
   iterate 7
    apply bn;exact au;exact rfl;exact hS;exact rfl
    · intro _ hqc;go_simp;try rfl
    try simp only [pu]
   iterate 21
    refine qB au rfl hS rfl rfl rfl rfl rfl ?_
    try simp only [pu]
   apply bn;exact au;exact rfl;exact hS;exact rfl
   · intro _ hqc;go_simp;try rfl
   try simp only [pu]
   refine bQ ?_;refine aC.down _ _ ?_;have hB:Below wc.heap.size wc wc.drew:=hS;clear hS aC au;go_wp2_with fail;go_ret;exact ⟨eu hf.out,bT Bc hB⟩
  case false =>
  have hk:¬ a.k+1=b.k:=by have:=ne_of_beq_false h1;omega
  cases h2:(a.ln.arc.fr == a.ln.arc.dst)
  case false =>
   have hf:=Lib.hid (show (m == 0)=q by
    rw [<- Hf.out,CP,if_neg];simp only [KJ,h2,decide_eq_false hk];simp)
   clear TF TL OM OO;go_upto_region 7 with fail;refine cZ (Since wc) (.run 29 0 0 (.done)) (by kernel_rfl) (bD (bR _)) (by kernel_rfl) (by kernel_rfl) (Nat.le_of_ble_eq_true (by kernel_rfl)) ?_;intro dn QR au aC hS
   iterate 7
    apply bn;exact au;exact rfl;exact hS;exact rfl
    · intro _ hqc;go_simp;try rfl
    try simp only [pu]
   iterate 14
    apply eF;exact au;exact rfl;exact hS;iterate 4 exact rfl
    · intro _ hqc;go_simp;try rfl
    try simp only [pu]
   iterate 2
    refine qB au rfl hS rfl rfl rfl rfl rfl ?_
    try simp only [pu]
   iterate 2
    apply eF;exact au;exact rfl;exact hS;iterate 4 exact rfl
    · intro _ hqc;go_simp;try rfl
    try simp only [pu]
   iterate 2
    refine qB au rfl hS rfl rfl rfl rfl rfl ?_
    try simp only [pu]
   apply eF;exact au;exact rfl;exact hS;iterate 4 exact rfl
   · intro _ hqc;go_simp;try rfl
   try simp only [pu]
   apply bn;exact au;exact rfl;exact hS;exact rfl
   · intro _ hqc;go_simp;try rfl
   try simp only [pu]
   refine bQ ?_;refine aC.down _ _ ?_;have hB:Below wc.heap.size wc wc.drew:=hS;clear hS aC au;go_wp2_with fail;go_ret;exact ⟨eu hf.out,bT Bc hB⟩
  case true =>
  cases h3:((a.k:Int) == 0)
  case false =>
   rw [h3] at TF;have HF:=Lib.hid TF;have hf:=Lib.hid (show (m == 0)=q by
    have h3':¬ a.k=0:=by have:=ne_of_beq_false h3;omega
    rw [<- Hf.out,CP,if_neg];simp only [KJ,h2,decide_eq_false hk,decide_eq_false h3'];simp)
   clear TF TL OM OO h3;go_upto_region 7 with fail;refine cZ (Since wc) (.run 22 0 0 (.call 22 8388607 (.run 6 23 8388607 (.done)))) (by kernel_rfl) (bD (bR _)) (by kernel_rfl) (by kernel_rfl) (Nat.le_of_ble_eq_true (by kernel_rfl)) ?_;intro dn QR au aC hS
   iterate 7
    apply bn;exact au;exact rfl;exact hS;exact rfl
    · intro _ hqc;go_simp;try rfl
    try simp only [pu]
   iterate 15
    apply eF;exact au;exact rfl;exact hS;iterate 4 exact rfl
    · intro _ hqc;go_simp;try rfl
    try simp only [pu]
   refine aW (i:=22) (aH au rfl) (fun K hK=>?_);have aA:=Lib.hid hS;clear hS;refine aN (mJ rfl (aH au rfl) rfl rfl) ?_;go_simp;refine (HF.out _).mono ?_;rintro e bC ⟨rfl,bM⟩;have hS:Since wc bC:=bT (w:=wc) aA.out bM;clear aA;refine hK.out _ _ hS (fun _=>?_);clear hK K
   try simp only [pu]
   iterate 2
    apply eF;exact au;exact rfl;exact hS;iterate 4 exact rfl
    · intro _ hqc;go_simp;try rfl
    try simp only [pu]
   iterate 2
    refine qB au rfl hS rfl rfl rfl rfl rfl ?_
    try simp only [pu]
   apply eF;exact au;exact rfl;exact hS;iterate 4 exact rfl
   · intro _ hqc;go_simp;try rfl
   try simp only [pu]
   apply bn;exact au;exact rfl;exact hS;exact rfl
   · intro _ hqc;go_simp;try rfl
   try simp only [pu]
   refine bQ ?_;refine aC.down _ _ ?_;have hB:Below wc.heap.size wc bC:=hS;clear hS aC au;go_wp2_with fail;go_ret;exact ⟨eu hf.out,bT Bc hB⟩
  case true =>
  rw [h3] at TF;have HF:=Lib.hid TF
  cases h4:((b.k:Int) == (b.ln.path.length:Int)-2)
  case false =>
   rw [h4] at TL;have HL:=Lib.hid TL;have hf:=Lib.hid (show (m == 0)=q by
    have h4':=ne_of_beq_false h4;rw [<- Hf.out,CP,if_neg];simp only [KJ,decide_eq_false hk,decide_eq_false h4'];simp)
   clear TF TL OM OO h3 h4;go_upto_region 7 with fail;refine cZ (Since wc) (.run 22 0 0 (.call 22 8388607 (.run 3 23 8388607 (.call 26 134217727 (.take 27 268435455 (.take 28 536870911 (.done))))))) (by kernel_rfl) (bD (bR _)) (by kernel_rfl) (by kernel_rfl) (Nat.le_of_ble_eq_true (by kernel_rfl)) ?_;intro dn QR au aC hS
   iterate 7
    apply bn;exact au;exact rfl;exact hS;exact rfl
    · intro _ hqc;go_simp;try rfl
    try simp only [pu]
   iterate 15
    apply eF;exact au;exact rfl;exact hS;iterate 4 exact rfl
    · intro _ hqc;go_simp;try rfl
    try simp only [pu]
   refine aW (i:=22) (aH au rfl) (fun K hK=>?_);have aA:=Lib.hid hS;clear hS;refine aN (mJ rfl (aH au rfl) rfl rfl) ?_;go_simp;refine (HF.out _).mono ?_;rintro e bC ⟨rfl,bM⟩;have hS:Since wc bC:=bT (w:=wc) aA.out bM;clear aA;refine hK.out _ _ hS (fun _=>?_);clear hK K
   try simp only [pu]
   iterate 3
    apply eF;exact au;exact rfl;exact hS;iterate 4 exact rfl
    · intro _ hqc;go_simp;try rfl
    try simp only [pu]
   refine aW (i:=26) (aH au rfl) (fun K hK=>?_);have aA:=Lib.hid hS;clear hS;refine aN (mJ rfl (aH au rfl) rfl rfl) ?_;go_simp;refine (HL.out _ (bT Bc aA.out)).mono ?_;rintro e wr2 ⟨rfl,jr⟩;have hS:Since wc wr2:=bT (w:=wc) aA.out jr;clear aA;refine hK.out _ _ hS (fun _=>?_);clear hK K
   try simp only [pu]
   apply eF;exact au;exact rfl;exact hS;iterate 4 exact rfl
   · intro _ hqc;go_simp;try rfl
   try simp only [pu]
   apply bn;exact au;exact rfl;exact hS;exact rfl
   · intro _ hqc;go_simp;try rfl
   try simp only [pu]
   refine bQ ?_;refine aC.down _ _ ?_;have hB:Below wc.heap.size wc wr2:=hS;clear hS aC au;go_wp2_with fail;go_ret;exact ⟨eu hf.out,bT Bc hB⟩
  case true =>
   rw [h4] at TL;have HL:=Lib.hid TL;have hf:=Lib.hid (show (m == 1)=q by
    have h3':a.k=0:=by have:=eq_of_beq h3;omega
    have h4':=eq_of_beq h4;rw [<- Hf.out,CP,if_pos];simp only [KJ,h2,decide_eq_true h3',decide_eq_true h4'];simp)
   clear TF TL OM OO h3 h4;go_upto_region 7 with fail;refine cZ (Since wc) (.run 22 0 0 (.call 22 8388607 (.run 3 23 8388607 (.call 26 134217727 (.take 27 268435455 (.take 28 536870911 (.done))))))) (by kernel_rfl) (bD (bR _)) (by kernel_rfl) (by kernel_rfl) (Nat.le_of_ble_eq_true (by kernel_rfl)) ?_;intro dn QR au aC hS
   iterate 7
    apply bn;exact au;exact rfl;exact hS;exact rfl
    · intro _ hqc;go_simp;try rfl
    try simp only [pu]
   iterate 15
    apply eF;exact au;exact rfl;exact hS;iterate 4 exact rfl
    · intro _ hqc;go_simp;try rfl
    try simp only [pu]
   refine aW (i:=22) (aH au rfl) (fun K hK=>?_);have aA:=Lib.hid hS;clear hS;refine aN (mJ rfl (aH au rfl) rfl rfl) ?_;go_simp;refine (HF.out _).mono ?_;rintro e bC ⟨rfl,bM⟩;have hS:Since wc bC:=bT (w:=wc) aA.out bM;clear aA;refine hK.out _ _ hS (fun _=>?_);clear hK K
   try simp only [pu]
   iterate 3
    apply eF;exact au;exact rfl;exact hS;iterate 4 exact rfl
    · intro _ hqc;go_simp;try rfl
    try simp only [pu]
   refine aW (i:=26) (aH au rfl) (fun K hK=>?_);have aA:=Lib.hid hS;clear hS;refine aN (mJ rfl (aH au rfl) rfl rfl) ?_;go_simp;refine (HL.out _ (bT Bc aA.out)).mono ?_;rintro e wr2 ⟨rfl,jr⟩;have hS:Since wc wr2:=bT (w:=wc) aA.out jr;clear aA;refine hK.out _ _ hS (fun _=>?_);clear hK K
   try simp only [pu]
   apply eF;exact au;exact rfl;exact hS;iterate 4 exact rfl
   · intro _ hqc;go_simp;try rfl
   try simp only [pu]
   apply bn;exact au;exact rfl;exact hS;exact rfl
   · intro _ hqc;go_simp;try rfl
   try simp only [pu]
   refine bQ ?_;refine aC.down _ _ ?_;have hB:Below wc.heap.size wc wr2:=hS;clear hS aC au;go_wp2_with fail;go_ret;exact ⟨eu hf.out,bT Bc hB⟩
end Go.Proofs.YtialfdomhoojiaaGreat
