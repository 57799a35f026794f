import Derived.Test.YtialfdomhoojiaaGreatGB
import Derived.Test.YtialfdomhoojiaaGreatJ04
set_option linter.unusedSimpArgs false
set_option linter.unusedVariables false
namespace Go.Proofs.YtialfdomhoojiaaGreat
open Go.RowKit
set_option maxHeartbeats 400000 in
theorem aj9 (x:Int) (w:World):Calls Tryz.prog 111 #[.int .i64 x] w fun e w'=>e=.returned (.bool false)/\w=w':=by
 have hx:(x != x)=false:=by simp
 go_enter Tryz.func111,Tryz.ntmps111;go_wp2_with fail;go_ret;exact ⟨by simp,rfl⟩
def lN (x y:Int):Int:=if x<y then -1 else if y<x then 1 else 0
set_option maxHeartbeats 400000 in
theorem akb (x y:Int) (w:World):Calls Tryz.prog 52 #[.int .i64 x,.int .i64 y] w fun e w'=>e=.returned (.int .i64 (lN x y))/\w=w':=by
 have HN:=Lib.hid (fun (z:Int) (W:World)=>aj9 z W);obtain ⟨q,hq⟩:∃ q,lN x y=q:=⟨_,rfl⟩;rw [hq];have Hq:=Lib.hid hq;clear hq;go_enter Tryz.func52,Tryz.ntmps52;go_wp2_with fail;refine (HN.out _ _).mono ?_;rintro e w' ⟨rfl,rfl⟩;go_wp2_with fail;refine (HN.out _ _).mono ?_;rintro e w' ⟨rfl,rfl⟩;go_wp2_with fail
 all_goals
  go_ret;refine ⟨fA ?_,rfl⟩;rw [<- Hq.out];unfold lN
  first | rw [if_pos (by assumption)] | (rw [if_neg (by assumption),if_pos (by assumption)]) | (rw [if_neg (by assumption),if_neg (by assumption)]) | (split<;>(try split)<;>omega)
theorem Nv (x y:Int) (w:World):Calls Tryz.prog 52 #[.int .i64 x,.int .i64 y] w fun e w'=>e=.returned (.int .i64 (lN x y))/\nI w w' :=
 (akb x y w).mono fun e w' h=>⟨h.1,by rw [<- h.2];exact ⟨bR w,dR w⟩⟩
set_option maxRecDepth 100000 in
set_option maxHeartbeats 1000000 in
theorem akc (s t:bP) (w:World) (hs:fK w s) (ht:fK w t) :
  Calls Tryz.prog 227 #[iI s,iI t] w fun e w'=>e=.returned (.int .i64 (lN (jA s) (jA t)))/\nI w w':=by
 have TS:∀ W,Below w.heap.size w W->Calls Tryz.prog 228 #[iI s] W _:=fun W hW=>WV s W (hs.keep hW);have TT:∀ W,Below w.heap.size w W->Calls Tryz.prog 228 #[iI t] W _:=fun W hW=>WV t W (ht.keep hW);unfold iI at TS TT ⊢;have HS:=Lib.hid TS;have HT:=Lib.hid TT;clear TS TT hs ht;generalize jA s=x at *;generalize jA t=y at *;generalize s.k=k at *;generalize t.k=m at *;generalize s.ln.g=g at *;generalize t.ln.g=h at *;go_enter Tryz.func227,Tryz.ntmps227;go_upto_region 1 with fail;obtain ⟨W,hW⟩:∃ W:World,W=(w.alloc (.cells #[.pointer (some ⟨g,0,none⟩),.int .i64 k] 230)).alloc (.cells #[.pointer (some ⟨h,0,none⟩),.int .i64 m] 230):=⟨_,rfl⟩;have Bw:Below w.heap.size w W:=by rw [hW];exact bA (bA (bR w) _) _
 have Dw:=Lib.hid (show w.drawn<=W.drawn by rw [hW];exact dA (dA (dR w) _) _);have X1:aj W w.heap.size 230 #[.pointer (some ⟨g,0,none⟩),.int .i64 k]:=by rw [hW];exact (aj.made rfl _ _).alloc _
 have X2:aj W (w.heap.size+1) 230 #[.pointer (some ⟨h,0,none⟩),.int .i64 m]:=by rw [hW];exact aj.made (by simp) _ _
 rw [<- hW];clear hW;obtain ⟨aI,aJ,aK,-,-⟩:=X1.bI;obtain ⟨gI,gJ,iq,-,-⟩:=X2.bI;refine bZ (Since W) (.take 0 1 (.take 2 5 (.call 1 7 (.call 3 15 (.call 4 31 (.take 5 63 (.done))))))) (by kernel_rfl) (bD (bR _)) (by kernel_rfl) (by kernel_rfl) (Nat.le_of_ble_eq_true (by kernel_rfl)) ?_;intro cO QR ak aC hS
 iterate 2
  apply bg;exact ak;exact rfl;exact hS;exact rfl
  · intro _ hqc;go_simp;try rfl
  try simp only [pu]
 refine aT (i:=1) (aG ak rfl) (fun K hK=>?_);have aA:=Lib.hid hS;clear hS;refine aO (aV rfl) ?_;go_simp;refine (HS.out _ (bT Bw aA.out)).mono ?_;rintro e bH ⟨rfl,bJ,hd1⟩;have hS:Since W bH:=bT (w:=W) aA.out bJ;clear aA;refine hK.out _ _ hS (fun _=>?_);clear hK K
 try simp only [pu]
 refine aT (i:=3) (aG ak rfl) (fun K hK=>?_);have aA:=Lib.hid hS;clear hS;refine aO (aV rfl) ?_;go_simp;refine (HT.out _ (bT Bw aA.out)).mono ?_;rintro e wr2 ⟨rfl,gZ,hd2⟩;have hS:Since W wr2:=bT (w:=W) aA.out gZ;clear aA;refine hK.out _ _ hS (fun _=>?_);clear hK K
 try simp only [pu]
 refine aT (i:=4) (aG ak rfl) (fun K hK=>?_);have aA:=Lib.hid hS;clear hS;refine aO (aV rfl) ?_;go_simp;refine (Nv x y _).mono ?_;rintro e wr3 ⟨rfl,tX,hd3⟩;have hS:Since W wr3:=bT (w:=W) aA.out tX;clear aA;refine hK.out _ _ hS (fun _=>?_);clear hK K
 try simp only [pu]
 apply bg;exact ak;exact rfl;exact hS;exact rfl
 · intro _ hqc;go_simp;try rfl
 try simp only [pu]
 refine bM ?_;refine aC.down _ _ ?_;have hB:Below W.heap.size W wr3:=hS;clear hS aC ak;have D3:=Lib.hid (dT (dT (dT (dD Dw.out) hd1) hd2) hd3);go_wp2_with fail;go_ret;exact ⟨rfl,bT Bw hB,D3.out⟩
def JE (a b:bP):Bool:=decide (a.k+1=b.k) || ((a.ln.arc.fr == a.ln.arc.dst) && decide (a.k=0) && decide ((b.k:Int)=(b.ln.path.length:Int)-2))
def AX (m:Int) (a b:bP):Bool:=if JE a b then m == 1 else m == 0
def jB (f:Int->Pt) (s t:bP) (id:Int):Bool:=(id == t.ln.arc.fr || id == t.ln.arc.dst) && fO s.fst s.snd (f id) && fO t.fst t.snd (f id)
def qN (f:Int->Pt) (s t:bP):Bool :=
 if s.ln.arc.id=t.ln.arc.id then (if t.k<s.k then AX (ku s.fst s.snd t.fst t.snd) t s else AX (ku s.fst s.snd t.fst t.snd) s t)
 else if ku s.fst s.snd t.fst t.snd=1 then jB f s t s.ln.arc.fr || jB f s t s.ln.arc.dst
 else ku s.fst s.snd t.fst t.snd == 0
theorem fK.line {w:World} {s:bP} (h:fK w s):aj w s.ln.g 237 #[.int .i64 s.ln.arc.id,.int .i64 s.ln.arc.fr,.int .i64 s.ln.arc.dst,.slice s.ln.via.a s.ln.via.n s.ln.via.c,.int .i64 s.ln.arc.left,.int .i64 s.ln.arc.right,.slice s.ln.pa s.ln.path.length s.ln.pc]:=h.1.1
set_option maxRecDepth 100000 in
set_option maxHeartbeats 4000000 in
theorem akd (f:Int->Pt) (mb n:Nat) (s t:bP) (w:World) (hs:fK w s) (ht:fK w t) (hm:jT w mb n f)
  (hw1:dP s.ln.arc.fr) (hw2:dP s.ln.arc.dst) :
  Calls Tryz.prog 230 #[iI s,iI t,.map (some mb)] w fun e w'=>e=.returned (.bool (qN f s t))/\Below w.heap.size w w':=by
 have TS:∀ W,Below w.heap.size w W->Calls Tryz.prog 231 #[iI s] W _:=fun W hW=>Nl s W (hs.keep hW);have TT:∀ W,Below w.heap.size w W->Calls Tryz.prog 231 #[iI t] W _:=fun W hW=>Nl t W (ht.keep hW);have TM:∀ W,Calls Tryz.prog 260 #[aZ s.fst,aZ s.snd,aZ t.fst,aZ t.snd] W _:=fun W=>ai2 s.fst s.snd t.fst t.snd W;have TO:∀ p q r:Pt,∀ W,Calls Tryz.prog 28 #[aZ p,aZ q,aZ r] W _:=fun p q r W=>MS p q r W;unfold iI aZ at TS TT;unfold aZ at TM TO;unfold iI;have HS:=Lib.hid TS;have HT:=Lib.hid TT;have HM:=Lib.hid TM;have HO:=Lib.hid TO;have Ks:=Lib.hid hs;have Kt:=Lib.hid ht;have Km:=Lib.hid hm;have hsk:s.k<=2097152:=by have:=hs.2;omega
 have htk:t.k<=2097152:=by have:=ht.2;omega
 clear TS TT TM TO hs ht hm;obtain ⟨q,hq⟩:∃ q,qN f s t=q:=⟨_,rfl⟩;rw [hq];unfold qN at hq;have Hq:=Lib.hid hq;clear hq;go_enter Tryz.func230,Tryz.ntmps230;go_wp2_with fail;refine (HS.out _ (bA (bA (bR w) _) _)).mono ?_;rintro e w1 ⟨rfl,hb1,-⟩;have Bw:Below w.heap.size w w1:=by
  repeat (first | with_reducible exact bR _ | with_reducible assumption | with_reducible refine bA ?_ _ | with_reducible refine bD ?_ | with_reducible refine bN ?_ _ | ((with_reducible refine bS ?_ ?_ _);rotate_left;(simp;try omega)) | ((with_reducible refine bT ?_ ?_);rotate_left;with_reducible assumption) | with_reducible refine bT ?_ (by assumption))
 have X3:aj _ (w.heap.size) 230 #[.pointer (some ⟨s.ln.g,0,none⟩),.int .i64 s.k]:=aj.keep (by repeat (first | exact aj.made (by simp) _ _ | refine aj.alloc ?_ _)) hb1;have X4:aj _ (w.heap.size+1) 230 #[.pointer (some ⟨t.ln.g,0,none⟩),.int .i64 t.k]:=aj.keep (by repeat (first | exact aj.made (by simp) _ _ | refine aj.alloc ?_ _)) hb1;clear hb1;obtain ⟨kU,kV,mO,-,-⟩:=X3.bI;obtain ⟨cZ,dh,eF,-,-⟩:=X4.bI;go_wp2_with fail;refine (HT.out _ (bA (bA Bw _) _)).mono ?_;rintro e w2 ⟨rfl,hb2,-⟩;have X7:aj w2 w1.heap.size 39 #[.int .i64 s.fst.x,.int .i64 s.fst.y]:=((aj.made rfl _ _).alloc _).keep hb2;have X8:aj w2 (w1.heap.size+1) 39 #[.int .i64 s.snd.x,.int .i64 s.snd.y]:=(aj.made (by simp) _ _).keep hb2;replace X3:=((X3.alloc _).alloc _).keep hb2;replace X4:=((X4.alloc _).alloc _).keep hb2;replace Bw:=bT (bA (bA Bw _) _) hb2;clear hb2
 try clear kU
 try clear kV
 try clear mO
 obtain ⟨kU,kV,mO,-,-⟩:=X3.bI
 try clear cZ
 try clear dh
 try clear eF
 obtain ⟨cZ,dh,eF,-,-⟩:=X4.bI;obtain ⟨jJ,jK,qY,-,-⟩:=X7.bI;obtain ⟨qj,ql,qm,-,-⟩:=X8.bI;go_wp2_with fail;refine (HM.out _).mono ?_;rintro e w3 ⟨rfl,hb3⟩;have X9:aj w3 w2.heap.size 39 #[.int .i64 t.fst.x,.int .i64 t.fst.y]:=((aj.made rfl _ _).alloc _).keep hb3;have dU:aj w3 (w2.heap.size+1) 39 #[.int .i64 t.snd.x,.int .i64 t.snd.y]:=(aj.made (by simp) _ _).keep hb3;replace X3:=((X3.alloc _).alloc _).keep hb3;replace X4:=((X4.alloc _).alloc _).keep hb3;replace X7:=((X7.alloc _).alloc _).keep hb3;replace X8:=((X8.alloc _).alloc _).keep hb3;replace Bw:=bT (bA (bA Bw _) _) hb3;clear hb3;generalize ku s.fst s.snd t.fst t.snd=m at *;have Y1:=(Ks.out.keep Bw).line;have Y2:=(Kt.out.keep Bw).line
 try clear kU
 try clear kV
 try clear mO
 obtain ⟨kU,kV,mO,Ep,Np⟩:=X3.bI
 try clear cZ
 try clear dh
 try clear eF
 obtain ⟨cZ,dh,eF,eG,iY⟩:=X4.bI;obtain ⟨JF,JG,JH,JI,JJ,JK,JL,JM,-,-,-,-,-,-,-⟩:=Y1.Eo;obtain ⟨Es,Et,Eu,Ew,Ey,Ez,EC,ED,-,-,-,-,-,-,-⟩:=Y2.Eo;go_upto_region 4 with fail;refine bZ (Since w3) (.run 13 0 0 (.done)) (by kernel_rfl) (bD (bR _)) (by kernel_rfl) (by kernel_rfl) (Nat.le_of_ble_eq_true (by kernel_rfl)) ?_;intro cO QR ak aC hS
 iterate 13
  apply bg;exact ak;exact rfl;exact hS;exact rfl
  · intro _ hqc;go_simp;try rfl
  try simp only [pu]
 refine bM ?_;refine aC.down _ _ ?_;have hB:Below w3.heap.size w3 w3.drew:=hS;clear hS aC ak;have Bd:Below w.heap.size w w3.drew:=bD Bw;clear hB;by_cases hid:s.ln.arc.id=t.ln.arc.id
 case neg =>
  have acJ:(s.ln.arc.id == t.ln.arc.id)=false:=beq_eq_false_iff_ne.2 hid;have hq:=Hq.out;rw [if_neg hid] at hq;replace Hq:=Lib.hid hq;rw [acJ];clear hid hq;by_cases hm1:m=1
  case neg =>
   have hm':(m != 1)=true:=by simpa using hm1
   have hf:=Lib.hid (show (m == 0)=q by rw [<- Hq.out,if_neg hm1]);clear hm1;go_wp2_with fail;go_ret;exact ⟨eP hf.out,Bd⟩
  subst hm1;have hq:=Hq.out;rw [if_pos rfl] at hq;replace Hq:=Lib.hid hq;clear hq;go_upto_region 12 with fail;obtain ⟨w4,hw4⟩:∃ w4:World,w4=w3.drew:=⟨_,rfl⟩;have y8:Below w3.heap.size w3 w4:=by rw [hw4];exact bD (bR w3)
  rw [<- hw4];rw [<- hw4] at Bd;clear hw4;replace X3:=X3.keep y8;replace X4:=X4.keep y8;replace X7:=X7.keep y8;replace X8:=X8.keep y8;replace X9:=X9.keep y8;replace dU:=dU.keep y8;replace Y1:=Y1.keep y8;replace Y2:=Y2.keep y8
  try clear kU
  try clear kV
  try clear mO
  try clear Ep
  try clear Np
  obtain ⟨kU,kV,mO,-,-⟩:=X3.bI
  try clear JF
  try clear JG
  try clear JH
  try clear JI
  try clear JJ
  try clear JK
  try clear JL
  try clear JM
  obtain ⟨JF,JG,JH,JI,JJ,JK,JL,JM,-,-,-,-,-,-,-⟩:=Y1.Eo;refine bZ (Since w4) (.run 14 0 0 (.done)) (by kernel_rfl) (bD (bR _)) (by kernel_rfl) (by kernel_rfl) (Nat.le_of_ble_eq_true (by kernel_rfl)) ?_;intro cO QR ak aC hS
  iterate 14
   apply bg;exact ak;exact rfl;exact hS;exact rfl
   · intro _ hqc;go_simp;try rfl
   try simp only [pu]
  refine bM ?_;refine aC.down _ _ ?_;have hB:Below w4.heap.size w4 w4.drew:=hS;clear hS aC ak;have hB4:Below w4.heap.size w4 w4.drew:=bD (bR w4);obtain ⟨W,hW⟩:∃ W:World,W=w4.drew:=⟨_,rfl⟩;rw [<- hW];rw [<- hW] at hB4;have uZ:=Lib.hid (bT Bd hB4);have dn:=Lib.hid (X4.keep hB4);have kF:=Lib.hid (X7.keep hB4);have CG:=Lib.hid (X8.keep hB4);have qo:=Lib.hid (X9.keep hB4);have wU:=Lib.hid (dU.keep hB4);have HY2:=Lib.hid (Y2.keep hB4);clear hB hB4 hW y8 Bw Bd X3 kU kV mO X4 cZ dh eF X7 jJ jK qY X8 qj ql qm X9 dU Y1 JF JG JH JI JJ JK JL JM Y2 Es Et Eu Ew Ey Ez EC ED;go_wp2_with fail;go_loopw [100] (fun u wx=>∃ j:Int,(j=0\/j=1\/j=2)/\u=.int .i64 j/\Below W.heap.size W wx/\(1<=j->jB f s t s.ln.arc.fr=false)/\(2<=j->jB f s t s.ln.arc.dst=false)) (fun u _=>2-(intOf u).toNat)
  case atStart => exact ⟨0,by omega,rfl,bR W,fun h=>by omega,fun h=>by omega⟩
  case round =>
   obtain ⟨j,hj,rfl,hb,hl,hr⟩:=hrel;have Hb:=Lib.hid hb;have Hl:=Lib.hid hl;have Hr:=Lib.hid hr;have X4:=dn.out.keep hb;have X7:=kF.out.keep hb;have X8:=CG.out.keep hb;have X9:=qo.out.keep hb;have dU:=wU.out.keep hb;have Y2:=HY2.out.keep hb;clear hb hl hr
   try clear cZ
   try clear dh
   try clear eF
   try clear eG
   try clear iY
   obtain ⟨cZ,dh,eF,-,-⟩:=X4.bI
   try clear jJ
   try clear jK
   try clear qY
   obtain ⟨jJ,jK,qY,-,-⟩:=X7.bI
   try clear qj
   try clear ql
   try clear qm
   obtain ⟨qj,ql,qm,-,-⟩:=X8.bI;obtain ⟨iw,iy,kE,-,-⟩:=X9.bI;obtain ⟨jX,jY,jZ,-,-⟩:=dU.bI
   try clear Es
   try clear Et
   try clear Eu
   try clear Ew
   try clear Ey
   try clear Ez
   try clear EC
   try clear ED
   obtain ⟨Es,Et,Eu,Ew,Ey,Ez,EC,ED,-,-,-,-,-,-,-⟩:=Y2.Eo;rcases hj with rfl | rfl | rfl
   ·have hI:∀ w,(Instr.index 116 (.agg #[.int .i64 s.ln.arc.fr,.int .i64 s.ln.arc.dst]) (.int .i64 0)).run Tryz.prog w=.ok (.int .i64 s.ln.arc.fr) w:=fun _=>by kernel_rfl
    have hlk:=(Km.out.keep (bT uZ.out Hb.out)).look s.ln.arc.fr hw1;unfold aZ at hlk
    cases h1:(s.ln.arc.fr == t.ln.arc.fr)
    case false =>
     cases h2:(s.ln.arc.fr == t.ln.arc.dst)
     case false =>
      have hy:=Lib.hid (show jB f s t s.ln.arc.fr=false by simp [jB,h1,h2]);go_wp2_with fail;go_roundw
      case rel => exact ⟨1,by omega,rfl,bA Hb.out _,fun h=>by first | exact hy.out | exact Hl.out (by omega),fun h=>by first | omega | exact hy.out⟩
      case measure => simp [intOf]
     case true =>
      have hc:=Lib.hid (show (s.ln.arc.fr == t.ln.arc.fr || s.ln.arc.fr == t.ln.arc.dst)=true by rw [h2];simp);go_wp2_with fail;refine (HO.out s.fst s.snd (f s.ln.arc.fr) _).mono ?_;rintro e w5 ⟨rfl,hb5⟩;have B5:Below W.heap.size W w5:=bT (bA Hb.out _) hb5;have wV:aj w5 wr.heap.size 39 #[.int .i64 (f s.ln.arc.fr).x,.int .i64 (f s.ln.arc.fr).y]:=(aj.made rfl _ _).keep hb5;clear hb5 X4 cZ dh eF Y2 Es Et Eu Ew Ey Ez EC ED X7 jJ jK qY X8 qj ql qm X9 iw iy kE dU jX jY jZ hlk
      cases e3:fO s.fst s.snd (f s.ln.arc.fr)
      case false =>
       have hy:=Lib.hid (show jB f s t s.ln.arc.fr=false by simp [jB,e3]);clear e3;go_wp2_with fail;go_roundw
       case rel => exact ⟨1,by omega,rfl,B5,fun h=>by first | exact hy.out | exact Hl.out (by omega),fun h=>by first | omega | exact hy.out⟩
       case measure => simp [intOf]
      have E3:=Lib.hid e3;clear e3;have X9:=qo.out.keep B5;have dU:=wU.out.keep B5
      try clear iw
      try clear iy
      try clear kE
      obtain ⟨iw,iy,kE,-,-⟩:=X9.bI
      try clear jX
      try clear jY
      try clear jZ
      obtain ⟨jX,jY,jZ,-,-⟩:=dU.bI;obtain ⟨y9,zf,zh,-,-⟩:=wV.bI;go_wp2_with fail;refine (HO.out t.fst t.snd (f s.ln.arc.fr) _).mono ?_;rintro e w6 ⟨rfl,hb6⟩;have B6:Below W.heap.size W w6:=bT B5 hb6;clear hb6 wV y9 zf zh X9 iw iy kE dU jX jY jZ
      cases e4:fO t.fst t.snd (f s.ln.arc.fr)
      case false =>
       have hy:=Lib.hid (show jB f s t s.ln.arc.fr=false by simp [jB,e4]);clear e4;go_wp2_with fail;go_roundw
       case rel => exact ⟨1,by omega,rfl,B6,fun h=>by first | exact hy.out | exact Hl.out (by omega),fun h=>by first | omega | exact hy.out⟩
       case measure => simp [intOf]
      have hy:=Lib.hid (show jB f s t s.ln.arc.fr=true by simp only [jB,hc.out,E3.out,e4];rfl);have hf:=Lib.hid (show true=q by rw [<- Hq.out,hy.out];simp);clear e4;go_wp2_with fail;go_ret;exact ⟨eP hf.out,bT uZ.out B6⟩
    case true =>
     have hc:=Lib.hid (show (s.ln.arc.fr == t.ln.arc.fr || s.ln.arc.fr == t.ln.arc.dst)=true by rw [h1];simp);go_wp2_with fail;refine (HO.out s.fst s.snd (f s.ln.arc.fr) _).mono ?_;rintro e w5 ⟨rfl,hb5⟩;have B5:Below W.heap.size W w5:=bT (bA Hb.out _) hb5;have wV:aj w5 wr.heap.size 39 #[.int .i64 (f s.ln.arc.fr).x,.int .i64 (f s.ln.arc.fr).y]:=(aj.made rfl _ _).keep hb5;clear hb5 X4 cZ dh eF Y2 Es Et Eu Ew Ey Ez EC ED X7 jJ jK qY X8 qj ql qm X9 iw iy kE dU jX jY jZ hlk
     cases e3:fO s.fst s.snd (f s.ln.arc.fr)
     case false =>
      have hy:=Lib.hid (show jB f s t s.ln.arc.fr=false by simp [jB,e3]);clear e3;go_wp2_with fail;go_roundw
      case rel => exact ⟨1,by omega,rfl,B5,fun h=>by first | exact hy.out | exact Hl.out (by omega),fun h=>by first | omega | exact hy.out⟩
      case measure => simp [intOf]
     have E3:=Lib.hid e3;clear e3;have X9:=qo.out.keep B5;have dU:=wU.out.keep B5
     try clear iw
     try clear iy
     try clear kE
     obtain ⟨iw,iy,kE,-,-⟩:=X9.bI
     try clear jX
     try clear jY
     try clear jZ
     obtain ⟨jX,jY,jZ,-,-⟩:=dU.bI
     try clear y9
     try clear zf
     try clear zh
     obtain ⟨y9,zf,zh,-,-⟩:=wV.bI;go_wp2_with fail;refine (HO.out t.fst t.snd (f s.ln.arc.fr) _).mono ?_;rintro e w6 ⟨rfl,hb6⟩;have B6:Below W.heap.size W w6:=bT B5 hb6;clear hb6 wV y9 zf zh X9 iw iy kE dU jX jY jZ
     cases e4:fO t.fst t.snd (f s.ln.arc.fr)
     case false =>
      have hy:=Lib.hid (show jB f s t s.ln.arc.fr=false by simp [jB,e4]);clear e4;go_wp2_with fail;go_roundw
      case rel => exact ⟨1,by omega,rfl,B6,fun h=>by first | exact hy.out | exact Hl.out (by omega),fun h=>by first | omega | exact hy.out⟩
      case measure => simp [intOf]
     have hy:=Lib.hid (show jB f s t s.ln.arc.fr=true by simp only [jB,hc.out,E3.out,e4];rfl);have hf:=Lib.hid (show true=q by rw [<- Hq.out,hy.out];simp);clear e4;go_wp2_with fail;go_ret;exact ⟨eP hf.out,bT uZ.out B6⟩
   ·have hI:∀ w,(Instr.index 116 (.agg #[.int .i64 s.ln.arc.fr,.int .i64 s.ln.arc.dst]) (.int .i64 1)).run Tryz.prog w=.ok (.int .i64 s.ln.arc.dst) w:=fun _=>by kernel_rfl
    have hlk:=(Km.out.keep (bT uZ.out Hb.out)).look s.ln.arc.dst hw2;unfold aZ at hlk
    cases h1:(s.ln.arc.dst == t.ln.arc.fr)
    case false =>
     cases h2:(s.ln.arc.dst == t.ln.arc.dst)
     case false =>
      have hy:=Lib.hid (show jB f s t s.ln.arc.dst=false by simp [jB,h1,h2]);go_wp2_with fail;go_roundw
      case rel => exact ⟨2,by omega,rfl,bA Hb.out _,fun h=>by first | exact hy.out | exact Hl.out (by omega),fun h=>by first | omega | exact hy.out⟩
      case measure => simp [intOf]
     case true =>
      have hc:=Lib.hid (show (s.ln.arc.dst == t.ln.arc.fr || s.ln.arc.dst == t.ln.arc.dst)=true by rw [h2];simp);go_wp2_with fail;refine (HO.out s.fst s.snd (f s.ln.arc.dst) _).mono ?_;rintro e w5 ⟨rfl,hb5⟩;have B5:Below W.heap.size W w5:=bT (bA Hb.out _) hb5;have wV:aj w5 wr.heap.size 39 #[.int .i64 (f s.ln.arc.dst).x,.int .i64 (f s.ln.arc.dst).y]:=(aj.made rfl _ _).keep hb5;clear hb5 X4 cZ dh eF Y2 Es Et Eu Ew Ey Ez EC ED X7 jJ jK qY X8 qj ql qm X9 iw iy kE dU jX jY jZ hlk
      cases e3:fO s.fst s.snd (f s.ln.arc.dst)
      case false =>
       have hy:=Lib.hid (show jB f s t s.ln.arc.dst=false by simp [jB,e3]);clear e3;go_wp2_with fail;go_roundw
       case rel => exact ⟨2,by omega,rfl,B5,fun h=>by first | exact hy.out | exact Hl.out (by omega),fun h=>by first | omega | exact hy.out⟩
       case measure => simp [intOf]
      have E3:=Lib.hid e3;clear e3;have X9:=qo.out.keep B5;have dU:=wU.out.keep B5
      try clear iw
      try clear iy
      try clear kE
      obtain ⟨iw,iy,kE,-,-⟩:=X9.bI
      try clear jX
      try clear jY
      try clear jZ
      obtain ⟨jX,jY,jZ,-,-⟩:=dU.bI
      try clear y9
      try clear zf
      try clear zh
      obtain ⟨y9,zf,zh,-,-⟩:=wV.bI;go_wp2_with fail;refine (HO.out t.fst t.snd (f s.ln.arc.dst) _).mono ?_;rintro e w6 ⟨rfl,hb6⟩;have B6:Below W.heap.size W w6:=bT B5 hb6;clear hb6 wV y9 zf zh X9 iw iy kE dU jX jY jZ
      cases e4:fO t.fst t.snd (f s.ln.arc.dst)
      case false =>
       have hy:=Lib.hid (show jB f s t s.ln.arc.dst=false by simp [jB,e4]);clear e4;go_wp2_with fail;go_roundw
       case rel => exact ⟨2,by omega,rfl,B6,fun h=>by first | exact hy.out | exact Hl.out (by omega),fun h=>by first | omega | exact hy.out⟩
       case measure => simp [intOf]
      have hy:=Lib.hid (show jB f s t s.ln.arc.dst=true by simp only [jB,hc.out,E3.out,e4];rfl);have hf:=Lib.hid (show true=q by rw [<- Hq.out,hy.out];simp);clear e4;go_wp2_with fail;go_ret;exact ⟨eP hf.out,bT uZ.out B6⟩
    case true =>
     have hc:=Lib.hid (show (s.ln.arc.dst == t.ln.arc.fr || s.ln.arc.dst == t.ln.arc.dst)=true by rw [h1];simp);go_wp2_with fail;refine (HO.out s.fst s.snd (f s.ln.arc.dst) _).mono ?_;rintro e w5 ⟨rfl,hb5⟩;have B5:Below W.heap.size W w5:=bT (bA Hb.out _) hb5;have wV:aj w5 wr.heap.size 39 #[.int .i64 (f s.ln.arc.dst).x,.int .i64 (f s.ln.arc.dst).y]:=(aj.made rfl _ _).keep hb5;clear hb5 X4 cZ dh eF Y2 Es Et Eu Ew Ey Ez EC ED X7 jJ jK qY X8 qj ql qm X9 iw iy kE dU jX jY jZ hlk
     cases e3:fO s.fst s.snd (f s.ln.arc.dst)
     case false =>
      have hy:=Lib.hid (show jB f s t s.ln.arc.dst=false by simp [jB,e3]);clear e3;go_wp2_with fail;go_roundw
      case rel => exact ⟨2,by omega,rfl,B5,fun h=>by first | exact hy.out | exact Hl.out (by omega),fun h=>by first | omega | exact hy.out⟩
      case measure => simp [intOf]
     have E3:=Lib.hid e3;clear e3;have X9:=qo.out.keep B5;have dU:=wU.out.keep B5
     try clear iw
     try clear iy
     try clear kE
     obtain ⟨iw,iy,kE,-,-⟩:=X9.bI
     try clear jX
     try clear jY
     try clear jZ
     obtain ⟨jX,jY,jZ,-,-⟩:=dU.bI
     try clear y9
     try clear zf
     try clear zh
     obtain ⟨y9,zf,zh,-,-⟩:=wV.bI;go_wp2_with fail;refine (HO.out t.fst t.snd (f s.ln.arc.dst) _).mono ?_;rintro e w6 ⟨rfl,hb6⟩;have B6:Below W.heap.size W w6:=bT B5 hb6;clear hb6 wV y9 zf zh X9 iw iy kE dU jX jY jZ
     cases e4:fO t.fst t.snd (f s.ln.arc.dst)
     case false =>
      have hy:=Lib.hid (show jB f s t s.ln.arc.dst=false by simp [jB,e4]);clear e4;go_wp2_with fail;go_roundw
      case rel => exact ⟨2,by omega,rfl,B6,fun h=>by first | exact hy.out | exact Hl.out (by omega),fun h=>by first | omega | exact hy.out⟩
      case measure => simp [intOf]
     have hy:=Lib.hid (show jB f s t s.ln.arc.dst=true by simp only [jB,hc.out,E3.out,e4];rfl);have hf:=Lib.hid (show true=q by rw [<- Hq.out,hy.out];simp);clear e4;go_wp2_with fail;go_ret;exact ⟨eP hf.out,bT uZ.out B6⟩
   ·have hf:=Lib.hid (show false=q by rw [<- Hq.out,Hl.out (by omega),Hr.out (by omega)];rfl);go_wp2_with fail;go_ret;exact ⟨eP hf.out,bT uZ.out Hb.out⟩
 case pos =>
  have acJ:(s.ln.arc.id == t.ln.arc.id)=true:=beq_iff_eq.2 hid;have hq:=Hq.out;rw [if_pos hid] at hq;replace Hq:=Lib.hid hq;clear hid hq;clear X7 jJ jK qY X8 qj ql qm X9 dU;go_upto_if 47 with fail;go_cut [48] (fun u wx=>∃ a b:bP,fK w a/\fK w b/\aj wx w.heap.size 230 #[.pointer (some ⟨a.ln.g,0,none⟩),.int .i64 a.k]/\aj wx (w.heap.size+1) 230 #[.pointer (some ⟨b.ln.g,0,none⟩),.int .i64 b.k]/\AX m a b=q/\a.k<=2097152/\b.k<=2097152/\Below w.heap.size w wx)
  case first =>
   by_cases hsw:t.k<s.k
   ·have hf:=Lib.hid (show AX m t s=q by rw [<- Hq.out,if_pos hsw]);go_wp2_with fail;go_meet
    case rel =>
     refine ⟨t,s,Kt.out,Ks.out,?_,?_,hf.out,htk,hsk,?_⟩
     · exact ((aj.wJ (aj.drew X3)).far (p:=⟨w.heap.size+1,0,none⟩) (by simp) _).far (p:=⟨w.heap.size+1,1,none⟩) (by simp) _
     · exact aj.wJ (((aj.drew X4).far (p:=⟨w.heap.size,0,none⟩) (by simp) _).far (p:=⟨w.heap.size,1,none⟩) (by simp) _)
     · exact bS (bS (bS (bS Bd (p:=⟨w.heap.size,0,none⟩) (Nat.le_refl _) _) (p:=⟨w.heap.size,1,none⟩) (Nat.le_refl _) _) (p:=⟨w.heap.size+1,0,none⟩) (Nat.le_succ _) _) (p:=⟨w.heap.size+1,1,none⟩) (Nat.le_succ _) _
   ·have hf:=Lib.hid (show AX m s t=q by rw [<- Hq.out,if_neg hsw]);go_wp2_with fail;go_meet
    case rel => exact ⟨s,t,Ks.out,Kt.out,aj.drew X3,aj.drew X4,hf.out,hsk,htk,Bd⟩
  case rest =>
  obtain ⟨a,b,Ka,Kb,X3',X4',hf,ha,hb,Bc⟩:=hcut;have Hf:=Lib.hid hf;replace Ka:=Lib.hid Ka;replace Kb:=Lib.hid Kb;clear X3 X4 kU kV mO cZ dh eF Y1 Y2 JF JG JH JI JJ JK JL JM Es Et Eu Ew Ey Ez EC ED hf Bd Bw;have Y1:=(Ka.out.keep Bc).line
  try clear ake
  try clear akf
  try clear akg
  try clear ata
  try clear atb
  obtain ⟨ake,akf,akg,-,-⟩:=X3'.bI
  try clear akh
  try clear aki
  try clear akj
  try clear atc
  try clear atd
  obtain ⟨akh,aki,akj,-,-⟩:=X4'.bI
  try clear JF
  try clear JG
  try clear JH
  try clear JI
  try clear JJ
  try clear JK
  try clear JL
  try clear JM
  obtain ⟨JF,JG,JH,JI,JJ,JK,JL,JM,-,-,-,-,-,-,-⟩:=Y1.Eo;have Ri:IntKind.i64.wrap ((a.k:Int)+1)=(a.k:Int)+1:=IntWalk.i64_in _ (by omega);have TF:∀ W,Calls Tryz.prog 232 #[iI a] W _:=fun W=>acv a W;have TL:∀ W,Below w.heap.size w W->Calls Tryz.prog 233 #[iI b] W _:=fun W hW=>acw b W (Kb.out.keep hW);unfold iI at TF TL;have Nw:=TF;have Ny:=TL;have q1:0<=(a.k:Int):=by omega
  cases h1:((a.k:Int)+1 == (b.k:Int))
  case true =>
   have hf:=Lib.hid (show (m == 1)=q by
    rw [<- Hf.out,AX,if_pos];have:=eq_of_beq h1
    simp only [JE,Bool.or_eq_true,decide_eq_true_eq];left;omega)
   clear TF TL Nw Ny;go_upto_region 7 with fail;refine bZ (Since wc) (.run 29 0 0 (.done)) (by kernel_rfl) (bD (bR _)) (by kernel_rfl) (by kernel_rfl) (Nat.le_of_ble_eq_true (by kernel_rfl)) ?_;intro cO QR ak aC hS
   iterate 7
    apply bg;exact ak;exact rfl;exact hS;exact rfl
    · intro _ hqc;go_simp;try rfl
    try simp only [pu]
   iterate 21
    refine qH ak rfl hS rfl rfl rfl rfl rfl ?_
    try simp only [pu]
   apply bg;exact ak;exact rfl;exact hS;exact rfl
   · intro _ hqc;go_simp;try rfl
   try simp only [pu]
   refine bM ?_;refine aC.down _ _ ?_;have hB:Below wc.heap.size wc wc.drew:=hS;clear hS aC ak;go_wp2_with fail;go_ret;exact ⟨eP hf.out,bT Bc hB⟩
  case false =>
  have hk:¬ a.k+1=b.k:=by have:=ne_of_beq_false h1;omega
  cases h2:(a.ln.arc.fr == a.ln.arc.dst)
  case false =>
   have hf:=Lib.hid (show (m == 0)=q by
    rw [<- Hf.out,AX,if_neg];simp only [JE,h2,decide_eq_false hk];simp)
   clear TF TL Nw Ny;go_upto_region 7 with fail;refine bZ (Since wc) (.run 29 0 0 (.done)) (by kernel_rfl) (bD (bR _)) (by kernel_rfl) (by kernel_rfl) (Nat.le_of_ble_eq_true (by kernel_rfl)) ?_;intro cO QR ak aC hS
   iterate 7
    apply bg;exact ak;exact rfl;exact hS;exact rfl
    · intro _ hqc;go_simp;try rfl
    try simp only [pu]
   iterate 14
    apply dY;exact ak;exact rfl;exact hS;iterate 4 exact rfl
    · intro _ hqc;go_simp;try rfl
    try simp only [pu]
   iterate 2
    refine qH ak rfl hS rfl rfl rfl rfl rfl ?_
    try simp only [pu]
   iterate 2
    apply dY;exact ak;exact rfl;exact hS;iterate 4 exact rfl
    · intro _ hqc;go_simp;try rfl
    try simp only [pu]
   iterate 2
    refine qH ak rfl hS rfl rfl rfl rfl rfl ?_
    try simp only [pu]
   apply dY;exact ak;exact rfl;exact hS;iterate 4 exact rfl
   · intro _ hqc;go_simp;try rfl
   try simp only [pu]
   apply bg;exact ak;exact rfl;exact hS;exact rfl
   · intro _ hqc;go_simp;try rfl
   try simp only [pu]
   refine bM ?_;refine aC.down _ _ ?_;have hB:Below wc.heap.size wc wc.drew:=hS;clear hS aC ak;go_wp2_with fail;go_ret;exact ⟨eP hf.out,bT Bc hB⟩
  case true =>
  cases h3:((a.k:Int) == 0)
  case false =>
   rw [h3] at TF;have HF:=Lib.hid TF;have hf:=Lib.hid (show (m == 0)=q by
    have h3':¬ a.k=0:=by have:=ne_of_beq_false h3;omega
    rw [<- Hf.out,AX,if_neg];simp only [JE,h2,decide_eq_false hk,decide_eq_false h3'];simp)
   clear TF TL Nw Ny h3;go_upto_region 7 with fail;refine bZ (Since wc) (.run 22 0 0 (.call 22 8388607 (.run 6 23 8388607 (.done)))) (by kernel_rfl) (bD (bR _)) (by kernel_rfl) (by kernel_rfl) (Nat.le_of_ble_eq_true (by kernel_rfl)) ?_;intro cO QR ak aC hS
   iterate 7
    apply bg;exact ak;exact rfl;exact hS;exact rfl
    · intro _ hqc;go_simp;try rfl
    try simp only [pu]
   iterate 15
    apply dY;exact ak;exact rfl;exact hS;iterate 4 exact rfl
    · intro _ hqc;go_simp;try rfl
    try simp only [pu]
   refine aT (i:=22) (aG ak rfl) (fun K hK=>?_);have aA:=Lib.hid hS;clear hS;refine aO (mF rfl (aG ak rfl) rfl rfl) ?_;go_simp;refine (HF.out _).mono ?_;rintro e bH ⟨rfl,bJ⟩;have hS:Since wc bH:=bT (w:=wc) aA.out bJ;clear aA;refine hK.out _ _ hS (fun _=>?_);clear hK K
   try simp only [pu]
   iterate 2
    apply dY;exact ak;exact rfl;exact hS;iterate 4 exact rfl
    · intro _ hqc;go_simp;try rfl
    try simp only [pu]
   iterate 2
    refine qH ak rfl hS rfl rfl rfl rfl rfl ?_
    try simp only [pu]
   apply dY;exact ak;exact rfl;exact hS;iterate 4 exact rfl
   · intro _ hqc;go_simp;try rfl
   try simp only [pu]
   apply bg;exact ak;exact rfl;exact hS;exact rfl
   · intro _ hqc;go_simp;try rfl
   try simp only [pu]
   refine bM ?_;refine aC.down _ _ ?_;have hB:Below wc.heap.size wc bH:=hS;clear hS aC ak;go_wp2_with fail;go_ret;exact ⟨eP hf.out,bT Bc hB⟩
  case true =>
  rw [h3] at TF;have HF:=Lib.hid TF
  cases h4:((b.k:Int) == (b.ln.path.length:Int)-2)
  case false =>
   rw [h4] at TL;have HL:=Lib.hid TL;have hf:=Lib.hid (show (m == 0)=q by
    have h4':=ne_of_beq_false h4;rw [<- Hf.out,AX,if_neg];simp only [JE,decide_eq_false hk,decide_eq_false h4'];simp)
   clear TF TL Nw Ny h3 h4;go_upto_region 7 with fail;refine bZ (Since wc) (.run 22 0 0 (.call 22 8388607 (.run 3 23 8388607 (.call 26 134217727 (.take 27 268435455 (.take 28 536870911 (.done))))))) (by kernel_rfl) (bD (bR _)) (by kernel_rfl) (by kernel_rfl) (Nat.le_of_ble_eq_true (by kernel_rfl)) ?_;intro cO QR ak aC hS
   iterate 7
    apply bg;exact ak;exact rfl;exact hS;exact rfl
    · intro _ hqc;go_simp;try rfl
    try simp only [pu]
   iterate 15
    apply dY;exact ak;exact rfl;exact hS;iterate 4 exact rfl
    · intro _ hqc;go_simp;try rfl
    try simp only [pu]
   refine aT (i:=22) (aG ak rfl) (fun K hK=>?_);have aA:=Lib.hid hS;clear hS;refine aO (mF rfl (aG ak rfl) rfl rfl) ?_;go_simp;refine (HF.out _).mono ?_;rintro e bH ⟨rfl,bJ⟩;have hS:Since wc bH:=bT (w:=wc) aA.out bJ;clear aA;refine hK.out _ _ hS (fun _=>?_);clear hK K
   try simp only [pu]
   iterate 3
    apply dY;exact ak;exact rfl;exact hS;iterate 4 exact rfl
    · intro _ hqc;go_simp;try rfl
    try simp only [pu]
   refine aT (i:=26) (aG ak rfl) (fun K hK=>?_);have aA:=Lib.hid hS;clear hS;refine aO (mF rfl (aG ak rfl) rfl rfl) ?_;go_simp;refine (HL.out _ (bT Bc aA.out)).mono ?_;rintro e wr2 ⟨rfl,gZ⟩;have hS:Since wc wr2:=bT (w:=wc) aA.out gZ;clear aA;refine hK.out _ _ hS (fun _=>?_);clear hK K
   try simp only [pu]
   apply dY;exact ak;exact rfl;exact hS;iterate 4 exact rfl
   · intro _ hqc;go_simp;try rfl
   try simp only [pu]
   apply bg;exact ak;exact rfl;exact hS;exact rfl
   · intro _ hqc;go_simp;try rfl
   try simp only [pu]
   refine bM ?_;refine aC.down _ _ ?_;have hB:Below wc.heap.size wc wr2:=hS;clear hS aC ak;go_wp2_with fail;go_ret;exact ⟨eP hf.out,bT Bc hB⟩
  case true =>
   rw [h4] at TL;have HL:=Lib.hid TL;have hf:=Lib.hid (show (m == 1)=q by
    have h3':a.k=0:=by have:=eq_of_beq h3;omega
    have h4':=eq_of_beq h4;rw [<- Hf.out,AX,if_pos];simp only [JE,h2,decide_eq_true h3',decide_eq_true h4'];simp)
   clear TF TL Nw Ny h3 h4;go_upto_region 7 with fail;refine bZ (Since wc) (.run 22 0 0 (.call 22 8388607 (.run 3 23 8388607 (.call 26 134217727 (.take 27 268435455 (.take 28 536870911 (.done))))))) (by kernel_rfl) (bD (bR _)) (by kernel_rfl) (by kernel_rfl) (Nat.le_of_ble_eq_true (by kernel_rfl)) ?_;intro cO QR ak aC hS
   iterate 7
    apply bg;exact ak;exact rfl;exact hS;exact rfl
    · intro _ hqc;go_simp;try rfl
    try simp only [pu]
   iterate 15
    apply dY;exact ak;exact rfl;exact hS;iterate 4 exact rfl
    · intro _ hqc;go_simp;try rfl
    try simp only [pu]
   refine aT (i:=22) (aG ak rfl) (fun K hK=>?_);have aA:=Lib.hid hS;clear hS;refine aO (mF rfl (aG ak rfl) rfl rfl) ?_;go_simp;refine (HF.out _).mono ?_;rintro e bH ⟨rfl,bJ⟩;have hS:Since wc bH:=bT (w:=wc) aA.out bJ;clear aA;refine hK.out _ _ hS (fun _=>?_);clear hK K
   try simp only [pu]
   iterate 3
    apply dY;exact ak;exact rfl;exact hS;iterate 4 exact rfl
    · intro _ hqc;go_simp;try rfl
    try simp only [pu]
   refine aT (i:=26) (aG ak rfl) (fun K hK=>?_);have aA:=Lib.hid hS;clear hS;refine aO (mF rfl (aG ak rfl) rfl rfl) ?_;go_simp;refine (HL.out _ (bT Bc aA.out)).mono ?_;rintro e wr2 ⟨rfl,gZ⟩;have hS:Since wc wr2:=bT (w:=wc) aA.out gZ;clear aA;refine hK.out _ _ hS (fun _=>?_);clear hK K
   try simp only [pu]
   apply dY;exact ak;exact rfl;exact hS;iterate 4 exact rfl
   · intro _ hqc;go_simp;try rfl
   try simp only [pu]
   apply bg;exact ak;exact rfl;exact hS;exact rfl
   · intro _ hqc;go_simp;try rfl
   try simp only [pu]
   refine bM ?_;refine aC.down _ _ ?_;have hB:Below wc.heap.size wc wr2:=hS;clear hS aC ak;go_wp2_with fail;go_ret;exact ⟨eP hf.out,bT Bc hB⟩
end Go.Proofs.YtialfdomhoojiaaGreat
