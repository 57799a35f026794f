import Derived.Test.YtpempeioeiaijaaGreatJ04
set_option linter.unusedSimpArgs false
set_option linter.unusedVariables false
set_option maxRecDepth 100000
set_option maxHeartbeats 4000000
namespace Go.Proofs.YtpempeioeiaijaaGreat
open Go.RowKit Tryz
def lS (a b:DZ):Bool:=decide (a.k+1=b.k) || ((a.ln.arc.fr == a.ln.arc.dst) && decide (a.k=0) && decide ((b.k:Int)=(b.ln.path.length:Int)-2))
def XE (m:Int) (a b:DZ):Bool:=if lS a b then m == 1 else m == 0
def J8 (f:Int->Pt) (s t:DZ) (id:Int):Bool:=(id == t.ln.arc.fr || id == t.ln.arc.dst) && Ee s.fst s.snd (f id) && Ee t.fst t.snd (f id)
def Ot (f:Int->Pt) (s t:DZ):Bool :=
 if s.ln.arc.id=t.ln.arc.id then (if t.k<s.k then XE (JR s.fst s.snd t.fst t.snd) t s else XE (JR s.fst s.snd t.fst t.snd) s t)
 else if JR s.fst s.snd t.fst t.snd=1 then J8 f s t s.ln.arc.fr || J8 f s t s.ln.arc.dst
 else JR s.fst s.snd t.fst t.snd == 0
theorem FX.line {w:World} {s:DZ} (h:FX w s):AO w s.ln.g 140 #[.int .i64 s.ln.arc.id,.int .i64 s.ln.arc.fr,.int .i64 s.ln.arc.dst,.slice s.ln.via.a s.ln.via.n s.ln.via.c,.int .i64 s.ln.arc.left,.int .i64 s.ln.arc.right,.slice s.ln.pa s.ln.path.length s.ln.pc]:=h.1.1
theorem apW (f:Int->Pt) (mb n:Nat) (s t:DZ) (w:World) (hs:FX w s) (ht:FX w t) (hm:JJ w mb n f)
  (hw1:F6 s.ln.arc.fr) (hw2:F6 s.ln.arc.dst) :
  Calls prog 99 #[I8 s,I8 t,.map (some mb)] w fun e w'=>e=.returned (.bool (Ot f s t))/\AU w w':=by
 have TS:∀ W,AU w W->Calls prog 100 #[I8 s] W _:=fun W hW=>sG s W (hs.keep hW);have TT:∀ W,AU w W->Calls prog 100 #[I8 t] W _:=fun W hW=>sG t W (ht.keep hW);have TM:∀ W,Calls prog 143 #[BA s.fst,BA s.snd,BA t.fst,BA t.snd] W _:=fun W=>aoV s.fst s.snd t.fst t.snd W;have TO:∀ p q r:Pt,∀ W,Calls prog 101 #[BA p,BA q,BA r] W _:=fun p q r W=>aaP p q r W;unfold I8 BA at TS TT;unfold BA at TM TO;unfold I8;obtain ⟨HS,HT,HM,HO,Ks,Kt,Km⟩:=WI TS TT TM TO hs ht hm;have hsk:s.k<=2097152:=by have:=hs.2;omega
 have htk:t.k<=2097152:=by have:=ht.2;omega
 clear TS TT TM TO hs ht hm;obtain ⟨q,hq⟩:=BI (Ot f s t);rw [hq];unfold Ot at hq;have Hq:=AB hq;clear hq;go_enter func99,ntmps99;go_wp2_with fail;refine (HS.1 _ (bA (bA (bR w) _) _)).mono ?_;rintro e w1 ⟨rfl,hb1,-⟩;have Bw:AU w w1:=by
  exact Dy
 have X3:AO _ (w.heap.size) 132 #[.pointer (some ⟨s.ln.g,0,none⟩),.int .i64 s.k]:=AO.keep (by repeat (first | exact AO.made Ah _ _ | refine AO.alloc ?_ _)) hb1;have X4:AO _ (w.heap.size+1) 132 #[.pointer (some ⟨t.ln.g,0,none⟩),.int .i64 t.k]:=AO.keep (by repeat (first | exact AO.made Ah _ _ | refine AO.alloc ?_ _)) hb1;clear hb1;obtain ⟨Dk,EI,EN,-⟩:=X3.Bl;obtain ⟨Bg,CO,CU,-⟩:=X4.Bl;go_wp2_with fail;refine (HT.1 _ (bA (bA Bw _) _)).mono ?_;rintro e w2 ⟨rfl,hb2,-⟩;have X7:AO w2 w1.heap.size 42 #[.int .i64 s.fst.x,.int .i64 s.fst.y]:=((AO.made rfl _ _).alloc _).keep hb2;have X8:AO w2 (w1.heap.size+1) 42 #[.int .i64 s.snd.x,.int .i64 s.snd.y]:=(AO.made Ah _ _).keep hb2;replace X3:=((X3.alloc _).alloc _).keep hb2;replace X4:=((X4.alloc _).alloc _).keep hb2;replace Bw:=bT (bA (bA Bw _) _) hb2;clear hb2
 try clear Dk EI EN
 obtain ⟨Dk,EI,EN,-⟩:=X3.Bl
 try clear Bg CO CU
 obtain ⟨Bg,CO,CU,-⟩:=X4.Bl;obtain ⟨EJ,EK,F7,-⟩:=X7.Bl;obtain ⟨Rq,Rt,SG,-⟩:=X8.Bl;go_wp2_with fail;refine (HM.1 _).mono ?_;rintro e w3 ⟨rfl,hb3⟩;have X9:AO w3 w2.heap.size 42 #[.int .i64 t.fst.x,.int .i64 t.fst.y]:=((AO.made rfl _ _).alloc _).keep hb3;have CB:AO w3 (w2.heap.size+1) 42 #[.int .i64 t.snd.x,.int .i64 t.snd.y]:=(AO.made Ah _ _).keep hb3;replace X3:=((X3.alloc _).alloc _).keep hb3;replace X4:=((X4.alloc _).alloc _).keep hb3;replace X7:=((X7.alloc _).alloc _).keep hb3;replace X8:=((X8.alloc _).alloc _).keep hb3;replace Bw:=bT (bA (bA Bw _) _) hb3;clear hb3;generalize JR s.fst s.snd t.fst t.snd=m at *;have Y1:=(Ks.1.keep Bw).line;have Y2:=(Kt.1.keep Bw).line
 try clear Dk EI EN
 obtain ⟨Dk,EI,EN,iC,aaY⟩:=X3.Bl
 try clear Bg CO CU
 obtain ⟨Bg,CO,CU,Eo,Gu⟩:=X4.Bl;obtain ⟨lT,lU,kX,kY,kZ,nP,nR,nS,-⟩:=Y1.ZX;obtain ⟨Zb,Zc,Zd,Ze,Zf,Zg,Zh,Zi,-⟩:=Y2.ZX;go_upto_region 4 with fail;refine D9 (w3) (.run 13 0 0 (.done)) fun CQ QR Ae Aj hS=>?_
 iterate 13 refine Ak ?_
 refine D5 ?_;clear hS Aj Ae;intro hB;have Bd:AU w w3.drew:=bD Bw;clear hB;by_cases hid:s.ln.arc.id=t.ln.arc.id
 case neg =>
  have ahO:(s.ln.arc.id == t.ln.arc.id)=false:=beq_eq_false_iff_ne.2 hid;have hq:=Hq.1;rw [AX hid] at hq;replace Hq:=AB hq;rw [ahO];clear hid hq;by_cases hm1:m=1
  case neg =>
   have hm':(m != 1)=true:=by simpa using hm1
   have hf:=AB (show (m == 0)=q by rw [<- Hq.1,AX hm1]);clear hm1;go_wp2;go_ret;exact ⟨CP hf.1,Bd⟩
  subst hm1;have hq:=Hq.1;rw [AZ rfl] at hq;replace Hq:=AB hq;clear hq;go_upto_region 12 with fail;obtain ⟨w4,hw4⟩:=BR w3.drew;have Xl:AU w3 w4:=by rw [hw4];exact bD (bR w3)
  rw [<- hw4];rw [<- hw4] at Bd;clear hw4;replace X3:=X3.keep Xl;replace X4:=X4.keep Xl;replace X7:=X7.keep Xl;replace X8:=X8.keep Xl;replace X9:=X9.keep Xl;replace CB:=CB.keep Xl;replace Y1:=Y1.keep Xl;replace Y2:=Y2.keep Xl
  try clear Dk EI EN
  try clear iC aaY
  obtain ⟨Dk,EI,EN,-⟩:=X3.Bl
  try clear lT lU kX kY kZ nP nR nS
  obtain ⟨lT,lU,kX,kY,kZ,nP,nR,nS,-⟩:=Y1.ZX;refine D9 (w4) (.run 14 0 0 (.done)) fun CQ QR Ae Aj hS=>?_
  iterate 14 refine Ak ?_
  refine D5 ?_;clear hS Aj Ae;intro hB;have hB4:AU w4 w4.drew:=bD (bR w4);obtain ⟨W,hW⟩:=BR w4.drew;rw [<- hW];rw [<- hW] at hB4;obtain ⟨RN,DL,Il,TR,TU,Ls,HY2⟩:=WI (bT Bd hB4) (X4.keep hB4) (X7.keep hB4) (X8.keep hB4) (X9.keep hB4) (CB.keep hB4) (Y2.keep hB4);clear hB hB4 hW Xl Bw Bd X3 Dk EI EN X4 Bg CO CU X7 EJ EK F7 X8 Rq Rt SG X9 CB Y1 lT lU kX kY kZ nP nR nS Y2 Zb Zc Zd Ze Zf Zg Zh Zi;go_wp2_with fail;go_loopw [100] (fun u wx=>∃ j:Int,(j=0\/j=1\/j=2)/\u=.int .i64 j/\AU W wx/\(1<=j->J8 f s t s.ln.arc.fr=false)/\(2<=j->J8 f s t s.ln.arc.dst=false)) (fun u _=>2-(intOf u).toNat)
  case atStart => exact ⟨0,AA,rfl,bR W,fun h=>AA,fun h=>AA⟩
  case round =>
   obtain ⟨j,hj,rfl,hb,hl,hr⟩:=hrel;obtain ⟨Hb,Hl,Hr⟩:=CG hb hl hr;have X4:=DL.1.keep hb;have X7:=Il.1.keep hb;have X8:=TR.1.keep hb;have X9:=TU.1.keep hb;have CB:=Ls.1.keep hb;have Y2:=HY2.1.keep hb;clear hb hl hr
   try clear Bg CO CU
   try clear Eo Gu
   obtain ⟨Bg,CO,CU,-⟩:=X4.Bl
   try clear EJ EK F7
   obtain ⟨EJ,EK,F7,-⟩:=X7.Bl
   try clear Rq Rt SG
   obtain ⟨Rq,Rt,SG,-⟩:=X8.Bl;obtain ⟨JU,Jg,JY,-⟩:=X9.Bl;obtain ⟨Gz,Hg,Hu,-⟩:=CB.Bl
   try clear Zb Zc Zd Ze Zf Zg Zh Zi
   obtain ⟨Zb,Zc,Zd,Ze,Zf,Zg,Zh,Zi,-⟩:=Y2.ZX;rcases hj with rfl | rfl | rfl
   ·have hI:∀ w,(Instr.index 124 (.agg #[.int .i64 s.ln.arc.fr,.int .i64 s.ln.arc.dst]) (.int .i64 0)).run prog w=.ok (.int .i64 s.ln.arc.fr) w:=fun _=>by kernel_rfl
    have hlk:=(Km.1.keep (bT RN.1 Hb.1)).look s.ln.arc.fr hw1;unfold BA at hlk
    cases h1:(s.ln.arc.fr == t.ln.arc.fr)
    case false =>
     cases h2:(s.ln.arc.fr == t.ln.arc.dst)
     case false =>
      have hy:=AB (show J8 f s t s.ln.arc.fr=false by simp [J8,h1,h2]);go_wp2;go_roundw
      case rel => exact ⟨1,AA,rfl,bA Hb.1 _,fun h=>by first | exact hy.1 | exact Hl.1 AA,fun h=>by first | omega | exact hy.1⟩
      case measure => simp [intOf]
     case true =>
      have hc:=AB (show (s.ln.arc.fr == t.ln.arc.fr || s.ln.arc.fr == t.ln.arc.dst)=true by rw [h2];simp);go_wp2_with fail;refine (HO.1 s.fst s.snd (f s.ln.arc.fr) _).mono ?_;rintro e w5 ⟨rfl,hb5⟩;have B5:AU W w5:=bT (bA Hb.1 _) hb5;have TV:AO w5 wr.heap.size 42 #[.int .i64 (f s.ln.arc.fr).x,.int .i64 (f s.ln.arc.fr).y]:=(AO.made rfl _ _).keep hb5;clear hb5 X4 Bg CO CU Y2 Zb Zc Zd Ze Zf Zg Zh Zi X7 EJ EK F7 X8 Rq Rt SG X9 JU Jg JY CB Gz Hg Hu hlk
      cases e3:Ee s.fst s.snd (f s.ln.arc.fr)
      case false =>
       have hy:=AB (show J8 f s t s.ln.arc.fr=false by simp [J8,e3]);clear e3;go_wp2;go_roundw
       case rel => exact ⟨1,AA,rfl,B5,fun h=>by first | exact hy.1 | exact Hl.1 AA,fun h=>by first | omega | exact hy.1⟩
       case measure => simp [intOf]
      have E3:=AB e3;clear e3;have X9:=TU.1.keep B5;have CB:=Ls.1.keep B5
      try clear JU Jg JY
      obtain ⟨JU,Jg,JY,-⟩:=X9.Bl
      try clear Gz Hg Hu
      obtain ⟨Gz,Hg,Hu,-⟩:=CB.Bl;obtain ⟨VA,VB,VD,-⟩:=TV.Bl;go_wp2_with fail;refine (HO.1 t.fst t.snd (f s.ln.arc.fr) _).mono ?_;rintro e w6 ⟨rfl,hb6⟩;have B6:AU W w6:=bT B5 hb6;clear hb6 TV VA VB VD X9 JU Jg JY CB Gz Hg Hu
      cases e4:Ee t.fst t.snd (f s.ln.arc.fr)
      case false =>
       have hy:=AB (show J8 f s t s.ln.arc.fr=false by simp [J8,e4]);clear e4;go_wp2;go_roundw
       case rel => exact ⟨1,AA,rfl,B6,fun h=>by first | exact hy.1 | exact Hl.1 AA,fun h=>by first | omega | exact hy.1⟩
       case measure => simp [intOf]
      have hy:=AB (show J8 f s t s.ln.arc.fr=true by simp only [J8,hc.1,E3.1,e4];rfl);have hf:=AB (show true=q by rw [<- Hq.1,hy.1];simp);clear e4;go_wp2;go_ret;exact ⟨CP hf.1,bT RN.1 B6⟩
    case true =>
     have hc:=AB (show (s.ln.arc.fr == t.ln.arc.fr || s.ln.arc.fr == t.ln.arc.dst)=true by rw [h1];simp);go_wp2_with fail;refine (HO.1 s.fst s.snd (f s.ln.arc.fr) _).mono ?_;rintro e w5 ⟨rfl,hb5⟩;have B5:AU W w5:=bT (bA Hb.1 _) hb5;have TV:AO w5 wr.heap.size 42 #[.int .i64 (f s.ln.arc.fr).x,.int .i64 (f s.ln.arc.fr).y]:=(AO.made rfl _ _).keep hb5;clear hb5 X4 Bg CO CU Y2 Zb Zc Zd Ze Zf Zg Zh Zi X7 EJ EK F7 X8 Rq Rt SG X9 JU Jg JY CB Gz Hg Hu hlk
     cases e3:Ee s.fst s.snd (f s.ln.arc.fr)
     case false =>
      have hy:=AB (show J8 f s t s.ln.arc.fr=false by simp [J8,e3]);clear e3;go_wp2;go_roundw
      case rel => exact ⟨1,AA,rfl,B5,fun h=>by first | exact hy.1 | exact Hl.1 AA,fun h=>by first | omega | exact hy.1⟩
      case measure => simp [intOf]
     have E3:=AB e3;clear e3;have X9:=TU.1.keep B5;have CB:=Ls.1.keep B5
     try clear JU Jg JY
     obtain ⟨JU,Jg,JY,-⟩:=X9.Bl
     try clear Gz Hg Hu
     obtain ⟨Gz,Hg,Hu,-⟩:=CB.Bl
     try clear VA VB VD
     obtain ⟨VA,VB,VD,-⟩:=TV.Bl;go_wp2_with fail;refine (HO.1 t.fst t.snd (f s.ln.arc.fr) _).mono ?_;rintro e w6 ⟨rfl,hb6⟩;have B6:AU W w6:=bT B5 hb6;clear hb6 TV VA VB VD X9 JU Jg JY CB Gz Hg Hu
     cases e4:Ee t.fst t.snd (f s.ln.arc.fr)
     case false =>
      have hy:=AB (show J8 f s t s.ln.arc.fr=false by simp [J8,e4]);clear e4;go_wp2;go_roundw
      case rel => exact ⟨1,AA,rfl,B6,fun h=>by first | exact hy.1 | exact Hl.1 AA,fun h=>by first | omega | exact hy.1⟩
      case measure => simp [intOf]
     have hy:=AB (show J8 f s t s.ln.arc.fr=true by simp only [J8,hc.1,E3.1,e4];rfl);have hf:=AB (show true=q by rw [<- Hq.1,hy.1];simp);clear e4;go_wp2;go_ret;exact ⟨CP hf.1,bT RN.1 B6⟩
   ·have hI:∀ w,(Instr.index 124 (.agg #[.int .i64 s.ln.arc.fr,.int .i64 s.ln.arc.dst]) (.int .i64 1)).run prog w=.ok (.int .i64 s.ln.arc.dst) w:=fun _=>by kernel_rfl
    have hlk:=(Km.1.keep (bT RN.1 Hb.1)).look s.ln.arc.dst hw2;unfold BA at hlk
    cases h1:(s.ln.arc.dst == t.ln.arc.fr)
    case false =>
     cases h2:(s.ln.arc.dst == t.ln.arc.dst)
     case false =>
      have hy:=AB (show J8 f s t s.ln.arc.dst=false by simp [J8,h1,h2]);go_wp2;go_roundw
      case rel => exact ⟨2,AA,rfl,bA Hb.1 _,fun h=>by first | exact hy.1 | exact Hl.1 AA,fun h=>by first | omega | exact hy.1⟩
      case measure => simp [intOf]
     case true =>
      have hc:=AB (show (s.ln.arc.dst == t.ln.arc.fr || s.ln.arc.dst == t.ln.arc.dst)=true by rw [h2];simp);go_wp2_with fail;refine (HO.1 s.fst s.snd (f s.ln.arc.dst) _).mono ?_;rintro e w5 ⟨rfl,hb5⟩;have B5:AU W w5:=bT (bA Hb.1 _) hb5;have TV:AO w5 wr.heap.size 42 #[.int .i64 (f s.ln.arc.dst).x,.int .i64 (f s.ln.arc.dst).y]:=(AO.made rfl _ _).keep hb5;clear hb5 X4 Bg CO CU Y2 Zb Zc Zd Ze Zf Zg Zh Zi X7 EJ EK F7 X8 Rq Rt SG X9 JU Jg JY CB Gz Hg Hu hlk
      cases e3:Ee s.fst s.snd (f s.ln.arc.dst)
      case false =>
       have hy:=AB (show J8 f s t s.ln.arc.dst=false by simp [J8,e3]);clear e3;go_wp2;go_roundw
       case rel => exact ⟨2,AA,rfl,B5,fun h=>by first | exact hy.1 | exact Hl.1 AA,fun h=>by first | omega | exact hy.1⟩
       case measure => simp [intOf]
      have E3:=AB e3;clear e3;have X9:=TU.1.keep B5;have CB:=Ls.1.keep B5
      try clear JU Jg JY
      obtain ⟨JU,Jg,JY,-⟩:=X9.Bl
      try clear Gz Hg Hu
      obtain ⟨Gz,Hg,Hu,-⟩:=CB.Bl
      try clear VA VB VD
      obtain ⟨VA,VB,VD,-⟩:=TV.Bl;go_wp2_with fail;refine (HO.1 t.fst t.snd (f s.ln.arc.dst) _).mono ?_;rintro e w6 ⟨rfl,hb6⟩;have B6:AU W w6:=bT B5 hb6;clear hb6 TV VA VB VD X9 JU Jg JY CB Gz Hg Hu
      cases e4:Ee t.fst t.snd (f s.ln.arc.dst)
      case false =>
       have hy:=AB (show J8 f s t s.ln.arc.dst=false by simp [J8,e4]);clear e4;go_wp2;go_roundw
       case rel => exact ⟨2,AA,rfl,B6,fun h=>by first | exact hy.1 | exact Hl.1 AA,fun h=>by first | omega | exact hy.1⟩
       case measure => simp [intOf]
      have hy:=AB (show J8 f s t s.ln.arc.dst=true by simp only [J8,hc.1,E3.1,e4];rfl);have hf:=AB (show true=q by rw [<- Hq.1,hy.1];simp);clear e4;go_wp2;go_ret;exact ⟨CP hf.1,bT RN.1 B6⟩
    case true =>
     have hc:=AB (show (s.ln.arc.dst == t.ln.arc.fr || s.ln.arc.dst == t.ln.arc.dst)=true by rw [h1];simp);go_wp2_with fail;refine (HO.1 s.fst s.snd (f s.ln.arc.dst) _).mono ?_;rintro e w5 ⟨rfl,hb5⟩;have B5:AU W w5:=bT (bA Hb.1 _) hb5;have TV:AO w5 wr.heap.size 42 #[.int .i64 (f s.ln.arc.dst).x,.int .i64 (f s.ln.arc.dst).y]:=(AO.made rfl _ _).keep hb5;clear hb5 X4 Bg CO CU Y2 Zb Zc Zd Ze Zf Zg Zh Zi X7 EJ EK F7 X8 Rq Rt SG X9 JU Jg JY CB Gz Hg Hu hlk
     cases e3:Ee s.fst s.snd (f s.ln.arc.dst)
     case false =>
      have hy:=AB (show J8 f s t s.ln.arc.dst=false by simp [J8,e3]);clear e3;go_wp2;go_roundw
      case rel => exact ⟨2,AA,rfl,B5,fun h=>by first | exact hy.1 | exact Hl.1 AA,fun h=>by first | omega | exact hy.1⟩
      case measure => simp [intOf]
     have E3:=AB e3;clear e3;have X9:=TU.1.keep B5;have CB:=Ls.1.keep B5
     try clear JU Jg JY
     obtain ⟨JU,Jg,JY,-⟩:=X9.Bl
     try clear Gz Hg Hu
     obtain ⟨Gz,Hg,Hu,-⟩:=CB.Bl
     try clear VA VB VD
     obtain ⟨VA,VB,VD,-⟩:=TV.Bl;go_wp2_with fail;refine (HO.1 t.fst t.snd (f s.ln.arc.dst) _).mono ?_;rintro e w6 ⟨rfl,hb6⟩;have B6:AU W w6:=bT B5 hb6;clear hb6 TV VA VB VD X9 JU Jg JY CB Gz Hg Hu
     cases e4:Ee t.fst t.snd (f s.ln.arc.dst)
     case false =>
      have hy:=AB (show J8 f s t s.ln.arc.dst=false by simp [J8,e4]);clear e4;go_wp2;go_roundw
      case rel => exact ⟨2,AA,rfl,B6,fun h=>by first | exact hy.1 | exact Hl.1 AA,fun h=>by first | omega | exact hy.1⟩
      case measure => simp [intOf]
     have hy:=AB (show J8 f s t s.ln.arc.dst=true by simp only [J8,hc.1,E3.1,e4];rfl);have hf:=AB (show true=q by rw [<- Hq.1,hy.1];simp);clear e4;go_wp2;go_ret;exact ⟨CP hf.1,bT RN.1 B6⟩
   ·have hf:=AB (show false=q by rw [<- Hq.1,Hl.1 AA,Hr.1 AA];rfl);go_wp2;go_ret;exact ⟨CP hf.1,bT RN.1 Hb.1⟩
 case pos =>
  have ahO:(s.ln.arc.id == t.ln.arc.id)=true:=beq_iff_eq.2 hid;have hq:=Hq.1;rw [AZ hid] at hq;replace Hq:=AB hq;clear hid hq;clear X7 EJ EK F7 X8 Rq Rt SG X9 CB;go_upto_if 47 with fail;go_cut [48] (fun u wx=>∃ a b:DZ,FX w a/\FX w b/\AO wx w.heap.size 132 #[.pointer (some ⟨a.ln.g,0,none⟩),.int .i64 a.k]/\AO wx (w.heap.size+1) 132 #[.pointer (some ⟨b.ln.g,0,none⟩),.int .i64 b.k]/\XE m a b=q/\a.k<=2097152/\b.k<=2097152/\AU w wx)
  case first =>
   by_cases hsw:t.k<s.k
   ·have hf:=AB (show XE m t s=q by rw [<- Hq.1,AZ hsw]);go_wp2;go_meet
    case rel =>
     refine ⟨t,s,Kt.1,Ks.1,?_,?_,hf.1,htk,hsk,?_⟩
     · exact ((AO.lW (AO.drew X3)).far (p:=⟨w.heap.size+1,0,none⟩) Ah _).far (p:=⟨w.heap.size+1,1,none⟩) Ah _
     · exact AO.lW (((AO.drew X4).far (p:=⟨w.heap.size,0,none⟩) Ah _).far (p:=⟨w.heap.size,1,none⟩) Ah _)
     · exact bS (bS (bS (bS Bd (p:=⟨w.heap.size,0,none⟩) (Cj _) _) (p:=⟨w.heap.size,1,none⟩) (Cj _) _) (p:=⟨w.heap.size+1,0,none⟩) (acr _) _) (p:=⟨w.heap.size+1,1,none⟩) (acr _) _
   ·have hf:=AB (show XE m s t=q by rw [<- Hq.1,AX hsw]);go_wp2;go_meet
    case rel => exact ⟨s,t,Ks.1,Kt.1,AO.drew X3,AO.drew X4,hf.1,hsk,htk,Bd⟩
  case rest =>
  obtain ⟨a,b,Ka,Kb,X3',X4',hf,ha,hb,Bc⟩:=hcut;have Hf:=AB hf;replace Ka:=AB Ka;replace Kb:=AB Kb;clear X3 X4 Dk EI EN Bg CO CU Y1 Y2 lT lU kX kY kZ nP nR nS Zb Zc Zd Ze Zf Zg Zh Zi hf Bd Bw;have Y1:=(Ka.1.keep Bc).line
  try clear apX apY apZ
  try clear az2 azZ
  obtain ⟨apX,apY,apZ,-⟩:=X3'.Bl
  try clear apa apb apc
  try clear aza azb
  obtain ⟨apa,apb,apc,-⟩:=X4'.Bl
  try clear lT lU kX kY kZ nP nR nS
  obtain ⟨lT,lU,kX,kY,kZ,nP,nR,nS,-⟩:=Y1.ZX;have lK:=EL ((a.k:Int)+1);have TF:∀ W,Calls prog 102 #[I8 a] W _:=fun W=>ahd a W;have TL:∀ W,AU w W->Calls prog 103 #[I8 b] W _:=fun W hW=>ahe b W (Kb.1.keep hW);unfold I8 at TF TL;have uN:=TF;have uO:=TL;have q1:0<=(a.k:Int):=AA
  cases h1:((a.k:Int)+1 == (b.k:Int))
  case true =>
   have hf:=AB (show (m == 1)=q by
    rw [<- Hf.1,XE,AZ];have:=eq_of_beq h1
    simp only [lS,Ir,Dq];left;omega)
   clear TF TL uN uO;go_upto_region 7 with fail;refine D9 (wc) (.run 29 0 0 (.done)) fun CQ QR Ae Aj hS=>?_
   iterate 7 refine Ak ?_
   iterate 21 refine JW ?_
   refine Ak ?_;refine D5 ?_;clear hS Aj Ae;intro hB;go_wp2;go_ret;exact ⟨CP hf.1,bT Bc hB⟩
  case false =>
  have hk:¬ a.k+1=b.k:=by have:=ne_of_beq_false h1;omega
  cases h2:(a.ln.arc.fr == a.ln.arc.dst)
  case false =>
   have hf:=AB (show (m == 0)=q by
    rw [<- Hf.1,XE,AX];simp only [lS,h2,Fg hk];simp)
   clear TF TL uN uO;go_upto_region 7 with fail;refine D9 (wc) (.run 29 0 0 (.done)) fun CQ QR Ae Aj hS=>?_
   iterate 7 refine Ak ?_
   iterate 14 refine E5 ?_
   iterate 2 refine JW ?_
   iterate 2 refine E5 ?_
   iterate 2 refine JW ?_
   refine E5 ?_;refine Ak ?_;refine D5 ?_;clear hS Aj Ae;intro hB;go_wp2;go_ret;exact ⟨CP hf.1,bT Bc hB⟩
  case true =>
  cases h3:((a.k:Int) == 0)
  case false =>
   rw [h3] at TF;have HF:=AB TF;have hf:=AB (show (m == 0)=q by
    have h3':¬ a.k=0:=by have:=ne_of_beq_false h3;omega
    rw [<- Hf.1,XE,AX];simp only [lS,h2,Fg hk,Fg h3'];simp)
   clear TF TL uN uO h3;go_upto_region 7 with fail;refine D9 (wc) (.run 22 0 0 (.call 22 8388607 (.run 6 23 8388607 (.done)))) fun CQ QR Ae Aj hS=>?_
   iterate 7 refine Ak ?_
   iterate 15 refine E5 ?_
   refine II (HF.1 _) ?_;clear hS;intro BZ BU hS
   iterate 2 refine E5 ?_
   iterate 2 refine JW ?_
   refine E5 ?_;refine Ak ?_;refine D5 ?_;clear hS Aj Ae;intro hB;go_wp2;go_ret;exact ⟨CP hf.1,bT Bc hB⟩
  case true =>
  rw [h3] at TF;have HF:=AB TF
  cases h4:((b.k:Int) == (b.ln.path.length:Int)-2)
  case false =>
   rw [h4] at TL;have HL:=AB TL;have hf:=AB (show (m == 0)=q by
    have h4':=ne_of_beq_false h4;rw [<- Hf.1,XE,AX];simp only [lS,Fg hk,Fg h4'];simp)
   clear TF TL uN uO h3 h4;go_upto_region 7 with fail;refine D9 (wc) (.run 22 0 0 (.call 22 8388607 (.run 3 23 8388607 (.call 26 134217727 (.take 27 268435455 (.take 28 536870911 (.done))))))) fun CQ QR Ae Aj hS=>?_
   iterate 7 refine Ak ?_
   iterate 15 refine E5 ?_
   refine II (HF.1 _) ?_;clear hS;intro BZ BU hS
   iterate 3 refine E5 ?_
   refine II (HL.1 _ (bT Bc hS)) ?_;clear hS;intro wr2 Du hS;refine E5 ?_;refine Ak ?_;refine D5 ?_;clear hS Aj Ae;intro hB;go_wp2;go_ret;exact ⟨CP hf.1,bT Bc hB⟩
  case true =>
   rw [h4] at TL;have HL:=AB TL;have hf:=AB (show (m == 1)=q by
    have h3':a.k=0:=by have:=eq_of_beq h3;omega
    have h4':=eq_of_beq h4;rw [<- Hf.1,XE,AZ];simp only [lS,h2,JB h3',JB h4'];simp)
   clear TF TL uN uO h3 h4;go_upto_region 7 with fail;refine D9 (wc) (.run 22 0 0 (.call 22 8388607 (.run 3 23 8388607 (.call 26 134217727 (.take 27 268435455 (.take 28 536870911 (.done))))))) fun CQ QR Ae Aj hS=>?_
   iterate 7 refine Ak ?_
   iterate 15 refine E5 ?_
   refine II (HF.1 _) ?_;clear hS;intro BZ BU hS
   iterate 3 refine E5 ?_
   refine II (HL.1 _ (bT Bc hS)) ?_;clear hS;intro wr2 Du hS;refine E5 ?_;refine Ak ?_;refine D5 ?_;clear hS Aj Ae;intro hB;go_wp2;go_ret;exact ⟨CP hf.1,bT Bc hB⟩
theorem apd (a b c d:Pt) (h1:a.x<c.x) (h2:a.x<d.x) (h3:b.x<c.x) (h4:b.x<d.x):KN a b c d=0:=by
 rw [V7];have hac:BP a c=true:=(MX a c).2 (.inl h1);have had:BP a d=true:=(MX a d).2 (.inl h2);have hbc:BP b c=true:=(MX b c).2 (.inl h3);have hbd:BP b d=true:=(MX b d).2 (.inl h4);have hca:=PN hac;have hda:=PN had;have hcb:=PN hbc;have hdb:=PN hbd;have n1:c≠a:=fun e=>by subst e;omega
 have n2:d≠a:=fun e=>by subst e;omega
 have n3:c≠b:=fun e=>by subst e;omega
 have n4:d≠b:=fun e=>by subst e;omega
 obtain ⟨e1,e2,-⟩ | ⟨e1,e2,-⟩:=Xz c d<;>obtain ⟨f1,f2,-⟩ | ⟨f1,f2,-⟩:=Xz a b <;>
  rw [e1,e2,f1,f2]<;>simp [hi,lo,hac,had,hbc,hbd,hca,hda,hcb,hdb,n1,n2,n3,n4]
theorem ape {n s p q M:Int} (h0:0<=s) (h1:s<=n) (hp:p<=M) (hq:q<=M):n*p+s*(q-p)<=n*M:=by
 have e:n*M-(n*p+s*(q-p))=(n-s)*(M-p)+s*(M-q):=by grind
 have:=KY (show 0<=n-s by omega) (show 0<=M-p by omega)
 have:=KY h0 (show 0<=M-q by omega)
 omega
theorem apf {n s p q M:Int} (h0:0<=s) (h1:s<=n) (hp:M<=p) (hq:M<=q):n*M<=n*p+s*(q-p):=by
 have e:(n*p+s*(q-p))-n*M=(n-s)*(p-M)+s*(q-M):=by grind
 have:=KY (show 0<=n-s by omega) (show 0<=p-M by omega)
 have:=KY h0 (show 0<=q-M by omega)
 omega
theorem aio {n s u p q r t:Int} (hn:0<n) (h0:0<=s) (h1:s<=n) (h2:0<=u) (h3:u<=n) (hpr:max p q<min r t)
  (e:n*p+s*(q-p)=n*r+u*(t-r)):False:=by
 have l1:=ape (p:=p) (q:=q) (M:=max p q) h0 h1 AA AA;have l2:=apf (p:=r) (q:=t) (M:=min r t) h2 h3 AA AA
 have:n*max p q<n*min r t:=Int.mul_lt_mul_of_pos_left hpr hn
 omega
theorem apg (a b c d:Pt) (h:max a.x b.x<min c.x d.x):JR a b c d=0:=by
 rw [rV];unfold Fz;split
 case isFalse => rfl
 unfold N9;have id1:BM a b c d*a.x+BM a c c d*(b.x-a.x)=BM a b c d*c.x+BM a c a b*(d.x-c.x):=by unfold BM;grind
 split
 · rfl
 split
 ·split
  · exact apd a b c d AA AA AA AA
  · rfl
 split
 ·rename_i hn;split
  ·rename_i hh;obtain ⟨q1,q2,q3,q4⟩:=hh;exact (aio (n:=-BM a b c d) (s:=-BM a c c d) (u:=-BM a c a b) AA q1 q2 q3 q4 h (by
    rw [SA,SA,SA,SA];omega)).elim
  · rfl
 ·rename_i h0 hn;split
  ·rename_i hh;obtain ⟨q1,q2,q3,q4⟩:=hh;exact (aio (n:=BM a b c d) (s:=BM a c c d) (u:=BM a c a b) AA q1 q2 q3 q4 h id1).elim
  · rfl
theorem aph (a b c d:Pt):Fz a b c d=Fz c d a b:=by
 have hn:EO [a,b,c,d]=EO [c,d,a,b]:=by
  rw [Jh];simp [EO];constructor<;>(rintro ⟨h1,h2,h3,h4⟩;exact ⟨h3,h4,h1,h2⟩)
 unfold Fz;rw [hn];split
 case isFalse => rfl
 unfold N9;have e0:BM c d a b=- BM a b c d:=by unfold BM;grind
 have e1:BM c a a b=BM a c a b*(-1):=by unfold BM;grind
 have e2:BM c a c d=BM a c c d*(-1):=by unfold BM;grind
 have e3:BM a b c d=- BM c d a b:=by rw [e0];omega
 by_cases h1:a=b/\c=d/\¬ a=c
 · rw [AZ h1,AZ ⟨h1.2.1,h1.1,fun e=>h1.2.2 e.symm⟩]
 rw [AX h1,AX (show ¬ (c=d/\a=b/\¬ c=a) from fun e=>h1 ⟨e.2.1,e.1,fun e'=>e.2.2 e'.symm⟩)];rw [e0,e1,e2];by_cases hz:BM a b c d=0
 ·rw [AZ hz,AZ (show-BM a b c d=0 by omega),Wx a b c d];by_cases hh:BM a b a c=0/\BM a b a d=0/\BM c d c a=0/\BM c d c b=0
  · rw [AZ hh,AZ (show BM c d c a=0/\BM c d c b=0/\BM a b a c=0/\BM a b a d=0 from ⟨hh.2.2.1,hh.2.2.2,hh.1,hh.2.1⟩)]
  · rw [AX hh,AX (show ¬ (BM c d c a=0/\BM c d c b=0/\BM a b a c=0/\BM a b a d=0) from fun e=>hh ⟨e.2.2.1,e.2.2.2,e.1,e.2.1⟩)]
 ·rw [AX hz,AX (show ¬ - BM a b c d=0 by omega)];by_cases hneg:BM a b c d<0
  ·rw [AZ hneg,AX (show ¬ - BM a b c d<0 by omega)];congr 1;simp only [eq_iff_iff];omega
  ·rw [AX hneg,AZ (show-BM a b c d<0 by omega)];congr 1;simp only [eq_iff_iff];omega
theorem apj (a b c d:Pt):JR a b c d=JR c d a b:=by rw [rV,rV,aph]
def GN.fst (s:GN):Pt:=s.path.getD s.k AY
def GN.snd (s:GN):Pt:=s.path.getD (s.k+1) AY
def GN.west (s:GN):Int:=min s.fst.x s.snd.x
def GN.east (s:GN):Int:=max s.fst.x s.snd.x
def GN.sg (s:GN):Sg:=⟨s.arc,s.k,s.path.length-1,s.fst,s.snd⟩
def nT (a b:GN):Bool:=decide (a.k+1=b.k) || ((a.arc.fr == a.arc.dst) && decide (a.k=0) && decide ((b.k:Int)=(b.path.length:Int)-2))
def zx (m:Int) (a b:GN):Bool:=if nT a b then m == 1 else m == 0
def zy (f:Int->Pt) (s t:GN) (id:Int):Bool:=(id == t.arc.fr || id == t.arc.dst) && Ee s.fst s.snd (f id) && Ee t.fst t.snd (f id)
def VE (f:Int->Pt) (s t:GN):Bool :=
 if s.arc.id=t.arc.id then (if t.k<s.k then zx (JR s.fst s.snd t.fst t.snd) t s else zx (JR s.fst s.snd t.fst t.snd) s t)
 else if JR s.fst s.snd t.fst t.snd=1 then zy f s t s.arc.fr || zy f s t s.arc.dst
 else JR s.fst s.snd t.fst t.snd == 0
theorem aip (f:Int->Pt) (s t:DZ):Ot f s t=VE f s.abs t.abs:=rfl
def adg (s:GN) (n:Nd):Bool:=!(Ee s.fst s.snd n.pt && !(((s.k:Int) == 0) && (s.arc.fr == n.id)) && !(((s.k:Int) == (s.path.length:Int)-2) && (s.arc.dst == n.id)))
def LX (s:DZ) (n:Nd):Bool:=adg s.abs n
def aiq (f:Int->Pt) (nl:List Nd) (sl:List DZ):Prop :=
 (∀ i j (_:i<j) (hj:j<sl.length),J4 sl[j]<=Oq (sl[i]'(by omega))->Ot f (sl[i]'(by omega)) sl[j]=true)/\∀ s∈sl,∀ n∈nl,LX s n=true
theorem aa0 (l:List Int) (h:OE l=true):l.Pairwise (· < ·):=by
 have h1:∀ j (hj:j+1<l.length),l[j]<l[j+1]:=fun j hj=>by
  unfold OE at h;rw [LK] at h;have:=h j (FQ.2 AA)
  simpa [List.getD,Di hj,Di (show j<l.length by omega)] using this
 have h2:∀ d i (hi:i+d+1<l.length),l[i]'(by omega)<l[i+d+1]:=by
  intro d
  induction d with
  | zero=>intro i hi;exact h1 i hi
  | succ d ih=>intro i hi;have:=ih i AA;have:=h1 (i+d+1) AA;simp only [Nat.add_assoc] at *;omega
 rw [G9];intro i j hi hj hij;have:=h2 (j-i-1) i AA
 simp only [show i+(j-i-1)+1=j by omega] at this;exact this
theorem aa1 {α:Type} (l:List α) (f:α->Bool) (g:α->α->Bool):Zx l f g=true↔(∀ x∈l,f x=true)/\l.Pairwise (fun s t=>g s t=true):=by
 constructor
 ·intro h;constructor
  ·intro x hx;obtain ⟨i,hi,rfl⟩:=EF.1 hx
   cases hf:f l[i]
   · rw [ahZ l f g i hi hf] at h;cases h
   · rfl
  ·rw [G9];intro k i hk hi hki
   cases hg:g l[k] l[i]
   · rw [aha l f g i k hki hi hg] at h;cases h
   · rfl
 ·rintro ⟨h1,h2⟩;rw [G9] at h2;exact ahb l f g (fun i hi=>h1 _ (BO hi)) (fun i k hk hi=>h2 k i AA hi hk)
structure Sound (p:Pl):Prop where
 nodes:(p.nodes.map (·.id)).Pairwise (· < ·)
 AQ:(p.AQ.map (·.id)).Pairwise (· < ·)
 ends:∀ a∈p.AQ,JX p a=true
theorem aa2 {α:Type} (f:α->Int) (l:List α) (h:(l.map f).Pairwise (· < ·)) (a:α) (ha:a∈l):l.find? (fun x=>f x == f a)=some a:=by
 induction l with
 | nil=>cases ha
 | cons b l ih =>
  rw [Ey,P8] at h;rcases FI.1 ha with rfl | ha'
  · simp
  ·have:=h.1 (f a) (FZ ha')
   rw [List.find?_cons_of_neg DR];exact ih h.2 ha'
theorem Sound.path {p:Pl} (hp:Sound p) {a:Ar} (ha:a∈p.AQ):pathOf p a.id=some (AV p a):=by
 unfold pathOf findAr;rw [aa2 (·.id) p.AQ hp.AQ a ha];simp [hp.ends a ha]
theorem Sound.nU {p:Pl} (hp:Sound p) {a:Ar} (ha:a∈p.AQ):FM p a=(List.range ((AV p a).length-1)).map fun k=>⟨a,AV p a,k⟩:=by
 unfold FM;rw [hp.path ha];rfl
theorem Sound.mem {p:Pl} (hp:Sound p) {x:GN} (hx:x∈p.AQ.flatMap (FM p)):x.arc∈p.AQ/\x.path=AV p x.arc/\x.k+1<x.path.length:=by
 obtain ⟨a,ha,hx⟩:=Ii.1 hx;rw [hp.nU ha] at hx;obtain ⟨k,hk,rfl⟩:=Ez.1 hx;have:=FQ.1 hk
 exact ⟨ha,rfl,by show k+1<(AV p a).length;omega⟩
theorem Sound.Py {p:Pl} (hp:Sound p) {x:Nd} (hx:x∈p.nodes):nodeAt p x.id=x.pt:=by
 unfold nodeAt Jm;rw [aa2 (·.id) p.nodes hp.nodes x hx];rfl
theorem Sound.aa3 {p:Pl} (hp:Sound p) {a:Ar} (ha:a∈p.AQ):(∃ x∈p.nodes,x.id=a.fr)/\∃ x∈p.nodes,x.id=a.dst:=by
 have h:=hp.ends a ha;unfold JX at h;rw [ER] at h;obtain ⟨h1,h2⟩:=h;obtain ⟨x,hx⟩:=Option.isSome_iff_exists.1 h1;obtain ⟨y,hy⟩:=Option.isSome_iff_exists.1 h2;exact ⟨⟨x,XV hx,by simpa using List.find?_some hx⟩,⟨y,XV hy,by simpa using List.find?_some hy⟩⟩
theorem Sound.Qd {p:Pl} (hp:Sound p):SI p=(p.AQ.flatMap (FM p)).map GN.sg:=by
 unfold SI;rw [agx];have:∀ l:List Ar,(∀ a∈l,a∈p.AQ)->l.flatMap (fun a=>KE a (AV p a))=l.flatMap (fun a=>(FM p a).map GN.sg):=by
  intro l
  induction l with
  | nil=>intro _;rfl
  | cons a l ih =>
   intro h;rw [N7,N7,ih (fun b hb=>h b (by simp [hb])),hp.nU (h a Ah),IW];rfl
 exact this _ fun a ha=>ha
theorem Sound.pw {p:Pl} (hp:Sound p):(p.AQ.flatMap (FM p)).Pairwise (fun x y=>x.arc.id=y.arc.id->x.arc=y.arc/\x.k<y.k):=by
 rw [yO];constructor
 ·intro a ha;rw [hp.nU ha,IX];exact List.pairwise_lt_range.imp fun h _=>⟨rfl,h⟩
 ·have h:=hp.AQ;rw [IX] at h;refine (List.Pairwise.and_mem.1 h).imp ?_;rintro a b ⟨ha,hb,hlt⟩ x hx y hy he;rw [hp.nU ha] at hx;rw [hp.nU hb] at hy;obtain ⟨k,-,rfl⟩:=Ez.1 hx;obtain ⟨m,-,rfl⟩:=Ez.1 hy;have he':a.id=b.id:=he;omega
theorem Sound.apk {p:Pl} (hp:Sound p) {x:GN} (hx:x∈p.AQ.flatMap (FM p)) (h:x.k=0):x.fst=nodeAt p x.arc.fr:=by
 obtain ⟨-,h2,-⟩:=hp.mem hx;unfold GN.fst;rw [h2,h];rfl
theorem Sound.apl {p:Pl} (hp:Sound p) {x:GN} (hx:x∈p.AQ.flatMap (FM p)) (h:(x.k:Int)=(x.path.length:Int)-2):x.snd=nodeAt p x.arc.dst:=by
 obtain ⟨-,h2,h3⟩:=hp.mem hx;unfold GN.snd
 have:x.k+1=x.arc.via.length+1:=by rw [h2,Fa] at h;omega
 rw [h2,this];unfold AV;rw [ace,Gm,List.getElem?_append_right (Cj _)];simp
theorem Sound.chain {p:Pl} (hp:Sound p) {x y:GN} (hx:x∈p.AQ.flatMap (FM p)) (hy:y∈p.AQ.flatMap (FM p)) (ha:x.arc=y.arc) (hc:nT x y=true):x.west<=y.east/\y.west<=x.east:=by
 have apm:x.path=y.path:=by rw [(hp.mem hx).2.1,(hp.mem hy).2.1,ha]
 unfold nT at hc;rw [Ir] at hc;unfold GN.west GN.east;rcases hc with hc | hc
 ·have hk:x.k+1=y.k:=by simpa using hc
  have e:x.snd=y.fst:=by unfold GN.snd GN.fst;rw [apm,hk]
  rw [e];omega
 ·simp only [ER,Dq,beq_iff_eq] at hc;obtain ⟨⟨h1,h2⟩,h3⟩:=hc;have e:x.fst=y.snd:=by rw [hp.apk hx h2,hp.apl hy h3,h1,ha]
  rw [e];omega
theorem Sound.apC {p:Pl} (hp:Sound p) (f:Int->Pt) {x y:GN} (hx:x∈p.AQ.flatMap (FM p)) (hy:y∈p.AQ.flatMap (FM p)) (hd:x.arc.id=y.arc.id->x.arc=y.arc) (h:x.east<y.west):VE f x y=true:=by
 have hm:JR x.fst x.snd y.fst y.snd=0:=apg _ _ _ _ h;have hle:y.west<=y.east:=by unfold GN.west GN.east;omega
 have hle':x.west<=x.east:=by unfold GN.west GN.east;omega
 unfold VE;rw [hm];by_cases hid:x.arc.id=y.arc.id
 ·have ha:=hd hid;rw [AZ hid];have n1:nT x y=false:=by
   rw [<- IL];intro hc;have:=hp.chain hx hy ha hc;omega
  have n2:nT y x=false:=by
   rw [<- IL];intro hc;have:=hp.chain hy hx ha.symm hc;omega
  simp [zx,n1,n2]
 · simp [hid]
theorem Sound.sym {p:Pl} {x y:GN} (hd:x.arc.id=y.arc.id->x.k≠y.k):VE (nodeAt p) x y=VE (nodeAt p) y x:=by
 unfold VE;rw [apj y.fst y.snd x.fst x.snd];by_cases hid:x.arc.id=y.arc.id
 ·have hk:=hd hid;rw [AZ hid,AZ hid.symm];by_cases hlt:y.k<x.k
  · rw [AZ hlt,AX (show ¬ x.k<y.k by omega)]
  · rw [AX hlt,AZ (show x.k<y.k by omega)]
 ·rw [AX hid,AX (show ¬ y.arc.id=x.arc.id from fun e=>hid e.symm)];split
  ·rw [Jh];simp only [zy,Ir,ER,beq_iff_eq];constructor
   · rintro (⟨⟨h1,h2⟩,h3⟩ | ⟨⟨h1,h2⟩,h3⟩)<;>rcases h1 with h1 | h1<;>rw [h1] at h2 h3<;>simp [h1,h2,h3]
   · rintro (⟨⟨h1,h2⟩,h3⟩ | ⟨⟨h1,h2⟩,h3⟩)<;>rcases h1 with h1 | h1<;>rw [h1] at h2 h3<;>simp [h1,h2,h3]
  · rfl
theorem Sound.pair {p:Pl} (hp:Sound p) {x y:GN} (hx:x∈p.AQ.flatMap (FM p)) (hy:y∈p.AQ.flatMap (FM p)) (hd:x.arc.id=y.arc.id->x.arc=y.arc/\x.k<y.k):NC p x.sg y.sg=VE (nodeAt p) x y:=by
 obtain ⟨mx,px,kx⟩:=hp.mem hx;obtain ⟨my,py,ky⟩:=hp.mem hy;unfold NC VE
 show (if x.arc.id=y.arc.id then _ else _)=_
 by_cases hid:x.arc.id=y.arc.id
 ·obtain ⟨ha,hk⟩:=hd hid;rw [AZ hid,AZ hid,AX (show ¬ y.k<x.k by omega)];unfold Rw zx nT;rw [rV]
  show (if y.k=x.k+1\/(x.k=0/\y.k+1=y.path.length-1/\x.arc.fr=x.arc.dst) then Fz x.fst x.snd y.fst y.snd == 1 else Fz x.fst x.snd y.fst y.snd == 0)=_
  have:(y.k=x.k+1\/(x.k=0/\y.k+1=y.path.length-1/\x.arc.fr=x.arc.dst))↔(decide (x.k+1=y.k) || ((x.arc.fr == x.arc.dst) && decide (x.k=0) && decide ((y.k:Int)=(y.path.length:Int)-2)))=true:=by
   simp only [Ir,ER,Dq,beq_iff_eq];constructor
   ·rintro (h | ⟨h1,h2,h3⟩)
    · left;omega
    · right;exact ⟨⟨h3,h1⟩,AA⟩
   ·rintro (h | ⟨⟨h1,h2⟩,h3⟩)
    · left;omega
    · right;exact ⟨h2,AA,h1⟩
  simp only [this]
 ·rw [AX hid,AX hid];unfold Oh;rw [rV]
  show (if Fz x.fst x.snd y.fst y.snd=1 then _ else Fz x.fst x.snd y.fst y.snd == 0)=_
  split
  ·rw [Jh,OA];simp only [Og,V8,zy,Ir,ER,beq_iff_eq,GN.sg,<- ae7];constructor
   ·rintro ⟨n,hn,⟨⟨⟨h1,h2⟩,h3⟩,h4⟩⟩;have hpt:=hp.Py hn;rw [<- hpt] at h3 h4;rcases h1 with h1 | h1
    ·left;rw [h1];exact ⟨⟨by rcases h2 with h2 | h2<;>simp [h2],h3⟩,h4⟩
    ·right;rw [h1];exact ⟨⟨by rcases h2 with h2 | h2<;>simp [h2],h3⟩,h4⟩
   ·obtain ⟨⟨n1,hn1,e1⟩,⟨n2,hn2,e2⟩⟩:=hp.aa3 mx;rintro (⟨⟨h1,h2⟩,h3⟩ | ⟨⟨h1,h2⟩,h3⟩)
    ·refine ⟨n1,hn1,⟨⟨⟨.inl e1.symm,by rcases h1 with h1 | h1<;>simp [e1,h1]⟩,?_⟩,?_⟩⟩
     · rw [<- hp.Py hn1,e1];exact h2
     · rw [<- hp.Py hn1,e1];exact h3
    ·refine ⟨n2,hn2,⟨⟨⟨.inr e2.symm,by rcases h1 with h1 | h1<;>simp [e2,h1]⟩,?_⟩,?_⟩⟩
     · rw [<- hp.Py hn2,e2];exact h2
     · rw [<- hp.Py hn2,e2];exact h3
  · rfl
theorem Sound.free {p:Pl} (hp:Sound p) {x:GN} (hx:x∈p.AQ.flatMap (FM p)) (n:Nd):adg x n=Qx x.sg n:=by
 obtain ⟨mx,px,kx⟩:=hp.mem hx;unfold adg Qx Qw;rw [ae7]
 show _=((((x.k:Int) == 0) && (x.arc.fr == n.id)) || (((x.k:Int) == ((x.path.length-1:Nat):Int)-1) && (x.arc.dst == n.id)) || !LQ x.fst x.snd n.pt)
 rw [show ((x.path.length-1:Nat):Int)-1=(x.path.length:Int)-2 by omega]
 cases LQ x.fst x.snd n.pt<;>cases (((x.k:Int) == 0) && (x.arc.fr == n.id))<;>cases (((x.k:Int) == (x.path.length:Int)-2) && (x.arc.dst == n.id))<;>rfl
theorem Sound.air {p:Pl} (hp:Sound p):p.AQ.all (KQ p)=true↔∀ x∈p.AQ.flatMap (FM p),Tn x.sg=true:=by
 rw [LK];constructor
 ·intro h x hx;obtain ⟨mx,px,kx⟩:=hp.mem hx;have ha:=h _ mx;unfold KQ at ha;rw [hp.path mx] at ha;simp only [ER,QM,acX,beq_eq_false_iff_ne,JH] at ha;obtain ⟨h1,h2⟩:=ha;rw [<- px] at h1 h2;unfold Tn;simp only [ER,QM,JH,Ir,bne_iff_ne,Dq]
  show ¬ x.fst=x.snd/\(x.arc.fr≠x.arc.dst\/3<=((x.path.length-1:Nat):Int))
  constructor
  ·intro e;unfold YA at h2;rw [LK] at h2;have:=h2 x.k (FQ.2 AA)
   simp only [QM,JH] at this;exact this e
  ·rcases h1 with h1 | h1
   · exact .inl h1
   · right;omega
 ·intro h a ha;unfold KQ;rw [hp.path ha];have hmem:∀ k,k+1<(AV p a).length->(⟨a,AV p a,k⟩:GN)∈p.AQ.flatMap (FM p):=fun k hk=>by
   refine Ii.2 ⟨a,ha,?_⟩;rw [hp.nU ha];exact Ez.2 ⟨k,FQ.2 AA,rfl⟩
  have hs:∀ k,k+1<(AV p a).length->¬ (AV p a).getD k AY=(AV p a).getD (k+1) AY/\(a.fr≠a.dst\/3<=(((AV p a).length-1:Nat):Int)):=fun k hk=>by
   have:=h _ (hmem k hk)
   unfold Tn at this;simp only [ER,QM,JH,Ir,bne_iff_ne,Dq] at this;exact this
  have hl:=Fa p a;simp only [ER,QM,acX,beq_eq_false_iff_ne,JH];constructor
  ·rcases (hs 0 AA).2 with h1 | h1
   · exact .inl h1
   · right;omega
  ·unfold YA;rw [LK];intro k hk;have hk:=FQ.1 hk;simpa using (hs k AA).1
theorem Sound.apD {p:Pl} (hp:Sound p) (hok:p.AQ.all (KQ p)=true) (sl:List DZ) (hs:(sl.map DZ.abs).Perm (p.AQ.flatMap (FM p))):aiq (nodeAt p) p.nodes sl↔MZ p=true:=by
 generalize hL:p.AQ.flatMap (FM p)=L at *;have Zj:∀ {x},x∈L->x∈p.AQ.flatMap (FM p):=fun h=>by rw [hL];exact h
 have hpw:L.Pairwise (fun x y=>x.arc.id=y.arc.id->x.arc=y.arc/\x.k<y.k):=by rw [<- hL];exact hp.pw
 have hdist:L.Pairwise (fun x y=>x.arc.id=y.arc.id->x.arc=y.arc/\x.k≠y.k):=hpw.imp fun h e=>⟨(h e).1,by have:=(h e).2;omega⟩;have ais:(sl.map DZ.abs).Pairwise (fun x y=>x.arc.id=y.arc.id->x.arc=y.arc/\x.k≠y.k) :=
  (hs.pairwise_iff (fun h e=>⟨(h e.symm).1.symm,fun e'=>(h e.symm).2 e'.symm⟩)).2 hdist
 have ait:∀ {x},x∈sl.map DZ.abs->x∈p.AQ.flatMap (FM p):=fun h=>Zj (hs.mem_iff.1 h)
 let R:GN->GN->Prop:=fun x y=>VE (nodeAt p) x y=true/\VE (nodeAt p) y x=true
 have h1:(sl.map DZ.abs).Pairwise R↔L.Pairwise R:=hs.pairwise_iff (fun h=>⟨h.2,h.1⟩);have h2:L.Pairwise R↔(L.map GN.sg).Pairwise (fun s t=>NC p s t=true):=by
  rw [IX,G9,G9];rw [G9] at hpw;constructor
  ·intro h i j hi hj hij;rw [hp.pair (Zj (BO hi)) (Zj (BO hj)) (hpw i j hi hj hij)];exact (h i j hi hj hij).1
  ·intro h i j hi hj hij;have hh:=h i j hi hj hij;have ho:=hpw i j hi hj hij;rw [hp.pair (Zj (BO hi)) (Zj (BO hj)) ho] at hh;refine ⟨hh,?_⟩;rw [<- Sound.sym (p:=p) (fun e=>by have:=(ho e).2;omega)];exact hh
 have h3:(∀ i j (_:i<j) (hj:j<sl.length),J4 sl[j]<=Oq (sl[i]'(by omega))->Ot (nodeAt p) (sl[i]'(by omega)) sl[j]=true)↔(sl.map DZ.abs).Pairwise R:=by
  rw [G9];rw [G9] at ais;constructor
  ·intro h i j hi hj hij;have hj':j<sl.length:=by simpa using hj
   have mi:=ait (BO hi);have mj:=ait (BO hj);have hd:=ais i j hi hj hij;have hc:VE (nodeAt p) ((sl.map DZ.abs)[i]) ((sl.map DZ.abs)[j])=true:=by
    by_cases hw:J4 sl[j]<=Oq (sl[i]'(by omega))
    ·have:=h i j hij hj' hw
     rw [aip] at this;simpa using this
    ·refine hp.apC (nodeAt p) mi mj (fun e=>(hd e).1) ?_;have hlt:Oq (sl[i]'(by omega))<J4 sl[j]:=AA
     rw [Iu,Iu];exact hlt
   refine ⟨hc,?_⟩;rw [<- Sound.sym (p:=p) (fun e=>(hd e).2)];exact hc
  ·intro h i j hij hj _;have:=(h i j DR ZE hij).1
   rw [aip];simpa using this
 have h4:(∀ s∈sl,∀ n∈p.nodes,LX s n=true)↔∀ x∈L,p.nodes.all (Qx x.sg)=true:=by
  constructor
  ·intro h x hx;rw [LK];intro n hn;obtain ⟨s,hs',rfl⟩:=Ez.1 (hs.mem_iff.2 hx);rw [<- hp.free (Zj hx)];exact h s hs' n hn
  ·intro h s hs' n hn;have hx:=hs.mem_iff.1 (FZ (f:=DZ.abs) hs');have:=LK.1 (h _ hx) n hn
   unfold LX;rw [hp.free (Zj hx)];exact this
 unfold aiq MZ;rw [hp.Qd,hL,aa1,h3,h1,h2,h4,and_comm];refine and_congr_left fun _=>?_;constructor
 ·intro h s hs';obtain ⟨x,hx,rfl⟩:=Ez.1 hs';unfold Px;rw [h x hx,hp.air.1 hok x (Zj hx)];rfl
 ·intro h x hx;have:=h _ (FZ (f:=GN.sg) hx)
  unfold Px at this;rw [ER] at this;exact this.1
theorem Sound.apE {p:Pl} (hp:Sound p) (hok:p.AQ.all (KQ p)=false):MZ p=false:=by
 rw [<- IL];intro h;unfold MZ at h;rw [aa1,hp.Qd] at h
 have:p.AQ.all (KQ p)=true:=hp.air.2 fun x hx=>by
  have:=h.1 _ (FZ (f:=GN.sg) hx)
  unfold Px at this;rw [ER] at this;exact this.2
 rw [hok] at this
 cases this
def fD (l:List Nd):Int->Pt:=l.foldl (fun f n=>fun i=>if i=n.id then n.pt else f i) (fun _=>z0)
theorem apF (l:List Nd) (k:Nat) (hk:k<l.length):fD (l.take (k+1))=fun i=>if i=l[k].id then l[k].pt else fD (l.take k) i:=by
 unfold fD;rw [Em hk,WC];rfl
theorem apG (p:Pl) (h:(p.nodes.map (·.id)).Pairwise (· < ·)):fD p.nodes=nodeAt p:=by
 unfold nodeAt Jm;generalize p.nodes=l at *;have gen:∀ (l:List Nd) (f:Int->Pt),(l.map (·.id)).Pairwise (· < ·)->∀ i,(l.foldl (fun f n=>fun i=>if i=n.id then n.pt else f i) f) i=match l.find? (fun n=>n.id == i) with | some n=>n.pt | none=>f i:=by
  intro l
  induction l with
  | nil=>intro f _ i;rfl
  | cons a l ih =>
   intro f h i;rw [Ey,P8] at h;rw [kH,ih _ h.2];by_cases e:a.id=i
   ·rw [List.find?_cons_of_pos (by simp [e])]
    have:l.find? (fun n=>n.id == i)=none:=by
     rw [List.find?_eq_none];intro x hx;have:=h.1 x.id (FZ hx)
     simp;omega
    rw [this];simp [e]
   ·rw [List.find?_cons_of_neg (by simp [e])];split
    · rfl
    · rw [AX (fun e'=>e e'.symm)]
 funext i
 have:=gen l (fun _=>z0) h i
 unfold fD;rw [this]
 cases l.find? (fun n=>n.id == i)<;>rfl
