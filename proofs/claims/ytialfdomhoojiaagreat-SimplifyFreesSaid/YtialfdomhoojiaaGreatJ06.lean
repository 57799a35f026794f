import Derived.Test.YtialfdomhoojiaaGreatJ05
import Derived.Test.YtialfdomhoojiaaGreatGB
import Derived.Test.YtialfdomhoojiaaGreatJ04
import Derived.Test.YtialfdomhoojiaaGreatJ03
set_option linter.unusedSimpArgs false
set_option linter.unusedVariables false
namespace Go.Proofs.YtialfdomhoojiaaGreat
open Go.RowKit
def DV (a b:bJ):Bool:=decide (a.k+1=b.k) || ((a.ln.arc.fr == a.ln.arc.dst) && decide (a.k=0) && decide ((b.k:Int)=(b.ln.path.length:Int)-2))
def vg (m:Int) (a b:bJ):Bool:=if DV a b then m == 1 else m == 0
def iy (f:Int->Pt) (s t:bJ) (id:Int):Bool:=(id == t.ln.arc.fr || id == t.ln.arc.dst) && dV s.fst s.snd (f id) && dV t.fst t.snd (f id)
def lJ (f:Int->Pt) (s t:bJ):Bool :=
 if s.ln.arc.id=t.ln.arc.id then (if t.k<s.k then vg (iK s.fst s.snd t.fst t.snd) t s else vg (iK s.fst s.snd t.fst t.snd) s t)
 else if iK s.fst s.snd t.fst t.snd=1 then iy f s t s.ln.arc.fr || iy f s t s.ln.arc.dst
 else iK s.fst s.snd t.fst t.snd == 0
theorem eU.line {w:World} {s:bJ} (h:eU w s):ah w s.ln.g 237 #[.int .i64 s.ln.arc.id,.int .i64 s.ln.arc.fr,.int .i64 s.ln.arc.dst,.slice s.ln.via.a s.ln.via.n s.ln.via.c,.int .i64 s.ln.arc.left,.int .i64 s.ln.arc.right,.slice s.ln.pa s.ln.path.length s.ln.pc]:=h.1.1
set_option maxRecDepth 100000 in
set_option maxHeartbeats 4000000 in
theorem acZ (f:Int->Pt) (mb n:Nat) (s t:bJ) (w:World) (hs:eU w s) (ht:eU w t) (hm:iI w mb n f)
  (hw1:cZ s.ln.arc.fr) (hw2:cZ s.ln.arc.dst) :
  Calls Tryz.prog 230 #[fZ s,fZ t,.map (some mb)] w fun e w'=>e=.returned (.bool (lJ f s t))/\Below w.heap.size w w':=by
 have TS:∀ W,Below w.heap.size w W->Calls Tryz.prog 231 #[fZ s] W _:=fun W hW=>F7 s W (hs.keep hW);have TT:∀ W,Below w.heap.size w W->Calls Tryz.prog 231 #[fZ t] W _:=fun W hW=>F7 t W (ht.keep hW);have TM:∀ W,Calls Tryz.prog 260 #[aF s.fst,aF s.snd,aF t.fst,aF t.snd] W _:=fun W=>abD s.fst s.snd t.fst t.snd W;have TO:∀ p q r:Pt,∀ W,Calls Tryz.prog 28 #[aF p,aF q,aF r] W _:=fun p q r W=>zY p q r W;unfold fZ aF at TS TT;unfold aF at TM TO;unfold fZ;have HS:=Lib.hid TS;have HT:=Lib.hid TT;have HM:=Lib.hid TM;have HO:=Lib.hid TO;have Ks:=Lib.hid hs;have Kt:=Lib.hid ht;have Km:=Lib.hid hm;have hsk:s.k<=2097152:=by have:=hs.2;omega
 have htk:t.k<=2097152:=by have:=ht.2;omega
 clear TS TT TM TO hs ht hm;obtain ⟨q,hq⟩:∃ q,lJ f s t=q:=⟨_,rfl⟩;rw [hq];unfold lJ at hq;have Hq:=Lib.hid hq;clear hq;go_enter Tryz.func230,Tryz.ntmps230;go_wp2_with fail;refine (HS.out _ (bA (bA (bR w) _) _)).mono ?_;rintro e w1 ⟨rfl,hb1,-⟩;have Bw:Below w.heap.size w w1:=by
  repeat (first | with_reducible exact bR _ | with_reducible assumption | with_reducible refine bA ?_ _ | with_reducible refine bD ?_ | with_reducible refine bN ?_ _ | ((with_reducible refine bS ?_ ?_ _);rotate_left;(simp;try omega)) | ((with_reducible refine bT ?_ ?_);rotate_left;with_reducible assumption) | with_reducible refine bT ?_ (by assumption))
 have X3:ah _ (w.heap.size) 230 #[.pointer (some ⟨s.ln.g,0,none⟩),.int .i64 s.k]:=ah.keep (by repeat (first | exact ah.made (by simp) _ _ | refine ah.alloc ?_ _)) hb1;have X4:ah _ (w.heap.size+1) 230 #[.pointer (some ⟨t.ln.g,0,none⟩),.int .i64 t.k]:=ah.keep (by repeat (first | exact ah.made (by simp) _ _ | refine ah.alloc ?_ _)) hb1;clear hb1;obtain ⟨aW,aX,aY,-,-⟩:=X3.aO;obtain ⟨aU,aV,bQ,-,-⟩:=X4.aO;go_wp2_with fail;refine (HT.out _ (bA (bA Bw _) _)).mono ?_;rintro e w2 ⟨rfl,hb2,-⟩;have X7:ah w2 w1.heap.size 39 #[.int .i64 s.fst.x,.int .i64 s.fst.y]:=((ah.made rfl _ _).alloc _).keep hb2;have X8:ah w2 (w1.heap.size+1) 39 #[.int .i64 s.snd.x,.int .i64 s.snd.y]:=(ah.made (by simp) _ _).keep hb2;replace X3:=((X3.alloc _).alloc _).keep hb2;replace X4:=((X4.alloc _).alloc _).keep hb2;replace Bw:=bT (bA (bA Bw _) _) hb2;clear hb2
 try clear aW
 try clear aX
 try clear aY
 obtain ⟨aW,aX,aY,-,-⟩:=X3.aO
 try clear aU
 try clear aV
 try clear bQ
 obtain ⟨aU,aV,bQ,-,-⟩:=X4.aO;obtain ⟨fU,fV,nC,-,-⟩:=X7.aO;obtain ⟨qB,qC,rV,-,-⟩:=X8.aO;go_wp2_with fail;refine (HM.out _).mono ?_;rintro e w3 ⟨rfl,hb3⟩;have X9:ah w3 w2.heap.size 39 #[.int .i64 t.fst.x,.int .i64 t.fst.y]:=((ah.made rfl _ _).alloc _).keep hb3;have dZ:ah w3 (w2.heap.size+1) 39 #[.int .i64 t.snd.x,.int .i64 t.snd.y]:=(ah.made (by simp) _ _).keep hb3;replace X3:=((X3.alloc _).alloc _).keep hb3;replace X4:=((X4.alloc _).alloc _).keep hb3;replace X7:=((X7.alloc _).alloc _).keep hb3;replace X8:=((X8.alloc _).alloc _).keep hb3;replace Bw:=bT (bA (bA Bw _) _) hb3;clear hb3;generalize iK s.fst s.snd t.fst t.snd=m at *;have Y1:=(Ks.out.keep Bw).line;have Y2:=(Kt.out.keep Bw).line
 try clear aW
 try clear aX
 try clear aY
 obtain ⟨aW,aX,aY,F8,Vd⟩:=X3.aO
 try clear aU
 try clear aV
 try clear bQ
 obtain ⟨aU,aV,bQ,dW,gq⟩:=X4.aO;obtain ⟨DW,DX,DY,DZ,D5,D6,D7,D8,-,-,-,-,-,-,-⟩:=Y1.yI;obtain ⟨yL,yM,yN,yO,yP,yQ,yR,yS,-,-,-,-,-,-,-⟩:=Y2.yI;go_upto_region 4 with fail;refine dN (Since w3) (.run 13 0 0 (.done)) (by kernel_rfl) (bD (bR _)) (by kernel_rfl) (by kernel_rfl) (Nat.le_of_ble_eq_true (by kernel_rfl)) ?_;intro dO QR aj aA hS
 iterate 13
  apply aH;exact aj;exact rfl;exact hS;exact rfl
  · intro _ hqc;go_simp;try rfl
  try simp only [pu]
 refine dF ?_;refine aA.down _ _ ?_;have hB:Below w3.heap.size w3 w3.drew:=hS;clear hS aA aj;have Bd:Below w.heap.size w w3.drew:=bD Bw;clear hB;by_cases hid:s.ln.arc.id=t.ln.arc.id
 case neg =>
  have Vw:(s.ln.arc.id == t.ln.arc.id)=false:=beq_eq_false_iff_ne.2 hid;have hq:=Hq.out;rw [if_neg hid] at hq;replace Hq:=Lib.hid hq;rw [Vw];clear hid hq;by_cases hm1:m=1
  case neg =>
   have hm':(m != 1)=true:=by simpa using hm1
   have hf:=Lib.hid (show (m == 0)=q by rw [<- Hq.out,if_neg hm1]);clear hm1;go_wp2_with fail;go_ret;exact ⟨aT hf.out,Bd⟩
  subst hm1;have hq:=Hq.out;rw [if_pos rfl] at hq;replace Hq:=Lib.hid hq;clear hq;go_upto_region 12 with fail;obtain ⟨w4,hw4⟩:∃ w4:World,w4=w3.drew:=⟨_,rfl⟩;have wK:Below w3.heap.size w3 w4:=by rw [hw4];exact bD (bR w3)
  rw [<- hw4];rw [<- hw4] at Bd;clear hw4;replace X3:=X3.keep wK;replace X4:=X4.keep wK;replace X7:=X7.keep wK;replace X8:=X8.keep wK;replace X9:=X9.keep wK;replace dZ:=dZ.keep wK;replace Y1:=Y1.keep wK;replace Y2:=Y2.keep wK
  try clear aW
  try clear aX
  try clear aY
  try clear F8
  try clear Vd
  obtain ⟨aW,aX,aY,-,-⟩:=X3.aO
  try clear DW
  try clear DX
  try clear DY
  try clear DZ
  try clear D5
  try clear D6
  try clear D7
  try clear D8
  obtain ⟨DW,DX,DY,DZ,D5,D6,D7,D8,-,-,-,-,-,-,-⟩:=Y1.yI;refine dN (Since w4) (.run 14 0 0 (.done)) (by kernel_rfl) (bD (bR _)) (by kernel_rfl) (by kernel_rfl) (Nat.le_of_ble_eq_true (by kernel_rfl)) ?_;intro dO QR aj aA hS
  iterate 14
   apply aH;exact aj;exact rfl;exact hS;exact rfl
   · intro _ hqc;go_simp;try rfl
   try simp only [pu]
  refine dF ?_;refine aA.down _ _ ?_;have hB:Below w4.heap.size w4 w4.drew:=hS;clear hS aA aj;have hB4:Below w4.heap.size w4 w4.drew:=bD (bR w4);obtain ⟨W,hW⟩:∃ W:World,W=w4.drew:=⟨_,rfl⟩;rw [<- hW];rw [<- hW] at hB4;have oV:=Lib.hid (bT Bd hB4);have dJ:=Lib.hid (X4.keep hB4);have lK:=Lib.hid (X7.keep hB4);have OB:=Lib.hid (X8.keep hB4);have mF:=Lib.hid (X9.keep hB4);have ou:=Lib.hid (dZ.keep hB4);have HY2:=Lib.hid (Y2.keep hB4);clear hB hB4 hW wK Bw Bd X3 aW aX aY X4 aU aV bQ X7 fU fV nC X8 qB qC rV X9 dZ Y1 DW DX DY DZ D5 D6 D7 D8 Y2 yL yM yN yO yP yQ yR yS;go_wp2_with fail;go_loopw [100] (fun u wx=>∃ j:Int,(j=0\/j=1\/j=2)/\u=.int .i64 j/\Below W.heap.size W wx/\(1<=j->iy f s t s.ln.arc.fr=false)/\(2<=j->iy f s t s.ln.arc.dst=false)) (fun u _=>2-(intOf u).toNat)
  case atStart => exact ⟨0,by omega,rfl,bR W,fun h=>by omega,fun h=>by omega⟩
  case round =>
   obtain ⟨j,hj,rfl,hb,hl,hr⟩:=hrel;have Hb:=Lib.hid hb;have Hl:=Lib.hid hl;have Hr:=Lib.hid hr;have X4:=dJ.out.keep hb;have X7:=lK.out.keep hb;have X8:=OB.out.keep hb;have X9:=mF.out.keep hb;have dZ:=ou.out.keep hb;have Y2:=HY2.out.keep hb;clear hb hl hr
   try clear aU
   try clear aV
   try clear bQ
   try clear dW
   try clear gq
   obtain ⟨aU,aV,bQ,-,-⟩:=X4.aO
   try clear fU
   try clear fV
   try clear nC
   obtain ⟨fU,fV,nC,-,-⟩:=X7.aO
   try clear qB
   try clear qC
   try clear rV
   obtain ⟨qB,qC,rV,-,-⟩:=X8.aO;obtain ⟨iW,iY,iZ,-,-⟩:=X9.aO;obtain ⟨jm,jo,jq,-,-⟩:=dZ.aO
   try clear yL
   try clear yM
   try clear yN
   try clear yO
   try clear yP
   try clear yQ
   try clear yR
   try clear yS
   obtain ⟨yL,yM,yN,yO,yP,yQ,yR,yS,-,-,-,-,-,-,-⟩:=Y2.yI;rcases hj with rfl | rfl | rfl
   ·have hI:∀ w,(Instr.index 116 (.agg #[.int .i64 s.ln.arc.fr,.int .i64 s.ln.arc.dst]) (.int .i64 0)).run Tryz.prog w=.ok (.int .i64 s.ln.arc.fr) w:=fun _=>by kernel_rfl
    have hlk:=(Km.out.keep (bT oV.out Hb.out)).look s.ln.arc.fr hw1;unfold aF at hlk
    cases h1:(s.ln.arc.fr == t.ln.arc.fr)
    case false =>
     cases h2:(s.ln.arc.fr == t.ln.arc.dst)
     case false =>
      have hy:=Lib.hid (show iy f s t s.ln.arc.fr=false by simp [iy,h1,h2]);go_wp2_with fail;go_roundw
      case rel => exact ⟨1,by omega,rfl,bA Hb.out _,fun h=>by first | exact hy.out | exact Hl.out (by omega),fun h=>by first | omega | exact hy.out⟩
      case measure => simp [intOf]
     case true =>
      have hc:=Lib.hid (show (s.ln.arc.fr == t.ln.arc.fr || s.ln.arc.fr == t.ln.arc.dst)=true by rw [h2];simp);go_wp2_with fail;refine (HO.out s.fst s.snd (f s.ln.arc.fr) _).mono ?_;rintro e w5 ⟨rfl,hb5⟩;have B5:Below W.heap.size W w5:=bT (bA Hb.out _) hb5;have qH:ah w5 wr.heap.size 39 #[.int .i64 (f s.ln.arc.fr).x,.int .i64 (f s.ln.arc.fr).y]:=(ah.made rfl _ _).keep hb5;clear hb5 X4 aU aV bQ Y2 yL yM yN yO yP yQ yR yS X7 fU fV nC X8 qB qC rV X9 iW iY iZ dZ jm jo jq hlk
      cases e3:dV s.fst s.snd (f s.ln.arc.fr)
      case false =>
       have hy:=Lib.hid (show iy f s t s.ln.arc.fr=false by simp [iy,e3]);clear e3;go_wp2_with fail;go_roundw
       case rel => exact ⟨1,by omega,rfl,B5,fun h=>by first | exact hy.out | exact Hl.out (by omega),fun h=>by first | omega | exact hy.out⟩
       case measure => simp [intOf]
      have E3:=Lib.hid e3;clear e3;have X9:=mF.out.keep B5;have dZ:=ou.out.keep B5
      try clear iW
      try clear iY
      try clear iZ
      obtain ⟨iW,iY,iZ,-,-⟩:=X9.aO
      try clear jm
      try clear jo
      try clear jq
      obtain ⟨jm,jo,jq,-,-⟩:=dZ.aO;obtain ⟨uh,uj,um,-,-⟩:=qH.aO;go_wp2_with fail;refine (HO.out t.fst t.snd (f s.ln.arc.fr) _).mono ?_;rintro e w6 ⟨rfl,hb6⟩;have B6:Below W.heap.size W w6:=bT B5 hb6;clear hb6 qH uh uj um X9 iW iY iZ dZ jm jo jq
      cases e4:dV t.fst t.snd (f s.ln.arc.fr)
      case false =>
       have hy:=Lib.hid (show iy f s t s.ln.arc.fr=false by simp [iy,e4]);clear e4;go_wp2_with fail;go_roundw
       case rel => exact ⟨1,by omega,rfl,B6,fun h=>by first | exact hy.out | exact Hl.out (by omega),fun h=>by first | omega | exact hy.out⟩
       case measure => simp [intOf]
      have hy:=Lib.hid (show iy f s t s.ln.arc.fr=true by simp only [iy,hc.out,E3.out,e4];rfl);have hf:=Lib.hid (show true=q by rw [<- Hq.out,hy.out];simp);clear e4;go_wp2_with fail;go_ret;exact ⟨aT hf.out,bT oV.out B6⟩
    case true =>
     have hc:=Lib.hid (show (s.ln.arc.fr == t.ln.arc.fr || s.ln.arc.fr == t.ln.arc.dst)=true by rw [h1];simp);go_wp2_with fail;refine (HO.out s.fst s.snd (f s.ln.arc.fr) _).mono ?_;rintro e w5 ⟨rfl,hb5⟩;have B5:Below W.heap.size W w5:=bT (bA Hb.out _) hb5;have qH:ah w5 wr.heap.size 39 #[.int .i64 (f s.ln.arc.fr).x,.int .i64 (f s.ln.arc.fr).y]:=(ah.made rfl _ _).keep hb5;clear hb5 X4 aU aV bQ Y2 yL yM yN yO yP yQ yR yS X7 fU fV nC X8 qB qC rV X9 iW iY iZ dZ jm jo jq hlk
     cases e3:dV s.fst s.snd (f s.ln.arc.fr)
     case false =>
      have hy:=Lib.hid (show iy f s t s.ln.arc.fr=false by simp [iy,e3]);clear e3;go_wp2_with fail;go_roundw
      case rel => exact ⟨1,by omega,rfl,B5,fun h=>by first | exact hy.out | exact Hl.out (by omega),fun h=>by first | omega | exact hy.out⟩
      case measure => simp [intOf]
     have E3:=Lib.hid e3;clear e3;have X9:=mF.out.keep B5;have dZ:=ou.out.keep B5
     try clear iW
     try clear iY
     try clear iZ
     obtain ⟨iW,iY,iZ,-,-⟩:=X9.aO
     try clear jm
     try clear jo
     try clear jq
     obtain ⟨jm,jo,jq,-,-⟩:=dZ.aO
     try clear uh
     try clear uj
     try clear um
     obtain ⟨uh,uj,um,-,-⟩:=qH.aO;go_wp2_with fail;refine (HO.out t.fst t.snd (f s.ln.arc.fr) _).mono ?_;rintro e w6 ⟨rfl,hb6⟩;have B6:Below W.heap.size W w6:=bT B5 hb6;clear hb6 qH uh uj um X9 iW iY iZ dZ jm jo jq
     cases e4:dV t.fst t.snd (f s.ln.arc.fr)
     case false =>
      have hy:=Lib.hid (show iy f s t s.ln.arc.fr=false by simp [iy,e4]);clear e4;go_wp2_with fail;go_roundw
      case rel => exact ⟨1,by omega,rfl,B6,fun h=>by first | exact hy.out | exact Hl.out (by omega),fun h=>by first | omega | exact hy.out⟩
      case measure => simp [intOf]
     have hy:=Lib.hid (show iy f s t s.ln.arc.fr=true by simp only [iy,hc.out,E3.out,e4];rfl);have hf:=Lib.hid (show true=q by rw [<- Hq.out,hy.out];simp);clear e4;go_wp2_with fail;go_ret;exact ⟨aT hf.out,bT oV.out B6⟩
   ·have hI:∀ w,(Instr.index 116 (.agg #[.int .i64 s.ln.arc.fr,.int .i64 s.ln.arc.dst]) (.int .i64 1)).run Tryz.prog w=.ok (.int .i64 s.ln.arc.dst) w:=fun _=>by kernel_rfl
    have hlk:=(Km.out.keep (bT oV.out Hb.out)).look s.ln.arc.dst hw2;unfold aF at hlk
    cases h1:(s.ln.arc.dst == t.ln.arc.fr)
    case false =>
     cases h2:(s.ln.arc.dst == t.ln.arc.dst)
     case false =>
      have hy:=Lib.hid (show iy f s t s.ln.arc.dst=false by simp [iy,h1,h2]);go_wp2_with fail;go_roundw
      case rel => exact ⟨2,by omega,rfl,bA Hb.out _,fun h=>by first | exact hy.out | exact Hl.out (by omega),fun h=>by first | omega | exact hy.out⟩
      case measure => simp [intOf]
     case true =>
      have hc:=Lib.hid (show (s.ln.arc.dst == t.ln.arc.fr || s.ln.arc.dst == t.ln.arc.dst)=true by rw [h2];simp);go_wp2_with fail;refine (HO.out s.fst s.snd (f s.ln.arc.dst) _).mono ?_;rintro e w5 ⟨rfl,hb5⟩;have B5:Below W.heap.size W w5:=bT (bA Hb.out _) hb5;have qH:ah w5 wr.heap.size 39 #[.int .i64 (f s.ln.arc.dst).x,.int .i64 (f s.ln.arc.dst).y]:=(ah.made rfl _ _).keep hb5;clear hb5 X4 aU aV bQ Y2 yL yM yN yO yP yQ yR yS X7 fU fV nC X8 qB qC rV X9 iW iY iZ dZ jm jo jq hlk
      cases e3:dV s.fst s.snd (f s.ln.arc.dst)
      case false =>
       have hy:=Lib.hid (show iy f s t s.ln.arc.dst=false by simp [iy,e3]);clear e3;go_wp2_with fail;go_roundw
       case rel => exact ⟨2,by omega,rfl,B5,fun h=>by first | exact hy.out | exact Hl.out (by omega),fun h=>by first | omega | exact hy.out⟩
       case measure => simp [intOf]
      have E3:=Lib.hid e3;clear e3;have X9:=mF.out.keep B5;have dZ:=ou.out.keep B5
      try clear iW
      try clear iY
      try clear iZ
      obtain ⟨iW,iY,iZ,-,-⟩:=X9.aO
      try clear jm
      try clear jo
      try clear jq
      obtain ⟨jm,jo,jq,-,-⟩:=dZ.aO
      try clear uh
      try clear uj
      try clear um
      obtain ⟨uh,uj,um,-,-⟩:=qH.aO;go_wp2_with fail;refine (HO.out t.fst t.snd (f s.ln.arc.dst) _).mono ?_;rintro e w6 ⟨rfl,hb6⟩;have B6:Below W.heap.size W w6:=bT B5 hb6;clear hb6 qH uh uj um X9 iW iY iZ dZ jm jo jq
      cases e4:dV t.fst t.snd (f s.ln.arc.dst)
      case false =>
       have hy:=Lib.hid (show iy f s t s.ln.arc.dst=false by simp [iy,e4]);clear e4;go_wp2_with fail;go_roundw
       case rel => exact ⟨2,by omega,rfl,B6,fun h=>by first | exact hy.out | exact Hl.out (by omega),fun h=>by first | omega | exact hy.out⟩
       case measure => simp [intOf]
      have hy:=Lib.hid (show iy f s t s.ln.arc.dst=true by simp only [iy,hc.out,E3.out,e4];rfl);have hf:=Lib.hid (show true=q by rw [<- Hq.out,hy.out];simp);clear e4;go_wp2_with fail;go_ret;exact ⟨aT hf.out,bT oV.out B6⟩
    case true =>
     have hc:=Lib.hid (show (s.ln.arc.dst == t.ln.arc.fr || s.ln.arc.dst == t.ln.arc.dst)=true by rw [h1];simp);go_wp2_with fail;refine (HO.out s.fst s.snd (f s.ln.arc.dst) _).mono ?_;rintro e w5 ⟨rfl,hb5⟩;have B5:Below W.heap.size W w5:=bT (bA Hb.out _) hb5;have qH:ah w5 wr.heap.size 39 #[.int .i64 (f s.ln.arc.dst).x,.int .i64 (f s.ln.arc.dst).y]:=(ah.made rfl _ _).keep hb5;clear hb5 X4 aU aV bQ Y2 yL yM yN yO yP yQ yR yS X7 fU fV nC X8 qB qC rV X9 iW iY iZ dZ jm jo jq hlk
     cases e3:dV s.fst s.snd (f s.ln.arc.dst)
     case false =>
      have hy:=Lib.hid (show iy f s t s.ln.arc.dst=false by simp [iy,e3]);clear e3;go_wp2_with fail;go_roundw
      case rel => exact ⟨2,by omega,rfl,B5,fun h=>by first | exact hy.out | exact Hl.out (by omega),fun h=>by first | omega | exact hy.out⟩
      case measure => simp [intOf]
     have E3:=Lib.hid e3;clear e3;have X9:=mF.out.keep B5;have dZ:=ou.out.keep B5
     try clear iW
     try clear iY
     try clear iZ
     obtain ⟨iW,iY,iZ,-,-⟩:=X9.aO
     try clear jm
     try clear jo
     try clear jq
     obtain ⟨jm,jo,jq,-,-⟩:=dZ.aO
     try clear uh
     try clear uj
     try clear um
     obtain ⟨uh,uj,um,-,-⟩:=qH.aO;go_wp2_with fail;refine (HO.out t.fst t.snd (f s.ln.arc.dst) _).mono ?_;rintro e w6 ⟨rfl,hb6⟩;have B6:Below W.heap.size W w6:=bT B5 hb6;clear hb6 qH uh uj um X9 iW iY iZ dZ jm jo jq
     cases e4:dV t.fst t.snd (f s.ln.arc.dst)
     case false =>
      have hy:=Lib.hid (show iy f s t s.ln.arc.dst=false by simp [iy,e4]);clear e4;go_wp2_with fail;go_roundw
      case rel => exact ⟨2,by omega,rfl,B6,fun h=>by first | exact hy.out | exact Hl.out (by omega),fun h=>by first | omega | exact hy.out⟩
      case measure => simp [intOf]
     have hy:=Lib.hid (show iy f s t s.ln.arc.dst=true by simp only [iy,hc.out,E3.out,e4];rfl);have hf:=Lib.hid (show true=q by rw [<- Hq.out,hy.out];simp);clear e4;go_wp2_with fail;go_ret;exact ⟨aT hf.out,bT oV.out B6⟩
   ·have hf:=Lib.hid (show false=q by rw [<- Hq.out,Hl.out (by omega),Hr.out (by omega)];rfl);go_wp2_with fail;go_ret;exact ⟨aT hf.out,bT oV.out Hb.out⟩
 case pos =>
  have Vw:(s.ln.arc.id == t.ln.arc.id)=true:=beq_iff_eq.2 hid;have hq:=Hq.out;rw [if_pos hid] at hq;replace Hq:=Lib.hid hq;clear hid hq;clear X7 fU fV nC X8 qB qC rV X9 dZ;go_upto_if 47 with fail;go_cut [48] (fun u wx=>∃ a b:bJ,eU w a/\eU w b/\ah wx w.heap.size 230 #[.pointer (some ⟨a.ln.g,0,none⟩),.int .i64 a.k]/\ah wx (w.heap.size+1) 230 #[.pointer (some ⟨b.ln.g,0,none⟩),.int .i64 b.k]/\vg m a b=q/\a.k<=2097152/\b.k<=2097152/\Below w.heap.size w wx)
  case first =>
   by_cases hsw:t.k<s.k
   ·have hf:=Lib.hid (show vg m t s=q by rw [<- Hq.out,if_pos hsw]);go_wp2_with fail;go_meet
    case rel =>
     refine ⟨t,s,Kt.out,Ks.out,?_,?_,hf.out,htk,hsk,?_⟩
     · exact ((ah.Jc (ah.drew X3)).far (p:=⟨w.heap.size+1,0,none⟩) (by simp) _).far (p:=⟨w.heap.size+1,1,none⟩) (by simp) _
     · exact ah.Jc (((ah.drew X4).far (p:=⟨w.heap.size,0,none⟩) (by simp) _).far (p:=⟨w.heap.size,1,none⟩) (by simp) _)
     · exact bS (bS (bS (bS Bd (p:=⟨w.heap.size,0,none⟩) (Nat.le_refl _) _) (p:=⟨w.heap.size,1,none⟩) (Nat.le_refl _) _) (p:=⟨w.heap.size+1,0,none⟩) (Nat.le_succ _) _) (p:=⟨w.heap.size+1,1,none⟩) (Nat.le_succ _) _
   ·have hf:=Lib.hid (show vg m s t=q by rw [<- Hq.out,if_neg hsw]);go_wp2_with fail;go_meet
    case rel => exact ⟨s,t,Ks.out,Kt.out,ah.drew X3,ah.drew X4,hf.out,hsk,htk,Bd⟩
  case rest =>
  obtain ⟨a,b,Ka,Kb,X3',X4',hf,ha,hb,Bc⟩:=hcut;have Hf:=Lib.hid hf;replace Ka:=Lib.hid Ka;replace Kb:=Lib.hid Kb;clear X3 X4 aW aX aY aU aV bQ Y1 Y2 DW DX DY DZ D5 D6 D7 D8 yL yM yN yO yP yQ yR yS hf Bd Bw;have Y1:=(Ka.out.keep Bc).line
  try clear ac0
  try clear ac1
  try clear ac2
  try clear ajv
  try clear ajw
  obtain ⟨ac0,ac1,ac2,-,-⟩:=X3'.aO
  try clear ac3
  try clear ac4
  try clear ac5
  try clear ajx
  try clear ajy
  obtain ⟨ac3,ac4,ac5,-,-⟩:=X4'.aO
  try clear DW
  try clear DX
  try clear DY
  try clear DZ
  try clear D5
  try clear D6
  try clear D7
  try clear D8
  obtain ⟨DW,DX,DY,DZ,D5,D6,D7,D8,-,-,-,-,-,-,-⟩:=Y1.yI;have JB:IntKind.i64.wrap ((a.k:Int)+1)=(a.k:Int)+1:=IntWalk.i64_in _ (by omega);have TF:∀ W,Calls Tryz.prog 232 #[fZ a] W _:=fun W=>Ve a W;have TL:∀ W,Below w.heap.size w W->Calls Tryz.prog 233 #[fZ b] W _:=fun W hW=>Vf b W (Kb.out.keep hW);unfold fZ at TF TL;have Gg:=TF;have Gh:=TL;have q1:0<=(a.k:Int):=by omega
  cases h1:((a.k:Int)+1 == (b.k:Int))
  case true =>
   have hf:=Lib.hid (show (m == 1)=q by
    rw [<- Hf.out,vg,if_pos];have:=eq_of_beq h1
    simp only [DV,Bool.or_eq_true,decide_eq_true_eq];left;omega)
   clear TF TL Gg Gh;go_upto_region 7 with fail;refine dN (Since wc) (.run 29 0 0 (.done)) (by kernel_rfl) (bD (bR _)) (by kernel_rfl) (by kernel_rfl) (Nat.le_of_ble_eq_true (by kernel_rfl)) ?_;intro dO QR aj aA hS
   iterate 7
    apply aH;exact aj;exact rfl;exact hS;exact rfl
    · intro _ hqc;go_simp;try rfl
    try simp only [pu]
   iterate 21
    refine iH aj rfl hS rfl rfl rfl rfl rfl ?_
    try simp only [pu]
   apply aH;exact aj;exact rfl;exact hS;exact rfl
   · intro _ hqc;go_simp;try rfl
   try simp only [pu]
   refine dF ?_;refine aA.down _ _ ?_;have hB:Below wc.heap.size wc wc.drew:=hS;clear hS aA aj;go_wp2_with fail;go_ret;exact ⟨aT hf.out,bT Bc hB⟩
  case false =>
  have hk:¬ a.k+1=b.k:=by have:=ne_of_beq_false h1;omega
  cases h2:(a.ln.arc.fr == a.ln.arc.dst)
  case false =>
   have hf:=Lib.hid (show (m == 0)=q by
    rw [<- Hf.out,vg,if_neg];simp only [DV,h2,decide_eq_false hk];simp)
   clear TF TL Gg Gh;go_upto_region 7 with fail;refine dN (Since wc) (.run 29 0 0 (.done)) (by kernel_rfl) (bD (bR _)) (by kernel_rfl) (by kernel_rfl) (Nat.le_of_ble_eq_true (by kernel_rfl)) ?_;intro dO QR aj aA hS
   iterate 7
    apply aH;exact aj;exact rfl;exact hS;exact rfl
    · intro _ hqc;go_simp;try rfl
    try simp only [pu]
   iterate 14
    apply dw;exact aj;exact rfl;exact hS;iterate 4 exact rfl
    · intro _ hqc;go_simp;try rfl
    try simp only [pu]
   iterate 2
    refine iH aj rfl hS rfl rfl rfl rfl rfl ?_
    try simp only [pu]
   iterate 2
    apply dw;exact aj;exact rfl;exact hS;iterate 4 exact rfl
    · intro _ hqc;go_simp;try rfl
    try simp only [pu]
   iterate 2
    refine iH aj rfl hS rfl rfl rfl rfl rfl ?_
    try simp only [pu]
   apply dw;exact aj;exact rfl;exact hS;iterate 4 exact rfl
   · intro _ hqc;go_simp;try rfl
   try simp only [pu]
   apply aH;exact aj;exact rfl;exact hS;exact rfl
   · intro _ hqc;go_simp;try rfl
   try simp only [pu]
   refine dF ?_;refine aA.down _ _ ?_;have hB:Below wc.heap.size wc wc.drew:=hS;clear hS aA aj;go_wp2_with fail;go_ret;exact ⟨aT hf.out,bT Bc hB⟩
  case true =>
  cases h3:((a.k:Int) == 0)
  case false =>
   rw [h3] at TF;have HF:=Lib.hid TF;have hf:=Lib.hid (show (m == 0)=q by
    have h3':¬ a.k=0:=by have:=ne_of_beq_false h3;omega
    rw [<- Hf.out,vg,if_neg];simp only [DV,h2,decide_eq_false hk,decide_eq_false h3'];simp)
   clear TF TL Gg Gh h3;go_upto_region 7 with fail;refine dN (Since wc) (.run 22 0 0 (.call 22 8388607 (.run 6 23 8388607 (.done)))) (by kernel_rfl) (bD (bR _)) (by kernel_rfl) (by kernel_rfl) (Nat.le_of_ble_eq_true (by kernel_rfl)) ?_;intro dO QR aj aA hS
   iterate 7
    apply aH;exact aj;exact rfl;exact hS;exact rfl
    · intro _ hqc;go_simp;try rfl
    try simp only [pu]
   iterate 15
    apply dw;exact aj;exact rfl;exact hS;iterate 4 exact rfl
    · intro _ hqc;go_simp;try rfl
    try simp only [pu]
   refine aS (i:=22) (aB aj rfl) (fun K hK=>?_);have ak:=Lib.hid hS;clear hS;refine aG (ig rfl (aB aj rfl) rfl rfl) ?_;go_simp;refine (HF.out _).mono ?_;rintro e bY ⟨rfl,dB⟩;have hS:Since wc bY:=bT (w:=wc) ak.out dB;clear ak;refine hK.out _ _ hS (fun _=>?_);clear hK K
   try simp only [pu]
   iterate 2
    apply dw;exact aj;exact rfl;exact hS;iterate 4 exact rfl
    · intro _ hqc;go_simp;try rfl
    try simp only [pu]
   iterate 2
    refine iH aj rfl hS rfl rfl rfl rfl rfl ?_
    try simp only [pu]
   apply dw;exact aj;exact rfl;exact hS;iterate 4 exact rfl
   · intro _ hqc;go_simp;try rfl
   try simp only [pu]
   apply aH;exact aj;exact rfl;exact hS;exact rfl
   · intro _ hqc;go_simp;try rfl
   try simp only [pu]
   refine dF ?_;refine aA.down _ _ ?_;have hB:Below wc.heap.size wc bY:=hS;clear hS aA aj;go_wp2_with fail;go_ret;exact ⟨aT hf.out,bT Bc hB⟩
  case true =>
  rw [h3] at TF;have HF:=Lib.hid TF
  cases h4:((b.k:Int) == (b.ln.path.length:Int)-2)
  case false =>
   rw [h4] at TL;have HL:=Lib.hid TL;have hf:=Lib.hid (show (m == 0)=q by
    have h4':=ne_of_beq_false h4;rw [<- Hf.out,vg,if_neg];simp only [DV,decide_eq_false hk,decide_eq_false h4'];simp)
   clear TF TL Gg Gh h3 h4;go_upto_region 7 with fail;refine dN (Since wc) (.run 22 0 0 (.call 22 8388607 (.run 3 23 8388607 (.call 26 134217727 (.take 27 268435455 (.take 28 536870911 (.done))))))) (by kernel_rfl) (bD (bR _)) (by kernel_rfl) (by kernel_rfl) (Nat.le_of_ble_eq_true (by kernel_rfl)) ?_;intro dO QR aj aA hS
   iterate 7
    apply aH;exact aj;exact rfl;exact hS;exact rfl
    · intro _ hqc;go_simp;try rfl
    try simp only [pu]
   iterate 15
    apply dw;exact aj;exact rfl;exact hS;iterate 4 exact rfl
    · intro _ hqc;go_simp;try rfl
    try simp only [pu]
   refine aS (i:=22) (aB aj rfl) (fun K hK=>?_);have ak:=Lib.hid hS;clear hS;refine aG (ig rfl (aB aj rfl) rfl rfl) ?_;go_simp;refine (HF.out _).mono ?_;rintro e bY ⟨rfl,dB⟩;have hS:Since wc bY:=bT (w:=wc) ak.out dB;clear ak;refine hK.out _ _ hS (fun _=>?_);clear hK K
   try simp only [pu]
   iterate 3
    apply dw;exact aj;exact rfl;exact hS;iterate 4 exact rfl
    · intro _ hqc;go_simp;try rfl
    try simp only [pu]
   refine aS (i:=26) (aB aj rfl) (fun K hK=>?_);have ak:=Lib.hid hS;clear hS;refine aG (ig rfl (aB aj rfl) rfl rfl) ?_;go_simp;refine (HL.out _ (bT Bc ak.out)).mono ?_;rintro e wr2 ⟨rfl,fG⟩;have hS:Since wc wr2:=bT (w:=wc) ak.out fG;clear ak;refine hK.out _ _ hS (fun _=>?_);clear hK K
   try simp only [pu]
   apply dw;exact aj;exact rfl;exact hS;iterate 4 exact rfl
   · intro _ hqc;go_simp;try rfl
   try simp only [pu]
   apply aH;exact aj;exact rfl;exact hS;exact rfl
   · intro _ hqc;go_simp;try rfl
   try simp only [pu]
   refine dF ?_;refine aA.down _ _ ?_;have hB:Below wc.heap.size wc wr2:=hS;clear hS aA aj;go_wp2_with fail;go_ret;exact ⟨aT hf.out,bT Bc hB⟩
  case true =>
   rw [h4] at TL;have HL:=Lib.hid TL;have hf:=Lib.hid (show (m == 1)=q by
    have h3':a.k=0:=by have:=eq_of_beq h3;omega
    have h4':=eq_of_beq h4;rw [<- Hf.out,vg,if_pos];simp only [DV,h2,decide_eq_true h3',decide_eq_true h4'];simp)
   clear TF TL Gg Gh h3 h4;go_upto_region 7 with fail;refine dN (Since wc) (.run 22 0 0 (.call 22 8388607 (.run 3 23 8388607 (.call 26 134217727 (.take 27 268435455 (.take 28 536870911 (.done))))))) (by kernel_rfl) (bD (bR _)) (by kernel_rfl) (by kernel_rfl) (Nat.le_of_ble_eq_true (by kernel_rfl)) ?_;intro dO QR aj aA hS
   iterate 7
    apply aH;exact aj;exact rfl;exact hS;exact rfl
    · intro _ hqc;go_simp;try rfl
    try simp only [pu]
   iterate 15
    apply dw;exact aj;exact rfl;exact hS;iterate 4 exact rfl
    · intro _ hqc;go_simp;try rfl
    try simp only [pu]
   refine aS (i:=22) (aB aj rfl) (fun K hK=>?_);have ak:=Lib.hid hS;clear hS;refine aG (ig rfl (aB aj rfl) rfl rfl) ?_;go_simp;refine (HF.out _).mono ?_;rintro e bY ⟨rfl,dB⟩;have hS:Since wc bY:=bT (w:=wc) ak.out dB;clear ak;refine hK.out _ _ hS (fun _=>?_);clear hK K
   try simp only [pu]
   iterate 3
    apply dw;exact aj;exact rfl;exact hS;iterate 4 exact rfl
    · intro _ hqc;go_simp;try rfl
    try simp only [pu]
   refine aS (i:=26) (aB aj rfl) (fun K hK=>?_);have ak:=Lib.hid hS;clear hS;refine aG (ig rfl (aB aj rfl) rfl rfl) ?_;go_simp;refine (HL.out _ (bT Bc ak.out)).mono ?_;rintro e wr2 ⟨rfl,fG⟩;have hS:Since wc wr2:=bT (w:=wc) ak.out fG;clear ak;refine hK.out _ _ hS (fun _=>?_);clear hK K
   try simp only [pu]
   apply dw;exact aj;exact rfl;exact hS;iterate 4 exact rfl
   · intro _ hqc;go_simp;try rfl
   try simp only [pu]
   apply aH;exact aj;exact rfl;exact hS;exact rfl
   · intro _ hqc;go_simp;try rfl
   try simp only [pu]
   refine dF ?_;refine aA.down _ _ ?_;have hB:Below wc.heap.size wc wr2:=hS;clear hS aA aj;go_wp2_with fail;go_ret;exact ⟨aT hf.out,bT Bc hB⟩
theorem ac6 (a b c d:Pt) (h1:a.x<c.x) (h2:a.x<d.x) (h3:b.x<c.x) (h4:b.x<d.x):kR a b c d=0:=by
 rw [wF];have hac:bn a c=true:=(kF a c).2 (.inl h1);have had:bn a d=true:=(kF a d).2 (.inl h2);have hbc:bn b c=true:=(kF b c).2 (.inl h3);have hbd:bn b d=true:=(kF b d).2 (.inl h4);have hca:=l9 hac;have hda:=l9 had;have hcb:=l9 hbc;have hdb:=l9 hbd;have n1:c≠a:=fun e=>by subst e;omega
 have n2:d≠a:=fun e=>by subst e;omega
 have n3:c≠b:=fun e=>by subst e;omega
 have n4:d≠b:=fun e=>by subst e;omega
 obtain ⟨e1,e2,-⟩ | ⟨e1,e2,-⟩:=wG c d<;>obtain ⟨f1,f2,-⟩ | ⟨f1,f2,-⟩:=wG a b <;>
  rw [e1,e2,f1,f2]<;>simp [hi,lo,hac,had,hbc,hbd,hca,hda,hcb,hdb,n1,n2,n3,n4]
theorem ac7 {n s p q M:Int} (h0:0<=s) (h1:s<=n) (hp:p<=M) (hq:q<=M):n*p+s*(q-p)<=n*M:=by
 have e:n*M-(n*p+s*(q-p))=(n-s)*(M-p)+s*(M-q):=by grind
 have:=Int.mul_nonneg (show 0<=n-s by omega) (show 0<=M-p by omega)
 have:=Int.mul_nonneg h0 (show 0<=M-q by omega)
 omega
theorem ac8 {n s p q M:Int} (h0:0<=s) (h1:s<=n) (hp:M<=p) (hq:M<=q):n*M<=n*p+s*(q-p):=by
 have e:(n*p+s*(q-p))-n*M=(n-s)*(p-M)+s*(q-M):=by grind
 have:=Int.mul_nonneg (show 0<=n-s by omega) (show 0<=p-M by omega)
 have:=Int.mul_nonneg h0 (show 0<=q-M by omega)
 omega
theorem Vx {n s u p q r t:Int} (hn:0<n) (h0:0<=s) (h1:s<=n) (h2:0<=u) (h3:u<=n) (hpr:max p q<min r t)
  (e:n*p+s*(q-p)=n*r+u*(t-r)):False:=by
 have l1:=ac7 (p:=p) (q:=q) (M:=max p q) h0 h1 (by omega) (by omega);have l2:=ac8 (p:=r) (q:=t) (M:=min r t) h2 h3 (by omega) (by omega)
 have:n*max p q<n*min r t:=Int.mul_lt_mul_of_pos_left hpr hn
 omega
theorem ac9 (a b c d:Pt) (h:max a.x b.x<min c.x d.x):iK a b c d=0:=by
 rw [FQ];unfold gV;split
 case isFalse => rfl
 unfold uV;have id1:aC a b c d*a.x+aC a c c d*(b.x-a.x)=aC a b c d*c.x+aC a c a b*(d.x-c.x):=by unfold aC;grind
 split
 · rfl
 split
 ·split
  · exact ac6 a b c d (by omega) (by omega) (by omega) (by omega)
  · rfl
 split
 ·rename_i hn;split
  ·rename_i hh;obtain ⟨q1,q2,q3,q4⟩:=hh;exact (Vx (n:=-aC a b c d) (s:=-aC a c c d) (u:=-aC a c a b) (by omega) q1 q2 q3 q4 h (by
    rw [Int.neg_mul,Int.neg_mul,Int.neg_mul,Int.neg_mul];omega)).elim
  · rfl
 ·rename_i h0 hn;split
  ·rename_i hh;obtain ⟨q1,q2,q3,q4⟩:=hh;exact (Vx (n:=aC a b c d) (s:=aC a c c d) (u:=aC a c a b) (by omega) q1 q2 q3 q4 h id1).elim
  · rfl
theorem Vy (a b c d:Pt):gV a b c d=gV c d a b:=by
 have hn:dU [a,b,c,d]=dU [c,d,a,b]:=by
  rw [Bool.eq_iff_iff];simp [dU];constructor<;>(rintro ⟨h1,h2,h3,h4⟩;exact ⟨h3,h4,h1,h2⟩)
 unfold gV;rw [hn];split
 case isFalse => rfl
 unfold uV;have e0:aC c d a b=- aC a b c d:=by unfold aC;grind
 have e1:aC c a a b=aC a c a b*(-1):=by unfold aC;grind
 have e2:aC c a c d=aC a c c d*(-1):=by unfold aC;grind
 have e3:aC a b c d=- aC c d a b:=by rw [e0];omega
 by_cases h1:a=b/\c=d/\¬ a=c
 · rw [if_pos h1,if_pos ⟨h1.2.1,h1.1,fun e=>h1.2.2 e.symm⟩]
 rw [if_neg h1,if_neg (show ¬ (c=d/\a=b/\¬ c=a) from fun e=>h1 ⟨e.2.1,e.1,fun e'=>e.2.2 e'.symm⟩)];rw [e0,e1,e2];by_cases hz:aC a b c d=0
 ·rw [if_pos hz,if_pos (show-aC a b c d=0 by omega),DK a b c d];by_cases hh:aC a b a c=0/\aC a b a d=0/\aC c d c a=0/\aC c d c b=0
  · rw [if_pos hh,if_pos (show aC c d c a=0/\aC c d c b=0/\aC a b a c=0/\aC a b a d=0 from ⟨hh.2.2.1,hh.2.2.2,hh.1,hh.2.1⟩)]
  · rw [if_neg hh,if_neg (show ¬ (aC c d c a=0/\aC c d c b=0/\aC a b a c=0/\aC a b a d=0) from fun e=>hh ⟨e.2.2.1,e.2.2.2,e.1,e.2.1⟩)]
 ·rw [if_neg hz,if_neg (show ¬ - aC a b c d=0 by omega)];by_cases hneg:aC a b c d<0
  ·rw [if_pos hneg,if_neg (show ¬ - aC a b c d<0 by omega)];congr 1;simp only [eq_iff_iff];omega
  ·rw [if_neg hneg,if_pos (show-aC a b c d<0 by omega)];congr 1;simp only [eq_iff_iff];omega
theorem ada (a b c d:Pt):iK a b c d=iK c d a b:=by rw [FQ,FQ,Vy]
def fE.fst (s:fE):Pt:=s.path.getD s.k aQ
def fE.snd (s:fE):Pt:=s.path.getD (s.k+1) aQ
def fE.west (s:fE):Int:=min s.fst.x s.snd.x
def fE.east (s:fE):Int:=max s.fst.x s.snd.x
def fE.sg (s:fE):Sg:=⟨s.arc,s.k,s.path.length-1,s.fst,s.snd⟩
def D9 (a b:fE):Bool:=decide (a.k+1=b.k) || ((a.arc.fr == a.arc.dst) && decide (a.k=0) && decide ((b.k:Int)=(b.path.length:Int)-2))
def JC (m:Int) (a b:fE):Bool:=if D9 a b then m == 1 else m == 0
def JD (f:Int->Pt) (s t:fE) (id:Int):Bool:=(id == t.arc.fr || id == t.arc.dst) && dV s.fst s.snd (f id) && dV t.fst t.snd (f id)
def uo (f:Int->Pt) (s t:fE):Bool :=
 if s.arc.id=t.arc.id then (if t.k<s.k then JC (iK s.fst s.snd t.fst t.snd) t s else JC (iK s.fst s.snd t.fst t.snd) s t)
 else if iK s.fst s.snd t.fst t.snd=1 then JD f s t s.arc.fr || JD f s t s.arc.dst
 else iK s.fst s.snd t.fst t.snd == 0
theorem Vz (f:Int->Pt) (s t:bJ):lJ f s t=uo f s.abs t.abs:=rfl
def OC (s:fE) (n:Nd):Bool:=!(dV s.fst s.snd n.pt && !(((s.k:Int) == 0) && (s.arc.fr == n.id)) && !(((s.k:Int) == (s.path.length:Int)-2) && (s.arc.dst == n.id)))
def jH (s:bJ) (n:Nd):Bool:=OC s.abs n
def VA (f:Int->Pt) (nl:List Nd) (sl:List bJ):Prop :=
 (∀ i j (_:i<j) (hj:j<sl.length),iw sl[j]<=lI (sl[i]'(by omega))->lJ f (sl[i]'(by omega)) sl[j]=true)/\∀ s∈sl,∀ n∈nl,jH s n=true
theorem JE (l:List Int) (h:qA l=true):l.Pairwise (· < ·):=by
 have h1:∀ j (hj:j+1<l.length),l[j]<l[j+1]:=fun j hj=>by
  unfold qA at h;rw [List.all_eq_true] at h;have:=h j (List.mem_range.2 (by omega))
  simpa [List.getD,List.getElem?_eq_getElem hj,List.getElem?_eq_getElem (show j<l.length by omega)] using this
 have h2:∀ d i (hi:i+d+1<l.length),l[i]'(by omega)<l[i+d+1]:=by
  intro d
  induction d with
  | zero=>intro i hi;exact h1 i hi
  | succ d ih=>intro i hi;have:=ih i (by omega);have:=h1 (i+d+1) (by omega);simp only [Nat.add_assoc] at *;omega
 rw [List.pairwise_iff_getElem];intro i j hi hj hij;have:=h2 (j-i-1) i (by omega)
 simp only [show i+(j-i-1)+1=j by omega] at this;exact this
theorem OD {α:Type} (l:List α) (f:α->Bool) (g:α->α->Bool):yC l f g=true↔(∀ x∈l,f x=true)/\l.Pairwise (fun s t=>g s t=true):=by
 constructor
 ·intro h;constructor
  ·intro x hx;obtain ⟨i,hi,rfl⟩:=List.mem_iff_getElem.1 hx
   cases hf:f l[i]
   · rw [acs l f g i hi hf] at h;cases h
   · rfl
  ·rw [List.pairwise_iff_getElem];intro k i hk hi hki
   cases hg:g l[k] l[i]
   · rw [acu l f g i k hki hi hg] at h;cases h
   · rfl
 ·rintro ⟨h1,h2⟩;rw [List.pairwise_iff_getElem] at h2;exact acv l f g (fun i hi=>h1 _ (List.getElem_mem hi)) (fun i k hk hi=>h2 k i (by omega) hi hk)
structure Sound (p:Pl):Prop where
 nodes:(p.nodes.map (·.id)).Pairwise (· < ·)
 au:(p.au.map (·.id)).Pairwise (· < ·)
 ends:∀ a∈p.au,jk p a=true
theorem JF {α:Type} (f:α->Int) (l:List α) (h:(l.map f).Pairwise (· < ·)) (a:α) (ha:a∈l):l.find? (fun x=>f x == f a)=some a:=by
 induction l with
 | nil=>cases ha
 | cons b l ih =>
  rw [List.map_cons,List.pairwise_cons] at h;rcases List.mem_cons.1 ha with rfl | ha'
  · simp
  ·have:=h.1 (f a) (List.mem_map_of_mem ha')
   rw [List.find?_cons_of_neg (by simp;omega)];exact ih h.2 ha'
theorem Sound.path {p:Pl} (hp:Sound p) {a:Ar} (ha:a∈p.au):pathOf p a.id=some (aK p a):=by
 unfold pathOf findAr;rw [JF (·.id) p.au hp.au a ha];simp [hp.ends a ha]
theorem Sound.Ea {p:Pl} (hp:Sound p) {a:Ar} (ha:a∈p.au):eH p a=(List.range ((aK p a).length-1)).map fun k=>⟨a,aK p a,k⟩:=by
 unfold eH;rw [hp.path ha];rfl
theorem Sound.mem {p:Pl} (hp:Sound p) {x:fE} (hx:x∈p.au.flatMap (eH p)):x.arc∈p.au/\x.path=aK p x.arc/\x.k+1<x.path.length:=by
 obtain ⟨a,ha,hx⟩:=List.mem_flatMap.1 hx;rw [hp.Ea ha] at hx;obtain ⟨k,hk,rfl⟩:=List.mem_map.1 hx;have:=List.mem_range.1 hk
 exact ⟨ha,rfl,by show k+1<(aK p a).length;omega⟩
theorem Sound.wL {p:Pl} (hp:Sound p) {x:Nd} (hx:x∈p.nodes):nodeAt p x.id=x.pt:=by
 unfold nodeAt jh;rw [JF (·.id) p.nodes hp.nodes x hx];rfl
theorem Sound.JG {p:Pl} (hp:Sound p) {a:Ar} (ha:a∈p.au):(∃ x∈p.nodes,x.id=a.fr)/\∃ x∈p.nodes,x.id=a.dst:=by
 have h:=hp.ends a ha;unfold jk at h;rw [Bool.and_eq_true] at h;obtain ⟨h1,h2⟩:=h;obtain ⟨x,hx⟩:=Option.isSome_iff_exists.1 h1;obtain ⟨y,hy⟩:=Option.isSome_iff_exists.1 h2;exact ⟨⟨x,List.mem_of_find?_eq_some hx,by simpa using List.find?_some hx⟩,⟨y,List.mem_of_find?_eq_some hy,by simpa using List.find?_some hy⟩⟩
theorem Sound.wM {p:Pl} (hp:Sound p):Ju p=(p.au.flatMap (eH p)).map fE.sg:=by
 unfold Ju;rw [List.map_flatMap];have:∀ l:List Ar,(∀ a∈l,a∈p.au)->l.flatMap (fun a=>Jt a (aK p a))=l.flatMap (fun a=>(eH p a).map fE.sg):=by
  intro l
  induction l with
  | nil=>intro _;rfl
  | cons a l ih =>
   intro h;rw [List.flatMap_cons,List.flatMap_cons,ih (fun b hb=>h b (by simp [hb])),hp.Ea (h a (by simp)),List.map_map];rfl
 exact this _ fun a ha=>ha
theorem Sound.pw {p:Pl} (hp:Sound p):(p.au.flatMap (eH p)).Pairwise (fun x y=>x.arc.id=y.arc.id->x.arc=y.arc/\x.k<y.k):=by
 rw [List.pairwise_flatMap];constructor
 ·intro a ha;rw [hp.Ea ha,List.pairwise_map];exact List.pairwise_lt_range.imp fun h _=>⟨rfl,h⟩
 ·have h:=hp.au;rw [List.pairwise_map] at h;refine (List.Pairwise.and_mem.1 h).imp ?_;rintro a b ⟨ha,hb,hlt⟩ x hx y hy he;rw [hp.Ea ha] at hx;rw [hp.Ea hb] at hy;obtain ⟨k,-,rfl⟩:=List.mem_map.1 hx;obtain ⟨m,-,rfl⟩:=List.mem_map.1 hy;have he':a.id=b.id:=he;omega
theorem Sound.adb {p:Pl} (hp:Sound p) {x:fE} (hx:x∈p.au.flatMap (eH p)) (h:x.k=0):x.fst=nodeAt p x.arc.fr:=by
 obtain ⟨-,h2,-⟩:=hp.mem hx;unfold fE.fst;rw [h2,h];rfl
theorem Sound.ade {p:Pl} (hp:Sound p) {x:fE} (hx:x∈p.au.flatMap (eH p)) (h:(x.k:Int)=(x.path.length:Int)-2):x.snd=nodeAt p x.arc.dst:=by
 obtain ⟨-,h2,h3⟩:=hp.mem hx;unfold fE.snd
 have:x.k+1=x.arc.via.length+1:=by rw [h2,jQ] at h;omega
 rw [h2,this];unfold aK;rw [List.getD_cons_succ,List.getD_eq_getElem?_getD,List.getElem?_append_right (Nat.le_refl _)];simp
theorem Sound.chain {p:Pl} (hp:Sound p) {x y:fE} (hx:x∈p.au.flatMap (eH p)) (hy:y∈p.au.flatMap (eH p)) (ha:x.arc=y.arc) (hc:D9 x y=true):x.west<=y.east/\y.west<=x.east:=by
 have adf:x.path=y.path:=by rw [(hp.mem hx).2.1,(hp.mem hy).2.1,ha]
 unfold D9 at hc;rw [Bool.or_eq_true] at hc;unfold fE.west fE.east;rcases hc with hc | hc
 ·have hk:x.k+1=y.k:=by simpa using hc
  have e:x.snd=y.fst:=by unfold fE.snd fE.fst;rw [adf,hk]
  rw [e];omega
 ·simp only [Bool.and_eq_true,decide_eq_true_eq,beq_iff_eq] at hc;obtain ⟨⟨h1,h2⟩,h3⟩:=hc;have e:x.fst=y.snd:=by rw [hp.adb hx h2,hp.ade hy h3,h1,ha]
  rw [e];omega
theorem Sound.adg {p:Pl} (hp:Sound p) (f:Int->Pt) {x y:fE} (hx:x∈p.au.flatMap (eH p)) (hy:y∈p.au.flatMap (eH p)) (hd:x.arc.id=y.arc.id->x.arc=y.arc) (h:x.east<y.west):uo f x y=true:=by
 have hm:iK x.fst x.snd y.fst y.snd=0:=ac9 _ _ _ _ h;have hle:y.west<=y.east:=by unfold fE.west fE.east;omega
 have hle':x.west<=x.east:=by unfold fE.west fE.east;omega
 unfold uo;rw [hm];by_cases hid:x.arc.id=y.arc.id
 ·have ha:=hd hid;rw [if_pos hid];have n1:D9 x y=false:=by
   rw [<- Bool.not_eq_true];intro hc;have:=hp.chain hx hy ha hc;omega
  have n2:D9 y x=false:=by
   rw [<- Bool.not_eq_true];intro hc;have:=hp.chain hy hx ha.symm hc;omega
  simp [JC,n1,n2]
 · simp [hid]
theorem Sound.sym {p:Pl} {x y:fE} (hd:x.arc.id=y.arc.id->x.k≠y.k):uo (nodeAt p) x y=uo (nodeAt p) y x:=by
 unfold uo;rw [ada y.fst y.snd x.fst x.snd];by_cases hid:x.arc.id=y.arc.id
 ·have hk:=hd hid;rw [if_pos hid,if_pos hid.symm];by_cases hlt:y.k<x.k
  · rw [if_pos hlt,if_neg (show ¬ x.k<y.k by omega)]
  · rw [if_neg hlt,if_pos (show x.k<y.k by omega)]
 ·rw [if_neg hid,if_neg (show ¬ y.arc.id=x.arc.id from fun e=>hid e.symm)];split
  ·rw [Bool.eq_iff_iff];simp only [JD,Bool.or_eq_true,Bool.and_eq_true,beq_iff_eq];constructor
   · rintro (⟨⟨h1,h2⟩,h3⟩ | ⟨⟨h1,h2⟩,h3⟩)<;>rcases h1 with h1 | h1<;>rw [h1] at h2 h3<;>simp [h1,h2,h3]
   · rintro (⟨⟨h1,h2⟩,h3⟩ | ⟨⟨h1,h2⟩,h3⟩)<;>rcases h1 with h1 | h1<;>rw [h1] at h2 h3<;>simp [h1,h2,h3]
  · rfl
theorem Sound.pair {p:Pl} (hp:Sound p) {x y:fE} (hx:x∈p.au.flatMap (eH p)) (hy:y∈p.au.flatMap (eH p)) (hd:x.arc.id=y.arc.id->x.arc=y.arc/\x.k<y.k):DN p x.sg y.sg=uo (nodeAt p) x y:=by
 obtain ⟨mx,px,kx⟩:=hp.mem hx;obtain ⟨my,py,ky⟩:=hp.mem hy;unfold DN uo
 show (if x.arc.id=y.arc.id then _ else _)=_
 by_cases hid:x.arc.id=y.arc.id
 ·obtain ⟨ha,hk⟩:=hd hid;rw [if_pos hid,if_pos hid,if_neg (show ¬ y.k<x.k by omega)];unfold FU JC D9;rw [FQ]
  show (if y.k=x.k+1\/(x.k=0/\y.k+1=y.path.length-1/\x.arc.fr=x.arc.dst) then gV x.fst x.snd y.fst y.snd == 1 else gV x.fst x.snd y.fst y.snd == 0)=_
  have:(y.k=x.k+1\/(x.k=0/\y.k+1=y.path.length-1/\x.arc.fr=x.arc.dst))↔(decide (x.k+1=y.k) || ((x.arc.fr == x.arc.dst) && decide (x.k=0) && decide ((y.k:Int)=(y.path.length:Int)-2)))=true:=by
   simp only [Bool.or_eq_true,Bool.and_eq_true,decide_eq_true_eq,beq_iff_eq];constructor
   ·rintro (h | ⟨h1,h2,h3⟩)
    · left;omega
    · right;exact ⟨⟨h3,h1⟩,by omega⟩
   ·rintro (h | ⟨⟨h1,h2⟩,h3⟩)
    · left;omega
    · right;exact ⟨h2,by omega,h1⟩
  simp only [this]
 ·rw [if_neg hid,if_neg hid];unfold uX;rw [FQ]
  show (if gV x.fst x.snd y.fst y.snd=1 then _ else gV x.fst x.snd y.fst y.snd == 0)=_
  split
  ·rw [Bool.eq_iff_iff,List.any_eq_true];simp only [DL,FT,JD,Bool.or_eq_true,Bool.and_eq_true,beq_iff_eq,fE.sg,<- Ob];constructor
   ·rintro ⟨n,hn,⟨⟨⟨h1,h2⟩,h3⟩,h4⟩⟩;have hpt:=hp.wL hn;rw [<- hpt] at h3 h4;rcases h1 with h1 | h1
    ·left;rw [h1];exact ⟨⟨by rcases h2 with h2 | h2<;>simp [h2],h3⟩,h4⟩
    ·right;rw [h1];exact ⟨⟨by rcases h2 with h2 | h2<;>simp [h2],h3⟩,h4⟩
   ·obtain ⟨⟨n1,hn1,e1⟩,⟨n2,hn2,e2⟩⟩:=hp.JG mx;rintro (⟨⟨h1,h2⟩,h3⟩ | ⟨⟨h1,h2⟩,h3⟩)
    ·refine ⟨n1,hn1,⟨⟨⟨.inl e1.symm,by rcases h1 with h1 | h1<;>simp [e1,h1]⟩,?_⟩,?_⟩⟩
     · rw [<- hp.wL hn1,e1];exact h2
     · rw [<- hp.wL hn1,e1];exact h3
    ·refine ⟨n2,hn2,⟨⟨⟨.inr e2.symm,by rcases h1 with h1 | h1<;>simp [e2,h1]⟩,?_⟩,?_⟩⟩
     · rw [<- hp.wL hn2,e2];exact h2
     · rw [<- hp.wL hn2,e2];exact h3
  · rfl
theorem Sound.free {p:Pl} (hp:Sound p) {x:fE} (hx:x∈p.au.flatMap (eH p)) (n:Nd):OC x n=FW x.sg n:=by
 obtain ⟨mx,px,kx⟩:=hp.mem hx;unfold OC FW Ol;rw [Ob]
 show _=((((x.k:Int) == 0) && (x.arc.fr == n.id)) || (((x.k:Int) == ((x.path.length-1:Nat):Int)-1) && (x.arc.dst == n.id)) || !ql x.fst x.snd n.pt)
 rw [show ((x.path.length-1:Nat):Int)-1=(x.path.length:Int)-2 by omega]
 cases ql x.fst x.snd n.pt<;>cases (((x.k:Int) == 0) && (x.arc.fr == n.id))<;>cases (((x.k:Int) == (x.path.length:Int)-2) && (x.arc.dst == n.id))<;>rfl
theorem Sound.VB {p:Pl} (hp:Sound p):p.au.all (jr p)=true↔∀ x∈p.au.flatMap (eH p),FX x.sg=true:=by
 rw [List.all_eq_true];constructor
 ·intro h x hx;obtain ⟨mx,px,kx⟩:=hp.mem hx;have ha:=h _ mx;unfold jr at ha;rw [hp.path mx] at ha;simp only [Bool.and_eq_true,Bool.not_eq_true',Bool.and_eq_false_iff,beq_eq_false_iff_ne,decide_eq_false_iff_not] at ha;obtain ⟨h1,h2⟩:=ha;rw [<- px] at h1 h2;unfold FX;simp only [Bool.and_eq_true,Bool.not_eq_true',decide_eq_false_iff_not,Bool.or_eq_true,bne_iff_ne,decide_eq_true_eq]
  show ¬ x.fst=x.snd/\(x.arc.fr≠x.arc.dst\/3<=((x.path.length-1:Nat):Int))
  constructor
  ·intro e;unfold wJ at h2;rw [List.all_eq_true] at h2;have:=h2 x.k (List.mem_range.2 (by omega))
   simp only [Bool.not_eq_true',decide_eq_false_iff_not] at this;exact this e
  ·rcases h1 with h1 | h1
   · exact .inl h1
   · right;omega
 ·intro h a ha;unfold jr;rw [hp.path ha];have hmem:∀ k,k+1<(aK p a).length->(⟨a,aK p a,k⟩:fE)∈p.au.flatMap (eH p):=fun k hk=>by
   refine List.mem_flatMap.2 ⟨a,ha,?_⟩;rw [hp.Ea ha];exact List.mem_map.2 ⟨k,List.mem_range.2 (by omega),rfl⟩
  have hs:∀ k,k+1<(aK p a).length->¬ (aK p a).getD k aQ=(aK p a).getD (k+1) aQ/\(a.fr≠a.dst\/3<=(((aK p a).length-1:Nat):Int)):=fun k hk=>by
   have:=h _ (hmem k hk)
   unfold FX at this;simp only [Bool.and_eq_true,Bool.not_eq_true',decide_eq_false_iff_not,Bool.or_eq_true,bne_iff_ne,decide_eq_true_eq] at this;exact this
  have hl:=jQ p a;simp only [Bool.and_eq_true,Bool.not_eq_true',Bool.and_eq_false_iff,beq_eq_false_iff_ne,decide_eq_false_iff_not];constructor
  ·rcases (hs 0 (by omega)).2 with h1 | h1
   · exact .inl h1
   · right;omega
  ·unfold wJ;rw [List.all_eq_true];intro k hk;have hk:=List.mem_range.1 hk;simpa using (hs k (by omega)).1
theorem Sound.adh {p:Pl} (hp:Sound p) (hok:p.au.all (jr p)=true) (sl:List bJ) (hs:(sl.map bJ.abs).Perm (p.au.flatMap (eH p))):VA (nodeAt p) p.nodes sl↔rW p=true:=by
 generalize hL:p.au.flatMap (eH p)=L at *;have yT:∀ {x},x∈L->x∈p.au.flatMap (eH p):=fun h=>by rw [hL];exact h
 have hpw:L.Pairwise (fun x y=>x.arc.id=y.arc.id->x.arc=y.arc/\x.k<y.k):=by rw [<- hL];exact hp.pw
 have hdist:L.Pairwise (fun x y=>x.arc.id=y.arc.id->x.arc=y.arc/\x.k≠y.k):=hpw.imp fun h e=>⟨(h e).1,by have:=(h e).2;omega⟩;have VD:(sl.map bJ.abs).Pairwise (fun x y=>x.arc.id=y.arc.id->x.arc=y.arc/\x.k≠y.k) :=
  (hs.pairwise_iff (fun h e=>⟨(h e.symm).1.symm,fun e'=>(h e.symm).2 e'.symm⟩)).2 hdist
 have VE:∀ {x},x∈sl.map bJ.abs->x∈p.au.flatMap (eH p):=fun h=>yT (hs.mem_iff.1 h)
 let R:fE->fE->Prop:=fun x y=>uo (nodeAt p) x y=true/\uo (nodeAt p) y x=true
 have h1:(sl.map bJ.abs).Pairwise R↔L.Pairwise R:=hs.pairwise_iff (fun h=>⟨h.2,h.1⟩);have h2:L.Pairwise R↔(L.map fE.sg).Pairwise (fun s t=>DN p s t=true):=by
  rw [List.pairwise_map,List.pairwise_iff_getElem,List.pairwise_iff_getElem];rw [List.pairwise_iff_getElem] at hpw;constructor
  ·intro h i j hi hj hij;rw [hp.pair (yT (List.getElem_mem hi)) (yT (List.getElem_mem hj)) (hpw i j hi hj hij)];exact (h i j hi hj hij).1
  ·intro h i j hi hj hij;have hh:=h i j hi hj hij;have ho:=hpw i j hi hj hij;rw [hp.pair (yT (List.getElem_mem hi)) (yT (List.getElem_mem hj)) ho] at hh;refine ⟨hh,?_⟩;rw [<- Sound.sym (p:=p) (fun e=>by have:=(ho e).2;omega)];exact hh
 have h3:(∀ i j (_:i<j) (hj:j<sl.length),iw sl[j]<=lI (sl[i]'(by omega))->lJ (nodeAt p) (sl[i]'(by omega)) sl[j]=true)↔(sl.map bJ.abs).Pairwise R:=by
  rw [List.pairwise_iff_getElem];rw [List.pairwise_iff_getElem] at VD;constructor
  ·intro h i j hi hj hij;have hj':j<sl.length:=by simpa using hj
   have mi:=VE (List.getElem_mem hi);have mj:=VE (List.getElem_mem hj);have hd:=VD i j hi hj hij;have hc:uo (nodeAt p) ((sl.map bJ.abs)[i]) ((sl.map bJ.abs)[j])=true:=by
    by_cases hw:iw sl[j]<=lI (sl[i]'(by omega))
    ·have:=h i j hij hj' hw
     rw [Vz] at this;simpa using this
    ·refine hp.adg (nodeAt p) mi mj (fun e=>(hd e).1) ?_;have hlt:lI (sl[i]'(by omega))<iw sl[j]:=by omega
     rw [List.getElem_map,List.getElem_map];exact hlt
   refine ⟨hc,?_⟩;rw [<- Sound.sym (p:=p) (fun e=>(hd e).2)];exact hc
  ·intro h i j hij hj _;have:=(h i j (by simp;omega) (by simpa using hj) hij).1
   rw [Vz];simpa using this
 have h4:(∀ s∈sl,∀ n∈p.nodes,jH s n=true)↔∀ x∈L,p.nodes.all (FW x.sg)=true:=by
  constructor
  ·intro h x hx;rw [List.all_eq_true];intro n hn;obtain ⟨s,hs',rfl⟩:=List.mem_map.1 (hs.mem_iff.2 hx);rw [<- hp.free (yT hx)];exact h s hs' n hn
  ·intro h s hs' n hn;have hx:=hs.mem_iff.1 (List.mem_map_of_mem (f:=bJ.abs) hs');have:=List.all_eq_true.1 (h _ hx) n hn
   unfold jH;rw [hp.free (yT hx)];exact this
 unfold VA rW;rw [hp.wM,hL,OD,h3,h1,h2,h4,and_comm];refine and_congr_left fun _=>?_;constructor
 ·intro h s hs';obtain ⟨x,hx,rfl⟩:=List.mem_map.1 hs';unfold Aw;rw [h x hx,hp.VB.1 hok x (yT hx)];rfl
 ·intro h x hx;have:=h _ (List.mem_map_of_mem (f:=fE.sg) hx)
  unfold Aw at this;rw [Bool.and_eq_true] at this;exact this.1
theorem Sound.adi {p:Pl} (hp:Sound p) (hok:p.au.all (jr p)=false):rW p=false:=by
 rw [<- Bool.not_eq_true];intro h;unfold rW at h;rw [OD,hp.wM] at h
 have:p.au.all (jr p)=true:=hp.VB.2 fun x hx=>by
  have:=h.1 _ (List.mem_map_of_mem (f:=fE.sg) hx)
  unfold Aw at this;rw [Bool.and_eq_true] at this;exact this.2
 rw [hok] at this
 cases this
def AQ (l:List Nd):Int->Pt:=l.foldl (fun f n=>fun i=>if i=n.id then n.pt else f i) (fun _=>z0)
theorem adk (l:List Nd) (k:Nat) (hk:k<l.length):AQ (l.take (k+1))=fun i=>if i=l[k].id then l[k].pt else AQ (l.take k) i:=by
 unfold AQ;rw [List.take_succ_eq_append_getElem hk,List.foldl_append];rfl
theorem adl (p:Pl) (h:(p.nodes.map (·.id)).Pairwise (· < ·)):AQ p.nodes=nodeAt p:=by
 unfold nodeAt jh;generalize p.nodes=l at *;have gen:∀ (l:List Nd) (f:Int->Pt),(l.map (·.id)).Pairwise (· < ·)->∀ i,(l.foldl (fun f n=>fun i=>if i=n.id then n.pt else f i) f) i=match l.find? (fun n=>n.id == i) with | some n=>n.pt | none=>f i:=by
  intro l
  induction l with
  | nil=>intro f _ i;rfl
  | cons a l ih =>
   intro f h i;rw [List.map_cons,List.pairwise_cons] at h;rw [List.foldl_cons,ih _ h.2];by_cases e:a.id=i
   ·rw [List.find?_cons_of_pos (by simp [e])]
    have:l.find? (fun n=>n.id == i)=none:=by
     rw [List.find?_eq_none];intro x hx;have:=h.1 x.id (List.mem_map_of_mem hx)
     simp;omega
    rw [this];simp [e]
   ·rw [List.find?_cons_of_neg (by simp [e])];split
    · rfl
    · rw [if_neg (fun e'=>e e'.symm)]
 funext i
 have:=gen l (fun _=>z0) h i
 unfold AQ;rw [this]
 cases l.find? (fun n=>n.id == i)<;>rfl
end Go.Proofs.YtialfdomhoojiaaGreat
