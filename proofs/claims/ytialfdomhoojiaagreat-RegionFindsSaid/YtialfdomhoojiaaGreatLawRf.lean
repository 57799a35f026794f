import Derived.Test.YtialfdomhoojiaaGreatJ37
import Derived.Test.YtialfdomhoojiaaGreatJ34
import Derived.Test.YtialfdomhoojiaaGreatJ35
set_option linter.unusedSimpArgs false
set_option linter.unusedVariables false
set_option maxRecDepth 100000
set_option maxHeartbeats 8000000
namespace Go.Proofs.YtialfdomhoojiaaGreat
open Go.RowKit
theorem axa (v:Value) (p:Pl) (at_:Pt) (w:World) (h:Cb w v p) (hs:Vg p) :
  Calls Tryz.prog 5 #[v,BD at_] w fun e w'=>e=.returned (.bool true)/\AP w w':=by
 have jU:=AA (fun W (hW:AP w W)=>amg v p W (h.mono hW) (fun a ha=>Dn (hs a ha) AB));have OH:=AA (fun W (hW:AP w W)=>am0 v p at_ W (h.mono hW));have HL2:=AA (fun W (hW:AP w W)=>axZ v p at_ W (h.mono hW));have yY:=AA an6;obtain ⟨An,cn,Aa,ca,Af,cf,rfl⟩:=h.form;clear h hs;generalize p.nodes.length=nn at *;generalize p.AU.length=na at *;generalize p.faces.length=nf at *;obtain ⟨T,hT⟩:=BL (NV p at_);rw [hT] at OH HL2;clear hT;obtain ⟨T1,T2,T3⟩:=T;unfold BD at OH HL2 ⊢;unfold qK at OH HL2;simp only at OH HL2;go_enter Tryz.func5,Tryz.ntmps5;go_upto_region 1 with fail;obtain ⟨W1,hW⟩:=BO ((w.alloc (.cells #[.slice An nn cn,.slice Aa na ca,.slice Af nf cf] 26)).alloc (.cells #[.int .i64 at_.x,.int .i64 at_.y] 39));have X1:AO W1 w.heap.size 26 #[.slice An nn cn,.slice Aa na ca,.slice Af nf cf]:=by rw [hW];exact (AO.made rfl _ _).alloc _
 have CG:=AA (show AO W1 (w.heap.size+1) 39 #[.int .i64 at_.x,.int .i64 at_.y] by rw [hW];exact AO.made Aw _ _);have HB1:=AA (show AP w W1 by rw [hW];exact bA (bA (bR w) _) _);rw [<- hW];have D9:=AA X1;clear hW;obtain ⟨Ak,Au,Az,BA,-,-,-⟩:=X1.BF;go_wp2_with fail;refine (jU.out _ HB1.out).mono ?_;rintro e w2 ⟨lt,rfl,-,hb2⟩;have HB2:=AA (bT HB1.out hb2);have Q9:=AA (D9.out.keep hb2);have WB:=AA (CG.out.keep hb2);clear hb2 X1 Ak Au Az BA D9 CG HB1 jU
 cases lt
 case false =>
  go_wp2_with fail;refine (yY.out _).mono ?_;rintro e w3 ⟨rfl,hb3⟩;go_wp2;go_ret;exact ⟨rfl,bT HB2.out hb3⟩
 have X1:=Q9.out;have X2:=WB.out
 try clear Ak Au Az BA
 obtain ⟨Ak,Au,Az,BA,-,-,-⟩:=X1.BF;obtain ⟨BQ,BR,BX,-,-⟩:=X2.BN;go_wp2_with fail;refine (OH.out _ HB2.out).mono ?_;rintro e w3 ⟨rfl,hb3⟩;have HB3:=AA (bT HB2.out hb3);have SQ:=AA (Q9.out.keep hb3);have rP:=AA (WB.out.keep hb3);clear hb3 X1 Ak Au Az BA X2 BQ BR BX Q9 WB HB2 OH;have X1:=SQ.out;have X2:=rP.out
 try clear Ak Au Az BA
 obtain ⟨Ak,Au,Az,BA,-,-,-⟩:=X1.BF
 try clear BQ BR BX
 obtain ⟨BQ,BR,BX,-,-⟩:=X2.BN;go_wp2_with fail;refine (HL2.out _ HB3.out).mono ?_;rintro e w4 ⟨rfl,hb4⟩;have HB4:=AA (bT HB3.out hb4);clear hb4 X1 Ak Au Az BA X2 BQ BR BX SQ rP HB3 HL2;go_wp2_with fail;refine (yY.out _).mono ?_;rintro e w5 ⟨rfl,hb5⟩;have CW:=AA (bT HB4.out hb5);clear hb5;go_wp2;go_ret;exact ⟨rfl,CW.out⟩
