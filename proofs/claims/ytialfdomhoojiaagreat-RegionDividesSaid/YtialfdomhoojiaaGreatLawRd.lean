import Derived.Test.YtialfdomhoojiaaGreatJ34
import Derived.Test.YtialfdomhoojiaaGreatJ35
set_option linter.unusedSimpArgs false
set_option linter.unusedVariables false
set_option maxRecDepth 100000
set_option maxHeartbeats 8000000
namespace Go.Proofs.YtialfdomhoojiaaGreat
open Go.RowKit
theorem Nw.nil (w:World):Nw w (.slice none 0 0) [] :=
 ⟨⟨none,0,rfl,DT _,BZ _,Row.nil⟩,(fun x h=>by cases h),(fun x h=>by cases h),(fun x h=>by cases h),(fun x h=>by cases h)⟩
def afq (w:World) (p:Pl) (e:Ending) (w':World):Prop :=
 ∃ A c L,e=.returned (.tuple #[.slice A L.length c,.int .i64 (Eu p)])/\AP w w'/\Nw w' (.slice A L.length c) L/\L.map Lu=if Eu p=0 then VA p (sortK (Bj p)) else []
theorem axi (v:Value) (p:Pl) (w:World) (h:Cb w v p):Calls Tryz.prog 17 #[v] w (afq w p):=by
 by_cases hz:Eu p=0
 ·refine (akc v p w h hz).mono ?_;rintro e w' ⟨A,c,L,rfl,hb,hL,hg⟩;exact ⟨A,c,L,by rw [hz],hb,hL,by rw [AZ hz];exact hg⟩
 ·refine (awN v p w h hz).mono ?_;rintro e w' ⟨rfl,hb⟩;exact ⟨none,0,[],rfl,hb,Nw.nil w',by rw [AX hz];rfl⟩
theorem axj (v:Value) (p:Pl) (w:World) (h:Cb w v p):Calls Tryz.prog 18 #[v] w (afq w p):=by
 by_cases hz:Eu p=0
 ·refine (awK v p w h hz).mono ?_;rintro e w' ⟨A,c,L,rfl,hb,hL,hg⟩;exact ⟨A,c,L,by rw [hz],hb,hL,by rw [AZ hz];exact hg⟩
 ·refine (awJ v p w h hz).mono ?_;rintro e w' ⟨rfl,hb⟩;exact ⟨none,0,[],rfl,hb,Nw.nil w',by rw [AX hz];rfl⟩
theorem axk (v:Value) (p:Pl) (w:World) (h:Cb w v p) (hs:Vg p) :
  Calls Tryz.prog 3 #[v] w fun e w'=>e=.returned (.bool true)/\AP w w':=by
 have jU:=AA (fun W (hW:AP w W)=>amg v p W (h.mono hW) (fun a ha=>Dn (hs a ha) AB));have Gm:=AA (fun W (hW:AP w W)=>al7 v p W (h.mono hW));have pV:=AA (fun W (hW:AP w W)=>axi v p W (h.mono hW));have Kr:=AA (fun W (hW:AP w W)=>axj v p W (h.mono hW));have yx:=AA (@an1);have yY:=AA an6;obtain ⟨_,_,_,al,rfl,-,⟨An,cn,rfl,-⟩,⟨⟨Aa,ca,rfl,-⟩,-⟩,⟨Af,cf,rfl,-⟩⟩:=h;generalize p.nodes.length=nn at *;generalize p.faces.length=nf at *;unfold afq at pV Kr;generalize (if Eu p=0 then VA p (sortK (Bj p)) else [])=G at *;generalize Eu p=q at *;clear hs;go_enter Tryz.func3,Tryz.ntmps3;go_upto_region 1 with fail;obtain ⟨W1,hW⟩:=BO (w.alloc (.cells #[.slice An nn cn,.slice Aa al.length ca,.slice Af nf cf] 26));have X1:AO W1 w.heap.size 26 #[.slice An nn cn,.slice Aa al.length ca,.slice Af nf cf]:=by rw [hW];exact AO.made rfl _ _
 have HB1:=AA (show AP w W1 by rw [hW];exact bA (bR w) _);rw [<- hW];clear hW;have D9:=AA X1;obtain ⟨Ak,Au,Az,BA,-,-,-⟩:=X1.BF;go_wp2_with fail;refine (jU.out _ HB1.out).mono ?_;rintro e w2 ⟨lt,rfl,-,hb2⟩;have HB2:=AA (bT HB1.out hb2);have Q9:=AA (D9.out.keep hb2);clear hb2 jU X1 Ak Au Az BA D9 HB1
 cases lt
 case false =>
  go_wp2_with fail;refine (yY.out _).mono ?_;rintro e w3 ⟨rfl,hb3⟩;go_wp2;go_ret;exact ⟨rfl,bT HB2.out hb3⟩
 have X1:=Q9.out
 try clear Ak Au Az BA
 obtain ⟨Ak,Au,Az,BA,-,-,-⟩:=X1.BF;go_wp2_with fail;refine (pV.out _ HB2.out).mono ?_;rintro e w3 ⟨Al,cl,L,rfl,hb3,hL,hG⟩;have HB3:=AA (bT HB2.out hb3);have HL:=AA hL;have HG:=AA hG;have SQ:=AA (Q9.out.keep hb3);clear hb3 hL hG pV X1 Ak Au Az BA Q9 HB2;have X1:=SQ.out
 try clear Ak Au Az BA
 obtain ⟨Ak,Au,Az,BA,-,-,-⟩:=X1.BF;go_wp2_with fail;refine (Kr.out _ HB3.out).mono ?_;rintro e w4 ⟨Al',cl',L',rfl,hb4,hL',hG'⟩;have HB4:=AA (bT HB3.out hb4);have eU:=AA hL';have HG':=AA hG';have eG:=AA (SQ.out.keep hb4);have qy:=AA (HL.out.mono hb4);clear hb4 hL' hG' Kr X1 Ak Au Az BA SQ HB3 HL;go_wp2_with fail;refine (yY.out _).mono ?_;rintro e w5 ⟨rfl,hb5⟩;have CW:=AA (bT HB4.out hb5);have jr:=AA (eG.out.keep hb5);have qm:=AA (qy.out.mono hb5);have amh:=AA (eU.out.mono hb5);clear hb5 eG HB4 qy eU;have X1:=jr.out
 try clear Ak Au Az BA
 obtain ⟨Ak,Au,Az,BA,-,-,-⟩:=X1.BF;go_wp2_with fail;refine (Gm.out _ CW.out).mono ?_;rintro e w6 ⟨rfl,hb6⟩;have Eb:=AA (bT CW.out hb6);have hS:=yx.out _ _ L L' w6 (qm.out.mono hb6) (amh.out.mono hb6) (HG.out.trans HG'.out.symm);have HS:=AA hS;have hqq:(q == q)=true:=by simp
 clear hb6 hS X1 Ak Au Az BA jr qm amh CW;go_wp2_with fail;refine HS.out.mono ?_;rintro e w7 ⟨rfl,hb7⟩;go_wp2;go_ret;exact ⟨rfl,bT Eb.out hb7⟩
