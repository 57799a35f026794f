import Derived.Test.YtialfdomhoojiaaGreatJ17
import Derived.Test.YtialfdomhoojiaaGreatJ08
import Derived.Test.YtialfdomhoojiaaGreatJ16
import Derived.Test.YtialfdomhoojiaaGreatJ13
import Derived.Test.YtialfdomhoojiaaGreatJ15
set_option linter.unusedSimpArgs false
set_option linter.unusedVariables false
namespace Go.Proofs.YtialfdomhoojiaaGreat
open Go.RowKit
def pJ (u v:Value):Prop:=∀ g,u.ownBlock=some g->v.ownBlock≠some g
structure AD where
 tw:Int
 out:List Int
 ov:SV
 inn:List (List Int×SV)
 iv:SV
 bK:List Int
 av:SV
def dP (x:AD):List Value:=[.int .i64 x.tw,aJ x.ov,aJ x.iv,aJ x.av]
theorem vJ (x:AD):(dP x).length=4:=rfl
theorem UZ (x:AD):∀ u∈dP x,u.oneCell'=true:=by simp [dP,aJ,Value.oneCell']
theorem aoS:Elem Tryz.prog 76 82 4 80:=Elem.uq (z:=.agg #[.int .i64 0,.slice none 0 0,.slice none 0 0,.slice none 0 0]) (by kernel_rfl) (by kernel_rfl) rfl (by omega)
structure kD (e:TypeId) (w0 w:World) (B:Nat) (v:Value) (L:List AD):Prop where
 own:Own w B e 4 dP v L
 out:∀ x∈L,Ints w0 (aJ x.ov) x.out
 inn:∀ x∈L,Own w B 24 1 nD (aJ x.iv) x.inn
 jk:∀ x∈L,∀ c∈x.inn,Ints w0 (aJ c.2) c.1
 bK:∀ x∈L,Own w B 3 1 eU (aJ x.av) x.bK
 Jz:L.Pairwise (fun x y=>pJ (aJ x.iv) (aJ y.iv))
 JA:L.Pairwise (fun x y=>pJ (aJ x.av) (aJ y.av))
theorem kD.keep {e:TypeId} {w0 w w':World} {B:Nat} {v:Value} {L:List AD} (h:kD e w0 w B v L) (hb:Below w.heap.size w w'):kD e w0 w' B v L :=
 ⟨h.own.keep hb,h.out,fun x hx=>(h.inn x hx).keep hb,h.jk,fun x hx=>(h.bK x hx).keep hb,h.Jz,h.JA⟩
structure wK (w0 W:World) (g1 g2 g3:Nat) (v:Pt) (s:Bool×Bool):Prop where
 b:Below w0.heap.size w0 W
 at_:aj W g1 39 #[.int .i64 v.x,.int .i64 v.y]
 MP:aj W g2 4 #[.bool s.1]
 odd:aj W g3 4 #[.bool s.2]
 l2:w0.heap.size<=g2
 l3:w0.heap.size<=g3
 n12:g1≠g2
 n13:g1≠g3
 n23:g2≠g3
theorem wK.keep {w0 W W':World} {g1 g2 g3:Nat} {v:Pt} {s:Bool×Bool} (h:wK w0 W g1 g2 g3 v s) (hb:Below W.heap.size W W'):wK w0 W' g1 g2 g3 v s :=
 ⟨bT h.b hb,h.at_.keep hb,h.MP.keep hb,h.odd.keep hb,h.l2,h.l3,h.n12,h.n13,h.n23⟩
theorem wK.aoT {w0 W:World} {g1 g2 g3:Nat} {v:Pt} {s:Bool×Bool} (h:wK w0 W g1 g2 g3 v s) (x:Bool):wK w0 (W.setCell ⟨g2,0,none⟩ (.bool x)) g1 g2 g3 v (x,s.2) :=
 ⟨bS h.b h.l2 _,h.at_.far h.n12 _,by have:=h.MP.fC 0 (.bool x);simpa using this,h.odd.far (fun e=>h.n23 e.symm) _,h.l2,h.l3,h.n12,h.n13,h.n23⟩
theorem wK.agr {w0 W:World} {g1 g2 g3:Nat} {v:Pt} {s:Bool×Bool} (h:wK w0 W g1 g2 g3 v s) (x:Bool):wK w0 (W.setCell ⟨g3,0,none⟩ (.bool x)) g1 g2 g3 v (s.1,x) :=
 ⟨bS h.b h.l3 _,h.at_.far h.n13 _,h.MP.far h.n23 _,by have:=h.odd.fC 0 (.bool x);simpa using this,h.l2,h.l3,h.n12,h.n13,h.n23⟩
theorem aoU {a b c:Pt} (h:fE [a,b,c]=true):(0<gu a b c↔0<tw a b c)/\(gu a b c<0↔tw a b c<0):=by
 unfold gu DX;rw [if_pos h];split
 · omega
 · split<;>omega
set_option maxRecDepth 100000 in
set_option maxHeartbeats 8000000 in
theorem aoV (w0 W:World) (g1 g2 g3:Nat) (v a b:Pt) (s:Bool×Bool) (h:wK w0 W g1 g2 g3 v s) (na:aU a=true) (nb:aU b=true) (nv:aU v=true) :
  Calls Tryz.prog 199 #[bg a,bg b,.pointer (some ⟨g1,0,none⟩),.pointer (some ⟨g2,0,none⟩),.pointer (some ⟨g3,0,none⟩)] W fun e W'=>e=.returned (.tuple #[])/\wK w0 W' g1 g2 g3 v (Dj v s (a,b))/\Below w0.heap.size W W':=by
 have TO:=fun W=>KC a b v W;have TS:=fun W=>ac0 a b v W;obtain ⟨p1,p2⟩:=aoU (a:=a) (b:=b) (c:=v) (by simp [fE,na,nb,nv]);have hz0:=h.b.size;unfold bg at TO TS ⊢;have HO:=Lib.hid TO;have HS:=Lib.hid TS;have HI:=Lib.hid h;clear TO TS na nb nv;obtain ⟨R,hR⟩:∃ R,Dj v s (a,b)=R:=⟨_,rfl⟩;rw [hR];unfold Dj lH at hR;simp only at hR;have hl1:=h.at_.lt;have hl2:=h.MP.lt;have hl3:=h.odd.lt;go_enter Tryz.func199,Tryz.ntmps199;go_upto_block 0 with fail;obtain ⟨W1,hW⟩:∃ W1:World,W1=(W.alloc (.cells #[.int .i64 a.x,.int .i64 a.y] 39)).alloc (.cells #[.int .i64 b.x,.int .i64 b.y] 39):=⟨_,rfl⟩;have HB1:=Lib.hid (show Below W.heap.size W W1 by rw [hW];exact bA (bA (bR W) _) _);have X5:aj W1 W.heap.size 39 #[.int .i64 a.x,.int .i64 a.y]:=by rw [hW];exact (aj.made rfl _ _).alloc _
 have X6:aj W1 (W.heap.size+1) 39 #[.int .i64 b.x,.int .i64 b.y]:=by rw [hW];exact aj.made (by simp) _ _
 rw [<- hW];clear hW h;have HI1:=Lib.hid (HI.out.keep HB1.out);have bV:=Lib.hid X5;have jI:=Lib.hid X6;have X1:=HI1.out.at_;have vG:=Lib.hid hR;clear hR;obtain ⟨aO,aP,aS,-,-⟩:=X1.bH;obtain ⟨dw,dB,dL,-,-⟩:=X5.bH;obtain ⟨jd,jf,jg,-,-⟩:=X6.bH;go_wp2_with fail;refine (HO.out _).mono ?_;rintro e w2 ⟨rfl,hb2⟩;have HI2:=Lib.hid (HI1.out.keep hb2);have HB2:=Lib.hid (Below.trans (HB1.out.mono hz0) (hb2.mono (by have:=HB1.out.size;omega)));have aaO:=Lib.hid (bV.out.keep hb2);have aoW:=Lib.hid (jI.out.keep hb2);have hz2:=hb2.size;clear hb2 X1 aO aP aS X5 dw dB dL X6 jd jf jg bV jI HI1 HB1 HO;have hR:=vG.out;clear vG;obtain ⟨o,ho⟩:∃ o,fJ a b v=o:=⟨_,rfl⟩;rw [ho] at hR ⊢;clear ho
 cases o
 case true =>
  rw [if_pos rfl] at hR;have HF:=Lib.hid (HI2.out.aoT true);rw [hR] at HF;have X2:=HI2.out.MP;have JB:=Lib.hid (HB2.out.setCell (p:=⟨g2,0,none⟩) HI2.out.l2 (.bool true));clear hR;obtain ⟨cu,cO,CO⟩:=X2.ig;go_wp2_with fail;exact bodyPost_end (v:=.tuple #[]) (results_none rfl _ _ _) rfl ⟨rfl,HF.out,JB.out⟩
 case false =>
  rw [if_neg (by decide)] at hR;obtain ⟨sd,hsd⟩:∃ sd,gu a b v=sd:=⟨_,rfl⟩;rw [hsd] at HS p1 p2;clear hsd;have X1:=HI2.out.at_;have X5:=aaO.out;have X6:=aoW.out
  try clear aO
  try clear aP
  try clear aS
  obtain ⟨aO,aP,aS,-,-⟩:=X1.bH
  try clear dw
  try clear dB
  try clear dL
  obtain ⟨dw,dB,dL,-,-⟩:=X5.bH
  try clear jd
  try clear jf
  try clear jg
  obtain ⟨jd,jf,jg,-,-⟩:=X6.bH;by_cases c:(a.y<=v.y/\v.y<b.y)\/(b.y<=v.y/\v.y<a.y)
  case neg =>
   have hf:s=R:=by
    rw [decide_eq_false (by omega)] at hR;simpa using hR
   have HF:=Lib.hid hf;clear hR hf p1 p2;by_cases c1:a.y<=v.y
   ·have c2:¬ v.y<b.y:=by omega
    by_cases d1:b.y<=v.y
    ·have d2:¬ v.y<a.y:=by omega
     clear c;go_wp2_with fail;exact bodyPost_end (v:=.tuple #[]) (results_none rfl _ _ _) rfl ⟨rfl,by rw [<- HF.out];exact HI2.out,HB2.out⟩
    · omega
   ·have d2:v.y<a.y:=by omega
    have d1:¬ b.y<=v.y:=by omega
    clear c;go_wp2_with fail;exact bodyPost_end (v:=.tuple #[]) (results_none rfl _ _ _) rfl ⟨rfl,by rw [<- HF.out];exact HI2.out,HB2.out⟩
  case pos =>
   have aoX:=Lib.hid X1;have aoY:=Lib.hid X5;have aoZ:=Lib.hid X6;rcases c with ⟨c1,c2⟩ | ⟨d1,d2⟩
   ·have d1:¬ b.y<=v.y:=by omega
    go_wp2_with fail;refine (HS.out _).mono ?_;rintro e w3 ⟨rfl,hb3⟩;have HI3:=Lib.hid (HI2.out.keep hb3);have hz3:=hb3.size;have HB3:=Lib.hid (Below.trans HB2.out (hb3.mono (by omega)));have X1:=aoX.out.keep hb3;have X5:=aoY.out.keep hb3;have X6:=aoZ.out.keep hb3;clear hb3
    try clear aO
    try clear aP
    try clear aS
    obtain ⟨aO,aP,aS,-,-⟩:=X1.bH
    try clear dw
    try clear dB
    try clear dL
    obtain ⟨dw,dB,dL,-,-⟩:=X5.bH
    try clear jd
    try clear jf
    try clear jg
    obtain ⟨jd,jf,jg,-,-⟩:=X6.bH;by_cases g:0<sd
    ·have hf:(s.1,!s.2)=R:=by
      rw [decide_eq_true (by omega)] at hR;simpa using hR
     have HF:=Lib.hid (HI3.out.agr (!s.2));rw [hf] at HF;have JB:=Lib.hid (HB3.out.setCell (p:=⟨g3,0,none⟩) HI3.out.l3 (.bool (!s.2)));have X3:=HI3.out.odd;obtain ⟨s1,s2⟩:=s;simp only at X3 HF JB;clear hR hf p1 p2;obtain ⟨lM,lN,FQ⟩:=X3.ig
     cases s2
     all_goals
      go_wp2_with fail;exact bodyPost_end (v:=.tuple #[]) (results_none rfl _ _ _) rfl ⟨rfl,HF.out,JB.out⟩
    ·have hf:s=R:=by
      rw [decide_eq_false (by omega)] at hR;simpa using hR
     have HF:=Lib.hid hf;clear hR hf p1 p2;go_wp2_with fail;exact bodyPost_end (v:=.tuple #[]) (results_none rfl _ _ _) rfl ⟨rfl,by rw [<- HF.out];exact HI3.out,HB3.out⟩
   ·have c0:¬ (a.y<=v.y):=by omega
    go_wp2_with fail;refine (HS.out _).mono ?_;rintro e w3 ⟨rfl,hb3⟩;have HI3:=Lib.hid (HI2.out.keep hb3);have hz3:=hb3.size;have HB3:=Lib.hid (Below.trans HB2.out (hb3.mono (by omega)));clear hb3;by_cases g:sd<0
    ·have hf:(s.1,!s.2)=R:=by
      rw [decide_eq_true (by omega)] at hR;simpa using hR
     have HF:=Lib.hid (HI3.out.agr (!s.2));rw [hf] at HF;have JB:=Lib.hid (HB3.out.setCell (p:=⟨g3,0,none⟩) HI3.out.l3 (.bool (!s.2)));have X3:=HI3.out.odd;obtain ⟨s1,s2⟩:=s;simp only at X3 HF JB;clear hR hf p1 p2
     try clear lM
     try clear lN
     try clear FQ
     obtain ⟨lM,lN,FQ⟩:=X3.ig
     cases s2
     all_goals
      go_wp2_with fail;exact bodyPost_end (v:=.tuple #[]) (results_none rfl _ _ _) rfl ⟨rfl,HF.out,JB.out⟩
    ·have hf:s=R:=by
      rw [decide_eq_false (by omega)] at hR;simpa using hR
     have HF:=Lib.hid hf;clear hR hf p1 p2;go_wp2_with fail;exact bodyPost_end (v:=.tuple #[]) (results_none rfl _ _ _) rfl ⟨rfl,by rw [<- HF.out];exact HI3.out,HB3.out⟩
set_option maxRecDepth 100000 in
set_option maxHeartbeats 8000000 in
theorem ao0 (w:World) (gm:Nat) (p:Pl) (f:Int->SV) (hpm:rO w gm p f) (hv:Valid p) (vc:Value) (X:List Int) (hX:Ints w vc X) (hd:∀ d∈X,d∈aQ p) (v:Pt) (nv:aU v=true) :
  Calls Tryz.prog 135 #[.map (some gm),vc,bg v] w fun e w'=>e=.returned (.bool (encS p X v))/\Below w.heap.size w w':=by
 have BD:=Lib.hid (fun s W (h0:wK w W w.heap.size (w.heap.size+1) (w.heap.size+1+1) v s)=>anS w gm p f hpm hv vc X hX hd w.heap.size (w.heap.size+1) (w.heap.size+1+1) (fun s W=>wK w W w.heap.size (w.heap.size+1) (w.heap.size+1+1) v s) (Dj v) (fun s W h=>h.b) (fun s W h=>h.keep (bD (bR W)))
  (fun s W q hq h=>by
   obtain ⟨a,ha,-,k,hk,rfl⟩:=hv.PW hd hq;exact aoV w W _ _ _ v _ _ s h (hv.bW ha (by omega)) (hv.bW ha hk) nv) s W h0)
 unfold bg;obtain ⟨R,hR⟩:∃ R,encS p X v=R:=⟨_,rfl⟩;rw [hR];have vG:=Lib.hid hR;clear hR hpm hv hX hd nv;go_enter Tryz.func135,Tryz.ntmps135;go_upto_region 2 with fail;obtain ⟨W1,hW⟩:∃ W1:World,W1=((w.alloc (.cells #[.int .i64 v.x,.int .i64 v.y] 39)).alloc (.cells #[.bool false] 4)).alloc (.cells #[.bool false] 4):=⟨_,rfl⟩;have HE:=Lib.hid (show wK w W1 w.heap.size (w.heap.size+1) (w.heap.size+1+1) v (false,false) from by
  rw [hW];exact ⟨bA (bA (bA (bR w) _) _) _,((aj.made rfl _ _).alloc _).alloc _,(aj.made (by simp) _ _).alloc _,aj.made (by simp) _ _,by omega,by omega,by omega,by omega,by omega⟩)
 rw [<- hW];clear hW;go_wp2_with fail;refine (BD.out _ _ HE.out).mono ?_;rintro e w2 ⟨rfl,he2,-⟩;have HE2:=Lib.hid he2;have X7:=he2.MP;have X8:=he2.odd;clear he2 HE BD;have hr:=vG.out;unfold encS LZ at hr;obtain ⟨S,hS⟩:∃ S,(bP p X).foldl (Dj v) (false,false)=S:=⟨_,rfl⟩;rw [hS] at X7 X8 hr HE2;clear hS vG;obtain ⟨on,od⟩:=S;simp only at X7 X8 hr;obtain ⟨jW,jX,-⟩:=X7.ig;obtain ⟨qY,qZ,-⟩:=X8.ig
 cases od
 case false =>
  obtain rfl:false=R:=by simpa using hr
  clear hr;go_wp2_with fail;go_ret;exact ⟨rfl,HE2.out.b⟩
 case true =>
  obtain rfl:(!on)=R:=by simpa using hr
  clear hr;go_wp2_with fail;go_ret;exact ⟨rfl,HE2.out.b⟩
end Go.Proofs.YtialfdomhoojiaaGreat
