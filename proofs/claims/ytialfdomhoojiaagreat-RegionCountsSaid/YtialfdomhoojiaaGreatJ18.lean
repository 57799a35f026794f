import Derived.Test.YtialfdomhoojiaaGreatJ17
import Derived.Test.YtialfdomhoojiaaGreatJ08
import Derived.Test.YtialfdomhoojiaaGreatJ15
import Derived.Test.YtialfdomhoojiaaGreatJ13
set_option linter.unusedSimpArgs false
set_option linter.unusedVariables false
namespace Go.Proofs.YtialfdomhoojiaaGreat
open Go.RowKit
def lH (u v:Value):Prop:=∀ g,u.ownBlock=some g->v.ownBlock≠some g
structure AD where
 tw:Int
 out:List Int
 ov:SV
 inn:List (List Int×SV)
 iv:SV
 bn:List Int
 av:SV
def dH (x:AD):List Value:=[.int .i64 x.tw,aH x.ov,aH x.iv,aH x.av]
theorem uI (x:AD):(dH x).length=4:=rfl
theorem Tn (x:AD):∀ u∈dH x,u.oneCell'=true:=by simp [dH,aH,Value.oneCell']
theorem anJ:Elem Tryz.prog 76 82 4 80:=Elem.rZ (z:=.agg #[.int .i64 0,.slice none 0 0,.slice none 0 0,.slice none 0 0]) (by kernel_rfl) (by kernel_rfl) rfl (by omega)
structure jP (e:TypeId) (w0 w:World) (B:Nat) (v:Value) (L:List AD):Prop where
 own:Own w B e 4 dH v L
 out:∀ x∈L,Ints w0 (aH x.ov) x.out
 inn:∀ x∈L,Own w B 24 1 kY (aH x.iv) x.inn
 iJ:∀ x∈L,∀ c∈x.inn,Ints w0 (aH c.2) c.1
 bn:∀ x∈L,Own w B 3 1 dO (aH x.av) x.bn
 Iz:L.Pairwise (fun x y=>lH (aH x.iv) (aH y.iv))
 IB:L.Pairwise (fun x y=>lH (aH x.av) (aH y.av))
theorem jP.keep {e:TypeId} {w0 w w':World} {B:Nat} {v:Value} {L:List AD} (h:jP e w0 w B v L) (hb:Below w.heap.size w w'):jP e w0 w' B v L :=
 ⟨h.own.keep hb,h.out,fun x hx=>(h.inn x hx).keep hb,h.iJ,fun x hx=>(h.bn x hx).keep hb,h.Iz,h.IB⟩
structure vH (w0 W:World) (g1 g2 g3:Nat) (v:Pt) (s:Bool×Bool):Prop where
 b:Below w0.heap.size w0 W
 at_:aj W g1 39 #[.int .i64 v.x,.int .i64 v.y]
 KW:aj W g2 4 #[.bool s.1]
 odd:aj W g3 4 #[.bool s.2]
 l2:w0.heap.size<=g2
 l3:w0.heap.size<=g3
 n12:g1≠g2
 n13:g1≠g3
 n23:g2≠g3
theorem vH.keep {w0 W W':World} {g1 g2 g3:Nat} {v:Pt} {s:Bool×Bool} (h:vH w0 W g1 g2 g3 v s) (hb:Below W.heap.size W W'):vH w0 W' g1 g2 g3 v s :=
 ⟨bT h.b hb,h.at_.keep hb,h.KW.keep hb,h.odd.keep hb,h.l2,h.l3,h.n12,h.n13,h.n23⟩
theorem vH.anK {w0 W:World} {g1 g2 g3:Nat} {v:Pt} {s:Bool×Bool} (h:vH w0 W g1 g2 g3 v s) (x:Bool):vH w0 (W.setCell ⟨g2,0,none⟩ (.bool x)) g1 g2 g3 v (x,s.2) :=
 ⟨bS h.b h.l2 _,h.at_.far h.n12 _,by have:=h.KW.fF 0 (.bool x);simpa using this,h.odd.far (fun e=>h.n23 e.symm) _,h.l2,h.l3,h.n12,h.n13,h.n23⟩
theorem vH.afj {w0 W:World} {g1 g2 g3:Nat} {v:Pt} {s:Bool×Bool} (h:vH w0 W g1 g2 g3 v s) (x:Bool):vH w0 (W.setCell ⟨g3,0,none⟩ (.bool x)) g1 g2 g3 v (s.1,x) :=
 ⟨bS h.b h.l3 _,h.at_.far h.n13 _,h.KW.far h.n23 _,by have:=h.odd.fF 0 (.bool x);simpa using this,h.l2,h.l3,h.n12,h.n13,h.n23⟩
theorem anL {a b c:Pt} (h:fH [a,b,c]=true):(0<fC a b c↔0<tw a b c)/\(fC a b c<0↔tw a b c<0):=by
 unfold fC Cb;rw [if_pos h];split
 · omega
 · split<;>omega
set_option maxRecDepth 100000 in
set_option maxHeartbeats 8000000 in
theorem anM (w0 W:World) (g1 g2 g3:Nat) (v a b:Pt) (s:Bool×Bool) (h:vH w0 W g1 g2 g3 v s) (na:aW a=true) (nb:aW b=true) (nv:aW v=true) :
  Calls Tryz.prog 199 #[aZ a,aZ b,.pointer (some ⟨g1,0,none⟩),.pointer (some ⟨g2,0,none⟩),.pointer (some ⟨g3,0,none⟩)] W fun e W'=>e=.returned (.tuple #[])/\vH w0 W' g1 g2 g3 v (Bv v s (a,b))/\Below w0.heap.size W W':=by
 have TO:=fun W=>MS a b v W;have TS:=fun W=>abU a b v W;obtain ⟨p1,p2⟩:=anL (a:=a) (b:=b) (c:=v) (by simp [fH,na,nb,nv]);have hz0:=h.b.size;unfold aZ at TO TS ⊢;have HO:=Lib.hid TO;have HS:=Lib.hid TS;have HI:=Lib.hid h;clear TO TS na nb nv;obtain ⟨R,hR⟩:∃ R,Bv v s (a,b)=R:=⟨_,rfl⟩;rw [hR];unfold Bv o8 at hR;simp only at hR;have hl1:=h.at_.lt;have hl2:=h.KW.lt;have hl3:=h.odd.lt;go_enter Tryz.func199,Tryz.ntmps199;go_upto_block 0 with fail;obtain ⟨W1,hW⟩:∃ W1:World,W1=(W.alloc (.cells #[.int .i64 a.x,.int .i64 a.y] 39)).alloc (.cells #[.int .i64 b.x,.int .i64 b.y] 39):=⟨_,rfl⟩;have HB1:=Lib.hid (show Below W.heap.size W W1 by rw [hW];exact bA (bA (bR W) _) _);have X5:aj W1 W.heap.size 39 #[.int .i64 a.x,.int .i64 a.y]:=by rw [hW];exact (aj.made rfl _ _).alloc _
 have X6:aj W1 (W.heap.size+1) 39 #[.int .i64 b.x,.int .i64 b.y]:=by rw [hW];exact aj.made (by simp) _ _
 rw [<- hW];clear hW h;have HI1:=Lib.hid (HI.out.keep HB1.out);have bK:=Lib.hid X5;have jL:=Lib.hid X6;have X1:=HI1.out.at_;have uF:=Lib.hid hR;clear hR;obtain ⟨aI,aJ,aK,-,-⟩:=X1.bI;obtain ⟨dF,dG,dI,-,-⟩:=X5.bI;obtain ⟨jk,jl,jm,-,-⟩:=X6.bI;go_wp2_with fail;refine (HO.out _).mono ?_;rintro e w2 ⟨rfl,hb2⟩;have HI2:=Lib.hid (HI1.out.keep hb2);have HB2:=Lib.hid (Below.trans (HB1.out.mono hz0) (hb2.mono (by have:=HB1.out.size;omega)));have Zk:=Lib.hid (bK.out.keep hb2);have anN:=Lib.hid (jL.out.keep hb2);have hz2:=hb2.size;clear hb2 X1 aI aJ aK X5 dF dG dI X6 jk jl jm bK jL HI1 HB1 HO;have hR:=uF.out;clear uF;obtain ⟨o,ho⟩:∃ o,fO a b v=o:=⟨_,rfl⟩;rw [ho] at hR ⊢;clear ho
 cases o
 case true =>
  rw [if_pos rfl] at hR;have HF:=Lib.hid (HI2.out.anK true);rw [hR] at HF;have X2:=HI2.out.KW;have IC:=Lib.hid (HB2.out.setCell (p:=⟨g2,0,none⟩) HI2.out.l2 (.bool true));clear hR;obtain ⟨gI,gJ,AV⟩:=X2.fB;go_wp2_with fail;exact bodyPost_end (v:=.tuple #[]) (results_none rfl _ _ _) rfl ⟨rfl,HF.out,IC.out⟩
 case false =>
  rw [if_neg (by decide)] at hR;obtain ⟨sd,hsd⟩:∃ sd,fC a b v=sd:=⟨_,rfl⟩;rw [hsd] at HS p1 p2;clear hsd;have X1:=HI2.out.at_;have X5:=Zk.out;have X6:=anN.out
  try clear aI
  try clear aJ
  try clear aK
  obtain ⟨aI,aJ,aK,-,-⟩:=X1.bI
  try clear dF
  try clear dG
  try clear dI
  obtain ⟨dF,dG,dI,-,-⟩:=X5.bI
  try clear jk
  try clear jl
  try clear jm
  obtain ⟨jk,jl,jm,-,-⟩:=X6.bI;by_cases c:(a.y<=v.y/\v.y<b.y)\/(b.y<=v.y/\v.y<a.y)
  case neg =>
   have hf:s=R:=by
    rw [decide_eq_false (by omega)] at hR;simpa using hR
   have HF:=Lib.hid hf;clear hR hf p1 p2;by_cases c1:a.y<=v.y
   ·have c2:¬ v.y<b.y:=by omega
    by_cases d1:b.y<=v.y
    ·have d2:¬ v.y<a.y:=by omega
     clear c;go_wp2_with fail;exact bodyPost_end (v:=.tuple #[]) (results_none rfl _ _ _) rfl ⟨rfl,by rw [<- HF.out];exact HI2.out,HB2.out⟩
    · omega
   ·have d2:v.y<a.y:=by omega
    have d1:¬ b.y<=v.y:=by omega
    clear c;go_wp2_with fail;exact bodyPost_end (v:=.tuple #[]) (results_none rfl _ _ _) rfl ⟨rfl,by rw [<- HF.out];exact HI2.out,HB2.out⟩
  case pos =>
   have anO:=Lib.hid X1;have anP:=Lib.hid X5;have anQ:=Lib.hid X6;rcases c with ⟨c1,c2⟩ | ⟨d1,d2⟩
   ·have d1:¬ b.y<=v.y:=by omega
    go_wp2_with fail;refine (HS.out _).mono ?_;rintro e w3 ⟨rfl,hb3⟩;have HI3:=Lib.hid (HI2.out.keep hb3);have hz3:=hb3.size;have HB3:=Lib.hid (Below.trans HB2.out (hb3.mono (by omega)));have X1:=anO.out.keep hb3;have X5:=anP.out.keep hb3;have X6:=anQ.out.keep hb3;clear hb3
    try clear aI
    try clear aJ
    try clear aK
    obtain ⟨aI,aJ,aK,-,-⟩:=X1.bI
    try clear dF
    try clear dG
    try clear dI
    obtain ⟨dF,dG,dI,-,-⟩:=X5.bI
    try clear jk
    try clear jl
    try clear jm
    obtain ⟨jk,jl,jm,-,-⟩:=X6.bI;by_cases g:0<sd
    ·have hf:(s.1,!s.2)=R:=by
      rw [decide_eq_true (by omega)] at hR;simpa using hR
     have HF:=Lib.hid (HI3.out.afj (!s.2));rw [hf] at HF;have IC:=Lib.hid (HB3.out.setCell (p:=⟨g3,0,none⟩) HI3.out.l3 (.bool (!s.2)));have X3:=HI3.out.odd;obtain ⟨s1,s2⟩:=s;simp only at X3 HF IC;clear hR hf p1 p2;obtain ⟨kU,kV,Ep⟩:=X3.fB
     cases s2
     all_goals
      go_wp2_with fail;exact bodyPost_end (v:=.tuple #[]) (results_none rfl _ _ _) rfl ⟨rfl,HF.out,IC.out⟩
    ·have hf:s=R:=by
      rw [decide_eq_false (by omega)] at hR;simpa using hR
     have HF:=Lib.hid hf;clear hR hf p1 p2;go_wp2_with fail;exact bodyPost_end (v:=.tuple #[]) (results_none rfl _ _ _) rfl ⟨rfl,by rw [<- HF.out];exact HI3.out,HB3.out⟩
   ·have c0:¬ (a.y<=v.y):=by omega
    go_wp2_with fail;refine (HS.out _).mono ?_;rintro e w3 ⟨rfl,hb3⟩;have HI3:=Lib.hid (HI2.out.keep hb3);have hz3:=hb3.size;have HB3:=Lib.hid (Below.trans HB2.out (hb3.mono (by omega)));clear hb3;by_cases g:sd<0
    ·have hf:(s.1,!s.2)=R:=by
      rw [decide_eq_true (by omega)] at hR;simpa using hR
     have HF:=Lib.hid (HI3.out.afj (!s.2));rw [hf] at HF;have IC:=Lib.hid (HB3.out.setCell (p:=⟨g3,0,none⟩) HI3.out.l3 (.bool (!s.2)));have X3:=HI3.out.odd;obtain ⟨s1,s2⟩:=s;simp only at X3 HF IC;clear hR hf p1 p2
     try clear kU
     try clear kV
     try clear Ep
     obtain ⟨kU,kV,Ep⟩:=X3.fB
     cases s2
     all_goals
      go_wp2_with fail;exact bodyPost_end (v:=.tuple #[]) (results_none rfl _ _ _) rfl ⟨rfl,HF.out,IC.out⟩
    ·have hf:s=R:=by
      rw [decide_eq_false (by omega)] at hR;simpa using hR
     have HF:=Lib.hid hf;clear hR hf p1 p2;go_wp2_with fail;exact bodyPost_end (v:=.tuple #[]) (results_none rfl _ _ _) rfl ⟨rfl,by rw [<- HF.out];exact HI3.out,HB3.out⟩
set_option maxRecDepth 100000 in
set_option maxHeartbeats 8000000 in
theorem anR (w:World) (gm:Nat) (p:Pl) (f:Int->SV) (hpm:qQ w gm p f) (hv:Valid p) (vc:Value) (X:List Int) (hX:Ints w vc X) (hd:∀ d∈X,d∈aQ p) (v:Pt) (nv:aW v=true) :
  Calls Tryz.prog 135 #[.map (some gm),vc,aZ v] w fun e w'=>e=.returned (.bool (encS p X v))/\Below w.heap.size w w':=by
 have zM:=Lib.hid (fun s W (h0:vH w W w.heap.size (w.heap.size+1) (w.heap.size+1+1) v s)=>amF w gm p f hpm hv vc X hX hd w.heap.size (w.heap.size+1) (w.heap.size+1+1) (fun s W=>vH w W w.heap.size (w.heap.size+1) (w.heap.size+1+1) v s) (Bv v) (fun s W h=>h.b) (fun s W h=>h.keep (bD (bR W)))
  (fun s W q hq h=>by
   obtain ⟨a,ha,-,k,hk,rfl⟩:=hv.SN hd hq;exact anM w W _ _ _ v _ _ s h (hv.bV ha (by omega)) (hv.bV ha hk) nv) s W h0)
 unfold aZ;obtain ⟨R,hR⟩:∃ R,encS p X v=R:=⟨_,rfl⟩;rw [hR];have uF:=Lib.hid hR;clear hR hpm hv hX hd nv;go_enter Tryz.func135,Tryz.ntmps135;go_upto_region 2 with fail;obtain ⟨W1,hW⟩:∃ W1:World,W1=((w.alloc (.cells #[.int .i64 v.x,.int .i64 v.y] 39)).alloc (.cells #[.bool false] 4)).alloc (.cells #[.bool false] 4):=⟨_,rfl⟩;have HE:=Lib.hid (show vH w W1 w.heap.size (w.heap.size+1) (w.heap.size+1+1) v (false,false) from by
  rw [hW];exact ⟨bA (bA (bA (bR w) _) _) _,((aj.made rfl _ _).alloc _).alloc _,(aj.made (by simp) _ _).alloc _,aj.made (by simp) _ _,by omega,by omega,by omega,by omega,by omega⟩)
 rw [<- hW];clear hW;go_wp2_with fail;refine (zM.out _ _ HE.out).mono ?_;rintro e w2 ⟨rfl,he2,-⟩;have HE2:=Lib.hid he2;have X7:=he2.KW;have X8:=he2.odd;clear he2 HE zM;have hr:=uF.out;unfold encS KA at hr;obtain ⟨S,hS⟩:∃ S,(bU p X).foldl (Bv v) (false,false)=S:=⟨_,rfl⟩;rw [hS] at X7 X8 hr HE2;clear hS uF;obtain ⟨on,od⟩:=S;simp only at X7 X8 hr;obtain ⟨jJ,jK,-⟩:=X7.fB;obtain ⟨qj,ql,-⟩:=X8.fB
 cases od
 case false =>
  obtain rfl:false=R:=by simpa using hr
  clear hr;go_wp2_with fail;go_ret;exact ⟨rfl,HE2.out.b⟩
 case true =>
  obtain rfl:(!on)=R:=by simpa using hr
  clear hr;go_wp2_with fail;go_ret;exact ⟨rfl,HE2.out.b⟩
end Go.Proofs.YtialfdomhoojiaaGreat
