import Derived.Test.YtialfdomhoojiaaGreatJ17
import Derived.Test.YtialfdomhoojiaaGreatJ08
import Derived.Test.YtialfdomhoojiaaGreatJ15
import Derived.Test.YtialfdomhoojiaaGreatJ13
set_option linter.unusedSimpArgs false
set_option linter.unusedVariables false
namespace Go.Proofs.YtialfdomhoojiaaGreat
open Go.RowKit

def SepV (u v:Value):Prop:=∀ g,u.ownBlock=some g→v.ownBlock≠some g

end Go.Proofs.YtialfdomhoojiaaGreat
namespace Go.Proofs.YtialfdomhoojiaaGreat
open Go.RowKit

structure AD where
 tw:Int
 out:List Int
 ov:SV
 inn:List (List Int×SV)
 iv:SV
 alo:List Int
 av:SV
def adC (x:AD):List Value:=[.int .i64 x.tw,svV x.ov,svV x.iv,svV x.av]
theorem adC_len (x:AD):(adC x).length=4:=rfl
theorem adC_one (x:AD):∀ u∈adC x,u.oneCell'=true:=by simp [adC,svV,Value.oneCell']
theorem elem_ad:Elem Tryz.prog 76 82 4 80:=Elem.mk_ (z:=.agg #[.int .i64 0,.slice none 0 0,.slice none 0 0,.slice none 0 0]) (by kernel_rfl) (by kernel_rfl) rfl (by omega)
structure AdT (e:TypeId) (w0 w:World) (B:Nat) (v:Value) (L:List AD):Prop where
 own:Own w B e 4 adC v L
 out:∀ x∈L,Ints w0 (svV x.ov) x.out
 inn:∀ x∈L,Own w B 24 1 cyC (svV x.iv) x.inn
 cyc:∀ x∈L,∀ c∈x.inn,Ints w0 (svV c.2) c.1
 alo:∀ x∈L,Own w B 3 1 inC (svV x.av) x.alo
 sepI:L.Pairwise (fun x y=>SepV (svV x.iv) (svV y.iv))
 sepA:L.Pairwise (fun x y=>SepV (svV x.av) (svV y.av))
theorem AdT.keep {e:TypeId} {w0 w w':World} {B:Nat} {v:Value} {L:List AD} (h:AdT e w0 w B v L) (hb:Below w.heap.size w w'):AdT e w0 w' B v L :=
 ⟨h.own.keep hb,h.out,fun x hx=>(h.inn x hx).keep hb,h.cyc,fun x hx=>(h.alo x hx).keep hb,h.sepI,h.sepA⟩
end Go.Proofs.YtialfdomhoojiaaGreat
namespace Go.Proofs.YtialfdomhoojiaaGreat
open Go.RowKit

structure EncI (w0 W:World) (g1 g2 g3:Nat) (v:Pt) (s:Bool×Bool):Prop where
 b:Below w0.heap.size w0 W
 at_:Blk W g1 39 #[.int .i64 v.x,.int .i64 v.y]
 on_:Blk W g2 4 #[.bool s.1]
 odd:Blk W g3 4 #[.bool s.2]
 l2:w0.heap.size≤g2
 l3:w0.heap.size≤g3
 n12:g1≠g2
 n13:g1≠g3
 n23:g2≠g3
theorem EncI.keep {w0 W W':World} {g1 g2 g3:Nat} {v:Pt} {s:Bool×Bool} (h:EncI w0 W g1 g2 g3 v s) (hb:Below W.heap.size W W'):EncI w0 W' g1 g2 g3 v s :=
 ⟨bT h.b hb,h.at_.keep hb,h.on_.keep hb,h.odd.keep hb,h.l2,h.l3,h.n12,h.n13,h.n23⟩
theorem EncI.setOn {w0 W:World} {g1 g2 g3:Nat} {v:Pt} {s:Bool×Bool} (h:EncI w0 W g1 g2 g3 v s) (x:Bool):EncI w0 (W.setCell ⟨g2,0,none⟩ (.bool x)) g1 g2 g3 v (x,s.2) :=
 ⟨bS h.b h.l2 _,h.at_.far h.n12 _,by have:=h.on_.set_ 0 (.bool x);simpa using this,h.odd.far (fun e=>h.n23 e.symm) _,h.l2,h.l3,h.n12,h.n13,h.n23⟩
theorem EncI.setOdd {w0 W:World} {g1 g2 g3:Nat} {v:Pt} {s:Bool×Bool} (h:EncI w0 W g1 g2 g3 v s) (x:Bool):EncI w0 (W.setCell ⟨g3,0,none⟩ (.bool x)) g1 g2 g3 v (s.1,x) :=
 ⟨bS h.b h.l3 _,h.at_.far h.n13 _,h.on_.far h.n23 _,by have:=h.odd.set_ 0 (.bool x);simpa using this,h.l2,h.l3,h.n12,h.n13,h.n23⟩
theorem side_pos {a b c:Pt} (h:nears [a,b,c]=true):(0<sideS a b c↔0<tw a b c)∧(sideS a b c<0↔tw a b c<0):=by
 unfold sideS twS
 rw [if_pos h]
 split
 · omega
 · split<;>omega

set_option maxRecDepth 100000 in
set_option maxHeartbeats 8000000 in
theorem enc1_spec (w0 W:World) (g1 g2 g3:Nat) (v a b:Pt) (s:Bool×Bool) (h:EncI w0 W g1 g2 g3 v s) (na:near1 a=true) (nb:near1 b=true) (nv:near1 v=true) :
  Calls Tryz.prog 199 #[ptV a,ptV b,.pointer (some ⟨g1,0,none⟩),.pointer (some ⟨g2,0,none⟩),.pointer (some ⟨g3,0,none⟩)] W fun e W'=>e=.returned (.tuple #[])∧EncI w0 W' g1 g2 g3 v (encStep v s (a,b))∧Below w0.heap.size W W':=by
 have TO:=fun W=>On_spec a b v W
 have TS:=fun W=>Side_spec a b v W
 obtain ⟨p1,p2⟩:=side_pos (a:=a) (b:=b) (c:=v) (by simp [nears,na,nb,nv])
 have hz0:=h.b.size
 unfold ptV at TO TS ⊢
 have HO:=Lib.hid TO;have HS:=Lib.hid TS;have HI:=Lib.hid h
 clear TO TS na nb nv
 obtain ⟨R,hR⟩:∃ R,encStep v s (a,b)=R:=⟨_,rfl⟩
 rw [hR]
 unfold encStep pasE at hR
 simp only at hR
 have hl1:=h.at_.lt;have hl2:=h.on_.lt;have hl3:=h.odd.lt
 go_enter Tryz.func199,Tryz.ntmps199
 go_upto_block 0 with fail
 obtain ⟨W1,hW⟩:∃ W1:World,W1=(W.alloc (.cells #[.int .i64 a.x,.int .i64 a.y] 39)).alloc (.cells #[.int .i64 b.x,.int .i64 b.y] 39):=⟨_,rfl⟩
 have HB1:=Lib.hid (show Below W.heap.size W W1 by rw [hW];exact bA (bA (bR W) _) _)
 have X5:Blk W1 W.heap.size 39 #[.int .i64 a.x,.int .i64 a.y]:=by rw [hW];exact (Blk.made rfl _ _).alloc _
 have X6:Blk W1 (W.heap.size+1) 39 #[.int .i64 b.x,.int .i64 b.y]:=by rw [hW];exact Blk.made (by simp) _ _
 rw [← hW]
 clear hW h
 have HI1:=Lib.hid (HI.out.keep HB1.out)
 have HX5:=Lib.hid X5;have HX6:=Lib.hid X6
 have X1:=HI1.out.at_
 have HRr:=Lib.hid hR
 clear hR
 obtain ⟨X1l,X1a,X1b,-,-⟩:=X1.facts2
 obtain ⟨X5l,X5a,X5b,-,-⟩:=X5.facts2
 obtain ⟨X6l,X6a,X6b,-,-⟩:=X6.facts2
 go_wp2_with fail
 refine (HO.out _).mono ?_
 rintro e w2 ⟨rfl,hb2⟩
 have HI2:=Lib.hid (HI1.out.keep hb2)
 have HB2:=Lib.hid (Below.trans (HB1.out.mono hz0) (hb2.mono (by have:=HB1.out.size;omega)))
 have HX52:=Lib.hid (HX5.out.keep hb2);have HX62:=Lib.hid (HX6.out.keep hb2)
 have hz2:=hb2.size
 clear hb2 X1 X1l X1a X1b X5 X5l X5a X5b X6 X6l X6a X6b HX5 HX6 HI1 HB1 HO
 have hR:=HRr.out
 clear HRr
 obtain ⟨o,ho⟩:∃ o,onS a b v=o:=⟨_,rfl⟩
 rw [ho] at hR ⊢
 clear ho
 cases o
 case true =>
  rw [if_pos rfl] at hR
  have HF:=Lib.hid (HI2.out.setOn true)
  rw [hR] at HF
  have X2:=HI2.out.on_
  have HBF:=Lib.hid (HB2.out.setCell (p:=⟨g2,0,none⟩) HI2.out.l2 (.bool true))
  clear hR
  obtain ⟨X2l,X2a,X2fa⟩:=X2.facts1
  go_wp2_with fail
  exact bodyPost_end (v:=.tuple #[]) (results_none rfl _ _ _) rfl ⟨rfl,HF.out,HBF.out⟩
 case false =>
  rw [if_neg (by decide)] at hR
  obtain ⟨sd,hsd⟩:∃ sd,sideS a b v=sd:=⟨_,rfl⟩
  rw [hsd] at HS p1 p2
  clear hsd
  have X1:=HI2.out.at_;have X5:=HX52.out;have X6:=HX62.out
  try clear X1l
  try clear X1a
  try clear X1b
  obtain ⟨X1l,X1a,X1b,-,-⟩:=X1.facts2
  try clear X5l
  try clear X5a
  try clear X5b
  obtain ⟨X5l,X5a,X5b,-,-⟩:=X5.facts2
  try clear X6l
  try clear X6a
  try clear X6b
  obtain ⟨X6l,X6a,X6b,-,-⟩:=X6.facts2
  by_cases c:(a.y≤v.y∧v.y<b.y)∨(b.y≤v.y∧v.y<a.y)
  case neg =>
   have hf:s=R:=by
    rw [decide_eq_false (by omega)] at hR
    simpa using hR
   have HF:=Lib.hid hf
   clear hR hf p1 p2
   by_cases c1:a.y≤v.y
   ·
    have c2:¬ v.y<b.y:=by omega
    by_cases d1:b.y≤v.y
    ·
     have d2:¬ v.y<a.y:=by omega
     clear c
     go_wp2_with fail
     exact bodyPost_end (v:=.tuple #[]) (results_none rfl _ _ _) rfl ⟨rfl,by rw [← HF.out];exact HI2.out,HB2.out⟩
    · omega
   ·
    have d2:v.y<a.y:=by omega
    have d1:¬ b.y≤v.y:=by omega
    clear c
    go_wp2_with fail
    exact bodyPost_end (v:=.tuple #[]) (results_none rfl _ _ _) rfl ⟨rfl,by rw [← HF.out];exact HI2.out,HB2.out⟩
  case pos =>
   have HX1':=Lib.hid X1;have HX5':=Lib.hid X5;have HX6':=Lib.hid X6
   rcases c with ⟨c1,c2⟩ | ⟨d1,d2⟩
   ·
    have d1:¬ b.y≤v.y:=by omega
    go_wp2_with fail
    refine (HS.out _).mono ?_
    rintro e w3 ⟨rfl,hb3⟩
    have HI3:=Lib.hid (HI2.out.keep hb3)
    have hz3:=hb3.size
    have HB3:=Lib.hid (Below.trans HB2.out (hb3.mono (by omega)))
    have X1:=HX1'.out.keep hb3;have X5:=HX5'.out.keep hb3;have X6:=HX6'.out.keep hb3
    clear hb3
    try clear X1l
    try clear X1a
    try clear X1b
    obtain ⟨X1l,X1a,X1b,-,-⟩:=X1.facts2
    try clear X5l
    try clear X5a
    try clear X5b
    obtain ⟨X5l,X5a,X5b,-,-⟩:=X5.facts2
    try clear X6l
    try clear X6a
    try clear X6b
    obtain ⟨X6l,X6a,X6b,-,-⟩:=X6.facts2
    by_cases g:0<sd
    ·
     have hf:(s.1,!s.2)=R:=by
      rw [decide_eq_true (by omega)] at hR
      simpa using hR
     have HF:=Lib.hid (HI3.out.setOdd (!s.2))
     rw [hf] at HF
     have HBF:=Lib.hid (HB3.out.setCell (p:=⟨g3,0,none⟩) HI3.out.l3 (.bool (!s.2)))
     have X3:=HI3.out.odd
     obtain ⟨s1,s2⟩:=s
     simp only at X3 HF HBF
     clear hR hf p1 p2
     obtain ⟨X3l,X3a,X3fa⟩:=X3.facts1
     cases s2
     all_goals
      go_wp2_with fail
      exact bodyPost_end (v:=.tuple #[]) (results_none rfl _ _ _) rfl ⟨rfl,HF.out,HBF.out⟩
    ·
     have hf:s=R:=by
      rw [decide_eq_false (by omega)] at hR
      simpa using hR
     have HF:=Lib.hid hf
     clear hR hf p1 p2
     go_wp2_with fail
     exact bodyPost_end (v:=.tuple #[]) (results_none rfl _ _ _) rfl ⟨rfl,by rw [← HF.out];exact HI3.out,HB3.out⟩
   ·
    have c0:¬ (a.y≤v.y):=by omega
    go_wp2_with fail
    refine (HS.out _).mono ?_
    rintro e w3 ⟨rfl,hb3⟩
    have HI3:=Lib.hid (HI2.out.keep hb3)
    have hz3:=hb3.size
    have HB3:=Lib.hid (Below.trans HB2.out (hb3.mono (by omega)))
    clear hb3
    by_cases g:sd<0
    ·
     have hf:(s.1,!s.2)=R:=by
      rw [decide_eq_true (by omega)] at hR
      simpa using hR
     have HF:=Lib.hid (HI3.out.setOdd (!s.2))
     rw [hf] at HF
     have HBF:=Lib.hid (HB3.out.setCell (p:=⟨g3,0,none⟩) HI3.out.l3 (.bool (!s.2)))
     have X3:=HI3.out.odd
     obtain ⟨s1,s2⟩:=s
     simp only at X3 HF HBF
     clear hR hf p1 p2
     try clear X3l
     try clear X3a
     try clear X3fa
     obtain ⟨X3l,X3a,X3fa⟩:=X3.facts1
     cases s2
     all_goals
      go_wp2_with fail
      exact bodyPost_end (v:=.tuple #[]) (results_none rfl _ _ _) rfl ⟨rfl,HF.out,HBF.out⟩
    ·
     have hf:s=R:=by
      rw [decide_eq_false (by omega)] at hR
      simpa using hR
     have HF:=Lib.hid hf
     clear hR hf p1 p2
     go_wp2_with fail
     exact bodyPost_end (v:=.tuple #[]) (results_none rfl _ _ _) rfl ⟨rfl,by rw [← HF.out];exact HI3.out,HB3.out⟩

set_option maxRecDepth 100000 in
set_option maxHeartbeats 8000000 in
theorem Encloses_spec (w:World) (gm:Nat) (p:Pl) (f:Int→SV) (hpm:PathsM w gm p f) (hv:Valid p) (vc:Value) (X:List Int) (hX:Ints w vc X) (hd:∀ d∈X,d∈dartsD p) (v:Pt) (nv:near1 v=true) :
  Calls Tryz.prog 135 #[.map (some gm),vc,ptV v] w fun e w'=>e=.returned (.bool (encS p X v))∧Below w.heap.size w w':=by
 have HSg:=Lib.hid (fun s W (h0:EncI w W w.heap.size (w.heap.size+1) (w.heap.size+1+1) v s)=>SegsE_spec w gm p f hpm hv vc X hX hd w.heap.size (w.heap.size+1) (w.heap.size+1+1) (fun s W=>EncI w W w.heap.size (w.heap.size+1) (w.heap.size+1+1) v s) (encStep v) (fun s W h=>h.b) (fun s W h=>h.keep (bD (bR W)))
  (fun s W q hq h=>by
   obtain ⟨a,ha,-,k,hk,rfl⟩:=hv.seg_mem hd hq
   exact enc1_spec w W _ _ _ v _ _ s h (hv.pt_near ha (by omega)) (hv.pt_near ha hk) nv) s W h0)
 unfold ptV
 obtain ⟨R,hR⟩:∃ R,encS p X v=R:=⟨_,rfl⟩
 rw [hR]
 have HRr:=Lib.hid hR
 clear hR hpm hv hX hd nv
 go_enter Tryz.func135,Tryz.ntmps135
 go_upto_region 2 with fail
 obtain ⟨W1,hW⟩:∃ W1:World,W1=((w.alloc (.cells #[.int .i64 v.x,.int .i64 v.y] 39)).alloc (.cells #[.bool false] 4)).alloc (.cells #[.bool false] 4):=⟨_,rfl⟩
 have HE:=Lib.hid (show EncI w W1 w.heap.size (w.heap.size+1) (w.heap.size+1+1) v (false,false) from by
  rw [hW]
  exact ⟨bA (bA (bA (bR w) _) _) _,((Blk.made rfl _ _).alloc _).alloc _,(Blk.made (by simp) _ _).alloc _,Blk.made (by simp) _ _,by omega,by omega,by omega,by omega,by omega⟩)
 rw [← hW]
 clear hW
 go_wp2_with fail
 refine (HSg.out _ _ HE.out).mono ?_
 rintro e w2 ⟨rfl,he2,-⟩
 have HE2:=Lib.hid he2
 have X7:=he2.on_;have X8:=he2.odd
 clear he2 HE HSg
 have hr:=HRr.out
 unfold encS encF at hr
 obtain ⟨S,hS⟩:∃ S,(segX p X).foldl (encStep v) (false,false)=S:=⟨_,rfl⟩
 rw [hS] at X7 X8 hr HE2
 clear hS HRr
 obtain ⟨on,od⟩:=S
 simp only at X7 X8 hr
 obtain ⟨X7l,X7a,-⟩:=X7.facts1
 obtain ⟨X8l,X8a,-⟩:=X8.facts1
 cases od
 case false =>
  obtain rfl:false=R:=by simpa using hr
  clear hr
  go_wp2_with fail
  go_ret
  exact ⟨rfl,HE2.out.b⟩
 case true =>
  obtain rfl:(!on)=R:=by simpa using hr
  clear hr
  go_wp2_with fail
  go_ret
  exact ⟨rfl,HE2.out.b⟩
end Go.Proofs.YtialfdomhoojiaaGreat
