import Derived.Test.YtnhdmghgjngcaaaGreatJ15
import Derived.Test.YtnhdmghgjngcaaaGreatGB
import Derived.Test.YtnhdmghgjngcaaaGreatJ04
import Derived.Test.YtnhdmghgjngcaaaGreatJ08
set_option linter.unusedSimpArgs false
set_option linter.unusedVariables false
namespace Go.Proofs.YtnhdmghgjngcaaaGreat
open Go.RowKit

structure EncI (w0 W:World) (g1 g2 g3:Nat) (v:Pt) (s:Bool×Bool):Prop where
 b:Below w0.heap.size w0 W
 at_:Blk W g1 36 #[.int .i64 v.x,.int .i64 v.y]
 on_:Blk W g2 4 #[.bool s.1]
 odd:Blk W g3 4 #[.bool s.2]
 l2:w0.heap.size≤g2
 l3:w0.heap.size≤g3
 n12:g1≠g2
 n13:g1≠g3
 n23:g2≠g3
theorem EncI.keep {w0 W W':World} {g1 g2 g3:Nat} {v:Pt} {s:Bool×Bool} (h:EncI w0 W g1 g2 g3 v s) (hb:Below W.heap.size W W'):EncI w0 W' g1 g2 g3 v s :=
 ⟨bT h.b hb,h.at_.keep hb,h.on_.keep hb,h.odd.keep hb,h.l2,h.l3,h.n12,h.n13,h.n23⟩
theorem EncI.setOn {w0 W:World} {g1 g2 g3:Nat} {v:Pt} {s:Bool×Bool} (h:EncI w0 W g1 g2 g3 v s) (x:Bool):EncI w0 (W.setCell ⟨g2,0,none⟩ (.bool x)) g1 g2 g3 v (x,s.2) :=
 ⟨bS h.b h.l2 _,h.at_.far h.n12 _,by have:=h.on_.set_ 0 (.bool x);simpa using this,h.odd.far (fun e=>h.n23 e.symm) _,h.l2,h.l3,h.n12,h.n13,h.n23⟩
theorem EncI.setOdd {w0 W:World} {g1 g2 g3:Nat} {v:Pt} {s:Bool×Bool} (h:EncI w0 W g1 g2 g3 v s) (x:Bool):EncI w0 (W.setCell ⟨g3,0,none⟩ (.bool x)) g1 g2 g3 v (s.1,x) :=
 ⟨bS h.b h.l3 _,h.at_.far h.n13 _,h.on_.far h.n23 _,by have:=h.odd.set_ 0 (.bool x);simpa using this,h.l2,h.l3,h.n12,h.n13,h.n23⟩
theorem side_pos {a b c:Pt} (h:nears [a,b,c]=true):(0<sideS a b c↔0<tw a b c)∧(sideS a b c<0↔tw a b c<0):=by
 unfold sideS twS
 rw [if_pos h]
 split
 · omega
 · split<;>omega

set_option maxRecDepth 100000 in
set_option maxHeartbeats 8000000 in
theorem enc1_spec (w0 W:World) (g1 g2 g3:Nat) (v a b:Pt) (s:Bool×Bool) (h:EncI w0 W g1 g2 g3 v s) (na:near1 a=true) (nb:near1 b=true) (nv:near1 v=true) :
  Calls Tryz.prog 128 #[ptV a,ptV b,.pointer (some ⟨g1,0,none⟩),.pointer (some ⟨g2,0,none⟩),.pointer (some ⟨g3,0,none⟩)] W fun e W'=>e=.returned (.tuple #[])∧EncI w0 W' g1 g2 g3 v (encStep v s (a,b))∧Below w0.heap.size W W':=by
 have TO:=fun W=>On_spec a b v W
 have TS:=fun W=>Side_spec a b v W
 obtain ⟨p1,p2⟩:=side_pos (a:=a) (b:=b) (c:=v) (by simp [nears,na,nb,nv])
 have hz0:=h.b.size
 unfold ptV at TO TS ⊢
 have HO:=Lib.hid TO;have HS:=Lib.hid TS;have HI:=Lib.hid h
 clear TO TS na nb nv
 obtain ⟨R,hR⟩:∃ R,encStep v s (a,b)=R:=⟨_,rfl⟩
 rw [hR]
 unfold encStep pasE at hR
 simp only at hR
 have hl1:=h.at_.lt;have hl2:=h.on_.lt;have hl3:=h.odd.lt
 go_enter Tryz.func128,Tryz.ntmps128
 go_upto_block 0 with fail
 obtain ⟨W1,hW⟩:∃ W1:World,W1=(W.alloc (.cells #[.int .i64 a.x,.int .i64 a.y] 36)).alloc (.cells #[.int .i64 b.x,.int .i64 b.y] 36):=⟨_,rfl⟩
 have HB1:=Lib.hid (show Below W.heap.size W W1 by rw [hW];exact bA (bA (bR W) _) _)
 have X5:Blk W1 W.heap.size 36 #[.int .i64 a.x,.int .i64 a.y]:=by rw [hW];exact (Blk.made rfl _ _).alloc _
 have X6:Blk W1 (W.heap.size+1) 36 #[.int .i64 b.x,.int .i64 b.y]:=by rw [hW];exact Blk.made (by simp) _ _
 rw [← hW]
 clear hW h
 have HI1:=Lib.hid (HI.out.keep HB1.out)
 have HX5:=Lib.hid X5;have HX6:=Lib.hid X6
 have X1:=HI1.out.at_
 have HRr:=Lib.hid hR
 clear hR
 obtain ⟨X1l,X1a,X1b,-,-⟩:=X1.facts2
 obtain ⟨X5l,X5a,X5b,-,-⟩:=X5.facts2
 obtain ⟨X6l,X6a,X6b,-,-⟩:=X6.facts2
 go_wp2_with fail
 refine (HO.out _).mono ?_
 rintro e w2 ⟨rfl,hb2⟩
 have HI2:=Lib.hid (HI1.out.keep hb2)
 have HB2:=Lib.hid (Below.trans (HB1.out.mono hz0) (hb2.mono (by have:=HB1.out.size;omega)))
 have HX52:=Lib.hid (HX5.out.keep hb2);have HX62:=Lib.hid (HX6.out.keep hb2)
 have hz2:=hb2.size
 clear hb2 X1 X1l X1a X1b X5 X5l X5a X5b X6 X6l X6a X6b HX5 HX6 HI1 HB1 HO
 have hR:=HRr.out
 clear HRr
 obtain ⟨o,ho⟩:∃ o,onS a b v=o:=⟨_,rfl⟩
 rw [ho] at hR ⊢
 clear ho
 cases o
 case true =>
  rw [if_pos rfl] at hR
  have HF:=Lib.hid (HI2.out.setOn true)
  rw [hR] at HF
  have X2:=HI2.out.on_
  have HBF:=Lib.hid (HB2.out.setCell (p:=⟨g2,0,none⟩) HI2.out.l2 (.bool true))
  clear hR
  obtain ⟨X2l,X2a,X2fa⟩:=X2.facts1
  go_wp2_with fail
  exact bodyPost_end (v:=.tuple #[]) (results_none rfl _ _ _) rfl ⟨rfl,HF.out,HBF.out⟩
 case false =>
  rw [if_neg (by decide)] at hR
  obtain ⟨sd,hsd⟩:∃ sd,sideS a b v=sd:=⟨_,rfl⟩
  rw [hsd] at HS p1 p2
  clear hsd
  have X1:=HI2.out.at_;have X5:=HX52.out;have X6:=HX62.out
  try clear X1l
  try clear X1a
  try clear X1b
  obtain ⟨X1l,X1a,X1b,-,-⟩:=X1.facts2
  try clear X5l
  try clear X5a
  try clear X5b
  obtain ⟨X5l,X5a,X5b,-,-⟩:=X5.facts2
  try clear X6l
  try clear X6a
  try clear X6b
  obtain ⟨X6l,X6a,X6b,-,-⟩:=X6.facts2
  by_cases c:(a.y≤v.y∧v.y<b.y)∨(b.y≤v.y∧v.y<a.y)
  case neg =>
   have hf:s=R:=by
    rw [decide_eq_false (by omega)] at hR
    simpa using hR
   have HF:=Lib.hid hf
   clear hR hf p1 p2
   by_cases c1:a.y≤v.y
   ·
    have c2:¬ v.y<b.y:=by omega
    by_cases d1:b.y≤v.y
    ·
     have d2:¬ v.y<a.y:=by omega
     clear c
     go_wp2_with fail
     exact bodyPost_end (v:=.tuple #[]) (results_none rfl _ _ _) rfl ⟨rfl,by rw [← HF.out];exact HI2.out,HB2.out⟩
    · omega
   ·
    have d2:v.y<a.y:=by omega
    have d1:¬ b.y≤v.y:=by omega
    clear c
    go_wp2_with fail
    exact bodyPost_end (v:=.tuple #[]) (results_none rfl _ _ _) rfl ⟨rfl,by rw [← HF.out];exact HI2.out,HB2.out⟩
  case pos =>
   have HX1':=Lib.hid X1;have HX5':=Lib.hid X5;have HX6':=Lib.hid X6
   rcases c with ⟨c1,c2⟩ | ⟨d1,d2⟩
   ·
    have d1:¬ b.y≤v.y:=by omega
    go_wp2_with fail
    refine (HS.out _).mono ?_
    rintro e w3 ⟨rfl,hb3⟩
    have HI3:=Lib.hid (HI2.out.keep hb3)
    have hz3:=hb3.size
    have HB3:=Lib.hid (Below.trans HB2.out (hb3.mono (by omega)))
    have X1:=HX1'.out.keep hb3;have X5:=HX5'.out.keep hb3;have X6:=HX6'.out.keep hb3
    clear hb3
    try clear X1l
    try clear X1a
    try clear X1b
    obtain ⟨X1l,X1a,X1b,-,-⟩:=X1.facts2
    try clear X5l
    try clear X5a
    try clear X5b
    obtain ⟨X5l,X5a,X5b,-,-⟩:=X5.facts2
    try clear X6l
    try clear X6a
    try clear X6b
    obtain ⟨X6l,X6a,X6b,-,-⟩:=X6.facts2
    by_cases g:0<sd
    ·
     have hf:(s.1,!s.2)=R:=by
      rw [decide_eq_true (by omega)] at hR
      simpa using hR
     have HF:=Lib.hid (HI3.out.setOdd (!s.2))
     rw [hf] at HF
     have HBF:=Lib.hid (HB3.out.setCell (p:=⟨g3,0,none⟩) HI3.out.l3 (.bool (!s.2)))
     have X3:=HI3.out.odd
     obtain ⟨s1,s2⟩:=s
     simp only at X3 HF HBF
     clear hR hf p1 p2
     obtain ⟨X3l,X3a,X3fa⟩:=X3.facts1
     cases s2
     all_goals
      go_wp2_with fail
      exact bodyPost_end (v:=.tuple #[]) (results_none rfl _ _ _) rfl ⟨rfl,HF.out,HBF.out⟩
    ·
     have hf:s=R:=by
      rw [decide_eq_false (by omega)] at hR
      simpa using hR
     have HF:=Lib.hid hf
     clear hR hf p1 p2
     go_wp2_with fail
     exact bodyPost_end (v:=.tuple #[]) (results_none rfl _ _ _) rfl ⟨rfl,by rw [← HF.out];exact HI3.out,HB3.out⟩
   ·
    have c0:¬ (a.y≤v.y):=by omega
    go_wp2_with fail
    refine (HS.out _).mono ?_
    rintro e w3 ⟨rfl,hb3⟩
    have HI3:=Lib.hid (HI2.out.keep hb3)
    have hz3:=hb3.size
    have HB3:=Lib.hid (Below.trans HB2.out (hb3.mono (by omega)))
    clear hb3
    by_cases g:sd<0
    ·
     have hf:(s.1,!s.2)=R:=by
      rw [decide_eq_true (by omega)] at hR
      simpa using hR
     have HF:=Lib.hid (HI3.out.setOdd (!s.2))
     rw [hf] at HF
     have HBF:=Lib.hid (HB3.out.setCell (p:=⟨g3,0,none⟩) HI3.out.l3 (.bool (!s.2)))
     have X3:=HI3.out.odd
     obtain ⟨s1,s2⟩:=s
     simp only at X3 HF HBF
     clear hR hf p1 p2
     try clear X3l
     try clear X3a
     try clear X3fa
     obtain ⟨X3l,X3a,X3fa⟩:=X3.facts1
     cases s2
     all_goals
      go_wp2_with fail
      exact bodyPost_end (v:=.tuple #[]) (results_none rfl _ _ _) rfl ⟨rfl,HF.out,HBF.out⟩
    ·
     have hf:s=R:=by
      rw [decide_eq_false (by omega)] at hR
      simpa using hR
     have HF:=Lib.hid hf
     clear hR hf p1 p2
     go_wp2_with fail
     exact bodyPost_end (v:=.tuple #[]) (results_none rfl _ _ _) rfl ⟨rfl,by rw [← HF.out];exact HI3.out,HB3.out⟩

set_option maxRecDepth 100000 in
set_option maxHeartbeats 8000000 in
theorem Encloses_spec (w:World) (gm:Nat) (p:Pl) (f:Int→SV) (hpm:PathsM w gm p f) (hv:Valid p) (vc:Value) (X:List Int) (hX:Ints w vc X) (hd:∀ d∈X,d∈dartsD p) (v:Pt) (nv:near1 v=true) :
  Calls Tryz.prog 96 #[.map (some gm),vc,ptV v] w fun e w'=>e=.returned (.bool (encS p X v))∧Below w.heap.size w w':=by
 have HSg:=Lib.hid (fun s W (h0:EncI w W w.heap.size (w.heap.size+1) (w.heap.size+1+1) v s)=>SegsE_spec w gm p f hpm hv vc X hX hd w.heap.size (w.heap.size+1) (w.heap.size+1+1) (fun s W=>EncI w W w.heap.size (w.heap.size+1) (w.heap.size+1+1) v s) (encStep v) (fun s W h=>h.b) (fun s W h=>h.keep (bD (bR W)))
  (fun s W q hq h=>by
   obtain ⟨a,ha,-,k,hk,rfl⟩:=hv.seg_mem hd hq
   exact enc1_spec w W _ _ _ v _ _ s h (hv.pt_near ha (by omega)) (hv.pt_near ha hk) nv) s W h0)
 unfold ptV
 obtain ⟨R,hR⟩:∃ R,encS p X v=R:=⟨_,rfl⟩
 rw [hR]
 have HRr:=Lib.hid hR
 clear hR hpm hv hX hd nv
 go_enter Tryz.func96,Tryz.ntmps96
 go_upto_region 2 with fail
 obtain ⟨W1,hW⟩:∃ W1:World,W1=((w.alloc (.cells #[.int .i64 v.x,.int .i64 v.y] 36)).alloc (.cells #[.bool false] 4)).alloc (.cells #[.bool false] 4):=⟨_,rfl⟩
 have HE:=Lib.hid (show EncI w W1 w.heap.size (w.heap.size+1) (w.heap.size+1+1) v (false,false) from by
  rw [hW]
  exact ⟨bA (bA (bA (bR w) _) _) _,((Blk.made rfl _ _).alloc _).alloc _,(Blk.made (by simp) _ _).alloc _,Blk.made (by simp) _ _,by omega,by omega,by omega,by omega,by omega⟩)
 rw [← hW]
 clear hW
 go_wp2_with fail
 refine (HSg.out _ _ HE.out).mono ?_
 rintro e w2 ⟨rfl,he2,-⟩
 have HE2:=Lib.hid he2
 have X7:=he2.on_;have X8:=he2.odd
 clear he2 HE HSg
 have hr:=HRr.out
 unfold encS encF at hr
 obtain ⟨S,hS⟩:∃ S,(segX p X).foldl (encStep v) (false,false)=S:=⟨_,rfl⟩
 rw [hS] at X7 X8 hr HE2
 clear hS HRr
 obtain ⟨on,od⟩:=S
 simp only at X7 X8 hr
 obtain ⟨X7l,X7a,-⟩:=X7.facts1
 obtain ⟨X8l,X8a,-⟩:=X8.facts1
 cases od
 case false =>
  obtain rfl:false=R:=by simpa using hr
  clear hr
  go_wp2_with fail
  go_ret
  exact ⟨rfl,HE2.out.b⟩
 case true =>
  obtain rfl:(!on)=R:=by simpa using hr
  clear hr
  go_wp2_with fail
  go_ret
  exact ⟨rfl,HE2.out.b⟩
end Go.Proofs.YtnhdmghgjngcaaaGreat
namespace Go.Proofs.YtnhdmghgjngcaaaGreat
open Go.RowKit

def AdR (w:World) (v:Value) (L:List AD):Prop:=Sl w v L.length (L.flatMap adC)∧∀ x∈L,Ints w (svV x.ov) x.out
theorem Row.ad {w:World} {A:Option Addr} {l:List AD} (h:Row w A (l.flatMap adC)) {k:Nat} (hk:k<l.length) :
  ∃ b o,A=some ⟨b,o,none⟩∧b<w.heap.size∧w.cell? ⟨b,o+k*4,none⟩=some (.int .i64 l[k].tw)∧w.cell? ⟨b,o+k*4+1,none⟩=some (svV l[k].ov)∧w.cell? ⟨b,o+k*4+2,none⟩=some (svV l[k].iv)∧w.cell? ⟨b,o+k*4+3,none⟩=some (svV l[k].av):=by
 obtain ⟨b,o,hA,hb,hc⟩:=h.at_ (n:=4) (fun _=>rfl) hk (by omega)
 exact ⟨b,o,hA,hb,hc 0 _ rfl,hc 1 _ rfl,hc 2 _ rfl,hc 3 _ rfl⟩
def bestIx (p:Pl) (v:Pt) (L:List AD) (k b:Nat):Prop :=
 (b=0∧bestC (fun x:AD=>encS p x.out v) (·.tw) (L.tail.take k)=none)∨∃ hb:b<L.length,1≤b∧b≤k∧bestC (fun x:AD=>encS p x.out v) (·.tw) (L.tail.take k)=some L[b]
theorem tail_get {L:List AD} {k:Nat} (hk:k+1<L.length):L.tail.take (k+1)=L.tail.take k++[L[k+1]]:=by
 cases L with
 | nil=>cases hk
 | cons a L=>simp only [List.tail_cons,List.getElem_cons_succ];exact List.take_succ_eq_append_getElem (by simpa using hk)
theorem bestIx_zero (p:Pl) (v:Pt) (L:List AD):bestIx p v L 0 0:=.inl ⟨rfl,by rw [List.take_zero];rfl⟩
theorem bestIx_take {p:Pl} {v:Pt} {L:List AD} {k b:Nat} (h:bestIx p v L k b) (hk:k+1<L.length) (hE:encS p L[k+1].out v=true) (hlt:b=0∨∃ hb:b<L.length,L[k+1].tw<L[b].tw):bestIx p v L (k+1) (k+1):=by
 refine .inr ⟨hk,by omega,Nat.le_refl _,?_⟩
 rw [tail_get hk,best_snoc]
 unfold bestStep
 rcases h with ⟨rfl,e⟩ | ⟨hb,h1,h2,e⟩
 · rw [e];simp [hE]
 ·
  rw [e]
  rcases hlt with g | ⟨_,g⟩
  · omega
  · simp [hE,g]
theorem bestIx_skip {p:Pl} {v:Pt} {L:List AD} {k b:Nat} (h:bestIx p v L k b) (hk:k+1<L.length) (hno:encS p L[k+1].out v=false∨(b≠0∧∃ hb:b<L.length,¬ L[k+1].tw<L[b].tw)):bestIx p v L (k+1) b:=by
 rcases h with ⟨rfl,e⟩ | ⟨hb,h1,h2,e⟩
 ·
  refine .inl ⟨rfl,?_⟩
  rw [tail_get hk,best_snoc,e]
  rcases hno with g | ⟨g,-⟩
  · unfold bestStep;simp [g]
  · exact absurd rfl g
 ·
  refine .inr ⟨hb,h1,by omega,?_⟩
  rw [tail_get hk,best_snoc,e]
  unfold bestStep
  rcases hno with g | ⟨-,_,g⟩
  · simp [g]
  · simp [g]

set_option maxRecDepth 100000 in
set_option maxHeartbeats 8000000 in
theorem Find_spec (w:World) (gm:Nat) (p:Pl) (f:Int→SV) (hpm:PathsM w gm p f) (hv:Valid p) (vl:Value) (L:List AD) (hL:AdR w vl L) (hd:∀ x∈L,∀ d∈x.out,d∈dartsD p) (hl:L.length≤1000) (v:Pt) (nv:near1 v=true) :
  Calls Tryz.prog 62 #[.map (some gm),vl,ptV v] w fun e w'=>(∃ b:Nat,e=.returned (.int .i64 b)∧bestIx p v L (L.length-1) b)∧Below w.heap.size w w':=by
 have HEn:=Lib.hid (fun k (hk:k<L.length) W (hW:Below w.heap.size w W)=>Encloses_spec W gm p f (hpm.keep hW) hv _ L[k].out ((hL.2 _ (List.getElem_mem hk)).mono hW) (hd _ (List.getElem_mem hk)) v nv)
 obtain ⟨⟨Al,cl,rfl,hc1,hc2,hR⟩,-⟩:=hL
 unfold maxLen at hc2
 have HR:=Lib.hid hR
 unfold ptV at HEn ⊢
 clear hR hpm hv hd nv
 go_enter Tryz.func62,Tryz.ntmps62
 go_upto_block 0 with fail
 obtain ⟨W1,hW⟩:∃ W1:World,W1=w.alloc (.cells #[.int .i64 v.x,.int .i64 v.y] 36):=⟨_,rfl⟩
 have HB1:=Lib.hid (show Below w.heap.size w W1 by rw [hW];exact bA (bR w) _)
 have HX1:=Lib.hid (show Blk W1 w.heap.size 36 #[.int .i64 v.x,.int .i64 v.y] by rw [hW];exact Blk.made rfl _ _)
 rw [← hW]
 clear hW
 go_wp2_with fail
 go_loopw [7,8] (fun s i wr=>∃ k b:Nat,(k+1≤L.length∨k=0)∧i=.int .i64 ((k:Int)+1)∧s=.int .i64 b∧bestIx p v L k b∧Below W1.heap.size W1 wr) (fun _ i _=>L.length-(intOf i).toNat)
 case atStart => exact ⟨0,0,.inr rfl,rfl,rfl,bestIx_zero p v L,bR W1⟩
 case round =>
  obtain ⟨k,b,hk,rfl,rfl,hbx,hb⟩:=hrel
  have HBx:=Lib.hid hbx;have Hb:=Lib.hid (bT HB1.out hb)
  have HBw:=Lib.hid hb
  have X5:=HX1.out.keep hb
  clear hb
  by_cases hlt:k+1<L.length
  ·
   obtain ⟨bq,oq,rfl,hlb,c0,c1,-,-⟩:=(HR.out.mono Hb.out).ad hlt
   have HE:=Lib.hid (HEn.out (k+1) hlt)
   obtain ⟨E,hE⟩:∃ E,encS p L[k+1].out v=E:=⟨_,rfl⟩
   rw [hE] at HE
   have HEe:=Lib.hid hE
   clear hE
   have k1:IntKind.i64.wrap ((k:Int)+1)=(k:Int)+1:=IntWalk.i64_in _ (by omega)
   have k2:(k:Int)+1<L.length:=by omega
   have k3:0≤(k:Int)+1:=by omega
   have HTw:=Lib.hid (show ∀ t,L[k+1].tw=t→∀ b':Nat,b=b'→True from fun _ _ _ _=>trivial)
   clear HTw
   rcases HBx.out with ⟨hb0,-⟩ | ⟨hbl,hb1,hb2,-⟩
   ·
    subst hb0
    have hyes:=Lib.hid (fun h=>bestIx_take HBx.out hlt (HEe.out.trans h) (.inl rfl))
    have hnot:=Lib.hid (fun h=>bestIx_skip HBx.out hlt (.inl (HEe.out.trans h)))
    generalize L[k+1].tw=t at *
    generalize L[k+1].ov=sv at *
    obtain ⟨sa,sn,sc⟩:=sv
    unfold svV at c1 HE
    obtain ⟨X5l,X5a,X5b,-,-⟩:=X5.facts2
    go_upto_region 5 with fail
    refine rg_start (Since wr) (.run 23 0 0 (.call 23 16777215 (.take 24 33554431 (.done)))) (by kernel_rfl) (bD (bR _)) (by kernel_rfl) (by kernel_rfl) (Nat.le_of_ble_eq_true (by kernel_rfl)) ?_
    intro opsR QR Hops HQrg hS
    iterate 3
     apply rg_p;exact Hops;exact rfl;exact hS;exact rfl
     · intro _ hqc;go_simp;try rfl
     try simp only [pu]
    iterate 11
     refine rg_yn Hops rfl hS rfl rfl rfl rfl rfl ?_
     try simp only [pu]
    iterate 2
     apply rg_p;exact Hops;exact rfl;exact hS;exact rfl
     · intro _ hqc;go_simp;try rfl
     try simp only [pu]
    iterate 7
     apply rg_g;exact Hops;exact rfl;exact hS;iterate 4 exact rfl
     · intro _ hqc;go_simp;try rfl
     try simp only [pu]
    refine rg_call (i:=23) (get_of Hops rfl) (fun K hK=>?_)
    have HSrg:=Lib.hid hS;clear hS
    refine rg_run (wanted_yes rfl (get_of Hops rfl) rfl rfl) ?_
    go_simp
    refine (HE.out _ (bT Hb.out HSrg.out)).mono ?_
    rintro e wr1 ⟨rfl,hbr1⟩
    have hS:Since wr wr1:=bT (w:=wr) HSrg.out hbr1
    clear HSrg
    refine hK.out _ _ hS (fun _=>?_)
    clear hK K
    try simp only [pu]
    apply rg_p;exact Hops;exact rfl;exact hS;exact rfl
    · intro _ hqc;go_simp;try rfl
    try simp only [pu]
    refine rg_done ?_
    refine HQrg.down _ _ ?_
    have hB:Below wr.heap.size wr wr1:=hS
    clear hS HQrg Hops
    have HB5:=Lib.hid (bT HBw.out hB)
    clear hB c0 c1 X5 X5l X5a X5b
    cases E
    ·
     go_wp2_with fail
     go_roundw
     case rel => exact ⟨k+1,0,.inl (by omega),by go_num,rfl,hnot.out rfl,HB5.out⟩
     case measure => simp [intOf];omega
    ·
     go_wp2_with fail
     go_roundw
     case rel => exact ⟨k+1,k+1,.inl (by omega),by go_num,by go_num,hyes.out rfl,HB5.out⟩
     case measure => simp [intOf];omega
   ·
    obtain ⟨bq',oq',hA',-,e0,-,-,-⟩:=(HR.out.mono Hb.out).ad hbl
    injection hA' with hA'
    injection hA' with y1 y2 _
    subst y1 y2
    have k4:IntKind.i64.wrap (b:Int)=b:=IntWalk.i64_in _ (by omega)
    have k5:(b:Int)<L.length:=by omega
    have k6:0≤(b:Int):=by omega
    have kb:((b:Int) == 0)=false:=by simp;omega
    have hyes:=Lib.hid (fun h g=>bestIx_take HBx.out hlt (HEe.out.trans h) (.inr ⟨hbl,g⟩))
    have hnot:=Lib.hid (fun h=>bestIx_skip HBx.out hlt (.inl (HEe.out.trans h)))
    have hnot2:=Lib.hid (fun g=>bestIx_skip HBx.out hlt (.inr ⟨by omega,hbl,g⟩))
    generalize L[b].tw=tb at *
    generalize L[k+1].tw=t at *
    generalize L[k+1].ov=sv at *
    obtain ⟨sa,sn,sc⟩:=sv
    unfold svV at c1 HE
    try clear X5l
    try clear X5a
    try clear X5b
    obtain ⟨X5l,X5a,X5b,-,-⟩:=X5.facts2
    by_cases hlt2:t<tb
    ·
     go_upto_region 5 with fail
     refine rg_start (Since wr) (.run 23 0 0 (.call 23 16777215 (.take 24 33554431 (.done)))) (by kernel_rfl) (bD (bR _)) (by kernel_rfl) (by kernel_rfl) (Nat.le_of_ble_eq_true (by kernel_rfl)) ?_
     intro opsR QR Hops HQrg hS
     iterate 3
      apply rg_p;exact Hops;exact rfl;exact hS;exact rfl
      · intro _ hqc;go_simp;try rfl
      try simp only [pu]
     iterate 11
      apply rg_g;exact Hops;exact rfl;exact hS;iterate 4 exact rfl
      · intro _ hqc;go_simp;try rfl
      try simp only [pu]
     iterate 2
      apply rg_p;exact Hops;exact rfl;exact hS;exact rfl
      · intro _ hqc;go_simp;try rfl
      try simp only [pu]
     iterate 7
      apply rg_g;exact Hops;exact rfl;exact hS;iterate 4 exact rfl
      · intro _ hqc;go_simp;try rfl
      try simp only [pu]
     refine rg_call (i:=23) (get_of Hops rfl) (fun K hK=>?_)
     have HSrg:=Lib.hid hS;clear hS
     refine rg_run (wanted_yes rfl (get_of Hops rfl) rfl rfl) ?_
     go_simp
     refine (HE.out _ (bT Hb.out HSrg.out)).mono ?_
     rintro e wr1 ⟨rfl,hbr1⟩
     have hS:Since wr wr1:=bT (w:=wr) HSrg.out hbr1
     clear HSrg
     refine hK.out _ _ hS (fun _=>?_)
     clear hK K
     try simp only [pu]
     apply rg_p;exact Hops;exact rfl;exact hS;exact rfl
     · intro _ hqc;go_simp;try rfl
     try simp only [pu]
     refine rg_done ?_
     refine HQrg.down _ _ ?_
     have hB:Below wr.heap.size wr wr1:=hS
     clear hS HQrg Hops
     have HB5:=Lib.hid (bT HBw.out hB)
     clear hB c0 c1 e0 X5 X5l X5a X5b
     cases E
     ·
      go_wp2_with fail
      go_roundw
      case rel => exact ⟨k+1,b,.inl (by omega),by go_num,rfl,hnot.out rfl,HB5.out⟩
      case measure => simp [intOf];omega
     ·
      go_wp2_with fail
      go_roundw
      case rel => exact ⟨k+1,k+1,.inl (by omega),by go_num,by go_num,hyes.out rfl hlt2,HB5.out⟩
      case measure => simp [intOf];omega
    ·
     go_upto_region 5 with fail
     refine rg_start (Since wr) (.run 25 0 0 (.done)) (by kernel_rfl) (bD (bR _)) (by kernel_rfl) (by kernel_rfl) (Nat.le_of_ble_eq_true (by kernel_rfl)) ?_
     intro opsR QR Hops HQrg hS
     iterate 3
      apply rg_p;exact Hops;exact rfl;exact hS;exact rfl
      · intro _ hqc;go_simp;try rfl
      try simp only [pu]
     iterate 11
      apply rg_g;exact Hops;exact rfl;exact hS;iterate 4 exact rfl
      · intro _ hqc;go_simp;try rfl
      try simp only [pu]
     iterate 2
      apply rg_p;exact Hops;exact rfl;exact hS;exact rfl
      · intro _ hqc;go_simp;try rfl
      try simp only [pu]
     iterate 8
      refine rg_yn Hops rfl hS rfl rfl rfl rfl rfl ?_
      try simp only [pu]
     apply rg_p;exact Hops;exact rfl;exact hS;exact rfl
     · intro _ hqc;go_simp;try rfl
     try simp only [pu]
     refine rg_done ?_
     refine HQrg.down _ _ ?_
     have hB:Below wr.heap.size wr wr.drew:=hS
     clear hS HQrg Hops
     have HB5:=Lib.hid (bT HBw.out hB)
     clear hB c0 c1 e0 X5 X5l X5a X5b
     go_wp2_with fail
     go_roundw
     case rel => exact ⟨k+1,b,.inl (by omega),by go_num,rfl,hnot2.out hlt2,HB5.out⟩
     case measure => simp [intOf];omega
  ·
   have hkl:L.length-1=k:=by omega
   have HF:=Lib.hid hkl
   clear hkl X5
   go_wp2_with fail
   go_ret
   exact ⟨⟨b,rfl,by rw [HF.out];exact HBx.out⟩,Hb.out⟩
end Go.Proofs.YtnhdmghgjngcaaaGreat
namespace Go.Proofs.YtnhdmghgjngcaaaGreat
open Go.RowKit

def cysAD (x:AD):List (List Int×SV):=(x.out,x.ov)::x.inn
set_option maxRecDepth 100000 in
set_option maxHeartbeats 4000000 in
theorem AreaCycles_spec (x:AD) (w:World) (hr:Sl w (svV x.iv) x.inn.length (x.inn.flatMap cyC)) (hl:x.inn.length≤100000) :
  Calls Tryz.prog 65 #[.agg #[.int .i64 x.tw,svV x.ov,svV x.iv,svV x.av]] w fun e w'=>(∃ A c,e=.returned (.slice A (cysAD x).length c)∧Own w' w.heap.size 24 1 cyC (.slice A (cysAD x).length c) (cysAD x))∧Below w.heap.size w w':=by
 obtain ⟨tw,out,⟨oa,on,oc⟩,inn,⟨ia,in_,ic⟩,alo,⟨aa,an,ac⟩⟩:=x
 unfold svV cysAD at *
 simp only at hr hl ⊢
 have HS:=Lib.hid hr
 obtain ⟨Ai,ci,he,-⟩:=hr
 injection he with e1 e2 e3
 subst e2
 have HO:=Lib.hid (Own.lit (w.alloc (.cells #[.int .i64 tw,.slice oa on oc,.slice ia inn.length ic,.slice aa an ac] 70)) w.heap.size 24 1 cyC [((out,⟨oa,on,oc⟩):List Int×SV)] #[.slice oa on oc] 1 (w.heap.size+1) (by simp) rfl (by simp) (le_maxLen (by omega)) rfl rfl)
 have hle:((out,⟨oa,on,oc⟩)::inn:List (List Int×SV)).length=inn.length+1:=rfl
 rw [hle]
 clear e1 e3 hle
 go_enter Tryz.func65,Tryz.ntmps65
 go_wp2_with
  (at_builtin
   refine wpList_appl _ rfl (.tmp 5) (.tmp 7) _ rfl (base:=w.heap.size) elem_cy cyC_len cyC_one rfl HO.out rfl (l2:=inn) (HS.out.mono (bA (bA (bR w) _) _)) (by simp only [List.length_cons,List.length_nil];omega) (by simp only [List.length_cons,List.length_nil];omega) (by simp only [World.size_alloc];omega) ?_
   intro v2 w2 ho2 hg2 hat2
   obtain ⟨A2,c2,hv2,-⟩:=Own.shape_ ho2
   rw [show ([((out,⟨oa,on,oc⟩):List Int×SV)]++inn).length=inn.length+1 by rw [List.length_append,List.length_singleton];omega] at hv2
   subst hv2
   have HO2:=Lib.hid ho2
   have HB2:=Lib.hid (bG (bA (bA (bR w) _) _) hg2 (fun g hg=>(HO.out.lt g hg).1))
   clear ho2 hg2 hat2
   )
 go_ret
 exact ⟨⟨A2,c2,rfl,HO2.out⟩,HB2.out⟩
end Go.Proofs.YtnhdmghgjngcaaaGreat
namespace Go.Proofs.YtnhdmghgjngcaaaGreat
open Go.RowKit

def RetNds (w:World) (l:List Nd) (e:Ending) (w':World):Prop :=
 ∃ A c,e=.returned (.slice A l.length c)∧Below w.heap.size w w'∧Own w' w.heap.size 38 3 ndC (.slice A l.length c) l
set_option maxHeartbeats 400000 in
theorem Clone_nd_spec (v:Value) (l:List Nd) (w:World) (h:Nds w v l) (hl:l.length≤1048576) :
  Calls Tryz.prog 34 #[v] w (RetNds w l):=by
 have H:=h
 obtain ⟨A,c,rfl,hn,hc,hR⟩:=h
 have hE:=Lib.run_eql_slice_nil (P:=Tryz.prog) (t:=22) (e:=38)
 rcases A with _ | ad
 ·
  have hl0:l=[]:=by
   rcases l with _ | ⟨a,l⟩
   · rfl
   ·
    obtain ⟨b,o,e,_⟩:=hR (by simp [ndC])
    cases e
  subst hl0
  clear hR H
  simp only [List.length_nil] at hn ⊢
  have hE1:∀ W:World,(binOp .eql 22 (.slice none 0 c) (.slice none 0 0)).run Tryz.prog W=.ok (.bool true) W:=fun W=>Lib.run_eql_slice_nil W _ 38 none _ c 0 0 Tryz.underlying22
  clear hE
  go_enter Tryz.func34,Tryz.ntmps34
  go_wp2
  go_ret
  exact ⟨_,_,rfl,bR w,Own.nil _ _ _ _ _⟩
 ·
  have hE1:∀ W:World,(binOp .eql 22 (.slice (some ad) l.length c) (.slice none 0 0)).run Tryz.prog W=.ok (.bool false) W:=fun W=>Lib.run_eql_slice_nil W _ 38 (some ad) _ c 0 0 Tryz.underlying22
  clear hE hR
  have HH:=Lib.hid H;clear H
  go_enter Tryz.func34,Tryz.ntmps34
  go_wp2_with
   (at_builtin
    refine wpList_appl _ rfl (.tmp 5) (.tmp 6) _ rfl (base:=w.heap.size) elem_nd ndC_len ndC_one rfl (Own.lit _ _ _ _ ndC [] _ 0 _ rfl rfl (Nat.le_refl _) (le_maxLen (by omega)) rfl rfl) rfl (HH.out.mono (bA (bR w) _)) (by simp only [List.length_nil];omega) (by simp only [List.length_nil];omega) (by simp) ?_
    intro v1 w1 hown hg hat)
  go_ret
  obtain ⟨A1,c1,rfl,-⟩:=Own.sl hown
  simp only [List.nil_append] at hown ⊢
  exact ⟨A1,c1,rfl,bG (bA (bR w) _) hg (fun k hk=>by have:w.heap.size=k:=Option.some.inj hk;omega),hown⟩

def bareA (a:Ar):Ar:=⟨a.id,a.fr,a.dst,a.via,0,0⟩
def bareP (p:Pl):Pl:=⟨p.nodes,p.arcs.map bareA,[]⟩
structure PlO (w:World) (B:Nat) (vn va vf:Value) (p:Pl) (bl:List (Ar×SV)):Prop where
 nds:Own w B 38 3 ndC vn p.nodes
 ars:Own w B 41 6 arS va bl
 vias:∀ x∈bl,Own w B 36 2 ptC (svV x.2) x.1.via
 eq:bl.map (·.1)=p.arcs
 fcs:Own w B 3 1 inC vf p.faces
theorem PlO.keep {w w':World} {B:Nat} {vn va vf:Value} {p:Pl} {bl:List (Ar×SV)} (h:PlO w B vn va vf p bl) (hb:Below w.heap.size w w'):PlO w' B vn va vf p bl :=
 ⟨h.nds.keep hb,h.ars.keep hb,fun x hx=>(h.vias x hx).keep hb,h.eq,h.fcs.keep hb⟩
theorem PlO.plv {w:World} {B:Nat} {vn va vf:Value} {p:Pl} {bl:List (Ar×SV)} (h:PlO w B vn va vf p bl):PlV w (.agg #[vn,va,vf]) p:=by
 refine ⟨vn,va,vf,bl.map svA,rfl,?_,h.nds.sl,⟨?_,fun k hk=>?_⟩,h.fcs.sl⟩
 · rw [List.map_map,← h.eq];rfl
 ·
  have:=h.ars.sl
  rw [List.length_map,arS_flat]
  exact this
 ·
  have hk':k<bl.length:=by simpa using hk
  rw [List.getElem_map]
  exact (h.vias _ (List.getElem_mem hk')).sl
theorem PlO.more {w w1:World} {B:Nat} {vn va va' vf:Value} {p:Pl} {bl:List (Ar×SV)} {x:Ar×SV} (h:PlO w B vn va vf p bl) (ho:Own w1 B 41 6 arS va' (bl++[x])) (hg:w.grownBy w1 va.ownBlock) (hx:Own w B 36 2 ptC (svV x.2) x.1.via) :
  PlO w1 B vn va' vf ⟨p.nodes,p.arcs++[x.1],p.faces⟩ (bl++[x]) :=
 ⟨Own.grown h.nds hg (Own.apart h.nds h.ars (by decide)),ho,fun y hy=>by
  rcases List.mem_append.1 hy with hy | hy
  · exact Own.grown (h.vias y hy) hg (Own.apart (h.vias y hy) h.ars (by decide))
  ·
   rw [List.mem_singleton] at hy
   subst hy
   exact Own.grown hx hg (Own.apart hx h.ars (by decide)),by rw [List.map_append,h.eq];rfl,Own.grown h.fcs hg (Own.apart h.fcs h.ars (by decide))⟩
theorem PlO.far {w:World} {B:Nat} {vn va vf:Value} {p:Pl} {bl:List (Ar×SV)} (h:PlO w B vn va vf p bl) {g:Nat} {t:TypeId} {cs:Array Value} (hb:Blk w g t cs) (h1:38≠t) (h2:41≠t) (h3:36≠t) (h4:3≠t) (j:Nat) (u:Value):PlO (w.setCell ⟨g,j,none⟩ u) B vn va vf p bl :=
 ⟨Own.far h.nds (Own.ne_blk h.nds hb h1) u,Own.far h.ars (Own.ne_blk h.ars hb h2) u,fun x hx=>Own.far (h.vias x hx) (Own.ne_blk (h.vias x hx) hb h3) u,h.eq,Own.far h.fcs (Own.ne_blk h.fcs hb h4) u⟩

theorem Row.at6 {w:World} {A:Option Addr} {l:List (Ar×SV)} (h:Row w A (l.flatMap arS)) {k:Nat} (hk:k<l.length) :
  ∃ b o,A=some ⟨b,o,none⟩∧b<w.heap.size∧w.cell? ⟨b,o+k*6,none⟩=some (.int .i64 l[k].1.id)∧w.cell? ⟨b,o+k*6+1,none⟩=some (.int .i64 l[k].1.fr)∧w.cell? ⟨b,o+k*6+2,none⟩=some (.int .i64 l[k].1.dst) ∧
   w.cell? ⟨b,o+k*6+3,none⟩=some (.slice l[k].2.a l[k].2.n l[k].2.c)∧w.cell? ⟨b,o+k*6+4,none⟩=some (.int .i64 l[k].1.left)∧w.cell? ⟨b,o+k*6+5,none⟩=some (.int .i64 l[k].1.right):=by
 obtain ⟨b,o,hA,hb,hc⟩:=h.at_ (n:=6) (fun _=>rfl) hk (by omega)
 exact ⟨b,o,hA,hb,hc 0 _ rfl,hc 1 _ rfl,hc 2 _ rfl,hc 3 _ rfl,hc 4 _ rfl,hc 5 _ rfl⟩
end Go.Proofs.YtnhdmghgjngcaaaGreat
