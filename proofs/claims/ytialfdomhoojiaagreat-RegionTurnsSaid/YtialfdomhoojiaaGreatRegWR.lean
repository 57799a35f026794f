import Derived.Test.YtialfdomhoojiaaGreatJ33
import Derived.Test.YtialfdomhoojiaaGreatJ29
import Derived.Test.YtialfdomhoojiaaGreatJ17
import Derived.Test.YtialfdomhoojiaaGreatJ32
set_option linter.unusedSimpArgs false
set_option linter.unusedVariables false
namespace Go.Proofs.YtialfdomhoojiaaGreat
open Go.RowKit
structure E5 (w:World) (B g:Nat) (l:List Pt) (v:Value):Prop where
 box:aj w g 46 #[v]
 own:Own w B 39 2 jm v l
theorem E5.keep {w w':World} {B g:Nat} {l:List Pt} {v:Value} (h:E5 w B g l v) (hb:Below w.heap.size w w'):E5 w' B g l v:=⟨h.box.keep hb,h.own.keep hb⟩
set_option maxRecDepth 100000 in
set_option maxHeartbeats 1000000 in
theorem asI (a b:Pt) (B g:Nat) (l:List Pt) (v:Value) (w:World) (h:E5 w B g l v) (hBw:B<=w.heap.size) (hl:l.length<=1000000) :
  Calls Tryz.prog 80 #[bg a,bg b,.pointer (some ⟨g,0,none⟩)] w fun e w'=>e=.returned (.tuple #[])/\(∃ v',E5 w' B g (l++[a,b]) v')/\kF B g g w w':=by
 obtain ⟨X4,own⟩:=h;obtain ⟨A,c,rfl,-⟩:=Own.sl own;have n4:=Own.dU own X4 (by decide);have hg:=X4.lt;unfold bg;go_enter Tryz.func80,Tryz.ntmps80;go_upto_region 1 with fail;obtain ⟨W1,hW⟩:∃ W:World,W=(w.alloc (.cells #[.int .i64 a.x,.int .i64 a.y] 39)).alloc (.cells #[.int .i64 b.x,.int .i64 b.y] 39):=⟨_,rfl⟩;have X5:aj W1 w.heap.size 39 #[.int .i64 a.x,.int .i64 a.y]:=by rw [hW];exact (aj.made rfl _ _).alloc _
 have X6:aj W1 (w.heap.size+1) 39 #[.int .i64 b.x,.int .i64 b.y]:=by rw [hW];exact aj.made (by simp) _ _
 have hA:Below w.heap.size w W1:=by rw [hW];exact bA (bA (bR w) _) _
 replace X4:=X4.keep hA;have dI:=Lib.hid X4;have HO:=Lib.hid (own.keep hA);have HA:=Lib.hid hA;have hB1:B<=W1.heap.size:=Nat.le_trans hBw hA.size;have hsh:(l++[a,b]).length=l.length+2:=by simp
 have fD:=Lib.hid hsh;have HN:=Lib.hid n4;rw [<- hW];clear hW hA own hsh n4;obtain ⟨dF,dG,fH⟩:=X4.ig;obtain ⟨dw,dB,dL,-,-⟩:=X5.bH;obtain ⟨jd,jf,jg,-,-⟩:=X6.bH;go_wp2_with
  (at_builtin
   refine lq _ rfl (.tmp 5) (.tmp 8) _ rfl (base:=B) Fp DV Fq rfl (Own.alloc HO.out _) rfl (l2:=[a,b]) (Sl.lit (n:=2) (aj.made rfl _ _) rfl (fQ (by omega))) (by simp only [List.length_cons,List.length_nil];omega) (by simp only [List.length_cons,List.length_nil];omega) (by simp;omega) ?_;intro v3 w3 ho3 hg3 qj;obtain ⟨A3,c3,hv3,-⟩:=ho3.sl;rw [fD.out] at hv3;subst hv3;have tN:=aj.grown (dI.out.alloc _) hg3 (fun e=>HN.out e.symm);have HF:=Lib.hid (show E5 (w3.setCell ⟨g,0,none⟩ (.slice A3 (l.length+2) c3)) B g (l++[a,b]) (.slice A3 (l.length+2) c3) from ⟨tN.fC 0 _,ho3.far (p:=⟨g,0,none⟩) (Own.dU ho3 tN (by decide)) _⟩);have HK:=Lib.hid (show kF B g g W1 (w3.setCell ⟨g,0,none⟩ (.slice A3 (l.length+2) c3)) from ⟨fun w0 k1 k2 k3 _=>bS (p:=⟨g,0,none⟩) (bG (bA k1 _) hg3 (fun k hk=>Nat.le_trans k2 (HO.out.lt k hk).1)) k3 _,(by have:=hg3.size;simp at this;simp;omega),fun g1 k1 k2 _=>by
    rw [Below.heap_setCell w3 ⟨g,0,none⟩ _ g1 k2,hg3.block g1 (by simp;omega) (fun e=>by have:=(HO.out.lt g1 e.symm).1;omega)];exact Below.heap_alloc W1 _ g1 (by omega)⟩)
   clear ho3 hg3 qj X4 dF dG fH;obtain ⟨Gy,Gz,GH⟩:=tN.ig
   )
 exact bodyPost_end (v:=.tuple #[]) (results_none rfl _ _ _) rfl ⟨rfl,⟨_,HF.out⟩,(kF.of hBw HA.out).trans HK.out⟩
structure aiO (w:World) (B g:Nat) (S:List (Pt×Pt)) (w2 W:World):Prop where
 st:∃ v,E5 W B g (kE S) v
 kept:kF B g g w2 W
 below:Below w.heap.size w W
theorem asJ (S:List (Pt×Pt)) (q:Pt×Pt):kE (S++[q])=kE S++[q.1,q.2]:=by unfold kE;rw [List.flatMap_append];rfl
theorem asK (S:List (Pt×Pt)):(kE S).length=2*S.length:=by
 unfold kE
 induction S with
 | nil=>rfl
 | cons q S ih=>rw [List.flatMap_cons,List.length_append,ih];simp;omega
theorem asL (w:World) (gm:Nat) (p:Pl) (f:Int->SV) (hpm:rO w gm p f) (hv:Valid p) (vc:Value) (X:List Int) (hX:Ints w vc X) (hd:∀ d∈X,d∈aQ p) (B g:Nat)
  (hl:(bP p X).length<=40000) (k1:w.heap.size<=B) (k2:w.heap.size<=g) (W:World) (hB:B<=W.heap.size) (v0:Value) (h0:E5 W B g [] v0) (hw:Below w.heap.size w W) :
  Calls Tryz.prog 79 #[.map (some gm),vc,.func (.func 80) #[] #[.pointer (some ⟨g,0,none⟩)]] W fun e W'=>e=.returned (.tuple #[])/\aiO w B g (bP p X) W W':=by
 refine (anV w gm p f hpm hv vc X hX hd g (fun s W'=>aiO w B g s W W') (fun s q=>s++[q]) (fun s W h=>h.below) (fun s W' h=>⟨by obtain ⟨⟨v,h1⟩,-,-⟩:=h;exact ⟨v,h1.keep (bD (bR W'))⟩,h.kept.trans ⟨fun w0 k _ _ _=>bD k,Nat.le_refl _,fun _ _ _ _=>rfl⟩,bD h.below⟩) [] (fun S0 W' q r hs h=>?_) W ⟨⟨v0,h0⟩,kF.refl _ _ _ _,hw⟩).mono ?_
 ·rw [foldl_snoc,List.nil_append] at h ⊢;obtain ⟨⟨v,hst⟩,hk,hb⟩:=h;have hlen:S0.length<=40000:=by
   have:=congrArg List.length hs
   simp only [List.length_append,List.length_cons] at this;omega
  refine (asI q.1 q.2 B g _ v W' hst (Nat.le_trans hB hk.size) (by rw [asK];omega)).mono ?_;rintro e W2 ⟨rfl,⟨v',hst'⟩,hk2⟩;exact ⟨rfl,⟨⟨v',by rw [asJ];exact hst'⟩,hk.trans hk2,hk2.below w hb k1 k2 k2⟩,hk2.base hb k1 k2 k2⟩
 ·rintro e W' ⟨rfl,h,-⟩;rw [foldl_snoc,List.nil_append] at h;exact ⟨rfl,h⟩
theorem aiP {w:World} {g:Nat} {t:TypeId} {cs:Array Value} (h:aj w g t cs) {i:Nat} {v:Value} (hv:cs[i]? = some v):w.setCell ⟨g,i,none⟩ v=w:=by
 unfold aj at h;have e:w.heap.modify g (fun
   | .cells c elem frozen=>.cells (if (none:Option Nat).isSome then c else c.setIfInBounds i v) elem frozen
   | o=>o)=w.heap:=by
  apply Array.ext_getElem?;intro k;rw [Array.getElem?_modify];split
  ·rename_i e;subst e;rw [h];simp only [Option.map_some,Option.some.injEq,Option.isSome_none,Bool.false_eq_true,if_false];congr 1;apply Array.ext_getElem?;intro j;rw [Array.getElem?_setIfInBounds];split
   ·rename_i e;subst e;split
    · exact hv.symm
    · rename_i hn;rw [Array.getElem?_eq_none (by omega)] at hv;cases hv
   · rfl
  · rfl
 show ({w with heap:=w.heap.modify g _}:World)=w
 cases w;congr 1
theorem asM {p:Pl} (hf:uJ p) {X Y:List Int} (hX:X∈aI p) (hY:Y∈aI p) (e:ku p (some X)=ku p (some Y)):X=Y:=by
 have hd:=hf.differ;unfold List.Nodup at hd;rw [List.pairwise_map,List.pairwise_iff_getElem] at hd;obtain ⟨i,hi,e1⟩:=List.mem_iff_getElem.1 hX;obtain ⟨j,hj,e2⟩:=List.mem_iff_getElem.1 hY;rcases Nat.lt_trichotomy i j with l | l | l
 · exact absurd (by rw [e1,e2];exact e) (hd i j hi hj l)
 · subst l;rw [<- e1,<- e2]
 · exact absurd (by rw [e1,e2];exact e.symm) (hd j i hj hi l)
theorem asN {p:Pl} (hf:uJ p) (f:Int):(∃ i:Nat,∃ hi:i<(aI p).length,EF (qo p (aI p) ((aI p).length+1)) f=(i:Int)+1/\yC p f=some (aI p)[i])\/(EF (qo p (aI p) ((aI p).length+1)) f<1/\yC p f=none):=by
 have hF:∀ k (hk:k<(aI p).length+1),(qo p (aI p) ((aI p).length+1))[k]'(by rw [yE];exact hk)=jT p (aI p) k:=fun k hk=>by
  unfold qo;rw [List.getElem_map,List.getElem_range]
 have hfc:∀ i (hi:i<(aI p).length),jT p (aI p) (i+1)=ku p (some (aI p)[i]):=fun i hi=>by rw [GV (by omega) (by omega)];rfl
 unfold EF
 cases c:(qo p (aI p) ((aI p).length+1)).findIdx? (fun y=>y == f) with
 | none =>
  refine .inr ⟨by show (-1:Int)<1;omega,?_⟩
  cases c2:yC p f with
  | none=>rfl
  | some X =>
   obtain ⟨hX,e⟩:=NQ c2;obtain ⟨i,hi,rfl⟩:=List.mem_iff_getElem.1 hX;rw [List.findIdx?_eq_none_iff] at c;have:=c _ (List.getElem_mem (show i+1<(qo p (aI p) ((aI p).length+1)).length by rw [yE];omega))
   rw [hF (i+1) (by omega),hfc i hi,e] at this;simp at this
 | some k =>
  obtain ⟨hk,he,-⟩:=List.findIdx?_eq_some_iff_getElem.1 c;rw [yE] at hk;rw [hF k hk] at he;have he:=eq_of_beq he
  cases k with
  | zero =>
   refine .inr ⟨by show ((0:Nat):Int)<1;omega,?_⟩
   cases c2:yC p f with
   | none=>rfl
   | some X =>
    obtain ⟨hX,e⟩:=NQ c2;exact absurd (show iw p (X.headD 0)=0 from e.trans he.symm) (hf.some X hX)
  | succ i =>
   refine .inl ⟨i,by omega,by show ((i+1:Nat):Int)=_;omega,?_⟩;rw [hfc i (by omega)] at he
   cases c2:yC p f with
   | none=>exact absurd (beq_iff_eq.2 he) (List.find?_eq_none.1 c2 _ (List.getElem_mem (by omega)))
   | some X =>
    obtain ⟨hX,e⟩:=NQ c2;rw [asM hf hX (List.getElem_mem _) (e.trans he.symm)]
end Go.Proofs.YtialfdomhoojiaaGreat
