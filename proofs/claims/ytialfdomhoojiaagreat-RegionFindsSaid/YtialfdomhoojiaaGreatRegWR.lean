import Derived.Test.YtialfdomhoojiaaGreatJ33
set_option linter.unusedSimpArgs false
set_option linter.unusedVariables false
set_option maxRecDepth 100000
set_option maxHeartbeats 1000000
namespace Go.Proofs.YtialfdomhoojiaaGreat
open Go.RowKit
structure Zb (w:World) (B g:Nat) (l:List Pt) (v:Value):Prop where
 box:AO w g 46 #[v]
 own:Own w B 39 2 EX v l
theorem Zb.keep {w w':World} {B g:Nat} {l:List Pt} {v:Value} (h:Zb w B g l v) (hb:AP w w'):Zb w' B g l v:=⟨h.box.keep hb,h.own.keep hb⟩
theorem awr (a b:Pt) (B g:Nat) (l:List Pt) (v:Value) (w:World) (h:Zb w B g l v) (hBw:B<=w.heap.size) (hl:l.length<=1000000) :
  Calls Tryz.prog 80 #[BD a,BD b,.pointer (some ⟨g,0,none⟩)] w fun e w'=>e=.returned (.tuple #[])/\(∃ v',Zb w' B g (l++[a,b]) v')/\Ir B g g w w':=by
 obtain ⟨X4,own⟩:=h;obtain ⟨A,c,rfl,-⟩:=Own.sl own;have n4:=Own.Dz own X4 BG;have hg:=X4.lt;unfold BD;go_enter Tryz.func80,Tryz.ntmps80;go_upto_region 1 with fail;obtain ⟨W1,hW⟩:∃ W:World,W=(w.alloc (.cells #[.int .i64 a.x,.int .i64 a.y] 39)).alloc (.cells #[.int .i64 b.x,.int .i64 b.y] 39):=⟨_,rfl⟩;have X5:AO W1 w.heap.size 39 #[.int .i64 a.x,.int .i64 a.y]:=by rw [hW];exact (AO.made rfl _ _).alloc _
 have X6:AO W1 (w.heap.size+1) 39 #[.int .i64 b.x,.int .i64 b.y]:=by rw [hW];exact AO.made Aw _ _
 have hA:AP w W1:=by rw [hW];exact bA (bA (bR w) _) _
 replace X4:=X4.keep hA;have DJ:=AA X4;have HO:=AA (own.keep hA);have HA:=AA hA;have hB1:B<=W1.heap.size:=Dn hBw hA.size;have hsh:(l++[a,b]).length=l.length+2:=by simp
 have DL:=AA hsh;have HN:=AA n4;rw [<- hW];clear hW hA own hsh n4;obtain ⟨Bh,Bl,Dl⟩:=X4.Fa;obtain ⟨CJ,CO,CS,-,-⟩:=X5.BN;obtain ⟨EF,EG,EH,-,-⟩:=X6.BN;go_wp2_with
  (at_builtin
   refine Ew _ rfl (.tmp 5) (.tmp 8) _ rfl (base:=B) KR Jv KT rfl (Own.alloc HO.out _) rfl (l2:=[a,b]) (Sl.lit (n:=2) (AO.made rfl _ _) rfl (D6 AB)) DR DR DC ?_;intro v3 w3 ho3 hg3 Jc;obtain ⟨A3,c3,hv3,-⟩:=ho3.sl;rw [DL.out] at hv3;subst hv3;have Pv:=AO.grown (DJ.out.alloc _) hg3 (fun e=>HN.out e.symm);have HF:=AA (show Zb (w3.setCell ⟨g,0,none⟩ (.slice A3 (l.length+2) c3)) B g (l++[a,b]) (.slice A3 (l.length+2) c3) from ⟨Pv.EW 0 _,ho3.far (p:=⟨g,0,none⟩) (Own.Dz ho3 Pv BG) _⟩);have HK:=AA (show Ir B g g W1 (w3.setCell ⟨g,0,none⟩ (.slice A3 (l.length+2) c3)) from ⟨fun w0 k1 k2 k3 _=>bS (p:=⟨g,0,none⟩) (bG (bA k1 _) hg3 (fun k hk=>Dn k2 (HO.out.lt k hk).1)) k3 _,(by have:=hg3.size;simp at this;simp;omega),fun g1 k1 k2 _=>by
    rw [Below.heap_setCell w3 ⟨g,0,none⟩ _ g1 k2,hg3.block g1 DC (fun e=>by have:=(HO.out.lt g1 e.symm).1;omega)];exact Below.heap_alloc W1 _ g1 AB⟩)
   clear ho3 hg3 Jc X4 Bh Bl Dl;obtain ⟨bI,bJ,bK⟩:=Pv.Fa
   )
 exact bodyPost_end (v:=.tuple #[]) (results_none rfl _ _ _) rfl ⟨rfl,⟨_,HF.out⟩,(Ir.of hBw HA.out).trans HK.out⟩
structure alh (w:World) (B g:Nat) (S:List (Pt×Pt)) (w2 W:World):Prop where
 st:∃ v,Zb W B g (Kv S) v
 kept:Ir B g g w2 W
 below:AP w W
theorem awt (S:List (Pt×Pt)) (q:Pt×Pt):Kv (S++[q])=Kv S++[q.1,q.2]:=by unfold Kv;rw [KO];rfl
theorem awu (S:List (Pt×Pt)):(Kv S).length=2*S.length:=by
 unfold Kv
 induction S with
 | nil=>rfl
 | cons q S ih=>rw [Ju,EC,ih];simp;omega
theorem awv (w:World) (gm:Nat) (p:Pl) (f:Int->SV) (hpm:QT w gm p f) (hv:Valid p) (vc:Value) (X:List Int) (hX:Ints w vc X) (hd:∀ d∈X,d∈BU p) (B g:Nat)
  (hl:(DV p X).length<=40000) (k1:w.heap.size<=B) (k2:w.heap.size<=g) (W:World) (hB:B<=W.heap.size) (v0:Value) (h0:Zb W B g [] v0) (hw:AP w W) :
  Calls Tryz.prog 79 #[.map (some gm),vc,.func (.func 80) #[] #[.pointer (some ⟨g,0,none⟩)]] W fun e W'=>e=.returned (.tuple #[])/\alh w B g (DV p X) W W':=by
 refine (asI w gm p f hpm hv vc X hX hd g (fun s W'=>alh w B g s W W') (fun s q=>s++[q]) (fun s W h=>h.below) (fun s W' h=>⟨by obtain ⟨⟨v,h1⟩,-,-⟩:=h;exact ⟨v,h1.keep (bD (bR W'))⟩,h.kept.trans ⟨fun w0 k _ _ _=>bD k,DT _,fun _ _ _ _=>rfl⟩,bD h.below⟩) [] (fun S0 W' q r hs h=>?_) W ⟨⟨v0,h0⟩,Ir.refl _ _ _ _,hw⟩).mono ?_
 ·rw [foldl_snoc,QD] at h ⊢;obtain ⟨⟨v,hst⟩,hk,hb⟩:=h;have hlen:S0.length<=40000:=by
   have:=congrArg List.length hs
   simp only [EC,I9] at this;omega
  refine (awr q.1 q.2 B g _ v W' hst (Dn hB hk.size) (by rw [awu];omega)).mono ?_;rintro e W2 ⟨rfl,⟨v',hst'⟩,hk2⟩;exact ⟨rfl,⟨⟨v',by rw [awt];exact hst'⟩,hk.trans hk2,hk2.below w hb k1 k2 k2⟩,hk2.base hb k1 k2 k2⟩
 ·rintro e W' ⟨rfl,h,-⟩;rw [foldl_snoc,QD] at h;exact ⟨rfl,h⟩
theorem amr {w:World} {g:Nat} {t:TypeId} {cs:Array Value} (h:AO w g t cs) {i:Nat} {v:Value} (hv:cs[i]? = some v):w.setCell ⟨g,i,none⟩ v=w:=by
 unfold AO at h;have e:w.heap.modify g (fun
   | .cells c elem frozen=>.cells (if (none:Option Nat).isSome then c else c.setIfInBounds i v) elem frozen
   | o=>o)=w.heap:=by
  apply Array.ext_getElem?;intro k;rw [Array.getElem?_modify];split
  ·rename_i e;subst e;rw [h];simp only [Option.map_some,JD,fK,Rt,if_false];congr 1;apply Array.ext_getElem?;intro j;rw [Array.getElem?_setIfInBounds];split
   ·rename_i e;subst e;split
    · exact hv.symm
    · rename_i hn;rw [Array.getElem?_eq_none AB] at hv;cases hv
   · rfl
  · rfl
 show ({w with heap:=w.heap.modify g _}:World)=w
 cases w;congr 1
theorem aww {p:Pl} (hf:jX p) {X Y:List Int} (hX:X∈Bj p) (hY:Y∈Bj p) (e:KH p (some X)=KH p (some Y)):X=Y:=by
 have hd:=hf.differ;unfold List.Nodup at hd;rw [IL,Fe] at hd;obtain ⟨i,hi,e1⟩:=Dp.1 hX;obtain ⟨j,hj,e2⟩:=Dp.1 hY;rcases PD i j with l | l | l
 · exact absurd (by rw [e1,e2];exact e) (hd i j hi hj l)
 · subst l;rw [<- e1,<- e2]
 · exact absurd (by rw [e1,e2];exact e.symm) (hd j i hj hi l)
theorem awx {p:Pl} (hf:jX p) (f:Int):(∃ i:Nat,∃ hi:i<(Bj p).length,YI (Nz p (Bj p) ((Bj p).length+1)) f=(i:Int)+1/\kQ p f=some (Bj p)[i])\/(YI (Nz p (Bj p) ((Bj p).length+1)) f<1/\kQ p f=none):=by
 have hF:∀ k (hk:k<(Bj p).length+1),(Nz p (Bj p) ((Bj p).length+1))[k]'(by rw [U1];exact hk)=GI p (Bj p) k:=fun k hk=>by
  unfold Nz;rw [Gq,List.getElem_range]
 have hfc:∀ i (hi:i<(Bj p).length),GI p (Bj p) (i+1)=KH p (some (Bj p)[i]):=fun i hi=>by rw [ZH AB AB];rfl
 unfold YI
 cases c:(Nz p (Bj p) ((Bj p).length+1)).findIdx? (fun y=>y == f) with
 | none =>
  refine .inr ⟨by show (-1:Int)<1;omega,?_⟩
  cases c2:kQ p f with
  | none=>rfl
  | some X =>
   obtain ⟨hX,e⟩:=afa c2;obtain ⟨i,hi,rfl⟩:=Dp.1 hX;rw [List.findIdx?_eq_none_iff] at c;have:=c _ (BH (show i+1<(Nz p (Bj p) ((Bj p).length+1)).length by rw [U1];omega))
   rw [hF (i+1) AB,hfc i hi,e] at this;simp at this
 | some k =>
  obtain ⟨hk,he,-⟩:=List.findIdx?_eq_some_iff_getElem.1 c;rw [U1] at hk;rw [hF k hk] at he;have he:=eq_of_beq he
  cases k with
  | zero =>
   refine .inr ⟨by show ((0:Nat):Int)<1;omega,?_⟩
   cases c2:kQ p f with
   | none=>rfl
   | some X =>
    obtain ⟨hX,e⟩:=afa c2;exact absurd (show Es p (X.headD 0)=0 from e.trans he.symm) (hf.some X hX)
  | succ i =>
   refine .inl ⟨i,AB,by show ((i+1:Nat):Int)=_;omega,?_⟩;rw [hfc i AB] at he
   cases c2:kQ p f with
   | none=>exact absurd (beq_iff_eq.2 he) (List.find?_eq_none.1 c2 _ (BH AB))
   | some X =>
    obtain ⟨hX,e⟩:=afa c2;rw [aww hf hX (BH _) (e.trans he.symm)]
