import Derived.Test.YtpempeioeiaijaaGreatJ08
import Derived.Test.YtpempeioeiaijaaGreatJ07
import Derived.Test.YtpempeioeiaijaaGreatJ04
import Derived.Test.YtpempeioeiaijaaGreatGB
import Derived.Test.YtpempeioeiaijaaGreatJ06
import Derived.Test.YtpempeioeiaijaaGreatJ03
import Derived.Shelf.SlSortCmp.NoneTotal
import Derived.Test.YtpempeioeiaijaaGreatLaySortIn
set_option linter.unusedSimpArgs false
set_option linter.unusedVariables false
namespace Go.Proofs.YtpempeioeiaijaaGreat
open Go.RowKit
set_option linter.unusedSectionVars false

def arX (p:Pl) (X:List Int):Int:=(X.map (dartT p)).sum
theorem twiceUp_sum (p:Pl) (l:List Int) (k:Nat) (hk:k≤l.length):twiceUp p l k=((l.take k).map (dartT p)).sum:=by
 induction k with
 | zero=>simp [twiceUp]
 | succ k ih =>
  rw [twiceUp,ih (by omega),List.take_succ_eq_append_getElem (show k<l.length by omega),List.map_append,List.sum_append,List.getD_eq_getElem?_getD,List.getElem?_eq_getElem (show k<l.length by omega)]
  simp
section
variable {p:Pl} (h:Valid p)
include h
theorem Valid.cyc_nodup {X:List Int} (hX:X∈cyclesD p):X.Nodup∧(∀ d∈X,d∈dartsD p):=by
 obtain ⟨x,hx,e,-,-⟩:=h.cyc_form hX
 have hD:∀ x∈dartsD p,nextD p x∈dartsD p:=fun x hx=>(h.next_mem hx).1
 have hf:=orb_facts hD (fun x hx y hy=>h.next_inj hx hy) hx
 rw [e]
 exact ⟨hf.2.2.2.2.1,fun d hd=>orb_mem hD hx hd⟩
end
end Go.Proofs.YtpempeioeiaijaaGreat
namespace Go.Proofs.YtpempeioeiaijaaGreat
open Go.RowKit
set_option linter.unusedSectionVars false

def onP (a b v:Pt):Prop:=tw a b v=0∧min a.x b.x≤v.x∧v.x≤max a.x b.x∧min a.y b.y≤v.y∧v.y≤max a.y b.y
instance (a b v:Pt):Decidable (onP a b v):=by unfold onP;infer_instance
section
variable {p:Pl} (h:Valid p)
include h
end
end Go.Proofs.YtpempeioeiaijaaGreat
namespace Go.Proofs.YtpempeioeiaijaaGreat
open Go.RowKit

def pthD (p:Pl) (d:Int):List Pt:=match findAr p.arcs (absI d) with
 | some a=>pathS p a
 | none=>[]
def segL (P:List Pt):List (Pt×Pt):=(List.range (P.length-1)).map fun k=>(P.getD k pt0,P.getD (k+1) pt0)
def segX (p:Pl) (X:List Int):List (Pt×Pt):=X.flatMap fun d=>segL (pthD p d)
def pasE (v a b:Pt):Bool:=decide ((a.y≤v.y∧v.y<b.y∧0<tw a b v)∨(b.y≤v.y∧v.y<a.y∧tw a b v<0))
def encStep (v:Pt) (s:Bool×Bool) (q:Pt×Pt):Bool×Bool:=if onS q.1 q.2 v then (true,s.2) else if pasE v q.1 q.2 then (s.1,!s.2) else s
def encF (v:Pt) (l:List (Pt×Pt)):Bool×Bool:=l.foldl (encStep v) (false,false)
def encS (p:Pl) (X:List Int) (v:Pt):Bool:=(encF v (segX p X)).2 && !(encF v (segX p X)).1
section
variable {p:Pl} (h:Valid p)
include h
theorem Valid.pth_dart {d:Int} (hd:d∈dartsD p):∃ a∈p.arcs,(d=a.id∨d=-a.id)∧pthD p d=pathS p a:=by
 obtain ⟨a,ha,e⟩:=mem_dartsD.1 hd
 have hid:=(h.id_pos ha).1
 refine ⟨a,ha,e,?_⟩
 unfold pthD
 have:absI d=a.id:=by unfold absI;rcases e with rfl | rfl<;>split<;>omega
 rw [this,h.find ha]
theorem Valid.seg_mem {X:List Int} (hX:∀ d∈X,d∈dartsD p) {q:Pt×Pt} (hq:q∈segX p X):∃ a∈p.arcs,(a.id∈X∨-a.id∈X)∧∃ k,k+1<(pathS p a).length∧q=((pathS p a).getD k pt0,(pathS p a).getD (k+1) pt0):=by
 obtain ⟨d,hd,hq⟩:=List.mem_flatMap.1 hq
 obtain ⟨a,ha,e,hp⟩:=h.pth_dart (hX d hd)
 rw [hp] at hq
 obtain ⟨k,hk,rfl⟩:=List.mem_map.1 hq
 have hk:=List.mem_range.1 hk
 refine ⟨a,ha,?_,k,by omega,rfl⟩
 rcases e with rfl | rfl
 · exact .inl hd
 · exact .inr hd
end
section
variable {α:Type} (E:α→Bool) (t:α→Int)
def bestStep (b:Option α) (x:α):Option α:=if (E x && (match b with | none=>true | some y=>decide (t x<t y)))=true then some x else b
def bestC (l:List α):Option α:=l.foldl (bestStep E t) none
theorem best_snoc (l:List α) (x:α):bestC E t (l++[x])=bestStep E t (bestC E t l) x:=by unfold bestC;rw [List.foldl_append];rfl
theorem snoc_ind {P:List α→Prop} (h0:P []) (h1:∀ l x,P l→P (l++[x])) (l:List α):P l:=by
 have:∀ k,k≤l.length→P (l.take k):=by
  intro k
  induction k with
  | zero=>intro _;exact h0
  | succ k ih=>intro hk;rw [List.take_succ_eq_append_getElem (show k<l.length by omega)];exact h1 _ _ (ih (by omega))
 have:=this l.length (Nat.le_refl _)
 rwa [List.take_length] at this
theorem best_facts (l:List α):match bestC E t l with
  | none=>∀ x∈l,E x=false
  | some x=>x∈l∧E x=true∧∀ y∈l,E y=true→t x≤t y:=by
 induction l using snoc_ind with
 | h0=>exact fun x hx=>by cases hx
 | h1 l x ih =>
  rw [best_snoc]
  unfold bestStep
  cases hb:bestC E t l with
  | none =>
   rw [hb] at ih
   simp only [Bool.and_true]
   by_cases hE:E x=true
   ·
    rw [if_pos hE]
    refine ⟨by simp,hE,fun y hy hEy=>?_⟩
    rcases List.mem_append.1 hy with hy | hy
    · rw [ih y hy] at hEy;cases hEy
    · rw [List.mem_singleton] at hy;subst hy;exact Int.le_refl _
   ·
    rw [if_neg hE]
    intro y hy
    rcases List.mem_append.1 hy with hy | hy
    · exact ih y hy
    · rw [List.mem_singleton] at hy;subst hy;simpa using hE
  | some z =>
   rw [hb] at ih
   simp only [Bool.and_eq_true,decide_eq_true_eq]
   by_cases hE:E x=true∧t x<t z
   ·
    rw [if_pos hE]
    refine ⟨by simp,hE.1,fun y hy hEy=>?_⟩
    rcases List.mem_append.1 hy with hy | hy
    · have:=ih.2.2 y hy hEy;omega
    · rw [List.mem_singleton] at hy;subst hy;exact Int.le_refl _
   ·
    rw [if_neg hE]
    refine ⟨List.mem_append_left _ ih.1,ih.2.1,fun y hy hEy=>?_⟩
    rcases List.mem_append.1 hy with hy | hy
    · exact ih.2.2 y hy hEy
    ·
     rw [List.mem_singleton] at hy;subst hy
     have:¬ t y<t z:=fun h=>hE ⟨hEy,h⟩
     omega
theorem best_some {l:List α} {x:α} (h:bestC E t l=some x):x∈l∧E x=true∧∀ y∈l,E y=true→t x≤t y:=by
 have:=best_facts E t l
 rw [h] at this
 exact this
end
end Go.Proofs.YtpempeioeiaijaaGreat
namespace Go.Proofs.YtpempeioeiaijaaGreat
open Go.RowKit
set_option linter.unusedSectionVars false

def outX (p:Pl):List (List Int):=(cyclesD p).filter (fun X=>decide (0<arX p X))
def resX (p:Pl):List (List Int):=(cyclesD p).filter (fun X=>!decide (0<arX p X))
def homeP (p:Pl) (v:Pt):Option (List Int):=bestC (fun X=>encS p X v) (arX p) (outX p)
theorem mem_outX {p:Pl} {X:List Int}:X∈outX p↔X∈cyclesD p∧0<arX p X:=by unfold outX;rw [List.mem_filter,decide_eq_true_eq]
theorem mem_resX {p:Pl} {X:List Int}:X∈resX p↔X∈cyclesD p∧¬ 0<arX p X:=by unfold resX;rw [List.mem_filter];simp
section
variable {p:Pl} (h:Valid p)
include h
end
def cycPt (p:Pl) (c:List Int):Pt:=(pthD p (c.headD 0)).getD 0 pt0
def innX (p:Pl) (b:Option (List Int)):List (List Int):=(resX p).filter (fun c=>decide (homeP p (cycPt p c)=b))
def cysX (p:Pl) (b:Option (List Int)):List (List Int):=b.getD []::innX p b
end Go.Proofs.YtpempeioeiaijaaGreat
namespace Go.Proofs.YtpempeioeiaijaaGreat
open Go.RowKit

theorem mapsl_ne {w:World} {gm n:Nat} {f:Int→SV} (h:MapSl w gm n f) {g:Nat} {t:TypeId} {cs:Array Value} (hg:Blk w g t cs):g≠gm:=by
 rintro rfl
 obtain ⟨D,h1,-⟩:=h
 obtain ⟨es,clock,h2,-⟩:=h1
 unfold Blk at hg
 rw [hg] at h2
 cases h2
theorem mapsl_own {w:World} {gm n:Nat} {f:Int→SV} (h:MapSl w gm n f) {base:Nat} {e:TypeId} {size:Nat} {α:Type} {fe:α→List Value} {v:Value} {l:List α} (ho:Own w base e size fe v l):v.ownBlock≠some gm:=by
 rcases ho.2 with ⟨rfl,_⟩ | ⟨g,cap,cur,rfl,_,hh,_⟩
 · simp [Value.ownBlock]
 ·
  intro e'
  exact mapsl_ne h (cs:=cur) (g:=g) hh (by simpa [Value.ownBlock] using e')
theorem own_svok {w:World} {base:Nat} {e:TypeId} {size:Nat} {α:Type} {fe:α→List Value} {x:SV} {l:List α} (ho:Own w base e size fe (svV x) l):x.ok:=by
 obtain ⟨a,n,c⟩:=x
 rcases ho.2 with ⟨h,_⟩ | ⟨g,cap,cur,h,_⟩
 · unfold svV at h;injection h with h1;exact .inl h1
 · unfold svV at h;injection h with h1;exact .inr ⟨g,0,h1⟩
structure PathsM (w:World) (b:Nat) (p:Pl) (f:Int→SV):Prop where
 mp:∃ n,MapSl w b n f
 rd:∀ a∈p.arcs,Pts w (svV (f a.id)) (pathS p a)
theorem PathsM.keep {w w':World} {b:Nat} {p:Pl} {f:Int→SV} (h:PathsM w b p f) (hb:Below w.heap.size w w'):PathsM w' b p f:=by
 obtain ⟨⟨n,h1⟩,h2⟩:=h
 exact ⟨⟨n,h1.keep hb⟩,fun a ha=>(h2 a ha).mono hb⟩
def RetPaths (w:World) (p:Pl) (e:Ending) (w':World):Prop:=∃ b f,e=.returned (.map (some b))∧Below w.heap.size w w'∧w.heap.size≤b∧PathsM w' b p f

set_option maxRecDepth 100000 in
set_option maxHeartbeats 8000000 in
theorem PathsOf_spec (v:Value) (p:Pl) (w:World) (h:PlV w v p) (hv:Valid p):Calls Tryz.prog 72 #[v] w (RetPaths w p):=by
 have HPt:=Lib.hid (fun id W (hW:Below w.heap.size w W)=>Path_spec v p id W (h.mono hW) hv.short)
 obtain ⟨_,_,_,al,rfl,hpa,⟨An,cn,rfl,-⟩,⟨⟨Aa,ca,rfl,hm1,hm2,hRa⟩,hVi⟩,⟨Af,cf,rfl,-⟩⟩:=h
 unfold maxLen at hm2
 have HRa:=Lib.hid hRa;have HVi:=Lib.hid hVi
 have hall:al.length≤256:=by
  have hl:=hv.lim
  unfold limS at hl
  simp only [Bool.or_eq_false_iff,decide_eq_false_iff_not] at hl
  have h2:=hl.2
  rw [hpa,List.length_map] at h2
  omega
 have HPa:=Lib.hid (show ∀ k (hk:k<al.length),al[k].1∈p.arcs from fun k hk=>by rw [hpa];exact List.mem_map_of_mem (List.getElem_mem hk))
 have HAl:=Lib.hid (show ∀ a∈p.arcs,∃ k,∃ hk:k<al.length,al[k].1=a from fun a ha=>by
  rw [hpa] at ha
  obtain ⟨x,hx,rfl⟩:=List.mem_map.1 ha
  obtain ⟨k,hk,rfl⟩:=List.mem_iff_getElem.1 hx
  exact ⟨k,hk,rfl⟩)
 have HPo:=Lib.hid (fun k (hk:k<al.length)=>hv.sound.path (HPa.out k hk))
 have HIb:=Lib.hid (fun k (hk:k<al.length)=>hv.id_pos (HPa.out k hk))
 have HNe:=Lib.hid (show ∀ j k (hj:j<al.length) (hk:k<al.length),j<k→al[j].1.id≠al[k].1.id from fun j k hj hk hjk e=>by
  have h1:=hv.sound.arcs
  rw [hpa,List.map_map,List.pairwise_map,List.pairwise_iff_getElem] at h1
  have:=h1 j k hj hk hjk
  simp only [Function.comp] at this
  omega)
 generalize p.nodes.length=nn at *
 generalize p.faces.length=nf at *
 clear hpa hRa hVi hv
 have hmm:=@run_makeMap Tryz.prog
 go_enter Tryz.func72,Tryz.ntmps72
 go_upto_region 2 with fail
 obtain ⟨gm,hgm⟩:∃ gm,gm=w.heap.size+1:=⟨_,rfl⟩
 obtain ⟨W1,hW⟩:∃ W:World,W=(w.alloc (.cells #[.slice An nn cn,.slice Aa al.length ca,.slice Af nf cf] 34)).alloc (.map #[] 0):=⟨_,rfl⟩
 have X1:Blk W1 w.heap.size 34 #[.slice An nn cn,.slice Aa al.length ca,.slice Af nf cf]:=by rw [hW];exact (Blk.made rfl _ _).alloc _
 have HM1:=Lib.hid (show MapSl W1 gm 0 (fun _=>sv0) by
  have:=MapSl.made (w.alloc (.cells #[.slice An nn cn,.slice Aa al.length ca,.slice Af nf cf] 34))
  rw [hW,hgm];simpa using this)
 have HB1:=Lib.hid (show Below w.heap.size w W1 by rw [hW];exact bA (bA (bR w) _) _)
 have hgl:w.heap.size<gm:=by omega
 rw [← hW,← hgm]
 clear hW hgm hmm
 have HX1:=Lib.hid X1
 obtain ⟨X1l,X1a,X1b,X1c,-,-,-⟩:=X1.facts3
 go_upto_block 0 with fail
 clear X1 X1l X1a X1b X1c
 go_wp2_with fail
 go_loopw [12] (fun i wr=>∃ (k:Nat) (f:Int→SV),k≤al.length∧i=.int .i64 k∧MapSl wr gm k f∧(∀ j (hj:j<al.length),j<k→Own wr w.heap.size 42 2 ptC (svV (f al[j].1.id)) (pathS p al[j].1))∧Blk wr w.heap.size 34 #[.slice An nn cn,.slice Aa al.length ca,.slice Af nf cf]∧Below w.heap.size w wr) (fun i _=>al.length-(intOf i).toNat)
 case atStart => exact ⟨0,fun _=>sv0,Nat.zero_le _,rfl,HM1.out,(fun j _ h=>by omega),HX1.out,HB1.out⟩
 case round =>
  obtain ⟨k,f,hk,rfl,mp,own,X1,hb⟩:=hrel
  obtain ⟨wo,rfl⟩:∃ wo:World,wo=wr:=⟨_,rfl⟩
  have HM:=Lib.hid mp;have HO:=Lib.hid own;have HX:=Lib.hid X1;have Hb:=Lib.hid hb
  have hzo:=hb.size
  have hgo:=mp.lt
  clear mp own hb HX1 HM1 HB1
  by_cases hlt:k<al.length
  ·
   obtain ⟨b,o,rfl,hlb,c0,c1,c2,c3,c4,c5⟩:=(HRa.out.mono Hb.out).ar hlt
   obtain ⟨Av,cv,hvv,-⟩:=HVi.out k hlt
   rw [hvv] at c3
   have hpo:=HPo.out k hlt
   have hib:=HIb.out k hlt
   have hne:=fun j hj hjk=>HNe.out j k hj hlt hjk
   have hpt:=HPt.out al[k].1.id
   rw [hpo] at hpt
   have HP:=Lib.hid (show ∀ (f:Int→SV) W,(∀ j (hj:j<al.length),j<k→Own W w.heap.size 42 2 ptC (svV (f al[j].1.id)) (pathS p al[j].1))→Own W w.heap.size 42 2 ptC (svV (f al[k].1.id)) (pathS p al[k].1)→∀ j (hj:j<al.length),j<k+1→Own W w.heap.size 42 2 ptC (svV (f al[j].1.id)) (pathS p al[j].1) from fun f W h1 h2 j hj hjk=>by
    by_cases e:j=k
    · subst e;exact h2
    · exact h1 j hj (by omega))
   have HNk:=Lib.hid hne
   clear hvv hpo hne
   generalize al[k].1=a at *
   generalize pathS p a=P at *
   obtain ⟨aid,afr,adst,avia,aleft,aright⟩:=a
   simp only at c0 c1 c2 c3 c4 c5 hib hpt HP HNk
   generalize avia.length=vn at *
   have HPk:=Lib.hid hpt
   clear hpt
   go_upto_region 5 with fail
   obtain ⟨W5,hW⟩:∃ W:World,W=wo.alloc (.cells #[.int .i64 aid,.int .i64 afr,.int .i64 adst,.slice Av vn cv,.int .i64 aleft,.int .i64 aright] 50):=⟨_,rfl⟩
   have HA:=Lib.hid (show Below wo.heap.size wo W5 by rw [hW];exact bA (bR wo) _)
   have X5:Blk W5 wo.heap.size 50 #[.int .i64 aid,.int .i64 afr,.int .i64 adst,.slice Av vn cv,.int .i64 aleft,.int .i64 aright]:=by rw [hW];exact Blk.made rfl _ _
   rw [← hW]
   clear hW c0 c1 c2 c3 c4 c5 hlb
   replace X1:=HX.out.keep HA.out
   obtain ⟨X5l,X5a,X5b,X5c,X5d,X5e,X5f,-,-,-,-,-,-⟩:=X5.facts6
   try clear X1l
   try clear X1a
   try clear X1b
   try clear X1c
   obtain ⟨X1l,X1a,X1b,X1c,-,-,-⟩:=X1.facts3
   go_wp2_with fail
   refine (HPk.out _ (bT Hb.out HA.out)).mono ?_
   rintro e w6 ⟨A6,c6,rfl,hb6,ho6⟩
   simp only [Option.getD_some,Option.isSome_some,if_true] at ho6 ⊢
   have HB6:=Lib.hid (bT HA.out hb6)
   have HO6:=Lib.hid ho6
   have HX5:=Lib.hid (show Blk W5 wo.heap.size 50 #[.int .i64 aid,.int .i64 afr,.int .i64 adst,.slice Av vn cv,.int .i64 aleft,.int .i64 aright] from X5)
   have X6:=HX5.out.keep hb6
   have HM6:=Lib.hid (HM.out.keep HB6.out)
   have hz5:=HA.out.size
   have hz6:=hb6.size
   clear hb6 ho6 X5 X5l X5a X5b X5c X5d X5e X5f X1 X1l X1a X1b X1c HX5
   obtain ⟨w7,hr7,hm7,hg7⟩:=HM6.out.upd (by omega) aid (wfI_of (by omega) (by omega)) ⟨A6,P.length,c6⟩ (own_svok (x:=⟨A6,P.length,c6⟩) HO6.out)
   have HM7:=Lib.hid hm7
   have nX:=fun (h:gm=w.heap.size)=>(show False by omega)
   have HX7:=Lib.hid (Blk.grow (HX.out.keep HB6.out) hg7 (fun e=>mapsl_ne HM6.out (HX.out.keep HB6.out) (Option.some.inj e)))
   have HO7:=Lib.hid (show Own w7 w.heap.size 42 2 ptC (svV ⟨A6,P.length,c6⟩) P from Own.grown (Own.mono_base HO6.out (by omega)) hg7 (fun g hg e=>mapsl_own HM6.out HO6.out (hg.trans e)))
   have HOo:=Lib.hid (show ∀ j (hj:j<al.length),j<k→Own w7 w.heap.size 42 2 ptC (svV (f al[j].1.id)) (pathS p al[j].1) from fun j hj hjk =>
    Own.grown ((HO.out j hj hjk).keep HB6.out) hg7 (fun g hg e=>mapsl_own HM6.out ((HO.out j hj hjk).keep HB6.out) (hg.trans e)))
   have HB7:=Lib.hid (bG (bT Hb.out HB6.out) hg7 (fun g hg=>by have:=Option.some.inj hg;omega))
   unfold svV at hr7
   clear hm7 hg7 nX
   obtain ⟨X6l,X6a,X6b,X6c,X6d,X6e,X6f,-,-,-,-,-,-⟩:=X6.facts6
   go_wp2_with fail
   go_roundw
   case rel => exact ⟨k+1,fun i=>if i=aid then ⟨A6,P.length,c6⟩ else f i,by omega,by go_num,HM7.out,HP.out (fun i=>if i=aid then ⟨A6,P.length,c6⟩ else f i) w7 (fun j hj hjk=>by
    show Own w7 _ _ _ _ (svV (if _=aid then _ else _)) _
    rw [if_neg (HNk.out j hj hjk)];exact HOo.out j hj hjk) (by
    show Own w7 _ _ _ _ (svV (if aid=aid then _ else _)) _
    rw [if_pos rfl];exact HO7.out),HX7.out,HB7.out⟩
   case measure => simp [intOf];omega
  ·
   obtain rfl:k=al.length:=by omega
   go_wp2_with fail
   go_ret
   exact ⟨gm,f,rfl,Hb.out,by omega,⟨_,HM.out⟩,fun a ha=>by
    obtain ⟨j,hj,rfl⟩:=HAl.out a ha
    exact (HO.out j hj hj).sl⟩
end Go.Proofs.YtpempeioeiaijaaGreat
namespace Go.Proofs.YtpempeioeiaijaaGreat
open Go.RowKit

theorem bAB {B:Nat} {W w:World} (hB:B≤W.heap.size) (h:Below B W w) (o:Obj):Below B W (w.alloc o):=h.alloc (Nat.le_trans hB h.size) o
theorem bSB {B b i:Nat} {W w:World} (h:Below B W w) (hb:B≤b) (u:Value):Below B W (w.setCell ⟨b,i,none⟩ u):=h.setCell (p:=⟨b,i,none⟩) hb u
end Go.Proofs.YtpempeioeiaijaaGreat
namespace Go.Proofs.YtpempeioeiaijaaGreat
open Go.RowKit

def lenV:Value→Nat
 | .slice _ n _=>n
 | _=>0
def seenL (S:Int→Bool) (l:List Int) (x:Int):Bool:=S x || decide (x∈l)
theorem seenL_nil (S:Int→Bool):seenL S []=S:=by
 funext x;simp [seenL]
theorem seenL_snoc (S:Int→Bool) (l:List Int) (y:Int):(fun i=>if i=y then true else seenL S l i)=seenL S (l++[y]):=by
 funext x
 unfold seenL
 by_cases e:x=y
 · subst e;simp
 · simp [e]
theorem orb_new {f:Int→Int} {D:List Int} (hD:∀ x∈D,f x∈D) (hi:∀ x∈D,∀ y∈D,f x=f y→x=y) {x:Int} (hx:x∈D) {j:Nat} (hj:j<orbN f D x):pw f x j∉iter f x j∧pw f x j∈orb f D x:=by
 obtain ⟨-,-,-,-,h5,-⟩:=orb_facts hD hi hx
 constructor
 ·
  intro hm
  obtain ⟨k,hk,e⟩:=mem_iter.1 hm
  unfold orb List.Nodup at h5
  rw [List.pairwise_iff_getElem] at h5
  have:=h5 k j (by rw [iter_len];omega) (by rw [iter_len];omega) hk
  rw [iter_get,iter_get] at this
  exact this e
 · exact mem_iter.2 ⟨j,hj,rfl⟩
theorem orb_end {f:Int→Int} {D:List Int} (hD:∀ x∈D,f x∈D) (hi:∀ x∈D,∀ y∈D,f x=f y→x=y) {x:Int} (hx:x∈D):pw f x (orbN f D x)∈orb f D x:=by
 obtain ⟨h1,-,h3,-,-,-⟩:=orb_facts hD hi hx
 rw [h3]
 exact mem_iter.2 ⟨0,h1,rfl⟩

def RetFol (w:World) (gm n:Nat) (S:Int→Bool) (l:List Int) (e:Ending) (w':World):Prop :=
 ∃ A c,e=.returned (.slice A l.length c)∧Own w' w.heap.size 3 1 inC (.slice A l.length c) l∧MapIB w' gm (n+l.length) (seenL S l)∧w.grownBy w' (some gm)

theorem mapIB_ne {w:World} {gm n:Nat} {f:Int→Bool} (h:MapIB w gm n f) {g:Nat} {t:TypeId} {cs:Array Value} (hg:Blk w g t cs):g≠gm:=by
 rintro rfl
 obtain ⟨D,h1,-⟩:=h
 obtain ⟨es,clock,h2,-⟩:=h1
 unfold Blk at hg
 rw [hg] at h2
 cases h2
theorem mapIB_own {w:World} {gm n:Nat} {f:Int→Bool} (h:MapIB w gm n f) {base:Nat} {e:TypeId} {size:Nat} {α:Type} {fe:α→List Value} {v:Value} {l:List α} (ho:Own w base e size fe v l):v.ownBlock≠some gm:=by
 rcases ho.2 with ⟨rfl,_⟩ | ⟨g,cap,cur,rfl,_,hh,_⟩
 · simp [Value.ownBlock]
 ·
  intro e'
  exact mapIB_ne h (cs:=cur) (g:=g) hh (by simpa [Value.ownBlock] using e')
theorem Own.shape_ {α:Type} {w:World} {base:Nat} {e:TypeId} {size:Nat} {f:α→List Value} {v:Value} {l:List α} (h:Own w base e size f v l):∃ A c,v=.slice A l.length c∧l.length≤c∧c≤maxLen:=by
 obtain ⟨A,c,rfl,h1,h2,-⟩:=Own.sl h
 exact ⟨A,c,rfl,h1,h2⟩

set_option maxRecDepth 100000 in
set_option maxHeartbeats 4000000 in
theorem follow_spec (f:Int→Int) (D:List Int) (hD:∀ x∈D,f x∈D) (hi:∀ x∈D,∀ y∈D,f x=f y→x=y) (F:Int→Int) (hF:∀ x∈D,F x=f x) (hw:∀ x∈D,wfI x) (hl:D.length≤100000) (S:Int→Bool) (d:Int) (hd:d∈D) (hS:∀ x∈orb f D d,S x=false)
  (gs gn gm gk n m:Nat) (w:World) (hn:n≤1000000) (h1:Blk w gs 158 #[.map (some gm)]) (h2:Blk w gn 109 #[.map (some gk)]) (hm:MapIB w gm n S) (hk:MapII w gk m F) (hne:gm≠gk) :
  Calls Tryz.prog 122 #[.int .i64 d,.pointer (some ⟨gs,0,none⟩),.pointer (some ⟨gn,0,none⟩)] w (RetFol w gm n S (orb f D d)):=by
 obtain ⟨o1,o2,o3,-,-,o6⟩:=orb_facts hD hi hd
 obtain ⟨q,hq⟩:∃ q,orb f D d=q:=⟨_,rfl⟩
 have hitN:iter f d (orbN f D d)=q:=hq
 have HNew:=Lib.hid (fun j (hj:j<orbN f D d)=>orb_new hD hi hd hj)
 have HMem:=Lib.hid (fun j=>pw_mem (f:=f) hD hd j)
 have hend:=orb_end hD hi hd
 rw [hq] at o6 hS hend HNew ⊢
 have HF:=Lib.hid hF;have HW:=Lib.hid hw;have HS:=Lib.hid hS;have HEnd:=Lib.hid hend;have HIt:=Lib.hid hitN;have HLq:=Lib.hid o6
 clear hF hw hS hend hitN o6 o3 hD hi hq hd
 generalize orbN f D d=N at *
 have Hm0:=Lib.hid hm;have Hk0:=Lib.hid hk;have H1:=Lib.hid h1;have H2:=Lib.hid h2
 have n1:=mapIB_ne hm h1;have n2:=mapIB_ne hm h2
 have hlt1:=h1.lt;have hlt2:=h2.lt;have hltm:=hm.lt;have hltk:=hk.lt
 clear hm hk h1 h2
 go_enter Tryz.func122,Tryz.ntmps122
 go_wp2_with fail
 go_loopw [0,4] (fun x s wr=>∃ j:Nat,j≤N∧x=.int .i64 (pw f d j)∧(∃ A c,s=.slice A j c)∧Own wr w.heap.size 3 1 inC s (iter f d j)∧MapIB wr gm (n+j) (seenL S (iter f d j))∧w.grownBy wr (some gm)) (fun _ s _=>N-lenV s)
 case atStart => exact ⟨0,Nat.zero_le _,rfl,⟨none,0,rfl⟩,Own.nil _ _ _ _ _,by rw [show iter f d 0=[] from rfl,seenL_nil];exact Hm0.out,gR w _⟩
 case round =>
  obtain ⟨j,hj,rfl,⟨A,c,rfl⟩,own,mp,hg⟩:=hrel
  have HO:=Lib.hid own;have HM:=Lib.hid mp;have HG:=Lib.hid hg
  have X1:=H1.out.grow hg (fun e=>n1 (Option.some.inj e))
  have hszr:w.heap.size≤wr.heap.size:=hg.size
  clear own mp hg
  obtain ⟨y,hy⟩:∃ y,pw f d j=y:=⟨_,rfl⟩
  have hym:=HMem.out j
  have hy2:f y=pw f d (j+1):=by rw [← hy];rfl
  have hFy:F y=pw f d (j+1):=by rw [← hy2];exact HF.out y (hy ▸ hym)
  have hwy:wfI y:=HW.out y (hy ▸ hym)
  have hnewj:=HNew.out j
  have hlk:=HM.out.look y hwy
  rw [hy] at hnewj ⊢
  have HY:=Lib.hid hy;have HFy:=Lib.hid hFy;have HWy:=Lib.hid hwy;have HN:=Lib.hid hnewj;have HYm:=Lib.hid (hy ▸ hym)
  clear hym hy2 hFy hwy hnewj
  by_cases hlt:j<N
  ·
   have hsf:seenL S (iter f d j) y=false:=by
    unfold seenL
    have h:=HN.out hlt
    rw [HS.out y h.2]
    simpa using h.1
   rw [hsf] at hlk
   obtain ⟨w3,hr3,hm3,hg3⟩:=HM.out.upd (by omega) y HWy.out true
   rw [seenL_snoc] at hm3
   have hsn:iter f d j++[y]=iter f d (j+1):=by rw [iter_snoc,HY.out]
   rw [hsn] at hm3
   have HM3:=Lib.hid hm3;have HG3:=Lib.hid (gT HG.out hg3)
   have HO3:=Lib.hid (Own.grown HO.out hg3 (fun g' hg' e=>mapIB_own HM.out HO.out (by rw [hg',e])))
   have hsz3:wr.heap.size≤w3.heap.size:=hg3.size
   have HSn:=Lib.hid hsn
   clear hsf hm3 hg3 hsn hy
   obtain ⟨X1l,X1a,-⟩:=X1.facts1
   go_upto_region 3 with fail
   clear hlk hr3 X1 X1l X1a
   go_upto_region 4 with
    (at_builtin
     refine wpList_appl _ rfl (.tmp 11) (.tmp 13) _ rfl (base:=w.heap.size) elem_in inC_len inC_one rfl (Own.alloc HO3.out _) rfl (l2:=[y]) (Sl.lit (n:=1) (Blk.made rfl _ _) rfl (le_maxLen (by omega))) (by simp only [iter_len,List.length_cons,List.length_nil];omega) (by simp only [iter_len,List.length_cons,List.length_nil];omega) (by simp;omega) ?_
     intro v1 w1 ho1 hg1 hat1
     rw [HSn.out] at ho1
     obtain ⟨A1,c1,hv1,-⟩:=Own.shape_ ho1
     rw [iter_len] at hv1
     subst hv1
     have HO1:=Lib.hid ho1
     have hown:=HO3.out.lt
     have hG1:w.grownBy w1 (some gm):=⟨by rw [hg1.os];exact HG3.out.os,by rw [hg1.tape];exact HG3.out.tape,by rw [hg1.output];exact HG3.out.output,Nat.le_trans HG3.out.size (Nat.le_trans (by simp) hg1.size),fun i hi hne=>by
      rw [hg1.block i (by simp;have:=HG3.out.size;omega) (fun e=>by have:=(hown i e.symm).1;omega),← HG3.out.block i hi hne]
      exact (bA (bR w3) (.cells #[.int .i64 y] 3)).block i (by have:=HG3.out.size;omega)⟩
     have HG1:=Lib.hid hG1
     have HM1:=Lib.hid ((HM3.out.keep (bA (bR w3) (.cells #[.int .i64 y] 3))).kept hg1 (fun e=>mapIB_own HM3.out HO3.out e.symm))
     clear ho1 hg1 hat1 hG1 hown
     )
   have X2:=H2.out.grow HG1.out (fun e=>n2 (Option.some.inj e))
   have hlk2:=(Hk0.out.kept HG1.out (fun e=>hne (Option.some.inj e).symm)).look y HWy.out
   rw [HFy.out] at hlk2
   obtain ⟨X2l,X2a,-⟩:=X2.facts1
   go_wp2_with fail
   go_roundw
   case rel => exact ⟨j+1,by omega,rfl,⟨A1,c1,rfl⟩,HO1.out,HM1.out,HG1.out⟩
   case measure => simp only [lenV];omega
  ·
   have hjN:j=N:=by omega
   subst hjN
   have hst:seenL S (iter f d j) y=true:=by
    unfold seenL
    have h:=HEnd.out
    rw [HY.out,← HIt.out] at h
    simp [h]
   rw [hst] at hlk
   clear hst
   try clear X1l
   try clear X1a
   obtain ⟨X1l,X1a,-⟩:=X1.facts1
   go_wp2_with fail
   go_ret
   rw [HIt.out] at HO HM
   have hL:=HLq.out
   have ho:=HO.out
   have hm:=HM.out
   subst hL
   exact ⟨A,c,rfl,ho,hm,HG.out⟩
end Go.Proofs.YtpempeioeiaijaaGreat
namespace Go.Proofs.YtpempeioeiaijaaGreat
open Go.RowKit

theorem flat_in (l:List Int) (j:Nat):(l.flatMap inC)[j]? = (l[j]?).map (.int .i64 ·):=by
 induction l generalizing j with
 | nil=>simp
 | cons a l ih =>
  rw [List.flatMap_cons]
  cases j with
  | zero=>rfl
  | succ j =>
   show (.int .i64 a::l.flatMap inC)[j+1]? = _
   rw [List.getElem?_cons_succ,ih,List.getElem?_cons_succ]
theorem flat_in_len (l:List Int):(l.flatMap inC).length=l.length:=by
 have:=flat_length inC 1 inC_len l
 omega
def RetSortIn (w:World) (base:Nat) (v:Value) (sl:List Int) (e:Ending) (w':World):Prop :=
 e=.returned (.tuple #[])∧Own w' base 3 1 inC v sl∧w.grownBy w' v.ownBlock

end Go.Proofs.YtpempeioeiaijaaGreat
namespace Go.Proofs.YtpempeioeiaijaaGreat
open Go.RowKit Go.Sort

def cmpOf (lt:Int→Int→Bool) (x y:Int):Int:=if lt x y then -1 else if lt y x then 1 else 0
section
variable {α:Type} [Inhabited α] (enc:α→Value) (w:World)
theorem sortW_heap (blk off m:Nat) (dk:Array α) (os:Array Obj):(sortWorld enc w blk off m dk os).heap=w.heap.modify blk (onCells (putCells enc off dk))++os:=rfl
theorem sortW_grown (blk off m:Nat) (dk:Array α) (os:Array Obj):w.grownBy (sortWorld enc w blk off m dk os) (some blk):=by
 refine ⟨rfl,rfl,rfl,?_,fun i hi hne=>?_⟩
 · rw [sortW_heap];simp
 ·
  have hne':blk≠i:=fun e=>hne (by rw [e])
  rw [sortW_heap,Array.getElem?_append_left (by simpa using hi),Array.getElem?_modify,if_neg hne']
end
def ltE (lt:Int→Int→Bool) (D:List Int) (x y:{x:Int // x∈D}):Int:=cmpOf lt x.1 y.1
theorem lt_ltE {lt:Int→Int→Bool} {D:List Int} (x y:{x:Int // x∈D}):ltOf (ltE lt D) x y=lt x.1 y.1:=by
 unfold ltOf ltE cmpOf
 cases h1:lt x.1 y.1
 · cases h2:lt y.1 x.1<;>simp
 · simp
theorem swo_el {lt:Int→Int→Bool} {D:List Int} (ho:OrdOn lt D):SWO (ltOf (ltE lt D)) where
 irrefl x:=by
  rw [lt_ltE]
  cases h:lt x.1 x.1
  · rfl
  · have:=ho.asym _ x.2 _ x.2 h;rw [h] at this;cases this
 trans x y z h1 h2:=by
  rw [lt_ltE] at *
  cases h:lt x.1 z.1
  ·
   have h3:=ho.asym _ y.2 _ z.2 h2
   have:=ho.ntr _ x.2 _ z.2 _ y.2 h h3
   rw [h1] at this;cases this
  · rfl
 ntrans x y z h1 h2:=by
  rw [lt_ltE] at *
  exact ho.ntr _ x.2 _ y.2 _ z.2 h1 h2
set_option maxHeartbeats 1000000 in
theorem Sort_in_spec (base:Nat) (v:Value) (sl:List Int) (lt:Int→Int→Bool) (fn:Nat) (cb:Array Value) (w:World) (hown:Own w base 3 1 inC v sl) (ho:OrdOn lt sl) (hn:sl.length≤4294967296)
  (eg:∀ args w,(callFunc fn args).run Tryz.prog w=.ok (.enter fn args) w)
  (hc:∀ W,w.grownBy W v.ownBlock→∀ x∈sl,∀ y∈sl,Calls Tryz.prog fn (#[.int .i64 x,.int .i64 y]++cb) W fun e w'=>e=.returned (.int .i64 (cmpOf lt x y))∧BelowD W w') :
  Calls Tryz.prog 160 #[v,.func (.func fn) #[] cb] w (RetSortIn w base v (sortB lt sl)):=by
 rcases sl with _ | ⟨s0,rest⟩
 ·
  have hv:∃ p cap,v=.slice p 0 cap:=by
   rcases hown.2 with ⟨h,_⟩ | ⟨g,cap,cur,h,_⟩
   · exact ⟨_,_,h⟩
   · exact ⟨_,_,h⟩
  obtain ⟨p,cap,rfl⟩:=hv
  refine Calls.mono (AnyF.slices_SortFunc_none {Tryz.sortIn with} p cap (.func (.func fn) #[] cb) w) ?_
  rintro e w' ⟨rfl,rfl⟩
  exact ⟨rfl,hown,World.grownBy.refl _ _⟩
 generalize hsl:s0::rest=sl at *
 have hs0:s0∈sl:=by rw [← hsl];simp
 have hpos:0<sl.length:=by rw [← hsl];simp
 obtain ⟨hlen,hown2⟩:=hown
 rcases hown2 with ⟨_,h0⟩ | ⟨g,cap,cur,rfl,hg,hh,hnc,hcm,hcs,hx⟩
 · omega
 haveI hI:Inhabited ({x:Int // x∈sl}):=⟨⟨s0,hs0⟩⟩
 have hdl:∃ dl:List ({x:Int // x∈sl}),dl.map (·.1)=sl:=⟨sl.attachWith (·∈sl) (fun _ h=>h),by simp⟩
 obtain ⟨dl,hdl⟩:=hdl
 have hdn:dl.length=sl.length:=by have:=congrArg List.length hdl;simpa using this
 have hcur:∀ j,j<sl.length→cur[j]? = (sl[j]?).map (.int .i64 ·):=fun j hj=>by
  rw [← flat_in,← hx,List.getElem?_take,if_pos (by omega)];simp
 let enc:{x:Int // x∈sl}→Value:=fun x=>.int .i64 x.1
 have hcmp:CmpLays1 Tryz.prog fn cb enc (ltE lt sl) g 0 dl.toArray.size w:=fun m os dk hdk x y=>by
  have hg':=sortW_grown enc w g 0 m dk os
  exact (hc _ hg' x.1 x.2 y.1 y.2).mono fun e w' h=>⟨h.1,belowD_grow h.2⟩
 have hget:∀ j,j<dl.length→sl[j]? = some (dl.toArray[j]!).1:=fun j hj=>by
  have e1:dl.toArray[j]! = dl[j]:=by rw [getElem!_pos dl.toArray j (by simpa using hj)];simp
  rw [e1]
  have:sl[j]? = (dl.map (·.1))[j]? := by rw [hdl]
  rw [this,List.getElem?_map,List.getElem?_eq_getElem hj];rfl
 have hH:Holds enc w g 0 dl.toArray:=fun j hj=>by
  have hj':j<dl.length:=by simpa using hj
  refine ⟨?_,Blk.frozen (t:=3) (cs:=cur) hh _⟩
  rw [cell_of_row w g _ cur 3 (0,0) hh,Nat.zero_add,hcur j (by omega),hget j hj']
  rfl
 have hcon:=Any.slices_SortFunc Tryz.sortIn enc (fun _=>rfl) (ltE lt sl) (swo_el ho) fn cb g 0 cap dl.toArray w eg hcmp hH (Blk.lt hh) (by simp;omega)
 have hns:dl.toArray.size=sl.length:=by simp [hdn]
 rw [hns] at hcon
 refine Calls.mono hcon ?_
 rintro e w' ⟨rfl,d',n,os,hp,hs,rfl⟩
 obtain ⟨p1,-,p3⟩:=hp
 have hd':d'.size=sl.length:=by rw [p1,hns]
 have hperm:d'.toList.Perm dl:=by
  have e1:d'.extract 0 sl.length=d':=by rw [← hd'];simp
  have e2:dl.toArray.extract 0 sl.length=dl.toArray:=by rw [← hns];simp
  rw [e1,e2] at p3
  simpa using p3
 have hperm2:(d'.toList.map (·.1)).Perm sl:=by
  have h1:(d'.toList.map (·.1)).Perm (dl.map (·.1)):=hperm.map _
  exact h1.trans (List.Perm.of_eq hdl)
 have hsorted:(d'.toList.map (·.1)).Pairwise (fun a b=>lt b a=false):=by
  rw [List.pairwise_map,List.pairwise_iff_getElem]
  intro i j hi hj hij
  have hj':j<d'.size:=by simpa using hj
  have:=hs i j (Nat.zero_le _) hij (by rw [← hd'];exact hj')
  rw [lt_ltE,getElem!_pos d' j hj',getElem!_pos d' i (by omega)] at this
  simpa using this
 have hd2:d'.toList.map (·.1)=sortB lt sl:=sortB_of ho hperm2 hsorted
 refine ⟨rfl,?_,sortW_grown enc w g 0 n d' os⟩
 rw [← hd2]
 have hl':(d'.toList.map (·.1)).length=sl.length:=by simp [hd']
 unfold Own
 rw [hl']
 refine ⟨by rw [flat_in_len,hl'];omega,.inr ⟨g,cap,putCells enc 0 d' cur,rfl,hg,?_,hnc,hcm,by simp [putCells,hcs],?_⟩⟩
 ·
  have hgl:g<w.heap.size:=Blk.lt hh
  rw [sortW_heap,Array.getElem?_append_left (by simpa using hgl),Array.getElem?_modify,if_pos rfl,hh]
  rfl
 ·
  apply List.ext_getElem?
  intro j
  rw [List.getElem?_take]
  by_cases hj:j<sl.length*1
  ·
   rw [if_pos hj]
   have hjc:j<cur.size:=by rw [hcs];omega
   have hjd:j<d'.size:=by rw [hd'];omega
   rw [flat_in,List.getElem?_map]
   have e1:(putCells enc 0 d' cur).toList[j]? = some (enc d'[j]!):=by
    simp [putCells,hjc,hjd]
   rw [e1,getElem!_pos d' j hjd,Array.getElem?_toList,Array.getElem?_eq_getElem hjd]
   rfl
  · rw [if_neg hj,List.getElem?_eq_none (by rw [flat_in_len,hl'];omega)]
end Go.Proofs.YtpempeioeiaijaaGreat
