import Derived.Test.YtnhdmghgjngcaaaGreatJ11
set_option linter.unusedSimpArgs false
set_option linter.unusedVariables false
namespace Go.Proofs.YtnhdmghgjngcaaaGreat
open Go.RowKit
set_option linter.unusedSectionVars false

def chX (X:List Int) (i:Int):Int:=(if i∈X then 1 else 0)-(if -i∈X then 1 else 0)
def arX (p:Pl) (X:List Int):Int:=(X.map (dartT p)).sum
theorem stp_twice (P:List Pt):stp crossG P=twiceP P:=by
 unfold stp twiceP
 generalize P.length-1=n
 induction n with
 | zero=>rfl
 | succ n ih=>rw [List.range_succ,List.map_append,List.sum_append,ih,twUp];simp
theorem wnS_negz (p:Pl) (z:Int→Int) (f:Pt→Pt→Int):wnS p (fun i=>-z i) f=-wnS p z f:=by
 unfold wnS
 rw [← sumN]
 exact sumC _ _ _ fun a _=>by rw [Int.neg_mul]
theorem wnS_none {p:Pl} {z:Int→Int} {f:Pt→Pt→Int} (h0:∀ a∈p.arcs,z a.id=0∨∀ k,k+1<(pathS p a).length→f ((pathS p a).getD k pt0) ((pathS p a).getD (k+1) pt0)=0):wnS p z f=0:=by
 unfold wnS stp
 refine sumZ _ _ fun a ha=>?_
 rcases h0 a ha with e | e
 · rw [e,Int.zero_mul]
 · rw [sumZ _ _ (fun k hk=>e k (by have:=List.mem_range.1 hk;omega)),Int.mul_zero]
theorem max_of {α:Type} (f:α→Int):∀ l:List α,l≠[]→∃ x∈l,∀ y∈l,f y≤f x
 | [],h=>absurd rfl h
 | [a],_=>⟨a,by simp,fun y hy=>by rw [List.mem_singleton] at hy;subst hy;exact Int.le_refl _⟩
 | a::b::l,_=>by
  obtain ⟨x,hx,hm⟩:=max_of f (b::l) (by simp)
  by_cases c:f a≤f x
  ·
   refine ⟨x,List.mem_cons_of_mem _ hx,fun y hy=>?_⟩
   rcases List.mem_cons.1 hy with rfl | hy
   · exact c
   · exact hm y hy
  ·
   refine ⟨a,List.mem_cons_self,fun y hy=>?_⟩
   rcases List.mem_cons.1 hy with rfl | hy
   · exact Int.le_refl _
   · have:=hm y hy;omega
theorem twiceUp_sum (p:Pl) (l:List Int) (k:Nat) (hk:k≤l.length):twiceUp p l k=((l.take k).map (dartT p)).sum:=by
 induction k with
 | zero=>simp [twiceUp]
 | succ k ih =>
  rw [twiceUp,ih (by omega),List.take_succ_eq_append_getElem (show k<l.length by omega),List.map_append,List.sum_append,List.getD_eq_getElem?_getD,List.getElem?_eq_getElem (show k<l.length by omega)]
  simp
section
variable {p:Pl} (h:Valid p)
include h
theorem Valid.sum_darts (F:Int→Int):((dartsD p).map F).sum=(p.arcs.map fun a=>F a.id+F (-a.id)).sum:=by
 unfold dartsD
 rw [List.map_append,List.sum_append,perm_sum ((List.reverse_perm _).map F),List.map_map,List.map_map,sumA]
 show (p.arcs.map fun a=>F (-a.id)).sum+(p.arcs.map fun a=>F a.id).sum=_
 omega
theorem Valid.cyc_nodup {X:List Int} (hX:X∈cyclesD p):X.Nodup∧(∀ d∈X,d∈dartsD p):=by
 obtain ⟨x,hx,e,-,-⟩:=h.cyc_form hX
 have hD:∀ x∈dartsD p,nextD p x∈dartsD p:=fun x hx=>(h.next_mem hx).1
 have hf:=orb_facts hD (fun x hx y hy=>h.next_inj hx hy) hx
 rw [e]
 exact ⟨hf.2.2.2.2.1,fun d hd=>orb_mem hD hx hd⟩
theorem Valid.cyc_next {X:List Int} (hX:X∈cyclesD p) {d:Int} (hd:d∈dartsD p):nextD p d∈X↔d∈X:=by
 obtain ⟨x,hx,e,-,-⟩:=h.cyc_form hX
 rw [e]
 exact orb_closed (fun x hx=>(h.next_mem hx).1) (fun x hx y hy=>h.next_inj hx hy) hx hd
theorem Valid.sum_cyc {X:List Int} (hX:X∈cyclesD p) (F:Int→Int):(X.map F).sum=(p.arcs.map fun a=>(if a.id∈X then F a.id else 0)+(if -a.id∈X then F (-a.id) else 0)).sum:=by
 obtain ⟨h1,h2⟩:=h.cyc_nodup hX
 rw [← h.sum_darts (fun d=>if d∈X then F d else 0)]
 have hp:((dartsD p).filter (fun d=>decide (d∈X))).Perm X:=by
  refine (List.perm_ext_iff_of_nodup (h.darts_nodup.filter _) h1).2 fun d=>?_
  rw [List.mem_filter,decide_eq_true_eq]
  exact ⟨fun h=>h.2,fun h=>⟨h2 d h,h⟩⟩
 rw [← perm_sum (hp.map F)]
 generalize dartsD p=D
 induction D with
 | nil=>rfl
 | cons d D ih =>
  rw [List.map_cons,List.sum_cons,List.filter_cons]
  by_cases c:d∈X
  · rw [if_pos (by simpa using c),if_pos c,List.map_cons,List.sum_cons,ih]
  · rw [if_neg (by simpa using c),if_neg c,ih];omega
theorem Valid.cyc_rot {X:List Int} (hX:X∈cyclesD p):(X.map (nextD p)).Perm X:=by
 obtain ⟨h1,h2⟩:=h.cyc_nodup hX
 have hn:(X.map (nextD p)).Nodup:=by
  rw [List.nodup_iff_pairwise_ne,List.pairwise_map]
  rw [List.nodup_iff_pairwise_ne] at h1
  refine List.Pairwise.imp_of_mem (fun {a b} ha hb hne e=>hne (h.next_inj (h2 a ha) (h2 b hb) e)) h1
 refine (List.perm_ext_iff_of_nodup hn h1).2 fun y=>?_
 rw [List.mem_map]
 constructor
 ·
  rintro ⟨x,hx,rfl⟩
  exact (h.cyc_next hX (h2 x hx)).2 hx
 ·
  intro hy
  obtain ⟨x,hx,e,-,-⟩:=h.cyc_form hX
  have hf:=orb_facts (fun x hx=>(h.next_mem hx).1) (fun x hx y hy=>h.next_inj hx hy) hx
  rw [e] at hy ⊢
  unfold orb at hy ⊢
  obtain ⟨k,hk,rfl⟩:=mem_iter.1 hy
  cases k with
  | zero =>
   refine ⟨pw (nextD p) x (orbN (nextD p) (dartsD p) x-1),mem_iter.2 ⟨_,by omega,rfl⟩,?_⟩
   have:pw (nextD p) x (orbN (nextD p) (dartsD p) x-1+1)=x:=by rw [Nat.sub_add_cancel hf.1];exact hf.2.2.1
   rw [pw] at this
   exact this
  | succ k=>exact ⟨pw (nextD p) x k,mem_iter.2 ⟨k,by omega,rfl⟩,rfl⟩
theorem Valid.chX_closed {X:List Int} (hX:X∈cyclesD p):ClosedC p (chX X):=by
 intro n _
 obtain ⟨h1,h2⟩:=h.cyc_nodup hX
 have e1:=h.sum_cyc hX (fun d=>(if startD p (-d)=n.id then 1 else 0)-(if startD p d=n.id then 1 else 0))
 have e2:(X.map fun d=>((if startD p (-d)=n.id then 1 else 0)-(if startD p d=n.id then 1 else 0):Int)).sum=0:=by
  have e3:=perm_sum ((h.cyc_rot hX).map fun d=>if startD p d=n.id then (1:Int) else 0)
  rw [List.map_map] at e3
  rw [sumC _ _ (fun d=>(if startD p (nextD p d)=n.id then (1:Int) else 0) + -(if startD p d=n.id then 1 else 0)) (fun d hd=>by rw [(h.next_mem (h2 d hd)).2];omega),sumA,sumN]
  have e4:(X.map fun d=>if startD p (nextD p d)=n.id then (1:Int) else 0).sum=(X.map ((fun d=>if startD p d=n.id then (1:Int) else 0) ∘ nextD p)).sum:=rfl
  omega
 rw [e2] at e1
 refine Eq.trans ?_ e1.symm
 refine sumC _ _ _ fun a ha=>?_
 simp only [Int.neg_neg]
 rw [h.start_pos ha,h.start_neg ha]
 unfold chX
 generalize (if a.dst=n.id then (1:Int) else 0)=u
 generalize (if a.fr=n.id then (1:Int) else 0)=v
 by_cases c1:a.id∈X<;>by_cases c2:-a.id∈X<;>simp only [c1,c2,if_true,if_false]<;>omega
theorem Valid.dartT_pos {a:Ar} (ha:a∈p.arcs):dartT p a.id=twiceP (pathS p a)∧dartT p (-a.id)=-twiceP (pathS p a):=by
 have hid:=(h.id_pos ha).1
 unfold dartT
 rw [h.arcD_pos ha,h.arcD_neg ha]
 simp only
 rw [if_pos (by omega),if_neg (by omega)]
 exact ⟨rfl,rfl⟩
theorem Valid.ar_chX {X:List Int} (hX:X∈cyclesD p):arX p X=wnS p (chX X) crossG:=by
 unfold arX wnS
 rw [h.sum_cyc hX]
 refine sumC _ _ _ fun a ha=>?_
 obtain ⟨e1,e2⟩:=h.dartT_pos ha
 rw [stp_twice,e1,e2]
 unfold chX
 by_cases c1:a.id∈X<;>by_cases c2:-a.id∈X<;>simp only [c1,c2,if_true,if_false]<;>omega
theorem Valid.hz_class {X:List Int} (hX:X∈cyclesD p) {d e:Int} (hd:d∈dartsD p) (he:e∈dartsD p) (hs:slE p p.arcs.length d=slE p p.arcs.length e) :
  Hz p (chX X) d-(if d∈X then 1 else 0)=Hz p (chX X) e-(if e∈X then 1 else 0):=by
 have hz:=h.chX_closed hX
 have hc:=h.slE_const (fun d=>Hz p (chX X) d-(if d∈X then 1 else 0)) (fun d hd=>by
  show Hz p (chX X) (nextD p d)-(if nextD p d∈X then 1 else 0)=_
  rw [h.Hz_next hz hd]
  by_cases c:d∈X
  · rw [if_pos c,if_pos ((h.cyc_next hX hd).2 c)]
  · rw [if_neg c,if_neg (fun e=>c ((h.cyc_next hX hd).1 e))]) p.arcs.length (Nat.le_refl _) (fun j hj _ _=>by
  have:=h.Hz_pos hz (List.getElem_mem hj)
  unfold chX at this ⊢
  show Hz p _ p.arcs[j].id-_=Hz p _ (-p.arcs[j].id)-_
  omega)
 have h1:_=_:=hc d hd
 have h2:_=_:=hc e he
 rw [← h1,← h2,hs]
theorem Valid.top_dart {r:Int} (hr:r∈dartsD p):∃ d∈dartsD p,slE p p.arcs.length d=slE p p.arcs.length r ∧
  ∀ z,ClosedC p z→(∀ a∈p.arcs,z a.id≠0→slE p p.arcs.length a.id=slE p p.arcs.length r)→Hz p z d=0:=by
 obtain ⟨q,hq,hmax⟩:=max_of (fun q:Ar×Nat=>hY ((pathS p q.1).getD q.2 pt0)) (p.arcs.flatMap fun a=>if slE p p.arcs.length a.id=slE p p.arcs.length r then (List.range (pathS p a).length).map fun k=>(a,k) else []) (by
  obtain ⟨a,ha,e⟩:=mem_dartsD.1 hr
  have hm:a.id∈dartsD p:=mem_dartsD.2 ⟨a,ha,.inl rfl⟩
  have hs:slE p p.arcs.length a.id=slE p p.arcs.length r:=by
   rcases e with rfl | rfl
   · rfl
   · exact (h.sl_dart hm).symm
  have hl:=pathS_length p a
  intro e
  have:(a,0)∈(p.arcs.flatMap fun a=>if slE p p.arcs.length a.id=slE p p.arcs.length r then (List.range (pathS p a).length).map fun k=>(a,k) else []) :=
   List.mem_flatMap.2 ⟨a,ha,by rw [if_pos hs];exact List.mem_map.2 ⟨0,List.mem_range.2 (by omega),rfl⟩⟩
  rw [e] at this
  cases this)
 obtain ⟨a,ha,hq⟩:=List.mem_flatMap.1 hq
 split at hq
 case isFalse => cases hq
 rename_i hsa
 obtain ⟨k,hk,rfl⟩:=List.mem_map.1 hq
 have hk:=List.mem_range.1 hk
 simp only at hmax
 have hl:=pathS_length p a
 have top:∀ c∈p.arcs,slE p p.arcs.length c.id=slE p p.arcs.length r→∀ m,m<(pathS p c).length→hY ((pathS p c).getD m pt0)≤hY ((pathS p a).getD k pt0):=by
  intro c hc hs m hm
  exact hmax (c,m) (List.mem_flatMap.2 ⟨c,hc,by rw [if_pos hs];exact List.mem_map.2 ⟨m,List.mem_range.2 hm,rfl⟩⟩)
 have loc:∀ z,(∀ a∈p.arcs,z a.id≠0→slE p p.arcs.length a.id=slE p p.arcs.length r)→∀ u,rtW p z ((pathS p a).getD k pt0) u=wnS p z (atF (fun x=>ind (dirLt ((pathS p a).getD k pt0) x u)) ((pathS p a).getD k pt0)):=by
  intro z hz u
  generalize (pathS p a).getD k pt0=v at *
  have e:rtW p z v u=wnS p z (fun a b=>cr1 a b v+atF (fun x=>ind (dirLt v x u)) v a b):=by
   unfold rtW
   refine wnS_congr fun c _ m _=>?_
   generalize (pathS p c).getD m pt0=x
   generalize (pathS p c).getD (m+1) pt0=y
   unfold rtF atF ind
   by_cases h1:x=v<;>by_cases h2:y=v<;>simp only [h1,h2,true_and,false_and,if_true,if_false]<;>omega
  rw [e,wnS_add p z (fun a b=>cr1 a b v),wnS_none (f:=fun a b=>cr1 a b v) (fun c hc=>?_),Int.zero_add]
  by_cases h0:z c.id=0
  · exact .inl h0
  ·
   right
   intro m hm
   have t1:=top c hc (hz c hc h0) m (by omega)
   have t2:=top c hc (hz c hc h0) (m+1) hm
   unfold cr1
   rw [if_neg (by omega),if_neg (by omega)]
 have hma:a.id∈dartsD p:=mem_dartsD.2 ⟨a,ha,.inl rfl⟩
 have hma':-a.id∈dartsD p:=mem_dartsD.2 ⟨a,ha,.inr rfl⟩
 have node:∀ n∈p.nodes,(pathS p a).getD k pt0=n.pt→(a.id∈aroundD p n.id∨-a.id∈aroundD p n.id)→∃ d∈dartsD p,slE p p.arcs.length d=slE p p.arcs.length r ∧
   ∀ z,ClosedC p z→(∀ a∈p.arcs,z a.id≠0→slE p p.arcs.length a.id=slE p p.arcs.length r)→Hz p z d=0:=by
  intro n hn ev hor
  rw [ev] at loc
  have hpos:0<(aroundD p n.id).length:=by
   rcases hor with e | e<;>exact List.length_pos_of_mem e
  have h0m:(aroundD p n.id)[0]∈aroundD p n.id:=List.getElem_mem hpos
  have h0d:=(h.around_perm hn).subset h0m
  obtain ⟨hdd,hst⟩:=h.dartL_start h0d
  refine ⟨-(aroundD p n.id)[0],neg_dart hdd,?_,fun z hz hzs=>?_⟩
  ·
   rw [h.sl_dart hdd]
   rcases hor with e | e
   · rw [h.sl_node hn h0m e];exact hsa
   · rw [h.sl_node hn h0m e,h.sl_dart hma];exact hsa
  ·
   have hr0:rtW p z n.pt (toD p (aroundD p n.id)[0])=0:=by
    rw [loc z hzs,h.at_node z _ hn]
    refine sumZ _ _ fun x hx=>?_
    obtain ⟨j,hj,rfl⟩:=List.mem_iff_getElem.1 ((h.around_perm hn).symm.subset hx)
    have:ind (dirLt n.pt (toD p (aroundD p n.id)[j]) (toD p (aroundD p n.id)[0]))=0:=by
     by_cases hj0:j=0
     · subst hj0;exact ind_self _ _
     · exact if_neg (dirLt_asym (h.around_sorted hn (i:=0) (j:=j) (by omega) hj))
    rw [this,Int.mul_zero]
   have j:=h.jump_node hz hn h0d
   have j2:=h.Hz_jump hz hdd
   have e:Hz p z (aroundD p n.id)[0]=ltW p z n.pt (toD p (aroundD p n.id)[0]):=by
    unfold Hz
    rw [hst,h.sound.node_eq hn]
   omega
 by_cases h0:k=0
 ·
  subst h0
  obtain ⟨n,hn,e1,e2⟩:=h.sound.at_fr ha
  exact node n hn (by rw [path_0,e2]) (.inl ((h.around_perm hn).symm.subset (mem_dartL.2 ⟨a,ha,.inl ⟨rfl,e1.symm⟩⟩)))
 by_cases h1:k=(pathS p a).length-1
 ·
  obtain ⟨n,hn,e1,e2⟩:=h.sound.at_dst ha
  exact node n hn (by rw [h1,path_end,e2]) (.inr ((h.around_perm hn).symm.subset (mem_dartL.2 ⟨a,ha,.inr ⟨rfl,e1.symm⟩⟩)))
 ·
  obtain ⟨m,rfl⟩:∃ m,k=m+1:=⟨k-1,by omega⟩
  have hin:m+2<(pathS p a).length:=by omega
  have at_:=fun z φ=>h.at_inner z φ ha (j:=m+1) (by omega) hin
  rcases h.inner_dirs ha hin with c | c
  ·
   refine ⟨a.id,hma,hsa,fun z hz hzs=>?_⟩
   rw [← (h.side_all hz ha (m:=m) (by omega)).2,loc z hzs,at_ z,show m+1-1=m by omega,show m+1+1=m+2 by omega,ind_self]
   rw [show ind (dirLt ((pathS p a).getD (m+1) pt0) ((pathS p a).getD (m+2) pt0) ((pathS p a).getD m pt0))=0 from if_neg (dirLt_asym c),Int.sub_self,Int.mul_zero]
  ·
   refine ⟨-a.id,hma',by rw [h.sl_dart hma];exact hsa,fun z hz hzs=>?_⟩
   rw [← (h.side_all hz ha (m:=m+1) (by omega)).1,loc z hzs,at_ z,show m+1-1=m by omega,show m+1+1=m+2 by omega,ind_self]
   rw [show ind (dirLt ((pathS p a).getD (m+1) pt0) ((pathS p a).getD m pt0) ((pathS p a).getD (m+2) pt0))=0 from if_neg (dirLt_asym c),Int.sub_self,Int.mul_zero]
theorem Valid.cyc_class {X:List Int} (hX:X∈cyclesD p) {d e:Int} (hd:d∈X) (he:e∈X):slE p p.arcs.length d=slE p p.arcs.length e:=by
 have h2:=(h.cyc_nodup hX).2
 refine h.slE_keep (k:=0) (Nat.zero_le _) (Nat.le_refl _) ?_
 show headOf (cyclesD p) d=headOf (cyclesD p) e
 rw [h.head_eq hX (h2 d hd) hd,h.head_eq hX (h2 e he) he]
theorem Valid.cyc_sign {X:List Int} (hX:X∈cyclesD p) {r d0:Int} (hr:r∈X) (hd:d0∈dartsD p) (hs:slE p p.arcs.length d0=slE p p.arcs.length r)
  (h0:∀ z,ClosedC p z→(∀ a∈p.arcs,z a.id≠0→slE p p.arcs.length a.id=slE p p.arcs.length r)→Hz p z d0=0):0<arX p X↔d0∉X:=by
 have hz:=h.chX_closed hX
 have h2:=(h.cyc_nodup hX).2
 have supp:∀ a∈p.arcs,chX X a.id≠0→slE p p.arcs.length a.id=slE p p.arcs.length r:=by
  intro a ha hne
  have hma:a.id∈dartsD p:=mem_dartsD.2 ⟨a,ha,.inl rfl⟩
  by_cases c1:a.id∈X
  · exact h.cyc_class hX c1 hr
  ·
   by_cases c2:-a.id∈X
   · rw [← h.sl_dart hma];exact h.cyc_class hX c2 hr
   · exact absurd (by unfold chX;rw [if_neg c1,if_neg c2];rfl) hne
 have hH:=h0 _ hz supp
 have cl:∀ d∈dartsD p,slE p p.arcs.length d=slE p p.arcs.length r→Hz p (chX X) d=(if d∈X then 1 else 0)-(if d0∈X then 1 else 0):=by
  intro d hd' hsd
  have:=h.hz_class hX hd' hd (by rw [hsd,hs])
  omega
 have two:∀ a∈p.arcs,chX X a.id≠0→Hz p (chX X) a.id=(if a.id∈X then 1 else 0)-(if d0∈X then 1 else 0)∧Hz p (chX X) (-a.id)=(if -a.id∈X then 1 else 0)-(if d0∈X then 1 else 0):=by
  intro a ha hne
  have hma:a.id∈dartsD p:=mem_dartsD.2 ⟨a,ha,.inl rfl⟩
  exact ⟨cl _ hma (supp a ha hne),cl _ (neg_dart hma) (by rw [h.sl_dart hma];exact supp a ha hne)⟩
 rw [h.ar_chX hX]
 by_cases c:d0∈X
 ·
  refine ⟨fun hp=>?_,fun hn=>absurd c hn⟩
  exfalso
  have hneg:ClosedC p (fun i=>-chX X i):=fun n hn=>by
   have:=hz n hn
   show (p.arcs.map fun a=>-chX X a.id*((if a.dst=n.id then 1 else 0)-(if a.fr=n.id then 1 else 0))).sum=0
   refine (sumC _ _ (fun a:Ar=>-(chX X a.id*((if a.dst=n.id then (1:Int) else 0)-(if a.fr=n.id then 1 else 0)))) (fun a _=>Int.neg_mul _ _)).trans ?_
   rw [sumN,this];rfl
  have hN:∀ d,Hz p (fun i=>-chX X i) d=-Hz p (chX X) d:=fun d=>wnS_negz _ _ _
  have:=(h.area_pos hneg (fun a ha hne=>by
   have hne':chX X a.id≠0:=fun e=>hne (by show -_=(0:Int);rw [e];rfl)
   obtain ⟨t1,t2⟩:=two a ha hne'
   rw [hN,hN,t1,t2,if_pos c]
   unfold chX at hne'
   by_cases c1:a.id∈X<;>by_cases c2:-a.id∈X<;>simp only [c1,c2,if_true,if_false] at hne' ⊢ <;> omega)).1
  rw [wnS_negz] at this
  omega
 ·
  refine ⟨fun _=>c,fun _=>?_⟩
  refine (h.area_pos hz (fun a ha hne=>by
   obtain ⟨t1,t2⟩:=two a ha hne
   rw [t1,t2,if_neg c]
   unfold chX at hne
   by_cases c1:a.id∈X<;>by_cases c2:-a.id∈X<;>simp only [c1,c2,if_true,if_false] at hne ⊢ <;> omega)).2 ?_
  apply Classical.byContradiction
  intro hno
  have h1:=cl r (h2 r hr) rfl
  rw [if_pos hr,if_neg c] at h1
  have:Hz p (chX X) r=0:=wnS_none fun a ha=>.inl (Classical.byContradiction fun e=>hno ⟨a,ha,e⟩)
  omega
end
end Go.Proofs.YtnhdmghgjngcaaaGreat
namespace Go.Proofs.YtnhdmghgjngcaaaGreat
open Go.RowKit
set_option linter.unusedSectionVars false

def crY (v a b:Pt):Int:=if a.y≤v.y∧v.y<b.y∧0<tw a b v then 1 else if b.y≤v.y∧v.y<a.y∧0<tw b a v then -1 else 0
def wnY (p:Pl) (z:Int→Int) (v:Pt):Int:=wnS p z (crY v)
def onP (a b v:Pt):Prop:=tw a b v=0∧min a.x b.x≤v.x∧v.x≤max a.x b.x∧min a.y b.y≤v.y∧v.y≤max a.y b.y
instance (a b v:Pt):Decidable (onP a b v):=by unfold onP;infer_instance
def OffZ (p:Pl) (z:Int→Int) (v:Pt):Prop:=∀ a∈p.arcs,z a.id≠0→∀ k,k+1<(pathS p a).length→¬ onP ((pathS p a).getD k pt0) ((pathS p a).getD (k+1) pt0) v
theorem xN_pt (a b v:Pt):xN a b (2*hY v)-2*v.x*(hY b-hY a)=16777216*tw a b v:=by unfold xN tw hY;grind
theorem xE_pt {D:Int} (hD:0<D) {a b v:Pt} (hab:hY a<hY b) (hd:hY b-hY a∣D):2*D*v.x<xE D a b (2*hY v)↔0<tw a b v:=by
 obtain ⟨q,hq⟩:=hd
 unfold xE
 have e1:D / (hY b-hY a)=q:=by rw [hq];exact Int.mul_ediv_cancel_left _ (by omega)
 have hx:=xN_pt a b v
 have hn:0<hY b-hY a:=by omega
 rw [e1]
 generalize hY b-hY a=n at *
 generalize xN a b (2*hY v)=X at *
 have hqp:0<q:=by
  rcases Int.lt_trichotomy q 0 with g | g | g
  · have:=Int.mul_neg_of_pos_of_neg hn g;omega
  · subst g;rw [Int.mul_zero] at hq;omega
  · exact g
 have k:X*q-2*D*v.x=(X-2*v.x*n)*q:=by rw [hq];grind
 rw [hx] at k
 have s1:0<tw a b v→0<16777216*tw a b v*q:=fun h=>Int.mul_pos (by omega) hqp
 have s2:tw a b v≤0→16777216*tw a b v*q≤0:=fun h=>Int.mul_nonpos_of_nonpos_of_nonneg (by omega) (by omega)
 generalize tw a b v=t at *
 constructor<;>intro<;>omega
theorem wnS_addz (p:Pl) (z u:Int→Int) (f:Pt→Pt→Int):wnS p (fun i=>z i+u i) f=wnS p z f+wnS p u f:=by
 unfold wnS
 rw [← sumA]
 exact sumC _ _ _ fun a _=>by rw [Int.add_mul]
theorem ClosedC.add {p:Pl} {z u:Int→Int} (h1:ClosedC p z) (h2:ClosedC p u):ClosedC p (fun i=>z i+u i):=fun n hn=>by
 have e1:=h1 n hn
 have e2:=h2 n hn
 refine (sumC _ _ (fun a:Ar=>z a.id*((if a.dst=n.id then (1:Int) else 0)-(if a.fr=n.id then 1 else 0))+u a.id*((if a.dst=n.id then (1:Int) else 0)-(if a.fr=n.id then 1 else 0))) (fun a _=>Int.add_mul _ _ _)).trans ?_
 rw [sumA,e1,e2];rfl
theorem ClosedC.neg {p:Pl} {z:Int→Int} (h1:ClosedC p z):ClosedC p (fun i=>-z i):=fun n hn=>by
 have e1:=h1 n hn
 refine (sumC _ _ (fun a:Ar=>-(z a.id*((if a.dst=n.id then (1:Int) else 0)-(if a.fr=n.id then 1 else 0)))) (fun a _=>Int.neg_mul _ _)).trans ?_
 rw [sumN,e1];rfl
theorem cr_rows {D:Int} (hD:0<D) {a b v:Pt} (na:near1 a=true) (nb:near1 b=true) (nv:near1 v=true) (hne:a≠b) (hd:hY b-hY a∣D) (hav:a≠v) (hbv:b≠v) (hoff:¬ onP a b v) :
  crY v a b=(if 2*D*v.x<xE D a b (2*hY v) then sgH (2*hY v) a b else 0)+((if a.y=v.y∧v.x<a.x then 1 else 0)-(if b.y=v.y∧v.x<b.x then 1 else 0)):=by
 have key:∀ {a b:Pt},near1 a=true→near1 b=true→hY a<hY b→hY b-hY a∣D→a≠v→b≠v→¬ onP a b v →
   crY v a b=(if 2*D*v.x<xE D a b (2*hY v) then sgH (2*hY v) a b else 0)+((if a.y=v.y∧v.x<a.x then 1 else 0)-(if b.y=v.y∧v.x<b.x then 1 else 0)):=by
  intro a b na nb hab hd hav hbv hoff
  have hx:=xE_pt hD (v:=v) hab hd
  simp only [hx]
  rw [near1_iff] at na nb nv
  have ha:¬ (a.x=v.x∧a.y=v.y):=fun e=>hav (Pt.ext_iff'.2 e)
  have hb:¬ (b.x=v.x∧b.y=v.y):=fun e=>hbv (Pt.ext_iff'.2 e)
  have tba:tw b a v=-tw a b v:=by unfold tw;grind
  unfold crY sgH onP at *
  rw [tba]
  unfold hY at *
  have s1:a.y=v.y→tw a b v=(b.y-a.y)*(a.x-v.x):=fun e=>by unfold tw;rw [e];grind
  have s2:b.y=v.y→tw a b v=(b.y-a.y)*(b.x-v.x):=fun e=>by unfold tw;rw [e];grind
  have p1:∀ {x y:Int},0<x→0<y→0<x*y:=fun h1 h2=>Int.mul_pos h1 h2
  have p2:∀ {x y:Int},0<x→y<0→x*y<0:=fun h1 h2=>Int.mul_neg_of_pos_of_neg h1 h2
  generalize tw a b v=t at *
  by_cases hy:a.y=b.y
  ·
   have hx2:a.x<b.x:=by omega
   have e1:¬ (a.y≤v.y∧v.y<b.y∧0<t):=by omega
   have e2:¬ (b.y≤v.y∧v.y<a.y∧0 < -t):=by omega
   rw [if_neg e1,if_neg e2]
   by_cases hv:a.y=v.y
   ·
    have t0:t=0:=by rw [s1 hv,hy,Int.sub_self,Int.zero_mul]
    rw [if_neg (show ¬ 0<t by omega)]
    by_cases c:v.x<a.x
    · rw [if_pos ⟨hv,c⟩,if_pos (by omega)];rfl
    ·
     have:¬ v.x<b.x:=fun c2=>hoff ⟨t0,by omega⟩
     rw [if_neg (by omega),if_neg (by omega)];rfl
   ·
    rw [if_neg (show ¬ (a.y=v.y∧v.x<a.x) by omega),if_neg (show ¬ (b.y=v.y∧v.x<b.x) by omega)]
    split
    ·
     by_cases c:v.y<a.y
     · rw [if_pos (by omega),if_pos (by omega)];rfl
     · rw [if_neg (by omega),if_neg (by omega)];rfl
    · rfl
  ·
   have hy:a.y<b.y:=by omega
   rw [if_neg (show ¬ (b.y≤v.y∧v.y<a.y∧0 < -t) by omega)]
   by_cases c1:a.y=v.y
   ·
    have e:=s1 c1
    rw [if_neg (show ¬ (b.y=v.y∧v.x<b.x) by omega)]
    by_cases c2:v.x<a.x
    ·
     have:=p1 (show 0<b.y-a.y by omega) (show 0<a.x-v.x by omega)
     rw [if_pos (show a.y≤v.y∧v.y<b.y∧0<t by omega),if_pos (show 0<t by omega),if_pos (by omega),if_pos (by omega),if_pos ⟨c1,c2⟩];rfl
    ·
     have:=p2 (show 0<b.y-a.y by omega) (show a.x-v.x<0 by omega)
     rw [if_neg (show ¬ (a.y≤v.y∧v.y<b.y∧0<t) by omega),if_neg (show ¬ 0<t by omega),if_neg (by omega)];rfl
   ·
    rw [if_neg (show ¬ (a.y=v.y∧v.x<a.x) by omega)]
    by_cases c2:b.y=v.y
    ·
     have e:=s2 c2
     rw [if_neg (show ¬ (a.y≤v.y∧v.y<b.y∧0<t) by omega)]
     by_cases c3:v.x<b.x
     ·
      have:=p1 (show 0<b.y-a.y by omega) (show 0<b.x-v.x by omega)
      rw [if_pos (show 0<t by omega),if_pos (by omega),if_neg (by omega),if_pos ⟨c2,c3⟩];rfl
     ·
      have:=p2 (show 0<b.y-a.y by omega) (show b.x-v.x<0 by omega)
      rw [if_neg (show ¬ 0<t by omega),if_neg (by omega)];rfl
    ·
     rw [if_neg (show ¬ (b.y=v.y∧v.x<b.x) by omega)]
     by_cases c3:0<t
     ·
      rw [if_pos c3]
      by_cases c4:a.y<v.y∧v.y<b.y
      · rw [if_pos (by omega),if_pos (by omega),if_neg (by omega)];rfl
      ·
       rw [if_neg (by omega)]
       by_cases c5:v.y<a.y
       · rw [if_pos (by omega),if_pos (by omega)];rfl
       · rw [if_neg (by omega),if_neg (by omega)];rfl
     · rw [if_neg (by omega),if_neg c3];rfl
 rcases Int.lt_trichotomy (hY a) (hY b) with c | c | c
 · exact key na nb c hd hav hbv hoff
 · exact absurd (hY_inj na nb c) hne
 ·
  have hoff2:¬ onP b a v:=fun e=>hoff (by
   obtain ⟨e1,e2⟩:=e
   refine ⟨?_,by rw [Int.min_comm,Int.max_comm a.x,Int.min_comm a.y,Int.max_comm a.y];exact e2⟩
   have:tw b a v=-tw a b v:=by unfold tw;grind
   omega)
  have e:=key nb na c (by rw [show hY a-hY b=-(hY b-hY a) by omega];exact Int.neg_dvd.2 hd) hbv hav hoff2
  have e1:crY v b a=-crY v a b:=by
   unfold crY
   by_cases c1:b.y≤v.y∧v.y<a.y∧0<tw b a v
   · rw [if_pos c1,if_neg (by omega),if_pos c1];rfl
   ·
    by_cases c2:a.y≤v.y∧v.y<b.y∧0<tw a b v
    · rw [if_neg c1,if_pos c2,if_pos c2]
    · rw [if_neg c1,if_neg c2,if_neg c2,if_neg c1];rfl
  have e2:sgH (2*hY v) b a=-sgH (2*hY v) a b:=by unfold sgH;omega
  rw [e1,xE_swap,e2] at e
  split at e<;>rename_i c<;>first | rw [if_pos c];omega | rw [if_neg c];omega
section
variable {p:Pl} (h:Valid p)
include h
theorem Valid.sep_D:∃ D:Int,0<D∧∀ a∈p.arcs,∀ k,k+1<(pathS p a).length→hY ((pathS p a).getD (k+1) pt0)-hY ((pathS p a).getD k pt0)∣D:=by
 obtain ⟨D,h1,h2⟩:=div_all (p.arcs.flatMap fun a=>(List.range ((pathS p a).length-1)).map fun k=>hY ((pathS p a).getD (k+1) pt0)-hY ((pathS p a).getD k pt0)) (fun x hx=>by
  obtain ⟨a,ha,hx⟩:=List.mem_flatMap.1 hx
  obtain ⟨k,hk,rfl⟩:=List.mem_map.1 hx
  have hk:=List.mem_range.1 hk
  intro e
  exact (h.distinct ha (k:=k) (by omega)).1 (hY_inj (h.pt_near ha (by omega)) (h.pt_near ha (by omega)) (by omega)))
 exact ⟨D,h1,fun a ha k hk=>h2 _ (List.mem_flatMap.2 ⟨a,ha,List.mem_map.2 ⟨k,List.mem_range.2 (by omega),rfl⟩⟩)⟩
theorem Valid.off_ends {z:Int→Int} {v:Pt} (hoff:OffZ p z v) {a:Ar} (ha:a∈p.arcs) (hza:z a.id≠0) {k:Nat} (hk:k<(pathS p a).length):(pathS p a).getD k pt0≠v:=by
 have hl:=pathS_length p a
 intro e
 by_cases h1:k+1<(pathS p a).length
 ·
  refine hoff a ha hza k h1 ?_
  rw [e]
  exact ⟨tw_aba _ _,by omega⟩
 ·
  obtain ⟨m,rfl⟩:∃ m,k=m+1:=⟨k-1,by omega⟩
  refine hoff a ha hza m (by omega) ?_
  rw [e]
  exact ⟨tw_abb _ _,by omega⟩
theorem Valid.off_free {z:Int→Int} {v:Pt} (nv:near1 v=true) (hoff:OffZ p z v):FreeT p z (2*hY v):=fun a ha hza k hk e =>
 h.off_ends hoff ha hza hk (hY_inj (h.pt_near ha hk) nv (by omega))
theorem Valid.wnY_bey {z:Int→Int} (hz:ClosedC p z) {D:Int} (hD:0<D) (hd:∀ a∈p.arcs,∀ k,k+1<(pathS p a).length→hY ((pathS p a).getD (k+1) pt0)-hY ((pathS p a).getD k pt0)∣D)
  {v:Pt} (nv:near1 v=true) (hoff:OffZ p z v):wnY p z v=beyS (itemsT p z D (2*hY v)) (2*D*v.x):=by
 have t:=h.tele hz (fun u=>-(if u.y=v.y∧v.x<u.x then 1 else 0))
 have bS:beyS (itemsT p z D (2*hY v)) (2*D*v.x)=wnS p z (fun a b=>if 2*D*v.x<xE D a b (2*hY v) then sgH (2*hY v) a b else 0) :=
  items_sum p z D (2*hY v) (fun x s=>if 2*D*v.x<x then s else 0) (fun x c s=>by split<;>simp)
 rw [bS]
 have e:wnY p z v=wnS p z (fun a b=>(if 2*D*v.x<xE D a b (2*hY v) then sgH (2*hY v) a b else 0)+(-(if b.y=v.y∧v.x<b.x then 1 else 0) - -(if a.y=v.y∧v.x<a.x then 1 else 0))):=by
  refine wnS_congrZ fun a ha hza k hk=>?_
  have:=cr_rows hD (h.pt_near ha (k:=k) (by omega)) (h.pt_near ha hk) nv (h.distinct ha hk).1 (hd a ha k hk) (h.off_ends hoff ha hza (k:=k) (by omega)) (h.off_ends hoff ha hza hk) (hoff a ha hza k hk)
  omega
 rw [e,wnS_add p z (fun a b=>if 2*D*v.x<xE D a b (2*hY v) then sgH (2*hY v) a b else 0) (fun a b=>-(if b.y=v.y∧v.x<b.x then 1 else 0) - -(if a.y=v.y∧v.x<a.x then 1 else 0)),t,Int.add_zero]
theorem Valid.bey_01 {z:Int→Int} (hz:ClosedC p z) (hw:∀ a∈p.arcs,z a.id≠0→(Hz p z (-a.id)=0∧Hz p z a.id=1)∨(Hz p z (-a.id)=1∧Hz p z a.id=0))
  {D:Int} (hD:0<D) (hd:∀ a∈p.arcs,∀ k,k+1<(pathS p a).length→hY ((pathS p a).getD (k+1) pt0)-hY ((pathS p a).getD k pt0)∣D) {τ:Int} (hτ:FreeT p z τ) (t:Int) :
  beyS (itemsT p z D τ) t=0∨beyS (itemsT p z D τ) t=1:=by
 obtain ⟨B,hB⟩:=pos_bd (itemsT p z D τ)
 exact cake_win (h.items_ok hz hw hD hd hτ) (B+t.natAbs) t (fun v hv _=>by have:=hB v hv;omega)
theorem Valid.wnY_01 {z:Int→Int} (hz:ClosedC p z) (hw:∀ a∈p.arcs,z a.id≠0→(Hz p z (-a.id)=0∧Hz p z a.id=1)∨(Hz p z (-a.id)=1∧Hz p z a.id=0))
  {v:Pt} (nv:near1 v=true) (hoff:OffZ p z v):wnY p z v=0∨wnY p z v=1:=by
 obtain ⟨D,hD,hd⟩:=h.sep_D
 rw [h.wnY_bey hz hD hd nv hoff]
 exact h.bey_01 hz hw hD hd (h.off_free nv hoff) _
theorem Valid.hz_01 {z:Int→Int} (hz:ClosedC p z) (hw:∀ a∈p.arcs,z a.id≠0→(Hz p z (-a.id)=0∧Hz p z a.id=1)∨(Hz p z (-a.id)=1∧Hz p z a.id=0))
  {e:Int} (he:e∈dartsD p):Hz p z e=0∨Hz p z e=1:=by
 obtain ⟨a,ha,hor⟩:=mem_dartsD.1 he
 by_cases h0:z a.id=0
 ·
  obtain ⟨D,hD,hd⟩:=h.sep_D
  have hl:=pathS_length p a
  have hp:=h.Hz_pos hz ha
  have hk:0+1<(pathS p a).length:=by omega
  have hne:hY ((pathS p a).getD 0 pt0)≠hY ((pathS p a).getD (0+1) pt0):=fun e=>(h.distinct ha hk).1 (hY_inj (h.pt_near ha (by omega)) (h.pt_near ha hk) e)
  have b:=(h.bey_seg hz hD hd (FreeT.odd z (τ:=2*min (hY ((pathS p a).getD 0 pt0)) (hY ((pathS p a).getD (0+1) pt0))+1) (by omega)) ha hk (by omega)).1
  have c:=h.bey_01 hz hw hD hd (FreeT.odd z (τ:=2*min (hY ((pathS p a).getD 0 pt0)) (hY ((pathS p a).getD (0+1) pt0))+1) (by omega)) (xE D ((pathS p a).getD 0 pt0) ((pathS p a).getD (0+1) pt0) (2*min (hY ((pathS p a).getD 0 pt0)) (hY ((pathS p a).getD (0+1) pt0))+1))
  rw [b] at c
  rcases hor with rfl | rfl<;>split at c<;>omega
 ·
  have:=hw a ha h0
  rcases hor with rfl | rfl<;>omega
theorem Valid.outer_hz {X:List Int} (hX:X∈cyclesD p) (hp:0<arX p X) {r d:Int} (hr:r∈X) (hd:d∈dartsD p) (hs:slE p p.arcs.length d=slE p p.arcs.length r):Hz p (chX X) d=if d∈X then 1 else 0:=by
 have h2:=(h.cyc_nodup hX).2
 obtain ⟨d0,g1,g2,g3⟩:=h.top_dart (h2 r hr)
 have hz:=h.chX_closed hX
 have hn:=(h.cyc_sign hX hr g1 g2 g3).1 hp
 have supp:∀ a∈p.arcs,chX X a.id≠0→slE p p.arcs.length a.id=slE p p.arcs.length r:=by
  intro a ha hne
  have hma:a.id∈dartsD p:=mem_dartsD.2 ⟨a,ha,.inl rfl⟩
  by_cases c1:a.id∈X
  · exact h.cyc_class hX c1 hr
  ·
   by_cases c2:-a.id∈X
   · rw [← h.sl_dart hma];exact h.cyc_class hX c2 hr
   · exact absurd (by unfold chX;rw [if_neg c1,if_neg c2];rfl) hne
 have h0:=g3 _ hz supp
 have:=h.hz_class hX hd g1 (by rw [hs,g2])
 rw [h0,if_neg hn] at this
 omega
theorem Valid.chX_class {X:List Int} (hX:X∈cyclesD p) {r:Int} (hr:r∈X) {a:Ar} (ha:a∈p.arcs) (hne:chX X a.id≠0):slE p p.arcs.length a.id=slE p p.arcs.length r∧slE p p.arcs.length (-a.id)=slE p p.arcs.length r:=by
 have hma:a.id∈dartsD p:=mem_dartsD.2 ⟨a,ha,.inl rfl⟩
 have e:=h.sl_dart hma
 by_cases c1:a.id∈X
 ·
  have:=h.cyc_class hX c1 hr
  exact ⟨this,by rw [e];exact this⟩
 ·
  by_cases c2:-a.id∈X
  ·
   have:=h.cyc_class hX c2 hr
   exact ⟨by rw [← e];exact this,this⟩
  · exact absurd (by unfold chX;rw [if_neg c1,if_neg c2];rfl) hne
theorem Valid.outer_ok {X:List Int} (hX:X∈cyclesD p) (hp:0<arX p X):∀ a∈p.arcs,chX X a.id≠0→(Hz p (chX X) (-a.id)=0∧Hz p (chX X) a.id=1)∨(Hz p (chX X) (-a.id)=1∧Hz p (chX X) a.id=0):=by
 intro a ha hne
 obtain ⟨r,-,-,-,hr⟩:=h.cyc_form hX
 have hma:a.id∈dartsD p:=mem_dartsD.2 ⟨a,ha,.inl rfl⟩
 obtain ⟨s1,s2⟩:=h.chX_class hX hr ha hne
 rw [h.outer_hz hX hp hr hma s1,h.outer_hz hX hp hr (neg_dart hma) s2]
 unfold chX at hne
 by_cases c1:a.id∈X<;>by_cases c2:-a.id∈X<;>simp [c1,c2] at hne ⊢
theorem Valid.outer_far {X:List Int} (hX:X∈cyclesD p) (hp:0<arX p X) {r e:Int} (hr:r∈X) (he:e∈dartsD p) (hs:slE p p.arcs.length e≠slE p p.arcs.length r) :
  (Hz p (chX X) e=0∨Hz p (chX X) e=1)∧∀ d∈dartsD p,slE p p.arcs.length d=slE p p.arcs.length e→Hz p (chX X) d=Hz p (chX X) e:=by
 refine ⟨h.hz_01 (h.chX_closed hX) (h.outer_ok hX hp) he,fun d hd hde=>?_⟩
 have:=h.hz_class hX hd he hde
 have n1:e∉X:=fun c=>hs (h.cyc_class hX c hr)
 have n2:d∉X:=fun c=>hs (by rw [← hde];exact h.cyc_class hX c hr)
 rw [if_neg n1,if_neg n2] at this
 omega
theorem Valid.hz_add (z u:Int→Int) (d:Int):Hz p (fun i=>z i+u i) d=Hz p z d+Hz p u d:=wnS_addz p z u _
theorem Valid.hz_neg (z:Int→Int) (d:Int):Hz p (fun i=>-z i) d=-Hz p z d:=wnS_negz p z _
theorem Valid.hz_zero {z:Int→Int} (h0:∀ a∈p.arcs,z a.id=0) (d:Int):Hz p z d=0:=wnS_none fun a ha=>.inl (h0 a ha)
theorem Valid.not_all {z:Int→Int} (hz:ClosedC p z) (hne:∃ a∈p.arcs,z a.id≠0):∃ a∈p.arcs,z a.id≠0∧(Hz p z a.id=0∨Hz p z (-a.id)=0):=by
 obtain ⟨a,ha,hza⟩:=hne
 obtain ⟨D,hD,hd⟩:=h.sep_D
 have hl:=pathS_length p a
 have hk:0+1<(pathS p a).length:=by omega
 have hnq:hY ((pathS p a).getD 0 pt0)≠hY ((pathS p a).getD (0+1) pt0):=fun e=>(h.distinct ha hk).1 (hY_inj (h.pt_near ha (by omega)) (h.pt_near ha hk) e)
 obtain ⟨τ,hτ⟩:∃ τ,τ=2*min (hY ((pathS p a).getD 0 pt0)) (hY ((pathS p a).getD (0+1) pt0))+1:=⟨_,rfl⟩
 have hfr:FreeT p z τ:=FreeT.odd z (by omega)
 have hs0:sgH τ ((pathS p a).getD 0 pt0) ((pathS p a).getD (0+1) pt0)≠0:=by
  unfold sgH
  by_cases c:hY ((pathS p a).getD 0 pt0)<hY ((pathS p a).getD (0+1) pt0)
  · rw [if_pos (by omega),if_neg (by omega)];omega
  · rw [if_neg (by omega),if_pos (by omega)];omega
 have hmem:(xE D ((pathS p a).getD 0 pt0) ((pathS p a).getD (0+1) pt0) τ,z a.id*sgH τ ((pathS p a).getD 0 pt0) ((pathS p a).getD (0+1) pt0))∈itemsT p z D τ :=
  List.mem_flatMap.2 ⟨a,ha,List.mem_map.2 ⟨0,List.mem_range.2 (by omega),rfl⟩⟩
 obtain ⟨u,hu,hmax⟩:=max_of (fun u:Int×Int=>u.1) ((itemsT p z D τ).filter (fun u=>decide (u.2≠0))) (by
  intro e
  have:(xE D ((pathS p a).getD 0 pt0) ((pathS p a).getD (0+1) pt0) τ,z a.id*sgH τ ((pathS p a).getD 0 pt0) ((pathS p a).getD (0+1) pt0))∈(itemsT p z D τ).filter (fun u=>decide (u.2≠0)) :=
   List.mem_filter.2 ⟨hmem,by
    rw [decide_eq_true_eq]
    intro e
    rcases Int.mul_eq_zero.1 e with e | e
    · exact hza e
    · exact hs0 e⟩
  rw [e] at this
  cases this)
 rw [List.mem_filter,decide_eq_true_eq] at hu
 obtain ⟨hu,hu0⟩:=hu
 have hb0:beyS (itemsT p z D τ) u.1=0:=by
  refine sumZ _ _ fun v hv=>?_
  by_cases c:v.2=0
  · rw [c];split<;>rfl
  ·
   have:=hmax v (List.mem_filter.2 ⟨hv,by rw [decide_eq_true_eq];exact c⟩)
   rw [if_neg (by omega)]
 obtain ⟨c,hc,hu⟩:=List.mem_flatMap.1 hu
 obtain ⟨k,hk2,rfl⟩:=List.mem_map.1 hu
 have hk2:=List.mem_range.1 hk2
 simp only at hu0 hb0
 have hz0:z c.id≠0:=fun e=>hu0 (by rw [e,Int.zero_mul])
 have hs1:sgH τ ((pathS p c).getD k pt0) ((pathS p c).getD (k+1) pt0)≠0:=fun e=>hu0 (by rw [e,Int.mul_zero])
 have hsp:=sg_span (hfr c hc hz0 k (by omega)) (hfr c hc hz0 (k+1) (by omega)) hs1
 have b:=(h.bey_seg hz hD hd hfr hc (k:=k) (by omega) (by
  rcases hsp with ⟨g1,g2,-⟩ | ⟨g1,g2,-⟩
  · exact .inl ⟨g1,g2⟩
  · exact .inr ⟨g1,g2⟩)).1
 rw [hb0] at b
 refine ⟨c,hc,hz0,?_⟩
 split at b
 · exact .inr b.symm
 · exact .inl b.symm
end
end Go.Proofs.YtnhdmghgjngcaaaGreat
namespace Go.Proofs.YtnhdmghgjngcaaaGreat
open Go.RowKit

def pthD (p:Pl) (d:Int):List Pt:=match findAr p.arcs (absI d) with
 | some a=>pathS p a
 | none=>[]
def segL (P:List Pt):List (Pt×Pt):=(List.range (P.length-1)).map fun k=>(P.getD k pt0,P.getD (k+1) pt0)
def segX (p:Pl) (X:List Int):List (Pt×Pt):=X.flatMap fun d=>segL (pthD p d)
def pasE (v a b:Pt):Bool:=decide ((a.y≤v.y∧v.y<b.y∧0<tw a b v)∨(b.y≤v.y∧v.y<a.y∧tw a b v<0))
def encStep (v:Pt) (s:Bool×Bool) (q:Pt×Pt):Bool×Bool:=if onS q.1 q.2 v then (true,s.2) else if pasE v q.1 q.2 then (s.1,!s.2) else s
def encF (v:Pt) (l:List (Pt×Pt)):Bool×Bool:=l.foldl (encStep v) (false,false)
def encS (p:Pl) (X:List Int) (v:Pt):Bool:=(encF v (segX p X)).2 && !(encF v (segX p X)).1
theorem pasE_cr (v a b:Pt):pasE v a b=decide (crY v a b≠0):=by
 have t:tw b a v=-tw a b v:=by unfold tw;grind
 unfold pasE crY
 rw [t]
 by_cases c1:a.y≤v.y∧v.y<b.y∧0<tw a b v
 · rw [if_pos c1,decide_eq_true (.inl c1)];rfl
 ·
  rw [if_neg c1]
  by_cases c2:b.y≤v.y∧v.y<a.y∧tw a b v<0
  · rw [if_pos ⟨c2.1,c2.2.1,by omega⟩,decide_eq_true (.inr c2)];rfl
  · rw [if_neg (by omega),decide_eq_false (by rintro (h | h);exact c1 h;exact c2 h)];rfl
theorem encF_on (v:Pt):∀ (l:List (Pt×Pt)) (s:Bool×Bool),(l.foldl (encStep v) s).1=(s.1 || l.any fun q=>onS q.1 q.2 v)
 | [],s=>by simp
 | q::l,s=>by
  rw [List.foldl_cons,encF_on v l,List.any_cons]
  unfold encStep
  by_cases h:onS q.1 q.2 v=true
  · rw [if_pos h,h];simp
  ·
   rw [if_neg h]
   split<;>simp [h]
theorem encF_odd (v:Pt):∀ (l:List (Pt×Pt)) (s:Bool×Bool),(l.any fun q=>onS q.1 q.2 v)=false →
  (l.foldl (encStep v) s).2=(s.2 != decide ((l.map fun q=>if pasE v q.1 q.2 then (1:Int) else 0).sum % 2=1))
 | [],s,_=>by simp
 | q::l,s,h=>by
  rw [List.any_cons,Bool.or_eq_false_iff] at h
  rw [List.foldl_cons,encF_odd v l _ h.2,List.map_cons,List.sum_cons]
  unfold encStep
  rw [if_neg (by rw [h.1];decide)]
  generalize (l.map fun q=>if pasE v q.1 q.2 then (1:Int) else 0).sum=n
  cases hp:pasE v q.1 q.2
  · rw [if_neg (by decide),if_neg (by decide),Int.zero_add]
  ·
   rw [if_pos rfl,if_pos rfl]
   by_cases hn:n % 2=1
   · rw [decide_eq_true hn,decide_eq_false (by omega)];cases s.2<;>rfl
   · rw [decide_eq_false hn,decide_eq_true (by omega)];cases s.2<;>rfl
theorem encF_eq (v:Pt) (l:List (Pt×Pt)):((encF v l).2 && !(encF v l).1)=(!(l.any fun q=>onS q.1 q.2 v) && decide ((l.map fun q=>if pasE v q.1 q.2 then (1:Int) else 0).sum % 2=1)):=by
 unfold encF
 rw [encF_on]
 cases h:l.any fun q=>onS q.1 q.2 v
 · rw [encF_odd v l _ h];simp
 · simp
theorem sumMod {α:Type} (l:List α) (f g:α→Int) (h:∀ x∈l,f x % 2=g x % 2):(l.map f).sum % 2=(l.map g).sum % 2:=by
 induction l with
 | nil=>rfl
 | cons a l ih =>
  rw [List.map_cons,List.sum_cons,List.map_cons,List.sum_cons]
  have h1:=h a List.mem_cons_self
  have h2:=ih fun x hx=>h x (List.mem_cons_of_mem _ hx)
  omega
theorem onS_onP {a b v:Pt} (na:near1 a=true) (nb:near1 b=true) (nv:near1 v=true):onS a b v=true↔onP a b v:=by
 unfold onS onP
 have:nears [a,b,v]=true:=by simp [nears,na,nb,nv]
 rw [this]
 simp [and_assoc]
section
variable {p:Pl} (h:Valid p)
include h
theorem Valid.pth_dart {d:Int} (hd:d∈dartsD p):∃ a∈p.arcs,(d=a.id∨d=-a.id)∧pthD p d=pathS p a:=by
 obtain ⟨a,ha,e⟩:=mem_dartsD.1 hd
 have hid:=(h.id_pos ha).1
 refine ⟨a,ha,e,?_⟩
 unfold pthD
 have:absI d=a.id:=by unfold absI;rcases e with rfl | rfl<;>split<;>omega
 rw [this,h.find ha]
theorem Valid.seg_mem {X:List Int} (hX:∀ d∈X,d∈dartsD p) {q:Pt×Pt} (hq:q∈segX p X):∃ a∈p.arcs,(a.id∈X∨-a.id∈X)∧∃ k,k+1<(pathS p a).length∧q=((pathS p a).getD k pt0,(pathS p a).getD (k+1) pt0):=by
 obtain ⟨d,hd,hq⟩:=List.mem_flatMap.1 hq
 obtain ⟨a,ha,e,hp⟩:=h.pth_dart (hX d hd)
 rw [hp] at hq
 obtain ⟨k,hk,rfl⟩:=List.mem_map.1 hq
 have hk:=List.mem_range.1 hk
 refine ⟨a,ha,?_,k,by omega,rfl⟩
 rcases e with rfl | rfl
 · exact .inl hd
 · exact .inr hd
theorem Valid.mem_seg {X:List Int} {a:Ar} (ha:a∈p.arcs) (hm:a.id∈X∨-a.id∈X) {k:Nat} (hk:k+1<(pathS p a).length):((pathS p a).getD k pt0,(pathS p a).getD (k+1) pt0)∈segX p X:=by
 have hid:=(h.id_pos ha).1
 have e:∀ d,(d=a.id∨d=-a.id)→pthD p d=pathS p a:=fun d e=>by
  unfold pthD
  have:absI d=a.id:=by unfold absI;rcases e with rfl | rfl<;>split<;>omega
  rw [this,h.find ha]
 rcases hm with hm | hm
 · exact List.mem_flatMap.2 ⟨_,hm,by rw [e _ (.inl rfl)];exact List.mem_map.2 ⟨k,List.mem_range.2 (by omega),rfl⟩⟩
 · exact List.mem_flatMap.2 ⟨_,hm,by rw [e _ (.inr rfl)];exact List.mem_map.2 ⟨k,List.mem_range.2 (by omega),rfl⟩⟩
theorem Valid.pas_sum {X:List Int} (hX:X∈cyclesD p) (v:Pt):((segX p X).map fun q=>if pasE v q.1 q.2 then (1:Int) else 0).sum % 2=wnY p (chX X) v % 2:=by
 obtain ⟨-,h2⟩:=h.cyc_nodup hX
 have e1:((segX p X).map fun q=>if pasE v q.1 q.2 then (1:Int) else 0).sum=(X.map fun d=>stp (fun a b=>if pasE v a b then (1:Int) else 0) (pthD p d)).sum:=by
  unfold segX
  rw [List.map_flatMap,sumFl]
  refine sumC _ _ _ fun d _=>?_
  unfold segL stp
  rw [List.map_map]
  rfl
 rw [e1,h.sum_cyc hX]
 unfold wnY wnS
 refine sumMod _ _ _ fun a ha=>?_
 have hid:=(h.id_pos ha).1
 have p1:pthD p a.id=pathS p a:=by
  unfold pthD
  rw [show absI a.id=a.id by unfold absI;split<;>omega,h.find ha]
 have p2:pthD p (-a.id)=pathS p a:=by
  unfold pthD
  rw [show absI (-a.id)=a.id by unfold absI;split<;>omega,h.find ha]
 rw [p1,p2]
 have e:stp (fun a b=>if pasE v a b then (1:Int) else 0) (pathS p a) % 2=stp (crY v) (pathS p a) % 2:=by
  unfold stp
  refine sumMod _ _ _ fun k _=>?_
  show (if pasE v ((pathS p a).getD k pt0) ((pathS p a).getD (k+1) pt0)=true then (1:Int) else 0) % 2=_
  rw [pasE_cr]
  unfold crY
  split
  · rfl
  · split<;>rfl
 generalize stp (fun a b=>if pasE v a b then (1:Int) else 0) (pathS p a)=s at *
 generalize stp (crY v) (pathS p a)=t at *
 unfold chX
 by_cases c1:a.id∈X<;>by_cases c2:-a.id∈X<;>simp only [c1,c2,if_true,if_false]<;>omega
theorem Valid.enc_iff {X:List Int} (hX:X∈cyclesD p) (hp:0<arX p X) {v:Pt} (nv:near1 v=true) :
  encS p X v=true↔(∀ q∈segX p X,onS q.1 q.2 v=false)∧wnY p (chX X) v=1:=by
 obtain ⟨-,h2⟩:=h.cyc_nodup hX
 unfold encS
 rw [encF_eq,Bool.and_eq_true,decide_eq_true_eq,h.pas_sum hX,Bool.not_eq_true',List.any_eq_false]
 constructor
 ·
  rintro ⟨g1,g2⟩
  have g1':∀ q∈segX p X,onS q.1 q.2 v=false:=fun q hq=>by simpa using g1 q hq
  have hoff:OffZ p (chX X) v:=fun a ha hne k hk hon=>by
   have hm:a.id∈X∨-a.id∈X:=by
    by_cases c1:a.id∈X
    · exact .inl c1
    ·
     by_cases c2:-a.id∈X
     · exact .inr c2
     · exact absurd (by unfold chX;rw [if_neg c1,if_neg c2];rfl) hne
   have:=g1' _ (h.mem_seg ha hm hk)
   rw [(onS_onP (h.pt_near ha (by omega)) (h.pt_near ha hk) nv).2 hon] at this
   cases this
  have:=h.wnY_01 (h.chX_closed hX) (h.outer_ok hX hp) nv hoff
  exact ⟨g1',by omega⟩
 ·
  rintro ⟨g1,g2⟩
  exact ⟨fun q hq=>by rw [g1 q hq];decide,by rw [g2];rfl⟩
theorem Valid.off_of {X:List Int} {v:Pt} (nv:near1 v=true) (g:∀ q∈segX p X,onS q.1 q.2 v=false):OffZ p (chX X) v:=fun a ha hne k hk hon=>by
 have hm:a.id∈X∨-a.id∈X:=by
  by_cases c1:a.id∈X
  · exact .inl c1
  ·
   by_cases c2:-a.id∈X
   · exact .inr c2
   · exact absurd (by unfold chX;rw [if_neg c1,if_neg c2];rfl) hne
 have:=g _ (h.mem_seg ha hm hk)
 rw [(onS_onP (h.pt_near ha (by omega)) (h.pt_near ha hk) nv).2 hon] at this
 cases this
end
section
variable {α:Type} (E:α→Bool) (t:α→Int)
def bestStep (b:Option α) (x:α):Option α:=if (E x && (match b with | none=>true | some y=>decide (t x<t y)))=true then some x else b
def bestC (l:List α):Option α:=l.foldl (bestStep E t) none
theorem best_snoc (l:List α) (x:α):bestC E t (l++[x])=bestStep E t (bestC E t l) x:=by unfold bestC;rw [List.foldl_append];rfl
theorem snoc_ind {P:List α→Prop} (h0:P []) (h1:∀ l x,P l→P (l++[x])) (l:List α):P l:=by
 have:∀ k,k≤l.length→P (l.take k):=by
  intro k
  induction k with
  | zero=>intro _;exact h0
  | succ k ih=>intro hk;rw [List.take_succ_eq_append_getElem (show k<l.length by omega)];exact h1 _ _ (ih (by omega))
 have:=this l.length (Nat.le_refl _)
 rwa [List.take_length] at this
theorem best_facts (l:List α):match bestC E t l with
  | none=>∀ x∈l,E x=false
  | some x=>x∈l∧E x=true∧∀ y∈l,E y=true→t x≤t y:=by
 induction l using snoc_ind with
 | h0=>exact fun x hx=>by cases hx
 | h1 l x ih =>
  rw [best_snoc]
  unfold bestStep
  cases hb:bestC E t l with
  | none =>
   rw [hb] at ih
   simp only [Bool.and_true]
   by_cases hE:E x=true
   ·
    rw [if_pos hE]
    refine ⟨by simp,hE,fun y hy hEy=>?_⟩
    rcases List.mem_append.1 hy with hy | hy
    · rw [ih y hy] at hEy;cases hEy
    · rw [List.mem_singleton] at hy;subst hy;exact Int.le_refl _
   ·
    rw [if_neg hE]
    intro y hy
    rcases List.mem_append.1 hy with hy | hy
    · exact ih y hy
    · rw [List.mem_singleton] at hy;subst hy;simpa using hE
  | some z =>
   rw [hb] at ih
   simp only [Bool.and_eq_true,decide_eq_true_eq]
   by_cases hE:E x=true∧t x<t z
   ·
    rw [if_pos hE]
    refine ⟨by simp,hE.1,fun y hy hEy=>?_⟩
    rcases List.mem_append.1 hy with hy | hy
    · have:=ih.2.2 y hy hEy;omega
    · rw [List.mem_singleton] at hy;subst hy;exact Int.le_refl _
   ·
    rw [if_neg hE]
    refine ⟨List.mem_append_left _ ih.1,ih.2.1,fun y hy hEy=>?_⟩
    rcases List.mem_append.1 hy with hy | hy
    · exact ih.2.2 y hy hEy
    ·
     rw [List.mem_singleton] at hy;subst hy
     have:¬ t y<t z:=fun h=>hE ⟨hEy,h⟩
     omega
theorem best_some {l:List α} {x:α} (h:bestC E t l=some x):x∈l∧E x=true∧∀ y∈l,E y=true→t x≤t y:=by
 have:=best_facts E t l
 rw [h] at this
 exact this
end
end Go.Proofs.YtnhdmghgjngcaaaGreat
