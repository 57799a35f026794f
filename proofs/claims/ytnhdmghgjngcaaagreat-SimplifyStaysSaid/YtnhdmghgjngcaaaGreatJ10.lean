import Derived.Test.YtnhdmghgjngcaaaGreatJ09
set_option linter.unusedSimpArgs false
set_option linter.unusedVariables false
namespace Go.Proofs.YtnhdmghgjngcaaaGreat
open Go.RowKit

theorem dirLt_asym {o a b:Pt} (h:dirLt o a b):¬ dirLt o b a:=by
 unfold dirLt ltV at *
 rw [Int.mul_comm (b.x-o.x),Int.mul_comm (b.y-o.y)]
 rcases h with ⟨h1,h2⟩ | ⟨h1,h2⟩
 ·
  rintro (⟨h3,h4⟩ | ⟨h3,h4⟩)
  · exact h1 h4
  · exact h1 (h3.1 h2)
 ·
  rintro (⟨h3,h4⟩ | ⟨h3,h4⟩)
  · exact h3 (h1.1 h4)
  · omega
theorem dirLt_irr (o a:Pt):¬ dirLt o a a:=fun h=>dirLt_asym h h
def rtF (v u a b:Pt):Int:=cr1 a b v+(if a=v∧dirLt v b u then 1 else 0)-(if b=v∧dirLt v a u then 1 else 0)
def ltF (v u a b:Pt):Int:=cr1 a b v-(if a=v∧dirLt v u b then 1 else 0)+(if b=v∧dirLt v u a then 1 else 0)
def rtW (p:Pl) (z:Int→Int) (v u:Pt):Int:=wnS p z (rtF v u)
def ltW (p:Pl) (z:Int→Int) (v u:Pt):Int:=wnS p z (ltF v u)
theorem rtF_neg (v u a b:Pt):rtF v u b a=-rtF v u a b:=by unfold rtF;rw [cr1_neg];omega
theorem ltF_neg (v u a b:Pt):ltF v u b a=-ltF v u a b:=by unfold ltF;rw [cr1_neg];omega
def zD (z:Int→Int) (d:Int):Int:=if 0<d then z d else -z (-d)
def atF (φ:Pt→Int) (v a b:Pt):Int:=(if a=v then φ b else 0)-(if b=v then φ a else 0)
def ind (P:Prop) [Decidable P] : Int:=if P then 1 else 0
theorem lt_rt (v u w a b:Pt):ltF v u a b-rtF v w a b=-atF (fun x=>ind (dirLt v u x)+ind (dirLt v x w)) v a b:=by
 unfold ltF rtF atF ind
 by_cases h1:a=v<;>by_cases h2:b=v<;>simp only [h1,h2,true_and,false_and,if_true,if_false]<;>omega
theorem ltrt (p:Pl) (z:Int→Int) (v u w:Pt):ltW p z v u-rtW p z v w=-wnS p z (atF (fun x=>ind (dirLt v u x)+ind (dirLt v x w)) v):=by
 unfold ltW rtW
 rw [← wnS_sub,← wnS_neg]
 refine wnS_congr fun a _ k _=>lt_rt _ _ _ _ _
section
variable {p:Pl} (h:Valid p)
include h
theorem Valid.side_up {z:Int→Int} (hz:ClosedC p z) {c:Ar} (hc:c∈p.arcs) {m:Nat} (hm:m+1<(pathS p c).length) {s t:Pt}
  (he:(s=(pathS p c).getD m pt0∧t=(pathS p c).getD (m+1) pt0)∨(t=(pathS p c).getD m pt0∧s=(pathS p c).getD (m+1) pt0)) (hst:hY s<hY t):rtW p z s t=ltW p z t s:=by
 have hd:rtW p z s t-ltW p z t s=wnS p z (fun a b=>wnE s t b-wnE s t a):=by
  unfold ltW rtW
  rw [← wnS_sub]
  refine wnS_congr fun a ha k hk=>?_
  have na:=h.pt_near ha (k:=k) (by omega);have nb:=h.pt_near ha (k:=k+1) hk
  have n1:=h.pt_near hc (k:=m) (by omega);have n2:=h.pt_near hc (k:=m+1) hm
  have hne:=(h.distinct ha hk).1
  have NM:=fun h1 h2 h3 h4=>h.seg_NM ha hc hk hm h1 h2 h3 h4
  generalize (pathS p a).getD k pt0=x at *
  generalize (pathS p a).getD (k+1) pt0=y at *
  generalize (pathS p c).getD m pt0=e at *
  generalize (pathS p c).getD (m+1) pt0=f at *
  have ns:near1 s=true:=by rcases he with ⟨rfl,-⟩ | ⟨-,rfl⟩<;>assumption
  have nt:near1 t=true:=by rcases he with ⟨-,rfl⟩ | ⟨rfl,-⟩<;>assumption
  have NM2:x≠s→x≠t→y≠s→y≠t→NMt x y s t:=fun h1 h2 h3 h4=>by
   rcases he with ⟨rfl,rfl⟩ | ⟨rfl,rfl⟩
   · exact NM h1 h2 h3 h4
   · exact (NM h2 h1 h4 h3).comm.flip.comm
  rcases Int.lt_trichotomy (hY x) (hY y) with h1 | h1 | h1
  ·
   have:=edge_up na nb ns nt h1 hst NM2
   unfold rtF ltF
   omega
  · exact absurd (hY_inj na nb h1) hne
  ·
   have:=edge_up nb na ns nt h1 hst (fun h1 h2 h3 h4=>(NM2 h3 h4 h1 h2).flip)
   have e1:=rtF_neg s t x y;have e2:=ltF_neg t s x y
   unfold rtF at e1 ⊢
   unfold ltF at e2 ⊢
   omega
 rw [h.tele hz] at hd
 omega
theorem Valid.occ_inner {a:Ar} (ha:a∈p.arcs) {j:Nat} (h0:0<j) (hj:j+1<(pathS p a).length) {b:Ar} (hb:b∈p.arcs) {k:Nat} (hk:k<(pathS p b).length) (e:(pathS p b).getD k pt0=(pathS p a).getD j pt0):b=a∧k=j:=by
 have hla:=pathS_length p a;have hlb:=pathS_length p b
 obtain ⟨i,rfl⟩:∃ i,j=i+1:=⟨j-1,by omega⟩
 have hi:i<a.via.length:=by omega
 rw [path_mid p a i hi] at e
 have hk0:k≠0:=by
  rintro rfl
  obtain ⟨n,hn,-,e2⟩:=h.sound.at_fr hb
  rw [path_0,e2] at e
  exact h.via_node ha hi hn e.symm
 have hk1:k≠(pathS p b).length-1:=by
  rintro rfl
  obtain ⟨n,hn,-,e2⟩:=h.sound.at_dst hb
  rw [path_end,e2] at e
  exact h.via_node ha hi hn e.symm
 obtain ⟨l,rfl⟩:∃ l,k=l+1:=⟨k-1,by omega⟩
 have hl:l<b.via.length:=by omega
 rw [path_mid p b l hl] at e
 by_cases hab:b=a
 ·
  subst hab
  refine ⟨rfl,?_⟩
  rcases Nat.lt_trichotomy l i with h1 | h1 | h1
  · exact absurd e (h.via_same hb h1 hi)
  · omega
  · exact absurd e.symm (h.via_same hb h1 hl)
 ·
  exfalso
  have hpw:=h.via_other
  obtain ⟨x,hx,rfl⟩:=List.mem_iff_getElem.1 ha
  obtain ⟨y,hy,rfl⟩:=List.mem_iff_getElem.1 hb
  rw [List.pairwise_iff_getElem] at hpw
  rcases Nat.lt_trichotomy x y with h1 | h1 | h1
  · exact hpw x y hx hy h1 _ (List.getElem_mem hi) _ (List.getElem_mem hl) e.symm
  · subst h1;exact hab rfl
  · exact hpw y x hy hx h1 _ (List.getElem_mem hl) _ (List.getElem_mem hi) e
theorem Valid.node_pts {n m:Nd} (hn:n∈p.nodes) (hm:m∈p.nodes) (e:n.pt=m.pt):n=m:=by
 have hpw:=(dup_iff _).1 h.dup
 rw [List.pairwise_map,List.pairwise_iff_getElem] at hpw
 obtain ⟨i,hi,rfl⟩:=List.mem_iff_getElem.1 hn
 obtain ⟨j,hj,rfl⟩:=List.mem_iff_getElem.1 hm
 rcases Nat.lt_trichotomy i j with h1 | h1 | h1
 · exact absurd e (hpw i j hi hj h1)
 · subst h1;rfl
 · exact absurd e.symm (hpw j i hj hi h1)
theorem Valid.occ_node {n:Nd} (hn:n∈p.nodes) {b:Ar} (hb:b∈p.arcs) {k:Nat} (hk:k<(pathS p b).length) (e:(pathS p b).getD k pt0=n.pt):(k=0∧b.fr=n.id)∨(k=(pathS p b).length-1∧b.dst=n.id):=by
 have hlb:=pathS_length p b
 by_cases hk0:k=0
 ·
  subst hk0
  obtain ⟨m,hm,e1,e2⟩:=h.sound.at_fr hb
  rw [path_0,e2] at e
  left;exact ⟨rfl,by rw [← e1,h.node_pts hm hn e]⟩
 ·
  by_cases hk1:k=(pathS p b).length-1
  ·
   subst hk1
   obtain ⟨m,hm,e1,e2⟩:=h.sound.at_dst hb
   rw [path_end,e2] at e
   right;exact ⟨rfl,by rw [← e1,h.node_pts hm hn e]⟩
  ·
   exfalso
   obtain ⟨l,rfl⟩:∃ l,k=l+1:=⟨k-1,by omega⟩
   have hl:l<b.via.length:=by omega
   rw [path_mid p b l hl] at e
   exact h.via_node hb hl hn e
theorem Valid.at_inner (z:Int→Int) (φ:Pt→Int) {a:Ar} (ha:a∈p.arcs) {j:Nat} (h0:0<j) (hj:j+1<(pathS p a).length) :
  wnS p z (atF φ ((pathS p a).getD j pt0))=z a.id*(φ ((pathS p a).getD (j+1) pt0)-φ ((pathS p a).getD (j-1) pt0)):=by
 have key:∀ b∈p.arcs,stp (atF φ ((pathS p a).getD j pt0)) (pathS p b)=if b=a then φ ((pathS p a).getD (j+1) pt0)-φ ((pathS p a).getD (j-1) pt0) else 0:=by
  intro b hb
  unfold stp atF
  simp only [Int.sub_eq_add_neg]
  rw [sumA,sumN]
  rw [sumOne _ j _ (fun k hk hkj=>if_neg (fun e=>hkj (h.occ_inner ha h0 hj hb (by omega) e).2))]
  rw [sumOne _ (j-1) _ (fun k hk hkj=>if_neg (fun e=>hkj (by have:=(h.occ_inner ha h0 hj hb (by omega) e).2;omega)))]
  by_cases hab:b=a
  ·
   subst hab
   rw [if_pos rfl,if_pos (by omega),if_pos (by omega),if_pos rfl,show j-1+1=j by omega,if_pos rfl]
  ·
   rw [if_neg hab]
   have e1:∀ k,k<(pathS p b).length→¬ (pathS p b).getD k pt0=(pathS p a).getD j pt0:=fun k hk e=>hab (h.occ_inner ha h0 hj hb hk e).1
   by_cases h1:j<(pathS p b).length-1
   · rw [if_pos h1,if_neg (e1 j (by omega)),if_pos (by omega),if_neg (e1 (j-1+1) (by omega))];rfl
   ·
    rw [if_neg h1]
    by_cases h2:j-1<(pathS p b).length-1
    · rw [if_pos h2,if_neg (e1 (j-1+1) (by omega))];rfl
    · rw [if_neg h2];rfl
 unfold wnS
 rw [sumC _ _ (fun b:Ar=>if a.id=b.id then z b.id*(φ ((pathS p a).getD (j+1) pt0)-φ ((pathS p a).getD (j-1) pt0)) else 0) (fun b hb=>by
  rw [key b hb]
  by_cases hab:b=a
  · subst hab;rw [if_pos rfl,if_pos rfl]
  · rw [if_neg hab,if_neg (fun e=>hab (h.arc_eq hb ha e.symm)),Int.mul_zero])]
 exact sumH p.arcs (·.id) h.sound.arcs (fun i=>z i*(φ ((pathS p a).getD (j+1) pt0)-φ ((pathS p a).getD (j-1) pt0))) a.id ⟨a,ha,rfl⟩
theorem Valid.at_node (z:Int→Int) (φ:Pt→Int) {n:Nd} (hn:n∈p.nodes):wnS p z (atF φ n.pt)=((dartL p.arcs n.id).map fun d=>zD z d*φ (toD p d)).sum:=by
 have key:∀ b∈p.arcs,z b.id*stp (atF φ n.pt) (pathS p b)=(((if b.fr=n.id then [b.id] else [])++(if b.dst=n.id then [-b.id] else [])).map fun d=>zD z d*φ (toD p d)).sum:=by
  intro b hb
  have hlb:=pathS_length p b
  have hid:=h.id_pos hb
  have hfd:=h.find hb
  have t1:toD p b.id=(pathS p b).getD 1 pt0:=h.to_pos hb
  have t2:toD p (-b.id)=(pathS p b).getD b.via.length pt0:=h.to_neg hb
  have z1:zD z b.id=z b.id:=by unfold zD;rw [if_pos (by omega)]
  have z2:zD z (-b.id)=-z b.id:=by unfold zD;rw [if_neg (by omega),Int.neg_neg]
  have hs:stp (atF φ n.pt) (pathS p b)=(if b.fr=n.id then φ ((pathS p b).getD 1 pt0) else 0)-(if b.dst=n.id then φ ((pathS p b).getD b.via.length pt0) else 0):=by
   have f1:(pathS p b).getD 0 pt0=n.pt↔b.fr=n.id:=by
    constructor
    ·
     intro e
     rcases h.occ_node hn hb (by omega) e with ⟨-,e⟩ | ⟨e,-⟩
     · exact e
     · omega
    ·
     intro e
     rw [path_0,e];exact h.sound.node_eq hn
   have f2:(pathS p b).getD (b.via.length+1) pt0=n.pt↔b.dst=n.id:=by
    have e1:=path_end p b
    rw [hlb,show b.via.length+2-1=b.via.length+1 by omega] at e1
    constructor
    ·
     intro e
     rcases h.occ_node hn hb (by omega) e with ⟨e,-⟩ | ⟨-,e⟩
     · omega
     · exact e
    ·
     intro e
     rw [e1,e];exact h.sound.node_eq hn
   unfold stp atF
   simp only [Int.sub_eq_add_neg]
   rw [sumA,sumN]
   rw [sumOne _ 0 _ (fun k hk hkj=>if_neg (fun e=>by rcases h.occ_node hn hb (by omega) e with ⟨e,-⟩ | ⟨e,-⟩<;>omega))]
   rw [sumOne _ b.via.length _ (fun k hk hkj=>if_neg (fun e=>by rcases h.occ_node hn hb (by omega) e with ⟨e,-⟩ | ⟨e,-⟩<;>omega))]
   rw [if_pos (show 0<(pathS p b).length-1 by omega),if_pos (show b.via.length<(pathS p b).length-1 by omega)]
   simp only [f1,f2]
  rw [hs,List.map_append,List.sum_append]
  by_cases c1:b.fr=n.id<;>by_cases c2:b.dst=n.id<;>simp only [c1,c2,if_true,if_false,List.map_cons,List.map_nil,List.sum_cons,List.sum_nil,t1,t2,z1,z2]<;>grind
 unfold wnS dartL
 rw [sumC _ _ _ key]
 generalize p.arcs=l
 induction l with
 | nil=>rfl
 | cons b l ih=>rw [List.map_cons,List.sum_cons,List.flatMap_cons,ih];simp only [List.map_append,List.sum_append]
theorem Valid.node_zero {z:Int→Int} (hz:ClosedC p z) {n:Nd} (hn:n∈p.nodes):((dartL p.arcs n.id).map fun d=>zD z d).sum=0:=by
 have h1:=hz n hn
 have e:((dartL p.arcs n.id).map fun d=>zD z d).sum=-(p.arcs.map fun a=>z a.id*((if a.dst=n.id then 1 else 0)-(if a.fr=n.id then 1 else 0))).sum:=by
  have hid:∀ b∈p.arcs,1≤b.id:=fun b hb=>(h.id_pos hb).1
  unfold dartL
  generalize p.arcs=l at hid
  induction l with
  | nil=>rfl
  | cons b l ih =>
   have:=hid b (by simp)
   have z1:zD z b.id=z b.id:=by unfold zD;rw [if_pos (by omega)]
   have z2:zD z (-b.id)=-z b.id:=by unfold zD;rw [if_neg (by omega),Int.neg_neg]
   rw [List.map_cons,List.sum_cons,List.flatMap_cons,List.map_append,List.sum_append,ih (fun c hc=>hid c (by simp [hc]))]
   by_cases c1:b.fr=n.id<;>by_cases c2:b.dst=n.id<;>simp only [c1,c2,if_true,if_false,List.map_append,List.sum_append,List.map_cons,List.map_nil,List.sum_cons,List.sum_nil,z1,z2]<;>grind
 rw [e,h1];rfl
end
end Go.Proofs.YtnhdmghgjngcaaaGreat
namespace Go.Proofs.YtnhdmghgjngcaaaGreat
open Go.RowKit

theorem sumNd {l:List Int} (hl:l.Nodup) {d:Int} (hd:d∈l) (c:Int→Int):(l.map fun x=>if x=d then c x else 0).sum=c d:=by
 induction l with
 | nil=>cases hd
 | cons a l ih =>
  rw [List.nodup_cons] at hl
  rw [List.map_cons,List.sum_cons]
  rcases List.mem_cons.1 hd with rfl | hd
  · rw [if_pos rfl,sumZ l _ (fun x hx=>if_neg (by rintro rfl;exact hl.1 hx))];omega
  · rw [if_neg (by rintro rfl;exact hl.1 hd),ih hl.2 hd];omega
theorem zD_neg (z:Int→Int) {d:Int} (h:d≠0):zD z (-d)=-zD z d:=by
 unfold zD
 by_cases h1:0<d
 · rw [if_neg (by omega),if_pos h1,Int.neg_neg]
 · rw [if_pos (by omega),if_neg h1,Int.neg_neg]
theorem ind_self (o a:Pt):ind (dirLt o a a)=0:=if_neg (dirLt_irr o a)
theorem ind_one {o a b:Pt} (h:dirLt o a b∨dirLt o b a):ind (dirLt o a b)+ind (dirLt o b a)=1:=by
 unfold ind
 rcases h with h | h
 · rw [if_pos h,if_neg (dirLt_asym h)];rfl
 · rw [if_neg (dirLt_asym h),if_pos h];rfl
section
variable {p:Pl} (h:Valid p)
include h
theorem Valid.inner_dirs {a:Ar} (ha:a∈p.arcs) {k:Nat} (hk:k+2<(pathS p a).length):dirLt ((pathS p a).getD (k+1) pt0) ((pathS p a).getD k pt0) ((pathS p a).getD (k+2) pt0)∨dirLt ((pathS p a).getD (k+1) pt0) ((pathS p a).getD (k+2) pt0) ((pathS p a).getD k pt0):=by
 have d1:=(h.distinct ha (k:=k) (by omega)).1
 have d2:=(h.distinct ha (k:=k+1) (by omega)).1
 have n0:=h.pt_near ha (k:=k) (by omega)
 have n1:=h.pt_near ha (k:=k+1) (by omega)
 have n2:=h.pt_near ha (k:=k+2) (by omega)
 have hap:=h.segs.2.1 a ha k (k+1) (by omega) (by omega)
 unfold apartS at hap
 rw [if_pos (.inl rfl)] at hap
 unfold segK at hap
 simp only [beq_iff_eq] at hap
 generalize (pathS p a).getD k pt0=u at *
 generalize (pathS p a).getD (k+1) pt0=o at *
 rw [show k+1+1=k+2 by omega] at *
 generalize (pathS p a).getD (k+2) pt0=v at *
 apply Classical.byContradiction
 intro hno
 obtain ⟨-,r2,-,-⟩:=meet_dir n1 n0 n2 d1 (fun e=>d2 e.symm) (fun e=>hno (.inl e)) (fun e=>hno (.inr e))
 rw [r2] at hap
 exact absurd hap (by decide)
theorem Valid.jump_next (z:Int→Int) {a:Ar} (ha:a∈p.arcs) {k:Nat} (hk:k+2<(pathS p a).length):ltW p z ((pathS p a).getD (k+1) pt0) ((pathS p a).getD (k+2) pt0)-rtW p z ((pathS p a).getD (k+1) pt0) ((pathS p a).getD (k+2) pt0)=z a.id:=by
 rw [ltrt,h.at_inner z _ ha (j:=k+1) (by omega) hk,show k+1-1=k by omega,show k+1+1=k+2 by omega,ind_self,ind_one (h.inner_dirs ha hk).symm]
 grind
theorem Valid.jump_prev (z:Int→Int) {a:Ar} (ha:a∈p.arcs) {k:Nat} (hk:k+2<(pathS p a).length):ltW p z ((pathS p a).getD (k+1) pt0) ((pathS p a).getD k pt0)-rtW p z ((pathS p a).getD (k+1) pt0) ((pathS p a).getD k pt0)=-z a.id:=by
 rw [ltrt,h.at_inner z _ ha (j:=k+1) (by omega) hk,show k+1-1=k by omega,show k+1+1=k+2 by omega,ind_self,ind_one (h.inner_dirs ha hk)]
 grind
theorem Valid.turn_inner (z:Int→Int) {a:Ar} (ha:a∈p.arcs) {k:Nat} (hk:k+2<(pathS p a).length):ltW p z ((pathS p a).getD (k+1) pt0) ((pathS p a).getD k pt0)=rtW p z ((pathS p a).getD (k+1) pt0) ((pathS p a).getD (k+2) pt0):=by
 have e:=ltrt p z ((pathS p a).getD (k+1) pt0) ((pathS p a).getD k pt0) ((pathS p a).getD (k+2) pt0)
 rw [h.at_inner z _ ha (j:=k+1) (by omega) hk,show k+1-1=k by omega,show k+1+1=k+2 by omega,ind_self,ind_self,Int.add_zero,Int.zero_add,Int.sub_self,Int.mul_zero] at e
 omega
theorem Valid.jump_node {z:Int→Int} (hz:ClosedC p z) {n:Nd} (hn:n∈p.nodes) {d:Int} (hd:d∈dartL p.arcs n.id):ltW p z n.pt (toD p d)-rtW p z n.pt (toD p d)=zD z d:=by
 rw [ltrt,h.at_node z _ hn]
 have h0:=h.node_zero hz hn
 have h1:=sumNd (h.dartL_nodup (n:=n.id)) hd (fun x=>zD z x)
 have e:((dartL p.arcs n.id).map fun x=>zD z x*(ind (dirLt n.pt (toD p d) (toD p x))+ind (dirLt n.pt (toD p x) (toD p d)))).sum=((dartL p.arcs n.id).map fun x=>zD z x + -(if x=d then zD z x else 0)).sum:=by
  refine sumC _ _ _ fun x hx=>?_
  by_cases hxd:x=d
  ·
   subst hxd
   rw [ind_self,if_pos rfl];omega
  · rw [ind_one (h.dirs hn hd hx (fun e=>hxd e.symm)),if_neg hxd];omega
 rw [e,sumA,sumN,h0,h1]
 omega
theorem Valid.around_sorted {n:Nd} (hn:n∈p.nodes) {i j:Nat} (hij:i<j) (hj:j<(aroundD p n.id).length):dirLt n.pt (toD p ((aroundD p n.id)[i]'(by omega))) (toD p (aroundD p n.id)[j]):=by
 have hmem:∀ {x:Int},x∈aroundD p n.id→x∈dartL p.arcs n.id:=fun hx=>(h.around_perm hn).subset hx
 have hs:=(sortB_facts (h.ordOn hn)).2
 rw [← h.around_eq hn,List.pairwise_iff_getElem] at hs
 have h1:=hs i j (by omega) hj hij
 have hne:(aroundD p n.id)[i]≠(aroundD p n.id)[j]:=fun e=>by
  have hnd:=h.around_nodup hn
  rw [List.nodup_iff_pairwise_ne,List.pairwise_iff_getElem] at hnd
  exact hnd i j (by omega) hj hij e
 have m1:=hmem (List.getElem_mem (show i<(aroundD p n.id).length by omega));have m2:=hmem (List.getElem_mem hj)
 rcases h.dirs hn m1 m2 hne with h2 | h2
 · exact h2
 ·
  exfalso
  obtain ⟨n0,n1,x1⟩:=h.to_facts hn m1
  obtain ⟨-,n2,x2⟩:=h.to_facts hn m2
  unfold ltD at h1
  rw [(less_iff _ _ _).2 ⟨by simp [nears,n0,n1,n2],x2,x1,h2⟩] at h1
  cases h1
theorem Valid.turn_node {z:Int→Int} (hz:ClosedC p z) {n:Nd} (hn:n∈p.nodes) {d:Int} (hd:d∈aroundD p n.id):ltW p z n.pt (toD p (precD (aroundD p n.id) d))=rtW p z n.pt (toD p d):=by
 have hnd:=h.around_nodup hn
 have hp:=h.around_perm hn
 have hso:=fun {i j:Nat}=>h.around_sorted hn (i:=i) (j:=j)
 have e:=ltrt p z n.pt (toD p (precD (aroundD p n.id) d)) (toD p d)
 rw [h.at_node z _ hn] at e
 have h0:=h.node_zero hz hn
 obtain ⟨i,hi,rfl⟩:=List.mem_iff_getElem.1 hd
 rw [precD_at hnd hi] at e ⊢
 have hso2:∀ i j (hi:i<(aroundD p n.id).length) (hj:j<(aroundD p n.id).length),ind (dirLt n.pt (toD p (aroundD p n.id)[i]) (toD p (aroundD p n.id)[j]))=if i<j then 1 else 0:=by
  intro i j hi hj
  rcases Nat.lt_trichotomy i j with h1 | h1 | h1
  · rw [if_pos h1];exact if_pos (hso h1 hj)
  · subst h1;rw [if_neg (by omega)];exact ind_self _ _
  · rw [if_neg (by omega)];exact if_neg (dirLt_asym (hso h1 hi))
 have hc:∃ c:Int,∀ x∈dartL p.arcs n.id,ind (dirLt n.pt (toD p ((aroundD p n.id)[(i+(aroundD p n.id).length-1) % (aroundD p n.id).length]'(Nat.mod_lt _ (by omega)))) (toD p x))+ind (dirLt n.pt (toD p x) (toD p (aroundD p n.id)[i]))=c:=by
  by_cases h1:i=0
  ·
   refine ⟨0,fun x hx=>?_⟩
   obtain ⟨j,hj,rfl⟩:=List.mem_iff_getElem.1 (hp.symm.subset hx)
   have hm:(i+(aroundD p n.id).length-1) % (aroundD p n.id).length=(aroundD p n.id).length-1:=by rw [h1];rw [Nat.zero_add];exact Nat.mod_eq_of_lt (by omega)
   rw [hso2 _ _ (Nat.mod_lt _ (by omega)) hj,hso2 j i hj hi,if_neg (by omega),if_neg (by omega)];rfl
  ·
   refine ⟨1,fun x hx=>?_⟩
   obtain ⟨j,hj,rfl⟩:=List.mem_iff_getElem.1 (hp.symm.subset hx)
   have hm:(i+(aroundD p n.id).length-1) % (aroundD p n.id).length=i-1:=by rw [show i+(aroundD p n.id).length-1=i-1+(aroundD p n.id).length by omega,Nat.add_mod_right];exact Nat.mod_eq_of_lt (by omega)
   rw [hso2 _ _ (Nat.mod_lt _ (by omega)) hj,hso2 j i hj hi]
   by_cases h2:j<i
   · rw [if_neg (by omega),if_pos h2];rfl
   · rw [if_pos (by omega),if_neg h2];rfl
 obtain ⟨c,hc⟩:=hc
 rw [sumC _ _ (fun x=>c*zD z x) (fun x hx=>by rw [hc x hx,Int.mul_comm]),sumM,h0,Int.mul_zero] at e
 omega
theorem Valid.side_seg {z:Int→Int} (hz:ClosedC p z) {a:Ar} (ha:a∈p.arcs) {m:Nat} (hm:m+1<(pathS p a).length):rtW p z ((pathS p a).getD m pt0) ((pathS p a).getD (m+1) pt0)=ltW p z ((pathS p a).getD (m+1) pt0) ((pathS p a).getD m pt0):=by
 have hl:=pathS_length p a
 have hid:=(h.id_pos ha).1
 have hne:=(h.distinct ha hm).1
 have n1:=h.pt_near ha (k:=m) (by omega);have n2:=h.pt_near ha (k:=m+1) hm
 have j1:ltW p z ((pathS p a).getD m pt0) ((pathS p a).getD (m+1) pt0)-rtW p z ((pathS p a).getD m pt0) ((pathS p a).getD (m+1) pt0)=z a.id:=by
  by_cases h0:m=0
  ·
   subst h0
   obtain ⟨n,hn,e1,e2⟩:=h.sound.at_fr ha
   have:=h.jump_node hz hn (d:=a.id) (mem_dartL.2 ⟨a,ha,.inl ⟨rfl,e1.symm⟩⟩)
   rw [h.to_pos ha] at this
   rw [path_0,e2,this]
   unfold zD;rw [if_pos (by omega)]
  ·
   obtain ⟨k,rfl⟩:∃ k,m=k+1:=⟨m-1,by omega⟩
   exact h.jump_next z ha hm
 have j2:ltW p z ((pathS p a).getD (m+1) pt0) ((pathS p a).getD m pt0)-rtW p z ((pathS p a).getD (m+1) pt0) ((pathS p a).getD m pt0)=-z a.id:=by
  by_cases h0:m+1=(pathS p a).length-1
  ·
   obtain ⟨n,hn,e1,e2⟩:=h.sound.at_dst ha
   have:=h.jump_node hz hn (d:=-a.id) (mem_dartL.2 ⟨a,ha,.inr ⟨rfl,e1.symm⟩⟩)
   rw [h.to_neg ha,show a.via.length=m by omega] at this
   rw [h0,path_end,e2,this]
   unfold zD;rw [if_neg (by omega),Int.neg_neg]
  · exact h.jump_prev z ha (by omega)
 rcases Int.lt_trichotomy (hY ((pathS p a).getD m pt0)) (hY ((pathS p a).getD (m+1) pt0)) with h1 | h1 | h1
 · exact h.side_up hz ha hm (.inl ⟨rfl,rfl⟩) h1
 · exact absurd (hY_inj n1 n2 h1) hne
 ·
  have:=h.side_up hz ha hm (.inr ⟨rfl,rfl⟩) h1
  omega
theorem Valid.side_path {z:Int→Int} (hz:ClosedC p z) {a:Ar} (ha:a∈p.arcs):∀ (m:Nat),m+1<(pathS p a).length→rtW p z ((pathS p a).getD 0 pt0) ((pathS p a).getD 1 pt0)=ltW p z ((pathS p a).getD (m+1) pt0) ((pathS p a).getD m pt0)
 | 0,hm=>h.side_seg hz ha hm
 | m+1,hm=>by
  rw [Valid.side_path hz ha m (by omega),h.turn_inner z ha (k:=m) (by omega)]
  exact h.side_seg hz ha (m:=m+1) hm
end
def Hz (p:Pl) (z:Int→Int) (d:Int):Int:=ltW p z (nodeAt p (startD p d)) (toD p d)
section
variable {p:Pl} (h:Valid p)
include h
theorem Valid.Hz_pos {z:Int→Int} (hz:ClosedC p z) {a:Ar} (ha:a∈p.arcs):Hz p z a.id-Hz p z (-a.id)=z a.id:=by
 have hl:=pathS_length p a
 have hid:=(h.id_pos ha).1
 have h1:=h.side_path hz ha a.via.length (by omega)
 have h2:(pathS p a).getD (a.via.length+1) pt0=nodeAt p a.dst:=by
  have:=path_end p a
  rwa [hl,show a.via.length+2-1=a.via.length+1 by omega] at this
 unfold Hz
 rw [h.start_pos ha,h.start_neg ha,h.to_pos ha,h.to_neg ha]
 rw [h2,path_0] at h1
 obtain ⟨n,hn,e1,e2⟩:=h.sound.at_fr ha
 have:=h.jump_node hz hn (d:=a.id) (mem_dartL.2 ⟨a,ha,.inl ⟨rfl,e1.symm⟩⟩)
 rw [h.to_pos ha,← e2] at this
 unfold zD at this
 rw [if_pos (by omega)] at this
 omega
theorem Valid.dart_ne {d:Int} (hd:d∈dartsD p):d≠0:=by
 obtain ⟨a,ha,e⟩:=mem_dartsD.1 hd
 have:=h.id_pos ha
 omega
theorem Valid.Hz_jump {z:Int→Int} (hz:ClosedC p z) {d:Int} (hd:d∈dartsD p):Hz p z d-Hz p z (-d)=zD z d:=by
 obtain ⟨a,ha,e⟩:=mem_dartsD.1 hd
 have hid:=(h.id_pos ha).1
 have:=h.Hz_pos hz ha
 rcases e with rfl | rfl
 · rw [this];unfold zD;rw [if_pos (by omega)]
 · rw [Int.neg_neg];unfold zD;rw [if_neg (by omega),Int.neg_neg];omega
theorem Valid.Hz_next {z:Int→Int} (hz:ClosedC p z) {d:Int} (hd:d∈dartsD p):Hz p z (nextD p d)=Hz p z d:=by
 obtain ⟨n,hn,e1,hm,hx⟩:=h.next_eq hd
 have hs:=(h.next_mem hd).2
 have j:=h.jump_node hz hn ((h.around_perm hn).subset hm)
 have t:=h.turn_node hz hn hm
 have k:=h.Hz_jump hz hd
 have en:nodeAt p (startD p (-d))=n.pt:=by rw [← e1];exact h.sound.node_eq hn
 have z1:=zD_neg z (h.dart_ne hd)
 unfold Hz at k ⊢
 rw [hs,en,hx,t]
 rw [en] at k
 omega
end
end Go.Proofs.YtnhdmghgjngcaaaGreat
namespace Go.Proofs.YtnhdmghgjngcaaaGreat
open Go.RowKit
set_option linter.unusedSectionVars false

def mrg (r:Int→Int) (a b x:Int):Int:=if r x=r a then r b else r x
structure LabOn (U:List Int) (r:Int→Int):Prop where
 mem:∀ x∈U,r x∈U
 idem:∀ x∈U,r (r x)=r x
def cntR (U:List Int) (r:Int→Int):Nat:=(U.filter (fun x=>decide (r x=x))).length
theorem LabOn.mrg {U:List Int} {r:Int→Int} (h:LabOn U r) {a b:Int} (hb:b∈U):LabOn U (mrg r a b):=by
 constructor
 ·
  intro x hx
  unfold Go.Proofs.YtnhdmghgjngcaaaGreat.mrg
  split
  · exact h.mem b hb
  · exact h.mem x hx
 ·
  intro x hx
  unfold Go.Proofs.YtnhdmghgjngcaaaGreat.mrg
  by_cases e:r x=r a
  ·
   rw [if_pos e,h.idem b hb]
   split<;>rfl
  · rw [if_neg e,h.idem x hx,if_neg e]
def rtE (p:Pl) (k:Nat) (x:Int):Int:=pw (eulSt p k).1 x (p.arcs.length+1)
def treeA (p:Pl) (k:Nat) (a:Ar):Prop:=rtE p k a.fr≠rtE p k a.dst
instance (p:Pl) (k:Nat) (a:Ar):Decidable (treeA p k a):=by unfold treeA;infer_instance
section
variable {p:Pl} (h:Valid p)
include h
theorem Valid.rtE_succ {k:Nat} (hk:k<p.arcs.length):(rtE p (k+1)=if treeA p k p.arcs[k] then mrg (rtE p k) p.arcs[k].fr p.arcs[k].dst else rtE p k)∧(eulSt p (k+1)).2=(eulSt p k).2-(if treeA p k p.arcs[k] then 1 else 0):=by
 have ho:=eul_ok h k (by omega)
 by_cases ht:treeA p k p.arcs[k]
 ·
  rw [if_pos ht,if_pos ht]
  unfold treeA rtE at ht
  unfold rtE
  rw [eulSt_succ p k hk]
  unfold eulStep
  rw [if_neg ht]
  refine ⟨?_,rfl⟩
  have hr:∀ x,(eulSt p k).1 (pw (eulSt p k).1 x (p.arcs.length+1))=pw (eulSt p k).1 x (p.arcs.length+1):=ho.flat.more (by omega)
  obtain ⟨h1,h2⟩:=link_pw ho.flat (hr p.arcs[k].fr) (hr p.arcs[k].dst) ht
  funext x
  show pw (linkF _ _ _) x (p.arcs.length+1)=mrg _ _ _ x
  rw [h1.eq (M:=p.arcs.length+1) (by omega),h2 x]
  unfold mrg
  simp only
  rw [← ho.flat.eq (M:=p.arcs.length+1) (by omega) x]
 ·
  rw [if_neg ht,if_neg ht]
  unfold treeA rtE at ht
  unfold rtE
  rw [eulSt_succ p k hk]
  unfold eulStep
  rw [if_pos (Classical.byContradiction ht)]
  exact ⟨rfl,by omega⟩
theorem Valid.rtE_keep {k j:Nat} (hkj:k≤j) (hj:j≤p.arcs.length) {x y:Int} (e:rtE p k x=rtE p k y):rtE p j x=rtE p j y:=by
 induction j with
 | zero =>
  have:k=0:=by omega
  subst this
  exact e
 | succ j ih =>
  by_cases h1:k=j+1
  · subst h1;exact e
  ·
   have e2:=ih (by omega) (by omega)
   rw [(h.rtE_succ (k:=j) (by omega)).1]
   split
   · unfold mrg;rw [e2]
   · exact e2
theorem Valid.rtE_arc {k j:Nat} (hj:j<k) (hk:k≤p.arcs.length):rtE p k (p.arcs[j]'(by omega)).fr=rtE p k (p.arcs[j]'(by omega)).dst:=by
 refine h.rtE_keep (k:=j+1) (by omega) hk ?_
 rw [(h.rtE_succ (k:=j) (by omega)).1]
 split
 ·
  unfold mrg
  rw [if_pos rfl]
  split<;>rfl
 ·
  rename_i ht
  unfold treeA at ht
  exact Classical.byContradiction ht
end
def bdC (p:Pl) (c:Int→Int) (n:Int):Int:=(p.arcs.map fun a=>c a.id*((if a.dst=n then 1 else 0)-(if a.fr=n then 1 else 0))).sum
section
variable {p:Pl} (h:Valid p)
include h
theorem Valid.forest {g:Int→Int} (hg:ClosedC p g) (h0:∀ j (hj:j<p.arcs.length),¬ treeA p j p.arcs[j]→g p.arcs[j].id=0):∀ (k:Nat),k≤p.arcs.length→(∀ j (hj:j<p.arcs.length),k≤j→g p.arcs[j].id=0)→∀ j (hj:j<p.arcs.length),g p.arcs[j].id=0
 | 0,_,hz,j,hj=>hz j hj (by omega)
 | k+1,hk,hz,j,hj=>by
  refine Valid.forest hg h0 k (by omega) (fun j hj hkj=>?_) j hj
  by_cases hjk:j=k
  ·
   subst hjk
   by_cases ht:treeA p j p.arcs[j]
   ·
    have hs:=h.closed_sum hg (fun x=>if rtE p j x=rtE p j p.arcs[j].fr then 1 else 0)
    have e:(p.arcs.map fun a=>g a.id*((if rtE p j a.dst=rtE p j p.arcs[j].fr then (1:Int) else 0)-(if rtE p j a.fr=rtE p j p.arcs[j].fr then 1 else 0))).sum=(p.arcs.map fun a=>if p.arcs[j].id=a.id then -g a.id else 0).sum:=by
     refine sumC _ _ _ fun a ha=>?_
     obtain ⟨i,hi,rfl⟩:=List.mem_iff_getElem.1 ha
     rcases Nat.lt_trichotomy i j with h3 | h3 | h3
     ·
      have hne:¬ p.arcs[j].id=p.arcs[i].id:=fun e=>by
       have hpw:=h.sound.arcs
       rw [List.pairwise_map,List.pairwise_iff_getElem] at hpw
       have:=hpw i j hi hj h3;omega
      rw [if_neg hne,h.rtE_arc h3 (by omega),Int.sub_self,Int.mul_zero]
     ·
      subst h3
      rw [if_pos rfl,if_pos rfl]
      unfold treeA at ht
      rw [if_neg (fun e=>ht e.symm)];omega
     ·
      have hne:¬ p.arcs[j].id=p.arcs[i].id:=fun e=>by
       have hpw:=h.sound.arcs
       rw [List.pairwise_map,List.pairwise_iff_getElem] at hpw
       have:=hpw j i hj hi h3;omega
      rw [if_neg hne,hz i hi (by omega),Int.zero_mul]
    rw [e,sumH p.arcs (·.id) h.sound.arcs (fun i=>-g i) p.arcs[j].id ⟨_,List.getElem_mem hj,rfl⟩] at hs
    omega
   · exact h0 j hj ht
  · exact hz j hj (by omega)
end
end Go.Proofs.YtnhdmghgjngcaaaGreat
namespace Go.Proofs.YtnhdmghgjngcaaaGreat
open Go.RowKit
set_option linter.unusedSectionVars false

def headOf (L:List (List Int)) (d:Int):Int:=match L.find? (fun c=>decide (d∈c)) with
 | some c=>c.headD 0
 | none=>d
def slE (p:Pl):Nat→Int→Int
 | 0=>headOf (cyclesD p)
 | k+1=>match p.arcs[k]? with
  | some a=>if treeA p k a then slE p k else mrg (slE p k) a.id (-a.id)
  | none=>slE p k
theorem slE_succ {p:Pl} {k:Nat} (hk:k<p.arcs.length):slE p (k+1)=if treeA p k p.arcs[k] then slE p k else mrg (slE p k) p.arcs[k].id (-p.arcs[k].id):=by
 rw [slE,List.getElem?_eq_getElem hk]
section
variable {p:Pl} (h:Valid p)
include h
theorem Valid.cyc_one {c c':List Int} (hc:c∈cyclesD p) (hc':c'∈cyclesD p) {y:Int} (h1:y∈c) (h2:y∈c'):c=c':=by
 have hnd:=h.cyc.nodup
 rw [List.nodup_iff_pairwise_ne,List.pairwise_flatten] at hnd
 have hpw:=hnd.2
 rw [List.pairwise_iff_getElem] at hpw
 obtain ⟨i,hi,rfl⟩:=List.mem_iff_getElem.1 hc
 obtain ⟨j,hj,rfl⟩:=List.mem_iff_getElem.1 hc'
 rcases Nat.lt_trichotomy i j with h3 | h3 | h3
 · exact absurd rfl (hpw i j hi hj h3 _ h1 _ h2)
 · subst h3;rfl
 · exact absurd rfl (hpw j i hj hi h3 _ h2 _ h1)
theorem Valid.cyc_form {c:List Int} (hc:c∈cyclesD p):∃ x∈dartsD p,c=orb (nextD p) (dartsD p) x∧c.headD 0=x∧x∈c:=by
 obtain ⟨x,hx,e,-⟩:=h.cyc.orbs c hc
 have hf:=orb_facts (fun x hx=>(h.next_mem hx).1) (fun x hx y hy=>h.next_inj hx hy) hx
 refine ⟨x,hx,e,?_,by rw [e];exact head_orb hf.1⟩
 rw [e]
 unfold orb
 obtain ⟨m,hm⟩:∃ m,orbN (nextD p) (dartsD p) x=m+1:=⟨orbN (nextD p) (dartsD p) x-1,by have:=hf.1;omega⟩
 rw [hm]
 rfl
theorem Valid.head_of {d:Int} (hd:d∈dartsD p):∃ c∈cyclesD p,d∈c∧headOf (cyclesD p) d=c.headD 0:=by
 obtain ⟨c,hc,hdc⟩:=List.mem_flatten.1 (h.cyc.covers d hd)
 unfold headOf
 cases hf:(cyclesD p).find? (fun c=>decide (d∈c)) with
 | none =>
  have:=List.find?_eq_none.1 hf c hc
  simp [hdc] at this
 | some c' =>
  have h1:=List.find?_some hf
  exact ⟨c',List.mem_of_find?_eq_some hf,by simpa using h1,rfl⟩
theorem Valid.head_eq {c:List Int} (hc:c∈cyclesD p) {d:Int} (hd:d∈dartsD p) (hdc:d∈c):headOf (cyclesD p) d=c.headD 0:=by
 obtain ⟨c',h1,h2,h3⟩:=h.head_of hd
 rw [h3,h.cyc_one h1 hc h2 hdc]
theorem Valid.head_next {d:Int} (hd:d∈dartsD p):headOf (cyclesD p) (nextD p d)=headOf (cyclesD p) d:=by
 obtain ⟨c,h1,h2,h3⟩:=h.head_of hd
 obtain ⟨x,hx,e,-,-⟩:=h.cyc_form h1
 rw [h3]
 refine h.head_eq h1 (h.next_mem hd).1 ?_
 rw [e] at h2 ⊢
 exact (orb_closed (fun x hx=>(h.next_mem hx).1) (fun x hx y hy=>h.next_inj hx hy) hx hd).2 h2
theorem Valid.head_const {β:Type} (H:Int→β) (hH:∀ d∈dartsD p,H (nextD p d)=H d) {d:Int} (hd:d∈dartsD p):H (headOf (cyclesD p) d)=H d:=by
 obtain ⟨c,h1,h2,h3⟩:=h.head_of hd
 obtain ⟨x,hx,e,e2,-⟩:=h.cyc_form h1
 rw [h3,e2]
 rw [e] at h2
 obtain ⟨k,-,rfl⟩:=mem_iter.1 h2
 clear h1 h2 h3 e e2 hd
 induction k with
 | zero=>rfl
 | succ k ih =>
  show H x=H (nextD p (pw (nextD p) x k))
  rw [hH _ (pw_mem (fun x hx=>(h.next_mem hx).1) hx k)]
  exact ih
theorem Valid.head_lab:LabOn (dartsD p) (headOf (cyclesD p))∧cntR (dartsD p) (headOf (cyclesD p))=(cyclesD p).length:=by
 have hmem:∀ x∈dartsD p,headOf (cyclesD p) x∈dartsD p∧headOf (cyclesD p) (headOf (cyclesD p) x)=headOf (cyclesD p) x:=by
  intro d hd
  obtain ⟨c,h1,h2,h3⟩:=h.head_of hd
  obtain ⟨x,hx,e,e2,e3⟩:=h.cyc_form h1
  rw [h3,e2]
  exact ⟨hx,(h.head_eq h1 hx e3).trans e2⟩
 refine ⟨⟨fun x hx=>(hmem x hx).1,fun x hx=>(hmem x hx).2⟩,?_⟩
 have hnd:=h.cyc.nodup
 rw [List.nodup_iff_pairwise_ne,List.pairwise_flatten] at hnd
 have hL:((cyclesD p).map (fun c=>c.headD 0)).Nodup:=by
  rw [List.nodup_iff_pairwise_ne,List.pairwise_map]
  refine List.Pairwise.imp_of_mem (fun {c c'} h1 h2 h3=>?_) hnd.2
  obtain ⟨x,-,-,e2,e3⟩:=h.cyc_form h1
  obtain ⟨y,-,-,f2,f3⟩:=h.cyc_form h2
  rw [e2,f2]
  exact h3 _ e3 _ f3
 have h1:=nodup_le hL (m:=(dartsD p).filter (fun x=>decide (headOf (cyclesD p) x=x))) (fun y hy=>by
  obtain ⟨c,hc,rfl⟩:=List.mem_map.1 hy
  obtain ⟨x,hx,-,e2,e3⟩:=h.cyc_form hc
  rw [e2,List.mem_filter,decide_eq_true_eq]
  exact ⟨hx,(h.head_eq hc hx e3).trans e2⟩)
 have h2:=nodup_le (h.darts_nodup.filter (fun x=>decide (headOf (cyclesD p) x=x))) (m:=(cyclesD p).map (fun c=>c.headD 0)) (fun y hy=>by
  rw [List.mem_filter,decide_eq_true_eq] at hy
  obtain ⟨c,hc,-,e⟩:=h.head_of hy.1
  exact List.mem_map.2 ⟨c,hc,by rw [← e];exact hy.2⟩)
 rw [List.length_map] at h1 h2
 unfold cntR
 omega
theorem Valid.arc_darts {k:Nat} (hk:k<p.arcs.length):p.arcs[k].id∈dartsD p∧-p.arcs[k].id∈dartsD p :=
 ⟨mem_dartsD.2 ⟨_,List.getElem_mem hk,.inl rfl⟩,mem_dartsD.2 ⟨_,List.getElem_mem hk,.inr rfl⟩⟩
theorem Valid.slE_lab (k:Nat) (hk:k≤p.arcs.length):LabOn (dartsD p) (slE p k):=by
 induction k with
 | zero=>exact h.head_lab.1
 | succ k ih =>
  rw [slE_succ (k:=k) (by omega)]
  split
  · exact ih (by omega)
  · exact (ih (by omega)).mrg (h.arc_darts (by omega)).2
theorem Valid.slE_keep {k j:Nat} (hkj:k≤j) (hj:j≤p.arcs.length) {x y:Int} (e:slE p k x=slE p k y):slE p j x=slE p j y:=by
 induction j with
 | zero =>
  have:k=0:=by omega
  subst this
  exact e
 | succ j ih =>
  by_cases h1:k=j+1
  · subst h1;exact e
  ·
   have e2:=ih (by omega) (by omega)
   rw [slE_succ (k:=j) (by omega)]
   split
   · exact e2
   · unfold mrg;rw [e2]
theorem Valid.slE_const {β:Type} (H:Int→β) (hH:∀ d∈dartsD p,H (nextD p d)=H d) (k:Nat) (hk:k≤p.arcs.length) (h0:∀ j (hj:j<p.arcs.length),j<k→¬ treeA p j p.arcs[j]→H p.arcs[j].id=H (-p.arcs[j].id)):∀ d∈dartsD p,H (slE p k d)=H d:=by
 induction k with
 | zero=>exact fun d hd=>h.head_const H hH hd
 | succ k ih =>
  intro d hd
  have ih:=ih (by omega) (fun j hj hjk=>h0 j hj (by omega))
  rw [slE_succ (k:=k) (by omega)]
  split
  · exact ih d hd
  ·
   rename_i ht
   have hm:=h.arc_darts (k:=k) (by omega)
   unfold mrg
   split
   ·
    rename_i e
    rw [ih _ hm.2,← h0 k (by omega) (by omega) ht,← ih _ hm.1,← e,ih d hd]
   · exact ih d hd
end
end Go.Proofs.YtnhdmghgjngcaaaGreat
namespace Go.Proofs.YtnhdmghgjngcaaaGreat
open Go.RowKit
set_option linter.unusedSectionVars false

theorem prec_sum {L:List Int} (hL:L.Nodup) (f:Int→Int):(L.map fun d=>f (precD L d)).sum=(L.map f).sum:=by
 by_cases h0:L.length=0
 ·
  have:L=[]:=List.eq_nil_of_length_eq_zero h0
  subst this;rfl
 ·
  have e:L.map (precD L)=L[L.length-1]'(by omega)::L.take (L.length-1):=by
   refine List.ext_getElem (by simp;omega) fun i h1 h2=>?_
   rw [List.length_map] at h1
   rw [List.getElem_map,precD_at hL h1]
   cases i with
   | zero =>
    rw [List.getElem_cons_zero]
    congr 1
    rw [Nat.zero_add];exact Nat.mod_eq_of_lt (by omega)
   | succ i =>
    rw [List.getElem_cons_succ,List.getElem_take]
    congr 1
    rw [show i+1+L.length-1=i+L.length by omega,Nat.add_mod_right]
    exact Nat.mod_eq_of_lt (by omega)
  have e2:L.map f=(L.take (L.length-1)).map f++[f (L[L.length-1]'(by omega))]:=by
   conv=>lhs;rw [← List.take_append_drop (L.length-1) L]
   rw [List.map_append,List.drop_eq_getElem_cons (show L.length-1<L.length by omega),List.drop_eq_nil_of_le (by omega)]
   rfl
  rw [show (L.map fun d=>f (precD L d))=(L.map (precD L)).map f by rw [List.map_map];rfl,e,List.map_cons,List.sum_cons,e2,List.sum_append]
  simp only [List.sum_cons,List.sum_nil]
  omega
theorem perm_sum {l m:List Int} (h:l.Perm m):l.sum=m.sum:=by
 induction h with
 | nil=>rfl
 | cons x _ ih=>rw [List.sum_cons,List.sum_cons,ih]
 | swap x y l=>simp only [List.sum_cons];omega
 | trans _ _ h1 h2=>exact h1.trans h2
section
variable {p:Pl} (h:Valid p)
include h
theorem Valid.node_bd (z:Int→Int) (n:Int):((dartL p.arcs n).map fun d=>zD z d).sum=-bdC p z n:=by
 have hid:∀ b∈p.arcs,1≤b.id:=fun b hb=>(h.id_pos hb).1
 unfold dartL bdC
 generalize p.arcs=l at hid
 induction l with
 | nil=>rfl
 | cons b l ih =>
  have:=hid b (by simp)
  have z1:zD z b.id=z b.id:=by unfold zD;rw [if_pos (by omega)]
  have z2:zD z (-b.id)=-z b.id:=by unfold zD;rw [if_neg (by omega),Int.neg_neg]
  rw [List.map_cons,List.sum_cons,List.flatMap_cons,List.map_append,List.sum_append,ih (fun c hc=>hid c (by simp [hc]))]
  by_cases c1:b.fr=n<;>by_cases c2:b.dst=n<;>simp only [c1,c2,if_true,if_false,List.map_append,List.sum_append,List.map_cons,List.map_nil,List.sum_cons,List.sum_nil,z1,z2]<;>grind
theorem Valid.next_prec {n:Nd} (hn:n∈p.nodes) {d:Int} (hd:d∈aroundD p n.id):nextD p (-d)=precD (aroundD p n.id) d∧d∈dartsD p∧startD p d=n.id:=by
 obtain ⟨h1,h2⟩:=h.dartL_start ((h.around_perm hn).subset hd)
 obtain ⟨n',hn',e,hm,hx⟩:=h.next_eq (neg_dart h1)
 rw [Int.neg_neg] at e hm hx
 exact ⟨by rw [hx,e,h2],h1,h2⟩
theorem Valid.sl_next {d:Int} (hd:d∈dartsD p):slE p p.arcs.length (nextD p d)=slE p p.arcs.length d :=
 h.slE_keep (k:=0) (Nat.zero_le _) (Nat.le_refl _) (h.head_next hd)
theorem Valid.sl_arc {k:Nat} (hk:k<p.arcs.length) (ht:¬ treeA p k p.arcs[k]):slE p p.arcs.length p.arcs[k].id=slE p p.arcs.length (-p.arcs[k].id):=by
 refine h.slE_keep (k:=k+1) (by omega) (Nat.le_refl _) ?_
 rw [slE_succ hk,if_neg ht]
 unfold mrg
 rw [if_pos rfl]
 split<;>rfl
theorem Valid.sl_neg {k:Nat} (hk:k<p.arcs.length):slE p p.arcs.length p.arcs[k].id=slE p p.arcs.length (-p.arcs[k].id):=by
 obtain ⟨S,hS⟩:∃ S,slE p p.arcs.length=S:=⟨_,rfl⟩
 have hnx:=fun {d} (hd:d∈dartsD p)=>h.sl_next hd
 have har:=fun {k} (hk:k<p.arcs.length) ht=>h.sl_arc (k:=k) hk ht
 rw [hS] at hnx har ⊢
 obtain ⟨f,hf⟩:∃ f:Int→Int,f=fun d=>if S d=S p.arcs[k].id then 1 else 0:=⟨_,rfl⟩
 have hfn:∀ d∈dartsD p,f (nextD p d)=f d:=fun d hd=>by rw [hf];simp only [hnx hd]
 have hcl:ClosedC p (fun i=>f i-f (-i)):=by
  intro n hn
  show bdC p (fun i=>f i-f (-i)) n.id=0
  have hb:=h.node_bd (fun i=>f i-f (-i)) n.id
  have hp:=h.around_perm hn
  have e1:((dartL p.arcs n.id).map fun d=>zD (fun i=>f i-f (-i)) d).sum=((aroundD p n.id).map fun d=>f d + -f (precD (aroundD p n.id) d)).sum:=by
   rw [perm_sum (hp.symm.map _)]
   refine sumC _ _ _ fun d hd=>?_
   obtain ⟨g1,g2,-⟩:=h.next_prec hn hd
   rw [← g1,hfn _ (neg_dart g2)]
   unfold zD
   by_cases h0:0<d
   · rw [if_pos h0];show f d-f (-d)=_;omega
   · rw [if_neg h0];show -(f (-d)-f (- -d))=_;rw [Int.neg_neg];omega
  rw [e1,sumA,sumN,prec_sum (h.around_nodup hn) f] at hb
  omega
 have h0:=h.forest hcl (fun j hj ht=>by
  show f _-f _=0
  rw [hf];simp only [har hj ht];omega) p.arcs.length (Nat.le_refl _) (fun j hj hle=>by omega) k hk
 have h1:f p.arcs[k].id=1:=by rw [hf];exact if_pos rfl
 have h2:f (-p.arcs[k].id)=1:=by
  have h0':f p.arcs[k].id-f (-p.arcs[k].id)=0:=h0
  omega
 rw [hf] at h2
 have h2':(if S (-p.arcs[k].id)=S p.arcs[k].id then (1:Int) else 0)=1:=h2
 split at h2'
 · rename_i e;exact e.symm
 · omega
theorem Valid.sl_dart {d:Int} (hd:d∈dartsD p):slE p p.arcs.length (-d)=slE p p.arcs.length d:=by
 obtain ⟨a,ha,e⟩:=mem_dartsD.1 hd
 obtain ⟨k,hk,rfl⟩:=List.mem_iff_getElem.1 ha
 have:=h.sl_neg hk
 rcases e with rfl | rfl
 · exact this.symm
 · rw [Int.neg_neg];exact this
theorem Valid.sl_node {n:Nd} (hn:n∈p.nodes) {d e:Int} (hd:d∈aroundD p n.id) (he:e∈aroundD p n.id):slE p p.arcs.length d=slE p p.arcs.length e:=by
 have key:∀ i (hi:i<(aroundD p n.id).length),slE p p.arcs.length (aroundD p n.id)[i]=slE p p.arcs.length ((aroundD p n.id)[0]'(by omega)):=by
  intro i
  induction i with
  | zero=>intro _;rfl
  | succ i ih =>
   intro hi
   rw [← ih (by omega)]
   obtain ⟨g1,g2,-⟩:=h.next_prec hn (List.getElem_mem hi)
   have hm:(i+1+(aroundD p n.id).length-1) % (aroundD p n.id).length=i:=by
    rw [show i+1+(aroundD p n.id).length-1=i+(aroundD p n.id).length by omega,Nat.add_mod_right]
    exact Nat.mod_eq_of_lt (by omega)
   have e1:precD (aroundD p n.id) (aroundD p n.id)[i+1]=(aroundD p n.id)[i]:=by
    rw [precD_at (h.around_nodup hn) hi]
    congr 1
   rw [← e1,← g1,h.sl_next (neg_dart g2),h.sl_dart g2]
 obtain ⟨i,hi,rfl⟩:=List.mem_iff_getElem.1 hd
 obtain ⟨j,hj,rfl⟩:=List.mem_iff_getElem.1 he
 rw [key i hi,key j hj]
end
section
variable {p:Pl} (h:Valid p)
include h
end
end Go.Proofs.YtnhdmghgjngcaaaGreat
namespace Go.Proofs.YtnhdmghgjngcaaaGreat
open Go.RowKit

def xN (a b:Pt) (τ:Int):Int:=a.x*(2*hY b-τ)+b.x*(τ-2*hY a)
def sgH (τ:Int) (a b:Pt):Int:=(if τ<2*hY b then 1 else 0)-(if τ<2*hY a then 1 else 0)
def wR (s t:Pt) (τ:Int) (v:Pt):Int:=if hY s<hY v∧2*hY v<τ∧tw s t v<0 then 1 else 0
def dX (a b s t:Pt) (τ:Int):Int:=xN a b τ*(hY t-hY s)-xN s t τ*(hY b-hY a)
theorem xN_swap (a b:Pt) (τ:Int):xN b a τ=-xN a b τ:=by unfold xN;grind
theorem dX_s (a b s t:Pt):dX a b s t (2*hY s)=16777216*(hY t-hY s)*tw a b s:=by unfold dX xN tw hY;grind
theorem dX_t (a b s t:Pt):dX a b s t (2*hY t)=16777216*(hY t-hY s)*tw a b t:=by unfold dX xN tw hY;grind
theorem dX_a (a b s t:Pt):dX a b s t (2*hY a)=-(16777216*(hY b-hY a)*tw s t a):=by unfold dX xN tw hY;grind
theorem dX_b (a b s t:Pt):dX a b s t (2*hY b)=-(16777216*(hY b-hY a)*tw s t b):=by unfold dX xN tw hY;grind
theorem dX_lin (a b s t:Pt) (α τ β:Int):dX a b s t τ*(β-α)=dX a b s t α*(β-τ)+dX a b s t β*(τ-α):=by
 unfold dX xN
 generalize hY a=A;generalize hY b=B;generalize hY s=S;generalize hY t=T
 grind
theorem lin_sign {x y z p q:Int} (hp:0<p) (hq:0<q) (e:z*(p+q)=x*p+y*q) :
  (0<x→0≤y→0<z)∧(0≤x→0<y→0<z)∧(x≤0→y≤0→¬ 0<z):=by
 refine ⟨fun h1 h2=>?_,fun h1 h2=>?_,fun h1 h2 h3=>?_⟩
 ·
  have a1:=Int.mul_pos h1 hp
  have a2:=Int.mul_nonneg h2 (Int.le_of_lt hq)
  apply Classical.byContradiction
  intro h3
  have:=Int.mul_nonneg (show 0≤-z by omega) (show 0≤p+q by omega)
  rw [Int.neg_mul] at this
  omega
 ·
  have a1:=Int.mul_nonneg h1 (Int.le_of_lt hp)
  have a2:=Int.mul_pos h2 hq
  apply Classical.byContradiction
  intro h3
  have:=Int.mul_nonneg (show 0≤-z by omega) (show 0≤p+q by omega)
  rw [Int.neg_mul] at this
  omega
 ·
  have a1:=Int.mul_nonneg (show 0≤-x by omega) (Int.le_of_lt hp)
  have a2:=Int.mul_nonneg (show 0≤-y by omega) (Int.le_of_lt hq)
  have a3:=Int.mul_pos h3 (show 0<p+q by omega)
  rw [Int.neg_mul] at a1 a2
  omega
theorem sg_mul {c:Int} (hc:0<c) (u:Int):(0<16777216*c*u↔0<u)∧(0≤16777216*c*u↔0≤u)∧(16777216*c*u≤0↔u≤0):=by
 have h:0<16777216*c:=by omega
 generalize 16777216*c=k at *
 rcases Int.lt_trichotomy u 0 with h1 | h1 | h1
 · have:=Int.mul_neg_of_pos_of_neg h h1;omega
 · subst h1;simp
 · have:=Int.mul_pos h h1;omega
theorem dX_between {a b s t:Pt} {α τ β:Int} (h1:α<τ) (h2:τ<β) :
  (0<dX a b s t α→0≤dX a b s t β→0<dX a b s t τ)∧(0≤dX a b s t α→0<dX a b s t β→0<dX a b s t τ)∧(dX a b s t α≤0→dX a b s t β≤0→¬ 0<dX a b s t τ):=by
 have:=dX_lin a b s t α τ β
 rw [show β-α=(β-τ)+(τ-α) by omega] at this
 exact lin_sign (by omega) (by omega) this
theorem dkey {x y D:Int} (b:(0<x→0≤y→0<D)∧(0≤x→0<y→0<D)∧(x≤0→y≤0→¬ 0<D)) {P:Prop} (h:(P→0<x∧0≤y)∨(P→0≤x∧0<y)) (h2:¬ P→x≤0∧y≤0):0<D↔P:=by
 by_cases hp:P
 ·
  refine ⟨fun _=>hp,fun _=>?_⟩
  rcases h with h | h
  · exact b.1 (h hp).1 (h hp).2
  · exact b.2.1 (h hp).1 (h hp).2
 · exact ⟨fun hd=>absurd hd (b.2.2 (h2 hp).1 (h2 hp).2),fun h=>absurd h hp⟩
theorem mid_int {A B S T τ D:Int} {P1 P3 P4:Prop} [Decidable P1] [Decidable P3] [Decidable P4] (hab:A<B) (hA:2*A≠τ) (hB:2*B≠τ) (h1:2*S<τ) (h2:τ<2*T)
  (key1:A<S→τ<2*B→(0<D↔P1)) (key2:A=S→τ<2*B→(0<D↔P4)) (key3:S<A→2*A<τ→τ<2*B→(0<D↔P3))
  (g1:A<S→S<B→B<T→(P1↔P4)) (g3:S<A→B<T→(P3↔P4)) :
  (if 2*A<τ∧τ<2*B∧0<D then (1:Int) else 0)=(if A<S∧S<B∧P1 then 1 else 0)+(if A=S∧P4 then 1 else 0)-0+((if S<A∧2*A<τ∧P3 then 1 else 0)-(if S<B∧2*B<τ∧P4 then 1 else 0)):=by
 rcases Int.lt_trichotomy A S with c1 | c1 | c1
 ·
  have e1:¬ A=S:=by omega
  have e2:¬ S<A:=by omega
  have e3:2*A<τ:=by omega
  simp only [e1,e2,e3,c1,true_and,false_and,if_false]
  by_cases c2:2*B<τ
  ·
   have e4:¬ τ<2*B:=by omega
   simp only [c2,e4,true_and,false_and,if_false]
   by_cases c3:S<B
   ·
    have:=g1 c1 c3 (by omega)
    simp only [c3,this,true_and]
    omega
   · simp only [c3,false_and,if_false];rfl
  ·
   have e4:τ<2*B:=by omega
   have e5:S<B:=by omega
   have:=key1 c1 e4
   simp only [c2,e4,e5,this,true_and,false_and,and_false,if_false]
   omega
 ·
  have e1:¬ A<S:=by omega
  have e2:¬ S<A:=by omega
  have e3:2*A<τ:=by omega
  have e5:S<B:=by omega
  simp only [c1,e1,e2,e3,e5,Int.lt_irrefl,true_and,false_and,if_false,h1]
  by_cases c2:2*B<τ
  ·
   have e4:¬ τ<2*B:=by omega
   simp only [c2,e4,true_and,false_and,if_false]
   omega
  ·
   have e4:τ<2*B:=by omega
   have:=key2 c1 e4
   simp only [c2,e4,this,true_and,false_and,if_false]
   omega
 ·
  have e1:¬ A<S:=by omega
  have e2:¬ A=S:=by omega
  have e5:S<B:=by omega
  simp only [e1,e2,c1,e5,true_and,false_and,if_false]
  by_cases c3:2*A<τ
  ·
   by_cases c2:2*B<τ
   ·
    have e4:¬ τ<2*B:=by omega
    have:=g3 c1 (by omega)
    simp only [c2,c3,e4,this,true_and,false_and,if_false]
    omega
   ·
    have e4:τ<2*B:=by omega
    have:=key3 c1 c3 e4
    simp only [c2,c3,e4,this,true_and,false_and,if_false]
    omega
  ·
   have e4:¬ 2*B<τ:=by omega
   simp only [c3,e4,false_and,if_false]
   rfl
theorem edge_mid {a b s t:Pt} (na:near1 a=true) (nb:near1 b=true) (ns:near1 s=true) (nt:near1 t=true) (hab:hY a<hY b) (hst:hY s<hY t)
  (hno:a≠s→a≠t→b≠s→b≠t→NMt a b s t) {τ:Int} (hA:2*hY a≠τ) (hB:2*hY b≠τ) (h1:2*hY s<τ) (h2:τ<2*hY t) :
  (if 2*hY a<τ∧τ<2*hY b∧0<dX a b s t τ then 1 else 0)=rtF s t a b+(wR s t τ a-wR s t τ b):=by
 have d1:=dirLt_iff ns nb nt;have d2:=dirLt_iff ns na nt
 have q:∀ {u v:Pt},near1 u=true→near1 v=true→(u=v↔hY u=hY v):=fun hu hv=>⟨fun e=>by rw [e],hY_inj hu hv⟩
 have e1:tw s b t=-tw s t b:=tw_anti s t b
 have f1:hY a=hY s→tw a b s=0∧tw s t a=0:=fun h=>by
  have:=hY_inj na ns h
  subst this
  exact ⟨tw_aba a b,tw_aba a t⟩
 have f2:hY b=hY t→tw a b t=0∧tw s t b=0:=fun h=>by
  have:=hY_inj nb nt h
  subst this
  exact ⟨tw_abb a b,tw_abb s b⟩
 have f3:hY a≠hY s→hY a≠hY t→hY b≠hY s→hY b≠hY t→_:=fun h1 h2 h3 h4=>four_ways (s:=s) (t:=t) hab hst (hno (fun e=>h1 (by rw [e])) (fun e=>h2 (by rw [e])) (fun e=>h3 (by rw [e])) (fun e=>h4 (by rw [e])))
 have k1:(a=s∧dirLt s b t)↔(hY a=hY s∧tw s t b<0):=by rw [d1,q na ns,e1];constructor<;>(rintro ⟨h1,h2⟩;exact ⟨h1,by omega⟩)
 have k2:¬ (b=s∧dirLt s a t):=by rw [d2,q nb ns];rintro ⟨h1,h2⟩;omega
 have m1:cr1 a b s=if hY a<hY s∧hY s<hY b∧0<tw a b s then 1 else 0:=by unfold cr1;rw [if_neg (show ¬ (hY b<hY s∧hY s<hY a∧0<tw b a s) by omega)]
 have gS:=dX_s a b s t;have gT:=dX_t a b s t;have gA:=dX_a a b s t;have gB:=dX_b a b s t
 have bw:=fun (α β:Int) (g1:α<τ) (g2:τ<β)=>dX_between (a:=a) (b:=b) (s:=s) (t:=t) g1 g2
 unfold rtF
 rw [m1,if_neg k2]
 simp only [k1]
 unfold wR
 have sS:=sg_mul (show 0<hY t-hY s by omega) (tw a b s)
 have sT:=sg_mul (show 0<hY t-hY s by omega) (tw a b t)
 have sA:=sg_mul (show 0<hY b-hY a by omega) (tw s t a)
 have sB:=sg_mul (show 0<hY b-hY a by omega) (tw s t b)
 have bSB:=bw (2*hY s) (2*hY b);have bST:=bw (2*hY s) (2*hY t);have bAB:=bw (2*hY a) (2*hY b);have bAT:=bw (2*hY a) (2*hY t)
 rw [gS,gB] at bSB;rw [gS,gT] at bST;rw [gA,gB] at bAB;rw [gA,gT] at bAT
 clear hno d1 d2 e1 q na nb ns nt k1 k2 m1 gS gT gA gB bw
 generalize dX a b s t τ=D at *
 generalize 16777216*(hY t-hY s)*tw a b s=vS at *
 generalize 16777216*(hY t-hY s)*tw a b t=vT at *
 generalize 16777216*(hY b-hY a)*tw s t a=vA at *
 generalize 16777216*(hY b-hY a)*tw s t b=vB at *
 generalize tw a b s=u1 at *
 generalize tw a b t=u2 at *
 generalize tw s t a=u3 at *
 generalize tw s t b=u4 at *
 generalize hY a=A at *
 generalize hY b=B at *
 generalize hY s=S at *
 generalize hY t=T at *
 refine mid_int hab hA hB h1 h2 (fun c1 c2=>?_) (fun c1 c2=>?_) (fun c1 c3 c2=>?_) (fun c1 c2 c3=>?_) (fun c1 c2=>?_)
 ·
  rcases Int.lt_trichotomy B T with c4 | c4 | c4
  ·
   have f3:=(f3 (by omega) (by omega) (by omega) (by omega)).1 c1 (by omega) c4
   clear f1 f2 bAB bAT bST sA sT
   exact dkey (bSB h1 c2) (.inl fun hp=>⟨sS.1.2 hp,by omega⟩) (fun hp=>⟨by omega,by omega⟩)
  ·
   obtain ⟨g1,g2⟩:=f2 c4
   clear f1 f2 f3 bAB bAT bSB sA sB
   exact dkey (bST h1 h2) (.inl fun hp=>⟨sS.1.2 hp,by omega⟩) (fun hp=>⟨by omega,by omega⟩)
  ·
   have f3:=(f3 (by omega) (by omega) (by omega) (by omega)).2.1 c1 c4
   clear f1 f2 bAB bAT bSB sA sB
   exact dkey (bST h1 h2) (.inl fun hp=>⟨sS.1.2 hp,by omega⟩) (fun hp=>⟨by omega,by omega⟩)
 ·
  obtain ⟨g1,g2⟩:=f1 c1
  clear f1 f2 f3 bAB bAT bST sA sT
  exact dkey (bSB h1 c2) (.inr fun hp=>⟨by omega,by omega⟩) (fun hp=>⟨by omega,by omega⟩)
 ·
  rcases Int.lt_trichotomy B T with c4 | c4 | c4
  ·
   have f3:=(f3 (by omega) (by omega) (by omega) (by omega)).2.2.1 c1 c4
   clear f1 f2 bST bAT bSB sS sT
   exact dkey (bAB c3 c2) (.inl fun hp=>⟨by omega,by omega⟩) (fun hp=>⟨by omega,by omega⟩)
  ·
   obtain ⟨g1,g2⟩:=f2 c4
   clear f1 f2 f3 bST bAT bSB sS sT
   exact dkey (bAB c3 c2) (.inl fun hp=>⟨by omega,by omega⟩) (fun hp=>⟨by omega,by omega⟩)
  ·
   have f3:=(f3 (by omega) (by omega) (by omega) (by omega)).2.2.2 c1 (by omega) c4
   clear f1 f2 bST bAB bSB sS sB
   exact dkey (bAT c3 h2) (.inl fun hp=>⟨by omega,by omega⟩) (fun hp=>⟨by omega,by omega⟩)
 · exact (f3 (by omega) (by omega) (by omega) (by omega)).1 c1 c2 c3
 · exact (f3 (by omega) (by omega) (by omega) (by omega)).2.2.1 c1 c2
end Go.Proofs.YtnhdmghgjngcaaaGreat
