import Derived.Test.YtnhdmghgjngcaaaGreatJ38
import Derived.Test.YtnhdmghgjngcaaaGreatJ34
import Derived.Test.YtnhdmghgjngcaaaGreatJ04
set_option linter.unusedSimpArgs false
set_option linter.unusedVariables false
namespace Go.Proofs.YtnhdmghgjngcaaaGreat
open Go.RowKit
set_option linter.unusedSectionVars false

theorem sum_at {f:Int→Int} {x:Int}:∀ {l:List Int},l.Nodup→(l.map fun d=>if d=x then f d else 0).sum=if x∈l then f x else 0
 | [],_=>by simp
 | d::l,h=>by
  obtain ⟨h1,h2⟩:=List.nodup_cons.1 h
  rw [List.map_cons,List.sum_cons,sum_at h2]
  by_cases e:d=x
  ·
   subst e
   rw [if_pos rfl,if_neg h1,if_pos List.mem_cons_self];omega
  ·
   rw [if_neg e]
   by_cases g:x∈l
   · rw [if_pos g,if_pos (List.mem_cons_of_mem _ g)];omega
   · rw [if_neg g,if_neg (fun q=>by rcases List.mem_cons.1 q with q | q;exact e q.symm;exact g q)];omega
theorem ltF_sub (v u w a b:Pt):ltF v w a b=ltF v u a b-atF (fun x=>ind (dirLt v w x)-ind (dirLt v u x)) v a b:=by
 unfold ltF atF ind
 by_cases ha:a=v<;>by_cases hb:b=v<;>simp only [ha,hb,true_and,false_and,if_true,if_false]<;>omega
theorem best_iso {α:Type} {E E':α→Bool} {t t':α→Int} {l:List α} (h:∀ x∈l,E x=E' x) (ho:∀ x∈l,∀ y∈l,E x=true→E y=true→(t x<t y↔t' x<t' y)):bestC E t l=bestC E' t' l:=by
 induction l using snoc_ind with
 | h0=>rfl
 | h1 l x ih =>
  have ih:=ih (fun y hy=>h y (List.mem_append_left _ hy)) (fun y hy z hz=>ho y (List.mem_append_left _ hy) z (List.mem_append_left _ hz))
  have hx:=List.mem_append_right l (List.mem_cons_self (a:=x) (l:=[]))
  rw [best_snoc,best_snoc,ih]
  unfold bestStep
  have e1:=h x hx
  cases hb:bestC E' t' l with
  | none=>simp only [e1]
  | some y =>
   obtain ⟨hy,hEy,-⟩:=best_some E' t' hb
   have hyl:=List.mem_append_left [x] hy
   have hEy':E y=true:=by rw [h y hyl];exact hEy
   cases hEx:E x
   · rw [← e1,hEx];rfl
   ·
    have:=ho x hx y hyl hEx hEy'
    rw [← e1,hEx]
    simp only [Bool.true_and,this]
theorem Valid.off_iff {p:Pl} (h:Valid p) {X:List Int} (hX:∀ d∈X,d∈dartsD p) {v:Pt}:(∀ s∈segX p X,onS s.1 s.2 v=false)↔∀ b∈p.arcs,(b.id∈X∨-b.id∈X)→∀ j,j+1<(pathS p b).length→onS ((pathS p b).getD j pt0) ((pathS p b).getD (j+1) pt0) v=false:=by
 constructor
 ·
  intro g b hb hm j hj
  exact g ((pathS p b).getD j pt0,(pathS p b).getD (j+1) pt0) (h.mem_seg hb hm hj)
 ·
  intro g s hs
  obtain ⟨b,hb,hm,j,hj,e⟩:=h.seg_mem hX hs
  rw [e]
  exact g b hb hm j hj
theorem Valid.arnd_iff {p:Pl} (h:Valid p) {Z Y:List Int} (hZ:Z∈outX p) (hY':Y∈cyclesD p) (hne:Z≠Y):arnd p Z Y=decide (Hz p (chX Z) (Y.headD 0)=1):=by
 obtain ⟨hZc,hZp⟩:=mem_outX.1 hZ
 have hy:=h.head_in hY'
 unfold arnd
 by_cases e:slE p p.arcs.length (Z.headD 0)=slE p p.arcs.length (Y.headD 0)
 ·
  have h1:=h.outer_hz hZc hZp (h.head_in hZc) ((h.cyc_nodup hY').2 _ hy) e.symm
  rw [if_neg (fun g=>hne (h.cyc_one hZc hY' g hy))] at h1
  rw [h1]
  simp [e]
 · rw [decide_eq_true (show slE p p.arcs.length (Z.headD 0)≠slE p p.arcs.length (Y.headD 0) from e),Bool.true_and]
theorem Valid.enc_order {p:Pl} (h:Valid p) {X Z:List Int} (hX:X∈outX p) (hZ:Z∈outX p) (hne:X≠Z) {v:Pt} (nv:near1 v=true) (eX:encS p X v=true) (eZ:encS p Z v=true) :
  arX p X<arX p Z↔arnd p Z X=true:=by
 obtain ⟨hXc,hXp⟩:=mem_outX.1 hX
 obtain ⟨hZc,hZp⟩:=mem_outX.1 hZ
 obtain ⟨g1,g2⟩:=(h.enc_iff hXc hXp nv).1 eX
 obtain ⟨g3,g4⟩:=(h.enc_iff hZc hZp nv).1 eZ
 have oX:=h.off_of nv g1
 have oZ:=h.off_of nv g3
 rcases h.pair_cases hX hZ hne with ⟨hw,-,-⟩ | ⟨-,h1,-,h3⟩ | ⟨-,h1,h2,-⟩
 ·
  exfalso
  have offS:OffZ p (fun i=>chX X i+chX Z i) v:=fun a ha hne k hk=>by
   have hne:chX X a.id+chX Z a.id≠0:=hne
   by_cases c:chX X a.id=0
   · exact oZ a ha (by omega) k hk
   · exact oX a ha c k hk
  have wS:wnY p (fun i=>chX X i+chX Z i) v=2:=by unfold wnY at *;rw [wnS_addz,g2,g4];rfl
  have:=h.wnY_01 ((h.chX_closed hXc).add (h.chX_closed hZc)) hw nv offS
  omega
 ·
  rw [h3]
  constructor
  · intro g;omega
  · intro g;cases g
 · exact ⟨fun _=>h2,fun _=>h1⟩
section
variable {p:Pl} (h:Valid p) {a:Ar} (ha:a∈p.arcs) {k:Nat} (hk:k<a.via.length) (hf:FreeAt p a k)
include h ha hk hf
theorem Valid.cut_wnG (f:Pt→Pt→Int) (z:Int→Int):wnS (dropV p a.id k) z f=wnS p z f+z a.id*(f ((pathS p a).getD k pt0) ((pathS p a).getD (k+2) pt0)-f ((pathS p a).getD k pt0) ((pathS p a).getD (k+1) pt0)-f ((pathS p a).getD (k+1) pt0) ((pathS p a).getD (k+2) pt0)):=by
 have hl:=pathS_length p a
 have e:=sumH p.arcs (fun b=>b.id) h.sound.arcs (fun i=>z i*(f ((pathS p a).getD k pt0) ((pathS p a).getD (k+2) pt0)-f ((pathS p a).getD k pt0) ((pathS p a).getD (k+1) pt0)-f ((pathS p a).getD (k+1) pt0) ((pathS p a).getD (k+2) pt0))) a.id ⟨a,ha,rfl⟩
 rw [← e]
 unfold wnS
 rw [h.cut_arcs ha hk,List.map_map,← sumA]
 refine sumC _ _ _ fun b hb=>?_
 show z (thnG a.id k b).id*stp f (pathS (dropV p a.id k) (thnG a.id k b))=_
 rw [thnG_id,h.cut_at ha hk hb]
 by_cases g:b=a
 ·
  subst g
  rw [if_pos rfl,if_pos rfl,path_cut p b hk,stp_erase f (by omega),← Int.mul_add]
  congr 1
  omega
 ·
  rw [if_neg g,if_neg (fun q=>g (h.arc_eq hb ha q.symm)),Int.add_zero]
  rfl
theorem Valid.cut_closed {z:Int→Int} (hz:ClosedC p z):ClosedC (dropV p a.id k) z:=by
 intro n hn
 have:=hz n hn
 rw [h.cut_arcs ha hk,List.map_map]
 refine Eq.trans (sumC _ _ _ fun b _=>?_) this
 obtain ⟨e1,e2,-⟩:=thnG_fr a.id k b
 show z (thnG a.id k b).id*((if (thnG a.id k b).dst=n.id then 1 else 0)-(if (thnG a.id k b).fr=n.id then 1 else 0))=_
 rw [thnG_id,e1,e2]
theorem Valid.cut_Hz0 (hk0:k=0) {z:Int→Int} (hz:ClosedC p z):Hz (dropV p a.id k) z a.id=Hz p z a.id:=by
 have hl:=pathS_length p a
 have hq:=h.cut ha hk hf
 have hpos:=(h.id_pos ha).1
 obtain ⟨n1,n2,n3⟩:=h.fr_ne ha hk hf
 obtain ⟨n,hn,e1,e2⟩:=h.sound.at_fr ha
 have ma:a.id∈dartsD p:=mem_dartsD.2 ⟨a,ha,.inl rfl⟩
 have mL:a.id∈dartL p.arcs n.id:=mem_dartL.2 ⟨a,ha,.inl ⟨rfl,e1.symm⟩⟩
 have eA:n.pt=(pathS p a).getD k pt0:=by rw [hk0,path_0,e2]
 have tp:toD p a.id=(pathS p a).getD (k+1) pt0:=by rw [h.to_pos ha,hk0]
 have tq:toD (dropV p a.id k) a.id=(pathS p a).getD (k+2) pt0:=by rw [h.cut_to ha hk hf ma,if_pos ⟨rfl,hk0⟩]
 have vp:Hz p z a.id=wnS p z (ltF n.pt ((pathS p a).getD (k+1) pt0)):=by
  unfold Hz ltW
  rw [h.start_pos ha,e2,tp]
 have vq:Hz (dropV p a.id k) z a.id=wnS (dropV p a.id k) z (ltF n.pt ((pathS p a).getD (k+2) pt0)):=by
  unfold Hz ltW
  rw [h.cut_start ha hk hf,h.start_pos ha,tq]
  show wnS _ z (ltF (nodeAt p a.fr) _)=_
  rw [e2]
 rw [vp,vq,h.cut_wnG ha hk hf]
 obtain ⟨φ,hφ⟩:∃ φ:Pt→Int,φ=fun x=>ind (dirLt n.pt ((pathS p a).getD (k+2) pt0) x)-ind (dirLt n.pt ((pathS p a).getD (k+1) pt0) x):=⟨_,rfl⟩
 have s1:wnS p z (ltF n.pt ((pathS p a).getD (k+2) pt0))=wnS p z (ltF n.pt ((pathS p a).getD (k+1) pt0))-wnS p z (atF φ n.pt):=by
  rw [← wnS_sub]
  congr 1
  funext x y
  rw [hφ]
  exact ltF_sub _ _ _ _ _
 obtain ⟨c,hc⟩:∃ c,cr1 ((pathS p a).getD (k+1) pt0) ((pathS p a).getD (k+2) pt0) n.pt=c:=⟨_,rfl⟩
 obtain ⟨ι,hι⟩:∃ ι,ind (dirLt n.pt ((pathS p a).getD (k+2) pt0) ((pathS p a).getD (k+1) pt0))=ι:=⟨_,rfl⟩
 have φ0:φ (toD p a.id)=ι:=by
  rw [hφ,tp]
  simp only
  rw [hι]
  have:ind (dirLt n.pt ((pathS p a).getD (k+1) pt0) ((pathS p a).getD (k+1) pt0))=0:=if_neg (dirLt_irr _ _)
  rw [this];omega
 have φ1:∀ d∈dartL p.arcs n.id,d≠a.id→φ (toD p d)=c:=fun d hd hne=>by
  have q:=(h.fr_atA ha hk hf hk0 hn e1.symm hd hne).2
  rw [hc] at q
  have hdq:d∈dartL (dropV p a.id k).arcs n.id:=by rw [h.cut_dartL ha hk hf];exact hd
  have maq:a.id∈dartL (dropV p a.id k).arcs n.id:=by rw [h.cut_dartL ha hk hf];exact mL
  have td:toD (dropV p a.id k) d=toD p d:=by
   rw [h.cut_to ha hk hf (h.dartL_start hd).1,if_neg (fun g=>hne g.1),if_neg]
   rintro ⟨rfl,g⟩
   have hs:=(h.dartL_start hd).2
   rw [h.start_neg ha] at hs
   have:=hf.loop (e1.symm.trans hs.symm)
   omega
  have d1:=h.dirs hn hd mL hne
  have d2:=hq.dirs (n:=n) hn hdq maq hne
  rw [tp] at d1
  rw [td,tq] at d2
  have a1:dirLt n.pt (toD p d) ((pathS p a).getD (k+1) pt0)→¬ dirLt n.pt ((pathS p a).getD (k+1) pt0) (toD p d):=dirLt_asym
  have a2:dirLt n.pt (toD p d) ((pathS p a).getD (k+2) pt0)→¬ dirLt n.pt ((pathS p a).getD (k+2) pt0) (toD p d):=dirLt_asym
  rw [hφ]
  unfold ind
  simp only
  rcases q with ⟨g1,g2,g3⟩ | ⟨g1,g2,g3⟩ | ⟨g1,g2⟩
  · rw [if_neg (a1 g2),if_pos (d2.resolve_left g3),g1];rfl
  · rw [if_pos (d1.resolve_left g2),if_neg (a2 g3),g1];rfl
  ·
   rw [g1]
   by_cases g:dirLt n.pt (toD p d) ((pathS p a).getD (k+1) pt0)
   · rw [if_neg (a1 g),if_neg (a2 (g2.1 g))];rfl
   · rw [if_pos (d1.resolve_left g),if_pos (d2.resolve_left (fun q=>g (g2.2 q)))];rfl
 have s2:wnS p z (atF φ n.pt)=z a.id*(ι-c):=by
  rw [h.at_node z φ hn]
  have e3:((dartL p.arcs n.id).map fun d=>zD z d*φ (toD p d)).sum=((dartL p.arcs n.id).map fun d=>c*zD z d).sum+((dartL p.arcs n.id).map fun d=>if d=a.id then zD z d*(ι-c) else 0).sum:=by
   rw [← sumA]
   refine sumC _ _ _ fun d hd=>?_
   by_cases g:d=a.id
   ·
    subst g
    rw [if_pos rfl,φ0,Int.mul_sub,Int.mul_comm c];omega
   · rw [if_neg g,φ1 d hd g,Int.mul_comm];omega
  rw [e3,sumM,h.node_zero hz hn,sum_at (f:=fun d=>zD z d*(ι-c)) h.dartL_nodup,if_pos mL]
  have:zD z a.id=z a.id:=if_pos (by omega)
  rw [this];omega
 rw [s1,s2]
 have f1:ltF n.pt ((pathS p a).getD (k+2) pt0) ((pathS p a).getD k pt0) ((pathS p a).getD (k+2) pt0)=0:=by
  rw [eA,ltF_fst n3.symm,if_neg (dirLt_irr _ _)];rfl
 have f2:ltF n.pt ((pathS p a).getD (k+2) pt0) ((pathS p a).getD k pt0) ((pathS p a).getD (k+1) pt0)=-ι:=by
  rw [← hι,eA,ltF_fst n1.symm];rfl
 have f3:ltF n.pt ((pathS p a).getD (k+2) pt0) ((pathS p a).getD (k+1) pt0) ((pathS p a).getD (k+2) pt0)=c:=by
  rw [← hc]
  exact ltF_off (by rw [eA];exact n1.symm) (by rw [eA];exact n3.symm)
 rw [f1,f2,f3,show (0:Int) - -ι-c=ι-c by omega]
 omega
theorem Valid.cut_Hz {z:Int→Int} (hz:ClosedC p z) {d:Int} (hd:d∈dartsD p):Hz (dropV p a.id k) z d=Hz p z d:=by
 have hq:=h.cut ha hk hf
 have hzq:=h.cut_closed ha hk hf hz
 have hpos:=(h.id_pos ha).1
 have ma:a.id∈dartsD p:=mem_dartsD.2 ⟨a,ha,.inl rfl⟩
 have mb:-a.id∈dartsD p:=mem_dartsD.2 ⟨a,ha,.inr rfl⟩
 have hc':thnA a k∈(dropV p a.id k).arcs:=by
  rw [h.cut_arcs ha hk]
  exact List.mem_map.2 ⟨a,ha,by rw [h.cut_at ha hk ha,if_pos rfl]⟩
 have r1:=h.Hz_pos hz ha
 have r3:=hq.Hz_pos hzq hc'
 have r2:Hz (dropV p a.id k) z a.id-Hz (dropV p a.id k) z (-a.id)=z a.id:=r3
 have Ha:Hz (dropV p a.id k) z a.id=Hz p z a.id:=by
  by_cases k0:k=0
  · exact h.cut_Hz0 ha hk hf k0 hz
  · exact h.cut_hz ha hk hf ma (by rw [h.cut_to ha hk hf ma,if_neg (fun g=>k0 g.2),if_neg (by omega)])
 by_cases e1:d=a.id
 · rw [e1];exact Ha
 ·
  by_cases e2:d=-a.id
  · rw [e2];omega
  · exact h.cut_hz ha hk hf hd (by rw [h.cut_to ha hk hf hd,if_neg (fun g=>e1 g.1),if_neg (fun g=>e2 g.1)])
theorem Valid.cut_arnd {Z Y:List Int} (hZ:Z∈outX p) (hY':Y∈cyclesD p):arnd (dropV p a.id k) Z Y=arnd p Z Y:=by
 have hq:=h.cut ha hk hf
 by_cases e:Z=Y
 ·
  subst e
  unfold arnd
  simp
 ·
  have hZ':Z∈outX (dropV p a.id k):=by rw [h.cut_out ha hk hf];exact hZ
  have hY2:Y∈cyclesD (dropV p a.id k):=by rw [h.cut_cycles ha hk hf];exact hY'
  rw [hq.arnd_iff hZ' hY2 e,h.arnd_iff hZ hY' e,h.cut_Hz ha hk hf (h.chX_closed (mem_outX.1 hZ).1) ((h.cyc_nodup hY').2 _ (h.head_in hY'))]
theorem Valid.fr_node {n:Nd} (hn:n∈p.nodes) (hw:witS ((pathS p a).getD k pt0) ((pathS p a).getD (k+1) pt0) ((pathS p a).getD (k+2) pt0) n.pt=true):n.pt=(pathS p a).getD k pt0∨n.pt=(pathS p a).getD (k+2) pt0:=by
 have hl:=pathS_length p a
 have hb:=hf.nds n hn
 unfold blkS at hb
 rw [tri_eq hf.oA hf.oB hf.oC,hw] at hb
 simp only [Bool.and_true,Bool.and_eq_false_imp,decide_eq_true_eq,decide_eq_false_iff_not,ne_eq,Decidable.not_not] at hb
 by_cases e1:n.pt=(pathS p a).getD k pt0
 · exact .inl e1
 ·
  by_cases e2:n.pt=(pathS p a).getD (k+1) pt0
  ·
   exfalso
   rcases h.occ_node hn ha (k:=k+1) (by omega) e2.symm with ⟨g,-⟩ | ⟨g,-⟩<;>omega
  · exact .inr (hb e1 e2)
theorem Valid.cut_offA (hm:True) {n:Nd} (hn:n∈p.nodes):(∀ j,j+1<(pathS (dropV p a.id k) (thnA a k)).length→onS ((pathS (dropV p a.id k) (thnA a k)).getD j pt0) ((pathS (dropV p a.id k) (thnA a k)).getD (j+1) pt0) n.pt=false)↔(∀ j,j+1<(pathS p a).length→onS ((pathS p a).getD j pt0) ((pathS p a).getD (j+1) pt0) n.pt=false):=by
 have hl:=pathS_length p a
 have nv:=h.node_near hn
 have nA:=h.pt_near ha (k:=k) (by omega);have nB:=h.pt_near ha (k:=k+1) (by omega);have nC:=h.pt_near ha (k:=k+2) (by omega)
 have hpt:=h.cut_pt ha hk
 rw [h.cut_len ha hk]
 have onA1:onS ((pathS p a).getD k pt0) ((pathS p a).getD (k+1) pt0) ((pathS p a).getD k pt0)=true:=(onS_onP nA nB nA).2 (onP_fst _ _)
 have onC1:onS ((pathS p a).getD (k+1) pt0) ((pathS p a).getD (k+2) pt0) ((pathS p a).getD (k+2) pt0)=true:=(onS_onP nB nC nC).2 (onP_snd _ _)
 have onA2:onS ((pathS p a).getD k pt0) ((pathS p a).getD (k+2) pt0) ((pathS p a).getD k pt0)=true:=(onS_onP nA nC nA).2 (onP_fst _ _)
 have onC2:onS ((pathS p a).getD k pt0) ((pathS p a).getD (k+2) pt0) ((pathS p a).getD (k+2) pt0)=true:=(onS_onP nA nC nC).2 (onP_snd _ _)
 have fn:=h.fr_node ha hk hf hn
 constructor
 ·
  intro g j hj
  have hAC:=g k (by omega)
  rw [hpt,hpt,if_pos (by omega),if_neg (by omega)] at hAC
  have noAC:¬ (n.pt=(pathS p a).getD k pt0∨n.pt=(pathS p a).getD (k+2) pt0):=by
   rintro (q | q)
   · rw [q,onA2] at hAC;cases hAC
   · rw [q,onC2] at hAC;cases hAC
  rcases Nat.lt_trichotomy j k with q | q | q
  ·
   have:=g j (by omega)
   rwa [hpt,hpt,if_pos (by omega),if_pos (by omega)] at this
  ·
   subst q
   cases o:onS ((pathS p a).getD j pt0) ((pathS p a).getD (j+1) pt0) n.pt
   · rfl
   · exact absurd (fn (by unfold witS;rw [o];rfl)) noAC
  ·
   by_cases q2:j=k+1
   ·
    subst q2
    cases o:onS ((pathS p a).getD (k+1) pt0) ((pathS p a).getD (k+1+1) pt0) n.pt
    · rfl
    · exact absurd (fn (by unfold witS;rw [o,Bool.or_true];rfl)) noAC
   ·
    obtain ⟨i,rfl⟩:∃ i,j=i+1:=⟨j-1,by omega⟩
    have:=g i (by omega)
    rwa [hpt,hpt,if_neg (by omega),if_neg (by omega)] at this
 ·
  intro g j hj
  rw [hpt,hpt]
  rcases Nat.lt_trichotomy j k with q | q | q
  · rw [if_pos (by omega),if_pos (by omega)];exact g j (by omega)
  ·
   subst q
   rw [if_pos (by omega),if_neg (by omega)]
   cases o:onS ((pathS p a).getD j pt0) ((pathS p a).getD (j+1+1) pt0) n.pt
   · rfl
   ·
    exfalso
    have o2:onP ((pathS p a).getD j pt0) ((pathS p a).getD (j+2) pt0) n.pt:=(onS_onP nA nC nv).1 o
    rcases fn (tri_AC nA nC nv o2) with q | q
    · have:=g j (by omega);rw [q,onA1] at this;cases this
    · have:=g (j+1) (by omega);rw [q,onC1] at this;cases this
  · rw [if_neg (by omega),if_neg (by omega)];exact g (j+1) (by omega)
theorem Valid.cut_off {X:List Int} (hX:X∈cyclesD p) {n:Nd} (hn:n∈p.nodes):(∀ s∈segX (dropV p a.id k) X,onS s.1 s.2 n.pt=false)↔(∀ s∈segX p X,onS s.1 s.2 n.pt=false):=by
 have hq:=h.cut ha hk hf
 have hX':X∈cyclesD (dropV p a.id k):=by rw [h.cut_cycles ha hk hf];exact hX
 rw [hq.off_iff (hq.cyc_nodup hX').2,h.off_iff (h.cyc_nodup hX).2]
 have key:=h.cut_offA ha hk hf trivial hn
 constructor
 ·
  intro g b hb hm
  have hb':thnG a.id k b∈(dropV p a.id k).arcs:=by rw [h.cut_arcs ha hk];exact List.mem_map_of_mem hb
  have g1:=g _ hb' (by rw [thnG_id];exact hm)
  rw [h.cut_at ha hk hb] at g1
  by_cases e:b=a
  ·
   subst e
   rw [if_pos rfl] at g1
   exact key.1 g1
  ·
   rw [if_neg e] at g1
   exact g1
 ·
  intro g b' hb' hm
  rw [h.cut_arcs ha hk] at hb'
  obtain ⟨b,hb,rfl⟩:=List.mem_map.1 hb'
  rw [thnG_id] at hm
  have g1:=g b hb hm
  rw [h.cut_at ha hk hb]
  by_cases e:b=a
  ·
   subst e
   rw [if_pos rfl]
   exact key.2 g1
  ·
   rw [if_neg e]
   exact g1
theorem Valid.cut_enc {X:List Int} (hX:X∈outX p) {n:Nd} (hn:n∈p.nodes):encS (dropV p a.id k) X n.pt=encS p X n.pt:=by
 have hl:=pathS_length p a
 have hq:=h.cut ha hk hf
 obtain ⟨hc,hp⟩:=mem_outX.1 hX
 have hX':X∈outX (dropV p a.id k):=by rw [h.cut_out ha hk hf];exact hX
 obtain ⟨hc',hp'⟩:=mem_outX.1 hX'
 have nv:=h.node_near hn
 have nA:=h.pt_near ha (k:=k) (by omega);have nB:=h.pt_near ha (k:=k+1) (by omega);have nC:=h.pt_near ha (k:=k+2) (by omega)
 rw [Bool.eq_iff_iff,hq.enc_iff hc' hp' nv,h.enc_iff hc hp nv,h.cut_off ha hk hf hc hn]
 refine and_congr_right fun g=>?_
 have gq:=(h.cut_off ha hk hf hc hn).2 g
 rw [hq.wnY_cr1 (hq.chX_closed hc') nv (hq.off_of nv gq),h.wnY_cr1 (h.chX_closed hc) nv (h.off_of nv g),h.cut_wnG ha hk hf]
 by_cases z0:chX X a.id=0
 · rw [z0,Int.zero_mul,Int.add_zero]
 ·
  have hoff:=h.off_of nv g a ha z0
  have v1:n.pt≠(pathS p a).getD k pt0:=fun e=>hoff k (by omega) (by rw [e];exact onP_fst _ _)
  have v2:n.pt≠(pathS p a).getD (k+1) pt0:=fun e=>hoff k (by omega) (by rw [e];exact onP_snd _ _)
  have v3:n.pt≠(pathS p a).getD (k+2) pt0:=fun e=>hoff (k+1) (by omega) (by rw [e];exact onP_snd _ _)
  have hw:witS ((pathS p a).getD k pt0) ((pathS p a).getD (k+1) pt0) ((pathS p a).getD (k+2) pt0) n.pt=false:=by
   cases e:witS ((pathS p a).getD k pt0) ((pathS p a).getD (k+1) pt0) ((pathS p a).getD (k+2) pt0) n.pt
   · rfl
   ·
    rcases h.fr_node ha hk hf hn e with q | q
    · exact absurd q v1
    · exact absurd q v3
  have:=tri_cr nA nB nC nv v1 v2 v3 hw
  rw [this,show ∀ x y:Int,x+y-x-y=0 from fun x y=>by omega,Int.mul_zero,Int.add_zero]
theorem Valid.cut_home {n:Nd} (hn:n∈p.nodes):homeP (dropV p a.id k) n.pt=homeP p n.pt:=by
 have hq:=h.cut ha hk hf
 have nv:=h.node_near hn
 unfold homeP
 rw [h.cut_out ha hk hf]
 refine best_iso (fun X hX=>h.cut_enc ha hk hf hX hn) (fun X hX Z hZ eX eZ=>?_)
 by_cases e:X=Z
 ·
  subst e
  constructor<;>intro g<;>omega
 ·
  have hX':X∈outX (dropV p a.id k):=by rw [h.cut_out ha hk hf];exact hX
  have hZ':Z∈outX (dropV p a.id k):=by rw [h.cut_out ha hk hf];exact hZ
  have eX':encS p X n.pt=true:=by rw [← h.cut_enc ha hk hf hX hn];exact eX
  have eZ':encS p Z n.pt=true:=by rw [← h.cut_enc ha hk hf hZ hn];exact eZ
  rw [hq.enc_order hX' hZ' e nv eX eZ,h.enc_order hX hZ e nv eX' eZ',h.cut_arnd ha hk hf hZ (mem_outX.1 hX).1]
theorem Valid.cut_cycPt {c:List Int} (hc:c∈cyclesD p):cycPt (dropV p a.id k) c=cycPt p c∧∃ n∈p.nodes,n.pt=cycPt p c:=by
 have hl:=pathS_length p a
 have hd:=(h.cyc_nodup hc).2 _ (h.head_in hc)
 obtain ⟨b,hb,hor,e⟩:=h.pth_dart hd
 have hid:=(h.id_pos hb).1
 have ea:absI (c.headD 0)=b.id:=by unfold absI;rcases hor with g | g<;>rw [g]<;>split<;>omega
 constructor
 ·
  unfold cycPt
  rw [e]
  unfold pthD
  rw [h.cut_find ha hk hf,ea,h.find hb]
  simp only [Option.map_some]
  rw [h.cut_at ha hk hb]
  by_cases g:b=a
  ·
   subst g
   rw [if_pos rfl,h.cut_pt ha hk,if_pos (by omega)]
  · rw [if_neg g];rfl
 ·
  obtain ⟨n,hn,-,e2⟩:=h.sound.at_fr hb
  exact ⟨n,hn,by unfold cycPt;rw [e,path_0,e2]⟩
theorem Valid.cut_inn (b:Option (List Int)):innX (dropV p a.id k) b=innX p b:=by
 unfold innX
 rw [h.cut_res ha hk hf]
 refine List.filter_congr fun c hc=>?_
 obtain ⟨e1,n,hn,e2⟩:=h.cut_cycPt ha hk hf (mem_resX.1 hc).1
 rw [e1,← e2,h.cut_home ha hk hf hn]
theorem Valid.cut_deg (i:Int):degS (dropV p a.id k).arcs i=degS p.arcs i:=by
 unfold degS
 rw [h.cut_arcs ha hk,List.map_map]
 refine sumC _ _ _ fun b _=>?_
 obtain ⟨e1,e2,-⟩:=thnG_fr a.id k b
 show (if (thnG a.id k b).fr=i then (1:Int) else 0)+(if (thnG a.id k b).dst=i then 1 else 0)=_
 rw [e1,e2]
theorem Valid.cut_alo (b:Option (List Int)):aloX (dropV p a.id k) b=aloX p b:=by
 unfold aloX
 show (p.nodes.filter _).map _=_
 congr 1
 refine List.filter_congr fun n hn=>?_
 rw [h.cut_deg ha hk hf,h.cut_home ha hk hf hn]
theorem Valid.cut_face (hF:FaceOK p):FaceOK (dropV p a.id k):=by
 have hs:∀ b,faceX (dropV p a.id k) b=faceX p b:=fun b=>by
  unfold faceX
  cases b with
  | none=>rfl
  | some X=>exact h.cut_side ha hk hf _
 refine ⟨fun X hX=>?_,?_,fun b hb c hc d hd=>?_,?_⟩
 · rw [h.cut_side ha hk hf];rw [h.cut_out ha hk hf] at hX;exact hF.some X hX
 ·
  rw [h.cut_out ha hk hf]
  have e:(fun X:List Int=>sideD (dropV p a.id k) (X.headD 0))=fun X=>sideD p (X.headD 0):=funext fun X=>h.cut_side ha hk hf _
  rw [e]
  exact hF.differ
 ·
  rw [h.cut_side ha hk hf,hs]
  rw [h.cut_out ha hk hf] at hb
  unfold cysX at hc
  rw [h.cut_inn ha hk hf] at hc
  exact hF.sides b hb c hc d hd
 ·
  rw [h.cut_out ha hk hf]
  exact hF.all
end
end Go.Proofs.YtnhdmghgjngcaaaGreat
namespace Go.Proofs.YtnhdmghgjngcaaaGreat
open Go.RowKit
set_option linter.unusedSectionVars false

theorem rchk_parts {p:Pl} (hz:rchkS p=0):Valid p∧FaceOK p:=by
 unfold rchkS at hz
 by_cases h1:checkS p≠0
 · rw [if_pos h1] at hz;exact absurd hz h1
 rw [if_neg h1] at hz
 refine ⟨(check_zero p).1 (by omega),?_⟩
 split at hz
 · rename_i hf;exact facB_iff.1 hf
 · cases hz
theorem rchk_of {p:Pl} (h:Valid p) (hf:FaceOK p):rchkS p=0:=by
 unfold rchkS
 rw [if_neg (by rw [(check_zero _).2 h];simp),if_pos (facB_iff.2 hf)]
structure SameR (p q:Pl):Prop where
 thin:ThinOf p q
 ok:rchkS q=0
 cyc:cyclesD q=cyclesD p
 out:outX q=outX p
 inn:∀ b,innX q b=innX p b
 alo:∀ b,aloX q b=aloX p b
 side:∀ d,sideD q d=sideD p d
theorem SameR.refl {p:Pl} (hz:rchkS p=0):SameR p p:=⟨ThinOf.refl p,hz,rfl,rfl,fun _=>rfl,fun _=>rfl,fun _=>rfl⟩
theorem SameR.trans {p q r:Pl} (h:SameR p q) (k:SameR q r):SameR p r :=
 ⟨h.thin.trans k.thin,k.ok,k.cyc.trans h.cyc,k.out.trans h.out,fun b=>(k.inn b).trans (h.inn b),fun b=>(k.alo b).trans (h.alo b),fun d=>(k.side d).trans (h.side d)⟩
theorem SameR.step {p q:Pl} {tol:Int} (hz:rchkS p=0) (h:thinS p tol=some q):SameR p q:=by
 obtain ⟨hv,hF⟩:=rchk_parts hz
 have hth:=ThinOf.thin h
 unfold thinS at h
 cases e:leastS p tol with
 | none=>rw [e] at h;cases h
 | some c =>
  rw [e] at h
  injection h with h
  have h:dropV p c.id c.k=q:=h
  obtain ⟨a,e1,e2,-,hk,-,-,hfr⟩:=leastS_some e
  have ha:=findAr_mem e1
  have hf:=FreeAt.of hfr
  rw [← e2] at h
  subst h
  exact ⟨hth,rchk_of (hv.cut ha hk hf) (hv.cut_face ha hk hf hF),hv.cut_cycles ha hk hf,hv.cut_out ha hk hf,hv.cut_inn ha hk hf,hv.cut_alo ha hk hf,hv.cut_side ha hk hf⟩
theorem same_simpU (tol:Int):∀ (n:Nat) (p:Pl),rchkS p=0→SameR p (simpU tol n p)
 | 0,p,hz=>SameR.refl hz
 | n+1,p,hz=>by
  unfold simpU
  cases e:thinS p tol with
  | none=>exact SameR.refl hz
  | some q =>
   have h1:=SameR.step hz e
   exact h1.trans (same_simpU tol n q h1.ok)
theorem same_simp {p:Pl} (hz:rchkS p=0) (tol:Int):SameR p (simpS p tol):=same_simpU tol _ p hz
end Go.Proofs.YtnhdmghgjngcaaaGreat
namespace Go.Proofs.YtnhdmghgjngcaaaGreat
open Go.RowKit

section
variable {G:Nat→Prop} {w w0 w' W:World}
theorem PlV.form {v:Value} {p:Pl} (h:PlV w v p):∃ An cn Aa ca Af cf,v=.agg #[.slice An p.nodes.length cn,.slice Aa p.arcs.length ca,.slice Af p.faces.length cf]:=by
 obtain ⟨_,_,_,al,rfl,hpa,⟨An,cn,rfl,-⟩,⟨⟨Aa,ca,rfl,-⟩,-⟩,⟨Af,cf,rfl,-⟩⟩:=h
 exact ⟨An,cn,Aa,ca,Af,cf,by rw [hpa,List.length_map]⟩
end
end Go.Proofs.YtnhdmghgjngcaaaGreat
