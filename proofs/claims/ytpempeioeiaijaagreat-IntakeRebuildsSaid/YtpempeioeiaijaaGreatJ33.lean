import Derived.Test.YtpempeioeiaijaaGreatRegLB
import Derived.Test.YtpempeioeiaijaaGreatJ29
import Derived.Test.YtpempeioeiaijaaGreatJ15
import Derived.Test.YtpempeioeiaijaaGreatJ11
import Derived.Test.YtpempeioeiaijaaGreatJ07
import Derived.Test.YtpempeioeiaijaaGreatJ31
import Derived.Test.YtpempeioeiaijaaGreatJ18
import Derived.Test.YtpempeioeiaijaaGreatJ10
import Derived.Test.YtpempeioeiaijaaGreatJ20
import Derived.Test.YtpempeioeiaijaaGreatJ01
import Derived.Test.YtpempeioeiaijaaGreatGB
import Derived.Test.YtpempeioeiaijaaGreatJ21
import Derived.Test.YtpempeioeiaijaaGreatJ13
import Derived.Test.YtpempeioeiaijaaGreatJ04
import Derived.Test.YtpempeioeiaijaaGreatJ23
import Derived.Test.YtpempeioeiaijaaGreatJ19
import Derived.Test.YtpempeioeiaijaaGreatJ08
import Derived.Test.YtpempeioeiaijaaGreatJ24
set_option linter.unusedSimpArgs false
set_option linter.unusedVariables false
namespace Go.Proofs.YtpempeioeiaijaaGreat
open Go.RowKit
set_option linter.unusedSectionVars false

section
variable (p:Pl)
theorem findAr_bare (i:Int):findAr (bareP p).arcs i=(findAr p.arcs i).map bareA:=by
 unfold findAr bareP
 rw [List.find?_map]
 rfl
theorem arcD_bare (d:Int):arcD (bareP p) d=(arcD p d).map bareA:=by
 unfold arcD
 split
 · rfl
 · exact findAr_bare p _
theorem startD_bare (d:Int):startD (bareP p) d=startD p d:=by
 unfold startD
 rw [arcD_bare]
 cases arcD p d<;>rfl
theorem dartT_bare (d:Int):dartT (bareP p) d=dartT p d:=by
 unfold dartT
 rw [arcD_bare]
 cases arcD p d<;>rfl
theorem toD_bare (d:Int):toD (bareP p) d=toD p d:=by
 unfold toD
 rw [findAr_bare]
 cases findAr p.arcs (absI d)<;>rfl
theorem pthD_bare (d:Int):pthD (bareP p) d=pthD p d:=by
 unfold pthD
 rw [findAr_bare]
 cases findAr p.arcs (absI d)<;>rfl
theorem dartL_bare (n:Int):dartL (bareP p).arcs n=dartL p.arcs n:=by
 unfold dartL bareP
 rw [List.flatMap_map]
 rfl
theorem dartsD_bare:dartsD (bareP p)=dartsD p:=by
 unfold dartsD bareP
 simp only [List.map_map]
 rfl
theorem aroundD_bare (n:Int):aroundD (bareP p) n=aroundD p n:=by
 unfold aroundD
 rw [dartL_bare]
 have e:∀ o,ltD (bareP p) o=ltD p o:=fun o=>by funext d e;unfold ltD;rw [toD_bare,toD_bare]
 show (match findNd p.nodes n with | none=>_ | some x=>_)=_
 cases findNd p.nodes n with
 | none=>rfl
 | some x=>simp only [e]
theorem nextD_bare:nextD (bareP p)=nextD p:=by
 funext d
 unfold nextD
 rw [arcD_bare,startD_bare,aroundD_bare,Option.isSome_map]
theorem cyclesD_bare:cyclesD (bareP p)=cyclesD p:=by unfold cyclesD;rw [nextD_bare,dartsD_bare]
theorem arX_bare:arX (bareP p)=arX p:=by
 funext X
 unfold arX
 have e:dartT (bareP p)=dartT p:=funext (dartT_bare p)
 rw [e]
theorem segX_bare:segX (bareP p)=segX p:=by
 funext X
 unfold segX
 have e:pthD (bareP p)=pthD p:=funext (pthD_bare p)
 rw [e]
theorem encS_bare:encS (bareP p)=encS p:=by funext X v;unfold encS;rw [segX_bare]
theorem outX_bare:outX (bareP p)=outX p:=by unfold outX;rw [cyclesD_bare,arX_bare]
theorem resX_bare:resX (bareP p)=resX p:=by unfold resX;rw [cyclesD_bare,arX_bare]
theorem homeP_bare:homeP (bareP p)=homeP p:=by funext v;unfold homeP;rw [outX_bare,arX_bare,encS_bare]
theorem cycPt_bare:cycPt (bareP p)=cycPt p:=by funext c;unfold cycPt;rw [pthD_bare]
theorem innX_bare:innX (bareP p)=innX p:=by funext b;unfold innX;rw [resX_bare,homeP_bare,cycPt_bare]
theorem cysX_bare:cysX (bareP p)=cysX p:=by funext b;unfold cysX;rw [innX_bare]
theorem good_bare (a:Ar):ArcGood (bareP p) (bareA a)↔ArcGood p a:=Iff.rfl
end
def SameG (p q:Pl):Prop:=bareP p=bareP q
theorem SameG.nodes {p q:Pl} (h:SameG p q):p.nodes=q.nodes:=by
 have e:bareP p=bareP q:=h
 exact show (bareP p).nodes=(bareP q).nodes by rw [e]
theorem SameG.arcs {p q:Pl} (h:SameG p q):p.arcs.map bareA=q.arcs.map bareA:=by
 have e:bareP p=bareP q:=h
 exact show (bareP p).arcs=(bareP q).arcs by rw [e]
theorem SameG.map {p q:Pl} (h:SameG p q) {α:Type} (f:Ar→α) (hf:∀ a,f (bareA a)=f a):p.arcs.map f=q.arcs.map f:=by
 have:=congrArg (List.map f) h.arcs
 rw [List.map_map,List.map_map] at this
 have e:f ∘ bareA=f:=funext hf
 rwa [e] at this
section
variable {p q:Pl} (h:SameG p q)
include h
theorem SameG.outX:outX p=outX q:=by rw [← outX_bare p,← outX_bare q,h]
theorem SameG.cysX:cysX p=cysX q:=by rw [← cysX_bare p,← cysX_bare q,h]
theorem SameG.valid (hv:Valid p) (h1:q.faces.length≤64) (h2:asc q.faces=true) (h3:∀ f∈q.faces,idBad f=false) (h4:sidesS q=true):Valid q where
 lim:=by
  have hl:=hv.lim
  unfold limS at hl ⊢
  simp only [Bool.or_eq_false_iff,decide_eq_false_iff_not] at hl ⊢
  obtain ⟨a1,⟨a2,a3⟩,-⟩:=hl
  rw [← h.nodes]
  have e1:q.arcs.any (fun a=>decide (64<a.via.length))=p.arcs.any (fun a=>decide (64<a.via.length)):=by
   rw [any_map' q.arcs,any_map' p.arcs,h.map (fun a=>decide (64<a.via.length)) (fun a=>rfl)]
  have e2:p.arcs.length=q.arcs.length:=by simpa using congrArg List.length h.arcs
  rw [e1,← e2]
  exact ⟨a1,⟨a2,a3⟩,by omega⟩
 ord:=by
  have ho:=hv.ord
  unfold orderedS at ho ⊢
  rw [Bool.and_eq_true,Bool.and_eq_true] at ho ⊢
  rw [← h.nodes,← h.map (·.id) (fun a=>rfl)]
  exact ⟨ho.1,h2⟩
 rng:=by
  have hr:=hv.rng
  unfold rangesS at hr ⊢
  rw [Bool.and_eq_true] at hr ⊢
  have ep:pointsS q=pointsS p:=by
   unfold pointsS
   rw [← h.nodes,List.flatMap_def,List.flatMap_def,h.map (·.via) (fun a=>rfl)]
  rw [ep]
  refine ⟨?_,hr.2⟩
  have h0:=hr.1
  rw [Bool.not_eq_true',List.any_eq_false] at h0 ⊢
  rw [← h.nodes,← h.map (·.id) (fun a=>rfl)]
  intro x hx
  rcases List.mem_append.1 hx with hx | hx
  · exact h0 x (List.mem_append_left _ hx)
  · rw [h3 x hx];simp
 dup:=by have:=hv.dup;rwa [h.nodes] at this
 ends:=by
  have:=hv.ends
  rw [all_map'] at this ⊢
  rw [← this]
  congr 1
  have e:hasEnds q=hasEnds p:=by funext a;unfold hasEnds;rw [h.nodes]
  rw [e]
  exact (h.map (hasEnds p) (fun a=>rfl)).symm
 sides:=h4
 planar:=by
  have hs:(p.arcs.map (·.id)).Pairwise (· < ·):=hv.sound.arcs
  have hs':(q.arcs.map (·.id)).Pairwise (· < ·):=by rw [← h.map (·.id) (fun a=>rfl)];exact hs
  have hb:(bareP p).arcs.map (·.id)=p.arcs.map (·.id):=by unfold bareP;simp only [List.map_map];rfl
  have hb':(bareP q).arcs.map (·.id)=q.arcs.map (·.id):=by unfold bareP;simp only [List.map_map];rfl
  have key:∀ r:Pl,(r.arcs.map (·.id)).Pairwise (· < ·)→(planarR (bareP r)=true↔planarR r=true):=fun r hr=>by
   have hbr:(bareP r).arcs.map (·.id)=r.arcs.map (·.id):=by unfold bareP;simp only [List.map_map];rfl
   rw [planar_iff r hr,planar_iff (bareP r) (by rw [hbr];exact hr)]
   refine and_congr ?_ ?_
   ·
    show (∀ a∈r.arcs.map bareA,ArcGood (bareP r) a)↔_
    constructor
    · exact fun g a ha=>(good_bare r a).1 (g _ (List.mem_map_of_mem ha))
    ·
     rintro g a ha
     obtain ⟨b,hb,rfl⟩:=List.mem_map.1 ha
     exact (good_bare r b).2 (g b hb)
   ·
    show List.Pairwise (ArcPair (bareP r)) (r.arcs.map bareA)↔_
    rw [List.pairwise_map]
    exact Iff.rfl
  have h5:=(key p hs).2 hv.planar
  have h6:bareP p=bareP q:=h
  rw [h6] at h5
  exact (key q hs').1 h5
end
end Go.Proofs.YtpempeioeiaijaaGreat
namespace Go.Proofs.YtpempeioeiaijaaGreat
open Go.RowKit
set_option linter.unusedSectionVars false

theorem bare_bare (p:Pl):bareP (bareP p)=bareP p:=by
 unfold bareP
 simp only [List.map_map]
 rfl
theorem bare_lab (p:Pl):bareP (labP p)=bareP p:=by
 unfold labP bareP
 simp only [List.map_map]
 rfl
theorem Valid.cys_one {p:Pl} (h:Valid p) {b b':Option (List Int)} (hb:b=none∨∃ X∈outX p,b=some X) (hb':b'=none∨∃ X∈outX p,b'=some X) {d:Int} (h1:∃ c∈cysX p b,d∈c) (h2:∃ c∈cysX p b',d∈c):b=b':=by
 have key:∀ {b:Option (List Int)},(b=none∨∃ X∈outX p,b=some X)→∀ c∈cysX p b,d∈c→(c∈outX p∧b=some c)∨(c∈resX p∧homeP p (cycPt p c)=b):=fun {b} hb c hc hd=>by
  unfold cysX at hc
  rcases List.mem_cons.1 hc with e | hc
  ·
   rcases hb with rfl | ⟨X,hX,rfl⟩
   · rw [e] at hd;cases hd
   ·
    have e':c=X:=e
    subst e'
    exact .inl ⟨hX,rfl⟩
  ·
   have:=List.mem_filter.1 hc
   exact .inr ⟨this.1,by simpa using this.2⟩
 obtain ⟨c,hc,hd⟩:=h1
 obtain ⟨c',hc',hd'⟩:=h2
 have k1:=key hb c hc hd
 have k2:=key hb' c' hc' hd'
 have e:c=c':=by
  refine h.cyc_one ?_ ?_ hd hd'
  ·
   rcases k1 with g | g
   · exact (mem_outX.1 g.1).1
   · exact (mem_resX.1 g.1).1
  ·
   rcases k2 with g | g
   · exact (mem_outX.1 g.1).1
   · exact (mem_resX.1 g.1).1
 subst e
 rcases k1 with ⟨g1,rfl⟩ | ⟨g1,rfl⟩<;>rcases k2 with ⟨g2,rfl⟩ | ⟨g2,rfl⟩
 · rfl
 · exact absurd (mem_outX.1 g1).2 (mem_resX.1 g2).2
 · exact absurd (mem_outX.1 g2).2 (mem_resX.1 g1).2
 · rfl
theorem keyA_reg {p:Pl} {O:List (List Int)} (hO:O.Perm (outX p)) (i:Nat) (hi:i≤O.length):keyA O i=none∨∃ X∈outX p,keyA O i=some X:=by
 by_cases e:i=0
 · subst e;exact .inl rfl
 ·
  rw [keyA_some (by omega) hi]
  exact .inr ⟨_,hO.subset (List.getElem_mem _),rfl⟩
section
variable {p:Pl} (h:Valid p) {O:List (List Int)} (hO:O.Perm (outX p))
include h hO
theorem Valid.labU_at {i:Nat} (hi:i≤O.length) {d:Int} (hd:∃ c∈cyI p O i,d∈c):∀ n,n≤O.length→labU p O n d=if i≤n then (i:Int) else 0
 | 0,_=>by
  show (0:Int)=_
  split
  ·
   have:i=0:=by omega
   subst this;rfl
  · rfl
 | n+1,hn=>by
  have hnd:O.Nodup:=hO.nodup_iff.2 h.outX_nodup
  show (if (cyI p O (n+1)).any (fun c=>decide (d∈c))=true then (n:Int)+1 else labU p O n d)=_
  by_cases c:(cyI p O (n+1)).any (fun c=>decide (d∈c))=true
  ·
   rw [if_pos c]
   rw [List.any_eq_true] at c
   obtain ⟨c,hc,hdc⟩:=c
   have:=h.cys_one (keyA_reg hO i hi) (keyA_reg hO (n+1) hn) hd ⟨c,hc,by simpa using hdc⟩
   have:=keyA_inj hnd hi hn this
   subst this
   rw [if_pos (Nat.le_refl _)]
   rfl
  ·
   rw [if_neg c,Valid.labU_at hi hd n (by omega)]
   have hne:i≠n+1:=fun e=>by
    subst e
    obtain ⟨c',hc',hdc⟩:=hd
    exact c (List.any_eq_true.2 ⟨c',hc',by simpa using hdc⟩)
   by_cases g:i≤n
   · rw [if_pos g,if_pos (by omega)]
   · rw [if_neg g,if_neg (by omega)]
theorem Valid.labU_bd (d:Int):∀ n,n≤O.length→0≤labU p O n d∧labU p O n d≤n
 | 0,_=>⟨Int.le_refl _,Int.le_refl _⟩
 | n+1,hn=>by
  have ih:=Valid.labU_bd d n (by omega)
  show 0≤(if (cyI p O (n+1)).any (fun c=>decide (d∈c))=true then (n:Int)+1 else labU p O n d)∧(if (cyI p O (n+1)).any (fun c=>decide (d∈c))=true then (n:Int)+1 else labU p O n d)≤((n+1:Nat):Int)
  split<;>omega
end
theorem asc_range (n:Nat):asc ((List.range n).map fun i:Nat=>((i:Int)+1))=true:=by
 refine asc_yes _ fun j hj=>?_
 simp only [List.getElem_map,List.getElem_range]
 omega
theorem lab_valid {p:Pl} (hz:labZ p=0):Valid (labP p)∧FaceOK (labP p):=by
 obtain ⟨hc,hn⟩:checkS (bareP p)=0∧(outX (bareP p)).length≤64:=by
  unfold labZ at hz
  split at hz
  · rename_i c;exact absurd hz c
  ·
   rename_i c
   split at hz
   · cases hz
   · exact ⟨by omega,by omega⟩
 have hv:=(check_zero _).1 hc
 have hO:=(sortK_facts (outX (bareP p))).1
 have hlen:=hO.length_eq
 have hg:SameG (bareP p) (labP p):=by unfold SameG;rw [bare_bare,bare_lab]
 have hfm:∀ x:Int,1≤x→x≤(outX (bareP p)).length→x∈(labP p).faces:=fun x h1 h2=>List.mem_map.2 ⟨(x-1).toNat,List.mem_range.2 (by omega),by omega⟩
 have hq:Valid (labP p):=by
  refine hg.valid hv (by show ((List.range _).map _).length≤64;simp;omega) (asc_range _) (fun f hf=>?_) ?_
  ·
   obtain ⟨i,hi,rfl⟩:=List.mem_map.1 (show f∈(List.range (outX (bareP p)).length).map fun i:Nat=>((i:Int)+1) from hf)
   rw [List.mem_range] at hi
   unfold idBad
   simp only [Bool.or_eq_false_iff,decide_eq_false_iff_not]
   omega
  ·
   unfold sidesS
   rw [List.all_eq_true]
   intro a ha
   obtain ⟨b,hb,rfl⟩:=List.mem_map.1 (show a∈(bareP p).arcs.map (labA (bareP p) (sortK (outX (bareP p)))) from ha)
   have key:∀ d,faceS (labP p).faces (labU (bareP p) (sortK (outX (bareP p))) (sortK (outX (bareP p))).length d)=true:=fun d=>by
    obtain ⟨l1,l2⟩:=hv.labU_bd hO d _ (Nat.le_refl _)
    unfold faceS
    rw [Bool.or_eq_true]
    generalize labU (bareP p) (sortK (outX (bareP p))) (sortK (outX (bareP p))).length d=x at *
    by_cases e:x=0
    · exact .inr (by simpa using e)
    · exact .inl (List.any_eq_true.2 ⟨x,hfm x (by omega) (by omega),by simp⟩)
   show (faceS (labP p).faces _ && faceS (labP p).faces _)=true
   rw [Bool.and_eq_true]
   exact ⟨key _,key _⟩
 refine ⟨hq,?_⟩
 have hside:∀ d∈dartsD (bareP p),sideD (labP p) d=labU (bareP p) (sortK (outX (bareP p))) (sortK (outX (bareP p))).length d:=fun d hd=>by
  obtain ⟨b,hb,hor⟩:=mem_dartsD.1 hd
  have hbm:labA (bareP p) (sortK (outX (bareP p))) b∈(labP p).arcs:=List.mem_map_of_mem (f:=labA (bareP p) (sortK (outX (bareP p)))) hb
  have hid:=hv.id_pos hb
  unfold sideD
  rcases hor with rfl | rfl
  ·
   have:=hq.arcD_pos hbm
   rw [show (labA (bareP p) (sortK (outX (bareP p))) b).id=b.id from rfl] at this
   rw [this]
   exact if_pos (by omega)
  ·
   have:=hq.arcD_neg hbm
   rw [show (labA (bareP p) (sortK (outX (bareP p))) b).id=b.id from rfl] at this
   rw [this]
   exact if_neg (by omega)
 have hcys:∀ b,cysX (labP p) b=cysX (bareP p) b:=fun b=>by rw [hg.cysX]
 refine (FacU.iff (O:=sortK (outX (bareP p))) (by rw [← hg.outX];exact hO)).2 ⟨?_,by rw [hlen];show _=((List.range _).map _).length;simp⟩
 have hat:∀ i,i≤(sortK (outX (bareP p))).length→∀ c∈cyI (bareP p) (sortK (outX (bareP p))) i,∀ d∈c,sideD (labP p) d=i:=fun i hi c hc d hd=>by
  have hdd:d∈dartsD (bareP p):=by
   have hc':c∈cysX (bareP p) (keyA (sortK (outX (bareP p))) i):=hc
   unfold cysX at hc'
   rcases List.mem_cons.1 hc' with e | hc'
   ·
    rcases keyA_reg hO i hi with g | ⟨X,hX,g⟩
    ·
     rw [g] at e
     rw [e] at hd;cases hd
    ·
     rw [g] at e
     have e':c=X:=e
     subst e'
     exact (hv.cyc_nodup (mem_outX.1 hX).1).2 d hd
   · exact (hv.cyc_nodup (mem_resX.1 (List.mem_filter.1 hc').1).1).2 d hd
  rw [hside d hdd,hv.labU_at hO hi ⟨c,hc,hd⟩ _ (Nat.le_refl _),if_pos hi]
 have hfc:∀ i,i≤(sortK (outX (bareP p))).length→fcI (labP p) (sortK (outX (bareP p))) i=i:=fun i hi=>by
  by_cases e:i=0
  · subst e;rfl
  ·
   rw [fcI_some (by omega) hi]
   have hX:=hO.subset (List.getElem_mem (show i-1<(sortK (outX (bareP p))).length by omega))
   refine hat i hi _ ?_ _ (hv.head_in (mem_outX.1 hX).1)
   unfold cyI
   rw [keyA_some (by omega) hi]
   exact List.mem_cons_self
 refine ⟨fun i h1 h2=>?_,fun i j h1 h2 h3=>?_,fun i hi c hc d hd=>?_⟩
 · rw [hfc i (by omega)];omega
 · rw [hfc i (by omega),hfc j (by omega)];omega
 ·
  rw [hfc i (by omega)]
  refine hat i (by omega) c ?_ d hd
  have:c∈cysX (labP p) (keyA (sortK (outX (bareP p))) i):=hc
  rw [hcys] at this
  exact this
theorem lab_check {p:Pl} (hz:labZ p=0):rchkS (labP p)=0:=by
 obtain ⟨h1,h2⟩:=lab_valid hz
 unfold rchkS
 rw [if_neg (by rw [(check_zero _).2 h1];simp),if_pos (facB_iff.2 h2)]
end Go.Proofs.YtpempeioeiaijaaGreat
namespace Go.Proofs.YtpempeioeiaijaaGreat
open Go.RowKit
set_option linter.unusedSectionVars false

section
variable {p:Pl} (h:Valid p)
include h
theorem Valid.pts_apart:p.nodes.Pairwise (fun a b=>a.pt≠b.pt):=by
 have hd:=h.dup
 have:=(List.pairwise_map (f:=fun n:Nd=>n.pt) (R:=fun a b=>a≠b) (l:=p.nodes)).1 ((dup_iff _).1 hd)
 exact this
end
end Go.Proofs.YtpempeioeiaijaaGreat
namespace Go.Proofs.YtpempeioeiaijaaGreat

theorem perm_pull {α β:Type} (f:α→β):∀ (l:List α) (m:List β),m.Perm (l.map f)→∃ l':List α,l'.Perm l∧m=l'.map f
 | [],m,h=>⟨[],List.Perm.refl _,by rw [List.map_nil] at h ⊢;exact h.eq_nil⟩
 | a::l,m,h=>by
  have hm:f a∈m:=h.mem_iff.2 (by simp)
  obtain ⟨s,t,rfl⟩:=List.append_of_mem hm
  have h2:(s++t).Perm (l.map f):=by
   have h3:(f a::(s++t)).Perm (f a::l.map f):=(List.perm_middle.symm).trans h
   exact (List.perm_cons _).1 h3
  obtain ⟨l',hp,he⟩:=perm_pull f l (s++t) h2
  obtain ⟨l1,l2,e1,e2,e3⟩:=List.map_eq_append_iff.1 he.symm
  refine ⟨l1++a::l2,?_,?_⟩
  ·
   rw [e1] at hp
   exact List.perm_middle.trans (hp.cons a)
  · rw [List.map_append,List.map_cons,e2,e3]
theorem nd_uniq {l:List Nd} (hd:l.Pairwise (fun a b=>a.pt≠b.pt)) {n x:Nd} (hn:n∈l) (hx:x∈l) (e:n.pt=x.pt):n=x:=by
 obtain ⟨i,hi,rfl⟩:=List.mem_iff_getElem.1 hn
 obtain ⟨j,hj,rfl⟩:=List.mem_iff_getElem.1 hx
 rw [List.pairwise_iff_getElem] at hd
 rcases Nat.lt_trichotomy i j with h | h | h
 · exact absurd e (hd i j hi hj h)
 · subst h;rfl
 · exact absurd e.symm (hd j i hj hi h)
section
variable {p:Pl} (hp:Sound p) (hd:p.nodes.Pairwise (fun a b=>a.pt≠b.pt))
include hp hd
theorem Sound.fr_iff {a:Ar} (ha:a∈p.arcs) {x:Nd} (hx:x∈p.nodes):a.fr=x.id↔nodeAt p a.fr=x.pt:=by
 obtain ⟨n,hn,e1,e2⟩:=hp.at_fr ha
 rw [e2,← e1]
 constructor
 ·
  intro e
  have h1:=hp.node_eq hn
  rw [e,hp.node_eq hx] at h1
  exact h1.symm
 ·
  intro e
  rw [nd_uniq hd hn hx e]
theorem Sound.dst_iff {a:Ar} (ha:a∈p.arcs) {x:Nd} (hx:x∈p.nodes):a.dst=x.id↔nodeAt p a.dst=x.pt:=by
 obtain ⟨n,hn,e1,e2⟩:=hp.at_dst ha
 rw [e2,← e1]
 constructor
 ·
  intro e
  have h1:=hp.node_eq hn
  rw [e,hp.node_eq hx] at h1
  exact h1.symm
 ·
  intro e
  rw [nd_uniq hd hn hx e]
theorem Sound.loop_iff {a:Ar} (ha:a∈p.arcs):a.fr=a.dst↔nodeAt p a.fr=nodeAt p a.dst:=by
 obtain ⟨n,hn,e1,e2⟩:=hp.at_dst ha
 rw [← e1,hp.fr_iff hd ha hn,e1,e2]
end
theorem path_parts {p q:Pl} {a b:Ar} (e:pathS q b=pathS p a):nodeAt q b.fr=nodeAt p a.fr∧b.via=a.via∧nodeAt q b.dst=nodeAt p a.dst:=by
 unfold pathS at e
 rw [List.cons.injEq] at e
 obtain ⟨e1,e2⟩:=e
 have h1:=List.append_inj' e2 rfl
 exact ⟨e1,h1.1,by simpa using h1.2⟩
section
variable {p q:Pl} (hp:Sound p) (hd:p.nodes.Pairwise (fun a b=>a.pt≠b.pt)) (hq:Sound q) (hd2:q.nodes.Pairwise (fun a b=>a.pt≠b.pt)) (hN:∀ x∈q.nodes,∃ y∈p.nodes,y.pt=x.pt)
include hp hd hq hd2
theorem twin_fr {a b:Ar} (ha:a∈p.arcs) (hb:b∈q.arcs) (e:pathS q b=pathS p a) {x y:Nd} (hx:x∈q.nodes) (hy:y∈p.nodes) (he:y.pt=x.pt):(b.fr == x.id)=(a.fr == y.id)∧(b.dst == x.id)=(a.dst == y.id):=by
 obtain ⟨e1,-,e3⟩:=path_parts e
 constructor
 · rw [Bool.eq_iff_iff,beq_iff_eq,beq_iff_eq,hq.fr_iff hd2 hb hx,hp.fr_iff hd ha hy,e1,he]
 · rw [Bool.eq_iff_iff,beq_iff_eq,beq_iff_eq,hq.dst_iff hd2 hb hx,hp.dst_iff hd ha hy,e3,he]
theorem twin_loop {a b:Ar} (ha:a∈p.arcs) (hb:b∈q.arcs) (e:pathS q b=pathS p a):b.fr=b.dst↔a.fr=a.dst:=by
 obtain ⟨e1,-,e3⟩:=path_parts e
 rw [hq.loop_iff hd2 hb,hp.loop_iff hd ha,e1,e3]
include hN in
theorem twin_good {a b:Ar} (ha:a∈p.arcs) (hb:b∈q.arcs) (e:pathS q b=pathS p a) (hg:ArcGood p a):ArcGood q b:=by
 constructor
 ·
  intro k hk
  rw [e] at hk
  have h1:=hg.1 k hk
  unfold aloneS at h1 ⊢
  rw [Bool.and_eq_true,List.all_eq_true] at h1 ⊢
  constructor
  ·
   intro x hx
   obtain ⟨y,hy,he⟩:=hN x hx
   have h2:=h1.1 y hy
   obtain ⟨f1,f2⟩:=twin_fr hp hd hq hd2 ha hb e hx hy he
   unfold offNd isEnd segK at h2 ⊢
   simp only [e,f1,f2,← he] at h2 ⊢
   exact h2
  ·
   have h2:=h1.2
   have f3:=twin_loop hp hd hq hd2 ha hb e
   have f4:(b.fr != b.dst)=(a.fr != a.dst):=by
    rw [Bool.eq_iff_iff,bne_iff_ne,bne_iff_ne,ne_eq,ne_eq,f3]
   unfold soundS segK at h2 ⊢
   simp only [e,f4] at h2 ⊢
   exact h2
 ·
  intro k m hkm hm
  rw [e] at hm
  have h1:=hg.2 k m hkm hm
  have f3:=twin_loop hp hd hq hd2 ha hb e
  unfold apartS segK at h1 ⊢
  simp only [e,f3] at h1 ⊢
  exact h1
theorem twin_pair {a b a' b':Ar} (ha:a∈p.arcs) (hb:b∈p.arcs) (ha':a'∈q.arcs) (hb':b'∈q.arcs) (e:pathS q a'=pathS p a) (e':pathS q b'=pathS p b) (hg:ArcPair p a b):ArcPair q a' b':=by
 intro k hk m hm
 rw [e] at hk
 rw [e'] at hm
 have h1:=hg k hk m hm
 unfold joinedS at h1 ⊢
 have s1:(segK q a' k).a=(segK p a k).a∧(segK q a' k).b=(segK p a k).b:=by unfold segK;simp only [e,and_self]
 have s2:(segK q b' m).a=(segK p b m).a∧(segK q b' m).b=(segK p b m).b:=by unfold segK;simp only [e',and_self]
 rw [s1.1,s1.2,s2.1,s2.2]
 split at h1
 ·
  rename_i h0
  rw [if_pos h0]
  obtain ⟨y,hy,hm'⟩:=List.any_eq_true.1 h1
  have hend:endsS a y.id=true:=by
   unfold meetAt at hm'
   simp only [Bool.and_eq_true] at hm'
   exact hm'.1.1.1
  obtain ⟨p1,-,p3⟩:=path_parts e
  have hx:∃ x∈q.nodes,y.pt=x.pt:=by
   unfold endsS at hend
   rw [Bool.or_eq_true,beq_iff_eq,beq_iff_eq] at hend
   rcases hend with h | h
   ·
    obtain ⟨x,hx,-,e2⟩:=hq.at_fr ha'
    exact ⟨x,hx,by rw [← (hp.fr_iff hd ha hy).1 h,← p1,e2]⟩
   ·
    obtain ⟨x,hx,-,e2⟩:=hq.at_dst ha'
    exact ⟨x,hx,by rw [← (hp.dst_iff hd ha hy).1 h,← p3,e2]⟩
  obtain ⟨x,hx,he⟩:=hx
  refine List.any_eq_true.2 ⟨x,hx,?_⟩
  obtain ⟨f1,f2⟩:=twin_fr hp hd hq hd2 ha ha' e hx hy he
  obtain ⟨f3,f4⟩:=twin_fr hp hd hq hd2 hb hb' e' hx hy he
  unfold meetAt at hm' ⊢
  rw [s1.1,s1.2,s2.1,s2.2,← he]
  unfold endsS segK at hm' ⊢
  simp only [f1,f2,f3,f4] at hm' ⊢
  exact hm'
 ·
  rename_i h0
  rw [if_neg h0]
  exact h1
include hN in
theorem twin_planar {A:List Ar} (hA:A.Perm p.arcs) (hl:q.arcs.length=A.length) (he:∀ i (h1:i<q.arcs.length) (h2:i<A.length),pathS q q.arcs[i]=pathS p A[i]) (hpl:planarR p=true):planarR q=true:=by
 obtain ⟨g1,g2⟩:=(planar_iff p hp.arcs).1 hpl
 have g3:A.Pairwise (ArcPair p):=(hA.pairwise_iff (fun {a b} h=>ArcPair.symm h)).2 g2
 rw [planar_iff q hq.arcs]
 rw [List.pairwise_iff_getElem] at g3 ⊢
 have hm:∀ i (h2:i<A.length),A[i]∈p.arcs:=fun i h2=>hA.mem_iff.1 (List.getElem_mem h2)
 constructor
 ·
  intro b hb
  obtain ⟨i,hi,rfl⟩:=List.mem_iff_getElem.1 hb
  exact twin_good hp hd hq hd2 hN (hm i (by omega)) hb (he i hi (by omega)) (g1 _ (hm i (by omega)))
 ·
  intro i j hi hj hij
  exact twin_pair hp hd hq hd2 (hm i (by omega)) (hm j (by omega)) (List.getElem_mem hi) (List.getElem_mem hj) (he i hi (by omega)) (he j hj (by omega)) (g3 i j (by omega) (by omega) hij)
end

theorem twiceL_no:∀ (l:List Pt),(∀ k,k+1<l.length→l.getD k pt0≠l.getD (k+1) pt0)→twiceL l=false
 | [],_=>rfl
 | [_],_=>rfl
 | a::b::l,h=>by
  have h0:=h 0 (by simp)
  have h1:=twiceL_no (b::l) (fun k hk=>by
   have:=h (k+1) (by simp only [List.length_cons] at hk ⊢;omega)
   simpa using this)
  unfold twiceL
  rw [h1,Bool.or_false,decide_eq_false]
  intro e
  exact h0 (by simpa using e.symm)
theorem bump_path (p:Pl) (a:Ar) {v:Pt} (h1:nodeAt p a.fr≠v) (h2:nodeAt p a.dst≠v):(bump (pathS p a)).count v=a.via.count v:=by
 have hl:(nodeAt p a.fr::(a.via++[nodeAt p a.dst])).getLast? = some (nodeAt p a.dst):=by rw [← List.cons_append,last_app];rfl
 unfold bump pathS
 rw [hl]
 simp only [List.head?_cons,Option.toList_some,List.count_append,List.count_cons_of_ne h1,List.count_cons_of_ne h2,List.count_nil]
 omega
theorem bumps_path (p:Pl) {v:Pt}:∀ l:List Ar,(∀ a∈l,nodeAt p a.fr≠v∧nodeAt p a.dst≠v)→(bumps (l.map (pathS p))).count v=(l.flatMap (·.via)).count v
 | [],_=>rfl
 | a::l,h=>by
  have ih:=bumps_path p l (fun b hb=>h b (List.mem_cons_of_mem _ hb))
  obtain ⟨h1,h2⟩:=h a List.mem_cons_self
  unfold bumps at ih ⊢
  rw [List.map_cons,List.flatMap_cons,List.flatMap_cons,List.count_append,List.count_append,ih,bump_path p a h1 h2]
theorem cutL_one {M:Pt→Bool} {x y:Pt} {mid:List Pt} (hy:M y=true) (hm:∀ z∈mid,M z=false):cutL M (x::(mid++[y]))=[x::(mid++[y])]:=by
 show cutF M [x] (mid++[y])=_
 have key:∀ (m cur:List Pt),(∀ z∈m,M z=false)→cutF M cur (m++[y])=[cur++(m++[y])]:=by
  intro m
  induction m with
  | nil=>intro cur _;simp [cutF,hy]
  | cons z m ih =>
   intro cur h
   have hz:=h z List.mem_cons_self
   simp only [List.cons_append,cutF]
   rw [if_neg (by rw [hz];simp),ih _ (fun z hz=>h z (List.mem_cons_of_mem _ hz))]
   simp
 exact key mid [x] hm
theorem flatMap_one {α:Type} {f:α→List α}:∀ l:List α,(∀ x∈l,f x=[x])→l.flatMap f=l
 | [],_=>rfl
 | a::l,h=>by
  rw [List.flatMap_cons,h a List.mem_cons_self,flatMap_one l (fun x hx=>h x (List.mem_cons_of_mem _ hx))]
  rfl
theorem degS_pos {l:List Ar} {id:Int}:0<degS l id↔∃ a∈l,a.fr=id∨a.dst=id:=by
 induction l with
 | nil=>simp [degS]
 | cons a l ih =>
  have e:degS (a::l) id=((if a.fr=id then (1:Int) else 0)+(if a.dst=id then 1 else 0))+degS l id:=rfl
  have hb:=(degS_bd l id).1
  rw [e]
  constructor
  ·
   intro h
   by_cases h1:a.fr=id
   · exact ⟨a,List.mem_cons_self,.inl h1⟩
   ·
    by_cases h2:a.dst=id
    · exact ⟨a,List.mem_cons_self,.inr h2⟩
    ·
     rw [if_neg h1,if_neg h2] at h
     obtain ⟨b,hb,h3⟩:=ih.1 (by omega)
     exact ⟨b,List.mem_cons_of_mem _ hb,h3⟩
  ·
   rintro ⟨b,hb',h3⟩
   rcases List.mem_cons.1 hb' with rfl | hb'
   ·
    rcases h3 with h3 | h3
    · rw [if_pos h3];split<;>omega
    · rw [if_pos h3];split<;>omega
   ·
    have:=ih.2 ⟨b,hb',h3⟩
    split<;>split<;>omega

section
variable {p:Pl} (h:Valid p)
include h
theorem Valid.lines_eq:linesS p=p.arcs.map (pathS p):=by
 unfold linesS
 refine filterMap_all (by simp) fun k h1 h2=>?_
 have ha:=List.getElem_mem h1
 unfold pathOf
 rw [h.find ha]
 simp only [List.getElem_map]
 rw [if_pos (h.sound.ends _ ha)]
theorem Valid.lines_good:GoodL (p.arcs.map (pathS p)):=by
 have hl:=h.lim
 unfold limS at hl
 simp only [Bool.or_eq_false_iff,decide_eq_false_iff_not,List.any_eq_false,decide_eq_true_eq] at hl
 obtain ⟨l1,⟨l2,l3⟩,l4⟩:=hl
 have hr:=h.rng
 unfold rangesS at hr
 rw [Bool.and_eq_true,List.all_eq_true] at hr
 refine ⟨by rw [List.length_map];omega,fun l hl=>?_,fun l hl=>?_,fun l hl v hv=>?_,fun l hl=>?_⟩
 ·
  obtain ⟨a,ha,rfl⟩:=List.mem_map.1 hl
  have:=l1 a ha
  rw [pathS_length];omega
 ·
  obtain ⟨a,ha,rfl⟩:=List.mem_map.1 hl
  rw [pathS_length];omega
 ·
  obtain ⟨a,ha,rfl⟩:=List.mem_map.1 hl
  unfold pathS at hv
  rcases List.mem_cons.1 hv with rfl | hv
  ·
   obtain ⟨n,hn,-,e⟩:=h.sound.at_fr ha
   rw [e]
   exact hr.2 _ (List.mem_append_left _ (List.mem_map_of_mem hn))
  ·
   rcases List.mem_append.1 hv with hv | hv
   · exact hr.2 _ (List.mem_append_right _ (List.mem_flatMap.2 ⟨a,ha,hv⟩))
   ·
    rw [List.mem_singleton] at hv
    subst hv
    obtain ⟨n,hn,-,e⟩:=h.sound.at_dst ha
    rw [e]
    exact hr.2 _ (List.mem_append_left _ (List.mem_map_of_mem hn))
 ·
  obtain ⟨a,ha,rfl⟩:=List.mem_map.1 hl
  exact twiceL_no _ fun k hk=>(h.distinct ha hk).1
theorem Valid.lines_meets (v:Pt):meets (p.arcs.map (pathS p)) v=true↔∃ a∈p.arcs,nodeAt p a.fr=v∨nodeAt p a.dst=v:=by
 constructor
 ·
  intro hm
  apply Classical.byContradiction
  intro hno
  have hc:=bumps_path p p.arcs (v:=v) fun a ha=>⟨fun e=>hno ⟨a,ha,.inl e⟩,fun e=>hno ⟨a,ha,.inr e⟩⟩
  unfold meets at hm
  rw [decide_eq_true_eq,hc] at hm
  have hn:(p.arcs.flatMap (·.via)).Nodup:=h.vias
  rw [hn.count] at hm
  split at hm<;>omega
 ·
  rintro ⟨a,ha,e⟩
  refine meets_ends h.lines_good (List.mem_map_of_mem ha) ?_
  rcases e with e | e
  · left;rw [← e];rfl
  ·
   right
   have hl:(nodeAt p a.fr::(a.via++[nodeAt p a.dst])).getLast? = some (nodeAt p a.dst):=by rw [← List.cons_append,last_app];rfl
   rw [← e];exact hl
theorem Valid.lines_via {a:Ar} (ha:a∈p.arcs) {z:Pt} (hz:z∈a.via):meets (p.arcs.map (pathS p)) z=false:=by
 cases e:meets (p.arcs.map (pathS p)) z
 · rfl
 ·
  exfalso
  obtain ⟨b,hb,he⟩:=(h.lines_meets z).1 e
  obtain ⟨j,hj,rfl⟩:=List.mem_iff_getElem.1 hz
  rcases he with he | he
  ·
   obtain ⟨n,hn,-,e2⟩:=h.sound.at_fr hb
   exact h.via_node ha hj hn (by rw [← he,e2])
  ·
   obtain ⟨n,hn,-,e2⟩:=h.sound.at_dst hb
   exact h.via_node ha hj hn (by rw [← he,e2])
theorem Valid.lines_parts:partsU (p.arcs.map (pathS p))=p.arcs.map (pathS p):=by
 unfold partsU
 refine flatMap_one _ fun l hl=>?_
 obtain ⟨a,ha,rfl⟩:=List.mem_map.1 hl
 exact cutL_one ((h.lines_meets _).2 ⟨a,ha,.inr rfl⟩) fun z hz=>h.lines_via ha hz
theorem Valid.lines_node {v:Pt} (hv:v∈meetL (p.arcs.map (pathS p))):∃ n∈p.nodes,n.pt=v∧0<degS p.arcs n.id:=by
 obtain ⟨a,ha,e⟩:=(h.lines_meets v).1 (meetL_mem.1 hv)
 rcases e with e | e
 ·
  obtain ⟨n,hn,e1,e2⟩:=h.sound.at_fr ha
  exact ⟨n,hn,by rw [← e,e2],degS_pos.2 ⟨a,ha,.inl e1.symm⟩⟩
 ·
  obtain ⟨n,hn,e1,e2⟩:=h.sound.at_dst ha
  exact ⟨n,hn,by rw [← e,e2],degS_pos.2 ⟨a,ha,.inr e1.symm⟩⟩
theorem Valid.lines_count:(meetL (p.arcs.map (pathS p))).length=(p.nodes.filter fun n=>decide (0<degS p.arcs n.id)).length:=by
 have hn:((p.nodes.filter fun n=>decide (0<degS p.arcs n.id)).map (·.pt)).Nodup:=by
  unfold List.Nodup
  rw [List.pairwise_map]
  exact h.pts_apart.filter _
 have:=(perm_mem (meetL_nodup (p.arcs.map (pathS p))) hn fun v=>?_).length_eq
 · rw [this,List.length_map]
 ·
  constructor
  ·
   intro hv
   obtain ⟨n,hn',e,hd⟩:=h.lines_node hv
   exact List.mem_map.2 ⟨n,List.mem_filter.2 ⟨hn',decide_eq_true hd⟩,e⟩
  ·
   intro hv
   obtain ⟨n,hn',rfl⟩:=List.mem_map.1 hv
   obtain ⟨hn1,hn2⟩:=List.mem_filter.1 hn'
   obtain ⟨a,ha,e⟩:=degS_pos.1 (of_decide_eq_true hn2)
   refine meetL_mem.2 ((h.lines_meets _).2 ⟨a,ha,?_⟩)
   rcases e with e | e
   · left;rw [e];exact h.sound.node_eq hn1
   · right;rw [e];exact h.sound.node_eq hn1
theorem Valid.lines_plan:Valid (plI (p.arcs.map (pathS p))):=by
 obtain ⟨L,hL⟩:∃ L,p.arcs.map (pathS p)=L:=⟨_,rfl⟩
 have hpar:partsL L=srtL L:=by unfold partsL;rw [← hL,h.lines_parts]
 obtain ⟨A,hA,hP⟩:=perm_pull (pathS p) p.arcs (srtL L) (by rw [hL];exact srtL_perm L)
 have hmem:∀ v,v∈meetL L→∃ n∈p.nodes,n.pt=v:=fun v hv=>by
  rw [← hL] at hv
  obtain ⟨n,hn,e,-⟩:=h.lines_node hv
  exact ⟨n,hn,e⟩
 have hends:∀ a∈p.arcs,nodeAt p a.fr∈meetL L∧nodeAt p a.dst∈meetL L:=fun a ha=>by
  rw [← hL]
  exact ⟨meetL_mem.2 ((h.lines_meets _).2 ⟨a,ha,.inl rfl⟩),meetL_mem.2 ((h.lines_meets _).2 ⟨a,ha,.inr rfl⟩)⟩
 have hTn:=meetL_nodup L
 have hcnt:(meetL L).length≤p.nodes.length:=by
  rw [← hL,h.lines_count]
  exact List.length_filter_le _ _
 obtain ⟨Q,hQ⟩:∃ Q,plI L=Q:=⟨_,rfl⟩
 have hQ2:Q=planI (meetL L) (A.map (pathS p)):=by rw [← hQ,← hP,← hpar];rfl
 rw [hL,hQ]
 clear hQ hpar hP hL
 generalize meetL L=T at *
 have hnodes:Q.nodes=ndsI T:=by rw [hQ2];rfl
 have harcs:Q.arcs=arsI T (A.map (pathS p)):=by rw [hQ2];rfl
 have hfaces:Q.faces=[]:=by rw [hQ2];rfl
 have hal:Q.arcs.length=A.length:=by rw [harcs];unfold arsI;simp
 have hnl:Q.nodes.length=T.length:=by rw [hnodes];unfold ndsI;simp
 have hapos:A.length=p.arcs.length:=hA.length_eq
 have hAm:∀ i (hi:i<A.length),A[i]∈p.arcs:=fun i hi=>hA.mem_iff.1 (List.getElem_mem hi)
 have hatN:∀ v∈T,nodeAt Q (numP T v)=v∧(findNd Q.nodes (numP T v)).isSome=true:=fun v hv=>by
  obtain ⟨k,hk,e1,e2⟩:=numP_mem hv
  have:=ndsI_find T hk
  unfold nodeAt
  rw [hnodes,e1,this]
  exact ⟨e2,rfl⟩
 have hget:∀ i (h1:i<Q.arcs.length) (h2:i<A.length),Q.arcs[i]=⟨(i:Int)+1,numP T (nodeAt p A[i].fr),numP T (nodeAt p A[i].dst),A[i].via,0,0⟩:=fun i h1 h2=>by
  have e1:Q.arcs[i]=arI T i ((A.map (pathS p)).getD i []):=by
   simp only [harcs,arsI,List.getElem_map,List.getElem_range]
  have e2:(A.map (pathS p)).getD i []=pathS p A[i]:=by
   rw [List.getD_eq_getElem?_getD,List.getElem?_map,List.getElem?_eq_getElem h2];rfl
  have e3:(nodeAt p A[i].fr::(A[i].via++[nodeAt p A[i].dst])).getLastD ⟨0,0⟩=nodeAt p A[i].dst:=by
   rw [List.getLastD_eq_getLast?,← List.cons_append,last_app];rfl
  rw [e1,e2]
  unfold arI pathS
  rw [e3,List.headD_cons,List.tail_cons,List.dropLast_concat]
 have hpath:∀ i (h1:i<Q.arcs.length) (h2:i<A.length),pathS Q Q.arcs[i]=pathS p A[i]:=fun i h1 h2=>by
  obtain ⟨m1,m2⟩:=hends _ (hAm i h2)
  rw [hget i h1 h2]
  unfold pathS
  simp only
  rw [(hatN _ m1).1,(hatN _ m2).1]
 have hids:Q.arcs.map (·.id)=(List.range A.length).map fun i:Nat=>(i:Int)+1:=by
  apply List.ext_getElem
  · simp [hal]
  ·
   intro i h1 h2
   have h3:i<Q.arcs.length:=by simpa using h1
   simp only [List.getElem_map,List.getElem_range]
   rw [hget i h3 (by omega)]
 have hnids:Q.nodes.map (·.id)=(List.range T.length).map fun i:Nat=>(i:Int)+1:=by
  rw [hnodes]
  unfold ndsI
  rw [List.map_map]
  rfl
 have hpts:Q.nodes.map (·.pt)=T:=by
  rw [hnodes]
  apply List.ext_getElem
  · simp [ndsI]
  ·
   intro i h1 h2
   simp only [ndsI,List.getElem_map,List.getElem_range]
   rw [List.getD_eq_getElem?_getD,List.getElem?_eq_getElem h2];rfl
 have hvia:∀ b∈Q.arcs,∃ a∈p.arcs,b.via=a.via∧hasEnds Q b=true:=fun b hb=>by
  obtain ⟨i,hi,rfl⟩:=List.mem_iff_getElem.1 hb
  have hi2:i<A.length:=by omega
  obtain ⟨m1,m2⟩:=hends _ (hAm i hi2)
  refine ⟨A[i],hAm i hi2,by rw [hget i hi hi2],?_⟩
  unfold hasEnds
  rw [hget i hi hi2]
  simp only
  rw [(hatN _ m1).2,(hatN _ m2).2]
  rfl
 have hl:=h.lim
 unfold limS at hl
 simp only [Bool.or_eq_false_iff,decide_eq_false_iff_not,List.any_eq_false,decide_eq_true_eq] at hl
 obtain ⟨l1,⟨l2,l3⟩,l4⟩:=hl
 have hr:=h.rng
 unfold rangesS at hr
 rw [Bool.and_eq_true,List.all_eq_true] at hr
 have hdup:dupS (Q.nodes.map (·.pt))=false:=by rw [hpts];exact (dup_iff T).2 hTn
 have hends2:∀ b∈Q.arcs,hasEnds Q b=true:=fun b hb=>(hvia b hb).elim fun a ha=>ha.2.2
 have hord:orderedS Q=true:=by
  unfold orderedS
  rw [hids,hnids,hfaces,asc_range,asc_range]
  rfl
 have hsnd:Sound Q:=by
  have ho:=hord
  unfold orderedS at ho
  rw [Bool.and_eq_true,Bool.and_eq_true] at ho
  exact ⟨asc_pw _ ho.1.1,asc_pw _ ho.1.2,hends2⟩
 have hd2:Q.nodes.Pairwise (fun a b=>a.pt≠b.pt) :=
  (List.pairwise_map (f:=fun n:Nd=>n.pt) (R:=fun a b=>a≠b) (l:=Q.nodes)).1 ((dup_iff _).1 hdup)
 have hidr:∀ n:Nat,n≤256→∀ x∈(List.range n).map (fun i:Nat=>(i:Int)+1),idBad x=false:=fun n hn x hx=>by
  obtain ⟨i,hi,rfl⟩:=List.mem_map.1 hx
  have:=List.mem_range.1 hi
  unfold idBad
  simp only [Bool.or_eq_false_iff,decide_eq_false_iff_not]
  omega
 refine ⟨?_,hord,?_,hdup,List.all_eq_true.2 hends2,?_,?_⟩
 ·
  unfold limS
  simp only [Bool.or_eq_false_iff,decide_eq_false_iff_not,List.any_eq_false,decide_eq_true_eq]
  refine ⟨fun b hb=>?_,⟨by omega,by omega⟩,by rw [hfaces];simp⟩
  obtain ⟨a,ha,e,-⟩:=hvia b hb
  rw [e];exact l1 a ha
 ·
  unfold rangesS
  rw [Bool.and_eq_true,List.all_eq_true,Bool.not_eq_true',List.any_eq_false]
  constructor
  ·
   intro x hx
   rw [hids,hnids,hfaces,List.append_nil,List.mem_append] at hx
   rcases hx with hx | hx
   · rw [hidr _ (by omega) x hx];simp
   · rw [hidr _ (by omega) x hx];simp
  ·
   intro x hx
   unfold pointsS at hx
   rw [hpts,List.mem_append] at hx
   rcases hx with hx | hx
   ·
    obtain ⟨n,hn,rfl⟩:=hmem x hx
    exact hr.2 _ (List.mem_append_left _ (List.mem_map_of_mem hn))
   ·
    obtain ⟨b,hb,hxb⟩:=List.mem_flatMap.1 hx
    obtain ⟨a,ha,e,-⟩:=hvia b hb
    rw [e] at hxb
    exact hr.2 _ (List.mem_append_right _ (List.mem_flatMap.2 ⟨a,ha,hxb⟩))
 ·
  unfold sidesS
  rw [List.all_eq_true]
  intro b hb
  obtain ⟨i,hi,rfl⟩:=List.mem_iff_getElem.1 hb
  rw [hget i hi (by omega),hfaces]
  rfl
 ·
  refine twin_planar h.sound h.pts_apart hsnd hd2 (fun x hx=>?_) hA hal hpath h.planar
  have:x.pt∈T:=by rw [← hpts];exact List.mem_map_of_mem hx
  exact hmem _ this
end
theorem planI_bare (T:List Pt) (P:List (List Pt)):bareP (planI T P)=planI T P:=by
 unfold bareP planI
 simp only [Pl.mk.injEq,and_true,true_and]
 unfold arsI
 rw [List.map_map]
 rfl
theorem Valid.cycs_le {p:Pl} (h:Valid p):(cyclesD p).length≤2*p.arcs.length:=by
 have key:∀ L:List (List Int),(∀ X∈L,X≠[])→L.length≤L.flatten.length:=by
  intro L
  induction L with
  | nil=>intro _;exact Nat.le_refl _
  | cons X L ih =>
   intro hX
   have h1:=ih fun Y hY=>hX Y (List.mem_cons_of_mem _ hY)
   have h2:=List.length_pos_iff.2 (hX X List.mem_cons_self)
   rw [List.flatten_cons,List.length_append,List.length_cons]
   omega
 have h1:=key (cyclesD p) (fun X hX=>h.cyc_ne hX)
 have h2:=h.cyc_perm.length_eq
 have h3:(dartsD p).length=2*p.arcs.length:=by
  unfold dartsD
  simp only [List.length_append,List.length_reverse,List.length_map]
  omega
 omega
theorem rebuild {p:Pl} (h:Valid p) (h30:p.arcs.length≤30):GoodL (linesS p)∧bldZ (linesS p)=0∧linesS (bldP (linesS p))=srtL (linesS p)∧(bldP (linesS p)).nodes.length=(p.nodes.filter fun n=>decide (0<degS p.arcs n.id)).length∧rchkS (bldP (linesS p))=0:=by
 have hv:=h.lines_plan
 have hg:=h.lines_good
 have hcount:=h.lines_count
 have hpart:partsL (p.arcs.map (pathS p))=srtL (p.arcs.map (pathS p)):=by unfold partsL;rw [h.lines_parts]
 have hlim:=h.lim
 unfold limS at hlim
 simp only [Bool.or_eq_false_iff,decide_eq_false_iff_not,List.any_eq_false,decide_eq_true_eq] at hlim
 obtain ⟨l1,⟨l2,l3⟩,l4⟩:=hlim
 have hlen:(partsL (p.arcs.map (pathS p))).length=p.arcs.length:=by rw [hpart,(srtL_perm _).length_eq,List.length_map]
 have hbig:bigI (p.arcs.map (pathS p))=false:=by
  unfold bigI
  simp only [Bool.or_eq_false_iff,decide_eq_false_iff_not,List.any_eq_false,decide_eq_true_eq]
  refine ⟨?_,by omega,fun q hq=>?_⟩
  ·
   rw [hcount]
   have:=List.length_filter_le (fun n:Nd=>decide (0<degS p.arcs n.id)) p.nodes
   omega
  ·
   rw [hpart] at hq
   obtain ⟨a,ha,rfl⟩:=List.mem_map.1 ((srtL_perm _).mem_iff.1 hq)
   have:=l1 a ha
   rw [pathS_length];omega
 have hck:=(check_zero _).2 hv
 have hbare:bareP (plI (p.arcs.map (pathS p)))=plI (p.arcs.map (pathS p)):=planI_bare _ _
 have hcy:=hv.cycs_le
 have hna:(plI (p.arcs.map (pathS p))).arcs.length=p.arcs.length:=by
  rw [← hlen];unfold plI planI arsI;simp
 have hlab:labZ (plI (p.arcs.map (pathS p)))=0:=by
  unfold labZ
  rw [hbare,if_neg (by omega),if_neg]
  have:(outX (plI (p.arcs.map (pathS p)))).length≤(cyclesD (plI (p.arcs.map (pathS p)))).length:=List.length_filter_le _ _
  omega
 have hz:bldZ (p.arcs.map (pathS p))=0:=by
  unfold bldZ
  rw [if_neg (by rw [chkL_good.2 hg];simp),if_neg (by rw [hbig];simp),if_neg (by rw [hck];simp),hlab]
 have hp:bldP (p.arcs.map (pathS p))=labP (plI (p.arcs.map (pathS p))):=by unfold bldP;rw [if_pos hz]
 rw [h.lines_eq]
 refine ⟨hg,hz,?_,?_,?_⟩
 · rw [lines_bld hz,hpart]
 ·
  rw [hp,← hcount]
  show (ndsI _).length=_
  unfold ndsI;simp
 · rw [hp];exact lab_check hlab
end Go.Proofs.YtpempeioeiaijaaGreat
