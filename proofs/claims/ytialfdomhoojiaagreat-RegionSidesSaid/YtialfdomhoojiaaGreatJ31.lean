import Derived.Test.YtialfdomhoojiaaGreatJ30
import Derived.Test.YtialfdomhoojiaaGreatJ28
import Derived.Test.YtialfdomhoojiaaGreatJ19
import Derived.Test.YtialfdomhoojiaaGreatJ13
import Derived.Test.YtialfdomhoojiaaGreatJ20
import Derived.Test.YtialfdomhoojiaaGreatJ01
import Derived.Test.YtialfdomhoojiaaGreatJ29
set_option linter.unusedSimpArgs false
set_option linter.unusedVariables false
namespace Go.Proofs.YtialfdomhoojiaaGreat
open Go.RowKit
set_option linter.unusedSectionVars false

def chgA (right:Bool) (n:Int) (a:Ar):Ar:=if right=true then ⟨a.id,a.fr,a.dst,a.via,a.left,n⟩ else ⟨a.id,a.fr,a.dst,a.via,n,a.right⟩
def chgP (p:Pl) (i:Nat) (hi:i<p.arcs.length) (right:Bool) (n:Int):Pl:=⟨p.nodes,p.arcs.set i (chgA right n p.arcs[i]),p.faces⟩
def oldS (right:Bool) (a:Ar):Int:=if right=true then a.right else a.left
def dartS (right:Bool) (a:Ar):Int:=if right=true then -a.id else a.id
theorem chg_bare (right:Bool) (n:Int) (a:Ar):bareA (chgA right n a)=bareA a:=by unfold chgA;split<;>rfl
theorem chg_id (right:Bool) (n:Int) (a:Ar):(chgA right n a).id=a.id:=by unfold chgA;split<;>rfl
theorem chg_same (p:Pl) (i:Nat) (hi:i<p.arcs.length) (right:Bool):chgP p i hi right (oldS right p.arcs[i])=p:=by
 have e:chgA right (oldS right p.arcs[i]) p.arcs[i]=p.arcs[i]:=by unfold chgA oldS;cases right<;>rfl
 unfold chgP
 rw [e,List.set_getElem_self]
theorem Valid.reg_of {p:Pl} (h:Valid p) {d:Int} (hd:d∈dartsD p):∃ b,(b=none∨∃ X∈outX p,b=some X)∧∃ c∈cysX p b,d∈c:=by
 obtain ⟨c,hc,hdc,-⟩:=h.head_of hd
 by_cases hp:0<arX p c
 · exact ⟨some c,.inr ⟨c,mem_outX.2 ⟨hc,hp⟩,rfl⟩,c,List.mem_cons_self,hdc⟩
 ·
  refine ⟨homeP p (cycPt p c),?_,c,List.mem_cons_of_mem _ (List.mem_filter.2 ⟨mem_resX.2 ⟨hc,hp⟩,by simp⟩),hdc⟩
  cases e:homeP p (cycPt p c) with
  | none=>exact .inl rfl
  | some X=>exact .inr ⟨X,home_mem e,rfl⟩
section
variable {p:Pl} (h:Valid p) {i:Nat} (hi:i<p.arcs.length) {right:Bool} {n:Int} (hn:n=0∨n∈p.faces)
omit h hn in
theorem chg_geo:SameG p (chgP p i hi right n):=by
 unfold SameG bareP chgP
 congr 1
 exact (map_set p.arcs i hi _ bareA (chg_bare _ _ _)).symm
include h hn
theorem Valid.chg_valid:Valid (chgP p i hi right n):=by
 refine (chg_geo hi).valid h ?_ ?_ (fun f hf=>?_) ?_
 ·
  have:=h.lim
  unfold limS at this
  simp only [Bool.or_eq_false_iff,decide_eq_false_iff_not] at this
  show p.faces.length≤64
  omega
 ·
  have:=h.ord
  unfold orderedS at this
  rw [Bool.and_eq_true] at this
  exact this.2
 ·
  have:=h.face_pos (f:=f) hf
  unfold idBad
  simp only [Bool.or_eq_false_iff,decide_eq_false_iff_not]
  omega
 ·
  have hs:=h.sides
  unfold sidesS at hs ⊢
  rw [List.all_eq_true] at hs ⊢
  have hf:faceS p.faces n=true:=by
   unfold faceS
   rw [Bool.or_eq_true]
   rcases hn with e | e
   · exact .inr (by simpa using e)
   · exact .inl (List.any_eq_true.2 ⟨n,e,by simp⟩)
  intro a ha
  rcases List.mem_or_eq_of_mem_set ha with ha | rfl
  · exact hs a ha
  ·
   have:=hs _ (List.getElem_mem hi)
   rw [Bool.and_eq_true] at this
   show (faceS p.faces _ && faceS p.faces _)=true
   rw [Bool.and_eq_true]
   unfold chgA
   split
   · exact ⟨this.1,hf⟩
   · exact ⟨hf,this.2⟩
theorem Valid.chg_side {d:Int} (hd:d∈dartsD p):sideD (chgP p i hi right n) d=if d=dartS right p.arcs[i] then n else sideD p d:=by
 have hq:Valid (chgP p i hi right n):=h.chg_valid hi hn
 have pos:∀ {r:Pl} (hr:Valid r) {a:Ar},a∈r.arcs→sideD r a.id=a.left∧sideD r (-a.id)=a.right:=fun hr a ha=>by
  have h1:=(hr.id_pos ha).1
  unfold sideD
  rw [hr.arcD_pos ha,hr.arcD_neg ha]
  exact ⟨if_pos (by omega),if_neg (by omega)⟩
 obtain ⟨a,ha,hor⟩:=mem_dartsD.1 hd
 have hid:=h.id_pos (List.getElem_mem hi)
 have hida:=h.id_pos ha
 obtain ⟨j,hj,rfl⟩:=List.mem_iff_getElem.1 ha
 have hs:=h.sound.arcs
 rw [List.pairwise_map,List.pairwise_iff_getElem] at hs
 have hmem:(chgP p i hi right n).arcs[j]'(by show j<(p.arcs.set i _).length;rw [List.length_set];exact hj)∈(chgP p i hi right n).arcs:=List.getElem_mem _
 have hval:(chgP p i hi right n).arcs[j]'(by show j<(p.arcs.set i _).length;rw [List.length_set];exact hj)=if i=j then chgA right n p.arcs[i] else p.arcs[j]:=List.getElem_set ..
 rw [hval] at hmem
 obtain ⟨o1,o2⟩:=pos h ha
 obtain ⟨n1,n2⟩:=pos hq hmem
 unfold dartS
 by_cases e:i=j
 ·
  subst e
  rw [if_pos rfl,chg_id] at n1 n2
  unfold chgA at n1 n2
  rcases hor with rfl | rfl
  ·
   rw [n1,o1]
   cases right
   · simp
   ·
    simp only [if_true]
    rw [if_neg (by omega)]
  ·
   rw [n2,o2]
   cases right
   ·
    simp only [Bool.false_eq_true,if_false]
    rw [if_neg (by omega)]
   · simp
 ·
  have hne:p.arcs[j].id≠p.arcs[i].id:=fun e2=>by
   rcases Nat.lt_or_gt_of_ne e with l | l
   · have:=hs i j hi hj l;omega
   · have:=hs j i hj hi l;omega
  rw [if_neg e] at n1 n2
  rcases hor with rfl | rfl
  ·
   rw [n1,o1]
   cases right
   · simp only [Bool.false_eq_true,if_false];rw [if_neg (by omega)]
   · simp only [if_true];rw [if_neg (by omega)]
  ·
   rw [n2,o2]
   cases right
   · simp only [Bool.false_eq_true,if_false];rw [if_neg (by omega)]
   · simp only [if_true];rw [if_neg (by omega)]
theorem Valid.chg_not (hf:FaceOK p) (hne:n≠oldS right p.arcs[i]):¬ FaceOK (chgP p i hi right n):=fun hq=>by
 have hg:SameG p (chgP p i hi right n):=chg_geo hi
 have hvq:=h.chg_valid hi (right:=right) hn
 have hid:=h.id_pos (List.getElem_mem hi)
 have hd0:dartS right p.arcs[i]∈dartsD p:=mem_dartsD.2 ⟨_,List.getElem_mem hi,by unfold dartS;split<;>simp⟩
 have hold:sideD p (dartS right p.arcs[i])=oldS right p.arcs[i]:=by
  unfold dartS oldS sideD
  cases right
  ·
   simp only [Bool.false_eq_true,if_false]
   rw [h.arcD_pos (List.getElem_mem hi)]
   exact if_pos (by omega)
  ·
   simp only [if_true]
   rw [h.arcD_neg (List.getElem_mem hi)]
   exact if_neg (by omega)
 have hnew:sideD (chgP p i hi right n) (dartS right p.arcs[i])=n:=by rw [h.chg_side hi hn hd0,if_pos rfl]
 obtain ⟨b,hb,c,hc,hdc⟩:=h.reg_of hd0
 have p1:=hf.sides b hb c hc _ hdc
 have q1:=hq.sides b (by rw [← hg.outX];exact hb) c (by rw [← hg.cysX];exact hc) _ hdc
 rw [hold] at p1
 rw [hnew] at q1
 rcases hb with rfl | ⟨X,hX,rfl⟩
 · exact hne (q1.trans p1.symm)
 ·
  have hXd:=(h.cyc_nodup (mem_outX.1 hX).1).2
  have hhd:=h.head_in (mem_outX.1 hX).1
  have hh0:X.headD 0=dartS right p.arcs[i]:=Classical.byContradiction fun e=>by
   have e1:sideD (chgP p i hi right n) (X.headD 0)=sideD p (X.headD 0):=by rw [h.chg_side hi hn (hXd _ hhd),if_neg e]
   exact hne (q1.trans (e1.trans p1.symm))
  have hm:oldS right p.arcs[i]∈p.faces:=by
   rcases h.side_face (dartS right p.arcs[i]) with e | e
   ·
    have:=hf.some X hX
    rw [hh0] at this
    exact absurd e this
   · rwa [hold] at e
  obtain ⟨Y,hY⟩:=(hvq.regOf_mem hq (f:=oldS right p.arcs[i])).1 hm
  obtain ⟨hYo,hYf⟩:=regOf_some hY
  rw [← hg.outX] at hYo
  have hYd:=(h.cyc_nodup (mem_outX.1 hYo).1).2
  have hYh:=h.head_in (mem_outX.1 hYo).1
  have hYf':sideD (chgP p i hi right n) (Y.headD 0)=oldS right p.arcs[i]:=hYf
  rw [h.chg_side hi hn (hYd _ hYh)] at hYf'
  by_cases e:Y.headD 0=dartS right p.arcs[i]
  ·
   rw [if_pos e] at hYf'
   exact hne hYf'
  ·
   rw [if_neg e] at hYf'
   have hd:=hf.differ
   unfold List.Nodup at hd
   rw [List.pairwise_map,List.pairwise_iff_getElem] at hd
   have hpx:sideD p (X.headD 0)=oldS right p.arcs[i]:=by rw [hh0,hold]
   obtain ⟨k,hk,e1⟩:=List.mem_iff_getElem.1 hX
   obtain ⟨j,hj,e2⟩:=List.mem_iff_getElem.1 hYo
   rcases Nat.lt_trichotomy k j with l | l | l
   · exact absurd (by rw [e1,e2,hpx,hYf']) (hd k j hk hj l)
   ·
    subst l
    exact e (by rw [← e2,e1,hh0])
   · exact absurd (by rw [e1,e2,hpx,hYf']) (hd j k hj hk l)
theorem Valid.chg_check (hf:FaceOK p):rchkS (chgP p i hi right n)=if n=oldS right p.arcs[i] then 0 else 12:=by
 by_cases e:n=oldS right p.arcs[i]
 ·
  rw [if_pos e]
  subst e
  rw [chg_same]
  unfold rchkS
  rw [if_neg (by rw [(check_zero p).2 h];simp),if_pos (facB_iff.2 hf)]
 ·
  rw [if_neg e]
  unfold rchkS
  rw [if_neg (by rw [(check_zero _).2 (h.chg_valid hi hn)];simp),if_neg]
  rw [facB_iff]
  exact h.chg_not hi hn hf e
end
end Go.Proofs.YtialfdomhoojiaaGreat
namespace Go.Proofs.YtialfdomhoojiaaGreat
open Go.RowKit
set_option linter.unusedSectionVars false

theorem group_perm {α β:Type} [DecidableEq β] (g:α→β) (O:List α):∀ {fs:List β},fs.Nodup→(fs.flatMap fun f=>O.filter (fun X=>decide (g X=f))).Perm (O.filter (fun X=>decide (g X∈fs)))
 | [],_=>by simp
 | f::fs,h=>by
  obtain ⟨hf,hn⟩:=List.nodup_cons.1 h
  rw [List.flatMap_cons]
  refine ((group_perm g O hn).append_left _).trans ?_
  have e1:O.filter (fun X=>decide (g X=f))=(O.filter (fun X=>decide (g X∈f::fs))).filter (fun X=>decide (g X=f)):=by
   rw [List.filter_filter]
   congr 1
   funext X
   by_cases e:g X=f<;>simp [e]
  have e2:O.filter (fun X=>decide (g X∈fs))=(O.filter (fun X=>decide (g X∈f::fs))).filter (fun X=>!decide (g X=f)):=by
   rw [List.filter_filter]
   congr 1
   funext X
   by_cases e:g X=f
   · simp [e,hf]
   · simp [e]
  rw [e1,e2]
  exact List.filter_append_perm _ _
theorem group_all {α β:Type} [DecidableEq β] (g:α→β) (O:List α) {fs:List β} (hn:fs.Nodup) (ha:∀ x∈O,g x∈fs):(fs.flatMap fun f=>O.filter (fun X=>decide (g X=f))).Perm O:=by
 refine (group_perm g O hn).trans ?_
 have:O.filter (fun X=>decide (g X∈fs))=O:=by
  rw [List.filter_eq_self]
  intro x hx
  rw [decide_eq_true_eq]
  exact ha x hx
 rw [this]
theorem flatMap_append_perm {α β:Type} (f g:α→List β):∀ l:List α,(l.flatMap fun a=>f a++g a).Perm (l.flatMap f++l.flatMap g)
 | []=>by simp
 | a::l=>by
  simp only [List.flatMap_cons]
  refine ((flatMap_append_perm f g l).append_left _).trans ?_
  rw [List.append_assoc,List.append_assoc]
  refine List.Perm.append_left _ ?_
  rw [← List.append_assoc,← List.append_assoc]
  exact List.Perm.append_right _ List.perm_append_comm
def rgD (r:Rg):List Int:=r.out++r.inn.flatten
section
variable {p:Pl} (h:Valid p)
include h
theorem Valid.regs_nodup:(regsX p).Nodup:=by
 unfold regsX
 refine List.nodup_cons.2 ⟨fun hm=>?_,?_⟩
 ·
  obtain ⟨X,-,e⟩:=List.mem_map.1 hm
  cases e
 ·
  have hn:=h.outX_nodup
  unfold List.Nodup at hn ⊢
  rw [List.pairwise_map]
  exact hn.imp (fun hne e=>hne (by injection e))
omit h in
theorem home_regs (v:Pt):homeP p v∈regsX p:=by
 unfold regsX
 cases e:homeP p v with
 | none=>exact List.mem_cons_self
 | some X=>exact List.mem_cons_of_mem _ (List.mem_map_of_mem (home_mem e))
theorem Valid.regs_darts:(((regsX p).map (rgX p)).flatMap rgD).Perm (dartsD p):=by
 rw [List.flatMap_map]
 have e1:((regsX p).flatMap fun b=>rgD (rgX p b)).Perm ((regsX p).flatMap (fun b=>b.getD [])++(regsX p).flatMap fun b=>(innX p b).flatten):=flatMap_append_perm _ _ _
 refine e1.trans ?_
 have e2:(regsX p).flatMap (fun b=>b.getD [])=(outX p).flatten:=by
  unfold regsX
  rw [List.flatMap_cons,List.flatMap_map,List.flatten_eq_flatMap]
  rfl
 have e3:((regsX p).flatMap fun b=>(innX p b).flatten).Perm (resX p).flatten:=by
  have g:=group_all (fun c=>homeP p (cycPt p c)) (resX p) h.regs_nodup (fun c _=>home_regs _)
  have e4:((regsX p).flatMap fun b=>(innX p b).flatten)=((regsX p).flatMap fun f=>(resX p).filter (fun X=>decide (homeP p (cycPt p X)=f))).flatten:=by
   rw [List.flatten_eq_flatMap (L:=(regsX p).flatMap _),List.flatMap_assoc]
   congr 1
   funext b
   rw [List.flatten_eq_flatMap]
   rfl
  rw [e4]
  exact g.flatten
 rw [e2]
 refine (e3.append_left _).trans ?_
 rw [← List.flatten_append]
 refine List.Perm.trans ?_ h.cyc_perm
 refine List.Perm.flatten ?_
 unfold outX resX
 exact List.filter_append_perm _ _
end
end Go.Proofs.YtialfdomhoojiaaGreat
namespace Go.Proofs.YtialfdomhoojiaaGreat
open Go.RowKit
set_option linter.unusedSectionVars false

theorem len_in_flat {α β:Type} (f:α→List β) {l:List α} {a:α} (h:a∈l):(f a).length≤(l.flatMap f).length:=by
 obtain ⟨s,t,rfl⟩:=List.append_of_mem h
 simp only [List.flatMap_append,List.flatMap_cons,List.length_append]
 omega
theorem flat_one {α β:Type} (f:α→List β) (h:∀ a,(f a).length≤1) (l:List α):(l.flatMap f).length≤l.length:=by
 have:=flat_le l f 1 (fun a _=>h a)
 omega
theorem tkn_one (y:Int) (q:Pt×Pt):(tknS y q).length≤1:=by
 unfold tknS
 repeat' split
 all_goals simp
theorem crs_one (y:Int) (q:Pt×Pt):(crsS y q).length≤1:=by
 unfold crsS
 split<;>simp
theorem alo_one (ns:List Nd) (y:Int) (i:Int):(aloR ns y i).length≤1:=by
 unfold aloR
 split
 · split<;>simp
 · simp
section
variable {p:Pl} (h:Valid p)
include h
theorem Valid.cysX_len {b:Option (List Int)} (hb:b∈regsX p):(cysX p b).flatten.length≤512:=by
 have hp:=h.regs_darts.length_eq
 have h1:=len_in_flat rgD (List.mem_map_of_mem (f:=rgX p) hb)
 have h2:rgD (rgX p b)=(cysX p b).flatten:=by
  unfold rgD cysX
  rw [List.flatten_cons]
  rfl
 rw [h2] at h1
 have h3:(dartsD p).length=2*p.arcs.length:=by unfold dartsD;simp;omega
 have h4:=(limS_no h.lim).2.2.1
 omega
theorem Valid.segX_len {X:List Int} (hX:∀ d∈X,d∈dartsD p):(segX p X).length≤X.length*65:=by
 unfold segX
 refine flat_le X _ 65 fun d hd=>?_
 obtain ⟨a,ha,-,e⟩:=h.pth_dart (hX d hd)
 have h1:=pathS_length p a
 have h2:=h.via_len ha
 rw [e]
 unfold segL
 rw [List.length_map,List.length_range]
 omega
omit h in
theorem segB_flat (b:Option (List Int)):segB p b=segX p (cysX p b).flatten:=by
 unfold segB segX
 rw [List.flatten_eq_flatMap,List.flatMap_assoc]
 rfl
theorem Valid.cysX_dart {b:Option (List Int)} (hb:b∈regsX p) {c:List Int} (hc:c∈cysX p b):∀ d∈c,d∈dartsD p:=fun d hd=>by
 unfold cysX at hc
 rcases List.mem_cons.1 hc with e | hc
 ·
  unfold regsX at hb
  rcases List.mem_cons.1 hb with rfl | hb
  · rw [e] at hd;cases hd
  ·
   obtain ⟨X,hX,rfl⟩:=List.mem_map.1 hb
   have e':c=X:=e
   subst e'
   exact (h.cyc_nodup (mem_outX.1 hX).1).2 d hd
 · exact (h.cyc_nodup (mem_resX.1 (List.mem_filter.1 hc).1).1).2 d hd
theorem Valid.segB_len {b:Option (List Int)} (hb:b∈regsX p):(segB p b).length≤33280:=by
 rw [segB_flat]
 have h1:=h.cysX_len hb
 have h2:=h.segX_len (X:=(cysX p b).flatten) (fun d hd=>by
  obtain ⟨c,hc,hd⟩:=List.mem_flatten.1 hd
  exact h.cysX_dart hb hc d hd)
 omega
theorem Valid.aloX_len (b:Option (List Int)):(aloX p b).length≤256:=by
 unfold aloX
 rw [List.length_map]
 have:=List.length_filter_le (fun n=>decide (degS p.arcs n.id=0∧homeP p n.pt=b)) p.nodes
 have:=h.nodes_len
 omega
end
def cySg (p:Pl) (C:List (List Int)) (k:Nat):List (Pt×Pt):=(C.take k).flatMap (segX p)
theorem cySg_succ (p:Pl) {C:List (List Int)} {k:Nat} (hk:k<C.length):cySg p C (k+1)=cySg p C k++segX p C[k]:=by
 unfold cySg
 rw [List.take_succ_eq_append_getElem hk,List.flatMap_append]
 simp
theorem cySg_le (p:Pl) (C:List (List Int)) (k:Nat):(cySg p C k).length≤(C.flatMap (segX p)).length:=by
 have e:C.flatMap (segX p)=cySg p C k++(C.drop k).flatMap (segX p):=by
  unfold cySg
  rw [← List.flatMap_append,List.take_append_drop]
 rw [e,List.length_append]
 omega
theorem foldl_snoc {α:Type}:∀ (l s:List α),l.foldl (fun s q=>s++[q]) s=s++l
 | [],s=>(List.append_nil s).symm
 | q::l,s=>by rw [List.foldl_cons,foldl_snoc l];simp
theorem gapR_two:∀ (m:Nat) (l:List Int) (h:2*m+1<l.length),gapR (l.take (2*(m+1)))=gapR (l.take (2*m))++addR (l[2*m]'(by omega)) l[2*m+1]
 | 0,a::b::l,_=>by
  show gapR [a,b]=gapR []++addR a b
  unfold gapR gapR
  simp
 | m+1,a::b::l,h=>by
  simp only [List.length_cons] at h
  have ih:=gapR_two m l (by omega)
  have e1:(a::b::l).take (2*(m+1+1))=a::b::l.take (2*(m+1)):=by rw [show 2*(m+1+1)=2*(m+1)+1+1 by omega];rfl
  have e2:(a::b::l).take (2*(m+1))=a::b::l.take (2*m):=by rw [show 2*(m+1)=2*m+1+1 by omega];rfl
  rw [e1,e2,gapR,gapR,ih,List.append_assoc]
  rfl
theorem gapR_end:∀ (m:Nat) (l:List Int),2*m≤l.length→l.length≤2*m+1→gapR (l.take (2*m))=gapR l
 | 0,l,_,h=>by
  match l,h with
  | [],_=>rfl
  | [a],_=>rfl
 | m+1,[],h,_=>by simp at h
 | m+1,[a],h,_=>by simp at h;omega
 | m+1,a::b::l,h1,h2=>by
  simp only [List.length_cons] at h1 h2
  have e2:(a::b::l).take (2*(m+1))=a::b::l.take (2*m):=by rw [show 2*(m+1)=2*m+1+1 by omega];rfl
  rw [e2,gapR,gapR,gapR_end m l (by omega) (by omega)]
theorem gapR_len:∀ (n:Nat) (l:List Int),l.length≤n→(gapR l).length≤l.length
 | _,[],_=>by unfold gapR;simp
 | _,[a],_=>by unfold gapR;simp
 | n+1,a::b::l,h=>by
  simp only [List.length_cons] at h
  have ih:=gapR_len n l (by omega)
  rw [gapR,List.length_append]
  have:(addR a b).length≤1:=by unfold addR;split<;>simp
  simp only [List.length_cons]
  omega
 | 0,a::b::l,h=>by simp at h
theorem diff_nil (bs:List Rn):diffR (spnS []) bs=[]:=rfl
theorem midS_take {l:List Rn} {k:Nat} (hk:k<l.length):midS (l.take (k+1))=midStep (midS (l.take k)) l[k]:=by
 unfold midS
 rw [List.take_succ_eq_append_getElem hk,List.foldl_append]
 rfl
theorem findS_at {α:Type} {g:Nat→Option α} {N D:Nat} {v:α} (h:∀ i,i<D→g i=none) (hv:g D=some v) (hD:D<N):(List.range N).findSome? g=some v:=by
 have e:List.range N=List.range D++D::(List.range N).drop (D+1):=by
  have h1:D<(List.range N).length:=by rw [List.length_range];exact hD
  have h2:(List.range N).take D=List.range D:=by rw [List.take_range];congr 1;omega
  have h3:(List.range N)[D]=D:=List.getElem_range _
  have:=(List.take_append_drop D (List.range N)).symm
  rw [List.drop_eq_getElem_cons h1,h2,h3] at this
  exact this
 rw [e,List.findSome?_append,List.findSome?_cons,hv]
 have:(List.range D).findSome? g=none:=List.findSome?_eq_none_iff.2 fun i hi=>h i (List.mem_range.1 hi)
 rw [this]
 rfl
theorem findS_none {α:Type} {g:Nat→Option α} {N:Nat} (h:∀ i,i<N→g i=none):(List.range N).findSome? g=none:=List.findSome?_eq_none_iff.2 fun i hi=>h i (List.mem_range.1 hi)
theorem midRow_out (p:Pl) (b:Option (List Int)) {y0 y1 y:Int} (h:y<y0∨y1<y):midRow p b y0 y1 y=none:=by unfold midRow;rw [if_pos h]
theorem midRow_in (p:Pl) (b:Option (List Int)) {y0 y1 y:Int} (h:¬ (y<y0∨y1<y)):midRow p b y0 y1 y=((midS (runsB p b y)).2).map fun x=>⟨x,y⟩:=by unfold midRow;rw [if_neg h]
theorem midB_none (p:Pl) (b:Option (List Int)) {y0 y1:Int} {D:Nat} (h:∀ i,i<D→midD p b y0 y1 ((y0+y1) / 2) i=none) (h1:y1<(y0+y1) / 2+D) (h2:(y0+y1) / 2-D<y0):midB p b y0 y1=none:=by
 refine findS_none fun i hi=>?_
 by_cases c:i<D
 · exact h i c
 ·
  unfold midD
  rw [midRow_out p b (.inr (by omega)),midRow_out p b (.inl (by omega))]
  rfl
theorem midB_some (p:Pl) (b:Option (List Int)) {y0 y1:Int} {D:Nat} {v:Pt} (h:∀ i,i<D→midD p b y0 y1 ((y0+y1) / 2) i=none) (hv:midD p b y0 y1 ((y0+y1) / 2) D=some v):midB p b y0 y1=some v:=by
 refine findS_at h hv ?_
 have:¬ (y1<(y0+y1) / 2+D∧(y0+y1) / 2-D<y0):=fun c=>by
  unfold midD at hv
  rw [midRow_out p b (.inr c.1),midRow_out p b (.inl c.2)] at hv
  cases hv
 omega
end Go.Proofs.YtialfdomhoojiaaGreat
namespace Go.Proofs.YtialfdomhoojiaaGreat
open Go.RowKit Go.Sort

structure RunI (w:World) (B g1 g2 g3:Nat) (y:Int) (S:List (Pt×Pt)) (T:List Rn) (w2 W:World):Prop where
 st:∃ vt vc,RowSt W B g1 g2 g3 y (S.flatMap (tknS y)++T) (S.flatMap (crsS y)) vt vc
 kept:Kept2 B g2 g3 w2 W
 below:Below w.heap.size w W
theorem RunI.drew {w:World} {B g1 g2 g3:Nat} {y:Int} {S:List (Pt×Pt)} {T:List Rn} {w2 W:World} (h:RunI w B g1 g2 g3 y S T w2 W):RunI w B g1 g2 g3 y S T w2 W.drew:=by
 obtain ⟨⟨vt,vc,hs⟩,hk,hb⟩:=h
 exact ⟨⟨vt,vc,hs.keep (bD (bR W))⟩,hk.trans ⟨fun w0 k _ _ _=>bD k,Nat.le_refl _,fun _ _ _ _=>rfl⟩,bD hb⟩
theorem Kept2.base {B g2 g3:Nat} {w W W':World} (h:Kept2 B g2 g3 W W') (hb:Below w.heap.size w W) (k1:w.heap.size≤B) (k2:w.heap.size≤g2) (k3:w.heap.size≤g3):Below w.heap.size W W':=by
 have b:=h.below w hb k1 k2 k3
 exact ⟨b.os.trans hb.os.symm,b.tape.trans hb.tape.symm,b.output.trans hb.output.symm,h.size,fun k hk=>h.blk k (Nat.lt_of_lt_of_le hk k1) (by omega) (by omega)⟩
theorem Runs_seg (w w2:World) (gm:Nat) (p:Pl) (f:Int→SV) (hpm:PathsM w gm p f) (hv:Valid p) (vc:Value) (X:List Int) (hX:Ints w vc X) (hd:∀ d∈X,d∈dartsD p) (B g1 g2 g3:Nat) (y:Int) (S:List (Pt×Pt))
  (hl:S.length+(segX p X).length≤40000) (hB:B≤w2.heap.size) (hg1:g1<B) (k1:w.heap.size≤B) (k2:w.heap.size≤g2) (k3:w.heap.size≤g3) (W:World) (h0:RunI w B g1 g2 g3 y S [] w2 W) :
  Calls Tryz.prog 79 #[.map (some gm),vc,.func (.func 202) #[] #[.pointer (some ⟨g1,0,none⟩),.pointer (some ⟨g2,0,none⟩),.pointer (some ⟨g3,0,none⟩)]] W fun e W'=>e=.returned (.tuple #[])∧RunI w B g1 g2 g3 y (S++segX p X) [] w2 W':=by
 refine (SegsR_spec w gm p f hpm hv vc X hX hd g1 g2 g3 (fun s W=>RunI w B g1 g2 g3 y (S++s) [] w2 W) (fun s q=>s++[q]) (fun s W h=>h.below) (fun s W h=>h.drew) [] (fun S0 W q r hs h=>?_) W (by simpa using h0)).mono ?_
 ·
  rw [foldl_snoc,List.nil_append] at h ⊢
  obtain ⟨⟨vt,vc,hst⟩,hk,hb⟩:=h
  rw [List.append_nil] at hst
  have hq:q∈segX p X:=by rw [hs];simp
  have hlen:(S++S0).length≤40000:=by
   have:=congrArg List.length hs
   simp only [List.length_append,List.length_cons] at this ⊢
   omega
  have l1:=flat_one (tknS y) (tkn_one y) (S++S0)
  have l2:=flat_one (crsS y) (crs_one y) (S++S0)
  obtain ⟨a,ha,-,k,hk',rfl⟩:=hv.seg_mem hd hq
  refine (runsStep_spec _ _ (hv.path_big ha (by omega)) (hv.path_big ha hk') y B g1 g2 g3 _ _ vt vc W hst (Nat.le_trans hB hk.size) hg1 (by omega) (by omega)).mono ?_
  rintro e W' ⟨rfl,⟨vt',vc',hst'⟩,hk2⟩
  refine ⟨rfl,⟨⟨vt',vc',?_⟩,hk.trans hk2,hk2.below w hb k1 k2 k3⟩,hk2.base hb k1 k2 k3⟩
  rw [List.append_nil,← List.append_assoc,List.flatMap_append,List.flatMap_append]
  simpa using hst'
 ·
  rintro e W' ⟨rfl,h,-⟩
  rw [foldl_snoc,List.nil_append] at h
  exact ⟨rfl,h⟩
theorem Kept2.own {B g2 g3:Nat} {W W':World} (h:Kept2 B g2 g3 W W') {α:Type} {B0:Nat} {e:TypeId} {n:Nat} {f:α→List Value} {v:Value} {l:List α} (ho:Own W B0 e n f v l) (hB:W.heap.size≤B) (h1:v.ownBlock≠some g2) (h2:v.ownBlock≠some g3):Own W' B0 e n f v l:=by
 obtain ⟨h0,h3⟩:=ho
 refine ⟨h0,?_⟩
 rcases h3 with h3 | ⟨q,cap,cur,rfl,a1,a2,a3⟩
 · exact .inl h3
 · exact .inr ⟨q,cap,cur,rfl,a1,Kept2.keep h (cs:=cur) a2 (Nat.lt_of_lt_of_le (Blk.lt a2) hB) (fun e=>h1 (by rw [e];rfl)) (fun e=>h2 (by rw [e];rfl)),a3⟩

theorem RunI.step {w:World} {B g1 g2 g3:Nat} {y:Int} {S:List (Pt×Pt)} {T:List Rn} {w2 W W':World} (h:RunI w B g1 g2 g3 y S T w2 W) (hB:B≤w2.heap.size) (hb:Below W.heap.size W W'):RunI w B g1 g2 g3 y S T w2 W':=by
 obtain ⟨⟨vt,vc,hs⟩,hk,hw⟩:=h
 exact ⟨⟨vt,vc,hs.keep hb⟩,hk.trans (Kept2.of (Nat.le_trans hB hk.size) hb),bT hw hb⟩
set_option maxRecDepth 100000 in
set_option maxHeartbeats 8000000 in
theorem Runs_spec (v:Value) (p:Pl) (w:World) (h:PlV w v p) (hv:Valid p) (gm:Nat) (f:Int→SV) (hpm:PathsM w gm p f) (x:AD) (b:Option (List Int)) (hb:b∈regsX p)
  (ho:Ints w (svV x.ov) x.out) (hi:Sl w (svV x.iv) x.inn.length (x.inn.flatMap cyC)) (hc:∀ c∈x.inn,Ints w (svV c.2) c.1) (ha:Ints w (svV x.av) x.alo) (hcy:(cysAD x).map (·.1)=cysX p b) (hal:x.alo=aloX p b) (y:Int) :
  Calls Tryz.prog 140 #[.map (some gm),v,.agg #[.int .i64 x.tw,svV x.ov,svV x.iv,svV x.av],.int .i64 y] w (RetRns w (runsB p b y)):=by
 have hnl:=hv.nodes_len
 have hli:x.inn.length≤512:=by
  have e1:=congrArg List.length hcy
  have h2:=List.length_filter_le (fun c=>decide (homeP p (cycPt p c)=b)) (resX p)
  have h3:(resX p).length≤(cyclesD p).length:=List.length_filter_le _ _
  have h4:=hv.cycs_len
  unfold cysAD cysX innX at e1
  simp only [List.map_cons,List.length_cons,List.length_map] at e1
  omega
 have hsl:=hv.segB_len hb
 have hal2:x.alo.length≤256:=by rw [hal];exact hv.aloX_len b
 have HCy:=Lib.hid (fun W (hW:Below w.heap.size w W)=>AreaCycles_spec x W (hi.mono hW) (by omega))
 have HNd:=Lib.hid (fun id W (hW:Below w.heap.size w W)=>Node_spec v p id W (h.mono hW))
 have HIn:=Lib.hid (show ∀ c∈cysAD x,Ints w (svV c.2) c.1 from fun c hc'=>by
  unfold cysAD at hc'
  rcases List.mem_cons.1 hc' with rfl | hc'
  · exact ho
  · exact hc c hc')
 have HSo:=Lib.hid (@SortN_spec)
 have HNb:=Lib.hid (fun id n (e:findNd p.nodes id=some n)=>hv.node_big (List.mem_of_find?_eq_some e))
 have HSl:=Lib.hid hsl
 have HMi:=Lib.hid (@Minus_spec)
 have HSg:=Lib.hid (fun w2 vc X hX hd B g1 g2 g3 S hl hB hg1 k1 k2 k3 W h0=>Runs_seg w w2 gm p f hpm hv vc X hX hd B g1 g2 g3 y S hl hB hg1 k1 k2 k3 W h0)
 obtain ⟨CL,hCL⟩:∃ CL,cysAD x=CL:=⟨_,rfl⟩
 obtain ⟨C,hC⟩:∃ C,cysX p b=C:=⟨_,rfl⟩
 have hll:CL.length≤513:=by rw [← hCL];unfold cysAD;rw [List.length_cons];omega
 rw [hCL] at HCy HIn hcy
 rw [hC] at hcy
 have hcd:∀ c∈C,∀ d∈c,d∈dartsD p:=fun c hc=>by rw [← hC] at hc;exact hv.cysX_dart hb hc
 have HCd:=Lib.hid hcd;have HMp:=Lib.hid hcy
 have hlc:C.length=CL.length:=by rw [← hcy,List.length_map]
 have HSB:=Lib.hid (show segB p b=cySg p C C.length by unfold segB cySg;rw [hC,List.take_length])
 have hle:∀ k,(cySg p C k).length≤33280:=fun k=>by
  have:=cySg_le p C k
  have e:C.flatMap (segX p)=segB p b:=by unfold segB;rw [hC]
  rw [e] at this
  omega
 have HLe:=Lib.hid hle;have HLc:=Lib.hid hlc
 obtain ⟨R,hR⟩:∃ R,runsB p b y=R:=⟨_,rfl⟩
 have HR:=Lib.hid (show R=diffR (spnS (gapR (sortZ ((segB p b).flatMap (crsS y))))) (spnS ((segB p b).flatMap (tknS y)++aloB p b y)) from hR.symm)
 rw [hR]
 have HAl:=Lib.hid (show ∀ k,(x.alo.take k).flatMap (aloR p.nodes y)=((aloX p b).take k).flatMap (aloR p.nodes y) from fun k=>by rw [hal])
 have HAb:=Lib.hid (show aloB p b y=x.alo.flatMap (aloR p.nodes y) by unfold aloB;rw [hal])
 have HAi:=Lib.hid ha
 clear hCL hC hcy hcd hlc hle hR hal ho hi hc hpm hb hli hsl
 obtain ⟨_,_,_,al,rfl,-,⟨An,cn,rfl,-⟩,⟨⟨Aa,ca,rfl,-⟩,-⟩,⟨Af,cf,rfl,-⟩⟩:=h
 obtain ⟨tw,out,⟨oa,on,oc⟩,inn,⟨ia,in_,ic⟩,alo,⟨aa,an,ac⟩⟩:=x
 unfold svV at HCy ha ⊢
 simp only at HCy ha hal2 HAl HAb HAi ⊢
 obtain ⟨Ax,cx,he,-⟩:=ha
 injection he with q1 q2 q3
 subst q1 q2 q3
 generalize hnn:p.nodes.length=nn at *
 generalize al.length=na at *
 generalize p.faces.length=nf at *
 clear hv
 go_enter Tryz.func140,Tryz.ntmps140
 go_upto_region 4 with fail
 obtain ⟨W1,hW⟩:∃ W:World,W=((((w.alloc (.cells #[.slice An nn cn,.slice Aa na ca,.slice Af nf cf] 26)).alloc (.cells #[.int .i64 tw,.slice oa on oc,.slice ia in_ ic,.slice aa alo.length ac] 82)).alloc (.cells #[.int .i64 y] 3)).alloc (.cells #[.slice none 0 0] 24)).alloc (.cells #[.slice none 0 0] 124):=⟨_,rfl⟩
 have X5:Blk W1 w.heap.size 26 #[.slice An nn cn,.slice Aa na ca,.slice Af nf cf]:=by rw [hW];exact ((((Blk.made rfl _ _).alloc _).alloc _).alloc _).alloc _
 have X6:Blk W1 (w.heap.size+1) 82 #[.int .i64 tw,.slice oa on oc,.slice ia in_ ic,.slice aa alo.length ac]:=by rw [hW];exact (((Blk.made (by simp) _ _).alloc _).alloc _).alloc _
 have X7:Blk W1 (w.heap.size+1+1) 3 #[.int .i64 y]:=by rw [hW];exact ((Blk.made (by simp) _ _).alloc _).alloc _
 have X9:Blk W1 (w.heap.size+1+1+1) 24 #[.slice none 0 0]:=by rw [hW];exact (Blk.made (by simp) _ _).alloc _
 have X11:Blk W1 (w.heap.size+1+1+1+1) 124 #[.slice none 0 0]:=by rw [hW];exact Blk.made (by simp) _ _
 have hA:Below w.heap.size w W1:=by rw [hW];exact bA (bA (bA (bA (bA (bR w) _) _) _) _) _
 have hsz:W1.heap.size=w.heap.size+5:=by rw [hW];simp
 have HA:=Lib.hid hA;have HX5:=Lib.hid X5;have HX6:=Lib.hid X6;have HX7:=Lib.hid X7;have HX9:=Lib.hid X9;have HX11:=Lib.hid X11
 rw [← hW]
 clear hW hA
 obtain ⟨g5,h5⟩:∃ g,w.heap.size=g:=⟨_,rfl⟩
 obtain ⟨g6,h6⟩:∃ g,w.heap.size+1=g:=⟨_,rfl⟩
 obtain ⟨g7,h7⟩:∃ g,w.heap.size+1+1=g:=⟨_,rfl⟩
 obtain ⟨g9,h9⟩:∃ g,w.heap.size+1+1+1=g:=⟨_,rfl⟩
 obtain ⟨g11,h11⟩:∃ g,w.heap.size+1+1+1+1=g:=⟨_,rfl⟩
 have hn:w.heap.size≤g5∧g5<g6∧g6<g7∧g7<g9∧g9<g11∧g11<W1.heap.size:=by omega
 rw [h11] at X11 HX11 ⊢
 rw [h9] at X9 HX9 ⊢
 rw [h7] at X7 HX7 ⊢
 rw [h6] at X6 HX6 ⊢
 rw [h5] at X5 HX5 ⊢
 clear h5 h6 h7 h9 h11
 obtain ⟨X6l,X6a,X6b,X6c,X6d,-,-,-,-⟩:=X6.facts4
 go_wp2_with fail
 refine (HCy.out _ HA.out).mono ?_
 rintro e w2 ⟨⟨Ac,cc,rfl,hown⟩,hb2⟩
 have HO:=Lib.hid hown
 have HB2:=Lib.hid (bT HA.out hb2)
 have HS0:=Lib.hid (show RowSt w2 w2.heap.size g7 g11 g9 y [] [] (.slice none 0 0) (.slice none 0 0) from ⟨HX7.out.keep hb2,⟨HX11.out.keep hb2,Own.nil _ _ _ _ _⟩,⟨HX9.out.keep hb2,Own.nil _ _ _ _ _⟩⟩)
 have hs2:=hb2.size
 replace HX5:=Lib.hid (HX5.out.keep hb2);replace HX6:=Lib.hid (HX6.out.keep hb2)
 have hw2:w.heap.size≤w2.heap.size:=by omega
 clear hb2 hown HCy HA HX7 HX9 HX11 X5 X6 X6l X6a X6b X6c X6d X7 X9 X11
 go_upto_block 0 with fail
 go_wp2_with fail
 go_loopw [24] (fun i wr=>∃ k:Nat,k≤CL.length∧i=.int .i64 k∧RunI w w2.heap.size g7 g11 g9 y (cySg p C k) [] w2 wr) (fun i _=>CL.length-(intOf i).toNat)
 case atStart => exact ⟨0,Nat.zero_le _,rfl,⟨⟨_,_,HS0.out⟩,Kept2.refl _ _ _ _,HB2.out⟩⟩
 case round =>
  obtain ⟨k,hk,rfl,hr⟩:=hrel
  obtain ⟨wo,rfl⟩:∃ wo:World,wo=wr:=⟨_,rfl⟩
  have HRu:=Lib.hid hr
  clear hr HS0
  by_cases hlt:k<CL.length
  ·
   have hOr:=HRu.out.kept.own HO.out (Nat.le_refl _) (fun e=>by have:=(HO.out.lt g11 e).1;omega) (fun e=>by have:=(HO.out.lt g9 e).1;omega)
   obtain ⟨A',c',he,-,-,hRc⟩:=hOr.sl
   injection he with q1 q2 q3
   subst q1 q3
   clear q2
   obtain ⟨b',o',rfl,hlb,c0⟩:=hRc.cy hlt
   have hkC:k<C.length:=by rw [HLc.out];exact hlt
   have hCk:=getElem_map_fst HMp.out hlt hkC
   have hcs:=cySg_succ p hkC
   have hl1:=HLe.out (k+1)
   have hii:=HIn.out _ (List.getElem_mem hlt)
   have hdd:=HCd.out _ (List.getElem_mem hkC)
   rw [hCk] at hcs hdd
   rw [hcs,List.length_append] at hl1
   have HC:=Lib.hid (fun W h0=>HSg.out w2 _ _ hii hdd w2.heap.size g7 g11 g9 (cySg p C k) (by omega) (Nat.le_refl _) (by omega) hw2 (by omega) (by omega) W h0)
   generalize CL[k]=X at *
   obtain ⟨X,⟨sa,sn,sc⟩⟩:=X
   unfold svV at HC
   simp only at c0 HC hcs
   have HCs:=Lib.hid hcs
   clear hOr hRc hii hdd hCk hkC hcs hl1
   go_wp2_with fail
   refine (HC.out _ HRu.out).mono ?_
   rintro e w4 ⟨rfl,hr2⟩
   have HR2:=Lib.hid hr2
   clear hr2
   go_wp2_with fail
   go_roundw
   case rel => exact ⟨k+1,by omega,by go_num,by rw [HCs.out];exact HR2.out⟩
   case measure => simp [intOf];omega
  ·
   obtain rfl:k=CL.length:=by omega
   have hru:=HRu.out
   rw [← HLc.out,← HSB.out] at hru
   have HR1:=Lib.hid hru
   clear hru HRu
   have hw3:=HR1.out.kept.size
   have X6:=HR1.out.kept.keep HX6.out (by omega) (by omega) (by omega)
   obtain ⟨wA,rfl⟩:∃ wA:World,wA=wo:=⟨_,rfl⟩
   clear HSg HIn HCd HMp HLe HO HSB HB2 HX6
   try clear X6l
   try clear X6a
   try clear X6b
   try clear X6c
   try clear X6d
   obtain ⟨X6l,X6a,X6b,X6c,X6d,-,-,-,-⟩:=X6.facts4
   go_upto_block 2 with fail
   clear X6 X6l X6a X6b X6c X6d
   go_wp2_with fail
   go_loopw [36] (fun i wr=>∃ k:Nat,k≤alo.length∧i=.int .i64 k∧RunI w w2.heap.size g7 g11 g9 y (segB p b) ((alo.take k).flatMap (aloR p.nodes y)) w2 wr) (fun i _=>alo.length-(intOf i).toNat)
   case atStart => exact ⟨0,Nat.zero_le _,rfl,HR1.out⟩
   case round =>
    obtain ⟨k,hk,rfl,hr⟩:=hrel
    obtain ⟨wo,rfl⟩:∃ wo:World,wo=wr:=⟨_,rfl⟩
    have HRu:=Lib.hid hr
    clear hr HR1
    by_cases hlt:k<alo.length
    ·
     obtain ⟨A',c',he,-,-,hRc⟩:=HAi.out.mono HRu.out.below
     injection he with q1 q2 q3
     subst q1 q3
     clear q2
     obtain ⟨b',o',rfl,hlb,c0⟩:=hRc.int hlt
     have hts:(alo.take (k+1)).flatMap (aloR p.nodes y)=(alo.take k).flatMap (aloR p.nodes y)++aloR p.nodes y alo[k]:=by
      rw [List.take_succ_eq_append_getElem hlt,List.flatMap_append]
      simp
     obtain ⟨F,hF⟩:∃ F,aloR p.nodes y alo[k]=F:=⟨_,rfl⟩
     rw [hF] at hts
     have HTs:=Lib.hid hts
     have hlen:((alo.take k).flatMap (aloR p.nodes y)).length≤256:=by
      have:=flat_one (aloR p.nodes y) (alo_one p.nodes y) (alo.take k)
      rw [List.length_take] at this
      omega
     clear hts hRc
     unfold aloR at hF
     generalize alo[k]=id at *
     have hs3:=HRu.out.kept.size
     have X5:=HRu.out.kept.keep HX5.out (by omega) (by omega) (by omega)
     have HN:=Lib.hid (fun W (hW:Below wo.heap.size wo W)=>HNd.out id W (bT HRu.out.below hW))
     unfold ndRes at HN
     obtain ⟨fn,hfn⟩:∃ fn,findNd p.nodes id=fn:=⟨_,rfl⟩
     rw [hfn] at HN hF
     have HF:=Lib.hid hF
     have HBg:=Lib.hid (fun n (e:fn=some n)=>HNb.out id n (hfn.trans e))
     clear hfn hF
     obtain ⟨X5l,X5a,X5b,X5c,-,-,-⟩:=X5.facts3
     cases fn with
     | none =>
      replace HN:=Lib.hid (show ∀ W,Below wo.heap.size wo W→Calls Tryz.prog 74 #[.agg #[.slice An nn cn,.slice Aa na ca,.slice Af nf cf],.int .i64 id] W fun e w'=>e=.returned (.tuple #[.agg #[.int .i64 0,.int .i64 0,.int .i64 0],.bool false])∧Below W.heap.size W w' from HN.out)
      go_wp2_with fail
      refine (HN.out _ (bR wo)).mono ?_
      rintro e w4 ⟨rfl,hb4⟩
      have HB4:=Lib.hid hb4
      clear hb4 X5 X5l X5a X5b X5c HN
      go_wp2_with fail
      go_roundw
      case rel =>
       have hf:F=[]:=HF.out.symm
       exact ⟨k+1,by omega,by go_num,by rw [HTs.out,hf,List.append_nil];exact HRu.out.step (Nat.le_refl _) (bA HB4.out _)⟩
      case measure => simp [intOf];omega
     | some n =>
      have hbg:=(HBg.out n rfl).1
      obtain ⟨ni,⟨nx,ny⟩⟩:=n
      simp only at hbg
      replace HN:=Lib.hid (show ∀ W,Below wo.heap.size wo W→Calls Tryz.prog 74 #[.agg #[.slice An nn cn,.slice Aa na ca,.slice Af nf cf],.int .i64 id] W fun e w'=>e=.returned (.tuple #[.agg #[.int .i64 ni,.int .i64 nx,.int .i64 ny],.bool true])∧Below W.heap.size W w' from HN.out)
      have hf:F=if ny=y then [⟨nx,nx+1⟩] else []:=HF.out.symm
      have HF2:=Lib.hid hf
      clear hf HF
      go_wp2_with fail
      refine (HN.out _ (bR wo)).mono ?_
      rintro e w4 ⟨rfl,hb4⟩
      have HB4:=Lib.hid hb4
      clear hb4 X5 X5l X5a X5b X5c HN
      go_upto_region 13 with fail
      obtain ⟨W5,hW⟩:∃ W:World,W=w4.alloc (.cells #[.int .i64 ni,.int .i64 nx,.int .i64 ny] 45):=⟨_,rfl⟩
      have X17:Blk W5 w4.heap.size 45 #[.int .i64 ni,.int .i64 nx,.int .i64 ny]:=by rw [hW];exact Blk.made rfl _ _
      have HRv:=Lib.hid (HRu.out.step (Nat.le_refl _) (show Below wo.heap.size wo W5 by rw [hW];exact bA HB4.out _))
      obtain ⟨g17,h17⟩:∃ g,w4.heap.size=g:=⟨_,rfl⟩
      rw [← hW]
      try rw [h17]
      rw [h17] at X17
      clear hW h17 HRu HB4
      obtain ⟨⟨vt,vc,hst⟩,hkp,hbw⟩:=HRv.out
      have HSt:=Lib.hid hst;have HKp:=Lib.hid hkp;have HBw:=Lib.hid hbw
      have XR:=hst.row
      clear hst hkp hbw HRv
      obtain ⟨X17l,X17a,X17b,X17c,-,-,-⟩:=X17.facts3
      obtain ⟨XRl,XRa,-⟩:=XR.facts1
      by_cases hy:ny=y
      ·
       have hf:=HF2.out
       rw [if_pos hy] at hf
       subst hf
       subst hy
       have hll:((segB p b).flatMap (tknS ny)++(alo.take k).flatMap (aloR p.nodes ny)).length≤40000:=by
        have:=flat_one (tknS ny) (tkn_one ny) (segB p b)
        have:=HSl.out
        rw [List.length_append]
        omega
       obtain ⟨L,hL⟩:∃ L,(segB p b).flatMap (tknS ny)++(alo.take k).flatMap (aloR p.nodes ny)=L:=⟨_,rfl⟩
       rw [hL] at HSt hll
       have HL:=Lib.hid hL
       obtain ⟨At,ct,hvt,-⟩:=HSt.out.tkn.own.sl
       subst hvt
       have hB5:w2.heap.size≤W5.heap.size:=HKp.out.size
       have X11:=HSt.out.tkn.box
       have HX11:=Lib.hid X11
       have kw:IntKind.i64.wrap (nx+1)=nx+1:=IntWalk.i64_in _ (by omega)
       have hsh:(L++[(⟨nx,nx+1⟩:Rn)]).length=L.length+1:=by simp
       have HSh:=Lib.hid hsh
       clear hL hsh HF2
       obtain ⟨X11l,X11a,X11fa⟩:=X11.facts1
       go_wp2_with
        (at_builtin
         refine wpList_appl _ rfl (.tmp 54) (.tmp 63) _ rfl (base:=w2.heap.size) elem_rn rnC_len rnC_one rfl (Own.alloc HSt.out.tkn.own _) rfl (l2:=[(⟨nx,nx+1⟩:Rn)]) (Sl.lit (n:=1) (Blk.made rfl _ _) rfl (le_maxLen (by omega))) (by simp only [List.length_cons,List.length_nil];omega) (by simp only [List.length_cons,List.length_nil];omega) (by simp;omega) ?_
         intro v3 w3 ho3 hg3 hat3
         obtain ⟨A3,c3,hv3,-⟩:=ho3.sl
         rw [HSh.out] at hv3
         subst hv3
         have HG:=Lib.hid (HSt.out.addT HKp.out.size hg3 ho3)
         have X43:=Blk.grown (HX11.out.alloc _) hg3 (fun e=>Own.ne_blk HSt.out.tkn.own HX11.out (by decide) e.symm)
         clear ho3 hg3 hat3 X11 X11l X11a X11fa
         obtain ⟨X43l,X43a,X43fa⟩:=X43.facts1
         )
       go_roundw
       case rel => exact ⟨k+1,by omega,by go_num,⟨⟨_,_,by rw [HTs.out,← List.append_assoc,HL.out];exact HG.out.1⟩,HKp.out.trans HG.out.2,HG.out.2.below w HBw.out hw2 (by omega) (by omega)⟩⟩
       case measure => simp [intOf];omega
      ·
       have hf:=HF2.out
       rw [if_neg hy] at hf
       have HFn:=Lib.hid hf
       clear hf HF2
       go_wp2_with fail
       go_roundw
       case rel => exact ⟨k+1,by omega,by go_num,by rw [HTs.out,HFn.out,List.append_nil];exact ⟨⟨_,_,HSt.out⟩,HKp.out,HBw.out⟩⟩
       case measure => simp [intOf];omega
    ·
     obtain rfl:k=alo.length:=by omega
     have hru:=HRu.out
     rw [List.take_length,← HAb.out] at hru
     obtain ⟨⟨vt,vc,hst⟩,hkp,hbw⟩:=hru
     have hlt1:((segB p b).flatMap (tknS y)++aloB p b y).length≤40000:=by
      have h1:=flat_one (tknS y) (tkn_one y) (segB p b)
      have h2:=flat_one (aloR p.nodes y) (alo_one p.nodes y) alo
      have h3:=HSl.out
      rw [HAb.out,List.length_append]
      omega
     have hlc1:((segB p b).flatMap (crsS y)).length≤33280:=Nat.le_trans (flat_one (crsS y) (crs_one y) (segB p b)) HSl.out
     have hr0:=HR.out
     obtain ⟨L,hL⟩:∃ L,(segB p b).flatMap (tknS y)++aloB p b y=L:=⟨_,rfl⟩
     obtain ⟨M,hM⟩:∃ M,(segB p b).flatMap (crsS y)=M:=⟨_,rfl⟩
     rw [hL] at hst hlt1 hr0
     rw [hM] at hst hlc1 hr0
     have HR2:=Lib.hid hr0
     have HSt:=Lib.hid hst;have HKp:=Lib.hid hkp;have HBw:=Lib.hid hbw
     obtain ⟨wB,rfl⟩:∃ wB:World,wB=wo:=⟨_,rfl⟩
     clear hL hM hr0 hst hkp hbw HR HRu HNd HNb HSl HAl HAb HAi HX5
     obtain ⟨Am,cm,hvc,hm1,hm2,-⟩:=HSt.out.crs.own.sl
     subst hvc
     have X9:=HSt.out.crs.box
     obtain ⟨X9l,X9a,-⟩:=X9.facts1
     have hMl:=HSt.out.crs.own
     go_wp2_with fail
     refine (HSo.out w2.heap.size _ M _ hMl (by omega)).mono ?_
     rintro e w3 ⟨rfl,hq,hg3⟩
     have hMl':=Own.ne_blk hMl HSt.out.crs.box (by decide)
     have hB3:Below w.heap.size w w3:=bG HBw.out hg3 (fun k hk=>Nat.le_trans hw2 (hMl.lt k hk).1)
     have HQo:=Lib.hid hq
     have HX9:=Lib.hid (Blk.grown HSt.out.crs.box hg3 (fun e=>hMl' e.symm))
     have HTb:=Lib.hid (Blk.grown HSt.out.tkn.box hg3 (fun e=>Own.ne_blk hMl HSt.out.tkn.box (by decide) e.symm))
     have HTo:=Lib.hid (Own.grown HSt.out.tkn.own hg3 (fun g hg=>Own.apart HSt.out.tkn.own hMl (by decide) g hg))
     have HB3:=Lib.hid hB3
     have hq2:=ascL_eq M
     have hql:=ascL_len M
     obtain ⟨Q,hQ⟩:∃ Q,ascL M=Q:=⟨_,rfl⟩
     rw [hQ] at HQo hq2 hql
     rw [← hq2] at HR2
     rw [← hql] at hlc1 HX9 HQo ⊢
     obtain ⟨wC,rfl⟩:∃ wC:World,wC=w3:=⟨_,rfl⟩
     clear hQ hq2 hql hq hg3 hMl hMl' hB3 HSt HKp HBw X9 X9l X9a HSo
     go_upto_block 4 with fail
     go_wp2_with fail
     go_loopw [19,10] (fun i s wr=>∃ (j:Nat) (O:List Rn),j≤Q.length∧i=.int .i64 ((j:Int)+1)∧(∃ A c,s=.slice A O.length c)∧Own wr wC.heap.size 121 2 rnC s O∧(∃ m,j=2*m∧O=gapR (Q.take j))∧Below wC.heap.size wC wr) (fun i _ _=>Q.length-(intOf i).toNat)
     case atStart => exact ⟨0,[],Nat.zero_le _,rfl,⟨_,_,rfl⟩,Own.nil _ _ _ _ _,⟨0,rfl,rfl⟩,bR wC⟩
     case round =>
      obtain ⟨j,O,hj,rfl,⟨Ao,co,rfl⟩,hoo,hjm,hbo⟩:=hrel
      obtain ⟨wo,rfl⟩:∃ wo:World,wo=wr:=⟨_,rfl⟩
      have HOo:=Lib.hid hoo;have HJm:=Lib.hid hjm;have HBo:=Lib.hid hbo
      have X9:=HX9.out.keep hbo
      have hszo:=hbo.size
      have hOl:O.length≤40000:=by
       obtain ⟨m,-,rfl⟩:=hjm
       have:=gapR_len _ (Q.take j) (Nat.le_refl _)
       have:=List.length_take_le j Q
       omega
      clear hoo hjm hbo
      by_cases hlt:j+1<Q.length
      ·
       obtain ⟨Aq,cq,he,-,-,hRq⟩:=HQo.out.sl
       injection he with q1 q2 q3
       subst q1 q3
       clear q2
       obtain ⟨b',o',rfl,hlb,c0⟩:=Row.int hRq (k:=j) (by omega)
       obtain ⟨b'',o'',he,-,c1⟩:=Row.int hRq hlt
       injection he with he
       injection he with q1 q2 _
       subst q1 q2
       replace c0:=keepc HBo.out c0
       replace c1:=keepc HBo.out c1
       have hg9:=HX9.out.lt
       have hlo:b'<wo.heap.size:=Nat.lt_of_lt_of_le hlb hszo
       have hgt:∀ m,j=2*m→gapR (Q.take (j+2))=gapR (Q.take j)++addR (Q[j]'(by omega)) Q[j+1]:=fun m hm=>by
        subst hm
        exact gapR_two m Q hlt
       have HGt:=Lib.hid hgt
       clear hgt hRq
       generalize Q[j+1]=x2 at *
       generalize Q[j]=x1 at *
       have k2:IntKind.i64.wrap ((j:Int)+1-1)=j:=by rw [show (j:Int)+1-1=j by omega];exact IntWalk.i64_in _ (by omega)
       have k3:(j:Int)<Q.length:=by omega
       have k8:IntKind.i64.wrap (j:Int)=j:=IntWalk.i64_in _ (by omega)
       have k4:0≤(j:Int):=by omega
       have k5:(j:Int)+1-1=j:=by omega
       have k6:(j:Int)+1<Q.length:=by omega
       have k7:0≤(j:Int)+1:=by omega
       try clear X9l
       try clear X9a
       obtain ⟨X9l,X9a,-⟩:=X9.facts1
       go_upto_region 20 with fail
       refine rg_start (Since wo) (.run 10 0 0 (.done)) (by kernel_rfl) (bD (bR _)) (by kernel_rfl) (by kernel_rfl) (Nat.le_of_ble_eq_true (by kernel_rfl)) ?_
       intro opsR QR Hops HQrg hS
       iterate 10
        apply rg_p;exact Hops;exact rfl;exact hS;exact rfl
        · intro _ hqc;go_simp;try rfl
        try simp only [pu]
       refine rg_done ?_
       refine HQrg.down _ _ ?_
       have hB:Below wo.heap.size wo wo.drew:=hS
       clear hS HQrg Hops
       skip
       obtain ⟨wd,hwd⟩:∃ wd:World,wd=wo.drew:=⟨_,rfl⟩
       have HX9d:=Lib.hid (X9.keep hB);have HOd:=Lib.hid (HOo.out.keep hB);have HBd:=Lib.hid (bT HBo.out hB)
       have d0:=keepc hB c0
       have d1:=keepc hB c1
       have hld:b'<wd.heap.size:=by rw [hwd];exact Nat.lt_of_lt_of_le (Nat.lt_of_lt_of_le hlb hszo) hB.size
       have hszd:wC.heap.size≤wd.heap.size:=by rw [hwd];exact Nat.le_trans hszo hB.size
       rw [← hwd] at HX9d HOd HBd d0 d1 ⊢
       clear hwd hB X9 X9l X9a c0 c1 HOo HBo hszo hlo
       have X9:=HX9d.out
       by_cases hx:x1<x2
       ·
        have hsh:(O++[(⟨x1,x2⟩:Rn)]).length=O.length+1:=by simp
        have HSh:=Lib.hid hsh
        clear hsh
        try clear X9l
        try clear X9a
        obtain ⟨X9l,X9a,-⟩:=X9.facts1
        go_upto_region 21 with fail
        refine rg_start (SinceB (wC.heap.size) wd) (.run 11 0 0 (.call 11 4095 (.call 12 8191 (.take 13 16383 (.done))))) (by kernel_rfl) (Below.drew (Below.refl _ _)) (by kernel_rfl) (by kernel_rfl) (Nat.le_of_ble_eq_true (by kernel_rfl)) ?_
        intro opsR QR Hops HQrg hS
        iterate 11
         apply rg_pB;exact Hops;exact rfl;exact hS;exact rfl
         · intro _ hqc;go_simp;try rfl
         try simp only [pu]
        refine rg_call (i:=11) (get_of Hops rfl) (fun K hK=>?_)
        have HSrg:=Lib.hid hS;clear hS
        refine rg_run (wanted_plain rfl) ?_
        go_simp
        refine hK.out _ _ (bAB (by omega) HSrg.out _) (fun hS=>?_)
        clear hK K HSrg
        try simp only [pu]
        refine rg_call (i:=12) (get_of Hops rfl) (fun K hK=>?_)
        have HSrg:=Lib.hid hS;clear hS
        refine rg_run (wanted_plain rfl) ?_
        refine wp_appl (.tmp 84) (.tmp 95) _ rfl (base:=wC.heap.size) (l:=O) (l2:=[⟨x1,x2⟩]) elem_rn rnC_len rnC_one rfl (Own.alloc (HOd.out.keep (bD (bR wd))) _) rfl (Sl.lit (n:=1) (Blk.made rfl _ _) rfl (le_maxLen (by omega))) (by simp only [List.length_cons,List.length_nil];omega) (by simp only [List.length_cons,List.length_nil];omega) (by simp;omega) ?_
        intro v9 wn hon9 hgn hatn
        obtain ⟨A9,c9,hv9,-⟩:=Own.shape_ hon9
        rw [HSh.out] at hv9
        subst hv9
        have Hon9:=Lib.hid hon9
        have hS:SinceB wC.heap.size wd wn:=Below.grown (Below.alloc (Below.drew (Below.refl _ _)) (by simp;omega) _) hgn (by simp;omega) (fun g hg=>(HOd.out.lt g hg).1)
        clear hon9 hgn hatn
        clear HSrg
        refine hK.out _ _ hS (fun _=>?_)
        clear hK K
        try simp only [pu]
        apply rg_pB;exact Hops;exact rfl;exact hS;exact rfl
        · intro _ hqc;go_simp;try rfl
        try simp only [pu]
        refine rg_done ?_
        refine HQrg.down _ _ ?_
        have hB:Below (wC.heap.size) wd _:=hS
        clear hS HQrg Hops
        go_wp2_with fail
        go_roundw
        case rel => exact ⟨j+2,O++[⟨x1,x2⟩],by omega,by go_num,⟨A9,c9,by rw [HSh.out]⟩,Hon9.out,(by obtain ⟨m,h1,h2⟩:=HJm.out;exact ⟨m+1,by omega,by rw [HGt.out m h1,← h2];unfold addR;rw [if_pos hx]⟩),Below.trans HBd.out hB⟩
        case measure => simp [intOf];omega
       ·
        go_wp2_with fail
        go_roundw
        case rel => exact ⟨j+2,O,by omega,by go_num,⟨_,_,rfl⟩,HOd.out,(by obtain ⟨m,h1,h2⟩:=HJm.out;exact ⟨m+1,by omega,by rw [HGt.out m h1,← h2];unfold addR;rw [if_neg hx,List.append_nil]⟩),HBd.out⟩
        case measure => simp [intOf];omega
      ·
       obtain ⟨m,h1,h2⟩:=HJm.out
       have hOe:O=gapR Q:=by
        rw [h2,h1]
        exact gapR_end m Q (by omega) (by omega)
       have hr:=HR2.out
       rw [← hOe] at hr
       have HRf:=Lib.hid hr
       have HBf:=Lib.hid (bT HB3.out HBo.out)
       obtain ⟨At,ct,hvt,-⟩:=HTo.out.sl
       subst hvt
       have X11:=HTb.out.keep HBo.out
       have HTf:=Lib.hid (HTo.out.keep HBo.out)
       clear hr hOe h2 HJm HX9 HQo HTb HTo HB3 HR2
       try clear X9l
       try clear X9a
       obtain ⟨X9l,X9a,-⟩:=X9.facts1
       try clear X11l
       try clear X11a
       try clear X11fa
       obtain ⟨X11l,X11a,-⟩:=X11.facts1
       by_cases h0:O.length=0
       ·
        have hO:O=[]:=List.length_eq_zero_iff.1 h0
        have hz:((O.length:Nat):Int)=0:=by omega
        have hr:=HRf.out
        rw [hO,diff_nil] at hr
        have HR0:=Lib.hid hr
        clear hr hO
        go_wp2_with fail
        go_ret
        exact ⟨none,0,by rw [HR0.out];rfl,by rw [HR0.out];exact Own.nil _ _ _ _ _,HBf.out⟩
       ·
        have hz:¬ ((O.length:Nat):Int)=0:=by omega
        go_wp2_with fail
        refine (HMi.out _ _ O L wo HOo.out.sl HTf.out.sl (by omega) (by omega)).mono ?_
        rintro e w5 ⟨A,c,rfl,ho5,hb5⟩
        rw [← HRf.out] at ho5 ⊢
        have HO5:=Lib.hid ho5;have HB5:=Lib.hid (bT HBf.out hb5)
        have hsz5:=HBf.out.size
        clear ho5 hb5
        go_wp2_with fail
        go_ret
        exact ⟨A,c,rfl,HO5.out.mono_base hsz5,HB5.out⟩
end Go.Proofs.YtialfdomhoojiaaGreat
namespace Go.Proofs.YtialfdomhoojiaaGreat
open Go.RowKit

def optPt (o:Option Pt):Value:=match o with
 | none=>.tuple #[.agg #[.int .i64 0,.int .i64 0],.bool false]
 | some v=>.tuple #[.agg #[.int .i64 v.x,.int .i64 v.y],.bool true]
def midRs (p:Pl) (b:Option (List Int)) (y:Int):Option Pt:=((midS (runsB p b y)).2).map fun x=>⟨x,y⟩
theorem Valid.runs_bd {p:Pl} (h:Valid p) {X:List Int} (hX:X∈outX p) {y:Int} {r:Rn} (hr:r∈runsB p (some X) y):(-2097152≤r.lo∧r.lo≤2097152)∧(-2097152≤r.hi∧r.hi≤2097153):=by
 have hv:RVal (runsB p (some X) y):=(diffR_facts _ _ (spnS_facts _).1 (spnS_facts _).1).1
 have h0:=hv.1 r hr
 have n1:=h.runs_pt hX (y:=y) (x:=r.lo) ⟨r,hr,Int.le_refl _,h0⟩
 have n2:=h.runs_pt hX (y:=y) (x:=r.hi-1) ⟨r,hr,by omega,by omega⟩
 rw [near1_iff] at n1 n2
 simp only at n1 n2
 omega

set_option maxRecDepth 100000 in
set_option maxHeartbeats 8000000 in
theorem WMiddle_spec (v:Value) (p:Pl) (w:World) (h:PlV w v p) (hv:Valid p) (gm:Nat) (f:Int→SV) (hpm:PathsM w gm p f) (x:AD) (X:List Int) (hX:X∈outX p)
  (ho:Ints w (svV x.ov) x.out) (hi:Sl w (svV x.iv) x.inn.length (x.inn.flatMap cyC)) (hc:∀ c∈x.inn,Ints w (svV c.2) c.1) (ha:Ints w (svV x.av) x.alo) (hcy:(cysAD x).map (·.1)=cysX p (some X)) (hal:x.alo=aloX p (some X)) (y:Int) :
  Calls Tryz.prog 82 #[.map (some gm),v,.agg #[.int .i64 x.tw,svV x.ov,svV x.iv,svV x.av],.int .i64 y] w fun e w'=>e=.returned (optPt (midRs p (some X) y))∧Below w.heap.size w w':=by
 have hb:some X∈regsX p:=List.mem_cons_of_mem _ (List.mem_map_of_mem hX)
 have HRu:=Lib.hid (fun W (hW:Below w.heap.size w W)=>Runs_spec v p W (h.mono hW) hv gm f (hpm.keep hW) x (some X) hb (ho.mono hW) (hi.mono hW) (fun c hc'=>(hc c hc').mono hW) (ha.mono hW) hcy hal y)
 have HBd:=Lib.hid (fun r hr=>hv.runs_bd hX (y:=y) (r:=r) hr)
 obtain ⟨R,hR⟩:∃ R,runsB p (some X) y=R:=⟨_,rfl⟩
 unfold midRs
 rw [hR] at HRu HBd ⊢
 clear hR hb hpm hX ho hi hc ha hcy hal hv
 obtain ⟨_,_,_,al,rfl,-,⟨An,cn,rfl,-⟩,⟨⟨Aa,ca,rfl,-⟩,-⟩,⟨Af,cf,rfl,-⟩⟩:=h
 obtain ⟨tw,out,⟨oa,on,oc⟩,inn,⟨ia,in_,ic⟩,alo,⟨aa,an,ac⟩⟩:=x
 unfold svV at HRu ⊢
 simp only at HRu ⊢
 generalize p.nodes.length=nn at *
 generalize al.length=na at *
 generalize p.faces.length=nf at *
 obtain ⟨q,hq⟩:∃ q,((midS R).2.map fun x=>(⟨x,y⟩:Pt))=q:=⟨_,rfl⟩
 rw [hq]
 have HQ:=Lib.hid hq
 clear hq
 go_enter Tryz.func82,Tryz.ntmps82
 go_upto_region 2 with fail
 obtain ⟨W1,hW⟩:∃ W:World,W=((w.alloc (.cells #[.slice An nn cn,.slice Aa na ca,.slice Af nf cf] 26)).alloc (.cells #[.int .i64 tw,.slice oa on oc,.slice ia in_ ic,.slice aa an ac] 82)).alloc (.cells #[.int .i64 0,.int .i64 0] 39):=⟨_,rfl⟩
 have X5:Blk W1 w.heap.size 26 #[.slice An nn cn,.slice Aa na ca,.slice Af nf cf]:=by rw [hW];exact ((Blk.made rfl _ _).alloc _).alloc _
 have X6:Blk W1 (w.heap.size+1) 82 #[.int .i64 tw,.slice oa on oc,.slice ia in_ ic,.slice aa an ac]:=by rw [hW];exact (Blk.made (by simp) _ _).alloc _
 have X8:Blk W1 (w.heap.size+1+1) 39 #[.int .i64 0,.int .i64 0]:=by rw [hW];exact Blk.made (by simp) _ _
 have HA:=Lib.hid (show Below w.heap.size w W1 by rw [hW];exact bA (bA (bA (bR w) _) _) _)
 rw [← hW]
 clear hW
 obtain ⟨g8,h8⟩:∃ g,w.heap.size+1+1=g:=⟨_,rfl⟩
 have hg8:w.heap.size≤g8:=by omega
 rw [h8] at X8 ⊢
 have HX8:=Lib.hid X8
 clear h8 X8
 obtain ⟨X5l,X5a,X5b,X5c,-,-,-⟩:=X5.facts3
 obtain ⟨X6l,X6a,X6b,X6c,X6d,-,-,-,-⟩:=X6.facts4
 go_wp2_with fail
 refine (HRu.out _ HA.out).mono ?_
 rintro e w2 ⟨A,c,rfl,hown,hb2⟩
 have HO:=Lib.hid (hown.mono_base HA.out.size);have HB2:=Lib.hid (bT HA.out hb2)
 have HX:=Lib.hid (HX8.out.keep hb2)
 have hRl:R.length≤9223372036854775807:=by
  obtain ⟨_,_,_,h1,h2,-⟩:=hown.sl
  unfold maxLen at h2
  omega
 clear hown hb2 HX8 HRu HA X5 X5l X5a X5b X5c X6 X6l X6a X6b X6c X6d
 go_upto_block 0 with fail
 go_wp2_with fail
 go_loopw [20,10,9] (fun i m ok wr=>∃ (k:Nat) (s:Int×Option Int),k≤R.length∧i=.int .i64 k∧midS (R.take k)=s∧m=.int .i64 s.1∧ok=.bool s.2.isSome∧Own wr w.heap.size 121 2 rnC (.slice A R.length c) R∧Blk wr g8 39 #[.int .i64 (s.2.getD 0),.int .i64 (if s.2.isSome=true then y else 0)]∧Below w.heap.size w wr) (fun i _ _ _=>R.length-(intOf i).toNat)
 case atStart => exact ⟨0,(0,none),Nat.zero_le _,rfl,rfl,rfl,rfl,HO.out,HX.out,HB2.out⟩
 case round =>
  obtain ⟨k,s,hk,rfl,hs,rfl,rfl,hO,X8,hbw⟩:=hrel
  obtain ⟨wo,rfl⟩:∃ wo:World,wo=wr:=⟨_,rfl⟩
  have HO2:=Lib.hid hO;have HX2:=Lib.hid X8;have HBw:=Lib.hid hbw
  by_cases hlt:k<R.length
  ·
   obtain ⟨A',c',he,-,-,hRc⟩:=hO.sl
   injection he with q1 q2 q3
   subst q1 q3
   clear q2
   obtain ⟨b',o',rfl,hlb,c0,c1⟩:=hRc.rn hlt
   have hst:=midS_take hlt
   rw [hs] at hst
   have hbd:=HBd.out _ (List.getElem_mem hlt)
   generalize R[k]=r at *
   obtain ⟨lo,hi⟩:=r
   obtain ⟨m0,o⟩:=s
   simp only at c0 c1 hbd
   unfold midStep at hst
   simp only at hst
   have HSt:=Lib.hid hst
   have k1:IntKind.i64.wrap (hi-lo)=hi-lo:=IntWalk.i64_in _ (by omega)
   have k2:IntKind.i64.wrap (lo+hi)=lo+hi:=IntWalk.i64_in _ (by omega)
   have k3:IntKind.i64.wrap (lo+hi-1)=lo+hi-1:=IntWalk.i64_in _ (by omega)
   clear hs hst hO hRc HO HX HB2 hbw
   by_cases hgt:m0<hi-lo
   ·
    have hst:=HSt.out
    rw [if_pos hgt] at hst
    have HSn:=Lib.hid hst
    have X8b:=X8
    clear hst HSt
    try clear X8b
    obtain ⟨X8l,X8a,X8b,X8fa,X8fb⟩:=X8.facts2
    go_wp2_with fail
    have hne:=Own.ne_blk HO2.out HX2.out (by decide)
    go_roundw
    case measure => simp [intOf];omega
    case rel => exact ⟨k+1,_,by omega,by go_num,HSn.out,rfl,rfl,((HO2.out.far (p:=⟨g8,0,none⟩) hne _).far (p:=⟨g8,1,none⟩) hne _).alloc _,(Blk.put2 HX2.out).alloc _,bA (bS (p:=⟨g8,1,none⟩) (bS (p:=⟨g8,0,none⟩) HBw.out hg8 _) hg8 _) _⟩
   ·
    have hst:=HSt.out
    rw [if_neg hgt] at hst
    have HSn:=Lib.hid hst
    clear hst HSt
    go_wp2_with fail
    go_roundw
    case measure => simp [intOf];omega
    case rel => exact ⟨k+1,_,by omega,by go_num,HSn.out,rfl,rfl,HO2.out.alloc _,HX2.out.alloc _,bA HBw.out _⟩
  ·
   obtain rfl:k=R.length:=by omega
   rw [List.take_length] at hs
   have hq:=HQ.out
   rw [hs] at hq
   have HQ2:=Lib.hid hq
   clear hs hq HQ hO
   obtain ⟨m0,o⟩:=s
   simp only at X8 HQ2 HX2
   have hl8:=X8.lt
   cases o with
   | none =>
    have HR:=Lib.hid (show q=none from HQ2.out.symm)
    simp only [Option.getD_none,Option.isSome_none,Bool.false_eq_true,if_false] at X8 HX2
    try clear X8l
    try clear X8a
    try clear X8b
    try clear X8fa
    try clear X8fb
    obtain ⟨X8l,X8a,X8b,X8fa,X8fb⟩:=X8.facts2
    go_wp2_with fail
    refine res_cell_tmp (t:=39) (g:=g8) (cs:=#[.int .i64 0,.int .i64 0]) rfl struct_pt rfl rfl (Blk.put2 HX2.out) ⟨by rw [HR.out];rfl,bS (p:=⟨g8,1,none⟩) (bS (p:=⟨g8,0,none⟩) HBw.out hg8 _) hg8 _⟩
   | some z =>
    have HR:=Lib.hid (show q=some ⟨z,y⟩ from HQ2.out.symm)
    simp only [Option.getD_some,Option.isSome_some,if_true] at X8 HX2
    try clear X8l
    try clear X8a
    try clear X8b
    try clear X8fa
    try clear X8fb
    obtain ⟨X8l,X8a,X8b,X8fa,X8fb⟩:=X8.facts2
    go_wp2_with fail
    refine res_cell_tmp (t:=39) (g:=g8) (cs:=#[.int .i64 z,.int .i64 y]) rfl struct_pt rfl rfl (Blk.put2 HX2.out) ⟨by rw [HR.out];rfl,bS (p:=⟨g8,1,none⟩) (bS (p:=⟨g8,0,none⟩) HBw.out hg8 _) hg8 _⟩
end Go.Proofs.YtialfdomhoojiaaGreat
