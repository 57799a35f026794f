import Derived.Test.YtpempeioeiaijaaGreatJ29
import Derived.Test.YtpempeioeiaijaaGreatJ01
import Derived.Test.YtpempeioeiaijaaGreatGB
set_option linter.unusedSimpArgs false
set_option linter.unusedVariables false
namespace Go.Proofs.YtpempeioeiaijaaGreat
open Go.RowKit Go.Sort

theorem bldP_short {L:List (List Pt)} (h:bldZ L=0):Short (bldP L)∧(bldP L).arcs.length≤1000000:=by
 have hg:GoodL L:=by
  unfold bldZ at h
  by_cases h1:chkL L≠0
  · rw [if_pos h1] at h;exact absurd h h1
  · exact chkL_good.1 (by simpa using h1)
 have hb:bigI L=false:=by
  have h9:=h
  unfold bldZ at h9
  rw [if_neg (by rw [chkL_good.2 hg];simp)] at h9
  cases e:bigI L
  · rfl
  · rw [e,if_pos rfl] at h9;cases h9
 unfold bigI at hb
 simp only [Bool.or_eq_false_iff,decide_eq_false_iff_not] at hb
 have e:bldP L=labP (plI L):=by unfold bldP;rw [if_pos h]
 have hlen:(bldP L).arcs.length=(partsL L).length:=by
  rw [e]
  show ((bareP (plI L)).arcs.map _).length=_
  rw [List.length_map]
  show ((arsI (meetL L) (partsL L)).map bareA).length=_
  unfold arsI
  rw [List.length_map,List.length_map,List.length_range]
 refine ⟨fun a ha=>?_,by rw [hlen];omega⟩
 rw [e] at ha
 have ha1:a∈(bareP (plI L)).arcs.map (labA (bareP (plI L)) (sortK (outX (bareP (plI L))))):=ha
 obtain ⟨a1,hm1,rfl⟩:=List.mem_map.1 ha1
 have hm2:a1∈(arsI (meetL L) (partsL L)).map bareA:=hm1
 obtain ⟨a2,hm3,rfl⟩:=List.mem_map.1 hm2
 unfold arsI at hm3
 obtain ⟨i,hi,rfl⟩:=List.mem_map.1 hm3
 have hi:=List.mem_range.1 hi
 have h3:=List.any_eq_false.1 hb.2.2 ((partsL L).getD i []) (by rw [List.getD_eq_getElem?_getD,List.getElem?_eq_getElem hi];exact List.getElem_mem hi)
 simp only [decide_eq_true_eq] at h3
 show (((partsL L).getD i []).tail.dropLast).length≤_
 simp only [List.length_dropLast,List.length_tail]
 omega

end Go.Proofs.YtpempeioeiaijaaGreat
