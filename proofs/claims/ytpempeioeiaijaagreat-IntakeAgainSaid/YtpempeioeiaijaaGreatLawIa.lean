import Derived.Test.YtpempeioeiaijaaGreatJ28
set_option linter.unusedSimpArgs false
set_option linter.unusedVariables false
namespace Go.Proofs.YtpempeioeiaijaaGreat
open Go.RowKit Go.Sort

theorem Build19_spec (v:Value) (xs:List (SV×List Pt)) (w:World) (h:Lns19 w v xs) (hl:light19S (xs.map (·.2))=true):Calls Tryz.prog 18 #[v] w (RetBld w (xs.map (·.2))):=by
 obtain ⟨h1,h2⟩:=light_bd hl
 by_cases hz:chkL (xs.map (·.2))=0
 · exact Build19_ok v xs w h (chkL_good.1 hz)
 ·
  refine Build19_bad v xs w h (by simp at h1;omega) (fun k hk=>?_) hz
  have:=h2 _ (List.mem_map_of_mem (List.getElem_mem hk))
  omega
theorem bldP_short {L:List (List Pt)} (h:bldZ L=0):Short (bldP L)∧(bldP L).arcs.length≤1000000:=by
 have hg:GoodL L:=by
  unfold bldZ at h
  by_cases h1:chkL L≠0
  · rw [if_pos h1] at h;exact absurd h h1
  · exact chkL_good.1 (by simpa using h1)
 have hb:bigI L=false:=by
  have h9:=h
  unfold bldZ at h9
  rw [if_neg (by rw [chkL_good.2 hg];simp)] at h9
  cases e:bigI L
  · rfl
  · rw [e,if_pos rfl] at h9;cases h9
 unfold bigI at hb
 simp only [Bool.or_eq_false_iff,decide_eq_false_iff_not] at hb
 have e:bldP L=labP (plI L):=by unfold bldP;rw [if_pos h]
 have hlen:(bldP L).arcs.length=(partsL L).length:=by
  rw [e]
  show ((bareP (plI L)).arcs.map _).length=_
  rw [List.length_map]
  show ((arsI (meetL L) (partsL L)).map bareA).length=_
  unfold arsI
  rw [List.length_map,List.length_map,List.length_range]
 refine ⟨fun a ha=>?_,by rw [hlen];omega⟩
 rw [e] at ha
 have ha1:a∈(bareP (plI L)).arcs.map (labA (bareP (plI L)) (sortK (outX (bareP (plI L))))):=ha
 obtain ⟨a1,hm1,rfl⟩:=List.mem_map.1 ha1
 have hm2:a1∈(arsI (meetL L) (partsL L)).map bareA:=hm1
 obtain ⟨a2,hm3,rfl⟩:=List.mem_map.1 hm2
 unfold arsI at hm3
 obtain ⟨i,hi,rfl⟩:=List.mem_map.1 hm3
 have hi:=List.mem_range.1 hi
 have h3:=List.any_eq_false.1 hb.2.2 ((partsL L).getD i []) (by rw [List.getD_eq_getElem?_getD,List.getElem?_eq_getElem hi];exact List.getElem_mem hi)
 simp only [decide_eq_true_eq] at h3
 show (((partsL L).getD i []).tail.dropLast).length≤_
 simp only [List.length_dropLast,List.length_tail]
 omega

set_option maxRecDepth 100000 in
set_option maxHeartbeats 8000000 in
theorem IntakeAgain_spec (v:Value) (xs:List (SV×List Pt)) (w:World) (h:Lns19 w v xs):Calls Tryz.prog 5 #[v] w fun e w'=>e=.returned (.bool true)∧Below w.heap.size w w':=by
 have HAw:=Lib.hid (fun W=>Awake19_spec W)
 have HLi:=Lib.hid (Light19_spec v xs w h)
 have HBu:=Lib.hid (fun W (hW:Below w.heap.size w W) (hl:light19S (xs.map (·.2))=true)=>Build19_spec v xs W (h.mono hW) hl)
 have HSa:=Lib.hid (fun u1 u2 p W (h1:PlV W u1 p) (h2:PlV W u2 p)=>RSame14_true u1 u2 p W h1 h2)
 obtain ⟨⟨A,c,rfl,-⟩,-⟩:=h
 generalize xs.map (·.2)=L at *
 cases hl:light19S L
 case false =>
  rw [hl] at HLi
  clear hl HBu HSa
  go_enter Tryz.func5,Tryz.ntmps5
  go_wp2_with fail
  refine HLi.out.mono ?_
  rintro e w1 ⟨rfl,hb1⟩
  go_wp2_with fail
  refine (HAw.out _).mono ?_
  rintro e w2 ⟨rfl,hb2⟩
  go_wp2_with fail
  go_ret
  exact ⟨rfl,bT hb1 hb2⟩
 case true =>
  rw [hl] at HLi
  have HBl:=Lib.hid (fun W (hW:Below w.heap.size w W)=>HBu.out W hW hl)
  clear hl HBu
  go_enter Tryz.func5,Tryz.ntmps5
  go_wp2_with fail
  refine HLi.out.mono ?_
  rintro e w1 ⟨rfl,hb1⟩
  have HB1:=Lib.hid hb1
  clear hb1
  go_wp2_with fail
  refine (HBl.out _ HB1.out).mono ?_
  rintro e w2 ⟨v2,rfl,hb2,hp2⟩
  have HP2:=Lib.hid hp2
  have HB2:=Lib.hid (bT HB1.out hb2)
  obtain ⟨An,cn,Aa,ca,Af,cf,hv2⟩:=hp2.open3
  subst hv2
  have hagain:=fun (hz:bldZ L=0)=>bld_lines hz
  have hshort:=fun (hz:bldZ L=0)=>bldP_short hz
  have hzero:=fun (hz:bldZ L≠0)=>show bldP L=plE by unfold bldP;rw [if_neg hz]
  generalize bldZ L=z at *
  generalize bldP L=P at *
  obtain ⟨n1,hn1⟩:∃ n1,P.nodes.length=n1:=⟨_,rfl⟩
  obtain ⟨n2,hn2⟩:∃ n2,P.arcs.length=n2:=⟨_,rfl⟩
  obtain ⟨n3,hn3⟩:∃ n3,P.faces.length=n3:=⟨_,rfl⟩
  rw [hn1,hn2,hn3] at HP2 ⊢
  clear hn1 hn2 hn3 hb2 hp2
  go_upto_region 4 with fail
  obtain ⟨g3,hg3⟩:∃ g3,w2.heap.size=g3:=⟨_,rfl⟩
  obtain ⟨W3,hW⟩:∃ W:World,W=w2.alloc (.cells #[.slice An n1 cn,.slice Aa n2 ca,.slice Af n3 cf] 34):=⟨_,rfl⟩
  have HA3:=Lib.hid (show Below w2.heap.size w2 W3 by rw [hW];exact bA (bR w2) _)
  have HX3:=Lib.hid (show Blk W3 g3 34 #[.slice An n1 cn,.slice Aa n2 ca,.slice Af n3 cf] by rw [hW];exact Blk.made hg3.symm _ _)
  have HP3:=Lib.hid (HP2.out.mono HA3.out)
  have HB3:=Lib.hid (bT HB2.out HA3.out)
  rw [← hW]
  try rw [hg3]
  clear hW hg3 HP2 HB2 HA3
  by_cases hz:z=0
  ·
   subst hz
   have HAg:=Lib.hid (hagain rfl)
   have HSh:=Lib.hid (hshort rfl)
   have HLn:=Lib.hid (fun W (hW:Below W3.heap.size W3 W)=>Lines19_spec _ P W (HP3.out.mono hW) HSh.out.1 HSh.out.2)
   clear hagain hshort hzero
   have X3:=HX3.out
   obtain ⟨X3l,X3a,X3b,X3c,-,-,-⟩:=X3.facts3
   go_wp2_with fail
   refine (HLn.out _ (bR W3)).mono ?_
   rintro e w4 ⟨A5,c5,ys,rfl,hb4,hl4,hy4⟩
   have HLy:=Lib.hid hl4.lns
   have HX4:=Lib.hid (HX3.out.keep hb4)
   have HP4:=Lib.hid (HP3.out.mono hb4)
   have HB4:=Lib.hid (bT HB3.out hb4)
   have hgd:GoodL (ys.map (·.2)):=by
    rw [hy4]
    have h9:=HAg.out.1
    unfold bldZ at h9
    by_cases h1:chkL (linesS P)≠0
    · rw [if_pos h1] at h9;exact absurd h9 h1
    · exact chkL_good.1 (by simpa using h1)
   have HBu2:=Lib.hid (fun W (hW:Below w4.heap.size w4 W)=>show Calls Tryz.prog 18 #[.slice A5 ys.length c5] W (RetBld W (linesS P)) from by
    have h9:=Build19_ok _ ys W (HLy.out.mono hW) hgd
    rw [hy4] at h9
    exact h9)
   clear hb4 hl4 hy4 hgd HLn X3 X3l X3a X3b X3c HX3 HP3 HB3 HLy HSh
   generalize ys.length=yn at *
   go_wp2_with fail
   refine (HBu2.out _ (bR w4)).mono ?_
   rintro e w5 ⟨v5,rfl,hb5,hp5⟩
   rw [HAg.out.1]
   rw [HAg.out.2] at hp5
   have HP5:=Lib.hid hp5
   obtain ⟨Bn,dn,Ba,da,Bf,df,hv5⟩:=hp5.open3
   subst hv5
   have HX5:=Lib.hid (HX4.out.keep hb5)
   have HP5':=Lib.hid (HP4.out.mono hb5)
   have HB5:=Lib.hid (bT HB4.out hb5)
   generalize P.nodes.length=k1 at *
   generalize P.arcs.length=k2 at *
   generalize P.faces.length=k3 at *
   clear hb5 hp5 HX4 HP4 HB4 HBu2 HAg
   go_upto_region 7 with fail
   obtain ⟨g5,hg5⟩:∃ g5,w5.heap.size=g5:=⟨_,rfl⟩
   obtain ⟨W6,hW⟩:∃ W:World,W=w5.alloc (.cells #[.slice Bn k1 dn,.slice Ba k2 da,.slice Bf k3 df] 34):=⟨_,rfl⟩
   have HA6:=Lib.hid (show Below w5.heap.size w5 W6 by rw [hW];exact bA (bR w5) _)
   have HX6:=Lib.hid (show Blk W6 g5 34 #[.slice Bn k1 dn,.slice Ba k2 da,.slice Bf k3 df] by rw [hW];exact Blk.made hg5.symm _ _)
   have HX6':=Lib.hid (HX5.out.keep HA6.out)
   have HP6:=Lib.hid (HP5.out.mono HA6.out);have HP6':=Lib.hid (HP5'.out.mono HA6.out)
   have HB6:=Lib.hid (bT HB5.out HA6.out)
   rw [← hW]
   try rw [hg5]
   clear hW hg5 HA6 HX5 HP5 HP5' HB5
   go_wp2_with fail
   refine (HAw.out _).mono ?_
   rintro e w7 ⟨rfl,hb7⟩
   have X5:=HX6.out.keep hb7
   have X3:=HX6'.out.keep hb7
   have HP7:=Lib.hid (HP6.out.mono hb7);have HP7':=Lib.hid (HP6'.out.mono hb7)
   have HB7:=Lib.hid (bT HB6.out hb7)
   clear hb7 HX6 HX6' HP6 HP6' HB6
   obtain ⟨X5l,X5a,X5b,X5c,-,-,-⟩:=X5.facts3
   try clear X3l
   try clear X3a
   try clear X3b
   try clear X3c
   obtain ⟨X3l,X3a,X3b,X3c,-,-,-⟩:=X3.facts3
   go_wp2_with fail
   refine (HSa.out _ _ P _ HP7'.out HP7.out).mono ?_
   rintro e w8 ⟨rfl,hb8⟩
   have HB8:=Lib.hid (bT HB7.out hb8)
   clear hb8
   go_wp2_with fail
   go_ret
   exact ⟨rfl,HB8.out⟩
  ·
   have hz':(z != 0)=true:=by simpa using hz
   have hpe:=hzero hz
   clear hz hagain hshort hzero
   subst hpe
   have HX:=HX3
   go_wp2_with fail
   refine (HAw.out _).mono ?_
   rintro e w7 ⟨rfl,hb7⟩
   have X3:=HX3.out.keep hb7
   have HP7:=Lib.hid (HP3.out.mono hb7)
   have HB7:=Lib.hid (bT HB3.out hb7)
   clear hb7 HX3 HX HP3 HB3
   try clear X3l
   try clear X3a
   try clear X3b
   try clear X3c
   obtain ⟨X3l,X3a,X3b,X3c,-,-,-⟩:=X3.facts3
   go_wp2_with fail
   refine (HSa.out _ _ plE _ HP7.out (PlV.zeroE _)).mono ?_
   rintro e w8 ⟨rfl,hb8⟩
   have HB8:=Lib.hid (bT HB7.out hb8)
   clear hb8
   go_wp2_with fail
   go_ret
   exact ⟨rfl,HB8.out⟩
end Go.Proofs.YtpempeioeiaijaaGreat
