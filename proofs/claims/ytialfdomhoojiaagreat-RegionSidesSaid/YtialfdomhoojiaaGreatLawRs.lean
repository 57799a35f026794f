import Derived.Test.YtialfdomhoojiaaGreatJ33
import Derived.Test.YtialfdomhoojiaaGreatJ34
import Derived.Test.YtialfdomhoojiaaGreatJ31
import Derived.Test.YtialfdomhoojiaaGreatLawRev
import Derived.Test.YtialfdomhoojiaaGreatJ09
set_option linter.unusedSimpArgs false
set_option linter.unusedVariables false
namespace Go.Proofs.YtialfdomhoojiaaGreat
open Go.RowKit

theorem chg_plv {W:World} {B:Nat} {vn va vf:Value} {p:Pl} {bl:List (Ar×SV)} (hres:p.arcs=bl.map (·.1)) (hn:Nds W vn p.nodes) (hf:Ints W vf p.faces) (hv:∀ k (hk:k<bl.length),Pts W (.slice bl[k].2.a bl[k].2.n bl[k].2.c) bl[k].1.via) {i:Nat} (hi:i<p.arcs.length) (hi':i<bl.length) (right:Bool) (n:Int)
  (ho:Own W B 50 6 arS va (bl.set i (chgA right n bl[i].1,bl[i].2))):PlV W (.agg #[vn,va,vf]) (chgP p i hi right n):=by
 have e0:p.arcs[i]=bl[i].1:=by
  have e:p.arcs[i]? = some bl[i].1:=by rw [hres,List.getElem?_map,List.getElem?_eq_getElem hi'];rfl
  rw [List.getElem?_eq_getElem hi] at e
  exact Option.some.inj e
 refine PlV.blocks (al:=(bl.set i (chgA right n bl[i].1,bl[i].2)).map svA) ?_ hn ?_ (fun k hk=>?_) hf
 ·
  show p.arcs.set i (chgA right n p.arcs[i])=_
  rw [List.map_map,e0,hres]
  have:(fun x:Ar×Value=>x.1) ∘ svA=fun x=>x.1:=rfl
  rw [this,List.map_set]
 ·
  have:=Own.sl ho
  rw [arS_flat,List.length_map]
  exact this
 ·
  rw [List.length_map,List.length_set] at hk
  have hvv:(chgA right n bl[i].1).via=bl[i].1.via:=by unfold chgA;split<;>rfl
  simp only [List.getElem_map,List.getElem_set]
  split
  ·
   rename_i e
   subst e
   simp only [svA,hvv]
   exact hv i hk
  · exact hv k hk
set_option maxRecDepth 100000 in
set_option maxHeartbeats 8000000 in
theorem RegionSides_spec (v:Value) (p:Pl) (a f:Int) (right:Bool) (w:World) (h:PlV w v p) (hs:ShortL p) (hu:(Lit.int .u8 a).wf=true) (hu2:(Lit.int .u8 f).wf=true) :
  Calls Tryz.prog 8 #[v,.int .u8 a,.int .u8 f,.bool right] w fun e w'=>e=.returned (.bool true)∧Below w.heap.size w w':=by
 have hab:=u8_bd hu
 have hfb:=u8_bd hu2
 have HLt:=Lib.hid (fun W (hW:Below w.heap.size w W)=>Light16_spec v p W (h.mono hW) (fun a ha=>Nat.le_trans (hs a ha) (by omega)))
 have HCk:=Lib.hid (fun W (hW:Below w.heap.size w W)=>RegCheck_spec v p W (h.mono hW))
 have HP:=Lib.hid h
 have HAw:=Lib.hid awake16_spec
 have hint:=h
 obtain ⟨_,_,_,al,rfl,hpa,hN,⟨⟨Aa,ca,rfl,ha1,ha2,hRa⟩,hV⟩,hF⟩:=h
 obtain ⟨bl,rfl⟩:=hV.sv
 have HN:=Lib.hid hN;have HF:=Lib.hid hF
 obtain ⟨An,cn,rfl,hn1,hn2,hRn⟩:=hN
 obtain ⟨Af,cf,rfl,hf1,hf2,hRf⟩:=hF
 have hpl:p.arcs.length=bl.length:=by rw [hpa,List.length_map,List.length_map]
 rw [List.length_map] at ha1
 rw [arS_flat] at hRa
 have hres:p.arcs=bl.map (·.1):=by rw [hpa,List.map_map];rfl
 have HVk:Hid (∀ k (hk:k<bl.length),Pts w (.slice bl[k].2.a bl[k].2.n bl[k].2.c) bl[k].1.via):=Lib.hid fun k hk=>by
  have:=hV k (by simpa using hk)
  simpa [svA] using this
 have Hres:=Lib.hid hres
 have HRa:Hid (Sl w (.slice Aa bl.length ca) bl.length (bl.flatMap arS)):=Lib.hid ⟨_,_,rfl,ha1,ha2,hRa⟩
 have HRf:=Lib.hid hRf
 have Hpl:=Lib.hid hpl
 rw [List.length_map] at *
 unfold maxLen at ha2 hn2 hf2
 generalize p.nodes.length=nn at *
 generalize hnf:p.faces.length=nf at *
 have HNf:=Lib.hid hnf
 clear hV hres hRa hRn hpa hpl hu hu2 hint hRf hnf
 go_enter Tryz.func8,Tryz.ntmps8
 go_wp2_with fail
 refine (HLt.out _ (bA (bR w) _)).mono ?_
 rintro e w1 ⟨lt,rfl,hlt,hb1⟩
 have HB1:=Lib.hid (bT (bA (bR w) _) hb1)
 have X2:Blk w1 w.heap.size 26 #[.slice An nn cn,.slice Aa bl.length ca,.slice Af nf cf]:=(Blk.made rfl _ _).keep hb1
 clear hb1 HLt
 cases lt
 case false =>
  go_wp2_with fail
  refine (HAw.out _).mono ?_
  rintro e w2 ⟨rfl,hb2⟩
  go_wp2_with fail
  go_ret
  exact ⟨rfl,bT HB1.out hb2⟩
 have hlg:=hlt rfl
 have hal:bl.length≤30:=by have:=hlg.arcs;have:=Hpl.out;omega
 have hfl:nf≤30:=by have:=hlg.faces;have:=HNf.out;omega
 clear hlt hlg
 obtain ⟨X2l,X2a,X2b,X2c,-,-,-⟩:=X2.facts3
 go_wp2_with fail
 refine (HCk.out _ HB1.out).mono ?_
 rintro e w2 ⟨rfl,hb2⟩
 have HB2:=Lib.hid (bT HB1.out hb2)
 replace X2:=X2.keep hb2
 clear hb2 HCk HB1 X2l X2a X2b X2c
 by_cases hz:rchkS p=0
 case neg =>
  generalize rchkS p=q at *
  have hzb:(q != 0)=true:=by simpa using hz
  go_wp2_with fail
  refine (HAw.out _).mono ?_
  rintro e w3 ⟨rfl,hb3⟩
  go_wp2_with fail
  go_ret
  exact ⟨rfl,bT HB2.out hb3⟩
 obtain ⟨hv,hfc⟩:=rchk_ok hz
 have HV:=Lib.hid hv;have HFc:=Lib.hid (facB_iff.1 hfc)
 rw [hz]
 clear hz hv hfc
 have HX2:=Lib.hid X2
 try clear X2l
 try clear X2a
 try clear X2b
 try clear X2c
 obtain ⟨X2l,X2a,X2b,X2c,-,-,-⟩:=X2.facts3
 by_cases hz:bl.length=0
 ·
  have hz':((bl.length:Int) == 0)=true:=beq_iff_eq.2 (by omega)
  have hz2:(bl.length:Int)=0:=by omega
  clear hz
  go_wp2_with fail
  refine (HAw.out _).mono ?_
  rintro e w3 ⟨rfl,hb3⟩
  go_wp2_with fail
  go_ret
  exact ⟨rfl,bT HB2.out hb3⟩
 have hz':((bl.length:Int) == 0)=false:=beq_eq_false_iff_ne.2 (by omega)
 have hz2:¬ (bl.length:Int)=0:=by omega
 obtain ⟨i,hi,hwr,hmod⟩:=rem_facts a bl.length hab (by omega)
 obtain ⟨kf,hkf,hwf,hmf⟩:=rem_facts f (nf+1) hfb (by omega)
 have Hwr:=Lib.hid hwr;have Hmod:=Lib.hid hmod;have Hwf:=Lib.hid hwf;have Hmf:=Lib.hid (show f.tmod ((nf:Int)+1)=(kf:Int) from hmf)
 clear hwr hmod hwf hmf hz
 go_upto_region 4 with fail
 obtain ⟨W3,hW⟩:∃ W:World,W=w2.alloc (.cells #[.slice An nn cn,.slice Aa bl.length ca,.slice Af nf cf] 26):=⟨_,rfl⟩
 have X9:Blk W3 w2.heap.size 26 #[.slice An nn cn,.slice Aa bl.length ca,.slice Af nf cf]:=by rw [hW];exact Blk.made rfl _ _
 have hA:Below w2.heap.size w2 W3:=by rw [hW];exact bA (bR w2) _
 replace X2:=X2.keep hA
 have HX2':=Lib.hid X2
 have HB3:=Lib.hid (bT HB2.out hA)
 have hx2w:w.heap.size<w2.heap.size:=HX2.out.lt
 obtain ⟨g9,h9⟩:∃ g,w2.heap.size=g:=⟨_,rfl⟩
 rw [← hW]
 rw [h9] at X9 hx2w ⊢
 have HX9:=Lib.hid X9
 have hg9:=X9.lt
 clear hW hA h9 X2l X2a X2b X2c HX2
 try clear X2l
 try clear X2a
 try clear X2b
 try clear X2c
 obtain ⟨X2l,X2a,X2b,X2c,-,-,-⟩:=X2.facts3
 obtain ⟨X9l,X9a,X9b,X9c,X9fa,X9fb,X9fc⟩:=X9.facts3
 go_upto_region 5 with
  (at_builtin
   refine wpList_appl _ rfl (.tmp 31) (.tmp 33) _ rfl (base:=W3.heap.size) (l:=([] : List (Ar×SV))) elem_ar arS_len arS_one rfl (Own.of_blk (l:=([] : List (Ar×SV))) (Blk.made rfl _ _) (Nat.le_refl _) rfl rfl rfl (le_maxLen (by omega))) rfl (l2:=bl) (HRa.out.mono (bA HB3.out _)) (by simp only [List.length_nil];omega) (by simp only [List.length_nil];omega) (by simp) ?_
   intro v5 w5 ho5 hg5 hat5
   replace ho5:Own w5 W3.heap.size 50 6 arS v5 bl:=by simpa using ho5
   obtain ⟨A5,c5,rfl,-⟩:=Own.shape_ ho5
   have HO5:=Lib.hid ho5
   have HB5:=Lib.hid (show Below W3.heap.size W3 w5 from bG (bA (bR W3) _) hg5 (fun g hg=>by have h:some W3.heap.size=some g:=hg;have:=Option.some.inj h;omega))
   have X9n:=HX9.out.keep HB5.out
   have X2n:=HX2'.out.keep HB5.out
   have HX9n:=Lib.hid X9n;have HX2n:=Lib.hid X2n
   clear ho5 hg5 hat5 X9 X9l X9a X9b X9c X9fa X9fb X9fc X2 X2l X2a X2b X2c
   obtain ⟨X9nl,X9na,X9nb,X9nc⟩:=X9n.facts3)
 obtain ⟨W6,hW⟩:∃ W:World,W=w5.setCell ⟨g9,1,none⟩ (.slice A5 bl.length c5):=⟨_,rfl⟩
 have hw35:W3.heap.size≤w5.heap.size:=HB5.out.size
 have X9:Blk W6 g9 26 #[.slice An nn cn,.slice A5 bl.length c5,.slice Af nf cf]:=by
  rw [hW]
  have h:=Blk.set_ HX9n.out 1 (.slice A5 bl.length c5)
  simpa using h
 have X2:Blk W6 w.heap.size 26 #[.slice An nn cn,.slice Aa bl.length ca,.slice Af nf cf]:=by rw [hW];exact HX2n.out.far (by show w.heap.size≠g9;omega) _
 have HO6:=Lib.hid (show Own W6 W3.heap.size 50 6 arS (.slice A5 bl.length c5) bl by rw [hW];exact HO5.out.far (p:=⟨g9,1,none⟩) (fun e=>by have:=(HO5.out.lt _ e).1;simp only [] at this;omega) _)
 have HB6:=Lib.hid (show Below w.heap.size w W6 by rw [hW];exact bS (bT HB3.out HB5.out) (by show w.heap.size≤g9;omega) _)
 rw [← hW]
 clear hW HX9n HX2n HO5 X9n X9nl X9na X9nb X9nc X2n
 obtain ⟨g5,hA5,hg5,hl5,hfz5,-,-,-,-,c4,c5'⟩:=Own.ar_at HO6.out hi
 subst hA5
 have hip:i<p.arcs.length:=by rw [Hpl.out];exact hi
 have HAi:=Lib.hid (show p.arcs[i]=bl[i].1 by simp only [Hres.out,List.getElem_map])
 have HX9:=Lib.hid X9
 obtain ⟨L4,hL4⟩:∃ L,bl[i].1.left=L:=⟨_,rfl⟩
 obtain ⟨L5,hL5⟩:∃ L,bl[i].1.right=L:=⟨_,rfl⟩
 rw [hL4] at c4
 rw [hL5] at c5'
 have HL4:=Lib.hid hL4;have HL5:=Lib.hid hL5
 have hwr:=Hwr.out;have hmod:=Hmod.out;have hwf:=Hwf.out;have hmf:=Hmf.out
 have q0:0≤(i:Int):=by omega
 have q1:(i:Int)<bl.length:=by omega
 have hw1:IntKind.i64.wrap ((nf:Int)+1)=(nf:Int)+1:=IntWalk.i64_in _ (by omega)
 have hd1:¬ (nf:Int)+1=0:=by omega
 have hgf5:=hfz5 (i*6+4)
 have hgf5':=hfz5 (i*6+5)
 clear hL4 hL5 hfz5
 try clear X2l
 try clear X2a
 try clear X2b
 try clear X2c
 obtain ⟨X2l,X2a,X2b,X2c,-,-,-⟩:=X2.facts3
 try clear X9l
 try clear X9a
 try clear X9b
 try clear X9c
 try clear X9fa
 try clear X9fb
 try clear X9fc
 obtain ⟨X9l,X9a,X9b,X9c,X9fa,X9fb,X9fc⟩:=X9.facts3
 cases right
 case true =>
  by_cases hk0:kf=0
  ·
   subst hk0
   have hnm:(0:Int)=0∨(0:Int)∈p.faces:=.inl rfl
   have HNm:=Lib.hid hnm
   clear hnm
   go_upto_region 15 with fail
   obtain ⟨W7,hW⟩:∃ W:World,W=W6.setCell ⟨g5,i*6+5,none⟩ (.int .i64 0):=⟨_,rfl⟩
   have HO7:=Lib.hid (show Own W7 W3.heap.size 50 6 arS (.slice (some ⟨g5,0,none⟩) bl.length c5) (bl.set i (chgA true 0 bl[i].1,bl[i].2)) by rw [hW];exact Own.put_cell arS_len HO6.out hi (by omega) _ _ rfl)
   have HB7:=Lib.hid (show Below w.heap.size w W7 by rw [hW];exact bS HB6.out (by show w.heap.size≤g5;omega) _)
   have X97:Blk W7 g9 26 #[.slice An nn cn,.slice (some ⟨g5,0,none⟩) bl.length c5,.slice Af nf cf]:=by rw [hW];exact HX9.out.far (by show g9≠g5;omega) _
   have HQ:=Lib.hid (show PlV W7 (.agg #[.slice An nn cn,.slice (some ⟨g5,0,none⟩) bl.length c5,.slice Af nf cf]) (chgP p i hip true 0) from chg_plv Hres.out (HN.out.mono HB7.out) (HF.out.mono HB7.out) (fun k hk=>(HVk.out k hk).mono HB7.out) hip hi true 0 HO7.out)
   have HX97:=Lib.hid X97
   rw [← hW]
   clear hW X2 X2l X2a X2b X2c X9 X9l X9a X9b X9c X9fa X9fb X9fc c4 c5' hgf5 hgf5' hwr hmod hwf hmf HO6 hl5
   by_cases hno:0=L5
   ·
    have hno':((0:Int) == L5)=true:=beq_iff_eq.2 hno
    have HC7:Hid (∀ W,Below W7.heap.size W7 W→Calls Tryz.prog 19 #[.agg #[.slice An nn cn,.slice (some ⟨g5,0,none⟩) bl.length c5,.slice Af nf cf]] W fun e w'=>e=.returned (.int .i64 0)∧Below W.heap.size W w'):=Lib.hid fun W hW=>by
     have h:=RegCheck_spec _ _ W (HQ.out.mono hW)
     rw [Valid.chg_check HV.out hip HNm.out HFc.out,if_pos (by rw [HAi.out];exact hno.trans HL5.out.symm)] at h
     exact h
    clear hno
    go_wp2_with fail
    refine (HAw.out _).mono ?_
    rintro e w8 ⟨rfl,hb8⟩
    replace X97:=X97.keep hb8
    have HB8:=Lib.hid hb8
    clear hb8
    obtain ⟨X97l,X97a,X97b,X97c,-,-,-⟩:=X97.facts3
    go_wp2_with fail
    refine (HC7.out _ HB8.out).mono ?_
    rintro e w9 ⟨rfl,hb9⟩
    have HB9:=Lib.hid hb9
    clear hb9
    go_wp2_with fail
    go_ret
    exact ⟨rfl,bT HB7.out (bT HB8.out HB9.out)⟩
   ·
    have hno':((0:Int) == L5)=false:=beq_eq_false_iff_ne.2 hno
    have HC7:Hid (∀ W,Below W7.heap.size W7 W→Calls Tryz.prog 19 #[.agg #[.slice An nn cn,.slice (some ⟨g5,0,none⟩) bl.length c5,.slice Af nf cf]] W fun e w'=>e=.returned (.int .i64 12)∧Below W.heap.size W w'):=Lib.hid fun W hW=>by
     have h:=RegCheck_spec _ _ W (HQ.out.mono hW)
     rw [Valid.chg_check HV.out hip HNm.out HFc.out,if_neg (by rw [HAi.out];exact fun e=>hno (e.trans HL5.out))] at h
     exact h
    clear hno
    go_wp2_with fail
    refine (HAw.out _).mono ?_
    rintro e w8 ⟨rfl,hb8⟩
    replace X97:=X97.keep hb8
    have HB8:=Lib.hid hb8
    clear hb8
    try clear X97l
    try clear X97a
    try clear X97b
    try clear X97c
    obtain ⟨X97l,X97a,X97b,X97c,-,-,-⟩:=X97.facts3
    go_wp2_with fail
    refine (HC7.out _ HB8.out).mono ?_
    rintro e w9 ⟨rfl,hb9⟩
    have HB9:=Lib.hid hb9
    clear hb9
    go_wp2_with fail
    go_ret
    exact ⟨rfl,bT HB7.out (bT HB8.out HB9.out)⟩
  obtain ⟨m,rfl⟩:∃ m,kf=m+1:=⟨kf-1,by omega⟩
  have hmn:m<p.faces.length:=by rw [HNf.out];omega
  obtain ⟨bf,of,rfl,hbf,hcf⟩:=Row.at_ (f:=inC) (n:=1) (fun _=>rfl) HRf.out hmn (by omega)
  have cf0:w.cell? ⟨bf,of+m,none⟩=some (.int .i64 p.faces[m]):=by simpa using hcf 0 _ rfl
  have cf1:=keepc HB6.out cf0
  have hnm:p.faces[m]=0∨p.faces[m]∈p.faces:=.inr (List.getElem_mem hmn)
  generalize p.faces[m]=n at *
  have hk1:0<((m+1:Nat):Int):=by omega
  have hk2:((m+1:Nat):Int)-1=(m:Int):=by omega
  have hw2:IntKind.i64.wrap (((m+1:Nat):Int)-1)=(m:Int):=by rw [hk2];exact IntWalk.i64_in _ (by omega)
  have q2:0≤(m:Int):=by omega
  have q3:(m:Int)<(nf:Int):=by omega
  have q4:bf<W6.heap.size:=by have:=HB6.out.size;omega
  clear hcf cf0 hmn
  have HNm:=Lib.hid hnm
  clear hnm
  go_upto_region 15 with fail
  obtain ⟨W7,hW⟩:∃ W:World,W=W6.setCell ⟨g5,i*6+5,none⟩ (.int .i64 n):=⟨_,rfl⟩
  have HO7:=Lib.hid (show Own W7 W3.heap.size 50 6 arS (.slice (some ⟨g5,0,none⟩) bl.length c5) (bl.set i (chgA true n bl[i].1,bl[i].2)) by rw [hW];exact Own.put_cell arS_len HO6.out hi (by omega) _ _ rfl)
  have HB7:=Lib.hid (show Below w.heap.size w W7 by rw [hW];exact bS HB6.out (by show w.heap.size≤g5;omega) _)
  have X97:Blk W7 g9 26 #[.slice An nn cn,.slice (some ⟨g5,0,none⟩) bl.length c5,.slice (some ⟨bf,of,none⟩) nf cf]:=by rw [hW];exact HX9.out.far (by show g9≠g5;omega) _
  have HQ:=Lib.hid (show PlV W7 (.agg #[.slice An nn cn,.slice (some ⟨g5,0,none⟩) bl.length c5,.slice (some ⟨bf,of,none⟩) nf cf]) (chgP p i hip true n) from chg_plv Hres.out (HN.out.mono HB7.out) (HF.out.mono HB7.out) (fun k hk=>(HVk.out k hk).mono HB7.out) hip hi true n HO7.out)
  have HX97:=Lib.hid X97
  rw [← hW]
  clear hW X2 X2l X2a X2b X2c X9 X9l X9a X9b X9c X9fa X9fb X9fc c4 c5' hgf5 hgf5' hwr hmod hwf hmf HO6 hl5
  by_cases hno:n=L5
  ·
   have hno':((n:Int) == L5)=true:=beq_iff_eq.2 hno
   have HC7:Hid (∀ W,Below W7.heap.size W7 W→Calls Tryz.prog 19 #[.agg #[.slice An nn cn,.slice (some ⟨g5,0,none⟩) bl.length c5,.slice (some ⟨bf,of,none⟩) nf cf]] W fun e w'=>e=.returned (.int .i64 0)∧Below W.heap.size W w'):=Lib.hid fun W hW=>by
    have h:=RegCheck_spec _ _ W (HQ.out.mono hW)
    rw [Valid.chg_check HV.out hip HNm.out HFc.out,if_pos (by rw [HAi.out];exact hno.trans HL5.out.symm)] at h
    exact h
   clear hno
   go_wp2_with fail
   refine (HAw.out _).mono ?_
   rintro e w8 ⟨rfl,hb8⟩
   replace X97:=X97.keep hb8
   have HB8:=Lib.hid hb8
   clear hb8
   try clear X97l
   try clear X97a
   try clear X97b
   try clear X97c
   obtain ⟨X97l,X97a,X97b,X97c,-,-,-⟩:=X97.facts3
   go_wp2_with fail
   refine (HC7.out _ HB8.out).mono ?_
   rintro e w9 ⟨rfl,hb9⟩
   have HB9:=Lib.hid hb9
   clear hb9
   go_wp2_with fail
   go_ret
   exact ⟨rfl,bT HB7.out (bT HB8.out HB9.out)⟩
  ·
   have hno':((n:Int) == L5)=false:=beq_eq_false_iff_ne.2 hno
   have HC7:Hid (∀ W,Below W7.heap.size W7 W→Calls Tryz.prog 19 #[.agg #[.slice An nn cn,.slice (some ⟨g5,0,none⟩) bl.length c5,.slice (some ⟨bf,of,none⟩) nf cf]] W fun e w'=>e=.returned (.int .i64 12)∧Below W.heap.size W w'):=Lib.hid fun W hW=>by
    have h:=RegCheck_spec _ _ W (HQ.out.mono hW)
    rw [Valid.chg_check HV.out hip HNm.out HFc.out,if_neg (by rw [HAi.out];exact fun e=>hno (e.trans HL5.out))] at h
    exact h
   clear hno
   go_wp2_with fail
   refine (HAw.out _).mono ?_
   rintro e w8 ⟨rfl,hb8⟩
   replace X97:=X97.keep hb8
   have HB8:=Lib.hid hb8
   clear hb8
   try clear X97l
   try clear X97a
   try clear X97b
   try clear X97c
   obtain ⟨X97l,X97a,X97b,X97c,-,-,-⟩:=X97.facts3
   go_wp2_with fail
   refine (HC7.out _ HB8.out).mono ?_
   rintro e w9 ⟨rfl,hb9⟩
   have HB9:=Lib.hid hb9
   clear hb9
   go_wp2_with fail
   go_ret
   exact ⟨rfl,bT HB7.out (bT HB8.out HB9.out)⟩
 case false =>
  by_cases hk0:kf=0
  ·
   subst hk0
   have hnm:(0:Int)=0∨(0:Int)∈p.faces:=.inl rfl
   have HNm:=Lib.hid hnm
   clear hnm
   go_upto_region 15 with fail
   obtain ⟨W7,hW⟩:∃ W:World,W=W6.setCell ⟨g5,i*6+4,none⟩ (.int .i64 0):=⟨_,rfl⟩
   have HO7:=Lib.hid (show Own W7 W3.heap.size 50 6 arS (.slice (some ⟨g5,0,none⟩) bl.length c5) (bl.set i (chgA false 0 bl[i].1,bl[i].2)) by rw [hW];exact Own.put_cell arS_len HO6.out hi (by omega) _ _ rfl)
   have HB7:=Lib.hid (show Below w.heap.size w W7 by rw [hW];exact bS HB6.out (by show w.heap.size≤g5;omega) _)
   have X97:Blk W7 g9 26 #[.slice An nn cn,.slice (some ⟨g5,0,none⟩) bl.length c5,.slice Af nf cf]:=by rw [hW];exact HX9.out.far (by show g9≠g5;omega) _
   have HQ:=Lib.hid (show PlV W7 (.agg #[.slice An nn cn,.slice (some ⟨g5,0,none⟩) bl.length c5,.slice Af nf cf]) (chgP p i hip false 0) from chg_plv Hres.out (HN.out.mono HB7.out) (HF.out.mono HB7.out) (fun k hk=>(HVk.out k hk).mono HB7.out) hip hi false 0 HO7.out)
   have HX97:=Lib.hid X97
   rw [← hW]
   clear hW X2 X2l X2a X2b X2c X9 X9l X9a X9b X9c X9fa X9fb X9fc c4 c5' hgf5 hgf5' hwr hmod hwf hmf HO6 hl5
   by_cases hno:0=L4
   ·
    have hno':((0:Int) == L4)=true:=beq_iff_eq.2 hno
    have HC7:Hid (∀ W,Below W7.heap.size W7 W→Calls Tryz.prog 19 #[.agg #[.slice An nn cn,.slice (some ⟨g5,0,none⟩) bl.length c5,.slice Af nf cf]] W fun e w'=>e=.returned (.int .i64 0)∧Below W.heap.size W w'):=Lib.hid fun W hW=>by
     have h:=RegCheck_spec _ _ W (HQ.out.mono hW)
     rw [Valid.chg_check HV.out hip HNm.out HFc.out,if_pos (by rw [HAi.out];exact hno.trans HL4.out.symm)] at h
     exact h
    clear hno
    go_wp2_with fail
    refine (HAw.out _).mono ?_
    rintro e w8 ⟨rfl,hb8⟩
    replace X97:=X97.keep hb8
    have HB8:=Lib.hid hb8
    clear hb8
    try clear X97l
    try clear X97a
    try clear X97b
    try clear X97c
    obtain ⟨X97l,X97a,X97b,X97c,-,-,-⟩:=X97.facts3
    go_wp2_with fail
    refine (HC7.out _ HB8.out).mono ?_
    rintro e w9 ⟨rfl,hb9⟩
    have HB9:=Lib.hid hb9
    clear hb9
    go_wp2_with fail
    go_ret
    exact ⟨rfl,bT HB7.out (bT HB8.out HB9.out)⟩
   ·
    have hno':((0:Int) == L4)=false:=beq_eq_false_iff_ne.2 hno
    have HC7:Hid (∀ W,Below W7.heap.size W7 W→Calls Tryz.prog 19 #[.agg #[.slice An nn cn,.slice (some ⟨g5,0,none⟩) bl.length c5,.slice Af nf cf]] W fun e w'=>e=.returned (.int .i64 12)∧Below W.heap.size W w'):=Lib.hid fun W hW=>by
     have h:=RegCheck_spec _ _ W (HQ.out.mono hW)
     rw [Valid.chg_check HV.out hip HNm.out HFc.out,if_neg (by rw [HAi.out];exact fun e=>hno (e.trans HL4.out))] at h
     exact h
    clear hno
    go_wp2_with fail
    refine (HAw.out _).mono ?_
    rintro e w8 ⟨rfl,hb8⟩
    replace X97:=X97.keep hb8
    have HB8:=Lib.hid hb8
    clear hb8
    try clear X97l
    try clear X97a
    try clear X97b
    try clear X97c
    obtain ⟨X97l,X97a,X97b,X97c,-,-,-⟩:=X97.facts3
    go_wp2_with fail
    refine (HC7.out _ HB8.out).mono ?_
    rintro e w9 ⟨rfl,hb9⟩
    have HB9:=Lib.hid hb9
    clear hb9
    go_wp2_with fail
    go_ret
    exact ⟨rfl,bT HB7.out (bT HB8.out HB9.out)⟩
  obtain ⟨m,rfl⟩:∃ m,kf=m+1:=⟨kf-1,by omega⟩
  have hmn:m<p.faces.length:=by rw [HNf.out];omega
  obtain ⟨bf,of,rfl,hbf,hcf⟩:=Row.at_ (f:=inC) (n:=1) (fun _=>rfl) HRf.out hmn (by omega)
  have cf0:w.cell? ⟨bf,of+m,none⟩=some (.int .i64 p.faces[m]):=by simpa using hcf 0 _ rfl
  have cf1:=keepc HB6.out cf0
  have hnm:p.faces[m]=0∨p.faces[m]∈p.faces:=.inr (List.getElem_mem hmn)
  generalize p.faces[m]=n at *
  have hk1:0<((m+1:Nat):Int):=by omega
  have hk2:((m+1:Nat):Int)-1=(m:Int):=by omega
  have hw2:IntKind.i64.wrap (((m+1:Nat):Int)-1)=(m:Int):=by rw [hk2];exact IntWalk.i64_in _ (by omega)
  have q2:0≤(m:Int):=by omega
  have q3:(m:Int)<(nf:Int):=by omega
  have q4:bf<W6.heap.size:=by have:=HB6.out.size;omega
  clear hcf cf0 hmn
  have HNm:=Lib.hid hnm
  clear hnm
  go_upto_region 15 with fail
  obtain ⟨W7,hW⟩:∃ W:World,W=W6.setCell ⟨g5,i*6+4,none⟩ (.int .i64 n):=⟨_,rfl⟩
  have HO7:=Lib.hid (show Own W7 W3.heap.size 50 6 arS (.slice (some ⟨g5,0,none⟩) bl.length c5) (bl.set i (chgA false n bl[i].1,bl[i].2)) by rw [hW];exact Own.put_cell arS_len HO6.out hi (by omega) _ _ rfl)
  have HB7:=Lib.hid (show Below w.heap.size w W7 by rw [hW];exact bS HB6.out (by show w.heap.size≤g5;omega) _)
  have X97:Blk W7 g9 26 #[.slice An nn cn,.slice (some ⟨g5,0,none⟩) bl.length c5,.slice (some ⟨bf,of,none⟩) nf cf]:=by rw [hW];exact HX9.out.far (by show g9≠g5;omega) _
  have HQ:=Lib.hid (show PlV W7 (.agg #[.slice An nn cn,.slice (some ⟨g5,0,none⟩) bl.length c5,.slice (some ⟨bf,of,none⟩) nf cf]) (chgP p i hip false n) from chg_plv Hres.out (HN.out.mono HB7.out) (HF.out.mono HB7.out) (fun k hk=>(HVk.out k hk).mono HB7.out) hip hi false n HO7.out)
  have HX97:=Lib.hid X97
  rw [← hW]
  clear hW X2 X2l X2a X2b X2c X9 X9l X9a X9b X9c X9fa X9fb X9fc c4 c5' hgf5 hgf5' hwr hmod hwf hmf HO6 hl5
  by_cases hno:n=L4
  ·
   have hno':((n:Int) == L4)=true:=beq_iff_eq.2 hno
   have HC7:Hid (∀ W,Below W7.heap.size W7 W→Calls Tryz.prog 19 #[.agg #[.slice An nn cn,.slice (some ⟨g5,0,none⟩) bl.length c5,.slice (some ⟨bf,of,none⟩) nf cf]] W fun e w'=>e=.returned (.int .i64 0)∧Below W.heap.size W w'):=Lib.hid fun W hW=>by
    have h:=RegCheck_spec _ _ W (HQ.out.mono hW)
    rw [Valid.chg_check HV.out hip HNm.out HFc.out,if_pos (by rw [HAi.out];exact hno.trans HL4.out.symm)] at h
    exact h
   clear hno
   go_wp2_with fail
   refine (HAw.out _).mono ?_
   rintro e w8 ⟨rfl,hb8⟩
   replace X97:=X97.keep hb8
   have HB8:=Lib.hid hb8
   clear hb8
   try clear X97l
   try clear X97a
   try clear X97b
   try clear X97c
   obtain ⟨X97l,X97a,X97b,X97c,-,-,-⟩:=X97.facts3
   go_wp2_with fail
   refine (HC7.out _ HB8.out).mono ?_
   rintro e w9 ⟨rfl,hb9⟩
   have HB9:=Lib.hid hb9
   clear hb9
   go_wp2_with fail
   go_ret
   exact ⟨rfl,bT HB7.out (bT HB8.out HB9.out)⟩
  ·
   have hno':((n:Int) == L4)=false:=beq_eq_false_iff_ne.2 hno
   have HC7:Hid (∀ W,Below W7.heap.size W7 W→Calls Tryz.prog 19 #[.agg #[.slice An nn cn,.slice (some ⟨g5,0,none⟩) bl.length c5,.slice (some ⟨bf,of,none⟩) nf cf]] W fun e w'=>e=.returned (.int .i64 12)∧Below W.heap.size W w'):=Lib.hid fun W hW=>by
    have h:=RegCheck_spec _ _ W (HQ.out.mono hW)
    rw [Valid.chg_check HV.out hip HNm.out HFc.out,if_neg (by rw [HAi.out];exact fun e=>hno (e.trans HL4.out))] at h
    exact h
   clear hno
   go_wp2_with fail
   refine (HAw.out _).mono ?_
   rintro e w8 ⟨rfl,hb8⟩
   replace X97:=X97.keep hb8
   have HB8:=Lib.hid hb8
   clear hb8
   try clear X97l
   try clear X97a
   try clear X97b
   try clear X97c
   obtain ⟨X97l,X97a,X97b,X97c,-,-,-⟩:=X97.facts3
   go_wp2_with fail
   refine (HC7.out _ HB8.out).mono ?_
   rintro e w9 ⟨rfl,hb9⟩
   have HB9:=Lib.hid hb9
   clear hb9
   go_wp2_with fail
   go_ret
   exact ⟨rfl,bT HB7.out (bT HB8.out HB9.out)⟩
end Go.Proofs.YtialfdomhoojiaaGreat
