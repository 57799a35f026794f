import Derived.Deep.CutBlock
import Derived.Test.YtpempeioeiaijaaGreatJ28
import Derived.Test.YtpempeioeiaijaaGreatGB
import Derived.Test.YtpempeioeiaijaaGreatJ27
import Derived.Test.YtpempeioeiaijaaGreatGE
import Derived.SizedLaws
import Derived.Test.YtpempeioeiaijaaGreatJ20
import Derived.Test.YtpempeioeiaijaaGreatJ05
set_option linter.unusedSimpArgs false
set_option linter.unusedVariables false
namespace Go.Proofs.YtpempeioeiaijaaGreat
open Go.RowKit

structure Lgt (p:Pl):Prop where
 nodes:p.nodes.length≤30
 arcs:p.arcs.length≤30
 faces:p.faces.length≤30
 vias:∀ a∈p.arcs,a.via.length≤180
def RetLgt (w:World) (p:Pl) (e:Ending) (w':World):Prop:=∃ b,e=.returned (.bool b)∧(b=true→Lgt p)∧Below w.heap.size w w'
set_option maxRecDepth 100000 in
set_option maxHeartbeats 8000000 in
theorem Light16_spec (v:Value) (p:Pl) (w:World) (h:PlV w v p) (hsz:∀ a∈p.arcs,a.via.length≤9223372036854775000):Calls Tryz.prog 15 #[v] w (RetLgt w p):=by
 have HSz:=Lib.hid hsz
 clear hsz
 obtain ⟨_,_,_,al,rfl,hpa,⟨An,cn,rfl,hn1,hn2,hR⟩,⟨⟨Aa,ca,rfl,hm1,hm2,hRa⟩,hVi⟩,⟨Af,cf,rfl,-⟩⟩:=h
 have HRn:=Lib.hid hR;have HRa:=Lib.hid hRa;have HVi:=Lib.hid hVi
 have HPa:=Lib.hid hpa
 have hnv:p.arcs.length=al.length:=by rw [hpa,List.length_map]
 obtain ⟨nn,hnn⟩:∃ n,p.nodes.length=n:=⟨_,rfl⟩
 obtain ⟨na,hna⟩:∃ n,al.length=n:=⟨_,rfl⟩
 obtain ⟨nf,hnf⟩:∃ n,p.faces.length=n:=⟨_,rfl⟩
 have HNn:=Lib.hid hnn;have HNa:=Lib.hid hna;have HNf:=Lib.hid hnf;have HNv:=Lib.hid hnv
 rw [hnn,hna,hnf]
 clear hR hRa hVi hpa hnv hnn hna hnf hn1 hn2 hm1 hm2
 go_enter Tryz.func15,Tryz.ntmps15
 go_upto_region 1 with fail
 obtain ⟨W1,hW⟩:∃ W:World,W=w.alloc (.cells #[.slice An nn cn,.slice Aa na ca,.slice Af nf cf] 34):=⟨_,rfl⟩
 have X1:Blk W1 w.heap.size 34 #[.slice An nn cn,.slice Aa na ca,.slice Af nf cf]:=by rw [hW];exact Blk.made rfl _ _
 have HB1:=Lib.hid (show Below w.heap.size w W1 by rw [hW];exact bA (bR w) _)
 obtain ⟨g1,h1⟩:∃ g,w.heap.size=g:=⟨_,rfl⟩
 have hg1:w.heap.size≤g1:=by omega
 rw [← hW]
 rw [h1] at X1 ⊢
 have HX1:=Lib.hid X1
 clear hW h1
 obtain ⟨X1l,X1a,X1b,X1c,-,-,-⟩:=X1.facts3
 by_cases h1:30<nn
 ·
  have k1:(30:Int)<nn:=by omega
  go_wp2_with fail
  go_ret
  exact ⟨false,rfl,fun h=>(by cases h),HB1.out⟩
 by_cases h2:30<na
 ·
  have k1:¬ (30:Int)<nn:=by omega
  have k2:(30:Int)<na:=by omega
  go_wp2_with fail
  go_ret
  exact ⟨false,rfl,fun h=>(by cases h),HB1.out⟩
 by_cases h3:30<nf
 ·
  have k1:¬ (30:Int)<nn:=by omega
  have k2:¬ (30:Int)<na:=by omega
  have k3:(30:Int)<nf:=by omega
  go_wp2_with fail
  go_ret
  exact ⟨false,rfl,fun h=>(by cases h),HB1.out⟩
 have k1:¬ (30:Int)<nn:=by omega
 have k2:¬ (30:Int)<na:=by omega
 have k3:¬ (30:Int)<nf:=by omega
 go_upto_block 0 with fail
 clear k1 k2 k3 X1 X1l X1a X1b X1c
 go_wp2_with fail
 go_loopw [4,3] (fun i s wr=>∃ (k:Nat) (l:List Pt),k≤nn∧i=.int .i64 k∧(∃ A c,s=.slice A l.length c)∧Own wr W1.heap.size 42 2 ptC s l∧l.length=k∧Below W1.heap.size W1 wr) (fun i _ _=>nn-(intOf i).toNat)
 case atStart => exact ⟨0,[],Nat.zero_le _,rfl,⟨_,_,rfl⟩,Own.nil _ _ _ _ _,rfl,bR W1⟩
 case round =>
  obtain ⟨k,l,hk,rfl,⟨A,c,rfl⟩,ho,hl,hb⟩:=hrel
  obtain ⟨wo,rfl⟩:∃ wo:World,wo=wr:=⟨_,rfl⟩
  have HO:=Lib.hid ho;have Hb:=Lib.hid hb;have HLk:=Lib.hid hl
  have hlk:l.length≤30:=by omega
  have X1:=HX1.out.keep hb
  clear ho hb hl
  by_cases hlt:k<nn
  ·
   obtain ⟨b,o,hA,hlb,c0,c1,c2⟩:=(HRn.out.mono (bT HB1.out Hb.out)).nd (k:=k) (by rw [HNn.out];exact hlt)
   subst hA
   generalize p.nodes[k]'_=x at *
   obtain ⟨id,x0,y0⟩:=x
   simp only at c0 c1 c2
   have hw1:=Hb.out.size
   have hsh:(l++[(⟨x0,y0⟩:Pt)]).length=l.length+1:=by simp
   have HSh:=Lib.hid hsh
   clear hsh
   try clear X1l
   try clear X1a
   try clear X1b
   try clear X1c
   obtain ⟨X1l,X1a,X1b,X1c,-,-,-⟩:=X1.facts3
   go_wp2_with
    (at_builtin
     refine wpList_appl _ rfl (.tmp 30) (.tmp 37) _ rfl (base:=W1.heap.size) elem_pt ptC_len ptC_one rfl (Own.alloc HO.out _) rfl (l2:=[(⟨x0,y0⟩:Pt)]) (Sl.lit (n:=1) (Blk.made rfl _ _) rfl (le_maxLen (by omega))) (by simp only [List.length_cons,List.length_nil];omega) (by simp only [List.length_cons,List.length_nil];omega) (by simp;omega) ?_
     intro v3 w3 ho3 hg3 hat3
     obtain ⟨A3,c3,hv3,-⟩:=ho3.sl
     rw [HSh.out] at hv3
     subst hv3
     have HO3:=Lib.hid ho3
     have HB3:=Lib.hid (show Below W1.heap.size W1 w3 from bG (bA Hb.out _) hg3 (fun g hg=>(HO.out.lt g hg).1))
     clear ho3 hg3 hat3 X1 X1l X1a X1b X1c)
   go_roundw
   case rel => exact ⟨k+1,l++[⟨x0,y0⟩],by omega,by go_num,⟨A3,c3,by rw [HSh.out]⟩,HO3.out,by rw [HSh.out,HLk.out],HB3.out⟩
   case measure => simp [intOf];omega
  ·
   obtain rfl:k=nn:=by omega
   obtain ⟨wA,rfl⟩:∃ wA:World,wA=wo:=⟨_,rfl⟩
   have hlA:l.length≤30:=hlk
   clear HLk
   try clear X1l
   try clear X1a
   try clear X1b
   try clear X1c
   obtain ⟨X1l,X1a,X1b,X1c,-,-,-⟩:=X1.facts3
   go_upto_block 2 with fail
   clear X1 X1l X1a X1b X1c
   go_wp2_with fail
   go_loopw [5,3] (fun i s wr=>∃ (k:Nat) (l:List Pt),k≤na∧i=.int .i64 k∧(∃ A c,s=.slice A l.length c)∧Own wr W1.heap.size 42 2 ptC s l∧l.length≤180∧(∀ j (hj:j<al.length),j<k→al[j].1.via.length≤180)∧Below W1.heap.size W1 wr) (fun i _ _=>na-(intOf i).toNat)
   case atStart => exact ⟨0,l,Nat.zero_le _,rfl,⟨_,_,rfl⟩,HO.out,by omega,fun j _ hj=>by omega,Hb.out⟩
   case round =>
    obtain ⟨k,l,hk,rfl,⟨A,c,rfl⟩,ho,hl,hvs,hb⟩:=hrel
    obtain ⟨wo,rfl⟩:∃ wo:World,wo=wr:=⟨_,rfl⟩
    have HO:=Lib.hid ho;have Hb:=Lib.hid hb;have HVs:=Lib.hid hvs
    have X1:=HX1.out.keep hb
    have hw1:=hb.size
    clear ho hb hvs
    by_cases hlt:k<na
    ·
     have hka:k<al.length:=by rw [HNa.out];exact hlt
     obtain ⟨b,o,hA,hlb,c0,c1,c2,c3,c4,c5⟩:=(HRa.out.mono (bT HB1.out Hb.out)).ar hka
     subst hA
     have hvv:=fun W (hW:Below w.heap.size w W)=>(HVi.out k hka).mono hW
     have hvz:al[k].1.via.length≤9223372036854775000:=HSz.out _ (by rw [HPa.out];exact List.mem_map_of_mem (List.getElem_mem hka))
     have HVn:=Lib.hid (fun (h:al[k].1.via.length≤180)=>show ∀ j (hj:j<al.length),j<k+1→al[j].1.via.length≤180 from fun j hj hjk=>by
      by_cases e:j=k
      · subst e;exact h
      · exact HVs.out j hj (by omega))
     generalize al[k]=x at *
     obtain ⟨a,u⟩:=x
     simp only at c3 hvv HVn hvz
     obtain ⟨Av,cv,hue,hv1,hv2,-⟩:=hvv w (bR w)
     subst hue
     have HVv:=Lib.hid hvv
     unfold maxLen at hv2
     obtain ⟨V,hV⟩:∃ V,a.via=V:=⟨_,rfl⟩
     rw [hV] at hv1 c3 HVv HVn hvz
     clear hV hvv c0 c1 c2 c4 c5
     have i1:0≤(k:Int):=by omega
     have i2:(k:Int)<na:=by omega
     have HB2:=Lib.hid (bT HB1.out Hb.out)
     try clear X1l
     try clear X1a
     try clear X1b
     try clear X1c
     obtain ⟨X1l,X1a,X1b,X1c,-,-,-⟩:=X1.facts3
     by_cases hbig:180<l.length+V.length
     ·
      have hs1:(180:Int)<(l.length:Int)+V.length:=by omega
      have kw:IntKind.i64.wrap ((l.length:Int)+V.length)=l.length+V.length:=IntWalk.i64_in _ (by omega)
      go_wp2_with fail
      go_ret
      exact ⟨false,rfl,fun h=>(by cases h),HB2.out⟩
     ·
      have hs1:¬ (180:Int)<(l.length:Int)+V.length:=by omega
      have kw:IntKind.i64.wrap ((l.length:Int)+V.length)=l.length+V.length:=IntWalk.i64_in _ (by omega)
      have hsh:(l++V).length=l.length+V.length:=List.length_append
      have HSh:=Lib.hid hsh
      clear hsh
      go_wp2_with
       (at_builtin
        refine wpList_appl _ rfl (.tmp 57) (.tmp 63) _ rfl (base:=W1.heap.size) elem_pt ptC_len ptC_one rfl HO.out rfl (l2:=V) (HVv.out _ HB2.out) (by omega) (by omega) (by omega) ?_
        intro v3 w3 ho3 hg3 hat3
        obtain ⟨A3,c3',hv3,-⟩:=ho3.sl
        rw [HSh.out] at hv3
        subst hv3
        have HO3:=Lib.hid ho3
        have HB3:=Lib.hid (show Below W1.heap.size W1 w3 from bG Hb.out hg3 (fun g hg=>(HO.out.lt g hg).1))
        clear ho3 hg3 hat3 X1 X1l X1a X1b X1c)
      go_roundw
      case rel => exact ⟨k+1,l++V,by omega,by go_num,⟨A3,c3',by rw [HSh.out]⟩,HO3.out,by rw [HSh.out];omega,HVn.out (by omega),HB3.out⟩
      case measure => simp [intOf];omega
    ·
     obtain rfl:k=na:=by omega
     have HLg:=Lib.hid (show Lgt p from ⟨by rw [HNn.out];omega,by rw [HNv.out,HNa.out];omega,by rw [HNf.out];omega,fun a ha=>by
      rw [HPa.out] at ha
      obtain ⟨z,hz,rfl⟩:=List.mem_map.1 ha
      obtain ⟨j,hj,rfl⟩:=List.mem_iff_getElem.1 hz
      exact HVs.out j hj (by rw [← HNa.out];exact hj)⟩)
     have hbo:=RBounds_spec _ l wo HO.out.sl
     unfold boxC at hbo
     generalize boxL l=bx at *
     obtain ⟨x0,y0,x1,y1⟩:=bx
     simp only at hbo
     have HBo:=Lib.hid hbo
     clear hbo HVs
     try clear X1l
     try clear X1a
     try clear X1b
     try clear X1c
     obtain ⟨X1l,X1a,X1b,X1c,-,-,-⟩:=X1.facts3
     go_wp2_with fail
     refine HBo.out.mono ?_
     rintro e w5 ⟨rfl,hb5⟩
     have HB5:=Lib.hid (bT (bT HB1.out Hb.out) hb5)
     clear hb5 HBo X1 X1l X1a X1b X1c
     go_wp2_with fail
     all_goals
      go_ret
      exact ⟨_,rfl,fun _=>HLg.out,bA HB5.out _⟩
end Go.Proofs.YtpempeioeiaijaaGreat
namespace Go.Proofs.YtpempeioeiaijaaGreat
open Go.RowKit Go.Sort

set_option maxRecDepth 100000 in
set_option maxHeartbeats 8000000 in
theorem RLines19_spec (v:Value) (p:Pl) (w:World) (h:PlV w v p) (hsh:Short p) (hn:p.arcs.length≤1000000):Calls Tryz.prog 17 #[v] w (RetLns w (linesS p)):=by
 have HPt:=Lib.hid (fun id W (hW:Below w.heap.size w W)=>RPath_spec v p id W (h.mono hW) hsh)
 obtain ⟨_,_,_,al,rfl,hpa,⟨An,cn,rfl,-⟩,⟨⟨Aa,ca,rfl,hm1,hm2,hRa⟩,hVi⟩,⟨Af,cf,rfl,-⟩⟩:=h
 unfold maxLen at hm2
 have hal:al.length≤1000000:=by rw [hpa,List.length_map] at hn;exact hn
 have hlk:∀ k (hk:k<al.length),(p.arcs.take (k+1)).filterMap (fun a=>pathOf p a.id)=(p.arcs.take k).filterMap (fun a=>pathOf p a.id)++(pathOf p al[k].1.id).toList:=fun k hk=>by
  have h1:k<p.arcs.length:=by rw [hpa,List.length_map];exact hk
  rw [filterMap_take _ h1]
  have h2:p.arcs[k]=al[k].1:=by simp only [hpa,List.getElem_map]
  rw [h2]
 have hend:(p.arcs.take al.length).filterMap (fun a=>pathOf p a.id)=linesS p:=by
  unfold linesS
  rw [List.take_of_length_le (by rw [hpa,List.length_map];exact Nat.le_refl _)]
 have HLk:=Lib.hid hlk;have HEnd:=Lib.hid hend;have HRa:=Lib.hid hRa;have HVi:=Lib.hid hVi
 obtain ⟨G,hG⟩:∃ G:Nat→List (List Pt),G=fun k=>(p.arcs.take k).filterMap (fun a=>pathOf p a.id):=⟨_,rfl⟩
 have HGk:=Lib.hid (show ∀ k (hk:k<al.length),G (k+1)=G k++(pathOf p al[k].1.id).toList from fun k hk=>by rw [hG];exact hlk k hk)
 have HG0:=Lib.hid (show G 0=[] by rw [hG];rfl)
 have HGe:=Lib.hid (show G al.length=linesS p by rw [hG];exact hend)
 generalize p.nodes.length=nn at *
 generalize p.faces.length=nf at *
 generalize linesS p=LL at *
 clear hpa hRa hVi hsh hlk hend hG HLk HEnd hn
 go_enter Tryz.func17,Tryz.ntmps17
 go_upto_region 1 with fail
 obtain ⟨W1,hW⟩:∃ W1:World,W1=w.alloc (.cells #[.slice An nn cn,.slice Aa al.length ca,.slice Af nf cf] 34):=⟨_,rfl⟩
 have X1:Blk W1 w.heap.size 34 #[.slice An nn cn,.slice Aa al.length ca,.slice Af nf cf]:=by rw [hW];exact Blk.made rfl _ _
 have HB1:=Lib.hid (show Below w.heap.size w W1 by rw [hW];exact bA (bR w) _)
 have HX1:=Lib.hid X1
 rw [← hW]
 clear hW
 go_upto_block 0 with fail
 clear X1
 go_wp2_with fail
 go_loopw [3,4] (fun z u wr=>∃ (k:Nat) (ys:List (SV×List Pt)),k≤al.length∧u=.int .i64 k∧LnsO wr w.heap.size z ys∧Blk wr w.heap.size 34 #[.slice An nn cn,.slice Aa al.length ca,.slice Af nf cf]∧Below w.heap.size w wr∧ys.map (·.2)=G k∧ys.length≤k) (fun _ u _=>al.length-(intOf u).toNat)
 case atStart => exact ⟨0,[],Nat.zero_le _,rfl,⟨Own.nil _ _ _ _ _,fun y hy=>(by cases hy)⟩,HX1.out,HB1.out,HG0.out.symm,Nat.le_refl _⟩
 case round =>
  obtain ⟨k,ys,hk,rfl,ho,hx,hb,hys,hyl⟩:=hrel
  obtain ⟨wo,rfl⟩:∃ wo:World,wo=wr:=⟨_,rfl⟩
  have HO:=Lib.hid ho;have HX:=Lib.hid hx;have Hb:=Lib.hid hb;have HYs:=Lib.hid hys
  clear ho hx hb hys HX1 HB1
  by_cases hlt:k<al.length
  ·
   obtain ⟨b,o,rfl,hlb,c0,c1,c2,c3,c4,c5⟩:=(Row.mono HRa.out Hb.out).ar hlt
   obtain ⟨Av,cv,hvv,-⟩:=HVi.out k hlt
   rw [hvv] at c3
   have hGk:=HGk.out k hlt
   have hpt:=HPt.out al[k].1.id
   clear hvv
   generalize al[k].1=a at *
   obtain ⟨aid,afr,adst,avia,aleft,aright⟩:=a
   simp only at c0 c1 c2 c3 c4 c5 hpt hGk
   generalize avia.length=vn at *
   generalize pathOf p aid=r at *
   have HPk:=Lib.hid hpt;have HG1:=Lib.hid hGk
   clear hpt hGk
   have X1:=HX.out
   have z1:(k:Int)<al.length:=by omega
   have z2:(0:Int)≤k:=by omega
   have hgwo:=Hb.out.size
   obtain ⟨X1l,X1a,X1b,X1c,-,-,-⟩:=X1.facts3
   go_upto_region 5 with fail
   refine rg_start (Since wo) (.run 7 0 0 (.call 7 255 (.run 5 8 255 (.done)))) (by kernel_rfl) (bD (bR _)) (by kernel_rfl) (by kernel_rfl) (Nat.le_of_ble_eq_true (by kernel_rfl)) ?_
   intro opsR QR Hops HQrg hS
   iterate 7
    apply rg_p;exact Hops;exact rfl;exact hS;exact rfl
    · intro _ hqc;go_simp;try rfl
    try simp only [pu]
   refine rg_call (i:=7) (get_of Hops rfl) (fun K hK=>?_)
   have HSrg:=Lib.hid hS;clear hS
   refine rg_run (wanted_plain rfl) ?_
   go_simp
   refine (HPk.out _ (bT Hb.out HSrg.out)).mono ?_
   rintro e wr1 ⟨A6,c6,rfl,hbr1,ho6⟩
   have hS:Since wo wr1:=bT (w:=wo) HSrg.out hbr1
   clear HSrg
   refine hK.out _ _ hS (fun _=>?_)
   clear hK K
   try simp only [pu]
   iterate 5
    apply rg_p;exact Hops;exact rfl;exact hS;exact rfl
    · intro _ hqc;go_simp;try rfl
    try simp only [pu]
   refine rg_done ?_
   refine HQrg.down _ _ ?_
   have hB:Below wo.heap.size wo wr1:=hS
   clear hS HQrg Hops
   have HB6:=Lib.hid hB
   have HB6':=Lib.hid (bT Hb.out HB6.out)
   have HO6:=Lib.hid (HO.out.keep HB6.out)
   have HX6:=Lib.hid (HX.out.keep HB6.out)
   have HP6:=Lib.hid (ho6.mono_base (b':=w.heap.size) (by simp;omega))
   have hz6:=HB6'.out.size
   clear hB hbr1 ho6 X1 X1l X1a X1b X1c HPk
   cases r with
   | none =>
    simp only [Option.isSome_none,Bool.false_eq_true,if_false,Option.getD_none]
    go_wp2_with fail
    go_roundw
    case rel => exact ⟨k+1,ys,by omega,by go_num,HO6.out,HX6.out,HB6'.out,by rw [HG1.out,HYs.out];simp,by omega⟩
    case measure => simp [intOf];omega
   | some q =>
    simp only [Option.isSome_some,if_true,Option.getD_some] at HP6 ⊢
    obtain ⟨N,hN⟩:∃ N,q.length=N:=⟨_,rfl⟩
    rw [hN] at HP6 ⊢
    have HN:=Lib.hid hN
    clear hN
    go_wp2_with
     (at_builtin
      refine wpList_appl _ rfl (.tmp 27) (.tmp 29) _ rfl (base:=w.heap.size) elem_ln llC_len llC_one rfl (HO6.out.own.alloc _) rfl (l2:=[((⟨A6,N,c6⟩:SV),q)]) (Sl.lit (n:=1) (Blk.made (by simp) _ _) rfl (le_maxLen (by omega))) (by simp only [List.length_cons,List.length_nil];omega) (by simp only [List.length_cons,List.length_nil];omega) (by simp;omega) ?_
      intro v1 w1 ho1 hg1 hat1
      have HO1:=Lib.hid (show LnsO w1 w.heap.size v1 (ys++[((⟨A6,N,c6⟩:SV),q)]) from ⟨ho1,fun y hy=>by
       have key:∀ y:SV×List Pt,Own wr1 w.heap.size 42 2 ptC (svV y.1) y.2→Own w1 w.heap.size 42 2 ptC (svV y.1) y.2:=fun y h =>
        Own.grown (h.alloc _) hg1 (Own.apart h HO6.out.own (by decide))
       rcases List.mem_append.1 hy with h | h
       · exact key y (HO6.out.rd y h)
       · rw [List.mem_singleton.1 h];exact key _ HP6.out⟩)
      have HX1:=Lib.hid ((HX6.out.alloc _).grown hg1 (fun e=>(Own.ne_blk HO6.out.own HX6.out (by decide)) e.symm))
      have HB1:=Lib.hid (show Below w.heap.size w w1 from bG (w:=w) (bA HB6'.out _) hg1 (fun q hq=>(HO6.out.own.lt q hq).1))
      clear ho1 hg1 hat1)
    go_roundw
    case rel => exact ⟨k+1,_,by omega,by go_num,HO1.out,HX1.out,HB1.out,by rw [List.map_append,HYs.out,HG1.out];rfl,by simp only [List.length_append,List.length_cons,List.length_nil];omega⟩
    case measure => simp [intOf];omega
  ·
   have hkn:k=al.length:=by omega
   subst hkn
   have X1:=HX.out
   try clear X1l
   try clear X1a
   try clear X1b
   try clear X1c
   obtain ⟨X1l,X1a,X1b,X1c,-,-,-⟩:=X1.facts3
   go_wp2_with fail
   obtain ⟨A9,c9,hv9,-⟩:=Own.shape HO.out.own
   subst hv9
   go_ret
   exact ⟨A9,c9,ys,rfl,Hb.out,HO.out,by rw [HYs.out,HGe.out]⟩
theorem pathOf_len9 {p:Pl} (hs:Short p) {a:Ar} (ha:a∈p.arcs) {q:List Pt} (h:pathOf p a.id=some q):q.length≤1000000000:=by
 unfold pathOf at h
 cases e:findAr p.arcs a.id with
 | none=>rw [e] at h;cases h
 | some b =>
  rw [e] at h
  simp only at h
  have hb:=hs b (findAr_mem e)
  split at h
  ·
   injection h with h
   rw [← h]
   unfold pathS
   simp only [List.length_cons,List.length_append,List.length_nil]
   omega
  · cases h
theorem linesS_len {p:Pl} (hs:Short p) {q:List Pt} (h:q∈linesS p):q.length≤1000000000:=by
 unfold linesS at h
 obtain ⟨a,ha,he⟩:=List.mem_filterMap.1 h
 exact pathOf_len9 hs ha he
theorem linesS_num (p:Pl):(linesS p).length≤p.arcs.length:=List.length_filterMap_le _ _

set_option maxRecDepth 100000 in
set_option maxHeartbeats 8000000 in
theorem IntakeLines_spec (v:Value) (p:Pl) (w:World) (h:PlV w v p) (hsh:ShortL p):Calls Tryz.prog 4 #[v] w fun e w'=>e=.returned (.bool true)∧Below w.heap.size w w':=by
 have HAw:=Lib.hid (fun W=>Awake19_spec W)
 have HLi:=Lib.hid (fun W (hW:Below w.heap.size w W)=>Light16_spec v p W (h.mono hW) (fun a ha=>by have:=hsh a ha;omega))
 have HL1:=Lib.hid (fun W (hW:Below w.heap.size w W) (hl:Lgt p)=>Lines19_spec v p W (h.mono hW) (fun a ha=>by have:=hl.vias a ha;omega) (by have:=hl.arcs;omega))
 have HL2:=Lib.hid (fun W (hW:Below w.heap.size w W) (hl:Lgt p)=>RLines19_spec v p W (h.mono hW) (fun a ha=>by have:=hl.vias a ha;omega) (by have:=hl.arcs;omega))
 obtain ⟨An,cn,Aa,ca,Af,cf,rfl⟩:=h.open3
 generalize p.nodes.length=nn at *
 generalize hna:p.arcs.length=na at *
 generalize p.faces.length=nf at *
 have HNa:=Lib.hid hna
 clear h hsh hna
 go_enter Tryz.func4,Tryz.ntmps4
 go_upto_region 1 with fail
 obtain ⟨W1,hW⟩:∃ W:World,W=w.alloc (.cells #[.slice An nn cn,.slice Aa na ca,.slice Af nf cf] 34):=⟨_,rfl⟩
 have X1:Blk W1 w.heap.size 34 #[.slice An nn cn,.slice Aa na ca,.slice Af nf cf]:=by rw [hW];exact Blk.made rfl _ _
 have HB1:=Lib.hid (show Below w.heap.size w W1 by rw [hW];exact bA (bR w) _)
 have HX1:=Lib.hid X1
 rw [← hW]
 clear hW
 obtain ⟨X1l,X1a,X1b,X1c,-,-,-⟩:=X1.facts3
 go_wp2_with fail
 refine (HLi.out _ HB1.out).mono ?_
 rintro e w2 ⟨b,rfl,hlg,hb2⟩
 have HB2:=Lib.hid (bT HB1.out hb2)
 have HX2:=Lib.hid (HX1.out.keep hb2)
 clear hb2 X1 X1l X1a X1b X1c HX1 HB1 HLi
 cases b
 case false =>
  clear hlg
  go_wp2_with fail
  refine (HAw.out _).mono ?_
  rintro e w3 ⟨rfl,hb3⟩
  go_wp2_with fail
  go_ret
  exact ⟨rfl,bT HB2.out hb3⟩
 case true =>
  have hl:=hlg rfl
  have HLa:=Lib.hid (fun W (hW:Below w.heap.size w W)=>HL1.out W hW hl)
  have HLb:=Lib.hid (fun W (hW:Below w.heap.size w W)=>HL2.out W hW hl)
  have HSh:=Lib.hid (show Short p from fun a ha=>by have:=hl.vias a ha;omega)
  have HNl:=Lib.hid (show (linesS p).length≤1000000 by have h1:=linesS_num p;have h2:=hl.arcs;omega)
  have HSa:=Lib.hid (fun v u xs ys W (hx:Lns19 W v xs) (hy:Lns19 W u ys) (ex:xs.map (·.2)=linesS p) (ey:ys.map (·.2)=linesS p)=>show Calls Tryz.prog 14 #[v,u] W fun e w'=>e=.returned (.bool true)∧Below W.heap.size W w' from by
   have key:∀ zs:List (SV×List Pt),zs.map (·.2)=linesS p→zs.length≤1000000∧∀ k (hk:k<zs.length),zs[k].2.length≤1000000000:=fun zs ez=>by
    have h1:zs.length=(linesS p).length:=by rw [← ez,List.length_map]
    exact ⟨by rw [h1];exact HNl.out,fun k hk=>linesS_len HSh.out (by rw [← ez];exact List.mem_map_of_mem (List.getElem_mem hk))⟩
   have h9:=Same19_spec v u xs ys W hx hy (key xs ex).1 (key ys ey).1 (key xs ex).2 (key ys ey).2
   rw [ex,ey,decide_eq_true rfl] at h9
   exact h9)
  clear hlg hl HL1 HL2 HNa
  have X2:=HX2.out
  obtain ⟨X2l,X2a,X2b,X2c,-,-,-⟩:=X2.facts3
  go_upto_region 3 with fail
  refine rg_start (Since w2) (.call 0 1 (.take 1 3 (.take 2 7 (.take 4 23 (.call 3 31 (.call 5 63 (.call 6 127 (.take 7 255 (.take 8 511 (.done)))))))))) (by kernel_rfl) (bD (bR _)) (by kernel_rfl) (by kernel_rfl) (Nat.le_of_ble_eq_true (by kernel_rfl)) ?_
  intro opsR QR Hops HQrg hS
  refine rg_call (i:=0) (get_of Hops rfl) (fun K hK=>?_)
  have HSrg:=Lib.hid hS;clear hS
  refine rg_run (wanted_plain rfl) ?_
  go_simp
  refine (HAw.out _).mono ?_
  rintro e wr1 ⟨rfl,hbr1⟩
  have hS:Since w2 wr1:=bT (w:=w2) HSrg.out hbr1
  clear HSrg
  refine hK.out _ _ hS (fun _=>?_)
  clear hK K
  try simp only [pu]
  apply rg_p;exact Hops;exact rfl;exact hS;exact rfl
  · intro _ hqc;go_simp;try rfl
  try simp only [pu]
  iterate 2
   apply rg_g;exact Hops;exact rfl;exact hS;iterate 4 exact rfl
   · intro _ hqc;go_simp;try rfl
   try simp only [pu]
  refine rg_call (i:=3) (get_of Hops rfl) (fun K hK=>?_)
  have HSrg:=Lib.hid hS;clear hS
  refine rg_run (wanted_yes rfl (get_of Hops rfl) rfl rfl) ?_
  go_simp
  refine (HLa.out _ (bT HB2.out HSrg.out)).mono ?_
  rintro e wr2 ⟨A5,c5,ys,rfl,hbr2,hl2,hy2⟩
  have hS:Since w2 wr2:=bT (w:=w2) HSrg.out hbr2
  clear HSrg
  refine hK.out _ _ hS (fun _=>?_)
  clear hK K
  try simp only [pu]
  refine rg_call (i:=5) (get_of Hops rfl) (fun K hK=>?_)
  have HSrg:=Lib.hid hS;clear hS
  refine rg_run (wanted_yes rfl (get_of Hops rfl) rfl rfl) ?_
  go_simp
  refine (HLb.out _ (bT HB2.out HSrg.out)).mono ?_
  rintro e wr3 ⟨A6,c6,zs,rfl,hbr3,hl3,hy3⟩
  have hS:Since w2 wr3:=bT (w:=w2) HSrg.out hbr3
  clear HSrg
  refine hK.out _ _ hS (fun _=>?_)
  clear hK K
  try simp only [pu]
  refine rg_call (i:=6) (get_of Hops rfl) (fun K hK=>?_)
  have HSrg:=Lib.hid hS;clear hS
  refine rg_run (wanted_yes rfl (get_of Hops rfl) rfl rfl) ?_
  go_simp
  refine (HSa.out _ _ ys zs _ (hl2.keep hbr3).lns hl3.lns hy2 hy3).mono ?_
  rintro e wr4 ⟨rfl,hbr4⟩
  have hS:Since w2 wr4:=bT (w:=w2) HSrg.out hbr4
  clear HSrg
  refine hK.out _ _ hS (fun _=>?_)
  clear hK K
  try simp only [pu]
  iterate 2
   apply rg_p;exact Hops;exact rfl;exact hS;exact rfl
   · intro _ hqc;go_simp;try rfl
   try simp only [pu]
  refine rg_done ?_
  refine HQrg.down _ _ ?_
  have hB:Below w2.heap.size w2 wr4:=hS
  clear hS HQrg Hops
  go_wp2_with fail
  go_ret
  exact ⟨rfl,bT HB2.out hB⟩
end Go.Proofs.YtpempeioeiaijaaGreat
namespace Go.Proofs.YtpempeioeiaijaaGreat
open Go.RowKit Go.ChangeShapes Go.WideShapes Go.Deep Go.Joins

def BdW {H:Type} (P:Program) (t:TypeId) (d:DataW H):Prop:=∀ n∈d.weights P t,n≤reachBytes
section
variable {H:Type} {P:Program}
theorem weightsAll_mem_ {e:TypeId}:∀ {l:List (DataW H)} {d:DataW H},d∈l→∀ n∈d.weights P e,n∈DataW.weightsAll P e l
 | d::l,d',h,n,hn=>by
  unfold DataW.weightsAll
  rcases List.mem_cons.1 h with rfl | h
  · exact List.mem_append_left _ hn
  · exact List.mem_append_right _ (weightsAll_mem_ h n hn)
theorem bd_slice {t e:TypeId} {elems spare:List (DataW H)} (ht:P.underlying t=some (.slice e)) (h:BdW P t (.slice elems spare)):(∀ d∈elems,BdW P e d)∧elems.length*P.bytesOf e≤reachBytes:=by
 unfold BdW DataW.weights at h
 rw [ht] at h
 refine ⟨fun d hd n hn=>h n (List.mem_cons_of_mem _ (List.mem_append_left _ (weightsAll_mem_ hd n hn))),?_⟩
 have:=h _ List.mem_cons_self
 exact Nat.le_trans (Nat.mul_le_mul_right _ (by omega)) this
theorem bd_part {t u:TypeId} {fs:Array Field} {parts:List (DataW H)} {d:DataW H} {j:Nat} (ht:P.underlying t=some (.struct fs)) (h:BdW P t (.agg parts)) (hj:(fs.toList.map (·.type))[j]? = some u) (hd:parts[j]? = some d):BdW P u d:=by
 unfold BdW DataW.weights at h
 rw [ht] at h
 exact fun n hn=>h n (DataW.weights_mem_each hj hd n hn)
end
section
variable {H:Type} {enc:TypeId×Value→H} {w:World} {base:Nat} {spare:Nat→Bool} {held:Bool}
theorem sl_of_sz {P:Program} {α:Type} [Inhabited α] {t e:TypeId} {n:Nat} (f:α→List Value) (Q:α→Prop) (ht:P.underlying t=some (.slice e)) (hc:P.cellsOf e=n) (hn:∀ a,(f a).length=n)
  (hel:∀ m cs x,DataW.trod enc P w base spare held m e cs=some x→BdW P e x.1→∃ a,cs=f a∧Q a) {fuel:Nat} {cs:List Value} {x:DataW H×List MemPlace} (h:DataW.trod enc P w base spare held fuel t cs=some x) (hbd:BdW P t x.1) :
  ∃ l:List α,(∃ v,cs=[v]∧Sl w v l.length (l.flatMap f))∧(∀ a∈l,Q a)∧l.length*P.bytesOf e≤reachBytes:=by
 rcases open_slice ht h with ⟨rfl,_⟩ | ⟨a,len,cap,m,k,D,Pl,rfl,hb,hl,hm,hmm,hx,hi⟩
 · exact ⟨[],⟨_,rfl,none,0,rfl,Nat.le_refl _,by simp [maxLen],Row.nil⟩,(fun _ h=>by cases h),by simp⟩
 ·
  have hlm:len≤m:=by rw [hmm];split<;>omega
  have hbs:=bd_slice ht (hx ▸ hbd)
  obtain ⟨F,hF⟩:=choose_lt (α:=α) (p:=fun i y=>w.cells? base (a.add (i*n)) n=some (f y)∧Q y) (n:=len) (fun i hil=>by
   obtain ⟨cs',h1,h2⟩:=hi i (by omega)
   obtain ⟨y,rfl,hq⟩:=hel _ _ _ h2 (hbs.1 _ (List.mem_map.2 ⟨i,List.mem_range.2 hil,rfl⟩))
   rw [hc] at h1
   exact ⟨y,h1,hq⟩)
  have hlen:((List.range len).map F).length=len:=by simp
  refine ⟨(List.range len).map F,⟨_,rfl,some a,cap,by rw [hlen],by rw [hlen];exact hl,hm,?_⟩,fun y hy=>?_,?_⟩
  ·
   intro hne
   have hfl:=flat_length f n hn ((List.range len).map F)
   rw [hlen] at hfl
   have hpos:0<len*n:=by
    rcases Nat.eq_zero_or_pos (len*n) with h0 | h0
    · exact absurd (List.eq_nil_of_length_eq_zero (by omega)) hne
    · exact h0
   have hn0:0<n:=Nat.pos_of_mul_pos_left hpos
   have key:∀ j,j<len*n→w.cell? (a.add j)=(((List.range len).map F).flatMap f)[j]? := fun j hj=>by
    have h1:j / n<len:=Nat.div_lt_of_lt_mul (by rw [Nat.mul_comm];exact hj)
    have h2:j % n<n:=Nat.mod_lt _ hn0
    have h3:=flat_get f n hn ((List.range len).map F) (j / n) (j % n) (by rw [hlen];exact h1) h2
    rw [Nat.div_add_mod'] at h3
    have h4:=(World.cells?_some (hF (j / n) h1).1).2.2 (j % n) h2
    rw [Go.Deep.add_add,Nat.div_add_mod'] at h4
    rw [h4,h3]
    simp
   have h00:=key 0 hpos
   obtain ⟨b,o,spot⟩:=a
   have hex:∃ v,w.cell? (Addr.add ⟨b,o,spot⟩ 0)=some v:=by
    rw [h00,List.getElem?_eq_getElem (by omega)]
    exact ⟨_,rfl⟩
   obtain ⟨v0,hv0⟩:=hex
   have hspot:spot=none:=by simpa [Addr.add] using World.cell?_spot hv0
   subst hspot
   refine ⟨b,o,rfl,?_,fun j v hj=>?_⟩
   ·
    have:=World.block_lt_of_cell? w _ hv0
    simpa [Addr.add] using this
   ·
    have hjl:j<len*n:=by
     rcases Nat.lt_or_ge j (len*n) with h' | h'
     · exact h'
     · rw [List.getElem?_eq_none (by omega)] at hj;cases hj
    rw [← Go.WideShapes.add_plain,key j hjl]
    exact hj
  ·
   obtain ⟨i,hi',rfl⟩:=List.mem_map.1 hy
   exact (hF i (List.mem_range.1 hi')).2
  ·
   rw [hlen]
   have h2:=hbs.2
   rw [List.length_map,List.length_range] at h2
   exact h2

theorem trod_struct6x {P:Program} {t:TypeId} {f0 f1 f2 f3 f4 f5:Field} {fuel:Nat} {cs:List Value} {x:DataW H×List MemPlace} (ht:P.underlying t=some (.struct #[f0,f1,f2,f3,f4,f5])) (h:DataW.trod enc P w base spare held fuel t cs=some x) :
  ∃ (y0 y1 y2 y3 y4 y5:DataW H×List MemPlace) (n:Nat),x.1=.agg [y0.1,y1.1,y2.1,y3.1,y4.1,y5.1]∧cs.length=P.cellsOf t∧DataW.trod enc P w base spare held n f0.type ((cs.drop f0.offset).take (P.cellsOf f0.type))=some y0∧DataW.trod enc P w base spare held n f1.type ((cs.drop f1.offset).take (P.cellsOf f1.type))=some y1∧DataW.trod enc P w base spare held n f2.type ((cs.drop f2.offset).take (P.cellsOf f2.type))=some y2∧DataW.trod enc P w base spare held n f3.type ((cs.drop f3.offset).take (P.cellsOf f3.type))=some y3∧DataW.trod enc P w base spare held n f4.type ((cs.drop f4.offset).take (P.cellsOf f4.type))=some y4∧DataW.trod enc P w base spare held n f5.type ((cs.drop f5.offset).take (P.cellsOf f5.type))=some y5:=by
 obtain ⟨xs,n,_,hx,hl,hlen,hf⟩:=DataW.trod_struct ht h
 match xs,hlen with
 | [y0,y1,y2,y3,y4,y5],_=>exact ⟨y0,y1,y2,y3,y4,y5,n,by rw [hx];rfl,hl,by simpa using hf 0 f0 rfl,by simpa using hf 1 f1 rfl,by simpa using hf 2 f2 rfl,by simpa using hf 3 f3 rfl,by simpa using hf 4 f4 rfl,by simpa using hf 5 f5 rfl⟩
theorem trod_pts_sz {fuel:Nat} {cs:List Value} {x:DataW H×List MemPlace} (h:DataW.trod enc Tryz.prog w base spare held fuel 25 cs=some x) (hb:BdW Tryz.prog 25 x.1):∃ l:List Pt,(∃ v,cs=[v]∧Pts w v l)∧(∀ p∈l,wfPt p)∧l.length≤8796093022208:=by
 obtain ⟨l,h1,h2,h3⟩:=sl_of_sz ptC wfPt Tryz.underlying25 c_pt ptC_len (fun _ _ _ h _=>trod_pt h) h hb
 rw [show Tryz.prog.bytesOf 42=16 by kernel_rfl] at h3
 have h4:reachBytes<140737488355328:=by have:=reachBytes_lt;omega
 exact ⟨l,h1,h2,by omega⟩
def wfArS (a:Ar):Prop:=wfAr a∧a.via.length≤8796093022208
set_option maxRecDepth 100000 in
theorem trod_ar_sz {fuel:Nat} {cs:List Value} {x:DataW H×List MemPlace} (h:DataW.trod enc Tryz.prog w base spare held fuel 50 cs=some x) (hb:BdW Tryz.prog 50 x.1):∃ p:Ar×Value,cs=arC p∧Pts w p.2 p.1.via∧wfArS p.1:=by
 obtain ⟨y0,y1,y2,y3,y4,y5,n,hx,hl,h0,h1,h2,h3,h4,h5⟩:=trod_struct6x Tryz.underlying50 h
 rw [hx] at hb
 have hb3:=bd_part (j:=3) Tryz.underlying50 hb rfl rfl
 rw [c_ar] at hl
 obtain ⟨c0,c1,c2,c3,c4,c5,rfl⟩:=lst6 hl
 simp only [c_int,c_pts,List.drop_zero,List.drop_succ_cons,List.take_succ_cons,List.take_zero] at h0 h1 h2 h3 h4 h5
 obtain ⟨a0,e0,k0⟩:=trod_in h0
 obtain ⟨a1,e1,k1⟩:=trod_in h1
 obtain ⟨a2,e2,k2⟩:=trod_in h2
 obtain ⟨l,⟨v,e3,hv⟩,k3,k6⟩:=trod_pts_sz h3 hb3
 obtain ⟨a4,e4,k4⟩:=trod_in h4
 obtain ⟨a5,e5,k5⟩:=trod_in h5
 simp only [inC,List.cons.injEq,and_true] at e0 e1 e2 e3 e4 e5
 subst e0 e1 e2 e3 e4 e5
 exact ⟨(⟨a0,a1,a2,l,a4,a5⟩,c3),rfl,hv,⟨k0,k1,k2,k4,k5,k3⟩,k6⟩
set_option maxRecDepth 100000 in
theorem PlV.of_trod_sz {r:Reach} {b0:Nat} {v:Value} {d:DataW H} {ps:List MemPlace} (hv:Value.okWide Tryz.prog w r b0 34 v) (h:DataW.Trod enc Tryz.prog w base spare held 34 v d ps) (hb:BdW Tryz.prog 34 d):∃ p,PlV w v p∧wfPl p∧ShortL p:=by
 obtain ⟨v0,v1,v2,y0,y1,y2,n,rfl,rfl,-,h0,h1,h2⟩:=open_agg3 Tryz.underlying34 (by kernel_rfl) c_pl hv h
 have hb1:=bd_part (j:=1) Tryz.underlying34 hb rfl rfl
 obtain ⟨nl,⟨u0,e0,hn⟩,wn⟩:=sl_of ndC wfNd Tryz.underlying30 c_nd ndC_len (fun _ _ _ h=>trod_nd h) h0
 obtain ⟨al,⟨u1,e1,ha⟩,wa,-⟩:=sl_of_sz arC (fun x=>Pts w x.2 x.1.via∧wfArS x.1) Tryz.underlying31 c_ar arC_len (fun _ _ _ h hb=>trod_ar_sz h hb) h1 hb1
 obtain ⟨fl,⟨u2,e2,hf⟩,wf⟩:=sl_of inC wfI Tryz.underlying32 c_int inC_len (fun _ _ _ h=>trod_in h) h2
 simp only [List.cons.injEq,and_true] at e0 e1 e2
 subst e0 e1 e2
 refine ⟨⟨nl,al.map (·.1),fl⟩,⟨v0,v1,v2,al,rfl,rfl,hn,⟨ha,fun k hk=>(wa _ (List.getElem_mem hk)).1⟩,hf⟩,⟨wn,fun a ha=>?_,wf⟩,fun a ha=>?_⟩
 ·
  obtain ⟨x,hx,rfl⟩:=List.mem_map.1 ha
  exact (wa x hx).2.1
 ·
  obtain ⟨x,hx,rfl⟩:=List.mem_map.1 ha
  exact (wa x hx).2.2
end
end Go.Proofs.YtpempeioeiaijaaGreat
