import Derived.Test.YtialfdomhoojiaaGreatJ19
import Derived.Test.YtialfdomhoojiaaGreatJ15
import Derived.Test.YtialfdomhoojiaaGreatJ17
import Derived.Test.YtialfdomhoojiaaGreatGB
import Derived.Test.YtialfdomhoojiaaGreatJ08
set_option linter.unusedSimpArgs false
set_option linter.unusedVariables false
namespace Go.Proofs.YtialfdomhoojiaaGreat
open Go.RowKit

def cysAD (x:AD):List (List Int×SV):=(x.out,x.ov)::x.inn
set_option maxRecDepth 100000 in
set_option maxHeartbeats 4000000 in
theorem AreaCycles_spec (x:AD) (w:World) (hr:Sl w (svV x.iv) x.inn.length (x.inn.flatMap cyC)) (hl:x.inn.length≤100000) :
  Calls Tryz.prog 64 #[.agg #[.int .i64 x.tw,svV x.ov,svV x.iv,svV x.av]] w fun e w'=>(∃ A c,e=.returned (.slice A (cysAD x).length c)∧Own w' w.heap.size 24 1 cyC (.slice A (cysAD x).length c) (cysAD x))∧Below w.heap.size w w':=by
 obtain ⟨tw,out,⟨oa,on,oc⟩,inn,⟨ia,in_,ic⟩,alo,⟨aa,an,ac⟩⟩:=x
 unfold svV cysAD at *
 simp only at hr hl ⊢
 have HS:=Lib.hid hr
 obtain ⟨Ai,ci,he,-⟩:=hr
 injection he with e1 e2 e3
 subst e2
 have HO:=Lib.hid (Own.lit (w.alloc (.cells #[.int .i64 tw,.slice oa on oc,.slice ia inn.length ic,.slice aa an ac] 82)) w.heap.size 24 1 cyC [((out,⟨oa,on,oc⟩):List Int×SV)] #[.slice oa on oc] 1 (w.heap.size+1) (by simp) rfl (by simp) (le_maxLen (by omega)) rfl rfl)
 have hle:((out,⟨oa,on,oc⟩)::inn:List (List Int×SV)).length=inn.length+1:=rfl
 rw [hle]
 clear e1 e3 hle
 go_enter Tryz.func64,Tryz.ntmps64
 go_wp2_with
  (at_builtin
   refine wpList_appl _ rfl (.tmp 5) (.tmp 7) _ rfl (base:=w.heap.size) elem_cy cyC_len cyC_one rfl HO.out rfl (l2:=inn) (HS.out.mono (bA (bA (bR w) _) _)) (by simp only [List.length_cons,List.length_nil];omega) (by simp only [List.length_cons,List.length_nil];omega) (by simp only [World.size_alloc];omega) ?_
   intro v2 w2 ho2 hg2 hat2
   obtain ⟨A2,c2,hv2,-⟩:=Own.shape_ ho2
   rw [show ([((out,⟨oa,on,oc⟩):List Int×SV)]++inn).length=inn.length+1 by rw [List.length_append,List.length_singleton];omega] at hv2
   subst hv2
   have HO2:=Lib.hid ho2
   have HB2:=Lib.hid (bG (bA (bA (bR w) _) _) hg2 (fun g hg=>(HO.out.lt g hg).1))
   clear ho2 hg2 hat2
   )
 go_ret
 exact ⟨⟨A2,c2,rfl,HO2.out⟩,HB2.out⟩
end Go.Proofs.YtialfdomhoojiaaGreat
namespace Go.Proofs.YtialfdomhoojiaaGreat
open Go.RowKit

theorem spnS_len (l:List Rn):(spnS l).length≤l.length:=by
 have h:=spn_len (sortR l) (sortR l).length
 unfold spnT at h
 rw [List.take_length] at h
 unfold spnS spnF
 have e:(sortR l).length=l.length:=(sortR_facts l).1.length_eq
 omega
def sliceLen:Value→Nat
 | .slice _ n _=>n
 | _=>0
def TailV (A:Option Addr) (N:List Rn) (s:Value) (j:Nat):Prop :=
 ∃ A' c,s=.slice A' (N.length-j) c∧N.length-j≤c∧c≤9223372036854775807∧∀ g,A=some ⟨g,0,none⟩→j<N.length→A'=some ⟨g,j*2,none⟩
theorem TailV.next {A:Option Addr} {N:List Rn} {gb j c:Nat} (hA:A=some ⟨gb,0,none⟩) (hj:j<N.length) (hc:N.length-j≤c) (hc2:c≤9223372036854775807) :
  TailV A N (.slice (if c=1 then some ⟨gb,j*2,none⟩ else some ⟨gb,j*2+2,none⟩) (N.length-j-1) (c-1)) (j+1):=by
 refine ⟨_,c-1,by rw [Nat.sub_sub],by omega,by omega,fun g hg hlt=>?_⟩
 rw [if_neg (by omega)]
 rw [hA] at hg
 injection hg with hg
 injection hg with hg _ _
 subst hg
 rw [Nat.add_mul,Nat.one_mul]
theorem drop_step {N:List Rn} {j:Nat} {lo:Int} (hj:j<N.length) (h:N[j].hi≤lo):dropR lo (N.drop j)=dropR lo (N.drop (j+1)):=by
 rw [List.drop_eq_getElem_cons hj]
 unfold dropR
 rw [List.dropWhile_cons,if_pos (by simpa using h)]
theorem drop_stop {N:List Rn} {j:Nat} {lo:Int} (hj:j<N.length) (h:¬ N[j].hi≤lo):dropR lo (N.drop j)=N.drop j:=by
 rw [List.drop_eq_getElem_cons hj]
 unfold dropR
 rw [List.dropWhile_cons,if_neg (by simpa using h)]
theorem drop_all {N:List Rn} {lo:Int} {j:Nat} (h:N.length≤j):dropR lo (N.drop j)=N.drop j:=by
 rw [List.drop_eq_nil_of_le h];rfl
theorem cut_step {N:List Rn} {j:Nat} {lo hi:Int} (hj:j<N.length) (h:N[j].lo<hi):cutR hi lo (N.drop j)=addR lo N[j].lo++cutR hi N[j].hi (N.drop (j+1)):=by
 rw [List.drop_eq_getElem_cons hj,cutR,if_pos h]
theorem cut_stop {N:List Rn} {j:Nat} {lo hi:Int} (hj:j<N.length) (h:¬ N[j].lo<hi):cutR hi lo (N.drop j)=addR lo hi:=by
 rw [List.drop_eq_getElem_cons hj]
 unfold cutR
 rw [if_neg h]
theorem cut_all {N:List Rn} {lo hi:Int} {j:Nat} (h:N.length≤j):cutR hi lo (N.drop j)=addR lo hi:=by
 rw [List.drop_eq_nil_of_le h];rfl
theorem min_keep {wA wB:World} {B g4 g7 Ba Bb:Nat} {L M N:List Rn} {v v2 Va Vb:Value} {t:TypeId} {cs:Array Value} (hx:RnBox wA B g4 L v) (hk:KeptBut wA wB g4 v.ownBlock) (hat:NewAt wA v v2) (h7:v.ownBlock≠some g7) (X7:Blk wA g7 t cs) (hne:g7≠g4)
  (hm:Own wA Ba 121 2 rnC Va M) (hmk:∀ q,Va.ownBlock=some q→q<B) (hn:Own wA Bb 121 2 rnC Vb N) (hnk:∀ q,Vb.ownBlock=some q→q<B) :
  Blk wB g7 t cs∧v2.ownBlock≠some g7∧Own wB Ba 121 2 rnC Va M∧Own wB Bb 121 2 rnC Vb N:=by
 have key:∀ {V:Value},(∀ q,V.ownBlock=some q→q<B)→∀ k,V.ownBlock=some k→v.ownBlock≠some k:=fun hV k e e2=>by
  have h1:=hV k e
  have h2:=(hx.own.lt k e2).1
  omega
 refine ⟨hk.keep X7 hne h7,fun e=>?_,hk.own hm (Own.ne_blk hm hx.box (by decide)) (key hmk),hk.own hn (Own.ne_blk hn hx.box (by decide)) (key hnk)⟩
 rcases hat with h | ⟨k,h,h2⟩
 · exact h7 (h.symm.trans e)
 ·
  rw [h] at e
  injection e with e
  have:=X7.lt
  omega
theorem addR_len (lo hi:Int):(addR lo hi).length≤1:=by unfold addR;split<;>simp
theorem diff_step {M N:List Rn} {k j j':Nat} (hk:k<M.length) (h:dropR M[k].lo (N.drop j)=N.drop j'):diffR (M.drop k) (N.drop j)=cutR M[k].hi M[k].lo (N.drop j')++diffR (M.drop (k+1)) (N.drop j'):=by
 rw [List.drop_eq_getElem_cons hk,diffR,h]

theorem isAgg_rns:∀ w,(isAgg 124).run Tryz.prog w=.ok false w:=fun _=>by kernel_rfl
set_option maxRecDepth 100000 in
set_option maxHeartbeats 8000000 in
theorem Minus_spec (va vb:Value) (a b:List Rn) (w:World) (ha:Rns w va a) (hb:Rns w vb b) (hla:a.length≤50000) (hlb:b.length≤50000):Calls Tryz.prog 204 #[va,vb] w (RetRns w (diffR (spnS a) (spnS b))):=by
 have HNa:=Lib.hid (fun W (hW:Below w.heap.size w W)=>SpanNormal_spec va a W (ha.mono hW) (by omega))
 have HNb:=Lib.hid (fun W (hW:Below w.heap.size w W)=>SpanNormal_spec vb b W (hb.mono hW) (by omega))
 have HAd:=Lib.hid (@addRn2_spec)
 have hlm:=spnS_len a
 have hln:=spnS_len b
 obtain ⟨M,hM⟩:∃ M,spnS a=M:=⟨_,rfl⟩
 obtain ⟨N,hN⟩:∃ N,spnS b=N:=⟨_,rfl⟩
 rw [hM] at HNa hlm ⊢
 rw [hN] at HNb hln ⊢
 have hml:M.length≤50000:=by omega
 have hnl:N.length≤50000:=by omega
 clear ha hb hlm hln hM hN hla hlb
 go_enter Tryz.func204,Tryz.ntmps204
 go_upto_region 1 with fail
 obtain ⟨W1,hW⟩:∃ W1:World,W1=w.alloc (.cells #[.slice none 0 0] 124):=⟨_,rfl⟩
 have X1:Blk W1 w.heap.size 124 #[.slice none 0 0]:=by rw [hW];exact Blk.made rfl _ _
 have HB1:=Lib.hid (show Below w.heap.size w W1 by rw [hW];exact bA (bR w) _)
 rw [← hW]
 clear hW
 have HX1:=Lib.hid X1
 go_wp2_with fail
 refine (HNb.out _ HB1.out).mono ?_
 rintro e w2 ⟨Ab,cb,rfl,hob,hb2⟩
 have HX2:=Lib.hid (HX1.out.keep hb2)
 have HB2:=Lib.hid (bT HB1.out hb2)
 have HOb:=Lib.hid hob
 clear hob hb2 HX1 X1 HB1 HNb
 go_wp2_with fail
 refine (HNa.out _ HB2.out).mono ?_
 rintro e w3 ⟨Aa,ca,rfl,hoa,hb3⟩
 have HX3:=Lib.hid (HX2.out.keep hb3)
 have HB3:=Lib.hid (bT HB2.out hb3)
 have HOa:=Lib.hid hoa
 have HOb3:=Lib.hid (HOb.out.keep hb3)
 obtain ⟨g4,hg4⟩:∃ g4,w.heap.size=g4:=⟨_,rfl⟩
 have hx3:=HX3.out.lt
 clear hoa hb3 HX2 HB2 HOb HNa
 go_upto_block 0 with fail
 go_wp2_with fail
 have hg0:g4<w3.heap.size:=by omega
 rw [hg4] at HX3
 have HNk:=Lib.hid (fun q hq=>(HOb3.out.lt q hq).2);have HMk:=Lib.hid (fun q hq=>(HOa.out.lt q hq).2)
 go_loopw [1,16] (fun s i wr=>∃ (k j:Nat) (L:List Rn) (v:Value),k≤M.length∧i=.int .i64 k∧j≤N.length∧TailV Ab N s j∧diffR M N=L++diffR (M.drop k) (N.drop j)∧L.length≤50002*k∧RnBox wr w3.heap.size g4 L v∧Own wr w2.heap.size 121 2 rnC (.slice Aa M.length ca) M∧Own wr W1.heap.size 121 2 rnC (.slice Ab N.length cb) N∧Below w.heap.size w wr∧w3.heap.size≤wr.heap.size) (fun _ i _=>M.length-(intOf i).toNat)
 case atStart =>
  refine ⟨0,0,[],.slice none 0 0,Nat.zero_le _,rfl,Nat.zero_le _,?_,rfl,Nat.zero_le _,⟨HX3.out,Own.nil _ _ _ _ _⟩,HOa.out,HOb3.out,HB3.out,Nat.le_refl _⟩
  obtain ⟨A',c',he,h1,h2,-⟩:=HOb3.out.sl
  injection he with q1 q2 q3
  subst q1 q3
  unfold maxLen at h2
  exact ⟨Ab,cb,rfl,by omega,by omega,fun g hg _=>by rw [hg,Nat.zero_mul]⟩
 case round =>
  obtain ⟨k,j,L,v,hk,rfl,hj,⟨A1,c1,rfl,hc1,hc2,hA1⟩,hdf,hLl,hbx,hom,hon,hb,hz⟩:=hrel
  obtain ⟨wo,rfl⟩:∃ wo:World,wo=wr:=⟨_,rfl⟩
  have HDf:=Lib.hid hdf;have HBx:=Lib.hid hbx;have HOm:=Lib.hid hom;have HOn:=Lib.hid hon;have Hb:=Lib.hid hb;have HA1:=Lib.hid hA1
  clear hdf hbx hom hon hb hA1
  by_cases hlt:k<M.length
  ·
   obtain ⟨ga,hAa,-,hgal,-,hce⟩:=Own.rn_cell HOm.out (by omega)
   subst hAa
   obtain ⟨c0,d0⟩:=hce k hlt
   have HDs:=Lib.hid (fun j' (h:dropR M[k].lo (N.drop j)=N.drop j')=>diff_step hlt h)
   generalize M[k]=r at *
   obtain ⟨rlo,rhi⟩:=r
   simp only at c0 d0
   have kk1:(k:Int)<M.length:=by omega
   have kk2:0≤(k:Int):=by omega
   clear hce
   go_upto_block 2 with fail
   obtain ⟨W5,hW⟩:∃ W:World,W=wo.alloc (.cells #[.int .i64 rlo,.int .i64 rhi] 121):=⟨_,rfl⟩
   obtain ⟨g7,hg7⟩:∃ g7,wo.heap.size=g7:=⟨_,rfl⟩
   have X7:Blk W5 g7 121 #[.int .i64 rlo,.int .i64 rhi]:=by rw [hW];exact Blk.made hg7.symm _ _
   have hA:Below wo.heap.size wo W5:=by rw [hW];exact bA (bR wo) _
   have HBx5:=Lib.hid (HBx.out.keep hA);have HOm5:=Lib.hid (HOm.out.keep hA);have HOn5:=Lib.hid (HOn.out.keep hA);have Hb5:=Lib.hid (bT Hb.out hA)
   have hv7:=Lib.hid (show v.ownBlock≠some g7 from fun e=>by have:=(HBx.out.own.lt g7 e).2;omega)
   have HX7:=Lib.hid X7
   have hz5:wo.heap.size≤W5.heap.size:=hA.size
   rw [← hW]
   try rw [hg7]
   clear hW hA c0 d0 hgal HBx HOm HOn Hb X7
   go_wp2_with fail
   go_loopw [1] (fun s wr=>∃ j':Nat,j'≤N.length∧TailV Ab N s j'∧dropR rlo (N.drop j)=dropR rlo (N.drop j')∧Below W5.heap.size W5 wr) (fun s _=>sliceLen s)
   case atStart => exact ⟨j,hj,⟨A1,c1,rfl,hc1,hc2,HA1.out⟩,rfl,bR W5⟩
   case round =>
    clear HA1 hj
    obtain ⟨j',hj',⟨A2,c2,rfl,hc3,hc4,hA2⟩,hdr,hb5⟩:=hrel
    obtain ⟨wm,rfl⟩:∃ wm:World,wm=wr:=⟨_,rfl⟩
    have HDr:=Lib.hid hdr;have HA2:=Lib.hid hA2;have HBm:=Lib.hid hb5
    clear hdr hA2 hb5
    rcases Nat.lt_or_ge j' N.length with hjt | hjt
    obtain ⟨gb,hAb,-,hgbl,-,hce⟩:=Own.rn_cell (HOn5.out.keep HBm.out) (by omega)
    have hA3:=HA2.out gb hAb hjt
    subst hA3
    obtain ⟨c0,d0⟩:=hce j' hjt
    have HSt:=Lib.hid (fun h=>drop_step (lo:=rlo) hjt h)
    have HSp:=Lib.hid (fun h=>drop_stop (lo:=rlo) hjt h)
    have hX:=HX7.out.keep HBm.out
    have hx7:=hX.lt
    have kk3:0<N.length-j':=by omega
    generalize N[j']=n at *
    obtain ⟨nlo,nhi⟩:=n
    simp only at c0 d0
    clear hce
    obtain ⟨hXl,hXa,hXb,-,-⟩:=hX.facts2
    by_cases hle:nhi≤rlo
    ·
     have HE:=Lib.hid (HDr.out.trans (HSt.out hle))
     have HTl:=Lib.hid (TailV.next (A:=Ab) hAb hjt hc3 hc4)
     clear HSt HSp HDr HDs
     go_upto_region 6 with fail
     refine rg_start (Since wm) (.run 12 0 0 (.done)) (by kernel_rfl) (bD (bR _)) (by kernel_rfl) (by kernel_rfl) (Nat.le_of_ble_eq_true (by kernel_rfl)) ?_
     intro opsR QR Hops HQrg hS
     iterate 4
      apply rg_p;exact Hops;exact rfl;exact hS;exact rfl
      · intro _ hqc;go_simp;try rfl
      try simp only [pu]
     iterate 7
      apply rg_g;exact Hops;exact rfl;exact hS;iterate 4 exact rfl
      · intro _ hqc;go_simp;try rfl
      try simp only [pu]
     apply rg_p;exact Hops;exact rfl;exact hS;exact rfl
     · intro _ hqc;go_simp;try rfl
     try simp only [pu]
     refine rg_done ?_
     refine HQrg.down _ _ ?_
     have hB:Below wm.heap.size wm wm.drew:=hS
     clear hS HQrg Hops
     go_wp2_with fail
     go_roundw
     case rel => exact ⟨j'+1,by omega,HTl.out,HE.out,bT HBm.out hB⟩
     case measure => simp [sliceLen];omega
    have HE:=Lib.hid (HDr.out.trans (HSp.out hle))
    clear HSt HSp HDr hAb
    go_upto_region 6 with fail
    refine rg_start (Since wm) (.run 12 0 0 (.done)) (by kernel_rfl) (bD (bR _)) (by kernel_rfl) (by kernel_rfl) (Nat.le_of_ble_eq_true (by kernel_rfl)) ?_
    intro opsR QR Hops HQrg hS
    iterate 4
     apply rg_p;exact Hops;exact rfl;exact hS;exact rfl
     · intro _ hqc;go_simp;try rfl
     try simp only [pu]
    iterate 7
     apply rg_g;exact Hops;exact rfl;exact hS;iterate 4 exact rfl
     · intro _ hqc;go_simp;try rfl
     try simp only [pu]
    apply rg_p;exact Hops;exact rfl;exact hS;exact rfl
    · intro _ hqc;go_simp;try rfl
    try simp only [pu]
    refine rg_done ?_
    refine HQrg.down _ _ ?_
    have hB:Below wm.heap.size wm wm.drew:=hS
    clear hS HQrg Hops
    go_wp2_with fail
    obtain ⟨A2,hAg⟩:∃ A2:Option Addr,(some ⟨gb,j'*2,none⟩:Option Addr)=A2:=⟨_,rfl⟩
    rw [hAg] at HA2 ⊢
    clear hAg c0 d0 hX hXl hXa hXb
    have kk4:j'≤N.length:=hj'
    rotate_left
    have hX:=HX7.out.keep HBm.out
    have hx7:=hX.lt
    have HE:=Lib.hid (show dropR rlo (N.drop j)=N.drop j' from HDr.out.trans (drop_all hjt))
    have kk3:¬ 0<N.length-j':=by omega
    have kk9:¬ j'<N.length:=by omega
    clear HDr
    try clear hXl
    try clear hXa
    try clear hXb
    obtain ⟨hXl,hXa,hXb,-,-⟩:=hX.facts2
    go_upto_region 6 with fail
    refine rg_start (Since wm) (.run 12 0 0 (.done)) (by kernel_rfl) (bD (bR _)) (by kernel_rfl) (by kernel_rfl) (Nat.le_of_ble_eq_true (by kernel_rfl)) ?_
    intro opsR QR Hops HQrg hS
    iterate 4
     apply rg_p;exact Hops;exact rfl;exact hS;exact rfl
     · intro _ hqc;go_simp;try rfl
     try simp only [pu]
    iterate 7
     refine rg_yn Hops rfl hS rfl rfl rfl rfl rfl ?_
     try simp only [pu]
    apply rg_p;exact Hops;exact rfl;exact hS;exact rfl
    · intro _ hqc;go_simp;try rfl
    try simp only [pu]
    refine rg_done ?_
    refine HQrg.down _ _ ?_
    have hB:Below wm.heap.size wm wm.drew:=hS
    clear hS HQrg Hops
    go_wp2_with fail
    clear hX hXl hXa hXb
    have kk4:j'≤N.length:=hj'
    all_goals
     have HBx6:=Lib.hid ((HBx5.out.keep HBm.out).keep hB)
     have HOm6:=Lib.hid ((HOm5.out.keep HBm.out).keep hB)
     have HOn6:=Lib.hid ((HOn5.out.keep HBm.out).keep hB)
     have Hb6:=Lib.hid (bT (bT Hb5.out HBm.out) hB)
     have HX76:=Lib.hid ((HX7.out.keep HBm.out).keep hB)
     have hz6:w3.heap.size≤wm.drew.heap.size:=by
      have h1:=hB.size
      have h2:=HBm.out.size
      omega
     have h76:=HX76.out.lt
     have HCu:=Lib.hid (HDs.out j' HE.out)
     have hne7:g7≠g4:=by omega
     clear HE HDs HBx5 HOm5 HOn5 Hb5 HX7 hB HBm kk3 hjt hx7
     generalize wm.drew=wn at *
     go_loopw [8,9] (fun z i wr=>∃ (n:Nat) (lo:Int) (acc:List Rn) (v2:Value),j'+n≤N.length∧i=.int .i64 n∧z=.int .i64 lo∧cutR rhi rlo (N.drop j')=acc++cutR rhi lo (N.drop (j'+n))∧acc.length≤n∧RnBox wr w3.heap.size g4 (L++acc) v2∧v2.ownBlock≠some g7∧Blk wr g7 121 #[.int .i64 rlo,.int .i64 rhi]∧Own wr w2.heap.size 121 2 rnC (.slice (some ⟨ga,0,none⟩) M.length ca) M∧Own wr W1.heap.size 121 2 rnC (.slice Ab N.length cb) N∧Below w.heap.size w wr∧wn.heap.size≤wr.heap.size) (fun _ i _=>N.length+1-(intOf i).toNat)
     case atStart => exact ⟨0,rlo,[],v,kk4,rfl,rfl,rfl,Nat.zero_le _,by rw [List.append_nil];exact HBx6.out,hv7.out,HX76.out,HOm6.out,HOn6.out,Hb6.out,Nat.le_refl _⟩
     case round =>
      clear HBx6 HOm6 HOn6 Hb6 HX76 hv7
      obtain ⟨n,lo,acc,v2,hn,rfl,rfl,hcu,hal,hbx,h27,X7,hom,hon,hb,hz⟩:=hrel
      obtain ⟨wp,rfl⟩:∃ wp:World,wp=wr:=⟨_,rfl⟩
      have HCt:=Lib.hid hcu;have HBx:=Lib.hid hbx;have H27:=Lib.hid h27;have HX7:=Lib.hid X7;have HOm:=Lib.hid hom;have HOn:=Lib.hid hon;have Hb:=Lib.hid hb
      have hzp:w3.heap.size≤wp.heap.size:=by omega
      have hll:(L++acc).length≤2600000000:=by
       rw [List.length_append]
       have:50002*k≤50002*50000:=Nat.mul_le_mul_left _ (by omega)
       omega
      clear hcu hbx h27 hom hon hb
      rcases (show ((∃ hnt:j'+n<N.length,N[j'+n].lo<rhi)∨∃ hnt:j'+n<N.length,¬ N[j'+n].lo<rhi)∨N.length≤j'+n from by
       by_cases h1:j'+n<N.length
       ·
        by_cases h2:N[j'+n].lo<rhi
        · exact .inl (.inl ⟨h1,h2⟩)
        · exact .inl (.inr ⟨h1,h2⟩)
       · exact .inr (by omega)) with (⟨hnt,hle⟩ | ⟨hnt,hle⟩) | hnt
      · first
      | exfalso;omega
      | skip
        obtain ⟨gb,hAb,-,hgbl,-,hce⟩:=Own.rn_cell HOn.out (by omega)
        have hA3:=HA2.out gb hAb (by omega)
        subst hA3
        have HAb:=Lib.hid hAb
        clear hAb
        obtain ⟨c0,d0⟩:=hce (j'+n) hnt
        have HSt:=Lib.hid (fun h=>cut_step (lo:=lo) (hi:=rhi) hnt h)
        have HSp:=Lib.hid (fun h=>cut_stop (lo:=lo) (hi:=rhi) hnt h)
        have ke:(j'+n)*2=j'*2+n*2:=by omega
        rw [ke] at c0 d0
        have kk5:(n:Int)<(N.length-j':Nat):=by omega
        have kk6:n<N.length-j':=by omega
        have kk7:0≤(n:Int):=by omega
        obtain ⟨m,hm⟩:∃ m,N[j'+n]=m:=⟨_,rfl⟩
        rw [hm] at c0 d0 HSt HSp hle
        have HMm:=Lib.hid hm
        clear hm
        obtain ⟨nlo,nhi⟩:=m
        simp only at c0 d0 hle
        clear hce ke
        obtain ⟨X7l,X7a,X7b,-,-⟩:=X7.facts2
        have HE:=Lib.hid (HSt.out hle)
        clear HSt HSp
        go_upto_region 10 with fail
        refine rg_start (Since wp) (.run 14 0 0 (.done)) (by kernel_rfl) (bD (bR _)) (by kernel_rfl) (by kernel_rfl) (Nat.le_of_ble_eq_true (by kernel_rfl)) ?_
        intro opsR QR Hops HQrg hS
        iterate 5
         apply rg_p;exact Hops;exact rfl;exact hS;exact rfl
         · intro _ hqc;go_simp;try rfl
         try simp only [pu]
        iterate 8
         apply rg_g;exact Hops;exact rfl;exact hS;iterate 4 exact rfl
         · intro _ hqc;go_simp;try rfl
         try simp only [pu]
        apply rg_p;exact Hops;exact rfl;exact hS;exact rfl
        · intro _ hqc;go_simp;try rfl
        try simp only [pu]
        refine rg_done ?_
        refine HQrg.down _ _ ?_
        have hB:Below wp.heap.size wp wp.drew:=hS
        clear hS HQrg Hops
        go_wp2_with fail
        have hx6:=HBx.out.keep hB
        have hom6:=HOm.out.keep hB
        have hon6:=HOn.out.keep hB
        have hX6:=HX7.out.keep hB
        have hb6:=bT Hb.out hB
        have hz6':=hB.size
        refine (HAd.out lo nlo w3.heap.size g4 (L++acc) v2 _ hx6 (by omega) (by omega)).mono ?_
        rintro e w7 ⟨rfl,⟨v7,hx7,hat7⟩,hk7,hb7⟩
        obtain ⟨q1,q2,q3,q4⟩:=min_keep hx6 hk7 hat7 H27.out hX6 hne7 hom6 HMk.out hon6 HNk.out
        have Hx7:=Lib.hid hx7;have HX77:=Lib.hid q1;have HV7:=Lib.hid q2;have HOm7:=Lib.hid q3;have HOn7:=Lib.hid q4
        have Hb7:=Lib.hid (hb7 w hb6 (by omega) (by omega))
        have hz7:=hk7.size
        clear hx6 hom6 hon6 hX6 hb6 hx7 hat7 hk7 hb7 q2 q3 q4 c0 d0 X7 X7l X7a X7b hB HBx HOm HOn HX7 Hb
        obtain ⟨gb',hAb',-,hgbl',-,hce'⟩:=Own.rn_cell HOn7.out (by omega)
        rw [HAb.out] at hAb'
        injection hAb' with hAb'
        injection hAb' with hAb' _ _
        subst hAb'
        obtain ⟨-,d1⟩:=hce' (j'+n) hnt
        rw [HMm.out,show (j'+n)*2=j'*2+n*2 by omega] at d1
        simp only at d1
        have HC7:=Lib.hid (show cutR rhi rlo (N.drop j')=(acc++addR lo nlo)++cutR rhi nhi (N.drop (j'+(n+1))) by rw [HCt.out,HE.out,List.append_assoc];rfl)
        have hl7:=addR_len lo nlo
        clear hce' HE HCt HAb
        go_wp2_with fail
        go_roundw
        case rel => exact ⟨n+1,nhi,acc++addR lo nlo,v7,by omega,by go_num,rfl,HC7.out,by rw [List.length_append];omega,by rw [← List.append_assoc];exact Hx7.out,HV7.out,HX77.out,HOm7.out,HOn7.out,Hb7.out,by omega⟩
        case measure => simp [intOf];omega
      case' inl.inr =>
       first
      | exfalso;omega
      | skip
        obtain ⟨gb,hAb,-,hgbl,-,hce⟩:=Own.rn_cell HOn.out (by omega)
        have hA3:=HA2.out gb hAb (by omega)
        subst hA3
        obtain ⟨c0,d0⟩:=hce (j'+n) hnt
        have HSt:=Lib.hid (fun h=>cut_step (lo:=lo) (hi:=rhi) hnt h)
        have HSp:=Lib.hid (fun h=>cut_stop (lo:=lo) (hi:=rhi) hnt h)
        have ke:(j'+n)*2=j'*2+n*2:=by omega
        rw [ke] at c0 d0
        have kk5:(n:Int)<(N.length-j':Nat):=by omega
        have kk6:n<N.length-j':=by omega
        have kk7:0≤(n:Int):=by omega
        obtain ⟨m,hm⟩:∃ m,N[j'+n]=m:=⟨_,rfl⟩
        rw [hm] at c0 d0 HSt HSp hle
        have HMm:=Lib.hid hm
        clear hm
        obtain ⟨nlo,nhi⟩:=m
        simp only at c0 d0 hle
        clear hce ke
        try clear X7l
        try clear X7a
        try clear X7b
        obtain ⟨X7l,X7a,X7b,-,-⟩:=X7.facts2
        have HE:=Lib.hid (HCt.out.trans (by rw [HSp.out hle]))
        clear HSt HSp HMm hAb
        go_upto_region 10 with fail
        refine rg_start (Since wp) (.run 14 0 0 (.done)) (by kernel_rfl) (bD (bR _)) (by kernel_rfl) (by kernel_rfl) (Nat.le_of_ble_eq_true (by kernel_rfl)) ?_
        intro opsR QR Hops HQrg hS
        iterate 5
         apply rg_p;exact Hops;exact rfl;exact hS;exact rfl
         · intro _ hqc;go_simp;try rfl
         try simp only [pu]
        iterate 8
         apply rg_g;exact Hops;exact rfl;exact hS;iterate 4 exact rfl
         · intro _ hqc;go_simp;try rfl
         try simp only [pu]
        apply rg_p;exact Hops;exact rfl;exact hS;exact rfl
        · intro _ hqc;go_simp;try rfl
        try simp only [pu]
        refine rg_done ?_
        refine HQrg.down _ _ ?_
        have hB:Below wp.heap.size wp wp.drew:=hS
        clear hS HQrg Hops
        go_wp2_with fail
      rotate_left
      have HE:=Lib.hid (HCt.out.trans (by rw [cut_all (lo:=lo) (hi:=rhi) hnt]))
      have kk6:¬ n<N.length-j':=by omega
      have kk8:¬ (n:Int)<(N.length-j':Nat):=by omega
      try clear X7l
      try clear X7a
      try clear X7b
      obtain ⟨X7l,X7a,X7b,-,-⟩:=X7.facts2
      go_upto_region 10 with fail
      refine rg_start (Since wp) (.run 14 0 0 (.done)) (by kernel_rfl) (bD (bR _)) (by kernel_rfl) (by kernel_rfl) (Nat.le_of_ble_eq_true (by kernel_rfl)) ?_
      intro opsR QR Hops HQrg hS
      iterate 5
       apply rg_p;exact Hops;exact rfl;exact hS;exact rfl
       · intro _ hqc;go_simp;try rfl
       try simp only [pu]
      iterate 8
       refine rg_yn Hops rfl hS rfl rfl rfl rfl rfl ?_
       try simp only [pu]
      apply rg_p;exact Hops;exact rfl;exact hS;exact rfl
      · intro _ hqc;go_simp;try rfl
      try simp only [pu]
      refine rg_done ?_
      refine HQrg.down _ _ ?_
      have hB:Below wp.heap.size wp wp.drew:=hS
      clear hS HQrg Hops
      go_wp2_with fail
      all_goals
       have hx6:=HBx.out.keep hB
       have hom6:=HOm.out.keep hB
       have hon6:=HOn.out.keep hB
       have hX6:=HX7.out.keep hB
       have hb6:=bT Hb.out hB
       have hz6':=hB.size
       refine (HAd.out lo rhi w3.heap.size g4 (L++acc) v2 _ hx6 (by omega) (by omega)).mono ?_
       rintro e w7 ⟨rfl,⟨v7,hx7,hat7⟩,hk7,hb7⟩
       obtain ⟨-,-,q3,q4⟩:=min_keep hx6 hk7 hat7 H27.out hX6 hne7 hom6 HMk.out hon6 HNk.out
       have Hx7:=Lib.hid hx7;have HOm7:=Lib.hid q3;have HOn7:=Lib.hid q4
       have Hb7:=Lib.hid (hb7 w hb6 (by omega) (by omega))
       have hz7:=hk7.size
       have HDf2:=Lib.hid (show diffR M N=(L++acc++addR lo rhi)++diffR (M.drop (k+1)) (N.drop j') by
        have e1:=HCu.out
        try simp only at e1
        rw [HDf.out,e1,HE.out]
        simp only [List.append_assoc])
       have hl7:=addR_len lo rhi
       clear hx6 hom6 hon6 hX6 hb6 hx7 hat7 hk7 hb7 q3 q4 X7 hB HBx HOm HOn HX7 Hb HDf HCu HE
       go_wp2_with fail
       go_roundw
       case rel => exact ⟨k+1,j',L++acc++addR lo rhi,v7,by omega,by go_num,kk4,⟨_,c2,rfl,hc3,hc4,HA2.out⟩,HDf2.out,by rw [List.length_append,List.length_append];omega,Hx7.out,HOm7.out,HOn7.out,Hb7.out,by omega⟩
       case measure => simp [intOf];omega
  ·
   obtain rfl:k=M.length:=by omega
   have hd:=HDf.out
   rw [List.drop_length] at hd
   have he:diffR M N=L:=by rw [hd];simp [diffR]
   clear hd
   obtain ⟨A,c,rfl,-⟩:=Own.sl HBx.out.own
   have X4:=HBx.out.box
   have HE:=Lib.hid he
   clear he
   obtain ⟨X4l,X4a,X4fa⟩:=X4.facts1
   go_wp2_with fail
   refine res_cell1 (g:=g4) (v:=.slice A L.length c) rfl isAgg_rns rfl rfl (Blk.put1 X4) ?_
   rw [HE.out]
   refine ⟨A,c,rfl,?_,bS (p:=⟨g4,0,none⟩) Hb.out (show w.heap.size≤g4 by omega) _⟩
   have ho:=HBx.out.own.far (p:=⟨g4,0,none⟩) (Own.ne_blk HBx.out.own HBx.out.box (by decide)) (.slice A L.length c)
   exact ho.mono_base (by omega)
end Go.Proofs.YtialfdomhoojiaaGreat
namespace Go.Proofs.YtialfdomhoojiaaGreat
open Go.RowKit

def SinceK (B g:Nat) (w0:World):World→Prop:=fun w=>Below B w0 w∧w.heap[g]? = w0.heap[g]?
section
variable {B g:Nat} {W w w':World}
theorem kcell (h:SinceK B g W w):(∀ b o,b<B→w.cell? ⟨b,o,none⟩=W.cell? ⟨b,o,none⟩)∧(∀ o,w.cell? ⟨g,o,none⟩=W.cell? ⟨g,o,none⟩) :=
 ⟨(bcellB h.1).1,fun o=>by simp only [World.cell?,h.2]⟩
theorem kR (W:World):SinceK B g W W.drew:=⟨Below.drew (Below.refl _ _),rfl⟩
theorem kA (h:SinceK B g W w) (hB:B≤W.heap.size) (hg:g<W.heap.size) (o:Obj):SinceK B g W (w.alloc o) :=
 ⟨h.1.alloc (Nat.le_trans hB h.1.size) o,by rw [Below.heap_alloc w o g (Nat.lt_of_lt_of_le hg h.1.size)];exact h.2⟩
theorem kC (h:SinceK B g W w) (k:Below w.heap.size w w') (hB:B≤W.heap.size) (hg:g<W.heap.size):SinceK B g W w' :=
 ⟨h.1.trans (k.mono (Nat.le_trans hB h.1.size)),(k.block g (Nat.lt_of_lt_of_le hg h.1.size)).trans h.2⟩
theorem kG (h:SinceK B g W w) {row:Option Nat} (k:w.grownBy w' row) (hr:∀ q,row=some q→B≤q) (hn:some g≠row) (hB:B≤W.heap.size) (hg:g<W.heap.size):SinceK B g W w' :=
 ⟨h.1.grown k (Nat.le_trans hB h.1.size) hr,(k.block g (Nat.lt_of_lt_of_le hg h.1.size) hn).trans h.2⟩
theorem kS (h:SinceK B g W w) {p:Addr} (hB:B≤p.block) (hn:g≠p.block) (u:Value):SinceK B g W (w.setCell p u) :=
 ⟨h.1.setCell hB u,(Below.heap_setCell w p u g hn).trans h.2⟩
end
section
variable {P:Program} {ops:Array Oper} {Q:Exit→Act→World→Prop}
theorem rg_pK {l:List Oper} {i m:Nat} {oi:Oper} {r:RPlan} {a:Act} {w W:World} {B g:Nat} {v:Value} (H:PLift (ops=l.toArray)) (hi:l[i]? = some oi) (hS:SinceK B g W w) (hg:oi.guard=none)
  (hy:∀ wq:World,(∀ b o,b<B→wq.cell? ⟨b,o,none⟩=W.cell? ⟨b,o,none⟩)→(∀ o,wq.cell? ⟨g,o,none⟩=W.cell? ⟨g,o,none⟩)→(execOp a.eval oi).run P wq=.ok (.value v) wq) (h:Planned P ops (NoPanic Q) (SinceK B g W) r (a.put oi.dst v) w):Planned P ops (NoPanic Q) (SinceK B g W) (.take i m r) a w :=
 rg_yp H hi hS hg (fun wq hq=>hy wq (kcell hq).1 (kcell hq).2) h
end
end Go.Proofs.YtialfdomhoojiaaGreat
namespace Go.Proofs.YtialfdomhoojiaaGreat
open Go.RowKit

def RetNds (w:World) (l:List Nd) (e:Ending) (w':World):Prop :=
 ∃ A c,e=.returned (.slice A l.length c)∧Below w.heap.size w w'∧Own w' w.heap.size 45 3 ndC (.slice A l.length c) l
set_option maxHeartbeats 400000 in
theorem Clone_nd_spec (v:Value) (l:List Nd) (w:World) (h:Nds w v l) (hl:l.length≤1048576) :
  Calls Tryz.prog 113 #[v] w (RetNds w l):=by
 have H:=h
 obtain ⟨A,c,rfl,hn,hc,hR⟩:=h
 have hE:=Lib.run_eql_slice_nil (P:=Tryz.prog) (t:=22) (e:=45)
 rcases A with _ | ad
 ·
  have hl0:l=[]:=by
   rcases l with _ | ⟨a,l⟩
   · rfl
   ·
    obtain ⟨b,o,e,_⟩:=hR (by simp [ndC])
    cases e
  subst hl0
  clear hR H
  simp only [List.length_nil] at hn ⊢
  have hE1:∀ W:World,(binOp .eql 22 (.slice none 0 c) (.slice none 0 0)).run Tryz.prog W=.ok (.bool true) W:=fun W=>Lib.run_eql_slice_nil W _ 45 none _ c 0 0 Tryz.underlying22
  clear hE
  go_enter Tryz.func113,Tryz.ntmps113
  go_wp2
  go_ret
  exact ⟨_,_,rfl,bR w,Own.nil _ _ _ _ _⟩
 ·
  have hE1:∀ W:World,(binOp .eql 22 (.slice (some ad) l.length c) (.slice none 0 0)).run Tryz.prog W=.ok (.bool false) W:=fun W=>Lib.run_eql_slice_nil W _ 45 (some ad) _ c 0 0 Tryz.underlying22
  clear hE hR
  have HH:=Lib.hid H;clear H
  go_enter Tryz.func113,Tryz.ntmps113
  go_wp2_with
   (at_builtin
    refine wpList_appl _ rfl (.tmp 5) (.tmp 6) _ rfl (base:=w.heap.size) elem_nd ndC_len ndC_one rfl (Own.lit _ _ _ _ ndC [] _ 0 _ rfl rfl (Nat.le_refl _) (le_maxLen (by omega)) rfl rfl) rfl (HH.out.mono (bA (bR w) _)) (by simp only [List.length_nil];omega) (by simp only [List.length_nil];omega) (by simp) ?_
    intro v1 w1 hown hg hat)
  go_ret
  obtain ⟨A1,c1,rfl,-⟩:=Own.sl hown
  simp only [List.nil_append] at hown ⊢
  exact ⟨A1,c1,rfl,bG (bA (bR w) _) hg (fun k hk=>by have:w.heap.size=k:=Option.some.inj hk;omega),hown⟩

def bareA (a:Ar):Ar:=⟨a.id,a.fr,a.dst,a.via,0,0⟩
def bareP (p:Pl):Pl:=⟨p.nodes,p.arcs.map bareA,[]⟩
structure PlO (w:World) (B:Nat) (vn va vf:Value) (p:Pl) (bl:List (Ar×SV)):Prop where
 nds:Own w B 45 3 ndC vn p.nodes
 ars:Own w B 50 6 arS va bl
 vias:∀ x∈bl,Own w B 39 2 ptC (svV x.2) x.1.via
 eq:bl.map (·.1)=p.arcs
 fcs:Own w B 3 1 inC vf p.faces
theorem PlO.keep {w w':World} {B:Nat} {vn va vf:Value} {p:Pl} {bl:List (Ar×SV)} (h:PlO w B vn va vf p bl) (hb:Below w.heap.size w w'):PlO w' B vn va vf p bl :=
 ⟨h.nds.keep hb,h.ars.keep hb,fun x hx=>(h.vias x hx).keep hb,h.eq,h.fcs.keep hb⟩
theorem PlO.plv {w:World} {B:Nat} {vn va vf:Value} {p:Pl} {bl:List (Ar×SV)} (h:PlO w B vn va vf p bl):PlV w (.agg #[vn,va,vf]) p:=by
 refine ⟨vn,va,vf,bl.map svA,rfl,?_,h.nds.sl,⟨?_,fun k hk=>?_⟩,h.fcs.sl⟩
 · rw [List.map_map,← h.eq];rfl
 ·
  have:=h.ars.sl
  rw [List.length_map,arS_flat]
  exact this
 ·
  have hk':k<bl.length:=by simpa using hk
  rw [List.getElem_map]
  exact (h.vias _ (List.getElem_mem hk')).sl
def RetPlO (w:World) (p:Pl) (e:Ending) (w':World):Prop :=
 ∃ An cn Aa ca bl,e=.returned (.agg #[.slice An p.nodes.length cn,.slice Aa p.arcs.length ca,.slice none 0 0])∧Below w.heap.size w w'∧PlO w' w.heap.size (.slice An p.nodes.length cn) (.slice Aa p.arcs.length ca) (.slice none 0 0) p bl
theorem PlO.more {w w1:World} {B:Nat} {vn va va' vf:Value} {p:Pl} {bl:List (Ar×SV)} {x:Ar×SV} (h:PlO w B vn va vf p bl) (ho:Own w1 B 50 6 arS va' (bl++[x])) (hg:w.grownBy w1 va.ownBlock) (hx:Own w B 39 2 ptC (svV x.2) x.1.via) :
  PlO w1 B vn va' vf ⟨p.nodes,p.arcs++[x.1],p.faces⟩ (bl++[x]) :=
 ⟨Own.grown h.nds hg (Own.apart h.nds h.ars (by decide)),ho,fun y hy=>by
  rcases List.mem_append.1 hy with hy | hy
  · exact Own.grown (h.vias y hy) hg (Own.apart (h.vias y hy) h.ars (by decide))
  ·
   rw [List.mem_singleton] at hy
   subst hy
   exact Own.grown hx hg (Own.apart hx h.ars (by decide)),by rw [List.map_append,h.eq];rfl,Own.grown h.fcs hg (Own.apart h.fcs h.ars (by decide))⟩
theorem PlO.far {w:World} {B:Nat} {vn va vf:Value} {p:Pl} {bl:List (Ar×SV)} (h:PlO w B vn va vf p bl) {g:Nat} {t:TypeId} {cs:Array Value} (hb:Blk w g t cs) (h1:45≠t) (h2:50≠t) (h3:39≠t) (h4:3≠t) (j:Nat) (u:Value):PlO (w.setCell ⟨g,j,none⟩ u) B vn va vf p bl :=
 ⟨Own.far h.nds (Own.ne_blk h.nds hb h1) u,Own.far h.ars (Own.ne_blk h.ars hb h2) u,fun x hx=>Own.far (h.vias x hx) (Own.ne_blk (h.vias x hx) hb h3) u,h.eq,Own.far h.fcs (Own.ne_blk h.fcs hb h4) u⟩

theorem Row.at6 {w:World} {A:Option Addr} {l:List (Ar×SV)} (h:Row w A (l.flatMap arS)) {k:Nat} (hk:k<l.length) :
  ∃ b o,A=some ⟨b,o,none⟩∧b<w.heap.size∧w.cell? ⟨b,o+k*6,none⟩=some (.int .i64 l[k].1.id)∧w.cell? ⟨b,o+k*6+1,none⟩=some (.int .i64 l[k].1.fr)∧w.cell? ⟨b,o+k*6+2,none⟩=some (.int .i64 l[k].1.dst) ∧
   w.cell? ⟨b,o+k*6+3,none⟩=some (.slice l[k].2.a l[k].2.n l[k].2.c)∧w.cell? ⟨b,o+k*6+4,none⟩=some (.int .i64 l[k].1.left)∧w.cell? ⟨b,o+k*6+5,none⟩=some (.int .i64 l[k].1.right):=by
 obtain ⟨b,o,hA,hb,hc⟩:=h.at_ (n:=6) (fun _=>rfl) hk (by omega)
 exact ⟨b,o,hA,hb,hc 0 _ rfl,hc 1 _ rfl,hc 2 _ rfl,hc 3 _ rfl,hc 4 _ rfl,hc 5 _ rfl⟩
set_option maxRecDepth 100000 in
set_option maxHeartbeats 8000000 in
theorem Bare_spec (v:Value) (p:Pl) (w:World) (h:PlV w v p) (hn:p.nodes.length≤100000) (ha:p.arcs.length≤100000) (hvl:∀ a∈p.arcs,a.via.length≤100000):Calls Tryz.prog 56 #[v] w (RetPlO w (bareP p)):=by
 obtain ⟨_,_,_,al,rfl,hpa,hN,⟨⟨Aa,ca,rfl,ha1,ha2,hRa⟩,hV⟩,⟨Af,cf,rfl,-⟩⟩:=h
 obtain ⟨bl,rfl⟩:=hV.sv
 have hres:p.arcs=bl.map (·.1):=by rw [hpa,List.map_map];rfl
 have hbl:bl.length≤100000:=by rw [hres,List.length_map] at ha;exact ha
 rw [List.length_map] at ha1
 rw [arS_flat] at hRa
 have HVk:=Lib.hid (show ∀ k (hk:k<bl.length),Pts w (.slice bl[k].2.a bl[k].2.n bl[k].2.c) bl[k].1.via from fun k hk=>by
  have:=hV k (by simpa using hk)
  simpa [svA] using this)
 have HVl:=Lib.hid (show ∀ k (hk:k<bl.length),bl[k].1.via.length≤100000 from fun k hk=>hvl _ (by rw [hres];exact List.mem_map_of_mem (List.getElem_mem hk)))
 have HRa:=Lib.hid (show Row w Aa (bl.flatMap arS) from hRa)
 have HCn:=Lib.hid (fun W (hW:Below w.heap.size w W)=>Clone_nd_spec _ p.nodes W (hN.mono hW) (by omega))
 have HCp:=Lib.hid (fun u l W (hu:Pts W u l) (hl:l.length≤1048576)=>Clone_pt_spec u l W hu hl)
 obtain ⟨An,cn,rfl,hn1,hn2,-⟩:=hN
 have Hres:=Lib.hid hres
 rw [List.length_map] at *
 unfold maxLen at ha2 hn2
 clear hV hRa hpa hres hvl
 generalize p.faces.length=nf at *
 go_enter Tryz.func56,Tryz.ntmps56
 go_upto_region 1 with fail
 obtain ⟨g2,hg2⟩:∃ g2,w.heap.size+1=g2:=⟨_,rfl⟩
 obtain ⟨W1,hW⟩:∃ W:World,W=(w.alloc (.cells #[.slice An p.nodes.length cn,.slice Aa bl.length ca,.slice Af nf cf] 26)).alloc (.cells #[.slice none 0 0,.slice none 0 0,.slice none 0 0] 26):=⟨_,rfl⟩
 have X1:Blk W1 w.heap.size 26 #[.slice An p.nodes.length cn,.slice Aa bl.length ca,.slice Af nf cf]:=by rw [hW];exact (Blk.made rfl _ _).alloc _
 have X2:Blk W1 g2 26 #[.slice none 0 0,.slice none 0 0,.slice none 0 0]:=by rw [hW];exact Blk.made (by rw [← hg2];simp) _ _
 have HB1:=Lib.hid (show Below w.heap.size w W1 by rw [hW];exact bA (bA (bR w) _) _)
 rw [← hW]
 try rw [hg2]
 have HX1:=Lib.hid X1;have HX2:=Lib.hid X2
 have n12:¬ g2=w.heap.size:=by omega
 have hgw:w.heap.size≤g2:=by omega
 clear hW hg2
 obtain ⟨X1l,X1a,X1b,X1c,-,-,-⟩:=X1.facts3
 obtain ⟨X2l,X2a,X2b,X2c,X2fa,X2fb,X2fc⟩:=X2.facts3
 go_wp2_with fail
 refine (HCn.out _ HB1.out).mono ?_
 rintro e w2 ⟨An',cn',rfl,hb2,hon⟩
 have HB2:=Lib.hid (bT HB1.out hb2)
 have HX3:=Lib.hid (HX1.out.keep hb2);have HX4:=Lib.hid (HX2.out.keep hb2)
 have hon':=hon.mono_base (b':=w.heap.size) HB1.out.size
 have HPo:=Lib.hid (show PlO w2 w.heap.size (.slice An' p.nodes.length cn') (.slice none 0 0) (.slice none 0 0) ⟨p.nodes,[],[]⟩ [] from ⟨hon',Own.nil _ _ _ _ _,(fun x hx=>by cases hx),rfl,Own.nil _ _ _ _ _⟩)
 clear hb2 hon hon' HCn X1 X1l X1a X1b X1c X2 X2l X2a X2b X2c X2fa X2fb X2fc
 have X3:=HX3.out;have X4:=HX4.out
 obtain ⟨X3l,X3a,X3b,X3c,-,-,-⟩:=X3.facts3
 obtain ⟨X4l,X4a,X4b,X4c,X4fa,X4fb,X4fc⟩:=X4.facts3
 go_wp2_with fail
 go_loopw [12] (fun i wr=>∃ (k:Nat) (ol:List (Ar×SV)) (A:Option Addr) (c:Nat),k≤bl.length∧i=.int .i64 k∧ol.length=k∧PlO wr w.heap.size (.slice An' p.nodes.length cn') (.slice A k c) (.slice none 0 0) ⟨p.nodes,(bl.take k).map (fun x=>bareA x.1),[]⟩ ol∧Blk wr g2 26 #[.slice An' p.nodes.length cn',.slice A k c,.slice none 0 0]∧Below w.heap.size w wr) (fun i _=>bl.length-(intOf i).toNat)
 case atStart => exact ⟨0,[],none,0,Nat.zero_le _,rfl,rfl,HPo.out.far HX4.out (by decide) (by decide) (by decide) (by decide) 0 _,by simpa using HX4.out.set_ 0 (.slice An' p.nodes.length cn'),bS HB2.out hgw _⟩
 case round =>
  clear HPo HX4 HB2 X3 X3l X3a X3b X3c X4 X4l X4a X4b X4c X4fa X4fb X4fc
  obtain ⟨k,ol,A,c,hk,rfl,hol,hpo,X4,hb⟩:=hrel
  obtain ⟨wo,rfl⟩:∃ wo:World,wo=wr:=⟨_,rfl⟩
  have HP:=Lib.hid hpo;have HX4:=Lib.hid X4;have HB:=Lib.hid hb;have HOl:=Lib.hid hol
  have hl4:=X4.lt
  clear hpo hb
  by_cases hlt:k<bl.length
  ·
   obtain ⟨b,o,hAb,hlb,c0,c1,c2,c3,c4,c5⟩:=(Row.mono HRa.out HB.out).at6 hlt
   subst hAb
   have hv:=HVk.out k hlt
   have hvl:=HVl.out k hlt
   have htk:bl.take (k+1)=bl.take k++[bl[k]]:=List.take_succ_eq_append_getElem hlt
   generalize bl[k]=x at *
   obtain ⟨⟨id,fr,dst,via,lf,rt⟩,⟨va,vn,vc⟩⟩:=x
   simp only at c0 c1 c2 c3 c4 c5 hv hvl htk
   have hv0:=hv
   obtain ⟨Av,cv,hev,-,-,-⟩:=hv
   injection hev with y1 y2 y3
   subst y1 y2 y3
   have HVs:=Lib.hid (fun W (hW:Below w.heap.size w W)=>HCp.out (.slice va via.length vc) via W (hv0.mono hW) (by omega))
   clear hv0
   have HTk:=Lib.hid htk
   clear htk
   go_upto_region 5 with fail
   obtain ⟨W2,hW⟩:∃ W:World,W=wo.alloc (.cells #[.int .i64 id,.int .i64 fr,.int .i64 dst,.slice va via.length vc,.int .i64 lf,.int .i64 rt] 50):=⟨_,rfl⟩
   have hA:Below wo.heap.size wo W2:=by rw [hW];exact bA (bR wo) _
   obtain ⟨g4,hg4⟩:∃ g4,wo.heap.size=g4:=⟨_,rfl⟩
   have X6:Blk W2 g4 50 #[.int .i64 id,.int .i64 fr,.int .i64 dst,.slice va via.length vc,.int .i64 lf,.int .i64 rt]:=by rw [hW];exact Blk.made hg4.symm _ _
   have HB2:=Lib.hid (bT HB.out hA);have HP2:=Lib.hid (HP.out.keep hA);have HX5:=Lib.hid (HX4.out.keep hA)
   have n4:some g4≠(Value.slice A k c).ownBlock:=fun e=>by have:=(HP.out.ars.lt _ e.symm).2;omega
   have n42:¬ g4=g2:=by omega
   have hz2:=HB2.out.size
   have hz2o:=hA.size
   rw [← hW]
   try rw [hg4]
   clear hW hA c0 c1 c2 c3 c4 c5 hlb HP HB HX4
   have X5:=HX5.out
   clear X4
   have HSh:=Lib.hid (fun (y:Ar×SV)=>show (ol++[y]).length=k+1 from by rw [List.length_append,HOl.out];rfl)
   have holk:ol.length≤100000:=by omega
   have hgw2:w.heap.size≤g2:=hgw
   have HXt:=Lib.hid (fun (A7:Option Addr) (c7:Nat)=>show (bl.take (k+1)).map (fun x=>bareA x.1)=(bl.take k).map (fun x=>bareA x.1)++[(⟨id,fr,dst,via,0,0⟩:Ar)] from by rw [HTk.out,List.map_append];rfl)
   obtain ⟨X6l,X6a,X6b,X6c,X6d,X6e,X6f,-,-,-,-,-,-⟩:=X6.facts6
   have hl5:=X5.lt
   have n5:=Own.ne_blk HP2.out.ars HX5.out (by decide)
   refine rg_start (SinceK (w.heap.size) (g4) W2) (.take 0 1 (.run 8 2 1 (.two 1 1023 (.call 10 2047 (.take 11 4095 (.call 12 8191 (.call 13 16383 (.take 14 32767 (.call 15 65535 (.done))))))) 10 2045 (.take 11 4093 (.two 1 4095 (.call 12 8191 (.call 13 16383 (.take 14 32767 (.call 15 65535 (.done))))) 12 8189 (.call 1 8191 (.call 13 16383 (.take 14 32767 (.call 15 65535 (.done)))))))))) (by kernel_rfl) (kR _) (by kernel_rfl) (by kernel_rfl) (Nat.le_of_ble_eq_true (by kernel_rfl)) ?_
   intro opsR QR Hops HQrg hS
   replace X5:=X5.drew
   iterate 9
    apply rg_pK;exact Hops;exact rfl;exact hS;exact rfl
    · intro _ hqc hqd;go_simp;try rfl
    try simp only [pu]
   refine rg_two (i:=1) (j:=10) (get_of Hops rfl) (get_of Hops rfl) (fun K hK=>?_) (fun K hK=>?_)
   ·
    have HSrg:=Lib.hid hS;clear hS
    refine rg_run (wanted_plain rfl) ?_
    obtain ⟨z1,z2,z3,z4,-⟩:=Blk.facts3 X5
    go_simp
    refine hK.out _ _ HSrg.out (fun hS=>?_)
    clear hK K HSrg
    try simp only [pu]
    refine rg_call (i:=10) (get_of Hops rfl) (fun K hK=>?_)
    have HSrg:=Lib.hid hS;clear hS
    refine rg_run (wanted_plain rfl) ?_
    go_simp
    refine (HVs.out _ (bT HB2.out (bD (bR W2)))).mono ?_
    rintro e wr1 ⟨A9,c9,rfl,hbr1,ho9⟩
    have hS:SinceK (w.heap.size) (g4) W2 wr1:=kC HSrg.out hbr1 (by omega) (by omega)
    clear HSrg
    try replace XL:=XL.keep hbr1
    try replace X5:=X5.keep hbr1
    refine hK.out _ _ hS (fun _=>?_)
    clear hK K
    try simp only [pu]
    apply rg_pK;exact Hops;exact rfl;exact hS;exact rfl
    · intro _ hqc hqd;go_simp;try rfl
    try simp only [pu]
    refine rg_call (i:=12) (get_of Hops rfl) (fun K hK=>?_)
    have HSrg:=Lib.hid hS;clear hS
    refine rg_run (wanted_plain rfl) ?_
    go_simp
    have XLy:Below (w.heap.size) W2 (wr1):=HSrg.out.1
    have XLz:w.heap.size≤(wr1).heap.size:=Nat.le_trans (by omega) (show Below (w.heap.size) W2 (wr1) from HSrg.out.1).size
    refine hK.out _ _ (kA HSrg.out (by omega) (by omega) _) (fun hS=>?_)
    clear hK K HSrg
    try replace X5:=X5.alloc (.cells #[.int .i64 id,.int .i64 fr,.int .i64 dst,.slice A9 via.length c9,.int .i64 0,.int .i64 0] 50)
    try replace XL:=XL.alloc (.cells #[.int .i64 id,.int .i64 fr,.int .i64 dst,.slice A9 via.length c9,.int .i64 0,.int .i64 0] 50)
    have XL:=Blk.new (wr1) 50 #[.int .i64 id,.int .i64 fr,.int .i64 dst,.slice A9 via.length c9,.int .i64 0,.int .i64 0]
    try simp only [World.size_drew,World.size_alloc] at XL XLz
    try simp only [World.alloc_drew] at X5
    try simp only [World.alloc_drew] at XL
    try simp only [pu]
    refine rg_call (i:=13) (get_of Hops rfl) (fun K hK=>?_)
    have HSrg:=Lib.hid hS;clear hS
    refine rg_run (wanted_plain rfl) ?_
    refine wp_appl (.tmp 17) (.tmp 28) _ rfl (base:=w.heap.size) elem_ar arS_len arS_one rfl (((HP2.out.ars.keep (bD (bR W2))).keep hbr1).alloc _) rfl (l2:=[((⟨id,fr,dst,via,0,0⟩:Ar),(⟨A9,via.length,c9⟩:SV))]) (Sl.lit (n:=1) (Blk.made rfl _ _) rfl (le_maxLen (by omega))) (by simp only [List.length_cons,List.length_nil];omega) (by simp only [List.length_cons,List.length_nil];omega) (by have:=hbr1.size;simp at this;simp;omega) ?_
    intro v7 w7 ho7 hg7 hat7
    obtain ⟨A7,c7,hv7,-⟩:=Own.shape_ ho7
    rw [HSh.out] at hv7
    subst hv7
    have hX7:=Blk.grown X5 hg7 (fun e=>n5 e.symm)
    obtain ⟨q1,q2,q3,q4,q5,q6,q7⟩:=Blk.facts3 hX7
    have hmr:=PlO.more (((HP2.out.keep (bD (bR W2))).keep hbr1).keep (bA (bR _) _)) ho7 hg7 (Own.alloc (ho9.mono_base (by simp;omega)) _)
    have HPf:=Lib.hid (hmr.far hX7 (by decide) (by decide) (by decide) (by decide) 1 (.slice A7 (k+1) c7))
    have HXf:=Lib.hid (hX7.set_ 1 (.slice A7 (k+1) c7))
    have HBf:=Lib.hid (bS (p:=⟨g2,1,none⟩) (bG (bA (bT (bT HB2.out (bD (bR W2))) hbr1) _) hg7 (fun q hq=>(HP2.out.ars.lt q hq).1)) hgw2 (.slice A7 (k+1) c7))
    have hS:SinceK w.heap.size g4 W2 w7:=kG HSrg.out hg7 (fun q hq=>(HP2.out.ars.lt q hq).1) n4 (by omega) (by omega)
    clear hmr hX7 ho7 hg7 hat7
    clear HSrg
    refine hK.out _ _ hS (fun _=>?_)
    clear hK K
    try simp only [pu]
    apply rg_pK;exact Hops;exact rfl;exact hS;exact rfl
    · intro _ hqc hqd;go_simp;try rfl
    try simp only [pu]
    refine rg_call (i:=15) (get_of Hops rfl) (fun K hK=>?_)
    have HSrg:=Lib.hid hS;clear hS
    refine rg_run (wanted_plain rfl) ?_
    go_simp
    refine hK.out _ _ (kS HSrg.out (by first | omega | (simp;omega)) (by first | omega | (simp;omega)) _) (fun hS=>?_)
    clear hK K HSrg
    try simp only [pu]
    refine rg_done ?_
    refine HQrg.down _ _ ?_
    have hBk:=hS.2
    have hB:Below (w.heap.size) W2 _:=hS.1
    clear hS HQrg Hops
    go_wp2_with fail
    go_roundw
    case rel => exact ⟨k+1,_,A7,c7,by omega,by go_num,HSh.out _,by rw [HXt.out A7 c7];exact HPf.out,by simpa using HXf.out,HBf.out⟩
    case measure => simp [intOf];omega
   ·
    have HSrg:=Lib.hid hS;clear hS
    refine rg_run (wanted_plain rfl) ?_
    go_simp
    refine (HVs.out _ (bT HB2.out (bD (bR W2)))).mono ?_
    rintro e wr1 ⟨A9,c9,rfl,hbr1,ho9⟩
    have hS:SinceK (w.heap.size) (g4) W2 wr1:=kC HSrg.out hbr1 (by omega) (by omega)
    clear HSrg
    try replace XL:=XL.keep hbr1
    try replace X5:=X5.keep hbr1
    refine hK.out _ _ hS (fun _=>?_)
    clear hK K
    try simp only [pu]
    apply rg_pK;exact Hops;exact rfl;exact hS;exact rfl
    · intro _ hqc hqd;go_simp;try rfl
    try simp only [pu]
    refine rg_two (i:=1) (j:=12) (get_of Hops rfl) (get_of Hops rfl) (fun K hK=>?_) (fun K hK=>?_)
    ·
     have HSrg:=Lib.hid hS;clear hS
     refine rg_run (wanted_plain rfl) ?_
     obtain ⟨z1,z2,z3,z4,-⟩:=Blk.facts3 X5
     go_simp
     refine hK.out _ _ HSrg.out (fun hS=>?_)
     clear hK K HSrg
     try simp only [pu]
     refine rg_call (i:=12) (get_of Hops rfl) (fun K hK=>?_)
     have HSrg:=Lib.hid hS;clear hS
     refine rg_run (wanted_plain rfl) ?_
     go_simp
     have XLy:Below (w.heap.size) W2 (wr1):=HSrg.out.1
     have XLz:w.heap.size≤(wr1).heap.size:=Nat.le_trans (by omega) (show Below (w.heap.size) W2 (wr1) from HSrg.out.1).size
     refine hK.out _ _ (kA HSrg.out (by omega) (by omega) _) (fun hS=>?_)
     clear hK K HSrg
     try replace X5:=X5.alloc (.cells #[.int .i64 id,.int .i64 fr,.int .i64 dst,.slice A9 via.length c9,.int .i64 0,.int .i64 0] 50)
     try replace XL:=XL.alloc (.cells #[.int .i64 id,.int .i64 fr,.int .i64 dst,.slice A9 via.length c9,.int .i64 0,.int .i64 0] 50)
     have XL:=Blk.new (wr1) 50 #[.int .i64 id,.int .i64 fr,.int .i64 dst,.slice A9 via.length c9,.int .i64 0,.int .i64 0]
     try simp only [World.size_drew,World.size_alloc] at XL XLz
     try simp only [World.alloc_drew] at X5
     try simp only [World.alloc_drew] at XL
     try simp only [pu]
     refine rg_call (i:=13) (get_of Hops rfl) (fun K hK=>?_)
     have HSrg:=Lib.hid hS;clear hS
     refine rg_run (wanted_plain rfl) ?_
     refine wp_appl (.tmp 17) (.tmp 28) _ rfl (base:=w.heap.size) elem_ar arS_len arS_one rfl (((HP2.out.ars.keep (bD (bR W2))).keep hbr1).alloc _) rfl (l2:=[((⟨id,fr,dst,via,0,0⟩:Ar),(⟨A9,via.length,c9⟩:SV))]) (Sl.lit (n:=1) (Blk.made rfl _ _) rfl (le_maxLen (by omega))) (by simp only [List.length_cons,List.length_nil];omega) (by simp only [List.length_cons,List.length_nil];omega) (by have:=hbr1.size;simp at this;simp;omega) ?_
     intro v7 w7 ho7 hg7 hat7
     obtain ⟨A7,c7,hv7,-⟩:=Own.shape_ ho7
     rw [HSh.out] at hv7
     subst hv7
     have hX7:=Blk.grown X5 hg7 (fun e=>n5 e.symm)
     obtain ⟨q1,q2,q3,q4,q5,q6,q7⟩:=Blk.facts3 hX7
     have hmr:=PlO.more (((HP2.out.keep (bD (bR W2))).keep hbr1).keep (bA (bR _) _)) ho7 hg7 (Own.alloc (ho9.mono_base (by simp;omega)) _)
     have HPf:=Lib.hid (hmr.far hX7 (by decide) (by decide) (by decide) (by decide) 1 (.slice A7 (k+1) c7))
     have HXf:=Lib.hid (hX7.set_ 1 (.slice A7 (k+1) c7))
     have HBf:=Lib.hid (bS (p:=⟨g2,1,none⟩) (bG (bA (bT (bT HB2.out (bD (bR W2))) hbr1) _) hg7 (fun q hq=>(HP2.out.ars.lt q hq).1)) hgw2 (.slice A7 (k+1) c7))
     have hS:SinceK w.heap.size g4 W2 w7:=kG HSrg.out hg7 (fun q hq=>(HP2.out.ars.lt q hq).1) n4 (by omega) (by omega)
     clear hmr hX7 ho7 hg7 hat7
     clear HSrg
     refine hK.out _ _ hS (fun _=>?_)
     clear hK K
     try simp only [pu]
     apply rg_pK;exact Hops;exact rfl;exact hS;exact rfl
     · intro _ hqc hqd;go_simp;try rfl
     try simp only [pu]
     refine rg_call (i:=15) (get_of Hops rfl) (fun K hK=>?_)
     have HSrg:=Lib.hid hS;clear hS
     refine rg_run (wanted_plain rfl) ?_
     go_simp
     refine hK.out _ _ (kS HSrg.out (by first | omega | (simp;omega)) (by first | omega | (simp;omega)) _) (fun hS=>?_)
     clear hK K HSrg
     try simp only [pu]
     refine rg_done ?_
     refine HQrg.down _ _ ?_
     have hBk:=hS.2
     have hB:Below (w.heap.size) W2 _:=hS.1
     clear hS HQrg Hops
     go_wp2_with fail
     go_roundw
     case rel => exact ⟨k+1,_,A7,c7,by omega,by go_num,HSh.out _,by rw [HXt.out A7 c7];exact HPf.out,by simpa using HXf.out,HBf.out⟩
     case measure => simp [intOf];omega
    ·
     have HSrg:=Lib.hid hS;clear hS
     refine rg_run (wanted_plain rfl) ?_
     go_simp
     have XLy:Below (w.heap.size) W2 (wr1):=HSrg.out.1
     have XLz:w.heap.size≤(wr1).heap.size:=Nat.le_trans (by omega) (show Below (w.heap.size) W2 (wr1) from HSrg.out.1).size
     refine hK.out _ _ (kA HSrg.out (by omega) (by omega) _) (fun hS=>?_)
     clear hK K HSrg
     try replace X5:=X5.alloc (.cells #[.int .i64 id,.int .i64 fr,.int .i64 dst,.slice A9 via.length c9,.int .i64 0,.int .i64 0] 50)
     try replace XL:=XL.alloc (.cells #[.int .i64 id,.int .i64 fr,.int .i64 dst,.slice A9 via.length c9,.int .i64 0,.int .i64 0] 50)
     have XL:=Blk.new (wr1) 50 #[.int .i64 id,.int .i64 fr,.int .i64 dst,.slice A9 via.length c9,.int .i64 0,.int .i64 0]
     try simp only [World.size_drew,World.size_alloc] at XL XLz
     try simp only [World.alloc_drew] at X5
     try simp only [World.alloc_drew] at XL
     try simp only [pu]
     refine rg_call (i:=1) (get_of Hops rfl) (fun K hK=>?_)
     have HSrg:=Lib.hid hS;clear hS
     refine rg_run (wanted_plain rfl) ?_
     obtain ⟨z1,z2,z3,z4,-⟩:=Blk.facts3 X5
     go_simp
     refine hK.out _ _ HSrg.out (fun hS=>?_)
     clear hK K HSrg
     try simp only [pu]
     refine rg_call (i:=13) (get_of Hops rfl) (fun K hK=>?_)
     have HSrg:=Lib.hid hS;clear hS
     refine rg_run (wanted_plain rfl) ?_
     refine wp_appl (.tmp 17) (.tmp 28) _ rfl (base:=w.heap.size) elem_ar arS_len arS_one rfl (((HP2.out.ars.keep (bD (bR W2))).keep hbr1).alloc _) rfl (l2:=[((⟨id,fr,dst,via,0,0⟩:Ar),(⟨A9,via.length,c9⟩:SV))]) (Sl.lit (n:=1) (Blk.made rfl _ _) rfl (le_maxLen (by omega))) (by simp only [List.length_cons,List.length_nil];omega) (by simp only [List.length_cons,List.length_nil];omega) (by have:=hbr1.size;simp at this;simp;omega) ?_
     intro v7 w7 ho7 hg7 hat7
     obtain ⟨A7,c7,hv7,-⟩:=Own.shape_ ho7
     rw [HSh.out] at hv7
     subst hv7
     have hX7:=Blk.grown X5 hg7 (fun e=>n5 e.symm)
     obtain ⟨q1,q2,q3,q4,q5,q6,q7⟩:=Blk.facts3 hX7
     have hmr:=PlO.more (((HP2.out.keep (bD (bR W2))).keep hbr1).keep (bA (bR _) _)) ho7 hg7 (Own.alloc (ho9.mono_base (by simp;omega)) _)
     have HPf:=Lib.hid (hmr.far hX7 (by decide) (by decide) (by decide) (by decide) 1 (.slice A7 (k+1) c7))
     have HXf:=Lib.hid (hX7.set_ 1 (.slice A7 (k+1) c7))
     have HBf:=Lib.hid (bS (p:=⟨g2,1,none⟩) (bG (bA (bT (bT HB2.out (bD (bR W2))) hbr1) _) hg7 (fun q hq=>(HP2.out.ars.lt q hq).1)) hgw2 (.slice A7 (k+1) c7))
     have hS:SinceK w.heap.size g4 W2 w7:=kG HSrg.out hg7 (fun q hq=>(HP2.out.ars.lt q hq).1) n4 (by omega) (by omega)
     clear hmr hX7 ho7 hg7 hat7
     clear HSrg
     refine hK.out _ _ hS (fun _=>?_)
     clear hK K
     try simp only [pu]
     apply rg_pK;exact Hops;exact rfl;exact hS;exact rfl
     · intro _ hqc hqd;go_simp;try rfl
     try simp only [pu]
     refine rg_call (i:=15) (get_of Hops rfl) (fun K hK=>?_)
     have HSrg:=Lib.hid hS;clear hS
     refine rg_run (wanted_plain rfl) ?_
     go_simp
     refine hK.out _ _ (kS HSrg.out (by first | omega | (simp;omega)) (by first | omega | (simp;omega)) _) (fun hS=>?_)
     clear hK K HSrg
     try simp only [pu]
     refine rg_done ?_
     refine HQrg.down _ _ ?_
     have hBk:=hS.2
     have hB:Below (w.heap.size) W2 _:=hS.1
     clear hS HQrg Hops
     go_wp2_with fail
     go_roundw
     case rel => exact ⟨k+1,_,A7,c7,by omega,by go_num,HSh.out _,by rw [HXt.out A7 c7];exact HPf.out,by simpa using HXf.out,HBf.out⟩
     case measure => simp [intOf];omega
  ·
   obtain rfl:k=bl.length:=by omega
   have hlen:p.arcs.length=bl.length:=by rw [Hres.out,List.length_map]
   have hpe:(⟨p.nodes,(bl.take bl.length).map (fun x=>bareA x.1),[]⟩:Pl)=bareP p:=by
    unfold bareP
    rw [List.take_length,Hres.out,List.map_map]
    rfl
   have hpo:=HP.out
   rw [hpe] at hpo
   have HPf:=Lib.hid (((hpo.far HX4.out (by decide) (by decide) (by decide) (by decide) 0 (.slice An' p.nodes.length cn')).far (HX4.out.set_ 0 _) (by decide) (by decide) (by decide) (by decide) 1 (.slice A bl.length c)).far ((HX4.out.set_ 0 _).set_ 1 _) (by decide) (by decide) (by decide) (by decide) 2 (.slice none 0 0))
   have HBf:=Lib.hid (bS (p:=⟨g2,2,none⟩) (bS (p:=⟨g2,1,none⟩) (bS (p:=⟨g2,0,none⟩) HB.out hgw (.slice An' p.nodes.length cn')) hgw (.slice A bl.length c)) hgw (.slice none 0 0))
   have HLn:=Lib.hid hlen
   clear hpo hpe hlen HP
   try clear X4l
   try clear X4a
   try clear X4b
   try clear X4c
   try clear X4fa
   try clear X4fb
   try clear X4fc
   obtain ⟨X4l,X4a,X4b,X4c,X4fa,X4fb,X4fc⟩:=X4.facts3
   go_wp2_with fail
   refine res_cell (g:=g2) (cs:=#[.slice An' p.nodes.length cn',.slice A bl.length c,.slice none 0 0]) rfl struct_pl rfl rfl (Blk.put3 HX4.out) ?_
   have hl1:(bareP p).arcs.length=bl.length:=by unfold bareP;rw [List.length_map];exact HLn.out
   refine ⟨An',cn',A,c,ol,by rw [hl1];rfl,HBf.out,?_⟩
   rw [hl1]
   exact HPf.out
end Go.Proofs.YtialfdomhoojiaaGreat
