import Derived.Deep.CutBlock
import Derived.BigRegion
import Derived.Test.YtpempeioeiaijaaGreatJ27
import Derived.Test.YtpempeioeiaijaaGreatJ11
import Derived.Shelf.SlSortCmp.NoneTotal
import Derived.Test.YtpempeioeiaijaaGreatJ26
import Derived.Test.YtpempeioeiaijaaGreatJ10
import Derived.Test.YtpempeioeiaijaaGreatLaySortLn
import Derived.Test.YtpempeioeiaijaaGreatGB
import Derived.Test.YtpempeioeiaijaaGreatJ01
import Derived.Test.YtpempeioeiaijaaGreatRegLB
import Derived.Test.YtpempeioeiaijaaGreatJ06
set_option linter.unusedSimpArgs false
set_option linter.unusedVariables false
namespace Go.Proofs.YtpempeioeiaijaaGreat
open Go.RowKit Go.Sort

set_option maxRecDepth 100000 in
set_option maxHeartbeats 2000000 in
theorem Points19_bad (v:Value) (xs:List (SV×List Pt)) (w:World) (h:Lns19 w v xs) (hn:xs.length≤1000000) (hs:∀ k (hk:k<xs.length),xs[k].2.length≤1000000) (hz:chkL (xs.map (·.2))≠0) :
  Calls Tryz.prog 12 #[v] w fun e w'=>e=.returned (.tuple #[.slice none 0 0,.int .i64 (chkL (xs.map (·.2)))])∧Below w.heap.size w w':=by
 have HC:=Lib.hid (Check19_spec v xs w h hn hs)
 obtain ⟨⟨A,c,rfl,-⟩,-⟩:=h
 generalize chkL (xs.map (·.2))=z at *
 have hz':(z != 0)=true:=by simpa using hz
 clear hz
 go_enter Tryz.func12,Tryz.ntmps12
 go_wp2_with fail
 refine HC.out.mono ?_
 rintro e w1 ⟨rfl,hb1⟩
 go_wp2_with fail
 go_ret2
 exact ⟨rfl,hb1⟩

def RetPt19 (w:World) (l:List Pt) (e:Ending) (w':World):Prop :=
 ∃ A c,e=.returned (.tuple #[.slice A l.length c,.int .i64 0])∧Below w.heap.size w w'∧Own w' w.heap.size 42 2 ptC (.slice A l.length c) l

set_option maxRecDepth 100000 in
set_option maxHeartbeats 8000000 in
theorem Points19_ok (v:Value) (xs:List (SV×List Pt)) (w:World) (h:Lns19 w v xs) (hg:GoodL (xs.map (·.2))) :
  Calls Tryz.prog 12 #[v] w (RetPt19 w (meetL (xs.map (·.2)))):=by
 have hn:xs.length≤256:=by have:=hg.num;simpa using this
 have hmem:∀ k (hk:k<xs.length),xs[k].2∈xs.map (·.2):=fun k hk=>List.mem_map_of_mem (List.getElem_mem hk)
 have h4:∀ k (hk:k<xs.length),2≤xs[k].2.length∧xs[k].2.length≤4096:=fun k hk=>⟨hg.two _ (hmem k hk),hg.len _ (hmem k hk)⟩
 have hwf:∀ k (hk:k<xs.length),∀ p∈xs[k].2,wfPt p:=fun k hk p hp=>by
  have:=hg.pts _ (hmem k hk) p hp
  unfold ptOk at this
  simp only [Bool.and_eq_true,decide_eq_true_eq] at this
  exact ⟨wfI_of (by omega) (by omega),wfI_of (by omega) (by omega)⟩
 have HC:=Lib.hid (Check19_spec v xs w h (by omega) (fun k hk=>by have:=h4 k hk;omega))
 rw [chkL_good.2 hg] at HC
 have hLk:∀ k (hk:k<xs.length),(xs.map (·.2))[k]? = some xs[k].2:=fun k hk=>by rw [List.getElem?_map,List.getElem?_eq_getElem hk];rfl
 have hLm:∀ k,∀ l∈(xs.map (·.2)).take k,l.length≤4096:=fun k l hl=>hg.len _ (List.mem_of_mem_take hl)
 have hLn:(xs.map (·.2)).length=xs.length:=by simp
 have HG:=Lib.hid hg
 generalize xs.map (·.2)=L at *
 obtain ⟨⟨A,c,rfl,hc1,hc2,hR⟩,hP⟩:=h
 unfold maxLen at hc2
 have HR:=Lib.hid hR;have HP:=Lib.hid hP;have H4:=Lib.hid h4;have HWf:=Lib.hid hwf;have HLk:=Lib.hid hLk;have HLm:=Lib.hid hLm;have HLn:=Lib.hid hLn
 have hmm:=@run_makeMap Tryz.prog
 clear hR hP h4 hwf hLk hLm hmem hg hLn
 go_enter Tryz.func12,Tryz.ntmps12
 go_wp2_with fail
 refine HC.out.mono ?_
 rintro e w1 ⟨rfl,hb1⟩
 go_upto_region 5 with fail
 obtain ⟨gm,hgm⟩:∃ gm,gm=w1.heap.size:=⟨_,rfl⟩
 obtain ⟨W1,hW⟩:∃ W:World,W=w1.alloc (.map #[] 0):=⟨_,rfl⟩
 have HM1:=Lib.hid (show MapPN W1 gm 0 (cnF (bumps (L.take 0))) by
  have e:bumps (L.take 0)=[]:=rfl
  rw [hW,hgm,e,cnF_nil];exact MapPN.made w1)
 have HB1:=Lib.hid (show Below w.heap.size w W1 by rw [hW];exact bA hb1 _)
 have hgl:w.heap.size≤gm:=by rw [hgm];exact hb1.size
 rw [← hW,← hgm]
 clear hW hgm hmm hb1
 go_upto_block 0 with fail
 go_wp2_with fail
 go_loopw [20] (fun u wr=>∃ k n:Nat,k≤xs.length∧n≤k*5000∧u=.int .i64 k∧MapPN wr gm n (cnF (bumps (L.take k)))∧Below w.heap.size w wr) (fun u _=>xs.length-(intOf u).toNat)
 case atStart => exact ⟨0,0,Nat.zero_le _,Nat.zero_le _,rfl,HM1.out,HB1.out⟩
 case round =>
  obtain ⟨k,n,hk,hnk,rfl,mp,hb⟩:=hrel
  obtain ⟨w2,rfl⟩:∃ w2:World,w2=wr:=⟨_,rfl⟩
  have HM:=Lib.hid mp;have Hb:=Lib.hid hb
  clear mp hb HM1 HB1
  by_cases hlt:k<xs.length
  ·
   obtain ⟨b,o,rfl,hlb,c0⟩:=(HR.out.mono Hb.out).ln hlt
   obtain ⟨A1,c1,hv1,hc3,hc4,hR1⟩:=HP.out k hlt
   obtain ⟨hl2,hl4⟩:=H4.out k hlt
   have hwl:=HWf.out k hlt
   have hT:=bumps_take2 (HLk.out k hlt) hl2
   rw [hv1] at c0
   unfold maxLen at hc4
   clear hv1
   generalize xs[k].2=l at *
   have hBl:(bumps (L.take k)).length≤k*4098:=by
    have h9:=bumps_len (L.take k) 4096 (HLm.out k)
    have h8:(L.take k).length≤k:=by rw [List.length_take];omega
    have h7:=Nat.mul_le_mul_right 4098 h8
    omega
   have HT:=Lib.hid hT
   clear hT
   generalize bumps (L.take k)=B0 at *
   have HR1:=Lib.hid hR1;have HWl:=Lib.hid hwl
   clear hR1 hwl
   go_upto_block 2 with fail
   clear c0 hlb
   go_wp2_with fail
   go_loopw [26] (fun u wr=>∃ i m:Nat,i≤l.length∧m≤n+i∧u=.int .i64 i∧MapPN wr gm m (cnF (B0++l.take i))∧Below w.heap.size w wr) (fun u _=>l.length-(intOf u).toNat)
   case atStart => exact ⟨0,n,Nat.zero_le _,by omega,rfl,by rw [List.take_zero,List.append_nil];exact HM.out,Hb.out⟩
   case round =>
    obtain ⟨i,m,hi,hmn,rfl,mp,hb⟩:=hrel
    obtain ⟨w3,rfl⟩:∃ w3:World,w3=wr:=⟨_,rfl⟩
    replace HM:=Lib.hid mp;replace Hb:=Lib.hid hb
    clear mp hb
    by_cases hli:i<l.length
    ·
     obtain ⟨b1,o1,rfl,hlb1,d0,d1⟩:=(HR1.out.mono Hb.out).pt hli
     have hwp:=HWl.out _ (List.getElem_mem hli)
     have hTi:B0++l.take (i+1)=(B0++l.take i)++[l[i]]:=by rw [List.take_succ_eq_append_getElem hli,List.append_assoc]
     have hBi:(B0++l.take i).length≤k*4098+4096:=by
      rw [List.length_append,List.length_take];omega
     generalize l[i]=p at *
     have HTi:=Lib.hid hTi
     clear hTi
     generalize B0++l.take i=C at *
     have hcb:=cnF_bd C p
     go_upto_region 11 with fail
     obtain ⟨W5,hW⟩:∃ W:World,W=w3.alloc (.cells #[.int .i64 p.x,.int .i64 p.y] 42):=⟨_,rfl⟩
     have X8:Blk W5 w3.heap.size 42 #[.int .i64 p.x,.int .i64 p.y]:=by rw [hW];exact Blk.made rfl _ _
     have HA:=Lib.hid (show Below w3.heap.size w3 W5 by rw [hW];exact bA (bR w3) _)
     have hMd:=(HM.out.keep HA.out).kept (row:=none) (gD (gR W5 none)) (by simp)
     have lk0:=hMd.look p hwp
     obtain ⟨st,w6,w7,r1,g1,lk1,r2,hm7,g2⟩:=hMd.bump (by omega) p hwp (cnF C p+1) (by omega)
     have hwr:IntKind.i64.wrap (cnF C p+1)=cnF C p+1:=IntWalk.i64_in _ (by omega)
     rw [cnF_snoc,← HTi.out] at hm7
     have HM7:=Lib.hid hm7
     have HB7:=Lib.hid (show Below w.heap.size w w7 from bG (w:=w) (bD (bT Hb.out HA.out)) g2 (fun q hq=>by have:=Option.some.inj hq;omega))
     rw [← hW]
     clear hW d0 d1 hm7 g1 g2 hMd HM hlb1
     generalize cnF C p=cp at *
     obtain ⟨X8l,X8a,X8b,-,-⟩:=X8.facts2
     go_region
     clear r1 r2 lk0 lk1
     go_wp2_with fail
     go_roundw
     case rel => exact ⟨i+1,m+1,by omega,by omega,by go_num,HM7.out,HB7.out⟩
     case measure => simp [intOf];omega
    ·
     have hil:i=l.length:=by omega
     subst hil
     rw [List.take_length] at HM
     obtain ⟨b1,o1,rfl,hlb1,d0,d1⟩:=(HR1.out.mono Hb.out).pt (k:=0) (by omega)
     simp only [Nat.zero_mul,Nat.add_zero] at d0 d1
     have hwp:=HWl.out _ (List.getElem_mem (show 0<l.length by omega))
     have hwq:=HWl.out _ (List.getElem_mem (show l.length-1<l.length by omega))
     have HF:=Lib.hid (fun W (hW:Below w.heap.size w W)=>(HR1.out.mono hW).pt (k:=l.length-1) (show l.length-1<l.length by omega))
     generalize l[0]=p at *
     generalize l[l.length-1]=q at *
     have hCl:(B0++l).length≤k*4098+4096:=by rw [List.length_append];omega
     generalize B0++l=C at *
     have hcb:=cnF_bd C p
     have hcb2:=cnF_bd (C++[p]) q
     have hln:(C++[p]).length=C.length+1:=by simp
     have hMd:=HM.out.kept (row:=none) (gD (gR w3 none)) (by simp)
     have lk0:=hMd.look p hwp
     obtain ⟨st,w6,w7,r1,g1,lk1,r2,hm7,g2⟩:=hMd.bump (by omega) p hwp (cnF C p+1) (by omega)
     have hwr:IntKind.i64.wrap (cnF C p+1)=cnF C p+1:=IntWalk.i64_in _ (by omega)
     rw [cnF_snoc] at hm7
     have HM7:=Lib.hid hm7
     have HB7:=Lib.hid (show Below w.heap.size w w7 from bG (w:=w) (bD Hb.out) g2 (fun q hq=>by have:=Option.some.inj hq;omega))
     clear hm7 g1 g2 hMd HM
     have hlp:0<l.length:=by omega
     have hcr:cnF (C++[p]) q+1≠0:=by omega
     obtain ⟨cp,hcp⟩:∃ cp,cnF C p=cp:=⟨_,rfl⟩
     rw [hcp] at lk0 r1 lk1 r2 hwr
     clear hcp
     go_upto_region 13 with fail
     go_region
     clear r1 r2 lk0 lk1 d0 d1 hwr hlb1
     have hMd:=HM7.out.kept (row:=none) (gD (gR w7 none)) (by simp)
     have lk0:=hMd.look q hwq
     obtain ⟨st2,w8,w9,r1,g1,lk1,r2,hm9,g2⟩:=hMd.bump (by omega) q hwq (cnF (C++[p]) q+1) hcr
     have hwr:IntKind.i64.wrap (cnF (C++[p]) q+1)=cnF (C++[p]) q+1:=IntWalk.i64_in _ (by omega)
     rw [cnF_snoc,← HT.out] at hm9
     have HM9:=Lib.hid hm9
     have HB9:=Lib.hid (show Below w.heap.size w w9 from bG (w:=w) (bD HB7.out) g2 (fun q hq=>by have:=Option.some.inj hq;omega))
     obtain ⟨b2,o2,hA2,hlb2,f0,f1⟩:=HF.out _ HB7.out
     simp only [Option.some.injEq,Addr.mk.injEq,and_true] at hA2
     obtain ⟨rfl,rfl⟩:=hA2
     obtain ⟨cq,hcq⟩:∃ cq,cnF (C++[p]) q=cq:=⟨_,rfl⟩
     rw [hcq] at lk0 r1 lk1 r2 hwr
     obtain ⟨N,hN⟩:∃ N,l.length-1=N:=⟨_,rfl⟩
     have hN2:((l.length:Int)-1)=N:=by omega
     have hN3:IntKind.i64.wrap ((l.length:Int)-1)=N:=by rw [hN2];exact IntWalk.i64_in _ (by omega)
     have hN4:N<l.length:=by omega
     have hN5:(N:Int)<l.length:=by omega
     have hN6:(0:Int)≤N:=by omega
     rw [hN] at f0 f1
     clear hcq hm9 g1 g2 hMd HM7 hcb hcb2 hN2
     go_upto_region 14 with fail
     go_region
     clear r1 r2 lk0 lk1 f0 f1 hwr hlb2 hN3 hN5 hN6
     go_wp2_with fail
     go_roundw
     case rel => exact ⟨k+1,m+2,by omega,by omega,by go_num,HM9.out,HB9.out⟩
     case measure => simp [intOf];omega
  ·
   have hkn:k=xs.length:=by omega
   subst hkn
   rw [List.take_of_length_le (by rw [HLn.out];exact Nat.le_refl _)] at HM
   have HFw:=Lib.hid (show ∀ p,¬ wfPt p→cnF (bumps L) p=0 from fun p hp=>by
    unfold cnF
    have:(bumps L).count p=0:=List.count_eq_zero.2 fun hm=>by
     obtain ⟨l,hl,hpl⟩:=List.mem_flatten.1 (mem_bumps.1 hm)
     have:=HG.out.pts l hl p hpl
     unfold ptOk at this
     simp only [Bool.and_eq_true,decide_eq_true_eq] at this
     exact hp ⟨wfI_of (by omega) (by omega),wfI_of (by omega) (by omega)⟩
    rw [this];rfl)
   have HFm:=Lib.hid (show ∀ p,g2F (cnF (bumps L)) p≠0↔meets L p=true from fun p=>by
    unfold g2F meets cnF
    rw [decide_eq_true_eq]
    split<;>omega)
   generalize cnF (bumps L)=f at *
   go_wp2_with (first | (at_range;refine wp_range_pn _ rfl _ rfl gm n f rfl HM.out ?_;intro w4 cnt4 hrg4 hg4 hs4) | fail)
   go_frame
   obtain ⟨r,hr⟩:∃ r,r=w2.heap.size:=⟨_,rfl⟩
   have hrl:w.heap.size≤r:=by rw [hr];exact Hb.out.size
   rw [← hr] at hrg4 ⊢
   have HR4:=Lib.hid (show RngP w4 gm r n (gF f (fun p=>decide (f p≠0))) (fun p=>decide (f p≠0)) cnt4 by rw [gF_start];exact hrg4)
   have HB4:=Lib.hid (show Below w.heap.size w w4 from bG (w:=w) Hb.out hg4 (fun q hq=>by cases hq))
   clear hrg4 hg4 hs4 HM hr
   go_loopw [10] (fun _ wr=>∃ (S:Pt→Bool) (cnt:Nat),RngP wr gm r n (gF f S) S cnt∧Below w.heap.size w wr) (fun _ wr=>wr.rangeLeft gm r)
   case atStart => exact ⟨_,_,HR4.out,HB4.out⟩
   case round =>
    obtain ⟨S,cnt,hrg,hb⟩:=hrel
    obtain ⟨w5,rfl⟩:∃ w5:World,w5=wr:=⟨_,rfl⟩
    replace Hb:=Lib.hid hb
    have HRg:=Lib.hid hrg
    clear hb hrg HR4 HB4
    go_wp2_with (first | (at_next;refine wp_next_pn _ rfl _ rfl gm r n _ _ _ rfl HRg.out ?_ ?_) | fail)
    ·
     intro hl0
     have HM2:=Lib.hid (show MapPN w5 gm n (g2F f) by rw [← gF_end HFw.out hl0];exact HRg.out.owns)
     clear hl0 HRg
     go_wp2_with (first | (at_range;refine wp_range_pn _ rfl _ rfl gm n _ rfl HM2.out ?_;intro w6 cnt6 hrg6 hg6 hs6) | fail)
     go_frame
     obtain ⟨r2,hr2⟩:∃ r2,r2=w5.heap.size:=⟨_,rfl⟩
     have hrl2:w.heap.size≤r2:=by rw [hr2];exact Hb.out.size
     rw [← hr2] at hrg6 ⊢
     have HR6:=Lib.hid hrg6
     have HB6:=Lib.hid (show Below w.heap.size w w6 from bG (w:=w) Hb.out hg6 (fun q hq=>by cases hq))
     clear hrg6 hg6 hs6 HM2 hr2
     have HGz:=Lib.hid (show ∀ p,¬ wfPt p→g2F f p=0 from fun p hp=>by unfold g2F;rw [HFw.out p hp];rfl)
     generalize g2F f=g at *
     go_loopw [2] (fun u wr=>∃ (S:Pt→Bool) (cnt:Nat) (l:List Pt),Own wr w.heap.size 42 2 ptC u l∧RngP wr gm r2 n g S cnt∧Below w.heap.size w wr∧l.Nodup∧(∀ p,wfPt p→(p∈l↔g p≠0∧S p=false))∧(∀ p∈l,wfPt p)∧∀ p,S p=true→g p≠0) (fun _ wr=>wr.rangeLeft gm r2)
     case atStart => exact ⟨_,_,[],Own.nil _ _ _ _ _,HR6.out,HB6.out,List.Pairwise.nil,fun p _=>⟨fun h=>(by cases h),fun h=>(by have h1:=h.1;have h2:=h.2;simp [h1] at h2)⟩,fun p h=>(by cases h),fun p h=>(by simpa using h)⟩
     case round =>
      obtain ⟨S,cnt,l,ho,hrg,hb,hnd,hml,hwl,hsg⟩:=hrel
      obtain ⟨w7,rfl⟩:∃ w7:World,w7=wr:=⟨_,rfl⟩
      replace Hb:=Lib.hid hb
      have HRg:=Lib.hid hrg;have HO:=Lib.hid ho;have HNd:=Lib.hid hnd;have HMl:=Lib.hid hml;have HWl:=Lib.hid hwl;have HSg:=Lib.hid hsg
      clear hb hrg HR6 HB6 ho hnd hml hwl hsg
      have hln:l.length≤1048576:=by
       have h1:=nodup_len HNd.out (m:=L.flatten) (fun x hx=>meets_mem ((HFm.out x).1 ((HMl.out x (HWl.out x hx)).1 hx).1))
       have h3:L.flatten.length≤L.length*4096:=by
        have:=flat_le L id 4096 (fun l hl=>HG.out.len l hl)
        simpa [List.flatMap_id] using this
       have h4:=HG.out.num
       omega
      go_wp2_with (first | (at_next;refine wp_next_pn _ rfl _ rfl gm r2 n _ _ _ rfl HRg.out ?_ ?_) | fail)
      ·
       intro hl0
       have HFin:=Lib.hid (show ∀ p,p∈l↔meets L p=true from fun p=>by
        rw [← HFm.out p]
        by_cases hw:wfPt p
        ·
         rw [HMl.out p hw]
         exact ⟨fun h=>h.1,fun h=>⟨h,hl0 p hw⟩⟩
        · exact ⟨fun h=>absurd (HWl.out p h) hw,fun h=>absurd (HGz.out p hw) h⟩)
       clear hl0
       go_wp2_with fail
       refine (SortPt_spec w.heap.size _ l _ HO.out (by omega)).mono ?_
       rintro e w9 ⟨rfl,sl,hp,hs,ho9,hg9⟩
       have hsl:sl=meetL L:=meetL_eq (hp.nodup_iff.2 HNd.out) (fun p=>by rw [hp.mem_iff];exact HFin.out p) (hs.imp fun h=>by rw [ltOf_cmpB (fun x:Pt=>x)] at h;exact h)
       subst hsl
       have HB9:=Lib.hid (show Below w.heap.size w w9 from bG (w:=w) Hb.out hg9 (fun q hq=>(HO.out.lt q hq).1))
       have HO9:=Lib.hid ho9
       clear hp hs hg9 ho9
       go_wp2_with fail
       obtain ⟨A9,c9,hv9,-⟩:=Own.shape HO9.out
       subst hv9
       go_ret2
       exact ⟨A9,c9,rfl,HB9.out,HO9.out⟩
      ·
       intro p w8 cnt8 hwp hsp hrg8 hlt8 hg8 hs8 hen
       have HR8:=Lib.hid hrg8
       obtain ⟨hne1,hne2⟩:=HRg.out.own_ne HO.out
       have HO8:=Lib.hid (HO.out.grown hg8 (fun q hq e=>hne2 (by rw [hq,← Option.some.inj e])))
       have HB8:=Lib.hid (show Below w.heap.size w w8 from bG (w:=w) Hb.out hg8 (fun q hq=>by have:=Option.some.inj hq;omega))
       have hgp:=HSg.out p hsp
       have hpl:p∉l:=fun h=>by have:=((HMl.out p hwp).1 h).2;rw [hsp] at this;cases this
       have hb8:=HB8.out.size
       generalize g p=gp at *
       clear hne1 hne2 hrg8 hg8 hs8
       go_wp2_with
        (at_builtin
         refine wpList_appl _ rfl (.tmp 74) (.tmp 76) _ rfl (base:=w.heap.size) elem_pt ptC_len ptC_one rfl ((HO8.out.alloc _).alloc _) rfl (l2:=[p]) (Sl.lit (n:=1) (Blk.made (by simp) _ _) rfl (le_maxLen (by omega))) (by simp only [List.length_cons,List.length_nil];omega) (by simp only [List.length_cons,List.length_nil];omega) (by simp;omega) ?_
         intro v1 w1 ho1 hg1 hat1
         have HO1:=Lib.hid ho1
         have HR1:=Lib.hid (((HR8.out.kept (World.grownBy_alloc _ _ none) (by simp) (by simp)).kept (World.grownBy_alloc _ _ none) (by simp) (by simp)).kept hg1 (fun e=>(HR8.out.own_ne HO8.out).1 e.symm) (fun e=>(HR8.out.own_ne HO8.out).2 e.symm))
         have HB1:=Lib.hid (show Below w.heap.size w w1 from bG (w:=w) (bA (bA HB8.out _) _) hg1 (fun q hq=>(HO8.out.lt q hq).1))
         clear ho1 hg1 hat1)
       go_roundw
       case rel => exact ⟨_,cnt8,l++[p],HO1.out,HR1.out,HB1.out,List.nodup_append.2 ⟨HNd.out,List.nodup_cons.2 ⟨by simp,List.Pairwise.nil⟩,fun a ha b hb e=>hpl (by rw [List.mem_singleton] at hb;rw [← hb,← e];exact ha)⟩,fun q hq=>by
         rw [List.mem_append,List.mem_singleton,HMl.out q hq]
         by_cases e:q=p
         · subst e;simp [HSg.out q hsp]
         · simp [e],fun q hq=>by
         rcases List.mem_append.1 hq with h | h
         · exact HWl.out q h
         · rw [List.mem_singleton.1 h];exact hwp,fun q hq=>HSg.out q (by simp only [Bool.and_eq_true] at hq;exact hq.1)⟩
       case measure => rw [HR1.out.left_eq,HRg.out.left_eq];exact hlt8
    ·
     intro p w6 cnt6 hwp hsp hrg6 hlt6 hg6 hs6 hen
     have HR6:=Lib.hid hrg6
     have HB6:=Lib.hid (show Below w.heap.size w w6 from bG (w:=w) Hb.out hg6 (fun q hq=>by have:=Option.some.inj hq;omega))
     have hgv:gF f S p=f p:=by unfold gF;rw [hsp];rfl
     rw [hgv] at hen ⊢
     clear hgv hrg6 hg6 hs6 hsp
     by_cases h2:2≤f p
     ·
      have HE:=Lib.hid (gF_stay (S:=S) h2)
      generalize f p=fp at *
      go_wp2_with fail
      go_roundw
      case rel => exact ⟨_,cnt6,by rw [← HE.out];exact HR6.out.kept (World.grownBy_alloc _ _ none) (by simp) (by simp),bA HB6.out _⟩
      case measure => rw [(HR6.out.kept (World.grownBy_alloc _ _ none) (by simp) (by simp)).left_eq,HRg.out.left_eq];exact hlt6
     ·
      have HE:=Lib.hid (gF_del (S:=S) h2)
      generalize f p=fp at *
      go_wp2_with (first | (at_delete;refine wp_del_pn _ rfl (.tmp 66) (.tmp 67) rfl gm r n _ _ _ rfl p hwp rfl (HR6.out.kept (World.grownBy_alloc _ _ none) (by simp) (by simp)) ?_;intro w7 cnt7 hrg7 hle7 ht7;go_frame) | fail)
      have HR7:=Lib.hid hrg7
      have HB7:=Lib.hid (show Below w.heap.size w w7 from bG (w:=w) (bA HB6.out _) ht7.grown (fun q hq=>by have:=Option.some.inj hq;omega))
      clear hrg7 ht7
      go_roundw
      case rel => exact ⟨_,cnt7,by
       have h9:=HR7.out
       rw [HE.out] at h9
       have e9:(fun q=>(S q && !decide (q=p)) && !decide (q=p))=fun q=>S q && !decide (q=p):=by
        funext q;cases S q<;>cases decide (q=p)<;>rfl
       rw [e9] at h9
       exact h9,HB7.out⟩
      case measure => rw [HR7.out.left_eq,HRg.out.left_eq];omega
end Go.Proofs.YtpempeioeiaijaaGreat
namespace Go.Proofs.YtpempeioeiaijaaGreat
open Go.RowKit Go.Sort

set_option maxRecDepth 100000 in
set_option maxHeartbeats 2000000 in
theorem RPoints19_bad (v:Value) (xs:List (SV×List Pt)) (w:World) (h:Lns19 w v xs) (hn:xs.length≤1000000) (hs:∀ k (hk:k<xs.length),xs[k].2.length≤1000000) (hz:chkL (xs.map (·.2))≠0) :
  Calls Tryz.prog 13 #[v] w fun e w'=>e=.returned (.tuple #[.slice none 0 0,.int .i64 (chkL (xs.map (·.2)))])∧Below w.heap.size w w':=by
 have HC:=Lib.hid (RChk19_spec v xs w h hn hs)
 obtain ⟨⟨A,c,rfl,-⟩,-⟩:=h
 generalize chkL (xs.map (·.2))=z at *
 have hz':(z != 0)=true:=by simpa using hz
 clear hz
 go_enter Tryz.func13,Tryz.ntmps13
 go_wp2_with fail
 refine HC.out.mono ?_
 rintro e w1 ⟨rfl,hb1⟩
 go_wp2_with fail
 go_ret2
 exact ⟨rfl,hb1⟩

theorem withAll_snoc (S:Pt→Bool) (o l:List Pt) (p:Pt):withAll S o (l++[p])=if S p then withP p (withAll S o l) else withAll S o l:=by
 unfold withAll
 rw [List.foldl_append]
 rfl
theorem withAll_len (S:Pt→Bool) (l o:List Pt):(withAll S o l).length≤o.length+l.length:=by
 induction l generalizing o with
 | nil=>exact Nat.le_refl _
 | cons p l ih =>
  have e:withAll S o (p::l)=withAll S (if S p then withP p o else o) l:=rfl
  have:=ih (if S p then withP p o else o)
  have h1:=withP_len p o
  rw [e,List.length_cons]
  split at this<;>rename_i hp<;>simp only [hp] at * <;> first | omega | (simp at *;omega)
def RetPtT (w:World) (l:List Pt) (e:Ending) (w':World):Prop :=
 ∃ A c,e=.returned (.tuple #[.slice A l.length c,.int .i64 0])∧Below w.heap.size w w'∧Pts w' (.slice A l.length c) l
theorem flat_take {α:Type} (f:α→List Pt) {xs:List α} {k:Nat} (hk:k<xs.length):((xs.take (k+1)).map f).flatten=((xs.take k).map f).flatten++f xs[k]:=by
 rw [List.take_succ_eq_append_getElem hk,List.map_append,List.flatten_append]
 simp
theorem flat_take_len {α:Type} (f:α→List Pt) {xs:List α} (k:Nat) (m:Nat) (h:∀ k (hk:k<xs.length),(f xs[k]).length≤m):((xs.take k).map f).flatten.length≤k*m:=by
 induction k with
 | zero=>simp
 | succ k ih =>
  by_cases hk:k<xs.length
  ·
   rw [flat_take f hk,List.length_append]
   have:=h k hk
   rw [Nat.succ_mul]
   omega
  ·
   rw [List.take_of_length_le (by omega)]
   rw [List.take_of_length_le (by omega)] at ih
   rw [Nat.succ_mul]
   omega

set_option maxRecDepth 100000 in
set_option maxHeartbeats 8000000 in
theorem RPoints19_ok (v:Value) (xs:List (SV×List Pt)) (w:World) (h:Lns19 w v xs) (hg:GoodL (xs.map (·.2))) :
  Calls Tryz.prog 13 #[v] w (RetPtT w (rptsL (xs.map (·.2)))):=by
 have hn:xs.length≤256:=by have:=hg.num;simpa using this
 have hmem:∀ k (hk:k<xs.length),xs[k].2∈xs.map (·.2):=fun k hk=>List.mem_map_of_mem (List.getElem_mem hk)
 have h4:∀ k (hk:k<xs.length),2≤xs[k].2.length∧xs[k].2.length≤4096:=fun k hk=>⟨hg.two _ (hmem k hk),hg.len _ (hmem k hk)⟩
 have HC:=Lib.hid (RChk19_spec v xs w h (by omega) (fun k hk=>by have:=h4 k hk;omega))
 rw [chkL_good.2 hg] at HC
 have HMt:=Lib.hid (fun p W (hW:Below w.heap.size w W)=>RMeets19_spec v xs p W (h.mono hW) hn (fun k hk=>(h4 k hk).2) (fun k hk=>(h4 k hk).1))
 have HWi:=Lib.hid (@RWith19_spec)
 obtain ⟨S,hS⟩:∃ S,rmeets (xs.map (·.2))=S:=⟨_,rfl⟩
 obtain ⟨G,hG⟩:∃ G:Nat→List Pt,G=fun k=>((xs.take k).map (·.2)).flatten:=⟨_,rfl⟩
 have HGk:=Lib.hid (show ∀ k (hk:k<xs.length),G (k+1)=G k++xs[k].2 from fun k hk=>by rw [hG];exact flat_take (·.2) hk)
 have HG0:=Lib.hid (show withAll S [] (G 0)=[] by rw [hG];rfl)
 have HGl:=Lib.hid (show ∀ k,(G k).length≤k*4096 from fun k=>by rw [hG];exact flat_take_len (·.2) k 4096 (fun k hk=>(h4 k hk).2))
 have HGe:=Lib.hid (show withAll S [] (G xs.length)=rptsL (xs.map (·.2)) by unfold rptsL;rw [hS,hG];simp only [List.take_length])
 rw [hS] at HMt
 generalize rptsL (xs.map (·.2))=R at *
 obtain ⟨⟨A,c,rfl,hc1,hc2,hR⟩,hP⟩:=h
 unfold maxLen at hc2
 have HR:=Lib.hid hR;have HP:=Lib.hid hP;have H4:=Lib.hid h4
 clear hR hP h4 hmem hg hS hG
 go_enter Tryz.func13,Tryz.ntmps13
 go_wp2_with fail
 refine HC.out.mono ?_
 rintro e w1 ⟨rfl,hb1⟩
 have HB1:=Lib.hid hb1
 clear hb1
 go_upto_block 0 with fail
 go_wp2_with fail
 go_loopw [5,6] (fun z u wr=>∃ (k:Nat) (m:List Pt),k≤xs.length∧u=.int .i64 k∧Below w.heap.size w wr∧withAll S [] (G k)=m∧Pts wr z m) (fun _ u _=>xs.length-(intOf u).toNat)
 case atStart => exact ⟨0,[],Nat.zero_le _,rfl,HB1.out,HG0.out,Sl.of_own (Own.nil _ w.heap.size 42 2 ptC)⟩
 case round =>
  obtain ⟨k,m,hk,rfl,hb,hm,hp⟩:=hrel
  obtain ⟨w2,rfl⟩:∃ w2:World,w2=wr:=⟨_,rfl⟩
  have Hb:=Lib.hid hb;have Hm:=Lib.hid hm;have Hp:=Lib.hid hp
  clear hb hm hp
  by_cases hlt:k<xs.length
  ·
   have hgk:=HGk.out k hlt;have hgl:=HGl.out k
   obtain ⟨b,o,rfl,hlb0,hc0⟩:=HR.out.lnK hlt
   obtain ⟨A1,c1,hv1,hc3,hc4,hR1⟩:=HP.out k hlt
   obtain ⟨hk1,hk2⟩:=H4.out k hlt
   have HR1:=Lib.hid hR1
   rw [hv1] at hc0
   unfold maxLen at hc4
   clear hv1 hR1
   generalize xs[k].2=L at *
   have HGL:=Lib.hid hgk
   have HC0:=Lib.hid hc0
   obtain ⟨T,hT⟩:∃ T,G k=T:=⟨_,rfl⟩
   rw [hT] at Hm hgl HGL
   have HT:=Lib.hid hT
   clear hc0 hgk hT
   go_upto_block 2 with fail
   go_wp2_with fail
   go_loopw [5,7] (fun z u wr=>∃ (i:Nat) (m:List Pt),i≤L.length∧u=.int .i64 i∧Below w.heap.size w wr∧withAll S [] (T++L.take i)=m∧Pts wr z m) (fun _ u _=>L.length-(intOf u).toNat)
   case atStart => exact ⟨0,m,Nat.zero_le _,rfl,Hb.out,by rw [List.take_zero,List.append_nil];exact Hm.out,Hp.out⟩
   case round =>
    obtain ⟨i,m2,hi,rfl,hb,hm,hp⟩:=hrel
    obtain ⟨w3,rfl⟩:∃ w3:World,w3=wr:=⟨_,rfl⟩
    replace Hb:=Lib.hid hb;have Hm2:=Lib.hid hm;have Hp2:=Lib.hid hp
    have hml:m2.length≤k*4096+4096:=by
     rw [← hm]
     have h1:=withAll_len S (T++L.take i) []
     rw [List.length_append,List.length_take,List.length_nil] at h1
     omega
    obtain ⟨A2,c2,rfl,-⟩:=hp
    clear hb hm
    have c0:=HC0.out _ Hb.out
    by_cases hli:i<L.length
    ·
     obtain ⟨b1,o1,rfl,hlb1,d0,d1⟩:=(HR1.out.mono Hb.out).pt hli
     have HTi:=Lib.hid (show T++L.take (i+1)=(T++L.take i)++[L[i]] by rw [List.take_succ_eq_append_getElem hli,List.append_assoc])
     have HPt:=Lib.hid (show Row w3 (some ⟨b1,o1,none⟩) (L.flatMap ptC) from HR1.out.mono Hb.out)
     generalize L[i]=p at *
     have HMp:=Lib.hid (HMt.out p)
     go_wp2_with fail
     refine (HMp.out _ Hb.out).mono ?_
     rintro e w4 ⟨rfl,hb4⟩
     have HB4:=Lib.hid (bT Hb.out hb4)
     have e0:w4.cell? ⟨b1,o1+i*2,none⟩=some (.int .i64 p.x):=keepc hb4 d0
     have e1:w4.cell? ⟨b1,o1+i*2+1,none⟩=some (.int .i64 p.y):=keepc hb4 d1
     have Hp4:=Lib.hid (Pts.mono Hp2.out hb4)
     replace c0:=HC0.out _ HB4.out
     clear hb4 d0 d1
     cases hSp:S p
     ·
      have HG9:=Lib.hid (show withAll S [] (T++L.take (i+1))=m2 by rw [HTi.out,withAll_snoc,hSp,Hm2.out];rfl)
      clear hSp
      go_wp2_with fail
      go_roundw
      case rel => exact ⟨i+1,m2,by omega,by go_num,HB4.out,HG9.out,Hp4.out⟩
      case measure => simp [intOf];omega
     ·
      have HG9:=Lib.hid (show withAll S [] (T++L.take (i+1))=withP p m2 by rw [HTi.out,withAll_snoc,hSp,Hm2.out];rfl)
      clear hSp
      have HWp:=Lib.hid (HWi.out _ m2 p w4 Hp4.out (by omega))
      go_wp2_with fail
      refine HWp.out.mono ?_
      rintro e w5 ⟨A5,c5,rfl,hb5,hp5⟩
      have HB5:=Lib.hid (bT HB4.out hb5)
      have Hp5:=Lib.hid hp5
      clear hb5 hp5 c0 e0 e1
      go_wp2_with fail
      go_roundw
      case rel => exact ⟨i+1,_,by omega,by go_num,HB5.out,HG9.out,Hp5.out⟩
      case measure => simp [intOf];omega
    ·
     have hil:i=L.length:=by omega
     have HG9:=Lib.hid (show withAll S [] (G (k+1))=m2 by rw [HGL.out,← Hm2.out,hil,List.take_length])
     go_wp2_with fail
     go_roundw
     case rel => exact ⟨k+1,m2,by omega,by go_num,Hb.out,HG9.out,Hp2.out⟩
     case measure => simp [intOf];omega
  ·
   have hkn:k=xs.length:=by omega
   have HG9:=Lib.hid (show m=R by rw [← Hm.out,hkn];exact HGe.out)
   obtain ⟨A2,c2,rfl,-⟩:=Hp.out
   go_wp2_with fail
   go_ret2
   rw [← HG9.out]
   exact ⟨A2,c2,rfl,Hb.out,Hp.out⟩
end Go.Proofs.YtpempeioeiaijaaGreat
namespace Go.Proofs.YtpempeioeiaijaaGreat
open Go.RowKit Go.Sort

theorem ltOf_cmpL {α:Type} (f:α→List Pt) (x y:α):ltOf (fun x y=>cmpL (f x) (f y)) x y=lexL (f x) (f y):=by
 unfold ltOf cmpL
 cases h1:lexL (f x) (f y)<;>cases h2:lexL (f y) (f x)<;>simp [h1,h2]
theorem swo_cmpL {α:Type} (f:α→List Pt):SWO (ltOf (fun x y:α=>cmpL (f x) (f y))) where
 irrefl x:=by rw [ltOf_cmpL];exact lexL_irr _
 trans x y z h1 h2:=by rw [ltOf_cmpL] at *;exact lexL_trans h1 h2
 ntrans x y z h1 h2:=by rw [ltOf_cmpL] at *;exact lexL_le_trans h2 h1
theorem llC_len (x:SV×List Pt):(llC x).length=1:=rfl
theorem flat_ll0 (l:List (SV×List Pt)):l.flatMap llC=l.map fun x=>svV x.1:=by
 induction l with
 | nil=>rfl
 | cons a l ih=>rw [List.flatMap_cons,ih];rfl
theorem flat_ll (l:List (SV×List Pt)) (j:Nat):(l.flatMap llC)[j]? = (l[j]?).map (fun x=>svV x.1):=by rw [flat_ll0,List.getElem?_map]
theorem flat_ll_len (l:List (SV×List Pt)):(l.flatMap llC).length=l.length:=by rw [flat_ll0,List.length_map]
def LnKey (w0:World) (x:SV×List Pt):Prop:=Pts w0 (svV x.1) x.2∧x.2.length≤1000000000
def RetSortLn (w:World) (base:Nat) (v:Value) (sl:List (SV×List Pt)) (e:Ending) (w':World):Prop :=
 e=.returned (.tuple #[])∧∃ sl':List (SV×List Pt),sl'.Perm sl∧sl'.Pairwise (fun a b=>lexL b.2 a.2=false)∧Own w' base 25 1 llC v sl'∧w.grownBy w' v.ownBlock
set_option maxHeartbeats 1000000 in
theorem SortLn_spec (w0:World) (base:Nat) (v:Value) (sl:List (SV×List Pt)) (w:World) (hown:Own w base 25 1 llC v sl) (hb0:Below w0.heap.size w0 w) (hbase:w0.heap.size≤base) (hok:∀ x∈sl,LnKey w0 x) (hn:sl.length≤4294967296) :
  Calls Tryz.prog 65 #[v,.func (.func 66) #[] #[]] w (RetSortLn w base v sl):=by
 rcases sl with _ | ⟨s0,rest⟩
 ·
  have hv:∃ p cap,v=.slice p 0 cap:=by
   rcases hown.2 with ⟨h,_⟩ | ⟨g,cap,cur,h,_⟩
   · exact ⟨_,_,h⟩
   · exact ⟨_,_,h⟩
  obtain ⟨p,cap,rfl⟩:=hv
  refine Calls.mono (AnyF.slices_SortFunc_none {Tryz.sortLn with} p cap (.func (.func 66) #[] #[]) w) ?_
  rintro e w' ⟨rfl,rfl⟩
  exact ⟨rfl,[],List.Perm.refl _,List.Pairwise.nil,hown,World.grownBy.refl _ _⟩
 generalize hsl:s0::rest=sl at *
 have hs0:s0∈sl:=by rw [← hsl];simp
 have hpos:0<sl.length:=by rw [← hsl];simp
 obtain ⟨hlen,hown2⟩:=hown
 rcases hown2 with ⟨_,h0⟩ | ⟨g,cap,cur,rfl,hg,hh,hnc,hcm,hcs,hx⟩
 · omega
 haveI hI:Inhabited ({x:SV×List Pt // LnKey w0 x}):=⟨⟨s0,hok s0 hs0⟩⟩
 have hdl:∃ dl:List ({x:SV×List Pt // LnKey w0 x}),dl.map (·.1)=sl:=⟨sl.attachWith (fun s=>LnKey w0 s) hok,by simp;exact List.attach_map_subtype_val sl⟩
 obtain ⟨dl,hdl⟩:=hdl
 have hdn:dl.length=sl.length:=by have:=congrArg List.length hdl;simpa using this
 have hcur:∀ j,j<sl.length→cur[j]? = (sl[j]?).map (fun x=>svV x.1):=fun j hj=>by
  rw [← flat_ll,← hx,List.getElem?_take,if_pos (by omega)];simp
 let enc:{x:SV×List Pt // LnKey w0 x}→Value:=fun x=>svV x.1.1
 have eg:∀ args w,(callFunc 66 args).run Tryz.prog w=.ok (.enter 66 args) w:=enters_of Tryz.func66 (by kernel_rfl) rfl
 have hcmp:CmpLays1 Tryz.prog 66 #[] enc (fun x y=>cmpL x.1.2 y.1.2) g 0 dl.toArray.size w:=fun m os dk hdk x y=>by
  have hg':=sortW_grown enc w g 0 m dk os
  have hb9:Below w0.heap.size w0 _:=bG hb0 hg' (fun q hq=>by have:=Option.some.inj hq;omega)
  exact (CmpLn_spec x.1 y.1 _ (x.2.1.mono hb9) (y.2.1.mono hb9) x.2.2 y.2.2).mono fun e w' h=>⟨h.1,belowD_grow h.2⟩
 have hget:∀ j,j<dl.length→sl[j]? = some (dl.toArray[j]!).1:=fun j hj=>by
  have e1:dl.toArray[j]! = dl[j]:=by rw [getElem!_pos dl.toArray j (by simpa using hj)];simp
  rw [e1]
  have:sl[j]? = (dl.map (·.1))[j]? := by rw [hdl]
  rw [this,List.getElem?_map,List.getElem?_eq_getElem hj];rfl
 have hH:Holds enc w g 0 dl.toArray:=fun j hj=>by
  have hj':j<dl.length:=by simpa using hj
  refine ⟨?_,Blk.frozen (t:=25) (cs:=cur) hh _⟩
  rw [cell_of_row w g _ cur 25 (0,0) hh,Nat.zero_add,hcur j (by omega),hget j hj']
  rfl
 have hcon:=Any.slices_SortFunc Tryz.sortLn enc (fun _=>rfl) (fun x y=>cmpL x.1.2 y.1.2) (swo_cmpL fun x:{x:SV×List Pt // LnKey w0 x}=>x.1.2) 66 #[] g 0 cap dl.toArray w eg hcmp hH (Blk.lt hh) (by simp;omega)
 have hns:dl.toArray.size=sl.length:=by simp [hdn]
 rw [hns] at hcon
 refine Calls.mono hcon ?_
 rintro e w' ⟨rfl,d',n,os,hp,hs,rfl⟩
 obtain ⟨p1,-,p3⟩:=hp
 have hd':d'.size=sl.length:=by rw [p1,hns]
 have hperm:d'.toList.Perm dl:=by
  have e1:d'.extract 0 sl.length=d':=by rw [← hd'];simp
  have e2:dl.toArray.extract 0 sl.length=dl.toArray:=by rw [← hns];simp
  rw [e1,e2] at p3
  simpa using p3
 have hperm2:(d'.toList.map (·.1)).Perm sl:=by
  have h1:(d'.toList.map (·.1)).Perm (dl.map (·.1)):=hperm.map _
  exact h1.trans (List.Perm.of_eq hdl)
 have hsorted:(d'.toList.map (·.1)).Pairwise (fun a b=>lexL b.2 a.2=false):=by
  rw [List.pairwise_map,List.pairwise_iff_getElem]
  intro i j hi hj hij
  have hj':j<d'.size:=by simpa using hj
  have:=hs i j (Nat.zero_le _) hij (by rw [← hd'];exact hj')
  rw [ltOf_cmpL,getElem!_pos d' j hj',getElem!_pos d' i (by omega)] at this
  simpa using this
 refine ⟨rfl,_,hperm2,hsorted,?_,sortW_grown enc w g 0 n d' os⟩
 have hl':(d'.toList.map (·.1)).length=sl.length:=by simp [hd']
 unfold Own
 rw [hl']
 refine ⟨by rw [flat_ll_len,hl'];omega,.inr ⟨g,cap,putCells enc 0 d' cur,rfl,hg,?_,hnc,hcm,by simp [putCells,hcs],?_⟩⟩
 ·
  have hgl:g<w.heap.size:=Blk.lt hh
  rw [sortW_heap,Array.getElem?_append_left (by simpa using hgl),Array.getElem?_modify,if_pos rfl,hh]
  rfl
 ·
  apply List.ext_getElem?
  intro j
  rw [List.getElem?_take]
  by_cases hj:j<sl.length*1
  ·
   rw [if_pos hj]
   have hjc:j<cur.size:=by rw [hcs];omega
   have hjd:j<d'.size:=by rw [hd'];omega
   rw [flat_ll,List.getElem?_map]
   have e1:(putCells enc 0 d' cur).toList[j]? = some (enc d'[j]!):=by
    simp [putCells,hjc,hjd]
   rw [e1,getElem!_pos d' j hjd,Array.getElem?_toList,Array.getElem?_eq_getElem hjd]
   rfl
  · rw [if_neg hj,List.getElem?_eq_none (by rw [flat_ll_len,hl'];omega)]
end Go.Proofs.YtpempeioeiaijaaGreat
namespace Go.Proofs.YtpempeioeiaijaaGreat
open Go.RowKit Go.Sort

theorem elem_ln:Elem Tryz.prog 22 25 1 24:=Elem.mk_ (z:=.slice none 0 0) (by kernel_rfl) (by kernel_rfl) rfl (by omega)
theorem llC_one (x:SV×List Pt):∀ u∈llC x,u.oneCell'=true:=by simp [llC,svV,Value.oneCell']
def RetDv19 (w:World) (L:List (List Pt)) (M:Pt→Bool) (e:Ending) (w':World):Prop :=
 ∃ A c ys,e=.returned (.slice A ys.length c)∧Below w.heap.size w w'∧Own w' w.heap.size 25 1 llC (.slice A ys.length c) ys∧(∀ y∈ys,Pts w (svV y.1) y.2)∧ys.map (·.2)=srtL (L.flatMap (cutL M))
theorem take_step {l:List Pt} {s i:Nat} (hs:s≤i) (hi:i<l.length):(l.drop s).take (i-s)++[l[i]]=(l.drop s).take (i+1-s):=by
 rw [show i+1-s=(i-s)+1 by omega]
 have h:i-s<(l.drop s).length:=by rw [List.length_drop];omega
 rw [List.take_succ_eq_append_getElem h]
 congr 2
 rw [List.getElem_drop]
 congr 1
 omega
theorem take_one {l:List Pt} {i:Nat} (hi:i<l.length):(l.drop i).take (i+1-i)=[l[i]]:=by
 rw [show i+1-i=1 by omega,drop_get l hi];rfl
theorem cutF_hit {M:Pt→Bool} {l:List Pt} {s i:Nat} (hs:s≤i) (hi:i<l.length) (hM:M l[i]=true):cutF M ((l.drop s).take (i-s)) (l.drop i)=(l.drop s).take (i+1-s)::cutF M ((l.drop i).take (i+1-i)) (l.drop (i+1)):=by
 rw [take_one hi,← take_step hs hi,drop_get l hi,cutF,if_pos hM]
theorem cutF_miss {M:Pt→Bool} {l:List Pt} {s i:Nat} (hs:s≤i) (hi:i<l.length) (hM:M l[i]=false):cutF M ((l.drop s).take (i-s)) (l.drop i)=cutF M ((l.drop s).take (i+1-s)) (l.drop (i+1)):=by
 rw [← take_step hs hi,drop_get l hi,cutF,if_neg (by rw [hM];simp)]
theorem cutF_begin (M:Pt→Bool) {l:List Pt} (hi:0<l.length):cutF M ((l.drop 0).take (1-0)) (l.drop 1)=cutL M l:=by
 match l,hi with
 | x::r,_=>rfl

set_option maxRecDepth 100000 in
set_option maxHeartbeats 8000000 in
theorem Divide19_spec (v:Value) (xs:List (SV×List Pt)) (gm n:Nat) (f:Pt→Int) (w:World) (h:Lns19 w v xs) (hg:GoodL (xs.map (·.2))) (hM:MapPN w gm n f) :
  Calls Tryz.prog 35 #[v,.map (some gm)] w (RetDv19 w (xs.map (·.2)) (fun p=>decide (f p≠0))):=by
 have hn:xs.length≤256:=by have:=hg.num;simpa using this
 have hmem:∀ k (hk:k<xs.length),xs[k].2∈xs.map (·.2):=fun k hk=>List.mem_map_of_mem (List.getElem_mem hk)
 have h4:∀ k (hk:k<xs.length),2≤xs[k].2.length∧xs[k].2.length≤4096:=fun k hk=>⟨hg.two _ (hmem k hk),hg.len _ (hmem k hk)⟩
 have hwf:∀ k (hk:k<xs.length),∀ p∈xs[k].2,wfPt p:=fun k hk p hp=>by
  have:=hg.pts _ (hmem k hk) p hp
  unfold ptOk at this
  simp only [Bool.and_eq_true,decide_eq_true_eq] at this
  exact ⟨wfI_of (by omega) (by omega),wfI_of (by omega) (by omega)⟩
 have hLk:∀ k (hk:k<xs.length),(xs.map (·.2)).take (k+1)=(xs.map (·.2)).take k++[xs[k].2]:=fun k hk=>by
  rw [List.take_succ_eq_append_getElem (by simpa using hk)];simp
 have hLn:(xs.map (·.2)).length=xs.length:=by simp
 obtain ⟨M,hMd⟩:∃ M:Pt→Bool,M=fun p=>decide (f p≠0):=⟨_,rfl⟩
 rw [← hMd]
 have HMd:=Lib.hid (fun p=>congrFun hMd p)
 generalize xs.map (·.2)=L at *
 obtain ⟨⟨A,c,rfl,hc1,hc2,hR⟩,hP⟩:=h
 unfold maxLen at hc2
 have HR:=Lib.hid hR;have HP:=Lib.hid hP;have H4:=Lib.hid h4;have HWf:=Lib.hid hwf;have HLk:=Lib.hid hLk;have HLn:=Lib.hid hLn;have HM:=Lib.hid hM;have HG:=Lib.hid hg
 clear hR hP h4 hwf hLk hmem hLn hM hMd hg
 go_enter Tryz.func35,Tryz.ntmps35
 go_upto_block 0 with fail
 go_wp2_with fail
 go_loopw [4,13] (fun z u wr=>∃ (k:Nat) (ys:List (SV×List Pt)),k≤xs.length∧u=.int .i64 k∧Own wr w.heap.size 25 1 llC z ys∧Below w.heap.size w wr∧(∀ y∈ys,Pts w (svV y.1) y.2)∧ys.map (·.2)=(L.take k).flatMap (cutL M)∧ys.length≤k*4096) (fun _ u _=>xs.length-(intOf u).toNat)
 case atStart => exact ⟨0,[],Nat.zero_le _,rfl,Own.nil _ _ _ _ _,bR w,fun y h=>(by cases h),rfl,Nat.le_refl _⟩
 case round =>
  obtain ⟨k,ys,hk,rfl,ho,hb,hrd,hys,hyl⟩:=hrel
  obtain ⟨w2,rfl⟩:∃ w2:World,w2=wr:=⟨_,rfl⟩
  have HO:=Lib.hid ho;have Hb:=Lib.hid hb;have HRd:=Lib.hid hrd;have HYs:=Lib.hid hys
  clear ho hb hrd hys
  by_cases hlt:k<xs.length
  ·
   obtain ⟨b,o,rfl,hlb,c0⟩:=(HR.out.mono Hb.out).ln hlt
   have hPk:=HP.out k hlt
   obtain ⟨A1,c1,hv1,hc3,hc4,hR1⟩:=hPk
   obtain ⟨hl2,hl4⟩:=H4.out k hlt
   have hwl:=HWf.out k hlt
   have hT:=HLk.out k hlt
   rw [hv1] at c0
   have HSl:=Lib.hid (show Sl w (.slice A1 xs[k].2.length c1) xs[k].2.length (xs[k].2.flatMap ptC) from ⟨A1,c1,rfl,hc3,hc4,hR1⟩)
   unfold maxLen at hc4
   clear hv1
   generalize xs[k].2=l at *
   have HT:=Lib.hid (show (L.take (k+1)).flatMap (cutL M)=ys.map (·.2)++cutL M l by rw [hT,List.flatMap_append,HYs.out];simp)
   have HR1:=Lib.hid hR1;have HWl:=Lib.hid hwl
   clear hR1 hwl hT
   go_upto_block 2 with fail
   clear c0 hlb
   go_wp2_with fail
   go_loopw [4,7,8] (fun z t u wr=>∃ (i s:Nat) (zs:List (SV×List Pt)) (Q:List (List Pt)),i≤l.length∧s≤i∧1≤i∧u=.int .i64 i∧t=.int .i64 s∧Own wr w.heap.size 25 1 llC z zs∧Below w.heap.size w wr∧(∀ y∈zs,Pts w (svV y.1) y.2)∧zs.map (·.2)=ys.map (·.2)++Q∧Q++cutF M ((l.drop s).take (i-s)) (l.drop i)=cutL M l∧zs.length≤k*4096+i) (fun _ _ u _=>l.length-(intOf u).toNat)
   case atStart => exact ⟨1,0,ys,[],by omega,by omega,Nat.le_refl _,rfl,rfl,HO.out,Hb.out,HRd.out,by simp,by rw [List.nil_append];exact cutF_begin M (by omega),by omega⟩
   case round =>
    obtain ⟨i,s,zs,Q,hi,hsi,hi1,rfl,rfl,ho,hb,hrd,hzs,hQ,hzl⟩:=hrel
    obtain ⟨w3,rfl⟩:∃ w3:World,w3=wr:=⟨_,rfl⟩
    replace HO:=Lib.hid ho;replace Hb:=Lib.hid hb;replace HRd:=Lib.hid hrd;have HZs:=Lib.hid hzs;have HQ:=Lib.hid hQ
    clear ho hb hrd hzs hQ
    by_cases hli:i<l.length
    ·
     have hfp:=HMd.out l[i]
     have hwp:=HWl.out _ (List.getElem_mem hli)
     obtain ⟨b1,o1,rfl,hlb1,d0,d1⟩:=(HR1.out.mono Hb.out).pt hli
     cases hMi:M l[i]
     ·
      have HQ2:=Lib.hid (show Q++cutF M ((l.drop s).take (i+1-s)) (l.drop (i+1))=cutL M l by rw [← cutF_miss hsi hli hMi];exact HQ.out)
      rw [hMi] at hfp
      clear hMi
      generalize l[i]=p at *
      have hlk:=(HM.out.keep Hb.out).look_ok p hwp
      rw [← hfp] at hlk
      clear hfp
      go_wp2_with fail
      go_roundw
      case rel => exact ⟨i+1,s,zs,Q,by omega,by omega,by omega,by go_num,rfl,HO.out,Hb.out,HRd.out,HZs.out,HQ2.out,by omega⟩
      case measure => simp [intOf];omega
     ·
      have HQ2:=Lib.hid (show (Q++[(l.drop s).take (i+1-s)])++cutF M ((l.drop i).take (i+1-i)) (l.drop (i+1))=cutL M l by rw [List.append_assoc,List.singleton_append,← cutF_hit hsi hli hMi];exact HQ.out)
      rw [hMi] at hfp
      clear hMi
      generalize l[i]=p at *
      have hlk:=(HM.out.keep Hb.out).look_ok p hwp
      rw [← hfp] at hlk
      clear hfp
      have hmid:=Sl.mid_ ptC_len HSl.out s (i+1) (by omega) (by omega)
      have hpl:((l.drop s).take (i+1-s)).length=i+1-s:=by rw [List.length_take,List.length_drop];omega
      obtain ⟨Ac,hAc⟩:∃ Ac,cutA (some ⟨b1,o1,none⟩) c1 s 2=Ac:=⟨_,rfl⟩
      have hcut:=fun W=>run_both (P:=Tryz.prog) Tryz.underlying25 (e:=42) (size:=2) (fun _=>by kernel_rfl) (some ⟨b1,o1,none⟩) l.length c1 s (i+1) (by omega) (by omega) hc3 (s:Int) ((i:Int)+1) rfl (by omega) W
      rw [hAc] at hmid hcut
      obtain ⟨pc,hpc⟩:∃ pc,(l.drop s).take (i+1-s)=pc:=⟨_,rfl⟩
      rw [hpc] at hmid hpl HQ2
      obtain ⟨N1,hN1⟩:∃ N1,i+1-s=N1:=⟨_,rfl⟩
      obtain ⟨C1,hC1⟩:∃ C1,c1-s=C1:=⟨_,rfl⟩
      rw [hN1,hC1] at hcut hmid
      rw [hN1] at hpl
      have HMid:=Lib.hid (show Pts w (svV ⟨Ac,N1,C1⟩) pc from hmid)
      have hwr:IntKind.i64.wrap ((i:Int)+1)=(i:Int)+1:=IntWalk.i64_in _ (by omega)
      have hb3:=Hb.out.size
      clear hmid hpc hN1 hC1 hAc
      go_wp2_with
       (at_builtin
        refine wpList_appl _ rfl (.tmp 33) (.tmp 39) _ rfl (base:=w.heap.size) elem_ln llC_len llC_one rfl (HO.out.alloc _) rfl (l2:=[((⟨Ac,N1,C1⟩:SV),pc)]) (Sl.lit (n:=1) (Blk.made (by simp) _ _) rfl (le_maxLen (by omega))) (by simp only [List.length_cons,List.length_nil];omega) (by simp only [List.length_cons,List.length_nil];omega) (by simp;omega) ?_
        intro v1 w1 ho1 hg1 hat1
        have HO1:=Lib.hid ho1
        have HB1:=Lib.hid (show Below w.heap.size w w1 from bG (w:=w) (bA Hb.out _) hg1 (fun q hq=>(HO.out.lt q hq).1))
        clear ho1 hg1 hat1)
      go_roundw
      case rel => exact ⟨i+1,i,_,Q++[pc],by omega,by omega,by omega,by go_num,rfl,HO1.out,HB1.out,fun y hy=>by
        rcases List.mem_append.1 hy with h | h
        · exact HRd.out y h
        · rw [List.mem_singleton.1 h];exact HMid.out,by rw [List.map_append,HZs.out,List.append_assoc];rfl,HQ2.out,by simp only [List.length_append,List.length_cons,List.length_nil];omega⟩
      case measure => simp [intOf];omega
    ·
     have hil:i=l.length:=by omega
     subst hil
     have HQ2:=Lib.hid (show Q=cutL M l by
      have h9:=HQ.out
      rw [List.drop_length] at h9
      simpa [cutF] using h9)
     go_wp2_with fail
     go_roundw
     case rel => exact ⟨k+1,zs,by omega,by go_num,HO.out,Hb.out,HRd.out,by rw [HT.out,HZs.out,HQ2.out],by omega⟩
     case measure => simp [intOf];omega
  ·
   have hkn:k=xs.length:=by omega
   subst hkn
   have hB9:=HYs.out
   rw [List.take_of_length_le (by rw [HLn.out];exact Nat.le_refl _)] at hB9
   have HYs9:=Lib.hid hB9
   have hok:∀ y∈ys,LnKey w y:=fun y hy=>⟨HRd.out y hy,by
    have h1:y.2∈L.flatMap (cutL M):=by rw [← HYs9.out];exact List.mem_map_of_mem hy
    obtain ⟨l,hl,hq⟩:=List.mem_flatMap.1 h1
    have h2:=HG.out.two l hl
    have h3:=HG.out.len l hl
    obtain ⟨x,r,rfl,-⟩:=two_split h2
    have h5:=(cutF_infix M r [x] y.2 hq).length_le
    simp only [List.singleton_append] at h5
    omega⟩
   clear hB9 HYs
   go_wp2_with fail
   refine (SortLn_spec w w.heap.size _ ys _ HO.out Hb.out (Nat.le_refl _) hok (by omega)).mono ?_
   rintro e w9 ⟨rfl,sl,hp,hs,ho9,hg9⟩
   have HFin:=Lib.hid (show sl.map (·.2)=srtL (L.flatMap (cutL M)) from srtL_eq ((hp.map (·.2)).trans (List.Perm.of_eq HYs9.out)) (by rw [List.pairwise_map];exact hs))
   have HRd9:=Lib.hid (show ∀ y∈sl,Pts w (svV y.1) y.2 from fun y hy=>HRd.out y (hp.mem_iff.1 hy))
   have HB9:=Lib.hid (show Below w.heap.size w w9 from bG (w:=w) Hb.out hg9 (fun q hq=>(HO.out.lt q hq).1))
   have HO9:=Lib.hid ho9
   clear hp hs hg9 ho9 hok
   go_wp2_with fail
   obtain ⟨A9,c9,hv9,-⟩:=Own.shape HO9.out
   subst hv9
   go_ret
   exact ⟨A9,c9,sl,rfl,HB9.out,HO9.out,HRd9.out,HFin.out⟩
end Go.Proofs.YtpempeioeiaijaaGreat
namespace Go.Proofs.YtpempeioeiaijaaGreat
open Go.RowKit Go.Sort

theorem Long19_spec (x:SV×List Pt) (w:World) (h:Pts w (svV x.1) x.2) (hl:x.2.length≤1000000):Calls Tryz.prog 36 #[svV x.1] w fun e w'=>e=.returned (.bool (decide (66<x.2.length)))∧Below w.heap.size w w':=by
 obtain ⟨A,c,hv,-⟩:=h
 rw [hv]
 generalize x.2.length=n at *
 have hwr:IntKind.i64.wrap ((n:Int)-2)=(n:Int)-2:=IntWalk.i64_in _ (by omega)
 clear hv
 go_enter Tryz.func36,Tryz.ntmps36
 go_wp2_with fail
 go_ret
 refine ⟨ret_bool (by rw [Bool.eq_iff_iff];simp only [decide_eq_true_eq];omega),bR w⟩

set_option maxRecDepth 100000 in
set_option maxHeartbeats 1000000 in
theorem Idx19_spec (v:Value) (xs:List (SV×List Pt)) (w:World) (h:Lns19 w v xs) (hn:xs.length≤1000000) (hl:∀ k (hk:k<xs.length),xs[k].2.length≤1000000) :
  Calls Tryz.prog 68 #[v,.func (.func 36) #[] #[]] w (IdxRes w (xs.any fun x=>decide (66<x.2.length))):=by
 obtain ⟨⟨A,c,rfl,hc1,hc2,hR⟩,hP⟩:=h
 unfold maxLen at hc2
 have HR:=Lib.hid hR
 have HG:=Lib.hid (fun k (hk:k<xs.length) W (hW:Below w.heap.size w W)=>Long19_spec xs[k] W ((hP k hk).mono hW) (hl k hk))
 clear hR hP hl
 go_enter Tryz.func68,Tryz.ntmps68
 go_wp2_with fail
 go_loopw [8] (fun i wr=>∃ k:Nat,k≤xs.length∧i=.int .i64 k∧Below w.heap.size w wr∧∀ j (hj:j<xs.length),j<k→decide (66<xs[j].2.length)=false) (fun i _=>xs.length-(intOf i).toNat)
 case atStart => exact ⟨0,Nat.zero_le _,rfl,bR w,fun j _ h=>by omega⟩
 case round =>
  obtain ⟨k,hk,rfl,hb,hno⟩:=hrel
  obtain ⟨w2,rfl⟩:∃ w2:World,w2=wr:=⟨_,rfl⟩
  have Hb:=Lib.hid hb
  have Hno:=Lib.hid hno
  clear hb hno
  by_cases hlt:k<xs.length
  ·
   obtain ⟨b,o,rfl,hlb,c0⟩:=(HR.out.mono Hb.out).ln hlt
   have HGk:=HG.out k hlt
   unfold svV at c0 HGk
   have HGk2:=Lib.hid HGk
   clear HGk
   go_wp2_with fail
   refine (HGk2.out _ Hb.out).mono ?_
   rintro e w1 ⟨rfl,hb1⟩
   have Bw:Below w.heap.size w w1:=bT Hb.out hb1
   clear hb1 c0 hlb
   cases he:decide (66<xs[k].2.length)
   ·
    have He:=Lib.hid he
    clear he
    go_wp2_with fail
    go_roundw
    case rel => exact ⟨k+1,by omega,by go_num,Bw,all_succ (p:=fun y:SV×List Pt=>decide (66<y.2.length)=false) Hno.out hlt He.out⟩
    case measure => simp [intOf];omega
   ·
    have hf:=Lib.hid (any_hit xs (fun x=>decide (66<x.2.length)) k hlt he)
    clear he
    go_wp2_with fail
    go_ret
    exact ⟨k,rfl,by rw [hf.out];simp,Bw⟩
  ·
   have hf:=Lib.hid (any_miss xs (fun x=>decide (66<x.2.length)) (fun j hj=>Hno.out j hj (by omega)))
   go_wp2_with fail
   go_ret
   exact ⟨-1,rfl,by rw [hf.out];simp,Hb.out⟩
theorem Cont19_spec (v:Value) (xs:List (SV×List Pt)) (w:World) (h:Lns19 w v xs) (hn:xs.length≤1000000) (hl:∀ k (hk:k<xs.length),xs[k].2.length≤1000000) :
  Calls Tryz.prog 37 #[v,.func (.func 36) #[] #[]] w fun e w'=>e=.returned (.bool (xs.any fun x=>decide (66<x.2.length)))∧Below w.heap.size w w':=by
 have HT:=Lib.hid (Idx19_spec v xs w h hn hl)
 generalize (xs.any fun x=>decide (66<x.2.length))=q at *
 clear h hn hl
 go_enter Tryz.func37,Tryz.ntmps37
 go_wp2_with fail
 refine HT.out.mono ?_
 rintro e w1 ⟨r,rfl,hr,hb1⟩
 have Hr:=Lib.hid hr;clear hr
 go_wp2_with fail
 go_ret
 exact ⟨ret_bool Hr.out,hb1⟩
theorem numP_out {l:List Pt} {q:Pt} (h:q∉l):numP l q=0:=by
 induction l with
 | nil=>rfl
 | cons a l ih =>
  have h1:¬ a=q:=fun e=>h (by rw [e];exact List.mem_cons_self)
  unfold numP
  rw [if_neg h1,ih (fun h'=>h (List.mem_cons_of_mem _ h'))]
  rfl
theorem numP_snoc {l:List Pt} {p:Pt} (h:p∉l):(fun q=>if q=p then (l.length:Int)+1 else numP l q)=numP (l++[p]):=by
 funext q
 induction l with
 | nil =>
  by_cases e:q=p
  · subst e;simp [numP]
  ·
   have e':¬ p=q:=fun h'=>e h'.symm
   simp [numP,e,e']
 | cons a l ih =>
  have hp:p∉l:=fun h'=>h (List.mem_cons_of_mem _ h')
  have ha:¬ a=p:=fun e=>h (by rw [e];exact List.mem_cons_self)
  have:=ih hp
  rw [List.cons_append]
  unfold numP
  rw [← this]
  by_cases e:q=p
  ·
   subst e
   rw [if_pos rfl,if_pos rfl,if_neg ha]
   have h9:¬ ((l.length:Int)+1=0):=by omega
   simp only [List.length_cons,h9,if_false]
   omega
  · rw [if_neg e,if_neg e]
theorem numP_ne {l:List Pt} {q:Pt}:numP l q≠0↔q∈l:=by
 constructor
 ·
  intro h
  exact Decidable.byContradiction fun h'=>h (numP_out h')
 ·
  intro h
  obtain ⟨k,-,h1,-⟩:=numP_mem h
  omega
theorem numP_bd (l:List Pt) (q:Pt):0≤numP l q∧numP l q≤l.length:=by
 by_cases h:q∈l
 ·
  obtain ⟨k,hk,h1,-⟩:=numP_mem h
  omega
 · rw [numP_out h];omega
end Go.Proofs.YtpempeioeiaijaaGreat
namespace Go.Proofs.YtpempeioeiaijaaGreat
open Go.RowKit Go.Sort

theorem PlV.zeroE (w:World):PlV w plan0 plE:=by
 refine ⟨_,_,_,[],rfl,rfl,Sl.nil w,⟨Sl.nil w,fun k hk=>by simp at hk⟩,Sl.nil w⟩
def RetBld (w:World) (L:List (List Pt)) (e:Ending) (w':World):Prop:=∃ v,e=.returned (.tuple #[v,.int .i64 (bldZ L)])∧Below w.heap.size w w'∧PlV w' v (bldP L)
theorem RetBld.bad {w w':World} {L:List (List Pt)} {z:Int} (hz:bldZ L=z) (h0:z≠0) (hb:Below w.heap.size w w'):RetBld w L (.returned (.tuple #[plan0,.int .i64 z])) w' :=
 ⟨plan0,by rw [hz],hb,by unfold bldP;rw [if_neg (by rw [hz];exact h0)];exact PlV.zeroE _⟩

set_option maxRecDepth 100000 in
set_option maxHeartbeats 4000000 in
theorem Build19_bad (v:Value) (xs:List (SV×List Pt)) (w:World) (h:Lns19 w v xs) (hn:xs.length≤1000000) (hs:∀ k (hk:k<xs.length),xs[k].2.length≤1000000) (hz:chkL (xs.map (·.2))≠0) :
  Calls Tryz.prog 18 #[v] w (RetBld w (xs.map (·.2))):=by
 have HC:=Lib.hid (fun W (hW:Below w.heap.size w W)=>Points19_bad v xs W (h.mono hW) hn hs hz)
 have hb:bldZ (xs.map (·.2))=chkL (xs.map (·.2)):=by unfold bldZ;rw [if_pos hz]
 have HZ:=Lib.hid hb
 obtain ⟨⟨A,c,rfl,-⟩,-⟩:=h
 generalize xs.map (·.2)=L at *
 generalize chkL L=z at *
 have hz':(z != 0)=true:=by simpa using hz
 have Hz:=Lib.hid hz
 clear hz hb
 go_enter Tryz.func18,Tryz.ntmps18
 go_upto_region 1 with fail
 obtain ⟨W1,hW⟩:∃ W:World,W=w.alloc (.cells #[.slice none 0 0,.slice none 0 0,.slice none 0 0] 34):=⟨_,rfl⟩
 have X2:Blk W1 w.heap.size 34 #[.slice none 0 0,.slice none 0 0,.slice none 0 0]:=by rw [hW];exact Blk.made rfl _ _
 have HB1:=Lib.hid (show Below w.heap.size w W1 by rw [hW];exact bA (bR w) _)
 have HX2:=Lib.hid X2
 rw [← hW]
 clear hW X2
 go_wp2_with fail
 refine (HC.out _ HB1.out).mono ?_
 rintro e w2 ⟨rfl,hb2⟩
 have HB2:=Lib.hid (bT HB1.out hb2)
 have HX3:=Lib.hid (HX2.out.keep hb2)
 have X3:=HX3.out
 clear hb2
 obtain ⟨X3l,X3a,X3b,X3c,X3fa,X3fb,X3fc⟩:=X3.facts3
 go_wp2_with fail
 refine res_cell_tmp (g:=w.heap.size) (cs:=#[.slice none 0 0,.slice none 0 0,.slice none 0 0]) rfl struct_pl rfl rfl (Blk.put3 HX3.out) ?_
 exact RetBld.bad HZ.out Hz.out (bS (p:=⟨w.heap.size,2,none⟩) (bS (p:=⟨w.heap.size,1,none⟩) (bS (p:=⟨w.heap.size,0,none⟩) HB2.out (Nat.le_refl _) _) (Nat.le_refl _) _) (Nat.le_refl _) _)
end Go.Proofs.YtpempeioeiaijaaGreat
