import Derived.Test.YtpempeioeiaijaaGreatJ28
import Derived.Test.YtpempeioeiaijaaGreatJ03
import Derived.Test.YtpempeioeiaijaaGreatIntWI
import Derived.Test.YtpempeioeiaijaaGreatJ26
set_option linter.unusedSimpArgs false
set_option linter.unusedVariables false
namespace Go.Proofs.YtpempeioeiaijaaGreat
open Go.RowKit Go.Sort

structure LnsO (w:World) (B:Nat) (v:Value) (ys:List (SV×List Pt)):Prop where
 own:Own w B 25 1 llC v ys
 rd:∀ y∈ys,Own w B 42 2 ptC (svV y.1) y.2
theorem LnsO.keep {w w':World} {B:Nat} {v:Value} {ys:List (SV×List Pt)} (h:LnsO w B v ys) (hb:Below w.heap.size w w'):LnsO w' B v ys:=⟨h.own.keep hb,fun y hy=>(h.rd y hy).keep hb⟩
theorem LnsO.lns {w:World} {B:Nat} {v:Value} {ys:List (SV×List Pt)} (h:LnsO w B v ys):Lns19 w v ys:=⟨Sl.of_own h.own,fun k hk=>Sl.of_own (h.rd _ (List.getElem_mem hk))⟩
def RetLns (w:World) (L:List (List Pt)) (e:Ending) (w':World):Prop :=
 ∃ A c ys,e=.returned (.slice A ys.length c)∧Below w.heap.size w w'∧LnsO w' w.heap.size (.slice A ys.length c) ys∧ys.map (·.2)=L
theorem filterMap_take {α β:Type} (f:α→Option β) {l:List α} {k:Nat} (hk:k<l.length):(l.take (k+1)).filterMap f=(l.take k).filterMap f++(f l[k]).toList:=by
 rw [List.take_succ_eq_append_getElem hk,List.filterMap_append]
 congr 1

set_option maxRecDepth 100000 in
set_option maxHeartbeats 8000000 in
theorem Lines19_spec (v:Value) (p:Pl) (w:World) (h:PlV w v p) (hsh:Short p) (hn:p.arcs.length≤1000000):Calls Tryz.prog 16 #[v] w (RetLns w (linesS p)):=by
 have HPt:=Lib.hid (fun id W (hW:Below w.heap.size w W)=>Path_spec v p id W (h.mono hW) hsh)
 obtain ⟨_,_,_,al,rfl,hpa,⟨An,cn,rfl,-⟩,⟨⟨Aa,ca,rfl,hm1,hm2,hRa⟩,hVi⟩,⟨Af,cf,rfl,-⟩⟩:=h
 unfold maxLen at hm2
 have hal:al.length≤1000000:=by rw [hpa,List.length_map] at hn;exact hn
 have hlk:∀ k (hk:k<al.length),(p.arcs.take (k+1)).filterMap (fun a=>pathOf p a.id)=(p.arcs.take k).filterMap (fun a=>pathOf p a.id)++(pathOf p al[k].1.id).toList:=fun k hk=>by
  have h1:k<p.arcs.length:=by rw [hpa,List.length_map];exact hk
  rw [filterMap_take _ h1]
  have h2:p.arcs[k]=al[k].1:=by simp only [hpa,List.getElem_map]
  rw [h2]
 have hend:(p.arcs.take al.length).filterMap (fun a=>pathOf p a.id)=linesS p:=by
  unfold linesS
  rw [List.take_of_length_le (by rw [hpa,List.length_map];exact Nat.le_refl _)]
 have HLk:=Lib.hid hlk;have HEnd:=Lib.hid hend;have HRa:=Lib.hid hRa;have HVi:=Lib.hid hVi
 obtain ⟨G,hG⟩:∃ G:Nat→List (List Pt),G=fun k=>(p.arcs.take k).filterMap (fun a=>pathOf p a.id):=⟨_,rfl⟩
 have HGk:=Lib.hid (show ∀ k (hk:k<al.length),G (k+1)=G k++(pathOf p al[k].1.id).toList from fun k hk=>by rw [hG];exact hlk k hk)
 have HG0:=Lib.hid (show G 0=[] by rw [hG];rfl)
 have HGe:=Lib.hid (show G al.length=linesS p by rw [hG];exact hend)
 generalize p.nodes.length=nn at *
 generalize p.faces.length=nf at *
 generalize linesS p=LL at *
 clear hpa hRa hVi hsh hlk hend hG HLk HEnd hn
 go_enter Tryz.func16,Tryz.ntmps16
 go_upto_region 1 with fail
 obtain ⟨W1,hW⟩:∃ W1:World,W1=w.alloc (.cells #[.slice An nn cn,.slice Aa al.length ca,.slice Af nf cf] 34):=⟨_,rfl⟩
 have X1:Blk W1 w.heap.size 34 #[.slice An nn cn,.slice Aa al.length ca,.slice Af nf cf]:=by rw [hW];exact Blk.made rfl _ _
 have HB1:=Lib.hid (show Below w.heap.size w W1 by rw [hW];exact bA (bR w) _)
 have HX1:=Lib.hid X1
 rw [← hW]
 clear hW
 obtain ⟨X1l,X1a,X1b,X1c,-,-,-⟩:=X1.facts3
 go_upto_block 0 with fail
 clear X1 X1l X1a X1b X1c
 go_wp2_with fail
 go_loopw [2,10] (fun z u wr=>∃ (k:Nat) (ys:List (SV×List Pt)),k≤al.length∧u=.int .i64 k∧LnsO wr w.heap.size z ys∧Blk wr w.heap.size 34 #[.slice An nn cn,.slice Aa al.length ca,.slice Af nf cf]∧Below w.heap.size w wr∧ys.map (·.2)=G k∧ys.length≤k) (fun _ u _=>al.length-(intOf u).toNat)
 case atStart => exact ⟨0,[],Nat.zero_le _,rfl,⟨Own.nil _ _ _ _ _,fun y hy=>(by cases hy)⟩,HX1.out,HB1.out,HG0.out.symm,Nat.le_refl _⟩
 case round =>
  obtain ⟨k,ys,hk,rfl,ho,hx,hb,hys,hyl⟩:=hrel
  obtain ⟨wo,rfl⟩:∃ wo:World,wo=wr:=⟨_,rfl⟩
  have HO:=Lib.hid ho;have HX:=Lib.hid hx;have Hb:=Lib.hid hb;have HYs:=Lib.hid hys
  clear ho hx hb hys HX1 HB1
  by_cases hlt:k<al.length
  ·
   obtain ⟨b,o,rfl,hlb,c0,c1,c2,c3,c4,c5⟩:=(Row.mono HRa.out Hb.out).ar hlt
   obtain ⟨Av,cv,hvv,-⟩:=HVi.out k hlt
   rw [hvv] at c3
   have hGk:=HGk.out k hlt
   have hpt:=HPt.out al[k].1.id
   clear hvv
   generalize al[k].1=a at *
   obtain ⟨aid,afr,adst,avia,aleft,aright⟩:=a
   simp only at c0 c1 c2 c3 c4 c5 hpt hGk
   generalize avia.length=vn at *
   generalize pathOf p aid=r at *
   have HPk:=Lib.hid hpt;have HG1:=Lib.hid hGk
   clear hpt hGk
   go_upto_region 4 with fail
   obtain ⟨W5,hW⟩:∃ W:World,W=wo.alloc (.cells #[.int .i64 aid,.int .i64 afr,.int .i64 adst,.slice Av vn cv,.int .i64 aleft,.int .i64 aright] 50):=⟨_,rfl⟩
   have HA:=Lib.hid (show Below wo.heap.size wo W5 by rw [hW];exact bA (bR wo) _)
   have X5:Blk W5 wo.heap.size 50 #[.int .i64 aid,.int .i64 afr,.int .i64 adst,.slice Av vn cv,.int .i64 aleft,.int .i64 aright]:=by rw [hW];exact Blk.made rfl _ _
   rw [← hW]
   clear hW c0 c1 c2 c3 c4 c5 hlb
   have X1:=HX.out.keep HA.out
   obtain ⟨X5l,X5a,X5b,X5c,X5d,X5e,X5f,-,-,-,-,-,-⟩:=X5.facts6
   try clear X1l
   try clear X1a
   try clear X1b
   try clear X1c
   obtain ⟨X1l,X1a,X1b,X1c,-,-,-⟩:=X1.facts3
   go_wp2_with fail
   refine (HPk.out _ (bT Hb.out HA.out)).mono ?_
   rintro e w6 ⟨A6,c6,rfl,hb6,ho6⟩
   have HB6:=Lib.hid (bT HA.out hb6)
   have HB6':=Lib.hid (bT Hb.out HB6.out)
   have HO6:=Lib.hid (HO.out.keep HB6.out)
   have HX6:=Lib.hid (HX.out.keep HB6.out)
   have HP6:=Lib.hid (ho6.mono_base (b':=w.heap.size) (bT Hb.out HA.out).size)
   have hz6:=HB6'.out.size
   clear hb6 ho6 X1 X1l X1a X1b X1c X5 X5l X5a X5b X5c X5d X5e X5f HPk
   cases r with
   | none =>
    simp only [Option.isSome_none,Bool.false_eq_true,if_false,Option.getD_none]
    go_wp2_with fail
    go_roundw
    case rel => exact ⟨k+1,ys,by omega,by go_num,HO6.out,HX6.out,HB6'.out,by rw [HG1.out,HYs.out];simp,by omega⟩
    case measure => simp [intOf];omega
   | some q =>
    simp only [Option.isSome_some,if_true,Option.getD_some] at HP6 ⊢
    obtain ⟨N,hN⟩:∃ N,q.length=N:=⟨_,rfl⟩
    rw [hN] at HP6 ⊢
    have HN:=Lib.hid hN
    clear hN
    go_wp2_with
     (at_builtin
      refine wpList_appl _ rfl (.tmp 23) (.tmp 25) _ rfl (base:=w.heap.size) elem_ln llC_len llC_one rfl (HO6.out.own.alloc _) rfl (l2:=[((⟨A6,N,c6⟩:SV),q)]) (Sl.lit (n:=1) (Blk.made (by simp) _ _) rfl (le_maxLen (by omega))) (by simp only [List.length_cons,List.length_nil];omega) (by simp only [List.length_cons,List.length_nil];omega) (by simp;omega) ?_
      intro v1 w1 ho1 hg1 hat1
      have HO1:=Lib.hid (show LnsO w1 w.heap.size v1 (ys++[((⟨A6,N,c6⟩:SV),q)]) from ⟨ho1,fun y hy=>by
       have key:∀ y:SV×List Pt,Own w6 w.heap.size 42 2 ptC (svV y.1) y.2→Own w1 w.heap.size 42 2 ptC (svV y.1) y.2:=fun y h =>
        Own.grown (h.alloc _) hg1 (Own.apart h HO6.out.own (by decide))
       rcases List.mem_append.1 hy with h | h
       · exact key y (HO6.out.rd y h)
       · rw [List.mem_singleton.1 h];exact key _ HP6.out⟩)
      have HX1:=Lib.hid ((HX6.out.alloc _).grown hg1 (fun e=>(Own.ne_blk HO6.out.own HX6.out (by decide)) e.symm))
      have HB1:=Lib.hid (show Below w.heap.size w w1 from bG (w:=w) (bA HB6'.out _) hg1 (fun q hq=>(HO6.out.own.lt q hq).1))
      clear ho1 hg1 hat1)
    go_roundw
    case rel => exact ⟨k+1,_,by omega,by go_num,HO1.out,HX1.out,HB1.out,by rw [List.map_append,HYs.out,HG1.out];rfl,by simp only [List.length_append,List.length_cons,List.length_nil];omega⟩
    case measure => simp [intOf];omega
  ·
   have hkn:k=al.length:=by omega
   subst hkn
   have hX:=HX.out
   go_wp2_with fail
   obtain ⟨A9,c9,hv9,-⟩:=Own.shape HO.out.own
   subst hv9
   go_ret
   exact ⟨A9,c9,ys,rfl,Hb.out,HO.out,by rw [HYs.out,HGe.out]⟩
end Go.Proofs.YtpempeioeiaijaaGreat
namespace Go.Proofs.YtpempeioeiaijaaGreat
open Go.RowKit Go.Sort

def sum19 (L:List (List Pt)):Nat:=(L.map fun l=>min l.length 71).sum
def light19S (L:List (List Pt)):Bool:=decide (L.length≤14) && decide (sum19 (L.take 15)≤70)
theorem sum19_mem {L:List (List Pt)} {l:List Pt} (h:l∈L):min l.length 71≤sum19 L:=by
 unfold sum19
 induction L with
 | nil=>cases h
 | cons a L ih =>
  rw [List.map_cons,List.sum_cons]
  rcases List.mem_cons.1 h with rfl | h
  · omega
  · have:=ih h;omega
theorem light_bd {L:List (List Pt)} (h:light19S L=true):L.length≤14∧∀ l∈L,l.length≤70:=by
 unfold light19S at h
 simp only [Bool.and_eq_true,decide_eq_true_eq] at h
 refine ⟨h.1,fun l hl=>?_⟩
 have h2:=h.2
 rw [List.take_of_length_le (by omega)] at h2
 have:=sum19_mem hl
 omega
theorem sum19_take {α:Type} (f:α→List Pt) {xs:List α} {k:Nat} (hk:k<xs.length):sum19 ((xs.take (k+1)).map f)=sum19 ((xs.take k).map f)+min (f xs[k]).length 71:=by
 rw [List.take_succ_eq_append_getElem hk]
 unfold sum19
 rw [List.map_append,List.map_append,List.sum_append]
 simp only [List.map_cons,List.map_nil,List.sum_cons,List.sum_nil,Nat.add_zero]
theorem sum19_le {α:Type} (f:α→List Pt) (xs:List α):sum19 (xs.map f)≤xs.length*71:=by
 unfold sum19
 induction xs with
 | nil=>simp
 | cons a L ih=>simp only [List.map_cons,List.sum_cons,List.length_cons] at ih ⊢;omega

set_option maxRecDepth 100000 in
set_option maxHeartbeats 2000000 in
theorem Light19_spec (v:Value) (xs:List (SV×List Pt)) (w:World) (h:Lns19 w v xs):Calls Tryz.prog 10 #[v] w fun e w'=>e=.returned (.bool (light19S (xs.map (·.2))))∧Below w.heap.size w w':=by
 have hL:light19S (xs.map (·.2))=(decide (xs.length≤14) && decide (sum19 ((xs.take 15).map (·.2))≤70)):=by
  unfold light19S
  rw [List.length_map,← List.map_take]
 obtain ⟨⟨A,c,rfl,hc1,hc2,hR⟩,hP⟩:=h
 unfold maxLen at hc2
 have HR:=Lib.hid hR;have HP:=Lib.hid hP
 obtain ⟨q,hq⟩:∃ q,light19S (xs.map (·.2))=q:=⟨_,rfl⟩
 rw [hq]
 rw [hq] at hL
 have Hq:=Lib.hid hL
 clear hR hP hL hq
 go_enter Tryz.func10,Tryz.ntmps10
 go_upto_block 0 with fail
 go_wp2_with fail
 go_loopw [3,4] (fun z u wr=>∃ k:Nat,k≤xs.length∧k≤15∧u=.int .i64 k∧z=.int .i64 (sum19 ((xs.take k).map (·.2)):Nat)∧w=wr) (fun _ u _=>15-(intOf u).toNat)
 case atStart => exact ⟨0,Nat.zero_le _,by omega,rfl,rfl,rfl⟩
 case round =>
  obtain ⟨k,hk,hk15,rfl,rfl,rfl⟩:=hrel
  have hsb:sum19 ((xs.take k).map (·.2))≤k*71:=by
   have:=sum19_le (fun x:SV×List Pt=>x.2) (xs.take k)
   rw [List.length_take] at this
   have h9:=Nat.mul_le_mul_right 71 (Nat.min_le_left k xs.length)
   omega
  by_cases hlt:k<xs.length∧k<15
  ·
   obtain ⟨h1,h2⟩:=hlt
   obtain ⟨b,o,rfl,hlb,c0⟩:=HR.out.ln h1
   obtain ⟨A1,c1,hv1,hc3,hc4,-⟩:=HP.out k h1
   rw [hv1] at c0
   unfold maxLen at hc4
   have HT:=Lib.hid (sum19_take (fun x:SV×List Pt=>x.2) h1)
   generalize sum19 ((xs.take k).map (·.2))=S at *
   clear hv1
   generalize xs[k].2.length=m at *
   have z1:(k:Int)<xs.length:=by omega
   go_wp2_with fail
   go_roundw
   case rel => exact ⟨k+1,by omega,by omega,by go_num,by rw [HT.out];congr 1;omega,trivial⟩
   case measure => simp [intOf];omega
  ·
   have hkk:(xs.take 15).map (·.2)=(xs.take k).map (·.2):=by
    by_cases h15:k=15
    · rw [h15]
    ·
     have:k=xs.length:=by omega
     rw [List.take_of_length_le (by omega),List.take_of_length_le (by omega)]
   have HKk:=Lib.hid (congrArg sum19 hkk)
   generalize sum19 ((xs.take k).map (·.2))=S at *
   clear hkk
   go_wp2_with fail
   all_goals
    go_ret
    refine ⟨ret_bool ?_,bR _⟩
    rw [Hq.out,HKk.out,Bool.eq_iff_iff]
    simp only [Bool.and_eq_true,decide_eq_true_eq,Bool.false_eq_true,false_iff,true_iff]
    omega

def ex1:List (List Pt):=[[⟨0,0⟩,⟨5,0⟩,⟨9,0⟩],[⟨5,0⟩,⟨5,5⟩]]
def ex2:List (List Pt):=[[⟨0,0⟩,⟨4,0⟩,⟨4,4⟩,⟨0,0⟩]]
def ex3:List (List Pt):=[[⟨0,0⟩,⟨9,0⟩],[⟨5,0⟩,⟨5,5⟩]]
theorem ex1_meet:meetL ex1=[⟨0,0⟩,⟨5,0⟩,⟨5,5⟩,⟨9,0⟩]:=by decide +kernel
theorem ex1_chk:chkL ex1=0:=by decide +kernel
theorem ex2_chk:chkL ex2=0:=by decide +kernel
theorem ex3_chk:chkL ex3=0:=by decide +kernel
theorem ex1_bld:bldZ ex1=0:=by decide +kernel
theorem ex2_bld:bldZ ex2=0:=by decide +kernel
theorem ex3_bld:bldZ ex3=11:=by decide +kernel
theorem ex1_lens:(bldP ex1).nodes.length=4∧(bldP ex1).arcs.length=3∧(bldP ex1).faces.length=0:=by decide +kernel
theorem ex1_lines:linesS (bldP ex1)=[[⟨0,0⟩,⟨5,0⟩],[⟨5,0⟩,⟨5,5⟩],[⟨5,0⟩,⟨9,0⟩]]:=by decide +kernel
theorem ex2_arcs:(bldP ex2).arcs.map (fun a=>(a.left,a.right))=[(1,0)]:=by decide +kernel
end Go.Proofs.YtpempeioeiaijaaGreat
namespace Go.Proofs.YtpempeioeiaijaaGreat
open Go.RowKit Go.Sort

theorem Lns19.two {w:World} {g0 g1 g2 n m c d:Nat} {t:TypeId} {l l':List Pt} (h:Blk w g2 t #[.slice (some ⟨g0,0,none⟩) n c,.slice (some ⟨g1,0,none⟩) m d]) (h0:Pts w (.slice (some ⟨g0,0,none⟩) n c) l) (h1:Pts w (.slice (some ⟨g1,0,none⟩) m d) l') :
  Lns19 w (.slice (some ⟨g2,0,none⟩) 2 2) [(⟨some ⟨g0,0,none⟩,n,c⟩,l),(⟨some ⟨g1,0,none⟩,m,d⟩,l')] :=
 ⟨Sl.lit (n:=2) h rfl (le_maxLen (by omega)),fun k hk=>by
  match k,hk with
  | 0,_=>exact h0
  | 1,_=>exact h1⟩
theorem Lns19.one {w:World} {g2 n c:Nat} {A:Option Addr} {t:TypeId} {l:List Pt} (h:Blk w g2 t #[.slice A n c]) (h0:Pts w (.slice A n c) l):Lns19 w (.slice (some ⟨g2,0,none⟩) 1 1) [(⟨A,n,c⟩,l)] :=
 ⟨Sl.lit (n:=1) h rfl (le_maxLen (by omega)),fun k hk=>by
  match k,hk with
  | 0,_=>exact h0⟩
theorem Lns19.three {w:World} {g2 n m r c d e:Nat} {A B C:Option Addr} {t:TypeId} {l l' l'':List Pt} (h:Blk w g2 t #[.slice A n c,.slice B m d,.slice C r e]) (h0:Pts w (.slice A n c) l) (h1:Pts w (.slice B m d) l') (h2:Pts w (.slice C r e) l'') :
  Lns19 w (.slice (some ⟨g2,0,none⟩) 3 3) [(⟨A,n,c⟩,l),(⟨B,m,d⟩,l'),(⟨C,r,e⟩,l'')] :=
 ⟨Sl.lit (n:=3) h rfl (le_maxLen (by omega)),fun k hk=>by
  match k,hk with
  | 0,_=>exact h0
  | 1,_=>exact h1
  | 2,_=>exact h2⟩
theorem PlV.open3 {w:World} {v:Value} {p:Pl} (h:PlV w v p):∃ An cn Aa ca Af cf,v=.agg #[.slice An p.nodes.length cn,.slice Aa p.arcs.length ca,.slice Af p.faces.length cf]:=by
 obtain ⟨_,_,_,al,rfl,hpa,⟨An,cn,rfl,-⟩,⟨⟨Aa,ca,rfl,-⟩,-⟩,⟨Af,cf,rfl,-⟩⟩:=h
 exact ⟨An,cn,Aa,ca,Af,cf,by rw [hpa,List.length_map]⟩

theorem ex1_short:(bldP ex1).arcs.all (fun a=>decide (a.via.length≤3))=true:=by decide +kernel

set_option maxRecDepth 100000 in
set_option maxHeartbeats 8000000 in
theorem Awake19_spec (w:World):Calls Tryz.prog 11 #[] w fun e w'=>e=.returned (.bool true)∧Below w.heap.size w w':=by
 go_enter Tryz.func11,Tryz.ntmps11
 go_upto_region 2 with fail
 obtain ⟨W1,hW⟩:∃ W:World,W=((w.alloc (.cells #[.int .i64 0,.int .i64 0,.int .i64 5,.int .i64 0,.int .i64 9,.int .i64 0] 42)).alloc (.cells #[.int .i64 5,.int .i64 0,.int .i64 5,.int .i64 5] 42)).alloc (.cells #[.slice (some ⟨w.heap.size,0,none⟩) 3 3,.slice (some ⟨w.heap.size+1,0,none⟩) 2 2] 25):=⟨_,rfl⟩
 have L1:Lns19 W1 (.slice (some ⟨w.heap.size+1+1,0,none⟩) 2 2) [(⟨some ⟨w.heap.size,0,none⟩,3,3⟩,[⟨0,0⟩,⟨5,0⟩,⟨9,0⟩]),(⟨some ⟨w.heap.size+1,0,none⟩,2,2⟩,[⟨5,0⟩,⟨5,5⟩])]:=by
  rw [hW]
  exact Lns19.two (Blk.made (by simp) _ _) (Sl.lit (n:=3) (((Blk.made rfl _ _).alloc _).alloc _) rfl (le_maxLen (by omega))) (Sl.lit (n:=2) ((Blk.made (by simp) _ _).alloc _) rfl (le_maxLen (by omega)))
 have HB1:=Lib.hid (show Below w.heap.size w W1 by rw [hW];exact bA (bA (bA (bR w) _) _) _)
 obtain ⟨g3,hg3⟩:∃ g3,w.heap.size+1+1=g3:=⟨_,rfl⟩
 rw [hg3] at L1
 have HPo:=Lib.hid (fun W (hW:Below W1.heap.size W1 W)=>show Calls Tryz.prog 12 #[.slice (some ⟨g3,0,none⟩) 2 2] W (RetPt19 W [⟨0,0⟩,⟨5,0⟩,⟨5,5⟩,⟨9,0⟩]) from by
  have h9:=Points19_ok _ _ W (L1.mono hW) (chkL_good.1 (show chkL ex1=0 from ex1_chk))
  have e9:meetL (([(⟨some ⟨w.heap.size,0,none⟩,3,3⟩,[⟨0,0⟩,⟨5,0⟩,⟨9,0⟩]),(⟨some ⟨w.heap.size+1,0,none⟩,2,2⟩,[⟨5,0⟩,⟨5,5⟩])] : List (SV×List Pt)).map (·.2))=[⟨0,0⟩,⟨5,0⟩,⟨5,5⟩,⟨9,0⟩]:=ex1_meet
  rw [e9] at h9
  exact h9)
 have HBu:=Lib.hid (fun W (hW:Below W1.heap.size W1 W)=>show Calls Tryz.prog 18 #[.slice (some ⟨g3,0,none⟩) 2 2] W (RetBld W ex1) from Build19_ok _ _ W (L1.mono hW) (chkL_good.1 (show chkL ex1=0 from ex1_chk)))
 rw [← hW]
 try rw [hg3]
 clear hW L1 hg3
 go_wp2_with fail
 refine (HPo.out _ (bR W1)).mono ?_
 rintro e w2 ⟨A2,c2,rfl,hb2,ho2⟩
 have HB2:=Lib.hid hb2
 have HPt:=Lib.hid (show Pts w2 (.slice A2 4 c2) [⟨0,0⟩,⟨5,0⟩,⟨5,5⟩,⟨9,0⟩] from Sl.of_own ho2)
 clear hb2 ho2 HPo
 go_wp2_with fail
 refine (HBu.out _ HB2.out).mono ?_
 rintro e w3 ⟨v3,rfl,hb3,hp3⟩
 rw [ex1_bld]
 have HP3:=Lib.hid hp3
 obtain ⟨An,cn,Aa,ca,Af,cf,hv3⟩:=hp3.open3
 rw [ex1_lens.1,ex1_lens.2.1,ex1_lens.2.2] at hv3
 subst hv3
 have HB3:=Lib.hid (bT (bT HB1.out HB2.out) hb3)
 have HPt3:=Lib.hid (HPt.out.mono hb3)
 clear hb3 hp3 HBu HPt HB2 HB1
 go_upto_region 4 with fail
 obtain ⟨g4,hg4⟩:∃ g4,w3.heap.size=g4:=⟨_,rfl⟩
 obtain ⟨W4,hW⟩:∃ W:World,W=w3.alloc (.cells #[.slice An 4 cn,.slice Aa 3 ca,.slice Af 0 cf] 34):=⟨_,rfl⟩
 have HA4:=Lib.hid (show Below w3.heap.size w3 W4 by rw [hW];exact bA (bR w3) _)
 have HX4:=Lib.hid (show Blk W4 g4 34 #[.slice An 4 cn,.slice Aa 3 ca,.slice Af 0 cf] by rw [hW];exact Blk.made hg4.symm _ _)
 rw [← hW]
 try rw [hg4]
 clear hW hg4
 have HBu2:=Lib.hid (fun W g g' (hx:Blk W g' 25 #[.slice (some ⟨g,0,none⟩) 4 4]) (h0:Blk W g 42 #[.int .i64 0,.int .i64 0,.int .i64 4,.int .i64 0,.int .i64 4,.int .i64 4,.int .i64 0,.int .i64 0])=>show Calls Tryz.prog 18 #[.slice (some ⟨g',0,none⟩) 1 1] W (RetBld W ex2) from
  Build19_ok _ [(⟨some ⟨g,0,none⟩,4,4⟩,[⟨0,0⟩,⟨4,0⟩,⟨4,4⟩,⟨0,0⟩])] W (Lns19.one hx (Sl.lit (n:=4) h0 rfl (le_maxLen (by omega)))) (chkL_good.1 (show chkL ex2=0 from ex2_chk)))
 have HBu3:=Lib.hid (fun W g g' g'' (hx:Blk W g'' 25 #[.slice (some ⟨g,0,none⟩) 2 2,.slice (some ⟨g',0,none⟩) 2 2]) (h0:Blk W g 42 #[.int .i64 0,.int .i64 0,.int .i64 9,.int .i64 0]) (h1:Blk W g' 42 #[.int .i64 5,.int .i64 0,.int .i64 5,.int .i64 5])=>show Calls Tryz.prog 18 #[.slice (some ⟨g'',0,none⟩) 2 2] W (RetBld W ex3) from
  Build19_ok _ [(⟨some ⟨g,0,none⟩,2,2⟩,[⟨0,0⟩,⟨9,0⟩]),(⟨some ⟨g',0,none⟩,2,2⟩,[⟨5,0⟩,⟨5,5⟩])] W (Lns19.two hx (Sl.lit (n:=2) h0 rfl (le_maxLen (by omega))) (Sl.lit (n:=2) h1 rfl (le_maxLen (by omega)))) (chkL_good.1 (show chkL ex3=0 from ex3_chk)))
 go_wp2_with fail
 refine (HBu2.out _ W4.heap.size _ (Blk.made (by simp) _ _) ((Blk.made rfl _ _).alloc _)).mono ?_
 rintro e w5 ⟨v5,rfl,hb5,hp5⟩
 rw [ex2_bld]
 have HP5:=Lib.hid hp5
 have hal2:(bldP ex2).arcs.length=1:=by have:=congrArg List.length ex2_arcs;simpa using this
 obtain ⟨Bn,dn,Ba,da,Bf,df,hv5⟩:=hp5.open3
 rw [hal2] at hv5
 obtain ⟨m1,hm1⟩:∃ m1,(bldP ex2).nodes.length=m1:=⟨_,rfl⟩
 obtain ⟨m2,hm2⟩:∃ m2,(bldP ex2).faces.length=m2:=⟨_,rfl⟩
 rw [hm1,hm2] at hv5
 subst hv5
 have HA5:=Lib.hid (bT (bA (bA (bR W4) _) _) hb5)
 have HX5:=Lib.hid (HX4.out.keep HA5.out)
 have HB5:=Lib.hid (bT (bT HB3.out HA4.out) HA5.out)
 have HQ5:=Lib.hid (bT HA4.out HA5.out)
 clear hb5 hp5 hal2 hm1 hm2 HBu2 HX4 HA4 HA5
 go_upto_region 5 with fail
 obtain ⟨g6,hg6⟩:∃ g6,w5.heap.size=g6:=⟨_,rfl⟩
 obtain ⟨W6,hW⟩:∃ W:World,W=w5.alloc (.cells #[.slice Bn m1 dn,.slice Ba 1 da,.slice Bf m2 df] 34):=⟨_,rfl⟩
 have HA6:=Lib.hid (show Below w5.heap.size w5 W6 by rw [hW];exact bA (bR w5) _)
 have HX6:=Lib.hid (show Blk W6 g6 34 #[.slice Bn m1 dn,.slice Ba 1 da,.slice Bf m2 df] by rw [hW];exact Blk.made hg6.symm _ _)
 rw [← hW]
 try rw [hg6]
 clear hW hg6
 go_wp2_with fail
 refine (HBu3.out _ W6.heap.size (W6.heap.size+1) _ (Blk.made (by simp) _ _) (((Blk.made rfl _ _).alloc _).alloc _) ((Blk.made (by simp) _ _).alloc _)).mono ?_
 rintro e w7 ⟨v7,rfl,hb7,hp7⟩
 rw [ex3_bld]
 obtain ⟨Cn,en,Ca,ea,Cf,ef,hv7⟩:=hp7.open3
 obtain ⟨k1,hk1⟩:∃ k1,(bldP ex3).nodes.length=k1:=⟨_,rfl⟩
 obtain ⟨k2,hk2⟩:∃ k2,(bldP ex3).arcs.length=k2:=⟨_,rfl⟩
 obtain ⟨k3,hk3⟩:∃ k3,(bldP ex3).faces.length=k3:=⟨_,rfl⟩
 rw [hk1,hk2,hk3] at hv7
 subst hv7
 have HA7:=Lib.hid (bT (bA (bA (bA (bR W6) _) _) _) hb7)
 have HA57:=Lib.hid (bT HA6.out HA7.out)
 have HX4:=Lib.hid (HX5.out.keep HA57.out)
 have HX7:=Lib.hid (HX6.out.keep HA7.out)
 have HB7:=Lib.hid (bT HB5.out HA57.out)
 have HP7:=Lib.hid (HP5.out.mono HA57.out)
 have HL7:=Lib.hid (HP3.out.mono (bT HQ5.out HA57.out))
 have HT7:=Lib.hid (HPt3.out.mono (bT HQ5.out HA57.out))
 clear hb7 hp7 hk1 hk2 hk3 HBu3 HX5 HX6 HA6 HA7 HA57 HP5 HP3 HPt3 HB5 HQ5 HB3
 go_upto_region 6 with fail
 obtain ⟨W8,hW⟩:∃ W:World,W=w7.alloc (.cells #[.slice Cn k1 en,.slice Ca k2 ea,.slice Cf k3 ef] 34):=⟨_,rfl⟩
 have HA8:=Lib.hid (show Below w7.heap.size w7 W8 by rw [hW];exact bA (bR w7) _)
 rw [← hW]
 clear hW
 have HX4':=Lib.hid (HX4.out.keep HA8.out);have HX6':=Lib.hid (HX7.out.keep HA8.out)
 have HB8:=Lib.hid (bT HB7.out HA8.out);have HP8:=Lib.hid (HP7.out.mono HA8.out);have HL8:=Lib.hid (HL7.out.mono HA8.out);have HT8:=Lib.hid (HT7.out.mono HA8.out)
 clear HX4 HX7 HB7 HP7 HL7 HT7 HA8
 have HS1:=Lib.hid (fun W g g' g'' (h0:Blk W g 25 #[.slice A2 4 c2]) (hp:Pts W (.slice A2 4 c2) [⟨0,0⟩,⟨5,0⟩,⟨5,5⟩,⟨9,0⟩]) (h1:Blk W g' 42 #[.int .i64 0,.int .i64 0,.int .i64 5,.int .i64 0,.int .i64 5,.int .i64 5,.int .i64 9,.int .i64 0]) (h2:Blk W g'' 25 #[.slice (some ⟨g',0,none⟩) 4 4]) =>
  show Calls Tryz.prog 14 #[.slice (some ⟨g,0,none⟩) 1 1,.slice (some ⟨g'',0,none⟩) 1 1] W fun e w'=>e=.returned (.bool true)∧Below W.heap.size W w' from
   Same19_spec _ _ [(⟨A2,4,c2⟩,[⟨0,0⟩,⟨5,0⟩,⟨5,5⟩,⟨9,0⟩])] [(⟨some ⟨g',0,none⟩,4,4⟩,[⟨0,0⟩,⟨5,0⟩,⟨5,5⟩,⟨9,0⟩])] W (Lns19.one h0 hp) (Lns19.one h2 (Sl.lit (n:=4) h1 rfl (le_maxLen (by omega)))) (by simp) (by simp) (fun k hk=>by match k,hk with | 0,_=>simp) (fun k hk=>by match k,hk with | 0,_=>simp))
 have HLi:=Lib.hid (fun v W (h:PlV W v (bldP ex1))=>Lines19_spec v (bldP ex1) W h (fun a ha=>by
  have:=List.all_eq_true.1 ex1_short a ha
  simp only [decide_eq_true_eq] at this
  omega) (by rw [ex1_lens.2.1];omega))
 go_wp2_with fail
 refine (HS1.out _ W8.heap.size (W8.heap.size+1) _ (((Blk.made rfl _ _).alloc _).alloc _) (HT8.out.mono (bA (bA (bA (bR W8) _) _) _)) ((Blk.made (by simp) _ _).alloc _) (Blk.made (by simp) _ _)).mono ?_
 rintro e w9 ⟨rfl,hb9⟩
 have HA9:=Lib.hid (bT (bA (bA (bA (bR W8) _) _) _) hb9)
 have HX9:=Lib.hid (HX4'.out.keep HA9.out);have HX6:=Lib.hid (HX6'.out.keep HA9.out)
 have HB9:=Lib.hid (bT HB8.out HA9.out);have HP9:=Lib.hid (HP8.out.mono HA9.out);have HL9:=Lib.hid (HL8.out.mono HA9.out)
 clear hb9 HA9 HX4' HX6' HB8 HP8 HL8 HT8 HS1
 have X4:=HX9.out
 obtain ⟨X4l,X4a,X4b,X4c,-,-,-⟩:=X4.facts3
 go_wp2_with fail
 refine (HLi.out _ _ HL9.out).mono ?_
 rintro e w10 ⟨A5,c5,ys,rfl,hb10,hl10,hy10⟩
 rw [ex1_lines] at hy10
 have HX10:=Lib.hid (HX6.out.keep hb10)
 have HB10:=Lib.hid (bT HB9.out hb10);have HP10:=Lib.hid (HP9.out.mono hb10)
 have HLn:=Lib.hid hl10.lns
 have hyl:ys.length=3:=by have:=congrArg List.length hy10;simpa using this
 have HYl:=Lib.hid hyl
 have HY:=Lib.hid hy10
 clear hb10 hl10 hy10 hyl HLi X4 X4l X4a X4b X4c HX9 HX6 HB9 HP9 HL9
 have HS2:=Lib.hid (fun W g0 g1 g2 g3 (hl:Lns19 W (.slice A5 ys.length c5) ys) (h0:Blk W g0 42 #[.int .i64 0,.int .i64 0,.int .i64 5,.int .i64 0]) (h1:Blk W g1 42 #[.int .i64 5,.int .i64 0,.int .i64 5,.int .i64 5]) (h2:Blk W g2 42 #[.int .i64 5,.int .i64 0,.int .i64 9,.int .i64 0]) (h3:Blk W g3 25 #[.slice (some ⟨g0,0,none⟩) 2 2,.slice (some ⟨g1,0,none⟩) 2 2,.slice (some ⟨g2,0,none⟩) 2 2]) =>
  show Calls Tryz.prog 14 #[.slice A5 ys.length c5,.slice (some ⟨g3,0,none⟩) 3 3] W fun e w'=>e=.returned (.bool true)∧Below W.heap.size W w' from by
   have h9:=Same19_spec _ _ ys [(⟨some ⟨g0,0,none⟩,2,2⟩,[⟨0,0⟩,⟨5,0⟩]),(⟨some ⟨g1,0,none⟩,2,2⟩,[⟨5,0⟩,⟨5,5⟩]),(⟨some ⟨g2,0,none⟩,2,2⟩,[⟨5,0⟩,⟨9,0⟩])] W hl (Lns19.three h3 (Sl.lit (n:=2) h0 rfl (le_maxLen (by omega))) (Sl.lit (n:=2) h1 rfl (le_maxLen (by omega))) (Sl.lit (n:=2) h2 rfl (le_maxLen (by omega)))) (by rw [HYl.out];omega) (by simp) (fun k hk=>by
    have h1:ys[k].2∈ys.map (·.2):=List.mem_map_of_mem (List.getElem_mem hk)
    rw [HY.out] at h1
    simp only [List.mem_cons,List.not_mem_nil,or_false] at h1
    rcases h1 with h | h | h<;>rw [h]<;>simp) (fun k hk=>by match k,hk with | 0,_=>simp | 1,_=>simp | 2,_=>simp)
   rw [HY.out] at h9
   exact h9)
 generalize ys.length=yn at *
 go_wp2_with fail
 refine (HS2.out _ w10.heap.size (w10.heap.size+1) (w10.heap.size+1+1) _ (HLn.out.mono (bA (bA (bA (bA (bR w10) _) _) _) _)) ((((Blk.made rfl _ _).alloc _).alloc _).alloc _) (((Blk.made (by simp) _ _).alloc _).alloc _) ((Blk.made (by simp) _ _).alloc _) (Blk.made (by simp) _ _)).mono ?_
 rintro e w11 ⟨rfl,hb11⟩
 have HA11:=Lib.hid (bT (bA (bA (bA (bA (bR w10) _) _) _) _) hb11)
 have X6:=HX10.out.keep HA11.out
 have HB11:=Lib.hid (bT HB10.out HA11.out)
 have hP:=HP10.out.mono HA11.out
 obtain ⟨va,vb,vc,al,hvv,hpa,-,⟨⟨Ba',da',hva,-,-,hRa⟩,-⟩,-⟩:=hP
 have hab:vb=.slice Ba 1 da:=by
  injection hvv with hvv
  have:=congrArg (fun a:Array Value=>a.toList) hvv
  simp only [List.cons.injEq,and_true] at this
  exact this.2.1.symm
 have harc:(al.map (·.1)).map (fun a=>(a.left,a.right))=[(1,0)]:=by rw [← hpa];exact ex2_arcs
 have hal:∃ a,al=[a]∧a.1.left=1∧a.1.right=0:=by
  have hl:al.length=1:=by have:=congrArg List.length harc;simpa using this
  obtain ⟨a,ha⟩:=List.length_eq_one_iff.1 hl
  rw [ha] at harc
  simp only [List.map_cons,List.map_nil,List.cons.injEq,Prod.mk.injEq,and_true] at harc
  exact ⟨a,ha,harc.1,harc.2⟩
 obtain ⟨a,rfl,ha1,ha2⟩:=hal
 rw [hab] at hva
 injection hva with hva e1 e2
 subst hva
 clear e1 e2
 obtain ⟨b,o,hBa,hlb,-,-,-,-,c4,c5⟩:=hRa.ar (k:=0) (by simp)
 simp only [List.getElem_cons_zero,Nat.zero_mul,Nat.add_zero] at c4 c5
 rw [ha1] at c4
 rw [ha2] at c5
 subst hBa
 clear hvv hab hpa harc ha1 ha2 hRa hb11 HS2 HX10 HB10 HP10 HLn HA11
 obtain ⟨X6l,X6a,X6b,X6c,-,-,-⟩:=X6.facts3
 go_wp2_with fail
 go_ret
 exact ⟨rfl,HB11.out⟩
end Go.Proofs.YtpempeioeiaijaaGreat
