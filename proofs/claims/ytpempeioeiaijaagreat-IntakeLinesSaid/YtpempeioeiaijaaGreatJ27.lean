import Derived.Test.YtpempeioeiaijaaGreatJ26
import Derived.Test.YtpempeioeiaijaaGreatJ03
import Derived.Test.YtpempeioeiaijaaGreatJ01
import Derived.Test.YtpempeioeiaijaaGreatRegLB
import Derived.Test.YtpempeioeiaijaaGreatJ06
set_option linter.unusedSimpArgs false
set_option linter.unusedVariables false
namespace Go.Proofs.YtpempeioeiaijaaGreat
open Go.RowKit Go.Sort

structure LnsO (w:World) (B:Nat) (v:Value) (ys:List (SV×List Pt)):Prop where
 own:Own w B 25 1 llC v ys
 rd:∀ y∈ys,Own w B 42 2 ptC (svV y.1) y.2
theorem LnsO.keep {w w':World} {B:Nat} {v:Value} {ys:List (SV×List Pt)} (h:LnsO w B v ys) (hb:Below w.heap.size w w'):LnsO w' B v ys:=⟨h.own.keep hb,fun y hy=>(h.rd y hy).keep hb⟩
theorem LnsO.lns {w:World} {B:Nat} {v:Value} {ys:List (SV×List Pt)} (h:LnsO w B v ys):Lns19 w v ys:=⟨Sl.of_own h.own,fun k hk=>Sl.of_own (h.rd _ (List.getElem_mem hk))⟩
def RetLns (w:World) (L:List (List Pt)) (e:Ending) (w':World):Prop :=
 ∃ A c ys,e=.returned (.slice A ys.length c)∧Below w.heap.size w w'∧LnsO w' w.heap.size (.slice A ys.length c) ys∧ys.map (·.2)=L
theorem filterMap_take {α β:Type} (f:α→Option β) {l:List α} {k:Nat} (hk:k<l.length):(l.take (k+1)).filterMap f=(l.take k).filterMap f++(f l[k]).toList:=by
 rw [List.take_succ_eq_append_getElem hk,List.filterMap_append]
 congr 1

set_option maxRecDepth 100000 in
set_option maxHeartbeats 8000000 in
theorem Lines19_spec (v:Value) (p:Pl) (w:World) (h:PlV w v p) (hsh:Short p) (hn:p.arcs.length≤1000000):Calls Tryz.prog 16 #[v] w (RetLns w (linesS p)):=by
 have HPt:=Lib.hid (fun id W (hW:Below w.heap.size w W)=>Path_spec v p id W (h.mono hW) hsh)
 obtain ⟨_,_,_,al,rfl,hpa,⟨An,cn,rfl,-⟩,⟨⟨Aa,ca,rfl,hm1,hm2,hRa⟩,hVi⟩,⟨Af,cf,rfl,-⟩⟩:=h
 unfold maxLen at hm2
 have hal:al.length≤1000000:=by rw [hpa,List.length_map] at hn;exact hn
 have hlk:∀ k (hk:k<al.length),(p.arcs.take (k+1)).filterMap (fun a=>pathOf p a.id)=(p.arcs.take k).filterMap (fun a=>pathOf p a.id)++(pathOf p al[k].1.id).toList:=fun k hk=>by
  have h1:k<p.arcs.length:=by rw [hpa,List.length_map];exact hk
  rw [filterMap_take _ h1]
  have h2:p.arcs[k]=al[k].1:=by simp only [hpa,List.getElem_map]
  rw [h2]
 have hend:(p.arcs.take al.length).filterMap (fun a=>pathOf p a.id)=linesS p:=by
  unfold linesS
  rw [List.take_of_length_le (by rw [hpa,List.length_map];exact Nat.le_refl _)]
 have HLk:=Lib.hid hlk;have HEnd:=Lib.hid hend;have HRa:=Lib.hid hRa;have HVi:=Lib.hid hVi
 obtain ⟨G,hG⟩:∃ G:Nat→List (List Pt),G=fun k=>(p.arcs.take k).filterMap (fun a=>pathOf p a.id):=⟨_,rfl⟩
 have HGk:=Lib.hid (show ∀ k (hk:k<al.length),G (k+1)=G k++(pathOf p al[k].1.id).toList from fun k hk=>by rw [hG];exact hlk k hk)
 have HG0:=Lib.hid (show G 0=[] by rw [hG];rfl)
 have HGe:=Lib.hid (show G al.length=linesS p by rw [hG];exact hend)
 generalize p.nodes.length=nn at *
 generalize p.faces.length=nf at *
 generalize linesS p=LL at *
 clear hpa hRa hVi hsh hlk hend hG HLk HEnd hn
 go_enter Tryz.func16,Tryz.ntmps16
 go_upto_region 1 with fail
 obtain ⟨W1,hW⟩:∃ W1:World,W1=w.alloc (.cells #[.slice An nn cn,.slice Aa al.length ca,.slice Af nf cf] 34):=⟨_,rfl⟩
 have X1:Blk W1 w.heap.size 34 #[.slice An nn cn,.slice Aa al.length ca,.slice Af nf cf]:=by rw [hW];exact Blk.made rfl _ _
 have HB1:=Lib.hid (show Below w.heap.size w W1 by rw [hW];exact bA (bR w) _)
 have HX1:=Lib.hid X1
 rw [← hW]
 clear hW
 obtain ⟨X1l,X1a,X1b,X1c,-,-,-⟩:=X1.facts3
 go_upto_block 0 with fail
 clear X1 X1l X1a X1b X1c
 go_wp2_with fail
 go_loopw [2,10] (fun z u wr=>∃ (k:Nat) (ys:List (SV×List Pt)),k≤al.length∧u=.int .i64 k∧LnsO wr w.heap.size z ys∧Blk wr w.heap.size 34 #[.slice An nn cn,.slice Aa al.length ca,.slice Af nf cf]∧Below w.heap.size w wr∧ys.map (·.2)=G k∧ys.length≤k) (fun _ u _=>al.length-(intOf u).toNat)
 case atStart => exact ⟨0,[],Nat.zero_le _,rfl,⟨Own.nil _ _ _ _ _,fun y hy=>(by cases hy)⟩,HX1.out,HB1.out,HG0.out.symm,Nat.le_refl _⟩
 case round =>
  obtain ⟨k,ys,hk,rfl,ho,hx,hb,hys,hyl⟩:=hrel
  obtain ⟨wo,rfl⟩:∃ wo:World,wo=wr:=⟨_,rfl⟩
  have HO:=Lib.hid ho;have HX:=Lib.hid hx;have Hb:=Lib.hid hb;have HYs:=Lib.hid hys
  clear ho hx hb hys HX1 HB1
  by_cases hlt:k<al.length
  ·
   obtain ⟨b,o,rfl,hlb,c0,c1,c2,c3,c4,c5⟩:=(Row.mono HRa.out Hb.out).ar hlt
   obtain ⟨Av,cv,hvv,-⟩:=HVi.out k hlt
   rw [hvv] at c3
   have hGk:=HGk.out k hlt
   have hpt:=HPt.out al[k].1.id
   clear hvv
   generalize al[k].1=a at *
   obtain ⟨aid,afr,adst,avia,aleft,aright⟩:=a
   simp only at c0 c1 c2 c3 c4 c5 hpt hGk
   generalize avia.length=vn at *
   generalize pathOf p aid=r at *
   have HPk:=Lib.hid hpt;have HG1:=Lib.hid hGk
   clear hpt hGk
   go_upto_region 4 with fail
   obtain ⟨W5,hW⟩:∃ W:World,W=wo.alloc (.cells #[.int .i64 aid,.int .i64 afr,.int .i64 adst,.slice Av vn cv,.int .i64 aleft,.int .i64 aright] 50):=⟨_,rfl⟩
   have HA:=Lib.hid (show Below wo.heap.size wo W5 by rw [hW];exact bA (bR wo) _)
   have X5:Blk W5 wo.heap.size 50 #[.int .i64 aid,.int .i64 afr,.int .i64 adst,.slice Av vn cv,.int .i64 aleft,.int .i64 aright]:=by rw [hW];exact Blk.made rfl _ _
   rw [← hW]
   clear hW c0 c1 c2 c3 c4 c5 hlb
   have X1:=HX.out.keep HA.out
   obtain ⟨X5l,X5a,X5b,X5c,X5d,X5e,X5f,-,-,-,-,-,-⟩:=X5.facts6
   try clear X1l
   try clear X1a
   try clear X1b
   try clear X1c
   obtain ⟨X1l,X1a,X1b,X1c,-,-,-⟩:=X1.facts3
   go_wp2_with fail
   refine (HPk.out _ (bT Hb.out HA.out)).mono ?_
   rintro e w6 ⟨A6,c6,rfl,hb6,ho6⟩
   have HB6:=Lib.hid (bT HA.out hb6)
   have HB6':=Lib.hid (bT Hb.out HB6.out)
   have HO6:=Lib.hid (HO.out.keep HB6.out)
   have HX6:=Lib.hid (HX.out.keep HB6.out)
   have HP6:=Lib.hid (ho6.mono_base (b':=w.heap.size) (bT Hb.out HA.out).size)
   have hz6:=HB6'.out.size
   clear hb6 ho6 X1 X1l X1a X1b X1c X5 X5l X5a X5b X5c X5d X5e X5f HPk
   cases r with
   | none =>
    simp only [Option.isSome_none,Bool.false_eq_true,if_false,Option.getD_none]
    go_wp2_with fail
    go_roundw
    case rel => exact ⟨k+1,ys,by omega,by go_num,HO6.out,HX6.out,HB6'.out,by rw [HG1.out,HYs.out];simp,by omega⟩
    case measure => simp [intOf];omega
   | some q =>
    simp only [Option.isSome_some,if_true,Option.getD_some] at HP6 ⊢
    obtain ⟨N,hN⟩:∃ N,q.length=N:=⟨_,rfl⟩
    rw [hN] at HP6 ⊢
    have HN:=Lib.hid hN
    clear hN
    go_wp2_with
     (at_builtin
      refine wpList_appl _ rfl (.tmp 23) (.tmp 25) _ rfl (base:=w.heap.size) elem_ln llC_len llC_one rfl (HO6.out.own.alloc _) rfl (l2:=[((⟨A6,N,c6⟩:SV),q)]) (Sl.lit (n:=1) (Blk.made (by simp) _ _) rfl (le_maxLen (by omega))) (by simp only [List.length_cons,List.length_nil];omega) (by simp only [List.length_cons,List.length_nil];omega) (by simp;omega) ?_
      intro v1 w1 ho1 hg1 hat1
      have HO1:=Lib.hid (show LnsO w1 w.heap.size v1 (ys++[((⟨A6,N,c6⟩:SV),q)]) from ⟨ho1,fun y hy=>by
       have key:∀ y:SV×List Pt,Own w6 w.heap.size 42 2 ptC (svV y.1) y.2→Own w1 w.heap.size 42 2 ptC (svV y.1) y.2:=fun y h =>
        Own.grown (h.alloc _) hg1 (Own.apart h HO6.out.own (by decide))
       rcases List.mem_append.1 hy with h | h
       · exact key y (HO6.out.rd y h)
       · rw [List.mem_singleton.1 h];exact key _ HP6.out⟩)
      have HX1:=Lib.hid ((HX6.out.alloc _).grown hg1 (fun e=>(Own.ne_blk HO6.out.own HX6.out (by decide)) e.symm))
      have HB1:=Lib.hid (show Below w.heap.size w w1 from bG (w:=w) (bA HB6'.out _) hg1 (fun q hq=>(HO6.out.own.lt q hq).1))
      clear ho1 hg1 hat1)
    go_roundw
    case rel => exact ⟨k+1,_,by omega,by go_num,HO1.out,HX1.out,HB1.out,by rw [List.map_append,HYs.out,HG1.out];rfl,by simp only [List.length_append,List.length_cons,List.length_nil];omega⟩
    case measure => simp [intOf];omega
  ·
   have hkn:k=al.length:=by omega
   subst hkn
   have hX:=HX.out
   go_wp2_with fail
   obtain ⟨A9,c9,hv9,-⟩:=Own.shape HO.out.own
   subst hv9
   go_ret
   exact ⟨A9,c9,ys,rfl,Hb.out,HO.out,by rw [HYs.out,HGe.out]⟩
end Go.Proofs.YtpempeioeiaijaaGreat
namespace Go.Proofs.YtpempeioeiaijaaGreat
open Go.RowKit Go.Sort

theorem Long19_spec (x:SV×List Pt) (w:World) (h:Pts w (svV x.1) x.2) (hl:x.2.length≤1000000):Calls Tryz.prog 36 #[svV x.1] w fun e w'=>e=.returned (.bool (decide (66<x.2.length)))∧Below w.heap.size w w':=by
 obtain ⟨A,c,hv,-⟩:=h
 rw [hv]
 generalize x.2.length=n at *
 have hwr:IntKind.i64.wrap ((n:Int)-2)=(n:Int)-2:=IntWalk.i64_in _ (by omega)
 clear hv
 go_enter Tryz.func36,Tryz.ntmps36
 go_wp2_with fail
 go_ret
 refine ⟨ret_bool (by rw [Bool.eq_iff_iff];simp only [decide_eq_true_eq];omega),bR w⟩

set_option maxRecDepth 100000 in
set_option maxHeartbeats 1000000 in
theorem Idx19_spec (v:Value) (xs:List (SV×List Pt)) (w:World) (h:Lns19 w v xs) (hn:xs.length≤1000000) (hl:∀ k (hk:k<xs.length),xs[k].2.length≤1000000) :
  Calls Tryz.prog 68 #[v,.func (.func 36) #[] #[]] w (IdxRes w (xs.any fun x=>decide (66<x.2.length))):=by
 obtain ⟨⟨A,c,rfl,hc1,hc2,hR⟩,hP⟩:=h
 unfold maxLen at hc2
 have HR:=Lib.hid hR
 have HG:=Lib.hid (fun k (hk:k<xs.length) W (hW:Below w.heap.size w W)=>Long19_spec xs[k] W ((hP k hk).mono hW) (hl k hk))
 clear hR hP hl
 go_enter Tryz.func68,Tryz.ntmps68
 go_wp2_with fail
 go_loopw [8] (fun i wr=>∃ k:Nat,k≤xs.length∧i=.int .i64 k∧Below w.heap.size w wr∧∀ j (hj:j<xs.length),j<k→decide (66<xs[j].2.length)=false) (fun i _=>xs.length-(intOf i).toNat)
 case atStart => exact ⟨0,Nat.zero_le _,rfl,bR w,fun j _ h=>by omega⟩
 case round =>
  obtain ⟨k,hk,rfl,hb,hno⟩:=hrel
  obtain ⟨w2,rfl⟩:∃ w2:World,w2=wr:=⟨_,rfl⟩
  have Hb:=Lib.hid hb
  have Hno:=Lib.hid hno
  clear hb hno
  by_cases hlt:k<xs.length
  ·
   obtain ⟨b,o,rfl,hlb,c0⟩:=(HR.out.mono Hb.out).ln hlt
   have HGk:=HG.out k hlt
   unfold svV at c0 HGk
   have HGk2:=Lib.hid HGk
   clear HGk
   go_wp2_with fail
   refine (HGk2.out _ Hb.out).mono ?_
   rintro e w1 ⟨rfl,hb1⟩
   have Bw:Below w.heap.size w w1:=bT Hb.out hb1
   clear hb1 c0 hlb
   cases he:decide (66<xs[k].2.length)
   ·
    have He:=Lib.hid he
    clear he
    go_wp2_with fail
    go_roundw
    case rel => exact ⟨k+1,by omega,by go_num,Bw,all_succ (p:=fun y:SV×List Pt=>decide (66<y.2.length)=false) Hno.out hlt He.out⟩
    case measure => simp [intOf];omega
   ·
    have hf:=Lib.hid (any_hit xs (fun x=>decide (66<x.2.length)) k hlt he)
    clear he
    go_wp2_with fail
    go_ret
    exact ⟨k,rfl,by rw [hf.out];simp,Bw⟩
  ·
   have hf:=Lib.hid (any_miss xs (fun x=>decide (66<x.2.length)) (fun j hj=>Hno.out j hj (by omega)))
   go_wp2_with fail
   go_ret
   exact ⟨-1,rfl,by rw [hf.out];simp,Hb.out⟩
theorem Cont19_spec (v:Value) (xs:List (SV×List Pt)) (w:World) (h:Lns19 w v xs) (hn:xs.length≤1000000) (hl:∀ k (hk:k<xs.length),xs[k].2.length≤1000000) :
  Calls Tryz.prog 37 #[v,.func (.func 36) #[] #[]] w fun e w'=>e=.returned (.bool (xs.any fun x=>decide (66<x.2.length)))∧Below w.heap.size w w':=by
 have HT:=Lib.hid (Idx19_spec v xs w h hn hl)
 generalize (xs.any fun x=>decide (66<x.2.length))=q at *
 clear h hn hl
 go_enter Tryz.func37,Tryz.ntmps37
 go_wp2_with fail
 refine HT.out.mono ?_
 rintro e w1 ⟨r,rfl,hr,hb1⟩
 have Hr:=Lib.hid hr;clear hr
 go_wp2_with fail
 go_ret
 exact ⟨ret_bool Hr.out,hb1⟩
theorem numP_out {l:List Pt} {q:Pt} (h:q∉l):numP l q=0:=by
 induction l with
 | nil=>rfl
 | cons a l ih =>
  have h1:¬ a=q:=fun e=>h (by rw [e];exact List.mem_cons_self)
  unfold numP
  rw [if_neg h1,ih (fun h'=>h (List.mem_cons_of_mem _ h'))]
  rfl
theorem numP_snoc {l:List Pt} {p:Pt} (h:p∉l):(fun q=>if q=p then (l.length:Int)+1 else numP l q)=numP (l++[p]):=by
 funext q
 induction l with
 | nil =>
  by_cases e:q=p
  · subst e;simp [numP]
  ·
   have e':¬ p=q:=fun h'=>e h'.symm
   simp [numP,e,e']
 | cons a l ih =>
  have hp:p∉l:=fun h'=>h (List.mem_cons_of_mem _ h')
  have ha:¬ a=p:=fun e=>h (by rw [e];exact List.mem_cons_self)
  have:=ih hp
  rw [List.cons_append]
  unfold numP
  rw [← this]
  by_cases e:q=p
  ·
   subst e
   rw [if_pos rfl,if_pos rfl,if_neg ha]
   have h9:¬ ((l.length:Int)+1=0):=by omega
   simp only [List.length_cons,h9,if_false]
   omega
  · rw [if_neg e,if_neg e]
theorem numP_ne {l:List Pt} {q:Pt}:numP l q≠0↔q∈l:=by
 constructor
 ·
  intro h
  exact Decidable.byContradiction fun h'=>h (numP_out h')
 ·
  intro h
  obtain ⟨k,-,h1,-⟩:=numP_mem h
  omega
theorem numP_bd (l:List Pt) (q:Pt):0≤numP l q∧numP l q≤l.length:=by
 by_cases h:q∈l
 ·
  obtain ⟨k,hk,h1,-⟩:=numP_mem h
  omega
 · rw [numP_out h];omega
end Go.Proofs.YtpempeioeiaijaaGreat
namespace Go.Proofs.YtpempeioeiaijaaGreat
open Go.RowKit Go.Sort

theorem PlV.zeroE (w:World):PlV w plan0 plE:=by
 refine ⟨_,_,_,[],rfl,rfl,Sl.nil w,⟨Sl.nil w,fun k hk=>by simp at hk⟩,Sl.nil w⟩
def RetBld (w:World) (L:List (List Pt)) (e:Ending) (w':World):Prop:=∃ v,e=.returned (.tuple #[v,.int .i64 (bldZ L)])∧Below w.heap.size w w'∧PlV w' v (bldP L)
theorem RetBld.bad {w w':World} {L:List (List Pt)} {z:Int} (hz:bldZ L=z) (h0:z≠0) (hb:Below w.heap.size w w'):RetBld w L (.returned (.tuple #[plan0,.int .i64 z])) w' :=
 ⟨plan0,by rw [hz],hb,by unfold bldP;rw [if_neg (by rw [hz];exact h0)];exact PlV.zeroE _⟩

end Go.Proofs.YtpempeioeiaijaaGreat
