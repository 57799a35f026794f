import Derived.Test.YtpempeioeiaijaaGreatJ26
import Derived.Test.YtpempeioeiaijaaGreatJ01
import Derived.Test.YtpempeioeiaijaaGreatRegLB
import Derived.Test.YtpempeioeiaijaaGreatJ06
set_option linter.unusedSimpArgs false
set_option linter.unusedVariables false
namespace Go.Proofs.YtpempeioeiaijaaGreat
open Go.RowKit Go.Sort

theorem Long19_spec (x:SV×List Pt) (w:World) (h:Pts w (svV x.1) x.2) (hl:x.2.length≤1000000):Calls Tryz.prog 36 #[svV x.1] w fun e w'=>e=.returned (.bool (decide (66<x.2.length)))∧Below w.heap.size w w':=by
 obtain ⟨A,c,hv,-⟩:=h
 rw [hv]
 generalize x.2.length=n at *
 have hwr:IntKind.i64.wrap ((n:Int)-2)=(n:Int)-2:=IntWalk.i64_in _ (by omega)
 clear hv
 go_enter Tryz.func36,Tryz.ntmps36
 go_wp2_with fail
 go_ret
 refine ⟨ret_bool (by rw [Bool.eq_iff_iff];simp only [decide_eq_true_eq];omega),bR w⟩

set_option maxRecDepth 100000 in
set_option maxHeartbeats 1000000 in
theorem Idx19_spec (v:Value) (xs:List (SV×List Pt)) (w:World) (h:Lns19 w v xs) (hn:xs.length≤1000000) (hl:∀ k (hk:k<xs.length),xs[k].2.length≤1000000) :
  Calls Tryz.prog 68 #[v,.func (.func 36) #[] #[]] w (IdxRes w (xs.any fun x=>decide (66<x.2.length))):=by
 obtain ⟨⟨A,c,rfl,hc1,hc2,hR⟩,hP⟩:=h
 unfold maxLen at hc2
 have HR:=Lib.hid hR
 have HG:=Lib.hid (fun k (hk:k<xs.length) W (hW:Below w.heap.size w W)=>Long19_spec xs[k] W ((hP k hk).mono hW) (hl k hk))
 clear hR hP hl
 go_enter Tryz.func68,Tryz.ntmps68
 go_wp2_with fail
 go_loopw [8] (fun i wr=>∃ k:Nat,k≤xs.length∧i=.int .i64 k∧Below w.heap.size w wr∧∀ j (hj:j<xs.length),j<k→decide (66<xs[j].2.length)=false) (fun i _=>xs.length-(intOf i).toNat)
 case atStart => exact ⟨0,Nat.zero_le _,rfl,bR w,fun j _ h=>by omega⟩
 case round =>
  obtain ⟨k,hk,rfl,hb,hno⟩:=hrel
  obtain ⟨w2,rfl⟩:∃ w2:World,w2=wr:=⟨_,rfl⟩
  have Hb:=Lib.hid hb
  have Hno:=Lib.hid hno
  clear hb hno
  by_cases hlt:k<xs.length
  ·
   obtain ⟨b,o,rfl,hlb,c0⟩:=(HR.out.mono Hb.out).ln hlt
   have HGk:=HG.out k hlt
   unfold svV at c0 HGk
   have HGk2:=Lib.hid HGk
   clear HGk
   go_wp2_with fail
   refine (HGk2.out _ Hb.out).mono ?_
   rintro e w1 ⟨rfl,hb1⟩
   have Bw:Below w.heap.size w w1:=bT Hb.out hb1
   clear hb1 c0 hlb
   cases he:decide (66<xs[k].2.length)
   ·
    have He:=Lib.hid he
    clear he
    go_wp2_with fail
    go_roundw
    case rel => exact ⟨k+1,by omega,by go_num,Bw,all_succ (p:=fun y:SV×List Pt=>decide (66<y.2.length)=false) Hno.out hlt He.out⟩
    case measure => simp [intOf];omega
   ·
    have hf:=Lib.hid (any_hit xs (fun x=>decide (66<x.2.length)) k hlt he)
    clear he
    go_wp2_with fail
    go_ret
    exact ⟨k,rfl,by rw [hf.out];simp,Bw⟩
  ·
   have hf:=Lib.hid (any_miss xs (fun x=>decide (66<x.2.length)) (fun j hj=>Hno.out j hj (by omega)))
   go_wp2_with fail
   go_ret
   exact ⟨-1,rfl,by rw [hf.out];simp,Hb.out⟩
theorem Cont19_spec (v:Value) (xs:List (SV×List Pt)) (w:World) (h:Lns19 w v xs) (hn:xs.length≤1000000) (hl:∀ k (hk:k<xs.length),xs[k].2.length≤1000000) :
  Calls Tryz.prog 37 #[v,.func (.func 36) #[] #[]] w fun e w'=>e=.returned (.bool (xs.any fun x=>decide (66<x.2.length)))∧Below w.heap.size w w':=by
 have HT:=Lib.hid (Idx19_spec v xs w h hn hl)
 generalize (xs.any fun x=>decide (66<x.2.length))=q at *
 clear h hn hl
 go_enter Tryz.func37,Tryz.ntmps37
 go_wp2_with fail
 refine HT.out.mono ?_
 rintro e w1 ⟨r,rfl,hr,hb1⟩
 have Hr:=Lib.hid hr;clear hr
 go_wp2_with fail
 go_ret
 exact ⟨ret_bool Hr.out,hb1⟩
theorem numP_out {l:List Pt} {q:Pt} (h:q∉l):numP l q=0:=by
 induction l with
 | nil=>rfl
 | cons a l ih =>
  have h1:¬ a=q:=fun e=>h (by rw [e];exact List.mem_cons_self)
  unfold numP
  rw [if_neg h1,ih (fun h'=>h (List.mem_cons_of_mem _ h'))]
  rfl
theorem numP_snoc {l:List Pt} {p:Pt} (h:p∉l):(fun q=>if q=p then (l.length:Int)+1 else numP l q)=numP (l++[p]):=by
 funext q
 induction l with
 | nil =>
  by_cases e:q=p
  · subst e;simp [numP]
  ·
   have e':¬ p=q:=fun h'=>e h'.symm
   simp [numP,e,e']
 | cons a l ih =>
  have hp:p∉l:=fun h'=>h (List.mem_cons_of_mem _ h')
  have ha:¬ a=p:=fun e=>h (by rw [e];exact List.mem_cons_self)
  have:=ih hp
  rw [List.cons_append]
  unfold numP
  rw [← this]
  by_cases e:q=p
  ·
   subst e
   rw [if_pos rfl,if_pos rfl,if_neg ha]
   have h9:¬ ((l.length:Int)+1=0):=by omega
   simp only [List.length_cons,h9,if_false]
   omega
  · rw [if_neg e,if_neg e]
theorem numP_ne {l:List Pt} {q:Pt}:numP l q≠0↔q∈l:=by
 constructor
 ·
  intro h
  exact Decidable.byContradiction fun h'=>h (numP_out h')
 ·
  intro h
  obtain ⟨k,-,h1,-⟩:=numP_mem h
  omega
theorem numP_bd (l:List Pt) (q:Pt):0≤numP l q∧numP l q≤l.length:=by
 by_cases h:q∈l
 ·
  obtain ⟨k,hk,h1,-⟩:=numP_mem h
  omega
 · rw [numP_out h];omega
end Go.Proofs.YtpempeioeiaijaaGreat
namespace Go.Proofs.YtpempeioeiaijaaGreat
open Go.RowKit Go.Sort

theorem PlV.zeroE (w:World):PlV w plan0 plE:=by
 refine ⟨_,_,_,[],rfl,rfl,Sl.nil w,⟨Sl.nil w,fun k hk=>by simp at hk⟩,Sl.nil w⟩
def RetBld (w:World) (L:List (List Pt)) (e:Ending) (w':World):Prop:=∃ v,e=.returned (.tuple #[v,.int .i64 (bldZ L)])∧Below w.heap.size w w'∧PlV w' v (bldP L)
theorem RetBld.bad {w w':World} {L:List (List Pt)} {z:Int} (hz:bldZ L=z) (h0:z≠0) (hb:Below w.heap.size w w'):RetBld w L (.returned (.tuple #[plan0,.int .i64 z])) w' :=
 ⟨plan0,by rw [hz],hb,by unfold bldP;rw [if_neg (by rw [hz];exact h0)];exact PlV.zeroE _⟩

end Go.Proofs.YtpempeioeiaijaaGreat
