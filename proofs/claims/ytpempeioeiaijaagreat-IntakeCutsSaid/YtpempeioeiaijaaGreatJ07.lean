import Derived.Test.YtpempeioeiaijaaGreatJ06
import Derived.Test.YtpempeioeiaijaaGreatJ05
import Derived.Test.YtpempeioeiaijaaGreatJ01
import Derived.Test.YtpempeioeiaijaaGreatJ03
import Derived.Test.YtpempeioeiaijaaGreatJ04
set_option linter.unusedSimpArgs false
set_option linter.unusedVariables false
namespace Go.Proofs.YtpempeioeiaijaaGreat
open Go.RowKit

theorem findIdx_at {l:List Int} (hl:l.Nodup) {i:Nat} (hi:i<l.length):l.findIdx? (fun x=>x == l[i])=some i:=by
 rw [List.findIdx?_eq_some_iff_getElem]
 refine ⟨hi,by simp,fun j hj=>?_⟩
 rw [List.Nodup,List.pairwise_iff_getElem] at hl
 have:=hl j i (by omega) hi hj
 simpa using this
theorem precD_at {l:List Int} (hl:l.Nodup) {i:Nat} (hi:i<l.length):precD l l[i]=l[(i+l.length-1) % l.length]'(Nat.mod_lt _ (by omega)):=by
 unfold precD
 rw [findIdx_at hl hi]
 simp only []
 rw [List.getD_eq_getElem?_getD,List.getElem?_eq_getElem (Nat.mod_lt _ (by omega))]
 rfl
theorem precD_mem {l:List Int} (hl:l.Nodup) {d:Int} (hd:d∈l):precD l d∈l:=by
 obtain ⟨i,hi,rfl⟩:=List.mem_iff_getElem.1 hd
 rw [precD_at hl hi]
 exact List.getElem_mem _
theorem mod_inj {i j n:Nat} (hi:i<n) (hj:j<n) (h:(i+n-1) % n=(j+n-1) % n):i=j:=by
 have key:∀ k,k<n→(k+n-1) % n=if k=0 then n-1 else k-1:=fun k hk=>by
  split
  · subst k;rw [Nat.mod_eq_of_lt (by omega)];omega
  · rw [show k+n-1=(k-1)+n by omega,Nat.add_mod_right,Nat.mod_eq_of_lt (by omega)]
 rw [key i hi,key j hj] at h
 split at h<;>split at h<;>omega
theorem precD_inj {l:List Int} (hl:l.Nodup) {d e:Int} (hd:d∈l) (he:e∈l) (h:precD l d=precD l e):d=e:=by
 obtain ⟨i,hi,rfl⟩:=List.mem_iff_getElem.1 hd
 obtain ⟨j,hj,rfl⟩:=List.mem_iff_getElem.1 he
 rw [precD_at hl hi,precD_at hl hj] at h
 have hl':=hl
 rw [List.Nodup,List.pairwise_iff_getElem] at hl'
 have e:(i+l.length-1) % l.length=(j+l.length-1) % l.length:=by
  rcases Nat.lt_trichotomy ((i+l.length-1) % l.length) ((j+l.length-1) % l.length) with h1 | h1 | h1
  · exact absurd h (hl' _ _ _ _ h1)
  · exact h1
  · exact absurd h.symm (hl' _ _ _ _ h1)
 have:=mod_inj hi hj e
 subst this;rfl

theorem neg_dart {p:Pl} {d:Int} (hd:d∈dartsD p):-d∈dartsD p:=by
 obtain ⟨a,ha,e⟩:=mem_dartsD.1 hd
 refine mem_dartsD.2 ⟨a,ha,?_⟩
 rcases e with rfl | rfl
 · exact .inr rfl
 · exact .inl (Int.neg_neg _)
section
variable {p:Pl} (h:Valid p)
include h
theorem Valid.arcD_some {d:Int} (hd:d∈dartsD p):(arcD p d).isSome=true:=by
 obtain ⟨a,ha,e⟩:=mem_dartsD.1 hd
 rcases e with rfl | rfl
 · rw [h.arcD_pos ha];rfl
 · rw [h.arcD_neg ha];rfl
theorem Valid.start_node {d:Int} (hd:d∈dartsD p):∃ n∈p.nodes,n.id=startD p d∧d∈dartL p.arcs n.id:=by
 obtain ⟨a,ha,e⟩:=mem_dartsD.1 hd
 rcases e with rfl | rfl
 ·
  obtain ⟨n,hn,e,-⟩:=h.sound.at_fr ha
  exact ⟨n,hn,by rw [h.start_pos ha,e],mem_dartL.2 ⟨a,ha,.inl ⟨rfl,e.symm⟩⟩⟩
 ·
  obtain ⟨n,hn,e,-⟩:=h.sound.at_dst ha
  exact ⟨n,hn,by rw [h.start_neg ha,e],mem_dartL.2 ⟨a,ha,.inr ⟨rfl,e.symm⟩⟩⟩
theorem Valid.dartL_start {n d:Int} (hd:d∈dartL p.arcs n):d∈dartsD p∧startD p d=n:=by
 obtain ⟨a,ha,e⟩:=mem_dartL.1 hd
 rcases e with ⟨rfl,e⟩ | ⟨rfl,e⟩
 · exact ⟨mem_dartsD.2 ⟨a,ha,.inl rfl⟩,by rw [h.start_pos ha,e]⟩
 · exact ⟨mem_dartsD.2 ⟨a,ha,.inr rfl⟩,by rw [h.start_neg ha,e]⟩
theorem Valid.around_nodup {n:Nd} (hn:n∈p.nodes):(aroundD p n.id).Nodup:=(h.around_perm hn).nodup_iff.2 h.dartL_nodup
theorem Valid.next_eq {d:Int} (hd:d∈dartsD p):∃ n∈p.nodes,n.id=startD p (-d)∧-d∈aroundD p n.id∧nextD p d=precD (aroundD p n.id) (-d):=by
 obtain ⟨n,hn,e,hm⟩:=h.start_node (neg_dart hd)
 refine ⟨n,hn,e,(h.around_perm hn).symm.subset hm,?_⟩
 unfold nextD
 rw [if_pos (h.arcD_some hd),e]
theorem Valid.next_mem {d:Int} (hd:d∈dartsD p):nextD p d∈dartsD p∧startD p (nextD p d)=startD p (-d):=by
 obtain ⟨n,hn,e,hm,hx⟩:=h.next_eq hd
 rw [hx]
 have h1:=precD_mem (h.around_nodup hn) hm
 have h2:=h.dartL_start ((h.around_perm hn).subset h1)
 exact ⟨h2.1,by rw [h2.2,e]⟩
theorem Valid.next_inj {d e:Int} (hd:d∈dartsD p) (he:e∈dartsD p) (hx:nextD p d=nextD p e):d=e:=by
 obtain ⟨n,hn,e1,m1,x1⟩:=h.next_eq hd
 obtain ⟨m,hm,e2,m2,x2⟩:=h.next_eq he
 have hs:=(h.next_mem hd).2
 rw [hx,(h.next_mem he).2,← e2,← e1] at hs
 rw [x1,x2,hs] at hx
 rw [hs] at m2
 have:=precD_inj (h.around_nodup hn) m1 m2 hx
 omega
theorem Valid.darts_nodup:(dartsD p).Nodup:=h.darts_sorted.imp (fun h=>by omega)
theorem Valid.cyc:Cyc (nextD p) (dartsD p) (dartsD p) (cyclesD p) :=
 cyc_all (fun x hx=>(h.next_mem hx).1) (fun x hx y hy=>h.next_inj hx hy) h.darts_sorted
theorem Valid.cyc_perm:(cyclesD p).flatten.Perm (dartsD p):=h.cyc.perm (fun x hx=>(h.next_mem hx).1) h.darts_nodup
theorem Valid.all_around:(p.nodes.flatMap fun n=>aroundD p n.id).Perm (dartsD p):=by
 refine (List.perm_ext_iff_of_nodup ?_ h.darts_nodup).2 fun d=>?_
 ·
  unfold List.Nodup
  rw [List.pairwise_flatMap]
  refine ⟨fun n hn=>h.around_nodup hn,?_⟩
  have hs:=h.sound.nodes
  rw [List.pairwise_map] at hs
  rw [List.pairwise_iff_getElem] at hs ⊢
  intro i j hi hj hij x hx y hy e
  subst e
  have h1:=(h.dartL_start ((h.around_perm (List.getElem_mem hi)).subset hx)).2
  have h2:=(h.dartL_start ((h.around_perm (List.getElem_mem hj)).subset hy)).2
  have:=hs i j hi hj hij
  omega
 ·
  rw [List.mem_flatMap]
  constructor
  ·
   rintro ⟨n,hn,hd⟩
   exact (h.dartL_start ((h.around_perm hn).subset hd)).1
  ·
   intro hd
   obtain ⟨n,hn,-,hm⟩:=h.start_node hd
   exact ⟨n,hn,(h.around_perm hn).symm.subset hm⟩
end
end Go.Proofs.YtpempeioeiaijaaGreat
namespace Go.Proofs.YtpempeioeiaijaaGreat
open Go.RowKit

theorem ArRes.form {w:World} {r:Option Ar} {e:Ending} {w':World} (h:ArRes w r e w'):∃ A c,e=.returned (.tuple #[.agg #[.int .i64 (r.getD ar0).id,.int .i64 (r.getD ar0).fr,.int .i64 (r.getD ar0).dst,.slice A (r.getD ar0).via.length c,.int .i64 (r.getD ar0).left,.int .i64 (r.getD ar0).right],.bool r.isSome])∧Below w.heap.size w w'∧Pts w' (.slice A (r.getD ar0).via.length c) (r.getD ar0).via:=by
 obtain ⟨v',rfl,hb,hp⟩:=h
 obtain ⟨A,c,rfl,h1,h2,h3⟩:=hp
 exact ⟨A,c,rfl,hb,A,c,rfl,h1,h2,h3⟩
theorem wfI_bd {n:Int} (h:wfI n):-9223372036854775808≤n∧n≤9223372036854775807:=by
 unfold wfI Lit.wf at h
 simp only [Bool.and_eq_true,decide_eq_true_eq] at h
 have h1:IntKind.i64.min=-9223372036854775808:=by decide
 have h2:IntKind.i64.max=9223372036854775807:=by decide
 rw [h1,h2] at h
 exact h
theorem arcD_max {p:Pl} {d:Int} (h0:d≠0) (h1:d≠-9223372036854775808):findAr p.arcs (max d (-d))=arcD p d:=by
 unfold arcD minI absI
 rw [if_neg (by omega)]
 congr 1
 split<;>omega

def ArResI (w:World) (r:Option Ar) (e:Ending) (w':World):Prop :=
 ∃ A n c,e=.returned (.tuple #[.agg #[.int .i64 (r.getD ar0).id,.int .i64 (r.getD ar0).fr,.int .i64 (r.getD ar0).dst,.slice A n c,.int .i64 (r.getD ar0).left,.int .i64 (r.getD ar0).right],.bool r.isSome])∧Below w.heap.size w w'
set_option maxRecDepth 100000 in
set_option maxHeartbeats 4000000 in
theorem arcOf_spec (v:Value) (p:Pl) (d:Int) (w:World) (h:PlV w v p) (hs:ShortL p) (hd:wfI d):Calls Tryz.prog 164 #[v,.int .i64 d] w (ArResI w (arcD p d)):=by
 have TA:=fun W (hW:Below w.heap.size w W)=>Arc_specL v p (max d (-d)) W (h.mono hW) hs
 obtain ⟨_,_,_,al,rfl,hpa,⟨An,cn,rfl,-⟩,⟨⟨Aa,ca,rfl,-⟩,-⟩,⟨Af,cf,rfl,-⟩⟩:=h
 generalize al.length=na at *
 generalize p.nodes.length=nn at *
 generalize p.faces.length=nf at *
 clear hpa
 by_cases h0:d=0
 ·
  subst h0
  have hz:arcD p 0=none:=by unfold arcD;rw [if_pos (.inl rfl)]
  rw [hz]
  clear TA hz
  go_enter Tryz.func164,Tryz.ntmps164
  go_upto_region 1 with fail
  obtain ⟨W,hW⟩:∃ W:World,W=(w.alloc (.cells #[.slice An nn cn,.slice Aa na ca,.slice Af nf cf] 34)).alloc (.cells #[.int .i64 0,.int .i64 0,.int .i64 0,.slice none 0 0,.int .i64 0,.int .i64 0] 50):=⟨_,rfl⟩
  have Bw:Below w.heap.size w W:=by rw [hW];exact bA (bA (bR w) _) _
  have X4:Blk W (w.heap.size+1) 50 #[.int .i64 0,.int .i64 0,.int .i64 0,.slice none 0 0,.int .i64 0,.int .i64 0]:=by rw [hW];exact Blk.made (by simp) _ _
  rw [← hW]
  clear hW
  obtain ⟨X4l,X4a,X4b,X4c,X4d,X4e,X4f,X4fa,X4fb,X4fc,X4fd,X4fe,X4ff⟩:=X4.facts6
  go_wp2_with fail
  refine res_cell_tmp (g:=w.heap.size+1) (cs:=#[.int .i64 0,.int .i64 0,.int .i64 0,.slice none 0 0,.int .i64 0,.int .i64 0]) rfl struct_ar rfl rfl (Blk.put6 X4) ⟨none,0,0,rfl,?_⟩
  repeat (first | with_reducible exact bR _ | with_reducible assumption | with_reducible refine bA ?_ _ | with_reducible refine bD ?_ | with_reducible refine bN ?_ _ | ((with_reducible refine bS ?_ ?_ _);rotate_left;(simp;try omega)) | ((with_reducible refine bT ?_ ?_);rotate_left;with_reducible assumption) | with_reducible refine bT ?_ (by assumption))
 by_cases h1:d=-9223372036854775808
 ·
  subst h1
  have hz:arcD p (-9223372036854775808)=none:=by unfold arcD;rw [if_pos (.inr rfl)]
  rw [hz]
  clear TA hz h0
  go_enter Tryz.func164,Tryz.ntmps164
  go_upto_region 1 with fail
  obtain ⟨W,hW⟩:∃ W:World,W=(w.alloc (.cells #[.slice An nn cn,.slice Aa na ca,.slice Af nf cf] 34)).alloc (.cells #[.int .i64 0,.int .i64 0,.int .i64 0,.slice none 0 0,.int .i64 0,.int .i64 0] 50):=⟨_,rfl⟩
  have Bw:Below w.heap.size w W:=by rw [hW];exact bA (bA (bR w) _) _
  have X4:Blk W (w.heap.size+1) 50 #[.int .i64 0,.int .i64 0,.int .i64 0,.slice none 0 0,.int .i64 0,.int .i64 0]:=by rw [hW];exact Blk.made (by simp) _ _
  rw [← hW]
  clear hW
  try clear X4l
  try clear X4a
  try clear X4b
  try clear X4c
  try clear X4d
  try clear X4e
  try clear X4f
  try clear X4fa
  try clear X4fb
  try clear X4fc
  try clear X4fd
  try clear X4fe
  try clear X4ff
  obtain ⟨X4l,X4a,X4b,X4c,X4d,X4e,X4f,X4fa,X4fb,X4fc,X4fd,X4fe,X4ff⟩:=X4.facts6
  go_wp2_with fail
  refine res_cell_tmp (g:=w.heap.size+1) (cs:=#[.int .i64 0,.int .i64 0,.int .i64 0,.slice none 0 0,.int .i64 0,.int .i64 0]) rfl struct_ar rfl rfl (Blk.put6 X4) ⟨none,0,0,rfl,?_⟩
  repeat (first | with_reducible exact bR _ | with_reducible assumption | with_reducible refine bA ?_ _ | with_reducible refine bD ?_ | with_reducible refine bN ?_ _ | ((with_reducible refine bS ?_ ?_ _);rotate_left;(simp;try omega)) | ((with_reducible refine bT ?_ ?_);rotate_left;with_reducible assumption) | with_reducible refine bT ?_ (by assumption))
 rw [arcD_max h0 h1] at TA
 have hb:=wfI_bd hd
 have k1:IntKind.i64.wrap (-d)=-d:=IntWalk.i64_in _ (by omega)
 have e0:(d == 0)=false:=by simpa using h0
 have e1:(d == -9223372036854775808)=false:=by simpa using h1
 have HA:=Lib.hid TA
 clear TA h0 h1 hd hb
 generalize arcD p d=r at *
 go_enter Tryz.func164,Tryz.ntmps164
 go_upto_region 1 with fail
 obtain ⟨W,hW⟩:∃ W:World,W=(w.alloc (.cells #[.slice An nn cn,.slice Aa na ca,.slice Af nf cf] 34)).alloc (.cells #[.int .i64 0,.int .i64 0,.int .i64 0,.slice none 0 0,.int .i64 0,.int .i64 0] 50):=⟨_,rfl⟩
 have Bw:Below w.heap.size w W:=by rw [hW];exact bA (bA (bR w) _) _
 have X4:Blk W (w.heap.size+1) 50 #[.int .i64 0,.int .i64 0,.int .i64 0,.slice none 0 0,.int .i64 0,.int .i64 0]:=by rw [hW];exact Blk.made (by simp) _ _
 have X2:Blk W w.heap.size 34 #[.slice An nn cn,.slice Aa na ca,.slice Af nf cf]:=by rw [hW];exact (Blk.made rfl _ _).alloc _
 rw [← hW]
 clear hW
 obtain ⟨X2l,X2a,X2b,X2c,-,-,-⟩:=X2.facts3
 go_wp2_with fail
 refine (HA.out _ Bw).mono ?_
 intro e w1 har
 obtain ⟨A1,c1,rfl,hb1,-⟩:=har.form
 have Bw:=bT Bw hb1
 replace X4:=X4.keep hb1
 clear har hb1 X2 X2l X2a X2b X2c
 try clear X4l
 try clear X4a
 try clear X4b
 try clear X4c
 try clear X4d
 try clear X4e
 try clear X4f
 try clear X4fa
 try clear X4fb
 try clear X4fc
 try clear X4fd
 try clear X4fe
 try clear X4ff
 obtain ⟨X4l,X4a,X4b,X4c,X4d,X4e,X4f,X4fa,X4fb,X4fc,X4fd,X4fe,X4ff⟩:=X4.facts6
 generalize hvl:(r.getD ar0).via.length=vl at *
 go_wp2_with fail
 refine res_cell_tmp (g:=w.heap.size+1) (cs:=#[.int .i64 (r.getD ar0).id,.int .i64 (r.getD ar0).fr,.int .i64 (r.getD ar0).dst,.slice A1 vl c1,.int .i64 (r.getD ar0).left,.int .i64 (r.getD ar0).right]) rfl struct_ar rfl rfl (Blk.put6 X4) ⟨A1,vl,c1,rfl,?_⟩
 repeat (first | with_reducible exact bR _ | with_reducible assumption | with_reducible refine bA ?_ _ | with_reducible refine bD ?_ | with_reducible refine bN ?_ _ | ((with_reducible refine bS ?_ ?_ _);rotate_left;(simp;try omega)) | ((with_reducible refine bT ?_ ?_);rotate_left;with_reducible assumption) | with_reducible refine bT ?_ (by assumption))

end Go.Proofs.YtpempeioeiaijaaGreat
namespace Go.Proofs.YtpempeioeiaijaaGreat
open Go.RowKit

def crossG (a b:Pt):Int:=a.x*b.y-b.x*a.y
def twUp (P:List Pt):Nat→Int
 | 0=>0
 | k+1=>twUp P k+crossG (P.getD k pt0) (P.getD (k+1) pt0)
def twiceP (P:List Pt):Int:=twUp P (P.length-1)
def dartT (p:Pl) (d:Int):Int:=match arcD p d with
 | none=>0
 | some a=>if 0<d then twiceP (pathS p a) else -twiceP (pathS p a)
def twiceUp (p:Pl) (l:List Int):Nat→Int
 | 0=>0
 | k+1=>twiceUp p l k+dartT p (l.getD k 0)
def twiceD (p:Pl) (l:List Int):Int:=if l.length≤512∧(∀ d∈l,(arcD p d).isSome=true) then twiceUp p l l.length else 0

def big1 (p:Pt):Prop:=(-1048576≤p.x∧p.x≤1048576)∧(-1048576≤p.y∧p.y≤1048576)
theorem mul_big {u v:Int} (hu:-1048576≤u∧u≤1048576) (hv:-1048576≤v∧v≤1048576):-1099511627776≤u*v∧u*v≤1099511627776:=by
 have:=mul_bd u v 1048576 hu.1 hu.2 hv.1 hv.2
 simpa using this
theorem crossG_bd {a b:Pt} (ha:big1 a) (hb:big1 b):-2199023255552≤crossG a b∧crossG a b≤2199023255552:=by
 have h1:=mul_big ha.1 hb.2
 have h2:=mul_big hb.1 ha.2
 unfold crossG
 omega
theorem twUp_bd {P:List Pt} (h:∀ q∈P,big1 q) (k:Nat) (hk:k+1≤P.length∨k=0):-(2199023255552*(k:Int))≤twUp P k∧twUp P k≤2199023255552*(k:Int):=by
 induction k with
 | zero=>simp [twUp]
 | succ k ih =>
  have ih:=ih (by omega)
  have g:∀ j,j<P.length→big1 (P.getD j pt0):=fun j hj=>by
   rw [List.getD_eq_getElem?_getD,List.getElem?_eq_getElem hj]
   exact h _ (List.getElem_mem hj)
  have:=crossG_bd (g k (by omega)) (g (k+1) (by omega))
  rw [twUp]
  omega
theorem big_of {q:Pt} (h:ptOk q=true):big1 q:=by
 unfold ptOk at h
 simp only [Bool.and_eq_true,decide_eq_true_eq] at h
 unfold big1
 omega
theorem arcD_mem {p:Pl} {d:Int} {a:Ar} (e:arcD p d=some a):a∈p.arcs∧absI d=a.id:=by
 unfold arcD at e
 split at e
 · cases e
 · exact ⟨List.mem_of_find?_eq_some e,by have:=List.find?_some e;exact (show a.id=absI d by simpa using this).symm⟩
section
variable {p:Pl} (h:Valid p)
include h
theorem Valid.big_path {a:Ar} (ha:a∈p.arcs) {q:Pt} (hq:q∈pathS p a):big1 q:=by
 have hr:=h.rng
 unfold rangesS at hr
 simp only [Bool.and_eq_true,List.all_eq_true] at hr
 have key:∀ q∈pointsS p,big1 q:=fun q hq=>big_of (hr.2 q hq)
 unfold pathS at hq
 rcases List.mem_cons.1 hq with rfl | hq
 ·
  obtain ⟨n,hn,-,e⟩:=h.sound.at_fr ha
  rw [e];exact key _ (List.mem_append_left _ (List.mem_map_of_mem hn))
 ·
  rcases List.mem_append.1 hq with hq | hq
  · exact key _ (List.mem_append_right _ (List.mem_flatMap.2 ⟨a,ha,hq⟩))
  ·
   rw [List.mem_singleton] at hq
   subst hq
   obtain ⟨n,hn,-,e⟩:=h.sound.at_dst ha
   rw [e];exact key _ (List.mem_append_left _ (List.mem_map_of_mem hn))
theorem Valid.via_len {a:Ar} (ha:a∈p.arcs):a.via.length≤64:=by
 have hl:=h.lim
 unfold limS at hl
 rw [Bool.or_eq_false_iff,List.any_eq_false] at hl
 have:=hl.1 a ha
 simpa using this
theorem Valid.twice_bd {a:Ar} (ha:a∈p.arcs) (k:Nat) (hk:k+1≤(pathS p a).length):-142936511610880≤twUp (pathS p a) k∧twUp (pathS p a) k≤142936511610880:=by
 have h1:=twUp_bd (P:=pathS p a) (fun q hq=>h.big_path ha hq) k (.inl hk)
 have h2:=h.via_len ha
 have h3:=pathS_length p a
 omega
theorem Valid.dartT_bd (d:Int):-142936511610880≤dartT p d∧dartT p d≤142936511610880:=by
 unfold dartT
 cases e:arcD p d with
 | none=>simp
 | some a =>
  have ha:=(arcD_mem e).1
  have h3:=pathS_length p a
  have:=h.twice_bd ha ((pathS p a).length-1) (by omega)
  unfold twiceP
  simp only []
  split<;>omega
theorem Valid.twiceUp_bd (l:List Int) (k:Nat):-(142936511610880*(k:Int))≤twiceUp p l k∧twiceUp p l k≤142936511610880*(k:Int):=by
 induction k with
 | zero=>simp [twiceUp]
 | succ k ih =>
  have:=h.dartT_bd (l.getD k 0)
  rw [twiceUp]
  omega
end
end Go.Proofs.YtpempeioeiaijaaGreat
namespace Go.Proofs.YtpempeioeiaijaaGreat
open Go.RowKit

theorem Valid.short {p:Pl} (h:Valid p):Short p:=fun a ha=>by have:=h.via_len ha;omega
theorem Short.long {p:Pl} (h:Short p):ShortL p:=fun a ha=>by have:=h a ha;omega
theorem Valid.path_of {p:Pl} (h:Valid p) {d:Int} {a:Ar} (e:arcD p d=some a):pathOf p (absI d)=some (pathS p a):=by
 obtain ⟨ha,hi⟩:=arcD_mem e
 rw [hi];exact h.sound.path ha
theorem max_abs (d:Int):max d (-d)=absI d:=by unfold absI;split<;>omega
theorem twiceUp_some {p:Pl} {l:List Int} {k:Nat} (hk:k<l.length) {a:Ar} (e:arcD p l[k]=some a):twiceUp p l (k+1)=twiceUp p l k+(if 0<l[k] then twiceP (pathS p a) else -twiceP (pathS p a)):=by
 have:l.getD k 0=l[k]:=by rw [List.getD_eq_getElem?_getD,List.getElem?_eq_getElem hk];rfl
 rw [twiceUp,this]
 unfold dartT
 rw [e]
theorem twiceD_bad {p:Pl} {l:List Int} {k:Nat} (hk:k<l.length) (e:arcD p l[k]=none):twiceD p l=0:=by
 unfold twiceD
 rw [if_neg]
 rintro ⟨-,h⟩
 have:=h _ (List.getElem_mem hk)
 rw [e] at this;cases this
theorem twiceD_good {p:Pl} {l:List Int} (hl:l.length≤512) (h:∀ j (hj:j<l.length),j<l.length→(arcD p l[j]).isSome=true):twiceD p l=twiceUp p l l.length:=by
 unfold twiceD
 rw [if_pos]
 refine ⟨hl,fun d hd=>?_⟩
 obtain ⟨j,hj,rfl⟩:=List.mem_iff_getElem.1 hd
 exact h j hj hj

set_option maxRecDepth 100000 in
set_option maxHeartbeats 8000000 in
theorem Twice15w_spec (v u:Value) (p:Pl) (l:List Int) (w:World) (h:PlV w v p) (hu:Ints w u l) (hv:Valid p) (hw:∀ d∈l,wfI d) :
  Calls Tryz.prog 123 #[v,u] w fun e w'=>e=.returned (.int .i64 (twiceD p l))∧Below w.heap.size w w':=by
 have HA:=Lib.hid (fun d (hd:wfI d) W (hW:Below w.heap.size w W)=>arcOf_spec v p d W (h.mono hW) hv.short.long hd)
 have HP:=Lib.hid (fun id W (hW:Below w.heap.size w W)=>Path_spec v p id W (h.mono hW) hv.short)
 obtain ⟨_,_,_,al,rfl,hpa,⟨An,cn,rfl,-⟩,⟨⟨Aa,ca,rfl,-⟩,-⟩,⟨Af,cf,rfl,-⟩⟩:=h
 obtain ⟨Al,cl,rfl,hl1,hl2,hR⟩:=hu
 unfold maxLen at hl2
 have HR:=Lib.hid hR
 have HV:=Lib.hid hv
 have HW:=Lib.hid hw
 generalize al.length=na at *
 generalize p.nodes.length=nn at *
 generalize p.faces.length=nf at *
 obtain ⟨q,hq⟩:∃ q,twiceD p l=q:=⟨_,rfl⟩
 rw [hq]
 have Hq:=Lib.hid hq
 clear hpa hR hv hw hq
 go_enter Tryz.func123,Tryz.ntmps123
 by_cases hbig:512<l.length
 case pos =>
  have hbig':512<(l.length:Int):=by omega
  have hf:q=0:=by rw [← Hq.out];unfold twiceD;rw [if_neg (by omega)]
  subst hf
  go_wp2_with fail
  go_ret
  exact ⟨rfl,bA (bR w) _⟩
 have hbig':¬ 512<(l.length:Int):=by omega
 go_wp2_with fail
 obtain ⟨W0,hW⟩:∃ W0:World,W0=w.alloc (.cells #[.slice An nn cn,.slice Aa na ca,.slice Af nf cf] 34):=⟨_,rfl⟩
 have HB0:=Lib.hid (show Below w.heap.size w W0 by rw [hW];exact bA (bR w) _)
 have HX2:=Lib.hid (show Blk W0 w.heap.size 34 #[.slice An nn cn,.slice Aa na ca,.slice Af nf cf] by rw [hW];exact Blk.made rfl _ _)
 rw [← hW]
 clear hW
 go_loopw [4,18] (fun n i wr=>∃ k:Nat,k≤l.length∧i=.int .i64 k∧n=.int .i64 (twiceUp p l k)∧Below W0.heap.size W0 wr∧∀ j (hj:j<l.length),j<k→(arcD p l[j]).isSome=true) (fun _ i _=>l.length-(intOf i).toNat)
 case atStart => exact ⟨0,Nat.zero_le _,rfl,rfl,bR W0,fun _ _ h=>by omega⟩
 case round =>
  obtain ⟨k,hk,rfl,rfl,hb,hno⟩:=hrel
  have Hb:=Lib.hid hb
  have Hno:=Lib.hid hno
  have X2:=HX2.out.keep hb
  clear hb hno
  obtain ⟨X2l,X2a,X2b,X2c,-,-,-⟩:=X2.facts3
  by_cases hlt:k<l.length
  case neg =>
   have hkk:k=l.length:=by omega
   subst hkk
   have hf:=twiceD_good (p:=p) (l:=l) (by omega) Hno.out
   rw [Hq.out] at hf
   have HF:=Lib.hid hf
   clear hf
   go_wp2_with fail
   go_ret
   exact ⟨ret_int HF.out.symm,bT HB0.out Hb.out⟩
  obtain ⟨b,o,rfl,hlb,c0⟩:=(HR.out.mono (bT HB0.out Hb.out)).int hlt
  have hwd:=HW.out _ (List.getElem_mem hlt)
  have HAr:=Lib.hid (HA.out l[k] hwd)
  cases har:arcD p l[k] with
  | none =>
   rw [har] at HAr
   have hf:=twiceD_bad hlt har
   rw [Hq.out] at hf
   subst hf
   clear har hwd
   go_wp2_with fail
   refine (HAr.out _ (bT HB0.out Hb.out)).mono ?_
   rintro e w1 ⟨A1,n1,c1,rfl,hb1⟩
   have B1:=Lib.hid (bT Hb.out hb1)
   clear hb1
   simp only [Option.isSome_none]
   go_wp2_with fail
   go_ret
   exact ⟨rfl,bT HB0.out (bA B1.out _)⟩
  | some a =>
  rw [har] at HAr
  have hst:=twiceUp_some hlt har
  have hpo:=HV.out.path_of har
  have ha:=(arcD_mem har).1
  have hpl:=pathS_length p a
  have hvl:=HV.out.via_len ha
  have HTb:=Lib.hid (fun k hk=>HV.out.twice_bd ha k hk)
  have hub:=HV.out.twiceUp_bd l k
  have hne:l[k]≠-9223372036854775808∧l[k]≠0:=by
   constructor
   · intro e;rw [e] at har;unfold arcD at har;rw [if_pos (.inr rfl)] at har;cases har
   · intro e;rw [e] at har;unfold arcD at har;rw [if_pos (.inl rfl)] at har;cases har
  have hbd:=wfI_bd hwd
  have HPt:=Lib.hid (HP.out (max l[k] (-l[k])))
  have hpm:pathOf p (max l[k] (-l[k]))=some (pathS p a):=by rw [max_abs];exact hpo
  rw [hpm] at HPt
  unfold RetPathE at HPt
  simp only [Option.getD_some,Option.isSome_some,if_true] at HPt
  have HSt:=Lib.hid hst
  have HSo:=Lib.hid (show (arcD p l[k]).isSome=true by rw [har];rfl)
  have HNx:=Lib.hid (all_succ (p:=fun d=>(arcD p d).isSome=true) Hno.out hlt HSo.out)
  have hk1:IntKind.i64.wrap (-l[k])=-l[k]:=IntWalk.i64_in _ (by omega)
  have HBig:=Lib.hid (fun q (hq:q∈pathS p a)=>HV.out.big_path ha hq)
  have HTl:=Lib.hid (HTb.out ((pathS p a).length-1) (by omega))
  have HNe:=Lib.hid hne
  have HSz:=Lib.hid (show k+1≤512 by omega)
  clear hst hpo har hwd hpm hne hbd
  unfold twiceP at HSt
  generalize twiceUp p l k=n at *
  generalize hP:pathS p a=P at *
  generalize l[k]=d at *
  generalize a.via.length=vl at *
  go_wp2_with fail
  refine (HAr.out _ (bT HB0.out Hb.out)).mono ?_
  rintro e w1 ⟨A1,n1,c1,rfl,hb1⟩
  replace X2:=X2.keep hb1
  have B1:=Lib.hid (bT Hb.out hb1)
  clear hb1 X2l X2a X2b X2c HAr c0 hlb
  simp only [Option.isSome_some,Option.getD_some]
  try clear X2l
  try clear X2a
  try clear X2b
  try clear X2c
  obtain ⟨X2l,X2a,X2b,X2c,-,-,-⟩:=X2.facts3
  go_wp2_with fail
  refine (HPt.out _ (bT HB0.out (bA B1.out _))).mono ?_
  rintro e w2 ⟨A2,c2,rfl,hb2,ho2⟩
  have B2:=Lib.hid (bT (bA B1.out _) hb2)
  obtain ⟨Aq,cq,he,hq1,hq2,hRP⟩:=ho2.sl
  injection he with e1 e2 e3
  subst e1 e3
  clear e2
  unfold maxLen at hq2
  have HRP:=Lib.hid hRP
  clear hb2 ho2 hRP HPt X2 X2l X2a X2b X2c
  obtain ⟨N,hN⟩:∃ N,P.length=N+1:=⟨P.length-1,by omega⟩
  have HN:=Lib.hid hN
  have hNs:N≤65:=by omega
  rw [hN] at HTl HSt
  simp only [Nat.add_sub_cancel] at HTl HSt
  have k2:IntKind.i64.wrap (N:Int)=(N:Int):=IntWalk.i64_in _ (by omega)
  rw [hN] at hq1 ⊢
  clear hN hpl hvl
  go_wp2_with fail
  obtain ⟨W2,rfl⟩:∃ W2:World,W2=w2:=⟨_,rfl⟩
  go_loopw [11,44] (fun s i wx=>∃ j:Nat,j≤N∧i=.int .i64 j∧s=.int .i64 (twUp P j)∧Below W2.heap.size W2 wx) (fun _ i _=>N-(intOf i).toNat)
  case atStart => exact ⟨0,Nat.zero_le _,rfl,rfl,bR W2⟩
  case round =>
   obtain ⟨j,hj,rfl,rfl,hbx⟩:=hrel
   have Hbx:=Lib.hid hbx
   clear hbx
   by_cases hjl:j<N
   case pos =>
    have hP1:j<P.length:=by have:=HN.out;omega
    have hP2:j+1<P.length:=by have:=HN.out;omega
    obtain ⟨b1,o1,hA1,hlb1,c0,c1'⟩:=(HRP.out.mono Hbx.out).pt hP1
    subst hA1
    obtain ⟨b2,o2,hA2,-,d0,d1⟩:=(HRP.out.mono Hbx.out).pt hP2
    simp only [Option.some.injEq,Addr.mk.injEq,and_true] at hA2
    obtain ⟨rfl,rfl⟩:=hA2
    have g1:=HBig.out _ (List.getElem_mem hP1)
    have g2:=HBig.out _ (List.getElem_mem hP2)
    have x1:=mul_big g1.1 g2.2
    have x2:=mul_big g2.1 g1.2
    have tb:=HTb.out j (by have:=HN.out;omega)
    have tb2:=HTb.out (j+1) (by have:=HN.out;omega)
    have hstep:twUp P (j+1)=twUp P j+(P[j].x*P[j+1].y-P[j+1].x*P[j].y):=by
     rw [twUp]
     unfold crossG
     simp only [List.getD_eq_getElem?_getD,List.getElem?_eq_getElem hP1,List.getElem?_eq_getElem hP2,Option.getD_some]
    rw [hstep] at tb2
    have HStep:=Lib.hid hstep
    clear hstep g1 g2
    generalize P[j]=p1 at *
    generalize P[j+1]=p2 at *
    generalize hT:twUp P j=T at *
    have q1:0≤(j:Int):=by omega
    have q2:(j:Int)<(N:Int)+1:=by omega
    have q3:0≤(j:Int)+1:=by omega
    have q4:(j:Int)+1<(N:Int)+1:=by omega
    have q5:((j:Int)+1).toNat=j+1:=by omega
    have m0:IntKind.i64.wrap ((j:Int)+1)=(j:Int)+1:=IntWalk.i64_in _ (by omega)
    have m1:IntKind.i64.wrap (p1.x*p2.y)=p1.x*p2.y:=IntWalk.i64_in _ (by omega)
    have m2:IntKind.i64.wrap (p2.x*p1.y)=p2.x*p1.y:=IntWalk.i64_in _ (by omega)
    have m3:IntKind.i64.wrap (p1.x*p2.y-p2.x*p1.y)=p1.x*p2.y-p2.x*p1.y:=IntWalk.i64_in _ (by omega)
    have m4:IntKind.i64.wrap (T+(p1.x*p2.y-p2.x*p1.y))=T+(p1.x*p2.y-p2.x*p1.y):=IntWalk.i64_in _ (by omega)
    clear x1 x2 tb tb2 hT hub
    go_upto_region 16 with fail
    refine rg_start (Since wr) (.run 28 0 0 (.done)) (by kernel_rfl) (bD (bR _)) (by kernel_rfl) (by kernel_rfl) (Nat.le_of_ble_eq_true (by kernel_rfl)) ?_
    intro opsR QR Hops HQrg hS
    iterate 28
     apply rg_p;exact Hops;exact rfl;exact hS;exact rfl
     · intro _ hqc;go_simp;try rfl
     try simp only [pu]
    refine rg_done ?_
    refine HQrg.down _ _ ?_
    have hB:Below wr.heap.size wr wr.drew:=hS
    clear hS HQrg Hops
    have Bx:=Lib.hid (bT Hbx.out hB)
    clear hB m0 m1 m2 m3 m4
    go_wp2_with fail
    go_roundw
    case rel => exact ⟨j+1,by omega,by go_num,by rw [HStep.out],Bx.out⟩
    case measure => simp [intOf];omega
   case neg =>
   have hjj:j=N:=by omega
   subst hjj
   have htl:=HTl.out
   have hsz:=HSz.out
   have Bx:=Lib.hid (bT B2.out Hbx.out)
   generalize hT:twUp P j=T at *
   clear hT
   by_cases hneg:d<0
   ·
    have hst:=HSt.out
    rw [if_neg (by omega)] at hst
    have HSt':=Lib.hid hst
    have m1:IntKind.i64.wrap (-T)=-T:=IntWalk.i64_in _ (by omega)
    have m2:IntKind.i64.wrap (n + -T)=n + -T:=IntWalk.i64_in _ (by omega)
    clear hst htl hub hsz
    go_wp2_with fail
    go_roundw
    case rel => exact ⟨k+1,by omega,by go_num,by rw [HSt'.out],Bx.out,HNx.out⟩
    case measure => simp [intOf];omega
   ·
    have hst:=HSt.out
    rw [if_pos (by have:=HNe.out.2;omega)] at hst
    have HSt':=Lib.hid hst
    have m2:IntKind.i64.wrap (n+T)=n+T:=IntWalk.i64_in _ (by omega)
    clear hst htl hub hsz
    go_wp2_with fail
    go_roundw
    case rel => exact ⟨k+1,by omega,by go_num,by rw [HSt'.out],Bx.out,HNx.out⟩
    case measure => simp [intOf];omega

end Go.Proofs.YtpempeioeiaijaaGreat
namespace Go.Proofs.YtpempeioeiaijaaGreat
open Go.RowKit

def linkF (F:Int→Int) (a b:Int) (i:Int):Int:=if i=a then b else F i
def above0 (l:List Nd) (i:Int):Int:=if i∈l.map (·.id) then i else 0
def eulStep (K:Nat) (s:(Int→Int)×Int) (a:Ar):(Int→Int)×Int :=
 if pw s.1 a.fr K=pw s.1 a.dst K then s else (linkF s.1 (pw s.1 a.fr K) (pw s.1 a.dst K),s.2-1)
def eulSt (p:Pl) (k:Nat):(Int→Int)×Int:=(p.arcs.take k).foldl (eulStep (p.arcs.length+1)) (above0 p.nodes,(p.nodes.length:Int))
end Go.Proofs.YtpempeioeiaijaaGreat
namespace Go.Proofs.YtpempeioeiaijaaGreat
open Go.RowKit

def hY (p:Pt):Int:=8388608*p.y+p.x
instance (ux uy vx vy:Int):Decidable (ltV ux uy vx vy):=by unfold ltV lowV;infer_instance
instance (o a b:Pt):Decidable (dirLt o a b):=by unfold dirLt;infer_instance
def cr1 (a b v:Pt):Int:=if hY a<hY v∧hY v<hY b∧0<tw a b v then 1 else if hY b<hY v∧hY v<hY a∧0<tw b a v then -1 else 0
end Go.Proofs.YtpempeioeiaijaaGreat
namespace Go.Proofs.YtpempeioeiaijaaGreat
open Go.RowKit

section
variable {α β:Type}
end
def stp (f:Pt→Pt→Int) (l:List Pt):Int:=((List.range (l.length-1)).map fun k=>f (l.getD k pt0) (l.getD (k+1) pt0)).sum
def wnS (p:Pl) (z:Int→Int) (f:Pt→Pt→Int):Int:=(p.arcs.map fun a=>z a.id*stp f (pathS p a)).sum
section
variable {p:Pl} (h:Valid p)
include h
end
end Go.Proofs.YtpempeioeiaijaaGreat
