import Derived.Test.YtpempeioeiaijaaGreatJ01
import Derived.Test.YtpempeioeiaijaaGreatJ03
import Derived.Test.YtpempeioeiaijaaGreatJ04
import Derived.Test.YtpempeioeiaijaaGreatGB
set_option linter.unusedSimpArgs false
set_option linter.unusedVariables false
namespace Go.Proofs.YtpempeioeiaijaaGreat
open Go.RowKit

theorem le_maxL {n:Nat} (h:n≤8796093022208):n≤maxLen:=by
 have:maxLen=9223372036854775807:=rfl
 omega
def ShortL (p:Pl):Prop:=∀ a∈p.arcs,a.via.length≤8796093022208
theorem wpList_applL {P:Program} (w:World) {ops:Array Oper} {rest:List Oper} {o:Oper} {a:Act} {Q:Exit→Act→World→Prop} (hgd:o.guard=none) (s x:Operand) (t:TypeId)
  (ho:o.op=.call {callee:=.builtin .append,args:=#[s,x],argTypes:=#[t,t]})
  {α:Type} {f:α→List Value} {base:Nat} {e:TypeId} {size bytes:Nat} (hE:Elem P t e size bytes) (hf:∀ a,(f a).length=size) (hone:∀ a,∀ u∈f a,u.oneCell'=true)
  {v:Value} {l:List α} (hs:a.eval s=v) (hown:Own w base e size f v l)
  {src:Value} {l2:List α} (hx:a.eval x=src) (hr:Sl w src l2.length (l2.flatMap f))
  (hbytes:(l.length+l2.length)*bytes≤140737488355328) (h32:l.length+l2.length≤8796093022208) (hbase:base≤w.heap.size)
  (h:∀ v' w',Own w' base e size f v' (l++l2)→w.grownBy w' v.ownBlock→(v'.ownBlock=v.ownBlock∨v'.ownBlock=some w.heap.size)→wpList P ops Q rest (a.put o.dst v') w'):wpList P ops Q (o::rest) a w:=by
 obtain ⟨ht,i,z,hi,hz,hsize,hby,hzs,hsz⟩:=hE
 refine wpList_app w hgd s x t ho base e i z size bytes ht hi hz hsize hby hzs hsz v l.length (l.flatMap f) hs hown src l2.length (l2.flatMap f) hx hr (flat_length f size hf l2)
  (fun u hu=>?_) (le_maxL h32) hbytes hbase (fun v' w' h1 h2 h3=>h v' w' ?_ h2 h3)
 ·
  obtain ⟨a,_,hu⟩:=List.mem_flatMap.1 hu
  exact hone a u hu
 ·
  unfold Own
  rw [List.length_append,List.flatMap_append]
  exact h1
set_option maxHeartbeats 400000 in
theorem Clone_pt_specL (v:Value) (l:List Pt) (w:World) (h:Pts w v l) (hl:l.length≤8796093022208) :
  Calls Tryz.prog 38 #[v] w (RetPts w l):=by
 have H:=h
 obtain ⟨A,c,rfl,hn,hc,hR⟩:=h
 have hE:=Lib.run_eql_slice_nil (P:=Tryz.prog) (t:=25) (e:=42)
 rcases A with _ | ad
 ·
  have hl0:l=[]:=by
   rcases l with _ | ⟨a,l⟩
   · rfl
   ·
    obtain ⟨b,o,e,_⟩:=hR (by simp [ptC])
    cases e
  subst hl0
  clear hR H
  simp only [List.length_nil] at hn ⊢
  have hE1:∀ W:World,(binOp .eql 25 (.slice none 0 c) (.slice none 0 0)).run Tryz.prog W=.ok (.bool true) W:=fun W=>Lib.run_eql_slice_nil W _ 42 none _ c 0 0 Tryz.underlying25
  clear hE
  go_enter Tryz.func38,Tryz.ntmps38
  go_wp2
  go_ret
  exact ⟨_,_,rfl,bR w,Own.nil _ _ _ _ _⟩
 ·
  have hE1:∀ W:World,(binOp .eql 25 (.slice (some ad) l.length c) (.slice none 0 0)).run Tryz.prog W=.ok (.bool false) W:=fun W=>Lib.run_eql_slice_nil W _ 42 (some ad) _ c 0 0 Tryz.underlying25
  clear hE hR
  have HH:=Lib.hid H;clear H
  go_enter Tryz.func38,Tryz.ntmps38
  go_wp2_with
   (at_builtin
    refine wpList_applL _ rfl (.tmp 5) (.tmp 6) _ rfl (base:=w.heap.size) elem_pt ptC_len ptC_one rfl (Own.lit _ _ _ _ ptC [] _ 0 _ rfl rfl (Nat.le_refl _) (le_maxLen (by omega)) rfl rfl) rfl (HH.out.mono (bA (bR w) _)) (by simp only [List.length_nil];omega) (by simp only [List.length_nil];omega) (by simp) ?_
    intro v1 w1 hown hg hat)
  go_ret
  obtain ⟨A1,c1,rfl,-⟩:=Own.sl hown
  simp only [List.nil_append] at hown ⊢
  exact ⟨A1,c1,rfl,bG (bA (bR w) _) hg (fun k hk=>by have:w.heap.size=k:=Option.some.inj hk;omega),hown⟩

set_option maxHeartbeats 4000000 in
theorem Arc_specL (v:Value) (p:Pl) (id:Int) (w:World) (h:PlV w v p) (hsh:ShortL p) :
  Calls Tryz.prog 60 #[v,.int .i64 id] w (ArRes w (findAr p.arcs id)):=by
 obtain ⟨vn,_,vf,al,rfl,hpa,-,⟨⟨An,cn,rfl,hn1,hn2,hR⟩,hV⟩,-⟩:=h
 unfold maxLen at hn2
 unfold ShortL at hsh
 rw [hpa] at hsh ⊢
 clear hpa
 have hsh':∀ k (hk:k<al.length),al[k].1.via.length≤8796093022208:=fun k hk=>hsh _ (List.mem_map_of_mem (List.getElem_mem hk))
 have HV:=Lib.hid hV;clear hV hsh
 have HSh:=Lib.hid hsh';clear hsh'
 go_enter Tryz.func60,Tryz.ntmps60
 go_wp2_with fail
 go_loopw [11] (fun i wr=>∃ k:Nat,k≤al.length∧i=.int .i64 k∧Below w.heap.size w wr∧Blk wr (w.heap.size+1) 50 #[.int .i64 0,.int .i64 0,.int .i64 0,.slice none 0 0,.int .i64 0,.int .i64 0]∧∀ j (hj:j<al.length),j<k→(al[j].1.id == id)=false) (fun i _=>al.length-(intOf i).toNat)
 case atStart => exact ⟨0,Nat.zero_le _,rfl,bA (bA (bR w) _) _,Blk.made (by simp) _ _,fun j _ h=>by omega⟩
 case round =>
  obtain ⟨k,hk,rfl,hb,X4,hno⟩:=hrel
  have Hb:=Lib.hid hb
  have Hno:=Lib.hid hno
  clear hb hno
  obtain ⟨X4l,X4a,X4b,X4c,X4d,X4e,X4f,X4fa,X4fb,X4fc,X4fd,X4fe,X4ff⟩:=X4.facts6
  by_cases hlt:k<al.length
  ·
   obtain ⟨b,o,rfl,hlb,c0,c1,c2,c3,c4,c5⟩:=(hR.mono Hb.out).ar hlt
   have HR:=Lib.hid hR;clear hR
   have hvk:=(HV.out k hlt)
   obtain ⟨Av,cv,hv,-⟩:=hvk
   have hvk:=(HV.out k hlt)
   rw [hv] at c3 hvk
   generalize hvl:al[k].1.via.length=vl at *
   have Hvl:=Lib.hid hvl
   have Hvk:=Lib.hid hvk;clear hvk hv hvl
   cases he:(al[k].1.id == id)
   ·
    go_wp2
    go_roundw
    case rel => exact ⟨k+1,by omega,by go_num,bA Hb.out _,X4.alloc _,all_succ (p:=fun x=>(x.1.id == id)=false) Hno.out hlt he⟩
    case measure => simp [intOf];omega
   ·
    have hf:=findAr_hit al id k hlt Hno.out he
    have Hf:=Lib.hid hf;clear hf
    go_wp2_with fail
    refine (Clone_pt_specL _ _ _ (Hvk.out.mono (bA Hb.out _)) (HSh.out k hlt)).mono ?_
    rintro e w1 ⟨A1,cc1,rfl,hb1,hown⟩
    have Bw:Below w.heap.size w w1:=bT (bA Hb.out _) hb1
    have X7:Blk w1 wr.heap.size 50 #[.int .i64 al[k].1.id,.int .i64 al[k].1.fr,.int .i64 al[k].1.dst,.slice Av vl cv,.int .i64 al[k].1.left,.int .i64 al[k].1.right]:=(Blk.made rfl _ _).keep hb1
    have hw8:w.heap.size+1<wr.heap.size:=by omega
    have hw7:w.heap.size+1≠wr.heap.size:=by omega
    replace X4:=(X4.alloc _).keep hb1
    have hown':=hown.mono_base (b':=wr.heap.size+1) (by simp)
    have hP:=Own.sl hown
    have Hown:=Lib.hid hown'
    clear hb1 c0 c1 c2 c3 c4 c5 hlb hown hown' hP
    try clear X4l
    try clear X4a
    try clear X4b
    try clear X4c
    try clear X4d
    try clear X4e
    try clear X4f
    try clear X4fa
    try clear X4fb
    try clear X4fc
    try clear X4fd
    try clear X4fe
    try clear X4ff
    obtain ⟨X4l,X4a,X4b,X4c,X4d,X4e,X4f,X4fa,X4fb,X4fc,X4fd,X4fe,X4ff⟩:=X4.facts6
    obtain ⟨X7l,X7a,X7b,X7c,X7d,X7e,X7f,X7fa,X7fb,X7fc,X7fd,X7fe,X7ff⟩:=X7.facts6
    go_wp2_with fail
    have hszr:=Hb.out.size
    have ne7:(Value.slice A1 al[k].1.via.length cc1).ownBlock≠some wr.heap.size:=fun e=>by have:=(Hown.out.lt _ e).1;omega
    have ne4:(Value.slice A1 al[k].1.via.length cc1).ownBlock≠some (w.heap.size+1):=fun e=>by have:=(Hown.out.lt _ e).1;omega
    have HP:=Own.sl (((((((Hown.out.far (p:=⟨wr.heap.size,3,none⟩) ne7 (.slice A1 al[k].1.via.length cc1)).far (p:=⟨w.heap.size+1,0,none⟩) ne4 (.int .i64 al[k].1.id)).far (p:=⟨w.heap.size+1,1,none⟩) ne4 (.int .i64 al[k].1.fr)).far (p:=⟨w.heap.size+1,2,none⟩) ne4 (.int .i64 al[k].1.dst)).far (p:=⟨w.heap.size+1,3,none⟩) ne4 (.slice A1 al[k].1.via.length cc1)).far (p:=⟨w.heap.size+1,4,none⟩) ne4 (.int .i64 al[k].1.left)).far (p:=⟨w.heap.size+1,5,none⟩) ne4 (.int .i64 al[k].1.right))
    refine res_cell_tmp (g:=w.heap.size+1) (cs:=#[.int .i64 al[k].1.id,.int .i64 al[k].1.fr,.int .i64 al[k].1.dst,.slice A1 al[k].1.via.length cc1,.int .i64 al[k].1.left,.int .i64 al[k].1.right]) rfl struct_ar rfl rfl (Blk.put6 (X4.far (p:=⟨wr.heap.size,3,none⟩) hw7 _)) ⟨.slice A1 al[k].1.via.length cc1,by rw [Hf.out];rfl,?_,by rw [Hf.out];exact HP⟩
    repeat (first | with_reducible exact bR _ | with_reducible assumption | with_reducible refine bA ?_ _ | with_reducible refine bD ?_ | with_reducible refine bN ?_ _ | ((with_reducible refine bS ?_ ?_ _);rotate_left;(simp;try omega)) | ((with_reducible refine bT ?_ ?_);rotate_left;with_reducible assumption) | with_reducible refine bT ?_ (by assumption))
  ·
   have hf:=findAr_miss al id (fun j hj=>Hno.out j hj (by omega))
   have Hf:=Lib.hid hf;clear hf
   go_wp2
   have Bw:=Hb.out
   refine res_cell_tmp (g:=w.heap.size+1) (cs:=#[.int .i64 0,.int .i64 0,.int .i64 0,.slice none 0 0,.int .i64 0,.int .i64 0]) rfl struct_ar rfl rfl (Blk.put6 X4) ⟨.slice none 0 0,by rw [Hf.out];rfl,?_,by rw [Hf.out];exact Sl.nil _⟩
   repeat (first | with_reducible exact bR _ | with_reducible assumption | with_reducible refine bA ?_ _ | with_reducible refine bD ?_ | with_reducible refine bN ?_ _ | ((with_reducible refine bS ?_ ?_ _);rotate_left;(simp;try omega)) | ((with_reducible refine bT ?_ ?_);rotate_left;with_reducible assumption) | with_reducible refine bT ?_ (by assumption))

end Go.Proofs.YtpempeioeiaijaaGreat
namespace Go.Proofs.YtpempeioeiaijaaGreat
open Go.RowKit

def lowS (o p:Pt):Bool:=decide (p.y<o.y) || (decide (p.y=o.y) && decide (p.x<o.x))
def lessS (o a b:Pt):Bool:=nears [o,a,b] && (!decide (a=o) && (!decide (b=o) && (if lowS o a=lowS o b then decide (0<tw o a b) else lowS o b)))
def lowV (x y:Int):Prop:=y<0∨(y=0∧x<0)
def ltV (ux uy vx vy:Int):Prop:=(¬ lowV ux uy∧lowV vx vy)∨((lowV ux uy↔lowV vx vy)∧0<ux*vy-uy*vx)
theorem ltV_irr (ux uy:Int):¬ ltV ux uy ux uy:=by
 rintro (⟨h1,h2⟩ | ⟨-,h⟩)
 · exact h1 h2
 · rw [Int.mul_comm uy ux] at h;omega
theorem three (ux uy vx vy wx wy:Int):vy*(ux*wy-uy*wx)=uy*(vx*wy-vy*wx)+wy*(ux*vy-uy*vx):=by grind
theorem pos_of_mul {v A:Int} (hv:0<v) (h:0<v*A):0<A:=by
 rcases Int.lt_or_le 0 A with h1 | h1
 · exact h1
 · have:=Int.mul_nonpos_of_nonneg_of_nonpos (Int.le_of_lt hv) h1;omega
theorem nn_of_mul {v A:Int} (hv:0<v) (h:0≤v*A):0≤A:=by
 rcases Int.lt_or_le A 0 with h1 | h1
 · have:=Int.mul_neg_of_pos_of_neg hv h1;omega
 · exact h1
def upV (x y:Int):Prop:=0<y∨(y=0∧0<x)
theorem cross_up {ux uy vx vy wx wy:Int} (hu:upV ux uy) (hv:upV vx vy) (hw:upV wx wy) (h1:0≤ux*vy-uy*vx) (h2:0≤vx*wy-vy*wx) :
  0≤ux*wy-uy*wx∧(0<ux*vy-uy*vx∨0<vx*wy-vy*wx→0<ux*wy-uy*wx):=by
 have e:=three ux uy vx vy wx wy
 unfold upV at *
 rcases hv with hv | ⟨rfl,hv⟩
 ·
  have hw':0<wy:=by
   rcases hw with hw | ⟨rfl,hw⟩
   · exact hw
   ·
    have:=Int.mul_pos hv hw
    rw [Int.mul_zero] at h2;omega
  have a1:0≤uy*(vx*wy-vy*wx):=Int.mul_nonneg (by omega) h2
  have a2:0≤wy*(ux*vy-uy*vx):=Int.mul_nonneg (by omega) h1
  refine ⟨nn_of_mul hv (by omega),fun h=>pos_of_mul hv ?_⟩
  rcases h with h | h
  · have:=Int.mul_pos hw' h;omega
  ·
   rcases hu with hu | ⟨rfl,hu⟩
   · have:=Int.mul_pos hu h;omega
   ·
    have h3:=Int.mul_pos hu hv
    have:=Int.mul_pos hw' (show 0<ux*vy-0*vx by rw [Int.zero_mul];omega)
    omega
 ·
  have hu':uy=0:=by
   rcases hu with hu | ⟨hu,-⟩
   ·
    have:=Int.mul_pos hu hv
    rw [Int.mul_zero] at h1;omega
   · exact hu
  subst hu'
  have hu2:0<ux:=by omega
  rw [Int.zero_mul] at h2 ⊢
  rw [Int.zero_mul,Int.mul_zero]
  have hwy:0≤wy:=by omega
  have a1:=Int.mul_nonneg (Int.le_of_lt hu2) hwy
  refine ⟨by omega,fun h=>?_⟩
  rcases h with h | h
  · omega
  ·
   have:0<wy:=pos_of_mul hv (by omega)
   have:=Int.mul_pos hu2 this
   omega
theorem low_up {x y:Int} (h0:¬ (x=0∧y=0)):¬ lowV x y↔upV x y:=by
 unfold lowV upV;omega
theorem low_neg {x y:Int}:lowV x y↔upV (-x) (-y):=by
 unfold lowV upV;omega
theorem cross_half {ux uy vx vy wx wy:Int} (hu:¬ (ux=0∧uy=0)) (hv:¬ (vx=0∧vy=0)) (hw:¬ (wx=0∧wy=0)) (huv:lowV ux uy↔lowV vx vy) (hvw:lowV vx vy↔lowV wx wy) (h1:0≤ux*vy-uy*vx) (h2:0≤vx*wy-vy*wx) :
  0≤ux*wy-uy*wx∧(0<ux*vy-uy*vx∨0<vx*wy-vy*wx→0<ux*wy-uy*wx):=by
 by_cases hl:lowV vx vy
 ·
  have:=cross_up (low_neg.1 (huv.2 hl)) (low_neg.1 hl) (low_neg.1 (hvw.1 hl))
  simp only [Int.neg_mul_neg] at this
  exact this h1 h2
 · exact cross_up ((low_up hu).1 (fun h=>hl (huv.1 h))) ((low_up hv).1 hl) ((low_up hw).1 (fun h=>hl (hvw.2 h))) h1 h2
theorem ltV_trans {ux uy vx vy wx wy:Int} (hu:¬ (ux=0∧uy=0)) (hv:¬ (vx=0∧vy=0)) (hw:¬ (wx=0∧wy=0)) (h1:ltV ux uy vx vy) (h2:ltV vx vy wx wy):ltV ux uy wx wy:=by
 unfold ltV at *
 rcases h1 with ⟨a1,a2⟩ | ⟨a1,a2⟩
 ·
  rcases h2 with ⟨b1,b2⟩ | ⟨b1,b2⟩
  · exact absurd a2 b1
  · exact .inl ⟨a1,b1.1 a2⟩
 ·
  rcases h2 with ⟨b1,b2⟩ | ⟨b1,b2⟩
  · exact .inl ⟨fun h=>b1 (a1.1 h),b2⟩
  · exact .inr ⟨a1.trans b1,(cross_half hu hv hw a1 b1 (by omega) (by omega)).2 (.inl a2)⟩
theorem ltV_ntrans {ux uy vx vy wx wy:Int} (hu:¬ (ux=0∧uy=0)) (hv:¬ (vx=0∧vy=0)) (hw:¬ (wx=0∧wy=0)) (h1:¬ ltV ux uy vx vy) (h2:¬ ltV vx vy wx wy):¬ ltV ux uy wx wy:=by
 have key:∀ {ax ay bx b:Int},¬ ltV ax ay bx b→(lowV ax ay∧¬ lowV bx b)∨((lowV bx b↔lowV ax ay)∧0≤bx*ay-b*ax):=by
  intro ax ay bx b h
  unfold ltV at h
  by_cases l1:lowV ax ay
  ·
   by_cases l2:lowV bx b
   ·
    refine .inr ⟨by simp [l1,l2],?_⟩
    rw [Int.mul_comm bx,Int.mul_comm b]
    rcases Int.lt_or_le (ay*bx-ax*b) 0 with h3 | h3
    · exact absurd (.inr ⟨by simp [l1,l2],by omega⟩) h
    · exact h3
   · exact .inl ⟨l1,l2⟩
  ·
   by_cases l2:lowV bx b
   · exact absurd (.inl ⟨l1,l2⟩) h
   ·
    refine .inr ⟨by simp [l1,l2],?_⟩
    rw [Int.mul_comm bx,Int.mul_comm b]
    rcases Int.lt_or_le (ay*bx-ax*b) 0 with h3 | h3
    · exact absurd (.inr ⟨by simp [l1,l2],by omega⟩) h
    · exact h3
 intro h3
 rcases key h1 with ⟨a1,a2⟩ | ⟨a1,a2⟩
 ·
  rcases key h2 with ⟨b1,b2⟩ | ⟨b1,b2⟩
  · exact a2 b1
  ·
   rcases h3 with ⟨c1,c2⟩ | ⟨c1,c2⟩
   · exact c1 a1
   · exact a2 (b1.1 (c1.1 a1))
 ·
  rcases key h2 with ⟨b1,b2⟩ | ⟨b1,b2⟩
  ·
   rcases h3 with ⟨c1,c2⟩ | ⟨c1,c2⟩
   · exact c1 (a1.1 b1)
   · exact b2 (c1.1 (a1.1 b1))
  ·
   rcases h3 with ⟨c1,c2⟩ | ⟨c1,c2⟩
   · exact c1 (a1.1 (b1.1 c2))
   ·
    have:=(cross_half hw hv hu b1 a1 b2 a2).1
    rw [Int.mul_comm wx,Int.mul_comm wy] at this
    omega
theorem low_iff (o p:Pt):lowS o p=true↔lowV (p.x-o.x) (p.y-o.y):=by
 unfold lowS lowV
 simp only [Bool.or_eq_true,Bool.and_eq_true,decide_eq_true_eq]
 omega
theorem ne_vec {a o:Pt}:a≠o↔¬ (a.x-o.x=0∧a.y-o.y=0):=by
 rw [Ne,Pt.ext_iff'];omega
def dirLt (o a b:Pt):Prop:=ltV (a.x-o.x) (a.y-o.y) (b.x-o.x) (b.y-o.y)
theorem less_iff (o a b:Pt):lessS o a b=true↔nears [o,a,b]=true∧a≠o∧b≠o∧dirLt o a b:=by
 unfold lessS
 simp only [Bool.and_eq_true,Bool.not_eq_true',decide_eq_false_iff_not]
 refine and_congr_right fun _=>and_congr_right fun _=>and_congr_right fun _=>?_
 unfold dirLt ltV
 rw [← low_iff,← low_iff]
 show _↔_∨(_∧0<tw o a b)
 cases lowS o a<;>cases lowS o b<;>simp
end Go.Proofs.YtpempeioeiaijaaGreat
namespace Go.Proofs.YtpempeioeiaijaaGreat
open Go.RowKit

def chainS (a b:PSg):Bool:=decide (a.k+1=b.k) || ((a.ln.arc.fr == a.ln.arc.dst) && decide (a.k=0) && decide ((b.k:Int)=(b.ln.path.length:Int)-2))
def sameArcS (m:Int) (a b:PSg):Bool:=if chainS a b then m == 1 else m == 0
def atNodeS (f:Int→Pt) (s t:PSg) (id:Int):Bool:=(id == t.ln.arc.fr || id == t.ln.arc.dst) && onS s.fst s.snd (f id) && onS t.fst t.snd (f id)
def compatS (f:Int→Pt) (s t:PSg):Bool :=
 if s.ln.arc.id=t.ln.arc.id then (if t.k<s.k then sameArcS (meetS s.fst s.snd t.fst t.snd) t s else sameArcS (meetS s.fst s.snd t.fst t.snd) s t)
 else if meetS s.fst s.snd t.fst t.snd=1 then atNodeS f s t s.ln.arc.fr || atNodeS f s t s.ln.arc.dst
 else meetS s.fst s.snd t.fst t.snd == 0

theorem SgOk.line {w:World} {s:PSg} (h:SgOk w s):Blk w s.ln.g 140 #[.int .i64 s.ln.arc.id,.int .i64 s.ln.arc.fr,.int .i64 s.ln.arc.dst,.slice s.ln.via.a s.ln.via.n s.ln.via.c,.int .i64 s.ln.arc.left,.int .i64 s.ln.arc.right,.slice s.ln.pa s.ln.path.length s.ln.pc]:=h.1.1

set_option maxRecDepth 100000 in
set_option maxHeartbeats 4000000 in
theorem compat_spec (f:Int→Pt) (mb n:Nat) (s t:PSg) (w:World) (hs:SgOk w s) (ht:SgOk w t) (hm:MapPts w mb n f)
  (hw1:wfI s.ln.arc.fr) (hw2:wfI s.ln.arc.dst) :
  Calls Tryz.prog 99 #[psgV s,psgV t,.map (some mb)] w fun e w'=>e=.returned (.bool (compatS f s t))∧Below w.heap.size w w':=by
 have TS:∀ W,Below w.heap.size w W→Calls Tryz.prog 100 #[psgV s] W _:=fun W hW=>ends2_spec s W (hs.keep hW)
 have TT:∀ W,Below w.heap.size w W→Calls Tryz.prog 100 #[psgV t] W _:=fun W hW=>ends2_spec t W (ht.keep hW)
 have TM:∀ W,Calls Tryz.prog 143 #[ptV s.fst,ptV s.snd,ptV t.fst,ptV t.snd] W _:=fun W=>Meet_spec s.fst s.snd t.fst t.snd W
 have TO:∀ p q r:Pt,∀ W,Calls Tryz.prog 101 #[ptV p,ptV q,ptV r] W _:=fun p q r W=>On_spec p q r W
 unfold psgV ptV at TS TT
 unfold ptV at TM TO
 unfold psgV
 have HS:=Lib.hid TS;have HT:=Lib.hid TT;have HM:=Lib.hid TM;have HO:=Lib.hid TO
 have Ks:=Lib.hid hs;have Kt:=Lib.hid ht;have Km:=Lib.hid hm
 have hsk:s.k≤2097152:=by have:=hs.2;omega
 have htk:t.k≤2097152:=by have:=ht.2;omega
 clear TS TT TM TO hs ht hm
 obtain ⟨q,hq⟩:∃ q,compatS f s t=q:=⟨_,rfl⟩
 rw [hq]
 unfold compatS at hq
 have Hq:=Lib.hid hq;clear hq
 go_enter Tryz.func99,Tryz.ntmps99
 go_wp2_with fail
 refine (HS.out _ (bA (bA (bR w) _) _)).mono ?_
 rintro e w1 ⟨rfl,hb1,-⟩
 have Bw:Below w.heap.size w w1:=by
  repeat (first | with_reducible exact bR _ | with_reducible assumption | with_reducible refine bA ?_ _ | with_reducible refine bD ?_ | with_reducible refine bN ?_ _ | ((with_reducible refine bS ?_ ?_ _);rotate_left;(simp;try omega)) | ((with_reducible refine bT ?_ ?_);rotate_left;with_reducible assumption) | with_reducible refine bT ?_ (by assumption))
 have X3:Blk _ (w.heap.size) 132 #[.pointer (some ⟨s.ln.g,0,none⟩),.int .i64 s.k]:=Blk.keep (by repeat (first | exact Blk.made (by simp) _ _ | refine Blk.alloc ?_ _)) hb1
 have X4:Blk _ (w.heap.size+1) 132 #[.pointer (some ⟨t.ln.g,0,none⟩),.int .i64 t.k]:=Blk.keep (by repeat (first | exact Blk.made (by simp) _ _ | refine Blk.alloc ?_ _)) hb1
 clear hb1
 obtain ⟨X3l,X3a,X3b,-,-⟩:=X3.facts2
 obtain ⟨X4l,X4a,X4b,-,-⟩:=X4.facts2
 go_wp2_with fail
 refine (HT.out _ (bA (bA Bw _) _)).mono ?_
 rintro e w2 ⟨rfl,hb2,-⟩
 have X7:Blk w2 w1.heap.size 42 #[.int .i64 s.fst.x,.int .i64 s.fst.y]:=((Blk.made rfl _ _).alloc _).keep hb2
 have X8:Blk w2 (w1.heap.size+1) 42 #[.int .i64 s.snd.x,.int .i64 s.snd.y]:=(Blk.made (by simp) _ _).keep hb2
 replace X3:=((X3.alloc _).alloc _).keep hb2
 replace X4:=((X4.alloc _).alloc _).keep hb2
 replace Bw:=bT (bA (bA Bw _) _) hb2
 clear hb2
 try clear X3l
 try clear X3a
 try clear X3b
 obtain ⟨X3l,X3a,X3b,-,-⟩:=X3.facts2
 try clear X4l
 try clear X4a
 try clear X4b
 obtain ⟨X4l,X4a,X4b,-,-⟩:=X4.facts2
 obtain ⟨X7l,X7a,X7b,-,-⟩:=X7.facts2
 obtain ⟨X8l,X8a,X8b,-,-⟩:=X8.facts2
 go_wp2_with fail
 refine (HM.out _).mono ?_
 rintro e w3 ⟨rfl,hb3⟩
 have X9:Blk w3 w2.heap.size 42 #[.int .i64 t.fst.x,.int .i64 t.fst.y]:=((Blk.made rfl _ _).alloc _).keep hb3
 have X10:Blk w3 (w2.heap.size+1) 42 #[.int .i64 t.snd.x,.int .i64 t.snd.y]:=(Blk.made (by simp) _ _).keep hb3
 replace X3:=((X3.alloc _).alloc _).keep hb3
 replace X4:=((X4.alloc _).alloc _).keep hb3
 replace X7:=((X7.alloc _).alloc _).keep hb3
 replace X8:=((X8.alloc _).alloc _).keep hb3
 replace Bw:=bT (bA (bA Bw _) _) hb3
 clear hb3
 generalize meetS s.fst s.snd t.fst t.snd=m at *
 have Y1:=(Ks.out.keep Bw).line
 have Y2:=(Kt.out.keep Bw).line
 try clear X3l
 try clear X3a
 try clear X3b
 obtain ⟨X3l,X3a,X3b,X3fa,X3fb⟩:=X3.facts2
 try clear X4l
 try clear X4a
 try clear X4b
 obtain ⟨X4l,X4a,X4b,X4fa,X4fb⟩:=X4.facts2
 obtain ⟨Y1l,Y1a,Y1b,Y1c,Y1d,Y1e,Y1f,Y1g,-,-,-,-,-,-,-⟩:=Y1.facts7
 obtain ⟨Y2l,Y2a,Y2b,Y2c,Y2d,Y2e,Y2f,Y2g,-,-,-,-,-,-,-⟩:=Y2.facts7
 go_upto_region 4 with fail
 refine rg_start (Since w3) (.run 13 0 0 (.done)) (by kernel_rfl) (bD (bR _)) (by kernel_rfl) (by kernel_rfl) (Nat.le_of_ble_eq_true (by kernel_rfl)) ?_
 intro opsR QR Hops HQrg hS
 iterate 13
  apply rg_p;exact Hops;exact rfl;exact hS;exact rfl
  · intro _ hqc;go_simp;try rfl
  try simp only [pu]
 refine rg_done ?_
 refine HQrg.down _ _ ?_
 have hB:Below w3.heap.size w3 w3.drew:=hS
 clear hS HQrg Hops
 have Bd:Below w.heap.size w w3.drew:=bD Bw
 clear hB
 by_cases hid:s.ln.arc.id=t.ln.arc.id
 case neg =>
  have hid':(s.ln.arc.id == t.ln.arc.id)=false:=beq_eq_false_iff_ne.2 hid
  have hq:=Hq.out
  rw [if_neg hid] at hq
  replace Hq:=Lib.hid hq
  rw [hid']
  clear hid hq
  by_cases hm1:m=1
  case neg =>
   have hm':(m != 1)=true:=by simpa using hm1
   have hf:=Lib.hid (show (m == 0)=q by rw [← Hq.out,if_neg hm1])
   clear hm1
   go_wp2_with fail
   go_ret
   exact ⟨ret_bool hf.out,Bd⟩
  subst hm1
  have hq:=Hq.out
  rw [if_pos rfl] at hq
  replace Hq:=Lib.hid hq
  clear hq
  go_upto_region 12 with fail
  obtain ⟨w4,hw4⟩:∃ w4:World,w4=w3.drew:=⟨_,rfl⟩
  have hA4:Below w3.heap.size w3 w4:=by rw [hw4];exact bD (bR w3)
  rw [← hw4]
  rw [← hw4] at Bd
  clear hw4
  replace X3:=X3.keep hA4
  replace X4:=X4.keep hA4
  replace X7:=X7.keep hA4
  replace X8:=X8.keep hA4
  replace X9:=X9.keep hA4
  replace X10:=X10.keep hA4
  replace Y1:=Y1.keep hA4
  replace Y2:=Y2.keep hA4
  try clear X3l
  try clear X3a
  try clear X3b
  try clear X3fa
  try clear X3fb
  obtain ⟨X3l,X3a,X3b,-,-⟩:=X3.facts2
  try clear Y1l
  try clear Y1a
  try clear Y1b
  try clear Y1c
  try clear Y1d
  try clear Y1e
  try clear Y1f
  try clear Y1g
  obtain ⟨Y1l,Y1a,Y1b,Y1c,Y1d,Y1e,Y1f,Y1g,-,-,-,-,-,-,-⟩:=Y1.facts7
  refine rg_start (Since w4) (.run 14 0 0 (.done)) (by kernel_rfl) (bD (bR _)) (by kernel_rfl) (by kernel_rfl) (Nat.le_of_ble_eq_true (by kernel_rfl)) ?_
  intro opsR QR Hops HQrg hS
  iterate 14
   apply rg_p;exact Hops;exact rfl;exact hS;exact rfl
   · intro _ hqc;go_simp;try rfl
   try simp only [pu]
  refine rg_done ?_
  refine HQrg.down _ _ ?_
  have hB:Below w4.heap.size w4 w4.drew:=hS
  clear hS HQrg Hops
  have hB4:Below w4.heap.size w4 w4.drew:=bD (bR w4)
  obtain ⟨W,hW⟩:∃ W:World,W=w4.drew:=⟨_,rfl⟩
  rw [← hW]
  rw [← hW] at hB4
  have HBW:=Lib.hid (bT Bd hB4)
  have HX4:=Lib.hid (X4.keep hB4)
  have HX7:=Lib.hid (X7.keep hB4)
  have HX8:=Lib.hid (X8.keep hB4)
  have HX9:=Lib.hid (X9.keep hB4)
  have HX10:=Lib.hid (X10.keep hB4)
  have HY2:=Lib.hid (Y2.keep hB4)
  clear hB hB4 hW hA4 Bw Bd X3 X3l X3a X3b X4 X4l X4a X4b X7 X7l X7a X7b X8 X8l X8a X8b X9 X10 Y1 Y1l Y1a Y1b Y1c Y1d Y1e Y1f Y1g Y2 Y2l Y2a Y2b Y2c Y2d Y2e Y2f Y2g
  go_wp2_with fail
  go_loopw [100] (fun u wx=>∃ j:Int,(j=0∨j=1∨j=2)∧u=.int .i64 j∧Below W.heap.size W wx∧(1≤j→atNodeS f s t s.ln.arc.fr=false)∧(2≤j→atNodeS f s t s.ln.arc.dst=false)) (fun u _=>2-(intOf u).toNat)
  case atStart => exact ⟨0,by omega,rfl,bR W,fun h=>by omega,fun h=>by omega⟩
  case round =>
   obtain ⟨j,hj,rfl,hb,hl,hr⟩:=hrel
   have Hb:=Lib.hid hb
   have Hl:=Lib.hid hl
   have Hr:=Lib.hid hr
   have X4:=HX4.out.keep hb
   have X7:=HX7.out.keep hb
   have X8:=HX8.out.keep hb
   have X9:=HX9.out.keep hb
   have X10:=HX10.out.keep hb
   have Y2:=HY2.out.keep hb
   clear hb hl hr
   try clear X4l
   try clear X4a
   try clear X4b
   try clear X4fa
   try clear X4fb
   obtain ⟨X4l,X4a,X4b,-,-⟩:=X4.facts2
   try clear X7l
   try clear X7a
   try clear X7b
   obtain ⟨X7l,X7a,X7b,-,-⟩:=X7.facts2
   try clear X8l
   try clear X8a
   try clear X8b
   obtain ⟨X8l,X8a,X8b,-,-⟩:=X8.facts2
   obtain ⟨X9l,X9a,X9b,-,-⟩:=X9.facts2
   obtain ⟨X10l,X10a,X10b,-,-⟩:=X10.facts2
   try clear Y2l
   try clear Y2a
   try clear Y2b
   try clear Y2c
   try clear Y2d
   try clear Y2e
   try clear Y2f
   try clear Y2g
   obtain ⟨Y2l,Y2a,Y2b,Y2c,Y2d,Y2e,Y2f,Y2g,-,-,-,-,-,-,-⟩:=Y2.facts7
   rcases hj with rfl | rfl | rfl
   ·
    have hI:∀ w,(Instr.index 124 (.agg #[.int .i64 s.ln.arc.fr,.int .i64 s.ln.arc.dst]) (.int .i64 0)).run Tryz.prog w=.ok (.int .i64 s.ln.arc.fr) w:=fun _=>by kernel_rfl
    have hlk:=(Km.out.keep (bT HBW.out Hb.out)).look s.ln.arc.fr hw1
    unfold ptV at hlk
    cases h1:(s.ln.arc.fr == t.ln.arc.fr)
    case false =>
     cases h2:(s.ln.arc.fr == t.ln.arc.dst)
     case false =>
      have hy:=Lib.hid (show atNodeS f s t s.ln.arc.fr=false by simp [atNodeS,h1,h2])
      go_wp2_with fail
      go_roundw
      case rel => exact ⟨1,by omega,rfl,bA Hb.out _,fun h=>by first | exact hy.out | exact Hl.out (by omega),fun h=>by first | omega | exact hy.out⟩
      case measure => simp [intOf]
     case true =>
      have hc:=Lib.hid (show (s.ln.arc.fr == t.ln.arc.fr || s.ln.arc.fr == t.ln.arc.dst)=true by rw [h2];simp)
      go_wp2_with fail
      refine (HO.out s.fst s.snd (f s.ln.arc.fr) _).mono ?_
      rintro e w5 ⟨rfl,hb5⟩
      have B5:Below W.heap.size W w5:=bT (bA Hb.out _) hb5
      have X14:Blk w5 wr.heap.size 42 #[.int .i64 (f s.ln.arc.fr).x,.int .i64 (f s.ln.arc.fr).y]:=(Blk.made rfl _ _).keep hb5
      clear hb5 X4 X4l X4a X4b Y2 Y2l Y2a Y2b Y2c Y2d Y2e Y2f Y2g X7 X7l X7a X7b X8 X8l X8a X8b X9 X9l X9a X9b X10 X10l X10a X10b hlk
      cases e3:onS s.fst s.snd (f s.ln.arc.fr)
      case false =>
       have hy:=Lib.hid (show atNodeS f s t s.ln.arc.fr=false by simp [atNodeS,e3])
       clear e3
       go_wp2_with fail
       go_roundw
       case rel => exact ⟨1,by omega,rfl,B5,fun h=>by first | exact hy.out | exact Hl.out (by omega),fun h=>by first | omega | exact hy.out⟩
       case measure => simp [intOf]
      have E3:=Lib.hid e3;clear e3
      have X9:=HX9.out.keep B5
      have X10:=HX10.out.keep B5
      try clear X9l
      try clear X9a
      try clear X9b
      obtain ⟨X9l,X9a,X9b,-,-⟩:=X9.facts2
      try clear X10l
      try clear X10a
      try clear X10b
      obtain ⟨X10l,X10a,X10b,-,-⟩:=X10.facts2
      obtain ⟨X14l,X14a,X14b,-,-⟩:=X14.facts2
      go_wp2_with fail
      refine (HO.out t.fst t.snd (f s.ln.arc.fr) _).mono ?_
      rintro e w6 ⟨rfl,hb6⟩
      have B6:Below W.heap.size W w6:=bT B5 hb6
      clear hb6 X14 X14l X14a X14b X9 X9l X9a X9b X10 X10l X10a X10b
      cases e4:onS t.fst t.snd (f s.ln.arc.fr)
      case false =>
       have hy:=Lib.hid (show atNodeS f s t s.ln.arc.fr=false by simp [atNodeS,e4])
       clear e4
       go_wp2_with fail
       go_roundw
       case rel => exact ⟨1,by omega,rfl,B6,fun h=>by first | exact hy.out | exact Hl.out (by omega),fun h=>by first | omega | exact hy.out⟩
       case measure => simp [intOf]
      have hy:=Lib.hid (show atNodeS f s t s.ln.arc.fr=true by simp only [atNodeS,hc.out,E3.out,e4];rfl)
      have hf:=Lib.hid (show true=q by rw [← Hq.out,hy.out];simp)
      clear e4
      go_wp2_with fail
      go_ret
      exact ⟨ret_bool hf.out,bT HBW.out B6⟩
    case true =>
     have hc:=Lib.hid (show (s.ln.arc.fr == t.ln.arc.fr || s.ln.arc.fr == t.ln.arc.dst)=true by rw [h1];simp)
     go_wp2_with fail
     refine (HO.out s.fst s.snd (f s.ln.arc.fr) _).mono ?_
     rintro e w5 ⟨rfl,hb5⟩
     have B5:Below W.heap.size W w5:=bT (bA Hb.out _) hb5
     have X14:Blk w5 wr.heap.size 42 #[.int .i64 (f s.ln.arc.fr).x,.int .i64 (f s.ln.arc.fr).y]:=(Blk.made rfl _ _).keep hb5
     clear hb5 X4 X4l X4a X4b Y2 Y2l Y2a Y2b Y2c Y2d Y2e Y2f Y2g X7 X7l X7a X7b X8 X8l X8a X8b X9 X9l X9a X9b X10 X10l X10a X10b hlk
     cases e3:onS s.fst s.snd (f s.ln.arc.fr)
     case false =>
      have hy:=Lib.hid (show atNodeS f s t s.ln.arc.fr=false by simp [atNodeS,e3])
      clear e3
      go_wp2_with fail
      go_roundw
      case rel => exact ⟨1,by omega,rfl,B5,fun h=>by first | exact hy.out | exact Hl.out (by omega),fun h=>by first | omega | exact hy.out⟩
      case measure => simp [intOf]
     have E3:=Lib.hid e3;clear e3
     have X9:=HX9.out.keep B5
     have X10:=HX10.out.keep B5
     try clear X9l
     try clear X9a
     try clear X9b
     obtain ⟨X9l,X9a,X9b,-,-⟩:=X9.facts2
     try clear X10l
     try clear X10a
     try clear X10b
     obtain ⟨X10l,X10a,X10b,-,-⟩:=X10.facts2
     try clear X14l
     try clear X14a
     try clear X14b
     obtain ⟨X14l,X14a,X14b,-,-⟩:=X14.facts2
     go_wp2_with fail
     refine (HO.out t.fst t.snd (f s.ln.arc.fr) _).mono ?_
     rintro e w6 ⟨rfl,hb6⟩
     have B6:Below W.heap.size W w6:=bT B5 hb6
     clear hb6 X14 X14l X14a X14b X9 X9l X9a X9b X10 X10l X10a X10b
     cases e4:onS t.fst t.snd (f s.ln.arc.fr)
     case false =>
      have hy:=Lib.hid (show atNodeS f s t s.ln.arc.fr=false by simp [atNodeS,e4])
      clear e4
      go_wp2_with fail
      go_roundw
      case rel => exact ⟨1,by omega,rfl,B6,fun h=>by first | exact hy.out | exact Hl.out (by omega),fun h=>by first | omega | exact hy.out⟩
      case measure => simp [intOf]
     have hy:=Lib.hid (show atNodeS f s t s.ln.arc.fr=true by simp only [atNodeS,hc.out,E3.out,e4];rfl)
     have hf:=Lib.hid (show true=q by rw [← Hq.out,hy.out];simp)
     clear e4
     go_wp2_with fail
     go_ret
     exact ⟨ret_bool hf.out,bT HBW.out B6⟩
   ·
    have hI:∀ w,(Instr.index 124 (.agg #[.int .i64 s.ln.arc.fr,.int .i64 s.ln.arc.dst]) (.int .i64 1)).run Tryz.prog w=.ok (.int .i64 s.ln.arc.dst) w:=fun _=>by kernel_rfl
    have hlk:=(Km.out.keep (bT HBW.out Hb.out)).look s.ln.arc.dst hw2
    unfold ptV at hlk
    cases h1:(s.ln.arc.dst == t.ln.arc.fr)
    case false =>
     cases h2:(s.ln.arc.dst == t.ln.arc.dst)
     case false =>
      have hy:=Lib.hid (show atNodeS f s t s.ln.arc.dst=false by simp [atNodeS,h1,h2])
      go_wp2_with fail
      go_roundw
      case rel => exact ⟨2,by omega,rfl,bA Hb.out _,fun h=>by first | exact hy.out | exact Hl.out (by omega),fun h=>by first | omega | exact hy.out⟩
      case measure => simp [intOf]
     case true =>
      have hc:=Lib.hid (show (s.ln.arc.dst == t.ln.arc.fr || s.ln.arc.dst == t.ln.arc.dst)=true by rw [h2];simp)
      go_wp2_with fail
      refine (HO.out s.fst s.snd (f s.ln.arc.dst) _).mono ?_
      rintro e w5 ⟨rfl,hb5⟩
      have B5:Below W.heap.size W w5:=bT (bA Hb.out _) hb5
      have X14:Blk w5 wr.heap.size 42 #[.int .i64 (f s.ln.arc.dst).x,.int .i64 (f s.ln.arc.dst).y]:=(Blk.made rfl _ _).keep hb5
      clear hb5 X4 X4l X4a X4b Y2 Y2l Y2a Y2b Y2c Y2d Y2e Y2f Y2g X7 X7l X7a X7b X8 X8l X8a X8b X9 X9l X9a X9b X10 X10l X10a X10b hlk
      cases e3:onS s.fst s.snd (f s.ln.arc.dst)
      case false =>
       have hy:=Lib.hid (show atNodeS f s t s.ln.arc.dst=false by simp [atNodeS,e3])
       clear e3
       go_wp2_with fail
       go_roundw
       case rel => exact ⟨2,by omega,rfl,B5,fun h=>by first | exact hy.out | exact Hl.out (by omega),fun h=>by first | omega | exact hy.out⟩
       case measure => simp [intOf]
      have E3:=Lib.hid e3;clear e3
      have X9:=HX9.out.keep B5
      have X10:=HX10.out.keep B5
      try clear X9l
      try clear X9a
      try clear X9b
      obtain ⟨X9l,X9a,X9b,-,-⟩:=X9.facts2
      try clear X10l
      try clear X10a
      try clear X10b
      obtain ⟨X10l,X10a,X10b,-,-⟩:=X10.facts2
      try clear X14l
      try clear X14a
      try clear X14b
      obtain ⟨X14l,X14a,X14b,-,-⟩:=X14.facts2
      go_wp2_with fail
      refine (HO.out t.fst t.snd (f s.ln.arc.dst) _).mono ?_
      rintro e w6 ⟨rfl,hb6⟩
      have B6:Below W.heap.size W w6:=bT B5 hb6
      clear hb6 X14 X14l X14a X14b X9 X9l X9a X9b X10 X10l X10a X10b
      cases e4:onS t.fst t.snd (f s.ln.arc.dst)
      case false =>
       have hy:=Lib.hid (show atNodeS f s t s.ln.arc.dst=false by simp [atNodeS,e4])
       clear e4
       go_wp2_with fail
       go_roundw
       case rel => exact ⟨2,by omega,rfl,B6,fun h=>by first | exact hy.out | exact Hl.out (by omega),fun h=>by first | omega | exact hy.out⟩
       case measure => simp [intOf]
      have hy:=Lib.hid (show atNodeS f s t s.ln.arc.dst=true by simp only [atNodeS,hc.out,E3.out,e4];rfl)
      have hf:=Lib.hid (show true=q by rw [← Hq.out,hy.out];simp)
      clear e4
      go_wp2_with fail
      go_ret
      exact ⟨ret_bool hf.out,bT HBW.out B6⟩
    case true =>
     have hc:=Lib.hid (show (s.ln.arc.dst == t.ln.arc.fr || s.ln.arc.dst == t.ln.arc.dst)=true by rw [h1];simp)
     go_wp2_with fail
     refine (HO.out s.fst s.snd (f s.ln.arc.dst) _).mono ?_
     rintro e w5 ⟨rfl,hb5⟩
     have B5:Below W.heap.size W w5:=bT (bA Hb.out _) hb5
     have X14:Blk w5 wr.heap.size 42 #[.int .i64 (f s.ln.arc.dst).x,.int .i64 (f s.ln.arc.dst).y]:=(Blk.made rfl _ _).keep hb5
     clear hb5 X4 X4l X4a X4b Y2 Y2l Y2a Y2b Y2c Y2d Y2e Y2f Y2g X7 X7l X7a X7b X8 X8l X8a X8b X9 X9l X9a X9b X10 X10l X10a X10b hlk
     cases e3:onS s.fst s.snd (f s.ln.arc.dst)
     case false =>
      have hy:=Lib.hid (show atNodeS f s t s.ln.arc.dst=false by simp [atNodeS,e3])
      clear e3
      go_wp2_with fail
      go_roundw
      case rel => exact ⟨2,by omega,rfl,B5,fun h=>by first | exact hy.out | exact Hl.out (by omega),fun h=>by first | omega | exact hy.out⟩
      case measure => simp [intOf]
     have E3:=Lib.hid e3;clear e3
     have X9:=HX9.out.keep B5
     have X10:=HX10.out.keep B5
     try clear X9l
     try clear X9a
     try clear X9b
     obtain ⟨X9l,X9a,X9b,-,-⟩:=X9.facts2
     try clear X10l
     try clear X10a
     try clear X10b
     obtain ⟨X10l,X10a,X10b,-,-⟩:=X10.facts2
     try clear X14l
     try clear X14a
     try clear X14b
     obtain ⟨X14l,X14a,X14b,-,-⟩:=X14.facts2
     go_wp2_with fail
     refine (HO.out t.fst t.snd (f s.ln.arc.dst) _).mono ?_
     rintro e w6 ⟨rfl,hb6⟩
     have B6:Below W.heap.size W w6:=bT B5 hb6
     clear hb6 X14 X14l X14a X14b X9 X9l X9a X9b X10 X10l X10a X10b
     cases e4:onS t.fst t.snd (f s.ln.arc.dst)
     case false =>
      have hy:=Lib.hid (show atNodeS f s t s.ln.arc.dst=false by simp [atNodeS,e4])
      clear e4
      go_wp2_with fail
      go_roundw
      case rel => exact ⟨2,by omega,rfl,B6,fun h=>by first | exact hy.out | exact Hl.out (by omega),fun h=>by first | omega | exact hy.out⟩
      case measure => simp [intOf]
     have hy:=Lib.hid (show atNodeS f s t s.ln.arc.dst=true by simp only [atNodeS,hc.out,E3.out,e4];rfl)
     have hf:=Lib.hid (show true=q by rw [← Hq.out,hy.out];simp)
     clear e4
     go_wp2_with fail
     go_ret
     exact ⟨ret_bool hf.out,bT HBW.out B6⟩
   ·
    have hf:=Lib.hid (show false=q by rw [← Hq.out,Hl.out (by omega),Hr.out (by omega)];rfl)
    go_wp2_with fail
    go_ret
    exact ⟨ret_bool hf.out,bT HBW.out Hb.out⟩
 case pos =>
  have hid':(s.ln.arc.id == t.ln.arc.id)=true:=beq_iff_eq.2 hid
  have hq:=Hq.out
  rw [if_pos hid] at hq
  replace Hq:=Lib.hid hq
  clear hid hq
  clear X7 X7l X7a X7b X8 X8l X8a X8b X9 X10
  go_upto_if 47 with fail
  go_cut [48] (fun u wx=>∃ a b:PSg,SgOk w a∧SgOk w b∧Blk wx w.heap.size 132 #[.pointer (some ⟨a.ln.g,0,none⟩),.int .i64 a.k]∧Blk wx (w.heap.size+1) 132 #[.pointer (some ⟨b.ln.g,0,none⟩),.int .i64 b.k]∧sameArcS m a b=q∧a.k≤2097152∧b.k≤2097152∧Below w.heap.size w wx)
  case first =>
   by_cases hsw:t.k<s.k
   ·
    have hf:=Lib.hid (show sameArcS m t s=q by rw [← Hq.out,if_pos hsw])
    go_wp2_with fail
    go_meet
    case rel =>
     refine ⟨t,s,Kt.out,Ks.out,?_,?_,hf.out,htk,hsk,?_⟩
     · exact ((Blk.put2 (Blk.drew X3)).far (p:=⟨w.heap.size+1,0,none⟩) (by simp) _).far (p:=⟨w.heap.size+1,1,none⟩) (by simp) _
     · exact Blk.put2 (((Blk.drew X4).far (p:=⟨w.heap.size,0,none⟩) (by simp) _).far (p:=⟨w.heap.size,1,none⟩) (by simp) _)
     · exact bS (bS (bS (bS Bd (p:=⟨w.heap.size,0,none⟩) (Nat.le_refl _) _) (p:=⟨w.heap.size,1,none⟩) (Nat.le_refl _) _) (p:=⟨w.heap.size+1,0,none⟩) (Nat.le_succ _) _) (p:=⟨w.heap.size+1,1,none⟩) (Nat.le_succ _) _
   ·
    have hf:=Lib.hid (show sameArcS m s t=q by rw [← Hq.out,if_neg hsw])
    go_wp2_with fail
    go_meet
    case rel => exact ⟨s,t,Ks.out,Kt.out,Blk.drew X3,Blk.drew X4,hf.out,hsk,htk,Bd⟩
  case rest =>
  obtain ⟨a,b,Ka,Kb,X3',X4',hf,ha,hb,Bc⟩:=hcut
  have Hf:=Lib.hid hf
  replace Ka:=Lib.hid Ka
  replace Kb:=Lib.hid Kb
  clear X3 X4 X3l X3a X3b X4l X4a X4b Y1 Y2 Y1l Y1a Y1b Y1c Y1d Y1e Y1f Y1g Y2l Y2a Y2b Y2c Y2d Y2e Y2f Y2g hf Bd Bw
  have Y1:=(Ka.out.keep Bc).line
  try clear X3'l
  try clear X3'a
  try clear X3'b
  try clear X3'fa
  try clear X3'fb
  obtain ⟨X3'l,X3'a,X3'b,-,-⟩:=X3'.facts2
  try clear X4'l
  try clear X4'a
  try clear X4'b
  try clear X4'fa
  try clear X4'fb
  obtain ⟨X4'l,X4'a,X4'b,-,-⟩:=X4'.facts2
  try clear Y1l
  try clear Y1a
  try clear Y1b
  try clear Y1c
  try clear Y1d
  try clear Y1e
  try clear Y1f
  try clear Y1g
  obtain ⟨Y1l,Y1a,Y1b,Y1c,Y1d,Y1e,Y1f,Y1g,-,-,-,-,-,-,-⟩:=Y1.facts7
  have w1e:IntKind.i64.wrap ((a.k:Int)+1)=(a.k:Int)+1:=IntWalk.i64_in _ (by omega)
  have TF:∀ W,Calls Tryz.prog 102 #[psgV a] W _:=fun W=>segfirst_spec a W
  have TL:∀ W,Below w.heap.size w W→Calls Tryz.prog 103 #[psgV b] W _:=fun W hW=>seglast_spec b W (Kb.out.keep hW)
  unfold psgV at TF TL
  have TF':=TF;have TL':=TL
  have q1:0≤(a.k:Int):=by omega
  cases h1:((a.k:Int)+1 == (b.k:Int))
  case true =>
   have hf:=Lib.hid (show (m == 1)=q by
    rw [← Hf.out,sameArcS,if_pos]
    have:=eq_of_beq h1
    simp only [chainS,Bool.or_eq_true,decide_eq_true_eq];left;omega)
   clear TF TL TF' TL'
   go_upto_region 7 with fail
   refine rg_start (Since wc) (.run 29 0 0 (.done)) (by kernel_rfl) (bD (bR _)) (by kernel_rfl) (by kernel_rfl) (Nat.le_of_ble_eq_true (by kernel_rfl)) ?_
   intro opsR QR Hops HQrg hS
   iterate 7
    apply rg_p;exact Hops;exact rfl;exact hS;exact rfl
    · intro _ hqc;go_simp;try rfl
    try simp only [pu]
   iterate 21
    refine rg_yn Hops rfl hS rfl rfl rfl rfl rfl ?_
    try simp only [pu]
   apply rg_p;exact Hops;exact rfl;exact hS;exact rfl
   · intro _ hqc;go_simp;try rfl
   try simp only [pu]
   refine rg_done ?_
   refine HQrg.down _ _ ?_
   have hB:Below wc.heap.size wc wc.drew:=hS
   clear hS HQrg Hops
   go_wp2_with fail
   go_ret
   exact ⟨ret_bool hf.out,bT Bc hB⟩
  case false =>
  have hk:¬ a.k+1=b.k:=by have:=ne_of_beq_false h1;omega
  cases h2:(a.ln.arc.fr == a.ln.arc.dst)
  case false =>
   have hf:=Lib.hid (show (m == 0)=q by
    rw [← Hf.out,sameArcS,if_neg]
    simp only [chainS,h2,decide_eq_false hk];simp)
   clear TF TL TF' TL'
   go_upto_region 7 with fail
   refine rg_start (Since wc) (.run 29 0 0 (.done)) (by kernel_rfl) (bD (bR _)) (by kernel_rfl) (by kernel_rfl) (Nat.le_of_ble_eq_true (by kernel_rfl)) ?_
   intro opsR QR Hops HQrg hS
   iterate 7
    apply rg_p;exact Hops;exact rfl;exact hS;exact rfl
    · intro _ hqc;go_simp;try rfl
    try simp only [pu]
   iterate 14
    apply rg_g;exact Hops;exact rfl;exact hS;iterate 4 exact rfl
    · intro _ hqc;go_simp;try rfl
    try simp only [pu]
   iterate 2
    refine rg_yn Hops rfl hS rfl rfl rfl rfl rfl ?_
    try simp only [pu]
   iterate 2
    apply rg_g;exact Hops;exact rfl;exact hS;iterate 4 exact rfl
    · intro _ hqc;go_simp;try rfl
    try simp only [pu]
   iterate 2
    refine rg_yn Hops rfl hS rfl rfl rfl rfl rfl ?_
    try simp only [pu]
   apply rg_g;exact Hops;exact rfl;exact hS;iterate 4 exact rfl
   · intro _ hqc;go_simp;try rfl
   try simp only [pu]
   apply rg_p;exact Hops;exact rfl;exact hS;exact rfl
   · intro _ hqc;go_simp;try rfl
   try simp only [pu]
   refine rg_done ?_
   refine HQrg.down _ _ ?_
   have hB:Below wc.heap.size wc wc.drew:=hS
   clear hS HQrg Hops
   go_wp2_with fail
   go_ret
   exact ⟨ret_bool hf.out,bT Bc hB⟩
  case true =>
  cases h3:((a.k:Int) == 0)
  case false =>
   rw [h3] at TF
   have HF:=Lib.hid TF
   have hf:=Lib.hid (show (m == 0)=q by
    have h3':¬ a.k=0:=by have:=ne_of_beq_false h3;omega
    rw [← Hf.out,sameArcS,if_neg]
    simp only [chainS,h2,decide_eq_false hk,decide_eq_false h3'];simp)
   clear TF TL TF' TL' h3
   go_upto_region 7 with fail
   refine rg_start (Since wc) (.run 22 0 0 (.call 22 8388607 (.run 6 23 8388607 (.done)))) (by kernel_rfl) (bD (bR _)) (by kernel_rfl) (by kernel_rfl) (Nat.le_of_ble_eq_true (by kernel_rfl)) ?_
   intro opsR QR Hops HQrg hS
   iterate 7
    apply rg_p;exact Hops;exact rfl;exact hS;exact rfl
    · intro _ hqc;go_simp;try rfl
    try simp only [pu]
   iterate 15
    apply rg_g;exact Hops;exact rfl;exact hS;iterate 4 exact rfl
    · intro _ hqc;go_simp;try rfl
    try simp only [pu]
   refine rg_call (i:=22) (get_of Hops rfl) (fun K hK=>?_)
   have HSrg:=Lib.hid hS;clear hS
   refine rg_run (wanted_yes rfl (get_of Hops rfl) rfl rfl) ?_
   go_simp
   refine (HF.out _).mono ?_
   rintro e wr1 ⟨rfl,hbr1⟩
   have hS:Since wc wr1:=bT (w:=wc) HSrg.out hbr1
   clear HSrg
   refine hK.out _ _ hS (fun _=>?_)
   clear hK K
   try simp only [pu]
   iterate 2
    apply rg_g;exact Hops;exact rfl;exact hS;iterate 4 exact rfl
    · intro _ hqc;go_simp;try rfl
    try simp only [pu]
   iterate 2
    refine rg_yn Hops rfl hS rfl rfl rfl rfl rfl ?_
    try simp only [pu]
   apply rg_g;exact Hops;exact rfl;exact hS;iterate 4 exact rfl
   · intro _ hqc;go_simp;try rfl
   try simp only [pu]
   apply rg_p;exact Hops;exact rfl;exact hS;exact rfl
   · intro _ hqc;go_simp;try rfl
   try simp only [pu]
   refine rg_done ?_
   refine HQrg.down _ _ ?_
   have hB:Below wc.heap.size wc wr1:=hS
   clear hS HQrg Hops
   go_wp2_with fail
   go_ret
   exact ⟨ret_bool hf.out,bT Bc hB⟩
  case true =>
  rw [h3] at TF
  have HF:=Lib.hid TF
  cases h4:((b.k:Int) == (b.ln.path.length:Int)-2)
  case false =>
   rw [h4] at TL
   have HL:=Lib.hid TL
   have hf:=Lib.hid (show (m == 0)=q by
    have h4':=ne_of_beq_false h4
    rw [← Hf.out,sameArcS,if_neg]
    simp only [chainS,decide_eq_false hk,decide_eq_false h4'];simp)
   clear TF TL TF' TL' h3 h4
   go_upto_region 7 with fail
   refine rg_start (Since wc) (.run 22 0 0 (.call 22 8388607 (.run 3 23 8388607 (.call 26 134217727 (.take 27 268435455 (.take 28 536870911 (.done))))))) (by kernel_rfl) (bD (bR _)) (by kernel_rfl) (by kernel_rfl) (Nat.le_of_ble_eq_true (by kernel_rfl)) ?_
   intro opsR QR Hops HQrg hS
   iterate 7
    apply rg_p;exact Hops;exact rfl;exact hS;exact rfl
    · intro _ hqc;go_simp;try rfl
    try simp only [pu]
   iterate 15
    apply rg_g;exact Hops;exact rfl;exact hS;iterate 4 exact rfl
    · intro _ hqc;go_simp;try rfl
    try simp only [pu]
   refine rg_call (i:=22) (get_of Hops rfl) (fun K hK=>?_)
   have HSrg:=Lib.hid hS;clear hS
   refine rg_run (wanted_yes rfl (get_of Hops rfl) rfl rfl) ?_
   go_simp
   refine (HF.out _).mono ?_
   rintro e wr1 ⟨rfl,hbr1⟩
   have hS:Since wc wr1:=bT (w:=wc) HSrg.out hbr1
   clear HSrg
   refine hK.out _ _ hS (fun _=>?_)
   clear hK K
   try simp only [pu]
   iterate 3
    apply rg_g;exact Hops;exact rfl;exact hS;iterate 4 exact rfl
    · intro _ hqc;go_simp;try rfl
    try simp only [pu]
   refine rg_call (i:=26) (get_of Hops rfl) (fun K hK=>?_)
   have HSrg:=Lib.hid hS;clear hS
   refine rg_run (wanted_yes rfl (get_of Hops rfl) rfl rfl) ?_
   go_simp
   refine (HL.out _ (bT Bc HSrg.out)).mono ?_
   rintro e wr2 ⟨rfl,hbr2⟩
   have hS:Since wc wr2:=bT (w:=wc) HSrg.out hbr2
   clear HSrg
   refine hK.out _ _ hS (fun _=>?_)
   clear hK K
   try simp only [pu]
   apply rg_g;exact Hops;exact rfl;exact hS;iterate 4 exact rfl
   · intro _ hqc;go_simp;try rfl
   try simp only [pu]
   apply rg_p;exact Hops;exact rfl;exact hS;exact rfl
   · intro _ hqc;go_simp;try rfl
   try simp only [pu]
   refine rg_done ?_
   refine HQrg.down _ _ ?_
   have hB:Below wc.heap.size wc wr2:=hS
   clear hS HQrg Hops
   go_wp2_with fail
   go_ret
   exact ⟨ret_bool hf.out,bT Bc hB⟩
  case true =>
   rw [h4] at TL
   have HL:=Lib.hid TL
   have hf:=Lib.hid (show (m == 1)=q by
    have h3':a.k=0:=by have:=eq_of_beq h3;omega
    have h4':=eq_of_beq h4
    rw [← Hf.out,sameArcS,if_pos]
    simp only [chainS,h2,decide_eq_true h3',decide_eq_true h4'];simp)
   clear TF TL TF' TL' h3 h4
   go_upto_region 7 with fail
   refine rg_start (Since wc) (.run 22 0 0 (.call 22 8388607 (.run 3 23 8388607 (.call 26 134217727 (.take 27 268435455 (.take 28 536870911 (.done))))))) (by kernel_rfl) (bD (bR _)) (by kernel_rfl) (by kernel_rfl) (Nat.le_of_ble_eq_true (by kernel_rfl)) ?_
   intro opsR QR Hops HQrg hS
   iterate 7
    apply rg_p;exact Hops;exact rfl;exact hS;exact rfl
    · intro _ hqc;go_simp;try rfl
    try simp only [pu]
   iterate 15
    apply rg_g;exact Hops;exact rfl;exact hS;iterate 4 exact rfl
    · intro _ hqc;go_simp;try rfl
    try simp only [pu]
   refine rg_call (i:=22) (get_of Hops rfl) (fun K hK=>?_)
   have HSrg:=Lib.hid hS;clear hS
   refine rg_run (wanted_yes rfl (get_of Hops rfl) rfl rfl) ?_
   go_simp
   refine (HF.out _).mono ?_
   rintro e wr1 ⟨rfl,hbr1⟩
   have hS:Since wc wr1:=bT (w:=wc) HSrg.out hbr1
   clear HSrg
   refine hK.out _ _ hS (fun _=>?_)
   clear hK K
   try simp only [pu]
   iterate 3
    apply rg_g;exact Hops;exact rfl;exact hS;iterate 4 exact rfl
    · intro _ hqc;go_simp;try rfl
    try simp only [pu]
   refine rg_call (i:=26) (get_of Hops rfl) (fun K hK=>?_)
   have HSrg:=Lib.hid hS;clear hS
   refine rg_run (wanted_yes rfl (get_of Hops rfl) rfl rfl) ?_
   go_simp
   refine (HL.out _ (bT Bc HSrg.out)).mono ?_
   rintro e wr2 ⟨rfl,hbr2⟩
   have hS:Since wc wr2:=bT (w:=wc) HSrg.out hbr2
   clear HSrg
   refine hK.out _ _ hS (fun _=>?_)
   clear hK K
   try simp only [pu]
   apply rg_g;exact Hops;exact rfl;exact hS;iterate 4 exact rfl
   · intro _ hqc;go_simp;try rfl
   try simp only [pu]
   apply rg_p;exact Hops;exact rfl;exact hS;exact rfl
   · intro _ hqc;go_simp;try rfl
   try simp only [pu]
   refine rg_done ?_
   refine HQrg.down _ _ ?_
   have hB:Below wc.heap.size wc wr2:=hS
   clear hS HQrg Hops
   go_wp2_with fail
   go_ret
   exact ⟨ret_bool hf.out,bT Bc hB⟩
end Go.Proofs.YtpempeioeiaijaaGreat
