import Derived.Test.YtnhdmghgjngcaaaGreatGB
set_option linter.unusedSimpArgs false
set_option linter.unusedVariables false
namespace Go.Proofs.YtnhdmghgjngcaaaGreat
open Go.RowKit

def findNd (l:List Nd) (id:Int):Option Nd:=l.find? (fun n=>n.id == id)
def nd0:Nd:=⟨0,⟨0,0⟩⟩
def ndRes (r:Option Nd):Value:=.tuple #[ndV (r.getD nd0),.bool r.isSome]

set_option maxHeartbeats 400000 in
theorem Node_spec (v:Value) (p:Pl) (id:Int) (w:World) (h:PlV w v p) :
  Calls Tryz.prog 44 #[v,.int .i64 id] w fun e w'=>e=.returned (ndRes (findNd p.nodes id))∧Below w.heap.size w w':=by
 obtain ⟨_,va,vf,al,rfl,hpa,⟨An,cn,rfl,hn1,hn2,hR⟩,-,-⟩:=h
 unfold maxLen at hn2
 generalize p.nodes=l at *
 clear hpa
 go_enter Tryz.func44,Tryz.ntmps44
 go_wp2_with fail
 go_loopw [11] (fun i wr=>∃ k:Nat,k≤l.length∧i=.int .i64 k∧Below w.heap.size w wr∧Blk wr (w.heap.size+1) 38 #[.int .i64 0,.int .i64 0,.int .i64 0]∧∀ j (hj:j<l.length),j<k→(l[j].id == id)=false) (fun i _=>l.length-(intOf i).toNat)
 case atStart => exact ⟨0,Nat.zero_le _,rfl,bA (bA (bR w) _) _,Blk.made (by simp) _ _,fun j _ h=>by omega⟩
 case round =>
  obtain ⟨k,hk,rfl,hb,X4,hno⟩:=hrel
  have Hb:=Lib.hid hb
  have Hno:=Lib.hid hno
  clear hb hno
  obtain ⟨X4l,X4a,X4b,X4c,X4fa,X4fb,X4fc⟩:=X4.facts3
  by_cases hlt:k<l.length
  ·
   obtain ⟨b,o,rfl,hlb,c0,c1,c2⟩:=(hR.mono Hb.out).nd hlt
   have HR:=Lib.hid hR;clear hR
   cases he:(l[k].id == id)
   ·
    go_wp2
    go_roundw
    case rel => exact ⟨k+1,by omega,by go_num,bA Hb.out _,X4.alloc _,all_succ (p:=fun x=>(x.id == id)=false) Hno.out hlt he⟩
    case measure => simp [intOf];omega
   ·
    have hf:=find_hit l (fun n=>n.id == id) k hlt Hno.out he
    have Hf:=Lib.hid hf;clear hf
    go_wp2
    have Bw:=Hb.out
    refine res_cell_tmp (g:=w.heap.size+1) (cs:=#[.int .i64 l[k].id,.int .i64 l[k].pt.x,.int .i64 l[k].pt.y]) rfl struct_nd rfl rfl (Blk.put3 X4 |>.alloc _) ⟨by rw [findNd,Hf.out];rfl,?_⟩
    repeat (first | with_reducible exact bR _ | with_reducible assumption | with_reducible refine bA ?_ _ | with_reducible refine bD ?_ | with_reducible refine bN ?_ _ | ((with_reducible refine bS ?_ ?_ _);rotate_left;(simp;try omega)) | ((with_reducible refine bT ?_ ?_);rotate_left;with_reducible assumption) | with_reducible refine bT ?_ (by assumption))
  ·
   have hf:=find_miss l (fun n=>n.id == id) (fun j hj=>Hno.out j hj (by omega))
   have Hf:=Lib.hid hf;clear hf
   go_wp2
   have Bw:=Hb.out
   refine res_cell_tmp (g:=w.heap.size+1) (cs:=#[.int .i64 0,.int .i64 0,.int .i64 0]) rfl struct_nd rfl rfl (Blk.put3 X4) ⟨by rw [findNd,Hf.out];rfl,?_⟩
   repeat (first | with_reducible exact bR _ | with_reducible assumption | with_reducible refine bA ?_ _ | with_reducible refine bD ?_ | with_reducible refine bN ?_ _ | ((with_reducible refine bS ?_ ?_ _);rotate_left;(simp;try omega)) | ((with_reducible refine bT ?_ ?_);rotate_left;with_reducible assumption) | with_reducible refine bT ?_ (by assumption))

def RetPts (w:World) (l:List Pt) (e:Ending) (w':World):Prop :=
 ∃ A c,e=.returned (.slice A l.length c)∧Below w.heap.size w w'∧Own w' w.heap.size 36 2 ptC (.slice A l.length c) l

set_option maxHeartbeats 400000 in
theorem Clone_pt_spec (v:Value) (l:List Pt) (w:World) (h:Pts w v l) (hl:l.length≤1048576) :
  Calls Tryz.prog 35 #[v] w (RetPts w l):=by
 have H:=h
 obtain ⟨A,c,rfl,hn,hc,hR⟩:=h
 have hE:=Lib.run_eql_slice_nil (P:=Tryz.prog) (t:=39) (e:=36)
 rcases A with _ | ad
 ·
  have hl0:l=[]:=by
   rcases l with _ | ⟨a,l⟩
   · rfl
   ·
    obtain ⟨b,o,e,_⟩:=hR (by simp [ptC])
    cases e
  subst hl0
  clear hR H
  simp only [List.length_nil] at hn ⊢
  have hE1:∀ W:World,(binOp .eql 39 (.slice none 0 c) (.slice none 0 0)).run Tryz.prog W=.ok (.bool true) W:=fun W=>Lib.run_eql_slice_nil W _ 36 none _ c 0 0 Tryz.underlying39
  clear hE
  go_enter Tryz.func35,Tryz.ntmps35
  go_wp2
  go_ret
  exact ⟨_,_,rfl,bR w,Own.nil _ _ _ _ _⟩
 ·
  have hE1:∀ W:World,(binOp .eql 39 (.slice (some ad) l.length c) (.slice none 0 0)).run Tryz.prog W=.ok (.bool false) W:=fun W=>Lib.run_eql_slice_nil W _ 36 (some ad) _ c 0 0 Tryz.underlying39
  clear hE hR
  have HH:=Lib.hid H;clear H
  go_enter Tryz.func35,Tryz.ntmps35
  go_wp2_with
   (at_builtin
    refine wpList_appl _ rfl (.tmp 5) (.tmp 6) _ rfl (base:=w.heap.size) elem_pt ptC_len ptC_one rfl (Own.lit _ _ _ _ ptC [] _ 0 _ rfl rfl (Nat.le_refl _) (le_maxLen (by omega)) rfl rfl) rfl (HH.out.mono (bA (bR w) _)) (by simp only [List.length_nil];omega) (by simp only [List.length_nil];omega) (by simp) ?_
    intro v1 w1 hown hg hat)
  go_ret
  obtain ⟨A1,c1,rfl,-⟩:=Own.sl hown
  simp only [List.nil_append] at hown ⊢
  exact ⟨A1,c1,rfl,bG (bA (bR w) _) hg (fun k hk=>by have:w.heap.size=k:=Option.some.inj hk;omega),hown⟩
end Go.Proofs.YtnhdmghgjngcaaaGreat
namespace Go.Proofs.YtnhdmghgjngcaaaGreat
open Go.RowKit

def findAr (l:List Ar) (id:Int):Option Ar:=l.find? (fun a=>a.id == id)
def ar0:Ar:=⟨0,0,0,[],0,0⟩
def ArRes (w:World) (r:Option Ar) (e:Ending) (w':World):Prop :=
 ∃ v',e=.returned (.tuple #[arV (r.getD ar0) v',.bool r.isSome])∧Below w.heap.size w w'∧Pts w' v' (r.getD ar0).via
def Short (p:Pl):Prop:=∀ a∈p.arcs,a.via.length≤1048576

theorem Sl.nil (w:World):Sl w (.slice none 0 0) 0 []:=⟨none,0,rfl,Nat.le_refl _,le_maxLen (by omega),Row.nil⟩

theorem findAr_hit (al:List (Ar×Value)) (id:Int) (k:Nat) (hk:k<al.length) (h:∀ j (hj:j<al.length),j<k→(al[j].1.id == id)=false) (he:(al[k].1.id == id)=true) :
  findAr (al.map (·.1)) id=some al[k].1:=by
 have:=find_hit al (fun a=>a.1.id == id) k hk h he
 rw [findAr,List.find?_map]
 show (al.find? (fun a=>a.1.id == id)).map _=_
 rw [this]
 rfl
theorem findAr_miss (al:List (Ar×Value)) (id:Int) (h:∀ j (hj:j<al.length),(al[j].1.id == id)=false):findAr (al.map (·.1)) id=none:=by
 have:=find_miss al (fun a=>a.1.id == id) h
 rw [findAr,List.find?_map]
 show (al.find? (fun a=>a.1.id == id)).map _=_
 rw [this]
 rfl

set_option maxHeartbeats 4000000 in
theorem Arc_spec (v:Value) (p:Pl) (id:Int) (w:World) (h:PlV w v p) (hsh:Short p) :
  Calls Tryz.prog 33 #[v,.int .i64 id] w (ArRes w (findAr p.arcs id)):=by
 obtain ⟨vn,_,vf,al,rfl,hpa,-,⟨⟨An,cn,rfl,hn1,hn2,hR⟩,hV⟩,-⟩:=h
 unfold maxLen at hn2
 unfold Short at hsh
 rw [hpa] at hsh ⊢
 clear hpa
 have hsh':∀ k (hk:k<al.length),al[k].1.via.length≤1048576:=fun k hk=>hsh _ (List.mem_map_of_mem (List.getElem_mem hk))
 have HV:=Lib.hid hV;clear hV hsh
 have HSh:=Lib.hid hsh';clear hsh'
 go_enter Tryz.func33,Tryz.ntmps33
 go_wp2_with fail
 go_loopw [11] (fun i wr=>∃ k:Nat,k≤al.length∧i=.int .i64 k∧Below w.heap.size w wr∧Blk wr (w.heap.size+1) 41 #[.int .i64 0,.int .i64 0,.int .i64 0,.slice none 0 0,.int .i64 0,.int .i64 0]∧∀ j (hj:j<al.length),j<k→(al[j].1.id == id)=false) (fun i _=>al.length-(intOf i).toNat)
 case atStart => exact ⟨0,Nat.zero_le _,rfl,bA (bA (bR w) _) _,Blk.made (by simp) _ _,fun j _ h=>by omega⟩
 case round =>
  obtain ⟨k,hk,rfl,hb,X4,hno⟩:=hrel
  have Hb:=Lib.hid hb
  have Hno:=Lib.hid hno
  clear hb hno
  obtain ⟨X4l,X4a,X4b,X4c,X4d,X4e,X4f,X4fa,X4fb,X4fc,X4fd,X4fe,X4ff⟩:=X4.facts6
  by_cases hlt:k<al.length
  ·
   obtain ⟨b,o,rfl,hlb,c0,c1,c2,c3,c4,c5⟩:=(hR.mono Hb.out).ar hlt
   have HR:=Lib.hid hR;clear hR
   have hvk:=(HV.out k hlt)
   obtain ⟨Av,cv,hv,-⟩:=hvk
   have hvk:=(HV.out k hlt)
   rw [hv] at c3 hvk
   generalize hvl:al[k].1.via.length=vl at *
   have Hvl:=Lib.hid hvl
   have Hvk:=Lib.hid hvk;clear hvk hv hvl
   cases he:(al[k].1.id == id)
   ·
    go_wp2
    go_roundw
    case rel => exact ⟨k+1,by omega,by go_num,bA Hb.out _,X4.alloc _,all_succ (p:=fun x=>(x.1.id == id)=false) Hno.out hlt he⟩
    case measure => simp [intOf];omega
   ·
    have hf:=findAr_hit al id k hlt Hno.out he
    have Hf:=Lib.hid hf;clear hf
    go_wp2_with fail
    refine (Clone_pt_spec _ _ _ (Hvk.out.mono (bA Hb.out _)) (HSh.out k hlt)).mono ?_
    rintro e w1 ⟨A1,cc1,rfl,hb1,hown⟩
    have Bw:Below w.heap.size w w1:=bT (bA Hb.out _) hb1
    have X7:Blk w1 wr.heap.size 41 #[.int .i64 al[k].1.id,.int .i64 al[k].1.fr,.int .i64 al[k].1.dst,.slice Av vl cv,.int .i64 al[k].1.left,.int .i64 al[k].1.right]:=(Blk.made rfl _ _).keep hb1
    have hw8:w.heap.size+1<wr.heap.size:=by omega
    have hw7:w.heap.size+1≠wr.heap.size:=by omega
    replace X4:=(X4.alloc _).keep hb1
    have hown':=hown.mono_base (b':=wr.heap.size+1) (by simp)
    have hP:=Own.sl hown
    have Hown:=Lib.hid hown'
    clear hb1 c0 c1 c2 c3 c4 c5 hlb hown hown' hP
    try clear X4l
    try clear X4a
    try clear X4b
    try clear X4c
    try clear X4d
    try clear X4e
    try clear X4f
    try clear X4fa
    try clear X4fb
    try clear X4fc
    try clear X4fd
    try clear X4fe
    try clear X4ff
    obtain ⟨X4l,X4a,X4b,X4c,X4d,X4e,X4f,X4fa,X4fb,X4fc,X4fd,X4fe,X4ff⟩:=X4.facts6
    obtain ⟨X7l,X7a,X7b,X7c,X7d,X7e,X7f,X7fa,X7fb,X7fc,X7fd,X7fe,X7ff⟩:=X7.facts6
    go_wp2_with fail
    have hszr:=Hb.out.size
    have ne7:(Value.slice A1 al[k].1.via.length cc1).ownBlock≠some wr.heap.size:=fun e=>by have:=(Hown.out.lt _ e).1;omega
    have ne4:(Value.slice A1 al[k].1.via.length cc1).ownBlock≠some (w.heap.size+1):=fun e=>by have:=(Hown.out.lt _ e).1;omega
    have HP:=Own.sl (((((((Hown.out.far (p:=⟨wr.heap.size,3,none⟩) ne7 (.slice A1 al[k].1.via.length cc1)).far (p:=⟨w.heap.size+1,0,none⟩) ne4 (.int .i64 al[k].1.id)).far (p:=⟨w.heap.size+1,1,none⟩) ne4 (.int .i64 al[k].1.fr)).far (p:=⟨w.heap.size+1,2,none⟩) ne4 (.int .i64 al[k].1.dst)).far (p:=⟨w.heap.size+1,3,none⟩) ne4 (.slice A1 al[k].1.via.length cc1)).far (p:=⟨w.heap.size+1,4,none⟩) ne4 (.int .i64 al[k].1.left)).far (p:=⟨w.heap.size+1,5,none⟩) ne4 (.int .i64 al[k].1.right))
    refine res_cell_tmp (g:=w.heap.size+1) (cs:=#[.int .i64 al[k].1.id,.int .i64 al[k].1.fr,.int .i64 al[k].1.dst,.slice A1 al[k].1.via.length cc1,.int .i64 al[k].1.left,.int .i64 al[k].1.right]) rfl struct_ar rfl rfl (Blk.put6 (X4.far (p:=⟨wr.heap.size,3,none⟩) hw7 _)) ⟨.slice A1 al[k].1.via.length cc1,by rw [Hf.out];rfl,?_,by rw [Hf.out];exact HP⟩
    repeat (first | with_reducible exact bR _ | with_reducible assumption | with_reducible refine bA ?_ _ | with_reducible refine bD ?_ | with_reducible refine bN ?_ _ | ((with_reducible refine bS ?_ ?_ _);rotate_left;(simp;try omega)) | ((with_reducible refine bT ?_ ?_);rotate_left;with_reducible assumption) | with_reducible refine bT ?_ (by assumption))
  ·
   have hf:=findAr_miss al id (fun j hj=>Hno.out j hj (by omega))
   have Hf:=Lib.hid hf;clear hf
   go_wp2
   have Bw:=Hb.out
   refine res_cell_tmp (g:=w.heap.size+1) (cs:=#[.int .i64 0,.int .i64 0,.int .i64 0,.slice none 0 0,.int .i64 0,.int .i64 0]) rfl struct_ar rfl rfl (Blk.put6 X4) ⟨.slice none 0 0,by rw [Hf.out];rfl,?_,by rw [Hf.out];exact Sl.nil _⟩
   repeat (first | with_reducible exact bR _ | with_reducible assumption | with_reducible refine bA ?_ _ | with_reducible refine bD ?_ | with_reducible refine bN ?_ _ | ((with_reducible refine bS ?_ ?_ _);rotate_left;(simp;try omega)) | ((with_reducible refine bT ?_ ?_);rotate_left;with_reducible assumption) | with_reducible refine bT ?_ (by assumption))
end Go.Proofs.YtnhdmghgjngcaaaGreat
namespace Go.Proofs.YtnhdmghgjngcaaaGreat
open Go.RowKit

def degS (l:List Ar) (id:Int):Int:=(l.map fun a=>(if a.fr=id then (1:Int) else 0)+(if a.dst=id then 1 else 0)).sum
theorem degS_bd (l:List Ar) (id:Int):0≤degS l id∧degS l id≤2*l.length:=by
 unfold degS
 induction l with
 | nil=>simp
 | cons a l ih =>
  simp only [List.map_cons,List.sum_cons,List.length_cons]
  split<;>split<;>omega
theorem degS_succ (al:List (Ar×Value)) (id:Int) (k:Nat) (hk:k<al.length) :
  degS ((al.take (k+1)).map (·.1)) id=degS ((al.take k).map (·.1)) id+((if al[k].1.fr=id then (1:Int) else 0)+(if al[k].1.dst=id then 1 else 0)):=by
 unfold degS
 rw [List.take_succ_eq_append_getElem hk]
 simp only [List.map_append,List.sum_append,List.map_cons,List.map_nil,List.sum_cons,List.sum_nil]
 omega

set_option maxHeartbeats 400000 in
theorem Degree_spec (v:Value) (p:Pl) (id:Int) (w:World) (h:PlV w v p) (hl:p.arcs.length≤1099511627776) :
  Calls Tryz.prog 63 #[v,.int .i64 id] w fun e w'=>e=.returned (.int .i64 (degS p.arcs id))∧Below w.heap.size w w':=by
 obtain ⟨vn,_,vf,al,rfl,hpa,-,⟨⟨An,cn,rfl,hn1,hn2,hR⟩,hV⟩,-⟩:=h
 unfold maxLen at hn2
 rw [hpa] at hl ⊢
 rw [List.length_map] at hl
 clear hpa
 have HV:=Lib.hid hV;clear hV
 go_enter Tryz.func63,Tryz.ntmps63
 go_wp2_with fail
 go_loopw [4,10] (fun n i wr=>∃ k:Nat,k≤al.length∧i=.int .i64 k∧n=.int .i64 (degS ((al.take k).map (·.1)) id)∧Below w.heap.size w wr) (fun _ i _=>al.length-(intOf i).toNat)
 case atStart => exact ⟨0,Nat.zero_le _,rfl,rfl,bA (bR w) _⟩
 case round =>
  obtain ⟨k,hk,rfl,rfl,hb⟩:=hrel
  have Hb:=Lib.hid hb
  clear hb
  have hd:=degS_bd ((al.take k).map (·.1)) id
  have hl2:((al.take k).map (·.1)).length≤al.length:=by simp;omega
  by_cases hlt:k<al.length
  ·
   obtain ⟨b,o,rfl,hlb,c0,c1,c2,c3,c4,c5⟩:=(hR.mono Hb.out).ar hlt
   have HR:=Lib.hid hR;clear hR
   obtain ⟨Av,cv,hv,-⟩:=(HV.out k hlt)
   rw [hv] at c3
   clear hv
   have Hs:=Lib.hid (degS_succ al id k hlt)
   generalize degS ((al.take k).map (·.1)) id=d at *
   go_wp2
   all_goals
    go_roundw
    case rel => exact ⟨k+1,by omega,by go_num,by rw [Hs.out];simp_all<;>go_num,bA Hb.out _⟩
    case measure => simp [intOf];omega
  ·
   have hE:(al.take k).map (·.1)=al.map (·.1):=by rw [List.take_of_length_le (by omega)]
   rw [hE]
   go_wp2
   go_ret
   exact ⟨ret_int rfl,Hb.out⟩

end Go.Proofs.YtnhdmghgjngcaaaGreat
namespace Go.Proofs.YtnhdmghgjngcaaaGreat
open Go.RowKit

def asc (l:List Int):Bool:=(List.range (l.length-1)).all fun j=>decide (l.getD j 0<l.getD (j+1) 0)
theorem asc_yes (l:List Int) (h:∀ j (hj:j+1<l.length),l[j]<l[j+1]):asc l=true:=by
 unfold asc
 rw [List.all_eq_true]
 intro j hj
 have hj':j+1<l.length:=by have:=List.mem_range.1 hj;omega
 have:=h j hj'
 simp [List.getD,List.getElem?_eq_getElem hj',List.getElem?_eq_getElem (show j<l.length by omega),this]
theorem asc_no (l:List Int) (j:Nat) (hj:j+1<l.length) (h:¬ l[j]<l[j+1]):asc l=false:=by
 unfold asc
 rw [List.all_eq_false]
 refine ⟨j,List.mem_range.2 (by omega),?_⟩
 simp [List.getD,List.getElem?_eq_getElem hj,List.getElem?_eq_getElem (show j<l.length by omega)]
 omega

set_option maxHeartbeats 400000 in
theorem ascending_spec (v:Value) (l:List Int) (w:World) (h:Ints w v l) :
  Calls Tryz.prog 84 #[v] w fun e w'=>e=.returned (.bool (asc l))∧Below w.heap.size w w':=by
 obtain ⟨A,c,rfl,hn,hc,hR⟩:=h
 unfold maxLen at hc
 go_enter Tryz.func84,Tryz.ntmps84
 go_wp2_with fail
 go_loopw [3] (fun i wr=>∃ m:Nat,i=.int .i64 ((m:Int)+1)∧(m=0∨m+1≤l.length)∧Below w.heap.size w wr∧∀ j (hj:j+1<l.length),j<m→l[j]<l[j+1]) (fun i _=>l.length+1-(intOf i).toNat)
 case atStart => exact ⟨0,rfl,.inl rfl,bR w,fun j _ h=>by omega⟩
 case round =>
  obtain ⟨m,rfl,hm,hb,hno⟩:=hrel
  have Hb:=Lib.hid hb
  have Hno:=Lib.hid hno
  clear hb hno
  by_cases hlt:m+1<l.length
  ·
   obtain ⟨b,o,rfl,hlb,c1⟩:=(hR.mono Hb.out).int hlt
   obtain ⟨b',o',e,hlb',c0⟩:=(hR.mono Hb.out).int (show m<l.length by omega)
   simp only [Option.some.injEq,Addr.mk.injEq,and_true] at e
   obtain ⟨rfl,rfl⟩:=e
   have HR:=Lib.hid hR;clear hR hm
   have q1:IntKind.i64.wrap (m:Int)=m:=IntWalk.i64_in _ (by omega)
   have q2:0≤(m:Int):=by omega
   have q3:(m:Int)<l.length:=by omega
   have q4:(m:Int)+1<l.length:=by omega
   have q5:0≤(m:Int)+1:=by omega
   have q6:((m:Int)+1).toNat=m+1:=by omega
   go_upto_region 4 with fail
   refine rg_start (Since wr) (.run 10 0 0 (.done)) (by kernel_rfl) (bD (bR _)) (by kernel_rfl) (by kernel_rfl) (Nat.le_of_ble_eq_true (by kernel_rfl)) ?_
   intro opsR QR Hops HQrg hS
   iterate 10
    apply rg_p;exact Hops;exact rfl;exact hS;exact rfl
    · intro _ hqc;go_simp;try rfl
    try simp only [pu]
   refine rg_done ?_
   refine HQrg.down _ _ ?_
   have hB:Below wr.heap.size wr wr.drew:=hS
   clear hS HQrg Hops
   have Bw:Below w.heap.size w wr.drew:=bT Hb.out hB
   clear hB
   by_cases hlt2:l[m]<l[m+1]
   ·
    go_wp2_with fail
    go_roundw
    case rel => exact ⟨m+1,by go_num,.inr (by omega),Bw,fun j hj hjm=>if e:j<m then Hno.out j hj e else by
      have:j=m:=by omega
      subst this;exact hlt2⟩
    case measure => simp [intOf];omega
   ·
    have hf:=Lib.hid (asc_no l m hlt hlt2)
    go_wp2_with fail
    go_ret
    exact ⟨ret_bool hf.out.symm,Bw⟩
  ·
   have hf:=Lib.hid (asc_yes l fun j hj=>Hno.out j hj (by omega))
   go_wp2_with fail
   go_ret
   exact ⟨ret_bool hf.out.symm,Hb.out⟩
end Go.Proofs.YtnhdmghgjngcaaaGreat
namespace Go.Proofs.YtnhdmghgjngcaaaGreat
open Go.RowKit

theorem eq_of_all {α:Type} {a b:List α} (hl:a.length=b.length) (h:∀ j (hj:j<a.length),a[j]=b[j]):a=b :=
 List.ext_getElem hl fun j h1 _=>h j h1
theorem ne_of_at {α:Type} {a b:List α} (j:Nat) (hj:j<a.length) (hj':j<b.length) (h:¬ a[j]=b[j]):¬ a=b:=by
 rintro rfl;exact h rfl

set_option maxHeartbeats 400000 in
theorem SamePath_spec (v u:Value) (l m:List Pt) (w:World) (h:Pts w v l) (h':Pts w u m) :
  Calls Tryz.prog 20 #[v,u] w fun e w'=>e=.returned (.bool (decide (l=m)))∧Below w.heap.size w w':=by
 obtain ⟨A,c,rfl,hn,hc,hR⟩:=h
 obtain ⟨A',c',rfl,hn',hc',hR'⟩:=h'
 unfold maxLen at hc hc'
 by_cases hlen:l.length=m.length
 case neg =>
  have hf:=Lib.hid (decide_eq_false (fun e:l=m=>hlen (congrArg List.length e)))
  have hl1:((l.length:Int) != (m.length:Int))=true:=by rw [bne_iff_ne];omega
  have hl2:(l.length != m.length)=true:=by rw [bne_iff_ne];omega
  clear hlen
  go_enter Tryz.func20,Tryz.ntmps20
  go_wp2_with fail
  go_ret
  exact ⟨ret_bool hf.out.symm,bR w⟩
 case pos =>
 have hl1:((l.length:Int) != (m.length:Int))=false:=by simp [hlen]
 have hl2:(l.length != m.length)=false:=by simp [hlen]
 have Hlen:=Lib.hid hlen;clear hlen
 go_enter Tryz.func20,Tryz.ntmps20
 go_wp2_with fail
 go_loopw [5] (fun i wr=>∃ k:Nat,k≤l.length∧i=.int .i64 k∧Below w.heap.size w wr∧∀ j (hj:j<l.length) (hj':j<m.length),j<k→l[j]=m[j]) (fun i _=>l.length-(intOf i).toNat)
 case atStart => exact ⟨0,Nat.zero_le _,rfl,bR w,fun j _ _ h=>by omega⟩
 case round =>
  obtain ⟨k,hk,rfl,hb,hno⟩:=hrel
  have Hb:=Lib.hid hb
  have Hno:=Lib.hid hno
  clear hb hno hl1 hl2
  by_cases hlt:k<l.length
  ·
   have hlt':k<m.length:=by have:=Hlen.out;omega
   obtain ⟨b,o,rfl,hlb,c0,c1⟩:=(hR.mono Hb.out).pt hlt
   obtain ⟨b',o',rfl,hlb',c0q,c1q⟩:=(hR'.mono Hb.out).pt hlt'
   have HR:=Lib.hid hR;have HR':=Lib.hid hR';clear hR hR'
   have q1:0≤(k:Int):=by omega
   have q2:(k:Int)<l.length:=by omega
   have q3:(k:Int)<m.length:=by omega
   by_cases he:l[k]=m[k]
   ·
    have hd:decide (l[k]=m[k])=true:=by simpa using he
    have He:=Lib.hid he;clear he
    have hE:=run_neq_pt l[k] m[k]
    go_upto_region 6 with fail
    refine rg_start (Since wr) (.run 9 0 0 (.done)) (by kernel_rfl) (bD (bR _)) (by kernel_rfl) (by kernel_rfl) (Nat.le_of_ble_eq_true (by kernel_rfl)) ?_
    intro opsR QR Hops HQrg hS
    iterate 9
     apply rg_p;exact Hops;exact rfl;exact hS;exact rfl
     · intro _ hqc;go_simp;try rfl
     try simp only [pu]
    refine rg_done ?_
    refine HQrg.down _ _ ?_
    have hB:Below wr.heap.size wr wr.drew:=hS
    clear hS HQrg Hops
    have Bw:Below w.heap.size w wr.drew:=bT Hb.out hB
    clear hB
    go_wp2_with fail
    go_roundw
    case rel => exact ⟨k+1,by omega,by go_num,Bw,fun j hj hj' hjk=>if e:j<k then Hno.out j hj hj' e else by
      have:j=k:=by omega
      subst this;exact He.out⟩
    case measure => simp [intOf];omega
   ·
    have hd:decide (l[k]=m[k])=false:=by simpa using he
    have He:=Lib.hid he;clear he
    have hE:=run_neq_pt l[k] m[k]
    go_upto_region 6 with fail
    refine rg_start (Since wr) (.run 9 0 0 (.done)) (by kernel_rfl) (bD (bR _)) (by kernel_rfl) (by kernel_rfl) (Nat.le_of_ble_eq_true (by kernel_rfl)) ?_
    intro opsR QR Hops HQrg hS
    iterate 9
     apply rg_p;exact Hops;exact rfl;exact hS;exact rfl
     · intro _ hqc;go_simp;try rfl
     try simp only [pu]
    refine rg_done ?_
    refine HQrg.down _ _ ?_
    have hB:Below wr.heap.size wr wr.drew:=hS
    clear hS HQrg Hops
    have Bw:Below w.heap.size w wr.drew:=bT Hb.out hB
    clear hB
    go_wp2_with fail
    go_ret
    exact ⟨ret_bool (decide_eq_false (ne_of_at k hlt hlt' He.out)).symm,Bw⟩
  ·
   have hf:=Lib.hid (decide_eq_true (eq_of_all Hlen.out fun j hj=>Hno.out j hj (by have:=Hlen.out;omega) (by omega)))
   go_wp2_with fail
   go_ret
   exact ⟨ret_bool hf.out.symm,Hb.out⟩

end Go.Proofs.YtnhdmghgjngcaaaGreat
namespace Go.Proofs.YtnhdmghgjngcaaaGreat
open Go.RowKit

theorem Ar.ext_iff' {a b:Ar}:a=b↔a.id=b.id∧a.fr=b.fr∧a.dst=b.dst∧a.left=b.left∧a.right=b.right∧a.via=b.via:=by
 cases a;cases b;simp;intros;constructor<;>(rintro ⟨h1,h2,h3⟩;exact ⟨by assumption,by assumption,by assumption⟩)

set_option maxHeartbeats 1000000 in
theorem SameArc_spec (a b:Ar) (va vb:Value) (w:World) (ha:Pts w va a.via) (hb:Pts w vb b.via) :
  Calls Tryz.prog 14 #[arV a va,arV b vb] w fun e w'=>e=.returned (.bool (decide (a=b)))∧Below w.heap.size w w':=by
 have TP:∀ W,Below w.heap.size w W→Calls Tryz.prog 20 #[va,vb] W _:=fun W hW=>SamePath_spec va vb a.via b.via W (ha.mono hW) (hb.mono hW)
 obtain ⟨A,c,rfl,-⟩:=ha
 obtain ⟨A',c',rfl,-⟩:=hb
 have HP:=Lib.hid TP;clear TP
 generalize hl:a.via.length=l at *
 generalize hl':b.via.length=l' at *
 have hx:=@Ar.ext_iff' a b
 have Hx:=Lib.hid hx;clear hx hl hl'
 unfold arV
 cases hid:(a.id == b.id)
 case false =>
  have hf:=Lib.hid (decide_eq_false (fun e:a=b=>by have:=(Hx.out.1 e);simp_all):decide (a=b)=false)
  go_enter Tryz.func14,Tryz.ntmps14
  go_wp2_with fail
  go_ret
  refine ⟨ret_bool hf.out.symm,?_⟩
  repeat (first | with_reducible exact bR _ | with_reducible assumption | with_reducible refine bA ?_ _ | with_reducible refine bD ?_ | with_reducible refine bN ?_ _ | ((with_reducible refine bS ?_ ?_ _);rotate_left;(simp;try omega)) | ((with_reducible refine bT ?_ ?_);rotate_left;with_reducible assumption) | with_reducible refine bT ?_ (by assumption))
 case true =>
 cases hfr:(a.fr == b.fr)
 case false =>
  have hf:=Lib.hid (decide_eq_false (fun e:a=b=>by have:=(Hx.out.1 e);simp_all):decide (a=b)=false)
  go_enter Tryz.func14,Tryz.ntmps14
  go_wp2_with fail
  go_ret
  refine ⟨ret_bool hf.out.symm,?_⟩
  repeat (first | with_reducible exact bR _ | with_reducible assumption | with_reducible refine bA ?_ _ | with_reducible refine bD ?_ | with_reducible refine bN ?_ _ | ((with_reducible refine bS ?_ ?_ _);rotate_left;(simp;try omega)) | ((with_reducible refine bT ?_ ?_);rotate_left;with_reducible assumption) | with_reducible refine bT ?_ (by assumption))
 case true =>
 cases hto:(a.dst == b.dst)
 case false =>
  have hf:=Lib.hid (decide_eq_false (fun e:a=b=>by have:=(Hx.out.1 e);simp_all):decide (a=b)=false)
  go_enter Tryz.func14,Tryz.ntmps14
  go_wp2_with fail
  go_ret
  refine ⟨ret_bool hf.out.symm,?_⟩
  repeat (first | with_reducible exact bR _ | with_reducible assumption | with_reducible refine bA ?_ _ | with_reducible refine bD ?_ | with_reducible refine bN ?_ _ | ((with_reducible refine bS ?_ ?_ _);rotate_left;(simp;try omega)) | ((with_reducible refine bT ?_ ?_);rotate_left;with_reducible assumption) | with_reducible refine bT ?_ (by assumption))
 case true =>
 cases hleft:(a.left == b.left)
 case false =>
  have hf:=Lib.hid (decide_eq_false (fun e:a=b=>by have:=(Hx.out.1 e);simp_all):decide (a=b)=false)
  go_enter Tryz.func14,Tryz.ntmps14
  go_wp2_with fail
  go_ret
  refine ⟨ret_bool hf.out.symm,?_⟩
  repeat (first | with_reducible exact bR _ | with_reducible assumption | with_reducible refine bA ?_ _ | with_reducible refine bD ?_ | with_reducible refine bN ?_ _ | ((with_reducible refine bS ?_ ?_ _);rotate_left;(simp;try omega)) | ((with_reducible refine bT ?_ ?_);rotate_left;with_reducible assumption) | with_reducible refine bT ?_ (by assumption))
 case true =>
 cases hright:(a.right == b.right)
 case false =>
  have hf:=Lib.hid (decide_eq_false (fun e:a=b=>by have:=(Hx.out.1 e);simp_all):decide (a=b)=false)
  go_enter Tryz.func14,Tryz.ntmps14
  go_wp2_with fail
  go_ret
  refine ⟨ret_bool hf.out.symm,?_⟩
  repeat (first | with_reducible exact bR _ | with_reducible assumption | with_reducible refine bA ?_ _ | with_reducible refine bD ?_ | with_reducible refine bN ?_ _ | ((with_reducible refine bS ?_ ?_ _);rotate_left;(simp;try omega)) | ((with_reducible refine bT ?_ ?_);rotate_left;with_reducible assumption) | with_reducible refine bT ?_ (by assumption))
 case true =>
 cases hv:decide (a.via=b.via)
 all_goals
  have hf:decide (a=b)=decide (a.via=b.via):=by
   rw [Bool.eq_iff_iff,decide_eq_true_iff,decide_eq_true_iff,Hx.out]
   simp only [beq_iff_eq] at *
   constructor
   · intro h;exact h.2.2.2.2.2
   · intro h;exact ⟨by assumption,by assumption,by assumption,by assumption,by assumption,h⟩
  rw [hv] at hf
  have Hf:=Lib.hid hf;clear hf
  go_enter Tryz.func14,Tryz.ntmps14
  go_wp2_with fail
  refine (HP.out _ (bA (bA (bR w) _) _)).mono ?_
  rintro e w1 ⟨rfl,hb1⟩
  rw [hv]
  go_wp2_with fail
  go_ret
  exact ⟨ret_bool Hf.out.symm,bT (bA (bA (bR w) _) _) hb1⟩

theorem any_hit {α:Type} (l:List α) (q:α→Bool) (k:Nat) (hk:k<l.length) (h:q l[k]=true):l.any q=true:=List.any_eq_true.2 ⟨l[k],List.getElem_mem hk,h⟩
theorem any_miss {α:Type} (l:List α) (q:α→Bool) (h:∀ j (hj:j<l.length),q l[j]=false):l.any q=false:=by
 rw [List.any_eq_false]
 intro x hx
 obtain ⟨i,hi,rfl⟩:=List.mem_iff_getElem.1 hx
 simp [h i hi]

def faceS (l:List Int) (n:Int):Bool:=l.any (fun x=>x == n) || n == 0

def limS (p:Pl):Bool:=p.arcs.any (fun a=>decide (64<a.via.length)) || (decide (256<p.nodes.length) || decide (256<p.arcs.length) || decide (64<p.faces.length))

end Go.Proofs.YtnhdmghgjngcaaaGreat
namespace Go.Proofs.YtnhdmghgjngcaaaGreat
open Go.RowKit

def IdxRes (w:World) (b:Bool) (e:Ending) (w':World):Prop:=∃ r:Int,e=.returned (.int .i64 r)∧decide (0≤r)=b∧Below w.heap.size w w'

set_option maxHeartbeats 400000 in
theorem Index_int_spec (v:Value) (l:List Int) (x:Int) (w:World) (h:Ints w v l) :
  Calls Tryz.prog 93 #[v,.int .i64 x] w (IdxRes w (l.any fun y=>y == x)):=by
 obtain ⟨A,c,rfl,hn,hc,hR⟩:=h
 unfold maxLen at hc
 go_enter Tryz.func93,Tryz.ntmps93
 go_wp2_with fail
 go_loopw [8] (fun i wr=>∃ k:Nat,k≤l.length∧i=.int .i64 k∧Below w.heap.size w wr∧∀ j (hj:j<l.length),j<k→(fun y=>y == x) l[j]=false) (fun i _=>l.length-(intOf i).toNat)
 case atStart => exact ⟨0,Nat.zero_le _,rfl,bR w,fun j _ h=>by omega⟩
 case round =>
  obtain ⟨k,hk,rfl,hb,hno⟩:=hrel
  have Hb:=Lib.hid hb
  have Hno:=Lib.hid hno
  clear hb hno
  by_cases hlt:k<l.length
  ·
   obtain ⟨b,o,rfl,hlb,c0⟩:=(hR.mono Hb.out).int hlt
   have HR:=Lib.hid hR;clear hR
   cases he:(l[k] == x)
   ·
    go_wp2_with fail
    go_roundw
    case rel => exact ⟨k+1,by omega,by go_num,Hb.out,all_succ (p:=fun y=>(fun y=>y == x) y=false) Hno.out hlt he⟩
    case measure => simp [intOf];omega
   ·
    have hf:=Lib.hid (any_hit l (fun y=>y == x) k hlt he)
    have he2:(x == l[k])=true:=by simpa using (beq_iff_eq.1 he).symm
    go_wp2_with fail
    go_ret
    exact ⟨k,rfl,by rw [hf.out];simp,Hb.out⟩
  ·
   have hf:=Lib.hid (any_miss l (fun y=>y == x) (fun j hj=>Hno.out j hj (by omega)))
   go_wp2_with fail
   go_ret
   exact ⟨-1,rfl,by rw [hf.out];simp,Hb.out⟩

set_option maxHeartbeats 400000 in
theorem IndexFunc_numbered_spec (v:Value) (l:List Int) (p:Int→Bool) (w:World) (h:Ints w v l)
  (hg:∀ y W,Calls Tryz.prog 103 #[(.int .i64 y)] W fun e w'=>e=.returned (.bool (p y))∧Below W.heap.size W w') :
  Calls Tryz.prog 130 #[v,.func (.func 103) #[] #[]] w (IdxRes w (l.any p)):=by
 obtain ⟨A,c,rfl,hn,hc,hR⟩:=h
 unfold maxLen at hc
 have HG:=Lib.hid hg;clear hg
 go_enter Tryz.func130,Tryz.ntmps130
 go_wp2_with fail
 go_loopw [8] (fun i wr=>∃ k:Nat,k≤l.length∧i=.int .i64 k∧Below w.heap.size w wr∧∀ j (hj:j<l.length),j<k→(p) l[j]=false) (fun i _=>l.length-(intOf i).toNat)
 case atStart => exact ⟨0,Nat.zero_le _,rfl,bR w,fun j _ h=>by omega⟩
 case round =>
  obtain ⟨k,hk,rfl,hb,hno⟩:=hrel
  have Hb:=Lib.hid hb
  have Hno:=Lib.hid hno
  clear hb hno
  by_cases hlt:k<l.length
  ·
   obtain ⟨b,o,rfl,hlb,c0⟩:=(hR.mono Hb.out).int hlt
   have HR:=Lib.hid hR;clear hR
   go_wp2_with fail
   refine (HG.out l[k] _).mono ?_
   rintro e w1 ⟨rfl,hb1⟩
   have Bw:Below w.heap.size w w1:=bT Hb.out hb1
   clear hb1
   cases he:p l[k]
   ·
    go_wp2_with fail
    go_roundw
    case rel => exact ⟨k+1,by omega,by go_num,Bw,all_succ (p:=fun y=>(p) y=false) Hno.out hlt he⟩
    case measure => simp [intOf];omega
   ·
    have hf:=Lib.hid (any_hit l (p) k hlt he)
    go_wp2_with fail
    go_ret
    exact ⟨k,rfl,by rw [hf.out];simp,Bw⟩
  ·
   have hf:=Lib.hid (any_miss l (p) (fun j hj=>Hno.out j hj (by omega)))
   go_wp2_with fail
   go_ret
   exact ⟨-1,rfl,by rw [hf.out];simp,Hb.out⟩

set_option maxHeartbeats 400000 in
theorem ContainsFunc_numbered_spec (v:Value) (l:List Int) (p:Int→Bool) (w:World) (h:Ints w v l)
  (hg:∀ y W,Calls Tryz.prog 103 #[(.int .i64 y)] W fun e w'=>e=.returned (.bool (p y))∧Below W.heap.size W w') :
  Calls Tryz.prog 102 #[v,.func (.func 103) #[] #[]] w fun e w'=>e=.returned (.bool (l.any p))∧Below w.heap.size w w':=by
 have T:=IndexFunc_numbered_spec v l p w h hg
 have HT:=Lib.hid T;clear T hg h
 go_enter Tryz.func102,Tryz.ntmps102
 go_wp2_with fail
 refine HT.out.mono ?_
 rintro e w1 ⟨r,rfl,hr,hb1⟩
 have Hr:=Lib.hid hr;clear hr
 go_wp2_with fail
 go_ret
 exact ⟨ret_bool Hr.out,hb1⟩

set_option maxHeartbeats 400000 in
theorem IndexFunc_placed_spec (v:Value) (l:List Pt) (p:Pt→Bool) (w:World) (h:Pts w v l)
  (hg:∀ y W,Calls Tryz.prog 104 #[(.agg #[.int .i64 y.x,.int .i64 y.y])] W fun e w'=>e=.returned (.bool (p y))∧Below W.heap.size W w') :
  Calls Tryz.prog 131 #[v,.func (.func 104) #[] #[]] w (IdxRes w (l.any p)):=by
 obtain ⟨A,c,rfl,hn,hc,hR⟩:=h
 unfold maxLen at hc
 have HG:=Lib.hid hg;clear hg
 go_enter Tryz.func131,Tryz.ntmps131
 go_wp2_with fail
 go_loopw [8] (fun i wr=>∃ k:Nat,k≤l.length∧i=.int .i64 k∧Below w.heap.size w wr∧∀ j (hj:j<l.length),j<k→(p) l[j]=false) (fun i _=>l.length-(intOf i).toNat)
 case atStart => exact ⟨0,Nat.zero_le _,rfl,bR w,fun j _ h=>by omega⟩
 case round =>
  obtain ⟨k,hk,rfl,hb,hno⟩:=hrel
  have Hb:=Lib.hid hb
  have Hno:=Lib.hid hno
  clear hb hno
  by_cases hlt:k<l.length
  ·
   obtain ⟨b,o,rfl,hlb,c0,c1⟩:=(hR.mono Hb.out).pt hlt
   have HR:=Lib.hid hR;clear hR
   go_wp2_with fail
   refine (HG.out l[k] _).mono ?_
   rintro e w1 ⟨rfl,hb1⟩
   have Bw:Below w.heap.size w w1:=bT Hb.out hb1
   clear hb1
   cases he:p l[k]
   ·
    go_wp2_with fail
    go_roundw
    case rel => exact ⟨k+1,by omega,by go_num,Bw,all_succ (p:=fun y=>(p) y=false) Hno.out hlt he⟩
    case measure => simp [intOf];omega
   ·
    have hf:=Lib.hid (any_hit l (p) k hlt he)
    go_wp2_with fail
    go_ret
    exact ⟨k,rfl,by rw [hf.out];simp,Bw⟩
  ·
   have hf:=Lib.hid (any_miss l (p) (fun j hj=>Hno.out j hj (by omega)))
   go_wp2_with fail
   go_ret
   exact ⟨-1,rfl,by rw [hf.out];simp,Hb.out⟩

set_option maxHeartbeats 400000 in
theorem ContainsFunc_placed_spec (v:Value) (l:List Pt) (p:Pt→Bool) (w:World) (h:Pts w v l)
  (hg:∀ y W,Calls Tryz.prog 104 #[(.agg #[.int .i64 y.x,.int .i64 y.y])] W fun e w'=>e=.returned (.bool (p y))∧Below W.heap.size W w') :
  Calls Tryz.prog 105 #[v,.func (.func 104) #[] #[]] w fun e w'=>e=.returned (.bool (l.any p))∧Below w.heap.size w w':=by
 have T:=IndexFunc_placed_spec v l p w h hg
 have HT:=Lib.hid T;clear T hg h
 go_enter Tryz.func105,Tryz.ntmps105
 go_wp2_with fail
 refine HT.out.mono ?_
 rintro e w1 ⟨r,rfl,hr,hb1⟩
 have Hr:=Lib.hid hr;clear hr
 go_wp2_with fail
 go_ret
 exact ⟨ret_bool Hr.out,hb1⟩

set_option maxHeartbeats 400000 in
theorem Contains_int_spec (v:Value) (l:List Int) (x:Int) (w:World) (h:Ints w v l) :
  Calls Tryz.prog 106 #[v,.int .i64 x] w fun e w'=>e=.returned (.bool (l.any (fun y=>y == x)))∧Below w.heap.size w w':=by
 have T:=Index_int_spec v l x w h
 have HT:=Lib.hid T;clear T h
 go_enter Tryz.func106,Tryz.ntmps106
 go_wp2_with fail
 refine HT.out.mono ?_
 rintro e w1 ⟨r,rfl,hr,hb1⟩
 have Hr:=Lib.hid hr;clear hr
 go_wp2_with fail
 go_ret
 exact ⟨ret_bool Hr.out,hb1⟩

def idBad (n:Int):Bool:=decide (n<1) || decide (1073741824<n)
set_option maxHeartbeats 400000 in
theorem idBad_spec (n:Int) (w:World):Calls Tryz.prog 103 #[.int .i64 n] w fun e w'=>e=.returned (.bool (idBad n))∧Below w.heap.size w w':=by
 by_cases h:n<1
 ·
  go_enter Tryz.func103,Tryz.ntmps103
  go_wp2_with fail
  go_ret
  exact ⟨ret_bool (by simp [idBad,h]),bR w⟩
 ·
  have h':decide (n<1)=false:=by simpa using h
  go_enter Tryz.func103,Tryz.ntmps103
  go_wp2_with fail
  go_ret
  exact ⟨ret_bool (by simp only [idBad,h',Bool.false_or]),bR w⟩
set_option maxHeartbeats 400000 in
theorem numbered_spec (v:Value) (l:List Int) (w:World) (h:Ints w v l) :
  Calls Tryz.prog 85 #[v] w fun e w'=>e=.returned (.bool (!l.any idBad))∧Below w.heap.size w w':=by
 have T:=ContainsFunc_numbered_spec v l idBad w h (fun y W=>idBad_spec y W)
 have HT:=Lib.hid T;clear T h
 go_enter Tryz.func85,Tryz.ntmps85
 go_wp2_with fail
 refine HT.out.mono ?_
 rintro e w1 ⟨rfl,hb1⟩
 go_wp2_with fail
 go_ret
 exact ⟨ret_bool rfl,hb1⟩

def ptOk (p:Pt):Bool:=decide (-1048576≤p.x) && decide (p.x≤1048576) && decide (-1048576≤p.y) && decide (p.y≤1048576)
end Go.Proofs.YtnhdmghgjngcaaaGreat
