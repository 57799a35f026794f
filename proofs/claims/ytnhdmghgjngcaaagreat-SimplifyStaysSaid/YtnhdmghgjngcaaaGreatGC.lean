import Derived.Test.YtnhdmghgjngcaaaGreatJ01
set_option linter.unusedSimpArgs false
set_option linter.unusedVariables false
namespace Go.Proofs.YtnhdmghgjngcaaaGreat
open Go.RowKit

def ptBad (p:Pt):Bool:=decide (p.x < -1048576) || decide (1048576<p.x) || decide (p.y < -1048576) || decide (1048576<p.y)
theorem ptBad_eq (p:Pt):ptBad p = !ptOk p:=by
 rw [Bool.eq_iff_iff]
 simp only [ptBad,ptOk,Bool.or_eq_true,decide_eq_true_eq,Bool.not_eq_true',Bool.and_eq_false_iff,decide_eq_false_iff_not]
 omega

set_option maxHeartbeats 400000 in
theorem ptBad_spec (p:Pt) (w:World):Calls Tryz.prog 104 #[.agg #[.int .i64 p.x,.int .i64 p.y]] w fun e w'=>e=.returned (.bool (ptBad p))∧Below w.heap.size w w':=by
 go_enter Tryz.func104,Tryz.ntmps104
 go_wp2_with fail
 all_goals
  go_ret
  refine ⟨ret_bool (by unfold ptBad;first | rfl | (rw [Bool.eq_iff_iff];simp only [Bool.or_eq_true,decide_eq_true_eq,true_iff,Bool.false_eq_true,false_iff];done) | (rw [Bool.eq_iff_iff];simp only [Bool.or_eq_true,decide_eq_true_eq,true_iff,Bool.false_eq_true,false_iff];omega)),?_⟩
  repeat (first | with_reducible exact bR _ | with_reducible assumption | with_reducible refine bA ?_ _ | with_reducible refine bD ?_ | with_reducible refine bN ?_ _ | ((with_reducible refine bS ?_ ?_ _);rotate_left;(simp;try omega)) | ((with_reducible refine bT ?_ ?_);rotate_left;with_reducible assumption) | with_reducible refine bT ?_ (by assumption))

def placedS (p:Pl):Bool:=!(p.nodes.any (fun n=>ptBad n.pt)) && !(p.arcs.any fun a=>a.via.any ptBad)

set_option maxRecDepth 100000 in
set_option maxHeartbeats 1000000 in
theorem placed_spec (v:Value) (p:Pl) (w:World) (h:PlV w v p) :
  Calls Tryz.prog 86 #[v] w fun e w'=>e=.returned (.bool (placedS p))∧Below w.heap.size w w':=by
 obtain ⟨_,_,vf,al,rfl,hpa,⟨An,cn,rfl,hn1,hn2,hR⟩,⟨⟨Aa,ca,rfl,ha1,ha2,hRa⟩,hV⟩,-⟩:=h
 unfold maxLen at hn2 ha2
 have hS:placedS p=(!(p.nodes.any (fun n=>ptBad n.pt)) && !(al.any fun a=>a.1.via.any ptBad)):=by
  rw [placedS,hpa,List.any_map];rfl
 rw [hS]
 clear hS hpa
 generalize p.nodes=l at *
 have HV:=Lib.hid hV;clear hV
 have HRa:=Lib.hid hRa;clear hRa
 go_enter Tryz.func86,Tryz.ntmps86
 go_wp2_with fail
 go_loopw [11] (fun i wr=>∃ k:Nat,k≤l.length∧i=.int .i64 k∧Below w.heap.size w wr∧Blk wr w.heap.size 26 #[.slice An l.length cn,.slice Aa al.length ca,vf]∧∀ j (hj:j<l.length),j<k→ptBad l[j].pt=false) (fun i _=>l.length-(intOf i).toNat)
 case atStart => exact ⟨0,Nat.zero_le _,rfl,bA (bR w) _,Blk.made rfl _ _,fun j _ h=>by omega⟩
 case round =>
  obtain ⟨k,hk,rfl,hb,X1,hno⟩:=hrel
  have Hb:=Lib.hid hb
  have Hno:=Lib.hid hno
  clear hb hno
  obtain ⟨X1l,X1a,X1b,X1c,-,-,-⟩:=X1.facts3
  by_cases hlt:k<l.length
  ·
   obtain ⟨b,o,rfl,hlb,c0,c1,c2⟩:=(hR.mono Hb.out).nd hlt
   have HR:=Lib.hid hR;clear hR
   go_wp2_with fail
   refine (ptBad_spec l[k].pt _).mono ?_
   rintro e w1 ⟨rfl,hb1⟩
   have Bw:Below w.heap.size w w1:=bT (bA Hb.out _) hb1
   replace X1:=(X1.alloc _).keep hb1
   clear hb1 X1l X1a X1b X1c c0 c1 c2
   cases he:ptBad l[k].pt
   ·
    go_wp2_with fail
    go_roundw
    case rel => exact ⟨k+1,by omega,by go_num,Bw,X1,all_succ (p:=fun x=>ptBad x.pt=false) Hno.out hlt he⟩
    case measure => simp [intOf];omega
   ·
    have hf:=Lib.hid (any_hit l (fun n=>ptBad n.pt) k hlt he)
    go_wp2_with fail
    go_ret
    exact ⟨ret_bool (by rw [hf.out];rfl),Bw⟩
  ·
   have hf:=Lib.hid (any_miss l (fun n=>ptBad n.pt) (fun j hj=>Hno.out j hj (by omega)))
   clear hR Hno
   go_wp2_with fail
   obtain ⟨wo,rfl⟩:∃ wo:World,wo=wr:=⟨_,rfl⟩
   go_loopw [23] (fun i wr=>∃ k:Nat,k≤al.length∧i=.int .i64 k∧Below w.heap.size w wr∧∀ j (hj:j<al.length),j<k→al[j].1.via.any ptBad=false) (fun i _=>al.length-(intOf i).toNat)
   case atStart => exact ⟨0,Nat.zero_le _,rfl,Hb.out,fun j _ h=>by omega⟩
   case round =>
    clear X1 X1l X1a X1b X1c Hb
    obtain ⟨k,hk,rfl,hb,hno⟩:=hrel
    have Hb:=Lib.hid hb
    have Hno:=Lib.hid hno
    clear hb hno
    by_cases hlt:k<al.length
    ·
     obtain ⟨b,o,rfl,hlb,c0,c1,c2,c3,c4,c5⟩:=(HRa.out.mono Hb.out).ar hlt
     have hvk:=(HV.out k hlt)
     obtain ⟨Av,cv,hv,-⟩:=hvk
     have hvk:=(HV.out k hlt)
     rw [hv] at c3 hvk
     have Hvk:=Lib.hid hvk;clear hvk hv
     go_wp2_with fail
     refine (ContainsFunc_placed_spec _ al[k].1.via ptBad _ (Hvk.out.mono (bA Hb.out _)) ptBad_spec).mono ?_
     rintro e w1 ⟨rfl,hb1⟩
     have Bw:Below w.heap.size w w1:=bT (bA Hb.out _) hb1
     clear hb1 c0 c1 c2 c3 c4 c5
     cases he:al[k].1.via.any ptBad
     ·
      go_wp2_with fail
      go_roundw
      case rel => exact ⟨k+1,by omega,by go_num,Bw,all_succ (p:=fun x=>x.1.via.any ptBad=false) Hno.out hlt he⟩
      case measure => simp [intOf];omega
     ·
      have hf2:=Lib.hid (any_hit al (fun a=>a.1.via.any ptBad) k hlt he)
      go_wp2_with fail
      go_ret
      exact ⟨ret_bool (by rw [hf2.out,hf.out];rfl),Bw⟩
    ·
     have hf2:=Lib.hid (any_miss al (fun a=>a.1.via.any ptBad) (fun j hj=>Hno.out j hj (by omega)))
     go_wp2_with fail
     go_ret
     exact ⟨ret_bool (by rw [hf2.out,hf.out];rfl),Hb.out⟩
end Go.Proofs.YtnhdmghgjngcaaaGreat
namespace Go.Proofs.YtnhdmghgjngcaaaGreat
open Go.RowKit

def RetInts2 (w:World) (l m:List Int) (e:Ending) (w':World):Prop :=
 ∃ v u,e=.returned (.tuple #[v,u])∧Below w.heap.size w w'∧Own w' w.heap.size 3 1 inC v l∧Own w' w.heap.size 3 1 inC u m

theorem Sl.one_int {w:World} {g:Nat} {t:TypeId} {x:Int} (h:Blk w g t #[.int .i64 x]):Sl w (.slice (some ⟨g,0,none⟩) 1 1) ([x] : List Int).length (([x] : List Int).flatMap inC) :=
 Sl.lit (n:=1) h rfl (le_maxLen (by omega))

set_option maxRecDepth 100000 in
set_option maxHeartbeats 1000000 in
theorem identifiers_spec (v:Value) (p:Pl) (w:World) (h:PlV w v p) (hl1:p.nodes.length≤4096) (hl2:p.arcs.length≤4096) :
  Calls Tryz.prog 83 #[v] w (RetInts2 w (p.nodes.map (·.id)) (p.arcs.map (·.id))):=by
 obtain ⟨_,_,vf,al,rfl,hpa,⟨An,cn,rfl,hn1,hn2,hR⟩,⟨⟨Aa,ca,rfl,ha1,ha2,hRa⟩,hV⟩,-⟩:=h
 unfold maxLen at hn2 ha2
 rw [hpa] at hl2 ⊢
 rw [List.length_map] at hl2
 rw [List.map_map]
 clear hpa
 generalize p.nodes=l at *
 have HV:=Lib.hid hV;clear hV
 have HRa:=Lib.hid hRa;clear hRa
 go_enter Tryz.func83,Tryz.ntmps83
 go_wp2_with fail
 obtain ⟨W0,hW0⟩:∃ W0:World,W0=w.alloc (.cells #[.slice An l.length cn,.slice Aa al.length ca,vf] 26):=⟨_,rfl⟩
 have X1:Blk W0 w.heap.size 26 #[.slice An l.length cn,.slice Aa al.length ca,vf]:=by rw [hW0];exact Blk.made rfl _ _
 have Bw0:Below w.heap.size w W0:=by rw [hW0];exact bA (bR w) _
 rw [← hW0]
 clear hW0
 go_loopw [2,11] (fun s i wr=>∃ k:Nat,k≤l.length∧i=.int .i64 k∧Own wr W0.heap.size 3 1 inC s ((l.take k).map (·.id))∧Below W0.heap.size W0 wr) (fun _ i _=>l.length-(intOf i).toNat)
 case atStart => exact ⟨0,Nat.zero_le _,rfl,Own.nil _ _ _ _ _,bR W0⟩
 case round =>
  obtain ⟨k,hk,rfl,hown,hb⟩:=hrel
  have Hb:=Lib.hid hb
  have Hown:=Lib.hid hown
  clear hown
  have hsz:=hb.size
  clear hb
  by_cases hlt:k<l.length
  ·
   obtain ⟨b,o,rfl,hlb,c0,c1,c2⟩:=(hR.mono (bT Bw0 Hb.out)).nd hlt
   have HR:=Lib.hid hR;clear hR
   have hlen:((l.take k).map (·.id)).length≤4096:=by rw [List.length_map,List.length_take];omega
   have Hlen:=Lib.hid hlen;clear hlen
   go_wp2_with
    (at_builtin
     refine wpList_appl _ rfl (.tmp 15) (.tmp 18) _ rfl (base:=W0.heap.size) elem_in inC_len inC_one rfl ((Hown.out.alloc _).alloc _) rfl (l2:=[l[k].id]) (Sl.one_int (Blk.made (by simp) _ _)) (by have:=Hlen.out;simp only [List.length_cons,List.length_nil];omega) (by have:=Hlen.out;simp only [List.length_cons,List.length_nil];omega) (by simp;omega) ?_
     intro v1 w1 hown1 hg hat
     have Bw1:Below W0.heap.size W0 w1:=bG (bA (bA Hb.out _) _) hg (fun g hk=>(Hown.out.lt g hk).1)
     clear hg hat
     have Hown1:=Lib.hid hown1;clear hown1)
   go_roundw
   case rel => exact ⟨k+1,by omega,by go_num,by rw [List.take_succ_eq_append_getElem hlt,List.map_append];exact Hown1.out,Bw1⟩
   case measure => simp [intOf];omega
  ·
   have hE:l.take k=l:=List.take_of_length_le (by omega)
   have hown2:=Hown.out
   rw [hE] at hown2
   replace Hown:=Lib.hid hown2
   have X1':=X1.keep Hb.out
   have Bwo:=bT Bw0 Hb.out
   clear hR hown2 hE X1
   try clear X1'l
   try clear X1'a
   try clear X1'b
   try clear X1'c
   try clear X1'fa
   try clear X1'fb
   try clear X1'fc
   obtain ⟨X1'l,X1'a,X1'b,X1'c,-,-,-⟩:=X1'.facts3
   go_wp2_with fail
   obtain ⟨wo,rfl⟩:∃ wo:World,wo=wr:=⟨_,rfl⟩
   clear X1'l X1'a X1'b X1'c
   go_loopw [3,24] (fun s i wr=>∃ k:Nat,k≤al.length∧i=.int .i64 k∧Own wr wo.heap.size 3 1 inC s ((al.take k).map (·.1.id))∧Below wo.heap.size wo wr) (fun _ i _=>al.length-(intOf i).toNat)
   case atStart => exact ⟨0,Nat.zero_le _,rfl,Own.nil _ _ _ _ _,bR wo⟩
   case round =>
    obtain ⟨k,hk,rfl,hown,hb⟩:=hrel
    have Hb3:=Lib.hid hb
    have Hown3:=Lib.hid hown
    clear hown
    have hsz:=hb.size
    clear hb
    by_cases hlt:k<al.length
    ·
     obtain ⟨b,o,rfl,hlb,c0,c1,c2,c3,c4,c5⟩:=(HRa.out.mono (bT Bwo Hb3.out)).ar hlt
     obtain ⟨Av,cv,hv,-⟩:=HV.out k hlt
     rw [hv] at c3
     clear hv
     have hlen:((al.take k).map (·.1.id)).length≤4096:=by rw [List.length_map,List.length_take];omega
     have Hlen:=Lib.hid hlen;clear hlen
     go_wp2_with
      (at_builtin
       refine wpList_appl _ rfl (.tmp 28) (.tmp 31) _ rfl (base:=wo.heap.size) elem_in inC_len inC_one rfl ((Hown3.out.alloc _).alloc _) rfl (l2:=[al[k].1.id]) (Sl.one_int (Blk.made (by simp) _ _)) (by have:=Hlen.out;simp only [List.length_cons,List.length_nil];omega) (by have:=Hlen.out;simp only [List.length_cons,List.length_nil];omega) (by simp;omega) ?_
       intro v1 w1 hown1 hg hat
       have Bw1:Below wo.heap.size wo w1:=bG (bA (bA Hb3.out _) _) hg (fun g hk=>(Hown3.out.lt g hk).1)
       clear hg hat
       have Hown1:=Lib.hid hown1;clear hown1)
     go_roundw
     case rel => exact ⟨k+1,by omega,by go_num,by rw [List.take_succ_eq_append_getElem hlt,List.map_append];exact Hown1.out,Bw1⟩
     case measure => simp [intOf];omega
    ·
     have hE:al.take k=al:=List.take_of_length_le (by omega)
     have hown2:=Hown3.out
     rw [hE] at hown2
     replace Hown3:=Lib.hid hown2
     clear hown2 hE
     go_wp2_with fail
     go_ret2
     exact ⟨_,_,rfl,bT Bwo Hb3.out,(Hown.out.keep Hb3.out).mono_base Bw0.size,Hown3.out.mono_base Bwo.size⟩
end Go.Proofs.YtnhdmghgjngcaaaGreat
namespace Go.Proofs.YtnhdmghgjngcaaaGreat
open Go.RowKit

def pointsS (p:Pl):List Pt:=p.nodes.map (·.pt)++p.arcs.flatMap (·.via)

theorem flat_take_le {α β:Type} (l:List α) (f:α→List β) (k:Nat):((l.take k).flatMap f).length≤(l.flatMap f).length:=by
 conv=>rhs;rw [← List.take_append_drop k l,List.flatMap_append,List.length_append]
 omega
theorem Pts.one {w:World} {g:Nat} {t:TypeId} {x:Pt} (h:Blk w g t #[.int .i64 x.x,.int .i64 x.y]):Sl w (.slice (some ⟨g,0,none⟩) 1 1) ([x] : List Pt).length (([x] : List Pt).flatMap ptC) :=
 Sl.lit (n:=1) h rfl (le_maxLen (by omega))

def RetOwnPts (w:World) (l:List Pt) (e:Ending) (w':World):Prop :=
 ∃ v,e=.returned v∧Below w.heap.size w w'∧Own w' w.heap.size 36 2 ptC v l
end Go.Proofs.YtnhdmghgjngcaaaGreat
