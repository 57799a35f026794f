import Derived.Test.YtialfdomhoojiaaGreatGB
set_option linter.unusedSimpArgs false
set_option linter.unusedVariables false
namespace Go.Proofs.YtialfdomhoojiaaGreat
open Go.RowKit
def jh (l:List Nd) (id:Int):Option Nd:=l.find? (fun n=>n.id == id)
def nd0:Nd:=⟨0,⟨0,0⟩⟩
def FB (r:Option Nd):Value:=.tuple #[Ja (r.getD nd0),.bool r.isSome]
theorem dh.nodes {w:World} {vn va vf:Value} {p:Pl} (h:dh w (.agg #[vn,va,vf]) p):sZ w vn p.nodes:=by
 obtain ⟨_,_,_,_,e,_,h1,_,_⟩:=h;simp only [Value.agg.injEq,Array.mk.injEq,List.cons.injEq,and_true] at e;obtain ⟨rfl,rfl,rfl⟩:=e;exact h1
set_option maxHeartbeats 400000 in
theorem UG (v:Value) (p:Pl) (id:Int) (w:World) (h:dh w v p) :
  Calls Tryz.prog 74 #[v,.int .i64 id] w fun e w'=>e=.returned (FB (jh p.nodes id))/\Below w.heap.size w w':=by
 obtain ⟨_,va,vf,al,rfl,hpa,⟨An,cn,rfl,hn1,hn2,hR⟩,-,-⟩:=h;unfold maxLen at hn2;generalize p.nodes=l at *;clear hpa;go_enter Tryz.func74,Tryz.ntmps74;go_wp2_with fail;go_loopw [11] (fun i wr=>∃ k:Nat,k<=l.length/\i=.int .i64 k/\Below w.heap.size w wr/\ah wr (w.heap.size+1) 45 #[.int .i64 0,.int .i64 0,.int .i64 0]/\∀ j (hj:j<l.length),j<k->(l[j].id == id)=false) (fun i _=>l.length-(intOf i).toNat)
 case atStart => exact ⟨0,Nat.zero_le _,rfl,bA (bA (bR w) _) _,ah.made (by simp) _ _,fun j _ h=>by omega⟩
 case round =>
  obtain ⟨k,hk,rfl,hb,X4,hno⟩:=hrel;have Hb:=Lib.hid hb;have Hno:=Lib.hid hno;clear hb hno;obtain ⟨aU,aV,bQ,eP,dW,gq,gQ⟩:=X4.aJ;by_cases hlt:k<l.length
  ·obtain ⟨b,o,rfl,hlb,c0,c1,c2⟩:=(hR.mono Hb.out).nd hlt;have HR:=Lib.hid hR;clear hR
   cases he:(l[k].id == id)
   ·go_wp2;go_roundw
    case rel => exact ⟨k+1,by omega,by go_num,bA Hb.out _,X4.alloc _,all_succ (p:=fun x=>(x.id == id)=false) Hno.out hlt he⟩
    case measure => simp [intOf];omega
   ·have hf:=Fj l (fun n=>n.id == id) k hlt Hno.out he;have Hf:=Lib.hid hf;clear hf;go_wp2;have Bw:=Hb.out;refine nM (g:=w.heap.size+1) (cs:=#[.int .i64 l[k].id,.int .i64 l[k].pt.x,.int .i64 l[k].pt.y]) rfl Jd rfl rfl (ah.lF X4 |>.alloc _) ⟨by rw [jh,Hf.out];rfl,?_⟩
    repeat (first | with_reducible exact bR _ | with_reducible assumption | with_reducible refine bA ?_ _ | with_reducible refine bD ?_ | with_reducible refine bN ?_ _ | ((with_reducible refine bS ?_ ?_ _);rotate_left;(simp;try omega)) | ((with_reducible refine bT ?_ ?_);rotate_left;with_reducible assumption) | with_reducible refine bT ?_ (by assumption))
  ·have hf:=Jb l (fun n=>n.id == id) (fun j hj=>Hno.out j hj (by omega));have Hf:=Lib.hid hf;clear hf;go_wp2;have Bw:=Hb.out;refine nM (g:=w.heap.size+1) (cs:=#[.int .i64 0,.int .i64 0,.int .i64 0]) rfl Jd rfl rfl (ah.lF X4) ⟨by rw [jh,Hf.out];rfl,?_⟩
   repeat (first | with_reducible exact bR _ | with_reducible assumption | with_reducible refine bA ?_ _ | with_reducible refine bD ?_ | with_reducible refine bN ?_ _ | ((with_reducible refine bS ?_ ?_ _);rotate_left;(simp;try omega)) | ((with_reducible refine bT ?_ ?_);rotate_left;with_reducible assumption) | with_reducible refine bT ?_ (by assumption))
set_option maxHeartbeats 400000 in
theorem abH (v:Value) (p:Pl) (id:Int) (w:World) (h:dh w v p) :
  Calls Tryz.prog 187 #[v,.int .i64 id] w fun e w'=>e=.returned (FB (jh p.nodes id))/\Below w.heap.size w w':=by
 obtain ⟨_,va,vf,al,rfl,hpa,⟨An,cn,rfl,hn1,hn2,hR⟩,-,-⟩:=h;unfold maxLen at hn2;generalize p.nodes=l at *;clear hpa;go_enter Tryz.func187,Tryz.ntmps187;go_wp2_with fail;go_loopw [6] (fun i wr=>∃ k:Nat,k<=l.length/\i=.int .i64 k/\Below w.heap.size w wr/\ah wr w.heap.size 26 #[.slice An l.length cn,va,vf]/\ah wr (w.heap.size+1) 45 #[.int .i64 0,.int .i64 0,.int .i64 0]/\∀ j (hj:j<l.length),j<k->(l[j].id == id)=false) (fun i _=>l.length-(intOf i).toNat)
 case atStart => exact ⟨0,Nat.zero_le _,rfl,bA (bA (bR w) _) _,(ah.made rfl _ _).alloc _,ah.made (by simp) _ _,fun j _ h=>by omega⟩
 case round =>
  obtain ⟨k,hk,rfl,hb,X2,X4,hno⟩:=hrel;have Hb:=Lib.hid hb;have Hno:=Lib.hid hno;clear hb hno;obtain ⟨bF,bH,bI,bM,-,-,-⟩:=X2.aJ;obtain ⟨aU,aV,bQ,eP,dW,gq,gQ⟩:=X4.aJ;by_cases hlt:k<l.length
  ·obtain ⟨b,o,rfl,hlb,c0,c1,c2⟩:=(hR.mono Hb.out).nd hlt;have HR:=Lib.hid hR;clear hR
   cases he:(l[k].id == id)
   ·go_wp2;go_roundw
    case rel => exact ⟨k+1,by omega,by go_num,Hb.out,X2,X4,all_succ (p:=fun x=>(x.id == id)=false) Hno.out hlt he⟩
    case measure => simp [intOf];omega
   ·have hf:=Fj l (fun n=>n.id == id) k hlt Hno.out he;have Hf:=Lib.hid hf;clear hf;go_wp2;have Bw:=Hb.out;refine nM (g:=w.heap.size+1) (cs:=#[.int .i64 l[k].id,.int .i64 l[k].pt.x,.int .i64 l[k].pt.y]) rfl Jd rfl rfl (ah.lF X4) ⟨by rw [jh,Hf.out];rfl,?_⟩
    repeat (first | with_reducible exact bR _ | with_reducible assumption | with_reducible refine bA ?_ _ | with_reducible refine bD ?_ | with_reducible refine bN ?_ _ | ((with_reducible refine bS ?_ ?_ _);rotate_left;(simp;try omega)) | ((with_reducible refine bT ?_ ?_);rotate_left;with_reducible assumption) | with_reducible refine bT ?_ (by assumption))
  ·have hf:=Jb l (fun n=>n.id == id) (fun j hj=>Hno.out j hj (by omega));have Hf:=Lib.hid hf;clear hf;go_wp2;have Bw:=Hb.out;refine nM (g:=w.heap.size+1) (cs:=#[.int .i64 0,.int .i64 0,.int .i64 0]) rfl Jd rfl rfl (ah.lF X4) ⟨by rw [jh,Hf.out];rfl,?_⟩
   repeat (first | with_reducible exact bR _ | with_reducible assumption | with_reducible refine bA ?_ _ | with_reducible refine bD ?_ | with_reducible refine bN ?_ _ | ((with_reducible refine bS ?_ ?_ _);rotate_left;(simp;try omega)) | ((with_reducible refine bT ?_ ?_);rotate_left;with_reducible assumption) | with_reducible refine bT ?_ (by assumption))
def Jj (w:World) (l:List Pt) (e:Ending) (w':World):Prop :=
 ∃ A c,e=.returned (.slice A l.length c)/\Below w.heap.size w w'/\Own w' w.heap.size 39 2 dG (.slice A l.length c) l
set_option maxHeartbeats 400000 in
theorem UH (v:Value) (l:List Pt) (w:World) (h:bU w v l) (hl:l.length<=1048576) :
  Calls Tryz.prog 114 #[v] w (Jj w l):=by
 have H:=h;obtain ⟨A,c,rfl,hn,hc,hR⟩:=h;have hE:=Lib.run_eql_slice_nil (P:=Tryz.prog) (t:=46) (e:=39);rcases A with _ | ad
 ·have hl0:l=[]:=by
   rcases l with _ | ⟨a,l⟩
   · rfl
   ·obtain ⟨b,o,e,_⟩:=hR (by simp [dG])
    cases e
  subst hl0;clear hR H;simp only [List.length_nil] at hn ⊢;have hE1:∀ W:World,(binOp .eql 46 (.slice none 0 c) (.slice none 0 0)).run Tryz.prog W=.ok (.bool true) W:=fun W=>Lib.run_eql_slice_nil W _ 39 none _ c 0 0 Tryz.underlying46;clear hE;go_enter Tryz.func114,Tryz.ntmps114;go_wp2;go_ret;exact ⟨_,_,rfl,bR w,Own.nil _ _ _ _ _⟩
 ·have hE1:∀ W:World,(binOp .eql 46 (.slice (some ad) l.length c) (.slice none 0 0)).run Tryz.prog W=.ok (.bool false) W:=fun W=>Lib.run_eql_slice_nil W _ 39 (some ad) _ c 0 0 Tryz.underlying46;clear hE hR;have HH:=Lib.hid H;clear H;go_enter Tryz.func114,Tryz.ntmps114;go_wp2_with
   (at_builtin
    refine jX _ rfl (.tmp 5) (.tmp 6) _ rfl (base:=w.heap.size) kP iU kQ rfl (Own.lit _ _ _ _ dG [] _ 0 _ rfl rfl (Nat.le_refl _) (eG (by omega)) rfl rfl) rfl (HH.out.mono (bA (bR w) _)) (by simp only [List.length_nil];omega) (by simp only [List.length_nil];omega) (by simp) ?_;intro v1 w1 hown hg hat)
  go_ret;obtain ⟨A1,c1,rfl,-⟩:=Own.sl hown;simp only [List.nil_append] at hown ⊢;exact ⟨A1,c1,rfl,bG (bA (bR w) _) hg (fun k hk=>by have:w.heap.size=k:=Option.some.inj hk;omega),hown⟩
def findAr (l:List Ar) (id:Int):Option Ar:=l.find? (fun a=>a.id == id)
def iO:Ar:=⟨0,0,0,[],0,0⟩
def FC (w:World) (r:Option Ar) (e:Ending) (w':World):Prop :=
 ∃ v',e=.returned (.tuple #[gZ (r.getD iO) v',.bool r.isSome])/\Below w.heap.size w w'/\bU w' v' (r.getD iO).via
def Short (p:Pl):Prop:=∀ a∈p.au,a.via.length<=1048576
theorem Sl.nil (w:World):Sl w (.slice none 0 0) 0 []:=⟨none,0,rfl,Nat.le_refl _,eG (by omega),Row.nil⟩
theorem NR (al:List (Ar×Value)) (id:Int) (k:Nat) (hk:k<al.length) (h:∀ j (hj:j<al.length),j<k->(al[j].1.id == id)=false) (he:(al[k].1.id == id)=true) :
  findAr (al.map (·.1)) id=some al[k].1:=by
 have:=Fj al (fun a=>a.1.id == id) k hk h he
 rw [findAr,List.find?_map]
 show (al.find? (fun a=>a.1.id == id)).map _=_
 rw [this];rfl
theorem NS (al:List (Ar×Value)) (id:Int) (h:∀ j (hj:j<al.length),(al[j].1.id == id)=false):findAr (al.map (·.1)) id=none:=by
 have:=Jb al (fun a=>a.1.id == id) h
 rw [findAr,List.find?_map]
 show (al.find? (fun a=>a.1.id == id)).map _=_
 rw [this];rfl
set_option maxHeartbeats 4000000 in
theorem UJ (v:Value) (p:Pl) (id:Int) (w:World) (h:dh w v p) (hsh:Short p) :
  Calls Tryz.prog 73 #[v,.int .i64 id] w (FC w (findAr p.au id)):=by
 obtain ⟨vn,_,vf,al,rfl,hpa,-,⟨⟨An,cn,rfl,hn1,hn2,hR⟩,hV⟩,-⟩:=h;unfold maxLen at hn2;unfold Short at hsh;rw [hpa] at hsh ⊢;clear hpa;have hsh':∀ k (hk:k<al.length),al[k].1.via.length<=1048576:=fun k hk=>hsh _ (List.mem_map_of_mem (List.getElem_mem hk));have HV:=Lib.hid hV;clear hV hsh;have ji:=Lib.hid hsh';clear hsh';go_enter Tryz.func73,Tryz.ntmps73;go_wp2_with fail;go_loopw [11] (fun i wr=>∃ k:Nat,k<=al.length/\i=.int .i64 k/\Below w.heap.size w wr/\ah wr (w.heap.size+1) 50 #[.int .i64 0,.int .i64 0,.int .i64 0,.slice none 0 0,.int .i64 0,.int .i64 0]/\∀ j (hj:j<al.length),j<k->(al[j].1.id == id)=false) (fun i _=>al.length-(intOf i).toNat)
 case atStart => exact ⟨0,Nat.zero_le _,rfl,bA (bA (bR w) _) _,ah.made (by simp) _ _,fun j _ h=>by omega⟩
 case round =>
  obtain ⟨k,hk,rfl,hb,X4,hno⟩:=hrel;have Hb:=Lib.hid hb;have Hno:=Lib.hid hno;clear hb hno;obtain ⟨aU,aV,bQ,eP,qm,qo,qp,dW,gq,gQ,qw,qx,qy⟩:=X4.eY;by_cases hlt:k<al.length
  ·obtain ⟨b,o,rfl,hlb,c0,c1,c2,c3,c4,c5⟩:=(hR.mono Hb.out).ar hlt;have HR:=Lib.hid hR;clear hR;have hvk:=(HV.out k hlt);obtain ⟨Av,cv,hv,-⟩:=hvk;have hvk:=(HV.out k hlt);rw [hv] at c3 hvk;generalize hvl:al[k].1.via.length=vl at *;have Hvl:=Lib.hid hvl;have wC:=Lib.hid hvk;clear hvk hv hvl
   cases he:(al[k].1.id == id)
   ·go_wp2;go_roundw
    case rel => exact ⟨k+1,by omega,by go_num,bA Hb.out _,X4.alloc _,all_succ (p:=fun x=>(x.1.id == id)=false) Hno.out hlt he⟩
    case measure => simp [intOf];omega
   ·have hf:=NR al id k hlt Hno.out he;have Hf:=Lib.hid hf;clear hf;go_wp2_with fail;refine (UH _ _ _ (wC.out.mono (bA Hb.out _)) (ji.out k hlt)).mono ?_;rintro e w1 ⟨A1,kD,rfl,hb1,hown⟩;have Bw:Below w.heap.size w w1:=bT (bA Hb.out _) hb1;have X7:ah w1 wr.heap.size 50 #[.int .i64 al[k].1.id,.int .i64 al[k].1.fr,.int .i64 al[k].1.dst,.slice Av vl cv,.int .i64 al[k].1.left,.int .i64 al[k].1.right]:=(ah.made rfl _ _).keep hb1;have hw8:w.heap.size+1<wr.heap.size:=by omega
    have hw7:w.heap.size+1≠wr.heap.size:=by omega
    replace X4:=(X4.alloc _).keep hb1;have hown':=hown.fM (b':=wr.heap.size+1) (by simp);have hP:=Own.sl hown;have fH:=Lib.hid hown';clear hb1 c0 c1 c2 c3 c4 c5 hlb hown hown' hP
    try clear aU
    try clear aV
    try clear bQ
    try clear eP
    try clear qm
    try clear qo
    try clear qp
    try clear dW
    try clear gq
    try clear gQ
    try clear qw
    try clear qx
    try clear qy
    obtain ⟨aU,aV,bQ,eP,qm,qo,qp,dW,gq,gQ,qw,qx,qy⟩:=X4.eY;obtain ⟨fU,fV,nC,zZ,Ad,Ae,Ag,Du,UK,UL,UM,UN,UO⟩:=X7.eY;go_wp2_with fail;have FD:=Hb.out.size;have FH:(Value.slice A1 al[k].1.via.length kD).ownBlock≠some wr.heap.size:=fun e=>by have:=(fH.out.lt _ e).1;omega
    have kE:(Value.slice A1 al[k].1.via.length kD).ownBlock≠some (w.heap.size+1):=fun e=>by have:=(fH.out.lt _ e).1;omega
    have HP:=Own.sl (((((((fH.out.far (p:=⟨wr.heap.size,3,none⟩) FH (.slice A1 al[k].1.via.length kD)).far (p:=⟨w.heap.size+1,0,none⟩) kE (.int .i64 al[k].1.id)).far (p:=⟨w.heap.size+1,1,none⟩) kE (.int .i64 al[k].1.fr)).far (p:=⟨w.heap.size+1,2,none⟩) kE (.int .i64 al[k].1.dst)).far (p:=⟨w.heap.size+1,3,none⟩) kE (.slice A1 al[k].1.via.length kD)).far (p:=⟨w.heap.size+1,4,none⟩) kE (.int .i64 al[k].1.left)).far (p:=⟨w.heap.size+1,5,none⟩) kE (.int .i64 al[k].1.right));refine nM (g:=w.heap.size+1) (cs:=#[.int .i64 al[k].1.id,.int .i64 al[k].1.fr,.int .i64 al[k].1.dst,.slice A1 al[k].1.via.length kD,.int .i64 al[k].1.left,.int .i64 al[k].1.right]) rfl vZ rfl rfl (ah.vY (X4.far (p:=⟨wr.heap.size,3,none⟩) hw7 _)) ⟨.slice A1 al[k].1.via.length kD,by rw [Hf.out];rfl,?_,by rw [Hf.out];exact HP⟩
    repeat (first | with_reducible exact bR _ | with_reducible assumption | with_reducible refine bA ?_ _ | with_reducible refine bD ?_ | with_reducible refine bN ?_ _ | ((with_reducible refine bS ?_ ?_ _);rotate_left;(simp;try omega)) | ((with_reducible refine bT ?_ ?_);rotate_left;with_reducible assumption) | with_reducible refine bT ?_ (by assumption))
  ·have hf:=NS al id (fun j hj=>Hno.out j hj (by omega));have Hf:=Lib.hid hf;clear hf;go_wp2;have Bw:=Hb.out;refine nM (g:=w.heap.size+1) (cs:=#[.int .i64 0,.int .i64 0,.int .i64 0,.slice none 0 0,.int .i64 0,.int .i64 0]) rfl vZ rfl rfl (ah.vY X4) ⟨.slice none 0 0,by rw [Hf.out];rfl,?_,by rw [Hf.out];exact Sl.nil _⟩
   repeat (first | with_reducible exact bR _ | with_reducible assumption | with_reducible refine bA ?_ _ | with_reducible refine bD ?_ | with_reducible refine bN ?_ _ | ((with_reducible refine bS ?_ ?_ _);rotate_left;(simp;try omega)) | ((with_reducible refine bT ?_ ?_);rotate_left;with_reducible assumption) | with_reducible refine bT ?_ (by assumption))
set_option maxHeartbeats 1000000 in
theorem NT (v:Value) (p:Pl) (id:Int) (w:World) (h:dh w v p) (hsh:Short p) :
  Calls Tryz.prog 99 #[v,.int .i64 id] w (FC w (findAr p.au id)):=by
 obtain ⟨vn,_,vf,al,rfl,hpa,-,⟨⟨An,cn,rfl,hn1,hn2,hR⟩,hV⟩,-⟩:=h;unfold maxLen at hn2;unfold Short at hsh;rw [hpa] at hsh ⊢;clear hpa;have hsh':∀ k (hk:k<al.length),al[k].1.via.length<=1048576:=fun k hk=>hsh _ (List.mem_map_of_mem (List.getElem_mem hk));have HV:=Lib.hid hV;clear hV hsh;have ji:=Lib.hid hsh';clear hsh';go_enter Tryz.func99,Tryz.ntmps99;go_wp2_with fail;go_loopw [6] (fun i wr=>∃ k:Nat,k<=al.length/\i=.int .i64 k/\Below w.heap.size w wr/\ah wr w.heap.size 26 #[vn,.slice An al.length cn,vf]/\ah wr (w.heap.size+1) 50 #[.int .i64 0,.int .i64 0,.int .i64 0,.slice none 0 0,.int .i64 0,.int .i64 0]/\∀ j (hj:j<al.length),j<k->(al[j].1.id == id)=false) (fun i _=>al.length-(intOf i).toNat)
 case atStart => exact ⟨0,Nat.zero_le _,rfl,bA (bA (bR w) _) _,(ah.made rfl _ _).alloc _,ah.made (by simp) _ _,fun j _ h=>by omega⟩
 case round =>
  obtain ⟨k,hk,rfl,hb,X2,X4,hno⟩:=hrel;have Hb:=Lib.hid hb;have Hno:=Lib.hid hno;clear hb hno;obtain ⟨bF,bH,bI,bM,-,-,-⟩:=X2.aJ;obtain ⟨aU,aV,bQ,eP,qm,qo,qp,dW,gq,gQ,qw,qx,qy⟩:=X4.eY;by_cases hlt:k<al.length
  ·obtain ⟨b,o,rfl,hlb,c0,c1,c2,c3,c4,c5⟩:=(hR.mono Hb.out).ar hlt;have HR:=Lib.hid hR;clear hR;have hvk:=(HV.out k hlt);obtain ⟨Av,cv,hv,-⟩:=hvk;have hvk:=(HV.out k hlt);rw [hv] at c3 hvk;have wC:=Lib.hid hvk;clear hvk hv
   cases he:(al[k].1.id == id)
   ·go_wp2;go_roundw
    case rel => exact ⟨k+1,by omega,by go_num,Hb.out,X2,X4,all_succ (p:=fun x=>(x.1.id == id)=false) Hno.out hlt he⟩
    case measure => simp [intOf];omega
   ·have hf:=NR al id k hlt Hno.out he;have Hf:=Lib.hid hf;clear hf;have hsv:=ji.out k hlt;go_wp2_with
     (at_builtin
      refine jX _ rfl (.tmp 28) (.tmp 30) _ rfl (base:=wr.heap.size+1) kP iU kQ rfl (Own.lit _ _ _ _ dG [] _ 0 _ (by simp) rfl (by simp) (eG (by omega)) rfl rfl) rfl (wC.out.mono (bA (bA Hb.out _) _)) (by simp only [List.length_nil];omega) (by simp only [List.length_nil];omega) (by simp) ?_;intro v1 w1 hown hg hat;have hb1:Below (wr.alloc (.cells #[.int .i64 al[k].1.id,.int .i64 al[k].1.fr,.int .i64 al[k].1.dst,.slice Av al[k].1.via.length cv,.int .i64 al[k].1.left,.int .i64 al[k].1.right] 50)).heap.size (wr.alloc (.cells #[.int .i64 al[k].1.id,.int .i64 al[k].1.fr,.int .i64 al[k].1.dst,.slice Av al[k].1.via.length cv,.int .i64 al[k].1.left,.int .i64 al[k].1.right] 50)) w1:=bG (bA (bR _) _) hg (fun g hk=>by have:wr.heap.size+1=g:=Option.some.inj hk;simp;omega);simp only [List.nil_append] at hown;obtain ⟨A1,kD,rfl,-⟩:=Own.sl hown;have fH:=Lib.hid hown;have Bw:Below w.heap.size w w1:=bT (bA Hb.out _) hb1;have X7:ah w1 wr.heap.size 50 #[.int .i64 al[k].1.id,.int .i64 al[k].1.fr,.int .i64 al[k].1.dst,.slice Av al[k].1.via.length cv,.int .i64 al[k].1.left,.int .i64 al[k].1.right]:=(ah.made rfl _ _).keep hb1;have hw8:w.heap.size+1<wr.heap.size:=by omega
      have hw7:w.heap.size+1≠wr.heap.size:=by omega
      replace X4:=(X4.alloc _).keep hb1;clear hb1 c0 c1 c2 c3 c4 c5 hlb hown hg hat
      try clear aU
      try clear aV
      try clear bQ
      try clear eP
      try clear qm
      try clear qo
      try clear qp
      try clear dW
      try clear gq
      try clear gQ
      try clear qw
      try clear qx
      try clear qy
      obtain ⟨aU,aV,bQ,eP,qm,qo,qp,dW,gq,gQ,qw,qx,qy⟩:=X4.eY;obtain ⟨fU,fV,nC,zZ,Ad,Ae,Ag,Du,UK,UL,UM,UN,UO⟩:=X7.eY
      )
    have FD:=Hb.out.size;have FH:(Value.slice A1 al[k].1.via.length kD).ownBlock≠some wr.heap.size:=fun e=>by have:=(fH.out.lt _ e).1;omega
    have kE:(Value.slice A1 al[k].1.via.length kD).ownBlock≠some (w.heap.size+1):=fun e=>by have:=(fH.out.lt _ e).1;omega
    have HP:=Own.sl (((((((fH.out.far (p:=⟨wr.heap.size,3,none⟩) FH (.slice A1 al[k].1.via.length kD)).far (p:=⟨w.heap.size+1,0,none⟩) kE (.int .i64 al[k].1.id)).far (p:=⟨w.heap.size+1,1,none⟩) kE (.int .i64 al[k].1.fr)).far (p:=⟨w.heap.size+1,2,none⟩) kE (.int .i64 al[k].1.dst)).far (p:=⟨w.heap.size+1,3,none⟩) kE (.slice A1 al[k].1.via.length kD)).far (p:=⟨w.heap.size+1,4,none⟩) kE (.int .i64 al[k].1.left)).far (p:=⟨w.heap.size+1,5,none⟩) kE (.int .i64 al[k].1.right));refine nM (g:=w.heap.size+1) (cs:=#[.int .i64 al[k].1.id,.int .i64 al[k].1.fr,.int .i64 al[k].1.dst,.slice A1 al[k].1.via.length kD,.int .i64 al[k].1.left,.int .i64 al[k].1.right]) rfl vZ rfl rfl (ah.vY (X4.far (p:=⟨wr.heap.size,3,none⟩) hw7 _)) ⟨.slice A1 al[k].1.via.length kD,by rw [Hf.out];rfl,?_,by rw [Hf.out];exact HP⟩
    repeat (first | with_reducible exact bR _ | with_reducible assumption | with_reducible refine bA ?_ _ | with_reducible refine bD ?_ | with_reducible refine bN ?_ _ | ((with_reducible refine bS ?_ ?_ _);rotate_left;(simp;try omega)) | ((with_reducible refine bT ?_ ?_);rotate_left;with_reducible assumption) | with_reducible refine bT ?_ (by assumption))
  ·have hf:=NS al id (fun j hj=>Hno.out j hj (by omega));have Hf:=Lib.hid hf;clear hf;go_wp2;have Bw:=Hb.out;refine nM (g:=w.heap.size+1) (cs:=#[.int .i64 0,.int .i64 0,.int .i64 0,.slice none 0 0,.int .i64 0,.int .i64 0]) rfl vZ rfl rfl (ah.vY X4) ⟨.slice none 0 0,by rw [Hf.out];rfl,?_,by rw [Hf.out];exact Sl.nil _⟩
   repeat (first | with_reducible exact bR _ | with_reducible assumption | with_reducible refine bA ?_ _ | with_reducible refine bD ?_ | with_reducible refine bN ?_ _ | ((with_reducible refine bS ?_ ?_ _);rotate_left;(simp;try omega)) | ((with_reducible refine bT ?_ ?_);rotate_left;with_reducible assumption) | with_reducible refine bT ?_ (by assumption))
def kS (l:List Ar) (id:Int):Int:=(l.map fun a=>(if a.fr=id then (1:Int) else 0)+(if a.dst=id then 1 else 0)).sum
theorem UQ (l:List Ar) (id:Int):0<=kS l id/\kS l id<=2*l.length:=by
 unfold kS
 induction l with
 | nil=>simp
 | cons a l ih =>
  simp only [List.map_cons,List.sum_cons,List.length_cons];split<;>split<;>omega
theorem abI (al:List (Ar×Value)) (id:Int) (k:Nat) (hk:k<al.length) :
  kS ((al.take (k+1)).map (·.1)) id=kS ((al.take k).map (·.1)) id+((if al[k].1.fr=id then (1:Int) else 0)+(if al[k].1.dst=id then 1 else 0)):=by
 unfold kS;rw [List.take_succ_eq_append_getElem hk];simp only [List.map_append,List.sum_append,List.map_cons,List.map_nil,List.sum_cons,List.sum_nil];omega
set_option maxHeartbeats 400000 in
theorem abJ (v:Value) (p:Pl) (id:Int) (w:World) (h:dh w v p) (hl:p.au.length<=1099511627776) :
  Calls Tryz.prog 35 #[v,.int .i64 id] w fun e w'=>e=.returned (.int .i64 (kS p.au id))/\Below w.heap.size w w':=by
 obtain ⟨vn,_,vf,al,rfl,hpa,-,⟨⟨An,cn,rfl,hn1,hn2,hR⟩,hV⟩,-⟩:=h;unfold maxLen at hn2;rw [hpa] at hl ⊢;rw [List.length_map] at hl;clear hpa;have HV:=Lib.hid hV;clear hV;go_enter Tryz.func35,Tryz.ntmps35;go_wp2_with fail;go_loopw [4,10] (fun n i wr=>∃ k:Nat,k<=al.length/\i=.int .i64 k/\n=.int .i64 (kS ((al.take k).map (·.1)) id)/\Below w.heap.size w wr) (fun _ i _=>al.length-(intOf i).toNat)
 case atStart => exact ⟨0,Nat.zero_le _,rfl,rfl,bA (bR w) _⟩
 case round =>
  obtain ⟨k,hk,rfl,rfl,hb⟩:=hrel;have Hb:=Lib.hid hb;clear hb;have hd:=UQ ((al.take k).map (·.1)) id;have hl2:((al.take k).map (·.1)).length<=al.length:=by simp;omega
  by_cases hlt:k<al.length
  ·obtain ⟨b,o,rfl,hlb,c0,c1,c2,c3,c4,c5⟩:=(hR.mono Hb.out).ar hlt;have HR:=Lib.hid hR;clear hR;obtain ⟨Av,cv,hv,-⟩:=(HV.out k hlt);rw [hv] at c3;clear hv;have Hs:=Lib.hid (abI al id k hlt);generalize kS ((al.take k).map (·.1)) id=d at *;go_wp2
   all_goals
    go_roundw
    case rel => exact ⟨k+1,by omega,by go_num,by rw [Hs.out];simp_all<;>go_num,bA Hb.out _⟩
    case measure => simp [intOf];omega
  ·have hE:(al.take k).map (·.1)=al.map (·.1):=by rw [List.take_of_length_le (by omega)]
   rw [hE];go_wp2;go_ret;exact ⟨dY rfl,Hb.out⟩
def qA (l:List Int):Bool:=(List.range (l.length-1)).all fun j=>decide (l.getD j 0<l.getD (j+1) 0)
theorem abK (l:List Int) (h:∀ j (hj:j+1<l.length),l[j]<l[j+1]):qA l=true:=by
 unfold qA;rw [List.all_eq_true];intro j hj;have hj':j+1<l.length:=by have:=List.mem_range.1 hj;omega
 have:=h j hj'
 simp [List.getD,List.getElem?_eq_getElem hj',List.getElem?_eq_getElem (show j<l.length by omega),this]
theorem abL (l:List Int) (j:Nat) (hj:j+1<l.length) (h:¬ l[j]<l[j+1]):qA l=false:=by
 unfold qA;rw [List.all_eq_false];refine ⟨j,List.mem_range.2 (by omega),?_⟩;simp [List.getD,List.getElem?_eq_getElem hj,List.getElem?_eq_getElem (show j<l.length by omega)];omega
set_option maxHeartbeats 400000 in
theorem NU (v:Value) (l:List Int) (w:World) (h:Ints w v l) :
  Calls Tryz.prog 169 #[v] w fun e w'=>e=.returned (.bool (qA l))/\Below w.heap.size w w':=by
 obtain ⟨A,c,rfl,hn,hc,hR⟩:=h;unfold maxLen at hc;go_enter Tryz.func169,Tryz.ntmps169;go_wp2_with fail;go_loopw [3] (fun i wr=>∃ m:Nat,i=.int .i64 ((m:Int)+1)/\(m=0\/m+1<=l.length)/\Below w.heap.size w wr/\∀ j (hj:j+1<l.length),j<m->l[j]<l[j+1]) (fun i _=>l.length+1-(intOf i).toNat)
 case atStart => exact ⟨0,rfl,.inl rfl,bR w,fun j _ h=>by omega⟩
 case round =>
  obtain ⟨m,rfl,hm,hb,hno⟩:=hrel;have Hb:=Lib.hid hb;have Hno:=Lib.hid hno;clear hb hno;by_cases hlt:m+1<l.length
  ·obtain ⟨b,o,rfl,hlb,c1⟩:=(hR.mono Hb.out).int hlt;obtain ⟨b',o',e,Ah,c0⟩:=(hR.mono Hb.out).int (show m<l.length by omega);simp only [Option.some.injEq,Addr.mk.injEq,and_true] at e;obtain ⟨rfl,rfl⟩:=e;have HR:=Lib.hid hR;clear hR hm;have q1:IntKind.i64.wrap (m:Int)=m:=IntWalk.i64_in _ (by omega);have q2:0<=(m:Int):=by omega
   have q3:(m:Int)<l.length:=by omega
   have q4:(m:Int)+1<l.length:=by omega
   have q5:0<=(m:Int)+1:=by omega
   have q6:((m:Int)+1).toNat=m+1:=by omega
   go_upto_region 4 with fail;refine dN (Since wr) (.run 10 0 0 (.done)) (by kernel_rfl) (bD (bR _)) (by kernel_rfl) (by kernel_rfl) (Nat.le_of_ble_eq_true (by kernel_rfl)) ?_;intro dO QR aj aA hS
   iterate 10
    apply aH;exact aj;exact rfl;exact hS;exact rfl
    · intro _ hqc;go_simp;try rfl
    try simp only [pu]
   refine dF ?_;refine aA.down _ _ ?_;have hB:Below wr.heap.size wr wr.drew:=hS;clear hS aA aj;have Bw:Below w.heap.size w wr.drew:=bT Hb.out hB;clear hB;by_cases hlt2:l[m]<l[m+1]
   ·go_wp2_with fail;go_roundw
    case rel => exact ⟨m+1,by go_num,.inr (by omega),Bw,fun j hj hjm=>if e:j<m then Hno.out j hj e else by
      have:j=m:=by omega
      subst this;exact hlt2⟩
    case measure => simp [intOf];omega
   ·have hf:=Lib.hid (abL l m hlt hlt2);go_wp2_with fail;go_ret;exact ⟨aT hf.out.symm,Bw⟩
  ·have hf:=Lib.hid (abK l fun j hj=>Hno.out j hj (by omega));go_wp2_with fail;go_ret;exact ⟨aT hf.out.symm,Hb.out⟩
theorem abM {α:Type} {a b:List α} (hl:a.length=b.length) (h:∀ j (hj:j<a.length),a[j]=b[j]):a=b :=
 List.ext_getElem hl fun j h1 _=>h j h1
theorem abN {α:Type} {a b:List α} (j:Nat) (hj:j<a.length) (hj':j<b.length) (h:¬ a[j]=b[j]):¬ a=b:=by
 rintro rfl;exact h rfl
set_option maxHeartbeats 400000 in
theorem NV (v u:Value) (l m:List Pt) (w:World) (h:bU w v l) (h':bU w u m) :
  Calls Tryz.prog 93 #[v,u] w fun e w'=>e=.returned (.bool (decide (l=m)))/\Below w.heap.size w w':=by
 obtain ⟨A,c,rfl,hn,hc,hR⟩:=h;obtain ⟨A',c',rfl,hn',hc',hR'⟩:=h';unfold maxLen at hc hc';by_cases hlen:l.length=m.length
 case neg =>
  have hf:=Lib.hid (decide_eq_false (fun e:l=m=>hlen (congrArg List.length e)));have hl1:((l.length:Int) != (m.length:Int))=true:=by rw [bne_iff_ne];omega
  have hl2:(l.length != m.length)=true:=by rw [bne_iff_ne];omega
  clear hlen;go_enter Tryz.func93,Tryz.ntmps93;go_wp2_with fail;go_ret;exact ⟨aT hf.out.symm,bR w⟩
 case pos =>
 have hl1:((l.length:Int) != (m.length:Int))=false:=by simp [hlen]
 have hl2:(l.length != m.length)=false:=by simp [hlen]
 have Hlen:=Lib.hid hlen;clear hlen;go_enter Tryz.func93,Tryz.ntmps93;go_wp2_with fail;go_loopw [5] (fun i wr=>∃ k:Nat,k<=l.length/\i=.int .i64 k/\Below w.heap.size w wr/\∀ j (hj:j<l.length) (hj':j<m.length),j<k->l[j]=m[j]) (fun i _=>l.length-(intOf i).toNat)
 case atStart => exact ⟨0,Nat.zero_le _,rfl,bR w,fun j _ _ h=>by omega⟩
 case round =>
  obtain ⟨k,hk,rfl,hb,hno⟩:=hrel;have Hb:=Lib.hid hb;have Hno:=Lib.hid hno;clear hb hno hl1 hl2;by_cases hlt:k<l.length
  ·have hlt':k<m.length:=by have:=Hlen.out;omega
   obtain ⟨b,o,rfl,hlb,c0,c1⟩:=(hR.mono Hb.out).pt hlt;obtain ⟨b',o',rfl,Ah,c0q,c1q⟩:=(hR'.mono Hb.out).pt hlt';have HR:=Lib.hid hR;have HR':=Lib.hid hR';clear hR hR';have q1:0<=(k:Int):=by omega
   have q2:(k:Int)<l.length:=by omega
   have q3:(k:Int)<m.length:=by omega
   by_cases he:l[k]=m[k]
   ·have hd:decide (l[k]=m[k])=true:=by simpa using he
    have He:=Lib.hid he;clear he;have hE:=xZ l[k] m[k];go_upto_region 6 with fail;refine dN (Since wr) (.run 9 0 0 (.done)) (by kernel_rfl) (bD (bR _)) (by kernel_rfl) (by kernel_rfl) (Nat.le_of_ble_eq_true (by kernel_rfl)) ?_;intro dO QR aj aA hS
    iterate 9
     apply aH;exact aj;exact rfl;exact hS;exact rfl
     · intro _ hqc;go_simp;try rfl
     try simp only [pu]
    refine dF ?_;refine aA.down _ _ ?_;have hB:Below wr.heap.size wr wr.drew:=hS;clear hS aA aj;have Bw:Below w.heap.size w wr.drew:=bT Hb.out hB;clear hB;go_wp2_with fail;go_roundw
    case rel => exact ⟨k+1,by omega,by go_num,Bw,fun j hj hj' hjk=>if e:j<k then Hno.out j hj hj' e else by
      have:j=k:=by omega
      subst this;exact He.out⟩
    case measure => simp [intOf];omega
   ·have hd:decide (l[k]=m[k])=false:=by simpa using he
    have He:=Lib.hid he;clear he;have hE:=xZ l[k] m[k];go_upto_region 6 with fail;refine dN (Since wr) (.run 9 0 0 (.done)) (by kernel_rfl) (bD (bR _)) (by kernel_rfl) (by kernel_rfl) (Nat.le_of_ble_eq_true (by kernel_rfl)) ?_;intro dO QR aj aA hS
    iterate 9
     apply aH;exact aj;exact rfl;exact hS;exact rfl
     · intro _ hqc;go_simp;try rfl
     try simp only [pu]
    refine dF ?_;refine aA.down _ _ ?_;have hB:Below wr.heap.size wr wr.drew:=hS;clear hS aA aj;have Bw:Below w.heap.size w wr.drew:=bT Hb.out hB;clear hB;go_wp2_with fail;go_ret;exact ⟨aT (decide_eq_false (abN k hlt hlt' He.out)).symm,Bw⟩
  ·have hf:=Lib.hid (decide_eq_true (abM Hlen.out fun j hj=>Hno.out j hj (by have:=Hlen.out;omega) (by omega)));go_wp2_with fail;go_ret;exact ⟨aT hf.out.symm,Hb.out⟩
theorem Ar.ext_iff' {a b:Ar}:a=b↔a.id=b.id/\a.fr=b.fr/\a.dst=b.dst/\a.left=b.left/\a.right=b.right/\a.via=b.via:=by
 cases a;cases b;simp;intros;constructor<;>(rintro ⟨h1,h2,h3⟩;exact ⟨by assumption,by assumption,by assumption⟩)
set_option maxHeartbeats 1000000 in
theorem abO (a b:Ar) (va vb:Value) (w:World) (ha:bU w va a.via) (hb:bU w vb b.via) :
  Calls Tryz.prog 68 #[gZ a va,gZ b vb] w fun e w'=>e=.returned (.bool (decide (a=b)))/\Below w.heap.size w w':=by
 have TP:∀ W,Below w.heap.size w W->Calls Tryz.prog 93 #[va,vb] W _:=fun W hW=>NV va vb a.via b.via W (ha.mono hW) (hb.mono hW);obtain ⟨A,c,rfl,-⟩:=ha;obtain ⟨A',c',rfl,-⟩:=hb;have HP:=Lib.hid TP;clear TP;generalize hl:a.via.length=l at *;generalize hl':b.via.length=l' at *;have hx:=@Ar.ext_iff' a b;have Hx:=Lib.hid hx;clear hx hl hl';unfold gZ
 cases hid:(a.id == b.id)
 case false =>
  have hf:=Lib.hid (decide_eq_false (fun e:a=b=>by have:=(Hx.out.1 e);simp_all):decide (a=b)=false);go_enter Tryz.func68,Tryz.ntmps68;go_wp2_with fail;go_ret;refine ⟨aT hf.out.symm,?_⟩
  repeat (first | with_reducible exact bR _ | with_reducible assumption | with_reducible refine bA ?_ _ | with_reducible refine bD ?_ | with_reducible refine bN ?_ _ | ((with_reducible refine bS ?_ ?_ _);rotate_left;(simp;try omega)) | ((with_reducible refine bT ?_ ?_);rotate_left;with_reducible assumption) | with_reducible refine bT ?_ (by assumption))
 case true =>
 cases hfr:(a.fr == b.fr)
 case false =>
  have hf:=Lib.hid (decide_eq_false (fun e:a=b=>by have:=(Hx.out.1 e);simp_all):decide (a=b)=false);go_enter Tryz.func68,Tryz.ntmps68;go_wp2_with fail;go_ret;refine ⟨aT hf.out.symm,?_⟩
  repeat (first | with_reducible exact bR _ | with_reducible assumption | with_reducible refine bA ?_ _ | with_reducible refine bD ?_ | with_reducible refine bN ?_ _ | ((with_reducible refine bS ?_ ?_ _);rotate_left;(simp;try omega)) | ((with_reducible refine bT ?_ ?_);rotate_left;with_reducible assumption) | with_reducible refine bT ?_ (by assumption))
 case true =>
 cases hto:(a.dst == b.dst)
 case false =>
  have hf:=Lib.hid (decide_eq_false (fun e:a=b=>by have:=(Hx.out.1 e);simp_all):decide (a=b)=false);go_enter Tryz.func68,Tryz.ntmps68;go_wp2_with fail;go_ret;refine ⟨aT hf.out.symm,?_⟩
  repeat (first | with_reducible exact bR _ | with_reducible assumption | with_reducible refine bA ?_ _ | with_reducible refine bD ?_ | with_reducible refine bN ?_ _ | ((with_reducible refine bS ?_ ?_ _);rotate_left;(simp;try omega)) | ((with_reducible refine bT ?_ ?_);rotate_left;with_reducible assumption) | with_reducible refine bT ?_ (by assumption))
 case true =>
 cases hleft:(a.left == b.left)
 case false =>
  have hf:=Lib.hid (decide_eq_false (fun e:a=b=>by have:=(Hx.out.1 e);simp_all):decide (a=b)=false);go_enter Tryz.func68,Tryz.ntmps68;go_wp2_with fail;go_ret;refine ⟨aT hf.out.symm,?_⟩
  repeat (first | with_reducible exact bR _ | with_reducible assumption | with_reducible refine bA ?_ _ | with_reducible refine bD ?_ | with_reducible refine bN ?_ _ | ((with_reducible refine bS ?_ ?_ _);rotate_left;(simp;try omega)) | ((with_reducible refine bT ?_ ?_);rotate_left;with_reducible assumption) | with_reducible refine bT ?_ (by assumption))
 case true =>
 cases hright:(a.right == b.right)
 case false =>
  have hf:=Lib.hid (decide_eq_false (fun e:a=b=>by have:=(Hx.out.1 e);simp_all):decide (a=b)=false);go_enter Tryz.func68,Tryz.ntmps68;go_wp2_with fail;go_ret;refine ⟨aT hf.out.symm,?_⟩
  repeat (first | with_reducible exact bR _ | with_reducible assumption | with_reducible refine bA ?_ _ | with_reducible refine bD ?_ | with_reducible refine bN ?_ _ | ((with_reducible refine bS ?_ ?_ _);rotate_left;(simp;try omega)) | ((with_reducible refine bT ?_ ?_);rotate_left;with_reducible assumption) | with_reducible refine bT ?_ (by assumption))
 case true =>
 cases hv:decide (a.via=b.via)
 all_goals
  have hf:decide (a=b)=decide (a.via=b.via):=by
   rw [Bool.eq_iff_iff,decide_eq_true_iff,decide_eq_true_iff,Hx.out];simp only [beq_iff_eq] at *;constructor
   · intro h;exact h.2.2.2.2.2
   · intro h;exact ⟨by assumption,by assumption,by assumption,by assumption,by assumption,h⟩
  rw [hv] at hf;have Hf:=Lib.hid hf;clear hf;go_enter Tryz.func68,Tryz.ntmps68;go_wp2_with fail;refine (HP.out _ (bA (bA (bR w) _) _)).mono ?_;rintro e w1 ⟨rfl,hb1⟩;rw [hv];go_wp2_with fail;go_ret;exact ⟨aT Hf.out.symm,bT (bA (bA (bR w) _) _) hb1⟩
theorem Dv {α:Type} (l:List α) (q:α->Bool) (k:Nat) (hk:k<l.length) (h:q l[k]=true):l.any q=true:=List.any_eq_true.2 ⟨l[k],List.getElem_mem hk,h⟩
theorem Dx {α:Type} (l:List α) (q:α->Bool) (h:∀ j (hj:j<l.length),q l[j]=false):l.any q=false:=by
 rw [List.any_eq_false];intro x hx;obtain ⟨i,hi,rfl⟩:=List.mem_iff_getElem.1 hx;simp [h i hi]
def iq (l:List Int) (n:Int):Bool:=l.any (fun x=>x == n) || n == 0
def lH (p:Pl):Bool:=p.au.any (fun a=>decide (64<a.via.length)) || (decide (256<p.nodes.length) || decide (256<p.au.length) || decide (64<p.faces.length))
def NW (w:World) (b:Bool) (e:Ending) (w':World):Prop:=∃ r:Int,e=.returned (.int .i64 r)/\decide (0<=r)=b/\Below w.heap.size w w'
set_option maxHeartbeats 400000 in
theorem abP (v:Value) (l:List Int) (x:Int) (w:World) (h:Ints w v l) :
  Calls Tryz.prog 78 #[v,.int .i64 x] w (NW w (l.any fun y=>y == x)):=by
 obtain ⟨A,c,rfl,hn,hc,hR⟩:=h;unfold maxLen at hc;go_enter Tryz.func78,Tryz.ntmps78;go_wp2_with fail;go_loopw [8] (fun i wr=>∃ k:Nat,k<=l.length/\i=.int .i64 k/\Below w.heap.size w wr/\∀ j (hj:j<l.length),j<k->(fun y=>y == x) l[j]=false) (fun i _=>l.length-(intOf i).toNat)
 case atStart => exact ⟨0,Nat.zero_le _,rfl,bR w,fun j _ h=>by omega⟩
 case round =>
  obtain ⟨k,hk,rfl,hb,hno⟩:=hrel;have Hb:=Lib.hid hb;have Hno:=Lib.hid hno;clear hb hno;by_cases hlt:k<l.length
  ·obtain ⟨b,o,rfl,hlb,c0⟩:=(hR.mono Hb.out).int hlt;have HR:=Lib.hid hR;clear hR
   cases he:(l[k] == x)
   ·go_wp2_with fail;go_roundw
    case rel => exact ⟨k+1,by omega,by go_num,Hb.out,all_succ (p:=fun y=>(fun y=>y == x) y=false) Hno.out hlt he⟩
    case measure => simp [intOf];omega
   ·have hf:=Lib.hid (Dv l (fun y=>y == x) k hlt he);have he2:(x == l[k])=true:=by simpa using (beq_iff_eq.1 he).symm
    go_wp2_with fail;go_ret;exact ⟨k,rfl,by rw [hf.out];simp,Hb.out⟩
  ·have hf:=Lib.hid (Dx l (fun y=>y == x) (fun j hj=>Hno.out j hj (by omega)));go_wp2_with fail;go_ret;exact ⟨-1,rfl,by rw [hf.out];simp,Hb.out⟩
set_option maxHeartbeats 400000 in
theorem abQ (v:Value) (l:List Int) (p:Int->Bool) (w:World) (h:Ints w v l)
  (hg:∀ y W,Calls Tryz.prog 221 #[(.int .i64 y)] W fun e w'=>e=.returned (.bool (p y))/\Below W.heap.size W w') :
  Calls Tryz.prog 257 #[v,.func (.func 221) #[] #[]] w (NW w (l.any p)):=by
 obtain ⟨A,c,rfl,hn,hc,hR⟩:=h;unfold maxLen at hc;have HG:=Lib.hid hg;clear hg;go_enter Tryz.func257,Tryz.ntmps257;go_wp2_with fail;go_loopw [8] (fun i wr=>∃ k:Nat,k<=l.length/\i=.int .i64 k/\Below w.heap.size w wr/\∀ j (hj:j<l.length),j<k->(p) l[j]=false) (fun i _=>l.length-(intOf i).toNat)
 case atStart => exact ⟨0,Nat.zero_le _,rfl,bR w,fun j _ h=>by omega⟩
 case round =>
  obtain ⟨k,hk,rfl,hb,hno⟩:=hrel;have Hb:=Lib.hid hb;have Hno:=Lib.hid hno;clear hb hno;by_cases hlt:k<l.length
  ·obtain ⟨b,o,rfl,hlb,c0⟩:=(hR.mono Hb.out).int hlt;have HR:=Lib.hid hR;clear hR;go_wp2_with fail;refine (HG.out l[k] _).mono ?_;rintro e w1 ⟨rfl,hb1⟩;have Bw:Below w.heap.size w w1:=bT Hb.out hb1;clear hb1
   cases he:p l[k]
   ·go_wp2_with fail;go_roundw
    case rel => exact ⟨k+1,by omega,by go_num,Bw,all_succ (p:=fun y=>(p) y=false) Hno.out hlt he⟩
    case measure => simp [intOf];omega
   ·have hf:=Lib.hid (Dv l (p) k hlt he);go_wp2_with fail;go_ret;exact ⟨k,rfl,by rw [hf.out];simp,Bw⟩
  ·have hf:=Lib.hid (Dx l (p) (fun j hj=>Hno.out j hj (by omega)));go_wp2_with fail;go_ret;exact ⟨-1,rfl,by rw [hf.out];simp,Hb.out⟩
set_option maxHeartbeats 400000 in
theorem abR (v:Value) (l:List Int) (p:Int->Bool) (w:World) (h:Ints w v l)
  (hg:∀ y W,Calls Tryz.prog 221 #[(.int .i64 y)] W fun e w'=>e=.returned (.bool (p y))/\Below W.heap.size W w') :
  Calls Tryz.prog 220 #[v,.func (.func 221) #[] #[]] w fun e w'=>e=.returned (.bool (l.any p))/\Below w.heap.size w w':=by
 have T:=abQ v l p w h hg;have HT:=Lib.hid T;clear T hg h;go_enter Tryz.func220,Tryz.ntmps220;go_wp2_with fail;refine HT.out.mono ?_;rintro e w1 ⟨r,rfl,hr,hb1⟩;have Hr:=Lib.hid hr;clear hr;go_wp2_with fail;go_ret;exact ⟨aT Hr.out,hb1⟩
set_option maxHeartbeats 400000 in
theorem abS (v:Value) (l:List Pt) (p:Pt->Bool) (w:World) (h:bU w v l)
  (hg:∀ y W,Calls Tryz.prog 222 #[(.agg #[.int .i64 y.x,.int .i64 y.y])] W fun e w'=>e=.returned (.bool (p y))/\Below W.heap.size W w') :
  Calls Tryz.prog 258 #[v,.func (.func 222) #[] #[]] w (NW w (l.any p)):=by
 obtain ⟨A,c,rfl,hn,hc,hR⟩:=h;unfold maxLen at hc;have HG:=Lib.hid hg;clear hg;go_enter Tryz.func258,Tryz.ntmps258;go_wp2_with fail;go_loopw [8] (fun i wr=>∃ k:Nat,k<=l.length/\i=.int .i64 k/\Below w.heap.size w wr/\∀ j (hj:j<l.length),j<k->(p) l[j]=false) (fun i _=>l.length-(intOf i).toNat)
 case atStart => exact ⟨0,Nat.zero_le _,rfl,bR w,fun j _ h=>by omega⟩
 case round =>
  obtain ⟨k,hk,rfl,hb,hno⟩:=hrel;have Hb:=Lib.hid hb;have Hno:=Lib.hid hno;clear hb hno;by_cases hlt:k<l.length
  ·obtain ⟨b,o,rfl,hlb,c0,c1⟩:=(hR.mono Hb.out).pt hlt;have HR:=Lib.hid hR;clear hR;go_wp2_with fail;refine (HG.out l[k] _).mono ?_;rintro e w1 ⟨rfl,hb1⟩;have Bw:Below w.heap.size w w1:=bT Hb.out hb1;clear hb1
   cases he:p l[k]
   ·go_wp2_with fail;go_roundw
    case rel => exact ⟨k+1,by omega,by go_num,Bw,all_succ (p:=fun y=>(p) y=false) Hno.out hlt he⟩
    case measure => simp [intOf];omega
   ·have hf:=Lib.hid (Dv l (p) k hlt he);go_wp2_with fail;go_ret;exact ⟨k,rfl,by rw [hf.out];simp,Bw⟩
  ·have hf:=Lib.hid (Dx l (p) (fun j hj=>Hno.out j hj (by omega)));go_wp2_with fail;go_ret;exact ⟨-1,rfl,by rw [hf.out];simp,Hb.out⟩
set_option maxHeartbeats 400000 in
theorem abT (v:Value) (l:List Pt) (p:Pt->Bool) (w:World) (h:bU w v l)
  (hg:∀ y W,Calls Tryz.prog 222 #[(.agg #[.int .i64 y.x,.int .i64 y.y])] W fun e w'=>e=.returned (.bool (p y))/\Below W.heap.size W w') :
  Calls Tryz.prog 223 #[v,.func (.func 222) #[] #[]] w fun e w'=>e=.returned (.bool (l.any p))/\Below w.heap.size w w':=by
 have T:=abS v l p w h hg;have HT:=Lib.hid T;clear T hg h;go_enter Tryz.func223,Tryz.ntmps223;go_wp2_with fail;refine HT.out.mono ?_;rintro e w1 ⟨r,rfl,hr,hb1⟩;have Hr:=Lib.hid hr;clear hr;go_wp2_with fail;go_ret;exact ⟨aT Hr.out,hb1⟩
set_option maxHeartbeats 400000 in
theorem Jk (v:Value) (l:List Int) (x:Int) (w:World) (h:Ints w v l) :
  Calls Tryz.prog 224 #[v,.int .i64 x] w fun e w'=>e=.returned (.bool (l.any (fun y=>y == x)))/\Below w.heap.size w w':=by
 have T:=abP v l x w h;have HT:=Lib.hid T;clear T h;go_enter Tryz.func224,Tryz.ntmps224;go_wp2_with fail;refine HT.out.mono ?_;rintro e w1 ⟨r,rfl,hr,hb1⟩;have Hr:=Lib.hid hr;clear hr;go_wp2_with fail;go_ret;exact ⟨aT Hr.out,hb1⟩
def lZ (n:Int):Bool:=decide (n<1) || decide (1073741824<n)
set_option maxHeartbeats 400000 in
theorem abU (n:Int) (w:World):Calls Tryz.prog 221 #[.int .i64 n] w fun e w'=>e=.returned (.bool (lZ n))/\Below w.heap.size w w':=by
 by_cases h:n<1
 ·go_enter Tryz.func221,Tryz.ntmps221;go_wp2_with fail;go_ret;exact ⟨aT (by simp [lZ,h]),bR w⟩
 ·have h':decide (n<1)=false:=by simpa using h
  go_enter Tryz.func221,Tryz.ntmps221;go_wp2_with fail;go_ret;exact ⟨aT (by simp only [lZ,h',Bool.false_or]),bR w⟩
set_option maxHeartbeats 400000 in
theorem NY (v:Value) (l:List Int) (w:World) (h:Ints w v l) :
  Calls Tryz.prog 170 #[v] w fun e w'=>e=.returned (.bool (!l.any lZ))/\Below w.heap.size w w':=by
 have T:=abR v l lZ w h (fun y W=>abU y W);have HT:=Lib.hid T;clear T h;go_enter Tryz.func170,Tryz.ntmps170;go_wp2_with fail;refine HT.out.mono ?_;rintro e w1 ⟨rfl,hb1⟩;go_wp2_with fail;go_ret;exact ⟨aT rfl,hb1⟩
def fK (p:Pt):Bool:=decide (-1048576<=p.x) && decide (p.x<=1048576) && decide (-1048576<=p.y) && decide (p.y<=1048576)
set_option maxHeartbeats 400000 in
theorem NZ (p:Pt) (w:World):Calls Tryz.prog 96 #[aF p] w fun e w'=>e=.returned (.bool (fK p))/\Below w.heap.size w w':=by
 unfold aF;go_enter Tryz.func96,Tryz.ntmps96;go_wp2_with fail
 all_goals
  go_ret;refine ⟨aT (by rw [fK,Bool.eq_iff_iff];simp only [Bool.and_eq_true,decide_eq_true_eq,true_iff,Bool.false_eq_true,false_iff];omega),?_⟩
  repeat (first | with_reducible exact bR _ | with_reducible assumption | with_reducible refine bA ?_ _ | with_reducible refine bD ?_ | with_reducible refine bN ?_ _ | ((with_reducible refine bS ?_ ?_ _);rotate_left;(simp;try omega)) | ((with_reducible refine bT ?_ ?_);rotate_left;with_reducible assumption) | with_reducible refine bT ?_ (by assumption))
end Go.Proofs.YtialfdomhoojiaaGreat
