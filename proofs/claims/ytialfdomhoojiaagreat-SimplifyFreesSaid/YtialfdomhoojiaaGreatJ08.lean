import Derived.Test.YtialfdomhoojiaaGreatGB
import Derived.Test.YtialfdomhoojiaaGreatJ03
import Derived.Test.YtialfdomhoojiaaGreatJ01
import Derived.Test.YtialfdomhoojiaaGreatJ07
set_option linter.unusedSimpArgs false
set_option linter.unusedVariables false
namespace Go.Proofs.YtialfdomhoojiaaGreat
open Go.RowKit
def y8 (n:Int):DataW Unit:=.lit (.int .i64 n)
def OX:Value->Option (DataW Unit×List MemPlace)
 | .int .i64 n=>some (y8 n,[])
 | _=>none
theorem ad3 {v:Value} {n:Int} {ps:List MemPlace} (h:OX v=some (y8 n,ps)):v=.int .i64 n:=by
 unfold OX at h;split at h
 ·simp only [y8,Option.some.injEq,Prod.mk.injEq,DataW.lit.injEq,Lit.int.injEq,true_and] at h;rw [h.1]
 · cases h
def jK (w:World) (b n:Nat) (f:Int->Int):Prop :=
 ∃ D:DataW Unit,w.ownsMap Tryz.prog 3 OX b n D/\Maps.IsMap D/\∀ id,D.atKey (.int .i64 id) (y8 0)=y8 (f id)
theorem jK.kept {w w':World} {b n:Nat} {f:Int->Int} (h:jK w b n f) {row:Option Nat} (hg:w.grownBy w' row) (hr:some b≠row):jK w' b n f:=by
 obtain ⟨D,h1,h2⟩:=h;exact ⟨D,h1.kept hg hr,h2⟩
theorem jK.keep {w w':World} {b n:Nat} {f:Int->Int} (h:jK w b n f) (hb:Below w.heap.size w w'):jK w' b n f :=
 h.kept (row:=none) ⟨hb.os,hb.tape,hb.output,hb.size,fun i hi _=>hb.block i hi⟩ (by simp)
theorem jK.lt {w:World} {b n:Nat} {f:Int->Int} (h:jK w b n f):b<w.heap.size:=by
 obtain ⟨D,h1,h2⟩:=h;exact h1.lt
theorem jK.made (w:World):jK (w.alloc (.map #[] 0)) w.heap.size 0 (fun _=>0) :=
 ⟨.map [],World.ownsMap_made _ _ _ _,⟨_,rfl⟩,fun _=>rfl⟩
theorem ad4 (w:World):(zeroValue 3).run Tryz.prog w=.ok (.int .i64 0) w:=by kernel_rfl
theorem jK.look {w:World} {b n:Nat} {f:Int->Int} (h:jK w b n f) (id:Int) (hid:cZ id) :
  (Instr.lookup 96 (.map (some b)) (.int .i64 id) false).run Tryz.prog w=.ok (.int .i64 (f id)) w:=by
 obtain ⟨D,h1,-,h2⟩:=h;obtain ⟨v,ps,hr,hv⟩:=h1.lookup tu Tryz.underlying96 (ad4 w) (zd:=y8 0) (zp:=[]) rfl (Maps.keyOf_int_mk Tryz.underlying3 hid);rw [h2] at hv;rw [hr,ad3 hv]
theorem jK.upd {w:World} {b n:Nat} {f:Int->Int} (h:jK w b n f) (hn:n<4294967296) (id:Int) (hid:cZ id) (x:Int) :
  ∃ w',(Instr.mapUpdate 96 (.map (some b)) (.int .i64 id) (.int .i64 x)).run Tryz.prog w=.ok () w'/\jK w' b (n+1) (fun i=>if i=id then x else f i)/\w.grownBy w' (some b):=by
 obtain ⟨D,h1,hm,h2⟩:=h;obtain ⟨w',hr,ho,hg⟩:=h1.update tu Tryz.underlying96 (by unfold maxLen;omega) (Maps.keyOf_int_mk Tryz.underlying3 hid) (val:=.int .i64 x) (d:=y8 x) (ps:=[]) rfl;refine ⟨w',hr,⟨_,ho,?_,fun i=>?_⟩,hg⟩
 · obtain ⟨es,rfl⟩:=hm;exact ⟨_,rfl⟩
 ·show _=y8 (if i=id then x else f i)
  by_cases e:i=id
  ·subst e;rw [if_pos rfl];exact Maps.atKey_put_same hm (by trivial) _ _
  · rw [if_neg e,Maps.atKey_put_other (fun h=>e (by injection h)),h2]
def sD (b:Bool):DataW Unit:=.lit (.bool b)
def JY:Value->Option (DataW Unit×List MemPlace)
 | .bool b=>some (sD b,[])
 | _=>none
theorem Xd {v:Value} {b:Bool} {ps:List MemPlace} (h:JY v=some (sD b,ps)):v=.bool b:=by
 unfold JY at h;split at h
 ·simp only [sD,Option.some.injEq,Prod.mk.injEq,DataW.lit.injEq,Lit.bool.injEq] at h;rw [h.1]
 · cases h
def jL (w:World) (b n:Nat) (f:Int->Bool):Prop :=
 ∃ D:DataW Unit,w.ownsMap Tryz.prog 3 JY b n D/\Maps.IsMap D/\∀ id,D.atKey (.int .i64 id) (sD false)=sD (f id)
theorem jL.kept {w w':World} {b n:Nat} {f:Int->Bool} (h:jL w b n f) {row:Option Nat} (hg:w.grownBy w' row) (hr:some b≠row):jL w' b n f:=by
 obtain ⟨D,h1,h2⟩:=h;exact ⟨D,h1.kept hg hr,h2⟩
theorem jL.keep {w w':World} {b n:Nat} {f:Int->Bool} (h:jL w b n f) (hb:Below w.heap.size w w'):jL w' b n f :=
 h.kept (row:=none) ⟨hb.os,hb.tape,hb.output,hb.size,fun i hi _=>hb.block i hi⟩ (by simp)
theorem jL.lt {w:World} {b n:Nat} {f:Int->Bool} (h:jL w b n f):b<w.heap.size:=by
 obtain ⟨D,h1,h2⟩:=h;exact h1.lt
theorem jL.made (w:World):jL (w.alloc (.map #[] 0)) w.heap.size 0 (fun _=>false) :=
 ⟨.map [],World.ownsMap_made _ _ _ _,⟨_,rfl⟩,fun _=>rfl⟩
theorem Xe (w:World):(zeroValue 4).run Tryz.prog w=.ok (.bool false) w:=by kernel_rfl
theorem jL.look {w:World} {b n:Nat} {f:Int->Bool} (h:jL w b n f) (id:Int) (hid:cZ id) :
  (Instr.lookup 139 (.map (some b)) (.int .i64 id) false).run Tryz.prog w=.ok (.bool (f id)) w:=by
 obtain ⟨D,h1,-,h2⟩:=h;obtain ⟨v,ps,hr,hv⟩:=h1.lookup tu Tryz.underlying139 (Xe w) (zd:=sD false) (zp:=[]) rfl (Maps.keyOf_int_mk Tryz.underlying3 hid);rw [h2] at hv;rw [hr,Xd hv]
theorem jL.upd {w:World} {b n:Nat} {f:Int->Bool} (h:jL w b n f) (hn:n<4294967296) (id:Int) (hid:cZ id) (x:Bool) :
  ∃ w',(Instr.mapUpdate 139 (.map (some b)) (.int .i64 id) (.bool x)).run Tryz.prog w=.ok () w'/\jL w' b (n+1) (fun i=>if i=id then x else f i)/\w.grownBy w' (some b):=by
 obtain ⟨D,h1,hm,h2⟩:=h;obtain ⟨w',hr,ho,hg⟩:=h1.update tu Tryz.underlying139 (by unfold maxLen;omega) (Maps.keyOf_int_mk Tryz.underlying3 hid) (val:=.bool x) (d:=sD x) (ps:=[]) rfl;refine ⟨w',hr,⟨_,ho,?_,fun i=>?_⟩,hg⟩
 · obtain ⟨es,rfl⟩:=hm;exact ⟨_,rfl⟩
 ·show _=sD (if i=id then x else f i)
  by_cases e:i=id
  ·subst e;rw [if_pos rfl];exact Maps.atKey_put_same hm (by trivial) _ _
  · rw [if_neg e,Maps.atKey_put_other (fun h=>e (by injection h)),h2]
def aP (x:SV):Value:=.slice x.a x.n x.c
def oZ (n:Nat):DataW Unit:=.lit (.int .i64 (n:Int))
def wQ (x:SV):DataW Unit:=match x.a with
 | none=>.agg [oZ x.n,oZ x.c]
 | some ⟨b,o,none⟩=>.agg [oZ b,oZ o,oZ x.n,oZ x.c]
 | some ⟨_,_,some _⟩=>.agg []
def JZ:Value->Option (DataW Unit×List MemPlace)
 | .slice none n c=>some (.agg [oZ n,oZ c],[])
 | .slice (some ⟨b,o,none⟩) n c=>some (.agg [oZ b,oZ o,oZ n,oZ c],[])
 | _=>none
theorem ad5 {v:Value} {x:SV} {ps:List MemPlace} (h:JZ v=some (wQ x,ps)):v=aP x:=by
 obtain ⟨a,n,c⟩:=x;unfold JZ at h;split at h
 ·rename_i n' c';unfold wQ at h;rcases a with _ | ⟨b,o,_ | q⟩
  ·simp only [Option.some.injEq,Prod.mk.injEq,DataW.agg.injEq,List.cons.injEq,oZ,DataW.lit.injEq,Lit.int.injEq,and_true,true_and] at h;have h1:n'=n:=by omega
   have h2:c'=c:=by omega
   subst h1 h2;rfl
  · simp at h
  · simp at h
 ·rename_i b' o' n' c';unfold wQ at h;rcases a with _ | ⟨b,o,_ | q⟩
  · simp at h
  ·simp only [Option.some.injEq,Prod.mk.injEq,DataW.agg.injEq,List.cons.injEq,oZ,DataW.lit.injEq,Lit.int.injEq,and_true,true_and] at h;have h1:b'=b:=by omega
   have h2:o'=o:=by omega
   have h3:n'=n:=by omega
   have h4:c'=c:=by omega
   subst h1 h2 h3 h4;rfl
  · simp at h
 · cases h
def SV.ok (x:SV):Prop:=x.a=none\/∃ b o,x.a=some ⟨b,o,none⟩
theorem ad6 {x:SV} (h:x.ok):JZ (aP x)=some (wQ x,[]):=by
 obtain ⟨a,n,c⟩:=x;rcases h with h | ⟨b,o,h⟩
 · simp only at h;subst h;rfl
 · simp only at h;subst h;rfl
def sv0:SV:=⟨none,0,0⟩
def jZ (w:World) (b n:Nat) (f:Int->SV):Prop :=
 ∃ D:DataW Unit,w.ownsMap Tryz.prog 3 JZ b n D/\Maps.IsMap D/\∀ id,D.atKey (.int .i64 id) (wQ sv0)=wQ (f id)
theorem jZ.kept {w w':World} {b n:Nat} {f:Int->SV} (h:jZ w b n f) {row:Option Nat} (hg:w.grownBy w' row) (hr:some b≠row):jZ w' b n f:=by
 obtain ⟨D,h1,h2⟩:=h;exact ⟨D,h1.kept hg hr,h2⟩
theorem jZ.keep {w w':World} {b n:Nat} {f:Int->SV} (h:jZ w b n f) (hb:Below w.heap.size w w'):jZ w' b n f :=
 h.kept (row:=none) ⟨hb.os,hb.tape,hb.output,hb.size,fun i hi _=>hb.block i hi⟩ (by simp)
theorem jZ.lt {w:World} {b n:Nat} {f:Int->SV} (h:jZ w b n f):b<w.heap.size:=by
 obtain ⟨D,h1,h2⟩:=h;exact h1.lt
theorem jZ.made (w:World):jZ (w.alloc (.map #[] 0)) w.heap.size 0 (fun _=>sv0) :=
 ⟨.map [],World.ownsMap_made _ _ _ _,⟨_,rfl⟩,fun _=>rfl⟩
theorem ad7 (w:World):(zeroValue 46).run Tryz.prog w=.ok (.slice none 0 0) w:=by kernel_rfl
theorem jZ.look {w:World} {b n:Nat} {f:Int->SV} (h:jZ w b n f) (id:Int) (hid:cZ id) :
  (Instr.lookup 78 (.map (some b)) (.int .i64 id) false).run Tryz.prog w=.ok (aP (f id)) w:=by
 obtain ⟨D,h1,-,h2⟩:=h;obtain ⟨v,ps,hr,hv⟩:=h1.lookup tu Tryz.underlying78 (ad7 w) (zd:=wQ sv0) (zp:=[]) rfl (Maps.keyOf_int_mk Tryz.underlying3 hid);rw [h2] at hv;rw [hr,ad5 hv]
theorem jZ.upd {w:World} {b n:Nat} {f:Int->SV} (h:jZ w b n f) (hn:n<4294967296) (id:Int) (hid:cZ id) (x:SV) (hx:x.ok) :
  ∃ w',(Instr.mapUpdate 78 (.map (some b)) (.int .i64 id) (aP x)).run Tryz.prog w=.ok () w'/\jZ w' b (n+1) (fun i=>if i=id then x else f i)/\w.grownBy w' (some b):=by
 obtain ⟨D,h1,hm,h2⟩:=h;obtain ⟨w',hr,ho,hg⟩:=h1.update tu Tryz.underlying78 (by unfold maxLen;omega) (Maps.keyOf_int_mk Tryz.underlying3 hid) (val:=aP x) (d:=wQ x) (ps:=[]) (ad6 hx);refine ⟨w',hr,⟨_,ho,?_,fun i=>?_⟩,hg⟩
 · obtain ⟨es,rfl⟩:=hm;exact ⟨_,rfl⟩
 ·show _=wQ (if i=id then x else f i)
  by_cases e:i=id
  ·subst e;rw [if_pos rfl];exact Maps.atKey_put_same hm (by trivial) _ _
  · rw [if_neg e,Maps.atKey_put_other (fun h=>e (by injection h)),h2]
theorem ad8 {n:Nat} (h:n<=8796093022208):n<=maxLen:=by
 have:maxLen=9223372036854775807:=rfl
 omega
def Gs (p:Pl):Prop:=∀ a∈p.au,a.via.length<=8796093022208
theorem ad9 {P:Program} (w:World) {ops:Array Oper} {rest:List Oper} {o:Oper} {a:Act} {Q:Exit->Act->World->Prop} (hgd:o.guard=none) (s x:Operand) (t:TypeId)
  (ho:o.op=.call {callee:=.builtin .append,args:=#[s,x],argTypes:=#[t,t]})
  {α:Type} {f:α->List Value} {base:Nat} {e:TypeId} {size bytes:Nat} (hE:Elem P t e size bytes) (hf:∀ a,(f a).length=size) (hone:∀ a,∀ u∈f a,u.oneCell'=true)
  {v:Value} {l:List α} (hs:a.eval s=v) (hown:Own w base e size f v l)
  {src:Value} {l2:List α} (hx:a.eval x=src) (hr:Sl w src l2.length (l2.flatMap f))
  (hbytes:(l.length+l2.length)*bytes<=140737488355328) (h32:l.length+l2.length<=8796093022208) (hbase:base<=w.heap.size)
  (h:∀ v' w',Own w' base e size f v' (l++l2)->w.grownBy w' v.ownBlock->(v'.ownBlock=v.ownBlock\/v'.ownBlock=some w.heap.size)->wpList P ops Q rest (a.put o.dst v') w'):wpList P ops Q (o::rest) a w:=by
 obtain ⟨ht,i,z,hi,hz,hsize,hby,hzs,hsz⟩:=hE;refine Uf w hgd s x t ho base e i z size bytes ht hi hz hsize hby hzs hsz v l.length (l.flatMap f) hs hown src l2.length (l2.flatMap f) hx hr (flat_length f size hf l2)
  (fun u hu=>?_) (ad8 h32) hbytes hbase (fun v' w' h1 h2 h3=>h v' w' ?_ h2 h3)
 ·obtain ⟨a,_,hu⟩:=List.mem_flatMap.1 hu;exact hone a u hu
 ·unfold Own;rw [List.length_append,List.flatMap_append];exact h1
set_option maxHeartbeats 400000 in
theorem aea (v:Value) (l:List Pt) (w:World) (h:bU w v l) (hl:l.length<=8796093022208) :
  Calls Tryz.prog 114 #[v] w (Jj w l):=by
 have H:=h;obtain ⟨A,c,rfl,hn,hc,hR⟩:=h;have hE:=Lib.run_eql_slice_nil (P:=Tryz.prog) (t:=46) (e:=39);rcases A with _ | ad
 ·have hl0:l=[]:=by
   rcases l with _ | ⟨a,l⟩
   · rfl
   ·obtain ⟨b,o,e,_⟩:=hR (by simp [dG])
    cases e
  subst hl0;clear hR H;simp only [List.length_nil] at hn ⊢;have hE1:∀ W:World,(binOp .eql 46 (.slice none 0 c) (.slice none 0 0)).run Tryz.prog W=.ok (.bool true) W:=fun W=>Lib.run_eql_slice_nil W _ 39 none _ c 0 0 Tryz.underlying46;clear hE;go_enter Tryz.func114,Tryz.ntmps114;go_wp2;go_ret;exact ⟨_,_,rfl,bR w,Own.nil _ _ _ _ _⟩
 ·have hE1:∀ W:World,(binOp .eql 46 (.slice (some ad) l.length c) (.slice none 0 0)).run Tryz.prog W=.ok (.bool false) W:=fun W=>Lib.run_eql_slice_nil W _ 39 (some ad) _ c 0 0 Tryz.underlying46;clear hE hR;have HH:=Lib.hid H;clear H;go_enter Tryz.func114,Tryz.ntmps114;go_wp2_with
   (at_builtin
    refine ad9 _ rfl (.tmp 5) (.tmp 6) _ rfl (base:=w.heap.size) kP iU kQ rfl (Own.lit _ _ _ _ dG [] _ 0 _ rfl rfl (Nat.le_refl _) (eG (by omega)) rfl rfl) rfl (HH.out.mono (bA (bR w) _)) (by simp only [List.length_nil];omega) (by simp only [List.length_nil];omega) (by simp) ?_;intro v1 w1 hown hg hat)
  go_ret;obtain ⟨A1,c1,rfl,-⟩:=Own.sl hown;simp only [List.nil_append] at hown ⊢;exact ⟨A1,c1,rfl,bG (bA (bR w) _) hg (fun k hk=>by have:w.heap.size=k:=Option.some.inj hk;omega),hown⟩
set_option maxHeartbeats 4000000 in
theorem aeb (v:Value) (p:Pl) (id:Int) (w:World) (h:dh w v p) (hsh:Gs p) :
  Calls Tryz.prog 73 #[v,.int .i64 id] w (FC w (findAr p.au id)):=by
 obtain ⟨vn,_,vf,al,rfl,hpa,-,⟨⟨An,cn,rfl,hn1,hn2,hR⟩,hV⟩,-⟩:=h;unfold maxLen at hn2;unfold Gs at hsh;rw [hpa] at hsh ⊢;clear hpa;have hsh':∀ k (hk:k<al.length),al[k].1.via.length<=8796093022208:=fun k hk=>hsh _ (List.mem_map_of_mem (List.getElem_mem hk));have HV:=Lib.hid hV;clear hV hsh;have ji:=Lib.hid hsh';clear hsh';go_enter Tryz.func73,Tryz.ntmps73;go_wp2_with fail;go_loopw [11] (fun i wr=>∃ k:Nat,k<=al.length/\i=.int .i64 k/\Below w.heap.size w wr/\ah wr (w.heap.size+1) 50 #[.int .i64 0,.int .i64 0,.int .i64 0,.slice none 0 0,.int .i64 0,.int .i64 0]/\∀ j (hj:j<al.length),j<k->(al[j].1.id == id)=false) (fun i _=>al.length-(intOf i).toNat)
 case atStart => exact ⟨0,Nat.zero_le _,rfl,bA (bA (bR w) _) _,ah.made (by simp) _ _,fun j _ h=>by omega⟩
 case round =>
  obtain ⟨k,hk,rfl,hb,X4,hno⟩:=hrel;have Hb:=Lib.hid hb;have Hno:=Lib.hid hno;clear hb hno;obtain ⟨aU,aV,bQ,eP,qm,qo,qp,dW,gq,gQ,qw,qx,qy⟩:=X4.eY;by_cases hlt:k<al.length
  ·obtain ⟨b,o,rfl,hlb,c0,c1,c2,c3,c4,c5⟩:=(hR.mono Hb.out).ar hlt;have HR:=Lib.hid hR;clear hR;have hvk:=(HV.out k hlt);obtain ⟨Av,cv,hv,-⟩:=hvk;have hvk:=(HV.out k hlt);rw [hv] at c3 hvk;generalize hvl:al[k].1.via.length=vl at *;have Hvl:=Lib.hid hvl;have wC:=Lib.hid hvk;clear hvk hv hvl
   cases he:(al[k].1.id == id)
   ·go_wp2;go_roundw
    case rel => exact ⟨k+1,by omega,by go_num,bA Hb.out _,X4.alloc _,all_succ (p:=fun x=>(x.1.id == id)=false) Hno.out hlt he⟩
    case measure => simp [intOf];omega
   ·have hf:=NR al id k hlt Hno.out he;have Hf:=Lib.hid hf;clear hf;go_wp2_with fail;refine (aea _ _ _ (wC.out.mono (bA Hb.out _)) (ji.out k hlt)).mono ?_;rintro e w1 ⟨A1,kD,rfl,hb1,hown⟩;have Bw:Below w.heap.size w w1:=bT (bA Hb.out _) hb1;have X7:ah w1 wr.heap.size 50 #[.int .i64 al[k].1.id,.int .i64 al[k].1.fr,.int .i64 al[k].1.dst,.slice Av vl cv,.int .i64 al[k].1.left,.int .i64 al[k].1.right]:=(ah.made rfl _ _).keep hb1;have hw8:w.heap.size+1<wr.heap.size:=by omega
    have hw7:w.heap.size+1≠wr.heap.size:=by omega
    replace X4:=(X4.alloc _).keep hb1;have hown':=hown.fM (b':=wr.heap.size+1) (by simp);have hP:=Own.sl hown;have fH:=Lib.hid hown';clear hb1 c0 c1 c2 c3 c4 c5 hlb hown hown' hP
    try clear aU
    try clear aV
    try clear bQ
    try clear eP
    try clear qm
    try clear qo
    try clear qp
    try clear dW
    try clear gq
    try clear gQ
    try clear qw
    try clear qx
    try clear qy
    obtain ⟨aU,aV,bQ,eP,qm,qo,qp,dW,gq,gQ,qw,qx,qy⟩:=X4.eY;obtain ⟨fU,fV,nC,zZ,Ad,Ae,Ag,Du,UK,UL,UM,UN,UO⟩:=X7.eY;go_wp2_with fail;have FD:=Hb.out.size;have FH:(Value.slice A1 al[k].1.via.length kD).ownBlock≠some wr.heap.size:=fun e=>by have:=(fH.out.lt _ e).1;omega
    have kE:(Value.slice A1 al[k].1.via.length kD).ownBlock≠some (w.heap.size+1):=fun e=>by have:=(fH.out.lt _ e).1;omega
    have HP:=Own.sl (((((((fH.out.far (p:=⟨wr.heap.size,3,none⟩) FH (.slice A1 al[k].1.via.length kD)).far (p:=⟨w.heap.size+1,0,none⟩) kE (.int .i64 al[k].1.id)).far (p:=⟨w.heap.size+1,1,none⟩) kE (.int .i64 al[k].1.fr)).far (p:=⟨w.heap.size+1,2,none⟩) kE (.int .i64 al[k].1.dst)).far (p:=⟨w.heap.size+1,3,none⟩) kE (.slice A1 al[k].1.via.length kD)).far (p:=⟨w.heap.size+1,4,none⟩) kE (.int .i64 al[k].1.left)).far (p:=⟨w.heap.size+1,5,none⟩) kE (.int .i64 al[k].1.right));refine nM (g:=w.heap.size+1) (cs:=#[.int .i64 al[k].1.id,.int .i64 al[k].1.fr,.int .i64 al[k].1.dst,.slice A1 al[k].1.via.length kD,.int .i64 al[k].1.left,.int .i64 al[k].1.right]) rfl vZ rfl rfl (ah.vY (X4.far (p:=⟨wr.heap.size,3,none⟩) hw7 _)) ⟨.slice A1 al[k].1.via.length kD,by rw [Hf.out];rfl,?_,by rw [Hf.out];exact HP⟩
    repeat (first | with_reducible exact bR _ | with_reducible assumption | with_reducible refine bA ?_ _ | with_reducible refine bD ?_ | with_reducible refine bN ?_ _ | ((with_reducible refine bS ?_ ?_ _);rotate_left;(simp;try omega)) | ((with_reducible refine bT ?_ ?_);rotate_left;with_reducible assumption) | with_reducible refine bT ?_ (by assumption))
  ·have hf:=NS al id (fun j hj=>Hno.out j hj (by omega));have Hf:=Lib.hid hf;clear hf;go_wp2;have Bw:=Hb.out;refine nM (g:=w.heap.size+1) (cs:=#[.int .i64 0,.int .i64 0,.int .i64 0,.slice none 0 0,.int .i64 0,.int .i64 0]) rfl vZ rfl rfl (ah.vY X4) ⟨.slice none 0 0,by rw [Hf.out];rfl,?_,by rw [Hf.out];exact Sl.nil _⟩
   repeat (first | with_reducible exact bR _ | with_reducible assumption | with_reducible refine bA ?_ _ | with_reducible refine bD ?_ | with_reducible refine bN ?_ _ | ((with_reducible refine bS ?_ ?_ _);rotate_left;(simp;try omega)) | ((with_reducible refine bT ?_ ?_);rotate_left;with_reducible assumption) | with_reducible refine bT ?_ (by assumption))
def vw (lt:Int->Int->Bool) (l:List Int) (c:Int):List Int:=l.takeWhile (fun x=>!lt c x)++c::l.dropWhile (fun x=>!lt c x)
def sortB (lt:Int->Int->Bool) (l:List Int):List Int:=l.foldl (vw lt) []
theorem OY (lt:Int->Int->Bool) (l:List Int) (c:Int):(vw lt l c).Perm (c::l):=by
 unfold vw;refine List.perm_middle.trans ?_;rw [List.takeWhile_append_dropWhile]
structure Bg (lt:Int->Int->Bool) (D:List Int):Prop where
 asym:∀ x∈D,∀ y∈D,lt x y=true->lt y x=false
 OZ:∀ x∈D,∀ y∈D,∀ z∈D,lt x y=false->lt y z=false->lt x z=false
 tri:∀ x∈D,∀ y∈D,lt x y=false->lt y x=false->x=y
theorem aec {lt:Int->Int->Bool} {D:List Int} (ho:Bg lt D) {l:List Int} (h:l.Pairwise (fun a b=>lt b a=false)) (hl:∀ x∈l,x∈D) {c:Int} (hc:c∈D):(vw lt l c).Pairwise (fun a b=>lt b a=false):=by
 induction l with
 | nil=>simp [vw]
 | cons a l ih =>
  have h':=List.pairwise_cons.1 h;have ha:=hl a List.mem_cons_self;unfold vw
  cases hca:lt c a
  ·have e1:(a::l).takeWhile (fun x=>!lt c x)=a::l.takeWhile (fun x=>!lt c x):=by rw [List.takeWhile_cons];simp [hca]
   have e2:(a::l).dropWhile (fun x=>!lt c x)=l.dropWhile (fun x=>!lt c x):=by rw [List.dropWhile_cons];simp [hca]
   rw [e1,e2]
   show List.Pairwise _ (a::vw lt l c)
   refine List.pairwise_cons.2 ⟨fun x hx=>?_,ih h'.2 (fun x hx=>hl x (List.mem_cons_of_mem _ hx))⟩;rcases List.mem_cons.1 ((OY lt l c).subset hx) with rfl | hx
   · exact hca
   · exact h'.1 x hx
  ·have e1:(a::l).takeWhile (fun x=>!lt c x)=[]:=by rw [List.takeWhile_cons];simp [hca]
   have e2:(a::l).dropWhile (fun x=>!lt c x)=a::l:=by rw [List.dropWhile_cons];simp [hca]
   rw [e1,e2,List.nil_append];refine List.pairwise_cons.2 ⟨fun x hx=>?_,h⟩;have h1:=ho.asym c hc a ha hca;rcases List.mem_cons.1 hx with rfl | hx'
   · exact h1
   · exact ho.OZ x (hl x hx) a ha c hc (h'.1 x hx') h1
theorem Xf {lt:Int->Int->Bool} {D:List Int} (ho:Bg lt D):∀ (l acc:List Int),acc.Pairwise (fun a b=>lt b a=false)->(∀ x∈l,x∈D)->(∀ x∈acc,x∈D)->(l.foldl (vw lt) acc).Perm (acc++l)/\(l.foldl (vw lt) acc).Pairwise (fun a b=>lt b a=false)
 | [],acc,h,_,_=>by simpa using h
 | c::l,acc,h,hl,ha=>by
  have hc:=hl c List.mem_cons_self;have:=Xf ho l (vw lt acc c) (aec ho h ha hc) (fun x hx=>hl x (List.mem_cons_of_mem _ hx)) (fun x hx=>by
   rcases List.mem_cons.1 ((OY lt acc c).subset hx) with rfl | hx
   · exact hc
   · exact ha x hx)
  refine ⟨this.1.trans ?_,this.2⟩;refine ((OY lt acc c).append_right l).trans ?_;rw [List.cons_append];exact List.perm_middle.symm
theorem O1 {lt:Int->Int->Bool} {D:List Int} (ho:Bg lt D):(sortB lt D).Perm D/\(sortB lt D).Pairwise (fun a b=>lt b a=false):=by
 have:=Xf ho D [] List.Pairwise.nil (fun x hx=>hx) (fun x hx=>by cases hx)
 simpa [sortB] using this
theorem aed {lt:Int->Int->Bool} {D m:List Int} (ho:Bg lt D) (hp:m.Perm D) (hs:m.Pairwise (fun a b=>lt b a=false)):m=sortB lt D:=by
 obtain ⟨h1,h2⟩:=O1 ho;exact OO (hp.trans h1.symm) hs h2 (fun a ha b hb=>ho.tri a (hp.subset ha) b (hp.subset hb))
def ltD (p:Pl) (o:Pt) (d e:Int):Bool:=qE o (fJ p d) (fJ p e)
def kH (p:Pl) (n:Int):List Int:=match jh p.nodes n with
 | none=>[]
 | some x=>sortB (ltD p x.pt) (eu p.au n)
def precD (l:List Int) (d:Int):Int:=match l.findIdx? (fun x=>x == d) with
 | none=>0
 | some i=>l.getD ((i+l.length-1) % l.length) 0
def kJ (p:Pl) (d:Int):Int:=if (gW p d).isSome then precD (kH p (uq p (-d))) (-d) else 0
def gJ (p:Pl):List (List Int):=OQ (kJ p) (dS p) (dS p)
section
variable {p:Pl} (h:Valid p)
include h
theorem Valid.O4 {n:Nd} (hn:n∈p.nodes):Bg (ltD p n.pt) (eu p.au n.id):=by
 have key:∀ d∈eu p.au n.id,∀ e∈eu p.au n.id,(ltD p n.pt d e=true↔kT n.pt (fJ p d) (fJ p e)):=fun d hd e he=>by
  obtain ⟨n0,n1,x1⟩:=h.Gq hn hd;obtain ⟨-,n2,x2⟩:=h.Gq hn he;unfold ltD;rw [acr];exact ⟨fun h=>h.2.2.2,fun h=>⟨by simp [dU,n0,n1,n2],x1,x2,h⟩⟩
 have Ei:∀ d∈eu p.au n.id,∀ e∈eu p.au n.id,(ltD p n.pt d e=false↔¬ kT n.pt (fJ p d) (fJ p e)):=fun d hd e he=>by
  rw [<- key d hd e he,Bool.not_eq_true]
 have nz:∀ d∈eu p.au n.id,¬ ((fJ p d).x-n.pt.x=0/\(fJ p d).y-n.pt.y=0):=fun d hd=>Oj.1 (h.Gq hn hd).2.2;refine ⟨fun x hx y hy h1=>?_,fun x hx y hy z hz h1 h2=>?_,fun x hx y hy h1 h2=>?_⟩
 ·rw [Ei y hy x hx];rw [key x hx y hy] at h1;exact fun h2=>acj _ _ (aco (nz x hx) (nz y hy) (nz x hx) h1 h2)
 ·rw [Ei x hx y hy] at h1;rw [Ei y hy z hz] at h2;rw [Ei x hx z hz];exact acp (nz x hx) (nz y hy) (nz z hz) h1 h2
 ·rw [Ei x hx y hy] at h1;rw [Ei y hy x hx] at h2;rcases Decidable.em (x=y) with e | e
  · exact e
  ·rcases h.dirs hn hx hy e with h3 | h3
   · exact absurd h3 h1
   · exact absurd h3 h2
theorem Valid.aee {n:Nd} (hn:n∈p.nodes):jh p.nodes n.id=some n:=JF (fun x:Nd=>x.id) p.nodes h.sound.nodes n hn
theorem Valid.Xg {n:Nd} (hn:n∈p.nodes):kH p n.id=sortB (ltD p n.pt) (eu p.au n.id):=by
 unfold kH;rw [h.aee hn]
theorem Valid.wR {n:Nd} (hn:n∈p.nodes):(kH p n.id).Perm (eu p.au n.id):=by
 rw [h.Xg hn];exact (O1 (h.O4 hn)).1
theorem Valid.aef {n:Int}:(eu p.au n).Nodup:=by
 have hs:=h.sound.au;rw [List.pairwise_map] at hs;have hpos:∀ a∈p.au,1<=a.id:=fun a ha=>(h.oC ha).1;unfold eu List.Nodup;rw [List.pairwise_flatMap];refine ⟨fun a ha=>?_,?_⟩
 ·have:=hpos a ha
  split<;>split<;>simp<;>omega
 ·have hs2:p.au.Pairwise (fun a b=>1<=a.id/\1<=b.id/\a.id<b.id):=by
   rw [List.pairwise_iff_getElem] at hs ⊢;exact fun i j hi hj hij=>⟨hpos _ (List.getElem_mem hi),hpos _ (List.getElem_mem hj),hs i j hi hj hij⟩
  refine hs2.imp ?_;rintro a b ⟨h1,h2,h3⟩ x hx y hy;have hx':x=a.id\/x=-a.id:=by
   rcases List.mem_append.1 hx with hx | hx
   ·split at hx
    · exact .inl (List.mem_singleton.1 hx)
    · cases hx
   ·split at hx
    · exact .inr (List.mem_singleton.1 hx)
    · cases hx
  have hy':y=b.id\/y=-b.id:=by
   rcases List.mem_append.1 hy with hy | hy
   ·split at hy
    · exact .inl (List.mem_singleton.1 hy)
    · cases hy
   ·split at hy
    · exact .inr (List.mem_singleton.1 hy)
    · cases hy
  omega
theorem Valid.J3:(dS p).Pairwise (· < ·):=by
 have hs:=h.sound.au;have hpos:∀ a∈p.au,1<=a.id:=fun a ha=>(h.oC ha).1;unfold dS;rw [List.pairwise_append];refine ⟨?_,hs,fun x hx y hy=>?_⟩
 ·rw [List.pairwise_reverse,List.pairwise_map];rw [List.pairwise_map] at hs;exact hs.imp (fun h=>by omega)
 ·rw [List.mem_reverse,List.mem_map] at hx;obtain ⟨a,ha,rfl⟩:=hx;obtain ⟨b,hb,rfl⟩:=List.mem_map.1 hy;have:=hpos a ha;have:=hpos b hb
  omega
end
theorem aeg {l:List Int} (hl:l.Nodup) {i:Nat} (hi:i<l.length):l.findIdx? (fun x=>x == l[i])=some i:=by
 rw [List.findIdx?_eq_some_iff_getElem];refine ⟨hi,by simp,fun j hj=>?_⟩;rw [List.Nodup,List.pairwise_iff_getElem] at hl;have:=hl j i (by omega) hi hj
 simpa using this
theorem O5 {l:List Int} (hl:l.Nodup) {i:Nat} (hi:i<l.length):precD l l[i]=l[(i+l.length-1) % l.length]'(Nat.mod_lt _ (by omega)):=by
 unfold precD;rw [aeg hl hi];simp only [];rw [List.getD_eq_getElem?_getD,List.getElem?_eq_getElem (Nat.mod_lt _ (by omega))];rfl
theorem aeh {l:List Int} (hl:l.Nodup) {d:Int} (hd:d∈l):precD l d∈l:=by
 obtain ⟨i,hi,rfl⟩:=List.mem_iff_getElem.1 hd;rw [O5 hl hi];exact List.getElem_mem _
theorem aei {i j n:Nat} (hi:i<n) (hj:j<n) (h:(i+n-1) % n=(j+n-1) % n):i=j:=by
 have key:∀ k,k<n->(k+n-1) % n=if k=0 then n-1 else k-1:=fun k hk=>by
  split
  · subst k;rw [Nat.mod_eq_of_lt (by omega)];omega
  · rw [show k+n-1=(k-1)+n by omega,Nat.add_mod_right,Nat.mod_eq_of_lt (by omega)]
 rw [key i hi,key j hj] at h;split at h<;>split at h<;>omega
theorem aej {l:List Int} (hl:l.Nodup) {d e:Int} (hd:d∈l) (he:e∈l) (h:precD l d=precD l e):d=e:=by
 obtain ⟨i,hi,rfl⟩:=List.mem_iff_getElem.1 hd;obtain ⟨j,hj,rfl⟩:=List.mem_iff_getElem.1 he;rw [O5 hl hi,O5 hl hj] at h;have hl':=hl;rw [List.Nodup,List.pairwise_iff_getElem] at hl';have e:(i+l.length-1) % l.length=(j+l.length-1) % l.length:=by
  rcases Nat.lt_trichotomy ((i+l.length-1) % l.length) ((j+l.length-1) % l.length) with h1 | h1 | h1
  · exact absurd h (hl' _ _ _ _ h1)
  · exact h1
  · exact absurd h.symm (hl' _ _ _ _ h1)
 have:=aei hi hj e
 subst this;rfl
theorem O6 {p:Pl} {d:Int} (hd:d∈dS p):-d∈dS p:=by
 obtain ⟨a,ha,e⟩:=y7.1 hd;refine y7.2 ⟨a,ha,?_⟩;rcases e with rfl | rfl
 · exact .inr rfl
 · exact .inl (Int.neg_neg _)
section
variable {p:Pl} (h:Valid p)
include h
theorem Valid.Xh {d:Int} (hd:d∈dS p):(gW p d).isSome=true:=by
 obtain ⟨a,ha,e⟩:=y7.1 hd;rcases e with rfl | rfl
 · rw [h.OV ha];rfl
 · rw [h.WW ha];rfl
theorem Valid.Xi {d:Int} (hd:d∈dS p):∃ n∈p.nodes,n.id=uq p d/\d∈eu p.au n.id:=by
 obtain ⟨a,ha,e⟩:=y7.1 hd;rcases e with rfl | rfl
 ·obtain ⟨n,hn,e,-⟩:=h.sound.JQ ha;exact ⟨n,hn,by rw [h.WX ha,e],Gp.2 ⟨a,ha,.inl ⟨rfl,e.symm⟩⟩⟩
 ·obtain ⟨n,hn,e,-⟩:=h.sound.JR ha;exact ⟨n,hn,by rw [h.WY ha,e],Gp.2 ⟨a,ha,.inr ⟨rfl,e.symm⟩⟩⟩
theorem Valid.Gt {n d:Int} (hd:d∈eu p.au n):d∈dS p/\uq p d=n:=by
 obtain ⟨a,ha,e⟩:=Gp.1 hd;rcases e with ⟨rfl,e⟩ | ⟨rfl,e⟩
 · exact ⟨y7.2 ⟨a,ha,.inl rfl⟩,by rw [h.WX ha,e]⟩
 · exact ⟨y7.2 ⟨a,ha,.inr rfl⟩,by rw [h.WY ha,e]⟩
theorem Valid.O7 {n:Nd} (hn:n∈p.nodes):(kH p n.id).Nodup:=(h.wR hn).nodup_iff.2 h.aef
theorem Valid.J4 {d:Int} (hd:d∈dS p):∃ n∈p.nodes,n.id=uq p (-d)/\-d∈kH p n.id/\kJ p d=precD (kH p n.id) (-d):=by
 obtain ⟨n,hn,e,hm⟩:=h.Xi (O6 hd);refine ⟨n,hn,e,(h.wR hn).symm.subset hm,?_⟩;unfold kJ;rw [if_pos (h.Xh hd),e]
theorem Valid.y9 {d:Int} (hd:d∈dS p):kJ p d∈dS p/\uq p (kJ p d)=uq p (-d):=by
 obtain ⟨n,hn,e,hm,hx⟩:=h.J4 hd;rw [hx];have h1:=aeh (h.O7 hn) hm;have h2:=h.Gt ((h.wR hn).subset h1);exact ⟨h2.1,by rw [h2.2,e]⟩
theorem Valid.Gu {d e:Int} (hd:d∈dS p) (he:e∈dS p) (hx:kJ p d=kJ p e):d=e:=by
 obtain ⟨n,hn,e1,m1,x1⟩:=h.J4 hd;obtain ⟨m,hm,e2,m2,x2⟩:=h.J4 he;have hs:=(h.y9 hd).2;rw [hx,(h.y9 he).2,<- e2,<- e1] at hs;rw [x1,x2,hs] at hx;rw [hs] at m2;have:=aej (h.O7 hn) m1 m2 hx
 omega
theorem Valid.O8:(dS p).Nodup:=h.J3.imp (fun h=>by omega)
theorem Valid.jA:lM (kJ p) (dS p) (dS p) (gJ p) :=
 adZ (fun x hx=>(h.y9 hx).1) (fun x hx y hy=>h.Gu hx hy) h.J3
theorem Valid.Xj:(gJ p).flatten.Perm (dS p):=h.jA.perm (fun x hx=>(h.y9 hx).1) h.O8
theorem Valid.O9:(p.nodes.flatMap fun n=>kH p n.id).Perm (dS p):=by
 refine (List.perm_ext_iff_of_nodup ?_ h.O8).2 fun d=>?_
 ·unfold List.Nodup;rw [List.pairwise_flatMap];refine ⟨fun n hn=>h.O7 hn,?_⟩;have hs:=h.sound.nodes;rw [List.pairwise_map] at hs;rw [List.pairwise_iff_getElem] at hs ⊢;intro i j hi hj hij x hx y hy e;subst e;have h1:=(h.Gt ((h.wR (List.getElem_mem hi)).subset hx)).2;have h2:=(h.Gt ((h.wR (List.getElem_mem hj)).subset hy)).2;have:=hs i j hi hj hij
  omega
 ·rw [List.mem_flatMap];constructor
  ·rintro ⟨n,hn,hd⟩;exact (h.Gt ((h.wR hn).subset hd)).1
  ·intro hd;obtain ⟨n,hn,-,hm⟩:=h.Xi hd;exact ⟨n,hn,(h.wR hn).symm.subset hm⟩
end
theorem FC.form {w:World} {r:Option Ar} {e:Ending} {w':World} (h:FC w r e w'):∃ A c,e=.returned (.tuple #[.agg #[.int .i64 (r.getD iO).id,.int .i64 (r.getD iO).fr,.int .i64 (r.getD iO).dst,.slice A (r.getD iO).via.length c,.int .i64 (r.getD iO).left,.int .i64 (r.getD iO).right],.bool r.isSome])/\Below w.heap.size w w'/\bU w' (.slice A (r.getD iO).via.length c) (r.getD iO).via:=by
 obtain ⟨v',rfl,hb,hp⟩:=h;obtain ⟨A,c,rfl,h1,h2,h3⟩:=hp;exact ⟨A,c,rfl,hb,A,c,rfl,h1,h2,h3⟩
theorem Xk {n:Int} (h:cZ n):-9223372036854775808<=n/\n<=9223372036854775807:=by
 unfold cZ Lit.wf at h;simp only [Bool.and_eq_true,decide_eq_true_eq] at h;have h1:IntKind.i64.min=-9223372036854775808:=by decide
 have h2:IntKind.i64.max=9223372036854775807:=by decide
 rw [h1,h2] at h;exact h
theorem aek {p:Pl} {d:Int} (h0:d≠0) (h1:d≠-9223372036854775808):findAr p.au (max d (-d))=gW p d:=by
 unfold gW JX mO;rw [if_neg (by omega)];congr 1;split<;>omega
def ael (w:World) (r:Option Ar) (e:Ending) (w':World):Prop :=
 ∃ A n c,e=.returned (.tuple #[.agg #[.int .i64 (r.getD iO).id,.int .i64 (r.getD iO).fr,.int .i64 (r.getD iO).dst,.slice A n c,.int .i64 (r.getD iO).left,.int .i64 (r.getD iO).right],.bool r.isSome])/\Below w.heap.size w w'
set_option maxRecDepth 100000 in
set_option maxHeartbeats 4000000 in
theorem Xl (v:Value) (p:Pl) (d:Int) (w:World) (h:dh w v p) (hs:Gs p) (hd:cZ d):Calls Tryz.prog 90 #[v,.int .i64 d] w (ael w (gW p d)):=by
 have TA:=fun W (hW:Below w.heap.size w W)=>aeb v p (max d (-d)) W (h.mono hW) hs;obtain ⟨_,_,_,al,rfl,hpa,⟨An,cn,rfl,-⟩,⟨⟨Aa,ca,rfl,-⟩,-⟩,⟨Af,cf,rfl,-⟩⟩:=h;generalize al.length=na at *;generalize p.nodes.length=nn at *;generalize p.faces.length=nf at *;clear hpa;by_cases h0:d=0
 ·subst h0;have hz:gW p 0=none:=by unfold gW;rw [if_pos (.inl rfl)]
  rw [hz];clear TA hz;go_enter Tryz.func90,Tryz.ntmps90;go_upto_region 1 with fail;obtain ⟨W,hW⟩:∃ W:World,W=(w.alloc (.cells #[.slice An nn cn,.slice Aa na ca,.slice Af nf cf] 26)).alloc (.cells #[.int .i64 0,.int .i64 0,.int .i64 0,.slice none 0 0,.int .i64 0,.int .i64 0] 50):=⟨_,rfl⟩;have Bw:Below w.heap.size w W:=by rw [hW];exact bA (bA (bR w) _) _
  have X4:ah W (w.heap.size+1) 50 #[.int .i64 0,.int .i64 0,.int .i64 0,.slice none 0 0,.int .i64 0,.int .i64 0]:=by rw [hW];exact ah.made (by simp) _ _
  rw [<- hW];clear hW;obtain ⟨aU,aV,bQ,eP,qm,qo,qp,dW,gq,gQ,qw,qx,qy⟩:=X4.eY;go_wp2_with fail;refine nM (g:=w.heap.size+1) (cs:=#[.int .i64 0,.int .i64 0,.int .i64 0,.slice none 0 0,.int .i64 0,.int .i64 0]) rfl vZ rfl rfl (ah.vY X4) ⟨none,0,0,rfl,?_⟩
  repeat (first | with_reducible exact bR _ | with_reducible assumption | with_reducible refine bA ?_ _ | with_reducible refine bD ?_ | with_reducible refine bN ?_ _ | ((with_reducible refine bS ?_ ?_ _);rotate_left;(simp;try omega)) | ((with_reducible refine bT ?_ ?_);rotate_left;with_reducible assumption) | with_reducible refine bT ?_ (by assumption))
 by_cases h1:d=-9223372036854775808
 ·subst h1;have hz:gW p (-9223372036854775808)=none:=by unfold gW;rw [if_pos (.inr rfl)]
  rw [hz];clear TA hz h0;go_enter Tryz.func90,Tryz.ntmps90;go_upto_region 1 with fail;obtain ⟨W,hW⟩:∃ W:World,W=(w.alloc (.cells #[.slice An nn cn,.slice Aa na ca,.slice Af nf cf] 26)).alloc (.cells #[.int .i64 0,.int .i64 0,.int .i64 0,.slice none 0 0,.int .i64 0,.int .i64 0] 50):=⟨_,rfl⟩;have Bw:Below w.heap.size w W:=by rw [hW];exact bA (bA (bR w) _) _
  have X4:ah W (w.heap.size+1) 50 #[.int .i64 0,.int .i64 0,.int .i64 0,.slice none 0 0,.int .i64 0,.int .i64 0]:=by rw [hW];exact ah.made (by simp) _ _
  rw [<- hW];clear hW
  try clear aU
  try clear aV
  try clear bQ
  try clear eP
  try clear qm
  try clear qo
  try clear qp
  try clear dW
  try clear gq
  try clear gQ
  try clear qw
  try clear qx
  try clear qy
  obtain ⟨aU,aV,bQ,eP,qm,qo,qp,dW,gq,gQ,qw,qx,qy⟩:=X4.eY;go_wp2_with fail;refine nM (g:=w.heap.size+1) (cs:=#[.int .i64 0,.int .i64 0,.int .i64 0,.slice none 0 0,.int .i64 0,.int .i64 0]) rfl vZ rfl rfl (ah.vY X4) ⟨none,0,0,rfl,?_⟩
  repeat (first | with_reducible exact bR _ | with_reducible assumption | with_reducible refine bA ?_ _ | with_reducible refine bD ?_ | with_reducible refine bN ?_ _ | ((with_reducible refine bS ?_ ?_ _);rotate_left;(simp;try omega)) | ((with_reducible refine bT ?_ ?_);rotate_left;with_reducible assumption) | with_reducible refine bT ?_ (by assumption))
 rw [aek h0 h1] at TA;have hb:=Xk hd;have k1:IntKind.i64.wrap (-d)=-d:=IntWalk.i64_in _ (by omega);have e0:(d == 0)=false:=by simpa using h0
 have e1:(d == -9223372036854775808)=false:=by simpa using h1
 have HA:=Lib.hid TA;clear TA h0 h1 hd hb;generalize gW p d=r at *;go_enter Tryz.func90,Tryz.ntmps90;go_upto_region 1 with fail;obtain ⟨W,hW⟩:∃ W:World,W=(w.alloc (.cells #[.slice An nn cn,.slice Aa na ca,.slice Af nf cf] 26)).alloc (.cells #[.int .i64 0,.int .i64 0,.int .i64 0,.slice none 0 0,.int .i64 0,.int .i64 0] 50):=⟨_,rfl⟩;have Bw:Below w.heap.size w W:=by rw [hW];exact bA (bA (bR w) _) _
 have X4:ah W (w.heap.size+1) 50 #[.int .i64 0,.int .i64 0,.int .i64 0,.slice none 0 0,.int .i64 0,.int .i64 0]:=by rw [hW];exact ah.made (by simp) _ _
 have X2:ah W w.heap.size 26 #[.slice An nn cn,.slice Aa na ca,.slice Af nf cf]:=by rw [hW];exact (ah.made rfl _ _).alloc _
 rw [<- hW];clear hW;obtain ⟨bF,bH,bI,bM,-,-,-⟩:=X2.aJ;go_wp2_with fail;refine (HA.out _ Bw).mono ?_;intro e w1 har;obtain ⟨A1,c1,rfl,hb1,-⟩:=har.form;have Bw:=bT Bw hb1;replace X4:=X4.keep hb1;clear har hb1 X2 bF bH bI bM
 try clear aU
 try clear aV
 try clear bQ
 try clear eP
 try clear qm
 try clear qo
 try clear qp
 try clear dW
 try clear gq
 try clear gQ
 try clear qw
 try clear qx
 try clear qy
 obtain ⟨aU,aV,bQ,eP,qm,qo,qp,dW,gq,gQ,qw,qx,qy⟩:=X4.eY;generalize hvl:(r.getD iO).via.length=vl at *;go_wp2_with fail;refine nM (g:=w.heap.size+1) (cs:=#[.int .i64 (r.getD iO).id,.int .i64 (r.getD iO).fr,.int .i64 (r.getD iO).dst,.slice A1 vl c1,.int .i64 (r.getD iO).left,.int .i64 (r.getD iO).right]) rfl vZ rfl rfl (ah.vY X4) ⟨A1,vl,c1,rfl,?_⟩
 repeat (first | with_reducible exact bR _ | with_reducible assumption | with_reducible refine bA ?_ _ | with_reducible refine bD ?_ | with_reducible refine bN ?_ _ | ((with_reducible refine bS ?_ ?_ _);rotate_left;(simp;try omega)) | ((with_reducible refine bT ?_ ?_);rotate_left;with_reducible assumption) | with_reducible refine bT ?_ (by assumption))
set_option maxRecDepth 100000 in
set_option maxHeartbeats 4000000 in
theorem aem (v:Value) (p:Pl) (d:Int) (w:World) (h:dh w v p) (hs:Gs p) (hd:cZ d):Calls Tryz.prog 33 #[v,.int .i64 d] w fun e w'=>e=.returned (.int .i64 (iF p d))/\Below w.heap.size w w':=by
 have HA:=Lib.hid (fun W (hW:Below w.heap.size w W)=>Xl v p d W (h.mono hW) hs hd);obtain ⟨_,_,_,al,rfl,hpa,⟨An,cn,rfl,-⟩,⟨⟨Aa,ca,rfl,-⟩,-⟩,⟨Af,cf,rfl,-⟩⟩:=h;unfold iF;generalize gW p d=r at *;generalize al.length=na at *;generalize p.nodes.length=nn at *;generalize p.faces.length=nf at *;clear hpa hd hs;go_enter Tryz.func33,Tryz.ntmps33;go_wp2_with fail;refine (HA.out _ (bA (bR w) _)).mono ?_;rintro e w1 ⟨A1,n1,c1,rfl,hb1⟩;have B1:=Lib.hid (bT (bA (bR w) _) hb1);clear hb1 HA
 cases r with
 | none =>
  simp only [Option.isSome_none];go_wp2_with fail;go_ret;exact ⟨rfl,bA B1.out _⟩
 | some a =>
  simp only [Option.isSome_some,Option.getD_some];by_cases hp:0<d
  ·go_wp2_with fail;go_ret;exact ⟨dY (by first | rfl | simp [hp]),bA B1.out _⟩
  ·go_wp2_with fail;go_ret;exact ⟨dY (by first | rfl | simp [hp]),bA B1.out _⟩
theorem Pg {P:Program} {fn:Func} {p u v:Tmp} {ty t:TypeId} {R:Ending->World->Prop} {a:Act} {w:World} {g:Nat} {cs:Array Value} (h:fn.results=#[.cell p ty,.tmp u,.tmp v])
  (hS:StructOf P ty cs.size) (hp:a.tmps.getD p undef=.pointer (some ⟨g,0,none⟩)) (hd:a.defers=[]) (hb:ah w g t cs) (hR:R (.returned (.tuple #[.agg cs,a.tmps.getD u undef,a.tmps.getD v undef])) w):bodyPost P fn R .ret a w:=by
 obtain ⟨fs,h1,h3⟩:=hS;refine bodyPost_ret ?_ hd hR;have e1:=run_loadVar_row (P:=P) w g t ty cs (0,0) (.struct fs) hb h1 rfl h3;have hp':a.tmps[p]?.getD undef=.pointer (some ⟨g,0,none⟩):=by simpa using hp
 simp only [results,h];simp [hp',asAddr,Sem.run_bind,Sem.run_pure,Result.andThen,e1]
def Gv (a b:Pt):Int:=a.x*b.y-b.x*a.y
def o7 (P:List Pt):Nat->Int
 | 0=>0
 | k+1=>o7 P k+Gv (P.getD k aQ) (P.getD (k+1) aQ)
def Ej (P:List Pt):Int:=o7 P (P.length-1)
def Bh (p:Pl) (d:Int):Int:=match gW p d with
 | none=>0
 | some a=>if 0<d then Ej (aK p a) else -Ej (aK p a)
def oD (p:Pl) (l:List Int):Nat->Int
 | 0=>0
 | k+1=>oD p l k+Bh p (l.getD k 0)
def wS (p:Pl) (l:List Int):Int:=if l.length<=512/\(∀ d∈l,(gW p d).isSome=true) then oD p l l.length else 0
def zf (p:Pt):Prop:=(-1048576<=p.x/\p.x<=1048576)/\(-1048576<=p.y/\p.y<=1048576)
theorem J5 {u v:Int} (hu:-1048576<=u/\u<=1048576) (hv:-1048576<=v/\v<=1048576):-1099511627776<=u*v/\u*v<=1099511627776:=by
 have:=qj u v 1048576 hu.1 hu.2 hv.1 hv.2
 simpa using this
theorem aen {a b:Pt} (ha:zf a) (hb:zf b):-2199023255552<=Gv a b/\Gv a b<=2199023255552:=by
 have h1:=J5 ha.1 hb.2;have h2:=J5 hb.1 ha.2;unfold Gv;omega
theorem aeo {P:List Pt} (h:∀ q∈P,zf q) (k:Nat) (hk:k+1<=P.length\/k=0):-(2199023255552*(k:Int))<=o7 P k/\o7 P k<=2199023255552*(k:Int):=by
 induction k with
 | zero=>simp [o7]
 | succ k ih =>
  have ih:=ih (by omega);have g:∀ j,j<P.length->zf (P.getD j aQ):=fun j hj=>by
   rw [List.getD_eq_getElem?_getD,List.getElem?_eq_getElem hj];exact h _ (List.getElem_mem hj)
  have:=aen (g k (by omega)) (g (k+1) (by omega))
  rw [o7];omega
theorem aep {q:Pt} (h:fK q=true):zf q:=by
 unfold fK at h;simp only [Bool.and_eq_true,decide_eq_true_eq] at h;unfold zf;omega
theorem Ph {p:Pl} {d:Int} {a:Ar} (e:gW p d=some a):a∈p.au/\mO d=a.id:=by
 unfold gW at e;split at e
 · cases e
 · exact ⟨List.mem_of_find?_eq_some e,by have:=List.find?_some e;exact (show a.id=mO d by simpa using this).symm⟩
section
variable {p:Pl} (h:Valid p)
include h
theorem Valid.Xm {a:Ar} (ha:a∈p.au) {q:Pt} (hq:q∈aK p a):zf q:=by
 have hr:=h.rng;unfold tY at hr;simp only [Bool.and_eq_true,List.all_eq_true] at hr;have key:∀ q∈oU p,zf q:=fun q hq=>aep (hr.2 q hq);unfold aK at hq;rcases List.mem_cons.1 hq with rfl | hq
 ·obtain ⟨n,hn,-,e⟩:=h.sound.JQ ha;rw [e];exact key _ (List.mem_append_left _ (List.mem_map_of_mem hn))
 ·rcases List.mem_append.1 hq with hq | hq
  · exact key _ (List.mem_append_right _ (List.mem_flatMap.2 ⟨a,ha,hq⟩))
  ·rw [List.mem_singleton] at hq;subst hq;obtain ⟨n,hn,-,e⟩:=h.sound.JR ha;rw [e];exact key _ (List.mem_append_left _ (List.mem_map_of_mem hn))
theorem Valid.Em {a:Ar} (ha:a∈p.au):a.via.length<=64:=by
 have hl:=h.lim;unfold lH at hl;rw [Bool.or_eq_false_iff,List.any_eq_false] at hl;have:=hl.1 a ha
 simpa using this
theorem Valid.Xn {a:Ar} (ha:a∈p.au) (k:Nat) (hk:k+1<=(aK p a).length):-142936511610880<=o7 (aK p a) k/\o7 (aK p a) k<=142936511610880:=by
 have h1:=aeo (P:=aK p a) (fun q hq=>h.Xm ha hq) k (.inl hk);have h2:=h.Em ha;have h3:=jQ p a;omega
theorem Valid.aer (d:Int):-142936511610880<=Bh p d/\Bh p d<=142936511610880:=by
 unfold Bh
 cases e:gW p d with
 | none=>simp
 | some a =>
  have ha:=(Ph e).1;have h3:=jQ p a;have:=h.Xn ha ((aK p a).length-1) (by omega)
  unfold Ej;simp only [];split<;>omega
theorem Valid.aes (l:List Int) (k:Nat):-(142936511610880*(k:Int))<=oD p l k/\oD p l k<=142936511610880*(k:Int):=by
 induction k with
 | zero=>simp [oD]
 | succ k ih =>
  have:=h.aer (l.getD k 0)
  rw [oD];omega
end
end Go.Proofs.YtialfdomhoojiaaGreat
