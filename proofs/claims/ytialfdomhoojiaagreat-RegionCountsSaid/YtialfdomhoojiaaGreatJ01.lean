import Derived.Test.YtialfdomhoojiaaGreatGB
set_option linter.unusedSimpArgs false
set_option linter.unusedVariables false
namespace Go.Proofs.YtialfdomhoojiaaGreat
open Go.RowKit
def Ec (n:Int):DataW Unit:=.lit (.int .i64 n)
def Ws:Value->Option (DataW Unit×List MemPlace)
 | .int .i64 n=>some (Ec n,[])
 | _=>none
theorem ai3 {v:Value} {n:Int} {ps:List MemPlace} (h:Ws v=some (Ec n,ps)):v=.int .i64 n:=by
 unfold Ws at h;split at h
 ·simp only [Ec,Option.some.injEq,Prod.mk.injEq,DataW.lit.injEq,Lit.int.injEq,true_and] at h;rw [h.1]
 · cases h
def fQ (w:World) (b n:Nat) (f:Int->Int):Prop :=
 ∃ D:DataW Unit,w.ownsMap Tryz.prog 3 Ws b n D/\Maps.IsMap D/\∀ id,D.atKey (.int .i64 id) (Ec 0)=Ec (f id)
theorem fQ.kept {w w':World} {b n:Nat} {f:Int->Int} (h:fQ w b n f) {row:Option Nat} (hg:w.grownBy w' row) (hr:some b≠row):fQ w' b n f:=by
 obtain ⟨D,h1,h2⟩:=h;exact ⟨D,h1.kept hg hr,h2⟩
theorem fQ.keep {w w':World} {b n:Nat} {f:Int->Int} (h:fQ w b n f) (hb:Below w.heap.size w w'):fQ w' b n f :=
 h.kept (row:=none) ⟨hb.os,hb.tape,hb.output,hb.size,fun i hi _=>hb.block i hi⟩ (by simp)
theorem fQ.lt {w:World} {b n:Nat} {f:Int->Int} (h:fQ w b n f):b<w.heap.size:=by
 obtain ⟨D,h1,h2⟩:=h;exact h1.lt
theorem fQ.made (w:World):fQ (w.alloc (.map #[] 0)) w.heap.size 0 (fun _=>0) :=
 ⟨.map [],World.ownsMap_made _ _ _ _,⟨_,rfl⟩,fun _=>rfl⟩
theorem ai4 (w:World):(zeroValue 3).run Tryz.prog w=.ok (.int .i64 0) w:=by kernel_rfl
theorem fQ.look {w:World} {b n:Nat} {f:Int->Int} (h:fQ w b n f) (id:Int) (hid:dP id) :
  (Instr.lookup 96 (.map (some b)) (.int .i64 id) false).run Tryz.prog w=.ok (.int .i64 (f id)) w:=by
 obtain ⟨D,h1,-,h2⟩:=h;obtain ⟨v,ps,hr,hv⟩:=h1.lookup yS Tryz.underlying96 (ai4 w) (zd:=Ec 0) (zp:=[]) rfl (Maps.keyOf_int_mk Tryz.underlying3 hid);rw [h2] at hv;rw [hr,ai3 hv]
theorem fQ.upd {w:World} {b n:Nat} {f:Int->Int} (h:fQ w b n f) (hn:n<4294967296) (id:Int) (hid:dP id) (x:Int) :
  ∃ w',(Instr.mapUpdate 96 (.map (some b)) (.int .i64 id) (.int .i64 x)).run Tryz.prog w=.ok () w'/\fQ w' b (n+1) (fun i=>if i=id then x else f i)/\w.grownBy w' (some b):=by
 obtain ⟨D,h1,hm,h2⟩:=h;obtain ⟨w',hr,ho,hg⟩:=h1.update yS Tryz.underlying96 (by unfold maxLen;omega) (Maps.keyOf_int_mk Tryz.underlying3 hid) (val:=.int .i64 x) (d:=Ec x) (ps:=[]) rfl;refine ⟨w',hr,⟨_,ho,?_,fun i=>?_⟩,hg⟩
 · obtain ⟨es,rfl⟩:=hm;exact ⟨_,rfl⟩
 ·show _=Ec (if i=id then x else f i)
  by_cases e:i=id
  ·subst e;rw [if_pos rfl];exact Maps.atKey_put_same hm (by trivial) _ _
  · rw [if_neg e,Maps.atKey_put_other (fun h=>e (by injection h)),h2]
def x9 (b:Bool):DataW Unit:=.lit (.bool b)
def QK:Value->Option (DataW Unit×List MemPlace)
 | .bool b=>some (x9 b,[])
 | _=>none
theorem abW {v:Value} {b:Bool} {ps:List MemPlace} (h:QK v=some (x9 b,ps)):v=.bool b:=by
 unfold QK at h;split at h
 ·simp only [x9,Option.some.injEq,Prod.mk.injEq,DataW.lit.injEq,Lit.bool.injEq] at h;rw [h.1]
 · cases h
def mG (w:World) (b n:Nat) (f:Int->Bool):Prop :=
 ∃ D:DataW Unit,w.ownsMap Tryz.prog 3 QK b n D/\Maps.IsMap D/\∀ id,D.atKey (.int .i64 id) (x9 false)=x9 (f id)
theorem mG.kept {w w':World} {b n:Nat} {f:Int->Bool} (h:mG w b n f) {row:Option Nat} (hg:w.grownBy w' row) (hr:some b≠row):mG w' b n f:=by
 obtain ⟨D,h1,h2⟩:=h;exact ⟨D,h1.kept hg hr,h2⟩
theorem mG.keep {w w':World} {b n:Nat} {f:Int->Bool} (h:mG w b n f) (hb:Below w.heap.size w w'):mG w' b n f :=
 h.kept (row:=none) ⟨hb.os,hb.tape,hb.output,hb.size,fun i hi _=>hb.block i hi⟩ (by simp)
theorem mG.lt {w:World} {b n:Nat} {f:Int->Bool} (h:mG w b n f):b<w.heap.size:=by
 obtain ⟨D,h1,h2⟩:=h;exact h1.lt
theorem mG.made (w:World):mG (w.alloc (.map #[] 0)) w.heap.size 0 (fun _=>false) :=
 ⟨.map [],World.ownsMap_made _ _ _ _,⟨_,rfl⟩,fun _=>rfl⟩
theorem abX (w:World):(zeroValue 4).run Tryz.prog w=.ok (.bool false) w:=by kernel_rfl
theorem mG.look {w:World} {b n:Nat} {f:Int->Bool} (h:mG w b n f) (id:Int) (hid:dP id) :
  (Instr.lookup 139 (.map (some b)) (.int .i64 id) false).run Tryz.prog w=.ok (.bool (f id)) w:=by
 obtain ⟨D,h1,-,h2⟩:=h;obtain ⟨v,ps,hr,hv⟩:=h1.lookup yS Tryz.underlying139 (abX w) (zd:=x9 false) (zp:=[]) rfl (Maps.keyOf_int_mk Tryz.underlying3 hid);rw [h2] at hv;rw [hr,abW hv]
theorem mG.upd {w:World} {b n:Nat} {f:Int->Bool} (h:mG w b n f) (hn:n<4294967296) (id:Int) (hid:dP id) (x:Bool) :
  ∃ w',(Instr.mapUpdate 139 (.map (some b)) (.int .i64 id) (.bool x)).run Tryz.prog w=.ok () w'/\mG w' b (n+1) (fun i=>if i=id then x else f i)/\w.grownBy w' (some b):=by
 obtain ⟨D,h1,hm,h2⟩:=h;obtain ⟨w',hr,ho,hg⟩:=h1.update yS Tryz.underlying139 (by unfold maxLen;omega) (Maps.keyOf_int_mk Tryz.underlying3 hid) (val:=.bool x) (d:=x9 x) (ps:=[]) rfl;refine ⟨w',hr,⟨_,ho,?_,fun i=>?_⟩,hg⟩
 · obtain ⟨es,rfl⟩:=hm;exact ⟨_,rfl⟩
 ·show _=x9 (if i=id then x else f i)
  by_cases e:i=id
  ·subst e;rw [if_pos rfl];exact Maps.atKey_put_same hm (by trivial) _ _
  · rw [if_neg e,Maps.atKey_put_other (fun h=>e (by injection h)),h2]
def mJ (l:List Nd) (id:Int):Option Nd:=l.find? (fun n=>n.id == id)
def nd0:Nd:=⟨0,⟨0,0⟩⟩
def QL (r:Option Nd):Value:=.tuple #[VO (r.getD nd0),.bool r.isSome]
theorem dS.nodes {w:World} {vn va vf:Value} {p:Pl} (h:dS w (.agg #[vn,va,vf]) p):zZ w vn p.nodes:=by
 obtain ⟨_,_,_,_,e,_,h1,_,_⟩:=h;simp only [Value.agg.injEq,Array.mk.injEq,List.cons.injEq,and_true] at e;obtain ⟨rfl,rfl,rfl⟩:=e;exact h1
set_option maxHeartbeats 400000 in
theorem Wu (v:Value) (p:Pl) (id:Int) (w:World) (h:dS w v p) :
  Calls Tryz.prog 74 #[v,.int .i64 id] w fun e w'=>e=.returned (QL (mJ p.nodes id))/\Below w.heap.size w w':=by
 obtain ⟨_,va,vf,al,rfl,hpa,⟨An,cn,rfl,hn1,hn2,hR⟩,-,-⟩:=h;unfold maxLen at hn2;generalize p.nodes=l at *;clear hpa;go_enter Tryz.func74,Tryz.ntmps74;go_wp2_with fail;go_loopw [11] (fun i wr=>∃ k:Nat,k<=l.length/\i=.int .i64 k/\Below w.heap.size w wr/\aj wr (w.heap.size+1) 45 #[.int .i64 0,.int .i64 0,.int .i64 0]/\∀ j (hj:j<l.length),j<k->(l[j].id == id)=false) (fun i _=>l.length-(intOf i).toNat)
 case atStart => exact ⟨0,Nat.zero_le _,rfl,bA (bA (bR w) _) _,aj.made (by simp) _ _,fun j _ h=>by omega⟩
 case round =>
  obtain ⟨k,hk,rfl,hb,X4,hno⟩:=hrel;have Hb:=Lib.hid hb;have Hno:=Lib.hid hno;clear hb hno;obtain ⟨cZ,dh,eF,jw,eG,iY,lu⟩:=X4.bC;by_cases hlt:k<l.length
  ·obtain ⟨b,o,rfl,hlb,c0,c1,c2⟩:=(hR.mono Hb.out).nd hlt;have HR:=Lib.hid hR;clear hR
   cases he:(l[k].id == id)
   ·go_wp2;go_roundw
    case rel => exact ⟨k+1,by omega,by go_num,bA Hb.out _,X4.alloc _,all_succ (p:=fun x=>(x.id == id)=false) Hno.out hlt he⟩
    case measure => simp [intOf];omega
   ·have hf:=VP l (fun n=>n.id == id) k hlt Hno.out he;have Hf:=Lib.hid hf;clear hf;go_wp2;have Bw:=Hb.out;refine su (g:=w.heap.size+1) (cs:=#[.int .i64 l[k].id,.int .i64 l[k].pt.x,.int .i64 l[k].pt.y]) rfl abB rfl rfl (aj.ML X4 |>.alloc _) ⟨by rw [mJ,Hf.out];rfl,?_⟩
    repeat (first | with_reducible exact bR _ | with_reducible assumption | with_reducible refine bA ?_ _ | with_reducible refine bD ?_ | with_reducible refine bN ?_ _ | ((with_reducible refine bS ?_ ?_ _);rotate_left;(simp;try omega)) | ((with_reducible refine bT ?_ ?_);rotate_left;with_reducible assumption) | with_reducible refine bT ?_ (by assumption))
  ·have hf:=VQ l (fun n=>n.id == id) (fun j hj=>Hno.out j hj (by omega));have Hf:=Lib.hid hf;clear hf;go_wp2;have Bw:=Hb.out;refine su (g:=w.heap.size+1) (cs:=#[.int .i64 0,.int .i64 0,.int .i64 0]) rfl abB rfl rfl (aj.ML X4) ⟨by rw [mJ,Hf.out];rfl,?_⟩
   repeat (first | with_reducible exact bR _ | with_reducible assumption | with_reducible refine bA ?_ _ | with_reducible refine bD ?_ | with_reducible refine bN ?_ _ | ((with_reducible refine bS ?_ ?_ _);rotate_left;(simp;try omega)) | ((with_reducible refine bT ?_ ?_);rotate_left;with_reducible assumption) | with_reducible refine bT ?_ (by assumption))
def QM (w:World) (l:List Pt) (e:Ending) (w':World):Prop :=
 ∃ A c,e=.returned (.slice A l.length c)/\Below w.heap.size w w'/\Own w' w.heap.size 39 2 iV (.slice A l.length c) l
set_option maxHeartbeats 400000 in
theorem abY (v:Value) (l:List Pt) (w:World) (h:gG w v l) (hl:l.length<=1048576) :
  Calls Tryz.prog 114 #[v] w (QM w l):=by
 have H:=h;obtain ⟨A,c,rfl,hn,hc,hR⟩:=h;have hE:=Lib.run_eql_slice_nil (P:=Tryz.prog) (t:=46) (e:=39);rcases A with _ | ad
 ·have hl0:l=[]:=by
   rcases l with _ | ⟨a,l⟩
   · rfl
   ·obtain ⟨b,o,e,_⟩:=hR (by simp [iV])
    cases e
  subst hl0;clear hR H;simp only [List.length_nil] at hn ⊢;have hE1:∀ W:World,(binOp .eql 46 (.slice none 0 c) (.slice none 0 0)).run Tryz.prog W=.ok (.bool true) W:=fun W=>Lib.run_eql_slice_nil W _ 39 none _ c 0 0 Tryz.underlying46;clear hE;go_enter Tryz.func114,Tryz.ntmps114;go_wp2;go_ret;exact ⟨_,_,rfl,bR w,Own.nil _ _ _ _ _⟩
 ·have hE1:∀ W:World,(binOp .eql 46 (.slice (some ad) l.length c) (.slice none 0 0)).run Tryz.prog W=.ok (.bool false) W:=fun W=>Lib.run_eql_slice_nil W _ 39 (some ad) _ c 0 0 Tryz.underlying46;clear hE hR;have HH:=Lib.hid H;clear H;go_enter Tryz.func114,Tryz.ntmps114;go_wp2_with
   (at_builtin
    refine jH _ rfl (.tmp 5) (.tmp 6) _ rfl (base:=w.heap.size) Jp F9 Jq rfl (Own.lit _ _ _ _ iV [] _ 0 _ rfl rfl (Nat.le_refl _) (dW (by omega)) rfl rfl) rfl (HH.out.mono (bA (bR w) _)) (by simp only [List.length_nil];omega) (by simp only [List.length_nil];omega) (by simp) ?_;intro v1 w1 hown hg hat)
  go_ret;obtain ⟨A1,c1,rfl,-⟩:=Own.sl hown;simp only [List.nil_append] at hown ⊢;exact ⟨A1,c1,rfl,bG (bA (bR w) _) hg (fun k hk=>by have:w.heap.size=k:=Option.some.inj hk;omega),hown⟩
def findAr (l:List Ar) (id:Int):Option Ar:=l.find? (fun a=>a.id == id)
def nM:Ar:=⟨0,0,0,[],0,0⟩
def QN (w:World) (r:Option Ar) (e:Ending) (w':World):Prop :=
 ∃ v',e=.returned (.tuple #[arV (r.getD nM) v',.bool r.isSome])/\Below w.heap.size w w'/\gG w' v' (r.getD nM).via
def Short (p:Pl):Prop:=∀ a∈p.ah,a.via.length<=1048576
theorem Sl.nil (w:World):Sl w (.slice none 0 0) 0 []:=⟨none,0,rfl,Nat.le_refl _,dW (by omega),Row.nil⟩
theorem abZ (al:List (Ar×Value)) (id:Int) (k:Nat) (hk:k<al.length) (h:∀ j (hj:j<al.length),j<k->(al[j].1.id == id)=false) (he:(al[k].1.id == id)=true) :
  findAr (al.map (·.1)) id=some al[k].1:=by
 have:=VP al (fun a=>a.1.id == id) k hk h he
 rw [findAr,List.find?_map]
 show (al.find? (fun a=>a.1.id == id)).map _=_
 rw [this];rfl
theorem ab1 (al:List (Ar×Value)) (id:Int) (h:∀ j (hj:j<al.length),(al[j].1.id == id)=false):findAr (al.map (·.1)) id=none:=by
 have:=VQ al (fun a=>a.1.id == id) h
 rw [findAr,List.find?_map]
 show (al.find? (fun a=>a.1.id == id)).map _=_
 rw [this];rfl
set_option maxHeartbeats 4000000 in
theorem ai5 (v:Value) (p:Pl) (id:Int) (w:World) (h:dS w v p) (hsh:Short p) :
  Calls Tryz.prog 73 #[v,.int .i64 id] w (QN w (findAr p.ah id)):=by
 obtain ⟨vn,_,vf,al,rfl,hpa,-,⟨⟨An,cn,rfl,hn1,hn2,hR⟩,hV⟩,-⟩:=h;unfold maxLen at hn2;unfold Short at hsh;rw [hpa] at hsh ⊢;clear hpa;have hsh':∀ k (hk:k<al.length),al[k].1.via.length<=1048576:=fun k hk=>hsh _ (List.mem_map_of_mem (List.getElem_mem hk));have HV:=Lib.hid hV;clear hV hsh;have eu:=Lib.hid hsh';clear hsh';go_enter Tryz.func73,Tryz.ntmps73;go_wp2_with fail;go_loopw [11] (fun i wr=>∃ k:Nat,k<=al.length/\i=.int .i64 k/\Below w.heap.size w wr/\aj wr (w.heap.size+1) 50 #[.int .i64 0,.int .i64 0,.int .i64 0,.slice none 0 0,.int .i64 0,.int .i64 0]/\∀ j (hj:j<al.length),j<k->(al[j].1.id == id)=false) (fun i _=>al.length-(intOf i).toNat)
 case atStart => exact ⟨0,Nat.zero_le _,rfl,bA (bA (bR w) _) _,aj.made (by simp) _ _,fun j _ h=>by omega⟩
 case round =>
  obtain ⟨k,hk,rfl,hb,X4,hno⟩:=hrel;have Hb:=Lib.hid hb;have Hno:=Lib.hid hno;clear hb hno;obtain ⟨cZ,dh,eF,jw,yc,Aj,Ak,eG,iY,lu,yg,Au,Aw⟩:=X4.kZ;by_cases hlt:k<al.length
  ·obtain ⟨b,o,rfl,hlb,c0,c1,c2,c3,c4,c5⟩:=(hR.mono Hb.out).ar hlt;have HR:=Lib.hid hR;clear hR;have hvk:=(HV.out k hlt);obtain ⟨Av,cv,hv,-⟩:=hvk;have hvk:=(HV.out k hlt);rw [hv] at c3 hvk;generalize hvl:al[k].1.via.length=vl at *;have Hvl:=Lib.hid hvl;have MV:=Lib.hid hvk;clear hvk hv hvl
   cases he:(al[k].1.id == id)
   ·go_wp2;go_roundw
    case rel => exact ⟨k+1,by omega,by go_num,bA Hb.out _,X4.alloc _,all_succ (p:=fun x=>(x.1.id == id)=false) Hno.out hlt he⟩
    case measure => simp [intOf];omega
   ·have hf:=abZ al id k hlt Hno.out he;have Hf:=Lib.hid hf;clear hf;go_wp2_with fail;refine (abY _ _ _ (MV.out.mono (bA Hb.out _)) (eu.out k hlt)).mono ?_;rintro e w1 ⟨A1,wO,rfl,hb1,hown⟩;have Bw:Below w.heap.size w w1:=bT (bA Hb.out _) hb1;have X7:aj w1 wr.heap.size 50 #[.int .i64 al[k].1.id,.int .i64 al[k].1.fr,.int .i64 al[k].1.dst,.slice Av vl cv,.int .i64 al[k].1.left,.int .i64 al[k].1.right]:=(aj.made rfl _ _).keep hb1;have hw8:w.heap.size+1<wr.heap.size:=by omega
    have hw7:w.heap.size+1≠wr.heap.size:=by omega
    replace X4:=(X4.alloc _).keep hb1;have hown':=hown.iW (b':=wr.heap.size+1) (by simp);have hP:=Own.sl hown;have kD:=Lib.hid hown';clear hb1 c0 c1 c2 c3 c4 c5 hlb hown hown' hP
    try clear cZ
    try clear dh
    try clear eF
    try clear jw
    try clear yc
    try clear Aj
    try clear Ak
    try clear eG
    try clear iY
    try clear lu
    try clear yg
    try clear Au
    try clear Aw
    obtain ⟨cZ,dh,eF,jw,yc,Aj,Ak,eG,iY,lu,yg,Au,Aw⟩:=X4.kZ;obtain ⟨jJ,jK,qY,X7c,X7d,X7e,X7f,ai6,ai7,ai8,ai9,aja,ajb⟩:=X7.kZ;go_wp2_with fail;have QO:=Hb.out.size;have Wv:(Value.slice A1 al[k].1.via.length wO).ownBlock≠some wr.heap.size:=fun e=>by have:=(kD.out.lt _ e).1;omega
    have wP:(Value.slice A1 al[k].1.via.length wO).ownBlock≠some (w.heap.size+1):=fun e=>by have:=(kD.out.lt _ e).1;omega
    have HP:=Own.sl (((((((kD.out.far (p:=⟨wr.heap.size,3,none⟩) Wv (.slice A1 al[k].1.via.length wO)).far (p:=⟨w.heap.size+1,0,none⟩) wP (.int .i64 al[k].1.id)).far (p:=⟨w.heap.size+1,1,none⟩) wP (.int .i64 al[k].1.fr)).far (p:=⟨w.heap.size+1,2,none⟩) wP (.int .i64 al[k].1.dst)).far (p:=⟨w.heap.size+1,3,none⟩) wP (.slice A1 al[k].1.via.length wO)).far (p:=⟨w.heap.size+1,4,none⟩) wP (.int .i64 al[k].1.left)).far (p:=⟨w.heap.size+1,5,none⟩) wP (.int .i64 al[k].1.right));refine su (g:=w.heap.size+1) (cs:=#[.int .i64 al[k].1.id,.int .i64 al[k].1.fr,.int .i64 al[k].1.dst,.slice A1 al[k].1.via.length wO,.int .i64 al[k].1.left,.int .i64 al[k].1.right]) rfl Gi rfl rfl (aj.Gg (X4.far (p:=⟨wr.heap.size,3,none⟩) hw7 _)) ⟨.slice A1 al[k].1.via.length wO,by rw [Hf.out];rfl,?_,by rw [Hf.out];exact HP⟩
    repeat (first | with_reducible exact bR _ | with_reducible assumption | with_reducible refine bA ?_ _ | with_reducible refine bD ?_ | with_reducible refine bN ?_ _ | ((with_reducible refine bS ?_ ?_ _);rotate_left;(simp;try omega)) | ((with_reducible refine bT ?_ ?_);rotate_left;with_reducible assumption) | with_reducible refine bT ?_ (by assumption))
  ·have hf:=ab1 al id (fun j hj=>Hno.out j hj (by omega));have Hf:=Lib.hid hf;clear hf;go_wp2;have Bw:=Hb.out;refine su (g:=w.heap.size+1) (cs:=#[.int .i64 0,.int .i64 0,.int .i64 0,.slice none 0 0,.int .i64 0,.int .i64 0]) rfl Gi rfl rfl (aj.Gg X4) ⟨.slice none 0 0,by rw [Hf.out];rfl,?_,by rw [Hf.out];exact Sl.nil _⟩
   repeat (first | with_reducible exact bR _ | with_reducible assumption | with_reducible refine bA ?_ _ | with_reducible refine bD ?_ | with_reducible refine bN ?_ _ | ((with_reducible refine bS ?_ ?_ _);rotate_left;(simp;try omega)) | ((with_reducible refine bT ?_ ?_);rotate_left;with_reducible assumption) | with_reducible refine bT ?_ (by assumption))
def iM (l:List Ar) (id:Int):Int:=(l.map fun a=>(if a.fr=id then (1:Int) else 0)+(if a.dst=id then 1 else 0)).sum
theorem ab2 (l:List Ar) (id:Int):0<=iM l id/\iM l id<=2*l.length:=by
 unfold iM
 induction l with
 | nil=>simp
 | cons a l ih =>
  simp only [List.map_cons,List.sum_cons,List.length_cons];split<;>split<;>omega
theorem ajc (al:List (Ar×Value)) (id:Int) (k:Nat) (hk:k<al.length) :
  iM ((al.take (k+1)).map (·.1)) id=iM ((al.take k).map (·.1)) id+((if al[k].1.fr=id then (1:Int) else 0)+(if al[k].1.dst=id then 1 else 0)):=by
 unfold iM;rw [List.take_succ_eq_append_getElem hk];simp only [List.map_append,List.sum_append,List.map_cons,List.map_nil,List.sum_cons,List.sum_nil];omega
set_option maxHeartbeats 400000 in
theorem ab3 (v:Value) (p:Pl) (id:Int) (w:World) (h:dS w v p) (hl:p.ah.length<=1099511627776) :
  Calls Tryz.prog 35 #[v,.int .i64 id] w fun e w'=>e=.returned (.int .i64 (iM p.ah id))/\Below w.heap.size w w':=by
 obtain ⟨vn,_,vf,al,rfl,hpa,-,⟨⟨An,cn,rfl,hn1,hn2,hR⟩,hV⟩,-⟩:=h;unfold maxLen at hn2;rw [hpa] at hl ⊢;rw [List.length_map] at hl;clear hpa;have HV:=Lib.hid hV;clear hV;go_enter Tryz.func35,Tryz.ntmps35;go_wp2_with fail;go_loopw [4,10] (fun n i wr=>∃ k:Nat,k<=al.length/\i=.int .i64 k/\n=.int .i64 (iM ((al.take k).map (·.1)) id)/\Below w.heap.size w wr) (fun _ i _=>al.length-(intOf i).toNat)
 case atStart => exact ⟨0,Nat.zero_le _,rfl,rfl,bA (bR w) _⟩
 case round =>
  obtain ⟨k,hk,rfl,rfl,hb⟩:=hrel;have Hb:=Lib.hid hb;clear hb;have hd:=ab2 ((al.take k).map (·.1)) id;have hl2:((al.take k).map (·.1)).length<=al.length:=by simp;omega
  by_cases hlt:k<al.length
  ·obtain ⟨b,o,rfl,hlb,c0,c1,c2,c3,c4,c5⟩:=(hR.mono Hb.out).ar hlt;have HR:=Lib.hid hR;clear hR;obtain ⟨Av,cv,hv,-⟩:=(HV.out k hlt);rw [hv] at c3;clear hv;have Hs:=Lib.hid (ajc al id k hlt);generalize iM ((al.take k).map (·.1)) id=d at *;go_wp2
   all_goals
    go_roundw
    case rel => exact ⟨k+1,by omega,by go_num,by rw [Hs.out];simp_all<;>go_num,bA Hb.out _⟩
    case measure => simp [intOf];omega
  ·have hE:(al.take k).map (·.1)=al.map (·.1):=by rw [List.take_of_length_le (by omega)]
   rw [hE];go_wp2;go_ret;exact ⟨fA rfl,Hb.out⟩
def uU (l:List Int):Bool:=(List.range (l.length-1)).all fun j=>decide (l.getD j 0<l.getD (j+1) 0)
theorem ajd (l:List Int) (h:∀ j (hj:j+1<l.length),l[j]<l[j+1]):uU l=true:=by
 unfold uU;rw [List.all_eq_true];intro j hj;have hj':j+1<l.length:=by have:=List.mem_range.1 hj;omega
 have:=h j hj'
 simp [List.getD,List.getElem?_eq_getElem hj',List.getElem?_eq_getElem (show j<l.length by omega),this]
theorem aje (l:List Int) (j:Nat) (hj:j+1<l.length) (h:¬ l[j]<l[j+1]):uU l=false:=by
 unfold uU;rw [List.all_eq_false];refine ⟨j,List.mem_range.2 (by omega),?_⟩;simp [List.getD,List.getElem?_eq_getElem hj,List.getElem?_eq_getElem (show j<l.length by omega)];omega
set_option maxHeartbeats 400000 in
theorem Wx (v:Value) (l:List Int) (w:World) (h:Ints w v l) :
  Calls Tryz.prog 169 #[v] w fun e w'=>e=.returned (.bool (uU l))/\Below w.heap.size w w':=by
 obtain ⟨A,c,rfl,hn,hc,hR⟩:=h;unfold maxLen at hc;go_enter Tryz.func169,Tryz.ntmps169;go_wp2_with fail;go_loopw [3] (fun i wr=>∃ m:Nat,i=.int .i64 ((m:Int)+1)/\(m=0\/m+1<=l.length)/\Below w.heap.size w wr/\∀ j (hj:j+1<l.length),j<m->l[j]<l[j+1]) (fun i _=>l.length+1-(intOf i).toNat)
 case atStart => exact ⟨0,rfl,.inl rfl,bR w,fun j _ h=>by omega⟩
 case round =>
  obtain ⟨m,rfl,hm,hb,hno⟩:=hrel;have Hb:=Lib.hid hb;have Hno:=Lib.hid hno;clear hb hno;by_cases hlt:m+1<l.length
  ·obtain ⟨b,o,rfl,hlb,c1⟩:=(hR.mono Hb.out).int hlt;obtain ⟨b',o',e,Gu,c0⟩:=(hR.mono Hb.out).int (show m<l.length by omega);simp only [Option.some.injEq,Addr.mk.injEq,and_true] at e;obtain ⟨rfl,rfl⟩:=e;have HR:=Lib.hid hR;clear hR hm;have q1:IntKind.i64.wrap (m:Int)=m:=IntWalk.i64_in _ (by omega);have q2:0<=(m:Int):=by omega
   have q3:(m:Int)<l.length:=by omega
   have q4:(m:Int)+1<l.length:=by omega
   have q5:0<=(m:Int)+1:=by omega
   have q6:((m:Int)+1).toNat=m+1:=by omega
   go_upto_region 4 with fail;refine bZ (Since wr) (.run 10 0 0 (.done)) (by kernel_rfl) (bD (bR _)) (by kernel_rfl) (by kernel_rfl) (Nat.le_of_ble_eq_true (by kernel_rfl)) ?_;intro cO QR ak aC hS
   iterate 10
    apply bg;exact ak;exact rfl;exact hS;exact rfl
    · intro _ hqc;go_simp;try rfl
    try simp only [pu]
   refine bM ?_;refine aC.down _ _ ?_;have hB:Below wr.heap.size wr wr.drew:=hS;clear hS aC ak;have Bw:Below w.heap.size w wr.drew:=bT Hb.out hB;clear hB;by_cases hlt2:l[m]<l[m+1]
   ·go_wp2_with fail;go_roundw
    case rel => exact ⟨m+1,by go_num,.inr (by omega),Bw,fun j hj hjm=>if e:j<m then Hno.out j hj e else by
      have:j=m:=by omega
      subst this;exact hlt2⟩
    case measure => simp [intOf];omega
   ·have hf:=Lib.hid (aje l m hlt hlt2);go_wp2_with fail;go_ret;exact ⟨eP hf.out.symm,Bw⟩
  ·have hf:=Lib.hid (ajd l fun j hj=>Hno.out j hj (by omega));go_wp2_with fail;go_ret;exact ⟨eP hf.out.symm,Hb.out⟩
theorem ajf {α:Type} {a b:List α} (hl:a.length=b.length) (h:∀ j (hj:j<a.length),a[j]=b[j]):a=b :=
 List.ext_getElem hl fun j h1 _=>h j h1
theorem ajg {α:Type} {a b:List α} (j:Nat) (hj:j<a.length) (hj':j<b.length) (h:¬ a[j]=b[j]):¬ a=b:=by
 rintro rfl;exact h rfl
theorem Ar.ext_iff' {a b:Ar}:a=b↔a.id=b.id/\a.fr=b.fr/\a.dst=b.dst/\a.left=b.left/\a.right=b.right/\a.via=b.via:=by
 cases a;cases b;simp;intros;constructor<;>(rintro ⟨h1,h2,h3⟩;exact ⟨by assumption,by assumption,by assumption⟩)
theorem Gv {α:Type} (l:List α) (q:α->Bool) (k:Nat) (hk:k<l.length) (h:q l[k]=true):l.any q=true:=List.any_eq_true.2 ⟨l[k],List.getElem_mem hk,h⟩
theorem Gw {α:Type} (l:List α) (q:α->Bool) (h:∀ j (hj:j<l.length),q l[j]=false):l.any q=false:=by
 rw [List.any_eq_false];intro x hx;obtain ⟨i,hi,rfl⟩:=List.mem_iff_getElem.1 hx;simp [h i hi]
def jy (l:List Int) (n:Int):Bool:=l.any (fun x=>x == n) || n == 0
def nN (p:Pl):Bool:=p.ah.any (fun a=>decide (64<a.via.length)) || (decide (256<p.nodes.length) || decide (256<p.ah.length) || decide (64<p.faces.length))
def Wy (w:World) (b:Bool) (e:Ending) (w':World):Prop:=∃ r:Int,e=.returned (.int .i64 r)/\decide (0<=r)=b/\Below w.heap.size w w'
set_option maxHeartbeats 400000 in
theorem ajh (v:Value) (l:List Int) (x:Int) (w:World) (h:Ints w v l) :
  Calls Tryz.prog 78 #[v,.int .i64 x] w (Wy w (l.any fun y=>y == x)):=by
 obtain ⟨A,c,rfl,hn,hc,hR⟩:=h;unfold maxLen at hc;go_enter Tryz.func78,Tryz.ntmps78;go_wp2_with fail;go_loopw [8] (fun i wr=>∃ k:Nat,k<=l.length/\i=.int .i64 k/\Below w.heap.size w wr/\∀ j (hj:j<l.length),j<k->(fun y=>y == x) l[j]=false) (fun i _=>l.length-(intOf i).toNat)
 case atStart => exact ⟨0,Nat.zero_le _,rfl,bR w,fun j _ h=>by omega⟩
 case round =>
  obtain ⟨k,hk,rfl,hb,hno⟩:=hrel;have Hb:=Lib.hid hb;have Hno:=Lib.hid hno;clear hb hno;by_cases hlt:k<l.length
  ·obtain ⟨b,o,rfl,hlb,c0⟩:=(hR.mono Hb.out).int hlt;have HR:=Lib.hid hR;clear hR
   cases he:(l[k] == x)
   ·go_wp2_with fail;go_roundw
    case rel => exact ⟨k+1,by omega,by go_num,Hb.out,all_succ (p:=fun y=>(fun y=>y == x) y=false) Hno.out hlt he⟩
    case measure => simp [intOf];omega
   ·have hf:=Lib.hid (Gv l (fun y=>y == x) k hlt he);have he2:(x == l[k])=true:=by simpa using (beq_iff_eq.1 he).symm
    go_wp2_with fail;go_ret;exact ⟨k,rfl,by rw [hf.out];simp,Hb.out⟩
  ·have hf:=Lib.hid (Gw l (fun y=>y == x) (fun j hj=>Hno.out j hj (by omega)));go_wp2_with fail;go_ret;exact ⟨-1,rfl,by rw [hf.out];simp,Hb.out⟩
set_option maxHeartbeats 400000 in
theorem aji (v:Value) (l:List Int) (p:Int->Bool) (w:World) (h:Ints w v l)
  (hg:∀ y W,Calls Tryz.prog 221 #[(.int .i64 y)] W fun e w'=>e=.returned (.bool (p y))/\Below W.heap.size W w') :
  Calls Tryz.prog 257 #[v,.func (.func 221) #[] #[]] w (Wy w (l.any p)):=by
 obtain ⟨A,c,rfl,hn,hc,hR⟩:=h;unfold maxLen at hc;have HG:=Lib.hid hg;clear hg;go_enter Tryz.func257,Tryz.ntmps257;go_wp2_with fail;go_loopw [8] (fun i wr=>∃ k:Nat,k<=l.length/\i=.int .i64 k/\Below w.heap.size w wr/\∀ j (hj:j<l.length),j<k->(p) l[j]=false) (fun i _=>l.length-(intOf i).toNat)
 case atStart => exact ⟨0,Nat.zero_le _,rfl,bR w,fun j _ h=>by omega⟩
 case round =>
  obtain ⟨k,hk,rfl,hb,hno⟩:=hrel;have Hb:=Lib.hid hb;have Hno:=Lib.hid hno;clear hb hno;by_cases hlt:k<l.length
  ·obtain ⟨b,o,rfl,hlb,c0⟩:=(hR.mono Hb.out).int hlt;have HR:=Lib.hid hR;clear hR;go_wp2_with fail;refine (HG.out l[k] _).mono ?_;rintro e w1 ⟨rfl,hb1⟩;have Bw:Below w.heap.size w w1:=bT Hb.out hb1;clear hb1
   cases he:p l[k]
   ·go_wp2_with fail;go_roundw
    case rel => exact ⟨k+1,by omega,by go_num,Bw,all_succ (p:=fun y=>(p) y=false) Hno.out hlt he⟩
    case measure => simp [intOf];omega
   ·have hf:=Lib.hid (Gv l (p) k hlt he);go_wp2_with fail;go_ret;exact ⟨k,rfl,by rw [hf.out];simp,Bw⟩
  ·have hf:=Lib.hid (Gw l (p) (fun j hj=>Hno.out j hj (by omega)));go_wp2_with fail;go_ret;exact ⟨-1,rfl,by rw [hf.out];simp,Hb.out⟩
set_option maxHeartbeats 400000 in
theorem ajj (v:Value) (l:List Int) (p:Int->Bool) (w:World) (h:Ints w v l)
  (hg:∀ y W,Calls Tryz.prog 221 #[(.int .i64 y)] W fun e w'=>e=.returned (.bool (p y))/\Below W.heap.size W w') :
  Calls Tryz.prog 220 #[v,.func (.func 221) #[] #[]] w fun e w'=>e=.returned (.bool (l.any p))/\Below w.heap.size w w':=by
 have T:=aji v l p w h hg;have HT:=Lib.hid T;clear T hg h;go_enter Tryz.func220,Tryz.ntmps220;go_wp2_with fail;refine HT.out.mono ?_;rintro e w1 ⟨r,rfl,hr,hb1⟩;have Hr:=Lib.hid hr;clear hr;go_wp2_with fail;go_ret;exact ⟨eP Hr.out,hb1⟩
set_option maxHeartbeats 400000 in
theorem ajk (v:Value) (l:List Pt) (p:Pt->Bool) (w:World) (h:gG w v l)
  (hg:∀ y W,Calls Tryz.prog 222 #[(.agg #[.int .i64 y.x,.int .i64 y.y])] W fun e w'=>e=.returned (.bool (p y))/\Below W.heap.size W w') :
  Calls Tryz.prog 258 #[v,.func (.func 222) #[] #[]] w (Wy w (l.any p)):=by
 obtain ⟨A,c,rfl,hn,hc,hR⟩:=h;unfold maxLen at hc;have HG:=Lib.hid hg;clear hg;go_enter Tryz.func258,Tryz.ntmps258;go_wp2_with fail;go_loopw [8] (fun i wr=>∃ k:Nat,k<=l.length/\i=.int .i64 k/\Below w.heap.size w wr/\∀ j (hj:j<l.length),j<k->(p) l[j]=false) (fun i _=>l.length-(intOf i).toNat)
 case atStart => exact ⟨0,Nat.zero_le _,rfl,bR w,fun j _ h=>by omega⟩
 case round =>
  obtain ⟨k,hk,rfl,hb,hno⟩:=hrel;have Hb:=Lib.hid hb;have Hno:=Lib.hid hno;clear hb hno;by_cases hlt:k<l.length
  ·obtain ⟨b,o,rfl,hlb,c0,c1⟩:=(hR.mono Hb.out).pt hlt;have HR:=Lib.hid hR;clear hR;go_wp2_with fail;refine (HG.out l[k] _).mono ?_;rintro e w1 ⟨rfl,hb1⟩;have Bw:Below w.heap.size w w1:=bT Hb.out hb1;clear hb1
   cases he:p l[k]
   ·go_wp2_with fail;go_roundw
    case rel => exact ⟨k+1,by omega,by go_num,Bw,all_succ (p:=fun y=>(p) y=false) Hno.out hlt he⟩
    case measure => simp [intOf];omega
   ·have hf:=Lib.hid (Gv l (p) k hlt he);go_wp2_with fail;go_ret;exact ⟨k,rfl,by rw [hf.out];simp,Bw⟩
  ·have hf:=Lib.hid (Gw l (p) (fun j hj=>Hno.out j hj (by omega)));go_wp2_with fail;go_ret;exact ⟨-1,rfl,by rw [hf.out];simp,Hb.out⟩
set_option maxHeartbeats 400000 in
theorem ajl (v:Value) (l:List Pt) (p:Pt->Bool) (w:World) (h:gG w v l)
  (hg:∀ y W,Calls Tryz.prog 222 #[(.agg #[.int .i64 y.x,.int .i64 y.y])] W fun e w'=>e=.returned (.bool (p y))/\Below W.heap.size W w') :
  Calls Tryz.prog 223 #[v,.func (.func 222) #[] #[]] w fun e w'=>e=.returned (.bool (l.any p))/\Below w.heap.size w w':=by
 have T:=ajk v l p w h hg;have HT:=Lib.hid T;clear T hg h;go_enter Tryz.func223,Tryz.ntmps223;go_wp2_with fail;refine HT.out.mono ?_;rintro e w1 ⟨r,rfl,hr,hb1⟩;have Hr:=Lib.hid hr;clear hr;go_wp2_with fail;go_ret;exact ⟨eP Hr.out,hb1⟩
set_option maxHeartbeats 400000 in
theorem QS (v:Value) (l:List Int) (x:Int) (w:World) (h:Ints w v l) :
  Calls Tryz.prog 224 #[v,.int .i64 x] w fun e w'=>e=.returned (.bool (l.any (fun y=>y == x)))/\Below w.heap.size w w':=by
 have T:=ajh v l x w h;have HT:=Lib.hid T;clear T h;go_enter Tryz.func224,Tryz.ntmps224;go_wp2_with fail;refine HT.out.mono ?_;rintro e w1 ⟨r,rfl,hr,hb1⟩;have Hr:=Lib.hid hr;clear hr;go_wp2_with fail;go_ret;exact ⟨eP Hr.out,hb1⟩
def qK (n:Int):Bool:=decide (n<1) || decide (1073741824<n)
set_option maxHeartbeats 400000 in
theorem ajm (n:Int) (w:World):Calls Tryz.prog 221 #[.int .i64 n] w fun e w'=>e=.returned (.bool (qK n))/\Below w.heap.size w w':=by
 by_cases h:n<1
 ·go_enter Tryz.func221,Tryz.ntmps221;go_wp2_with fail;go_ret;exact ⟨eP (by simp [qK,h]),bR w⟩
 ·have h':decide (n<1)=false:=by simpa using h
  go_enter Tryz.func221,Tryz.ntmps221;go_wp2_with fail;go_ret;exact ⟨eP (by simp only [qK,h',Bool.false_or]),bR w⟩
set_option maxHeartbeats 400000 in
theorem WA (v:Value) (l:List Int) (w:World) (h:Ints w v l) :
  Calls Tryz.prog 170 #[v] w fun e w'=>e=.returned (.bool (!l.any qK))/\Below w.heap.size w w':=by
 have T:=ajj v l qK w h (fun y W=>ajm y W);have HT:=Lib.hid T;clear T h;go_enter Tryz.func170,Tryz.ntmps170;go_wp2_with fail;refine HT.out.mono ?_;rintro e w1 ⟨rfl,hb1⟩;go_wp2_with fail;go_ret;exact ⟨eP rfl,hb1⟩
def qL (p:Pt):Bool:=decide (-1048576<=p.x) && decide (p.x<=1048576) && decide (-1048576<=p.y) && decide (p.y<=1048576)
end Go.Proofs.YtialfdomhoojiaaGreat
