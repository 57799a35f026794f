import Derived.Test.YtialfdomhoojiaaGreatRegQ
set_option linter.unusedSimpArgs false
set_option linter.unusedVariables false
set_option maxHeartbeats 4000000
namespace Go.Proofs.YtialfdomhoojiaaGreat
open Go.RowKit
def Zu (n:Int):DataW Unit:=.lit (.int .i64 n)
def iiR:Value->Option (DataW Unit×List MemPlace)
 | .int .i64 n=>some (Zu n,[])
 | _=>none
theorem aoL {v:Value} {n:Int} {ps:List MemPlace} (h:iiR v=some (Zu n,ps)):v=.int .i64 n:=by
 unfold iiR at h;split at h
 ·simp only [Zu,JD,Prod.mk.injEq,DataW.lit.injEq,Lit.int.injEq,true_and] at h;rw [h.1]
 · cases h
def Gg (w:World) (b n:Nat) (f:Int->Int):Prop :=
 ∃ D:DataW Unit,w.ownsMap Tryz.prog 3 iiR b n D/\Maps.IsMap D/\∀ id,D.atKey (.int .i64 id) (Zu 0)=Zu (f id)
theorem Gg.kept {w w':World} {b n:Nat} {f:Int->Int} (h:Gg w b n f) {row:Option Nat} (hg:w.grownBy w' row) (hr:some b≠row):Gg w' b n f:=by
 obtain ⟨D,h1,h2⟩:=h;exact ⟨D,h1.kept hg hr,h2⟩
theorem Gg.keep {w w':World} {b n:Nat} {f:Int->Int} (h:Gg w b n f) (hb:AP w w'):Gg w' b n f :=
 h.kept (row:=none) ⟨hb.os,hb.tape,hb.output,hb.size,fun i hi _=>hb.block i hi⟩ Aw
theorem Gg.lt {w:World} {b n:Nat} {f:Int->Int} (h:Gg w b n f):b<w.heap.size:=by
 obtain ⟨D,h1,h2⟩:=h;exact h1.lt
theorem Gg.made (w:World):Gg (w.alloc (.map #[] 0)) w.heap.size 0 (fun _=>0) :=
 ⟨.map [],World.ownsMap_made _ _ _ _,⟨_,rfl⟩,fun _=>rfl⟩
theorem aoM (w:World):(zeroValue 3).run Tryz.prog w=.ok (.int .i64 0) w:=by kernel_rfl
theorem Gg.look {w:World} {b n:Nat} {f:Int->Int} (h:Gg w b n f) (id:Int) (hid:ES id) :
  (Instr.lookup 96 (.map (some b)) (.int .i64 id) false).run Tryz.prog w=.ok (.int .i64 (f id)) w:=by
 obtain ⟨D,h1,-,h2⟩:=h;obtain ⟨v,ps,hr,hv⟩:=h1.lookup Vo Tryz.underlying96 (aoM w) (zd:=Zu 0) (zp:=[]) rfl (Maps.keyOf_int_mk Tryz.underlying3 hid);rw [h2] at hv;rw [hr,aoL hv]
theorem Gg.upd {w:World} {b n:Nat} {f:Int->Int} (h:Gg w b n f) (hn:n<4294967296) (id:Int) (hid:ES id) (x:Int) :
  ∃ w',(Instr.mapUpdate 96 (.map (some b)) (.int .i64 id) (.int .i64 x)).run Tryz.prog w=.ok () w'/\Gg w' b (n+1) (fun i=>if i=id then x else f i)/\w.grownBy w' (some b):=by
 obtain ⟨D,h1,hm,h2⟩:=h;obtain ⟨w',hr,ho,hg⟩:=h1.update Vo Tryz.underlying96 tC (Maps.keyOf_int_mk Tryz.underlying3 hid) (val:=.int .i64 x) (d:=Zu x) (ps:=[]) rfl;refine ⟨w',hr,⟨_,ho,?_,fun i=>?_⟩,hg⟩
 · obtain ⟨es,rfl⟩:=hm;exact ⟨_,rfl⟩
 ·show _=Zu (if i=id then x else f i)
  by_cases e:i=id
  ·subst e;rw [AZ rfl];exact Maps.atKey_put_same hm (by trivial) _ _
  · rw [AX e,Maps.atKey_put_other (fun h=>e (by injection h)),h2]
def UR (b:Bool):DataW Unit:=.lit (.bool b)
def aAZ:Value->Option (DataW Unit×List MemPlace)
 | .bool b=>some (UR b,[])
 | _=>none
theorem agH {v:Value} {b:Bool} {ps:List MemPlace} (h:aAZ v=some (UR b,ps)):v=.bool b:=by
 unfold aAZ at h;split at h
 ·simp only [UR,JD,Prod.mk.injEq,DataW.lit.injEq,Lit.bool.injEq] at h;rw [h.1]
 · cases h
def La (w:World) (b n:Nat) (f:Int->Bool):Prop :=
 ∃ D:DataW Unit,w.ownsMap Tryz.prog 3 aAZ b n D/\Maps.IsMap D/\∀ id,D.atKey (.int .i64 id) (UR false)=UR (f id)
theorem La.kept {w w':World} {b n:Nat} {f:Int->Bool} (h:La w b n f) {row:Option Nat} (hg:w.grownBy w' row) (hr:some b≠row):La w' b n f:=by
 obtain ⟨D,h1,h2⟩:=h;exact ⟨D,h1.kept hg hr,h2⟩
theorem La.keep {w w':World} {b n:Nat} {f:Int->Bool} (h:La w b n f) (hb:AP w w'):La w' b n f :=
 h.kept (row:=none) ⟨hb.os,hb.tape,hb.output,hb.size,fun i hi _=>hb.block i hi⟩ Aw
theorem La.lt {w:World} {b n:Nat} {f:Int->Bool} (h:La w b n f):b<w.heap.size:=by
 obtain ⟨D,h1,h2⟩:=h;exact h1.lt
theorem La.made (w:World):La (w.alloc (.map #[] 0)) w.heap.size 0 (fun _=>false) :=
 ⟨.map [],World.ownsMap_made _ _ _ _,⟨_,rfl⟩,fun _=>rfl⟩
theorem agI (w:World):(zeroValue 4).run Tryz.prog w=.ok (.bool false) w:=by kernel_rfl
theorem La.look {w:World} {b n:Nat} {f:Int->Bool} (h:La w b n f) (id:Int) (hid:ES id) :
  (Instr.lookup 139 (.map (some b)) (.int .i64 id) false).run Tryz.prog w=.ok (.bool (f id)) w:=by
 obtain ⟨D,h1,-,h2⟩:=h;obtain ⟨v,ps,hr,hv⟩:=h1.lookup Vo Tryz.underlying139 (agI w) (zd:=UR false) (zp:=[]) rfl (Maps.keyOf_int_mk Tryz.underlying3 hid);rw [h2] at hv;rw [hr,agH hv]
theorem La.upd {w:World} {b n:Nat} {f:Int->Bool} (h:La w b n f) (hn:n<4294967296) (id:Int) (hid:ES id) (x:Bool) :
  ∃ w',(Instr.mapUpdate 139 (.map (some b)) (.int .i64 id) (.bool x)).run Tryz.prog w=.ok () w'/\La w' b (n+1) (fun i=>if i=id then x else f i)/\w.grownBy w' (some b):=by
 obtain ⟨D,h1,hm,h2⟩:=h;obtain ⟨w',hr,ho,hg⟩:=h1.update Vo Tryz.underlying139 tC (Maps.keyOf_int_mk Tryz.underlying3 hid) (val:=.bool x) (d:=UR x) (ps:=[]) rfl;refine ⟨w',hr,⟨_,ho,?_,fun i=>?_⟩,hg⟩
 · obtain ⟨es,rfl⟩:=hm;exact ⟨_,rfl⟩
 ·show _=UR (if i=id then x else f i)
  by_cases e:i=id
  ·subst e;rw [AZ rfl];exact Maps.atKey_put_same hm (by trivial) _ _
  · rw [AX e,Maps.atKey_put_other (fun h=>e (by injection h)),h2]
def JK (l:List Nd) (id:Int):Option Nd:=l.find? (fun n=>n.id == id)
def nd0:Nd:=⟨0,⟨0,0⟩⟩
def iU (r:Option Nd):Value:=.tuple #[uM (r.getD nd0),.bool r.isSome]
theorem ac4 (v:Value) (p:Pl) (id:Int) (w:World) (h:Cb w v p) :
  Calls Tryz.prog 74 #[v,.int .i64 id] w fun e w'=>e=.returned (iU (JK p.nodes id))/\AP w w':=by
 obtain ⟨_,va,vf,al,rfl,hpa,⟨An,cn,rfl,hn1,hn2,hR⟩,-,-⟩:=h;unfold maxLen at hn2;generalize p.nodes=l at *;clear hpa;go_enter Tryz.func74,Tryz.ntmps74;go_wp2_with fail;go_loopw [11] (fun i wr=>∃ k:Nat,k<=l.length/\i=.int .i64 k/\AP w wr/\AO wr (w.heap.size+1) 45 #[.int .i64 0,.int .i64 0,.int .i64 0]/\∀ j (hj:j<l.length),j<k->(l[j].id == id)=false) (fun i _=>l.length-(intOf i).toNat)
 case atStart => exact ⟨0,BZ _,rfl,bA (bA (bR w) _) _,AO.made Aw _ _,fun j _ h=>by omega⟩
 case round =>
  obtain ⟨k,hk,rfl,hb,X4,hno⟩:=hrel;have Hb:=AA hb;have Hno:=AA hno;clear hb hno;obtain ⟨Bh,Bl,CV,FB,Dl,Ey,Ia⟩:=X4.BF;by_cases hlt:k<l.length
  ·obtain ⟨b,o,rfl,hlb,c0,c1,c2⟩:=(hR.mono Hb.out).nd hlt;have HR:=AA hR;clear hR
   cases he:(l[k].id == id)
   ·go_wp2;go_roundw
    case rel => exact ⟨k+1,AB,BI,bA Hb.out _,X4.alloc _,all_succ (p:=fun x=>(x.id == id)=false) Hno.out hlt he⟩
    case measure => exact BK
   ·have hf:=uN l (fun n=>n.id == id) k hlt Hno.out he;have Hf:=AA hf;clear hf;go_wp2;have Bw:=Hb.out;refine LG (g:=w.heap.size+1) (cs:=#[.int .i64 l[k].id,.int .i64 l[k].pt.x,.int .i64 l[k].pt.y]) rfl aAs rfl rfl (AO.Zr X4 |>.alloc _) ⟨by rw [JK,Hf.out];rfl,?_⟩;exact Dk
  ·have hf:=aAq l (fun n=>n.id == id) (fun j hj=>Hno.out j hj AB);have Hf:=AA hf;clear hf;go_wp2;have Bw:=Hb.out;refine LG (g:=w.heap.size+1) (cs:=#[.int .i64 0,.int .i64 0,.int .i64 0]) rfl aAs rfl rfl (AO.Zr X4) ⟨by rw [JK,Hf.out];rfl,?_⟩;exact Dk
theorem agJ (v:Value) (p:Pl) (id:Int) (w:World) (h:Cb w v p) :
  Calls Tryz.prog 187 #[v,.int .i64 id] w fun e w'=>e=.returned (iU (JK p.nodes id))/\AP w w':=by
 obtain ⟨_,va,vf,al,rfl,hpa,⟨An,cn,rfl,hn1,hn2,hR⟩,-,-⟩:=h;unfold maxLen at hn2;generalize p.nodes=l at *;clear hpa;go_enter Tryz.func187,Tryz.ntmps187;go_wp2_with fail;go_loopw [6] (fun i wr=>∃ k:Nat,k<=l.length/\i=.int .i64 k/\AP w wr/\AO wr w.heap.size 26 #[.slice An l.length cn,va,vf]/\AO wr (w.heap.size+1) 45 #[.int .i64 0,.int .i64 0,.int .i64 0]/\∀ j (hj:j<l.length),j<k->(l[j].id == id)=false) (fun i _=>l.length-(intOf i).toNat)
 case atStart => exact ⟨0,BZ _,rfl,bA (bA (bR w) _) _,(AO.made rfl _ _).alloc _,AO.made Aw _ _,fun j _ h=>by omega⟩
 case round =>
  obtain ⟨k,hk,rfl,hb,X2,X4,hno⟩:=hrel;have Hb:=AA hb;have Hno:=AA hno;clear hb hno;obtain ⟨BQ,BR,BX,CZ,-,-,-⟩:=X2.BF;obtain ⟨Bh,Bl,CV,FB,Dl,Ey,Ia⟩:=X4.BF;by_cases hlt:k<l.length
  ·obtain ⟨b,o,rfl,hlb,c0,c1,c2⟩:=(hR.mono Hb.out).nd hlt;have HR:=AA hR;clear hR
   cases he:(l[k].id == id)
   ·go_wp2;go_roundw
    case rel => exact ⟨k+1,AB,BI,Hb.out,X2,X4,all_succ (p:=fun x=>(x.id == id)=false) Hno.out hlt he⟩
    case measure => exact BK
   ·have hf:=uN l (fun n=>n.id == id) k hlt Hno.out he;have Hf:=AA hf;clear hf;go_wp2;have Bw:=Hb.out;refine LG (g:=w.heap.size+1) (cs:=#[.int .i64 l[k].id,.int .i64 l[k].pt.x,.int .i64 l[k].pt.y]) rfl aAs rfl rfl (AO.Zr X4) ⟨by rw [JK,Hf.out];rfl,?_⟩;exact Dk
  ·have hf:=aAq l (fun n=>n.id == id) (fun j hj=>Hno.out j hj AB);have Hf:=AA hf;clear hf;go_wp2;have Bw:=Hb.out;refine LG (g:=w.heap.size+1) (cs:=#[.int .i64 0,.int .i64 0,.int .i64 0]) rfl aAs rfl rfl (AO.Zr X4) ⟨by rw [JK,Hf.out];rfl,?_⟩;exact Dk
def YD (w:World) (l:List Pt) (e:Ending) (w':World):Prop :=
 ∃ A c,e=.returned (.slice A l.length c)/\AP w w'/\Own w' w.heap.size 39 2 EX (.slice A l.length c) l
theorem agK (v:Value) (l:List Pt) (w:World) (h:Dq w v l) (hl:l.length<=1048576) :
  Calls Tryz.prog 114 #[v] w (YD w l):=by
 have H:=h;obtain ⟨A,c,rfl,hn,hc,hR⟩:=h;have hE:=Lib.run_eql_slice_nil (P:=Tryz.prog) (t:=46) (e:=39);rcases A with _ | ad
 ·have hl0:l=[]:=by
   rcases l with _ | ⟨a,l⟩
   · rfl
   ·obtain ⟨b,o,e,_⟩:=hR (by simp [EX])
    cases e
  subst hl0;clear hR H;simp only [Md] at hn ⊢;have hE1:∀ W:World,(binOp .eql 46 (.slice none 0 c) (.slice none 0 0)).run Tryz.prog W=.ok (.bool true) W:=fun W=>Lib.run_eql_slice_nil W _ 39 none _ c 0 0 Tryz.underlying46;clear hE;go_enter Tryz.func114,Tryz.ntmps114;go_wp2;go_ret;exact ⟨_,_,rfl,bR w,Own.nil _ _ _ _ _⟩
 ·have hE1:∀ W:World,(binOp .eql 46 (.slice (some ad) l.length c) (.slice none 0 0)).run Tryz.prog W=.ok (.bool false) W:=fun W=>Lib.run_eql_slice_nil W _ 39 (some ad) _ c 0 0 Tryz.underlying46;clear hE hR;have HH:=AA H;clear H;go_enter Tryz.func114,Tryz.ntmps114;go_wp2_with
   (at_builtin
    refine Ew _ rfl (.tmp 5) (.tmp 6) _ rfl (base:=w.heap.size) KR Jv KT rfl (Own.lit _ _ _ _ EX [] _ 0 _ rfl rfl (DT _) (D6 AB) rfl rfl) rfl (HH.out.mono (bA (bR w) _)) Xz Xz Aw ?_;intro v1 w1 hown hg hat)
  go_ret;obtain ⟨A1,c1,rfl,-⟩:=Own.sl hown;simp only [QD] at hown ⊢;exact ⟨A1,c1,rfl,bG (bA (bR w) _) hg (fun k hk=>by have:w.heap.size=k:=Dc hk;omega),hown⟩
def findAr (l:List Ar) (id:Int):Option Ar:=l.find? (fun a=>a.id == id)
def Jh:Ar:=⟨0,0,0,[],0,0⟩
def nK (w:World) (r:Option Ar) (e:Ending) (w':World):Prop :=
 ∃ v',e=.returned (.tuple #[YF (r.getD Jh) v',.bool r.isSome])/\AP w w'/\Dq w' v' (r.getD Jh).via
def Short (p:Pl):Prop:=∀ a∈p.AU,a.via.length<=1048576
theorem Sl.nil (w:World):Sl w (.slice none 0 0) 0 []:=⟨none,0,rfl,DT _,D6 AB,Row.nil⟩
theorem aAa (al:List (Ar×Value)) (id:Int) (k:Nat) (hk:k<al.length) (h:∀ j (hj:j<al.length),j<k->(al[j].1.id == id)=false) (he:(al[k].1.id == id)=true) :
  findAr (al.map (·.1)) id=some al[k].1:=by
 have:=uN al (fun a=>a.1.id == id) k hk h he
 rw [findAr,List.find?_map]
 show (al.find? (fun a=>a.1.id == id)).map _=_
 rw [this];rfl
theorem aAb (al:List (Ar×Value)) (id:Int) (h:∀ j (hj:j<al.length),(al[j].1.id == id)=false):findAr (al.map (·.1)) id=none:=by
 have:=aAq al (fun a=>a.1.id == id) h
 rw [findAr,List.find?_map]
 show (al.find? (fun a=>a.1.id == id)).map _=_
 rw [this];rfl
theorem aoN (v:Value) (p:Pl) (id:Int) (w:World) (h:Cb w v p) (hsh:Short p) :
  Calls Tryz.prog 73 #[v,.int .i64 id] w (nK w (findAr p.AU id)):=by
 obtain ⟨vn,_,vf,al,rfl,hpa,-,⟨⟨An,cn,rfl,hn1,hn2,hR⟩,hV⟩,-⟩:=h;unfold maxLen at hn2;unfold Short at hsh;rw [hpa] at hsh ⊢;clear hpa;have hsh':∀ k (hk:k<al.length),al[k].1.via.length<=1048576:=fun k hk=>hsh _ (Gs (BH hk));have HV:=AA hV;clear hV hsh;have DL:=AA hsh';clear hsh';go_enter Tryz.func73,Tryz.ntmps73;go_wp2_with fail;go_loopw [11] (fun i wr=>∃ k:Nat,k<=al.length/\i=.int .i64 k/\AP w wr/\AO wr (w.heap.size+1) 50 #[.int .i64 0,.int .i64 0,.int .i64 0,.slice none 0 0,.int .i64 0,.int .i64 0]/\∀ j (hj:j<al.length),j<k->(al[j].1.id == id)=false) (fun i _=>al.length-(intOf i).toNat)
 case atStart => exact ⟨0,BZ _,rfl,bA (bA (bR w) _) _,AO.made Aw _ _,fun j _ h=>by omega⟩
 case round =>
  obtain ⟨k,hk,rfl,hb,X4,hno⟩:=hrel;have Hb:=AA hb;have Hno:=AA hno;clear hb hno;obtain ⟨Bh,Bl,CV,FB,JV,Jy,Jz,Dl,Ey,Ia,OD,Pq,PG⟩:=X4.IU;by_cases hlt:k<al.length
  ·obtain ⟨b,o,rfl,hlb,c0,c1,c2,c3,c4,c5⟩:=(hR.mono Hb.out).ar hlt;have HR:=AA hR;clear hR;have hvk:=(HV.out k hlt);obtain ⟨Av,cv,hv,-⟩:=hvk;have hvk:=(HV.out k hlt);rw [hv] at c3 hvk;generalize hvl:al[k].1.via.length=vl at *;have uX:=AA hvl;have Qp:=AA hvk;clear hvk hv hvl
   cases he:(al[k].1.id == id)
   ·go_wp2;go_roundw
    case rel => exact ⟨k+1,AB,BI,bA Hb.out _,X4.alloc _,all_succ (p:=fun x=>(x.1.id == id)=false) Hno.out hlt he⟩
    case measure => exact BK
   ·have hf:=aAa al id k hlt Hno.out he;have Hf:=AA hf;clear hf;go_wp2_with fail;refine (agK _ _ _ (Qp.out.mono (bA Hb.out _)) (DL.out k hlt)).mono ?_;rintro e w1 ⟨A1,JW,rfl,hb1,hown⟩;have Bw:AP w w1:=bT (bA Hb.out _) hb1;have X7:AO w1 wr.heap.size 50 #[.int .i64 al[k].1.id,.int .i64 al[k].1.fr,.int .i64 al[k].1.dst,.slice Av vl cv,.int .i64 al[k].1.left,.int .i64 al[k].1.right]:=(AO.made rfl _ _).keep hb1;have hw8:w.heap.size+1<wr.heap.size:=by omega
    have hw7:w.heap.size+1≠wr.heap.size:=by omega
    replace X4:=(X4.alloc _).keep hb1;have hown':=hown.Du (b':=wr.heap.size+1) Aw;have hP:=Own.sl hown;have Ef:=AA hown';clear hb1 c0 c1 c2 c3 c4 c5 hlb hown hown' hP
    try clear Bh Bl CV FB JV Jy Jz
    try clear Dl Ey Ia OD Pq PG
    obtain ⟨Bh,Bl,CV,FB,JV,Jy,Jz,Dl,Ey,Ia,OD,Pq,PG⟩:=X4.IU;obtain ⟨EK,EL,FN,nM,X7d,X7e,X7f,YA,YC,ac5,ac6,ac7,ac8⟩:=X7.IU;go_wp2_with fail;have nN:=Hb.out.size;have UU:(Value.slice A1 al[k].1.via.length JW).ownBlock≠some wr.heap.size:=fun e=>by have:=(Ef.out.lt _ e).1;omega
    have Jm:(Value.slice A1 al[k].1.via.length JW).ownBlock≠some (w.heap.size+1):=fun e=>by have:=(Ef.out.lt _ e).1;omega
    have HP:=Own.sl (((((((Ef.out.far (p:=⟨wr.heap.size,3,none⟩) UU (.slice A1 al[k].1.via.length JW)).far (p:=⟨w.heap.size+1,0,none⟩) Jm (.int .i64 al[k].1.id)).far (p:=⟨w.heap.size+1,1,none⟩) Jm (.int .i64 al[k].1.fr)).far (p:=⟨w.heap.size+1,2,none⟩) Jm (.int .i64 al[k].1.dst)).far (p:=⟨w.heap.size+1,3,none⟩) Jm (.slice A1 al[k].1.via.length JW)).far (p:=⟨w.heap.size+1,4,none⟩) Jm (.int .i64 al[k].1.left)).far (p:=⟨w.heap.size+1,5,none⟩) Jm (.int .i64 al[k].1.right));refine LG (g:=w.heap.size+1) (cs:=#[.int .i64 al[k].1.id,.int .i64 al[k].1.fr,.int .i64 al[k].1.dst,.slice A1 al[k].1.via.length JW,.int .i64 al[k].1.left,.int .i64 al[k].1.right]) rfl SC rfl rfl (AO.SB (X4.far (p:=⟨wr.heap.size,3,none⟩) hw7 _)) ⟨.slice A1 al[k].1.via.length JW,Ws,?_,by rw [Hf.out];exact HP⟩;exact Dk
  ·have hf:=aAb al id (fun j hj=>Hno.out j hj AB);have Hf:=AA hf;clear hf;go_wp2;have Bw:=Hb.out;refine LG (g:=w.heap.size+1) (cs:=#[.int .i64 0,.int .i64 0,.int .i64 0,.slice none 0 0,.int .i64 0,.int .i64 0]) rfl SC rfl rfl (AO.SB X4) ⟨.slice none 0 0,Ws,?_,by rw [Hf.out];exact Sl.nil _⟩;exact Dk
theorem aoO (v:Value) (p:Pl) (id:Int) (w:World) (h:Cb w v p) (hsh:Short p) :
  Calls Tryz.prog 99 #[v,.int .i64 id] w (nK w (findAr p.AU id)):=by
 obtain ⟨vn,_,vf,al,rfl,hpa,-,⟨⟨An,cn,rfl,hn1,hn2,hR⟩,hV⟩,-⟩:=h;unfold maxLen at hn2;unfold Short at hsh;rw [hpa] at hsh ⊢;clear hpa;have hsh':∀ k (hk:k<al.length),al[k].1.via.length<=1048576:=fun k hk=>hsh _ (Gs (BH hk));have HV:=AA hV;clear hV hsh;have DL:=AA hsh';clear hsh';go_enter Tryz.func99,Tryz.ntmps99;go_wp2_with fail;go_loopw [6] (fun i wr=>∃ k:Nat,k<=al.length/\i=.int .i64 k/\AP w wr/\AO wr w.heap.size 26 #[vn,.slice An al.length cn,vf]/\AO wr (w.heap.size+1) 50 #[.int .i64 0,.int .i64 0,.int .i64 0,.slice none 0 0,.int .i64 0,.int .i64 0]/\∀ j (hj:j<al.length),j<k->(al[j].1.id == id)=false) (fun i _=>al.length-(intOf i).toNat)
 case atStart => exact ⟨0,BZ _,rfl,bA (bA (bR w) _) _,(AO.made rfl _ _).alloc _,AO.made Aw _ _,fun j _ h=>by omega⟩
 case round =>
  obtain ⟨k,hk,rfl,hb,X2,X4,hno⟩:=hrel;have Hb:=AA hb;have Hno:=AA hno;clear hb hno;obtain ⟨BQ,BR,BX,CZ,-,-,-⟩:=X2.BF;obtain ⟨Bh,Bl,CV,FB,JV,Jy,Jz,Dl,Ey,Ia,OD,Pq,PG⟩:=X4.IU;by_cases hlt:k<al.length
  ·obtain ⟨b,o,rfl,hlb,c0,c1,c2,c3,c4,c5⟩:=(hR.mono Hb.out).ar hlt;have HR:=AA hR;clear hR;have hvk:=(HV.out k hlt);obtain ⟨Av,cv,hv,-⟩:=hvk;have hvk:=(HV.out k hlt);rw [hv] at c3 hvk;have Qp:=AA hvk;clear hvk hv
   cases he:(al[k].1.id == id)
   ·go_wp2;go_roundw
    case rel => exact ⟨k+1,AB,BI,Hb.out,X2,X4,all_succ (p:=fun x=>(x.1.id == id)=false) Hno.out hlt he⟩
    case measure => exact BK
   ·have hf:=aAa al id k hlt Hno.out he;have Hf:=AA hf;clear hf;have hsv:=DL.out k hlt;go_wp2_with
     (at_builtin
      refine Ew _ rfl (.tmp 28) (.tmp 30) _ rfl (base:=wr.heap.size+1) KR Jv KT rfl (Own.lit _ _ _ _ EX [] _ 0 _ Aw rfl Aw (D6 AB) rfl rfl) rfl (Qp.out.mono (bA (bA Hb.out _) _)) Xz Xz Aw ?_;intro v1 w1 hown hg hat;have hb1:Below (wr.alloc (.cells #[.int .i64 al[k].1.id,.int .i64 al[k].1.fr,.int .i64 al[k].1.dst,.slice Av al[k].1.via.length cv,.int .i64 al[k].1.left,.int .i64 al[k].1.right] 50)).heap.size (wr.alloc (.cells #[.int .i64 al[k].1.id,.int .i64 al[k].1.fr,.int .i64 al[k].1.dst,.slice Av al[k].1.via.length cv,.int .i64 al[k].1.left,.int .i64 al[k].1.right] 50)) w1:=bG (bA (bR _) _) hg (fun g hk=>by have:wr.heap.size+1=g:=Dc hk;simp;omega);simp only [QD] at hown;obtain ⟨A1,JW,rfl,-⟩:=Own.sl hown;have Ef:=AA hown;have Bw:AP w w1:=bT (bA Hb.out _) hb1;have X7:AO w1 wr.heap.size 50 #[.int .i64 al[k].1.id,.int .i64 al[k].1.fr,.int .i64 al[k].1.dst,.slice Av al[k].1.via.length cv,.int .i64 al[k].1.left,.int .i64 al[k].1.right]:=(AO.made rfl _ _).keep hb1;have hw8:w.heap.size+1<wr.heap.size:=by omega
      have hw7:w.heap.size+1≠wr.heap.size:=by omega
      replace X4:=(X4.alloc _).keep hb1;clear hb1 c0 c1 c2 c3 c4 c5 hlb hown hg hat
      try clear Bh Bl CV FB JV Jy Jz
      try clear Dl Ey Ia OD Pq PG
      obtain ⟨Bh,Bl,CV,FB,JV,Jy,Jz,Dl,Ey,Ia,OD,Pq,PG⟩:=X4.IU;obtain ⟨EK,EL,FN,nM,X7d,X7e,X7f,YA,YC,ac5,ac6,ac7,ac8⟩:=X7.IU
      )
    have nN:=Hb.out.size;have UU:(Value.slice A1 al[k].1.via.length JW).ownBlock≠some wr.heap.size:=fun e=>by have:=(Ef.out.lt _ e).1;omega
    have Jm:(Value.slice A1 al[k].1.via.length JW).ownBlock≠some (w.heap.size+1):=fun e=>by have:=(Ef.out.lt _ e).1;omega
    have HP:=Own.sl (((((((Ef.out.far (p:=⟨wr.heap.size,3,none⟩) UU (.slice A1 al[k].1.via.length JW)).far (p:=⟨w.heap.size+1,0,none⟩) Jm (.int .i64 al[k].1.id)).far (p:=⟨w.heap.size+1,1,none⟩) Jm (.int .i64 al[k].1.fr)).far (p:=⟨w.heap.size+1,2,none⟩) Jm (.int .i64 al[k].1.dst)).far (p:=⟨w.heap.size+1,3,none⟩) Jm (.slice A1 al[k].1.via.length JW)).far (p:=⟨w.heap.size+1,4,none⟩) Jm (.int .i64 al[k].1.left)).far (p:=⟨w.heap.size+1,5,none⟩) Jm (.int .i64 al[k].1.right));refine LG (g:=w.heap.size+1) (cs:=#[.int .i64 al[k].1.id,.int .i64 al[k].1.fr,.int .i64 al[k].1.dst,.slice A1 al[k].1.via.length JW,.int .i64 al[k].1.left,.int .i64 al[k].1.right]) rfl SC rfl rfl (AO.SB (X4.far (p:=⟨wr.heap.size,3,none⟩) hw7 _)) ⟨.slice A1 al[k].1.via.length JW,Ws,?_,by rw [Hf.out];exact HP⟩;exact Dk
  ·have hf:=aAb al id (fun j hj=>Hno.out j hj AB);have Hf:=AA hf;clear hf;go_wp2;have Bw:=Hb.out;refine LG (g:=w.heap.size+1) (cs:=#[.int .i64 0,.int .i64 0,.int .i64 0,.slice none 0 0,.int .i64 0,.int .i64 0]) rfl SC rfl rfl (AO.SB X4) ⟨.slice none 0 0,Ws,?_,by rw [Hf.out];exact Sl.nil _⟩;exact Dk
def Na (l:List Ar) (id:Int):Int:=(l.map fun a=>(if a.fr=id then (1:Int) else 0)+(if a.dst=id then 1 else 0)).sum
theorem agL (l:List Ar) (id:Int):0<=Na l id/\Na l id<=2*l.length:=by
 unfold Na
 induction l with
 | nil=>simp
 | cons a l ih =>
  simp only [Ez,I8,I9];split<;>split<;>omega
theorem agM (al:List (Ar×Value)) (id:Int) (k:Nat) (hk:k<al.length) :
  Na ((al.take (k+1)).map (·.1)) id=Na ((al.take k).map (·.1)) id+((if al[k].1.fr=id then (1:Int) else 0)+(if al[k].1.dst=id then 1 else 0)):=by
 unfold Na;rw [En hk];simp only [GL,OA,Ez,QE,I8,Xt];omega
theorem aoP (v:Value) (p:Pl) (id:Int) (w:World) (h:Cb w v p) (hl:p.AU.length<=1099511627776) :
  Calls Tryz.prog 35 #[v,.int .i64 id] w fun e w'=>e=.returned (.int .i64 (Na p.AU id))/\AP w w':=by
 obtain ⟨vn,_,vf,al,rfl,hpa,-,⟨⟨An,cn,rfl,hn1,hn2,hR⟩,hV⟩,-⟩:=h;unfold maxLen at hn2;rw [hpa] at hl ⊢;rw [Cm] at hl;clear hpa;have HV:=AA hV;clear hV;go_enter Tryz.func35,Tryz.ntmps35;go_wp2_with fail;go_loopw [4,10] (fun n i wr=>∃ k:Nat,k<=al.length/\i=.int .i64 k/\n=.int .i64 (Na ((al.take k).map (·.1)) id)/\AP w wr) (fun _ i _=>al.length-(intOf i).toNat)
 case atStart => exact ⟨0,BZ _,rfl,rfl,bA (bR w) _⟩
 case round =>
  obtain ⟨k,hk,rfl,rfl,hb⟩:=hrel;have Hb:=AA hb;clear hb;have hd:=agL ((al.take k).map (·.1)) id;have hl2:((al.take k).map (·.1)).length<=al.length:=by simp;omega
  by_cases hlt:k<al.length
  ·obtain ⟨b,o,rfl,hlb,c0,c1,c2,c3,c4,c5⟩:=(hR.mono Hb.out).ar hlt;have HR:=AA hR;clear hR;obtain ⟨Av,cv,hv,-⟩:=(HV.out k hlt);rw [hv] at c3;clear hv;have Hs:=AA (agM al id k hlt);generalize Na ((al.take k).map (·.1)) id=d at *;go_wp2
   all_goals
    go_roundw
    case rel => exact ⟨k+1,AB,BI,by rw [Hs.out];simp_all<;>go_num,bA Hb.out _⟩
    case measure => exact BK
  ·have hE:(al.take k).map (·.1)=al.map (·.1):=by rw [Hw AB]
   rw [hE];go_wp2;go_ret;exact ⟨DU rfl,Hb.out⟩
theorem aoQ (v:Value) (p:Pl) (id:Int) (w:World) (h:Cb w v p) (hl:p.AU.length<=1099511627776) :
  Calls Tryz.prog 134 #[v,.int .i64 id] w fun e w'=>e=.returned (.int .i64 (Na p.AU id))/\AP w w':=by
 obtain ⟨vn,_,vf,al,rfl,hpa,-,⟨⟨An,cn,rfl,hn1,hn2,hR⟩,hV⟩,-⟩:=h;unfold maxLen at hn2;rw [hpa] at hl ⊢;rw [Cm] at hl;clear hpa hV;go_enter Tryz.func134,Tryz.ntmps134;go_wp2_with fail;go_loopw [5,6] (fun n i wr=>∃ k:Nat,k<=al.length/\i=.int .i64 k/\n=.int .i64 (Na ((al.take k).map (·.1)) id)/\AP w wr/\AO wr w.heap.size 26 #[vn,.slice An al.length cn,vf]) (fun _ i _=>al.length-(intOf i).toNat)
 case atStart => exact ⟨0,BZ _,rfl,rfl,bA (bR w) _,AO.made rfl _ _⟩
 case round =>
  obtain ⟨k,hk,rfl,rfl,hb,X2⟩:=hrel;have Hb:=AA hb;clear hb;obtain ⟨BQ,BR,BX,CZ,-,-,-⟩:=X2.BF;have hd:=agL ((al.take k).map (·.1)) id;have hl2:((al.take k).map (·.1)).length<=al.length:=by simp;omega
  by_cases hlt:k<al.length
  ·obtain ⟨b,o,rfl,hlb,c0,c1,c2,-,c4,c5⟩:=(hR.mono Hb.out).ar hlt;have HR:=AA hR;clear hR;have Hs:=AA (agM al id k hlt);generalize Na ((al.take k).map (·.1)) id=d at *;go_wp2
   all_goals
    go_roundw
    case rel => exact ⟨k+1,AB,BI,by rw [Hs.out];simp_all<;>go_num,Hb.out,X2⟩
    case measure => exact BK
  ·have hE:(al.take k).map (·.1)=al.map (·.1):=by rw [Hw AB]
   rw [hE];go_wp2;go_ret;exact ⟨DU rfl,Hb.out⟩
def PI (l:List Int):Bool:=(List.range (l.length-1)).all fun j=>decide (l.getD j 0<l.getD (j+1) 0)
theorem agN (l:List Int) (h:∀ j (hj:j+1<l.length),l[j]<l[j+1]):PI l=true:=by
 unfold PI;rw [JF];intro j hj;have hj':j+1<l.length:=by have:=F5.1 hj;omega
 have:=h j hj'
 simp [List.getD,DK hj',DK (show j<l.length by omega),this]
theorem agO (l:List Int) (j:Nat) (hj:j+1<l.length) (h:¬ l[j]<l[j+1]):PI l=false:=by
 unfold PI;rw [Y3];refine ⟨j,F5.2 AB,?_⟩;simp [List.getD,DK hj,DK (show j<l.length by omega)];omega
theorem ac9 (v:Value) (l:List Int) (w:World) (h:Ints w v l) :
  Calls Tryz.prog 169 #[v] w fun e w'=>e=.returned (.bool (PI l))/\AP w w':=by
 obtain ⟨A,c,rfl,hn,hc,hR⟩:=h;unfold maxLen at hc;go_enter Tryz.func169,Tryz.ntmps169;go_wp2_with fail;go_loopw [3] (fun i wr=>∃ m:Nat,i=.int .i64 ((m:Int)+1)/\(m=0\/m+1<=l.length)/\AP w wr/\∀ j (hj:j+1<l.length),j<m->l[j]<l[j+1]) (fun i _=>l.length+1-(intOf i).toNat)
 case atStart => exact ⟨0,rfl,.inl rfl,bR w,fun j _ h=>by omega⟩
 case round =>
  obtain ⟨m,rfl,hm,hb,hno⟩:=hrel;have Hb:=AA hb;have Hno:=AA hno;clear hb hno;by_cases hlt:m+1<l.length
  ·obtain ⟨b,o,rfl,hlb,c1⟩:=(hR.mono Hb.out).int hlt;obtain ⟨b',o',e,Rz,c0⟩:=(hR.mono Hb.out).int (show m<l.length by omega);simp only [JD,Addr.mk.injEq,and_true] at e;obtain ⟨rfl,rfl⟩:=e;have HR:=AA hR;clear hR hm;have q1:IntKind.i64.wrap (m:Int)=m:=Ci _ AB;have q2:0<=(m:Int):=by omega
   have q3:(m:Int)<l.length:=by omega
   have q4:(m:Int)+1<l.length:=by omega
   have q5:0<=(m:Int)+1:=by omega
   have q6:((m:Int)+1).toNat=m+1:=by omega
   go_upto_region 4 with fail;refine Cj (wr) (.run 10 0 0 (.done)) fun Bv QR Ae Ah hS=>?_
   iterate 10 refine Aj ?_
   refine Ce ?_;clear hS Ah Ae;intro hB;have Bw:AP w wr.drew:=bT Hb.out hB;clear hB;by_cases hlt2:l[m]<l[m+1]
   ·go_wp2;go_roundw
    case rel => exact ⟨m+1,BI,.inr AB,Bw,fun j hj hjm=>if e:j<m then Hno.out j hj e else by
      have:j=m:=by omega
      subst this;exact hlt2⟩
    case measure => exact BK
   ·have hf:=AA (agO l m hlt hlt2);go_wp2;go_ret;exact ⟨C9 hf.out.symm,Bw⟩
  ·have hf:=AA (agN l fun j hj=>Hno.out j hj AB);go_wp2;go_ret;exact ⟨C9 hf.out.symm,Hb.out⟩
theorem agP {α:Type} {a b:List α} (hl:a.length=b.length) (h:∀ j (hj:j<a.length),a[j]=b[j]):a=b :=
 U6 hl fun j h1 _=>h j h1
theorem agQ {α:Type} {a b:List α} (j:Nat) (hj:j<a.length) (hj':j<b.length) (h:¬ a[j]=b[j]):¬ a=b:=by
 rintro rfl;exact h rfl
theorem aoR (v u:Value) (l m:List Pt) (w:World) (h:Dq w v l) (h':Dq w u m) :
  Calls Tryz.prog 93 #[v,u] w fun e w'=>e=.returned (.bool (decide (l=m)))/\AP w w':=by
 obtain ⟨A,c,rfl,hn,hc,hR⟩:=h;obtain ⟨A',c',rfl,hn',hc',hR'⟩:=h';unfold maxLen at hc hc';by_cases hlen:l.length=m.length
 case neg =>
  have hf:=AA (G8 (fun e:l=m=>hlen (congrArg List.length e)));have hl1:((l.length:Int) != (m.length:Int))=true:=by rw [bne_iff_ne];omega
  have hl2:(l.length != m.length)=true:=by rw [bne_iff_ne];omega
  clear hlen;go_enter Tryz.func93,Tryz.ntmps93;go_wp2;go_ret;exact ⟨C9 hf.out.symm,bR w⟩
 case pos =>
 have hl1:((l.length:Int) != (m.length:Int))=false:=by simp [hlen]
 have hl2:(l.length != m.length)=false:=by simp [hlen]
 have Hlen:=AA hlen;clear hlen;go_enter Tryz.func93,Tryz.ntmps93;go_wp2_with fail;go_loopw [5] (fun i wr=>∃ k:Nat,k<=l.length/\i=.int .i64 k/\AP w wr/\∀ j (hj:j<l.length) (hj':j<m.length),j<k->l[j]=m[j]) (fun i _=>l.length-(intOf i).toNat)
 case atStart => exact ⟨0,BZ _,rfl,bR w,fun j _ _ h=>by omega⟩
 case round =>
  obtain ⟨k,hk,rfl,hb,hno⟩:=hrel;have Hb:=AA hb;have Hno:=AA hno;clear hb hno hl1 hl2;by_cases hlt:k<l.length
  ·have hlt':k<m.length:=by have:=Hlen.out;omega
   obtain ⟨b,o,rfl,hlb,c0,c1⟩:=(hR.mono Hb.out).pt hlt;obtain ⟨b',o',rfl,Rz,c0q,c1q⟩:=(hR'.mono Hb.out).pt hlt';have HR:=AA hR;have HR':=AA hR';clear hR hR';have q1:0<=(k:Int):=by omega
   have q2:(k:Int)<l.length:=by omega
   have q3:(k:Int)<m.length:=by omega
   by_cases he:l[k]=m[k]
   ·have hd:decide (l[k]=m[k])=true:=by simpa using he
    have He:=AA he;clear he;have hE:=aAt l[k] m[k];go_upto_region 6 with fail;refine Cj (wr) (.run 9 0 0 (.done)) fun Bv QR Ae Ah hS=>?_
    iterate 9 refine Aj ?_
    refine Ce ?_;clear hS Ah Ae;intro hB;have Bw:AP w wr.drew:=bT Hb.out hB;clear hB;go_wp2;go_roundw
    case rel => exact ⟨k+1,AB,BI,Bw,fun j hj hj' hjk=>if e:j<k then Hno.out j hj hj' e else by
      have:j=k:=by omega
      subst this;exact He.out⟩
    case measure => exact BK
   ·have hd:decide (l[k]=m[k])=false:=by simpa using he
    have He:=AA he;clear he;have hE:=aAt l[k] m[k];go_upto_region 6 with fail;refine Cj (wr) (.run 9 0 0 (.done)) fun Bv QR Ae Ah hS=>?_
    iterate 9 refine Aj ?_
    refine Ce ?_;clear hS Ah Ae;intro hB;have Bw:AP w wr.drew:=bT Hb.out hB;clear hB;go_wp2;go_ret;exact ⟨C9 (G8 (agQ k hlt hlt' He.out)).symm,Bw⟩
  ·have hf:=AA (JE (agP Hlen.out fun j hj=>Hno.out j hj (by have:=Hlen.out;omega) AB));go_wp2;go_ret;exact ⟨C9 hf.out.symm,Hb.out⟩
theorem Ar.ext_iff' {a b:Ar}:a=b↔a.id=b.id/\a.fr=b.fr/\a.dst=b.dst/\a.left=b.left/\a.right=b.right/\a.via=b.via:=by
 cases a;cases b;simp;intros;constructor<;>(rintro ⟨h1,h2,h3⟩;exact ⟨KP,KP,KP⟩)
theorem azD (a b:Ar) (va vb:Value) (w:World) (ha:Dq w va a.via) (hb:Dq w vb b.via) :
  Calls Tryz.prog 68 #[YF a va,YF b vb] w fun e w'=>e=.returned (.bool (decide (a=b)))/\AP w w':=by
 have TP:∀ W,AP w W->Calls Tryz.prog 93 #[va,vb] W _:=fun W hW=>aoR va vb a.via b.via W (ha.mono hW) (hb.mono hW);obtain ⟨A,c,rfl,-⟩:=ha;obtain ⟨A',c',rfl,-⟩:=hb;have HP:=AA TP;clear TP;generalize hl:a.via.length=l at *;generalize hl':b.via.length=l' at *;have hx:=@Ar.ext_iff' a b;have Hx:=AA hx;clear hx hl hl';unfold YF
 cases hid:(a.id == b.id)
 case false =>
  have hf:=AA (G8 (fun e:a=b=>by have:=(Hx.out.1 e);simp_all):decide (a=b)=false);go_enter Tryz.func68,Tryz.ntmps68;go_wp2;go_ret;refine ⟨C9 hf.out.symm,?_⟩;exact Dk
 case true =>
 cases hfr:(a.fr == b.fr)
 case false =>
  have hf:=AA (G8 (fun e:a=b=>by have:=(Hx.out.1 e);simp_all):decide (a=b)=false);go_enter Tryz.func68,Tryz.ntmps68;go_wp2;go_ret;refine ⟨C9 hf.out.symm,?_⟩;exact Dk
 case true =>
 cases hto:(a.dst == b.dst)
 case false =>
  have hf:=AA (G8 (fun e:a=b=>by have:=(Hx.out.1 e);simp_all):decide (a=b)=false);go_enter Tryz.func68,Tryz.ntmps68;go_wp2;go_ret;refine ⟨C9 hf.out.symm,?_⟩;exact Dk
 case true =>
 cases hleft:(a.left == b.left)
 case false =>
  have hf:=AA (G8 (fun e:a=b=>by have:=(Hx.out.1 e);simp_all):decide (a=b)=false);go_enter Tryz.func68,Tryz.ntmps68;go_wp2;go_ret;refine ⟨C9 hf.out.symm,?_⟩;exact Dk
 case true =>
 cases hright:(a.right == b.right)
 case false =>
  have hf:=AA (G8 (fun e:a=b=>by have:=(Hx.out.1 e);simp_all):decide (a=b)=false);go_enter Tryz.func68,Tryz.ntmps68;go_wp2;go_ret;refine ⟨C9 hf.out.symm,?_⟩;exact Dk
 case true =>
 cases hv:decide (a.via=b.via)
 all_goals
  have hf:decide (a=b)=decide (a.via=b.via):=by
   rw [LX,decide_eq_true_iff,decide_eq_true_iff,Hx.out];simp only [beq_iff_eq] at *;constructor
   · intro h;exact h.2.2.2.2.2
   · intro h;exact ⟨KP,KP,KP,KP,KP,h⟩
  rw [hv] at hf;have Hf:=AA hf;clear hf;go_enter Tryz.func68,Tryz.ntmps68;go_wp2_with fail;refine (HP.out _ (bA (bA (bR w) _) _)).mono ?_;rintro e w1 ⟨rfl,hb1⟩;rw [hv];go_wp2;go_ret;exact ⟨C9 Hf.out.symm,bT (bA (bA (bR w) _) _) hb1⟩
theorem Ri {α:Type} (l:List α) (q:α->Bool) (k:Nat) (hk:k<l.length) (h:q l[k]=true):l.any q=true:=PE.2 ⟨l[k],BH hk,h⟩
theorem UA {α:Type} (l:List α) (q:α->Bool) (h:∀ j (hj:j<l.length),q l[j]=false):l.any q=false:=by
 rw [Xu];intro x hx;obtain ⟨i,hi,rfl⟩:=Dp.1 hx;simp [h i hi]
def FI (l:List Int) (n:Int):Bool:=l.any (fun x=>x == n) || n == 0
theorem aoS (v:Value) (p:Pl) (n:Int) (w:World) (h:Cb w v p) :
  Calls Tryz.prog 129 #[v,.int .i64 n] w fun e w'=>e=.returned (.bool (FI p.faces n))/\AP w w':=by
 obtain ⟨vn,va,_,al,rfl,hpa,-,-,⟨Af,cf,rfl,hn1,hn2,hR⟩⟩:=h;unfold maxLen at hn2;generalize p.faces=l at *;clear hpa;go_enter Tryz.func129,Tryz.ntmps129;go_wp2_with fail;go_loopw [5] (fun i wr=>∃ k:Nat,k<=l.length/\i=.int .i64 k/\AP w wr/\AO wr w.heap.size 26 #[vn,va,.slice Af l.length cf]/\∀ j (hj:j<l.length),j<k->(l[j] == n)=false) (fun i _=>l.length-(intOf i).toNat)
 case atStart => exact ⟨0,BZ _,rfl,bA (bR w) _,AO.made rfl _ _,fun j _ h=>by omega⟩
 case round =>
  obtain ⟨k,hk,rfl,hb,X2,hno⟩:=hrel;have Hb:=AA hb;have Hno:=AA hno;clear hb hno;obtain ⟨BQ,BR,BX,CZ,-,-,-⟩:=X2.BF;by_cases hlt:k<l.length
  ·obtain ⟨b,o,rfl,hlb,c0⟩:=(hR.mono Hb.out).int hlt;have HR:=AA hR;clear hR
   cases he:(l[k] == n)
   ·go_wp2;go_roundw
    case rel => exact ⟨k+1,AB,BI,Hb.out,X2,all_succ (p:=fun x=>(x == n)=false) Hno.out hlt he⟩
    case measure => exact BK
   ·have hf:=AA (Ri l (fun x=>x == n) k hlt he);go_wp2;go_ret;exact ⟨C9 (by rw [FI,hf.out];rfl),Hb.out⟩
  ·have hf:=AA (UA l (fun x=>x == n) (fun j hj=>Hno.out j hj AB));go_wp2;go_ret;exact ⟨C9 (by rw [FI,hf.out];simp),Hb.out⟩
def JX (p:Pl):Bool:=p.AU.any (fun a=>decide (64<a.via.length)) || (decide (256<p.nodes.length) || decide (256<p.AU.length) || decide (64<p.faces.length))
theorem aoT (v:Value) (p:Pl) (w:World) (h:Cb w v p) :
  Calls Tryz.prog 123 #[v] w fun e w'=>e=.returned (.bool (JX p))/\AP w w':=by
 obtain ⟨_,_,_,al,rfl,hpa,⟨An,cn,rfl,hn1,hn2,-⟩,⟨⟨Aa,ca,rfl,ha1,ha2,hR⟩,hV⟩,⟨Af,cf,rfl,hf1,hf2,-⟩⟩:=h;unfold maxLen at hn2 ha2 hf2;have hS:JX p=(al.any (fun a=>decide (64<a.1.via.length)) || (decide (256<p.nodes.length) || decide (256<al.length) || decide (64<p.faces.length))):=by
  rw [JX,hpa,lI,Cm];rfl
 rw [hS];clear hS hpa;generalize p.nodes.length=nn at *;generalize p.faces.length=nf at *;have HV:=AA hV;clear hV;go_enter Tryz.func123,Tryz.ntmps123;go_wp2_with fail;go_loopw [3] (fun i wr=>∃ k:Nat,k<=al.length/\i=.int .i64 k/\AP w wr/\AO wr w.heap.size 26 #[.slice An nn cn,.slice Aa al.length ca,.slice Af nf cf]/\∀ j (hj:j<al.length),j<k->decide (64<al[j].1.via.length)=false) (fun i _=>al.length-(intOf i).toNat)
 case atStart => exact ⟨0,BZ _,rfl,bA (bR w) _,AO.made rfl _ _,fun j _ h=>by omega⟩
 case round =>
  obtain ⟨k,hk,rfl,hb,X2,hno⟩:=hrel;have Hb:=AA hb;have Hno:=AA hno;clear hb hno;obtain ⟨BQ,BR,BX,CZ,-,-,-⟩:=X2.BF;by_cases hlt:k<al.length
  ·obtain ⟨b,o,rfl,hlb,c0,c1,c2,c3,c4,c5⟩:=(hR.mono Hb.out).ar hlt;have HR:=AA hR;clear hR;obtain ⟨Av,cv,hv,uY,hvm,-⟩:=HV.out k hlt;rw [hv] at c3;clear hv;unfold maxLen at hvm;by_cases he:64<al[k].1.via.length
   ·have hf:=AA (Ri al (fun a=>decide (64<a.1.via.length)) k hlt (JE he));go_wp2;go_ret;exact ⟨C9 (by rw [hf.out];rfl),Hb.out⟩
   ·have he':=AA (G8 he);go_wp2;go_roundw
    case rel => exact ⟨k+1,AB,BI,Hb.out,X2,all_succ (p:=fun x=>decide (64<x.1.via.length)=false) Hno.out hlt he'.out⟩
    case measure => exact BK
  ·have hf:=AA (UA al (fun a=>decide (64<a.1.via.length)) (fun j hj=>Hno.out j hj AB));go_wp2_with fail
   all_goals
    go_ret;refine ⟨C9 (by rw [hf.out,LX];simp only [Bool.false_or,L6,E8,true_iff,Rt,false_iff];omega),Hb.out⟩
def acA (w:World) (b:Bool) (e:Ending) (w':World):Prop:=∃ r:Int,e=.returned (.int .i64 r)/\decide (0<=r)=b/\AP w w'
theorem aoU (v:Value) (l:List Int) (x:Int) (w:World) (h:Ints w v l) :
  Calls Tryz.prog 78 #[v,.int .i64 x] w (acA w (l.any fun y=>y == x)):=by
 obtain ⟨A,c,rfl,hn,hc,hR⟩:=h;unfold maxLen at hc;go_enter Tryz.func78,Tryz.ntmps78;go_wp2_with fail;go_loopw [8] (fun i wr=>∃ k:Nat,k<=l.length/\i=.int .i64 k/\AP w wr/\∀ j (hj:j<l.length),j<k->(fun y=>y == x) l[j]=false) (fun i _=>l.length-(intOf i).toNat)
 case atStart => exact ⟨0,BZ _,rfl,bR w,fun j _ h=>by omega⟩
 case round =>
  obtain ⟨k,hk,rfl,hb,hno⟩:=hrel;have Hb:=AA hb;have Hno:=AA hno;clear hb hno;by_cases hlt:k<l.length
  ·obtain ⟨b,o,rfl,hlb,c0⟩:=(hR.mono Hb.out).int hlt;have HR:=AA hR;clear hR
   cases he:(l[k] == x)
   ·go_wp2;go_roundw
    case rel => exact ⟨k+1,AB,BI,Hb.out,all_succ (p:=fun y=>(fun y=>y == x) y=false) Hno.out hlt he⟩
    case measure => exact BK
   ·have hf:=AA (Ri l (fun y=>y == x) k hlt he);have he2:(x == l[k])=true:=by simpa using (beq_iff_eq.1 he).symm
    go_wp2;go_ret;exact ⟨k,rfl,by rw [hf.out];simp,Hb.out⟩
  ·have hf:=AA (UA l (fun y=>y == x) (fun j hj=>Hno.out j hj AB));go_wp2;go_ret;exact ⟨-1,rfl,by rw [hf.out];simp,Hb.out⟩
theorem aoV (v:Value) (l:List Int) (p:Int->Bool) (w:World) (h:Ints w v l)
  (hg:∀ y W,Calls Tryz.prog 221 #[(.int .i64 y)] W fun e w'=>e=.returned (.bool (p y))/\AP W w') :
  Calls Tryz.prog 257 #[v,.func (.func 221) #[] #[]] w (acA w (l.any p)):=by
 obtain ⟨A,c,rfl,hn,hc,hR⟩:=h;unfold maxLen at hc;have HG:=AA hg;clear hg;go_enter Tryz.func257,Tryz.ntmps257;go_wp2_with fail;go_loopw [8] (fun i wr=>∃ k:Nat,k<=l.length/\i=.int .i64 k/\AP w wr/\∀ j (hj:j<l.length),j<k->(p) l[j]=false) (fun i _=>l.length-(intOf i).toNat)
 case atStart => exact ⟨0,BZ _,rfl,bR w,fun j _ h=>by omega⟩
 case round =>
  obtain ⟨k,hk,rfl,hb,hno⟩:=hrel;have Hb:=AA hb;have Hno:=AA hno;clear hb hno;by_cases hlt:k<l.length
  ·obtain ⟨b,o,rfl,hlb,c0⟩:=(hR.mono Hb.out).int hlt;have HR:=AA hR;clear hR;go_wp2_with fail;refine (HG.out l[k] _).mono ?_;rintro e w1 ⟨rfl,hb1⟩;have Bw:AP w w1:=bT Hb.out hb1;clear hb1
   cases he:p l[k]
   ·go_wp2;go_roundw
    case rel => exact ⟨k+1,AB,BI,Bw,all_succ (p:=fun y=>(p) y=false) Hno.out hlt he⟩
    case measure => exact BK
   ·have hf:=AA (Ri l (p) k hlt he);go_wp2;go_ret;exact ⟨k,rfl,by rw [hf.out];simp,Bw⟩
  ·have hf:=AA (UA l (p) (fun j hj=>Hno.out j hj AB));go_wp2;go_ret;exact ⟨-1,rfl,by rw [hf.out];simp,Hb.out⟩
theorem aoW (v:Value) (l:List Int) (p:Int->Bool) (w:World) (h:Ints w v l)
  (hg:∀ y W,Calls Tryz.prog 221 #[(.int .i64 y)] W fun e w'=>e=.returned (.bool (p y))/\AP W w') :
  Calls Tryz.prog 220 #[v,.func (.func 221) #[] #[]] w fun e w'=>e=.returned (.bool (l.any p))/\AP w w':=by
 have T:=aoV v l p w h hg;have HT:=AA T;clear T hg h;go_enter Tryz.func220,Tryz.ntmps220;go_wp2_with fail;refine HT.out.mono ?_;rintro e w1 ⟨r,rfl,hr,hb1⟩;have Hr:=AA hr;clear hr;go_wp2;go_ret;exact ⟨C9 Hr.out,hb1⟩
theorem aoX (v:Value) (l:List Pt) (p:Pt->Bool) (w:World) (h:Dq w v l)
  (hg:∀ y W,Calls Tryz.prog 222 #[(.agg #[.int .i64 y.x,.int .i64 y.y])] W fun e w'=>e=.returned (.bool (p y))/\AP W w') :
  Calls Tryz.prog 258 #[v,.func (.func 222) #[] #[]] w (acA w (l.any p)):=by
 obtain ⟨A,c,rfl,hn,hc,hR⟩:=h;unfold maxLen at hc;have HG:=AA hg;clear hg;go_enter Tryz.func258,Tryz.ntmps258;go_wp2_with fail;go_loopw [8] (fun i wr=>∃ k:Nat,k<=l.length/\i=.int .i64 k/\AP w wr/\∀ j (hj:j<l.length),j<k->(p) l[j]=false) (fun i _=>l.length-(intOf i).toNat)
 case atStart => exact ⟨0,BZ _,rfl,bR w,fun j _ h=>by omega⟩
 case round =>
  obtain ⟨k,hk,rfl,hb,hno⟩:=hrel;have Hb:=AA hb;have Hno:=AA hno;clear hb hno;by_cases hlt:k<l.length
  ·obtain ⟨b,o,rfl,hlb,c0,c1⟩:=(hR.mono Hb.out).pt hlt;have HR:=AA hR;clear hR;go_wp2_with fail;refine (HG.out l[k] _).mono ?_;rintro e w1 ⟨rfl,hb1⟩;have Bw:AP w w1:=bT Hb.out hb1;clear hb1
   cases he:p l[k]
   ·go_wp2;go_roundw
    case rel => exact ⟨k+1,AB,BI,Bw,all_succ (p:=fun y=>(p) y=false) Hno.out hlt he⟩
    case measure => exact BK
   ·have hf:=AA (Ri l (p) k hlt he);go_wp2;go_ret;exact ⟨k,rfl,by rw [hf.out];simp,Bw⟩
  ·have hf:=AA (UA l (p) (fun j hj=>Hno.out j hj AB));go_wp2;go_ret;exact ⟨-1,rfl,by rw [hf.out];simp,Hb.out⟩
theorem aoY (v:Value) (l:List Pt) (p:Pt->Bool) (w:World) (h:Dq w v l)
  (hg:∀ y W,Calls Tryz.prog 222 #[(.agg #[.int .i64 y.x,.int .i64 y.y])] W fun e w'=>e=.returned (.bool (p y))/\AP W w') :
  Calls Tryz.prog 223 #[v,.func (.func 222) #[] #[]] w fun e w'=>e=.returned (.bool (l.any p))/\AP w w':=by
 have T:=aoX v l p w h hg;have HT:=AA T;clear T hg h;go_enter Tryz.func223,Tryz.ntmps223;go_wp2_with fail;refine HT.out.mono ?_;rintro e w1 ⟨r,rfl,hr,hb1⟩;have Hr:=AA hr;clear hr;go_wp2;go_ret;exact ⟨C9 Hr.out,hb1⟩
theorem aAc (v:Value) (l:List Int) (x:Int) (w:World) (h:Ints w v l) :
  Calls Tryz.prog 224 #[v,.int .i64 x] w fun e w'=>e=.returned (.bool (l.any (fun y=>y == x)))/\AP w w':=by
 have T:=aoU v l x w h;have HT:=AA T;clear T h;go_enter Tryz.func224,Tryz.ntmps224;go_wp2_with fail;refine HT.out.mono ?_;rintro e w1 ⟨r,rfl,hr,hb1⟩;have Hr:=AA hr;clear hr;go_wp2;go_ret;exact ⟨C9 Hr.out,hb1⟩
def KA (n:Int):Bool:=decide (n<1) || decide (1073741824<n)
theorem aoZ (n:Int) (w:World):Calls Tryz.prog 221 #[.int .i64 n] w fun e w'=>e=.returned (.bool (KA n))/\AP w w':=by
 by_cases h:n<1
 ·go_enter Tryz.func221,Tryz.ntmps221;go_wp2;go_ret;exact ⟨C9 (by simp [KA,h]),bR w⟩
 ·have h':decide (n<1)=false:=by simpa using h
  go_enter Tryz.func221,Tryz.ntmps221;go_wp2;go_ret;exact ⟨C9 (by simp only [KA,h',Bool.false_or]),bR w⟩
theorem acB (v:Value) (l:List Int) (w:World) (h:Ints w v l) :
  Calls Tryz.prog 170 #[v] w fun e w'=>e=.returned (.bool (!l.any KA))/\AP w w':=by
 have T:=aoW v l KA w h (fun y W=>aoZ y W);have HT:=AA T;clear T h;go_enter Tryz.func170,Tryz.ntmps170;go_wp2_with fail;refine HT.out.mono ?_;rintro e w1 ⟨rfl,hb1⟩;go_wp2;go_ret;exact ⟨C9 rfl,hb1⟩
def Ik (p:Pt):Bool:=decide (-1048576<=p.x) && decide (p.x<=1048576) && decide (-1048576<=p.y) && decide (p.y<=1048576)
theorem ank (p:Pt) (w:World):Calls Tryz.prog 96 #[BD p] w fun e w'=>e=.returned (.bool (Ik p))/\AP w w':=by
 unfold BD;go_enter Tryz.func96,Tryz.ntmps96;go_wp2_with fail
 all_goals
  go_ret;refine ⟨C9 (by rw [Ik,LX];simp only [Em,E8,true_iff,Rt,false_iff];omega),?_⟩;exact Dk
