import Derived.Test.YtialfdomhoojiaaGreatSimC
import Derived.Test.YtialfdomhoojiaaGreatJ04
import Derived.Maps.OwnSet
import Derived.Test.YtialfdomhoojiaaGreatJ08
import Derived.Test.YtialfdomhoojiaaGreatJ11
import Derived.Deep.CutBlock
import Derived.BigRegion
import Derived.Test.YtialfdomhoojiaaGreatJ12
set_option linter.unusedSimpArgs false
set_option linter.unusedVariables false
namespace Go.Proofs.YtialfdomhoojiaaGreat
open Go.RowKit
theorem jV.short {p:Pl} (h:jV p):Short p:=fun a ha=>Nat.le_trans (h.via a ha) (by omega)
theorem QH {p:Pl} {id:Int} {a:Ar} (h:findAr p.au id=some a):pathOf p id=if jk p a=true then some (aK p a) else none:=by
 unfold pathOf;rw [h]
set_option maxRecDepth 100000 in
set_option maxHeartbeats 4000000 in
theorem Iq (v:Value) (p:Pl) (arc i:Int) (w:World) (h:dh w v p) (hm:jV p) :
  Calls Tryz.prog 38 #[v,.int .i64 arc,.int .i64 i] w fun e w'=>e=.returned (.bool (oM p arc i))/\Below w.heap.size w w':=by
 have HA:=Lib.hid (fun W (hW:Below w.heap.size w W)=>UJ v p arc W (h.mono hW) hm.short);have HP:=Lib.hid (fun W (hW:Below w.heap.size w W)=>DU v p arc W (h.mono hW) hm.short);have qW:=Lib.hid (fun a A c vp P i W (hW:Below w.heap.size w W) (hP:bU W vp P) (hi:i<a.via.length) (hl:P.length=a.via.length+2)=>free_spec v vp p a A c P i W (h.mono hW) hP hm hi hl);have hvl:=hm.via;obtain ⟨R,hR⟩:∃ R,oM p arc i=R:=⟨_,rfl⟩;rw [hR];unfold oM at hR;have HR:=Lib.hid hR;obtain ⟨_,_,_,al,rfl,-,⟨An,cn,rfl,-⟩,⟨⟨Aa,ca,rfl,-⟩,-⟩,⟨Af,cf,rfl,-⟩⟩:=h;generalize p.nodes.length=nn at *;generalize p.faces.length=nf at *;generalize al.length=na at *;clear hR hm;go_enter Tryz.func38,Tryz.ntmps38;go_upto_region 1 with fail;obtain ⟨W1,hW⟩:∃ W:World,W=w.alloc (.cells #[.slice An nn cn,.slice Aa na ca,.slice Af nf cf] 26):=⟨_,rfl⟩;have X3:ah W1 w.heap.size 26 #[.slice An nn cn,.slice Aa na ca,.slice Af nf cf]:=by rw [hW];exact ah.made rfl _ _
 have HB1:=Lib.hid (show Below w.heap.size w W1 by rw [hW];exact bA (bR w) _);rw [<- hW];clear hW;have dP:=Lib.hid X3;obtain ⟨aW,aX,aY,dK,-,-,-⟩:=X3.aJ;go_wp2_with fail;refine (HA.out _ HB1.out).mono ?_;rintro e w2 ⟨va,rfl,hb2,hpv⟩;have HB2:=Lib.hid (bT HB1.out hb2);have qX:=Lib.hid (dP.out.keep hb2);clear hb2 X3 aW aX aY dK dP HB1 HA;obtain ⟨Av,cv,rfl,hv1,hv2,-⟩:=hpv;unfold maxLen at hv2;obtain ⟨r,hr⟩:∃ r,findAr p.au arc=r:=⟨_,rfl⟩;rw [hr] at hv1 ⊢;have dL:=HR.out;rw [hr] at dL;have Hr:=Lib.hid hr;have hpo:=fun a (h:findAr p.au arc=some a)=>QH h;have lN:=Lib.hid hpo;clear hr HR hpo
 cases r with
 | none =>
  have hf:=Lib.hid (show R=false by rw [<- dL]);clear dL;unfold gZ;simp only [Option.getD_none];simp only [Option.getD_none] at hv1;go_wp2_with fail;go_ret;exact ⟨aT (by rw [hf.out]),bA HB2.out _⟩
 | some a =>
  have hav:=hvl a (yw Hr.out);simp only [Option.getD_some] at hv1 ⊢;simp only at dL;have Ir:=lN.out a Hr.out;rw [Ir] at HP;unfold gZ;obtain ⟨vn,hvn⟩:∃ n,a.via.length=n:=⟨_,rfl⟩;rw [hvn] at hv1 hav dL ⊢;have LC:=Lib.hid hvn;clear hvn lN Ir hvl;go_upto_region 2 with fail;obtain ⟨W3,hW⟩:∃ W:World,W=w2.alloc (.cells #[.int .i64 a.id,.int .i64 a.fr,.int .i64 a.dst,.slice Av vn cv,.int .i64 a.left,.int .i64 a.right] 50):=⟨_,rfl⟩;have X7:ah W3 w2.heap.size 50 #[.int .i64 a.id,.int .i64 a.fr,.int .i64 a.dst,.slice Av vn cv,.int .i64 a.left,.int .i64 a.right]:=by rw [hW];exact ah.made rfl _ _
  have hA3:Below w2.heap.size w2 W3:=by rw [hW];exact bA (bR w2) _
  have HB3:=Lib.hid (bT HB2.out hA3);have X3:=qX.out.keep hA3;have agD:=Lib.hid X3;have lK:=Lib.hid X7;rw [<- hW];clear hW hA3 qX HB2;by_cases hi0:i<0
  ·rw [if_pos (.inl hi0)] at dL;have hf:=Lib.hid (show R=false by rw [<- dL]);clear dL;go_wp2_with fail;go_ret;exact ⟨aT (by rw [hf.out]),HB3.out⟩
  obtain ⟨fU,fV,nC,zZ,Ad,Ae,Ag,-,-,-,-,-,-⟩:=X7.eY;by_cases hi1:(vn:Int)<=i
  ·rw [if_pos (.inr hi1)] at dL;have hf:=Lib.hid (show R=false by rw [<- dL]);clear dL;go_wp2_with fail;go_ret;exact ⟨aT (by rw [hf.out]),HB3.out⟩
  rw [if_neg (by omega)] at dL;obtain ⟨m,rfl⟩:∃ m:Nat,i=m:=⟨i.toNat,by omega⟩;have hmn:m<vn:=by omega
  rw [Int.toNat_natCast] at dL;have dL:=Lib.hid dL;clear hav;go_upto_region 4 with fail;clear X7 fU fV nC zZ Ad Ae Ag
  try clear aW
  try clear aX
  try clear aY
  try clear dK
  obtain ⟨aW,aX,aY,dK,-,-,-⟩:=X3.aJ;by_cases he:jk p a=true
  case neg =>
   rw [if_neg he] at HP;have hf:=Lib.hid (show R=false by rw [<- dL.out,if_neg he]);clear he dL;go_wp2_with fail;refine (HP.out _ HB3.out).mono ?_;rintro e w4 ⟨A4,c4,rfl,hb4,-⟩;have HB4:=Lib.hid (bT HB3.out hb4);clear hb4;simp only [Option.getD_none,List.length_nil,Option.isSome_none,Bool.false_eq_true,if_false];go_wp2_with fail;go_ret;exact ⟨aT (by rw [hf.out]),HB4.out⟩
  rw [if_pos he] at HP;have hR:=dL.out;rw [if_pos he] at hR;have HR:=Lib.hid hR;clear he dL hR;go_wp2_with fail;refine (HP.out _ HB3.out).mono ?_;rintro e w4 ⟨A4,c4,rfl,hb4,lW⟩;have hpl:(aK p a).length=a.via.length+2:=jQ p a;simp only [Option.getD_some,Option.isSome_some,if_true] at lW ⊢;have ER:=Lib.hid (fun W (hW:Below w4.heap.size w4 W)=>qW.out a Av cv (.slice A4 (aK p a).length c4) (aK p a) m W (bT HB3.out (bT hb4 hW)) (lW.sl.mono hW) (by rw [LC.out];exact hmn) hpl);unfold gZ at ER;rw [LC.out,HR.out] at ER;have HB4:=Lib.hid (bT HB3.out hb4);have X3:=agD.out.keep hb4;have X7:=lK.out.keep hb4;clear hb4 lW hpl qW aW aX aY dK;generalize aK p a=PP at *;generalize PP.length=np at *;go_upto_region 5 with fail
  try clear aW
  try clear aX
  try clear aY
  try clear dK
  obtain ⟨aW,aX,aY,dK,-,-,-⟩:=X3.aJ
  try clear fU
  try clear fV
  try clear nC
  try clear zZ
  try clear Ad
  try clear Ae
  try clear Ag
  obtain ⟨fU,fV,nC,zZ,Ad,Ae,Ag,-,-,-,-,-,-⟩:=X7.eY;go_wp2_with fail;refine (ER.out _ (bR _)).mono ?_;rintro e w5 ⟨rfl,hb5⟩;have cO:=Lib.hid (bT HB4.out hb5);clear hb5;go_wp2_with fail;go_ret;exact ⟨rfl,cO.out⟩
def gK (w:World) (b:Nat) (S:List Int):Prop :=
 ∃ D:DataW Unit,w.ownsMap Tryz.prog 3 JY b S.length D/\Maps.size D=S.length/\(∀ id,D.atKey (.int .i64 id) (sD false)=sD (decide (id∈S)))/\∀ id,Maps.has D (.int .i64 id)=decide (id∈S)
theorem gK.kept {w w':World} {b:Nat} {S:List Int} (h:gK w b S) {row:Option Nat} (hg:w.grownBy w' row) (hr:some b≠row):gK w' b S:=by
 obtain ⟨D,h1,h2⟩:=h;exact ⟨D,h1.kept hg hr,h2⟩
theorem gK.keep {w w':World} {b:Nat} {S:List Int} (h:gK w b S) (hb:Below w.heap.size w w'):gK w' b S :=
 h.kept (row:=none) ⟨hb.os,hb.tape,hb.output,hb.size,fun i hi _=>hb.block i hi⟩ (by simp)
theorem gK.lt {w:World} {b:Nat} {S:List Int} (h:gK w b S):b<w.heap.size:=by
 obtain ⟨D,h1,h2⟩:=h;exact h1.lt
theorem gK.made (w:World):gK (w.alloc (.map #[] 0)) w.heap.size [] :=
 ⟨.map [],World.ownsMap_made _ _ _ _,rfl,fun _=>rfl,fun _=>rfl⟩
theorem gK.look {w:World} {b:Nat} {S:List Int} (h:gK w b S) (id:Int) (hid:cZ id) :
  (Instr.lookup 139 (.map (some b)) (.int .i64 id) false).run Tryz.prog w=.ok (.bool (decide (id∈S))) w:=by
 obtain ⟨D,h1,-,h2,-⟩:=h;obtain ⟨v,ps,hr,hv⟩:=h1.lookup tu Tryz.underlying139 (Xe w) (zd:=sD false) (zp:=[]) rfl (Maps.keyOf_int_mk Tryz.underlying3 hid);rw [h2] at hv;rw [hr,Xd hv]
theorem gK.len {w:World} {b:Nat} {S:List Int} (h:gK w b S) (ty:TypeId) :
  (Builtin.len_ #[139] ty #[.map (some b)]).run Tryz.prog w=.ok (.int .i64 S.length) w:=by
 obtain ⟨D,h1,h2,-⟩:=h;rw [h1.len Tryz.underlying139 ty,h2]
set_option maxRecDepth 100000 in
theorem gK.upd {w:World} {b:Nat} {S:List Int} (h:gK w b S) (hn:S.length<4294967296) (id:Int) (hid:cZ id) (hx:id∉S) :
  ∃ w',(Instr.mapUpdate 139 (.map (some b)) (.int .i64 id) (.bool true)).run Tryz.prog w=.ok () w'/\gK w' b (S++[id])/\w.grownBy w' (some b):=by
 obtain ⟨D,h1,h2,h3,h4⟩:=h;have ht:=h1.tidy tu;obtain ⟨w',hr,ho,hg⟩:=h1.update tu Tryz.underlying139 (by unfold maxLen;omega) (Maps.keyOf_int_mk Tryz.underlying3 hid) (val:=.bool true) (d:=sD true) (ps:=[]) rfl;refine ⟨w',hr,⟨_,by rw [List.length_append];exact ho,?_,fun i=>?_,fun i=>?_⟩,hg⟩
 · rw [Maps.size_put ht,h4,decide_eq_false hx,h2,List.length_append];rfl
 ·by_cases e:i=id
  ·subst e;rw [Maps.atKey_put_same ht.isMap (by trivial),decide_eq_true (by simp)]
  ·rw [Maps.atKey_put_other (fun h=>e (by injection h)),h3];congr 1;simp [e]
 ·by_cases e:i=id
  ·subst e;rw [Maps.has_put_same ht.isMap (by trivial),decide_eq_true (by simp)]
  ·rw [Maps.has_put_other (fun h=>e (by injection h)),h4];simp [e]
theorem QI {w:World} {gm:Nat} {S:List Int} (h:gK w gm S) {g:Nat} {t:TypeId} {cs:Array Value} (hg:ah w g t cs):g≠gm:=by
 rintro rfl;obtain ⟨D,h1,-⟩:=h;obtain ⟨es,clock,h2,-⟩:=h1;unfold ah at hg;rw [hg] at h2
 cases h2
theorem ZE {w:World} {gm:Nat} {S:List Int} (h:gK w gm S) {base:Nat} {e:TypeId} {size:Nat} {α:Type} {fe:α->List Value} {v:Value} {l:List α} (ho:Own w base e size fe v l):v.ownBlock≠some gm:=by
 rcases ho.2 with ⟨rfl,_⟩ | ⟨g,cap,cur,rfl,_,hh,_⟩
 · simp [Value.ownBlock]
 ·intro e';exact QI h (cs:=cur) (g:=g) hh (by simpa [Value.ownBlock] using e')
def CJ (s:Option Cd) (c:Cd):Bool :=
 match s with
 | none=>true
 | some b=>if c.n≠b.n then decide (c.n<b.n) else decide (c.id<b.id) || decide (c.id=b.id) && decide (c.k<b.k)
theorem agE (s:Option Cd) (c:Cd):mV s c=if CJ s c=true then some c else s:=by
 unfold mV CJ
 cases s with
 | none=>rfl
 | some b=>rfl
structure oO (W:World) (g4 g5 g6 g7:Nat) (s:Option Cd):Prop where
 a:ah W g4 3 #[.int .i64 (s.elim 0 (·.id))]
 b:ah W g5 3 #[.int .i64 (s.elim 0 fun c=>(c.k:Int))]
 c:ah W g6 3 #[.int .i64 (s.elim 0 (·.n))]
 d:ah W g7 4 #[.bool s.isSome]
theorem oO.keep {W W':World} {g4 g5 g6 g7:Nat} {s:Option Cd} (h:oO W g4 g5 g6 g7 s) (hb:Below W.heap.size W W'):oO W' g4 g5 g6 g7 s :=
 ⟨h.a.keep hb,h.b.keep hb,h.c.keep hb,h.d.keep hb⟩
theorem oO.grown {W W':World} {g4 g5 g6 g7:Nat} {s:Option Cd} (h:oO W g4 g5 g6 g7 s) {gm:Nat} (hg:W.grownBy W' (some gm)) (n4:g4≠gm) (n5:g5≠gm) (n6:g6≠gm) (n7:g7≠gm):oO W' g4 g5 g6 g7 s :=
 ⟨h.a.grown hg (fun e=>n4 (Option.some.inj e)),h.b.grown hg (fun e=>n5 (Option.some.inj e)),h.c.grown hg (fun e=>n6 (Option.some.inj e)),h.d.grown hg (fun e=>n7 (Option.some.inj e))⟩
set_option maxRecDepth 100000 in
set_option maxHeartbeats 4000000 in
theorem agF (s:Option Cd) (c:Cd) (g4 g5 g6 g7:Nat) (w:World) (h:oO w g4 g5 g6 g7 s) :
  Calls Tryz.prog 101 #[.int .i64 c.id,.int .i64 c.k,.int .i64 c.n,.pointer (some ⟨g7,0,none⟩),.pointer (some ⟨g6,0,none⟩),.pointer (some ⟨g4,0,none⟩),.pointer (some ⟨g5,0,none⟩)] w fun e w'=>e=.returned (.bool (CJ s c))/\w=w':=by
 obtain ⟨X4,X5,X6,X7⟩:=h;unfold CJ;obtain ⟨id,k,n⟩:=c
 cases s with
 | none =>
  simp only [Option.elim_none,Option.isSome_none] at X4 X5 X6 X7;obtain ⟨aU,aV,-⟩:=X4.fC;obtain ⟨bV,bW,-⟩:=X5.fC;obtain ⟨gu,gI,-⟩:=X6.fC;obtain ⟨fU,fV,-⟩:=X7.fC;go_enter Tryz.func101,Tryz.ntmps101;go_wp2_with fail;go_ret;exact ⟨rfl,rfl⟩
 | some b =>
  obtain ⟨id',k',n'⟩:=b;simp only [Option.elim_some,Option.isSome_some] at X4 X5 X6 X7;simp only
  try clear aU
  try clear aV
  obtain ⟨aU,aV,-⟩:=X4.fC
  try clear bV
  try clear bW
  obtain ⟨bV,bW,-⟩:=X5.fC
  try clear gu
  try clear gI
  obtain ⟨gu,gI,-⟩:=X6.fC
  try clear fU
  try clear fV
  obtain ⟨fU,fV,-⟩:=X7.fC
  cases e1:(n != n')
  case true =>
   have hn:=Lib.hid (show n≠n' by simpa using e1);rw [if_pos hn.out];by_cases e2:n<n'
   ·rw [decide_eq_true e2];go_enter Tryz.func101,Tryz.ntmps101;go_wp2_with fail;go_ret;exact ⟨rfl,rfl⟩
   ·rw [decide_eq_false e2];go_enter Tryz.func101,Tryz.ntmps101;go_wp2_with fail;go_ret;exact ⟨rfl,rfl⟩
  case false =>
   have hn:=Lib.hid (show ¬ n≠n' by simpa using e1);rw [if_neg hn.out];by_cases e2:id<id'
   ·rw [decide_eq_true e2,Bool.true_or];go_enter Tryz.func101,Tryz.ntmps101;go_wp2_with fail;go_ret;exact ⟨rfl,rfl⟩
   ·rw [decide_eq_false e2,Bool.false_or]
    cases e3:(id == id')
    case false =>
     have hd:=Lib.hid (show ¬ id=id' by simpa using e3);rw [decide_eq_false hd.out,Bool.false_and];go_enter Tryz.func101,Tryz.ntmps101;go_wp2_with fail;go_ret;exact ⟨rfl,rfl⟩
    case true =>
     have hd:=Lib.hid (show id=id' by simpa using e3);rw [decide_eq_true hd.out,Bool.true_and];by_cases e4:(k:Int)<k'
     ·rw [decide_eq_true (show k<k' by omega)];go_enter Tryz.func101,Tryz.ntmps101;go_wp2_with fail;go_ret;exact ⟨rfl,rfl⟩
     ·rw [decide_eq_false (show ¬ k<k' by omega)];go_enter Tryz.func101,Tryz.ntmps101;go_wp2_with fail;go_ret;exact ⟨rfl,rfl⟩
theorem oO.put {W:World} {g4 g5 g6 g7:Nat} {s:Option Cd} (h:oO W g4 g5 g6 g7 s) (n45:g4≠g5) (n46:g4≠g6) (n47:g4≠g7) (n56:g5≠g6) (n57:g5≠g7) (n67:g6≠g7) (c:Cd) :
  oO ((((W.setCell ⟨g4,0,none⟩ (.int .i64 c.id)).setCell ⟨g5,0,none⟩ (.int .i64 c.k)).setCell ⟨g6,0,none⟩ (.int .i64 c.n)).setCell ⟨g7,0,none⟩ (.bool true)) g4 g5 g6 g7 (some c):=by
 refine ⟨?_,?_,?_,?_⟩
 ·have:=((((h.a.fB 0 (.int .i64 c.id)).far (p:=⟨g5,0,none⟩) n45 (.int .i64 c.k)).far (p:=⟨g6,0,none⟩) n46 (.int .i64 c.n)).far (p:=⟨g7,0,none⟩) n47 (.bool true))
  simpa using this
 ·have:=(((h.b.far (p:=⟨g4,0,none⟩) (Ne.symm n45) (.int .i64 c.id)).fB 0 (.int .i64 c.k)).far (p:=⟨g6,0,none⟩) n56 (.int .i64 c.n)).far (p:=⟨g7,0,none⟩) n57 (.bool true)
  simpa using this
 ·have:=(((h.c.far (p:=⟨g4,0,none⟩) (Ne.symm n46) (.int .i64 c.id)).far (p:=⟨g5,0,none⟩) (Ne.symm n56) (.int .i64 c.k)).fB 0 (.int .i64 c.n)).far (p:=⟨g7,0,none⟩) n67 (.bool true)
  simpa using this
 ·have:=(((h.d.far (p:=⟨g4,0,none⟩) (Ne.symm n47) (.int .i64 c.id)).far (p:=⟨g5,0,none⟩) (Ne.symm n57) (.int .i64 c.k)).far (p:=⟨g6,0,none⟩) (Ne.symm n67) (.int .i64 c.n)).fB 0 (.bool true)
  simpa using this
theorem agG {w:World} {g:Nat} {t:TypeId} {cs:Array Value} (h:ah w g t cs) {i:Nat} {v:Value} (hv:cs[i]? = some v):w.setCell ⟨g,i,none⟩ v=w:=by
 unfold ah at h;have e:w.heap.modify g (fun
   | .cells c elem frozen=>.cells (if (none:Option Nat).isSome then c else c.setIfInBounds i v) elem frozen
   | o=>o)=w.heap:=by
  apply Array.ext_getElem?;intro k;rw [Array.getElem?_modify];split
  ·rename_i e;subst e;rw [h];simp only [Option.map_some,Option.some.injEq,Option.isSome_none,Bool.false_eq_true,if_false];congr 1;apply Array.ext_getElem?;intro j;rw [Array.getElem?_setIfInBounds];split
   ·rename_i e;subst e;split
    · exact hv.symm
    · rename_i hn;rw [Array.getElem?_eq_none (by omega)] at hv;cases hv
   · rfl
  · rfl
 show ({w with heap:=w.heap.modify g _}:World)=w
 cases w;congr 1
theorem LD {w:World} {g:Nat} {t:TypeId} {v:Value} (h:ah w g t #[v]):w.setCell ⟨g,0,none⟩ v=w:=agG h rfl
theorem agH {P:Program} {fn:Func} {p q r s:Tmp} {y1 y2 y3 y4 t1 t2 t3 t4:TypeId} {R:Ending->World->Prop} {a:Act} {w:World} {g1 g2 g3 g4:Nat} {v1 v2 v3 v4:Value} (h:fn.results=#[.cell p y1,.cell q y2,.cell r y3,.cell s y4])
  (hS1:∀ w,(isAgg y1).run P w=.ok false w) (hS2:∀ w,(isAgg y2).run P w=.ok false w) (hS3:∀ w,(isAgg y3).run P w=.ok false w) (hS4:∀ w,(isAgg y4).run P w=.ok false w)
  (hp1:a.tmps.getD p undef=.pointer (some ⟨g1,0,none⟩)) (hp2:a.tmps.getD q undef=.pointer (some ⟨g2,0,none⟩)) (hp3:a.tmps.getD r undef=.pointer (some ⟨g3,0,none⟩)) (hp4:a.tmps.getD s undef=.pointer (some ⟨g4,0,none⟩))
  (hd:a.defers=[]) (hb1:ah w g1 t1 #[v1]) (hb2:ah w g2 t2 #[v2]) (hb3:ah w g3 t3 #[v3]) (hb4:ah w g4 t4 #[v4]) (hR:R (.returned (.tuple #[v1,v2,v3,v4])) w):bodyPost P fn R .ret a w:=by
 refine bodyPost_ret ?_ hd hR;have hp1':a.tmps[p]?.getD undef=.pointer (some ⟨g1,0,none⟩):=by simpa using hp1
 have hp2':a.tmps[q]?.getD undef=.pointer (some ⟨g2,0,none⟩):=by simpa using hp2
 have agI:a.tmps[r]?.getD undef=.pointer (some ⟨g3,0,none⟩):=by simpa using hp3
 have agJ:a.tmps[s]?.getD undef=.pointer (some ⟨g4,0,none⟩):=by simpa using hp4
 have hc1:w.cell? ⟨g1,0,none⟩=some v1:=by rw [hb1.cell];rfl
 have hc2:w.cell? ⟨g2,0,none⟩=some v2:=by rw [hb2.cell];rfl
 have hc3:w.cell? ⟨g3,0,none⟩=some v3:=by rw [hb3.cell];rfl
 have hc4:w.cell? ⟨g4,0,none⟩=some v4:=by rw [hb4.cell];rfl
 simp only [results,h];simp [hp1',hp2',agI,agJ,asAddr,loadVar,Sem.run_bind,Sem.run_pure,Result.andThen,hS1,hS2,hS3,hS4,hc1,hc2,hc3,hc4]
theorem QJ:∀ w,(isAgg 3).run Tryz.prog w=.ok false w:=fun _=>by kernel_rfl
theorem agK:∀ w,(isAgg 4).run Tryz.prog w=.ok false w:=fun _=>by kernel_rfl
theorem ZF {p:Pl} {aI:Int}:∀ (l:List Ar) (st:List Int×Option Cd),(∀ a∈l,a.id∈(l.foldl (jB p aI) st).1)/\∀ i∈st.1,i∈(l.foldl (jB p aI) st).1
 | [],st=>⟨fun a h=>by (cases h),fun i h=>h⟩
 | b::l,st=>by
  have ih:=ZF (p:=p) (aI:=aI) l (jB p aI st b);have h1:b.id∈(jB p aI st b).1/\∀ i∈st.1,i∈(jB p aI st b).1:=by
   unfold jB;by_cases e:b.id∈st.1
   ·rw [if_pos (by simpa using e)];exact ⟨e,fun i h=>h⟩
   ·rw [if_neg (by simpa using e)];exact ⟨List.mem_append_right _ (List.mem_singleton.2 rfl),fun i h=>List.mem_append_left _ h⟩
  rw [List.foldl_cons];refine ⟨fun a ha=>?_,fun i hi=>ih.2 _ (h1.2 i hi)⟩;rcases List.mem_cons.1 ha with rfl | ha
  · exact ih.2 _ h1.1
  · exact ih.1 a ha
theorem agL (a b c:Pt):-35184372088832<=jF a b c/\jF a b c<=35184372088832:=by
 unfold jF;split
 ·rename_i h;obtain ⟨h1,h2,h3⟩:=Fv h;unfold lim at h1 h2 h3;have m1:=qj (b.x-a.x) (c.y-a.y) 4194304 (by omega) (by omega) (by omega) (by omega);have m2:=qj (b.y-a.y) (c.x-a.x) 4194304 (by omega) (by omega) (by omega) (by omega);unfold tw;omega
 · omega
theorem gK.far {w:World} {b:Nat} {S:List Int} (h:gK w b S) {g:Nat} (hg:g≠b) {i:Nat} {v:Value}:gK (w.setCell ⟨g,i,none⟩ v) b S :=
 h.kept (row:=some g) ⟨rfl,rfl,rfl,by simp,fun j hj hne=>Below.heap_setCell w ⟨g,i,none⟩ v j (fun e=>hne (by rw [e]))⟩ (fun e=>hg (Option.some.inj e).symm)
def ZG (s:Option Cd):Value:=.tuple #[.int .i64 (s.elim 0 (·.id)),.int .i64 (s.elim 0 fun c=>(c.k:Int)),.int .i64 (s.elim 0 (·.n)),.bool s.isSome]
theorem ZH {p:Pl} {aI:Int} (st:List Int×Option Cd):∀ (l:List Ar),((l.foldl (jB p aI) st).1).length<=st.1.length+l.length
 | []=>by simp
 | a::l=>by
  rw [List.foldl_cons,List.length_cons];have h:=ZH (p:=p) (aI:=aI) (jB p aI st a) l;have:(jB p aI st a).1.length<=st.1.length+1:=by
   unfold jB;split
   · omega
   · simp
  omega
theorem agM {p:Pl} {aI:Int} {k:Nat} (hk:k<p.au.length):(p.au.take (k+1)).foldl (jB p aI) ([],none)=jB p aI ((p.au.take k).foldl (jB p aI) ([],none)) p.au[k]:=by
 rw [List.take_succ_eq_append_getElem hk,List.foldl_append];rfl
theorem agN {p:Pl} {aI:Int} {a:Ar} {P:List Pt} {m:Nat} (s:Option Cd):(oN p aI a P (m+1)).foldl mV s=if (decide (nH P m<aI) && (CJ ((oN p aI a P m).foldl mV s) ⟨a.id,m,nH P m⟩ && pz p a P m))=true then some ⟨a.id,m,nH P m⟩ else (oN p aI a P m).foldl mV s:=by
 rw [Zm,List.foldl_append];generalize (oN p aI a P m).foldl mV s=t;by_cases h:(decide (nH P m<aI) && pz p a P m)=true
 ·rw [if_pos h]
  show mV t _=_
  rw [agE];rw [Bool.and_eq_true] at h;rw [h.1,h.2,Bool.true_and,Bool.and_true]
 ·rw [if_neg h]
  show t=_
  rw [if_neg];intro e;apply h;rw [Bool.and_eq_true,Bool.and_eq_true] at e;rw [Bool.and_eq_true];exact ⟨e.1,e.2.2⟩
set_option maxRecDepth 100000 in
set_option maxHeartbeats 8000000 in
theorem QK (v:Value) (p:Pl) (aI:Int) (w:World) (h:dh w v p) (hm:jV p) (hw:∀ a∈p.au,cZ a.id) :
  Calls Tryz.prog 40 #[v,.int .i64 aI] w fun e w'=>e=.returned (ZG (pF p aI))/\Below w.heap.size w w':=by
 have HP:=Lib.hid (fun arc W (hW:Below w.heap.size w W)=>DU v p arc W (h.mono hW) hm.short);have qW:=Lib.hid (fun a A c vp P i W (hW:Below w.heap.size w W) (hP:bU W vp P) (hi:i<a.via.length) (hl:P.length=a.via.length+2)=>free_spec v vp p a A c P i W (h.mono hW) hP hm hi hl);have EJ:=Lib.hid (fun a b c W=>Ux a b c W);have CO:=Lib.hid (@agF);have hvl:=hm.via;unfold ZG;obtain ⟨zi,hzi⟩:∃ z,(pF p aI).elim 0 (·.id)=z:=⟨_,rfl⟩;obtain ⟨zk,QL⟩:∃ z,((pF p aI).elim 0 fun c=>(c.k:Int))=z:=⟨_,rfl⟩;obtain ⟨zn,hzn⟩:∃ z,(pF p aI).elim 0 (·.n)=z:=⟨_,rfl⟩;obtain ⟨zb,hzb⟩:∃ z,(pF p aI).isSome=z:=⟨_,rfl⟩;rw [hzi,QL,hzn,hzb];have HZ:=Lib.hid (fun W g4 g5 g6 g7 (h:oO W g4 g5 g6 g7 (pF p aI))=>show ah W g4 3 #[.int .i64 zi]/\ah W g5 3 #[.int .i64 zk]/\ah W g6 3 #[.int .i64 zn]/\ah W g7 4 #[.bool zb] from by
  rw [<- hzi,<- QL,<- hzn,<- hzb];exact ⟨h.a,h.b,h.c,h.d⟩)
 clear hzi QL hzn hzb;obtain ⟨_,_,_,al,rfl,hpa,⟨An,cn,rfl,-⟩,⟨⟨Aa,ca,rfl,ha1,ha2,fO⟩,hV⟩,⟨Af,cf,rfl,-⟩⟩:=h;have iV:=Lib.hid fO;have BD:=Lib.hid hV;have o8:=Lib.hid hpa;have Hw:=Lib.hid hw;have hal:al.length=p.au.length:=by rw [hpa,List.length_map]
 have ajR:=hm.gY;have vC:=Lib.hid hal;generalize p.nodes.length=nn at *;generalize p.faces.length=nf at *;have hmm:=@run_makeMap Tryz.prog;clear fO hV hpa hw hm hal;go_enter Tryz.func40,Tryz.ntmps40;go_upto_region 3 with fail;obtain ⟨gm,hgm⟩:∃ g,g=w.heap.size+1+1+1+1+1:=⟨_,rfl⟩;obtain ⟨g7,wY⟩:∃ g,g=w.heap.size+1+1+1+1:=⟨_,rfl⟩;obtain ⟨g6,sS⟩:∃ g,g=w.heap.size+1+1+1:=⟨_,rfl⟩;obtain ⟨g5,hg5⟩:∃ g,g=w.heap.size+1+1:=⟨_,rfl⟩;obtain ⟨g4,hg4⟩:∃ g,g=w.heap.size+1:=⟨_,rfl⟩;obtain ⟨W1,hW⟩:∃ W:World,W=(((((w.alloc (.cells #[.slice An nn cn,.slice Aa al.length ca,.slice Af nf cf] 26)).alloc (.cells #[.int .i64 0] 3)).alloc (.cells #[.int .i64 0] 3)).alloc (.cells #[.int .i64 0] 3)).alloc (.cells #[.bool false] 4)).alloc (.map #[] 0):=⟨_,rfl⟩;have X2:ah W1 w.heap.size 26 #[.slice An nn cn,.slice Aa al.length ca,.slice Af nf cf]:=by rw [hW];exact (((((ah.made rfl _ _).alloc _).alloc _).alloc _).alloc _).alloc _
 have zI:=Lib.hid (show oO W1 g4 g5 g6 g7 none from ⟨by rw [hW];exact ((((ah.made (by simp [hg4]) _ _).alloc _).alloc _).alloc _).alloc _,by rw [hW];exact (((ah.made (by simp [hg5]) _ _).alloc _).alloc _).alloc _,by rw [hW];exact ((ah.made (by simp [sS]) _ _).alloc _).alloc _,by rw [hW];exact (ah.made (by simp [wY]) _ _).alloc _⟩);have jS:=Lib.hid (show gK W1 gm [] by
  have:=gK.made (((((w.alloc (.cells #[.slice An nn cn,.slice Aa al.length ca,.slice Af nf cf] 26)).alloc (.cells #[.int .i64 0] 3)).alloc (.cells #[.int .i64 0] 3)).alloc (.cells #[.int .i64 0] 3)).alloc (.cells #[.bool false] 4))
  rw [hW,hgm];simpa using this)
 have HB1:=Lib.hid (show Below w.heap.size w W1 by rw [hW];exact bA (bA (bA (bA (bA (bA (bR w) _) _) _) _) _) _);rw [<- hW,<- hgm,<- wY,<- sS,<- hg5,<- hg4];have n45:g4≠g5:=by omega
 have n46:g4≠g6:=by omega
 have n47:g4≠g7:=by omega
 have n56:g5≠g6:=by omega
 have n57:g5≠g7:=by omega
 have n67:g6≠g7:=by omega
 have GV:g4≠gm:=by omega
 have ZI:g5≠gm:=by omega
 have ZJ:g6≠gm:=by omega
 have Ky:g7≠gm:=by omega
 have l4:w.heap.size<g4:=by omega
 have l5:w.heap.size<g5:=by omega
 have l6:w.heap.size<g6:=by omega
 have l7:w.heap.size<g7:=by omega
 have lm:w.heap.size<gm:=by omega
 have eF:=Lib.hid X2;clear hW hgm wY sS hg5 hg4 hmm;obtain ⟨bF,bH,bI,bM,-,-,-⟩:=X2.aJ;go_upto_block 0 with fail;clear X2 bF bH bI bM;go_wp2_with fail;go_loopw [21] (fun u wr=>∃ k:Nat,k<=al.length/\u=.int .i64 k/\oO wr g4 g5 g6 g7 ((p.au.take k).foldl (jB p aI) ([],none)).2/\gK wr gm ((p.au.take k).foldl (jB p aI) ([],none)).1/\ah wr w.heap.size 26 #[.slice An nn cn,.slice Aa al.length ca,.slice Af nf cf]/\Below w.heap.size w wr) (fun u _=>al.length-(intOf u).toNat)
 case atStart => exact ⟨0,Nat.zero_le _,rfl,zI.out,jS.out,eF.out,HB1.out⟩
 case round =>
  obtain ⟨k,hk,rfl,hls,hst,X2,hb⟩:=hrel;obtain ⟨wo,rfl⟩:∃ wo:World,wo=wr:=⟨_,rfl⟩;have hbd:=ZH (p:=p) (aI:=aI) ([],none) (p.au.take k);have pJ:=Lib.hid hls;have iG:=Lib.hid hst;have HX:=Lib.hid X2;have Hb:=Lib.hid hb;clear hls hst hb X2 zI jS eF HB1;by_cases hlt:k<al.length
  ·have hkp:k<p.au.length:=by rw [<- vC.out];exact hlt
   have xH:=agM (p:=p) (aI:=aI) hkp;have hax:p.au[k]=al[k].1:=by
    have e:p.au[k]? = some al[k].1:=by rw [o8.out,List.getElem?_map,List.getElem?_eq_getElem hlt];rfl
    rw [List.getElem?_eq_getElem hkp] at e;exact Option.some.inj e
   have hvm:=hvl _ (List.getElem_mem hkp);have hwk:=Hw.out _ (List.getElem_mem hkp);rw [List.length_take] at hbd;have ZK:((p.au.take k).foldl (jB p aI) ([],none)).1.length<=1000000:=by simp only [List.length_nil] at hbd;omega
   clear hbd;obtain ⟨st,QM⟩:∃ st,(p.au.take k).foldl (jB p aI) ([],none)=st:=⟨_,rfl⟩;rw [QM] at pJ iG xH ZK;obtain ⟨S,s⟩:=st;simp only at pJ iG ZK;rw [hax] at xH hvm hwk;unfold jB at xH;simp only at xH;have xI:=Lib.hid xH;have ZL:=Lib.hid hax;have Iu:=Lib.hid QM;obtain ⟨b,o,rfl,hlb,c0,c1,c2,c3,c4,c5⟩:=(iV.out.mono Hb.out).ar hlt;obtain ⟨Av,cv,hva,-,-,hRv⟩:=BD.out k hlt;rw [hva] at c3;obtain ⟨y,hy⟩:∃ y,al[k]=y:=⟨_,rfl⟩;rw [hy] at c0 c1 c2 c3 c4 c5 hvm hwk xI ZL;clear hy hva hRv xH hax QM;have ZN:=Lib.hid ZL.out;obtain ⟨⟨iM,vI,vJ,V,vK,vM⟩,yv⟩:=y;simp only at c0 c1 c2 c3 c4 c5 hvm hwk xI ZN;have k1:(k:Int)<al.length:=by omega
   have k2:0<=(k:Int):=by omega
   go_upto_region 6 with fail;obtain ⟨g11,xJ⟩:∃ g,g=wo.heap.size:=⟨_,rfl⟩;obtain ⟨W2,hW⟩:∃ W:World,W=wo.alloc (.cells #[.int .i64 iM,.int .i64 vI,.int .i64 vJ,.slice Av V.length cv,.int .i64 vK,.int .i64 vM] 50):=⟨_,rfl⟩;have iL:ah W2 g11 50 #[.int .i64 iM,.int .i64 vI,.int .i64 vJ,.slice Av V.length cv,.int .i64 vK,.int .i64 vM]:=by rw [hW,xJ];exact ah.made rfl _ _
   have hA2:Below wo.heap.size wo W2:=by rw [hW];exact bA (bR wo) _
   have QN:=Lib.hid (pJ.out.keep hA2);have LG:=Lib.hid (iG.out.keep hA2);have ng:=Lib.hid (HX.out.keep hA2);have HB2:=Lib.hid (bT Hb.out hA2);have ajS:gm<g11:=by rw [xJ];exact iG.out.lt
   have m4:g4<g11:=by rw [xJ];exact pJ.out.a.lt
   have m5:g5<g11:=by rw [xJ];exact pJ.out.b.lt
   have m6:g6<g11:=by rw [xJ];exact pJ.out.c.lt
   have m7:g7<g11:=by rw [xJ];exact pJ.out.d.lt
   have m2:w.heap.size<g11:=by rw [xJ];exact HX.out.lt
   rw [<- hW,<- xJ];have Ci:=Lib.hid iL;have hlk:=LG.out.look iM hwk;clear hW hA2 xJ c0 c1 c2 c3 c4 c5 hlb pJ iG HX Hb;obtain ⟨kU,kV,mG,qY,qZ,ru,rC,-,-,-,-,-,-⟩:=iL.eY;by_cases hin:iM∈S
   ·rw [decide_eq_true hin] at hlk;have hs:=Lib.hid (show (p.au.take (k+1)).foldl (jB p aI) ([],none)=(S,s) from xI.out.trans (if_pos (by simpa using hin)));clear hin;go_wp2_with fail;go_roundw
    case rel => exact ⟨k+1,by omega,by go_num,by rw [hs.out];exact QN.out,by rw [hs.out];exact LG.out,ng.out,HB2.out⟩
    case measure => simp [intOf];omega
   rw [decide_eq_false hin] at hlk;obtain ⟨w3,hr3,kG,hg3⟩:=LG.out.upd (by omega) iM hwk hin;have hs:=Lib.hid (show (p.au.take (k+1)).foldl (jB p aI) ([],none)=(S++[iM],(lV p aI iM).foldl mV s) from xI.out.trans (if_neg (by simpa using hin)));have ZP:=Lib.hid kG;have ZQ:=Lib.hid (QN.out.grown hg3 GV ZI ZJ Ky);have CP:=Lib.hid (ng.out.grown hg3 (fun e=>by have:=Option.some.inj e;omega));have QO:=Lib.hid (Ci.out.grown hg3 (fun e=>by have:=Option.some.inj e;omega));have HB3:=Lib.hid (bG HB2.out hg3 (fun g hg=>by have:=Option.some.inj hg;omega));have agO:=Lib.hid hin;have hsn:=hs.out;clear hin xI kG hg3 hs;go_upto_region 8 with fail;clear hlk hr3 iL kU kV mG qY qZ ru rC QN LG ng Ci HB2;have X2:=CP.out;have iL:=QO.out
   try clear bF
   try clear bH
   try clear bI
   try clear bM
   obtain ⟨bF,bH,bI,bM,-,-,-⟩:=X2.aJ
   try clear kU
   try clear kV
   try clear mG
   try clear qY
   try clear qZ
   try clear ru
   try clear rC
   obtain ⟨kU,kV,mG,qY,qZ,ru,rC,-,-,-,-,-,-⟩:=iL.eY;go_wp2_with fail;refine (HP.out iM _ HB3.out).mono ?_;rintro e w4 ⟨A4,c4,rfl,hb4,lW⟩;have HB4:=Lib.hid (bT HB3.out hb4);have QS:=Lib.hid (ZQ.out.keep hb4);have QT:=Lib.hid (ZP.out.keep hb4);have ES:=Lib.hid (CP.out.keep hb4);have QU:=Lib.hid (QO.out.keep hb4);clear hb4 X2 bF bH bI bM iL kU kV mG qY qZ ru rC ZQ ZP CP QO HB3;obtain ⟨Y,hY⟩:∃ Y:Ar,(⟨iM,vI,vJ,V,vK,vM⟩:Ar)=Y:=⟨_,rfl⟩;have hfa:findAr p.au iM=some Y:=by
    have hnot:=agO.out;have hm:=(ZF (p:=p) (aI:=aI) (p.au.take k) ([],none)).1;rw [Iu.out] at hm;have hk':=ZN.out;rw [hY] at hk';unfold findAr;rw [<- hk'];refine Fj p.au _ k hkp (fun j hj hjk=>?_) ?_
    ·simp only [beq_eq_false_iff_ne,ne_eq];intro e;apply hnot;rw [<- e];exact hm _ (by
      have:p.au[j]=(p.au.take k)[j]'(by rw [List.length_take];omega):=by rw [List.getElem_take]
      rw [this];exact List.getElem_mem _)
    ·rw [hk',<- hY];simp
   have hcd:lV p aI iM=if jk p Y=true then oN p aI Y (aK p Y) V.length else []:=by
    unfold lV;rw [hfa];simp only;rw [show Y.via=V by rw [<- hY]]
   have hpo:=QH hfa;have hpl:(aK p Y).length=V.length+2:=by rw [jQ,<- hY]
   rw [hpo] at lW ⊢;rw [hcd] at hsn;have QV:=Lib.hid hsn;clear hcd hpo hfa hsn;by_cases he:jk p Y=true
   case neg =>
    have hs:=Lib.hid (show (p.au.take (k+1)).foldl (jB p aI) ([],none)=(S++[iM],s) by rw [QV.out,if_neg he];rfl);rw [if_neg he];simp only [Option.isSome_none,Bool.false_eq_true,if_false];clear lW he hpl hY;go_wp2_with fail;go_roundw
    case rel => exact ⟨k+1,by omega,by go_num,by rw [hs.out];exact QS.out,by rw [hs.out];exact QT.out,ES.out,HB4.out⟩
    case measure => simp [intOf];omega
   rw [if_pos he] at lW ⊢;have hsn:=QV.out;rw [if_pos he] at hsn;simp only [Option.getD_some,Option.isSome_some,if_true] at lW ⊢;obtain ⟨P,hP⟩:∃ P,aK p Y=P:=⟨_,rfl⟩;rw [hP] at hsn hpl lW ⊢;have ZR:Y.id=iM:=by rw [<- hY]
   have hU:=fun m=>agN (p:=p) (aI:=aI) (a:=Y) (P:=P) (m:=m) s;rw [ZR] at hU;have HU:=Lib.hid hU;have agP:=Lib.hid hsn;obtain ⟨F,hF⟩:∃ F:Nat->Option Cd,(fun m=>(oN p aI Y P m).foldl mV s)=F:=⟨_,rfl⟩;have hF':∀ m,(oN p aI Y P m).foldl mV s=F m:=fun m=>congrFun hF m;have ZT:F 0=s:=by rw [<- hF'];rfl
   have LH:=Lib.hid (fun m=>show F (m+1)=if (decide (nH P m<aI) && (CJ (F m) ⟨iM,m,nH P m⟩ && pz p Y P m))=true then some ⟨iM,m,nH P m⟩ else F m by rw [<- hF',<- hF'];exact hU m);rw [hF'] at hsn;have agQ:=Lib.hid hsn;have HF0:=Lib.hid ZT;have QW:=Lib.hid (fun m W (hW:Below w.heap.size w W) (hQ:bU W (.slice A4 P.length c4) P) (hi:m<V.length)=>show Calls Tryz.prog 94 #[.agg #[.slice An nn cn,.slice (some ⟨b,o,none⟩) al.length ca,.slice Af nf cf],.agg #[.int .i64 iM,.int .i64 vI,.int .i64 vJ,.slice Av V.length cv,.int .i64 vK,.int .i64 vM],.slice A4 P.length c4,.int .i64 m] W fun e w'=>e=.returned (.bool (pz p Y P m))/\Below W.heap.size W w' from by
    subst hY;exact qW.out ⟨iM,vI,vJ,V,vK,vM⟩ Av cv (.slice A4 P.length c4) P m W hW hQ hi hpl)
   clear hF hF' hU hsn ZT hP ZR he hY QV agP HU;have ni:=Lib.hid lW;rw [hpl] at ni QW ⊢;have lS:=Lib.hid hpl;obtain ⟨np,hnp⟩:∃ n,V.length+2=n:=⟨_,rfl⟩;rw [hnp] at ni QW lS ⊢;have iL:=QU.out;clear lW hpl
   try clear kU
   try clear kV
   try clear mG
   try clear qY
   try clear qZ
   try clear ru
   try clear rC
   obtain ⟨kU,kV,mG,qY,qZ,ru,rC,-,-,-,-,-,-⟩:=iL.eY;go_upto_block 2 with fail;clear iL kU kV mG qY qZ ru rC;go_wp2_with fail;go_loopw [44] (fun u wr=>∃ m:Nat,m<=V.length/\u=.int .i64 m/\oO wr g4 g5 g6 g7 (F m)/\gK wr gm (S++[iM])/\ah wr w.heap.size 26 #[.slice An nn cn,.slice (some ⟨b,o,none⟩) al.length ca,.slice Af nf cf]/\ah wr g11 50 #[.int .i64 iM,.int .i64 vI,.int .i64 vJ,.slice Av V.length cv,.int .i64 vK,.int .i64 vM]/\Own wr w3.heap.size 39 2 dG (.slice A4 np c4) P/\Below w.heap.size w wr) (fun u _=>V.length-(intOf u).toNat)
   case atStart => exact ⟨0,Nat.zero_le _,rfl,by rw [HF0.out];exact QS.out,QT.out,ES.out,QU.out,ni.out,HB4.out⟩
   case round =>
    obtain ⟨m,hm,rfl,hls,hst,X2,iL,hop,hb⟩:=hrel;obtain ⟨wm,rfl⟩:∃ wm:World,wm=wr:=⟨_,rfl⟩;have QX:=Lib.hid hls;have QY:=Lib.hid hst;have QZ:=Lib.hid X2;have ZU:=Lib.hid iL;have Q5:=Lib.hid hop;have Q7:=Lib.hid hb;clear hls hst hop hb QS QT ES QU ni HB4;by_cases hml:m<V.length
    ·obtain ⟨AA,cc,he,-,-,oI⟩:=Q5.out.sl;injection he with e1 e2 e3;subst e1;clear e2 e3;have hPl:=lS.out;obtain ⟨bp,op,hA1,hlp,d0,d1⟩:=oI.pt (show m<P.length by omega);obtain ⟨b',o',hA2,-,d2,d3⟩:=oI.pt (show m+1<P.length by omega);obtain ⟨b'',o'',hA3,-,d4,d5⟩:=oI.pt (show m+2<P.length by omega);subst hA1;injection hA2 with hA2;injection hA2 with q1 q2 _;subst q1 q2;injection hA3 with hA3;injection hA3 with q1 q2 _;subst q1 q2;have hsz:nH P m=(let t:=jF P[m] P[m+1] P[m+2];if t<0 then -t else t):=by
      unfold nH;rw [List.getD_eq_getElem?_getD,List.getElem?_eq_getElem (show m<P.length by omega),List.getD_eq_getElem?_getD,List.getElem?_eq_getElem (show m+1<P.length by omega),List.getD_eq_getElem?_getD,List.getElem?_eq_getElem (show m+2<P.length by omega)];rfl
     generalize P[m]=t1 at *;generalize P[m+1]=t2 at *;generalize P[m+2]=t3 at *;have HT1:=Lib.hid (fun W=>EJ.out t1 t2 t3 W);have htb:=agL t1 t2 t3;unfold aF at HT1;generalize jF t1 t2 t3=T at *;have hfs:=LH.out m;obtain ⟨N,hN⟩:∃ N,nH P m=N:=⟨_,rfl⟩;rw [hN] at hsz hfs;simp only at hsz;have hmx:(if T < -T then -T else T)=N:=by rw [hsz];split<;>split<;>omega
     have ZV:max T (-T)=N:=by rw [hsz];split<;>omega
     have hkw:IntKind.i64.wrap (-T)=-T:=IntWalk.i64_in _ (by omega);obtain ⟨z1,hz1⟩:∃ z,CJ (F m) ⟨iM,m,N⟩=z:=⟨_,rfl⟩;obtain ⟨z2,hz2⟩:∃ z,pz p Y P m=z:=⟨_,rfl⟩;rw [hz1,hz2] at hfs;have HZ1:=Lib.hid hz1;have HZ2:=Lib.hid hz2;have ZW:=Lib.hid hfs;have ZX:=Lib.hid hmx;have LJ:=Lib.hid ZV;have r0:0<=(m:Int):=by omega
     have r1:(m:Int)<np:=by omega
     have r2:(m:Int)+1<np:=by omega
     have r3:(m:Int)+2<np:=by omega
     have r4:0<=(m:Int)+1:=by omega
     have r5:0<=(m:Int)+2:=by omega
     have r6:((m:Int)+2).toNat=m+2:=by omega
     have r7:(m:Int)<V.length:=by omega
     have Zk:IntKind.i64.wrap ((m:Int)+1)=(m:Int)+1:=IntWalk.i64_in _ (by omega);have Zl:IntKind.i64.wrap ((m:Int)+2)=(m:Int)+2:=IntWalk.i64_in _ (by omega);clear hN hsz hz1 hz2 hfs hPl oI X2 iL hmx ZV htb;go_upto_region 13 with fail;refine dN (Since wm) (.run 14 0 0 (.call 14 32767 (.take 15 65535 (.done)))) (by kernel_rfl) (bD (bR _)) (by kernel_rfl) (by kernel_rfl) (Nat.le_of_ble_eq_true (by kernel_rfl)) ?_;intro dO QR aj aA hS
     iterate 14
      apply aH;exact aj;exact rfl;exact hS;exact rfl
      · intro _ hqc;go_simp;try rfl
      try simp only [pu]
     refine aS (i:=14) (aB aj rfl) (fun K hK=>?_);have ak:=Lib.hid hS;clear hS;refine aG (aN rfl) ?_;go_simp;refine (HT1.out _).mono ?_;rintro e bY ⟨rfl,dB⟩;have hS:Since wm bY:=bT (w:=wm) ak.out dB;clear ak;refine hK.out _ _ hS (fun _=>?_);clear hK K
     try simp only [pu]
     apply aH;exact aj;exact rfl;exact hS;exact rfl
     · intro _ hqc;go_simp;try rfl
     try simp only [pu]
     refine dF ?_;refine aA.down _ _ ?_;have hB:Below wm.heap.size wm bY:=hS;clear hS aA aj;have hBm:=hB;have LK:=Lib.hid (QX.out.keep hBm);have Q8:=Lib.hid (QY.out.keep hBm);have ng:=Lib.hid (QZ.out.keep hBm);have LM:=Lib.hid (ZU.out.keep hBm);have LP:=Lib.hid (Q5.out.keep hBm);have LQ:=Lib.hid (bT Q7.out hBm);clear hB hBm dB QX QY QZ ZU Q5 Q7 HT1 d0 d1 d2 d3 d4 d5 hlp r1 r2 r3 r4 r5 r6 Zk Zl;obtain ⟨wn,hwn⟩:∃ w:World,w=bY:=⟨_,rfl⟩;rw [<- hwn] at LK Q8 ng LM LP LQ ⊢;clear hwn;go_upto_region 15 with fail
     first | rw [ZX.out] | rw [LJ.out]
     clear hkw;obtain ⟨z3,hz3⟩:∃ z,(decide (N<aI) && (z1 && z2))=z:=⟨_,rfl⟩;have hfm:=ZW.out;rw [hz3] at hfm;have LU:=Lib.hid hfm;clear hfm;go_cut [83] (fun u wx=>u=.bool z3/\Below wn.heap.size wn wx)
     case first =>
      have iL:=LM.out;have X2:=ng.out;have Q9:=Lib.hid (CO.out (F m) ⟨iM,m,N⟩ g4 g5 g6 g7 wn LK.out);rw [HZ1.out] at Q9;have ZY:=Lib.hid (QW.out m wn LQ.out (by unfold bU;rw [lS.out];have h:=LP.out.sl;rw [lS.out] at h;exact h) hml);rw [HZ2.out] at ZY;by_cases hnt:N<aI
      case neg =>
       have q:=Lib.hid (show z3=false by rw [<- hz3,decide_eq_false hnt];rfl);clear hz3;go_wp2_with fail;go_meet
       case rel => exact ⟨by rw [q.out],bR wn⟩
      try clear kU
      try clear kV
      try clear mG
      try clear qY
      try clear qZ
      try clear ru
      try clear rC
      obtain ⟨kU,kV,mG,qY,qZ,ru,rC,-,-,-,-,-,-⟩:=iL.eY
      try clear bF
      try clear bH
      try clear bI
      try clear bM
      obtain ⟨bF,bH,bI,bM,-,-,-⟩:=X2.aJ
      cases z1
      case false =>
       have q:=Lib.hid (show z3=false by rw [<- hz3];simp);clear hz3;go_wp2_with fail;refine Q9.out.mono ?_;rintro e w' ⟨rfl,rfl⟩;go_wp2_with fail;go_meet
       case rel => exact ⟨by rw [q.out],bR wn⟩
      have q:=Lib.hid (show z2=z3 by rw [<- hz3,decide_eq_true hnt];rfl);clear hz3;go_wp2_with fail;refine Q9.out.mono ?_;rintro e w' ⟨rfl,rfl⟩;go_wp2_with fail;refine ZY.out.mono ?_;rintro e w5 ⟨rfl,hb5⟩;go_wp2_with fail;go_meet
      case rel => exact ⟨by rw [q.out],hb5⟩
     case rest =>
     obtain ⟨rfl,hbc⟩:=hcut;obtain ⟨wq,hwq⟩:∃ w:World,w=wc:=⟨_,rfl⟩;rw [<- hwq] at hbc ⊢;have qP:=Lib.hid (LK.out.keep hbc);have Rf:=Lib.hid (Q8.out.keep hbc);have Rh:=Lib.hid (ng.out.keep hbc);have LV:=Lib.hid (LM.out.keep hbc);have vN:=Lib.hid (LP.out.keep hbc);have Ri:=Lib.hid (bT LQ.out hbc);clear hwq hbc hz3 LK Q8 ng LM LP LQ ZW ZX LJ HZ1 HZ2
     cases z3
     case false =>
      have hf:=LU.out;rw [if_neg (by simp)] at hf;have Hf:=Lib.hid hf;clear hf LU;go_wp2_with fail;go_roundw
      case rel => exact ⟨m+1,by omega,by go_num,by rw [Hf.out];exact qP.out,Rf.out,Rh.out,LV.out,vN.out,Ri.out⟩
      case measure => simp [intOf];omega
     case true =>
      have hf:=LU.out;rw [if_pos rfl] at hf;have Hf:=Lib.hid hf;have iL:=LV.out;have X4:=qP.out.a;have X5:=qP.out.b;have X6:=qP.out.c;have X7:=qP.out.d;clear hf LU;generalize (F m).elim 0 (·.id)=y1 at X4;generalize ((F m).elim 0 fun c=>(c.k:Int))=y2 at X5;generalize (F m).elim 0 (·.n)=y3 at X6;generalize (F m).isSome=y4 at X7
      try clear kU
      try clear kV
      try clear mG
      try clear qY
      try clear qZ
      try clear ru
      try clear rC
      obtain ⟨kU,kV,mG,qY,qZ,ru,rC,-,-,-,-,-,-⟩:=iL.eY;obtain ⟨aU,aV,dW⟩:=X4.fC;obtain ⟨bV,bW,ET⟩:=X5.fC;obtain ⟨gu,gI,Rj⟩:=X6.fC;obtain ⟨fU,fV,Du⟩:=X7.fC;go_upto_region 17 with fail;obtain ⟨W5,hW⟩:∃ W:World,W=(((wq.setCell ⟨g4,0,none⟩ (.int .i64 iM)).setCell ⟨g5,0,none⟩ (.int .i64 m)).setCell ⟨g6,0,none⟩ (.int .i64 N)).setCell ⟨g7,0,none⟩ (.bool true):=⟨_,rfl⟩;have HL5:=Lib.hid (show oO W5 g4 g5 g6 g7 (some ⟨iM,m,N⟩) by rw [hW];exact qP.out.put n45 n46 n47 n56 n57 n67 ⟨iM,m,N⟩);have vO:=Lib.hid (show gK W5 gm (S++[iM]) by rw [hW];exact gK.far (gK.far (gK.far (gK.far Rf.out GV) ZI) ZJ) Ky);have agR:=Lib.hid (show ah W5 w.heap.size 26 #[.slice An nn cn,.slice (some ⟨b,o,none⟩) al.length ca,.slice Af nf cf] by rw [hW];exact (((Rh.out.far (p:=⟨g4,0,none⟩) (by show w.heap.size≠g4;omega) _).far (p:=⟨g5,0,none⟩) (by show w.heap.size≠g5;omega) _).far (p:=⟨g6,0,none⟩) (by show w.heap.size≠g6;omega) _).far (p:=⟨g7,0,none⟩) (by show w.heap.size≠g7;omega) _);have agS:=Lib.hid (show ah W5 g11 50 #[.int .i64 iM,.int .i64 vI,.int .i64 vJ,.slice Av V.length cv,.int .i64 vK,.int .i64 vM] by rw [hW];exact (((LV.out.far (p:=⟨g4,0,none⟩) (by show g11≠g4;omega) _).far (p:=⟨g5,0,none⟩) (by show g11≠g5;omega) _).far (p:=⟨g6,0,none⟩) (by show g11≠g6;omega) _).far (p:=⟨g7,0,none⟩) (by show g11≠g7;omega) _);have vP:=Lib.hid (show Own W5 w3.heap.size 39 2 dG (.slice (some ⟨bp,op,none⟩) np c4) P by
       rw [hW];have f4:=Own.fD vN.out qP.out.a (by decide);have f5:=Own.fD vN.out qP.out.b (by decide);have f6:=Own.fD vN.out qP.out.c (by decide);have f7:=Own.fD vN.out qP.out.d (by decide);exact (((vN.out.far (p:=⟨g4,0,none⟩) f4 _).far (p:=⟨g5,0,none⟩) f5 _).far (p:=⟨g6,0,none⟩) f6 _).far (p:=⟨g7,0,none⟩) f7 _)
      have cO:=Lib.hid (show Below w.heap.size w W5 by rw [hW];exact bS (p:=⟨g7,0,none⟩) (bS (p:=⟨g6,0,none⟩) (bS (p:=⟨g5,0,none⟩) (bS (p:=⟨g4,0,none⟩) Ri.out (by show w.heap.size<=g4;omega) _) (by show w.heap.size<=g5;omega) _) (by show w.heap.size<=g6;omega) _) (by show w.heap.size<=g7;omega) _);rw [<- hW];clear hW iL kU kV mG qY qZ ru rC X4 aU aV dW X5 bV bW ET X6 gu gI Rj X7 fU fV Du qP Rf Rh LV vN Ri;go_wp2_with fail;go_roundw
      case rel => exact ⟨m+1,by omega,by go_num,by rw [Hf.out];exact HL5.out,vO.out,agR.out,agS.out,vP.out,cO.out⟩
      case measure => simp [intOf];omega
    ·obtain rfl:m=V.length:=by omega
     have hs:=agQ.out;have Hs:=Lib.hid hs;clear hs X2 iL;go_wp2_with fail;go_roundw
     case rel => exact ⟨k+1,by omega,by go_num,by rw [Hs.out];exact QX.out,by rw [Hs.out];exact QY.out,QZ.out,Q7.out⟩
     case measure => simp [intOf];omega
  ·obtain rfl:k=al.length:=by omega
   have hfull:p.au.take al.length=p.au:=List.take_of_length_le (by rw [vC.out];exact Nat.le_refl _);rw [hfull] at pJ;obtain ⟨X4,X5,X6,X7⟩:=HZ.out wo g4 g5 g6 g7 pJ.out;clear hfull hbd;have dJ:=Lib.hid X4;have bP:=Lib.hid X5;have nZ:=Lib.hid X6;have lK:=Lib.hid X7;go_upto_region 19 with fail
   try clear aU
   try clear aV
   try clear dW
   obtain ⟨aU,aV,dW⟩:=X4.fC
   try clear bV
   try clear bW
   try clear ET
   obtain ⟨bV,bW,ET⟩:=X5.fC
   try clear gu
   try clear gI
   try clear Rj
   obtain ⟨gu,gI,Rj⟩:=X6.fC
   try clear fU
   try clear fV
   try clear Du
   obtain ⟨fU,fV,Du⟩:=X7.fC;go_region;rw [LD dJ.out,LD bP.out,LD nZ.out,LD lK.out];go_wp2_with fail;exact agH rfl QJ QJ QJ agK rfl rfl rfl rfl rfl dJ.out.drew bP.out.drew nZ.out.drew lK.out.drew ⟨rfl,bD Hb.out⟩
end Go.Proofs.YtialfdomhoojiaaGreat
