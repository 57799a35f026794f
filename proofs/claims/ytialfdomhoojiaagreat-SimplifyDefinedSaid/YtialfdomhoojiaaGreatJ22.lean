import Derived.Test.YtialfdomhoojiaaGreatSimC
import Derived.Maps.OwnSet
import Derived.BigRegion
set_option linter.unusedSimpArgs false
set_option linter.unusedVariables false
set_option maxRecDepth 100000
set_option maxHeartbeats 8000000
namespace Go.Proofs.YtialfdomhoojiaaGreat
open Go.RowKit
theorem mF.short {p:Pl} (h:mF p):Short p:=fun a ha=>avZ (h.via a ha) Pe
theorem abB {p:Pl} {id:Int} {a:Ar} (h:findAr p.aj id=some a):pathOf p id=if jD p a=true then some (au p a) else none:=by
 unfold pathOf;rw [h]
theorem WE (v:Value) (p:Pl) (arc i:Int) (w:World) (h:bQ w v p) (hm:mF p) :
  Calls Tryz.prog 38 #[v,.int .i64 arc,.int .i64 i] w fun e w'=>e=.returned (.bool (rW p arc i))/\Below w.heap.size w w':=by
 have HA:=avE (fun W (hW:Below w.heap.size w W)=>adn v p arc W (h.mono hW) hm.short);have HP:=avE (fun W (hW:Below w.heap.size w W)=>Nz v p arc W (h.mono hW) hm.short);have zO:=avE (fun a A c vp P i W (hW:Below w.heap.size w W) (hP:dM W vp P) (hi:i<a.via.length) (hl:P.length=a.via.length+2)=>free_spec v vp p a A c P i W (h.mono hW) hP hm hi hl);have hvl:=hm.via;obtain ⟨R,hR⟩:∃ R,rW p arc i=R:=⟨_,rfl⟩;rw [hR];unfold rW at hR;have HR:=avE hR;obtain ⟨_,_,_,al,rfl,-,⟨An,cn,rfl,-⟩,⟨⟨Aa,ca,rfl,-⟩,-⟩,⟨Af,cf,rfl,-⟩⟩:=h;generalize p.nodes.length=nn at *;generalize p.faces.length=nf at *;generalize al.length=na at *;clear hR hm;go_enter Tryz.func38,Tryz.ntmps38;go_upto_region 1 with fail;obtain ⟨W1,hW⟩:∃ W:World,W=w.alloc (.cells #[.slice An nn cn,.slice Aa na ca,.slice Af nf cf] 26):=⟨_,rfl⟩;have X3:ah W1 w.heap.size 26 #[.slice An nn cn,.slice Aa na ca,.slice Af nf cf]:=by rw [hW];exact ah.made rfl _ _
 have HB1:=avE (show Below w.heap.size w W1 by rw [hW];exact bA (bR w) _);rw [<- hW];clear hW;have dW:=avE X3;obtain ⟨bH,bU,bY,fP,-,-,-⟩:=X3.aF;go_wp2_with fail;refine (HA.out _ HB1.out).mono ?_;rintro e w2 ⟨va,rfl,hb2,hpv⟩;have HB2:=avE (bT HB1.out hb2);have yF:=avE (dW.out.keep hb2);clear hb2 X3 bH bU bY fP dW HB1 HA;obtain ⟨Av,cv,rfl,hv1,hv2,-⟩:=hpv;unfold maxLen at hv2;obtain ⟨r,hr⟩:∃ r,findAr p.aj arc=r:=⟨_,rfl⟩;rw [hr] at hv1 ⊢;have fH:=HR.out;rw [hr] at fH;have Hr:=avE hr;have hpo:=fun a (h:findAr p.aj arc=some a)=>abB h;have rP:=avE hpo;clear hr HR hpo
 cases r with
 | none =>
  have hf:=avE (show R=false by rw [<- fH]);clear fH;unfold jZ;simp only [Option.getD_none];simp only [Option.getD_none] at hv1;go_wp2;go_ret;exact ⟨aY (by rw [hf.out]),bA HB2.out _⟩
 | some a =>
  have hav:=hvl a (CW Hr.out);simp only [avU] at hv1 ⊢;simp only at fH;have Sr:=rP.out a Hr.out;rw [Sr] at HP;unfold jZ;obtain ⟨vn,hvn⟩:∃ n,a.via.length=n:=⟨_,rfl⟩;rw [hvn] at hv1 hav fH ⊢;have WG:=avE hvn;clear hvn rP Sr hvl;go_upto_region 2 with fail;obtain ⟨W3,hW⟩:∃ W:World,W=w2.alloc (.cells #[.int .i64 a.id,.int .i64 a.fr,.int .i64 a.dst,.slice Av vn cv,.int .i64 a.left,.int .i64 a.right] 50):=⟨_,rfl⟩;have X7:ah W3 w2.heap.size 50 #[.int .i64 a.id,.int .i64 a.fr,.int .i64 a.dst,.slice Av vn cv,.int .i64 a.left,.int .i64 a.right]:=by rw [hW];exact ah.made rfl _ _
  have hA3:Below w2.heap.size w2 W3:=by rw [hW];exact bA (bR w2) _
  have HB3:=avE (bT HB2.out hA3);have X3:=yF.out.keep hA3;have apI:=avE X3;have lS:=avE X7;rw [<- hW];clear hW hA3 yF HB2;by_cases hi0:i<0
  ·rw [if_pos (.inl hi0)] at fH;have hf:=avE (show R=false by rw [<- fH]);clear fH;go_wp2;go_ret;exact ⟨aY (by rw [hf.out]),HB3.out⟩
  obtain ⟨dY,dZ,gI,oM,Ig,Ih,Ii,-,-,-,-,-,-⟩:=X7.gX;by_cases hi1:(vn:Int)<=i
  ·rw [if_pos (.inr hi1)] at fH;have hf:=avE (show R=false by rw [<- fH]);clear fH;go_wp2;go_ret;exact ⟨aY (by rw [hf.out]),HB3.out⟩
  rw [if_neg Pe] at fH;obtain ⟨m,rfl⟩:∃ m:Nat,i=m:=⟨i.toNat,by omega⟩;have hmn:m<vn:=by omega
  rw [Int.toNat_natCast] at fH;have fH:=avE fH;clear hav;go_upto_region 4 with fail;clear X7 dY dZ gI oM Ig Ih Ii
  try clear bH
  try clear bU
  try clear bY
  try clear fP
  obtain ⟨bH,bU,bY,fP,-,-,-⟩:=X3.aF;by_cases he:jD p a=true
  case neg =>
   rw [if_neg he] at HP;have hf:=avE (show R=false by rw [<- fH.out,if_neg he]);clear he fH;go_wp2_with fail;refine (HP.out _ HB3.out).mono ?_;rintro e w4 ⟨A4,c4,rfl,hb4,-⟩;have HB4:=avE (bT HB3.out hb4);clear hb4;simp only [Option.getD_none,avN,Option.isSome_none,Bool.false_eq_true,if_false];go_wp2;go_ret;exact ⟨aY (by rw [hf.out]),HB4.out⟩
  rw [if_pos he] at HP;have hR:=fH.out;rw [if_pos he] at hR;have HR:=avE hR;clear he fH hR;go_wp2_with fail;refine (HP.out _ HB3.out).mono ?_;rintro e w4 ⟨A4,c4,rfl,hb4,jI⟩;have hpl:(au p a).length=a.via.length+2:=ig p a;simp only [avU,Option.isSome_some,if_true] at jI ⊢;have yG:=avE (fun W (hW:Below w4.heap.size w4 W)=>zO.out a Av cv (.slice A4 (au p a).length c4) (au p a) m W (bT HB3.out (bT hb4 hW)) (jI.sl.mono hW) (by rw [WG.out];exact hmn) hpl);unfold jZ at yG;rw [WG.out,HR.out] at yG;have HB4:=avE (bT HB3.out hb4);have X3:=apI.out.keep hb4;have X7:=lS.out.keep hb4;clear hb4 jI hpl zO bH bU bY fP;generalize au p a=PP at *;generalize PP.length=np at *;go_upto_region 5 with fail
  try clear bH
  try clear bU
  try clear bY
  try clear fP
  obtain ⟨bH,bU,bY,fP,-,-,-⟩:=X3.aF
  try clear dY
  try clear dZ
  try clear gI
  try clear oM
  try clear Ig
  try clear Ih
  try clear Ii
  obtain ⟨dY,dZ,gI,oM,Ig,Ih,Ii,-,-,-,-,-,-⟩:=X7.gX;go_wp2_with fail;refine (yG.out _ (bR _)).mono ?_;rintro e w5 ⟨rfl,hb5⟩;have bC:=avE (bT HB4.out hb5);clear hb5;go_wp2;go_ret;exact ⟨rfl,bC.out⟩
def jM (w:World) (b:Nat) (S:List Int):Prop :=
 ∃ D:DataW Unit,w.ownsMap Tryz.prog 3 Vd b S.length D/\Maps.size D=S.length/\(∀ id,D.atKey (.int .i64 id) (BD false)=BD (decide (id∈S)))/\∀ id,Maps.has D (.int .i64 id)=decide (id∈S)
theorem jM.kept {w w':World} {b:Nat} {S:List Int} (h:jM w b S) {row:Option Nat} (hg:w.grownBy w' row) (hr:some b≠row):jM w' b S:=by
 obtain ⟨D,h1,h2⟩:=h;exact ⟨D,h1.kept hg hr,h2⟩
theorem jM.keep {w w':World} {b:Nat} {S:List Int} (h:jM w b S) (hb:Below w.heap.size w w'):jM w' b S :=
 h.kept (row:=none) ⟨hb.os,hb.tape,hb.output,hb.size,fun i hi _=>hb.block i hi⟩ ars
theorem jM.lt {w:World} {b:Nat} {S:List Int} (h:jM w b S):b<w.heap.size:=by
 obtain ⟨D,h1,h2⟩:=h;exact h1.lt
theorem jM.made (w:World):jM (w.alloc (.map #[] 0)) w.heap.size [] :=
 ⟨.map [],World.ownsMap_made _ _ _ _,rfl,fun _=>rfl,fun _=>rfl⟩
theorem jM.look {w:World} {b:Nat} {S:List Int} (h:jM w b S) (id:Int) (hid:eU id) :
  (Instr.lookup 139 (.map (some b)) (.int .i64 id) false).run Tryz.prog w=.ok (.bool (decide (id∈S))) w:=by
 obtain ⟨D,h1,-,h2,-⟩:=h;obtain ⟨v,ps,hr,hv⟩:=h1.lookup CB Tryz.underlying139 (ae2 w) (zd:=BD false) (zp:=[]) rfl (Maps.keyOf_int_mk Tryz.underlying3 hid);rw [h2] at hv;rw [hr,ae1 hv]
theorem jM.len {w:World} {b:Nat} {S:List Int} (h:jM w b S) (ty:TypeId) :
  (Builtin.len_ #[139] ty #[.map (some b)]).run Tryz.prog w=.ok (.int .i64 S.length) w:=by
 obtain ⟨D,h1,h2,-⟩:=h;rw [h1.len Tryz.underlying139 ty,h2]
theorem jM.upd {w:World} {b:Nat} {S:List Int} (h:jM w b S) (hn:S.length<4294967296) (id:Int) (hid:eU id) (hx:id∉S) :
  ∃ w',(Instr.mapUpdate 139 (.map (some b)) (.int .i64 id) (.bool true)).run Tryz.prog w=.ok () w'/\jM w' b (S++[id])/\w.grownBy w' (some b):=by
 obtain ⟨D,h1,h2,h3,h4⟩:=h;have ht:=h1.tidy CB;obtain ⟨w',hr,ho,hg⟩:=h1.update CB Tryz.underlying139 (by unfold maxLen;omega) (Maps.keyOf_int_mk Tryz.underlying3 hid) (val:=.bool true) (d:=BD true) (ps:=[]) rfl;refine ⟨w',hr,⟨_,by rw [avL];exact ho,?_,fun i=>?_,fun i=>?_⟩,hg⟩
 · rw [Maps.size_put ht,h4,avV hx,h2,avL];rfl
 ·by_cases e:i=id
  ·subst e;rw [Maps.atKey_put_same ht.isMap (by trivial),avW ars]
  ·rw [Maps.atKey_put_other (fun h=>e (by injection h)),h3];congr 1;simp [e]
 ·by_cases e:i=id
  ·subst e;rw [Maps.has_put_same ht.isMap (by trivial),avW ars]
  ·rw [Maps.has_put_other (fun h=>e (by injection h)),h4];simp [e]
theorem abC {w:World} {gm:Nat} {S:List Int} (h:jM w gm S) {g:Nat} {t:TypeId} {cs:Array Value} (hg:ah w g t cs):g≠gm:=by
 rintro rfl;obtain ⟨D,h1,-⟩:=h;obtain ⟨es,clock,h2,-⟩:=h1;unfold ah at hg;rw [hg] at h2
 cases h2
theorem aho {w:World} {gm:Nat} {S:List Int} (h:jM w gm S) {base:Nat} {e:TypeId} {size:Nat} {α:Type} {fe:α->List Value} {v:Value} {l:List α} (ho:Own w base e size fe v l):v.ownBlock≠some gm:=by
 rcases ho.2 with ⟨rfl,_⟩ | ⟨g,cap,cur,rfl,_,hh,_⟩
 · simp [Value.ownBlock]
 ·intro e';exact abC h (cs:=cur) (g:=g) hh avt
def L8 (s:Option Cd) (c:Cd):Bool :=
 match s with
 | none=>true
 | some b=>if c.n≠b.n then decide (c.n<b.n) else decide (c.id<b.id) || decide (c.id=b.id) && decide (c.k<b.k)
theorem apJ (s:Option Cd) (c:Cd):uh s c=if L8 s c=true then some c else s:=by
 unfold uh L8
 cases s with
 | none=>rfl
 | some b=>rfl
structure xB (W:World) (g4 g5 g6 g7:Nat) (s:Option Cd):Prop where
 a:ah W g4 3 #[.int .i64 (s.elim 0 (·.id))]
 b:ah W g5 3 #[.int .i64 (s.elim 0 fun c=>(c.k:Int))]
 c:ah W g6 3 #[.int .i64 (s.elim 0 (·.n))]
 d:ah W g7 4 #[.bool s.isSome]
theorem xB.keep {W W':World} {g4 g5 g6 g7:Nat} {s:Option Cd} (h:xB W g4 g5 g6 g7 s) (hb:Below W.heap.size W W'):xB W' g4 g5 g6 g7 s :=
 ⟨h.a.keep hb,h.b.keep hb,h.c.keep hb,h.d.keep hb⟩
theorem xB.grown {W W':World} {g4 g5 g6 g7:Nat} {s:Option Cd} (h:xB W g4 g5 g6 g7 s) {gm:Nat} (hg:W.grownBy W' (some gm)) (n4:g4≠gm) (n5:g5≠gm) (n6:g6≠gm) (n7:g7≠gm):xB W' g4 g5 g6 g7 s :=
 ⟨h.a.grown hg (fun e=>n4 (avP e)),h.b.grown hg (fun e=>n5 (avP e)),h.c.grown hg (fun e=>n6 (avP e)),h.d.grown hg (fun e=>n7 (avP e))⟩
theorem apK (s:Option Cd) (c:Cd) (g4 g5 g6 g7:Nat) (w:World) (h:xB w g4 g5 g6 g7 s) :
  Calls Tryz.prog 101 #[.int .i64 c.id,.int .i64 c.k,.int .i64 c.n,.pointer (some ⟨g7,0,none⟩),.pointer (some ⟨g6,0,none⟩),.pointer (some ⟨g4,0,none⟩),.pointer (some ⟨g5,0,none⟩)] w fun e w'=>e=.returned (.bool (L8 s c))/\w=w':=by
 obtain ⟨X4,X5,X6,X7⟩:=h;unfold L8;obtain ⟨id,k,n⟩:=c
 cases s with
 | none =>
  simp only [Option.elim_none,Option.isSome_none] at X4 X5 X6 X7;obtain ⟨aV,aX,-⟩:=X4.iV;obtain ⟨bI,bJ,-⟩:=X5.iV;obtain ⟨fO,fQ,-⟩:=X6.iV;obtain ⟨dY,dZ,-⟩:=X7.iV;go_enter Tryz.func101,Tryz.ntmps101;go_wp2;go_ret;exact ⟨rfl,rfl⟩
 | some b =>
  obtain ⟨id',k',n'⟩:=b;simp only [Option.elim_some,Option.isSome_some] at X4 X5 X6 X7;simp only
  try clear aV
  try clear aX
  obtain ⟨aV,aX,-⟩:=X4.iV
  try clear bI
  try clear bJ
  obtain ⟨bI,bJ,-⟩:=X5.iV
  try clear fO
  try clear fQ
  obtain ⟨fO,fQ,-⟩:=X6.iV
  try clear dY
  try clear dZ
  obtain ⟨dY,dZ,-⟩:=X7.iV
  cases e1:(n != n')
  case true =>
   have hn:=avE (show n≠n' by simpa using e1);rw [if_pos hn.out];by_cases e2:n<n'
   ·rw [avW e2];go_enter Tryz.func101,Tryz.ntmps101;go_wp2;go_ret;exact ⟨rfl,rfl⟩
   ·rw [avV e2];go_enter Tryz.func101,Tryz.ntmps101;go_wp2;go_ret;exact ⟨rfl,rfl⟩
  case false =>
   have hn:=avE (show ¬ n≠n' by simpa using e1);rw [if_neg hn.out];by_cases e2:id<id'
   ·rw [avW e2,Bool.true_or];go_enter Tryz.func101,Tryz.ntmps101;go_wp2;go_ret;exact ⟨rfl,rfl⟩
   ·rw [avV e2,Bool.false_or]
    cases e3:(id == id')
    case false =>
     have hd:=avE (show ¬ id=id' by simpa using e3);rw [avV hd.out,Bool.false_and];go_enter Tryz.func101,Tryz.ntmps101;go_wp2;go_ret;exact ⟨rfl,rfl⟩
    case true =>
     have hd:=avE (show id=id' by simpa using e3);rw [avW hd.out,Bool.true_and];by_cases e4:(k:Int)<k'
     ·rw [avW (show k<k' by omega)];go_enter Tryz.func101,Tryz.ntmps101;go_wp2;go_ret;exact ⟨rfl,rfl⟩
     ·rw [avV (show ¬ k<k' by omega)];go_enter Tryz.func101,Tryz.ntmps101;go_wp2;go_ret;exact ⟨rfl,rfl⟩
theorem xB.put {W:World} {g4 g5 g6 g7:Nat} {s:Option Cd} (h:xB W g4 g5 g6 g7 s) (n45:g4≠g5) (n46:g4≠g6) (n47:g4≠g7) (n56:g5≠g6) (n57:g5≠g7) (n67:g6≠g7) (c:Cd) :
  xB ((((W.setCell ⟨g4,0,none⟩ (.int .i64 c.id)).setCell ⟨g5,0,none⟩ (.int .i64 c.k)).setCell ⟨g6,0,none⟩ (.int .i64 c.n)).setCell ⟨g7,0,none⟩ (.bool true)) g4 g5 g6 g7 (some c):=by
 refine ⟨?_,?_,?_,?_⟩
 ·have:=((((h.a.fF 0 (.int .i64 c.id)).far (p:=⟨g5,0,none⟩) n45 (.int .i64 c.k)).far (p:=⟨g6,0,none⟩) n46 (.int .i64 c.n)).far (p:=⟨g7,0,none⟩) n47 (.bool true))
  simpa using this
 ·have:=(((h.b.far (p:=⟨g4,0,none⟩) (Ne.symm n45) (.int .i64 c.id)).fF 0 (.int .i64 c.k)).far (p:=⟨g6,0,none⟩) n56 (.int .i64 c.n)).far (p:=⟨g7,0,none⟩) n57 (.bool true)
  simpa using this
 ·have:=(((h.c.far (p:=⟨g4,0,none⟩) (Ne.symm n46) (.int .i64 c.id)).far (p:=⟨g5,0,none⟩) (Ne.symm n56) (.int .i64 c.k)).fF 0 (.int .i64 c.n)).far (p:=⟨g7,0,none⟩) n67 (.bool true)
  simpa using this
 ·have:=(((h.d.far (p:=⟨g4,0,none⟩) (Ne.symm n47) (.int .i64 c.id)).far (p:=⟨g5,0,none⟩) (Ne.symm n57) (.int .i64 c.k)).far (p:=⟨g6,0,none⟩) (Ne.symm n67) (.int .i64 c.n)).fF 0 (.bool true)
  simpa using this
theorem apL {w:World} {g:Nat} {t:TypeId} {cs:Array Value} (h:ah w g t cs) {i:Nat} {v:Value} (hv:cs[i]? = some v):w.setCell ⟨g,i,none⟩ v=w:=by
 unfold ah at h;have e:w.heap.modify g (fun
   | .cells c elem frozen=>.cells (if (none:Option Nat).isSome then c else c.setIfInBounds i v) elem frozen
   | o=>o)=w.heap:=by
  apply Array.ext_getElem?;intro k;rw [Array.getElem?_modify];split
  ·rename_i e;subst e;rw [h];simp only [Option.map_some,Option.some.injEq,Option.isSome_none,Bool.false_eq_true,if_false];congr 1;apply Array.ext_getElem?;intro j;rw [Array.getElem?_setIfInBounds];split
   ·rename_i e;subst e;split
    · exact hv.symm
    · rename_i hn;rw [Array.getElem?_eq_none Pe] at hv;cases hv
   · rfl
  · rfl
 show ({w with heap:=w.heap.modify g _}:World)=w
 cases w;congr 1
theorem WH {w:World} {g:Nat} {t:TypeId} {v:Value} (h:ah w g t #[v]):w.setCell ⟨g,0,none⟩ v=w:=apL h rfl
theorem apM {P:Program} {fn:Func} {p q r s:Tmp} {y1 y2 y3 y4 t1 t2 t3 t4:TypeId} {R:Ending->World->Prop} {a:Act} {w:World} {g1 g2 g3 g4:Nat} {v1 v2 v3 v4:Value} (h:fn.results=#[.cell p y1,.cell q y2,.cell r y3,.cell s y4])
  (hS1:∀ w,(isAgg y1).run P w=.ok false w) (hS2:∀ w,(isAgg y2).run P w=.ok false w) (hS3:∀ w,(isAgg y3).run P w=.ok false w) (hS4:∀ w,(isAgg y4).run P w=.ok false w)
  (hp1:a.tmps.getD p undef=.pointer (some ⟨g1,0,none⟩)) (hp2:a.tmps.getD q undef=.pointer (some ⟨g2,0,none⟩)) (hp3:a.tmps.getD r undef=.pointer (some ⟨g3,0,none⟩)) (hp4:a.tmps.getD s undef=.pointer (some ⟨g4,0,none⟩))
  (hd:a.defers=[]) (hb1:ah w g1 t1 #[v1]) (hb2:ah w g2 t2 #[v2]) (hb3:ah w g3 t3 #[v3]) (hb4:ah w g4 t4 #[v4]) (hR:R (.returned (.tuple #[v1,v2,v3,v4])) w):bodyPost P fn R .ret a w:=by
 refine bodyPost_ret ?_ hd hR;have hp1':a.tmps[p]?.getD undef=.pointer (some ⟨g1,0,none⟩):=by simpa using hp1
 have hp2':a.tmps[q]?.getD undef=.pointer (some ⟨g2,0,none⟩):=by simpa using hp2
 have apN:a.tmps[r]?.getD undef=.pointer (some ⟨g3,0,none⟩):=by simpa using hp3
 have apO:a.tmps[s]?.getD undef=.pointer (some ⟨g4,0,none⟩):=by simpa using hp4
 have hc1:w.cell? ⟨g1,0,none⟩=some v1:=by rw [hb1.cell];rfl
 have hc2:w.cell? ⟨g2,0,none⟩=some v2:=by rw [hb2.cell];rfl
 have hc3:w.cell? ⟨g3,0,none⟩=some v3:=by rw [hb3.cell];rfl
 have hc4:w.cell? ⟨g4,0,none⟩=some v4:=by rw [hb4.cell];rfl
 simp only [results,h];simp [hp1',hp2',apN,apO,asAddr,loadVar,Sem.run_bind,Sem.run_pure,Result.andThen,hS1,hS2,hS3,hS4,hc1,hc2,hc3,hc4]
theorem abD:∀ w,(isAgg 3).run Tryz.prog w=.ok false w:=fun _=>by kernel_rfl
theorem apP:∀ w,(isAgg 4).run Tryz.prog w=.ok false w:=fun _=>by kernel_rfl
theorem ahp {p:Pl} {aN:Int}:∀ (l:List Ar) (st:List Int×Option Cd),(∀ a∈l,a.id∈(l.foldl (nS p aN) st).1)/\∀ i∈st.1,i∈(l.foldl (nS p aN) st).1
 | [],st=>⟨fun a h=>by (cases h),fun i h=>h⟩
 | b::l,st=>by
  have ih:=ahp (p:=p) (aN:=aN) l (nS p aN st b);have h1:b.id∈(nS p aN st b).1/\∀ i∈st.1,i∈(nS p aN st b).1:=by
   unfold nS;by_cases e:b.id∈st.1
   ·rw [if_pos (by simpa using e)];exact ⟨e,fun i h=>h⟩
   ·rw [if_neg (by simpa using e)];exact ⟨List.mem_append_right _ (avY.2 rfl),fun i h=>List.mem_append_left _ h⟩
  rw [List.foldl_cons];refine ⟨fun a ha=>?_,fun i hi=>ih.2 _ (h1.2 i hi)⟩;rcases av2.1 ha with rfl | ha
  · exact ih.2 _ h1.1
  · exact ih.1 a ha
theorem apQ (a b c:Pt):-35184372088832<=kY a b c/\kY a b c<=35184372088832:=by
 unfold kY;split
 ·rename_i h;obtain ⟨h1,h2,h3⟩:=J6 h;unfold lim at h1 h2 h3;have m1:=qH (b.x-a.x) (c.y-a.y) 4194304 Pe Pe Pe Pe;have m2:=qH (b.y-a.y) (c.x-a.x) 4194304 Pe Pe Pe Pe;unfold tw;omega
 · omega
theorem jM.far {w:World} {b:Nat} {S:List Int} (h:jM w b S) {g:Nat} (hg:g≠b) {i:Nat} {v:Value}:jM (w.setCell ⟨g,i,none⟩ v) b S :=
 h.kept (row:=some g) ⟨rfl,rfl,rfl,by simp,fun j hj hne=>Below.heap_setCell w ⟨g,i,none⟩ v j (fun e=>hne avA)⟩ (fun e=>hg (avP e).symm)
def OD (s:Option Cd):Value:=.tuple #[.int .i64 (s.elim 0 (·.id)),.int .i64 (s.elim 0 fun c=>(c.k:Int)),.int .i64 (s.elim 0 (·.n)),.bool s.isSome]
theorem ahq {p:Pl} {aN:Int} (st:List Int×Option Cd):∀ (l:List Ar),((l.foldl (nS p aN) st).1).length<=st.1.length+l.length
 | []=>by simp
 | a::l=>by
  rw [List.foldl_cons,avO];have h:=ahq (p:=p) (aN:=aN) (nS p aN st a) l;have:(nS p aN st a).1.length<=st.1.length+1:=by
   unfold nS;split
   · omega
   · simp
  omega
theorem apR {p:Pl} {aN:Int} {k:Nat} (hk:k<p.aj.length):(p.aj.take (k+1)).foldl (nS p aN) ([],none)=nS p aN ((p.aj.take k).foldl (nS p aN) ([],none)) p.aj[k]:=by
 rw [avH hk,List.foldl_append];rfl
theorem apS {p:Pl} {aN:Int} {a:Ar} {P:List Pt} {m:Nat} (s:Option Cd):(uX p aN a P (m+1)).foldl uh s=if (decide (ug P m<aN) && (L8 ((uX p aN a P m).foldl uh s) ⟨a.id,m,ug P m⟩ && yE p a P m))=true then some ⟨a.id,m,ug P m⟩ else (uX p aN a P m).foldl uh s:=by
 rw [V9,List.foldl_append];generalize (uX p aN a P m).foldl uh s=t;by_cases h:(decide (ug P m<aN) && yE p a P m)=true
 ·rw [if_pos h]
  show uh t _=_
  rw [apJ];rw [avR] at h;rw [h.1,h.2,Bool.true_and,Bool.and_true]
 ·rw [if_neg h]
  show t=_
  rw [if_neg];intro e;apply h;rw [avR,avR] at e;rw [avR];exact ⟨e.1,e.2.2⟩
theorem WI (v:Value) (p:Pl) (aN:Int) (w:World) (h:bQ w v p) (hm:mF p) (hw:∀ a∈p.aj,eU a.id) :
  Calls Tryz.prog 40 #[v,.int .i64 aN] w fun e w'=>e=.returned (OD (lY p aN))/\Below w.heap.size w w':=by
 have HP:=avE (fun arc W (hW:Below w.heap.size w W)=>Nz v p arc W (h.mono hW) hm.short);have zO:=avE (fun a A c vp P i W (hW:Below w.heap.size w W) (hP:dM W vp P) (hi:i<a.via.length) (hl:P.length=a.via.length+2)=>free_spec v vp p a A c P i W (h.mono hW) hP hm hi hl);have xk:=avE (fun a b c W=>ade a b c W);have yH:=avE (@apK);have hvl:=hm.via;unfold OD;obtain ⟨zi,hzi⟩:∃ z,(lY p aN).elim 0 (·.id)=z:=⟨_,rfl⟩;obtain ⟨zk,hzk⟩:∃ z,((lY p aN).elim 0 fun c=>(c.k:Int))=z:=⟨_,rfl⟩;obtain ⟨zn,hzn⟩:∃ z,(lY p aN).elim 0 (·.n)=z:=⟨_,rfl⟩;obtain ⟨zb,hzb⟩:∃ z,(lY p aN).isSome=z:=⟨_,rfl⟩;rw [hzi,hzk,hzn,hzb];have HZ:=avE (fun W g4 g5 g6 g7 (h:xB W g4 g5 g6 g7 (lY p aN))=>show ah W g4 3 #[.int .i64 zi]/\ah W g5 3 #[.int .i64 zk]/\ah W g6 3 #[.int .i64 zn]/\ah W g7 4 #[.bool zb] from by
  rw [<- hzi,<- hzk,<- hzn,<- hzb];exact ⟨h.a,h.b,h.c,h.d⟩)
 clear hzi hzk hzn hzb;obtain ⟨_,_,_,al,rfl,hpa,⟨An,cn,rfl,-⟩,⟨⟨Aa,ca,rfl,ha1,ha2,gV⟩,hV⟩,⟨Af,cf,rfl,-⟩⟩:=h;have jr:=avE gV;have KY:=avE hV;have oI:=avE hpa;have Hw:=avE hw;have hal:al.length=p.aj.length:=by rw [hpa,avM]
 have auG:=hm.jX;have qL:=avE hal;generalize p.nodes.length=nn at *;generalize p.faces.length=nf at *;have hmm:=@run_makeMap Tryz.prog;clear gV hV hpa hw hm hal;go_enter Tryz.func40,Tryz.ntmps40;go_upto_region 3 with fail;obtain ⟨gm,hgm⟩:∃ g,g=w.heap.size+1+1+1+1+1:=⟨_,rfl⟩;obtain ⟨g7,kD⟩:∃ g,g=w.heap.size+1+1+1+1:=⟨_,rfl⟩;obtain ⟨g6,lK⟩:∃ g,g=w.heap.size+1+1+1:=⟨_,rfl⟩;obtain ⟨g5,hg5⟩:∃ g,g=w.heap.size+1+1:=⟨_,rfl⟩;obtain ⟨g4,hg4⟩:∃ g,g=w.heap.size+1:=⟨_,rfl⟩;obtain ⟨W1,hW⟩:∃ W:World,W=(((((w.alloc (.cells #[.slice An nn cn,.slice Aa al.length ca,.slice Af nf cf] 26)).alloc (.cells #[.int .i64 0] 3)).alloc (.cells #[.int .i64 0] 3)).alloc (.cells #[.int .i64 0] 3)).alloc (.cells #[.bool false] 4)).alloc (.map #[] 0):=⟨_,rfl⟩;have X2:ah W1 w.heap.size 26 #[.slice An nn cn,.slice Aa al.length ca,.slice Af nf cf]:=by rw [hW];exact (((((ah.made rfl _ _).alloc _).alloc _).alloc _).alloc _).alloc _
 have rD:=avE (show xB W1 g4 g5 g6 g7 none from ⟨by rw [hW];exact ((((ah.made (by simp [hg4]) _ _).alloc _).alloc _).alloc _).alloc _,by rw [hW];exact (((ah.made (by simp [hg5]) _ _).alloc _).alloc _).alloc _,by rw [hW];exact ((ah.made (by simp [lK]) _ _).alloc _).alloc _,by rw [hW];exact (ah.made (by simp [kD]) _ _).alloc _⟩);have mZ:=avE (show jM W1 gm [] by
  have:=jM.made (((((w.alloc (.cells #[.slice An nn cn,.slice Aa al.length ca,.slice Af nf cf] 26)).alloc (.cells #[.int .i64 0] 3)).alloc (.cells #[.int .i64 0] 3)).alloc (.cells #[.int .i64 0] 3)).alloc (.cells #[.bool false] 4))
  rw [hW,hgm];simpa using this)
 have HB1:=avE (show Below w.heap.size w W1 by rw [hW];exact bA (bA (bA (bA (bA (bA (bR w) _) _) _) _) _) _);rw [<- hW,<- hgm,<- kD,<- lK,<- hg5,<- hg4];have n45:g4≠g5:=by omega
 have n46:g4≠g6:=by omega
 have n47:g4≠g7:=by omega
 have n56:g5≠g6:=by omega
 have n57:g5≠g7:=by omega
 have n67:g6≠g7:=by omega
 have Q8:g4≠gm:=by omega
 have n5m:g5≠gm:=by omega
 have n6m:g6≠gm:=by omega
 have VH:g7≠gm:=by omega
 have l4:w.heap.size<g4:=by omega
 have l5:w.heap.size<g5:=by omega
 have l6:w.heap.size<g6:=by omega
 have l7:w.heap.size<g7:=by omega
 have lm:w.heap.size<gm:=by omega
 have dh:=avE X2;clear hW hgm kD lK hg5 hg4 hmm;obtain ⟨aG,aI,aJ,aO,-,-,-⟩:=X2.aF;go_upto_block 0 with fail;clear X2 aG aI aJ aO;go_wp2_with fail;go_loopw [21] (fun u wr=>∃ k:Nat,k<=al.length/\u=.int .i64 k/\xB wr g4 g5 g6 g7 ((p.aj.take k).foldl (nS p aN) ([],none)).2/\jM wr gm ((p.aj.take k).foldl (nS p aN) ([],none)).1/\ah wr w.heap.size 26 #[.slice An nn cn,.slice Aa al.length ca,.slice Af nf cf]/\Below w.heap.size w wr) (fun u _=>al.length-(intOf u).toNat)
 case atStart => exact ⟨0,avK _,rfl,rD.out,mZ.out,dh.out,HB1.out⟩
 case round =>
  obtain ⟨k,hk,rfl,hls,hst,X2,hb⟩:=hrel;obtain ⟨wo,rfl⟩:∃ wo:World,wo=wr:=⟨_,rfl⟩;have hbd:=ahq (p:=p) (aN:=aN) ([],none) (p.aj.take k);have qy:=avE hls;have fU:=avE hst;have HX:=avE X2;have Hb:=avE hb;clear hls hst hb X2 rD mZ dh HB1;by_cases hlt:k<al.length
  ·have hkp:k<p.aj.length:=by rw [<- qL.out];exact hlt
   have BO:=apR (p:=p) (aN:=aN) hkp;have hax:p.aj[k]=al[k].1:=by
    have e:p.aj[k]? = some al[k].1:=by rw [oI.out,List.getElem?_map,avG hlt];rfl
    rw [avG hkp] at e;exact avP e
   have hvm:=hvl _ (avF hkp);have hwk:=Hw.out _ (avF hkp);rw [awk] at hbd;have ahr:((p.aj.take k).foldl (nS p aN) ([],none)).1.length<=1000000:=by simp only [avN] at hbd;omega
   clear hbd;obtain ⟨st,abE⟩:∃ st,(p.aj.take k).foldl (nS p aN) ([],none)=st:=⟨_,rfl⟩;rw [abE] at qy fU BO ahr;obtain ⟨S,s⟩:=st;simp only at qy fU ahr;rw [hax] at BO hvm hwk;unfold nS at BO;simp only at BO;have wV:=avE BO;have Hax:=avE hax;have uq:=avE abE;obtain ⟨b,o,rfl,hlb,c0,c1,c2,c3,c4,c5⟩:=(jr.out.mono Hb.out).ar hlt;obtain ⟨Av,cv,hva,-,-,hRv⟩:=KY.out k hlt;rw [hva] at c3;obtain ⟨y,hy⟩:∃ y,al[k]=y:=⟨_,rfl⟩;rw [hy] at c0 c1 c2 c3 c4 c5 hvm hwk wV Hax;clear hy hva hRv BO hax abE;have OE:=avE Hax.out;obtain ⟨⟨lM,EJ,EK,V,EL,EM⟩,yv⟩:=y;simp only at c0 c1 c2 c3 c4 c5 hvm hwk wV OE;have k1:(k:Int)<al.length:=by omega
   have k2:0<=(k:Int):=by omega
   go_upto_region 6 with fail;obtain ⟨g11,Gx⟩:∃ g,g=wo.heap.size:=⟨_,rfl⟩;obtain ⟨W2,hW⟩:∃ W:World,W=wo.alloc (.cells #[.int .i64 lM,.int .i64 EJ,.int .i64 EK,.slice Av V.length cv,.int .i64 EL,.int .i64 EM] 50):=⟨_,rfl⟩;have lF:ah W2 g11 50 #[.int .i64 lM,.int .i64 EJ,.int .i64 EK,.slice Av V.length cv,.int .i64 EL,.int .i64 EM]:=by rw [hW,Gx];exact ah.made rfl _ _
   have hA2:Below wo.heap.size wo W2:=by rw [hW];exact bA (bR wo) _
   have abG:=avE (qy.out.keep hA2);have WJ:=avE (fU.out.keep hA2);have jG:=avE (HX.out.keep hA2);have HB2:=avE (bT Hb.out hA2);have auH:gm<g11:=by rw [Gx];exact fU.out.lt
   have m4:g4<g11:=by rw [Gx];exact qy.out.a.lt
   have m5:g5<g11:=by rw [Gx];exact qy.out.b.lt
   have m6:g6<g11:=by rw [Gx];exact qy.out.c.lt
   have m7:g7<g11:=by rw [Gx];exact qy.out.d.lt
   have m2:w.heap.size<g11:=by rw [Gx];exact HX.out.lt
   rw [<- hW,<- Gx];have LU:=avE lF;have hlk:=WJ.out.look lM hwk;clear hW hA2 Gx c0 c1 c2 c3 c4 c5 hlb qy fU HX Hb;obtain ⟨qJ,qK,tC,zQ,zS,zT,zU,-,-,-,-,-,-⟩:=lF.gX;by_cases hin:lM∈S
   ·rw [avW hin] at hlk;have hs:=avE (show (p.aj.take (k+1)).foldl (nS p aN) ([],none)=(S,s) from wV.out.trans (if_pos (by simpa using hin)));clear hin;go_wp2;go_roundw
    case rel => exact ⟨k+1,by omega,by go_num,by rw [hs.out];exact abG.out,by rw [hs.out];exact WJ.out,jG.out,HB2.out⟩
    case measure => simp [intOf];omega
   rw [avV hin] at hlk;obtain ⟨w3,hr3,qm,hg3⟩:=WJ.out.upd Pe lM hwk hin;have hs:=avE (show (p.aj.take (k+1)).foldl (nS p aN) ([],none)=(S++[lM],(pX p aN lM).foldl uh s) from wV.out.trans (if_neg (by simpa using hin)));have ahs:=avE qm;have aht:=avE (abG.out.grown hg3 Q8 n5m n6m VH);have vg:=avE (jG.out.grown hg3 (fun e=>by have:=avP e;omega));have abH:=avE (LU.out.grown hg3 (fun e=>by have:=avP e;omega));have HB3:=avE (bG HB2.out hg3 (fun g hg=>by have:=avP hg;omega));have apT:=avE hin;have hsn:=hs.out;clear hin wV qm hg3 hs;go_upto_region 8 with fail;clear hlk hr3 lF qJ qK tC zQ zS zT zU abG WJ jG LU HB2;have X2:=vg.out;have lF:=abH.out
   try clear aG
   try clear aI
   try clear aJ
   try clear aO
   obtain ⟨aG,aI,aJ,aO,-,-,-⟩:=X2.aF
   try clear qJ
   try clear qK
   try clear tC
   try clear zQ
   try clear zS
   try clear zT
   try clear zU
   obtain ⟨qJ,qK,tC,zQ,zS,zT,zU,-,-,-,-,-,-⟩:=lF.gX;go_wp2_with fail;refine (HP.out lM _ HB3.out).mono ?_;rintro e w4 ⟨A4,c4,rfl,hb4,jI⟩;have HB4:=avE (bT HB3.out hb4);have abI:=avE (aht.out.keep hb4);have abJ:=avE (ahs.out.keep hb4);have Gy:=avE (vg.out.keep hb4);have abK:=avE (abH.out.keep hb4);clear hb4 X2 aG aI aJ aO lF qJ qK tC zQ zS zT zU aht ahs vg abH HB3;obtain ⟨Y,hY⟩:∃ Y:Ar,(⟨lM,EJ,EK,V,EL,EM⟩:Ar)=Y:=⟨_,rfl⟩;have hfa:findAr p.aj lM=some Y:=by
    have hnot:=apT.out;have hm:=(ahp (p:=p) (aN:=aN) (p.aj.take k) ([],none)).1;rw [uq.out] at hm;have hk':=OE.out;rw [hY] at hk';unfold findAr;rw [<- hk'];refine MV p.aj _ k hkp (fun j hj hjk=>?_) ?_
    ·simp only [beq_eq_false_iff_ne,ne_eq];intro e;apply hnot;rw [<- e];exact hm _ (by
      have:p.aj[j]=(p.aj.take k)[j]'(by rw [awk];omega):=by rw [List.getElem_take]
      rw [this];exact avF _)
    ·rw [hk',<- hY];simp
   have hcd:pX p aN lM=if jD p Y=true then uX p aN Y (au p Y) V.length else []:=by
    unfold pX;rw [hfa];simp only;rw [show Y.via=V by rw [<- hY]]
   have hpo:=abB hfa;have hpl:(au p Y).length=V.length+2:=by rw [ig,<- hY]
   rw [hpo] at jI ⊢;rw [hcd] at hsn;have Hsn:=avE hsn;clear hcd hpo hfa hsn;by_cases he:jD p Y=true
   case neg =>
    have hs:=avE (show (p.aj.take (k+1)).foldl (nS p aN) ([],none)=(S++[lM],s) by rw [Hsn.out,if_neg he];rfl);rw [if_neg he];simp only [Option.isSome_none,Bool.false_eq_true,if_false];clear jI he hpl hY;go_wp2;go_roundw
    case rel => exact ⟨k+1,by omega,by go_num,by rw [hs.out];exact abI.out,by rw [hs.out];exact abJ.out,Gy.out,HB4.out⟩
    case measure => simp [intOf];omega
   rw [if_pos he] at jI ⊢;have hsn:=Hsn.out;rw [if_pos he] at hsn;simp only [avU,Option.isSome_some,if_true] at jI ⊢;obtain ⟨P,hP⟩:∃ P,au p Y=P:=⟨_,rfl⟩;rw [hP] at hsn hpl jI ⊢;have ahu:Y.id=lM:=by rw [<- hY]
   have hU:=fun m=>apS (p:=p) (aN:=aN) (a:=Y) (P:=P) (m:=m) s;rw [ahu] at hU;have HU:=avE hU;have apU:=avE hsn;obtain ⟨F,hF⟩:∃ F:Nat->Option Cd,(fun m=>(uX p aN Y P m).foldl uh s)=F:=⟨_,rfl⟩;have hF':∀ m,(uX p aN Y P m).foldl uh s=F m:=fun m=>congrFun hF m;have OG:F 0=s:=by rw [<- hF'];rfl
   have OH:=avE (fun m=>show F (m+1)=if (decide (ug P m<aN) && (L8 (F m) ⟨lM,m,ug P m⟩ && yE p Y P m))=true then some ⟨lM,m,ug P m⟩ else F m by rw [<- hF',<- hF'];exact hU m);rw [hF'] at hsn;have apV:=avE hsn;have EN:=avE OG;have abL:=avE (fun m W (hW:Below w.heap.size w W) (hQ:dM W (.slice A4 P.length c4) P) (hi:m<V.length)=>show Calls Tryz.prog 94 #[.agg #[.slice An nn cn,.slice (some ⟨b,o,none⟩) al.length ca,.slice Af nf cf],.agg #[.int .i64 lM,.int .i64 EJ,.int .i64 EK,.slice Av V.length cv,.int .i64 EL,.int .i64 EM],.slice A4 P.length c4,.int .i64 m] W fun e w'=>e=.returned (.bool (yE p Y P m))/\Below W.heap.size W w' from by
    subst hY;exact zO.out ⟨lM,EJ,EK,V,EL,EM⟩ Av cv (.slice A4 P.length c4) P m W hW hQ hi hpl)
   clear hF hF' hU hsn OG hP ahu he hY Hsn apU HU;have kP:=avE jI;rw [hpl] at kP abL ⊢;have qM:=avE hpl;obtain ⟨np,hnp⟩:∃ n,V.length+2=n:=⟨_,rfl⟩;rw [hnp] at kP abL qM ⊢;have lF:=abK.out;clear jI hpl
   try clear qJ
   try clear qK
   try clear tC
   try clear zQ
   try clear zS
   try clear zT
   try clear zU
   obtain ⟨qJ,qK,tC,zQ,zS,zT,zU,-,-,-,-,-,-⟩:=lF.gX;go_upto_block 2 with fail;clear lF qJ qK tC zQ zS zT zU;go_wp2_with fail;go_loopw [44] (fun u wr=>∃ m:Nat,m<=V.length/\u=.int .i64 m/\xB wr g4 g5 g6 g7 (F m)/\jM wr gm (S++[lM])/\ah wr w.heap.size 26 #[.slice An nn cn,.slice (some ⟨b,o,none⟩) al.length ca,.slice Af nf cf]/\ah wr g11 50 #[.int .i64 lM,.int .i64 EJ,.int .i64 EK,.slice Av V.length cv,.int .i64 EL,.int .i64 EM]/\Own wr w3.heap.size 39 2 dU (.slice A4 np c4) P/\Below w.heap.size w wr) (fun u _=>V.length-(intOf u).toNat)
   case atStart => exact ⟨0,avK _,rfl,by rw [EN.out];exact abI.out,abJ.out,Gy.out,abK.out,kP.out,HB4.out⟩
   case round =>
    obtain ⟨m,hm,rfl,hls,hst,X2,lF,hop,hb⟩:=hrel;obtain ⟨wm,rfl⟩:∃ wm:World,wm=wr:=⟨_,rfl⟩;have HLm:=avE hls;have L9:=avE hst;have abM:=avE X2;have ahv:=avE lF;have EO:=avE hop;have HBm:=avE hb;clear hls hst hop hb abI abJ Gy abK kP HB4;by_cases hml:m<V.length
    ·obtain ⟨AA,cc,he,-,-,xg⟩:=EO.out.sl;injection he with e1 e2 e3;subst e1;clear e2 e3;have hPl:=qM.out;obtain ⟨bp,op,hA1,hlp,d0,d1⟩:=xg.pt (show m<P.length by omega);obtain ⟨b',o',hA2,-,d2,d3⟩:=xg.pt (show m+1<P.length by omega);obtain ⟨b'',o'',hA3,-,d4,d5⟩:=xg.pt (show m+2<P.length by omega);subst hA1;injection hA2 with hA2;injection hA2 with q1 q2 _;subst q1 q2;injection hA3 with hA3;injection hA3 with q1 q2 _;subst q1 q2;have hsz:ug P m=(let t:=kY P[m] P[m+1] P[m+2];if t<0 then -t else t):=by
      unfold ug;rw [avT,avG (show m<P.length by omega),avT,avG (show m+1<P.length by omega),avT,avG (show m+2<P.length by omega)];rfl
     generalize P[m]=t1 at *;generalize P[m+1]=t2 at *;generalize P[m+2]=t3 at *;have HT1:=avE (fun W=>xk.out t1 t2 t3 W);have htb:=apQ t1 t2 t3;unfold aK at HT1;generalize kY t1 t2 t3=T at *;have hfs:=OH.out m;obtain ⟨N,hN⟩:∃ N,ug P m=N:=⟨_,rfl⟩;rw [hN] at hsz hfs;simp only at hsz;have hmx:(if T < -T then -T else T)=N:=by rw [hsz];split<;>split<;>omega
     have hmy:max T (-T)=N:=by rw [hsz];split<;>omega
     have hkw:IntKind.i64.wrap (-T)=-T:=avS _ Pe;obtain ⟨z1,hz1⟩:∃ z,L8 (F m) ⟨lM,m,N⟩=z:=⟨_,rfl⟩;obtain ⟨z2,hz2⟩:∃ z,yE p Y P m=z:=⟨_,rfl⟩;rw [hz1,hz2] at hfs;have HZ1:=avE hz1;have HZ2:=avE hz2;have HFm:=avE hfs;have WL:=avE hmx;have WM:=avE hmy;have r0:0<=(m:Int):=by omega
     have r1:(m:Int)<np:=by omega
     have r2:(m:Int)+1<np:=by omega
     have r3:(m:Int)+2<np:=by omega
     have r4:0<=(m:Int)+1:=by omega
     have r5:0<=(m:Int)+2:=by omega
     have r6:((m:Int)+2).toNat=m+2:=by omega
     have r7:(m:Int)<V.length:=by omega
     have kw1:IntKind.i64.wrap ((m:Int)+1)=(m:Int)+1:=avS _ Pe;have V8:IntKind.i64.wrap ((m:Int)+2)=(m:Int)+2:=avS _ Pe;clear hN hsz hz1 hz2 hfs hPl xg X2 lF hmx hmy htb;go_upto_region 13 with fail;refine dH (wm) (.run 14 0 0 (.call 14 32767 (.take 15 65535 (.done)))) fun bZ QR aB aH hS=>?_
     iterate 14 refine aC ?_
     refine fV (HT1.out _) ?_;clear hS;intro cZ bW hS;refine aC ?_;refine dB ?_;clear hS aH aB;intro hB;have hBm:=hB;have WO:=avE (HLm.out.keep hBm);have abN:=avE (L9.out.keep hBm);have jG:=avE (abM.out.keep hBm);have WQ:=avE (ahv.out.keep hBm);have WR:=avE (EO.out.keep hBm);have WS:=avE (bT HBm.out hBm);clear hB hBm bW HLm L9 abM ahv EO HBm HT1 d0 d1 d2 d3 d4 d5 hlp r1 r2 r3 r4 r5 r6 kw1 V8;obtain ⟨wn,hwn⟩:∃ w:World,w=cZ:=⟨_,rfl⟩;rw [<- hwn] at WO abN jG WQ WR WS ⊢;clear hwn;go_upto_region 15 with fail
     first | rw [WL.out] | rw [WM.out]
     clear hkw;obtain ⟨z3,hz3⟩:∃ z,(decide (N<aN) && (z1 && z2))=z:=⟨_,rfl⟩;have hfm:=HFm.out;rw [hz3] at hfm;have WT:=avE hfm;clear hfm;go_cut [83] (fun u wx=>u=.bool z3/\Below wn.heap.size wn wx)
     case first =>
      have lF:=WQ.out;have X2:=jG.out;have abO:=avE (yH.out (F m) ⟨lM,m,N⟩ g4 g5 g6 g7 wn WO.out);rw [HZ1.out] at abO;have HFf:=avE (abL.out m wn WS.out (by unfold dM;rw [qM.out];have h:=WR.out.sl;rw [qM.out] at h;exact h) hml);rw [HZ2.out] at HFf;by_cases hnt:N<aN
      case neg =>
       have q:=avE (show z3=false by rw [<- hz3,avV hnt];rfl);clear hz3;go_wp2;go_meet
       case rel => exact ⟨by rw [q.out],bR wn⟩
      try clear qJ
      try clear qK
      try clear tC
      try clear zQ
      try clear zS
      try clear zT
      try clear zU
      obtain ⟨qJ,qK,tC,zQ,zS,zT,zU,-,-,-,-,-,-⟩:=lF.gX
      try clear aG
      try clear aI
      try clear aJ
      try clear aO
      obtain ⟨aG,aI,aJ,aO,-,-,-⟩:=X2.aF
      cases z1
      case false =>
       have q:=avE (show z3=false by rw [<- hz3];simp);clear hz3;go_wp2_with fail;refine abO.out.mono ?_;rintro e w' ⟨rfl,rfl⟩;go_wp2;go_meet
       case rel => exact ⟨by rw [q.out],bR wn⟩
      have q:=avE (show z2=z3 by rw [<- hz3,avW hnt];rfl);clear hz3;go_wp2_with fail;refine abO.out.mono ?_;rintro e w' ⟨rfl,rfl⟩;go_wp2_with fail;refine HFf.out.mono ?_;rintro e w5 ⟨rfl,hb5⟩;go_wp2;go_meet
      case rel => exact ⟨by rw [q.out],hb5⟩
     case rest =>
     obtain ⟨rfl,hbc⟩:=hcut;obtain ⟨wq,hwq⟩:∃ w:World,w=wc:=⟨_,rfl⟩;rw [<- hwq] at hbc ⊢;have rQ:=avE (WO.out.keep hbc);have HSq:=avE (abN.out.keep hbc);have abP:=avE (jG.out.keep hbc);have WU:=avE (WQ.out.keep hbc);have BX:=avE (WR.out.keep hbc);have HBq:=avE (bT WS.out hbc);clear hwq hbc hz3 WO abN jG WQ WR WS HFm WL WM HZ1 HZ2
     cases z3
     case false =>
      have hf:=WT.out;rw [if_neg ars] at hf;have Hf:=avE hf;clear hf WT;go_wp2;go_roundw
      case rel => exact ⟨m+1,by omega,by go_num,by rw [Hf.out];exact rQ.out,HSq.out,abP.out,WU.out,BX.out,HBq.out⟩
      case measure => simp [intOf];omega
     case true =>
      have hf:=WT.out;rw [if_pos rfl] at hf;have Hf:=avE hf;have lF:=WU.out;have X4:=rQ.out.a;have X5:=rQ.out.b;have X6:=rQ.out.c;have X7:=rQ.out.d;clear hf WT;generalize (F m).elim 0 (·.id)=y1 at X4;generalize ((F m).elim 0 fun c=>(c.k:Int))=y2 at X5;generalize (F m).elim 0 (·.n)=y3 at X6;generalize (F m).isSome=y4 at X7
      try clear qJ
      try clear qK
      try clear tC
      try clear zQ
      try clear zS
      try clear zT
      try clear zU
      obtain ⟨qJ,qK,tC,zQ,zS,zT,zU,-,-,-,-,-,-⟩:=lF.gX;obtain ⟨aV,aX,dV⟩:=X4.iV;obtain ⟨bI,bJ,xP⟩:=X5.iV;obtain ⟨fO,fQ,D6⟩:=X6.iV;obtain ⟨dY,dZ,qY⟩:=X7.iV;go_upto_region 17 with fail;obtain ⟨W5,hW⟩:∃ W:World,W=(((wq.setCell ⟨g4,0,none⟩ (.int .i64 lM)).setCell ⟨g5,0,none⟩ (.int .i64 m)).setCell ⟨g6,0,none⟩ (.int .i64 N)).setCell ⟨g7,0,none⟩ (.bool true):=⟨_,rfl⟩;have Sv:=avE (show xB W5 g4 g5 g6 g7 (some ⟨lM,m,N⟩) by rw [hW];exact rQ.out.put n45 n46 n47 n56 n57 n67 ⟨lM,m,N⟩);have wW:=avE (show jM W5 gm (S++[lM]) by rw [hW];exact jM.far (jM.far (jM.far (jM.far HSq.out Q8) n5m) n6m) VH);have Gz:=avE (show ah W5 w.heap.size 26 #[.slice An nn cn,.slice (some ⟨b,o,none⟩) al.length ca,.slice Af nf cf] by rw [hW];exact (((abP.out.far (p:=⟨g4,0,none⟩) (by show w.heap.size≠g4;omega) _).far (p:=⟨g5,0,none⟩) (by show w.heap.size≠g5;omega) _).far (p:=⟨g6,0,none⟩) (by show w.heap.size≠g6;omega) _).far (p:=⟨g7,0,none⟩) (by show w.heap.size≠g7;omega) _);have apW:=avE (show ah W5 g11 50 #[.int .i64 lM,.int .i64 EJ,.int .i64 EK,.slice Av V.length cv,.int .i64 EL,.int .i64 EM] by rw [hW];exact (((WU.out.far (p:=⟨g4,0,none⟩) (by show g11≠g4;omega) _).far (p:=⟨g5,0,none⟩) (by show g11≠g5;omega) _).far (p:=⟨g6,0,none⟩) (by show g11≠g6;omega) _).far (p:=⟨g7,0,none⟩) (by show g11≠g7;omega) _);have jd:=avE (show Own W5 w3.heap.size 39 2 dU (.slice (some ⟨bp,op,none⟩) np c4) P by
       rw [hW];have f4:=Own.iO BX.out rQ.out.a arC;have f5:=Own.iO BX.out rQ.out.b arC;have f6:=Own.iO BX.out rQ.out.c arC;have f7:=Own.iO BX.out rQ.out.d arC;exact (((BX.out.far (p:=⟨g4,0,none⟩) f4 _).far (p:=⟨g5,0,none⟩) f5 _).far (p:=⟨g6,0,none⟩) f6 _).far (p:=⟨g7,0,none⟩) f7 _)
      have bC:=avE (show Below w.heap.size w W5 by rw [hW];exact bS (p:=⟨g7,0,none⟩) (bS (p:=⟨g6,0,none⟩) (bS (p:=⟨g5,0,none⟩) (bS (p:=⟨g4,0,none⟩) HBq.out (by show w.heap.size<=g4;omega) _) (by show w.heap.size<=g5;omega) _) (by show w.heap.size<=g6;omega) _) (by show w.heap.size<=g7;omega) _);rw [<- hW];clear hW lF qJ qK tC zQ zS zT zU X4 aV aX dV X5 bI bJ xP X6 fO fQ D6 X7 dY dZ qY rQ HSq abP WU BX HBq;go_wp2;go_roundw
      case rel => exact ⟨m+1,by omega,by go_num,by rw [Hf.out];exact Sv.out,wW.out,Gz.out,apW.out,jd.out,bC.out⟩
      case measure => simp [intOf];omega
    ·obtain rfl:m=V.length:=by omega
     have hs:=apV.out;have Hs:=avE hs;clear hs X2 lF;go_wp2;go_roundw
     case rel => exact ⟨k+1,by omega,by go_num,by rw [Hs.out];exact HLm.out,by rw [Hs.out];exact L9.out,abM.out,HBm.out⟩
     case measure => simp [intOf];omega
  ·obtain rfl:k=al.length:=by omega
   have hfull:p.aj.take al.length=p.aj:=List.take_of_length_le (by rw [qL.out];exact awe _);rw [hfull] at qy;obtain ⟨X4,X5,X6,X7⟩:=HZ.out wo g4 g5 g6 g7 qy.out;clear hfull hbd;have dI:=avE X4;have dF:=avE X5;have pI:=avE X6;have lS:=avE X7;go_upto_region 19 with fail
   try clear aV
   try clear aX
   try clear dV
   obtain ⟨aV,aX,dV⟩:=X4.iV
   try clear bI
   try clear bJ
   try clear xP
   obtain ⟨bI,bJ,xP⟩:=X5.iV
   try clear fO
   try clear fQ
   try clear D6
   obtain ⟨fO,fQ,D6⟩:=X6.iV
   try clear dY
   try clear dZ
   try clear qY
   obtain ⟨dY,dZ,qY⟩:=X7.iV;go_region;rw [WH dI.out,WH dF.out,WH pI.out,WH lS.out];go_wp2_with fail;exact apM rfl abD abD abD apP rfl rfl rfl rfl rfl dI.out.drew dF.out.drew pI.out.drew lS.out.drew ⟨rfl,bD Hb.out⟩
end Go.Proofs.YtialfdomhoojiaaGreat
