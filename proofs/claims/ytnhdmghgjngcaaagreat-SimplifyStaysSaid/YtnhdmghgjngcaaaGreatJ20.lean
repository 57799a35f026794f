import Derived.Test.YtnhdmghgjngcaaaGreatSimC
import Derived.Test.YtnhdmghgjngcaaaGreatJ04
import Derived.Maps.OwnSet
import Derived.Test.YtnhdmghgjngcaaaGreatJ08
import Derived.Test.YtnhdmghgjngcaaaGreatJ13
import Derived.Deep.CutBlock
import Derived.BigRegion
import Derived.Test.YtnhdmghgjngcaaaGreatJ14
set_option linter.unusedSimpArgs false
set_option linter.unusedVariables false
namespace Go.Proofs.YtnhdmghgjngcaaaGreat
open Go.RowKit

theorem Mod34.short {p:Pl} (h:Mod34 p):Short p:=fun a ha=>Nat.le_trans (h.via a ha) (by omega)
theorem fr_path {p:Pl} {id:Int} {a:Ar} (h:findAr p.arcs id=some a):pathOf p id=if hasEnds p a=true then some (pathS p a) else none:=by
 unfold pathOf
 rw [h]

set_option maxRecDepth 100000 in
set_option maxHeartbeats 4000000 in
theorem Free_spec (v:Value) (p:Pl) (arc i:Int) (w:World) (h:PlV w v p) (hm:Mod34 p) :
  Calls Tryz.prog 21 #[v,.int .i64 arc,.int .i64 i] w fun e w'=>e=.returned (.bool (freeI p arc i))∧Below w.heap.size w w':=by
 have HA:=Lib.hid (fun W (hW:Below w.heap.size w W)=>Arc_spec v p arc W (h.mono hW) hm.short)
 have HP:=Lib.hid (fun W (hW:Below w.heap.size w W)=>Path_spec v p arc W (h.mono hW) hm.short)
 have HFr:=Lib.hid (fun a A c vp P i W (hW:Below w.heap.size w W) (hP:Pts W vp P) (hi:i<a.via.length) (hl:P.length=a.via.length+2)=>free_spec v vp p a A c P i W (h.mono hW) hP hm hi hl)
 have hvl:=hm.via
 obtain ⟨R,hR⟩:∃ R,freeI p arc i=R:=⟨_,rfl⟩
 rw [hR]
 unfold freeI at hR
 have HR:=Lib.hid hR
 obtain ⟨_,_,_,al,rfl,-,⟨An,cn,rfl,-⟩,⟨⟨Aa,ca,rfl,-⟩,-⟩,⟨Af,cf,rfl,-⟩⟩:=h
 generalize p.nodes.length=nn at *
 generalize p.faces.length=nf at *
 generalize al.length=na at *
 clear hR hm
 go_enter Tryz.func21,Tryz.ntmps21
 go_upto_region 1 with fail
 obtain ⟨W1,hW⟩:∃ W:World,W=w.alloc (.cells #[.slice An nn cn,.slice Aa na ca,.slice Af nf cf] 26):=⟨_,rfl⟩
 have X3:Blk W1 w.heap.size 26 #[.slice An nn cn,.slice Aa na ca,.slice Af nf cf]:=by rw [hW];exact Blk.made rfl _ _
 have HB1:=Lib.hid (show Below w.heap.size w W1 by rw [hW];exact bA (bR w) _)
 rw [← hW]
 clear hW
 have HX3:=Lib.hid X3
 obtain ⟨X3l,X3a,X3b,X3c,-,-,-⟩:=X3.facts3
 go_wp2_with fail
 refine (HA.out _ HB1.out).mono ?_
 rintro e w2 ⟨va,rfl,hb2,hpv⟩
 have HB2:=Lib.hid (bT HB1.out hb2)
 have HX32:=Lib.hid (HX3.out.keep hb2)
 clear hb2 X3 X3l X3a X3b X3c HX3 HB1 HA
 obtain ⟨Av,cv,rfl,hv1,hv2,-⟩:=hpv
 unfold maxLen at hv2
 obtain ⟨r,hr⟩:∃ r,findAr p.arcs arc=r:=⟨_,rfl⟩
 rw [hr] at hv1 ⊢
 have HRr:=HR.out
 rw [hr] at HRr
 have Hr:=Lib.hid hr
 have hpo:=fun a (h:findAr p.arcs arc=some a)=>fr_path h
 have HPo:=Lib.hid hpo
 clear hr HR hpo
 cases r with
 | none =>
  have hf:=Lib.hid (show R=false by rw [← HRr])
  clear HRr
  unfold arV
  simp only [Option.getD_none]
  simp only [Option.getD_none] at hv1
  go_wp2_with fail
  go_ret
  exact ⟨ret_bool (by rw [hf.out]),bA HB2.out _⟩
 | some a =>
  have hav:=hvl a (findAr_mem Hr.out)
  simp only [Option.getD_some] at hv1 ⊢
  simp only at HRr
  have HPo':=HPo.out a Hr.out
  rw [HPo'] at HP
  unfold arV
  obtain ⟨vn,hvn⟩:∃ n,a.via.length=n:=⟨_,rfl⟩
  rw [hvn] at hv1 hav HRr ⊢
  have HVn:=Lib.hid hvn
  clear hvn HPo HPo' hvl
  go_upto_region 2 with fail
  obtain ⟨W3,hW⟩:∃ W:World,W=w2.alloc (.cells #[.int .i64 a.id,.int .i64 a.fr,.int .i64 a.dst,.slice Av vn cv,.int .i64 a.left,.int .i64 a.right] 41):=⟨_,rfl⟩
  have X7:Blk W3 w2.heap.size 41 #[.int .i64 a.id,.int .i64 a.fr,.int .i64 a.dst,.slice Av vn cv,.int .i64 a.left,.int .i64 a.right]:=by rw [hW];exact Blk.made rfl _ _
  have hA3:Below w2.heap.size w2 W3:=by rw [hW];exact bA (bR w2) _
  have HB3:=Lib.hid (bT HB2.out hA3)
  have X3:=HX32.out.keep hA3
  have HX33:=Lib.hid X3;have HX7:=Lib.hid X7
  rw [← hW]
  clear hW hA3 HX32 HB2
  by_cases hi0:i<0
  ·
   rw [if_pos (.inl hi0)] at HRr
   have hf:=Lib.hid (show R=false by rw [← HRr])
   clear HRr
   go_wp2_with fail
   go_ret
   exact ⟨ret_bool (by rw [hf.out]),HB3.out⟩
  obtain ⟨X7l,X7a,X7b,X7c,X7d,X7e,X7f,-,-,-,-,-,-⟩:=X7.facts6
  by_cases hi1:(vn:Int)≤i
  ·
   rw [if_pos (.inr hi1)] at HRr
   have hf:=Lib.hid (show R=false by rw [← HRr])
   clear HRr
   go_wp2_with fail
   go_ret
   exact ⟨ret_bool (by rw [hf.out]),HB3.out⟩
  rw [if_neg (by omega)] at HRr
  obtain ⟨m,rfl⟩:∃ m:Nat,i=m:=⟨i.toNat,by omega⟩
  have hmn:m<vn:=by omega
  rw [Int.toNat_natCast] at HRr
  have HRr:=Lib.hid HRr
  clear hav
  go_upto_region 4 with fail
  clear X7 X7l X7a X7b X7c X7d X7e X7f
  try clear X3l
  try clear X3a
  try clear X3b
  try clear X3c
  obtain ⟨X3l,X3a,X3b,X3c,-,-,-⟩:=X3.facts3
  by_cases he:hasEnds p a=true
  case neg =>
   rw [if_neg he] at HP
   have hf:=Lib.hid (show R=false by rw [← HRr.out,if_neg he])
   clear he HRr
   go_wp2_with fail
   refine (HP.out _ HB3.out).mono ?_
   rintro e w4 ⟨A4,c4,rfl,hb4,-⟩
   have HB4:=Lib.hid (bT HB3.out hb4)
   clear hb4
   simp only [Option.getD_none,List.length_nil,Option.isSome_none,Bool.false_eq_true,if_false]
   go_wp2_with fail
   go_ret
   exact ⟨ret_bool (by rw [hf.out]),HB4.out⟩
  rw [if_pos he] at HP
  have hR:=HRr.out
  rw [if_pos he] at hR
  have HR:=Lib.hid hR
  clear he HRr hR
  go_wp2_with fail
  refine (HP.out _ HB3.out).mono ?_
  rintro e w4 ⟨A4,c4,rfl,hb4,ho4⟩
  have hpl:(pathS p a).length=a.via.length+2:=pathS_length p a
  simp only [Option.getD_some,Option.isSome_some,if_true] at ho4 ⊢
  have HFx:=Lib.hid (fun W (hW:Below w4.heap.size w4 W)=>HFr.out a Av cv (.slice A4 (pathS p a).length c4) (pathS p a) m W (bT HB3.out (bT hb4 hW)) (ho4.sl.mono hW) (by rw [HVn.out];exact hmn) hpl)
  unfold arV at HFx
  rw [HVn.out,HR.out] at HFx
  have HB4:=Lib.hid (bT HB3.out hb4)
  have X3:=HX33.out.keep hb4;have X7:=HX7.out.keep hb4
  clear hb4 ho4 hpl HFr X3l X3a X3b X3c
  generalize pathS p a=PP at *
  generalize PP.length=np at *
  go_upto_region 5 with fail
  try clear X3l
  try clear X3a
  try clear X3b
  try clear X3c
  obtain ⟨X3l,X3a,X3b,X3c,-,-,-⟩:=X3.facts3
  try clear X7l
  try clear X7a
  try clear X7b
  try clear X7c
  try clear X7d
  try clear X7e
  try clear X7f
  obtain ⟨X7l,X7a,X7b,X7c,X7d,X7e,X7f,-,-,-,-,-,-⟩:=X7.facts6
  go_wp2_with fail
  refine (HFx.out _ (bR _)).mono ?_
  rintro e w5 ⟨rfl,hb5⟩
  have HB5:=Lib.hid (bT HB4.out hb5)
  clear hb5
  go_wp2_with fail
  go_ret
  exact ⟨rfl,HB5.out⟩
end Go.Proofs.YtnhdmghgjngcaaaGreat
namespace Go.Proofs.YtnhdmghgjngcaaaGreat
open Go.RowKit

def SetI (w:World) (b:Nat) (S:List Int):Prop :=
 ∃ D:DataW Unit,w.ownsMap Tryz.prog 3 ibR b S.length D∧Maps.size D=S.length∧(∀ id,D.atKey (.int .i64 id) (ibD false)=ibD (decide (id∈S)))∧∀ id,Maps.has D (.int .i64 id)=decide (id∈S)
theorem SetI.kept {w w':World} {b:Nat} {S:List Int} (h:SetI w b S) {row:Option Nat} (hg:w.grownBy w' row) (hr:some b≠row):SetI w' b S:=by
 obtain ⟨D,h1,h2⟩:=h
 exact ⟨D,h1.kept hg hr,h2⟩
theorem SetI.keep {w w':World} {b:Nat} {S:List Int} (h:SetI w b S) (hb:Below w.heap.size w w'):SetI w' b S :=
 h.kept (row:=none) ⟨hb.os,hb.tape,hb.output,hb.size,fun i hi _=>hb.block i hi⟩ (by simp)
theorem SetI.lt {w:World} {b:Nat} {S:List Int} (h:SetI w b S):b<w.heap.size:=by
 obtain ⟨D,h1,h2⟩:=h
 exact h1.lt
theorem SetI.made (w:World):SetI (w.alloc (.map #[] 0)) w.heap.size [] :=
 ⟨.map [],World.ownsMap_made _ _ _ _,rfl,fun _=>rfl,fun _=>rfl⟩
theorem SetI.look {w:World} {b:Nat} {S:List Int} (h:SetI w b S) (id:Int) (hid:wfI id) :
  (Instr.lookup 63 (.map (some b)) (.int .i64 id) false).run Tryz.prog w=.ok (.bool (decide (id∈S))) w:=by
 obtain ⟨D,h1,-,h2,-⟩:=h
 obtain ⟨v,ps,hr,hv⟩:=h1.lookup keyed_int Tryz.underlying63 (zero_ib w) (zd:=ibD false) (zp:=[]) rfl (Maps.keyOf_int_mk Tryz.underlying3 hid)
 rw [h2] at hv
 rw [hr,ibR_inv hv]
theorem SetI.len {w:World} {b:Nat} {S:List Int} (h:SetI w b S) (ty:TypeId) :
  (Builtin.len_ #[63] ty #[.map (some b)]).run Tryz.prog w=.ok (.int .i64 S.length) w:=by
 obtain ⟨D,h1,h2,-⟩:=h
 rw [h1.len Tryz.underlying63 ty,h2]
set_option maxRecDepth 100000 in
theorem SetI.upd {w:World} {b:Nat} {S:List Int} (h:SetI w b S) (hn:S.length<4294967296) (id:Int) (hid:wfI id) (hx:id∉S) :
  ∃ w',(Instr.mapUpdate 63 (.map (some b)) (.int .i64 id) (.bool true)).run Tryz.prog w=.ok () w'∧SetI w' b (S++[id])∧w.grownBy w' (some b):=by
 obtain ⟨D,h1,h2,h3,h4⟩:=h
 have ht:=h1.tidy keyed_int
 obtain ⟨w',hr,ho,hg⟩:=h1.update keyed_int Tryz.underlying63 (by unfold maxLen;omega) (Maps.keyOf_int_mk Tryz.underlying3 hid) (val:=.bool true) (d:=ibD true) (ps:=[]) rfl
 refine ⟨w',hr,⟨_,by rw [List.length_append];exact ho,?_,fun i=>?_,fun i=>?_⟩,hg⟩
 · rw [Maps.size_put ht,h4,decide_eq_false hx,h2,List.length_append];rfl
 ·
  by_cases e:i=id
  ·
   subst e
   rw [Maps.atKey_put_same ht.isMap (by trivial),decide_eq_true (by simp)]
  ·
   rw [Maps.atKey_put_other (fun h=>e (by injection h)),h3]
   congr 1
   simp [e]
 ·
  by_cases e:i=id
  ·
   subst e
   rw [Maps.has_put_same ht.isMap (by trivial),decide_eq_true (by simp)]
  ·
   rw [Maps.has_put_other (fun h=>e (by injection h)),h4]
   simp [e]
theorem setI_ne {w:World} {gm:Nat} {S:List Int} (h:SetI w gm S) {g:Nat} {t:TypeId} {cs:Array Value} (hg:Blk w g t cs):g≠gm:=by
 rintro rfl
 obtain ⟨D,h1,-⟩:=h
 obtain ⟨es,clock,h2,-⟩:=h1
 unfold Blk at hg
 rw [hg] at h2
 cases h2
theorem setI_own {w:World} {gm:Nat} {S:List Int} (h:SetI w gm S) {base:Nat} {e:TypeId} {size:Nat} {α:Type} {fe:α→List Value} {v:Value} {l:List α} (ho:Own w base e size fe v l):v.ownBlock≠some gm:=by
 rcases ho.2 with ⟨rfl,_⟩ | ⟨g,cap,cur,rfl,_,hh,_⟩
 · simp [Value.ownBlock]
 ·
  intro e'
  exact setI_ne h (cs:=cur) (g:=g) hh (by simpa [Value.ownBlock] using e')
end Go.Proofs.YtnhdmghgjngcaaaGreat
namespace Go.Proofs.YtnhdmghgjngcaaaGreat
open Go.RowKit

def befS (s:Option Cd) (c:Cd):Bool :=
 match s with
 | none=>true
 | some b=>if c.n≠b.n then decide (c.n<b.n) else decide (c.id<b.id) || decide (c.id=b.id) && decide (c.k<b.k)
theorem upP_bef (s:Option Cd) (c:Cd):upP s c=if befS s c=true then some c else s:=by
 unfold upP befS
 cases s with
 | none=>rfl
 | some b=>rfl
structure LstI (W:World) (g4 g5 g6 g7:Nat) (s:Option Cd):Prop where
 a:Blk W g4 3 #[.int .i64 (s.elim 0 (·.id))]
 b:Blk W g5 3 #[.int .i64 (s.elim 0 fun c=>(c.k:Int))]
 c:Blk W g6 3 #[.int .i64 (s.elim 0 (·.n))]
 d:Blk W g7 4 #[.bool s.isSome]
theorem LstI.keep {W W':World} {g4 g5 g6 g7:Nat} {s:Option Cd} (h:LstI W g4 g5 g6 g7 s) (hb:Below W.heap.size W W'):LstI W' g4 g5 g6 g7 s :=
 ⟨h.a.keep hb,h.b.keep hb,h.c.keep hb,h.d.keep hb⟩
theorem LstI.grown {W W':World} {g4 g5 g6 g7:Nat} {s:Option Cd} (h:LstI W g4 g5 g6 g7 s) {gm:Nat} (hg:W.grownBy W' (some gm)) (n4:g4≠gm) (n5:g5≠gm) (n6:g6≠gm) (n7:g7≠gm):LstI W' g4 g5 g6 g7 s :=
 ⟨h.a.grown hg (fun e=>n4 (Option.some.inj e)),h.b.grown hg (fun e=>n5 (Option.some.inj e)),h.c.grown hg (fun e=>n6 (Option.some.inj e)),h.d.grown hg (fun e=>n7 (Option.some.inj e))⟩

set_option maxRecDepth 100000 in
set_option maxHeartbeats 4000000 in
theorem bef_spec (s:Option Cd) (c:Cd) (g4 g5 g6 g7:Nat) (w:World) (h:LstI w g4 g5 g6 g7 s) :
  Calls Tryz.prog 25 #[.int .i64 c.id,.int .i64 c.k,.int .i64 c.n,.pointer (some ⟨g7,0,none⟩),.pointer (some ⟨g6,0,none⟩),.pointer (some ⟨g4,0,none⟩),.pointer (some ⟨g5,0,none⟩)] w fun e w'=>e=.returned (.bool (befS s c))∧w=w':=by
 obtain ⟨X4,X5,X6,X7⟩:=h
 unfold befS
 obtain ⟨id,k,n⟩:=c
 cases s with
 | none =>
  simp only [Option.elim_none,Option.isSome_none] at X4 X5 X6 X7
  obtain ⟨X4l,X4a,-⟩:=X4.facts1
  obtain ⟨X5l,X5a,-⟩:=X5.facts1
  obtain ⟨X6l,X6a,-⟩:=X6.facts1
  obtain ⟨X7l,X7a,-⟩:=X7.facts1
  go_enter Tryz.func25,Tryz.ntmps25
  go_wp2_with fail
  go_ret
  exact ⟨rfl,rfl⟩
 | some b =>
  obtain ⟨id',k',n'⟩:=b
  simp only [Option.elim_some,Option.isSome_some] at X4 X5 X6 X7
  simp only
  try clear X4l
  try clear X4a
  obtain ⟨X4l,X4a,-⟩:=X4.facts1
  try clear X5l
  try clear X5a
  obtain ⟨X5l,X5a,-⟩:=X5.facts1
  try clear X6l
  try clear X6a
  obtain ⟨X6l,X6a,-⟩:=X6.facts1
  try clear X7l
  try clear X7a
  obtain ⟨X7l,X7a,-⟩:=X7.facts1
  cases e1:(n != n')
  case true =>
   have hn:=Lib.hid (show n≠n' by simpa using e1)
   rw [if_pos hn.out]
   by_cases e2:n<n'
   ·
    rw [decide_eq_true e2]
    go_enter Tryz.func25,Tryz.ntmps25
    go_wp2_with fail
    go_ret
    exact ⟨rfl,rfl⟩
   ·
    rw [decide_eq_false e2]
    go_enter Tryz.func25,Tryz.ntmps25
    go_wp2_with fail
    go_ret
    exact ⟨rfl,rfl⟩
  case false =>
   have hn:=Lib.hid (show ¬ n≠n' by simpa using e1)
   rw [if_neg hn.out]
   by_cases e2:id<id'
   ·
    rw [decide_eq_true e2,Bool.true_or]
    go_enter Tryz.func25,Tryz.ntmps25
    go_wp2_with fail
    go_ret
    exact ⟨rfl,rfl⟩
   ·
    rw [decide_eq_false e2,Bool.false_or]
    cases e3:(id == id')
    case false =>
     have hd:=Lib.hid (show ¬ id=id' by simpa using e3)
     rw [decide_eq_false hd.out,Bool.false_and]
     go_enter Tryz.func25,Tryz.ntmps25
     go_wp2_with fail
     go_ret
     exact ⟨rfl,rfl⟩
    case true =>
     have hd:=Lib.hid (show id=id' by simpa using e3)
     rw [decide_eq_true hd.out,Bool.true_and]
     by_cases e4:(k:Int)<k'
     ·
      rw [decide_eq_true (show k<k' by omega)]
      go_enter Tryz.func25,Tryz.ntmps25
      go_wp2_with fail
      go_ret
      exact ⟨rfl,rfl⟩
     ·
      rw [decide_eq_false (show ¬ k<k' by omega)]
      go_enter Tryz.func25,Tryz.ntmps25
      go_wp2_with fail
      go_ret
      exact ⟨rfl,rfl⟩

theorem LstI.put {W:World} {g4 g5 g6 g7:Nat} {s:Option Cd} (h:LstI W g4 g5 g6 g7 s) (n45:g4≠g5) (n46:g4≠g6) (n47:g4≠g7) (n56:g5≠g6) (n57:g5≠g7) (n67:g6≠g7) (c:Cd) :
  LstI ((((W.setCell ⟨g4,0,none⟩ (.int .i64 c.id)).setCell ⟨g5,0,none⟩ (.int .i64 c.k)).setCell ⟨g6,0,none⟩ (.int .i64 c.n)).setCell ⟨g7,0,none⟩ (.bool true)) g4 g5 g6 g7 (some c):=by
 refine ⟨?_,?_,?_,?_⟩
 ·
  have:=((((h.a.set_ 0 (.int .i64 c.id)).far (p:=⟨g5,0,none⟩) n45 (.int .i64 c.k)).far (p:=⟨g6,0,none⟩) n46 (.int .i64 c.n)).far (p:=⟨g7,0,none⟩) n47 (.bool true))
  simpa using this
 ·
  have:=(((h.b.far (p:=⟨g4,0,none⟩) (Ne.symm n45) (.int .i64 c.id)).set_ 0 (.int .i64 c.k)).far (p:=⟨g6,0,none⟩) n56 (.int .i64 c.n)).far (p:=⟨g7,0,none⟩) n57 (.bool true)
  simpa using this
 ·
  have:=(((h.c.far (p:=⟨g4,0,none⟩) (Ne.symm n46) (.int .i64 c.id)).far (p:=⟨g5,0,none⟩) (Ne.symm n56) (.int .i64 c.k)).set_ 0 (.int .i64 c.n)).far (p:=⟨g7,0,none⟩) n67 (.bool true)
  simpa using this
 ·
  have:=(((h.d.far (p:=⟨g4,0,none⟩) (Ne.symm n47) (.int .i64 c.id)).far (p:=⟨g5,0,none⟩) (Ne.symm n57) (.int .i64 c.k)).far (p:=⟨g6,0,none⟩) (Ne.symm n67) (.int .i64 c.n)).set_ 0 (.bool true)
  simpa using this
theorem setC_any {w:World} {g:Nat} {t:TypeId} {cs:Array Value} (h:Blk w g t cs) {i:Nat} {v:Value} (hv:cs[i]? = some v):w.setCell ⟨g,i,none⟩ v=w:=by
 unfold Blk at h
 have e:w.heap.modify g (fun
   | .cells c elem frozen=>.cells (if (none:Option Nat).isSome then c else c.setIfInBounds i v) elem frozen
   | o=>o)=w.heap:=by
  apply Array.ext_getElem?
  intro k
  rw [Array.getElem?_modify]
  split
  ·
   rename_i e
   subst e
   rw [h]
   simp only [Option.map_some,Option.some.injEq,Option.isSome_none,Bool.false_eq_true,if_false]
   congr 1
   apply Array.ext_getElem?
   intro j
   rw [Array.getElem?_setIfInBounds]
   split
   ·
    rename_i e;subst e
    split
    · exact hv.symm
    · rename_i hn;rw [Array.getElem?_eq_none (by omega)] at hv;cases hv
   · rfl
  · rfl
 show ({w with heap:=w.heap.modify g _}:World)=w
 cases w
 congr 1
theorem setC_same {w:World} {g:Nat} {t:TypeId} {v:Value} (h:Blk w g t #[v]):w.setCell ⟨g,0,none⟩ v=w:=setC_any h rfl
theorem res_cells4 {P:Program} {fn:Func} {p q r s:Tmp} {y1 y2 y3 y4 t1 t2 t3 t4:TypeId} {R:Ending→World→Prop} {a:Act} {w:World} {g1 g2 g3 g4:Nat} {v1 v2 v3 v4:Value} (h:fn.results=#[.cell p y1,.cell q y2,.cell r y3,.cell s y4])
  (hS1:∀ w,(isAgg y1).run P w=.ok false w) (hS2:∀ w,(isAgg y2).run P w=.ok false w) (hS3:∀ w,(isAgg y3).run P w=.ok false w) (hS4:∀ w,(isAgg y4).run P w=.ok false w)
  (hp1:a.tmps.getD p undef=.pointer (some ⟨g1,0,none⟩)) (hp2:a.tmps.getD q undef=.pointer (some ⟨g2,0,none⟩)) (hp3:a.tmps.getD r undef=.pointer (some ⟨g3,0,none⟩)) (hp4:a.tmps.getD s undef=.pointer (some ⟨g4,0,none⟩))
  (hd:a.defers=[]) (hb1:Blk w g1 t1 #[v1]) (hb2:Blk w g2 t2 #[v2]) (hb3:Blk w g3 t3 #[v3]) (hb4:Blk w g4 t4 #[v4]) (hR:R (.returned (.tuple #[v1,v2,v3,v4])) w):bodyPost P fn R .ret a w:=by
 refine bodyPost_ret ?_ hd hR
 have hp1':a.tmps[p]?.getD undef=.pointer (some ⟨g1,0,none⟩):=by simpa using hp1
 have hp2':a.tmps[q]?.getD undef=.pointer (some ⟨g2,0,none⟩):=by simpa using hp2
 have hp3':a.tmps[r]?.getD undef=.pointer (some ⟨g3,0,none⟩):=by simpa using hp3
 have hp4':a.tmps[s]?.getD undef=.pointer (some ⟨g4,0,none⟩):=by simpa using hp4
 have hc1:w.cell? ⟨g1,0,none⟩=some v1:=by rw [hb1.cell];rfl
 have hc2:w.cell? ⟨g2,0,none⟩=some v2:=by rw [hb2.cell];rfl
 have hc3:w.cell? ⟨g3,0,none⟩=some v3:=by rw [hb3.cell];rfl
 have hc4:w.cell? ⟨g4,0,none⟩=some v4:=by rw [hb4.cell];rfl
 simp only [results,h]
 simp [hp1',hp2',hp3',hp4',asAddr,loadVar,Sem.run_bind,Sem.run_pure,Result.andThen,hS1,hS2,hS3,hS4,hc1,hc2,hc3,hc4]
theorem isAgg_i:∀ w,(isAgg 3).run Tryz.prog w=.ok false w:=fun _=>by kernel_rfl
theorem isAgg_b:∀ w,(isAgg 4).run Tryz.prog w=.ok false w:=fun _=>by kernel_rfl
theorem lst_mem {p:Pl} {tol:Int}:∀ (l:List Ar) (st:List Int×Option Cd),(∀ a∈l,a.id∈(l.foldl (lstF p tol) st).1)∧∀ i∈st.1,i∈(l.foldl (lstF p tol) st).1
 | [],st=>⟨fun a h=>by (cases h),fun i h=>h⟩
 | b::l,st=>by
  have ih:=lst_mem (p:=p) (tol:=tol) l (lstF p tol st b)
  have h1:b.id∈(lstF p tol st b).1∧∀ i∈st.1,i∈(lstF p tol st b).1:=by
   unfold lstF
   by_cases e:b.id∈st.1
   ·
    rw [if_pos (by simpa using e)]
    exact ⟨e,fun i h=>h⟩
   ·
    rw [if_neg (by simpa using e)]
    exact ⟨List.mem_append_right _ (List.mem_singleton.2 rfl),fun i h=>List.mem_append_left _ h⟩
  rw [List.foldl_cons]
  refine ⟨fun a ha=>?_,fun i hi=>ih.2 _ (h1.2 i hi)⟩
  rcases List.mem_cons.1 ha with rfl | ha
  · exact ih.2 _ h1.1
  · exact ih.1 a ha
theorem twS_bd (a b c:Pt):-35184372088832≤twS a b c∧twS a b c≤35184372088832:=by
 unfold twS
 split
 ·
  rename_i h
  obtain ⟨h1,h2,h3⟩:=nears3 h
  unfold lim at h1 h2 h3
  have m1:=mul_bd (b.x-a.x) (c.y-a.y) 4194304 (by omega) (by omega) (by omega) (by omega)
  have m2:=mul_bd (b.y-a.y) (c.x-a.x) 4194304 (by omega) (by omega) (by omega) (by omega)
  unfold tw
  omega
 · omega
theorem SetI.far {w:World} {b:Nat} {S:List Int} (h:SetI w b S) {g:Nat} (hg:g≠b) {i:Nat} {v:Value}:SetI (w.setCell ⟨g,i,none⟩ v) b S :=
 h.kept (row:=some g) ⟨rfl,rfl,rfl,by simp,fun j hj hne=>Below.heap_setCell w ⟨g,i,none⟩ v j (fun e=>hne (by rw [e]))⟩ (fun e=>hg (Option.some.inj e).symm)
def lstV (s:Option Cd):Value:=.tuple #[.int .i64 (s.elim 0 (·.id)),.int .i64 (s.elim 0 fun c=>(c.k:Int)),.int .i64 (s.elim 0 (·.n)),.bool s.isSome]
theorem lst_bd {p:Pl} {tol:Int} (st:List Int×Option Cd):∀ (l:List Ar),((l.foldl (lstF p tol) st).1).length≤st.1.length+l.length
 | []=>by simp
 | a::l=>by
  rw [List.foldl_cons,List.length_cons]
  have h:=lst_bd (p:=p) (tol:=tol) (lstF p tol st a) l
  have:(lstF p tol st a).1.length≤st.1.length+1:=by
   unfold lstF
   split
   · omega
   · simp
  omega
theorem lst_succ {p:Pl} {tol:Int} {k:Nat} (hk:k<p.arcs.length):(p.arcs.take (k+1)).foldl (lstF p tol) ([],none)=lstF p tol ((p.arcs.take k).foldl (lstF p tol) ([],none)) p.arcs[k]:=by
 rw [List.take_succ_eq_append_getElem hk,List.foldl_append];rfl
theorem cdU_fold {p:Pl} {tol:Int} {a:Ar} {P:List Pt} {m:Nat} (s:Option Cd):(cdU p tol a P (m+1)).foldl upP s=if (decide (sizeS P m<tol) && (befS ((cdU p tol a P m).foldl upP s) ⟨a.id,m,sizeS P m⟩ && freeU p a P m))=true then some ⟨a.id,m,sizeS P m⟩ else (cdU p tol a P m).foldl upP s:=by
 rw [cdU_succ,List.foldl_append]
 generalize (cdU p tol a P m).foldl upP s=t
 by_cases h:(decide (sizeS P m<tol) && freeU p a P m)=true
 ·
  rw [if_pos h]
  show upP t _=_
  rw [upP_bef]
  rw [Bool.and_eq_true] at h
  rw [h.1,h.2,Bool.true_and,Bool.and_true]
 ·
  rw [if_neg h]
  show t=_
  rw [if_neg]
  intro e
  apply h
  rw [Bool.and_eq_true,Bool.and_eq_true] at e
  rw [Bool.and_eq_true]
  exact ⟨e.1,e.2.2⟩

set_option maxRecDepth 100000 in
set_option maxHeartbeats 8000000 in
theorem Least_spec (v:Value) (p:Pl) (tol:Int) (w:World) (h:PlV w v p) (hm:Mod34 p) (hw:∀ a∈p.arcs,wfI a.id) :
  Calls Tryz.prog 15 #[v,.int .i64 tol] w fun e w'=>e=.returned (lstV (leastS p tol))∧Below w.heap.size w w':=by
 have HP:=Lib.hid (fun arc W (hW:Below w.heap.size w W)=>Path_spec v p arc W (h.mono hW) hm.short)
 have HFr:=Lib.hid (fun a A c vp P i W (hW:Below w.heap.size w W) (hP:Pts W vp P) (hi:i<a.via.length) (hl:P.length=a.via.length+2)=>free_spec v vp p a A c P i W (h.mono hW) hP hm hi hl)
 have HTw:=Lib.hid (fun a b c W=>Twice_spec a b c W)
 have HBf:=Lib.hid (@bef_spec)
 have hvl:=hm.via
 unfold lstV
 obtain ⟨zi,hzi⟩:∃ z,(leastS p tol).elim 0 (·.id)=z:=⟨_,rfl⟩
 obtain ⟨zk,hzk⟩:∃ z,((leastS p tol).elim 0 fun c=>(c.k:Int))=z:=⟨_,rfl⟩
 obtain ⟨zn,hzn⟩:∃ z,(leastS p tol).elim 0 (·.n)=z:=⟨_,rfl⟩
 obtain ⟨zb,hzb⟩:∃ z,(leastS p tol).isSome=z:=⟨_,rfl⟩
 rw [hzi,hzk,hzn,hzb]
 have HZ:=Lib.hid (fun W g4 g5 g6 g7 (h:LstI W g4 g5 g6 g7 (leastS p tol))=>show Blk W g4 3 #[.int .i64 zi]∧Blk W g5 3 #[.int .i64 zk]∧Blk W g6 3 #[.int .i64 zn]∧Blk W g7 4 #[.bool zb] from by
  rw [← hzi,← hzk,← hzn,← hzb]
  exact ⟨h.a,h.b,h.c,h.d⟩)
 clear hzi hzk hzn hzb
 obtain ⟨_,_,_,al,rfl,hpa,⟨An,cn,rfl,-⟩,⟨⟨Aa,ca,rfl,ha1,ha2,hRa⟩,hV⟩,⟨Af,cf,rfl,-⟩⟩:=h
 have HRa:=Lib.hid hRa;have HVi:=Lib.hid hV;have HPa:=Lib.hid hpa;have Hw:=Lib.hid hw
 have hal:al.length=p.arcs.length:=by rw [hpa,List.length_map]
 have hars:=hm.ars
 have HAl:=Lib.hid hal
 generalize p.nodes.length=nn at *
 generalize p.faces.length=nf at *
 have hmm:=@run_makeMap Tryz.prog
 clear hRa hV hpa hw hm hal
 go_enter Tryz.func15,Tryz.ntmps15
 go_upto_region 3 with fail
 obtain ⟨gm,hgm⟩:∃ g,g=w.heap.size+1+1+1+1+1:=⟨_,rfl⟩
 obtain ⟨g7,hg7⟩:∃ g,g=w.heap.size+1+1+1+1:=⟨_,rfl⟩
 obtain ⟨g6,hg6⟩:∃ g,g=w.heap.size+1+1+1:=⟨_,rfl⟩
 obtain ⟨g5,hg5⟩:∃ g,g=w.heap.size+1+1:=⟨_,rfl⟩
 obtain ⟨g4,hg4⟩:∃ g,g=w.heap.size+1:=⟨_,rfl⟩
 obtain ⟨W1,hW⟩:∃ W:World,W=(((((w.alloc (.cells #[.slice An nn cn,.slice Aa al.length ca,.slice Af nf cf] 26)).alloc (.cells #[.int .i64 0] 3)).alloc (.cells #[.int .i64 0] 3)).alloc (.cells #[.int .i64 0] 3)).alloc (.cells #[.bool false] 4)).alloc (.map #[] 0):=⟨_,rfl⟩
 have X2:Blk W1 w.heap.size 26 #[.slice An nn cn,.slice Aa al.length ca,.slice Af nf cf]:=by rw [hW];exact (((((Blk.made rfl _ _).alloc _).alloc _).alloc _).alloc _).alloc _
 have HL1:=Lib.hid (show LstI W1 g4 g5 g6 g7 none from ⟨by rw [hW];exact ((((Blk.made (by simp [hg4]) _ _).alloc _).alloc _).alloc _).alloc _,by rw [hW];exact (((Blk.made (by simp [hg5]) _ _).alloc _).alloc _).alloc _,by rw [hW];exact ((Blk.made (by simp [hg6]) _ _).alloc _).alloc _,by rw [hW];exact (Blk.made (by simp [hg7]) _ _).alloc _⟩)
 have HM1:=Lib.hid (show SetI W1 gm [] by
  have:=SetI.made (((((w.alloc (.cells #[.slice An nn cn,.slice Aa al.length ca,.slice Af nf cf] 26)).alloc (.cells #[.int .i64 0] 3)).alloc (.cells #[.int .i64 0] 3)).alloc (.cells #[.int .i64 0] 3)).alloc (.cells #[.bool false] 4))
  rw [hW,hgm];simpa using this)
 have HB1:=Lib.hid (show Below w.heap.size w W1 by rw [hW];exact bA (bA (bA (bA (bA (bA (bR w) _) _) _) _) _) _)
 rw [← hW,← hgm,← hg7,← hg6,← hg5,← hg4]
 have n45:g4≠g5:=by omega
 have n46:g4≠g6:=by omega
 have n47:g4≠g7:=by omega
 have n56:g5≠g6:=by omega
 have n57:g5≠g7:=by omega
 have n67:g6≠g7:=by omega
 have n4m:g4≠gm:=by omega
 have n5m:g5≠gm:=by omega
 have n6m:g6≠gm:=by omega
 have n7m:g7≠gm:=by omega
 have l4:w.heap.size<g4:=by omega
 have l5:w.heap.size<g5:=by omega
 have l6:w.heap.size<g6:=by omega
 have l7:w.heap.size<g7:=by omega
 have lm:w.heap.size<gm:=by omega
 have HX2:=Lib.hid X2
 clear hW hgm hg7 hg6 hg5 hg4 hmm
 obtain ⟨X2l,X2a,X2b,X2c,-,-,-⟩:=X2.facts3
 go_upto_block 0 with fail
 clear X2 X2l X2a X2b X2c
 go_wp2_with fail
 go_loopw [21] (fun u wr=>∃ k:Nat,k≤al.length∧u=.int .i64 k∧LstI wr g4 g5 g6 g7 ((p.arcs.take k).foldl (lstF p tol) ([],none)).2∧SetI wr gm ((p.arcs.take k).foldl (lstF p tol) ([],none)).1∧Blk wr w.heap.size 26 #[.slice An nn cn,.slice Aa al.length ca,.slice Af nf cf]∧Below w.heap.size w wr) (fun u _=>al.length-(intOf u).toNat)
 case atStart => exact ⟨0,Nat.zero_le _,rfl,HL1.out,HM1.out,HX2.out,HB1.out⟩
 case round =>
  obtain ⟨k,hk,rfl,hls,hst,X2,hb⟩:=hrel
  obtain ⟨wo,rfl⟩:∃ wo:World,wo=wr:=⟨_,rfl⟩
  have hbd:=lst_bd (p:=p) (tol:=tol) ([],none) (p.arcs.take k)
  have HLs:=Lib.hid hls;have HSt:=Lib.hid hst;have HX:=Lib.hid X2;have Hb:=Lib.hid hb
  clear hls hst hb X2 HL1 HM1 HX2 HB1
  by_cases hlt:k<al.length
  ·
   have hkp:k<p.arcs.length:=by rw [← HAl.out];exact hlt
   have hsuc:=lst_succ (p:=p) (tol:=tol) hkp
   have hax:p.arcs[k]=al[k].1:=by
    have e:p.arcs[k]? = some al[k].1:=by rw [HPa.out,List.getElem?_map,List.getElem?_eq_getElem hlt];rfl
    rw [List.getElem?_eq_getElem hkp] at e
    exact Option.some.inj e
   have hvm:=hvl _ (List.getElem_mem hkp)
   have hwk:=Hw.out _ (List.getElem_mem hkp)
   rw [List.length_take] at hbd
   have hbd':((p.arcs.take k).foldl (lstF p tol) ([],none)).1.length≤1000000:=by simp only [List.length_nil] at hbd;omega
   clear hbd
   obtain ⟨st,hste⟩:∃ st,(p.arcs.take k).foldl (lstF p tol) ([],none)=st:=⟨_,rfl⟩
   rw [hste] at HLs HSt hsuc hbd'
   obtain ⟨S,s⟩:=st
   simp only at HLs HSt hbd'
   rw [hax] at hsuc hvm hwk
   unfold lstF at hsuc
   simp only at hsuc
   have HSuc:=Lib.hid hsuc;have Hax:=Lib.hid hax;have HSe:=Lib.hid hste
   obtain ⟨b,o,rfl,hlb,c0,c1,c2,c3,c4,c5⟩:=(HRa.out.mono Hb.out).ar hlt
   obtain ⟨Av,cv,hva,-,-,hRv⟩:=HVi.out k hlt
   rw [hva] at c3
   obtain ⟨y,hy⟩:∃ y,al[k]=y:=⟨_,rfl⟩
   rw [hy] at c0 c1 c2 c3 c4 c5 hvm hwk HSuc Hax
   clear hy hva hRv hsuc hax hste
   have HAx:=Lib.hid Hax.out
   obtain ⟨⟨yid,yfr,ydst,V,ylf,yrt⟩,yv⟩:=y
   simp only at c0 c1 c2 c3 c4 c5 hvm hwk HSuc HAx
   have k1:(k:Int)<al.length:=by omega
   have k2:0≤(k:Int):=by omega
   go_upto_region 6 with fail
   obtain ⟨g11,hg11⟩:∃ g,g=wo.heap.size:=⟨_,rfl⟩
   obtain ⟨W2,hW⟩:∃ W:World,W=wo.alloc (.cells #[.int .i64 yid,.int .i64 yfr,.int .i64 ydst,.slice Av V.length cv,.int .i64 ylf,.int .i64 yrt] 41):=⟨_,rfl⟩
   have X11:Blk W2 g11 41 #[.int .i64 yid,.int .i64 yfr,.int .i64 ydst,.slice Av V.length cv,.int .i64 ylf,.int .i64 yrt]:=by rw [hW,hg11];exact Blk.made rfl _ _
   have hA2:Below wo.heap.size wo W2:=by rw [hW];exact bA (bR wo) _
   have HLs2:=Lib.hid (HLs.out.keep hA2);have HSt2:=Lib.hid (HSt.out.keep hA2);have HX22:=Lib.hid (HX.out.keep hA2);have HB2:=Lib.hid (bT Hb.out hA2)
   have hlmo:gm<g11:=by rw [hg11];exact HSt.out.lt
   have m4:g4<g11:=by rw [hg11];exact HLs.out.a.lt
   have m5:g5<g11:=by rw [hg11];exact HLs.out.b.lt
   have m6:g6<g11:=by rw [hg11];exact HLs.out.c.lt
   have m7:g7<g11:=by rw [hg11];exact HLs.out.d.lt
   have m2:w.heap.size<g11:=by rw [hg11];exact HX.out.lt
   rw [← hW,← hg11]
   have HX11:=Lib.hid X11
   have hlk:=HSt2.out.look yid hwk
   clear hW hA2 hg11 c0 c1 c2 c3 c4 c5 hlb HLs HSt HX Hb
   obtain ⟨X11l,X11a,X11b,X11c,X11d,X11e,X11f,-,-,-,-,-,-⟩:=X11.facts6
   by_cases hin:yid∈S
   ·
    rw [decide_eq_true hin] at hlk
    have hs:=Lib.hid (show (p.arcs.take (k+1)).foldl (lstF p tol) ([],none)=(S,s) from HSuc.out.trans (if_pos (by simpa using hin)))
    clear hin
    go_wp2_with fail
    go_roundw
    case rel => exact ⟨k+1,by omega,by go_num,by rw [hs.out];exact HLs2.out,by rw [hs.out];exact HSt2.out,HX22.out,HB2.out⟩
    case measure => simp [intOf];omega
   rw [decide_eq_false hin] at hlk
   obtain ⟨w3,hr3,hm3,hg3⟩:=HSt2.out.upd (by omega) yid hwk hin
   have hs:=Lib.hid (show (p.arcs.take (k+1)).foldl (lstF p tol) ([],none)=(S++[yid],(cdA p tol yid).foldl upP s) from HSuc.out.trans (if_neg (by simpa using hin)))
   have HSt3:=Lib.hid hm3
   have HLs3:=Lib.hid (HLs2.out.grown hg3 n4m n5m n6m n7m)
   have HX23:=Lib.hid (HX22.out.grown hg3 (fun e=>by have:=Option.some.inj e;omega));have HX113:=Lib.hid (HX11.out.grown hg3 (fun e=>by have:=Option.some.inj e;omega))
   have HB3:=Lib.hid (bG HB2.out hg3 (fun g hg=>by have:=Option.some.inj hg;omega))
   have HNin:=Lib.hid hin
   have hsn:=hs.out
   clear hin HSuc hm3 hg3 hs
   go_upto_region 8 with fail
   clear hlk hr3 X11 X11l X11a X11b X11c X11d X11e X11f HLs2 HSt2 HX22 HX11 HB2
   have X2:=HX23.out;have X11:=HX113.out
   try clear X2l
   try clear X2a
   try clear X2b
   try clear X2c
   obtain ⟨X2l,X2a,X2b,X2c,-,-,-⟩:=X2.facts3
   try clear X11l
   try clear X11a
   try clear X11b
   try clear X11c
   try clear X11d
   try clear X11e
   try clear X11f
   obtain ⟨X11l,X11a,X11b,X11c,X11d,X11e,X11f,-,-,-,-,-,-⟩:=X11.facts6
   go_wp2_with fail
   refine (HP.out yid _ HB3.out).mono ?_
   rintro e w4 ⟨A4,c4,rfl,hb4,ho4⟩
   have HB4:=Lib.hid (bT HB3.out hb4)
   have HLs4:=Lib.hid (HLs3.out.keep hb4);have HSt4:=Lib.hid (HSt3.out.keep hb4);have HX24:=Lib.hid (HX23.out.keep hb4);have HX114:=Lib.hid (HX113.out.keep hb4)
   clear hb4 X2 X2l X2a X2b X2c X11 X11l X11a X11b X11c X11d X11e X11f HLs3 HSt3 HX23 HX113 HB3
   obtain ⟨Y,hY⟩:∃ Y:Ar,(⟨yid,yfr,ydst,V,ylf,yrt⟩:Ar)=Y:=⟨_,rfl⟩
   have hfa:findAr p.arcs yid=some Y:=by
    have hnot:=HNin.out
    have hm:=(lst_mem (p:=p) (tol:=tol) (p.arcs.take k) ([],none)).1
    rw [HSe.out] at hm
    have hk':=HAx.out
    rw [hY] at hk'
    unfold findAr
    rw [← hk']
    refine find_hit p.arcs _ k hkp (fun j hj hjk=>?_) ?_
    ·
     simp only [beq_eq_false_iff_ne,ne_eq]
     intro e
     apply hnot
     rw [← e]
     exact hm _ (by
      have:p.arcs[j]=(p.arcs.take k)[j]'(by rw [List.length_take];omega):=by rw [List.getElem_take]
      rw [this]
      exact List.getElem_mem _)
    ·
     rw [hk',← hY]
     simp
   have hcd:cdA p tol yid=if hasEnds p Y=true then cdU p tol Y (pathS p Y) V.length else []:=by
    unfold cdA
    rw [hfa]
    simp only
    rw [show Y.via=V by rw [← hY]]
   have hpo:=fr_path hfa
   have hpl:(pathS p Y).length=V.length+2:=by rw [pathS_length,← hY]
   rw [hpo] at ho4 ⊢
   rw [hcd] at hsn
   have Hsn:=Lib.hid hsn
   clear hcd hpo hfa hsn
   by_cases he:hasEnds p Y=true
   case neg =>
    have hs:=Lib.hid (show (p.arcs.take (k+1)).foldl (lstF p tol) ([],none)=(S++[yid],s) by rw [Hsn.out,if_neg he];rfl)
    rw [if_neg he]
    simp only [Option.isSome_none,Bool.false_eq_true,if_false]
    clear ho4 he hpl hY
    go_wp2_with fail
    go_roundw
    case rel => exact ⟨k+1,by omega,by go_num,by rw [hs.out];exact HLs4.out,by rw [hs.out];exact HSt4.out,HX24.out,HB4.out⟩
    case measure => simp [intOf];omega
   rw [if_pos he] at ho4 ⊢
   have hsn:=Hsn.out
   rw [if_pos he] at hsn
   simp only [Option.getD_some,Option.isSome_some,if_true] at ho4 ⊢
   obtain ⟨P,hP⟩:∃ P,pathS p Y=P:=⟨_,rfl⟩
   rw [hP] at hsn hpl ho4 ⊢
   have hyid:Y.id=yid:=by rw [← hY]
   have hU:=fun m=>cdU_fold (p:=p) (tol:=tol) (a:=Y) (P:=P) (m:=m) s
   rw [hyid] at hU
   have HU:=Lib.hid hU;have Hsn2:=Lib.hid hsn
   obtain ⟨F,hF⟩:∃ F:Nat→Option Cd,(fun m=>(cdU p tol Y P m).foldl upP s)=F:=⟨_,rfl⟩
   have hF':∀ m,(cdU p tol Y P m).foldl upP s=F m:=fun m=>congrFun hF m
   have hF0:F 0=s:=by rw [← hF'];rfl
   have HFs:=Lib.hid (fun m=>show F (m+1)=if (decide (sizeS P m<tol) && (befS (F m) ⟨yid,m,sizeS P m⟩ && freeU p Y P m))=true then some ⟨yid,m,sizeS P m⟩ else F m by rw [← hF',← hF'];exact hU m)
   rw [hF'] at hsn
   have Hsn3:=Lib.hid hsn;have HF0:=Lib.hid hF0
   have HFr1:=Lib.hid (fun m W (hW:Below w.heap.size w W) (hQ:Pts W (.slice A4 P.length c4) P) (hi:m<V.length)=>show Calls Tryz.prog 28 #[.agg #[.slice An nn cn,.slice (some ⟨b,o,none⟩) al.length ca,.slice Af nf cf],.agg #[.int .i64 yid,.int .i64 yfr,.int .i64 ydst,.slice Av V.length cv,.int .i64 ylf,.int .i64 yrt],.slice A4 P.length c4,.int .i64 m] W fun e w'=>e=.returned (.bool (freeU p Y P m))∧Below W.heap.size W w' from by
    subst hY
    exact HFr.out ⟨yid,yfr,ydst,V,ylf,yrt⟩ Av cv (.slice A4 P.length c4) P m W hW hQ hi hpl)
   clear hF hF' hU hsn hF0 hP hyid he hY Hsn Hsn2 HU
   have HO4:=Lib.hid ho4
   rw [hpl] at HO4 HFr1 ⊢
   have HPl:=Lib.hid hpl
   obtain ⟨np,hnp⟩:∃ n,V.length+2=n:=⟨_,rfl⟩
   rw [hnp] at HO4 HFr1 HPl ⊢
   have X11:=HX114.out
   clear ho4 hpl
   try clear X11l
   try clear X11a
   try clear X11b
   try clear X11c
   try clear X11d
   try clear X11e
   try clear X11f
   obtain ⟨X11l,X11a,X11b,X11c,X11d,X11e,X11f,-,-,-,-,-,-⟩:=X11.facts6
   go_upto_block 2 with fail
   clear X11 X11l X11a X11b X11c X11d X11e X11f
   go_wp2_with fail
   go_loopw [44] (fun u wr=>∃ m:Nat,m≤V.length∧u=.int .i64 m∧LstI wr g4 g5 g6 g7 (F m)∧SetI wr gm (S++[yid])∧Blk wr w.heap.size 26 #[.slice An nn cn,.slice (some ⟨b,o,none⟩) al.length ca,.slice Af nf cf]∧Blk wr g11 41 #[.int .i64 yid,.int .i64 yfr,.int .i64 ydst,.slice Av V.length cv,.int .i64 ylf,.int .i64 yrt]∧Own wr w3.heap.size 36 2 ptC (.slice A4 np c4) P∧Below w.heap.size w wr) (fun u _=>V.length-(intOf u).toNat)
   case atStart => exact ⟨0,Nat.zero_le _,rfl,by rw [HF0.out];exact HLs4.out,HSt4.out,HX24.out,HX114.out,HO4.out,HB4.out⟩
   case round =>
    obtain ⟨m,hm,rfl,hls,hst,X2,X11,hop,hb⟩:=hrel
    obtain ⟨wm,rfl⟩:∃ wm:World,wm=wr:=⟨_,rfl⟩
    have HLm:=Lib.hid hls;have HSm:=Lib.hid hst;have HX2m:=Lib.hid X2;have HX11m:=Lib.hid X11;have HOm:=Lib.hid hop;have HBm:=Lib.hid hb
    clear hls hst hop hb HLs4 HSt4 HX24 HX114 HO4 HB4
    by_cases hml:m<V.length
    ·
     obtain ⟨AA,cc,he,-,-,hRp⟩:=HOm.out.sl
     injection he with e1 e2 e3
     subst e1
     clear e2 e3
     have hPl:=HPl.out
     obtain ⟨bp,op,hA1,hlp,d0,d1⟩:=hRp.pt (show m<P.length by omega)
     obtain ⟨b',o',hA2,-,d2,d3⟩:=hRp.pt (show m+1<P.length by omega)
     obtain ⟨b'',o'',hA3,-,d4,d5⟩:=hRp.pt (show m+2<P.length by omega)
     subst hA1
     injection hA2 with hA2
     injection hA2 with q1 q2 _
     subst q1 q2
     injection hA3 with hA3
     injection hA3 with q1 q2 _
     subst q1 q2
     have hsz:sizeS P m=(let t:=twS P[m] P[m+1] P[m+2];if t<0 then -t else t):=by
      unfold sizeS
      rw [List.getD_eq_getElem?_getD,List.getElem?_eq_getElem (show m<P.length by omega),List.getD_eq_getElem?_getD,List.getElem?_eq_getElem (show m+1<P.length by omega),List.getD_eq_getElem?_getD,List.getElem?_eq_getElem (show m+2<P.length by omega)]
      rfl
     generalize P[m]=t1 at *
     generalize P[m+1]=t2 at *
     generalize P[m+2]=t3 at *
     have HT1:=Lib.hid (fun W=>HTw.out t1 t2 t3 W)
     have htb:=twS_bd t1 t2 t3
     unfold ptV at HT1
     generalize twS t1 t2 t3=T at *
     have hfs:=HFs.out m
     obtain ⟨N,hN⟩:∃ N,sizeS P m=N:=⟨_,rfl⟩
     rw [hN] at hsz hfs
     simp only at hsz
     have hmx:(if T < -T then -T else T)=N:=by rw [hsz];split<;>split<;>omega
     have hmy:max T (-T)=N:=by rw [hsz];split<;>omega
     have hkw:IntKind.i64.wrap (-T)=-T:=IntWalk.i64_in _ (by omega)
     obtain ⟨z1,hz1⟩:∃ z,befS (F m) ⟨yid,m,N⟩=z:=⟨_,rfl⟩
     obtain ⟨z2,hz2⟩:∃ z,freeU p Y P m=z:=⟨_,rfl⟩
     rw [hz1,hz2] at hfs
     have HZ1:=Lib.hid hz1;have HZ2:=Lib.hid hz2;have HFm:=Lib.hid hfs;have HMx:=Lib.hid hmx;have HMy:=Lib.hid hmy
     have r0:0≤(m:Int):=by omega
     have r1:(m:Int)<np:=by omega
     have r2:(m:Int)+1<np:=by omega
     have r3:(m:Int)+2<np:=by omega
     have r4:0≤(m:Int)+1:=by omega
     have r5:0≤(m:Int)+2:=by omega
     have r6:((m:Int)+2).toNat=m+2:=by omega
     have r7:(m:Int)<V.length:=by omega
     have kw1:IntKind.i64.wrap ((m:Int)+1)=(m:Int)+1:=IntWalk.i64_in _ (by omega)
     have kw2:IntKind.i64.wrap ((m:Int)+2)=(m:Int)+2:=IntWalk.i64_in _ (by omega)
     clear hN hsz hz1 hz2 hfs hPl hRp X2 X11 hmx hmy htb
     go_upto_region 13 with fail
     refine rg_start (Since wm) (.run 14 0 0 (.call 14 32767 (.take 15 65535 (.done)))) (by kernel_rfl) (bD (bR _)) (by kernel_rfl) (by kernel_rfl) (Nat.le_of_ble_eq_true (by kernel_rfl)) ?_
     intro opsR QR Hops HQrg hS
     iterate 14
      apply rg_p;exact Hops;exact rfl;exact hS;exact rfl
      · intro _ hqc;go_simp;try rfl
      try simp only [pu]
     refine rg_call (i:=14) (get_of Hops rfl) (fun K hK=>?_)
     have HSrg:=Lib.hid hS;clear hS
     refine rg_run (wanted_plain rfl) ?_
     go_simp
     refine (HT1.out _).mono ?_
     rintro e wr1 ⟨rfl,hbr1⟩
     have hS:Since wm wr1:=bT (w:=wm) HSrg.out hbr1
     clear HSrg
     refine hK.out _ _ hS (fun _=>?_)
     clear hK K
     try simp only [pu]
     apply rg_p;exact Hops;exact rfl;exact hS;exact rfl
     · intro _ hqc;go_simp;try rfl
     try simp only [pu]
     refine rg_done ?_
     refine HQrg.down _ _ ?_
     have hB:Below wm.heap.size wm wr1:=hS
     clear hS HQrg Hops
     have hBm:=hB
     have HLm2:=Lib.hid (HLm.out.keep hBm);have HSm2:=Lib.hid (HSm.out.keep hBm);have HX22:=Lib.hid (HX2m.out.keep hBm);have HX112:=Lib.hid (HX11m.out.keep hBm);have HOm2:=Lib.hid (HOm.out.keep hBm);have HBm2:=Lib.hid (bT HBm.out hBm)
     clear hB hBm hbr1 HLm HSm HX2m HX11m HOm HBm HT1 d0 d1 d2 d3 d4 d5 hlp r1 r2 r3 r4 r5 r6 kw1 kw2
     obtain ⟨wn,hwn⟩:∃ w:World,w=wr1:=⟨_,rfl⟩
     rw [← hwn] at HLm2 HSm2 HX22 HX112 HOm2 HBm2 ⊢
     clear hwn
     go_upto_region 15 with fail
     first | rw [HMx.out] | rw [HMy.out]
     clear hkw
     obtain ⟨z3,hz3⟩:∃ z,(decide (N<tol) && (z1 && z2))=z:=⟨_,rfl⟩
     have hfm:=HFm.out
     rw [hz3] at hfm
     have HFm2:=Lib.hid hfm
     clear hfm
     go_cut [83] (fun u wx=>u=.bool z3∧Below wn.heap.size wn wx)
     case first =>
      have X11:=HX112.out;have X2:=HX22.out
      have HBf1:=Lib.hid (HBf.out (F m) ⟨yid,m,N⟩ g4 g5 g6 g7 wn HLm2.out)
      rw [HZ1.out] at HBf1
      have HFf:=Lib.hid (HFr1.out m wn HBm2.out (by unfold Pts;rw [HPl.out];have h:=HOm2.out.sl;rw [HPl.out] at h;exact h) hml)
      rw [HZ2.out] at HFf
      by_cases hnt:N<tol
      case neg =>
       have q:=Lib.hid (show z3=false by rw [← hz3,decide_eq_false hnt];rfl)
       clear hz3
       go_wp2_with fail
       go_meet
       case rel => exact ⟨by rw [q.out],bR wn⟩
      try clear X11l
      try clear X11a
      try clear X11b
      try clear X11c
      try clear X11d
      try clear X11e
      try clear X11f
      obtain ⟨X11l,X11a,X11b,X11c,X11d,X11e,X11f,-,-,-,-,-,-⟩:=X11.facts6
      try clear X2l
      try clear X2a
      try clear X2b
      try clear X2c
      obtain ⟨X2l,X2a,X2b,X2c,-,-,-⟩:=X2.facts3
      cases z1
      case false =>
       have q:=Lib.hid (show z3=false by rw [← hz3];simp)
       clear hz3
       go_wp2_with fail
       refine HBf1.out.mono ?_
       rintro e w' ⟨rfl,rfl⟩
       go_wp2_with fail
       go_meet
       case rel => exact ⟨by rw [q.out],bR wn⟩
      have q:=Lib.hid (show z2=z3 by rw [← hz3,decide_eq_true hnt];rfl)
      clear hz3
      go_wp2_with fail
      refine HBf1.out.mono ?_
      rintro e w' ⟨rfl,rfl⟩
      go_wp2_with fail
      refine HFf.out.mono ?_
      rintro e w5 ⟨rfl,hb5⟩
      go_wp2_with fail
      go_meet
      case rel => exact ⟨by rw [q.out],hb5⟩
     case rest =>
     obtain ⟨rfl,hbc⟩:=hcut
     obtain ⟨wq,hwq⟩:∃ w:World,w=wc:=⟨_,rfl⟩
     rw [← hwq] at hbc ⊢
     have HLq:=Lib.hid (HLm2.out.keep hbc);have HSq:=Lib.hid (HSm2.out.keep hbc);have HX2q:=Lib.hid (HX22.out.keep hbc);have HX11q:=Lib.hid (HX112.out.keep hbc);have HOq:=Lib.hid (HOm2.out.keep hbc);have HBq:=Lib.hid (bT HBm2.out hbc)
     clear hwq hbc hz3 HLm2 HSm2 HX22 HX112 HOm2 HBm2 HFm HMx HMy HZ1 HZ2
     cases z3
     case false =>
      have hf:=HFm2.out
      rw [if_neg (by simp)] at hf
      have Hf:=Lib.hid hf
      clear hf HFm2
      go_wp2_with fail
      go_roundw
      case rel => exact ⟨m+1,by omega,by go_num,by rw [Hf.out];exact HLq.out,HSq.out,HX2q.out,HX11q.out,HOq.out,HBq.out⟩
      case measure => simp [intOf];omega
     case true =>
      have hf:=HFm2.out
      rw [if_pos rfl] at hf
      have Hf:=Lib.hid hf
      have X11:=HX11q.out;have X4:=HLq.out.a;have X5:=HLq.out.b;have X6:=HLq.out.c;have X7:=HLq.out.d
      clear hf HFm2
      generalize (F m).elim 0 (·.id)=y1 at X4
      generalize ((F m).elim 0 fun c=>(c.k:Int))=y2 at X5
      generalize (F m).elim 0 (·.n)=y3 at X6
      generalize (F m).isSome=y4 at X7
      try clear X11l
      try clear X11a
      try clear X11b
      try clear X11c
      try clear X11d
      try clear X11e
      try clear X11f
      obtain ⟨X11l,X11a,X11b,X11c,X11d,X11e,X11f,-,-,-,-,-,-⟩:=X11.facts6
      obtain ⟨X4l,X4a,X4fa⟩:=X4.facts1
      obtain ⟨X5l,X5a,X5fa⟩:=X5.facts1
      obtain ⟨X6l,X6a,X6fa⟩:=X6.facts1
      obtain ⟨X7l,X7a,X7fa⟩:=X7.facts1
      go_upto_region 17 with fail
      obtain ⟨W5,hW⟩:∃ W:World,W=(((wq.setCell ⟨g4,0,none⟩ (.int .i64 yid)).setCell ⟨g5,0,none⟩ (.int .i64 m)).setCell ⟨g6,0,none⟩ (.int .i64 N)).setCell ⟨g7,0,none⟩ (.bool true):=⟨_,rfl⟩
      have HL5:=Lib.hid (show LstI W5 g4 g5 g6 g7 (some ⟨yid,m,N⟩) by rw [hW];exact HLq.out.put n45 n46 n47 n56 n57 n67 ⟨yid,m,N⟩)
      have HS5:=Lib.hid (show SetI W5 gm (S++[yid]) by rw [hW];exact SetI.far (SetI.far (SetI.far (SetI.far HSq.out n4m) n5m) n6m) n7m)
      have HX25:=Lib.hid (show Blk W5 w.heap.size 26 #[.slice An nn cn,.slice (some ⟨b,o,none⟩) al.length ca,.slice Af nf cf] by rw [hW];exact (((HX2q.out.far (p:=⟨g4,0,none⟩) (by show w.heap.size≠g4;omega) _).far (p:=⟨g5,0,none⟩) (by show w.heap.size≠g5;omega) _).far (p:=⟨g6,0,none⟩) (by show w.heap.size≠g6;omega) _).far (p:=⟨g7,0,none⟩) (by show w.heap.size≠g7;omega) _)
      have HX115:=Lib.hid (show Blk W5 g11 41 #[.int .i64 yid,.int .i64 yfr,.int .i64 ydst,.slice Av V.length cv,.int .i64 ylf,.int .i64 yrt] by rw [hW];exact (((HX11q.out.far (p:=⟨g4,0,none⟩) (by show g11≠g4;omega) _).far (p:=⟨g5,0,none⟩) (by show g11≠g5;omega) _).far (p:=⟨g6,0,none⟩) (by show g11≠g6;omega) _).far (p:=⟨g7,0,none⟩) (by show g11≠g7;omega) _)
      have HO5:=Lib.hid (show Own W5 w3.heap.size 36 2 ptC (.slice (some ⟨bp,op,none⟩) np c4) P by
       rw [hW]
       have f4:=Own.ne_blk HOq.out HLq.out.a (by decide);have f5:=Own.ne_blk HOq.out HLq.out.b (by decide);have f6:=Own.ne_blk HOq.out HLq.out.c (by decide);have f7:=Own.ne_blk HOq.out HLq.out.d (by decide)
       exact (((HOq.out.far (p:=⟨g4,0,none⟩) f4 _).far (p:=⟨g5,0,none⟩) f5 _).far (p:=⟨g6,0,none⟩) f6 _).far (p:=⟨g7,0,none⟩) f7 _)
      have HB5:=Lib.hid (show Below w.heap.size w W5 by rw [hW];exact bS (p:=⟨g7,0,none⟩) (bS (p:=⟨g6,0,none⟩) (bS (p:=⟨g5,0,none⟩) (bS (p:=⟨g4,0,none⟩) HBq.out (by show w.heap.size≤g4;omega) _) (by show w.heap.size≤g5;omega) _) (by show w.heap.size≤g6;omega) _) (by show w.heap.size≤g7;omega) _)
      rw [← hW]
      clear hW X11 X11l X11a X11b X11c X11d X11e X11f X4 X4l X4a X4fa X5 X5l X5a X5fa X6 X6l X6a X6fa X7 X7l X7a X7fa HLq HSq HX2q HX11q HOq HBq
      go_wp2_with fail
      go_roundw
      case rel => exact ⟨m+1,by omega,by go_num,by rw [Hf.out];exact HL5.out,HS5.out,HX25.out,HX115.out,HO5.out,HB5.out⟩
      case measure => simp [intOf];omega
    ·
     obtain rfl:m=V.length:=by omega
     have hs:=Hsn3.out
     have Hs:=Lib.hid hs
     clear hs X2 X11
     go_wp2_with fail
     go_roundw
     case rel => exact ⟨k+1,by omega,by go_num,by rw [Hs.out];exact HLm.out,by rw [Hs.out];exact HSm.out,HX2m.out,HBm.out⟩
     case measure => simp [intOf];omega
  ·
   obtain rfl:k=al.length:=by omega
   have hfull:p.arcs.take al.length=p.arcs:=List.take_of_length_le (by rw [HAl.out];exact Nat.le_refl _)
   rw [hfull] at HLs
   obtain ⟨X4,X5,X6,X7⟩:=HZ.out wo g4 g5 g6 g7 HLs.out
   clear hfull hbd
   have HX4:=Lib.hid X4;have HX5:=Lib.hid X5;have HX6:=Lib.hid X6;have HX7:=Lib.hid X7
   go_upto_region 19 with fail
   try clear X4l
   try clear X4a
   try clear X4fa
   obtain ⟨X4l,X4a,X4fa⟩:=X4.facts1
   try clear X5l
   try clear X5a
   try clear X5fa
   obtain ⟨X5l,X5a,X5fa⟩:=X5.facts1
   try clear X6l
   try clear X6a
   try clear X6fa
   obtain ⟨X6l,X6a,X6fa⟩:=X6.facts1
   try clear X7l
   try clear X7a
   try clear X7fa
   obtain ⟨X7l,X7a,X7fa⟩:=X7.facts1
   go_region
   rw [setC_same HX4.out,setC_same HX5.out,setC_same HX6.out,setC_same HX7.out]
   go_wp2_with fail
   exact res_cells4 rfl isAgg_i isAgg_i isAgg_i isAgg_b rfl rfl rfl rfl rfl HX4.out.drew HX5.out.drew HX6.out.drew HX7.out.drew ⟨rfl,bD Hb.out⟩
end Go.Proofs.YtnhdmghgjngcaaaGreat
