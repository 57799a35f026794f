import Derived.Test.YtpempeioeiaijaaGreatJ03
import Derived.Test.YtpempeioeiaijaaGreatGB
import Derived.Shelf.SlSortCmp.NoneTotal
import Derived.Test.YtpempeioeiaijaaGreatLaySort
set_option linter.unusedSimpArgs false
set_option linter.unusedVariables false
namespace Go.Proofs.YtpempeioeiaijaaGreat
open Go.RowKit

structure Ln where
 arc:Ar
 path:List Pt
 g:Nat
 via:SV
 pa:Option Addr
 pc:Nat
def lnC (x:Ln):Array Value:=#[.int .i64 x.arc.id,.int .i64 x.arc.fr,.int .i64 x.arc.dst,.slice x.via.a x.via.n x.via.c,.int .i64 x.arc.left,.int .i64 x.arc.right,.slice x.pa x.path.length x.pc]
def LnOk (w:World) (x:Ln):Prop:=Blk w x.g 140 (lnC x)∧Own w 0 42 2 ptC (.slice x.pa x.path.length x.pc) x.path
theorem LnOk.keep {w w':World} {x:Ln} (h:LnOk w x) (hb:Below w.heap.size w w'):LnOk w' x:=⟨h.1.keep hb,h.2.keep hb⟩

structure PSg where
 ln:Ln
 k:Nat
def psgC (s:PSg):List Value:=[.pointer (some ⟨s.ln.g,0,none⟩),.int .i64 s.k]
def psgV (s:PSg):Value:=.agg #[.pointer (some ⟨s.ln.g,0,none⟩),.int .i64 s.k]
def PSg.fst (s:PSg):Pt:=s.ln.path.getD s.k pt0
def PSg.snd (s:PSg):Pt:=s.ln.path.getD (s.k+1) pt0
def SgOk (w:World) (s:PSg):Prop:=LnOk w s.ln∧s.k+1<s.ln.path.length∧s.ln.path.length≤2097152
theorem SgOk.keep {w w':World} {s:PSg} (h:SgOk w s) (hb:Below w.heap.size w w'):SgOk w' s:=⟨h.1.keep hb,h.2⟩
theorem Blk.facts7 {w:World} {g:Nat} {t:TypeId} {v0 v1 v2 v3 v4 v5 v6:Value} (h:Blk w g t #[v0,v1,v2,v3,v4,v5,v6]):g<w.heap.size∧w.cell? ⟨g,0,none⟩=some v0∧w.cell? ⟨g,1,none⟩=some v1∧w.cell? ⟨g,2,none⟩=some v2∧w.cell? ⟨g,3,none⟩=some v3∧w.cell? ⟨g,4,none⟩=some v4∧w.cell? ⟨g,5,none⟩=some v5∧w.cell? ⟨g,6,none⟩=some v6∧w.frozen? ⟨g,0,none⟩=false∧w.frozen? ⟨g,1,none⟩=false∧w.frozen? ⟨g,2,none⟩=false∧w.frozen? ⟨g,3,none⟩=false∧w.frozen? ⟨g,4,none⟩=false∧w.frozen? ⟨g,5,none⟩=false∧w.frozen? ⟨g,6,none⟩=false :=
 ⟨h.lt,h.cell 0,h.cell 1,h.cell 2,h.cell 3,h.cell 4,h.cell 5,h.cell 6,h.frozen 0,h.frozen 1,h.frozen 2,h.frozen 3,h.frozen 4,h.frozen 5,h.frozen 6⟩

set_option maxRecDepth 100000 in
set_option maxHeartbeats 1000000 in
theorem ends2_spec (s:PSg) (w:World) (h:SgOk w s) :
  Calls Tryz.prog 100 #[psgV s] w fun e w'=>e=.returned (.tuple #[ptV s.fst,ptV s.snd])∧BelowD w w':=by
 obtain ⟨⟨hL,hP⟩,hk,hm⟩:=h
 obtain ⟨A,c,he,hn,hc,hR⟩:=Own.sl hP
 clear hP
 injection he with he1 _ he3
 subst he1 he3
 unfold lnC at hL
 obtain ⟨b,o,hA,hlb,c0,c1⟩:=hR.pt (k:=s.k) (by omega)
 obtain ⟨b',o',hA',-,d0,d1⟩:=hR.pt (k:=s.k+1) hk
 rw [hA] at hA' hL
 simp only [Option.some.injEq,Addr.mk.injEq,and_true] at hA'
 obtain ⟨rfl,rfl⟩:=hA'
 have hf:s.fst=s.ln.path[s.k]:=by unfold PSg.fst;simp [List.getD,List.getElem?_eq_getElem (show s.k<s.ln.path.length by omega)]
 have hs:s.snd=s.ln.path[s.k+1]:=by unfold PSg.snd;simp [List.getD,List.getElem?_eq_getElem hk]
 rw [← hf] at c0 c1
 rw [← hs] at d0 d1
 unfold psgV ptV
 unfold maxLen at hc
 clear hf hs hR hA
 generalize s.fst=P0 at *
 generalize s.snd=P1 at *
 generalize s.ln.path.length=N at *
 generalize s.k=k at *
 generalize s.ln.g=g at *
 have HL:=Lib.hid hL;clear hL
 go_enter Tryz.func100,Tryz.ntmps100
 go_upto_region 1 with fail
 obtain ⟨W,hW⟩:∃ W:World,W=((w.alloc (.cells #[.pointer (some ⟨g,0,none⟩),.int .i64 k] 132)).alloc (.cells #[.int .i64 0,.int .i64 0] 42)).alloc (.cells #[.int .i64 0,.int .i64 0] 42):=⟨_,rfl⟩
 have Bw:Below w.heap.size w W:=by rw [hW];exact bA (bA (bA (bR w) _) _) _
 have Dw:w.drawn≤W.drawn:=by rw [hW];exact dA (dA (dA (dR w) _) _) _
 have X1:Blk W w.heap.size 132 #[.pointer (some ⟨g,0,none⟩),.int .i64 k]:=by rw [hW];exact ((Blk.made rfl _ _).alloc _).alloc _
 have X2:Blk W (w.heap.size+1) 42 #[.int .i64 0,.int .i64 0]:=by rw [hW];exact (Blk.made (by simp) _ _).alloc _
 have X3:Blk W (w.heap.size+1+1) 42 #[.int .i64 0,.int .i64 0]:=by rw [hW];exact Blk.made (by simp) _ _
 rw [← hW]
 clear hW
 have X9:=HL.out.keep Bw
 have hgl:=HL.out.lt
 obtain ⟨bc,-⟩:=bcell Bw
 replace c0:=(bc b _ hlb).trans c0
 replace c1:=(bc b _ hlb).trans c1
 replace d0:=(bc b _ hlb).trans d0
 replace d1:=(bc b _ hlb).trans d1
 clear bc
 obtain ⟨X1l,X1a,X1b,-,-⟩:=X1.facts2
 obtain ⟨X9l,X9a,X9b,X9c,X9d,X9e,X9f,X9g,-,-,-,-,-,-,-⟩:=X9.facts7
 obtain ⟨X2l,X2a,X2b,X2fa,X2fb⟩:=X2.facts2
 obtain ⟨X3l,X3a,X3b,X3fa,X3fb⟩:=X3.facts2
 have q1:0≤(k:Int):=by omega
 have q2:(k:Int)<N:=by omega
 have q3:0≤(k:Int)+1:=by omega
 have q4:(k:Int)+1<N:=by omega
 have q5:((k:Int)+1).toNat=k+1:=by omega
 have q6:IntKind.i64.wrap ((k:Int)+1)=(k:Int)+1:=IntWalk.i64_in _ (by omega)
 have q7:w.heap.size<w.heap.size+1:=by omega
 have q8:g<w.heap.size+1:=by omega
 have q9:b<w.heap.size+1:=by omega
 refine rg_start (SinceB (w.heap.size+1) W) (.run 19 0 0 (.call 19 1048575 (.call 20 2097151 (.done)))) (by kernel_rfl) (Below.drew (Below.refl _ _)) (by kernel_rfl) (by kernel_rfl) (Nat.le_of_ble_eq_true (by kernel_rfl)) ?_
 intro opsR QR Hops HQrg hS
 iterate 19
  apply rg_pB;exact Hops;exact rfl;exact hS;exact rfl
  · intro _ hqc;go_simp;try rfl
  try simp only [pu]
 refine rg_call (i:=19) (get_of Hops rfl) (fun K hK=>?_)
 have HSrg:=Lib.hid hS;clear hS
 refine rg_run (wanted_plain rfl) ?_
 go_simp
 have hS:SinceB (w.heap.size+1) W _:=(Below.setCell (Below.setCell HSrg.out (p:=⟨w.heap.size+1,0,none⟩) (Nat.le_refl _) (.int .i64 P0.x)) (p:=⟨w.heap.size+1,1,none⟩) (Nat.le_refl _) (.int .i64 P0.y))
 clear HSrg
 refine hK.out _ _ hS (fun _=>?_)
 clear hK K
 try simp only [pu]
 refine rg_call (i:=20) (get_of Hops rfl) (fun K hK=>?_)
 have HSrg:=Lib.hid hS;clear hS
 refine rg_run (wanted_plain rfl) ?_
 go_simp
 have hS:SinceB (w.heap.size+1) W _:=(Below.setCell (Below.setCell HSrg.out (p:=⟨w.heap.size+1+1,0,none⟩) (Nat.le_succ _) (.int .i64 P1.x)) (p:=⟨w.heap.size+1+1,1,none⟩) (Nat.le_succ _) (.int .i64 P1.y))
 clear HSrg
 refine hK.out _ _ hS (fun _=>?_)
 clear hK K
 try simp only [pu]
 refine rg_done ?_
 refine HQrg.down _ _ ?_
 have hB:Below (w.heap.size+1) W _:=hS
 clear hS HQrg Hops
 go_wp2_with fail
 refine res_cell2 (g:=w.heap.size+1) (g':=w.heap.size+1+1) (cs:=#[.int .i64 P0.x,.int .i64 P0.y]) (cs':=#[.int .i64 P1.x,.int .i64 P1.y]) rfl struct_pt struct_pt rfl rfl rfl ?_ ?_ ⟨rfl,?_,?_⟩
 · exact ((Blk.put2 X2).far (p:=⟨w.heap.size+1+1,0,none⟩) (by simp) _).far (p:=⟨w.heap.size+1+1,1,none⟩) (by simp) _
 · exact Blk.put2 ((X3.far (p:=⟨w.heap.size+1,0,none⟩) (by simp) _).far (p:=⟨w.heap.size+1,1,none⟩) (by simp) _)
 · exact Bw.trans (hB.mono (by omega))
 · exact Nat.le_succ_of_le Dw

def westS (s:PSg):Int:=min s.fst.x s.snd.x
def eastS (s:PSg):Int:=max s.fst.x s.snd.x

set_option maxHeartbeats 1000000 in
theorem west_spec (s:PSg) (w:World) (h:SgOk w s) :
  Calls Tryz.prog 97 #[psgV s] w fun e w'=>e=.returned (.int .i64 (westS s))∧BelowD w w':=by
 have TE:∀ W,Below w.heap.size w W→Calls Tryz.prog 100 #[psgV s] W _:=fun W hW=>ends2_spec s W (h.keep hW)
 unfold westS
 unfold psgV ptV at TE
 unfold psgV
 have HE:=Lib.hid TE;clear TE h
 generalize s.fst=P0 at *
 generalize s.snd=P1 at *
 generalize s.k=k at *
 generalize s.ln.g=g at *
 go_enter Tryz.func97,Tryz.ntmps97
 go_wp2_with fail
 refine (HE.out _ (bA (bR w) _)).mono ?_
 rintro e w1 ⟨rfl,hb1,hd1⟩
 have Bw:Below w.heap.size w w1:=bT (bA (bR w) _) hb1
 have Dw:w.drawn≤w1.drawn:=dT (dA (dR w) _) hd1
 clear hb1 hd1
 go_wp2_with fail
 all_goals
  go_ret
  refine ⟨ret_int ?_,?_,?_⟩
  · first | rfl | omega
  · exact bA (bA Bw _) _
  · exact Dw

set_option maxHeartbeats 1000000 in
theorem east_spec (s:PSg) (w:World) (h:SgOk w s) :
  Calls Tryz.prog 98 #[psgV s] w fun e w'=>e=.returned (.int .i64 (eastS s))∧BelowD w w':=by
 have TE:∀ W,Below w.heap.size w W→Calls Tryz.prog 100 #[psgV s] W _:=fun W hW=>ends2_spec s W (h.keep hW)
 unfold eastS
 unfold psgV ptV at TE
 unfold psgV
 have HE:=Lib.hid TE;clear TE h
 generalize s.fst=P0 at *
 generalize s.snd=P1 at *
 generalize s.k=k at *
 generalize s.ln.g=g at *
 go_enter Tryz.func98,Tryz.ntmps98
 go_wp2_with fail
 refine (HE.out _ (bA (bR w) _)).mono ?_
 rintro e w1 ⟨rfl,hb1,hd1⟩
 have Bw:Below w.heap.size w w1:=bT (bA (bR w) _) hb1
 have Dw:w.drawn≤w1.drawn:=dT (dA (dR w) _) hd1
 clear hb1 hd1
 go_wp2_with fail
 all_goals
  go_ret
  refine ⟨ret_int ?_,?_,?_⟩
  · first | rfl | omega
  · exact bA (bA Bw _) _
  · exact Dw

set_option maxHeartbeats 1000000 in
theorem segfirst_spec (s:PSg) (w:World) :
  Calls Tryz.prog 102 #[psgV s] w fun e w'=>e=.returned (.bool ((s.k:Int) == 0))∧Below w.heap.size w w':=by
 unfold psgV
 generalize s.k=k
 generalize s.ln.g=g
 go_enter Tryz.func102,Tryz.ntmps102
 go_wp2_with fail
 go_ret
 exact ⟨rfl,bA (bR w) _⟩

set_option maxRecDepth 100000 in
set_option maxHeartbeats 1000000 in
theorem seglast_spec (s:PSg) (w:World) (h:SgOk w s) :
  Calls Tryz.prog 103 #[psgV s] w fun e w'=>e=.returned (.bool ((s.k:Int) == (s.ln.path.length:Int)-2))∧Below w.heap.size w w':=by
 obtain ⟨⟨hL,hP⟩,hk,hm⟩:=h
 unfold lnC at hL
 clear hP
 unfold psgV
 generalize s.ln.path.length=N at *
 generalize s.k=k at *
 generalize s.ln.g=g at *
 have HL:=Lib.hid hL;clear hL
 go_enter Tryz.func103,Tryz.ntmps103
 go_upto_region 1 with fail
 obtain ⟨W,hW⟩:∃ W:World,W=w.alloc (.cells #[.pointer (some ⟨g,0,none⟩),.int .i64 k] 132):=⟨_,rfl⟩
 have Bw:Below w.heap.size w W:=by rw [hW];exact bA (bR w) _
 have X1:Blk W w.heap.size 132 #[.pointer (some ⟨g,0,none⟩),.int .i64 k]:=by rw [hW];exact Blk.made rfl _ _
 rw [← hW]
 clear hW
 have X9:=HL.out.keep Bw
 obtain ⟨X1l,X1a,X1b,-,-⟩:=X1.facts2
 obtain ⟨X9l,X9a,X9b,X9c,X9d,X9e,X9f,X9g,-,-,-,-,-,-,-⟩:=X9.facts7
 have q6:IntKind.i64.wrap ((N:Int)-2)=(N:Int)-2:=IntWalk.i64_in _ (by omega)
 refine rg_start (Since W) (.run 11 0 0 (.done)) (by kernel_rfl) (bD (bR _)) (by kernel_rfl) (by kernel_rfl) (Nat.le_of_ble_eq_true (by kernel_rfl)) ?_
 intro opsR QR Hops HQrg hS
 iterate 11
  apply rg_p;exact Hops;exact rfl;exact hS;exact rfl
  · intro _ hqc;go_simp;try rfl
  try simp only [pu]
 refine rg_done ?_
 refine HQrg.down _ _ ?_
 have hB:Below W.heap.size W W.drew:=hS
 clear hS HQrg Hops
 go_wp2_with fail
 go_ret
 exact ⟨rfl,bT Bw hB⟩
end Go.Proofs.YtpempeioeiaijaaGreat
namespace Go.Proofs.YtpempeioeiaijaaGreat
open Go.RowKit

theorem LnOk.grow {w w':World} {x:Ln} {row:Option Nat} {e:TypeId} (h:LnOk w x) (hg:w.grownBy w' row) (hr:∀ g,row=some g→∃ cs,Blk w g e cs) (h1:e≠140) (h2:e≠42):LnOk w' x:=by
 refine ⟨h.1.grow hg (fun e'=>?_),Own.grown h.2 hg (fun g hg' e'=>?_)⟩
 ·
  obtain ⟨cs,hb⟩:=hr _ e'.symm
  exact Blk.ne_ hb h.1 h1 rfl
 ·
  obtain ⟨cs,hb⟩:=hr _ e'.symm
  obtain ⟨cs',hb'⟩:=h.2.blk hg'
  exact Blk.ne_ hb hb' h2 rfl
theorem SgOk.grow {w w':World} {s:PSg} {row:Option Nat} {e:TypeId} (h:SgOk w s) (hg:w.grownBy w' row) (hr:∀ g,row=some g→∃ cs,Blk w g e cs) (h1:e≠140) (h2:e≠42):SgOk w' s:=⟨h.1.grow hg hr h1 h2,h.2⟩

theorem elem_psg:Elem Tryz.prog 125 132 2 16:=Elem.mk_ (z:=.agg #[.pointer none,.int .i64 0]) (by kernel_rfl) (by kernel_rfl) rfl (by omega)
theorem psgC_len (s:PSg):(psgC s).length=2:=rfl
theorem psgC_one (s:PSg):∀ u∈psgC s,u.oneCell'=true:=by simp [psgC,Value.oneCell']
theorem Sl.one_psg {w:World} {g:Nat} {t:TypeId} {s:PSg} (h:Blk w g t #[.pointer (some ⟨s.ln.g,0,none⟩),.int .i64 s.k]) :
  Sl w (.slice (some ⟨g,0,none⟩) 1 1) ([s] : List PSg).length (([s] : List PSg).flatMap psgC):=Sl.lit (n:=1) h rfl (le_maxLen (by omega))

def distinctB (l:List Pt):Bool:=(List.range (l.length-1)).all fun k=>!decide (l.getD k pt0=l.getD (k+1) pt0)
theorem distinct_no (l:List Pt) (k:Nat) (hk:k+1<l.length) (h:l[k]=l[k+1]):distinctB l=false:=by
 unfold distinctB
 rw [List.all_eq_false]
 exact ⟨k,List.mem_range.2 (by omega),by simp [List.getD,List.getElem?_eq_getElem hk,List.getElem?_eq_getElem (show k<l.length by omega),h]⟩
theorem distinct_yes (l:List Pt) (h:∀ k (hk:k+1<l.length),¬ l[k]=l[k+1]):distinctB l=true:=by
 unfold distinctB
 rw [List.all_eq_true]
 intro k hk
 have hk:k+1<l.length:=by have:=List.mem_range.1 hk;omega
 have:=h k hk
 simpa [List.getD,List.getElem?_eq_getElem hk,List.getElem?_eq_getElem (show k<l.length by omega)] using this
def arcOk (p:Pl) (a:Ar):Bool:=match pathOf p a.id with
 | none=>false
 | some l=>!(a.fr == a.dst && decide ((l.length:Int)<4)) && distinctB l
structure Abs where
 arc:Ar
 path:List Pt
 k:Nat
def PSg.abs (s:PSg):Abs:=⟨s.ln.arc,s.ln.path,s.k⟩
def absOf (p:Pl) (a:Ar):List Abs:=(List.range (((pathOf p a.id).getD []).length-1)).map fun k=>⟨a,(pathOf p a.id).getD [],k⟩
theorem absOf_succ (p:Pl) (a:Ar) (k:Nat) (hk:k+1<((pathOf p a.id).getD []).length):(absOf p a).take (k+1)=(absOf p a).take k++[⟨a,(pathOf p a.id).getD [],k⟩]:=by
 have h:k<(absOf p a).length:=by simp only [absOf,List.length_map,List.length_range];omega
 rw [List.take_succ_eq_append_getElem h]
 simp [absOf]
theorem pathOf_len {p:Pl} {id:Int} {l:List Pt} (h:pathOf p id=some l) (hsh:Short p):2≤l.length∧l.length≤1048578:=by
 unfold pathOf at h
 cases ha:findAr p.arcs id with
 | none=>rw [ha] at h;cases h
 | some a =>
  rw [ha] at h
  simp only [] at h
  split at h
  ·
   injection h with h
   subst h
   rw [pathS_length]
   have:=hsh a (findAr_mem ha)
   omega
  · cases h
def RetSegP (w:World) (p:Pl) (e:Ending) (w':World):Prop :=
 Below w.heap.size w w'∧if p.arcs.all (arcOk p)=true then
  ∃ (sl:List PSg) (v:Value),e=.returned (.tuple #[v,.bool true])∧sl.map PSg.abs=p.arcs.flatMap (absOf p)∧(∀ s∈sl,SgOk w' s)∧Own w' w.heap.size 132 2 psgC v sl
 else e=.returned (.tuple #[.slice none 0 0,.bool false])

set_option maxRecDepth 100000 in
set_option maxHeartbeats 4000000 in
theorem segments_spec (v:Value) (p:Pl) (w:World) (h:PlV w v p) (hsh:Short p) (hl:(p.arcs.flatMap (absOf p)).length≤2097152) :
  Calls Tryz.prog 94 #[v] w (RetSegP w p):=by
 have HP:=Lib.hid h
 have HSh:=Lib.hid hsh;clear hsh
 obtain ⟨vn,_,vf,al,rfl,hpa,-,⟨⟨Aa,ca,rfl,ha1,ha2,hRa⟩,hV⟩,-⟩:=h
 unfold maxLen at ha2
 have HV:=Lib.hid hV;clear hV
 have HRa:=Lib.hid hRa;clear hRa
 have hL:∀ k,((al.take k).flatMap fun a=>absOf p a.1).length≤2097152:=fun k=>by
  have h1:=flat_take_le al (fun a=>absOf p a.1) k
  rw [hpa,List.flatMap_map] at hl
  exact Nat.le_trans h1 hl
 have HL:=Lib.hid hL
 have hAll:p.arcs.all (arcOk p)=al.all (fun a=>arcOk p a.1):=by rw [hpa,List.all_map];rfl
 have hFl:p.arcs.flatMap (absOf p)=al.flatMap (fun a=>absOf p a.1):=by rw [hpa,List.flatMap_map]
 obtain ⟨Q,hQ⟩:∃ Q,Q=RetSegP w p:=⟨_,rfl⟩
 have hbad:∀ k (hk:k<al.length),arcOk p al[k].1=false→∀ w',Below w.heap.size w w'→Q (.returned (.tuple #[.slice none 0 0,.bool false])) w':=fun k hk hb w' hw=>by
  rw [hQ]
  refine ⟨hw,?_⟩
  rw [hAll,all_hit al (fun a=>arcOk p a.1) k hk hb]
  rfl
 have hgood:(∀ k (hk:k<al.length),arcOk p al[k].1=true)→∀ (sl:List PSg) (v:Value) w',Below w.heap.size w w'→sl.map PSg.abs=al.flatMap (fun a=>absOf p a.1)→(∀ s∈sl,SgOk w' s)→Own w' w.heap.size 132 2 psgC v sl→Q (.returned (.tuple #[v,.bool true])) w':=fun h1 sl v w' hw h2 h3 h4=>by
  rw [hQ]
  refine ⟨hw,?_⟩
  rw [hAll,all_miss al (fun a=>arcOk p a.1) h1,if_pos rfl,hFl]
  exact ⟨sl,v,rfl,h2,h3,h4⟩
 have HBad:=Lib.hid hbad
 have HGood:=Lib.hid hgood
 rw [← hQ]
 clear hpa hl hL hAll hFl hbad hgood hQ
 go_enter Tryz.func94,Tryz.ntmps94
 go_wp2_with fail
 obtain ⟨W0,hW0⟩:∃ W0:World,W0=w.alloc (.cells #[vn,.slice Aa al.length ca,vf] 34):=⟨_,rfl⟩
 have X1:Blk W0 w.heap.size 34 #[vn,.slice Aa al.length ca,vf]:=by rw [hW0];exact Blk.made rfl _ _
 have Bw0:Below w.heap.size w W0:=by rw [hW0];exact bA (bR w) _
 have HX0:=Lib.hid X1
 rw [← hW0]
 clear hW0 X1
 go_loopw [2,13] (fun s i wr=>∃ (k:Nat) (sl:List PSg),k≤al.length∧i=.int .i64 k∧sl.map PSg.abs=((al.take k).flatMap fun a=>absOf p a.1)∧(∀ s∈sl,SgOk wr s)∧Own wr W0.heap.size 132 2 psgC s sl∧Below W0.heap.size W0 wr∧∀ j (hj:j<al.length),j<k→arcOk p al[j].1=true) (fun _ i _=>al.length-(intOf i).toNat)
 case atStart => exact ⟨0,[],Nat.zero_le _,rfl,rfl,(fun _ h=>by cases h),Own.nil _ _ _ _ _,bR W0,fun _ _ h=>by omega⟩
 case round =>
  obtain ⟨k,sl,hk,rfl,hsl,hok,hown,hb,hno⟩:=hrel
  have Hb:=Lib.hid hb
  have Hown:=Lib.hid hown
  have Hsl:=Lib.hid hsl
  have Hok:=Lib.hid hok
  have Hno:=Lib.hid hno
  have X1:=HX0.out.keep hb
  have hsz:=hb.size
  clear hb hown hsl hok hno
  obtain ⟨X1l,X1a,X1b,X1c,-,-,-⟩:=X1.facts3
  by_cases hlt:k<al.length
  case neg =>
   have hE:al.take k=al:=List.take_of_length_le (by omega)
   have hs:=Hsl.out
   rw [hE] at hs
   have Hs:=Lib.hid hs
   clear hE hs
   go_wp2_with fail
   exact HGood.out (fun j hj=>Hno.out j hj (by omega)) sl _ _ (bT Bw0 Hb.out) Hs.out Hok.out (Hown.out.mono_base Bw0.size)
  obtain ⟨b,o,rfl,hlb,c0,c1,c2,c3,c4,c5⟩:=(HRa.out.mono (bT Bw0 Hb.out)).ar hlt
  obtain ⟨Av,cv,hv,-⟩:=HV.out k hlt
  rw [hv] at c3
  clear hv
  go_wp2_with fail
  refine (Path_spec _ p _ _ (HP.out.mono (bT Bw0 (bA Hb.out _))) HSh.out).mono ?_
  rintro e w2 ⟨Ap,cp,rfl,hb2,hop⟩
  have hA1:Below wr.heap.size wr w2:=bT (bA (bR wr) _) hb2
  have X5:Blk w2 wr.heap.size 50 #[.int .i64 al[k].1.id,.int .i64 al[k].1.fr,.int .i64 al[k].1.dst,.slice Av al[k].1.via.length cv,.int .i64 al[k].1.left,.int .i64 al[k].1.right]:=(Blk.made rfl _ _).keep hb2
  have hown2:=Hown.out.keep hA1
  have hok2:∀ s∈sl,SgOk w2 s:=fun s hs=>(Hok.out s hs).keep hA1
  have B2:=bT Hb.out hA1
  have hsz2:=B2.size
  replace X1:=X1.keep hA1
  have HX1:=Lib.hid X1
  have Hown2:=Lib.hid hown2
  have Hok2:=Lib.hid hok2
  have HB2:=Lib.hid B2
  clear hb2 hA1 hown2 hok2 B2 c0 c1 c2 c3 c4 c5 hlb X1 X1l X1a X1b X1c
  obtain ⟨X5l,X5a,X5b,X5c,X5d,X5e,X5f,-,-,-,-,-,-⟩:=X5.facts6
  cases hpo:pathOf p al[k].1.id with
  | none =>
   have hf:=Lib.hid (show arcOk p al[k].1=false by unfold arcOk;rw [hpo])
   clear hop
   simp only [Option.isSome_none,Bool.false_eq_true,if_false,Option.getD_none,List.length_nil]
   go_wp2_with fail
   exact HBad.out k hlt hf.out _ (bT Bw0 HB2.out)
  | some l =>
  rw [hpo] at hop
  simp only [Option.isSome_some,if_true,Option.getD_some] at hop ⊢
  have Hpo:=Lib.hid hpo
  have hll:=pathOf_len hpo HSh.out
  have Hop:=Lib.hid hop
  clear hpo hop
  have harc:arcOk p al[k].1=(!(al[k].1.fr == al[k].1.dst && decide ((l.length:Int)<4)) && distinctB l):=by unfold arcOk;rw [Hpo.out]
  have Harc:=Lib.hid harc;clear harc
  by_cases hloop:al[k].1.fr=al[k].1.dst∧(l.length:Int)<4
  ·
   obtain ⟨he1,he2⟩:=hloop
   have hf:=Lib.hid (show arcOk p al[k].1=false by rw [Harc.out,beq_iff_eq.2 he1,decide_eq_true he2];rfl)
   have hz:=beq_iff_eq.2 he1
   clear he1
   go_wp2_with fail
   exact HBad.out k hlt hf.out _ (bT Bw0 HB2.out)
  have hz:(al[k].1.fr == al[k].1.dst && decide ((l.length:Int)<4))=false:=by
   rw [Bool.and_eq_false_iff]
   by_cases e:al[k].1.fr=al[k].1.dst
   · right;exact decide_eq_false (fun h=>hloop ⟨e,h⟩)
   · left;exact beq_eq_false_iff_ne.2 e
  have Harc2:=Lib.hid (show arcOk p al[k].1=distinctB l by rw [Harc.out,hz];rfl)
  go_upto_region 5 with fail
  go_cut [37] (fun u wx=>u=.bool false∧wx=w2)
  case first =>
   cases e1:(al[k].1.fr == al[k].1.dst)
   ·
    go_wp2_with fail
    go_meet
    case rel => exact ⟨rfl,rfl⟩
   ·
    have e2:¬ (l.length:Int)<4:=fun h=>hloop ⟨eq_of_beq e1,h⟩
    clear hloop hz
    go_wp2_with fail
    go_meet
    case rel => exact ⟨rfl,rfl⟩
  case rest =>
  obtain ⟨rfl,rfl⟩:=hcut
  clear hloop hz
  go_wp2_with fail
  obtain ⟨ln,hln⟩:∃ ln:Ln,ln=⟨al[k].1,l,wc.heap.size,⟨Av,al[k].1.via.length,cv⟩,Ap,cp⟩:=⟨_,rfl⟩
  obtain ⟨W5,hW5⟩:∃ W5:World,W5=wc.alloc (.cells #[.int .i64 al[k].1.id,.int .i64 al[k].1.fr,.int .i64 al[k].1.dst,.slice Av al[k].1.via.length cv,.int .i64 al[k].1.left,.int .i64 al[k].1.right,.slice Ap l.length cp] 140):=⟨_,rfl⟩
  have hA5:Below wc.heap.size wc W5:=by rw [hW5];exact bA (bR wc) _
  have hlo:LnOk W5 ln:=by
   rw [hln]
   refine ⟨?_,(Hop.out.keep hA5).mono_base (Nat.zero_le _)⟩
   rw [hW5]
   exact Blk.made rfl _ _
  rw [← hW5]
  have Hlo:=Lib.hid hlo
  have Hln:=Lib.hid hln
  have Hown5:=Lib.hid (Hown2.out.keep hA5)
  have Hok5:=Lib.hid (fun s hs=>(Hok2.out s hs).keep hA5)
  have HB5:=Lib.hid (bT HB2.out hA5)
  clear hA5 hW5 hlo hln X5 X5l X5a X5b X5c X5d X5e X5f
  obtain ⟨M,hM⟩:∃ M,l.length=M+1:=⟨l.length-1,by omega⟩
  have HM:=Lib.hid hM
  clear hM
  obtain ⟨wo,rfl⟩:∃ wo:World,wo=wr:=⟨_,rfl⟩
  go_loopw [2,45] (fun s i wx=>∃ (j:Nat) (sx:List PSg),j+1≤l.length∧i=.int .i64 j∧sx.map PSg.abs=((al.take k).flatMap fun a=>absOf p a.1)++(absOf p al[k].1).take j∧(∀ s∈sx,SgOk wx s)∧LnOk wx ln∧Own wx W0.heap.size 132 2 psgC s sx∧Below W0.heap.size W0 wx∧∀ m (hm:m+1<l.length),m<j→¬ l[m]=l[m+1]) (fun _ i _=>l.length-(intOf i).toNat)
  case atStart => exact ⟨0,sl,by omega,rfl,by rw [Hsl.out];simp,Hok5.out,Hlo.out,Hown5.out,HB5.out,fun _ _ h=>by omega⟩
  case round =>
   obtain ⟨j,sx,hj,rfl,hsx,hokx,hlnx,hownx,hbx,hnx⟩:=hrel
   have Hbx:=Lib.hid hbx
   have Hownx:=Lib.hid hownx
   have Hsx:=Lib.hid hsx
   have Hokx:=Lib.hid hokx
   have Hlnx:=Lib.hid hlnx
   have Hnx:=Lib.hid hnx
   have hszx:=hbx.size
   clear hbx hownx hsx hokx hlnx hnx
   by_cases hlj:j+1<l.length
   case neg =>
    have hdist:=Lib.hid (show arcOk p al[k].1=true by rw [Harc2.out];exact distinct_yes l (fun m hm=>Hnx.out m hm (by omega)))
    have Hs2:=Lib.hid (show sx.map PSg.abs=((al.take (k+1)).flatMap fun a=>absOf p a.1) by
     rw [Hsx.out,List.take_succ_eq_append_getElem hlt,List.flatMap_append,List.take_of_length_le (l:=absOf p al[k].1) (by simp only [absOf,Hpo.out,List.length_map,List.length_range,Option.getD_some];omega)];simp)
    go_wp2_with fail
    go_roundw
    case rel => exact ⟨k+1,sx,by omega,by go_num,Hs2.out,Hokx.out,Hownx.out,Hbx.out,all_succ (p:=fun x=>arcOk p x.1=true) Hno.out hlt hdist.out⟩
    case measure => simp [intOf];omega
   have hrow:=Own.sl Hlnx.out.2
   rw [Hln.out] at hrow
   obtain ⟨A1',c1'',he1,-,-,hrow⟩:=hrow
   injection he1 with he1 _ he3
   subst he1
   subst he3
   obtain ⟨pb,po,hpa1,hlp,f0,f1⟩:=hrow.pt (k:=j) (by simp only [];omega)
   subst hpa1
   obtain ⟨pb',po',hpa2,hlp',f2,f3⟩:=hrow.pt (k:=j+1) (by simp only [];omega)
   simp only [Option.some.injEq,Addr.mk.injEq,and_true] at hpa2
   obtain ⟨rfl,rfl⟩:=hpa2
   simp only [] at f0 f1 f2 f3
   clear hrow hlp'
   have w1e:IntKind.i64.wrap ((j:Int)+1)=(j:Int)+1:=IntWalk.i64_in _ (by omega)
   have r1:0≤(j:Int):=by omega
   have r2:(j:Int)<l.length:=by omega
   have r3:0≤(j:Int)+1:=by omega
   have r4:(j:Int)+1<l.length:=by omega
   have r5:((j:Int)+1).toNat=j+1:=by omega
   have hE:=run_eql_pt l[j] l[j+1]
   by_cases he:l[j]=l[j+1]
   ·
    have hd:decide (l[j]=l[j+1])=true:=decide_eq_true he
    have hf:=Lib.hid (show arcOk p al[k].1=false by rw [Harc2.out];exact distinct_no l j hlj he)
    clear he
    go_upto_region 11 with fail
    refine rg_start (Since wr) (.run 10 0 0 (.done)) (by kernel_rfl) (bD (bR _)) (by kernel_rfl) (by kernel_rfl) (Nat.le_of_ble_eq_true (by kernel_rfl)) ?_
    intro opsR QR Hops HQrg hS
    iterate 10
     apply rg_p;exact Hops;exact rfl;exact hS;exact rfl
     · intro _ hqc;go_simp;try rfl
     try simp only [pu]
    refine rg_done ?_
    refine HQrg.down _ _ ?_
    have hB:Below wr.heap.size wr wr.drew:=hS
    clear hS HQrg Hops
    go_wp2_with fail
    exact HBad.out k hlt hf.out _ (bT Bw0 (bT Hbx.out hB))
   have hd:decide (l[j]=l[j+1])=false:=decide_eq_false he
   have He:=Lib.hid he
   clear he
   go_upto_region 11 with fail
   refine rg_start (Since wr) (.run 10 0 0 (.done)) (by kernel_rfl) (bD (bR _)) (by kernel_rfl) (by kernel_rfl) (Nat.le_of_ble_eq_true (by kernel_rfl)) ?_
   intro opsR QR Hops HQrg hS
   iterate 10
    apply rg_p;exact Hops;exact rfl;exact hS;exact rfl
    · intro _ hqc;go_simp;try rfl
    try simp only [pu]
   refine rg_done ?_
   refine HQrg.down _ _ ?_
   have hB:Below wr.heap.size wr wr.drew:=hS
   clear hS HQrg Hops
   clear f0 f1 f2 f3 w1e r3 r4 r5 hE
   have hlen:=Lib.hid (show sx.length+1≤2097152 by
    have h2:=congrArg List.length Hsx.out
    rw [List.length_map,List.length_append,List.length_take] at h2
    have h3:=HL.out (k+1)
    rw [List.take_succ_eq_append_getElem hlt,List.flatMap_append,List.length_append] at h3
    simp only [List.flatMap_cons,List.flatMap_nil,List.append_nil] at h3
    have h4:(absOf p al[k].1).length=l.length-1:=by simp only [absOf,Hpo.out,List.length_map,List.length_range,Option.getD_some]
    omega)
   have hnew:Hid (SgOk wr.drew ⟨ln,j⟩):=Lib.hid ⟨Hlnx.out.keep hB,by rw [Hln.out];exact ⟨hlj,by simp only [];omega⟩⟩
   have hgl:ln.g=wc.heap.size:=by rw [Hln.out]
   have Hgl:=Lib.hid hgl
   have Hownd:Hid (Own wr.drew W0.heap.size 132 2 psgC u2 sx):=Lib.hid Hownx.out
   have Hokd:Hid (∀ s∈sx,SgOk wr.drew s):=Lib.hid fun s hs=>(Hokx.out s hs).keep hB
   have Hlnd:Hid (LnOk wr.drew ln):=Lib.hid (Hlnx.out.keep hB)
   have hszd:W0.heap.size≤wr.drew.heap.size:=hszx
   clear hB hgl
   go_wp2_with
    (at_builtin
     refine wpList_appl _ rfl (.tmp 58) (.tmp 62) _ rfl (base:=W0.heap.size) elem_psg psgC_len psgC_one rfl (Hownd.out.alloc _) rfl (l2:=[(⟨ln,j⟩:PSg)]) (Sl.one_psg (by rw [Hgl.out];exact Blk.made (by simp) _ _)) (by have:=hlen.out;simp only [List.length_cons,List.length_nil];omega) (by have:=hlen.out;simp only [List.length_cons,List.length_nil];omega) (by simp;omega) ?_
     intro v1 w1 hown1 hg hat
     have Bw1:=Lib.hid (show Below W0.heap.size W0 w1 from bG (bA (bD Hbx.out) _) hg (fun g hk=>(Hownd.out.lt g hk).1))
     have hrow:∀ g,(u2:Value).ownBlock=some g→∃ cs,Blk (wr.drew.alloc (.cells #[.pointer (some ⟨wc.heap.size,0,none⟩),.int .i64 j] 132)) g 132 cs:=fun g hg=>(Hownd.out.alloc _).blk hg
     have Hok1:=Lib.hid (show ∀ s∈sx++[(⟨ln,j⟩:PSg)],SgOk w1 s from fun s hs=>by
      rcases List.mem_append.1 hs with h | h
      · exact ((Hokd.out s h).keep (bA (bR wr.drew) _)).grow hg hrow (by decide) (by decide)
      ·
       rw [List.mem_singleton.1 h]
       exact (hnew.out.keep (bA (bR wr.drew) _)).grow hg hrow (by decide) (by decide))
     have Hln1:=Lib.hid ((Hlnd.out.keep (bA (bR wr.drew) _)).grow hg hrow (by decide) (by decide))
     clear hg hat hrow
     have Hown1:=Lib.hid hown1;clear hown1)
   have Hs1:=Lib.hid (show (sx++[(⟨ln,j⟩:PSg)]).map PSg.abs=((al.take k).flatMap fun a=>absOf p a.1)++(absOf p al[k].1).take (j+1) by
    rw [List.map_append,Hsx.out,absOf_succ p al[k].1 j (by rw [Hpo.out];exact hlj),List.append_assoc]
    simp only [List.map_cons,List.map_nil,PSg.abs,Hpo.out,Option.getD_some,Hln.out])
   go_roundw
   case rel => exact ⟨j+1,_,by omega,by go_num,Hs1.out,Hok1.out,Hln1.out,Hown1.out,Bw1.out,fun m hm hmj=>if e:m<j then Hnx.out m hm e else by
     have:m=j:=by omega
     subst this;exact He.out⟩
   case measure => simp [intOf];omega
end Go.Proofs.YtpempeioeiaijaaGreat
namespace Go.Proofs.YtpempeioeiaijaaGreat
open Go.RowKit

set_option maxHeartbeats 400000 in
theorem isNaN_int_spec (x:Int) (w:World):Calls Tryz.prog 114 #[.int .i64 x] w fun e w'=>e=.returned (.bool false)∧w=w':=by
 have hx:(x != x)=false:=by simp
 go_enter Tryz.func114,Tryz.ntmps114
 go_wp2_with fail
 go_ret
 exact ⟨by simp,rfl⟩

def cmpI (x y:Int):Int:=if x<y then -1 else if y<x then 1 else 0
set_option maxHeartbeats 400000 in
theorem Compare_int_spec (x y:Int) (w:World):Calls Tryz.prog 57 #[.int .i64 x,.int .i64 y] w fun e w'=>e=.returned (.int .i64 (cmpI x y))∧w=w':=by
 have HN:=Lib.hid (fun (z:Int) (W:World)=>isNaN_int_spec z W)
 obtain ⟨q,hq⟩:∃ q,cmpI x y=q:=⟨_,rfl⟩
 rw [hq]
 have Hq:=Lib.hid hq;clear hq
 go_enter Tryz.func57,Tryz.ntmps57
 go_wp2_with fail
 refine (HN.out _ _).mono ?_
 rintro e w' ⟨rfl,rfl⟩
 go_wp2_with fail
 refine (HN.out _ _).mono ?_
 rintro e w' ⟨rfl,rfl⟩
 go_wp2_with fail
 all_goals
  go_ret
  refine ⟨ret_int ?_,rfl⟩
  rw [← Hq.out]
  unfold cmpI
  first | rw [if_pos (by assumption)] | (rw [if_neg (by assumption),if_pos (by assumption)]) | (rw [if_neg (by assumption),if_neg (by assumption)]) | (split<;>(try split)<;>omega)

end Go.Proofs.YtpempeioeiaijaaGreat
namespace Go.Proofs.YtpempeioeiaijaaGreat
open Go.RowKit

theorem Compare_int_spec' (x y:Int) (w:World):Calls Tryz.prog 57 #[.int .i64 x,.int .i64 y] w fun e w'=>e=.returned (.int .i64 (cmpI x y))∧BelowD w w' :=
 (Compare_int_spec x y w).mono fun e w' h=>⟨h.1,by rw [← h.2];exact ⟨bR w,dR w⟩⟩

set_option maxRecDepth 100000 in
set_option maxHeartbeats 1000000 in
theorem cmpSeg_spec (s t:PSg) (w:World) (hs:SgOk w s) (ht:SgOk w t) :
  Calls Tryz.prog 96 #[psgV s,psgV t] w fun e w'=>e=.returned (.int .i64 (cmpI (westS s) (westS t)))∧BelowD w w':=by
 have TS:∀ W,Below w.heap.size w W→Calls Tryz.prog 97 #[psgV s] W _:=fun W hW=>west_spec s W (hs.keep hW)
 have TT:∀ W,Below w.heap.size w W→Calls Tryz.prog 97 #[psgV t] W _:=fun W hW=>west_spec t W (ht.keep hW)
 unfold psgV at TS TT ⊢
 have HS:=Lib.hid TS;have HT:=Lib.hid TT
 clear TS TT hs ht
 generalize westS s=x at *
 generalize westS t=y at *
 generalize s.k=k at *
 generalize t.k=m at *
 generalize s.ln.g=g at *
 generalize t.ln.g=h at *
 go_enter Tryz.func96,Tryz.ntmps96
 go_upto_region 1 with fail
 obtain ⟨W,hW⟩:∃ W:World,W=(w.alloc (.cells #[.pointer (some ⟨g,0,none⟩),.int .i64 k] 132)).alloc (.cells #[.pointer (some ⟨h,0,none⟩),.int .i64 m] 132):=⟨_,rfl⟩
 have Bw:Below w.heap.size w W:=by rw [hW];exact bA (bA (bR w) _) _
 have Dw:=Lib.hid (show w.drawn≤W.drawn by rw [hW];exact dA (dA (dR w) _) _)
 have X1:Blk W w.heap.size 132 #[.pointer (some ⟨g,0,none⟩),.int .i64 k]:=by rw [hW];exact (Blk.made rfl _ _).alloc _
 have X2:Blk W (w.heap.size+1) 132 #[.pointer (some ⟨h,0,none⟩),.int .i64 m]:=by rw [hW];exact Blk.made (by simp) _ _
 rw [← hW]
 clear hW
 obtain ⟨X1l,X1a,X1b,-,-⟩:=X1.facts2
 obtain ⟨X2l,X2a,X2b,-,-⟩:=X2.facts2
 refine rg_start (Since W) (.take 0 1 (.take 2 5 (.call 1 7 (.call 3 15 (.call 4 31 (.take 5 63 (.done))))))) (by kernel_rfl) (bD (bR _)) (by kernel_rfl) (by kernel_rfl) (Nat.le_of_ble_eq_true (by kernel_rfl)) ?_
 intro opsR QR Hops HQrg hS
 iterate 2
  apply rg_p;exact Hops;exact rfl;exact hS;exact rfl
  · intro _ hqc;go_simp;try rfl
  try simp only [pu]
 refine rg_call (i:=1) (get_of Hops rfl) (fun K hK=>?_)
 have HSrg:=Lib.hid hS;clear hS
 refine rg_run (wanted_plain rfl) ?_
 go_simp
 refine (HS.out _ (bT Bw HSrg.out)).mono ?_
 rintro e wr1 ⟨rfl,hbr1,hd1⟩
 have hS:Since W wr1:=bT (w:=W) HSrg.out hbr1
 clear HSrg
 refine hK.out _ _ hS (fun _=>?_)
 clear hK K
 try simp only [pu]
 refine rg_call (i:=3) (get_of Hops rfl) (fun K hK=>?_)
 have HSrg:=Lib.hid hS;clear hS
 refine rg_run (wanted_plain rfl) ?_
 go_simp
 refine (HT.out _ (bT Bw HSrg.out)).mono ?_
 rintro e wr2 ⟨rfl,hbr2,hd2⟩
 have hS:Since W wr2:=bT (w:=W) HSrg.out hbr2
 clear HSrg
 refine hK.out _ _ hS (fun _=>?_)
 clear hK K
 try simp only [pu]
 refine rg_call (i:=4) (get_of Hops rfl) (fun K hK=>?_)
 have HSrg:=Lib.hid hS;clear hS
 refine rg_run (wanted_plain rfl) ?_
 go_simp
 refine (Compare_int_spec' x y _).mono ?_
 rintro e wr3 ⟨rfl,hbr3,hd3⟩
 have hS:Since W wr3:=bT (w:=W) HSrg.out hbr3
 clear HSrg
 refine hK.out _ _ hS (fun _=>?_)
 clear hK K
 try simp only [pu]
 apply rg_p;exact Hops;exact rfl;exact hS;exact rfl
 · intro _ hqc;go_simp;try rfl
 try simp only [pu]
 refine rg_done ?_
 refine HQrg.down _ _ ?_
 have hB:Below W.heap.size W wr3:=hS
 clear hS HQrg Hops
 have D3:=Lib.hid (dT (dT (dT (dD Dw.out) hd1) hd2) hd3)
 go_wp2_with fail
 go_ret
 exact ⟨rfl,bT Bw hB,D3.out⟩
end Go.Proofs.YtpempeioeiaijaaGreat
namespace Go.Proofs.YtpempeioeiaijaaGreat
open Go.RowKit

def orS (l:List Int):Int:=(l.find? (fun x=>decide (x≠0))).getD 0

set_option maxRecDepth 100000 in
set_option maxHeartbeats 1000000 in
theorem Or_spec (v:Value) (l:List Int) (w:World) (h:Ints w v l) (hs:l.length≤1000):Calls Tryz.prog 56 #[v] w fun e w'=>e=.returned (.int .i64 (orS l))∧w=w':=by
 obtain ⟨A,c,rfl,hn,hc,hR⟩:=h
 unfold maxLen at hc
 have HR:=Lib.hid hR;clear hR
 obtain ⟨q,hq⟩:∃ q,orS l=q:=⟨_,rfl⟩
 rw [hq]
 have Hq:=Lib.hid hq;clear hq
 go_enter Tryz.func56,Tryz.ntmps56
 go_wp2_with fail
 go_loopw [8] (fun u wr=>∃ k:Nat,k≤l.length∧u=.int .i64 k∧wr=w∧∀ j (hj:j<l.length),j<k→l[j]=0) (fun u _=>l.length-(intOf u).toNat)
 case atStart => exact ⟨0,Nat.zero_le _,rfl,rfl,fun _ _ h=>by omega⟩
 case round =>
  obtain ⟨k,hk,rfl,rfl,hno⟩:=hrel
  have Hno:=Lib.hid hno
  clear hno
  by_cases hlt:k<l.length
  ·
   obtain ⟨b,o,rfl,hlb,c0⟩:=HR.out.int hlt
   by_cases hz:l[k]=0
   ·
    have hz':(l[k] != 0)=false:=by simp [hz]
    have Hz:=Lib.hid hz;clear hz
    go_wp2_with fail
    go_roundw
    case rel => exact ⟨k+1,by omega,by go_num,trivial,fun j hj hjk=>if e:j<k then Hno.out j hj e else by
      have:j=k:=by omega
      subst this;exact Hz.out⟩
    case measure => simp [intOf];omega
   ·
    have hz':(l[k] != 0)=true:=by simp [hz]
    have hf:=find_hit l (fun x=>decide (x≠0)) k hlt (fun j hj hjk=>by simp [Hno.out j hj hjk]) (by simp [hz])
    have Hf:=Lib.hid hf
    clear hz hf
    go_wp2_with fail
    go_ret
    exact ⟨ret_int (by rw [← Hq.out,orS,Hf.out];rfl),rfl⟩
  ·
   have hf:=find_miss l (fun x=>decide (x≠0)) (fun j hj=>by simp [Hno.out j hj (by omega)])
   have Hf:=Lib.hid hf
   clear hf
   go_wp2_with fail
   go_ret
   exact ⟨ret_int (by rw [← Hq.out,orS,Hf.out];rfl),rfl⟩

theorem Or_spec' (v:Value) (l:List Int) (w:World) (h:Ints w v l) (hs:l.length≤1000):Calls Tryz.prog 56 #[v] w fun e w'=>e=.returned (.int .i64 (orS l))∧BelowD w w' :=
 (Or_spec v l w h hs).mono fun e w' h=>⟨h.1,by rw [← h.2];exact ⟨bR w,dR w⟩⟩
end Go.Proofs.YtpempeioeiaijaaGreat
namespace Go.Proofs.YtpempeioeiaijaaGreat
open Go.RowKit

def iiD (n:Int):DataW Unit:=.lit (.int .i64 n)
def iiR:Value→Option (DataW Unit×List MemPlace)
 | .int .i64 n=>some (iiD n,[])
 | _=>none
theorem iiR_inv {v:Value} {n:Int} {ps:List MemPlace} (h:iiR v=some (iiD n,ps)):v=.int .i64 n:=by
 unfold iiR at h
 split at h
 ·
  simp only [iiD,Option.some.injEq,Prod.mk.injEq,DataW.lit.injEq,Lit.int.injEq,true_and] at h
  rw [h.1]
 · cases h
def MapII (w:World) (b n:Nat) (f:Int→Int):Prop :=
 ∃ D:DataW Unit,w.ownsMap Tryz.prog 3 iiR b n D∧Maps.IsMap D∧∀ id,D.atKey (.int .i64 id) (iiD 0)=iiD (f id)
theorem MapII.kept {w w':World} {b n:Nat} {f:Int→Int} (h:MapII w b n f) {row:Option Nat} (hg:w.grownBy w' row) (hr:some b≠row):MapII w' b n f:=by
 obtain ⟨D,h1,h2⟩:=h
 exact ⟨D,h1.kept hg hr,h2⟩
theorem MapII.keep {w w':World} {b n:Nat} {f:Int→Int} (h:MapII w b n f) (hb:Below w.heap.size w w'):MapII w' b n f :=
 h.kept (row:=none) ⟨hb.os,hb.tape,hb.output,hb.size,fun i hi _=>hb.block i hi⟩ (by simp)
theorem MapII.lt {w:World} {b n:Nat} {f:Int→Int} (h:MapII w b n f):b<w.heap.size:=by
 obtain ⟨D,h1,h2⟩:=h
 exact h1.lt
theorem MapII.made (w:World):MapII (w.alloc (.map #[] 0)) w.heap.size 0 (fun _=>0) :=
 ⟨.map [],World.ownsMap_made _ _ _ _,⟨_,rfl⟩,fun _=>rfl⟩
theorem zero_ii (w:World):(zeroValue 3).run Tryz.prog w=.ok (.int .i64 0) w:=by kernel_rfl
theorem MapII.look {w:World} {b n:Nat} {f:Int→Int} (h:MapII w b n f) (id:Int) (hid:wfI id) :
  (Instr.lookup 109 (.map (some b)) (.int .i64 id) false).run Tryz.prog w=.ok (.int .i64 (f id)) w:=by
 obtain ⟨D,h1,-,h2⟩:=h
 obtain ⟨v,ps,hr,hv⟩:=h1.lookup keyed_int Tryz.underlying109 (zero_ii w) (zd:=iiD 0) (zp:=[]) rfl (Maps.keyOf_int_mk Tryz.underlying3 hid)
 rw [h2] at hv
 rw [hr,iiR_inv hv]
theorem MapII.upd {w:World} {b n:Nat} {f:Int→Int} (h:MapII w b n f) (hn:n<4294967296) (id:Int) (hid:wfI id) (x:Int) :
  ∃ w',(Instr.mapUpdate 109 (.map (some b)) (.int .i64 id) (.int .i64 x)).run Tryz.prog w=.ok () w'∧MapII w' b (n+1) (fun i=>if i=id then x else f i)∧w.grownBy w' (some b):=by
 obtain ⟨D,h1,hm,h2⟩:=h
 obtain ⟨w',hr,ho,hg⟩:=h1.update keyed_int Tryz.underlying109 (by unfold maxLen;omega) (Maps.keyOf_int_mk Tryz.underlying3 hid) (val:=.int .i64 x) (d:=iiD x) (ps:=[]) rfl
 refine ⟨w',hr,⟨_,ho,?_,fun i=>?_⟩,hg⟩
 · obtain ⟨es,rfl⟩:=hm;exact ⟨_,rfl⟩
 ·
  show _=iiD (if i=id then x else f i)
  by_cases e:i=id
  ·
   subst e
   rw [if_pos rfl]
   exact Maps.atKey_put_same hm (by trivial) _ _
  · rw [if_neg e,Maps.atKey_put_other (fun h=>e (by injection h)),h2]

def ibD (b:Bool):DataW Unit:=.lit (.bool b)
def ibR:Value→Option (DataW Unit×List MemPlace)
 | .bool b=>some (ibD b,[])
 | _=>none
theorem ibR_inv {v:Value} {b:Bool} {ps:List MemPlace} (h:ibR v=some (ibD b,ps)):v=.bool b:=by
 unfold ibR at h
 split at h
 ·
  simp only [ibD,Option.some.injEq,Prod.mk.injEq,DataW.lit.injEq,Lit.bool.injEq] at h
  rw [h.1]
 · cases h
def MapIB (w:World) (b n:Nat) (f:Int→Bool):Prop :=
 ∃ D:DataW Unit,w.ownsMap Tryz.prog 3 ibR b n D∧Maps.IsMap D∧∀ id,D.atKey (.int .i64 id) (ibD false)=ibD (f id)
theorem MapIB.kept {w w':World} {b n:Nat} {f:Int→Bool} (h:MapIB w b n f) {row:Option Nat} (hg:w.grownBy w' row) (hr:some b≠row):MapIB w' b n f:=by
 obtain ⟨D,h1,h2⟩:=h
 exact ⟨D,h1.kept hg hr,h2⟩
theorem MapIB.keep {w w':World} {b n:Nat} {f:Int→Bool} (h:MapIB w b n f) (hb:Below w.heap.size w w'):MapIB w' b n f :=
 h.kept (row:=none) ⟨hb.os,hb.tape,hb.output,hb.size,fun i hi _=>hb.block i hi⟩ (by simp)
theorem MapIB.lt {w:World} {b n:Nat} {f:Int→Bool} (h:MapIB w b n f):b<w.heap.size:=by
 obtain ⟨D,h1,h2⟩:=h
 exact h1.lt
theorem MapIB.made (w:World):MapIB (w.alloc (.map #[] 0)) w.heap.size 0 (fun _=>false) :=
 ⟨.map [],World.ownsMap_made _ _ _ _,⟨_,rfl⟩,fun _=>rfl⟩
theorem zero_ib (w:World):(zeroValue 4).run Tryz.prog w=.ok (.bool false) w:=by kernel_rfl
theorem MapIB.look {w:World} {b n:Nat} {f:Int→Bool} (h:MapIB w b n f) (id:Int) (hid:wfI id) :
  (Instr.lookup 158 (.map (some b)) (.int .i64 id) false).run Tryz.prog w=.ok (.bool (f id)) w:=by
 obtain ⟨D,h1,-,h2⟩:=h
 obtain ⟨v,ps,hr,hv⟩:=h1.lookup keyed_int Tryz.underlying158 (zero_ib w) (zd:=ibD false) (zp:=[]) rfl (Maps.keyOf_int_mk Tryz.underlying3 hid)
 rw [h2] at hv
 rw [hr,ibR_inv hv]
theorem MapIB.upd {w:World} {b n:Nat} {f:Int→Bool} (h:MapIB w b n f) (hn:n<4294967296) (id:Int) (hid:wfI id) (x:Bool) :
  ∃ w',(Instr.mapUpdate 158 (.map (some b)) (.int .i64 id) (.bool x)).run Tryz.prog w=.ok () w'∧MapIB w' b (n+1) (fun i=>if i=id then x else f i)∧w.grownBy w' (some b):=by
 obtain ⟨D,h1,hm,h2⟩:=h
 obtain ⟨w',hr,ho,hg⟩:=h1.update keyed_int Tryz.underlying158 (by unfold maxLen;omega) (Maps.keyOf_int_mk Tryz.underlying3 hid) (val:=.bool x) (d:=ibD x) (ps:=[]) rfl
 refine ⟨w',hr,⟨_,ho,?_,fun i=>?_⟩,hg⟩
 · obtain ⟨es,rfl⟩:=hm;exact ⟨_,rfl⟩
 ·
  show _=ibD (if i=id then x else f i)
  by_cases e:i=id
  ·
   subst e
   rw [if_pos rfl]
   exact Maps.atKey_put_same hm (by trivial) _ _
  · rw [if_neg e,Maps.atKey_put_other (fun h=>e (by injection h)),h2]
end Go.Proofs.YtpempeioeiaijaaGreat
namespace Go.Proofs.YtpempeioeiaijaaGreat
open Go.RowKit

def svV (x:SV):Value:=.slice x.a x.n x.c
def liD (n:Nat):DataW Unit:=.lit (.int .i64 (n:Int))
def svD (x:SV):DataW Unit:=match x.a with
 | none=>.agg [liD x.n,liD x.c]
 | some ⟨b,o,none⟩=>.agg [liD b,liD o,liD x.n,liD x.c]
 | some ⟨_,_,some _⟩=>.agg []
def svR:Value→Option (DataW Unit×List MemPlace)
 | .slice none n c=>some (.agg [liD n,liD c],[])
 | .slice (some ⟨b,o,none⟩) n c=>some (.agg [liD b,liD o,liD n,liD c],[])
 | _=>none
theorem svR_inv {v:Value} {x:SV} {ps:List MemPlace} (h:svR v=some (svD x,ps)):v=svV x:=by
 obtain ⟨a,n,c⟩:=x
 unfold svR at h
 split at h
 ·
  rename_i n' c'
  unfold svD at h
  rcases a with _ | ⟨b,o,_ | q⟩
  ·
   simp only [Option.some.injEq,Prod.mk.injEq,DataW.agg.injEq,List.cons.injEq,liD,DataW.lit.injEq,Lit.int.injEq,and_true,true_and] at h
   have h1:n'=n:=by omega
   have h2:c'=c:=by omega
   subst h1 h2
   rfl
  · simp at h
  · simp at h
 ·
  rename_i b' o' n' c'
  unfold svD at h
  rcases a with _ | ⟨b,o,_ | q⟩
  · simp at h
  ·
   simp only [Option.some.injEq,Prod.mk.injEq,DataW.agg.injEq,List.cons.injEq,liD,DataW.lit.injEq,Lit.int.injEq,and_true,true_and] at h
   have h1:b'=b:=by omega
   have h2:o'=o:=by omega
   have h3:n'=n:=by omega
   have h4:c'=c:=by omega
   subst h1 h2 h3 h4
   rfl
  · simp at h
 · cases h
def SV.ok (x:SV):Prop:=x.a=none∨∃ b o,x.a=some ⟨b,o,none⟩
theorem svR_of {x:SV} (h:x.ok):svR (svV x)=some (svD x,[]):=by
 obtain ⟨a,n,c⟩:=x
 rcases h with h | ⟨b,o,h⟩
 · simp only at h;subst h;rfl
 · simp only at h;subst h;rfl
def sv0:SV:=⟨none,0,0⟩
def MapSl (w:World) (b n:Nat) (f:Int→SV):Prop :=
 ∃ D:DataW Unit,w.ownsMap Tryz.prog 3 svR b n D∧Maps.IsMap D∧∀ id,D.atKey (.int .i64 id) (svD sv0)=svD (f id)
theorem MapSl.kept {w w':World} {b n:Nat} {f:Int→SV} (h:MapSl w b n f) {row:Option Nat} (hg:w.grownBy w' row) (hr:some b≠row):MapSl w' b n f:=by
 obtain ⟨D,h1,h2⟩:=h
 exact ⟨D,h1.kept hg hr,h2⟩
theorem MapSl.keep {w w':World} {b n:Nat} {f:Int→SV} (h:MapSl w b n f) (hb:Below w.heap.size w w'):MapSl w' b n f :=
 h.kept (row:=none) ⟨hb.os,hb.tape,hb.output,hb.size,fun i hi _=>hb.block i hi⟩ (by simp)
theorem MapSl.lt {w:World} {b n:Nat} {f:Int→SV} (h:MapSl w b n f):b<w.heap.size:=by
 obtain ⟨D,h1,h2⟩:=h
 exact h1.lt
theorem MapSl.made (w:World):MapSl (w.alloc (.map #[] 0)) w.heap.size 0 (fun _=>sv0) :=
 ⟨.map [],World.ownsMap_made _ _ _ _,⟨_,rfl⟩,fun _=>rfl⟩
theorem zero_sl (w:World):(zeroValue 25).run Tryz.prog w=.ok (.slice none 0 0) w:=by kernel_rfl
theorem MapSl.look {w:World} {b n:Nat} {f:Int→SV} (h:MapSl w b n f) (id:Int) (hid:wfI id) :
  (Instr.lookup 71 (.map (some b)) (.int .i64 id) false).run Tryz.prog w=.ok (svV (f id)) w:=by
 obtain ⟨D,h1,-,h2⟩:=h
 obtain ⟨v,ps,hr,hv⟩:=h1.lookup keyed_int Tryz.underlying71 (zero_sl w) (zd:=svD sv0) (zp:=[]) rfl (Maps.keyOf_int_mk Tryz.underlying3 hid)
 rw [h2] at hv
 rw [hr,svR_inv hv]
theorem MapSl.upd {w:World} {b n:Nat} {f:Int→SV} (h:MapSl w b n f) (hn:n<4294967296) (id:Int) (hid:wfI id) (x:SV) (hx:x.ok) :
  ∃ w',(Instr.mapUpdate 71 (.map (some b)) (.int .i64 id) (svV x)).run Tryz.prog w=.ok () w'∧MapSl w' b (n+1) (fun i=>if i=id then x else f i)∧w.grownBy w' (some b):=by
 obtain ⟨D,h1,hm,h2⟩:=h
 obtain ⟨w',hr,ho,hg⟩:=h1.update keyed_int Tryz.underlying71 (by unfold maxLen;omega) (Maps.keyOf_int_mk Tryz.underlying3 hid) (val:=svV x) (d:=svD x) (ps:=[]) (svR_of hx)
 refine ⟨w',hr,⟨_,ho,?_,fun i=>?_⟩,hg⟩
 · obtain ⟨es,rfl⟩:=hm;exact ⟨_,rfl⟩
 ·
  show _=svD (if i=id then x else f i)
  by_cases e:i=id
  ·
   subst e
   rw [if_pos rfl]
   exact Maps.atKey_put_same hm (by trivial) _ _
  · rw [if_neg e,Maps.atKey_put_other (fun h=>e (by injection h)),h2]
end Go.Proofs.YtpempeioeiaijaaGreat
namespace Go.Proofs.YtpempeioeiaijaaGreat
open Go.RowKit Go.Sort

theorem belowD_grow {w w':World} (h:BelowD w w'):∃ q os',w'=grow (w.drewN q) os':=by
 obtain ⟨hb,hd⟩:=h
 refine ⟨w'.drawn-w.drawn,w'.heap.extract w.heap.size w'.heap.size,?_⟩
 have hh:w'.heap=w.heap++w'.heap.extract w.heap.size w'.heap.size:=by
  apply Array.ext
  · have:=hb.size;simp;omega
  ·
   intro i h1 h2
   by_cases hi:i<w.heap.size
   ·
    rw [Array.getElem_append_left hi]
    have:=hb.block i hi
    rw [Array.getElem?_eq_getElem h1,Array.getElem?_eq_getElem hi] at this
    injection this
   ·
    rw [Array.getElem_append_right (by omega),Array.getElem_extract]
    congr 1
    omega
 have h1:=hb.os;have h2:=hb.tape;have h3:=hb.output
 cases w;cases w'
 simp only [grow,World.drewN,World.mk.injEq] at *
 exact ⟨hh,h2,by omega,h1,h3⟩

section
variable {α:Type} [Inhabited α] (enc:α→List Value) (k:Nat) (w:World)
theorem sort_heap (blk off m:Nat) (dk:Array α) (os:Array Obj):(sortWorldK enc k w blk off m dk os).heap=w.heap.modify blk (onCells (putCells id off (flatK enc k dk)))++os:=rfl
theorem sort_grown (blk off m:Nat) (dk:Array α) (os:Array Obj):w.grownBy (sortWorldK enc k w blk off m dk os) (some blk):=by
 refine ⟨rfl,rfl,rfl,?_,fun i hi hne=>?_⟩
 · rw [sort_heap];simp
 ·
  have hne':blk≠i:=fun e=>hne (by rw [e])
  rw [sort_heap,Array.getElem?_append_left (by simpa using hi),Array.getElem?_modify,if_neg hne']
end

theorem ltOf_cmp {α:Type} (f:α→Int) (x y:α):ltOf (fun x y=>cmpI (f x) (f y)) x y=decide (f x<f y):=by
 unfold ltOf cmpI
 by_cases h:f x<f y
 · simp [h]
 · by_cases h':f y<f x<;>simp [h,h']
theorem swo_cmp {α:Type} (f:α→Int):SWO (ltOf (fun x y:α=>cmpI (f x) (f y))) where
 irrefl x:=by rw [ltOf_cmp];simp
 trans x y z h1 h2:=by rw [ltOf_cmp] at *;simp at *;omega
 ntrans x y z h1 h2:=by rw [ltOf_cmp] at *;simp at *;omega

def RetSorted (w:World) (base:Nat) (v:Value) (sl:List PSg) (e:Ending) (w':World):Prop :=
 e=.returned (.tuple #[])∧∃ sl':List PSg,sl'.Perm sl∧(∀ i j (hij:i<j) (hj:j<sl'.length),westS (sl'[i]'(by omega))≤westS sl'[j])∧Own w' base 132 2 psgC v sl'∧(∀ s∈sl',SgOk w' s)∧w.grownBy w' v.ownBlock

theorem isAgg_seg:∀ w,(isAgg 132).run Tryz.prog w=.ok true w:=fun _=>by kernel_rfl
theorem sizeOf_seg:∀ w,(Go.sizeOf 132).run Tryz.prog w=.ok 2 w:=fun _=>by kernel_rfl

theorem flatK_list {α:Type} [Inhabited α] (enc:α→List Value) (k:Nat) (hk:∀ x,(enc x).length=k) (d:Array α) (j:Nat) (hj:j<d.size*k) :
  (flatK enc k d)[j]! = (d.toList.flatMap enc)[j]! := by
 rw [get_flatK _ _ _ _ hj]
 have hk0:0<k:=by
  rcases Nat.eq_zero_or_pos k with h | h
  · subst h;simp at hj
  · exact h
 have h1:j / k<d.size:=Nat.div_lt_of_lt_mul (by rw [Nat.mul_comm];exact hj)
 have h2:j % k<k:=Nat.mod_lt _ hk0
 have e:=flat_get enc k hk d.toList (j / k) (j % k) (by simpa using h1) h2
 rw [Nat.div_add_mod'] at e
 rw [List.getElem!_eq_getElem?_getD,List.getElem!_eq_getElem?_getD,e]
 congr 2
 rw [getElem!_pos d _ h1]
 simp

theorem Sort_seg_spec (base:Nat) (v:Value) (sl:List PSg) (w:World) (hown:Own w base 132 2 psgC v sl) (hok:∀ s∈sl,SgOk w s) (hn:sl.length≤4294967296) :
  Calls Tryz.prog 95 #[v,.func (.func 96) #[] #[]] w (RetSorted w base v sl):=by
 rcases sl with _ | ⟨s0,rest⟩
 ·
  have hv:∃ p cap,v=.slice p 0 cap:=by
   rcases hown.2 with ⟨h,_⟩ | ⟨g,cap,cur,h,_⟩
   · exact ⟨_,_,h⟩
   · exact ⟨_,_,h⟩
  obtain ⟨p,cap,rfl⟩:=hv
  refine Calls.mono (AnyF.slices_SortFunc_none Tryz.sortSeg p cap (.func (.func 96) #[] #[]) w) ?_
  rintro e w' ⟨rfl,rfl⟩
  exact ⟨rfl,[],List.Perm.refl _,fun i j _ hj=>by simp at hj,hown,(fun s hs=>by cases hs),World.grownBy.refl _ _⟩
 generalize hsl:s0::rest=sl at *
 have hs0:s0∈sl:=by rw [← hsl];simp
 have hpos:0<sl.length:=by rw [← hsl];simp
 obtain ⟨hlen,hown2⟩:=hown
 rcases hown2 with ⟨_,h0⟩ | ⟨g,cap,cur,rfl,hg,hh,hnc,hcm,hcs,hx⟩
 · omega
 haveI hI:Inhabited {s:PSg // SgOk w s}:=⟨⟨s0,hok s0 hs0⟩⟩
 have hdl:∃ dl:List {s:PSg // SgOk w s},dl.map (·.1)=sl:=⟨sl.attachWith (SgOk w) hok,by simp⟩
 obtain ⟨dl,hdl⟩:=hdl
 have hdn:dl.length=sl.length:=by rw [← hdl];simp
 have hfm:dl.flatMap (fun x=>psgC x.1)=sl.flatMap psgC:=by rw [← hdl,List.flatMap_map]
 have hrow:∀ g',(some g:Option Nat)=some g'→∃ cs,Blk w g' 132 cs:=fun g' e=>by injection e with e;subst e;exact ⟨cur,hh⟩
 have hcur:∀ j,j<sl.length*2→cur[j]? = (sl.flatMap psgC)[j]? := fun j hj=>by
  rw [← hx,List.getElem?_take,if_pos hj];simp
 have eg:∀ args w,(callFunc 96 args).run Tryz.prog w=.ok (.enter 96 args) w:=enters_of Tryz.func96 (by kernel_rfl) rfl
 have hkk:∀ x:{s:PSg // SgOk w s},(psgC x.1).length=2:=fun _=>rfl
 have hcmp:CmpLays Tryz.prog 96 #[] (fun x:{s:PSg // SgOk w s}=>psgC x.1) 2 (fun x y=>cmpI (westS x.1) (westS y.1)) g 0 dl.toArray.size w:=fun m os dk hdk x y=>by
  have hg':=sort_grown (fun x:{s:PSg // SgOk w s}=>psgC x.1) 2 w g 0 m dk os
  have hx:=x.2.grow hg' hrow (by decide) (by decide)
  have hy:=y.2.grow hg' hrow (by decide) (by decide)
  exact (cmpSeg_spec x.1 y.1 _ hx hy).mono fun e w' h=>⟨h.1,belowD_grow h.2⟩
 have hsz:dl.toArray.size*2=sl.length*2:=by simp [hdn]
 have hH:HoldsK (fun x:{s:PSg // SgOk w s}=>psgC x.1) 2 w g 0 dl.toArray:=fun j hj=>by
  rw [size_flatK,hsz] at hj
  refine ⟨?_,Blk.frozen (t:=132) (cs:=cur) hh _⟩
  rw [cell_of_row w g _ cur 132 (0,0) hh,Nat.zero_add,hcur j hj,flatK_list _ 2 hkk _ j (by rw [hsz];exact hj)]
  simp only [id]
  rw [hfm,List.getElem!_eq_getElem?_getD]
  have:j<(sl.flatMap psgC).length:=by rw [hlen];exact hj
  rw [List.getElem?_eq_getElem this];rfl
 have hcon:=AnyQ.slices_SortFunc Tryz.sortSeg 2 isAgg_seg sizeOf_seg (fun x:{s:PSg // SgOk w s}=>psgC x.1) hkk (fun x=>psgC_one x.1) (fun x y=>cmpI (westS x.1) (westS y.1)) (swo_cmp fun x:{s:PSg // SgOk w s}=>westS x.1) 96 #[] g 0 cap dl.toArray w eg hcmp hH (Blk.lt hh) (by simp;omega)
 have hns:dl.toArray.size=sl.length:=by simp [hdn]
 rw [hns] at hcon
 refine Calls.mono hcon ?_
 rintro e w' ⟨rfl,d',n,os,hp,hs,rfl⟩
 obtain ⟨p1,-,p3⟩:=hp
 have hd':d'.size=sl.length:=by rw [p1,hns]
 have hperm:d'.toList.Perm dl:=by
  have e1:d'.extract 0 sl.length=d':=by rw [← hd'];simp
  have e2:dl.toArray.extract 0 sl.length=dl.toArray:=by rw [← hns];simp
  rw [e1,e2] at p3
  simpa using p3
 have hg':=sort_grown (fun x:{s:PSg // SgOk w s}=>psgC x.1) 2 w g 0 n d' os
 refine ⟨rfl,d'.toList.map (·.1),by rw [← hdl];exact hperm.map _,?_,?_,?_,hg'⟩
 ·
  intro i j hij hj
  have hj':j<d'.size:=by simpa using hj
  have:=hs i j (Nat.zero_le _) hij (by rw [← hd'];exact hj')
  rw [ltOf_cmp (fun x:{s:PSg // SgOk w s}=>westS x.1),decide_eq_false_iff_not,getElem!_pos d' j hj',getElem!_pos d' i (by omega)] at this
  simp only [List.getElem_map,Array.getElem_toList]
  omega
 ·
  have hl':(d'.toList.map (·.1)).length=sl.length:=by simp [hd']
  unfold Own
  rw [hl']
  have hfd:(d'.toList.map (·.1)).flatMap psgC=d'.toList.flatMap (fun x=>psgC x.1):=by rw [List.flatMap_map]
  have hln:((d'.toList.map (·.1)).flatMap psgC).length=sl.length*2:=by rw [flat_length psgC 2 psgC_len,hl']
  refine ⟨hln,.inr ⟨g,cap,putCells id 0 (flatK (fun x:{s:PSg // SgOk w s}=>psgC x.1) 2 d') cur,rfl,hg,?_,hnc,hcm,by simp [putCells,hcs],?_⟩⟩
  ·
   have hgl:g<w.heap.size:=Blk.lt hh
   rw [sort_heap,Array.getElem?_append_left (by simpa using hgl),Array.getElem?_modify,if_pos rfl,hh]
   rfl
  ·
   apply List.ext_getElem?
   intro j
   rw [List.getElem?_take]
   by_cases hj:j<sl.length*2
   ·
    rw [if_pos hj,hfd]
    have hjc:j<cur.size:=by rw [hcs];have:=Nat.mul_le_mul_right 2 hnc;omega
    have hjd:j<d'.size*2:=by rw [hd'];exact hj
    have e1:(putCells id 0 (flatK (fun x:{s:PSg // SgOk w s}=>psgC x.1) 2 d') cur).toList[j]? = some (flatK (fun x:{s:PSg // SgOk w s}=>psgC x.1) 2 d')[j]! := by
     simp [putCells,hjc,hjd]
    rw [e1,flatK_list _ 2 hkk _ j hjd,List.getElem!_eq_getElem?_getD]
    have:j<(d'.toList.flatMap fun x=>psgC x.1).length:=by rw [← hfd,hln];exact hj
    rw [List.getElem?_eq_getElem this];rfl
   · rw [if_neg hj,List.getElem?_eq_none (by rw [hln];omega)]
 ·
  intro s hs
  obtain ⟨x,-,rfl⟩:=List.mem_map.1 hs
  exact x.2.grow hg' hrow (by decide) (by decide)
end Go.Proofs.YtpempeioeiaijaaGreat
