import Derived.Test.YtnhdmghgjngcaaaGreatJ04
import Derived.Test.YtnhdmghgjngcaaaGreatGB
set_option linter.unusedSimpArgs false
set_option linter.unusedVariables false
namespace Go.Proofs.YtnhdmghgjngcaaaGreat
open Go.RowKit

structure Ln where
 arc:Ar
 path:List Pt
 g:Nat
 via:SV
 pa:Option Addr
 pc:Nat
def lnC (x:Ln):Array Value:=#[.int .i64 x.arc.id,.int .i64 x.arc.fr,.int .i64 x.arc.dst,.slice x.via.a x.via.n x.via.c,.int .i64 x.arc.left,.int .i64 x.arc.right,.slice x.pa x.path.length x.pc]
def LnOk (w:World) (x:Ln):Prop:=Blk w x.g 161 (lnC x)∧Own w 0 36 2 ptC (.slice x.pa x.path.length x.pc) x.path
theorem LnOk.keep {w w':World} {x:Ln} (h:LnOk w x) (hb:Below w.heap.size w w'):LnOk w' x:=⟨h.1.keep hb,h.2.keep hb⟩

structure PSg where
 ln:Ln
 k:Nat
def psgC (s:PSg):List Value:=[.pointer (some ⟨s.ln.g,0,none⟩),.int .i64 s.k]
def psgV (s:PSg):Value:=.agg #[.pointer (some ⟨s.ln.g,0,none⟩),.int .i64 s.k]
def PSg.fst (s:PSg):Pt:=s.ln.path.getD s.k pt0
def PSg.snd (s:PSg):Pt:=s.ln.path.getD (s.k+1) pt0
def SgOk (w:World) (s:PSg):Prop:=LnOk w s.ln∧s.k+1<s.ln.path.length∧s.ln.path.length≤2097152
theorem SgOk.keep {w w':World} {s:PSg} (h:SgOk w s) (hb:Below w.heap.size w w'):SgOk w' s:=⟨h.1.keep hb,h.2⟩
theorem Blk.facts7 {w:World} {g:Nat} {t:TypeId} {v0 v1 v2 v3 v4 v5 v6:Value} (h:Blk w g t #[v0,v1,v2,v3,v4,v5,v6]):g<w.heap.size∧w.cell? ⟨g,0,none⟩=some v0∧w.cell? ⟨g,1,none⟩=some v1∧w.cell? ⟨g,2,none⟩=some v2∧w.cell? ⟨g,3,none⟩=some v3∧w.cell? ⟨g,4,none⟩=some v4∧w.cell? ⟨g,5,none⟩=some v5∧w.cell? ⟨g,6,none⟩=some v6∧w.frozen? ⟨g,0,none⟩=false∧w.frozen? ⟨g,1,none⟩=false∧w.frozen? ⟨g,2,none⟩=false∧w.frozen? ⟨g,3,none⟩=false∧w.frozen? ⟨g,4,none⟩=false∧w.frozen? ⟨g,5,none⟩=false∧w.frozen? ⟨g,6,none⟩=false :=
 ⟨h.lt,h.cell 0,h.cell 1,h.cell 2,h.cell 3,h.cell 4,h.cell 5,h.cell 6,h.frozen 0,h.frozen 1,h.frozen 2,h.frozen 3,h.frozen 4,h.frozen 5,h.frozen 6⟩

set_option maxRecDepth 100000 in
set_option maxHeartbeats 1000000 in
theorem ends2_spec (s:PSg) (w:World) (h:SgOk w s) :
  Calls Tryz.prog 113 #[psgV s] w fun e w'=>e=.returned (.tuple #[ptV s.fst,ptV s.snd])∧BelowD w w':=by
 obtain ⟨⟨hL,hP⟩,hk,hm⟩:=h
 obtain ⟨A,c,he,hn,hc,hR⟩:=Own.sl hP
 clear hP
 injection he with he1 _ he3
 subst he1 he3
 unfold lnC at hL
 obtain ⟨b,o,hA,hlb,c0,c1⟩:=hR.pt (k:=s.k) (by omega)
 obtain ⟨b',o',hA',-,d0,d1⟩:=hR.pt (k:=s.k+1) hk
 rw [hA] at hA' hL
 simp only [Option.some.injEq,Addr.mk.injEq,and_true] at hA'
 obtain ⟨rfl,rfl⟩:=hA'
 have hf:s.fst=s.ln.path[s.k]:=by unfold PSg.fst;simp [List.getD,List.getElem?_eq_getElem (show s.k<s.ln.path.length by omega)]
 have hs:s.snd=s.ln.path[s.k+1]:=by unfold PSg.snd;simp [List.getD,List.getElem?_eq_getElem hk]
 rw [← hf] at c0 c1
 rw [← hs] at d0 d1
 unfold psgV ptV
 unfold maxLen at hc
 clear hf hs hR hA
 generalize s.fst=P0 at *
 generalize s.snd=P1 at *
 generalize s.ln.path.length=N at *
 generalize s.k=k at *
 generalize s.ln.g=g at *
 have HL:=Lib.hid hL;clear hL
 go_enter Tryz.func113,Tryz.ntmps113
 go_upto_region 1 with fail
 obtain ⟨W,hW⟩:∃ W:World,W=((w.alloc (.cells #[.pointer (some ⟨g,0,none⟩),.int .i64 k] 154)).alloc (.cells #[.int .i64 0,.int .i64 0] 36)).alloc (.cells #[.int .i64 0,.int .i64 0] 36):=⟨_,rfl⟩
 have Bw:Below w.heap.size w W:=by rw [hW];exact bA (bA (bA (bR w) _) _) _
 have Dw:w.drawn≤W.drawn:=by rw [hW];exact dA (dA (dA (dR w) _) _) _
 have X1:Blk W w.heap.size 154 #[.pointer (some ⟨g,0,none⟩),.int .i64 k]:=by rw [hW];exact ((Blk.made rfl _ _).alloc _).alloc _
 have X2:Blk W (w.heap.size+1) 36 #[.int .i64 0,.int .i64 0]:=by rw [hW];exact (Blk.made (by simp) _ _).alloc _
 have X3:Blk W (w.heap.size+1+1) 36 #[.int .i64 0,.int .i64 0]:=by rw [hW];exact Blk.made (by simp) _ _
 rw [← hW]
 clear hW
 have X9:=HL.out.keep Bw
 have hgl:=HL.out.lt
 obtain ⟨bc,-⟩:=bcell Bw
 replace c0:=(bc b _ hlb).trans c0
 replace c1:=(bc b _ hlb).trans c1
 replace d0:=(bc b _ hlb).trans d0
 replace d1:=(bc b _ hlb).trans d1
 clear bc
 obtain ⟨X1l,X1a,X1b,-,-⟩:=X1.facts2
 obtain ⟨X9l,X9a,X9b,X9c,X9d,X9e,X9f,X9g,-,-,-,-,-,-,-⟩:=X9.facts7
 obtain ⟨X2l,X2a,X2b,X2fa,X2fb⟩:=X2.facts2
 obtain ⟨X3l,X3a,X3b,X3fa,X3fb⟩:=X3.facts2
 have q1:0≤(k:Int):=by omega
 have q2:(k:Int)<N:=by omega
 have q3:0≤(k:Int)+1:=by omega
 have q4:(k:Int)+1<N:=by omega
 have q5:((k:Int)+1).toNat=k+1:=by omega
 have q6:IntKind.i64.wrap ((k:Int)+1)=(k:Int)+1:=IntWalk.i64_in _ (by omega)
 have q7:w.heap.size<w.heap.size+1:=by omega
 have q8:g<w.heap.size+1:=by omega
 have q9:b<w.heap.size+1:=by omega
 refine rg_start (SinceB (w.heap.size+1) W) (.run 19 0 0 (.call 19 1048575 (.call 20 2097151 (.done)))) (by kernel_rfl) (Below.drew (Below.refl _ _)) (by kernel_rfl) (by kernel_rfl) (Nat.le_of_ble_eq_true (by kernel_rfl)) ?_
 intro opsR QR Hops HQrg hS
 iterate 19
  apply rg_pB;exact Hops;exact rfl;exact hS;exact rfl
  · intro _ hqc;go_simp;try rfl
  try simp only [pu]
 refine rg_call (i:=19) (get_of Hops rfl) (fun K hK=>?_)
 have HSrg:=Lib.hid hS;clear hS
 refine rg_run (wanted_plain rfl) ?_
 go_simp
 have hS:SinceB (w.heap.size+1) W _:=(Below.setCell (Below.setCell HSrg.out (p:=⟨w.heap.size+1,0,none⟩) (Nat.le_refl _) (.int .i64 P0.x)) (p:=⟨w.heap.size+1,1,none⟩) (Nat.le_refl _) (.int .i64 P0.y))
 clear HSrg
 refine hK.out _ _ hS (fun _=>?_)
 clear hK K
 try simp only [pu]
 refine rg_call (i:=20) (get_of Hops rfl) (fun K hK=>?_)
 have HSrg:=Lib.hid hS;clear hS
 refine rg_run (wanted_plain rfl) ?_
 go_simp
 have hS:SinceB (w.heap.size+1) W _:=(Below.setCell (Below.setCell HSrg.out (p:=⟨w.heap.size+1+1,0,none⟩) (Nat.le_succ _) (.int .i64 P1.x)) (p:=⟨w.heap.size+1+1,1,none⟩) (Nat.le_succ _) (.int .i64 P1.y))
 clear HSrg
 refine hK.out _ _ hS (fun _=>?_)
 clear hK K
 try simp only [pu]
 refine rg_done ?_
 refine HQrg.down _ _ ?_
 have hB:Below (w.heap.size+1) W _:=hS
 clear hS HQrg Hops
 go_wp2_with fail
 refine res_cell2 (g:=w.heap.size+1) (g':=w.heap.size+1+1) (cs:=#[.int .i64 P0.x,.int .i64 P0.y]) (cs':=#[.int .i64 P1.x,.int .i64 P1.y]) rfl struct_pt struct_pt rfl rfl rfl ?_ ?_ ⟨rfl,?_,?_⟩
 · exact ((Blk.put2 X2).far (p:=⟨w.heap.size+1+1,0,none⟩) (by simp) _).far (p:=⟨w.heap.size+1+1,1,none⟩) (by simp) _
 · exact Blk.put2 ((X3.far (p:=⟨w.heap.size+1,0,none⟩) (by simp) _).far (p:=⟨w.heap.size+1,1,none⟩) (by simp) _)
 · exact Bw.trans (hB.mono (by omega))
 · exact Nat.le_succ_of_le Dw

def westS (s:PSg):Int:=min s.fst.x s.snd.x
def eastS (s:PSg):Int:=max s.fst.x s.snd.x

set_option maxHeartbeats 1000000 in
theorem west_spec (s:PSg) (w:World) (h:SgOk w s) :
  Calls Tryz.prog 110 #[psgV s] w fun e w'=>e=.returned (.int .i64 (westS s))∧BelowD w w':=by
 have TE:∀ W,Below w.heap.size w W→Calls Tryz.prog 113 #[psgV s] W _:=fun W hW=>ends2_spec s W (h.keep hW)
 unfold westS
 unfold psgV ptV at TE
 unfold psgV
 have HE:=Lib.hid TE;clear TE h
 generalize s.fst=P0 at *
 generalize s.snd=P1 at *
 generalize s.k=k at *
 generalize s.ln.g=g at *
 go_enter Tryz.func110,Tryz.ntmps110
 go_wp2_with fail
 refine (HE.out _ (bA (bR w) _)).mono ?_
 rintro e w1 ⟨rfl,hb1,hd1⟩
 have Bw:Below w.heap.size w w1:=bT (bA (bR w) _) hb1
 have Dw:w.drawn≤w1.drawn:=dT (dA (dR w) _) hd1
 clear hb1 hd1
 go_wp2_with fail
 all_goals
  go_ret
  refine ⟨ret_int ?_,?_,?_⟩
  · first | rfl | omega
  · exact bA (bA Bw _) _
  · exact Dw

set_option maxHeartbeats 1000000 in
theorem east_spec (s:PSg) (w:World) (h:SgOk w s) :
  Calls Tryz.prog 111 #[psgV s] w fun e w'=>e=.returned (.int .i64 (eastS s))∧BelowD w w':=by
 have TE:∀ W,Below w.heap.size w W→Calls Tryz.prog 113 #[psgV s] W _:=fun W hW=>ends2_spec s W (h.keep hW)
 unfold eastS
 unfold psgV ptV at TE
 unfold psgV
 have HE:=Lib.hid TE;clear TE h
 generalize s.fst=P0 at *
 generalize s.snd=P1 at *
 generalize s.k=k at *
 generalize s.ln.g=g at *
 go_enter Tryz.func111,Tryz.ntmps111
 go_wp2_with fail
 refine (HE.out _ (bA (bR w) _)).mono ?_
 rintro e w1 ⟨rfl,hb1,hd1⟩
 have Bw:Below w.heap.size w w1:=bT (bA (bR w) _) hb1
 have Dw:w.drawn≤w1.drawn:=dT (dA (dR w) _) hd1
 clear hb1 hd1
 go_wp2_with fail
 all_goals
  go_ret
  refine ⟨ret_int ?_,?_,?_⟩
  · first | rfl | omega
  · exact bA (bA Bw _) _
  · exact Dw

set_option maxHeartbeats 1000000 in
theorem segfirst_spec (s:PSg) (w:World) :
  Calls Tryz.prog 114 #[psgV s] w fun e w'=>e=.returned (.bool ((s.k:Int) == 0))∧Below w.heap.size w w':=by
 unfold psgV
 generalize s.k=k
 generalize s.ln.g=g
 go_enter Tryz.func114,Tryz.ntmps114
 go_wp2_with fail
 go_ret
 exact ⟨rfl,bA (bR w) _⟩

set_option maxRecDepth 100000 in
set_option maxHeartbeats 1000000 in
theorem seglast_spec (s:PSg) (w:World) (h:SgOk w s) :
  Calls Tryz.prog 115 #[psgV s] w fun e w'=>e=.returned (.bool ((s.k:Int) == (s.ln.path.length:Int)-2))∧Below w.heap.size w w':=by
 obtain ⟨⟨hL,hP⟩,hk,hm⟩:=h
 unfold lnC at hL
 clear hP
 unfold psgV
 generalize s.ln.path.length=N at *
 generalize s.k=k at *
 generalize s.ln.g=g at *
 have HL:=Lib.hid hL;clear hL
 go_enter Tryz.func115,Tryz.ntmps115
 go_upto_region 1 with fail
 obtain ⟨W,hW⟩:∃ W:World,W=w.alloc (.cells #[.pointer (some ⟨g,0,none⟩),.int .i64 k] 154):=⟨_,rfl⟩
 have Bw:Below w.heap.size w W:=by rw [hW];exact bA (bR w) _
 have X1:Blk W w.heap.size 154 #[.pointer (some ⟨g,0,none⟩),.int .i64 k]:=by rw [hW];exact Blk.made rfl _ _
 rw [← hW]
 clear hW
 have X9:=HL.out.keep Bw
 obtain ⟨X1l,X1a,X1b,-,-⟩:=X1.facts2
 obtain ⟨X9l,X9a,X9b,X9c,X9d,X9e,X9f,X9g,-,-,-,-,-,-,-⟩:=X9.facts7
 have q6:IntKind.i64.wrap ((N:Int)-2)=(N:Int)-2:=IntWalk.i64_in _ (by omega)
 refine rg_start (Since W) (.run 11 0 0 (.done)) (by kernel_rfl) (bD (bR _)) (by kernel_rfl) (by kernel_rfl) (Nat.le_of_ble_eq_true (by kernel_rfl)) ?_
 intro opsR QR Hops HQrg hS
 iterate 11
  apply rg_p;exact Hops;exact rfl;exact hS;exact rfl
  · intro _ hqc;go_simp;try rfl
  try simp only [pu]
 refine rg_done ?_
 refine HQrg.down _ _ ?_
 have hB:Below W.heap.size W W.drew:=hS
 clear hS HQrg Hops
 go_wp2_with fail
 go_ret
 exact ⟨rfl,bT Bw hB⟩
end Go.Proofs.YtnhdmghgjngcaaaGreat
namespace Go.Proofs.YtnhdmghgjngcaaaGreat
open Go.RowKit

theorem LnOk.grow {w w':World} {x:Ln} {row:Option Nat} {e:TypeId} (h:LnOk w x) (hg:w.grownBy w' row) (hr:∀ g,row=some g→∃ cs,Blk w g e cs) (h1:e≠161) (h2:e≠36):LnOk w' x:=by
 refine ⟨h.1.grow hg (fun e'=>?_),Own.grown h.2 hg (fun g hg' e'=>?_)⟩
 ·
  obtain ⟨cs,hb⟩:=hr _ e'.symm
  exact Blk.ne_ hb h.1 h1 rfl
 ·
  obtain ⟨cs,hb⟩:=hr _ e'.symm
  obtain ⟨cs',hb'⟩:=h.2.blk hg'
  exact Blk.ne_ hb hb' h2 rfl
theorem SgOk.grow {w w':World} {s:PSg} {row:Option Nat} {e:TypeId} (h:SgOk w s) (hg:w.grownBy w' row) (hr:∀ g,row=some g→∃ cs,Blk w g e cs) (h1:e≠161) (h2:e≠36):SgOk w' s:=⟨h.1.grow hg hr h1 h2,h.2⟩

theorem elem_psg:Elem Tryz.prog 148 154 2 16:=Elem.mk_ (z:=.agg #[.pointer none,.int .i64 0]) (by kernel_rfl) (by kernel_rfl) rfl (by omega)
theorem psgC_len (s:PSg):(psgC s).length=2:=rfl
theorem psgC_one (s:PSg):∀ u∈psgC s,u.oneCell'=true:=by simp [psgC,Value.oneCell']
theorem Sl.one_psg {w:World} {g:Nat} {t:TypeId} {s:PSg} (h:Blk w g t #[.pointer (some ⟨s.ln.g,0,none⟩),.int .i64 s.k]) :
  Sl w (.slice (some ⟨g,0,none⟩) 1 1) ([s] : List PSg).length (([s] : List PSg).flatMap psgC):=Sl.lit (n:=1) h rfl (le_maxLen (by omega))

def distinctB (l:List Pt):Bool:=(List.range (l.length-1)).all fun k=>!decide (l.getD k pt0=l.getD (k+1) pt0)
theorem distinct_no (l:List Pt) (k:Nat) (hk:k+1<l.length) (h:l[k]=l[k+1]):distinctB l=false:=by
 unfold distinctB
 rw [List.all_eq_false]
 exact ⟨k,List.mem_range.2 (by omega),by simp [List.getD,List.getElem?_eq_getElem hk,List.getElem?_eq_getElem (show k<l.length by omega),h]⟩
theorem distinct_yes (l:List Pt) (h:∀ k (hk:k+1<l.length),¬ l[k]=l[k+1]):distinctB l=true:=by
 unfold distinctB
 rw [List.all_eq_true]
 intro k hk
 have hk:k+1<l.length:=by have:=List.mem_range.1 hk;omega
 have:=h k hk
 simpa [List.getD,List.getElem?_eq_getElem hk,List.getElem?_eq_getElem (show k<l.length by omega)] using this
def arcOk (p:Pl) (a:Ar):Bool:=match pathOf p a.id with
 | none=>false
 | some l=>!(a.fr == a.dst && decide ((l.length:Int)<4)) && distinctB l
structure Abs where
 arc:Ar
 path:List Pt
 k:Nat
def PSg.abs (s:PSg):Abs:=⟨s.ln.arc,s.ln.path,s.k⟩
def absOf (p:Pl) (a:Ar):List Abs:=(List.range (((pathOf p a.id).getD []).length-1)).map fun k=>⟨a,(pathOf p a.id).getD [],k⟩
theorem absOf_succ (p:Pl) (a:Ar) (k:Nat) (hk:k+1<((pathOf p a.id).getD []).length):(absOf p a).take (k+1)=(absOf p a).take k++[⟨a,(pathOf p a.id).getD [],k⟩]:=by
 have h:k<(absOf p a).length:=by simp only [absOf,List.length_map,List.length_range];omega
 rw [List.take_succ_eq_append_getElem h]
 simp [absOf]
theorem pathOf_len {p:Pl} {id:Int} {l:List Pt} (h:pathOf p id=some l) (hsh:Short p):2≤l.length∧l.length≤1048578:=by
 unfold pathOf at h
 cases ha:findAr p.arcs id with
 | none=>rw [ha] at h;cases h
 | some a =>
  rw [ha] at h
  simp only [] at h
  split at h
  ·
   injection h with h
   subst h
   rw [pathS_length]
   have:=hsh a (findAr_mem ha)
   omega
  · cases h
def RetSegP (w:World) (p:Pl) (e:Ending) (w':World):Prop :=
 Below w.heap.size w w'∧if p.arcs.all (arcOk p)=true then
  ∃ (sl:List PSg) (v:Value),e=.returned (.tuple #[v,.bool true])∧sl.map PSg.abs=p.arcs.flatMap (absOf p)∧(∀ s∈sl,SgOk w' s)∧Own w' w.heap.size 154 2 psgC v sl
 else e=.returned (.tuple #[.slice none 0 0,.bool false])

set_option maxRecDepth 100000 in
set_option maxHeartbeats 4000000 in
theorem segments_spec (v:Value) (p:Pl) (w:World) (h:PlV w v p) (hsh:Short p) (hl:(p.arcs.flatMap (absOf p)).length≤2097152) :
  Calls Tryz.prog 107 #[v] w (RetSegP w p):=by
 have HP:=Lib.hid h
 have HSh:=Lib.hid hsh;clear hsh
 obtain ⟨vn,_,vf,al,rfl,hpa,-,⟨⟨Aa,ca,rfl,ha1,ha2,hRa⟩,hV⟩,-⟩:=h
 unfold maxLen at ha2
 have HV:=Lib.hid hV;clear hV
 have HRa:=Lib.hid hRa;clear hRa
 have hL:∀ k,((al.take k).flatMap fun a=>absOf p a.1).length≤2097152:=fun k=>by
  have h1:=flat_take_le al (fun a=>absOf p a.1) k
  rw [hpa,List.flatMap_map] at hl
  exact Nat.le_trans h1 hl
 have HL:=Lib.hid hL
 have hAll:p.arcs.all (arcOk p)=al.all (fun a=>arcOk p a.1):=by rw [hpa,List.all_map];rfl
 have hFl:p.arcs.flatMap (absOf p)=al.flatMap (fun a=>absOf p a.1):=by rw [hpa,List.flatMap_map]
 obtain ⟨Q,hQ⟩:∃ Q,Q=RetSegP w p:=⟨_,rfl⟩
 have hbad:∀ k (hk:k<al.length),arcOk p al[k].1=false→∀ w',Below w.heap.size w w'→Q (.returned (.tuple #[.slice none 0 0,.bool false])) w':=fun k hk hb w' hw=>by
  rw [hQ]
  refine ⟨hw,?_⟩
  rw [hAll,all_hit al (fun a=>arcOk p a.1) k hk hb]
  rfl
 have hgood:(∀ k (hk:k<al.length),arcOk p al[k].1=true)→∀ (sl:List PSg) (v:Value) w',Below w.heap.size w w'→sl.map PSg.abs=al.flatMap (fun a=>absOf p a.1)→(∀ s∈sl,SgOk w' s)→Own w' w.heap.size 154 2 psgC v sl→Q (.returned (.tuple #[v,.bool true])) w':=fun h1 sl v w' hw h2 h3 h4=>by
  rw [hQ]
  refine ⟨hw,?_⟩
  rw [hAll,all_miss al (fun a=>arcOk p a.1) h1,if_pos rfl,hFl]
  exact ⟨sl,v,rfl,h2,h3,h4⟩
 have HBad:=Lib.hid hbad
 have HGood:=Lib.hid hgood
 rw [← hQ]
 clear hpa hl hL hAll hFl hbad hgood hQ
 go_enter Tryz.func107,Tryz.ntmps107
 go_wp2_with fail
 obtain ⟨W0,hW0⟩:∃ W0:World,W0=w.alloc (.cells #[vn,.slice Aa al.length ca,vf] 26):=⟨_,rfl⟩
 have X1:Blk W0 w.heap.size 26 #[vn,.slice Aa al.length ca,vf]:=by rw [hW0];exact Blk.made rfl _ _
 have Bw0:Below w.heap.size w W0:=by rw [hW0];exact bA (bR w) _
 have HX0:=Lib.hid X1
 rw [← hW0]
 clear hW0 X1
 go_loopw [2,13] (fun s i wr=>∃ (k:Nat) (sl:List PSg),k≤al.length∧i=.int .i64 k∧sl.map PSg.abs=((al.take k).flatMap fun a=>absOf p a.1)∧(∀ s∈sl,SgOk wr s)∧Own wr W0.heap.size 154 2 psgC s sl∧Below W0.heap.size W0 wr∧∀ j (hj:j<al.length),j<k→arcOk p al[j].1=true) (fun _ i _=>al.length-(intOf i).toNat)
 case atStart => exact ⟨0,[],Nat.zero_le _,rfl,rfl,(fun _ h=>by cases h),Own.nil _ _ _ _ _,bR W0,fun _ _ h=>by omega⟩
 case round =>
  obtain ⟨k,sl,hk,rfl,hsl,hok,hown,hb,hno⟩:=hrel
  have Hb:=Lib.hid hb
  have Hown:=Lib.hid hown
  have Hsl:=Lib.hid hsl
  have Hok:=Lib.hid hok
  have Hno:=Lib.hid hno
  have X1:=HX0.out.keep hb
  have hsz:=hb.size
  clear hb hown hsl hok hno
  obtain ⟨X1l,X1a,X1b,X1c,-,-,-⟩:=X1.facts3
  by_cases hlt:k<al.length
  case neg =>
   have hE:al.take k=al:=List.take_of_length_le (by omega)
   have hs:=Hsl.out
   rw [hE] at hs
   have Hs:=Lib.hid hs
   clear hE hs
   go_wp2_with fail
   exact HGood.out (fun j hj=>Hno.out j hj (by omega)) sl _ _ (bT Bw0 Hb.out) Hs.out Hok.out (Hown.out.mono_base Bw0.size)
  obtain ⟨b,o,rfl,hlb,c0,c1,c2,c3,c4,c5⟩:=(HRa.out.mono (bT Bw0 Hb.out)).ar hlt
  obtain ⟨Av,cv,hv,-⟩:=HV.out k hlt
  rw [hv] at c3
  clear hv
  go_wp2_with fail
  refine (Path_spec _ p _ _ (HP.out.mono (bT Bw0 (bA Hb.out _))) HSh.out).mono ?_
  rintro e w2 ⟨Ap,cp,rfl,hb2,hop⟩
  have hA1:Below wr.heap.size wr w2:=bT (bA (bR wr) _) hb2
  have X5:Blk w2 wr.heap.size 41 #[.int .i64 al[k].1.id,.int .i64 al[k].1.fr,.int .i64 al[k].1.dst,.slice Av al[k].1.via.length cv,.int .i64 al[k].1.left,.int .i64 al[k].1.right]:=(Blk.made rfl _ _).keep hb2
  have hown2:=Hown.out.keep hA1
  have hok2:∀ s∈sl,SgOk w2 s:=fun s hs=>(Hok.out s hs).keep hA1
  have B2:=bT Hb.out hA1
  have hsz2:=B2.size
  replace X1:=X1.keep hA1
  have HX1:=Lib.hid X1
  have Hown2:=Lib.hid hown2
  have Hok2:=Lib.hid hok2
  have HB2:=Lib.hid B2
  clear hb2 hA1 hown2 hok2 B2 c0 c1 c2 c3 c4 c5 hlb X1 X1l X1a X1b X1c
  obtain ⟨X5l,X5a,X5b,X5c,X5d,X5e,X5f,-,-,-,-,-,-⟩:=X5.facts6
  cases hpo:pathOf p al[k].1.id with
  | none =>
   have hf:=Lib.hid (show arcOk p al[k].1=false by unfold arcOk;rw [hpo])
   clear hop
   simp only [Option.isSome_none,Bool.false_eq_true,if_false,Option.getD_none,List.length_nil]
   go_wp2_with fail
   exact HBad.out k hlt hf.out _ (bT Bw0 HB2.out)
  | some l =>
  rw [hpo] at hop
  simp only [Option.isSome_some,if_true,Option.getD_some] at hop ⊢
  have Hpo:=Lib.hid hpo
  have hll:=pathOf_len hpo HSh.out
  have Hop:=Lib.hid hop
  clear hpo hop
  have harc:arcOk p al[k].1=(!(al[k].1.fr == al[k].1.dst && decide ((l.length:Int)<4)) && distinctB l):=by unfold arcOk;rw [Hpo.out]
  have Harc:=Lib.hid harc;clear harc
  by_cases hloop:al[k].1.fr=al[k].1.dst∧(l.length:Int)<4
  ·
   obtain ⟨he1,he2⟩:=hloop
   have hf:=Lib.hid (show arcOk p al[k].1=false by rw [Harc.out,beq_iff_eq.2 he1,decide_eq_true he2];rfl)
   have hz:=beq_iff_eq.2 he1
   clear he1
   go_wp2_with fail
   exact HBad.out k hlt hf.out _ (bT Bw0 HB2.out)
  have hz:(al[k].1.fr == al[k].1.dst && decide ((l.length:Int)<4))=false:=by
   rw [Bool.and_eq_false_iff]
   by_cases e:al[k].1.fr=al[k].1.dst
   · right;exact decide_eq_false (fun h=>hloop ⟨e,h⟩)
   · left;exact beq_eq_false_iff_ne.2 e
  have Harc2:=Lib.hid (show arcOk p al[k].1=distinctB l by rw [Harc.out,hz];rfl)
  go_upto_region 5 with fail
  go_cut [37] (fun u wx=>u=.bool false∧wx=w2)
  case first =>
   cases e1:(al[k].1.fr == al[k].1.dst)
   ·
    go_wp2_with fail
    go_meet
    case rel => exact ⟨rfl,rfl⟩
   ·
    have e2:¬ (l.length:Int)<4:=fun h=>hloop ⟨eq_of_beq e1,h⟩
    clear hloop hz
    go_wp2_with fail
    go_meet
    case rel => exact ⟨rfl,rfl⟩
  case rest =>
  obtain ⟨rfl,rfl⟩:=hcut
  clear hloop hz
  go_wp2_with fail
  obtain ⟨ln,hln⟩:∃ ln:Ln,ln=⟨al[k].1,l,wc.heap.size,⟨Av,al[k].1.via.length,cv⟩,Ap,cp⟩:=⟨_,rfl⟩
  obtain ⟨W5,hW5⟩:∃ W5:World,W5=wc.alloc (.cells #[.int .i64 al[k].1.id,.int .i64 al[k].1.fr,.int .i64 al[k].1.dst,.slice Av al[k].1.via.length cv,.int .i64 al[k].1.left,.int .i64 al[k].1.right,.slice Ap l.length cp] 161):=⟨_,rfl⟩
  have hA5:Below wc.heap.size wc W5:=by rw [hW5];exact bA (bR wc) _
  have hlo:LnOk W5 ln:=by
   rw [hln]
   refine ⟨?_,(Hop.out.keep hA5).mono_base (Nat.zero_le _)⟩
   rw [hW5]
   exact Blk.made rfl _ _
  rw [← hW5]
  have Hlo:=Lib.hid hlo
  have Hln:=Lib.hid hln
  have Hown5:=Lib.hid (Hown2.out.keep hA5)
  have Hok5:=Lib.hid (fun s hs=>(Hok2.out s hs).keep hA5)
  have HB5:=Lib.hid (bT HB2.out hA5)
  clear hA5 hW5 hlo hln X5 X5l X5a X5b X5c X5d X5e X5f
  obtain ⟨M,hM⟩:∃ M,l.length=M+1:=⟨l.length-1,by omega⟩
  have HM:=Lib.hid hM
  clear hM
  obtain ⟨wo,rfl⟩:∃ wo:World,wo=wr:=⟨_,rfl⟩
  go_loopw [2,45] (fun s i wx=>∃ (j:Nat) (sx:List PSg),j+1≤l.length∧i=.int .i64 j∧sx.map PSg.abs=((al.take k).flatMap fun a=>absOf p a.1)++(absOf p al[k].1).take j∧(∀ s∈sx,SgOk wx s)∧LnOk wx ln∧Own wx W0.heap.size 154 2 psgC s sx∧Below W0.heap.size W0 wx∧∀ m (hm:m+1<l.length),m<j→¬ l[m]=l[m+1]) (fun _ i _=>l.length-(intOf i).toNat)
  case atStart => exact ⟨0,sl,by omega,rfl,by rw [Hsl.out];simp,Hok5.out,Hlo.out,Hown5.out,HB5.out,fun _ _ h=>by omega⟩
  case round =>
   obtain ⟨j,sx,hj,rfl,hsx,hokx,hlnx,hownx,hbx,hnx⟩:=hrel
   have Hbx:=Lib.hid hbx
   have Hownx:=Lib.hid hownx
   have Hsx:=Lib.hid hsx
   have Hokx:=Lib.hid hokx
   have Hlnx:=Lib.hid hlnx
   have Hnx:=Lib.hid hnx
   have hszx:=hbx.size
   clear hbx hownx hsx hokx hlnx hnx
   by_cases hlj:j+1<l.length
   case neg =>
    have hdist:=Lib.hid (show arcOk p al[k].1=true by rw [Harc2.out];exact distinct_yes l (fun m hm=>Hnx.out m hm (by omega)))
    have Hs2:=Lib.hid (show sx.map PSg.abs=((al.take (k+1)).flatMap fun a=>absOf p a.1) by
     rw [Hsx.out,List.take_succ_eq_append_getElem hlt,List.flatMap_append,List.take_of_length_le (l:=absOf p al[k].1) (by simp only [absOf,Hpo.out,List.length_map,List.length_range,Option.getD_some];omega)];simp)
    go_wp2_with fail
    go_roundw
    case rel => exact ⟨k+1,sx,by omega,by go_num,Hs2.out,Hokx.out,Hownx.out,Hbx.out,all_succ (p:=fun x=>arcOk p x.1=true) Hno.out hlt hdist.out⟩
    case measure => simp [intOf];omega
   have hrow:=Own.sl Hlnx.out.2
   rw [Hln.out] at hrow
   obtain ⟨A1',c1'',he1,-,-,hrow⟩:=hrow
   injection he1 with he1 _ he3
   subst he1
   subst he3
   obtain ⟨pb,po,hpa1,hlp,f0,f1⟩:=hrow.pt (k:=j) (by simp only [];omega)
   subst hpa1
   obtain ⟨pb',po',hpa2,hlp',f2,f3⟩:=hrow.pt (k:=j+1) (by simp only [];omega)
   simp only [Option.some.injEq,Addr.mk.injEq,and_true] at hpa2
   obtain ⟨rfl,rfl⟩:=hpa2
   simp only [] at f0 f1 f2 f3
   clear hrow hlp'
   have w1e:IntKind.i64.wrap ((j:Int)+1)=(j:Int)+1:=IntWalk.i64_in _ (by omega)
   have r1:0≤(j:Int):=by omega
   have r2:(j:Int)<l.length:=by omega
   have r3:0≤(j:Int)+1:=by omega
   have r4:(j:Int)+1<l.length:=by omega
   have r5:((j:Int)+1).toNat=j+1:=by omega
   have hE:=run_eql_pt l[j] l[j+1]
   by_cases he:l[j]=l[j+1]
   ·
    have hd:decide (l[j]=l[j+1])=true:=decide_eq_true he
    have hf:=Lib.hid (show arcOk p al[k].1=false by rw [Harc2.out];exact distinct_no l j hlj he)
    clear he
    go_upto_region 11 with fail
    refine rg_start (Since wr) (.run 10 0 0 (.done)) (by kernel_rfl) (bD (bR _)) (by kernel_rfl) (by kernel_rfl) (Nat.le_of_ble_eq_true (by kernel_rfl)) ?_
    intro opsR QR Hops HQrg hS
    iterate 10
     apply rg_p;exact Hops;exact rfl;exact hS;exact rfl
     · intro _ hqc;go_simp;try rfl
     try simp only [pu]
    refine rg_done ?_
    refine HQrg.down _ _ ?_
    have hB:Below wr.heap.size wr wr.drew:=hS
    clear hS HQrg Hops
    go_wp2_with fail
    exact HBad.out k hlt hf.out _ (bT Bw0 (bT Hbx.out hB))
   have hd:decide (l[j]=l[j+1])=false:=decide_eq_false he
   have He:=Lib.hid he
   clear he
   go_upto_region 11 with fail
   refine rg_start (Since wr) (.run 10 0 0 (.done)) (by kernel_rfl) (bD (bR _)) (by kernel_rfl) (by kernel_rfl) (Nat.le_of_ble_eq_true (by kernel_rfl)) ?_
   intro opsR QR Hops HQrg hS
   iterate 10
    apply rg_p;exact Hops;exact rfl;exact hS;exact rfl
    · intro _ hqc;go_simp;try rfl
    try simp only [pu]
   refine rg_done ?_
   refine HQrg.down _ _ ?_
   have hB:Below wr.heap.size wr wr.drew:=hS
   clear hS HQrg Hops
   clear f0 f1 f2 f3 w1e r3 r4 r5 hE
   have hlen:=Lib.hid (show sx.length+1≤2097152 by
    have h2:=congrArg List.length Hsx.out
    rw [List.length_map,List.length_append,List.length_take] at h2
    have h3:=HL.out (k+1)
    rw [List.take_succ_eq_append_getElem hlt,List.flatMap_append,List.length_append] at h3
    simp only [List.flatMap_cons,List.flatMap_nil,List.append_nil] at h3
    have h4:(absOf p al[k].1).length=l.length-1:=by simp only [absOf,Hpo.out,List.length_map,List.length_range,Option.getD_some]
    omega)
   have hnew:Hid (SgOk wr.drew ⟨ln,j⟩):=Lib.hid ⟨Hlnx.out.keep hB,by rw [Hln.out];exact ⟨hlj,by simp only [];omega⟩⟩
   have hgl:ln.g=wc.heap.size:=by rw [Hln.out]
   have Hgl:=Lib.hid hgl
   have Hownd:Hid (Own wr.drew W0.heap.size 154 2 psgC u2 sx):=Lib.hid Hownx.out
   have Hokd:Hid (∀ s∈sx,SgOk wr.drew s):=Lib.hid fun s hs=>(Hokx.out s hs).keep hB
   have Hlnd:Hid (LnOk wr.drew ln):=Lib.hid (Hlnx.out.keep hB)
   have hszd:W0.heap.size≤wr.drew.heap.size:=hszx
   clear hB hgl
   go_wp2_with
    (at_builtin
     refine wpList_appl _ rfl (.tmp 58) (.tmp 62) _ rfl (base:=W0.heap.size) elem_psg psgC_len psgC_one rfl (Hownd.out.alloc _) rfl (l2:=[(⟨ln,j⟩:PSg)]) (Sl.one_psg (by rw [Hgl.out];exact Blk.made (by simp) _ _)) (by have:=hlen.out;simp only [List.length_cons,List.length_nil];omega) (by have:=hlen.out;simp only [List.length_cons,List.length_nil];omega) (by simp;omega) ?_
     intro v1 w1 hown1 hg hat
     have Bw1:=Lib.hid (show Below W0.heap.size W0 w1 from bG (bA (bD Hbx.out) _) hg (fun g hk=>(Hownd.out.lt g hk).1))
     have hrow:∀ g,(u2:Value).ownBlock=some g→∃ cs,Blk (wr.drew.alloc (.cells #[.pointer (some ⟨wc.heap.size,0,none⟩),.int .i64 j] 154)) g 154 cs:=fun g hg=>(Hownd.out.alloc _).blk hg
     have Hok1:=Lib.hid (show ∀ s∈sx++[(⟨ln,j⟩:PSg)],SgOk w1 s from fun s hs=>by
      rcases List.mem_append.1 hs with h | h
      · exact ((Hokd.out s h).keep (bA (bR wr.drew) _)).grow hg hrow (by decide) (by decide)
      ·
       rw [List.mem_singleton.1 h]
       exact (hnew.out.keep (bA (bR wr.drew) _)).grow hg hrow (by decide) (by decide))
     have Hln1:=Lib.hid ((Hlnd.out.keep (bA (bR wr.drew) _)).grow hg hrow (by decide) (by decide))
     clear hg hat hrow
     have Hown1:=Lib.hid hown1;clear hown1)
   have Hs1:=Lib.hid (show (sx++[(⟨ln,j⟩:PSg)]).map PSg.abs=((al.take k).flatMap fun a=>absOf p a.1)++(absOf p al[k].1).take (j+1) by
    rw [List.map_append,Hsx.out,absOf_succ p al[k].1 j (by rw [Hpo.out];exact hlj),List.append_assoc]
    simp only [List.map_cons,List.map_nil,PSg.abs,Hpo.out,Option.getD_some,Hln.out])
   go_roundw
   case rel => exact ⟨j+1,_,by omega,by go_num,Hs1.out,Hok1.out,Hln1.out,Hown1.out,Bw1.out,fun m hm hmj=>if e:m<j then Hnx.out m hm e else by
     have:m=j:=by omega
     subst this;exact He.out⟩
   case measure => simp [intOf];omega
end Go.Proofs.YtnhdmghgjngcaaaGreat
namespace Go.Proofs.YtnhdmghgjngcaaaGreat
open Go.RowKit

set_option maxHeartbeats 400000 in
theorem isNaN_int_spec (x:Int) (w:World):Calls Tryz.prog 55 #[.int .i64 x] w fun e w'=>e=.returned (.bool false)∧w=w':=by
 have hx:(x != x)=false:=by simp
 go_enter Tryz.func55,Tryz.ntmps55
 go_wp2_with fail
 go_ret
 exact ⟨by simp,rfl⟩

def cmpI (x y:Int):Int:=if x<y then -1 else if y<x then 1 else 0
set_option maxHeartbeats 400000 in
theorem Compare_int_spec (x y:Int) (w:World):Calls Tryz.prog 32 #[.int .i64 x,.int .i64 y] w fun e w'=>e=.returned (.int .i64 (cmpI x y))∧w=w':=by
 have HN:=Lib.hid (fun (z:Int) (W:World)=>isNaN_int_spec z W)
 obtain ⟨q,hq⟩:∃ q,cmpI x y=q:=⟨_,rfl⟩
 rw [hq]
 have Hq:=Lib.hid hq;clear hq
 go_enter Tryz.func32,Tryz.ntmps32
 go_wp2_with fail
 refine (HN.out _ _).mono ?_
 rintro e w' ⟨rfl,rfl⟩
 go_wp2_with fail
 refine (HN.out _ _).mono ?_
 rintro e w' ⟨rfl,rfl⟩
 go_wp2_with fail
 all_goals
  go_ret
  refine ⟨ret_int ?_,rfl⟩
  rw [← Hq.out]
  unfold cmpI
  first | rw [if_pos (by assumption)] | (rw [if_neg (by assumption),if_pos (by assumption)]) | (rw [if_neg (by assumption),if_neg (by assumption)]) | (split<;>(try split)<;>omega)

end Go.Proofs.YtnhdmghgjngcaaaGreat
namespace Go.Proofs.YtnhdmghgjngcaaaGreat
open Go.RowKit

theorem Compare_int_spec' (x y:Int) (w:World):Calls Tryz.prog 32 #[.int .i64 x,.int .i64 y] w fun e w'=>e=.returned (.int .i64 (cmpI x y))∧BelowD w w' :=
 (Compare_int_spec x y w).mono fun e w' h=>⟨h.1,by rw [← h.2];exact ⟨bR w,dR w⟩⟩

set_option maxRecDepth 100000 in
set_option maxHeartbeats 1000000 in
theorem cmpSeg_spec (s t:PSg) (w:World) (hs:SgOk w s) (ht:SgOk w t) :
  Calls Tryz.prog 109 #[psgV s,psgV t] w fun e w'=>e=.returned (.int .i64 (cmpI (westS s) (westS t)))∧BelowD w w':=by
 have TS:∀ W,Below w.heap.size w W→Calls Tryz.prog 110 #[psgV s] W _:=fun W hW=>west_spec s W (hs.keep hW)
 have TT:∀ W,Below w.heap.size w W→Calls Tryz.prog 110 #[psgV t] W _:=fun W hW=>west_spec t W (ht.keep hW)
 unfold psgV at TS TT ⊢
 have HS:=Lib.hid TS;have HT:=Lib.hid TT
 clear TS TT hs ht
 generalize westS s=x at *
 generalize westS t=y at *
 generalize s.k=k at *
 generalize t.k=m at *
 generalize s.ln.g=g at *
 generalize t.ln.g=h at *
 go_enter Tryz.func109,Tryz.ntmps109
 go_upto_region 1 with fail
 obtain ⟨W,hW⟩:∃ W:World,W=(w.alloc (.cells #[.pointer (some ⟨g,0,none⟩),.int .i64 k] 154)).alloc (.cells #[.pointer (some ⟨h,0,none⟩),.int .i64 m] 154):=⟨_,rfl⟩
 have Bw:Below w.heap.size w W:=by rw [hW];exact bA (bA (bR w) _) _
 have Dw:=Lib.hid (show w.drawn≤W.drawn by rw [hW];exact dA (dA (dR w) _) _)
 have X1:Blk W w.heap.size 154 #[.pointer (some ⟨g,0,none⟩),.int .i64 k]:=by rw [hW];exact (Blk.made rfl _ _).alloc _
 have X2:Blk W (w.heap.size+1) 154 #[.pointer (some ⟨h,0,none⟩),.int .i64 m]:=by rw [hW];exact Blk.made (by simp) _ _
 rw [← hW]
 clear hW
 obtain ⟨X1l,X1a,X1b,-,-⟩:=X1.facts2
 obtain ⟨X2l,X2a,X2b,-,-⟩:=X2.facts2
 refine rg_start (Since W) (.take 0 1 (.take 2 5 (.call 1 7 (.call 3 15 (.call 4 31 (.take 5 63 (.done))))))) (by kernel_rfl) (bD (bR _)) (by kernel_rfl) (by kernel_rfl) (Nat.le_of_ble_eq_true (by kernel_rfl)) ?_
 intro opsR QR Hops HQrg hS
 iterate 2
  apply rg_p;exact Hops;exact rfl;exact hS;exact rfl
  · intro _ hqc;go_simp;try rfl
  try simp only [pu]
 refine rg_call (i:=1) (get_of Hops rfl) (fun K hK=>?_)
 have HSrg:=Lib.hid hS;clear hS
 refine rg_run (wanted_plain rfl) ?_
 go_simp
 refine (HS.out _ (bT Bw HSrg.out)).mono ?_
 rintro e wr1 ⟨rfl,hbr1,hd1⟩
 have hS:Since W wr1:=bT (w:=W) HSrg.out hbr1
 clear HSrg
 refine hK.out _ _ hS (fun _=>?_)
 clear hK K
 try simp only [pu]
 refine rg_call (i:=3) (get_of Hops rfl) (fun K hK=>?_)
 have HSrg:=Lib.hid hS;clear hS
 refine rg_run (wanted_plain rfl) ?_
 go_simp
 refine (HT.out _ (bT Bw HSrg.out)).mono ?_
 rintro e wr2 ⟨rfl,hbr2,hd2⟩
 have hS:Since W wr2:=bT (w:=W) HSrg.out hbr2
 clear HSrg
 refine hK.out _ _ hS (fun _=>?_)
 clear hK K
 try simp only [pu]
 refine rg_call (i:=4) (get_of Hops rfl) (fun K hK=>?_)
 have HSrg:=Lib.hid hS;clear hS
 refine rg_run (wanted_plain rfl) ?_
 go_simp
 refine (Compare_int_spec' x y _).mono ?_
 rintro e wr3 ⟨rfl,hbr3,hd3⟩
 have hS:Since W wr3:=bT (w:=W) HSrg.out hbr3
 clear HSrg
 refine hK.out _ _ hS (fun _=>?_)
 clear hK K
 try simp only [pu]
 apply rg_p;exact Hops;exact rfl;exact hS;exact rfl
 · intro _ hqc;go_simp;try rfl
 try simp only [pu]
 refine rg_done ?_
 refine HQrg.down _ _ ?_
 have hB:Below W.heap.size W wr3:=hS
 clear hS HQrg Hops
 have D3:=Lib.hid (dT (dT (dT (dD Dw.out) hd1) hd2) hd3)
 go_wp2_with fail
 go_ret
 exact ⟨rfl,bT Bw hB,D3.out⟩
end Go.Proofs.YtnhdmghgjngcaaaGreat
