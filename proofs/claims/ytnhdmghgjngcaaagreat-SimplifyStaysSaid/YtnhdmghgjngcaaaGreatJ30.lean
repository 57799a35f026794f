import Derived.Test.YtnhdmghgjngcaaaGreatJ07
import Derived.Test.YtnhdmghgjngcaaaGreatJ25
import Derived.Test.YtnhdmghgjngcaaaGreatJ05
import Derived.Test.YtnhdmghgjngcaaaGreatJ01
import Derived.Deep.LoopGhost
import Derived.Test.YtnhdmghgjngcaaaGreatJ21
import Derived.Test.YtnhdmghgjngcaaaGreatJ29
import Derived.Test.YtnhdmghgjngcaaaGreatGB
set_option linter.unusedSimpArgs false
set_option linter.unusedVariables false
namespace Go.Proofs.YtnhdmghgjngcaaaGreat
open Go.RowKit

def exVia:List Pt:=[⟨10,0⟩,⟨10,10⟩,⟨0,10⟩]
def pl0:Pl:=⟨[],[],[]⟩
def exVs:Array Value:=#[.int .i64 10,.int .i64 0,.int .i64 10,.int .i64 10,.int .i64 0,.int .i64 10]
def exAr (gv nv cv:Nat) (left:Int):Array Value:=#[.int .i64 1,.int .i64 1,.int .i64 1,.slice (some ⟨gv,0,none⟩) nv cv,.int .i64 left,.int .i64 0]
theorem PlV.blocks {w:World} {vn va vf:Value} {p:Pl} {al:List (Ar×Value)} (hp:p.arcs=al.map (·.1)) (hn:Nds w vn p.nodes) (ha:Sl w va al.length (al.flatMap arC)) (hv:Vias w al) (hf:Ints w vf p.faces):PlV w (.agg #[vn,va,vf]) p :=
 ⟨vn,va,vf,al,rfl,hp,hn,⟨ha,hv⟩,hf⟩
theorem PlV.zero (w:World):PlV w (.agg #[.slice none 0 0,.slice none 0 0,.slice none 0 0]) pl0 :=
 PlV.blocks (al:=[]) rfl (Sl.nil w) (Sl.nil w) (fun k hk=>by simp at hk) (Sl.nil w)
theorem vias_one {w:World} {a:Ar} {u:Value} (h:Pts w u a.via):Vias w [(a,u)]:=fun k hk=>by
 have:k=0:=by simpa using hk
 subst this
 exact h
theorem PlV.ex {w:World} {vn:Value} {l:List Nd} {a v f n c:Nat} {left:Int} {via:List Pt} (hn:Nds w vn l) (ha:Blk w a 41 (exAr v n c left)) (hv:Pts w (.slice (some ⟨v,0,none⟩) n c) via) (hf:Blk w f 3 #[.int .i64 1]) :
  PlV w (.agg #[vn,.slice (some ⟨a,0,none⟩) 1 1,.slice (some ⟨f,0,none⟩) 1 1]) ⟨l,[⟨1,1,1,via,left,0⟩],[1]⟩ :=
 PlV.blocks (al:=[(⟨1,1,1,via,left,0⟩,.slice (some ⟨v,0,none⟩) n c)]) rfl hn (Sl.lit (n:=1) ha rfl (le_maxLen (by omega))) (vias_one hv) (Sl.lit (n:=1) hf rfl (le_maxLen (by omega)))
theorem exVs_pts {w:World} {v:Nat} (h:Blk w v 36 exVs):Pts w (.slice (some ⟨v,0,none⟩) 3 3) exVia:=Sl.lit (n:=3) h rfl (le_maxLen (by omega))
end Go.Proofs.YtnhdmghgjngcaaaGreat
namespace Go.Proofs.YtnhdmghgjngcaaaGreat
open Go.RowKit

theorem drop_ids (arc:Int) (i:Nat):∀ l:List Ar,(dropL arc i l).map (·.id)=l.map (·.id)
 | []=>rfl
 | a::l=>by
  unfold dropL
  split
  · rfl
  · rw [List.map_cons,List.map_cons,drop_ids arc i l]
theorem drop_via (arc:Int) (i:Nat) (M:Nat):∀ l:List Ar,(∀ a∈l,a.via.length≤M)→∀ a∈dropL arc i l,a.via.length≤M
 | [],_,a,h=>by cases h
 | b::l,hl,a,h=>by
  unfold dropL at h
  split at h
  ·
   rcases List.mem_cons.1 h with rfl | h
   ·
    have:=hl b List.mem_cons_self
    show (b.via.eraseIdx i).length≤M
    rw [List.length_eraseIdx]
    split<;>omega
   · exact hl a (List.mem_cons_of_mem _ h)
  ·
   rcases List.mem_cons.1 h with rfl | h
   · exact hl _ List.mem_cons_self
   · exact drop_via arc i M l (fun x hx=>hl x (List.mem_cons_of_mem _ hx)) a h
theorem thin_keeps {p q:Pl} {tol:Int} (h:thinS p tol=some q) (hm:Mod34 p) (hw:∀ a∈p.arcs,wfI a.id):Mod34 q∧(∀ a∈q.arcs,wfI a.id)∧q.nodes=p.nodes∧q.arcs.length=p.arcs.length∧q.faces=p.faces:=by
 unfold thinS at h
 cases e:leastS p tol with
 | none=>rw [e] at h;cases h
 | some c =>
  rw [e] at h
  injection h with h
  subst h
  refine ⟨⟨hm.nds,by show (dropL _ _ _).length≤_;rw [drop_len];exact hm.ars,drop_via _ _ _ _ hm.via⟩,fun a ha=>?_,rfl,drop_len _ _ _,rfl⟩
  have h1:a.id∈(dropL c.id c.k p.arcs).map (·.id):=List.mem_map_of_mem ha
  rw [drop_ids] at h1
  obtain ⟨b,hb,e⟩:=List.mem_map.1 h1
  rw [← e]
  exact hw b hb
theorem PlO.mono_base {w:World} {B B':Nat} {vn va vf:Value} {p:Pl} {bl:List (Ar×SV)} (h:PlO w B vn va vf p bl) (hb:B'≤B):PlO w B' vn va vf p bl :=
 ⟨h.nds.mono_base hb,h.ars.mono_base hb,fun x hx=>(h.vias x hx).mono_base hb,h.eq,h.fcs.mono_base hb⟩
theorem PlO.put3 {w:World} {B g:Nat} {vn va vf u0 u1 u2:Value} {cs:Array Value} {p:Pl} {bl:List (Ar×SV)} (h:PlO w B vn va vf p bl) (hb:Blk w g 26 cs):PlO (((w.setCell ⟨g,0,none⟩ u0).setCell ⟨g,1,none⟩ u1).setCell ⟨g,2,none⟩ u2) B vn va vf p bl :=
 ((h.far hb (by decide) (by decide) (by decide) (by decide) 0 _).far (hb.set_ 0 _) (by decide) (by decide) (by decide) (by decide) 1 _).far ((hb.set_ 0 _).set_ 1 _) (by decide) (by decide) (by decide) (by decide) 2 _
theorem b3S {w W:World} (h:Below w.heap.size w W) {g:Nat} (hg:w.heap.size≤g) (u0 u1 u2:Value):Below w.heap.size w (((W.setCell ⟨g,0,none⟩ u0).setCell ⟨g,1,none⟩ u1).setCell ⟨g,2,none⟩ u2) :=
 bS (p:=⟨g,2,none⟩) (bS (p:=⟨g,1,none⟩) (bS (p:=⟨g,0,none⟩) h hg _) hg _) hg _
def stT (p:Pl):Option Pl→Pl×Bool×Int
 | none=>(p,false,0)
 | some q=>(q,true,0)
def stR (p:Pl) (tol:Int):Pl×Bool×Int:=if rchkS p≠0 then (pl0,false,rchkS p) else stT p (thinS p tol)
def RetSt (w:World) (r:Pl×Bool×Int) (e:Ending) (w':World):Prop:=∃ v,e=.returned (.tuple #[v,.bool r.2.1,.int .i64 r.2.2])∧Below w.heap.size w w'∧PlV w' v r.1
def smR (p:Pl) (tol:Int):Pl×Int:=if rchkS p≠0 then (pl0,rchkS p) else (simpS p tol,0)
def RetSm (w:World) (r:Pl×Int) (e:Ending) (w':World):Prop:=∃ v,e=.returned (.tuple #[v,.int .i64 r.2])∧Below w.heap.size w w'∧PlV w' v r.1

set_option maxRecDepth 100000 in
set_option maxHeartbeats 8000000 in
theorem Step34_spec (v:Value) (p:Pl) (tol:Int) (w:World) (h:PlV w v p) (hm:Mod34 p) (hf:p.faces.length≤1000000) (hw:∀ a∈p.arcs,wfI a.id):Calls Tryz.prog 19 #[v,.int .i64 tol] w (RetSt w (stR p tol)):=by
 have HC:=Lib.hid (fun W (hW:Below w.heap.size w W)=>RegCheck_spec v p W (h.mono hW))
 have HCl:=Lib.hid (fun W (hW:Below w.heap.size w W)=>SClone_spec v p W (h.mono hW) hm hf)
 obtain ⟨_,_,_,al,rfl,hpa,⟨An,cn,rfl,-⟩,⟨⟨Aa,ca,rfl,-⟩,-⟩,⟨Af,cf,rfl,-⟩⟩:=h
 have hal:al.length=p.arcs.length:=by rw [hpa,List.length_map]
 unfold stR
 by_cases hz:rchkS p=0
 case neg =>
  rw [if_pos hz]
  unfold RetSt
  generalize rchkS p=z at *
  have hzb:(z != 0)=true:=by simpa using hz
  generalize p.nodes.length=nn at *
  generalize p.faces.length=nf at *
  generalize al.length=na at *
  clear hz hpa hal hm hw HCl
  go_enter Tryz.func19,Tryz.ntmps19
  go_upto_region 1 with fail
  obtain ⟨g4,hg4⟩:∃ g,w.heap.size+1=g:=⟨_,rfl⟩
  obtain ⟨W1,hW⟩:∃ W:World,W=(w.alloc (.cells #[.slice An nn cn,.slice Aa na ca,.slice Af nf cf] 26)).alloc (.cells #[.slice none 0 0,.slice none 0 0,.slice none 0 0] 26):=⟨_,rfl⟩
  have X2:Blk W1 w.heap.size 26 #[.slice An nn cn,.slice Aa na ca,.slice Af nf cf]:=by rw [hW];exact (Blk.made rfl _ _).alloc _
  have HX4:=Lib.hid (show Blk W1 g4 26 #[.slice none 0 0,.slice none 0 0,.slice none 0 0] by rw [hW];exact Blk.made (by rw [← hg4];simp) _ _)
  have HB1:=Lib.hid (show Below w.heap.size w W1 by rw [hW];exact bA (bA (bR w) _) _)
  have hgw:w.heap.size≤g4:=by omega
  rw [← hW]
  try rw [hg4]
  clear hW hg4
  obtain ⟨X2l,X2a,X2b,X2c,-,-,-⟩:=X2.facts3
  go_wp2_with fail
  refine (HC.out _ HB1.out).mono ?_
  rintro e w2 ⟨rfl,hb2⟩
  have X4:=HX4.out.keep hb2
  have HB2:=Lib.hid (bT HB1.out hb2)
  clear hb2 X2 X2l X2a X2b X2c
  have HX42:=Lib.hid X4
  obtain ⟨X4l,X4a,X4b,X4c,X4fa,X4fb,X4fc⟩:=X4.facts3
  go_wp2_with fail
  exact res_cell_tmp2 (g:=g4) (cs:=#[.slice none 0 0,.slice none 0 0,.slice none 0 0]) rfl struct_pl rfl rfl (Blk.put3 HX42.out) ⟨_,rfl,bS (p:=⟨g4,2,none⟩) (bS (p:=⟨g4,1,none⟩) (bS (p:=⟨g4,0,none⟩) HB2.out hgw _) hgw _) hgw _,PlV.zero _⟩
 rw [if_neg (by simpa using hz)]
 have hres:=fun B (bl:List (Ar×SV)) (An Aa Af:Option Addr) (cn ca cf:Nat) W (h:PlO W B (.slice An p.nodes.length cn) (.slice Aa p.arcs.length ca) (.slice Af p.faces.length cf) p bl) (hs:SepB bl) (hB:B≤W.heap.size)=>SStep_spec p tol An Aa Af cn ca cf B bl W h hs hB hm hw
 have HSt:=Lib.hid hres
 rw [hz] at HC
 rw [hal] at HC HCl ⊢
 clear hres hz hpa hm hw
 generalize hnn:p.nodes.length=nn at *
 generalize hnf:p.faces.length=nf at *
 generalize hna:p.arcs.length=na at *
 have HNn:=Lib.hid hnn;have HNf:=Lib.hid hnf;have HNa:=Lib.hid hna
 obtain ⟨T,hT⟩:∃ T,thinS p tol=T:=⟨_,rfl⟩
 rw [hT] at HSt ⊢
 obtain ⟨r,hr⟩:∃ r:Pl×Bool×Int,stT p T=r:=⟨_,rfl⟩
 rw [hr]
 have HR:=Lib.hid hr
 clear hnn hnf hna hT hr hal hf
 go_enter Tryz.func19,Tryz.ntmps19
 go_upto_region 1 with fail
 obtain ⟨g4,hg4⟩:∃ g,w.heap.size+1=g:=⟨_,rfl⟩
 obtain ⟨W1,hW⟩:∃ W:World,W=(w.alloc (.cells #[.slice An nn cn,.slice Aa na ca,.slice Af nf cf] 26)).alloc (.cells #[.slice none 0 0,.slice none 0 0,.slice none 0 0] 26):=⟨_,rfl⟩
 have X2:Blk W1 w.heap.size 26 #[.slice An nn cn,.slice Aa na ca,.slice Af nf cf]:=by rw [hW];exact (Blk.made rfl _ _).alloc _
 have HX4:=Lib.hid (show Blk W1 g4 26 #[.slice none 0 0,.slice none 0 0,.slice none 0 0] by rw [hW];exact Blk.made (by rw [← hg4];simp) _ _)
 have HB1:=Lib.hid (show Below w.heap.size w W1 by rw [hW];exact bA (bA (bR w) _) _)
 have hgw:w.heap.size≤g4:=by omega
 rw [← hW]
 try rw [hg4]
 have HX2:=Lib.hid X2
 clear hW hg4
 try clear X2l
 try clear X2a
 try clear X2b
 try clear X2c
 obtain ⟨X2l,X2a,X2b,X2c,-,-,-⟩:=X2.facts3
 go_wp2_with fail
 refine (HC.out _ HB1.out).mono ?_
 rintro e w2 ⟨rfl,hb2⟩
 have HX42:=Lib.hid (HX4.out.keep hb2);have HX22:=Lib.hid (HX2.out.keep hb2)
 have HB2:=Lib.hid (bT HB1.out hb2)
 clear hb2 X2 X2l X2a X2b X2c HX4 HX2 HB1
 have X2:=HX22.out
 try clear X2l
 try clear X2a
 try clear X2b
 try clear X2c
 obtain ⟨X2l,X2a,X2b,X2c,-,-,-⟩:=X2.facts3
 go_upto_region 4 with fail
 go_wp2_with fail
 refine (HCl.out _ HB2.out).mono ?_
 rintro e w3 ⟨An',cn',Aa',ca',Af',cf',bl,rfl,hb3,hpo,hsp⟩
 rw [HNn.out,HNa.out,HNf.out] at hpo ⊢
 have X4:=HX42.out.keep hb3
 have HX43:=Lib.hid X4;have HB3:=Lib.hid (bT HB2.out hb3);have HP3:=Lib.hid (hpo.mono_base (B':=w.heap.size) HB2.out.size);have HS:=Lib.hid hsp
 have hg4w:g4<w2.heap.size:=HX42.out.lt
 clear hb3 hpo hsp X2 X2l X2a X2b X2c HX42 HX22 HB2
 try clear X4l
 try clear X4a
 try clear X4b
 try clear X4c
 try clear X4fa
 try clear X4fb
 try clear X4fc
 obtain ⟨X4l,X4a,X4b,X4c,X4fa,X4fb,X4fc⟩:=X4.facts3
 go_upto_region 5 with fail
 obtain ⟨W4,hW⟩:∃ W:World,W=((w3.setCell ⟨g4,0,none⟩ (.slice An' nn cn')).setCell ⟨g4,1,none⟩ (.slice Aa' na ca')).setCell ⟨g4,2,none⟩ (.slice Af' nf cf'):=⟨_,rfl⟩
 have HX44:=Lib.hid (show Blk W4 g4 26 #[.slice An' nn cn',.slice Aa' na ca',.slice Af' nf cf'] by rw [hW];exact Blk.put3 HX43.out)
 have HP4:=Lib.hid (show PlO W4 w.heap.size (.slice An' nn cn') (.slice Aa' na ca') (.slice Af' nf cf') p bl by
  rw [hW]
  exact ((HP3.out.far HX43.out (by decide) (by decide) (by decide) (by decide) 0 _).far (HX43.out.set_ 0 _) (by decide) (by decide) (by decide) (by decide) 1 _).far ((HX43.out.set_ 0 _).set_ 1 _) (by decide) (by decide) (by decide) (by decide) 2 _)
 have HB4:=Lib.hid (show Below w.heap.size w W4 by rw [hW];exact bS (p:=⟨g4,2,none⟩) (bS (p:=⟨g4,1,none⟩) (bS (p:=⟨g4,0,none⟩) HB3.out hgw _) hgw _) hgw _)
 rw [← hW]
 clear hW X4 X4l X4a X4b X4c X4fa X4fb X4fc HX43 HB3 HP3
 have X4:=HX44.out
 have HCa:=Lib.hid (HSt.out w.heap.size bl An' Aa' Af' cn' ca' cf' W4 HP4.out HS.out HB4.out.size)
 try clear X4l
 try clear X4a
 try clear X4b
 try clear X4c
 try clear X4fa
 try clear X4fb
 try clear X4fc
 obtain ⟨X4l,X4a,X4b,X4c,-,-,-⟩:=X4.facts3
 go_wp2_with fail
 refine HCa.out.mono ?_
 cases T with
 | none =>
  rintro e w5 ⟨rfl,hb5⟩
  have hr:=HR.out
  subst hr
  have HX45:=Lib.hid (HX44.out.keep hb5);have HP5:=Lib.hid (HP4.out.keep hb5);have HB5:=Lib.hid (bT HB4.out hb5)
  clear hb5 X4 X4l X4a X4b X4c HX44 HP4 HB4 HCa
  have X4:=HX45.out
  try clear X4l
  try clear X4a
  try clear X4b
  try clear X4c
  try clear X4fa
  try clear X4fb
  try clear X4fc
  obtain ⟨X4l,X4a,X4b,X4c,X4fa,X4fb,X4fc⟩:=X4.facts3
  go_wp2_with fail
  exact res_cell_tmp2 (g:=g4) (cs:=#[.slice An' nn cn',.slice Aa' na ca',.slice Af' nf cf']) rfl struct_pl rfl rfl (Blk.put3 HX45.out) ⟨_,rfl,b3S HB5.out hgw _ _ _,(HP5.out.put3 HX45.out).plv⟩
 | some q =>
  rintro e w5 ⟨rfl,hb5,hk5,bl5,hp5,-⟩
  have hr:=HR.out
  subst hr
  have HX45:=Lib.hid (hk5 _ _ HX44.out);have HP5:=Lib.hid hp5;have HB5:=Lib.hid (HB4.out.trans hb5)
  clear hb5 hk5 hp5 X4 X4l X4a X4b X4c HX44 HP4 HB4 HCa
  have X4:=HX45.out
  try clear X4l
  try clear X4a
  try clear X4b
  try clear X4c
  try clear X4fa
  try clear X4fb
  try clear X4fc
  obtain ⟨X4l,X4a,X4b,X4c,X4fa,X4fb,X4fc⟩:=X4.facts3
  go_wp2_with fail
  exact res_cell_tmp2 (g:=g4) (cs:=#[.slice An' nn cn',.slice Aa' na ca',.slice Af' nf cf']) rfl struct_pl rfl rfl (Blk.put3 HX45.out) ⟨_,rfl,b3S HB5.out hgw _ _ _,(HP5.out.put3 HX45.out).plv⟩

set_option maxRecDepth 100000 in
set_option maxHeartbeats 8000000 in
theorem Simplify34_spec (v:Value) (p:Pl) (tol:Int) (w:World) (h:PlV w v p) (hm:Mod34 p) (hf:p.faces.length≤1000000) (hw:∀ a∈p.arcs,wfI a.id):Calls Tryz.prog 9 #[v,.int .i64 tol] w (RetSm w (smR p tol)):=by
 have HC:=Lib.hid (fun W (hW:Below w.heap.size w W)=>RegCheck_spec v p W (h.mono hW))
 have HCl:=Lib.hid (fun W (hW:Below w.heap.size w W)=>SClone_spec v p W (h.mono hW) hm hf)
 obtain ⟨_,_,_,al,rfl,hpa,⟨An,cn,rfl,-⟩,⟨⟨Aa,ca,rfl,-⟩,-⟩,⟨Af,cf,rfl,-⟩⟩:=h
 have hal:al.length=p.arcs.length:=by rw [hpa,List.length_map]
 unfold smR
 by_cases hz:rchkS p=0
 case neg =>
  rw [if_pos hz]
  unfold RetSm
  generalize rchkS p=z at *
  have hzb:(z != 0)=true:=by simpa using hz
  generalize p.nodes.length=nn at *
  generalize p.faces.length=nf at *
  generalize al.length=na at *
  clear hz hpa hal hm hw HCl
  go_enter Tryz.func9,Tryz.ntmps9
  go_upto_region 1 with fail
  obtain ⟨g4,hg4⟩:∃ g,w.heap.size+1=g:=⟨_,rfl⟩
  obtain ⟨W1,hW⟩:∃ W:World,W=(w.alloc (.cells #[.slice An nn cn,.slice Aa na ca,.slice Af nf cf] 26)).alloc (.cells #[.slice none 0 0,.slice none 0 0,.slice none 0 0] 26):=⟨_,rfl⟩
  have X2:Blk W1 w.heap.size 26 #[.slice An nn cn,.slice Aa na ca,.slice Af nf cf]:=by rw [hW];exact (Blk.made rfl _ _).alloc _
  have HX4:=Lib.hid (show Blk W1 g4 26 #[.slice none 0 0,.slice none 0 0,.slice none 0 0] by rw [hW];exact Blk.made (by rw [← hg4];simp) _ _)
  have HB1:=Lib.hid (show Below w.heap.size w W1 by rw [hW];exact bA (bA (bR w) _) _)
  have hgw:w.heap.size≤g4:=by omega
  rw [← hW]
  try rw [hg4]
  clear hW hg4
  obtain ⟨X2l,X2a,X2b,X2c,-,-,-⟩:=X2.facts3
  go_wp2_with fail
  refine (HC.out _ HB1.out).mono ?_
  rintro e w2 ⟨rfl,hb2⟩
  have X4:=HX4.out.keep hb2
  have HB2:=Lib.hid (bT HB1.out hb2)
  clear hb2 X2 X2l X2a X2b X2c
  have HX42:=Lib.hid X4
  obtain ⟨X4l,X4a,X4b,X4c,X4fa,X4fb,X4fc⟩:=X4.facts3
  go_wp2_with fail
  exact res_cell_tmp (g:=g4) (cs:=#[.slice none 0 0,.slice none 0 0,.slice none 0 0]) rfl struct_pl rfl rfl (Blk.put3 HX42.out) ⟨_,rfl,b3S HB2.out hgw _ _ _,PlV.zero _⟩
 rw [if_neg (by simpa using hz)]
 have hres:=fun (q:Pl) (hq:Mod34 q) (hqw:∀ a∈q.arcs,wfI a.id) B (bl:List (Ar×SV)) (An Aa Af:Option Addr) (cn ca cf:Nat) W (h:PlO W B (.slice An q.nodes.length cn) (.slice Aa q.arcs.length ca) (.slice Af q.faces.length cf) q bl) (hs:SepB bl) (hB:B≤W.heap.size)=>SStep_spec q tol An Aa Af cn ca cf B bl W h hs hB hq hqw
 have HSt:=Lib.hid hres
 rw [hz] at HC
 rw [hal] at HC HCl ⊢
 have HM:=Lib.hid hm;have HW:=Lib.hid hw
 clear hres hz hpa hm hw
 generalize hnn:p.nodes.length=nn at *
 generalize hnf:p.faces.length=nf at *
 generalize hna:p.arcs.length=na at *
 have HNn:=Lib.hid hnn;have HNf:=Lib.hid hnf;have HNa:=Lib.hid hna
 obtain ⟨R,hR⟩:∃ R,simpS p tol=R:=⟨_,rfl⟩
 rw [hR]
 have HR:=Lib.hid hR
 clear hnn hnf hna hR hal hf
 go_enter Tryz.func9,Tryz.ntmps9
 go_upto_region 1 with fail
 obtain ⟨g4,hg4⟩:∃ g,w.heap.size+1=g:=⟨_,rfl⟩
 obtain ⟨W1,hW⟩:∃ W:World,W=(w.alloc (.cells #[.slice An nn cn,.slice Aa na ca,.slice Af nf cf] 26)).alloc (.cells #[.slice none 0 0,.slice none 0 0,.slice none 0 0] 26):=⟨_,rfl⟩
 have X2:Blk W1 w.heap.size 26 #[.slice An nn cn,.slice Aa na ca,.slice Af nf cf]:=by rw [hW];exact (Blk.made rfl _ _).alloc _
 have HX4:=Lib.hid (show Blk W1 g4 26 #[.slice none 0 0,.slice none 0 0,.slice none 0 0] by rw [hW];exact Blk.made (by rw [← hg4];simp) _ _)
 have HB1:=Lib.hid (show Below w.heap.size w W1 by rw [hW];exact bA (bA (bR w) _) _)
 have hgw:w.heap.size≤g4:=by omega
 rw [← hW]
 try rw [hg4]
 have HX2:=Lib.hid X2
 clear hW hg4
 try clear X2l
 try clear X2a
 try clear X2b
 try clear X2c
 obtain ⟨X2l,X2a,X2b,X2c,-,-,-⟩:=X2.facts3
 go_wp2_with fail
 refine (HC.out _ HB1.out).mono ?_
 rintro e w2 ⟨rfl,hb2⟩
 have HX42:=Lib.hid (HX4.out.keep hb2);have HX22:=Lib.hid (HX2.out.keep hb2)
 have HB2:=Lib.hid (bT HB1.out hb2)
 clear hb2 X2 X2l X2a X2b X2c HX4 HX2 HB1
 have X2:=HX22.out
 try clear X2l
 try clear X2a
 try clear X2b
 try clear X2c
 obtain ⟨X2l,X2a,X2b,X2c,-,-,-⟩:=X2.facts3
 go_upto_region 4 with fail
 go_wp2_with fail
 refine (HCl.out _ HB2.out).mono ?_
 rintro e w3 ⟨An',cn',Aa',ca',Af',cf',bl,rfl,hb3,hpo,hsp⟩
 rw [HNn.out,HNa.out,HNf.out] at hpo ⊢
 have X4:=HX42.out.keep hb3
 have HX43:=Lib.hid X4;have HB3:=Lib.hid (bT HB2.out hb3);have HP3:=Lib.hid (hpo.mono_base (B':=w.heap.size) HB2.out.size);have HS:=Lib.hid hsp
 clear hb3 hpo hsp X2 X2l X2a X2b X2c HX42 HX22 HB2
 try clear X4l
 try clear X4a
 try clear X4b
 try clear X4c
 try clear X4fa
 try clear X4fb
 try clear X4fc
 obtain ⟨X4l,X4a,X4b,X4c,X4fa,X4fb,X4fc⟩:=X4.facts3
 go_upto_block 0 with fail
 obtain ⟨W4,hW⟩:∃ W:World,W=((w3.setCell ⟨g4,0,none⟩ (.slice An' nn cn')).setCell ⟨g4,1,none⟩ (.slice Aa' na ca')).setCell ⟨g4,2,none⟩ (.slice Af' nf cf'):=⟨_,rfl⟩
 have HX44:=Lib.hid (show Blk W4 g4 26 #[.slice An' nn cn',.slice Aa' na ca',.slice Af' nf cf'] by rw [hW];exact Blk.put3 HX43.out)
 have HP4:=Lib.hid (show PlO W4 w.heap.size (.slice An' nn cn') (.slice Aa' na ca') (.slice Af' nf cf') p bl by rw [hW];exact HP3.out.put3 HX43.out)
 have HB4:=Lib.hid (show Below w.heap.size w W4 by rw [hW];exact b3S HB3.out hgw _ _ _)
 rw [← hW]
 clear hW X4 X4l X4a X4b X4c X4fa X4fb X4fc HX43 HB3 HP3
 go_wp2_with fail
 go_loopg [] (totV p.arcs) (fun k wr=>∃ (q:Pl) (bl:List (Ar×SV)),totV q.arcs=k∧simpS q tol=R∧Mod34 q∧(∀ a∈q.arcs,wfI a.id)∧q.nodes.length=nn∧q.arcs.length=na∧q.faces.length=nf∧PlO wr w.heap.size (.slice An' nn cn') (.slice Aa' na ca') (.slice Af' nf cf') q bl∧SepB bl∧Blk wr g4 26 #[.slice An' nn cn',.slice Aa' na ca',.slice Af' nf cf']∧Below w.heap.size w wr)
 case atStart => exact ⟨p,bl,rfl,HR.out,HM.out,HW.out,HNn.out,HNa.out,HNf.out,HP4.out,HS.out,HX44.out,HB4.out⟩
 case round =>
  obtain ⟨q,bq,htot,hsim,hmq,hwq,e1,e2,e3,hpo,hsp,X4,hb⟩:=hrel
  obtain ⟨wo,rfl⟩:∃ wo:World,wo=wr:=⟨_,rfl⟩
  have hca:=HSt.out q hmq hwq w.heap.size bq An' Aa' Af' cn' ca' cf' wo (by rw [e1,e2,e3];exact hpo) hsp hb.size
  rw [e1,e2,e3] at hca
  have HE:=Lib.hid (⟨e1,e2,e3⟩:q.nodes.length=nn∧q.arcs.length=na∧q.faces.length=nf)
  have HPo:=Lib.hid hpo;have HX:=Lib.hid X4;have Hb:=Lib.hid hb;have HSim:=Lib.hid hsim;have HTt:=Lib.hid htot;have HMq:=Lib.hid hmq;have HWq:=Lib.hid hwq
  clear htot hsim hmq hwq e1 e2 e3 hpo hsp hb HX44 HP4 HB4
  cases hT:thinS q tol with
  | none =>
   rw [hT] at hca
   have HCa:=Lib.hid hca
   have HQ:=Lib.hid (show q=R from (simpS_stop hT).symm.trans HSim.out)
   clear hca hT
   try clear X4l
   try clear X4a
   try clear X4b
   try clear X4c
   try clear X4fa
   try clear X4fb
   try clear X4fc
   obtain ⟨X4l,X4a,X4b,X4c,-,-,-⟩:=X4.facts3
   go_wp2_with fail
   refine HCa.out.mono ?_
   rintro e w5 ⟨rfl,hb5⟩
   have HX5:=Lib.hid (HX.out.keep hb5);have HP5:=Lib.hid (HPo.out.keep hb5);have HB5:=Lib.hid (bT Hb.out hb5)
   clear hb5 X4 X4l X4a X4b X4c HX HPo Hb HCa
   have X4:=HX5.out
   try clear X4l
   try clear X4a
   try clear X4b
   try clear X4c
   try clear X4fa
   try clear X4fb
   try clear X4fc
   obtain ⟨X4l,X4a,X4b,X4c,X4fa,X4fb,X4fc⟩:=X4.facts3
   go_wp2_with fail
   exact res_cell_tmp (g:=g4) (cs:=#[.slice An' nn cn',.slice Aa' na ca',.slice Af' nf cf']) rfl struct_pl rfl rfl (Blk.put3 HX5.out) ⟨_,rfl,b3S HB5.out hgw _ _ _,by rw [← HQ.out];exact (HP5.out.put3 HX5.out).plv⟩
  | some q' =>
   rw [hT] at hca
   have HCa:=Lib.hid hca
   have hke:=thin_keeps hT HMq.out HWq.out
   have htt:=thinS_tot hT
   have HQ:=Lib.hid (show simpS q' tol=R from (simpS_next hT).symm.trans HSim.out)
   have HKe:=Lib.hid hke
   have HTq:=Lib.hid (show totV q'.arcs<gk by have:=HTt.out;omega)
   clear hca hT hke htt
   try clear X4l
   try clear X4a
   try clear X4b
   try clear X4c
   try clear X4fa
   try clear X4fb
   try clear X4fc
   obtain ⟨X4l,X4a,X4b,X4c,-,-,-⟩:=X4.facts3
   go_wp2_with fail
   refine HCa.out.mono ?_
   rintro e w5 ⟨rfl,hb5,hk5,bl5,hp5,hs5⟩
   have HX5:=Lib.hid (hk5 _ _ HX.out);have HP5:=Lib.hid hp5;have HS5:=Lib.hid hs5;have HB5:=Lib.hid (Hb.out.trans hb5)
   clear hb5 hk5 hp5 hs5 X4 X4l X4a X4b X4c HX HPo Hb HCa
   go_wp2_with fail
   go_roundg (totV q'.arcs)
   case measure => exact HTq.out
   case rel => exact ⟨q',bl5,rfl,HQ.out,HKe.out.1,HKe.out.2.1,by rw [HKe.out.2.2.1];exact HE.out.1,HKe.out.2.2.2.1.trans HE.out.2.1,by rw [HKe.out.2.2.2.2];exact HE.out.2.2,HP5.out,HS5.out,HX5.out,HB5.out⟩
end Go.Proofs.YtnhdmghgjngcaaaGreat
namespace Go.Proofs.YtnhdmghgjngcaaaGreat
open Go.RowKit

theorem Own.of_blk {α:Type} {w:World} {g n:Nat} {e:TypeId} {cs:Array Value} {base size:Nat} {f:α→List Value} {l:List α} (h:Blk w g e cs) (hb:base≤g) (hn:n=l.length) (hl:(l.flatMap f).length=l.length*size) (hx:cs.toList=l.flatMap f) (hm:n≤maxLen):Own w base e size f (.slice (some ⟨g,0,none⟩) n n) l:=by
 subst hn
 unfold Own
 have hs:cs.size=l.length*size:=by rw [← hl,← hx];simp
 exact ⟨hl,.inr ⟨g,l.length,cs,rfl,hb,h,Nat.le_refl _,hm,hs,by rw [hx,← hl];exact List.take_length⟩⟩

end Go.Proofs.YtnhdmghgjngcaaaGreat
namespace Go.Proofs.YtnhdmghgjngcaaaGreat
open Go.RowKit

def sq3P (ns:List Nd):Pl:=⟨⟨1,⟨0,0⟩⟩::ns,[⟨1,1,1,exVia,1,0⟩],[1]⟩
def sq3R:Pl:=⟨[⟨1,⟨0,0⟩⟩],[⟨1,1,1,[⟨10,10⟩,⟨0,10⟩],1,0⟩],[1]⟩
def ln3P:Pl:=⟨[⟨1,⟨0,0⟩⟩,⟨2,⟨12,0⟩⟩],[⟨3,1,2,[⟨4,1⟩,⟨8,0⟩],0,0⟩],[]⟩
def ln3R:Pl:=⟨[⟨1,⟨0,0⟩⟩,⟨2,⟨12,0⟩⟩],[⟨3,1,2,[⟨4,1⟩],0,0⟩],[]⟩
theorem as_1:smR (sq3P []) 100=(sq3P [],0):=by kernel_rfl
theorem as_2:smR (sq3P []) 101=(sq3R,0):=by kernel_rfl
theorem as_3:leastS (sq3P []) 101=some ⟨1,0,100⟩:=by kernel_rfl
theorem as_4:leastS (sq3P []) 100=none:=by kernel_rfl
theorem as_5:smR ln3P 9=(ln3R,0):=by kernel_rfl
theorem as_6:stR ln3R 9=(ln3R,false,0):=by kernel_rfl
theorem as_7:freeI (sq3P []) 1 2=true:=by kernel_rfl
theorem as_8:freeI (sq3P []) 1 3=false:=by kernel_rfl
theorem as_9:freeI (sq3P [⟨2,⟨7,2⟩⟩]) 1 0=false:=by kernel_rfl
theorem as_10:freeI (sq3P [⟨2,⟨7,2⟩⟩]) 1 2=true:=by kernel_rfl

def RetSq3 (w:World) (ns:List Nd) (e:Ending) (w':World):Prop:=∃ v,e=.returned v∧Below w.heap.size w w'∧PlV w' v (sq3P ns)

set_option maxRecDepth 100000 in
set_option maxHeartbeats 4000000 in
theorem square34_spec (v:Value) (ns:List Nd) (w:World) (h:Nds w v ns) (hl:ns.length≤1000):Calls Tryz.prog 18 #[v] w (RetSq3 w ns):=by
 obtain ⟨A,c,rfl,h1,h2,h3⟩:=id h
 have HN:=Lib.hid h
 clear h h1 h2 h3
 go_enter Tryz.func18,Tryz.ntmps18
 go_wp2_with
  (at_builtin
   go_loud (refine wpList_appl _ rfl (.tmp 4) (.tmp 5) _ rfl (base:=w.heap.size+1) elem_nd ndC_len ndC_one rfl (Own.of_blk (l:=[(⟨1,⟨0,0⟩⟩:Nd)]) (Blk.made (by simp) _ _) (by omega) rfl rfl rfl (le_maxLen (by omega))) rfl (l2:=ns) (HN.out.mono (bA (bA (bR w) _) _)) (by simp only [List.length_cons,List.length_nil];omega) (by simp only [List.length_cons,List.length_nil];omega) (by simp) ?_)
   intro v5 w5 ho5 hg5 hat5
   (have hs5:Nds w5 v5 (⟨1,⟨0,0⟩⟩::ns):=Own.sl ho5)
   go_loud (obtain ⟨A5,c5,rfl,-,-,-⟩:=id hs5)
   (have HS5:=Lib.hid hs5)
   (have HX2:=Lib.hid (Blk.grown (((Blk.made rfl _ _:Blk (w.alloc (.cells #[.slice none 0 0,.slice none 0 0,.slice none 0 0] 26)) w.heap.size 26 #[.slice none 0 0,.slice none 0 0,.slice none 0 0])).alloc (.cells #[.int .i64 1,.int .i64 0,.int .i64 0] 38)) hg5 (fun e=>by have h0:w.heap.size=w.heap.size+1:=Option.some.inj e;omega)))
   (have HB5:=Lib.hid (show Below w.heap.size w w5 from bG (bA (bA (bR w) _) _) hg5 (fun g hk=>by have h0:w.heap.size+1=g:=Option.some.inj hk;omega)))
   have HO5:=Lib.hid (show Own w5 (w.heap.size+1) 38 3 ndC (.slice A5 (ns.length+1) c5) (⟨1,⟨0,0⟩⟩::ns) from ho5)
   clear ho5 hg5 hat5 hs5
   have X2:=((HX2.out.alloc (.cells #[.int .i64 10,.int .i64 0,.int .i64 10,.int .i64 10,.int .i64 0,.int .i64 10] 36)).alloc (.cells #[.int .i64 1,.int .i64 1,.int .i64 1,.slice (some ⟨w5.heap.size,0,none⟩) 3 3,.int .i64 1,.int .i64 0] 41)).alloc (.cells #[.int .i64 1] 3)
   obtain ⟨X2l,X2a,X2b,X2c,X2fa,X2fb,X2fc⟩:=X2.facts3
   clear X2)
 obtain ⟨W8,hW⟩:∃ W:World,W=((w5.alloc (.cells #[.int .i64 10,.int .i64 0,.int .i64 10,.int .i64 10,.int .i64 0,.int .i64 10] 36)).alloc (.cells #[.int .i64 1,.int .i64 1,.int .i64 1,.slice (some ⟨w5.heap.size,0,none⟩) 3 3,.int .i64 1,.int .i64 0] 41)).alloc (.cells #[.int .i64 1] 3):=⟨_,rfl⟩
 have hx:=HX2.out.lt
 have Y2:Blk W8 w.heap.size 26 #[.slice none 0 0,.slice none 0 0,.slice none 0 0]:=by rw [hW];exact ((HX2.out.alloc _).alloc _).alloc _
 have YV:Blk W8 w5.heap.size 36 exVs:=by rw [hW];exact ((Blk.made rfl _ _).alloc _).alloc _
 have YA:Blk W8 (w5.heap.size+1) 41 (exAr w5.heap.size 3 3 1):=by rw [hW];exact (Blk.made (by simp) _ _).alloc _
 have YF:Blk W8 (w5.heap.size+1+1) 3 #[.int .i64 1]:=by rw [hW];exact Blk.made (by simp) _ _
 have YO:Own W8 (w.heap.size+1) 38 3 ndC (.slice A5 (ns.length+1) c5) (⟨1,⟨0,0⟩⟩::ns):=by rw [hW];exact ((HO5.out.alloc _).alloc _).alloc _
 have YB:Below w.heap.size w W8:=by rw [hW];exact bA (bA (bA HB5.out _) _) _
 rw [← hW]
 clear hW
 have ne0:(Value.slice A5 (ns.length+1) c5).ownBlock≠some w.heap.size:=fun e=>by have:=(YO.lt _ e).1;omega
 have n1:w5.heap.size≠w.heap.size:=by omega
 have n2:w5.heap.size+1≠w.heap.size:=by omega
 have n3:w5.heap.size+1+1≠w.heap.size:=by omega
 refine res_cell (g:=w.heap.size) (cs:=#[.slice A5 (ns.length+1) c5,.slice (some ⟨w5.heap.size+1,0,none⟩) 1 1,.slice (some ⟨w5.heap.size+1+1,0,none⟩) 1 1]) rfl struct_pl rfl rfl (Blk.put3 Y2) ⟨_,rfl,?_,?_⟩
 · exact bS (bS (bS YB (p:=⟨w.heap.size,0,none⟩) (Nat.le_refl _) _) (p:=⟨w.heap.size,1,none⟩) (Nat.le_refl _) _) (p:=⟨w.heap.size,2,none⟩) (Nat.le_refl _) _
 · exact PlV.ex (v:=w5.heap.size) (n:=3) (c:=3) (Own.sl (((YO.far (p:=⟨w.heap.size,0,none⟩) ne0 _).far (p:=⟨w.heap.size,1,none⟩) ne0 _).far (p:=⟨w.heap.size,2,none⟩) ne0 _)) (((YA.far (p:=⟨w.heap.size,0,none⟩) n2 _).far (p:=⟨w.heap.size,1,none⟩) n2 _).far (p:=⟨w.heap.size,2,none⟩) n2 _) (exVs_pts (((YV.far (p:=⟨w.heap.size,0,none⟩) n1 _).far (p:=⟨w.heap.size,1,none⟩) n1 _).far (p:=⟨w.heap.size,2,none⟩) n1 _)) (((YF.far (p:=⟨w.heap.size,0,none⟩) n3 _).far (p:=⟨w.heap.size,1,none⟩) n3 _).far (p:=⟨w.heap.size,2,none⟩) n3 _)
end Go.Proofs.YtnhdmghgjngcaaaGreat
namespace Go.Proofs.YtnhdmghgjngcaaaGreat
open Go.RowKit

set_option maxRecDepth 100000 in
set_option maxHeartbeats 8000000 in
theorem RSame14_true (v u:Value) (p:Pl) (w:World) (h:PlV w v p) (h':PlV w u p):Calls Tryz.prog 10 #[v,u] w fun e w'=>e=.returned (.bool true)∧Below w.heap.size w w':=by
 obtain ⟨_,_,_,al,rfl,hpa,⟨An,cn,rfl,hn1,hn2,hRn⟩,⟨⟨Aa,ca,rfl,ha1,ha2,hRa⟩,hV⟩,⟨Af,cf,rfl,hf1,hf2,hRf⟩⟩:=h
 obtain ⟨_,_,_,bl,rfl,hpb,⟨Bn,dn,rfl,-,-,hSn⟩,⟨⟨Ba,da,rfl,-,-,hSa⟩,hU⟩,⟨Bf,df,rfl,-,-,hSf⟩⟩:=h'
 have hll:bl.length=al.length:=by have:=congrArg List.length (hpa.symm.trans hpb);simpa using this.symm
 have HAt:=Lib.hid (fun k (h1:k<al.length) (h2:k<bl.length)=>show al[k].1=bl[k].1 from by
  have e1:(al.map (·.1))[k]'(by simpa using h1)=al[k].1:=by rw [List.getElem_map]
  have e2:(bl.map (·.1))[k]'(by simpa using h2)=bl[k].1:=by rw [List.getElem_map]
  rw [← e1,← e2]
  congr 1
  exact hpa.symm.trans hpb)
 have HRn:=Lib.hid hRn;have HRa:=Lib.hid hRa;have HRf:=Lib.hid hRf;have HSn:=Lib.hid hSn;have HSa:=Lib.hid hSa;have HSf:=Lib.hid hSf;have HV:=Lib.hid hV;have HU:=Lib.hid hU;have HLl:=Lib.hid hll
 unfold maxLen at hn2 ha2 hf2
 rw [hll]
 obtain ⟨L,hL⟩:∃ L,p.nodes=L:=⟨_,rfl⟩
 obtain ⟨F,hF⟩:∃ F,p.faces=F:=⟨_,rfl⟩
 rw [hL] at hn1 HRn HSn ⊢
 rw [hF] at hf1 HRf HSf ⊢
 have hb1:L.length≤9223372036854775807:=by omega
 have hb2:al.length≤9223372036854775807:=by omega
 have hb3:F.length≤9223372036854775807:=by omega
 clear hRn hRa hRf hSn hSa hSf hV hU hpa hpb hll hL hF hn1 hn2 ha1 ha2 hf1 hf2
 go_enter Tryz.func10,Tryz.ntmps10
 go_upto_region 1 with fail
 obtain ⟨W1,hW⟩:∃ W:World,W=(w.alloc (.cells #[.slice An L.length cn,.slice Aa al.length ca,.slice Af F.length cf] 26)).alloc (.cells #[.slice Bn L.length dn,.slice Ba al.length da,.slice Bf F.length df] 26):=⟨_,rfl⟩
 have X2:Blk W1 w.heap.size 26 #[.slice An L.length cn,.slice Aa al.length ca,.slice Af F.length cf]:=by rw [hW];exact (Blk.made rfl _ _).alloc _
 have X3:Blk W1 (w.heap.size+1) 26 #[.slice Bn L.length dn,.slice Ba al.length da,.slice Bf F.length df]:=by rw [hW];exact Blk.made (by simp) _ _
 have HB1:=Lib.hid (show Below w.heap.size w W1 by rw [hW];exact bA (bA (bR w) _) _)
 rw [← hW]
 clear hW
 have HX2:=Lib.hid X2;have HX3:=Lib.hid X3
 obtain ⟨X2l,X2a,X2b,X2c,-,-,-⟩:=X2.facts3
 obtain ⟨X3l,X3a,X3b,X3c,-,-,-⟩:=X3.facts3
 go_wp2_with fail
 go_loopw [5] (fun u wr=>∃ k:Nat,k≤L.length∧u=.int .i64 k∧Below W1.heap.size W1 wr) (fun u _=>L.length-(intOf u).toNat)
 case atStart => exact ⟨0,Nat.zero_le _,rfl,bR W1⟩
 case round =>
  obtain ⟨k,hk,rfl,hb⟩:=hrel
  obtain ⟨wo,rfl⟩:∃ wo:World,wo=wr:=⟨_,rfl⟩
  have Hb:=Lib.hid hb
  clear hb X2 X2l X2a X2b X2c X3 X3l X3a X3b X3c
  have X2:=HX2.out.keep Hb.out;have X3:=HX3.out.keep Hb.out
  try clear X2l
  try clear X2a
  try clear X2b
  try clear X2c
  obtain ⟨X2l,X2a,X2b,X2c,-,-,-⟩:=X2.facts3
  try clear X3l
  try clear X3a
  try clear X3b
  try clear X3c
  obtain ⟨X3l,X3a,X3b,X3c,-,-,-⟩:=X3.facts3
  by_cases hlt:k<L.length
  ·
   obtain ⟨b,o,rfl,hlb,c0,c1,c2⟩:=(HRn.out.mono (bT HB1.out Hb.out)).nd hlt
   obtain ⟨b',o',rfl,hlb',d0,d1,d2⟩:=(HSn.out.mono (bT HB1.out Hb.out)).nd hlt
   generalize L[k]=n at *
   have hE:=run_neq_nd n n
   have ht:(!decide (n=n))=false:=by simp
   rw [ht] at hE
   clear ht
   have k1:(k:Int)<L.length:=by omega
   have k2:0≤(k:Int):=by omega
   go_upto_region 6 with fail
   refine rg_start (Since wo) (.run 11 0 0 (.done)) (by kernel_rfl) (bD (bR _)) (by kernel_rfl) (by kernel_rfl) (Nat.le_of_ble_eq_true (by kernel_rfl)) ?_
   intro opsR QR Hops HQrg hS
   iterate 11
    apply rg_p;exact Hops;exact rfl;exact hS;exact rfl
    · intro _ hqc;go_simp;try rfl
    try simp only [pu]
   refine rg_done ?_
   refine HQrg.down _ _ ?_
   have hB:Below wo.heap.size wo wo.drew:=hS
   clear hS HQrg Hops
   have HB4:=Lib.hid (bT Hb.out hB)
   clear hB X2 X2l X2a X2b X2c X3 X3l X3a X3b X3c c0 c1 c2 d0 d1 d2 hE
   go_wp2_with fail
   go_roundw
   case rel => exact ⟨k+1,by omega,by go_num,HB4.out⟩
   case measure => simp [intOf];omega
  ·
   have k1:¬ (k:Int)<L.length:=by omega
   clear hlt
   go_wp2_with fail
   go_loopw [6] (fun u wr=>∃ k:Nat,k≤al.length∧u=.int .i64 k∧Below W1.heap.size W1 wr) (fun u _=>al.length-(intOf u).toNat)
   case atStart => exact ⟨0,Nat.zero_le _,rfl,Hb.out⟩
   case round =>
    obtain ⟨j,hj,rfl,hb⟩:=hrel
    obtain ⟨wi,rfl⟩:∃ wi:World,wi=wr:=⟨_,rfl⟩
    have Hb2:=Lib.hid hb
    clear hb X2 X2l X2a X2b X2c X3 X3l X3a X3b X3c
    have X2:=HX2.out.keep Hb2.out;have X3:=HX3.out.keep Hb2.out
    try clear X2l
    try clear X2a
    try clear X2b
    try clear X2c
    obtain ⟨X2l,X2a,X2b,X2c,-,-,-⟩:=X2.facts3
    try clear X3l
    try clear X3a
    try clear X3b
    try clear X3c
    obtain ⟨X3l,X3a,X3b,X3c,-,-,-⟩:=X3.facts3
    by_cases hlt:j<al.length
    ·
     have hlt':j<bl.length:=by rw [HLl.out];exact hlt
     obtain ⟨b,o,rfl,hlb,c0,c1,c2,c3,c4,c5⟩:=(HRa.out.mono (bT HB1.out Hb2.out)).ar hlt
     obtain ⟨b',o',rfl,hlb',d0,d1,d2,d3,d4,d5⟩:=(HSa.out.mono (bT HB1.out Hb2.out)).ar hlt'
     have v1:=HV.out j hlt;have v2:=HU.out j hlt'
     obtain ⟨Av,cv,hva,-⟩:=id v1
     obtain ⟨Au,cu,hua,-⟩:=id v2
     have hh:=HAt.out j hlt hlt'
     rw [← hh] at d0 d1 d2 d4 d5 hua v2
     rw [hva] at c3 v1
     rw [hua] at d3 v2
     generalize al[j].1=a at *
     have HS:=Lib.hid (fun W (hW:Below w.heap.size w W)=>show Calls Tryz.prog 14 #[arV a (.slice Av a.via.length cv),arV a (.slice Au a.via.length cu)] W fun e w'=>e=.returned (.bool true)∧Below W.heap.size W w' from by
      have t:=SameArc_spec a a _ _ W (v1.mono hW) (v2.mono hW)
      rw [decide_eq_true rfl] at t
      exact t)
     unfold arV at HS
     have k1:(j:Int)<al.length:=by omega
     have k2:0≤(j:Int):=by omega
     clear v1 v2 hva hua hh
     go_upto_region 11 with fail
     refine rg_start (Since wi) (.run 10 0 0 (.call 10 2047 (.take 11 4095 (.done)))) (by kernel_rfl) (bD (bR _)) (by kernel_rfl) (by kernel_rfl) (Nat.le_of_ble_eq_true (by kernel_rfl)) ?_
     intro opsR QR Hops HQrg hS
     iterate 10
      apply rg_p;exact Hops;exact rfl;exact hS;exact rfl
      · intro _ hqc;go_simp;try rfl
      try simp only [pu]
     refine rg_call (i:=10) (get_of Hops rfl) (fun K hK=>?_)
     have HSrg:=Lib.hid hS;clear hS
     refine rg_run (wanted_plain rfl) ?_
     go_simp
     refine (HS.out _ (bT (bT HB1.out Hb2.out) (bD (bR wi)))).mono ?_
     rintro e wr1 ⟨rfl,hbr1⟩
     have hS:Since wi wr1:=bT (w:=wi) HSrg.out hbr1
     clear HSrg
     refine hK.out _ _ hS (fun _=>?_)
     clear hK K
     try simp only [pu]
     apply rg_p;exact Hops;exact rfl;exact hS;exact rfl
     · intro _ hqc;go_simp;try rfl
     try simp only [pu]
     refine rg_done ?_
     refine HQrg.down _ _ ?_
     have hB:Below wi.heap.size wi wr1:=hS
     clear hS HQrg Hops
     have HB4:=Lib.hid (bT Hb2.out hB)
     clear hB X2 X2l X2a X2b X2c X3 X3l X3a X3b X3c c0 c1 c2 c3 c4 c5 d0 d1 d2 d3 d4 d5
     go_wp2_with fail
     go_roundw
     case rel => exact ⟨j+1,by omega,by go_num,HB4.out⟩
     case measure => simp [intOf];omega
    ·
     have k3:¬ (j:Int)<al.length:=by omega
     clear hlt
     go_wp2_with fail
     go_loopw [7] (fun u wr=>∃ k:Nat,k≤F.length∧u=.int .i64 k∧Below W1.heap.size W1 wr) (fun u _=>F.length-(intOf u).toNat)
     case atStart => exact ⟨0,Nat.zero_le _,rfl,Hb2.out⟩
     case round =>
      obtain ⟨i,hi,rfl,hb⟩:=hrel
      obtain ⟨wf,rfl⟩:∃ wf:World,wf=wr:=⟨_,rfl⟩
      have Hb3:=Lib.hid hb
      clear hb X2 X2l X2a X2b X2c X3 X3l X3a X3b X3c
      have X2:=HX2.out.keep Hb3.out;have X3:=HX3.out.keep Hb3.out
      try clear X2l
      try clear X2a
      try clear X2b
      try clear X2c
      obtain ⟨X2l,X2a,X2b,X2c,-,-,-⟩:=X2.facts3
      try clear X3l
      try clear X3a
      try clear X3b
      try clear X3c
      obtain ⟨X3l,X3a,X3b,X3c,-,-,-⟩:=X3.facts3
      by_cases hlt:i<F.length
      ·
       obtain ⟨b,o,rfl,hlb,c0⟩:=(HRf.out.mono (bT HB1.out Hb3.out)).int hlt
       obtain ⟨b',o',rfl,hlb',d0⟩:=(HSf.out.mono (bT HB1.out Hb3.out)).int hlt
       generalize F[i]=x at *
       have k4:(i:Int)<F.length:=by omega
       have k5:0≤(i:Int):=by omega
       go_upto_region 16 with fail
       refine rg_start (Since wf) (.run 11 0 0 (.done)) (by kernel_rfl) (bD (bR _)) (by kernel_rfl) (by kernel_rfl) (Nat.le_of_ble_eq_true (by kernel_rfl)) ?_
       intro opsR QR Hops HQrg hS
       iterate 11
        apply rg_p;exact Hops;exact rfl;exact hS;exact rfl
        · intro _ hqc;go_simp;try rfl
        try simp only [pu]
       refine rg_done ?_
       refine HQrg.down _ _ ?_
       have hB:Below wf.heap.size wf wf.drew:=hS
       clear hS HQrg Hops
       have HB4:=Lib.hid (bT Hb3.out hB)
       clear hB X2 X2l X2a X2b X2c X3 X3l X3a X3b X3c c0 d0
       go_wp2_with fail
       go_roundw
       case rel => exact ⟨i+1,by omega,by go_num,HB4.out⟩
       case measure => simp [intOf];omega
      ·
       have k4:¬ (i:Int)<F.length:=by omega
       go_wp2_with fail
       go_ret
       exact ⟨rfl,bT HB1.out Hb3.out⟩
end Go.Proofs.YtnhdmghgjngcaaaGreat
