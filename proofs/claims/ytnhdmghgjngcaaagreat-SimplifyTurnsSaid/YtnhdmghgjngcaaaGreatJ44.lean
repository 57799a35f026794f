import Derived.Test.YtnhdmghgjngcaaaGreatJ04
import Derived.Test.YtnhdmghgjngcaaaGreatJ09
import Derived.Test.YtnhdmghgjngcaaaGreatJ33
import Derived.Test.YtnhdmghgjngcaaaGreatJ40
import Derived.Test.YtnhdmghgjngcaaaGreatJ42
import Derived.Test.YtnhdmghgjngcaaaGreatGB
import Derived.Test.YtnhdmghgjngcaaaGreatJ41
import Derived.Test.YtnhdmghgjngcaaaGreatJ19
set_option linter.unusedSimpArgs false
set_option linter.unusedVariables false
namespace Go.Proofs.YtnhdmghgjngcaaaGreat
open Go.RowKit

def RetPlan (w:World) (p:Pl) (e:Ending) (w':World):Prop:=∃ v,e=.returned v∧Below w.heap.size w w'∧PlV w' v p

theorem Row.as_ {w:World} {A:Option Addr} {l:List (Ar×SV)} (h:Row w A (l.flatMap arS)) {k:Nat} (hk:k<l.length) :
  ∃ b o,A=some ⟨b,o,none⟩∧b<w.heap.size∧w.cell? ⟨b,o+k*6,none⟩=some (.int .i64 l[k].1.id)∧w.cell? ⟨b,o+k*6+1,none⟩=some (.int .i64 l[k].1.fr)∧w.cell? ⟨b,o+k*6+2,none⟩=some (.int .i64 l[k].1.dst) ∧
   w.cell? ⟨b,o+k*6+3,none⟩=some (.slice l[k].2.a l[k].2.n l[k].2.c)∧w.cell? ⟨b,o+k*6+4,none⟩=some (.int .i64 l[k].1.left)∧w.cell? ⟨b,o+k*6+5,none⟩=some (.int .i64 l[k].1.right):=by
 obtain ⟨b,o,hA,hb,hc⟩:=h.at_ (n:=6) (fun _=>rfl) hk (by omega)
 exact ⟨b,o,hA,hb,hc 0 _ rfl,hc 1 _ rfl,hc 2 _ rfl,hc 3 _ rfl,hc 4 _ rfl,hc 5 _ rfl⟩
theorem Own.belowB {α:Type} {w w':World} {base B:Nat} {e:TypeId} {size:Nat} {f:α→List Value} {v:Value} {l:List α} (h:Own w base e size f v l) (hb:Below B w w') (hr:∀ g,v.ownBlock=some g→g<B):Own w' base e size f v l:=by
 obtain ⟨h1,h2⟩:=h
 refine ⟨h1,?_⟩
 rcases h2 with h2 | ⟨g,cap,cur,hv,hg,hh,r⟩
 · exact .inl h2
 ·
  subst hv
  exact .inr ⟨g,cap,cur,rfl,hg,(hb.block g (hr g rfl)).trans hh,r⟩
end Go.Proofs.YtnhdmghgjngcaaaGreat
namespace Go.Proofs.YtnhdmghgjngcaaaGreat
open Go.RowKit

def bd20 (q:Pt):Prop:=-1048576≤q.x∧q.x≤1048576∧-1048576≤q.y∧q.y≤1048576
def bd22 (q:Pt):Prop:=-4194304≤q.x∧q.x≤4194304∧-4194304≤q.y∧q.y≤4194304
set_option maxRecDepth 100000 in
set_option maxHeartbeats 2000000 in
theorem mapped_spec (q d:Pt) (t:Bool) (w:World) (hq:bd20 q) (hd:bd22 d) :
  Calls Tryz.prog 52 #[ptV q,ptV d,.bool t] w fun e w'=>e=.returned (ptV (mvPt d t q))∧Below w.heap.size w w':=by
 obtain ⟨q1,q2,q3,q4⟩:=hq
 obtain ⟨d1,d2,d3,d4⟩:=hd
 unfold ptV mvPt
 cases t
 ·
  go_enter Tryz.func52,Tryz.ntmps52
  go_wp2_with fail
  refine res_cell (t:=36) (g:=w.heap.size+1+1) (cs:=#[.int .i64 (q.x+d.x),.int .i64 (q.y+d.y)]) rfl struct_pt rfl rfl ?_ ⟨rfl,?_⟩
  · exact Blk.made (by simp) _ _
  · exact bA (bA (bA (bR w) _) _) _
 ·
  go_enter Tryz.func52,Tryz.ntmps52
  go_wp2_with fail
  all_goals
   refine res_cell (t:=36) (g:=w.heap.size+1+1) (cs:=#[.int .i64 (-q.y+d.x),.int .i64 (q.x+d.y)]) rfl struct_pt rfl rfl ?_ ⟨rfl,?_⟩
   · exact Blk.made (by simp) _ _
   · exact bA (bA (bA (bR w) _) _) _

set_option maxRecDepth 100000 in
set_option maxHeartbeats 8000000 in
theorem Mapped_spec (v:Value) (p:Pl) (d:Pt) (t:Bool) (w:World) (h:PlV w v p) (hqn:∀ n∈p.nodes,bd20 n.pt) (hqa:∀ a∈p.arcs,∀ q∈a.via,bd20 q) (hd:bd22 d) (hln:p.nodes.length≤1000) (hla:p.arcs.length≤1000) (hlv:∀ a∈p.arcs,a.via.length≤1000) :
  Calls Tryz.prog 29 #[v,ptV d,.bool t] w (RetPlan w (mvPl d t p)):=by
 obtain ⟨_,_,_,al,rfl,hpa,hN,⟨⟨Aa,ca,rfl,ha1,ha2,hRa⟩,hV⟩,hF⟩:=h
 obtain ⟨bl,rfl⟩:=hV.sv
 have HF:=Lib.hid hF
 obtain ⟨An,cn,rfl,hn1,hn2,hRn⟩:=hN
 obtain ⟨Af,cf,rfl,hf1,hf2,-⟩:=hF
 have hres:p.arcs=bl.map (·.1):=by rw [hpa,List.map_map];rfl
 have hbl:bl.length≤1000:=by rw [hres,List.length_map] at hla;exact hla
 rw [List.length_map] at ha1
 rw [arS_flat] at hRa
 have HVk:Hid (∀ k (hk:k<bl.length),Pts w (.slice bl[k].2.a bl[k].2.n bl[k].2.c) bl[k].1.via):=Lib.hid fun k hk=>by
  have:=hV k (by simpa using hk)
  simpa [svA] using this
 have hmem:∀ k (hk:k<bl.length),bl[k].1∈p.arcs:=fun k hk=>by rw [hres];exact List.mem_map_of_mem (List.getElem_mem hk)
 have HQv:Hid (∀ k (hk:k<bl.length),bl[k].1.via.length≤1000∧∀ q∈bl[k].1.via,bd20 q):=Lib.hid fun k hk=>⟨hlv _ (hmem k hk),hqa _ (hmem k hk)⟩
 have HQn:Hid (∀ k (hk:k<p.nodes.length),bd20 p.nodes[k].pt):=Lib.hid fun k hk=>hqn _ (List.getElem_mem hk)
 have Hres:=Lib.hid hres
 have HRa:Hid (Row w Aa (bl.flatMap arS)):=Lib.hid hRa
 have HRn:Hid (Row w An (p.nodes.flatMap ndC)):=Lib.hid hRn
 have TM:Hid (∀ q:Pt,bd20 q→∀ W,Calls Tryz.prog 52 #[.agg #[.int .i64 q.x,.int .i64 q.y],.agg #[.int .i64 d.x,.int .i64 d.y],.bool t] W fun e w'=>e=.returned (.agg #[.int .i64 (mvPt d t q).x,.int .i64 (mvPt d t q).y])∧Below W.heap.size W w'):=Lib.hid fun q hq W=>mapped_spec q d t W hq hd
 rw [List.length_map] at *
 unfold maxLen at ha2 hn2 hf2
 unfold ptV
 clear hV hres hRa hRn hpa hmem hqn hqa hd hla hlv
 generalize hmp:mvPl d t p=mp at *
 have Hmp:=Lib.hid hmp
 clear hmp
 generalize hNl:p.nodes=nl at *
 have HNl:=Lib.hid hNl
 clear hNl
 go_enter Tryz.func29,Tryz.ntmps29
 go_wp2_with fail
 obtain ⟨W7,hW7⟩:∃ W7:World,W7=(((w.alloc (.cells #[.slice An nl.length cn,.slice Aa bl.length ca,.slice Af p.faces.length cf] 26)).alloc (.cells #[.int .i64 d.x,.int .i64 d.y] 36)).alloc (.cells #[.slice none 0 0,.slice none 0 0,.slice none 0 0] 26)).alloc (.cells #[.slice none 0 0,.slice none 0 0,.slice Af p.faces.length cf] 26):=⟨_,rfl⟩
 have hB7:Below w.heap.size w W7:=by rw [hW7];exact bA (bA (bA (bA (bR w) _) _) _) _
 have hs7:W7.heap.size=w.heap.size+4:=by rw [hW7];simp
 have X3:Blk W7 w.heap.size 26 #[.slice An nl.length cn,.slice Aa bl.length ca,.slice Af p.faces.length cf]:=by rw [hW7];exact (((Blk.made rfl _ _).alloc _).alloc _).alloc _
 have X4:Blk W7 (w.heap.size+1) 36 #[.int .i64 d.x,.int .i64 d.y]:=by rw [hW7];exact ((Blk.made (by simp) _ _).alloc _).alloc _
 have X6:Blk W7 (w.heap.size+1+1) 26 #[.slice none 0 0,.slice none 0 0,.slice none 0 0]:=by rw [hW7];exact (Blk.made (by simp) _ _).alloc _
 have X7:Blk W7 (w.heap.size+1+1+1) 26 #[.slice none 0 0,.slice none 0 0,.slice Af p.faces.length cf]:=by rw [hW7];exact Blk.made (by simp) _ _
 rw [← hW7]
 obtain ⟨g7,hg7⟩:∃ g7,g7=w.heap.size+1+1+1:=⟨_,rfl⟩
 rw [← hg7]
 rw [← hg7] at X7
 have HX3:=Lib.hid X3;have HX4:=Lib.hid X4;have HX6:=Lib.hid X6;have HX7:=Lib.hid X7;have HB7:=Lib.hid hB7
 have hgw:w.heap.size+3≤g7∧g7≤w.heap.size+3∧W7.heap.size≤g7+1∧g7+1≤W7.heap.size:=by omega
 obtain ⟨hgw1,hgw2,hgw3,hgw4⟩:=hgw
 clear hW7 hB7 hs7 X3 X4 X6 X7 hg7
 go_loopw [8] (fun u wr=>∃ (k:Nat) (A:Option Addr) (c:Nat),k≤nl.length∧u=.int .i64 k∧Blk wr g7 26 #[.slice A k c,.slice none 0 0,.slice Af p.faces.length cf]∧Own wr (g7+1) 38 3 ndC (.slice A k c) ((nl.take k).map (mvNd d t))∧Below g7 W7 wr) (fun u _=>nl.length-(intOf u).toNat)
 case atStart => exact ⟨0,none,0,Nat.zero_le _,rfl,HX7.out,Own.nil _ _ _ _ _,Below.refl _ _⟩
 case round =>
  obtain ⟨k,A,c,hk,rfl,hx7,ho7,hb⟩:=hrel
  have Hb:=Lib.hid hb
  have hsz:=hb.size
  have Hx7:=Lib.hid hx7
  have Ho7:=Lib.hid ho7
  have HBw:=Lib.hid (show Below w.heap.size w wr from HB7.out.trans (hb.mono (by omega)))
  have X3:=HX3.out.below hb (by omega)
  have X4:=HX4.out.below hb (by omega)
  clear hb hx7 ho7
  obtain ⟨X3l,X3a,X3b,X3c,-,-,-⟩:=X3.facts3
  by_cases hlt:k<nl.length
  case pos =>
   obtain ⟨b,o,rfl,hlb,c0,c1,c2⟩:=(HRn.out.mono HBw.out).nd hlt
   have X4':=X4
   try clear X4'l
   try clear X4'a
   try clear X4'b
   try clear X4'fa
   try clear X4'fb
   obtain ⟨X4'l,X4'a,X4'b,-,-⟩:=X4'.facts2
   go_wp2_with fail
   refine (TM.out nl[k].pt (HQn.out k hlt) _).mono ?_
   rintro e w5 ⟨rfl,hb5⟩
   have X9:Blk w5 wr.heap.size 38 #[.int .i64 nl[k].id,.int .i64 nl[k].pt.x,.int .i64 nl[k].pt.y]:=(Blk.made rfl _ _).keep hb5
   have hA5:Below wr.heap.size wr w5:=bT (bA (bR wr) _) hb5
   have Y7:=Hx7.out.keep hA5
   have O7:=Ho7.out.keep hA5
   clear hb5 c0 c1 c2 hlb X3 X3l X3a X3b X3c X4 X4' X4'l X4'a X4'b
   obtain ⟨X9l,X9a,X9b,X9c,X9fa,X9fb,X9fc⟩:=X9.facts3
   go_upto_region 7 with fail
   obtain ⟨W6,hW6⟩:∃ W6:World,W6=(w5.setCell ⟨wr.heap.size,1,none⟩ (.int .i64 (mvPt d t nl[k].pt).x)).setCell ⟨wr.heap.size,2,none⟩ (.int .i64 (mvPt d t nl[k].pt).y):=⟨_,rfl⟩
   have hg7r:g7<wr.heap.size:=Hx7.out.lt
   have hne7:¬ g7=wr.heap.size:=by omega
   have X9':Blk W6 wr.heap.size 38 #[.int .i64 nl[k].id,.int .i64 (mvPt d t nl[k].pt).x,.int .i64 (mvPt d t nl[k].pt).y]:=by
    rw [hW6]
    have h:=Blk.set_ (Blk.set_ X9 1 (.int .i64 (mvPt d t nl[k].pt).x)) 2 (.int .i64 (mvPt d t nl[k].pt).y)
    simpa using h
   have Y7':Blk W6 g7 26 #[.slice A k c,.slice none 0 0,.slice Af p.faces.length cf]:=by rw [hW6];exact (Y7.far (p:=⟨wr.heap.size,1,none⟩) hne7 _).far (p:=⟨wr.heap.size,2,none⟩) hne7 _
   have hown7:∀ g,(Value.slice A k c).ownBlock=some g→g<wr.heap.size:=fun g e=>(Ho7.out.lt g e).2
   have O7':Own W6 (g7+1) 38 3 ndC (.slice A k c) ((nl.take k).map (mvNd d t)):=by rw [hW6];exact (O7.far (p:=⟨wr.heap.size,1,none⟩) (fun e=>by have:=hown7 _ e;simp at this) _).far (p:=⟨wr.heap.size,2,none⟩) (fun e=>by have:=hown7 _ e;simp at this) _
   have hB6:Below g7 W7 W6:=by rw [hW6];exact ((Hb.out.trans (hA5.mono (by omega))).setCell (p:=⟨wr.heap.size,1,none⟩) (by simp;omega) _).setCell (p:=⟨wr.heap.size,2,none⟩) (by simp;omega) _
   rw [← hW6]
   have HO7':=Lib.hid O7';have HY7':=Lib.hid Y7';have HB6:=Lib.hid hB6
   have hs6:=X9'.lt
   have hg76:g7+1≤W6.heap.size:=by omega
   clear hW6 X9 X9l X9a X9b X9c X9fa X9fb X9fc hA5 Y7 O7 hown7 O7' hB6 hne7
   have hlen:=Lib.hid (show ((nl.take k).map (mvNd d t)).length=k by rw [List.length_map,List.length_take];omega)
   have hnew:=Lib.hid (show (nl.take k).map (mvNd d t)++[mvNd d t nl[k]]=(nl.take (k+1)).map (mvNd d t) by rw [List.take_succ_eq_append_getElem hlt,List.map_append];rfl)
   have hlen':=Lib.hid (show ((nl.take (k+1)).map (mvNd d t)).length=k+1 by rw [List.length_map,List.length_take];omega)
   try clear X9'l
   try clear X9'a
   try clear X9'b
   try clear X9'c
   try clear X9'fa
   try clear X9'fb
   try clear X9'fc
   obtain ⟨X9'l,X9'a,X9'b,X9'c,-,-,-⟩:=X9'.facts3
   try clear Y7'l
   try clear Y7'a
   try clear Y7'b
   try clear Y7'c
   try clear Y7'fa
   try clear Y7'fb
   try clear Y7'fc
   obtain ⟨Y7'l,Y7'a,Y7'b,Y7'c,-,-,-⟩:=Y7'.facts3
   go_wp2_with
    (at_builtin
     refine wpList_appl _ rfl (.tmp 35) (.tmp 37) _ rfl (base:=g7+1) (l:=(nl.take k).map (mvNd d t)) (l2:=[mvNd d t nl[k]]) elem_nd ndC_len ndC_one rfl (Own.alloc HO7'.out _) rfl (Sl.lit (n:=1) (Blk.made rfl _ _) rfl (le_maxLen (by omega))) (by have:=hlen.out;simp only [List.length_cons,List.length_nil];omega) (by have:=hlen.out;simp only [List.length_cons,List.length_nil];omega) (by simp;omega) ?_
     intro v9 w9 ho9 hg9 hat9
     rw [hnew.out] at ho9
     obtain ⟨A9,c9,hv9,-⟩:=Own.sl ho9
     rw [hlen'.out] at hv9
     subst hv9
     have Y9:=Blk.grown (HY7'.out.alloc _) hg9 (fun e=>by have:=(HO7'.out.lt _ e.symm).1;omega)
     have HB9:=Lib.hid (show Below g7 W7 w9 from Below.grown (HB6.out.alloc (by omega) _) hg9 (by simp;omega) (fun g hg=>by have:=(HO7'.out.lt g hg).1;omega))
     have HY9:=Lib.hid Y9;have HO9:=Lib.hid ho9
     obtain ⟨Y9l,Y9a,-,-,Y9fa,-,-⟩:=Y9.facts3
     clear Y9 ho9 hg9 hat9)
   go_roundw
   case rel => exact ⟨k+1,A9,c9,by omega,by go_num,by have h:=Blk.set_ HY9.out 0 (.slice A9 (k+1) c9);simpa using h,HO9.out.far (p:=⟨g7,0,none⟩) (fun e=>by have:=(HO9.out.lt _ e).1;simp at this;omega) _,HB9.out.setCell (p:=⟨g7,0,none⟩) (by simp) _⟩
   case measure => simp [intOf];omega
  case neg =>
  have hkn:k=nl.length:=by omega
  subst hkn
  have ho:=Ho7.out
  rw [List.take_length] at ho
  replace Ho7:=Lib.hid ho
  clear ho
  go_wp2_with fail
  obtain ⟨W8,rfl⟩:∃ W8:World,W8=wr:=⟨_,rfl⟩
  clear X3 X4 X3l X3a X3b X3c
  go_loopw [10] (fun u wr=>∃ (k:Nat) (A2:Option Addr) (c2:Nat) (ol:List (Ar×SV)),k≤bl.length∧u=.int .i64 k∧Blk wr g7 26 #[.slice A nl.length c,.slice A2 k c2,.slice Af p.faces.length cf]∧Own wr (g7+1) 38 3 ndC (.slice A nl.length c) (nl.map (mvNd d t))∧Own wr (g7+1) 41 6 arS (.slice A2 k c2) ol∧ol.map (·.1)=(bl.take k).map (fun x=>mvAr d t x.1)∧(∀ x∈ol,Own wr 0 36 2 ptC (.slice x.2.a x.2.n x.2.c) x.1.via)∧Below g7 W7 wr) (fun u _=>bl.length-(intOf u).toNat)
  case atStart => exact ⟨0,none,0,[],Nat.zero_le _,rfl,Hx7.out,Ho7.out,Own.nil _ _ _ _ _,rfl,(fun _ h=>by cases h),Hb.out⟩
  case round =>
   clear Hb Hx7 Ho7 HBw hsz
   obtain ⟨k,A2,c2,ol,hk,rfl,hx7,hon,hoa,hol,hov,hb⟩:=hrel
   have Hb:=Lib.hid hb
   have hsz:=hb.size
   have Hx7:=Lib.hid hx7
   have Hon:=Lib.hid hon;have Hoa:=Lib.hid hoa;have Hol:=Lib.hid hol;have Hov:=Lib.hid hov
   have HBw:=Lib.hid (show Below w.heap.size w wr from HB7.out.trans (hb.mono (by omega)))
   have X3:=HX3.out.below hb (by omega)
   have HX3r:=Lib.hid X3
   have HX4r:=Lib.hid (HX4.out.below hb (by omega))
   have HX6r:=Lib.hid (HX6.out.below hb (by omega))
   have hg7r:g7<wr.heap.size:=hx7.lt
   clear hb hx7 hon hoa hol hov
   try clear X3l
   try clear X3a
   try clear X3b
   try clear X3c
   obtain ⟨X3l,X3a,X3b,X3c,-,-,-⟩:=X3.facts3
   by_cases hlt:k<bl.length
   case neg =>
    have hkn:k=bl.length:=by omega
    subst hkn
    have X6:=HX6r.out
    have X7:=Hx7.out
    obtain ⟨X6l,X6a,X6b,X6c,X6fa,X6fb,X6fc⟩:=X6.facts3
    obtain ⟨X7l,X7a,X7b,X7c,-,-,-⟩:=X7.facts3
    have hne:¬ g7=w.heap.size+1+1:=by omega
    go_wp2_with fail
    have Bf:Below w.heap.size w (((wr.setCell ⟨w.heap.size+1+1,0,none⟩ (.slice A nl.length c)).setCell ⟨w.heap.size+1+1,1,none⟩ (.slice A2 bl.length c2)).setCell ⟨w.heap.size+1+1,2,none⟩ (.slice Af p.faces.length cf)):=bS (bS (bS HBw.out (p:=⟨w.heap.size+1+1,0,none⟩) (by simp;omega) _) (p:=⟨w.heap.size+1+1,1,none⟩) (by simp;omega) _) (p:=⟨w.heap.size+1+1,2,none⟩) (by simp;omega) _
    have far3:∀ {α:Type} {base:Nat} {e:TypeId} {size:Nat} {f:α→List Value} {v:Value} {l:List α},Own wr base e size f v l→v.ownBlock≠some (w.heap.size+1+1)→Own (((wr.setCell ⟨w.heap.size+1+1,0,none⟩ (.slice A nl.length c)).setCell ⟨w.heap.size+1+1,1,none⟩ (.slice A2 bl.length c2)).setCell ⟨w.heap.size+1+1,2,none⟩ (.slice Af p.faces.length cf)) base e size f v l:=fun h hne=>((h.far (p:=⟨w.heap.size+1+1,0,none⟩) hne _).far (p:=⟨w.heap.size+1+1,1,none⟩) hne _).far (p:=⟨w.heap.size+1+1,2,none⟩) hne _
    refine res_cell (t:=26) (g:=w.heap.size+1+1) (cs:=#[.slice A nl.length c,.slice A2 bl.length c2,.slice Af p.faces.length cf]) rfl struct_pl rfl rfl (Blk.put3 X6) ⟨_,rfl,Bf,?_⟩
    have hon:=far3 Hon.out (fun e=>by have:=(Hon.out.lt _ e).1;omega)
    have hoa:=far3 Hoa.out (fun e=>by have:=(Hoa.out.lt _ e).1;omega)
    have hol:=Hol.out
    rw [List.take_length] at hol
    have ho3:=congrArg List.length hol
    rw [List.length_map,List.length_map] at ho3
    rw [← Hmp.out]
    have hn:=Own.sl hon
    have ha:=Own.sl hoa
    refine PlV.blocks (al:=ol.map svA) ?_ ?_ ?_ ?_ (HF.out.mono Bf)
    ·
     show p.arcs.map (mvAr d t)=_
     rw [Hres.out,List.map_map,List.map_map]
     exact hol.symm
    ·
     show Nds _ _ (p.nodes.map (mvNd d t))
     rw [HNl.out]
     exact hn
    ·
     rw [arS_flat,List.length_map]
     exact ha
    ·
     intro m hm
     rw [List.length_map] at hm
     rw [List.getElem_map]
     have hv:=Own.sl (far3 (Hov.out _ (List.getElem_mem hm)) (Own.ne_blk (Hov.out _ (List.getElem_mem hm)) X6 (by decide)))
     obtain ⟨Aq,cq,hq,-⟩:=hv
     injection hq with _ e2 _
     have hv:=Own.sl (far3 (Hov.out _ (List.getElem_mem hm)) (Own.ne_blk (Hov.out _ (List.getElem_mem hm)) X6 (by decide)))
     exact hv
   obtain ⟨sa,sc,hsv,hsn1,hsn2,hsR⟩:=HVk.out k hlt
   injection hsv with e1 e2 e3
   unfold maxLen at hsn2
   obtain ⟨hVl,hVq⟩:=HQv.out k hlt
   obtain ⟨b,o,rfl,hlb,c0,c1,c2',c3,c4,c5⟩:=HRa.out.as_ hlt
   rw [e1,e2,e3] at c3
   clear e1 e2 e3
   generalize hx:bl[k].1=x at *
   have HX:=Lib.hid hx
   clear hx
   generalize hVV:x.via=V at *
   have HVV:=Lib.hid hVV
   clear hVV
   have HsR:=Lib.hid hsR
   have HVq:=Lib.hid (show ∀ j (hj:j<V.length),bd20 V[j] from fun j hj=>hVq _ (List.getElem_mem hj))
   have Z0:=keepc HBw.out c0;have Z1:=keepc HBw.out c1;have Z2:=keepc HBw.out c2';have Z3:=keepc HBw.out c3;have Z4:=keepc HBw.out c4;have Z5:=keepc HBw.out c5
   have HC3:=Lib.hid c3
   have hlbw:b<wr.heap.size:=by have:=HBw.out.size;omega
   clear c0 c1 c2' c3 c4 c5 hsR hVq
   go_wp2_with fail
   obtain ⟨W11,hW11⟩:∃ W11:World,W11=wr.alloc (.cells #[.int .i64 x.id,.int .i64 x.fr,.int .i64 x.dst,.slice none 0 0,.int .i64 x.left,.int .i64 x.right] 41):=⟨_,rfl⟩
   obtain ⟨g11,hg11⟩:∃ g11,g11=wr.heap.size:=⟨_,rfl⟩
   rw [← hW11,← hg11]
   have hA11:Below wr.heap.size wr W11:=by rw [hW11];exact bA (bR wr) _
   have HX11:Hid (Blk W11 g11 41 #[.int .i64 x.id,.int .i64 x.fr,.int .i64 x.dst,.slice none 0 0,.int .i64 x.left,.int .i64 x.right]):=Lib.hid (by rw [hW11,hg11];exact Blk.made rfl _ _)
   have hs11:W11.heap.size≤g11+1∧g11+1≤W11.heap.size:=by rw [hW11,hg11];simp
   obtain ⟨hs11a,hs11b⟩:=hs11
   have hg11w:wr.heap.size≤g11∧g11≤wr.heap.size:=by omega
   obtain ⟨hg11a,hg11b⟩:=hg11w
   have HA11:=Lib.hid (show Below g11 wr W11 by rw [hg11];exact hA11)
   clear hW11 hg11 hA11 X3 X3l X3a X3b X3c Z0 Z1 Z2 Z3 Z4 Z5
   obtain ⟨Wr,rfl⟩:∃ Wr:World,Wr=wr:=⟨_,rfl⟩
   go_loopw [12] (fun u wx=>∃ (j:Nat) (Av:Option Addr) (cv:Nat),j≤V.length∧u=.int .i64 j∧Blk wx g11 41 #[.int .i64 x.id,.int .i64 x.fr,.int .i64 x.dst,.slice Av j cv,.int .i64 x.left,.int .i64 x.right]∧Own wx (g11+1) 36 2 ptC (.slice Av j cv) ((V.take j).map (mvPt d t))∧Below g11 W11 wx) (fun u _=>V.length-(intOf u).toNat)
   case atStart => exact ⟨0,none,0,Nat.zero_le _,rfl,HX11.out,Own.nil _ _ _ _ _,Below.refl _ _⟩
   case round =>
    obtain ⟨j,Av,cv,hj,rfl,hx11,hov,hb⟩:=hrel
    have hszx:=hb.size
    have Hbx:=Lib.hid hb
    have Hbw:=Lib.hid (HA11.out.trans hb)
    have Hx11:=Lib.hid hx11
    have Hov2:=Lib.hid hov
    have Bx:=Lib.hid (show Below w.heap.size w wr from HBw.out.trans ((HA11.out.trans hb).mono (by omega)))
    have X3:=HX3r.out.below (HA11.out.trans hb) (by omega)
    have c3:=keepc Bx.out HC3.out
    have hlbx:b<g11:=by omega
    clear hb hx11 hov
    try clear X3l
    try clear X3a
    try clear X3b
    try clear X3c
    obtain ⟨X3l,X3a,X3b,X3c,-,-,-⟩:=X3.facts3
    by_cases hlj:j<V.length
    case pos =>
     obtain ⟨bv,ov,rfl,hlv,d0',d1'⟩:=HsR.out.pt hlj
     have d0:=keepc Bx.out d0'
     have d1:=keepc Bx.out d1'
     have hlv6:bv<g11:=by have:=HBw.out.size;omega
     have X11:=Hx11.out
     have X4:=HX4r.out.below Hbw.out (by omega)
     have hn4:w.heap.size+1<g11:=by omega
     have hn3:w.heap.size<g11:=by omega
     clear d0' d1'
     obtain ⟨X11l,X11a,X11b,X11c,X11d,X11e,X11f,X11fa,X11fb,X11fc,X11fd,X11fe,X11ff⟩:=X11.facts6
     obtain ⟨X4l,X4a,X4b,-,-⟩:=X4.facts2
     have hnew:=Lib.hid (show (V.take j).map (mvPt d t)++[mvPt d t V[j]]=(V.take (j+1)).map (mvPt d t) by rw [List.take_succ_eq_append_getElem hlj,List.map_append];rfl)
     have hlen:=Lib.hid (show ((V.take j).map (mvPt d t)).length=j by rw [List.length_map,List.length_take];omega)
     have hlen':=Lib.hid (show ((V.take (j+1)).map (mvPt d t)).length=j+1 by rw [List.length_map,List.length_take];omega)
     have q1:0≤(j:Int):=by omega
     have q2:(j:Int)<V.length:=by omega
     have q3:(j:Int).toNat=j:=by omega
     have q4:0≤(k:Int):=by omega
     have q5:(k:Int)<bl.length:=by omega
     have q6:(k:Int).toNat=k:=by omega
     have hg11r:g11<wr.heap.size:=X11l
     go_upto_region 16 with fail
     refine rg_start (SinceB (g11) wr) (.take 0 1 (.run 11 2 1 (.two 1 8191 (.call 13 16383 (.call 14 32767 (.call 15 65535 (.take 16 131071 (.call 17 262143 (.done)))))) 13 16381 (.two 1 16383 (.call 14 32767 (.call 15 65535 (.take 16 131071 (.call 17 262143 (.done))))) 14 32765 (.call 1 32767 (.call 15 65535 (.take 16 131071 (.call 17 262143 (.done))))))))) (by kernel_rfl) (Below.drew (Below.refl _ _)) (by kernel_rfl) (by kernel_rfl) (Nat.le_of_ble_eq_true (by kernel_rfl)) ?_
     intro opsR QR Hops HQrg hS
     iterate 12
      apply rg_pB;exact Hops;exact rfl;exact hS;exact rfl
      · intro _ hqc;go_simp;try rfl
      try simp only [pu]
     refine rg_two (i:=1) (j:=13) (get_of Hops rfl) (get_of Hops rfl) (fun K hK=>?_) (fun K hK=>?_)
     ·
      have HSrg:=Lib.hid hS;clear hS
      refine rg_run (wanted_plain rfl) ?_
      go_simp
      refine hK.out _ _ HSrg.out (fun hS=>?_)
      clear hK K HSrg
      try simp only [pu]
      refine rg_call (i:=13) (get_of Hops rfl) (fun K hK=>?_)
      have HSrg:=Lib.hid hS;clear hS
      refine rg_run (wanted_plain rfl) ?_
      go_simp
      refine (TM.out V[j] (HVq.out j hlj) _).mono ?_
      rintro e wy ⟨rfl,hby⟩
      have hS:SinceB g11 wr wy:=Below.trans HSrg.out (hby.mono (by have:=(Below.size HSrg.out);omega))
      have hzy:=hby.size
      simp only [World.size_drew] at hzy
      have HBy:=Lib.hid (show Below wr.heap.size wr wy from bT (bD (bR wr)) hby)
      clear hby
      have X11y:=Hx11.out.keep HBy.out
      obtain ⟨y0,-,-,-,y3,-,-,-,-,-,-,-,-⟩:=X11y.facts6
      clear X11y
      clear HSrg
      refine hK.out _ _ hS (fun _=>?_)
      clear hK K
      try simp only [pu]
      refine rg_call (i:=14) (get_of Hops rfl) (fun K hK=>?_)
      have HSrg:=Lib.hid hS;clear hS
      refine rg_run (wanted_plain rfl) ?_
      go_simp
      refine hK.out _ _ (bAB (by omega) HSrg.out _) (fun hS=>?_)
      clear hK K HSrg
      try simp only [pu]
      refine rg_call (i:=15) (get_of Hops rfl) (fun K hK=>?_)
      have HSrg:=Lib.hid hS;clear hS
      refine rg_run (wanted_plain rfl) ?_
      refine wp_appl (.tmp 65) (.tmp 78) _ rfl (base:=g11+1) (l:=(V.take j).map (mvPt d t)) (l2:=[mvPt d t V[j]]) elem_pt ptC_len ptC_one rfl (Own.alloc (Hov2.out.keep HBy.out) _) rfl (Pts.one (x:=mvPt d t V[j]) (Blk.made rfl _ _)) (by have:=hlen.out;simp only [List.length_cons,List.length_nil];omega) (by have:=hlen.out;simp only [List.length_cons,List.length_nil];omega) (by simp;omega) ?_
      intro v9 wn hon9 hgn hatn
      rw [hnew.out] at hon9
      obtain ⟨A9,c9,hv9,-⟩:=Own.sl hon9
      rw [hlen'.out] at hv9
      subst hv9
      have X6n:=Blk.grown (Blk.alloc (Hx11.out.keep HBy.out) _) hgn (fun e=>by have:=(Hov2.out.lt _ e.symm).1;omega)
      obtain ⟨-,-,-,-,n3,-,-,-,-,-,nf3,-,-⟩:=X6n.facts6
      have HX6n:=Lib.hid X6n
      have Hon9:=Lib.hid hon9
      clear X6n hon9
      have hS:SinceB g11 wr wn:=Below.grown (Below.alloc (HBy.out.mono (by omega)) (by omega) _) hgn (by simp;omega) (fun g hg=>by have:=(Hov2.out.lt g hg).1;omega)
      clear HSrg
      refine hK.out _ _ hS (fun _=>?_)
      clear hK K
      try simp only [pu]
      apply rg_pB;exact Hops;exact rfl;exact hS;exact rfl
      · intro _ hqc;go_simp;try rfl
      try simp only [pu]
      refine rg_call (i:=17) (get_of Hops rfl) (fun K hK=>?_)
      have HSrg:=Lib.hid hS;clear hS
      refine rg_run (wanted_plain rfl) ?_
      go_simp
      refine hK.out _ _ (by unfold SinceB;have h:Below _ _ _:=HSrg.out;repeat (first | with_reducible assumption | with_reducible exact Below.refl _ _ | with_reducible refine bSB ?_ (by first | omega | (simp;omega)) _ | with_reducible refine Below.drew ?_ | with_reducible refine bAB (by omega) ?_ _ | exact h)) ?_
      intro hS
      clear hK K HSrg
      try simp only [pu]
      refine rg_done ?_
      refine HQrg.down _ _ ?_
      have hB:Below (g11) wr _:=hS
      clear hS HQrg Hops
      go_wp2_with fail
      go_roundw
      case rel => exact ⟨j+1,A9,c9,by omega,by go_num,by have h:=Blk.set_ HX6n.out 3 (.slice A9 (j+1) c9);simpa using h,Hon9.out.far (p:=⟨g11,3,none⟩) (fun e=>by have:=(Hon9.out.lt g11 e).1;omega) _,Hbx.out.trans hB⟩
      case measure => simp [intOf];omega
     ·
      have HSrg:=Lib.hid hS;clear hS
      refine rg_run (wanted_plain rfl) ?_
      go_simp
      refine (TM.out V[j] (HVq.out j hlj) _).mono ?_
      rintro e wy ⟨rfl,hby⟩
      have hS:SinceB g11 wr wy:=Below.trans HSrg.out (hby.mono (by have:=(Below.size HSrg.out);omega))
      have hzy:=hby.size
      simp only [World.size_drew] at hzy
      have HBy:=Lib.hid (show Below wr.heap.size wr wy from bT (bD (bR wr)) hby)
      clear hby
      have X11y:=Hx11.out.keep HBy.out
      obtain ⟨y0,-,-,-,y3,-,-,-,-,-,-,-,-⟩:=X11y.facts6
      clear X11y
      clear HSrg
      refine hK.out _ _ hS (fun _=>?_)
      clear hK K
      try simp only [pu]
      refine rg_two (i:=1) (j:=14) (get_of Hops rfl) (get_of Hops rfl) (fun K hK=>?_) (fun K hK=>?_)
      ·
       have HSrg:=Lib.hid hS;clear hS
       refine rg_run (wanted_plain rfl) ?_
       go_simp
       refine hK.out _ _ HSrg.out (fun hS=>?_)
       clear hK K HSrg
       try simp only [pu]
       refine rg_call (i:=14) (get_of Hops rfl) (fun K hK=>?_)
       have HSrg:=Lib.hid hS;clear hS
       refine rg_run (wanted_plain rfl) ?_
       go_simp
       refine hK.out _ _ (bAB (by omega) HSrg.out _) (fun hS=>?_)
       clear hK K HSrg
       try simp only [pu]
       refine rg_call (i:=15) (get_of Hops rfl) (fun K hK=>?_)
       have HSrg:=Lib.hid hS;clear hS
       refine rg_run (wanted_plain rfl) ?_
       refine wp_appl (.tmp 65) (.tmp 78) _ rfl (base:=g11+1) (l:=(V.take j).map (mvPt d t)) (l2:=[mvPt d t V[j]]) elem_pt ptC_len ptC_one rfl (Own.alloc (Hov2.out.keep HBy.out) _) rfl (Pts.one (x:=mvPt d t V[j]) (Blk.made rfl _ _)) (by have:=hlen.out;simp only [List.length_cons,List.length_nil];omega) (by have:=hlen.out;simp only [List.length_cons,List.length_nil];omega) (by simp;omega) ?_
       intro v9 wn hon9 hgn hatn
       rw [hnew.out] at hon9
       obtain ⟨A9,c9,hv9,-⟩:=Own.sl hon9
       rw [hlen'.out] at hv9
       subst hv9
       have X6n:=Blk.grown (Blk.alloc (Hx11.out.keep HBy.out) _) hgn (fun e=>by have:=(Hov2.out.lt _ e.symm).1;omega)
       obtain ⟨-,-,-,-,n3,-,-,-,-,-,nf3,-,-⟩:=X6n.facts6
       have HX6n:=Lib.hid X6n
       have Hon9:=Lib.hid hon9
       clear X6n hon9
       have hS:SinceB g11 wr wn:=Below.grown (Below.alloc (HBy.out.mono (by omega)) (by omega) _) hgn (by simp;omega) (fun g hg=>by have:=(Hov2.out.lt g hg).1;omega)
       clear HSrg
       refine hK.out _ _ hS (fun _=>?_)
       clear hK K
       try simp only [pu]
       apply rg_pB;exact Hops;exact rfl;exact hS;exact rfl
       · intro _ hqc;go_simp;try rfl
       try simp only [pu]
       refine rg_call (i:=17) (get_of Hops rfl) (fun K hK=>?_)
       have HSrg:=Lib.hid hS;clear hS
       refine rg_run (wanted_plain rfl) ?_
       go_simp
       refine hK.out _ _ (by unfold SinceB;have h:Below _ _ _:=HSrg.out;repeat (first | with_reducible assumption | with_reducible exact Below.refl _ _ | with_reducible refine bSB ?_ (by first | omega | (simp;omega)) _ | with_reducible refine Below.drew ?_ | with_reducible refine bAB (by omega) ?_ _ | exact h)) ?_
       intro hS
       clear hK K HSrg
       try simp only [pu]
       refine rg_done ?_
       refine HQrg.down _ _ ?_
       have hB:Below (g11) wr _:=hS
       clear hS HQrg Hops
       go_wp2_with fail
       go_roundw
       case rel => exact ⟨j+1,A9,c9,by omega,by go_num,by have h:=Blk.set_ HX6n.out 3 (.slice A9 (j+1) c9);simpa using h,Hon9.out.far (p:=⟨g11,3,none⟩) (fun e=>by have:=(Hon9.out.lt g11 e).1;omega) _,Hbx.out.trans hB⟩
       case measure => simp [intOf];omega
      ·
       have HSrg:=Lib.hid hS;clear hS
       refine rg_run (wanted_plain rfl) ?_
       go_simp
       refine hK.out _ _ (bAB (by omega) HSrg.out _) (fun hS=>?_)
       clear hK K HSrg
       try simp only [pu]
       refine rg_call (i:=1) (get_of Hops rfl) (fun K hK=>?_)
       have HSrg:=Lib.hid hS;clear hS
       refine rg_run (wanted_plain rfl) ?_
       go_simp
       refine hK.out _ _ HSrg.out (fun hS=>?_)
       clear hK K HSrg
       try simp only [pu]
       refine rg_call (i:=15) (get_of Hops rfl) (fun K hK=>?_)
       have HSrg:=Lib.hid hS;clear hS
       refine rg_run (wanted_plain rfl) ?_
       refine wp_appl (.tmp 65) (.tmp 78) _ rfl (base:=g11+1) (l:=(V.take j).map (mvPt d t)) (l2:=[mvPt d t V[j]]) elem_pt ptC_len ptC_one rfl (Own.alloc (Hov2.out.keep HBy.out) _) rfl (Pts.one (x:=mvPt d t V[j]) (Blk.made rfl _ _)) (by have:=hlen.out;simp only [List.length_cons,List.length_nil];omega) (by have:=hlen.out;simp only [List.length_cons,List.length_nil];omega) (by simp;omega) ?_
       intro v9 wn hon9 hgn hatn
       rw [hnew.out] at hon9
       obtain ⟨A9,c9,hv9,-⟩:=Own.sl hon9
       rw [hlen'.out] at hv9
       subst hv9
       have X6n:=Blk.grown (Blk.alloc (Hx11.out.keep HBy.out) _) hgn (fun e=>by have:=(Hov2.out.lt _ e.symm).1;omega)
       obtain ⟨-,-,-,-,n3,-,-,-,-,-,nf3,-,-⟩:=X6n.facts6
       have HX6n:=Lib.hid X6n
       have Hon9:=Lib.hid hon9
       clear X6n hon9
       have hS:SinceB g11 wr wn:=Below.grown (Below.alloc (HBy.out.mono (by omega)) (by omega) _) hgn (by simp;omega) (fun g hg=>by have:=(Hov2.out.lt g hg).1;omega)
       clear HSrg
       refine hK.out _ _ hS (fun _=>?_)
       clear hK K
       try simp only [pu]
       apply rg_pB;exact Hops;exact rfl;exact hS;exact rfl
       · intro _ hqc;go_simp;try rfl
       try simp only [pu]
       refine rg_call (i:=17) (get_of Hops rfl) (fun K hK=>?_)
       have HSrg:=Lib.hid hS;clear hS
       refine rg_run (wanted_plain rfl) ?_
       go_simp
       refine hK.out _ _ (by unfold SinceB;have h:Below _ _ _:=HSrg.out;repeat (first | with_reducible assumption | with_reducible exact Below.refl _ _ | with_reducible refine bSB ?_ (by first | omega | (simp;omega)) _ | with_reducible refine Below.drew ?_ | with_reducible refine bAB (by omega) ?_ _ | exact h)) ?_
       intro hS
       clear hK K HSrg
       try simp only [pu]
       refine rg_done ?_
       refine HQrg.down _ _ ?_
       have hB:Below (g11) wr _:=hS
       clear hS HQrg Hops
       go_wp2_with fail
       go_roundw
       case rel => exact ⟨j+1,A9,c9,by omega,by go_num,by have h:=Blk.set_ HX6n.out 3 (.slice A9 (j+1) c9);simpa using h,Hon9.out.far (p:=⟨g11,3,none⟩) (fun e=>by have:=(Hon9.out.lt g11 e).1;omega) _,Hbx.out.trans hB⟩
       case measure => simp [intOf];omega
    case neg =>
     have hkj:j=V.length:=by omega
     subst hkj
     have hv:=Hov2.out
     rw [List.take_length] at hv
     have HV:=Lib.hid hv
     have hWr:=Hbw.out.size
     have HOa:=Lib.hid (Hoa.out.belowB Hbw.out (fun g hg=>by have:=(Hoa.out.lt g hg).2;omega))
     have HOn:=Lib.hid (Hon.out.belowB Hbw.out (fun g hg=>by have:=(Hon.out.lt g hg).2;omega))
     have HOv:=Lib.hid (fun y (hy:y∈ol)=>(Hov.out y hy).belowB Hbw.out (fun g hg=>by have:=((Hov.out y hy).lt g hg).2;omega))
     have HB7r:=Lib.hid (show Below g7 W7 wr from Hb.out.trans (Hbw.out.mono (by omega)))
     have hol1:=congrArg List.length Hol.out
     rw [List.length_map,List.length_map,List.length_take] at hol1
     have hlen:=Lib.hid (show ol.length=k by omega)
     have hlen':=Lib.hid (show (ol++[(mvAr d t x,(⟨Av,V.length,cv⟩:SV))]).length=k+1 by rw [List.length_append,hlen.out];rfl)
     have X11:=Hx11.out
     have X7:=Hx7.out.below Hbw.out (by omega)
     have HX7r:=Lib.hid X7
     have hg7w:g7<wr.heap.size:=X7.lt
     have q4:0≤(k:Int):=by omega
     have q5:(k:Int)<bl.length:=by omega
     have q6:(k:Int).toNat=k:=by omega
     clear hol1 hv
     try clear X11l
     try clear X11a
     try clear X11b
     try clear X11c
     try clear X11d
     try clear X11e
     try clear X11f
     try clear X11fa
     try clear X11fb
     try clear X11fc
     try clear X11fd
     try clear X11fe
     try clear X11ff
     obtain ⟨X11l,X11a,X11b,X11c,X11d,X11e,X11f,-,-,-,-,-,-⟩:=X11.facts6
     try clear X7l
     try clear X7a
     try clear X7b
     try clear X7c
     obtain ⟨X7l,X7a,X7b,X7c,-,-,-⟩:=X7.facts3
     go_wp2_with
      (at_builtin
       refine wpList_appl _ rfl (.tmp 82) (.tmp 84) _ rfl (base:=g7+1) (l:=ol) (l2:=[(mvAr d t x,(⟨Av,V.length,cv⟩:SV))]) elem_ar arS_len arS_one rfl (Own.alloc HOa.out _) rfl (Sl.lit (n:=1) (Blk.made rfl _ _) rfl (le_maxLen (by omega))) (by have:=hlen.out;simp only [List.length_cons,List.length_nil];omega) (by have:=hlen.out;simp only [List.length_cons,List.length_nil];omega) (by simp;omega) ?_
       intro v9 w9 ho9 hg9 hat9
       obtain ⟨A9,c9,hv9,-⟩:=Own.sl ho9
       rw [hlen'.out] at hv9
       subst hv9
       have Y9:=Blk.grown (HX7r.out.alloc _) hg9 (fun e=>by have:=(HOa.out.lt _ e.symm).1;omega)
       have HB9:=Lib.hid (show Below g7 W7 w9 from Below.grown (HB7r.out.alloc (by omega) _) hg9 (by simp;omega) (fun g hg=>by have:=(HOa.out.lt g hg).1;omega))
       have HN9:=Lib.hid ((HOn.out.alloc _).grown hg9 (Own.apart HOn.out HOa.out (by decide)))
       have HV9:=Lib.hid (fun y (hy:y∈ol)=>((HOv.out y hy).alloc _).grown hg9 (Own.apart (HOv.out y hy) HOa.out (by decide)))
       have HZ9:=Lib.hid ((HV.out.alloc _).grown hg9 (Own.apart HV.out HOa.out (by decide)))
       have HY9:=Lib.hid Y9;have HO9:=Lib.hid ho9
       obtain ⟨Y9l,Y9a,Y9b,-,Y9fa,Y9fb,-⟩:=Y9.facts3
       clear Y9 ho9 hg9 hat9)
     go_roundw
     case rel =>
      have hsub:(Value.slice A9 (k+1) c9).ownBlock≠some g7:=fun e=>by have:=(HO9.out.lt _ e).1;omega
      refine ⟨k+1,A9,c9,ol++[(mvAr d t x,(⟨Av,V.length,cv⟩:SV))],by omega,by go_num,by have h:=Blk.set_ HY9.out 1 (.slice A9 (k+1) c9);simpa using h,HN9.out.far (p:=⟨g7,1,none⟩) (fun e=>by have:=(HN9.out.lt _ e).1;simp at this;omega) _,HO9.out.far (p:=⟨g7,1,none⟩) hsub _,?_,?_,HB9.out.setCell (p:=⟨g7,1,none⟩) (by simp) _⟩
      · rw [List.map_append,Hol.out,List.take_succ_eq_append_getElem hlt,List.map_append,List.map_singleton,List.map_singleton,HX.out]
      ·
       intro y hy
       rcases List.mem_append.1 hy with hy | hy
       · exact (HV9.out y hy).far (p:=⟨g7,1,none⟩) (Own.ne_blk (HV9.out y hy) HY9.out (by decide)) _
       ·
        rw [List.mem_singleton] at hy
        subst hy
        have h:=(HZ9.out.mono_base (Nat.zero_le _)).far (p:=⟨g7,1,none⟩) (Own.ne_blk HZ9.out HY9.out (by decide)) (.slice A9 (k+1) c9)
        show Own _ 0 _ 2 ptC _ (x.via.map (mvPt d t))
        rw [HVV.out]
        exact h
     case measure => simp [intOf];omega
end Go.Proofs.YtnhdmghgjngcaaaGreat
namespace Go.Proofs.YtnhdmghgjngcaaaGreat
open Go.RowKit

theorem Row.put {w:World} {A:Option Addr} {xs:List Value} {g i:Nat} {u:Value} (h:Row w A xs) (hz:∀ j,j<3→∃ a n c,w.cell? ⟨g,j,none⟩=some (.slice a n c)) (hi:i<3) (hf:∀ j v,xs[j]? = some v→j<3→∃ n,v=.int .i64 n):Row (w.setCell ⟨g,i,none⟩ u) A xs:=by
 intro hne
 obtain ⟨b,o,rfl,hlt,hc⟩:=h hne
 refine ⟨b,o,rfl,by simpa using hlt,fun j v hj=>?_⟩
 have h1:=hc j v hj
 by_cases e:(⟨g,i,none⟩:Addr)=⟨b,o+j,none⟩
 ·
  injection e with e1 e2 _
  subst e1
  obtain ⟨n,rfl⟩:=hf j v hj (by omega)
  obtain ⟨a,m,c,h2⟩:=hz (o+j) (by omega)
  rw [h2] at h1
  cases h1
 · exact (World.cell?_setCell_other w _ _ _ e).trans h1
theorem Sl.put {w:World} {v:Value} {n:Nat} {xs:List Value} {g i:Nat} {u:Value} (h:Sl w v n xs) (hz:∀ j,j<3→∃ a n c,w.cell? ⟨g,j,none⟩=some (.slice a n c)) (hi:i<3) (hf:∀ j v,xs[j]? = some v→j<3→∃ n,v=.int .i64 n):Sl (w.setCell ⟨g,i,none⟩ u) v n xs:=by
 obtain ⟨A,c,hv,h1,h2,h3⟩:=h
 exact ⟨A,c,hv,h1,h2,h3.put hz hi hf⟩
theorem ints_all {α:Type} {f:α→List Value} (hf:∀ x,∀ v∈f x,∃ n,v=Value.int .i64 n) (l:List α):∀ (j:Nat) v,(l.flatMap f)[j]? = some v→j<3→∃ n,v=Value.int .i64 n:=fun j v hj _=>by
 obtain ⟨x,-,hx⟩:=List.mem_flatMap.1 (List.mem_of_getElem? hj)
 exact hf x v hx
theorem PlV.put {w:World} {v:Value} {p:Pl} {g i:Nat} (h:PlV w v p) (hz:∀ j,j<3→∃ a n c,w.cell? ⟨g,j,none⟩=some (.slice a n c)) (hi:i<3) (u:Value):PlV (w.setCell ⟨g,i,none⟩ u) v p:=by
 obtain ⟨vn,va,vf,al,rfl,he,hn,⟨ha,hv⟩,hff⟩:=h
 refine ⟨vn,va,vf,al,rfl,he,Sl.put hn hz hi (ints_all (fun x v hv=>?_) _),⟨Sl.put ha hz hi fun j v hj h3=>?_,fun k hk=>Sl.put (hv k hk) hz hi (ints_all (fun x v hv=>?_) _)⟩,Sl.put hff hz hi (ints_all (fun x v hv=>?_) _)⟩
 ·
  simp only [ndC,List.mem_cons,List.not_mem_nil,or_false] at hv
  rcases hv with rfl | rfl | rfl<;>exact ⟨_,rfl⟩
 · cases al with
  | nil=>simp at hj
  | cons x r =>
   rw [List.flatMap_cons,List.getElem?_append_left (by show j<6;omega)] at hj
   match j,h3 with
   | 0,_=>exact ⟨_,(Option.some.inj hj).symm⟩
   | 1,_=>exact ⟨_,(Option.some.inj hj).symm⟩
   | 2,_=>exact ⟨_,(Option.some.inj hj).symm⟩
 ·
  simp only [ptC,List.mem_cons,List.not_mem_nil,or_false] at hv
  rcases hv with rfl | rfl<;>exact ⟨_,rfl⟩
 ·
  simp only [inC,List.mem_cons,List.not_mem_nil,or_false] at hv
  exact ⟨_,hv⟩
theorem Blk.sl3 {w:World} {g:Nat} {a b c:Option Addr} {k1 k2 k3 m1 m2 m3:Nat} (h:Blk w g 26 #[.slice a k1 m1,.slice b k2 m2,.slice c k3 m3]):∀ j,j<3→∃ a n c,w.cell? ⟨g,j,none⟩=some (.slice a n c):=fun j hj=>by
 obtain ⟨-,x1,x2,x3,-⟩:=Blk.facts3 h
 match j,hj with
 | 0,_=>exact ⟨_,_,_,x1⟩
 | 1,_=>exact ⟨_,_,_,x2⟩
 | 2,_=>exact ⟨_,_,_,x3⟩
end Go.Proofs.YtnhdmghgjngcaaaGreat
namespace Go.Proofs.YtnhdmghgjngcaaaGreat
open Go.RowKit
set_option linter.unusedSectionVars false

theorem qt_getD (l:List Pt) (k:Nat):(l.map qt).getD k pt0=qt (l.getD k pt0):=by
 rw [List.getD_eq_getElem?_getD,List.getD_eq_getElem?_getD,List.getElem?_map]
 cases l[k]? <;> rfl
theorem qt_nears (a b c:Pt):nears [qt a,qt b,qt c]=nears [a,b,c]:=by
 rw [Bool.eq_iff_iff,nears3_iff,nears3_iff,qt_near,qt_near,qt_near]
theorem qt_twS (a b c:Pt):twS (qt a) (qt b) (qt c)=twS a b c:=by unfold twS;rw [qt_nears,qt_tw]
theorem qt_sideS (a b c:Pt):sideS (qt a) (qt b) (qt c)=sideS a b c:=by unfold sideS;rw [qt_twS]
theorem qt_on (a b q:Pt):onS (qt a) (qt b) (qt q)=onS a b q:=by
 cases h:nears [a,b,q]
 ·
  have h':=h
  rw [← qt_nears] at h'
  unfold onS
  rw [h,h']
  rfl
 · exact qt_onS h
theorem qt_bx (a b c q:Pt):inB (triBx (qt a) (qt b) (qt c)) (qt q)=inB (triBx a b c) q:=by
 unfold inB triBx
 rw [Bool.eq_iff_iff]
 rw [decide_eq_true_iff,decide_eq_true_iff]
 simp only [qt_eq]
 omega
theorem qt_tri (a b c q:Pt):triS (qt a) (qt b) (qt c) (qt q)=triS a b c q:=by
 unfold triS
 rw [qt_bx,qt_sideS,qt_sideS,qt_sideS,qt_sideS,qt_on,qt_on,qt_on]
theorem qt_ne (a b:Pt):(qt a≠qt b)=(a≠b):=by
 rw [ne_eq,ne_eq,eq_iff_iff]
 exact not_congr ⟨fun e=>qt_inj e,fun e=>by rw [e]⟩
theorem qt_blk (a b c q:Pt):blkS (qt a) (qt b) (qt c) (qt q)=blkS a b c q:=by
 unfold blkS
 rw [qt_tri]
 simp only [qt_ne]
theorem q_size (P:List Pt) (k:Nat):sizeS (P.map qt) k=sizeS P k:=by
 unfold sizeS
 rw [qt_getD,qt_getD,qt_getD,qt_twS]
theorem q_para (p:Pl) (a:Ar):paraS (qP p) (qA a)=paraS p a:=by
 unfold paraS
 rw [q_arcs,List.any_map]
 congr 1
 funext b
 show (decide (b.id≠a.id) && (decide ((b.via.map (mvPt ⟨0,0⟩ true)).length=0) && _))=_
 rw [List.length_map]
 rfl
theorem q_free (p:Pl) (a:Ar) (P:List Pt) (k:Nat):freeU (qP p) (qA a) (P.map qt) k=freeU p a P k:=by
 unfold freeU
 rw [qt_getD,qt_getD,qt_getD,qt_ptOk,qt_ptOk,qt_ptOk,q_para]
 have e1:(qA a).via.length=a.via.length:=List.length_map _
 have e2:∀ x y z:Pt,((qP p).nodes.any fun n=>blkS (qt x) (qt y) (qt z) n.pt)=p.nodes.any fun n=>blkS x y z n.pt:=fun x y z=>by
  show (p.nodes.map (mvNd ⟨0,0⟩ true)).any _=_
  rw [List.any_map]
  congr 1
  funext n
  exact qt_blk x y z n.pt
 have e3:∀ x y z:Pt,((qP p).arcs.any fun b=>b.via.any (blkS (qt x) (qt y) (qt z)))=p.arcs.any fun b=>b.via.any (blkS x y z):=fun x y z=>by
  rw [q_arcs,List.any_map]
  congr 1
  funext b
  show (b.via.map qt).any _=_
  rw [List.any_map]
  congr 1
  funext v
  exact qt_blk x y z v
 rw [e1,e2,e3]
 rfl
theorem q_cdU (p:Pl) (tol:Int) (a:Ar) (P:List Pt) (m:Nat):cdU (qP p) tol (qA a) (P.map qt) m=cdU p tol a P m:=by
 unfold cdU
 have e1:(fun k=>decide (sizeS (P.map qt) k<tol) && freeU (qP p) (qA a) (P.map qt) k)=fun k=>decide (sizeS P k<tol) && freeU p a P k:=by
  funext k
  rw [q_size,q_free]
 rw [e1]
 refine List.map_congr_left fun k _=>?_
 rw [q_size]
 rfl
theorem q_cdA (p:Pl) (tol id:Int):cdA (qP p) tol id=cdA p tol id:=by
 unfold cdA
 rw [q_find]
 cases findAr p.arcs id with
 | none=>rfl
 | some a =>
  simp only [Option.map_some]
  have e0:hasEnds (qP p) (qA a)=hasEnds p a:=mv_ends _ _ p a
  rw [e0]
  split
  ·
   rename_i he
   have e1:pathS (qP p) (qA a)=(pathS p a).map qt:=mv_path _ _ he
   have e2:(qA a).via.length=a.via.length:=List.length_map _
   rw [e1,e2,q_cdU]
  · rfl
theorem q_least (p:Pl) (tol:Int):leastS (qP p) tol=leastS p tol:=by
 rw [leastS_eq,leastS_eq]
 unfold leastR
 rw [q_arcs,List.foldl_map]
 congr 1
 funext s a
 rw [q_cdA]
 rfl
theorem map_erase {α β:Type} (f:α→β):∀ (l:List α) (i:Nat),(l.map f).eraseIdx i=(l.eraseIdx i).map f
 | [],_=>rfl
 | _::_,0=>rfl
 | a::l,i+1=>by
  show f a::(l.map f).eraseIdx i=f a::(l.eraseIdx i).map f
  rw [map_erase f l i]
theorem q_drop (arc:Int) (i:Nat):∀ l:List Ar,dropL arc i (l.map qA)=(dropL arc i l).map qA
 | []=>rfl
 | a::l=>by
  rw [List.map_cons]
  unfold dropL
  have e:(qA a).id=a.id:=rfl
  rw [e]
  split
  ·
   rw [List.map_cons]
   congr 1
   show (⟨a.id,a.fr,a.dst,(a.via.map qt).eraseIdx i,a.left,a.right⟩:Ar)=⟨a.id,a.fr,a.dst,(a.via.eraseIdx i).map qt,a.left,a.right⟩
   rw [map_erase]
  · rw [List.map_cons,q_drop arc i l]
theorem q_dropV (p:Pl) (arc:Int) (i:Nat):dropV (qP p) arc i=qP (dropV p arc i):=by
 unfold dropV
 rw [q_arcs,q_drop]
 rfl
theorem q_thin (p:Pl) (tol:Int):thinS (qP p) tol=(thinS p tol).map qP:=by
 unfold thinS
 rw [q_least,Option.map_map]
 congr 1
 funext c
 exact q_dropV p c.id c.k
theorem q_tot (l:List Ar):totV (l.map qA)=totV l:=by
 unfold totV
 rw [List.map_map]
 congr 1
 refine List.map_congr_left fun a _=>?_
 exact List.length_map _
theorem q_simpU (tol:Int):∀ (n:Nat) (p:Pl),simpU tol n (qP p)=qP (simpU tol n p)
 | 0,_=>rfl
 | n+1,p=>by
  unfold simpU
  rw [q_thin]
  cases thinS p tol with
  | none=>rfl
  | some q=>exact q_simpU tol n q
theorem q_simp (p:Pl) (tol:Int):simpS (qP p) tol=qP (simpS p tol):=by
 unfold simpS
 rw [show totV (qP p).arcs=totV p.arcs from q_tot p.arcs]
 exact q_simpU tol _ p
end Go.Proofs.YtnhdmghgjngcaaaGreat
