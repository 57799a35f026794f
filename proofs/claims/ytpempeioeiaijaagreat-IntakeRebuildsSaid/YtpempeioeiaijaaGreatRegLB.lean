import Derived.Test.YtpempeioeiaijaaGreatJ14
import Derived.Test.YtpempeioeiaijaaGreatJ13
import Derived.Test.YtpempeioeiaijaaGreatJ04
import Derived.Test.YtpempeioeiaijaaGreatJ21
import Derived.Test.YtpempeioeiaijaaGreatJ23
import Derived.Test.YtpempeioeiaijaaGreatJ15
set_option linter.unusedSimpArgs false
set_option linter.unusedVariables false
namespace Go.Proofs.YtpempeioeiaijaaGreat
open Go.RowKit Go.Sort

def labU (p:Pl) (O:List (List Int)):Nat→Int→Int
 | 0,_=>0
 | n+1,d=>if (cyI p O (n+1)).any (fun c=>decide (d∈c))=true then (n:Int)+1 else labU p O n d
def labA (p:Pl) (O:List (List Int)) (a:Ar):Ar:=⟨a.id,a.fr,a.dst,a.via,labU p O O.length a.id,labU p O O.length (-a.id)⟩
def labP (p:Pl):Pl:=⟨p.nodes,(bareP p).arcs.map (labA (bareP p) (sortK (outX (bareP p)))),(List.range (outX (bareP p)).length).map fun i:Nat=>((i:Int)+1)⟩
def labZ (p:Pl):Int:=if checkS (bareP p)≠0 then checkS (bareP p) else if 64<(outX (bareP p)).length then 3 else 0
def plan0:Value:=.agg #[.slice none 0 0,.slice none 0 0,.slice none 0 0]
def RetLab (w:World) (p:Pl) (e:Ending) (w':World):Prop :=
 ∃ An cn Aa ca Af cf bl,e=.returned (.tuple #[.agg #[.slice An p.nodes.length cn,.slice Aa p.arcs.length ca,.slice Af p.faces.length cf],.int .i64 0])∧Below w.heap.size w w'∧PlO w' w.heap.size (.slice An p.nodes.length cn) (.slice Aa p.arcs.length ca) (.slice Af p.faces.length cf) p bl
structure Mod (p:Pl):Prop where
 nodes:p.nodes.length≤100000
 arcs:p.arcs.length≤100000
 vias:∀ a∈p.arcs,a.via.length≤100000

set_option maxRecDepth 100000 in
set_option maxHeartbeats 8000000 in
theorem Label_bad (v:Value) (p:Pl) (w:World) (h:PlV w v p) (hm:Mod p) (hz:checkS (bareP p)≠0):Calls Tryz.prog 39 #[v] w fun e w'=>e=.returned (.tuple #[plan0,.int .i64 (checkS (bareP p))])∧Below w.heap.size w w':=by
 have HBa:=Lib.hid (fun W (hW:Below w.heap.size w W)=>Bare_spec v p W (h.mono hW) hm.nodes hm.arcs hm.vias)
 have HCk:=Lib.hid (fun u W (hu:PlV W u (bareP p))=>Cycles_bad u (bareP p) W hu hz)
 obtain ⟨_,_,_,al,rfl,hpa,⟨An,cn,rfl,-⟩,⟨⟨Aa,ca,rfl,-⟩,-⟩,⟨Af,cf,rfl,-⟩⟩:=h
 generalize checkS (bareP p)=z at *
 generalize bareP p=q at *
 have hb:(z != 0)=true:=by simpa using hz
 clear hm hz hpa
 generalize p.nodes.length=nn at *
 generalize al.length=na at *
 generalize p.faces.length=nf at *
 go_enter Tryz.func39,Tryz.ntmps39
 go_upto_region 1 with fail
 obtain ⟨g2,hg2⟩:∃ g2,w.heap.size+1=g2:=⟨_,rfl⟩
 obtain ⟨W1,hW⟩:∃ W:World,W=(w.alloc (.cells #[.slice An nn cn,.slice Aa na ca,.slice Af nf cf] 34)).alloc (.cells #[.slice none 0 0,.slice none 0 0,.slice none 0 0] 34):=⟨_,rfl⟩
 have X1:Blk W1 w.heap.size 34 #[.slice An nn cn,.slice Aa na ca,.slice Af nf cf]:=by rw [hW];exact (Blk.made rfl _ _).alloc _
 have X2:Blk W1 g2 34 #[.slice none 0 0,.slice none 0 0,.slice none 0 0]:=by rw [hW];exact Blk.made (by rw [← hg2];simp) _ _
 have HB1:=Lib.hid (show Below w.heap.size w W1 by rw [hW];exact bA (bA (bR w) _) _)
 rw [← hW]
 try rw [hg2]
 have HX2:=Lib.hid X2
 have hgw:w.heap.size≤g2:=by omega
 clear hW hg2
 obtain ⟨X1l,X1a,X1b,X1c,-,-,-⟩:=X1.facts3
 go_wp2_with fail
 refine (HBa.out _ HB1.out).mono ?_
 rintro e w2 ⟨An',cn',Aa',ca',bl,rfl,hb2,hpo⟩
 have HB2:=Lib.hid (bT HB1.out hb2)
 have HX3:=Lib.hid (HX2.out.keep hb2)
 have HP:=Lib.hid hpo.plv
 clear hb2 hpo HBa X1 X1l X1a X1b X1c X2
 have X3:=HX3.out
 go_upto_region 2 with fail
 obtain ⟨W3,hW⟩:∃ W:World,W=w2.alloc (.cells #[.slice An' q.nodes.length cn',.slice Aa' q.arcs.length ca',.slice none 0 0] 34):=⟨_,rfl⟩
 have hA:Below w2.heap.size w2 W3:=by rw [hW];exact bA (bR w2) _
 obtain ⟨g4,hg4⟩:∃ g4,w2.heap.size=g4:=⟨_,rfl⟩
 have X4:Blk W3 g4 34 #[.slice An' q.nodes.length cn',.slice Aa' q.arcs.length ca',.slice none 0 0]:=by rw [hW];exact Blk.made hg4.symm _ _
 have HB3:=Lib.hid (bT HB2.out hA);have HX4:=Lib.hid (HX3.out.keep hA);have HP3:=Lib.hid (HP.out.mono hA)
 rw [← hW]
 try rw [hg4]
 clear hW hA hg4 HB2 HX3 HP X3
 obtain ⟨X4l,X4a,X4b,X4c,-,-,-⟩:=X4.facts3
 go_wp2_with fail
 refine (HCk.out _ _ HP3.out).mono ?_
 rintro e w5 ⟨Ac,cc,CL,rfl,hb5,-,-⟩
 have HB5:=Lib.hid (bT HB3.out hb5)
 have HX5:=Lib.hid (HX4.out.keep hb5)
 have X5:=HX5.out
 clear hb5 HCk X4 X4l X4a X4b X4c HB3 HX4 HP3
 obtain ⟨X5l,X5a,X5b,X5c,X5fa,X5fb,X5fc⟩:=X5.facts3
 go_wp2_with fail
 refine res_cell_tmp (g:=g2) (cs:=#[.slice none 0 0,.slice none 0 0,.slice none 0 0]) rfl struct_pl rfl rfl (Blk.put3 HX5.out) ⟨rfl,?_⟩
 exact bS (p:=⟨g2,2,none⟩) (bS (p:=⟨g2,1,none⟩) (bS (p:=⟨g2,0,none⟩) HB5.out hgw _) hgw _) hgw _

theorem DivA.perm {p:Pl} {z:AD} {sl sl':List AD} {O O' R:List (List Int)} {N:List Nd} (h:DivA p (z::sl) O R N) (hp:sl'.Perm sl) (ho:sl'.map (·.out)=O'):DivA p (z::sl') O' R N:=by
 have key:∀ x∈sl,x.inn.map (·.1)=R.filter (fun c=>decide (homeP p (cycPt p c)=some x.out))∧x.alo=(N.filter (fun n=>decide (degS p.arcs n.id=0∧homeP p n.pt=some x.out))).map (·.id):=by
  intro x hx
  obtain ⟨i,hi,rfl⟩:=List.mem_iff_getElem.1 hx
  have h1:i+1<(z::sl).length:=by simpa using hi
  have hl:=h.len
  have e:keyA O (i+1)=some sl[i].out:=by
   rw [keyA_some (by omega) (by simp only [List.length_cons] at hl;omega)]
   have:=h.out_at h1 (by omega)
   simp only [List.getElem_cons_succ,Nat.add_sub_cancel] at this ⊢
   rw [this]
  have a:=h.inn (i+1) h1
  have b:=h.alo (i+1) h1
  rw [e] at a b
  exact ⟨a,b⟩
 have hout:(z::sl').map (·.out)=[]::O':=by
  have h0:=h.out
  rw [List.map_cons] at h0 ⊢
  injection h0 with h0 _
  rw [h0,ho]
 have hlen:sl'.length=O'.length:=by rw [← ho,List.length_map]
 have hk:∀ i (hi:i<sl'.length),keyA O' (i+1)=some sl'[i].out:=fun i hi=>by
  rw [keyA_some (by omega) (by omega)]
  subst ho
  simp
 refine ⟨hout,fun i hi=>?_,fun i hi=>?_⟩
 · match i,hi with
  | 0,_=>exact h.inn 0 (by simp)
  | i+1,hi =>
   have hi':i<sl'.length:=by simpa using hi
   rw [hk i hi']
   exact (key _ (hp.subset (List.getElem_mem hi'))).1
 · match i,hi with
  | 0,_=>exact h.alo 0 (by simp)
  | i+1,hi =>
   have hi':i<sl'.length:=by simpa using hi
   rw [hk i hi']
   exact (key _ (hp.subset (List.getElem_mem hi'))).2
theorem PlO.grownA {w w':World} {B B':Nat} {vn va vf v:Value} {p:Pl} {bl:List (Ar×SV)} {L:List AD} (h:PlO w B vn va vf p bl) (ho:Own w B' 106 4 adC v L) (hg:w.grownBy w' v.ownBlock):PlO w' B vn va vf p bl :=
 ⟨Own.grown h.nds hg (Own.apart h.nds ho (by decide)),Own.grown h.ars hg (Own.apart h.ars ho (by decide)),fun x hx=>Own.grown (h.vias x hx) hg (Own.apart (h.vias x hx) ho (by decide)),h.eq,Own.grown h.fcs hg (Own.apart h.fcs ho (by decide))⟩
theorem PlO.grownM {w w':World} {B gm n:Nat} {f:Int→Int} {vn va vf:Value} {p:Pl} {bl:List (Ar×SV)} (h:PlO w B vn va vf p bl) (hm:MapII w gm n f) (hg:w.grownBy w' (some gm)):PlO w' B vn va vf p bl:=by
 have ne:∀ {α:Type} {e:TypeId} {size:Nat} {fe:α→List Value} {v:Value} {l:List α},Own w B e size fe v l→∀ g,v.ownBlock=some g→some g≠some gm:=fun ho g hg e=>by
  rcases ho.2 with ⟨rfl,_⟩ | ⟨g',cap,cur,rfl,_,hh,_⟩
  · simp [Value.ownBlock] at hg
  ·
   have:g'=gm:=by
    have h1:g'=g:=by simpa [Value.ownBlock] using hg
    have h2:=Option.some.inj e
    omega
   exact mapII_ne hm (cs:=cur) (g:=g') hh this
 exact ⟨Own.grown h.nds hg (ne h.nds),Own.grown h.ars hg (ne h.ars),fun x hx=>Own.grown (h.vias x hx) hg (ne (h.vias x hx)),h.eq,Own.grown h.fcs hg (ne h.fcs)⟩
theorem Ints.grown_sl {w w':World} {v:Value} {l:List Int} (h:Ints w v l) {g:Nat} {t:TypeId} {cs:Array Value} (hb:Blk w g t cs) (hc:∀ (j:Nat) (n:Int),cs[j]? ≠ some (.int .i64 n)) (hg:w.grownBy w' (some g)):Ints w' v l:=by
 obtain ⟨A,c,rfl,h1,h2,h3⟩:=h
 refine ⟨A,c,rfl,h1,h2,fun hne=>?_⟩
 obtain ⟨b,o,rfl,hlt,hcell⟩:=h3 hne
 have hl:0<l.length:=by
  cases l with
  | nil=>exact absurd rfl hne
  | cons a l=>simp
 have h0:(l.flatMap inC)[0]? = some (.int .i64 l[0]):=by
  cases l with
  | nil=>cases hl
  | cons a l=>rfl
 have hcl:=hcell 0 _ h0
 have hbg:b≠g:=fun e=>by
  subst e
  rw [hb.cell] at hcl
  exact hc _ _ hcl
 exact ⟨b,o,rfl,Nat.lt_of_lt_of_le hlt hg.size,fun j u hu=>by
  have:=hg.block b hlt (fun e=>hbg (Option.some.inj e))
  rw [← hcell j u hu]
  simp only [World.cell?,this]⟩
structure AdQ (w:World) (B:Nat) (v:Value) (L:List AD):Prop where
 own:Own w B 106 4 adC v L
 out:∀ x∈L,Ints w (svV x.ov) x.out
 inn:∀ x∈L,Own w B 32 1 cyC (svV x.iv) x.inn
 cyc:∀ x∈L,∀ c∈x.inn,Ints w (svV c.2) c.1
theorem plan_no_int (a b c:SV) (j:Nat) (n:Int):(#[svV a,svV b,svV c] : Array Value)[j]? ≠ some (.int .i64 n):=by
 match j with
 | 0=>intro e;cases e
 | 1=>intro e;cases e
 | 2=>intro e;cases e
 | j+3=>intro e;simp at e
theorem AdQ.grown {w w':World} {B:Nat} {v:Value} {L:List AD} (h:AdQ w B v L) {g:Nat} {a b c:SV} (hb:Blk w g 34 #[svV a,svV b,svV c]) (hg:w.grownBy w' (some g)):AdQ w' B v L:=by
 have ne:∀ {α:Type} {e:TypeId} {size:Nat} {fe:α→List Value} {v:Value} {l:List α},Own w B e size fe v l→e≠34→∀ q,v.ownBlock=some q→some q≠some g:=fun ho hne q hq e=>by
  have:=Own.ne_blk ho hb hne
  exact this (by rw [hq,e])
 exact ⟨Own.grown h.own hg (ne h.own (by decide)),fun x hx=>(h.out x hx).grown_sl hb (plan_no_int a b c) hg,fun x hx=>Own.grown (h.inn x hx) hg (ne (h.inn x hx) (by decide)),fun x hx d hd=>(h.cyc x hx d hd).grown_sl hb (plan_no_int a b c) hg⟩
def facL (n:Nat):List Int:=(List.range n).map fun i:Nat=>((i:Int)+1)
theorem facL_len (n:Nat):(facL n).length=n:=by unfold facL;simp
theorem facL_succ (n:Nat):facL (n+1)=facL n++[(n:Int)+1]:=by unfold facL;rw [List.range_succ,List.map_append];rfl
theorem map_ownI {w:World} {gm n:Nat} {f:Int→Int} {base:Nat} {e:TypeId} {size:Nat} {α:Type} {fe:α→List Value} {v:Value} {l:List α} (ho:Own w base e size fe v l) (h:MapII w gm n f):v.ownBlock≠some gm:=by
 rcases ho.2 with ⟨rfl,_⟩ | ⟨g,cap,cur,rfl,_,hh,_⟩
 · simp [Value.ownBlock]
 ·
  intro e'
  exact mapII_ne h (cs:=cur) (g:=g) hh (by simpa [Value.ownBlock] using e')
theorem MapII.setCell {w:World} {gm n:Nat} {f:Int→Int} (h:MapII w gm n f) {p:Addr} (hp:¬ gm=p.block) (u:Value):MapII (w.setCell p u) gm n f :=
 h.kept (row:=some p.block) ⟨rfl,rfl,rfl,by simp,fun i hi hne=>Below.heap_setCell w p u i (fun e=>hne (by rw [e]))⟩ (fun e=>hp (Option.some.inj e))
theorem MapII.obj {w:World} {gm n:Nat} {f:Int→Int} (h:MapII w gm n f) (j:Nat):w.cell? ⟨gm,j,none⟩=none:=by
 obtain ⟨D,h1,-⟩:=h
 obtain ⟨es,clock,h2,-⟩:=h1
 simp only [World.cell?,h2]
theorem Ints.grown_map {w w':World} {v:Value} {l:List Int} (h:Ints w v l) {gm n:Nat} {f:Int→Int} (hm:MapII w gm n f) (hg:w.grownBy w' (some gm)):Ints w' v l:=by
 obtain ⟨A,c,rfl,h1,h2,h3⟩:=h
 refine ⟨A,c,rfl,h1,h2,fun hne=>?_⟩
 obtain ⟨b,o,rfl,hlt,hcell⟩:=h3 hne
 have hl:0<l.length:=by
  cases l with
  | nil=>exact absurd rfl hne
  | cons a l=>simp
 have h0:(l.flatMap inC)[0]? = some (.int .i64 l[0]):=by
  cases l with
  | nil=>cases hl
  | cons a l=>rfl
 have hcl:=hcell 0 _ h0
 have hbg:b≠gm:=fun e=>by
  subst e
  rw [hm.obj] at hcl
  cases hcl
 exact ⟨b,o,rfl,Nat.lt_of_lt_of_le hlt hg.size,fun j u hu=>by
  have:=hg.block b hlt (fun e=>hbg (Option.some.inj e))
  rw [← hcell j u hu]
  simp only [World.cell?,this]⟩
theorem cnt_cyc {n i j m:Nat} (h:n≤300000*i+513*j+m) (hm:m≤512):n≤300000*i+513*(j+1):=by omega
theorem cnt_reg {n i c:Nat} (h:n≤300000*i+513*c) (hc:c≤513):n≤300000*(i+1):=by omega
theorem cnt_small {n i j m:Nat} (h:n≤300000*i+513*j+m) (hi:i≤64) (hj:j≤513) (hm:m≤512):n<4294967296:=by omega
def labF (f:Int→Int) (a:Ar):Ar:=⟨a.id,a.fr,a.dst,a.via,f a.id,f (-a.id)⟩
def labB (f:Int→Int) (bl:List (Ar×SV)) (k:Nat):List (Ar×SV):=(bl.take k).map (fun x=>(labF f x.1,x.2))++bl.drop k
theorem labB_len (f:Int→Int) (bl:List (Ar×SV)) (k:Nat):(labB f bl k).length=bl.length:=by unfold labB;simp;omega
theorem labB_zero (f:Int→Int) (bl:List (Ar×SV)):labB f bl 0=bl:=by unfold labB;simp
theorem labB_all (f:Int→Int) (bl:List (Ar×SV)):labB f bl bl.length=bl.map (fun x=>(labF f x.1,x.2)):=by unfold labB;simp
theorem labB_at {f:Int→Int} {bl:List (Ar×SV)} {k:Nat} (hk:k<bl.length) (h:k<(labB f bl k).length):(labB f bl k)[k]=bl[k]:=by
 have e:(labB f bl k)[k]? = bl[k]? := by
  unfold labB
  rw [List.getElem?_append_right (by rw [List.length_map,List.length_take];omega),List.getElem?_drop]
  simp only [List.length_map,List.length_take]
  congr 1
  omega
 rw [List.getElem?_eq_getElem h,List.getElem?_eq_getElem hk] at e
 exact Option.some.inj e
theorem labB_set {f:Int→Int} {bl:List (Ar×SV)} {k:Nat} (hk:k<bl.length):(labB f bl k).set k (labF f bl[k].1,bl[k].2)=labB f bl (k+1):=by
 unfold labB
 have hl:((bl.take k).map (fun x=>(labF f x.1,x.2))).length=k:=by rw [List.length_map,List.length_take];omega
 rw [List.set_append_right _ _ (by omega),hl,Nat.sub_self,List.take_succ_eq_append_getElem hk,List.map_append,List.append_assoc,List.drop_eq_getElem_cons hk,List.set_cons_zero]
 rfl
theorem Own.ar_at {w:World} {B n c:Nat} {A:Option Addr} {L:List (Ar×SV)} (h:Own w B 50 6 arS (.slice A n c) L) {k:Nat} (hk:k<L.length):∃ g,A=some ⟨g,0,none⟩∧B≤g∧g<w.heap.size∧(∀ j,w.frozen? ⟨g,j,none⟩=false) ∧
  w.cell? ⟨g,k*6,none⟩=some (.int .i64 L[k].1.id)∧w.cell? ⟨g,k*6+1,none⟩=some (.int .i64 L[k].1.fr)∧w.cell? ⟨g,k*6+2,none⟩=some (.int .i64 L[k].1.dst)∧w.cell? ⟨g,k*6+3,none⟩=some (.slice L[k].2.a L[k].2.n L[k].2.c)∧w.cell? ⟨g,k*6+4,none⟩=some (.int .i64 L[k].1.left)∧w.cell? ⟨g,k*6+5,none⟩=some (.int .i64 L[k].1.right):=by
 have hr:=h.row_of
 rcases h.2 with ⟨hv,h0⟩ | ⟨g,cap,cur,hv,hg,hh,-⟩
 · omega
 ·
  injection hv with e1 e2 e3
  subst e1
  obtain ⟨b,o,hbo,-,c0,c1,c2,c3,c4,c5⟩:=Row.at6 hr hk
  injection hbo with hbo
  injection hbo with y1 y2 _
  subst y1 y2
  rw [Nat.zero_add] at c0 c1 c2 c3 c4 c5
  exact ⟨g,rfl,hg,Blk.lt hh,fun j=>Blk.frozen hh j,c0,c1,c2,c3,c4,c5⟩
theorem PlO.setLR {w:World} {B g n c:Nat} {vn vf:Value} {p:Pl} {bl:List (Ar×SV)} (h:PlO w B vn (.slice (some ⟨g,0,none⟩) n c) vf p bl) {i:Nat} (hi:i<bl.length) (l r:Int) :
  PlO ((w.setCell ⟨g,i*6+4,none⟩ (.int .i64 l)).setCell ⟨g,i*6+5,none⟩ (.int .i64 r)) B vn (.slice (some ⟨g,0,none⟩) n c) vf ⟨p.nodes,p.arcs.set i ⟨bl[i].1.id,bl[i].1.fr,bl[i].1.dst,bl[i].1.via,l,r⟩,p.faces⟩ (bl.set i (⟨bl[i].1.id,bl[i].1.fr,bl[i].1.dst,bl[i].1.via,l,r⟩,bl[i].2)):=by
 have far:∀ {α:Type} {e:TypeId} {size:Nat} {fe:α→List Value} {v:Value} {m:List α},Own w B e size fe v m→e≠50→Own ((w.setCell ⟨g,i*6+4,none⟩ (.int .i64 l)).setCell ⟨g,i*6+5,none⟩ (.int .i64 r)) B e size fe v m:=fun ho hne=>by
  have hn:∀ q,_→some q≠_:=Own.apart ho h.ars hne
  exact Own.far (Own.far ho (fun e8=>hn g e8 rfl) _) (fun e8=>hn g e8 rfl) _
 have h1:=Own.put_cell arS_len h.ars hi (j:=4) (by omega) (⟨bl[i].1.id,bl[i].1.fr,bl[i].1.dst,bl[i].1.via,l,bl[i].1.right⟩,bl[i].2) (.int .i64 l) rfl
 have hi2:i<(bl.set i ((⟨bl[i].1.id,bl[i].1.fr,bl[i].1.dst,bl[i].1.via,l,bl[i].1.right⟩:Ar),bl[i].2)).length:=by rw [List.length_set];exact hi
 have h2:=Own.put_cell arS_len h1 hi2 (j:=5) (by omega) (⟨bl[i].1.id,bl[i].1.fr,bl[i].1.dst,bl[i].1.via,l,r⟩,bl[i].2) (.int .i64 r) (by rw [List.getElem_set_self];rfl)
 rw [List.set_set] at h2
 refine ⟨far h.nds (by decide),h2,fun x hx=>?_,?_,far h.fcs (by decide)⟩
 ·
  rcases mem_set_at hx with ⟨rfl,_⟩ | ⟨j,hj,_,rfl⟩
  · exact far (show Own w B 42 2 ptC (svV bl[i].2) bl[i].1.via from h.vias _ (List.getElem_mem hi)) (by decide)
  · exact far (h.vias _ (List.getElem_mem hj)) (by decide)
 · rw [List.map_set,h.eq]
theorem PlO.face {w w1:World} {B:Nat} {vn va vf vf':Value} {p:Pl} {bl:List (Ar×SV)} {n:Int} (h:PlO w B vn va vf p bl) (ho:Own w1 B 3 1 inC vf' (p.faces++[n])) (hg:w.grownBy w1 vf.ownBlock) :
  PlO w1 B vn va vf' ⟨p.nodes,p.arcs,p.faces++[n]⟩ bl :=
 ⟨Own.grown h.nds hg (Own.apart h.nds h.fcs (by decide)),Own.grown h.ars hg (Own.apart h.ars h.fcs (by decide)),fun y hy=>Own.grown (h.vias y hy) hg (Own.apart (h.vias y hy) h.fcs (by decide)),h.eq,ho⟩
def labM (f:Int→Int) (v:Int) (cs:List (List Int)) (d:Int):Int:=if cs.any (fun c=>decide (d∈c))=true then v else f d
theorem labM_nil (f:Int→Int) (v:Int):labM f v []=f:=by funext d;rfl
theorem labM_empty (f:Int→Int) (v:Int) (cs:List (List Int)):labM f v (cs++[[]])=labM f v cs:=by funext d;unfold labM;simp
theorem labM_step (f:Int→Int) (v:Int) (cs:List (List Int)) (c:List Int) {m:Nat} (hm:m<c.length):labM f v (cs++[c.take (m+1)])=fun i=>if i=c[m] then v else labM f v (cs++[c.take m]) i:=by
 funext d
 unfold labM
 rw [List.take_succ_eq_append_getElem hm]
 simp only [List.any_append,List.any_cons,List.any_nil,Bool.or_false,List.mem_append,List.mem_singleton,Bool.or_eq_true,decide_eq_true_eq]
 by_cases e:d=c[m]
 · rw [if_pos e,if_pos (.inr (.inr e))]
 ·
  rw [if_neg e]
  by_cases e2:(cs.any fun c=>decide (d∈c))=true∨d∈c.take m
  · rw [if_pos (by rcases e2 with g | g;exact .inl g;exact .inr (.inl g)),if_pos e2]
  · rw [if_neg (by rintro (g | g | g);exact e2 (.inl g);exact e2 (.inr g);exact e g),if_neg e2]
theorem labU_succ (p:Pl) (O:List (List Int)) (n:Nat):labU p O (n+1)=labM (labU p O n) ((n:Int)+1) (cyI p O (n+1)):=rfl

set_option maxRecDepth 100000 in
set_option maxHeartbeats 8000000 in
theorem Label_ok (v:Value) (p:Pl) (w:World) (h:PlV w v p) (hm:Mod p) (hz:checkS (bareP p)=0):Calls Tryz.prog 39 #[v] w fun e w'=>(64<(outX (bareP p)).length∧e=.returned (.tuple #[plan0,.int .i64 3])∧Below w.heap.size w w')∨(¬ 64<(outX (bareP p)).length∧RetLab w (labP p) e w'):=by
 have hv:=(check_zero _).1 hz
 have HBa:=Lib.hid (fun W (hW:Below w.heap.size w W)=>Bare_spec v p W (h.mono hW) hm.nodes hm.arcs hm.vias)
 have HCk:=Lib.hid (fun u W (hu:PlV W u (bareP p))=>Cycles_spec u (bareP p) W hu hv)
 have HPo:=Lib.hid (fun u W (hu:PlV W u (bareP p))=>PathsOf_spec u (bareP p) W hu hv)
 have HDi:=Lib.hid (fun u vc CL gm f W (hu:PlV W u (bareP p)) hc hcl hpm=>(Divide_spec u vc (bareP p) CL gm f W hu hv hc hcl hpm).mono (R':=fun e w'=>∃ gL cL z sl,e=.returned (.slice (some ⟨gL,0,none⟩) (sl.length+1) cL)∧(1:Int)≤(sl.length:Int)+1∧W.heap.size≤gL∧Below W.heap.size W w'∧AdT 106 W w' W.heap.size (.slice (some ⟨gL,0,none⟩) (sl.length+1) cL) (z::sl)∧DivA (bareP p) (z::sl) (outX (bareP p)) (resX (bareP p)) (bareP p).nodes∧sl.length+1≤cL) (by
  rintro e w' ⟨A,c,L,rfl,hb,had,hdv,-⟩
  have hl:=hdv.len
  obtain ⟨g,hg,hg0,-,-,-⟩:=Own.ad_cell had.own (by omega)
  subst hg
  cases L with
  | nil=>simp at hl
  | cons z sl =>
   obtain ⟨A',c',he',h1,-,-⟩:=had.own.sl
   injection he' with y1 y2 y3
   subst y3
   exact ⟨g,c,z,sl,rfl,by omega,hg0,hb,had,hdv,h1⟩))
 have HV:=Lib.hid hv
 have HSo:=Lib.hid (@SortAdT_spec)
 have hmm:=@run_makeMap Tryz.prog
 obtain ⟨_,_,_,al,rfl,hpa,⟨An,cn,rfl,-⟩,⟨⟨Aa,ca,rfl,-⟩,-⟩,⟨Af,cf,rfl,-⟩⟩:=h
 obtain ⟨q,hq⟩:∃ q,bareP p=q:=⟨_,rfl⟩
 obtain ⟨r,hr⟩:∃ r,labP p=r:=⟨_,rfl⟩
 have hr2:=hr
 unfold labP at hr2
 rw [hq] at hr2
 have HRe:=Lib.hid hr2
 rw [hr]
 rw [hq] at HBa HCk HPo HDi HV ⊢
 have hqn:p.nodes=q.nodes:=by rw [← hq];rfl
 have HQn:=Lib.hid hqn
 have hqf:q.faces=[]:=by rw [← hq];rfl
 have HQf:=Lib.hid hqf
 clear hm hz hpa hv hr hr2 hq hqn hqf
 generalize p.nodes.length=nn at *
 generalize al.length=na at *
 generalize p.faces.length=nf at *
 go_enter Tryz.func39,Tryz.ntmps39
 go_upto_region 1 with fail
 obtain ⟨g2,hg2⟩:∃ g2,w.heap.size+1=g2:=⟨_,rfl⟩
 obtain ⟨W1,hW⟩:∃ W:World,W=(w.alloc (.cells #[.slice An nn cn,.slice Aa na ca,.slice Af nf cf] 34)).alloc (.cells #[.slice none 0 0,.slice none 0 0,.slice none 0 0] 34):=⟨_,rfl⟩
 have X1:Blk W1 w.heap.size 34 #[.slice An nn cn,.slice Aa na ca,.slice Af nf cf]:=by rw [hW];exact (Blk.made rfl _ _).alloc _
 have X2:Blk W1 g2 34 #[.slice none 0 0,.slice none 0 0,.slice none 0 0]:=by rw [hW];exact Blk.made (by rw [← hg2];simp) _ _
 have HB1:=Lib.hid (show Below w.heap.size w W1 by rw [hW];exact bA (bA (bR w) _) _)
 rw [← hW]
 try rw [hg2]
 have HX2:=Lib.hid X2
 have hgw:w.heap.size≤g2:=by omega
 clear hW hg2
 obtain ⟨X1l,X1a,X1b,X1c,-,-,-⟩:=X1.facts3
 go_wp2_with fail
 refine (HBa.out _ HB1.out).mono ?_
 rintro e w2 ⟨An',cn',Aa',ca',bl,rfl,hb2,hpo⟩
 have HB2:=Lib.hid (bT HB1.out hb2)
 have HX3:=Lib.hid (HX2.out.keep hb2)
 have hz1:=HB1.out.size
 have HP:=Lib.hid (show PlO w2 w.heap.size (.slice An' q.nodes.length cn') (.slice Aa' q.arcs.length ca') (.slice none 0 0) q bl from ⟨hpo.nds.mono_base hz1,hpo.ars.mono_base hz1,fun x hx=>(hpo.vias x hx).mono_base hz1,hpo.eq,hpo.fcs.mono_base hz1⟩)
 clear hb2 hpo HBa X1 X1l X1a X1b X1c X2 HX2 HB1 hz1
 go_upto_region 2 with fail
 obtain ⟨W3,hW⟩:∃ W:World,W=w2.alloc (.cells #[.slice An' q.nodes.length cn',.slice Aa' q.arcs.length ca',.slice none 0 0] 34):=⟨_,rfl⟩
 have hA:Below w2.heap.size w2 W3:=by rw [hW];exact bA (bR w2) _
 obtain ⟨g4,hg4⟩:∃ g4,w2.heap.size=g4:=⟨_,rfl⟩
 have X4:Blk W3 g4 34 #[.slice An' q.nodes.length cn',.slice Aa' q.arcs.length ca',.slice none 0 0]:=by rw [hW];exact Blk.made hg4.symm _ _
 have HB3:=Lib.hid (bT HB2.out hA);have HX4:=Lib.hid (HX3.out.keep hA);have HP3:=Lib.hid (HP.out.keep hA);have HX44:=Lib.hid X4
 have hg4w:w.heap.size≤g4:=by have:=HB2.out.size;omega
 have hg24:¬ g2=g4:=by have:=HX3.out.lt;omega
 rw [← hW]
 try rw [hg4]
 clear hW hA hg4 HB2 HX3 HP
 obtain ⟨X4l,X4a,X4b,X4c,-,-,-⟩:=X4.facts3
 go_wp2_with fail
 refine (HCk.out _ _ HP3.out.plv).mono ?_
 rintro e w5 ⟨Ac,cc,CL,rfl,hb5,hcl,hco⟩
 have HB5:=Lib.hid (bT HB3.out hb5)
 have HX5:=Lib.hid (HX4.out.keep hb5);have HX54:=Lib.hid (HX44.out.keep hb5);have HP5:=Lib.hid (HP3.out.keep hb5)
 have hle:(cyclesD q).length=CL.length:=by rw [← hcl,List.length_map]
 have hcr:=hco.read
 rw [hle] at hcr ⊢
 have HCl:=Lib.hid hcl;have HCr:=Lib.hid hcr;have HCo:=Lib.hid hco
 have X5:=HX54.out
 clear hb5 HCk X4 X4l X4a X4b X4c HB3 HX4 HP3 hcl hcr hco hle HX44
 obtain ⟨X5l,X5a,X5b,X5c,-,-,-⟩:=X5.facts3
 go_upto_region 5 with fail
 refine rg_start (Since w5) (.run 3 0 0 (.call 3 15 (.call 4 31 (.take 5 63 (.take 6 127 (.done)))))) (by kernel_rfl) (bD (bR _)) (by kernel_rfl) (by kernel_rfl) (Nat.le_of_ble_eq_true (by kernel_rfl)) ?_
 intro opsR QR Hops HQrg hS
 iterate 3
  apply rg_p;exact Hops;exact rfl;exact hS;exact rfl
  · intro _ hqc;go_simp;try rfl
  try simp only [pu]
 refine rg_call (i:=3) (get_of Hops rfl) (fun K hK=>?_)
 have HSrg:=Lib.hid hS;clear hS
 refine rg_run (wanted_plain rfl) ?_
 go_simp
 refine (HPo.out _ _ ((HP5.out.keep HSrg.out).plv)).mono ?_
 rintro e wr1 ⟨gm,f,rfl,hbr1,hgm,hpm⟩
 have hS:Since w5 wr1:=bT (w:=w5) HSrg.out hbr1
 clear HSrg
 refine hK.out _ _ hS (fun _=>?_)
 clear hK K
 try simp only [pu]
 refine rg_call (i:=4) (get_of Hops rfl) (fun K hK=>?_)
 have HSrg:=Lib.hid hS;clear hS
 refine rg_run (wanted_plain rfl) ?_
 go_simp
 refine (HDi.out _ _ CL gm f _ ((HP5.out.keep HSrg.out).plv) (HCr.out.mono HSrg.out) HCl.out hpm).mono ?_
 rintro e wr2 ⟨gL,cL,z,sl,rfl,kL1,hgL,hbr2,had,hdv,hcl1⟩
 have hS:Since w5 wr2:=bT (w:=w5) HSrg.out hbr2
 clear HSrg
 refine hK.out _ _ hS (fun _=>?_)
 clear hK K
 try simp only [pu]
 iterate 2
  apply rg_p;exact Hops;exact rfl;exact hS;exact rfl
  · intro _ hqc;go_simp;try rfl
  try simp only [pu]
 refine rg_done ?_
 refine HQrg.down _ _ ?_
 have hB:Below w5.heap.size w5 wr2:=hS
 clear hS HQrg Hops
 skip
 obtain ⟨W6,hW6⟩:∃ W:World,W=wr2:=⟨_,rfl⟩
 rw [← hW6] at had hB hbr2 ⊢
 have HB6:=Lib.hid (bT HB5.out hB)
 have HX6:=Lib.hid (HX5.out.keep hB);have HX64:=Lib.hid (HX54.out.keep hB);have HP6:=Lib.hid (HP5.out.keep hB)
 have hsl:sl.length=(outX q).length:=by have:=hdv.len;simp only [List.length_cons] at this;omega
 have HAd:=Lib.hid had;have HDv:=Lib.hid hdv;have HSl:=Lib.hid hsl;have HBr1:=Lib.hid hbr1;have HBr2:=Lib.hid hbr2
 obtain ⟨PA,hPA⟩:∃ PA,(if cL=1 then some (⟨gL,0,none⟩:Addr) else some ⟨gL,4,none⟩)=PA:=⟨_,rfl⟩
 try rw [hPA]
 have HPA:=Lib.hid (show 0<sl.length→PA=some ⟨gL,4,none⟩ from fun h=>by rw [← hPA,if_neg (by omega)])
 have hgw5:w.heap.size≤gL:=by have:=HB5.out.size;have:=hbr1.size;simp at this;omega
 have hz6:w.heap.size≤W6.heap.size:=HB6.out.size
 clear hB hbr1 hbr2 hW6 had hdv hsl hPA hpm hgm HX5 HX54 HP5 X5 X5l X5a X5b X5c HPo HDi kL1
 by_cases h64:64<sl.length
 ·
  have H64:=Lib.hid (show 64<(outX q).length by rw [← HSl.out];exact h64)
  have hg64:(64:Int)<(sl.length:Int):=by omega
  have X6:=HX6.out
  clear h64
  obtain ⟨X6l,X6a,X6b,X6c,X6fa,X6fb,X6fc⟩:=X6.facts3
  go_wp2_with fail
  refine res_cell_tmp (g:=g2) (cs:=#[.slice none 0 0,.slice none 0 0,.slice none 0 0]) rfl struct_pl rfl rfl (Blk.put3 HX6.out) (.inl ⟨H64.out,rfl,?_⟩)
  exact bS (p:=⟨g2,2,none⟩) (bS (p:=⟨g2,1,none⟩) (bS (p:=⟨g2,0,none⟩) HB6.out hgw _) hgw _) hgw _
 have H64:=Lib.hid (show ¬ 64<(outX q).length by rw [← HSl.out];exact h64)
 have hg64:¬ (64:Int)<(sl.length:Int):=by omega
 have hsl64:sl.length≤64:=by omega
 clear h64
 have HAk:=Lib.hid (show ∀ s∈sl,AdKey wr1 s from fun s hs=>by
  have hm:s∈z::sl:=List.mem_cons_of_mem _ hs
  obtain ⟨i,hi,hie⟩:=List.mem_iff_getElem.1 hs
  have h1:i+1<(z::sl).length:=by simpa using hi
  have ho:=HDv.out.out_at h1 (by omega)
  have hl:=HDv.out.len
  simp only [List.getElem_cons_succ] at ho
  rw [hie] at ho
  have hX:s.out∈outX q:=by rw [ho];exact List.getElem_mem _
  have hc:=(mem_outX.1 hX).1
  exact ⟨HAd.out.out s hm,List.length_pos_iff.2 (HV.out.cyc_ne hc),fun d hd=>HV.out.dart_bd ((HV.out.cyc_nodup hc).2 d hd)⟩)
 have HSrt:=Lib.hid (show Calls Tryz.prog 73 #[.slice PA sl.length (cL-1),.func (.func 74) #[] #[]] W6 fun e w'=>e=.returned (.tuple #[])∧∃ sl':List AD,sl'.Perm sl∧sl'.Pairwise (fun a b=>ltOf (fun x y:AD=>cmpK (keyL x.out) (keyL y.out)) b a=false)∧Own w' wr1.heap.size 106 4 adC (.slice (some ⟨gL,0,none⟩) (sl.length+1) cL) (z::sl')∧W6.grownBy w' (some gL) from by
  rcases Nat.eq_zero_or_pos sl.length with h0 | h0
  ·
   have hs0:sl=[]:=List.eq_nil_of_length_eq_zero h0
   rw [h0]
   refine Calls.mono (AnyF.slices_SortFunc_none Tryz.sortAd PA (cL-1) (.func (.func 74) #[] #[]) W6) ?_
   rintro e w' ⟨rfl,rfl⟩
   have ho:=HAd.out.own
   rw [hs0] at ho
   exact ⟨rfl,[],by rw [hs0],List.Pairwise.nil,ho,World.grownBy.refl _ _⟩
  ·
   rw [HPA.out h0]
   exact HSo.out wr1 wr1.heap.size gL cL (cL-1) z sl W6 HAd.out.own h0 HBr2.out (Nat.le_refl _) HAk.out (by omega))
 go_wp2_with fail
 refine HSrt.out.mono ?_
 rintro e w7 ⟨rfl,sl',hp,hs,ho7,hg7⟩
 have hb7:=bG HBr2.out hg7 (fun k hk=>by have:=Option.some.inj hk;have:=(HAd.out.own.lt gL rfl).1;omega)
 have HB7:=Lib.hid (bG HB6.out hg7 (fun k hk=>by have:=Option.some.inj hk;omega))
 have hll:=hp.length_eq
 have HP7:=Lib.hid (HP6.out.grownA HAd.out.own hg7)
 have HX7:=Lib.hid (Blk.grown HX6.out hg7 (fun e=>Own.ne_blk HAd.out.own HX6.out (by decide) e.symm))
 have HX74:=Lib.hid (Blk.grown HX64.out hg7 (fun e=>Own.ne_blk HAd.out.own HX64.out (by decide) e.symm))
 have hord:sl'.map (·.out)=sortK (outX q):=by
  refine HV.out.sort_eq ?_ ?_
  ·
   have h1:=hp.map (·.out)
   refine h1.trans ?_
   have h2:=HDv.out.out
   rw [List.map_cons] at h2
   injection h2 with _ h2
   rw [h2]
  ·
   rw [List.pairwise_map]
   refine hs.imp (fun {a b} g=>?_)
   have g':ltOf (fun x y:AD=>cmpK (keyL x.out) (keyL y.out)) b a=false:=g
   rw [ltOf_cmpK (fun x:AD=>keyL x.out)] at g'
   exact g'
 obtain ⟨O,hO⟩:∃ O,sortK (outX q)=O:=⟨_,rfl⟩
 rw [hO] at hord
 have hdp:=HDv.out.perm hp hord
 have HD:=Lib.hid hdp
 have hmem:∀ x∈z::sl',x∈z::sl:=fun x hx=>by
  rcases List.mem_cons.1 hx with rfl | hx
  · exact List.mem_cons_self
  · exact List.mem_cons_of_mem _ (hp.subset hx)
 have HA7:=Lib.hid (show AdQ w7 wr1.heap.size (.slice (some ⟨gL,0,none⟩) (sl.length+1) cL) (z::sl') from ⟨ho7,fun x hx=>(HAd.out.out x (hmem x hx)).mono hb7,fun x hx=>Own.grown (HAd.out.inn x (hmem x hx)) hg7 (fun g hg=>Own.apart (HAd.out.inn x (hmem x hx)) HAd.out.own (by decide) g hg),fun x hx c hc=>(HAd.out.cyc x (hmem x hx) c hc).mono hb7⟩)
 have HOe:=Lib.hid hO
 have HLl:=Lib.hid hll
 have hol:O.length=sl.length:=by rw [← hord,List.length_map,hll]
 have HOl:=Lib.hid hol
 clear hp hs ho7 hg7 hb7 hll hord hO hdp hmem hol HSrt HSo HAk HB6 HX6 HX64 HP6 HAd HDv HBr1 HBr2
 go_upto_region 10 with fail
 obtain ⟨gs,hgs⟩:∃ gs,w7.heap.size=gs:=⟨_,rfl⟩
 obtain ⟨W8,hW⟩:∃ W:World,W=w7.alloc (.map #[] 0):=⟨_,rfl⟩
 have hA:Below w7.heap.size w7 W8:=by rw [hW];exact bA (bR w7) _
 have HM8:=Lib.hid (show MapII W8 gs 0 (labU q O 0) by
  have:=MapII.made w7
  rw [hW,← hgs];exact this)
 have HP8:=Lib.hid (HP7.out.keep hA);have HX8:=Lib.hid (HX7.out.keep hA);have HX84:=Lib.hid (HX74.out.keep hA)
 have HG8:=Lib.hid (show w7.grownBy W8 (some g4) from gOf hA)
 rw [← hW]
 try rw [hgs]
 have hgs7:w7.heap.size≤gs:=by omega
 have hgsn:¬ gs=g4:=by have:=HX74.out.lt;omega
 have hgs2:¬ gs=g2:=by have:=HX7.out.lt;omega
 clear hW hA hgs hmm HP7
 go_upto_block 0 with fail
 go_wp2_with fail
 go_loopw [42] (fun u wr=>∃ i:Nat,i≤sl.length∧u=.int .i64 i∧(∃ Af c,PlO wr w.heap.size (.slice An' q.nodes.length cn') (.slice Aa' q.arcs.length ca') (.slice Af i c) ⟨q.nodes,q.arcs,facL i⟩ bl∧Blk wr g4 34 #[.slice An' q.nodes.length cn',.slice Aa' q.arcs.length ca',.slice Af i c]∧∀ k,(Value.slice Af i c).ownBlock=some k→w7.heap.size≤k)∧(∃ n,n≤300000*i∧MapII wr gs n (labU q O i))∧Blk wr g2 34 #[.slice none 0 0,.slice none 0 0,.slice none 0 0]∧w7.grownBy wr (some g4)) (fun u _=>sl.length-(intOf u).toNat)
 case atStart => exact ⟨0,Nat.zero_le _,rfl,⟨none,0,⟨HP8.out.nds,HP8.out.ars,HP8.out.vias,HP8.out.eq,Own.nil _ _ _ _ _⟩,HX84.out,fun k hk=>by cases hk⟩,⟨0,by omega,HM8.out⟩,HX8.out,HG8.out⟩
 case round =>
  clear HP8 HX8 HX84 HG8 HM8
  obtain ⟨i,hi,rfl,⟨Af,cf,hpo,X4,hfg⟩,⟨nm,hnm,hmp⟩,X2,hg⟩:=hrel
  have HFg:=Lib.hid hfg
  obtain ⟨wo,rfl⟩:∃ wo:World,wo=wr:=⟨_,rfl⟩
  have HP:=Lib.hid hpo;have HX4:=Lib.hid X4;have HM:=Lib.hid hmp;have HX2:=Lib.hid X2;have HG:=Lib.hid hg
  have HAq:=Lib.hid (HA7.out.grown (a:=⟨An',q.nodes.length,cn'⟩) (b:=⟨Aa',q.arcs.length,ca'⟩) (c:=⟨none,0,0⟩) HX74.out hg)
  have HB:=Lib.hid (bG HB7.out hg (fun k hk=>by have:=Option.some.inj hk;omega))
  have hzo:=hg.size
  have hl4:=X4.lt
  have hmlt:=hmp.lt
  clear hpo hmp hg hfg
  by_cases hlt:i<sl.length
  ·
   have hi1:i+1<(z::sl').length:=by have:=HLl.out;simp only [List.length_cons];omega
   have hPA:=HPA.out (by omega)
   obtain ⟨hgl,-,e0,e1,e2,e3⟩:=Own.ad_at HAq.out.own hi1
   have hcys:=HD.out.cys_at hi1
   have hxm:(z::sl')[i+1]∈z::sl':=List.getElem_mem hi1
   have hxf:∀ W,w7.grownBy W (some g4)→Ints W (svV (z::sl')[i+1].ov) (z::sl')[i+1].out∧Own W wr1.heap.size 32 1 cyC (svV (z::sl')[i+1].iv) (z::sl')[i+1].inn∧∀ c∈(z::sl')[i+1].inn,Ints W (svV c.2) c.1:=fun W hg=>by
    have h:=HA7.out.grown (a:=⟨An',q.nodes.length,cn'⟩) (b:=⟨Aa',q.arcs.length,ca'⟩) (c:=⟨none,0,0⟩) HX74.out hg
    exact ⟨h.out _ hxm,h.inn _ hxm,h.cyc _ hxm⟩
   have hinl:(z::sl')[i+1].inn.length≤512:=by
    have h9:=congrArg List.length (HD.out.inn (i+1) hi1)
    rw [List.length_map] at h9
    rw [h9]
    refine Nat.le_trans (List.length_filter_le _ _) ?_
    exact Nat.le_trans (List.length_filter_le _ _) HV.out.cycs_len
   generalize (z::sl')[i+1]=x at *
   obtain ⟨tw,X,⟨oa,on,oc⟩,In,⟨ia,in_,ic⟩,al',⟨aa,an,ac⟩⟩:=x
   unfold svV at e1 e2 e3
   simp only at e0 e1 e2 e3 hinl
   rw [show (i+1)*4=4+i*4 by omega] at e0 e1 e2 e3
   have HCy:=Lib.hid hcys;have HXf:=Lib.hid hxf
   have ki1:(i:Int)<sl.length:=by omega
   have ki2:0≤(i:Int):=by omega
   have hfl:=facL_len i
   have HFl:=Lib.hid hfl
   have HFs:=Lib.hid (facL_succ i)
   have hsh:(facL i++[(i:Int)+1]).length=i+1:=by rw [List.length_append,hfl];rfl
   have HSh:=Lib.hid hsh
   have hfl2:(facL i).length≤64:=by omega
   have n4:=Own.ne_blk HP.out.fcs HX4.out (by decide)
   clear hcys hxf hxm hfl hsh X2
   go_upto_region 13 with fail
   obtain ⟨W9,hW⟩:∃ W:World,W=wo.alloc (.cells #[.int .i64 tw,.slice oa on oc,.slice ia in_ ic,.slice aa an ac] 106):=⟨_,rfl⟩
   have hA:Below wo.heap.size wo W9:=by rw [hW];exact bA (bR wo) _
   obtain ⟨g9,hg9⟩:∃ g9,wo.heap.size=g9:=⟨_,rfl⟩
   have X9:Blk W9 g9 106 #[.int .i64 tw,.slice oa on oc,.slice ia in_ ic,.slice aa an ac]:=by rw [hW];exact Blk.made hg9.symm _ _
   have HP9:=Lib.hid (HP.out.keep hA);have HX94:=Lib.hid (HX4.out.keep hA);have HM9:=Lib.hid (HM.out.keep hA);have HX92:=Lib.hid (HX2.out.keep hA);have HG9:=Lib.hid (gB HG.out hA);have HX99:=Lib.hid X9
   have n94:¬ g9=g4:=by omega
   rw [← hW]
   try rw [hg9]
   clear hW hA e0 e1 e2 e3 hgl X4 HP HX4 HM HX2 HG HB
   have X4:=HX94.out
   try clear X4l
   try clear X4a
   try clear X4b
   try clear X4c
   obtain ⟨X4l,X4a,X4b,X4c,X4fa,X4fb,X4fc⟩:=X4.facts3
   go_upto_region 14 with
    (at_builtin
     refine wpList_appl _ rfl (.tmp 48) (.tmp 51) _ rfl (base:=w.heap.size) elem_in inC_len inC_one rfl (Own.alloc HP9.out.fcs _) rfl (l2:=[(i:Int)+1]) (Sl.lit (n:=1) (Blk.made rfl _ _) rfl (le_maxLen (by omega))) (by simp only [List.length_cons,List.length_nil];omega) (by simp only [List.length_cons,List.length_nil];omega) (by have:=HG9.out.size;have:=HB7.out.size;simp;omega) ?_
     intro v10 w10 ho10 hg10 hat10
     obtain ⟨A10,c10,hv10,-⟩:=Own.shape_ ho10
     rw [HSh.out] at hv10
     subst hv10
     have hx10:=Blk.grown (HX94.out.alloc _) hg10 (fun e=>n4 e.symm)
     have hp10:=(HP9.out.keep (bA (bR W9) _)).face ho10 hg10
     have HP10:=Lib.hid (hp10.far hx10 (by decide) (by decide) (by decide) (by decide) 2 (.slice A10 (i+1) c10))
     have HX104:=Lib.hid (hx10.set_ 2 (.slice A10 (i+1) c10))
     have hm10:MapII w10 gs nm (labU q O i):=(HM9.out.keep (bA (bR W9) _)).kept hg10 (fun e=>by
      have:=map_ownI HP9.out.fcs HM9.out
      exact this e.symm)
     have HM10:=Lib.hid (hm10.setCell (p:=⟨g4,2,none⟩) hgsn (.slice A10 (i+1) c10))
     have HX102:=Lib.hid (Blk.far (p:=⟨g4,2,none⟩) (Blk.grown (HX92.out.alloc _) hg10 (fun e=>Own.ne_blk HP9.out.fcs HX92.out (by decide) e.symm)) hg24 (.slice A10 (i+1) c10))
     have HX109:=Lib.hid (Blk.far (p:=⟨g4,2,none⟩) (Blk.grown (HX99.out.alloc _) hg10 (fun e=>Own.ne_blk HP9.out.fcs HX99.out (by decide) e.symm)) n94 (.slice A10 (i+1) c10))
     have HG10:=Lib.hid (gS (gFar (gA HG9.out _) hg10 (fun k hk=>HFg.out k hk)) 2 (.slice A10 (i+1) c10))
     have HFg10:=Lib.hid (show ∀ k,(Value.slice A10 (i+1) c10).ownBlock=some k→w7.heap.size≤k from at_ge hat10 HFg.out (by have:=HG9.out.size;simp;omega))
     clear ho10 hat10 hg10 hm10 hp10 X4 X4l X4a X4b X4c X4fa X4fb X4fc
     have X4:=hx10
     try clear X4l
     try clear X4a
     try clear X4b
     try clear X4c
     try clear X4fa
     try clear X4fb
     try clear X4fc
     obtain ⟨X4l,X4a,X4b,X4c,X4fa,X4fb,X4fc⟩:=X4.facts3
     )
   obtain ⟨W10,hW10⟩:∃ W:World,W=w10.setCell ⟨g4,2,none⟩ (.slice A10 (i+1) c10):=⟨_,rfl⟩
   rw [← hW10] at HP10 HX104 HM10 HX102 HX109 HG10 ⊢
   have HX14:=Lib.hid (show Blk W10 g4 34 #[.slice An' q.nodes.length cn',.slice Aa' q.arcs.length ca',.slice A10 (i+1) c10] by simpa using HX104.out)
   obtain ⟨hx1,hx2,hx3⟩:=HXf.out W10 HG10.out
   have hAC:=AreaCycles_spec ⟨tw,X,⟨oa,on,oc⟩,In,⟨ia,in_,ic⟩,al',⟨aa,an,ac⟩⟩ W10 hx2.sl (by show In.length≤100000;omega)
   have hcyl:(cysAD ⟨tw,X,⟨oa,on,oc⟩,In,⟨ia,in_,ic⟩,al',⟨aa,an,ac⟩⟩).length≤513:=by show In.length+1≤513;omega
   have hcr:∀ y∈cysAD ⟨tw,X,⟨oa,on,oc⟩,In,⟨ia,in_,ic⟩,al',⟨aa,an,ac⟩⟩,Ints W10 (svV y.2) y.1:=fun y hy=>by
    rcases List.mem_cons.1 hy with rfl | hy
    · exact hx1
    · exact hx3 y hy
   have hck:=HCy.out
   unfold svV at hAC
   simp only at hAC
   generalize cysAD ⟨tw,X,⟨oa,on,oc⟩,In,⟨ia,in_,ic⟩,al',⟨aa,an,ac⟩⟩=CY at *
   have HAC:=Lib.hid hAC;have HCr:=Lib.hid hcr;have HCk:=Lib.hid hck
   have X9:=HX109.out
   clear hW10 hx1 hx2 hx3 hAC hcr hck HCy X4 X4l X4a X4b X4c X4fa X4fb X4fc HX104 HP9 HX94 HM9 HX92 HG9 HX99 HXf
   obtain ⟨X9l,X9a,X9b,X9c,X9d,-,-,-,-⟩:=X9.facts4
   go_wp2_with fail
   refine HAC.out.mono ?_
   rintro e w11 ⟨⟨A2,c2,rfl,ho2⟩,hb11⟩
   have HP11:=Lib.hid (HP10.out.keep hb11);have HX114:=Lib.hid (HX14.out.keep hb11);have HM11:=Lib.hid (HM10.out.keep hb11);have HX112:=Lib.hid (HX102.out.keep hb11);have HG11:=Lib.hid (gB HG10.out hb11)
   have HO2:=Lib.hid ho2
   have HCr11:=Lib.hid (show ∀ y∈CY,Ints w11 (svV y.2) y.1 from fun y hy=>(HCr.out y hy).mono hb11)
   have hl114:=HX114.out.lt
   clear hb11 ho2 X9 X9l X9a X9b X9c X9d HAC HP10 HX14 HM10 HX102 HX109 HG10 HCr
   go_upto_block 2 with fail
   go_wp2_with fail
   go_loopw [57] (fun u wr=>∃ j:Nat,j≤CY.length∧u=.int .i64 j∧(∃ n,n≤300000*i+513*j∧MapII wr gs n (labM (labU q O i) ((i:Int)+1) ((CY.take j).map (·.1))))∧w11.grownBy wr (some gs)) (fun u _=>CY.length-(intOf u).toNat)
   case atStart => exact ⟨0,Nat.zero_le _,rfl,⟨nm,Nat.le_trans hnm (Nat.le_add_right _ _),by rw [List.take_zero,List.map_nil,labM_nil];exact HM11.out⟩,gR w11 _⟩
   case round =>
    obtain ⟨j,hj,rfl,⟨n1,hn1,hmp⟩,hgj⟩:=hrel
    obtain ⟨wq,rfl⟩:∃ wq:World,wq=wr:=⟨_,rfl⟩
    have HM:=Lib.hid hmp;have HGj:=Lib.hid hgj
    have hzq:=hgj.size
    clear hmp hgj
    by_cases hlj:j<CY.length
    ·
     obtain ⟨b2,o2,rfl,hlb2,c0⟩:=(Own.grown HO2.out HGj.out (fun g hg e=>map_ownI HO2.out HM11.out (by rw [hg,e]))).row_of.cy hlj
     have hin:=(HCr11.out CY[j] (List.getElem_mem hlj)).grown_map HM11.out HGj.out
     have hcy:CY[j].1∈cyI q O (i+1):=by rw [← HCk.out];exact List.mem_map_of_mem (List.getElem_mem hlj)
     have hdd:∀ d∈CY[j].1,wfI d:=fun d hd=>by
      have:=HV.out.dart_bd (HV.out.cyI_dart (fun X hX=>(sortK_facts (outX q)).1.subset (by rw [HOe.out];exact hX)) hcy hd)
      exact wfI_of (by omega) (by omega)
     have hcl:CY[j].1.length≤512:=by
      have hc2:CY[j].1=[]∨CY[j].1∈cyclesD q:=by
       unfold cyI cysX at hcy
       rcases List.mem_cons.1 hcy with e | hc
       ·
        rw [e]
        unfold keyA
        split
        · exact .inl rfl
        · cases e9:O[i+1-1]? with
         | none=>exact .inl rfl
         | some Y=>exact .inr (mem_outX.1 ((sortK_facts (outX q)).1.subset (by rw [HOe.out];exact List.mem_of_getElem? e9))).1
       · exact .inr (mem_resX.1 (List.mem_filter.1 hc).1).1
      rcases hc2 with e | hc
      · rw [e];simp
      · exact Nat.le_trans (nodup_le (HV.out.cyc_nodup hc).1 (HV.out.cyc_nodup hc).2) HV.out.dart_cnt
     have htk:(CY.take (j+1)).map (·.1)=(CY.take j).map (·.1)++[CY[j].1]:=by rw [List.take_succ_eq_append_getElem hlj,List.map_append];rfl
     generalize CY[j]=x at *
     obtain ⟨C,xa,xn,xc⟩:=x
     unfold svV at hin
     simp only at hin c0 hdd hcl htk
     have hin0:=hin
     obtain ⟨Ax,cx,he,hx1,hx2,hRx⟩:=hin
     injection he with y1 y2 y3
     subst y1 y2 y3
     unfold maxLen at hx2
     have HIn:=Lib.hid hin0;have HDd:=Lib.hid hdd;have HTk:=Lib.hid htk
     clear hin0 hdd htk hcy hRx
     have HMe:=Lib.hid (labM_empty (labU q O i) ((i:Int)+1) ((CY.take j).map (·.1)))
     go_upto_block 4 with fail
     clear c0 hlb2
     go_wp2_with fail
     go_loopw [63] (fun u wr=>∃ m:Nat,m≤C.length∧u=.int .i64 m∧(∃ n,n≤300000*i+513*j+m∧MapII wr gs n (labM (labU q O i) ((i:Int)+1) ((CY.take j).map (·.1)++[C.take m])))∧wq.grownBy wr (some gs)) (fun u _=>C.length-(intOf u).toNat)
     case atStart => exact ⟨0,Nat.zero_le _,rfl,⟨n1,hn1,by rw [List.take_zero,HMe.out];exact HM.out⟩,gR wq _⟩
     case round =>
      obtain ⟨m,hm,rfl,⟨n2,hn2,hmp2⟩,hgm⟩:=hrel
      have HM2:=Lib.hid hmp2;have HGm:=Lib.hid hgm
      clear hmp2 hgm
      by_cases hlm:m<C.length
      ·
       obtain ⟨Ax',cx',he',-,-,hRx'⟩:=HIn.out.grown_map HM.out HGm.out
       injection he' with y1 y2 y3
       subst y1
       clear y2 y3
       obtain ⟨b3,o3,rfl,hlb3,d0⟩:=(show Row _ _ (C.flatMap inC) from hRx').int hlm
       have hwf:=HDd.out C[m] (List.getElem_mem hlm)
       have hst:=labM_step (labU q O i) ((i:Int)+1) ((CY.take j).map (·.1)) C hlm
       generalize C[m]=d at *
       obtain ⟨w6,hr6,hm6,hg6⟩:=HM2.out.upd (cnt_small hn2 (by omega) (by omega) (by omega)) d hwf ((i:Int)+1)
       rw [← hst] at hm6
       have HM6:=Lib.hid hm6;have HG6:=Lib.hid (gT HGm.out hg6)
       have ki8:IntKind.i64.wrap ((i:Int)+1)=(i:Int)+1:=IntWalk.i64_in _ (by omega)
       clear hm6 hg6 hst hRx'
       go_wp2_with fail
       go_roundw
       case rel => exact ⟨m+1,by omega,by go_num,⟨n2+1,Nat.succ_le_succ hn2,HM6.out⟩,HG6.out⟩
       case measure => simp [intOf];omega
      ·
       obtain rfl:m=C.length:=by omega
       have hmf:=HM2.out
       rw [List.take_length,← HTk.out] at hmf
       have HMf:=Lib.hid hmf
       clear hmf
       go_wp2_with fail
       go_roundw
       case rel => exact ⟨j+1,by omega,by go_num,⟨n2,cnt_cyc hn2 hcl,HMf.out⟩,gT HGj.out HGm.out⟩
       case measure => simp [intOf];omega
    ·
     obtain rfl:j=CY.length:=by omega
     have hmf:=HM.out
     rw [List.take_length,HCk.out,← labU_succ] at hmf
     have HMf:=Lib.hid hmf
     have HPf:=Lib.hid (HP11.out.grownM HM11.out HGj.out)
     have HX4f:=Lib.hid (Blk.grown HX114.out HGj.out (fun e=>hgsn (Option.some.inj e).symm))
     have HX2f:=Lib.hid (Blk.grown HX112.out HGj.out (fun e=>hgs2 (Option.some.inj e).symm))
     have HGf:=Lib.hid (gFar HG11.out HGj.out (fun k hk=>by have:=Option.some.inj hk;omega))
     clear hmf
     go_wp2_with fail
     rw [← hPA]
     go_roundw
     case rel => exact ⟨i+1,by omega,by go_num,⟨A10,c10,by rw [HFs.out];exact HPf.out,HX4f.out,HFg10.out⟩,⟨n1,cnt_reg hn1 hcyl,HMf.out⟩,HX2f.out,HGf.out⟩
     case measure => simp [intOf];omega
  ·
   obtain rfl:i=sl.length:=by omega
   have hbl:bl.length=q.arcs.length:=by rw [← HP.out.eq,List.length_map]
   obtain ⟨f,hf⟩:∃ f,labU q O sl.length=f:=⟨_,rfl⟩
   have HFe:=Lib.hid hf
   rw [hf] at HM
   have HBl:=Lib.hid hbl
   have HPe:=Lib.hid HP.out.eq
   have heq:(labB f bl 0).map (·.1)=q.arcs:=by rw [labB_zero];exact HP.out.eq
   have HP0:=Lib.hid (show PlO wo w.heap.size (.slice An' q.nodes.length cn') (.slice Aa' q.arcs.length ca') (.slice Af sl.length cf) ⟨q.nodes,(labB f bl 0).map (·.1),facL sl.length⟩ (labB f bl 0) from by
    rw [heq,labB_zero];exact HP.out)
   have HBd:=Lib.hid (fun a (ha:a∈q.arcs)=>HV.out.id_pos ha)
   clear hf hbl heq HP X2 HAq HG HA7
   try clear X4l
   try clear X4a
   try clear X4b
   try clear X4c
   try clear X4fa
   try clear X4fb
   try clear X4fc
   obtain ⟨X4l,X4a,X4b,X4c,-,-,-⟩:=X4.facts3
   go_upto_block 6 with fail
   clear X4 X4l X4a X4b X4c
   go_wp2_with fail
   go_loopw [77] (fun u wr=>∃ k:Nat,k≤q.arcs.length∧u=.int .i64 k∧PlO wr w.heap.size (.slice An' q.nodes.length cn') (.slice Aa' q.arcs.length ca') (.slice Af sl.length cf) ⟨q.nodes,(labB f bl k).map (·.1),facL sl.length⟩ (labB f bl k)∧MapII wr gs nm f∧Blk wr g4 34 #[.slice An' q.nodes.length cn',.slice Aa' q.arcs.length ca',.slice Af sl.length cf]∧Blk wr g2 34 #[.slice none 0 0,.slice none 0 0,.slice none 0 0]∧Below w.heap.size w wr) (fun u _=>q.arcs.length-(intOf u).toNat)
   case atStart => exact ⟨0,Nat.zero_le _,rfl,HP0.out,HM.out,HX4.out,HX2.out,HB.out⟩
   case round =>
    clear HP0 HM HX4 HX2 HB
    obtain ⟨k,hk,rfl,hpo,hmp,X4,X2,hb⟩:=hrel
    obtain ⟨wq,rfl⟩:∃ wq:World,wq=wr:=⟨_,rfl⟩
    have HP:=Lib.hid hpo;have HM:=Lib.hid hmp;have HX4:=Lib.hid X4;have HX2:=Lib.hid X2;have HB:=Lib.hid hb
    have hmlt:=hmp.lt
    have hl4:=X4.lt
    have hqa:q.arcs.length≤256:=by
     have hl:=HV.out.lim
     unfold limS at hl
     simp at hl
     omega
    clear hpo hmp hb
    by_cases hlt:k<q.arcs.length
    ·
     have hkb:k<bl.length:=by rw [HBl.out];exact hlt
     have hkl:k<(labB f bl k).length:=by rw [labB_len];exact hkb
     have hat:=labB_at (f:=f) hkb hkl
     have hset:=labB_set (f:=f) hkb
     obtain ⟨gA,hAa,hgA,hgAl,hfz,c0,c1,c2,c3,c4,c5⟩:=HP.out.ars.ar_at hkl
     have hmem:bl[k].1∈q.arcs:=by
      have:=HP.out.eq
      have h9:(labB f bl k)[k].1.id=bl[k].1.id:=by rw [hat]
      have h8:=HPe.out
      rw [← h8]
      exact List.mem_map_of_mem (List.getElem_mem hkb)
     have hid:=HBd.out _ hmem
     rw [hat] at c0 c1 c2 c3 c4 c5
     generalize bl[k]=x at *
     obtain ⟨⟨id,fr,dst,via,lf,rt⟩,⟨va,vn,vc⟩⟩:=x
     simp only at c0 c1 c2 c3 c4 c5 hid hset
     have HAt:=Lib.hid hat;have HSet:=Lib.hid hset
     have hgA4:¬ gA=g4:=fun e=>Own.ne_blk HP.out.ars HX4.out (by decide) (by rw [hAa,← e];rfl)
     have hgA2:¬ gA=g2:=fun e=>Own.ne_blk HP.out.ars HX2.out (by decide) (by rw [hAa,← e];rfl)
     have hgAs:¬ gA=gs:=fun e=>map_ownI HP.out.ars HM.out (by rw [hAa,← e];rfl)
     clear hat hset hmem X2 hfz
     go_upto_region 27 with fail
     obtain ⟨W5,hW⟩:∃ W:World,W=wq.alloc (.cells #[.int .i64 id,.int .i64 fr,.int .i64 dst,.slice va vn vc,.int .i64 lf,.int .i64 rt] 50):=⟨_,rfl⟩
     have hA:Below wq.heap.size wq W5:=by rw [hW];exact bA (bR wq) _
     obtain ⟨g15,hg15⟩:∃ g15,wq.heap.size=g15:=⟨_,rfl⟩
     have X15:Blk W5 g15 50 #[.int .i64 id,.int .i64 fr,.int .i64 dst,.slice va vn vc,.int .i64 lf,.int .i64 rt]:=by rw [hW];exact Blk.made hg15.symm _ _
     have HP5:=Lib.hid (HP.out.keep hA);have HM5:=Lib.hid (HM.out.keep hA);have HX54:=Lib.hid (HX4.out.keep hA);have HX52:=Lib.hid (HX2.out.keep hA);have HB5:=Lib.hid (bT HB.out hA)
     have hz5:=hA.size
     have n15:¬ g15=gA:=by omega
     rw [← hW]
     try rw [hg15]
     clear hW hA c0 c1 c2 c3 c4 c5 X4 HP HM HX4 HX2 HB
     have X4:=HX54.out
     have hwf1:wfI id:=wfI_of (by omega) (by omega)
     have hwf2:wfI (-id):=wfI_of (by omega) (by omega)
     have hlk1:=(HM5.out.keep (bD (bR W5))).look id hwf1
     have hlk2:=(HM5.out.keep (bD (bR W5))).look (-id) hwf2
     have kng:IntKind.i64.wrap (-id)=-id:=IntWalk.i64_in _ (by omega)
     obtain ⟨gA',hAa',-,hgAl5,hfz5,-,-,-,-,d4,d5⟩:=HP5.out.ars.ar_at hkl
     rw [hAa] at hAa'
     injection hAa' with hAa'
     injection hAa' with hAa' _ _
     rw [← hAa'] at hgAl5 hfz5 d4 d5
     have hf4:=hfz5 (k*6+4)
     have hf5:=hfz5 (k*6+5)
     have hp5:=HP5.out
     rw [hAa] at hp5
     have hlr:=hp5.setLR hkl (f id) (f (-id))
     rw [HAt.out] at hlr
     have HLr:=Lib.hid (show PlO ((W5.setCell ⟨gA,k*6+4,none⟩ (.int .i64 (f id))).setCell ⟨gA,k*6+5,none⟩ (.int .i64 (f (-id)))).drew w.heap.size (.slice An' q.nodes.length cn') (.slice Aa' q.arcs.length ca') (.slice Af sl.length cf) ⟨q.nodes,(labB f bl (k+1)).map (·.1),facL sl.length⟩ (labB f bl (k+1)) from by
      rw [hAa]
      have h9:=HSet.out
      unfold labF at h9
      simp only at h9
      have hlr2:=hlr
      simp only at hlr2
      rw [h9] at hlr2
      refine ⟨hlr2.nds,hlr2.ars,hlr2.vias,rfl,hlr2.fcs⟩)
     have HMf:=Lib.hid (show MapII ((W5.setCell ⟨gA,k*6+4,none⟩ (.int .i64 (f id))).setCell ⟨gA,k*6+5,none⟩ (.int .i64 (f (-id)))).drew gs nm f from ((HM5.out.setCell (p:=⟨gA,k*6+4,none⟩) (fun e=>hgAs e.symm) _).setCell (p:=⟨gA,k*6+5,none⟩) (fun e=>hgAs e.symm) _).keep (bD (bR _)))
     have HX4f:=Lib.hid (((HX54.out.far (p:=⟨gA,k*6+4,none⟩) (fun e=>hgA4 e.symm) (.int .i64 (f id))).far (p:=⟨gA,k*6+5,none⟩) (fun e=>hgA4 e.symm) (.int .i64 (f (-id)))).drew)
     have HX2f:=Lib.hid (((HX52.out.far (p:=⟨gA,k*6+4,none⟩) (fun e=>hgA2 e.symm) (.int .i64 (f id))).far (p:=⟨gA,k*6+5,none⟩) (fun e=>hgA2 e.symm) (.int .i64 (f (-id)))).drew)
     have HBf:=Lib.hid (bD (bS (p:=⟨gA,k*6+5,none⟩) (bS (p:=⟨gA,k*6+4,none⟩) HB5.out hgA (.int .i64 (f id))) hgA (.int .i64 (f (-id)))))
     have m3:¬ g4=gA:=fun e=>hgA4 e.symm
     have m1:¬ some g4=some gA:=fun e=>hgA4 (Option.some.inj e).symm
     have m2:¬ some g15=some gA:=fun e=>n15 (Option.some.inj e)
     have kk1:(k:Int)<q.arcs.length:=by omega
     have kk2:0≤(k:Int):=by omega
     clear hlr hp5 hfz5 HP5 HM5 hAa'
     try clear X4l
     try clear X4a
     try clear X4b
     try clear X4c
     try clear X4fa
     try clear X4fb
     try clear X4fc
     obtain ⟨X4l,X4a,X4b,X4c,-,-,-⟩:=X4.facts3
     obtain ⟨X15l,X15a,X15b,X15c,X15d,X15e,X15f,-,-,-,-,-,-⟩:=X15.facts6
     refine rg_start (SinceX W5 (some gA)) (.run 9 0 0 (.run 4 10 511 (.two 9 16383 (.call 14 32767 (.take 15 65535 (.take 16 131071 (.call 17 262143 (.take 18 524287 (.take 19 1048575 (.call 20 2097151 (.done)))))))) 14 32255 (.call 9 32767 (.take 15 65535 (.take 16 131071 (.call 17 262143 (.take 18 524287 (.take 19 1048575 (.call 20 2097151 (.done))))))))))) (by kernel_rfl) (gD (gR _ _)) (by kernel_rfl) (by kernel_rfl) (Nat.le_of_ble_eq_true (by kernel_rfl)) ?_
     intro opsR QR Hops HQrg hS
     iterate 13
      apply rg_pX;exact Hops;exact rfl;exact hS;exact rfl
      · intro _ hqc;go_simp;try rfl
      try simp only [pu]
     refine rg_two (i:=9) (j:=14) (get_of Hops rfl) (get_of Hops rfl) (fun K hK=>?_) (fun K hK=>?_)
     ·
      have HSrg:=Lib.hid hS;clear hS
      refine rg_run (wanted_plain rfl) ?_
      go_simp
      refine hK.out _ _ HSrg.out (fun hS=>?_)
      clear hK K HSrg
      try simp only [pu]
      refine rg_call (i:=14) (get_of Hops rfl) (fun K hK=>?_)
      have HSrg:=Lib.hid hS;clear hS
      refine rg_run (wanted_plain rfl) ?_
      go_simp
      refine hK.out _ _ HSrg.out (fun hS=>?_)
      clear hK K HSrg
      try simp only [pu]
      iterate 2
       apply rg_pX;exact Hops;exact rfl;exact hS;exact rfl
       · intro _ hqc;go_simp;try rfl
       try simp only [pu]
      refine rg_call (i:=17) (get_of Hops rfl) (fun K hK=>?_)
      have HSrg:=Lib.hid hS;clear hS
      refine rg_run (wanted_plain rfl) ?_
      go_simp
      refine hK.out _ _ (by first | exact gS HSrg.out _ _ | (unfold SinceX;have hS9:World.grownBy _ _ _:=HSrg.out;repeat (first | with_reducible assumption | with_reducible exact World.grownBy.refl _ _ | with_reducible refine gS ?_ _ _ | with_reducible refine gD ?_ | with_reducible refine gA ?_ _))) (fun hS=>?_)
      clear hK K HSrg
      try simp only [pu]
      iterate 2
       apply rg_pX;exact Hops;exact rfl;exact hS;exact rfl
       · intro _ hqc;go_simp;try rfl
       try simp only [pu]
      refine rg_call (i:=20) (get_of Hops rfl) (fun K hK=>?_)
      have HSrg:=Lib.hid hS;clear hS
      refine rg_run (wanted_plain rfl) ?_
      go_simp
      refine hK.out _ _ (by first | exact gS HSrg.out _ _ | (unfold SinceX;have hS9:World.grownBy _ _ _:=HSrg.out;repeat (first | with_reducible assumption | with_reducible exact World.grownBy.refl _ _ | with_reducible refine gS ?_ _ _ | with_reducible refine gD ?_ | with_reducible refine gA ?_ _))) (fun hS=>?_)
      clear hK K HSrg
      try simp only [pu]
      refine rg_done ?_
      refine HQrg.down _ _ ?_
      have hB:W5.grownBy _ (some gA):=hS
      clear hS HQrg Hops
      go_wp2_with fail
      rw [← hAa]
      go_roundw
      case rel => exact ⟨_,_,_,⟨k+1,by omega,by go_num,HLr.out,HMf.out,HX4f.out,HX2f.out,HBf.out⟩,rfl,rfl,rfl⟩
      case measure => simp [intOf];omega
     ·
      have HSrg:=Lib.hid hS;clear hS
      refine rg_run (wanted_plain rfl) ?_
      go_simp
      refine hK.out _ _ HSrg.out (fun hS=>?_)
      clear hK K HSrg
      try simp only [pu]
      refine rg_call (i:=9) (get_of Hops rfl) (fun K hK=>?_)
      have HSrg:=Lib.hid hS;clear hS
      refine rg_run (wanted_plain rfl) ?_
      go_simp
      refine hK.out _ _ HSrg.out (fun hS=>?_)
      clear hK K HSrg
      try simp only [pu]
      iterate 2
       apply rg_pX;exact Hops;exact rfl;exact hS;exact rfl
       · intro _ hqc;go_simp;try rfl
       try simp only [pu]
      refine rg_call (i:=17) (get_of Hops rfl) (fun K hK=>?_)
      have HSrg:=Lib.hid hS;clear hS
      refine rg_run (wanted_plain rfl) ?_
      go_simp
      refine hK.out _ _ (by first | exact gS HSrg.out _ _ | (unfold SinceX;have hS9:World.grownBy _ _ _:=HSrg.out;repeat (first | with_reducible assumption | with_reducible exact World.grownBy.refl _ _ | with_reducible refine gS ?_ _ _ | with_reducible refine gD ?_ | with_reducible refine gA ?_ _))) (fun hS=>?_)
      clear hK K HSrg
      try simp only [pu]
      iterate 2
       apply rg_pX;exact Hops;exact rfl;exact hS;exact rfl
       · intro _ hqc;go_simp;try rfl
       try simp only [pu]
      refine rg_call (i:=20) (get_of Hops rfl) (fun K hK=>?_)
      have HSrg:=Lib.hid hS;clear hS
      refine rg_run (wanted_plain rfl) ?_
      go_simp
      refine hK.out _ _ (by first | exact gS HSrg.out _ _ | (unfold SinceX;have hS9:World.grownBy _ _ _:=HSrg.out;repeat (first | with_reducible assumption | with_reducible exact World.grownBy.refl _ _ | with_reducible refine gS ?_ _ _ | with_reducible refine gD ?_ | with_reducible refine gA ?_ _))) (fun hS=>?_)
      clear hK K HSrg
      try simp only [pu]
      refine rg_done ?_
      refine HQrg.down _ _ ?_
      have hB:W5.grownBy _ (some gA):=hS
      clear hS HQrg Hops
      go_wp2_with fail
      rw [← hAa]
      go_roundw
      case rel => exact ⟨_,_,_,⟨k+1,by omega,by go_num,HLr.out,HMf.out,HX4f.out,HX2f.out,HBf.out⟩,rfl,rfl,rfl⟩
      case measure => simp [intOf];omega
    ·
     obtain rfl:k=q.arcs.length:=by omega
     try clear X4l
     try clear X4a
     try clear X4b
     try clear X4c
     try clear X4fa
     try clear X4fb
     try clear X4fc
     obtain ⟨X4l,X4a,X4b,X4c,-,-,-⟩:=X4.facts3
     obtain ⟨X2l,X2a,X2b,X2c,X2fa,X2fb,X2fc⟩:=X2.facts3
     go_wp2_with fail
     have hab:labB f bl q.arcs.length=bl.map (fun x=>(labF f x.1,x.2)):=by rw [← HBl.out];exact labB_all f bl
     have hP:=HP.out
     rw [hab] at hP
     have hre:r=⟨q.nodes,(bl.map (fun x=>(labF f x.1,x.2))).map (·.1),facL sl.length⟩:=by
      rw [← HRe.out]
      have e1:(outX q).length=sl.length:=HSl.out.symm
      have e2:(bl.map (fun x=>(labF f x.1,x.2))).map (·.1)=q.arcs.map (labA q O):=by
       rw [← HPe.out,List.map_map,List.map_map]
       refine List.map_congr_left fun x _=>?_
       unfold labA
       rw [HOl.out,HFe.out]
       rfl
      rw [e1,e2,← HOe.out,← HQn.out]
      rfl
     have hrn:r.nodes.length=q.nodes.length:=by rw [hre]
     have hra:r.arcs.length=q.arcs.length:=by rw [hre];simp [HBl.out]
     have hrf:r.faces.length=sl.length:=by rw [hre];exact facL_len _
     have hgw:w.heap.size≤g2:=by omega
     refine res_cell_tmp (g:=g2) (cs:=#[.slice An' q.nodes.length cn',.slice Aa' q.arcs.length ca',.slice Af sl.length cf]) rfl struct_pl rfl rfl (Blk.put3 HX2.out) (.inr ⟨H64.out,An',cn',Aa',ca',Af,cf,bl.map (fun x=>(labF f x.1,x.2)),?_,?_,?_⟩)
     · rw [hrn,hra,hrf];rfl
     · exact bS (p:=⟨g2,2,none⟩) (bS (p:=⟨g2,1,none⟩) (bS (p:=⟨g2,0,none⟩) HB.out hgw _) hgw _) hgw _
     ·
      rw [hrn,hra,hrf,hre]
      have z0:=Blk.set_ HX2.out 0 (.slice An' q.nodes.length cn')
      have z1:=Blk.set_ z0 1 (.slice Aa' q.arcs.length ca')
      exact ((hP.far HX2.out (by decide) (by decide) (by decide) (by decide) 0 _).far z0 (by decide) (by decide) (by decide) (by decide) 1 _).far z1 (by decide) (by decide) (by decide) (by decide) 2 _
end Go.Proofs.YtpempeioeiaijaaGreat
