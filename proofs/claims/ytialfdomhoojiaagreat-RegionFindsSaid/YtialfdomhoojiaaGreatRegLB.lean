import Derived.Test.YtialfdomhoojiaaGreatJ30
set_option linter.unusedSimpArgs false
set_option linter.unusedVariables false
set_option maxRecDepth 100000
set_option maxHeartbeats 8000000
namespace Go.Proofs.YtialfdomhoojiaaGreat
open Go.RowKit Go.Sort
def U2 (p:Pl) (O:List (List Int)):Nat->Int->Int
 | 0,_=>0
 | n+1,d=>if (MP p O (n+1)).any (fun c=>decide (d∈c))=true then (n:Int)+1 else U2 p O n d
def af9 (p:Pl) (O:List (List Int)) (a:Ar):Ar:=⟨a.id,a.fr,a.dst,a.via,U2 p O O.length a.id,U2 p O O.length (-a.id)⟩
def aa8 (p:Pl):Pl:=⟨p.nodes,(I5 p).AU.map (af9 (I5 p) (sortK (Bj (I5 p)))),(List.range (Bj (I5 p)).length).map fun i:Nat=>((i:Int)+1)⟩
def ayf (p:Pl):Int:=if Ig (I5 p)≠0 then Ig (I5 p) else if 64<(Bj (I5 p)).length then 3 else 0
def amK:Value:=.agg #[.slice none 0 0,.slice none 0 0,.slice none 0 0]
def amL (w:World) (p:Pl) (e:Ending) (w':World):Prop :=
 ∃ An cn Aa ca Af cf bl,e=.returned (.tuple #[.agg #[.slice An p.nodes.length cn,.slice Aa p.AU.length ca,.slice Af p.faces.length cf],.int .i64 0])/\AP w w'/\IJ w' w.heap.size (.slice An p.nodes.length cn) (.slice Aa p.AU.length ca) (.slice Af p.faces.length cf) p bl
structure Mod (p:Pl):Prop where
 nodes:p.nodes.length<=100000
 AU:p.AU.length<=100000
 NQ:∀ a∈p.AU,a.via.length<=100000
theorem aza (v:Value) (p:Pl) (w:World) (h:Cb w v p) (hm:Mod p) (hz:Ig (I5 p)≠0):Calls Tryz.prog 21 #[v] w fun e w'=>e=.returned (.tuple #[amK,.int .i64 (Ig (I5 p))])/\AP w w':=by
 have bH:=AA (fun W (hW:AP w W)=>akC v p W (h.mono hW) hm.nodes hm.AU hm.NQ);have Gm:=AA (fun u W (hu:Cb W u (I5 p))=>aku u (I5 p) W hu hz);obtain ⟨_,_,_,al,rfl,hpa,⟨An,cn,rfl,-⟩,⟨⟨Aa,ca,rfl,-⟩,-⟩,⟨Af,cf,rfl,-⟩⟩:=h;generalize Ig (I5 p)=z at *;generalize I5 p=q at *;have hb:(z != 0)=true:=by simpa using hz
 clear hm hz hpa;generalize p.nodes.length=nn at *;generalize al.length=na at *;generalize p.faces.length=nf at *;go_enter Tryz.func21,Tryz.ntmps21;go_upto_region 1 with fail;obtain ⟨g2,hg2⟩:=BL (w.heap.size+1);obtain ⟨W1,hW⟩:∃ W:World,W=(w.alloc (.cells #[.slice An nn cn,.slice Aa na ca,.slice Af nf cf] 26)).alloc (.cells #[.slice none 0 0,.slice none 0 0,.slice none 0 0] 26):=⟨_,rfl⟩;have X1:AO W1 w.heap.size 26 #[.slice An nn cn,.slice Aa na ca,.slice Af nf cf]:=by rw [hW];exact (AO.made rfl _ _).alloc _
 have X2:AO W1 g2 26 #[.slice none 0 0,.slice none 0 0,.slice none 0 0]:=by rw [hW];exact AO.made (by rw [<- hg2];simp) _ _
 have HB1:=AA (show AP w W1 by rw [hW];exact bA (bA (bR w) _) _);rw [<- hW]
 try rw [hg2]
 have CG:=AA X2;have hgw:w.heap.size<=g2:=by omega
 clear hW hg2;obtain ⟨Ak,Au,Az,BA,-,-,-⟩:=X1.BF;go_wp2_with fail;refine (bH.out _ HB1.out).mono ?_;rintro e w2 ⟨Js,Jt,P7,ca',bl,rfl,hb2,hpo⟩;have HB2:=AA (bT HB1.out hb2);have Ep:=AA (CG.out.keep hb2);have HP:=AA hpo.aCe;clear hb2 hpo bH X1 Ak Au Az BA X2;have X3:=Ep.out;go_upto_region 2 with fail;obtain ⟨W3,hW⟩:∃ W:World,W=w2.alloc (.cells #[.slice Js q.nodes.length Jt,.slice P7 q.AU.length ca',.slice none 0 0] 26):=⟨_,rfl⟩;have hA:AP w2 W3:=by rw [hW];exact bA (bR w2) _
 obtain ⟨g4,hg4⟩:=BL w2.heap.size;have X4:AO W3 g4 26 #[.slice Js q.nodes.length Jt,.slice P7 q.AU.length ca',.slice none 0 0]:=by rw [hW];exact AO.made hg4.symm _ _
 have HB3:=AA (bT HB2.out hA);have DJ:=AA (Ep.out.keep hA);have bY:=AA (HP.out.mono hA);rw [<- hW]
 try rw [hg4]
 clear hW hA hg4 HB2 Ep HP X3;obtain ⟨Bh,Bl,CV,FB,-,-,-⟩:=X4.BF;go_wp2_with fail;refine (Gm.out _ _ bY.out).mono ?_;rintro e w5 ⟨Ac,cc,CL,rfl,hb5,-,-⟩;have CW:=AA (bT HB3.out hb5);have D8:=AA (DJ.out.keep hb5);have X5:=D8.out;clear hb5 Gm X4 Bh Bl CV FB HB3 DJ bY;obtain ⟨CJ,CO,CS,G6,VT,VU,azb⟩:=X5.BF;go_wp2_with fail;refine LG (g:=g2) (cs:=#[.slice none 0 0,.slice none 0 0,.slice none 0 0]) rfl uO rfl rfl (AO.Zr D8.out) ⟨rfl,?_⟩;exact bS (p:=⟨g2,2,none⟩) (bS (p:=⟨g2,1,none⟩) (bS (p:=⟨g2,0,none⟩) CW.out hgw _) hgw _) hgw _
theorem FX.perm {p:Pl} {z:AD} {sl sl':List AD} {O O' R:List (List Int)} {N:List Nd} (h:FX p (z::sl) O R N) (hp:sl'.Perm sl) (ho:sl'.map (·.out)=O'):FX p (z::sl') O' R N:=by
 have key:∀ x∈sl,x.inn.map (·.1)=R.filter (fun c=>decide (I4 p (TB p c)=some x.out))/\x.CU=(N.filter (fun n=>decide (Na p.AU n.id=0/\I4 p n.pt=some x.out))).map (·.id):=by
  intro x hx;obtain ⟨i,hi,rfl⟩:=Dp.1 hx;have h1:i+1<(z::sl).length:=by simpa using hi
  have hl:=h.len;have e:Lp O (i+1)=some sl[i].out:=by
   rw [Ut AB (by simp only [I9] at hl;omega)];have:=h.aP h1 AB
   simp only [List.getElem_cons_succ,Ze] at this ⊢;rw [this]
  have a:=h.inn (i+1) h1;have b:=h.CU (i+1) h1;rw [e] at a b;exact ⟨a,b⟩
 have hout:(z::sl').map (·.out)=[]::O':=by
  have h0:=h.out;rw [Ez] at h0 ⊢;injection h0 with h0 _;rw [h0,ho]
 have hlen:sl'.length=O'.length:=by rw [<- ho,Cm]
 have hk:∀ i (hi:i<sl'.length),Lp O' (i+1)=some sl'[i].out:=fun i hi=>by
  rw [Ut AB AB];subst ho;simp
 refine ⟨hout,fun i hi=>?_,fun i hi=>?_⟩
 · match i,hi with
  | 0,_=>exact h.inn 0 Aw
  | i+1,hi =>
   have hi':i<sl'.length:=by simpa using hi
   rw [hk i hi'];exact (key _ (hp.subset (BH hi'))).1
 · match i,hi with
  | 0,_=>exact h.CU 0 Aw
  | i+1,hi =>
   have hi':i<sl'.length:=by simpa using hi
   rw [hk i hi'];exact (key _ (hp.subset (BH hi'))).2
theorem IJ.avm {w w':World} {B B':Nat} {vn va vf v:Value} {p:Pl} {bl:List (Ar×SV)} {L:List AD} (h:IJ w B vn va vf p bl) (ho:Own w B' 82 4 Di v L) (hg:w.grownBy w' v.ownBlock):IJ w' B vn va vf p bl :=
 ⟨Own.grown h.QZ hg (Own.apart h.QZ ho BG),Own.grown h.I7 hg (Own.apart h.I7 ho BG),fun x hx=>Own.grown (h.NQ x hx) hg (Own.apart (h.NQ x hx) ho BG),h.eq,Own.grown h.NR hg (Own.apart h.NR ho BG)⟩
theorem IJ.avn {w w':World} {B gm n:Nat} {f:Int->Int} {vn va vf:Value} {p:Pl} {bl:List (Ar×SV)} (h:IJ w B vn va vf p bl) (hm:Gg w gm n f) (hg:w.grownBy w' (some gm)):IJ w' B vn va vf p bl:=by
 have ne:∀ {α:Type} {e:TypeId} {size:Nat} {fe:α->List Value} {v:Value} {l:List α},Own w B e size fe v l->∀ g,v.ownBlock=some g->some g≠some gm:=fun ho g hg e=>by
  rcases ho.2 with ⟨rfl,_⟩ | ⟨g',cap,cur,rfl,_,hh,_⟩
  · simp [Value.ownBlock] at hg
  ·have:g'=gm:=by
    have h1:g'=g:=by simpa [Value.ownBlock] using hg
    have h2:=Dc e;omega
   exact xP hm (cs:=cur) (g:=g') hh this
 exact ⟨Own.grown h.QZ hg (ne h.QZ),Own.grown h.I7 hg (ne h.I7),fun x hx=>Own.grown (h.NQ x hx) hg (ne (h.NQ x hx)),h.eq,Own.grown h.NR hg (ne h.NR)⟩
theorem Ints.amM {w w':World} {v:Value} {l:List Int} (h:Ints w v l) {g:Nat} {t:TypeId} {cs:Array Value} (hb:AO w g t cs) (hc:∀ (j:Nat) (n:Int),cs[j]? ≠ some (.int .i64 n)) (hg:w.grownBy w' (some g)):Ints w' v l:=by
 obtain ⟨A,c,rfl,h1,h2,h3⟩:=h;refine ⟨A,c,rfl,h1,h2,fun hne=>?_⟩;obtain ⟨b,o,rfl,hlt,hcell⟩:=h3 hne;have hl:0<l.length:=by
  cases l with
  | nil=>exact absurd rfl hne
  | cons a l=>simp
 have h0:(l.flatMap D5)[0]? = some (.int .i64 l[0]):=by
  cases l with
  | nil=>cases hl
  | cons a l=>rfl
 have hcl:=hcell 0 _ h0;have hbg:b≠g:=fun e=>by
  subst e;rw [hb.cell] at hcl;exact hc _ _ hcl
 exact ⟨b,o,rfl,L9 hlt hg.size,fun j u hu=>by
  have:=hg.block b hlt (fun e=>hbg (Dc e))
  rw [<- hcell j u hu];simp only [World.cell?,this]⟩
structure aa9 (w:World) (B:Nat) (v:Value) (L:List AD):Prop where
 own:Own w B 82 4 Di v L
 out:∀ x∈L,Ints w (BJ x.ov) x.out
 inn:∀ x∈L,Own w B 24 1 Ib (BJ x.iv) x.inn
 Gi:∀ x∈L,∀ c∈x.inn,Ints w (BJ c.2) c.1
theorem amN (a b c:SV) (j:Nat) (n:Int):(#[BJ a,BJ b,BJ c] : Array Value)[j]? ≠ some (.int .i64 n):=by
 match j with
 | 0=>intro e;cases e
 | 1=>intro e;cases e
 | 2=>intro e;cases e
 | j+3=>intro e;simp at e
theorem aa9.grown {w w':World} {B:Nat} {v:Value} {L:List AD} (h:aa9 w B v L) {g:Nat} {a b c:SV} (hb:AO w g 26 #[BJ a,BJ b,BJ c]) (hg:w.grownBy w' (some g)):aa9 w' B v L:=by
 have ne:∀ {α:Type} {e:TypeId} {size:Nat} {fe:α->List Value} {v:Value} {l:List α},Own w B e size fe v l->e≠26->∀ q,v.ownBlock=some q->some q≠some g:=fun ho hne q hq e=>by
  have:=Own.Dz ho hb hne
  exact this (by rw [hq,e])
 exact ⟨Own.grown h.own hg (ne h.own BG),fun x hx=>(h.out x hx).amM hb (amN a b c) hg,fun x hx=>Own.grown (h.inn x hx) hg (ne (h.inn x hx) BG),fun x hx d hd=>(h.Gi x hx d hd).amM hb (amN a b c) hg⟩
def VD (n:Nat):List Int:=(List.range n).map fun i:Nat=>((i:Int)+1)
theorem amO (n:Nat):(VD n).length=n:=by unfold VD;simp
theorem avo (n:Nat):VD (n+1)=VD n++[(n:Int)+1]:=by unfold VD;rw [Zf,GL];rfl
theorem afA {w:World} {gm n:Nat} {f:Int->Int} {base:Nat} {e:TypeId} {size:Nat} {α:Type} {fe:α->List Value} {v:Value} {l:List α} (ho:Own w base e size fe v l) (h:Gg w gm n f):v.ownBlock≠some gm:=by
 rcases ho.2 with ⟨rfl,_⟩ | ⟨g,cap,cur,rfl,_,hh,_⟩
 · simp [Value.ownBlock]
 ·intro e';exact xP h (cs:=cur) (g:=g) hh sV
theorem Gg.setCell {w:World} {gm n:Nat} {f:Int->Int} (h:Gg w gm n f) {p:Addr} (hp:¬ gm=p.block) (u:Value):Gg (w.setCell p u) gm n f :=
 h.kept (row:=some p.block) ⟨rfl,rfl,rfl,Aw,fun i hi hne=>Below.heap_setCell w p u i (fun e=>hne Rw)⟩ (fun e=>hp (Dc e))
theorem Gg.obj {w:World} {gm n:Nat} {f:Int->Int} (h:Gg w gm n f) (j:Nat):w.cell? ⟨gm,j,none⟩=none:=by
 obtain ⟨D,h1,-⟩:=h;obtain ⟨es,clock,h2,-⟩:=h1;simp only [World.cell?,h2]
theorem Ints.amP {w w':World} {v:Value} {l:List Int} (h:Ints w v l) {gm n:Nat} {f:Int->Int} (hm:Gg w gm n f) (hg:w.grownBy w' (some gm)):Ints w' v l:=by
 obtain ⟨A,c,rfl,h1,h2,h3⟩:=h;refine ⟨A,c,rfl,h1,h2,fun hne=>?_⟩;obtain ⟨b,o,rfl,hlt,hcell⟩:=h3 hne;have hl:0<l.length:=by
  cases l with
  | nil=>exact absurd rfl hne
  | cons a l=>simp
 have h0:(l.flatMap D5)[0]? = some (.int .i64 l[0]):=by
  cases l with
  | nil=>cases hl
  | cons a l=>rfl
 have hcl:=hcell 0 _ h0;have hbg:b≠gm:=fun e=>by
  subst e;rw [hm.obj] at hcl
  cases hcl
 exact ⟨b,o,rfl,L9 hlt hg.size,fun j u hu=>by
  have:=hg.block b hlt (fun e=>hbg (Dc e))
  rw [<- hcell j u hu];simp only [World.cell?,this]⟩
theorem avp {n i j m:Nat} (h:n<=300000*i+513*j+m) (hm:m<=512):n<=300000*i+513*(j+1):=by omega
theorem avq {n i c:Nat} (h:n<=300000*i+513*c) (hc:c<=513):n<=300000*(i+1):=by omega
theorem avr {n i j m:Nat} (h:n<=300000*i+513*j+m) (hi:i<=64) (hj:j<=513) (hm:m<=512):n<4294967296:=by omega
def ZX (f:Int->Int) (a:Ar):Ar:=⟨a.id,a.fr,a.dst,a.via,f a.id,f (-a.id)⟩
def MB (f:Int->Int) (bl:List (Ar×SV)) (k:Nat):List (Ar×SV):=(bl.take k).map (fun x=>(ZX f x.1,x.2))++bl.drop k
theorem avs (f:Int->Int) (bl:List (Ar×SV)) (k:Nat):(MB f bl k).length=bl.length:=by unfold MB;simp;omega
theorem amQ (f:Int->Int) (bl:List (Ar×SV)):MB f bl 0=bl:=by unfold MB;simp
theorem avt (f:Int->Int) (bl:List (Ar×SV)):MB f bl bl.length=bl.map (fun x=>(ZX f x.1,x.2)):=by unfold MB;simp
theorem avu {f:Int->Int} {bl:List (Ar×SV)} {k:Nat} (hk:k<bl.length) (h:k<(MB f bl k).length):(MB f bl k)[k]=bl[k]:=by
 have e:(MB f bl k)[k]? = bl[k]? := by
  unfold MB;rw [List.getElem?_append_right (by rw [Cm,Ie];omega),List.getElem?_drop];simp only [Cm,Ie];congr 1;omega
 rw [DK h,DK hk] at e;exact Dc e
theorem avv {f:Int->Int} {bl:List (Ar×SV)} {k:Nat} (hk:k<bl.length):(MB f bl k).set k (ZX f bl[k].1,bl[k].2)=MB f bl (k+1):=by
 unfold MB;have hl:((bl.take k).map (fun x=>(ZX f x.1,x.2))).length=k:=by rw [Cm,Ie];omega
 rw [aat _ _ AB,hl,aau,En hk,GL,JR,Qk hk,abh];rfl
theorem Own.amR {w:World} {B n c:Nat} {A:Option Addr} {L:List (Ar×SV)} (h:Own w B 50 6 YU (.slice A n c) L) {k:Nat} (hk:k<L.length):∃ g,A=some ⟨g,0,none⟩/\B<=g/\g<w.heap.size/\(∀ j,w.frozen? ⟨g,j,none⟩=false) /\
  w.cell? ⟨g,k*6,none⟩=some (.int .i64 L[k].1.id)/\w.cell? ⟨g,k*6+1,none⟩=some (.int .i64 L[k].1.fr)/\w.cell? ⟨g,k*6+2,none⟩=some (.int .i64 L[k].1.dst)/\w.cell? ⟨g,k*6+3,none⟩=some (.slice L[k].2.a L[k].2.n L[k].2.c)/\w.cell? ⟨g,k*6+4,none⟩=some (.int .i64 L[k].1.left)/\w.cell? ⟨g,k*6+5,none⟩=some (.int .i64 L[k].1.right):=by
 have hr:=h.row_of;rcases h.2 with ⟨hv,h0⟩ | ⟨g,cap,cur,hv,hg,hh,-⟩
 · omega
 ·injection hv with e1 e2 e3;subst e1;obtain ⟨b,o,Ec,-,c0,c1,c2,c3,c4,c5⟩:=Row.at6 hr hk;injection Ec with Ec;injection Ec with y1 y2 _;subst y1 y2;rw [QC] at c0 c1 c2 c3 c4 c5;exact ⟨g,rfl,hg,AO.lt hh,fun j=>AO.frozen hh j,c0,c1,c2,c3,c4,c5⟩
theorem IJ.avw {w:World} {B g n c:Nat} {vn vf:Value} {p:Pl} {bl:List (Ar×SV)} (h:IJ w B vn (.slice (some ⟨g,0,none⟩) n c) vf p bl) {i:Nat} (hi:i<bl.length) (l r:Int) :
  IJ ((w.setCell ⟨g,i*6+4,none⟩ (.int .i64 l)).setCell ⟨g,i*6+5,none⟩ (.int .i64 r)) B vn (.slice (some ⟨g,0,none⟩) n c) vf ⟨p.nodes,p.AU.set i ⟨bl[i].1.id,bl[i].1.fr,bl[i].1.dst,bl[i].1.via,l,r⟩,p.faces⟩ (bl.set i (⟨bl[i].1.id,bl[i].1.fr,bl[i].1.dst,bl[i].1.via,l,r⟩,bl[i].2)):=by
 have far:∀ {α:Type} {e:TypeId} {size:Nat} {fe:α->List Value} {v:Value} {m:List α},Own w B e size fe v m->e≠50->Own ((w.setCell ⟨g,i*6+4,none⟩ (.int .i64 l)).setCell ⟨g,i*6+5,none⟩ (.int .i64 r)) B e size fe v m:=fun ho hne=>by
  have hn:∀ q,_->some q≠_:=Own.apart ho h.I7 hne;exact Own.far (Own.far ho (fun e8=>hn g e8 rfl) _) (fun e8=>hn g e8 rfl) _
 have h1:=Own.jH yN h.I7 hi (j:=4) AB (⟨bl[i].1.id,bl[i].1.fr,bl[i].1.dst,bl[i].1.via,l,bl[i].1.right⟩,bl[i].2) (.int .i64 l) rfl;have hi2:i<(bl.set i ((⟨bl[i].1.id,bl[i].1.fr,bl[i].1.dst,bl[i].1.via,l,bl[i].1.right⟩:Ar),bl[i].2)).length:=by rw [Qm];exact hi
 have h2:=Own.jH yN h1 hi2 (j:=5) AB (⟨bl[i].1.id,bl[i].1.fr,bl[i].1.dst,bl[i].1.via,l,r⟩,bl[i].2) (.int .i64 r) (by rw [List.getElem_set_self];rfl);rw [List.set_set] at h2;refine ⟨far h.QZ BG,h2,fun x hx=>?_,?_,far h.NR BG⟩
 ·rcases Qb hx with ⟨rfl,_⟩ | ⟨j,hj,_,rfl⟩
  · exact far (show Own w B 39 2 EX (BJ bl[i].2) bl[i].1.via from h.NQ _ (BH hi)) BG
  · exact far (h.NQ _ (BH hj)) BG
 · rw [List.map_set,h.eq]
theorem IJ.face {w w1:World} {B:Nat} {vn va vf vf':Value} {p:Pl} {bl:List (Ar×SV)} {n:Int} (h:IJ w B vn va vf p bl) (ho:Own w1 B 3 1 D5 vf' (p.faces++[n])) (hg:w.grownBy w1 vf.ownBlock) :
  IJ w1 B vn va vf' ⟨p.nodes,p.AU,p.faces++[n]⟩ bl :=
 ⟨Own.grown h.QZ hg (Own.apart h.QZ h.NR BG),Own.grown h.I7 hg (Own.apart h.I7 h.NR BG),fun y hy=>Own.grown (h.NQ y hy) hg (Own.apart (h.NQ y hy) h.NR BG),h.eq,ho⟩
def Xc (f:Int->Int) (v:Int) (cs:List (List Int)) (d:Int):Int:=if cs.any (fun c=>decide (d∈c))=true then v else f d
theorem avx (f:Int->Int) (v:Int):Xc f v []=f:=by funext d;rfl
theorem avy (f:Int->Int) (v:Int) (cs:List (List Int)):Xc f v (cs++[[]])=Xc f v cs:=by funext d;unfold Xc;simp
theorem avz (f:Int->Int) (v:Int) (cs:List (List Int)) (c:List Int) {m:Nat} (hm:m<c.length):Xc f v (cs++[c.take (m+1)])=fun i=>if i=c[m] then v else Xc f v (cs++[c.take m]) i:=by
 funext d
 unfold Xc;rw [En hm];simp only [ab6,ab5,List.any_nil,Bool.or_false,FZ,ED,L6,E8];by_cases e:d=c[m]
 · rw [AZ e,AZ (.inr (.inr e))]
 ·rw [AX e];by_cases e2:(cs.any fun c=>decide (d∈c))=true\/d∈c.take m
  · rw [AZ (by rcases e2 with g | g;exact .inl g;exact .inr (.inl g)),AZ e2]
  · rw [AX (by rintro (g | g | g);exact e2 (.inl g);exact e2 (.inr g);exact e g),AX e2]
theorem aw0 (p:Pl) (O:List (List Int)) (n:Nat):U2 p O (n+1)=Xc (U2 p O n) ((n:Int)+1) (MP p O (n+1)):=rfl
theorem avR (v:Value) (p:Pl) (w:World) (h:Cb w v p) (hm:Mod p) (hz:Ig (I5 p)=0):Calls Tryz.prog 21 #[v] w fun e w'=>(64<(Bj (I5 p)).length/\e=.returned (.tuple #[amK,.int .i64 3])/\AP w w')\/(¬ 64<(Bj (I5 p)).length/\amL w (aa8 p) e w'):=by
 have hv:=(dP _).1 hz;have bH:=AA (fun W (hW:AP w W)=>akC v p W (h.mono hW) hm.nodes hm.AU hm.NQ);have Gm:=AA (fun u W (hu:Cb W u (I5 p))=>alJ u (I5 p) W hu hv);have WT:=AA (fun u W (hu:Cb W u (I5 p))=>ajY u (I5 p) W hu hv);have QX:=AA (fun u vc CL gm f W (hu:Cb W u (I5 p)) hc hcl hpm=>(alF u vc (I5 p) CL gm f W hu hv hc hcl hpm).mono (R':=fun e w'=>∃ gL cL z sl,e=.returned (.slice (some ⟨gL,0,none⟩) (sl.length+1) cL)/\(1:Int)<=(sl.length:Int)+1/\W.heap.size<=gL/\AP W w'/\GH 82 W w' W.heap.size (.slice (some ⟨gL,0,none⟩) (sl.length+1) cL) (z::sl)/\FX (I5 p) (z::sl) (Bj (I5 p)) (J8 (I5 p)) (I5 p).nodes/\sl.length+1<=cL) (by
  rintro e w' ⟨A,c,L,rfl,hb,had,hdv,-⟩;have hl:=hdv.len;obtain ⟨g,hg,hg0,-,-,-⟩:=Own.OY had.own AB;subst hg
  cases L with
  | nil=>simp at hl
  | cons z sl =>
   obtain ⟨A',c',he',h1,-,-⟩:=had.own.sl;injection he' with y1 y2 y3;subst y3;exact ⟨g,c,z,sl,rfl,AB,hg0,hb,had,hdv,h1⟩))
 have HV:=AA hv;have PZ:=AA (@au5);have hmm:=@run_makeMap Tryz.prog;obtain ⟨_,_,_,al,rfl,hpa,⟨An,cn,rfl,-⟩,⟨⟨Aa,ca,rfl,-⟩,-⟩,⟨Af,cf,rfl,-⟩⟩:=h;obtain ⟨q,hq⟩:=BL (I5 p);obtain ⟨r,hr⟩:=BL (aa8 p);have hr2:=hr;unfold aa8 at hr2;rw [hq] at hr2;have rH:=AA hr2;rw [hr];rw [hq] at bH Gm WT QX HV ⊢;have aaA:p.nodes=q.nodes:=by rw [<- hq];rfl
 have jd:=AA aaA;have hqf:q.faces=[]:=by rw [<- hq];rfl
 have HQf:=AA hqf;clear hm hz hpa hv hr hr2 hq aaA hqf;generalize p.nodes.length=nn at *;generalize al.length=na at *;generalize p.faces.length=nf at *;go_enter Tryz.func21,Tryz.ntmps21;go_upto_region 1 with fail;obtain ⟨g2,hg2⟩:=BL (w.heap.size+1);obtain ⟨W1,hW⟩:∃ W:World,W=(w.alloc (.cells #[.slice An nn cn,.slice Aa na ca,.slice Af nf cf] 26)).alloc (.cells #[.slice none 0 0,.slice none 0 0,.slice none 0 0] 26):=⟨_,rfl⟩;have X1:AO W1 w.heap.size 26 #[.slice An nn cn,.slice Aa na ca,.slice Af nf cf]:=by rw [hW];exact (AO.made rfl _ _).alloc _
 have X2:AO W1 g2 26 #[.slice none 0 0,.slice none 0 0,.slice none 0 0]:=by rw [hW];exact AO.made (by rw [<- hg2];simp) _ _
 have HB1:=AA (show AP w W1 by rw [hW];exact bA (bA (bR w) _) _);rw [<- hW]
 try rw [hg2]
 have CG:=AA X2;have hgw:w.heap.size<=g2:=by omega
 clear hW hg2;obtain ⟨Ak,Au,Az,BA,-,-,-⟩:=X1.BF;go_wp2_with fail;refine (bH.out _ HB1.out).mono ?_;rintro e w2 ⟨Js,Jt,P7,ca',bl,rfl,hb2,hpo⟩;have HB2:=AA (bT HB1.out hb2);have Ep:=AA (CG.out.keep hb2);have hz1:=HB1.out.size;have HP:=AA (show IJ w2 w.heap.size (.slice Js q.nodes.length Jt) (.slice P7 q.AU.length ca') (.slice none 0 0) q bl from ⟨hpo.QZ.Du hz1,hpo.I7.Du hz1,fun x hx=>(hpo.NQ x hx).Du hz1,hpo.eq,hpo.NR.Du hz1⟩);clear hb2 hpo bH X1 Ak Au Az BA X2 CG HB1 hz1;go_upto_region 2 with fail;obtain ⟨W3,hW⟩:∃ W:World,W=w2.alloc (.cells #[.slice Js q.nodes.length Jt,.slice P7 q.AU.length ca',.slice none 0 0] 26):=⟨_,rfl⟩;have hA:AP w2 W3:=by rw [hW];exact bA (bR w2) _
 obtain ⟨g4,hg4⟩:=BL w2.heap.size;have X4:AO W3 g4 26 #[.slice Js q.nodes.length Jt,.slice P7 q.AU.length ca',.slice none 0 0]:=by rw [hW];exact AO.made hg4.symm _ _
 have HB3:=AA (bT HB2.out hA);have DJ:=AA (Ep.out.keep hA);have bY:=AA (HP.out.keep hA);have amS:=AA X4;have azc:w.heap.size<=g4:=by have:=HB2.out.size;omega
 have avS:¬ g2=g4:=by have:=Ep.out.lt;omega
 rw [<- hW]
 try rw [hg4]
 clear hW hA hg4 HB2 Ep HP;obtain ⟨Bh,Bl,CV,FB,-,-,-⟩:=X4.BF;go_wp2_with fail;refine (Gm.out _ _ bY.out.aCe).mono ?_;rintro e w5 ⟨Ac,cc,CL,rfl,hb5,hcl,hco⟩;have CW:=AA (bT HB3.out hb5);have D8:=AA (DJ.out.keep hb5);have Vu:=AA (amS.out.keep hb5);have Xd:=AA (bY.out.keep hb5);have hle:(CX q).length=CL.length:=by rw [<- hcl,Cm]
 have hcr:=hco.read;rw [hle] at hcr ⊢;have Ny:=AA hcl;have SS:=AA hcr;have Qc:=AA hco;have X5:=Vu.out;clear hb5 Gm X4 Bh Bl CV FB HB3 DJ bY hcl hcr hco hle amS;obtain ⟨CJ,CO,CS,G6,-,-,-⟩:=X5.BF;go_upto_region 5 with fail;refine Cj (w5) (.run 3 0 0 (.call 3 15 (.call 4 31 (.take 5 63 (.take 6 127 (.done)))))) fun Bv QR Ae Ah hS=>?_
 iterate 3 refine Aj ?_
 refine BP ?_;clear hS;intro K hK AQ;go_simp;refine (WT.out _ _ ((Xd.out.keep AQ.out).aCe)).mono ?_;rintro e Bq ⟨gm,f,rfl,Bf,hgm,hpm⟩;have hS:Since w5 Bq:=bT (w:=w5) AQ.out Bf;clear AQ;refine hK.out _ _ hS (fun _=>?_);clear hK K
 try simp only [pu]
 refine BP ?_;clear hS;intro K hK AQ;go_simp;refine (QX.out _ _ CL gm f _ ((Xd.out.keep AQ.out).aCe) (SS.out.mono AQ.out) Ny.out hpm).mono ?_;rintro e wr2 ⟨gL,cL,z,sl,rfl,kL1,hgL,FT,had,hdv,azd⟩;have hS:Since w5 wr2:=bT (w:=w5) AQ.out FT;clear AQ;refine hK.out _ _ hS (fun _=>?_);clear hK K
 try simp only [pu]
 iterate 2 refine Aj ?_
 refine Ce ?_;clear hS Ah Ae;intro hB;skip;obtain ⟨W6,yw⟩:∃ W:World,W=wr2:=⟨_,rfl⟩;rw [<- yw] at had hB FT ⊢;have Eb:=AA (bT CW.out hB);have IV:=AA (D8.out.keep hB);have afB:=AA (Vu.out.keep hB);have HP6:=AA (Xd.out.keep hB);have hsl:sl.length=(Bj q).length:=by have:=hdv.len;simp only [I9] at this;omega
 have Lj:=AA had;have dn:=AA hdv;have QB:=AA hsl;have avT:=AA Bf;have afC:=AA FT;obtain ⟨PA,zF⟩:=BL ((if cL=1 then some (⟨gL,0,none⟩:Addr) else some ⟨gL,4,none⟩))
 try rw [zF]
 have HPA:=AA (show 0<sl.length->PA=some ⟨gL,4,none⟩ from fun h=>by rw [<- zF,AX AB]);have aze:w.heap.size<=gL:=by have:=CW.out.size;have:=Bf.size;simp at this;omega
 have jZ:w.heap.size<=W6.heap.size:=Eb.out.size;clear hB Bf FT yw had hdv hsl zF hpm hgm D8 Vu Xd X5 CJ CO CS G6 WT QX kL1;by_cases h64:64<sl.length
 ·have H64:=AA (show 64<(Bj q).length by rw [<- QB.out];exact h64);have avU:(64:Int)<(sl.length:Int):=by omega
  have X6:=IV.out;clear h64;obtain ⟨EF,EG,EH,Nb,XD,XE,avV⟩:=X6.BF;go_wp2_with fail;refine LG (g:=g2) (cs:=#[.slice none 0 0,.slice none 0 0,.slice none 0 0]) rfl uO rfl rfl (AO.Zr IV.out) (.inl ⟨H64.out,rfl,?_⟩);exact bS (p:=⟨g2,2,none⟩) (bS (p:=⟨g2,1,none⟩) (bS (p:=⟨g2,0,none⟩) Eb.out hgw _) hgw _) hgw _
 have H64:=AA (show ¬ 64<(Bj q).length by rw [<- QB.out];exact h64);have avU:¬ (64:Int)<(sl.length:Int):=by omega
 have azf:sl.length<=64:=by omega
 clear h64;have Us:=AA (show ∀ s∈sl,NS Bq s from fun s hs=>by
  have hm:s∈z::sl:=Gn _ hs;obtain ⟨i,hi,hie⟩:=Dp.1 hs;have h1:i+1<(z::sl).length:=by simpa using hi
  have ho:=dn.out.aP h1 AB;have hl:=dn.out.len;simp only [List.getElem_cons_succ] at ho;rw [hie] at ho;have hX:s.out∈Bj q:=by rw [ho];exact BH _
  have hc:=(Nl.1 hX).1;exact ⟨Lj.out.out s hm,fV.2 (HV.out.Wh hc),fun d hd=>HV.out.Qo ((HV.out.Gy hc).2 d hd)⟩)
 have amT:=AA (show Calls Tryz.prog 60 #[.slice PA sl.length (cL-1),.func (.func 61) #[] #[]] W6 fun e w'=>e=.returned (.tuple #[])/\∃ sl':List AD,sl'.Perm sl/\sl'.Pairwise (fun a b=>ltOf (fun x y:AD=>cmpK (DZ x.out) (DZ y.out)) b a=false)/\Own w' Bq.heap.size 82 4 Di (.slice (some ⟨gL,0,none⟩) (sl.length+1) cL) (z::sl')/\W6.grownBy w' (some gL) from by
  rcases VF sl.length with h0 | h0
  ·have hs0:sl=[]:=lQ h0;rw [h0];refine Calls.mono (AnyF.slices_SortFunc_none Tryz.sortAd PA (cL-1) (.func (.func 61) #[] #[]) W6) ?_;rintro e w' ⟨rfl,rfl⟩;have ho:=Lj.out.own;rw [hs0] at ho;exact ⟨rfl,[],by rw [hs0],List.Pairwise.nil,ho,World.grownBy.refl _ _⟩
  ·rw [HPA.out h0];exact PZ.out Bq Bq.heap.size gL cL (cL-1) z sl W6 Lj.out.own h0 afC.out (DT _) Us.out AB)
 go_wp2_with fail;refine amT.out.mono ?_;rintro e w7 ⟨rfl,sl',hp,hs,MS,Fg⟩;have hb7:=bG afC.out Fg (fun k hk=>by have:=Dc hk;have:=(Lj.out.own.lt gL rfl).1;omega);have Jf:=AA (bG Eb.out Fg (fun k hk=>by have:=Dc hk;omega));have hll:=hp.length_eq;have HP7:=AA (HP6.out.avm Lj.out.own Fg);have Iw:=AA (AO.grown IV.out Fg (fun e=>Own.Dz Lj.out.own IV.out BG e.symm));have aaB:=AA (AO.grown afB.out Fg (fun e=>Own.Dz Lj.out.own afB.out BG e.symm));have hord:sl'.map (·.out)=sortK (Bj q):=by
  refine HV.out.aiz ?_ ?_
  ·have h1:=hp.map (·.out);refine h1.trans ?_;have h2:=dn.out.out;rw [Ez] at h2;injection h2 with _ h2;rw [h2]
  ·rw [IL];refine hs.imp (fun {a b} g=>?_);have g':ltOf (fun x y:AD=>cmpK (DZ x.out) (DZ y.out)) b a=false:=g;rw [aBf (fun x:AD=>DZ x.out)] at g';exact g'
 obtain ⟨O,hO⟩:=BL (sortK (Bj q));rw [hO] at hord;have hdp:=dn.out.perm hp hord;have HD:=AA hdp;have hmem:∀ x∈z::sl',x∈z::sl:=fun x hx=>by
  rcases EJ.1 hx with rfl | hx
  · exact Ea
  · exact Gn _ (hp.subset hx)
 have yu:=AA (show aa9 w7 Bq.heap.size (.slice (some ⟨gL,0,none⟩) (sl.length+1) cL) (z::sl') from ⟨MS,fun x hx=>(Lj.out.out x (hmem x hx)).mono hb7,fun x hx=>Own.grown (Lj.out.inn x (hmem x hx)) Fg (fun g hg=>Own.apart (Lj.out.inn x (hmem x hx)) Lj.out.own BG g hg),fun x hx c hc=>(Lj.out.Gi x (hmem x hx) c hc).mono hb7⟩);have ZR:=AA hO;have JG:=AA hll;have hol:O.length=sl.length:=by rw [<- hord,Cm,hll]
 have YX:=AA hol;clear hp hs MS Fg hb7 hll hord hO hdp hmem hol amT PZ Us Eb IV afB HP6 Lj dn avT afC;go_upto_region 10 with fail;obtain ⟨gs,hgs⟩:=BL w7.heap.size;obtain ⟨W8,hW⟩:∃ W:World,W=w7.alloc (.map #[] 0):=⟨_,rfl⟩;have hA:AP w7 W8:=by rw [hW];exact bA (bR w7) _
 have aa0:=AA (show Gg W8 gs 0 (U2 q O 0) by
  have:=Gg.made w7
  rw [hW,<- hgs];exact this)
 have zG:=AA (HP7.out.keep hA);have Yr:=AA (Iw.out.keep hA);have amU:=AA (aaB.out.keep hA);have HG8:=AA (show w7.grownBy W8 (some g4) from gOf hA);rw [<- hW]
 try rw [hgs]
 have azg:w7.heap.size<=gs:=by omega
 have amV:¬ gs=g4:=by have:=aaB.out.lt;omega
 have avW:¬ gs=g2:=by have:=Iw.out.lt;omega
 clear hW hA hgs hmm HP7;go_upto_block 0 with fail;go_wp2_with fail;go_loopw [42] (fun u wr=>∃ i:Nat,i<=sl.length/\u=.int .i64 i/\(∃ Af c,IJ wr w.heap.size (.slice Js q.nodes.length Jt) (.slice P7 q.AU.length ca') (.slice Af i c) ⟨q.nodes,q.AU,VD i⟩ bl/\AO wr g4 26 #[.slice Js q.nodes.length Jt,.slice P7 q.AU.length ca',.slice Af i c]/\∀ k,(Value.slice Af i c).ownBlock=some k->w7.heap.size<=k)/\(∃ n,n<=300000*i/\Gg wr gs n (U2 q O i))/\AO wr g2 26 #[.slice none 0 0,.slice none 0 0,.slice none 0 0]/\w7.grownBy wr (some g4)) (fun u _=>sl.length-(intOf u).toNat)
 case atStart => exact ⟨0,BZ _,rfl,⟨none,0,⟨zG.out.QZ,zG.out.I7,zG.out.NQ,zG.out.eq,Own.nil _ _ _ _ _⟩,amU.out,fun k hk=>by cases hk⟩,⟨0,AB,aa0.out⟩,Yr.out,HG8.out⟩
 case round =>
  clear zG Yr amU HG8 aa0;obtain ⟨i,hi,rfl,⟨Af,cf,hpo,X4,hfg⟩,⟨nm,hnm,hmp⟩,X2,hg⟩:=hrel;have HFg:=AA hfg;obtain ⟨wo,rfl⟩:=BO wr;have HP:=AA hpo;have DJ:=AA X4;have HM:=AA hmp;have CG:=AA X2;have HG:=AA hg;have HAq:=AA (yu.out.grown (a:=⟨Js,q.nodes.length,Jt⟩) (b:=⟨P7,q.AU.length,ca'⟩) (c:=⟨none,0,0⟩) aaB.out hg);have HB:=AA (bG Jf.out hg (fun k hk=>by have:=Dc hk;omega));have aBA:=hg.size;have hl4:=X4.lt;have adv:=hmp.lt;clear hpo hmp hg hfg;by_cases hlt:i<sl.length
  ·have hi1:i+1<(z::sl').length:=by have:=JG.out;simp only [I9];omega
   have zF:=HPA.out AB;obtain ⟨hgl,-,e0,e1,e2,e3⟩:=Own.kE HAq.out.own hi1;have amW:=HD.out.aaj hi1;have hxm:(z::sl')[i+1]∈z::sl':=BH hi1;have hxf:∀ W,w7.grownBy W (some g4)->Ints W (BJ (z::sl')[i+1].ov) (z::sl')[i+1].out/\Own W Bq.heap.size 24 1 Ib (BJ (z::sl')[i+1].iv) (z::sl')[i+1].inn/\∀ c∈(z::sl')[i+1].inn,Ints W (BJ c.2) c.1:=fun W hg=>by
    have h:=yu.out.grown (a:=⟨Js,q.nodes.length,Jt⟩) (b:=⟨P7,q.AU.length,ca'⟩) (c:=⟨none,0,0⟩) aaB.out hg;exact ⟨h.out _ hxm,h.inn _ hxm,h.Gi _ hxm⟩
   have hinl:(z::sl')[i+1].inn.length<=512:=by
    have h9:=congrArg List.length (HD.out.inn (i+1) hi1);rw [Cm] at h9;rw [h9];refine Dn (LY _ _) ?_;exact Dn (LY _ _) HV.out.QY
   generalize (z::sl')[i+1]=x at *;obtain ⟨tw,X,⟨oa,on,oc⟩,In,⟨ia,FY,ic⟩,al',⟨aa,an,ac⟩⟩:=x;unfold BJ at e1 e2 e3;simp only at e0 e1 e2 e3 hinl;rw [show (i+1)*4=4+i*4 by omega] at e0 e1 e2 e3;have Lr:=AA amW;have fC:=AA hxf;have ki1:(i:Int)<sl.length:=by omega
   have ki2:0<=(i:Int):=by omega
   have hfl:=amO i;have dZ:=AA hfl;have ql:=AA (avo i);have hsh:(VD i++[(i:Int)+1]).length=i+1:=by rw [EC,hfl];rfl
   have DL:=AA hsh;have adu:(VD i).length<=64:=by omega
   have n4:=Own.Dz HP.out.NR DJ.out BG;clear amW hxf hxm hfl hsh X2;go_upto_region 13 with fail;obtain ⟨W9,hW⟩:∃ W:World,W=wo.alloc (.cells #[.int .i64 tw,.slice oa on oc,.slice ia FY ic,.slice aa an ac] 82):=⟨_,rfl⟩;have hA:AP wo W9:=by rw [hW];exact bA (bR wo) _
   obtain ⟨g9,KX⟩:=BL wo.heap.size;have X9:AO W9 g9 82 #[.int .i64 tw,.slice oa on oc,.slice ia FY ic,.slice aa an ac]:=by rw [hW];exact AO.made KX.symm _ _
   have qF:=AA (HP.out.keep hA);have afD:=AA (DJ.out.keep hA);have HM9:=AA (HM.out.keep hA);have aec:=AA (CG.out.keep hA);have aaC:=AA (gB HG.out hA);have aed:=AA X9;have n94:¬ g9=g4:=by omega
   rw [<- hW]
   try rw [KX]
   clear hW hA e0 e1 e2 e3 hgl X4 HP DJ HM CG HG HB;have X4:=afD.out
   try clear Bh Bl CV FB
   obtain ⟨Bh,Bl,CV,FB,Dl,Ey,Ia⟩:=X4.BF;go_upto_region 14 with
    (at_builtin
     refine Ew _ rfl (.tmp 48) (.tmp 51) _ rfl (base:=w.heap.size) IB Gt IK rfl (Own.alloc qF.out.NR _) rfl (l2:=[(i:Int)+1]) (Sl.lit (n:=1) (AO.made rfl _ _) rfl (D6 AB)) DR DR (by have:=aaC.out.size;have:=Jf.out.size;simp;omega) ?_;intro v10 w10 aee Zt amX;obtain ⟨Xe,c10,amY,-⟩:=Own.IE aee;rw [DL.out] at amY;subst amY;have aef:=AO.grown (afD.out.alloc _) Zt (fun e=>n4 e.symm);have amZ:=(qF.out.keep (bA (bR W9) _)).face aee Zt;have qG:=AA (amZ.far aef BG BG BG BG 2 (.slice Xe (i+1) c10));have aeg:=AA (aef.EW 2 (.slice Xe (i+1) c10));have ali:Gg w10 gs nm (U2 q O i):=(HM9.out.keep (bA (bR W9) _)).kept Zt (fun e=>by
      have:=afA qF.out.NR HM9.out
      exact this e.symm)
     have aeh:=AA (ali.setCell (p:=⟨g4,2,none⟩) amV (.slice Xe (i+1) c10));have aei:=AA (AO.far (p:=⟨g4,2,none⟩) (AO.grown (aec.out.alloc _) Zt (fun e=>Own.Dz qF.out.NR aec.out BG e.symm)) avS (.slice Xe (i+1) c10));have aej:=AA (AO.far (p:=⟨g4,2,none⟩) (AO.grown (aed.out.alloc _) Zt (fun e=>Own.Dz qF.out.NR aed.out BG e.symm)) n94 (.slice Xe (i+1) c10));have aaD:=AA (gS (jy (gA aaC.out _) Zt (fun k hk=>HFg.out k hk)) 2 (.slice Xe (i+1) c10));have avX:=AA (show ∀ k,(Value.slice Xe (i+1) c10).ownBlock=some k->w7.heap.size<=k from qp amX HFg.out (by have:=aaC.out.size;simp;omega));clear aee amX Zt ali amZ X4 Bh Bl CV FB Dl Ey Ia;have X4:=aef
     try clear Bh Bl CV FB
     try clear Dl Ey Ia
     obtain ⟨Bh,Bl,CV,FB,Dl,Ey,Ia⟩:=X4.BF
     )
   obtain ⟨Rx,alj⟩:∃ W:World,W=w10.setCell ⟨g4,2,none⟩ (.slice Xe (i+1) c10):=⟨_,rfl⟩;rw [<- alj] at qG aeg aeh aei aej aaD ⊢;have eG:=AA (show AO Rx g4 26 #[.slice Js q.nodes.length Jt,.slice P7 q.AU.length ca',.slice Xe (i+1) c10] by simpa using aeg.out);obtain ⟨hx1,hx2,hx3⟩:=fC.out Rx aaD.out;have Sr:=aeK ⟨tw,X,⟨oa,on,oc⟩,In,⟨ia,FY,ic⟩,al',⟨aa,an,ac⟩⟩ Rx hx2.sl (by show In.length<=100000;omega);have zl:(MQ ⟨tw,X,⟨oa,on,oc⟩,In,⟨ia,FY,ic⟩,al',⟨aa,an,ac⟩⟩).length<=513:=by show In.length+1<=513;omega
   have hcr:∀ y∈MQ ⟨tw,X,⟨oa,on,oc⟩,In,⟨ia,FY,ic⟩,al',⟨aa,an,ac⟩⟩,Ints Rx (BJ y.2) y.1:=fun y hy=>by
    rcases EJ.1 hy with rfl | hy
    · exact hx1
    · exact hx3 y hy
   have hck:=Lr.out;unfold BJ at Sr;simp only at Sr;generalize MQ ⟨tw,X,⟨oa,on,oc⟩,In,⟨ia,FY,ic⟩,al',⟨aa,an,ac⟩⟩=CY at *;have dL:=AA Sr;have SS:=AA hcr;have Gm:=AA hck;have X9:=aej.out;clear alj hx1 hx2 hx3 Sr hcr hck Lr X4 Bh Bl CV FB Dl Ey Ia aeg qF afD HM9 aec aaC aed fC;obtain ⟨Gv,Gw,JL,X9c,X9d,-,-,-,-⟩:=X9.MC;go_wp2_with fail;refine dL.out.mono ?_;rintro e dO ⟨⟨A2,c2,rfl,ho2⟩,Td⟩;have avY:=AA (qG.out.keep Td);have alk:=AA (eG.out.keep Td);have aaE:=AA (aeh.out.keep Td);have avZ:=AA (aei.out.keep Td);have ava:=AA (gB aaD.out Td);have EU:=AA ho2;have ax3:=AA (show ∀ y∈CY,Ints dO (BJ y.2) y.1 from fun y hy=>(SS.out y hy).mono Td);have azh:=alk.out.lt;clear Td ho2 X9 Gv Gw JL X9c X9d dL qG eG aeh aei aej aaD SS;go_upto_block 2 with fail;go_wp2_with fail;go_loopw [57] (fun u wr=>∃ j:Nat,j<=CY.length/\u=.int .i64 j/\(∃ n,n<=300000*i+513*j/\Gg wr gs n (Xc (U2 q O i) ((i:Int)+1) ((CY.take j).map (·.1))))/\dO.grownBy wr (some gs)) (fun u _=>CY.length-(intOf u).toNat)
   case atStart => exact ⟨0,BZ _,rfl,⟨nm,Dn hnm (Nat.le_add_right _ _),by rw [OB,QE,avx];exact aaE.out⟩,gR dO _⟩
   case round =>
    obtain ⟨j,hj,rfl,⟨n1,hn1,hmp⟩,hgj⟩:=hrel;obtain ⟨wq,rfl⟩:=BO wr;have HM:=AA hmp;have je:=AA hgj;have hzq:=hgj.size;clear hmp hgj;by_cases hlj:j<CY.length
    ·obtain ⟨b2,o2,rfl,aBi,c0⟩:=(Own.grown EU.out je.out (fun g hg e=>afA EU.out aaE.out (by rw [hg,e]))).row_of.cy hlj;have hin:=(ax3.out CY[j] (BH hlj)).amP aaE.out je.out;have hcy:CY[j].1∈MP q O (i+1):=by rw [<- Gm.out];exact Gs (BH hlj)
     have hdd:∀ d∈CY[j].1,ES d:=fun d hd=>by
      have:=HV.out.Qo (HV.out.aeo (fun X hX=>(XM (Bj q)).1.subset (by rw [ZR.out];exact hX)) hcy hd)
      exact KU AB AB
     have hcl:CY[j].1.length<=512:=by
      have hc2:CY[j].1=[]\/CY[j].1∈CX q:=by
       unfold MP Jq at hcy;rcases EJ.1 hcy with e | hc
       ·rw [e];unfold Lp;split
        · exact .inl rfl
        · cases e9:O[i+1-1]? with
         | none=>exact .inl rfl
         | some Y=>exact .inr (Nl.1 ((XM (Bj q)).1.subset (by rw [ZR.out];exact abC e9))).1
       · exact .inr (iD.1 (QF.1 hc).1).1
      rcases hc2 with e | hc
      · rw [e];simp
      · exact Dn (Uy (HV.out.Gy hc).1 (HV.out.Gy hc).2) HV.out.xk
     have htk:(CY.take (j+1)).map (·.1)=(CY.take j).map (·.1)++[CY[j].1]:=by rw [En hlj,GL];rfl
     generalize CY[j]=x at *;obtain ⟨C,xa,xn,xc⟩:=x;unfold BJ at hin;simp only at hin c0 hdd hcl htk;have hin0:=hin;obtain ⟨Ax,cx,he,hx1,hx2,kD⟩:=hin;injection he with y1 y2 y3;subst y1 y2 y3;unfold maxLen at hx2;have Jg:=AA hin0;have WU:=AA hdd;have Et:=AA htk;clear hin0 hdd htk hcy kD;have HMe:=AA (avy (U2 q O i) ((i:Int)+1) ((CY.take j).map (·.1)));go_upto_block 4 with fail;clear c0 aBi;go_wp2_with fail;go_loopw [63] (fun u wr=>∃ m:Nat,m<=C.length/\u=.int .i64 m/\(∃ n,n<=300000*i+513*j+m/\Gg wr gs n (Xc (U2 q O i) ((i:Int)+1) ((CY.take j).map (·.1)++[C.take m])))/\wq.grownBy wr (some gs)) (fun u _=>C.length-(intOf u).toNat)
     case atStart => exact ⟨0,BZ _,rfl,⟨n1,hn1,by rw [OB,HMe.out];exact HM.out⟩,gR wq _⟩
     case round =>
      obtain ⟨m,hm,rfl,⟨n2,hn2,alm⟩,hgm⟩:=hrel;have QN:=AA alm;have HGm:=AA hgm;clear alm hgm;by_cases hlm:m<C.length
      ·obtain ⟨Ax',cx',he',-,-,aln⟩:=Jg.out.amP HM.out HGm.out;injection he' with y1 y2 y3;subst y1;clear y2 y3;obtain ⟨b3,o3,rfl,qo,d0⟩:=(show Row _ _ (C.flatMap D5) from aln).int hlm;have hwf:=WU.out C[m] (BH hlm);have hst:=avz (U2 q O i) ((i:Int)+1) ((CY.take j).map (·.1)) C hlm;generalize C[m]=d at *;obtain ⟨w6,hr6,Xa,JB⟩:=QN.out.upd (avr hn2 AB AB AB) d hwf ((i:Int)+1);rw [<- hst] at Xa;have Ul:=AA Xa;have WA:=AA (gT HGm.out JB);have ki8:IntKind.i64.wrap ((i:Int)+1)=(i:Int)+1:=Ci _ AB;clear Xa JB hst aln;go_wp2;go_roundw
       case rel => exact ⟨m+1,AB,BI,⟨n2+1,Nat.succ_le_succ hn2,Ul.out⟩,WA.out⟩
       case measure => exact BK
      ·obtain rfl:m=C.length:=by omega
       have hmf:=QN.out;rw [H8,<- Et.out] at hmf;have qH:=AA hmf;clear hmf;go_wp2;go_roundw
       case rel => exact ⟨j+1,AB,BI,⟨n2,avp hn2 hcl,qH.out⟩,gT je.out HGm.out⟩
       case measure => exact BK
    ·obtain rfl:j=CY.length:=by omega
     have hmf:=HM.out;rw [H8,Gm.out,<- aw0] at hmf;have qH:=AA hmf;have ZC:=AA (avY.out.avn aaE.out je.out);have aaF:=AA (AO.grown alk.out je.out (fun e=>amV (Dc e).symm));have aaG:=AA (AO.grown avZ.out je.out (fun e=>avW (Dc e).symm));have HGf:=AA (jy ava.out je.out (fun k hk=>by have:=Dc hk;omega));clear hmf;go_wp2_with fail;rw [<- zF];go_roundw
     case rel => exact ⟨i+1,AB,BI,⟨Xe,c10,by rw [ql.out];exact ZC.out,aaF.out,avX.out⟩,⟨n1,avq hn1 zl,qH.out⟩,aaG.out,HGf.out⟩
     case measure => exact BK
  ·obtain rfl:i=sl.length:=by omega
   have hbl:bl.length=q.AU.length:=by rw [<- HP.out.eq,Cm]
   obtain ⟨f,hf⟩:=BL (U2 q O sl.length);have kH:=AA hf;rw [hf] at HM;have ZY:=AA hbl;have jv:=AA HP.out.eq;have heq:(MB f bl 0).map (·.1)=q.AU:=by rw [amQ];exact HP.out.eq
   have qI:=AA (show IJ wo w.heap.size (.slice Js q.nodes.length Jt) (.slice P7 q.AU.length ca') (.slice Af sl.length cf) ⟨q.nodes,(MB f bl 0).map (·.1),VD sl.length⟩ (MB f bl 0) from by
    rw [heq,amQ];exact HP.out)
   have Nj:=AA (fun a (ha:a∈q.AU)=>HV.out.Gh ha);clear hf hbl heq HP X2 HAq HG yu
   try clear Bh Bl CV FB
   try clear Dl Ey Ia
   obtain ⟨Bh,Bl,CV,FB,-,-,-⟩:=X4.BF;go_upto_block 6 with fail;clear X4 Bh Bl CV FB;go_wp2_with fail;go_loopw [77] (fun u wr=>∃ k:Nat,k<=q.AU.length/\u=.int .i64 k/\IJ wr w.heap.size (.slice Js q.nodes.length Jt) (.slice P7 q.AU.length ca') (.slice Af sl.length cf) ⟨q.nodes,(MB f bl k).map (·.1),VD sl.length⟩ (MB f bl k)/\Gg wr gs nm f/\AO wr g4 26 #[.slice Js q.nodes.length Jt,.slice P7 q.AU.length ca',.slice Af sl.length cf]/\AO wr g2 26 #[.slice none 0 0,.slice none 0 0,.slice none 0 0]/\AP w wr) (fun u _=>q.AU.length-(intOf u).toNat)
   case atStart => exact ⟨0,BZ _,rfl,qI.out,HM.out,DJ.out,CG.out,HB.out⟩
   case round =>
    clear qI HM DJ CG HB;obtain ⟨k,hk,rfl,hpo,hmp,X4,X2,hb⟩:=hrel;obtain ⟨wq,rfl⟩:=BO wr;have HP:=AA hpo;have HM:=AA hmp;have DJ:=AA X4;have CG:=AA X2;have HB:=AA hb;have adv:=hmp.lt;have hl4:=X4.lt;have hqa:q.AU.length<=256:=by
     have hl:=HV.out.lim;unfold JX at hl;simp at hl;omega
    clear hpo hmp hb;by_cases hlt:k<q.AU.length
    ·have hkb:k<bl.length:=by rw [ZY.out];exact hlt
     have hkl:k<(MB f bl k).length:=by rw [avs];exact hkb
     have hat:=avu (f:=f) hkb hkl;have hset:=avv (f:=f) hkb;obtain ⟨gA,V4,hgA,azi,hfz,c0,c1,c2,c3,c4,c5⟩:=HP.out.I7.amR hkl;have hmem:bl[k].1∈q.AU:=by
      have:=HP.out.eq
      have h9:(MB f bl k)[k].1.id=bl[k].1.id:=by rw [hat]
      have h8:=jv.out;rw [<- h8];exact Gs (BH hkb)
     have hid:=Nj.out _ hmem;rw [hat] at c0 c1 c2 c3 c4 c5;generalize bl[k]=x at *;obtain ⟨⟨id,fr,dst,via,lf,rt⟩,⟨va,vn,vc⟩⟩:=x;simp only at c0 c1 c2 c3 c4 c5 hid hset;have HAt:=AA hat;have Xq:=AA hset;have aaH:¬ gA=g4:=fun e=>Own.Dz HP.out.I7 DJ.out BG (by rw [V4,<- e];rfl);have alo:¬ gA=g2:=fun e=>Own.Dz HP.out.I7 CG.out BG (by rw [V4,<- e];rfl);have alp:¬ gA=gs:=fun e=>afA HP.out.I7 HM.out (by rw [V4,<- e];rfl);clear hat hset hmem X2 hfz;go_upto_region 27 with fail;obtain ⟨W5,hW⟩:∃ W:World,W=wq.alloc (.cells #[.int .i64 id,.int .i64 fr,.int .i64 dst,.slice va vn vc,.int .i64 lf,.int .i64 rt] 50):=⟨_,rfl⟩;have hA:AP wq W5:=by rw [hW];exact bA (bR wq) _
     obtain ⟨g15,alq⟩:=BL wq.heap.size;have WH:AO W5 g15 50 #[.int .i64 id,.int .i64 fr,.int .i64 dst,.slice va vn vc,.int .i64 lf,.int .i64 rt]:=by rw [hW];exact AO.made alq.symm _ _
     have Xd:=AA (HP.out.keep hA);have TV:=AA (HM.out.keep hA);have Vu:=AA (DJ.out.keep hA);have ae8:=AA (CG.out.keep hA);have CW:=AA (bT HB.out hA);have RG:=hA.size;have n15:¬ g15=gA:=by omega
     rw [<- hW]
     try rw [alq]
     clear hW hA c0 c1 c2 c3 c4 c5 X4 HP HM DJ CG HB;have X4:=Vu.out;have ax4:ES id:=KU AB AB;have ax5:ES (-id):=KU AB AB;have azj:=(TV.out.keep (bD (bR W5))).look id ax4;have hlk2:=(TV.out.keep (bD (bR W5))).look (-id) ax5;have kng:IntKind.i64.wrap (-id)=-id:=Ci _ AB;obtain ⟨gA',l9,-,ax6,GZ,-,-,-,-,d4,d5⟩:=Xd.out.I7.amR hkl;rw [V4] at l9;injection l9 with l9;injection l9 with l9 _ _;rw [<- l9] at ax6 GZ d4 d5;have hf4:=GZ (k*6+4);have hf5:=GZ (k*6+5);have hp5:=Xd.out;rw [V4] at hp5;have hlr:=hp5.avw hkl (f id) (f (-id));rw [HAt.out] at hlr;have HLr:=AA (show IJ ((W5.setCell ⟨gA,k*6+4,none⟩ (.int .i64 (f id))).setCell ⟨gA,k*6+5,none⟩ (.int .i64 (f (-id)))).drew w.heap.size (.slice Js q.nodes.length Jt) (.slice P7 q.AU.length ca') (.slice Af sl.length cf) ⟨q.nodes,(MB f bl (k+1)).map (·.1),VD sl.length⟩ (MB f bl (k+1)) from by
      rw [V4];have h9:=Xq.out;unfold ZX at h9;simp only at h9;have qJ:=hlr;simp only at qJ;rw [h9] at qJ;refine ⟨qJ.QZ,qJ.I7,qJ.NQ,rfl,qJ.NR⟩)
     have qH:=AA (show Gg ((W5.setCell ⟨gA,k*6+4,none⟩ (.int .i64 (f id))).setCell ⟨gA,k*6+5,none⟩ (.int .i64 (f (-id)))).drew gs nm f from ((TV.out.setCell (p:=⟨gA,k*6+4,none⟩) (fun e=>alp e.symm) _).setCell (p:=⟨gA,k*6+5,none⟩) (fun e=>alp e.symm) _).keep (bD (bR _)));have aaF:=AA (((Vu.out.far (p:=⟨gA,k*6+4,none⟩) (fun e=>aaH e.symm) (.int .i64 (f id))).far (p:=⟨gA,k*6+5,none⟩) (fun e=>aaH e.symm) (.int .i64 (f (-id)))).drew);have aaG:=AA (((ae8.out.far (p:=⟨gA,k*6+4,none⟩) (fun e=>alo e.symm) (.int .i64 (f id))).far (p:=⟨gA,k*6+5,none⟩) (fun e=>alo e.symm) (.int .i64 (f (-id)))).drew);have MV:=AA (bD (bS (p:=⟨gA,k*6+5,none⟩) (bS (p:=⟨gA,k*6+4,none⟩) CW.out hgA (.int .i64 (f id))) hgA (.int .i64 (f (-id)))));have m3:¬ g4=gA:=fun e=>aaH e.symm;have m1:¬ some g4=some gA:=fun e=>aaH (Dc e).symm;have m2:¬ some g15=some gA:=fun e=>n15 (Dc e);have wW:(k:Int)<q.AU.length:=by omega
     have wZ:0<=(k:Int):=by omega
     clear hlr hp5 GZ Xd TV l9
     try clear Bh Bl CV FB
     try clear Dl Ey Ia
     obtain ⟨Bh,Bl,CV,FB,-,-,-⟩:=X4.BF;obtain ⟨vG,vH,vI,aaI,azk,azl,azm,-,-,-,-,-,-⟩:=WH.IU;refine Vp (W5) (some gA) (.run 9 0 0 (.run 4 10 511 (.two 9 16383 (.call 14 32767 (.take 15 65535 (.take 16 131071 (.call 17 262143 (.take 18 524287 (.take 19 1048575 (.call 20 2097151 (.done)))))))) 14 32255 (.call 9 32767 (.take 15 65535 (.take 16 131071 (.call 17 262143 (.take 18 524287 (.take 19 1048575 (.call 20 2097151 (.done))))))))))) fun Bv QR Ae Ah hS=>?_
     iterate 13 refine Aj ?_
     refine Oc (i:=9) (j:=14) (Ej Ae rfl) (Ej Ae rfl) (fun K hK=>?_) (fun K hK=>?_)
     ·have AQ:=AA hS;clear hS;refine FQ (FM rfl) ?_;go_simp;refine hK.out _ _ AQ.out (fun hS=>?_);clear hK K AQ
      try simp only [pu]
      refine BP ?_;clear hS;intro K hK AQ;go_simp;refine hK.out _ _ AQ.out (fun hS=>?_);clear hK K AQ
      try simp only [pu]
      iterate 2 refine Aj ?_
      refine BP ?_;clear hS;intro K hK AQ;go_simp;refine hK.out _ _ (by first | exact gS AQ.out _ _ | (unfold JI;have QW:World.grownBy _ _ _:=AQ.out;repeat (first | with_reducible assumption | with_reducible exact World.grownBy.refl _ _ | with_reducible refine gS ?_ _ _ | with_reducible refine gD ?_ | with_reducible refine gA ?_ _))) (fun hS=>?_);clear hK K AQ
      try simp only [pu]
      iterate 2 refine Aj ?_
      refine BP ?_;clear hS;intro K hK AQ;go_simp;refine hK.out _ _ (by first | exact gS AQ.out _ _ | (unfold JI;have QW:World.grownBy _ _ _:=AQ.out;repeat (first | with_reducible assumption | with_reducible exact World.grownBy.refl _ _ | with_reducible refine gS ?_ _ _ | with_reducible refine gD ?_ | with_reducible refine gA ?_ _))) (fun hS=>?_);clear hK K AQ
      try simp only [pu]
      refine Ry ?_;clear hS Ah Ae;intro hB;go_wp2_with fail;rw [<- V4];go_roundw
      case rel => exact ⟨_,_,_,⟨k+1,AB,BI,HLr.out,qH.out,aaF.out,aaG.out,MV.out⟩,rfl,rfl,rfl⟩
      case measure => exact BK
     ·have AQ:=AA hS;clear hS;refine FQ (FM rfl) ?_;go_simp;refine hK.out _ _ AQ.out (fun hS=>?_);clear hK K AQ
      try simp only [pu]
      refine BP ?_;clear hS;intro K hK AQ;go_simp;refine hK.out _ _ AQ.out (fun hS=>?_);clear hK K AQ
      try simp only [pu]
      iterate 2 refine Aj ?_
      refine BP ?_;clear hS;intro K hK AQ;go_simp;refine hK.out _ _ (by first | exact gS AQ.out _ _ | (unfold JI;have QW:World.grownBy _ _ _:=AQ.out;repeat (first | with_reducible assumption | with_reducible exact World.grownBy.refl _ _ | with_reducible refine gS ?_ _ _ | with_reducible refine gD ?_ | with_reducible refine gA ?_ _))) (fun hS=>?_);clear hK K AQ
      try simp only [pu]
      iterate 2 refine Aj ?_
      refine BP ?_;clear hS;intro K hK AQ;go_simp;refine hK.out _ _ (by first | exact gS AQ.out _ _ | (unfold JI;have QW:World.grownBy _ _ _:=AQ.out;repeat (first | with_reducible assumption | with_reducible exact World.grownBy.refl _ _ | with_reducible refine gS ?_ _ _ | with_reducible refine gD ?_ | with_reducible refine gA ?_ _))) (fun hS=>?_);clear hK K AQ
      try simp only [pu]
      refine Ry ?_;clear hS Ah Ae;intro hB;go_wp2_with fail;rw [<- V4];go_roundw
      case rel => exact ⟨_,_,_,⟨k+1,AB,BI,HLr.out,qH.out,aaF.out,aaG.out,MV.out⟩,rfl,rfl,rfl⟩
      case measure => exact BK
    ·obtain rfl:k=q.AU.length:=by omega
     try clear Bh Bl CV FB
     try clear Dl Ey Ia
     obtain ⟨Bh,Bl,CV,FB,-,-,-⟩:=X4.BF;obtain ⟨BQ,BR,BX,CZ,XI,iy,qV⟩:=X2.BF;go_wp2_with fail;have hab:MB f bl q.AU.length=bl.map (fun x=>(ZX f x.1,x.2)):=by rw [<- ZY.out];exact avt f bl
     have hP:=HP.out;rw [hab] at hP;have hre:r=⟨q.nodes,(bl.map (fun x=>(ZX f x.1,x.2))).map (·.1),VD sl.length⟩:=by
      rw [<- rH.out];have e1:(Bj q).length=sl.length:=QB.out.symm;have e2:(bl.map (fun x=>(ZX f x.1,x.2))).map (·.1)=q.AU.map (af9 q O):=by
       rw [<- jv.out,Mc,Mc];refine aay fun x _=>?_;unfold af9;rw [YX.out,kH.out];rfl
      rw [e1,e2,<- ZR.out,<- jd.out];rfl
     have hrn:r.nodes.length=q.nodes.length:=by rw [hre]
     have hra:r.AU.length=q.AU.length:=by rw [hre];simp [ZY.out]
     have hrf:r.faces.length=sl.length:=by rw [hre];exact amO _
     have hgw:w.heap.size<=g2:=by omega
     refine LG (g:=g2) (cs:=#[.slice Js q.nodes.length Jt,.slice P7 q.AU.length ca',.slice Af sl.length cf]) rfl uO rfl rfl (AO.Zr CG.out) (.inr ⟨H64.out,Js,Jt,P7,ca',Af,cf,bl.map (fun x=>(ZX f x.1,x.2)),?_,?_,?_⟩)
     · rw [hrn,hra,hrf];rfl
     · exact bS (p:=⟨g2,2,none⟩) (bS (p:=⟨g2,1,none⟩) (bS (p:=⟨g2,0,none⟩) HB.out hgw _) hgw _) hgw _
     ·rw [hrn,hra,hrf,hre];have z0:=AO.EW CG.out 0 (.slice Js q.nodes.length Jt);have z1:=AO.EW z0 1 (.slice P7 q.AU.length ca');exact ((hP.far CG.out BG BG BG BG 0 _).far z0 BG BG BG BG 1 _).far z1 BG BG BG BG 2 _
