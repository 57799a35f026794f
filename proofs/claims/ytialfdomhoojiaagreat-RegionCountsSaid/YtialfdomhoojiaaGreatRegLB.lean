import Derived.Test.YtialfdomhoojiaaGreatJ20
import Derived.Test.YtialfdomhoojiaaGreatJ21
import Derived.Test.YtialfdomhoojiaaGreatJ28
set_option linter.unusedSimpArgs false
set_option linter.unusedVariables false
namespace Go.Proofs.YtialfdomhoojiaaGreat
open Go.RowKit Go.Sort
def xO (p:Pl) (O:List (List Int)):Nat->Int->Int
 | 0,_=>0
 | n+1,d=>if (rQ p O (n+1)).any (fun c=>decide (d∈c))=true then (n:Int)+1 else xO p O n d
def aaJ (p:Pl) (O:List (List Int)) (a:Ar):Ar:=⟨a.id,a.fr,a.dst,a.via,xO p O O.length a.id,xO p O O.length (-a.id)⟩
def U0 (p:Pl):Pl:=⟨p.nodes,(dw p).ah.map (aaJ (dw p) (sortK (aN (dw p)))),(List.range (aN (dw p)).length).map fun i:Nat=>((i:Int)+1)⟩
def apZ:Value:=.agg #[.slice none 0 0,.slice none 0 0,.slice none 0 0]
def agS (w:World) (p:Pl) (e:Ending) (w':World):Prop :=
 ∃ An cn Aa ca Af cf bl,e=.returned (.tuple #[.agg #[.slice An p.nodes.length cn,.slice Aa p.ah.length ca,.slice Af p.faces.length cf],.int .i64 0])/\Below w.heap.size w w'/\iU w' w.heap.size (.slice An p.nodes.length cn) (.slice Aa p.ah.length ca) (.slice Af p.faces.length cf) p bl
structure Mod (p:Pl):Prop where
 nodes:p.nodes.length<=100000
 ah:p.ah.length<=100000
 nS:∀ a∈p.ah,a.via.length<=100000
theorem jf.perm {p:Pl} {z:AD} {sl sl':List AD} {O O' R:List (List Int)} {N:List Nd} (h:jf p (z::sl) O R N) (hp:sl'.Perm sl) (ho:sl'.map (·.out)=O'):jf p (z::sl') O' R N:=by
 have key:∀ x∈sl,x.inn.map (·.1)=R.filter (fun c=>decide (iK p (oO p c)=some x.out))/\x.bn=(N.filter (fun n=>decide (iM p.ah n.id=0/\iK p n.pt=some x.out))).map (·.id):=by
  intro x hx;obtain ⟨i,hi,rfl⟩:=List.mem_iff_getElem.1 hx;have h1:i+1<(z::sl).length:=by simpa using hi
  have hl:=h.len;have e:qA O (i+1)=some sl[i].out:=by
   rw [DC (by omega) (by simp only [List.length_cons] at hl;omega)];have:=h.KY h1 (by omega)
   simp only [List.getElem_cons_succ,Nat.add_sub_cancel] at this ⊢;rw [this]
  have a:=h.inn (i+1) h1;have b:=h.bn (i+1) h1;rw [e] at a b;exact ⟨a,b⟩
 have hout:(z::sl').map (·.out)=[]::O':=by
  have h0:=h.out;rw [List.map_cons] at h0 ⊢;injection h0 with h0 _;rw [h0,ho]
 have hlen:sl'.length=O'.length:=by rw [<- ho,List.length_map]
 have hk:∀ i (hi:i<sl'.length),qA O' (i+1)=some sl'[i].out:=fun i hi=>by
  rw [DC (by omega) (by omega)];subst ho;simp
 refine ⟨hout,fun i hi=>?_,fun i hi=>?_⟩
 · match i,hi with
  | 0,_=>exact h.inn 0 (by simp)
  | i+1,hi =>
   have hi':i<sl'.length:=by simpa using hi
   rw [hk i hi'];exact (key _ (hp.subset (List.getElem_mem hi'))).1
 · match i,hi with
  | 0,_=>exact h.bn 0 (by simp)
  | i+1,hi =>
   have hi':i<sl'.length:=by simpa using hi
   rw [hk i hi'];exact (key _ (hp.subset (List.getElem_mem hi'))).2
theorem iU.ap0 {w w':World} {B B':Nat} {vn va vf v:Value} {p:Pl} {bl:List (Ar×SV)} {L:List AD} (h:iU w B vn va vf p bl) (ho:Own w B' 82 4 dH v L) (hg:w.grownBy w' v.ownBlock):iU w' B vn va vf p bl :=
 ⟨Own.grown h.tu hg (Own.apart h.tu ho (by decide)),Own.grown h.iQ hg (Own.apart h.iQ ho (by decide)),fun x hx=>Own.grown (h.nS x hx) hg (Own.apart (h.nS x hx) ho (by decide)),h.eq,Own.grown h.oQ hg (Own.apart h.oQ ho (by decide))⟩
theorem iU.ap1 {w w':World} {B gm n:Nat} {f:Int->Int} {vn va vf:Value} {p:Pl} {bl:List (Ar×SV)} (h:iU w B vn va vf p bl) (hm:fQ w gm n f) (hg:w.grownBy w' (some gm)):iU w' B vn va vf p bl:=by
 have ne:∀ {α:Type} {e:TypeId} {size:Nat} {fe:α->List Value} {v:Value} {l:List α},Own w B e size fe v l->∀ g,v.ownBlock=some g->some g≠some gm:=fun ho g hg e=>by
  rcases ho.2 with ⟨rfl,_⟩ | ⟨g',cap,cur,rfl,_,hh,_⟩
  · simp [Value.ownBlock] at hg
  ·have:g'=gm:=by
    have h1:g'=g:=by simpa [Value.ownBlock] using hg
    have h2:=Option.some.inj e;omega
   exact Du hm (cs:=cur) (g:=g') hh this
 exact ⟨Own.grown h.tu hg (ne h.tu),Own.grown h.iQ hg (ne h.iQ),fun x hx=>Own.grown (h.nS x hx) hg (ne (h.nS x hx)),h.eq,Own.grown h.oQ hg (ne h.oQ)⟩
theorem Ints.agT {w w':World} {v:Value} {l:List Int} (h:Ints w v l) {g:Nat} {t:TypeId} {cs:Array Value} (hb:aj w g t cs) (hc:∀ (j:Nat) (n:Int),cs[j]? ≠ some (.int .i64 n)) (hg:w.grownBy w' (some g)):Ints w' v l:=by
 obtain ⟨A,c,rfl,h1,h2,h3⟩:=h;refine ⟨A,c,rfl,h1,h2,fun hne=>?_⟩;obtain ⟨b,o,rfl,hlt,hcell⟩:=h3 hne;have hl:0<l.length:=by
  cases l with
  | nil=>exact absurd rfl hne
  | cons a l=>simp
 have h0:(l.flatMap dO)[0]? = some (.int .i64 l[0]):=by
  cases l with
  | nil=>cases hl
  | cons a l=>rfl
 have hcl:=hcell 0 _ h0;have hbg:b≠g:=fun e=>by
  subst e;rw [hb.cell] at hcl;exact hc _ _ hcl
 exact ⟨b,o,rfl,Nat.lt_of_lt_of_le hlt hg.size,fun j u hu=>by
  have:=hg.block b hlt (fun e=>hbg (Option.some.inj e))
  rw [<- hcell j u hu];simp only [World.cell?,this]⟩
structure U1 (w:World) (B:Nat) (v:Value) (L:List AD):Prop where
 own:Own w B 82 4 dH v L
 out:∀ x∈L,Ints w (aH x.ov) x.out
 inn:∀ x∈L,Own w B 24 1 kY (aH x.iv) x.inn
 iJ:∀ x∈L,∀ c∈x.inn,Ints w (aH c.2) c.1
theorem agU (a b c:SV) (j:Nat) (n:Int):(#[aH a,aH b,aH c] : Array Value)[j]? ≠ some (.int .i64 n):=by
 match j with
 | 0=>intro e;cases e
 | 1=>intro e;cases e
 | 2=>intro e;cases e
 | j+3=>intro e;simp at e
theorem U1.grown {w w':World} {B:Nat} {v:Value} {L:List AD} (h:U1 w B v L) {g:Nat} {a b c:SV} (hb:aj w g 26 #[aH a,aH b,aH c]) (hg:w.grownBy w' (some g)):U1 w' B v L:=by
 have ne:∀ {α:Type} {e:TypeId} {size:Nat} {fe:α->List Value} {v:Value} {l:List α},Own w B e size fe v l->e≠26->∀ q,v.ownBlock=some q->some q≠some g:=fun ho hne q hq e=>by
  have:=Own.dM ho hb hne
  exact this (by rw [hq,e])
 exact ⟨Own.grown h.own hg (ne h.own (by decide)),fun x hx=>(h.out x hx).agT hb (agU a b c) hg,fun x hx=>Own.grown (h.inn x hx) hg (ne (h.inn x hx) (by decide)),fun x hx d hd=>(h.iJ x hx d hd).agT hb (agU a b c) hg⟩
def yQ (n:Nat):List Int:=(List.range n).map fun i:Nat=>((i:Int)+1)
theorem agV (n:Nat):(yQ n).length=n:=by unfold yQ;simp
theorem ap2 (n:Nat):yQ (n+1)=yQ n++[(n:Int)+1]:=by unfold yQ;rw [List.range_succ,List.map_append];rfl
theorem aaK {w:World} {gm n:Nat} {f:Int->Int} {base:Nat} {e:TypeId} {size:Nat} {α:Type} {fe:α->List Value} {v:Value} {l:List α} (ho:Own w base e size fe v l) (h:fQ w gm n f):v.ownBlock≠some gm:=by
 rcases ho.2 with ⟨rfl,_⟩ | ⟨g,cap,cur,rfl,_,hh,_⟩
 · simp [Value.ownBlock]
 ·intro e';exact Du h (cs:=cur) (g:=g) hh (by simpa [Value.ownBlock] using e')
theorem fQ.setCell {w:World} {gm n:Nat} {f:Int->Int} (h:fQ w gm n f) {p:Addr} (hp:¬ gm=p.block) (u:Value):fQ (w.setCell p u) gm n f :=
 h.kept (row:=some p.block) ⟨rfl,rfl,rfl,by simp,fun i hi hne=>Below.heap_setCell w p u i (fun e=>hne (by rw [e]))⟩ (fun e=>hp (Option.some.inj e))
theorem fQ.obj {w:World} {gm n:Nat} {f:Int->Int} (h:fQ w gm n f) (j:Nat):w.cell? ⟨gm,j,none⟩=none:=by
 obtain ⟨D,h1,-⟩:=h;obtain ⟨es,clock,h2,-⟩:=h1;simp only [World.cell?,h2]
theorem Ints.agW {w w':World} {v:Value} {l:List Int} (h:Ints w v l) {gm n:Nat} {f:Int->Int} (hm:fQ w gm n f) (hg:w.grownBy w' (some gm)):Ints w' v l:=by
 obtain ⟨A,c,rfl,h1,h2,h3⟩:=h;refine ⟨A,c,rfl,h1,h2,fun hne=>?_⟩;obtain ⟨b,o,rfl,hlt,hcell⟩:=h3 hne;have hl:0<l.length:=by
  cases l with
  | nil=>exact absurd rfl hne
  | cons a l=>simp
 have h0:(l.flatMap dO)[0]? = some (.int .i64 l[0]):=by
  cases l with
  | nil=>cases hl
  | cons a l=>rfl
 have hcl:=hcell 0 _ h0;have hbg:b≠gm:=fun e=>by
  subst e;rw [hm.obj] at hcl
  cases hcl
 exact ⟨b,o,rfl,Nat.lt_of_lt_of_le hlt hg.size,fun j u hu=>by
  have:=hg.block b hlt (fun e=>hbg (Option.some.inj e))
  rw [<- hcell j u hu];simp only [World.cell?,this]⟩
theorem ap3 {n i j m:Nat} (h:n<=300000*i+513*j+m) (hm:m<=512):n<=300000*i+513*(j+1):=by omega
theorem ap4 {n i c:Nat} (h:n<=300000*i+513*c) (hc:c<=513):n<=300000*(i+1):=by omega
theorem ap5 {n i j m:Nat} (h:n<=300000*i+513*j+m) (hi:i<=64) (hj:j<=513) (hm:m<=512):n<4294967296:=by omega
def D5 (f:Int->Int) (a:Ar):Ar:=⟨a.id,a.fr,a.dst,a.via,f a.id,f (-a.id)⟩
def nC (f:Int->Int) (bl:List (Ar×SV)) (k:Nat):List (Ar×SV):=(bl.take k).map (fun x=>(D5 f x.1,x.2))++bl.drop k
theorem ap6 (f:Int->Int) (bl:List (Ar×SV)) (k:Nat):(nC f bl k).length=bl.length:=by unfold nC;simp;omega
theorem agX (f:Int->Int) (bl:List (Ar×SV)):nC f bl 0=bl:=by unfold nC;simp
theorem ap7 (f:Int->Int) (bl:List (Ar×SV)):nC f bl bl.length=bl.map (fun x=>(D5 f x.1,x.2)):=by unfold nC;simp
theorem ap8 {f:Int->Int} {bl:List (Ar×SV)} {k:Nat} (hk:k<bl.length) (h:k<(nC f bl k).length):(nC f bl k)[k]=bl[k]:=by
 have e:(nC f bl k)[k]? = bl[k]? := by
  unfold nC;rw [List.getElem?_append_right (by rw [List.length_map,List.length_take];omega),List.getElem?_drop];simp only [List.length_map,List.length_take];congr 1;omega
 rw [List.getElem?_eq_getElem h,List.getElem?_eq_getElem hk] at e;exact Option.some.inj e
theorem ap9 {f:Int->Int} {bl:List (Ar×SV)} {k:Nat} (hk:k<bl.length):(nC f bl k).set k (D5 f bl[k].1,bl[k].2)=nC f bl (k+1):=by
 unfold nC;have hl:((bl.take k).map (fun x=>(D5 f x.1,x.2))).length=k:=by rw [List.length_map,List.length_take];omega
 rw [List.set_append_right _ _ (by omega),hl,Nat.sub_self,List.take_succ_eq_append_getElem hk,List.map_append,List.append_assoc,List.drop_eq_getElem_cons hk,List.set_cons_zero];rfl
theorem Own.agY {w:World} {B n c:Nat} {A:Option Addr} {L:List (Ar×SV)} (h:Own w B 50 6 Dl (.slice A n c) L) {k:Nat} (hk:k<L.length):∃ g,A=some ⟨g,0,none⟩/\B<=g/\g<w.heap.size/\(∀ j,w.frozen? ⟨g,j,none⟩=false) /\
  w.cell? ⟨g,k*6,none⟩=some (.int .i64 L[k].1.id)/\w.cell? ⟨g,k*6+1,none⟩=some (.int .i64 L[k].1.fr)/\w.cell? ⟨g,k*6+2,none⟩=some (.int .i64 L[k].1.dst)/\w.cell? ⟨g,k*6+3,none⟩=some (.slice L[k].2.a L[k].2.n L[k].2.c)/\w.cell? ⟨g,k*6+4,none⟩=some (.int .i64 L[k].1.left)/\w.cell? ⟨g,k*6+5,none⟩=some (.int .i64 L[k].1.right):=by
 have hr:=h.row_of;rcases h.2 with ⟨hv,h0⟩ | ⟨g,cap,cur,hv,hg,hh,-⟩
 · omega
 ·injection hv with e1 e2 e3;subst e1;obtain ⟨b,o,iH,-,c0,c1,c2,c3,c4,c5⟩:=Row.ZU hr hk;injection iH with iH;injection iH with y1 y2 _;subst y1 y2;rw [Nat.zero_add] at c0 c1 c2 c3 c4 c5;exact ⟨g,rfl,hg,aj.lt hh,fun j=>aj.frozen hh j,c0,c1,c2,c3,c4,c5⟩
theorem iU.aqa {w:World} {B g n c:Nat} {vn vf:Value} {p:Pl} {bl:List (Ar×SV)} (h:iU w B vn (.slice (some ⟨g,0,none⟩) n c) vf p bl) {i:Nat} (hi:i<bl.length) (l r:Int) :
  iU ((w.setCell ⟨g,i*6+4,none⟩ (.int .i64 l)).setCell ⟨g,i*6+5,none⟩ (.int .i64 r)) B vn (.slice (some ⟨g,0,none⟩) n c) vf ⟨p.nodes,p.ah.set i ⟨bl[i].1.id,bl[i].1.fr,bl[i].1.dst,bl[i].1.via,l,r⟩,p.faces⟩ (bl.set i (⟨bl[i].1.id,bl[i].1.fr,bl[i].1.dst,bl[i].1.via,l,r⟩,bl[i].2)):=by
 have far:∀ {α:Type} {e:TypeId} {size:Nat} {fe:α->List Value} {v:Value} {m:List α},Own w B e size fe v m->e≠50->Own ((w.setCell ⟨g,i*6+4,none⟩ (.int .i64 l)).setCell ⟨g,i*6+5,none⟩ (.int .i64 r)) B e size fe v m:=fun ho hne=>by
  have hn:∀ q,_->some q≠_:=Own.apart ho h.iQ hne;exact Own.far (Own.far ho (fun e8=>hn g e8 rfl) _) (fun e8=>hn g e8 rfl) _
 have h1:=Own.KH Oz h.iQ hi (j:=4) (by omega) (⟨bl[i].1.id,bl[i].1.fr,bl[i].1.dst,bl[i].1.via,l,bl[i].1.right⟩,bl[i].2) (.int .i64 l) rfl;have hi2:i<(bl.set i ((⟨bl[i].1.id,bl[i].1.fr,bl[i].1.dst,bl[i].1.via,l,bl[i].1.right⟩:Ar),bl[i].2)).length:=by rw [List.length_set];exact hi
 have h2:=Own.KH Oz h1 hi2 (j:=5) (by omega) (⟨bl[i].1.id,bl[i].1.fr,bl[i].1.dst,bl[i].1.via,l,r⟩,bl[i].2) (.int .i64 r) (by rw [List.getElem_set_self];rfl);rw [List.set_set] at h2;refine ⟨far h.tu (by decide),h2,fun x hx=>?_,?_,far h.oQ (by decide)⟩
 ·rcases vW hx with ⟨rfl,_⟩ | ⟨j,hj,_,rfl⟩
  · exact far (show Own w B 39 2 iV (aH bl[i].2) bl[i].1.via from h.nS _ (List.getElem_mem hi)) (by decide)
  · exact far (h.nS _ (List.getElem_mem hj)) (by decide)
 · rw [List.map_set,h.eq]
theorem iU.face {w w1:World} {B:Nat} {vn va vf vf':Value} {p:Pl} {bl:List (Ar×SV)} {n:Int} (h:iU w B vn va vf p bl) (ho:Own w1 B 3 1 dO vf' (p.faces++[n])) (hg:w.grownBy w1 vf.ownBlock) :
  iU w1 B vn va vf' ⟨p.nodes,p.ah,p.faces++[n]⟩ bl :=
 ⟨Own.grown h.tu hg (Own.apart h.tu h.oQ (by decide)),Own.grown h.iQ hg (Own.apart h.iQ h.oQ (by decide)),fun y hy=>Own.grown (h.nS y hy) hg (Own.apart (h.nS y hy) h.oQ (by decide)),h.eq,ho⟩
def BP (f:Int->Int) (v:Int) (cs:List (List Int)) (d:Int):Int:=if cs.any (fun c=>decide (d∈c))=true then v else f d
theorem aqb (f:Int->Int) (v:Int):BP f v []=f:=by funext d;rfl
theorem aqc (f:Int->Int) (v:Int) (cs:List (List Int)):BP f v (cs++[[]])=BP f v cs:=by funext d;unfold BP;simp
theorem aqd (f:Int->Int) (v:Int) (cs:List (List Int)) (c:List Int) {m:Nat} (hm:m<c.length):BP f v (cs++[c.take (m+1)])=fun i=>if i=c[m] then v else BP f v (cs++[c.take m]) i:=by
 funext d
 unfold BP;rw [List.take_succ_eq_append_getElem hm];simp only [List.any_append,List.any_cons,List.any_nil,Bool.or_false,List.mem_append,List.mem_singleton,Bool.or_eq_true,decide_eq_true_eq];by_cases e:d=c[m]
 · rw [if_pos e,if_pos (.inr (.inr e))]
 ·rw [if_neg e];by_cases e2:(cs.any fun c=>decide (d∈c))=true\/d∈c.take m
  · rw [if_pos (by rcases e2 with g | g;exact .inl g;exact .inr (.inl g)),if_pos e2]
  · rw [if_neg (by rintro (g | g | g);exact e2 (.inl g);exact e2 (.inr g);exact e g),if_neg e2]
theorem aqe (p:Pl) (O:List (List Int)) (n:Nat):xO p O (n+1)=BP (xO p O n) ((n:Int)+1) (rQ p O (n+1)):=rfl
set_option maxRecDepth 100000 in
set_option maxHeartbeats 8000000 in
theorem aqf (v:Value) (p:Pl) (w:World) (h:dS w v p) (hm:Mod p) (hz:oH (dw p)=0):Calls Tryz.prog 21 #[v] w fun e w'=>(64<(aN (dw p)).length/\e=.returned (.tuple #[apZ,.int .i64 3])/\Below w.heap.size w w')\/(¬ 64<(aN (dw p)).length/\agS w (U0 p) e w'):=by
 have hv:=(NP _).1 hz;have OC:=Lib.hid (fun W (hW:Below w.heap.size w W)=>aoz v p W (h.mono hW) hm.nodes hm.ah hm.nS);have jr:=Lib.hid (fun u W (hu:dS W u (dw p))=>aal u (dw p) W hu hv);have zF:=Lib.hid (fun u W (hu:dS W u (dw p))=>aeJ u (dw p) W hu hv);have DU:=Lib.hid (fun u vc CL gm f W (hu:dS W u (dw p)) hc hcl hpm=>(af8 u vc (dw p) CL gm f W hu hv hc hcl hpm).mono (R':=fun e w'=>∃ gL cL z sl,e=.returned (.slice (some ⟨gL,0,none⟩) (sl.length+1) cL)/\(1:Int)<=(sl.length:Int)+1/\W.heap.size<=gL/\Below W.heap.size W w'/\jP 82 W w' W.heap.size (.slice (some ⟨gL,0,none⟩) (sl.length+1) cL) (z::sl)/\jf (dw p) (z::sl) (aN (dw p)) (iP (dw p)) (dw p).nodes/\sl.length+1<=cL) (by
  rintro e w' ⟨A,c,L,rfl,hb,had,hdv,-⟩;have hl:=hdv.len;obtain ⟨g,hg,hg0,-,-,-⟩:=Own.FN had.own (by omega);subst hg
  cases L with
  | nil=>simp at hl
  | cons z sl =>
   obtain ⟨A',c',he',h1,-,-⟩:=had.own.sl;injection he' with y1 y2 y3;subst y3;exact ⟨g,c,z,sl,rfl,by omega,hg0,hb,had,hdv,h1⟩))
 have HV:=Lib.hid hv;have uo:=Lib.hid (@aoK);have hmm:=@run_makeMap Tryz.prog;obtain ⟨_,_,_,al,rfl,hpa,⟨An,cn,rfl,-⟩,⟨⟨Aa,ca,rfl,-⟩,-⟩,⟨Af,cf,rfl,-⟩⟩:=h;obtain ⟨q,hq⟩:∃ q,dw p=q:=⟨_,rfl⟩;obtain ⟨r,hr⟩:∃ r,U0 p=r:=⟨_,rfl⟩;have hr2:=hr;unfold U0 at hr2;rw [hq] at hr2;have HRe:=Lib.hid hr2;rw [hr];rw [hq] at OC jr zF DU HV ⊢;have hqn:p.nodes=q.nodes:=by rw [<- hq];rfl
 have Jf:=Lib.hid hqn;have hqf:q.faces=[]:=by rw [<- hq];rfl
 have HQf:=Lib.hid hqf;clear hm hz hpa hv hr hr2 hq hqn hqf;generalize p.nodes.length=nn at *;generalize al.length=na at *;generalize p.faces.length=nf at *;go_enter Tryz.func21,Tryz.ntmps21;go_upto_region 1 with fail;obtain ⟨g2,hg2⟩:∃ g2,w.heap.size+1=g2:=⟨_,rfl⟩;obtain ⟨W1,hW⟩:∃ W:World,W=(w.alloc (.cells #[.slice An nn cn,.slice Aa na ca,.slice Af nf cf] 26)).alloc (.cells #[.slice none 0 0,.slice none 0 0,.slice none 0 0] 26):=⟨_,rfl⟩;have X1:aj W1 w.heap.size 26 #[.slice An nn cn,.slice Aa na ca,.slice Af nf cf]:=by rw [hW];exact (aj.made rfl _ _).alloc _
 have X2:aj W1 g2 26 #[.slice none 0 0,.slice none 0 0,.slice none 0 0]:=by rw [hW];exact aj.made (by rw [<- hg2];simp) _ _
 have HB1:=Lib.hid (show Below w.heap.size w W1 by rw [hW];exact bA (bA (bR w) _) _);rw [<- hW]
 try rw [hg2]
 have bY:=Lib.hid X2;have hgw:w.heap.size<=g2:=by omega
 clear hW hg2;obtain ⟨aI,aJ,aK,aP,-,-,-⟩:=X1.bC;go_wp2_with fail;refine (OC.out _ HB1.out).mono ?_;rintro e w2 ⟨l7,l9,uQ,ca',bl,rfl,hb2,hpo⟩;have HB2:=Lib.hid (bT HB1.out hb2);have iE:=Lib.hid (bY.out.keep hb2);have hz1:=HB1.out.size;have HP:=Lib.hid (show iU w2 w.heap.size (.slice l7 q.nodes.length l9) (.slice uQ q.ah.length ca') (.slice none 0 0) q bl from ⟨hpo.tu.iW hz1,hpo.iQ.iW hz1,fun x hx=>(hpo.nS x hx).iW hz1,hpo.eq,hpo.oQ.iW hz1⟩);clear hb2 hpo OC X1 aI aJ aK aP X2 bY HB1 hz1;go_upto_region 2 with fail;obtain ⟨W3,hW⟩:∃ W:World,W=w2.alloc (.cells #[.slice l7 q.nodes.length l9,.slice uQ q.ah.length ca',.slice none 0 0] 26):=⟨_,rfl⟩;have hA:Below w2.heap.size w2 W3:=by rw [hW];exact bA (bR w2) _
 obtain ⟨g4,hg4⟩:∃ g4,w2.heap.size=g4:=⟨_,rfl⟩;have X4:aj W3 g4 26 #[.slice l7 q.nodes.length l9,.slice uQ q.ah.length ca',.slice none 0 0]:=by rw [hW];exact aj.made hg4.symm _ _
 have HB3:=Lib.hid (bT HB2.out hA);have dn:=Lib.hid (iE.out.keep hA);have Nk:=Lib.hid (HP.out.keep hA);have agZ:=Lib.hid X4;have atw:w.heap.size<=g4:=by have:=HB2.out.size;omega
 have aqg:¬ g2=g4:=by have:=iE.out.lt;omega
 rw [<- hW]
 try rw [hg4]
 clear hW hA hg4 HB2 iE HP;obtain ⟨cZ,dh,eF,jw,-,-,-⟩:=X4.bC;go_wp2_with fail;refine (jr.out _ _ Nk.out.ZT).mono ?_;rintro e w5 ⟨Ac,cc,CL,rfl,hb5,hcl,hco⟩;have dK:=Lib.hid (bT HB3.out hb5);have bK:=Lib.hid (dn.out.keep hb5);have zS:=Lib.hid (agZ.out.keep hb5);have BQ:=Lib.hid (Nk.out.keep hb5);have hle:(aY q).length=CL.length:=by rw [<- hcl,List.length_map]
 have hcr:=hco.read;rw [hle] at hcr ⊢;have xJ:=Lib.hid hcl;have DZ:=Lib.hid hcr;have zT:=Lib.hid hco;have X5:=zS.out;clear hb5 jr X4 cZ dh eF jw HB3 dn Nk hcl hcr hco hle agZ;obtain ⟨dF,dG,dI,jo,-,-,-⟩:=X5.bC;go_upto_region 5 with fail;refine bZ (Since w5) (.run 3 0 0 (.call 3 15 (.call 4 31 (.take 5 63 (.take 6 127 (.done)))))) (by kernel_rfl) (bD (bR _)) (by kernel_rfl) (by kernel_rfl) (Nat.le_of_ble_eq_true (by kernel_rfl)) ?_;intro cO QR ak aC hS
 iterate 3
  apply bg;exact ak;exact rfl;exact hS;exact rfl
  · intro _ hqc;go_simp;try rfl
  try simp only [pu]
 refine aT (i:=3) (aG ak rfl) (fun K hK=>?_);have aA:=Lib.hid hS;clear hS;refine aO (aV rfl) ?_;go_simp;refine (zF.out _ _ ((BQ.out.keep aA.out).ZT)).mono ?_;rintro e bH ⟨gm,f,rfl,bJ,hgm,hpm⟩;have hS:Since w5 bH:=bT (w:=w5) aA.out bJ;clear aA;refine hK.out _ _ hS (fun _=>?_);clear hK K
 try simp only [pu]
 refine aT (i:=4) (aG ak rfl) (fun K hK=>?_);have aA:=Lib.hid hS;clear hS;refine aO (aV rfl) ?_;go_simp;refine (DU.out _ _ CL gm f _ ((BQ.out.keep aA.out).ZT) (DZ.out.mono aA.out) xJ.out hpm).mono ?_;rintro e wr2 ⟨gL,cL,z,sl,rfl,kL1,hgL,gZ,had,hdv,atx⟩;have hS:Since w5 wr2:=bT (w:=w5) aA.out gZ;clear aA;refine hK.out _ _ hS (fun _=>?_);clear hK K
 try simp only [pu]
 iterate 2
  apply bg;exact ak;exact rfl;exact hS;exact rfl
  · intro _ hqc;go_simp;try rfl
  try simp only [pu]
 refine bM ?_;refine aC.down _ _ ?_;have hB:Below w5.heap.size w5 wr2:=hS;clear hS aC ak;skip;obtain ⟨W6,hW6⟩:∃ W:World,W=wr2:=⟨_,rfl⟩;rw [<- hW6] at had hB gZ ⊢;have iL:=Lib.hid (bT dK.out hB);have jL:=Lib.hid (bK.out.keep hB);have aaL:=Lib.hid (zS.out.keep hB);have HP6:=Lib.hid (BQ.out.keep hB);have hsl:sl.length=(aN q).length:=by have:=hdv.len;simp only [List.length_cons] at this;omega
 have mZ:=Lib.hid had;have P5:=Lib.hid hdv;have yF:=Lib.hid hsl;have aqh:=Lib.hid bJ;have aaM:=Lib.hid gZ;obtain ⟨PA,P6⟩:∃ PA,(if cL=1 then some (⟨gL,0,none⟩:Addr) else some ⟨gL,4,none⟩)=PA:=⟨_,rfl⟩
 try rw [P6]
 have HPA:=Lib.hid (show 0<sl.length->PA=some ⟨gL,4,none⟩ from fun h=>by rw [<- P6,if_neg (by omega)]);have aty:w.heap.size<=gL:=by have:=dK.out.size;have:=bJ.size;simp at this;omega
 have SY:w.heap.size<=W6.heap.size:=iL.out.size;clear hB bJ gZ hW6 had hdv hsl P6 hpm hgm bK zS BQ X5 dF dG dI jo zF DU kL1;by_cases h64:64<sl.length
 ·have H64:=Lib.hid (show 64<(aN q).length by rw [<- yF.out];exact h64);have aqi:(64:Int)<(sl.length:Int):=by omega
  have X6:=jL.out;clear h64;obtain ⟨jk,jl,jm,sK,TD,TG,aqj⟩:=X6.bC;go_wp2_with fail;refine su (g:=g2) (cs:=#[.slice none 0 0,.slice none 0 0,.slice none 0 0]) rfl Qz rfl rfl (aj.ML jL.out) (.inl ⟨H64.out,rfl,?_⟩);exact bS (p:=⟨g2,2,none⟩) (bS (p:=⟨g2,1,none⟩) (bS (p:=⟨g2,0,none⟩) iL.out hgw _) hgw _) hgw _
 have H64:=Lib.hid (show ¬ 64<(aN q).length by rw [<- yF.out];exact h64);have aqi:¬ (64:Int)<(sl.length:Int):=by omega
 have atz:sl.length<=64:=by omega
 clear h64;have HAk:=Lib.hid (show ∀ s∈sl,oU bH s from fun s hs=>by
  have hm:s∈z::sl:=List.mem_cons_of_mem _ hs;obtain ⟨i,hi,hie⟩:=List.mem_iff_getElem.1 hs;have h1:i+1<(z::sl).length:=by simpa using hi
  have ho:=P5.out.KY h1 (by omega);have hl:=P5.out.len;simp only [List.getElem_cons_succ] at ho;rw [hie] at ho;have hX:s.out∈aN q:=by rw [ho];exact List.getElem_mem _
  have hc:=(kH.1 hX).1;exact ⟨mZ.out.out s hm,List.length_pos_iff.2 (HV.out.OV hc),fun d hd=>HV.out.Dv ((HV.out.kK hc).2 d hd)⟩)
 have ag0:=Lib.hid (show Calls Tryz.prog 60 #[.slice PA sl.length (cL-1),.func (.func 61) #[] #[]] W6 fun e w'=>e=.returned (.tuple #[])/\∃ sl':List AD,sl'.Perm sl/\sl'.Pairwise (fun a b=>ltOf (fun x y:AD=>cmpK (eU x.out) (eU y.out)) b a=false)/\Own w' bH.heap.size 82 4 dH (.slice (some ⟨gL,0,none⟩) (sl.length+1) cL) (z::sl')/\W6.grownBy w' (some gL) from by
  rcases Nat.eq_zero_or_pos sl.length with h0 | h0
  ·have hs0:sl=[]:=List.eq_nil_of_length_eq_zero h0;rw [h0];refine Calls.mono (AnyF.slices_SortFunc_none Tryz.sortAd PA (cL-1) (.func (.func 61) #[] #[]) W6) ?_;rintro e w' ⟨rfl,rfl⟩;have ho:=mZ.out.own;rw [hs0] at ho;exact ⟨rfl,[],by rw [hs0],List.Pairwise.nil,ho,World.grownBy.refl _ _⟩
  ·rw [HPA.out h0];exact uo.out bH bH.heap.size gL cL (cL-1) z sl W6 mZ.out.own h0 aaM.out (Nat.le_refl _) HAk.out (by omega))
 go_wp2_with fail;refine ag0.out.mono ?_;rintro e w7 ⟨rfl,sl',hp,hs,vU,je⟩;have hb7:=bG aaM.out je (fun k hk=>by have:=Option.some.inj hk;have:=(mZ.out.own.lt gL rfl).1;omega);have zG:=Lib.hid (bG iL.out je (fun k hk=>by have:=Option.some.inj hk;omega));have hll:=hp.length_eq;have HP7:=Lib.hid (HP6.out.ap0 mZ.out.own je);have kF:=Lib.hid (aj.grown jL.out je (fun e=>Own.dM mZ.out.own jL.out (by decide) e.symm));have U2:=Lib.hid (aj.grown aaL.out je (fun e=>Own.dM mZ.out.own aaL.out (by decide) e.symm));have hord:sl'.map (·.out)=sortK (aN q):=by
  refine HV.out.am5 ?_ ?_
  ·have h1:=hp.map (·.out);refine h1.trans ?_;have h2:=P5.out.out;rw [List.map_cons] at h2;injection h2 with _ h2;rw [h2]
  ·rw [List.pairwise_map];refine hs.imp (fun {a b} g=>?_);have g':ltOf (fun x y:AD=>cmpK (eU x.out) (eU y.out)) b a=false:=g;rw [Ul (fun x:AD=>eU x.out)] at g';exact g'
 obtain ⟨O,hO⟩:∃ O,sortK (aN q)=O:=⟨_,rfl⟩;rw [hO] at hord;have hdp:=P5.out.perm hp hord;have HD:=Lib.hid hdp;have hmem:∀ x∈z::sl',x∈z::sl:=fun x hx=>by
  rcases List.mem_cons.1 hx with rfl | hx
  · exact List.mem_cons_self
  · exact List.mem_cons_of_mem _ (hp.subset hx)
 have HA7:=Lib.hid (show U1 w7 bH.heap.size (.slice (some ⟨gL,0,none⟩) (sl.length+1) cL) (z::sl') from ⟨vU,fun x hx=>(mZ.out.out x (hmem x hx)).mono hb7,fun x hx=>Own.grown (mZ.out.inn x (hmem x hx)) je (fun g hg=>Own.apart (mZ.out.inn x (hmem x hx)) mZ.out.own (by decide) g hg),fun x hx c hc=>(mZ.out.iJ x (hmem x hx) c hc).mono hb7⟩);have HOe:=Lib.hid hO;have DR:=Lib.hid hll;have hol:O.length=sl.length:=by rw [<- hord,List.length_map,hll]
 have OL:=Lib.hid hol;clear hp hs vU je hb7 hll hord hO hdp hmem hol ag0 uo HAk iL jL aaL HP6 mZ P5 aqh aaM;go_upto_region 10 with fail;obtain ⟨gs,hgs⟩:∃ gs,w7.heap.size=gs:=⟨_,rfl⟩;obtain ⟨W8,hW⟩:∃ W:World,W=w7.alloc (.map #[] 0):=⟨_,rfl⟩;have hA:Below w7.heap.size w7 W8:=by rw [hW];exact bA (bR w7) _
 have FV:=Lib.hid (show fQ W8 gs 0 (xO q O 0) by
  have:=fQ.made w7
  rw [hW,<- hgs];exact this)
 have P7:=Lib.hid (HP7.out.keep hA);have CG:=Lib.hid (kF.out.keep hA);have ag1:=Lib.hid (U2.out.keep hA);have HG8:=Lib.hid (show w7.grownBy W8 (some g4) from gOf hA);rw [<- hW]
 try rw [hgs]
 have atA:w7.heap.size<=gs:=by omega
 have ag2:¬ gs=g4:=by have:=U2.out.lt;omega
 have aqk:¬ gs=g2:=by have:=kF.out.lt;omega
 clear hW hA hgs hmm HP7;go_upto_block 0 with fail;go_wp2_with fail;go_loopw [42] (fun u wr=>∃ i:Nat,i<=sl.length/\u=.int .i64 i/\(∃ Af c,iU wr w.heap.size (.slice l7 q.nodes.length l9) (.slice uQ q.ah.length ca') (.slice Af i c) ⟨q.nodes,q.ah,yQ i⟩ bl/\aj wr g4 26 #[.slice l7 q.nodes.length l9,.slice uQ q.ah.length ca',.slice Af i c]/\∀ k,(Value.slice Af i c).ownBlock=some k->w7.heap.size<=k)/\(∃ n,n<=300000*i/\fQ wr gs n (xO q O i))/\aj wr g2 26 #[.slice none 0 0,.slice none 0 0,.slice none 0 0]/\w7.grownBy wr (some g4)) (fun u _=>sl.length-(intOf u).toNat)
 case atStart => exact ⟨0,Nat.zero_le _,rfl,⟨none,0,⟨P7.out.tu,P7.out.iQ,P7.out.nS,P7.out.eq,Own.nil _ _ _ _ _⟩,ag1.out,fun k hk=>by cases hk⟩,⟨0,by omega,FV.out⟩,CG.out,HG8.out⟩
 case round =>
  clear P7 CG ag1 HG8 FV;obtain ⟨i,hi,rfl,⟨Af,cf,hpo,X4,hfg⟩,⟨nm,hnm,hmp⟩,X2,hg⟩:=hrel;have HFg:=Lib.hid hfg;obtain ⟨wo,rfl⟩:∃ wo:World,wo=wr:=⟨_,rfl⟩;have HP:=Lib.hid hpo;have dn:=Lib.hid X4;have HM:=Lib.hid hmp;have bY:=Lib.hid X2;have HG:=Lib.hid hg;have HAq:=Lib.hid (HA7.out.grown (a:=⟨l7,q.nodes.length,l9⟩) (b:=⟨uQ,q.ah.length,ca'⟩) (c:=⟨none,0,0⟩) U2.out hg);have HB:=Lib.hid (bG zG.out hg (fun k hk=>by have:=Option.some.inj hk;omega));have Oq:=hg.size;have hl4:=X4.lt;have ae2:=hmp.lt;clear hpo hmp hg hfg;by_cases hlt:i<sl.length
  ·have hi1:i+1<(z::sl').length:=by have:=DR.out;simp only [List.length_cons];omega
   have P6:=HPA.out (by omega);obtain ⟨hgl,-,e0,e1,e2,e3⟩:=Own.apD HAq.out.own hi1;have ag3:=HD.out.UN hi1;have hxm:(z::sl')[i+1]∈z::sl':=List.getElem_mem hi1;have hxf:∀ W,w7.grownBy W (some g4)->Ints W (aH (z::sl')[i+1].ov) (z::sl')[i+1].out/\Own W bH.heap.size 24 1 kY (aH (z::sl')[i+1].iv) (z::sl')[i+1].inn/\∀ c∈(z::sl')[i+1].inn,Ints W (aH c.2) c.1:=fun W hg=>by
    have h:=HA7.out.grown (a:=⟨l7,q.nodes.length,l9⟩) (b:=⟨uQ,q.ah.length,ca'⟩) (c:=⟨none,0,0⟩) U2.out hg;exact ⟨h.out _ hxm,h.inn _ hxm,h.iJ _ hxm⟩
   have hinl:(z::sl')[i+1].inn.length<=512:=by
    have h9:=congrArg List.length (HD.out.inn (i+1) hi1);rw [List.length_map] at h9;rw [h9];refine Nat.le_trans (List.length_filter_le _ _) ?_;exact Nat.le_trans (List.length_filter_le _ _) HV.out.DF
   generalize (z::sl')[i+1]=x at *;obtain ⟨tw,X,⟨oa,on,oc⟩,In,⟨ia,iT,ic⟩,al',⟨aa,an,ac⟩⟩:=x;unfold aH at e1 e2 e3;simp only at e0 e1 e2 e3 hinl;rw [show (i+1)*4=4+i*4 by omega] at e0 e1 e2 e3;have qU:=Lib.hid ag3;have FM:=Lib.hid hxf;have ki1:(i:Int)<sl.length:=by omega
   have ki2:0<=(i:Int):=by omega
   have hfl:=agV i;have PZ:=Lib.hid hfl;have UO:=Lib.hid (ap2 i);have hsh:(yQ i++[(i:Int)+1]).length=i+1:=by rw [List.length_append,hfl];rfl
   have eu:=Lib.hid hsh;have aac:(yQ i).length<=64:=by omega
   have n4:=Own.dM HP.out.oQ dn.out (by decide);clear ag3 hxf hxm hfl hsh X2;go_upto_region 13 with fail;obtain ⟨W9,hW⟩:∃ W:World,W=wo.alloc (.cells #[.int .i64 tw,.slice oa on oc,.slice ia iT ic,.slice aa an ac] 82):=⟨_,rfl⟩;have hA:Below wo.heap.size wo W9:=by rw [hW];exact bA (bR wo) _
   obtain ⟨g9,wM⟩:∃ g9,wo.heap.size=g9:=⟨_,rfl⟩;have X9:aj W9 g9 82 #[.int .i64 tw,.slice oa on oc,.slice ia iT ic,.slice aa an ac]:=by rw [hW];exact aj.made wM.symm _ _
   have LQ:=Lib.hid (HP.out.keep hA);have aaN:=Lib.hid (dn.out.keep hA);have PO:=Lib.hid (HM.out.keep hA);have aaO:=Lib.hid (bY.out.keep hA);have U3:=Lib.hid (gB HG.out hA);have aaP:=Lib.hid X9;have n94:¬ g9=g4:=by omega
   rw [<- hW]
   try rw [wM]
   clear hW hA e0 e1 e2 e3 hgl X4 HP dn HM bY HG HB;have X4:=aaN.out
   try clear cZ
   try clear dh
   try clear eF
   try clear jw
   obtain ⟨cZ,dh,eF,jw,eG,iY,lu⟩:=X4.bC;go_upto_region 14 with
    (at_builtin
     refine jH _ rfl (.tmp 48) (.tmp 51) _ rfl (base:=w.heap.size) pV nH pW rfl (Own.alloc LQ.out.oQ _) rfl (l2:=[(i:Int)+1]) (Sl.lit (n:=1) (aj.made rfl _ _) rfl (dW (by omega))) (by simp only [List.length_cons,List.length_nil];omega) (by simp only [List.length_cons,List.length_nil];omega) (by have:=U3.out.size;have:=zG.out.size;simp;omega) ?_;intro v10 w10 aaQ Eb ag4;obtain ⟨BR,c10,ag5,-⟩:=Own.mY aaQ;rw [eu.out] at ag5;subst ag5;have aaR:=aj.grown (aaN.out.alloc _) Eb (fun e=>n4 e.symm);have ag6:=(LQ.out.keep (bA (bR W9) _)).face aaQ Eb;have LU:=Lib.hid (ag6.far aaR (by decide) (by decide) (by decide) (by decide) 2 (.slice BR (i+1) c10));have aaS:=Lib.hid (aaR.fF 2 (.slice BR (i+1) c10));have ag7:fQ w10 gs nm (xO q O i):=(PO.out.keep (bA (bR W9) _)).kept Eb (fun e=>by
      have:=aaK LQ.out.oQ PO.out
      exact this e.symm)
     have aaT:=Lib.hid (ag7.setCell (p:=⟨g4,2,none⟩) ag2 (.slice BR (i+1) c10));have aaU:=Lib.hid (aj.far (p:=⟨g4,2,none⟩) (aj.grown (aaO.out.alloc _) Eb (fun e=>Own.dM LQ.out.oQ aaO.out (by decide) e.symm)) aqg (.slice BR (i+1) c10));have aaV:=Lib.hid (aj.far (p:=⟨g4,2,none⟩) (aj.grown (aaP.out.alloc _) Eb (fun e=>Own.dM LQ.out.oQ aaP.out (by decide) e.symm)) n94 (.slice BR (i+1) c10));have U4:=Lib.hid (gS (agh (gA U3.out _) Eb (fun k hk=>HFg.out k hk)) 2 (.slice BR (i+1) c10));have aql:=Lib.hid (show ∀ k,(Value.slice BR (i+1) c10).ownBlock=some k->w7.heap.size<=k from ao7 ag4 HFg.out (by have:=U3.out.size;simp;omega));clear aaQ ag4 Eb ag7 ag6 X4 cZ dh eF jw eG iY lu;have X4:=aaR
     try clear cZ
     try clear dh
     try clear eF
     try clear jw
     try clear eG
     try clear iY
     try clear lu
     obtain ⟨cZ,dh,eF,jw,eG,iY,lu⟩:=X4.bC
     )
   obtain ⟨tJ,ag8⟩:∃ W:World,W=w10.setCell ⟨g4,2,none⟩ (.slice BR (i+1) c10):=⟨_,rfl⟩;rw [<- ag8] at LU aaS aaT aaU aaV U4 ⊢;have LV:=Lib.hid (show aj tJ g4 26 #[.slice l7 q.nodes.length l9,.slice uQ q.ah.length ca',.slice BR (i+1) c10] by simpa using aaS.out);obtain ⟨hx1,hx2,hx3⟩:=FM.out tJ U4.out;have vg:=ZF ⟨tw,X,⟨oa,on,oc⟩,In,⟨ia,iT,ic⟩,al',⟨aa,an,ac⟩⟩ tJ hx2.sl (by show In.length<=100000;omega);have agG:(kN ⟨tw,X,⟨oa,on,oc⟩,In,⟨ia,iT,ic⟩,al',⟨aa,an,ac⟩⟩).length<=513:=by show In.length+1<=513;omega
   have hcr:∀ y∈kN ⟨tw,X,⟨oa,on,oc⟩,In,⟨ia,iT,ic⟩,al',⟨aa,an,ac⟩⟩,Ints tJ (aH y.2) y.1:=fun y hy=>by
    rcases List.mem_cons.1 hy with rfl | hy
    · exact hx1
    · exact hx3 y hy
   have hck:=qU.out;unfold aH at vg;simp only at vg;generalize kN ⟨tw,X,⟨oa,on,oc⟩,In,⟨ia,iT,ic⟩,al',⟨aa,an,ac⟩⟩=CY at *;have EI:=Lib.hid vg;have DZ:=Lib.hid hcr;have jr:=Lib.hid hck;have X9:=aaV.out;clear ag8 hx1 hx2 hx3 vg hcr hck qU X4 cZ dh eF jw eG iY lu aaS LQ aaN PO aaO U3 aaP FM;obtain ⟨iw,iy,kE,WT,WU,-,-,-,-⟩:=X9.nG;go_wp2_with fail;refine EI.out.mono ?_;rintro e EK ⟨⟨A2,c2,rfl,ho2⟩,wX⟩;have aqm:=Lib.hid (LU.out.keep wX);have ag9:=Lib.hid (LV.out.keep wX);have U5:=Lib.hid (aaT.out.keep wX);have aqn:=Lib.hid (aaU.out.keep wX);have aqo:=Lib.hid (gB U4.out wX);have fM:=Lib.hid ho2;have aqp:=Lib.hid (show ∀ y∈CY,Ints EK (aH y.2) y.1 from fun y hy=>(DZ.out y hy).mono wX);have atB:=ag9.out.lt;clear wX ho2 X9 iw iy kE WT WU EI LU LV aaT aaU aaV U4 DZ;go_upto_block 2 with fail;go_wp2_with fail;go_loopw [57] (fun u wr=>∃ j:Nat,j<=CY.length/\u=.int .i64 j/\(∃ n,n<=300000*i+513*j/\fQ wr gs n (BP (xO q O i) ((i:Int)+1) ((CY.take j).map (·.1))))/\EK.grownBy wr (some gs)) (fun u _=>CY.length-(intOf u).toNat)
   case atStart => exact ⟨0,Nat.zero_le _,rfl,⟨nm,Nat.le_trans hnm (Nat.le_add_right _ _),by rw [List.take_zero,List.map_nil,aqb];exact U5.out⟩,gR EK _⟩
   case round =>
    obtain ⟨j,hj,rfl,⟨n1,hn1,hmp⟩,hgj⟩:=hrel;obtain ⟨wq,rfl⟩:∃ wq:World,wq=wr:=⟨_,rfl⟩;have HM:=Lib.hid hmp;have Jg:=Lib.hid hgj;have hzq:=hgj.size;clear hmp hgj;by_cases hlj:j<CY.length
    ·obtain ⟨b2,o2,rfl,aaB,c0⟩:=(Own.grown fM.out Jg.out (fun g hg e=>aaK fM.out U5.out (by rw [hg,e]))).row_of.cy hlj;have hin:=(aqp.out CY[j] (List.getElem_mem hlj)).agW U5.out Jg.out;have hcy:CY[j].1∈rQ q O (i+1):=by rw [<- jr.out];exact List.mem_map_of_mem (List.getElem_mem hlj)
     have hdd:∀ d∈CY[j].1,dP d:=fun d hd=>by
      have:=HV.out.Dv (HV.out.agC (fun X hX=>(Io (aN q)).1.subset (by rw [HOe.out];exact hX)) hcy hd)
      exact kQ (by omega) (by omega)
     have hcl:CY[j].1.length<=512:=by
      have hc2:CY[j].1=[]\/CY[j].1∈aY q:=by
       unfold rQ jq at hcy;rcases List.mem_cons.1 hcy with e | hc
       ·rw [e];unfold qA;split
        · exact .inl rfl
        · cases e9:O[i+1-1]? with
         | none=>exact .inl rfl
         | some Y=>exact .inr (kH.1 ((Io (aN q)).1.subset (by rw [HOe.out];exact List.mem_of_getElem? e9))).1
       · exact .inr (zC.1 (List.mem_filter.1 hc).1).1
      rcases hc2 with e | hc
      · rw [e];simp
      · exact Nat.le_trans (CQ (HV.out.kK hc).1 (HV.out.kK hc).2) HV.out.Zo
     have htk:(CY.take (j+1)).map (·.1)=(CY.take j).map (·.1)++[CY[j].1]:=by rw [List.take_succ_eq_append_getElem hlj,List.map_append];rfl
     generalize CY[j]=x at *;obtain ⟨C,xa,xn,xc⟩:=x;unfold aH at hin;simp only at hin c0 hdd hcl htk;have hin0:=hin;obtain ⟨Ax,cx,he,hx1,hx2,UQ⟩:=hin;injection he with y1 y2 y3;subst y1 y2 y3;unfold maxLen at hx2;have nY:=Lib.hid hin0;have Ih:=Lib.hid hdd;have kL:=Lib.hid htk;clear hin0 hdd htk hcy UQ;have HMe:=Lib.hid (aqc (xO q O i) ((i:Int)+1) ((CY.take j).map (·.1)));go_upto_block 4 with fail;clear c0 aaB;go_wp2_with fail;go_loopw [63] (fun u wr=>∃ m:Nat,m<=C.length/\u=.int .i64 m/\(∃ n,n<=300000*i+513*j+m/\fQ wr gs n (BP (xO q O i) ((i:Int)+1) ((CY.take j).map (·.1)++[C.take m])))/\wq.grownBy wr (some gs)) (fun u _=>C.length-(intOf u).toNat)
     case atStart => exact ⟨0,Nat.zero_le _,rfl,⟨n1,hn1,by rw [List.take_zero,HMe.out];exact HM.out⟩,gR wq _⟩
     case round =>
      obtain ⟨m,hm,rfl,⟨n2,hn2,aha⟩,hgm⟩:=hrel;have sO:=Lib.hid aha;have HGm:=Lib.hid hgm;clear aha hgm;by_cases hlm:m<C.length
      ·obtain ⟨Ax',cx',he',-,-,ahb⟩:=nY.out.agW HM.out HGm.out;injection he' with y1 y2 y3;subst y1;clear y2 y3;obtain ⟨b3,o3,rfl,atC,d0⟩:=(show Row _ _ (C.flatMap dO) from ahb).int hlm;have hwf:=Ih.out C[m] (List.getElem_mem hlm);have hst:=aqd (xO q O i) ((i:Int)+1) ((CY.take j).map (·.1)) C hlm;generalize C[m]=d at *;obtain ⟨w6,hr6,BO,vM⟩:=sO.out.upd (ap5 hn2 (by omega) (by omega) (by omega)) d hwf ((i:Int)+1);rw [<- hst] at BO;have yD:=Lib.hid BO;have HG6:=Lib.hid (gT HGm.out vM);have ki8:IntKind.i64.wrap ((i:Int)+1)=(i:Int)+1:=IntWalk.i64_in _ (by omega);clear BO vM hst ahb;go_wp2_with fail;go_roundw
       case rel => exact ⟨m+1,by omega,by go_num,⟨n2+1,Nat.succ_le_succ hn2,yD.out⟩,HG6.out⟩
       case measure => simp [intOf];omega
      ·obtain rfl:m=C.length:=by omega
       have hmf:=sO.out;rw [List.take_length,<- kL.out] at hmf;have LW:=Lib.hid hmf;clear hmf;go_wp2_with fail;go_roundw
       case rel => exact ⟨j+1,by omega,by go_num,⟨n2,ap3 hn2 hcl,LW.out⟩,gT Jg.out HGm.out⟩
       case measure => simp [intOf];omega
    ·obtain rfl:j=CY.length:=by omega
     have hmf:=HM.out;rw [List.take_length,jr.out,<- aqe] at hmf;have LW:=Lib.hid hmf;have DN:=Lib.hid (aqm.out.ap1 U5.out Jg.out);have U6:=Lib.hid (aj.grown ag9.out Jg.out (fun e=>ag2 (Option.some.inj e).symm));have U7:=Lib.hid (aj.grown aqn.out Jg.out (fun e=>aqk (Option.some.inj e).symm));have HGf:=Lib.hid (agh aqo.out Jg.out (fun k hk=>by have:=Option.some.inj hk;omega));clear hmf;go_wp2_with fail;rw [<- P6];go_roundw
     case rel => exact ⟨i+1,by omega,by go_num,⟨BR,c10,by rw [UO.out];exact DN.out,U6.out,aql.out⟩,⟨n1,ap4 hn1 agG,LW.out⟩,U7.out,HGf.out⟩
     case measure => simp [intOf];omega
  ·obtain rfl:i=sl.length:=by omega
   have hbl:bl.length=q.ah.length:=by rw [<- HP.out.eq,List.length_map]
   obtain ⟨f,hf⟩:∃ f,xO q O sl.length=f:=⟨_,rfl⟩;have PY:=Lib.hid hf;rw [hf] at HM;have D6:=Lib.hid hbl;have HPe:=Lib.hid HP.out.eq;have heq:(nC f bl 0).map (·.1)=q.ah:=by rw [agX];exact HP.out.eq
   have LX:=Lib.hid (show iU wo w.heap.size (.slice l7 q.nodes.length l9) (.slice uQ q.ah.length ca') (.slice Af sl.length cf) ⟨q.nodes,(nC f bl 0).map (·.1),yQ sl.length⟩ (nC f bl 0) from by
    rw [heq,agX];exact HP.out)
   have rD:=Lib.hid (fun a (ha:a∈q.ah)=>HV.out.jC ha);clear hf hbl heq HP X2 HAq HG HA7
   try clear cZ
   try clear dh
   try clear eF
   try clear jw
   try clear eG
   try clear iY
   try clear lu
   obtain ⟨cZ,dh,eF,jw,-,-,-⟩:=X4.bC;go_upto_block 6 with fail;clear X4 cZ dh eF jw;go_wp2_with fail;go_loopw [77] (fun u wr=>∃ k:Nat,k<=q.ah.length/\u=.int .i64 k/\iU wr w.heap.size (.slice l7 q.nodes.length l9) (.slice uQ q.ah.length ca') (.slice Af sl.length cf) ⟨q.nodes,(nC f bl k).map (·.1),yQ sl.length⟩ (nC f bl k)/\fQ wr gs nm f/\aj wr g4 26 #[.slice l7 q.nodes.length l9,.slice uQ q.ah.length ca',.slice Af sl.length cf]/\aj wr g2 26 #[.slice none 0 0,.slice none 0 0,.slice none 0 0]/\Below w.heap.size w wr) (fun u _=>q.ah.length-(intOf u).toNat)
   case atStart => exact ⟨0,Nat.zero_le _,rfl,LX.out,HM.out,dn.out,bY.out,HB.out⟩
   case round =>
    clear LX HM dn bY HB;obtain ⟨k,hk,rfl,hpo,hmp,X4,X2,hb⟩:=hrel;obtain ⟨wq,rfl⟩:∃ wq:World,wq=wr:=⟨_,rfl⟩;have HP:=Lib.hid hpo;have HM:=Lib.hid hmp;have dn:=Lib.hid X4;have bY:=Lib.hid X2;have HB:=Lib.hid hb;have ae2:=hmp.lt;have hl4:=X4.lt;have hqa:q.ah.length<=256:=by
     have hl:=HV.out.lim;unfold nN at hl;simp at hl;omega
    clear hpo hmp hb;by_cases hlt:k<q.ah.length
    ·have hkb:k<bl.length:=by rw [D6.out];exact hlt
     have hkl:k<(nC f bl k).length:=by rw [ap6];exact hkb
     have hat:=ap8 (f:=f) hkb hkl;have hset:=ap9 (f:=f) hkb;obtain ⟨gA,yM,hgA,atD,hfz,c0,c1,c2,c3,c4,c5⟩:=HP.out.iQ.agY hkl;have hmem:bl[k].1∈q.ah:=by
      have:=HP.out.eq
      have h9:(nC f bl k)[k].1.id=bl[k].1.id:=by rw [hat]
      have h8:=HPe.out;rw [<- h8];exact List.mem_map_of_mem (List.getElem_mem hkb)
     have hid:=rD.out _ hmem;rw [hat] at c0 c1 c2 c3 c4 c5;generalize bl[k]=x at *;obtain ⟨⟨id,fr,dst,via,lf,rt⟩,⟨va,vn,vc⟩⟩:=x;simp only at c0 c1 c2 c3 c4 c5 hid hset;have HAt:=Lib.hid hat;have YT:=Lib.hid hset;have U8:¬ gA=g4:=fun e=>Own.dM HP.out.iQ dn.out (by decide) (by rw [yM,<- e];rfl);have ahc:¬ gA=g2:=fun e=>Own.dM HP.out.iQ bY.out (by decide) (by rw [yM,<- e];rfl);have ahd:¬ gA=gs:=fun e=>aaK HP.out.iQ HM.out (by rw [yM,<- e];rfl);clear hat hset hmem X2 hfz;go_upto_region 27 with fail;obtain ⟨W5,hW⟩:∃ W:World,W=wq.alloc (.cells #[.int .i64 id,.int .i64 fr,.int .i64 dst,.slice va vn vc,.int .i64 lf,.int .i64 rt] 50):=⟨_,rfl⟩;have hA:Below wq.heap.size wq W5:=by rw [hW];exact bA (bR wq) _
     obtain ⟨g15,ahe⟩:∃ g15,wq.heap.size=g15:=⟨_,rfl⟩;have zo:aj W5 g15 50 #[.int .i64 id,.int .i64 fr,.int .i64 dst,.slice va vn vc,.int .i64 lf,.int .i64 rt]:=by rw [hW];exact aj.made ahe.symm _ _
     have BQ:=Lib.hid (HP.out.keep hA);have tq:=Lib.hid (HM.out.keep hA);have zS:=Lib.hid (dn.out.keep hA);have Zk:=Lib.hid (bY.out.keep hA);have dK:=Lib.hid (bT HB.out hA);have EZ:=hA.size;have n15:¬ g15=gA:=by omega
     rw [<- hW]
     try rw [ahe]
     clear hW hA c0 c1 c2 c3 c4 c5 X4 HP HM dn bY HB;have X4:=zS.out;have aqr:dP id:=kQ (by omega) (by omega);have aqs:dP (-id):=kQ (by omega) (by omega);have atE:=(tq.out.keep (bD (bR W5))).look id aqr;have hlk2:=(tq.out.keep (bD (bR W5))).look (-id) aqs;have kng:IntKind.i64.wrap (-id)=-id:=IntWalk.i64_in _ (by omega);obtain ⟨gA',Jh,-,aqt,tC,-,-,-,-,d4,d5⟩:=BQ.out.iQ.agY hkl;rw [yM] at Jh;injection Jh with Jh;injection Jh with Jh _ _;rw [<- Jh] at aqt tC d4 d5;have hf4:=tC (k*6+4);have hf5:=tC (k*6+5);have hp5:=BQ.out;rw [yM] at hp5;have hlr:=hp5.aqa hkl (f id) (f (-id));rw [HAt.out] at hlr;have HLr:=Lib.hid (show iU ((W5.setCell ⟨gA,k*6+4,none⟩ (.int .i64 (f id))).setCell ⟨gA,k*6+5,none⟩ (.int .i64 (f (-id)))).drew w.heap.size (.slice l7 q.nodes.length l9) (.slice uQ q.ah.length ca') (.slice Af sl.length cf) ⟨q.nodes,(nC f bl (k+1)).map (·.1),yQ sl.length⟩ (nC f bl (k+1)) from by
      rw [yM];have h9:=YT.out;unfold D5 at h9;simp only at h9;have LY:=hlr;simp only at LY;rw [h9] at LY;refine ⟨LY.tu,LY.iQ,LY.nS,rfl,LY.oQ⟩)
     have LW:=Lib.hid (show fQ ((W5.setCell ⟨gA,k*6+4,none⟩ (.int .i64 (f id))).setCell ⟨gA,k*6+5,none⟩ (.int .i64 (f (-id)))).drew gs nm f from ((tq.out.setCell (p:=⟨gA,k*6+4,none⟩) (fun e=>ahd e.symm) _).setCell (p:=⟨gA,k*6+5,none⟩) (fun e=>ahd e.symm) _).keep (bD (bR _)));have U6:=Lib.hid (((zS.out.far (p:=⟨gA,k*6+4,none⟩) (fun e=>U8 e.symm) (.int .i64 (f id))).far (p:=⟨gA,k*6+5,none⟩) (fun e=>U8 e.symm) (.int .i64 (f (-id)))).drew);have U7:=Lib.hid (((Zk.out.far (p:=⟨gA,k*6+4,none⟩) (fun e=>ahc e.symm) (.int .i64 (f id))).far (p:=⟨gA,k*6+5,none⟩) (fun e=>ahc e.symm) (.int .i64 (f (-id)))).drew);have qR:=Lib.hid (bD (bS (p:=⟨gA,k*6+5,none⟩) (bS (p:=⟨gA,k*6+4,none⟩) dK.out hgA (.int .i64 (f id))) hgA (.int .i64 (f (-id)))));have m3:¬ g4=gA:=fun e=>U8 e.symm;have m1:¬ some g4=some gA:=fun e=>U8 (Option.some.inj e).symm;have m2:¬ some g15=some gA:=fun e=>n15 (Option.some.inj e);have ZI:(k:Int)<q.ah.length:=by omega
     have ZJ:0<=(k:Int):=by omega
     clear hlr hp5 tC BQ tq Jh
     try clear cZ
     try clear dh
     try clear eF
     try clear jw
     try clear eG
     try clear iY
     try clear lu
     obtain ⟨cZ,dh,eF,jw,-,-,-⟩:=X4.bC;obtain ⟨NH,NI,NJ,U9,atG,atH,atI,-,-,-,-,-,-⟩:=zo.kZ;refine bZ (ji W5 (some gA)) (.run 9 0 0 (.run 4 10 511 (.two 9 16383 (.call 14 32767 (.take 15 65535 (.take 16 131071 (.call 17 262143 (.take 18 524287 (.take 19 1048575 (.call 20 2097151 (.done)))))))) 14 32255 (.call 9 32767 (.take 15 65535 (.take 16 131071 (.call 17 262143 (.take 18 524287 (.take 19 1048575 (.call 20 2097151 (.done))))))))))) (by kernel_rfl) (gD (gR _ _)) (by kernel_rfl) (by kernel_rfl) (Nat.le_of_ble_eq_true (by kernel_rfl)) ?_;intro cO QR ak aC hS
     iterate 13
      apply jI;exact ak;exact rfl;exact hS;exact rfl
      · intro _ hqc;go_simp;try rfl
      try simp only [pu]
     refine Ae (i:=9) (j:=14) (aG ak rfl) (aG ak rfl) (fun K hK=>?_) (fun K hK=>?_)
     ·have aA:=Lib.hid hS;clear hS;refine aO (aV rfl) ?_;go_simp;refine hK.out _ _ aA.out (fun hS=>?_);clear hK K aA
      try simp only [pu]
      refine aT (i:=14) (aG ak rfl) (fun K hK=>?_);have aA:=Lib.hid hS;clear hS;refine aO (aV rfl) ?_;go_simp;refine hK.out _ _ aA.out (fun hS=>?_);clear hK K aA
      try simp only [pu]
      iterate 2
       apply jI;exact ak;exact rfl;exact hS;exact rfl
       · intro _ hqc;go_simp;try rfl
       try simp only [pu]
      refine aT (i:=17) (aG ak rfl) (fun K hK=>?_);have aA:=Lib.hid hS;clear hS;refine aO (aV rfl) ?_;go_simp;refine hK.out _ _ (by first | exact gS aA.out _ _ | (unfold ji;have uH:World.grownBy _ _ _:=aA.out;repeat (first | with_reducible assumption | with_reducible exact World.grownBy.refl _ _ | with_reducible refine gS ?_ _ _ | with_reducible refine gD ?_ | with_reducible refine gA ?_ _))) (fun hS=>?_);clear hK K aA
      try simp only [pu]
      iterate 2
       apply jI;exact ak;exact rfl;exact hS;exact rfl
       · intro _ hqc;go_simp;try rfl
       try simp only [pu]
      refine aT (i:=20) (aG ak rfl) (fun K hK=>?_);have aA:=Lib.hid hS;clear hS;refine aO (aV rfl) ?_;go_simp;refine hK.out _ _ (by first | exact gS aA.out _ _ | (unfold ji;have uH:World.grownBy _ _ _:=aA.out;repeat (first | with_reducible assumption | with_reducible exact World.grownBy.refl _ _ | with_reducible refine gS ?_ _ _ | with_reducible refine gD ?_ | with_reducible refine gA ?_ _))) (fun hS=>?_);clear hK K aA
      try simp only [pu]
      refine bM ?_;refine aC.down _ _ ?_;have hB:W5.grownBy _ (some gA):=hS;clear hS aC ak;go_wp2_with fail;rw [<- yM];go_roundw
      case rel => exact ⟨_,_,_,⟨k+1,by omega,by go_num,HLr.out,LW.out,U6.out,U7.out,qR.out⟩,rfl,rfl,rfl⟩
      case measure => simp [intOf];omega
     ·have aA:=Lib.hid hS;clear hS;refine aO (aV rfl) ?_;go_simp;refine hK.out _ _ aA.out (fun hS=>?_);clear hK K aA
      try simp only [pu]
      refine aT (i:=9) (aG ak rfl) (fun K hK=>?_);have aA:=Lib.hid hS;clear hS;refine aO (aV rfl) ?_;go_simp;refine hK.out _ _ aA.out (fun hS=>?_);clear hK K aA
      try simp only [pu]
      iterate 2
       apply jI;exact ak;exact rfl;exact hS;exact rfl
       · intro _ hqc;go_simp;try rfl
       try simp only [pu]
      refine aT (i:=17) (aG ak rfl) (fun K hK=>?_);have aA:=Lib.hid hS;clear hS;refine aO (aV rfl) ?_;go_simp;refine hK.out _ _ (by first | exact gS aA.out _ _ | (unfold ji;have uH:World.grownBy _ _ _:=aA.out;repeat (first | with_reducible assumption | with_reducible exact World.grownBy.refl _ _ | with_reducible refine gS ?_ _ _ | with_reducible refine gD ?_ | with_reducible refine gA ?_ _))) (fun hS=>?_);clear hK K aA
      try simp only [pu]
      iterate 2
       apply jI;exact ak;exact rfl;exact hS;exact rfl
       · intro _ hqc;go_simp;try rfl
       try simp only [pu]
      refine aT (i:=20) (aG ak rfl) (fun K hK=>?_);have aA:=Lib.hid hS;clear hS;refine aO (aV rfl) ?_;go_simp;refine hK.out _ _ (by first | exact gS aA.out _ _ | (unfold ji;have uH:World.grownBy _ _ _:=aA.out;repeat (first | with_reducible assumption | with_reducible exact World.grownBy.refl _ _ | with_reducible refine gS ?_ _ _ | with_reducible refine gD ?_ | with_reducible refine gA ?_ _))) (fun hS=>?_);clear hK K aA
      try simp only [pu]
      refine bM ?_;refine aC.down _ _ ?_;have hB:W5.grownBy _ (some gA):=hS;clear hS aC ak;go_wp2_with fail;rw [<- yM];go_roundw
      case rel => exact ⟨_,_,_,⟨k+1,by omega,by go_num,HLr.out,LW.out,U6.out,U7.out,qR.out⟩,rfl,rfl,rfl⟩
      case measure => simp [intOf];omega
    ·obtain rfl:k=q.ah.length:=by omega
     try clear cZ
     try clear dh
     try clear eF
     try clear jw
     try clear eG
     try clear iY
     try clear lu
     obtain ⟨cZ,dh,eF,jw,-,-,-⟩:=X4.bC;obtain ⟨gI,gJ,iq,iZ,AV,GU,Lh⟩:=X2.bC;go_wp2_with fail;have hab:nC f bl q.ah.length=bl.map (fun x=>(D5 f x.1,x.2)):=by rw [<- D6.out];exact ap7 f bl
     have hP:=HP.out;rw [hab] at hP;have hre:r=⟨q.nodes,(bl.map (fun x=>(D5 f x.1,x.2))).map (·.1),yQ sl.length⟩:=by
      rw [<- HRe.out];have e1:(aN q).length=sl.length:=yF.out.symm;have e2:(bl.map (fun x=>(D5 f x.1,x.2))).map (·.1)=q.ah.map (aaJ q O):=by
       rw [<- HPe.out,List.map_map,List.map_map];refine List.map_congr_left fun x _=>?_;unfold aaJ;rw [OL.out,PY.out];rfl
      rw [e1,e2,<- HOe.out,<- Jf.out];rfl
     have hrn:r.nodes.length=q.nodes.length:=by rw [hre]
     have hra:r.ah.length=q.ah.length:=by rw [hre];simp [D6.out]
     have hrf:r.faces.length=sl.length:=by rw [hre];exact agV _
     have hgw:w.heap.size<=g2:=by omega
     refine su (g:=g2) (cs:=#[.slice l7 q.nodes.length l9,.slice uQ q.ah.length ca',.slice Af sl.length cf]) rfl Qz rfl rfl (aj.ML bY.out) (.inr ⟨H64.out,l7,l9,uQ,ca',Af,cf,bl.map (fun x=>(D5 f x.1,x.2)),?_,?_,?_⟩)
     · rw [hrn,hra,hrf];rfl
     · exact bS (p:=⟨g2,2,none⟩) (bS (p:=⟨g2,1,none⟩) (bS (p:=⟨g2,0,none⟩) HB.out hgw _) hgw _) hgw _
     ·rw [hrn,hra,hrf,hre];have z0:=aj.fF bY.out 0 (.slice l7 q.nodes.length l9);have z1:=aj.fF z0 1 (.slice uQ q.ah.length ca');exact ((hP.far bY.out (by decide) (by decide) (by decide) (by decide) 0 _).far z0 (by decide) (by decide) (by decide) (by decide) 1 _).far z1 (by decide) (by decide) (by decide) (by decide) 2 _
end Go.Proofs.YtialfdomhoojiaaGreat
