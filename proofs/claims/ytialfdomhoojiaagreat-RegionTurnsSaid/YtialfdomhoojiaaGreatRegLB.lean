import Derived.Test.YtialfdomhoojiaaGreatJ20
import Derived.Test.YtialfdomhoojiaaGreatJ21
import Derived.Test.YtialfdomhoojiaaGreatJ29
set_option linter.unusedSimpArgs false
set_option linter.unusedVariables false
namespace Go.Proofs.YtialfdomhoojiaaGreat
open Go.RowKit Go.Sort
def yH (p:Pl) (O:List (List Int)):Nat->Int->Int
 | 0,_=>0
 | n+1,d=>if (tX p O (n+1)).any (fun c=>decide (d∈c))=true then (n:Int)+1 else yH p O n d
def abL (p:Pl) (O:List (List Int)) (a:Ar):Ar:=⟨a.id,a.fr,a.dst,a.via,yH p O O.length a.id,yH p O O.length (-a.id)⟩
def WE (p:Pl):Pl:=⟨p.nodes,(dK p).ah.map (abL (dK p) (sortK (aI (dK p)))),(List.range (aI (dK p)).length).map fun i:Nat=>((i:Int)+1)⟩
def arp:Value:=.agg #[.slice none 0 0,.slice none 0 0,.slice none 0 0]
def ah0 (w:World) (p:Pl) (e:Ending) (w':World):Prop :=
 ∃ An cn Aa ca Af cf bl,e=.returned (.tuple #[.agg #[.slice An p.nodes.length cn,.slice Aa p.ah.length ca,.slice Af p.faces.length cf],.int .i64 0])/\Below w.heap.size w w'/\jv w' w.heap.size (.slice An p.nodes.length cn) (.slice Aa p.ah.length ca) (.slice Af p.faces.length cf) p bl
structure Mod (p:Pl):Prop where
 nodes:p.nodes.length<=100000
 ah:p.ah.length<=100000
 nR:∀ a∈p.ah,a.via.length<=100000
theorem jE.perm {p:Pl} {z:AD} {sl sl':List AD} {O O' R:List (List Int)} {N:List Nd} (h:jE p (z::sl) O R N) (hp:sl'.Perm sl) (ho:sl'.map (·.out)=O'):jE p (z::sl') O' R N:=by
 have key:∀ x∈sl,x.inn.map (·.1)=R.filter (fun c=>decide (dW p (lC p c)=some x.out))/\x.bK=(N.filter (fun n=>decide (kV p.ah n.id=0/\dW p n.pt=some x.out))).map (·.id):=by
  intro x hx;obtain ⟨i,hi,rfl⟩:=List.mem_iff_getElem.1 hx;have h1:i+1<(z::sl).length:=by simpa using hi
  have hl:=h.len;have e:qO O (i+1)=some sl[i].out:=by
   rw [EH (by omega) (by simp only [List.length_cons] at hl;omega)];have:=h.MQ h1 (by omega)
   simp only [List.getElem_cons_succ,Nat.add_sub_cancel] at this ⊢;rw [this]
  have a:=h.inn (i+1) h1;have b:=h.bK (i+1) h1;rw [e] at a b;exact ⟨a,b⟩
 have hout:(z::sl').map (·.out)=[]::O':=by
  have h0:=h.out;rw [List.map_cons] at h0 ⊢;injection h0 with h0 _;rw [h0,ho]
 have hlen:sl'.length=O'.length:=by rw [<- ho,List.length_map]
 have hk:∀ i (hi:i<sl'.length),qO O' (i+1)=some sl'[i].out:=fun i hi=>by
  rw [EH (by omega) (by omega)];subst ho;simp
 refine ⟨hout,fun i hi=>?_,fun i hi=>?_⟩
 · match i,hi with
  | 0,_=>exact h.inn 0 (by simp)
  | i+1,hi =>
   have hi':i<sl'.length:=by simpa using hi
   rw [hk i hi'];exact (key _ (hp.subset (List.getElem_mem hi'))).1
 · match i,hi with
  | 0,_=>exact h.bK 0 (by simp)
  | i+1,hi =>
   have hi':i<sl'.length:=by simpa using hi
   rw [hk i hi'];exact (key _ (hp.subset (List.getElem_mem hi'))).2
theorem jv.arq {w w':World} {B B':Nat} {vn va vf v:Value} {p:Pl} {bl:List (Ar×SV)} {L:List AD} (h:jv w B vn va vf p bl) (ho:Own w B' 82 4 dP v L) (hg:w.grownBy w' v.ownBlock):jv w' B vn va vf p bl :=
 ⟨Own.grown h.uM hg (Own.apart h.uM ho (by decide)),Own.grown h.jq hg (Own.apart h.jq ho (by decide)),fun x hx=>Own.grown (h.nR x hx) hg (Own.apart (h.nR x hx) ho (by decide)),h.eq,Own.grown h.pK hg (Own.apart h.pK ho (by decide))⟩
theorem jv.aru {w w':World} {B gm n:Nat} {f:Int->Int} {vn va vf:Value} {p:Pl} {bl:List (Ar×SV)} (h:jv w B vn va vf p bl) (hm:iW w gm n f) (hg:w.grownBy w' (some gm)):jv w' B vn va vf p bl:=by
 have ne:∀ {α:Type} {e:TypeId} {size:Nat} {fe:α->List Value} {v:Value} {l:List α},Own w B e size fe v l->∀ g,v.ownBlock=some g->some g≠some gm:=fun ho g hg e=>by
  rcases ho.2 with ⟨rfl,_⟩ | ⟨g',cap,cur,rfl,_,hh,_⟩
  · simp [Value.ownBlock] at hg
  ·have:g'=gm:=by
    have h1:g'=g:=by simpa [Value.ownBlock] using hg
    have h2:=Option.some.inj e;omega
   exact Qi hm (cs:=cur) (g:=g') hh this
 exact ⟨Own.grown h.uM hg (ne h.uM),Own.grown h.jq hg (ne h.jq),fun x hx=>Own.grown (h.nR x hx) hg (ne (h.nR x hx)),h.eq,Own.grown h.pK hg (ne h.pK)⟩
theorem Ints.ah1 {w w':World} {v:Value} {l:List Int} (h:Ints w v l) {g:Nat} {t:TypeId} {cs:Array Value} (hb:aj w g t cs) (hc:∀ (j:Nat) (n:Int),cs[j]? ≠ some (.int .i64 n)) (hg:w.grownBy w' (some g)):Ints w' v l:=by
 obtain ⟨A,c,rfl,h1,h2,h3⟩:=h;refine ⟨A,c,rfl,h1,h2,fun hne=>?_⟩;obtain ⟨b,o,rfl,hlt,hcell⟩:=h3 hne;have hl:0<l.length:=by
  cases l with
  | nil=>exact absurd rfl hne
  | cons a l=>simp
 have h0:(l.flatMap eU)[0]? = some (.int .i64 l[0]):=by
  cases l with
  | nil=>cases hl
  | cons a l=>rfl
 have hcl:=hcell 0 _ h0;have hbg:b≠g:=fun e=>by
  subst e;rw [hb.cell] at hcl;exact hc _ _ hcl
 exact ⟨b,o,rfl,Nat.lt_of_lt_of_le hlt hg.size,fun j u hu=>by
  have:=hg.block b hlt (fun e=>hbg (Option.some.inj e))
  rw [<- hcell j u hu];simp only [World.cell?,this]⟩
structure WG (w:World) (B:Nat) (v:Value) (L:List AD):Prop where
 own:Own w B 82 4 dP v L
 out:∀ x∈L,Ints w (aJ x.ov) x.out
 inn:∀ x∈L,Own w B 24 1 nD (aJ x.iv) x.inn
 jk:∀ x∈L,∀ c∈x.inn,Ints w (aJ c.2) c.1
theorem ah2 (a b c:SV) (j:Nat) (n:Int):(#[aJ a,aJ b,aJ c] : Array Value)[j]? ≠ some (.int .i64 n):=by
 match j with
 | 0=>intro e;cases e
 | 1=>intro e;cases e
 | 2=>intro e;cases e
 | j+3=>intro e;simp at e
theorem WG.grown {w w':World} {B:Nat} {v:Value} {L:List AD} (h:WG w B v L) {g:Nat} {a b c:SV} (hb:aj w g 26 #[aJ a,aJ b,aJ c]) (hg:w.grownBy w' (some g)):WG w' B v L:=by
 have ne:∀ {α:Type} {e:TypeId} {size:Nat} {fe:α->List Value} {v:Value} {l:List α},Own w B e size fe v l->e≠26->∀ q,v.ownBlock=some q->some q≠some g:=fun ho hne q hq e=>by
  have:=Own.dU ho hb hne
  exact this (by rw [hq,e])
 exact ⟨Own.grown h.own hg (ne h.own (by decide)),fun x hx=>(h.out x hx).ah1 hb (ah2 a b c) hg,fun x hx=>Own.grown (h.inn x hx) hg (ne (h.inn x hx) (by decide)),fun x hx d hd=>(h.jk x hx d hd).ah1 hb (ah2 a b c) hg⟩
def zN (n:Nat):List Int:=(List.range n).map fun i:Nat=>((i:Int)+1)
theorem ah3 (n:Nat):(zN n).length=n:=by unfold zN;simp
theorem arv (n:Nat):zN (n+1)=zN n++[(n:Int)+1]:=by unfold zN;rw [List.range_succ,List.map_append];rfl
theorem abM {w:World} {gm n:Nat} {f:Int->Int} {base:Nat} {e:TypeId} {size:Nat} {α:Type} {fe:α->List Value} {v:Value} {l:List α} (ho:Own w base e size fe v l) (h:iW w gm n f):v.ownBlock≠some gm:=by
 rcases ho.2 with ⟨rfl,_⟩ | ⟨g,cap,cur,rfl,_,hh,_⟩
 · simp [Value.ownBlock]
 ·intro e';exact Qi h (cs:=cur) (g:=g) hh (by simpa [Value.ownBlock] using e')
theorem iW.setCell {w:World} {gm n:Nat} {f:Int->Int} (h:iW w gm n f) {p:Addr} (hp:¬ gm=p.block) (u:Value):iW (w.setCell p u) gm n f :=
 h.kept (row:=some p.block) ⟨rfl,rfl,rfl,by simp,fun i hi hne=>Below.heap_setCell w p u i (fun e=>hne (by rw [e]))⟩ (fun e=>hp (Option.some.inj e))
theorem iW.obj {w:World} {gm n:Nat} {f:Int->Int} (h:iW w gm n f) (j:Nat):w.cell? ⟨gm,j,none⟩=none:=by
 obtain ⟨D,h1,-⟩:=h;obtain ⟨es,clock,h2,-⟩:=h1;simp only [World.cell?,h2]
theorem Ints.ah4 {w w':World} {v:Value} {l:List Int} (h:Ints w v l) {gm n:Nat} {f:Int->Int} (hm:iW w gm n f) (hg:w.grownBy w' (some gm)):Ints w' v l:=by
 obtain ⟨A,c,rfl,h1,h2,h3⟩:=h;refine ⟨A,c,rfl,h1,h2,fun hne=>?_⟩;obtain ⟨b,o,rfl,hlt,hcell⟩:=h3 hne;have hl:0<l.length:=by
  cases l with
  | nil=>exact absurd rfl hne
  | cons a l=>simp
 have h0:(l.flatMap eU)[0]? = some (.int .i64 l[0]):=by
  cases l with
  | nil=>cases hl
  | cons a l=>rfl
 have hcl:=hcell 0 _ h0;have hbg:b≠gm:=fun e=>by
  subst e;rw [hm.obj] at hcl
  cases hcl
 exact ⟨b,o,rfl,Nat.lt_of_lt_of_le hlt hg.size,fun j u hu=>by
  have:=hg.block b hlt (fun e=>hbg (Option.some.inj e))
  rw [<- hcell j u hu];simp only [World.cell?,this]⟩
theorem arw {n i j m:Nat} (h:n<=300000*i+513*j+m) (hm:m<=512):n<=300000*i+513*(j+1):=by omega
theorem arx {n i c:Nat} (h:n<=300000*i+513*c) (hc:c<=513):n<=300000*(i+1):=by omega
theorem arz {n i j m:Nat} (h:n<=300000*i+513*j+m) (hi:i<=64) (hj:j<=513) (hm:m<=512):n<4294967296:=by omega
def EY (f:Int->Int) (a:Ar):Ar:=⟨a.id,a.fr,a.dst,a.via,f a.id,f (-a.id)⟩
def oz (f:Int->Int) (bl:List (Ar×SV)) (k:Nat):List (Ar×SV):=(bl.take k).map (fun x=>(EY f x.1,x.2))++bl.drop k
theorem arA (f:Int->Int) (bl:List (Ar×SV)) (k:Nat):(oz f bl k).length=bl.length:=by unfold oz;simp;omega
theorem ah5 (f:Int->Int) (bl:List (Ar×SV)):oz f bl 0=bl:=by unfold oz;simp
theorem arB (f:Int->Int) (bl:List (Ar×SV)):oz f bl bl.length=bl.map (fun x=>(EY f x.1,x.2)):=by unfold oz;simp
theorem arD {f:Int->Int} {bl:List (Ar×SV)} {k:Nat} (hk:k<bl.length) (h:k<(oz f bl k).length):(oz f bl k)[k]=bl[k]:=by
 have e:(oz f bl k)[k]? = bl[k]? := by
  unfold oz;rw [List.getElem?_append_right (by rw [List.length_map,List.length_take];omega),List.getElem?_drop];simp only [List.length_map,List.length_take];congr 1;omega
 rw [List.getElem?_eq_getElem h,List.getElem?_eq_getElem hk] at e;exact Option.some.inj e
theorem arE {f:Int->Int} {bl:List (Ar×SV)} {k:Nat} (hk:k<bl.length):(oz f bl k).set k (EY f bl[k].1,bl[k].2)=oz f bl (k+1):=by
 unfold oz;have hl:((bl.take k).map (fun x=>(EY f x.1,x.2))).length=k:=by rw [List.length_map,List.length_take];omega
 rw [List.set_append_right _ _ (by omega),hl,Nat.sub_self,List.take_succ_eq_append_getElem hk,List.map_append,List.append_assoc,List.drop_eq_getElem_cons hk,List.set_cons_zero];rfl
theorem Own.ah6 {w:World} {B n c:Nat} {A:Option Addr} {L:List (Ar×SV)} (h:Own w B 50 6 lI (.slice A n c) L) {k:Nat} (hk:k<L.length):∃ g,A=some ⟨g,0,none⟩/\B<=g/\g<w.heap.size/\(∀ j,w.frozen? ⟨g,j,none⟩=false) /\
  w.cell? ⟨g,k*6,none⟩=some (.int .i64 L[k].1.id)/\w.cell? ⟨g,k*6+1,none⟩=some (.int .i64 L[k].1.fr)/\w.cell? ⟨g,k*6+2,none⟩=some (.int .i64 L[k].1.dst)/\w.cell? ⟨g,k*6+3,none⟩=some (.slice L[k].2.a L[k].2.n L[k].2.c)/\w.cell? ⟨g,k*6+4,none⟩=some (.int .i64 L[k].1.left)/\w.cell? ⟨g,k*6+5,none⟩=some (.int .i64 L[k].1.right):=by
 have hr:=h.row_of;rcases h.2 with ⟨hv,h0⟩ | ⟨g,cap,cur,hv,hg,hh,-⟩
 · omega
 ·injection hv with e1 e2 e3;subst e1;obtain ⟨b,o,iJ,-,c0,c1,c2,c3,c4,c5⟩:=Row.at6 hr hk;injection iJ with iJ;injection iJ with y1 y2 _;subst y1 y2;rw [Nat.zero_add] at c0 c1 c2 c3 c4 c5;exact ⟨g,rfl,hg,aj.lt hh,fun j=>aj.frozen hh j,c0,c1,c2,c3,c4,c5⟩
theorem jv.arF {w:World} {B g n c:Nat} {vn vf:Value} {p:Pl} {bl:List (Ar×SV)} (h:jv w B vn (.slice (some ⟨g,0,none⟩) n c) vf p bl) {i:Nat} (hi:i<bl.length) (l r:Int) :
  jv ((w.setCell ⟨g,i*6+4,none⟩ (.int .i64 l)).setCell ⟨g,i*6+5,none⟩ (.int .i64 r)) B vn (.slice (some ⟨g,0,none⟩) n c) vf ⟨p.nodes,p.ah.set i ⟨bl[i].1.id,bl[i].1.fr,bl[i].1.dst,bl[i].1.via,l,r⟩,p.faces⟩ (bl.set i (⟨bl[i].1.id,bl[i].1.fr,bl[i].1.dst,bl[i].1.via,l,r⟩,bl[i].2)):=by
 have far:∀ {α:Type} {e:TypeId} {size:Nat} {fe:α->List Value} {v:Value} {m:List α},Own w B e size fe v m->e≠50->Own ((w.setCell ⟨g,i*6+4,none⟩ (.int .i64 l)).setCell ⟨g,i*6+5,none⟩ (.int .i64 r)) B e size fe v m:=fun ho hne=>by
  have hn:∀ q,_->some q≠_:=Own.apart ho h.jq hne;exact Own.far (Own.far ho (fun e8=>hn g e8 rfl) _) (fun e8=>hn g e8 rfl) _
 have h1:=Own.Mc Ew h.jq hi (j:=4) (by omega) (⟨bl[i].1.id,bl[i].1.fr,bl[i].1.dst,bl[i].1.via,l,bl[i].1.right⟩,bl[i].2) (.int .i64 l) rfl;have hi2:i<(bl.set i ((⟨bl[i].1.id,bl[i].1.fr,bl[i].1.dst,bl[i].1.via,l,bl[i].1.right⟩:Ar),bl[i].2)).length:=by rw [List.length_set];exact hi
 have h2:=Own.Mc Ew h1 hi2 (j:=5) (by omega) (⟨bl[i].1.id,bl[i].1.fr,bl[i].1.dst,bl[i].1.via,l,r⟩,bl[i].2) (.int .i64 r) (by rw [List.getElem_set_self];rfl);rw [List.set_set] at h2;refine ⟨far h.uM (by decide),h2,fun x hx=>?_,?_,far h.pK (by decide)⟩
 ·rcases wZ hx with ⟨rfl,_⟩ | ⟨j,hj,_,rfl⟩
  · exact far (show Own w B 39 2 jm (aJ bl[i].2) bl[i].1.via from h.nR _ (List.getElem_mem hi)) (by decide)
  · exact far (h.nR _ (List.getElem_mem hj)) (by decide)
 · rw [List.map_set,h.eq]
theorem jv.face {w w1:World} {B:Nat} {vn va vf vf':Value} {p:Pl} {bl:List (Ar×SV)} {n:Int} (h:jv w B vn va vf p bl) (ho:Own w1 B 3 1 eU vf' (p.faces++[n])) (hg:w.grownBy w1 vf.ownBlock) :
  jv w1 B vn va vf' ⟨p.nodes,p.ah,p.faces++[n]⟩ bl :=
 ⟨Own.grown h.uM hg (Own.apart h.uM h.pK (by decide)),Own.grown h.jq hg (Own.apart h.jq h.pK (by decide)),fun y hy=>Own.grown (h.nR y hy) hg (Own.apart (h.nR y hy) h.pK (by decide)),h.eq,ho⟩
def DR (f:Int->Int) (v:Int) (cs:List (List Int)) (d:Int):Int:=if cs.any (fun c=>decide (d∈c))=true then v else f d
theorem arG (f:Int->Int) (v:Int):DR f v []=f:=by funext d;rfl
theorem arH (f:Int->Int) (v:Int) (cs:List (List Int)):DR f v (cs++[[]])=DR f v cs:=by funext d;unfold DR;simp
theorem arI (f:Int->Int) (v:Int) (cs:List (List Int)) (c:List Int) {m:Nat} (hm:m<c.length):DR f v (cs++[c.take (m+1)])=fun i=>if i=c[m] then v else DR f v (cs++[c.take m]) i:=by
 funext d
 unfold DR;rw [List.take_succ_eq_append_getElem hm];simp only [List.any_append,List.any_cons,List.any_nil,Bool.or_false,List.mem_append,List.mem_singleton,Bool.or_eq_true,decide_eq_true_eq];by_cases e:d=c[m]
 · rw [if_pos e,if_pos (.inr (.inr e))]
 ·rw [if_neg e];by_cases e2:(cs.any fun c=>decide (d∈c))=true\/d∈c.take m
  · rw [if_pos (by rcases e2 with g | g;exact .inl g;exact .inr (.inl g)),if_pos e2]
  · rw [if_neg (by rintro (g | g | g);exact e2 (.inl g);exact e2 (.inr g);exact e g),if_neg e2]
theorem arJ (p:Pl) (O:List (List Int)) (n:Nat):yH p O (n+1)=DR (yH p O n) ((n:Int)+1) (tX p O (n+1)):=rfl
set_option maxRecDepth 100000 in
set_option maxHeartbeats 8000000 in
theorem arK (v:Value) (p:Pl) (w:World) (h:dS w v p) (hm:Mod p) (hz:mQ (dK p)=0):Calls Tryz.prog 21 #[v] w fun e w'=>(64<(aI (dK p)).length/\e=.returned (.tuple #[arp,.int .i64 3])/\Below w.heap.size w w')\/(¬ 64<(aI (dK p)).length/\ah0 w (WE p) e w'):=by
 have hv:=(Ea _).1 hz;have P8:=Lib.hid (fun W (hW:Below w.heap.size w W)=>apy v p W (h.mono hW) hm.nodes hm.ah hm.nR);have kH:=Lib.hid (fun u W (hu:dS W u (dK p))=>ag8 u (dK p) W hu hv);have Bh:=Lib.hid (fun u W (hu:dS W u (dK p))=>afL u (dK p) W hu hv);have EP:=Lib.hid (fun u vc CL gm f W (hu:dS W u (dK p)) hc hcl hpm=>(ag7 u vc (dK p) CL gm f W hu hv hc hcl hpm).mono (R':=fun e w'=>∃ gL cL z sl,e=.returned (.slice (some ⟨gL,0,none⟩) (sl.length+1) cL)/\(1:Int)<=(sl.length:Int)+1/\W.heap.size<=gL/\Below W.heap.size W w'/\kD 82 W w' W.heap.size (.slice (some ⟨gL,0,none⟩) (sl.length+1) cL) (z::sl)/\jE (dK p) (z::sl) (aI (dK p)) (iM (dK p)) (dK p).nodes/\sl.length+1<=cL) (by
  rintro e w' ⟨A,c,L,rfl,hb,had,hdv,-⟩;have hl:=hdv.len;obtain ⟨g,hg,hg0,-,-,-⟩:=Own.G5 had.own (by omega);subst hg
  cases L with
  | nil=>simp at hl
  | cons z sl =>
   obtain ⟨A',c',he',h1,-,-⟩:=had.own.sl;injection he' with y1 y2 y3;subst y3;exact ⟨g,c,z,sl,rfl,by omega,hg0,hb,had,hdv,h1⟩))
 have HV:=Lib.hid hv;have vg:=Lib.hid (@apS);have hmm:=@run_makeMap Tryz.prog;obtain ⟨_,_,_,al,rfl,hpa,⟨An,cn,rfl,-⟩,⟨⟨Aa,ca,rfl,-⟩,-⟩,⟨Af,cf,rfl,-⟩⟩:=h;obtain ⟨q,hq⟩:∃ q,dK p=q:=⟨_,rfl⟩;obtain ⟨r,hr⟩:∃ r,WE p=r:=⟨_,rfl⟩;have hr2:=hr;unfold WE at hr2;rw [hq] at hr2;have HRe:=Lib.hid hr2;rw [hr];rw [hq] at P8 kH Bh EP HV ⊢;have hqn:p.nodes=q.nodes:=by rw [<- hq];rfl
 have J6:=Lib.hid hqn;have hqf:q.faces=[]:=by rw [<- hq];rfl
 have HQf:=Lib.hid hqf;clear hm hz hpa hv hr hr2 hq hqn hqf;generalize p.nodes.length=nn at *;generalize al.length=na at *;generalize p.faces.length=nf at *;go_enter Tryz.func21,Tryz.ntmps21;go_upto_region 1 with fail;obtain ⟨g2,hg2⟩:∃ g2,w.heap.size+1=g2:=⟨_,rfl⟩;obtain ⟨W1,hW⟩:∃ W:World,W=(w.alloc (.cells #[.slice An nn cn,.slice Aa na ca,.slice Af nf cf] 26)).alloc (.cells #[.slice none 0 0,.slice none 0 0,.slice none 0 0] 26):=⟨_,rfl⟩;have X1:aj W1 w.heap.size 26 #[.slice An nn cn,.slice Aa na ca,.slice Af nf cf]:=by rw [hW];exact (aj.made rfl _ _).alloc _
 have X2:aj W1 g2 26 #[.slice none 0 0,.slice none 0 0,.slice none 0 0]:=by rw [hW];exact aj.made (by rw [<- hg2];simp) _ _
 have HB1:=Lib.hid (show Below w.heap.size w W1 by rw [hW];exact bA (bA (bR w) _) _);rw [<- hW]
 try rw [hg2]
 have bU:=Lib.hid X2;have hgw:w.heap.size<=g2:=by omega
 clear hW hg2;obtain ⟨aO,aP,aS,aT,-,-,-⟩:=X1.aY;go_wp2_with fail;refine (P8.out _ HB1.out).mono ?_;rintro e w2 ⟨nH,nI,vO,ca',bl,rfl,hb2,hpo⟩;have HB2:=Lib.hid (bT HB1.out hb2);have iR:=Lib.hid (bU.out.keep hb2);have hz1:=HB1.out.size;have HP:=Lib.hid (show jv w2 w.heap.size (.slice nH q.nodes.length nI) (.slice vO q.ah.length ca') (.slice none 0 0) q bl from ⟨hpo.uM.jG hz1,hpo.jq.jG hz1,fun x hx=>(hpo.nR x hx).jG hz1,hpo.eq,hpo.pK.jG hz1⟩);clear hb2 hpo P8 X1 aO aP aS aT X2 bU HB1 hz1;go_upto_region 2 with fail;obtain ⟨W3,hW⟩:∃ W:World,W=w2.alloc (.cells #[.slice nH q.nodes.length nI,.slice vO q.ah.length ca',.slice none 0 0] 26):=⟨_,rfl⟩;have hA:Below w2.heap.size w2 W3:=by rw [hW];exact bA (bR w2) _
 obtain ⟨g4,hg4⟩:∃ g4,w2.heap.size=g4:=⟨_,rfl⟩;have X4:aj W3 g4 26 #[.slice nH q.nodes.length nI,.slice vO q.ah.length ca',.slice none 0 0]:=by rw [hW];exact aj.made hg4.symm _ _
 have HB3:=Lib.hid (bT HB2.out hA);have dI:=Lib.hid (iR.out.keep hA);have OC:=Lib.hid (HP.out.keep hA);have ah7:=Lib.hid X4;have avf:w.heap.size<=g4:=by have:=HB2.out.size;omega
 have arL:¬ g2=g4:=by have:=iR.out.lt;omega
 rw [<- hW]
 try rw [hg4]
 clear hW hA hg4 HB2 iR HP;obtain ⟨dF,dG,fG,jP,-,-,-⟩:=X4.aY;go_wp2_with fail;refine (kH.out _ _ OC.out.plv).mono ?_;rintro e w5 ⟨Ac,cc,CL,rfl,hb5,hcl,hco⟩;have dM:=Lib.hid (bT HB3.out hb5);have bV:=Lib.hid (dI.out.keep hb5);have BJ:=Lib.hid (ah7.out.keep hb5);have DN:=Lib.hid (OC.out.keep hb5);have hle:(bF q).length=CL.length:=by rw [<- hcl,List.length_map]
 have hcr:=hco.read;rw [hle] at hcr ⊢;have DC:=Lib.hid hcl;have EU:=Lib.hid hcr;have G7:=Lib.hid hco;have X5:=BJ.out;clear hb5 kH X4 dF dG fG jP HB3 dI OC hcl hcr hco hle ah7;obtain ⟨dw,dB,dL,jK,-,-,-⟩:=X5.aY;go_upto_region 5 with fail;refine cZ (Since w5) (.run 3 0 0 (.call 3 15 (.call 4 31 (.take 5 63 (.take 6 127 (.done)))))) (by kernel_rfl) (bD (bR _)) (by kernel_rfl) (by kernel_rfl) (Nat.le_of_ble_eq_true (by kernel_rfl)) ?_;intro dn QR au aC hS
 iterate 3
  apply bn;exact au;exact rfl;exact hS;exact rfl
  · intro _ hqc;go_simp;try rfl
  try simp only [pu]
 refine aW (i:=3) (aH au rfl) (fun K hK=>?_);have aA:=Lib.hid hS;clear hS;refine aN (aV rfl) ?_;go_simp;refine (Bh.out _ _ ((DN.out.keep aA.out).plv)).mono ?_;rintro e bC ⟨gm,f,rfl,bM,hgm,hpm⟩;have hS:Since w5 bC:=bT (w:=w5) aA.out bM;clear aA;refine hK.out _ _ hS (fun _=>?_);clear hK K
 try simp only [pu]
 refine aW (i:=4) (aH au rfl) (fun K hK=>?_);have aA:=Lib.hid hS;clear hS;refine aN (aV rfl) ?_;go_simp;refine (EP.out _ _ CL gm f _ ((DN.out.keep aA.out).plv) (EU.out.mono aA.out) DC.out hpm).mono ?_;rintro e wr2 ⟨gL,cL,z,sl,rfl,kL1,hgL,jr,had,hdv,avg⟩;have hS:Since w5 wr2:=bT (w:=w5) aA.out jr;clear aA;refine hK.out _ _ hS (fun _=>?_);clear hK K
 try simp only [pu]
 iterate 2
  apply bn;exact au;exact rfl;exact hS;exact rfl
  · intro _ hqc;go_simp;try rfl
  try simp only [pu]
 refine bQ ?_;refine aC.down _ _ ?_;have hB:Below w5.heap.size w5 wr2:=hS;clear hS aC au;skip;obtain ⟨W6,hW6⟩:∃ W:World,W=wr2:=⟨_,rfl⟩;rw [<- hW6] at had hB jr ⊢;have gZ:=Lib.hid (bT dM.out hB);have jI:=Lib.hid (bV.out.keep hB);have abN:=Lib.hid (BJ.out.keep hB);have HP6:=Lib.hid (DN.out.keep hB);have hsl:sl.length=(aI q).length:=by have:=hdv.len;simp only [List.length_cons] at this;omega
 have nY:=Lib.hid had;have Rl:=Lib.hid hdv;have zq:=Lib.hid hsl;have arM:=Lib.hid bM;have abO:=Lib.hid jr;obtain ⟨PA,Ro⟩:∃ PA,(if cL=1 then some (⟨gL,0,none⟩:Addr) else some ⟨gL,4,none⟩)=PA:=⟨_,rfl⟩
 try rw [Ro]
 have HPA:=Lib.hid (show 0<sl.length->PA=some ⟨gL,4,none⟩ from fun h=>by rw [<- Ro,if_neg (by omega)]);have avh:w.heap.size<=gL:=by have:=dM.out.size;have:=bM.size;simp at this;omega
 have UG:w.heap.size<=W6.heap.size:=gZ.out.size;clear hB bM jr hW6 had hdv hsl Ro hpm hgm bV BJ DN X5 dw dB dL jK Bh EP kL1;by_cases h64:64<sl.length
 ·have H64:=Lib.hid (show 64<(aI q).length by rw [<- zq.out];exact h64);have arN:(64:Int)<(sl.length:Int):=by omega
  have X6:=jI.out;clear h64;obtain ⟨jd,jf,jg,pW,Qq,Qr,ah8⟩:=X6.aY;go_wp2_with fail;refine uw (g:=g2) (cs:=#[.slice none 0 0,.slice none 0 0,.slice none 0 0]) rfl SA rfl rfl (aj.Oh jI.out) (.inl ⟨H64.out,rfl,?_⟩);exact bS (p:=⟨g2,2,none⟩) (bS (p:=⟨g2,1,none⟩) (bS (p:=⟨g2,0,none⟩) gZ.out hgw _) hgw _) hgw _
 have H64:=Lib.hid (show ¬ 64<(aI q).length by rw [<- zq.out];exact h64);have arN:¬ (64:Int)<(sl.length:Int):=by omega
 have avi:sl.length<=64:=by omega
 clear h64;have HAk:=Lib.hid (show ∀ s∈sl,pR bC s from fun s hs=>by
  have hm:s∈z::sl:=List.mem_cons_of_mem _ hs;obtain ⟨i,hi,hie⟩:=List.mem_iff_getElem.1 hs;have h1:i+1<(z::sl).length:=by simpa using hi
  have ho:=Rl.out.MQ h1 (by omega);have hl:=Rl.out.len;simp only [List.getElem_cons_succ] at ho;rw [hie] at ho;have hX:s.out∈aI q:=by rw [ho];exact List.getElem_mem _
  have hc:=(fF.1 hX).1;exact ⟨nY.out.out s hm,List.length_pos_iff.2 (HV.out.Ql hc),fun d hd=>HV.out.GR ((HV.out.iE hc).2 d hd)⟩)
 have ah9:=Lib.hid (show Calls Tryz.prog 60 #[.slice PA sl.length (cL-1),.func (.func 61) #[] #[]] W6 fun e w'=>e=.returned (.tuple #[])/\∃ sl':List AD,sl'.Perm sl/\sl'.Pairwise (fun a b=>ltOf (fun x y:AD=>cmpK (fP x.out) (fP y.out)) b a=false)/\Own w' bC.heap.size 82 4 dP (.slice (some ⟨gL,0,none⟩) (sl.length+1) cL) (z::sl')/\W6.grownBy w' (some gL) from by
  rcases Nat.eq_zero_or_pos sl.length with h0 | h0
  ·have hs0:sl=[]:=List.eq_nil_of_length_eq_zero h0;rw [h0];refine Calls.mono (AnyF.slices_SortFunc_none Tryz.sortAd PA (cL-1) (.func (.func 61) #[] #[]) W6) ?_;rintro e w' ⟨rfl,rfl⟩;have ho:=nY.out.own;rw [hs0] at ho;exact ⟨rfl,[],by rw [hs0],List.Pairwise.nil,ho,World.grownBy.refl _ _⟩
  ·rw [HPA.out h0];exact vg.out bC bC.heap.size gL cL (cL-1) z sl W6 nY.out.own h0 abO.out (Nat.le_refl _) HAk.out (by omega))
 go_wp2_with fail;refine ah9.out.mono ?_;rintro e w7 ⟨rfl,sl',hp,hs,wV,jD⟩;have hb7:=bG abO.out jD (fun k hk=>by have:=Option.some.inj hk;have:=(nY.out.own.lt gL rfl).1;omega);have tJ:=Lib.hid (bG gZ.out jD (fun k hk=>by have:=Option.some.inj hk;omega));have hll:=hp.length_eq;have HP7:=Lib.hid (HP6.out.arq nY.out.own jD);have kX:=Lib.hid (aj.grown jI.out jD (fun e=>Own.dU nY.out.own jI.out (by decide) e.symm));have WH:=Lib.hid (aj.grown abN.out jD (fun e=>Own.dU nY.out.own abN.out (by decide) e.symm));have hord:sl'.map (·.out)=sortK (aI q):=by
  refine HV.out.aoi ?_ ?_
  ·have h1:=hp.map (·.out);refine h1.trans ?_;have h2:=Rl.out.out;rw [List.map_cons] at h2;injection h2 with _ h2;rw [h2]
  ·rw [List.pairwise_map];refine hs.imp (fun {a b} g=>?_);have g':ltOf (fun x y:AD=>cmpK (fP x.out) (fP y.out)) b a=false:=g;rw [Vx (fun x:AD=>fP x.out)] at g';exact g'
 obtain ⟨O,hO⟩:∃ O,sortK (aI q)=O:=⟨_,rfl⟩;rw [hO] at hord;have hdp:=Rl.out.perm hp hord;have HD:=Lib.hid hdp;have hmem:∀ x∈z::sl',x∈z::sl:=fun x hx=>by
  rcases List.mem_cons.1 hx with rfl | hx
  · exact List.mem_cons_self
  · exact List.mem_cons_of_mem _ (hp.subset hx)
 have HA7:=Lib.hid (show WG w7 bC.heap.size (.slice (some ⟨gL,0,none⟩) (sl.length+1) cL) (z::sl') from ⟨wV,fun x hx=>(nY.out.out x (hmem x hx)).mono hb7,fun x hx=>Own.grown (nY.out.inn x (hmem x hx)) jD (fun g hg=>Own.apart (nY.out.inn x (hmem x hx)) nY.out.own (by decide) g hg),fun x hx c hc=>(nY.out.jk x (hmem x hx) c hc).mono hb7⟩);have HOe:=Lib.hid hO;have EL:=Lib.hid hll;have hol:O.length=sl.length:=by rw [<- hord,List.length_map,hll]
 have Qg:=Lib.hid hol;clear hp hs wV jD hb7 hll hord hO hdp hmem hol ah9 vg HAk gZ jI abN HP6 nY Rl arM abO;go_upto_region 10 with fail;obtain ⟨gs,hgs⟩:∃ gs,w7.heap.size=gs:=⟨_,rfl⟩;obtain ⟨W8,hW⟩:∃ W:World,W=w7.alloc (.map #[] 0):=⟨_,rfl⟩;have hA:Below w7.heap.size w7 W8:=by rw [hW];exact bA (bR w7) _
 have V7:=Lib.hid (show iW W8 gs 0 (yH q O 0) by
  have:=iW.made w7
  rw [hW,<- hgs];exact this)
 have Rq:=Lib.hid (HP7.out.keep hA);have D8:=Lib.hid (kX.out.keep hA);have aia:=Lib.hid (WH.out.keep hA);have HG8:=Lib.hid (show w7.grownBy W8 (some g4) from gOf hA);rw [<- hW]
 try rw [hgs]
 have avj:w7.heap.size<=gs:=by omega
 have aib:¬ gs=g4:=by have:=WH.out.lt;omega
 have arO:¬ gs=g2:=by have:=kX.out.lt;omega
 clear hW hA hgs hmm HP7;go_upto_block 0 with fail;go_wp2_with fail;go_loopw [42] (fun u wr=>∃ i:Nat,i<=sl.length/\u=.int .i64 i/\(∃ Af c,jv wr w.heap.size (.slice nH q.nodes.length nI) (.slice vO q.ah.length ca') (.slice Af i c) ⟨q.nodes,q.ah,zN i⟩ bl/\aj wr g4 26 #[.slice nH q.nodes.length nI,.slice vO q.ah.length ca',.slice Af i c]/\∀ k,(Value.slice Af i c).ownBlock=some k->w7.heap.size<=k)/\(∃ n,n<=300000*i/\iW wr gs n (yH q O i))/\aj wr g2 26 #[.slice none 0 0,.slice none 0 0,.slice none 0 0]/\w7.grownBy wr (some g4)) (fun u _=>sl.length-(intOf u).toNat)
 case atStart => exact ⟨0,Nat.zero_le _,rfl,⟨none,0,⟨Rq.out.uM,Rq.out.jq,Rq.out.nR,Rq.out.eq,Own.nil _ _ _ _ _⟩,aia.out,fun k hk=>by cases hk⟩,⟨0,by omega,V7.out⟩,D8.out,HG8.out⟩
 case round =>
  clear Rq D8 aia HG8 V7;obtain ⟨i,hi,rfl,⟨Af,cf,hpo,X4,hfg⟩,⟨nm,hnm,hmp⟩,X2,hg⟩:=hrel;have HFg:=Lib.hid hfg;obtain ⟨wo,rfl⟩:∃ wo:World,wo=wr:=⟨_,rfl⟩;have HP:=Lib.hid hpo;have dI:=Lib.hid X4;have HM:=Lib.hid hmp;have bU:=Lib.hid X2;have HG:=Lib.hid hg;have HAq:=Lib.hid (HA7.out.grown (a:=⟨nH,q.nodes.length,nI⟩) (b:=⟨vO,q.ah.length,ca'⟩) (c:=⟨none,0,0⟩) WH.out hg);have HB:=Lib.hid (bG tJ.out hg (fun k hk=>by have:=Option.some.inj hk;omega));have hzo:=hg.size;have hl4:=X4.lt;have af7:=hmp.lt;clear hpo hmp hg hfg;by_cases hlt:i<sl.length
  ·have hi1:i+1<(z::sl').length:=by have:=EL.out;simp only [List.length_cons];omega
   have Ro:=HPA.out (by omega);obtain ⟨hgl,-,e0,e1,e2,e3⟩:=Own.aqL HAq.out.own hi1;have aic:=HD.out.VZ hi1;have hxm:(z::sl')[i+1]∈z::sl':=List.getElem_mem hi1;have hxf:∀ W,w7.grownBy W (some g4)->Ints W (aJ (z::sl')[i+1].ov) (z::sl')[i+1].out/\Own W bC.heap.size 24 1 nD (aJ (z::sl')[i+1].iv) (z::sl')[i+1].inn/\∀ c∈(z::sl')[i+1].inn,Ints W (aJ c.2) c.1:=fun W hg=>by
    have h:=HA7.out.grown (a:=⟨nH,q.nodes.length,nI⟩) (b:=⟨vO,q.ah.length,ca'⟩) (c:=⟨none,0,0⟩) WH.out hg;exact ⟨h.out _ hxm,h.inn _ hxm,h.jk _ hxm⟩
   have hinl:(z::sl')[i+1].inn.length<=512:=by
    have h9:=congrArg List.length (HD.out.inn (i+1) hi1);rw [List.length_map] at h9;rw [h9];refine Nat.le_trans (List.length_filter_le _ _) ?_;exact Nat.le_trans (List.length_filter_le _ _) HV.out.GU
   generalize (z::sl')[i+1]=x at *;obtain ⟨tw,X,⟨oa,on,oc⟩,In,⟨ia,jM,ic⟩,al',⟨aa,an,ac⟩⟩:=x;unfold aJ at e1 e2 e3;simp only at e0 e1 e2 e3 hinl;rw [show (i+1)*4=4+i*4 by omega] at e0 e1 e2 e3;have ug:=Lib.hid aic;have GZ:=Lib.hid hxf;have ki1:(i:Int)<sl.length:=by omega
   have ki2:0<=(i:Int):=by omega
   have hfl:=ah3 i;have Rh:=Lib.hid hfl;have V3:=Lib.hid (arv i);have hsh:(zN i++[(i:Int)+1]).length=i+1:=by rw [List.length_append,hfl];rfl
   have fD:=Lib.hid hsh;have aa6:(zN i).length<=64:=by omega
   have n4:=Own.dU HP.out.pK dI.out (by decide);clear aic hxf hxm hfl hsh X2;go_upto_region 13 with fail;obtain ⟨W9,hW⟩:∃ W:World,W=wo.alloc (.cells #[.int .i64 tw,.slice oa on oc,.slice ia jM ic,.slice aa an ac] 82):=⟨_,rfl⟩;have hA:Below wo.heap.size wo W9:=by rw [hW];exact bA (bR wo) _
   obtain ⟨g9,Ot⟩:∃ g9,wo.heap.size=g9:=⟨_,rfl⟩;have X9:aj W9 g9 82 #[.int .i64 tw,.slice oa on oc,.slice ia jM ic,.slice aa an ac]:=by rw [hW];exact aj.made Ot.symm _ _
   have ND:=Lib.hid (HP.out.keep hA);have abP:=Lib.hid (dI.out.keep hA);have HM9:=Lib.hid (HM.out.keep hA);have abQ:=Lib.hid (bU.out.keep hA);have WI:=Lib.hid (gB HG.out hA);have J7:=Lib.hid X9;have n94:¬ g9=g4:=by omega
   rw [<- hW]
   try rw [Ot]
   clear hW hA e0 e1 e2 e3 hgl X4 HP dI HM bU HG HB;have X4:=abP.out
   try clear dF
   try clear dG
   try clear fG
   try clear jP
   obtain ⟨dF,dG,fG,jP,fH,jw,lX⟩:=X4.aY;go_upto_region 14 with
    (at_builtin
     refine lq _ rfl (.tmp 48) (.tmp 51) _ rfl (base:=w.heap.size) zQ xC zS rfl (Own.alloc ND.out.pK _) rfl (l2:=[(i:Int)+1]) (Sl.lit (n:=1) (aj.made rfl _ _) rfl (fQ (by omega))) (by simp only [List.length_cons,List.length_nil];omega) (by simp only [List.length_cons,List.length_nil];omega) (by have:=WI.out.size;have:=tJ.out.size;simp;omega) ?_;intro v10 w10 abR Fz aie;obtain ⟨DT,c10,aif,-⟩:=Own.qM abR;rw [fD.out] at aif;subst aif;have abS:=aj.grown (abP.out.alloc _) Fz (fun e=>n4 e.symm);have aii:=(ND.out.keep (bA (bR W9) _)).face abR Fz;have NG:=Lib.hid (aii.far abS (by decide) (by decide) (by decide) (by decide) 2 (.slice DT (i+1) c10));have abT:=Lib.hid (abS.fC 2 (.slice DT (i+1) c10));have aij:iW w10 gs nm (yH q O i):=(HM9.out.keep (bA (bR W9) _)).kept Fz (fun e=>by
      have:=abM ND.out.pK HM9.out
      exact this e.symm)
     have abU:=Lib.hid (aij.setCell (p:=⟨g4,2,none⟩) aib (.slice DT (i+1) c10));have abV:=Lib.hid (aj.far (p:=⟨g4,2,none⟩) (aj.grown (abQ.out.alloc _) Fz (fun e=>Own.dU ND.out.pK abQ.out (by decide) e.symm)) arL (.slice DT (i+1) c10));have abW:=Lib.hid (aj.far (p:=⟨g4,2,none⟩) (aj.grown (J7.out.alloc _) Fz (fun e=>Own.dU ND.out.pK J7.out (by decide) e.symm)) n94 (.slice DT (i+1) c10));have WJ:=Lib.hid (gS (ahf (gA WI.out _) Fz (fun k hk=>HFg.out k hk)) 2 (.slice DT (i+1) c10));have arP:=Lib.hid (show ∀ k,(Value.slice DT (i+1) c10).ownBlock=some k->w7.heap.size<=k from aqi aie HFg.out (by have:=WI.out.size;simp;omega));clear abR aie Fz aij aii X4 dF dG fG jP fH jw lX;have X4:=abS
     try clear dF
     try clear dG
     try clear fG
     try clear jP
     try clear fH
     try clear jw
     try clear lX
     obtain ⟨dF,dG,fG,jP,fH,jw,lX⟩:=X4.aY
     )
   obtain ⟨uP,aik⟩:∃ W:World,W=w10.setCell ⟨g4,2,none⟩ (.slice DT (i+1) c10):=⟨_,rfl⟩;rw [<- aik] at NG abT abU abV abW WJ ⊢;have NH:=Lib.hid (show aj uP g4 26 #[.slice nH q.nodes.length nI,.slice vO q.ah.length ca',.slice DT (i+1) c10] by simpa using abT.out);obtain ⟨hx1,hx2,hx3⟩:=GZ.out uP WJ.out;have vY:=aaW ⟨tw,X,⟨oa,on,oc⟩,In,⟨ia,jM,ic⟩,al',⟨aa,an,ac⟩⟩ uP hx2.sl (by show In.length<=100000;omega);have ahz:(qm ⟨tw,X,⟨oa,on,oc⟩,In,⟨ia,jM,ic⟩,al',⟨aa,an,ac⟩⟩).length<=513:=by show In.length+1<=513;omega
   have hcr:∀ y∈qm ⟨tw,X,⟨oa,on,oc⟩,In,⟨ia,jM,ic⟩,al',⟨aa,an,ac⟩⟩,Ints uP (aJ y.2) y.1:=fun y hy=>by
    rcases List.mem_cons.1 hy with rfl | hy
    · exact hx1
    · exact hx3 y hy
   have hck:=ug.out;unfold aJ at vY;simp only at vY;generalize qm ⟨tw,X,⟨oa,on,oc⟩,In,⟨ia,jM,ic⟩,al',⟨aa,an,ac⟩⟩=CY at *;have F9:=Lib.hid vY;have EU:=Lib.hid hcr;have kH:=Lib.hid hck;have X9:=abW.out;clear aik hx1 hx2 hx3 vY hcr hck ug X4 dF dG fG jP fH jw lX abT ND abP HM9 abQ WI J7 GZ;obtain ⟨gy,gG,iP,uT,YS,-,-,-,-⟩:=X9.oD;go_wp2_with fail;refine F9.out.mono ?_;rintro e yY ⟨⟨A2,c2,rfl,ho2⟩,rE⟩;have arQ:=Lib.hid (NG.out.keep rE);have ail:=Lib.hid (NH.out.keep rE);have WL:=Lib.hid (abU.out.keep rE);have arR:=Lib.hid (abV.out.keep rE);have arT:=Lib.hid (gB WJ.out rE);have iK:=Lib.hid ho2;have arU:=Lib.hid (show ∀ y∈CY,Ints yY (aJ y.2) y.1 from fun y hy=>(EU.out y hy).mono rE);have avk:=ail.out.lt;clear rE ho2 X9 gy gG iP uT YS F9 NG NH abU abV abW WJ EU;go_upto_block 2 with fail;go_wp2_with fail;go_loopw [57] (fun u wr=>∃ j:Nat,j<=CY.length/\u=.int .i64 j/\(∃ n,n<=300000*i+513*j/\iW wr gs n (DR (yH q O i) ((i:Int)+1) ((CY.take j).map (·.1))))/\yY.grownBy wr (some gs)) (fun u _=>CY.length-(intOf u).toNat)
   case atStart => exact ⟨0,Nat.zero_le _,rfl,⟨nm,Nat.le_trans hnm (Nat.le_add_right _ _),by rw [List.take_zero,List.map_nil,arG];exact WL.out⟩,gR yY _⟩
   case round =>
    obtain ⟨j,hj,rfl,⟨n1,hn1,hmp⟩,hgj⟩:=hrel;obtain ⟨wq,rfl⟩:∃ wq:World,wq=wr:=⟨_,rfl⟩;have HM:=Lib.hid hmp;have J8:=Lib.hid hgj;have hzq:=hgj.size;clear hmp hgj;by_cases hlj:j<CY.length
    ·obtain ⟨b2,o2,rfl,V5,c0⟩:=(Own.grown iK.out J8.out (fun g hg e=>abM iK.out WL.out (by rw [hg,e]))).row_of.cy hlj;have hin:=(arU.out CY[j] (List.getElem_mem hlj)).ah4 WL.out J8.out;have hcy:CY[j].1∈tX q O (i+1):=by rw [<- kH.out];exact List.mem_map_of_mem (List.getElem_mem hlj)
     have hdd:∀ d∈CY[j].1,eG d:=fun d hd=>by
      have:=HV.out.GR (HV.out.ahv (fun X hX=>(UL (aI q)).1.subset (by rw [HOe.out];exact hX)) hcy hd)
      exact oV (by omega) (by omega)
     have hcl:CY[j].1.length<=512:=by
      have hc2:CY[j].1=[]\/CY[j].1∈bF q:=by
       unfold tX gY at hcy;rcases List.mem_cons.1 hcy with e | hc
       ·rw [e];unfold qO;split
        · exact .inl rfl
        · cases e9:O[i+1-1]? with
         | none=>exact .inl rfl
         | some Y=>exact .inr (fF.1 ((UL (aI q)).1.subset (by rw [HOe.out];exact List.mem_of_getElem? e9))).1
       · exact .inr (tH.1 (List.mem_filter.1 hc).1).1
      rcases hc2 with e | hc
      · rw [e];simp
      · exact Nat.le_trans (Lm (HV.out.iE hc).1 (HV.out.iE hc).2) HV.out.aaR
     have htk:(CY.take (j+1)).map (·.1)=(CY.take j).map (·.1)++[CY[j].1]:=by rw [List.take_succ_eq_append_getElem hlj,List.map_append];rfl
     generalize CY[j]=x at *;obtain ⟨C,xa,xn,xc⟩:=x;unfold aJ at hin;simp only at hin c0 hdd hcl htk;have hin0:=hin;obtain ⟨Ax,cx,he,hx1,hx2,V4⟩:=hin;injection he with y1 y2 y3;subst y1 y2 y3;unfold maxLen at hx2;have oN:=Lib.hid hin0;have Jk:=Lib.hid hdd;have mD:=Lib.hid htk;clear hin0 hdd htk hcy V4;have HMe:=Lib.hid (arH (yH q O i) ((i:Int)+1) ((CY.take j).map (·.1)));go_upto_block 4 with fail;clear c0 V5;go_wp2_with fail;go_loopw [63] (fun u wr=>∃ m:Nat,m<=C.length/\u=.int .i64 m/\(∃ n,n<=300000*i+513*j+m/\iW wr gs n (DR (yH q O i) ((i:Int)+1) ((CY.take j).map (·.1)++[C.take m])))/\wq.grownBy wr (some gs)) (fun u _=>C.length-(intOf u).toNat)
     case atStart => exact ⟨0,Nat.zero_le _,rfl,⟨n1,hn1,by rw [List.take_zero,HMe.out];exact HM.out⟩,gR wq _⟩
     case round =>
      obtain ⟨m,hm,rfl,⟨n2,hn2,ain⟩,hgm⟩:=hrel;have pX:=Lib.hid ain;have HGm:=Lib.hid hgm;clear ain hgm;by_cases hlm:m<C.length
      ·obtain ⟨Ax',cx',he',-,-,aio⟩:=oN.out.ah4 HM.out HGm.out;injection he' with y1 y2 y3;subst y1;clear y2 y3;obtain ⟨b3,o3,rfl,avl,d0⟩:=(show Row _ _ (C.flatMap eU) from aio).int hlm;have hwf:=Jk.out C[m] (List.getElem_mem hlm);have hst:=arI (yH q O i) ((i:Int)+1) ((CY.take j).map (·.1)) C hlm;generalize C[m]=d at *;obtain ⟨w6,hr6,DF,qQ⟩:=pX.out.upd (arz hn2 (by omega) (by omega) (by omega)) d hwf ((i:Int)+1);rw [<- hst] at DF;have zk:=Lib.hid DF;have HG6:=Lib.hid (gT HGm.out qQ);have ki8:IntKind.i64.wrap ((i:Int)+1)=(i:Int)+1:=IntWalk.i64_in _ (by omega);clear DF qQ hst aio;go_wp2_with fail;go_roundw
       case rel => exact ⟨m+1,by omega,by go_num,⟨n2+1,Nat.succ_le_succ hn2,zk.out⟩,HG6.out⟩
       case measure => simp [intOf];omega
      ·obtain rfl:m=C.length:=by omega
       have hmf:=pX.out;rw [List.take_length,<- mD.out] at hmf;have NI:=Lib.hid hmf;clear hmf;go_wp2_with fail;go_roundw
       case rel => exact ⟨j+1,by omega,by go_num,⟨n2,arw hn2 hcl,NI.out⟩,gT J8.out HGm.out⟩
       case measure => simp [intOf];omega
    ·obtain rfl:j=CY.length:=by omega
     have hmf:=HM.out;rw [List.take_length,kH.out,<- arJ] at hmf;have NI:=Lib.hid hmf;have EK:=Lib.hid (arQ.out.aru WL.out J8.out);have WM:=Lib.hid (aj.grown ail.out J8.out (fun e=>aib (Option.some.inj e).symm));have WO:=Lib.hid (aj.grown arR.out J8.out (fun e=>arO (Option.some.inj e).symm));have HGf:=Lib.hid (ahf arT.out J8.out (fun k hk=>by have:=Option.some.inj hk;omega));clear hmf;go_wp2_with fail;rw [<- Ro];go_roundw
     case rel => exact ⟨i+1,by omega,by go_num,⟨DT,c10,by rw [V3.out];exact EK.out,WM.out,arP.out⟩,⟨n1,arx hn1 ahz,NI.out⟩,WO.out,HGf.out⟩
     case measure => simp [intOf];omega
  ·obtain rfl:i=sl.length:=by omega
   have hbl:bl.length=q.ah.length:=by rw [<- HP.out.eq,List.length_map]
   obtain ⟨f,hf⟩:∃ f,yH q O sl.length=f:=⟨_,rfl⟩;have Rf:=Lib.hid hf;rw [hf] at HM;have EZ:=Lib.hid hbl;have HPe:=Lib.hid HP.out.eq;have heq:(oz f bl 0).map (·.1)=q.ah:=by rw [ah5];exact HP.out.eq
   have NJ:=Lib.hid (show jv wo w.heap.size (.slice nH q.nodes.length nI) (.slice vO q.ah.length ca') (.slice Af sl.length cf) ⟨q.nodes,(oz f bl 0).map (·.1),zN sl.length⟩ (oz f bl 0) from by
    rw [heq,ah5];exact HP.out)
   have sG:=Lib.hid (fun a (ha:a∈q.ah)=>HV.out.jB ha);clear hf hbl heq HP X2 HAq HG HA7
   try clear dF
   try clear dG
   try clear fG
   try clear jP
   try clear fH
   try clear jw
   try clear lX
   obtain ⟨dF,dG,fG,jP,-,-,-⟩:=X4.aY;go_upto_block 6 with fail;clear X4 dF dG fG jP;go_wp2_with fail;go_loopw [77] (fun u wr=>∃ k:Nat,k<=q.ah.length/\u=.int .i64 k/\jv wr w.heap.size (.slice nH q.nodes.length nI) (.slice vO q.ah.length ca') (.slice Af sl.length cf) ⟨q.nodes,(oz f bl k).map (·.1),zN sl.length⟩ (oz f bl k)/\iW wr gs nm f/\aj wr g4 26 #[.slice nH q.nodes.length nI,.slice vO q.ah.length ca',.slice Af sl.length cf]/\aj wr g2 26 #[.slice none 0 0,.slice none 0 0,.slice none 0 0]/\Below w.heap.size w wr) (fun u _=>q.ah.length-(intOf u).toNat)
   case atStart => exact ⟨0,Nat.zero_le _,rfl,NJ.out,HM.out,dI.out,bU.out,HB.out⟩
   case round =>
    clear NJ HM dI bU HB;obtain ⟨k,hk,rfl,hpo,hmp,X4,X2,hb⟩:=hrel;obtain ⟨wq,rfl⟩:∃ wq:World,wq=wr:=⟨_,rfl⟩;have HP:=Lib.hid hpo;have HM:=Lib.hid hmp;have dI:=Lib.hid X4;have bU:=Lib.hid X2;have HB:=Lib.hid hb;have af7:=hmp.lt;have hl4:=X4.lt;have hqa:q.ah.length<=256:=by
     have hl:=HV.out.lim;unfold lY at hl;simp at hl;omega
    clear hpo hmp hb;by_cases hlt:k<q.ah.length
    ·have hkb:k<bl.length:=by rw [EZ.out];exact hlt
     have hkl:k<(oz f bl k).length:=by rw [arA];exact hkb
     have hat:=arD (f:=f) hkb hkl;have hset:=arE (f:=f) hkb;obtain ⟨gA,zG,hgA,avm,hfz,c0,c1,c2,c3,c4,c5⟩:=HP.out.jq.ah6 hkl;have hmem:bl[k].1∈q.ah:=by
      have:=HP.out.eq
      have h9:(oz f bl k)[k].1.id=bl[k].1.id:=by rw [hat]
      have h8:=HPe.out;rw [<- h8];exact List.mem_map_of_mem (List.getElem_mem hkb)
     have hid:=sG.out _ hmem;rw [hat] at c0 c1 c2 c3 c4 c5;generalize bl[k]=x at *;obtain ⟨⟨id,fr,dst,via,lf,rt⟩,⟨va,vn,vc⟩⟩:=x;simp only at c0 c1 c2 c3 c4 c5 hid hset;have HAt:=Lib.hid hat;have aaA:=Lib.hid hset;have WQ:¬ gA=g4:=fun e=>Own.dU HP.out.jq dI.out (by decide) (by rw [zG,<- e];rfl);have aip:¬ gA=g2:=fun e=>Own.dU HP.out.jq bU.out (by decide) (by rw [zG,<- e];rfl);have aiq:¬ gA=gs:=fun e=>abM HP.out.jq HM.out (by rw [zG,<- e];rfl);clear hat hset hmem X2 hfz;go_upto_region 27 with fail;obtain ⟨W5,hW⟩:∃ W:World,W=wq.alloc (.cells #[.int .i64 id,.int .i64 fr,.int .i64 dst,.slice va vn vc,.int .i64 lf,.int .i64 rt] 50):=⟨_,rfl⟩;have hA:Below wq.heap.size wq W5:=by rw [hW];exact bA (bR wq) _
     obtain ⟨g15,air⟩:∃ g15,wq.heap.size=g15:=⟨_,rfl⟩;have AQ:aj W5 g15 50 #[.int .i64 id,.int .i64 fr,.int .i64 dst,.slice va vn vc,.int .i64 lf,.int .i64 rt]:=by rw [hW];exact aj.made air.symm _ _
     have DN:=Lib.hid (HP.out.keep hA);have yA:=Lib.hid (HM.out.keep hA);have BJ:=Lib.hid (dI.out.keep hA);have aaO:=Lib.hid (bU.out.keep hA);have dM:=Lib.hid (bT HB.out hA);have Jj:=hA.size;have n15:¬ g15=gA:=by omega
     rw [<- hW]
     try rw [air]
     clear hW hA c0 c1 c2 c3 c4 c5 X4 HP HM dI bU HB;have X4:=BJ.out;have arW:eG id:=oV (by omega) (by omega);have arY:eG (-id):=oV (by omega) (by omega);have avn:=(yA.out.keep (bD (bR W5))).look id arW;have hlk2:=(yA.out.keep (bD (bR W5))).look (-id) arY;have kng:IntKind.i64.wrap (-id)=-id:=IntWalk.i64_in _ (by omega);obtain ⟨gA',J9,-,arZ,uN,-,-,-,-,d4,d5⟩:=DN.out.jq.ah6 hkl;rw [zG] at J9;injection J9 with J9;injection J9 with J9 _ _;rw [<- J9] at arZ uN d4 d5;have hf4:=uN (k*6+4);have hf5:=uN (k*6+5);have hp5:=DN.out;rw [zG] at hp5;have hlr:=hp5.arF hkl (f id) (f (-id));rw [HAt.out] at hlr;have HLr:=Lib.hid (show jv ((W5.setCell ⟨gA,k*6+4,none⟩ (.int .i64 (f id))).setCell ⟨gA,k*6+5,none⟩ (.int .i64 (f (-id)))).drew w.heap.size (.slice nH q.nodes.length nI) (.slice vO q.ah.length ca') (.slice Af sl.length cf) ⟨q.nodes,(oz f bl (k+1)).map (·.1),zN sl.length⟩ (oz f bl (k+1)) from by
      rw [zG];have h9:=aaA.out;unfold EY at h9;simp only at h9;have NK:=hlr;simp only at NK;rw [h9] at NK;refine ⟨NK.uM,NK.jq,NK.nR,rfl,NK.pK⟩)
     have NI:=Lib.hid (show iW ((W5.setCell ⟨gA,k*6+4,none⟩ (.int .i64 (f id))).setCell ⟨gA,k*6+5,none⟩ (.int .i64 (f (-id)))).drew gs nm f from ((yA.out.setCell (p:=⟨gA,k*6+4,none⟩) (fun e=>aiq e.symm) _).setCell (p:=⟨gA,k*6+5,none⟩) (fun e=>aiq e.symm) _).keep (bD (bR _)));have WM:=Lib.hid (((BJ.out.far (p:=⟨gA,k*6+4,none⟩) (fun e=>WQ e.symm) (.int .i64 (f id))).far (p:=⟨gA,k*6+5,none⟩) (fun e=>WQ e.symm) (.int .i64 (f (-id)))).drew);have WO:=Lib.hid (((aaO.out.far (p:=⟨gA,k*6+4,none⟩) (fun e=>aip e.symm) (.int .i64 (f id))).far (p:=⟨gA,k*6+5,none⟩) (fun e=>aip e.symm) (.int .i64 (f (-id)))).drew);have rP:=Lib.hid (bD (bS (p:=⟨gA,k*6+5,none⟩) (bS (p:=⟨gA,k*6+4,none⟩) dM.out hgA (.int .i64 (f id))) hgA (.int .i64 (f (-id)))));have m3:¬ g4=gA:=fun e=>WQ e.symm;have m1:¬ some g4=some gA:=fun e=>WQ (Option.some.inj e).symm;have m2:¬ some g15=some gA:=fun e=>n15 (Option.some.inj e);have Qy:(k:Int)<q.ah.length:=by omega
     have Qz:0<=(k:Int):=by omega
     clear hlr hp5 uN DN yA J9
     try clear dF
     try clear dG
     try clear fG
     try clear jP
     try clear fH
     try clear jw
     try clear lX
     obtain ⟨dF,dG,fG,jP,-,-,-⟩:=X4.aY;obtain ⟨OZ,O1,O4,WR,avo,avp,avq,-,-,-,-,-,-⟩:=AQ.kZ;refine cZ (jH W5 (some gA)) (.run 9 0 0 (.run 4 10 511 (.two 9 16383 (.call 14 32767 (.take 15 65535 (.take 16 131071 (.call 17 262143 (.take 18 524287 (.take 19 1048575 (.call 20 2097151 (.done)))))))) 14 32255 (.call 9 32767 (.take 15 65535 (.take 16 131071 (.call 17 262143 (.take 18 524287 (.take 19 1048575 (.call 20 2097151 (.done))))))))))) (by kernel_rfl) (gD (gR _ _)) (by kernel_rfl) (by kernel_rfl) (Nat.le_of_ble_eq_true (by kernel_rfl)) ?_;intro dn QR au aC hS
     iterate 13
      apply jU;exact au;exact rfl;exact hS;exact rfl
      · intro _ hqc;go_simp;try rfl
      try simp only [pu]
     refine xG (i:=9) (j:=14) (aH au rfl) (aH au rfl) (fun K hK=>?_) (fun K hK=>?_)
     ·have aA:=Lib.hid hS;clear hS;refine aN (aV rfl) ?_;go_simp;refine hK.out _ _ aA.out (fun hS=>?_);clear hK K aA
      try simp only [pu]
      refine aW (i:=14) (aH au rfl) (fun K hK=>?_);have aA:=Lib.hid hS;clear hS;refine aN (aV rfl) ?_;go_simp;refine hK.out _ _ aA.out (fun hS=>?_);clear hK K aA
      try simp only [pu]
      iterate 2
       apply jU;exact au;exact rfl;exact hS;exact rfl
       · intro _ hqc;go_simp;try rfl
       try simp only [pu]
      refine aW (i:=17) (aH au rfl) (fun K hK=>?_);have aA:=Lib.hid hS;clear hS;refine aN (aV rfl) ?_;go_simp;refine hK.out _ _ (by first | exact gS aA.out _ _ | (unfold jH;have vI:World.grownBy _ _ _:=aA.out;repeat (first | with_reducible assumption | with_reducible exact World.grownBy.refl _ _ | with_reducible refine gS ?_ _ _ | with_reducible refine gD ?_ | with_reducible refine gA ?_ _))) (fun hS=>?_);clear hK K aA
      try simp only [pu]
      iterate 2
       apply jU;exact au;exact rfl;exact hS;exact rfl
       · intro _ hqc;go_simp;try rfl
       try simp only [pu]
      refine aW (i:=20) (aH au rfl) (fun K hK=>?_);have aA:=Lib.hid hS;clear hS;refine aN (aV rfl) ?_;go_simp;refine hK.out _ _ (by first | exact gS aA.out _ _ | (unfold jH;have vI:World.grownBy _ _ _:=aA.out;repeat (first | with_reducible assumption | with_reducible exact World.grownBy.refl _ _ | with_reducible refine gS ?_ _ _ | with_reducible refine gD ?_ | with_reducible refine gA ?_ _))) (fun hS=>?_);clear hK K aA
      try simp only [pu]
      refine bQ ?_;refine aC.down _ _ ?_;have hB:W5.grownBy _ (some gA):=hS;clear hS aC au;go_wp2_with fail;rw [<- zG];go_roundw
      case rel => exact ⟨_,_,_,⟨k+1,by omega,by go_num,HLr.out,NI.out,WM.out,WO.out,rP.out⟩,rfl,rfl,rfl⟩
      case measure => simp [intOf];omega
     ·have aA:=Lib.hid hS;clear hS;refine aN (aV rfl) ?_;go_simp;refine hK.out _ _ aA.out (fun hS=>?_);clear hK K aA
      try simp only [pu]
      refine aW (i:=9) (aH au rfl) (fun K hK=>?_);have aA:=Lib.hid hS;clear hS;refine aN (aV rfl) ?_;go_simp;refine hK.out _ _ aA.out (fun hS=>?_);clear hK K aA
      try simp only [pu]
      iterate 2
       apply jU;exact au;exact rfl;exact hS;exact rfl
       · intro _ hqc;go_simp;try rfl
       try simp only [pu]
      refine aW (i:=17) (aH au rfl) (fun K hK=>?_);have aA:=Lib.hid hS;clear hS;refine aN (aV rfl) ?_;go_simp;refine hK.out _ _ (by first | exact gS aA.out _ _ | (unfold jH;have vI:World.grownBy _ _ _:=aA.out;repeat (first | with_reducible assumption | with_reducible exact World.grownBy.refl _ _ | with_reducible refine gS ?_ _ _ | with_reducible refine gD ?_ | with_reducible refine gA ?_ _))) (fun hS=>?_);clear hK K aA
      try simp only [pu]
      iterate 2
       apply jU;exact au;exact rfl;exact hS;exact rfl
       · intro _ hqc;go_simp;try rfl
       try simp only [pu]
      refine aW (i:=20) (aH au rfl) (fun K hK=>?_);have aA:=Lib.hid hS;clear hS;refine aN (aV rfl) ?_;go_simp;refine hK.out _ _ (by first | exact gS aA.out _ _ | (unfold jH;have vI:World.grownBy _ _ _:=aA.out;repeat (first | with_reducible assumption | with_reducible exact World.grownBy.refl _ _ | with_reducible refine gS ?_ _ _ | with_reducible refine gD ?_ | with_reducible refine gA ?_ _))) (fun hS=>?_);clear hK K aA
      try simp only [pu]
      refine bQ ?_;refine aC.down _ _ ?_;have hB:W5.grownBy _ (some gA):=hS;clear hS aC au;go_wp2_with fail;rw [<- zG];go_roundw
      case rel => exact ⟨_,_,_,⟨k+1,by omega,by go_num,HLr.out,NI.out,WM.out,WO.out,rP.out⟩,rfl,rfl,rfl⟩
      case measure => simp [intOf];omega
    ·obtain rfl:k=q.ah.length:=by omega
     try clear dF
     try clear dG
     try clear fG
     try clear jP
     try clear fH
     try clear jw
     try clear lX
     obtain ⟨dF,dG,fG,jP,-,-,-⟩:=X4.aY;obtain ⟨cu,cO,dH,dZ,CO,IJ,MZ⟩:=X2.aY;go_wp2_with fail;have hab:oz f bl q.ah.length=bl.map (fun x=>(EY f x.1,x.2)):=by rw [<- EZ.out];exact arB f bl
     have hP:=HP.out;rw [hab] at hP;have hre:r=⟨q.nodes,(bl.map (fun x=>(EY f x.1,x.2))).map (·.1),zN sl.length⟩:=by
      rw [<- HRe.out];have e1:(aI q).length=sl.length:=zq.out.symm;have e2:(bl.map (fun x=>(EY f x.1,x.2))).map (·.1)=q.ah.map (abL q O):=by
       rw [<- HPe.out,List.map_map,List.map_map];refine List.map_congr_left fun x _=>?_;unfold abL;rw [Qg.out,Rf.out];rfl
      rw [e1,e2,<- HOe.out,<- J6.out];rfl
     have hrn:r.nodes.length=q.nodes.length:=by rw [hre]
     have hra:r.ah.length=q.ah.length:=by rw [hre];simp [EZ.out]
     have hrf:r.faces.length=sl.length:=by rw [hre];exact ah3 _
     have hgw:w.heap.size<=g2:=by omega
     refine uw (g:=g2) (cs:=#[.slice nH q.nodes.length nI,.slice vO q.ah.length ca',.slice Af sl.length cf]) rfl SA rfl rfl (aj.Oh bU.out) (.inr ⟨H64.out,nH,nI,vO,ca',Af,cf,bl.map (fun x=>(EY f x.1,x.2)),?_,?_,?_⟩)
     · rw [hrn,hra,hrf];rfl
     · exact bS (p:=⟨g2,2,none⟩) (bS (p:=⟨g2,1,none⟩) (bS (p:=⟨g2,0,none⟩) HB.out hgw _) hgw _) hgw _
     ·rw [hrn,hra,hrf,hre];have z0:=aj.fC bU.out 0 (.slice nH q.nodes.length nI);have z1:=aj.fC z0 1 (.slice vO q.ah.length ca');exact ((hP.far bU.out (by decide) (by decide) (by decide) (by decide) 0 _).far z0 (by decide) (by decide) (by decide) (by decide) 1 _).far z1 (by decide) (by decide) (by decide) (by decide) 2 _
end Go.Proofs.YtialfdomhoojiaaGreat
