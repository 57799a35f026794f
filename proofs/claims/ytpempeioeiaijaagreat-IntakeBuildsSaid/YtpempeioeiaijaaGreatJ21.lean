import Derived.Test.YtpempeioeiaijaaGreatJ19
import Derived.Test.YtpempeioeiaijaaGreatJ20
set_option linter.unusedSimpArgs false
set_option linter.unusedVariables false
set_option maxRecDepth 100000
set_option maxHeartbeats 8000000
namespace Go.Proofs.YtpempeioeiaijaaGreat
open Go.RowKit Go.Sort Tryz
def Iq (p:Pl) (O:List (List Int)):Nat->Int->Int
 | 0,_=>0
 | n+1,d=>if (Je p O (n+1)).any (fun c=>decide (d∈c))=true then (n:Int)+1 else Iq p O n d
def aW (p:Pl) (O:List (List Int)) (a:Ar):Ar:=⟨a.id,a.fr,a.dst,a.via,Iq p O O.length a.id,Iq p O O.length (-a.id)⟩
def J6 (p:Pl):Pl:=⟨p.nodes,(C9 p).AQ.map (aW (C9 p) (sortK (Ci (C9 p)))),(List.range (Ci (C9 p)).length).map fun i:Nat=>((i:Int)+1)⟩
def Om (p:Pl):Int:=if Gn (C9 p)≠0 then Gn (C9 p) else if 64<(Ci (C9 p)).length then 3 else 0
def oh:Value:=.agg #[.slice none 0 0,.slice none 0 0,.slice none 0 0]
def aw7 (w:World) (p:Pl) (e:Ending) (w':World):Prop :=
 ∃ An cn Aa ca Af cf bl,e=.returned (.tuple #[.agg #[.slice An p.nodes.length cn,.slice Aa p.AQ.length ca,.slice Af p.faces.length cf],.int .i64 0])/\AU w w'/\FP w' w.heap.size (.slice An p.nodes.length cn) (.slice Aa p.AQ.length ca) (.slice Af p.faces.length cf) p bl
structure Mod (p:Pl):Prop where
 nodes:p.nodes.length<=100000
 AQ:p.AQ.length<=100000
 MK:∀ a∈p.AQ,a.via.length<=100000
theorem azD (v:Value) (p:Pl) (w:World) (h:D6 w v p) (hm:Mod p) (hz:Gn (C9 p)≠0):Calls prog 39 #[v] w fun e w'=>e=.returned (.tuple #[oh,.int .i64 (Gn (C9 p))])/\AU w w':=by
 have ou:=AB (fun W (hW:AU w W)=>alh v p W (h.mono hW) hm.nodes hm.AQ hm.MK);have Fe:=AB (fun u W (hu:D6 W u (C9 p))=>ald u (C9 p) W hu hz);obtain ⟨_,_,_,al,rfl,hpa,⟨An,cn,rfl,-⟩,⟨⟨Aa,ca,rfl,-⟩,-⟩,⟨Af,cf,rfl,-⟩⟩:=h;generalize Gn (C9 p)=z at *;generalize C9 p=q at *;have hb:(z != 0)=true:=by simpa using hz
 clear hm hz hpa;generalize p.nodes.length=nn at *;generalize al.length=na at *;generalize p.faces.length=nf at *;go_enter func39,ntmps39;go_upto_region 1 with fail;obtain ⟨g2,hg2⟩:=BI (w.heap.size+1);obtain ⟨W1,hW⟩:∃ W:World,W=(w.alloc (.cells #[.slice An nn cn,.slice Aa na ca,.slice Af nf cf] 34)).alloc (.cells #[.slice none 0 0,.slice none 0 0,.slice none 0 0] 34):=⟨_,rfl⟩;have X1:AO W1 w.heap.size 34 #[.slice An nn cn,.slice Aa na ca,.slice Af nf cf]:=by rw [hW];exact (AO.made rfl _ _).alloc _
 have X2:AO W1 g2 34 #[.slice none 0 0,.slice none 0 0,.slice none 0 0]:=by rw [hW];exact AO.made (by rw [<- hg2];simp) _ _
 have HB1:=AB (show AU w W1 by rw [hW];exact bA (bA (bR w) _) _);rw [<- hW]
 try rw [hg2]
 have DC:=AB X2;have hgw:w.heap.size<=g2:=AA
 clear hW hg2;obtain ⟨BJ,BK,BL,BQ,-⟩:=X1.Az;go_wp2_with fail;refine (ou.1 _ HB1.1).mono ?_;rintro e w2 ⟨Gp,Gq,Oo,ca',bl,rfl,hb2,hpo⟩;obtain ⟨HB2,EY,HP⟩:=CG (bT HB1.1 hb2) (DC.1.keep hb2) hpo.Yr;clear hb2 hpo ou X1 BJ BK BL BQ X2;have X3:=EY.1;go_upto_region 2 with fail;obtain ⟨W3,hW⟩:∃ W:World,W=w2.alloc (.cells #[.slice Gp q.nodes.length Gq,.slice Oo q.AQ.length ca',.slice none 0 0] 34):=⟨_,rfl⟩;have hA:AU w2 W3:=by rw [hW];exact bA (bR w2) _
 obtain ⟨g4,hg4⟩:=BI w2.heap.size;have X4:AO W3 g4 34 #[.slice Gp q.nodes.length Gq,.slice Oo q.AQ.length ca',.slice none 0 0]:=by rw [hW];exact AO.made hg4.symm _ _
 obtain ⟨HB3,DL,OH⟩:=CG (bT HB2.1 hA) (EY.1.keep hA) (HP.1.mono hA);rw [<- hW]
 try rw [hg4]
 clear hW hA hg4 HB2 EY HP X3;obtain ⟨Bg,CO,CU,ES,-⟩:=X4.Az;go_wp2_with fail;refine (Fe.1 _ _ OH.1).mono ?_;rintro e w5 ⟨Ac,cc,CL,rfl,hb5,-⟩;have Ce:=AB (bT HB3.1 hb5);have DX:=AB (DL.1.keep hb5);have X5:=DX.1;clear hb5 Fe X4 Bg CO CU ES HB3 DL OH;obtain ⟨DI,DJ,DU,IJ,Zp,Zq,azE⟩:=X5.Az;go_wp2_with fail;refine Iz (g:=g2) (cs:=#[.slice none 0 0,.slice none 0 0,.slice none 0 0]) rfl Na rfl rfl (AO.LG DX.1) ⟨rfl,?_⟩;exact bS (p:=⟨g2,2,none⟩) (bS (p:=⟨g2,1,none⟩) (bS (p:=⟨g2,0,none⟩) Ce.1 hgw _) hgw _) hgw _
theorem Ie.perm {p:Pl} {z:AD} {sl sl':List AD} {O O' R:List (List Int)} {N:List Nd} (h:Ie p (z::sl) O R N) (hp:sl'.Perm sl) (ho:sl'.map (·.out)=O'):Ie p (z::sl') O' R N:=by
 have key:∀ x∈sl,x.inn.map (·.1)=R.filter (fun c=>decide (MG p (UU p c)=some x.out))/\x.EP=(N.filter (fun n=>decide (Oe p.AQ n.id=0/\MG p n.pt=some x.out))).map (·.id):=by
  intro x hx;obtain ⟨i,hi,rfl⟩:=EF.1 hx;have h1:i+1<(z::sl).length:=by simpa using hi
  have hl:=h.len;have e:Lj O (i+1)=some sl[i].out:=by
   rw [VT AA (by simp only [JA] at hl;omega)];have:=h.pU h1 AA
   simp only [List.getElem_cons_succ,yg] at this ⊢;rw [this]
  have a:=h.inn (i+1) h1;have b:=h.EP (i+1) h1;rw [e] at a b;exact ⟨a,b⟩
 have hout:(z::sl').map (·.out)=[]::O':=by
  have h0:=h.out;rw [Ey] at h0 ⊢;injection h0 with h0 _;rw [h0,ho]
 have hlen:sl'.length=O'.length:=by rw [<- ho,CV]
 have hk:∀ i (hi:i<sl'.length),Lj O' (i+1)=some sl'[i].out:=fun i hi=>by
  rw [VT AA AA];subst ho;simp
 refine ⟨hout,fun i hi=>?_,fun i hi=>?_⟩
 · match i,hi with
  | 0,_=>exact h.inn 0 Ah
  | i+1,hi =>
   have hi':i<sl'.length:=by simpa using hi
   rw [hk i hi'];exact (key _ (hp.subset (BO hi'))).1
 · match i,hi with
  | 0,_=>exact h.EP 0 Ah
  | i+1,hi =>
   have hi':i<sl'.length:=by simpa using hi
   rw [hk i hi'];exact (key _ (hp.subset (BO hi'))).2
theorem FP.aw8 {w w':World} {B B':Nat} {vn va vf v:Value} {p:Pl} {bl:List (Ar×SV)} {L:List AD} (h:FP w B vn va vf p bl) (ho:Own w B' 106 4 F9 v L) (hg:w.grownBy w' v.ownBlock):FP w' B vn va vf p bl :=
 ⟨Own.grown h.P6 hg (Own.apart h.P6 ho Aw),Own.grown h.Ec hg (Own.apart h.Ec ho Aw),fun x hx=>Own.grown (h.MK x hx) hg (Own.apart (h.MK x hx) ho Aw),h.eq,Own.grown h.KI hg (Own.apart h.KI ho Aw)⟩
theorem FP.aw9 {w w':World} {B gm n:Nat} {f:Int->Int} {vn va vf:Value} {p:Pl} {bl:List (Ar×SV)} (h:FP w B vn va vf p bl) (hm:Gw w gm n f) (hg:w.grownBy w' (some gm)):FP w' B vn va vf p bl:=by
 have ne:∀ {α:Type} {e:TypeId} {size:Nat} {fe:α->List Value} {v:Value} {l:List α},Own w B e size fe v l->∀ g,v.ownBlock=some g->some g≠some gm:=fun ho g hg e=>by
  rcases ho.2 with ⟨rfl,_⟩ | ⟨g',cap,cur,rfl,_,hh,_⟩
  · simp [Value.ownBlock] at hg
  ·have:g'=gm:=by
    have h1:g'=g:=by simpa [Value.ownBlock] using hg
    have h2:=DV e;omega
   exact vJ hm (cs:=cur) (g:=g') hh this
 exact ⟨Own.grown h.P6 hg (ne h.P6),Own.grown h.Ec hg (ne h.Ec),fun x hx=>Own.grown (h.MK x hx) hg (ne (h.MK x hx)),h.eq,Own.grown h.KI hg (ne h.KI)⟩
theorem Ints.al8 {w w':World} {v:Value} {l:List Int} (h:Ints w v l) {g:Nat} {t:TypeId} {cs:Array Value} (hb:AO w g t cs) (hc:∀ (j:Nat) (n:Int),cs[j]? ≠ some (.int .i64 n)) (hg:w.grownBy w' (some g)):Ints w' v l:=by
 obtain ⟨A,c,rfl,h1,h2,h3⟩:=h;refine ⟨A,c,rfl,h1,h2,fun hne=>?_⟩;obtain ⟨b,o,rfl,hlt,hcell⟩:=h3 hne;have hl:0<l.length:=by
  cases l with
  | nil=>exact absurd rfl hne
  | cons a l=>simp
 have h0:(l.flatMap DY)[0]? = some (.int .i64 l[0]):=by
  cases l with
  | nil=>cases hl
  | cons a l=>rfl
 have hcl:=hcell 0 _ h0;have hbg:b≠g:=fun e=>by
  subst e;rw [hb.cell] at hcl;exact hc _ _ hcl
 exact ⟨b,o,rfl,QS hlt hg.size,fun j u hu=>by
  have:=hg.block b hlt (fun e=>hbg (DV e))
  rw [<- hcell j u hu];simp only [World.cell?,this]⟩
structure abR (w:World) (B:Nat) (v:Value) (L:List AD):Prop where
 own:Own w B 106 4 F9 v L
 out:∀ x∈L,Ints w (BF x.ov) x.out
 inn:∀ x∈L,Own w B 32 1 J5 (BF x.iv) x.inn
 KT:∀ x∈L,∀ c∈x.inn,Ints w (BF c.2) c.1
theorem al9 (a b c:SV) (j:Nat) (n:Int):(#[BF a,BF b,BF c] : Array Value)[j]? ≠ some (.int .i64 n):=by
 match j with
 | 0=>intro e;cases e
 | 1=>intro e;cases e
 | 2=>intro e;cases e
 | j+3=>intro e;simp at e
theorem abR.grown {w w':World} {B:Nat} {v:Value} {L:List AD} (h:abR w B v L) {g:Nat} {a b c:SV} (hb:AO w g 34 #[BF a,BF b,BF c]) (hg:w.grownBy w' (some g)):abR w' B v L:=by
 have ne:∀ {α:Type} {e:TypeId} {size:Nat} {fe:α->List Value} {v:Value} {l:List α},Own w B e size fe v l->e≠34->∀ q,v.ownBlock=some q->some q≠some g:=fun ho hne q hq e=>by
  have:=Own.EX ho hb hne
  exact this (by rw [hq,e])
 exact ⟨Own.grown h.own hg (ne h.own Aw),fun x hx=>(h.out x hx).al8 hb (al9 a b c) hg,fun x hx=>Own.grown (h.inn x hx) hg (ne (h.inn x hx) Aw),fun x hx d hd=>(h.KT x hx d hd).al8 hb (al9 a b c) hg⟩
def Nw (n:Nat):List Int:=(List.range n).map fun i:Nat=>((i:Int)+1)
theorem afG (n:Nat):(Nw n).length=n:=by unfold Nw;simp
theorem alA (n:Nat):Nw (n+1)=Nw n++[(n:Int)+1]:=by unfold Nw;rw [XY,FH];rfl
theorem afH {w:World} {gm n:Nat} {f:Int->Int} {base:Nat} {e:TypeId} {size:Nat} {α:Type} {fe:α->List Value} {v:Value} {l:List α} (ho:Own w base e size fe v l) (h:Gw w gm n f):v.ownBlock≠some gm:=by
 rcases ho.2 with ⟨rfl,_⟩ | ⟨g,cap,cur,rfl,_,hh,_⟩
 · simp [Value.ownBlock]
 ·intro e';exact vJ h (cs:=cur) (g:=g) hh qO
theorem Gw.setCell {w:World} {gm n:Nat} {f:Int->Int} (h:Gw w gm n f) {p:Addr} (hp:¬ gm=p.block) (u:Value):Gw (w.setCell p u) gm n f :=
 h.kept (row:=some p.block) ⟨rfl,rfl,rfl,Ah,fun i hi hne=>Below.heap_setCell w p u i (fun e=>hne RD)⟩ (fun e=>hp (DV e))
theorem Gw.obj {w:World} {gm n:Nat} {f:Int->Int} (h:Gw w gm n f) (j:Nat):w.cell? ⟨gm,j,none⟩=none:=by
 obtain ⟨D,h1,-⟩:=h;obtain ⟨es,clock,h2,-⟩:=h1;simp only [World.cell?,h2]
theorem Ints.alB {w w':World} {v:Value} {l:List Int} (h:Ints w v l) {gm n:Nat} {f:Int->Int} (hm:Gw w gm n f) (hg:w.grownBy w' (some gm)):Ints w' v l:=by
 obtain ⟨A,c,rfl,h1,h2,h3⟩:=h;refine ⟨A,c,rfl,h1,h2,fun hne=>?_⟩;obtain ⟨b,o,rfl,hlt,hcell⟩:=h3 hne;have hl:0<l.length:=by
  cases l with
  | nil=>exact absurd rfl hne
  | cons a l=>simp
 have h0:(l.flatMap DY)[0]? = some (.int .i64 l[0]):=by
  cases l with
  | nil=>cases hl
  | cons a l=>rfl
 have hcl:=hcell 0 _ h0;have hbg:b≠gm:=fun e=>by
  subst e;rw [hm.obj] at hcl
  cases hcl
 exact ⟨b,o,rfl,QS hlt hg.size,fun j u hu=>by
  have:=hg.block b hlt (fun e=>hbg (DV e))
  rw [<- hcell j u hu];simp only [World.cell?,this]⟩
theorem awC {n i j m:Nat} (h:n<=300000*i+513*j+m) (hm:m<=512):n<=300000*i+513*(j+1):=AA
theorem awD {n i c:Nat} (h:n<=300000*i+513*c) (hc:c<=513):n<=300000*(i+1):=AA
theorem awE {n i j m:Nat} (h:n<=300000*i+513*j+m) (hi:i<=64) (hj:j<=513) (hm:m<=512):n<4294967296:=AA
def Ny (f:Int->Int) (a:Ar):Ar:=⟨a.id,a.fr,a.dst,a.via,f a.id,f (-a.id)⟩
def JF (f:Int->Int) (bl:List (Ar×SV)) (k:Nat):List (Ar×SV):=(bl.take k).map (fun x=>(Ny f x.1,x.2))++bl.drop k
theorem alC (f:Int->Int) (bl:List (Ar×SV)) (k:Nat):(JF f bl k).length=bl.length:=by unfold JF;simp;omega
theorem afI (f:Int->Int) (bl:List (Ar×SV)):JF f bl 0=bl:=by unfold JF;simp
theorem alD (f:Int->Int) (bl:List (Ar×SV)):JF f bl bl.length=bl.map (fun x=>(Ny f x.1,x.2)):=by unfold JF;simp
theorem alE {f:Int->Int} {bl:List (Ar×SV)} {k:Nat} (hk:k<bl.length) (h:k<(JF f bl k).length):(JF f bl k)[k]=bl[k]:=by
 have e:(JF f bl k)[k]? = bl[k]? := by
  unfold JF;rw [List.getElem?_append_right (by rw [CV,GH];omega),List.getElem?_drop];simp only [CV,GH];congr 1;omega
 rw [Di h,Di hk] at e;exact DV e
theorem alF {f:Int->Int} {bl:List (Ar×SV)} {k:Nat} (hk:k<bl.length):(JF f bl k).set k (Ny f bl[k].1,bl[k].2)=JF f bl (k+1):=by
 unfold JF;have hl:((bl.take k).map (fun x=>(Ny f x.1,x.2))).length=k:=by rw [CV,GH];omega
 rw [ah3 _ _ AA,hl,Nat.sub_self,Em hk,FH,LJ,kU hk,ah4];rfl
theorem Own.xq {w:World} {B n c:Nat} {A:Option Addr} {L:List (Ar×SV)} (h:Own w B 50 6 Ja (.slice A n c) L) {k:Nat} (hk:k<L.length):∃ g,A=some ⟨g,0,none⟩/\B<=g/\g<w.heap.size/\(∀ j,w.frozen? ⟨g,j,none⟩=false) /\
  w.cell? ⟨g,k*6,none⟩=some (.int .i64 L[k].1.id)/\w.cell? ⟨g,k*6+1,none⟩=some (.int .i64 L[k].1.fr)/\w.cell? ⟨g,k*6+2,none⟩=some (.int .i64 L[k].1.dst)/\w.cell? ⟨g,k*6+3,none⟩=some (.slice L[k].2.a L[k].2.n L[k].2.c)/\w.cell? ⟨g,k*6+4,none⟩=some (.int .i64 L[k].1.left)/\w.cell? ⟨g,k*6+5,none⟩=some (.int .i64 L[k].1.right):=by
 have hr:=h.row_of;rcases h.2 with ⟨hv,h0⟩ | ⟨g,cap,cur,hv,hg,hh,-⟩
 · omega
 ·injection hv with e1 e2 e3;subst e1;obtain ⟨b,o,Ik,-,c0,c1,c2,c3,c4,c5⟩:=Row.at6 hr hk;injection Ik with Ik;injection Ik with y1 y2 _;subst y1 y2;rw [Ug] at c0 c1 c2 c3 c4 c5;exact ⟨g,rfl,hg,AO.lt hh,fun j=>AO.frozen hh j,c0,c1,c2,c3,c4,c5⟩
theorem FP.awF {w:World} {B g n c:Nat} {vn vf:Value} {p:Pl} {bl:List (Ar×SV)} (h:FP w B vn (.slice (some ⟨g,0,none⟩) n c) vf p bl) {i:Nat} (hi:i<bl.length) (l r:Int) :
  FP ((w.setCell ⟨g,i*6+4,none⟩ (.int .i64 l)).setCell ⟨g,i*6+5,none⟩ (.int .i64 r)) B vn (.slice (some ⟨g,0,none⟩) n c) vf ⟨p.nodes,p.AQ.set i ⟨bl[i].1.id,bl[i].1.fr,bl[i].1.dst,bl[i].1.via,l,r⟩,p.faces⟩ (bl.set i (⟨bl[i].1.id,bl[i].1.fr,bl[i].1.dst,bl[i].1.via,l,r⟩,bl[i].2)):=by
 have far:∀ {α:Type} {e:TypeId} {size:Nat} {fe:α->List Value} {v:Value} {m:List α},Own w B e size fe v m->e≠50->Own ((w.setCell ⟨g,i*6+4,none⟩ (.int .i64 l)).setCell ⟨g,i*6+5,none⟩ (.int .i64 r)) B e size fe v m:=fun ho hne=>by
  have hn:∀ q,_->some q≠_:=Own.apart ho h.Ec hne;exact Own.far (Own.far ho (fun e8=>hn g e8 rfl) _) (fun e8=>hn g e8 rfl) _
 have h1:=Own.jC Ql h.Ec hi (j:=4) AA (⟨bl[i].1.id,bl[i].1.fr,bl[i].1.dst,bl[i].1.via,l,bl[i].1.right⟩,bl[i].2) (.int .i64 l) rfl;have hi2:i<(bl.set i ((⟨bl[i].1.id,bl[i].1.fr,bl[i].1.dst,bl[i].1.via,l,bl[i].1.right⟩:Ar),bl[i].2)).length:=by rw [P7];exact hi
 have h2:=Own.jC Ql h1 hi2 (j:=5) AA (⟨bl[i].1.id,bl[i].1.fr,bl[i].1.dst,bl[i].1.via,l,r⟩,bl[i].2) (.int .i64 r) (by rw [List.getElem_set_self];rfl);rw [List.set_set] at h2;refine ⟨far h.P6 Aw,h2,fun x hx=>?_,?_,far h.KI Aw⟩
 ·rcases UE hx with ⟨rfl,_⟩ | ⟨j,hj,_,rfl⟩
  · exact far (show Own w B 42 2 DK (BF bl[i].2) bl[i].1.via from h.MK _ (BO hi)) Aw
  · exact far (h.MK _ (BO hj)) Aw
 · rw [List.map_set,h.eq]
theorem FP.face {w w1:World} {B:Nat} {vn va vf vf':Value} {p:Pl} {bl:List (Ar×SV)} {n:Int} (h:FP w B vn va vf p bl) (ho:Own w1 B 3 1 DY vf' (p.faces++[n])) (hg:w.grownBy w1 vf.ownBlock) :
  FP w1 B vn va vf' ⟨p.nodes,p.AQ,p.faces++[n]⟩ bl :=
 ⟨Own.grown h.P6 hg (Own.apart h.P6 h.KI Aw),Own.grown h.Ec hg (Own.apart h.Ec h.KI Aw),fun y hy=>Own.grown (h.MK y hy) hg (Own.apart (h.MK y hy) h.KI Aw),h.eq,ho⟩
def GV (f:Int->Int) (v:Int) (cs:List (List Int)) (d:Int):Int:=if cs.any (fun c=>decide (d∈c))=true then v else f d
theorem alG (f:Int->Int) (v:Int):GV f v []=f:=by funext d;rfl
theorem alH (f:Int->Int) (v:Int) (cs:List (List Int)):GV f v (cs++[[]])=GV f v cs:=by funext d;unfold GV;simp
theorem amk (f:Int->Int) (v:Int) (cs:List (List Int)) (c:List Int) {m:Nat} (hm:m<c.length):GV f v (cs++[c.take (m+1)])=fun i=>if i=c[m] then v else GV f v (cs++[c.take m]) i:=by
 funext d
 unfold GV;rw [Em hm];simp only [acf,qY,List.any_nil,Bool.or_false,GI,Eb,Ir,Dq];by_cases e:d=c[m]
 · rw [AZ e,AZ (.inr (.inr e))]
 ·rw [AX e];by_cases e2:(cs.any fun c=>decide (d∈c))=true\/d∈c.take m
  · rw [AZ (by rcases e2 with g | g;exact .inl g;exact .inr (.inl g)),AZ e2]
  · rw [AX (by rintro (g | g | g);exact e2 (.inl g);exact e2 (.inr g);exact e g),AX e2]
theorem aml (p:Pl) (O:List (List Int)) (n:Nat):Iq p O (n+1)=GV (Iq p O n) ((n:Int)+1) (Je p O (n+1)):=rfl
theorem awG (v:Value) (p:Pl) (w:World) (h:D6 w v p) (hm:Mod p) (hz:Gn (C9 p)=0):Calls prog 39 #[v] w fun e w'=>(64<(Ci (C9 p)).length/\e=.returned (.tuple #[oh,.int .i64 3])/\AU w w')\/(¬ 64<(Ci (C9 p)).length/\aw7 w (J6 p) e w'):=by
 have hv:=(fH _).1 hz;obtain ⟨ou,Fe,OJ⟩:=CG (fun W (hW:AU w W)=>alh v p W (h.mono hW) hm.nodes hm.AQ hm.MK) (fun u W (hu:D6 W u (C9 p))=>am7 u (C9 p) W hu hv) (fun u W (hu:D6 W u (C9 p))=>ajJ u (C9 p) W hu hv);have QK:=AB (fun u vc CL gm f W (hu:D6 W u (C9 p)) hc hcl hpm=>(am4 u vc (C9 p) CL gm f W hu hv hc hcl hpm).mono (R':=fun e w'=>∃ gL cL z sl,e=.returned (.slice (some ⟨gL,0,none⟩) (sl.length+1) cL)/\(1:Int)<=(sl.length:Int)+1/\W.heap.size<=gL/\AU W w'/\GY 106 W w' W.heap.size (.slice (some ⟨gL,0,none⟩) (sl.length+1) cL) (z::sl)/\Ie (C9 p) (z::sl) (Ci (C9 p)) (Nl (C9 p)) (C9 p).nodes/\sl.length+1<=cL) (by
  rintro e w' ⟨A,c,L,rfl,hb,had,hdv,-⟩;have hl:=hdv.len;obtain ⟨g,hg,hg0,-⟩:=Own.Ol had.own AA;subst hg
  cases L with
  | nil=>simp at hl
  | cons z sl =>
   obtain ⟨A',c',he',h1,-⟩:=had.own.sl;injection he' with y1 y2 y3;subst y3;exact ⟨g,c,z,sl,rfl,AA,hg0,hb,had,hdv,h1⟩))
 have HV:=AB hv;have oG:=AB (@au1);have hmm:=@run_makeMap prog;obtain ⟨_,_,_,al,rfl,hpa,⟨An,cn,rfl,-⟩,⟨⟨Aa,ca,rfl,-⟩,-⟩,⟨Af,cf,rfl,-⟩⟩:=h;obtain ⟨q,hq⟩:=BI (C9 p);obtain ⟨r,hr⟩:=BI (J6 p);have hr2:=hr;unfold J6 at hr2;rw [hq] at hr2;have HRe:=AB hr2;rw [hr];rw [hq] at ou Fe OJ QK HV ⊢;have YT:p.nodes=q.nodes:=by rw [<- hq];rfl
 have HQn:=AB YT;have zS:q.faces=[]:=by rw [<- hq];rfl
 clear hm hz hpa hv hr hr2 hq YT zS;generalize p.nodes.length=nn at *;generalize al.length=na at *;generalize p.faces.length=nf at *;go_enter func39,ntmps39;go_upto_region 1 with fail;obtain ⟨g2,hg2⟩:=BI (w.heap.size+1);obtain ⟨W1,hW⟩:∃ W:World,W=(w.alloc (.cells #[.slice An nn cn,.slice Aa na ca,.slice Af nf cf] 34)).alloc (.cells #[.slice none 0 0,.slice none 0 0,.slice none 0 0] 34):=⟨_,rfl⟩;have X1:AO W1 w.heap.size 34 #[.slice An nn cn,.slice Aa na ca,.slice Af nf cf]:=by rw [hW];exact (AO.made rfl _ _).alloc _
 have X2:AO W1 g2 34 #[.slice none 0 0,.slice none 0 0,.slice none 0 0]:=by rw [hW];exact AO.made (by rw [<- hg2];simp) _ _
 have HB1:=AB (show AU w W1 by rw [hW];exact bA (bA (bR w) _) _);rw [<- hW]
 try rw [hg2]
 have DC:=AB X2;have hgw:w.heap.size<=g2:=AA
 clear hW hg2;obtain ⟨BJ,BK,BL,BQ,-⟩:=X1.Az;go_wp2_with fail;refine (ou.1 _ HB1.1).mono ?_;rintro e w2 ⟨Gp,Gq,Oo,ca',bl,rfl,hb2,hpo⟩;have HB2:=AB (bT HB1.1 hb2);have EY:=AB (DC.1.keep hb2);have hz1:=HB1.1.size;have HP:=AB (show FP w2 w.heap.size (.slice Gp q.nodes.length Gq) (.slice Oo q.AQ.length ca') (.slice none 0 0) q bl from ⟨hpo.P6.EM hz1,hpo.Ec.EM hz1,fun x hx=>(hpo.MK x hx).EM hz1,hpo.eq,hpo.KI.EM hz1⟩);clear hb2 hpo ou X1 BJ BK BL BQ X2 DC HB1 hz1;go_upto_region 2 with fail;obtain ⟨W3,hW⟩:∃ W:World,W=w2.alloc (.cells #[.slice Gp q.nodes.length Gq,.slice Oo q.AQ.length ca',.slice none 0 0] 34):=⟨_,rfl⟩;have hA:AU w2 W3:=by rw [hW];exact bA (bR w2) _
 obtain ⟨g4,hg4⟩:=BI w2.heap.size;have X4:AO W3 g4 34 #[.slice Gp q.nodes.length Gq,.slice Oo q.AQ.length ca',.slice none 0 0]:=by rw [hW];exact AO.made hg4.symm _ _
 obtain ⟨HB3,DL,OH,xu⟩:=DW (bT HB2.1 hA) (EY.1.keep hA) (HP.1.keep hA) X4;have azF:w.heap.size<=g4:=by have:=HB2.1.size;omega
 have amm:¬ g2=g4:=by have:=EY.1.lt;omega
 rw [<- hW]
 try rw [hg4]
 clear hW hA hg4 HB2 EY HP;obtain ⟨Bg,CO,CU,ES,-⟩:=X4.Az;go_wp2_with fail;refine (Fe.1 _ _ OH.1.Yr).mono ?_;rintro e w5 ⟨Ac,cc,CL,rfl,hb5,hcl,hco⟩;obtain ⟨Ce,DX,VY,Qr⟩:=DW (bT HB3.1 hb5) (DL.1.keep hb5) (xu.1.keep hb5) (OH.1.keep hb5);have hle:(Cb q).length=CL.length:=by rw [<- hcl,CV]
 have hcr:=hco.read;rw [hle] at hcr ⊢;have ML:=AB hcl;have Rk:=AB hcr;have X5:=VY.1;clear hb5 Fe X4 Bg CO CU ES HB3 DL OH hcl hcr hco hle xu;obtain ⟨DI,DJ,DU,IJ,-⟩:=X5.Az;go_upto_region 5 with fail;refine D9 (w5) (.run 3 0 0 (.call 3 15 (.call 4 31 (.take 5 63 (.take 6 127 (.done)))))) fun CQ QR Ae Aj hS=>?_
 iterate 3 refine Ak ?_
 refine BN ?_;clear hS;intro K hK AP;go_simp;refine (OJ.1 _ _ ((Qr.1.keep AP.out).Yr)).mono ?_;rintro e BZ ⟨gm,f,rfl,BU,hgm,hpm⟩;have hS:Since w5 BZ:=bT (w:=w5) AP.out BU;clear AP;refine hK.out _ _ hS (fun _=>?_);clear hK K
 try simp only [pu]
 refine BN ?_;clear hS;intro K hK AP;go_simp;refine (QK.1 _ _ CL gm f _ ((Qr.1.keep AP.out).Yr) (Rk.1.mono AP.out) ML.1 hpm).mono ?_;rintro e wr2 ⟨gL,cL,z,sl,rfl,kL1,hgL,Du,had,hdv,azG⟩;have hS:Since w5 wr2:=bT (w:=w5) AP.out Du;clear AP;refine hK.out _ _ hS (fun _=>?_);clear hK K
 try simp only [pu]
 iterate 2 refine Ak ?_
 refine D5 ?_;clear hS Aj Ae;intro hB;skip;obtain ⟨W6,y7⟩:∃ W:World,W=wr2:=⟨_,rfl⟩;rw [<- y7] at had hB Du ⊢;obtain ⟨Ew,JM,agb,UH⟩:=DW (bT Ce.1 hB) (DX.1.keep hB) (VY.1.keep hB) (Qr.1.keep hB);have hsl:sl.length=(Ci q).length:=by have:=hdv.len;simp only [JA] at this;omega
 obtain ⟨Nr,YU,UZ,awH,agc⟩:=I4 had hdv hsl BU Du;obtain ⟨PA,y8⟩:=BI ((if cL=1 then some (⟨gL,0,none⟩:Addr) else some ⟨gL,4,none⟩))
 try rw [y8]
 have HPA:=AB (show 0<sl.length->PA=some ⟨gL,4,none⟩ from fun h=>by rw [<- y8,AX AA]);have azH:w.heap.size<=gL:=by have:=Ce.1.size;have:=BU.size;simp at this;omega
 have UW:w.heap.size<=W6.heap.size:=Ew.1.size;clear hB BU Du y7 had hdv hsl y8 hpm hgm DX VY Qr X5 DI DJ DU IJ OJ QK kL1;by_cases h64:64<sl.length
 ·have H64:=AB (show 64<(Ci q).length by rw [<- UZ.1];exact h64);have avd:(64:Int)<(sl.length:Int):=AA
  have X6:=JM.1;clear h64;obtain ⟨FU,FV,FW,QZ,lG,lH,azI⟩:=X6.Az;go_wp2_with fail;refine Iz (g:=g2) (cs:=#[.slice none 0 0,.slice none 0 0,.slice none 0 0]) rfl Na rfl rfl (AO.LG JM.1) (.inl ⟨H64.1,rfl,?_⟩);exact bS (p:=⟨g2,2,none⟩) (bS (p:=⟨g2,1,none⟩) (bS (p:=⟨g2,0,none⟩) Ew.1 hgw _) hgw _) hgw _
 have H64:=AB (show ¬ 64<(Ci q).length by rw [<- UZ.1];exact h64);have avd:¬ (64:Int)<(sl.length:Int):=AA
 have azJ:sl.length<=64:=AA
 clear h64;have jF:=AB (show ∀ s∈sl,NV BZ s from fun s hs=>by
  have hm:s∈z::sl:=LM _ hs;obtain ⟨i,hi,hie⟩:=EF.1 hs;have h1:i+1<(z::sl).length:=by simpa using hi
  have ho:=YU.1.pU h1 AA;have hl:=YU.1.len;simp only [List.getElem_cons_succ] at ho;rw [hie] at ho;have hX:s.out∈Ci q:=by rw [ho];exact BO _
  have hc:=(Np.1 hX).1;exact ⟨Nr.1.out s hm,kN.2 (HV.1.WY hc),fun d hd=>HV.1.QC ((HV.1.Ic hc).2 d hd)⟩)
 have amn:=AB (show Calls prog 73 #[.slice PA sl.length (cL-1),.func (.func 74) #[] #[]] W6 fun e w'=>e=.returned (.tuple #[])/\∃ sl':List AD,sl'.Perm sl/\sl'.Pairwise (fun a b=>ltOf (fun x y:AD=>cmpK (Dp x.out) (Dp y.out)) b a=false)/\Own w' BZ.heap.size 106 4 F9 (.slice (some ⟨gL,0,none⟩) (sl.length+1) cL) (z::sl')/\W6.grownBy w' (some gL) from by
  rcases kL sl.length with h0 | h0
  ·have hs0:sl=[]:=agv h0;rw [h0];refine Calls.mono (AnyF.slices_SortFunc_none Tryz.sortAd PA (cL-1) (.func (.func 74) #[] #[]) W6) ?_;rintro e w' ⟨rfl,rfl⟩;have ho:=Nr.1.own;rw [hs0] at ho;exact ⟨rfl,[],by rw [hs0],List.Pairwise.nil,ho,World.grownBy.refl _ _⟩
  ·rw [HPA.1 h0];exact oG.1 BZ BZ.heap.size gL cL (cL-1) z sl W6 Nr.1.own h0 agc.1 (Cj _) jF.1 AA)
 go_wp2_with fail;refine amn.1.mono ?_;rintro e w7 ⟨rfl,sl',hp,hs,Dv,DN⟩;have hb7:=bG agc.1 DN (fun k hk=>by have:=DV hk;have:=(Nr.1.own.lt gL rfl).1;omega);have Gx:=AB (bG Ew.1 DN (fun k hk=>by have:=DV hk;omega));have hll:=hp.length_eq;obtain ⟨UJ,Il,abS⟩:=CG (UH.1.aw8 Nr.1.own DN) (AO.grown JM.1 DN (fun e=>Own.EX Nr.1.own JM.1 Aw e.symm)) (AO.grown agb.1 DN (fun e=>Own.EX Nr.1.own agb.1 Aw e.symm));have hord:sl'.map (·.out)=sortK (Ci q):=by
  refine HV.1.akg ?_ ?_
  ·have h1:=hp.map (·.out);refine h1.trans ?_;have h2:=YU.1.out;rw [Ey] at h2;injection h2 with _ h2;rw [h2]
  ·rw [IX];refine hs.imp (fun {a b} g=>?_);have g':ltOf (fun x y:AD=>cmpK (Dp x.out) (Dp y.out)) b a=false:=g;rw [abV (fun x:AD=>Dp x.out)] at g';exact g'
 obtain ⟨O,hO⟩:=BI (sortK (Ci q));rw [hO] at hord;have hdp:=YU.1.perm hp hord;have HD:=AB hdp;have hmem:∀ x∈z::sl',x∈z::sl:=fun x hx=>by
  rcases FI.1 hx with rfl | hx
  · exact JC
  · exact LM _ (hp.subset hx)
 obtain ⟨jL,oU,Jj⟩:=CG (show abR w7 BZ.heap.size (.slice (some ⟨gL,0,none⟩) (sl.length+1) cL) (z::sl') from ⟨Dv,fun x hx=>(Nr.1.out x (hmem x hx)).mono hb7,fun x hx=>Own.grown (Nr.1.inn x (hmem x hx)) DN (fun g hg=>Own.apart (Nr.1.inn x (hmem x hx)) Nr.1.own Aw g hg),fun x hx c hc=>(Nr.1.KT x (hmem x hx) c hc).mono hb7⟩) hO hll;have hol:O.length=sl.length:=by rw [<- hord,CV,hll]
 have Oz:=AB hol;clear hp hs Dv DN hb7 hll hord hO hdp hmem hol amn oG jF Ew JM agb UH Nr YU awH agc;go_upto_region 10 with fail;obtain ⟨gs,hgs⟩:=BI w7.heap.size;obtain ⟨W8,hW⟩:∃ W:World,W=w7.alloc (.map #[] 0):=⟨_,rfl⟩;have hA:AU w7 W8:=by rw [hW];exact bA (bR w7) _
 have aV:=AB (show Gw W8 gs 0 (Iq q O 0) by
  have:=Gw.made w7
  rw [hW,<- hgs];exact this)
 obtain ⟨Wi,TR,amo,Wj⟩:=DW (UJ.1.keep hA) (Il.1.keep hA) (abS.1.keep hA) (show w7.grownBy W8 (some g4) from gOf hA);rw [<- hW]
 try rw [hgs]
 have azK:w7.heap.size<=gs:=AA
 have amq:¬ gs=g4:=by have:=abS.1.lt;omega
 have ave:¬ gs=g2:=by have:=Il.1.lt;omega
 clear hW hA hgs hmm UJ;go_upto_block 0 with fail;go_wp2_with fail;go_loopw [42] (fun u wr=>∃ i:Nat,i<=sl.length/\u=.int .i64 i/\(∃ Af c,FP wr w.heap.size (.slice Gp q.nodes.length Gq) (.slice Oo q.AQ.length ca') (.slice Af i c) ⟨q.nodes,q.AQ,Nw i⟩ bl/\AO wr g4 34 #[.slice Gp q.nodes.length Gq,.slice Oo q.AQ.length ca',.slice Af i c]/\∀ k,(Value.slice Af i c).ownBlock=some k->w7.heap.size<=k)/\(∃ n,n<=300000*i/\Gw wr gs n (Iq q O i))/\AO wr g2 34 #[.slice none 0 0,.slice none 0 0,.slice none 0 0]/\w7.grownBy wr (some g4)) (fun u _=>sl.length-(intOf u).toNat)
 case atStart => exact ⟨0,BX _,rfl,⟨none,0,⟨Wi.1.P6,Wi.1.Ec,Wi.1.MK,Wi.1.eq,Own.nil _ _ _ _ _⟩,amo.1,fun k hk=>by cases hk⟩,⟨0,AA,aV.1⟩,TR.1,Wj.1⟩
 case round =>
  clear Wi TR amo Wj aV;obtain ⟨i,hi,rfl,⟨Af,cf,hpo,X4,hfg⟩,⟨nm,hnm,hmp⟩,X2,hg⟩:=hrel;have oz:=AB hfg;obtain ⟨wo,rfl⟩:=BR wr;obtain ⟨HP,DL,HM,DC,HG,HAq,HB⟩:=WI hpo X4 hmp X2 hg (jL.1.grown (a:=⟨Gp,q.nodes.length,Gq⟩) (b:=⟨Oo,q.AQ.length,ca'⟩) (c:=⟨none,0,0⟩) abS.1 hg) (bG Gx.1 hg (fun k hk=>by have:=DV hk;omega));have hzo:=hg.size;have hl4:=X4.lt;have aeH:=hmp.lt;clear hpo hmp hg hfg;by_cases hlt:i<sl.length
  ·have hi1:i+1<(z::sl').length:=by have:=Jj.1;simp only [JA];omega
   have y8:=HPA.1 AA;obtain ⟨hgl,-,e0,e1,e2,e3⟩:=Own.aw0 HAq.1.own hi1;have ac8:=HD.1.alW hi1;have hxm:(z::sl')[i+1]∈z::sl':=BO hi1;have hxf:∀ W,w7.grownBy W (some g4)->Ints W (BF (z::sl')[i+1].ov) (z::sl')[i+1].out/\Own W BZ.heap.size 32 1 J5 (BF (z::sl')[i+1].iv) (z::sl')[i+1].inn/\∀ c∈(z::sl')[i+1].inn,Ints W (BF c.2) c.1:=fun W hg=>by
    have h:=jL.1.grown (a:=⟨Gp,q.nodes.length,Gq⟩) (b:=⟨Oo,q.AQ.length,ca'⟩) (c:=⟨none,0,0⟩) abS.1 hg;exact ⟨h.out _ hxm,h.inn _ hxm,h.KT _ hxm⟩
   have hinl:(z::sl')[i+1].inn.length<=512:=by
    have h9:=congrArg List.length (HD.1.inn (i+1) hi1);rw [CV] at h9;rw [h9];refine EG (SC _ _) ?_;exact EG (SC _ _) HV.1.Yu
   generalize (z::sl')[i+1]=x at *;obtain ⟨tw,X,⟨oa,on,oc⟩,In,⟨ia,Ld,ic⟩,al',⟨aa,an,ac⟩⟩:=x;unfold BF at e1 e2 e3;simp only at e0 e1 e2 e3 hinl;rw [show (i+1)*4=4+i*4 by omega] at e0 e1 e2 e3;have QH:=AB ac8;have OZ:=AB hxf;have ki1:(i:Int)<sl.length:=AA
   have ki2:0<=(i:Int):=AA
   have hfl:=afG i;have aT:=AB (alA i);have hsh:(Nw i++[(i:Int)+1]).length=i+1:=by rw [Es,hfl];rfl
   have ED:=AB hsh;have abf:(Nw i).length<=64:=AA
   have n4:=Own.EX HP.1.KI DL.1 Aw;clear ac8 hxf hxm hfl hsh X2;go_upto_region 13 with fail;obtain ⟨W9,hW⟩:∃ W:World,W=wo.alloc (.cells #[.int .i64 tw,.slice oa on oc,.slice ia Ld ic,.slice aa an ac] 106):=⟨_,rfl⟩;have hA:AU wo W9:=by rw [hW];exact bA (bR wo) _
   obtain ⟨g9,JK⟩:=BI wo.heap.size;have X9:AO W9 g9 106 #[.int .i64 tw,.slice oa on oc,.slice ia Ld ic,.slice aa an ac]:=by rw [hW];exact AO.made JK.symm _ _
   obtain ⟨YV,agd,y9,agf,UK,agh⟩:=Jz (HP.1.keep hA) (DL.1.keep hA) (HM.1.keep hA) (DC.1.keep hA) (gB HG.1 hA) X9;have n94:¬ g9=g4:=AA
   rw [<- hW]
   try rw [JK]
   clear hW hA e0 e1 e2 e3 hgl X4 HP DL HM DC HG HB;have X4:=agd.1
   try clear Bg CO CU ES
   obtain ⟨Bg,CO,CU,ES,Eo,Gu,Jo⟩:=X4.Az;go_upto_region 14 with
    (at_builtin
     refine FK _ rfl (.tmp 48) (.tmp 51) _ rfl (base:=w.heap.size) Jk JV Jl rfl (Own.alloc YV.1.KI _) rfl (l2:=[(i:Int)+1]) (Sl.lit (n:=1) (AO.made rfl _ _) rfl (D7 AA)) Dl Dl (by have:=UK.1.size;have:=Gx.1.size;simp;omega) ?_;intro v10 w10 Vb JL jM;obtain ⟨Jf,c10,aX,-⟩:=Own.GU Vb;rw [ED.1] at aX;subst aX;have UL:=AO.grown (agd.1.alloc _) JL (fun e=>n4 e.symm);have yA:=(YV.1.keep (bA (bR W9) _)).face Vb JL;have Rn:=AB (yA.far UL Aw Aw Aw Aw 2 (.slice Jf (i+1) c10));have agi:=AB (UL.EH 2 (.slice Jf (i+1) c10));have amr:Gw w10 gs nm (Iq q O i):=(y9.1.keep (bA (bR W9) _)).kept JL (fun e=>by
      have:=afH YV.1.KI y9.1
      exact this e.symm)
     obtain ⟨agj,agk,agl,ac9,agm⟩:=I4 (amr.setCell (p:=⟨g4,2,none⟩) amq (.slice Jf (i+1) c10)) (AO.far (p:=⟨g4,2,none⟩) (AO.grown (agf.1.alloc _) JL (fun e=>Own.EX YV.1.KI agf.1 Aw e.symm)) amm (.slice Jf (i+1) c10)) (AO.far (p:=⟨g4,2,none⟩) (AO.grown (agh.1.alloc _) JL (fun e=>Own.EX YV.1.KI agh.1 Aw e.symm)) n94 (.slice Jf (i+1) c10)) (gS (jG (gA UK.1 _) JL (fun k hk=>oz.1 k hk)) 2 (.slice Jf (i+1) c10)) (show ∀ k,(Value.slice Jf (i+1) c10).ownBlock=some k->w7.heap.size<=k from jH jM oz.1 (by have:=UK.1.size;simp;omega));clear Vb jM JL amr yA X4 Bg CO CU ES Eo Gu Jo;have X4:=UL
     try clear Bg CO CU ES
     try clear Eo Gu Jo
     obtain ⟨Bg,CO,CU,ES,Eo,Gu,Jo⟩:=X4.Az
     )
   obtain ⟨acA,ams⟩:∃ W:World,W=w10.setCell ⟨g4,2,none⟩ (.slice Jf (i+1) c10):=⟨_,rfl⟩;rw [<- ams] at Rn agi agj agk agl ac9 ⊢;have amu:=AB (show AO acA g4 34 #[.slice Gp q.nodes.length Gq,.slice Oo q.AQ.length ca',.slice Jf (i+1) c10] by simpa using agi.1);obtain ⟨hx1,hx2,hx3⟩:=OZ.1 acA ac9.1;have RP:=akb ⟨tw,X,⟨oa,on,oc⟩,In,⟨ia,Ld,ic⟩,al',⟨aa,an,ac⟩⟩ acA hx2.sl (by show In.length<=100000;omega);have wE:(Qm ⟨tw,X,⟨oa,on,oc⟩,In,⟨ia,Ld,ic⟩,al',⟨aa,an,ac⟩⟩).length<=513:=by show In.length+1<=513;omega
   have hcr:∀ y∈Qm ⟨tw,X,⟨oa,on,oc⟩,In,⟨ia,Ld,ic⟩,al',⟨aa,an,ac⟩⟩,Ints acA (BF y.2) y.1:=fun y hy=>by
    rcases FI.1 hy with rfl | hy
    · exact hx1
    · exact hx3 y hy
   have hck:=QH.1;unfold BF at RP;simp only at RP;generalize Qm ⟨tw,X,⟨oa,on,oc⟩,In,⟨ia,Ld,ic⟩,al',⟨aa,an,ac⟩⟩=CY at *;obtain ⟨Zk,Rk,Fe⟩:=CG RP hcr hck;have X9:=agl.1;clear ams hx1 hx2 hx3 RP hcr hck QH X4 Bg CO CU ES Eo Gu Jo agi YV agd y9 agf UK agh OZ;obtain ⟨JU,Jg,JY,adU,adV,-⟩:=X9.sO;go_wp2_with fail;refine Zk.1.mono ?_;rintro e Df ⟨⟨A2,c2,rfl,ho2⟩,Tc⟩;obtain ⟨avf,amv,acB,avg,avh,Fq,avi⟩:=WI (Rn.1.keep Tc) (amu.1.keep Tc) (agj.1.keep Tc) (agk.1.keep Tc) (gB ac9.1 Tc) ho2 (show ∀ y∈CY,Ints Df (BF y.2) y.1 from fun y hy=>(Rk.1 y hy).mono Tc);have azL:=amv.1.lt;clear Tc ho2 X9 JU Jg JY adU adV Zk Rn amu agj agk agl ac9 Rk;go_upto_block 2 with fail;go_wp2_with fail;go_loopw [57] (fun u wr=>∃ j:Nat,j<=CY.length/\u=.int .i64 j/\(∃ n,n<=300000*i+513*j/\Gw wr gs n (GV (Iq q O i) ((i:Int)+1) ((CY.take j).map (·.1))))/\Df.grownBy wr (some gs)) (fun u _=>CY.length-(intOf u).toNat)
   case atStart => exact ⟨0,BX _,rfl,⟨nm,EG hnm (Nat.le_add_right _ _),by rw [OD,O9,alG];exact acB.1⟩,gR Df _⟩
   case round =>
    obtain ⟨j,hj,rfl,⟨n1,hn1,hmp⟩,hgj⟩:=hrel;obtain ⟨wq,rfl⟩:=BR wr;have HM:=AB hmp;have jO:=AB hgj;have hzq:=hgj.size;clear hmp hgj;by_cases hlj:j<CY.length
    ·obtain ⟨b2,o2,rfl,UD,c0⟩:=(Own.grown Fq.1 jO.1 (fun g hg e=>afH Fq.1 acB.1 (by rw [hg,e]))).row_of.cy hlj;have hin:=(avi.1 CY[j] (BO hlj)).alB acB.1 jO.1;have hcy:CY[j].1∈Je q O (i+1):=by rw [<- Fe.1];exact FZ (BO hlj)
     have hdd:∀ d∈CY[j].1,F6 d:=fun d hd=>by
      have:=HV.1.QC (HV.1.afB (fun X hX=>(dK (Ci q)).1.subset (by rw [oU.1];exact hX)) hcy hd)
      exact KC AA AA
     have hcl:CY[j].1.length<=512:=by
      have hc2:CY[j].1=[]\/CY[j].1∈Cb q:=by
       unfold Je Kr at hcy;rcases FI.1 hcy with e | hc
       ·rw [e];unfold Lj;split
        · exact .inl rfl
        · cases e9:O[i+1-1]? with
         | none=>exact .inl rfl
         | some Y=>exact .inr (Np.1 ((dK (Ci q)).1.subset (by rw [oU.1];exact kQ e9))).1
       · exact .inr (Xg.1 (QN.1 hc).1).1
      rcases hc2 with e | hc
      · rw [e];simp
      · exact EG (Vk (HV.1.Ic hc).1 (HV.1.Ic hc).2) HV.1.wQ
     have htk:(CY.take (j+1)).map (·.1)=(CY.take j).map (·.1)++[CY[j].1]:=by rw [Em hlj,FH];rfl
     generalize CY[j]=x at *;obtain ⟨C,xa,xn,xc⟩:=x;unfold BF at hin;simp only at hin c0 hdd hcl htk;have hin0:=hin;obtain ⟨Ax,cx,he,hx1,hx2,Sz⟩:=hin;injection he with y1 y2 y3;subst y1 y2 y3;unfold maxLen at hx2;obtain ⟨QU,wH,Ei⟩:=CG hin0 hdd htk;clear hin0 hdd htk hcy Sz;have HMe:=AB (alH (Iq q O i) ((i:Int)+1) ((CY.take j).map (·.1)));go_upto_block 4 with fail;clear c0 UD;go_wp2_with fail;go_loopw [63] (fun u wr=>∃ m:Nat,m<=C.length/\u=.int .i64 m/\(∃ n,n<=300000*i+513*j+m/\Gw wr gs n (GV (Iq q O i) ((i:Int)+1) ((CY.take j).map (·.1)++[C.take m])))/\wq.grownBy wr (some gs)) (fun u _=>C.length-(intOf u).toNat)
     case atStart => exact ⟨0,BX _,rfl,⟨n1,hn1,by rw [OD,HMe.1];exact HM.1⟩,gR wq _⟩
     case round =>
      obtain ⟨m,hm,rfl,⟨n2,hn2,amw⟩,hgm⟩:=hrel;have TY:=AB amw;have HGm:=AB hgm;clear amw hgm;by_cases hlm:m<C.length
      ·obtain ⟨Ax',cx',he',-,-,amx⟩:=QU.1.alB HM.1 HGm.1;injection he' with y1 y2 y3;subst y1;clear y2 y3;obtain ⟨b3,o3,rfl,YP,d0⟩:=(show Row _ _ (C.flatMap DY) from amx).int hlm;have hwf:=wH.1 C[m] (BO hlm);have hst:=amk (Iq q O i) ((i:Int)+1) ((CY.take j).map (·.1)) C hlm;generalize C[m]=d at *;obtain ⟨w6,hr6,Rj,FN⟩:=TY.1.upd (awE hn2 AA AA AA) d hwf ((i:Int)+1);rw [<- hst] at Rj;have RV:=AB Rj;have Va:=AB (gT HGm.1 FN);have ki8:=EL ((i:Int)+1);clear Rj FN hst amx;go_wp2;go_roundw
       case rel => exact ⟨m+1,AA,BG,⟨n2+1,Nat.succ_le_succ hn2,RV.1⟩,Va.1⟩
       case measure => exact BH
      ·obtain rfl:m=C.length:=AA
       have hmf:=TY.1;rw [I5,<- Ei.1] at hmf;have pF:=AB hmf;clear hmf;go_wp2;go_roundw
       case rel => exact ⟨j+1,AA,BG,⟨n2,awC hn2 hcl,pF.1⟩,gT jO.1 HGm.1⟩
       case measure => exact BH
    ·obtain rfl:j=CY.length:=AA
     have hmf:=HM.1;rw [I5,Fe.1,<- aml] at hmf;obtain ⟨pF,Lh,acC,pG,HGf⟩:=I4 hmf (avf.1.aw9 acB.1 jO.1) (AO.grown amv.1 jO.1 (fun e=>amq (DV e).symm)) (AO.grown avg.1 jO.1 (fun e=>ave (DV e).symm)) (jG avh.1 jO.1 (fun k hk=>by have:=DV hk;omega));clear hmf;go_wp2_with fail;rw [<- y8];go_roundw
     case rel => exact ⟨i+1,AA,BG,⟨Jf,c10,by rw [aT.1];exact Lh.1,acC.1,agm.1⟩,⟨n1,awD hn1 wE,pF.1⟩,pG.1,HGf.1⟩
     case measure => exact BH
  ·obtain rfl:i=sl.length:=AA
   have hbl:bl.length=q.AQ.length:=by rw [<- HP.1.eq,CV]
   obtain ⟨f,hf⟩:=BI (Iq q O sl.length);have HFe:=AB hf;rw [hf] at HM;have Vd:=AB hbl;have je:=AB HP.1.eq;have heq:(JF f bl 0).map (·.1)=q.AQ:=by rw [afI];exact HP.1.eq
   have jP:=AB (show FP wo w.heap.size (.slice Gp q.nodes.length Gq) (.slice Oo q.AQ.length ca') (.slice Af sl.length cf) ⟨q.nodes,(JF f bl 0).map (·.1),Nw sl.length⟩ (JF f bl 0) from by
    rw [heq,afI];exact HP.1)
   have Y8:=AB (fun a (ha:a∈q.AQ)=>HV.1.IQ ha);clear hf hbl heq HP X2 HAq HG jL
   try clear Bg CO CU ES
   try clear Eo Gu Jo
   obtain ⟨Bg,CO,CU,ES,-⟩:=X4.Az;go_upto_block 6 with fail;clear X4 Bg CO CU ES;go_wp2_with fail;go_loopw [77] (fun u wr=>∃ k:Nat,k<=q.AQ.length/\u=.int .i64 k/\FP wr w.heap.size (.slice Gp q.nodes.length Gq) (.slice Oo q.AQ.length ca') (.slice Af sl.length cf) ⟨q.nodes,(JF f bl k).map (·.1),Nw sl.length⟩ (JF f bl k)/\Gw wr gs nm f/\AO wr g4 34 #[.slice Gp q.nodes.length Gq,.slice Oo q.AQ.length ca',.slice Af sl.length cf]/\AO wr g2 34 #[.slice none 0 0,.slice none 0 0,.slice none 0 0]/\AU w wr) (fun u _=>q.AQ.length-(intOf u).toNat)
   case atStart => exact ⟨0,BX _,rfl,jP.1,HM.1,DL.1,DC.1,HB.1⟩
   case round =>
    clear jP HM DL DC HB;obtain ⟨k,hk,rfl,hpo,hmp,X4,X2,hb⟩:=hrel;obtain ⟨wq,rfl⟩:=BR wr;obtain ⟨HP,HM,DL,DC,HB⟩:=I4 hpo hmp X4 X2 hb;have aeH:=hmp.lt;have hl4:=X4.lt;have hqa:q.AQ.length<=256:=by
     have hl:=HV.1.lim;unfold KD at hl;simp at hl;omega
    clear hpo hmp hb;by_cases hlt:k<q.AQ.length
    ·have hkb:k<bl.length:=by rw [Vd.1];exact hlt
     have hkl:k<(JF f bl k).length:=by rw [alC];exact hkb
     have hat:=alE (f:=f) hkb hkl;have hset:=alF (f:=f) hkb;obtain ⟨gA,aY,hgA,azM,hfz,c0,c1,c2,c3,c4,c5⟩:=HP.1.Ec.xq hkl;have hmem:bl[k].1∈q.AQ:=by
      have:=HP.1.eq
      have h9:(JF f bl k)[k].1.id=bl[k].1.id:=by rw [hat]
      have h8:=je.1;rw [<- h8];exact FZ (BO hkb)
     have hid:=Y8.1 _ hmem;rw [hat] at c0 c1 c2 c3 c4 c5;generalize bl[k]=x at *;obtain ⟨⟨id,fr,dst,via,lf,rt⟩,⟨va,vn,vc⟩⟩:=x;simp only at c0 c1 c2 c3 c4 c5 hid hset;have HAt:=AB hat;have Sv:=AB hset;have acD:¬ gA=g4:=fun e=>Own.EX HP.1.Ec DL.1 Aw (by rw [aY,<- e];rfl);have amy:¬ gA=g2:=fun e=>Own.EX HP.1.Ec DC.1 Aw (by rw [aY,<- e];rfl);have an0:¬ gA=gs:=fun e=>afH HP.1.Ec HM.1 (by rw [aY,<- e];rfl);clear hat hset hmem X2 hfz;go_upto_region 27 with fail;obtain ⟨W5,hW⟩:∃ W:World,W=wq.alloc (.cells #[.int .i64 id,.int .i64 fr,.int .i64 dst,.slice va vn vc,.int .i64 lf,.int .i64 rt] 50):=⟨_,rfl⟩;have hA:AU wq W5:=by rw [hW];exact bA (bR wq) _
     obtain ⟨g15,an1⟩:=BI wq.heap.size;have adK:AO W5 g15 50 #[.int .i64 id,.int .i64 fr,.int .i64 dst,.slice va vn vc,.int .i64 lf,.int .i64 rt]:=by rw [hW];exact AO.made an1.symm _ _
     obtain ⟨Qr,Pn,VY,afr,Ce⟩:=I4 (HP.1.keep hA) (HM.1.keep hA) (DL.1.keep hA) (DC.1.keep hA) (bT HB.1 hA);have QA:=hA.size;have n15:¬ g15=gA:=AA
     rw [<- hW]
     try rw [an1]
     clear hW hA c0 c1 c2 c3 c4 c5 X4 HP HM DL DC HB;have X4:=VY.1;have avj:F6 id:=KC AA AA;have avk:F6 (-id):=KC AA AA;have azN:=(Pn.1.keep (bD (bR W5))).look id avj;have hlk2:=(Pn.1.keep (bD (bR W5))).look (-id) avk;have kng:=EL (-id);obtain ⟨gA',jQ,-,avl,G8,-,-,-,-,d4,d5⟩:=Qr.1.Ec.xq hkl;rw [aY] at jQ;injection jQ with jQ;injection jQ with jQ _ _;rw [<- jQ] at avl G8 d4 d5;have hf4:=G8 (k*6+4);have hf5:=G8 (k*6+5);have Wn:=Qr.1;rw [aY] at Wn;have hlr:=Wn.awF hkl (f id) (f (-id));rw [HAt.1] at hlr;have HLr:=AB (show FP ((W5.setCell ⟨gA,k*6+4,none⟩ (.int .i64 (f id))).setCell ⟨gA,k*6+5,none⟩ (.int .i64 (f (-id)))).drew w.heap.size (.slice Gp q.nodes.length Gq) (.slice Oo q.AQ.length ca') (.slice Af sl.length cf) ⟨q.nodes,(JF f bl (k+1)).map (·.1),Nw sl.length⟩ (JF f bl (k+1)) from by
      rw [aY];have h9:=Sv.1;unfold Ny at h9;simp only at h9;have pI:=hlr;simp only at pI;rw [h9] at pI;refine ⟨pI.P6,pI.Ec,pI.MK,rfl,pI.KI⟩)
     obtain ⟨pF,acC,pG,Fv⟩:=DW (show Gw ((W5.setCell ⟨gA,k*6+4,none⟩ (.int .i64 (f id))).setCell ⟨gA,k*6+5,none⟩ (.int .i64 (f (-id)))).drew gs nm f from ((Pn.1.setCell (p:=⟨gA,k*6+4,none⟩) (fun e=>an0 e.symm) _).setCell (p:=⟨gA,k*6+5,none⟩) (fun e=>an0 e.symm) _).keep (bD (bR _))) (((VY.1.far (p:=⟨gA,k*6+4,none⟩) (fun e=>acD e.symm) (.int .i64 (f id))).far (p:=⟨gA,k*6+5,none⟩) (fun e=>acD e.symm) (.int .i64 (f (-id)))).drew) (((afr.1.far (p:=⟨gA,k*6+4,none⟩) (fun e=>amy e.symm) (.int .i64 (f id))).far (p:=⟨gA,k*6+5,none⟩) (fun e=>amy e.symm) (.int .i64 (f (-id)))).drew) (bD (bS (p:=⟨gA,k*6+5,none⟩) (bS (p:=⟨gA,k*6+4,none⟩) Ce.1 hgA (.int .i64 (f id))) hgA (.int .i64 (f (-id)))));have m3:¬ g4=gA:=fun e=>acD e.symm;have m1:¬ some g4=some gA:=fun e=>acD (DV e).symm;have m2:¬ some g15=some gA:=fun e=>n15 (DV e);have kk1:(k:Int)<q.AQ.length:=AA
     have kk2:0<=(k:Int):=AA
     clear hlr Wn G8 Qr Pn jQ
     try clear Bg CO CU ES
     try clear Eo Gu Jo
     obtain ⟨Bg,CO,CU,ES,-⟩:=X4.Az;obtain ⟨aql,aqm,aqn,azO,azP,azQ,azR,-⟩:=adK.Iy;refine tH (W5) (some gA) (.run 9 0 0 (.run 4 10 511 (.two 9 16383 (.call 14 32767 (.take 15 65535 (.take 16 131071 (.call 17 262143 (.take 18 524287 (.take 19 1048575 (.call 20 2097151 (.done)))))))) 14 32255 (.call 9 32767 (.take 15 65535 (.take 16 131071 (.call 17 262143 (.take 18 524287 (.take 19 1048575 (.call 20 2097151 (.done))))))))))) fun CQ QR Ae Aj hS=>?_
     iterate 13 refine Ak ?_
     refine MQ (i:=9) (j:=14) (ET Ae rfl) (ET Ae rfl) (fun K hK=>?_) (fun K hK=>?_)
     ·have AP:=AB hS;clear hS;refine En (Eh rfl) ?_;go_simp;refine hK.out _ _ AP.out (fun hS=>?_);clear hK K AP
      try simp only [pu]
      refine BN ?_;clear hS;intro K hK AP;go_simp;refine hK.out _ _ AP.out (fun hS=>?_);clear hK K AP
      try simp only [pu]
      iterate 2 refine Ak ?_
      refine BN ?_;clear hS;intro K hK AP;go_simp;refine hK.out _ _ acP (fun hS=>?_);clear hK K AP
      try simp only [pu]
      iterate 2 refine Ak ?_
      refine BN ?_;clear hS;intro K hK AP;go_simp;refine hK.out _ _ acP (fun hS=>?_);clear hK K AP
      try simp only [pu]
      refine ku ?_;clear hS Aj Ae;intro hB;go_wp2_with fail;rw [<- aY];go_roundw
      case rel => exact ⟨_,_,_,⟨k+1,AA,BG,HLr.1,pF.1,acC.1,pG.1,Fv.1⟩,rfl,rfl,rfl⟩
      case measure => exact BH
     ·have AP:=AB hS;clear hS;refine En (Eh rfl) ?_;go_simp;refine hK.out _ _ AP.out (fun hS=>?_);clear hK K AP
      try simp only [pu]
      refine BN ?_;clear hS;intro K hK AP;go_simp;refine hK.out _ _ AP.out (fun hS=>?_);clear hK K AP
      try simp only [pu]
      iterate 2 refine Ak ?_
      refine BN ?_;clear hS;intro K hK AP;go_simp;refine hK.out _ _ acP (fun hS=>?_);clear hK K AP
      try simp only [pu]
      iterate 2 refine Ak ?_
      refine BN ?_;clear hS;intro K hK AP;go_simp;refine hK.out _ _ acP (fun hS=>?_);clear hK K AP
      try simp only [pu]
      refine ku ?_;clear hS Aj Ae;intro hB;go_wp2_with fail;rw [<- aY];go_roundw
      case rel => exact ⟨_,_,_,⟨k+1,AA,BG,HLr.1,pF.1,acC.1,pG.1,Fv.1⟩,rfl,rfl,rfl⟩
      case measure => exact BH
    ·obtain rfl:k=q.AQ.length:=AA
     try clear Bg CO CU ES
     try clear Eo Gu Jo
     obtain ⟨Bg,CO,CU,ES,-⟩:=X4.Az;obtain ⟨Bh,Bq,Bv,CS,Y9,ZY,iQ⟩:=X2.Az;go_wp2_with fail;have hab:JF f bl q.AQ.length=bl.map (fun x=>(Ny f x.1,x.2)):=by rw [<- Vd.1];exact alD f bl
     have hP:=HP.1;rw [hab] at hP;have hre:r=⟨q.nodes,(bl.map (fun x=>(Ny f x.1,x.2))).map (·.1),Nw sl.length⟩:=by
      rw [<- HRe.1];have e1:(Ci q).length=sl.length:=UZ.1.symm;have e2:(bl.map (fun x=>(Ny f x.1,x.2))).map (·.1)=q.AQ.map (aW q O):=by
       rw [<- je.1,IW,IW];refine kV fun x _=>?_;unfold aW;rw [Oz.1,HFe.1];rfl
      rw [e1,e2,<- oU.1,<- HQn.1];rfl
     have hrn:r.nodes.length=q.nodes.length:=by rw [hre]
     have hra:r.AQ.length=q.AQ.length:=by rw [hre];simp [Vd.1]
     have hrf:r.faces.length=sl.length:=by rw [hre];exact afG _
     have hgw:w.heap.size<=g2:=AA
     refine Iz (g:=g2) (cs:=#[.slice Gp q.nodes.length Gq,.slice Oo q.AQ.length ca',.slice Af sl.length cf]) rfl Na rfl rfl (AO.LG DC.1) (.inr ⟨H64.1,Gp,Gq,Oo,ca',Af,cf,bl.map (fun x=>(Ny f x.1,x.2)),?_,?_,?_⟩)
     · rw [hrn,hra,hrf];rfl
     · exact bS (p:=⟨g2,2,none⟩) (bS (p:=⟨g2,1,none⟩) (bS (p:=⟨g2,0,none⟩) HB.1 hgw _) hgw _) hgw _
     ·rw [hrn,hra,hrf,hre];have z0:=AO.EH DC.1 0 (.slice Gp q.nodes.length Gq);have z1:=AO.EH z0 1 (.slice Oo q.AQ.length ca');exact ((hP.far DC.1 Aw Aw Aw Aw 0 _).far z0 Aw Aw Aw Aw 1 _).far z1 Aw Aw Aw Aw 2 _
def UM:List Pt->Bool
 | []=>false
 | [_]=>false
 | a::b::l=>decide (b=a) || UM (b::l)
def GZ (L:List (List Pt)):Int :=
 if 256<L.length then 3 else if L.any (fun l=>decide (4096<l.length)) then 3 else if L.any (fun l=>decide (l.length<2)) then 1
 else if L.any (fun l=>l.any (fun p=>!GL p)) then 2 else if L.any UM then 1 else 0
def KJ (M:Pt->Bool):List Pt->List Pt->List (List Pt)
 | _,[]=>[]
 | cur,p::r=>if M p then (cur++[p])::KJ M [p] r else KJ M (cur++[p]) r
def L8 (M:Pt->Bool):List Pt->List (List Pt)
 | []=>[]
 | p::r=>KJ M [p] r
def Wp (L:List (List Pt)):List (List Pt):=L.flatMap (L8 (meets L))
def MP (L:List (List Pt)):List (List Pt):=WX (Wp L)
def Ig:List Pt->Pt->Int
 | [],_=>0
 | q::l,p=>if q=p then 1 else let n:=Ig l p;if n=0 then 0 else n+1
def Nz (at_:List Pt):List Nd:=(List.range at_.length).map fun i:Nat=>⟨(i:Int)+1,at_.getD i ⟨0,0⟩⟩
def Wq (at_:List Pt) (i:Nat) (q:List Pt):Ar:=⟨(i:Int)+1,Ig at_ (q.headD ⟨0,0⟩),Ig at_ (q.getLastD ⟨0,0⟩),q.tail.dropLast,0,0⟩
def OQ (at_:List Pt) (P:List (List Pt)):List Ar:=(List.range P.length).map fun i:Nat=>Wq at_ i (P.getD i [])
def yB (at_:List Pt) (P:List (List Pt)):Pl:=⟨Nz at_,OQ at_ P,[]⟩
def IK (L:List (List Pt)):Pl:=yB (KW L) (MP L)
def aZ (L:List (List Pt)):Bool:=decide (256<(KW L).length) || (decide (256<(MP L).length) || (MP L).any (fun q=>decide (66<q.length)))
def O1 (L:List (List Pt)):Int :=
 if GZ L≠0 then GZ L else if aZ L then 3 else if Gn (IK L)≠0 then 11 else Om (IK L)
def plE:Pl:=⟨[],[],[]⟩
def L9 (L:List (List Pt)):Pl:=if O1 L=0 then J6 (IK L) else plE
theorem an2 {α:Type} (l:List α) (x:α) (r:List α):(l++x::r).getLast? = (x::r).getLast? := by
 rw [List.getLast?_append]
 cases h:(x::r).getLast? with
 | none=>simp at h
 | some y=>rfl
section
variable {A C:List (List Pt)} {a b:List Pt} {p:Pt}
end
structure an3 (M:Pt->Bool) (h:Pt) (q:List Pt):Prop where
 ex:∃ x mid y,q=x::(mid++[y])/\M y=true/\(∀ z∈mid,M z=false)/\(x=h\/M x=true)
theorem agn (M:Pt->Bool) (h:Pt):∀ (r:List Pt) (x:Pt) (mid:List Pt),(∀ z∈mid,M z=false)->(x=h\/M x=true)->∀ q∈KJ M (x::mid) r,an3 M h q
 | [],_,_,_,_,q,hq=>by simp [KJ] at hq
 | p::r,x,mid,hm,hx,q,hq=>by
  unfold KJ at hq;split at hq
  ·rename_i hp;rcases FI.1 hq with rfl | hq
   · exact ⟨x,mid,p,rfl,hp,hm,hx⟩
   · exact agn M h r p [] (fun _ hz=>by cases hz) (.inr hp) q hq
  ·rename_i hp;refine agn M h r x (mid++[p]) (fun z hz=>?_) hx q hq;rcases GI.1 hz with hz | hz
   · exact hm z hz
   · rw [Eb.1 hz];simpa using hp
theorem acE (M:Pt->Bool):∀ (r cur:List Pt),∀ q∈KJ M cur r,q <:+: cur++r
 | [],_,q,hq=>by simp [KJ] at hq
 | p::r,cur,q,hq=>by
  unfold KJ at hq;have e:cur++p::r=(cur++[p])++r:=by simp
  split at hq
  ·rcases FI.1 hq with rfl | hq
   · rw [e];exact (List.prefix_append _ _).isInfix
   ·have h1:=acE M r [p] q hq;exact h1.trans (List.suffix_append cur (p::r)).isInfix
  · rw [e];exact acE M r (cur++[p]) q hq
structure UN (L:List (List Pt)):Prop where
 num:L.length<=256
 len:∀ l∈L,l.length<=4096
 two:∀ l∈L,2<=l.length
 pts:∀ l∈L,∀ p∈l,GL p=true
 dup:∀ l∈L,UM l=false
theorem Ve {L:List (List Pt)}:GZ L=0↔UN L:=by
 unfold GZ;constructor
 ·intro h;by_cases h1:256<L.length
  · rw [AZ h1] at h;cases h
  rw [AX h1] at h;by_cases h2:L.any (fun l=>decide (4096<l.length))=true
  · rw [AZ h2] at h;cases h
  rw [AX h2] at h;by_cases h3:L.any (fun l=>decide (l.length<2))=true
  · rw [AZ h3] at h;cases h
  rw [AX h3] at h;by_cases h4:L.any (fun l=>l.any (fun p=>!GL p))=true
  · rw [AZ h4] at h;cases h
  rw [AX h4] at h;by_cases h5:L.any UM=true
  · rw [AZ h5] at h;cases h
  simp only [IL,MB,Dq] at h2 h3 h4 h5;exact ⟨AA,fun l hl=>by have:=h2 l hl;omega,fun l hl=>by have:=h3 l hl;omega,fun l hl p hp=>by
   have:=h4 l hl p hp
   simpa using this,h5⟩
 ·intro h;rw [AX (by have:=h.num;omega),AX (by
   rw [IL,MB];intro l hl;have:=h.len l hl;simp;omega),AX (by
   rw [IL,MB];intro l hl;have:=h.two l hl;simp;omega),AX (by
   rw [IL,MB];intro l hl;rw [IL,MB];intro p hp;rw [h.pts l hl p hp];simp),AX (by
   rw [IL,MB];intro l hl;rw [h.dup l hl];simp)]
theorem an4 {l:List Pt} (h:2<=l.length):∃ x r,l=x::r/\r≠[]:=by
 match l,h with
 | x::y::r,_=>exact ⟨x,y::r,rfl,Ah⟩
section
variable {L:List (List Pt)} (hg:UN L)
include hg
theorem avm {l:List Pt} (hl:l∈L) {z:Pt} (hz:l.head? = some z\/l.getLast? = some z):meets L z=true:=by
 unfold meets;rw [Dq];have h1:(bump l).count z<=(bumps L).count z:=by
  unfold bumps;obtain ⟨A,C,rfl⟩:=List.append_of_mem hl;simp only [O7,N7,ZL];omega
 have h2:2<=(bump l).count z:=by
  have hm:z∈l:=by
   rcases hz with hz | hz
   · exact agz hz
   · exact ah0 hz
  have hc:0<l.count z:=ah1.2 hm;unfold bump;simp only [ZL];rcases hz with hz | hz
  · rw [hz];simp;omega
  · rw [hz];simp;omega
 omega
theorem agp {q:List Pt} (hq:q∈Wp L):∃ l∈L,∃ x r,l=x::r/\q∈KJ (meets L) [x] r/\an3 (meets L) x q/\q <:+: l/\meets L x=true:=by
 unfold Wp at hq;obtain ⟨l,hl,hq⟩:=Ii.1 hq;obtain ⟨x,r,rfl,hr⟩:=an4 (hg.two l hl);exact ⟨x::r,hl,x,r,rfl,hq,agn _ x r x [] (fun _ h=>by cases h) (.inl rfl) q hq,acE _ r [x] q hq,avm hg hl (.inl rfl)⟩
theorem avn {q:List Pt} (hq:q∈Wp L):∃ x mid y,q=x::(mid++[y])/\meets L x=true/\meets L y=true/\∀ z∈mid,meets L z=false:=by
 obtain ⟨l,-,h,r,-,-,hp,-,hh⟩:=agp hg hq;obtain ⟨x,mid,y,rfl,hy,hm,hx⟩:=hp.ex;exact ⟨x,mid,y,rfl,by rcases hx with rfl | hx<;>assumption,hy,hm⟩
end
def pJ (p:Pl):List (List Pt):=p.AQ.filterMap (fun a=>pathOf p a.id)
theorem an5 {at_:List Pt} {p:Pt} (h:p∈at_):∃ k,∃ hk:k<at_.length,Ig at_ p=(k:Int)+1/\at_[k]=p:=by
 induction at_ with
 | nil=>cases h
 | cons q l ih =>
  unfold Ig;by_cases e:q=p
  · exact ⟨0,Ah,by rw [AZ e];rfl,e⟩
  ·rw [AX e];obtain ⟨k,hk,h1,h2⟩:=ih ((FI.1 h).resolve_left fun h=>e h.symm);refine ⟨k+1,Uc,?_,by simpa using h2⟩;simp only [h1];rw [AX AA];omega
theorem an6 {l:List Pt} {k:Nat} (hk:k<l.length):Nz (l.take (k+1))=Nz (l.take k)++[⟨(k:Int)+1,l[k]⟩]:=by
 have h1:(l.take (k+1)).length=k+1:=by rw [GH];omega
 have h2:(l.take k).length=k:=by rw [GH];omega
 unfold Nz;rw [h1,h2,XY,FH];congr 1
 ·refine kV fun i hi=>?_;have hi:=FQ.1 hi;simp only [Gm,List.getElem?_take];rw [AZ AA,AZ hi]
 ·simp only [Ey,O9,Gm,List.getElem?_take];rw [AZ AA,Di hk];rfl
theorem an7 (at_:List Pt) {P:List (List Pt)} {k:Nat} (hk:k<P.length):OQ at_ (P.take (k+1))=OQ at_ (P.take k)++[Wq at_ k P[k]]:=by
 have h1:(P.take (k+1)).length=k+1:=by rw [GH];omega
 have h2:(P.take k).length=k:=by rw [GH];omega
 unfold OQ;rw [h1,h2,XY,FH];congr 1
 ·refine kV fun i hi=>?_;have hi:=FQ.1 hi;simp only [Gm,List.getElem?_take];rw [AZ AA,AZ hi]
 ·simp only [Ey,O9,Gm,List.getElem?_take];rw [AZ AA,Di hk];rfl
structure agq (at_:List Pt) (q:List Pt):Prop where
 ex:∃ x mid y,q=x::(mid++[y])/\x∈at_/\y∈at_
theorem an8 {L:List (List Pt)} (hg:UN L) {q:List Pt} (hq:q∈MP L):agq (KW L) q:=by
 obtain ⟨x,mid,y,e,hx,hy,-⟩:=avn hg ((mM _).mem_iff.1 hq);exact ⟨x,mid,y,e,pO.2 hx,pO.2 hy⟩
def QI (L:List (List Pt)) (p:Pt):Bool:=L.any (fun l=>decide (l.head? = some p) || decide (l.getLast? = some p)) || decide (2<=L.flatten.count p)
theorem avo (L:List (List Pt)) (p:Pt) (h2:∀ l∈L,l≠[]):L.flatten.count p<=(bumps L).count p/\(L.any (fun l=>decide (l.head? = some p) || decide (l.getLast? = some p))=true->2<=(bumps L).count p)/\(L.any (fun l=>decide (l.head? = some p) || decide (l.getLast? = some p))=false->(bumps L).count p=L.flatten.count p):=by
 induction L with
 | nil=>exact ⟨Cj _,fun h=>by simp at h,fun _=>rfl⟩
 | cons l L ih =>
  obtain ⟨i1,i2,i3⟩:=ih fun l hl=>h2 l (LM _ hl);have e:(bumps (l::L)).count p=(bump l).count p+(bumps L).count p:=by
   unfold bumps;rw [N7,ZL]
  have eb:(bump l).count p=l.count p+l.head?.toList.count p+l.getLast?.toList.count p:=by
   unfold bump;rw [ZL,ZL]
  rw [e,eb,List.flatten_cons,ZL,qY];refine ⟨AA,fun h=>?_,fun h=>?_⟩
  ·simp only [Ir,Dq] at h;rcases h with h | h
   ·have hm:p∈l:=by
     rcases h with h | h
     · exact agz h
     · exact ah0 h
    have hc:0<l.count p:=ah1.2 hm;rcases h with h | h
    ·have:l.head?.toList.count p=1:=by rw [h];simp
     omega
    ·have:l.getLast?.toList.count p=1:=by rw [h];simp
     omega
   ·have:=i2 (by simpa using h)
    omega
  ·simp only [OC,JH] at h;have c1:l.head?.toList.count p=0:=yZ.2 fun h'=>h.1.1 (by simpa using h');have c2:l.getLast?.toList.count p=0:=yZ.2 fun h'=>h.1.2 (by simpa using h');have:=i3 h.2
   omega
theorem amK {L:List (List Pt)} (h2:∀ l∈L,l≠[]) (p:Pt):QI L p=meets L p:=by
 obtain ⟨i1,i2,i3⟩:=avo L p h2;unfold QI meets
 cases h:L.any (fun l=>decide (l.head? = some p) || decide (l.getLast? = some p))
 · rw [yL,i3 h]
 · rw [Bool.true_or,JB (i2 h)]
def LC (p:Pt):List Pt->List Pt
 | []=>[p]
 | y::l=>if BP y p then y::LC p l else if y=p then y::l else p::y::l
theorem agr (p:Pt) {z:Pt}:∀ l:List Pt,z∈LC p l↔z=p\/z∈l
 | []=>by simp [LC]
 | y::l=>by
  unfold LC;split
  ·rw [FI,agr p l,FI];constructor
   · rintro (h | h | h)<;>simp [h]
   · rintro (h | h | h)<;>simp [h]
  ·split
   ·rename_i e;subst e;rw [FI];constructor
    · exact fun h=>.inr h
    ·rintro (h | h)
     · exact .inl h
     · exact h
   · rw [FI]
theorem amL (p:Pt):∀ l:List Pt,l.Pairwise (fun a b=>BP a b=true)->(LC p l).Pairwise (fun a b=>BP a b=true)
 | [],_=>dh _ _
 | y::l,h=>by
  obtain ⟨h1,h2⟩:=P8.1 h;unfold LC;split
  ·rename_i hy;refine P8.2 ⟨fun z hz=>?_,amL p l h2⟩;rcases (agr p l).1 hz with rfl | hz
   · exact hy
   · exact h1 z hz
  ·rename_i hy;split
   · exact h
   ·rename_i hne;have hpy:BP p y=true:=by
     cases e:BP p y
     · exact absurd (Wv (by simpa using hy) e) hne
     · rfl
    refine P8.2 ⟨fun z hz=>?_,h⟩;rcases FI.1 hz with rfl | hz
    · exact hpy
    · exact afv hpy (h1 z hz)
def O4 (S:Pt->Bool) (o l:List Pt):List Pt:=l.foldl (fun o p=>if S p then LC p o else o) o
theorem amM (S:Pt->Bool):∀ (l o:List Pt),o.Pairwise (fun a b=>BP a b=true)->(O4 S o l).Pairwise (fun a b=>BP a b=true)/\∀ z,z∈O4 S o l↔z∈o\/(z∈l/\S z=true)
 | [],o,h=>⟨h,fun z=>by simp [O4]⟩
 | p::l,o,h=>by
  have e:O4 S o (p::l)=O4 S (if S p then LC p o else o) l:=rfl;have hs:(if S p then LC p o else o).Pairwise (fun a b=>BP a b=true):=by
   split
   · exact amL p o h
   · exact h
  obtain ⟨i1,i2⟩:=amM S l _ hs;refine ⟨by rw [e];exact i1,fun z=>?_⟩;rw [e,i2 z,FI]
  cases hp:S p
  ·simp only [QL,if_false];constructor
   ·rintro (h | ⟨h,h'⟩)
    · exact .inl h
    · exact .inr ⟨.inr h,h'⟩
   ·rintro (h | ⟨h | h,h'⟩)
    · exact .inl h
    · subst h;rw [hp] at h';cases h'
    · exact .inr ⟨h,h'⟩
  ·simp only [if_true,agr];constructor
   ·rintro ((h | h) | ⟨h,h'⟩)
    · subst h;exact .inr ⟨.inl rfl,hp⟩
    · exact .inl h
    · exact .inr ⟨.inr h,h'⟩
   ·rintro (h | ⟨h | h,h'⟩)
    · exact .inl (.inr h)
    · exact .inl (.inl h)
    · exact .inr ⟨h,h'⟩
def ah (L:List (List Pt)):List Pt:=O4 (QI L) [] L.flatten
theorem avp {L:List (List Pt)} (h2:∀ l∈L,l≠[]):ah L=KW L:=by
 obtain ⟨h1,h3⟩:=amM (QI L) L.flatten [] List.Pairwise.nil;refine akG ?_ (fun p=>?_) ?_
 ·unfold List.Nodup ah;exact h1.imp fun {a b} h e=>by subst e;rw [U4] at h;cases h
 ·unfold ah;rw [h3 p,amK h2];constructor
  ·rintro (h | ⟨-,h⟩)
   · cases h
   · exact h
  · exact fun h=>.inr ⟨iO h,h⟩
 · exact h1.imp fun h=>abW h
theorem ags:∀ {l:List Pt},UM l=true↔∃ i,∃ h:i+1<l.length,l[i+1]=l[i]
 | []=>by simp [UM]
 | [_]=>by simp [UM]
 | a::b::l=>by
  rw [UM,Ir,Dq,ags];constructor
  ·rintro (h | ⟨i,h,e⟩)
   · exact ⟨0,Ah,h⟩
   · exact ⟨i+1,Nat.succ_lt_succ h,e⟩
  ·rintro ⟨i,h,e⟩
   cases i with
   | zero=>exact .inl e
   | succ i=>exact .inr ⟨i,Nat.lt_of_succ_lt_succ h,e⟩
section
variable {α:Type} {f:α->List Pt} {xs:List α}
theorem amN (h:256<xs.length):GZ (xs.map f)=3:=by
 unfold GZ;rw [CV,AZ h]
theorem pK {q:List Pt->Bool} {k:Nat} (hk:k<xs.length) (h:q (f xs[k])=true):(xs.map f).any q=true :=
 OA.2 ⟨_,FZ (BO hk),h⟩
theorem Vf {q:List Pt->Bool} (h:∀ k (hk:k<xs.length),q (f xs[k])=false):(xs.map f).any q=false:=by
 rw [MB];intro l hl;obtain ⟨x,hx,rfl⟩:=Ez.1 hl;obtain ⟨k,hk,rfl⟩:=EF.1 hx;rw [h k hk];simp
theorem amO (h1:¬ 256<xs.length) {k:Nat} (hk:k<xs.length) (h:4096<(f xs[k]).length):GZ (xs.map f)=3:=by
 unfold GZ;rw [CV,AX h1,AZ (pK (q:=fun l=>decide (4096<l.length)) hk (JB h))]
theorem amP (h1:¬ 256<xs.length) (h2:∀ k (hk:k<xs.length),¬ 4096<(f xs[k]).length) {k:Nat} (hk:k<xs.length) (h:(f xs[k]).length<2):GZ (xs.map f)=1:=by
 unfold GZ;rw [CV,AX h1,Vf (q:=fun l=>decide (4096<l.length)) (fun k hk=>Fg (h2 k hk)),AX Ah,AZ (pK (q:=fun l=>decide (l.length<2)) hk (JB h))]
theorem amQ (h1:¬ 256<xs.length) (h2:∀ k (hk:k<xs.length),¬ 4096<(f xs[k]).length) (h3:∀ k (hk:k<xs.length),¬ (f xs[k]).length<2) {k:Nat} (hk:k<xs.length) {i:Nat} (hi:i<(f xs[k]).length) (h:GL (f xs[k])[i]=false):GZ (xs.map f)=2:=by
 unfold GZ;rw [CV,AX h1,Vf (q:=fun l=>decide (4096<l.length)) (fun k hk=>Fg (h2 k hk)),AX Ah,Vf (q:=fun l=>decide (l.length<2)) (fun k hk=>Fg (h3 k hk)),AX Ah,
  AZ (pK (q:=fun l=>l.any (fun p=>!GL p)) hk (OA.2 ⟨_,BO hi,by rw [h];rfl⟩))]
theorem amR (h1:¬ 256<xs.length) (h2:∀ k (hk:k<xs.length),¬ 4096<(f xs[k]).length) (h3:∀ k (hk:k<xs.length),¬ (f xs[k]).length<2) (h4:∀ k (hk:k<xs.length) i (hi:i<(f xs[k]).length),GL (f xs[k])[i]=true)
  {k:Nat} (hk:k<xs.length) {i:Nat} (hi:i+1<(f xs[k]).length) (h:(f xs[k])[i+1]=(f xs[k])[i]):GZ (xs.map f)=1:=by
 unfold GZ;have e4:(xs.map f).any (fun l=>l.any (fun p=>!GL p))=false:=Vf (q:=fun l=>l.any (fun p=>!GL p)) (fun k hk=>by
  rw [MB];intro p hp;obtain ⟨i,hi,rfl⟩:=EF.1 hp;rw [h4 k hk i hi];simp)
 rw [CV,AX h1,Vf (q:=fun l=>decide (4096<l.length)) (fun k hk=>Fg (h2 k hk)),AX Ah,Vf (q:=fun l=>decide (l.length<2)) (fun k hk=>Fg (h3 k hk)),AX Ah,e4,AX Ah,
  AZ (pK (q:=UM) hk (ags.2 ⟨i,hi,h⟩))]
theorem amS (h1:¬ 256<xs.length) (h2:∀ k (hk:k<xs.length),¬ 4096<(f xs[k]).length) (h3:∀ k (hk:k<xs.length),¬ (f xs[k]).length<2) (h4:∀ k (hk:k<xs.length) i (hi:i<(f xs[k]).length),GL (f xs[k])[i]=true)
  (h5:∀ k (hk:k<xs.length) i (hi:i+1<(f xs[k]).length),¬ (f xs[k])[i+1]=(f xs[k])[i]):GZ (xs.map f)=0:=by
 unfold GZ;have e4:(xs.map f).any (fun l=>l.any (fun p=>!GL p))=false:=Vf (q:=fun l=>l.any (fun p=>!GL p)) (fun k hk=>by
  rw [MB];intro p hp;obtain ⟨i,hi,rfl⟩:=EF.1 hp;rw [h4 k hk i hi];simp)
 have e5:(xs.map f).any UM=false:=Vf (q:=UM) (fun k hk=>by
  cases h:UM (f xs[k])
  · rfl
  ·obtain ⟨i,hi,e⟩:=ags.1 h;exact absurd e (h5 k hk i hi))
 rw [CV,AX h1,Vf (q:=fun l=>decide (4096<l.length)) (fun k hk=>Fg (h2 k hk)),AX Ah,Vf (q:=fun l=>decide (l.length<2)) (fun k hk=>Fg (h3 k hk)),AX Ah,e4,AX Ah,e5,AX Ah]
end
