import Derived.Test.YtialfdomhoojiaaGreatQJ27
set_option linter.unusedSimpArgs false
set_option linter.unusedVariables false
set_option maxRecDepth 100000
set_option maxHeartbeats 8000000
namespace Go.Proofs.YtialfdomhoojiaaGreat
open Go.RowKit Go.Sort
def Ij (p:Pl) (O:List (List Int)):Nat->Int->Int
 | 0,_=>0
 | n+1,d=>if (J7 p O (n+1)).any (fun c=>decide (d∈c))=true then (n:Int)+1 else Ij p O n d
def ZF (p:Pl) (O:List (List Int)) (a:Ar):Ar:=⟨a.id,a.fr,a.dst,a.via,Ij p O O.length a.id,Ij p O O.length (-a.id)⟩
def H6 (p:Pl):Pl:=⟨p.nodes,(Bq p).AP.map (ZF (Bq p) (sortK (BP (Bq p)))),(List.range (BP (Bq p)).length).map fun i:Nat=>((i:Int)+1)⟩
def MG (p:Pl):Int:=if IG (Bq p)≠0 then IG (Bq p) else if 64<(BP (Bq p)).length then 3 else 0
def aCw:Value:=.agg #[.slice none 0 0,.slice none 0 0,.slice none 0 0]
def al6 (w:World) (p:Pl) (e:Ending) (w':World):Prop :=
 ∃ An cn Aa ca Af cf bl,e=.returned (.tuple #[.agg #[.slice An p.nodes.length cn,.slice Aa p.AP.length ca,.slice Af p.faces.length cf],.int .i64 0])/\AU w w'/\GH w' w.heap.size (.slice An p.nodes.length cn) (.slice Aa p.AP.length ca) (.slice Af p.faces.length cf) p bl
structure Mod (p:Pl):Prop where
 nodes:p.nodes.length<=100000
 AP:p.AP.length<=100000
 Kw:∀ a∈p.AP,a.via.length<=100000
theorem avA (v:Value) (p:Pl) (w:World) (h:Ci w v p) (hm:Mod p) (hz:IG (Bq p)≠0):Calls Tryz.prog 21 #[v] w fun e w'=>e=.returned (.tuple #[aCw,.int .i64 (IG (Bq p))])/\AU w w':=by
 have XB:=AA (fun W (hW:AU w W)=>ak5 v p W (h.mono hW) hm.nodes hm.AP hm.Kw);have GV:=AA (fun u W (hu:Ci W u (Bq p))=>akz u (Bq p) W hu hz);obtain ⟨_,_,_,al,rfl,hpa,⟨An,cn,rfl,-⟩,⟨⟨Aa,ca,rfl,-⟩,-⟩,⟨Af,cf,rfl,-⟩⟩:=h;generalize IG (Bq p)=z at *;generalize Bq p=q at *;have hb:(z != 0)=true:=by simpa using hz
 clear hm hz hpa;generalize p.nodes.length=nn at *;generalize al.length=na at *;generalize p.faces.length=nf at *;go_enter Tryz.func21,Tryz.ntmps21;go_upto_region 1 with fail;obtain ⟨g2,hg2⟩:=BN (w.heap.size+1);obtain ⟨W1,hW⟩:∃ W:World,W=(w.alloc (.cells #[.slice An nn cn,.slice Aa na ca,.slice Af nf cf] 26)).alloc (.cells #[.slice none 0 0,.slice none 0 0,.slice none 0 0] 26):=⟨_,rfl⟩;have X1:AO W1 w.heap.size 26 #[.slice An nn cn,.slice Aa na ca,.slice Af nf cf]:=by rw [hW];exact (AO.made rfl _ _).alloc _
 have X2:AO W1 g2 26 #[.slice none 0 0,.slice none 0 0,.slice none 0 0]:=by rw [hW];exact AO.made (by rw [<- hg2];simp) _ _
 have HB1:=AA (show AU w W1 by rw [hW];exact bA (bA (bR w) _) _);rw [<- hW]
 try rw [hg2]
 have CG:=AA X2;have hgw:w.heap.size<=g2:=by omega
 clear hW hg2;obtain ⟨BF,BG,BH,BI,-,-,-⟩:=X1.Az;go_wp2_with fail;refine (XB.out _ HB1.out).mono ?_;rintro e w2 ⟨Gs,Gt,P6,ca',bl,rfl,hb2,hpo⟩;have HB2:=AA (bT HB1.out hb2);have Ej:=AA (CG.out.keep hb2);have HP:=AA hpo.dV;clear hb2 hpo XB X1 BF BG BH BI X2;have X3:=Ej.out;go_upto_region 2 with fail;obtain ⟨W3,hW⟩:∃ W:World,W=w2.alloc (.cells #[.slice Gs q.nodes.length Gt,.slice P6 q.AP.length ca',.slice none 0 0] 26):=⟨_,rfl⟩;have hA:AU w2 W3:=by rw [hW];exact bA (bR w2) _
 obtain ⟨g4,hg4⟩:=BN w2.heap.size;have X4:AO W3 g4 26 #[.slice Gs q.nodes.length Gt,.slice P6 q.AP.length ca',.slice none 0 0]:=by rw [hW];exact AO.made hg4.symm _ _
 have HB3:=AA (bT HB2.out hA);have D8:=AA (Ej.out.keep hA);have UM:=AA (HP.out.mono hA);rw [<- hW]
 try rw [hg4]
 clear hW hA hg4 HB2 Ej HP X3;obtain ⟨BZ,Bl,CQ,EU,-,-,-⟩:=X4.Az;go_wp2_with fail;refine (GV.out _ _ UM.out).mono ?_;rintro e w5 ⟨Ac,cc,CL,rfl,hb5,-,-⟩;have Cm:=AA (bT HB3.out hb5);have DI:=AA (D8.out.keep hb5);have X5:=DI.out;clear hb5 GV X4 BZ Bl CQ EU HB3 D8 UM;obtain ⟨CJ,CO,CS,F8,Vg,Vh,azb⟩:=X5.Az;go_wp2_with fail;refine L9 (g:=g2) (cs:=#[.slice none 0 0,.slice none 0 0,.slice none 0 0]) rfl aC rfl rfl (AO.VY DI.out) ⟨rfl,?_⟩;exact bS (p:=⟨g2,2,none⟩) (bS (p:=⟨g2,1,none⟩) (bS (p:=⟨g2,0,none⟩) Cm.out hgw _) hgw _) hgw _
theorem Gz.perm {p:Pl} {z:AD} {sl sl':List AD} {O O' R:List (List Int)} {N:List Nd} (h:Gz p (z::sl) O R N) (hp:sl'.Perm sl) (ho:sl'.map (·.out)=O'):Gz p (z::sl') O' R N:=by
 have key:∀ x∈sl,x.inn.map (·.1)=R.filter (fun c=>decide (Ie p (RG p c)=some x.out))/\x.DC=(N.filter (fun n=>decide (Na p.AP n.id=0/\Ie p n.pt=some x.out))).map (·.id):=by
  intro x hx;obtain ⟨i,hi,rfl⟩:=EF.1 hx;have h1:i+1<(z::sl).length:=by simpa using hi
  have hl:=h.len;have e:KO O (i+1)=some sl[i].out:=by
   rw [Tn AB (by simp only [IU] at hl;omega)];have:=h.kU h1 AB
   simp only [List.getElem_cons_succ,gu] at this ⊢;rw [this]
  have a:=h.inn (i+1) h1;have b:=h.DC (i+1) h1;rw [e] at a b;exact ⟨a,b⟩
 have hout:(z::sl').map (·.out)=[]::O':=by
  have h0:=h.out;rw [FM] at h0 ⊢;injection h0 with h0 _;rw [h0,ho]
 have hlen:sl'.length=O'.length:=by rw [<- ho,Cj]
 have hk:∀ i (hi:i<sl'.length),KO O' (i+1)=some sl'[i].out:=fun i hi=>by
  rw [Tn AB AB];subst ho;simp
 refine ⟨hout,fun i hi=>?_,fun i hi=>?_⟩
 · match i,hi with
  | 0,_=>exact h.inn 0 Ak
  | i+1,hi =>
   have hi':i<sl'.length:=by simpa using hi
   rw [hk i hi'];exact (key _ (hp.subset (BO hi'))).1
 · match i,hi with
  | 0,_=>exact h.DC 0 Ak
  | i+1,hi =>
   have hi':i<sl'.length:=by simpa using hi
   rw [hk i hi'];exact (key _ (hp.subset (BO hi'))).2
theorem GH.avC {w w':World} {B B':Nat} {vn va vf v:Value} {p:Pl} {bl:List (Ar×SV)} {L:List AD} (h:GH w B vn va vf p bl) (ho:Own w B' 82 4 E8 v L) (hg:w.grownBy w' v.ownBlock):GH w' B vn va vf p bl :=
 ⟨Own.grown h.Ov hg (Own.apart h.Ov ho Aw),Own.grown h.FU hg (Own.apart h.FU ho Aw),fun x hx=>Own.grown (h.Kw x hx) hg (Own.apart (h.Kw x hx) ho Aw),h.eq,Own.grown h.KC hg (Own.apart h.KC ho Aw)⟩
theorem GH.avD {w w':World} {B gm n:Nat} {f:Int->Int} {vn va vf:Value} {p:Pl} {bl:List (Ar×SV)} (h:GH w B vn va vf p bl) (hm:Gy w gm n f) (hg:w.grownBy w' (some gm)):GH w' B vn va vf p bl:=by
 have ne:∀ {α:Type} {e:TypeId} {size:Nat} {fe:α->List Value} {v:Value} {l:List α},Own w B e size fe v l->∀ g,v.ownBlock=some g->some g≠some gm:=fun ho g hg e=>by
  rcases ho.2 with ⟨rfl,_⟩ | ⟨g',cap,cur,rfl,_,hh,_⟩
  · simp [Value.ownBlock] at hg
  ·have:g'=gm:=by
    have h1:g'=g:=by simpa [Value.ownBlock] using hg
    have h2:=Dq e;omega
   exact xB hm (cs:=cur) (g:=g') hh this
 exact ⟨Own.grown h.Ov hg (ne h.Ov),Own.grown h.FU hg (ne h.FU),fun x hx=>Own.grown (h.Kw x hx) hg (ne (h.Kw x hx)),h.eq,Own.grown h.KC hg (ne h.KC)⟩
theorem Ints.al7 {w w':World} {v:Value} {l:List Int} (h:Ints w v l) {g:Nat} {t:TypeId} {cs:Array Value} (hb:AO w g t cs) (hc:∀ (j:Nat) (n:Int),cs[j]? ≠ some (.int .i64 n)) (hg:w.grownBy w' (some g)):Ints w' v l:=by
 obtain ⟨A,c,rfl,h1,h2,h3⟩:=h;refine ⟨A,c,rfl,h1,h2,fun hne=>?_⟩;obtain ⟨b,o,rfl,hlt,hcell⟩:=h3 hne;have hl:0<l.length:=by
  cases l with
  | nil=>exact absurd rfl hne
  | cons a l=>simp
 have h0:(l.flatMap DR)[0]? = some (.int .i64 l[0]):=by
  cases l with
  | nil=>cases hl
  | cons a l=>rfl
 have hcl:=hcell 0 _ h0;have hbg:b≠g:=fun e=>by
  subst e;rw [hb.cell] at hcl;exact hc _ _ hcl
 exact ⟨b,o,rfl,LW hlt hg.size,fun j u hu=>by
  have:=hg.block b hlt (fun e=>hbg (Dq e))
  rw [<- hcell j u hu];simp only [World.cell?,this]⟩
structure aCx (w:World) (B:Nat) (v:Value) (L:List AD):Prop where
 own:Own w B 82 4 E8 v L
 out:∀ x∈L,Ints w (BK x.ov) x.out
 inn:∀ x∈L,Own w B 24 1 Ia (BK x.iv) x.inn
 Ja:∀ x∈L,∀ c∈x.inn,Ints w (BK c.2) c.1
theorem al8 (a b c:SV) (j:Nat) (n:Int):(#[BK a,BK b,BK c] : Array Value)[j]? ≠ some (.int .i64 n):=by
 match j with
 | 0=>intro e;cases e
 | 1=>intro e;cases e
 | 2=>intro e;cases e
 | j+3=>intro e;simp at e
theorem aCx.grown {w w':World} {B:Nat} {v:Value} {L:List AD} (h:aCx w B v L) {g:Nat} {a b c:SV} (hb:AO w g 26 #[BK a,BK b,BK c]) (hg:w.grownBy w' (some g)):aCx w' B v L:=by
 have ne:∀ {α:Type} {e:TypeId} {size:Nat} {fe:α->List Value} {v:Value} {l:List α},Own w B e size fe v l->e≠26->∀ q,v.ownBlock=some q->some q≠some g:=fun ho hne q hq e=>by
  have:=Own.Dz ho hb hne
  exact this (by rw [hq,e])
 exact ⟨Own.grown h.own hg (ne h.own Aw),fun x hx=>(h.out x hx).al7 hb (al8 a b c) hg,fun x hx=>Own.grown (h.inn x hx) hg (ne (h.inn x hx) Aw),fun x hx d hd=>(h.Ja x hx d hd).al7 hb (al8 a b c) hg⟩
def Nu (n:Nat):List Int:=(List.range n).map fun i:Nat=>((i:Int)+1)
theorem afD (n:Nat):(Nu n).length=n:=by unfold Nu;simp
theorem al9 (n:Nat):Nu (n+1)=Nu n++[(n:Int)+1]:=by unfold Nu;rw [Zr,GI];rfl
theorem afE {w:World} {gm n:Nat} {f:Int->Int} {base:Nat} {e:TypeId} {size:Nat} {α:Type} {fe:α->List Value} {v:Value} {l:List α} (ho:Own w base e size fe v l) (h:Gy w gm n f):v.ownBlock≠some gm:=by
 rcases ho.2 with ⟨rfl,_⟩ | ⟨g,cap,cur,rfl,_,hh,_⟩
 · simp [Value.ownBlock]
 ·intro e';exact xB h (cs:=cur) (g:=g) hh sZ
theorem Gy.setCell {w:World} {gm n:Nat} {f:Int->Int} (h:Gy w gm n f) {p:Addr} (hp:¬ gm=p.block) (u:Value):Gy (w.setCell p u) gm n f :=
 h.kept (row:=some p.block) ⟨rfl,rfl,rfl,Ak,fun i hi hne=>Below.heap_setCell w p u i (fun e=>hne Rt)⟩ (fun e=>hp (Dq e))
theorem Gy.obj {w:World} {gm n:Nat} {f:Int->Int} (h:Gy w gm n f) (j:Nat):w.cell? ⟨gm,j,none⟩=none:=by
 obtain ⟨D,h1,-⟩:=h;obtain ⟨es,clock,h2,-⟩:=h1;simp only [World.cell?,h2]
theorem Ints.alA {w w':World} {v:Value} {l:List Int} (h:Ints w v l) {gm n:Nat} {f:Int->Int} (hm:Gy w gm n f) (hg:w.grownBy w' (some gm)):Ints w' v l:=by
 obtain ⟨A,c,rfl,h1,h2,h3⟩:=h;refine ⟨A,c,rfl,h1,h2,fun hne=>?_⟩;obtain ⟨b,o,rfl,hlt,hcell⟩:=h3 hne;have hl:0<l.length:=by
  cases l with
  | nil=>exact absurd rfl hne
  | cons a l=>simp
 have h0:(l.flatMap DR)[0]? = some (.int .i64 l[0]):=by
  cases l with
  | nil=>cases hl
  | cons a l=>rfl
 have hcl:=hcell 0 _ h0;have hbg:b≠gm:=fun e=>by
  subst e;rw [hm.obj] at hcl
  cases hcl
 exact ⟨b,o,rfl,LW hlt hg.size,fun j u hu=>by
  have:=hg.block b hlt (fun e=>hbg (Dq e))
  rw [<- hcell j u hu];simp only [World.cell?,this]⟩
theorem avE {n i j m:Nat} (h:n<=300000*i+513*j+m) (hm:m<=512):n<=300000*i+513*(j+1):=by omega
theorem avF {n i c:Nat} (h:n<=300000*i+513*c) (hc:c<=513):n<=300000*(i+1):=by omega
theorem auR {n i j m:Nat} (h:n<=300000*i+513*j+m) (hi:i<=64) (hj:j<=513) (hm:m<=512):n<4294967296:=by omega
def Nv (f:Int->Int) (a:Ar):Ar:=⟨a.id,a.fr,a.dst,a.via,f a.id,f (-a.id)⟩
def J8 (f:Int->Int) (bl:List (Ar×SV)) (k:Nat):List (Ar×SV):=(bl.take k).map (fun x=>(Nv f x.1,x.2))++bl.drop k
theorem alB (f:Int->Int) (bl:List (Ar×SV)) (k:Nat):(J8 f bl k).length=bl.length:=by unfold J8;simp;omega
theorem afF (f:Int->Int) (bl:List (Ar×SV)):J8 f bl 0=bl:=by unfold J8;simp
theorem alC (f:Int->Int) (bl:List (Ar×SV)):J8 f bl bl.length=bl.map (fun x=>(Nv f x.1,x.2)):=by unfold J8;simp
theorem alD {f:Int->Int} {bl:List (Ar×SV)} {k:Nat} (hk:k<bl.length) (h:k<(J8 f bl k).length):(J8 f bl k)[k]=bl[k]:=by
 have e:(J8 f bl k)[k]? = bl[k]? := by
  unfold J8;rw [List.getElem?_append_right (by rw [Cj,Iw];omega),List.getElem?_drop];simp only [Cj,Iw];congr 1;omega
 rw [Dh h,Dh hk] at e;exact Dq e
theorem alE {f:Int->Int} {bl:List (Ar×SV)} {k:Nat} (hk:k<bl.length):(J8 f bl k).set k (Nv f bl[k].1,bl[k].2)=J8 f bl (k+1):=by
 unfold J8;have hl:((bl.take k).map (fun x=>(Nv f x.1,x.2))).length=k:=by rw [Cj,Iw];omega
 rw [ab2 _ _ AB,hl,ab3,F7 hk,GI,KW,Ql hk,abT];rfl
theorem Own.aA2 {w:World} {B n c:Nat} {A:Option Addr} {L:List (Ar×SV)} (h:Own w B 50 6 Ju (.slice A n c) L) {k:Nat} (hk:k<L.length):∃ g,A=some ⟨g,0,none⟩/\B<=g/\g<w.heap.size/\(∀ j,w.frozen? ⟨g,j,none⟩=false) /\
  w.cell? ⟨g,k*6,none⟩=some (.int .i64 L[k].1.id)/\w.cell? ⟨g,k*6+1,none⟩=some (.int .i64 L[k].1.fr)/\w.cell? ⟨g,k*6+2,none⟩=some (.int .i64 L[k].1.dst)/\w.cell? ⟨g,k*6+3,none⟩=some (.slice L[k].2.a L[k].2.n L[k].2.c)/\w.cell? ⟨g,k*6+4,none⟩=some (.int .i64 L[k].1.left)/\w.cell? ⟨g,k*6+5,none⟩=some (.int .i64 L[k].1.right):=by
 have hr:=h.row_of;rcases h.2 with ⟨hv,h0⟩ | ⟨g,cap,cur,hv,hg,hh,-⟩
 · omega
 ·injection hv with e1 e2 e3;subst e1;obtain ⟨b,o,Eo,-,c0,c1,c2,c3,c4,c5⟩:=Row.aBp hr hk;injection Eo with Eo;injection Eo with y1 y2 _;subst y1 y2;rw [Qm] at c0 c1 c2 c3 c4 c5;exact ⟨g,rfl,hg,AO.lt hh,fun j=>AO.frozen hh j,c0,c1,c2,c3,c4,c5⟩
theorem GH.auS {w:World} {B g n c:Nat} {vn vf:Value} {p:Pl} {bl:List (Ar×SV)} (h:GH w B vn (.slice (some ⟨g,0,none⟩) n c) vf p bl) {i:Nat} (hi:i<bl.length) (l r:Int) :
  GH ((w.setCell ⟨g,i*6+4,none⟩ (.int .i64 l)).setCell ⟨g,i*6+5,none⟩ (.int .i64 r)) B vn (.slice (some ⟨g,0,none⟩) n c) vf ⟨p.nodes,p.AP.set i ⟨bl[i].1.id,bl[i].1.fr,bl[i].1.dst,bl[i].1.via,l,r⟩,p.faces⟩ (bl.set i (⟨bl[i].1.id,bl[i].1.fr,bl[i].1.dst,bl[i].1.via,l,r⟩,bl[i].2)):=by
 have far:∀ {α:Type} {e:TypeId} {size:Nat} {fe:α->List Value} {v:Value} {m:List α},Own w B e size fe v m->e≠50->Own ((w.setCell ⟨g,i*6+4,none⟩ (.int .i64 l)).setCell ⟨g,i*6+5,none⟩ (.int .i64 r)) B e size fe v m:=fun ho hne=>by
  have hn:∀ q,_->some q≠_:=Own.apart ho h.FU hne;exact Own.far (Own.far ho (fun e8=>hn g e8 rfl) _) (fun e8=>hn g e8 rfl) _
 have h1:=Own.bn bg h.FU hi (j:=4) AB (⟨bl[i].1.id,bl[i].1.fr,bl[i].1.dst,bl[i].1.via,l,bl[i].1.right⟩,bl[i].2) (.int .i64 l) rfl;have hi2:i<(bl.set i ((⟨bl[i].1.id,bl[i].1.fr,bl[i].1.dst,bl[i].1.via,l,bl[i].1.right⟩:Ar),bl[i].2)).length:=by rw [OD];exact hi
 have h2:=Own.bn bg h1 hi2 (j:=5) AB (⟨bl[i].1.id,bl[i].1.fr,bl[i].1.dst,bl[i].1.via,l,r⟩,bl[i].2) (.int .i64 r) (by rw [List.getElem_set_self];rfl);rw [List.set_set] at h2;refine ⟨far h.Ov Aw,h2,fun x hx=>?_,?_,far h.KC Aw⟩
 ·rcases V7 hx with ⟨rfl,_⟩ | ⟨j,hj,_,rfl⟩
  · exact far (show Own w B 39 2 Ee (BK bl[i].2) bl[i].1.via from h.Kw _ (BO hi)) Aw
  · exact far (h.Kw _ (BO hj)) Aw
 · rw [List.map_set,h.eq]
theorem GH.face {w w1:World} {B:Nat} {vn va vf vf':Value} {p:Pl} {bl:List (Ar×SV)} {n:Int} (h:GH w B vn va vf p bl) (ho:Own w1 B 3 1 DR vf' (p.faces++[n])) (hg:w.grownBy w1 vf.ownBlock) :
  GH w1 B vn va vf' ⟨p.nodes,p.AP,p.faces++[n]⟩ bl :=
 ⟨Own.grown h.Ov hg (Own.apart h.Ov h.KC Aw),Own.grown h.FU hg (Own.apart h.FU h.KC Aw),fun y hy=>Own.grown (h.Kw y hy) hg (Own.apart (h.Kw y hy) h.KC Aw),h.eq,ho⟩
def GX (f:Int->Int) (v:Int) (cs:List (List Int)) (d:Int):Int:=if cs.any (fun c=>decide (d∈c))=true then v else f d
theorem alF (f:Int->Int) (v:Int):GX f v []=f:=by funext d;rfl
theorem alG (f:Int->Int) (v:Int) (cs:List (List Int)):GX f v (cs++[[]])=GX f v cs:=by funext d;unfold GX;simp
theorem alH (f:Int->Int) (v:Int) (cs:List (List Int)) (c:List Int) {m:Nat} (hm:m<c.length):GX f v (cs++[c.take (m+1)])=fun i=>if i=c[m] then v else GX f v (cs++[c.take m]) i:=by
 funext d
 unfold GX;rw [F7 hm];simp only [aAN,aAM,List.any_nil,Bool.or_false,FX,EP,KD,EO];by_cases e:d=c[m]
 · rw [AZ e,AZ (.inr (.inr e))]
 ·rw [AX e];by_cases e2:(cs.any fun c=>decide (d∈c))=true\/d∈c.take m
  · rw [AZ (by rcases e2 with g | g;exact .inl g;exact .inr (.inl g)),AZ e2]
  · rw [AX (by rintro (g | g | g);exact e2 (.inl g);exact e2 (.inr g);exact e g),AX e2]
theorem alI (p:Pl) (O:List (List Int)) (n:Nat):Ij p O (n+1)=GX (Ij p O n) ((n:Int)+1) (J7 p O (n+1)):=rfl
theorem alJ (v:Value) (p:Pl) (w:World) (h:Ci w v p) (hm:Mod p) (hz:IG (Bq p)=0):Calls Tryz.prog 21 #[v] w fun e w'=>(64<(BP (Bq p)).length/\e=.returned (.tuple #[aCw,.int .i64 3])/\AU w w')\/(¬ 64<(BP (Bq p)).length/\al6 w (H6 p) e w'):=by
 have hv:=(Yi _).1 hz;have XB:=AA (fun W (hW:AU w W)=>ak5 v p W (h.mono hW) hm.nodes hm.AP hm.Kw);have GV:=AA (fun u W (hu:Ci W u (Bq p))=>ajo u (Bq p) W hu hv);have Vx:=AA (fun u W (hu:Ci W u (Bq p))=>ajQ u (Bq p) W hu hv);have Qi:=AA (fun u vc CL gm f W (hu:Ci W u (Bq p)) hc hcl hpm=>(ajl u vc (Bq p) CL gm f W hu hv hc hcl hpm).mono (R':=fun e w'=>∃ gL cL z sl,e=.returned (.slice (some ⟨gL,0,none⟩) (sl.length+1) cL)/\(1:Int)<=(sl.length:Int)+1/\W.heap.size<=gL/\AU W w'/\GY 82 W w' W.heap.size (.slice (some ⟨gL,0,none⟩) (sl.length+1) cL) (z::sl)/\Gz (Bq p) (z::sl) (BP (Bq p)) (Js (Bq p)) (Bq p).nodes/\sl.length+1<=cL) (by
  rintro e w' ⟨A,c,L,rfl,hb,had,hdv,-⟩;have hl:=hdv.len;obtain ⟨g,hg,hg0,-,-,-⟩:=Own.P5 had.own AB;subst hg
  cases L with
  | nil=>simp at hl
  | cons z sl =>
   obtain ⟨A',c',he',h1,-,-⟩:=had.own.sl;injection he' with y1 y2 y3;subst y3;exact ⟨g,c,z,sl,rfl,AB,hg0,hb,had,hdv,h1⟩))
 have HV:=AA hv;have PY:=AA (@asi);have hmm:=@run_makeMap Tryz.prog;obtain ⟨_,_,_,al,rfl,hpa,⟨An,cn,rfl,-⟩,⟨⟨Aa,ca,rfl,-⟩,-⟩,⟨Af,cf,rfl,-⟩⟩:=h;obtain ⟨q,hq⟩:=BN (Bq p);obtain ⟨r,hr⟩:=BN (H6 p);have hr2:=hr;unfold H6 at hr2;rw [hq] at hr2;have HRe:=AA hr2;rw [hr];rw [hq] at XB GV Vx Qi HV ⊢;have pU:p.nodes=q.nodes:=by rw [<- hq];rfl
 have ZG:=AA pU;have aA3:q.faces=[]:=by rw [<- hq];rfl
 have HQf:=AA aA3;clear hm hz hpa hv hr hr2 hq pU aA3;generalize p.nodes.length=nn at *;generalize al.length=na at *;generalize p.faces.length=nf at *;go_enter Tryz.func21,Tryz.ntmps21;go_upto_region 1 with fail;obtain ⟨g2,hg2⟩:=BN (w.heap.size+1);obtain ⟨W1,hW⟩:∃ W:World,W=(w.alloc (.cells #[.slice An nn cn,.slice Aa na ca,.slice Af nf cf] 26)).alloc (.cells #[.slice none 0 0,.slice none 0 0,.slice none 0 0] 26):=⟨_,rfl⟩;have X1:AO W1 w.heap.size 26 #[.slice An nn cn,.slice Aa na ca,.slice Af nf cf]:=by rw [hW];exact (AO.made rfl _ _).alloc _
 have X2:AO W1 g2 26 #[.slice none 0 0,.slice none 0 0,.slice none 0 0]:=by rw [hW];exact AO.made (by rw [<- hg2];simp) _ _
 have HB1:=AA (show AU w W1 by rw [hW];exact bA (bA (bR w) _) _);rw [<- hW]
 try rw [hg2]
 have CG:=AA X2;have hgw:w.heap.size<=g2:=by omega
 clear hW hg2;obtain ⟨BF,BG,BH,BI,-,-,-⟩:=X1.Az;go_wp2_with fail;refine (XB.out _ HB1.out).mono ?_;rintro e w2 ⟨Gs,Gt,P6,ca',bl,rfl,hb2,hpo⟩;have HB2:=AA (bT HB1.out hb2);have Ej:=AA (CG.out.keep hb2);have hz1:=HB1.out.size;have HP:=AA (show GH w2 w.heap.size (.slice Gs q.nodes.length Gt) (.slice P6 q.AP.length ca') (.slice none 0 0) q bl from ⟨hpo.Ov.ES hz1,hpo.FU.ES hz1,fun x hx=>(hpo.Kw x hx).ES hz1,hpo.eq,hpo.KC.ES hz1⟩);clear hb2 hpo XB X1 BF BG BH BI X2 CG HB1 hz1;go_upto_region 2 with fail;obtain ⟨W3,hW⟩:∃ W:World,W=w2.alloc (.cells #[.slice Gs q.nodes.length Gt,.slice P6 q.AP.length ca',.slice none 0 0] 26):=⟨_,rfl⟩;have hA:AU w2 W3:=by rw [hW];exact bA (bR w2) _
 obtain ⟨g4,hg4⟩:=BN w2.heap.size;have X4:AO W3 g4 26 #[.slice Gs q.nodes.length Gt,.slice P6 q.AP.length ca',.slice none 0 0]:=by rw [hW];exact AO.made hg4.symm _ _
 have HB3:=AA (bT HB2.out hA);have D8:=AA (Ej.out.keep hA);have UM:=AA (HP.out.keep hA);have yX:=AA X4;have azc:w.heap.size<=g4:=by have:=HB2.out.size;omega
 have alK:¬ g2=g4:=by have:=Ej.out.lt;omega
 rw [<- hW]
 try rw [hg4]
 clear hW hA hg4 HB2 Ej HP;obtain ⟨BZ,Bl,CQ,EU,-,-,-⟩:=X4.Az;go_wp2_with fail;refine (GV.out _ _ UM.out.dV).mono ?_;rintro e w5 ⟨Ac,cc,CL,rfl,hb5,hcl,hco⟩;have Cm:=AA (bT HB3.out hb5);have DI:=AA (D8.out.keep hb5);have WM:=AA (yX.out.keep hb5);have U8:=AA (UM.out.keep hb5);have hle:(Ce q).length=CL.length:=by rw [<- hcl,Cj]
 have hcr:=hco.read;rw [hle] at hcr ⊢;have OW:=AA hcl;have SX:=AA hcr;have Qd:=AA hco;have X5:=WM.out;clear hb5 GV X4 BZ Bl CQ EU HB3 D8 UM hcl hcr hco hle yX;obtain ⟨CJ,CO,CS,F8,-,-,-⟩:=X5.Az;go_upto_region 5 with fail;refine DJ (w5) (.run 3 0 0 (.call 3 15 (.call 4 31 (.take 5 63 (.take 6 127 (.done)))))) fun CU QR Ae Ah hS=>?_
 iterate 3 refine Aj ?_
 refine Bj ?_;clear hS;intro K hK AQ;go_simp;refine (Vx.out _ _ ((U8.out.keep AQ.out).dV)).mono ?_;rintro e CX ⟨gm,f,rfl,CV,hgm,hpm⟩;have hS:Since w5 CX:=bT (w:=w5) AQ.out CV;clear AQ;refine hK.out _ _ hS (fun _=>?_);clear hK K
 try simp only [pu]
 refine Bj ?_;clear hS;intro K hK AQ;go_simp;refine (Qi.out _ _ CL gm f _ ((U8.out.keep AQ.out).dV) (SX.out.mono AQ.out) OW.out hpm).mono ?_;rintro e wr2 ⟨gL,cL,z,sl,rfl,kL1,hgL,Fp,had,hdv,azd⟩;have hS:Since w5 wr2:=bT (w:=w5) AQ.out Fp;clear AQ;refine hK.out _ _ hS (fun _=>?_);clear hK K
 try simp only [pu]
 iterate 2 refine Aj ?_
 refine DF ?_;clear hS Ah Ae;intro hB;skip;obtain ⟨W6,hW6⟩:∃ W:World,W=wr2:=⟨_,rfl⟩;rw [<- hW6] at had hB Fp ⊢;have GU:=AA (bT Cm.out hB);have IX:=AA (DI.out.keep hB);have afG:=AA (WM.out.keep hB);have yY:=AA (U8.out.keep hB);have hsl:sl.length=(BP q).length:=by have:=hdv.len;simp only [IU] at this;omega
 have Ll:=AA had;have ZH:=AA hdv;have Po:=AA hsl;have auT:=AA CV;have afH:=AA Fp;obtain ⟨PA,yZ⟩:=BN ((if cL=1 then some (⟨gL,0,none⟩:Addr) else some ⟨gL,4,none⟩))
 try rw [yZ]
 have HPA:=AA (show 0<sl.length->PA=some ⟨gL,4,none⟩ from fun h=>by rw [<- yZ,AX AB]);have aze:w.heap.size<=gL:=by have:=Cm.out.size;have:=CV.size;simp at this;omega
 have oK:w.heap.size<=W6.heap.size:=GU.out.size;clear hB CV Fp hW6 had hdv hsl yZ hpm hgm DI WM U8 X5 CJ CO CS F8 Vx Qi kL1;by_cases h64:64<sl.length
 ·have H64:=AA (show 64<(BP q).length by rw [<- Po.out];exact h64);have auU:(64:Int)<(sl.length:Int):=by omega
  have X6:=IX.out;clear h64;obtain ⟨EK,EL,EM,ML,Xw,Xd,auV⟩:=X6.Az;go_wp2_with fail;refine L9 (g:=g2) (cs:=#[.slice none 0 0,.slice none 0 0,.slice none 0 0]) rfl aC rfl rfl (AO.VY IX.out) (.inl ⟨H64.out,rfl,?_⟩);exact bS (p:=⟨g2,2,none⟩) (bS (p:=⟨g2,1,none⟩) (bS (p:=⟨g2,0,none⟩) GU.out hgw _) hgw _) hgw _
 have H64:=AA (show ¬ 64<(BP q).length by rw [<- Po.out];exact h64);have auU:¬ (64:Int)<(sl.length:Int):=by omega
 have azf:sl.length<=64:=by omega
 clear h64;have kJ:=AA (show ∀ s∈sl,NS CX s from fun s hs=>by
  have hm:s∈z::sl:=I7 _ hs;obtain ⟨i,hi,hie⟩:=EF.1 hs;have h1:i+1<(z::sl).length:=by simpa using hi
  have ho:=ZH.out.kU h1 AB;have hl:=ZH.out.len;simp only [List.getElem_cons_succ] at ho;rw [hie] at ho;have hX:s.out∈BP q:=by rw [ho];exact BO _
  have hc:=(Ku.1 hX).1;exact ⟨Ll.out.out s hm,iD.2 (HV.out.Xc hc),fun d hd=>HV.out.Qh ((HV.out.Gq hc).2 d hd)⟩)
 have alL:=AA (show Calls Tryz.prog 60 #[.slice PA sl.length (cL-1),.func (.func 61) #[] #[]] W6 fun e w'=>e=.returned (.tuple #[])/\∃ sl':List AD,sl'.Perm sl/\sl'.Pairwise (fun a b=>ltOf (fun x y:AD=>cmpK (Dp x.out) (Dp y.out)) b a=false)/\Own w' CX.heap.size 82 4 E8 (.slice (some ⟨gL,0,none⟩) (sl.length+1) cL) (z::sl')/\W6.grownBy w' (some gL) from by
  rcases YG sl.length with h0 | h0
  ·have hs0:sl=[]:=lu h0;rw [h0];refine Calls.mono (AnyF.slices_SortFunc_none Tryz.sortAd PA (cL-1) (.func (.func 61) #[] #[]) W6) ?_;rintro e w' ⟨rfl,rfl⟩;have ho:=Ll.out.own;rw [hs0] at ho;exact ⟨rfl,[],by rw [hs0],List.Pairwise.nil,ho,World.grownBy.refl _ _⟩
  ·rw [HPA.out h0];exact PY.out CX CX.heap.size gL cL (cL-1) z sl W6 Ll.out.own h0 afH.out (Dc _) kJ.out AB)
 go_wp2_with fail;refine alL.out.mono ?_;rintro e w7 ⟨rfl,sl',hp,hs,Ox,G9⟩;have hb7:=bG afH.out G9 (fun k hk=>by have:=Dq hk;have:=(Ll.out.own.lt gL rfl).1;omega);have MW:=AA (bG GU.out G9 (fun k hk=>by have:=Dq hk;omega));have hll:=hp.length_eq;have VE:=AA (yY.out.avC Ll.out.own G9);have Ip:=AA (AO.grown IX.out G9 (fun e=>Own.Dz Ll.out.own IX.out Aw e.symm));have aCy:=AA (AO.grown afG.out G9 (fun e=>Own.Dz Ll.out.own afG.out Aw e.symm));have hord:sl'.map (·.out)=sortK (BP q):=by
  refine HV.out.akB ?_ ?_
  ·have h1:=hp.map (·.out);refine h1.trans ?_;have h2:=ZH.out.out;rw [FM] at h2;injection h2 with _ h2;rw [h2]
  ·rw [I5];refine hs.imp (fun {a b} g=>?_);have g':ltOf (fun x y:AD=>cmpK (Dp x.out) (Dp y.out)) b a=false:=g;rw [aBt (fun x:AD=>Dp x.out)] at g';exact g'
 obtain ⟨O,hO⟩:=BN (sortK (BP q));rw [hO] at hord;have hdp:=ZH.out.perm hp hord;have HD:=AA hdp;have hmem:∀ x∈z::sl',x∈z::sl:=fun x hx=>by
  rcases EW.1 hx with rfl | hx
  · exact Eu
  · exact I7 _ (hp.subset hx)
 have HA7:=AA (show aCx w7 CX.heap.size (.slice (some ⟨gL,0,none⟩) (sl.length+1) cL) (z::sl') from ⟨Ox,fun x hx=>(Ll.out.out x (hmem x hx)).mono hb7,fun x hx=>Own.grown (Ll.out.inn x (hmem x hx)) G9 (fun g hg=>Own.apart (Ll.out.inn x (hmem x hx)) Ll.out.own Aw g hg),fun x hx c hc=>(Ll.out.Ja x (hmem x hx) c hc).mono hb7⟩);have rD:=AA hO;have JQ:=AA hll;have hol:O.length=sl.length:=by rw [<- hord,Cj,hll]
 have WA:=AA hol;clear hp hs Ox G9 hb7 hll hord hO hdp hmem hol alL PY kJ GU IX afG yY Ll ZH auT afH;go_upto_region 10 with fail;obtain ⟨gs,hgs⟩:=BN w7.heap.size;obtain ⟨W8,hW⟩:∃ W:World,W=w7.alloc (.map #[] 0):=⟨_,rfl⟩;have hA:AU w7 W8:=by rw [hW];exact bA (bR w7) _
 have aad:=AA (show Gy W8 gs 0 (Ij q O 0) by
  have:=Gy.made w7
  rw [hW,<- hgs];exact this)
 have yg:=AA (VE.out.keep hA);have UO:=AA (Ip.out.keep hA);have alM:=AA (aCy.out.keep hA);have Y3:=AA (show w7.grownBy W8 (some g4) from gOf hA);rw [<- hW]
 try rw [hgs]
 have azg:w7.heap.size<=gs:=by omega
 have alN:¬ gs=g4:=by have:=aCy.out.lt;omega
 have auW:¬ gs=g2:=by have:=Ip.out.lt;omega
 clear hW hA hgs hmm VE;go_upto_block 0 with fail;go_wp2_with fail;go_loopw [42] (fun u wr=>∃ i:Nat,i<=sl.length/\u=.int .i64 i/\(∃ Af c,GH wr w.heap.size (.slice Gs q.nodes.length Gt) (.slice P6 q.AP.length ca') (.slice Af i c) ⟨q.nodes,q.AP,Nu i⟩ bl/\AO wr g4 26 #[.slice Gs q.nodes.length Gt,.slice P6 q.AP.length ca',.slice Af i c]/\∀ k,(Value.slice Af i c).ownBlock=some k->w7.heap.size<=k)/\(∃ n,n<=300000*i/\Gy wr gs n (Ij q O i))/\AO wr g2 26 #[.slice none 0 0,.slice none 0 0,.slice none 0 0]/\w7.grownBy wr (some g4)) (fun u _=>sl.length-(intOf u).toNat)
 case atStart => exact ⟨0,Bv _,rfl,⟨none,0,⟨yg.out.Ov,yg.out.FU,yg.out.Kw,yg.out.eq,Own.nil _ _ _ _ _⟩,alM.out,fun k hk=>by cases hk⟩,⟨0,AB,aad.out⟩,UO.out,Y3.out⟩
 case round =>
  clear yg UO alM Y3 aad;obtain ⟨i,hi,rfl,⟨Af,cf,hpo,X4,hfg⟩,⟨nm,hnm,hmp⟩,X2,hg⟩:=hrel;have pV:=AA hfg;obtain ⟨wo,rfl⟩:=BR wr;have HP:=AA hpo;have D8:=AA X4;have HM:=AA hmp;have CG:=AA X2;have HG:=AA hg;have HAq:=AA (HA7.out.grown (a:=⟨Gs,q.nodes.length,Gt⟩) (b:=⟨P6,q.AP.length,ca'⟩) (c:=⟨none,0,0⟩) aCy.out hg);have HB:=AA (bG MW.out hg (fun k hk=>by have:=Dq hk;omega));have aCl:=hg.size;have hl4:=X4.lt;have aeG:=hmp.lt;clear hpo hmp hg hfg;by_cases hlt:i<sl.length
  ·have hi1:i+1<(z::sl').length:=by have:=JQ.out;simp only [IU];omega
   have yZ:=HPA.out AB;obtain ⟨hgl,-,e0,e1,e2,e3⟩:=Own.auv HAq.out.own hi1;have aCz:=HD.out.aac hi1;have hxm:(z::sl')[i+1]∈z::sl':=BO hi1;have hxf:∀ W,w7.grownBy W (some g4)->Ints W (BK (z::sl')[i+1].ov) (z::sl')[i+1].out/\Own W CX.heap.size 24 1 Ia (BK (z::sl')[i+1].iv) (z::sl')[i+1].inn/\∀ c∈(z::sl')[i+1].inn,Ints W (BK c.2) c.1:=fun W hg=>by
    have h:=HA7.out.grown (a:=⟨Gs,q.nodes.length,Gt⟩) (b:=⟨P6,q.AP.length,ca'⟩) (c:=⟨none,0,0⟩) aCy.out hg;exact ⟨h.out _ hxm,h.inn _ hxm,h.Ja _ hxm⟩
   have hinl:(z::sl')[i+1].inn.length<=512:=by
    have h9:=congrArg List.length (HD.out.inn (i+1) hi1);rw [Cj] at h9;rw [h9];refine EH (OA _ _) ?_;exact EH (OA _ _) HV.out.U5
   generalize (z::sl')[i+1]=x at *;obtain ⟨tw,X,⟨oa,on,oc⟩,In,⟨ia,II,ic⟩,al',⟨aa,an,ac⟩⟩:=x;unfold BK at e1 e2 e3;simp only at e0 e1 e2 e3 hinl;rw [show (i+1)*4=4+i*4 by omega] at e0 e1 e2 e3;have MX:=AA aCz;have Xb:=AA hxf;have ki1:(i:Int)<sl.length:=by omega
   have ki2:0<=(i:Int):=by omega
   have hfl:=afD i;have eH:=AA hfl;have eP:=AA (al9 i);have hsh:(Nu i++[(i:Int)+1]).length=i+1:=by rw [ER,hfl];rfl
   have DW:=AA hsh;have aBu:(Nu i).length<=64:=by omega
   have n4:=Own.Dz HP.out.KC D8.out Aw;clear aCz hxf hxm hfl hsh X2;go_upto_region 13 with fail;obtain ⟨W9,hW⟩:∃ W:World,W=wo.alloc (.cells #[.int .i64 tw,.slice oa on oc,.slice ia II ic,.slice aa an ac] 82):=⟨_,rfl⟩;have hA:AU wo W9:=by rw [hW];exact bA (bR wo) _
   obtain ⟨g9,Je⟩:=BN wo.heap.size;have X9:AO W9 g9 82 #[.int .i64 tw,.slice oa on oc,.slice ia II ic,.slice aa an ac]:=by rw [hW];exact AO.made Je.symm _ _
   have ZI:=AA (HP.out.keep hA);have afI:=AA (D8.out.keep hA);have HM9:=AA (HM.out.keep hA);have afJ:=AA (CG.out.keep hA);have aa0:=AA (gB HG.out hA);have pW:=AA X9;have n94:¬ g9=g4:=by omega
   rw [<- hW]
   try rw [Je]
   clear hW hA e0 e1 e2 e3 hgl X4 HP D8 HM CG HG HB;have X4:=afI.out
   try clear BZ Bl CQ EU
   obtain ⟨BZ,Bl,CQ,EU,EG,FW,JC⟩:=X4.Az;go_upto_region 14 with
    (at_builtin
     refine FK _ rfl (.tmp 48) (.tmp 51) _ rfl (base:=w.heap.size) JW Iz JR rfl (Own.alloc ZI.out.KC _) rfl (l2:=[(i:Int)+1]) (Sl.lit (n:=1) (AO.made rfl _ _) rfl (DN AB)) DZ DZ (by have:=aa0.out.size;have:=MW.out.size;simp;omega) ?_;intro v10 w10 XD MI jv;obtain ⟨Jc,c10,fC,-⟩:=Own.Ig XD;rw [DW.out] at fC;subst fC;have VF:=AO.grown (afI.out.alloc _) MI (fun e=>n4 e.symm);have yj:=(ZI.out.keep (bA (bR W9) _)).face XD MI;have Py:=AA (yj.far VF Aw Aw Aw Aw 2 (.slice Jc (i+1) c10));have afK:=AA (VF.EI 2 (.slice Jc (i+1) c10));have akX:Gy w10 gs nm (Ij q O i):=(HM9.out.keep (bA (bR W9) _)).kept MI (fun e=>by
      have:=afE ZI.out.KC HM9.out
      exact this e.symm)
     have afL:=AA (akX.setCell (p:=⟨g4,2,none⟩) alN (.slice Jc (i+1) c10));have afM:=AA (AO.far (p:=⟨g4,2,none⟩) (AO.grown (afJ.out.alloc _) MI (fun e=>Own.Dz ZI.out.KC afJ.out Aw e.symm)) alK (.slice Jc (i+1) c10));have afN:=AA (AO.far (p:=⟨g4,2,none⟩) (AO.grown (pW.out.alloc _) MI (fun e=>Own.Dz ZI.out.KC pW.out Aw e.symm)) n94 (.slice Jc (i+1) c10));have aa1:=AA (gS (jm (gA aa0.out _) MI (fun k hk=>pV.out k hk)) 2 (.slice Jc (i+1) c10));have afO:=AA (show ∀ k,(Value.slice Jc (i+1) c10).ownBlock=some k->w7.heap.size<=k from jo jv pV.out (by have:=aa0.out.size;simp;omega));clear XD jv MI akX yj X4 BZ Bl CQ EU EG FW JC;have X4:=VF
     try clear BZ Bl CQ EU
     try clear EG FW JC
     obtain ⟨BZ,Bl,CQ,EU,EG,FW,JC⟩:=X4.Az
     )
   obtain ⟨Ru,akY⟩:∃ W:World,W=w10.setCell ⟨g4,2,none⟩ (.slice Jc (i+1) c10):=⟨_,rfl⟩;rw [<- akY] at Py afK afL afM afN aa1 ⊢;have akZ:=AA (show AO Ru g4 26 #[.slice Gs q.nodes.length Gt,.slice P6 q.AP.length ca',.slice Jc (i+1) c10] by simpa using afK.out);obtain ⟨hx1,hx2,hx3⟩:=Xb.out Ru aa1.out;have Rx:=adp ⟨tw,X,⟨oa,on,oc⟩,In,⟨ia,II,ic⟩,al',⟨aa,an,ac⟩⟩ Ru hx2.sl (by show In.length<=100000;omega);have wu:(MB ⟨tw,X,⟨oa,on,oc⟩,In,⟨ia,II,ic⟩,al',⟨aa,an,ac⟩⟩).length<=513:=by show In.length+1<=513;omega
   have hcr:∀ y∈MB ⟨tw,X,⟨oa,on,oc⟩,In,⟨ia,II,ic⟩,al',⟨aa,an,ac⟩⟩,Ints Ru (BK y.2) y.1:=fun y hy=>by
    rcases EW.1 hy with rfl | hy
    · exact hx1
    · exact hx3 y hy
   have hck:=MX.out;unfold BK at Rx;simp only at Rx;generalize MB ⟨tw,X,⟨oa,on,oc⟩,In,⟨ia,II,ic⟩,al',⟨aa,an,ac⟩⟩=CY at *;have ah:=AA Rx;have SX:=AA hcr;have GV:=AA hck;have X9:=afN.out;clear akY hx1 hx2 hx3 Rx hcr hck MX X4 BZ Bl CQ EU EG FW JC afK ZI afI HM9 afJ aa0 pW Xb;obtain ⟨Gv,Gw,JG,aBN,X9d,-,-,-,-⟩:=X9.N7;go_wp2_with fail;refine ah.out.mono ?_;rintro e Xj ⟨⟨A2,c2,rfl,ho2⟩,Nh⟩;have afP:=AA (Py.out.keep Nh);have akb:=AA (akZ.out.keep Nh);have aa2:=AA (afL.out.keep Nh);have auX:=AA (afM.out.keep Nh);have auY:=AA (gB aa1.out Nh);have F9:=AA ho2;have auZ:=AA (show ∀ y∈CY,Ints Xj (BK y.2) y.1 from fun y hy=>(SX.out y hy).mono Nh);have azh:=akb.out.lt;clear Nh ho2 X9 Gv Gw JG aBN X9d ah Py akZ afL afM afN aa1 SX;go_upto_block 2 with fail;go_wp2_with fail;go_loopw [57] (fun u wr=>∃ j:Nat,j<=CY.length/\u=.int .i64 j/\(∃ n,n<=300000*i+513*j/\Gy wr gs n (GX (Ij q O i) ((i:Int)+1) ((CY.take j).map (·.1))))/\Xj.grownBy wr (some gs)) (fun u _=>CY.length-(intOf u).toNat)
   case atStart => exact ⟨0,Bv _,rfl,⟨nm,EH hnm (Nat.le_add_right _ _),by rw [O8,QD,alF];exact aa2.out⟩,gR Xj _⟩
   case round =>
    obtain ⟨j,hj,rfl,⟨n1,hn1,hmp⟩,hgj⟩:=hrel;obtain ⟨wq,rfl⟩:=BR wr;have HM:=AA hmp;have jw:=AA hgj;have hzq:=hgj.size;clear hmp hgj;by_cases hlj:j<CY.length
    ·obtain ⟨b2,o2,rfl,aCA,c0⟩:=(Own.grown F9.out jw.out (fun g hg e=>afE F9.out aa2.out (by rw [hg,e]))).row_of.cy hlj;have hin:=(auZ.out CY[j] (BO hlj)).alA aa2.out jw.out;have hcy:CY[j].1∈J7 q O (i+1):=by rw [<- GV.out];exact Gh (BO hlj)
     have hdd:∀ d∈CY[j].1,En d:=fun d hd=>by
      have:=HV.out.Qh (HV.out.adi (fun X hX=>(Ze (BP q)).1.subset (by rw [rD.out];exact hX)) hcy hd)
      exact N8 AB AB
     have hcl:CY[j].1.length<=512:=by
      have hc2:CY[j].1=[]\/CY[j].1∈Ce q:=by
       unfold J7 GR at hcy;rcases EW.1 hcy with e | hc
       ·rw [e];unfold KO;split
        · exact .inl rfl
        · cases e9:O[i+1-1]? with
         | none=>exact .inl rfl
         | some Y=>exact .inr (Ku.1 ((Ze (BP q)).1.subset (by rw [rD.out];exact abX e9))).1
       · exact .inr (Vt.1 (QE.1 hc).1).1
      rcases hc2 with e | hc
      · rw [e];simp
      · exact EH (Wq (HV.out.Gq hc).1 (HV.out.Gq hc).2) HV.out.wM
     have htk:(CY.take (j+1)).map (·.1)=(CY.take j).map (·.1)++[CY[j].1]:=by rw [F7 hlj,GI];rfl
     generalize CY[j]=x at *;obtain ⟨C,xa,xn,xc⟩:=x;unfold BK at hin;simp only at hin c0 hdd hcl htk;have hin0:=hin;obtain ⟨Ax,cx,he,hx1,hx2,U7⟩:=hin;injection he with y1 y2 y3;subst y1 y2 y3;unfold maxLen at hx2;have Jo:=AA hin0;have Zc:=AA hdd;have FI:=AA htk;clear hin0 hdd htk hcy U7;have HMe:=AA (alG (Ij q O i) ((i:Int)+1) ((CY.take j).map (·.1)));go_upto_block 4 with fail;clear c0 aCA;go_wp2_with fail;go_loopw [63] (fun u wr=>∃ m:Nat,m<=C.length/\u=.int .i64 m/\(∃ n,n<=300000*i+513*j+m/\Gy wr gs n (GX (Ij q O i) ((i:Int)+1) ((CY.take j).map (·.1)++[C.take m])))/\wq.grownBy wr (some gs)) (fun u _=>C.length-(intOf u).toNat)
     case atStart => exact ⟨0,Bv _,rfl,⟨n1,hn1,by rw [O8,HMe.out];exact HM.out⟩,gR wq _⟩
     case round =>
      obtain ⟨m,hm,rfl,⟨n2,hn2,akc⟩,hgm⟩:=hrel;have QO:=AA akc;have HGm:=AA hgm;clear akc hgm;by_cases hlm:m<C.length
      ·obtain ⟨Ax',cx',he',-,-,akd⟩:=Jo.out.alA HM.out HGm.out;injection he' with y1 y2 y3;subst y1;clear y2 y3;obtain ⟨b3,o3,rfl,qy,d0⟩:=(show Row _ _ (C.flatMap DR) from akd).int hlm;have hwf:=Zc.out C[m] (BO hlm);have hst:=alH (Ij q O i) ((i:Int)+1) ((CY.take j).map (·.1)) C hlm;generalize C[m]=d at *;obtain ⟨w6,hr6,Xy,Ir⟩:=QO.out.upd (auR hn2 AB AB AB) d hwf ((i:Int)+1);rw [<- hst] at Xy;have Ut:=AA Xy;have WR:=AA (gT HGm.out Ir);have ki8:IntKind.i64.wrap ((i:Int)+1)=(i:Int)+1:=D6 _ AB;clear Xy Ir hst akd;go_wp2;go_roundw
       case rel => exact ⟨m+1,AB,BJ,⟨n2+1,Nat.succ_le_succ hn2,Ut.out⟩,WR.out⟩
       case measure => exact BL
      ·obtain rfl:m=C.length:=by omega
       have hmf:=QO.out;rw [I4,<- FI.out] at hmf;have pX:=AA hmf;clear hmf;go_wp2;go_roundw
       case rel => exact ⟨j+1,AB,BJ,⟨n2,avE hn2 hcl,pX.out⟩,gT jw.out HGm.out⟩
       case measure => exact BL
    ·obtain rfl:j=CY.length:=by omega
     have hmf:=HM.out;rw [I4,GV.out,<- alI] at hmf;have pX:=AA hmf;have Tm:=AA (afP.out.avD aa2.out jw.out);have aa3:=AA (AO.grown akb.out jw.out (fun e=>alN (Dq e).symm));have pY:=AA (AO.grown auX.out jw.out (fun e=>auW (Dq e).symm));have HGf:=AA (jm auY.out jw.out (fun k hk=>by have:=Dq hk;omega));clear hmf;go_wp2_with fail;rw [<- yZ];go_roundw
     case rel => exact ⟨i+1,AB,BJ,⟨Jc,c10,by rw [eP.out];exact Tm.out,aa3.out,afO.out⟩,⟨n1,avF hn1 wu,pX.out⟩,pY.out,HGf.out⟩
     case measure => exact BL
  ·obtain rfl:i=sl.length:=by omega
   have hbl:bl.length=q.AP.length:=by rw [<- HP.out.eq,Cj]
   obtain ⟨f,hf⟩:=BN (Ij q O sl.length);have aA1:=AA hf;rw [hf] at HM;have ZJ:=AA hbl;have jl:=AA HP.out.eq;have heq:(J8 f bl 0).map (·.1)=q.AP:=by rw [afF];exact HP.out.eq
   have ZK:=AA (show GH wo w.heap.size (.slice Gs q.nodes.length Gt) (.slice P6 q.AP.length ca') (.slice Af sl.length cf) ⟨q.nodes,(J8 f bl 0).map (·.1),Nu sl.length⟩ (J8 f bl 0) from by
    rw [heq,afF];exact HP.out)
   have MQ:=AA (fun a (ha:a∈q.AP)=>HV.out.Gx ha);clear hf hbl heq HP X2 HAq HG HA7
   try clear BZ Bl CQ EU
   try clear EG FW JC
   obtain ⟨BZ,Bl,CQ,EU,-,-,-⟩:=X4.Az;go_upto_block 6 with fail;clear X4 BZ Bl CQ EU;go_wp2_with fail;go_loopw [77] (fun u wr=>∃ k:Nat,k<=q.AP.length/\u=.int .i64 k/\GH wr w.heap.size (.slice Gs q.nodes.length Gt) (.slice P6 q.AP.length ca') (.slice Af sl.length cf) ⟨q.nodes,(J8 f bl k).map (·.1),Nu sl.length⟩ (J8 f bl k)/\Gy wr gs nm f/\AO wr g4 26 #[.slice Gs q.nodes.length Gt,.slice P6 q.AP.length ca',.slice Af sl.length cf]/\AO wr g2 26 #[.slice none 0 0,.slice none 0 0,.slice none 0 0]/\AU w wr) (fun u _=>q.AP.length-(intOf u).toNat)
   case atStart => exact ⟨0,Bv _,rfl,ZK.out,HM.out,D8.out,CG.out,HB.out⟩
   case round =>
    clear ZK HM D8 CG HB;obtain ⟨k,hk,rfl,hpo,hmp,X4,X2,hb⟩:=hrel;obtain ⟨wq,rfl⟩:=BR wr;have HP:=AA hpo;have HM:=AA hmp;have D8:=AA X4;have CG:=AA X2;have HB:=AA hb;have aeG:=hmp.lt;have hl4:=X4.lt;have hqa:q.AP.length<=256:=by
     have hl:=HV.out.lim;unfold Ji at hl;simp at hl;omega
    clear hpo hmp hb;by_cases hlt:k<q.AP.length
    ·have hkb:k<bl.length:=by rw [ZJ.out];exact hlt
     have hkl:k<(J8 f bl k).length:=by rw [alB];exact hkb
     have hat:=alD (f:=f) hkb hkl;have hset:=alE (f:=f) hkb;obtain ⟨gA,VG,hgA,azi,hfz,c0,c1,c2,c3,c4,c5⟩:=HP.out.FU.aA2 hkl;have hmem:bl[k].1∈q.AP:=by
      have:=HP.out.eq
      have h9:(J8 f bl k)[k].1.id=bl[k].1.id:=by rw [hat]
      have h8:=jl.out;rw [<- h8];exact Gh (BO hkb)
     have hid:=MQ.out _ hmem;rw [hat] at c0 c1 c2 c3 c4 c5;generalize bl[k]=x at *;obtain ⟨⟨id,fr,dst,via,lf,rt⟩,⟨va,vn,vc⟩⟩:=x;simp only at c0 c1 c2 c3 c4 c5 hid hset;have HAt:=AA hat;have RZ:=AA hset;have aa4:¬ gA=g4:=fun e=>Own.Dz HP.out.FU D8.out Aw (by rw [VG,<- e];rfl);have ake:¬ gA=g2:=fun e=>Own.Dz HP.out.FU CG.out Aw (by rw [VG,<- e];rfl);have akf:¬ gA=gs:=fun e=>afE HP.out.FU HM.out (by rw [VG,<- e];rfl);clear hat hset hmem X2 hfz;go_upto_region 27 with fail;obtain ⟨W5,hW⟩:∃ W:World,W=wq.alloc (.cells #[.int .i64 id,.int .i64 fr,.int .i64 dst,.slice va vn vc,.int .i64 lf,.int .i64 rt] 50):=⟨_,rfl⟩;have hA:AU wq W5:=by rw [hW];exact bA (bR wq) _
     obtain ⟨g15,akg⟩:=BN wq.heap.size;have Wi:AO W5 g15 50 #[.int .i64 id,.int .i64 fr,.int .i64 dst,.slice va vn vc,.int .i64 lf,.int .i64 rt]:=by rw [hW];exact AO.made akg.symm _ _
     have U8:=AA (HP.out.keep hA);have Tf:=AA (HM.out.keep hA);have WM:=AA (D8.out.keep hA);have qV:=AA (CG.out.keep hA);have Cm:=AA (bT HB.out hA);have Tc:=hA.size;have n15:¬ g15=gA:=by omega
     rw [<- hW]
     try rw [akg]
     clear hW hA c0 c1 c2 c3 c4 c5 X4 HP HM D8 CG HB;have X4:=WM.out;have aua:En id:=N8 AB AB;have aub:En (-id):=N8 AB AB;have azj:=(Tf.out.keep (bD (bR W5))).look id aua;have hlk2:=(Tf.out.keep (bD (bR W5))).look (-id) aub;have kng:IntKind.i64.wrap (-id)=-id:=D6 _ AB;obtain ⟨gA',jy,-,auc,G6,-,-,-,-,d4,d5⟩:=U8.out.FU.aA2 hkl;rw [VG] at jy;injection jy with jy;injection jy with jy _ _;rw [<- jy] at auc G6 d4 d5;have hf4:=G6 (k*6+4);have hf5:=G6 (k*6+5);have kD:=U8.out;rw [VG] at kD;have hlr:=kD.auS hkl (f id) (f (-id));rw [HAt.out] at hlr;have HLr:=AA (show GH ((W5.setCell ⟨gA,k*6+4,none⟩ (.int .i64 (f id))).setCell ⟨gA,k*6+5,none⟩ (.int .i64 (f (-id)))).drew w.heap.size (.slice Gs q.nodes.length Gt) (.slice P6 q.AP.length ca') (.slice Af sl.length cf) ⟨q.nodes,(J8 f bl (k+1)).map (·.1),Nu sl.length⟩ (J8 f bl (k+1)) from by
      rw [VG];have h9:=RZ.out;unfold Nv at h9;simp only at h9;have pq:=hlr;simp only at pq;rw [h9] at pq;refine ⟨pq.Ov,pq.FU,pq.Kw,rfl,pq.KC⟩)
     have pX:=AA (show Gy ((W5.setCell ⟨gA,k*6+4,none⟩ (.int .i64 (f id))).setCell ⟨gA,k*6+5,none⟩ (.int .i64 (f (-id)))).drew gs nm f from ((Tf.out.setCell (p:=⟨gA,k*6+4,none⟩) (fun e=>akf e.symm) _).setCell (p:=⟨gA,k*6+5,none⟩) (fun e=>akf e.symm) _).keep (bD (bR _)));have aa3:=AA (((WM.out.far (p:=⟨gA,k*6+4,none⟩) (fun e=>aa4 e.symm) (.int .i64 (f id))).far (p:=⟨gA,k*6+5,none⟩) (fun e=>aa4 e.symm) (.int .i64 (f (-id)))).drew);have pY:=AA (((qV.out.far (p:=⟨gA,k*6+4,none⟩) (fun e=>ake e.symm) (.int .i64 (f id))).far (p:=⟨gA,k*6+5,none⟩) (fun e=>ake e.symm) (.int .i64 (f (-id)))).drew);have LU:=AA (bD (bS (p:=⟨gA,k*6+5,none⟩) (bS (p:=⟨gA,k*6+4,none⟩) Cm.out hgA (.int .i64 (f id))) hgA (.int .i64 (f (-id)))));have m3:¬ g4=gA:=fun e=>aa4 e.symm;have m1:¬ some g4=some gA:=fun e=>aa4 (Dq e).symm;have m2:¬ some g15=some gA:=fun e=>n15 (Dq e);have yt:(k:Int)<q.AP.length:=by omega
     have yu:0<=(k:Int):=by omega
     clear hlr kD G6 U8 Tf jy
     try clear BZ Bl CQ EU
     try clear EG FW JC
     obtain ⟨BZ,Bl,CQ,EU,-,-,-⟩:=X4.Az;obtain ⟨vw,wE,wF,aa5,azk,azl,azm,-,-,-,-,-,-⟩:=Wi.IW;refine UY (W5) (some gA) (.run 9 0 0 (.run 4 10 511 (.two 9 16383 (.call 14 32767 (.take 15 65535 (.take 16 131071 (.call 17 262143 (.take 18 524287 (.take 19 1048575 (.call 20 2097151 (.done)))))))) 14 32255 (.call 9 32767 (.take 15 65535 (.take 16 131071 (.call 17 262143 (.take 18 524287 (.take 19 1048575 (.call 20 2097151 (.done))))))))))) fun CU QR Ae Ah hS=>?_
     iterate 13 refine Aj ?_
     refine PD (i:=9) (j:=14) (Ew Ae rfl) (Ew Ae rfl) (fun K hK=>?_) (fun K hK=>?_)
     ·have AQ:=AA hS;clear hS;refine FY (FV rfl) ?_;go_simp;refine hK.out _ _ AQ.out (fun hS=>?_);clear hK K AQ
      try simp only [pu]
      refine Bj ?_;clear hS;intro K hK AQ;go_simp;refine hK.out _ _ AQ.out (fun hS=>?_);clear hK K AQ
      try simp only [pu]
      iterate 2 refine Aj ?_
      refine Bj ?_;clear hS;intro K hK AQ;go_simp;refine hK.out _ _ (by first | exact gS AQ.out _ _ | (unfold JU;have Rf:World.grownBy _ _ _:=AQ.out;repeat (first | with_reducible assumption | with_reducible exact World.grownBy.refl _ _ | with_reducible refine gS ?_ _ _ | with_reducible refine gD ?_ | with_reducible refine gA ?_ _))) (fun hS=>?_);clear hK K AQ
      try simp only [pu]
      iterate 2 refine Aj ?_
      refine Bj ?_;clear hS;intro K hK AQ;go_simp;refine hK.out _ _ (by first | exact gS AQ.out _ _ | (unfold JU;have Rf:World.grownBy _ _ _:=AQ.out;repeat (first | with_reducible assumption | with_reducible exact World.grownBy.refl _ _ | with_reducible refine gS ?_ _ _ | with_reducible refine gD ?_ | with_reducible refine gA ?_ _))) (fun hS=>?_);clear hK K AQ
      try simp only [pu]
      refine Qq ?_;clear hS Ah Ae;intro hB;go_wp2_with fail;rw [<- VG];go_roundw
      case rel => exact ⟨_,_,_,⟨k+1,AB,BJ,HLr.out,pX.out,aa3.out,pY.out,LU.out⟩,rfl,rfl,rfl⟩
      case measure => exact BL
     ·have AQ:=AA hS;clear hS;refine FY (FV rfl) ?_;go_simp;refine hK.out _ _ AQ.out (fun hS=>?_);clear hK K AQ
      try simp only [pu]
      refine Bj ?_;clear hS;intro K hK AQ;go_simp;refine hK.out _ _ AQ.out (fun hS=>?_);clear hK K AQ
      try simp only [pu]
      iterate 2 refine Aj ?_
      refine Bj ?_;clear hS;intro K hK AQ;go_simp;refine hK.out _ _ (by first | exact gS AQ.out _ _ | (unfold JU;have Rf:World.grownBy _ _ _:=AQ.out;repeat (first | with_reducible assumption | with_reducible exact World.grownBy.refl _ _ | with_reducible refine gS ?_ _ _ | with_reducible refine gD ?_ | with_reducible refine gA ?_ _))) (fun hS=>?_);clear hK K AQ
      try simp only [pu]
      iterate 2 refine Aj ?_
      refine Bj ?_;clear hS;intro K hK AQ;go_simp;refine hK.out _ _ (by first | exact gS AQ.out _ _ | (unfold JU;have Rf:World.grownBy _ _ _:=AQ.out;repeat (first | with_reducible assumption | with_reducible exact World.grownBy.refl _ _ | with_reducible refine gS ?_ _ _ | with_reducible refine gD ?_ | with_reducible refine gA ?_ _))) (fun hS=>?_);clear hK K AQ
      try simp only [pu]
      refine Qq ?_;clear hS Ah Ae;intro hB;go_wp2_with fail;rw [<- VG];go_roundw
      case rel => exact ⟨_,_,_,⟨k+1,AB,BJ,HLr.out,pX.out,aa3.out,pY.out,LU.out⟩,rfl,rfl,rfl⟩
      case measure => exact BL
    ·obtain rfl:k=q.AP.length:=by omega
     try clear BZ Bl CQ EU
     try clear EG FW JC
     obtain ⟨BZ,Bl,CQ,EU,-,-,-⟩:=X4.Az;obtain ⟨BU,BX,Bg,CB,Qp,V5,WI⟩:=X2.Az;go_wp2_with fail;have hab:J8 f bl q.AP.length=bl.map (fun x=>(Nv f x.1,x.2)):=by rw [<- ZJ.out];exact alC f bl
     have hP:=HP.out;rw [hab] at hP;have hre:r=⟨q.nodes,(bl.map (fun x=>(Nv f x.1,x.2))).map (·.1),Nu sl.length⟩:=by
      rw [<- HRe.out];have e1:(BP q).length=sl.length:=Po.out.symm;have e2:(bl.map (fun x=>(Nv f x.1,x.2))).map (·.1)=q.AP.map (ZF q O):=by
       rw [<- jl.out,IV,IV];refine aAD fun x _=>?_;unfold ZF;rw [WA.out,aA1.out];rfl
      rw [e1,e2,<- rD.out,<- ZG.out];rfl
     have hrn:r.nodes.length=q.nodes.length:=by rw [hre]
     have hra:r.AP.length=q.AP.length:=by rw [hre];simp [ZJ.out]
     have hrf:r.faces.length=sl.length:=by rw [hre];exact afD _
     have hgw:w.heap.size<=g2:=by omega
     refine L9 (g:=g2) (cs:=#[.slice Gs q.nodes.length Gt,.slice P6 q.AP.length ca',.slice Af sl.length cf]) rfl aC rfl rfl (AO.VY CG.out) (.inr ⟨H64.out,Gs,Gt,P6,ca',Af,cf,bl.map (fun x=>(Nv f x.1,x.2)),?_,?_,?_⟩)
     · rw [hrn,hra,hrf];rfl
     · exact bS (p:=⟨g2,2,none⟩) (bS (p:=⟨g2,1,none⟩) (bS (p:=⟨g2,0,none⟩) HB.out hgw _) hgw _) hgw _
     ·rw [hrn,hra,hrf,hre];have z0:=AO.EI CG.out 0 (.slice Gs q.nodes.length Gt);have z1:=AO.EI z0 1 (.slice P6 q.AP.length ca');exact ((hP.far CG.out Aw Aw Aw Aw 0 _).far z0 Aw Aw Aw Aw 1 _).far z1 Aw Aw Aw Aw 2 _
