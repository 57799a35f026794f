import Derived.Test.YtialfdomhoojiaaGreatJ23
set_option linter.unusedSimpArgs false
set_option linter.unusedVariables false
set_option maxRecDepth 100000
set_option maxHeartbeats 4000000
namespace Go.Proofs.YtialfdomhoojiaaGreat
open Go.RowKit
set_option linter.unusedSectionVars false
section
variable {p:Pl} (h:Valid p)
include h
theorem Valid.Xa:(bf p).length<=512:=by
 have hl:=h.lim;unfold nC at hl;simp only [Bool.or_eq_false_iff,avX] at hl;have h2:=hl.2;unfold bf;rw [avL,List.length_reverse,avM,avM];omega
theorem Valid.Xb {X:List Int} (hX:X∈cO p):BG p X=iD p X:=by
 obtain ⟨h1,h2⟩:=h.lV hX;have hl:=Dk h1 h2;have h3:=h.Xa;unfold BG;rw [if_pos ⟨by omega,fun d hd=>h.ae5 (h2 d hd)⟩,anj p X X.length (awe _),List.take_length];rfl
end
set_option linter.unusedSectionVars false
theorem aqv {α β:Type} (f:α->β) (E:β->Bool) (t:β->Int) (l:List α):lX E t (l.map f)=(lX (fun x=>E (f x)) (fun x=>t (f x)) l).map f:=by
 induction l using aaU with
 | h0=>rfl
 | h1 l x ih =>
  rw [List.map_append,List.map_cons,List.map_nil,Gf,Gf,ih];unfold wL
  cases lX (fun x=>E (f x)) (fun x=>t (f x)) l<;>simp only [Option.map]<;>split<;>rfl
theorem aqw {α:Type} {E E':α->Bool} {t t':α->Int} {l:List α} (h:∀ x∈l,E x=E' x/\t x=t' x):lX E t l=lX E' t' l:=by
 induction l using aaU with
 | h0=>rfl
 | h1 l x ih =>
  have ih:=ih fun y hy=>h y (List.mem_append_left _ hy);rw [Gf,Gf,ih];obtain ⟨e1,e2⟩:=h x (List.mem_append_right _ av3);unfold wL
  cases hb:lX E' t' l with
  | none=>simp only [e1]
  | some y =>
   have hy:=(aaW E' t' hb).1;have e3:=(h y (List.mem_append_left _ hy)).2;simp only [e1,e2,e3]
def xG (O:List (List Int)) (i:Nat):Option (List Int):=if i=0 then none else O[i-1]?
theorem ahJ {O:List (List Int)} (hn:O.Nodup) {i j:Nat} (hi:i<=O.length) (hj:j<=O.length) (e:xG O i=xG O j):i=j:=by
 unfold xG at e;by_cases h1:i=0
 ·by_cases h2:j=0
  · omega
  · rw [if_pos h1,if_neg h2,avG Pe] at e;cases e
 ·by_cases h2:j=0
  · rw [if_neg h1,if_pos h2,avG Pe] at e;cases e
  ·rw [if_neg h1,if_neg h2,avG Pe,avG Pe] at e;injection e with e;unfold List.Nodup at hn;rw [avJ] at hn;rcases Nat.lt_trichotomy i j with g | g | g
   · exact absurd e (hn (i-1) (j-1) Pe Pe Pe)
   · exact g
   · exact absurd e.symm (hn (j-1) (i-1) Pe Pe Pe)
theorem Md {O:List (List Int)} {i:Nat} (h0:1<=i) (hi:i<=O.length):xG O i=some (O[i-1]'(by omega)):=by
 unfold xG;rw [if_neg Pe,avG Pe]
def xH (p:Pl) (L:List AD):Prop:=∀ i (hi:i<L.length),1<=i->L[i].tw=iD p L[i].out
theorem xH.set {p:Pl} {L:List AD} (h:xH p L) {b:Nat} {y:AD} (hb:b<L.length) (h1:y.tw=L[b].tw) (h2:y.out=L[b].out):xH p (L.set b y):=by
 intro i hi hi1;simp only [av9] at hi;rw [av8];split
 · rename_i e;subst e;rw [h1,h2];exact h b hb hi1
 · exact h i hi hi1
theorem xH.more {p:Pl} {L:List AD} (h:xH p L) {x:AD} (h1:x.tw=iD p x.out):xH p (L++[x]):=by
 intro i hi hi1;by_cases e:i<L.length
 · rw [List.getElem_append_left e];exact h i e hi1
 ·have:i=L.length:=by simp at hi;omega
  subst this;simpa using h1
theorem xH.one (p:Pl) (x:AD):xH p [x]:=fun i hi hi1=>by simp at hi;omega
structure jP (p:Pl) (L:List AD) (O R:List (List Int)) (N:List Nd):Prop where
 out:L.map (·.out)=[]::O
 inn:∀ i (hi:i<L.length),L[i].inn.map (·.1)=R.filter (fun c=>decide (uQ p (KX p c)=xG O i))
 fD:∀ i (hi:i<L.length),L[i].fD=(N.filter (fun n=>decide (sU p.aj n.id=0/\uQ p n.pt=xG O i))).map (·.id)
section
variable {p:Pl} {L:List AD} {O R:List (List Int)} {N:List Nd} (h:jP p L O R N)
include h
theorem jP.len:L.length=O.length+1:=by
 have:=congrArg List.length h.out
 simpa using this
theorem jP.SK {i:Nat} (hi:i<L.length) (h1:1<=i):L[i].out=O[i-1]'(by have:=h.len;omega):=by
 have e:(L.map (·.out))[i]'(by simpa using hi)=L[i].out:=by rw [av4]
 rw [<- e];have h2:=h.out;obtain ⟨j,rfl⟩:∃ j,i=j+1:=⟨i-1,by omega⟩;simp only [h2,List.getElem_cons_succ,Nat.add_sub_cancel]
theorem jP.ahK (h0:0<L.length):L[0].out=[]:=by
 have e:(L.map (·.out))[0]'(by simpa using h0)=L[0].out:=by rw [av4]
 rw [<- e];have h2:=h.out;simp only [h2,List.getElem_cons_zero]
theorem jP.abY {x:AD} (hx:x∈L):x.out=[]\/x.out∈O:=by
 have:x.out∈L.map (·.out):=awd hx
 rw [h.out] at this;rcases av2.1 this with e | e
 · exact .inl e
 · exact .inr e
theorem jP.more (hR:R=[]) (hN:N=[]) (x:AD) (h2:x.inn=[]) (h3:x.fD=[]):jP p (L++[x]) (O++[x.out]) R N:=by
 subst hR hN;have hl:=h.len;refine ⟨by rw [List.map_append,h.out];rfl,fun i hi=>?_,fun i hi=>?_⟩
 ·by_cases e:i<L.length
  · rw [List.getElem_append_left e,h.inn i e];rfl
  ·have:i=L.length:=by simp at hi;omega
   subst this;simp [h2]
 ·by_cases e:i<L.length
  · rw [List.getElem_append_left e,h.fD i e];rfl
  ·have:i=L.length:=by simp at hi;omega
   subst this;simp [h3]
theorem jP.inner (hn:O.Nodup) {b:Nat} (hb:b<L.length) (c:List Int) (sv rY:SV) (hh:uQ p (KX p c)=xG O b) :
  jP p (L.set b {L[b] with inn:=L[b].inn++[(c,sv)],iv:=rY}) O (R++[c]) N:=by
 have hl:=h.len;refine ⟨?_,fun i hi=>?_,fun i hi=>?_⟩
 ·rw [<- h.out];apply List.ext_getElem ars;intro i h1 h2;rw [av4,av4,av8];split
  · rename_i e;subst e;rfl
  · rfl
 ·simp only [av9] at hi;rw [av8,List.filter_append];split
  ·rename_i e;subst e;rw [List.map_append,h.inn b hb,List.filter_cons,if_pos (by simpa using hh)];rfl
  ·rename_i e;rw [h.inn i hi,List.filter_cons,if_neg (by
    rw [avQ,hh];exact fun g=>e (ahJ hn Pe Pe g)),List.filter_nil,List.append_nil]
 ·simp only [av9] at hi;rw [av8];split
  · rename_i e;subst e;exact h.fD b hb
  · exact h.fD i hi
theorem jP.lone (hn:O.Nodup) {b:Nat} (hb:b<L.length) (n:Nd) (qP:SV) (h0:sU p.aj n.id=0) (hh:uQ p n.pt=xG O b) :
  jP p (L.set b {L[b] with fD:=L[b].fD++[n.id],av:=qP}) O R (N++[n]):=by
 have hl:=h.len;refine ⟨?_,fun i hi=>?_,fun i hi=>?_⟩
 ·rw [<- h.out];apply List.ext_getElem ars;intro i h1 h2;rw [av4,av4,av8];split
  · rename_i e;subst e;rfl
  · rfl
 ·simp only [av9] at hi;rw [av8];split
  · rename_i e;subst e;exact h.inn b hb
  · exact h.inn i hi
 ·simp only [av9] at hi;rw [av8,List.filter_append];split
  ·rename_i e;subst e;rw [List.map_append,h.fD b hb,List.filter_cons,if_pos (by rw [avQ];exact ⟨h0,hh⟩)];rfl
  ·rename_i e;rw [h.fD i hi,List.filter_cons,if_neg (by
    rw [avQ,hh];exact fun g=>e (ahJ hn Pe Pe g.2)),List.filter_nil,List.append_nil]
theorem jP.pass (n:Nd) (h0:sU p.aj n.id≠0):jP p L O R (N++[n]) :=
 ⟨h.out,h.inn,fun i hi=>by
  rw [h.fD i hi,List.filter_append,List.filter_cons,if_neg (by rw [avQ];exact fun g=>h0 g.1),List.filter_nil,List.append_nil]⟩
theorem jP.home (hO:O=iE p) (hT:xH p L) {v:Pt} {b:Nat} (hb:Gq p v L (L.length-1) b):b<L.length/\uQ p v=xG O b:=by
 have hl:=h.len;have ht:L.tail.take (L.length-1)=L.tail:=List.take_of_length_le ars;have hm:L.tail.map (·.out)=O:=by rw [List.map_tail,h.out];rfl
 have e1:uQ p v=(lX (fun x:AD=>encS p x.out v) (fun x:AD=>x.tw) L.tail).map (·.out):=by
  unfold uQ;rw [<- hO,<- hm,aqv];congr 1;refine aqw fun x hx=>⟨rfl,?_⟩;obtain ⟨i,hi,rfl⟩:=avI.1 hx;rw [List.getElem_tail];simp only [List.length_tail] at hi;exact (hT (i+1) Pe Pe).symm
 unfold Gq at hb;rw [ht] at hb;rcases hb with ⟨rfl,e⟩ | ⟨hbl,h1,h2,e⟩
 ·rw [e] at e1;exact ⟨by omega,by rw [e1];rfl⟩
 ·rw [e] at e1;refine ⟨hbl,?_⟩;rw [e1,Md h1 Pe]
  show some L[b].out=_
  rw [h.SK hbl h1]
end
theorem jP.start (p:Pl) (x:AD) (h1:x.out=[]) (h2:x.inn=[]) (h3:x.fD=[]):jP p [x] [] [] []:=by
 refine ⟨by simp [h1],fun i hi=>?_,fun i hi=>?_⟩
 ·have:i=0:=by simp at hi;omega
  subst this;simp [h2]
 ·have:i=0:=by simp at hi;omega
  subst this;simp [h3]
section
variable {p:Pl} (h:Valid p)
include h
theorem Valid.GH {X:List Int} (hX:X∈cO p):X≠[]:=fun e=>by
 obtain ⟨x,-,-,-,hx⟩:=h.uN hX;rw [e] at hx;cases hx
theorem Valid.aqx:(cO p).Nodup:=by
 have hp:=h.ae6.nodup_iff.2 h.Qv;have hd:(cO p).Pairwise (fun a b=>∀ x∈a,∀ y∈b,x≠y):=by
  have h2:=List.pairwise_flatten.1 hp;exact h2.2
 unfold List.Nodup;refine List.Pairwise.imp_of_mem (fun {a b} ha hb hab e=>?_) hd;subst e;have hne:=h.GH ha
 cases a with
 | nil=>exact hne rfl
 | cons x a=>exact hab x av3 x av3 rfl
theorem Valid.GI:(cO p).length<=512:=by
 have:∀ L:List (List Int),(∀ X∈L,X≠[])->L.length<=L.flatten.length:=by
  intro L
  induction L with
  | nil=>intro _;exact awe _
  | cons X L ih =>
   intro hL;have h1:=ih fun Y hY=>hL Y (List.mem_cons_of_mem _ hY);have h2:=List.length_pos_iff.2 (hL X av3);rw [List.flatten_cons,avL,avO];omega
 have h1:=this (cO p) fun X hX=>h.GH hX;have h2:=h.ae6.length_eq;have h3:=h.Xa;omega
theorem Valid.aqy:p.faces.Pairwise (· < ·):=by
 have ho:=h.ord;unfold wu at ho;rw [avR,avR] at ho;exact Qj _ ho.2
theorem Valid.aqz {f:Int} (hf:f∈p.faces):1<=f/\f<=1073741824:=by
 have hr:=h.rng;unfold qZ at hr;rw [avR] at hr;have h1:=hr.1;rw [Bool.not_eq_true',List.any_eq_false] at h1;have:=h1 f (List.mem_append_right _ hf)
 unfold mX at this;simp only [Bool.or_eq_true,avQ,not_or] at this;omega
theorem Valid.ahL (d:Int):iw p d=0\/iw p d∈p.faces:=by
 have hs:=h.sides;unfold Bj at hs;rw [awh] at hs;have hf:∀ n,iy p.faces n=true->n=0\/n∈p.faces:=fun n hn=>by
  unfold iy at hn;rw [Bool.or_eq_true,awg] at hn;rcases hn with ⟨x,hx,e⟩ | e
  · have:=eq_of_beq e;subst this;exact .inr hx
  · exact .inl (eq_of_beq e)
 unfold iw;split
 · exact .inl rfl
 ·rename_i a e;have ha:a∈p.aj:=by
   unfold iK at e;split at e
   · cases e
   · exact List.mem_of_find?_eq_some e
  have:=hs a ha
  rw [avR] at this;split
  · exact hf _ this.1
  · exact hf _ this.2
theorem Valid.aqA (d:Int):0<=iw p d/\iw p d<=1073741824:=by
 rcases h.ahL d with e | e
 · omega
 · have:=h.aqz e;omega
theorem Valid.ahM:(iE p).Nodup:=h.aqx.filter _
end
def kU (p:Pl) (O:List (List Int)) (i:Nat):Int:=QX p (xG O i)
def vk (p:Pl) (O:List (List Int)) (i:Nat):List (List Int):=Oh p (xG O i)
structure rZ (p:Pl) (O:List (List Int)) (k:Nat):Prop where
 some:∀ i,1<=i->i<k->kU p O i≠0
 differ:∀ i j,1<=i->i<j->j<k->kU p O i≠kU p O j
 sides:∀ i,i<k->∀ c∈vk p O i,∀ d∈c,iw p d=kU p O i
theorem rZ.zero (p:Pl) (O:List (List Int)):rZ p O 0:=⟨fun i _ h=>by omega,fun i j _ _ h=>by omega,fun i h=>by omega⟩
def jh (p:Pl) (O:List (List Int)) (k:Nat):List Int:=(List.range (k-1)).map fun i=>kU p O (i+1)
theorem ahN (p:Pl) (O:List (List Int)) {k:Nat} (h:1<=k):jh p O (k+1)=jh p O k++[kU p O k]:=by
 unfold jh;rw [show k+1-1=(k-1)+1 by omega,List.range_succ,List.map_append];simp only [List.map_cons,List.map_nil];rw [show k-1+1=k by omega]
theorem abZ {p:Pl} {O:List (List Int)} {k:Nat} {x:Int}:x∈jh p O k↔∃ i,1<=i/\i<k/\kU p O i=x:=by
 unfold jh;rw [av6];constructor
 ·rintro ⟨i,hi,rfl⟩;rw [List.mem_range] at hi;exact ⟨i+1,by omega,by omega,rfl⟩
 ·rintro ⟨i,h1,h2,rfl⟩;exact ⟨i-1,by rw [List.mem_range];omega,by rw [show i-1+1=i by omega]⟩
theorem Xc (p:Pl) (O:List (List Int)) (k:Nat):(jh p O k).length=k-1:=by unfold jh;simp
theorem rZ.succ {p:Pl} {O:List (List Int)} {k:Nat} (h:rZ p O k) (h1:1<=k->kU p O k≠0) (h2:1<=k->kU p O k∉jh p O k) (h3:∀ c∈vk p O k,∀ d∈c,iw p d=kU p O k):rZ p O (k+1):=by
 refine ⟨fun i hi hk=>?_,fun i j hi hj hk=>?_,fun i hi=>?_⟩
 ·by_cases e:i=k
  · subst e;exact h1 hi
  · exact h.some i hi Pe
 ·by_cases e:j=k
  ·subst e;exact fun g=>h2 Pe (abZ.2 ⟨i,hi,hj,g⟩)
  · exact h.differ i j hi hj Pe
 ·by_cases e:i=k
  · subst e;exact h3
  · exact h.sides i Pe
theorem JK {p:Pl} {O:List (List Int)} {i:Nat} (h1:1<=i) (hi:i<=O.length):kU p O i=iw p ((O[i-1]'(by omega)).headD 0):=by
 unfold kU;rw [Md h1 hi];rfl
theorem rZ.iff {p:Pl} {O:List (List Int)} (hp:O.Perm (iE p)):agi p↔rZ p O (O.length+1)/\O.length=p.faces.length:=by
 constructor
 ·intro h;refine ⟨⟨fun i h1 h2=>?_,fun i j h1 h2 h3=>?_,fun i hi=>?_⟩,by rw [hp.length_eq];exact h.all⟩
  ·rw [JK h1 Pe];exact h.some _ (hp.subset (avF _))
  ·rw [JK h1 Pe,JK Pe Pe];intro e;have hd:=(hp.map (fun X=>iw p (X.headD 0))).nodup_iff.2 h.differ;unfold List.Nodup at hd;rw [List.pairwise_map,avJ] at hd;exact hd (i-1) (j-1) Pe Pe Pe e
  ·refine h.sides _ ?_;by_cases e:i=0
   · subst e;exact .inl rfl
   ·rw [Md Pe Pe];exact .inr ⟨_,hp.subset (avF _),rfl⟩
 ·rintro ⟨h,ha⟩;refine ⟨fun X hX=>?_,?_,fun b hb=>?_,by rw [<- hp.length_eq];exact ha⟩
  ·obtain ⟨i,hi,rfl⟩:=avI.1 (hp.symm.subset hX);have:=h.some (i+1) Pe Pe
   rw [JK Pe Pe] at this;exact this
  ·refine (hp.map (fun X=>iw p (X.headD 0))).nodup_iff.1 ?_;unfold List.Nodup;rw [List.pairwise_map,avJ];intro i j hi hj hij;have:=h.differ (i+1) (j+1) Pe Pe Pe
   rw [JK Pe Pe,JK Pe Pe] at this;exact this
  ·rcases hb with rfl | ⟨X,hX,rfl⟩
   · exact h.sides 0 Pe
   ·obtain ⟨i,hi,rfl⟩:=avI.1 (hp.symm.subset hX);have:=h.sides (i+1) Pe
    unfold vk kU at this;rw [Md Pe Pe] at this;exact this
def ahO (p:Pl):List (Option (List Int)):=none::(iE p).map some
def uz (p:Pl):Bool:=(iE p).all (fun X=>iw p (X.headD 0) != 0) && decide ((iE p).map (fun X=>iw p (X.headD 0))).Nodup && (ahO p).all (fun b=>(Oh p b).all fun c=>c.all fun d=>iw p d == QX p b) && decide ((iE p).length=p.faces.length)
theorem aqB {p:Pl}:uz p=true↔agi p:=by
 unfold uz ahO;simp only [avR,avQ,awh,av2,av6,bne_iff_ne,beq_iff_eq];constructor
 ·rintro ⟨⟨⟨h1,h2⟩,h3⟩,h4⟩;refine ⟨h1,h2,fun b hb=>h3 b ?_,h4⟩;rcases hb with h | ⟨X,hX,h⟩
  · exact .inl h
  · exact .inr ⟨X,hX,h.symm⟩
 ·rintro ⟨h1,h2,h3,h4⟩;refine ⟨⟨⟨h1,h2⟩,fun b hb=>h3 b ?_⟩,h4⟩;rcases hb with h | ⟨X,hX,h⟩
  · exact .inl h
  · exact .inr ⟨X,hX,h.symm⟩
theorem ab1 {p:Pl} {O:List (List Int)} (hp:O.Perm (iE p)):uz p=true↔rZ p O (O.length+1)/\O.length=p.faces.length:=aqB.trans (rZ.iff hp)
set_option linter.unusedSectionVars false
theorem Xd (P:List Pt):(lW P).length=P.length-1:=by unfold lW;simp
theorem ahP {P:List Pt} {k:Nat} (hk:k<(lW P).length):(lW P)[k]=(P.getD k aA,P.getD (k+1) aA):=by unfold lW;simp
theorem ab2 {P:List Pt} {k:Nat} (hk:k<P.length):P.reverse.getD k aA=P.getD (P.length-1-k) aA:=by
 rw [avT,avT,List.getElem?_reverse hk]
theorem aqC (P:List Pt):lW P.reverse=((lW P).map fun q=>(q.2,q.1)).reverse:=by
 apply List.ext_getElem (by simp [Xd]);intro k h1 h2;simp only [Xd,List.length_reverse] at h1;rw [ahP,List.getElem_reverse,av4,ahP];simp only [avM,Xd];rw [ab2 Pe,ab2 Pe];rw [show P.length-1-1-k+1=P.length-1-k by omega,show P.length-1-(k+1)=P.length-1-1-k by omega]
theorem aqD (a b v:Pt):dQ a b v=dQ b a v:=by
 unfold dQ;have e1:eu [a,b,v]=eu [b,a,v]:=by unfold eu;simp only [List.all_cons,List.all_nil];cases aZ a<;>cases aZ b<;>rfl
 have t:tw b a v=-tw a b v:=by unfold tw;grind
 rw [e1,t,Int.min_comm b.x a.x,Int.max_comm b.x a.x,Int.min_comm b.y a.y,Int.max_comm b.y a.y];congr 1;by_cases h:tw a b v=0
 · rw [h];rfl
 · simp [h]
theorem ahQ (v a b:Pt):nK v a b=nK v b a:=by
 have t:tw b a v=-tw a b v:=by unfold tw;grind
 unfold nK;rw [t,decide_eq_decide];omega
def qC (p:Pl) (d:Int):List Pt:=if 0<d then tX p d else (tX p d).reverse
def vw (p:Pl) (X:List Int):List (Pt×Pt):=X.flatMap fun d=>lW (qC p d)
def Xe (p:Pl) (X:List Int) (v:Pt):Bool:=(yw v (vw p X)).2 && !(yw v (vw p X)).1
theorem ahR (p:Pl) (d:Int) (v:Pt):((lW (qC p d)).any fun q=>dQ q.1 q.2 v)=((lW (tX p d)).any fun q=>dQ q.1 q.2 v) /\
  ((lW (qC p d)).map fun q=>if nK v q.1 q.2 then (1:Int) else 0).sum=((lW (tX p d)).map fun q=>if nK v q.1 q.2 then (1:Int) else 0).sum:=by
 unfold qC;split
 · exact ⟨rfl,rfl⟩
 ·rw [aqC];refine ⟨?_,?_⟩
  ·rw [List.any_reverse,List.any_map];congr 1
   funext q
   exact aqD _ _ _
  ·rw [List.map_reverse,List.sum_reverse,awc];congr 2
   funext q
   simp only [Function.comp];rw [ahQ]
theorem ahS (p:Pl) (X:List Int) (v:Pt):Xe p X v=encS p X v:=by
 unfold Xe encS;rw [Vy,Vy];have h1:((vw p X).any fun q=>dQ q.1 q.2 v)=((nJ p X).any fun q=>dQ q.1 q.2 v):=by
  unfold vw nJ;rw [List.any_flatMap,List.any_flatMap];congr 1
  funext d
  exact (ahR p d v).1
 have h2:((vw p X).map fun q=>if nK v q.1 q.2 then (1:Int) else 0).sum=((nJ p X).map fun q=>if nK v q.1 q.2 then (1:Int) else 0).sum:=by
  unfold vw nJ;clear h1
  induction X with
  | nil=>rfl
  | cons d X ih =>
   rw [av5,av5,List.map_append,List.map_append,List.sum_append,List.sum_append,ih,(ahR p d v).2]
 rw [h1,h2]
def OO (w:World) (v:Value) (L:List (List Int×SV)):Prop:=Sl w v L.length (L.flatMap lJ)/\∀ x∈L,Ints w (.slice x.2.a x.2.n x.2.c) x.1
theorem OO.mono {w w':World} {v:Value} {L:List (List Int×SV)} (h:OO w v L) (hb:Below w.heap.size w w'):OO w' v L :=
 ⟨Sl.mono h.1 hb,fun x hx=>(h.2 x hx).mono hb⟩
theorem zJ.read {w:World} {B:Nat} {v:Value} {L:List (List Int×SV)} (h:zJ w B v L):OO w v L:=⟨h.1.sl,fun x hx=>(h.2 x hx).sl⟩
theorem Row.cy {w:World} {A:Option Addr} {l:List (List Int×SV)} (h:Row w A (l.flatMap lJ)) {k:Nat} (hk:k<l.length) :
  ∃ b o,A=some ⟨b,o,none⟩/\b<w.heap.size/\w.cell? ⟨b,o+k,none⟩=some (.slice l[k].2.a l[k].2.n l[k].2.c):=by
 obtain ⟨b,o,hA,hb,hc⟩:=h.at_ (n:=1) (fun _=>rfl) hk Pe;exact ⟨b,o,hA,hb,by simpa using hc 0 _ rfl⟩
def GK (a b c:Pt):Int:=if 0<tw a b c then 1 else if tw a b c<0 then -1 else 0
theorem ahT (a b c:Pt) (w:World) (ha:lim a) (hb:lim b) (hc:lim c) :
  Calls Tryz.prog 201 #[aK a,aK b,aK c] w fun e w'=>e=.returned (.int .i64 (GK a b c))/\Below w.heap.size w w':=by
 obtain ⟨a1,a2,a3,a4⟩:=ha;obtain ⟨b1,b2,b3,b4⟩:=hb;obtain ⟨c1,c2,c3,c4⟩:=hc;obtain ⟨m1,m2⟩:=qH (b.x-a.x) (c.y-a.y) 4194304 Pe Pe Pe Pe;obtain ⟨m3,m4⟩:=qH (c.x-a.x) (b.y-a.y) 4194304 Pe Pe Pe Pe;simp only [Int.reduceMul,Int.reduceNeg] at m1 m2 m3 m4;have ht:tw a b c=(b.x-a.x)*(c.y-a.y)-(c.x-a.x)*(b.y-a.y):=by unfold tw;rw [Int.mul_comm (b.y-a.y)]
 unfold aK GK;rw [ht];clear ht;go_enter Tryz.func201,Tryz.ntmps201;go_wp2_with fail
 all_goals
  go_ret;refine ⟨dL rfl,?_⟩;exact eF
theorem aqE {a b c:Pt}:0<GK a b c↔0<tw a b c:=by unfold GK;split<;>(try split)<;>omega
theorem aqF {a b c:Pt}:GK a b c=0↔tw a b c=0:=by unfold GK;split<;>(try split)<;>omega
theorem aqG (a b p:Pt) (w:World) (hn:eu [a,b,p]=true) :
  Calls Tryz.prog 136 #[aK a,aK b,aK p] w fun e w'=>e=.returned (.bool (dQ a b p))/\Below w.heap.size w w':=by
 obtain ⟨ha,hb,hc⟩:=J6 hn;have T:∀ W,Calls Tryz.prog 201 #[aK a,aK b,aK p] W _:=fun W=>ahT a b p W ha hb hc;unfold aK at T ⊢;have hS:dQ a b p=(decide (GK a b p=0) && decide (min a.x b.x<=p.x) && decide (p.x<=max a.x b.x) && decide (min a.y b.y<=p.y) && decide (p.y<=max a.y b.y)):=by simp [dQ,hn,aqF]
 rw [hS];generalize GK a b p=t at *;have HT:=avE T;clear T ha hb hc hS hn;go_enter Tryz.func136,Tryz.ntmps136;go_wp2_with fail;refine (HT.out _).mono ?_;rintro e w2 ⟨rfl,hb2⟩;obtain ⟨ajE,ajF⟩:=Cj hb2;have Y9:=hb2.size
 try simp only [World.size_alloc,World.size_setCell,World.size_drew] at Y9
 have ajG:w.heap.size<w2.heap.size:=by omega
 have ajH:w.heap.size+1<w2.heap.size:=by omega
 have ajI:w.heap.size+1+1<w2.heap.size:=by omega
 by_cases ht:t=0
 ·subst ht;go_wp2_with fail
  all_goals
   go_ret;refine ⟨aY (by first | rfl | (rw [Bool.eq_iff_iff];simp only [avR,avQ,Bool.false_eq_true,false_iff,true_iff];try omega)),?_⟩;exact eF
 ·have ht':(t == 0)=false:=by simpa using ht
  go_wp2;go_ret;refine ⟨aY (by simp [ht]),?_⟩;exact eF
theorem aqH {d:Int}:max d (-d)=iJ d:=by
 unfold iJ;split
 · omega
 · omega
theorem ab3 (d:Int) (w:World) (h:-4611686018427387904<=d/\d<=4611686018427387904):Calls Tryz.prog 142 #[.int .i64 d] w fun e w'=>e=.returned (.int .i64 (iJ d))/\Below w.heap.size w w':=by
 have k1:IntKind.i64.wrap (-d)=-d:=avS _ Pe;rw [<- aqH];go_enter Tryz.func142,Tryz.ntmps142;go_wp2;go_ret;exact ⟨rfl,bR w⟩
theorem ahU (a b:Int) (w:World) (ha:-4611686018427387904<=a/\a<=4611686018427387904) (hb:-4611686018427387904<=b/\b<=4611686018427387904):Calls Tryz.prog 137 #[.int .i64 a,.int .i64 b] w fun e w'=>e=.returned (.bool (jy a b))/\Below w.heap.size w w':=by
 have HA:=avE (fun W=>ab3 a W ha);have HB:=avE (fun W=>ab3 b W hb);have hq:jy a b=(decide (iJ a<iJ b) || (decide (iJ a=iJ b) && decide (b<a))):=rfl;rw [hq];clear hq ha hb;generalize iJ a=x at *;generalize iJ b=y at *;go_enter Tryz.func137,Tryz.ntmps137;go_wp2_with fail;refine (HA.out _).mono ?_;rintro e w1 ⟨rfl,hb1⟩;go_wp2_with fail;refine (HB.out _).mono ?_;rintro e w2 ⟨rfl,hb2⟩;have B2:=avE (bT hb1 hb2);clear hb1 hb2;by_cases h1:x<y
 ·go_wp2;go_ret;exact ⟨aY (by simp [h1]),B2.out⟩
 ·go_wp2_with fail;refine (HA.out _).mono ?_;rintro e w3 ⟨rfl,hb3⟩;go_wp2_with fail;refine (HB.out _).mono ?_;rintro e w4 ⟨rfl,hb4⟩;have B4:=avE (bT B2.out (bT hb3 hb4));clear hb3 hb4;by_cases h2:x=y
  ·have h2':(x == y)=true:=by simpa using h2
   by_cases h3:b<a
   ·have HF:=avE (show (decide (x<y) || (decide (x=y) && decide (b<a)))=true by simp [h2,h3]);clear h2;go_wp2;go_ret;exact ⟨aY (by rw [HF.out];try simp [h1,h3]),B4.out⟩
   ·have HF:=avE (show (decide (x<y) || (decide (x=y) && decide (b<a)))=false by simp [h1,h3]);clear h2;go_wp2;go_ret;exact ⟨aY (by rw [HF.out];try simp [h1,h3]),B4.out⟩
  ·have h2':(x == y)=false:=by simpa using h2
   have HF:=avE (show (decide (x<y) || (decide (x=y) && decide (b<a)))=false by simp [h1,h2]);clear h2;go_wp2;go_ret;exact ⟨aY (by rw [HF.out];try simp [h1]),B4.out⟩
theorem aqI (v:Value) (c:List Int) (w:World) (h:Ints w v c) (hne:0<c.length) (hb:∀ d∈c,-1073741824<=d/\d<=1073741824):Calls Tryz.prog 138 #[v] w fun e w'=>e=.returned (.int .i64 (gQ c))/\Below w.heap.size w w':=by
 obtain ⟨A,cc,rfl,h1,h2,hR⟩:=h;unfold maxLen at h2;have HR:=avE hR;have HUp:=avE (fun n (hn:n<c.length)=>aqo (c:=c) hn);have ab4:=avE (aqp c);have Xf:=avE (show ∀ n,-1073741824<=Cb c n/\Cb c n<=1073741824 from fun n=>by
  have h1:c.headD 0∈c:=by
   cases c with
   | nil=>cases hne
   | cons a c=>exact av3
  rcases abW (c.take n) (c.headD 0) with e | e
  · unfold Cb;rw [e];exact hb _ h1
  · exact hb _ (List.mem_of_mem_take e))
 have HDb:=avE (fun n (hn:n<c.length)=>hb _ (avF hn));have hh:c.headD 0=c[0]:=by
  cases c with
  | nil=>cases hne
  | cons a c=>rfl
 have h0:Cb c 0=c[0]:=by unfold Cb;rw [List.take_zero];exact hh
 obtain ⟨b0,o0,rfl,hlb0,c0⟩:=(HR.out).int hne;rw [<- h0] at c0;simp only [Nat.add_zero] at c0;have kz:(0:Int)<c.length:=by omega
 have kn:¬ c=[]:=fun e=>by have:=congrArg List.length e;simp only [avN] at this;omega
 clear hb hR h0 hh;go_enter Tryz.func138,Tryz.ntmps138;go_wp2_with fail;clear c0 hlb0;go_loopw [3,4] (fun s i wr=>∃ k:Nat,k<=c.length/\i=.int .i64 k/\s=.int .i64 (Cb c k)/\Below w.heap.size w wr) (fun _ i _=>c.length-(intOf i).toNat)
 case atStart => exact ⟨0,avK _,rfl,rfl,bR w⟩
 case round =>
  obtain ⟨k,hk,rfl,rfl,hbw⟩:=hrel;have jW:=avE hbw;have hkb:=Xf.out k;clear hbw;by_cases hlt:k<c.length
  ·obtain ⟨b,o,hA,hlb,c1⟩:=(HR.out.mono jW.out).int hlt;injection hA with hA;injection hA with y1 y2 _;subst y1 y2;have hdb:=HDb.out k hlt;have HU:=avE (HUp.out k hlt);generalize c[k]=d at *;generalize Cb c k=q at *;have JL:=avE (fun W=>ahU d q W Pe Pe);obtain ⟨z,hz⟩:∃ z,jy d q=z:=⟨_,rfl⟩;rw [hz] at JL;have HZ:=avE hz;have Xg:=avE c1;have yZ:=hlb;clear hz;go_wp2_with fail;refine (JL.out _).mono ?_;rintro e w2 ⟨rfl,hb2⟩;have HB2:=avE (bT jW.out hb2);have c2:=kF hb2 Xg.out;have ahV:b0<w2.heap.size:=by have:=hb2.size;omega
   clear hb2 c1 hlb yZ Xg
   cases z
   ·have hs:=avE (show DR q d=q by unfold DR;rw [HZ.out];rfl);go_wp2;go_roundw
    case rel => exact ⟨k+1,by omega,by go_num,by rw [HU.out,hs.out],HB2.out⟩
    case measure => simp [intOf];omega
   ·have hs:=avE (show DR q d=d by unfold DR;rw [HZ.out];rfl);go_wp2;go_roundw
    case rel => exact ⟨k+1,by omega,by go_num,by rw [HU.out,hs.out],HB2.out⟩
    case measure => simp [intOf];omega
  ·obtain rfl:k=c.length:=by omega
   have hf:=ab4.out;rw [hf];go_wp2;go_ret;exact ⟨rfl,jW.out⟩
theorem jw.symm {u v:Value} (h:jw u v):jw v u:=fun g hg e=>h g e hg
theorem OQ {α:Type} {R:α->α->Prop} (hs:∀ a b,R a b->R b a) {l:List α} (h:l.Pairwise R) {i j:Nat} (hi:i<l.length) (hj:j<l.length) (hne:i≠j):R l[i] l[j]:=by
 rw [avJ] at h;by_cases c:i<j
 · exact h i j hi hj c
 · exact hs _ _ (h j i hj hi Pe)
theorem xI {α:Type} {l:List α} {i:Nat} {y x:α} (h:x∈l.set i y):(x=y/\i<l.length)\/∃ j,∃ hj:j<l.length,j≠i/\x=l[j]:=by
 obtain ⟨j,hj,rfl⟩:=avI.1 h;have hj':j<l.length:=by simpa using hj
 rw [av8];by_cases e:i=j
 · subst e;rw [if_pos rfl];exact .inl ⟨rfl,hj'⟩
 · rw [if_neg e];exact .inr ⟨j,hj',fun h=>e h.symm,rfl⟩
theorem jm.read {e:TypeId} {w0 w:World} {B:Nat} {v:Value} {L:List AD} (h:jm e w0 w B v L) (hb:Below w0.heap.size w0 w):AdR w v L:=⟨h.own.sl,fun x hx=>(h.out x hx).mono hb⟩
theorem Own.row_of {α:Type} {f:α->List Value} {w:World} {base:Nat} {e:TypeId} {size:Nat} {A:Option Addr} {n c:Nat} {l:List α} (h:Own w base e size f (.slice A n c) l):Row w A (l.flatMap f):=by
 obtain ⟨A',c',he,-,-,hr⟩:=h.sl;injection he with e1 e2 e3;subst e1;exact hr
theorem Own.uD {e:TypeId} {w:World} {B:Nat} {A:Option Addr} {n c:Nat} {L:List AD} (h:Own w B e 4 wZ (.slice A n c) L) (hl:0<L.length):∃ g,A=some ⟨g,0,none⟩/\B<=g/\g<w.heap.size/\(∀ j,w.frozen? ⟨g,j,none⟩=false) /\
  ∀ k (hk:k<L.length),w.cell? ⟨g,k*4,none⟩=some (.int .i64 L[k].tw)/\w.cell? ⟨g,k*4+1,none⟩=some (bg L[k].ov)/\w.cell? ⟨g,k*4+2,none⟩=some (bg L[k].iv)/\w.cell? ⟨g,k*4+3,none⟩=some (bg L[k].av):=by
 have hr:=h.row_of;rcases h.2 with ⟨_,h0⟩ | ⟨g,cap,cur,hv,hg,hh,-⟩
 · omega
 ·injection hv with e1 e2 e3;subst e1;refine ⟨g,rfl,hg,ah.lt hh,fun j=>ah.frozen hh j,fun k hk=>?_⟩;obtain ⟨b,o,jK,-,c0,c1,c2,c3⟩:=hr.ad hk;injection jK with jK;injection jK with y1 y2 _;subst y1 y2;simp only [Nat.zero_add] at c0 c1 c2 c3;exact ⟨c0,c1,c2,c3⟩
structure OT (w:World) (v:Value) (L:List AD):Prop where
 sl:Sl w v L.length (L.flatMap wZ)
 out:∀ x∈L,Ints w (bg x.ov) x.out
 inn:∀ x∈L,Sl w (bg x.iv) x.inn.length (x.inn.flatMap lJ)
 lH:∀ x∈L,∀ c∈x.inn,Ints w (bg c.2) c.1
 fD:∀ x∈L,Ints w (bg x.av) x.fD
theorem OT.mono {w w':World} {v:Value} {L:List AD} (h:OT w v L) (hb:Below w.heap.size w w'):OT w' v L :=
 ⟨h.sl.mono hb,fun x hx=>(h.out x hx).mono hb,fun x hx=>(h.inn x hx).mono hb,fun x hx c hc=>(h.lH x hx c hc).mono hb,fun x hx=>(h.fD x hx).mono hb⟩
theorem jm.full {e:TypeId} {w0 w:World} {B:Nat} {v:Value} {L:List AD} (h:jm e w0 w B v L) (hb:Below w0.heap.size w0 w):OT w v L :=
 ⟨h.own.sl,fun x hx=>(h.out x hx).mono hb,fun x hx=>(h.inn x hx).sl,fun x hx c hc=>(h.lH x hx c hc).mono hb,fun x hx=>(h.fD x hx).sl⟩
theorem jm.more {e:TypeId} (he:e≠24/\e≠3) {w0 w w1:World} {B:Nat} {v v':Value} {L:List AD} (h:jm e w0 w B v L) {x:AD} (ho:Own w1 B e 4 wZ v' (L++[x])) (hg:w.grownBy w1 v.ownBlock)
  (hx:Ints w0 (bg x.ov) x.out) (h1:x.inn=[]) (h2:x.iv=sv0) (h3:x.fD=[]) (h4:x.av=sv0):jm e w0 w1 B v' (L++[x]):=by
 have s0:∀ u,jw u (bg sv0):=fun u g _ e=>by cases e
 refine ⟨ho,fun y hy=>?_,fun y hy=>?_,fun y hy=>?_,fun y hy=>?_,?_,?_⟩
 ·rcases av1.1 hy with hy | hy
  · exact h.out y hy
  · rw [avY] at hy;subst hy;exact hx
 ·rcases av1.1 hy with hy | hy
  · exact Own.grown (h.inn y hy) hg (fun g hg'=>Own.apart (h.inn y hy) h.own he.1.symm g hg')
  ·rw [avY] at hy;subst hy;rw [h1,h2];exact Own.nil _ _ _ _ _
 ·rcases av1.1 hy with hy | hy
  · exact h.lH y hy
  ·rw [avY] at hy;subst hy;rw [h1];intro c hc;cases hc
 ·rcases av1.1 hy with hy | hy
  · exact Own.grown (h.fD y hy) hg (fun g hg'=>Own.apart (h.fD y hy) h.own he.2.symm g hg')
  ·rw [avY] at hy;subst hy;rw [h3,h4];exact Own.nil _ _ _ _ _
 ·rw [List.pairwise_append];refine ⟨h.Jz,List.pairwise_singleton _ _,fun a _ b hb=>?_⟩;rw [avY] at hb;subst hb;rw [h2];exact s0 _
 ·rw [List.pairwise_append];refine ⟨h.JA,List.pairwise_singleton _ _,fun a _ b hb=>?_⟩;rw [avY] at hb;subst hb;rw [h4];exact s0 _
theorem jm.aqJ {e:TypeId} (he:e≠24/\e≠3) {w0 w w1:World} {B B':Nat} {v u:Value} {L:List AD} {R:List (List Int×SV)} (h:jm e w0 w B v L) (hg:w.grownBy w1 u.ownBlock) (hu:Own w B' 24 1 lJ u R) (hz:∀ x∈L,x.iv=sv0):jm e w0 w1 B v L:=by
 refine ⟨Own.grown h.own hg (fun g hg'=>Own.apart h.own hu he.1 g hg'),h.out,fun x hx=>?_,h.lH,fun x hx=>Own.grown (h.fD x hx) hg (fun g hg'=>Own.apart (h.fD x hx) hu arC g hg'),h.Jz,h.JA⟩;refine Own.grown (h.inn x hx) hg (fun g hg'=>?_);rw [hz x hx] at hg'
 cases hg'
theorem jm.Xh {e:TypeId} (he:e≠24/\e≠3) {w0 w w1:World} {B g n cc:Nat} {L:List AD} (h:jm e w0 w B (.slice (some ⟨g,0,none⟩) n cc) L) {i:Nat} (hi:i<L.length) {rY:SV} {c:List Int×SV}
  (ho:Own w1 B 24 1 lJ (bg rY) (L[i].inn++[c])) (hg:w.grownBy w1 (bg L[i].iv).ownBlock) (hat:(bg rY).ownBlock=(bg L[i].iv).ownBlock\/(bg rY).ownBlock=some w.heap.size) (hc:Ints w0 (bg c.2) c.1) :
  jm e w0 (w1.setCell ⟨g,i*4+2,none⟩ (bg rY)) B (.slice (some ⟨g,0,none⟩) n cc) (L.set i {L[i] with inn:=L[i].inn++[c],iv:=rY}):=by
 have hgv:(Value.slice (some ⟨g,0,none⟩) n cc).ownBlock=some g:=rfl;have hm:=avF hi;have SL:Own w1 B e 4 wZ (.slice (some ⟨g,0,none⟩) n cc) L:=Own.grown h.own hg (fun g' hg'=>Own.apart h.own (h.inn _ hm) he.1 g' hg');have Me:∀ {b:Nat} {e9:TypeId} {s:Nat} {α:Type} {f:α->List Value} {v:Value} {l:List α},Own w1 b e9 s f v l->e9≠e->Own (w1.setCell ⟨g,i*4+2,none⟩ (bg rY)) b e9 s f v l:=fun h9 hne=>Own.far h9 (fun e8=>Own.apart h9 SL hne g e8 hgv.symm) _;have sep1:∀ j (hj:j<L.length),j≠i->jw (bg L[j].iv) (bg rY):=fun j hj hji g' hg' e=>by
  rcases hat with h9 | h9
  ·rw [h9] at e;exact OQ (fun a b=>jw.symm) h.Jz hj hi hji g' hg' e
  ·rw [h9] at e;have:=((h.inn _ (avF hj)).lt g' hg').2
   have:=avP e
   omega
 refine ⟨Own.Nv RD SL hi Pe _ _ rfl,fun x hx=>?_,fun x hx=>?_,fun x hx=>?_,fun x hx=>?_,?_,?_⟩
 ·rcases xI hx with ⟨rfl,_⟩ | ⟨j,hj,_,rfl⟩
  · exact h.out L[i] hm
  · exact h.out _ (avF hj)
 ·rcases xI hx with ⟨rfl,_⟩ | ⟨j,hj,hji,rfl⟩
  · exact Me ho he.1.symm
  · exact Me (Own.grown (h.inn _ (avF hj)) hg (fun g' hg' e=>OQ (fun a b=>jw.symm) h.Jz hj hi hji g' hg' e.symm)) he.1.symm
 ·rcases xI hx with ⟨rfl,_⟩ | ⟨j,hj,_,rfl⟩
  ·intro d hd;rcases av1.1 hd with hd | hd
   · exact h.lH L[i] hm d hd
   · rw [avY] at hd;subst hd;exact hc
  · exact h.lH _ (avF hj)
 ·have:∀ y∈L,Own (w1.setCell ⟨g,i*4+2,none⟩ (bg rY)) B 3 1 dw (bg y.av) y.fD:=fun y hy=>Me (Own.grown (h.fD y hy) hg (fun g' hg'=>Own.apart (h.fD y hy) (h.inn _ hm) arC g' hg')) he.2.symm
  rcases xI hx with ⟨rfl,_⟩ | ⟨j,hj,_,rfl⟩
  · exact this L[i] hm
  · exact this _ (avF hj)
 ·rw [avJ];intro a b ha hb hab;simp only [av9] at ha hb;rw [av8,av8];by_cases e1:i=a
  ·subst e1;rw [if_pos rfl,if_neg Pe];exact (sep1 b hb Pe).symm
  ·rw [if_neg e1];by_cases e2:i=b
   ·subst e2;rw [if_pos rfl];exact sep1 a ha Pe
   ·rw [if_neg e2];exact OQ (fun a b=>jw.symm) h.Jz ha hb Pe
 ·have e:(L.set i {L[i] with inn:=L[i].inn++[c],iv:=rY}).map (·.av)=L.map (·.av):=by
   apply List.ext_getElem ars;intro j h1 h2;rw [av4,av4,av8];split
   · rename_i e;subst e;rfl
   · rfl
  have hp:(L.map (·.av)).Pairwise (fun x y=>jw (bg x) (bg y)):=List.pairwise_map.2 h.JA;rw [<- e] at hp;exact (List.pairwise_map (f:=fun x:AD=>x.av) (R:=fun x y=>jw (bg x) (bg y))).1 hp
theorem jm.SN {e:TypeId} (he:e≠24/\e≠3) {w0 w w1:World} {B g n cc:Nat} {L:List AD} (h:jm e w0 w B (.slice (some ⟨g,0,none⟩) n cc) L) {i:Nat} (hi:i<L.length) {qP:SV} {c:Int}
  (ho:Own w1 B 3 1 dw (bg qP) (L[i].fD++[c])) (hg:w.grownBy w1 (bg L[i].av).ownBlock) (hat:(bg qP).ownBlock=(bg L[i].av).ownBlock\/(bg qP).ownBlock=some w.heap.size) :
  jm e w0 (w1.setCell ⟨g,i*4+3,none⟩ (bg qP)) B (.slice (some ⟨g,0,none⟩) n cc) (L.set i {L[i] with fD:=L[i].fD++[c],av:=qP}):=by
 have hgv:(Value.slice (some ⟨g,0,none⟩) n cc).ownBlock=some g:=rfl;have hm:=avF hi;have SL:Own w1 B e 4 wZ (.slice (some ⟨g,0,none⟩) n cc) L:=Own.grown h.own hg (fun g' hg'=>Own.apart h.own (h.fD _ hm) he.2 g' hg');have Me:∀ {b:Nat} {e9:TypeId} {s:Nat} {α:Type} {f:α->List Value} {v:Value} {l:List α},Own w1 b e9 s f v l->e9≠e->Own (w1.setCell ⟨g,i*4+3,none⟩ (bg qP)) b e9 s f v l:=fun h9 hne=>Own.far h9 (fun e8=>Own.apart h9 SL hne g e8 hgv.symm) _;have sep1:∀ j (hj:j<L.length),j≠i->jw (bg L[j].av) (bg qP):=fun j hj hji g' hg' e=>by
  rcases hat with h9 | h9
  ·rw [h9] at e;exact OQ (fun a b=>jw.symm) h.JA hj hi hji g' hg' e
  ·rw [h9] at e;have:=((h.fD _ (avF hj)).lt g' hg').2
   have:=avP e
   omega
 refine ⟨Own.Nv RD SL hi Pe _ _ rfl,fun x hx=>?_,fun x hx=>?_,fun x hx=>?_,fun x hx=>?_,?_,?_⟩
 ·rcases xI hx with ⟨rfl,_⟩ | ⟨j,hj,_,rfl⟩
  · exact h.out L[i] hm
  · exact h.out _ (avF hj)
 ·have:∀ y∈L,Own (w1.setCell ⟨g,i*4+3,none⟩ (bg qP)) B 24 1 lJ (bg y.iv) y.inn:=fun y hy=>Me (Own.grown (h.inn y hy) hg (fun g' hg'=>Own.apart (h.inn y hy) (h.fD _ hm) arC g' hg')) he.1.symm
  rcases xI hx with ⟨rfl,_⟩ | ⟨j,hj,hji,rfl⟩
  · exact this L[i] hm
  · exact this _ (avF hj)
 ·rcases xI hx with ⟨rfl,_⟩ | ⟨j,hj,_,rfl⟩
  · exact h.lH L[i] hm
  · exact h.lH _ (avF hj)
 ·rcases xI hx with ⟨rfl,_⟩ | ⟨j,hj,hji,rfl⟩
  · exact Me ho he.2.symm
  · exact Me (Own.grown (h.fD _ (avF hj)) hg (fun g' hg' e=>OQ (fun a b=>jw.symm) h.JA hj hi hji g' hg' e.symm)) he.2.symm
 ·have e:(L.set i {L[i] with fD:=L[i].fD++[c],av:=qP}).map (·.iv)=L.map (·.iv):=by
   apply List.ext_getElem ars;intro j h1 h2;rw [av4,av4,av8];split
   · rename_i e;subst e;rfl
   · rfl
  have hp:(L.map (·.iv)).Pairwise (fun x y=>jw (bg x) (bg y)):=List.pairwise_map.2 h.Jz;rw [<- e] at hp;exact (List.pairwise_map (f:=fun x:AD=>x.iv) (R:=fun x y=>jw (bg x) (bg y))).1 hp
 ·rw [avJ];intro a b ha hb hab;simp only [av9] at ha hb;rw [av8,av8];by_cases e1:i=a
  ·subst e1;rw [if_pos rfl,if_neg Pe];exact (sep1 b hb Pe).symm
  ·rw [if_neg e1];by_cases e2:i=b
   ·subst e2;rw [if_pos rfl];exact sep1 a ha Pe
   ·rw [if_neg e2];exact OQ (fun a b=>jw.symm) h.JA ha hb Pe
end Go.Proofs.YtialfdomhoojiaaGreat
