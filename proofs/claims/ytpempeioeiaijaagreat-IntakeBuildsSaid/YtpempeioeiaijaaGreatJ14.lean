import Derived.Test.YtpempeioeiaijaaGreatJ13
set_option linter.unusedSimpArgs false
set_option linter.unusedVariables false
set_option maxRecDepth 100000
set_option maxHeartbeats 8000000
namespace Go.Proofs.YtpempeioeiaijaaGreat
open Go.RowKit Tryz
set_option linter.unusedSectionVars false
theorem au3 {α β:Type} (f:α->β) (E:β->Bool) (t:β->Int) (l:List α):Js E t (l.map f)=(Js (fun x=>E (f x)) (fun x=>t (f x)) l).map f:=by
 induction l using aeg with
 | h0=>rfl
 | h1 l x ih =>
  rw [FH,Ey,O9,Xf,Xf,ih];unfold Qi
  cases Js (fun x=>E (f x)) (fun x=>t (f x)) l<;>simp only [Option.map]<;>split<;>rfl
theorem au4 {α:Type} {E E':α->Bool} {t t':α->Int} {l:List α} (h:∀ x∈l,E x=E' x/\t x=t' x):Js E t l=Js E' t' l:=by
 induction l using aeg with
 | h0=>rfl
 | h1 l x ih =>
  have ih:=ih fun y hy=>h y (SB _ hy);rw [Xf,Xf,ih];obtain ⟨e1,e2⟩:=h x (kJ _ JC);unfold Qi
  cases hb:Js E' t' l with
  | none=>simp only [e1]
  | some y =>
   have hy:=(ae8 E' t' hb).1;have e3:=(h y (SB _ hy)).2;simp only [e1,e2,e3]
def Lj (O:List (List Int)) (i:Nat):Option (List Int):=if i=0 then none else O[i-1]?
theorem afJ {O:List (List Int)} (hn:O.Nodup) {i j:Nat} (hi:i<=O.length) (hj:j<=O.length) (e:Lj O i=Lj O j):i=j:=by
 unfold Lj at e;by_cases h1:i=0
 ·by_cases h2:j=0
  · omega
  · rw [AZ h1,AX h2,Di AA] at e;cases e
 ·by_cases h2:j=0
  · rw [AX h1,AZ h2,Di AA] at e;cases e
  ·rw [AX h1,AX h2,Di AA,Di AA] at e;injection e with e;unfold List.Nodup at hn;rw [G9] at hn;rcases QT i j with g | g | g
   · exact absurd e (hn (i-1) (j-1) AA AA AA)
   · exact g
   · exact absurd e.symm (hn (j-1) (i-1) AA AA AA)
theorem VT {O:List (List Int)} {i:Nat} (h0:1<=i) (hi:i<=O.length):Lj O i=some (O[i-1]'(by omega)):=by
 unfold Lj;rw [AX AA,Di AA]
def Qp (p:Pl) (L:List AD):Prop:=∀ i (hi:i<L.length),1<=i->L[i].tw=F8 p L[i].out
theorem Qp.set {p:Pl} {L:List AD} (h:Qp p L) {b:Nat} {y:AD} (hb:b<L.length) (h1:y.tw=L[b].tw) (h2:y.out=L[b].out):Qp p (L.set b y):=by
 intro i hi hi1;simp only [P7] at hi;rw [QO];split
 · rename_i e;subst e;rw [h1,h2];exact h b hb hi1
 · exact h i hi hi1
theorem Qp.more {p:Pl} {L:List AD} (h:Qp p L) {x:AD} (h1:x.tw=F8 p x.out):Qp p (L++[x]):=by
 intro i hi hi1;by_cases e:i<L.length
 · rw [List.getElem_append_left e];exact h i e hi1
 ·have:i=L.length:=by simp at hi;omega
  subst this;simpa using h1
theorem Qp.one (p:Pl) (x:AD):Qp p [x]:=fun i hi hi1=>by simp at hi;omega
structure Ie (p:Pl) (L:List AD) (O R:List (List Int)) (N:List Nd):Prop where
 out:L.map (·.out)=[]::O
 inn:∀ i (hi:i<L.length),L[i].inn.map (·.1)=R.filter (fun c=>decide (MG p (UU p c)=Lj O i))
 EP:∀ i (hi:i<L.length),L[i].EP=(N.filter (fun n=>decide (Oe p.AQ n.id=0/\MG p n.pt=Lj O i))).map (·.id)
section
variable {p:Pl} {L:List AD} {O R:List (List Int)} {N:List Nd} (h:Ie p L O R N)
include h
theorem Ie.len:L.length=O.length+1:=by
 have:=congrArg List.length h.out
 simpa using this
theorem Ie.pU {i:Nat} (hi:i<L.length) (h1:1<=i):L[i].out=O[i-1]'(by have:=h.len;omega):=by
 have e:(L.map (·.out))[i]'(by simpa using hi)=L[i].out:=by rw [Iu]
 rw [<- e];have h2:=h.out;obtain ⟨j,rfl⟩:∃ j,i=j+1:=⟨i-1,AA⟩;simp only [h2,List.getElem_cons_succ,yg]
theorem Ie.alk (h0:0<L.length):L[0].out=[]:=by
 have e:(L.map (·.out))[0]'(by simpa using h0)=L[0].out:=by rw [Iu]
 rw [<- e];have h2:=h.out;simp only [h2,List.getElem_cons_zero]
theorem Ie.alm {x:AD} (hx:x∈L):x.out=[]\/x.out∈O:=by
 have:x.out∈L.map (·.out):=FZ hx
 rw [h.out] at this;rcases FI.1 this with e | e
 · exact .inl e
 · exact .inr e
theorem Ie.more (hR:R=[]) (hN:N=[]) (x:AD) (h2:x.inn=[]) (h3:x.EP=[]):Ie p (L++[x]) (O++[x.out]) R N:=by
 subst hR hN;have hl:=h.len;refine ⟨by rw [FH,h.out];rfl,fun i hi=>?_,fun i hi=>?_⟩
 ·by_cases e:i<L.length
  · rw [List.getElem_append_left e,h.inn i e];rfl
  ·have:i=L.length:=by simp at hi;omega
   subst this;simp [h2]
 ·by_cases e:i<L.length
  · rw [List.getElem_append_left e,h.EP i e];rfl
  ·have:i=L.length:=by simp at hi;omega
   subst this;simp [h3]
theorem Ie.inner (hn:O.Nodup) {b:Nat} (hb:b<L.length) (c:List Int) (sv Oi:SV) (hh:MG p (UU p c)=Lj O b) :
  Ie p (L.set b {L[b] with inn:=L[b].inn++[(c,sv)],iv:=Oi}) O (R++[c]) N:=by
 have hl:=h.len;refine ⟨?_,fun i hi=>?_,fun i hi=>?_⟩
 ·rw [<- h.out];apply dV Ah;intro i h1 h2;rw [Iu,Iu,QO];split
  · rename_i e;subst e;rfl
  · rfl
 ·simp only [P7] at hi;rw [QO,yX];split
  ·rename_i e;subst e;rw [FH,h.inn b hb,eG,AZ (by simpa using hh)];rfl
  ·rename_i e;rw [h.inn i hi,eG,AX (by
    rw [Dq,hh];exact fun g=>e (afJ hn AA AA g)),acu,MC]
 ·simp only [P7] at hi;rw [QO];split
  · rename_i e;subst e;exact h.EP b hb
  · exact h.EP i hi
theorem Ie.lone (hn:O.Nodup) {b:Nat} (hb:b<L.length) (n:Nd) (OV:SV) (h0:Oe p.AQ n.id=0) (hh:MG p n.pt=Lj O b) :
  Ie p (L.set b {L[b] with EP:=L[b].EP++[n.id],av:=OV}) O R (N++[n]):=by
 have hl:=h.len;refine ⟨?_,fun i hi=>?_,fun i hi=>?_⟩
 ·rw [<- h.out];apply dV Ah;intro i h1 h2;rw [Iu,Iu,QO];split
  · rename_i e;subst e;rfl
  · rfl
 ·simp only [P7] at hi;rw [QO];split
  · rename_i e;subst e;exact h.inn b hb
  · exact h.inn i hi
 ·simp only [P7] at hi;rw [QO,yX];split
  ·rename_i e;subst e;rw [FH,h.EP b hb,eG,AZ (by rw [Dq];exact ⟨h0,hh⟩)];rfl
  ·rename_i e;rw [h.EP i hi,eG,AX (by
    rw [Dq,hh];exact fun g=>e (afJ hn AA AA g.2)),acu,MC]
theorem Ie.pass (n:Nd) (h0:Oe p.AQ n.id≠0):Ie p L O R (N++[n]) :=
 ⟨h.out,h.inn,fun i hi=>by
  rw [h.EP i hi,yX,eG,AX (by rw [Dq];exact fun g=>h0 g.1),acu,MC]⟩
theorem Ie.home (hO:O=Ci p) (hT:Qp p L) {v:Pt} {b:Nat} (hb:Yq p v L (L.length-1) b):b<L.length/\MG p v=Lj O b:=by
 have hl:=h.len;have ht:L.tail.take (L.length-1)=L.tail:=IE Ah;have hm:L.tail.map (·.out)=O:=by rw [List.map_tail,h.out];rfl
 have e1:MG p v=(Js (fun x:AD=>encS p x.out v) (fun x:AD=>x.tw) L.tail).map (·.out):=by
  unfold MG;rw [<- hO,<- hm,au3];congr 1;refine au4 fun x hx=>⟨rfl,?_⟩;obtain ⟨i,hi,rfl⟩:=EF.1 hx;rw [List.getElem_tail];simp only [ah2] at hi;exact (hT (i+1) AA AA).symm
 unfold Yq at hb;rw [ht] at hb;rcases hb with ⟨rfl,e⟩ | ⟨hbl,h1,h2,e⟩
 ·rw [e] at e1;exact ⟨AA,by rw [e1];rfl⟩
 ·rw [e] at e1;refine ⟨hbl,?_⟩;rw [e1,VT h1 AA]
  show some L[b].out=_
  rw [h.pU hbl h1]
end
theorem Ie.start (p:Pl) (x:AD) (h1:x.out=[]) (h2:x.inn=[]) (h3:x.EP=[]):Ie p [x] [] [] []:=by
 refine ⟨by simp [h1],fun i hi=>?_,fun i hi=>?_⟩
 ·have:i=0:=by simp at hi;omega
  subst this;simp [h2]
 ·have:i=0:=by simp at hi;omega
  subst this;simp [h3]
section
variable {p:Pl} (h:Valid p)
include h
theorem Valid.WY {X:List Int} (hX:X∈Cb p):X≠[]:=fun e=>by
 obtain ⟨x,-,-,-,hx⟩:=h.Pe hX;rw [e] at hx;cases hx
theorem Valid.atT:(Cb p).Nodup:=by
 have hp:=h.aii.nodup_iff.2 h.uZ;have hd:(Cb p).Pairwise (fun a b=>∀ x∈a,∀ y∈b,x≠y):=by
  have h2:=ah7.1 hp;exact h2.2
 unfold List.Nodup;refine ah8 (fun {a b} ha hb hab e=>?_) hd;subst e;have hne:=h.WY ha
 cases a with
 | nil=>exact hne rfl
 | cons x a=>exact hab x JC x JC rfl
theorem Valid.Yu:(Cb p).length<=512:=by
 have:∀ L:List (List Int),(∀ X∈L,X≠[])->L.length<=L.flatten.length:=by
  intro L
  induction L with
  | nil=>intro _;exact Cj _
  | cons X L ih =>
   intro hL;have h1:=ih fun Y hY=>hL Y (LM _ hY);have h2:=kN.2 (hL X JC);rw [List.flatten_cons,Es,JA];omega
 have h1:=this (Cb p) fun X hX=>h.WY hX;have h2:=h.aii.length_eq;have h3:=h.wQ;omega
theorem Valid.atU {f:Int} (hf:f∈p.faces):1<=f/\f<=1073741824:=by
 have hr:=h.rng;unfold OG at hr;rw [ER] at hr;have h1:=hr.1;rw [QM,MB] at h1;have:=h1 f (kJ _ hf)
 unfold Jp at this;simp only [Ir,Dq,not_or] at this;omega
theorem Valid.atV (d:Int):Ib p d=0\/Ib p d∈p.faces:=by
 have hs:=h.sides;unfold Rx at hs;rw [LK] at hs;have hf:∀ n,Eu p.faces n=true->n=0\/n∈p.faces:=fun n hn=>by
  unfold Eu at hn;rw [Ir,OA] at hn;rcases hn with ⟨x,hx,e⟩ | e
  · have:=eq_of_beq e;subst this;exact .inr hx
  · exact .inl (eq_of_beq e)
 unfold Ib;split
 · exact .inl rfl
 ·rename_i a e;have ha:a∈p.AQ:=by
   unfold Fb at e;split at e
   · cases e
   · exact XV e
  have:=hs a ha
  rw [ER] at this;split
  · exact hf _ this.1
  · exact hf _ this.2
theorem Valid.atW (d:Int):0<=Ib p d/\Ib p d<=1073741824:=by
 rcases h.atV d with e | e
 · omega
 · have:=h.atU e;omega
theorem Valid.afK:(Ci p).Nodup:=h.atT.filter _
end
def Ll (p:Pl) (O:List (List Int)) (i:Nat):Int:=aaf p (Lj O i)
def Je (p:Pl) (O:List (List Int)) (i:Nat):List (List Int):=Kr p (Lj O i)
structure UC (p:Pl) (O:List (List Int)) (k:Nat):Prop where
 some:∀ i,1<=i->i<k->Ll p O i≠0
 differ:∀ i j,1<=i->i<j->j<k->Ll p O i≠Ll p O j
 sides:∀ i,i<k->∀ c∈Je p O i,∀ d∈c,Ib p d=Ll p O i
theorem UC.zero (p:Pl) (O:List (List Int)):UC p O 0:=⟨fun i _ h=>AA,fun i j _ _ h=>AA,fun i h=>AA⟩
def Oj (p:Pl) (O:List (List Int)) (k:Nat):List Int:=(List.range (k-1)).map fun i=>Ll p O (i+1)
theorem atX (p:Pl) (O:List (List Int)) {k:Nat} (h:1<=k):Oj p O (k+1)=Oj p O k++[Ll p O k]:=by
 unfold Oj;rw [show k+1-1=(k-1)+1 by omega,XY,FH];simp only [Ey,O9];rw [show k-1+1=k by omega]
theorem aln {p:Pl} {O:List (List Int)} {k:Nat} {x:Int}:x∈Oj p O k↔∃ i,1<=i/\i<k/\Ll p O i=x:=by
 unfold Oj;rw [Ez];constructor
 ·rintro ⟨i,hi,rfl⟩;rw [FQ] at hi;exact ⟨i+1,AA,AA,rfl⟩
 ·rintro ⟨i,h1,h2,rfl⟩;exact ⟨i-1,by rw [FQ];omega,by rw [show i-1+1=i by omega]⟩
theorem atY (p:Pl) (O:List (List Int)) (k:Nat):(Oj p O k).length=k-1:=by unfold Oj;simp
theorem UC.succ {p:Pl} {O:List (List Int)} {k:Nat} (h:UC p O k) (h1:1<=k->Ll p O k≠0) (h2:1<=k->Ll p O k∉Oj p O k) (h3:∀ c∈Je p O k,∀ d∈c,Ib p d=Ll p O k):UC p O (k+1):=by
 refine ⟨fun i hi hk=>?_,fun i j hi hj hk=>?_,fun i hi=>?_⟩
 ·by_cases e:i=k
  · subst e;exact h1 hi
  · exact h.some i hi AA
 ·by_cases e:j=k
  ·subst e;exact fun g=>h2 AA (aln.2 ⟨i,hi,hj,g⟩)
  · exact h.differ i j hi hj AA
 ·by_cases e:i=k
  · subst e;exact h3
  · exact h.sides i AA
theorem aK {p:Pl} {O:List (List Int)} {i:Nat} (h1:1<=i) (hi:i<=O.length):Ll p O i=Ib p ((O[i-1]'(by omega)).headD 0):=by
 unfold Ll;rw [VT h1 hi];rfl
theorem UC.iff {p:Pl} {O:List (List Int)} (hp:O.Perm (Ci p)):aeA p↔UC p O (O.length+1)/\O.length=p.faces.length:=by
 constructor
 ·intro h;refine ⟨⟨fun i h1 h2=>?_,fun i j h1 h2 h3=>?_,fun i hi=>?_⟩,by rw [hp.length_eq];exact h.all⟩
  ·rw [aK h1 AA];exact h.some _ (hp.subset (BO _))
  ·rw [aK h1 AA,aK AA AA];intro e;have hd:=(hp.map (fun X=>Ib p (X.headD 0))).nodup_iff.2 h.differ;unfold List.Nodup at hd;rw [IX,G9] at hd;exact hd (i-1) (j-1) AA AA AA e
  ·refine h.sides _ ?_;by_cases e:i=0
   · subst e;exact .inl rfl
   ·rw [VT AA AA];exact .inr ⟨_,hp.subset (BO _),rfl⟩
 ·rintro ⟨h,ha⟩;refine ⟨fun X hX=>?_,?_,fun b hb=>?_,by rw [<- hp.length_eq];exact ha⟩
  ·obtain ⟨i,hi,rfl⟩:=EF.1 (hp.symm.subset hX);have:=h.some (i+1) AA AA
   rw [aK AA AA] at this;exact this
  ·refine (hp.map (fun X=>Ib p (X.headD 0))).nodup_iff.1 ?_;unfold List.Nodup;rw [IX,G9];intro i j hi hj hij;have:=h.differ (i+1) (j+1) AA AA AA
   rw [aK AA AA,aK AA AA] at this;exact this
  ·rcases hb with rfl | ⟨X,hX,rfl⟩
   · exact h.sides 0 AA
   ·obtain ⟨i,hi,rfl⟩:=EF.1 (hp.symm.subset hX);have:=h.sides (i+1) AA
    unfold Je Ll at this;rw [VT AA AA] at this;exact this
def alo (p:Pl):List (Option (List Int)):=none::(Ci p).map some
def VU (p:Pl):Bool:=(Ci p).all (fun X=>Ib p (X.headD 0) != 0) && decide ((Ci p).map (fun X=>Ib p (X.headD 0))).Nodup && (alo p).all (fun b=>(Kr p b).all fun c=>c.all fun d=>Ib p d == aaf p b) && decide ((Ci p).length=p.faces.length)
theorem alp {p:Pl}:VU p=true↔aeA p:=by
 unfold VU alo;simp only [ER,Dq,LK,FI,Ez,bne_iff_ne,beq_iff_eq];constructor
 ·rintro ⟨⟨⟨h1,h2⟩,h3⟩,h4⟩;refine ⟨h1,h2,fun b hb=>h3 b ?_,h4⟩;rcases hb with h | ⟨X,hX,h⟩
  · exact .inl h
  · exact .inr ⟨X,hX,h.symm⟩
 ·rintro ⟨h1,h2,h3,h4⟩;refine ⟨⟨⟨h1,h2⟩,fun b hb=>h3 b ?_⟩,h4⟩;rcases hb with h | ⟨X,hX,h⟩
  · exact .inl h
  · exact .inr ⟨X,hX,h.symm⟩
theorem alq {p:Pl} {O:List (List Int)} (hp:O.Perm (Ci p)):VU p=true↔UC p O (O.length+1)/\O.length=p.faces.length:=alp.trans (UC.iff hp)
set_option linter.unusedSectionVars false
theorem abh (P:List Pt):(Jq P).length=P.length-1:=by unfold Jq;simp
theorem alr {P:List Pt} {k:Nat} (hk:k<(Jq P).length):(Jq P)[k]=(P.getD k AY,P.getD (k+1) AY):=by unfold Jq;simp
theorem afL {P:List Pt} {k:Nat} (hk:k<P.length):P.reverse.getD k AY=P.getD (P.length-1-k) AY:=by
 rw [Gm,Gm,List.getElem?_reverse hk]
theorem atZ (P:List Pt):Jq P.reverse=((Jq P).map fun q=>(q.2,q.1)).reverse:=by
 apply dV (by simp [abh]);intro k h1 h2;simp only [abh,WB] at h1;rw [alr,List.getElem_reverse,Iu,alr];simp only [CV,abh];rw [afL AA,afL AA];rw [show P.length-1-1-k+1=P.length-1-k by omega,show P.length-1-(k+1)=P.length-1-1-k by omega]
theorem ata (a b v:Pt):Ee a b v=Ee b a v:=by
 unfold Ee;have e1:EO [a,b,v]=EO [b,a,v]:=by unfold EO;simp only [yQ,acn];cases CJ a<;>cases CJ b<;>rfl
 have t:tw b a v=-tw a b v:=by unfold tw;grind
 rw [e1,t,ql b.x a.x,qm b.x a.x,ql b.y a.y,qm b.y a.y];congr 1;by_cases h:tw a b v=0
 · rw [h];rfl
 · simp [h]
theorem als (v a b:Pt):KU v a b=KU v b a:=by
 have t:tw b a v=-tw a b v:=by unfold tw;grind
 unfold KU;rw [t,decide_eq_decide];omega
def Nv (p:Pl) (d:Int):List Pt:=if 0<d then MF p d else (MF p d).reverse
def QF (p:Pl) (X:List Int):List (Pt×Pt):=X.flatMap fun d=>Jq (Nv p d)
def abj (p:Pl) (X:List Int) (v:Pt):Bool:=(RU v (QF p X)).2 && !(RU v (QF p X)).1
theorem alu (p:Pl) (d:Int) (v:Pt):((Jq (Nv p d)).any fun q=>Ee q.1 q.2 v)=((Jq (MF p d)).any fun q=>Ee q.1 q.2 v) /\
  ((Jq (Nv p d)).map fun q=>if KU v q.1 q.2 then (1:Int) else 0).sum=((Jq (MF p d)).map fun q=>if KU v q.1 q.2 then (1:Int) else 0).sum:=by
 unfold Nv;split
 · exact ⟨rfl,rfl⟩
 ·rw [atZ];refine ⟨?_,?_⟩
  ·rw [List.any_reverse,XW];congr 1
   funext q
   exact ata _ _ _
  ·rw [List.map_reverse,List.sum_reverse,IW];congr 2
   funext q
   simp only [Function.comp];rw [als]
theorem alv (p:Pl) (X:List Int) (v:Pt):abj p X v=encS p X v:=by
 unfold abj encS;rw [aae,aae];have h1:((QF p X).any fun q=>Ee q.1 q.2 v)=((Jr p X).any fun q=>Ee q.1 q.2 v):=by
  unfold QF Jr;rw [List.any_flatMap,List.any_flatMap];congr 1
  funext d
  exact (alu p d v).1
 have h2:((QF p X).map fun q=>if KU v q.1 q.2 then (1:Int) else 0).sum=((Jr p X).map fun q=>if KU v q.1 q.2 then (1:Int) else 0).sum:=by
  unfold QF Jr;clear h1
  induction X with
  | nil=>rfl
  | cons d X ih =>
   rw [N7,N7,FH,FH,O8,O8,ih,(alu p d v).2]
 rw [h1,h2]
def pV (w:World) (v:Value) (L:List (List Int×SV)):Prop:=Sl w v L.length (L.flatMap J5)/\∀ x∈L,Ints w (.slice x.2.a x.2.n x.2.c) x.1
theorem pV.mono {w w':World} {v:Value} {L:List (List Int×SV)} (h:pV w v L) (hb:AU w w'):pV w' v L :=
 ⟨Sl.mono h.1 hb,fun x hx=>(h.2 x hx).mono hb⟩
theorem Sj.read {w:World} {B:Nat} {v:Value} {L:List (List Int×SV)} (h:Sj w B v L):pV w v L:=⟨h.1.sl,fun x hx=>(h.2 x hx).sl⟩
theorem Row.cy {w:World} {A:Option Addr} {l:List (List Int×SV)} (h:Row w A (l.flatMap J5)) {k:Nat} (hk:k<l.length) :
  ∃ b o,A=some ⟨b,o,none⟩/\b<w.heap.size/\w.cell? ⟨b,o+k,none⟩=some (.slice l[k].2.a l[k].2.n l[k].2.c):=by
 obtain ⟨b,o,hA,hb,hc⟩:=h.at_ (n:=1) (fun _=>rfl) hk AA;exact ⟨b,o,hA,hb,by simpa using hc 0 _ rfl⟩
def Yv (a b c:Pt):Int:=if 0<tw a b c then 1 else if tw a b c<0 then -1 else 0
theorem alx (a b c:Pt) (w:World) (ha:lim a) (hb:lim b) (hc:lim c) :
  Calls prog 224 #[BA a,BA b,BA c] w fun e w'=>e=.returned (.int .i64 (Yv a b c))/\AU w w':=by
 obtain ⟨a1,a2,a3,a4⟩:=ha;obtain ⟨b1,b2,b3,b4⟩:=hb;obtain ⟨c1,c2,c3,c4⟩:=hc;obtain ⟨m1,m2⟩:=Qa (b.x-a.x) (c.y-a.y) 4194304 AA AA AA AA;obtain ⟨m3,m4⟩:=Qa (c.x-a.x) (b.y-a.y) 4194304 AA AA AA AA;simp only [Int.reduceMul,Int.reduceNeg] at m1 m2 m3 m4;have ht:tw a b c=(b.x-a.x)*(c.y-a.y)-(c.x-a.x)*(b.y-a.y):=by unfold tw;rw [OB (b.y-a.y)]
 unfold BA Yv;rw [ht];clear ht;go_enter func224,ntmps224;go_wp2_with fail
 all_goals
  go_ret;refine ⟨D8 rfl,?_⟩;exact Dy
theorem atb {a b c:Pt}:0<Yv a b c↔0<tw a b c:=by unfold Yv;split<;>(try split)<;>omega
theorem atc {a b c:Pt}:Yv a b c=0↔tw a b c=0:=by unfold Yv;split<;>(try split)<;>omega
theorem av5 (a b p:Pt) (w:World) (hn:EO [a,b,p]=true) :
  Calls prog 223 #[BA a,BA b,BA p] w fun e w'=>e=.returned (.bool (Ee a b p))/\AU w w':=by
 obtain ⟨ha,hb,hc⟩:=aaO hn;have T:∀ W,Calls prog 224 #[BA a,BA b,BA p] W _:=fun W=>alx a b p W ha hb hc;unfold BA at T ⊢;have hS:Ee a b p=(decide (Yv a b p=0) && decide (min a.x b.x<=p.x) && decide (p.x<=max a.x b.x) && decide (min a.y b.y<=p.y) && decide (p.y<=max a.y b.y)):=by simp [Ee,hn,atc]
 rw [hS];generalize Yv a b p=t at *;have HT:=AB T;clear T ha hb hc hS hn;go_enter func223,ntmps223;go_wp2_with fail;refine (HT.1 _).mono ?_;rintro e w2 ⟨rfl,hb2⟩;obtain ⟨aoO,aoP⟩:=Uu hb2;have ae2:=hb2.size
 try simp only [World.size_alloc,World.size_setCell,World.size_drew] at ae2
 have aoQ:w.heap.size<w2.heap.size:=AA
 have aoR:w.heap.size+1<w2.heap.size:=AA
 have aoS:w.heap.size+1+1<w2.heap.size:=AA
 by_cases ht:t=0
 ·subst ht;go_wp2_with fail
  all_goals
   go_ret;refine ⟨CP (by first | rfl | (rw [Jh];simp only [ER,Dq,QL,false_iff,true_iff];try omega)),?_⟩;exact Dy
 ·have ht':(t == 0)=false:=by simpa using ht
  go_wp2;go_ret;refine ⟨CP (by simp [ht]),?_⟩;exact Dy
theorem av6 {d:Int}:max d (-d)=FD d:=by
 unfold FD;split
 · omega
 · omega
theorem afM (d:Int) (w:World) (h:-4611686018427387904<=d/\d<=4611686018427387904):Calls prog 186 #[.int .i64 d] w fun e w'=>e=.returned (.int .i64 (FD d))/\AU w w':=by
 have k1:=EL (-d);rw [<- av6];go_enter func186,ntmps186;go_wp2;go_ret;exact ⟨rfl,bR w⟩
theorem aly (a b:Int) (w:World) (ha:-4611686018427387904<=a/\a<=4611686018427387904) (hb:-4611686018427387904<=b/\b<=4611686018427387904):Calls prog 177 #[.int .i64 a,.int .i64 b] w fun e w'=>e=.returned (.bool (Gh a b))/\AU w w':=by
 have HA:=AB (fun W=>afM a W ha);have HB:=AB (fun W=>afM b W hb);have hq:Gh a b=(decide (FD a<FD b) || (decide (FD a=FD b) && decide (b<a))):=rfl;rw [hq];clear hq ha hb;generalize FD a=x at *;generalize FD b=y at *;go_enter func177,ntmps177;go_wp2_with fail;refine (HA.1 _).mono ?_;rintro e w1 ⟨rfl,hb1⟩;go_wp2_with fail;refine (HB.1 _).mono ?_;rintro e w2 ⟨rfl,hb2⟩;have B2:=AB (bT hb1 hb2);clear hb1 hb2;by_cases h1:x<y
 ·go_wp2;go_ret;exact ⟨CP (by simp [h1]),B2.1⟩
 ·go_wp2_with fail;refine (HA.1 _).mono ?_;rintro e w3 ⟨rfl,hb3⟩;go_wp2_with fail;refine (HB.1 _).mono ?_;rintro e w4 ⟨rfl,hb4⟩;have B4:=AB (bT B2.1 (bT hb3 hb4));clear hb3 hb4;by_cases h2:x=y
  ·have h2':(x == y)=true:=by simpa using h2
   by_cases h3:b<a
   ·have HF:=AB (show (decide (x<y) || (decide (x=y) && decide (b<a)))=true by simp [h2,h3]);clear h2;go_wp2;go_ret;exact ⟨CP (by rw [HF.1];try simp [h1,h3]),B4.1⟩
   ·have HF:=AB (show (decide (x<y) || (decide (x=y) && decide (b<a)))=false by simp [h1,h3]);clear h2;go_wp2;go_ret;exact ⟨CP (by rw [HF.1];try simp [h1,h3]),B4.1⟩
  ·have h2':(x == y)=false:=by simpa using h2
   have HF:=AB (show (decide (x<y) || (decide (x=y) && decide (b<a)))=false by simp [h1,h2]);clear h2;go_wp2;go_ret;exact ⟨CP (by rw [HF.1];try simp [h1]),B4.1⟩
theorem av7 (v:Value) (c:List Int) (w:World) (h:Ints w v c) (hne:0<c.length) (hb:∀ d∈c,-1073741824<=d/\d<=1073741824):Calls prog 178 #[v] w fun e w'=>e=.returned (.int .i64 (Dp c))/\AU w w':=by
 obtain ⟨A,cc,rfl,h1,h2,hR⟩:=h;unfold maxLen at h2;obtain ⟨HR,HUp,afN⟩:=CG hR (fun n (hn:n<c.length)=>ake (c:=c) hn) (akf c);have mJ:=AB (show ∀ n,-1073741824<=OM c n/\OM c n<=1073741824 from fun n=>by
  have h1:c.headD 0∈c:=by
   cases c with
   | nil=>cases hne
   | cons a c=>exact JC
  rcases abU (c.take n) (c.headD 0) with e | e
  · unfold OM;rw [e];exact hb _ h1
  · exact hb _ (kW e))
 have jD:=AB (fun n (hn:n<c.length)=>hb _ (BO hn));have hh:c.headD 0=c[0]:=by
  cases c with
  | nil=>cases hne
  | cons a c=>rfl
 have h0:OM c 0=c[0]:=by unfold OM;rw [OD];exact hh
 obtain ⟨b0,o0,rfl,hlb0,c0⟩:=(HR.1).int hne;rw [<- h0] at c0;simp only [RF] at c0;have kz:(0:Int)<c.length:=AA
 have kn:¬ c=[]:=fun e=>by have:=congrArg List.length e;simp only [LH] at this;omega
 clear hb hR h0 hh;go_enter func178,ntmps178;go_wp2_with fail;clear c0 hlb0;go_loopw [3,4] (fun s i wr=>∃ k:Nat,k<=c.length/\i=.int .i64 k/\s=.int .i64 (OM c k)/\AU w wr) (fun _ i _=>c.length-(intOf i).toNat)
 case atStart => exact ⟨0,BX _,rfl,rfl,bR w⟩
 case round =>
  obtain ⟨k,hk,rfl,rfl,hbw⟩:=hrel;have KF:=AB hbw;have hkb:=mJ.1 k;clear hbw;by_cases hlt:k<c.length
  ·obtain ⟨b,o,hA,hlb,c1⟩:=(HR.1.mono KF.1).int hlt;injection hA with hA;injection hA with y1 y2 _;subst y1 y2;have hdb:=jD.1 k hlt;have HU:=AB (HUp.1 k hlt);generalize c[k]=d at *;generalize OM c k=q at *;have WZ:=AB (fun W=>aly d q W AA AA);obtain ⟨z,hz⟩:=BI (Gh d q);rw [hz] at WZ;have HZ:=AB hz;have abk:=AB c1;have VF:=hlb;clear hz;go_wp2_with fail;refine (WZ.1 _).mono ?_;rintro e w2 ⟨rfl,hb2⟩;have HB2:=AB (bT KF.1 hb2);have c2:=KL hb2 abk.1;have UD:b0<w2.heap.size:=by have:=hb2.size;omega
   clear hb2 c1 hlb VF abk
   cases z
   ·have hs:=AB (show Qn q d=q by unfold Qn;rw [HZ.1];rfl);go_wp2;go_roundw
    case rel => exact ⟨k+1,AA,BG,by rw [HU.1,hs.1],HB2.1⟩
    case measure => exact BH
   ·have hs:=AB (show Qn q d=d by unfold Qn;rw [HZ.1];rfl);go_wp2;go_roundw
    case rel => exact ⟨k+1,AA,BG,by rw [HU.1,hs.1],HB2.1⟩
    case measure => exact BH
  ·obtain rfl:k=c.length:=AA
   have hf:=afN.1;rw [hf];go_wp2;go_ret;exact ⟨rfl,KF.1⟩
theorem IV.symm {u v:Value} (h:IV u v):IV v u:=fun g hg e=>h g e hg
theorem pW {α:Type} {R:α->α->Prop} (hs:∀ a b,R a b->R b a) {l:List α} (h:l.Pairwise R) {i j:Nat} (hi:i<l.length) (hj:j<l.length) (hne:i≠j):R l[i] l[j]:=by
 rw [G9] at h;by_cases c:i<j
 · exact h i j hi hj c
 · exact hs _ _ (h j i hj hi AA)
theorem UE {α:Type} {l:List α} {i:Nat} {y x:α} (h:x∈l.set i y):(x=y/\i<l.length)\/∃ j,∃ hj:j<l.length,j≠i/\x=l[j]:=by
 obtain ⟨j,hj,rfl⟩:=EF.1 h;have hj':j<l.length:=by simpa using hj
 rw [QO];by_cases e:i=j
 · subst e;rw [AZ rfl];exact .inl ⟨rfl,hj'⟩
 · rw [AX e];exact .inr ⟨j,hj',fun h=>e h.symm,rfl⟩
theorem GY.read {e:TypeId} {w0 w:World} {B:Nat} {v:Value} {L:List AD} (h:GY e w0 w B v L) (hb:AU w0 w):AdR w v L:=⟨h.own.sl,fun x hx=>(h.out x hx).mono hb⟩
theorem Own.row_of {α:Type} {f:α->List Value} {w:World} {base:Nat} {e:TypeId} {size:Nat} {A:Option Addr} {n c:Nat} {l:List α} (h:Own w base e size f (.slice A n c) l):Row w A (l.flatMap f):=by
 obtain ⟨A',c',he,-,-,hr⟩:=h.sl;injection he with e1 e2 e3;subst e1;exact hr
theorem Own.Ol {e:TypeId} {w:World} {B:Nat} {A:Option Addr} {n c:Nat} {L:List AD} (h:Own w B e 4 F9 (.slice A n c) L) (hl:0<L.length):∃ g,A=some ⟨g,0,none⟩/\B<=g/\g<w.heap.size/\(∀ j,w.frozen? ⟨g,j,none⟩=false) /\
  ∀ k (hk:k<L.length),w.cell? ⟨g,k*4,none⟩=some (.int .i64 L[k].tw)/\w.cell? ⟨g,k*4+1,none⟩=some (BF L[k].ov)/\w.cell? ⟨g,k*4+2,none⟩=some (BF L[k].iv)/\w.cell? ⟨g,k*4+3,none⟩=some (BF L[k].av):=by
 have hr:=h.row_of;rcases h.2 with ⟨_,h0⟩ | ⟨g,cap,cur,hv,hg,hh,-⟩
 · omega
 ·injection hv with e1 e2 e3;subst e1;refine ⟨g,rfl,hg,AO.lt hh,fun j=>AO.frozen hh j,fun k hk=>?_⟩;obtain ⟨b,o,Ik,-,c0,c1,c2,c3⟩:=hr.ad hk;injection Ik with Ik;injection Ik with y1 y2 _;subst y1 y2;simp only [Ug] at c0 c1 c2 c3;exact ⟨c0,c1,c2,c3⟩
structure pX (w:World) (v:Value) (L:List AD):Prop where
 sl:Sl w v L.length (L.flatMap F9)
 out:∀ x∈L,Ints w (BF x.ov) x.out
 inn:∀ x∈L,Sl w (BF x.iv) x.inn.length (x.inn.flatMap J5)
 KT:∀ x∈L,∀ c∈x.inn,Ints w (BF c.2) c.1
 EP:∀ x∈L,Ints w (BF x.av) x.EP
theorem pX.mono {w w':World} {v:Value} {L:List AD} (h:pX w v L) (hb:AU w w'):pX w' v L :=
 ⟨h.sl.mono hb,fun x hx=>(h.out x hx).mono hb,fun x hx=>(h.inn x hx).mono hb,fun x hx c hc=>(h.KT x hx c hc).mono hb,fun x hx=>(h.EP x hx).mono hb⟩
theorem GY.full {e:TypeId} {w0 w:World} {B:Nat} {v:Value} {L:List AD} (h:GY e w0 w B v L) (hb:AU w0 w):pX w v L :=
 ⟨h.own.sl,fun x hx=>(h.out x hx).mono hb,fun x hx=>(h.inn x hx).sl,fun x hx c hc=>(h.KT x hx c hc).mono hb,fun x hx=>(h.EP x hx).sl⟩
theorem GY.more {e:TypeId} (he:e≠32/\e≠3) {w0 w w1:World} {B:Nat} {v v':Value} {L:List AD} (h:GY e w0 w B v L) {x:AD} (ho:Own w1 B e 4 F9 v' (L++[x])) (hg:w.grownBy w1 v.ownBlock)
  (hx:Ints w0 (BF x.ov) x.out) (h1:x.inn=[]) (h2:x.iv=sv0) (h3:x.EP=[]) (h4:x.av=sv0):GY e w0 w1 B v' (L++[x]):=by
 have s0:∀ u,IV u (BF sv0):=fun u g _ e=>by cases e
 refine ⟨ho,fun y hy=>?_,fun y hy=>?_,fun y hy=>?_,fun y hy=>?_,?_,?_⟩
 ·rcases GI.1 hy with hy | hy
  · exact h.out y hy
  · rw [Eb] at hy;subst hy;exact hx
 ·rcases GI.1 hy with hy | hy
  · exact Own.grown (h.inn y hy) hg (fun g hg'=>Own.apart (h.inn y hy) h.own he.1.symm g hg')
  ·rw [Eb] at hy;subst hy;rw [h1,h2];exact Own.nil _ _ _ _ _
 ·rcases GI.1 hy with hy | hy
  · exact h.KT y hy
  ·rw [Eb] at hy;subst hy;rw [h1];intro c hc;cases hc
 ·rcases GI.1 hy with hy | hy
  · exact Own.grown (h.EP y hy) hg (fun g hg'=>Own.apart (h.EP y hy) h.own he.2.symm g hg')
  ·rw [Eb] at hy;subst hy;rw [h3,h4];exact Own.nil _ _ _ _ _
 ·rw [dZ];refine ⟨h.dB,dh _ _,fun a _ b hb=>?_⟩;rw [Eb] at hb;subst hb;rw [h2];exact s0 _
 ·rw [dZ];refine ⟨h.dF,dh _ _,fun a _ b hb=>?_⟩;rw [Eb] at hb;subst hb;rw [h4];exact s0 _
theorem GY.av8 {e:TypeId} (he:e≠32/\e≠3) {w0 w w1:World} {B B':Nat} {v u:Value} {L:List AD} {R:List (List Int×SV)} (h:GY e w0 w B v L) (hg:w.grownBy w1 u.ownBlock) (hu:Own w B' 32 1 J5 u R) (hz:∀ x∈L,x.iv=sv0):GY e w0 w1 B v L:=by
 refine ⟨Own.grown h.own hg (fun g hg'=>Own.apart h.own hu he.1 g hg'),h.out,fun x hx=>?_,h.KT,fun x hx=>Own.grown (h.EP x hx) hg (fun g hg'=>Own.apart (h.EP x hx) hu Aw g hg'),h.dB,h.dF⟩;refine Own.grown (h.inn x hx) hg (fun g hg'=>?_);rw [hz x hx] at hg'
 cases hg'
theorem GY.abl {e:TypeId} (he:e≠32/\e≠3) {w0 w w1:World} {B g n cc:Nat} {L:List AD} (h:GY e w0 w B (.slice (some ⟨g,0,none⟩) n cc) L) {i:Nat} (hi:i<L.length) {Oi:SV} {c:List Int×SV}
  (ho:Own w1 B 32 1 J5 (BF Oi) (L[i].inn++[c])) (hg:w.grownBy w1 (BF L[i].iv).ownBlock) (hat:(BF Oi).ownBlock=(BF L[i].iv).ownBlock\/(BF Oi).ownBlock=some w.heap.size) (hc:Ints w0 (BF c.2) c.1) :
  GY e w0 (w1.setCell ⟨g,i*4+2,none⟩ (BF Oi)) B (.slice (some ⟨g,0,none⟩) n cc) (L.set i {L[i] with inn:=L[i].inn++[c],iv:=Oi}):=by
 have hgv:(Value.slice (some ⟨g,0,none⟩) n cc).ownBlock=some g:=rfl;have hm:=BO hi;have vY:Own w1 B e 4 F9 (.slice (some ⟨g,0,none⟩) n cc) L:=Own.grown h.own hg (fun g' hg'=>Own.apart h.own (h.inn _ hm) he.1 g' hg');have iR:∀ {b:Nat} {e9:TypeId} {s:Nat} {α:Type} {f:α->List Value} {v:Value} {l:List α},Own w1 b e9 s f v l->e9≠e->Own (w1.setCell ⟨g,i*4+2,none⟩ (BF Oi)) b e9 s f v l:=fun h9 hne=>Own.far h9 (fun e8=>Own.apart h9 vY hne g e8 hgv.symm) _;have sep1:∀ j (hj:j<L.length),j≠i->IV (BF L[j].iv) (BF Oi):=fun j hj hji g' hg' e=>by
  rcases hat with h9 | h9
  ·rw [h9] at e;exact pW (fun a b=>IV.symm) h.dB hj hi hji g' hg' e
  ·rw [h9] at e;have:=((h.inn _ (BO hj)).lt g' hg').2
   have:=DV e
   omega
 refine ⟨Own.jC Sr vY hi AA _ _ rfl,fun x hx=>?_,fun x hx=>?_,fun x hx=>?_,fun x hx=>?_,?_,?_⟩
 ·rcases UE hx with ⟨rfl,_⟩ | ⟨j,hj,_,rfl⟩
  · exact h.out L[i] hm
  · exact h.out _ (BO hj)
 ·rcases UE hx with ⟨rfl,_⟩ | ⟨j,hj,hji,rfl⟩
  · exact iR ho he.1.symm
  · exact iR (Own.grown (h.inn _ (BO hj)) hg (fun g' hg' e=>pW (fun a b=>IV.symm) h.dB hj hi hji g' hg' e.symm)) he.1.symm
 ·rcases UE hx with ⟨rfl,_⟩ | ⟨j,hj,_,rfl⟩
  ·intro d hd;rcases GI.1 hd with hd | hd
   · exact h.KT L[i] hm d hd
   · rw [Eb] at hd;subst hd;exact hc
  · exact h.KT _ (BO hj)
 ·have:∀ y∈L,Own (w1.setCell ⟨g,i*4+2,none⟩ (BF Oi)) B 3 1 DY (BF y.av) y.EP:=fun y hy=>iR (Own.grown (h.EP y hy) hg (fun g' hg'=>Own.apart (h.EP y hy) (h.inn _ hm) Aw g' hg')) he.2.symm
  rcases UE hx with ⟨rfl,_⟩ | ⟨j,hj,_,rfl⟩
  · exact this L[i] hm
  · exact this _ (BO hj)
 ·rw [G9];intro a b ha hb hab;simp only [P7] at ha hb;rw [QO,QO];by_cases e1:i=a
  ·subst e1;rw [AZ rfl,AX AA];exact (sep1 b hb AA).symm
  ·rw [AX e1];by_cases e2:i=b
   ·subst e2;rw [AZ rfl];exact sep1 a ha AA
   ·rw [AX e2];exact pW (fun a b=>IV.symm) h.dB ha hb AA
 ·have e:(L.set i {L[i] with inn:=L[i].inn++[c],iv:=Oi}).map (·.av)=L.map (·.av):=by
   apply dV Ah;intro j h1 h2;rw [Iu,Iu,QO];split
   · rename_i e;subst e;rfl
   · rfl
  have hp:(L.map (·.av)).Pairwise (fun x y=>IV (BF x) (BF y)):=IX.2 h.dF;rw [<- e] at hp;exact (IX (f:=fun x:AD=>x.av) (R:=fun x y=>IV (BF x) (BF y))).1 hp
theorem GY.vZ {e:TypeId} (he:e≠32/\e≠3) {w0 w w1:World} {B g n cc:Nat} {L:List AD} (h:GY e w0 w B (.slice (some ⟨g,0,none⟩) n cc) L) {i:Nat} (hi:i<L.length) {OV:SV} {c:Int}
  (ho:Own w1 B 3 1 DY (BF OV) (L[i].EP++[c])) (hg:w.grownBy w1 (BF L[i].av).ownBlock) (hat:(BF OV).ownBlock=(BF L[i].av).ownBlock\/(BF OV).ownBlock=some w.heap.size) :
  GY e w0 (w1.setCell ⟨g,i*4+3,none⟩ (BF OV)) B (.slice (some ⟨g,0,none⟩) n cc) (L.set i {L[i] with EP:=L[i].EP++[c],av:=OV}):=by
 have hgv:(Value.slice (some ⟨g,0,none⟩) n cc).ownBlock=some g:=rfl;have hm:=BO hi;have vY:Own w1 B e 4 F9 (.slice (some ⟨g,0,none⟩) n cc) L:=Own.grown h.own hg (fun g' hg'=>Own.apart h.own (h.EP _ hm) he.2 g' hg');have iR:∀ {b:Nat} {e9:TypeId} {s:Nat} {α:Type} {f:α->List Value} {v:Value} {l:List α},Own w1 b e9 s f v l->e9≠e->Own (w1.setCell ⟨g,i*4+3,none⟩ (BF OV)) b e9 s f v l:=fun h9 hne=>Own.far h9 (fun e8=>Own.apart h9 vY hne g e8 hgv.symm) _;have sep1:∀ j (hj:j<L.length),j≠i->IV (BF L[j].av) (BF OV):=fun j hj hji g' hg' e=>by
  rcases hat with h9 | h9
  ·rw [h9] at e;exact pW (fun a b=>IV.symm) h.dF hj hi hji g' hg' e
  ·rw [h9] at e;have:=((h.EP _ (BO hj)).lt g' hg').2
   have:=DV e
   omega
 refine ⟨Own.jC Sr vY hi AA _ _ rfl,fun x hx=>?_,fun x hx=>?_,fun x hx=>?_,fun x hx=>?_,?_,?_⟩
 ·rcases UE hx with ⟨rfl,_⟩ | ⟨j,hj,_,rfl⟩
  · exact h.out L[i] hm
  · exact h.out _ (BO hj)
 ·have:∀ y∈L,Own (w1.setCell ⟨g,i*4+3,none⟩ (BF OV)) B 32 1 J5 (BF y.iv) y.inn:=fun y hy=>iR (Own.grown (h.inn y hy) hg (fun g' hg'=>Own.apart (h.inn y hy) (h.EP _ hm) Aw g' hg')) he.1.symm
  rcases UE hx with ⟨rfl,_⟩ | ⟨j,hj,hji,rfl⟩
  · exact this L[i] hm
  · exact this _ (BO hj)
 ·rcases UE hx with ⟨rfl,_⟩ | ⟨j,hj,_,rfl⟩
  · exact h.KT L[i] hm
  · exact h.KT _ (BO hj)
 ·rcases UE hx with ⟨rfl,_⟩ | ⟨j,hj,hji,rfl⟩
  · exact iR ho he.2.symm
  · exact iR (Own.grown (h.EP _ (BO hj)) hg (fun g' hg' e=>pW (fun a b=>IV.symm) h.dF hj hi hji g' hg' e.symm)) he.2.symm
 ·have e:(L.set i {L[i] with EP:=L[i].EP++[c],av:=OV}).map (·.iv)=L.map (·.iv):=by
   apply dV Ah;intro j h1 h2;rw [Iu,Iu,QO];split
   · rename_i e;subst e;rfl
   · rfl
  have hp:(L.map (·.iv)).Pairwise (fun x y=>IV (BF x) (BF y)):=IX.2 h.dB;rw [<- e] at hp;exact (IX (f:=fun x:AD=>x.iv) (R:=fun x y=>IV (BF x) (BF y))).1 hp
 ·rw [G9];intro a b ha hb hab;simp only [P7] at ha hb;rw [QO,QO];by_cases e1:i=a
  ·subst e1;rw [AZ rfl,AX AA];exact (sep1 b hb AA).symm
  ·rw [AX e1];by_cases e2:i=b
   ·subst e2;rw [AZ rfl];exact sep1 a ha AA
   ·rw [AX e2];exact pW (fun a b=>IV.symm) h.dF ha hb AA
theorem av9 {P:List Pt} {k:Nat} (hk:k<P.length):P.reverse.take (k+1)=P.reverse.take k++[P[P.length-1-k]'(by omega)]:=by
 rw [Em Uc,List.getElem_reverse]
theorem alz (v:Value) (p:Pl) (d:Int) (w:World) (h:D6 w v p) (hv:Valid p) (hd:d∈Bj p):Calls prog 136 #[v,.int .i64 d] w (Zm w (Nv p d)):=by
 have hbd:=hv.QC hd;obtain ⟨a,ha,hor,hpt⟩:=hv.gQ hd;have hid:=hv.IQ ha;have hai:FD d=a.id:=by unfold FD;rcases hor with rfl | rfl<;>split<;>omega
 have hpo:=hv.sound.path ha;have XK:=AB (fun W=>afM d W AA);have I9:=AB (fun W (hW:AU w W)=>ai5 v p (FD d) W (h.mono hW) hv.short);rw [hai,hpo] at I9;rw [hai] at XK;unfold gX at I9;simp only [Ih,Ud,if_true] at I9;have hq:Nv p d=if 0<d then AV p a else (AV p a).reverse:=by unfold Nv;rw [hpt]
 rw [hq];have ZT:=hv.Xr ha;have hpl:2<=(AV p a).length/\(AV p a).length<=66:=by have:=Fa p a;omega
 obtain ⟨_,_,_,al,rfl,hpa,⟨An,cn,rfl,-⟩,⟨⟨Aa,ca,rfl,-⟩,-⟩,⟨Af,cf,rfl,-⟩⟩:=h;clear hpa hv hor hpt hpo hai hq ZT ha hd;generalize p.nodes.length=nn at *;generalize al.length=na at *;generalize p.faces.length=nf at *;generalize a.id=ai at *;generalize AV p a=P at *;go_enter func136,ntmps136;go_upto_region 1 with fail;obtain ⟨W1,hW⟩:∃ W:World,W=w.alloc (.cells #[.slice An nn cn,.slice Aa na ca,.slice Af nf cf] 34):=⟨_,rfl⟩;have X1:AO W1 w.heap.size 34 #[.slice An nn cn,.slice Aa na ca,.slice Af nf cf]:=by rw [hW];exact AO.made rfl _ _
 have HB1:=AB (show AU w W1 by rw [hW];exact bA (bR w) _);rw [<- hW];clear hW;have hz1:=HB1.1.size;obtain ⟨BJ,BK,BL,BQ,-⟩:=X1.Az;refine D9 (W1) (.take 0 1 (.take 1 3 (.call 2 7 (.call 3 15 (.run 5 4 15 (.done)))))) fun CQ QR Ae Aj hS=>?_
 iterate 2 refine Ak ?_
 refine II (XK.1 _) ?_;clear hS;intro BZ BU hS;refine BN ?_;clear hS;intro K hK AP;go_simp;refine (I9.1 _ (bT HB1.1 AP.out)).mono ?_;rintro e wr2 ⟨A,c,rfl,Du,ho⟩;have hS:Since W1 wr2:=bT (w:=W1) AP.out Du;clear AP;refine hK.out _ _ hS (fun _=>?_);clear hK K
 try simp only [pu]
 iterate 5 refine Ak ?_
 refine D5 ?_;clear hS Aj Ae;intro hB;have HB2:=AB (bT HB1.1 hB);have hz3:w.heap.size<=BZ.heap.size:=by have h1:=(bD (bR W1)).size;have h2:=BU.size;have:=HB1.1.size;omega
 have HO:=AB (ho.EM hz3);clear hB BU Du ho X1 BJ BK BL BQ HB1 I9 XK hz3;by_cases h0:0<d
 ·rw [AZ h0];go_wp2;go_ret;exact ⟨A,c,rfl,HB2.1,HO.1⟩
 ·rw [AX h0];have U9:=AB (fun k (hk:k<P.length)=>av9 hk);go_upto_block 0 with fail;go_wp2_with fail;go_loopw [7,8] (fun s i wr=>∃ k:Nat,k<=P.length/\i=.int .i64 ((P.length:Int)-1-k)/\(∃ A c,s=.slice A k c)/\Own wr wr2.heap.size 42 2 DK s (P.reverse.take k)/\AU wr2 wr) (fun _ i _=>(intOf i+1).toNat)
  case atStart => exact ⟨0,BX _,Ah,⟨none,0,rfl⟩,Own.nil _ _ _ _ _,bR wr2⟩
  case round =>
   obtain ⟨k,hk,rfl,⟨A3,c3,rfl⟩,ho3,hb3⟩:=hrel;have G7:=AB ho3;have HB3:=AB hb3;clear ho3 hb3;by_cases hlt:k<P.length
   ·have hsu:=U9.1 k hlt;obtain ⟨b,o,rfl,hlb,c0,c1⟩:=((HO.1.keep HB3.1).row_of).pt (k:=P.length-1-k) AA;have ek:((P.length-1-k:Nat):Int)=(P.length:Int)-1-k:=AA
    have hi1:((P.length:Int)-1-k).toNat=P.length-1-k:=AA
    generalize P[P.length-1-k]'_=pt at *;obtain ⟨avA,HT,HT1⟩:=CG hsu (show (P.reverse.take k).length=k by rw [GH,WB];omega) (show (P.reverse.take (k+1)).length=k+1 by rw [GH,WB];omega);clear hsu;obtain ⟨m,hm⟩:=BR (P.length-1-k);have bn:(P.length:Int)-1-k=m:=AA
    rw [<- hm] at c0 c1;rw [bn];have Hmi:=AB bn;have aeH:m<P.length:=AA
    clear ek hi1 hm bn;have k1:(m:Int)<P.length:=AA
    have k2:0<=(m:Int):=AA
    go_upto_region 7 with
     (at_builtin
      refine FK _ rfl (.tmp 26) (.tmp 31) _ rfl (base:=wr2.heap.size) JI I7 JD rfl (Own.alloc G7.1 _) rfl (l2:=[pt]) (Sl.lit (n:=1) (AO.made rfl _ _) rfl (D7 AA)) (by have:=HT.1;simp only [JA,LH];omega) (by have:=HT.1;simp only [JA,LH];omega) (by have:=HB3.1.size;simp;omega) ?_;intro v4 w4 Nc hg4 aaM;rw [<- avA.1] at Nc;obtain ⟨A4,c4,hv4,-⟩:=Own.GU Nc;rw [HT1.1] at hv4;subst hv4;have Jc:=AB Nc;have HB4:=AB (bG (bA HB3.1 _) hg4 (fun g hg=>(G7.1.lt g hg).1));clear Nc hg4 aaM
      )
    clear c0 c1 hlb;go_wp2;go_roundw
    case rel => exact ⟨k+1,AA,by rw [show (P.length:Int)-1-((k+1:Nat):Int)=(m:Int)-1 by have:=Hmi.1;omega];try go_num,⟨A4,c4,rfl⟩,Jc.1,HB4.1⟩
    case measure => have:=Hmi.1;simp [intOf];try omega
   ·have hkk:k=P.length:=AA
    have ho:=G7.1;rw [show P.reverse.take k=P.reverse by rw [IE DR]] at ho;have Rf:=AB (ho.EM HB2.1.size);have h1:(P.length:Int)-1-k=-1:=AA
    rw [h1];clear ho h1;go_wp2;go_ret;exact ⟨A3,c3,by rw [WB,<- hkk];rfl,bT HB2.1 HB3.1,by rw [WB,<- hkk];exact Rf.1⟩
theorem avC (v:Pt) (l m:List (Pt×Pt)):RU v (l++m)=m.foldl (Q9 v) (RU v l):=by unfold RU;rw [WC]
theorem avD (p:Pl) {X:List Int} {k:Nat} (hk:k<X.length):QF p (X.take (k+1))=QF p (X.take k)++Jq (Nv p X[k]):=by
 unfold QF;rw [Em hk,O7];simp
theorem avE {p:Pl} {X:List Int} {v:Pt} {q:Pt×Pt} (hq:q∈QF p X) (h:Ee q.1 q.2 v=true):encS p X v=false:=by
 rw [<- alv];unfold abj;rw [aae];have:((QF p X).any fun q=>Ee q.1 q.2 v)=true:=OA.2 ⟨q,hq,h⟩
 rw [this];rfl
theorem avF {p:Pl} {X:List Int} {v:Pt} {o:Bool} (h:RU v (QF p X)=(false,o)):encS p X v=o:=by
 rw [<- alv];unfold abj;rw [h];simp
theorem avG {v:Pt} {o:Bool} {q:Pt×Pt} (h:Ee q.1 q.2 v=false):Q9 v (false,o) q=(false,if KU v q.1 q.2=true then !o else o):=by
 unfold Q9;rw [AX (by rw [h];decide)];split<;>rfl
theorem avH {v a b lo hi:Pt} (h:(b.y<a.y/\lo=b/\hi=a)\/(¬ b.y<a.y/\lo=a/\hi=b)):KU v a b=decide (lo.y<=v.y/\v.y<hi.y/\0<tw lo hi v):=by
 rcases h with ⟨c,rfl,rfl⟩ | ⟨c,rfl,rfl⟩
 ·rw [als];unfold KU;rw [decide_eq_decide];omega
 ·unfold KU;rw [decide_eq_decide];omega
section
variable {p:Pl} (h:Valid p)
include h
theorem Valid.avI {d:Int} (hd:d∈Bj p) {q:Pt} (hq:q∈Nv p d):CJ q=true:=by
 obtain ⟨a,ha,-,hpt⟩:=h.gQ hd;refine h.aiP ha ?_;unfold Nv at hq;rw [hpt] at hq;split at hq
 · exact hq
 · exact acY.1 hq
theorem Valid.afO {d:Int} (hd:d∈Bj p):2<=(Nv p d).length/\(Nv p d).length<=66:=by
 obtain ⟨a,ha,-,hpt⟩:=h.gQ hd;have h1:=h.Xr ha;have h2:=Fa p a;unfold Nv;rw [hpt];split
 · omega
 · rw [WB];omega
end
theorem avJ (v vc:Value) (p:Pl) (X:List Int) (at_:Pt) (w:World) (h:D6 w v p) (hv:Valid p) (hX:Ints w vc X) (hd:∀ d∈X,d∈Bj p) (hl:X.length<=1000) (nv:CJ at_=true) :
  Calls prog 185 #[v,vc,BA at_] w fun e w'=>e=.returned (.bool (encS p X at_))/\AU w w':=by
 obtain ⟨NW,wH,HV,Yw,U9,Rh,gV,mg⟩:=yU (fun d (hd:d∈Bj p) W (hW:AU w W)=>alz v p d W (h.mono hW) hv hd) hd hv nv (fun k (hk:k<X.length)=>avD p hk) (fun q (hq:q∈QF p X) hon=>avE (p:=p) (X:=X) (v:=at_) (q:=q) hq hon) (fun k (hk:k<X.length) q (hq:q∈Jq (Nv p X[k]))=>show q∈QF p X from Ii.2 ⟨_,BO hk,hq⟩) (fun o h=>avF (p:=p) (X:=X) (v:=at_) (o:=o) h);obtain ⟨R,hR⟩:=BI (encS p X at_);rw [hR] at Rh mg ⊢;obtain ⟨Ac,cc,rfl,hc1,hc2,RY⟩:=hX;unfold maxLen at hc2;obtain ⟨_,_,_,al,rfl,hpa,⟨An,cn,rfl,-⟩,⟨⟨Aa,ca,rfl,-⟩,-⟩,⟨Af,cf,rfl,-⟩⟩:=h;have VP:=AB RY;clear hpa hv hd RY hR nv;generalize p.nodes.length=nn at *;generalize al.length=na at *;generalize p.faces.length=nf at *;unfold BA;go_enter func185,ntmps185;go_upto_block 0 with fail;obtain ⟨W1,hW⟩:∃ W:World,W=(w.alloc (.cells #[.slice An nn cn,.slice Aa na ca,.slice Af nf cf] 34)).alloc (.cells #[.int .i64 at_.x,.int .i64 at_.y] 42):=⟨_,rfl⟩;obtain ⟨Dt,DC,HB1⟩:=CG (show AO W1 w.heap.size 34 #[.slice An nn cn,.slice Aa na ca,.slice Af nf cf] by rw [hW];exact (AO.made rfl _ _).alloc _) (show AO W1 (w.heap.size+1) 42 #[.int .i64 at_.x,.int .i64 at_.y] by rw [hW];exact AO.made Ah _ _) (show AU w W1 by rw [hW];exact bA (bA (bR w) _) _);rw [<- hW];clear hW;go_wp2_with fail;go_loopw [7,8] (fun s i wr=>∃ (k:Nat) (o:Bool),k<=X.length/\i=.int .i64 k/\s=.bool o/\RU at_ (QF p (X.take k))=(false,o)/\AU W1 wr) (fun _ i _=>X.length-(intOf i).toNat)
 case atStart => exact ⟨0,false,BX _,rfl,rfl,rfl,bR W1⟩
 case round =>
  obtain ⟨k,o,hk,rfl,rfl,he,hb⟩:=hrel;obtain ⟨wo,rfl⟩:=BR wr;have HE:=AB he;have HB:=AB hb;clear he hb;by_cases hlt:k<X.length
  ·obtain ⟨b,ofs,rfl,hlb,c0⟩:=(VP.1.mono (bT HB1.1 HB.1)).int hlt;have hdm:=wH.1 _ (BO hlt);have hsu:=U9.1 k hlt;have hmem:=gV.1 k hlt;generalize X[k]=d at *;have Xy:=fun q (hq:q∈Nv p d)=>HV.1.avI hdm hq;have hlen:=HV.1.afO hdm;have ZR:=AB (NW.1 d hdm);obtain ⟨P,hP⟩:=BI (Nv p d);rw [hP] at hsu hmem Xy hlen ZR;obtain ⟨VW,VX,HNr⟩:=CG hsu hmem Xy;have X1:=Dt.1.keep HB.1;have k1:(k:Int)<X.length:=AA
   have k2:0<=(k:Int):=AA
   clear hdm hsu hmem Xy hP;obtain ⟨BJ,BK,BL,BQ,-⟩:=X1.Az;go_upto_region 5 with fail;refine D9 (wo) (.run 5 0 0 (.call 5 63 (.take 6 127 (.done)))) fun CQ QR Ae Aj hS=>?_
   iterate 5 refine Ak ?_
   refine BN ?_;clear hS;intro K hK AP;go_simp;refine (ZR.1 _ (bT (bT HB1.1 HB.1) AP.out)).mono ?_;rintro e BZ ⟨A,c,rfl,BU,ho⟩;have hS:Since wo BZ:=bT (w:=wo) AP.out BU;clear AP;refine hK.out _ _ hS (fun _=>?_);clear hK K
   try simp only [pu]
   refine Ak ?_;refine D5 ?_;clear hS Aj Ae;intro hB;obtain ⟨W3,hW3⟩:∃ W:World,W=BZ:=⟨_,rfl⟩;rw [<- hW3] at hB ho BU ⊢;have afP:=AB hB;have wJ:=AB ho.row_of;have hz3:=afP.1.size;clear hB ho BU hW3 X1 BJ BK BL BQ c0 hlb ZR;go_upto_block 2 with fail;go_wp2_with fail;go_loopw [7,10] (fun s i wr=>∃ (j:Nat) (o2:Bool),1<=j/\j<=P.length/\i=.int .i64 j/\s=.bool o2/\((Jq P).take (j-1)).foldl (Q9 at_) (false,o)=(false,o2)/\AU W3 wr) (fun _ i _=>P.length-(intOf i).toNat)
   case atStart => exact ⟨1,o,Cj _,AA,rfl,rfl,rfl,bR W3⟩
   case round =>
    obtain ⟨j,o2,hj1,hj2,rfl,rfl,he2,hb2⟩:=hrel;obtain ⟨wp,rfl⟩:=BR wr;have HE2:=AB he2;have HB2:=AB hb2;clear he2 hb2;by_cases hlj:j<P.length
    ·obtain ⟨m,rfl⟩:∃ m,j=m+1:=⟨j-1,AA⟩;have hmp:m<P.length:=AA
     have hq:=VX.1 (P.getD m AY,P.getD (m+1) AY) (Ez.2 ⟨m,FQ.2 AA,rfl⟩);have htk:=akV hlj;have hee:=HE2.1;rw [show m+1-1=m by omega] at hee;have ea:P.getD m AY=P[m]:=by simp only [Gm,Di hmp,Ih]
     have eb:P.getD (m+1) AY=P[m+1]:=by simp only [Gm,Di hlj,Ih]
     rw [ea,eb] at hq htk;have na:=HNr.1 _ (BO hmp);have nb:=HNr.1 _ (BO hlj);obtain ⟨bp,op,rfl,hlp,e10,e11⟩:=(wJ.1.mono HB2.1).pt hmp;obtain ⟨bp',op',dH,-,e20,e21⟩:=(wJ.1.mono HB2.1).pt hlj;injection dH with dH;injection dH with y1 y2 _;subst y1 y2;generalize P[m]=a at *;generalize P[m+1]=b2 at *;obtain ⟨Ei,HQ,mF,HGo,HNa,HNb⟩:=Jz htk hq hee (fun W=>av5 a b2 at_ W (by simp [EO,na,nb,Yw.1])) na nb;clear htk hq hee ea eb na nb HE2;unfold BA at HGo;have kw:IntKind.i64.wrap ((m:Int)+1-1)=(m:Int):=by rw [Jw _ AA];omega
     have kw2:=EL (m:Int);have k3:(m:Int)<P.length:=AA
     have k4:0<=(m:Int):=AA
     have k5:(m:Int)+1<P.length:=AA
     have k6:0<=(m:Int)+1:=AA
     have k7:=EL ((m:Int)+1);go_upto_region 9 with fail;go_cut [11,12] (fun u v wx=>∃ ga gb,u=.pointer (some ⟨ga,0,none⟩)/\v=.pointer (some ⟨gb,0,none⟩)/\AO wx ga 42 #[.int .i64 a.x,.int .i64 a.y]/\AO wx gb 42 #[.int .i64 b2.x,.int .i64 b2.y]/\ga≠gb/\wp.heap.size<=ga/\wp.heap.size<=gb/\AU wp wx)
     case first =>
      refine PE (wp.heap.size) (wp) (.run 9 0 0 (.two 9 1023 (.call 10 2047 (.call 11 4095 (.call 12 8191 (.done)))) 10 1535 (.call 9 2047 (.call 11 4095 (.call 12 8191 (.done)))))) fun CQ QR Ae Aj hS=>?_
      iterate 9 refine Ak ?_
      refine MQ (i:=9) (j:=10) (ET Ae rfl) (ET Ae rfl) (fun K hK=>?_) (fun K hK=>?_)
      ·have AP:=AB hS;clear hS;refine En (Eh rfl) ?_;go_simp;refine hK.out _ _ (Ej AA AP.out _) (fun hS=>?_);clear hK K AP
       try simp only [pu]
       refine BN ?_;clear hS;intro K hK AP;go_simp;refine hK.out _ _ (Ej AA AP.out _) (fun hS=>?_);clear hK K AP
       try simp only [pu]
       refine BN ?_;clear hS;intro K hK AP;go_simp;refine hK.out _ _ (by unfold E8;have h:Below _ _ _:=AP.out;repeat (first | with_reducible assumption | with_reducible exact Below.refl _ _ | with_reducible refine JG ?_ Jv _ | with_reducible refine Below.drew ?_ | with_reducible refine Ej AA ?_ _ | exact h)) ?_;intro hS;clear hK K AP
       try simp only [pu]
       refine BN ?_;clear hS;intro K hK AP;go_simp;refine hK.out _ _ (by unfold E8;have h:Below _ _ _:=AP.out;repeat (first | with_reducible assumption | with_reducible exact Below.refl _ _ | with_reducible refine JG ?_ Jv _ | with_reducible refine Below.drew ?_ | with_reducible refine Ej AA ?_ _ | exact h)) ?_;intro hS;clear hK K AP
       try simp only [pu]
       refine J3 ?_;clear hS Aj Ae;intro hB;go_wp2;go_meet
       case rel => first | exact ⟨_,_,rfl,rfl,((AO.made rfl _ _).alloc _).drew,(AO.made Ah _ _).drew,AA,AA,AA,hB⟩ | exact ⟨_,_,rfl,rfl,(AO.made Ah _ _).drew,((AO.made rfl _ _).alloc _).drew,AA,AA,AA,hB⟩
      ·have AP:=AB hS;clear hS;refine En (Eh rfl) ?_;go_simp;refine hK.out _ _ (Ej AA AP.out _) (fun hS=>?_);clear hK K AP
       try simp only [pu]
       refine BN ?_;clear hS;intro K hK AP;go_simp;refine hK.out _ _ (Ej AA AP.out _) (fun hS=>?_);clear hK K AP
       try simp only [pu]
       refine BN ?_;clear hS;intro K hK AP;go_simp;refine hK.out _ _ (by unfold E8;have h:Below _ _ _:=AP.out;repeat (first | with_reducible assumption | with_reducible exact Below.refl _ _ | with_reducible refine JG ?_ Jv _ | with_reducible refine Below.drew ?_ | with_reducible refine Ej AA ?_ _ | exact h)) ?_;intro hS;clear hK K AP
       try simp only [pu]
       refine BN ?_;clear hS;intro K hK AP;go_simp;refine hK.out _ _ (by unfold E8;have h:Below _ _ _:=AP.out;repeat (first | with_reducible assumption | with_reducible exact Below.refl _ _ | with_reducible refine JG ?_ Jv _ | with_reducible refine Below.drew ?_ | with_reducible refine Ej AA ?_ _ | exact h)) ?_;intro hS;clear hK K AP
       try simp only [pu]
       refine J3 ?_;clear hS Aj Ae;intro hB;go_wp2;go_meet
       case rel => first | exact ⟨_,_,rfl,rfl,((AO.made rfl _ _).alloc _).drew,(AO.made Ah _ _).drew,AA,AA,AA,hB⟩ | exact ⟨_,_,rfl,rfl,(AO.made Ah _ _).drew,((AO.made rfl _ _).alloc _).drew,AA,AA,AA,hB⟩
     case rest =>
      obtain ⟨ga,gb,rfl,rfl,xa,xb,abm,hga,hgb,hb4⟩:=hcut;obtain ⟨HXa,HXb,HB4,IY⟩:=DW xa xb (bT HB2.1 hb4) (bT HB.1 (bT afP.1 (bT HB2.1 hb4)));have X2:=DC.1.keep IY.1;have iT:=AB X2;have aN:=hb4.size;clear hb4 e10 e11 e20 e21 hlp kw kw2 k3 k4 k5 k6;obtain ⟨Bh,Bq,Bv,-⟩:=X2.Bl;obtain ⟨abn,abo,abp,-⟩:=xa.Bl;obtain ⟨abq,abr,abt,-⟩:=xb.Bl;go_wp2_with fail;refine (HGo.1 _).mono ?_;rintro e w5 ⟨rfl,hb5⟩;obtain ⟨on,hon⟩:=BI (Ee a b2 at_);rw [hon];obtain ⟨QB,Ce,avK,afQ,afR,iU⟩:=Jz hon (bT HB4.1 hb5) (bT IY.1 hb5) (HXa.1.keep hb5) (HXb.1.keep hb5) (iT.1.keep hb5);have QA:=hb5.size;clear hb5 xa abn abo abp xb abq abr abt X2 Bh Bq Bv HXa HXb iT HGo hon HB4 IY
      cases on
      case true =>
       have HF:=AB (Rh.1 (a,b2) HQ.1 QB.1);go_wp2;go_ret;exact ⟨CP HF.1.symm,bT HB1.1 avK.1⟩
      case false =>
       have hst:=avG (v:=at_) (o:=o2) (q:=(a,b2)) QB.1;obtain ⟨lo,hi,hlh⟩:∃ lo hi:Pt,(b2.y<a.y/\lo=b2/\hi=a)\/(¬ b2.y<a.y/\lo=a/\hi=b2):=by
        by_cases c:b2.y<a.y
        · exact ⟨b2,a,.inl ⟨c,rfl,rfl⟩⟩
        · exact ⟨a,b2,.inr ⟨c,rfl,rfl⟩⟩
       rw [avH hlh] at hst;have hlm:lim lo/\lim hi:=by
        rcases hlh with ⟨-,rfl,rfl⟩ | ⟨-,rfl,rfl⟩
        · exact ⟨Uo HNb.1,Uo HNa.1⟩
        · exact ⟨Uo HNa.1,Uo HNb.1⟩
       have Gg:=AB hst;have afS:=fun W=>alx lo hi at_ W hlm.1 hlm.2 (Uo Yw.1);unfold BA at afS;have abu:=AB afS;clear afS hst hlm;have X2:=iU.1;have xa:=afQ.1;have xb:=afR.1
       try clear Bh Bq Bv
       obtain ⟨Bh,Bq,Bv,-⟩:=X2.Bl
       try clear abn abo abp
       obtain ⟨abn,abo,abp,avL,avM⟩:=xa.Bl
       try clear abq abr abt
       obtain ⟨abq,abr,abt,avN,avO⟩:=xb.Bl;go_upto_if 48 with fail;go_cut [] (fun wx=>AO wx ga 42 #[.int .i64 lo.x,.int .i64 lo.y]/\AO wx gb 42 #[.int .i64 hi.x,.int .i64 hi.y]/\AO wx (w.heap.size+1) 42 #[.int .i64 at_.x,.int .i64 at_.y]/\AU W3 wx)
       case first =>
        have azm:w.heap.size+1<W1.heap.size:=DC.1.lt;have hzw:=HB.1.size;have hz8:=HB2.1.size;have n1:w.heap.size+1≠ga:=AA
        have n2:w.heap.size+1≠gb:=AA
        rcases hlh with ⟨c,rfl,rfl⟩ | ⟨c,rfl,rfl⟩
        ·go_wp2;go_meet
         case rel =>
          refine ⟨?_,?_,?_,?_⟩
          ·have h:=(((xa.EH 0 (.int .i64 lo.x)).EH 1 (.int .i64 lo.y)).far (p:=⟨gb,0,none⟩) abm (.int .i64 hi.x)).far (p:=⟨gb,1,none⟩) abm (.int .i64 hi.y);simpa using h
          ·have h:=((xb.far (p:=⟨ga,0,none⟩) (fun e=>abm e.symm) (.int .i64 lo.x)).far (p:=⟨ga,1,none⟩) (fun e=>abm e.symm) (.int .i64 lo.y)).EH 0 (.int .i64 hi.x);have h:=h.EH 1 (.int .i64 hi.y);simpa using h
          · exact (((X2.far (p:=⟨ga,0,none⟩) n1 (.int .i64 lo.x)).far (p:=⟨ga,1,none⟩) n1 (.int .i64 lo.y)).far (p:=⟨gb,0,none⟩) n2 (.int .i64 hi.x)).far (p:=⟨gb,1,none⟩) n2 (.int .i64 hi.y)
          · exact bS (bS (bS (bS Ce.1 (p:=⟨ga,0,none⟩) DR _) (p:=⟨ga,1,none⟩) DR _) (p:=⟨gb,0,none⟩) DR _) (p:=⟨gb,1,none⟩) DR _
        ·go_wp2;go_meet
         case rel => exact ⟨afQ.1,afR.1,iU.1,Ce.1⟩
       case rest =>
        obtain ⟨ya,yb,y2,hb6⟩:=hcut;have Ew:=AB hb6;have Ju:=AB (fun (o3:Bool) (h3:(if decide (lo.y<=at_.y/\at_.y<hi.y/\0<tw lo hi at_)=true then !o2 else o2)=o3)=>show ((Jq P).take (m+1)).foldl (Q9 at_) (false,o)=(false,o3) by rw [Ei.1,WC,mF.1];show Q9 at_ (false,o2) (a,b2)=_;rw [Gg.1,h3]);clear hb6 X2 Bh Bq Bv xa abn abo abp avL avM xb abq abr abt avN avO afQ afR iU Ce Gg hlh;obtain ⟨yal,yaa,yab,-⟩:=ya.Bl;obtain ⟨ybl,yba,ybb,-⟩:=yb.Bl;obtain ⟨y2l,y2a,y2b,-⟩:=y2.Bl;by_cases c1:lo.y<=at_.y
        ·by_cases c2:at_.y<hi.y
         ·go_wp2_with fail;refine (abu.1 _).mono ?_;rintro e w7 ⟨rfl,hb7⟩;have Gx:=AB (bT Ew.1 hb7);have hp:=atb (a:=lo) (b:=hi) (c:=at_);clear hb7 ya yal yaa yab yb ybl yba ybb y2 y2l y2a y2b abu;generalize Yv lo hi at_=gs at *;by_cases c3:0<gs
          ·have iV:=AB (Ju.1 (!o2) (by rw [AZ (by simp only [Dq];exact ⟨c1,c2,hp.1 c3⟩)]));clear hp
           cases o2
           all_goals
            go_wp2;go_roundw
            case rel => exact ⟨m+1+1,_,AA,AA,BG,rfl,iV.1,Gx.1⟩
            case measure => exact BH
          ·have iV:=AB (Ju.1 o2 (by rw [AX (by simp only [Dq];exact fun h=>c3 (hp.2 h.2.2))]));clear hp;go_wp2;go_roundw
           case rel => exact ⟨m+1+1,_,AA,AA,BG,rfl,iV.1,Gx.1⟩
           case measure => exact BH
         ·have iV:=AB (Ju.1 o2 (by rw [AX (by simp only [Dq];exact fun h=>c2 h.2.1)]));go_wp2;go_roundw
          case rel => exact ⟨m+1+1,_,AA,AA,BG,rfl,iV.1,Ew.1⟩
          case measure => exact BH
        ·have iV:=AB (Ju.1 o2 (by rw [AX (by simp only [Dq];exact fun h=>c1 h.1)]));go_wp2;go_roundw
         case rel => exact ⟨m+1+1,_,AA,AA,BG,rfl,iV.1,Ew.1⟩
         case measure => exact BH
    ·have hjj:j=P.length:=AA
     have hee:=HE2.1;rw [IE (by rw [abh];omega)] at hee;have HF:=AB (show RU at_ (QF p (X.take (k+1)))=(false,o2) by rw [VW.1,avC,HE.1];exact hee);clear hee hjj;go_wp2;go_roundw
     case rel => exact ⟨k+1,o2,AA,BG,rfl,HF.1,bT HB.1 (bT afP.1 HB2.1)⟩
     case measure => exact BH
  ·have hkk:k=X.length:=AA
   have hee:=HE.1;rw [hkk,I5] at hee;have hf:=mg.1 o hee;rw [<- hf];clear hee hkk;go_wp2;go_ret;exact ⟨rfl,bT HB1.1 HB.1⟩
