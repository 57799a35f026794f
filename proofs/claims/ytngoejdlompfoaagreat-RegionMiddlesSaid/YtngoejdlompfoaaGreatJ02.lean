import Derived.Test.YtngoejdlompfoaaGreatRegQ
import Derived.RegionTactic
set_option linter.unusedSimpArgs false
set_option linter.unusedVariables false
set_option maxRecDepth 100000
set_option maxHeartbeats 4000000
namespace Go.Proofs.YtngoejdlompfoaaGreat
open Go.RowKit Tryz
structure Rn where
 lo:Int
 hi:Int
def Dt(l:List Rn)(n:Int):Prop:=∃r∈l,r.lo<=n/\n<r.hi
def MQ(l:List Rn):Prop:=(∀r∈l,r.lo<r.hi)/\l.Pairwise λa b=>a.hi<b.lo
theorem Nk(n:Int):¬Dt [] n:=λ⟨r,h,_⟩=>by cases h
theorem MR{r:Rn}{l:List Rn}{n:Int}:Dt (r::l) n↔r.lo<=n/\n<r.hi\/Dt l n:=by
 unfold Dt;constructor
 .rintro⟨x,c,h⟩;rcases Dv.1 c with rfl|c;.exact .inl h
  exact .inr ⟨x,c,h⟩
 rintro(h|⟨x,c,h⟩);.exact⟨r,ED,h⟩
 exact⟨x,FW _ c,h⟩
theorem Ry{l m:List Rn}{n:Int}:Dt (l++m) n↔Dt l n\/Dt m n:=by
 unfold Dt;constructor
 .rintro⟨x,c,h⟩;rcases F9.1 c with c|c;.exact .inl ⟨x,c,h⟩
  exact .inr ⟨x,c,h⟩
 rintro(⟨x,c,h⟩|⟨x,c,h⟩);.exact⟨x,O8 _ c,h⟩
 exact⟨x,aQ _ c,h⟩
theorem MQ.tail{r:Rn}{l:List Rn}(h:MQ<|r::l):MQ l:=⟨λx c=>h.1 x<|FW _ c,(I8.1 h.2).2⟩
theorem MQ.ZJ{r:Rn}{l:List Rn}(h:MQ<|r::l){n:Int}(hn:Dt l n):r.hi<n:=by obtain⟨x,c,h1,_⟩:=hn;have:=(I8.1 h.2).1 x c;omega
theorem aaI:∀{l m:List Rn},MQ l->MQ m->(∀n,Dt l n↔Dt m n)->l=m
 |[],[],_,_,_=>rfl|[],b::m,_,hm,h=>by have:=(h b.lo).2<|MR.2<|.inl ⟨J8 _,hm.1 b ED⟩;exact absurd this<|Nk _|a::l,[],hl,_,h=>by have:=(h a.lo).1<|MR.2<|.inl ⟨J8 _,hl.1 a ED⟩;exact absurd this<|Nk _|a::l,b::m,hl,hm,h=>by
  have j:=hl.1 a ED;have hb:=hm.1 b ED;have h1:=(h a.lo).1<|MR.2<|.inl ⟨J8 _,j⟩;have h2:=(h b.lo).2<|MR.2<|.inl ⟨J8 _,hb⟩;have o:b.lo<=a.lo:=by
   rcases MR.1 h1 with h1|h1;.exact h1.1
   have:=hm.ZJ h1;omega
  have s:a.lo<=b.lo:=by
   rcases MR.1 h2 with h2|h2;.exact h2.1
   have:=hl.ZJ h2;omega
  have z:¬Dt (a::l) a.hi:=λg=>by
   rcases MR.1 g with g|g;.omega
   have:=hl.ZJ g;omega
  have g2:¬Dt (b::m) b.hi:=λg=>by
   rcases MR.1 g with g|g;.omega
   have:=hm.ZJ g;omega
  have C:¬a.hi<b.hi:=λg=>z<|(h a.hi).2<|MR.2<|.inl ⟨I,g⟩;have K:¬b.hi<a.hi:=λg=>g2<|(h b.hi).1<|MR.2<|.inl ⟨I,g⟩;have c:a=b:=by cases a;cases b;simp only[Rn.mk.injEq];simp only at o s C K;omega
  subst c;rw[aaI hl.tail hm.tail λn=>?_];constructor
  .intro g;have:=hl.ZJ g;rcases MR.1<|(h n).1<|MR.2<|.inr g with g|g;.omega
   exact g
  intro g;have:=hm.ZJ g;rcases MR.1<|(h n).2<|MR.2<|.inr g with g|g;.omega
  exact g
def Pg:Rn:=⟨0,0⟩
def U8(out:List Rn)(r:Rn):List Rn:=if r.hi<=r.lo then out else if 0<out.length/\r.lo<=(out.getD (out.length-1) Pg).hi then out.set (out.length-1) ⟨(out.getD (out.length-1) Pg).lo,max (out.getD (out.length-1) Pg).hi r.hi⟩else out++[r]
theorem afT{α:Type}(l:List α)(z d:α):(l++[z]).getD ((l++[z]).length-1) d=z:=by simp[G5]
theorem aem{α:Type}(l:List α)(z y:α):(l++[z]).set ((l++[z]).length-1) y=l++[y]:=by rw[EK,qo,gI,aDf _ _<|Dh _,aDg];rfl
structure rO(out pre:List Rn)(m:Int):Prop where
 val:MQ out
 same:∀n,Dt out n↔Dt pre n
 le:∀z∈out,z.lo<=m
theorem rO.step{o pre:List Rn}{r:Rn}(h:rO o pre r.lo):rO (U8 o r) (pre++[r]) r.lo:=by
 unfold U8;have h1:∀n,Dt [r] n↔r.lo<=n/\n<r.hi:=λn=>by rw[MR];exact⟨λg=>g.resolve_right<|Nk n,.inl⟩
 by_cases e:r.hi<=r.lo;.rw[AZ e];refine⟨h.val,λn=>?_,h.le⟩;rw[Ry,h.same,h1];exact⟨.inl,λg=>g.resolve_right I⟩
 rw[AX e];rcases List.eq_nil_or_concat o with rfl|⟨l,z,rfl⟩
 .rw[AX Ak];refine⟨⟨λx c=>?_,Ak⟩,λn=>?_,λx c=>?_⟩;.simp at c;subst c;omega
  .rw[Ry,Ry,h.same]
  simp at c;subst c;exact J8 _
 simp only[List.concat_eq_append]at h⊢;rw[afT,aem];have s:=QE.1 h.val.2;have C:=h.le z Ak;have K:=h.val.1 z Ak;by_cases e2:r.lo<=z.hi
 .rw[AZ ⟨Ak,e2⟩];refine⟨⟨λx c=>?_,?_⟩,λn=>?_,λx c=>?_⟩
  .rcases F9.1 c with c|c;.exact h.val.1 x<|O8 _ c
   rw[EJ]at c;subst c;show z.lo<max z.hi r.hi;omega
  .rw[QE];refine⟨s.1,Ak,λa j b hb=>?_⟩;rw[EJ]at hb;subst hb;exact s.2.2 a j z Ak
  .rw[Ry,Ry,<-h.same,Ry,h1,MR,MR];have:=Nk n;constructor
   .rintro(g|(g|g));.exact .inl<|.inl g
    .simp only at g;by_cases e3:n<z.hi;.exact .inl<|.inr<|.inl ⟨g.1,e3⟩
     exact .inr I
    exact absurd g this
   rintro((g|(g|g))|g);.exact .inl g
   .exact .inr<|.inl<|by simp only;omega
   .exact absurd g this
   exact .inr<|.inl<|by simp only;omega
  rcases F9.1 c with c|c;.exact h.le x<|O8 _ c
  rw[EJ]at c;subst c;exact C
 rw[AX λg=>e2 g.2];refine⟨⟨λx c=>?_,?_⟩,λn=>?_,λx c=>?_⟩
 .rcases F9.1 c with c|c;.exact h.val.1 x c
  rw[EJ]at c;subst c;omega
 .rw[QE];refine⟨h.val.2,Ak,λa j b hb=>?_⟩;rw[EJ]at hb;subst hb;rcases F9.1 j with j|j;.have:=s.2.2 a j z Ak;omega
  rw[EJ]at j;subst j;omega
 .rw[Ry (m:=[r]),Ry (m:=[r]),h.same]
 rcases F9.1 c with c|c;.exact h.le x c
 rw[EJ]at c;subst c;exact J8 _
def nJ(r:Rn):List Rn->List Rn|[]=>[r]|x::l=>if r.lo<=x.lo then r::x::l else x::nJ r l
def nK(l:List Rn):List Rn:=l.foldr nJ []
def U9(l:List Rn):List Rn:=l.foldl U8 []
def Qo(l:List Rn):List Rn:=U9<|nK l
theorem aaJ(r:Rn):∀l,(nJ r l).Perm<|r::l
 |[]=>List.Perm.refl _|x::l=>by
  unfold nJ;split;.exact List.Perm.refl _
  exact((aaJ r l).cons x).trans<|List.Perm.swap _ _ _
theorem aen(r:Rn):∀l,l.Pairwise (λa b=>a.lo<=b.lo)->(nJ r l).Pairwise λa b=>a.lo<=b.lo
 |[],_=>by unfold nJ;simp|x::l,h=>by
  have j:=I8.1 h;unfold nJ;split
  .rename_i e;rw[I8];refine⟨λy c=>?_,h⟩;rcases Dv.1 c with rfl|c;.exact e
   have:=j.1 y c;omega
  rename_i e;rw[I8];refine⟨λy c=>?_,aen r l j.2⟩;rcases Dv.1<|(aaJ r l).subset c with rfl|c;.omega
  exact j.1 y c
theorem rP:∀l,(nK l).Perm l/\(nK l).Pairwise λa b=>a.lo<=b.lo|[]=>⟨List.Perm.refl _,List.Pairwise.nil⟩|x::l=>by obtain⟨h1,h2⟩:=rP l;exact⟨(aaJ x _).trans<|h1.cons x,aen x _ h2⟩
theorem aeo:∀(l c pre:List Rn)(m:Int),rO c pre m->(∀r∈l,m<=r.lo)->l.Pairwise (λa b=>a.lo<=b.lo)->MQ (l.foldl U8 c)/\∀n,Dt (l.foldl U8 c) n↔Dt (pre++l) n|[],c,pre,m,h,_,_=>⟨h.val,λn=>by rw[I9];exact h.same n⟩|r::l,c,pre,m,h,hm,hs=>by have j:=I8.1 hs;have h0:rO c pre r.lo:=⟨h.val,h.same,λz o=>Int.le_trans (h.le z o)<|hm r ED⟩;have:=aeo l (U8 c r) (pre++[r]) r.lo h0.step j.1 j.2;rw[Jv]at this;exact this
theorem aDL{l:List Rn}(o:l.Pairwise λa b=>a.lo<=b.lo):MQ (U9 l)/\∀n,Dt (U9 l) n↔Dt l n:=by
 rcases l with _|⟨r,l⟩;.exact⟨⟨λx c=>(by cases c),List.Pairwise.nil⟩,λn=>Iff.rfl⟩
 have h0:rO [] [] r.lo:=⟨⟨λx c=>(by cases c),List.Pairwise.nil⟩,λn=>Iff.rfl,λx c=>by cases c⟩;have j:=I8.1 o;exact aeo (r::l) [] [] r.lo h0 (λx c=>by
  rcases Dv.1 c with rfl|c;.exact J8 _
  exact j.1 x c) o
theorem aaK{l m:List Rn}(h:l.Perm m)(n:Int):Dt l n↔Dt m n:=⟨λ⟨x,hx,g⟩=>⟨x,h.subset hx,g⟩,λ⟨x,hx,g⟩=>⟨x,h.symm.subset hx,g⟩⟩
theorem anh{l m:List Rn}(c:m.Perm l)(j:m.Pairwise λa b=>a.lo<=b.lo):U9 m=Qo l:=by obtain⟨h1,h2⟩:=aDL j;obtain⟨h3,o⟩:=aDL (rP l).2;exact aaI h1 h3 λn=>by rw[h2,show Dt (Qo l) n↔_ from o n,aaK c,aaK (rP l).1]
theorem Wp(l:List Rn):MQ (Qo l)/\∀n,Dt (Qo l) n↔Dt l n:=by obtain⟨h3,c⟩:=aDL (rP l).2;exact⟨h3,λn=>by show Dt (U9<|nK l) n↔_;rw[c,aaK (rP l).1]⟩
def Jq(lo hi:Int):List Rn:=if lo<hi then[⟨lo,hi⟩]else[]
theorem aDM{lo hi n:Int}:Dt (Jq lo hi) n↔lo<=n/\n<hi:=by
 unfold Jq;split;.rw[MR];exact⟨λg=>g.resolve_right<|Nk n,.inl⟩
 exact⟨λg=>absurd g<|Nk n,λg=>I⟩
def QK(hi:Int):Int->List Rn->List Rn|lo,[]=>Jq lo hi|lo,b::bs=>if b.lo<hi then Jq lo b.lo++QK hi b.hi bs else Jq lo hi
def OA(lo:Int)(bs:List Rn):List Rn:=bs.dropWhile λb=>decide<|b.hi<=lo
def Ot:List Rn->List Rn->List Rn|[],_=>[]|r::xs,bs=>QK r.hi r.lo (OA r.lo bs)++Ot xs (OA r.lo bs)
theorem MQ.drop{l:List Rn}(h:MQ l)(lo:Int):MQ<|OA lo l:=by have c:=List.dropWhile_sublist (λb:Rn=>decide<|b.hi<=lo) (l:=l);exact⟨λx j=>h.1 x<|c.subset j,h.2.sublist c⟩
theorem yt(lo:Int):∀{l:List Rn},MQ l->∀{n:Int},lo<=n->(Dt (OA lo l) n↔Dt l n)
 |[],_,_,_=>Iff.rfl|b::l,h,n,hn=>by
  unfold OA;rw[lC];by_cases e:b.hi<=lo;.rw[AZ<|by simpa using e,MR];have:=yt lo h.tail hn;unfold OA at this;rw[this];exact⟨.inr,λg=>g.resolve_left I⟩
  rw[AX<|by simpa using e]
theorem aep(hi:Int):∀(j:List Rn)(lo:Int),MQ j->(∀x∈j,lo<x.hi)->MQ (QK hi lo j)/\(∀r∈QK hi lo j,lo<=r.lo/\r.hi<=hi)/\∀n,Dt (QK hi lo j) n↔(lo<=n/\n<hi)/\¬Dt j n
 |[],lo,_,_=>by
  unfold QK;refine⟨?_,λr c=>?_,λn=>?_⟩
  .unfold Jq;split;.exact⟨λx o=>by rw[EJ]at o;subst o;assumption,Ak⟩
   exact⟨λx o=>(by cases o),List.Pairwise.nil⟩
  .unfold Jq at c;split at c;.rw[EJ]at c;subst c;exact⟨J8 _,J8 _⟩
   cases c
  rw[aDM];exact⟨λg=>⟨g,Nk n⟩,λg=>g.1⟩|b::j,lo,h,hlo=>by
  have hb:=h.1 b ED;have M:=hlo b ED;obtain⟨h1,h2,h3⟩:=aep hi j b.hi h.tail (λx o=>by have:=(I8.1 h.2).1 x o;have:=h.1 x<|FW _ o;omega);have s:∀l m,∀r∈Jq l m,r=⟨l,m⟩/\l<m:=λl m r c=>by
   unfold Jq at c;split at c;.rw[EJ]at c;exact⟨c,Ol⟩
   cases c
  have C:∀l m,(Jq l m).Pairwise λa b=>a.hi<b.lo:=λl m=>by unfold Jq;split<;>simp
  unfold QK;by_cases e:b.lo<hi
  .rw[AZ e];refine⟨⟨λr c=>?_,?_⟩,λr c=>?_,λn=>?_⟩
   .rcases F9.1 c with c|c;.obtain⟨rfl,g⟩:=s _ _ r c;exact g
    exact h1.1 r c
   .rw[QE];refine⟨C _ _,h1.2,λx o y K=>?_⟩;obtain⟨rfl,g⟩:=s _ _ x o;have:=(h2 y K).1;show b.lo<y.lo;omega
   .rcases F9.1 c with c|c;.obtain⟨rfl,g⟩:=s _ _ r c;exact⟨J8 _,by show b.lo<=hi;omega⟩
    have:=h2 r c;exact⟨I,this.2⟩
   rw[Ry,aDM,h3,MR];have z:Dt j n->b.hi<n:=λg=>h.ZJ g;constructor
   .rintro(g|⟨g,g2⟩);.exact⟨I,λg2=>by
      rcases g2 with g2|g2;.omega
      have:=z g2;omega⟩
    exact⟨I,λg3=>by
    rcases g3 with g3|g3;.omega
    exact g2 g3⟩
   rintro⟨g,g2⟩;by_cases g4:n<b.lo;.exact .inl ⟨g.1,g4⟩
   refine .inr ⟨⟨?_,g.2⟩,λg3=>g2<|.inr g3⟩;have:¬(b.lo<=n/\n<b.hi):=λg3=>g2<|.inl g3;omega
  rw[AX e];refine⟨⟨λr c=>?_,C _ _⟩,λr c=>?_,λn=>?_⟩;.obtain⟨rfl,g⟩:=s _ _ r c;exact g
  .obtain⟨rfl,g⟩:=s _ _ r c;exact⟨J8 _,J8 _⟩
  rw[aDM,MR];have z:Dt j n->b.hi<n:=λg=>h.ZJ g;refine⟨λg=>⟨g,λg2=>?_⟩,λg=>g.1⟩;rcases g2 with g2|g2;.omega
  have:=z g2;omega
theorem aer(lo:Int):∀{l:List Rn},MQ l->∀x∈OA lo l,lo<x.hi
 |[],_,x,hx=>by cases hx|b::l,h,x,hx=>by
  unfold OA at hx;rw[lC]at hx;by_cases e:b.hi<=lo;.rw[AZ<|by simpa using e]at hx;exact aer lo h.tail x hx
  rw[AX<|by simpa using e]at hx;rcases Dv.1 hx with rfl|hx;.omega
  have h1:=(I8.1 h.2).1 x hx;have h2:=h.1 x<|FW _ hx;omega
theorem yu:∀(xs j:List Rn),MQ xs->MQ j->MQ (Ot xs j)/\(∀r∈Ot xs j,∃a∈xs,a.lo<=r.lo)/\∀n,Dt (Ot xs j) n↔Dt xs n/\¬Dt j n
 |[],j,_,_=>⟨⟨λx c=>(by cases c),List.Pairwise.nil⟩,λx c=>(by cases c),λn=>⟨λg=>absurd g<|Nk n,λg=>absurd g.1<|Nk n⟩⟩|r::xs,j,ha,hb=>by
  obtain⟨c1,c2,K⟩:=aep r.hi (OA r.lo j) r.lo (hb.drop r.lo)<|aer r.lo hb;obtain⟨s,z,M⟩:=yu xs (OA r.lo j) ha.tail<|hb.drop r.lo;unfold Ot;refine⟨⟨λx c=>?_,?_⟩,λx c=>?_,λn=>?_⟩
  .rcases F9.1 c with c|c;.exact c1.1 x c
   exact s.1 x c
  .rw[QE];refine⟨c1.2,s.2,λx c y T=>?_⟩;obtain⟨a,o,C⟩:=z y T;have:=(I8.1 ha.2).1 a o;have:=(c2 x c).2;omega
  .rcases F9.1 c with c|c;.exact⟨r,ED,(c2 x c).1⟩
   obtain⟨a,o,C⟩:=z x c;exact⟨a,FW _ o,C⟩
  rw[Ry,K,M,MR];constructor
  .rintro(⟨g,g2⟩|⟨g,g2⟩);.exact⟨.inl g,λg3=>g2<|(yt r.lo hb g.1).2 g3⟩
   have:=ha.ZJ g;have:=ha.1 r ED;exact⟨.inr g,λg3=>g2<|(yt r.lo hb I).2 g3⟩
  rintro⟨g|g,g2⟩;.exact .inl ⟨g,λg3=>g2<|(yt r.lo hb g.1).1 g3⟩
  have:=ha.ZJ g;have:=ha.1 r ED;exact .inr ⟨g,λg3=>g2<|(yt r.lo hb I).1 g3⟩
def Ph(x:Bx)(v:Pt):Bx:=⟨min x.x0 v.x,min x.y0 v.y,max x.x1 v.x,max x.y1 v.y⟩
def NI(l:List Pt):Bx:=match l with|[]=>⟨0,0,-1,-1⟩|v::_=>l.foldl Ph ⟨v.x,v.y,v.x,v.y⟩
def QL(a b:Int):Int:=-(-a/b)
theorem nM{r H t:Int}(c:0<H):QL r H<=t↔r<=t*H:=by unfold QL;have h1:-(-r/H)<=t↔-t<=-r/H:=I;rw[h1,Int.le_ediv_iff_mul_le c,PY];omega
theorem ani{x y:Int}(j:0<y):QL x y=if x.tmod y≠0/\¬x.tmod y<0 then x.tdiv y+1 else x.tdiv y:=by
 have e:=Int.mul_tdiv_add_tmod x y;have h1:=Int.tmod_lt_of_pos x j;have h2:-y<x.tmod y:=by have:=Int.tmod_lt_of_pos (-x) j;rw[Int.neg_tmod]at this;omega
 generalize x.tdiv y=q at*;generalize x.tmod y=r at*;have c:∀k,x<=k*y->¬x<=(k-1)*y->QL x y=k:=λk o g2=>by have:=(nM j).2 o;have:¬QL x y<=k-1:=λg=>g2<|(nM j).1 g;omega
 rw[KT]at e;split
 .refine c _ ?_ ?_;.rw[aCS];omega
  rw[show q+1-1=q by omega];omega
 refine c _ ?_ ?_;.omega
 rw[aCT];omega
def dJ(P:Int->Bool)(a:Int):List Int->List Rn|[]=>[]|b::_=>if a+1<b/\P (a+1)=true then[⟨a+1,b⟩]else[]
def Gg(P:Int->Bool):List Int->List Rn|[]=>[]|a::l=>(if P a=true then[⟨a,a+1⟩]else[])++dJ P a l++Gg P l
theorem gW(P:Int->Bool)(a b:Int)(l:List Int):dJ P a (b::l)=if a+1<b/\P (a+1)=true then[⟨a+1,b⟩]else[]:=rfl
theorem aDN(P:Int->Bool)(a:Int):dJ P a []=[]:=rfl
theorem aDO(P:Int->Bool)(a:Int)(l:List Int):Gg P (a::l)=(if P a=true then[⟨a,a+1⟩]else[])++dJ P a l++Gg P l:=rfl
def yw(l:List Rn):Prop:=(∀r∈l,r.lo<r.hi)/\l.Pairwise λa b=>a.hi<=b.lo
theorem aDP{P:Int->Bool}:∀{l:List Int}{a:Int},(a::l).Pairwise (·<·)->∀r∈Gg P<|a::l,a<=r.lo
 |[],a,_,r,hr=>by
  rw[Gg,aDN,Gg]at hr;split at hr;.simp at hr;subst hr;exact J8 _
  simp at hr|b::l,a,h,r,hr=>by
  have h1:=(I8.1 h).1 b ED;unfold Gg at hr;rcases F9.1 hr with hr|hr
  .rcases F9.1 hr with hr|hr
   .split at hr;.simp at hr;subst hr;exact J8 _
    cases hr
   rw[gW]at hr;split at hr;.simp at hr;subst hr;show a<=a+1;omega
   cases hr
  have:=aDP (I8.1 h).2 r hr;omega
theorem aes{P:Int->Bool}:∀{l:List Int},l.Pairwise (·<·)->yw (Gg P l)
 |[],_=>⟨λr c=>(by cases c),List.Pairwise.nil⟩|[a],_=>by
  rw[Gg,aDN,Gg];split;.exact⟨λr c=>by simp at c;subst c;show a<a+1;omega,Ak⟩
  exact⟨λr c=>by simp at c,Ak⟩|a::b::l,h=>by
  have o:=I8.1 h;have h1:=o.1 b ED;obtain⟨K,M⟩:=aes (P:=P) o.2;have T:=aDP (P:=P) o.2;have e:Gg P (a::b::l)=(if P a=true then[⟨a,a+1⟩]else[])++dJ P a (b::l)++Gg P (b::l):=by rw[Gg]
  rw[e];have s:∀r∈if P a=true then[(⟨a,a+1⟩:Rn)]else[],r.lo=a/\r.hi=a+1:=λr c=>by
   split at c;.simp at c;subst c;exact⟨rfl,rfl⟩
   cases c
  have z:∀r∈dJ P a<|b::l,r.lo=a+1/\r.hi=b/\a+1<b:=λr c=>by
   rw[gW]at c;split at c;.rename_i e;simp at c;subst c;exact⟨rfl,rfl,e.1⟩
   cases c
  refine⟨λr c=>?_,?_⟩
  .rcases F9.1 c with c|c
   .rcases F9.1 c with c|c;.have:=s r c;omega
    have:=z r c;omega
   exact K r c
  rw[QE,QE];refine⟨⟨?_,?_,λx j y C=>?_⟩,M,λx j y C=>?_⟩;.split<;>simp
  .rw[gW];split<;>simp
  .have:=s x j;have:=z y C;omega
  have U:=T y C;rcases F9.1 j with j|j;.have:=s x j;omega
  have:=z x j;omega
theorem aeu{P:Int->Bool}:∀{l:List Int},l.Pairwise (·<·)->(∀x y:Int,(∀a∈l.head?,a<=x)->x<=y->(∀b∈l,b<x\/y<b)->P x=P y)->(∀x:Int,(∀b∈l,b<x)->P x=false)->∀n:Int,(∀a∈l.head?,a<=n)->(Dt (Gg P l) n↔P n=true)
 |[],_,_,h3,n,_=>by unfold Gg;rw[h3 n λb hb=>by cases hb];exact⟨λg=>absurd g<|Nk n,λg=>by cases g⟩|[a],_,_,h3,n,hn=>by
  have hn:=hn a rfl;rw[Gg,aDN,Gg];rw[I9,I9];by_cases e:n=a
  .subst e;split;.rename_i e;exact⟨λ_=>e,λ_=>⟨_,EJ.2 rfl,J8 _,by show n<n+1;omega⟩⟩
   rename_i e;exact⟨λg=>absurd g<|Nk n,λg=>absurd g e⟩
  rw[h3 n λb hb=>by simp at hb;omega];refine⟨λg=>?_,λg=>by cases g⟩;split at g;.obtain⟨r,o,s,C⟩:=g;simp at o;subst o;simp only at s C;omega
  exact absurd g<|Nk n|a::b::l,h,h2,h3,n,hn=>by
  have hn:=hn a rfl;have U:=I8.1 h;have h1:=U.1 b ED;have e:Gg P (a::b::l)=(if P a=true then[⟨a,a+1⟩]else[])++dJ P a (b::l)++Gg P (b::l):=by rw[Gg]
  rw[e,Ry,Ry];have g0:Dt (if P a=true then[(⟨a,a+1⟩:Rn)]else[]) n↔P a=true/\n=a:=by
   split
   .rename_i e;constructor;.rintro⟨r,o,s,C⟩;simp at o;subst o;simp only at s C;exact⟨e,I⟩
    rintro⟨-,rfl⟩;exact⟨_,EJ.2 rfl,J8 _,by show n<n+1;omega⟩
   rename_i e;exact⟨λg=>absurd g<|Nk n,λg=>absurd g.1 e⟩
  have g1:Dt (dJ P a<|b::l) n↔P (a+1)=true/\a+1<=n/\n<b:=by
   rw[gW];split
   .rename_i e;constructor;.rintro⟨r,o,s,C⟩;simp at o;subst o;simp only at s C;exact⟨e.2,s,C⟩
    rintro⟨-,s,C⟩;exact⟨_,EJ.2 rfl,s,C⟩
   rename_i e;refine⟨λg=>absurd g<|Nk n,λg=>absurd ⟨I,g.1⟩ e⟩
  have hge:=aDP (P:=P) U.2;have hb':∀x∈b::l,b<=x:=λx K=>by
   rcases Dv.1 K with rfl|K;.exact J8 _
   have:=(I8.1 U.2).1 x K;omega
  by_cases c:b<=n
  .have ih:=aeu (P:=P) U.2 (λx y M hxy hb=>h2 x y λz j=>by simp at j;have:=M b rfl;omega hxy λz j=>by
    rcases Dv.1 j with rfl|j;.have:=M b rfl;exact .inl I
    exact hb z j) (λx K=>h3 x λz j=>by
      rcases Dv.1 j with rfl|j;.have:=K b ED;omega
      exact K z j) n (λz j=>by simp at j;omega);rw[ih,g0,g1];constructor
   .rintro((g|g)|g);.omega
    .omega
    exact g
   exactλg=>.inr g
  have T:¬Dt (Gg P<|b::l) n:=by rintro⟨r,o,s,C⟩;have:=hge r o;omega
  rw[g0,g1];by_cases c1:n=a
  .subst c1;constructor
   .rintro((g|g)|g);.exact g.1
    .omega
    exact absurd g T
   exactλg=>.inl<|.inl ⟨g,rfl⟩
  have hc:P (a+1)=P n:=h2 (a+1) n λz j=>by simp at j;omega I λz j=>by
   rcases Dv.1 j with rfl|j;.exact .inl I
   have:=hb' z j;exact .inr I
  rw[hc];constructor
  .rintro((g|g)|g);.exact absurd g.2 c1
   .exact g.1
   exact absurd g T
  exactλg=>.inl<|.inr ⟨g,I,I⟩
section
variable{α:Type}
theorem nN{lt:α->α->Bool}:∀{l m:List α},l.Perm m->l.Pairwise (λa b=>lt b a=false)->m.Pairwise (λa b=>lt b a=false)->(∀a∈l,∀b∈l,lt a b=false->lt b a=false->a=b)->l=m
 |[],m,hp,_,_,_=>(List.nil_perm.1 hp).symm|a::l,[],hp,_,_,_=>by have:=hp.length_eq;simp at this|a::l,b::m,hp,h1,h2,ht=>by
  have c:=I8.1 h1;have j:=I8.1 h2;have o:a=b:=by
   have s:a∈b::m:=hp.subset ED;have hb:b∈a::l:=hp.symm.subset ED;rcases Dv.1 s with e|s;.exact e
   rcases Dv.1 hb with e|hb;.exact e.symm
   exact ht a ED b (FW _ hb) (j.1 a s)<|c.1 b hb
  subst o;rw[nN (List.Perm.cons_inv hp) c.2 j.2 λx z y C=>ht x (FW _ z) y<|FW _ C]
theorem Wq:∀{l m:List Int},l.Nodup->(∀x∈l,x∈m)->l.length<=m.length|[],m,_,_=>C9 _|a::l,m,h,hs=>by have c:=lD.1 h;have j:=hs a ED;have:=Wq (m:=m.erase a) c.2 λx o=>(List.mem_erase_of_ne<|λe=>c.1<|by rw[<-e];exact o).2<|hs x<|FW _ o;rw[List.length_erase_of_mem j]at this;have s:0<m.length:=List.length_pos_of_mem j;simp only[Gy];omega
def iter(f:Int->Int)(x:Int):Nat->List Int|0=>[]|n+1=>x::iter f (f x) n
def pw(f:Int->Int)(x:Int):Nat->Int|0=>x|n+1=>f<|pw f x n
theorem aev(f:Int->Int)(x:Int)(n:Nat):pw f (f x) n=pw f x (n+1):=by induction n with|zero=>rfl|succ n c=>rw[pw,c];rfl
theorem Xj(f:Int->Int)(x:Int)(n:Nat):(iter f x n).length=n:=by induction n generalizing x with|zero=>rfl|succ n c=>simp[iter,c]
theorem nP(f:Int->Int)(x:Int)(n k:Nat)(hk:k<(iter f x n).length):(iter f x n)[k]=pw f x k:=by induction n generalizing x k with|zero=>simp[iter]at hk|succ n c=>cases k with|zero=>rfl|succ k=>simp only[iter,List.getElem_cons_succ];rw[c (f x) k<|by simpa[iter]using hk,aev]
theorem aaL(f:Int->Int)(x:Int)(n:Nat):iter f x (n+1)=iter f x n++[pw f x n]:=by induction n generalizing x with|zero=>rfl|succ n c=>rw[iter,c<|f x,aev];rfl
variable{f:Int->Int}{D:List Int}(hD:∀x∈D,f x∈D)(hi:∀x∈D,∀y∈D,f x=f y->x=y)
include hD in theorem Zi{x:Int}(hx:x∈D)(n:Nat):pw f x n∈D:=by induction n with|zero=>exact hx|succ n ih=>exact hD _ ih
include hD hi in theorem aew{x:Int}(hx:x∈D){i j:Nat}(h:pw f x i=pw f x (i+j)):pw f x j=x:=by induction i with|zero=>rw[Rk]at h;exact h.symm|succ i ih=>refine ih<|hi _ (Zi hD hx i) _ (Zi hD hx<|i+j) ?_;rw[show i+1+j=i+j+1 by omega]at h;exact h
theorem aex(f:Int->Int)(x:Int)(n:Nat):(iter f x n).Nodup\/∃i j,0<j/\i+j<n/\pw f x i=pw f x (i+j):=by induction n with|zero=>exact .inl List.nodup_nil|succ n c=>
  rcases c with h|⟨i,j,h1,h2,h3⟩
  .by_cases hm:pw f x n∈iter f x n;.right;obtain⟨k,hk,e⟩:=Dy.1 hm;rw[nP]at e;rw[Xj]at hk;exact⟨k,n-k,I,I,by rw[e,show k+(n-k)=n by omega]⟩
   left;rw[aaL,List.nodup_append];refine⟨h,Ak,λa o b hb=>?_⟩;rw[EJ]at hb;subst hb;exactλe=>hm<|e▸o
  .exact .inr ⟨i,j,h1,I,h3⟩
include hD hi in theorem returns{x:Int}(hx:x∈D):∃j,0<j/\j<=D.length/\pw f x j=x:=by
 rcases aex f x<|D.length+1 with h|⟨i,j,h1,h2,h3⟩;.have:=Wq h (λy hy=>by obtain⟨k,hk,rfl⟩:=Dy.1 hy;rw[nP];exact Zi hD hx k);rw[Xj]at this;omega
 exact⟨j,h1,I,aew hD hi hx h3⟩
def per(f:Int->Int)(x:Int):Nat->Nat->Nat|k,0=>k|k,n+1=>if pw f x k=x then k else per f x (k+1) n
theorem anj(f:Int->Int)(x:Int)(k n:Nat):k<=per f x k n/\∀j,k<=j->j<per f x k n->pw f x j≠x:=by induction n generalizing k with|zero=>exact⟨Dh _,λj h1 h2=>by simp only[per]at h2;omega⟩|succ n s=>
  unfold per;split;.exact⟨Dh _,λj h1 h2=>I⟩
  .rename_i c;obtain⟨h1,h2⟩:=s<|k+1;refine⟨I,λj z o=>?_⟩;by_cases e:j=k;.subst e;exact c
   exact h2 j I o
theorem ank(f:Int->Int)(x:Int)(k n:Nat)(h:∃j,k<=j/\j<=k+n/\pw f x j=x):pw f x (per f x k n)=x/\per f x k n<=k+n:=by induction n generalizing k with|zero=>obtain⟨j,h1,h2,h3⟩:=h;have:j=k:=I;subst this;exact⟨h3,Dh _⟩|succ n o=>
  unfold per;split;.rename_i e;exact⟨e,I⟩
  .rename_i c;obtain⟨j,h1,h2,h3⟩:=h;have:=o (k+1) ⟨j,by
    by_cases e:j=k;.subst e;exact absurd h3 c
    omega,I,h3⟩;exact⟨this.1,I⟩
def MS(f:Int->Int)(D:List Int)(x:Int):Nat:=per f x 1 D.length
def Jz(f:Int->Int)(D:List Int)(x:Int):List Int:=iter f x<|MS f D x
include hD hi in theorem Xt{x:Int}(hx:x∈D):0<MS f D x/\MS f D x<=D.length+1/\pw f x (MS f D x)=x/\(∀j,0<j->j<MS f D x->pw f x j≠x)/\(Jz f D x).Nodup/\(Jz f D x).length=MS f D x:=by
 obtain⟨j,h1,h2,h3⟩:=returns hD hi hx;obtain⟨a1,a2⟩:=anj f x 1 D.length;obtain⟨b1,b2⟩:=ank f x 1 D.length ⟨j,h1,I,h3⟩;refine⟨a1,by show per f x 1 D.length<=_;omega,b1,λj h1 h2=>a2 j h1 h2,?_,Xj _ _ _⟩;rcases aex f x<|MS f D x with h|⟨i,j,c1,c2,c3⟩;.exact h
 exact absurd (aew hD hi hx c3)<|a2 j c1<|by unfold MS at c2;omega
theorem Ws{f:Int->Int}{x y:Int}{n:Nat}:y∈iter f x n↔∃k,k<n/\pw f x k=y:=by
 rw[Dy];constructor;.rintro⟨k,hk,e⟩;rw[nP]at e;rw[Xj]at hk;exact⟨k,hk,e⟩
 rintro⟨k,hk,e⟩;exact⟨k,by rw[Xj];exact hk,by rw[nP];exact e⟩
include hD hi in theorem ab3{x y:Int}(hx:x∈D):y∈D->(f y∈Jz f D x↔y∈Jz f D x):=by
 intro hy;obtain⟨h1,-,h3,-⟩:=Xt hD hi hx;unfold Jz;rw[Ws,Ws];constructor;.rintro⟨k,hk,e⟩;cases k with
  |zero=>
   refine⟨MS f D x-1,I,hi _ (Zi hD hx _) _ hy ?_⟩;have:pw f x (MS f D x-1+1)=x:=by rw[aDh h1];exact h3
   rw[pw]at this;rw[this];exact e|succ k=>exact⟨k,I,hi _ (Zi hD hx _) _ hy e⟩
 rintro⟨k,hk,rfl⟩;by_cases e:k+1=MS f D x
 .refine⟨0,h1,?_⟩;have h4:pw f x (k+1)=x:=by rw[e];exact h3
  exact h4.symm
 exact⟨k+1,I,rfl⟩
end
section
def QM(f:Int->Int)(D:List Int)(acc:List<|List Int)(d:Int):List<|List Int:=if d∈acc.flatten then acc else acc++[Jz f D d]
def aDQ(f:Int->Int)(D L:List Int):List<|List Int:=L.foldl (QM f D) []
variable{f:Int->Int}{D:List Int}
theorem aey{x:Int}(h:0<MS f D x):x∈Jz f D x:=Ws.2 ⟨0,h,rfl⟩
theorem yx(hD:∀x∈D,f x∈D){x y:Int}(c:x∈D)(j:y∈Jz f D x):y∈D:=by obtain⟨k,-,rfl⟩:=Ws.1 j;exact Zi hD c k
structure QN(f:Int->Int)(D P:List Int)(acc:List<|List Int):Prop where
 rQ:∀l∈acc,∃d∈P,l=Jz f D d/\∀e∈l,e∈P->d<=e
 covers:∀x∈P,x∈acc.flatten
 nodup:acc.flatten.Nodup
 closed:∀y∈D,f y∈acc.flatten↔y∈acc.flatten
theorem QN.back{P:List Int}{c:List<|List Int}(h:QN f D P c)(hD:∀x∈D,f x∈D){x:Int}(j:x∈D)(k:Nat):pw f x k∈c.flatten↔x∈c.flatten:=by induction k with|zero=>exact Iff.rfl|succ k o=>exact(h.closed _<|Zi hD j k).trans o
theorem QN.nil(f:Int->Int)(D:List Int):QN f D [] []:=⟨λl h=>(by cases h),λx h=>(by cases h),List.nodup_nil,λy _=>⟨λh=>(by cases h),λh=>by cases h⟩⟩
theorem QN.apart{P:List Int}{c:List<|List Int}(h:QN f D P c)(hD:∀x∈D,f x∈D){d:Int}(hd:d∈D)(hm:d∉c.flatten){y:Int}(j:y∈Jz f D d):y∉c.flatten:=by obtain⟨k,-,rfl⟩:=Ws.1 j;exactλe=>hm<|(h.back hD hd k).1 e
theorem QN.step{P:List Int}{o:List<|List Int}(h:QN f D P o)(hD:∀x∈D,f x∈D)(hi:∀x∈D,∀y∈D,f x=f y->x=y){d:Int}(hd:d∈D)(hlt:∀x∈P,x<d):QN f D (P++[d])<|QM f D o d:=by
 unfold QM;by_cases hm:d∈o.flatten
 .rw[AZ hm];refine⟨λl s=>?_,λx j=>?_,h.nodup,h.closed⟩
  .obtain⟨K,h1,h2,h3⟩:=h.rQ l s;refine⟨K,O8 _ h1,h2,λe C c=>?_⟩;rcases F9.1 c with c|c;.exact h3 e C c
   rw[EJ]at c;subst c;exact aS<|hlt _ h1
  rcases F9.1 j with j|j;.exact h.covers x j
  rw[EJ]at j;subst j;exact hm
 rw[AX hm];obtain⟨T,-,-,-,U,-⟩:=Xt hD hi hd;have z:(o++[Jz f D d]).flatten=o.flatten++Jz f D d:=by simp
 refine⟨λl s=>?_,λx j=>?_,?_,λy M=>?_⟩
 .rcases F9.1 s with s|s
  .obtain⟨K,h1,h2,h3⟩:=h.rQ l s;refine⟨K,O8 _ h1,h2,λe C c=>?_⟩;rcases F9.1 c with c|c;.exact h3 e C c
   rw[EJ]at c;subst c;exact aS<|hlt _ h1
  rw[EJ]at s;refine⟨d,aQ _<|EJ.2 rfl,s,λe C c=>?_⟩;subst s;rcases F9.1 c with c|c;.exact absurd (h.covers e c)<|h.apart hD hd hm C
  rw[EJ]at c;exact Int.le_of_eq c.symm
 .rw[z];rcases F9.1 j with j|j;.exact O8 _<|h.covers x j
  rw[EJ]at j;subst j;exact aQ _<|aey T
 .rw[z,List.nodup_append];exact⟨h.nodup,U,λa ha b hb e=>h.apart hD hd hm hb<|e▸ha⟩
 rw[z,F9,F9,h.closed y M,ab3 hD hi hd M]
theorem ab4(hD:∀x∈D,f x∈D)(hi:∀x∈D,∀y∈D,f x=f y->x=y):∀(L P:List Int)(c:List<|List Int),QN f D P c->(∀x∈L,x∈D)->(P++L).Pairwise (·<·)->QN f D (P++L) (L.foldl (QM f D) c)|[],P,c,h,_,_=>by rw[I9];exact h|d::L,P,c,h,hs,hp=>by have j:=QE.1 hp;have:=ab4 hD hi L (P++[d]) _ (h.step hD hi (hs d ED)<|λx o=>j.2.2 x o d ED) (λx o=>hs x<|FW _ o) (by rw[Jv];exact hp);rw[Jv]at this;exact this
theorem anl(hD:∀x∈D,f x∈D)(hi:∀x∈D,∀y∈D,f x=f y->x=y)(c:D.Pairwise (·<·)):QN f D D<|aDQ f D D:=by have:=ab4 hD hi D [] [] (QN.nil f D) (λx j=>j) c;exact this
theorem QN.perm{c:List<|List Int}(h:QN f D D c)(hD:∀x∈D,f x∈D)(o:D.Nodup):c.flatten.Perm D:=by refine(xq h.nodup o).2 λx=>⟨λj=>?_,h.covers x⟩;obtain⟨l,s,j⟩:=aCU.1 j;obtain⟨d,h1,h2,-⟩:=h.rQ l s;subst h2;exact yx hD h1 j
end
def Bl(p:Pt):Bool:=decide (-2097152<=p.x)&&decide (p.x<=2097152)&&decide (-2097152<=p.y)&&decide (p.y<=2097152)
def ES(l:List Pt):Bool:=l.all Bl
def tw(a b c:Pt):Int:=(b.x-a.x)*(c.y-a.y)-(b.y-a.y)*(c.x-a.x)
theorem QO(p:Pt):Bl p=true↔-2097152<=p.x/\p.x<=2097152/\-2097152<=p.y/\p.y<=2097152:=by simp[Bl,and_assoc]
theorem ab5(l:List Pt)(k:Nat)(hk:k<l.length)(h:Bl l[k]=false):ES l=false:=by unfold ES;rw[aT];exact⟨l[k],BG hk,by simp[h]⟩
theorem ab6(l:List Pt)(h:∀j(o:j<l.length),Bl l[j]=true):ES l=true:=by unfold ES;rw[KO];intro x c;obtain⟨i,hi,rfl⟩:=Dy.1 c;exact h i hi
theorem rU(v:Value)(l:List Pt)(w:World)(h:EL w v l):Calls prog 92 #[v] w λe w'=>e=.returned (.bool<|ES l)/\AU w w':=by
 obtain⟨A,c,rfl,hn,hc,M⟩:=h;unfold maxLen at hc;go_enter func92,ntmps92;go_wp2_with fail;go_loopw[7](λi wr=>∃k:Nat,k<=l.length/\i=.int .i64 k/\AU w wr/\∀j(T:j<l.length),j<k->Bl l[j]=true)λi _=>l.length-(intOf i).toNat;case atStart=>exact⟨0,C9 _,rfl,Below.refl _ _,λj _ h=>I⟩
 obtain⟨k,hk,rfl,hb,s⟩:=hrel;have K:=V hb;have z:=V s;have U:=hb.size;clear hb s;by_cases hlt:k<l.length
 .obtain⟨b,o,rfl,hlb,c0,c1⟩:=(M.mono K.1).pt hlt;clear M;by_cases hnr:Bl l[k]=true
  .have Hn:=V hnr;obtain⟨n1,n2,n3,n4⟩:=(QO _).1 hnr;clear hnr;go_wp2;go_roundw;case rel=>exact⟨k+1,I,BH,K.1.alloc U _,all_succ (p:=λx=>Bl x=true) z.1 hlt Hn.1⟩
   exact BJ
  have C:Bl l[k]=false:=by simpa using hnr
  have Hf:=V<|ab5 l k hlt C;clear C;have zA:=V hnr;clear hnr;go_wp2;all_goals first|(go_ret;exact⟨Cm Hf.1.symm,K.1.alloc U _⟩)|(exfalso;exact zA.1<|(QO _).2 ⟨I,I,I,I⟩)
 go_wp2;go_ret;exact⟨Cm (ab6 l λj T=>z.1 j T I).symm,K.1⟩
def lim(p:Pt):Prop:=-2097152<=p.x/\p.x<=2097152/\-2097152<=p.y/\p.y<=2097152
theorem Rz(a b m:Int)(h1:-m<=a)(h2:a<=m)(h3:-m<=b)(j:b<=m):-(m*m)<=a*b/\a*b<=m*m:=by
 have hm:0<=m:=I;rcases gJ 0 a with c|c<;>rcases gJ 0 b with hb|hb;.exact⟨by have:=LX c hb;have:=LX hm hm;omega,aDi h2 j hb hm⟩
 .have e:a*b=-(a*-b):=by rw[qm];omega
  have h:=aDi h2 (show-b<=m by omega) I hm;have o:=LX c (show 0<=-b by omega);have:=LX hm hm;omega
 .have e:a*b=-(-a*b):=by rw[PY];omega
  have h:=aDi (show-a<=m by omega) j hb hm;have o:=LX (show 0<=-a by omega) hb;have:=LX hm hm;omega
 have e:a*b=-a*-b:=by rw[Int.neg_mul_neg]
 have h:=aDi (show-a<=m by omega) (show-b<=m by omega) I hm;have o:=LX (show 0<=-a by omega) (show 0<=-b by omega);have:=LX hm hm;omega
theorem aez(a b c:Pt)(w:World)(j:lim a)(hb:lim b)(o:lim c):Calls prog 93 #[BD a,BD b,BD c] w λe w'=>e=.returned (.int .i64<|tw a b c)/\AU w w':=by obtain⟨a1,M,T,U⟩:=j;obtain⟨b1,b2,b3,b4⟩:=hb;obtain⟨c1,c2,c3,c4⟩:=o;obtain⟨s,z⟩:=Rz (b.x-a.x) (c.y-a.y) 4194304 I I I I;obtain⟨C,K⟩:=Rz (b.y-a.y) (c.x-a.x) 4194304 I I I I;simp only[Int.reduceMul,Int.reduceNeg]at s z C K;unfold BD;go_enter func93,ntmps93;go_wp2;go_ret;exact⟨DZ rfl,(((Below.refl _ _).alloc (Dh _) _).alloc Ak _).alloc D8 _⟩
theorem Wu{p:Pt}(h:Bl p=true):lim p:=(QO p).1 h
theorem aDR{a b c:Pt}(h:ES [a,b,c]=true):lim a/\lim b/\lim c:=by simp only[ES,aCM,aDb,aCN,EC]at h;exact⟨Wu h.1,Wu h.2.1,Wu h.2.2⟩
theorem an0{a b c d:Pt}(h:ES [a,b,c,d]=true):lim a/\lim b/\lim c/\lim d:=by simp only[ES,aCM,aDb,aCN,EC]at h;exact⟨Wu h.1,Wu h.2.1,Wu h.2.2.1,Wu h.2.2.2⟩
def dK(a b c:Pt):Int:=if ES [a,b,c]=true then tw a b c else 0
theorem an1(a b c:Pt)(w:World):Calls prog 58 #[BD a,BD b,BD c] w λe w'=>e=.returned (.int .i64<|dK a b c)/\AU w w':=by
 unfold BD;by_cases hn:ES [a,b,c]=true
 .obtain⟨U,hb,hc⟩:=aDR hn;obtain⟨Ha,Hb,Hc⟩:=CB U hb hc;clear U hb hc;go_enter func58,ntmps58;go_wp2_with fail;refine(rU _ [a,b,c] _<|EL.gV<|AO.made Ak _ _).mono ?_;rintro e w1⟨rfl,j⟩;obtain⟨o,s⟩:=dH j;have z:=j.size;try simp only[World.size_alloc,World.size_setCell,World.size_drew]at z
  have C:w.heap.size<w1.heap.size:=I;have K:w.heap.size+1<w1.heap.size:=I;have M:w.heap.size+1+1<w1.heap.size:=I;go_wp2_with fail;refine(aez a b c _ Ha.1 Hb.1 Hc.1).mono ?_;rintro e w2⟨rfl,hb2⟩;go_wp2;go_ret;refine⟨DZ<|by simp[dK,hn],?_⟩;exact ER
 have T:ES [a,b,c]=false:=by simpa using hn
 clear hn;go_enter func58,ntmps58;go_wp2_with fail;refine(rU _ [a,b,c] _<|EL.gV<|AO.made Ak _ _).mono ?_;rintro e w1⟨rfl,j⟩;obtain⟨o,s⟩:=dH j;have z:=j.size;try simp only[World.size_alloc,World.size_setCell,World.size_drew]at z
 have C:w.heap.size<w1.heap.size:=I;have K:w.heap.size+1<w1.heap.size:=I;have M:w.heap.size+1+1<w1.heap.size:=I;go_wp2;go_ret;refine⟨DZ<|by simp[dK,T],?_⟩;exact ER
def GH(a b c:Pt):Int:=if 0<dK a b c then 1 else if dK a b c<0 then-1 else 0
theorem af0(a b c:Pt)(w:World):Calls prog 161 #[BD a,BD b,BD c] w λe w'=>e=.returned (.int .i64<|GH a b c)/\AU w w':=by have T:∀W,Calls prog 58 #[BD a,BD b,BD c] W _:=λW=>an1 a b c W;unfold BD at T⊢;unfold GH;generalize dK a b c=t at*;have j:=V T;clear T;go_enter func161,ntmps161;go_wp2_with fail;refine(j.1 _).mono ?_;rintro e w1⟨rfl,o⟩;go_wp2_with fail;all_goals go_ret;refine⟨DZ rfl,?_⟩;exact ER
def Eh(a b p:Pt):Bool:=ES [a,b,p]&&decide (tw a b p=0)&&decide (min a.x b.x<=p.x)&&decide (p.x<=max a.x b.x)&&decide (min a.y b.y<=p.y)&&decide (p.y<=max a.y b.y)
theorem zB(a b p:Pt)(w:World):Calls prog 39 #[BD a,BD b,BD p] w λe w'=>e=.returned (.bool<|Eh a b p)/\AU w w':=by
 unfold BD;by_cases hn:ES [a,b,p]=true
 .obtain⟨ha,hb,hc⟩:=aDR hn;have T:∀W,Calls prog 93 #[BD a,BD b,BD p] W _:=λW=>aez a b p W ha hb hc;unfold BD at T;have hS:Eh a b p=(decide (tw a b p=0)&&decide (min a.x b.x<=p.x)&&decide (p.x<=max a.x b.x)&&decide (min a.y b.y<=p.y)&&decide (p.y<=max a.y b.y)):=by simp[Eh,hn]
  rw[hS];generalize tw a b p=t at*;have HT:=V T;clear T ha hb hc hS;go_enter func39,ntmps39;go_wp2_with fail;refine(rU _ [a,b,p] _<|EL.gV<|AO.made Ak _ _).mono ?_;rintro e w1⟨rfl,c⟩;obtain⟨j,o⟩:=dH c;have s:=c.size;try simp only[World.size_alloc,World.size_setCell,World.size_drew]at s
  have z:w.heap.size<w1.heap.size:=I;have C:w.heap.size+1<w1.heap.size:=I;have K:w.heap.size+1+1<w1.heap.size:=I;go_wp2_with fail;refine(HT.1 _).mono ?_;rintro e w2⟨rfl,hb2⟩;obtain⟨an2,an3⟩:=dH hb2;have M:=hb2.size;try simp only[World.size_alloc,World.size_setCell,World.size_drew]at M
  have an4:w.heap.size<w2.heap.size:=I;have an5:w.heap.size+1<w2.heap.size:=I;have an6:w.heap.size+1+1<w2.heap.size:=I;by_cases ht:t=0;.subst ht;go_wp2_with fail;all_goals go_ret;refine⟨Cm<|by rw[KQ];simp only[EC,DI,O7,false_iff,true_iff];omega,?_⟩;exact ER
  have ht':(t==0)=false:=by simpa using ht
  go_wp2;go_ret;refine⟨Cm<|by simp[ht],?_⟩;exact ER
 have U:ES [a,b,p]=false:=by simpa using hn
 clear hn;go_enter func39,ntmps39;go_wp2_with fail;refine(rU _ [a,b,p] _<|EL.gV<|AO.made Ak _ _).mono ?_;rintro e w1⟨rfl,c⟩;obtain⟨j,o⟩:=dH c;have s:=c.size;try simp only[World.size_alloc,World.size_setCell,World.size_drew]at s
 have z:w.heap.size<w1.heap.size:=I;have C:w.heap.size+1<w1.heap.size:=I;have K:w.heap.size+1+1<w1.heap.size:=I;go_wp2;go_ret;refine⟨Cm<|by simp[Eh,U],?_⟩;exact ER
theorem an7(a b:Pt)(w:World):Calls prog 297 #[BD a,BD b] w λe w'=>e=.returned (.bool<|CU a b)/\AU w w':=by
 unfold BD;by_cases h1:a.x<b.x;.go_enter func297,ntmps297;go_wp2;go_ret;refine⟨Cm<|by simp[CU,h1],?_⟩;exact ER
 by_cases h2:(a.x==b.x)=true;.go_enter func297,ntmps297;go_wp2;go_ret;refine⟨Cm<|by simp only[CU];simp_all,?_⟩;exact ER
 have c:(a.x==b.x)=false:=by simpa using h2
 clear h2;go_enter func297,ntmps297;go_wp2;go_ret;refine⟨Cm<|by simp only[CU];simp_all,?_⟩;exact ER
def Lc(a b c d:Pt):Int:=let a':=if CU b a then b else a
 let b':=if CU b a then a else b
 let c':=if CU d c then d else c
 let d':=if CU d c then c else d
 let f:=if CU a' c' then c' else a'
 let l:=if CU d' b' then d' else b'
 if f=l then 1 else if CU f l then 2 else 0
theorem an8(a b c d:Pt)(w:World):Calls prog 286 #[BD a,BD b,BD c,BD d] w λe w'=>e=.returned (.int .i64<|Lc a b c d)/\AU w w':=by
 have T:∀p q:Pt,∀W,Calls prog 297 #[BD p,BD q] W _:=λp q W=>an7 p q W;unfold BD at T⊢;have HT:=V T;clear T;go_enter func286,ntmps286;go_wp2_with fail;refine(HT.1 b a _).mono ?_;rintro e w1⟨rfl,C⟩;have Nl:AU w w1:=by exact ER
 have X4:Boxed w1 w.heap.size a:=((((Boxed.new _ a rfl).alloc _).alloc _).alloc _).keep C;have X5:Boxed w1 (w.heap.size+1) b:=(((Boxed.new _ b Ak).alloc _).alloc _).keep C;have z:Boxed w1 (w.heap.size+1+1) c:=((Boxed.new _ c Ak).alloc _).keep C;have j:Boxed w1 (w.heap.size+1+1+1) d:=(Boxed.new _ d Ak).keep C;clear C;go_upto_if 13 with fail;go_cut[]λo=>Boxed o w.heap.size (if CU b a then b else a)/\Boxed o (w.heap.size+1) (if CU b a then a else b)/\Boxed o (w.heap.size+1+1) c/\Boxed o (w.heap.size+1+1+1) d/\AU w o;case first=>
  obtain⟨Wv,x40,x41,x4f,x4g⟩:=X4.facts;obtain⟨Wx,Wy,WE,x5f,x5g⟩:=X5.facts;cases h:CU b a;.go_wp2;go_meet;rw[h];exact⟨X4,X5,z,j,Nl⟩
  go_wp2;go_meet;rw[h];exact⟨(X4.EM.far DJ _).far DJ _,(X5.far DJ _|>.far DJ _).EM,(((z.far DJ _).far DJ _).far DJ _).far DJ _,(((j.far DJ _).far DJ _).far DJ _).far DJ _,bS (bS (bS (bS Nl DJ _) DJ _) DJ _) DJ _⟩
 clear Nl X4 X5 z j;obtain⟨X4,X5,z,j,s⟩:=hcut;obtain⟨a1,ha1⟩:=BR<|if CU b a then b else a;obtain⟨b1,C⟩:=BR<|if CU b a then a else b;rw[<-ha1]at X4;rw[<-C]at X5;have Ha:=V ha1;clear ha1;have Hb:=V C;clear C;obtain⟨Xu,Xv,Xw,-⟩:=z.facts;obtain⟨S9,UA,UC,-⟩:=j.facts;go_wp2_with fail;refine(HT.1 d c _).mono ?_;rintro e w2⟨rfl,hb2⟩;clear Xu Xv Xw S9 UA UC;replace s:AU w w2:=J s hb2;replace X4:=X4.keep hb2;replace X5:=X5.keep hb2;replace z:=z.keep hb2;replace j:=j.keep hb2;clear hb2;go_upto_if 18 with fail;go_cut[]λo=>Boxed o w.heap.size a1/\Boxed o (w.heap.size+1) b1/\Boxed o (w.heap.size+1+1) (if CU d c then d else c)/\Boxed o (w.heap.size+1+1+1) (if CU d c then c else d)/\AU w o;case first=>
  obtain⟨Xu,Xv,Xw,x6f,x6g⟩:=z.facts;obtain⟨S9,UA,UC,x7f,x7g⟩:=j.facts;cases h:CU d c;.go_wp2;go_meet;rw[h];exact⟨X4,X5,z,j,s⟩
  go_wp2;go_meet;rw[h];exact⟨(((X4.far DJ _).far DJ _).far DJ _).far DJ _,(((X5.far DJ _).far DJ _).far DJ _).far DJ _,(z.EM.far DJ _).far DJ _,(j.far DJ _|>.far DJ _).EM,bS (bS (bS (bS s DJ _) DJ _) DJ _) DJ _⟩
 clear s X4 X5 z j;obtain⟨X4,X5,z,j,s⟩:=hcut;obtain⟨c1,hc1⟩:=BR<|if CU d c then d else c;obtain⟨d1,hd1⟩:=BR<|if CU d c then c else d;rw[<-hc1]at z;rw[<-hd1]at j;have Hc:=V hc1;clear hc1;have Hd:=V hd1;clear hd1;obtain⟨Wv,x40,x41,x4f,x4g⟩:=X4.facts;obtain⟨Wx,Wy,WE,x5f,x5g⟩:=X5.facts;go_upto_region 5 with fail;go_cut[9,10]λs9 s10 o=>∃g9 U:Nat,s9=.pointer (some ⟨g9,0,none⟩)/\s10=.pointer (some ⟨U,0,none⟩)/\Boxed o g9 a1/\Boxed o U b1/\g9≠U/\w.heap.size+1+1+1<g9/\w.heap.size+1+1+1<U/\Boxed o (w.heap.size+1+1) c1/\Boxed o (w.heap.size+1+1+1) d1/\AU w o;case first=>
  have S9:=j.lt;go_region;.go_wp2;go_meet;exact⟨_,_,rfl,rfl,((Boxed.new _ a1 rfl).alloc _).drew,(Boxed.new _ b1 Ak).drew,DJ,DJ,DJ,((z.alloc _).alloc _).drew,((j.alloc _).alloc _).drew,bD<|bA (bA s _) _⟩
  go_wp2;go_meet;exact⟨_,_,rfl,rfl,(Boxed.new _ a1 Ak).drew,((Boxed.new _ b1 rfl).alloc _).drew,DJ,DJ,DJ,((z.alloc _).alloc _).drew,((j.alloc _).alloc _).drew,bD<|bA (bA s _) _⟩
 clear s X4 X5 z j Wv x40 x41 x4f x4g Wx Wy WE x5f x5g;obtain⟨g9,U,rfl,rfl,K,M,hne,MF,gX,z,j,s⟩:=hcut;obtain⟨x9l,x90,x91,-⟩:=K.facts;obtain⟨Xu,Xv,Xw,-⟩:=z.facts;go_wp2_with fail;refine(HT.1 a1 c1 _).mono ?_;rintro e w3⟨rfl,hb3⟩;replace s:AU w w3:=J s hb3;replace K:=K.keep hb3;replace M:=M.keep hb3;replace z:=z.keep hb3;replace j:=j.keep hb3;clear hb3 x9l x90 x91 Xu Xv Xw;go_upto_if 25 with fail;go_cut[]λo=>Boxed o g9 (if CU a1 c1 then c1 else a1)/\Boxed o U b1/\Boxed o (w.heap.size+1+1+1) d1/\AU w o;case first=>
  obtain⟨x9l,x90,x91,x9f,x9g⟩:=K.facts;obtain⟨Xu,Xv,Xw,x6f,x6g⟩:=z.facts;cases h:CU a1 c1;.go_wp2;go_meet;rw[h];exact⟨K,M,j,s⟩
  go_wp2;go_meet;rw[h];exact⟨K.EM,(M.far DJ _).far DJ _,(j.far DJ _).far DJ _,bS (bS s DJ _) DJ _⟩
 clear s K M z j;obtain⟨K,M,j,s⟩:=hcut;obtain⟨f1,hf1⟩:=BR<|if CU a1 c1 then c1 else a1;rw[<-hf1]at K;have Hf:=V hf1;clear hf1;obtain⟨abD,x100,x101,-⟩:=M.facts;obtain⟨S9,UA,UC,-⟩:=j.facts;go_wp2_with fail;refine(HT.1 d1 b1 _).mono ?_;rintro e w4⟨rfl,hb4⟩;replace s:AU w w4:=J s hb4;replace K:=K.keep hb4;replace M:=M.keep hb4;replace j:=j.keep hb4;clear hb4 abD x100 x101 S9 UA UC;go_upto_if 29 with fail;go_cut[]λo=>Boxed o g9 f1/\Boxed o U (if CU d1 b1 then d1 else b1)/\AU w o;case first=>
  obtain⟨abD,x100,x101,x10f,azF⟩:=M.facts;obtain⟨S9,UA,UC,x7f,x7g⟩:=j.facts;cases h:CU d1 b1;.go_wp2;go_meet;rw[h];exact⟨K,M,s⟩
  go_wp2;go_meet;rw[h];exact⟨(K.far DJ _).far DJ _,M.EM,bS (bS s DJ _) DJ _⟩
 clear s K M j;obtain⟨K,M,s⟩:=hcut;obtain⟨l1,hl1⟩:=BR<|if CU d1 b1 then d1 else b1;rw[<-hl1]at M;have Hl:=V hl1;clear hl1;have HS:Lc a b c d=if f1=l1 then 1 else if CU f1 l1 then 2 else 0:=by rw[Hf.1,Hl.1,Ha.1,Hb.1,Hc.1,Hd.1];rfl
 replace HS:=V HS;obtain⟨abD,x100,x101,-⟩:=M.facts;obtain⟨x9l,x90,x91,-⟩:=K.facts;have hE:=Vd f1 l1;go_wp2_with fail;.go_ret;refine⟨DZ ?_,s⟩;rw[HS.1,AZ Ol]
 refine(HT.1 f1 l1 _).mono ?_;rintro e w5⟨rfl,hb5⟩;have hfl:¬f1=l1:=by assumption
 cases h:CU f1 l1;.go_wp2;go_ret;refine⟨DZ ?_,J s hb5⟩;rw[HS.1,AX hfl,h];rfl
 go_wp2;go_ret;refine⟨DZ ?_,J s hb5⟩;rw[HS.1,AX hfl,h];rfl
def KA(a b c d:Pt):Int:=if ES [a,b,c,d]=true then if a=b then(if Eh c d a then 1 else 0)else if c=d then(if Eh a b c then 1 else 0)else if GH a b c=0/\GH a b d=0 then Lc a b c d else if GH a b c*GH a b d<=0/\GH c d a*GH c d b<=0 then 1 else 0 else 0
theorem aDS(a b c:Pt):-1<=GH a b c/\GH a b c<=1:=by
 unfold GH;split;.omega
 split<;>omega
theorem an9(a b c d:Pt)(w:World):Calls prog 260 #[BD a,BD b,BD c,BD d] w λe w'=>e=.returned (.int .i64<|KA a b c d)/\AU w w':=by
 have TS:∀p q r:Pt,∀W,Calls prog 161 #[BD p,BD q,BD r] W _:=λp q r W=>af0 p q r W;have TO:∀p q r:Pt,∀W,Calls prog 39 #[BD p,BD q,BD r] W _:=λp q r W=>zB p q r W;have TH:∀p q r s:Pt,∀W,Calls prog 286 #[BD p,BD q,BD r,BD s] W _:=λp q r s W=>an8 p q r s W;unfold BD at TS TO TH⊢;have HS:=V TS;clear TS;have HO:=V TO;clear TO;have HH:=V TH;clear TH;by_cases hn:ES [a,b,c,d]=true;case neg=>
  have hn':ES [a,b,c,d]=false:=by simpa using hn
  have hm:KA a b c d=0:=by simp[KA,hn']
  have o:=V hm;clear hn hm;go_enter func260,ntmps260;go_wp2_with fail;refine(rU _ [a,b,c,d] _<|EL.aD8<|AO.made Ak _ _).mono ?_;rintro e w1⟨rfl,hb1⟩;go_wp2;go_ret;refine⟨DZ o.1.symm,?_⟩;exact ER
 have Hn:=V hn;go_enter func260,ntmps260;go_wp2_with fail;refine(rU _ [a,b,c,d] _<|EL.aD8<|AO.made Ak _ _).mono ?_;rintro e w1⟨rfl,hb1⟩;have Bw:AU w w1:=by exact ER
 have K:Boxed w1 w.heap.size a:=(((((Boxed.new _ a rfl).alloc _).alloc _).alloc _).alloc _).keep hb1;have M:Boxed w1 (w.heap.size+1) b:=((((Boxed.new _ b Ak).alloc _).alloc _).alloc _).keep hb1;have U:Boxed w1 (w.heap.size+1+1) c:=(((Boxed.new _ c Ak).alloc _).alloc _).keep hb1;have T:Boxed w1 (w.heap.size+1+1+1) d:=((Boxed.new _ d Ak).alloc _).keep hb1;clear hb1;obtain⟨Wv,z,C,-⟩:=K.facts;obtain⟨Wx,Wy,WE,-⟩:=M.facts;obtain⟨Xu,Xv,Xw,-⟩:=U.facts;obtain⟨S9,UA,UC,-⟩:=T.facts;have hE1:=Vd a b;have hE2:=Vd c d;have hs1:=aDS a b c;have hs2:=aDS a b d;have hs3:=aDS c d a;have hs4:=aDS c d b;by_cases hab:a=b
 .have hm:KA a b c d=if Eh c d a then 1 else 0:=by rw[KA,AZ Hn.1,AZ hab]
  have o:=V hm;clear hm;have hab':decide (a=b)=true:=by simpa using hab
  clear hab;go_wp2_with fail;refine(HO.1 c d a _).mono ?_;rintro e w2⟨rfl,hb2⟩;cases h:Eh c d a;.rw[h]at o;go_wp2;go_ret;refine⟨DZ o.1.symm,?_⟩;exact ER
  rw[h]at o;go_wp2;go_ret;refine⟨DZ o.1.symm,?_⟩;exact ER
 by_cases hcd:c=d
 .have hm:KA a b c d=if Eh a b c then 1 else 0:=by rw[KA,AZ Hn.1,AX hab,AZ hcd]
  have o:=V hm;clear hm;have hab':decide (a=b)=false:=by simpa using hab
  have af4:decide (c=d)=true:=by simpa using hcd
  clear hab hcd;go_wp2_with fail;refine(HO.1 a b c _).mono ?_;rintro e w2⟨rfl,hb2⟩;cases h:Eh a b c;.rw[h]at o;go_wp2;go_ret;refine⟨DZ o.1.symm,?_⟩;exact ER
  rw[h]at o;go_wp2;go_ret;refine⟨DZ o.1.symm,?_⟩;exact ER
 by_cases hl:GH a b c=0/\GH a b d=0
 .have hm:KA a b c d=Lc a b c d:=by rw[KA,AZ Hn.1,AX hab,AX hcd,AZ hl]
  have o:=V hm;clear hm;have hab':decide (a=b)=false:=by simpa using hab
  have af4:decide (c=d)=false:=by simpa using hcd
  obtain⟨l1,l2⟩:=hl;have L1:=V l1;have L2:=V l2;clear hab hcd l1 l2;go_wp2_with fail;refine(HS.1 a b c _).mono ?_;rintro e w2⟨rfl,hb2⟩;rw[L1.1];replace Bw:AU w w2:=J Bw hb2;replace K:=K.keep hb2;replace M:=M.keep hb2;replace U:=U.keep hb2;replace T:=T.keep hb2;clear hb2 Wv z C Wx Wy WE Xu Xv Xw S9 UA UC;obtain⟨Wv,z,C,-⟩:=K.facts;obtain⟨Wx,Wy,WE,-⟩:=M.facts;obtain⟨S9,UA,UC,-⟩:=T.facts;go_wp2_with fail;refine(HS.1 a b d _).mono ?_;rintro e w3⟨rfl,j⟩;rw[L2.1];replace Bw:AU w w3:=J Bw j;replace K:=K.keep j;replace M:=M.keep j;replace U:=U.keep j;replace T:=T.keep j;clear j Wv z C Wx Wy WE S9 UA UC;obtain⟨Wv,z,C,-⟩:=K.facts;obtain⟨Wx,Wy,WE,-⟩:=M.facts;obtain⟨Xu,Xv,Xw,-⟩:=U.facts;obtain⟨S9,UA,UC,-⟩:=T.facts;go_wp2_with fail;refine(HH.1 a b c d _).mono ?_;rintro e w4⟨rfl,hb4⟩;go_wp2;go_ret;refine⟨DZ o.1.symm,?_⟩;exact ER
 have hm:KA a b c d=if GH a b c*GH a b d<=0/\GH c d a*GH c d b<=0 then 1 else 0:=by rw[KA,AZ Hn.1,AX hab,AX hcd,AX hl]
 have o:=V hm;clear hm;have hab':decide (a=b)=false:=by simpa using hab
 have af4:decide (c=d)=false:=by simpa using hcd
 have Hl:=V hl;clear hab hcd hl;go_upto_region 9 with fail;go_cut[55]λs55 wx=>s55=.bool false/\Boxed wx w.heap.size a/\Boxed wx (w.heap.size+1) b/\Boxed wx (w.heap.size+1+1) c/\Boxed wx (w.heap.size+1+1+1) d/\AU w wx;case first=>
  go_wp2_with fail;refine(HS.1 a b c _).mono ?_;rintro e w2⟨rfl,hb2⟩;replace Bw:AU w w2:=J Bw hb2;replace K:=K.keep hb2;replace M:=M.keep hb2;replace U:=U.keep hb2;replace T:=T.keep hb2;clear hb2 Wv z C Wx Wy WE Xu Xv Xw S9 UA UC;by_cases hz:GH a b c=0
  .have hz2:¬GH a b d=0:=λh=>Hl.1 ⟨hz,h⟩;have hz2':(GH a b d==0)=false:=by simpa using hz2
   clear hz2;rw[hz];clear hz;obtain⟨Wv,z,C,-⟩:=K.facts;obtain⟨Wx,Wy,WE,-⟩:=M.facts;obtain⟨S9,UA,UC,-⟩:=T.facts;go_wp2_with fail;refine(HS.1 a b d _).mono ?_;rintro e w3⟨rfl,j⟩;replace Bw:AU w w3:=J Bw j;replace K:=K.keep j;replace M:=M.keep j;replace U:=U.keep j;replace T:=T.keep j;clear j Wv z C Wx Wy WE S9 UA UC;go_wp2;go_meet;exact⟨rfl,K,M,U,T,Bw⟩
  have hz':(GH a b c==0)=false:=by simpa using hz
  clear hz;go_wp2;go_meet;exact⟨rfl,K,M,U,T,Bw⟩
 clear K M U T Bw Wv z C Wx Wy WE Xu Xv Xw S9 UA UC Hl;obtain⟨rfl,K,M,U,T,Bw⟩:=hcut;obtain⟨Wv,z,C,-⟩:=K.facts;obtain⟨Wx,Wy,WE,-⟩:=M.facts;obtain⟨Xu,Xv,Xw,-⟩:=U.facts;obtain⟨S9,UA,UC,-⟩:=T.facts;go_upto_region 4 with fail;obtain⟨p1,p2⟩:=Rz (GH a b c) (GH a b d) 1 I I I I;obtain⟨p3,p4⟩:=Rz (GH c d a) (GH c d b) 1 I I I I;simp only[Int.reduceMul,Int.reduceNeg]at p1 p2 p3 p4;have hw1:=DR<|GH a b c*GH a b d;have hw2:=DR<|GH c d a*GH c d b;by_cases hg:GH a b c*GH a b d<=0
 .have hg':decide (GH a b c*GH a b d<=0)=true:=by simpa using hg
  clear hs1 hs2 hs3 hs4;go_region_held3(λW=>W.cell? ⟨w.heap.size,0,none⟩=some (.int .i64 a.x)/\W.cell? ⟨w.heap.size,1,none⟩=some (.int .i64 a.y)/\W.cell? ⟨w.heap.size+1,0,none⟩=some (.int .i64 b.x)/\W.cell? ⟨w.heap.size+1,1,none⟩=some (.int .i64 b.y)/\W.cell? ⟨w.heap.size+1+1,0,none⟩=some (.int .i64 c.x)/\W.cell? ⟨w.heap.size+1+1,1,none⟩=some (.int .i64 c.y)/\W.cell? ⟨w.heap.size+1+1+1,0,none⟩=some (.int .i64 d.x)/\W.cell? ⟨w.heap.size+1+1+1,1,none⟩=some (.int .i64 d.y))((repeat' apply And.intro)<;>(repeat(refine Dk Ol ?_))<;>(first|assumption|simp[*]))(first|(go_at_call 161;refine(HS.1 _ _ _ _).mono ?_;rintro e w'⟨rfl,hb'⟩));by_cases hg2:GH c d a*GH c d b<=0
  .have hq:KA a b c d=1:=by rw[o.1,AZ ⟨hg,hg2⟩]
   have Hq:=V hq;clear hq o;go_wp2;go_ret;refine⟨DZ Hq.1.symm,?_⟩;exact ER
  have hq:KA a b c d=0:=by rw[o.1,AX λh=>hg2 h.2]
  have Hq:=V hq;clear hq o;go_wp2;go_ret;refine⟨DZ Hq.1.symm,?_⟩;exact ER
 have hg':decide (GH a b c*GH a b d<=0)=false:=by simpa using hg
 have hq:KA a b c d=0:=by rw[o.1,AX λh=>hg h.1]
 have Hq:=V hq;clear hq o;clear hs1 hs2 hs3 hs4;refine CZ wc (.run 3 0 0<|.run 3 4 7<|.call 3 127<|.call 7 255<|.run 15 8 255<|.done) λCG QR Ae Aj hS=>?_;iterate 6 refine Ah ?_
 refine FM (HS.1 a b c _) ?_;clear hS;intro Bv Bj hS;refine FM (HS.1 a b d _) ?_;clear hS;intro wr2 F5 hS;iterate 3 refine Ah ?_
 iterate 10 refine Iu ?_
 iterate 2 refine Ah ?_
 refine CX ?_;clear hS Aj Ae;intro hB;go_wp2;go_ret;refine⟨DZ Hq.1.symm,?_⟩;exact ER
theorem zC(v:Value)(l:List Pt)(w:World)(h:EL w v l):Calls prog 163 #[v] w λe w'=>e=.returned (.bool<|ES l)/\AU w w':=by
 obtain⟨A,c,rfl,hn,U,M⟩:=h;unfold maxLen at U;go_enter func163,ntmps163;go_wp2_with fail;go_loopw[3](λi wr=>∃k:Nat,k<=l.length/\i=.int .i64 k/\AU w wr/\∀j(T:j<l.length),j<k->Bl l[j]=true)λi _=>l.length-(intOf i).toNat;case atStart=>exact⟨0,C9 _,rfl,Below.refl _ _,λj _ h=>I⟩
 obtain⟨k,hk,rfl,hb,s⟩:=hrel;have K:=V hb;have z:=V s;have hs:=hb.size;clear hb s;by_cases hlt:k<l.length
 .obtain⟨b,o,rfl,hlb,c0,c1⟩:=(M.mono K.1).pt hlt;clear M;by_cases hnr:Bl l[k]=true
  .have Hn:=V hnr;obtain⟨n1,n2,n3,n4⟩:=(QO _).1 hnr;clear hnr;go_wp2;go_roundw;case rel=>exact⟨k+1,I,BH,K.1,all_succ (p:=λx=>Bl x=true) z.1 hlt Hn.1⟩
   exact BJ
  have C:Bl l[k]=false:=by simpa using hnr
  have Hf:=V<|ab5 l k hlt C;clear C;have zA:=V hnr;clear hnr;go_wp2;all_goals first|(go_ret;exact⟨Cm Hf.1.symm,K.1⟩)|(exfalso;exact zA.1<|(QO _).2 ⟨I,I,I,I⟩)
 go_wp2;go_ret;exact⟨Cm (ab6 l λj T=>z.1 j T I).symm,K.1⟩
def BQ(a b c d:Pt):Int:=(b.x-a.x)*(d.y-c.y)-(b.y-a.y)*(d.x-c.x)
def dL(a b c d:Pt):Int:=(b.x-a.x)*(d.x-c.x)+(b.y-a.y)*(d.y-c.y)
theorem abE(a b c d:Pt)(w:World)(j:lim a)(hb:lim b)(o:lim c)(hd:lim d):Calls prog 164 #[BD a,BD b,BD c,BD d] w λe w'=>e=.returned (.int .i64<|BQ a b c d)/\AU w w':=by obtain⟨a1,M,T,U⟩:=j;obtain⟨b1,b2,b3,b4⟩:=hb;obtain⟨c1,c2,c3,c4⟩:=o;obtain⟨d1,d2,d3,d4⟩:=hd;obtain⟨s,z⟩:=Rz (b.x-a.x) (d.y-c.y) 4194304 I I I I;obtain⟨C,K⟩:=Rz (b.y-a.y) (d.x-c.x) 4194304 I I I I;simp only[Int.reduceMul,Int.reduceNeg]at s z C K;unfold BD;go_enter func164,ntmps164;go_wp2;go_ret;refine⟨DZ rfl,?_⟩;exact ER
theorem anA(a b c d:Pt)(w:World)(j:lim a)(hb:lim b)(o:lim c)(hd:lim d):Calls prog 165 #[BD a,BD b,BD c,BD d] w λe w'=>e=.returned (.int .i64<|dL a b c d)/\AU w w':=by obtain⟨a1,M,T,U⟩:=j;obtain⟨b1,b2,b3,b4⟩:=hb;obtain⟨c1,c2,c3,c4⟩:=o;obtain⟨d1,d2,d3,d4⟩:=hd;obtain⟨s,z⟩:=Rz (b.x-a.x) (d.x-c.x) 4194304 I I I I;obtain⟨C,K⟩:=Rz (b.y-a.y) (d.y-c.y) 4194304 I I I I;simp only[Int.reduceMul,Int.reduceNeg]at s z C K;unfold BD;go_enter func165,ntmps165;go_wp2;go_ret;refine⟨DZ rfl,?_⟩;exact ER
theorem anB(a b:Pt)(w:World):Calls prog 291 #[BD a,BD b] w λe w'=>e=.returned (.bool<|CU a b)/\AU w w':=by
 unfold BD;by_cases h1:a.x<b.x;.go_enter func291,ntmps291;go_wp2;go_ret;refine⟨Cm<|by simp[CU,h1],?_⟩;exact ER
 by_cases h2:(a.x==b.x)=true;.go_enter func291,ntmps291;go_wp2;go_ret;refine⟨Cm<|by simp only[CU];simp_all,?_⟩;exact ER
 have c:(a.x==b.x)=false:=by simpa using h2
 clear h2;go_enter func291,ntmps291;go_wp2;go_ret;refine⟨Cm<|by simp only[CU];simp_all,?_⟩;exact ER
def MG(a b p:Pt):Bool:=ES [a,b,p]&&decide (BQ a b a p=0)&&decide (dL a p b p<=0)
theorem af5(a b p:Pt)(w:World):Calls prog 114 #[BD a,BD b,BD p] w λe w'=>e=.returned (.bool<|MG a b p)/\AU w w':=by
 have j:∀q,ES [a,b,p]=q->MG a b p=(q&&decide (BQ a b a p=0)&&decide (dL a p b p<=0)):=λq h=>by rw[MG,h]
 have o:=V j;clear j;cases hn:ES [a,b,p];.have s:=V<|o.1 _ hn;unfold BD;go_enter func114,ntmps114;go_wp2_with fail;refine(zC _ [a,b,p] _<|EL.gV<|AO.made Ak _ _).mono ?_;rintro e w1⟨rfl,c⟩;rw[hn];go_wp2;go_ret;refine⟨Cm s.1.symm,?_⟩;exact ER
 obtain⟨z,hb,C⟩:=aDR hn;have U:∀W,Calls prog 164 #[BD a,BD b,BD a,BD p] W _:=λW=>abE a b a p W z hb z C;have TD:∀W,Calls prog 165 #[BD a,BD p,BD b,BD p] W _:=λW=>anA a p b p W z C hb C;have s:=V<|o.1 _ hn;generalize BQ a b a p=cr at*;generalize dL a p b p=dt at*;unfold BD at U TD⊢;have HC:=V U;clear U;have HD:=V TD;clear TD;clear z hb C;go_enter func114,ntmps114;go_wp2_with fail;refine(zC _ [a,b,p] _<|EL.gV<|AO.made Ak _ _).mono ?_;rintro e w1⟨rfl,c⟩;rw[hn];have Bw:AU w w1:=by exact ER
 have K:AO _ w.heap.size 50 #[.int .i64 a.x,.int .i64 a.y]:=AO.keep (by repeat(first|exact AO.made Ak _ _|refine AO.alloc ?_ _)) c;have M:AO _ (w.heap.size+1) 50 #[.int .i64 b.x,.int .i64 b.y]:=AO.keep (by repeat(first|exact AO.made Ak _ _|refine AO.alloc ?_ _)) c;have T:AO _ (w.heap.size+1+1) 50 #[.int .i64 p.x,.int .i64 p.y]:=AO.keep (by repeat(first|exact AO.made Ak _ _|refine AO.alloc ?_ _)) c;clear c;obtain⟨E5,Em,Ew,-⟩:=K.BL;obtain⟨Bg,Bq,CP,-⟩:=M.BL;obtain⟨CJ,CO,CQ,-⟩:=T.BL;go_wp2_with fail;refine(HC.1 _).mono ?_;rintro e w2⟨rfl,hb2⟩;replace Bw:=J Bw hb2;replace K:=K.keep hb2;replace M:=M.keep hb2;replace T:=T.keep hb2;clear hb2;try clear E5 Em Ew
 try clear Bg Bq CP
 try clear CJ CO CQ
 try clear E5 Em Ew
 obtain⟨E5,Em,Ew,-⟩:=K.BL;try clear Bg Bq CP
 obtain⟨Bg,Bq,CP,-⟩:=M.BL;try clear CJ CO CQ
 obtain⟨CJ,CO,CQ,-⟩:=T.BL;by_cases hcr:cr=0;.subst hcr;go_wp2_with fail;refine(HD.1 _).mono ?_;rintro e w3⟨rfl,hb3⟩;go_wp2;go_ret;refine⟨Cm<|by rw[s.1];simp,?_⟩;exact ER
 have azG:(cr==0)=false:=by simpa using hcr
 have Hcr:=V hcr;clear hcr;go_wp2;go_ret;refine⟨Cm<|by rw[s.1];simp[Hcr.1],?_⟩;exact ER
