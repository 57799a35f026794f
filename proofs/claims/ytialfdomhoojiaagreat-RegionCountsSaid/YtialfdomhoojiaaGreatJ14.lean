import Derived.Test.YtialfdomhoojiaaGreatGB
set_option linter.unusedSimpArgs false
set_option linter.unusedVariables false
namespace Go.Proofs.YtialfdomhoojiaaGreat
def pX (a b:Int):Int:=if a.tmod b≠0/\decide (a.tmod b<0)≠decide (b<0) then a.tdiv b-1 else a.tdiv b
def Js (a:Int):Int:=if a<0 then -a else a
def VZ (a b:Int):Int:=if Js b-Js (a-pX a b*b)<=Js (a-pX a b*b) then pX a b+1 else pX a b
theorem aiS {a b:Int} (hb:b≠0):(0<b->pX a b*b<=a/\a<pX a b*b+b)/\(b<0->a<=pX a b*b/\pX a b*b+b<a):=by
 have h1:=Int.tdiv_mul_add_tmod a b;have h2:(a.tmod b).natAbs<b.natAbs:=by
  have:((a.tmod b).natAbs:Int)<b.natAbs:=by
   rw [Int.natAbs_tmod]
   exact_mod_cast Nat.mod_lt _ (by omega)
  exact_mod_cast this
 unfold pX;generalize a.tmod b=r at *;generalize a.tdiv b=q at *;constructor
 ·intro hp;split
  ·rename_i h;have e:¬ (b<0):=by omega
   simp only [e,decide_false,ne_eq,decide_eq_false_iff_not,Decidable.not_not] at h;rw [Int.sub_mul,Int.one_mul];omega
  ·rename_i h;have e:¬ (b<0):=by omega
   simp only [e,decide_false,ne_eq,decide_eq_false_iff_not,Decidable.not_not,not_and] at h;by_cases h0:r=0
   · omega
   · have:=h h0;omega
 ·intro hn;split
  ·rename_i h;simp only [hn,decide_true,ne_eq,decide_eq_true_eq] at h;rw [Int.sub_mul,Int.one_mul];omega
  ·rename_i h;simp only [hn,decide_true,ne_eq,decide_eq_true_eq,not_and,Decidable.not_not] at h;by_cases h0:r=0
   · omega
   · have:=h h0;omega
open Go.RowKit
def sF (n:Int):Prop:=-1152921504606846976<=n/\n<=1152921504606846976
set_option maxHeartbeats 1000000 in
theorem aiT (x y:Int) (w:World) (h:sF x) (hy:y≠0):Calls Tryz.prog 252 #[.int .i64 x,.int .i64 y] w fun e w'=>e=.returned (.int .i64 0)/\w=w':=by
 have k1:(y == 0)=false:=by simpa using hy
 have k2:(x == -9223372036854775808)=false:=by rw [beq_eq_false_iff_ne];unfold sF at h;omega
 clear h hy;go_enter Tryz.func252,Tryz.ntmps252;go_wp2_with fail;go_ret;exact ⟨rfl,rfl⟩
theorem abJ {a b:Int} (h:sF a) (hb:b≠0):sF (a.tdiv b)/\sF (a.tmod b):=by
 have h1:(a.tdiv b).natAbs<=a.natAbs:=by rw [Int.natAbs_tdiv];exact Nat.div_le_self _ _
 have h2:(a.tmod b).natAbs<=a.natAbs:=by rw [Int.natAbs_tmod];exact Nat.mod_le _ _
 unfold sF at *;omega
theorem abK {a b:Int} (h:sF a) (hb:b≠0) (hb':sF b):sF (a-pX a b*b)/\Js (a-pX a b*b)<=Js b/\-2305843009213693952<=pX a b*b/\pX a b*b<=2305843009213693952/\-1152921504606846977<=pX a b/\pX a b<=1152921504606846976:=by
 obtain ⟨f1,f2⟩:=aiS (a:=a) hb;have hq:-1152921504606846977<=pX a b/\pX a b<=1152921504606846976:=by
  have h1:=(abJ h hb).1;unfold sF at h1;unfold pX;split<;>omega
 unfold sF at *;unfold Js;generalize pX a b=q at *;generalize q*b=t at *;rcases Int.lt_or_gt_of_ne hb with h1 | h1
 ·have:=f2 h1
  refine ⟨by omega,?_,by omega,by omega,hq.1,hq.2⟩;rw [if_pos h1];split<;>omega
 ·have:=f1 h1
  refine ⟨by omega,?_,by omega,by omega,hq.1,hq.2⟩;rw [if_neg (by omega)];split<;>omega
structure Rn where
 lo:Int
 hi:Int
def fP (l:List Rn) (n:Int):Prop:=∃ r∈l,r.lo<=n/\n<r.hi
def nJ (l:List Rn):Prop:=(∀ r∈l,r.lo<r.hi)/\l.Pairwise (fun a b=>a.hi<b.lo)
theorem Ag (n:Int):¬ fP [] n:=fun ⟨r,h,_⟩=>by cases h
theorem nK {r:Rn} {l:List Rn} {n:Int}:fP (r::l) n↔(r.lo<=n/\n<r.hi)\/fP l n:=by
 unfold fP;constructor
 ·rintro ⟨x,hx,h⟩;rcases List.mem_cons.1 hx with rfl | hx
  · exact .inl h
  · exact .inr ⟨x,hx,h⟩
 ·rintro (h | ⟨x,hx,h⟩)
  · exact ⟨r,List.mem_cons_self,h⟩
  · exact ⟨x,List.mem_cons_of_mem _ hx,h⟩
theorem xU {l m:List Rn} {n:Int}:fP (l++m) n↔fP l n\/fP m n:=by
 unfold fP;constructor
 ·rintro ⟨x,hx,h⟩;rcases List.mem_append.1 hx with hx | hx
  · exact .inl ⟨x,hx,h⟩
  · exact .inr ⟨x,hx,h⟩
 ·rintro (⟨x,hx,h⟩ | ⟨x,hx,h⟩)
  · exact ⟨x,List.mem_append_left _ hx,h⟩
  · exact ⟨x,List.mem_append_right _ hx,h⟩
theorem nJ.tail {r:Rn} {l:List Rn} (h:nJ (r::l)):nJ l:=⟨fun x hx=>h.1 x (List.mem_cons_of_mem _ hx),(List.pairwise_cons.1 h.2).2⟩
theorem nJ.Ah {r:Rn} {l:List Rn} (h:nJ (r::l)) {n:Int} (hn:fP l n):r.hi<n:=by
 obtain ⟨x,hx,h1,_⟩:=hn;have:=(List.pairwise_cons.1 h.2).1 x hx
 omega
theorem abL:∀ {l m:List Rn},nJ l->nJ m->(∀ n,fP l n↔fP m n)->l=m
 | [],[],_,_,_=>rfl
 | [],b::m,_,hm,h=>by
  have:=(h b.lo).2 (nK.2 (.inl ⟨Int.le_refl _,hm.1 b List.mem_cons_self⟩))
  exact absurd this (Ag _)
 | a::l,[],hl,_,h=>by
  have:=(h a.lo).1 (nK.2 (.inl ⟨Int.le_refl _,hl.1 a List.mem_cons_self⟩))
  exact absurd this (Ag _)
 | a::l,b::m,hl,hm,h=>by
  have ha:=hl.1 a List.mem_cons_self;have hb:=hm.1 b List.mem_cons_self;have h1:=(h a.lo).1 (nK.2 (.inl ⟨Int.le_refl _,ha⟩));have h2:=(h b.lo).2 (nK.2 (.inl ⟨Int.le_refl _,hb⟩));have e1:b.lo<=a.lo:=by
   rcases nK.1 h1 with h1 | h1
   · exact h1.1
   · have:=hm.Ah h1;omega
  have e2:a.lo<=b.lo:=by
   rcases nK.1 h2 with h2 | h2
   · exact h2.1
   · have:=hl.Ah h2;omega
  have g1:¬ fP (a::l) a.hi:=fun g=>by
   rcases nK.1 g with g | g
   · omega
   · have:=hl.Ah g;omega
  have g2:¬ fP (b::m) b.hi:=fun g=>by
   rcases nK.1 g with g | g
   · omega
   · have:=hm.Ah g;omega
  have e3:¬ a.hi<b.hi:=fun g=>g1 ((h a.hi).2 (nK.2 (.inl ⟨by omega,g⟩)));have e4:¬ b.hi<a.hi:=fun g=>g2 ((h b.hi).1 (nK.2 (.inl ⟨by omega,g⟩)));have eab:a=b:=by
   cases a;cases b;simp only [Rn.mk.injEq];simp only at e1 e2 e3 e4;omega
  subst eab;rw [abL hl.tail hm.tail fun n=>?_];constructor
  ·intro g;have:=hl.Ah g
   rcases nK.1 ((h n).1 (nK.2 (.inr g))) with g | g
   · omega
   · exact g
  ·intro g;have:=hm.Ah g
   rcases nK.1 ((h n).2 (nK.2 (.inr g))) with g | g
   · omega
   · exact g
def QH:Rn:=⟨0,0⟩
def wK (out:List Rn) (r:Rn):List Rn :=
 if r.hi<=r.lo then out
 else if 0<out.length/\r.lo<=(out.getD (out.length-1) QH).hi then out.set (out.length-1) ⟨(out.getD (out.length-1) QH).lo,max (out.getD (out.length-1) QH).hi r.hi⟩
 else out++[r]
theorem aiU {α:Type} (l:List α) (z d:α):(l++[z]).getD ((l++[z]).length-1) d=z:=by
 simp [List.getD_eq_getElem?_getD]
theorem aiV {α:Type} (l:List α) (z y:α):(l++[z]).set ((l++[z]).length-1) y=l++[y]:=by
 rw [List.length_append,List.length_singleton,Nat.add_sub_cancel,List.set_append_right _ _ (Nat.le_refl _),Nat.sub_self];rfl
structure Jt (out pre:List Rn) (m:Int):Prop where
 val:nJ out
 same:∀ n,fP out n↔fP pre n
 le:∀ z∈out,z.lo<=m
theorem Jt.step {out pre:List Rn} {r:Rn} (h:Jt out pre r.lo):Jt (wK out r) (pre++[r]) r.lo:=by
 unfold wK;have h1:∀ n,fP [r] n↔r.lo<=n/\n<r.hi:=fun n=>by rw [nK];exact ⟨fun g=>g.resolve_right (Ag n),.inl⟩
 by_cases e:r.hi<=r.lo
 ·rw [if_pos e];refine ⟨h.val,fun n=>?_,h.le⟩;rw [xU,h.same,h1];exact ⟨.inl,fun g=>g.resolve_right (by omega)⟩
 rw [if_neg e];rcases List.eq_nil_or_concat out with rfl | ⟨l,z,rfl⟩
 ·rw [if_neg (by simp)];refine ⟨⟨fun x hx=>?_,by simp⟩,fun n=>?_,fun x hx=>?_⟩
  · simp at hx;subst hx;omega
  · rw [xU,xU,h.same]
  · simp at hx;subst hx;exact Int.le_refl _
 ·simp only [List.concat_eq_append] at h ⊢;rw [aiU,aiV];have hp:=List.pairwise_append.1 h.val.2;have hz:=h.le z (by simp);have hzv:=h.val.1 z (by simp);by_cases e2:r.lo<=z.hi
  ·rw [if_pos ⟨by simp,e2⟩];refine ⟨⟨fun x hx=>?_,?_⟩,fun n=>?_,fun x hx=>?_⟩
   ·rcases List.mem_append.1 hx with hx | hx
    · exact h.val.1 x (List.mem_append_left _ hx)
    ·rw [List.mem_singleton] at hx;subst hx
     show z.lo<max z.hi r.hi
     omega
   ·rw [List.pairwise_append];refine ⟨hp.1,by simp,fun a ha b hb=>?_⟩;rw [List.mem_singleton] at hb;subst hb;exact hp.2.2 a ha z (by simp)
   ·rw [xU,xU,<- h.same,xU,h1,nK,nK];have:=Ag n
    constructor
    ·rintro (g | (g | g))
     · exact .inl (.inl g)
     ·simp only at g;by_cases e3:n<z.hi
      · exact .inl (.inr (.inl ⟨g.1,e3⟩))
      · exact .inr (by omega)
     · exact absurd g this
    ·rintro ((g | (g | g)) | g)
     · exact .inl g
     · exact .inr (.inl (by simp only;omega))
     · exact absurd g this
     · exact .inr (.inl (by simp only;omega))
   ·rcases List.mem_append.1 hx with hx | hx
    · exact h.le x (List.mem_append_left _ hx)
    · rw [List.mem_singleton] at hx;subst hx;exact hz
  ·rw [if_neg (fun g=>e2 g.2)];refine ⟨⟨fun x hx=>?_,?_⟩,fun n=>?_,fun x hx=>?_⟩
   ·rcases List.mem_append.1 hx with hx | hx
    · exact h.val.1 x hx
    · rw [List.mem_singleton] at hx;subst hx;omega
   ·rw [List.pairwise_append];refine ⟨h.val.2,by simp,fun a ha b hb=>?_⟩;rw [List.mem_singleton] at hb;subst hb;rcases List.mem_append.1 ha with ha | ha
    ·have:=hp.2.2 a ha z (by simp)
     omega
    · rw [List.mem_singleton] at ha;subst ha;omega
   · rw [xU (m:=[r]),xU (m:=[r]),h.same]
   ·rcases List.mem_append.1 hx with hx | hx
    · exact h.le x hx
    · rw [List.mem_singleton] at hx;subst hx;exact Int.le_refl _
def Gn (r:Rn):List Rn->List Rn
 | []=>[r]
 | x::l=>if r.lo<=x.lo then r::x::l else x::Gn r l
def Gp (l:List Rn):List Rn:=l.foldr Gn []
def Gq (l:List Rn):List Rn:=l.foldl wK []
def qW (l:List Rn):List Rn:=Gq (Gp l)
theorem V3 (r:Rn):∀ l,(Gn r l).Perm (r::l)
 | []=>List.Perm.refl _
 | x::l=>by
  unfold Gn;split
  · exact List.Perm.refl _
  · exact ((V3 r l).cons x).trans (List.Perm.swap _ _ _)
theorem abM (r:Rn):∀ l,l.Pairwise (fun a b=>a.lo<=b.lo)->(Gn r l).Pairwise (fun a b=>a.lo<=b.lo)
 | [],_=>by unfold Gn;simp
 | x::l,h=>by
  have h':=List.pairwise_cons.1 h;unfold Gn;split
  ·rename_i e;rw [List.pairwise_cons];refine ⟨fun y hy=>?_,h⟩;rcases List.mem_cons.1 hy with rfl | hy
   · exact e
   · have:=h'.1 y hy;omega
  ·rename_i e;rw [List.pairwise_cons];refine ⟨fun y hy=>?_,abM r l h'.2⟩;rcases List.mem_cons.1 ((V3 r l).subset hy) with rfl | hy
   · omega
   · exact h'.1 y hy
theorem Ju:∀ l,(Gp l).Perm l/\(Gp l).Pairwise (fun a b=>a.lo<=b.lo)
 | []=>⟨List.Perm.refl _,List.Pairwise.nil⟩
 | x::l=>by
  obtain ⟨h1,h2⟩:=Ju l;exact ⟨(V3 x _).trans (h1.cons x),abM x _ h2⟩
theorem abN:∀ (l out pre:List Rn) (m:Int),Jt out pre m->(∀ r∈l,m<=r.lo)->l.Pairwise (fun a b=>a.lo<=b.lo)->nJ (l.foldl wK out)/\∀ n,fP (l.foldl wK out) n↔fP (pre++l) n
 | [],out,pre,m,h,_,_=>⟨h.val,fun n=>by rw [List.append_nil];exact h.same n⟩
 | r::l,out,pre,m,h,hm,hs=>by
  have hs':=List.pairwise_cons.1 hs;have h0:Jt out pre r.lo:=⟨h.val,h.same,fun z hz=>Int.le_trans (h.le z hz) (hm r List.mem_cons_self)⟩;have:=abN l (wK out r) (pre++[r]) r.lo h0.step hs'.1 hs'.2
  rw [List.append_assoc] at this;exact this
theorem V4 {l:List Rn} (hs:l.Pairwise (fun a b=>a.lo<=b.lo)):nJ (Gq l)/\∀ n,fP (Gq l) n↔fP l n:=by
 rcases l with _ | ⟨r,l⟩
 · exact ⟨⟨fun x hx=>(by cases hx),List.Pairwise.nil⟩,fun n=>Iff.rfl⟩
 ·have h0:Jt [] [] r.lo:=⟨⟨fun x hx=>(by cases hx),List.Pairwise.nil⟩,fun n=>Iff.rfl,fun x hx=>by cases hx⟩;have hs':=List.pairwise_cons.1 hs;exact abN (r::l) [] [] r.lo h0 (fun x hx=>by
   rcases List.mem_cons.1 hx with rfl | hx
   · exact Int.le_refl _
   · exact hs'.1 x hx) hs
theorem V5 {l m:List Rn} (h:l.Perm m) (n:Int):fP l n↔fP m n :=
 ⟨fun ⟨x,hx,g⟩=>⟨x,h.subset hx,g⟩,fun ⟨x,hx,g⟩=>⟨x,h.symm.subset hx,g⟩⟩
theorem aiW {l m:List Rn} (hp:m.Perm l) (hs:m.Pairwise (fun a b=>a.lo<=b.lo)):Gq m=qW l:=by
 obtain ⟨h1,h2⟩:=V4 hs;obtain ⟨h3,h4⟩:=V4 (Ju l).2;exact abL h1 h3 fun n=>by rw [h2,show fP (qW l) n↔_ from h4 n,V5 hp,V5 (Ju l).1]
theorem Jv (l:List Rn):nJ (qW l)/\∀ n,fP (qW l) n↔fP l n:=by
 obtain ⟨h3,h4⟩:=V4 (Ju l).2;exact ⟨h3,fun n=>by show fP (Gq (Gp l)) n↔_;rw [h4,V5 (Ju l).1]⟩
def jU (lo hi:Int):List Rn:=if lo<hi then [⟨lo,hi⟩] else []
theorem QI {lo hi n:Int}:fP (jU lo hi) n↔lo<=n/\n<hi:=by
 unfold jU;split
 · rw [nK];exact ⟨fun g=>g.resolve_right (Ag n),.inl⟩
 · exact ⟨fun g=>absurd g (Ag n),fun g=>by omega⟩
def qI (hi:Int):Int->List Rn->List Rn
 | lo,[]=>jU lo hi
 | lo,b::bs=>if b.lo<hi then jU lo b.lo++qI hi b.hi bs else jU lo hi
def oD (lo:Int) (bs:List Rn):List Rn:=bs.dropWhile (fun b=>decide (b.hi<=lo))
def pY:List Rn->List Rn->List Rn
 | [],_=>[]
 | r::xs,bs=>qI r.hi r.lo (oD r.lo bs)++pY xs (oD r.lo bs)
theorem nJ.drop {l:List Rn} (h:nJ l) (lo:Int):nJ (oD lo l):=by
 have hs:=List.dropWhile_sublist (fun b:Rn=>decide (b.hi<=lo)) (l:=l);exact ⟨fun x hx=>h.1 x (hs.subset hx),h.2.sublist hs⟩
theorem MQ (lo:Int):∀ {l:List Rn},nJ l->∀ {n:Int},lo<=n->(fP (oD lo l) n↔fP l n)
 | [],_,_,_=>Iff.rfl
 | b::l,h,n,hn=>by
  unfold oD;rw [List.dropWhile_cons];by_cases e:b.hi<=lo
  ·rw [if_pos (by simpa using e),nK];have:=MQ lo h.tail hn
   unfold oD at this;rw [this];exact ⟨.inr,fun g=>g.resolve_left (by omega)⟩
  · rw [if_neg (by simpa using e)]
theorem abO (hi:Int):∀ (bs:List Rn) (lo:Int),nJ bs->(∀ x∈bs,lo<x.hi) ->
  nJ (qI hi lo bs)/\(∀ r∈qI hi lo bs,lo<=r.lo/\r.hi<=hi)/\∀ n,fP (qI hi lo bs) n↔(lo<=n/\n<hi)/\¬ (fP bs n)
 | [],lo,_,_=>by
  unfold qI;refine ⟨?_,fun r hr=>?_,fun n=>?_⟩
  ·unfold jU;split
   · exact ⟨fun x hx=>by rw [List.mem_singleton] at hx;subst hx;assumption,by simp⟩
   · exact ⟨fun x hx=>(by cases hx),List.Pairwise.nil⟩
  ·unfold jU at hr;split at hr
   · rw [List.mem_singleton] at hr;subst hr;exact ⟨Int.le_refl _,Int.le_refl _⟩
   · cases hr
  ·rw [QI];exact ⟨fun g=>⟨g,Ag n⟩,fun g=>g.1⟩
 | b::bs,lo,h,hlo=>by
  have hb:=h.1 b List.mem_cons_self;have hl:=hlo b List.mem_cons_self;obtain ⟨h1,h2,h3⟩:=abO hi bs b.hi h.tail (fun x hx=>by
   have:=(List.pairwise_cons.1 h.2).1 x hx
   have:=h.1 x (List.mem_cons_of_mem _ hx)
   omega)
  have hA:∀ l m,∀ r∈jU l m,r=⟨l,m⟩/\l<m:=fun l m r hr=>by
   unfold jU at hr;split at hr
   · rw [List.mem_singleton] at hr;exact ⟨hr,by assumption⟩
   · cases hr
  have hP:∀ l m,(jU l m).Pairwise (fun a b=>a.hi<b.lo):=fun l m=>by unfold jU;split<;>simp
  unfold qI;by_cases e:b.lo<hi
  ·rw [if_pos e];refine ⟨⟨fun r hr=>?_,?_⟩,fun r hr=>?_,fun n=>?_⟩
   ·rcases List.mem_append.1 hr with hr | hr
    · obtain ⟨rfl,g⟩:=hA _ _ r hr;exact g
    · exact h1.1 r hr
   ·rw [List.pairwise_append];refine ⟨hP _ _,h1.2,fun x hx y hy=>?_⟩;obtain ⟨rfl,g⟩:=hA _ _ x hx;have:=(h2 y hy).1
    show b.lo<y.lo
    omega
   ·rcases List.mem_append.1 hr with hr | hr
    ·obtain ⟨rfl,g⟩:=hA _ _ r hr;exact ⟨Int.le_refl _,by show b.lo<=hi;omega⟩
    ·have:=h2 r hr
     exact ⟨by omega,this.2⟩
   ·rw [xU,QI,h3,nK];have ht:fP bs n->b.hi<n:=fun g=>h.Ah g;constructor
    ·rintro (g | ⟨g,g2⟩)
     · exact ⟨by omega,fun g2=>by
       rcases g2 with g2 | g2
       · omega
       · have:=ht g2;omega⟩
     · exact ⟨by omega,fun g3=>by
       rcases g3 with g3 | g3
       · omega
       · exact g2 g3⟩
    ·rintro ⟨g,g2⟩;by_cases g4:n<b.lo
     · exact .inl ⟨g.1,g4⟩
     ·refine .inr ⟨⟨?_,g.2⟩,fun g3=>g2 (.inr g3)⟩;have:¬ (b.lo<=n/\n<b.hi):=fun g3=>g2 (.inl g3)
      omega
  ·rw [if_neg e];refine ⟨⟨fun r hr=>?_,hP _ _⟩,fun r hr=>?_,fun n=>?_⟩
   · obtain ⟨rfl,g⟩:=hA _ _ r hr;exact g
   · obtain ⟨rfl,g⟩:=hA _ _ r hr;exact ⟨Int.le_refl _,Int.le_refl _⟩
   ·rw [QI,nK];have ht:fP bs n->b.hi<n:=fun g=>h.Ah g;refine ⟨fun g=>⟨g,fun g2=>?_⟩,fun g=>g.1⟩;rcases g2 with g2 | g2
    · omega
    · have:=ht g2;omega
theorem abP (lo:Int):∀ {l:List Rn},nJ l->∀ x∈oD lo l,lo<x.hi
 | [],_,x,hx=>by cases hx
 | b::l,h,x,hx=>by
  unfold oD at hx;rw [List.dropWhile_cons] at hx;by_cases e:b.hi<=lo
  ·rw [if_pos (by simpa using e)] at hx;exact abP lo h.tail x hx
  ·rw [if_neg (by simpa using e)] at hx;rcases List.mem_cons.1 hx with rfl | hx
   · omega
   ·have h1:=(List.pairwise_cons.1 h.2).1 x hx;have h2:=h.1 x (List.mem_cons_of_mem _ hx);omega
theorem V6:∀ (xs bs:List Rn),nJ xs->nJ bs ->
  nJ (pY xs bs)/\(∀ r∈pY xs bs,∃ a∈xs,a.lo<=r.lo)/\∀ n,fP (pY xs bs) n↔fP xs n/\¬ fP bs n
 | [],bs,_,_=>⟨⟨fun x hx=>(by cases hx),List.Pairwise.nil⟩,fun x hx=>(by cases hx),fun n=>⟨fun g=>absurd g (Ag n),fun g=>absurd g.1 (Ag n)⟩⟩
 | r::xs,bs,ha,hb=>by
  obtain ⟨c1,c2,c3⟩:=abO r.hi (oD r.lo bs) r.lo (hb.drop r.lo) (abP r.lo hb);obtain ⟨m1,m2,m3⟩:=V6 xs (oD r.lo bs) ha.tail (hb.drop r.lo);unfold pY;refine ⟨⟨fun x hx=>?_,?_⟩,fun x hx=>?_,fun n=>?_⟩
  ·rcases List.mem_append.1 hx with hx | hx
   · exact c1.1 x hx
   · exact m1.1 x hx
  ·rw [List.pairwise_append];refine ⟨c1.2,m1.2,fun x hx y hy=>?_⟩;obtain ⟨a,ha',hl⟩:=m2 y hy;have:=(List.pairwise_cons.1 ha.2).1 a ha'
   have:=(c2 x hx).2
   omega
  ·rcases List.mem_append.1 hx with hx | hx
   · exact ⟨r,List.mem_cons_self,(c2 x hx).1⟩
   ·obtain ⟨a,ha',hl⟩:=m2 x hx;exact ⟨a,List.mem_cons_of_mem _ ha',hl⟩
  ·rw [xU,c3,m3,nK];constructor
   ·rintro (⟨g,g2⟩ | ⟨g,g2⟩)
    · exact ⟨.inl g,fun g3=>g2 ((MQ r.lo hb g.1).2 g3)⟩
    ·have:=ha.Ah g
     have:=ha.1 r List.mem_cons_self
     exact ⟨.inr g,fun g3=>g2 ((MQ r.lo hb (by omega)).2 g3)⟩
   ·rintro ⟨g | g,g2⟩
    · exact .inl ⟨g,fun g3=>g2 ((MQ r.lo hb g.1).1 g3)⟩
    ·have:=ha.Ah g
     have:=ha.1 r List.mem_cons_self
     exact .inr ⟨g,fun g3=>g2 ((MQ r.lo hb (by omega)).1 g3)⟩
def qc (x:Bx) (v:Pt):Bx:=⟨min x.x0 v.x,min x.y0 v.y,max x.x1 v.x,max x.y1 v.y⟩
def qJ (l:List Pt):Bx:=match l with
 | []=>⟨0,0,-1,-1⟩
 | v::_=>l.foldl qc ⟨v.x,v.y,v.x,v.y⟩
def uT (a b:Int):Int:=-((-a) / b)
theorem MR {r H t:Int} (hH:0<H):uT r H<=t↔r<=t*H:=by
 unfold uT;have h1:-((-r) / H)<=t↔-t<=(-r) / H:=by omega
 rw [h1,Int.le_ediv_iff_mul_le hH,Int.neg_mul];omega
theorem aiX {x y:Int} (hy:0<y):uT x y=if x.tmod y≠0/\¬ x.tmod y<0 then x.tdiv y+1 else x.tdiv y:=by
 have e:=Int.mul_tdiv_add_tmod x y;have h1:=Int.tmod_lt_of_pos x hy;have h2:-y<x.tmod y:=by
  have:=Int.tmod_lt_of_pos (-x) hy
  rw [Int.neg_tmod] at this;omega
 generalize x.tdiv y=q at *;generalize x.tmod y=r at *;have key:∀ k,x<=k*y->¬ x<=(k-1)*y->uT x y=k:=fun k g1 g2=>by
  have:=(MR hy).2 g1
  have:¬ uT x y<=k-1:=fun g=>g2 ((MR hy).1 g)
  omega
 rw [Int.mul_comm] at e;split
 ·refine key _ ?_ ?_
  · rw [Int.add_mul];omega
  · rw [show q+1-1=q by omega];omega
 ·refine key _ ?_ ?_
  · omega
  · rw [Int.sub_mul];omega
end Go.Proofs.YtialfdomhoojiaaGreat
