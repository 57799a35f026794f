import Derived.Test.YtialfdomhoojiaaGreatQJ28
set_option linter.unusedSimpArgs false
set_option linter.unusedVariables false
set_option maxRecDepth 100000
set_option maxHeartbeats 8000000
namespace Go.Proofs.YtialfdomhoojiaaGreat
open Go.RowKit
set_option linter.unusedSectionVars false
def HW (p:Pl) (z:Int->Int):Prop:=∀ a∈p.AP,z a.id≠0->(Hz p z (-a.id)=0/\Hz p z a.id=1)\/(Hz p z (-a.id)=1/\Hz p z a.id=0)
section
variable {p:Pl} (h:Valid p)
include h
end
structure Place (p:Pl) (φ:(Int->Int)->Int) (off:(Int->Int)->Prop):Prop where
 add:∀ z u,φ (fun i=>z i+u i)=φ z+φ u
 neg:∀ z,φ (fun i=>-z i)=-φ z
 azn:∀ z u,(∀ a∈p.AP,z a.id=u a.id)->φ z=φ u
 azo:∀ z u,off z->off u->off (fun i=>z i+u i)
 azp:∀ z,off z->off (fun i=>-z i)
 w01:∀ z,Fz p z->HW p z->off z->φ z=0\/φ z=1
section
variable {p:Pl} (h:Valid p) {φ:(Int->Int)->Int} {off:(Int->Int)->Prop} (hφ:Place p φ off) (ho:∀ X∈BP p,off (CZ X))
include h hφ ho
end
set_option linter.unusedSectionVars false
def qF (L:List (List Int)) (i:Int):Int:=(L.map fun c=>CZ c i).sum
section
variable {p:Pl} (h:Valid p)
include h
theorem Valid.akq {X:List Int} (hX:X∈Ce p):X.headD 0∈X:=by
 obtain ⟨x,-,-,ex,hx⟩:=h.Ph hX;rw [ex];exact hx
end
section
variable {p:Pl} (h:Valid p) {φ:(Int->Int)->Int} {off:(Int->Int)->Prop} (hφ:Place p φ off) (ho:∀ X∈BP p,off (CZ X))
include h hφ
include ho
end
set_option linter.unusedSectionVars false
section
variable {p:Pl} (h:Valid p)
include h
theorem Valid.auo {X:List Int} (hX:X∈Ce p) (f:Pt×Pt->Int) (g:Pt->Pt->Int) (hfg:∀ a b,f (a,b) % 2=g a b % 2):((DV p X).map f).sum % 2=Dn p (CZ X) g % 2:=by
 obtain ⟨-,h2⟩:=h.Gq hX;have e1:((DV p X).map f).sum=(X.map fun d=>J4 (fun a b=>f (a,b)) (G5 p d)).sum:=by
  unfold DV;rw [aAL,acz];refine Hu _ _ _ fun d _=>?_;unfold Es J4;rw [IV];rfl
 rw [e1,h.aCe hX];unfold Dn;refine aCi _ _ _ fun a ha=>?_;have hid:=(h.Gx ha).1;have p1:G5 p a.id=AV p a:=by
  unfold G5;rw [show Ez a.id=a.id by unfold Ez;split<;>omega,h.find ha]
 have p2:G5 p (-a.id)=AV p a:=by
  unfold G5;rw [show Ez (-a.id)=a.id by unfold Ez;split<;>omega,h.find ha]
 rw [p1,p2];have e:J4 (fun a b=>f (a,b)) (AV p a) % 2=J4 g (AV p a) % 2:=by
  unfold J4;exact aCi _ _ _ fun k _=>hfg _ _
 generalize J4 (fun a b=>f (a,b)) (AV p a)=s at *;generalize J4 g (AV p a)=t at *;unfold CZ;by_cases c1:a.id∈X<;>by_cases c2:-a.id∈X<;>simp only [c1,c2,if_true,if_false]<;>omega
theorem Valid.akr {L:List (List Int)} (hL:∀ X∈L,X∈Ce p\/X=[]) (f:Pt×Pt->Int) (g:Pt->Pt->Int) (hfg:∀ a b,f (a,b) % 2=g a b % 2):((L.flatMap (DV p)).map f).sum % 2=Dn p (qF L) g % 2:=by
 induction L with
 | nil =>
  have:Dn p (qF []) g=0:=yB fun a ha=>.inl rfl
  rw [this];rfl
 | cons X L ih =>
  rw [KI,GI,O7];have e:Dn p (qF (X::L)) g=Dn p (CZ X) g+Dn p (qF L) g:=by
   rw [<- aCf];rfl
  have ih:=ih (fun Y hY=>hL Y (I7 _ hY));rw [e];rcases hL X Eu with hX | hX
  ·have:=h.auo hX f g hfg
   omega
  ·subst hX
   have:Dn p (CZ []) g=0:=yB fun a ha=>.inl rfl
   rw [this];have e2:((DV p []).map f).sum=0:=rfl;omega
end
set_option linter.unusedSectionVars false
theorem auP (a b v:Pt):tw (H8 a b) (Jd a b) v=if b.y<a.y then -tw a b v else tw a b v:=by
 unfold H8 Jd;split
 · unfold tw;grind
 · rfl
theorem auQ {y:Int} {q:Pt×Pt} {x:Int}:((Ic y q).countP (fun c=>decide (c<=x)):Int)+(if J6 ⟨x,y⟩ q.1 q.2=true then 1 else 0)=(Ic y q).length:=by
 obtain ⟨a,b⟩:=q;have hp:J6 ⟨x,y⟩ a b=decide ((H8 a b).y<=y/\y<(Jd a b).y/\0<tw (H8 a b) (Jd a b) ⟨x,y⟩):=by
  rw [auP];unfold J6 H8 Jd;rw [decide_eq_decide]
  show (a.y<=y/\y<b.y/\0<tw a b ⟨x,y⟩)\/(b.y<=y/\y<a.y/\tw a b ⟨x,y⟩<0)↔_
  split<;>omega
 rw [hp];unfold Ic;by_cases g:(H8 a b).y<=y/\y<(Jd a b).y
 ·rw [AZ g];have hH:0<(Jd a b).y-(H8 a b).y:=by omega
  have e:(H8 a b).x+XE y a b<=x↔¬ 0<tw (H8 a b) (Jd a b) ⟨x,y⟩:=by
   unfold XE;have:=zA (r:=(y-(H8 a b).y)*((Jd a b).x-(H8 a b).x)) (t:=x-(H8 a b).x) hH
   unfold tw;simp only;rw [KP ((Jd a b).x-(H8 a b).x),KP ((Jd a b).y-(H8 a b).y)];omega
  by_cases c:0<tw (H8 a b) (Jd a b) ⟨x,y⟩
  ·have e':¬ (H8 a b).x+XE y a b<=x:=fun g=>e.1 g c;simp [g,c,e']
  ·have e':=e.2 c;simp [c,e']
 ·rw [AX g];have:¬ ((H8 a b).y<=y/\y<(Jd a b).y/\0<tw (H8 a b) (Jd a b) ⟨x,y⟩):=fun c=>g ⟨c.1,c.2.1⟩
  simp [this]
theorem avq (y:Int) (a b:Pt):((Ic y (a,b)).length:Int) % 2=((if y<b.y then 1 else 0)-(if y<a.y then 1 else 0)) % 2:=by
 unfold Ic H8 Jd;by_cases c:b.y<a.y
 ·simp only [c,if_true];by_cases c1:b.y<=y/\y<a.y
  · rw [AZ c1,AX AB,AZ c1.2];rfl
  ·rw [AX c1];by_cases c2:y<b.y
   · rw [AZ c2,AZ AB];rfl
   · rw [AX c2,AX AB];rfl
 ·simp only [c,if_false];by_cases c1:a.y<=y/\y<b.y
  · rw [AZ c1,AZ c1.2,AX AB];rfl
  ·rw [AX c1];by_cases c2:y<a.y
   · rw [AZ c2,AZ AB];rfl
   · rw [AX c2,AX AB];rfl
theorem aks (x:Int):∀ (n:Nat) (l:List Int),l.length=n->l.Pairwise (·<=·)->l.length % 2=0->(G7 (Jr l) x↔(l.countP (fun c=>decide (c<=x))) % 2=1)
 | _,[],_,_,_=>by unfold Jr;exact ⟨fun g=>absurd g (Y8 _),fun g=>by simp at g⟩
 | _,[a],_,_,h=>by simp at h
 | 0,a::b::l,hn,_,_=>by simp at hn
 | 1,a::b::l,hn,_,_=>by simp at hn
 | n+2,a::b::l,hn,hs,h=>by
  have h1:=JL.1 hs;have h2:=JL.1 h1.2;have ih:=aks x n l (by simpa using hn) h2.2 (by simp only [IU] at h;omega);have hab:=h1.1 b Eu;unfold Jr;rw [VH,aa9,ih];by_cases c1:a<=x
  ·by_cases c2:b<=x
   ·rw [abZ (by simpa using c1),abZ (by simpa using c2)];omega
   ·have:l.countP (fun c=>decide (c<=x))=0:=by
     rw [aAH];intro c hc;have:=h2.1 c hc
     simp;omega
    rw [abZ (by simpa using c1),List.countP_cons_of_neg (by simpa using c2),this];omega
  ·have:(a::b::l).countP (fun c=>decide (c<=x))=0:=by
    rw [aAH];intro c hc;rcases EW.1 hc with rfl | hc
    · simpa using c1
    ·have:=h1.1 c hc
     simp;omega
   have h3:l.countP (fun c=>decide (c<=x))=0:=by
    rw [aAH] at this ⊢;exact fun c hc=>this c (I7 _ (I7 _ hc))
   rw [this,h3];omega
theorem akt (y x:Int):∀ S:List (Pt×Pt),((S.flatMap (Ic y)).countP (fun c=>decide (c<=x)):Int)+(S.map fun q=>if J6 ⟨x,y⟩ q.1 q.2=true then (1:Int) else 0).sum=(S.flatMap (Ic y)).length
 | []=>rfl
 | q::S=>by
  have e:=auQ (y:=y) (q:=q) (x:=x);have ih:=akt y x S;rw [KI,abN,ER,FM,IJ];omega
theorem aku (y:Int):∀ S:List (Pt×Pt),(((S.flatMap (Ic y)).length:Nat):Int)=(S.map fun q=>((Ic y q).length:Int)).sum
 | []=>rfl
 | q::S=>by
  have ih:=aku y S;rw [KI,ER,FM,IJ];omega
section
variable {p:Pl} (h:Valid p)
include h
theorem Valid.aei {X:List Int} (hX:X∈BP p) {c:List Int} (hc:c∈GR p (some X)):c∈Ce p:=by
 unfold GR at hc;rcases EW.1 hc with rfl | hc
 · exact (Ku.1 hX).1
 · exact (Vt.1 (QE.1 hc).1).1
theorem Valid.avr {L:List (List Int)} (hL:∀ c∈L,c∈Ce p):Fz p (qF L):=by
 induction L with
 | nil=>exact fun n _=>Wv _ _ fun a _=>by show (0:Int)*_=0;rw [Jf]
 | cons c L ih=>exact (h.Vs (hL c Eu)).add (ih fun d hd=>hL d (I7 _ hd))
theorem Valid.akv {X:List Int} (hX:X∈BP p) (x y:Int):((Hy p (some X)).flatMap (Ic y)).length % 2=0 /\
  (((Hy p (some X)).flatMap (Ic y)).countP (fun c=>decide (c<=x)) % 2=1↔QV p (qF (GR p (some X))) ⟨x,y⟩ % 2=1):=by
 have hL:∀ c∈GR p (some X),c∈Ce p\/c=[]:=fun c hc=>.inl (h.aei hX hc);have e1:=h.akr hL (fun q=>((Ic y q).length:Int)) (fun a b=>(if y<b.y then 1 else 0)-(if y<a.y then 1 else 0)) (fun a b=>avq y a b);rw [h.oD (h.avr fun c hc=>h.aei hX hc) (fun u=>if y<u.y then 1 else 0)] at e1;have e2:=aku y (Hy p (some X));have e3:=akt y x (Hy p (some X));have e4:=h.akr hL (fun q=>if J6 ⟨x,y⟩ q.1 q.2=true then (1:Int) else 0) (TB ⟨x,y⟩) (fun a b=>by
  show (if J6 ⟨x,y⟩ a b=true then (1:Int) else 0) % 2=_
  rw [ajD];unfold TB;split
  · rfl
  · split<;>rfl)
 unfold QV;unfold Hy at e2 e3 ⊢;omega
theorem Valid.avs {X:List Int} (hX:X∈BP p) {q:Pt×Pt} (hq:q∈Hy p (some X)):∃ a∈p.AP,(∃ c∈GR p (some X),a.id∈c\/-a.id∈c)/\∃ k,k+1<(AV p a).length/\q=((AV p a).getD k AY,(AV p a).getD (k+1) AY):=by
 obtain ⟨c,hc,hq⟩:=Gf.1 hq;obtain ⟨a,ha,hor,k,hk,e⟩:=h.aCj (h.Gq (h.aei hX hc)).2 hq;exact ⟨a,ha,⟨c,hc,hor⟩,k,hk,e⟩
end
set_option linter.unusedSectionVars false
def zB (n d:Int):Int:=if 0<d then n / d else (-n) / (-d)
def aaD (n d:Int):Int:=-zB (-n) d
def VJ (y:Int) (q:Pt×Pt):List Int :=
 if y<min q.1.y q.2.y\/max q.1.y q.2.y<y then [] else if q.1.y=q.2.y then [q.1.x,q.2.x]
 else [q.1.x+zB ((y-q.1.y)*(q.2.x-q.1.x)) (q.2.y-q.1.y),q.1.x+aaD ((y-q.1.y)*(q.2.x-q.1.x)) (q.2.y-q.1.y)]
def qG (a b:List Int):List Int:=b.foldl Vq (aaZ a)
def lF (p:Pl):List (Pt×Pt):=p.AP.flatMap fun a=>Es (AV p a)
def aej (y:Int) (S:List (Pt×Pt)):List Int:=S.foldl (fun l q=>qG l (VJ y q)) []
def qH (y:Int) (l:List Int) (n:Nd):List Int:=if n.pt.y=y then Vq l n.pt.x else l
def fU (p:Pl) (y:Int):List Int:=p.nodes.foldl (qH y) (aej y (lF p))
theorem akw:∀ (b l:List Int),l.Pairwise (· < ·)->(b.foldl Vq l).Pairwise (· < ·)/\∀ x,x∈b.foldl Vq l↔x∈l\/x∈b
 | [],l,h=>⟨h,fun x=>by simp⟩
 | n::b,l,h=>by
  obtain ⟨h1,h2⟩:=af7 h n;obtain ⟨h3,h4⟩:=akw b _ h1;refine ⟨h3,fun x=>?_⟩;rw [UD,h4,h2,EW,or_assoc]
theorem avt (a b:List Int):(qG a b).Pairwise (· < ·)/\∀ x,x∈qG a b↔x∈a\/x∈b:=by
 obtain ⟨h1,h2⟩:=auu a;obtain ⟨h3,h4⟩:=akw b _ h1;exact ⟨h3,fun x=>by unfold qG;rw [h4,h2]⟩
theorem akx (y:Int):∀ (S:List (Pt×Pt)) (l:List Int),l.Pairwise (· < ·)->(S.foldl (fun l q=>qG l (VJ y q)) l).Pairwise (· < ·)/\∀ x,x∈S.foldl (fun l q=>qG l (VJ y q)) l↔x∈l\/∃ q∈S,x∈VJ y q
 | [],l,h=>⟨h,fun x=>by simp⟩
 | q::S,l,_=>by
  obtain ⟨h1,h2⟩:=avt l (VJ y q);obtain ⟨h3,h4⟩:=akx y S _ h1;refine ⟨h3,fun x=>?_⟩;rw [UD,h4,h2];simp only [EW,exists_eq_or_imp,or_assoc]
theorem akP (y:Int):∀ (ns:List Nd) (l:List Int),l.Pairwise (· < ·)->(ns.foldl (qH y) l).Pairwise (· < ·)/\∀ x,x∈ns.foldl (qH y) l↔x∈l\/∃ n∈ns,n.pt.y=y/\n.pt.x=x
 | [],l,h=>⟨h,fun x=>by simp⟩
 | n::ns,l,h=>by
  have h0:(qH y l n).Pairwise (· < ·)/\∀ x,x∈qH y l n↔x∈l\/(n.pt.y=y/\n.pt.x=x):=by
   unfold qH;split
   ·rename_i e;obtain ⟨h1,h2⟩:=af7 h n.pt.x;refine ⟨h1,fun x=>?_⟩;rw [h2];exact or_congr Iff.rfl ⟨fun g=>⟨e,g.symm⟩,fun g=>g.2.symm⟩
   ·rename_i e;exact ⟨h,fun x=>⟨.inl,fun g=>g.resolve_right fun g=>e g.1⟩⟩
  obtain ⟨h3,h4⟩:=akP y ns _ h0.1;refine ⟨h3,fun x=>?_⟩;rw [UD,h4,h0.2];simp only [EW,exists_eq_or_imp,or_assoc]
theorem aek (p:Pl) (y:Int):(fU p y).Pairwise (· < ·)/\∀ x,x∈fU p y↔(∃ q∈lF p,x∈VJ y q)\/∃ n∈p.nodes,n.pt.y=y/\n.pt.x=x:=by
 obtain ⟨h1,h2⟩:(aej y (lF p)).Pairwise (· < ·)/\∀ x,x∈aej y (lF p)↔x∈[]\/∃ q∈lF p,x∈VJ y q:=akx y (lF p) [] List.Pairwise.nil;obtain ⟨h3,h4⟩:=akP y p.nodes _ h1;refine ⟨h3,fun x=>?_⟩;unfold fU;rw [h4];refine or_congr ?_ Iff.rfl;rw [h2];simp
theorem aaE {t H d:Int} (hH:0<H) (h0:0<=t) (h1:t<=H):min 0 d<=t*d / H/\t*d / H<=max 0 d:=by
 rcases Zp 0 d with h | h
 ·have a1:0<=t*d:=KR h0 h;have a2:t*d<=H*d:=abb h1 h;have a3:0<=t*d / H:=Int.ediv_nonneg a1 AB;have a4:t*d / H<=d:=by
   have:=abd hH a2
   rwa [sK _ AB] at this
  omega
 ·have a1:t*d<=0:=aAB h0 h;have a2:H*d<=t*d:=by
   have:=Int.mul_le_mul_of_nonpos_right h1 h
   exact this
  have a3:t*d / H<=0:=by
   have:=abd hH a1
   simpa using this
  have a4:d<=t*d / H:=by
   have:=abd hH a2
   rwa [sK _ AB] at this
  omega
theorem avu {y:Int} {q:Pt×Pt} {x:Int} (h:x∈VJ y q):min q.1.x q.2.x<=x/\x<=max q.1.x q.2.x/\min q.1.y q.2.y<=y/\y<=max q.1.y q.2.y:=by
 obtain ⟨a,b⟩:=q;unfold VJ at h;simp only at h ⊢;split at h
 · cases h
 rename_i c0;split at h
 ·rename_i c;simp only [EW,YK,or_false] at h;rcases h with rfl | rfl<;>omega
 ·rename_i c;simp only [EW,YK,or_false] at h;unfold aaD zB at h;by_cases e:0<b.y-a.y
  ·have f1:=aaE (t:=y-a.y) (H:=b.y-a.y) (d:=b.x-a.x) e AB AB;have f2:=aaE (t:=y-a.y) (H:=b.y-a.y) (d:=-(b.x-a.x)) e AB AB;rw [AZ e,AZ e] at h;rw [aAE] at f2;rcases h with h | h<;>omega
  ·have f1:=aaE (t:=-(y-a.y)) (H:=-(b.y-a.y)) (d:=b.x-a.x) AB AB AB;have f2:=aaE (t:=-(y-a.y)) (H:=-(b.y-a.y)) (d:=-(b.x-a.x)) AB AB AB;rw [AX e,AX e] at h;rw [Oh] at f1;rw [Oh,aAE] at f2;rcases h with h | h<;>omega
theorem avv {u H d:Int} (hH:0<H):(u-H*d) / H=u / H-d:=by
 have:u-H*d=u+(-d)*H:=by rw [Oh,KP H d];omega
 rw [this,Int.add_mul_ediv_right _ _ AB];omega
theorem avw {y:Int} {a b:Pt} (h1:(H8 a b).y<=y) (h2:y<=(Jd a b).y) (h3:(H8 a b).y≠(Jd a b).y):(H8 a b).x+XE y a b∈VJ y (a,b):=by
 unfold VJ XE;unfold H8 Jd at *;by_cases c:b.y<a.y
 ·simp only [AZ c] at h1 h2 h3 ⊢;rw [AX AB,AX AB];simp only [EW,YK,or_false]
  right;unfold aaD zB Sj;rw [AX AB];have e:-(-((y-a.y)*(b.x-a.x)))=-((y-b.y)*(a.x-b.x))-(a.y-b.y)*(b.x-a.x):=by grind
  have e2:-(b.y-a.y)=a.y-b.y:=by omega
  rw [e,e2,avv AB];omega
 ·simp only [AX c] at h1 h2 h3 ⊢;rw [AX AB,AX AB];simp only [EW,YK,or_false]
  right;unfold aaD zB Sj;rw [AZ AB]
theorem akQ {y:Int} {q:Pt×Pt} {c:Int} (h:c∈Ic y q):c∈VJ y q:=by
 obtain ⟨a,b⟩:=q;unfold Ic at h;simp only at h;split at h
 ·rename_i e;rw [EP] at h;rw [h];exact avw e.1 AB AB
 · cases h
section
variable {p:Pl} (h:Valid p)
include h
theorem Valid.akR {X:List Int} (hX:X∈BP p) {x y:Int}:G7 (VI p (some X) y) x↔((Hy p (some X)).flatMap (Ic y)).countP (fun c=>decide (c<=x)) % 2=1/\¬ G7 ((Hy p (some X)).flatMap (Q5 y)) x/\¬ G7 (fE p (some X) y) x:=by
 obtain ⟨o1,o2⟩:=h.akv hX x y;have hs:=aaA ((Hy p (some X)).flatMap (Ic y));have hodd:G7 (Jr (fD ((Hy p (some X)).flatMap (Ic y)))) x↔((Hy p (some X)).flatMap (Ic y)).countP (fun c=>decide (c<=x)) % 2=1:=by
  rw [<- hs.1.countP_eq];exact aks x _ _ rfl hs.2 (by rw [hs.1.length_eq];exact o1)
 have hm:=(aef _ _ (qE (Jr (fD ((Hy p (some X)).flatMap (Ic y))))).1 (qE ((Hy p (some X)).flatMap (Q5 y)++fE p (some X) y)).1).2.2 x
 show G7 (Ob _ _) x↔_
 rw [hm,(qE _).2,(qE _).2,hodd,VH,not_or]
theorem Valid.akS {X:List Int} (hX:X∈BP p) {q:Pt×Pt} (hq:q∈Hy p (some X)):q∈lF p:=by
 obtain ⟨a,ha,-,k,hk,rfl⟩:=h.avs hX hq;refine Gf.2 ⟨a,ha,?_⟩;unfold Es;exact ED.2 ⟨k,Et.2 AB,rfl⟩
theorem Valid.avx {X:List Int} (hX:X∈BP p) {x y:Int} (hb:∀ b∈fU p y,b<x):¬ G7 (VI p (some X) y) x:=fun g=>by
 have hm:=(aek p y).2;have g1:=((h.akR hX).1 g).1;have e1:((Hy p (some X)).flatMap (Ic y)).countP (fun c=>decide (c<=x))=((Hy p (some X)).flatMap (Ic y)).length:=by
  rw [List.countP_eq_length];intro c hc;obtain ⟨q,hq,g⟩:=Gf.1 hc;have:=hb c ((hm c).2 (.inl ⟨q,h.akS hX hq,akQ g⟩))
  simp only [EO];omega
 rw [e1,(h.akv hX x y).1] at g1
 cases g1
theorem Valid.avy {X:List Int} (hX:X∈BP p) {x y:Int} (hb:∀ b∈fU p y,x<b):¬ G7 (VI p (some X) y) x:=fun g=>by
 have hm:=(aek p y).2;have g1:=((h.akR hX).1 g).1;have e1:((Hy p (some X)).flatMap (Ic y)).countP (fun c=>decide (c<=x))=0:=by
  rw [aAH];intro c hc;obtain ⟨q,hq,g⟩:=Gf.1 hc;have:=hb c ((hm c).2 (.inl ⟨q,h.akS hX hq,akQ g⟩))
  simp only [EO];omega
 rw [e1] at g1
 cases g1
theorem Valid.akT {x y:Int} (hx:x∈fU p y):C9 ⟨x,y⟩=true/\NJ ⟨x,y⟩:=by
 have hbig:NJ ⟨x,y⟩:=by
  rcases ((aek p y).2 x).1 hx with ⟨q,hq,g⟩ | ⟨n,hn,e1,e2⟩
  ·obtain ⟨a,ha,hq⟩:=Gf.1 hq;obtain ⟨k,hk,rfl⟩:=ED.1 (show q∈(List.range ((AV p a).length-1)).map _ from hq);rw [Et] at hk;have b1:=h.aaC ha (k:=k) AB;have b2:=h.aaC ha (k:=k+1) AB;have:=avu g
   unfold NJ at *;simp only at *;omega
  ·have:=h.akp hn
   unfold NJ at *;simp only;omega
 refine ⟨?_,hbig⟩;unfold C9 NJ at *;simp only [Ei,EO];simp only at hbig;omega
theorem Valid.akU {X:List Int} (hX:X∈BP p) {x y:Int} (g:G7 (VI p (some X) y) x):C9 ⟨x,y⟩=true:=by
 have hbx:∃ a∈fU p y,a<=x:=NV fun c=>h.avy hX (fun b hb=>Int.not_le.1 fun g=>c ⟨b,hb,g⟩) g;have hby:∃ a∈fU p y,x<=a:=NV fun c=>h.avx hX (fun b hb=>Int.not_le.1 fun g=>c ⟨b,hb,g⟩) g;obtain ⟨a,ha,ha'⟩:=hbx;obtain ⟨b,hb,hb'⟩:=hby;have g1:=(h.akT ha).2;have g2:=(h.akT hb).2;unfold NJ at g1 g2;unfold C9;simp only [Ei,EO];simp only at g1 g2;omega
end
def aCt (PP:List Pt) (v:Pt) (i:Nat):Bool:=match PP[i]?,PP[i+1]? with
 | some a,some b=>Ea a b v
 | _,_=>false
def YA (PP:List Pt) (v:Pt) (k:Nat):Bool:=(List.range k).any (aCt PP v)
def qI (p:Pl) (v:Pt) (a:Ar):Bool:=YA (AV p a) v ((AV p a).length-1)
def Sm (p:Pl) (v:Pt):Int×Int×Int :=
 if Ib p≠0 then (0,0,Ib p) else if KY v=false then (0,0,2) else
 match p.nodes.find? (fun n=>decide (n.pt=v)) with
 | some n=>(1,n.id,0)
 | none=>match p.AP.find? (qI p v) with
  | some a=>(2,a.id,0)
  | none=>(0,NR p (Ie p v),0)
def aCu (t:Int×Int×Int):Value:=.tuple #[.int .i64 t.1,.int .i64 t.2.1,.int .i64 t.2.2]
theorem avz {PP:List Pt} {v:Pt} {i:Nat} (h:i+1<PP.length):aCt PP v i=Ea (PP[i]'(by omega)) PP[i+1] v:=by
 unfold aCt;rw [Dh h,Dh (show i<PP.length by omega)]
theorem akV (PP:List Pt) (v:Pt) (k:Nat):YA PP v (k+1)=(YA PP v k || aCt PP v k):=by
 unfold YA;rw [Zr,aAN];simp
theorem aw0 {PP:List Pt} {v:Pt} {k m:Nat} (hk:k<=m) (h:YA PP v k=true):YA PP v m=true:=by
 unfold YA at *;rw [OC] at *;obtain ⟨i,hi,e⟩:=h;exact ⟨i,Et.2 (LW (Et.1 hi) hk),e⟩
theorem akW {α:Type} {P:α->Bool} {l:List α} {k:Nat} (hk:k<l.length) (h:(l.take k).find? P=none) (hn:P l[k]=false):(l.take (k+1)).find? P=none:=by
 rw [F7 hk,List.find?_append,h];simp [hn]
theorem am1 {α:Type} {P:α->Bool} {l:List α} {k:Nat} (hk:k<l.length) (h:(l.take k).find? P=none) (hn:P l[k]=true):l.find? P=some l[k]:=by
 have e:l.find? P=(l.take k++l[k]::l.drop (k+1)).find? P:=by rw [<- Ql hk,Zo]
 rw [e,List.find?_append,h];simp only [Option.none_or,List.find?_cons,hn]
section
variable {p:Pl} {v:Pt} (h0:Ib p=0) (h1:KY v=true)
include h0 h1
theorem aw1 {k:Nat} (hk:k<p.nodes.length) (h:(p.nodes.take k).find? (fun n=>decide (n.pt=v))=none) (he:p.nodes[k].pt=v):Sm p v=(1,p.nodes[k].id,0):=by
 unfold Sm;rw [AX (by simpa using h0),AX (by simp [h1]),am1 hk h (by simpa using he)]
theorem aw2 (hn:p.nodes.find? (fun n=>decide (n.pt=v))=none) {k:Nat} (hk:k<p.AP.length) (h:(p.AP.take k).find? (qI p v)=none) (he:qI p v p.AP[k]=true):Sm p v=(2,p.AP[k].id,0):=by
 unfold Sm;rw [AX (by simpa using h0),AX (by simp [h1]),hn];simp only;rw [am1 hk h he]
theorem aw3 (hn:p.nodes.find? (fun n=>decide (n.pt=v))=none) (ha:p.AP.find? (qI p v)=none):Sm p v=(0,NR p (Ie p v),0):=by
 unfold Sm;rw [AX (by simpa using h0),AX (by simp [h1]),hn];simp only;rw [ha]
end
theorem am2 (p:Pt) (w:World):Calls Tryz.prog 69 #[BA p] w fun e w'=>e=.returned (.bool (KY p))/\AU w w':=by
 unfold BA;go_enter Tryz.func69,Tryz.ntmps69;go_wp2_with fail
 all_goals
  go_ret;refine ⟨CW (by rw [KY,MH];simp only [Ei,EO,true_iff,Rq,false_iff];omega),?_⟩;exact EC
theorem aw4 (v:Value) (p:Pl) (at_:Pt) (w:World) (h:Ci w v p) (hv:Ib p≠0):Calls Tryz.prog 24 #[v,BA at_] w fun e w'=>e=.returned (aCu (0,0,Ib p))/\AU w w':=by
 have HC:=AA (fun W (hW:AU w W)=>al5 v p W (h.mono hW) hv);obtain ⟨vn,va,vf,al,rfl,-⟩:=h;generalize Ib p=z at *;have hb:(z != 0)=true:=by simpa using hv
 unfold BA;clear hv;go_enter Tryz.func24,Tryz.ntmps24;go_wp2_with fail;refine (HC.out _ (bA (bA (bR w) _) _)).mono ?_;rintro e w1 ⟨rfl,hb1⟩;have HB1:=AA (bT (bA (bA (bR w) _) _) hb1);clear hb1 HC;go_wp2_with fail;exact bodyPost_ret (results_tmp3 rfl _ _ _) rfl ⟨rfl,HB1.out⟩
theorem aw5 (v:Value) (p:Pl) (at_:Pt) (w:World) (h:Ci w v p) (hv:Ib p=0) (hk:KY at_=false):Calls Tryz.prog 24 #[v,BA at_] w fun e w'=>e=.returned (aCu (0,0,2))/\AU w w':=by
 have HC:=AA (fun W (hW:AU w W)=>aCv v p W (h.mono hW) hv);have fV:=AA (fun W=>am2 at_ W);rw [hk] at fV;obtain ⟨vn,va,vf,al,rfl,-⟩:=h;unfold BA at fV ⊢;clear hv hk;go_enter Tryz.func24,Tryz.ntmps24;go_upto_region 1 with fail;obtain ⟨W1,hW⟩:=BR ((w.alloc (.cells #[vn,va,vf] 26)).alloc (.cells #[.int .i64 at_.x,.int .i64 at_.y] 39));have X1:AO W1 w.heap.size 26 #[vn,va,vf]:=by rw [hW];exact (AO.made rfl _ _).alloc _
 have X2:AO W1 (w.heap.size+1) 39 #[.int .i64 at_.x,.int .i64 at_.y]:=by rw [hW];exact AO.made Ak _ _
 have HB1:=AA (show AU w W1 by rw [hW];exact bA (bA (bR w) _) _);rw [<- hW];clear hW;have Dt:=AA X1;have CG:=AA X2;obtain ⟨BF,BG,BH,BI,-,-,-⟩:=X1.Az;go_wp2_with fail;refine (HC.out _ HB1.out).mono ?_;rintro e w1 ⟨A,c,L,A',c',gm,f,rfl,hb1,-⟩;have HB2:=AA (bT HB1.out hb1);have X3:=CG.out.keep hb1;clear hb1 HC X1 BF BG BH BI Dt CG X2 HB1;obtain ⟨Dk,EJ,ET,-,-⟩:=X3.BQ;go_wp2_with fail;refine (fV.out _).mono ?_;rintro e w3 ⟨rfl,hb3⟩;have HB3:=AA (bT HB2.out hb3);clear hb3;go_wp2_with fail;exact bodyPost_ret (results_tmp3 rfl _ _ _) rfl ⟨rfl,HB3.out⟩
theorem aw6 (v:Value) (p:Pl) (at_:Pt) (w:World) (h:Ci w v p) (hv:Ib p=0) (hk:KY at_=true):Calls Tryz.prog 24 #[v,BA at_] w fun e w'=>e=.returned (aCu (Sm p at_))/\AU w w':=by
 obtain ⟨hvv,hfb⟩:=aaf hv;have HV:=AA hvv;have nv:=agS hk;have HLn:=AA (fun k (hl:k<p.nodes.length) hf he=>aw1 (v:=at_) hv hk hl hf he);have HLa:=AA (fun hn k (hl:k<p.AP.length) hf he=>aw2 (v:=at_) hv hk hn hl hf he);have HLf:=AA (fun hn ha=>aw3 (v:=at_) hv hk hn ha);have HC:=AA (fun W (hW:AU w W)=>aCv v p W (h.mono hW) hv);have fV:=AA (fun W=>am2 at_ W);have JI:=AA (fun a b W=>tJ a b at_ W);have qj:=AA (fun W gm f (hpm:Qe W gm p f) vl L (hL:aBo W vl L) hd hl=>ak4 W gm p f hpm hvv vl L hL hd hl at_ nv);have hol:(BP p).length<=512:=EH (OA _ _) hvv.U5;rw [hk] at fV;obtain ⟨_,_,_,al,rfl,hpa,⟨An,cn,rfl,hn1,hn2,zC⟩,⟨⟨Aa,ca,rfl,ha1,ha2,FD⟩,Vw⟩,⟨Af,cf,rfl,-⟩⟩:=h;unfold maxLen at hn2 ha2;generalize p.faces.length=nf at *;have hal:al.length=p.AP.length:=by rw [hpa,Cj]
 have pU:p.nodes.length<=256:=hvv.jU;have hqa:p.AP.length<=256:=by
  have hl:=hvv.lim;unfold Ji at hl;simp at hl;omega
 have HRn:=AA zC;have GN:=AA FD;have jL:=AA Vw;have Kv:=AA hpa;have Xt:=AA hal;have azq:al.length<=256:=by omega
 unfold BA at fV JI qj ⊢;clear hv hk hvv hfb zC FD Vw hpa nv hal;go_enter Tryz.func24,Tryz.ntmps24;go_upto_region 1 with fail;obtain ⟨W1,hW⟩:=BR ((w.alloc (.cells #[.slice An p.nodes.length cn,.slice Aa al.length ca,.slice Af nf cf] 26)).alloc (.cells #[.int .i64 at_.x,.int .i64 at_.y] 39));have X1:AO W1 w.heap.size 26 #[.slice An p.nodes.length cn,.slice Aa al.length ca,.slice Af nf cf]:=by rw [hW];exact (AO.made rfl _ _).alloc _
 have X2:AO W1 (w.heap.size+1) 39 #[.int .i64 at_.x,.int .i64 at_.y]:=by rw [hW];exact AO.made Ak _ _
 have HB1:=AA (show AU w W1 by rw [hW];exact bA (bA (bR w) _) _);rw [<- hW];clear hW;have Dt:=AA X1;have CG:=AA X2;obtain ⟨BF,BG,BH,BI,-,-,-⟩:=X1.Az;go_wp2_with fail;refine (HC.out _ HB1.out).mono ?_;rintro e w1 ⟨A,c,L,A',c',gm,f,rfl,hb1,Si,hfi,hdv,htw,hpm,hgm,-⟩;have HB2:=AA (bT HB1.out hb1);have ZL:=AA (Dt.out.keep hb1);have lG:=AA (CG.out.keep hb1);have X3:=lG.out;have HA:=AA Si;have HD:=AA hdv;have HT:=AA htw;have KA:=AA hpm;have hll:L.length=(BP p).length+1:=hdv.len;have hfl:=U6 p (BP p) L.length;obtain ⟨Al,cl,hel,hl2,hl3,hRl⟩:=Si.sl;injection hel with y1 y2 y3;subst y1 y3;clear y2;unfold Ints at hfi;rw [hfl] at hfi;obtain ⟨Af',cf',hef,hf2,hf3,fB⟩:=hfi;injection hef with y1 y2 y3;subst y1 y3;clear y2;have Wy:=AA fB;clear hb1 HC X1 BF BG BH BI Dt CG X2 HB1 Si hdv htw hpm hRl fB hl2 hl3 hf2 hf3 hfl;obtain ⟨Dk,EJ,ET,-,-⟩:=X3.BQ;go_wp2_with fail;refine (fV.out _).mono ?_;rintro e w3 ⟨rfl,hb3⟩;have HB3:=AA (bT HB2.out hb3);have Dt:=AA (ZL.out.keep hb3);have CG:=AA (lG.out.keep hb3);have Jq:=AA (HA.out.mono hb3);have zy:=AA (KA.out.keep hb3);have am3:=AA (Wy.out.mono hb3);clear hb3 X3 Dk EJ ET ZL lG HA KA Wy HB2 fV;have X1:=Dt.out
 try clear BF BG BH BI
 obtain ⟨BF,BG,BH,BI,-,-,-⟩:=X1.Az;go_upto_block 0 with fail;clear X1 BF BG BH BI;go_wp2_with fail;go_loopw [32] (fun u wr=>∃ k:Nat,k<=p.nodes.length/\u=.int .i64 k/\(p.nodes.take k).find? (fun n=>decide (n.pt=at_))=none/\AU w3 wr) (fun u _=>p.nodes.length-(intOf u).toNat)
 case atStart => exact ⟨0,Bv _,rfl,rfl,bR w3⟩
 case round =>
  obtain ⟨k,hk,rfl,hno,hb⟩:=hrel;obtain ⟨wo,rfl⟩:=BR wr;have OQ:=AA hno;have Hb:=AA hb;clear hno hb;by_cases hlt:k<p.nodes.length
  ·obtain ⟨b,o,hA',hlb,c0,c1,c2⟩:=(HRn.out.mono (bT HB3.out Hb.out)).nd hlt;subst hA';have X2:=CG.out.keep Hb.out;have hx2:=X2.lt;have TI:=AA (fun he=>HLn.out k hlt OQ.out he);have PZ:=AA (fun hne=>akW hlt OQ.out hne);generalize p.nodes[k]=x at *;obtain ⟨id,x0,y0⟩:=x;simp only at c0 c1 c2;have yt:(k:Int)<p.nodes.length:=by omega
   have yu:0<=(k:Int):=by omega
   obtain ⟨BU,BX,Bg,-,-⟩:=X2.BQ;go_upto_region 9 with fail;obtain ⟨W5,hW⟩:∃ W:World,W=wo.alloc (.cells #[.int .i64 id,.int .i64 x0,.int .i64 y0] 45):=⟨_,rfl⟩;obtain ⟨g11,ab6⟩:=BN wo.heap.size;have X5:AO W5 g11 45 #[.int .i64 id,.int .i64 x0,.int .i64 y0]:=by rw [hW];exact AO.made ab6.symm _ _
   have X6:AO W5 (w.heap.size+1) 39 #[.int .i64 at_.x,.int .i64 at_.y]:=by rw [hW];exact X2.alloc _
   have LU:=AA (show AU w W5 by rw [hW];exact bA (bT HB3.out Hb.out) _);have HBg:=AA (show AU w3 W5 by rw [hW];exact bA Hb.out _);rw [<- hW]
   try rw [ab6]
   clear hW c0 c1 c2 hlb X2 BU BX Bg Hb;obtain ⟨CJ,CO,CS,F8,-,-,-⟩:=X5.Az;obtain ⟨EK,EL,EM,-,-⟩:=X6.BQ;by_cases he:(⟨x0,y0⟩:Pt)=at_
   ·have hr:=AA (TI.out he);have he1:x0=at_.x:=by rw [<- he]
    have he2:y0=at_.y:=by rw [<- he]
    subst he1 he2;go_upto_region 10 with fail;refine DJ (W5) (.run 5 0 0 (.done)) fun CU QR Ae Ah hS=>?_
    iterate 5 refine Aj ?_
    refine DF ?_;clear hS Ah Ae;intro hB;go_wp2_with fail;exact bodyPost_ret (results_tmp3 rfl _ _ _) rfl ⟨by rw [hr.out];rfl,bT LU.out hB⟩
   ·have hne:¬ (x0=at_.x/\y0=at_.y):=fun e=>he (by rw [e.1,e.2]);have hr:=AA (PZ.out (by simpa using he));go_wp2_with fail
    all_goals
     refine ⟨⟨k+1,AB,rfl,hr.out,HBg.out⟩,?_⟩;simp [intOf];omega
  ·obtain rfl:k=p.nodes.length:=by omega
   have hnn:=OQ.out;rw [I4] at hnn;have qJ:=AA hnn;have HB4:=AA (bT HB3.out Hb.out);have X1:=Dt.out.keep Hb.out;have D8:=AA (CG.out.keep Hb.out);have Iu:=AA (Jq.out.mono Hb.out);have pR:=AA (zy.out.keep Hb.out);have am4:=AA (am3.out.mono Hb.out);clear hnn OQ Hb HB3 Dt CG Jq zy am3 HLn
   try clear BF BG BH BI
   obtain ⟨BF,BG,BH,BI,-,-,-⟩:=X1.Az;go_upto_block 2 with fail;clear X1 BF BG BH BI;go_wp2_with fail;go_loopw [46] (fun u wr=>∃ k:Nat,k<=al.length/\u=.int .i64 k/\(p.AP.take k).find? (qI p at_)=none/\AU wo wr) (fun u _=>al.length-(intOf u).toNat)
   case atStart => exact ⟨0,Bv _,rfl,rfl,bR wo⟩
   case round =>
    obtain ⟨k,hk,rfl,hno,hb⟩:=hrel;obtain ⟨wq,rfl⟩:=BR wr;have OQ:=AA hno;have Hb:=AA hb;clear hno hb;by_cases hlt:k<al.length
    ·have hkp:k<p.AP.length:=by rw [<- Xt.out];exact hlt
     have hax:p.AP[k]=al[k].1:=by
      have e:p.AP[k]? = some al[k].1:=by rw [Kv.out,List.getElem?_map,Dh hlt];rfl
      rw [Dh hkp] at e;exact Dq e
     have ham:p.AP[k]∈p.AP:=BO hkp;have hid:=HV.out.Gx ham;have hlen:=Ey p p.AP[k];have Rk:=HV.out.Tv ham;obtain ⟨b,o,hA',hlb,c0,c1,c2,c3,c4,c5⟩:=(GN.out.mono (bT HB4.out Hb.out)).ar hlt;subst hA';have Jw:=AA (fun he=>HLa.out qJ.out k hkp OQ.out he);have Ou:=AA (fun hne=>akW hkp OQ.out hne);obtain ⟨nm,hmp⟩:=(pR.out.keep Hb.out).mp;have O6:=(pR.out.keep Hb.out).rd _ ham;have hax':=hax;have hlk:∀ W,AU wq W->_:=fun W hW=>(hmp.keep hW).look p.AP[k].id (N8 AB AB);have qK:=AA hlk;rw [<- hax] at c0 c1 c2 c4 c5;unfold qI at Jw Ou;generalize f p.AP[k].id=y at *;generalize AV p p.AP[k]=PP at *;generalize p.AP[k]=ax at *;obtain ⟨Av,cv,hva,-⟩:=jL.out k hlt;rw [hva] at c3;generalize al[k].1.via.length=nv' at *;clear hva;obtain ⟨ai,af,ad,av,af1,af2⟩:=ax;obtain ⟨Ap,np,cp⟩:=y;unfold BK at hlk qK O6;have Vz:=AA O6;obtain ⟨qR,cp',he,hp1,hp2,-⟩:=O6;injection he with y1 y2 y3;subst y1 y2 y3;unfold maxLen at hp2;simp only at hid hlen Rk c0 c1 c2 c3 c4 c5;have azr:2<=PP.length:=by omega
     have hpl2:PP.length<=66:=by omega
     clear hax hax' ham hmp hlk hlen Rk;have yt:(k:Int)<al.length:=by omega
     have yu:0<=(k:Int):=by omega
     go_upto_region 15 with fail;obtain ⟨W5,hW⟩:∃ W:World,W=wq.alloc (.cells #[.int .i64 ai,.int .i64 af,.int .i64 ad,.slice Av nv' cv,.int .i64 af1,.int .i64 af2] 50):=⟨_,rfl⟩;obtain ⟨g13,am5⟩:=BN wq.heap.size;have X5:AO W5 g13 50 #[.int .i64 ai,.int .i64 af,.int .i64 ad,.slice Av nv' cv,.int .i64 af1,.int .i64 af2]:=by rw [hW];exact AO.made am5.symm _ _
     have hA:AU wq W5:=by rw [hW];exact bA (bR wq) _
     have Cm:=AA (bT (bT HB4.out Hb.out) hA);have HBq:=AA (bT Hb.out hA);have aw7:=AA (D8.out.keep (bT Hb.out hA));have ae7:=AA X5;have hlk:=qK.out W5 hA;have U8:=AA (Vz.out.mono hA);rw [<- hW]
     try rw [am5]
     clear hW hA c0 c1 c2 c3 c4 c5 hlb qK Vz Hb
     try clear CJ CO CS F8 UN nN nP
     obtain ⟨CJ,CO,CS,F8,UN,nN,nP,-,-,-,-,-,-⟩:=X5.IW;go_upto_block 4 with fail;clear X5 CJ CO CS F8 UN nN nP hlk;go_wp2_with fail;go_loopw [15] (fun u wr=>∃ m:Nat,m+1<=PP.length/\u=.int .i64 ((m:Int)+1)/\YA PP at_ m=false/\AU W5 wr) (fun u _=>PP.length-(intOf u).toNat)
     case atStart => exact ⟨0,AB,rfl,rfl,bR W5⟩
     case round =>
      obtain ⟨m,hm,rfl,hnm,hb⟩:=hrel;obtain ⟨wm,rfl⟩:=BR wr;have RJ:=AA hnm;have lH:=AA hb;clear hnm hb;by_cases hmt:m+1<PP.length
      ·obtain ⟨qR,cp',he,-,-,TK⟩:=U8.out.mono lH.out;injection he with y1 y2 y3;subst y1 y3;clear y2;obtain ⟨bp,op,Lm,hlp,d0,d1⟩:=TK.pt (show m<PP.length by omega);obtain ⟨bp',op',Lu,-,d2,d3⟩:=TK.pt hmt;rw [Lm] at Lu;injection Lu with Lu;injection Lu with q1 q2 _;subst q1 q2 Lm;have hoi:=avz (v:=at_) hmt;generalize PP[m+1]=pb at *;generalize PP[m]=pa at *;obtain ⟨xa,ya⟩:=pa;obtain ⟨xb,yb⟩:=pb;simp only at d0 d1 d2 d3;have X6:=aw7.out.keep lH.out;have X7:=ae7.out.keep lH.out;have Ip:=AA X7;have hx6:=X6.lt;have hx7:=X7.lt;have aa7:((m:Int)+1)<PP.length:=by omega
       have yw:0<=(m:Int):=by omega
       have kk5:(m:Int)<PP.length:=by omega
       have kw:IntKind.i64.wrap (m:Int)=m:=D6 _ AB
       try clear EK EL EM
       obtain ⟨EK,EL,EM,-,-⟩:=X6.BQ
       cases hon:Ea ⟨xa,ya⟩ ⟨xb,yb⟩ at_ with
       | true =>
        have HO:=AA (fun W=>JI.out ⟨xa,ya⟩ ⟨xb,yb⟩ W);rw [hon] at HO;have qL:YA PP at_ (PP.length-1)=true:=aw0 (k:=m+1) AB (by rw [akV,hoi,hon,Bool.or_true]);have hr:=AA (Jw.out qL);clear hon hoi qL Jw Ou;go_upto_region 19 with fail;refine DJ (wm) (.run 10 0 0 (.call 10 2047 (.done))) fun CU QR Ae Ah hS=>?_
        iterate 10 refine Aj ?_
        refine GL (HO.out _) ?_;clear hS;intro CX CV hS;refine DF ?_;clear hS Ah Ae;intro hB;have GU:=AA (bT (bT Cm.out lH.out) hB);have X8:=Ip.out.keep hB;clear X6 EK EL EM d0 d1 d2 d3 hlp hB HO X7;obtain ⟨OI,OY,OZ,aAr,X8d,X8e,X8f,-,-,-,-,-,-⟩:=X8.IW;go_upto_region 20 with fail;refine DJ (CX) (.run 5 0 0 (.done)) fun CU QR Ae Ah hS=>?_
        iterate 5 refine Aj ?_
        refine DF ?_;clear hS Ah Ae;intro hB;go_wp2_with fail;exact bodyPost_ret (results_tmp3 rfl _ _ _) rfl ⟨by rw [hr.out];rfl,bT GU.out hB⟩
       | false =>
        have HO:=AA (fun W=>JI.out ⟨xa,ya⟩ ⟨xb,yb⟩ W);rw [hon] at HO;have hr:=AA (show YA PP at_ (m+1)=false by rw [akV,hoi,hon,RJ.out];rfl);clear hon hoi Jw Ou;go_upto_region 19 with fail;refine DJ (wm) (.run 10 0 0 (.call 10 2047 (.done))) fun CU QR Ae Ah hS=>?_
        iterate 10 refine Aj ?_
        refine GL (HO.out _) ?_;clear hS;intro CX CV hS;refine DF ?_;clear hS Ah Ae;intro hB;have UA:=AA (bT lH.out hB);clear X6 EK EL EM d0 d1 d2 d3 hlp hB HO X7;go_wp2;go_roundw
        case rel => exact ⟨m+1,AB,BJ,hr.out,UA.out⟩
        case measure => exact BL
      ·obtain rfl:m=PP.length-1:=by omega
       have hr:=AA (Ou.out RJ.out);have HBk:=AA (bT HBq.out lH.out);clear Jw Ou RJ JI lH;go_wp2;go_roundw
       case rel => exact ⟨k+1,AB,BJ,hr.out,HBk.out⟩
       case measure => exact BL
    ·obtain rfl:k=al.length:=by omega
     have haa:=OQ.out;rw [Xt.out,I4] at haa;have hr:=AA (HLf.out qJ.out haa);have HBq:=AA (bT HB4.out Hb.out);have X6:=D8.out.keep Hb.out;have hA:=Iu.out.mono Hb.out;have hP:=pR.out.keep Hb.out;have hR:=am4.out.mono Hb.out;have am6:=HD.out.len;obtain ⟨bb,oo,zF,hl9,-⟩:=hR.int (k:=0) (by rw [U6];omega);subst zF;have hF:∀ W,AU wq W->Calls Tryz.prog 70 #[.map (some gm),.slice A ((BP p).length+1) c,.agg #[.int .i64 at_.x,.int .i64 at_.y]] W fun e w'=>(∃ i:Nat,e=.returned (.int .i64 i)/\(i:Int)<((BP p).length:Int)+1/\0<=(i:Int)/\wq.cell? ⟨bb,oo+i,none⟩=some (.int .i64 (NR p (Ie p at_))))/\AU W w':=fun W hW=>by
      have hA':=hA.mono hW;rw [<- am6] at *;refine (qj.out W gm f (hP.keep hW) _ L hA'.read (fun x hx d hd=>by
       rcases HD.out.adu hx with e | e
       · rw [e] at hd;cases hd
       · exact (HV.out.Gq (Ku.1 e).1).2 d hd) AB).mono ?_
      rintro e w' ⟨⟨i,rfl,hbx⟩,hb'⟩;obtain ⟨hi,hh⟩:=HD.out.home rfl HT.out hbx;obtain ⟨bb',oo',zF,hl9,hc9⟩:=hR.int (k:=i) (by rw [U6];exact hi);injection zF with zF;injection zF with q1 q2 _;subst q1 q2;refine ⟨⟨i,rfl,AB,AB,?_⟩,hb'⟩;rw [hc9];congr 2;unfold Ns;rw [Gp,List.getElem_range];unfold Ih;rw [hh]
     have HF:=AA hF;clear haa hA hP hR hF am6 Iu pR am4 OQ qJ HLf HLa JI qj D8 Hb
     try clear EK EL EM
     obtain ⟨EK,EL,EM,-,-⟩:=X6.BQ;go_upto_region 22 with fail;refine DJ (wq) (.run 4 0 0 (.call 4 31 (.run 5 5 31 (.done)))) fun CU QR Ae Ah hS=>?_
     iterate 4 refine Aj ?_
     refine Bj ?_;clear hS;intro K hK AQ;go_simp;refine (HF.out _ AQ.out).mono ?_;rintro e CX ⟨⟨ii,rfl,hi8,hi9,hc9⟩,CV⟩;have hS:Since wq CX:=bT (w:=wq) AQ.out CV;clear AQ;refine hK.out _ _ hS (fun _=>?_);clear hK K
     try simp only [pu]
     iterate 5 refine Aj ?_
     refine DF ?_;clear hS Ah Ae;intro hB;go_wp2_with fail;exact bodyPost_ret (results_tmp3 rfl _ _ _) rfl ⟨by rw [hr.out];rfl,bT HBq.out hB⟩
theorem aw8 (v:Value) (p:Pl) (at_:Pt) (w:World) (h:Ci w v p):Calls Tryz.prog 24 #[v,BA at_] w fun e w'=>e=.returned (aCu (Sm p at_))/\AU w w':=by
 by_cases hv:Ib p=0
 · cases hk:KY at_ with
  | true=>exact aw6 v p at_ w h hv hk
  | false =>
   have e:Sm p at_=(0,0,2):=by
    unfold Sm;rw [AX (by simpa using hv),AZ hk]
   rw [e];exact aw5 v p at_ w h hv hk
 ·have e:Sm p at_=(0,0,Ib p):=by
   unfold Sm;rw [AZ hv]
  rw [e];exact aw4 v p at_ w h hv
set_option linter.unusedSectionVars false
theorem am7:∀ (l:List Pt) (x:Bx),let b:=l.foldl Oc x;
  (b.x0<=x.x0/\b.y0<=x.y0/\x.x1<=b.x1/\x.y1<=b.y1)/\(∀ v∈l,b.x0<=v.x/\b.y0<=v.y/\v.x<=b.x1/\v.y<=b.y1) /\
  (b.x0=x.x0\/∃ v∈l,b.x0=v.x)/\(b.y0=x.y0\/∃ v∈l,b.y0=v.y)/\(b.x1=x.x1\/∃ v∈l,b.x1=v.x)/\(b.y1=x.y1\/∃ v∈l,b.y1=v.y)
 | [],x=>⟨⟨KH _,KH _,KH _,KH _⟩,fun v hv=>(by cases hv),.inl rfl,.inl rfl,.inl rfl,.inl rfl⟩
 | v::l,x=>by
  have ih:=am7 l (Oc x v);simp only [UD];generalize l.foldl Oc (Oc x v)=b at *;obtain ⟨i1,i2,i3,i4,i5,i6⟩:=ih;unfold Oc at i1 i3 i4 i5 i6;simp only at i1 i3 i4 i5 i6;have j1:b.x0<=x.x0/\b.x0<=v.x:=by clear i2 i3 i4 i5 i6;omega
  have j2:b.y0<=x.y0/\b.y0<=v.y:=by clear i2 i3 i4 i5 i6;omega
  have j3:x.x1<=b.x1/\v.x<=b.x1:=by clear i2 i3 i4 i5 i6;omega
  have j4:x.y1<=b.y1/\v.y<=b.y1:=by clear i2 i3 i4 i5 i6;omega
  refine ⟨⟨j1.1,j2.1,j3.1,j4.1⟩,fun u hu=>?_,?_,?_,?_,?_⟩
  ·rcases EW.1 hu with rfl | hu
   · exact ⟨j1.2,j2.2,j3.2,j4.2⟩
   · exact i2 u hu
  ·clear i2 i4 i5 i6;rcases i3 with e | ⟨u,hu,e⟩
   ·rcases Zp x.x0 v.x with c | c
    · exact .inl AB
    · exact .inr ⟨v,Eu,AB⟩
   · exact .inr ⟨u,I7 _ hu,e⟩
  ·clear i2 i3 i5 i6;rcases i4 with e | ⟨u,hu,e⟩
   ·rcases Zp x.y0 v.y with c | c
    · exact .inl AB
    · exact .inr ⟨v,Eu,AB⟩
   · exact .inr ⟨u,I7 _ hu,e⟩
  ·clear i2 i3 i4 i6;rcases i5 with e | ⟨u,hu,e⟩
   ·rcases Zp x.x1 v.x with c | c
    · exact .inr ⟨v,Eu,AB⟩
    · exact .inl AB
   · exact .inr ⟨u,I7 _ hu,e⟩
  ·clear i2 i3 i4 i5;rcases i6 with e | ⟨u,hu,e⟩
   ·rcases Zp x.y1 v.y with c | c
    · exact .inr ⟨v,Eu,AB⟩
    · exact .inl AB
   · exact .inr ⟨u,I7 _ hu,e⟩
structure aw9 (b:Bx) (l:List Pt):Prop where
 all:∀ v∈l,b.x0<=v.x/\b.y0<=v.y/\v.x<=b.x1/\v.y<=b.y1
 x0:∃ v∈l,b.x0=v.x
 y0:∃ v∈l,b.y0=v.y
 x1:∃ v∈l,b.x1=v.x
 y1:∃ v∈l,b.y1=v.y
theorem awC {l:List Pt} (h:l≠[]):aw9 (P8 l) l:=by
 cases l with
 | nil=>exact absurd rfl h
 | cons u l =>
  obtain ⟨-,i2,i3,i4,i5,i6⟩:=am7 (u::l) ⟨u.x,u.y,u.x,u.y⟩;exact ⟨i2,i3.elim (fun e=>⟨u,Eu,e⟩) id,i4.elim (fun e=>⟨u,Eu,e⟩) id,i5.elim (fun e=>⟨u,Eu,e⟩) id,i6.elim (fun e=>⟨u,Eu,e⟩) id⟩
theorem awD {P:List Pt} (h:2<=P.length) (v:Pt):v∈Ky (Es P)↔v∈P:=by
 unfold Ky;rw [Gf];constructor
 ·rintro ⟨q,hq,hv⟩;unfold Es at hq;obtain ⟨k,hk,rfl⟩:=ED.1 hq;rw [Et] at hk;have g:∀ j,j<P.length->P.getD j AY∈P:=fun j hj=>by
   rw [Fj,Dh hj];exact BO hj
  simp only [EW,YK,or_false] at hv;rcases hv with rfl | rfl
  · exact g k AB
  · exact g (k+1) AB
 ·intro hv;obtain ⟨j,hj,rfl⟩:=EF.1 hv;have g:∀ j (hj:j<P.length),P.getD j AY=P[j]:=fun j hj=>by rw [Fj,Dh hj];rfl
  by_cases e:j+1<P.length
  ·refine ⟨(P.getD j AY,P.getD (j+1) AY),?_,by show P[j]∈[P.getD j AY,P.getD (j+1) AY];rw [g j hj];exact Eu⟩;unfold Es;exact ED.2 ⟨j,Et.2 AB,rfl⟩
  ·refine ⟨(P.getD (j-1) AY,P.getD (j-1+1) AY),?_,?_⟩
   ·unfold Es;exact ED.2 ⟨j-1,Et.2 AB,rfl⟩
   ·have:j-1+1=j:=by omega
    show P[j]∈[P.getD (j-1) AY,P.getD (j-1+1) AY]
    rw [this,g j hj];exact I7 _ Eu
theorem ael (p:Pl) (d:Int) (v:Pt):v∈MC p d↔v∈G5 p d:=by
 unfold MC;split
 · exact Iff.rfl
 · exact aAI
section
variable {p:Pl} (h:Valid p)
include h
theorem Valid.am8 {X:List Int} (hX:∀ d∈X,d∈Bh p) (v:Pt):v∈Ky (DV p X)↔v∈X.flatMap (MC p):=by
 have e:v∈Ky (DV p X)↔∃ d∈X,v∈Ky (Es (G5 p d)):=by
  unfold Ky DV;rw [abe,Gf]
 rw [e,Gf];refine exists_congr fun d=>and_congr_right fun hd=>?_;obtain ⟨a,ha,-,hp⟩:=h.TY (hX d hd);have hl:=Ey p a;rw [awD (by rw [hp];omega),ael]
omit h in
theorem awE {v:Pt} {X:List Int} (e:Ie p v=some X):X∈BP p:=(aCk _ _ e).1
omit h in
theorem aem {f:Int} {X:List Int} (e:lC p f=some X):X∈BP p/\NR p (some X)=f:=⟨VO e,eq_of_beq (show (NR p (some X) == f)=true from List.find?_some (p:=fun X=>NR p (some X) == f) e)⟩
end
section
variable {p:Pl} (h:Valid p)
include h
end
