import Derived.Test.YtialfdomhoojiaaGreatJ27
set_option linter.unusedSimpArgs false
set_option linter.unusedVariables false
namespace Go.Proofs.YtialfdomhoojiaaGreat
open Go.RowKit
section
variable {p:Pl} (h:Valid p)
include h
theorem Valid.aa5 {a:Ar} (ha:a∈p.AU) {k:Nat} (hk:k<(AV p a).length):N9 ((AV p a).getD k AY):=by
 rw [Fj,DK hk];exact h.wO ha (BH hk)
theorem Valid.akd {n:Nd} (hn:n∈p.nodes):N9 n.pt:=by
 have hr:=h.rng;unfold OE at hr;simp only [Em,JF] at hr;exact aiO (hr.2 _ (Oa _ (Gs hn)))
end
set_option linter.unusedSectionVars false
def HW (p:Pl) (z:Int->Int):Prop:=∀ a∈p.AU,z a.id≠0->(Hz p z (-a.id)=0/\Hz p z a.id=1)\/(Hz p z (-a.id)=1/\Hz p z a.id=0)
section
variable {p:Pl} (h:Valid p)
include h
end
structure Place (p:Pl) (φ:(Int->Int)->Int) (off:(Int->Int)->Prop):Prop where
 add:∀ z u,φ (fun i=>z i+u i)=φ z+φ u
 neg:∀ z,φ (fun i=>-z i)=-φ z
 ayc:∀ z u,(∀ a∈p.AU,z a.id=u a.id)->φ z=φ u
 ayd:∀ z u,off z->off u->off (fun i=>z i+u i)
 aye:∀ z,off z->off (fun i=>-z i)
 w01:∀ z,Fv p z->HW p z->off z->φ z=0\/φ z=1
section
variable {p:Pl} (h:Valid p) {φ:(Int->Int)->Int} {off:(Int->Int)->Prop} (hφ:Place p φ off) (ho:∀ X∈Bj p,off (CP X))
include h hφ ho
end
set_option linter.unusedSectionVars false
def qB (L:List (List Int)) (i:Int):Int:=(L.map fun c=>CP c i).sum
section
variable {p:Pl} (h:Valid p)
include h
theorem Valid.awQ {X:List Int} (hX:X∈CX p):X.headD 0∈X:=by
 obtain ⟨x,-,-,ex,hx⟩:=h.Ph hX;rw [ex];exact hx
end
section
variable {p:Pl} (h:Valid p) {φ:(Int->Int)->Int} {off:(Int->Int)->Prop} (hφ:Place p φ off) (ho:∀ X∈Bj p,off (CP X))
include h hφ
include ho
end
set_option linter.unusedSectionVars false
section
variable {p:Pl} (h:Valid p)
include h
theorem Valid.awR {X:List Int} (hX:X∈CX p) (f:Pt×Pt->Int) (g:Pt->Pt->Int) (hfg:∀ a b,f (a,b) % 2=g a b % 2):((DV p X).map f).sum % 2=DX p (CP X) g % 2:=by
 obtain ⟨-,h2⟩:=h.Gy hX;have e1:((DV p X).map f).sum=(X.map fun d=>Io (fun a b=>f (a,b)) (GV p d)).sum:=by
  unfold DV;rw [rQ,adB];refine Gx _ _ _ fun d _=>?_;unfold Ei Io;rw [Mc];rfl
 rw [e1,h.aB3 hX];unfold DX;refine aB7 _ _ _ fun a ha=>?_;have hid:=(h.Gh ha).1;have p1:GV p a.id=AV p a:=by
  unfold GV;rw [show Ee a.id=a.id by unfold Ee;split<;>omega,h.find ha]
 have p2:GV p (-a.id)=AV p a:=by
  unfold GV;rw [show Ee (-a.id)=a.id by unfold Ee;split<;>omega,h.find ha]
 rw [p1,p2];have e:Io (fun a b=>f (a,b)) (AV p a) % 2=Io g (AV p a) % 2:=by
  unfold Io;exact aB7 _ _ _ fun k _=>hfg _ _
 generalize Io (fun a b=>f (a,b)) (AV p a)=s at *;generalize Io g (AV p a)=t at *;unfold CP;by_cases c1:a.id∈X<;>by_cases c2:-a.id∈X<;>simp only [c1,c2,if_true,if_false]<;>omega
theorem Valid.ake {L:List (List Int)} (hL:∀ X∈L,X∈CX p\/X=[]) (f:Pt×Pt->Int) (g:Pt->Pt->Int) (hfg:∀ a b,f (a,b) % 2=g a b % 2):((L.flatMap (DV p)).map f).sum % 2=DX p (qB L) g % 2:=by
 induction L with
 | nil =>
  have:DX p (qB []) g=0:=yC fun a ha=>.inl rfl
  rw [this];rfl
 | cons X L ih =>
  rw [Ju,GL,OA];have e:DX p (qB (X::L)) g=DX p (CP X) g+DX p (qB L) g:=by
   rw [<- aB4];rfl
  have ih:=ih (fun Y hY=>hL Y (Gn _ hY));rw [e];rcases hL X Ea with hX | hX
  ·have:=h.awR hX f g hfg
   omega
  ·subst hX
   have:DX p (CP []) g=0:=yC fun a ha=>.inl rfl
   rw [this];have e2:((DV p []).map f).sum=0:=rfl;omega
end
set_option linter.unusedSectionVars false
theorem avb (a b v:Pt):tw (Gl a b) (JH a b) v=if b.y<a.y then -tw a b v else tw a b v:=by
 unfold Gl JH;split
 · unfold tw;grind
 · rfl
theorem avc {y:Int} {q:Pt×Pt} {x:Int}:((IX y q).countP (fun c=>decide (c<=x)):Int)+(if Iq ⟨x,y⟩ q.1 q.2=true then 1 else 0)=(IX y q).length:=by
 obtain ⟨a,b⟩:=q;have hp:Iq ⟨x,y⟩ a b=decide ((Gl a b).y<=y/\y<(JH a b).y/\0<tw (Gl a b) (JH a b) ⟨x,y⟩):=by
  rw [avb];unfold Iq Gl JH;rw [decide_eq_decide]
  show (a.y<=y/\y<b.y/\0<tw a b ⟨x,y⟩)\/(b.y<=y/\y<a.y/\tw a b ⟨x,y⟩<0)↔_
  split<;>omega
 rw [hp];unfold IX;by_cases g:(Gl a b).y<=y/\y<(JH a b).y
 ·rw [AZ g];have hH:0<(JH a b).y-(Gl a b).y:=by omega
  have e:(Gl a b).x+Wi y a b<=x↔¬ 0<tw (Gl a b) (JH a b) ⟨x,y⟩:=by
   unfold Wi;have:=yM (r:=(y-(Gl a b).y)*((JH a b).x-(Gl a b).x)) (t:=x-(Gl a b).x) hH
   unfold tw;simp only;rw [KL ((JH a b).x-(Gl a b).x),KL ((JH a b).y-(Gl a b).y)];omega
  by_cases c:0<tw (Gl a b) (JH a b) ⟨x,y⟩
  ·have e':¬ (Gl a b).x+Wi y a b<=x:=fun g=>e.1 g c;simp [g,c,e']
  ·have e':=e.2 c;simp [c,e']
 ·rw [AX g];have:¬ ((Gl a b).y<=y/\y<(JH a b).y/\0<tw (Gl a b) (JH a b) ⟨x,y⟩):=fun c=>g ⟨c.1,c.2.1⟩
  simp [this]
theorem avd (y:Int) (a b:Pt):((IX y (a,b)).length:Int) % 2=((if y<b.y then 1 else 0)-(if y<a.y then 1 else 0)) % 2:=by
 unfold IX Gl JH;by_cases c:b.y<a.y
 ·simp only [c,if_true];by_cases c1:b.y<=y/\y<a.y
  · rw [AZ c1,AX AB,AZ c1.2];rfl
  ·rw [AX c1];by_cases c2:y<b.y
   · rw [AZ c2,AZ AB];rfl
   · rw [AX c2,AX AB];rfl
 ·simp only [c,if_false];by_cases c1:a.y<=y/\y<b.y
  · rw [AZ c1,AZ c1.2,AX AB];rfl
  ·rw [AX c1];by_cases c2:y<a.y
   · rw [AZ c2,AZ AB];rfl
   · rw [AX c2,AX AB];rfl
theorem akf (x:Int):∀ (n:Nat) (l:List Int),l.length=n->l.Pairwise (·<=·)->l.length % 2=0->(Fz (Jj l) x↔(l.countP (fun c=>decide (c<=x))) % 2=1)
 | _,[],_,_,_=>by unfold Jj;exact ⟨fun g=>absurd g (Xm _),fun g=>by simp at g⟩
 | _,[a],_,_,h=>by simp at h
 | 0,a::b::l,hn,_,_=>by simp at hn
 | 1,a::b::l,hn,_,_=>by simp at hn
 | n+2,a::b::l,hn,hs,h=>by
  have h1:=JC.1 hs;have h2:=JC.1 h1.2;have ih:=akf x n l (by simpa using hn) h2.2 (by simp only [I9] at h;omega);have hab:=h1.1 b Ea;unfold Jj;rw [Um,aBD,ih];by_cases c1:a<=x
  ·by_cases c2:b<=x
   ·rw [abm (by simpa using c1),abm (by simpa using c2)];omega
   ·have:l.countP (fun c=>decide (c<=x))=0:=by
     rw [aAF];intro c hc;have:=h2.1 c hc
     simp;omega
    rw [abm (by simpa using c1),List.countP_cons_of_neg (by simpa using c2),this];omega
  ·have:(a::b::l).countP (fun c=>decide (c<=x))=0:=by
    rw [aAF];intro c hc;rcases EJ.1 hc with rfl | hc
    · simpa using c1
    ·have:=h1.1 c hc
     simp;omega
   have h3:l.countP (fun c=>decide (c<=x))=0:=by
    rw [aAF] at this ⊢;exact fun c hc=>this c (Gn _ (Gn _ hc))
   rw [this,h3];omega
theorem akg (y x:Int):∀ S:List (Pt×Pt),((S.flatMap (IX y)).countP (fun c=>decide (c<=x)):Int)+(S.map fun q=>if Iq ⟨x,y⟩ q.1 q.2=true then (1:Int) else 0).sum=(S.flatMap (IX y)).length
 | []=>rfl
 | q::S=>by
  have e:=avc (y:=y) (q:=q) (x:=x);have ih:=akg y x S;rw [Ju,abZ,EC,Ez,I8];omega
theorem akh (y:Int):∀ S:List (Pt×Pt),(((S.flatMap (IX y)).length:Nat):Int)=(S.map fun q=>((IX y q).length:Int)).sum
 | []=>rfl
 | q::S=>by
  have ih:=akh y S;rw [Ju,EC,Ez,I8];omega
section
variable {p:Pl} (h:Valid p)
include h
theorem Valid.af6 {X:List Int} (hX:X∈Bj p) {c:List Int} (hc:c∈Jq p (some X)):c∈CX p:=by
 unfold Jq at hc;rcases EJ.1 hc with rfl | hc
 · exact (Nl.1 hX).1
 · exact (iD.1 (QF.1 hc).1).1
theorem Valid.ave {L:List (List Int)} (hL:∀ c∈L,c∈CX p):Fv p (qB L):=by
 induction L with
 | nil=>exact fun n _=>WO _ _ fun a _=>by show (0:Int)*_=0;rw [JQ]
 | cons c L ih=>exact (h.WS (hL c Ea)).add (ih fun d hd=>hL d (Gn _ hd))
theorem Valid.amB {X:List Int} (hX:X∈Bj p) (x y:Int):((Gz p (some X)).flatMap (IX y)).length % 2=0 /\
  (((Gz p (some X)).flatMap (IX y)).countP (fun c=>decide (c<=x)) % 2=1↔Qh p (qB (Jq p (some X))) ⟨x,y⟩ % 2=1):=by
 have hL:∀ c∈Jq p (some X),c∈CX p\/c=[]:=fun c hc=>.inl (h.af6 hX hc);have e1:=h.ake hL (fun q=>((IX y q).length:Int)) (fun a b=>(if y<b.y then 1 else 0)-(if y<a.y then 1 else 0)) (fun a b=>avd y a b);rw [h.oh (h.ave fun c hc=>h.af6 hX hc) (fun u=>if y<u.y then 1 else 0)] at e1;have e2:=akh y (Gz p (some X));have e3:=akg y x (Gz p (some X));have e4:=h.ake hL (fun q=>if Iq ⟨x,y⟩ q.1 q.2=true then (1:Int) else 0) (SE ⟨x,y⟩) (fun a b=>by
  show (if Iq ⟨x,y⟩ a b=true then (1:Int) else 0) % 2=_
  rw [ajL];unfold SE;split
  · rfl
  · split<;>rfl)
 unfold Qh;unfold Gz at e2 e3 ⊢;omega
theorem Valid.avf {X:List Int} (hX:X∈Bj p) {q:Pt×Pt} (hq:q∈Gz p (some X)):∃ a∈p.AU,(∃ c∈Jq p (some X),a.id∈c\/-a.id∈c)/\∃ k,k+1<(AV p a).length/\q=((AV p a).getD k AY,(AV p a).getD (k+1) AY):=by
 obtain ⟨c,hc,hq⟩:=GY.1 hq;obtain ⟨a,ha,hor,k,hk,e⟩:=h.aB8 (h.Gy (h.af6 hX hc)).2 hq;exact ⟨a,ha,⟨c,hc,hor⟩,k,hk,e⟩
end
set_option linter.unusedSectionVars false
def zC (n d:Int):Int:=if 0<d then n / d else (-n) / (-d)
def aa6 (n d:Int):Int:=-zC (-n) d
def VB (y:Int) (q:Pt×Pt):List Int :=
 if y<min q.1.y q.2.y\/max q.1.y q.2.y<y then [] else if q.1.y=q.2.y then [q.1.x,q.2.x]
 else [q.1.x+zC ((y-q.1.y)*(q.2.x-q.1.x)) (q.2.y-q.1.y),q.1.x+aa6 ((y-q.1.y)*(q.2.x-q.1.x)) (q.2.y-q.1.y)]
def qC (a b:List Int):List Int:=b.foldl MR (Oz a)
def jc (p:Pl):List (Pt×Pt):=p.AU.flatMap fun a=>Ei (AV p a)
def af7 (y:Int) (S:List (Pt×Pt)):List Int:=S.foldl (fun l q=>qC l (VB y q)) []
def qE (y:Int) (l:List Int) (n:Nd):List Int:=if n.pt.y=y then MR l n.pt.x else l
def eF (p:Pl) (y:Int):List Int:=p.nodes.foldl (qE y) (af7 y (jc p))
theorem amC:∀ (b l:List Int),l.Pairwise (· < ·)->(b.foldl MR l).Pairwise (· < ·)/\∀ x,x∈b.foldl MR l↔x∈l\/x∈b
 | [],l,h=>⟨h,fun x=>by simp⟩
 | n::b,l,h=>by
  obtain ⟨h1,h2⟩:=aes h n;obtain ⟨h3,h4⟩:=amC b _ h1;refine ⟨h3,fun x=>?_⟩;rw [U5,h4,h2,EJ,or_assoc]
theorem avg (a b:List Int):(qC a b).Pairwise (· < ·)/\∀ x,x∈qC a b↔x∈a\/x∈b:=by
 obtain ⟨h1,h2⟩:=akt a;obtain ⟨h3,h4⟩:=amC b _ h1;exact ⟨h3,fun x=>by unfold qC;rw [h4,h2]⟩
theorem amD (y:Int):∀ (S:List (Pt×Pt)) (l:List Int),l.Pairwise (· < ·)->(S.foldl (fun l q=>qC l (VB y q)) l).Pairwise (· < ·)/\∀ x,x∈S.foldl (fun l q=>qC l (VB y q)) l↔x∈l\/∃ q∈S,x∈VB y q
 | [],l,h=>⟨h,fun x=>by simp⟩
 | q::S,l,_=>by
  obtain ⟨h1,h2⟩:=avg l (VB y q);obtain ⟨h3,h4⟩:=amD y S _ h1;refine ⟨h3,fun x=>?_⟩;rw [U5,h4,h2];simp only [EJ,exists_eq_or_imp,or_assoc]
theorem amE (y:Int):∀ (ns:List Nd) (l:List Int),l.Pairwise (· < ·)->(ns.foldl (qE y) l).Pairwise (· < ·)/\∀ x,x∈ns.foldl (qE y) l↔x∈l\/∃ n∈ns,n.pt.y=y/\n.pt.x=x
 | [],l,h=>⟨h,fun x=>by simp⟩
 | n::ns,l,h=>by
  have h0:(qE y l n).Pairwise (· < ·)/\∀ x,x∈qE y l n↔x∈l\/(n.pt.y=y/\n.pt.x=x):=by
   unfold qE;split
   ·rename_i e;obtain ⟨h1,h2⟩:=aes h n.pt.x;refine ⟨h1,fun x=>?_⟩;rw [h2];exact or_congr Iff.rfl ⟨fun g=>⟨e,g.symm⟩,fun g=>g.2.symm⟩
   ·rename_i e;exact ⟨h,fun x=>⟨.inl,fun g=>g.resolve_right fun g=>e g.1⟩⟩
  obtain ⟨h3,h4⟩:=amE y ns _ h0.1;refine ⟨h3,fun x=>?_⟩;rw [U5,h4,h0.2];simp only [EJ,exists_eq_or_imp,or_assoc]
theorem af8 (p:Pl) (y:Int):(eF p y).Pairwise (· < ·)/\∀ x,x∈eF p y↔(∃ q∈jc p,x∈VB y q)\/∃ n∈p.nodes,n.pt.y=y/\n.pt.x=x:=by
 obtain ⟨h1,h2⟩:(af7 y (jc p)).Pairwise (· < ·)/\∀ x,x∈af7 y (jc p)↔x∈[]\/∃ q∈jc p,x∈VB y q:=amD y (jc p) [] List.Pairwise.nil;obtain ⟨h3,h4⟩:=amE y p.nodes _ h1;refine ⟨h3,fun x=>?_⟩;unfold eF;rw [h4];refine or_congr ?_ Iff.rfl;rw [h2];simp
theorem aa7 {t H d:Int} (hH:0<H) (h0:0<=t) (h1:t<=H):min 0 d<=t*d / H/\t*d / H<=max 0 d:=by
 rcases Zj 0 d with h | h
 ·have a1:0<=t*d:=KQ h0 h;have a2:t*d<=H*d:=abf h1 h;have a3:0<=t*d / H:=Int.ediv_nonneg a1 AB;have a4:t*d / H<=d:=by
   have:=abn hH a2
   rwa [sD _ AB] at this
  omega
 ·have a1:t*d<=0:=aAA h0 h;have a2:H*d<=t*d:=by
   have:=Int.mul_le_mul_of_nonpos_right h1 h
   exact this
  have a3:t*d / H<=0:=by
   have:=abn hH a1
   simpa using this
  have a4:d<=t*d / H:=by
   have:=abn hH a2
   rwa [sD _ AB] at this
  omega
theorem avh {y:Int} {q:Pt×Pt} {x:Int} (h:x∈VB y q):min q.1.x q.2.x<=x/\x<=max q.1.x q.2.x/\min q.1.y q.2.y<=y/\y<=max q.1.y q.2.y:=by
 obtain ⟨a,b⟩:=q;unfold VB at h;simp only at h ⊢;split at h
 · cases h
 rename_i c0;split at h
 ·rename_i c;simp only [EJ,Xw,or_false] at h;rcases h with rfl | rfl<;>omega
 ·rename_i c;simp only [EJ,Xw,or_false] at h;unfold aa6 zC at h;by_cases e:0<b.y-a.y
  ·have f1:=aa7 (t:=y-a.y) (H:=b.y-a.y) (d:=b.x-a.x) e AB AB;have f2:=aa7 (t:=y-a.y) (H:=b.y-a.y) (d:=-(b.x-a.x)) e AB AB;rw [AZ e,AZ e] at h;rw [aAC] at f2;rcases h with h | h<;>omega
  ·have f1:=aa7 (t:=-(y-a.y)) (H:=-(b.y-a.y)) (d:=b.x-a.x) AB AB AB;have f2:=aa7 (t:=-(y-a.y)) (H:=-(b.y-a.y)) (d:=-(b.x-a.x)) AB AB AB;rw [AX e,AX e] at h;rw [OZ] at f1;rw [OZ,aAC] at f2;rcases h with h | h<;>omega
theorem avi {u H d:Int} (hH:0<H):(u-H*d) / H=u / H-d:=by
 have:u-H*d=u+(-d)*H:=by rw [OZ,KL H d];omega
 rw [this,Int.add_mul_ediv_right _ _ AB];omega
theorem avj {y:Int} {a b:Pt} (h1:(Gl a b).y<=y) (h2:y<=(JH a b).y) (h3:(Gl a b).y≠(JH a b).y):(Gl a b).x+Wi y a b∈VB y (a,b):=by
 unfold VB Wi;unfold Gl JH at *;by_cases c:b.y<a.y
 ·simp only [AZ c] at h1 h2 h3 ⊢;rw [AX AB,AX AB];simp only [EJ,Xw,or_false]
  right;unfold aa6 zC SH;rw [AX AB];have e:-(-((y-a.y)*(b.x-a.x)))=-((y-b.y)*(a.x-b.x))-(a.y-b.y)*(b.x-a.x):=by grind
  have e2:-(b.y-a.y)=a.y-b.y:=by omega
  rw [e,e2,avi AB];omega
 ·simp only [AX c] at h1 h2 h3 ⊢;rw [AX AB,AX AB];simp only [EJ,Xw,or_false]
  right;unfold aa6 zC SH;rw [AZ AB]
theorem amF {y:Int} {q:Pt×Pt} {c:Int} (h:c∈IX y q):c∈VB y q:=by
 obtain ⟨a,b⟩:=q;unfold IX at h;simp only at h;split at h
 ·rename_i e;rw [ED] at h;rw [h];exact avj e.1 AB AB
 · cases h
section
variable {p:Pl} (h:Valid p)
include h
theorem Valid.amG {X:List Int} (hX:X∈Bj p) {x y:Int}:Fz (Uu p (some X) y) x↔((Gz p (some X)).flatMap (IX y)).countP (fun c=>decide (c<=x)) % 2=1/\¬ Fz ((Gz p (some X)).flatMap (Q5 y)) x/\¬ Fz (aS p (some X) y) x:=by
 obtain ⟨o1,o2⟩:=h.amB hX x y;have hs:=aBj ((Gz p (some X)).flatMap (IX y));have hodd:Fz (Jj (aQ ((Gz p (some X)).flatMap (IX y)))) x↔((Gz p (some X)).flatMap (IX y)).countP (fun c=>decide (c<=x)) % 2=1:=by
  rw [<- hs.1.countP_eq];exact akf x _ _ rfl hs.2 (by rw [hs.1.length_eq];exact o1)
 have hm:=(aeQ _ _ (oD (Jj (aQ ((Gz p (some X)).flatMap (IX y))))).1 (oD ((Gz p (some X)).flatMap (Q5 y)++aS p (some X) y)).1).2.2 x
 show Fz (OO _ _) x↔_
 rw [hm,(oD _).2,(oD _).2,hodd,Um,not_or]
theorem Valid.amH {X:List Int} (hX:X∈Bj p) {q:Pt×Pt} (hq:q∈Gz p (some X)):q∈jc p:=by
 obtain ⟨a,ha,-,k,hk,rfl⟩:=h.avf hX hq;refine GY.2 ⟨a,ha,?_⟩;unfold Ei;exact EM.2 ⟨k,F5.2 AB,rfl⟩
theorem Valid.avk {X:List Int} (hX:X∈Bj p) {x y:Int} (hb:∀ b∈eF p y,b<x):¬ Fz (Uu p (some X) y) x:=fun g=>by
 have hm:=(af8 p y).2;have g1:=((h.amG hX).1 g).1;have e1:((Gz p (some X)).flatMap (IX y)).countP (fun c=>decide (c<=x))=((Gz p (some X)).flatMap (IX y)).length:=by
  rw [List.countP_eq_length];intro c hc;obtain ⟨q,hq,g⟩:=GY.1 hc;have:=hb c ((hm c).2 (.inl ⟨q,h.amH hX hq,amF g⟩))
  simp only [E8];omega
 rw [e1,(h.amB hX x y).1] at g1
 cases g1
theorem Valid.avl {X:List Int} (hX:X∈Bj p) {x y:Int} (hb:∀ b∈eF p y,x<b):¬ Fz (Uu p (some X) y) x:=fun g=>by
 have hm:=(af8 p y).2;have g1:=((h.amG hX).1 g).1;have e1:((Gz p (some X)).flatMap (IX y)).countP (fun c=>decide (c<=x))=0:=by
  rw [aAF];intro c hc;obtain ⟨q,hq,g⟩:=GY.1 hc;have:=hb c ((hm c).2 (.inl ⟨q,h.amH hX hq,amF g⟩))
  simp only [E8];omega
 rw [e1] at g1
 cases g1
theorem Valid.amI {x y:Int} (hx:x∈eF p y):Bg ⟨x,y⟩=true/\N9 ⟨x,y⟩:=by
 have hbig:N9 ⟨x,y⟩:=by
  rcases ((af8 p y).2 x).1 hx with ⟨q,hq,g⟩ | ⟨n,hn,e1,e2⟩
  ·obtain ⟨a,ha,hq⟩:=GY.1 hq;obtain ⟨k,hk,rfl⟩:=EM.1 (show q∈(List.range ((AV p a).length-1)).map _ from hq);rw [F5] at hk;have b1:=h.aa5 ha (k:=k) AB;have b2:=h.aa5 ha (k:=k+1) AB;have:=avh g
   unfold N9 at *;simp only at *;omega
  ·have:=h.akd hn
   unfold N9 at *;simp only;omega
 refine ⟨?_,hbig⟩;unfold Bg N9 at *;simp only [Em,E8];simp only at hbig;omega
theorem Valid.amJ {X:List Int} (hX:X∈Bj p) {x y:Int} (g:Fz (Uu p (some X) y) x):Bg ⟨x,y⟩=true:=by
 have hbx:∃ a∈eF p y,a<=x:=MZ fun c=>h.avl hX (fun b hb=>Int.not_le.1 fun g=>c ⟨b,hb,g⟩) g;have hby:∃ a∈eF p y,x<=a:=MZ fun c=>h.avk hX (fun b hb=>Int.not_le.1 fun g=>c ⟨b,hb,g⟩) g;obtain ⟨a,ha,ha'⟩:=hbx;obtain ⟨b,hb,hb'⟩:=hby;have g1:=(h.amI ha).2;have g2:=(h.amI hb).2;unfold N9 at g1 g2;unfold Bg;simp only [Em,E8];simp only at g1 g2;omega
end
