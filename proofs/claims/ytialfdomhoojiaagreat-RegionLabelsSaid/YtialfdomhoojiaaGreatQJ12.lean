import Derived.Test.YtialfdomhoojiaaGreatQJ11
set_option linter.unusedSimpArgs false
set_option linter.unusedVariables false
namespace Go.Proofs.YtialfdomhoojiaaGreat
open Go.RowKit
theorem jF {o a b:Pt} (h:Ef o a b):¬ Ef o b a:=by
 unfold Ef OJ at *;rw [KP (b.x-o.x),KP (b.y-o.y)];rcases h with ⟨h1,h2⟩ | ⟨h1,h2⟩
 ·rintro (⟨h3,h4⟩ | ⟨h3,h4⟩)
  · exact h1 h4
  · exact h1 (h3.1 h2)
 ·rintro (⟨h3,h4⟩ | ⟨h3,h4⟩)
  · exact h3 (h1.1 h4)
  · omega
theorem apw (o a:Pt):¬ Ef o a a:=fun h=>jF h h
def Pe (v u a b:Pt):Int:=NK a b v+(if a=v/\Ef v b u then 1 else 0)-(if b=v/\Ef v a u then 1 else 0)
def bP (v u a b:Pt):Int:=NK a b v-(if a=v/\Ef v u b then 1 else 0)+(if b=v/\Ef v u a then 1 else 0)
def LM (p:Pl) (z:Int->Int) (v u:Pt):Int:=Dn p z (Pe v u)
def Ot (p:Pl) (z:Int->Int) (v u:Pt):Int:=Dn p z (bP v u)
theorem ahp (v u a b:Pt):Pe v u b a=-Pe v u a b:=by unfold Pe;rw [acf];omega
theorem apx (v u a b:Pt):bP v u b a=-bP v u a b:=by unfold bP;rw [acf];omega
def zD (z:Int->Int) (d:Int):Int:=if 0<d then z d else -z (-d)
def TU (φ:Pt->Int) (v a b:Pt):Int:=(if a=v then φ b else 0)-(if b=v then φ a else 0)
def ind (P:Prop) [Decidable P] : Int:=if P then 1 else 0
theorem apM (v u w a b:Pt):bP v u a b-Pe v w a b=-TU (fun x=>ind (Ef v u x)+ind (Ef v x w)) v a b:=by
 unfold bP Pe TU ind;by_cases h1:a=v<;>by_cases h2:b=v<;>simp only [h1,h2,true_and,false_and,if_true,if_false]<;>omega
theorem xq (p:Pl) (z:Int->Int) (v u w:Pt):Ot p z v u-LM p z v w=-Dn p z (TU (fun x=>ind (Ef v u x)+ind (Ef v x w)) v):=by
 unfold Ot LM;rw [<- ahl,<- ahk];refine xk fun a _ k _=>apM _ _ _ _ _
section
variable {p:Pl} (h:Valid p)
include h
theorem Valid.ahq {z:Int->Int} (hz:Fz p z) {c:Ar} (hc:c∈p.AP) {m:Nat} (hm:m+1<(AV p c).length) {s t:Pt}
  (he:(s=(AV p c).getD m AY/\t=(AV p c).getD (m+1) AY)\/(t=(AV p c).getD m AY/\s=(AV p c).getD (m+1) AY)) (hst:hY s<hY t):LM p z s t=Ot p z t s:=by
 have hd:LM p z s t-Ot p z t s=Dn p z (fun a b=>vX s t b-vX s t a):=by
  unfold Ot LM;rw [<- ahl];refine xk fun a ha k hk=>?_;have na:=h.Dj ha (k:=k) AB;have nb:=h.Dj ha (k:=k+1) hk;have n1:=h.Dj hc (k:=m) AB;have n2:=h.Dj hc (k:=m+1) hm;have hne:=(h.distinct ha hk).1;have NM:=fun h1 h2 h3 h4=>h.ach ha hc hk hm h1 h2 h3 h4;generalize (AV p a).getD k AY=x at *;generalize (AV p a).getD (k+1) AY=y at *;generalize (AV p c).getD m AY=e at *;generalize (AV p c).getD (m+1) AY=f at *;have ns:C9 s=true:=by rcases he with ⟨rfl,-⟩ | ⟨-,rfl⟩<;>assumption
  have nt:C9 t=true:=by rcases he with ⟨-,rfl⟩ | ⟨rfl,-⟩<;>assumption
  have xu:x≠s->x≠t->y≠s->y≠t->MV x y s t:=fun h1 h2 h3 h4=>by
   rcases he with ⟨rfl,rfl⟩ | ⟨rfl,rfl⟩
   · exact NM h1 h2 h3 h4
   · exact (NM h2 h1 h4 h3).comm.flip.comm
  rcases Ik (hY x) (hY y) with h1 | h1 | h1
  ·have:=ahi na nb ns nt h1 hst xu
   unfold Pe bP;omega
  · exact absurd (MS na nb h1) hne
  ·have:=ahi nb na ns nt h1 hst (fun h1 h2 h3 h4=>(xu h3 h4 h1 h2).flip)
   have e1:=ahp s t x y;have e2:=apx t s x y;unfold Pe at e1 ⊢;unfold bP at e2 ⊢;omega
 rw [h.oD hz] at hd;omega
theorem Valid.acj {a:Ar} (ha:a∈p.AP) {j:Nat} (h0:0<j) (hj:j+1<(AV p a).length) {b:Ar} (hb:b∈p.AP) {k:Nat} (hk:k<(AV p b).length) (e:(AV p b).getD k AY=(AV p a).getD j AY):b=a/\k=j:=by
 have hla:=Ey p a;have hlb:=Ey p b;obtain ⟨i,rfl⟩:∃ i,j=i+1:=⟨j-1,AB⟩;have hi:i<a.via.length:=by omega
 rw [bC p a i hi] at e;have hk0:k≠0:=by
  rintro rfl;obtain ⟨n,hn,-,e2⟩:=h.sound.Xk hb;rw [Wp,e2] at e;exact h.adI ha hi hn e.symm
 have hk1:k≠(AV p b).length-1:=by
  rintro rfl;obtain ⟨n,hn,-,e2⟩:=h.sound.Yj hb;rw [Wx,e2] at e;exact h.adI ha hi hn e.symm
 obtain ⟨l,rfl⟩:∃ l,k=l+1:=⟨k-1,AB⟩;have hl:l<b.via.length:=by omega
 rw [bC p b l hl] at e;by_cases hab:b=a
 ·subst hab;refine ⟨rfl,?_⟩;rcases PN l i with h1 | h1 | h1
  · exact absurd e (h.ai1 hb h1 hi)
  · omega
  · exact absurd e.symm (h.ai1 hb h1 hl)
 ·exfalso;have hpw:=h.aq2;obtain ⟨x,hx,rfl⟩:=EF.1 ha;obtain ⟨y,hy,rfl⟩:=EF.1 hb;rw [Fa] at hpw;rcases PN x y with h1 | h1 | h1
  · exact hpw x y hx hy h1 _ (BO hi) _ (BO hl) e.symm
  · subst h1;exact hab rfl
  · exact hpw y x hy hx h1 _ (BO hl) _ (BO hi) e
theorem Valid.ahr {n m:Nd} (hn:n∈p.nodes) (hm:m∈p.nodes) (e:n.pt=m.pt):n=m:=by
 have hpw:=(apv _).1 h.dup;rw [I5,Fa] at hpw;obtain ⟨i,hi,rfl⟩:=EF.1 hn;obtain ⟨j,hj,rfl⟩:=EF.1 hm;rcases PN i j with h1 | h1 | h1
 · exact absurd e (hpw i j hi hj h1)
 · subst h1;rfl
 · exact absurd e.symm (hpw j i hj hi h1)
theorem Valid.aB3 {n:Nd} (hn:n∈p.nodes) {b:Ar} (hb:b∈p.AP) {k:Nat} (hk:k<(AV p b).length) (e:(AV p b).getD k AY=n.pt):(k=0/\b.fr=n.id)\/(k=(AV p b).length-1/\b.dst=n.id):=by
 have hlb:=Ey p b;by_cases hk0:k=0
 ·subst hk0;obtain ⟨m,hm,e1,e2⟩:=h.sound.Xk hb;rw [Wp,e2] at e
  left;exact ⟨rfl,by rw [<- e1,h.ahr hm hn e]⟩
 ·by_cases hk1:k=(AV p b).length-1
  ·subst hk1;obtain ⟨m,hm,e1,e2⟩:=h.sound.Yj hb;rw [Wx,e2] at e
   right;exact ⟨rfl,by rw [<- e1,h.ahr hm hn e]⟩
  ·exfalso;obtain ⟨l,rfl⟩:∃ l,k=l+1:=⟨k-1,AB⟩;have hl:l<b.via.length:=by omega
   rw [bC p b l hl] at e;exact h.adI hb hl hn e
theorem Valid.aB4 (z:Int->Int) (φ:Pt->Int) {a:Ar} (ha:a∈p.AP) {j:Nat} (h0:0<j) (hj:j+1<(AV p a).length) :
  Dn p z (TU φ ((AV p a).getD j AY))=z a.id*(φ ((AV p a).getD (j+1) AY)-φ ((AV p a).getD (j-1) AY)):=by
 have key:∀ b∈p.AP,J4 (TU φ ((AV p a).getD j AY)) (AV p b)=if b=a then φ ((AV p a).getD (j+1) AY)-φ ((AV p a).getD (j-1) AY) else 0:=by
  intro b hb;unfold J4 TU;simp only [aas];rw [Sz,Uo];rw [xZ _ j _ (fun k hk hkj=>AX (fun e=>hkj (h.acj ha h0 hj hb AB e).2))];rw [xZ _ (j-1) _ (fun k hk hkj=>AX (fun e=>hkj (by have:=(h.acj ha h0 hj hb AB e).2;omega)))];by_cases hab:b=a
  ·subst hab;rw [AZ rfl,AZ AB,AZ AB,AZ rfl,show j-1+1=j by omega,AZ rfl]
  ·rw [AX hab];have e1:∀ k,k<(AV p b).length->¬ (AV p b).getD k AY=(AV p a).getD j AY:=fun k hk e=>hab (h.acj ha h0 hj hb hk e).1;by_cases h1:j<(AV p b).length-1
   · rw [AZ h1,AX (e1 j AB),AZ AB,AX (e1 (j-1+1) AB)];rfl
   ·rw [AX h1];by_cases h2:j-1<(AV p b).length-1
    · rw [AZ h2,AX (e1 (j-1+1) AB)];rfl
    · rw [AX h2];rfl
 unfold Dn;rw [Hu _ _ (fun b:Ar=>if a.id=b.id then z b.id*(φ ((AV p a).getD (j+1) AY)-φ ((AV p a).getD (j-1) AY)) else 0) (fun b hb=>by
  rw [key b hb];by_cases hab:b=a
  · subst hab;rw [AZ rfl,AZ rfl]
  · rw [AX hab,AX (fun e=>hab (h.ai7 hb ha e.symm)),KQ])]
 exact xg p.AP (·.id) h.sound.AP (fun i=>z i*(φ ((AV p a).getD (j+1) AY)-φ ((AV p a).getD (j-1) AY))) a.id ⟨a,ha,rfl⟩
theorem Valid.acn (z:Int->Int) (φ:Pt->Int) {n:Nd} (hn:n∈p.nodes):Dn p z (TU φ n.pt)=((Dl p.AP n.id).map fun d=>zD z d*φ (Dy p d)).sum:=by
 have key:∀ b∈p.AP,z b.id*J4 (TU φ n.pt) (AV p b)=(((if b.fr=n.id then [b.id] else [])++(if b.dst=n.id then [-b.id] else [])).map fun d=>zD z d*φ (Dy p d)).sum:=by
  intro b hb;have hlb:=Ey p b;have hid:=h.Gx hb;have hfd:=h.find hb;have t1:Dy p b.id=(AV p b).getD 1 AY:=h.jV hb;have t2:Dy p (-b.id)=(AV p b).getD b.via.length AY:=h.bF hb;have z1:zD z b.id=z b.id:=by unfold zD;rw [AZ AB]
  have z2:zD z (-b.id)=-z b.id:=by unfold zD;rw [AX AB,Oj]
  have hs:J4 (TU φ n.pt) (AV p b)=(if b.fr=n.id then φ ((AV p b).getD 1 AY) else 0)-(if b.dst=n.id then φ ((AV p b).getD b.via.length AY) else 0):=by
   have f1:(AV p b).getD 0 AY=n.pt↔b.fr=n.id:=by
    constructor
    ·intro e;rcases h.aB3 hn hb AB e with ⟨-,e⟩ | ⟨e,-⟩
     · exact e
     · omega
    ·intro e;rw [Wp,e];exact h.sound.QN hn
   have f2:(AV p b).getD (b.via.length+1) AY=n.pt↔b.dst=n.id:=by
    have e1:=Wx p b;rw [hlb,show b.via.length+2-1=b.via.length+1 by omega] at e1;constructor
    ·intro e;rcases h.aB3 hn hb AB e with ⟨e,-⟩ | ⟨-,e⟩
     · omega
     · exact e
    ·intro e;rw [e1,e];exact h.sound.QN hn
   unfold J4 TU;simp only [aas];rw [Sz,Uo];rw [xZ _ 0 _ (fun k hk hkj=>AX (fun e=>by rcases h.aB3 hn hb AB e with ⟨e,-⟩ | ⟨e,-⟩<;>omega))];rw [xZ _ b.via.length _ (fun k hk hkj=>AX (fun e=>by rcases h.aB3 hn hb AB e with ⟨e,-⟩ | ⟨e,-⟩<;>omega))];rw [AZ (show 0<(AV p b).length-1 by omega),AZ (show b.via.length<(AV p b).length-1 by omega)];simp only [f1,f2]
  rw [hs,GI,O7];by_cases c1:b.fr=n.id<;>by_cases c2:b.dst=n.id<;>simp only [c1,c2,if_true,if_false,FM,QD,IJ,YH,t1,t2,z1,z2]<;>grind
 unfold Dn Dl;rw [Hu _ _ _ key];generalize p.AP=l
 induction l with
 | nil=>rfl
 | cons b l ih=>rw [FM,IJ,KI,ih];simp only [GI,O7]
theorem Valid.ahs {z:Int->Int} (hz:Fz p z) {n:Nd} (hn:n∈p.nodes):((Dl p.AP n.id).map fun d=>zD z d).sum=0:=by
 have h1:=hz n hn;have e:((Dl p.AP n.id).map fun d=>zD z d).sum=-(p.AP.map fun a=>z a.id*((if a.dst=n.id then 1 else 0)-(if a.fr=n.id then 1 else 0))).sum:=by
  have hid:∀ b∈p.AP,1<=b.id:=fun b hb=>(h.Gx hb).1;unfold Dl;generalize p.AP=l at hid
  induction l with
  | nil=>rfl
  | cons b l ih =>
   have:=hid b Ak
   have z1:zD z b.id=z b.id:=by unfold zD;rw [AZ AB]
   have z2:zD z (-b.id)=-z b.id:=by unfold zD;rw [AX AB,Oj]
   rw [FM,IJ,KI,GI,O7,ih (fun c hc=>hid c (by simp [hc]))];by_cases c1:b.fr=n.id<;>by_cases c2:b.dst=n.id<;>simp only [c1,c2,if_true,if_false,GI,O7,FM,QD,IJ,YH,z1,z2]<;>grind
 rw [e,h1];rfl
end
theorem apN {l:List Int} (hl:l.Nodup) {d:Int} (hd:d∈l) (c:Int->Int):(l.map fun x=>if x=d then c x else 0).sum=c d:=by
 induction l with
 | nil=>cases hd
 | cons a l ih =>
  rw [aAO] at hl;rw [FM,IJ];rcases EW.1 hd with rfl | hd
  · rw [AZ rfl,Wv l _ (fun x hx=>AX (by rintro rfl;exact hl.1 hx))];omega
  · rw [AX (by rintro rfl;exact hl.1 hd),ih hl.2 hd];omega
theorem apO (z:Int->Int) {d:Int} (h:d≠0):zD z (-d)=-zD z d:=by
 unfold zD;by_cases h1:0<d
 · rw [AX AB,AZ h1,Oj]
 · rw [AZ AB,AX h1,Oj]
theorem Yz (o a:Pt):ind (Ef o a a)=0:=AX (apw o a)
theorem aco {o a b:Pt} (h:Ef o a b\/Ef o b a):ind (Ef o a b)+ind (Ef o b a)=1:=by
 unfold ind;rcases h with h | h
 · rw [AZ h,AX (jF h)];rfl
 · rw [AX (jF h),AZ h];rfl
section
variable {p:Pl} (h:Valid p)
include h
theorem Valid.acp {a:Ar} (ha:a∈p.AP) {k:Nat} (hk:k+2<(AV p a).length):Ef ((AV p a).getD (k+1) AY) ((AV p a).getD k AY) ((AV p a).getD (k+2) AY)\/Ef ((AV p a).getD (k+1) AY) ((AV p a).getD (k+2) AY) ((AV p a).getD k AY):=by
 have d1:=(h.distinct ha (k:=k) AB).1;have d2:=(h.distinct ha (k:=k+1) AB).1;have n0:=h.Dj ha (k:=k) AB;have n1:=h.Dj ha (k:=k+1) AB;have n2:=h.Dj ha (k:=k+2) AB;have hap:=h.Ri.2.1 a ha k (k+1) AB AB;unfold SE at hap;rw [AZ (.inl rfl)] at hap;unfold DY at hap;simp only [beq_iff_eq] at hap;generalize (AV p a).getD k AY=u at *;generalize (AV p a).getD (k+1) AY=o at *;rw [show k+1+1=k+2 by omega] at *;generalize (AV p a).getD (k+2) AY=v at *;apply NV;intro hno;obtain ⟨-,r2,-,-⟩:=ai2 n1 n0 n2 d1 (fun e=>d2 e.symm) (fun e=>hno (.inl e)) (fun e=>hno (.inr e));rw [r2] at hap;exact absurd hap Aw
theorem Valid.apP (z:Int->Int) {a:Ar} (ha:a∈p.AP) {k:Nat} (hk:k+2<(AV p a).length):Ot p z ((AV p a).getD (k+1) AY) ((AV p a).getD (k+2) AY)-LM p z ((AV p a).getD (k+1) AY) ((AV p a).getD (k+2) AY)=z a.id:=by
 rw [xq,h.aB4 z _ ha (j:=k+1) AB hk,show k+1-1=k by omega,show k+1+1=k+2 by omega,Yz,aco (h.acp ha hk).symm]
 grind
theorem Valid.aht (z:Int->Int) {a:Ar} (ha:a∈p.AP) {k:Nat} (hk:k+2<(AV p a).length):Ot p z ((AV p a).getD (k+1) AY) ((AV p a).getD k AY)-LM p z ((AV p a).getD (k+1) AY) ((AV p a).getD k AY)=-z a.id:=by
 rw [xq,h.aB4 z _ ha (j:=k+1) AB hk,show k+1-1=k by omega,show k+1+1=k+2 by omega,Yz,aco (h.acp ha hk)]
 grind
theorem Valid.apQ (z:Int->Int) {a:Ar} (ha:a∈p.AP) {k:Nat} (hk:k+2<(AV p a).length):Ot p z ((AV p a).getD (k+1) AY) ((AV p a).getD k AY)=LM p z ((AV p a).getD (k+1) AY) ((AV p a).getD (k+2) AY):=by
 have e:=xq p z ((AV p a).getD (k+1) AY) ((AV p a).getD k AY) ((AV p a).getD (k+2) AY);rw [h.aB4 z _ ha (j:=k+1) AB hk,show k+1-1=k by omega,show k+1+1=k+2 by omega,Yz,Yz,iC,Int.zero_add,aAK,KQ] at e;omega
theorem Valid.oG {z:Int->Int} (hz:Fz p z) {n:Nd} (hn:n∈p.nodes) {d:Int} (hd:d∈Dl p.AP n.id):Ot p z n.pt (Dy p d)-LM p z n.pt (Dy p d)=zD z d:=by
 rw [xq,h.acn z _ hn];have h0:=h.ahs hz hn;have h1:=apN (h.adO (n:=n.id)) hd (fun x=>zD z x);have e:((Dl p.AP n.id).map fun x=>zD z x*(ind (Ef n.pt (Dy p d) (Dy p x))+ind (Ef n.pt (Dy p x) (Dy p d)))).sum=((Dl p.AP n.id).map fun x=>zD z x + -(if x=d then zD z x else 0)).sum:=by
  refine Hu _ _ _ fun x hx=>?_;by_cases hxd:x=d
  ·subst hxd;rw [Yz,AZ rfl];omega
  · rw [aco (h.dirs hn hd hx (fun e=>hxd e.symm)),AX hxd];omega
 rw [e,Sz,Uo,h0,h1];omega
theorem Valid.ahu {n:Nd} (hn:n∈p.nodes) {i j:Nat} (hij:i<j) (hj:j<(DL p n.id).length):Ef n.pt (Dy p ((DL p n.id)[i]'(by omega))) (Dy p (DL p n.id)[j]):=by
 have hmem:∀ {x:Int},x∈DL p n.id->x∈Dl p.AP n.id:=fun hx=>(h.NI hn).subset hx;have hs:=(jB (h.wK hn)).2;rw [<- h.aAy hn,Fa] at hs;have h1:=hs i j AB hj hij;have hne:(DL p n.id)[i]≠(DL p n.id)[j]:=fun e=>by
  have hnd:=h.bI hn;rw [sH,Fa] at hnd;exact hnd i j AB hj hij e
 have m1:=hmem (BO (show i<(DL p n.id).length by omega));have m2:=hmem (BO hj);rcases h.dirs hn m1 m2 hne with h2 | h2
 · exact h2
 ·exfalso;obtain ⟨n0,n1,x1⟩:=h.jW hn m1;obtain ⟨-,n2,x2⟩:=h.jW hn m2;unfold ltD at h1;rw [(abg _ _ _).2 ⟨by simp [EN,n0,n1,n2],x2,x1,h2⟩] at h1
  cases h1
theorem Valid.apR {z:Int->Int} (hz:Fz p z) {n:Nd} (hn:n∈p.nodes) {d:Int} (hd:d∈DL p n.id):Ot p z n.pt (Dy p (precD (DL p n.id) d))=LM p z n.pt (Dy p d):=by
 have hnd:=h.bI hn;have hp:=h.NI hn;have hso:=fun {i j:Nat}=>h.ahu hn (i:=i) (j:=j);have e:=xq p z n.pt (Dy p (precD (DL p n.id) d)) (Dy p d);rw [h.acn z _ hn] at e;have h0:=h.ahs hz hn;obtain ⟨i,hi,rfl⟩:=EF.1 hd;rw [jC hnd hi] at e ⊢;have aB5:∀ i j (hi:i<(DL p n.id).length) (hj:j<(DL p n.id).length),ind (Ef n.pt (Dy p (DL p n.id)[i]) (Dy p (DL p n.id)[j]))=if i<j then 1 else 0:=by
  intro i j hi hj;rcases PN i j with h1 | h1 | h1
  · rw [AZ h1];exact AZ (hso h1 hj)
  · subst h1;rw [AX AB];exact Yz _ _
  · rw [AX AB];exact AX (jF (hso h1 hi))
 have hc:∃ c:Int,∀ x∈Dl p.AP n.id,ind (Ef n.pt (Dy p ((DL p n.id)[(i+(DL p n.id).length-1) % (DL p n.id).length]'(UC _ AB))) (Dy p x))+ind (Ef n.pt (Dy p x) (Dy p (DL p n.id)[i]))=c:=by
  by_cases h1:i=0
  ·refine ⟨0,fun x hx=>?_⟩;obtain ⟨j,hj,rfl⟩:=EF.1 (hp.symm.subset hx);have hm:(i+(DL p n.id).length-1) % (DL p n.id).length=(DL p n.id).length-1:=by rw [h1];rw [Qm];exact XP AB
   rw [aB5 _ _ (UC _ AB) hj,aB5 j i hj hi,AX AB,AX AB];rfl
  ·refine ⟨1,fun x hx=>?_⟩;obtain ⟨j,hj,rfl⟩:=EF.1 (hp.symm.subset hx);have hm:(i+(DL p n.id).length-1) % (DL p n.id).length=i-1:=by rw [show i+(DL p n.id).length-1=i-1+(DL p n.id).length by omega,aAJ];exact XP AB
   rw [aB5 _ _ (UC _ AB) hj,aB5 j i hj hi];by_cases h2:j<i
   · rw [AX AB,AZ h2];rfl
   · rw [AZ AB,AX h2];rfl
 obtain ⟨c,hc⟩:=hc;rw [Hu _ _ (fun x=>c*zD z x) (fun x hx=>by rw [hc x hx,KP]),YT,h0,KQ] at e;omega
theorem Valid.acr {z:Int->Int} (hz:Fz p z) {a:Ar} (ha:a∈p.AP) {m:Nat} (hm:m+1<(AV p a).length):LM p z ((AV p a).getD m AY) ((AV p a).getD (m+1) AY)=Ot p z ((AV p a).getD (m+1) AY) ((AV p a).getD m AY):=by
 have hl:=Ey p a;have hid:=(h.Gx ha).1;have hne:=(h.distinct ha hm).1;have n1:=h.Dj ha (k:=m) AB;have n2:=h.Dj ha (k:=m+1) hm;have j1:Ot p z ((AV p a).getD m AY) ((AV p a).getD (m+1) AY)-LM p z ((AV p a).getD m AY) ((AV p a).getD (m+1) AY)=z a.id:=by
  by_cases h0:m=0
  ·subst h0;obtain ⟨n,hn,e1,e2⟩:=h.sound.Xk ha;have:=h.oG hz hn (d:=a.id) (Rl.2 ⟨a,ha,.inl ⟨rfl,e1.symm⟩⟩)
   rw [h.jV ha] at this;rw [Wp,e2,this];unfold zD;rw [AZ AB]
  ·obtain ⟨k,rfl⟩:∃ k,m=k+1:=⟨m-1,AB⟩;exact h.apP z ha hm
 have j2:Ot p z ((AV p a).getD (m+1) AY) ((AV p a).getD m AY)-LM p z ((AV p a).getD (m+1) AY) ((AV p a).getD m AY)=-z a.id:=by
  by_cases h0:m+1=(AV p a).length-1
  ·obtain ⟨n,hn,e1,e2⟩:=h.sound.Yj ha;have:=h.oG hz hn (d:=-a.id) (Rl.2 ⟨a,ha,.inr ⟨rfl,e1.symm⟩⟩)
   rw [h.bF ha,show a.via.length=m by omega] at this;rw [h0,Wx,e2,this];unfold zD;rw [AX AB,Oj]
  · exact h.aht z ha AB
 rcases Ik (hY ((AV p a).getD m AY)) (hY ((AV p a).getD (m+1) AY)) with h1 | h1 | h1
 · exact h.ahq hz ha hm (.inl ⟨rfl,rfl⟩) h1
 · exact absurd (MS n1 n2 h1) hne
 ·have:=h.ahq hz ha hm (.inr ⟨rfl,rfl⟩) h1
  omega
theorem Valid.aB6 {z:Int->Int} (hz:Fz p z) {a:Ar} (ha:a∈p.AP):∀ (m:Nat),m+1<(AV p a).length->LM p z ((AV p a).getD 0 AY) ((AV p a).getD 1 AY)=Ot p z ((AV p a).getD (m+1) AY) ((AV p a).getD m AY)
 | 0,hm=>h.acr hz ha hm
 | m+1,hm=>by
  rw [Valid.aB6 hz ha m AB,h.apQ z ha (k:=m) AB];exact h.acr hz ha (m:=m+1) hm
end
def Hz (p:Pl) (z:Int->Int) (d:Int):Int:=Ot p z (nodeAt p (Kq p d)) (Dy p d)
section
variable {p:Pl} (h:Valid p)
include h
theorem Valid.Xo {z:Int->Int} (hz:Fz p z) {a:Ar} (ha:a∈p.AP):Hz p z a.id-Hz p z (-a.id)=z a.id:=by
 have hl:=Ey p a;have hid:=(h.Gx ha).1;have h1:=h.aB6 hz ha a.via.length AB;have h2:(AV p a).getD (a.via.length+1) AY=nodeAt p a.dst:=by
  have:=Wx p a
  rwa [hl,show a.via.length+2-1=a.via.length+1 by omega] at this
 unfold Hz;rw [h.aBb ha,h.wJ ha,h.jV ha,h.bF ha];rw [h2,Wp] at h1;obtain ⟨n,hn,e1,e2⟩:=h.sound.Xk ha;have:=h.oG hz hn (d:=a.id) (Rl.2 ⟨a,ha,.inl ⟨rfl,e1.symm⟩⟩)
 rw [h.jV ha,<- e2] at this;unfold zD at this;rw [AZ AB] at this;omega
theorem Valid.apS {d:Int} (hd:d∈Bh p):d≠0:=by
 obtain ⟨a,ha,e⟩:=Iq.1 hd;have:=h.Gx ha
 omega
theorem Valid.ahv {z:Int->Int} (hz:Fz p z) {d:Int} (hd:d∈Bh p):Hz p z d-Hz p z (-d)=zD z d:=by
 obtain ⟨a,ha,e⟩:=Iq.1 hd;have hid:=(h.Gx ha).1;have:=h.Xo hz ha
 rcases e with rfl | rfl
 · rw [this];unfold zD;rw [AZ AB]
 · rw [Oj];unfold zD;rw [AX AB,Oj];omega
theorem Valid.apT {z:Int->Int} (hz:Fz p z) {d:Int} (hd:d∈Bh p):Hz p z (FH p d)=Hz p z d:=by
 obtain ⟨n,hn,e1,hm,hx⟩:=h.ng hd;have hs:=(h.QT hd).2;have j:=h.oG hz hn ((h.NI hn).subset hm);have t:=h.apR hz hn hm;have k:=h.ahv hz hd;have en:nodeAt p (Kq p (-d))=n.pt:=by rw [<- e1];exact h.sound.QN hn
 have z1:=apO z (h.apS hd);unfold Hz at k ⊢;rw [hs,en,hx,t];rw [en] at k;omega
end
set_option linter.unusedSectionVars false
def mrg (r:Int->Int) (a b x:Int):Int:=if r x=r a then r b else r x
structure y7 (U:List Int) (r:Int->Int):Prop where
 mem:∀ x∈U,r x∈U
 idem:∀ x∈U,r (r x)=r x
def ahw (U:List Int) (r:Int->Int):Nat:=(U.filter (fun x=>decide (r x=x))).length
theorem y7.mrg {U:List Int} {r:Int->Int} (h:y7 U r) {a b:Int} (hb:b∈U):y7 U (mrg r a b):=by
 constructor
 ·intro x hx;unfold Go.Proofs.YtialfdomhoojiaaGreat.mrg;split
  · exact h.mem b hb
  · exact h.mem x hx
 ·intro x hx;unfold Go.Proofs.YtialfdomhoojiaaGreat.mrg;by_cases e:r x=r a
  ·rw [AZ e,h.idem b hb];split<;>rfl
  · rw [AX e,h.idem x hx,AX e]
def NP (p:Pl) (k:Nat) (x:Int):Int:=pw (U1 p k).1 x (p.AP.length+1)
def Ro (p:Pl) (k:Nat) (a:Ar):Prop:=NP p k a.fr≠NP p k a.dst
instance (p:Pl) (k:Nat) (a:Ar):Decidable (Ro p k a):=by unfold Ro;infer_instance
section
variable {p:Pl} (h:Valid p)
include h
theorem Valid.ahx {k:Nat} (hk:k<p.AP.length):(NP p (k+1)=if Ro p k p.AP[k] then mrg (NP p k) p.AP[k].fr p.AP[k].dst else NP p k)/\(U1 p (k+1)).2=(U1 p k).2-(if Ro p k p.AP[k] then 1 else 0):=by
 have ho:=aps h k AB;by_cases ht:Ro p k p.AP[k]
 ·rw [AZ ht,AZ ht];unfold Ro NP at ht;unfold NP;rw [adW p k hk];unfold vW;rw [AX ht];refine ⟨?_,rfl⟩;have hr:∀ x,(U1 p k).1 (pw (U1 p k).1 x (p.AP.length+1))=pw (U1 p k).1 x (p.AP.length+1):=ho.flat.more AB;obtain ⟨h1,h2⟩:=ahb ho.flat (hr p.AP[k].fr) (hr p.AP[k].dst) ht
  funext x
  show pw (Lh _ _ _) x (p.AP.length+1)=mrg _ _ _ x
  rw [h1.eq (M:=p.AP.length+1) AB,h2 x];unfold mrg;simp only;rw [<- ho.flat.eq (M:=p.AP.length+1) AB x]
 ·rw [AX ht,AX ht];unfold Ro NP at ht;unfold NP;rw [adW p k hk];unfold vW;rw [AZ (NV ht)];exact ⟨rfl,AB⟩
theorem Valid.apU {k j:Nat} (hkj:k<=j) (hj:j<=p.AP.length) {x y:Int} (e:NP p k x=NP p k y):NP p j x=NP p j y:=by
 induction j with
 | zero =>
  have:k=0:=by omega
  subst this;exact e
 | succ j ih =>
  by_cases h1:k=j+1
  · subst h1;exact e
  ·have e2:=ih AB AB;rw [(h.ahx (k:=j) AB).1];split
   · unfold mrg;rw [e2]
   · exact e2
theorem Valid.apV {k j:Nat} (hj:j<k) (hk:k<=p.AP.length):NP p k (p.AP[j]'(by omega)).fr=NP p k (p.AP[j]'(by omega)).dst:=by
 refine h.apU (k:=j+1) AB hk ?_;rw [(h.ahx (k:=j) AB).1];split
 ·unfold mrg;rw [AZ rfl];split<;>rfl
 ·rename_i ht;unfold Ro at ht;exact NV ht
end
def bdC (p:Pl) (c:Int->Int) (n:Int):Int:=(p.AP.map fun a=>c a.id*((if a.dst=n then 1 else 0)-(if a.fr=n then 1 else 0))).sum
section
variable {p:Pl} (h:Valid p)
include h
theorem Valid.ahy {g:Int->Int} (hg:Fz p g) (h0:∀ j (hj:j<p.AP.length),¬ Ro p j p.AP[j]->g p.AP[j].id=0):∀ (k:Nat),k<=p.AP.length->(∀ j (hj:j<p.AP.length),k<=j->g p.AP[j].id=0)->∀ j (hj:j<p.AP.length),g p.AP[j].id=0
 | 0,_,hz,j,hj=>hz j hj AB
 | k+1,hk,hz,j,hj=>by
  refine Valid.ahy hg h0 k AB (fun j hj hkj=>?_) j hj;by_cases hjk:j=k
  ·subst hjk;by_cases ht:Ro p j p.AP[j]
   ·have hs:=h.ahm hg (fun x=>if NP p j x=NP p j p.AP[j].fr then 1 else 0);have e:(p.AP.map fun a=>g a.id*((if NP p j a.dst=NP p j p.AP[j].fr then (1:Int) else 0)-(if NP p j a.fr=NP p j p.AP[j].fr then 1 else 0))).sum=(p.AP.map fun a=>if p.AP[j].id=a.id then -g a.id else 0).sum:=by
     refine Hu _ _ _ fun a ha=>?_;obtain ⟨i,hi,rfl⟩:=EF.1 ha;rcases PN i j with h3 | h3 | h3
     ·have hne:¬ p.AP[j].id=p.AP[i].id:=fun e=>by
       have hpw:=h.sound.AP;rw [I5,Fa] at hpw;have:=hpw i j hi hj h3;omega
      rw [AX hne,h.apV h3 AB,aAK,KQ]
     ·subst h3;rw [AZ rfl,AZ rfl];unfold Ro at ht;rw [AX (fun e=>ht e.symm)];omega
     ·have hne:¬ p.AP[j].id=p.AP[i].id:=fun e=>by
       have hpw:=h.sound.AP;rw [I5,Fa] at hpw;have:=hpw j i hj hi h3;omega
      rw [AX hne,hz i hi AB,Jf]
    rw [e,xg p.AP (·.id) h.sound.AP (fun i=>-g i) p.AP[j].id ⟨_,BO hj,rfl⟩] at hs;omega
   · exact h0 j hj ht
  · exact hz j hj AB
end
set_option linter.unusedSectionVars false
def Pg (L:List (List Int)) (d:Int):Int:=match L.find? (fun c=>decide (d∈c)) with
 | some c=>c.headD 0
 | none=>d
def Cb (p:Pl):Nat->Int->Int
 | 0=>Pg (Ce p)
 | k+1=>match p.AP[k]? with
  | some a=>if Ro p k a then Cb p k else mrg (Cb p k) a.id (-a.id)
  | none=>Cb p k
theorem aB7 {p:Pl} {k:Nat} (hk:k<p.AP.length):Cb p (k+1)=if Ro p k p.AP[k] then Cb p k else mrg (Cb p k) p.AP[k].id (-p.AP[k].id):=by
 rw [Cb,Dh hk]
section
variable {p:Pl} (h:Valid p)
include h
theorem Valid.aB8 {c c':List Int} (hc:c∈Ce p) (hc':c'∈Ce p) {y:Int} (h1:y∈c) (h2:y∈c'):c=c':=by
 have hnd:=h.Ja.nodup;rw [sH,abO] at hnd;have hpw:=hnd.2;rw [Fa] at hpw;obtain ⟨i,hi,rfl⟩:=EF.1 hc;obtain ⟨j,hj,rfl⟩:=EF.1 hc';rcases PN i j with h3 | h3 | h3
 · exact absurd rfl (hpw i j hi hj h3 _ h1 _ h2)
 · subst h3;rfl
 · exact absurd rfl (hpw j i hj hi h3 _ h2 _ h1)
theorem Valid.Ph {c:List Int} (hc:c∈Ce p):∃ x∈Bh p,c=JZ (FH p) (Bh p) x/\c.headD 0=x/\x∈c:=by
 obtain ⟨x,hx,e,-⟩:=h.Ja.oz c hc;have hf:=Ws (fun x hx=>(h.QT hx).1) (fun x hx y hy=>h.Xn hx hy) hx;refine ⟨x,hx,e,?_,by rw [e];exact ai6 hf.1⟩;rw [e];unfold JZ;obtain ⟨m,hm⟩:∃ m,LJ (FH p) (Bh p) x=m+1:=⟨LJ (FH p) (Bh p) x-1,by have:=hf.1;omega⟩;rw [hm];rfl
theorem Valid.y8 {d:Int} (hd:d∈Bh p):∃ c∈Ce p,d∈c/\Pg (Ce p) d=c.headD 0:=by
 obtain ⟨c,hc,hdc⟩:=aAP.1 (h.Ja.covers d hd);unfold Pg
 cases hf:(Ce p).find? (fun c=>decide (d∈c)) with
 | none =>
  have:=List.find?_eq_none.1 hf c hc
  simp [hdc] at this
 | some c' =>
  have h1:=List.find?_some hf;exact ⟨c',VO hf,by simpa using h1,rfl⟩
theorem Valid.head_eq {c:List Int} (hc:c∈Ce p) {d:Int} (hd:d∈Bh p) (hdc:d∈c):Pg (Ce p) d=c.headD 0:=by
 obtain ⟨c',h1,h2,h3⟩:=h.y8 hd;rw [h3,h.aB8 h1 hc h2 hdc]
theorem Valid.aqz {d:Int} (hd:d∈Bh p):Pg (Ce p) (FH p d)=Pg (Ce p) d:=by
 obtain ⟨c,h1,h2,h3⟩:=h.y8 hd;obtain ⟨x,hx,e,-,-⟩:=h.Ph h1;rw [h3];refine h.head_eq h1 (h.QT hd).1 ?_;rw [e] at h2 ⊢;exact (adK (fun x hx=>(h.QT hx).1) (fun x hx y hy=>h.Xn hx hy) hx hd).2 h2
theorem Valid.ar0 {β:Type} (H:Int->β) (hH:∀ d∈Bh p,H (FH p d)=H d) {d:Int} (hd:d∈Bh p):H (Pg (Ce p) d)=H d:=by
 obtain ⟨c,h1,h2,h3⟩:=h.y8 hd;obtain ⟨x,hx,e,e2,-⟩:=h.Ph h1;rw [h3,e2];rw [e] at h2;obtain ⟨k,-,rfl⟩:=Uk.1 h2;clear h1 h2 h3 e e2 hd
 induction k with
 | zero=>rfl
 | succ k ih =>
  show H x=H (FH p (pw (FH p) x k))
  rw [hH _ (Xl (fun x hx=>(h.QT hx).1) hx k)];exact ih
theorem Valid.ar1:y7 (Bh p) (Pg (Ce p))/\ahw (Bh p) (Pg (Ce p))=(Ce p).length:=by
 have hmem:∀ x∈Bh p,Pg (Ce p) x∈Bh p/\Pg (Ce p) (Pg (Ce p) x)=Pg (Ce p) x:=by
  intro d hd;obtain ⟨c,h1,h2,h3⟩:=h.y8 hd;obtain ⟨x,hx,e,e2,e3⟩:=h.Ph h1;rw [h3,e2];exact ⟨hx,(h.head_eq h1 hx e3).trans e2⟩
 refine ⟨⟨fun x hx=>(hmem x hx).1,fun x hx=>(hmem x hx).2⟩,?_⟩;have hnd:=h.Ja.nodup;rw [sH,abO] at hnd;have hL:((Ce p).map (fun c=>c.headD 0)).Nodup:=by
  rw [sH,I5];refine abP (fun {c c'} h1 h2 h3=>?_) hnd.2;obtain ⟨x,-,-,e2,e3⟩:=h.Ph h1;obtain ⟨y,-,-,f2,f3⟩:=h.Ph h2;rw [e2,f2];exact h3 _ e3 _ f3
 have h1:=Wq hL (m:=(Bh p).filter (fun x=>decide (Pg (Ce p) x=x))) (fun y hy=>by
  obtain ⟨c,hc,rfl⟩:=ED.1 hy;obtain ⟨x,hx,-,e2,e3⟩:=h.Ph hc;rw [e2,QE,EO];exact ⟨hx,(h.head_eq hc hx e3).trans e2⟩)
 have h2:=Wq (h.vM.filter (fun x=>decide (Pg (Ce p) x=x))) (m:=(Ce p).map (fun c=>c.headD 0)) (fun y hy=>by
  rw [QE,EO] at hy;obtain ⟨c,hc,-,e⟩:=h.y8 hy.1;exact ED.2 ⟨c,hc,by rw [<- e];exact hy.2⟩)
 rw [Cj] at h1 h2;unfold ahw;omega
theorem Valid.ahz {k:Nat} (hk:k<p.AP.length):p.AP[k].id∈Bh p/\-p.AP[k].id∈Bh p :=
 ⟨Iq.2 ⟨_,BO hk,.inl rfl⟩,Iq.2 ⟨_,BO hk,.inr rfl⟩⟩
theorem Valid.ayv (k:Nat) (hk:k<=p.AP.length):y7 (Bh p) (Cb p k):=by
 induction k with
 | zero=>exact h.ar1.1
 | succ k ih =>
  rw [aB7 (k:=k) AB];split
  · exact ih AB
  · exact (ih AB).mrg (h.ahz AB).2
theorem Valid.acs {k j:Nat} (hkj:k<=j) (hj:j<=p.AP.length) {x y:Int} (e:Cb p k x=Cb p k y):Cb p j x=Cb p j y:=by
 induction j with
 | zero =>
  have:k=0:=by omega
  subst this;exact e
 | succ j ih =>
  by_cases h1:k=j+1
  · subst h1;exact e
  ·have e2:=ih AB AB;rw [aB7 (k:=j) AB];split
   · exact e2
   · unfold mrg;rw [e2]
theorem Valid.ar2 {β:Type} (H:Int->β) (hH:∀ d∈Bh p,H (FH p d)=H d) (k:Nat) (hk:k<=p.AP.length) (h0:∀ j (hj:j<p.AP.length),j<k->¬ Ro p j p.AP[j]->H p.AP[j].id=H (-p.AP[j].id)):∀ d∈Bh p,H (Cb p k d)=H d:=by
 induction k with
 | zero=>exact fun d hd=>h.ar0 H hH hd
 | succ k ih =>
  intro d hd;have ih:=ih AB (fun j hj hjk=>h0 j hj AB);rw [aB7 (k:=k) AB];split
  · exact ih d hd
  ·rename_i ht;have hm:=h.ahz (k:=k) AB;unfold mrg;split
   ·rename_i e;rw [ih _ hm.2,<- h0 k AB AB ht,<- ih _ hm.1,<- e,ih d hd]
   · exact ih d hd
end
set_option linter.unusedSectionVars false
theorem ar4 {L:List Int} (hL:L.Nodup) (f:Int->Int):(L.map fun d=>f (precD L d)).sum=(L.map f).sum:=by
 by_cases h0:L.length=0
 ·have:L=[]:=lu h0
  subst this;rfl
 ·have e:L.map (precD L)=L[L.length-1]'(by omega)::L.take (L.length-1):=by
   refine Zq DT fun i h1 h2=>?_;rw [Cj] at h1;rw [Gp,jC hL h1]
   cases i with
   | zero =>
    rw [List.getElem_cons_zero];congr 1;rw [Qm];exact XP AB
   | succ i =>
    rw [List.getElem_cons_succ,List.getElem_take];congr 1;rw [show i+1+L.length-1=i+L.length by omega,aAJ];exact XP AB
  have e2:L.map f=(L.take (L.length-1)).map f++[f (L[L.length-1]'(by omega))]:=by
   conv=>lhs;rw [<- Zo (L.length-1) L]
   rw [GI,Ql (show L.length-1<L.length by omega),abQ AB];rfl
  rw [show (L.map fun d=>f (precD L d))=(L.map (precD L)).map f by rw [IV];rfl,e,FM,IJ,e2,O7];simp only [IJ,YH];omega
theorem aB9 {l m:List Int} (h:l.Perm m):l.sum=m.sum:=by
 induction h with
 | nil=>rfl
 | cons x _ ih=>rw [IJ,IJ,ih]
 | swap x y l=>simp only [IJ];omega
 | trans _ _ h1 h2=>exact h1.trans h2
section
variable {p:Pl} (h:Valid p)
include h
theorem Valid.ar5 (z:Int->Int) (n:Int):((Dl p.AP n).map fun d=>zD z d).sum=-bdC p z n:=by
 have hid:∀ b∈p.AP,1<=b.id:=fun b hb=>(h.Gx hb).1;unfold Dl bdC;generalize p.AP=l at hid
 induction l with
 | nil=>rfl
 | cons b l ih =>
  have:=hid b Ak
  have z1:zD z b.id=z b.id:=by unfold zD;rw [AZ AB]
  have z2:zD z (-b.id)=-z b.id:=by unfold zD;rw [AX AB,Oj]
  rw [FM,IJ,KI,GI,O7,ih (fun c hc=>hid c (by simp [hc]))];by_cases c1:b.fr=n<;>by_cases c2:b.dst=n<;>simp only [c1,c2,if_true,if_false,GI,O7,FM,QD,IJ,YH,z1,z2]<;>grind
theorem Valid.ahQ {n:Nd} (hn:n∈p.nodes) {d:Int} (hd:d∈DL p n.id):FH p (-d)=precD (DL p n.id) d/\d∈Bh p/\Kq p d=n.id:=by
 obtain ⟨h1,h2⟩:=h.jD ((h.NI hn).subset hd);obtain ⟨n',hn',e,hm,hx⟩:=h.ng (Wu h1);rw [Oj] at e hm hx;exact ⟨by rw [hx,e,h2],h1,h2⟩
theorem Valid.ahR {d:Int} (hd:d∈Bh p):Cb p p.AP.length (FH p d)=Cb p p.AP.length d :=
 h.acs (k:=0) (Bv _) (Dc _) (h.aqz hd)
theorem Valid.ar6 {k:Nat} (hk:k<p.AP.length) (ht:¬ Ro p k p.AP[k]):Cb p p.AP.length p.AP[k].id=Cb p p.AP.length (-p.AP[k].id):=by
 refine h.acs (k:=k+1) AB (Dc _) ?_;rw [aB7 hk,AX ht];unfold mrg;rw [AZ rfl];split<;>rfl
theorem Valid.ar7 {k:Nat} (hk:k<p.AP.length):Cb p p.AP.length p.AP[k].id=Cb p p.AP.length (-p.AP[k].id):=by
 obtain ⟨S,hS⟩:=BN (Cb p p.AP.length);have hnx:=fun {d} (hd:d∈Bh p)=>h.ahR hd;have har:=fun {k} (hk:k<p.AP.length) ht=>h.ar6 (k:=k) hk ht;rw [hS] at hnx har ⊢;obtain ⟨f,hf⟩:∃ f:Int->Int,f=fun d=>if S d=S p.AP[k].id then 1 else 0:=⟨_,rfl⟩;have hfn:∀ d∈Bh p,f (FH p d)=f d:=fun d hd=>by rw [hf];simp only [hnx hd]
 have hcl:Fz p (fun i=>f i-f (-i)):=by
  intro n hn
  show bdC p (fun i=>f i-f (-i)) n.id=0
  have hb:=h.ar5 (fun i=>f i-f (-i)) n.id;have hp:=h.NI hn;have e1:((Dl p.AP n.id).map fun d=>zD (fun i=>f i-f (-i)) d).sum=((DL p n.id).map fun d=>f d + -f (precD (DL p n.id) d)).sum:=by
   rw [aB9 (hp.symm.map _)];refine Hu _ _ _ fun d hd=>?_;obtain ⟨g1,g2,-⟩:=h.ahQ hn hd;rw [<- g1,hfn _ (Wu g2)];unfold zD;by_cases h0:0<d
   · rw [AZ h0];show f d-f (-d)=_;omega
   · rw [AX h0];show -(f (-d)-f (- -d))=_;rw [Oj];omega
  rw [e1,Sz,Uo,ar4 (h.bI hn) f] at hb;omega
 have h0:=h.ahy hcl (fun j hj ht=>by
  show f _-f _=0
  rw [hf];simp only [har hj ht];omega) p.AP.length (Dc _) (fun j hj hle=>by omega) k hk
 have h1:f p.AP[k].id=1:=by rw [hf];exact AZ rfl
 have h2:f (-p.AP[k].id)=1:=by
  have h0':f p.AP[k].id-f (-p.AP[k].id)=0:=h0;omega
 rw [hf] at h2;have h2':(if S (-p.AP[k].id)=S p.AP[k].id then (1:Int) else 0)=1:=h2;split at h2'
 · rename_i e;exact e.symm
 · omega
theorem Valid.Vr {d:Int} (hd:d∈Bh p):Cb p p.AP.length (-d)=Cb p p.AP.length d:=by
 obtain ⟨a,ha,e⟩:=Iq.1 hd;obtain ⟨k,hk,rfl⟩:=EF.1 ha;have:=h.ar7 hk
 rcases e with rfl | rfl
 · exact this.symm
 · rw [Oj];exact this
theorem Valid.acu {n:Nd} (hn:n∈p.nodes) {d e:Int} (hd:d∈DL p n.id) (he:e∈DL p n.id):Cb p p.AP.length d=Cb p p.AP.length e:=by
 have key:∀ i (hi:i<(DL p n.id).length),Cb p p.AP.length (DL p n.id)[i]=Cb p p.AP.length ((DL p n.id)[0]'(by omega)):=by
  intro i
  induction i with
  | zero=>intro _;rfl
  | succ i ih =>
   intro hi;rw [<- ih AB];obtain ⟨g1,g2,-⟩:=h.ahQ hn (BO hi);have hm:(i+1+(DL p n.id).length-1) % (DL p n.id).length=i:=by
    rw [show i+1+(DL p n.id).length-1=i+(DL p n.id).length by omega,aAJ];exact XP AB
   have e1:precD (DL p n.id) (DL p n.id)[i+1]=(DL p n.id)[i]:=by
    rw [jC (h.bI hn) hi];congr 1
   rw [<- e1,<- g1,h.ahR (Wu g2),h.Vr g2]
 obtain ⟨i,hi,rfl⟩:=EF.1 hd;obtain ⟨j,hj,rfl⟩:=EF.1 he;rw [key i hi,key j hj]
end
section
variable {p:Pl} (h:Valid p)
include h
end
def xN (a b:Pt) (τ:Int):Int:=a.x*(2*hY b-τ)+b.x*(τ-2*hY a)
def Em (τ:Int) (a b:Pt):Int:=(if τ<2*hY b then 1 else 0)-(if τ<2*hY a then 1 else 0)
def wR (s t:Pt) (τ:Int) (v:Pt):Int:=if hY s<hY v/\2*hY v<τ/\tw s t v<0 then 1 else 0
def dX (a b s t:Pt) (τ:Int):Int:=xN a b τ*(hY t-hY s)-xN s t τ*(hY b-hY a)
theorem ar8 (a b:Pt) (τ:Int):xN b a τ=-xN a b τ:=by unfold xN;grind
theorem ahS (a b s t:Pt):dX a b s t (2*hY s)=16777216*(hY t-hY s)*tw a b s:=by unfold dX xN tw hY;grind
theorem ahT (a b s t:Pt):dX a b s t (2*hY t)=16777216*(hY t-hY s)*tw a b t:=by unfold dX xN tw hY;grind
theorem ahU (a b s t:Pt):dX a b s t (2*hY a)=-(16777216*(hY b-hY a)*tw s t a):=by unfold dX xN tw hY;grind
theorem ahV (a b s t:Pt):dX a b s t (2*hY b)=-(16777216*(hY b-hY a)*tw s t b):=by unfold dX xN tw hY;grind
theorem acv (a b s t:Pt) (α τ β:Int):dX a b s t τ*(β-α)=dX a b s t α*(β-τ)+dX a b s t β*(τ-α):=by
 unfold dX xN;generalize hY a=A;generalize hY b=B;generalize hY s=S;generalize hY t=T
 grind
theorem ar9 {x y z p q:Int} (hp:0<p) (hq:0<q) (e:z*(p+q)=x*p+y*q) :
  (0<x->0<=y->0<z)/\(0<=x->0<y->0<z)/\(x<=0->y<=0->¬ 0<z):=by
 refine ⟨fun h1 h2=>?_,fun h1 h2=>?_,fun h1 h2 h3=>?_⟩
 ·have a1:=Jg h1 hp;have a2:=KR h2 (gW hq);apply NV;intro h3;have:=KR (show 0<=-z by omega) (show 0<=p+q by omega)
  rw [Oh] at this;omega
 ·have a1:=KR h1 (gW hp);have a2:=Jg h2 hq;apply NV;intro h3;have:=KR (show 0<=-z by omega) (show 0<=p+q by omega)
  rw [Oh] at this;omega
 ·have a1:=KR (show 0<=-x by omega) (gW hp);have a2:=KR (show 0<=-y by omega) (gW hq);have a3:=Jg h3 (show 0<p+q by omega);rw [Oh] at a1 a2;omega
theorem aBA {c:Int} (hc:0<c) (u:Int):(0<16777216*c*u↔0<u)/\(0<=16777216*c*u↔0<=u)/\(16777216*c*u<=0↔u<=0):=by
 have h:0<16777216*c:=by omega
 generalize 16777216*c=k at *;rcases Ik u 0 with h1 | h1 | h1
 · have:=XK h h1;omega
 · subst h1;simp
 · have:=Jg h h1;omega
theorem arA {a b s t:Pt} {α τ β:Int} (h1:α<τ) (h2:τ<β) :
  (0<dX a b s t α->0<=dX a b s t β->0<dX a b s t τ)/\(0<=dX a b s t α->0<dX a b s t β->0<dX a b s t τ)/\(dX a b s t α<=0->dX a b s t β<=0->¬ 0<dX a b s t τ):=by
 have:=acv a b s t α τ β
 rw [show β-α=(β-τ)+(τ-α) by omega] at this;exact ar9 AB AB this
theorem jG {x y D:Int} (b:(0<x->0<=y->0<D)/\(0<=x->0<y->0<D)/\(x<=0->y<=0->¬ 0<D)) {P:Prop} (h:(P->0<x/\0<=y)\/(P->0<=x/\0<y)) (h2:¬ P->x<=0/\y<=0):0<D↔P:=by
 by_cases hp:P
 ·refine ⟨fun _=>hp,fun _=>?_⟩;rcases h with h | h
  · exact b.1 (h hp).1 (h hp).2
  · exact b.2.1 (h hp).1 (h hp).2
 · exact ⟨fun hd=>absurd hd (b.2.2 (h2 hp).1 (h2 hp).2),fun h=>absurd h hp⟩
theorem arB {A B S T τ D:Int} {P1 P3 P4:Prop} [Decidable P1] [Decidable P3] [Decidable P4] (hab:A<B) (hA:2*A≠τ) (hB:2*B≠τ) (h1:2*S<τ) (h2:τ<2*T)
  (key1:A<S->τ<2*B->(0<D↔P1)) (key2:A=S->τ<2*B->(0<D↔P4)) (arC:S<A->2*A<τ->τ<2*B->(0<D↔P3))
  (g1:A<S->S<B->B<T->(P1↔P4)) (g3:S<A->B<T->(P3↔P4)) :
  (if 2*A<τ/\τ<2*B/\0<D then (1:Int) else 0)=(if A<S/\S<B/\P1 then 1 else 0)+(if A=S/\P4 then 1 else 0)-0+((if S<A/\2*A<τ/\P3 then 1 else 0)-(if S<B/\2*B<τ/\P4 then 1 else 0)):=by
 rcases Ik A S with c1 | c1 | c1
 ·have e1:¬ A=S:=by omega
  have e2:¬ S<A:=by omega
  have e3:2*A<τ:=by omega
  simp only [e1,e2,e3,c1,true_and,false_and,if_false];by_cases c2:2*B<τ
  ·have e4:¬ τ<2*B:=by omega
   simp only [c2,e4,true_and,false_and,if_false];by_cases c3:S<B
   ·have:=g1 c1 c3 AB
    simp only [c3,this,true_and];omega
   · simp only [c3,false_and,if_false];rfl
  ·have e4:τ<2*B:=by omega
   have e5:S<B:=by omega
   have:=key1 c1 e4
   simp only [c2,e4,e5,this,true_and,false_and,and_false,if_false];omega
 ·have e1:¬ A<S:=by omega
  have e2:¬ S<A:=by omega
  have e3:2*A<τ:=by omega
  have e5:S<B:=by omega
  simp only [c1,e1,e2,e3,e5,Int.lt_irrefl,true_and,false_and,if_false,h1];by_cases c2:2*B<τ
  ·have e4:¬ τ<2*B:=by omega
   simp only [c2,e4,true_and,false_and,if_false];omega
  ·have e4:τ<2*B:=by omega
   have:=key2 c1 e4
   simp only [c2,e4,this,true_and,false_and,if_false];omega
 ·have e1:¬ A<S:=by omega
  have e2:¬ A=S:=by omega
  have e5:S<B:=by omega
  simp only [e1,e2,c1,e5,true_and,false_and,if_false];by_cases c3:2*A<τ
  ·by_cases c2:2*B<τ
   ·have e4:¬ τ<2*B:=by omega
    have:=g3 c1 AB
    simp only [c2,c3,e4,this,true_and,false_and,if_false];omega
   ·have e4:τ<2*B:=by omega
    have:=arC c1 c3 e4
    simp only [c2,c3,e4,this,true_and,false_and,if_false];omega
  ·have e4:¬ 2*B<τ:=by omega
   simp only [c3,e4,false_and,if_false];rfl
theorem arD {a b s t:Pt} (na:C9 a=true) (nb:C9 b=true) (ns:C9 s=true) (nt:C9 t=true) (hab:hY a<hY b) (hst:hY s<hY t)
  (hno:a≠s->a≠t->b≠s->b≠t->MV a b s t) {τ:Int} (hA:2*hY a≠τ) (hB:2*hY b≠τ) (h1:2*hY s<τ) (h2:τ<2*hY t) :
  (if 2*hY a<τ/\τ<2*hY b/\0<dX a b s t τ then 1 else 0)=Pe s t a b+(wR s t τ a-wR s t τ b):=by
 have d1:=oC ns nb nt;have d2:=oC ns na nt;have q:∀ {u v:Pt},C9 u=true->C9 v=true->(u=v↔hY u=hY v):=fun hu hv=>⟨fun e=>by rw [e],MS hu hv⟩;have e1:tw s b t=-tw s t b:=ahe s t b;have f1:hY a=hY s->tw a b s=0/\tw s t a=0:=fun h=>by
  have:=MS na ns h
  subst this;exact ⟨YR a b,YR a t⟩
 have f2:hY b=hY t->tw a b t=0/\tw s t b=0:=fun h=>by
  have:=MS nb nt h
  subst this;exact ⟨YS a b,YS s b⟩
 have f3:hY a≠hY s->hY a≠hY t->hY b≠hY s->hY b≠hY t->_:=fun h1 h2 h3 h4=>ahg (s:=s) (t:=t) hab hst (hno (fun e=>h1 Rt) (fun e=>h2 Rt) (fun e=>h3 Rt) (fun e=>h4 Rt));have k1:(a=s/\Ef s b t)↔(hY a=hY s/\tw s t b<0):=by rw [d1,q na ns,e1];constructor<;>(rintro ⟨h1,h2⟩;exact ⟨h1,AB⟩)
 have k2:¬ (b=s/\Ef s a t):=by rw [d2,q nb ns];rintro ⟨h1,h2⟩;omega
 have m1:NK a b s=if hY a<hY s/\hY s<hY b/\0<tw a b s then 1 else 0:=by unfold NK;rw [AX (show ¬ (hY b<hY s/\hY s<hY a/\0<tw b a s) by omega)]
 have gS:=ahS a b s t;have gT:=ahT a b s t;have gA:=ahU a b s t;have gB:=ahV a b s t;have bw:=fun (α β:Int) (g1:α<τ) (g2:τ<β)=>arA (a:=a) (b:=b) (s:=s) (t:=t) g1 g2;unfold Pe;rw [m1,AX k2];simp only [k1];unfold wR;have sS:=aBA (show 0<hY t-hY s by omega) (tw a b s);have sT:=aBA (show 0<hY t-hY s by omega) (tw a b t);have sA:=aBA (show 0<hY b-hY a by omega) (tw s t a);have sB:=aBA (show 0<hY b-hY a by omega) (tw s t b);have MO:=bw (2*hY s) (2*hY b);have aG:=bw (2*hY s) (2*hY t);have IB:=bw (2*hY a) (2*hY b);have aH:=bw (2*hY a) (2*hY t);rw [gS,gB] at MO;rw [gS,gT] at aG;rw [gA,gB] at IB;rw [gA,gT] at aH;clear hno d1 d2 e1 q na nb ns nt k1 k2 m1 gS gT gA gB bw;generalize dX a b s t τ=D at *;generalize 16777216*(hY t-hY s)*tw a b s=vS at *;generalize 16777216*(hY t-hY s)*tw a b t=vT at *;generalize 16777216*(hY b-hY a)*tw s t a=vA at *;generalize 16777216*(hY b-hY a)*tw s t b=vB at *;generalize tw a b s=u1 at *;generalize tw a b t=u2 at *;generalize tw s t a=u3 at *;generalize tw s t b=u4 at *;generalize hY a=A at *;generalize hY b=B at *;generalize hY s=S at *;generalize hY t=T at *;refine arB hab hA hB h1 h2 (fun c1 c2=>?_) (fun c1 c2=>?_) (fun c1 c3 c2=>?_) (fun c1 c2 c3=>?_) (fun c1 c2=>?_)
 ·rcases Ik B T with c4 | c4 | c4
  ·have f3:=(f3 AB AB AB AB).1 c1 AB c4;clear f1 f2 IB aH aG sA sT;exact jG (MO h1 c2) (.inl fun hp=>⟨sS.1.2 hp,AB⟩) (fun hp=>⟨AB,AB⟩)
  ·obtain ⟨g1,g2⟩:=f2 c4;clear f1 f2 f3 IB aH MO sA sB;exact jG (aG h1 h2) (.inl fun hp=>⟨sS.1.2 hp,AB⟩) (fun hp=>⟨AB,AB⟩)
  ·have f3:=(f3 AB AB AB AB).2.1 c1 c4;clear f1 f2 IB aH MO sA sB;exact jG (aG h1 h2) (.inl fun hp=>⟨sS.1.2 hp,AB⟩) (fun hp=>⟨AB,AB⟩)
 ·obtain ⟨g1,g2⟩:=f1 c1;clear f1 f2 f3 IB aH aG sA sT;exact jG (MO h1 c2) (.inr fun hp=>⟨AB,AB⟩) (fun hp=>⟨AB,AB⟩)
 ·rcases Ik B T with c4 | c4 | c4
  ·have f3:=(f3 AB AB AB AB).2.2.1 c1 c4;clear f1 f2 aG aH MO sS sT;exact jG (IB c3 c2) (.inl fun hp=>⟨AB,AB⟩) (fun hp=>⟨AB,AB⟩)
  ·obtain ⟨g1,g2⟩:=f2 c4;clear f1 f2 f3 aG aH MO sS sT;exact jG (IB c3 c2) (.inl fun hp=>⟨AB,AB⟩) (fun hp=>⟨AB,AB⟩)
  ·have f3:=(f3 AB AB AB AB).2.2.2 c1 AB c4;clear f1 f2 aG IB MO sS sB;exact jG (aH c3 h2) (.inl fun hp=>⟨AB,AB⟩) (fun hp=>⟨AB,AB⟩)
 · exact (f3 AB AB AB AB).1 c1 c2 c3
 · exact (f3 AB AB AB AB).2.2.1 c1 c2
