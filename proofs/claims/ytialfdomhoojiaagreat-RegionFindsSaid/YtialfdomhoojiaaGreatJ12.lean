import Derived.Test.YtialfdomhoojiaaGreatJ11
set_option linter.unusedSimpArgs false
set_option linter.unusedVariables false
namespace Go.Proofs.YtialfdomhoojiaaGreat
open Go.RowKit
set_option linter.unusedSectionVars false
def mrg (r:Int->Int) (a b x:Int):Int:=if r x=r a then r b else r x
structure y9 (U:List Int) (r:Int->Int):Prop where
 mem:∀ x∈U,r x∈U
 idem:∀ x∈U,r (r x)=r x
def ai4 (U:List Int) (r:Int->Int):Nat:=(U.filter (fun x=>decide (r x=x))).length
theorem y9.mrg {U:List Int} {r:Int->Int} (h:y9 U r) {a b:Int} (hb:b∈U):y9 U (mrg r a b):=by
 constructor
 ·intro x hx;unfold Go.Proofs.YtialfdomhoojiaaGreat.mrg;split
  · exact h.mem b hb
  · exact h.mem x hx
 ·intro x hx;unfold Go.Proofs.YtialfdomhoojiaaGreat.mrg;by_cases e:r x=r a
  ·rw [AZ e,h.idem b hb];split<;>rfl
  · rw [AX e,h.idem x hx,AX e]
def NG (p:Pl) (k:Nat) (x:Int):Int:=pw (Tj p k).1 x (p.AU.length+1)
def RD (p:Pl) (k:Nat) (a:Ar):Prop:=NG p k a.fr≠NG p k a.dst
instance (p:Pl) (k:Nat) (a:Ar):Decidable (RD p k a):=by unfold RD;infer_instance
section
variable {p:Pl} (h:Valid p)
include h
theorem Valid.ai5 {k:Nat} (hk:k<p.AU.length):(NG p (k+1)=if RD p k p.AU[k] then mrg (NG p k) p.AU[k].fr p.AU[k].dst else NG p k)/\(Tj p (k+1)).2=(Tj p k).2-(if RD p k p.AU[k] then 1 else 0):=by
 have ho:=aq7 h k AB;by_cases ht:RD p k p.AU[k]
 ·rw [AZ ht,AZ ht];unfold RD NG at ht;unfold NG;rw [acu p k hk];unfold vX;rw [AX ht];refine ⟨?_,rfl⟩;have hr:∀ x,(Tj p k).1 (pw (Tj p k).1 x (p.AU.length+1))=pw (Tj p k).1 x (p.AU.length+1):=ho.flat.more AB;obtain ⟨h1,h2⟩:=ahl ho.flat (hr p.AU[k].fr) (hr p.AU[k].dst) ht
  funext x
  show pw (Le _ _ _) x (p.AU.length+1)=mrg _ _ _ x
  rw [h1.eq (M:=p.AU.length+1) AB,h2 x];unfold mrg;simp only;rw [<- ho.flat.eq (M:=p.AU.length+1) AB x]
 ·rw [AX ht,AX ht];unfold RD NG at ht;unfold NG;rw [acu p k hk];unfold vX;rw [AZ (MZ ht)];exact ⟨rfl,AB⟩
theorem Valid.arD {k j:Nat} (hkj:k<=j) (hj:j<=p.AU.length) {x y:Int} (e:NG p k x=NG p k y):NG p j x=NG p j y:=by
 induction j with
 | zero =>
  have:k=0:=by omega
  subst this;exact e
 | succ j ih =>
  by_cases h1:k=j+1
  · subst h1;exact e
  ·have e2:=ih AB AB;rw [(h.ai5 (k:=j) AB).1];split
   · unfold mrg;rw [e2]
   · exact e2
theorem Valid.arE {k j:Nat} (hj:j<k) (hk:k<=p.AU.length):NG p k (p.AU[j]'(by omega)).fr=NG p k (p.AU[j]'(by omega)).dst:=by
 refine h.arD (k:=j+1) AB hk ?_;rw [(h.ai5 (k:=j) AB).1];split
 ·unfold mrg;rw [AZ rfl];split<;>rfl
 ·rename_i ht;unfold RD at ht;exact MZ ht
end
def bdC (p:Pl) (c:Int->Int) (n:Int):Int:=(p.AU.map fun a=>c a.id*((if a.dst=n then 1 else 0)-(if a.fr=n then 1 else 0))).sum
section
variable {p:Pl} (h:Valid p)
include h
theorem Valid.ai6 {g:Int->Int} (hg:Fv p g) (h0:∀ j (hj:j<p.AU.length),¬ RD p j p.AU[j]->g p.AU[j].id=0):∀ (k:Nat),k<=p.AU.length->(∀ j (hj:j<p.AU.length),k<=j->g p.AU[j].id=0)->∀ j (hj:j<p.AU.length),g p.AU[j].id=0
 | 0,_,hz,j,hj=>hz j hj AB
 | k+1,hk,hz,j,hj=>by
  refine Valid.ai6 hg h0 k AB (fun j hj hkj=>?_) j hj;by_cases hjk:j=k
  ·subst hjk;by_cases ht:RD p j p.AU[j]
   ·have hs:=h.ahw hg (fun x=>if NG p j x=NG p j p.AU[j].fr then 1 else 0);have e:(p.AU.map fun a=>g a.id*((if NG p j a.dst=NG p j p.AU[j].fr then (1:Int) else 0)-(if NG p j a.fr=NG p j p.AU[j].fr then 1 else 0))).sum=(p.AU.map fun a=>if p.AU[j].id=a.id then -g a.id else 0).sum:=by
     refine Gx _ _ _ fun a ha=>?_;obtain ⟨i,hi,rfl⟩:=Dp.1 ha;rcases PD i j with h3 | h3 | h3
     ·have hne:¬ p.AU[j].id=p.AU[i].id:=fun e=>by
       have hpw:=h.sound.AU;rw [IL,Fe] at hpw;have:=hpw i j hi hj h3;omega
      rw [AX hne,h.arE h3 AB,aAH,KN]
     ·subst h3;rw [AZ rfl,AZ rfl];unfold RD at ht;rw [AX (fun e=>ht e.symm)];omega
     ·have hne:¬ p.AU[j].id=p.AU[i].id:=fun e=>by
       have hpw:=h.sound.AU;rw [IL,Fe] at hpw;have:=hpw j i hj hi h3;omega
      rw [AX hne,hz i hi AB,JQ]
    rw [e,vk p.AU (·.id) h.sound.AU (fun i=>-g i) p.AU[j].id ⟨_,BH hj,rfl⟩] at hs;omega
   · exact h0 j hj ht
  · exact hz j hj AB
end
set_option linter.unusedSectionVars false
def Pg (L:List (List Int)) (d:Int):Int:=match L.find? (fun c=>decide (d∈c)) with
 | some c=>c.headD 0
 | none=>d
def CQ (p:Pl):Nat->Int->Int
 | 0=>Pg (CX p)
 | k+1=>match p.AU[k]? with
  | some a=>if RD p k a then CQ p k else mrg (CQ p k) a.id (-a.id)
  | none=>CQ p k
theorem aBb {p:Pl} {k:Nat} (hk:k<p.AU.length):CQ p (k+1)=if RD p k p.AU[k] then CQ p k else mrg (CQ p k) p.AU[k].id (-p.AU[k].id):=by
 rw [CQ,DK hk]
section
variable {p:Pl} (h:Valid p)
include h
theorem Valid.ad5 {c c':List Int} (hc:c∈CX p) (hc':c'∈CX p) {y:Int} (h1:y∈c) (h2:y∈c'):c=c':=by
 have hnd:=h.Gi.nodup;rw [rZ,abb] at hnd;have hpw:=hnd.2;rw [Fe] at hpw;obtain ⟨i,hi,rfl⟩:=Dp.1 hc;obtain ⟨j,hj,rfl⟩:=Dp.1 hc';rcases PD i j with h3 | h3 | h3
 · exact absurd rfl (hpw i j hi hj h3 _ h1 _ h2)
 · subst h3;rfl
 · exact absurd rfl (hpw j i hj hi h3 _ h2 _ h1)
theorem Valid.Ph {c:List Int} (hc:c∈CX p):∃ x∈BU p,c=JM (FP p) (BU p) x/\c.headD 0=x/\x∈c:=by
 obtain ⟨x,hx,e,-⟩:=h.Gi.lV c hc;have hf:=WL (fun x hx=>(h.Qe hx).1) (fun x hx y hy=>h.Xg hx hy) hx;refine ⟨x,hx,e,?_,by rw [e];exact aiI hf.1⟩;rw [e];unfold JM;obtain ⟨m,hm⟩:∃ m,LV (FP p) (BU p) x=m+1:=⟨LV (FP p) (BU p) x-1,by have:=hf.1;omega⟩;rw [hm];rfl
theorem Valid.oz {d:Int} (hd:d∈BU p):∃ c∈CX p,d∈c/\Pg (CX p) d=c.headD 0:=by
 obtain ⟨c,hc,hdc⟩:=aAI.1 (h.Gi.covers d hd);unfold Pg
 cases hf:(CX p).find? (fun c=>decide (d∈c)) with
 | none =>
  have:=List.find?_eq_none.1 hf c hc
  simp [hdc] at this
 | some c' =>
  have h1:=List.find?_some hf;exact ⟨c',VG hf,by simpa using h1,rfl⟩
theorem Valid.head_eq {c:List Int} (hc:c∈CX p) {d:Int} (hd:d∈BU p) (hdc:d∈c):Pg (CX p) d=c.headD 0:=by
 obtain ⟨c',h1,h2,h3⟩:=h.oz hd;rw [h3,h.ad5 h1 hc h2 hdc]
theorem Valid.arF {d:Int} (hd:d∈BU p):Pg (CX p) (FP p d)=Pg (CX p) d:=by
 obtain ⟨c,h1,h2,h3⟩:=h.oz hd;obtain ⟨x,hx,e,-,-⟩:=h.Ph h1;rw [h3];refine h.head_eq h1 (h.Qe hd).1 ?_;rw [e] at h2 ⊢;exact (adU (fun x hx=>(h.Qe hx).1) (fun x hx y hy=>h.Xg hx hy) hx hd).2 h2
theorem Valid.arG {β:Type} (H:Int->β) (hH:∀ d∈BU p,H (FP p d)=H d) {d:Int} (hd:d∈BU p):H (Pg (CX p) d)=H d:=by
 obtain ⟨c,h1,h2,h3⟩:=h.oz hd;obtain ⟨x,hx,e,e2,-⟩:=h.Ph h1;rw [h3,e2];rw [e] at h2;obtain ⟨k,-,rfl⟩:=Uz.1 h2;clear h1 h2 h3 e e2 hd
 induction k with
 | zero=>rfl
 | succ k ih =>
  show H x=H (FP p (pw (FP p) x k))
  rw [hH _ (Wx (fun x hx=>(h.Qe hx).1) hx k)];exact ih
theorem Valid.arH:y9 (BU p) (Pg (CX p))/\ai4 (BU p) (Pg (CX p))=(CX p).length:=by
 have hmem:∀ x∈BU p,Pg (CX p) x∈BU p/\Pg (CX p) (Pg (CX p) x)=Pg (CX p) x:=by
  intro d hd;obtain ⟨c,h1,h2,h3⟩:=h.oz hd;obtain ⟨x,hx,e,e2,e3⟩:=h.Ph h1;rw [h3,e2];exact ⟨hx,(h.head_eq h1 hx e3).trans e2⟩
 refine ⟨⟨fun x hx=>(hmem x hx).1,fun x hx=>(hmem x hx).2⟩,?_⟩;have hnd:=h.Gi.nodup;rw [rZ,abb] at hnd;have hL:((CX p).map (fun c=>c.headD 0)).Nodup:=by
  rw [rZ,IL];refine abd (fun {c c'} h1 h2 h3=>?_) hnd.2;obtain ⟨x,-,-,e2,e3⟩:=h.Ph h1;obtain ⟨y,-,-,f2,f3⟩:=h.Ph h2;rw [e2,f2];exact h3 _ e3 _ f3
 have h1:=Uy hL (m:=(BU p).filter (fun x=>decide (Pg (CX p) x=x))) (fun y hy=>by
  obtain ⟨c,hc,rfl⟩:=EM.1 hy;obtain ⟨x,hx,-,e2,e3⟩:=h.Ph hc;rw [e2,QF,E8];exact ⟨hx,(h.head_eq hc hx e3).trans e2⟩)
 have h2:=Uy (h.wK.filter (fun x=>decide (Pg (CX p) x=x))) (m:=(CX p).map (fun c=>c.headD 0)) (fun y hy=>by
  rw [QF,E8] at hy;obtain ⟨c,hc,-,e⟩:=h.oz hy.1;exact EM.2 ⟨c,hc,by rw [<- e];exact hy.2⟩)
 rw [Cm] at h1 h2;unfold ai4;omega
theorem Valid.ai7 {k:Nat} (hk:k<p.AU.length):p.AU[k].id∈BU p/\-p.AU[k].id∈BU p :=
 ⟨Iy.2 ⟨_,BH hk,.inl rfl⟩,Iy.2 ⟨_,BH hk,.inr rfl⟩⟩
theorem Valid.azO (k:Nat) (hk:k<=p.AU.length):y9 (BU p) (CQ p k):=by
 induction k with
 | zero=>exact h.arH.1
 | succ k ih =>
  rw [aBb (k:=k) AB];split
  · exact ih AB
  · exact (ih AB).mrg (h.ai7 AB).2
theorem Valid.ad6 {k j:Nat} (hkj:k<=j) (hj:j<=p.AU.length) {x y:Int} (e:CQ p k x=CQ p k y):CQ p j x=CQ p j y:=by
 induction j with
 | zero =>
  have:k=0:=by omega
  subst this;exact e
 | succ j ih =>
  by_cases h1:k=j+1
  · subst h1;exact e
  ·have e2:=ih AB AB;rw [aBb (k:=j) AB];split
   · exact e2
   · unfold mrg;rw [e2]
theorem Valid.arI {β:Type} (H:Int->β) (hH:∀ d∈BU p,H (FP p d)=H d) (k:Nat) (hk:k<=p.AU.length) (h0:∀ j (hj:j<p.AU.length),j<k->¬ RD p j p.AU[j]->H p.AU[j].id=H (-p.AU[j].id)):∀ d∈BU p,H (CQ p k d)=H d:=by
 induction k with
 | zero=>exact fun d hd=>h.arG H hH hd
 | succ k ih =>
  intro d hd;have ih:=ih AB (fun j hj hjk=>h0 j hj AB);rw [aBb (k:=k) AB];split
  · exact ih d hd
  ·rename_i ht;have hm:=h.ai7 (k:=k) AB;unfold mrg;split
   ·rename_i e;rw [ih _ hm.2,<- h0 k AB AB ht,<- ih _ hm.1,<- e,ih d hd]
   · exact ih d hd
end
set_option linter.unusedSectionVars false
theorem arJ {L:List Int} (hL:L.Nodup) (f:Int->Int):(L.map fun d=>f (precD L d)).sum=(L.map f).sum:=by
 by_cases h0:L.length=0
 ·have:L=[]:=lQ h0
  subst this;rfl
 ·have e:L.map (precD L)=L[L.length-1]'(by omega)::L.take (L.length-1):=by
   refine U6 DC fun i h1 h2=>?_;rw [Cm] at h1;rw [Gq,iL hL h1]
   cases i with
   | zero =>
    rw [List.getElem_cons_zero];congr 1;rw [QC];exact Wq AB
   | succ i =>
    rw [List.getElem_cons_succ,List.getElem_take];congr 1;rw [show i+1+L.length-1=i+L.length by omega,aAG];exact Wq AB
  have e2:L.map f=(L.take (L.length-1)).map f++[f (L[L.length-1]'(by omega))]:=by
   conv=>lhs;rw [<- Zd (L.length-1) L]
   rw [GL,Qk (show L.length-1<L.length by omega),ab2 AB];rfl
  rw [show (L.map fun d=>f (precD L d))=(L.map (precD L)).map f by rw [Mc];rfl,e,Ez,I8,e2,OA];simp only [I8,Xt];omega
theorem aBd {l m:List Int} (h:l.Perm m):l.sum=m.sum:=by
 induction h with
 | nil=>rfl
 | cons x _ ih=>rw [I8,I8,ih]
 | swap x y l=>simp only [I8];omega
 | trans _ _ h1 h2=>exact h1.trans h2
section
variable {p:Pl} (h:Valid p)
include h
theorem Valid.arK (z:Int->Int) (n:Int):((Df p.AU n).map fun d=>zD z d).sum=-bdC p z n:=by
 have hid:∀ b∈p.AU,1<=b.id:=fun b hb=>(h.Gh hb).1;unfold Df bdC;generalize p.AU=l at hid
 induction l with
 | nil=>rfl
 | cons b l ih =>
  have:=hid b Aw
  have z1:zD z b.id=z b.id:=by unfold zD;rw [AZ AB]
  have z2:zD z (-b.id)=-z b.id:=by unfold zD;rw [AX AB,Ob]
  rw [Ez,I8,Ju,GL,OA,ih (fun c hc=>hid c (by simp [hc]))];by_cases c1:b.fr=n<;>by_cases c2:b.dst=n<;>simp only [c1,c2,if_true,if_false,GL,OA,Ez,QE,I8,Xt,z1,z2]<;>grind
theorem Valid.ai8 {n:Nd} (hn:n∈p.nodes) {d:Int} (hd:d∈DF p n.id):FP p (-d)=precD (DF p n.id) d/\d∈BU p/\Ja p d=n.id:=by
 obtain ⟨h1,h2⟩:=h.iM ((h.N8 hn).subset hd);obtain ⟨n',hn',e,hm,hx⟩:=h.lY (WM h1);rw [Ob] at e hm hx;exact ⟨by rw [hx,e,h2],h1,h2⟩
theorem Valid.ai9 {d:Int} (hd:d∈BU p):CQ p p.AU.length (FP p d)=CQ p p.AU.length d :=
 h.ad6 (k:=0) (BZ _) (DT _) (h.arF hd)
theorem Valid.arL {k:Nat} (hk:k<p.AU.length) (ht:¬ RD p k p.AU[k]):CQ p p.AU.length p.AU[k].id=CQ p p.AU.length (-p.AU[k].id):=by
 refine h.ad6 (k:=k+1) AB (DT _) ?_;rw [aBb hk,AX ht];unfold mrg;rw [AZ rfl];split<;>rfl
theorem Valid.arM {k:Nat} (hk:k<p.AU.length):CQ p p.AU.length p.AU[k].id=CQ p p.AU.length (-p.AU[k].id):=by
 obtain ⟨S,hS⟩:=BL (CQ p p.AU.length);have hnx:=fun {d} (hd:d∈BU p)=>h.ai9 hd;have har:=fun {k} (hk:k<p.AU.length) ht=>h.arL (k:=k) hk ht;rw [hS] at hnx har ⊢;obtain ⟨f,hf⟩:∃ f:Int->Int,f=fun d=>if S d=S p.AU[k].id then 1 else 0:=⟨_,rfl⟩;have hfn:∀ d∈BU p,f (FP p d)=f d:=fun d hd=>by rw [hf];simp only [hnx hd]
 have hcl:Fv p (fun i=>f i-f (-i)):=by
  intro n hn
  show bdC p (fun i=>f i-f (-i)) n.id=0
  have hb:=h.arK (fun i=>f i-f (-i)) n.id;have hp:=h.N8 hn;have e1:((Df p.AU n.id).map fun d=>zD (fun i=>f i-f (-i)) d).sum=((DF p n.id).map fun d=>f d + -f (precD (DF p n.id) d)).sum:=by
   rw [aBd (hp.symm.map _)];refine Gx _ _ _ fun d hd=>?_;obtain ⟨g1,g2,-⟩:=h.ai8 hn hd;rw [<- g1,hfn _ (WM g2)];unfold zD;by_cases h0:0<d
   · rw [AZ h0];show f d-f (-d)=_;omega
   · rw [AX h0];show -(f (-d)-f (- -d))=_;rw [Ob];omega
  rw [e1,Sz,Uj,arJ (h.dU hn) f] at hb;omega
 have h0:=h.ai6 hcl (fun j hj ht=>by
  show f _-f _=0
  rw [hf];simp only [har hj ht];omega) p.AU.length (DT _) (fun j hj hle=>by omega) k hk
 have h1:f p.AU[k].id=1:=by rw [hf];exact AZ rfl
 have h2:f (-p.AU[k].id)=1:=by
  have h0':f p.AU[k].id-f (-p.AU[k].id)=0:=h0;omega
 rw [hf] at h2;have h2':(if S (-p.AU[k].id)=S p.AU[k].id then (1:Int) else 0)=1:=h2;split at h2'
 · rename_i e;exact e.symm
 · omega
theorem Valid.WR {d:Int} (hd:d∈BU p):CQ p p.AU.length (-d)=CQ p p.AU.length d:=by
 obtain ⟨a,ha,e⟩:=Iy.1 hd;obtain ⟨k,hk,rfl⟩:=Dp.1 ha;have:=h.arM hk
 rcases e with rfl | rfl
 · exact this.symm
 · rw [Ob];exact this
theorem Valid.ad7 {n:Nd} (hn:n∈p.nodes) {d e:Int} (hd:d∈DF p n.id) (he:e∈DF p n.id):CQ p p.AU.length d=CQ p p.AU.length e:=by
 have key:∀ i (hi:i<(DF p n.id).length),CQ p p.AU.length (DF p n.id)[i]=CQ p p.AU.length ((DF p n.id)[0]'(by omega)):=by
  intro i
  induction i with
  | zero=>intro _;rfl
  | succ i ih =>
   intro hi;rw [<- ih AB];obtain ⟨g1,g2,-⟩:=h.ai8 hn (BH hi);have hm:(i+1+(DF p n.id).length-1) % (DF p n.id).length=i:=by
    rw [show i+1+(DF p n.id).length-1=i+(DF p n.id).length by omega,aAG];exact Wq AB
   have e1:precD (DF p n.id) (DF p n.id)[i+1]=(DF p n.id)[i]:=by
    rw [iL (h.dU hn) hi];congr 1
   rw [<- e1,<- g1,h.ai9 (WM g2),h.WR g2]
 obtain ⟨i,hi,rfl⟩:=Dp.1 hd;obtain ⟨j,hj,rfl⟩:=Dp.1 he;rw [key i hi,key j hj]
end
section
variable {p:Pl} (h:Valid p)
include h
end
def xN (a b:Pt) (τ:Int):Int:=a.x*(2*hY b-τ)+b.x*(τ-2*hY a)
def EZ (τ:Int) (a b:Pt):Int:=(if τ<2*hY b then 1 else 0)-(if τ<2*hY a then 1 else 0)
def wR (s t:Pt) (τ:Int) (v:Pt):Int:=if hY s<hY v/\2*hY v<τ/\tw s t v<0 then 1 else 0
def dX (a b s t:Pt) (τ:Int):Int:=xN a b τ*(hY t-hY s)-xN s t τ*(hY b-hY a)
theorem arN (a b:Pt) (τ:Int):xN b a τ=-xN a b τ:=by unfold xN;grind
theorem aha (a b s t:Pt):dX a b s t (2*hY s)=16777216*(hY t-hY s)*tw a b s:=by unfold dX xN tw hY;grind
theorem ahb (a b s t:Pt):dX a b s t (2*hY t)=16777216*(hY t-hY s)*tw a b t:=by unfold dX xN tw hY;grind
theorem ahc (a b s t:Pt):dX a b s t (2*hY a)=-(16777216*(hY b-hY a)*tw s t a):=by unfold dX xN tw hY;grind
theorem ahd (a b s t:Pt):dX a b s t (2*hY b)=-(16777216*(hY b-hY a)*tw s t b):=by unfold dX xN tw hY;grind
theorem ad8 (a b s t:Pt) (α τ β:Int):dX a b s t τ*(β-α)=dX a b s t α*(β-τ)+dX a b s t β*(τ-α):=by
 unfold dX xN;generalize hY a=A;generalize hY b=B;generalize hY s=S;generalize hY t=T
 grind
theorem arO {x y z p q:Int} (hp:0<p) (hq:0<q) (e:z*(p+q)=x*p+y*q) :
  (0<x->0<=y->0<z)/\(0<=x->0<y->0<z)/\(x<=0->y<=0->¬ 0<z):=by
 refine ⟨fun h1 h2=>?_,fun h1 h2=>?_,fun h1 h2 h3=>?_⟩
 ·have a1:=JO h1 hp;have a2:=KQ h2 (fM hq);apply MZ;intro h3;have:=KQ (show 0<=-z by omega) (show 0<=p+q by omega)
  rw [OZ] at this;omega
 ·have a1:=KQ h1 (fM hp);have a2:=JO h2 hq;apply MZ;intro h3;have:=KQ (show 0<=-z by omega) (show 0<=p+q by omega)
  rw [OZ] at this;omega
 ·have a1:=KQ (show 0<=-x by omega) (fM hp);have a2:=KQ (show 0<=-y by omega) (fM hq);have a3:=JO h3 (show 0<p+q by omega);rw [OZ] at a1 a2;omega
theorem aBe {c:Int} (hc:0<c) (u:Int):(0<16777216*c*u↔0<u)/\(0<=16777216*c*u↔0<=u)/\(16777216*c*u<=0↔u<=0):=by
 have h:0<16777216*c:=by omega
 generalize 16777216*c=k at *;rcases Ic u 0 with h1 | h1 | h1
 · have:=Wj h h1;omega
 · subst h1;simp
 · have:=JO h h1;omega
theorem arP {a b s t:Pt} {α τ β:Int} (h1:α<τ) (h2:τ<β) :
  (0<dX a b s t α->0<=dX a b s t β->0<dX a b s t τ)/\(0<=dX a b s t α->0<dX a b s t β->0<dX a b s t τ)/\(dX a b s t α<=0->dX a b s t β<=0->¬ 0<dX a b s t τ):=by
 have:=ad8 a b s t α τ β
 rw [show β-α=(β-τ)+(τ-α) by omega] at this;exact arO AB AB this
theorem iQ {x y D:Int} (b:(0<x->0<=y->0<D)/\(0<=x->0<y->0<D)/\(x<=0->y<=0->¬ 0<D)) {P:Prop} (h:(P->0<x/\0<=y)\/(P->0<=x/\0<y)) (h2:¬ P->x<=0/\y<=0):0<D↔P:=by
 by_cases hp:P
 ·refine ⟨fun _=>hp,fun _=>?_⟩;rcases h with h | h
  · exact b.1 (h hp).1 (h hp).2
  · exact b.2.1 (h hp).1 (h hp).2
 · exact ⟨fun hd=>absurd hd (b.2.2 (h2 hp).1 (h2 hp).2),fun h=>absurd h hp⟩
theorem arQ {A B S T τ D:Int} {P1 P3 P4:Prop} [Decidable P1] [Decidable P3] [Decidable P4] (hab:A<B) (hA:2*A≠τ) (hB:2*B≠τ) (h1:2*S<τ) (h2:τ<2*T)
  (key1:A<S->τ<2*B->(0<D↔P1)) (key2:A=S->τ<2*B->(0<D↔P4)) (arR:S<A->2*A<τ->τ<2*B->(0<D↔P3))
  (g1:A<S->S<B->B<T->(P1↔P4)) (g3:S<A->B<T->(P3↔P4)) :
  (if 2*A<τ/\τ<2*B/\0<D then (1:Int) else 0)=(if A<S/\S<B/\P1 then 1 else 0)+(if A=S/\P4 then 1 else 0)-0+((if S<A/\2*A<τ/\P3 then 1 else 0)-(if S<B/\2*B<τ/\P4 then 1 else 0)):=by
 rcases Ic A S with c1 | c1 | c1
 ·have e1:¬ A=S:=by omega
  have e2:¬ S<A:=by omega
  have e3:2*A<τ:=by omega
  simp only [e1,e2,e3,c1,true_and,false_and,if_false];by_cases c2:2*B<τ
  ·have e4:¬ τ<2*B:=by omega
   simp only [c2,e4,true_and,false_and,if_false];by_cases c3:S<B
   ·have:=g1 c1 c3 AB
    simp only [c3,this,true_and];omega
   · simp only [c3,false_and,if_false];rfl
  ·have e4:τ<2*B:=by omega
   have e5:S<B:=by omega
   have:=key1 c1 e4
   simp only [c2,e4,e5,this,true_and,false_and,and_false,if_false];omega
 ·have e1:¬ A<S:=by omega
  have e2:¬ S<A:=by omega
  have e3:2*A<τ:=by omega
  have e5:S<B:=by omega
  simp only [c1,e1,e2,e3,e5,Int.lt_irrefl,true_and,false_and,if_false,h1];by_cases c2:2*B<τ
  ·have e4:¬ τ<2*B:=by omega
   simp only [c2,e4,true_and,false_and,if_false];omega
  ·have e4:τ<2*B:=by omega
   have:=key2 c1 e4
   simp only [c2,e4,this,true_and,false_and,if_false];omega
 ·have e1:¬ A<S:=by omega
  have e2:¬ A=S:=by omega
  have e5:S<B:=by omega
  simp only [e1,e2,c1,e5,true_and,false_and,if_false];by_cases c3:2*A<τ
  ·by_cases c2:2*B<τ
   ·have e4:¬ τ<2*B:=by omega
    have:=g3 c1 AB
    simp only [c2,c3,e4,this,true_and,false_and,if_false];omega
   ·have e4:τ<2*B:=by omega
    have:=arR c1 c3 e4
    simp only [c2,c3,e4,this,true_and,false_and,if_false];omega
  ·have e4:¬ 2*B<τ:=by omega
   simp only [c3,e4,false_and,if_false];rfl
theorem arS {a b s t:Pt} (na:Bg a=true) (nb:Bg b=true) (ns:Bg s=true) (nt:Bg t=true) (hab:hY a<hY b) (hst:hY s<hY t)
  (hno:a≠s->a≠t->b≠s->b≠t->MJ a b s t) {τ:Int} (hA:2*hY a≠τ) (hB:2*hY b≠τ) (h1:2*hY s<τ) (h2:τ<2*hY t) :
  (if 2*hY a<τ/\τ<2*hY b/\0<dX a b s t τ then 1 else 0)=Pe s t a b+(wR s t τ a-wR s t τ b):=by
 have d1:=oZ ns nb nt;have d2:=oZ ns na nt;have q:∀ {u v:Pt},Bg u=true->Bg v=true->(u=v↔hY u=hY v):=fun hu hv=>⟨fun e=>by rw [e],MI hu hv⟩;have e1:tw s b t=-tw s t b:=aho s t b;have f1:hY a=hY s->tw a b s=0/\tw s t a=0:=fun h=>by
  have:=MI na ns h
  subst this;exact ⟨Yy a b,Yy a t⟩
 have f2:hY b=hY t->tw a b t=0/\tw s t b=0:=fun h=>by
  have:=MI nb nt h
  subst this;exact ⟨Yz a b,Yz s b⟩
 have f3:hY a≠hY s->hY a≠hY t->hY b≠hY s->hY b≠hY t->_:=fun h1 h2 h3 h4=>ahq (s:=s) (t:=t) hab hst (hno (fun e=>h1 Rw) (fun e=>h2 Rw) (fun e=>h3 Rw) (fun e=>h4 Rw));have k1:(a=s/\ET s b t)↔(hY a=hY s/\tw s t b<0):=by rw [d1,q na ns,e1];constructor<;>(rintro ⟨h1,h2⟩;exact ⟨h1,AB⟩)
 have k2:¬ (b=s/\ET s a t):=by rw [d2,q nb ns];rintro ⟨h1,h2⟩;omega
 have m1:NC a b s=if hY a<hY s/\hY s<hY b/\0<tw a b s then 1 else 0:=by unfold NC;rw [AX (show ¬ (hY b<hY s/\hY s<hY a/\0<tw b a s) by omega)]
 have gS:=aha a b s t;have gT:=ahb a b s t;have gA:=ahc a b s t;have gB:=ahd a b s t;have bw:=fun (α β:Int) (g1:α<τ) (g2:τ<β)=>arP (a:=a) (b:=b) (s:=s) (t:=t) g1 g2;unfold Pe;rw [m1,AX k2];simp only [k1];unfold wR;have sS:=aBe (show 0<hY t-hY s by omega) (tw a b s);have sT:=aBe (show 0<hY t-hY s by omega) (tw a b t);have sA:=aBe (show 0<hY b-hY a by omega) (tw s t a);have sB:=aBe (show 0<hY b-hY a by omega) (tw s t b);have MK:=bw (2*hY s) (2*hY b);have aW:=bw (2*hY s) (2*hY t);have Gj:=bw (2*hY a) (2*hY b);have aX:=bw (2*hY a) (2*hY t);rw [gS,gB] at MK;rw [gS,gT] at aW;rw [gA,gB] at Gj;rw [gA,gT] at aX;clear hno d1 d2 e1 q na nb ns nt k1 k2 m1 gS gT gA gB bw;generalize dX a b s t τ=D at *;generalize 16777216*(hY t-hY s)*tw a b s=vS at *;generalize 16777216*(hY t-hY s)*tw a b t=vT at *;generalize 16777216*(hY b-hY a)*tw s t a=vA at *;generalize 16777216*(hY b-hY a)*tw s t b=vB at *;generalize tw a b s=u1 at *;generalize tw a b t=u2 at *;generalize tw s t a=u3 at *;generalize tw s t b=u4 at *;generalize hY a=A at *;generalize hY b=B at *;generalize hY s=S at *;generalize hY t=T at *;refine arQ hab hA hB h1 h2 (fun c1 c2=>?_) (fun c1 c2=>?_) (fun c1 c3 c2=>?_) (fun c1 c2 c3=>?_) (fun c1 c2=>?_)
 ·rcases Ic B T with c4 | c4 | c4
  ·have f3:=(f3 AB AB AB AB).1 c1 AB c4;clear f1 f2 Gj aX aW sA sT;exact iQ (MK h1 c2) (.inl fun hp=>⟨sS.1.2 hp,AB⟩) (fun hp=>⟨AB,AB⟩)
  ·obtain ⟨g1,g2⟩:=f2 c4;clear f1 f2 f3 Gj aX MK sA sB;exact iQ (aW h1 h2) (.inl fun hp=>⟨sS.1.2 hp,AB⟩) (fun hp=>⟨AB,AB⟩)
  ·have f3:=(f3 AB AB AB AB).2.1 c1 c4;clear f1 f2 Gj aX MK sA sB;exact iQ (aW h1 h2) (.inl fun hp=>⟨sS.1.2 hp,AB⟩) (fun hp=>⟨AB,AB⟩)
 ·obtain ⟨g1,g2⟩:=f1 c1;clear f1 f2 f3 Gj aX aW sA sT;exact iQ (MK h1 c2) (.inr fun hp=>⟨AB,AB⟩) (fun hp=>⟨AB,AB⟩)
 ·rcases Ic B T with c4 | c4 | c4
  ·have f3:=(f3 AB AB AB AB).2.2.1 c1 c4;clear f1 f2 aW aX MK sS sT;exact iQ (Gj c3 c2) (.inl fun hp=>⟨AB,AB⟩) (fun hp=>⟨AB,AB⟩)
  ·obtain ⟨g1,g2⟩:=f2 c4;clear f1 f2 f3 aW aX MK sS sT;exact iQ (Gj c3 c2) (.inl fun hp=>⟨AB,AB⟩) (fun hp=>⟨AB,AB⟩)
  ·have f3:=(f3 AB AB AB AB).2.2.2 c1 AB c4;clear f1 f2 aW Gj MK sS sB;exact iQ (aX c3 h2) (.inl fun hp=>⟨AB,AB⟩) (fun hp=>⟨AB,AB⟩)
 · exact (f3 AB AB AB AB).1 c1 c2 c3
 · exact (f3 AB AB AB AB).2.2.1 c1 c2
theorem arT {p q:Pt} {dx dy:Int} (hN:0<8388608*dy+dx) (e:(q.x-p.x)*dy=(q.y-p.y)*dx) :
  (0<=dx->(CB p q=true↔hY p<hY q))/\(dx<0->(CB p q=true↔hY q<hY p)):=by
 have k:(8388608*(q.y-p.y)+(q.x-p.x))*dx=(q.x-p.x)*(8388608*dy+dx):=by grind
 have hd:hY q-hY p=8388608*(q.y-p.y)+(q.x-p.x):=by unfold hY;omega
 rw [<- hd] at k;have z:q.x-p.x=0->dx≠0->q.y-p.y=0:=fun h0 h1=>by
  rw [h0,JQ] at e;rcases Wn.1 e.symm with h2 | h2
  · exact h2
  · exact absurd h2 h1
 rw [MH];generalize 8388608*dy+dx=N at *;generalize hu:q.x-p.x=u at *;have s1:0<u->0<u*N:=fun h=>JO h hN;have s2:u<0->u*N<0:=fun h=>VI h hN;have s3:u=0->u*N=0:=fun h=>by rw [h,JQ]
 refine ⟨fun h=>?_,fun h=>?_⟩
 ·by_cases h0:dx=0
  ·subst h0;have hu0:u=0:=by
    rcases Ic u 0 with g | g | g
    · have:=s2 g;omega
    · exact g
    · have:=s1 g;omega
   unfold hY at *;omega
  ·have hp:0<dx:=by omega
   have t1:0<hY q-hY p->0<(hY q-hY p)*dx:=fun h=>JO h hp;have t2:hY q-hY p<0->(hY q-hY p)*dx<0:=fun h=>VI h hp;have t3:hY q-hY p=0->(hY q-hY p)*dx=0:=fun h=>by rw [h,JQ]
   omega
 ·have t1:0<hY q-hY p->(hY q-hY p)*dx<0:=fun g=>Wj g h;have t2:hY q-hY p<0->0<(hY q-hY p)*dx:=fun g=>rW g h;have t3:hY q-hY p=0->(hY q-hY p)*dx=0:=fun h=>by rw [h,JQ]
  omega
theorem ahe {X Y:Pt} (h:CB X Y=true):(if X=Y then (1:Int) else if CB X Y then 2 else 0)=2:=by
 rw [AX (fun e=>by rw [e,iY] at h;cases h),AZ h]
theorem arU {a b s t:Pt} (hab:hY a<hY b) (hst:hY s<hY t) (h1:tw a b s=0) (h2:tw a b t=0) (h3:hY s<hY b) (h4:hY a<hY t):Jw a b s t=2:=by
 have hN:0<8388608*(b.y-a.y)+(b.x-a.x):=by unfold hY at hab;omega
 have ln:∀ {p q:Pt},tw a b p=0->tw a b q=0->(q.x-p.x)*(b.y-a.y)=(q.y-p.y)*(b.x-a.x):=by
  intro p q hp hq
  have:tw a b q-tw a b p=(b.x-a.x)*(q.y-p.y)-(b.y-a.y)*(q.x-p.x):=by unfold tw;grind
  rw [hp,hq] at this;rw [KL (q.x-p.x),KL (q.y-p.y)];omega
 have B:∀ {p q:Pt},tw a b p=0->tw a b q=0->_:=fun hp hq=>arT hN (ln hp hq);have ha:=Yy a b;have hb:=Yz a b;have Bba:=B hb ha;have Bts:=B h2 h1;have Bsa:=B h1 ha;have Btb:=B h2 hb;have Bab:=B ha hb;have Bat:=B ha h2;have Bsb:=B h1 hb;have Bst:=B h1 h2;have Bta:=B h2 ha;have Bbs:=B hb h1;rw [Ve];by_cases hx:0<=b.x-a.x
 ·have e1:CB b a=false:=by rw [<- Iz,Bba.1 hx];omega
  have e2:CB t s=false:=by rw [<- Iz,Bts.1 hx];omega
  have l1:lo a b=a:=by unfold lo;rw [e1];simp
  have l2:hi a b=b:=by unfold hi;rw [e1];simp
  have l3:lo s t=s:=by unfold lo;rw [e2];simp
  have l4:hi s t=t:=by unfold hi;rw [e2];simp
  rw [l1,l2,l3,l4];unfold hi lo;refine ahe ?_
  cases e3:CB s a<;>cases e4:CB t b<;>simp only [Rt,if_true,if_false]
  · exact (Bsb.1 hx).2 h3
  · exact (Bst.1 hx).2 hst
  · exact (Bab.1 hx).2 hab
  · exact (Bat.1 hx).2 h4
 ·have hx:b.x-a.x<0:=by omega
  have e1:CB b a=true:=(Bba.2 hx).2 hab;have e2:CB t s=true:=(Bts.2 hx).2 hst;have l1:lo a b=b:=by unfold lo;rw [e1];simp
  have l2:hi a b=a:=by unfold hi;rw [e1];simp
  have l3:lo s t=t:=by unfold lo;rw [e2];simp
  have l4:hi s t=s:=by unfold hi;rw [e2];simp
  rw [l1,l2,l3,l4];unfold hi lo;refine ahe ?_
  cases e3:CB t b<;>cases e4:CB s a<;>simp only [Rt,if_true,if_false]
  · exact (Bta.2 hx).2 h4
  · exact (Bts.2 hx).2 hst
  · exact (Bba.2 hx).2 hab
  · exact (Bbs.2 hx).2 h3
theorem pF {a b s t:Pt} (hab:a≠b) (h1:tw a b s=0) (h2:tw a b t=0):tw s t a=0/\tw s t b=0:=by
 have hne:=Pt.aAi hab;unfold tw at *;have e1:(b.x-a.x)*(t.y-s.y)-(b.y-a.y)*(t.x-s.x)=0:=by grind
 have e2:(b.x-a.x)*(a.y-s.y)-(b.y-a.y)*(a.x-s.x)=0:=by grind
 have e3:(b.x-a.x)*(b.y-s.y)-(b.y-a.y)*(b.x-s.x)=0:=by grind
 exact ⟨parallel hne e1 e2,parallel hne e1 e3⟩
theorem ad9 {a b s t u v x y:Pt} (hu:(u=a/\v=b)\/(u=b/\v=a)) (hx:(x=s/\y=t)\/(x=t/\y=s))
  (hab:hY a<hY b) (hst:hY s<hY t) (h1:tw a b s=0) (h2:tw a b t=0) (h3:hY s<hY b) (h4:hY a<hY t):Me u v x y=2:=by
 have hs:=arU hab hst h1 h2 h3 h4;have hne:a≠b:=fun e=>by rw [e] at hab;omega
 obtain ⟨h5,h6⟩:=pF hne h1 h2;have f1:∀ a b c:Pt,tw b a c=-tw a b c:=fun a b c=>by unfold tw;grind
 have hs':Jw u v x y=2:=by
  have c1:Jw b a s t=2:=by rw [<- nV];exact hs
  have c2:Jw a b t s=2:=by rw [XF,nV,XF];exact hs
  have c3:Jw b a t s=2:=by rw [XF,nV,XF];exact c1
  rcases hu with ⟨rfl,rfl⟩ | ⟨rfl,rfl⟩<;>rcases hx with ⟨rfl,rfl⟩ | ⟨rfl,rfl⟩<;>assumption
 have huv:u≠v:=by
  rcases hu with ⟨rfl,rfl⟩ | ⟨rfl,rfl⟩
  · exact hne
  · exact fun e=>hne e.symm
 have z1:tw u v x=0/\tw u v y=0:=by
  rcases hu with ⟨rfl,rfl⟩ | ⟨rfl,rfl⟩<;>rcases hx with ⟨rfl,rfl⟩ | ⟨rfl,rfl⟩<;>first | exact ⟨h1,h2⟩ | exact ⟨h2,h1⟩ | (constructor<;>rw [f1]<;>omega)
 obtain ⟨z2,z3⟩:=pF huv z1.1 z1.2;have q1:BM u v x y=0:=by rw [acw];omega
 have q2:BM u v u x=0:=z1.1;have q3:BM u v u y=0:=z1.2;have q4:BM x y x u=0:=z2;have q5:BM x y x v=0:=z3;unfold Me;rw [AX (fun e=>huv e.1),AZ q1,AZ ⟨q2,q3,q4,q5⟩];exact hs'
theorem arV {a b s t:Pt} (na:Bg a=true) (nb:Bg b=true) (ns:Bg s=true) (nt:Bg t=true) (hab:hY a<hY b) (hst:hY s<hY t)
  (hno:a≠s->a≠t->b≠s->b≠t->MJ a b s t) {τ:Int} (h1:2*hY s<τ) (h2:τ<2*hY t) (h3:2*hY a<τ) (h4:τ<2*hY b)
  (h0:dX a b s t τ=0):tw a b s=0/\tw a b t=0:=by
 have l1:=ad8 a b s t (2*hY s) τ (2*hY t);have l2:=ad8 a b s t (2*hY a) τ (2*hY b);rw [h0,JQ,aha,ahb] at l1;rw [h0,JQ,ahc,ahd] at l2;have k1:tw a b s*(2*hY t-τ)+tw a b t*(τ-2*hY s)=0:=by
  have:(16777216*(hY t-hY s))*(tw a b s*(2*hY t-τ)+tw a b t*(τ-2*hY s))=0:=by
   rw [aaz,<- ru,<- ru];exact l1.symm
  rcases Wn.1 this with g | g
  · omega
  · exact g
 have k2:tw s t a*(2*hY b-τ)+tw s t b*(τ-2*hY a)=0:=by
  have:(16777216*(hY b-hY a))*(tw s t a*(2*hY b-τ)+tw s t b*(τ-2*hY a))=0:=by
   rw [aaz,<- ru,<- ru];rw [OZ,OZ] at l2;omega
  rcases Wn.1 this with g | g
  · omega
  · exact g
 have sg:∀ {u v p q:Int},0<p->0<q->u*p+v*q=0->(u<=0/\0<=v/\(u=0↔v=0))\/(0<=u/\v<=0/\(u=0↔v=0)):=by
  intro u v p q hp hq e;have a1:0<u->0<u*p:=fun h=>JO h hp;have a2:u<0->u*p<0:=fun h=>VI h hp;have a3:0<v->0<v*q:=fun h=>JO h hq;have a4:v<0->v*q<0:=fun h=>VI h hq;have a5:u=0->u*p=0:=fun h=>by rw [h,JQ]
  have a6:v=0->v*q=0:=fun h=>by rw [h,JQ]
  omega
 have g1:=sg (show 0<2*hY t-τ by omega) (show 0<τ-2*hY s by omega) k1;have g2:=sg (show 0<2*hY b-τ by omega) (show 0<τ-2*hY a by omega) k2;have d:=vZ a b s t;by_cases hp:tw a b t-tw a b s=0
 · omega
 ·by_cases c1:a=s
  ·subst c1;have:=Yy a b
   omega
  by_cases c2:b=t
  ·subst c2;have:=Yz a b
   omega
  have NM:=hno c1 (fun e=>by rw [e] at h3;omega) (fun e=>by rw [e] at h4;omega) c2 hp;omega
section
variable {p:Pl} (h:Valid p)
include h
theorem Valid.ahf {a b:Ar} (ha:a∈p.AU) (hb:b∈p.AU) {k m:Nat} (hk:k+1<(AV p a).length) (hm:m+1<(AV p b).length) (hne:¬ (a=b/\k=m)) :
  ¬ (Me ((AV p a).getD k AY) ((AV p a).getD (k+1) AY) ((AV p b).getD m AY) ((AV p b).getD (m+1) AY)=2/\Me ((AV p b).getD m AY) ((AV p b).getD (m+1) AY) ((AV p a).getD k AY) ((AV p a).getD (k+1) AY)=2):=by
 have Z9:∀ {c d:Ar} {i j:Nat},c∈p.AU->d∈p.AU->i+1<(AV p c).length->j+1<(AV p d).length->Dy [(AV p c).getD i AY,(AV p c).getD (i+1) AY,(AV p d).getD j AY,(AV p d).getD (j+1) AY]=true:=fun hc hd hi hj =>
  Yu (h.DW hc AB) (h.DW hc hi) (h.DW hd AB) (h.DW hd hj)
 have same:∀ {a:Ar} (ha:a∈p.AU) {i j:Nat},i<j->j+1<(AV p a).length->Me ((AV p a).getD i AY) ((AV p a).getD (i+1) AY) ((AV p a).getD j AY) ((AV p a).getD (j+1) AY)≠2:=by
  intro a ha i j hij hj;have hap:=h.Qx.2.1 a ha i j hij hj;unfold UD Dj at hap;simp only at hap;unfold Fp at hap;rw [AZ (Z9 ha ha AB hj)] at hap;intro e;rw [e] at hap;split at hap<;>exact absurd hap BG
 have other:∀ {c d:Ar} {i j:Nat},c∈p.AU->d∈p.AU->i+1<(AV p c).length->j+1<(AV p d).length->PU p (Dj p c i) (Dj p d j)=true ->
   Me ((AV p c).getD i AY) ((AV p c).getD (i+1) AY) ((AV p d).getD j AY) ((AV p d).getD (j+1) AY)≠2:=by
  intro c d i j hc hd hi hj hjo e;unfold PU Dj Fp at hjo;simp only at hjo;rw [AZ (Z9 hc hd hi hj),e,AX BG] at hjo;exact absurd hjo BG
 rintro ⟨h1,h2⟩;by_cases hab:a=b
 ·subst hab;rcases PD k m with hkm | hkm | hkm
  · exact same ha hkm hm h1
  · exact hne ⟨rfl,hkm⟩
  · exact same ha hkm hk h2
 ·have hpw:=h.Qx.2.2;obtain ⟨i,hi,rfl⟩:=Dp.1 ha;obtain ⟨j,hj,rfl⟩:=Dp.1 hb;rw [Fe] at hpw;rcases PD i j with hij | hij | hij
  · exact other ha hb hk hm (hpw i j hi hj hij k hk m hm) h1
  · subst hij;exact hab rfl
  · exact other hb ha hm hk (hpw j i hj hi hij m hm k hk) h2
theorem Valid.arW {c d:Ar} (hc:c∈p.AU) (hd:d∈p.AU) {k m:Nat} (hk:k+1<(AV p c).length) (hm:m+1<(AV p d).length) (hne:¬ (c=d/\k=m)) {a b s t:Pt}
  (hu:((AV p c).getD k AY=a/\(AV p c).getD (k+1) AY=b)\/((AV p c).getD k AY=b/\(AV p c).getD (k+1) AY=a))
  (hx:((AV p d).getD m AY=s/\(AV p d).getD (m+1) AY=t)\/((AV p d).getD m AY=t/\(AV p d).getD (m+1) AY=s))
  {τ:Int} (h1:2*hY s<τ) (h2:τ<2*hY t) (h3:2*hY a<τ) (h4:τ<2*hY b):dX a b s t τ≠0:=by
 intro h0;have n1:=h.DW hc (k:=k) AB;have n2:=h.DW hc (k:=k+1) hk;have n3:=h.DW hd (k:=m) AB;have n4:=h.DW hd (k:=m+1) hm;have NM:=fun h1 h2 h3 h4=>h.acy hc hd hk hm h1 h2 h3 h4;have one:=h.ahf hc hd hk hm hne;generalize (AV p c).getD k AY=u at *;generalize (AV p c).getD (k+1) AY=v at *;generalize (AV p d).getD m AY=x at *;generalize (AV p d).getD (m+1) AY=y at *;have na:Bg a=true/\Bg b=true:=by rcases hu with ⟨rfl,rfl⟩ | ⟨rfl,rfl⟩<;>exact ⟨KP,KP⟩
 have ns:Bg s=true/\Bg t=true:=by rcases hx with ⟨rfl,rfl⟩ | ⟨rfl,rfl⟩<;>exact ⟨KP,KP⟩
 have hno:a≠s->a≠t->b≠s->b≠t->MJ a b s t:=fun g1 g2 g3 g4=>by
  rcases hu with ⟨rfl,rfl⟩ | ⟨rfl,rfl⟩<;>rcases hx with ⟨rfl,rfl⟩ | ⟨rfl,rfl⟩
  · exact NM g1 g2 g3 g4
  · exact (NM g2 g1 g4 g3).comm.flip.comm
  · exact (NM g3 g4 g1 g2).flip
  · exact (NM g4 g3 g2 g1).flip.comm.flip.comm
 have hab:hY a<hY b:=by omega
 have hst:hY s<hY t:=by omega
 obtain ⟨z1,z2⟩:=arV na.1 na.2 ns.1 ns.2 hab hst hno h1 h2 h3 h4 h0;obtain ⟨z3,z4⟩:=pF (fun e=>by rw [e] at hab;omega) z1 z2;exact one ⟨ad9 hu hx hab hst z1 z2 AB AB,ad9 hx hu hst hab z3 z4 AB AB⟩
end
