import Derived.Test.YtialfdomhoojiaaGreatJ09
set_option linter.unusedSimpArgs false
set_option linter.unusedVariables false
namespace Go.Proofs.YtialfdomhoojiaaGreat
open Go.RowKit
theorem Ja {o a b:Pt} (h:eH o a b):¬ eH o b a:=by
 unfold eH su at *;rw [Int.mul_comm (b.x-o.x),Int.mul_comm (b.y-o.y)];rcases h with ⟨h1,h2⟩ | ⟨h1,h2⟩
 ·rintro (⟨h3,h4⟩ | ⟨h3,h4⟩)
  · exact h1 h4
  · exact h1 (h3.1 h2)
 ·rintro (⟨h3,h4⟩ | ⟨h3,h4⟩)
  · exact h3 (h1.1 h4)
  · omega
theorem amR (o a:Pt):¬ eH o a a:=fun h=>Ja h h
def tq (v u a b:Pt):Int:=o8 a b v+(if a=v/\eH v b u then 1 else 0)-(if b=v/\eH v a u then 1 else 0)
def Gj (v u a b:Pt):Int:=o8 a b v-(if a=v/\eH v u b then 1 else 0)+(if b=v/\eH v u a then 1 else 0)
def mY (p:Pl) (z:Int->Int) (v u:Pt):Int:=bZ p z (tq v u)
def rM (p:Pl) (z:Int->Int) (v u:Pt):Int:=bZ p z (Gj v u)
theorem ae3 (v u a b:Pt):tq v u b a=-tq v u a b:=by unfold tq;rw [ZC];omega
theorem amS (v u a b:Pt):Gj v u b a=-Gj v u a b:=by unfold Gj;rw [ZC];omega
def zD (z:Int->Int) (d:Int):Int:=if 0<d then z d else -z (-d)
def yc (φ:Pt->Int) (v a b:Pt):Int:=(if a=v then φ b else 0)-(if b=v then φ a else 0)
def ind (P:Prop) [Decidable P] : Int:=if P then 1 else 0
theorem amT (v u w a b:Pt):Gj v u a b-tq v w a b=-yc (fun x=>ind (eH v u x)+ind (eH v x w)) v a b:=by
 unfold Gj tq yc ind;by_cases h1:a=v<;>by_cases h2:b=v<;>simp only [h1,h2,true_and,false_and,if_true,if_false]<;>omega
theorem PD (p:Pl) (z:Int->Int) (v u w:Pt):rM p z v u-mY p z v w=-bZ p z (yc (fun x=>ind (eH v u x)+ind (eH v x w)) v):=by
 unfold rM mY;rw [<- aeU,<- aeT];refine Px fun a _ k _=>amT _ _ _ _ _
section
variable {p:Pl} (h:Valid p)
include h
theorem Valid.ae4 {z:Int->Int} (hz:iy p z) {c:Ar} (hc:c∈p.ah) {m:Nat} (hm:m+1<(ak p c).length) {s t:Pt}
  (he:(s=(ak p c).getD m aB/\t=(ak p c).getD (m+1) aB)\/(t=(ak p c).getD m aB/\s=(ak p c).getD (m+1) aB)) (hst:hY s<hY t):mY p z s t=rM p z t s:=by
 have hd:mY p z s t-rM p z t s=bZ p z (fun a b=>Po s t b-Po s t a):=by
  unfold rM mY;rw [<- aeU];refine Px fun a ha k hk=>?_;have na:=h.bW ha (k:=k) (by omega);have nb:=h.bW ha (k:=k+1) hk;have n1:=h.bW hc (k:=m) (by omega);have n2:=h.bW hc (k:=m+1) hm;have hne:=(h.distinct ha hk).1;have NM:=fun h1 h2 h3 h4=>h.ZG ha hc hk hm h1 h2 h3 h4;generalize (ak p a).getD k aB=x at *;generalize (ak p a).getD (k+1) aB=y at *;generalize (ak p c).getD m aB=e at *;generalize (ak p c).getD (m+1) aB=f at *;have ns:aU s=true:=by rcases he with ⟨rfl,-⟩ | ⟨-,rfl⟩<;>assumption
  have nt:aU t=true:=by rcases he with ⟨-,rfl⟩ | ⟨rfl,-⟩<;>assumption
  have PE:x≠s->x≠t->y≠s->y≠t->oL x y s t:=fun h1 h2 h3 h4=>by
   rcases he with ⟨rfl,rfl⟩ | ⟨rfl,rfl⟩
   · exact NM h1 h2 h3 h4
   · exact (NM h2 h1 h4 h3).comm.flip.comm
  rcases Int.lt_trichotomy (hY x) (hY y) with h1 | h1 | h1
  ·have:=aeS na nb ns nt h1 hst PE
   unfold tq Gj;omega
  · exact absurd (mg na nb h1) hne
  ·have:=aeS nb na ns nt h1 hst (fun h1 h2 h3 h4=>(PE h3 h4 h1 h2).flip)
   have e1:=ae3 s t x y;have e2:=amS t s x y;unfold tq at e1 ⊢;unfold Gj at e2 ⊢;omega
 rw [h.LP hz] at hd;omega
theorem Valid.ZL {a:Ar} (ha:a∈p.ah) {j:Nat} (h0:0<j) (hj:j+1<(ak p a).length) {b:Ar} (hb:b∈p.ah) {k:Nat} (hk:k<(ak p b).length) (e:(ak p b).getD k aB=(ak p a).getD j aB):b=a/\k=j:=by
 have hla:=fM p a;have hlb:=fM p b;obtain ⟨i,rfl⟩:∃ i,j=i+1:=⟨j-1,by omega⟩;have hi:i<a.via.length:=by omega
 rw [Gg p a i hi] at e;have hk0:k≠0:=by
  rintro rfl;obtain ⟨n,hn,-,e2⟩:=h.sound.AU hb;rw [yZ,e2] at e;exact h.TY ha hi hn e.symm
 have hk1:k≠(ak p b).length-1:=by
  rintro rfl;obtain ⟨n,hn,-,e2⟩:=h.sound.CS hb;rw [zf,e2] at e;exact h.TY ha hi hn e.symm
 obtain ⟨l,rfl⟩:∃ l,k=l+1:=⟨k-1,by omega⟩;have hl:l<b.via.length:=by omega
 rw [Gg p b l hl] at e;by_cases hab:b=a
 ·subst hab;refine ⟨rfl,?_⟩;rcases Nat.lt_trichotomy l i with h1 | h1 | h1
  · exact absurd e (h.Ze hb h1 hi)
  · omega
  · exact absurd e.symm (h.Ze hb h1 hl)
 ·exfalso;have hpw:=h.aej;obtain ⟨x,hx,rfl⟩:=List.mem_iff_getElem.1 ha;obtain ⟨y,hy,rfl⟩:=List.mem_iff_getElem.1 hb;rw [List.pairwise_iff_getElem] at hpw;rcases Nat.lt_trichotomy x y with h1 | h1 | h1
  · exact hpw x y hx hy h1 _ (List.getElem_mem hi) _ (List.getElem_mem hl) e.symm
  · subst h1;exact hab rfl
  · exact hpw y x hy hx h1 _ (List.getElem_mem hl) _ (List.getElem_mem hi) e
theorem Valid.ae5 {n m:Nd} (hn:n∈p.nodes) (hm:m∈p.nodes) (e:n.pt=m.pt):n=m:=by
 have hpw:=(ae2 _).1 h.dup;rw [List.pairwise_map,List.pairwise_iff_getElem] at hpw;obtain ⟨i,hi,rfl⟩:=List.mem_iff_getElem.1 hn;obtain ⟨j,hj,rfl⟩:=List.mem_iff_getElem.1 hm;rcases Nat.lt_trichotomy i j with h1 | h1 | h1
 · exact absurd e (hpw i j hi hj h1)
 · subst h1;rfl
 · exact absurd e.symm (hpw j i hj hi h1)
theorem Valid.Ul {n:Nd} (hn:n∈p.nodes) {b:Ar} (hb:b∈p.ah) {k:Nat} (hk:k<(ak p b).length) (e:(ak p b).getD k aB=n.pt):(k=0/\b.fr=n.id)\/(k=(ak p b).length-1/\b.dst=n.id):=by
 have hlb:=fM p b;by_cases hk0:k=0
 ·subst hk0;obtain ⟨m,hm,e1,e2⟩:=h.sound.AU hb;rw [yZ,e2] at e
  left;exact ⟨rfl,by rw [<- e1,h.ae5 hm hn e]⟩
 ·by_cases hk1:k=(ak p b).length-1
  ·subst hk1;obtain ⟨m,hm,e1,e2⟩:=h.sound.CS hb;rw [zf,e2] at e
   right;exact ⟨rfl,by rw [<- e1,h.ae5 hm hn e]⟩
  ·exfalso;obtain ⟨l,rfl⟩:∃ l,k=l+1:=⟨k-1,by omega⟩;have hl:l<b.via.length:=by omega
   rw [Gg p b l hl] at e;exact h.TY hb hl hn e
theorem Valid.Um (z:Int->Int) (φ:Pt->Int) {a:Ar} (ha:a∈p.ah) {j:Nat} (h0:0<j) (hj:j+1<(ak p a).length) :
  bZ p z (yc φ ((ak p a).getD j aB))=z a.id*(φ ((ak p a).getD (j+1) aB)-φ ((ak p a).getD (j-1) aB)):=by
 have key:∀ b∈p.ah,jY (yc φ ((ak p a).getD j aB)) (ak p b)=if b=a then φ ((ak p a).getD (j+1) aB)-φ ((ak p a).getD (j-1) aB) else 0:=by
  intro b hb;unfold jY yc;simp only [Int.sub_eq_add_neg];rw [sZ,vk];rw [Pv _ j _ (fun k hk hkj=>if_neg (fun e=>hkj (h.ZL ha h0 hj hb (by omega) e).2))];rw [Pv _ (j-1) _ (fun k hk hkj=>if_neg (fun e=>hkj (by have:=(h.ZL ha h0 hj hb (by omega) e).2;omega)))];by_cases hab:b=a
  ·subst hab;rw [if_pos rfl,if_pos (by omega),if_pos (by omega),if_pos rfl,show j-1+1=j by omega,if_pos rfl]
  ·rw [if_neg hab];have e1:∀ k,k<(ak p b).length->¬ (ak p b).getD k aB=(ak p a).getD j aB:=fun k hk e=>hab (h.ZL ha h0 hj hb hk e).1;by_cases h1:j<(ak p b).length-1
   · rw [if_pos h1,if_neg (e1 j (by omega)),if_pos (by omega),if_neg (e1 (j-1+1) (by omega))];rfl
   ·rw [if_neg h1];by_cases h2:j-1<(ak p b).length-1
    · rw [if_pos h2,if_neg (e1 (j-1+1) (by omega))];rfl
    · rw [if_neg h2];rfl
 unfold bZ;rw [iC _ _ (fun b:Ar=>if a.id=b.id then z b.id*(φ ((ak p a).getD (j+1) aB)-φ ((ak p a).getD (j-1) aB)) else 0) (fun b hb=>by
  rw [key b hb];by_cases hab:b=a
  · subst hab;rw [if_pos rfl,if_pos rfl]
  · rw [if_neg hab,if_neg (fun e=>hab (h.Zo hb ha e.symm)),Int.mul_zero])]
 exact LM p.ah (·.id) h.sound.ah (fun i=>z i*(φ ((ak p a).getD (j+1) aB)-φ ((ak p a).getD (j-1) aB))) a.id ⟨a,ha,rfl⟩
theorem Valid.ZN (z:Int->Int) (φ:Pt->Int) {n:Nd} (hn:n∈p.nodes):bZ p z (yc φ n.pt)=((dO p.ah n.id).map fun d=>zD z d*φ (dN p d)).sum:=by
 have key:∀ b∈p.ah,z b.id*jY (yc φ n.pt) (ak p b)=(((if b.fr=n.id then [b.id] else [])++(if b.dst=n.id then [-b.id] else [])).map fun d=>zD z d*φ (dN p d)).sum:=by
  intro b hb;have hlb:=fM p b;have hid:=h.jB hb;have hfd:=h.find hb;have t1:dN p b.id=(ak p b).getD 1 aB:=h.LC hb;have t2:dN p (-b.id)=(ak p b).getD b.via.length aB:=h.IZ hb;have z1:zD z b.id=z b.id:=by unfold zD;rw [if_pos (by omega)]
  have z2:zD z (-b.id)=-z b.id:=by unfold zD;rw [if_neg (by omega),Int.neg_neg]
  have hs:jY (yc φ n.pt) (ak p b)=(if b.fr=n.id then φ ((ak p b).getD 1 aB) else 0)-(if b.dst=n.id then φ ((ak p b).getD b.via.length aB) else 0):=by
   have f1:(ak p b).getD 0 aB=n.pt↔b.fr=n.id:=by
    constructor
    ·intro e;rcases h.Ul hn hb (by omega) e with ⟨-,e⟩ | ⟨e,-⟩
     · exact e
     · omega
    ·intro e;rw [yZ,e];exact h.sound.sH hn
   have f2:(ak p b).getD (b.via.length+1) aB=n.pt↔b.dst=n.id:=by
    have e1:=zf p b;rw [hlb,show b.via.length+2-1=b.via.length+1 by omega] at e1;constructor
    ·intro e;rcases h.Ul hn hb (by omega) e with ⟨e,-⟩ | ⟨-,e⟩
     · omega
     · exact e
    ·intro e;rw [e1,e];exact h.sound.sH hn
   unfold jY yc;simp only [Int.sub_eq_add_neg];rw [sZ,vk];rw [Pv _ 0 _ (fun k hk hkj=>if_neg (fun e=>by rcases h.Ul hn hb (by omega) e with ⟨e,-⟩ | ⟨e,-⟩<;>omega))];rw [Pv _ b.via.length _ (fun k hk hkj=>if_neg (fun e=>by rcases h.Ul hn hb (by omega) e with ⟨e,-⟩ | ⟨e,-⟩<;>omega))];rw [if_pos (show 0<(ak p b).length-1 by omega),if_pos (show b.via.length<(ak p b).length-1 by omega)];simp only [f1,f2]
  rw [hs,List.map_append,List.sum_append];by_cases c1:b.fr=n.id<;>by_cases c2:b.dst=n.id<;>simp only [c1,c2,if_true,if_false,List.map_cons,List.map_nil,List.sum_cons,List.sum_nil,t1,t2,z1,z2]<;>grind
 unfold bZ dO;rw [iC _ _ _ key];generalize p.ah=l
 induction l with
 | nil=>rfl
 | cons b l ih=>rw [List.map_cons,List.sum_cons,List.flatMap_cons,ih];simp only [List.map_append,List.sum_append]
theorem Valid.ae6 {z:Int->Int} (hz:iy p z) {n:Nd} (hn:n∈p.nodes):((dO p.ah n.id).map fun d=>zD z d).sum=0:=by
 have h1:=hz n hn;have e:((dO p.ah n.id).map fun d=>zD z d).sum=-(p.ah.map fun a=>z a.id*((if a.dst=n.id then 1 else 0)-(if a.fr=n.id then 1 else 0))).sum:=by
  have hid:∀ b∈p.ah,1<=b.id:=fun b hb=>(h.jB hb).1;unfold dO;generalize p.ah=l at hid
  induction l with
  | nil=>rfl
  | cons b l ih =>
   have:=hid b (by simp)
   have z1:zD z b.id=z b.id:=by unfold zD;rw [if_pos (by omega)]
   have z2:zD z (-b.id)=-z b.id:=by unfold zD;rw [if_neg (by omega),Int.neg_neg]
   rw [List.map_cons,List.sum_cons,List.flatMap_cons,List.map_append,List.sum_append,ih (fun c hc=>hid c (by simp [hc]))];by_cases c1:b.fr=n.id<;>by_cases c2:b.dst=n.id<;>simp only [c1,c2,if_true,if_false,List.map_append,List.sum_append,List.map_cons,List.map_nil,List.sum_cons,List.sum_nil,z1,z2]<;>grind
 rw [e,h1];rfl
end
theorem amU {l:List Int} (hl:l.Nodup) {d:Int} (hd:d∈l) (c:Int->Int):(l.map fun x=>if x=d then c x else 0).sum=c d:=by
 induction l with
 | nil=>cases hd
 | cons a l ih =>
  rw [List.nodup_cons] at hl;rw [List.map_cons,List.sum_cons];rcases List.mem_cons.1 hd with rfl | hd
  · rw [if_pos rfl,wE l _ (fun x hx=>if_neg (by rintro rfl;exact hl.1 hx))];omega
  · rw [if_neg (by rintro rfl;exact hl.1 hd),ih hl.2 hd];omega
theorem amV (z:Int->Int) {d:Int} (h:d≠0):zD z (-d)=-zD z d:=by
 unfold zD;by_cases h1:0<d
 · rw [if_neg (by omega),if_pos h1,Int.neg_neg]
 · rw [if_pos (by omega),if_neg h1,Int.neg_neg]
theorem Ej (o a:Pt):ind (eH o a a)=0:=if_neg (amR o a)
theorem ZP {o a b:Pt} (h:eH o a b\/eH o b a):ind (eH o a b)+ind (eH o b a)=1:=by
 unfold ind;rcases h with h | h
 · rw [if_pos h,if_neg (Ja h)];rfl
 · rw [if_neg (Ja h),if_pos h];rfl
section
variable {p:Pl} (h:Valid p)
include h
theorem Valid.ZQ {a:Ar} (ha:a∈p.ah) {k:Nat} (hk:k+2<(ak p a).length):eH ((ak p a).getD (k+1) aB) ((ak p a).getD k aB) ((ak p a).getD (k+2) aB)\/eH ((ak p a).getD (k+1) aB) ((ak p a).getD (k+2) aB) ((ak p a).getD k aB):=by
 have d1:=(h.distinct ha (k:=k) (by omega)).1;have d2:=(h.distinct ha (k:=k+1) (by omega)).1;have n0:=h.bW ha (k:=k) (by omega);have n1:=h.bW ha (k:=k+1) (by omega);have n2:=h.bW ha (k:=k+2) (by omega);have hap:=h.uV.2.1 a ha k (k+1) (by omega) (by omega);unfold Cj at hap;rw [if_pos (.inl rfl)] at hap;unfold bI at hap;simp only [beq_iff_eq] at hap;generalize (ak p a).getD k aB=u at *;generalize (ak p a).getD (k+1) aB=o at *;rw [show k+1+1=k+2 by omega] at *;generalize (ak p a).getD (k+2) aB=v at *;apply Classical.byContradiction;intro hno;obtain ⟨-,r2,-,-⟩:=aek n1 n0 n2 d1 (fun e=>d2 e.symm) (fun e=>hno (.inl e)) (fun e=>hno (.inr e));rw [r2] at hap;exact absurd hap (by decide)
theorem Valid.amW (z:Int->Int) {a:Ar} (ha:a∈p.ah) {k:Nat} (hk:k+2<(ak p a).length):rM p z ((ak p a).getD (k+1) aB) ((ak p a).getD (k+2) aB)-mY p z ((ak p a).getD (k+1) aB) ((ak p a).getD (k+2) aB)=z a.id:=by
 rw [PD,h.Um z _ ha (j:=k+1) (by omega) hk,show k+1-1=k by omega,show k+1+1=k+2 by omega,Ej,ZP (h.ZQ ha hk).symm]
 grind
theorem Valid.ae7 (z:Int->Int) {a:Ar} (ha:a∈p.ah) {k:Nat} (hk:k+2<(ak p a).length):rM p z ((ak p a).getD (k+1) aB) ((ak p a).getD k aB)-mY p z ((ak p a).getD (k+1) aB) ((ak p a).getD k aB)=-z a.id:=by
 rw [PD,h.Um z _ ha (j:=k+1) (by omega) hk,show k+1-1=k by omega,show k+1+1=k+2 by omega,Ej,ZP (h.ZQ ha hk)]
 grind
theorem Valid.amX (z:Int->Int) {a:Ar} (ha:a∈p.ah) {k:Nat} (hk:k+2<(ak p a).length):rM p z ((ak p a).getD (k+1) aB) ((ak p a).getD k aB)=mY p z ((ak p a).getD (k+1) aB) ((ak p a).getD (k+2) aB):=by
 have e:=PD p z ((ak p a).getD (k+1) aB) ((ak p a).getD k aB) ((ak p a).getD (k+2) aB);rw [h.Um z _ ha (j:=k+1) (by omega) hk,show k+1-1=k by omega,show k+1+1=k+2 by omega,Ej,Ej,Int.add_zero,Int.zero_add,Int.sub_self,Int.mul_zero] at e;omega
theorem Valid.LU {z:Int->Int} (hz:iy p z) {n:Nd} (hn:n∈p.nodes) {d:Int} (hd:d∈dO p.ah n.id):rM p z n.pt (dN p d)-mY p z n.pt (dN p d)=zD z d:=by
 rw [PD,h.ZN z _ hn];have h0:=h.ae6 hz hn;have h1:=amU (h.aeA (n:=n.id)) hd (fun x=>zD z x);have e:((dO p.ah n.id).map fun x=>zD z x*(ind (eH n.pt (dN p d) (dN p x))+ind (eH n.pt (dN p x) (dN p d)))).sum=((dO p.ah n.id).map fun x=>zD z x + -(if x=d then zD z x else 0)).sum:=by
  refine iC _ _ _ fun x hx=>?_;by_cases hxd:x=d
  ·subst hxd;rw [Ej,if_pos rfl];omega
  · rw [ZP (h.dirs hn hd hx (fun e=>hxd e.symm)),if_neg hxd];omega
 rw [e,sZ,vk,h0,h1];omega
theorem Valid.ae8 {n:Nd} (hn:n∈p.nodes) {i j:Nat} (hij:i<j) (hj:j<(dJ p n.id).length):eH n.pt (dN p ((dJ p n.id)[i]'(by omega))) (dN p (dJ p n.id)[j]):=by
 have hmem:∀ {x:Int},x∈dJ p n.id->x∈dO p.ah n.id:=fun hx=>(h.nT hn).subset hx;have hs:=(Ph (h.LD hn)).2;rw [<- h.Pj hn,List.pairwise_iff_getElem] at hs;have h1:=hs i j (by omega) hj hij;have hne:(dJ p n.id)[i]≠(dJ p n.id)[j]:=fun e=>by
  have hnd:=h.Gi hn;rw [List.nodup_iff_pairwise_ne,List.pairwise_iff_getElem] at hnd;exact hnd i j (by omega) hj hij e
 have m1:=hmem (List.getElem_mem (show i<(dJ p n.id).length by omega));have m2:=hmem (List.getElem_mem hj);rcases h.dirs hn m1 m2 hne with h2 | h2
 · exact h2
 ·exfalso;obtain ⟨n0,n1,x1⟩:=h.I4 hn m1;obtain ⟨-,n2,x2⟩:=h.I4 hn m2;unfold ltD at h1;rw [(adn _ _ _).2 ⟨by simp [fE,n0,n1,n2],x2,x1,h2⟩] at h1
  cases h1
theorem Valid.amY {z:Int->Int} (hz:iy p z) {n:Nd} (hn:n∈p.nodes) {d:Int} (hd:d∈dJ p n.id):rM p z n.pt (dN p (precD (dJ p n.id) d))=mY p z n.pt (dN p d):=by
 have hnd:=h.Gi hn;have hp:=h.nT hn;have hso:=fun {i j:Nat}=>h.ae8 hn (i:=i) (j:=j);have e:=PD p z n.pt (dN p (precD (dJ p n.id) d)) (dN p d);rw [h.ZN z _ hn] at e;have h0:=h.ae6 hz hn;obtain ⟨i,hi,rfl⟩:=List.mem_iff_getElem.1 hd;rw [Gh hnd hi] at e ⊢;have Un:∀ i j (hi:i<(dJ p n.id).length) (hj:j<(dJ p n.id).length),ind (eH n.pt (dN p (dJ p n.id)[i]) (dN p (dJ p n.id)[j]))=if i<j then 1 else 0:=by
  intro i j hi hj;rcases Nat.lt_trichotomy i j with h1 | h1 | h1
  · rw [if_pos h1];exact if_pos (hso h1 hj)
  · subst h1;rw [if_neg (by omega)];exact Ej _ _
  · rw [if_neg (by omega)];exact if_neg (Ja (hso h1 hi))
 have hc:∃ c:Int,∀ x∈dO p.ah n.id,ind (eH n.pt (dN p ((dJ p n.id)[(i+(dJ p n.id).length-1) % (dJ p n.id).length]'(Nat.mod_lt _ (by omega)))) (dN p x))+ind (eH n.pt (dN p x) (dN p (dJ p n.id)[i]))=c:=by
  by_cases h1:i=0
  ·refine ⟨0,fun x hx=>?_⟩;obtain ⟨j,hj,rfl⟩:=List.mem_iff_getElem.1 (hp.symm.subset hx);have hm:(i+(dJ p n.id).length-1) % (dJ p n.id).length=(dJ p n.id).length-1:=by rw [h1];rw [Nat.zero_add];exact Nat.mod_eq_of_lt (by omega)
   rw [Un _ _ (Nat.mod_lt _ (by omega)) hj,Un j i hj hi,if_neg (by omega),if_neg (by omega)];rfl
  ·refine ⟨1,fun x hx=>?_⟩;obtain ⟨j,hj,rfl⟩:=List.mem_iff_getElem.1 (hp.symm.subset hx);have hm:(i+(dJ p n.id).length-1) % (dJ p n.id).length=i-1:=by rw [show i+(dJ p n.id).length-1=i-1+(dJ p n.id).length by omega,Nat.add_mod_right];exact Nat.mod_eq_of_lt (by omega)
   rw [Un _ _ (Nat.mod_lt _ (by omega)) hj,Un j i hj hi];by_cases h2:j<i
   · rw [if_neg (by omega),if_pos h2];rfl
   · rw [if_pos (by omega),if_neg h2];rfl
 obtain ⟨c,hc⟩:=hc;rw [iC _ _ (fun x=>c*zD z x) (fun x hx=>by rw [hc x hx,Int.mul_comm]),Dc,h0,Int.mul_zero] at e;omega
theorem Valid.ZR {z:Int->Int} (hz:iy p z) {a:Ar} (ha:a∈p.ah) {m:Nat} (hm:m+1<(ak p a).length):mY p z ((ak p a).getD m aB) ((ak p a).getD (m+1) aB)=rM p z ((ak p a).getD (m+1) aB) ((ak p a).getD m aB):=by
 have hl:=fM p a;have hid:=(h.jB ha).1;have hne:=(h.distinct ha hm).1;have n1:=h.bW ha (k:=m) (by omega);have n2:=h.bW ha (k:=m+1) hm;have j1:rM p z ((ak p a).getD m aB) ((ak p a).getD (m+1) aB)-mY p z ((ak p a).getD m aB) ((ak p a).getD (m+1) aB)=z a.id:=by
  by_cases h0:m=0
  ·subst h0;obtain ⟨n,hn,e1,e2⟩:=h.sound.AU ha;have:=h.LU hz hn (d:=a.id) (xW.2 ⟨a,ha,.inl ⟨rfl,e1.symm⟩⟩)
   rw [h.LC ha] at this;rw [yZ,e2,this];unfold zD;rw [if_pos (by omega)]
  ·obtain ⟨k,rfl⟩:∃ k,m=k+1:=⟨m-1,by omega⟩;exact h.amW z ha hm
 have j2:rM p z ((ak p a).getD (m+1) aB) ((ak p a).getD m aB)-mY p z ((ak p a).getD (m+1) aB) ((ak p a).getD m aB)=-z a.id:=by
  by_cases h0:m+1=(ak p a).length-1
  ·obtain ⟨n,hn,e1,e2⟩:=h.sound.CS ha;have:=h.LU hz hn (d:=-a.id) (xW.2 ⟨a,ha,.inr ⟨rfl,e1.symm⟩⟩)
   rw [h.IZ ha,show a.via.length=m by omega] at this;rw [h0,zf,e2,this];unfold zD;rw [if_neg (by omega),Int.neg_neg]
  · exact h.ae7 z ha (by omega)
 rcases Int.lt_trichotomy (hY ((ak p a).getD m aB)) (hY ((ak p a).getD (m+1) aB)) with h1 | h1 | h1
 · exact h.ae4 hz ha hm (.inl ⟨rfl,rfl⟩) h1
 · exact absurd (mg n1 n2 h1) hne
 ·have:=h.ae4 hz ha hm (.inr ⟨rfl,rfl⟩) h1
  omega
theorem Valid.Uo {z:Int->Int} (hz:iy p z) {a:Ar} (ha:a∈p.ah):∀ (m:Nat),m+1<(ak p a).length->mY p z ((ak p a).getD 0 aB) ((ak p a).getD 1 aB)=rM p z ((ak p a).getD (m+1) aB) ((ak p a).getD m aB)
 | 0,hm=>h.ZR hz ha hm
 | m+1,hm=>by
  rw [Valid.Uo hz ha m (by omega),h.amX z ha (k:=m) (by omega)];exact h.ZR hz ha (m:=m+1) hm
end
def Hz (p:Pl) (z:Int->Int) (d:Int):Int:=rM p z (nodeAt p (lu p d)) (dN p d)
section
variable {p:Pl} (h:Valid p)
include h
theorem Valid.yg {z:Int->Int} (hz:iy p z) {a:Ar} (ha:a∈p.ah):Hz p z a.id-Hz p z (-a.id)=z a.id:=by
 have hl:=fM p a;have hid:=(h.jB ha).1;have h1:=h.Uo hz ha a.via.length (by omega);have h2:(ak p a).getD (a.via.length+1) aB=nodeAt p a.dst:=by
  have:=zf p a
  rwa [hl,show a.via.length+2-1=a.via.length+1 by omega] at this
 unfold Hz;rw [h.Ue ha,h.Pg ha,h.LC ha,h.IZ ha];rw [h2,yZ] at h1;obtain ⟨n,hn,e1,e2⟩:=h.sound.AU ha;have:=h.LU hz hn (d:=a.id) (xW.2 ⟨a,ha,.inl ⟨rfl,e1.symm⟩⟩)
 rw [h.LC ha,<- e2] at this;unfold zD at this;rw [if_pos (by omega)] at this;omega
theorem Valid.amZ {d:Int} (hd:d∈aQ p):d≠0:=by
 obtain ⟨a,ha,e⟩:=ji.1 hd;have:=h.jB ha
 omega
theorem Valid.ae9 {z:Int->Int} (hz:iy p z) {d:Int} (hd:d∈aQ p):Hz p z d-Hz p z (-d)=zD z d:=by
 obtain ⟨a,ha,e⟩:=ji.1 hd;have hid:=(h.jB ha).1;have:=h.yg hz ha
 rcases e with rfl | rfl
 · rw [this];unfold zD;rw [if_pos (by omega)]
 · rw [Int.neg_neg];unfold zD;rw [if_neg (by omega),Int.neg_neg];omega
theorem Valid.am0 {z:Int->Int} (hz:iy p z) {d:Int} (hd:d∈aQ p):Hz p z (fO p d)=Hz p z d:=by
 obtain ⟨n,hn,e1,hm,hx⟩:=h.I7 hd;have hs:=(h.sQ hd).2;have j:=h.LU hz hn ((h.nT hn).subset hm);have t:=h.amY hz hn hm;have k:=h.ae9 hz hd;have en:nodeAt p (lu p (-d))=n.pt:=by rw [<- e1];exact h.sound.sH hn
 have z1:=amV z (h.amZ hd);unfold Hz at k ⊢;rw [hs,en,hx,t];rw [en] at k;omega
end
set_option linter.unusedSectionVars false
def mrg (r:Int->Int) (a b x:Int):Int:=if r x=r a then r b else r x
structure ZT (U:List Int) (r:Int->Int):Prop where
 mem:∀ x∈U,r x∈U
 idem:∀ x∈U,r (r x)=r x
theorem ZT.mrg {U:List Int} {r:Int->Int} (h:ZT U r) {a b:Int} (hb:b∈U):ZT U (mrg r a b):=by
 constructor
 ·intro x hx;unfold Go.Proofs.YtialfdomhoojiaaGreat.mrg;split
  · exact h.mem b hb
  · exact h.mem x hx
 ·intro x hx;unfold Go.Proofs.YtialfdomhoojiaaGreat.mrg;by_cases e:r x=r a
  ·rw [if_pos e,h.idem b hb];split<;>rfl
  · rw [if_neg e,h.idem x hx,if_neg e]
def jS (p:Pl) (k:Nat) (x:Int):Int:=pw (xZ p k).1 x (p.ah.length+1)
def tu (p:Pl) (k:Nat) (a:Ar):Prop:=jS p k a.fr≠jS p k a.dst
instance (p:Pl) (k:Nat) (a:Ar):Decidable (tu p k a):=by unfold tu;infer_instance
def Jb (p:Pl):List Int:=p.nodes.map (·.id)
section
variable {p:Pl} (h:Valid p)
include h
theorem Valid.afa {a:Ar} (ha:a∈p.ah):a.fr∈Jb p/\a.dst∈Jb p:=by
 obtain ⟨n1,h1,e1,-⟩:=h.sound.AU ha;obtain ⟨n2,h2,e2,-⟩:=h.sound.CS ha;exact ⟨List.mem_map.2 ⟨n1,h1,e1⟩,List.mem_map.2 ⟨n2,h2,e2⟩⟩
theorem Valid.Ur {k:Nat} (hk:k<p.ah.length):(jS p (k+1)=if tu p k p.ah[k] then mrg (jS p k) p.ah[k].fr p.ah[k].dst else jS p k)/\(xZ p (k+1)).2=(xZ p k).2-(if tu p k p.ah[k] then 1 else 0):=by
 have ho:=amH h k (by omega);by_cases ht:tu p k p.ah[k]
 ·rw [if_pos ht,if_pos ht];unfold tu jS at ht;unfold jS;rw [ZA p k hk];unfold Pn;rw [if_neg ht];refine ⟨?_,rfl⟩;have hr:∀ x,(xZ p k).1 (pw (xZ p k).1 x (p.ah.length+1))=pw (xZ p k).1 x (p.ah.length+1):=ho.flat.more (by omega);obtain ⟨h1,h2⟩:=aeL ho.flat (hr p.ah[k].fr) (hr p.ah[k].dst) ht
  funext x
  show pw (nU _ _ _) x (p.ah.length+1)=mrg _ _ _ x
  rw [h1.eq (M:=p.ah.length+1) (by omega),h2 x];unfold mrg;simp only;rw [<- ho.flat.eq (M:=p.ah.length+1) (by omega) x]
 ·rw [if_neg ht,if_neg ht];unfold tu jS at ht;unfold jS;rw [ZA p k hk];unfold Pn;rw [if_pos (Classical.byContradiction ht)];exact ⟨rfl,by omega⟩
theorem Valid.Us {x:Int} (hx:x∈Jb p):jS p 0 x=x:=by
 have h0:xY p.nodes x=x:=if_pos hx;have:∀ n,pw (xY p.nodes) x n=x:=by
  intro n
  induction n with
  | zero=>rfl
  | succ n ih=>show xY p.nodes (pw (xY p.nodes) x n)=x;rw [ih,h0]
 exact this _
theorem Valid.am1 {k j:Nat} (hkj:k<=j) (hj:j<=p.ah.length) {x y:Int} (e:jS p k x=jS p k y):jS p j x=jS p j y:=by
 induction j with
 | zero =>
  have:k=0:=by omega
  subst this;exact e
 | succ j ih =>
  by_cases h1:k=j+1
  · subst h1;exact e
  ·have e2:=ih (by omega) (by omega);rw [(h.Ur (k:=j) (by omega)).1];split
   · unfold mrg;rw [e2]
   · exact e2
theorem Valid.am2 {k j:Nat} (hj:j<k) (hk:k<=p.ah.length):jS p k (p.ah[j]'(by omega)).fr=jS p k (p.ah[j]'(by omega)).dst:=by
 refine h.am1 (k:=j+1) (by omega) hk ?_;rw [(h.Ur (k:=j) (by omega)).1];split
 ·unfold mrg;rw [if_pos rfl];split<;>rfl
 ·rename_i ht;unfold tu at ht;exact Classical.byContradiction ht
end
def wF (p:Pl) (c:Int->Int) (n:Int):Int:=(p.ah.map fun a=>c a.id*((if a.dst=n then 1 else 0)-(if a.fr=n then 1 else 0))).sum
theorem Ut (p:Pl) (c d:Int->Int) (n:Int):wF p (fun i=>c i+d i) n=wF p c n+wF p d n:=by
 unfold wF;rw [<- sZ];exact iC _ _ _ fun a _=>by rw [Int.add_mul]
theorem am3 (p:Pl) (c:Int->Int) (n:Int):wF p (fun i=>-c i) n=-wF p c n:=by
 unfold wF;rw [<- vk];exact iC _ _ _ fun a _=>by rw [Int.neg_mul]
def Gl (a:Ar) (i:Int):Int:=if i=a.id then 1 else 0
def Em (p:Pl) (k:Nat) (c:Int->Int):Prop:=∀ j (hj:j<p.ah.length),c p.ah[j].id≠0->j<k/\tu p j p.ah[j]
section
variable {p:Pl} (h:Valid p)
include h
theorem Valid.am4 {a:Ar} (ha:a∈p.ah) (n:Int):wF p (Gl a) n=(if a.dst=n then 1 else 0)-(if a.fr=n then 1 else 0):=by
 unfold wF Gl;have:=LM p.ah (·.id) h.sound.ah (fun _=>(if a.dst=n then (1:Int) else 0)-(if a.fr=n then 1 else 0)) a.id ⟨a,ha,rfl⟩
 rw [<- this];refine iC _ _ _ fun b hb=>?_;by_cases e:a.id=b.id
 ·have:=h.Zo ha hb e
  subst this;rw [if_pos rfl,if_pos rfl];omega
 · rw [if_neg (fun e2=>e e2.symm),if_neg e];omega
theorem Valid.chain (k:Nat) (hk:k<=p.ah.length):∀ x∈Jb p,∀ y∈Jb p,jS p k x=jS p k y->∃ c,Em p k c/\∀ n,wF p c n=(if y=n then 1 else 0)-(if x=n then 1 else 0):=by
 induction k with
 | zero =>
  intro x hx y hy e;rw [h.Us hx,h.Us hy] at e;subst e;refine ⟨fun _=>0,fun j hj h0=>absurd rfl h0,fun n=>?_⟩;unfold wF;rw [wE _ _ (fun a _=>Int.zero_mul _)];omega
 | succ k ih =>
  intro x hx y hy e;have ih:=ih (by omega);have hup:∀ {c},Em p k c->Em p (k+1) c:=fun hc j hj h0=>⟨by have:=(hc j hj h0).1;omega,(hc j hj h0).2⟩;rw [(h.Ur (k:=k) (by omega)).1] at e;by_cases ht:tu p k p.ah[k]
  ·rw [if_pos ht] at e;have ha:=List.getElem_mem (show k<p.ah.length by omega);have hm:=h.afa ha;have h1:=h.am4 ha;have hs1:Em p (k+1) (Gl p.ah[k]):=fun j hj h0=>by
    unfold Gl at h0;split at h0
    ·rename_i e2;have h2:j=k:=by
      have hpw:=h.sound.ah;rw [List.pairwise_map,List.pairwise_iff_getElem] at hpw;rcases Nat.lt_trichotomy j k with h3 | h3 | h3
      · have:=hpw j k hj (by omega) h3;omega
      · exact h3
      · have:=hpw k j (by omega) hj h3;omega
     subst h2;exact ⟨by omega,ht⟩
    · exact absurd rfl h0
   have hadd:∀ {c d:Int->Int},Em p (k+1) c->Em p (k+1) d->Em p (k+1) (fun i=>c i+d i):=by
    intro c d hc hd j hj h0;by_cases h2:c p.ah[j].id=0
    · exact hd j hj (fun e=>h0 (by show _+_=(0:Int);rw [h2,e];rfl))
    · exact hc j hj h2
   have hneg:∀ {c},Em p (k+1) c->Em p (k+1) (fun i=>-c i):=fun hc j hj h0=>hc j hj (fun e=>h0 (by show -_=(0:Int);rw [e];rfl));unfold mrg at e;by_cases ex:jS p k x=jS p k p.ah[k].fr<;>by_cases ey:jS p k y=jS p k p.ah[k].fr
   ·obtain ⟨c,hc,hb⟩:=ih x hx y hy (ex.trans ey.symm);exact ⟨c,hup hc,hb⟩
   ·rw [if_pos ex,if_neg ey] at e;obtain ⟨c,hc,hb⟩:=ih x hx _ hm.1 ex;obtain ⟨d,hd,hb2⟩:=ih _ hm.2 y hy e;refine ⟨fun i=>(c i+Gl p.ah[k] i)+d i,hadd (hadd (hup hc) hs1) (hup hd),fun n=>?_⟩;rw [Ut p (fun i=>c i+Gl p.ah[k] i),Ut,hb,hb2,h1];omega
   ·rw [if_neg ex,if_pos ey] at e;obtain ⟨c,hc,hb⟩:=ih x hx _ hm.2 e;obtain ⟨d,hd,hb2⟩:=ih _ hm.1 y hy ey.symm;refine ⟨fun i=>(c i + -Gl p.ah[k] i)+d i,hadd (hadd (hup hc) (hneg hs1)) (hup hd),fun n=>?_⟩;rw [Ut p (fun i=>c i + -Gl p.ah[k] i),Ut,am3,hb,hb2,h1];omega
   ·rw [if_neg ex,if_neg ey] at e;obtain ⟨c,hc,hb⟩:=ih x hx y hy e;exact ⟨c,hup hc,hb⟩
  ·rw [if_neg ht] at e;obtain ⟨c,hc,hb⟩:=ih x hx y hy e;exact ⟨c,hup hc,hb⟩
theorem Valid.afb {g:Int->Int} (hg:iy p g) (h0:∀ j (hj:j<p.ah.length),¬ tu p j p.ah[j]->g p.ah[j].id=0):∀ (k:Nat),k<=p.ah.length->(∀ j (hj:j<p.ah.length),k<=j->g p.ah[j].id=0)->∀ j (hj:j<p.ah.length),g p.ah[j].id=0
 | 0,_,hz,j,hj=>hz j hj (by omega)
 | k+1,hk,hz,j,hj=>by
  refine Valid.afb hg h0 k (by omega) (fun j hj hkj=>?_) j hj;by_cases hjk:j=k
  ·subst hjk;by_cases ht:tu p j p.ah[j]
   ·have hs:=h.aeV hg (fun x=>if jS p j x=jS p j p.ah[j].fr then 1 else 0);have e:(p.ah.map fun a=>g a.id*((if jS p j a.dst=jS p j p.ah[j].fr then (1:Int) else 0)-(if jS p j a.fr=jS p j p.ah[j].fr then 1 else 0))).sum=(p.ah.map fun a=>if p.ah[j].id=a.id then -g a.id else 0).sum:=by
     refine iC _ _ _ fun a ha=>?_;obtain ⟨i,hi,rfl⟩:=List.mem_iff_getElem.1 ha;rcases Nat.lt_trichotomy i j with h3 | h3 | h3
     ·have hne:¬ p.ah[j].id=p.ah[i].id:=fun e=>by
       have hpw:=h.sound.ah;rw [List.pairwise_map,List.pairwise_iff_getElem] at hpw;have:=hpw i j hi hj h3;omega
      rw [if_neg hne,h.am2 h3 (by omega),Int.sub_self,Int.mul_zero]
     ·subst h3;rw [if_pos rfl,if_pos rfl];unfold tu at ht;rw [if_neg (fun e=>ht e.symm)];omega
     ·have hne:¬ p.ah[j].id=p.ah[i].id:=fun e=>by
       have hpw:=h.sound.ah;rw [List.pairwise_map,List.pairwise_iff_getElem] at hpw;have:=hpw j i hj hi h3;omega
      rw [if_neg hne,hz i hi (by omega),Int.zero_mul]
    rw [e,LM p.ah (·.id) h.sound.ah (fun i=>-g i) p.ah[j].id ⟨_,List.getElem_mem hj,rfl⟩] at hs;omega
   · exact h0 j hj ht
  · exact hz j hj (by omega)
end
set_option linter.unusedSectionVars false
def En (L:List (List Int)) (d:Int):Int:=match L.find? (fun c=>decide (d∈c)) with
 | some c=>c.headD 0
 | none=>d
def aK (p:Pl):Nat->Int->Int
 | 0=>En (bF p)
 | k+1=>match p.ah[k]? with
  | some a=>if tu p k a then aK p k else mrg (aK p k) a.id (-a.id)
  | none=>aK p k
theorem ZU {p:Pl} {k:Nat} (hk:k<p.ah.length):aK p (k+1)=if tu p k p.ah[k] then aK p k else mrg (aK p k) p.ah[k].id (-p.ah[k].id):=by
 rw [aK,List.getElem?_eq_getElem hk]
section
variable {p:Pl} (h:Valid p)
include h
theorem Valid.Eo {c c':List Int} (hc:c∈bF p) (hc':c'∈bF p) {y:Int} (h1:y∈c) (h2:y∈c'):c=c':=by
 have hnd:=h.jk.nodup;rw [List.nodup_iff_pairwise_ne,List.pairwise_flatten] at hnd;have hpw:=hnd.2;rw [List.pairwise_iff_getElem] at hpw;obtain ⟨i,hi,rfl⟩:=List.mem_iff_getElem.1 hc;obtain ⟨j,hj,rfl⟩:=List.mem_iff_getElem.1 hc';rcases Nat.lt_trichotomy i j with h3 | h3 | h3
 · exact absurd rfl (hpw i j hi hj h3 _ h1 _ h2)
 · subst h3;rfl
 · exact absurd rfl (hpw j i hj hi h3 _ h2 _ h1)
theorem Valid.uI {c:List Int} (hc:c∈bF p):∃ x∈aQ p,c=mW (fO p) (aQ p) x/\c.headD 0=x/\x∈c:=by
 obtain ⟨x,hx,e,-⟩:=h.jk.O6 c hc;have hf:=Ec (fun x hx=>(h.sQ hx).1) (fun x hx y hy=>h.Ef hx hy) hx;refine ⟨x,hx,e,?_,by rw [e];exact aep hf.1⟩;rw [e];unfold mW;obtain ⟨m,hm⟩:∃ m,oZ (fO p) (aQ p) x=m+1:=⟨oZ (fO p) (aQ p) x-1,by have:=hf.1;omega⟩;rw [hm];rfl
theorem Valid.Jc {d:Int} (hd:d∈aQ p):∃ c∈bF p,d∈c/\En (bF p) d=c.headD 0:=by
 obtain ⟨c,hc,hdc⟩:=List.mem_flatten.1 (h.jk.covers d hd);unfold En
 cases hf:(bF p).find? (fun c=>decide (d∈c)) with
 | none =>
  have:=List.find?_eq_none.1 hf c hc
  simp [hdc] at this
 | some c' =>
  have h1:=List.find?_some hf;exact ⟨c',List.mem_of_find?_eq_some hf,by simpa using h1,rfl⟩
theorem Valid.head_eq {c:List Int} (hc:c∈bF p) {d:Int} (hd:d∈aQ p) (hdc:d∈c):En (bF p) d=c.headD 0:=by
 obtain ⟨c',h1,h2,h3⟩:=h.Jc hd;rw [h3,h.Eo h1 hc h2 hdc]
theorem Valid.am5 {d:Int} (hd:d∈aQ p):En (bF p) (fO p d)=En (bF p) d:=by
 obtain ⟨c,h1,h2,h3⟩:=h.Jc hd;obtain ⟨x,hx,e,-,-⟩:=h.uI h1;rw [h3];refine h.head_eq h1 (h.sQ hd).1 ?_;rw [e] at h2 ⊢;exact (Zf (fun x hx=>(h.sQ hx).1) (fun x hx y hy=>h.Ef hx hy) hx hd).2 h2
theorem Valid.am6 {β:Type} (H:Int->β) (hH:∀ d∈aQ p,H (fO p d)=H d) {d:Int} (hd:d∈aQ p):H (En (bF p) d)=H d:=by
 obtain ⟨c,h1,h2,h3⟩:=h.Jc hd;obtain ⟨x,hx,e,e2,-⟩:=h.uI h1;rw [h3,e2];rw [e] at h2;obtain ⟨k,-,rfl⟩:=vZ.1 h2;clear h1 h2 h3 e e2 hd
 induction k with
 | zero=>rfl
 | succ k ih =>
  show H x=H (fO p (pw (fO p) x k))
  rw [hH _ (AV (fun x hx=>(h.sQ hx).1) hx k)];exact ih
theorem Valid.am7 {k:Nat} (hk:k<p.ah.length):p.ah[k].id∈aQ p/\-p.ah[k].id∈aQ p :=
 ⟨ji.2 ⟨_,List.getElem_mem hk,.inl rfl⟩,ji.2 ⟨_,List.getElem_mem hk,.inr rfl⟩⟩
theorem Valid.ZV {k j:Nat} (hkj:k<=j) (hj:j<=p.ah.length) {x y:Int} (e:aK p k x=aK p k y):aK p j x=aK p j y:=by
 induction j with
 | zero =>
  have:k=0:=by omega
  subst this;exact e
 | succ j ih =>
  by_cases h1:k=j+1
  · subst h1;exact e
  ·have e2:=ih (by omega) (by omega);rw [ZU (k:=j) (by omega)];split
   · exact e2
   · unfold mrg;rw [e2]
theorem Valid.am8 {β:Type} (H:Int->β) (hH:∀ d∈aQ p,H (fO p d)=H d) (k:Nat) (hk:k<=p.ah.length) (h0:∀ j (hj:j<p.ah.length),j<k->¬ tu p j p.ah[j]->H p.ah[j].id=H (-p.ah[j].id)):∀ d∈aQ p,H (aK p k d)=H d:=by
 induction k with
 | zero=>exact fun d hd=>h.am6 H hH hd
 | succ k ih =>
  intro d hd;have ih:=ih (by omega) (fun j hj hjk=>h0 j hj (by omega));rw [ZU (k:=k) (by omega)];split
  · exact ih d hd
  ·rename_i ht;have hm:=h.am7 (k:=k) (by omega);unfold mrg;split
   ·rename_i e;rw [ih _ hm.2,<- h0 k (by omega) (by omega) ht,<- ih _ hm.1,<- e,ih d hd]
   · exact ih d hd
end
set_option linter.unusedSectionVars false
theorem am9 {L:List Int} (hL:L.Nodup) (f:Int->Int):(L.map fun d=>f (precD L d)).sum=(L.map f).sum:=by
 by_cases h0:L.length=0
 ·have:L=[]:=List.eq_nil_of_length_eq_zero h0
  subst this;rfl
 ·have e:L.map (precD L)=L[L.length-1]'(by omega)::L.take (L.length-1):=by
   refine List.ext_getElem (by simp;omega) fun i h1 h2=>?_;rw [List.length_map] at h1;rw [List.getElem_map,Gh hL h1]
   cases i with
   | zero =>
    rw [List.getElem_cons_zero];congr 1;rw [Nat.zero_add];exact Nat.mod_eq_of_lt (by omega)
   | succ i =>
    rw [List.getElem_cons_succ,List.getElem_take];congr 1;rw [show i+1+L.length-1=i+L.length by omega,Nat.add_mod_right];exact Nat.mod_eq_of_lt (by omega)
  have e2:L.map f=(L.take (L.length-1)).map f++[f (L[L.length-1]'(by omega))]:=by
   conv=>lhs;rw [<- List.take_append_drop (L.length-1) L]
   rw [List.map_append,List.drop_eq_getElem_cons (show L.length-1<L.length by omega),List.drop_eq_nil_of_le (by omega)];rfl
  rw [show (L.map fun d=>f (precD L d))=(L.map (precD L)).map f by rw [List.map_map];rfl,e,List.map_cons,List.sum_cons,e2,List.sum_append];simp only [List.sum_cons,List.sum_nil];omega
theorem LV {l m:List Int} (h:l.Perm m):l.sum=m.sum:=by
 induction h with
 | nil=>rfl
 | cons x _ ih=>rw [List.sum_cons,List.sum_cons,ih]
 | swap x y l=>simp only [List.sum_cons];omega
 | trans _ _ h1 h2=>exact h1.trans h2
section
variable {p:Pl} (h:Valid p)
include h
theorem Valid.ana (z:Int->Int) (n:Int):((dO p.ah n).map fun d=>zD z d).sum=-wF p z n:=by
 have hid:∀ b∈p.ah,1<=b.id:=fun b hb=>(h.jB hb).1;unfold dO wF;generalize p.ah=l at hid
 induction l with
 | nil=>rfl
 | cons b l ih =>
  have:=hid b (by simp)
  have z1:zD z b.id=z b.id:=by unfold zD;rw [if_pos (by omega)]
  have z2:zD z (-b.id)=-z b.id:=by unfold zD;rw [if_neg (by omega),Int.neg_neg]
  rw [List.map_cons,List.sum_cons,List.flatMap_cons,List.map_append,List.sum_append,ih (fun c hc=>hid c (by simp [hc]))];by_cases c1:b.fr=n<;>by_cases c2:b.dst=n<;>simp only [c1,c2,if_true,if_false,List.map_append,List.sum_append,List.map_cons,List.map_nil,List.sum_cons,List.sum_nil,z1,z2]<;>grind
theorem Valid.afc {n:Nd} (hn:n∈p.nodes) {d:Int} (hd:d∈dJ p n.id):fO p (-d)=precD (dJ p n.id) d/\d∈aQ p/\lu p d=n.id:=by
 obtain ⟨h1,h2⟩:=h.Ee ((h.nT hn).subset hd);obtain ⟨n',hn',e,hm,hx⟩:=h.I7 (y8 h1);rw [Int.neg_neg] at e hm hx;exact ⟨by rw [hx,e,h2],h1,h2⟩
theorem Valid.afd {d:Int} (hd:d∈aQ p):aK p p.ah.length (fO p d)=aK p p.ah.length d :=
 h.ZV (k:=0) (Nat.zero_le _) (Nat.le_refl _) (h.am5 hd)
theorem Valid.anb {k:Nat} (hk:k<p.ah.length) (ht:¬ tu p k p.ah[k]):aK p p.ah.length p.ah[k].id=aK p p.ah.length (-p.ah[k].id):=by
 refine h.ZV (k:=k+1) (by omega) (Nat.le_refl _) ?_;rw [ZU hk,if_neg ht];unfold mrg;rw [if_pos rfl];split<;>rfl
theorem Valid.anc {k:Nat} (hk:k<p.ah.length):aK p p.ah.length p.ah[k].id=aK p p.ah.length (-p.ah[k].id):=by
 obtain ⟨S,hS⟩:∃ S,aK p p.ah.length=S:=⟨_,rfl⟩;have hnx:=fun {d} (hd:d∈aQ p)=>h.afd hd;have har:=fun {k} (hk:k<p.ah.length) ht=>h.anb (k:=k) hk ht;rw [hS] at hnx har ⊢;obtain ⟨f,hf⟩:∃ f:Int->Int,f=fun d=>if S d=S p.ah[k].id then 1 else 0:=⟨_,rfl⟩;have hfn:∀ d∈aQ p,f (fO p d)=f d:=fun d hd=>by rw [hf];simp only [hnx hd]
 have hcl:iy p (fun i=>f i-f (-i)):=by
  intro n hn
  show wF p (fun i=>f i-f (-i)) n.id=0
  have hb:=h.ana (fun i=>f i-f (-i)) n.id;have hp:=h.nT hn;have e1:((dO p.ah n.id).map fun d=>zD (fun i=>f i-f (-i)) d).sum=((dJ p n.id).map fun d=>f d + -f (precD (dJ p n.id) d)).sum:=by
   rw [LV (hp.symm.map _)];refine iC _ _ _ fun d hd=>?_;obtain ⟨g1,g2,-⟩:=h.afc hn hd;rw [<- g1,hfn _ (y8 g2)];unfold zD;by_cases h0:0<d
   · rw [if_pos h0];show f d-f (-d)=_;omega
   · rw [if_neg h0];show -(f (-d)-f (- -d))=_;rw [Int.neg_neg];omega
  rw [e1,sZ,vk,am9 (h.Gi hn) f] at hb;omega
 have h0:=h.afb hcl (fun j hj ht=>by
  show f _-f _=0
  rw [hf];simp only [har hj ht];omega) p.ah.length (Nat.le_refl _) (fun j hj hle=>by omega) k hk
 have h1:f p.ah[k].id=1:=by rw [hf];exact if_pos rfl
 have h2:f (-p.ah[k].id)=1:=by
  have h0':f p.ah[k].id-f (-p.ah[k].id)=0:=h0;omega
 rw [hf] at h2;have h2':(if S (-p.ah[k].id)=S p.ah[k].id then (1:Int) else 0)=1:=h2;split at h2'
 · rename_i e;exact e.symm
 · omega
theorem Valid.wG {d:Int} (hd:d∈aQ p):aK p p.ah.length (-d)=aK p p.ah.length d:=by
 obtain ⟨a,ha,e⟩:=ji.1 hd;obtain ⟨k,hk,rfl⟩:=List.mem_iff_getElem.1 ha;have:=h.anc hk
 rcases e with rfl | rfl
 · exact this.symm
 · rw [Int.neg_neg];exact this
theorem Valid.ZW {n:Nd} (hn:n∈p.nodes) {d e:Int} (hd:d∈dJ p n.id) (he:e∈dJ p n.id):aK p p.ah.length d=aK p p.ah.length e:=by
 have key:∀ i (hi:i<(dJ p n.id).length),aK p p.ah.length (dJ p n.id)[i]=aK p p.ah.length ((dJ p n.id)[0]'(by omega)):=by
  intro i
  induction i with
  | zero=>intro _;rfl
  | succ i ih =>
   intro hi;rw [<- ih (by omega)];obtain ⟨g1,g2,-⟩:=h.afc hn (List.getElem_mem hi);have hm:(i+1+(dJ p n.id).length-1) % (dJ p n.id).length=i:=by
    rw [show i+1+(dJ p n.id).length-1=i+(dJ p n.id).length by omega,Nat.add_mod_right];exact Nat.mod_eq_of_lt (by omega)
   have e1:precD (dJ p n.id) (dJ p n.id)[i+1]=(dJ p n.id)[i]:=by
    rw [Gh (h.Gi hn) hi];congr 1
   rw [<- e1,<- g1,h.afd (y8 g2),h.wG g2]
 obtain ⟨i,hi,rfl⟩:=List.mem_iff_getElem.1 hd;obtain ⟨j,hj,rfl⟩:=List.mem_iff_getElem.1 he;rw [key i hi,key j hj]
end
section
variable {p:Pl} (h:Valid p)
include h
theorem Valid.alone (k:Nat) (hk:k<=p.ah.length) {x:Int} (hx:x∈Jb p) (h0:kV p.ah x=0):jS p k x=x/\∀ y∈Jb p,jS p k y=x->y=x:=by
 rw [amQ] at h0
 induction k with
 | zero =>
  refine ⟨h.Us hx,fun y hy e=>?_⟩;rw [h.Us hy] at e;exact e
 | succ k ih =>
  obtain ⟨i1,i2⟩:=ih (by omega);rw [(h.Ur (k:=k) (by omega)).1];have ha:=List.getElem_mem (show k<p.ah.length by omega);have hm:=h.afa ha;have n1:jS p k p.ah[k].fr≠x:=fun e=>(h0 _ ha).1 (i2 _ hm.1 e);have n2:jS p k p.ah[k].dst≠x:=fun e=>(h0 _ ha).2 (i2 _ hm.2 e);split
  ·unfold mrg;refine ⟨by rw [i1,if_neg (fun e=>n1 e.symm)],fun y hy e=>?_⟩;split at e
   · exact absurd e n2
   · exact i2 y hy e
  · exact ⟨i1,i2⟩
end
end Go.Proofs.YtialfdomhoojiaaGreat
