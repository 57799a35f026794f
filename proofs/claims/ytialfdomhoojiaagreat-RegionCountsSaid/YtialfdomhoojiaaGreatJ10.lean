import Derived.Test.YtialfdomhoojiaaGreatJ09
set_option linter.unusedSimpArgs false
set_option linter.unusedVariables false
namespace Go.Proofs.YtialfdomhoojiaaGreat
open Go.RowKit
theorem H9 {o a b:Pt} (h:dV o a b):¬ dV o b a:=by
 unfold dV rC at *;rw [Int.mul_comm (b.x-o.x),Int.mul_comm (b.y-o.y)];rcases h with ⟨h1,h2⟩ | ⟨h1,h2⟩
 ·rintro (⟨h3,h4⟩ | ⟨h3,h4⟩)
  · exact h1 h4
  · exact h1 (h3.1 h2)
 ·rintro (⟨h3,h4⟩ | ⟨h3,h4⟩)
  · exact h3 (h1.1 h4)
  · omega
theorem alz (o a:Pt):¬ dV o a a:=fun h=>H9 h h
def rH (v u a b:Pt):Int:=oK a b v+(if a=v/\dV v b u then 1 else 0)-(if b=v/\dV v a u then 1 else 0)
def EO (v u a b:Pt):Int:=oK a b v-(if a=v/\dV v u b then 1 else 0)+(if b=v/\dV v u a then 1 else 0)
def lV (p:Pl) (z:Int->Int) (v u:Pt):Int:=cu p z (rH v u)
def qP (p:Pl) (z:Int->Int) (v u:Pt):Int:=cu p z (EO v u)
theorem ad5 (v u a b:Pt):rH v u b a=-rH v u a b:=by unfold rH;rw [XD];omega
theorem alA (v u a b:Pt):EO v u b a=-EO v u a b:=by unfold EO;rw [XD];omega
def zD (z:Int->Int) (d:Int):Int:=if 0<d then z d else -z (-d)
def xk (φ:Pt->Int) (v a b:Pt):Int:=(if a=v then φ b else 0)-(if b=v then φ a else 0)
def ind (P:Prop) [Decidable P] : Int:=if P then 1 else 0
theorem alB (v u w a b:Pt):EO v u a b-rH v w a b=-xk (fun x=>ind (dV v u x)+ind (dV v x w)) v a b:=by
 unfold EO rH xk ind;by_cases h1:a=v<;>by_cases h2:b=v<;>simp only [h1,h2,true_and,false_and,if_true,if_false]<;>omega
theorem N7 (p:Pl) (z:Int->Int) (v u w:Pt):qP p z v u-lV p z v w=-cu p z (xk (fun x=>ind (dV v u x)+ind (dV v x w)) v):=by
 unfold qP lV;rw [<- ad2,<- ad1];refine NW fun a _ k _=>alB _ _ _ _ _
section
variable {p:Pl} (h:Valid p)
include h
theorem Valid.ad6 {z:Int->Int} (hz:fZ p z) {c:Ar} (hc:c∈p.ah) {m:Nat} (hm:m+1<(au p c).length) {s t:Pt}
  (he:(s=(au p c).getD m aB/\t=(au p c).getD (m+1) aB)\/(t=(au p c).getD m aB/\s=(au p c).getD (m+1) aB)) (hst:hY s<hY t):lV p z s t=qP p z t s:=by
 have hd:lV p z s t-qP p z t s=cu p z (fun a b=>NT s t b-NT s t a):=by
  unfold qP lV;rw [<- ad2];refine NW fun a ha k hk=>?_;have na:=h.bV ha (k:=k) (by omega);have nb:=h.bV ha (k:=k+1) hk;have n1:=h.bV hc (k:=m) (by omega);have n2:=h.bV hc (k:=m+1) hm;have hne:=(h.distinct ha hk).1;have NM:=fun h1 h2 h3 h4=>h.XG ha hc hk hm h1 h2 h3 h4;generalize (au p a).getD k aB=x at *;generalize (au p a).getD (k+1) aB=y at *;generalize (au p c).getD m aB=e at *;generalize (au p c).getD (m+1) aB=f at *;have ns:aW s=true:=by rcases he with ⟨rfl,-⟩ | ⟨-,rfl⟩<;>assumption
  have nt:aW t=true:=by rcases he with ⟨-,rfl⟩ | ⟨rfl,-⟩<;>assumption
  have N8:x≠s->x≠t->y≠s->y≠t->nU x y s t:=fun h1 h2 h3 h4=>by
   rcases he with ⟨rfl,rfl⟩ | ⟨rfl,rfl⟩
   · exact NM h1 h2 h3 h4
   · exact (NM h2 h1 h4 h3).comm.flip.comm
  rcases Int.lt_trichotomy (hY x) (hY y) with h1 | h1 | h1
  ·have:=adZ na nb ns nt h1 hst N8
   unfold rH EO;omega
  · exact absurd (nT na nb h1) hne
  ·have:=adZ nb na ns nt h1 hst (fun h1 h2 h3 h4=>(N8 h3 h4 h1 h2).flip)
   have e1:=ad5 s t x y;have e2:=alA t s x y;unfold rH at e1 ⊢;unfold EO at e2 ⊢;omega
 rw [h.Kr hz] at hd;omega
theorem Valid.XI {a:Ar} (ha:a∈p.ah) {j:Nat} (h0:0<j) (hj:j+1<(au p a).length) {b:Ar} (hb:b∈p.ah) {k:Nat} (hk:k<(au p b).length) (e:(au p b).getD k aB=(au p a).getD j aB):b=a/\k=j:=by
 have hla:=fJ p a;have hlb:=fJ p b;obtain ⟨i,rfl⟩:∃ i,j=i+1:=⟨j-1,by omega⟩;have hi:i<a.via.length:=by omega
 rw [EL p a i hi] at e;have hk0:k≠0:=by
  rintro rfl;obtain ⟨n,hn,-,e2⟩:=h.sound.yw hb;rw [zy,e2] at e;exact h.RD ha hi hn e.symm
 have hk1:k≠(au p b).length-1:=by
  rintro rfl;obtain ⟨n,hn,-,e2⟩:=h.sound.zu hb;rw [zA,e2] at e;exact h.RD ha hi hn e.symm
 obtain ⟨l,rfl⟩:∃ l,k=l+1:=⟨k-1,by omega⟩;have hl:l<b.via.length:=by omega
 rw [EL p b l hl] at e;by_cases hab:b=a
 ·subst hab;refine ⟨rfl,?_⟩;rcases Nat.lt_trichotomy l i with h1 | h1 | h1
  · exact absurd e (h.Xi hb h1 hi)
  · omega
  · exact absurd e.symm (h.Xi hb h1 hl)
 ·exfalso;have hpw:=h.adv;obtain ⟨x,hx,rfl⟩:=List.mem_iff_getElem.1 ha;obtain ⟨y,hy,rfl⟩:=List.mem_iff_getElem.1 hb;rw [List.pairwise_iff_getElem] at hpw;rcases Nat.lt_trichotomy x y with h1 | h1 | h1
  · exact hpw x y hx hy h1 _ (List.getElem_mem hi) _ (List.getElem_mem hl) e.symm
  · subst h1;exact hab rfl
  · exact hpw y x hy hx h1 _ (List.getElem_mem hl) _ (List.getElem_mem hi) e
theorem Valid.ad7 {n m:Nd} (hn:n∈p.nodes) (hm:m∈p.nodes) (e:n.pt=m.pt):n=m:=by
 have hpw:=(alv _).1 h.dup;rw [List.pairwise_map,List.pairwise_iff_getElem] at hpw;obtain ⟨i,hi,rfl⟩:=List.mem_iff_getElem.1 hn;obtain ⟨j,hj,rfl⟩:=List.mem_iff_getElem.1 hm;rcases Nat.lt_trichotomy i j with h1 | h1 | h1
 · exact absurd e (hpw i j hi hj h1)
 · subst h1;rfl
 · exact absurd e.symm (hpw j i hj hi h1)
theorem Valid.RX {n:Nd} (hn:n∈p.nodes) {b:Ar} (hb:b∈p.ah) {k:Nat} (hk:k<(au p b).length) (e:(au p b).getD k aB=n.pt):(k=0/\b.fr=n.id)\/(k=(au p b).length-1/\b.dst=n.id):=by
 have hlb:=fJ p b;by_cases hk0:k=0
 ·subst hk0;obtain ⟨m,hm,e1,e2⟩:=h.sound.yw hb;rw [zy,e2] at e
  left;exact ⟨rfl,by rw [<- e1,h.ad7 hm hn e]⟩
 ·by_cases hk1:k=(au p b).length-1
  ·subst hk1;obtain ⟨m,hm,e1,e2⟩:=h.sound.zu hb;rw [zA,e2] at e
   right;exact ⟨rfl,by rw [<- e1,h.ad7 hm hn e]⟩
  ·exfalso;obtain ⟨l,rfl⟩:∃ l,k=l+1:=⟨k-1,by omega⟩;have hl:l<b.via.length:=by omega
   rw [EL p b l hl] at e;exact h.RD hb hl hn e
theorem Valid.RY (z:Int->Int) (φ:Pt->Int) {a:Ar} (ha:a∈p.ah) {j:Nat} (h0:0<j) (hj:j+1<(au p a).length) :
  cu p z (xk φ ((au p a).getD j aB))=z a.id*(φ ((au p a).getD (j+1) aB)-φ ((au p a).getD (j-1) aB)):=by
 have key:∀ b∈p.ah,jM (xk φ ((au p a).getD j aB)) (au p b)=if b=a then φ ((au p a).getD (j+1) aB)-φ ((au p a).getD (j-1) aB) else 0:=by
  intro b hb;unfold jM xk;simp only [Int.sub_eq_add_neg];rw [rG,uq];rw [NV _ j _ (fun k hk hkj=>if_neg (fun e=>hkj (h.XI ha h0 hj hb (by omega) e).2))];rw [NV _ (j-1) _ (fun k hk hkj=>if_neg (fun e=>hkj (by have:=(h.XI ha h0 hj hb (by omega) e).2;omega)))];by_cases hab:b=a
  ·subst hab;rw [if_pos rfl,if_pos (by omega),if_pos (by omega),if_pos rfl,show j-1+1=j by omega,if_pos rfl]
  ·rw [if_neg hab];have e1:∀ k,k<(au p b).length->¬ (au p b).getD k aB=(au p a).getD j aB:=fun k hk e=>hab (h.XI ha h0 hj hb hk e).1;by_cases h1:j<(au p b).length-1
   · rw [if_pos h1,if_neg (e1 j (by omega)),if_pos (by omega),if_neg (e1 (j-1+1) (by omega))];rfl
   ·rw [if_neg h1];by_cases h2:j-1<(au p b).length-1
    · rw [if_pos h2,if_neg (e1 (j-1+1) (by omega))];rfl
    · rw [if_neg h2];rfl
 unfold cu;rw [fV _ _ (fun b:Ar=>if a.id=b.id then z b.id*(φ ((au p a).getD (j+1) aB)-φ ((au p a).getD (j-1) aB)) else 0) (fun b hb=>by
  rw [key b hb];by_cases hab:b=a
  · subst hab;rw [if_pos rfl,if_pos rfl]
  · rw [if_neg hab,if_neg (fun e=>hab (h.Xn hb ha e.symm)),Int.mul_zero])]
 exact Kq p.ah (·.id) h.sound.ah (fun i=>z i*(φ ((au p a).getD (j+1) aB)-φ ((au p a).getD (j-1) aB))) a.id ⟨a,ha,rfl⟩
theorem Valid.XJ (z:Int->Int) (φ:Pt->Int) {n:Nd} (hn:n∈p.nodes):cu p z (xk φ n.pt)=((dL p.ah n.id).map fun d=>zD z d*φ (dJ p d)).sum:=by
 have key:∀ b∈p.ah,z b.id*jM (xk φ n.pt) (au p b)=(((if b.fr=n.id then [b.id] else [])++(if b.dst=n.id then [-b.id] else [])).map fun d=>zD z d*φ (dJ p d)).sum:=by
  intro b hb;have hlb:=fJ p b;have hid:=h.jC hb;have hfd:=h.find hb;have t1:dJ p b.id=(au p b).getD 1 aB:=h.J3 hb;have t2:dJ p (-b.id)=(au p b).getD b.via.length aB:=h.G9 hb;have z1:zD z b.id=z b.id:=by unfold zD;rw [if_pos (by omega)]
  have z2:zD z (-b.id)=-z b.id:=by unfold zD;rw [if_neg (by omega),Int.neg_neg]
  have hs:jM (xk φ n.pt) (au p b)=(if b.fr=n.id then φ ((au p b).getD 1 aB) else 0)-(if b.dst=n.id then φ ((au p b).getD b.via.length aB) else 0):=by
   have f1:(au p b).getD 0 aB=n.pt↔b.fr=n.id:=by
    constructor
    ·intro e;rcases h.RX hn hb (by omega) e with ⟨-,e⟩ | ⟨e,-⟩
     · exact e
     · omega
    ·intro e;rw [zy,e];exact h.sound.sN hn
   have f2:(au p b).getD (b.via.length+1) aB=n.pt↔b.dst=n.id:=by
    have e1:=zA p b;rw [hlb,show b.via.length+2-1=b.via.length+1 by omega] at e1;constructor
    ·intro e;rcases h.RX hn hb (by omega) e with ⟨e,-⟩ | ⟨-,e⟩
     · omega
     · exact e
    ·intro e;rw [e1,e];exact h.sound.sN hn
   unfold jM xk;simp only [Int.sub_eq_add_neg];rw [rG,uq];rw [NV _ 0 _ (fun k hk hkj=>if_neg (fun e=>by rcases h.RX hn hb (by omega) e with ⟨e,-⟩ | ⟨e,-⟩<;>omega))];rw [NV _ b.via.length _ (fun k hk hkj=>if_neg (fun e=>by rcases h.RX hn hb (by omega) e with ⟨e,-⟩ | ⟨e,-⟩<;>omega))];rw [if_pos (show 0<(au p b).length-1 by omega),if_pos (show b.via.length<(au p b).length-1 by omega)];simp only [f1,f2]
  rw [hs,List.map_append,List.sum_append];by_cases c1:b.fr=n.id<;>by_cases c2:b.dst=n.id<;>simp only [c1,c2,if_true,if_false,List.map_cons,List.map_nil,List.sum_cons,List.sum_nil,t1,t2,z1,z2]<;>grind
 unfold cu dL;rw [fV _ _ _ key];generalize p.ah=l
 induction l with
 | nil=>rfl
 | cons b l ih=>rw [List.map_cons,List.sum_cons,List.flatMap_cons,ih];simp only [List.map_append,List.sum_append]
theorem Valid.ad8 {z:Int->Int} (hz:fZ p z) {n:Nd} (hn:n∈p.nodes):((dL p.ah n.id).map fun d=>zD z d).sum=0:=by
 have h1:=hz n hn;have e:((dL p.ah n.id).map fun d=>zD z d).sum=-(p.ah.map fun a=>z a.id*((if a.dst=n.id then 1 else 0)-(if a.fr=n.id then 1 else 0))).sum:=by
  have hid:∀ b∈p.ah,1<=b.id:=fun b hb=>(h.jC hb).1;unfold dL;generalize p.ah=l at hid
  induction l with
  | nil=>rfl
  | cons b l ih =>
   have:=hid b (by simp)
   have z1:zD z b.id=z b.id:=by unfold zD;rw [if_pos (by omega)]
   have z2:zD z (-b.id)=-z b.id:=by unfold zD;rw [if_neg (by omega),Int.neg_neg]
   rw [List.map_cons,List.sum_cons,List.flatMap_cons,List.map_append,List.sum_append,ih (fun c hc=>hid c (by simp [hc]))];by_cases c1:b.fr=n.id<;>by_cases c2:b.dst=n.id<;>simp only [c1,c2,if_true,if_false,List.map_append,List.sum_append,List.map_cons,List.map_nil,List.sum_cons,List.sum_nil,z1,z2]<;>grind
 rw [e,h1];rfl
end
theorem alC {l:List Int} (hl:l.Nodup) {d:Int} (hd:d∈l) (c:Int->Int):(l.map fun x=>if x=d then c x else 0).sum=c d:=by
 induction l with
 | nil=>cases hd
 | cons a l ih =>
  rw [List.nodup_cons] at hl;rw [List.map_cons,List.sum_cons];rcases List.mem_cons.1 hd with rfl | hd
  · rw [if_pos rfl,yA l _ (fun x hx=>if_neg (by rintro rfl;exact hl.1 hx))];omega
  · rw [if_neg (by rintro rfl;exact hl.1 hd),ih hl.2 hd];omega
theorem alD (z:Int->Int) {d:Int} (h:d≠0):zD z (-d)=-zD z d:=by
 unfold zD;by_cases h1:0<d
 · rw [if_neg (by omega),if_pos h1,Int.neg_neg]
 · rw [if_pos (by omega),if_neg h1,Int.neg_neg]
theorem C9 (o a:Pt):ind (dV o a a)=0:=if_neg (alz o a)
theorem XK {o a b:Pt} (h:dV o a b\/dV o b a):ind (dV o a b)+ind (dV o b a)=1:=by
 unfold ind;rcases h with h | h
 · rw [if_pos h,if_neg (H9 h)];rfl
 · rw [if_neg (H9 h),if_pos h];rfl
section
variable {p:Pl} (h:Valid p)
include h
theorem Valid.XM {a:Ar} (ha:a∈p.ah) {k:Nat} (hk:k+2<(au p a).length):dV ((au p a).getD (k+1) aB) ((au p a).getD k aB) ((au p a).getD (k+2) aB)\/dV ((au p a).getD (k+1) aB) ((au p a).getD (k+2) aB) ((au p a).getD k aB):=by
 have d1:=(h.distinct ha (k:=k) (by omega)).1;have d2:=(h.distinct ha (k:=k+1) (by omega)).1;have n0:=h.bV ha (k:=k) (by omega);have n1:=h.bV ha (k:=k+1) (by omega);have n2:=h.bV ha (k:=k+2) (by omega);have hap:=h.tY.2.1 a ha k (k+1) (by omega) (by omega);unfold Ci at hap;rw [if_pos (.inl rfl)] at hap;unfold bQ at hap;simp only [beq_iff_eq] at hap;generalize (au p a).getD k aB=u at *;generalize (au p a).getD (k+1) aB=o at *;rw [show k+1+1=k+2 by omega] at *;generalize (au p a).getD (k+2) aB=v at *;apply Classical.byContradiction;intro hno;obtain ⟨-,r2,-,-⟩:=adw n1 n0 n2 d1 (fun e=>d2 e.symm) (fun e=>hno (.inl e)) (fun e=>hno (.inr e));rw [r2] at hap;exact absurd hap (by decide)
theorem Valid.alE (z:Int->Int) {a:Ar} (ha:a∈p.ah) {k:Nat} (hk:k+2<(au p a).length):qP p z ((au p a).getD (k+1) aB) ((au p a).getD (k+2) aB)-lV p z ((au p a).getD (k+1) aB) ((au p a).getD (k+2) aB)=z a.id:=by
 rw [N7,h.RY z _ ha (j:=k+1) (by omega) hk,show k+1-1=k by omega,show k+1+1=k+2 by omega,C9,XK (h.XM ha hk).symm]
 grind
theorem Valid.ad9 (z:Int->Int) {a:Ar} (ha:a∈p.ah) {k:Nat} (hk:k+2<(au p a).length):qP p z ((au p a).getD (k+1) aB) ((au p a).getD k aB)-lV p z ((au p a).getD (k+1) aB) ((au p a).getD k aB)=-z a.id:=by
 rw [N7,h.RY z _ ha (j:=k+1) (by omega) hk,show k+1-1=k by omega,show k+1+1=k+2 by omega,C9,XK (h.XM ha hk)]
 grind
theorem Valid.alF (z:Int->Int) {a:Ar} (ha:a∈p.ah) {k:Nat} (hk:k+2<(au p a).length):qP p z ((au p a).getD (k+1) aB) ((au p a).getD k aB)=lV p z ((au p a).getD (k+1) aB) ((au p a).getD (k+2) aB):=by
 have e:=N7 p z ((au p a).getD (k+1) aB) ((au p a).getD k aB) ((au p a).getD (k+2) aB);rw [h.RY z _ ha (j:=k+1) (by omega) hk,show k+1-1=k by omega,show k+1+1=k+2 by omega,C9,C9,Int.add_zero,Int.zero_add,Int.sub_self,Int.mul_zero] at e;omega
theorem Valid.Ku {z:Int->Int} (hz:fZ p z) {n:Nd} (hn:n∈p.nodes) {d:Int} (hd:d∈dL p.ah n.id):qP p z n.pt (dJ p d)-lV p z n.pt (dJ p d)=zD z d:=by
 rw [N7,h.XJ z _ hn];have h0:=h.ad8 hz hn;have h1:=alC (h.adD (n:=n.id)) hd (fun x=>zD z x);have e:((dL p.ah n.id).map fun x=>zD z x*(ind (dV n.pt (dJ p d) (dJ p x))+ind (dV n.pt (dJ p x) (dJ p d)))).sum=((dL p.ah n.id).map fun x=>zD z x + -(if x=d then zD z x else 0)).sum:=by
  refine fV _ _ _ fun x hx=>?_;by_cases hxd:x=d
  ·subst hxd;rw [C9,if_pos rfl];omega
  · rw [XK (h.dirs hn hd hx (fun e=>hxd e.symm)),if_neg hxd];omega
 rw [e,rG,uq,h0,h1];omega
theorem Valid.aea {n:Nd} (hn:n∈p.nodes) {i j:Nat} (hij:i<j) (hj:j<(dB p n.id).length):dV n.pt (dJ p ((dB p n.id)[i]'(by omega))) (dJ p (dB p n.id)[j]):=by
 have hmem:∀ {x:Int},x∈dB p n.id->x∈dL p.ah n.id:=fun hx=>(h.oV hn).subset hx;have hs:=(RN (h.RP hn)).2;rw [<- h.Xt hn,List.pairwise_iff_getElem] at hs;have h1:=hs i j (by omega) hj hij;have hne:(dB p n.id)[i]≠(dB p n.id)[j]:=fun e=>by
  have hnd:=h.Hy hn;rw [List.nodup_iff_pairwise_ne,List.pairwise_iff_getElem] at hnd;exact hnd i j (by omega) hj hij e
 have m1:=hmem (List.getElem_mem (show i<(dB p n.id).length by omega));have m2:=hmem (List.getElem_mem hj);rcases h.dirs hn m1 m2 hne with h2 | h2
 · exact h2
 ·exfalso;obtain ⟨n0,n1,x1⟩:=h.Hg hn m1;obtain ⟨-,n2,x2⟩:=h.Hg hn m2;unfold ltD at h1;rw [(acs _ _ _).2 ⟨by simp [fH,n0,n1,n2],x2,x1,h2⟩] at h1
  cases h1
theorem Valid.alG {z:Int->Int} (hz:fZ p z) {n:Nd} (hn:n∈p.nodes) {d:Int} (hd:d∈dB p n.id):qP p z n.pt (dJ p (precD (dB p n.id) d))=lV p z n.pt (dJ p d):=by
 have hnd:=h.Hy hn;have hp:=h.oV hn;have hso:=fun {i j:Nat}=>h.aea hn (i:=i) (j:=j);have e:=N7 p z n.pt (dJ p (precD (dB p n.id) d)) (dJ p d);rw [h.XJ z _ hn] at e;have h0:=h.ad8 hz hn;obtain ⟨i,hi,rfl⟩:=List.mem_iff_getElem.1 hd;rw [J5 hnd hi] at e ⊢;have RZ:∀ i j (hi:i<(dB p n.id).length) (hj:j<(dB p n.id).length),ind (dV n.pt (dJ p (dB p n.id)[i]) (dJ p (dB p n.id)[j]))=if i<j then 1 else 0:=by
  intro i j hi hj;rcases Nat.lt_trichotomy i j with h1 | h1 | h1
  · rw [if_pos h1];exact if_pos (hso h1 hj)
  · subst h1;rw [if_neg (by omega)];exact C9 _ _
  · rw [if_neg (by omega)];exact if_neg (H9 (hso h1 hi))
 have hc:∃ c:Int,∀ x∈dL p.ah n.id,ind (dV n.pt (dJ p ((dB p n.id)[(i+(dB p n.id).length-1) % (dB p n.id).length]'(Nat.mod_lt _ (by omega)))) (dJ p x))+ind (dV n.pt (dJ p x) (dJ p (dB p n.id)[i]))=c:=by
  by_cases h1:i=0
  ·refine ⟨0,fun x hx=>?_⟩;obtain ⟨j,hj,rfl⟩:=List.mem_iff_getElem.1 (hp.symm.subset hx);have hm:(i+(dB p n.id).length-1) % (dB p n.id).length=(dB p n.id).length-1:=by rw [h1];rw [Nat.zero_add];exact Nat.mod_eq_of_lt (by omega)
   rw [RZ _ _ (Nat.mod_lt _ (by omega)) hj,RZ j i hj hi,if_neg (by omega),if_neg (by omega)];rfl
  ·refine ⟨1,fun x hx=>?_⟩;obtain ⟨j,hj,rfl⟩:=List.mem_iff_getElem.1 (hp.symm.subset hx);have hm:(i+(dB p n.id).length-1) % (dB p n.id).length=i-1:=by rw [show i+(dB p n.id).length-1=i-1+(dB p n.id).length by omega,Nat.add_mod_right];exact Nat.mod_eq_of_lt (by omega)
   rw [RZ _ _ (Nat.mod_lt _ (by omega)) hj,RZ j i hj hi];by_cases h2:j<i
   · rw [if_neg (by omega),if_pos h2];rfl
   · rw [if_pos (by omega),if_neg h2];rfl
 obtain ⟨c,hc⟩:=hc;rw [fV _ _ (fun x=>c*zD z x) (fun x hx=>by rw [hc x hx,Int.mul_comm]),Bo,h0,Int.mul_zero] at e;omega
theorem Valid.XO {z:Int->Int} (hz:fZ p z) {a:Ar} (ha:a∈p.ah) {m:Nat} (hm:m+1<(au p a).length):lV p z ((au p a).getD m aB) ((au p a).getD (m+1) aB)=qP p z ((au p a).getD (m+1) aB) ((au p a).getD m aB):=by
 have hl:=fJ p a;have hid:=(h.jC ha).1;have hne:=(h.distinct ha hm).1;have n1:=h.bV ha (k:=m) (by omega);have n2:=h.bV ha (k:=m+1) hm;have j1:qP p z ((au p a).getD m aB) ((au p a).getD (m+1) aB)-lV p z ((au p a).getD m aB) ((au p a).getD (m+1) aB)=z a.id:=by
  by_cases h0:m=0
  ·subst h0;obtain ⟨n,hn,e1,e2⟩:=h.sound.yw ha;have:=h.Ku hz hn (d:=a.id) (wZ.2 ⟨a,ha,.inl ⟨rfl,e1.symm⟩⟩)
   rw [h.J3 ha] at this;rw [zy,e2,this];unfold zD;rw [if_pos (by omega)]
  ·obtain ⟨k,rfl⟩:∃ k,m=k+1:=⟨m-1,by omega⟩;exact h.alE z ha hm
 have j2:qP p z ((au p a).getD (m+1) aB) ((au p a).getD m aB)-lV p z ((au p a).getD (m+1) aB) ((au p a).getD m aB)=-z a.id:=by
  by_cases h0:m+1=(au p a).length-1
  ·obtain ⟨n,hn,e1,e2⟩:=h.sound.zu ha;have:=h.Ku hz hn (d:=-a.id) (wZ.2 ⟨a,ha,.inr ⟨rfl,e1.symm⟩⟩)
   rw [h.G9 ha,show a.via.length=m by omega] at this;rw [h0,zA,e2,this];unfold zD;rw [if_neg (by omega),Int.neg_neg]
  · exact h.ad9 z ha (by omega)
 rcases Int.lt_trichotomy (hY ((au p a).getD m aB)) (hY ((au p a).getD (m+1) aB)) with h1 | h1 | h1
 · exact h.ad6 hz ha hm (.inl ⟨rfl,rfl⟩) h1
 · exact absurd (nT n1 n2 h1) hne
 ·have:=h.ad6 hz ha hm (.inr ⟨rfl,rfl⟩) h1
  omega
theorem Valid.Si {z:Int->Int} (hz:fZ p z) {a:Ar} (ha:a∈p.ah):∀ (m:Nat),m+1<(au p a).length->lV p z ((au p a).getD 0 aB) ((au p a).getD 1 aB)=qP p z ((au p a).getD (m+1) aB) ((au p a).getD m aB)
 | 0,hm=>h.XO hz ha hm
 | m+1,hm=>by
  rw [Valid.Si hz ha m (by omega),h.alF z ha (k:=m) (by omega)];exact h.XO hz ha (m:=m+1) hm
end
def Hz (p:Pl) (z:Int->Int) (d:Int):Int:=qP p z (nodeAt p (lD p d)) (dJ p d)
section
variable {p:Pl} (h:Valid p)
include h
theorem Valid.Dc {z:Int->Int} (hz:fZ p z) {a:Ar} (ha:a∈p.ah):Hz p z a.id-Hz p z (-a.id)=z a.id:=by
 have hl:=fJ p a;have hid:=(h.jC ha).1;have h1:=h.Si hz ha a.via.length (by omega);have h2:(au p a).getD (a.via.length+1) aB=nodeAt p a.dst:=by
  have:=zA p a
  rwa [hl,show a.via.length+2-1=a.via.length+1 by omega] at this
 unfold Hz;rw [h.RJ ha,h.NR ha,h.J3 ha,h.G9 ha];rw [h2,zy] at h1;obtain ⟨n,hn,e1,e2⟩:=h.sound.yw ha;have:=h.Ku hz hn (d:=a.id) (wZ.2 ⟨a,ha,.inl ⟨rfl,e1.symm⟩⟩)
 rw [h.J3 ha,<- e2] at this;unfold zD at this;rw [if_pos (by omega)] at this;omega
theorem Valid.alH {d:Int} (hd:d∈aQ p):d≠0:=by
 obtain ⟨a,ha,e⟩:=jD.1 hd;have:=h.jC ha
 omega
theorem Valid.aeb {z:Int->Int} (hz:fZ p z) {d:Int} (hd:d∈aQ p):Hz p z d-Hz p z (-d)=zD z d:=by
 obtain ⟨a,ha,e⟩:=jD.1 hd;have hid:=(h.jC ha).1;have:=h.Dc hz ha
 rcases e with rfl | rfl
 · rw [this];unfold zD;rw [if_pos (by omega)]
 · rw [Int.neg_neg];unfold zD;rw [if_neg (by omega),Int.neg_neg];omega
theorem Valid.aec {z:Int->Int} (hz:fZ p z) {d:Int} (hd:d∈aQ p):Hz p z (fU p d)=Hz p z d:=by
 obtain ⟨n,hn,e1,hm,hx⟩:=h.J6 hd;have hs:=(h.uf hd).2;have j:=h.Ku hz hn ((h.oV hn).subset hm);have t:=h.alG hz hn hm;have k:=h.aeb hz hd;have en:nodeAt p (lD p (-d))=n.pt:=by rw [<- e1];exact h.sound.sN hn
 have z1:=alD z (h.alH hd);unfold Hz at k ⊢;rw [hs,en,hx,t];rw [en] at k;omega
end
set_option linter.unusedSectionVars false
def mrg (r:Int->Int) (a b x:Int):Int:=if r x=r a then r b else r x
structure Kv (U:List Int) (r:Int->Int):Prop where
 mem:∀ x∈U,r x∈U
 idem:∀ x∈U,r (r x)=r x
def EP (U:List Int) (r:Int->Int):Nat:=(U.filter (fun x=>decide (r x=x))).length
theorem Kv.mrg {U:List Int} {r:Int->Int} (h:Kv U r) {a b:Int} (hb:b∈U):Kv U (mrg r a b):=by
 constructor
 ·intro x hx;unfold Go.Proofs.YtialfdomhoojiaaGreat.mrg;split
  · exact h.mem b hb
  · exact h.mem x hx
 ·intro x hx;unfold Go.Proofs.YtialfdomhoojiaaGreat.mrg;by_cases e:r x=r a
  ·rw [if_pos e,h.idem b hb];split<;>rfl
  · rw [if_neg e,h.idem x hx,if_neg e]
theorem filter_one {l:List Int} (hl:l.Nodup) {c:Int} (hc:c∈l):(l.filter (fun x=>decide (x≠c))).length+1=l.length:=by
 induction l with
 | nil=>cases hc
 | cons a l ih =>
  rw [List.nodup_cons] at hl;rcases List.mem_cons.1 hc with rfl | hc
  · rw [List.filter_cons,if_neg (by simp),List.filter_eq_self.2 (fun x hx=>by
    rw [decide_eq_true_eq];rintro rfl;exact hl.1 hx)];rfl
  ·have hac:a≠c:=by rintro rfl;exact hl.1 hc
   rw [List.filter_cons,if_pos (by simpa using hac),List.length_cons,ih hl.2 hc];rfl
theorem alI {U:List Int} (hU:U.Nodup) {r:Int->Int} (h:Kv U r) {a b:Int} (ha:a∈U) (hb:b∈U) (hne:r a≠r b):EP U (mrg r a b)+1=EP U r:=by
 have e:U.filter (fun x=>decide (mrg r a b x=x))=(U.filter (fun x=>decide (r x=x))).filter (fun x=>decide (x≠r a)):=by
  rw [List.filter_filter];refine List.filter_congr fun x hx=>?_;unfold mrg;by_cases e:r x=r a
  ·rw [if_pos e];have h1:¬ r b=x:=by
    rintro rfl;rw [h.idem b hb] at e;exact hne e.symm
   rw [decide_eq_false h1];by_cases h2:x=r a
   · subst h2;simp
   ·have:¬ r x=x:=fun e2=>h2 (e2.symm.trans e)
    simp [this]
  ·rw [if_neg e];by_cases h2:r x=x
   ·have:x≠r a:=fun e2=>e (h2.trans e2)
    simp [h2,this]
   · simp [h2]
 unfold EP;rw [e];refine filter_one (hU.filter _) ?_;rw [List.mem_filter];exact ⟨h.mem a ha,by rw [decide_eq_true_eq];exact h.idem a ha⟩
def jE (p:Pl) (k:Nat) (x:Int):Int:=pw (mQ p k).1 x (p.ah.length+1)
def nV (p:Pl) (k:Nat) (a:Ar):Prop:=jE p k a.fr≠jE p k a.dst
instance (p:Pl) (k:Nat) (a:Ar):Decidable (nV p k a):=by unfold nV;infer_instance
def Ia (p:Pl):List Int:=p.nodes.map (·.id)
section
variable {p:Pl} (h:Valid p)
include h
theorem Valid.XP {a:Ar} (ha:a∈p.ah):a.fr∈Ia p/\a.dst∈Ia p:=by
 obtain ⟨n1,h1,e1,-⟩:=h.sound.yw ha;obtain ⟨n2,h2,e2,-⟩:=h.sound.zu ha;exact ⟨List.mem_map.2 ⟨n1,h1,e1⟩,List.mem_map.2 ⟨n2,h2,e2⟩⟩
theorem Valid.N9 {k:Nat} (hk:k<p.ah.length):(jE p (k+1)=if nV p k p.ah[k] then mrg (jE p k) p.ah[k].fr p.ah[k].dst else jE p k)/\(mQ p (k+1)).2=(mQ p k).2-(if nV p k p.ah[k] then 1 else 0):=by
 have ho:=adS h k (by omega);by_cases ht:nV p k p.ah[k]
 ·rw [if_pos ht,if_pos ht];unfold nV jE at ht;unfold jE;rw [RU p k hk];unfold J9;rw [if_neg ht];refine ⟨?_,rfl⟩;have hr:∀ x,(mQ p k).1 (pw (mQ p k).1 x (p.ah.length+1))=pw (mQ p k).1 x (p.ah.length+1):=ho.flat.more (by omega);obtain ⟨h1,h2⟩:=adQ ho.flat (hr p.ah[k].fr) (hr p.ah[k].dst) ht
  funext x
  show pw (lF _ _ _) x (p.ah.length+1)=mrg _ _ _ x
  rw [h1.eq (M:=p.ah.length+1) (by omega),h2 x];unfold mrg;simp only;rw [<- ho.flat.eq (M:=p.ah.length+1) (by omega) x]
 ·rw [if_neg ht,if_neg ht];unfold nV jE at ht;unfold jE;rw [RU p k hk];unfold J9;rw [if_pos (Classical.byContradiction ht)];exact ⟨rfl,by omega⟩
theorem Valid.Sj {x:Int} (hx:x∈Ia p):jE p 0 x=x:=by
 have h0:oZ p.nodes x=x:=if_pos hx;have:∀ n,pw (oZ p.nodes) x n=x:=by
  intro n
  induction n with
  | zero=>rfl
  | succ n ih=>show oZ p.nodes (pw (oZ p.nodes) x n)=x;rw [ih,h0]
 exact this _
theorem Valid.alJ {k j:Nat} (hkj:k<=j) (hj:j<=p.ah.length) {x y:Int} (e:jE p k x=jE p k y):jE p j x=jE p j y:=by
 induction j with
 | zero =>
  have:k=0:=by omega
  subst this;exact e
 | succ j ih =>
  by_cases h1:k=j+1
  · subst h1;exact e
  ·have e2:=ih (by omega) (by omega);rw [(h.N9 (k:=j) (by omega)).1];split
   · unfold mrg;rw [e2]
   · exact e2
theorem Valid.alK {k j:Nat} (hj:j<k) (hk:k<=p.ah.length):jE p k (p.ah[j]'(by omega)).fr=jE p k (p.ah[j]'(by omega)).dst:=by
 refine h.alJ (k:=j+1) (by omega) hk ?_;rw [(h.N9 (k:=j) (by omega)).1];split
 ·unfold mrg;rw [if_pos rfl];split<;>rfl
 ·rename_i ht;unfold nV at ht;exact Classical.byContradiction ht
end
def uw (p:Pl) (c:Int->Int) (n:Int):Int:=(p.ah.map fun a=>c a.id*((if a.dst=n then 1 else 0)-(if a.fr=n then 1 else 0))).sum
theorem Oa (p:Pl) (c d:Int->Int) (n:Int):uw p (fun i=>c i+d i) n=uw p c n+uw p d n:=by
 unfold uw;rw [<- rG];exact fV _ _ _ fun a _=>by rw [Int.add_mul]
theorem alL (p:Pl) (c:Int->Int) (n:Int):uw p (fun i=>-c i) n=-uw p c n:=by
 unfold uw;rw [<- uq];exact fV _ _ _ fun a _=>by rw [Int.neg_mul]
def vk (a:Ar) (i:Int):Int:=if i=a.id then 1 else 0
def Df (p:Pl) (k:Nat) (c:Int->Int):Prop:=∀ j (hj:j<p.ah.length),c p.ah[j].id≠0->j<k/\nV p j p.ah[j]
section
variable {p:Pl} (h:Valid p)
include h
theorem Valid.aed {a:Ar} (ha:a∈p.ah) (n:Int):uw p (vk a) n=(if a.dst=n then 1 else 0)-(if a.fr=n then 1 else 0):=by
 unfold uw vk;have:=Kq p.ah (·.id) h.sound.ah (fun _=>(if a.dst=n then (1:Int) else 0)-(if a.fr=n then 1 else 0)) a.id ⟨a,ha,rfl⟩
 rw [<- this];refine fV _ _ _ fun b hb=>?_;by_cases e:a.id=b.id
 ·have:=h.Xn ha hb e
  subst this;rw [if_pos rfl,if_pos rfl];omega
 · rw [if_neg (fun e2=>e e2.symm),if_neg e];omega
theorem Valid.chain (k:Nat) (hk:k<=p.ah.length):∀ x∈Ia p,∀ y∈Ia p,jE p k x=jE p k y->∃ c,Df p k c/\∀ n,uw p c n=(if y=n then 1 else 0)-(if x=n then 1 else 0):=by
 induction k with
 | zero =>
  intro x hx y hy e;rw [h.Sj hx,h.Sj hy] at e;subst e;refine ⟨fun _=>0,fun j hj h0=>absurd rfl h0,fun n=>?_⟩;unfold uw;rw [yA _ _ (fun a _=>Int.zero_mul _)];omega
 | succ k ih =>
  intro x hx y hy e;have ih:=ih (by omega);have hup:∀ {c},Df p k c->Df p (k+1) c:=fun hc j hj h0=>⟨by have:=(hc j hj h0).1;omega,(hc j hj h0).2⟩;rw [(h.N9 (k:=k) (by omega)).1] at e;by_cases ht:nV p k p.ah[k]
  ·rw [if_pos ht] at e;have ha:=List.getElem_mem (show k<p.ah.length by omega);have hm:=h.XP ha;have h1:=h.aed ha;have hs1:Df p (k+1) (vk p.ah[k]):=fun j hj h0=>by
    unfold vk at h0;split at h0
    ·rename_i e2;have h2:j=k:=by
      have hpw:=h.sound.ah;rw [List.pairwise_map,List.pairwise_iff_getElem] at hpw;rcases Nat.lt_trichotomy j k with h3 | h3 | h3
      · have:=hpw j k hj (by omega) h3;omega
      · exact h3
      · have:=hpw k j (by omega) hj h3;omega
     subst h2;exact ⟨by omega,ht⟩
    · exact absurd rfl h0
   have hadd:∀ {c d:Int->Int},Df p (k+1) c->Df p (k+1) d->Df p (k+1) (fun i=>c i+d i):=by
    intro c d hc hd j hj h0;by_cases h2:c p.ah[j].id=0
    · exact hd j hj (fun e=>h0 (by show _+_=(0:Int);rw [h2,e];rfl))
    · exact hc j hj h2
   have hneg:∀ {c},Df p (k+1) c->Df p (k+1) (fun i=>-c i):=fun hc j hj h0=>hc j hj (fun e=>h0 (by show -_=(0:Int);rw [e];rfl));unfold mrg at e;by_cases ex:jE p k x=jE p k p.ah[k].fr<;>by_cases ey:jE p k y=jE p k p.ah[k].fr
   ·obtain ⟨c,hc,hb⟩:=ih x hx y hy (ex.trans ey.symm);exact ⟨c,hup hc,hb⟩
   ·rw [if_pos ex,if_neg ey] at e;obtain ⟨c,hc,hb⟩:=ih x hx _ hm.1 ex;obtain ⟨d,hd,hb2⟩:=ih _ hm.2 y hy e;refine ⟨fun i=>(c i+vk p.ah[k] i)+d i,hadd (hadd (hup hc) hs1) (hup hd),fun n=>?_⟩;rw [Oa p (fun i=>c i+vk p.ah[k] i),Oa,hb,hb2,h1];omega
   ·rw [if_neg ex,if_pos ey] at e;obtain ⟨c,hc,hb⟩:=ih x hx _ hm.2 e;obtain ⟨d,hd,hb2⟩:=ih _ hm.1 y hy ey.symm;refine ⟨fun i=>(c i + -vk p.ah[k] i)+d i,hadd (hadd (hup hc) (hneg hs1)) (hup hd),fun n=>?_⟩;rw [Oa p (fun i=>c i + -vk p.ah[k] i),Oa,alL,hb,hb2,h1];omega
   ·rw [if_neg ex,if_neg ey] at e;obtain ⟨c,hc,hb⟩:=ih x hx y hy e;exact ⟨c,hup hc,hb⟩
  ·rw [if_neg ht] at e;obtain ⟨c,hc,hb⟩:=ih x hx y hy e;exact ⟨c,hup hc,hb⟩
theorem Valid.alM {k:Nat} (hk:k<p.ah.length) (ht:¬ nV p k p.ah[k]):∃ z,fZ p z/\z p.ah[k].id=1/\∀ j (hj:j<p.ah.length),j≠k->¬ nV p j p.ah[j]->z p.ah[j].id=0:=by
 have ha:=List.getElem_mem hk;have hm:=h.XP ha;unfold nV at ht;obtain ⟨c,hc,hb⟩:=h.chain k (by omega) _ hm.2 _ hm.1 (Classical.byContradiction fun e=>ht (fun e2=>e e2.symm));refine ⟨fun i=>vk p.ah[k] i+c i,fun n hn=>?_,?_,fun j hj hjk hjt=>?_⟩
 ·show uw p (fun i=>vk p.ah[k] i+c i) n.id=0
  rw [Oa,h.aed ha,hb];omega
 ·have:c p.ah[k].id=0:=Classical.byContradiction fun e=>by have:=(hc k hk e).1;omega
  show vk _ _+_=_
  rw [this];unfold vk;rw [if_pos rfl];rfl
 ·have h1:c p.ah[j].id=0:=Classical.byContradiction fun e=>hjt (hc j hj e).2;have h2:p.ah[j].id≠p.ah[k].id:=fun e=>by
   have hpw:=h.sound.ah;rw [List.pairwise_map,List.pairwise_iff_getElem] at hpw;rcases Nat.lt_trichotomy j k with h3 | h3 | h3
   · have:=hpw j k hj hk h3;omega
   · exact hjk h3
   · have:=hpw k j hk hj h3;omega
  show vk _ _+_=_
  rw [h1];unfold vk;rw [if_neg h2];rfl
theorem Valid.aee {g:Int->Int} (hg:fZ p g) (h0:∀ j (hj:j<p.ah.length),¬ nV p j p.ah[j]->g p.ah[j].id=0):∀ (k:Nat),k<=p.ah.length->(∀ j (hj:j<p.ah.length),k<=j->g p.ah[j].id=0)->∀ j (hj:j<p.ah.length),g p.ah[j].id=0
 | 0,_,hz,j,hj=>hz j hj (by omega)
 | k+1,hk,hz,j,hj=>by
  refine Valid.aee hg h0 k (by omega) (fun j hj hkj=>?_) j hj;by_cases hjk:j=k
  ·subst hjk;by_cases ht:nV p j p.ah[j]
   ·have hs:=h.ad3 hg (fun x=>if jE p j x=jE p j p.ah[j].fr then 1 else 0);have e:(p.ah.map fun a=>g a.id*((if jE p j a.dst=jE p j p.ah[j].fr then (1:Int) else 0)-(if jE p j a.fr=jE p j p.ah[j].fr then 1 else 0))).sum=(p.ah.map fun a=>if p.ah[j].id=a.id then -g a.id else 0).sum:=by
     refine fV _ _ _ fun a ha=>?_;obtain ⟨i,hi,rfl⟩:=List.mem_iff_getElem.1 ha;rcases Nat.lt_trichotomy i j with h3 | h3 | h3
     ·have hne:¬ p.ah[j].id=p.ah[i].id:=fun e=>by
       have hpw:=h.sound.ah;rw [List.pairwise_map,List.pairwise_iff_getElem] at hpw;have:=hpw i j hi hj h3;omega
      rw [if_neg hne,h.alK h3 (by omega),Int.sub_self,Int.mul_zero]
     ·subst h3;rw [if_pos rfl,if_pos rfl];unfold nV at ht;rw [if_neg (fun e=>ht e.symm)];omega
     ·have hne:¬ p.ah[j].id=p.ah[i].id:=fun e=>by
       have hpw:=h.sound.ah;rw [List.pairwise_map,List.pairwise_iff_getElem] at hpw;have:=hpw j i hj hi h3;omega
      rw [if_neg hne,hz i hi (by omega),Int.zero_mul]
    rw [e,Kq p.ah (·.id) h.sound.ah (fun i=>-g i) p.ah[j].id ⟨_,List.getElem_mem hj,rfl⟩] at hs;omega
   · exact h0 j hj ht
  · exact hz j hj (by omega)
end
set_option linter.unusedSectionVars false
def qp (L:List (List Int)) (d:Int):Int:=match L.find? (fun c=>decide (d∈c)) with
 | some c=>c.headD 0
 | none=>d
def aS (p:Pl):Nat->Int->Int
 | 0=>qp (aY p)
 | k+1=>match p.ah[k]? with
  | some a=>if nV p k a then aS p k else mrg (aS p k) a.id (-a.id)
  | none=>aS p k
theorem Ob {p:Pl} {k:Nat} (hk:k<p.ah.length):aS p (k+1)=if nV p k p.ah[k] then aS p k else mrg (aS p k) p.ah[k].id (-p.ah[k].id):=by
 rw [aS,List.getElem?_eq_getElem hk]
section
variable {p:Pl} (h:Valid p)
include h
theorem Valid.Oc {c c':List Int} (hc:c∈aY p) (hc':c'∈aY p) {y:Int} (h1:y∈c) (h2:y∈c'):c=c':=by
 have hnd:=h.iJ.nodup;rw [List.nodup_iff_pairwise_ne,List.pairwise_flatten] at hnd;have hpw:=hnd.2;rw [List.pairwise_iff_getElem] at hpw;obtain ⟨i,hi,rfl⟩:=List.mem_iff_getElem.1 hc;obtain ⟨j,hj,rfl⟩:=List.mem_iff_getElem.1 hc';rcases Nat.lt_trichotomy i j with h3 | h3 | h3
 · exact absurd rfl (hpw i j hi hj h3 _ h1 _ h2)
 · subst h3;rfl
 · exact absurd rfl (hpw j i hj hi h3 _ h2 _ h1)
theorem Valid.o7 {c:List Int} (hc:c∈aY p):∃ x∈aQ p,c=lT (fU p) (aQ p) x/\c.headD 0=x/\x∈c:=by
 obtain ⟨x,hx,e,-⟩:=h.iJ.NQ c hc;have hf:=CU (fun x hx=>(h.uf hx).1) (fun x hx y hy=>h.CV hx hy) hx;refine ⟨x,hx,e,?_,by rw [e];exact adA hf.1⟩;rw [e];unfold lT;obtain ⟨m,hm⟩:∃ m,oJ (fU p) (aQ p) x=m+1:=⟨oJ (fU p) (aQ p) x-1,by have:=hf.1;omega⟩;rw [hm];rfl
theorem Valid.ER {d:Int} (hd:d∈aQ p):∃ c∈aY p,d∈c/\qp (aY p) d=c.headD 0:=by
 obtain ⟨c,hc,hdc⟩:=List.mem_flatten.1 (h.iJ.covers d hd);unfold qp
 cases hf:(aY p).find? (fun c=>decide (d∈c)) with
 | none =>
  have:=List.find?_eq_none.1 hf c hc
  simp [hdc] at this
 | some c' =>
  have h1:=List.find?_some hf;exact ⟨c',List.mem_of_find?_eq_some hf,by simpa using h1,rfl⟩
theorem Valid.head_eq {c:List Int} (hc:c∈aY p) {d:Int} (hd:d∈aQ p) (hdc:d∈c):qp (aY p) d=c.headD 0:=by
 obtain ⟨c',h1,h2,h3⟩:=h.ER hd;rw [h3,h.Oc h1 hc h2 hdc]
theorem Valid.alN {d:Int} (hd:d∈aQ p):qp (aY p) (fU p d)=qp (aY p) d:=by
 obtain ⟨c,h1,h2,h3⟩:=h.ER hd;obtain ⟨x,hx,e,-,-⟩:=h.o7 h1;rw [h3];refine h.head_eq h1 (h.uf hd).1 ?_;rw [e] at h2 ⊢;exact (Xj (fun x hx=>(h.uf hx).1) (fun x hx y hy=>h.CV hx hy) hx hd).2 h2
theorem Valid.alO {β:Type} (H:Int->β) (hH:∀ d∈aQ p,H (fU p d)=H d) {d:Int} (hd:d∈aQ p):H (qp (aY p) d)=H d:=by
 obtain ⟨c,h1,h2,h3⟩:=h.ER hd;obtain ⟨x,hx,e,e2,-⟩:=h.o7 h1;rw [h3,e2];rw [e] at h2;obtain ⟨k,-,rfl⟩:=yx.1 h2;clear h1 h2 h3 e e2 hd
 induction k with
 | zero=>rfl
 | succ k ih =>
  show H x=H (fU p (pw (fU p) x k))
  rw [hH _ (CS (fun x hx=>(h.uf hx).1) hx k)];exact ih
theorem Valid.aef:Kv (aQ p) (qp (aY p))/\EP (aQ p) (qp (aY p))=(aY p).length:=by
 have hmem:∀ x∈aQ p,qp (aY p) x∈aQ p/\qp (aY p) (qp (aY p) x)=qp (aY p) x:=by
  intro d hd;obtain ⟨c,h1,h2,h3⟩:=h.ER hd;obtain ⟨x,hx,e,e2,e3⟩:=h.o7 h1;rw [h3,e2];exact ⟨hx,(h.head_eq h1 hx e3).trans e2⟩
 refine ⟨⟨fun x hx=>(hmem x hx).1,fun x hx=>(hmem x hx).2⟩,?_⟩;have hnd:=h.iJ.nodup;rw [List.nodup_iff_pairwise_ne,List.pairwise_flatten] at hnd;have hL:((aY p).map (fun c=>c.headD 0)).Nodup:=by
  rw [List.nodup_iff_pairwise_ne,List.pairwise_map];refine List.Pairwise.imp_of_mem (fun {c c'} h1 h2 h3=>?_) hnd.2;obtain ⟨x,-,-,e2,e3⟩:=h.o7 h1;obtain ⟨y,-,-,f2,f3⟩:=h.o7 h2;rw [e2,f2];exact h3 _ e3 _ f3
 have h1:=CQ hL (m:=(aQ p).filter (fun x=>decide (qp (aY p) x=x))) (fun y hy=>by
  obtain ⟨c,hc,rfl⟩:=List.mem_map.1 hy;obtain ⟨x,hx,-,e2,e3⟩:=h.o7 hc;rw [e2,List.mem_filter,decide_eq_true_eq];exact ⟨hx,(h.head_eq hc hx e3).trans e2⟩)
 have h2:=CQ (h.EM.filter (fun x=>decide (qp (aY p) x=x))) (m:=(aY p).map (fun c=>c.headD 0)) (fun y hy=>by
  rw [List.mem_filter,decide_eq_true_eq] at hy;obtain ⟨c,hc,-,e⟩:=h.ER hy.1;exact List.mem_map.2 ⟨c,hc,by rw [<- e];exact hy.2⟩)
 rw [List.length_map] at h1 h2;unfold EP;omega
theorem Valid.Sm {k:Nat} (hk:k<p.ah.length):p.ah[k].id∈aQ p/\-p.ah[k].id∈aQ p :=
 ⟨jD.2 ⟨_,List.getElem_mem hk,.inl rfl⟩,jD.2 ⟨_,List.getElem_mem hk,.inr rfl⟩⟩
theorem Valid.aeg (k:Nat) (hk:k<=p.ah.length):Kv (aQ p) (aS p k):=by
 induction k with
 | zero=>exact h.aef.1
 | succ k ih =>
  rw [Ob (k:=k) (by omega)];split
  · exact ih (by omega)
  · exact (ih (by omega)).mrg (h.Sm (by omega)).2
theorem Valid.Sr {k j:Nat} (hkj:k<=j) (hj:j<=p.ah.length) {x y:Int} (e:aS p k x=aS p k y):aS p j x=aS p j y:=by
 induction j with
 | zero =>
  have:k=0:=by omega
  subst this;exact e
 | succ j ih =>
  by_cases h1:k=j+1
  · subst h1;exact e
  ·have e2:=ih (by omega) (by omega);rw [Ob (k:=j) (by omega)];split
   · exact e2
   · unfold mrg;rw [e2]
theorem Valid.aeh {β:Type} (H:Int->β) (hH:∀ d∈aQ p,H (fU p d)=H d) (k:Nat) (hk:k<=p.ah.length) (h0:∀ j (hj:j<p.ah.length),j<k->¬ nV p j p.ah[j]->H p.ah[j].id=H (-p.ah[j].id)):∀ d∈aQ p,H (aS p k d)=H d:=by
 induction k with
 | zero=>exact fun d hd=>h.alO H hH hd
 | succ k ih =>
  intro d hd;have ih:=ih (by omega) (fun j hj hjk=>h0 j hj (by omega));rw [Ob (k:=k) (by omega)];split
  · exact ih d hd
  ·rename_i ht;have hm:=h.Sm (k:=k) (by omega);unfold mrg;split
   ·rename_i e;rw [ih _ hm.2,<- h0 k (by omega) (by omega) ht,<- ih _ hm.1,<- e,ih d hd]
   · exact ih d hd
theorem Valid.alP {k:Nat} (hk:k<p.ah.length) (ht:¬ nV p k p.ah[k]):aS p k p.ah[k].id≠aS p k (-p.ah[k].id):=by
 obtain ⟨z,hz,h1,h2⟩:=h.alM hk ht;have hid:∀ j (hj:j<p.ah.length),1<=p.ah[j].id:=fun j hj=>(h.jC (List.getElem_mem hj)).1;have hj:∀ j (hj:j<p.ah.length),Hz p z p.ah[j].id-Hz p z (-p.ah[j].id)=z p.ah[j].id:=fun j hj=>h.Dc hz (List.getElem_mem hj);have hc:=h.aeh (Hz p z) (fun d hd=>h.aec hz hd) k (by omega) (fun j hjl hjk hjt=>by
  have:=hj j hjl
  rw [h2 j hjl (by omega) hjt] at this;omega)
 intro e;have hm:=h.Sm hk;have e1:=hc _ hm.1;have e2:=hc _ hm.2;rw [e] at e1;have:=hj k hk
 omega
theorem Valid.alQ (k:Nat) (hk:k<=p.ah.length):(EP (aQ p) (aS p k):Int)=(aY p).length-k+p.nodes.length-(mQ p k).2:=by
 induction k with
 | zero =>
  show (EP (aQ p) (qp (aY p)):Int)=(aY p).length-((0:Nat):Int)+p.nodes.length-(p.nodes.length:Int)
  rw [h.aef.2];omega
 | succ k ih =>
  have ih:=ih (by omega);have e2:=(h.N9 (k:=k) (by omega)).2;rw [Ob (k:=k) (by omega),e2];by_cases ht:nV p k p.ah[k]
  · rw [if_pos ht,if_pos ht,ih];omega
  ·rw [if_neg ht,if_neg ht];have hm:=h.Sm (k:=k) (by omega);have:=alI h.EM (h.aeg k (by omega)) hm.1 hm.2 (h.alP (by omega) ht)
   omega
end
set_option linter.unusedSectionVars false
theorem alR {L:List Int} (hL:L.Nodup) (f:Int->Int):(L.map fun d=>f (precD L d)).sum=(L.map f).sum:=by
 by_cases h0:L.length=0
 ·have:L=[]:=List.eq_nil_of_length_eq_zero h0
  subst this;rfl
 ·have e:L.map (precD L)=L[L.length-1]'(by omega)::L.take (L.length-1):=by
   refine List.ext_getElem (by simp;omega) fun i h1 h2=>?_;rw [List.length_map] at h1;rw [List.getElem_map,J5 hL h1]
   cases i with
   | zero =>
    rw [List.getElem_cons_zero];congr 1;rw [Nat.zero_add];exact Nat.mod_eq_of_lt (by omega)
   | succ i =>
    rw [List.getElem_cons_succ,List.getElem_take];congr 1;rw [show i+1+L.length-1=i+L.length by omega,Nat.add_mod_right];exact Nat.mod_eq_of_lt (by omega)
  have e2:L.map f=(L.take (L.length-1)).map f++[f (L[L.length-1]'(by omega))]:=by
   conv=>lhs;rw [<- List.take_append_drop (L.length-1) L]
   rw [List.map_append,List.drop_eq_getElem_cons (show L.length-1<L.length by omega),List.drop_eq_nil_of_le (by omega)];rfl
  rw [show (L.map fun d=>f (precD L d))=(L.map (precD L)).map f by rw [List.map_map];rfl,e,List.map_cons,List.sum_cons,e2,List.sum_append];simp only [List.sum_cons,List.sum_nil];omega
theorem Sv {l m:List Int} (h:l.Perm m):l.sum=m.sum:=by
 induction h with
 | nil=>rfl
 | cons x _ ih=>rw [List.sum_cons,List.sum_cons,ih]
 | swap x y l=>simp only [List.sum_cons];omega
 | trans _ _ h1 h2=>exact h1.trans h2
section
variable {p:Pl} (h:Valid p)
include h
theorem Valid.alS (z:Int->Int) (n:Int):((dL p.ah n).map fun d=>zD z d).sum=-uw p z n:=by
 have hid:∀ b∈p.ah,1<=b.id:=fun b hb=>(h.jC hb).1;unfold dL uw;generalize p.ah=l at hid
 induction l with
 | nil=>rfl
 | cons b l ih =>
  have:=hid b (by simp)
  have z1:zD z b.id=z b.id:=by unfold zD;rw [if_pos (by omega)]
  have z2:zD z (-b.id)=-z b.id:=by unfold zD;rw [if_neg (by omega),Int.neg_neg]
  rw [List.map_cons,List.sum_cons,List.flatMap_cons,List.map_append,List.sum_append,ih (fun c hc=>hid c (by simp [hc]))];by_cases c1:b.fr=n<;>by_cases c2:b.dst=n<;>simp only [c1,c2,if_true,if_false,List.map_append,List.sum_append,List.map_cons,List.map_nil,List.sum_cons,List.sum_nil,z1,z2]<;>grind
theorem Valid.aei {n:Nd} (hn:n∈p.nodes) {d:Int} (hd:d∈dB p n.id):fU p (-d)=precD (dB p n.id) d/\d∈aQ p/\lD p d=n.id:=by
 obtain ⟨h1,h2⟩:=h.Hw ((h.oV hn).subset hd);obtain ⟨n',hn',e,hm,hx⟩:=h.J6 (Bf h1);rw [Int.neg_neg] at e hm hx;exact ⟨by rw [hx,e,h2],h1,h2⟩
theorem Valid.aej {d:Int} (hd:d∈aQ p):aS p p.ah.length (fU p d)=aS p p.ah.length d :=
 h.Sr (k:=0) (Nat.zero_le _) (Nat.le_refl _) (h.alN hd)
theorem Valid.alT {k:Nat} (hk:k<p.ah.length) (ht:¬ nV p k p.ah[k]):aS p p.ah.length p.ah[k].id=aS p p.ah.length (-p.ah[k].id):=by
 refine h.Sr (k:=k+1) (by omega) (Nat.le_refl _) ?_;rw [Ob hk,if_neg ht];unfold mrg;rw [if_pos rfl];split<;>rfl
theorem Valid.alU {k:Nat} (hk:k<p.ah.length):aS p p.ah.length p.ah[k].id=aS p p.ah.length (-p.ah[k].id):=by
 obtain ⟨S,hS⟩:∃ S,aS p p.ah.length=S:=⟨_,rfl⟩;have hnx:=fun {d} (hd:d∈aQ p)=>h.aej hd;have har:=fun {k} (hk:k<p.ah.length) ht=>h.alT (k:=k) hk ht;rw [hS] at hnx har ⊢;obtain ⟨f,hf⟩:∃ f:Int->Int,f=fun d=>if S d=S p.ah[k].id then 1 else 0:=⟨_,rfl⟩;have hfn:∀ d∈aQ p,f (fU p d)=f d:=fun d hd=>by rw [hf];simp only [hnx hd]
 have hcl:fZ p (fun i=>f i-f (-i)):=by
  intro n hn
  show uw p (fun i=>f i-f (-i)) n.id=0
  have hb:=h.alS (fun i=>f i-f (-i)) n.id;have hp:=h.oV hn;have e1:((dL p.ah n.id).map fun d=>zD (fun i=>f i-f (-i)) d).sum=((dB p n.id).map fun d=>f d + -f (precD (dB p n.id) d)).sum:=by
   rw [Sv (hp.symm.map _)];refine fV _ _ _ fun d hd=>?_;obtain ⟨g1,g2,-⟩:=h.aei hn hd;rw [<- g1,hfn _ (Bf g2)];unfold zD;by_cases h0:0<d
   · rw [if_pos h0];show f d-f (-d)=_;omega
   · rw [if_neg h0];show -(f (-d)-f (- -d))=_;rw [Int.neg_neg];omega
  rw [e1,rG,uq,alR (h.Hy hn) f] at hb;omega
 have h0:=h.aee hcl (fun j hj ht=>by
  show f _-f _=0
  rw [hf];simp only [har hj ht];omega) p.ah.length (Nat.le_refl _) (fun j hj hle=>by omega) k hk
 have h1:f p.ah[k].id=1:=by rw [hf];exact if_pos rfl
 have h2:f (-p.ah[k].id)=1:=by
  have h0':f p.ah[k].id-f (-p.ah[k].id)=0:=h0;omega
 rw [hf] at h2;have h2':(if S (-p.ah[k].id)=S p.ah[k].id then (1:Int) else 0)=1:=h2;split at h2'
 · rename_i e;exact e.symm
 · omega
theorem Valid.xq {d:Int} (hd:d∈aQ p):aS p p.ah.length (-d)=aS p p.ah.length d:=by
 obtain ⟨a,ha,e⟩:=jD.1 hd;obtain ⟨k,hk,rfl⟩:=List.mem_iff_getElem.1 ha;have:=h.alU hk
 rcases e with rfl | rfl
 · exact this.symm
 · rw [Int.neg_neg];exact this
theorem Valid.XU {n:Nd} (hn:n∈p.nodes) {d e:Int} (hd:d∈dB p n.id) (he:e∈dB p n.id):aS p p.ah.length d=aS p p.ah.length e:=by
 have key:∀ i (hi:i<(dB p n.id).length),aS p p.ah.length (dB p n.id)[i]=aS p p.ah.length ((dB p n.id)[0]'(by omega)):=by
  intro i
  induction i with
  | zero=>intro _;rfl
  | succ i ih =>
   intro hi;rw [<- ih (by omega)];obtain ⟨g1,g2,-⟩:=h.aei hn (List.getElem_mem hi);have hm:(i+1+(dB p n.id).length-1) % (dB p n.id).length=i:=by
    rw [show i+1+(dB p n.id).length-1=i+(dB p n.id).length by omega,Nat.add_mod_right];exact Nat.mod_eq_of_lt (by omega)
   have e1:precD (dB p n.id) (dB p n.id)[i+1]=(dB p n.id)[i]:=by
    rw [J5 (h.Hy hn) hi];congr 1
   rw [<- e1,<- g1,h.aej (Bf g2),h.xq g2]
 obtain ⟨i,hi,rfl⟩:=List.mem_iff_getElem.1 hd;obtain ⟨j,hj,rfl⟩:=List.mem_iff_getElem.1 he;rw [key i hi,key j hj]
end
section
variable {p:Pl} (h:Valid p)
include h
theorem Valid.alone (k:Nat) (hk:k<=p.ah.length) {x:Int} (hx:x∈Ia p) (h0:iM p.ah x=0):jE p k x=x/\∀ y∈Ia p,jE p k y=x->y=x:=by
 rw [aly] at h0
 induction k with
 | zero =>
  refine ⟨h.Sj hx,fun y hy e=>?_⟩;rw [h.Sj hy] at e;exact e
 | succ k ih =>
  obtain ⟨i1,i2⟩:=ih (by omega);rw [(h.N9 (k:=k) (by omega)).1];have ha:=List.getElem_mem (show k<p.ah.length by omega);have hm:=h.XP ha;have n1:jE p k p.ah[k].fr≠x:=fun e=>(h0 _ ha).1 (i2 _ hm.1 e);have n2:jE p k p.ah[k].dst≠x:=fun e=>(h0 _ ha).2 (i2 _ hm.2 e);split
  ·unfold mrg;refine ⟨by rw [i1,if_neg (fun e=>n1 e.symm)],fun y hy e=>?_⟩;split at e
   · exact absurd e n2
   · exact i2 y hy e
  · exact ⟨i1,i2⟩
end
end Go.Proofs.YtialfdomhoojiaaGreat
