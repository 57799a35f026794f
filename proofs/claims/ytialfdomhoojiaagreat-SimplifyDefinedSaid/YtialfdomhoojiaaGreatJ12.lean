import Derived.Test.YtialfdomhoojiaaGreatJ11
set_option linter.unusedSimpArgs false
set_option linter.unusedVariables false
namespace Go.Proofs.YtialfdomhoojiaaGreat
open Go.RowKit
theorem KO {o a b:Pt} (h:gG o a b):¬ gG o b a:=by
 unfold gG qI at *;rw [Int.mul_comm (b.x-o.x),Int.mul_comm (b.y-o.y)];rcases h with ⟨h1,h2⟩ | ⟨h1,h2⟩
 ·rintro (⟨h3,h4⟩ | ⟨h3,h4⟩)
  · exact h1 h4
  · exact h1 (h3.1 h2)
 ·rintro (⟨h3,h4⟩ | ⟨h3,h4⟩)
  · exact h3 (h1.1 h4)
  · omega
theorem amF (o a:Pt):¬ gG o a a:=fun h=>KO h h
def tK (v u a b:Pt):Int:=pR a b v+(if a=v/\gG v b u then 1 else 0)-(if b=v/\gG v a u then 1 else 0)
def Jm (v u a b:Pt):Int:=pR a b v-(if a=v/\gG v u b then 1 else 0)+(if b=v/\gG v u a then 1 else 0)
def nP (p:Pl) (z:Int->Int) (v u:Pt):Int:=fB p z (tK v u)
def rM (p:Pl) (z:Int->Int) (v u:Pt):Int:=fB p z (Jm v u)
theorem afw (v u a b:Pt):tK v u b a=-tK v u a b:=by unfold tK;rw [aap];omega
theorem amG (v u a b:Pt):Jm v u b a=-Jm v u a b:=by unfold Jm;rw [aap];omega
def zD (z:Int->Int) (d:Int):Int:=if 0<d then z d else -z (-d)
def zC (φ:Pt->Int) (v a b:Pt):Int:=(if a=v then φ b else 0)-(if b=v then φ a else 0)
def ind (P:Prop) [Decidable P] : Int:=if P then 1 else 0
theorem amH (v u w a b:Pt):Jm v u a b-tK v w a b=-zC (fun x=>ind (gG v u x)+ind (gG v x w)) v a b:=by
 unfold Jm tK zC ind;by_cases h1:a=v<;>by_cases h2:b=v<;>simp only [h1,h2,true_and,false_and,if_true,if_false]<;>omega
theorem QJ (p:Pl) (z:Int->Int) (v u w:Pt):rM p z v u-nP p z v w=-fB p z (zC (fun x=>ind (gG v u x)+ind (gG v x w)) v):=by
 unfold rM nP;rw [<- afu,<- aft];refine QH fun a _ k _=>amH _ _ _ _ _
section
variable {p:Pl} (h:Valid p)
include h
theorem Valid.afx {z:Int->Int} (hz:jc p z) {c:Ar} (hc:c∈p.aj) {m:Nat} (hm:m+1<(au p c).length) {s t:Pt}
  (he:(s=(au p c).getD m aA/\t=(au p c).getD (m+1) aA)\/(t=(au p c).getD m aA/\s=(au p c).getD (m+1) aA)) (hst:hY s<hY t):nP p z s t=rM p z t s:=by
 have hd:nP p z s t-rM p z t s=fB p z (fun a b=>QD s t b-QD s t a):=by
  unfold rM nP;rw [<- afu];refine QH fun a ha k hk=>?_;have na:=h.dS ha (k:=k) Pe;have nb:=h.dS ha (k:=k+1) hk;have n1:=h.dS hc (k:=m) Pe;have n2:=h.dS hc (k:=m+1) hm;have hne:=(h.distinct ha hk).1;have NM:=fun h1 h2 h3 h4=>h.aar ha hc hk hm h1 h2 h3 h4;generalize (au p a).getD k aA=x at *;generalize (au p a).getD (k+1) aA=y at *;generalize (au p c).getD m aA=e at *;generalize (au p c).getD (m+1) aA=f at *;have ns:aZ s=true:=by rcases he with ⟨rfl,-⟩ | ⟨-,rfl⟩<;>assumption
  have nt:aZ t=true:=by rcases he with ⟨-,rfl⟩ | ⟨rfl,-⟩<;>assumption
  have QK:x≠s->x≠t->y≠s->y≠t->oV x y s t:=fun h1 h2 h3 h4=>by
   rcases he with ⟨rfl,rfl⟩ | ⟨rfl,rfl⟩
   · exact NM h1 h2 h3 h4
   · exact (NM h2 h1 h4 h3).comm.flip.comm
  rcases Int.lt_trichotomy (hY x) (hY y) with h1 | h1 | h1
  ·have:=afq na nb ns nt h1 hst QK
   unfold tK Jm;omega
  · exact absurd (oU na nb h1) hne
  ·have:=afq nb na ns nt h1 hst (fun h1 h2 h3 h4=>(QK h3 h4 h1 h2).flip)
   have e1:=afw s t x y;have e2:=amG t s x y;unfold tK at e1 ⊢;unfold Jm at e2 ⊢;omega
 rw [h.QI hz] at hd;omega
theorem Valid.aas {a:Ar} (ha:a∈p.aj) {j:Nat} (h0:0<j) (hj:j+1<(au p a).length) {b:Ar} (hb:b∈p.aj) {k:Nat} (hk:k<(au p b).length) (e:(au p b).getD k aA=(au p a).getD j aA):b=a/\k=j:=by
 have hla:=ig p a;have hlb:=ig p b;obtain ⟨i,rfl⟩:∃ i,j=i+1:=⟨j-1,by omega⟩;have hi:i<a.via.length:=by omega
 rw [Je p a i hi] at e;have hk0:k≠0:=by
  rintro rfl;obtain ⟨n,hn,-,e2⟩:=h.sound.Ef hb;rw [Dj,e2] at e;exact h.aad ha hi hn e.symm
 have hk1:k≠(au p b).length-1:=by
  rintro rfl;obtain ⟨n,hn,-,e2⟩:=h.sound.FI hb;rw [Dt,e2] at e;exact h.aad ha hi hn e.symm
 obtain ⟨l,rfl⟩:∃ l,k=l+1:=⟨k-1,by omega⟩;have hl:l<b.via.length:=by omega
 rw [Je p b l hl] at e;by_cases hab:b=a
 ·subst hab;refine ⟨rfl,?_⟩;rcases Nat.lt_trichotomy l i with h1 | h1 | h1
  · exact absurd e (h.aeU hb h1 hi)
  · omega
  · exact absurd e.symm (h.aeU hb h1 hl)
 ·exfalso;have hpw:=h.alO;obtain ⟨x,hx,rfl⟩:=avI.1 ha;obtain ⟨y,hy,rfl⟩:=avI.1 hb;rw [avJ] at hpw;rcases Nat.lt_trichotomy x y with h1 | h1 | h1
  · exact hpw x y hx hy h1 _ (avF hi) _ (avF hl) e.symm
  · subst h1;exact hab rfl
  · exact hpw y x hy hx h1 _ (avF hl) _ (avF hi) e
theorem Valid.afy {n m:Nd} (hn:n∈p.nodes) (hm:m∈p.nodes) (e:n.pt=m.pt):n=m:=by
 have hpw:=(amE _).1 h.dup;rw [List.pairwise_map,avJ] at hpw;obtain ⟨i,hi,rfl⟩:=avI.1 hn;obtain ⟨j,hj,rfl⟩:=avI.1 hm;rcases Nat.lt_trichotomy i j with h1 | h1 | h1
 · exact absurd e (hpw i j hi hj h1)
 · subst h1;rfl
 · exact absurd e.symm (hpw j i hj hi h1)
theorem Valid.Vk {n:Nd} (hn:n∈p.nodes) {b:Ar} (hb:b∈p.aj) {k:Nat} (hk:k<(au p b).length) (e:(au p b).getD k aA=n.pt):(k=0/\b.fr=n.id)\/(k=(au p b).length-1/\b.dst=n.id):=by
 have hlb:=ig p b;by_cases hk0:k=0
 ·subst hk0;obtain ⟨m,hm,e1,e2⟩:=h.sound.Ef hb;rw [Dj,e2] at e
  left;exact ⟨rfl,by rw [<- e1,h.afy hm hn e]⟩
 ·by_cases hk1:k=(au p b).length-1
  ·subst hk1;obtain ⟨m,hm,e1,e2⟩:=h.sound.FI hb;rw [Dt,e2] at e
   right;exact ⟨rfl,by rw [<- e1,h.afy hm hn e]⟩
  ·exfalso;obtain ⟨l,rfl⟩:∃ l,k=l+1:=⟨k-1,by omega⟩;have hl:l<b.via.length:=by omega
   rw [Je p b l hl] at e;exact h.aad hb hl hn e
theorem Valid.Vl (z:Int->Int) (φ:Pt->Int) {a:Ar} (ha:a∈p.aj) {j:Nat} (h0:0<j) (hj:j+1<(au p a).length) :
  fB p z (zC φ ((au p a).getD j aA))=z a.id*(φ ((au p a).getD (j+1) aA)-φ ((au p a).getD (j-1) aA)):=by
 have key:∀ b∈p.aj,nO (zC φ ((au p a).getD j aA)) (au p b)=if b=a then φ ((au p a).getD (j+1) aA)-φ ((au p a).getD (j-1) aA) else 0:=by
  intro b hb;unfold nO zC;simp only [Int.sub_eq_add_neg];rw [yt,BH];rw [QF _ j _ (fun k hk hkj=>if_neg (fun e=>hkj (h.aas ha h0 hj hb Pe e).2))];rw [QF _ (j-1) _ (fun k hk hkj=>if_neg (fun e=>hkj (by have:=(h.aas ha h0 hj hb Pe e).2;omega)))];by_cases hab:b=a
  ·subst hab;rw [if_pos rfl,if_pos Pe,if_pos Pe,if_pos rfl,show j-1+1=j by omega,if_pos rfl]
  ·rw [if_neg hab];have e1:∀ k,k<(au p b).length->¬ (au p b).getD k aA=(au p a).getD j aA:=fun k hk e=>hab (h.aas ha h0 hj hb hk e).1;by_cases h1:j<(au p b).length-1
   · rw [if_pos h1,if_neg (e1 j Pe),if_pos Pe,if_neg (e1 (j-1+1) Pe)];rfl
   ·rw [if_neg h1];by_cases h2:j-1<(au p b).length-1
    · rw [if_pos h2,if_neg (e1 (j-1+1) Pe)];rfl
    · rw [if_neg h2];rfl
 unfold fB;rw [jF _ _ (fun b:Ar=>if a.id=b.id then z b.id*(φ ((au p a).getD (j+1) aA)-φ ((au p a).getD (j-1) aA)) else 0) (fun b hb=>by
  rw [key b hb];by_cases hab:b=a
  · subst hab;rw [if_pos rfl,if_pos rfl]
  · rw [if_neg hab,if_neg (fun e=>hab (h.ae0 hb ha e.symm)),Int.mul_zero])]
 exact QG p.aj (·.id) h.sound.aj (fun i=>z i*(φ ((au p a).getD (j+1) aA)-φ ((au p a).getD (j-1) aA))) a.id ⟨a,ha,rfl⟩
theorem Valid.aat (z:Int->Int) (φ:Pt->Int) {n:Nd} (hn:n∈p.nodes):fB p z (zC φ n.pt)=((eG p.aj n.id).map fun d=>zD z d*φ (fC p d)).sum:=by
 have key:∀ b∈p.aj,z b.id*nO (zC φ n.pt) (au p b)=(((if b.fr=n.id then [b.id] else [])++(if b.dst=n.id then [-b.id] else [])).map fun d=>zD z d*φ (fC p d)).sum:=by
  intro b hb;have hlb:=ig p b;have hid:=h.kC hb;have hfd:=h.find hb;have t1:fC p b.id=(au p b).getD 1 aA:=h.KG hb;have t2:fC p (-b.id)=(au p b).getD b.via.length aA:=h.Jf hb;have z1:zD z b.id=z b.id:=by unfold zD;rw [if_pos Pe]
  have z2:zD z (-b.id)=-z b.id:=by unfold zD;rw [if_neg Pe,Int.neg_neg]
  have hs:nO (zC φ n.pt) (au p b)=(if b.fr=n.id then φ ((au p b).getD 1 aA) else 0)-(if b.dst=n.id then φ ((au p b).getD b.via.length aA) else 0):=by
   have f1:(au p b).getD 0 aA=n.pt↔b.fr=n.id:=by
    constructor
    ·intro e;rcases h.Vk hn hb Pe e with ⟨-,e⟩ | ⟨e,-⟩
     · exact e
     · omega
    ·intro e;rw [Dj,e];exact h.sound.uI hn
   have f2:(au p b).getD (b.via.length+1) aA=n.pt↔b.dst=n.id:=by
    have e1:=Dt p b;rw [hlb,show b.via.length+2-1=b.via.length+1 by omega] at e1;constructor
    ·intro e;rcases h.Vk hn hb Pe e with ⟨e,-⟩ | ⟨-,e⟩
     · omega
     · exact e
    ·intro e;rw [e1,e];exact h.sound.uI hn
   unfold nO zC;simp only [Int.sub_eq_add_neg];rw [yt,BH];rw [QF _ 0 _ (fun k hk hkj=>if_neg (fun e=>by rcases h.Vk hn hb Pe e with ⟨e,-⟩ | ⟨e,-⟩<;>omega))];rw [QF _ b.via.length _ (fun k hk hkj=>if_neg (fun e=>by rcases h.Vk hn hb Pe e with ⟨e,-⟩ | ⟨e,-⟩<;>omega))];rw [if_pos (show 0<(au p b).length-1 by omega),if_pos (show b.via.length<(au p b).length-1 by omega)];simp only [f1,f2]
  rw [hs,List.map_append,List.sum_append];by_cases c1:b.fr=n.id<;>by_cases c2:b.dst=n.id<;>simp only [c1,c2,if_true,if_false,List.map_cons,List.map_nil,List.sum_cons,List.sum_nil,t1,t2,z1,z2]<;>grind
 unfold fB eG;rw [jF _ _ _ key];generalize p.aj=l
 induction l with
 | nil=>rfl
 | cons b l ih=>rw [List.map_cons,List.sum_cons,av5,ih];simp only [List.map_append,List.sum_append]
theorem Valid.afz {z:Int->Int} (hz:jc p z) {n:Nd} (hn:n∈p.nodes):((eG p.aj n.id).map fun d=>zD z d).sum=0:=by
 have h1:=hz n hn;have e:((eG p.aj n.id).map fun d=>zD z d).sum=-(p.aj.map fun a=>z a.id*((if a.dst=n.id then 1 else 0)-(if a.fr=n.id then 1 else 0))).sum:=by
  have hid:∀ b∈p.aj,1<=b.id:=fun b hb=>(h.kC hb).1;unfold eG;generalize p.aj=l at hid
  induction l with
  | nil=>rfl
  | cons b l ih =>
   have:=hid b ars
   have z1:zD z b.id=z b.id:=by unfold zD;rw [if_pos Pe]
   have z2:zD z (-b.id)=-z b.id:=by unfold zD;rw [if_neg Pe,Int.neg_neg]
   rw [List.map_cons,List.sum_cons,av5,List.map_append,List.sum_append,ih (fun c hc=>hid c (by simp [hc]))];by_cases c1:b.fr=n.id<;>by_cases c2:b.dst=n.id<;>simp only [c1,c2,if_true,if_false,List.map_append,List.sum_append,List.map_cons,List.map_nil,List.sum_cons,List.sum_nil,z1,z2]<;>grind
 rw [e,h1];rfl
end
theorem amI {l:List Int} (hl:l.Nodup) {d:Int} (hd:d∈l) (c:Int->Int):(l.map fun x=>if x=d then c x else 0).sum=c d:=by
 induction l with
 | nil=>cases hd
 | cons a l ih =>
  rw [List.nodup_cons] at hl;rw [List.map_cons,List.sum_cons];rcases av2.1 hd with rfl | hd
  · rw [if_pos rfl,Em l _ (fun x hx=>if_neg (by rintro rfl;exact hl.1 hx))];omega
  · rw [if_neg (by rintro rfl;exact hl.1 hd),ih hl.2 hd];omega
theorem amJ (z:Int->Int) {d:Int} (h:d≠0):zD z (-d)=-zD z d:=by
 unfold zD;by_cases h1:0<d
 · rw [if_neg Pe,if_pos h1,Int.neg_neg]
 · rw [if_pos Pe,if_neg h1,Int.neg_neg]
theorem F7 (o a:Pt):ind (gG o a a)=0:=if_neg (amF o a)
theorem aau {o a b:Pt} (h:gG o a b\/gG o b a):ind (gG o a b)+ind (gG o b a)=1:=by
 unfold ind;rcases h with h | h
 · rw [if_pos h,if_neg (KO h)];rfl
 · rw [if_neg (KO h),if_pos h];rfl
section
variable {p:Pl} (h:Valid p)
include h
theorem Valid.aav {a:Ar} (ha:a∈p.aj) {k:Nat} (hk:k+2<(au p a).length):gG ((au p a).getD (k+1) aA) ((au p a).getD k aA) ((au p a).getD (k+2) aA)\/gG ((au p a).getD (k+1) aA) ((au p a).getD (k+2) aA) ((au p a).getD k aA):=by
 have d1:=(h.distinct ha (k:=k) Pe).1;have d2:=(h.distinct ha (k:=k+1) Pe).1;have n0:=h.dS ha (k:=k) Pe;have n1:=h.dS ha (k:=k+1) Pe;have n2:=h.dS ha (k:=k+2) Pe;have hap:=h.wH.2.1 a ha k (k+1) Pe Pe;unfold zl at hap;rw [if_pos (.inl rfl)] at hap;unfold eH at hap;simp only [beq_iff_eq] at hap;generalize (au p a).getD k aA=u at *;generalize (au p a).getD (k+1) aA=o at *;rw [show k+1+1=k+2 by omega] at *;generalize (au p a).getD (k+2) aA=v at *;apply Classical.byContradiction;intro hno;obtain ⟨-,r2,-,-⟩:=aeV n1 n0 n2 d1 (fun e=>d2 e.symm) (fun e=>hno (.inl e)) (fun e=>hno (.inr e));rw [r2] at hap;exact absurd hap arC
theorem Valid.amK (z:Int->Int) {a:Ar} (ha:a∈p.aj) {k:Nat} (hk:k+2<(au p a).length):rM p z ((au p a).getD (k+1) aA) ((au p a).getD (k+2) aA)-nP p z ((au p a).getD (k+1) aA) ((au p a).getD (k+2) aA)=z a.id:=by
 rw [QJ,h.Vl z _ ha (j:=k+1) Pe hk,show k+1-1=k by omega,show k+1+1=k+2 by omega,F7,aau (h.aav ha hk).symm]
 grind
theorem Valid.afA (z:Int->Int) {a:Ar} (ha:a∈p.aj) {k:Nat} (hk:k+2<(au p a).length):rM p z ((au p a).getD (k+1) aA) ((au p a).getD k aA)-nP p z ((au p a).getD (k+1) aA) ((au p a).getD k aA)=-z a.id:=by
 rw [QJ,h.Vl z _ ha (j:=k+1) Pe hk,show k+1-1=k by omega,show k+1+1=k+2 by omega,F7,aau (h.aav ha hk)]
 grind
theorem Valid.amL (z:Int->Int) {a:Ar} (ha:a∈p.aj) {k:Nat} (hk:k+2<(au p a).length):rM p z ((au p a).getD (k+1) aA) ((au p a).getD k aA)=nP p z ((au p a).getD (k+1) aA) ((au p a).getD (k+2) aA):=by
 have e:=QJ p z ((au p a).getD (k+1) aA) ((au p a).getD k aA) ((au p a).getD (k+2) aA);rw [h.Vl z _ ha (j:=k+1) Pe hk,show k+1-1=k by omega,show k+1+1=k+2 by omega,F7,F7,Int.add_zero,Int.zero_add,Int.sub_self,Int.mul_zero] at e;omega
theorem Valid.Ob {z:Int->Int} (hz:jc p z) {n:Nd} (hn:n∈p.nodes) {d:Int} (hd:d∈eG p.aj n.id):rM p z n.pt (fC p d)-nP p z n.pt (fC p d)=zD z d:=by
 rw [QJ,h.aat z _ hn];have h0:=h.afz hz hn;have h1:=amI (h.aaj (n:=n.id)) hd (fun x=>zD z x);have e:((eG p.aj n.id).map fun x=>zD z x*(ind (gG n.pt (fC p d) (fC p x))+ind (gG n.pt (fC p x) (fC p d)))).sum=((eG p.aj n.id).map fun x=>zD z x + -(if x=d then zD z x else 0)).sum:=by
  refine jF _ _ _ fun x hx=>?_;by_cases hxd:x=d
  ·subst hxd;rw [F7,if_pos rfl];omega
  · rw [aau (h.dirs hn hd hx (fun e=>hxd e.symm)),if_neg hxd];omega
 rw [e,yt,BH,h0,h1];omega
theorem Valid.afB {n:Nd} (hn:n∈p.nodes) {i j:Nat} (hij:i<j) (hj:j<(dJ p n.id).length):gG n.pt (fC p ((dJ p n.id)[i]'(by omega))) (fC p (dJ p n.id)[j]):=by
 have hmem:∀ {x:Int},x∈dJ p n.id->x∈eG p.aj n.id:=fun hx=>(h.pK hn).subset hx;have hs:=(KI (h.Qu hn)).2;rw [<- h.Vf hn,avJ] at hs;have h1:=hs i j Pe hj hij;have hne:(dJ p n.id)[i]≠(dJ p n.id)[j]:=fun e=>by
  have hnd:=h.Ji hn;rw [List.nodup_iff_pairwise_ne,avJ] at hnd;exact hnd i j Pe hj hij e
 have m1:=hmem (avF (show i<(dJ p n.id).length by omega));have m2:=hmem (avF hj);rcases h.dirs hn m1 m2 hne with h2 | h2
 · exact h2
 ·exfalso;obtain ⟨n0,n1,x1⟩:=h.KH hn m1;obtain ⟨-,n2,x2⟩:=h.KH hn m2;unfold ltD at h1;rw [(ZC _ _ _).2 ⟨by simp [eu,n0,n1,n2],x2,x1,h2⟩] at h1
  cases h1
theorem Valid.amM {z:Int->Int} (hz:jc p z) {n:Nd} (hn:n∈p.nodes) {d:Int} (hd:d∈dJ p n.id):rM p z n.pt (fC p (precD (dJ p n.id) d))=nP p z n.pt (fC p d):=by
 have hnd:=h.Ji hn;have hp:=h.pK hn;have hso:=fun {i j:Nat}=>h.afB hn (i:=i) (j:=j);have e:=QJ p z n.pt (fC p (precD (dJ p n.id) d)) (fC p d);rw [h.aat z _ hn] at e;have h0:=h.afz hz hn;obtain ⟨i,hi,rfl⟩:=avI.1 hd;rw [KJ hnd hi] at e ⊢;have Vm:∀ i j (hi:i<(dJ p n.id).length) (hj:j<(dJ p n.id).length),ind (gG n.pt (fC p (dJ p n.id)[i]) (fC p (dJ p n.id)[j]))=if i<j then 1 else 0:=by
  intro i j hi hj;rcases Nat.lt_trichotomy i j with h1 | h1 | h1
  · rw [if_pos h1];exact if_pos (hso h1 hj)
  · subst h1;rw [if_neg Pe];exact F7 _ _
  · rw [if_neg Pe];exact if_neg (KO (hso h1 hi))
 have hc:∃ c:Int,∀ x∈eG p.aj n.id,ind (gG n.pt (fC p ((dJ p n.id)[(i+(dJ p n.id).length-1) % (dJ p n.id).length]'(Nat.mod_lt _ Pe))) (fC p x))+ind (gG n.pt (fC p x) (fC p (dJ p n.id)[i]))=c:=by
  by_cases h1:i=0
  ·refine ⟨0,fun x hx=>?_⟩;obtain ⟨j,hj,rfl⟩:=avI.1 (hp.symm.subset hx);have hm:(i+(dJ p n.id).length-1) % (dJ p n.id).length=(dJ p n.id).length-1:=by rw [h1];rw [Nat.zero_add];exact Nat.mod_eq_of_lt Pe
   rw [Vm _ _ (Nat.mod_lt _ Pe) hj,Vm j i hj hi,if_neg Pe,if_neg Pe];rfl
  ·refine ⟨1,fun x hx=>?_⟩;obtain ⟨j,hj,rfl⟩:=avI.1 (hp.symm.subset hx);have hm:(i+(dJ p n.id).length-1) % (dJ p n.id).length=i-1:=by rw [show i+(dJ p n.id).length-1=i-1+(dJ p n.id).length by omega,Nat.add_mod_right];exact Nat.mod_eq_of_lt Pe
   rw [Vm _ _ (Nat.mod_lt _ Pe) hj,Vm j i hj hi];by_cases h2:j<i
   · rw [if_neg Pe,if_pos h2];rfl
   · rw [if_pos Pe,if_neg h2];rfl
 obtain ⟨c,hc⟩:=hc;rw [jF _ _ (fun x=>c*zD z x) (fun x hx=>by rw [hc x hx,Int.mul_comm]),FY,h0,Int.mul_zero] at e;omega
theorem Valid.aaw {z:Int->Int} (hz:jc p z) {a:Ar} (ha:a∈p.aj) {m:Nat} (hm:m+1<(au p a).length):nP p z ((au p a).getD m aA) ((au p a).getD (m+1) aA)=rM p z ((au p a).getD (m+1) aA) ((au p a).getD m aA):=by
 have hl:=ig p a;have hid:=(h.kC ha).1;have hne:=(h.distinct ha hm).1;have n1:=h.dS ha (k:=m) Pe;have n2:=h.dS ha (k:=m+1) hm;have j1:rM p z ((au p a).getD m aA) ((au p a).getD (m+1) aA)-nP p z ((au p a).getD m aA) ((au p a).getD (m+1) aA)=z a.id:=by
  by_cases h0:m=0
  ·subst h0;obtain ⟨n,hn,e1,e2⟩:=h.sound.Ef ha;have:=h.Ob hz hn (d:=a.id) (wJ.2 ⟨a,ha,.inl ⟨rfl,e1.symm⟩⟩)
   rw [h.KG ha] at this;rw [Dj,e2,this];unfold zD;rw [if_pos Pe]
  ·obtain ⟨k,rfl⟩:∃ k,m=k+1:=⟨m-1,by omega⟩;exact h.amK z ha hm
 have j2:rM p z ((au p a).getD (m+1) aA) ((au p a).getD m aA)-nP p z ((au p a).getD (m+1) aA) ((au p a).getD m aA)=-z a.id:=by
  by_cases h0:m+1=(au p a).length-1
  ·obtain ⟨n,hn,e1,e2⟩:=h.sound.FI ha;have:=h.Ob hz hn (d:=-a.id) (wJ.2 ⟨a,ha,.inr ⟨rfl,e1.symm⟩⟩)
   rw [h.Jf ha,show a.via.length=m by omega] at this;rw [h0,Dt,e2,this];unfold zD;rw [if_neg Pe,Int.neg_neg]
  · exact h.afA z ha Pe
 rcases Int.lt_trichotomy (hY ((au p a).getD m aA)) (hY ((au p a).getD (m+1) aA)) with h1 | h1 | h1
 · exact h.afx hz ha hm (.inl ⟨rfl,rfl⟩) h1
 · exact absurd (oU n1 n2 h1) hne
 ·have:=h.afx hz ha hm (.inr ⟨rfl,rfl⟩) h1
  omega
theorem Valid.Vo {z:Int->Int} (hz:jc p z) {a:Ar} (ha:a∈p.aj):∀ (m:Nat),m+1<(au p a).length->nP p z ((au p a).getD 0 aA) ((au p a).getD 1 aA)=rM p z ((au p a).getD (m+1) aA) ((au p a).getD m aA)
 | 0,hm=>h.aaw hz ha hm
 | m+1,hm=>by
  rw [Valid.Vo hz ha m Pe,h.amL z ha (k:=m) Pe];exact h.aaw hz ha (m:=m+1) hm
end
def Hz (p:Pl) (z:Int->Int) (d:Int):Int:=rM p z (nodeAt p (lT p d)) (fC p d)
section
variable {p:Pl} (h:Valid p)
include h
theorem Valid.En {z:Int->Int} (hz:jc p z) {a:Ar} (ha:a∈p.aj):Hz p z a.id-Hz p z (-a.id)=z a.id:=by
 have hl:=ig p a;have hid:=(h.kC ha).1;have h1:=h.Vo hz ha a.via.length Pe;have h2:(au p a).getD (a.via.length+1) aA=nodeAt p a.dst:=by
  have:=Dt p a
  rwa [hl,show a.via.length+2-1=a.via.length+1 by omega] at this
 unfold Hz;rw [h.Vb ha,h.Qs ha,h.KG ha,h.Jf ha];rw [h2,Dj] at h1;obtain ⟨n,hn,e1,e2⟩:=h.sound.Ef ha;have:=h.Ob hz hn (d:=a.id) (wJ.2 ⟨a,ha,.inl ⟨rfl,e1.symm⟩⟩)
 rw [h.KG ha,<- e2] at this;unfold zD at this;rw [if_pos Pe] at this;omega
theorem Valid.amN {d:Int} (hd:d∈bf p):d≠0:=by
 obtain ⟨a,ha,e⟩:=kZ.1 hd;have:=h.kC ha
 omega
theorem Valid.afC {z:Int->Int} (hz:jc p z) {d:Int} (hd:d∈bf p):Hz p z d-Hz p z (-d)=zD z d:=by
 obtain ⟨a,ha,e⟩:=kZ.1 hd;have hid:=(h.kC ha).1;have:=h.En hz ha
 rcases e with rfl | rfl
 · rw [this];unfold zD;rw [if_pos Pe]
 · rw [Int.neg_neg];unfold zD;rw [if_neg Pe,Int.neg_neg];omega
theorem Valid.amO {z:Int->Int} (hz:jc p z) {d:Int} (hd:d∈bf p):Hz p z (iH p d)=Hz p z d:=by
 obtain ⟨n,hn,e1,hm,hx⟩:=h.NZ hd;have hs:=(h.uK hd).2;have j:=h.Ob hz hn ((h.pK hn).subset hm);have t:=h.amM hz hn hm;have k:=h.afC hz hd;have en:nodeAt p (lT p (-d))=n.pt:=by rw [<- e1];exact h.sound.uI hn
 have z1:=amJ z (h.amN hd);unfold Hz at k ⊢;rw [hs,en,hx,t];rw [en] at k;omega
end
set_option linter.unusedSectionVars false
def mrg (r:Int->Int) (a b x:Int):Int:=if r x=r a then r b else r x
structure QL (U:List Int) (r:Int->Int):Prop where
 mem:∀ x∈U,r x∈U
 idem:∀ x∈U,r (r x)=r x
def afD (U:List Int) (r:Int->Int):Nat:=(U.filter (fun x=>decide (r x=x))).length
theorem QL.mrg {U:List Int} {r:Int->Int} (h:QL U r) {a b:Int} (hb:b∈U):QL U (mrg r a b):=by
 constructor
 ·intro x hx;unfold Go.Proofs.YtialfdomhoojiaaGreat.mrg;split
  · exact h.mem b hb
  · exact h.mem x hx
 ·intro x hx;unfold Go.Proofs.YtialfdomhoojiaaGreat.mrg;by_cases e:r x=r a
  ·rw [if_pos e,h.idem b hb];split<;>rfl
  · rw [if_neg e,h.idem x hx,if_neg e]
def pV (p:Pl) (k:Nat) (x:Int):Int:=pw (zB p k).1 x (p.aj.length+1)
def wK (p:Pl) (k:Nat) (a:Ar):Prop:=pV p k a.fr≠pV p k a.dst
instance (p:Pl) (k:Nat) (a:Ar):Decidable (wK p k a):=by unfold wK;infer_instance
section
variable {p:Pl} (h:Valid p)
include h
theorem Valid.afE {k:Nat} (hk:k<p.aj.length):(pV p (k+1)=if wK p k p.aj[k] then mrg (pV p k) p.aj[k].fr p.aj[k].dst else pV p k)/\(zB p (k+1)).2=(zB p k).2-(if wK p k p.aj[k] then 1 else 0):=by
 have ho:=amB h k Pe;by_cases ht:wK p k p.aj[k]
 ·rw [if_pos ht,if_pos ht];unfold wK pV at ht;unfold pV;rw [aao p k hk];unfold QC;rw [if_neg ht];refine ⟨?_,rfl⟩;have hr:∀ x,(zB p k).1 (pw (zB p k).1 x (p.aj.length+1))=pw (zB p k).1 x (p.aj.length+1):=ho.flat.more Pe;obtain ⟨h1,h2⟩:=afj ho.flat (hr p.aj[k].fr) (hr p.aj[k].dst) ht
  funext x
  show pw (oG _ _ _) x (p.aj.length+1)=mrg _ _ _ x
  rw [h1.eq (M:=p.aj.length+1) Pe,h2 x];unfold mrg;simp only;rw [<- ho.flat.eq (M:=p.aj.length+1) Pe x]
 ·rw [if_neg ht,if_neg ht];unfold wK pV at ht;unfold pV;rw [aao p k hk];unfold QC;rw [if_pos (Classical.byContradiction ht)];exact ⟨rfl,by omega⟩
theorem Valid.amP {k j:Nat} (hkj:k<=j) (hj:j<=p.aj.length) {x y:Int} (e:pV p k x=pV p k y):pV p j x=pV p j y:=by
 induction j with
 | zero =>
  have:k=0:=by omega
  subst this;exact e
 | succ j ih =>
  by_cases h1:k=j+1
  · subst h1;exact e
  ·have e2:=ih Pe Pe;rw [(h.afE (k:=j) Pe).1];split
   · unfold mrg;rw [e2]
   · exact e2
theorem Valid.amQ {k j:Nat} (hj:j<k) (hk:k<=p.aj.length):pV p k (p.aj[j]'(by omega)).fr=pV p k (p.aj[j]'(by omega)).dst:=by
 refine h.amP (k:=j+1) Pe hk ?_;rw [(h.afE (k:=j) Pe).1];split
 ·unfold mrg;rw [if_pos rfl];split<;>rfl
 ·rename_i ht;unfold wK at ht;exact Classical.byContradiction ht
end
def bdC (p:Pl) (c:Int->Int) (n:Int):Int:=(p.aj.map fun a=>c a.id*((if a.dst=n then 1 else 0)-(if a.fr=n then 1 else 0))).sum
section
variable {p:Pl} (h:Valid p)
include h
theorem Valid.afF {g:Int->Int} (hg:jc p g) (h0:∀ j (hj:j<p.aj.length),¬ wK p j p.aj[j]->g p.aj[j].id=0):∀ (k:Nat),k<=p.aj.length->(∀ j (hj:j<p.aj.length),k<=j->g p.aj[j].id=0)->∀ j (hj:j<p.aj.length),g p.aj[j].id=0
 | 0,_,hz,j,hj=>hz j hj Pe
 | k+1,hk,hz,j,hj=>by
  refine Valid.afF hg h0 k Pe (fun j hj hkj=>?_) j hj;by_cases hjk:j=k
  ·subst hjk;by_cases ht:wK p j p.aj[j]
   ·have hs:=h.afv hg (fun x=>if pV p j x=pV p j p.aj[j].fr then 1 else 0);have e:(p.aj.map fun a=>g a.id*((if pV p j a.dst=pV p j p.aj[j].fr then (1:Int) else 0)-(if pV p j a.fr=pV p j p.aj[j].fr then 1 else 0))).sum=(p.aj.map fun a=>if p.aj[j].id=a.id then -g a.id else 0).sum:=by
     refine jF _ _ _ fun a ha=>?_;obtain ⟨i,hi,rfl⟩:=avI.1 ha;rcases Nat.lt_trichotomy i j with h3 | h3 | h3
     ·have hne:¬ p.aj[j].id=p.aj[i].id:=fun e=>by
       have hpw:=h.sound.aj;rw [List.pairwise_map,avJ] at hpw;have:=hpw i j hi hj h3;omega
      rw [if_neg hne,h.amQ h3 Pe,Int.sub_self,Int.mul_zero]
     ·subst h3;rw [if_pos rfl,if_pos rfl];unfold wK at ht;rw [if_neg (fun e=>ht e.symm)];omega
     ·have hne:¬ p.aj[j].id=p.aj[i].id:=fun e=>by
       have hpw:=h.sound.aj;rw [List.pairwise_map,avJ] at hpw;have:=hpw j i hj hi h3;omega
      rw [if_neg hne,hz i hi Pe,Int.zero_mul]
    rw [e,QG p.aj (·.id) h.sound.aj (fun i=>-g i) p.aj[j].id ⟨_,avF hj,rfl⟩] at hs;omega
   · exact h0 j hj ht
  · exact hz j hj Pe
end
set_option linter.unusedSectionVars false
def tN (L:List (List Int)) (d:Int):Int:=match L.find? (fun c=>decide (d∈c)) with
 | some c=>c.headD 0
 | none=>d
def bM (p:Pl):Nat->Int->Int
 | 0=>tN (cO p)
 | k+1=>match p.aj[k]? with
  | some a=>if wK p k a then bM p k else mrg (bM p k) a.id (-a.id)
  | none=>bM p k
theorem Vp {p:Pl} {k:Nat} (hk:k<p.aj.length):bM p (k+1)=if wK p k p.aj[k] then bM p k else mrg (bM p k) p.aj[k].id (-p.aj[k].id):=by
 rw [bM,avG hk]
section
variable {p:Pl} (h:Valid p)
include h
theorem Valid.aax {c c':List Int} (hc:c∈cO p) (hc':c'∈cO p) {y:Int} (h1:y∈c) (h2:y∈c'):c=c':=by
 have hnd:=h.lH.nodup;rw [List.nodup_iff_pairwise_ne,List.pairwise_flatten] at hnd;have hpw:=hnd.2;rw [avJ] at hpw;obtain ⟨i,hi,rfl⟩:=avI.1 hc;obtain ⟨j,hj,rfl⟩:=avI.1 hc';rcases Nat.lt_trichotomy i j with h3 | h3 | h3
 · exact absurd rfl (hpw i j hi hj h3 _ h1 _ h2)
 · subst h3;rfl
 · exact absurd rfl (hpw j i hj hi h3 _ h2 _ h1)
theorem Valid.uN {c:List Int} (hc:c∈cO p):∃ x∈bf p,c=lG (iH p) (bf p) x/\c.headD 0=x/\x∈c:=by
 obtain ⟨x,hx,e,-⟩:=h.lH.NV c hc;have hf:=Dl (fun x hx=>(h.uK hx).1) (fun x hx y hy=>h.Ej hx hy) hx;refine ⟨x,hx,e,?_,by rw [e];exact aeZ hf.1⟩;rw [e];unfold lG;obtain ⟨m,hm⟩:∃ m,nN (iH p) (bf p) x=m+1:=⟨nN (iH p) (bf p) x-1,by have:=hf.1;omega⟩;rw [hm];rfl
theorem Valid.QM {d:Int} (hd:d∈bf p):∃ c∈cO p,d∈c/\tN (cO p) d=c.headD 0:=by
 obtain ⟨c,hc,hdc⟩:=List.mem_flatten.1 (h.lH.covers d hd);unfold tN
 cases hf:(cO p).find? (fun c=>decide (d∈c)) with
 | none =>
  have:=List.find?_eq_none.1 hf c hc
  simp [hdc] at this
 | some c' =>
  have h1:=List.find?_some hf;exact ⟨c',List.mem_of_find?_eq_some hf,by simpa using h1,rfl⟩
theorem Valid.head_eq {c:List Int} (hc:c∈cO p) {d:Int} (hd:d∈bf p) (hdc:d∈c):tN (cO p) d=c.headD 0:=by
 obtain ⟨c',h1,h2,h3⟩:=h.QM hd;rw [h3,h.aax h1 hc h2 hdc]
theorem Valid.amR {d:Int} (hd:d∈bf p):tN (cO p) (iH p d)=tN (cO p) d:=by
 obtain ⟨c,h1,h2,h3⟩:=h.QM hd;obtain ⟨x,hx,e,-,-⟩:=h.uN h1;rw [h3];refine h.head_eq h1 (h.uK hd).1 ?_;rw [e] at h2 ⊢;exact (aaf (fun x hx=>(h.uK hx).1) (fun x hx y hy=>h.Ej hx hy) hx hd).2 h2
theorem Valid.amS {β:Type} (H:Int->β) (hH:∀ d∈bf p,H (iH p d)=H d) {d:Int} (hd:d∈bf p):H (tN (cO p) d)=H d:=by
 obtain ⟨c,h1,h2,h3⟩:=h.QM hd;obtain ⟨x,hx,e,e2,-⟩:=h.uN h1;rw [h3,e2];rw [e] at h2;obtain ⟨k,-,rfl⟩:=BA.1 h2;clear h1 h2 h3 e e2 hd
 induction k with
 | zero=>rfl
 | succ k ih =>
  show H x=H (iH p (pw (iH p) x k))
  rw [hH _ (Eh (fun x hx=>(h.uK hx).1) hx k)];exact ih
theorem Valid.amT:QL (bf p) (tN (cO p))/\afD (bf p) (tN (cO p))=(cO p).length:=by
 have hmem:∀ x∈bf p,tN (cO p) x∈bf p/\tN (cO p) (tN (cO p) x)=tN (cO p) x:=by
  intro d hd;obtain ⟨c,h1,h2,h3⟩:=h.QM hd;obtain ⟨x,hx,e,e2,e3⟩:=h.uN h1;rw [h3,e2];exact ⟨hx,(h.head_eq h1 hx e3).trans e2⟩
 refine ⟨⟨fun x hx=>(hmem x hx).1,fun x hx=>(hmem x hx).2⟩,?_⟩;have hnd:=h.lH.nodup;rw [List.nodup_iff_pairwise_ne,List.pairwise_flatten] at hnd;have hL:((cO p).map (fun c=>c.headD 0)).Nodup:=by
  rw [List.nodup_iff_pairwise_ne,List.pairwise_map];refine List.Pairwise.imp_of_mem (fun {c c'} h1 h2 h3=>?_) hnd.2;obtain ⟨x,-,-,e2,e3⟩:=h.uN h1;obtain ⟨y,-,-,f2,f3⟩:=h.uN h2;rw [e2,f2];exact h3 _ e3 _ f3
 have h1:=Dk hL (m:=(bf p).filter (fun x=>decide (tN (cO p) x=x))) (fun y hy=>by
  obtain ⟨c,hc,rfl⟩:=av6.1 hy;obtain ⟨x,hx,-,e2,e3⟩:=h.uN hc;rw [e2,av7,avQ];exact ⟨hx,(h.head_eq hc hx e3).trans e2⟩)
 have h2:=Dk (h.Qv.filter (fun x=>decide (tN (cO p) x=x))) (m:=(cO p).map (fun c=>c.headD 0)) (fun y hy=>by
  rw [av7,avQ] at hy;obtain ⟨c,hc,-,e⟩:=h.QM hy.1;exact av6.2 ⟨c,hc,by rw [<- e];exact hy.2⟩)
 rw [avM] at h1 h2;unfold afD;omega
theorem Valid.afG {k:Nat} (hk:k<p.aj.length):p.aj[k].id∈bf p/\-p.aj[k].id∈bf p :=
 ⟨kZ.2 ⟨_,avF hk,.inl rfl⟩,kZ.2 ⟨_,avF hk,.inr rfl⟩⟩
theorem Valid.auq (k:Nat) (hk:k<=p.aj.length):QL (bf p) (bM p k):=by
 induction k with
 | zero=>exact h.amT.1
 | succ k ih =>
  rw [Vp (k:=k) Pe];split
  · exact ih Pe
  · exact (ih Pe).mrg (h.afG Pe).2
theorem Valid.aay {k j:Nat} (hkj:k<=j) (hj:j<=p.aj.length) {x y:Int} (e:bM p k x=bM p k y):bM p j x=bM p j y:=by
 induction j with
 | zero =>
  have:k=0:=by omega
  subst this;exact e
 | succ j ih =>
  by_cases h1:k=j+1
  · subst h1;exact e
  ·have e2:=ih Pe Pe;rw [Vp (k:=j) Pe];split
   · exact e2
   · unfold mrg;rw [e2]
theorem Valid.amU {β:Type} (H:Int->β) (hH:∀ d∈bf p,H (iH p d)=H d) (k:Nat) (hk:k<=p.aj.length) (h0:∀ j (hj:j<p.aj.length),j<k->¬ wK p j p.aj[j]->H p.aj[j].id=H (-p.aj[j].id)):∀ d∈bf p,H (bM p k d)=H d:=by
 induction k with
 | zero=>exact fun d hd=>h.amS H hH hd
 | succ k ih =>
  intro d hd;have ih:=ih Pe (fun j hj hjk=>h0 j hj Pe);rw [Vp (k:=k) Pe];split
  · exact ih d hd
  ·rename_i ht;have hm:=h.afG (k:=k) Pe;unfold mrg;split
   ·rename_i e;rw [ih _ hm.2,<- h0 k Pe Pe ht,<- ih _ hm.1,<- e,ih d hd]
   · exact ih d hd
end
set_option linter.unusedSectionVars false
theorem amV {L:List Int} (hL:L.Nodup) (f:Int->Int):(L.map fun d=>f (precD L d)).sum=(L.map f).sum:=by
 by_cases h0:L.length=0
 ·have:L=[]:=awi h0
  subst this;rfl
 ·have e:L.map (precD L)=L[L.length-1]'(by omega)::L.take (L.length-1):=by
   refine List.ext_getElem arV fun i h1 h2=>?_;rw [avM] at h1;rw [av4,KJ hL h1]
   cases i with
   | zero =>
    rw [List.getElem_cons_zero];congr 1;rw [Nat.zero_add];exact Nat.mod_eq_of_lt Pe
   | succ i =>
    rw [List.getElem_cons_succ,List.getElem_take];congr 1;rw [show i+1+L.length-1=i+L.length by omega,Nat.add_mod_right];exact Nat.mod_eq_of_lt Pe
  have e2:L.map f=(L.take (L.length-1)).map f++[f (L[L.length-1]'(by omega))]:=by
   conv=>lhs;rw [<- List.take_append_drop (L.length-1) L]
   rw [List.map_append,List.drop_eq_getElem_cons (show L.length-1<L.length by omega),List.drop_eq_nil_of_le Pe];rfl
  rw [show (L.map fun d=>f (precD L d))=(L.map (precD L)).map f by rw [awc];rfl,e,List.map_cons,List.sum_cons,e2,List.sum_append];simp only [List.sum_cons,List.sum_nil];omega
theorem Vq {l m:List Int} (h:l.Perm m):l.sum=m.sum:=by
 induction h with
 | nil=>rfl
 | cons x _ ih=>rw [List.sum_cons,List.sum_cons,ih]
 | swap x y l=>simp only [List.sum_cons];omega
 | trans _ _ h1 h2=>exact h1.trans h2
section
variable {p:Pl} (h:Valid p)
include h
theorem Valid.amW (z:Int->Int) (n:Int):((eG p.aj n).map fun d=>zD z d).sum=-bdC p z n:=by
 have hid:∀ b∈p.aj,1<=b.id:=fun b hb=>(h.kC hb).1;unfold eG bdC;generalize p.aj=l at hid
 induction l with
 | nil=>rfl
 | cons b l ih =>
  have:=hid b ars
  have z1:zD z b.id=z b.id:=by unfold zD;rw [if_pos Pe]
  have z2:zD z (-b.id)=-z b.id:=by unfold zD;rw [if_neg Pe,Int.neg_neg]
  rw [List.map_cons,List.sum_cons,av5,List.map_append,List.sum_append,ih (fun c hc=>hid c (by simp [hc]))];by_cases c1:b.fr=n<;>by_cases c2:b.dst=n<;>simp only [c1,c2,if_true,if_false,List.map_append,List.sum_append,List.map_cons,List.map_nil,List.sum_cons,List.sum_nil,z1,z2]<;>grind
theorem Valid.afH {n:Nd} (hn:n∈p.nodes) {d:Int} (hd:d∈dJ p n.id):iH p (-d)=precD (dJ p n.id) d/\d∈bf p/\lT p d=n.id:=by
 obtain ⟨h1,h2⟩:=h.KL ((h.pK hn).subset hd);obtain ⟨n',hn',e,hm,hx⟩:=h.NZ (Dn h1);rw [Int.neg_neg] at e hm hx;exact ⟨by rw [hx,e,h2],h1,h2⟩
theorem Valid.afI {d:Int} (hd:d∈bf p):bM p p.aj.length (iH p d)=bM p p.aj.length d :=
 h.aay (k:=0) (avK _) (awe _) (h.amR hd)
theorem Valid.amX {k:Nat} (hk:k<p.aj.length) (ht:¬ wK p k p.aj[k]):bM p p.aj.length p.aj[k].id=bM p p.aj.length (-p.aj[k].id):=by
 refine h.aay (k:=k+1) Pe (awe _) ?_;rw [Vp hk,if_neg ht];unfold mrg;rw [if_pos rfl];split<;>rfl
theorem Valid.amY {k:Nat} (hk:k<p.aj.length):bM p p.aj.length p.aj[k].id=bM p p.aj.length (-p.aj[k].id):=by
 obtain ⟨S,hS⟩:∃ S,bM p p.aj.length=S:=⟨_,rfl⟩;have hnx:=fun {d} (hd:d∈bf p)=>h.afI hd;have har:=fun {k} (hk:k<p.aj.length) ht=>h.amX (k:=k) hk ht;rw [hS] at hnx har ⊢;obtain ⟨f,hf⟩:∃ f:Int->Int,f=fun d=>if S d=S p.aj[k].id then 1 else 0:=⟨_,rfl⟩;have hfn:∀ d∈bf p,f (iH p d)=f d:=fun d hd=>by rw [hf];simp only [hnx hd]
 have hcl:jc p (fun i=>f i-f (-i)):=by
  intro n hn
  show bdC p (fun i=>f i-f (-i)) n.id=0
  have hb:=h.amW (fun i=>f i-f (-i)) n.id;have hp:=h.pK hn;have e1:((eG p.aj n.id).map fun d=>zD (fun i=>f i-f (-i)) d).sum=((dJ p n.id).map fun d=>f d + -f (precD (dJ p n.id) d)).sum:=by
   rw [Vq (hp.symm.map _)];refine jF _ _ _ fun d hd=>?_;obtain ⟨g1,g2,-⟩:=h.afH hn hd;rw [<- g1,hfn _ (Dn g2)];unfold zD;by_cases h0:0<d
   · rw [if_pos h0];show f d-f (-d)=_;omega
   · rw [if_neg h0];show -(f (-d)-f (- -d))=_;rw [Int.neg_neg];omega
  rw [e1,yt,BH,amV (h.Ji hn) f] at hb;omega
 have h0:=h.afF hcl (fun j hj ht=>by
  show f _-f _=0
  rw [hf];simp only [har hj ht];omega) p.aj.length (awe _) (fun j hj hle=>by omega) k hk
 have h1:f p.aj[k].id=1:=by rw [hf];exact if_pos rfl
 have h2:f (-p.aj[k].id)=1:=by
  have h0':f p.aj[k].id-f (-p.aj[k].id)=0:=h0;omega
 rw [hf] at h2;have h2':(if S (-p.aj[k].id)=S p.aj[k].id then (1:Int) else 0)=1:=h2;split at h2'
 · rename_i e;exact e.symm
 · omega
theorem Valid.Du {d:Int} (hd:d∈bf p):bM p p.aj.length (-d)=bM p p.aj.length d:=by
 obtain ⟨a,ha,e⟩:=kZ.1 hd;obtain ⟨k,hk,rfl⟩:=avI.1 ha;have:=h.amY hk
 rcases e with rfl | rfl
 · exact this.symm
 · rw [Int.neg_neg];exact this
theorem Valid.aaz {n:Nd} (hn:n∈p.nodes) {d e:Int} (hd:d∈dJ p n.id) (he:e∈dJ p n.id):bM p p.aj.length d=bM p p.aj.length e:=by
 have key:∀ i (hi:i<(dJ p n.id).length),bM p p.aj.length (dJ p n.id)[i]=bM p p.aj.length ((dJ p n.id)[0]'(by omega)):=by
  intro i
  induction i with
  | zero=>intro _;rfl
  | succ i ih =>
   intro hi;rw [<- ih Pe];obtain ⟨g1,g2,-⟩:=h.afH hn (avF hi);have hm:(i+1+(dJ p n.id).length-1) % (dJ p n.id).length=i:=by
    rw [show i+1+(dJ p n.id).length-1=i+(dJ p n.id).length by omega,Nat.add_mod_right];exact Nat.mod_eq_of_lt Pe
   have e1:precD (dJ p n.id) (dJ p n.id)[i+1]=(dJ p n.id)[i]:=by
    rw [KJ (h.Ji hn) hi];congr 1
   rw [<- e1,<- g1,h.afI (Dn g2),h.Du g2]
 obtain ⟨i,hi,rfl⟩:=avI.1 hd;obtain ⟨j,hj,rfl⟩:=avI.1 he;rw [key i hi,key j hj]
end
section
variable {p:Pl} (h:Valid p)
include h
end
def xN (a b:Pt) (τ:Int):Int:=a.x*(2*hY b-τ)+b.x*(τ-2*hY a)
def gJ (τ:Int) (a b:Pt):Int:=(if τ<2*hY b then 1 else 0)-(if τ<2*hY a then 1 else 0)
def wR (s t:Pt) (τ:Int) (v:Pt):Int:=if hY s<hY v/\2*hY v<τ/\tw s t v<0 then 1 else 0
def dX (a b s t:Pt) (τ:Int):Int:=xN a b τ*(hY t-hY s)-xN s t τ*(hY b-hY a)
theorem amZ (a b:Pt) (τ:Int):xN b a τ=-xN a b τ:=by unfold xN;grind
theorem afJ (a b s t:Pt):dX a b s t (2*hY s)=16777216*(hY t-hY s)*tw a b s:=by unfold dX xN tw hY;grind
theorem afK (a b s t:Pt):dX a b s t (2*hY t)=16777216*(hY t-hY s)*tw a b t:=by unfold dX xN tw hY;grind
theorem afL (a b s t:Pt):dX a b s t (2*hY a)=-(16777216*(hY b-hY a)*tw s t a):=by unfold dX xN tw hY;grind
theorem afM (a b s t:Pt):dX a b s t (2*hY b)=-(16777216*(hY b-hY a)*tw s t b):=by unfold dX xN tw hY;grind
theorem aaA (a b s t:Pt) (α τ β:Int):dX a b s t τ*(β-α)=dX a b s t α*(β-τ)+dX a b s t β*(τ-α):=by
 unfold dX xN;generalize hY a=A;generalize hY b=B;generalize hY s=S;generalize hY t=T
 grind
theorem am0 {x y z p q:Int} (hp:0<p) (hq:0<q) (e:z*(p+q)=x*p+y*q) :
  (0<x->0<=y->0<z)/\(0<=x->0<y->0<z)/\(x<=0->y<=0->¬ 0<z):=by
 refine ⟨fun h1 h2=>?_,fun h1 h2=>?_,fun h1 h2 h3=>?_⟩
 ·have a1:=Int.mul_pos h1 hp;have a2:=Int.mul_nonneg h2 (Int.le_of_lt hq);apply Classical.byContradiction;intro h3;have:=Int.mul_nonneg (show 0<=-z by omega) (show 0<=p+q by omega)
  rw [Int.neg_mul] at this;omega
 ·have a1:=Int.mul_nonneg h1 (Int.le_of_lt hp);have a2:=Int.mul_pos h2 hq;apply Classical.byContradiction;intro h3;have:=Int.mul_nonneg (show 0<=-z by omega) (show 0<=p+q by omega)
  rw [Int.neg_mul] at this;omega
 ·have a1:=Int.mul_nonneg (show 0<=-x by omega) (Int.le_of_lt hp);have a2:=Int.mul_nonneg (show 0<=-y by omega) (Int.le_of_lt hq);have a3:=Int.mul_pos h3 (show 0<p+q by omega);rw [Int.neg_mul] at a1 a2;omega
theorem Vr {c:Int} (hc:0<c) (u:Int):(0<16777216*c*u↔0<u)/\(0<=16777216*c*u↔0<=u)/\(16777216*c*u<=0↔u<=0):=by
 have h:0<16777216*c:=by omega
 generalize 16777216*c=k at *;rcases Int.lt_trichotomy u 0 with h1 | h1 | h1
 · have:=Int.mul_neg_of_pos_of_neg h h1;omega
 · subst h1;simp
 · have:=Int.mul_pos h h1;omega
theorem am1 {a b s t:Pt} {α τ β:Int} (h1:α<τ) (h2:τ<β) :
  (0<dX a b s t α->0<=dX a b s t β->0<dX a b s t τ)/\(0<=dX a b s t α->0<dX a b s t β->0<dX a b s t τ)/\(dX a b s t α<=0->dX a b s t β<=0->¬ 0<dX a b s t τ):=by
 have:=aaA a b s t α τ β
 rw [show β-α=(β-τ)+(τ-α) by omega] at this;exact am0 Pe Pe this
theorem KP {x y D:Int} (b:(0<x->0<=y->0<D)/\(0<=x->0<y->0<D)/\(x<=0->y<=0->¬ 0<D)) {P:Prop} (h:(P->0<x/\0<=y)\/(P->0<=x/\0<y)) (h2:¬ P->x<=0/\y<=0):0<D↔P:=by
 by_cases hp:P
 ·refine ⟨fun _=>hp,fun _=>?_⟩;rcases h with h | h
  · exact b.1 (h hp).1 (h hp).2
  · exact b.2.1 (h hp).1 (h hp).2
 · exact ⟨fun hd=>absurd hd (b.2.2 (h2 hp).1 (h2 hp).2),fun h=>absurd h hp⟩
theorem am2 {A B S T τ D:Int} {P1 P3 P4:Prop} [Decidable P1] [Decidable P3] [Decidable P4] (hab:A<B) (hA:2*A≠τ) (hB:2*B≠τ) (h1:2*S<τ) (h2:τ<2*T)
  (key1:A<S->τ<2*B->(0<D↔P1)) (key2:A=S->τ<2*B->(0<D↔P4)) (am3:S<A->2*A<τ->τ<2*B->(0<D↔P3))
  (g1:A<S->S<B->B<T->(P1↔P4)) (g3:S<A->B<T->(P3↔P4)) :
  (if 2*A<τ/\τ<2*B/\0<D then (1:Int) else 0)=(if A<S/\S<B/\P1 then 1 else 0)+(if A=S/\P4 then 1 else 0)-0+((if S<A/\2*A<τ/\P3 then 1 else 0)-(if S<B/\2*B<τ/\P4 then 1 else 0)):=by
 rcases Int.lt_trichotomy A S with c1 | c1 | c1
 ·have e1:¬ A=S:=by omega
  have e2:¬ S<A:=by omega
  have e3:2*A<τ:=by omega
  simp only [e1,e2,e3,c1,true_and,false_and,if_false];by_cases c2:2*B<τ
  ·have e4:¬ τ<2*B:=by omega
   simp only [c2,e4,true_and,false_and,if_false];by_cases c3:S<B
   ·have:=g1 c1 c3 Pe
    simp only [c3,this,true_and];omega
   · simp only [c3,false_and,if_false];rfl
  ·have e4:τ<2*B:=by omega
   have e5:S<B:=by omega
   have:=key1 c1 e4
   simp only [c2,e4,e5,this,true_and,false_and,and_false,if_false];omega
 ·have e1:¬ A<S:=by omega
  have e2:¬ S<A:=by omega
  have e3:2*A<τ:=by omega
  have e5:S<B:=by omega
  simp only [c1,e1,e2,e3,e5,Int.lt_irrefl,true_and,false_and,if_false,h1];by_cases c2:2*B<τ
  ·have e4:¬ τ<2*B:=by omega
   simp only [c2,e4,true_and,false_and,if_false];omega
  ·have e4:τ<2*B:=by omega
   have:=key2 c1 e4
   simp only [c2,e4,this,true_and,false_and,if_false];omega
 ·have e1:¬ A<S:=by omega
  have e2:¬ A=S:=by omega
  have e5:S<B:=by omega
  simp only [e1,e2,c1,e5,true_and,false_and,if_false];by_cases c3:2*A<τ
  ·by_cases c2:2*B<τ
   ·have e4:¬ τ<2*B:=by omega
    have:=g3 c1 Pe
    simp only [c2,c3,e4,this,true_and,false_and,if_false];omega
   ·have e4:τ<2*B:=by omega
    have:=am3 c1 c3 e4
    simp only [c2,c3,e4,this,true_and,false_and,if_false];omega
  ·have e4:¬ 2*B<τ:=by omega
   simp only [c3,e4,false_and,if_false];rfl
theorem am4 {a b s t:Pt} (na:aZ a=true) (nb:aZ b=true) (ns:aZ s=true) (nt:aZ t=true) (hab:hY a<hY b) (hst:hY s<hY t)
  (hno:a≠s->a≠t->b≠s->b≠t->oV a b s t) {τ:Int} (hA:2*hY a≠τ) (hB:2*hY b≠τ) (h1:2*hY s<τ) (h2:τ<2*hY t) :
  (if 2*hY a<τ/\τ<2*hY b/\0<dX a b s t τ then 1 else 0)=tK s t a b+(wR s t τ a-wR s t τ b):=by
 have d1:=Oa ns nb nt;have d2:=Oa ns na nt;have q:∀ {u v:Pt},aZ u=true->aZ v=true->(u=v↔hY u=hY v):=fun hu hv=>⟨fun e=>by rw [e],oU hu hv⟩;have e1:tw s b t=-tw s t b:=afm s t b;have f1:hY a=hY s->tw a b s=0/\tw s t a=0:=fun h=>by
  have:=oU na ns h
  subst this;exact ⟨FW a b,FW a t⟩
 have f2:hY b=hY t->tw a b t=0/\tw s t b=0:=fun h=>by
  have:=oU nb nt h
  subst this;exact ⟨FX a b,FX s b⟩
 have f3:hY a≠hY s->hY a≠hY t->hY b≠hY s->hY b≠hY t->_:=fun h1 h2 h3 h4=>afo (s:=s) (t:=t) hab hst (hno (fun e=>h1 avA) (fun e=>h2 avA) (fun e=>h3 avA) (fun e=>h4 avA));have k1:(a=s/\gG s b t)↔(hY a=hY s/\tw s t b<0):=by rw [d1,q na ns,e1];constructor<;>(rintro ⟨h1,h2⟩;exact ⟨h1,by omega⟩)
 have k2:¬ (b=s/\gG s a t):=by rw [d2,q nb ns];rintro ⟨h1,h2⟩;omega
 have m1:pR a b s=if hY a<hY s/\hY s<hY b/\0<tw a b s then 1 else 0:=by unfold pR;rw [if_neg (show ¬ (hY b<hY s/\hY s<hY a/\0<tw b a s) by omega)]
 have gS:=afJ a b s t;have gT:=afK a b s t;have gA:=afL a b s t;have gB:=afM a b s t;have bw:=fun (α β:Int) (g1:α<τ) (g2:τ<β)=>am1 (a:=a) (b:=b) (s:=s) (t:=t) g1 g2;unfold tK;rw [m1,if_neg k2];simp only [k1];unfold wR;have sS:=Vr (show 0<hY t-hY s by omega) (tw a b s);have sT:=Vr (show 0<hY t-hY s by omega) (tw a b t);have sA:=Vr (show 0<hY b-hY a by omega) (tw s t a);have sB:=Vr (show 0<hY b-hY a by omega) (tw s t b);have jv:=bw (2*hY s) (2*hY b);have Jo:=bw (2*hY s) (2*hY t);have fE:=bw (2*hY a) (2*hY b);have Jp:=bw (2*hY a) (2*hY t);rw [gS,gB] at jv;rw [gS,gT] at Jo;rw [gA,gB] at fE;rw [gA,gT] at Jp;clear hno d1 d2 e1 q na nb ns nt k1 k2 m1 gS gT gA gB bw;generalize dX a b s t τ=D at *;generalize 16777216*(hY t-hY s)*tw a b s=vS at *;generalize 16777216*(hY t-hY s)*tw a b t=vT at *;generalize 16777216*(hY b-hY a)*tw s t a=vA at *;generalize 16777216*(hY b-hY a)*tw s t b=vB at *;generalize tw a b s=u1 at *;generalize tw a b t=u2 at *;generalize tw s t a=u3 at *;generalize tw s t b=u4 at *;generalize hY a=A at *;generalize hY b=B at *;generalize hY s=S at *;generalize hY t=T at *;refine am2 hab hA hB h1 h2 (fun c1 c2=>?_) (fun c1 c2=>?_) (fun c1 c3 c2=>?_) (fun c1 c2 c3=>?_) (fun c1 c2=>?_)
 ·rcases Int.lt_trichotomy B T with c4 | c4 | c4
  ·have f3:=(f3 Pe Pe Pe Pe).1 c1 Pe c4;clear f1 f2 fE Jp Jo sA sT;exact KP (jv h1 c2) (.inl fun hp=>⟨sS.1.2 hp,by omega⟩) (fun hp=>⟨by omega,by omega⟩)
  ·obtain ⟨g1,g2⟩:=f2 c4;clear f1 f2 f3 fE Jp jv sA sB;exact KP (Jo h1 h2) (.inl fun hp=>⟨sS.1.2 hp,by omega⟩) (fun hp=>⟨by omega,by omega⟩)
  ·have f3:=(f3 Pe Pe Pe Pe).2.1 c1 c4;clear f1 f2 fE Jp jv sA sB;exact KP (Jo h1 h2) (.inl fun hp=>⟨sS.1.2 hp,by omega⟩) (fun hp=>⟨by omega,by omega⟩)
 ·obtain ⟨g1,g2⟩:=f1 c1;clear f1 f2 f3 fE Jp Jo sA sT;exact KP (jv h1 c2) (.inr fun hp=>⟨by omega,by omega⟩) (fun hp=>⟨by omega,by omega⟩)
 ·rcases Int.lt_trichotomy B T with c4 | c4 | c4
  ·have f3:=(f3 Pe Pe Pe Pe).2.2.1 c1 c4;clear f1 f2 Jo Jp jv sS sT;exact KP (fE c3 c2) (.inl fun hp=>⟨by omega,by omega⟩) (fun hp=>⟨by omega,by omega⟩)
  ·obtain ⟨g1,g2⟩:=f2 c4;clear f1 f2 f3 Jo Jp jv sS sT;exact KP (fE c3 c2) (.inl fun hp=>⟨by omega,by omega⟩) (fun hp=>⟨by omega,by omega⟩)
  ·have f3:=(f3 Pe Pe Pe Pe).2.2.2 c1 Pe c4;clear f1 f2 Jo fE jv sS sB;exact KP (Jp c3 h2) (.inl fun hp=>⟨by omega,by omega⟩) (fun hp=>⟨by omega,by omega⟩)
 · exact (f3 Pe Pe Pe Pe).1 c1 c2 c3
 · exact (f3 Pe Pe Pe Pe).2.2.1 c1 c2
end Go.Proofs.YtialfdomhoojiaaGreat
