import Derived.Test.YtialfdomhoojiaaGreatJ07
import Derived.Test.YtialfdomhoojiaaGreatJ03
set_option linter.unusedSimpArgs false
set_option linter.unusedVariables false
namespace Go.Proofs.YtialfdomhoojiaaGreat
open Go.RowKit
def gV (d:Int):Int:=if d<0 then -d else d
def RG:Int:=-9223372036854775808
def iC (p:Pl) (d:Int):Option Ar:=if d=0\/d=RG then none else findAr p.ah (gV d)
def lD (p:Pl) (d:Int):Int:=match iC p d with
 | none=>0
 | some a=>if 0<d then a.fr else a.dst
def jd (p:Pl) (d:Int):Int:=match iC p d with
 | none=>0
 | some a=>if 0<d then a.left else a.right
def dL (l:List Ar) (n:Int):List Int:=l.flatMap fun a=>(if a.fr=n then [a.id] else [])++(if a.dst=n then [-a.id] else [])
def dJ (p:Pl) (d:Int):Pt:=match findAr p.ah (gV d) with
 | none=>aB
 | some a=>if 0<d then (au p a).getD 1 aB else (au p a).getD a.via.length aB
def aQ (p:Pl):List Int:=(p.ah.map (fun a=>-a.id)).reverse++p.ah.map (·.id)
section
variable {p:Pl} (h:Valid p)
include h
theorem Valid.jC {a:Ar} (ha:a∈p.ah):1<=a.id/\a.id<=1073741824:=by
 have hr:=h.rng;unfold wQ at hr;rw [Bool.and_eq_true] at hr;have h1:=hr.1;rw [Bool.not_eq_true',List.any_eq_false] at h1;have:=h1 a.id (List.mem_append_left _ (List.mem_append_right _ (List.mem_map_of_mem ha)))
 unfold qK at this;simp only [Bool.or_eq_true,decide_eq_true_eq,not_or] at this;omega
theorem Valid.RH {n:Nd} (hn:n∈p.nodes):1<=n.id/\n.id<=1073741824:=by
 have hr:=h.rng;unfold wQ at hr;rw [Bool.and_eq_true] at hr;have h1:=hr.1;rw [Bool.not_eq_true',List.any_eq_false] at h1;have:=h1 n.id (List.mem_append_left _ (List.mem_append_left _ (List.mem_map_of_mem hn)))
 unfold qK at this;simp only [Bool.or_eq_true,decide_eq_true_eq,not_or] at this;omega
theorem Valid.find {a:Ar} (ha:a∈p.ah):findAr p.ah a.id=some a:=Ro (fun x:Ar=>x.id) p.ah h.sound.ah a ha
theorem Valid.Xn {a b:Ar} (ha:a∈p.ah) (hb:b∈p.ah) (e:a.id=b.id):a=b:=by
 have h1:=h.find ha;rw [e,h.find hb] at h1;exact (Option.some.inj h1).symm
theorem Valid.RI {a:Ar} (ha:a∈p.ah):iC p a.id=some a:=by
 have:=h.jC ha
 unfold iC gV RG;rw [if_neg (by omega),if_neg (by omega),h.find ha]
theorem Valid.Xo {a:Ar} (ha:a∈p.ah):iC p (-a.id)=some a:=by
 have:=h.jC ha
 unfold iC gV RG;rw [if_neg (by omega),if_pos (by omega),Int.neg_neg,h.find ha]
theorem Valid.RJ {a:Ar} (ha:a∈p.ah):lD p a.id=a.fr:=by
 have:=h.jC ha
 unfold lD;rw [h.RI ha]
 show (if 0<a.id then a.fr else a.dst)=a.fr
 rw [if_pos (by omega)]
theorem Valid.NR {a:Ar} (ha:a∈p.ah):lD p (-a.id)=a.dst:=by
 have:=h.jC ha
 unfold lD;rw [h.Xo ha]
 show (if 0 < -a.id then a.fr else a.dst)=a.dst
 rw [if_neg (by omega)]
theorem Valid.J3 {a:Ar} (ha:a∈p.ah):dJ p a.id=(au p a).getD 1 aB:=by
 have:=h.jC ha
 unfold dJ gV;rw [if_neg (by omega),h.find ha]
 show (if 0<a.id then _ else _)=_
 rw [if_pos (by omega)]
theorem Valid.G9 {a:Ar} (ha:a∈p.ah):dJ p (-a.id)=(au p a).getD a.via.length aB:=by
 have:=h.jC ha
 unfold dJ gV;rw [if_pos (by omega),Int.neg_neg,h.find ha]
 show (if 0 < -a.id then _ else _)=_
 rw [if_neg (by omega)]
end
theorem wZ {l:List Ar} {n d:Int}:d∈dL l n↔∃ a∈l,(d=a.id/\a.fr=n)\/(d=-a.id/\a.dst=n):=by
 unfold dL;rw [List.mem_flatMap];refine exists_congr fun a=>and_congr_right fun _=>?_;rw [List.mem_append];constructor
 ·rintro (h | h)
  ·split at h
   · rw [List.mem_singleton] at h;exact .inl ⟨h,by assumption⟩
   · cases h
  ·split at h
   · rw [List.mem_singleton] at h;exact .inr ⟨h,by assumption⟩
   · cases h
 ·rintro (⟨h1,h2⟩ | ⟨h1,h2⟩)
  · left;rw [if_pos h2,h1];exact List.mem_singleton.2 rfl
  · right;rw [if_pos h2,h1];exact List.mem_singleton.2 rfl
theorem jD {p:Pl} {d:Int}:d∈aQ p↔∃ a∈p.ah,d=a.id\/d=-a.id:=by
 unfold aQ;rw [List.mem_append,List.mem_reverse,List.mem_map,List.mem_map];constructor
 ·rintro (⟨a,ha,rfl⟩ | ⟨a,ha,rfl⟩)
  · exact ⟨a,ha,.inr rfl⟩
  · exact ⟨a,ha,.inl rfl⟩
 ·rintro ⟨a,ha,rfl | rfl⟩
  · exact .inr ⟨a,ha,rfl⟩
  · exact .inl ⟨a,ha,rfl⟩
section
variable {p:Pl} (h:Valid p)
include h
theorem Valid.Xp {n:Nd} (hn:n∈p.nodes) {d:Int} (hd:d∈dL p.ah n.id):∃ a∈p.ah,∃ k,k+1<(au p a).length /\
  ((d=a.id/\k=0/\a.fr=n.id/\(au p a).getD k aB=n.pt/\(au p a).getD (k+1) aB=dJ p d)\/(d=-a.id/\k=a.via.length/\a.dst=n.id/\(au p a).getD (k+1) aB=n.pt/\(au p a).getD k aB=dJ p d)):=by
 obtain ⟨a,ha,h1⟩:=wZ.1 hd;have hl:=fJ p a;rcases h1 with ⟨rfl,h2⟩ | ⟨rfl,h2⟩
 ·refine ⟨a,ha,0,by omega,.inl ⟨rfl,rfl,h2,?_,(h.J3 ha).symm⟩⟩;rw [zy,h2];exact h.sound.sN hn
 ·refine ⟨a,ha,a.via.length,by omega,.inr ⟨rfl,rfl,h2,?_,(h.G9 ha).symm⟩⟩;have:(au p a).getD (a.via.length+1) aB=nodeAt p a.dst:=by
   unfold au;rw [List.getD_cons_succ,List.getD_eq_getElem?_getD,List.getElem?_append_right (by omega)];simp
  rw [this,h2];exact h.sound.sN hn
theorem Valid.Hg {n:Nd} (hn:n∈p.nodes) {d:Int} (hd:d∈dL p.ah n.id):aW n.pt=true/\aW (dJ p d)=true/\dJ p d≠n.pt:=by
 obtain ⟨a,ha,k,hk,h1⟩:=h.Xp hn hd;have n1:=h.bV ha (k:=k) (by omega);have n2:=h.bV ha (k:=k+1) hk;have hne:=(h.distinct ha hk).1;rcases h1 with ⟨-,-,-,e1,e2⟩ | ⟨-,-,-,e1,e2⟩
 · rw [e1] at n1 hne;rw [e2] at n2 hne;exact ⟨n1,n2,hne.symm⟩
 · rw [e1] at n2 hne;rw [e2] at n1 hne;exact ⟨n2,n1,hne⟩
theorem Valid.dirs {n:Nd} (hn:n∈p.nodes) {d1 d2:Int} (h1:d1∈dL p.ah n.id) (h2:d2∈dL p.ah n.id) (hne:d1≠d2):dV n.pt (dJ p d1) (dJ p d2)\/dV n.pt (dJ p d2) (dJ p d1):=by
 by_cases c1:dV n.pt (dJ p d1) (dJ p d2)
 · exact .inl c1
 by_cases c2:dV n.pt (dJ p d2) (dJ p d1)
 · exact .inr c2
 exfalso;have key:∀ {e1 e2:Int},e1∈dL p.ah n.id->e2∈dL p.ah n.id->¬ dV n.pt (dJ p e1) (dJ p e2)->¬ dV n.pt (dJ p e2) (dJ p e1)->∀ {a b:Ar} {k m:Nat},
   ((au p a).getD k aB=n.pt/\(au p a).getD (k+1) aB=dJ p e1\/(au p a).getD (k+1) aB=n.pt/\(au p a).getD k aB=dJ p e1) ->
   ((au p b).getD m aB=n.pt/\(au p b).getD (m+1) aB=dJ p e2\/(au p b).getD (m+1) aB=n.pt/\(au p b).getD m aB=dJ p e2) ->
   ig (bQ p a k).a (bQ p a k).b (bQ p b m).a (bQ p b m).b=2:=by
  intro e1 e2 m1 m2 q1 q2 a b k m s1 s2;obtain ⟨n0,n1,x1⟩:=h.Hg hn m1;obtain ⟨-,n2,x2⟩:=h.Hg hn m2;obtain ⟨r1,r2,r3,r4⟩:=adw n0 n1 n2 x1 x2 q1 q2;unfold bQ;rcases s1 with ⟨u1,u2⟩ | ⟨u1,u2⟩<;>rcases s2 with ⟨v1,v2⟩ | ⟨v1,v2⟩<;>simp only [u1,u2,v1,v2]
  · exact r1
  · exact r3
  · exact r2
  · exact r4
 obtain ⟨a,ha,k,hk,s1⟩:=h.Xp hn h1;obtain ⟨b,hb,m,hm,s2⟩:=h.Xp hn h2;have t1:(au p a).getD k aB=n.pt/\(au p a).getD (k+1) aB=dJ p d1\/(au p a).getD (k+1) aB=n.pt/\(au p a).getD k aB=dJ p d1:=by
  rcases s1 with ⟨-,-,-,e1,e2⟩ | ⟨-,-,-,e1,e2⟩
  · exact .inl ⟨e1,e2⟩
  · exact .inr ⟨e1,e2⟩
 have t2:(au p b).getD m aB=n.pt/\(au p b).getD (m+1) aB=dJ p d2\/(au p b).getD (m+1) aB=n.pt/\(au p b).getD m aB=dJ p d2:=by
  rcases s2 with ⟨-,-,-,e1,e2⟩ | ⟨-,-,-,e1,e2⟩
  · exact .inl ⟨e1,e2⟩
  · exact .inr ⟨e1,e2⟩
 have r12:=key h1 h2 c1 c2 t1 t2;have r21:=key h2 h1 c2 c1 t2 t1;by_cases hab:a=b
 ·subst hab;have hl:=fJ p a;have same:∀ {d3 d4:Int} {i j:Nat},d3≠d4->((d3=a.id/\i=0/\a.fr=n.id)\/(d3=-a.id/\i=a.via.length/\a.dst=n.id))->((d4=a.id/\j=0/\a.fr=n.id)\/(d4=-a.id/\j=a.via.length/\a.dst=n.id))->ig (bQ p a i).a (bQ p a i).b (bQ p a j).a (bQ p a j).b=2->i<j->False:=by
   intro d3 d4 i j hne z1 z2 z3 z4;rcases z1 with ⟨y1,y2,y3⟩ | ⟨y1,y2,y3⟩
   ·rcases z2 with ⟨x1,x2,x3⟩ | ⟨x1,x2,x3⟩
    · omega
    ·have h4:=(h.distinct ha (k:=i) (by omega)).2 (y3.trans x3.symm);have hap:=h.tY.2.1 a ha i j z4 (by omega);unfold Ci at hap;rw [z3] at hap;split at hap
     · simp at hap
     · simp at hap
   ·rcases z2 with ⟨x1,x2,x3⟩ | ⟨x1,x2,x3⟩
    · omega
    · omega
  have q1:(d1=a.id/\k=0/\a.fr=n.id)\/(d1=-a.id/\k=a.via.length/\a.dst=n.id):=by
   rcases s1 with ⟨y1,y2,y3,-⟩ | ⟨y1,y2,y3,-⟩
   · exact .inl ⟨y1,y2,y3⟩
   · exact .inr ⟨y1,y2,y3⟩
  have q2:(d2=a.id/\m=0/\a.fr=n.id)\/(d2=-a.id/\m=a.via.length/\a.dst=n.id):=by
   rcases s2 with ⟨y1,y2,y3,-⟩ | ⟨y1,y2,y3,-⟩
   · exact .inl ⟨y1,y2,y3⟩
   · exact .inr ⟨y1,y2,y3⟩
  rcases Nat.lt_trichotomy k m with hkm | hkm | hkm
  · exact same hne q1 q2 r12 hkm
  ·subst hkm;have hd4:=h.distinct ha hk;rcases q1 with ⟨y1,y2,y3⟩ | ⟨y1,y2,y3⟩
   ·rcases q2 with ⟨x1,x2,x3⟩ | ⟨x1,x2,x3⟩
    · exact hne (y1.trans x1.symm)
    · have:=hd4.2 (y3.trans x3.symm);omega
   ·rcases q2 with ⟨x1,x2,x3⟩ | ⟨x1,x2,x3⟩
    · have:=hd4.2 (x3.trans y3.symm);omega
    · exact hne (y1.trans x1.symm)
  · exact same (fun e=>hne e.symm) q2 q1 r21 hkm
 ·have hp:=h.tY.2.2;obtain ⟨i,hi,rfl⟩:=List.mem_iff_getElem.1 ha;obtain ⟨j,hj,rfl⟩:=List.mem_iff_getElem.1 hb;rw [List.pairwise_iff_getElem] at hp;have no2:∀ {s t:Sg},sH p s t=true->ig s.a s.b t.a t.b=2->False:=by
   intro s t hj2 h2;unfold sH at hj2;rw [h2] at hj2;simp at hj2
  rcases Nat.lt_trichotomy i j with hij | hij | hij
  · exact no2 (hp i j hi hj hij k hk m hm) r12
  · subst hij;exact hab rfl
  · exact no2 (hp j i hj hi hij m hm k hk) r21
end
def AZ (lt:Int->Int->Bool) (l:List Int) (c:Int):List Int:=l.takeWhile (fun x=>!lt c x)++c::l.dropWhile (fun x=>!lt c x)
def sortB (lt:Int->Int->Bool) (l:List Int):List Int:=l.foldl (AZ lt) []
theorem Xq (lt:Int->Int->Bool) (l:List Int) (c:Int):(AZ lt l c).Perm (c::l):=by
 unfold AZ;refine List.perm_middle.trans ?_;rw [List.takeWhile_append_dropWhile]
structure Hu (lt:Int->Int->Bool) (D:List Int):Prop where
 asym:∀ x∈D,∀ y∈D,lt x y=true->lt y x=false
 Xr:∀ x∈D,∀ y∈D,∀ z∈D,lt x y=false->lt y z=false->lt x z=false
 tri:∀ x∈D,∀ y∈D,lt x y=false->lt y x=false->x=y
theorem ak1 {lt:Int->Int->Bool} {D:List Int} (ho:Hu lt D) {l:List Int} (h:l.Pairwise (fun a b=>lt b a=false)) (hl:∀ x∈l,x∈D) {c:Int} (hc:c∈D):(AZ lt l c).Pairwise (fun a b=>lt b a=false):=by
 induction l with
 | nil=>simp [AZ]
 | cons a l ih =>
  have h':=List.pairwise_cons.1 h;have ha:=hl a List.mem_cons_self;unfold AZ
  cases hca:lt c a
  ·have e1:(a::l).takeWhile (fun x=>!lt c x)=a::l.takeWhile (fun x=>!lt c x):=by rw [List.takeWhile_cons];simp [hca]
   have e2:(a::l).dropWhile (fun x=>!lt c x)=l.dropWhile (fun x=>!lt c x):=by rw [List.dropWhile_cons];simp [hca]
   rw [e1,e2]
   show List.Pairwise _ (a::AZ lt l c)
   refine List.pairwise_cons.2 ⟨fun x hx=>?_,ih h'.2 (fun x hx=>hl x (List.mem_cons_of_mem _ hx))⟩;rcases List.mem_cons.1 ((Xq lt l c).subset hx) with rfl | hx
   · exact hca
   · exact h'.1 x hx
  ·have e1:(a::l).takeWhile (fun x=>!lt c x)=[]:=by rw [List.takeWhile_cons];simp [hca]
   have e2:(a::l).dropWhile (fun x=>!lt c x)=a::l:=by rw [List.dropWhile_cons];simp [hca]
   rw [e1,e2,List.nil_append];refine List.pairwise_cons.2 ⟨fun x hx=>?_,h⟩;have h1:=ho.asym c hc a ha hca;rcases List.mem_cons.1 hx with rfl | hx'
   · exact h1
   · exact ho.Xr x (hl x hx) a ha c hc (h'.1 x hx') h1
theorem adB {lt:Int->Int->Bool} {D:List Int} (ho:Hu lt D):∀ (l acc:List Int),acc.Pairwise (fun a b=>lt b a=false)->(∀ x∈l,x∈D)->(∀ x∈acc,x∈D)->(l.foldl (AZ lt) acc).Perm (acc++l)/\(l.foldl (AZ lt) acc).Pairwise (fun a b=>lt b a=false)
 | [],acc,h,_,_=>by simpa using h
 | c::l,acc,h,hl,ha=>by
  have hc:=hl c List.mem_cons_self;have:=adB ho l (AZ lt acc c) (ak1 ho h ha hc) (fun x hx=>hl x (List.mem_cons_of_mem _ hx)) (fun x hx=>by
   rcases List.mem_cons.1 ((Xq lt acc c).subset hx) with rfl | hx
   · exact hc
   · exact ha x hx)
  refine ⟨this.1.trans ?_,this.2⟩;refine ((Xq lt acc c).append_right l).trans ?_;rw [List.cons_append];exact List.perm_middle.symm
theorem RN {lt:Int->Int->Bool} {D:List Int} (ho:Hu lt D):(sortB lt D).Perm D/\(sortB lt D).Pairwise (fun a b=>lt b a=false):=by
 have:=adB ho D [] List.Pairwise.nil (fun x hx=>hx) (fun x hx=>by cases hx)
 simpa [sortB] using this
theorem ak2 {lt:Int->Int->Bool} {D m:List Int} (ho:Hu lt D) (hp:m.Perm D) (hs:m.Pairwise (fun a b=>lt b a=false)):m=sortB lt D:=by
 obtain ⟨h1,h2⟩:=RN ho;exact JY (hp.trans h1.symm) hs h2 (fun a ha b hb=>ho.tri a (hp.subset ha) b (hp.subset hb))
def ltD (p:Pl) (o:Pt) (d e:Int):Bool:=wS o (dJ p d) (dJ p e)
def dB (p:Pl) (n:Int):List Int:=match mJ p.nodes n with
 | none=>[]
 | some x=>sortB (ltD p x.pt) (dL p.ah n)
def precD (l:List Int) (d:Int):Int:=match l.findIdx? (fun x=>x == d) with
 | none=>0
 | some i=>l.getD ((i+l.length-1) % l.length) 0
def fU (p:Pl) (d:Int):Int:=if (iC p d).isSome then precD (dB p (lD p (-d))) (-d) else 0
def aY (p:Pl):List (List Int):=Xk (fU p) (aQ p) (aQ p)
section
variable {p:Pl} (h:Valid p)
include h
theorem Valid.RP {n:Nd} (hn:n∈p.nodes):Hu (ltD p n.pt) (dL p.ah n.id):=by
 have key:∀ d∈dL p.ah n.id,∀ e∈dL p.ah n.id,(ltD p n.pt d e=true↔dV n.pt (dJ p d) (dJ p e)):=fun d hd e he=>by
  obtain ⟨n0,n1,x1⟩:=h.Hg hn hd;obtain ⟨-,n2,x2⟩:=h.Hg hn he;unfold ltD;rw [acs];exact ⟨fun h=>h.2.2.2,fun h=>⟨by simp [fH,n0,n1,n2],x1,x2,h⟩⟩
 have J4:∀ d∈dL p.ah n.id,∀ e∈dL p.ah n.id,(ltD p n.pt d e=false↔¬ dV n.pt (dJ p d) (dJ p e)):=fun d hd e he=>by
  rw [<- key d hd e he,Bool.not_eq_true]
 have nz:∀ d∈dL p.ah n.id,¬ ((dJ p d).x-n.pt.x=0/\(dJ p d).y-n.pt.y=0):=fun d hd=>WM.1 (h.Hg hn hd).2.2;refine ⟨fun x hx y hy h1=>?_,fun x hx y hy z hz h1 h2=>?_,fun x hx y hy h1 h2=>?_⟩
 ·rw [J4 y hy x hx];rw [key x hx y hy] at h1;exact fun h2=>ajB _ _ (ajD (nz x hx) (nz y hy) (nz x hx) h1 h2)
 ·rw [J4 x hx y hy] at h1;rw [J4 y hy z hz] at h2;rw [J4 x hx z hz];exact ajE (nz x hx) (nz y hy) (nz z hz) h1 h2
 ·rw [J4 x hx y hy] at h1;rw [J4 y hy x hx] at h2;rcases Decidable.em (x=y) with e | e
  · exact e
  ·rcases h.dirs hn hx hy e with h3 | h3
   · exact absurd h3 h1
   · exact absurd h3 h2
theorem Valid.ak3 {n:Nd} (hn:n∈p.nodes):mJ p.nodes n.id=some n:=Ro (fun x:Nd=>x.id) p.nodes h.sound.nodes n hn
theorem Valid.Xt {n:Nd} (hn:n∈p.nodes):dB p n.id=sortB (ltD p n.pt) (dL p.ah n.id):=by
 unfold dB;rw [h.ak3 hn]
theorem Valid.oV {n:Nd} (hn:n∈p.nodes):(dB p n.id).Perm (dL p.ah n.id):=by
 rw [h.Xt hn];exact (RN (h.RP hn)).1
theorem Valid.adD {n:Int}:(dL p.ah n).Nodup:=by
 have hs:=h.sound.ah;rw [List.pairwise_map] at hs;have hpos:∀ a∈p.ah,1<=a.id:=fun a ha=>(h.jC ha).1;unfold dL List.Nodup;rw [List.pairwise_flatMap];refine ⟨fun a ha=>?_,?_⟩
 ·have:=hpos a ha
  split<;>split<;>simp<;>omega
 ·have hs2:p.ah.Pairwise (fun a b=>1<=a.id/\1<=b.id/\a.id<b.id):=by
   rw [List.pairwise_iff_getElem] at hs ⊢;exact fun i j hi hj hij=>⟨hpos _ (List.getElem_mem hi),hpos _ (List.getElem_mem hj),hs i j hi hj hij⟩
  refine hs2.imp ?_;rintro a b ⟨h1,h2,h3⟩ x hx y hy;have hx':x=a.id\/x=-a.id:=by
   rcases List.mem_append.1 hx with hx | hx
   ·split at hx
    · exact .inl (List.mem_singleton.1 hx)
    · cases hx
   ·split at hx
    · exact .inr (List.mem_singleton.1 hx)
    · cases hx
  have hy':y=b.id\/y=-b.id:=by
   rcases List.mem_append.1 hy with hy | hy
   ·split at hy
    · exact .inl (List.mem_singleton.1 hy)
    · cases hy
   ·split at hy
    · exact .inr (List.mem_singleton.1 hy)
    · cases hy
  omega
theorem Valid.RQ:(aQ p).Pairwise (· < ·):=by
 have hs:=h.sound.ah;have hpos:∀ a∈p.ah,1<=a.id:=fun a ha=>(h.jC ha).1;unfold aQ;rw [List.pairwise_append];refine ⟨?_,hs,fun x hx y hy=>?_⟩
 ·rw [List.pairwise_reverse,List.pairwise_map];rw [List.pairwise_map] at hs;exact hs.imp (fun h=>by omega)
 ·rw [List.mem_reverse,List.mem_map] at hx;obtain ⟨a,ha,rfl⟩:=hx;obtain ⟨b,hb,rfl⟩:=List.mem_map.1 hy;have:=hpos a ha;have:=hpos b hb
  omega
end
theorem ak4 {l:List Int} (hl:l.Nodup) {i:Nat} (hi:i<l.length):l.findIdx? (fun x=>x == l[i])=some i:=by
 rw [List.findIdx?_eq_some_iff_getElem];refine ⟨hi,by simp,fun j hj=>?_⟩;rw [List.Nodup,List.pairwise_iff_getElem] at hl;have:=hl j i (by omega) hi hj
 simpa using this
theorem J5 {l:List Int} (hl:l.Nodup) {i:Nat} (hi:i<l.length):precD l l[i]=l[(i+l.length-1) % l.length]'(Nat.mod_lt _ (by omega)):=by
 unfold precD;rw [ak4 hl hi];simp only [];rw [List.getD_eq_getElem?_getD,List.getElem?_eq_getElem (Nat.mod_lt _ (by omega))];rfl
theorem ak5 {l:List Int} (hl:l.Nodup) {d:Int} (hd:d∈l):precD l d∈l:=by
 obtain ⟨i,hi,rfl⟩:=List.mem_iff_getElem.1 hd;rw [J5 hl hi];exact List.getElem_mem _
theorem ak6 {i j n:Nat} (hi:i<n) (hj:j<n) (h:(i+n-1) % n=(j+n-1) % n):i=j:=by
 have key:∀ k,k<n->(k+n-1) % n=if k=0 then n-1 else k-1:=fun k hk=>by
  split
  · subst k;rw [Nat.mod_eq_of_lt (by omega)];omega
  · rw [show k+n-1=(k-1)+n by omega,Nat.add_mod_right,Nat.mod_eq_of_lt (by omega)]
 rw [key i hi,key j hj] at h;split at h<;>split at h<;>omega
theorem ak7 {l:List Int} (hl:l.Nodup) {d e:Int} (hd:d∈l) (he:e∈l) (h:precD l d=precD l e):d=e:=by
 obtain ⟨i,hi,rfl⟩:=List.mem_iff_getElem.1 hd;obtain ⟨j,hj,rfl⟩:=List.mem_iff_getElem.1 he;rw [J5 hl hi,J5 hl hj] at h;have hl':=hl;rw [List.Nodup,List.pairwise_iff_getElem] at hl';have e:(i+l.length-1) % l.length=(j+l.length-1) % l.length:=by
  rcases Nat.lt_trichotomy ((i+l.length-1) % l.length) ((j+l.length-1) % l.length) with h1 | h1 | h1
  · exact absurd h (hl' _ _ _ _ h1)
  · exact h1
  · exact absurd h.symm (hl' _ _ _ _ h1)
 have:=ak6 hi hj e
 subst this;rfl
theorem Bf {p:Pl} {d:Int} (hd:d∈aQ p):-d∈aQ p:=by
 obtain ⟨a,ha,e⟩:=jD.1 hd;refine jD.2 ⟨a,ha,?_⟩;rcases e with rfl | rfl
 · exact .inr rfl
 · exact .inl (Int.neg_neg _)
section
variable {p:Pl} (h:Valid p)
include h
theorem Valid.adE {d:Int} (hd:d∈aQ p):(iC p d).isSome=true:=by
 obtain ⟨a,ha,e⟩:=jD.1 hd;rcases e with rfl | rfl
 · rw [h.RI ha];rfl
 · rw [h.Xo ha];rfl
theorem Valid.adF {d:Int} (hd:d∈aQ p):∃ n∈p.nodes,n.id=lD p d/\d∈dL p.ah n.id:=by
 obtain ⟨a,ha,e⟩:=jD.1 hd;rcases e with rfl | rfl
 ·obtain ⟨n,hn,e,-⟩:=h.sound.yw ha;exact ⟨n,hn,by rw [h.RJ ha,e],wZ.2 ⟨a,ha,.inl ⟨rfl,e.symm⟩⟩⟩
 ·obtain ⟨n,hn,e,-⟩:=h.sound.zu ha;exact ⟨n,hn,by rw [h.NR ha,e],wZ.2 ⟨a,ha,.inr ⟨rfl,e.symm⟩⟩⟩
theorem Valid.Hw {n d:Int} (hd:d∈dL p.ah n):d∈aQ p/\lD p d=n:=by
 obtain ⟨a,ha,e⟩:=wZ.1 hd;rcases e with ⟨rfl,e⟩ | ⟨rfl,e⟩
 · exact ⟨jD.2 ⟨a,ha,.inl rfl⟩,by rw [h.RJ ha,e]⟩
 · exact ⟨jD.2 ⟨a,ha,.inr rfl⟩,by rw [h.NR ha,e]⟩
theorem Valid.Hy {n:Nd} (hn:n∈p.nodes):(dB p n.id).Nodup:=(h.oV hn).nodup_iff.2 h.adD
theorem Valid.J6 {d:Int} (hd:d∈aQ p):∃ n∈p.nodes,n.id=lD p (-d)/\-d∈dB p n.id/\fU p d=precD (dB p n.id) (-d):=by
 obtain ⟨n,hn,e,hm⟩:=h.adF (Bf hd);refine ⟨n,hn,e,(h.oV hn).symm.subset hm,?_⟩;unfold fU;rw [if_pos (h.adE hd),e]
theorem Valid.uf {d:Int} (hd:d∈aQ p):fU p d∈aQ p/\lD p (fU p d)=lD p (-d):=by
 obtain ⟨n,hn,e,hm,hx⟩:=h.J6 hd;rw [hx];have h1:=ak5 (h.Hy hn) hm;have h2:=h.Hw ((h.oV hn).subset h1);exact ⟨h2.1,by rw [h2.2,e]⟩
theorem Valid.CV {d e:Int} (hd:d∈aQ p) (he:e∈aQ p) (hx:fU p d=fU p e):d=e:=by
 obtain ⟨n,hn,e1,m1,x1⟩:=h.J6 hd;obtain ⟨m,hm,e2,m2,x2⟩:=h.J6 he;have hs:=(h.uf hd).2;rw [hx,(h.uf he).2,<- e2,<- e1] at hs;rw [x1,x2,hs] at hx;rw [hs] at m2;have:=ak7 (h.Hy hn) m1 m2 hx
 omega
theorem Valid.EM:(aQ p).Nodup:=h.RQ.imp (fun h=>by omega)
theorem Valid.iJ:qO (fU p) (aQ p) (aQ p) (aY p) :=
 ak0 (fun x hx=>(h.uf hx).1) (fun x hx y hy=>h.CV hx hy) h.RQ
theorem Valid.Xu:(aY p).flatten.Perm (aQ p):=h.iJ.perm (fun x hx=>(h.uf hx).1) h.EM
theorem Valid.Xv:(p.nodes.flatMap fun n=>dB p n.id).Perm (aQ p):=by
 refine (List.perm_ext_iff_of_nodup ?_ h.EM).2 fun d=>?_
 ·unfold List.Nodup;rw [List.pairwise_flatMap];refine ⟨fun n hn=>h.Hy hn,?_⟩;have hs:=h.sound.nodes;rw [List.pairwise_map] at hs;rw [List.pairwise_iff_getElem] at hs ⊢;intro i j hi hj hij x hx y hy e;subst e;have h1:=(h.Hw ((h.oV (List.getElem_mem hi)).subset hx)).2;have h2:=(h.Hw ((h.oV (List.getElem_mem hj)).subset hy)).2;have:=hs i j hi hj hij
  omega
 ·rw [List.mem_flatMap];constructor
  ·rintro ⟨n,hn,hd⟩;exact (h.Hw ((h.oV hn).subset hd)).1
  ·intro hd;obtain ⟨n,hn,-,hm⟩:=h.adF hd;exact ⟨n,hn,(h.oV hn).symm.subset hm⟩
end
theorem QN.form {w:World} {r:Option Ar} {e:Ending} {w':World} (h:QN w r e w'):∃ A c,e=.returned (.tuple #[.agg #[.int .i64 (r.getD nM).id,.int .i64 (r.getD nM).fr,.int .i64 (r.getD nM).dst,.slice A (r.getD nM).via.length c,.int .i64 (r.getD nM).left,.int .i64 (r.getD nM).right],.bool r.isSome])/\Below w.heap.size w w'/\gG w' (.slice A (r.getD nM).via.length c) (r.getD nM).via:=by
 obtain ⟨v',rfl,hb,hp⟩:=h;obtain ⟨A,c,rfl,h1,h2,h3⟩:=hp;exact ⟨A,c,rfl,hb,A,c,rfl,h1,h2,h3⟩
theorem adH {n:Int} (h:dP n):-9223372036854775808<=n/\n<=9223372036854775807:=by
 unfold dP Lit.wf at h;simp only [Bool.and_eq_true,decide_eq_true_eq] at h;have h1:IntKind.i64.min=-9223372036854775808:=by decide
 have h2:IntKind.i64.max=9223372036854775807:=by decide
 rw [h1,h2] at h;exact h
theorem ak8 {p:Pl} {d:Int} (h0:d≠0) (h1:d≠-9223372036854775808):findAr p.ah (max d (-d))=iC p d:=by
 unfold iC RG gV;rw [if_neg (by omega)];congr 1;split<;>omega
def ak9 (w:World) (r:Option Ar) (e:Ending) (w':World):Prop :=
 ∃ A n c,e=.returned (.tuple #[.agg #[.int .i64 (r.getD nM).id,.int .i64 (r.getD nM).fr,.int .i64 (r.getD nM).dst,.slice A n c,.int .i64 (r.getD nM).left,.int .i64 (r.getD nM).right],.bool r.isSome])/\Below w.heap.size w w'
set_option maxRecDepth 100000 in
set_option maxHeartbeats 4000000 in
theorem adI (v:Value) (p:Pl) (d:Int) (w:World) (h:dS w v p) (hs:GI p) (hd:dP d):Calls Tryz.prog 90 #[v,.int .i64 d] w (ak9 w (iC p d)):=by
 have TA:=fun W (hW:Below w.heap.size w W)=>ajA v p (max d (-d)) W (h.mono hW) hs;obtain ⟨_,_,_,al,rfl,hpa,⟨An,cn,rfl,-⟩,⟨⟨Aa,ca,rfl,-⟩,-⟩,⟨Af,cf,rfl,-⟩⟩:=h;generalize al.length=na at *;generalize p.nodes.length=nn at *;generalize p.faces.length=nf at *;clear hpa;by_cases h0:d=0
 ·subst h0;have hz:iC p 0=none:=by unfold iC;rw [if_pos (.inl rfl)]
  rw [hz];clear TA hz;go_enter Tryz.func90,Tryz.ntmps90;go_upto_region 1 with fail;obtain ⟨W,hW⟩:∃ W:World,W=(w.alloc (.cells #[.slice An nn cn,.slice Aa na ca,.slice Af nf cf] 26)).alloc (.cells #[.int .i64 0,.int .i64 0,.int .i64 0,.slice none 0 0,.int .i64 0,.int .i64 0] 50):=⟨_,rfl⟩;have Bw:Below w.heap.size w W:=by rw [hW];exact bA (bA (bR w) _) _
  have X4:aj W (w.heap.size+1) 50 #[.int .i64 0,.int .i64 0,.int .i64 0,.slice none 0 0,.int .i64 0,.int .i64 0]:=by rw [hW];exact aj.made (by simp) _ _
  rw [<- hW];clear hW;obtain ⟨cZ,dh,eF,jw,yc,Aj,Ak,eG,iY,lu,yg,Au,Aw⟩:=X4.kZ;go_wp2_with fail;refine su (g:=w.heap.size+1) (cs:=#[.int .i64 0,.int .i64 0,.int .i64 0,.slice none 0 0,.int .i64 0,.int .i64 0]) rfl Gi rfl rfl (aj.Gg X4) ⟨none,0,0,rfl,?_⟩
  repeat (first | with_reducible exact bR _ | with_reducible assumption | with_reducible refine bA ?_ _ | with_reducible refine bD ?_ | with_reducible refine bN ?_ _ | ((with_reducible refine bS ?_ ?_ _);rotate_left;(simp;try omega)) | ((with_reducible refine bT ?_ ?_);rotate_left;with_reducible assumption) | with_reducible refine bT ?_ (by assumption))
 by_cases h1:d=-9223372036854775808
 ·subst h1;have hz:iC p (-9223372036854775808)=none:=by unfold iC;rw [if_pos (.inr rfl)]
  rw [hz];clear TA hz h0;go_enter Tryz.func90,Tryz.ntmps90;go_upto_region 1 with fail;obtain ⟨W,hW⟩:∃ W:World,W=(w.alloc (.cells #[.slice An nn cn,.slice Aa na ca,.slice Af nf cf] 26)).alloc (.cells #[.int .i64 0,.int .i64 0,.int .i64 0,.slice none 0 0,.int .i64 0,.int .i64 0] 50):=⟨_,rfl⟩;have Bw:Below w.heap.size w W:=by rw [hW];exact bA (bA (bR w) _) _
  have X4:aj W (w.heap.size+1) 50 #[.int .i64 0,.int .i64 0,.int .i64 0,.slice none 0 0,.int .i64 0,.int .i64 0]:=by rw [hW];exact aj.made (by simp) _ _
  rw [<- hW];clear hW
  try clear cZ
  try clear dh
  try clear eF
  try clear jw
  try clear yc
  try clear Aj
  try clear Ak
  try clear eG
  try clear iY
  try clear lu
  try clear yg
  try clear Au
  try clear Aw
  obtain ⟨cZ,dh,eF,jw,yc,Aj,Ak,eG,iY,lu,yg,Au,Aw⟩:=X4.kZ;go_wp2_with fail;refine su (g:=w.heap.size+1) (cs:=#[.int .i64 0,.int .i64 0,.int .i64 0,.slice none 0 0,.int .i64 0,.int .i64 0]) rfl Gi rfl rfl (aj.Gg X4) ⟨none,0,0,rfl,?_⟩
  repeat (first | with_reducible exact bR _ | with_reducible assumption | with_reducible refine bA ?_ _ | with_reducible refine bD ?_ | with_reducible refine bN ?_ _ | ((with_reducible refine bS ?_ ?_ _);rotate_left;(simp;try omega)) | ((with_reducible refine bT ?_ ?_);rotate_left;with_reducible assumption) | with_reducible refine bT ?_ (by assumption))
 rw [ak8 h0 h1] at TA;have hb:=adH hd;have k1:IntKind.i64.wrap (-d)=-d:=IntWalk.i64_in _ (by omega);have e0:(d == 0)=false:=by simpa using h0
 have e1:(d == -9223372036854775808)=false:=by simpa using h1
 have HA:=Lib.hid TA;clear TA h0 h1 hd hb;generalize iC p d=r at *;go_enter Tryz.func90,Tryz.ntmps90;go_upto_region 1 with fail;obtain ⟨W,hW⟩:∃ W:World,W=(w.alloc (.cells #[.slice An nn cn,.slice Aa na ca,.slice Af nf cf] 26)).alloc (.cells #[.int .i64 0,.int .i64 0,.int .i64 0,.slice none 0 0,.int .i64 0,.int .i64 0] 50):=⟨_,rfl⟩;have Bw:Below w.heap.size w W:=by rw [hW];exact bA (bA (bR w) _) _
 have X4:aj W (w.heap.size+1) 50 #[.int .i64 0,.int .i64 0,.int .i64 0,.slice none 0 0,.int .i64 0,.int .i64 0]:=by rw [hW];exact aj.made (by simp) _ _
 have X2:aj W w.heap.size 26 #[.slice An nn cn,.slice Aa na ca,.slice Af nf cf]:=by rw [hW];exact (aj.made rfl _ _).alloc _
 rw [<- hW];clear hW;obtain ⟨gI,gJ,iq,iZ,-,-,-⟩:=X2.bC;go_wp2_with fail;refine (HA.out _ Bw).mono ?_;intro e w1 har;obtain ⟨A1,c1,rfl,hb1,-⟩:=har.form;have Bw:=bT Bw hb1;replace X4:=X4.keep hb1;clear har hb1 X2 gI gJ iq iZ
 try clear cZ
 try clear dh
 try clear eF
 try clear jw
 try clear yc
 try clear Aj
 try clear Ak
 try clear eG
 try clear iY
 try clear lu
 try clear yg
 try clear Au
 try clear Aw
 obtain ⟨cZ,dh,eF,jw,yc,Aj,Ak,eG,iY,lu,yg,Au,Aw⟩:=X4.kZ;generalize hvl:(r.getD nM).via.length=vl at *;go_wp2_with fail;refine su (g:=w.heap.size+1) (cs:=#[.int .i64 (r.getD nM).id,.int .i64 (r.getD nM).fr,.int .i64 (r.getD nM).dst,.slice A1 vl c1,.int .i64 (r.getD nM).left,.int .i64 (r.getD nM).right]) rfl Gi rfl rfl (aj.Gg X4) ⟨A1,vl,c1,rfl,?_⟩
 repeat (first | with_reducible exact bR _ | with_reducible assumption | with_reducible refine bA ?_ _ | with_reducible refine bD ?_ | with_reducible refine bN ?_ _ | ((with_reducible refine bS ?_ ?_ _);rotate_left;(simp;try omega)) | ((with_reducible refine bT ?_ ?_);rotate_left;with_reducible assumption) | with_reducible refine bT ?_ (by assumption))
set_option maxRecDepth 100000 in
set_option maxHeartbeats 4000000 in
theorem adJ (v:Value) (p:Pl) (d:Int) (w:World) (h:dS w v p) (hs:GI p) (hd:dP d):Calls Tryz.prog 33 #[v,.int .i64 d] w fun e w'=>e=.returned (.int .i64 (jd p d))/\Below w.heap.size w w':=by
 have HA:=Lib.hid (fun W (hW:Below w.heap.size w W)=>adI v p d W (h.mono hW) hs hd);obtain ⟨_,_,_,al,rfl,hpa,⟨An,cn,rfl,-⟩,⟨⟨Aa,ca,rfl,-⟩,-⟩,⟨Af,cf,rfl,-⟩⟩:=h;unfold jd;generalize iC p d=r at *;generalize al.length=na at *;generalize p.nodes.length=nn at *;generalize p.faces.length=nf at *;clear hpa hd hs;go_enter Tryz.func33,Tryz.ntmps33;go_wp2_with fail;refine (HA.out _ (bA (bR w) _)).mono ?_;rintro e w1 ⟨A1,n1,c1,rfl,hb1⟩;have B1:=Lib.hid (bT (bA (bR w) _) hb1);clear hb1 HA
 cases r with
 | none =>
  simp only [Option.isSome_none];go_wp2_with fail;go_ret;exact ⟨rfl,bA B1.out _⟩
 | some a =>
  simp only [Option.isSome_some,Option.getD_some];by_cases hp:0<d
  ·go_wp2_with fail;go_ret;exact ⟨fA (by first | rfl | simp [hp]),bA B1.out _⟩
  ·go_wp2_with fail;go_ret;exact ⟨fA (by first | rfl | simp [hp]),bA B1.out _⟩
def sV (a b:Pt):Int:=a.x*b.y-b.x*a.y
def ug (P:List Pt):Nat->Int
 | 0=>0
 | k+1=>ug P k+sV (P.getD k aB) (P.getD (k+1) aB)
def Bg (P:List Pt):Int:=ug P (P.length-1)
def uh (p:Pl) (d:Int):Int:=match iC p d with
 | none=>0
 | some a=>if 0<d then Bg (au p a) else -Bg (au p a)
def uj (p:Pl) (l:List Int):Nat->Int
 | 0=>0
 | k+1=>uj p l k+uh p (l.getD k 0)
def CW (p:Pl) (l:List Int):Int:=if l.length<=512/\(∀ d∈l,(iC p d).isSome=true) then uj p l l.length else 0
def oW (p:Pt):Prop:=(-1048576<=p.x/\p.x<=1048576)/\(-1048576<=p.y/\p.y<=1048576)
theorem RS {u v:Int} (hu:-1048576<=u/\u<=1048576) (hv:-1048576<=v/\v<=1048576):-1099511627776<=u*v/\u*v<=1099511627776:=by
 have:=Gs u v 1048576 hu.1 hu.2 hv.1 hv.2
 simpa using this
theorem ala {a b:Pt} (ha:oW a) (hb:oW b):-2199023255552<=sV a b/\sV a b<=2199023255552:=by
 have h1:=RS ha.1 hb.2;have h2:=RS hb.1 ha.2;unfold sV;omega
theorem alb {P:List Pt} (h:∀ q∈P,oW q) (k:Nat) (hk:k+1<=P.length\/k=0):-(2199023255552*(k:Int))<=ug P k/\ug P k<=2199023255552*(k:Int):=by
 induction k with
 | zero=>simp [ug]
 | succ k ih =>
  have ih:=ih (by omega);have g:∀ j,j<P.length->oW (P.getD j aB):=fun j hj=>by
   rw [List.getD_eq_getElem?_getD,List.getElem?_eq_getElem hj];exact h _ (List.getElem_mem hj)
  have:=ala (g k (by omega)) (g (k+1) (by omega))
  rw [ug];omega
theorem adK {q:Pt} (h:qL q=true):oW q:=by
 unfold qL at h;simp only [Bool.and_eq_true,decide_eq_true_eq] at h;unfold oW;omega
theorem Xw {p:Pl} {d:Int} {a:Ar} (e:iC p d=some a):a∈p.ah/\gV d=a.id:=by
 unfold iC at e;split at e
 · cases e
 · exact ⟨List.mem_of_find?_eq_some e,by have:=List.find?_some e;exact (show a.id=gV d by simpa using this).symm⟩
section
variable {p:Pl} (h:Valid p)
include h
theorem Valid.Xx {a:Ar} (ha:a∈p.ah) {q:Pt} (hq:q∈au p a):oW q:=by
 have hr:=h.rng;unfold wQ at hr;simp only [Bool.and_eq_true,List.all_eq_true] at hr;have key:∀ q∈Az p,oW q:=fun q hq=>adK (hr.2 q hq);unfold au at hq;rcases List.mem_cons.1 hq with rfl | hq
 ·obtain ⟨n,hn,-,e⟩:=h.sound.yw ha;rw [e];exact key _ (List.mem_append_left _ (List.mem_map_of_mem hn))
 ·rcases List.mem_append.1 hq with hq | hq
  · exact key _ (List.mem_append_right _ (List.mem_flatMap.2 ⟨a,ha,hq⟩))
  ·rw [List.mem_singleton] at hq;subst hq;obtain ⟨n,hn,-,e⟩:=h.sound.zu ha;rw [e];exact key _ (List.mem_append_left _ (List.mem_map_of_mem hn))
theorem Valid.Bh {a:Ar} (ha:a∈p.ah):a.via.length<=64:=by
 have hl:=h.lim;unfold nN at hl;rw [Bool.or_eq_false_iff,List.any_eq_false] at hl;have:=hl.1 a ha
 simpa using this
theorem Valid.adL {a:Ar} (ha:a∈p.ah) (k:Nat) (hk:k+1<=(au p a).length):-142936511610880<=ug (au p a) k/\ug (au p a) k<=142936511610880:=by
 have h1:=alb (P:=au p a) (fun q hq=>h.Xx ha hq) k (.inl hk);have h2:=h.Bh ha;have h3:=fJ p a;omega
theorem Valid.alc (d:Int):-142936511610880<=uh p d/\uh p d<=142936511610880:=by
 unfold uh
 cases e:iC p d with
 | none=>simp
 | some a =>
  have ha:=(Xw e).1;have h3:=fJ p a;have:=h.adL ha ((au p a).length-1) (by omega)
  unfold Bg;simp only [];split<;>omega
theorem Valid.ald (l:List Int) (k:Nat):-(142936511610880*(k:Int))<=uj p l k/\uj p l k<=142936511610880*(k:Int):=by
 induction k with
 | zero=>simp [uj]
 | succ k ih =>
  have:=h.alc (l.getD k 0)
  rw [uj];omega
end
end Go.Proofs.YtialfdomhoojiaaGreat
