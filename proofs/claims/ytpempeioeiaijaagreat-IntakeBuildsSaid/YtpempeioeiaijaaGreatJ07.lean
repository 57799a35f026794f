import Derived.Test.YtpempeioeiaijaaGreatJ06
set_option linter.unusedSimpArgs false
set_option linter.unusedVariables false
set_option maxRecDepth 100000
set_option maxHeartbeats 8000000
namespace Go.Proofs.YtpempeioeiaijaaGreat
open Go.RowKit Tryz
def FD (d:Int):Int:=if d<0 then -d else d
def zT:Int:=-9223372036854775808
def Fb (p:Pl) (d:Int):Option Ar:=if d=0\/d=zT then none else findAr p.AQ (FD d)
def KR (p:Pl) (d:Int):Int:=match Fb p d with
 | none=>0
 | some a=>if 0<d then a.fr else a.dst
def Ib (p:Pl) (d:Int):Int:=match Fb p d with
 | none=>0
 | some a=>if 0<d then a.left else a.right
def Dn (l:List Ar) (n:Int):List Int:=l.flatMap fun a=>(if a.fr=n then [a.id] else [])++(if a.dst=n then [-a.id] else [])
def Dz (p:Pl) (d:Int):Pt:=match findAr p.AQ (FD d) with
 | none=>AY
 | some a=>if 0<d then (AV p a).getD 1 AY else (AV p a).getD a.via.length AY
def Bj (p:Pl):List Int:=(p.AQ.map (fun a=>-a.id)).reverse++p.AQ.map (·.id)
section
variable {p:Pl} (h:Valid p)
include h
theorem Valid.IQ {a:Ar} (ha:a∈p.AQ):1<=a.id/\a.id<=1073741824:=by
 have hr:=h.rng;unfold OG at hr;rw [ER] at hr;have h1:=hr.1;rw [QM,MB] at h1;have:=h1 a.id (SB _ (kJ _ (FZ ha)))
 unfold Jp at this;simp only [Ir,Dq,not_or] at this;omega
theorem Valid.aqN {n:Nd} (hn:n∈p.nodes):1<=n.id/\n.id<=1073741824:=by
 have hr:=h.rng;unfold OG at hr;rw [ER] at hr;have h1:=hr.1;rw [QM,MB] at h1;have:=h1 n.id (SB _ (SB _ (FZ hn)))
 unfold Jp at this;simp only [Ir,Dq,not_or] at this;omega
theorem Valid.find {a:Ar} (ha:a∈p.AQ):findAr p.AQ a.id=some a:=aa2 (fun x:Ar=>x.id) p.AQ h.sound.AQ a ha
theorem Valid.aic {a b:Ar} (ha:a∈p.AQ) (hb:b∈p.AQ) (e:a.id=b.id):a=b:=by
 have h1:=h.find ha;rw [e,h.find hb] at h1;exact (DV h1).symm
theorem Valid.fK {a:Ar} (ha:a∈p.AQ):Fb p a.id=some a:=by
 have:=h.IQ ha
 unfold Fb FD zT;rw [AX AA,AX AA,h.find ha]
theorem Valid.ni {a:Ar} (ha:a∈p.AQ):Fb p (-a.id)=some a:=by
 have:=h.IQ ha
 unfold Fb FD zT;rw [AX AA,AZ AA,OX,h.find ha]
theorem Valid.zU {a:Ar} (ha:a∈p.AQ):KR p a.id=a.fr:=by
 have:=h.IQ ha
 unfold KR;rw [h.fK ha]
 show (if 0<a.id then a.fr else a.dst)=a.fr
 rw [AZ AA]
theorem Valid.uX {a:Ar} (ha:a∈p.AQ):KR p (-a.id)=a.dst:=by
 have:=h.IQ ha
 unfold KR;rw [h.ni ha]
 show (if 0 < -a.id then a.fr else a.dst)=a.dst
 rw [AX AA]
theorem Valid.fM {a:Ar} (ha:a∈p.AQ):Dz p a.id=(AV p a).getD 1 AY:=by
 have:=h.IQ ha
 unfold Dz FD;rw [AX AA,h.find ha]
 show (if 0<a.id then _ else _)=_
 rw [AZ AA]
theorem Valid.bI {a:Ar} (ha:a∈p.AQ):Dz p (-a.id)=(AV p a).getD a.via.length AY:=by
 have:=h.IQ ha
 unfold Dz FD;rw [AZ AA,OX,h.find ha]
 show (if 0 < -a.id then _ else _)=_
 rw [AX AA]
end
theorem Qg {l:List Ar} {n d:Int}:d∈Dn l n↔∃ a∈l,(d=a.id/\a.fr=n)\/(d=-a.id/\a.dst=n):=by
 unfold Dn;rw [Ii];refine exists_congr fun a=>and_congr_right fun _=>?_;rw [GI];constructor
 ·rintro (h | h)
  ·split at h
   · rw [Eb] at h;exact .inl ⟨h,KX⟩
   · cases h
  ·split at h
   · rw [Eb] at h;exact .inr ⟨h,KX⟩
   · cases h
 ·rintro (⟨h1,h2⟩ | ⟨h1,h2⟩)
  · left;rw [AZ h2,h1];exact Eb.2 rfl
  · right;rw [AZ h2,h1];exact Eb.2 rfl
theorem J9 {p:Pl} {d:Int}:d∈Bj p↔∃ a∈p.AQ,d=a.id\/d=-a.id:=by
 unfold Bj;rw [GI,acY,Ez,Ez];constructor
 ·rintro (⟨a,ha,rfl⟩ | ⟨a,ha,rfl⟩)
  · exact ⟨a,ha,.inr rfl⟩
  · exact ⟨a,ha,.inl rfl⟩
 ·rintro ⟨a,ha,rfl | rfl⟩
  · exact .inr ⟨a,ha,rfl⟩
  · exact .inl ⟨a,ha,rfl⟩
section
variable {p:Pl} (h:Valid p)
include h
theorem Valid.aep {n:Nd} (hn:n∈p.nodes) {d:Int} (hd:d∈Dn p.AQ n.id):∃ a∈p.AQ,∃ k,k+1<(AV p a).length /\
  ((d=a.id/\k=0/\a.fr=n.id/\(AV p a).getD k AY=n.pt/\(AV p a).getD (k+1) AY=Dz p d)\/(d=-a.id/\k=a.via.length/\a.dst=n.id/\(AV p a).getD (k+1) AY=n.pt/\(AV p a).getD k AY=Dz p d)):=by
 obtain ⟨a,ha,h1⟩:=Qg.1 hd;have hl:=Fa p a;rcases h1 with ⟨rfl,h2⟩ | ⟨rfl,h2⟩
 ·refine ⟨a,ha,0,AA,.inl ⟨rfl,rfl,h2,?_,(h.fM ha).symm⟩⟩;rw [Vj,h2];exact h.sound.Py hn
 ·refine ⟨a,ha,a.via.length,AA,.inr ⟨rfl,rfl,h2,?_,(h.bI ha).symm⟩⟩;have:(AV p a).getD (a.via.length+1) AY=nodeAt p a.dst:=by
   unfold AV;rw [ace,Gm,List.getElem?_append_right AA];simp
  rw [this,h2];exact h.sound.Py hn
theorem Valid.fO {n:Nd} (hn:n∈p.nodes) {d:Int} (hd:d∈Dn p.AQ n.id):CJ n.pt=true/\CJ (Dz p d)=true/\Dz p d≠n.pt:=by
 obtain ⟨a,ha,k,hk,h1⟩:=h.aep hn hd;have n1:=h.Dh ha (k:=k) AA;have n2:=h.Dh ha (k:=k+1) hk;have hne:=(h.distinct ha hk).1;rcases h1 with ⟨-,-,-,e1,e2⟩ | ⟨-,-,-,e1,e2⟩
 · rw [e1] at n1 hne;rw [e2] at n2 hne;exact ⟨n1,n2,hne.symm⟩
 · rw [e1] at n2 hne;rw [e2] at n1 hne;exact ⟨n2,n1,hne⟩
theorem Valid.dirs {n:Nd} (hn:n∈p.nodes) {d1 d2:Int} (h1:d1∈Dn p.AQ n.id) (h2:d2∈Dn p.AQ n.id) (hne:d1≠d2):Ea n.pt (Dz p d1) (Dz p d2)\/Ea n.pt (Dz p d2) (Dz p d1):=by
 by_cases c1:Ea n.pt (Dz p d1) (Dz p d2)
 · exact .inl c1
 by_cases c2:Ea n.pt (Dz p d2) (Dz p d1)
 · exact .inr c2
 exfalso;have key:∀ {e1 e2:Int},e1∈Dn p.AQ n.id->e2∈Dn p.AQ n.id->¬ Ea n.pt (Dz p e1) (Dz p e2)->¬ Ea n.pt (Dz p e2) (Dz p e1)->∀ {a b:Ar} {k m:Nat},
   ((AV p a).getD k AY=n.pt/\(AV p a).getD (k+1) AY=Dz p e1\/(AV p a).getD (k+1) AY=n.pt/\(AV p a).getD k AY=Dz p e1) ->
   ((AV p b).getD m AY=n.pt/\(AV p b).getD (m+1) AY=Dz p e2\/(AV p b).getD (m+1) AY=n.pt/\(AV p b).getD m AY=Dz p e2) ->
   Fz (Dc p a k).a (Dc p a k).b (Dc p b m).a (Dc p b m).b=2:=by
  intro e1 e2 m1 m2 q1 q2 a b k m s1 s2;obtain ⟨n0,n1,x1⟩:=h.fO hn m1;obtain ⟨-,n2,x2⟩:=h.fO hn m2;obtain ⟨r1,r2,r3,r4⟩:=aiX n0 n1 n2 x1 x2 q1 q2;unfold Dc;rcases s1 with ⟨u1,u2⟩ | ⟨u1,u2⟩<;>rcases s2 with ⟨v1,v2⟩ | ⟨v1,v2⟩<;>simp only [u1,u2,v1,v2]
  · exact r1
  · exact r3
  · exact r2
  · exact r4
 obtain ⟨a,ha,k,hk,s1⟩:=h.aep hn h1;obtain ⟨b,hb,m,hm,s2⟩:=h.aep hn h2;have t1:(AV p a).getD k AY=n.pt/\(AV p a).getD (k+1) AY=Dz p d1\/(AV p a).getD (k+1) AY=n.pt/\(AV p a).getD k AY=Dz p d1:=by
  rcases s1 with ⟨-,-,-,e1,e2⟩ | ⟨-,-,-,e1,e2⟩
  · exact .inl ⟨e1,e2⟩
  · exact .inr ⟨e1,e2⟩
 have t2:(AV p b).getD m AY=n.pt/\(AV p b).getD (m+1) AY=Dz p d2\/(AV p b).getD (m+1) AY=n.pt/\(AV p b).getD m AY=Dz p d2:=by
  rcases s2 with ⟨-,-,-,e1,e2⟩ | ⟨-,-,-,e1,e2⟩
  · exact .inl ⟨e1,e2⟩
  · exact .inr ⟨e1,e2⟩
 have r12:=key h1 h2 c1 c2 t1 t2;have r21:=key h2 h1 c2 c1 t2 t1;by_cases hab:a=b
 ·subst hab;have hl:=Fa p a;have same:∀ {d3 d4:Int} {i j:Nat},d3≠d4->((d3=a.id/\i=0/\a.fr=n.id)\/(d3=-a.id/\i=a.via.length/\a.dst=n.id))->((d4=a.id/\j=0/\a.fr=n.id)\/(d4=-a.id/\j=a.via.length/\a.dst=n.id))->Fz (Dc p a i).a (Dc p a i).b (Dc p a j).a (Dc p a j).b=2->i<j->False:=by
   intro d3 d4 i j hne z1 z2 z3 z4;rcases z1 with ⟨y1,y2,y3⟩ | ⟨y1,y2,y3⟩
   ·rcases z2 with ⟨x1,x2,x3⟩ | ⟨x1,x2,x3⟩
    · omega
    ·have h4:=(h.distinct ha (k:=i) AA).2 (y3.trans x3.symm);have hap:=h.Qd.2.1 a ha i j z4 AA;unfold Rw at hap;rw [z3] at hap;split at hap
     · simp at hap
     · simp at hap
   ·rcases z2 with ⟨x1,x2,x3⟩ | ⟨x1,x2,x3⟩
    · omega
    · omega
  have q1:(d1=a.id/\k=0/\a.fr=n.id)\/(d1=-a.id/\k=a.via.length/\a.dst=n.id):=by
   rcases s1 with ⟨y1,y2,y3,-⟩ | ⟨y1,y2,y3,-⟩
   · exact .inl ⟨y1,y2,y3⟩
   · exact .inr ⟨y1,y2,y3⟩
  have q2:(d2=a.id/\m=0/\a.fr=n.id)\/(d2=-a.id/\m=a.via.length/\a.dst=n.id):=by
   rcases s2 with ⟨y1,y2,y3,-⟩ | ⟨y1,y2,y3,-⟩
   · exact .inl ⟨y1,y2,y3⟩
   · exact .inr ⟨y1,y2,y3⟩
  rcases QT k m with hkm | hkm | hkm
  · exact same hne q1 q2 r12 hkm
  ·subst hkm;have hd4:=h.distinct ha hk;rcases q1 with ⟨y1,y2,y3⟩ | ⟨y1,y2,y3⟩
   ·rcases q2 with ⟨x1,x2,x3⟩ | ⟨x1,x2,x3⟩
    · exact hne (y1.trans x1.symm)
    · have:=hd4.2 (y3.trans x3.symm);omega
   ·rcases q2 with ⟨x1,x2,x3⟩ | ⟨x1,x2,x3⟩
    · have:=hd4.2 (x3.trans y3.symm);omega
    · exact hne (y1.trans x1.symm)
  · exact same (fun e=>hne e.symm) q2 q1 r21 hkm
 ·have hp:=h.Qd.2.2;obtain ⟨i,hi,rfl⟩:=EF.1 ha;obtain ⟨j,hj,rfl⟩:=EF.1 hb;rw [G9] at hp;have no2:∀ {s t:Sg},Oh p s t=true->Fz s.a s.b t.a t.b=2->False:=by
   intro s t hj2 h2;unfold Oh at hj2;rw [h2] at hj2;simp at hj2
  rcases QT i j with hij | hij | hij
  · exact no2 (hp i j hi hj hij k hk m hm) r12
  · subst hij;exact hab rfl
  · exact no2 (hp j i hj hi hij m hm k hk) r21
end
def XI (lt:Int->Int->Bool) (l:List Int) (c:Int):List Int:=l.takeWhile (fun x=>!lt c x)++c::l.dropWhile (fun x=>!lt c x)
def sortB (lt:Int->Int->Bool) (l:List Int):List Int:=l.foldl (XI lt) []
theorem aer (lt:Int->Int->Bool) (l:List Int) (c:Int):(XI lt l c).Perm (c::l):=by
 unfold XI;refine List.perm_middle.trans ?_;rw [agw]
structure Xp (lt:Int->Int->Bool) (D:List Int):Prop where
 asym:∀ x∈D,∀ y∈D,lt x y=true->lt y x=false
 ntr:∀ x∈D,∀ y∈D,∀ z∈D,lt x y=false->lt y z=false->lt x z=false
 tri:∀ x∈D,∀ y∈D,lt x y=false->lt y x=false->x=y
theorem aqO {lt:Int->Int->Bool} {D:List Int} (ho:Xp lt D) {l:List Int} (h:l.Pairwise (fun a b=>lt b a=false)) (hl:∀ x∈l,x∈D) {c:Int} (hc:c∈D):(XI lt l c).Pairwise (fun a b=>lt b a=false):=by
 induction l with
 | nil=>simp [XI]
 | cons a l ih =>
  have h':=P8.1 h;have ha:=hl a JC;unfold XI
  cases hca:lt c a
  ·have e1:(a::l).takeWhile (fun x=>!lt c x)=a::l.takeWhile (fun x=>!lt c x):=by rw [List.takeWhile_cons];simp [hca]
   have e2:(a::l).dropWhile (fun x=>!lt c x)=l.dropWhile (fun x=>!lt c x):=by rw [List.dropWhile_cons];simp [hca]
   rw [e1,e2]
   show List.Pairwise _ (a::XI lt l c)
   refine P8.2 ⟨fun x hx=>?_,ih h'.2 (fun x hx=>hl x (LM _ hx))⟩;rcases FI.1 ((aer lt l c).subset hx) with rfl | hx
   · exact hca
   · exact h'.1 x hx
  ·have e1:(a::l).takeWhile (fun x=>!lt c x)=[]:=by rw [List.takeWhile_cons];simp [hca]
   have e2:(a::l).dropWhile (fun x=>!lt c x)=a::l:=by rw [List.dropWhile_cons];simp [hca]
   rw [e1,e2,OW];refine P8.2 ⟨fun x hx=>?_,h⟩;have h1:=ho.asym c hc a ha hca;rcases FI.1 hx with rfl | hx'
   · exact h1
   · exact ho.ntr x (hl x hx) a ha c hc (h'.1 x hx') h1
theorem aie {lt:Int->Int->Bool} {D:List Int} (ho:Xp lt D):∀ (l acc:List Int),acc.Pairwise (fun a b=>lt b a=false)->(∀ x∈l,x∈D)->(∀ x∈acc,x∈D)->(l.foldl (XI lt) acc).Perm (acc++l)/\(l.foldl (XI lt) acc).Pairwise (fun a b=>lt b a=false)
 | [],acc,h,_,_=>by simpa using h
 | c::l,acc,h,hl,ha=>by
  have hc:=hl c JC;have:=aie ho l (XI lt acc c) (aqO ho h ha hc) (fun x hx=>hl x (LM _ hx)) (fun x hx=>by
   rcases FI.1 ((aer lt acc c).subset hx) with rfl | hx
   · exact hc
   · exact ha x hx)
  refine ⟨this.1.trans ?_,this.2⟩;refine ((aer lt acc c).append_right l).trans ?_;rw [qc];exact List.perm_middle.symm
theorem fP {lt:Int->Int->Bool} {D:List Int} (ho:Xp lt D):(sortB lt D).Perm D/\(sortB lt D).Pairwise (fun a b=>lt b a=false):=by
 have:=aie ho D [] List.Pairwise.nil (fun x hx=>hx) (fun x hx=>by cases hx)
 simpa [sortB] using this
theorem aqP {lt:Int->Int->Bool} {D m:List Int} (ho:Xp lt D) (hp:m.Perm D) (hs:m.Pairwise (fun a b=>lt b a=false)):m=sortB lt D:=by
 obtain ⟨h1,h2⟩:=fP ho;exact nZ (hp.trans h1.symm) hs h2 (fun a ha b hb=>ho.tri a (hp.subset ha) b (hp.subset hb))
def ltD (p:Pl) (o:Pt) (d e:Int):Bool:=RJ o (Dz p d) (Dz p e)
def DT (p:Pl) (n:Int):List Int:=match Jm p.nodes n with
 | none=>[]
 | some x=>sortB (ltD p x.pt) (Dn p.AQ n)
def precD (l:List Int) (d:Int):Int:=match l.findIdx? (fun x=>x == d) with
 | none=>0
 | some i=>l.getD ((i+l.length-1) % l.length) 0
def FC (p:Pl) (d:Int):Int:=if (Fb p d).isSome then precD (DT p (KR p (-d))) (-d) else 0
def Cb (p:Pl):List (List Int):=aaC (FC p) (Bj p) (Bj p)
section
variable {p:Pl} (h:Valid p)
include h
theorem Valid.uY {n:Nd} (hn:n∈p.nodes):Xp (ltD p n.pt) (Dn p.AQ n.id):=by
 have key:∀ d∈Dn p.AQ n.id,∀ e∈Dn p.AQ n.id,(ltD p n.pt d e=true↔Ea n.pt (Dz p d) (Dz p e)):=fun d hd e he=>by
  obtain ⟨n0,n1,x1⟩:=h.fO hn hd;obtain ⟨-,n2,x2⟩:=h.fO hn he;unfold ltD;rw [adf];exact ⟨fun h=>h.2.2.2,fun h=>⟨by simp [EO,n0,n1,n2],x1,x2,h⟩⟩
 have o7:∀ d∈Dn p.AQ n.id,∀ e∈Dn p.AQ n.id,(ltD p n.pt d e=false↔¬ Ea n.pt (Dz p d) (Dz p e)):=fun d hd e he=>by
  rw [<- key d hd e he,IL]
 have nz:∀ d∈Dn p.AQ n.id,¬ ((Dz p d).x-n.pt.x=0/\(Dz p d).y-n.pt.y=0):=fun d hd=>rC.1 (h.fO hn hd).2.2;refine ⟨fun x hx y hy h1=>?_,fun x hx y hy z hz h1 h2=>?_,fun x hx y hy h1 h2=>?_⟩
 ·rw [o7 y hy x hx];rw [key x hx y hy] at h1;exact fun h2=>apP _ _ (apR (nz x hx) (nz y hy) (nz x hx) h1 h2)
 ·rw [o7 x hx y hy] at h1;rw [o7 y hy z hz] at h2;rw [o7 x hx z hz];exact apS (nz x hx) (nz y hy) (nz z hz) h1 h2
 ·rw [o7 x hx y hy] at h1;rw [o7 y hy x hx] at h2;rcases Decidable.em (x=y) with e | e
  · exact e
  ·rcases h.dirs hn hx hy e with h3 | h3
   · exact absurd h3 h1
   · exact absurd h3 h2
theorem Valid.aqQ {n:Nd} (hn:n∈p.nodes):Jm p.nodes n.id=some n:=aa2 (fun x:Nd=>x.id) p.nodes h.sound.nodes n hn
theorem Valid.zV {n:Nd} (hn:n∈p.nodes):DT p n.id=sortB (ltD p n.pt) (Dn p.AQ n.id):=by
 unfold DT;rw [h.aqQ hn]
theorem Valid.NI {n:Nd} (hn:n∈p.nodes):(DT p n.id).Perm (Dn p.AQ n.id):=by
 rw [h.zV hn];exact (fP (h.uY hn)).1
theorem Valid.aes {n:Int}:(Dn p.AQ n).Nodup:=by
 have hs:=h.sound.AQ;rw [IX] at hs;have hpos:∀ a∈p.AQ,1<=a.id:=fun a ha=>(h.IQ ha).1;unfold Dn List.Nodup;rw [yO];refine ⟨fun a ha=>?_,?_⟩
 ·have:=hpos a ha
  split<;>split<;>simp<;>omega
 ·have hs2:p.AQ.Pairwise (fun a b=>1<=a.id/\1<=b.id/\a.id<b.id):=by
   rw [G9] at hs ⊢;exact fun i j hi hj hij=>⟨hpos _ (BO hi),hpos _ (BO hj),hs i j hi hj hij⟩
  refine hs2.imp ?_;rintro a b ⟨h1,h2,h3⟩ x hx y hy;have hx':x=a.id\/x=-a.id:=by
   rcases GI.1 hx with hx | hx
   ·split at hx
    · exact .inl (Eb.1 hx)
    · cases hx
   ·split at hx
    · exact .inr (Eb.1 hx)
    · cases hx
  have hy':y=b.id\/y=-b.id:=by
   rcases GI.1 hy with hy | hy
   ·split at hy
    · exact .inl (Eb.1 hy)
    · cases hy
   ·split at hy
    · exact .inr (Eb.1 hy)
    · cases hy
  omega
theorem Valid.zW:(Bj p).Pairwise (· < ·):=by
 have hs:=h.sound.AQ;have hpos:∀ a∈p.AQ,1<=a.id:=fun a ha=>(h.IQ ha).1;unfold Bj;rw [dZ];refine ⟨?_,hs,fun x hx y hy=>?_⟩
 ·rw [List.pairwise_reverse,IX];rw [IX] at hs;exact hs.imp (fun h=>AA)
 ·rw [acY,Ez] at hx;obtain ⟨a,ha,rfl⟩:=hx;obtain ⟨b,hb,rfl⟩:=Ez.1 hy;have:=hpos a ha;have:=hpos b hb
  omega
end
theorem aqR {l:List Int} (hl:l.Nodup) {i:Nat} (hi:i<l.length):l.findIdx? (fun x=>x == l[i])=some i:=by
 rw [List.findIdx?_eq_some_iff_getElem];refine ⟨hi,Ah,fun j hj=>?_⟩;rw [List.Nodup,G9] at hl;have:=hl j i AA hi hj
 simpa using this
theorem fQ {l:List Int} (hl:l.Nodup) {i:Nat} (hi:i<l.length):precD l l[i]=l[(i+l.length-1) % l.length]'(Uh _ AA):=by
 unfold precD;rw [aqR hl hi];simp only [];rw [Gm,Di (Uh _ AA)];rfl
theorem aqS {l:List Int} (hl:l.Nodup) {d:Int} (hd:d∈l):precD l d∈l:=by
 obtain ⟨i,hi,rfl⟩:=EF.1 hd;rw [fQ hl hi];exact BO _
theorem aqT {i j n:Nat} (hi:i<n) (hj:j<n) (h:(i+n-1) % n=(j+n-1) % n):i=j:=by
 have key:∀ k,k<n->(k+n-1) % n=if k=0 then n-1 else k-1:=fun k hk=>by
  split
  · subst k;rw [WA AA];omega
  · rw [show k+n-1=(k-1)+n by omega,yN,WA AA]
 rw [key i hi,key j hj] at h;split at h<;>split at h<;>omega
theorem aqU {l:List Int} (hl:l.Nodup) {d e:Int} (hd:d∈l) (he:e∈l) (h:precD l d=precD l e):d=e:=by
 obtain ⟨i,hi,rfl⟩:=EF.1 hd;obtain ⟨j,hj,rfl⟩:=EF.1 he;rw [fQ hl hi,fQ hl hj] at h;have hl':=hl;rw [List.Nodup,G9] at hl';have e:(i+l.length-1) % l.length=(j+l.length-1) % l.length:=by
  rcases QT ((i+l.length-1) % l.length) ((j+l.length-1) % l.length) with h1 | h1 | h1
  · exact absurd h (hl' _ _ _ _ h1)
  · exact h1
  · exact absurd h.symm (hl' _ _ _ _ h1)
 have:=aqT hi hj e
 subst this;rfl
theorem Vm {p:Pl} {d:Int} (hd:d∈Bj p):-d∈Bj p:=by
 obtain ⟨a,ha,e⟩:=J9.1 hd;refine J9.2 ⟨a,ha,?_⟩;rcases e with rfl | rfl
 · exact .inr rfl
 · exact .inl (OX _)
section
variable {p:Pl} (h:Valid p)
include h
theorem Valid.aif {d:Int} (hd:d∈Bj p):(Fb p d).isSome=true:=by
 obtain ⟨a,ha,e⟩:=J9.1 hd;rcases e with rfl | rfl
 · rw [h.fK ha];rfl
 · rw [h.ni ha];rfl
theorem Valid.aeu {d:Int} (hd:d∈Bj p):∃ n∈p.nodes,n.id=KR p d/\d∈Dn p.AQ n.id:=by
 obtain ⟨a,ha,e⟩:=J9.1 hd;rcases e with rfl | rfl
 ·obtain ⟨n,hn,e,-⟩:=h.sound.XG ha;exact ⟨n,hn,by rw [h.zU ha,e],Qg.2 ⟨a,ha,.inl ⟨rfl,e.symm⟩⟩⟩
 ·obtain ⟨n,hn,e,-⟩:=h.sound.Xn ha;exact ⟨n,hn,by rw [h.uX ha,e],Qg.2 ⟨a,ha,.inr ⟨rfl,e.symm⟩⟩⟩
theorem Valid.fU {n d:Int} (hd:d∈Dn p.AQ n):d∈Bj p/\KR p d=n:=by
 obtain ⟨a,ha,e⟩:=Qg.1 hd;rcases e with ⟨rfl,e⟩ | ⟨rfl,e⟩
 · exact ⟨J9.2 ⟨a,ha,.inl rfl⟩,by rw [h.zU ha,e]⟩
 · exact ⟨J9.2 ⟨a,ha,.inr rfl⟩,by rw [h.uX ha,e]⟩
theorem Valid.bJ {n:Nd} (hn:n∈p.nodes):(DT p n.id).Nodup:=(h.NI hn).nodup_iff.2 h.aes
theorem Valid.o8 {d:Int} (hd:d∈Bj p):∃ n∈p.nodes,n.id=KR p (-d)/\-d∈DT p n.id/\FC p d=precD (DT p n.id) (-d):=by
 obtain ⟨n,hn,e,hm⟩:=h.aeu (Vm hd);refine ⟨n,hn,e,(h.NI hn).symm.subset hm,?_⟩;unfold FC;rw [AZ (h.aif hd),e]
theorem Valid.Q5 {d:Int} (hd:d∈Bj p):FC p d∈Bj p/\KR p (FC p d)=KR p (-d):=by
 obtain ⟨n,hn,e,hm,hx⟩:=h.o8 hd;rw [hx];have h1:=aqS (h.bJ hn) hm;have h2:=h.fU ((h.NI hn).subset h1);exact ⟨h2.1,by rw [h2.2,e]⟩
theorem Valid.XJ {d e:Int} (hd:d∈Bj p) (he:e∈Bj p) (hx:FC p d=FC p e):d=e:=by
 obtain ⟨n,hn,e1,m1,x1⟩:=h.o8 hd;obtain ⟨m,hm,e2,m2,x2⟩:=h.o8 he;have hs:=(h.Q5 hd).2;rw [hx,(h.Q5 he).2,<- e2,<- e1] at hs;rw [x1,x2,hs] at hx;rw [hs] at m2;have:=aqU (h.bJ hn) m1 m2 hx
 omega
theorem Valid.uZ:(Bj p).Nodup:=h.zW.imp (fun h=>AA)
theorem Valid.KT:Ov (FC p) (Bj p) (Bj p) (Cb p) :=
 aqM (fun x hx=>(h.Q5 hx).1) (fun x hx y hy=>h.XJ hx hy) h.zW
theorem Valid.aii:(Cb p).flatten.Perm (Bj p):=h.KT.perm (fun x hx=>(h.Q5 hx).1) h.uZ
theorem Valid.zZ:(p.nodes.flatMap fun n=>DT p n.id).Perm (Bj p):=by
 refine (acj ?_ h.uZ).2 fun d=>?_
 ·unfold List.Nodup;rw [yO];refine ⟨fun n hn=>h.bJ hn,?_⟩;have hs:=h.sound.nodes;rw [IX] at hs;rw [G9] at hs ⊢;intro i j hi hj hij x hx y hy e;subst e;have h1:=(h.fU ((h.NI (BO hi)).subset hx)).2;have h2:=(h.fU ((h.NI (BO hj)).subset hy)).2;have:=hs i j hi hj hij
  omega
 ·rw [Ii];constructor
  ·rintro ⟨n,hn,hd⟩;exact (h.fU ((h.NI hn).subset hd)).1
  ·intro hd;obtain ⟨n,hn,-,hm⟩:=h.aeu hd;exact ⟨n,hn,(h.NI hn).symm.subset hm⟩
end
theorem tJ.form {w:World} {r:Option Ar} {e:Ending} {w':World} (h:tJ w r e w'):∃ A c,e=.returned (.tuple #[.agg #[.int .i64 (r.getD MS).id,.int .i64 (r.getD MS).fr,.int .i64 (r.getD MS).dst,.slice A (r.getD MS).via.length c,.int .i64 (r.getD MS).left,.int .i64 (r.getD MS).right],.bool r.isSome])/\AU w w'/\CZ w' (.slice A (r.getD MS).via.length c) (r.getD MS).via:=by
 obtain ⟨v',rfl,hb,hp⟩:=h;obtain ⟨A,c,rfl,h1,h2,h3⟩:=hp;exact ⟨A,c,rfl,hb,A,c,rfl,h1,h2,h3⟩
theorem zf {n:Int} (h:F6 n):-9223372036854775808<=n/\n<=9223372036854775807:=by
 unfold F6 Lit.wf at h;simp only [ER,Dq] at h;have h1:IntKind.i64.min=-9223372036854775808:=by decide
 have h2:IntKind.i64.max=9223372036854775807:=by decide
 rw [h1,h2] at h;exact h
theorem aqV {p:Pl} {d:Int} (h0:d≠0) (h1:d≠-9223372036854775808):findAr p.AQ (max d (-d))=Fb p d:=by
 unfold Fb zT FD;rw [AX AA];congr 1;split<;>omega
def aqW (w:World) (r:Option Ar) (e:Ending) (w':World):Prop :=
 ∃ A n c,e=.returned (.tuple #[.agg #[.int .i64 (r.getD MS).id,.int .i64 (r.getD MS).fr,.int .i64 (r.getD MS).dst,.slice A n c,.int .i64 (r.getD MS).left,.int .i64 (r.getD MS).right],.bool r.isSome])/\AU w w'
theorem aij (v:Value) (p:Pl) (d:Int) (w:World) (h:D6 w v p) (hs:qy p) (hd:F6 d):Calls prog 164 #[v,.int .i64 d] w (aqW w (Fb p d)):=by
 have TA:=fun W (hW:AU w W)=>apO v p (max d (-d)) W (h.mono hW) hs;obtain ⟨_,_,_,al,rfl,hpa,⟨An,cn,rfl,-⟩,⟨⟨Aa,ca,rfl,-⟩,-⟩,⟨Af,cf,rfl,-⟩⟩:=h;generalize al.length=na at *;generalize p.nodes.length=nn at *;generalize p.faces.length=nf at *;clear hpa;by_cases h0:d=0
 ·subst h0;have hz:Fb p 0=none:=by unfold Fb;rw [AZ (.inl rfl)]
  rw [hz];clear TA hz;go_enter func164,ntmps164;go_upto_region 1 with fail;obtain ⟨W,hW⟩:=BR ((w.alloc (.cells #[.slice An nn cn,.slice Aa na ca,.slice Af nf cf] 34)).alloc (.cells #[.int .i64 0,.int .i64 0,.int .i64 0,.slice none 0 0,.int .i64 0,.int .i64 0] 50));have Bw:AU w W:=by rw [hW];exact bA (bA (bR w) _) _
  have X4:AO W (w.heap.size+1) 50 #[.int .i64 0,.int .i64 0,.int .i64 0,.slice none 0 0,.int .i64 0,.int .i64 0]:=by rw [hW];exact AO.made Ah _ _
  rw [<- hW];clear hW;obtain ⟨Bg,CO,CU,ES,LU,LV,LW,Eo,Gu,Jo,RH,RI,RG⟩:=X4.Iy;go_wp2_with fail;refine Iz (g:=w.heap.size+1) (cs:=#[.int .i64 0,.int .i64 0,.int .i64 0,.slice none 0 0,.int .i64 0,.int .i64 0]) rfl Ul rfl rfl (AO.Uk X4) ⟨none,0,0,rfl,?_⟩;exact Dy
 by_cases h1:d=-9223372036854775808
 ·subst h1;have hz:Fb p (-9223372036854775808)=none:=by unfold Fb;rw [AZ (.inr rfl)]
  rw [hz];clear TA hz h0;go_enter func164,ntmps164;go_upto_region 1 with fail;obtain ⟨W,hW⟩:=BR ((w.alloc (.cells #[.slice An nn cn,.slice Aa na ca,.slice Af nf cf] 34)).alloc (.cells #[.int .i64 0,.int .i64 0,.int .i64 0,.slice none 0 0,.int .i64 0,.int .i64 0] 50));have Bw:AU w W:=by rw [hW];exact bA (bA (bR w) _) _
  have X4:AO W (w.heap.size+1) 50 #[.int .i64 0,.int .i64 0,.int .i64 0,.slice none 0 0,.int .i64 0,.int .i64 0]:=by rw [hW];exact AO.made Ah _ _
  rw [<- hW];clear hW
  try clear Bg CO CU ES LU LV LW
  try clear Eo Gu Jo RH RI RG
  obtain ⟨Bg,CO,CU,ES,LU,LV,LW,Eo,Gu,Jo,RH,RI,RG⟩:=X4.Iy;go_wp2_with fail;refine Iz (g:=w.heap.size+1) (cs:=#[.int .i64 0,.int .i64 0,.int .i64 0,.slice none 0 0,.int .i64 0,.int .i64 0]) rfl Ul rfl rfl (AO.Uk X4) ⟨none,0,0,rfl,?_⟩;exact Dy
 rw [aqV h0 h1] at TA;have hb:=zf hd;have k1:=EL (-d);have e0:(d == 0)=false:=by simpa using h0
 have e1:(d == -9223372036854775808)=false:=by simpa using h1
 have HA:=AB TA;clear TA h0 h1 hd hb;generalize Fb p d=r at *;go_enter func164,ntmps164;go_upto_region 1 with fail;obtain ⟨W,hW⟩:=BR ((w.alloc (.cells #[.slice An nn cn,.slice Aa na ca,.slice Af nf cf] 34)).alloc (.cells #[.int .i64 0,.int .i64 0,.int .i64 0,.slice none 0 0,.int .i64 0,.int .i64 0] 50));have Bw:AU w W:=by rw [hW];exact bA (bA (bR w) _) _
 have X4:AO W (w.heap.size+1) 50 #[.int .i64 0,.int .i64 0,.int .i64 0,.slice none 0 0,.int .i64 0,.int .i64 0]:=by rw [hW];exact AO.made Ah _ _
 have X2:AO W w.heap.size 34 #[.slice An nn cn,.slice Aa na ca,.slice Af nf cf]:=by rw [hW];exact (AO.made rfl _ _).alloc _
 rw [<- hW];clear hW;obtain ⟨Bh,Bq,Bv,CS,-⟩:=X2.Az;go_wp2_with fail;refine (HA.1 _ Bw).mono ?_;intro e w1 har;obtain ⟨A1,c1,rfl,hb1,-⟩:=har.form;have Bw:=bT Bw hb1;replace X4:=X4.keep hb1;clear har hb1 X2 Bh Bq Bv CS
 try clear Bg CO CU ES LU LV LW
 try clear Eo Gu Jo RH RI RG
 obtain ⟨Bg,CO,CU,ES,LU,LV,LW,Eo,Gu,Jo,RH,RI,RG⟩:=X4.Iy;generalize hvl:(r.getD MS).via.length=vl at *;go_wp2_with fail;refine Iz (g:=w.heap.size+1) (cs:=#[.int .i64 (r.getD MS).id,.int .i64 (r.getD MS).fr,.int .i64 (r.getD MS).dst,.slice A1 vl c1,.int .i64 (r.getD MS).left,.int .i64 (r.getD MS).right]) rfl Ul rfl rfl (AO.Uk X4) ⟨A1,vl,c1,rfl,?_⟩;exact Dy
theorem aqX (v:Value) (p:Pl) (d:Int) (w:World) (h:D6 w v p) (hs:qy p) (hd:F6 d):Calls prog 138 #[v,.int .i64 d] w fun e w'=>e=.returned (.int .i64 (Ib p d))/\AU w w':=by
 have HA:=AB (fun W (hW:AU w W)=>aij v p d W (h.mono hW) hs hd);obtain ⟨_,_,_,al,rfl,hpa,⟨An,cn,rfl,-⟩,⟨⟨Aa,ca,rfl,-⟩,-⟩,⟨Af,cf,rfl,-⟩⟩:=h;unfold Ib;generalize Fb p d=r at *;generalize al.length=na at *;generalize p.nodes.length=nn at *;generalize p.faces.length=nf at *;clear hpa hd hs;go_enter func138,ntmps138;go_wp2_with fail;refine (HA.1 _ (bA (bR w) _)).mono ?_;rintro e w1 ⟨A1,n1,c1,rfl,hb1⟩;have B1:=AB (bT (bA (bR w) _) hb1);clear hb1 HA
 cases r with
 | none =>
  simp only [kE];go_wp2;go_ret;exact ⟨rfl,bA B1.1 _⟩
 | some a =>
  simp only [Ud,Ih];by_cases hp:0<d
  ·go_wp2;go_ret;exact ⟨D8 (by first | rfl | simp [hp]),bA B1.1 _⟩
  ·go_wp2;go_ret;exact ⟨D8 (by first | rfl | simp [hp]),bA B1.1 _⟩
theorem aev {P:Program} {fn:Func} {p u v:Tmp} {ty t:TypeId} {R:Ending->World->Prop} {a:Act} {w:World} {g:Nat} {cs:Array Value} (h:fn.results=#[.cell p ty,.tmp u,.tmp v])
  (hS:StructOf P ty cs.size) (hp:a.tmps.getD p undef=.pointer (some ⟨g,0,none⟩)) (hd:a.defers=[]) (hb:AO w g t cs) (hR:R (.returned (.tuple #[.agg cs,a.tmps.getD u undef,a.tmps.getD v undef])) w):bodyPost P fn R .ret a w:=by
 obtain ⟨fs,h1,h3⟩:=hS;refine bodyPost_ret ?_ hd hR;have e1:=run_loadVar_row (P:=P) w g t ty cs (0,0) (.struct fs) hb h1 rfl h3;have hp':a.tmps[p]?.getD undef=.pointer (some ⟨g,0,none⟩):=by simpa using hp
 simp only [results,h];simp [hp',asAddr,Sem.run_bind,Sem.run_pure,Result.andThen,e1]
def oC (p:Pl) (d:Int):Bool:=p.AQ.any fun a=>decide (a.id=d) || decide (a.id=IntKind.i64.wrap (-d))
def aqY (w:World) (b:Bool) (e:Ending) (w':World):Prop :=
 ∃ (A:Option Addr) (n c:Nat) (i0 i1 i2 i4 i5:Int) (back:Bool),e=.returned (.tuple #[.agg #[.int .i64 i0,.int .i64 i1,.int .i64 i2,.slice A n c,.int .i64 i4,.int .i64 i5],.bool back,.bool b])/\AU w w'
theorem aqZ (v:Value) (p:Pl) (d:Int) (w:World) (h:D6 w v p):Calls prog 222 #[v,.int .i64 d] w (aqY w (oC p d)):=by
 obtain ⟨_,_,_,al,rfl,hpa,⟨An,cn,rfl,-⟩,⟨⟨Aa,ca,rfl,hn1,hn2,hR⟩,hV⟩,⟨Af,cf,rfl,-⟩⟩:=h;unfold maxLen at hn2;have HR:=AB hR;have HV:=AB hV;obtain ⟨r,hr⟩:=BI (oC p d);rw [hr];unfold oC at hr;rw [hpa] at hr;have Hr:=AB hr;generalize p.nodes.length=nn at *;generalize p.faces.length=nf at *;clear hpa hr hR hV;obtain ⟨nd,hnd⟩:=BI (IntKind.i64.wrap (-d));rw [hnd] at Hr;go_enter func222,ntmps222;go_wp2_with fail;go_loopw [7] (fun u wr=>∃ k:Nat,k<=al.length/\u=.int .i64 k/\AU w wr/\AO wr w.heap.size 34 #[.slice An nn cn,.slice Aa al.length ca,.slice Af nf cf]/\AO wr (w.heap.size+1) 50 #[.int .i64 0,.int .i64 0,.int .i64 0,.slice none 0 0,.int .i64 0,.int .i64 0]/\∀ j (hj:j<al.length),j<k->(decide (al[j].1.id=d) || decide (al[j].1.id=nd))=false) (fun u _=>al.length-(intOf u).toNat)
 case atStart => exact ⟨0,BX _,rfl,bA (bA (bR w) _) _,(AO.made rfl _ _).alloc _,AO.made Ah _ _,fun j _ h=>AA⟩
 case round =>
  obtain ⟨k,hk,rfl,hb,X2,X4,hno⟩:=hrel;have Hb:=AB hb;have Hno:=AB hno;clear hb hno;obtain ⟨Bh,Bq,Bv,CS,-⟩:=X2.Az;obtain ⟨Bg,CO,CU,ES,LU,LV,LW,Eo,Gu,Jo,RH,RI,RG⟩:=X4.Iy;have Bw:=Hb.1;by_cases hlt:k<al.length
  case neg =>
   have hf:=SS (al.map (·.1)) (fun a=>decide (a.id=d) || decide (a.id=nd)) (fun j hj=>by
    rw [CV] at hj;simp only [Iu];exact Hno.1 j hj AA)
   have Hf:=AB (Hr.1.symm.trans hf);clear hf;go_wp2_with fail;refine aev (g:=w.heap.size+1) (cs:=#[.int .i64 0,.int .i64 0,.int .i64 0,.slice none 0 0,.int .i64 0,.int .i64 0]) rfl Ul rfl rfl (AO.Uk X4) ⟨none,0,0,0,0,0,0,0,false,ZC,?_⟩;exact Dy
  obtain ⟨b,o,rfl,hlb,c0,c1,c2,c3,c4,c5⟩:=(HR.1.mono Hb.1).ar hlt;obtain ⟨Av,cv,hv,-⟩:=HV.1 k hlt;rw [hv] at c3;clear hv;generalize hvl:al[k].1.via.length=vl at *;by_cases e1:al[k].1.id=d
  case pos =>
   have hf:=QX (al.map (·.1)) (fun a=>decide (a.id=d) || decide (a.id=nd)) k (by simpa using hlt) (by simp [e1]);have Hf:=AB (Hr.1.symm.trans hf);have e1':(al[k].1.id == d)=true:=by simpa using e1
   clear hf e1;go_wp2_with fail;refine aev (g:=w.heap.size+1) (cs:=#[.int .i64 al[k].1.id,.int .i64 al[k].1.fr,.int .i64 al[k].1.dst,.slice Av vl cv,.int .i64 al[k].1.left,.int .i64 al[k].1.right]) rfl Ul rfl rfl (AO.Uk X4) ⟨Av,vl,cv,_,_,_,_,_,_,ZC,?_⟩;exact Dy
  case neg =>
  have e1':(al[k].1.id == d)=false:=by simpa using e1
  by_cases e2:al[k].1.id=nd
  case pos =>
   have hf:=QX (al.map (·.1)) (fun a=>decide (a.id=d) || decide (a.id=nd)) k (by simpa using hlt) (by simp [e2]);have Hf:=AB (Hr.1.symm.trans hf);have e2':(al[k].1.id == nd)=true:=by simpa using e2
   clear hf e1 e2;go_wp2_with fail;refine aev (g:=w.heap.size+1) (cs:=#[.int .i64 al[k].1.id,.int .i64 al[k].1.fr,.int .i64 al[k].1.dst,.slice Av vl cv,.int .i64 al[k].1.left,.int .i64 al[k].1.right]) rfl Ul rfl rfl (AO.Uk X4) ⟨Av,vl,cv,_,_,_,_,_,_,ZC,?_⟩;exact Dy
  case neg =>
  have e2':(al[k].1.id == nd)=false:=by simpa using e2
  have HN:=AB (show (decide (al[k].1.id=d) || decide (al[k].1.id=nd))=false by simp [e1,e2]);clear e1 e2;go_wp2;go_roundw
  case rel => exact ⟨k+1,AA,BG,Hb.1,X2,X4,all_succ (p:=fun x:Ar×Value=>(decide (x.1.id=d) || decide (x.1.id=nd))=false) Hno.1 hlt HN.1⟩
  case measure => exact BH
theorem aqa (v:Value) (p:Pl) (d:Int) (w:World) (h:D6 w v p):Calls prog 183 #[v,.int .i64 d] w fun e w'=>e=.returned (.bool (oC p d && !decide (d=0)))/\AU w w':=by
 have HA:=AB (fun W (hW:AU w W)=>aqZ v p d W (h.mono hW));obtain ⟨_,_,_,al,rfl,hpa,⟨An,cn,rfl,-⟩,⟨⟨Aa,ca,rfl,-⟩,-⟩,⟨Af,cf,rfl,-⟩⟩:=h;generalize oC p d=r at *;generalize al.length=na at *;generalize p.nodes.length=nn at *;generalize p.faces.length=nf at *;clear hpa;go_enter func183,ntmps183;go_wp2_with fail;refine (HA.1 _ (bA (bR w) _)).mono ?_;rintro e w1 ⟨A1,n1,c1,i0,i1,i2,i4,i5,back,rfl,hb1⟩;have B1:=AB (bT (bA (bR w) _) hb1);clear hb1 HA
 cases r
 ·go_wp2;go_ret;exact ⟨rfl,bA B1.1 _⟩
 ·by_cases h0:d=0
  ·subst h0;go_wp2;go_ret;exact ⟨rfl,bA B1.1 _⟩
  ·have h0':(d != 0)=true:=by simpa using h0
   have H0:=AB h0;clear h0;go_wp2;go_ret;exact ⟨CP (by simp [H0.1]),bA B1.1 _⟩
def Ox (a b:Pt):Int:=a.x*b.y-b.x*a.y
def Jt (P:List Pt):Nat->Int
 | 0=>0
 | k+1=>Jt P k+Ox (P.getD k AY) (P.getD (k+1) AY)
def Q7 (P:List Pt):Int:=Jt P (P.length-1)
def PX (p:Pl) (d:Int):Int:=match Fb p d with
 | none=>0
 | some a=>if 0<d then Q7 (AV p a) else -Q7 (AV p a)
def Nj (p:Pl) (l:List Int):Nat->Int
 | 0=>0
 | k+1=>Nj p l k+PX p (l.getD k 0)
def U1 (p:Pl) (l:List Int):Int:=if l.length<=512/\(∀ d∈l,(Fb p d).isSome=true) then Nj p l l.length else 0
theorem aqb (P:List Pt) (k:Nat) (hk:k+1<=P.length):Jt P.reverse k=Jt P (P.length-1-k)-Jt P (P.length-1):=by
 induction k with
 | zero=>simp [Jt]
 | succ k ih =>
  rw [Jt,ih AA];obtain ⟨m,hm⟩:∃ m,P.length=m+k+2:=⟨P.length-k-2,AA⟩;have e1:P.reverse.getD k AY=P.getD (m+1) AY:=by
   rw [Gm,List.getElem?_reverse AA,Gm];congr 2;omega
  have e2:P.reverse.getD (k+1) AY=P.getD m AY:=by
   rw [Gm,List.getElem?_reverse AA,Gm];congr 2;omega
  rw [e1,e2,show P.length-1-k=m+1 by omega,show P.length-1-(k+1)=m by omega,Jt];unfold Ox;omega
theorem aqc (P:List Pt) (h:1<=P.length):Q7 P.reverse=-Q7 P:=by
 unfold Q7;rw [WB,aqb P _ AA];rw [show P.length-1-(P.length-1)=0 by omega];simp [Jt]
def Xq (p:Pt):Prop:=(-1048576<=p.x/\p.x<=1048576)/\(-1048576<=p.y/\p.y<=1048576)
theorem oD {u v:Int} (hu:-1048576<=u/\u<=1048576) (hv:-1048576<=v/\v<=1048576):-1099511627776<=u*v/\u*v<=1099511627776:=by
 have:=Qa u v 1048576 hu.1 hu.2 hv.1 hv.2
 simpa using this
theorem aqd {a b:Pt} (ha:Xq a) (hb:Xq b):-2199023255552<=Ox a b/\Ox a b<=2199023255552:=by
 have h1:=oD ha.1 hb.2;have h2:=oD hb.1 ha.2;unfold Ox;omega
theorem aik {P:List Pt} (h:∀ q∈P,Xq q) (k:Nat) (hk:k+1<=P.length\/k=0):-(2199023255552*(k:Int))<=Jt P k/\Jt P k<=2199023255552*(k:Int):=by
 induction k with
 | zero=>simp [Jt]
 | succ k ih =>
  have ih:=ih AA;have g:∀ j,j<P.length->Xq (P.getD j AY):=fun j hj=>by
   rw [Gm,Di hj];exact h _ (BO hj)
  have:=aqd (g k AA) (g (k+1) AA)
  rw [Jt];omega
theorem aqe {q:Pt} (h:GL q=true):Xq q:=by
 unfold GL at h;simp only [ER,Dq] at h;unfold Xq;omega
theorem uf {p:Pl} {d:Int} {a:Ar} (e:Fb p d=some a):a∈p.AQ/\FD d=a.id:=by
 unfold Fb at e;split at e
 · cases e
 · exact ⟨XV e,by have:=List.find?_some e;exact (show a.id=FD d by simpa using this).symm⟩
section
variable {p:Pl} (h:Valid p)
include h
theorem Valid.zh {a:Ar} (ha:a∈p.AQ) {q:Pt} (hq:q∈AV p a):Xq q:=by
 have hr:=h.rng;unfold OG at hr;simp only [ER,LK] at hr;have key:∀ q∈VH p,Xq q:=fun q hq=>aqe (hr.2 q hq);unfold AV at hq;rcases FI.1 hq with rfl | hq
 ·obtain ⟨n,hn,-,e⟩:=h.sound.XG ha;rw [e];exact key _ (SB _ (FZ hn))
 ·rcases GI.1 hq with hq | hq
  · exact key _ (kJ _ (Ii.2 ⟨a,ha,hq⟩))
  ·rw [Eb] at hq;subst hq;obtain ⟨n,hn,-,e⟩:=h.sound.Xn ha;rw [e];exact key _ (SB _ (FZ hn))
theorem Valid.Xr {a:Ar} (ha:a∈p.AQ):a.via.length<=64:=by
 have hl:=h.lim;unfold KD at hl;rw [OC,MB] at hl;have:=hl.1 a ha
 simpa using this
theorem Valid.ail {a:Ar} (ha:a∈p.AQ) (k:Nat) (hk:k+1<=(AV p a).length):-142936511610880<=Jt (AV p a) k/\Jt (AV p a) k<=142936511610880:=by
 have h1:=aik (P:=AV p a) (fun q hq=>h.zh ha hq) k (.inl hk);have h2:=h.Xr ha;have h3:=Fa p a;omega
theorem Valid.aqf (d:Int):-142936511610880<=PX p d/\PX p d<=142936511610880:=by
 unfold PX
 cases e:Fb p d with
 | none=>simp
 | some a =>
  have ha:=(uf e).1;have h3:=Fa p a;have:=h.ail ha ((AV p a).length-1) AA
  unfold Q7;simp only [];split<;>omega
theorem Valid.ain (l:List Int) (k:Nat):-(142936511610880*(k:Int))<=Nj p l k/\Nj p l k<=142936511610880*(k:Int):=by
 induction k with
 | zero=>simp [Nj]
 | succ k ih =>
  have:=h.aqf (l.getD k 0)
  rw [Nj];omega
theorem Valid.aqg {d:Int} (hd:-9223372036854775808<=d/\d<=9223372036854775807):((p.AQ.any fun a=>decide (a.id=d) || decide (a.id=IntKind.i64.wrap (-d))) && !decide (d=0))=(Fb p d).isSome:=by
 rw [Jh,ER,OA];constructor
 ·rintro ⟨⟨a,ha,h1⟩,h0⟩;have hp:=h.IQ ha;rw [Ir,Dq,Dq] at h1;rcases h1 with h1 | h1
  · rw [<- h1,h.fK ha];rfl
  ·by_cases hm:d=-9223372036854775808
   ·subst hm
    have:IntKind.i64.wrap (-(-9223372036854775808))=-9223372036854775808:=by decide
    rw [this] at h1;omega
   ·rw [Jw _ AA] at h1;rw [show d=-a.id by omega,h.ni ha];rfl
 ·intro h1
  cases e:Fb p d with
  | none=>rw [e] at h1;cases h1
  | some a =>
   obtain ⟨ha,hi⟩:=uf e;have hp:=h.IQ ha;unfold FD at hi;refine ⟨⟨a,ha,?_⟩,?_⟩
   ·rw [Ir,Dq,Dq];split at hi
    ·right;rw [Jw _ AA];omega
    · left;omega
   ·simp only [QM,JH];rintro rfl;simp at hi;omega
end
def Td (p:Pl) (d:Int):List Pt:=if 0<d then (pathOf p d).getD [] else ((pathOf p (-d)).getD []).reverse
theorem aqh {p:Pl} (hs:Short p) (id:Int):((pathOf p id).getD []).length<=1048578:=by
 cases e:pathOf p id with
 | none=>simp
 | some l=>exact (ahg e hs).2
theorem aiA (v:Value) (p:Pl) (d:Int) (w:World) (h:D6 w v p) (hs:Short p) (hd:-9223372036854775808<d/\d<=9223372036854775807):Calls prog 184 #[v,.int .i64 d] w (Zm w (Td p d)):=by
 have HA:=AB (fun id W (hW:AU w W)=>ai5 v p id W (h.mono hW) hs);have HLn:=AB (aqh hs);obtain ⟨_,_,_,al,rfl,hpa,⟨An,cn,rfl,-⟩,⟨⟨Aa,ca,rfl,-⟩,-⟩,⟨Af,cf,rfl,-⟩⟩:=h;unfold Td;generalize al.length=na at *;generalize p.nodes.length=nn at *;generalize p.faces.length=nf at *;clear hpa hs;by_cases h1:0<d
 ·rw [AZ h1];have HB:=AB (HA.1 d);clear HA hd HLn;unfold gX at HB;generalize (pathOf p d).getD []=L at *;generalize (if (pathOf p d).isSome then (0:Int) else 7)=z at *;go_enter func184,ntmps184;go_wp2_with fail;refine (HB.1 _ (bA (bR w) _)).mono ?_;rintro e w1 ⟨A1,c1,rfl,hb1,ho1⟩;have B1:=AB (bT (bA (bR w) _) hb1);have HO:=AB (Own.EM ho1 (b':=w.heap.size) Ah);clear hb1 ho1 HB;go_wp2;go_ret;exact ⟨A1,c1,rfl,B1.1,HO.1⟩
 rw [AX h1];have k1:=EL (-d);have HB:=AB (HA.1 (-d));have hln:=HLn.1 (-d);clear HA hd HLn;unfold gX at HB;generalize (pathOf p (-d)).getD []=L at *;generalize (if (pathOf p (-d)).isSome then (0:Int) else 7)=z at *;obtain ⟨q,hq⟩:=BI L.reverse;rw [hq];have Hq:=AB hq;clear hq;go_enter func184,ntmps184;go_wp2_with fail;refine (HB.1 _ (bA (bR w) _)).mono ?_;rintro e w1 ⟨A1,c1,rfl,hb1,ho1⟩;have B1:=AB (bT (bA (bR w) _) hb1);have HO:=AB ho1.sl;clear hb1 ho1 HB k1;have k2:=EL ((L.length:Int)-1);have hR:=HO.1;obtain ⟨Aq,cq,he,hq1,hq2,hR⟩:=hR;injection he with e1 e2 e3;subst e1 e3;clear e2;unfold maxLen at hq2;have HR:=AB hR;clear hR;go_wp2_with fail;go_loopw [9,10] (fun s i wr=>∃ m:Nat,m<=L.length/\i=.int .i64 ((m:Int)-1)/\Own wr w1.heap.size 42 2 DK s (L.drop m).reverse/\AU w1 wr) (fun _ i _=>(intOf i+1).toNat)
 case atStart => exact ⟨L.length,Cj _,rfl,by rw [ZK];exact Own.nil _ _ _ _ _,bR w1⟩
 case round =>
  obtain ⟨m,hm,rfl,ho,hb⟩:=hrel;have Hb:=AB hb;have Ho:=AB ho;obtain ⟨As,cs,rfl,-⟩:=Own.sl ho;clear hb ho
  cases m with
  | zero =>
   have ho:=Ho.1;rw [acZ,Hq.1] at ho;have Fq:=AB ho;rw [acZ,Hq.1];clear ho;have k3:¬ (0:Int)<=((0:Nat):Int)-1:=AA
   go_wp2;go_ret;exact ⟨As,cs,rfl,bT B1.1 Hb.1,Own.EM Fq.1 B1.1.size⟩
  | succ m =>
   have hml:m<L.length:=AA
   obtain ⟨b,o,hA,hlb,c0,c1⟩:=(HR.1.mono Hb.1).pt hml;subst hA;have k3:(((m+1:Nat):Int)-1)=(m:Int):=AA
   rw [k3];clear k3;have hst:(L.drop m).reverse=(L.drop (m+1)).reverse++[L[m]]:=by rw [<- List.reverse_cons,kU hml]
   have Gg:=AB hst;have hdl:(L.drop (m+1)).reverse.length<=1048578:=by rw [WB,Ue];omega
   have qo:=AB hdl;clear hst hdl;have q1:0<=(m:Int):=AA
   have q2:(m:Int)<L.length:=AA
   have hz:=Hb.1.size;have hz1:=B1.1.size;go_wp2_with
    (at_builtin
     refine FK _ rfl (.tmp 34) (.tmp 39) _ rfl (base:=w1.heap.size) JI I7 JD rfl (Own.alloc Ho.1 _) rfl (l2:=[L[m]]) (Sl.lit (n:=1) (AO.made rfl _ _) rfl (D7 AA)) (by have:=qo.1;simp only [JA,LH];omega) (by have:=qo.1;simp only [JA,LH];omega) DR ?_;intro v3 w3 ho3 hg3 Vo;have G7:=AB ho3;have B3:=AB (show AU w1 w3 from bG (bA Hb.1 _) hg3 (fun g hg=>(Ho.1.lt g hg).1));clear ho3 hg3 Vo)
   go_roundw
   case rel => exact ⟨m,AA,BG,by rw [Gg.1];exact G7.1,B3.1⟩
   case measure => simp [intOf]
theorem Valid.short {p:Pl} (h:Valid p):Short p:=fun a ha=>by have:=h.Xr ha;omega
theorem Short.long {p:Pl} (h:Short p):qy p:=fun a ha=>by have:=h a ha;omega
theorem Valid.aew {p:Pl} (h:Valid p) {d:Int} {a:Ar} (e:Fb p d=some a):pathOf p (FD d)=some (AV p a):=by
 obtain ⟨ha,hi⟩:=uf e;rw [hi];exact h.sound.path ha
theorem aqi (d:Int):max d (-d)=FD d:=by unfold FD;split<;>omega
theorem aqj {p:Pl} {l:List Int} {k:Nat} (hk:k<l.length) {a:Ar} (e:Fb p l[k]=some a):Nj p l (k+1)=Nj p l k+(if 0<l[k] then Q7 (AV p a) else -Q7 (AV p a)):=by
 have:l.getD k 0=l[k]:=by rw [Gm,Di hk];rfl
 rw [Nj,this];unfold PX;rw [e]
theorem aiB {p:Pl} {l:List Int} {k:Nat} (hk:k<l.length) (e:Fb p l[k]=none):U1 p l=0:=by
 unfold U1;rw [AX];rintro ⟨-,h⟩;have:=h _ (BO hk)
 rw [e] at this;cases this
theorem aiC {p:Pl} {l:List Int} (hl:l.length<=512) (h:∀ j (hj:j<l.length),j<l.length->(Fb p l[j]).isSome=true):U1 p l=Nj p l l.length:=by
 unfold U1;rw [AZ];refine ⟨hl,fun d hd=>?_⟩;obtain ⟨j,hj,rfl⟩:=EF.1 hd;exact h j hj hj
theorem aqA (v u:Value) (p:Pl) (l:List Int) (w:World) (h:D6 w v p) (hu:Ints w u l) (hv:Valid p) (hw:∀ d∈l,F6 d) :
  Calls prog 123 #[v,u] w fun e w'=>e=.returned (.int .i64 (U1 p l))/\AU w w':=by
 have HA:=AB (fun d (hd:F6 d) W (hW:AU w W)=>aij v p d W (h.mono hW) hv.short.long hd);have HP:=AB (fun id W (hW:AU w W)=>sF v p id W (h.mono hW) hv.short);obtain ⟨_,_,_,al,rfl,hpa,⟨An,cn,rfl,-⟩,⟨⟨Aa,ca,rfl,-⟩,-⟩,⟨Af,cf,rfl,-⟩⟩:=h;obtain ⟨Al,cl,rfl,hl1,hl2,hR⟩:=hu;unfold maxLen at hl2;obtain ⟨HR,HV,HW⟩:=CG hR hv hw;generalize al.length=na at *;generalize p.nodes.length=nn at *;generalize p.faces.length=nf at *;obtain ⟨q,hq⟩:=BI (U1 p l);rw [hq];have Hq:=AB hq;clear hpa hR hv hw hq;go_enter func123,ntmps123;by_cases hbig:512<l.length
 case pos =>
  have hbig':512<(l.length:Int):=AA
  have hf:q=0:=by rw [<- Hq.1];unfold U1;rw [AX AA]
  subst hf;go_wp2;go_ret;exact ⟨rfl,bA (bR w) _⟩
 have hbig':¬ 512<(l.length:Int):=AA
 go_wp2_with fail;obtain ⟨W0,hW⟩:=BR (w.alloc (.cells #[.slice An nn cn,.slice Aa na ca,.slice Af nf cf] 34));have HB0:=AB (show AU w W0 by rw [hW];exact bA (bR w) _);have DC:=AB (show AO W0 w.heap.size 34 #[.slice An nn cn,.slice Aa na ca,.slice Af nf cf] by rw [hW];exact AO.made rfl _ _);rw [<- hW];clear hW;go_loopw [4,18] (fun n i wr=>∃ k:Nat,k<=l.length/\i=.int .i64 k/\n=.int .i64 (Nj p l k)/\AU W0 wr/\∀ j (hj:j<l.length),j<k->(Fb p l[j]).isSome=true) (fun _ i _=>l.length-(intOf i).toNat)
 case atStart => exact ⟨0,BX _,rfl,rfl,bR W0,fun _ _ h=>AA⟩
 case round =>
  obtain ⟨k,hk,rfl,rfl,hb,hno⟩:=hrel;have Hb:=AB hb;have Hno:=AB hno;have X2:=DC.1.keep hb;clear hb hno;obtain ⟨Bh,Bq,Bv,CS,-⟩:=X2.Az;by_cases hlt:k<l.length
  case neg =>
   have hkk:k=l.length:=AA
   subst hkk;have hf:=aiC (p:=p) (l:=l) AA Hno.1;rw [Hq.1] at hf;have HF:=AB hf;clear hf;go_wp2;go_ret;exact ⟨D8 HF.1.symm,bT HB0.1 Hb.1⟩
  obtain ⟨b,o,rfl,hlb,c0⟩:=(HR.1.mono (bT HB0.1 Hb.1)).int hlt;have hwd:=HW.1 _ (BO hlt);have NJ:=AB (HA.1 l[k] hwd)
  cases har:Fb p l[k] with
  | none =>
   rw [har] at NJ;have hf:=aiB hlt har;rw [Hq.1] at hf;subst hf;clear har hwd;go_wp2_with fail;refine (NJ.1 _ (bT HB0.1 Hb.1)).mono ?_;rintro e w1 ⟨A1,n1,c1,rfl,hb1⟩;have B1:=AB (bT Hb.1 hb1);clear hb1;simp only [kE];go_wp2;go_ret;exact ⟨rfl,bT HB0.1 (bA B1.1 _)⟩
  | some a =>
  rw [har] at NJ;have hst:=aqj hlt har;have hpo:=HV.1.aew har;have ha:=(uf har).1;have hpl:=Fa p a;have hvl:=HV.1.Xr ha;have ug:=AB (fun k hk=>HV.1.ail ha k hk);have hub:=HV.1.ain l k;have hne:l[k]≠-9223372036854775808/\l[k]≠0:=by
   constructor
   · intro e;rw [e] at har;unfold Fb at har;rw [AZ (.inr rfl)] at har;cases har
   · intro e;rw [e] at har;unfold Fb at har;rw [AZ (.inl rfl)] at har;cases har
  have hbd:=zf hwd;have I9:=AB (HP.1 (max l[k] (-l[k])));have hpm:pathOf p (max l[k] (-l[k]))=some (AV p a):=by rw [aqi];exact hpo
  rw [hpm] at I9;unfold gX at I9;simp only [Ih,Ud,if_true] at I9;have Gg:=AB hst;have oG:=AB (show (Fb p l[k]).isSome=true by rw [har];rfl);have Ju:=AB (all_succ (p:=fun d=>(Fb p d).isSome=true) Hno.1 hlt oG.1);have hk1:=EL (-l[k]);obtain ⟨LY,Ui,HNe,XK⟩:=DW (fun q (hq:q∈AV p a)=>HV.1.zh ha hq) (ug.1 ((AV p a).length-1) AA) hne (show k+1<=512 by omega);clear hst hpo har hwd hpm hne hbd;unfold Q7 at Gg;generalize Nj p l k=n at *;generalize hP:AV p a=P at *;generalize l[k]=d at *;generalize a.via.length=vl at *;go_wp2_with fail;refine (NJ.1 _ (bT HB0.1 Hb.1)).mono ?_;rintro e w1 ⟨A1,n1,c1,rfl,hb1⟩;replace X2:=X2.keep hb1;have B1:=AB (bT Hb.1 hb1);clear hb1 Bh Bq Bv CS NJ c0 hlb;simp only [Ud,Ih]
  try clear Bh Bq Bv CS
  obtain ⟨Bh,Bq,Bv,CS,-⟩:=X2.Az;go_wp2_with fail;refine (I9.1 _ (bT HB0.1 (bA B1.1 _))).mono ?_;rintro e w2 ⟨A2,c2,rfl,hb2,ho2⟩;have B2:=AB (bT (bA B1.1 _) hb2);obtain ⟨Aq,cq,he,hq1,hq2,Tf⟩:=ho2.sl;injection he with e1 e2 e3;subst e1 e3;clear e2;unfold maxLen at hq2;have bK:=AB Tf;clear hb2 ho2 Tf I9 X2 Bh Bq Bv CS;obtain ⟨N,hN⟩:∃ N,P.length=N+1:=⟨P.length-1,AA⟩;have HN:=AB hN;have hNs:N<=65:=AA
  rw [hN] at Ui Gg;simp only [yg] at Ui Gg;have k2:=EL (N:Int);rw [hN] at hq1 ⊢;clear hN hpl hvl;go_wp2_with fail;obtain ⟨W2,rfl⟩:=BR w2;go_loopw [11,44] (fun s i wx=>∃ j:Nat,j<=N/\i=.int .i64 j/\s=.int .i64 (Jt P j)/\AU W2 wx) (fun _ i _=>N-(intOf i).toNat)
  case atStart => exact ⟨0,BX _,rfl,rfl,bR W2⟩
  case round =>
   obtain ⟨j,hj,rfl,rfl,hbx⟩:=hrel;have G6:=AB hbx;clear hbx;by_cases hjl:j<N
   case pos =>
    have hP1:j<P.length:=by have:=HN.1;omega
    have hP2:j+1<P.length:=by have:=HN.1;omega
    obtain ⟨b1,o1,hA1,NK,c0,c1'⟩:=(bK.1.mono G6.1).pt hP1;subst hA1;obtain ⟨b2,o2,hA2,-,d0,d1⟩:=(bK.1.mono G6.1).pt hP2;simp only [Gt,Addr.mk.injEq,and_true] at hA2;obtain ⟨rfl,rfl⟩:=hA2;have g1:=LY.1 _ (BO hP1);have g2:=LY.1 _ (BO hP2);have x1:=oD g1.1 g2.2;have x2:=oD g2.1 g1.2;have tb:=ug.1 j (by have:=HN.1;omega);have tb2:=ug.1 (j+1) (by have:=HN.1;omega);have hstep:Jt P (j+1)=Jt P j+(P[j].x*P[j+1].y-P[j+1].x*P[j].y):=by
     rw [Jt];unfold Ox;simp only [Gm,Di hP1,Di hP2,Ih]
    rw [hstep] at tb2;have aex:=AB hstep;clear hstep g1 g2;generalize P[j]=p1 at *;generalize P[j+1]=p2 at *;generalize hT:Jt P j=T at *;have q1:0<=(j:Int):=AA
    have q2:(j:Int)<(N:Int)+1:=AA
    have q3:0<=(j:Int)+1:=AA
    have q4:(j:Int)+1<(N:Int)+1:=AA
    have q5:((j:Int)+1).toNat=j+1:=AA
    have m0:=EL ((j:Int)+1);have m1:=EL (p1.x*p2.y);have m2:=EL (p2.x*p1.y);have m3:=EL (p1.x*p2.y-p2.x*p1.y);have m4:=EL (T+(p1.x*p2.y-p2.x*p1.y));clear x1 x2 tb tb2 hT hub;go_upto_region 16 with fail;refine D9 (wr) (.run 28 0 0 (.done)) fun CQ QR Ae Aj hS=>?_
    iterate 28 refine Ak ?_
    refine D5 ?_;clear hS Aj Ae;intro hB;have Bx:=AB (bT G6.1 hB);clear hB m0 m1 m2 m3 m4;go_wp2;go_roundw
    case rel => exact ⟨j+1,AA,BG,by rw [aex.1],Bx.1⟩
    case measure => exact BH
   case neg =>
   have hjj:j=N:=AA
   subst hjj;have htl:=Ui.1;have hsz:=XK.1;have Bx:=AB (bT B2.1 G6.1);generalize hT:Jt P j=T at *;clear hT;by_cases hneg:d<0
   ·have hst:=Gg.1;rw [AX AA] at hst;have aey:=AB hst;have m1:=EL (-T);have m2:=EL (n + -T);clear hst htl hub hsz;go_wp2;go_roundw
    case rel => exact ⟨k+1,AA,BG,by rw [aey.1],Bx.1,Ju.1⟩
    case measure => exact BH
   ·have hst:=Gg.1;rw [AZ (by have:=HNe.1.2;omega)] at hst;have aey:=AB hst;have m2:=EL (n+T);clear hst htl hub hsz;go_wp2;go_roundw
    case rel => exact ⟨k+1,AA,BG,by rw [aey.1],Bx.1,Ju.1⟩
    case measure => exact BH
theorem uh {p:Pl} (h:Valid p) {d:Int} {a:Ar} (e:Fb p d=some a):Td p d=if 0<d then AV p a else (AV p a).reverse:=by
 have hpo:=h.aew e;unfold FD at hpo;unfold Td;by_cases h1:0<d
 ·rw [AX AA] at hpo;rw [AZ h1,AZ h1,hpo];rfl
 ·have hne:d≠0:=by
   intro e0;rw [e0] at e;unfold Fb at e;rw [AZ (.inl rfl)] at e;cases e
  rw [AZ AA] at hpo;rw [AX h1,AX h1,hpo];rfl
theorem aqB {p:Pl} (h:Valid p) {d:Int} {a:Ar} (e:Fb p d=some a):PX p d=Q7 (Td p d):=by
 rw [uh h e];unfold PX;rw [e];simp only [];have hl:=Fa p a;split
 · rfl
 · rw [aqc _ AA]
theorem aez (v u:Value) (p:Pl) (l:List Int) (w:World) (h:D6 w v p) (hu:Ints w u l) (hv:Valid p) (hw:∀ d∈l,F6 d) :
  Calls prog 134 #[v,u] w fun e w'=>e=.returned (.int .i64 (U1 p l))/\AU w w':=by
 have HO:=AB (fun d W (hW:AU w W)=>aqa v p d W (h.mono hW));have HP:=AB (fun d (hd:-9223372036854775808<d/\d<=9223372036854775807) W (hW:AU w W)=>aiA v p d W (h.mono hW) hv.short hd);obtain ⟨_,_,_,al,rfl,hpa,⟨An,cn,rfl,-⟩,⟨⟨Aa,ca,rfl,-⟩,-⟩,⟨Af,cf,rfl,-⟩⟩:=h;obtain ⟨Al,cl,rfl,hl1,hl2,hR⟩:=hu;unfold maxLen at hl2;obtain ⟨HR,HV,HW⟩:=CG hR hv hw;generalize al.length=na at *;generalize p.nodes.length=nn at *;generalize p.faces.length=nf at *;obtain ⟨q,hq⟩:=BI (U1 p l);rw [hq];have Hq:=AB hq;clear hpa hR hv hw hq;go_enter func134,ntmps134;by_cases hbig:512<l.length
 case pos =>
  have hbig':512<(l.length:Int):=AA
  have hf:q=0:=by rw [<- Hq.1];unfold U1;rw [AX AA]
  subst hf;go_wp2;go_ret;exact ⟨rfl,bA (bR w) _⟩
 have hbig':¬ 512<(l.length:Int):=AA
 go_wp2_with fail;obtain ⟨W0,hW⟩:=BR (w.alloc (.cells #[.slice An nn cn,.slice Aa na ca,.slice Af nf cf] 34));have HB0:=AB (show AU w W0 by rw [hW];exact bA (bR w) _);have DC:=AB (show AO W0 w.heap.size 34 #[.slice An nn cn,.slice Aa na ca,.slice Af nf cf] by rw [hW];exact AO.made rfl _ _);rw [<- hW];clear hW;go_loopw [5,6] (fun n i wr=>∃ k:Nat,k<=l.length/\i=.int .i64 k/\n=.int .i64 (Nj p l k)/\AU W0 wr/\∀ j (hj:j<l.length),j<k->(Fb p l[j]).isSome=true) (fun _ i _=>l.length-(intOf i).toNat)
 case atStart => exact ⟨0,BX _,rfl,rfl,bR W0,fun _ _ h=>AA⟩
 case round =>
  obtain ⟨k,hk,rfl,rfl,hb,hno⟩:=hrel;obtain ⟨Hb,Hno,aiD⟩:=CG hb hno (DC.1.keep hb);have X2:=aiD.1;clear hb hno;obtain ⟨Bh,Bq,Bv,CS,-⟩:=X2.Az;by_cases hlt:k<l.length
  case neg =>
   have hkk:k=l.length:=AA
   subst hkk;have hf:=aiC (p:=p) (l:=l) AA Hno.1;rw [Hq.1] at hf;have HF:=AB hf;clear hf;go_wp2;go_ret;exact ⟨D8 HF.1.symm,bT HB0.1 Hb.1⟩
  have KF:=AB (bT HB0.1 Hb.1);obtain ⟨b,o,rfl,hlb,c0⟩:=(HR.1.mono KF.1).int hlt;have hwd:=HW.1 _ (BO hlt);have hok:=HV.1.aqg (zf hwd);have bM:=HO.1 l[k];unfold oC at bM;rw [hok] at bM;have q1:0<=(k:Int):=AA
  have q2:(k:Int)<l.length:=AA
  clear hok
  cases har:Fb p l[k] with
  | none =>
   rw [har] at bM;have Zy:=AB bM;have hf:=aiB hlt har;rw [Hq.1] at hf;subst hf;clear har hwd bM;go_upto_region 7 with fail;refine D9 (wr) (.run 5 0 0 (.call 5 63 (.take 6 127 (.done)))) fun CQ QR Ae Aj hS=>?_
   iterate 5 refine Ak ?_
   refine II (Zy.1 _ (bT KF.1 hS)) ?_;clear hS;intro BZ BU hS;refine Ak ?_;refine D5 ?_;clear hS Aj Ae;intro hB;go_wp2;go_ret;exact ⟨rfl,bT KF.1 hB⟩
  | some a =>
  rw [har] at bM;have Zy:=AB bM;have hst:Nj p l (k+1)=Nj p l k+Q7 (Td p l[k]):=by
   have e0:l.getD k 0=l[k]:=by rw [Gm,Di hlt];rfl
   rw [Nj,e0,aqB HV.1 har]
  have ha:=(uf har).1;have hpl:=Fa p a;have hvl:=HV.1.Xr ha;have hub:=HV.1.ain l k;have hne:l[k]≠-9223372036854775808:=by
   intro e;rw [e] at har;unfold Fb at har;rw [AZ (.inr rfl)] at har;cases har
  have hbd:=zf hwd;have I9:=AB (HP.1 l[k] AA);have LY:=AB (show ∀ q∈Td p l[k],Xq q from fun q hq=>by
   rw [uh HV.1 har] at hq;split at hq
   · exact HV.1.zh ha hq
   · exact HV.1.zh ha (acY.1 hq))
  have hPl:(Td p l[k]).length=a.via.length+2:=by
   rw [uh HV.1 har];split
   · exact hpl
   · rw [WB];exact hpl
  have Ju:=AB (all_succ (p:=fun d=>(Fb p d).isSome=true) Hno.1 hlt (by rw [har];rfl));obtain ⟨N,hN⟩:∃ N,(Td p l[k]).length=N+1:=⟨(Td p l[k]).length-1,AA⟩;have HN:=AB hN;have hNs:N<=65:=AA
  clear hN hPl hvl;have Gg:=AB hst;have XK:=AB (show k+1<=512 by omega);clear hst har hwd hne hbd bM hpl;unfold Q7 at Gg;unfold Zm at I9;generalize Nj p l k=n at *;generalize hP:Td p l[k]=P at *;have hPd:=hP;clear hP;generalize hd:l[k]=d at *;have Hd:=AB hd;clear hPd hd;go_upto_region 7 with fail;refine D9 (wr) (.run 5 0 0 (.call 5 63 (.take 6 127 (.done)))) fun CQ QR Ae Aj hS=>?_
  iterate 5 refine Ak ?_
  refine II (Zy.1 _ (bT KF.1 hS)) ?_;clear hS;intro BZ BU hS;refine Ak ?_;refine D5 ?_;clear hS Aj Ae;intro hB;have B1:=AB (bT Hb.1 hB);have aqC:=AB (aiD.1.keep hB);clear hB X2 Bh Bq Bv CS c0 hlb;obtain ⟨w1,hw1⟩:=BR BZ;subst hw1;obtain ⟨b',o',hA,hlb,c0⟩:=(HR.1.mono (bT HB0.1 B1.1)).int hlt;simp only [Gt,Addr.mk.injEq,and_true] at hA;obtain ⟨rfl,rfl⟩:=hA;rw [Hd.1] at c0;have X2:=aqC.1
  try clear Bh Bq Bv CS
  obtain ⟨Bh,Bq,Bv,CS,-⟩:=X2.Az;go_upto_region 9 with fail;refine D9 (w1) (.run 5 0 0 (.call 5 63 (.take 6 127 (.done)))) fun CQ QR Ae Aj hS=>?_
  iterate 5 refine Ak ?_
  refine BN ?_;clear hS;intro K hK AP;go_simp;refine (I9.1 _ (bT (bT HB0.1 B1.1) AP.out)).mono ?_;rintro e BZ ⟨A2,c2,rfl,BU,ho2⟩;have hS:Since w1 BZ:=bT (w:=w1) AP.out BU;clear AP;refine hK.out _ _ hS (fun _=>?_);clear hK K
  try simp only [pu]
  refine Ak ?_;refine D5 ?_;clear hS Aj Ae;intro hB;have B2:=AB (bT B1.1 hB);obtain ⟨Aq,cq,he,hq1,hq2,Tf⟩:=ho2.sl;injection he with e1 e2 e3;subst e1 e3;clear e2;unfold maxLen at hq2;have bK:=AB Tf;clear hB ho2 Tf I9 X2 Bh Bq Bv CS c0 hlb;obtain ⟨W2,hw2⟩:=BR BZ;subst hw2;have hst2:=Gg.1;rw [HN.1,yg] at hst2;replace Gg:=AB hst2;rw [HN.1] at hq1 ⊢;clear hst2;have ug:=AB (fun j (hj:j+1<=P.length)=>aik LY.1 j (.inl hj));go_wp2_with fail;go_loopw [5,8] (fun s i wx=>∃ j:Nat,j<=N/\i=.int .i64 ((j:Int)+1)/\s=.int .i64 (n+Jt P j)/\AU W2 wx) (fun _ i _=>N+1-(intOf i).toNat)
  case atStart => exact ⟨0,BX _,rfl,by simp [Jt],bR W2⟩
  case round =>
   obtain ⟨j,hj,rfl,rfl,hbx⟩:=hrel;have G6:=AB hbx;clear hbx;by_cases hjl:j<N
   case pos =>
    have hP1:j<P.length:=by have:=HN.1;omega
    have hP2:j+1<P.length:=by have:=HN.1;omega
    obtain ⟨b1,o1,hA1,NK,c0,c1'⟩:=(bK.1.mono G6.1).pt hP1;subst hA1;obtain ⟨b2,o2,hA2,-,d0,d1⟩:=(bK.1.mono G6.1).pt hP2;simp only [Gt,Addr.mk.injEq,and_true] at hA2;obtain ⟨rfl,rfl⟩:=hA2;have g1:=LY.1 _ (BO hP1);have g2:=LY.1 _ (BO hP2);have x1:=oD g1.1 g2.2;have x2:=oD g2.1 g1.2;have tb:=ug.1 j (by have:=HN.1;omega);have hstep:n+Jt P (j+1)=n+Jt P j+P[j].x*P[j+1].y-P[j+1].x*P[j].y:=by
     rw [Jt];unfold Ox;simp only [Gm,Di hP1,Di hP2,Ih];omega
    have aex:=AB hstep;have hsz:=XK.1;clear hstep g1 g2;generalize P[j]=p1 at *;generalize P[j+1]=p2 at *;generalize hT:Jt P j=T at *;have q1:0<=(j:Int):=AA
    have q2:(j:Int)<(N:Int)+1:=AA
    have q3:0<=(j:Int)+1:=AA
    have q4:(j:Int)+1<(N:Int)+1:=AA
    have q5:((j:Int)+1).toNat=j+1:=AA
    have m0:=EL (j:Int);have m1:=EL (p1.x*p2.y);have m2:=EL (p2.x*p1.y);have m3:=EL (n+T+p1.x*p2.y);have m4:=EL (n+T+p1.x*p2.y-p2.x*p1.y);clear x1 x2 tb hT hub hsz;go_upto_region 13 with fail;refine D9 (wr) (.run 28 0 0 (.done)) fun CQ QR Ae Aj hS=>?_
    iterate 28 refine Ak ?_
    refine D5 ?_;clear hS Aj Ae;intro hB;have Bx:=AB (bT G6.1 hB);clear hB m0 m1 m2 m3 m4;go_wp2;go_roundw
    case rel => exact ⟨j+1,AA,BG,by rw [aex.1],Bx.1⟩
    case measure => exact BH
   case neg =>
   have hjj:j=N:=AA
   subst hjj;have Bx:=AB (bT B2.1 G6.1);clear hub;go_wp2;go_roundw
   case rel => exact ⟨k+1,AA,BG,by rw [Gg.1],Bx.1,Ju.1⟩
   case measure => exact BH
def Xt (F:Int->Int) (K:Nat):Prop:=∀ x,F (pw F x K)=pw F x K
theorem uj {F:Int->Int} {x:Int} {K:Nat} (h:F (pw F x K)=pw F x K) (n:Nat):pw F x (K+n)=pw F x K:=by
 induction n with
 | zero=>rfl
 | succ n ih=>show F (pw F x (K+n))=_;rw [ih,h]
theorem aiE {F:Int->Int} {x:Int} {i j:Nat} (hi:F (pw F x i)=pw F x i) (hj:F (pw F x j)=pw F x j):pw F x i=pw F x j:=by
 rcases Nat.le_total i j with h | h
 ·have:=uj hi (j-i)
  rw [show i+(j-i)=j by omega] at this;exact this.symm
 ·have:=uj hj (i-j)
  rw [show j+(i-j)=i by omega] at this;exact this
theorem Xt.more {F:Int->Int} {K M:Nat} (h:Xt F K) (hm:K<=M):Xt F M:=by
 intro x;have:=uj (h x) (M-K)
 rw [show K+(M-K)=M by omega] at this;rw [this];exact h x
theorem Xt.eq {F:Int->Int} {K M:Nat} (h:Xt F K) (hm:K<=M) (x:Int):pw F x M=pw F x K:=aiE (h.more hm x) (h x)
def LZ (F:Int->Int) (a b:Int) (i:Int):Int:=if i=a then b else F i
theorem aiF {F:Int->Int} {a b x:Int} (n:Nat) (h:∀ j,j<n->pw F x j≠a):pw (LZ F a b) x n=pw F x n:=by
 induction n with
 | zero=>rfl
 | succ n ih =>
  show LZ F a b (pw (LZ F a b) x n)=F (pw F x n)
  rw [ih (fun j hj=>h j AA)];unfold LZ;rw [AX (h n AA)]
theorem aiG {P:Nat->Prop} [DecidablePred P] : ∀ n,P n->∃ j,j<=n/\P j/\∀ i,i<j->¬ P i
 | 0,h=>⟨0,Cj _,h,fun i hi=>AA⟩
 | n+1,h=>by
  by_cases h2:∃ m,m<=n/\P m
  ·obtain ⟨m,hm,hp⟩:=h2;obtain ⟨j,h1,h3,h4⟩:=aiG m hp;exact ⟨j,AA,h3,h4⟩
  · exact ⟨n+1,Cj _,h,fun i hi hp=>h2 ⟨i,AA,hp⟩⟩
termination_by n=>n
decreasing_by omega
theorem aiH {F:Int->Int} {K:Nat} (h:Xt F K) {a b:Int} (ha:F a=a) (hb:F b=b) (hne:a≠b) :
  Xt (LZ F a b) (K+1)/\∀ x,pw (LZ F a b) x (K+1)=if pw F x K=a then b else pw F x K:=by
 have hfb:LZ F a b b=b:=by unfold LZ;rw [AX (fun e=>hne e.symm),hb]
 have key:∀ x,pw (LZ F a b) x (K+1)=if pw F x K=a then b else pw F x K:=by
  intro x;by_cases hx:pw F x K=a
  ·rw [AZ hx];obtain ⟨j,h1,h2,h3⟩:=aiG (P:=fun j=>pw F x j=a) K hx;have e1:pw (LZ F a b) x j=a:=by rw [aiF j h3];exact h2
   have e2:pw (LZ F a b) x (j+1)=b:=by
    show LZ F a b (pw (LZ F a b) x j)=b
    rw [e1];unfold LZ;rw [AZ rfl]
   have e3:LZ F a b (pw (LZ F a b) x (j+1))=pw (LZ F a b) x (j+1):=by rw [e2];exact hfb
   have:=uj e3 (K-j)
   rw [show j+1+(K-j)=K+1 by omega] at this;rw [this,e2]
  ·rw [AX hx];have hn:∀ j,j<K+1->pw F x j≠a:=by
    intro j hj e;have e2:F (pw F x j)=pw F x j:=by rw [e];exact ha
    exact hx ((aiE (h x) e2).trans e)
   rw [aiF (K+1) hn];exact uj (h x) 1
 refine ⟨fun x=>?_,key⟩;rw [key x];split
 · exact hfb
 ·rename_i hx;unfold LZ;rw [AX hx];exact h x
def Xu (l:List Nd) (i:Int):Int:=if i∈l.map (·.id) then i else 0
theorem aqD (l:List Nd):Xt (Xu l) 1:=by
 intro x
 show Xu l (Xu l x)=Xu l x
 unfold Xu;by_cases h:x∈l.map (·.id)
 · rw [AZ h,AZ h]
 · rw [AX h];split<;>rfl
def tN (K:Nat) (s:(Int->Int)×Int) (a:Ar):(Int->Int)×Int :=
 if pw s.1 a.fr K=pw s.1 a.dst K then s else (LZ s.1 (pw s.1 a.fr K) (pw s.1 a.dst K),s.2-1)
def Ti (p:Pl) (k:Nat):(Int->Int)×Int:=(p.AQ.take k).foldl (tN (p.AQ.length+1)) (Xu p.nodes,(p.nodes.length:Int))
theorem af0 (p:Pl) (k:Nat) (hk:k<p.AQ.length):Ti p (k+1)=tN (p.AQ.length+1) (Ti p k) p.AQ[k]:=by
 unfold Ti;rw [Em hk,WC];rfl
structure aqE (p:Pl) (k:Nat) (s:(Int->Int)×Int):Prop where
 flat:Xt s.1 (k+1)
 bd:∀ x,-1073741824<=s.1 x/\s.1 x<=1073741824
 lo:(p.nodes.length:Int)-k<=s.2
 hi:s.2<=p.nodes.length
theorem aqF {p:Pl} (h:Valid p) (k:Nat) (hk:k<=p.AQ.length):aqE p k (Ti p k):=by
 induction k with
 | zero =>
  refine ⟨aqD _,fun x=>?_,by simp [Ti],by simp [Ti]⟩
  show -1073741824<=Xu p.nodes x/\Xu p.nodes x<=1073741824
  unfold Xu;split
  ·rename_i hm;obtain ⟨n,hn,rfl⟩:=Ez.1 hm;have:=h.aqN hn
   omega
  · omega
 | succ k ih =>
  obtain ⟨h1,h2,h3,h4⟩:=ih AA;rw [af0 p k AA];generalize Ti p k=s at *;unfold tN;split
  · exact ⟨h1.more AA,h2,AA,h4⟩
  ·rename_i hne;have e1:∀ x,s.1 (pw s.1 x (p.AQ.length+1))=pw s.1 x (p.AQ.length+1):=h1.more AA;refine ⟨(aiH h1 (e1 _) (e1 _) hne).1,fun x=>?_,by show _<=s.2-1;omega,by show s.2-1<=_;omega⟩
   show -1073741824<=LZ _ _ _ x/\LZ _ _ _ x<=1073741824
   unfold LZ;split
   · rw [<- e1];exact h2 _
   · exact h2 _
