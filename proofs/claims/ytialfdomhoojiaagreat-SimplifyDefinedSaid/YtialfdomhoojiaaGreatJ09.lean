import Derived.Test.YtialfdomhoojiaaGreatJ08
set_option linter.unusedSimpArgs false
set_option linter.unusedVariables false
namespace Go.Proofs.YtialfdomhoojiaaGreat
open Go.RowKit
structure Valid (p:Pl):Prop where
 lim:nC p=false
 ord:wu p=true
 rng:qZ p=true
 dup:y8 (p.nodes.map (·.pt))=false
 ends:p.aj.all (jD p)=true
 sides:Bj p=true
 alG:rC p=true
theorem U9 (p:Pl):nZ p=0↔Valid p:=by
 unfold nZ;constructor
 ·intro h;split at h
  · cases h
  rename_i h1;split at h
  · cases h
  rename_i h2;split at h
  · cases h
  rename_i h3;split at h
  · cases h
  rename_i h4;split at h
  · cases h
  rename_i h5;split at h
  · cases h
  rename_i h6;split at h
  · cases h
  rename_i h7;exact ⟨by simpa using h1,by simpa using h2,by simpa using h3,by simpa using h4,by simpa using h5,by simpa using h6,by simpa using h7⟩
 ·rintro ⟨h1,h2,h3,h4,h5,h6,h7⟩;simp [h1,h2,h3,h4,h5,h6,h7]
section
variable {p:Pl}
theorem Valid.sound (h:Valid p):Sound p:=by
 have ho:=h.ord;unfold wu at ho;rw [avR,avR] at ho;exact ⟨Qj _ ho.1.1,Qj _ ho.1.2,awh.1 h.ends⟩
theorem alH {q:Pt} (h:iP q=true):aZ q=true:=by
 simp only [iP,avR,avQ] at h;rw [vJ];omega
theorem Valid.near (h:Valid p) {q:Pt} (hq:q∈vU p):aZ q=true:=by
 have hr:=h.rng;unfold qZ at hr;rw [avR] at hr;exact alH (awh.1 hr.2 q hq)
theorem Valid.Qo (h:Valid p) {n:Nd} (hn:n∈p.nodes):aZ n.pt=true:=h.near (List.mem_append_left _ (awd hn))
theorem Valid.alI (h:Valid p) {a:Ar} (ha:a∈p.aj) {q:Pt} (hq:q∈a.via):aZ q=true:=h.near (List.mem_append_right _ (List.mem_flatMap.2 ⟨a,ha,hq⟩))
theorem Sound.Ef (hp:Sound p) {a:Ar} (ha:a∈p.aj):∃ n∈p.nodes,n.id=a.fr/\nodeAt p a.fr=n.pt:=by
 obtain ⟨⟨n,hn,e⟩,-⟩:=hp.U2 ha;exact ⟨n,hn,e,by rw [<- e,hp.uI hn]⟩
theorem Sound.FI (hp:Sound p) {a:Ar} (ha:a∈p.aj):∃ n∈p.nodes,n.id=a.dst/\nodeAt p a.dst=n.pt:=by
 obtain ⟨-,⟨n,hn,e⟩⟩:=hp.U2 ha;exact ⟨n,hn,e,by rw [<- e,hp.uI hn]⟩
theorem Valid.aeN (h:Valid p) {a:Ar} (ha:a∈p.aj) {q:Pt} (hq:q∈au p a):aZ q=true:=by
 unfold au at hq;rcases av2.1 hq with rfl | hq
 ·obtain ⟨n,hn,-,e⟩:=h.sound.Ef ha;rw [e];exact h.Qo hn
 ·rcases av1.1 hq with hq | hq
  · exact h.alI ha hq
  ·rw [avY] at hq;subst hq;obtain ⟨n,hn,-,e⟩:=h.sound.FI ha;rw [e];exact h.Qo hn
end
theorem alJ (a b:Pt):bF a b=false↔b.x<a.x\/(a.x=b.x/\b.y<=a.y):=by
 rw [<- Bool.not_eq_true,oP];omega
theorem Z8 (a b:Pt):bF a (lo a b)=false:=by
 rcases Fg a b with ⟨h,-,h'⟩ | ⟨h,-,h'⟩
 · rw [h];exact Kr a
 · rw [h];exact sW h'
theorem aeO (a b:Pt):bF b (lo a b)=false:=by rw [Zx];exact Z8 b a
theorem Z9 (a b:Pt):bF (hi a b) a=false:=by
 rcases Fg a b with ⟨-,h,h'⟩ | ⟨-,h,h'⟩
 · rw [h];exact h'
 · rw [h];exact Kr a
theorem aeP (a b:Pt):bF (hi a b) b=false:=by rw [UL];exact Z9 b a
theorem aeQ {x y q:Pt} (h1:bF q x=false) (h2:bF q y=false):bF q (hi x y)=false:=by
 rcases Fg x y with ⟨-,h,-⟩ | ⟨-,h,-⟩<;>rw [h]<;>assumption
theorem aeR {x y q:Pt} (h1:bF x q=false) (h2:bF y q=false):bF (lo x y) q=false:=by
 rcases Fg x y with ⟨h,-,-⟩ | ⟨h,-,-⟩<;>rw [h]<;>assumption
theorem aeS {a b c d q:Pt} (h1:q=a\/q=b) (h2:q=c\/q=d):mO a b c d≠0:=by
 have f1:bF q (lo a b)=false:=by rcases h1 with rfl | rfl;exact Z8 _ _;exact aeO _ _
 have f2:bF q (lo c d)=false:=by rcases h2 with rfl | rfl;exact Z8 _ _;exact aeO _ _
 have g1:bF (hi a b) q=false:=by rcases h1 with rfl | rfl;exact Z9 _ _;exact aeP _ _
 have g2:bF (hi c d) q=false:=by rcases h2 with rfl | rfl;exact Z9 _ _;exact aeP _ _
 have f:=aeQ f1 f2;have g:=aeR g1 g2;rw [CX];generalize hi (lo a b) (lo c d)=x at *;generalize lo (hi a b) (hi c d)=y at *;by_cases hxy:x=y
 · rw [if_pos hxy];omega
 ·rw [if_neg hxy]
  have:bF x y=true:=by
   rw [alJ] at f g;rw [oP];have hne:¬ (x.x=y.x/\x.y=y.y):=fun e=>hxy (Pt.ext_iff'.2 e);omega
  rw [if_pos this];omega
theorem FK {a b c d:Pt} (ha:aZ a=true) (hb:aZ b=true) (hc:aZ c=true) (hd:aZ d=true):eu [a,b,c,d]=true:=by simp [eu,ha,hb,hc,hd]
theorem aeT {a b c:Pt} (ha:aZ a=true) (hb:aZ b=true) (hc:aZ c=true):iQ a b c b≠0:=by
 unfold iQ;rw [if_pos (FK ha hb hc hb)];unfold pG;have e1:aP a b a c=- aP a b c b:=by unfold aP;grind
 have e2:aP a b a b=0:=by unfold aP;grind
 have e3:aP c b c a=aP a b c b:=by unfold aP;grind
 have e4:aP c b c b=0:=by unfold aP;grind
 have e5:aP a c c b=aP a b c b:=by unfold aP;grind
 have e6:aP a c a b=aP a b c b:=by unfold aP;grind
 rw [if_neg (show ¬ (a=b/\c=b/\¬ a=c) from fun h=>h.2.2 (h.1.trans h.2.1.symm)),e1,e2,e3,e4,e5,e6];generalize aP a b c b=n at *;by_cases h0:n=0
 ·rw [if_pos h0,if_pos Pe];exact aeS (.inr rfl) (.inr rfl)
 ·rw [if_neg h0];by_cases hn:n<0
  · rw [if_pos hn,if_pos Pe];omega
  · rw [if_neg hn,if_pos Pe];omega
theorem alK {a b c:Pt} (ha:aZ a=true) (hb:aZ b=true) (hc:aZ c=true):iQ a b c a≠0:=by
 unfold iQ;rw [if_pos (FK ha hb hc ha)];unfold pG;have e1:aP a b a c=- aP a b c a:=by unfold aP;grind
 have e2:aP a b a a=0:=by unfold aP;grind
 have e3:aP c a c a=0:=by unfold aP;grind
 have e4:aP c a c b=- aP a b c a:=by unfold aP;grind
 have e5:aP a c c a=0:=by unfold aP;grind
 have e6:aP a c a b=aP a b c a:=by unfold aP;grind
 rw [if_neg (show ¬ (a=b/\c=a/\¬ a=c) from fun h=>h.2.2 h.2.1.symm),e1,e2,e3,e4,e5,e6];generalize aP a b c a=n at *;by_cases h0:n=0
 ·rw [if_pos h0,if_pos Pe];exact aeS (.inl rfl) (.inr rfl)
 ·rw [if_neg h0];by_cases hn:n<0
  · rw [if_pos hn,if_pos Pe];omega
  · rw [if_neg hn,if_pos Pe];omega
theorem alL {a b:Pt} (ha:aZ a=true) (hb:aZ b=true):nV a b b=true:=by
 unfold nV;have e1:aP a b a b=0:=by unfold aP;grind
 have e2:Fb a b b b=0:=by unfold Fb;grind
 simp [eu,ha,hb,e1,e2]
theorem alM {a b:Pt} (ha:aZ a=true) (hb:aZ b=true):nV a b a=true:=by
 unfold nV;have e1:aP a b a a=0:=by unfold aP;grind
 have e2:Fb a a b a=0:=by unfold Fb;grind
 simp [eu,ha,hb,e1,e2]
def eH (p:Pl) (a:Ar) (k:Nat):Sg:=⟨a,k,(au p a).length-1,(au p a).getD k aA,(au p a).getD (k+1) aA⟩
theorem aac {p:Pl} {a:Ar} {k:Nat} (hk:k+1<(au p a).length):eH p a k∈nY a (au p a) :=
 av6.2 ⟨k,List.mem_range.2 Pe,rfl⟩
theorem Je (p:Pl) (a:Ar) (j:Nat) (hj:j<a.via.length):(au p a).getD (j+1) aA=a.via[j]:=by
 unfold au;rw [List.getD_cons_succ,avT,List.getElem?_append_left hj,avG hj];rfl
theorem Dj (p:Pl) (a:Ar):(au p a).getD 0 aA=nodeAt p a.fr:=rfl
theorem alN (p:Pl) (a:Ar) (j:Nat) (hj:j<(au p a).length):(au p a).getD j aA∈au p a:=by
 rw [avT,avG hj];exact avF hj
section
variable {p:Pl} (h:Valid p)
include h
theorem Valid.wH:(∀ a∈p.aj,∀ k,k+1<(au p a).length->vZ p (eH p a k)=true) /\
  (∀ a∈p.aj,∀ k m,k<m->m+1<(au p a).length->zl (eH p a k) (eH p a m)=true) /\
  p.aj.Pairwise (fun a b=>∀ k,k+1<(au p a).length->∀ m,m+1<(au p b).length->sZ p (eH p a k) (eH p b m)=true):=by
 have hp:=h.alG;unfold rC at hp;rw [ZW] at hp;obtain ⟨h1,h2⟩:=hp;unfold Bh at h1 h2;rw [List.pairwise_flatMap] at h2;refine ⟨fun a ha k hk=>h1 _ (List.mem_flatMap.2 ⟨a,ha,aac hk⟩),fun a ha k m hkm hm=>?_,?_⟩
 ·have h3:=h2.1 a ha;unfold nY at h3;rw [List.pairwise_map,avJ] at h3;have h4:=h3 k m (by rw [List.length_range];omega) (by rw [List.length_range];omega) hkm;simp only [List.getElem_range] at h4;unfold tq at h4;rw [if_pos rfl] at h4;exact h4
 ·have hs:=h.sound.aj;rw [List.pairwise_map] at hs;refine (hs.and h2.2).imp ?_;rintro a b ⟨hlt,h3⟩ k hk m hm;have h4:=h3 _ (aac hk) _ (aac hm);unfold tq at h4;rw [if_neg (show ¬ (eH p a k).arc.id=(eH p b m).arc.id from fun e=>by have e':a.id=b.id:=e;omega)] at h4;exact h4
theorem Valid.dS {a:Ar} (ha:a∈p.aj) {k:Nat} (hk:k<(au p a).length):aZ ((au p a).getD k aA)=true:=h.aeN ha (alN p a k hk)
theorem Valid.NU {a:Ar} (ha:a∈p.aj) {k:Nat} (hk:k+1<(au p a).length) {n:Nd} (hn:n∈p.nodes) (ho:nV (eH p a k).a (eH p a k).b n.pt=true) :
  (k=0/\a.fr=n.id)\/(k=a.via.length/\a.dst=n.id):=by
 have h1:=h.wH.1 a ha k hk;unfold vZ at h1;rw [avR,awh] at h1;have h2:=h1.1 n hn;unfold vY at h2;rw [ho] at h2;unfold vX eH at h2;simp only [Bool.not_true,Bool.or_false,Bool.or_eq_true,avR,beq_iff_eq] at h2;have hl:=ig p a;rcases h2 with ⟨h3,h4⟩ | ⟨h3,h4⟩
 · left;exact ⟨by omega,h4⟩
 · right;exact ⟨by omega,h4⟩
theorem Valid.distinct {a:Ar} (ha:a∈p.aj) {k:Nat} (hk:k+1<(au p a).length):(au p a).getD k aA≠(au p a).getD (k+1) aA/\(a.fr=a.dst->4<=(au p a).length):=by
 have h1:=h.wH.1 a ha k hk;unfold vZ Bg eH at h1;simp only [avR,Bool.not_eq_true',avX,Bool.or_eq_true,bne_iff_ne,avQ] at h1;refine ⟨h1.2.1,fun e=>?_⟩;rcases h1.2.2 with h2 | h2
 · exact absurd e h2
 · omega
theorem Valid.aad {a:Ar} (ha:a∈p.aj) {j:Nat} (hj:j<a.via.length) {n:Nd} (hn:n∈p.nodes):a.via[j]≠n.pt:=by
 intro e;have hl:=ig p a;have hm:=Je p a j hj;have o1:nV (eH p a j).a (eH p a j).b n.pt=true:=by
  rw [<- e,<- hm];exact alL (h.dS ha Pe) (h.dS ha Pe)
 have o2:nV (eH p a (j+1)).a (eH p a (j+1)).b n.pt=true:=by
  rw [<- e,<- hm];exact alM (h.dS ha Pe) (h.dS ha Pe)
 rcases h.NU ha Pe hn o1 with ⟨h1,h2⟩ | ⟨h1,h2⟩
 ·have hd:=(h.distinct ha (k:=j) Pe).1;obtain ⟨n',hn',e1,e2⟩:=h.sound.Ef ha
  have:nodeAt p a.fr=n.pt:=by rw [h2];exact h.sound.uI hn
  subst h1;rw [Dj,this,hm,e] at hd;exact hd rfl
 · omega
theorem Valid.aeU {a:Ar} (ha:a∈p.aj) {j m:Nat} (hjm:j<m) (hm:m<a.via.length):a.via[j]≠a.via[m]:=by
 intro e;have hl:=ig p a;have e1:=Je p a j Pe;have e2:=Je p a m hm;by_cases hn:m=j+1
 ·subst hn;have:=(h.distinct ha (k:=j+1) Pe).1
  rw [e1,e2] at this;exact this e
 ·have h1:=h.wH.2.1 a ha j m hjm Pe;unfold zl at h1;have hc:¬ ((eH p a m).i=(eH p a j).i+1\/((eH p a j).i=0/\(eH p a m).i+1=(eH p a m).n/\(eH p a j).arc.fr=(eH p a j).arc.dst)):=by
   unfold eH;simp only [];omega
  rw [if_neg hc] at h1;have h2:iQ ((au p a).getD j aA) ((au p a).getD (j+1) aA) ((au p a).getD m aA) ((au p a).getD (m+1) aA)=0:=by simpa [eH] using h1
  rw [e2,<- e,<- e1] at h2;exact aeT (h.dS ha Pe) (h.dS ha Pe) (h.dS ha Pe) h2
theorem Valid.alO:p.aj.Pairwise (fun a b=>∀ x∈a.via,∀ y∈b.via,x≠y):=by
 refine (List.Pairwise.and_mem.1 h.wH.2.2).imp ?_;rintro a b ⟨ha,hb,hj⟩ x hx y hy e;obtain ⟨j,hjl,rfl⟩:=avI.1 hx;obtain ⟨m,hml,rfl⟩:=avI.1 hy;have hla:=ig p a;have hlb:=ig p b;have e1:=Je p a j hjl;have e2:=Je p b m hml;have j1:=hj j Pe m Pe;have j2:=hj (j+1) Pe m Pe;unfold sZ at j1 j2;have n1:iQ (eH p a j).a (eH p a j).b (eH p b m).a (eH p b m).b≠0:=by
  unfold eH;simp only [];rw [e2,<- e,<- e1];exact aeT (h.dS ha Pe) (h.dS ha Pe) (h.dS hb Pe)
 have n2:iQ (eH p a (j+1)).a (eH p a (j+1)).b (eH p b m).a (eH p b m).b≠0:=by
  unfold eH;simp only [];rw [e2,<- e,<- e1];exact alK (h.dS ha Pe) (h.dS ha Pe) (h.dS hb Pe)
 have m1:iQ (eH p a j).a (eH p a j).b (eH p b m).a (eH p b m).b=1:=by
  by_cases hh:iQ (eH p a j).a (eH p a j).b (eH p b m).a (eH p b m).b=1
  · exact hh
  · rw [if_neg hh] at j1;exact absurd (by simpa using j1) n1
 have m2:iQ (eH p a (j+1)).a (eH p a (j+1)).b (eH p b m).a (eH p b m).b=1:=by
  by_cases hh:iQ (eH p a (j+1)).a (eH p a (j+1)).b (eH p b m).a (eH p b m).b=1
  · exact hh
  · rw [if_neg hh] at j2;exact absurd (by simpa using j2) n2
 rw [if_pos m1,awg] at j1;rw [if_pos m2,awg] at j2;obtain ⟨n,hn,hn'⟩:=j1;obtain ⟨n',hm,hm'⟩:=j2;unfold ru at hn' hm';rw [avR,avR] at hn' hm';have k1:=h.NU ha Pe hn hn'.1.2;have k2:=h.NU hb Pe hn hn'.2;have k3:=h.NU ha Pe hm hm'.1.2;have k4:=h.NU hb Pe hm hm'.2;have hd:=(h.distinct ha (k:=j) Pe).2;omega
end
theorem alP {o a b:Pt} (ha:a≠o) (hb:b≠o) (h1:¬ gG o a b) (h2:¬ gG o b a):tw o a b=0/\(bF o a=true↔bF o b=true):=by
 have ha':=PZ.1 ha;have hb':=PZ.1 hb;unfold gG qI at h1 h2;have e:tw o a b=(a.x-o.x)*(b.y-o.y)-(a.y-o.y)*(b.x-o.x):=rfl;rw [oP,oP,e];generalize hux:a.x-o.x=ux at *;generalize huy:a.y-o.y=uy at *;generalize hvx:b.x-o.x=vx at *;generalize hvy:b.y-o.y=vy at *;rw [Int.mul_comm vx,Int.mul_comm vy] at h2;have hl:fZ ux uy↔fZ vx vy:=by
  by_cases l1:fZ ux uy<;>by_cases l2:fZ vx vy<;>simp [l1,l2] at h1 h2 ⊢
 have hz:ux*vy-uy*vx=0:=by
  rcases Int.lt_trichotomy (ux*vy-uy*vx) 0 with h | h | h
  · exact absurd (.inr ⟨hl.symm,by omega⟩) h2
  · exact h
  · exact absurd (.inr ⟨hl,h⟩) h1
 refine ⟨hz,?_⟩;have m1:∀ {a b:Int},0<a->0<b->0<a*b:=Int.mul_pos;have m2:∀ {a b:Int},0<a->b<0->a*b<0:=Int.mul_neg_of_pos_of_neg;have m3:∀ {a b:Int},a<0->0<b->a*b<0:=Int.mul_neg_of_neg_of_pos;have m4:∀ {a b:Int},a<0->b<0->0<a*b:=Int.mul_pos_of_neg_of_neg;unfold fZ at hl;have key:(0<ux↔0<vx)/\(ux<0↔vx<0):=by
  rcases Int.lt_trichotomy uy 0 with y1 | y1 | y1
  ·have y2:vy<0:=by
    rcases Int.lt_trichotomy vy 0 with y2 | y2 | y2
    · exact y2
    ·have h3:vx<0:=by omega
     have:=m4 y1 h3
     rw [y2,Int.mul_zero] at hz;omega
    · omega
   rcases Int.lt_trichotomy ux 0 with x1 | x1 | x1<;>rcases Int.lt_trichotomy vx 0 with x2 | x2 | x2
   · omega
   · have:=m4 x1 y2;rw [x2,Int.mul_zero] at hz;omega
   · have h3:=m4 x1 y2;have h4:=m3 y1 x2;omega
   · have:=m4 y1 x2;rw [x1,Int.zero_mul] at hz;omega
   · omega
   · have:=m3 y1 x2;rw [x1,Int.zero_mul] at hz;omega
   · have h3:=m2 x1 y2;have h4:=m4 y1 x2;omega
   · have:=m2 x1 y2;rw [x2,Int.mul_zero] at hz;omega
   · omega
  ·rw [y1,Int.zero_mul] at hz;have hx:ux≠0:=by omega
   have y2:vy=0:=by
    rcases Int.mul_eq_zero.1 (show ux*vy=0 by omega) with h | h
    · exact absurd h hx
    · exact h
   omega
  ·have y2:0<vy:=by
    rcases Int.lt_trichotomy vy 0 with y2 | y2 | y2
    · omega
    ·have h3:0<vx:=by omega
     have:=m1 y1 h3
     rw [y2,Int.mul_zero] at hz;omega
    · exact y2
   rcases Int.lt_trichotomy ux 0 with x1 | x1 | x1<;>rcases Int.lt_trichotomy vx 0 with x2 | x2 | x2
   · omega
   · have:=m3 x1 y2;rw [x2,Int.mul_zero] at hz;omega
   · have h3:=m3 x1 y2;have h4:=m1 y1 x2;omega
   · have:=m2 y1 x2;rw [x1,Int.zero_mul] at hz;omega
   · omega
   · have:=m1 y1 x2;rw [x1,Int.zero_mul] at hz;omega
   · have h3:=m1 x1 y2;have h4:=m2 y1 x2;omega
   · have:=m1 x1 y2;rw [x2,Int.mul_zero] at hz;omega
   · omega
 omega
theorem alQ {o a b:Pt} (ha:a≠o) (hb:b≠o) (h:bF o a=true↔bF o b=true):mO o a o b=2:=by
 have tri:∀ q:Pt,q≠o->bF o q=true\/bF q o=true:=fun q hq=>by
  cases h1:bF o q
  ·cases h2:bF q o
   · exact absurd (Ns h2 h1) hq
   · exact .inr rfl
  · exact .inl rfl
 rw [CX];rcases tri a ha with h1 | h1
 ·have h2:=h.1 h1;have e1:lo o a=o:=by unfold lo;rw [sW h1];simp
  have e2:lo o b=o:=by unfold lo;rw [sW h2];simp
  have e3:hi o a=a:=by unfold hi;rw [sW h1];simp
  have e4:hi o b=b:=by unfold hi;rw [sW h2];simp
  have e5:hi o o=o:=by unfold hi;rw [Kr];simp
  rw [e1,e2,e3,e4,e5];have e6:lo a b=a\/lo a b=b:=by unfold lo;split;exact .inr rfl;exact .inl rfl
  rcases e6 with e6 | e6<;>rw [e6]
  · rw [if_neg (fun e=>ha e.symm),if_pos h1]
  · rw [if_neg (fun e=>hb e.symm),if_pos h2]
 ·have h2:bF b o=true:=by
   rcases tri b hb with h3 | h3
   · rw [sW (h.2 h3)] at h1;cases h1
   · exact h3
  have e1:lo o a=a:=by unfold lo;rw [h1];simp
  have e2:lo o b=b:=by unfold lo;rw [h2];simp
  have e3:hi o a=o:=by unfold hi;rw [h1];simp
  have e4:hi o b=o:=by unfold hi;rw [h2];simp
  have e5:lo o o=o:=by unfold lo;rw [Kr];simp
  rw [e1,e2,e3,e4,e5];have e6:hi a b=a\/hi a b=b:=by unfold hi;split;exact .inl rfl;exact .inr rfl
  rcases e6 with e6 | e6<;>rw [e6]
  · rw [if_neg ha,if_pos h1]
  · rw [if_neg hb,if_pos h2]
theorem aeV {o a b:Pt} (ho:aZ o=true) (hna:aZ a=true) (hnb:aZ b=true) (ha:a≠o) (hb:b≠o) (h1:¬ gG o a b) (h2:¬ gG o b a) :
  iQ o a o b=2/\iQ a o o b=2/\iQ o a b o=2/\iQ a o b o=2:=by
 obtain ⟨hc,hbf⟩:=alP ha hb h1 h2;have hs:=alQ ha hb hbf;have c1:mO a o o b=2:=by rw [<- hs];exact Nu a o o b
 have c2:mO o a b o=2:=by rw [D8,Nu,D8];exact hs
 have c3:mO a o b o=2:=by rw [D8,Nu,D8];exact c1
 unfold tw at hc;unfold iQ pG;refine ⟨?_,?_,?_,?_⟩
 · rw [if_pos (FK ho hna ho hnb),if_neg (fun e=>ha e.1.symm),if_pos (by unfold aP;grind),if_pos ⟨by unfold aP;grind,by unfold aP;grind,by unfold aP;grind,by unfold aP;grind⟩];exact hs
 · rw [if_pos (FK hna ho ho hnb),if_neg (fun e=>ha e.1),if_pos (by unfold aP;grind),if_pos ⟨by unfold aP;grind,by unfold aP;grind,by unfold aP;grind,by unfold aP;grind⟩];exact c1
 · rw [if_pos (FK ho hna hnb ho),if_neg (fun e=>ha e.1.symm),if_pos (by unfold aP;grind),if_pos ⟨by unfold aP;grind,by unfold aP;grind,by unfold aP;grind,by unfold aP;grind⟩];exact c2
 · rw [if_pos (FK hna ho hnb ho),if_neg (fun e=>ha e.1),if_pos (by unfold aP;grind),if_pos ⟨by unfold aP;grind,by unfold aP;grind,by unfold aP;grind,by unfold aP;grind⟩];exact c3
section
variable {α:Type}
theorem Qp {lt:α->α->Bool}:∀ {l m:List α},l.Perm m->l.Pairwise (fun a b=>lt b a=false)->m.Pairwise (fun a b=>lt b a=false)->(∀ a∈l,∀ b∈l,lt a b=false->lt b a=false->a=b)->l=m
 | [],m,hp,_,_,_=>(List.nil_perm.1 hp).symm
 | a::l,[],hp,_,_,_=>by have:=hp.length_eq;simp at this
 | a::l,b::m,hp,h1,h2,ht=>by
  have h1':=List.pairwise_cons.1 h1;have h2':=List.pairwise_cons.1 h2;have hab:a=b:=by
   have ha:a∈b::m:=hp.subset (av3);have hb:b∈a::l:=hp.symm.subset (av3);rcases av2.1 ha with e | ha
   · exact e
   rcases av2.1 hb with e | hb
   · exact e.symm
   exact ht a av3 b (List.mem_cons_of_mem _ hb) (h2'.1 a ha) (h1'.1 b hb)
  subst hab;rw [Qp (List.Perm.cons_inv hp) h1'.2 h2'.2 (fun x hx y hy=>ht x (List.mem_cons_of_mem _ hx) y (List.mem_cons_of_mem _ hy))]
theorem Dk:∀ {l m:List Int},l.Nodup->(∀ x∈l,x∈m)->l.length<=m.length
 | [],m,_,_=>avK _
 | a::l,m,h,hs=>by
  have h':=List.nodup_cons.1 h;have ha:=hs a av3;have:=Dk (m:=m.erase a) h'.2 (fun x hx=>(List.mem_erase_of_ne (fun e=>h'.1 (by rw [<- e];exact hx))).2 (hs x (List.mem_cons_of_mem _ hx)))
  rw [List.length_erase_of_mem ha] at this;have hp:0<m.length:=List.length_pos_of_mem ha;simp only [avO];omega
def iter (f:Int->Int) (x:Int):Nat->List Int
 | 0=>[]
 | n+1=>x::iter f (f x) n
def pw (f:Int->Int) (x:Int):Nat->Int
 | 0=>x
 | n+1=>f (pw f x n)
theorem aeW (f:Int->Int) (x:Int) (n:Nat):pw f (f x) n=pw f x (n+1):=by
 induction n with
 | zero=>rfl
 | succ n ih=>rw [pw,ih];rfl
theorem xZ (f:Int->Int) (x:Int) (n:Nat):(iter f x n).length=n:=by
 induction n generalizing x with
 | zero=>rfl
 | succ n ih=>simp [iter,ih]
theorem KE (f:Int->Int) (x:Int) (n k:Nat) (hk:k<(iter f x n).length):(iter f x n)[k]=pw f x k:=by
 induction n generalizing x k with
 | zero=>simp [iter] at hk
 | succ n ih =>
  cases k with
  | zero=>rfl
  | succ k =>
   simp only [iter,List.getElem_cons_succ];rw [ih (f x) k (by simpa [iter] using hk),aeW]
theorem aae (f:Int->Int) (x:Int) (n:Nat):iter f x (n+1)=iter f x n++[pw f x n]:=by
 induction n generalizing x with
 | zero=>rfl
 | succ n ih =>
  rw [iter,ih (f x),aeW];rfl
variable {f:Int->Int} {D:List Int} (hD:∀ x∈D,f x∈D) (hi:∀ x∈D,∀ y∈D,f x=f y->x=y)
include hD in
theorem Eh {x:Int} (hx:x∈D) (n:Nat):pw f x n∈D:=by
 induction n with
 | zero=>exact hx
 | succ n ih=>exact hD _ ih
include hD hi in
theorem aeX {x:Int} (hx:x∈D) {i j:Nat} (h:pw f x i=pw f x (i+j)):pw f x j=x:=by
 induction i with
 | zero=>rw [Nat.zero_add] at h;exact h.symm
 | succ i ih =>
  refine ih (hi _ (Eh hD hx i) _ (Eh hD hx (i+j)) ?_);rw [show i+1+j=(i+j)+1 by omega] at h;exact h
theorem aeY (f:Int->Int) (x:Int) (n:Nat):(iter f x n).Nodup\/∃ i j,0<j/\i+j<n/\pw f x i=pw f x (i+j):=by
 induction n with
 | zero=>exact .inl List.nodup_nil
 | succ n ih =>
  rcases ih with h | ⟨i,j,h1,h2,h3⟩
  ·by_cases hm:pw f x n∈iter f x n
   ·right;obtain ⟨k,hk,e⟩:=avI.1 hm;rw [KE] at e;rw [xZ] at hk;exact ⟨k,n-k,by omega,by omega,by rw [e,show k+(n-k)=n by omega]⟩
   ·left;rw [aae,List.nodup_append];refine ⟨h,by simp,fun a ha b hb=>?_⟩;rw [avY] at hb;subst hb;exact fun e=>hm (e ▸ ha)
  · exact .inr ⟨i,j,h1,by omega,h3⟩
include hD hi in
theorem returns {x:Int} (hx:x∈D):∃ j,0<j/\j<=D.length/\pw f x j=x:=by
 rcases aeY f x (D.length+1) with h | ⟨i,j,h1,h2,h3⟩
 ·have:=Dk h (fun y hy=>by
   obtain ⟨k,hk,rfl⟩:=avI.1 hy;rw [KE];exact Eh hD hx k)
  rw [xZ] at this;omega
 · exact ⟨j,h1,by omega,aeX hD hi hx h3⟩
def per (f:Int->Int) (x:Int):Nat->Nat->Nat
 | k,0=>k
 | k,n+1=>if pw f x k=x then k else per f x (k+1) n
theorem alR (f:Int->Int) (x:Int) (k n:Nat):k<=per f x k n/\∀ j,k<=j->j<per f x k n->pw f x j≠x:=by
 induction n generalizing k with
 | zero=>exact ⟨awe _,fun j h1 h2=>by simp only [per] at h2;omega⟩
 | succ n ih =>
  unfold per;split
  · exact ⟨awe _,fun j h1 h2=>by omega⟩
  ·rename_i hne;obtain ⟨h1,h2⟩:=ih (k+1);refine ⟨by omega,fun j hj hj2=>?_⟩;by_cases e:j=k
   · subst e;exact hne
   · exact h2 j Pe hj2
theorem alS (f:Int->Int) (x:Int) (k n:Nat) (h:∃ j,k<=j/\j<=k+n/\pw f x j=x):pw f x (per f x k n)=x/\per f x k n<=k+n:=by
 induction n generalizing k with
 | zero =>
  obtain ⟨j,h1,h2,h3⟩:=h
  have:j=k:=by omega
  subst this;exact ⟨h3,awe _⟩
 | succ n ih =>
  unfold per;split
  · rename_i e;exact ⟨e,by omega⟩
  ·rename_i hne;obtain ⟨j,h1,h2,h3⟩:=h;have:=ih (k+1) ⟨j,by
    by_cases e:j=k
    · subst e;exact absurd h3 hne
    · omega,by omega,h3⟩
   exact ⟨this.1,by omega⟩
def nN (f:Int->Int) (D:List Int) (x:Int):Nat:=per f x 1 D.length
def lG (f:Int->Int) (D:List Int) (x:Int):List Int:=iter f x (nN f D x)
include hD hi in
theorem Dl {x:Int} (hx:x∈D):0<nN f D x/\nN f D x<=D.length+1/\pw f x (nN f D x)=x/\(∀ j,0<j->j<nN f D x->pw f x j≠x)/\(lG f D x).Nodup/\(lG f D x).length=nN f D x:=by
 obtain ⟨j,h1,h2,h3⟩:=returns hD hi hx;obtain ⟨a1,a2⟩:=alR f x 1 D.length;obtain ⟨b1,b2⟩:=alS f x 1 D.length ⟨j,h1,by omega,h3⟩;refine ⟨a1,by show per f x 1 D.length<=_;omega,b1,fun j h1 h2=>a2 j h1 h2,?_,xZ _ _ _⟩;rcases aeY f x (nN f D x) with h | ⟨i,j,c1,c2,c3⟩
 · exact h
 · exact absurd (aeX hD hi hx c3) (a2 j c1 (by unfold nN at c2;omega))
theorem BA {f:Int->Int} {x y:Int} {n:Nat}:y∈iter f x n↔∃ k,k<n/\pw f x k=y:=by
 rw [avI];constructor
 ·rintro ⟨k,hk,e⟩;rw [KE] at e;rw [xZ] at hk;exact ⟨k,hk,e⟩
 ·rintro ⟨k,hk,e⟩;exact ⟨k,by rw [xZ];exact hk,by rw [KE];exact e⟩
include hD hi in
theorem aaf {x y:Int} (hx:x∈D):y∈D->(f y∈lG f D x↔y∈lG f D x):=by
 intro hy;obtain ⟨h1,-,h3,-,-,-⟩:=Dl hD hi hx;unfold lG;rw [BA,BA];constructor
 ·rintro ⟨k,hk,e⟩
  cases k with
  | zero =>
   refine ⟨nN f D x-1,by omega,hi _ (Eh hD hx _) _ hy ?_⟩
   have:pw f x (nN f D x-1+1)=x:=by rw [Nat.sub_add_cancel h1];exact h3
   rw [pw] at this;rw [this];exact e
  | succ k=>exact ⟨k,by omega,hi _ (Eh hD hx _) _ hy e⟩
 ·rintro ⟨k,hk,rfl⟩;by_cases e:k+1=nN f D x
  ·refine ⟨0,h1,?_⟩;have h4:pw f x (k+1)=x:=by rw [e];exact h3
   exact h4.symm
  · exact ⟨k+1,by omega,rfl⟩
end
section
def rG (f:Int->Int) (D:List Int) (acc:List (List Int)) (d:Int):List (List Int):=if d∈acc.flatten then acc else acc++[lG f D d]
def Va (f:Int->Int) (D L:List Int):List (List Int):=L.foldl (rG f D) []
variable {f:Int->Int} {D:List Int}
theorem aeZ {x:Int} (h:0<nN f D x):x∈lG f D x:=BA.2 ⟨0,h,rfl⟩
theorem Qq (hD:∀ x∈D,f x∈D) {x y:Int} (hx:x∈D) (hy:y∈lG f D x):y∈D:=by
 obtain ⟨k,-,rfl⟩:=BA.1 hy;exact Eh hD hx k
structure rH (f:Int->Int) (D P:List Int) (acc:List (List Int)):Prop where
 NV:∀ l∈acc,∃ d∈P,l=lG f D d/\∀ e∈l,e∈P->d<=e
 covers:∀ x∈P,x∈acc.flatten
 nodup:acc.flatten.Nodup
 closed:∀ y∈D,f y∈acc.flatten↔y∈acc.flatten
theorem rH.back {P:List Int} {acc:List (List Int)} (h:rH f D P acc) (hD:∀ x∈D,f x∈D) {x:Int} (hx:x∈D) (k:Nat):pw f x k∈acc.flatten↔x∈acc.flatten:=by
 induction k with
 | zero=>exact Iff.rfl
 | succ k ih=>exact (h.closed _ (Eh hD hx k)).trans ih
theorem rH.nil (f:Int->Int) (D:List Int):rH f D [] []:=⟨fun l h=>(by cases h),fun x h=>(by cases h),List.nodup_nil,fun y _=>⟨fun h=>(by cases h),fun h=>(by cases h)⟩⟩
theorem rH.apart {P:List Int} {acc:List (List Int)} (h:rH f D P acc) (hD:∀ x∈D,f x∈D) {d:Int} (hd:d∈D) (hm:d∉acc.flatten) {y:Int} (hy:y∈lG f D d):y∉acc.flatten:=by
 obtain ⟨k,-,rfl⟩:=BA.1 hy;exact fun e=>hm ((h.back hD hd k).1 e)
theorem rH.step {P:List Int} {acc:List (List Int)} (h:rH f D P acc) (hD:∀ x∈D,f x∈D) (hi:∀ x∈D,∀ y∈D,f x=f y->x=y) {d:Int} (hd:d∈D) (hlt:∀ x∈P,x<d):rH f D (P++[d]) (rG f D acc d):=by
 unfold rG;by_cases hm:d∈acc.flatten
 ·rw [if_pos hm];refine ⟨fun l hl=>?_,fun x hx=>?_,h.nodup,h.closed⟩
  ·obtain ⟨d',h1,h2,h3⟩:=h.NV l hl;refine ⟨d',List.mem_append_left _ h1,h2,fun e he hp=>?_⟩;rcases av1.1 hp with hp | hp
   · exact h3 e he hp
   · rw [avY] at hp;subst hp;exact Int.le_of_lt (hlt _ h1)
  ·rcases av1.1 hx with hx | hx
   · exact h.covers x hx
   · rw [avY] at hx;subst hx;exact hm
 ·rw [if_neg hm];obtain ⟨o1,-,-,-,o5,-⟩:=Dl hD hi hd;have hfl:(acc++[lG f D d]).flatten=acc.flatten++lG f D d:=by simp
  refine ⟨fun l hl=>?_,fun x hx=>?_,?_,fun y hy=>?_⟩
  ·rcases av1.1 hl with hl | hl
   ·obtain ⟨d',h1,h2,h3⟩:=h.NV l hl;refine ⟨d',List.mem_append_left _ h1,h2,fun e he hp=>?_⟩;rcases av1.1 hp with hp | hp
    · exact h3 e he hp
    · rw [avY] at hp;subst hp;exact Int.le_of_lt (hlt _ h1)
   ·rw [avY] at hl;refine ⟨d,List.mem_append_right _ (avY.2 rfl),hl,fun e he hp=>?_⟩;subst hl;rcases av1.1 hp with hp | hp
    · exact absurd (h.covers e hp) (h.apart hD hd hm he)
    · rw [avY] at hp;exact Int.le_of_eq hp.symm
  ·rw [hfl];rcases av1.1 hx with hx | hx
   · exact List.mem_append_left _ (h.covers x hx)
   · rw [avY] at hx;subst hx;exact List.mem_append_right _ (aeZ o1)
  ·rw [hfl,List.nodup_append];exact ⟨h.nodup,o5,fun a ha b hb e=>h.apart hD hd hm hb (e ▸ ha)⟩
  · rw [hfl,av1,av1,h.closed y hy,aaf hD hi hd hy]
theorem aag (hD:∀ x∈D,f x∈D) (hi:∀ x∈D,∀ y∈D,f x=f y->x=y):∀ (L P:List Int) (acc:List (List Int)),rH f D P acc->(∀ x∈L,x∈D)->(P++L).Pairwise (· < ·)->rH f D (P++L) (L.foldl (rG f D) acc)
 | [],P,acc,h,_,_=>by rw [List.append_nil];exact h
 | d::L,P,acc,h,hs,hp=>by
  have hp':=List.pairwise_append.1 hp;have:=aag hD hi L (P++[d]) _ (h.step hD hi (hs d av3) (fun x hx=>hp'.2.2 x hx d av3)) (fun x hx=>hs x (List.mem_cons_of_mem _ hx)) (by rw [awm];exact hp)
  rw [awm] at this;exact this
theorem alT (hD:∀ x∈D,f x∈D) (hi:∀ x∈D,∀ y∈D,f x=f y->x=y) (hs:D.Pairwise (· < ·)):rH f D D (Va f D D):=by
 have:=aag hD hi D [] [] (rH.nil f D) (fun x hx=>hx) hs
 exact this
theorem rH.perm {acc:List (List Int)} (h:rH f D D acc) (hD:∀ x∈D,f x∈D) (hs:D.Nodup):acc.flatten.Perm D:=by
 refine (List.perm_ext_iff_of_nodup h.nodup hs).2 fun x=>⟨fun hx=>?_,h.covers x⟩;obtain ⟨l,hl,hx⟩:=List.mem_flatten.1 hx;obtain ⟨d,h1,h2,-⟩:=h.NV l hl;subst h2;exact Qq hD h1 hx
end
def iJ (d:Int):Int:=if d<0 then -d else d
def KF:Int:=-9223372036854775808
def iK (p:Pl) (d:Int):Option Ar:=if d=0\/d=KF then none else findAr p.aj (iJ d)
def lT (p:Pl) (d:Int):Int:=match iK p d with
 | none=>0
 | some a=>if 0<d then a.fr else a.dst
def iw (p:Pl) (d:Int):Int:=match iK p d with
 | none=>0
 | some a=>if 0<d then a.left else a.right
def eG (l:List Ar) (n:Int):List Int:=l.flatMap fun a=>(if a.fr=n then [a.id] else [])++(if a.dst=n then [-a.id] else [])
def fC (p:Pl) (d:Int):Pt:=match findAr p.aj (iJ d) with
 | none=>aA
 | some a=>if 0<d then (au p a).getD 1 aA else (au p a).getD a.via.length aA
def bf (p:Pl):List Int:=(p.aj.map (fun a=>-a.id)).reverse++p.aj.map (·.id)
section
variable {p:Pl} (h:Valid p)
include h
theorem Valid.kC {a:Ar} (ha:a∈p.aj):1<=a.id/\a.id<=1073741824:=by
 have hr:=h.rng;unfold qZ at hr;rw [avR] at hr;have h1:=hr.1;rw [Bool.not_eq_true',List.any_eq_false] at h1;have:=h1 a.id (List.mem_append_left _ (List.mem_append_right _ (awd ha)))
 unfold mX at this;simp only [Bool.or_eq_true,avQ,not_or] at this;omega
theorem Valid.alU {n:Nd} (hn:n∈p.nodes):1<=n.id/\n.id<=1073741824:=by
 have hr:=h.rng;unfold qZ at hr;rw [avR] at hr;have h1:=hr.1;rw [Bool.not_eq_true',List.any_eq_false] at h1;have:=h1 n.id (List.mem_append_left _ (List.mem_append_left _ (awd hn)))
 unfold mX at this;simp only [Bool.or_eq_true,avQ,not_or] at this;omega
theorem Valid.find {a:Ar} (ha:a∈p.aj):findAr p.aj a.id=some a:=U1 (fun x:Ar=>x.id) p.aj h.sound.aj a ha
theorem Valid.ae0 {a b:Ar} (ha:a∈p.aj) (hb:b∈p.aj) (e:a.id=b.id):a=b:=by
 have h1:=h.find ha;rw [e,h.find hb] at h1;exact (avP h1).symm
theorem Valid.NW {a:Ar} (ha:a∈p.aj):iK p a.id=some a:=by
 have:=h.kC ha
 unfold iK iJ KF;rw [if_neg Pe,if_neg Pe,h.find ha]
theorem Valid.Qr {a:Ar} (ha:a∈p.aj):iK p (-a.id)=some a:=by
 have:=h.kC ha
 unfold iK iJ KF;rw [if_neg Pe,if_pos Pe,Int.neg_neg,h.find ha]
theorem Valid.Vb {a:Ar} (ha:a∈p.aj):lT p a.id=a.fr:=by
 have:=h.kC ha
 unfold lT;rw [h.NW ha]
 show (if 0<a.id then a.fr else a.dst)=a.fr
 rw [if_pos Pe]
theorem Valid.Qs {a:Ar} (ha:a∈p.aj):lT p (-a.id)=a.dst:=by
 have:=h.kC ha
 unfold lT;rw [h.Qr ha]
 show (if 0 < -a.id then a.fr else a.dst)=a.dst
 rw [if_neg Pe]
theorem Valid.KG {a:Ar} (ha:a∈p.aj):fC p a.id=(au p a).getD 1 aA:=by
 have:=h.kC ha
 unfold fC iJ;rw [if_neg Pe,h.find ha]
 show (if 0<a.id then _ else _)=_
 rw [if_pos Pe]
theorem Valid.Jf {a:Ar} (ha:a∈p.aj):fC p (-a.id)=(au p a).getD a.via.length aA:=by
 have:=h.kC ha
 unfold fC iJ;rw [if_pos Pe,Int.neg_neg,h.find ha]
 show (if 0 < -a.id then _ else _)=_
 rw [if_neg Pe]
end
theorem wJ {l:List Ar} {n d:Int}:d∈eG l n↔∃ a∈l,(d=a.id/\a.fr=n)\/(d=-a.id/\a.dst=n):=by
 unfold eG;rw [List.mem_flatMap];refine exists_congr fun a=>and_congr_right fun _=>?_;rw [av1];constructor
 ·rintro (h | h)
  ·split at h
   · rw [avY] at h;exact .inl ⟨h,by assumption⟩
   · cases h
  ·split at h
   · rw [avY] at h;exact .inr ⟨h,by assumption⟩
   · cases h
 ·rintro (⟨h1,h2⟩ | ⟨h1,h2⟩)
  · left;rw [if_pos h2,h1];exact avY.2 rfl
  · right;rw [if_pos h2,h1];exact avY.2 rfl
theorem kZ {p:Pl} {d:Int}:d∈bf p↔∃ a∈p.aj,d=a.id\/d=-a.id:=by
 unfold bf;rw [av1,List.mem_reverse,av6,av6];constructor
 ·rintro (⟨a,ha,rfl⟩ | ⟨a,ha,rfl⟩)
  · exact ⟨a,ha,.inr rfl⟩
  · exact ⟨a,ha,.inl rfl⟩
 ·rintro ⟨a,ha,rfl | rfl⟩
  · exact .inr ⟨a,ha,rfl⟩
  · exact .inl ⟨a,ha,rfl⟩
section
variable {p:Pl} (h:Valid p)
include h
theorem Valid.aah {n:Nd} (hn:n∈p.nodes) {d:Int} (hd:d∈eG p.aj n.id):∃ a∈p.aj,∃ k,k+1<(au p a).length /\
  ((d=a.id/\k=0/\a.fr=n.id/\(au p a).getD k aA=n.pt/\(au p a).getD (k+1) aA=fC p d)\/(d=-a.id/\k=a.via.length/\a.dst=n.id/\(au p a).getD (k+1) aA=n.pt/\(au p a).getD k aA=fC p d)):=by
 obtain ⟨a,ha,h1⟩:=wJ.1 hd;have hl:=ig p a;rcases h1 with ⟨rfl,h2⟩ | ⟨rfl,h2⟩
 ·refine ⟨a,ha,0,by omega,.inl ⟨rfl,rfl,h2,?_,(h.KG ha).symm⟩⟩;rw [Dj,h2];exact h.sound.uI hn
 ·refine ⟨a,ha,a.via.length,by omega,.inr ⟨rfl,rfl,h2,?_,(h.Jf ha).symm⟩⟩;have:(au p a).getD (a.via.length+1) aA=nodeAt p a.dst:=by
   unfold au;rw [List.getD_cons_succ,avT,List.getElem?_append_right Pe];simp
  rw [this,h2];exact h.sound.uI hn
theorem Valid.KH {n:Nd} (hn:n∈p.nodes) {d:Int} (hd:d∈eG p.aj n.id):aZ n.pt=true/\aZ (fC p d)=true/\fC p d≠n.pt:=by
 obtain ⟨a,ha,k,hk,h1⟩:=h.aah hn hd;have n1:=h.dS ha (k:=k) Pe;have n2:=h.dS ha (k:=k+1) hk;have hne:=(h.distinct ha hk).1;rcases h1 with ⟨-,-,-,e1,e2⟩ | ⟨-,-,-,e1,e2⟩
 · rw [e1] at n1 hne;rw [e2] at n2 hne;exact ⟨n1,n2,hne.symm⟩
 · rw [e1] at n2 hne;rw [e2] at n1 hne;exact ⟨n2,n1,hne⟩
theorem Valid.dirs {n:Nd} (hn:n∈p.nodes) {d1 d2:Int} (h1:d1∈eG p.aj n.id) (h2:d2∈eG p.aj n.id) (hne:d1≠d2):gG n.pt (fC p d1) (fC p d2)\/gG n.pt (fC p d2) (fC p d1):=by
 by_cases c1:gG n.pt (fC p d1) (fC p d2)
 · exact .inl c1
 by_cases c2:gG n.pt (fC p d2) (fC p d1)
 · exact .inr c2
 exfalso;have key:∀ {e1 e2:Int},e1∈eG p.aj n.id->e2∈eG p.aj n.id->¬ gG n.pt (fC p e1) (fC p e2)->¬ gG n.pt (fC p e2) (fC p e1)->∀ {a b:Ar} {k m:Nat},
   ((au p a).getD k aA=n.pt/\(au p a).getD (k+1) aA=fC p e1\/(au p a).getD (k+1) aA=n.pt/\(au p a).getD k aA=fC p e1) ->
   ((au p b).getD m aA=n.pt/\(au p b).getD (m+1) aA=fC p e2\/(au p b).getD (m+1) aA=n.pt/\(au p b).getD m aA=fC p e2) ->
   iQ (eH p a k).a (eH p a k).b (eH p b m).a (eH p b m).b=2:=by
  intro e1 e2 m1 m2 q1 q2 a b k m s1 s2;obtain ⟨n0,n1,x1⟩:=h.KH hn m1;obtain ⟨-,n2,x2⟩:=h.KH hn m2;obtain ⟨r1,r2,r3,r4⟩:=aeV n0 n1 n2 x1 x2 q1 q2;unfold eH;rcases s1 with ⟨u1,u2⟩ | ⟨u1,u2⟩<;>rcases s2 with ⟨v1,v2⟩ | ⟨v1,v2⟩<;>simp only [u1,u2,v1,v2]
  · exact r1
  · exact r3
  · exact r2
  · exact r4
 obtain ⟨a,ha,k,hk,s1⟩:=h.aah hn h1;obtain ⟨b,hb,m,hm,s2⟩:=h.aah hn h2;have t1:(au p a).getD k aA=n.pt/\(au p a).getD (k+1) aA=fC p d1\/(au p a).getD (k+1) aA=n.pt/\(au p a).getD k aA=fC p d1:=by
  rcases s1 with ⟨-,-,-,e1,e2⟩ | ⟨-,-,-,e1,e2⟩
  · exact .inl ⟨e1,e2⟩
  · exact .inr ⟨e1,e2⟩
 have t2:(au p b).getD m aA=n.pt/\(au p b).getD (m+1) aA=fC p d2\/(au p b).getD (m+1) aA=n.pt/\(au p b).getD m aA=fC p d2:=by
  rcases s2 with ⟨-,-,-,e1,e2⟩ | ⟨-,-,-,e1,e2⟩
  · exact .inl ⟨e1,e2⟩
  · exact .inr ⟨e1,e2⟩
 have r12:=key h1 h2 c1 c2 t1 t2;have r21:=key h2 h1 c2 c1 t2 t1;by_cases hab:a=b
 ·subst hab;have hl:=ig p a;have same:∀ {d3 d4:Int} {i j:Nat},d3≠d4->((d3=a.id/\i=0/\a.fr=n.id)\/(d3=-a.id/\i=a.via.length/\a.dst=n.id))->((d4=a.id/\j=0/\a.fr=n.id)\/(d4=-a.id/\j=a.via.length/\a.dst=n.id))->iQ (eH p a i).a (eH p a i).b (eH p a j).a (eH p a j).b=2->i<j->False:=by
   intro d3 d4 i j hne z1 z2 z3 z4;rcases z1 with ⟨y1,y2,y3⟩ | ⟨y1,y2,y3⟩
   ·rcases z2 with ⟨x1,x2,x3⟩ | ⟨x1,x2,x3⟩
    · omega
    ·have h4:=(h.distinct ha (k:=i) Pe).2 (y3.trans x3.symm);have hap:=h.wH.2.1 a ha i j z4 Pe;unfold zl at hap;rw [z3] at hap;split at hap
     · simp at hap
     · simp at hap
   ·rcases z2 with ⟨x1,x2,x3⟩ | ⟨x1,x2,x3⟩
    · omega
    · omega
  have q1:(d1=a.id/\k=0/\a.fr=n.id)\/(d1=-a.id/\k=a.via.length/\a.dst=n.id):=by
   rcases s1 with ⟨y1,y2,y3,-⟩ | ⟨y1,y2,y3,-⟩
   · exact .inl ⟨y1,y2,y3⟩
   · exact .inr ⟨y1,y2,y3⟩
  have q2:(d2=a.id/\m=0/\a.fr=n.id)\/(d2=-a.id/\m=a.via.length/\a.dst=n.id):=by
   rcases s2 with ⟨y1,y2,y3,-⟩ | ⟨y1,y2,y3,-⟩
   · exact .inl ⟨y1,y2,y3⟩
   · exact .inr ⟨y1,y2,y3⟩
  rcases Nat.lt_trichotomy k m with hkm | hkm | hkm
  · exact same hne q1 q2 r12 hkm
  ·subst hkm;have hd4:=h.distinct ha hk;rcases q1 with ⟨y1,y2,y3⟩ | ⟨y1,y2,y3⟩
   ·rcases q2 with ⟨x1,x2,x3⟩ | ⟨x1,x2,x3⟩
    · exact hne (y1.trans x1.symm)
    · have:=hd4.2 (y3.trans x3.symm);omega
   ·rcases q2 with ⟨x1,x2,x3⟩ | ⟨x1,x2,x3⟩
    · have:=hd4.2 (x3.trans y3.symm);omega
    · exact hne (y1.trans x1.symm)
  · exact same (fun e=>hne e.symm) q2 q1 r21 hkm
 ·have hp:=h.wH.2.2;obtain ⟨i,hi,rfl⟩:=avI.1 ha;obtain ⟨j,hj,rfl⟩:=avI.1 hb;rw [avJ] at hp;have no2:∀ {s t:Sg},sZ p s t=true->iQ s.a s.b t.a t.b=2->False:=by
   intro s t hj2 h2;unfold sZ at hj2;rw [h2] at hj2;simp at hj2
  rcases Nat.lt_trichotomy i j with hij | hij | hij
  · exact no2 (hp i j hi hj hij k hk m hm) r12
  · subst hij;exact hab rfl
  · exact no2 (hp j i hj hi hij m hm k hk) r21
end
def Jg (n:Int):DataW Unit:=.lit (.int .i64 n)
def iiR:Value->Option (DataW Unit×List MemPlace)
 | .int .i64 n=>some (Jg n,[])
 | _=>none
theorem alV {v:Value} {n:Int} {ps:List MemPlace} (h:iiR v=some (Jg n,ps)):v=.int .i64 n:=by
 unfold iiR at h;split at h
 ·simp only [Jg,Option.some.injEq,Prod.mk.injEq,DataW.lit.injEq,Lit.int.injEq,true_and] at h;rw [h.1]
 · cases h
def oz (w:World) (b n:Nat) (f:Int->Int):Prop :=
 ∃ D:DataW Unit,w.ownsMap Tryz.prog 3 iiR b n D/\Maps.IsMap D/\∀ id,D.atKey (.int .i64 id) (Jg 0)=Jg (f id)
theorem oz.kept {w w':World} {b n:Nat} {f:Int->Int} (h:oz w b n f) {row:Option Nat} (hg:w.grownBy w' row) (hr:some b≠row):oz w' b n f:=by
 obtain ⟨D,h1,h2⟩:=h;exact ⟨D,h1.kept hg hr,h2⟩
theorem oz.keep {w w':World} {b n:Nat} {f:Int->Int} (h:oz w b n f) (hb:Below w.heap.size w w'):oz w' b n f :=
 h.kept (row:=none) ⟨hb.os,hb.tape,hb.output,hb.size,fun i hi _=>hb.block i hi⟩ ars
theorem oz.lt {w:World} {b n:Nat} {f:Int->Int} (h:oz w b n f):b<w.heap.size:=by
 obtain ⟨D,h1,h2⟩:=h;exact h1.lt
theorem oz.made (w:World):oz (w.alloc (.map #[] 0)) w.heap.size 0 (fun _=>0) :=
 ⟨.map [],World.ownsMap_made _ _ _ _,⟨_,rfl⟩,fun _=>rfl⟩
theorem alW (w:World):(zeroValue 3).run Tryz.prog w=.ok (.int .i64 0) w:=by kernel_rfl
theorem oz.look {w:World} {b n:Nat} {f:Int->Int} (h:oz w b n f) (id:Int) (hid:eU id) :
  (Instr.lookup 96 (.map (some b)) (.int .i64 id) false).run Tryz.prog w=.ok (.int .i64 (f id)) w:=by
 obtain ⟨D,h1,-,h2⟩:=h;obtain ⟨v,ps,hr,hv⟩:=h1.lookup CB Tryz.underlying96 (alW w) (zd:=Jg 0) (zp:=[]) rfl (Maps.keyOf_int_mk Tryz.underlying3 hid);rw [h2] at hv;rw [hr,alV hv]
theorem oz.upd {w:World} {b n:Nat} {f:Int->Int} (h:oz w b n f) (hn:n<4294967296) (id:Int) (hid:eU id) (x:Int) :
  ∃ w',(Instr.mapUpdate 96 (.map (some b)) (.int .i64 id) (.int .i64 x)).run Tryz.prog w=.ok () w'/\oz w' b (n+1) (fun i=>if i=id then x else f i)/\w.grownBy w' (some b):=by
 obtain ⟨D,h1,hm,h2⟩:=h;obtain ⟨w',hr,ho,hg⟩:=h1.update CB Tryz.underlying96 (by unfold maxLen;omega) (Maps.keyOf_int_mk Tryz.underlying3 hid) (val:=.int .i64 x) (d:=Jg x) (ps:=[]) rfl;refine ⟨w',hr,⟨_,ho,?_,fun i=>?_⟩,hg⟩
 · obtain ⟨es,rfl⟩:=hm;exact ⟨_,rfl⟩
 ·show _=Jg (if i=id then x else f i)
  by_cases e:i=id
  ·subst e;rw [if_pos rfl];exact Maps.atKey_put_same hm (by trivial) _ _
  · rw [if_neg e,Maps.atKey_put_other (fun h=>e (by injection h)),h2]
def BD (b:Bool):DataW Unit:=.lit (.bool b)
def Vd:Value->Option (DataW Unit×List MemPlace)
 | .bool b=>some (BD b,[])
 | _=>none
theorem ae1 {v:Value} {b:Bool} {ps:List MemPlace} (h:Vd v=some (BD b,ps)):v=.bool b:=by
 unfold Vd at h;split at h
 ·simp only [BD,Option.some.injEq,Prod.mk.injEq,DataW.lit.injEq,Lit.bool.injEq] at h;rw [h.1]
 · cases h
def oC (w:World) (b n:Nat) (f:Int->Bool):Prop :=
 ∃ D:DataW Unit,w.ownsMap Tryz.prog 3 Vd b n D/\Maps.IsMap D/\∀ id,D.atKey (.int .i64 id) (BD false)=BD (f id)
theorem oC.kept {w w':World} {b n:Nat} {f:Int->Bool} (h:oC w b n f) {row:Option Nat} (hg:w.grownBy w' row) (hr:some b≠row):oC w' b n f:=by
 obtain ⟨D,h1,h2⟩:=h;exact ⟨D,h1.kept hg hr,h2⟩
theorem oC.keep {w w':World} {b n:Nat} {f:Int->Bool} (h:oC w b n f) (hb:Below w.heap.size w w'):oC w' b n f :=
 h.kept (row:=none) ⟨hb.os,hb.tape,hb.output,hb.size,fun i hi _=>hb.block i hi⟩ ars
theorem oC.lt {w:World} {b n:Nat} {f:Int->Bool} (h:oC w b n f):b<w.heap.size:=by
 obtain ⟨D,h1,h2⟩:=h;exact h1.lt
theorem oC.made (w:World):oC (w.alloc (.map #[] 0)) w.heap.size 0 (fun _=>false) :=
 ⟨.map [],World.ownsMap_made _ _ _ _,⟨_,rfl⟩,fun _=>rfl⟩
theorem ae2 (w:World):(zeroValue 4).run Tryz.prog w=.ok (.bool false) w:=by kernel_rfl
theorem oC.look {w:World} {b n:Nat} {f:Int->Bool} (h:oC w b n f) (id:Int) (hid:eU id) :
  (Instr.lookup 139 (.map (some b)) (.int .i64 id) false).run Tryz.prog w=.ok (.bool (f id)) w:=by
 obtain ⟨D,h1,-,h2⟩:=h;obtain ⟨v,ps,hr,hv⟩:=h1.lookup CB Tryz.underlying139 (ae2 w) (zd:=BD false) (zp:=[]) rfl (Maps.keyOf_int_mk Tryz.underlying3 hid);rw [h2] at hv;rw [hr,ae1 hv]
theorem oC.upd {w:World} {b n:Nat} {f:Int->Bool} (h:oC w b n f) (hn:n<4294967296) (id:Int) (hid:eU id) (x:Bool) :
  ∃ w',(Instr.mapUpdate 139 (.map (some b)) (.int .i64 id) (.bool x)).run Tryz.prog w=.ok () w'/\oC w' b (n+1) (fun i=>if i=id then x else f i)/\w.grownBy w' (some b):=by
 obtain ⟨D,h1,hm,h2⟩:=h;obtain ⟨w',hr,ho,hg⟩:=h1.update CB Tryz.underlying139 (by unfold maxLen;omega) (Maps.keyOf_int_mk Tryz.underlying3 hid) (val:=.bool x) (d:=BD x) (ps:=[]) rfl;refine ⟨w',hr,⟨_,ho,?_,fun i=>?_⟩,hg⟩
 · obtain ⟨es,rfl⟩:=hm;exact ⟨_,rfl⟩
 ·show _=BD (if i=id then x else f i)
  by_cases e:i=id
  ·subst e;rw [if_pos rfl];exact Maps.atKey_put_same hm (by trivial) _ _
  · rw [if_neg e,Maps.atKey_put_other (fun h=>e (by injection h)),h2]
def bg (x:SV):Value:=.slice x.a x.n x.c
def yg (n:Nat):DataW Unit:=.lit (.int .i64 (n:Int))
def FM (x:SV):DataW Unit:=match x.a with
 | none=>.agg [yg x.n,yg x.c]
 | some ⟨b,o,none⟩=>.agg [yg b,yg o,yg x.n,yg x.c]
 | some ⟨_,_,some _⟩=>.agg []
def Ve:Value->Option (DataW Unit×List MemPlace)
 | .slice none n c=>some (.agg [yg n,yg c],[])
 | .slice (some ⟨b,o,none⟩) n c=>some (.agg [yg b,yg o,yg n,yg c],[])
 | _=>none
theorem alX {v:Value} {x:SV} {ps:List MemPlace} (h:Ve v=some (FM x,ps)):v=bg x:=by
 obtain ⟨a,n,c⟩:=x;unfold Ve at h;split at h
 ·rename_i n' c';unfold FM at h;rcases a with _ | ⟨b,o,_ | q⟩
  ·simp only [Option.some.injEq,Prod.mk.injEq,DataW.agg.injEq,List.cons.injEq,yg,DataW.lit.injEq,Lit.int.injEq,and_true,true_and] at h;have h1:n'=n:=by omega
   have h2:c'=c:=by omega
   subst h1 h2;rfl
  · simp at h
  · simp at h
 ·rename_i b' o' n' c';unfold FM at h;rcases a with _ | ⟨b,o,_ | q⟩
  · simp at h
  ·simp only [Option.some.injEq,Prod.mk.injEq,DataW.agg.injEq,List.cons.injEq,yg,DataW.lit.injEq,Lit.int.injEq,and_true,true_and] at h;have h1:b'=b:=by omega
   have h2:o'=o:=by omega
   have h3:n'=n:=by omega
   have h4:c'=c:=by omega
   subst h1 h2 h3 h4;rfl
  · simp at h
 · cases h
def SV.ok (x:SV):Prop:=x.a=none\/∃ b o,x.a=some ⟨b,o,none⟩
theorem alY {x:SV} (h:x.ok):Ve (bg x)=some (FM x,[]):=by
 obtain ⟨a,n,c⟩:=x;rcases h with h | ⟨b,o,h⟩
 · simp only at h;subst h;rfl
 · simp only at h;subst h;rfl
def sv0:SV:=⟨none,0,0⟩
def pJ (w:World) (b n:Nat) (f:Int->SV):Prop :=
 ∃ D:DataW Unit,w.ownsMap Tryz.prog 3 Ve b n D/\Maps.IsMap D/\∀ id,D.atKey (.int .i64 id) (FM sv0)=FM (f id)
theorem pJ.kept {w w':World} {b n:Nat} {f:Int->SV} (h:pJ w b n f) {row:Option Nat} (hg:w.grownBy w' row) (hr:some b≠row):pJ w' b n f:=by
 obtain ⟨D,h1,h2⟩:=h;exact ⟨D,h1.kept hg hr,h2⟩
theorem pJ.keep {w w':World} {b n:Nat} {f:Int->SV} (h:pJ w b n f) (hb:Below w.heap.size w w'):pJ w' b n f :=
 h.kept (row:=none) ⟨hb.os,hb.tape,hb.output,hb.size,fun i hi _=>hb.block i hi⟩ ars
theorem pJ.lt {w:World} {b n:Nat} {f:Int->SV} (h:pJ w b n f):b<w.heap.size:=by
 obtain ⟨D,h1,h2⟩:=h;exact h1.lt
theorem pJ.made (w:World):pJ (w.alloc (.map #[] 0)) w.heap.size 0 (fun _=>sv0) :=
 ⟨.map [],World.ownsMap_made _ _ _ _,⟨_,rfl⟩,fun _=>rfl⟩
theorem alZ (w:World):(zeroValue 46).run Tryz.prog w=.ok (.slice none 0 0) w:=by kernel_rfl
theorem pJ.look {w:World} {b n:Nat} {f:Int->SV} (h:pJ w b n f) (id:Int) (hid:eU id) :
  (Instr.lookup 78 (.map (some b)) (.int .i64 id) false).run Tryz.prog w=.ok (bg (f id)) w:=by
 obtain ⟨D,h1,-,h2⟩:=h;obtain ⟨v,ps,hr,hv⟩:=h1.lookup CB Tryz.underlying78 (alZ w) (zd:=FM sv0) (zp:=[]) rfl (Maps.keyOf_int_mk Tryz.underlying3 hid);rw [h2] at hv;rw [hr,alX hv]
theorem pJ.upd {w:World} {b n:Nat} {f:Int->SV} (h:pJ w b n f) (hn:n<4294967296) (id:Int) (hid:eU id) (x:SV) (hx:x.ok) :
  ∃ w',(Instr.mapUpdate 78 (.map (some b)) (.int .i64 id) (bg x)).run Tryz.prog w=.ok () w'/\pJ w' b (n+1) (fun i=>if i=id then x else f i)/\w.grownBy w' (some b):=by
 obtain ⟨D,h1,hm,h2⟩:=h;obtain ⟨w',hr,ho,hg⟩:=h1.update CB Tryz.underlying78 (by unfold maxLen;omega) (Maps.keyOf_int_mk Tryz.underlying3 hid) (val:=bg x) (d:=FM x) (ps:=[]) (alY hx);refine ⟨w',hr,⟨_,ho,?_,fun i=>?_⟩,hg⟩
 · obtain ⟨es,rfl⟩:=hm;exact ⟨_,rfl⟩
 ·show _=FM (if i=id then x else f i)
  by_cases e:i=id
  ·subst e;rw [if_pos rfl];exact Maps.atKey_put_same hm (by trivial) _ _
  · rw [if_neg e,Maps.atKey_put_other (fun h=>e (by injection h)),h2]
end Go.Proofs.YtialfdomhoojiaaGreat
