import Derived.Test.YtialfdomhoojiaaGreatJ08
set_option linter.unusedSimpArgs false
set_option linter.unusedVariables false
namespace Go.Proofs.YtialfdomhoojiaaGreat
open Go.RowKit
structure Valid (p:Pl):Prop where
 lim:JX p=false
 ord:Qw p=true
 rng:OE p=true
 dup:UC (p.nodes.map (·.pt))=false
 ends:p.AU.all (KY p)=true
 sides:Ue p=true
 aqG:Og p=true
theorem dP (p:Pl):Ig p=0↔Valid p:=by
 unfold Ig;constructor
 ·intro h;split at h
  · cases h
  rename_i h1;split at h
  · cases h
  rename_i h2;split at h
  · cases h
  rename_i h3;split at h
  · cases h
  rename_i h4;split at h
  · cases h
  rename_i h5;split at h
  · cases h
  rename_i h6;split at h
  · cases h
  rename_i h7;exact ⟨by simpa using h1,by simpa using h2,by simpa using h3,by simpa using h4,by simpa using h5,by simpa using h6,by simpa using h7⟩
 ·rintro ⟨h1,h2,h3,h4,h5,h6,h7⟩;simp [h1,h2,h3,h4,h5,h6,h7]
section
variable {p:Pl}
theorem Valid.sound (h:Valid p):Sound p:=by
 have ho:=h.ord;unfold Qw at ho;rw [Em,Em] at ho;exact ⟨uo _ ho.1.1,uo _ ho.1.2,JF.1 h.ends⟩
theorem adO {q:Pt} (h:Ik q=true):Bg q=true:=by
 simp only [Ik,Em,E8] at h;rw [Qq];omega
theorem Valid.near (h:Valid p) {q:Pt} (hq:q∈Zv p):Bg q=true:=by
 have hr:=h.rng;unfold OE at hr;rw [Em] at hr;exact adO (JF.1 hr.2 q hq)
theorem Valid.uf (h:Valid p) {n:Nd} (hn:n∈p.nodes):Bg n.pt=true:=h.near (Oa _ (Gs hn))
theorem Valid.aqH (h:Valid p) {a:Ar} (ha:a∈p.AU) {q:Pt} (hq:q∈a.via):Bg q=true:=h.near (Xv _ (GY.2 ⟨a,ha,hq⟩))
theorem Sound.XK (hp:Sound p) {a:Ar} (ha:a∈p.AU):∃ n∈p.nodes,n.id=a.fr/\nodeAt p a.fr=n.pt:=by
 obtain ⟨⟨n,hn,e⟩,-⟩:=hp.aBM ha;exact ⟨n,hn,e,by rw [<- e,hp.QM hn]⟩
theorem Sound.Yt (hp:Sound p) {a:Ar} (ha:a∈p.AU):∃ n∈p.nodes,n.id=a.dst/\nodeAt p a.dst=n.pt:=by
 obtain ⟨-,⟨n,hn,e⟩⟩:=hp.aBM ha;exact ⟨n,hn,e,by rw [<- e,hp.QM hn]⟩
theorem Valid.wF (h:Valid p) {a:Ar} (ha:a∈p.AU) {q:Pt} (hq:q∈AV p a):Bg q=true:=by
 unfold AV at hq;rcases EJ.1 hq with rfl | hq
 ·obtain ⟨n,hn,-,e⟩:=h.sound.XK ha;rw [e];exact h.uf hn
 ·rcases FZ.1 hq with hq | hq
  · exact h.aqH ha hq
  ·rw [ED] at hq;subst hq;obtain ⟨n,hn,-,e⟩:=h.sound.Yt ha;rw [e];exact h.uf hn
end
theorem aqI (a b:Pt):CB a b=false↔b.x<a.x\/(a.x=b.x/\b.y<=a.y):=by
 rw [<- Iz,MH];omega
theorem adP (a b:Pt):CB a (lo a b)=false:=by
 rcases YE a b with ⟨h,-,h'⟩ | ⟨h,-,h'⟩
 · rw [h];exact iY a
 · rw [h];exact PO h'
theorem agh (a b:Pt):CB b (lo a b)=false:=by rw [acM];exact adP b a
theorem adQ (a b:Pt):CB (hi a b) a=false:=by
 rcases YE a b with ⟨-,h,h'⟩ | ⟨-,h,h'⟩
 · rw [h];exact h'
 · rw [h];exact iY a
theorem agi (a b:Pt):CB (hi a b) b=false:=by rw [aAh];exact adQ b a
theorem agj {x y q:Pt} (h1:CB q x=false) (h2:CB q y=false):CB q (hi x y)=false:=by
 rcases YE x y with ⟨-,h,-⟩ | ⟨-,h,-⟩<;>rw [h]<;>assumption
theorem aiA {x y q:Pt} (h1:CB x q=false) (h2:CB y q=false):CB (lo x y) q=false:=by
 rcases YE x y with ⟨h,-,-⟩ | ⟨h,-,-⟩<;>rw [h]<;>assumption
theorem aiB {a b c d q:Pt} (h1:q=a\/q=b) (h2:q=c\/q=d):Jw a b c d≠0:=by
 have f1:CB q (lo a b)=false:=by rcases h1 with rfl | rfl;exact adP _ _;exact agh _ _
 have f2:CB q (lo c d)=false:=by rcases h2 with rfl | rfl;exact adP _ _;exact agh _ _
 have g1:CB (hi a b) q=false:=by rcases h1 with rfl | rfl;exact adQ _ _;exact agi _ _
 have g2:CB (hi c d) q=false:=by rcases h2 with rfl | rfl;exact adQ _ _;exact agi _ _
 have f:=agj f1 f2;have g:=aiA g1 g2;rw [Ve];generalize hi (lo a b) (lo c d)=x at *;generalize lo (hi a b) (hi c d)=y at *;by_cases hxy:x=y
 · rw [AZ hxy];omega
 ·rw [AX hxy]
  have:CB x y=true:=by
   rw [aqI] at f g;rw [MH];have hne:¬ (x.x=y.x/\x.y=y.y):=fun e=>hxy (Pt.ext_iff'.2 e);omega
  rw [AZ this];omega
theorem Yu {a b c d:Pt} (ha:Bg a=true) (hb:Bg b=true) (hc:Bg c=true) (hd:Bg d=true):Dy [a,b,c,d]=true:=by simp [Dy,ha,hb,hc,hd]
theorem aiC {a b c:Pt} (ha:Bg a=true) (hb:Bg b=true) (hc:Bg c=true):Fp a b c b≠0:=by
 unfold Fp;rw [AZ (Yu ha hb hc hb)];unfold Me;have e1:BM a b a c=- BM a b c b:=by unfold BM;grind
 have e2:BM a b a b=0:=by unfold BM;grind
 have e3:BM c b c a=BM a b c b:=by unfold BM;grind
 have e4:BM c b c b=0:=by unfold BM;grind
 have e5:BM a c c b=BM a b c b:=by unfold BM;grind
 have e6:BM a c a b=BM a b c b:=by unfold BM;grind
 rw [AX (show ¬ (a=b/\c=b/\¬ a=c) from fun h=>h.2.2 (h.1.trans h.2.1.symm)),e1,e2,e3,e4,e5,e6];generalize BM a b c b=n at *;by_cases h0:n=0
 ·rw [AZ h0,AZ AB];exact aiB (.inr rfl) (.inr rfl)
 ·rw [AX h0];by_cases hn:n<0
  · rw [AZ hn,AZ AB];omega
  · rw [AX hn,AZ AB];omega
theorem aqJ {a b c:Pt} (ha:Bg a=true) (hb:Bg b=true) (hc:Bg c=true):Fp a b c a≠0:=by
 unfold Fp;rw [AZ (Yu ha hb hc ha)];unfold Me;have e1:BM a b a c=- BM a b c a:=by unfold BM;grind
 have e2:BM a b a a=0:=by unfold BM;grind
 have e3:BM c a c a=0:=by unfold BM;grind
 have e4:BM c a c b=- BM a b c a:=by unfold BM;grind
 have e5:BM a c c a=0:=by unfold BM;grind
 have e6:BM a c a b=BM a b c a:=by unfold BM;grind
 rw [AX (show ¬ (a=b/\c=a/\¬ a=c) from fun h=>h.2.2 h.2.1.symm),e1,e2,e3,e4,e5,e6];generalize BM a b c a=n at *;by_cases h0:n=0
 ·rw [AZ h0,AZ AB];exact aiB (.inl rfl) (.inr rfl)
 ·rw [AX h0];by_cases hn:n<0
  · rw [AZ hn,AZ AB];omega
  · rw [AX hn,AZ AB];omega
theorem aqK {a b:Pt} (ha:Bg a=true) (hb:Bg b=true):LZ a b b=true:=by
 unfold LZ;have e1:BM a b a b=0:=by unfold BM;grind
 have e2:Y9 a b b b=0:=by unfold Y9;grind
 simp [Dy,ha,hb,e1,e2]
theorem aqL {a b:Pt} (ha:Bg a=true) (hb:Bg b=true):LZ a b a=true:=by
 unfold LZ;have e1:BM a b a a=0:=by unfold BM;grind
 have e2:Y9 a a b a=0:=by unfold Y9;grind
 simp [Dy,ha,hb,e1,e2]
def Dj (p:Pl) (a:Ar) (k:Nat):Sg:=⟨a,k,(AV p a).length-1,(AV p a).getD k AY,(AV p a).getD (k+1) AY⟩
theorem adR {p:Pl} {a:Ar} {k:Nat} (hk:k+1<(AV p a).length):Dj p a k∈Lc a (AV p a) :=
 EM.2 ⟨k,F5.2 AB,rfl⟩
theorem dQ (p:Pl) (a:Ar) (j:Nat) (hj:j<a.via.length):(AV p a).getD (j+1) AY=a.via[j]:=by
 unfold AV;rw [aal,Fj,List.getElem?_append_left hj,DK hj];rfl
theorem WJ (p:Pl) (a:Ar):(AV p a).getD 0 AY=nodeAt p a.fr:=rfl
theorem aqM (p:Pl) (a:Ar) (j:Nat) (hj:j<(AV p a).length):(AV p a).getD j AY∈AV p a:=by
 rw [Fj,DK hj];exact BH hj
section
variable {p:Pl} (h:Valid p)
include h
theorem Valid.Qx:(∀ a∈p.AU,∀ k,k+1<(AV p a).length->Qv p (Dj p a k)=true) /\
  (∀ a∈p.AU,∀ k m,k<m->m+1<(AV p a).length->UD (Dj p a k) (Dj p a m)=true) /\
  p.AU.Pairwise (fun a b=>∀ k,k+1<(AV p a).length->∀ m,m+1<(AV p b).length->PU p (Dj p a k) (Dj p b m)=true):=by
 have hp:=h.aqG;unfold Og at hp;rw [abz] at hp;obtain ⟨h1,h2⟩:=hp;unfold Ud at h1 h2;rw [aA9] at h2;refine ⟨fun a ha k hk=>h1 _ (GY.2 ⟨a,ha,adR hk⟩),fun a ha k m hkm hm=>?_,?_⟩
 ·have h3:=h2.1 a ha;unfold Lc at h3;rw [IL,Fe] at h3;have h4:=h3 k m (by rw [Qj];omega) (by rw [Qj];omega) hkm;simp only [List.getElem_range] at h4;unfold PV at h4;rw [AZ rfl] at h4;exact h4
 ·have hs:=h.sound.AU;rw [IL] at hs;refine (hs.and h2.2).imp ?_;rintro a b ⟨hlt,h3⟩ k hk m hm;have h4:=h3 _ (adR hk) _ (adR hm);unfold PV at h4;rw [AX (show ¬ (Dj p a k).arc.id=(Dj p b m).arc.id from fun e=>by have e':a.id=b.id:=e;omega)] at h4;exact h4
theorem Valid.DW {a:Ar} (ha:a∈p.AU) {k:Nat} (hk:k<(AV p a).length):Bg ((AV p a).getD k AY)=true:=h.wF ha (aqM p a k hk)
theorem Valid.lU {a:Ar} (ha:a∈p.AU) {k:Nat} (hk:k+1<(AV p a).length) {n:Nd} (hn:n∈p.nodes) (ho:LZ (Dj p a k).a (Dj p a k).b n.pt=true) :
  (k=0/\a.fr=n.id)\/(k=a.via.length/\a.dst=n.id):=by
 have h1:=h.Qx.1 a ha k hk;unfold Qv at h1;rw [Em,JF] at h1;have h2:=h1.1 n hn;unfold Ro at h2;rw [ho] at h2;unfold Rl Dj at h2;simp only [Bool.not_true,Bool.or_false,L6,Em,beq_iff_eq] at h2;have hl:=Eh p a;rcases h2 with ⟨h3,h4⟩ | ⟨h3,h4⟩
 · left;exact ⟨AB,h4⟩
 · right;exact ⟨AB,h4⟩
theorem Valid.distinct {a:Ar} (ha:a∈p.AU) {k:Nat} (hk:k+1<(AV p a).length):(AV p a).getD k AY≠(AV p a).getD (k+1) AY/\(a.fr=a.dst->4<=(AV p a).length):=by
 have h1:=h.Qx.1 a ha k hk;unfold Qv Uc Dj at h1;simp only [Em,Ru,J3,L6,bne_iff_ne,E8] at h1;refine ⟨h1.2.1,fun e=>?_⟩;rcases h1.2.2 with h2 | h2
 · exact absurd e h2
 · omega
theorem Valid.adS {a:Ar} (ha:a∈p.AU) {j:Nat} (hj:j<a.via.length) {n:Nd} (hn:n∈p.nodes):a.via[j]≠n.pt:=by
 intro e;have hl:=Eh p a;have hm:=dQ p a j hj;have o1:LZ (Dj p a j).a (Dj p a j).b n.pt=true:=by
  rw [<- e,<- hm];exact aqK (h.DW ha AB) (h.DW ha AB)
 have o2:LZ (Dj p a (j+1)).a (Dj p a (j+1)).b n.pt=true:=by
  rw [<- e,<- hm];exact aqL (h.DW ha AB) (h.DW ha AB)
 rcases h.lU ha AB hn o1 with ⟨h1,h2⟩ | ⟨h1,h2⟩
 ·have hd:=(h.distinct ha (k:=j) AB).1;obtain ⟨n',hn',e1,e2⟩:=h.sound.XK ha
  have:nodeAt p a.fr=n.pt:=by rw [h2];exact h.sound.QM hn
  subst h1;rw [WJ,this,hm,e] at hd;exact hd rfl
 · omega
theorem Valid.aiD {a:Ar} (ha:a∈p.AU) {j m:Nat} (hjm:j<m) (hm:m<a.via.length):a.via[j]≠a.via[m]:=by
 intro e;have hl:=Eh p a;have e1:=dQ p a j AB;have e2:=dQ p a m hm;by_cases hn:m=j+1
 ·subst hn;have:=(h.distinct ha (k:=j+1) AB).1
  rw [e1,e2] at this;exact this e
 ·have h1:=h.Qx.2.1 a ha j m hjm AB;unfold UD at h1;have hc:¬ ((Dj p a m).i=(Dj p a j).i+1\/((Dj p a j).i=0/\(Dj p a m).i+1=(Dj p a m).n/\(Dj p a j).arc.fr=(Dj p a j).arc.dst)):=by
   unfold Dj;simp only [];omega
  rw [AX hc] at h1;have h2:Fp ((AV p a).getD j AY) ((AV p a).getD (j+1) AY) ((AV p a).getD m AY) ((AV p a).getD (m+1) AY)=0:=by simpa [Dj] using h1
  rw [e2,<- e,<- e1] at h2;exact aiC (h.DW ha AB) (h.DW ha AB) (h.DW ha AB) h2
theorem Valid.aqN:p.AU.Pairwise (fun a b=>∀ x∈a.via,∀ y∈b.via,x≠y):=by
 refine (List.Pairwise.and_mem.1 h.Qx.2.2).imp ?_;rintro a b ⟨ha,hb,hj⟩ x hx y hy e;obtain ⟨j,hjl,rfl⟩:=Dp.1 hx;obtain ⟨m,hml,rfl⟩:=Dp.1 hy;have hla:=Eh p a;have hlb:=Eh p b;have e1:=dQ p a j hjl;have e2:=dQ p b m hml;have j1:=hj j AB m AB;have j2:=hj (j+1) AB m AB;unfold PU at j1 j2;have n1:Fp (Dj p a j).a (Dj p a j).b (Dj p b m).a (Dj p b m).b≠0:=by
  unfold Dj;simp only [];rw [e2,<- e,<- e1];exact aiC (h.DW ha AB) (h.DW ha AB) (h.DW hb AB)
 have n2:Fp (Dj p a (j+1)).a (Dj p a (j+1)).b (Dj p b m).a (Dj p b m).b≠0:=by
  unfold Dj;simp only [];rw [e2,<- e,<- e1];exact aqJ (h.DW ha AB) (h.DW ha AB) (h.DW hb AB)
 have m1:Fp (Dj p a j).a (Dj p a j).b (Dj p b m).a (Dj p b m).b=1:=by
  by_cases hh:Fp (Dj p a j).a (Dj p a j).b (Dj p b m).a (Dj p b m).b=1
  · exact hh
  · rw [AX hh] at j1;exact absurd (by simpa using j1) n1
 have m2:Fp (Dj p a (j+1)).a (Dj p a (j+1)).b (Dj p b m).a (Dj p b m).b=1:=by
  by_cases hh:Fp (Dj p a (j+1)).a (Dj p a (j+1)).b (Dj p b m).a (Dj p b m).b=1
  · exact hh
  · rw [AX hh] at j2;exact absurd (by simpa using j2) n2
 rw [AZ m1,PE] at j1;rw [AZ m2,PE] at j2;obtain ⟨n,hn,hn'⟩:=j1;obtain ⟨n',hm,hm'⟩:=j2;unfold Oe at hn' hm';rw [Em,Em] at hn' hm';have k1:=h.lU ha AB hn hn'.1.2;have k2:=h.lU hb AB hn hn'.2;have k3:=h.lU ha AB hm hm'.1.2;have k4:=h.lU hb AB hm hm'.2;have hd:=(h.distinct ha (k:=j) AB).2;omega
end
theorem aqO {o a b:Pt} (ha:a≠o) (hb:b≠o) (h1:¬ ET o a b) (h2:¬ ET o b a):tw o a b=0/\(CB o a=true↔CB o b=true):=by
 have ha':=uH.1 ha;have hb':=uH.1 hb;unfold ET OG at h1 h2;have e:tw o a b=(a.x-o.x)*(b.y-o.y)-(a.y-o.y)*(b.x-o.x):=rfl;rw [MH,MH,e];generalize hux:a.x-o.x=ux at *;generalize huy:a.y-o.y=uy at *;generalize hvx:b.x-o.x=vx at *;generalize hvy:b.y-o.y=vy at *;rw [KL vx,KL vy] at h2;have hl:ER ux uy↔ER vx vy:=by
  by_cases l1:ER ux uy<;>by_cases l2:ER vx vy<;>simp [l1,l2] at h1 h2 ⊢
 have hz:ux*vy-uy*vx=0:=by
  rcases Ic (ux*vy-uy*vx) 0 with h | h | h
  · exact absurd (.inr ⟨hl.symm,AB⟩) h2
  · exact h
  · exact absurd (.inr ⟨hl,h⟩) h1
 refine ⟨hz,?_⟩;have m1:∀ {a b:Int},0<a->0<b->0<a*b:=JO;have m2:∀ {a b:Int},0<a->b<0->a*b<0:=Wj;have m3:∀ {a b:Int},a<0->0<b->a*b<0:=VI;have m4:∀ {a b:Int},a<0->b<0->0<a*b:=rW;unfold ER at hl;have key:(0<ux↔0<vx)/\(ux<0↔vx<0):=by
  rcases Ic uy 0 with y1 | y1 | y1
  ·have y2:vy<0:=by
    rcases Ic vy 0 with y2 | y2 | y2
    · exact y2
    ·have h3:vx<0:=by omega
     have:=m4 y1 h3
     rw [y2,KN] at hz;omega
    · omega
   rcases Ic ux 0 with x1 | x1 | x1<;>rcases Ic vx 0 with x2 | x2 | x2
   · omega
   · have:=m4 x1 y2;rw [x2,KN] at hz;omega
   · have h3:=m4 x1 y2;have h4:=m3 y1 x2;omega
   · have:=m4 y1 x2;rw [x1,JQ] at hz;omega
   · omega
   · have:=m3 y1 x2;rw [x1,JQ] at hz;omega
   · have h3:=m2 x1 y2;have h4:=m4 y1 x2;omega
   · have:=m2 x1 y2;rw [x2,KN] at hz;omega
   · omega
  ·rw [y1,JQ] at hz;have hx:ux≠0:=by omega
   have y2:vy=0:=by
    rcases Wn.1 (show ux*vy=0 by omega) with h | h
    · exact absurd h hx
    · exact h
   omega
  ·have y2:0<vy:=by
    rcases Ic vy 0 with y2 | y2 | y2
    · omega
    ·have h3:0<vx:=by omega
     have:=m1 y1 h3
     rw [y2,KN] at hz;omega
    · exact y2
   rcases Ic ux 0 with x1 | x1 | x1<;>rcases Ic vx 0 with x2 | x2 | x2
   · omega
   · have:=m3 x1 y2;rw [x2,KN] at hz;omega
   · have h3:=m3 x1 y2;have h4:=m1 y1 x2;omega
   · have:=m2 y1 x2;rw [x1,JQ] at hz;omega
   · omega
   · have:=m1 y1 x2;rw [x1,JQ] at hz;omega
   · have h3:=m1 x1 y2;have h4:=m2 y1 x2;omega
   · have:=m1 x1 y2;rw [x2,KN] at hz;omega
   · omega
 omega
theorem aqP {o a b:Pt} (ha:a≠o) (hb:b≠o) (h:CB o a=true↔CB o b=true):Jw o a o b=2:=by
 have tri:∀ q:Pt,q≠o->CB o q=true\/CB q o=true:=fun q hq=>by
  cases h1:CB o q
  ·cases h2:CB q o
   · exact absurd (nU h2 h1) hq
   · exact .inr rfl
  · exact .inl rfl
 rw [Ve];rcases tri a ha with h1 | h1
 ·have h2:=h.1 h1;have e1:lo o a=o:=by unfold lo;rw [PO h1];simp
  have e2:lo o b=o:=by unfold lo;rw [PO h2];simp
  have e3:hi o a=a:=by unfold hi;rw [PO h1];simp
  have e4:hi o b=b:=by unfold hi;rw [PO h2];simp
  have e5:hi o o=o:=by unfold hi;rw [iY];simp
  rw [e1,e2,e3,e4,e5];have e6:lo a b=a\/lo a b=b:=by unfold lo;split;exact .inr rfl;exact .inl rfl
  rcases e6 with e6 | e6<;>rw [e6]
  · rw [AX (fun e=>ha e.symm),AZ h1]
  · rw [AX (fun e=>hb e.symm),AZ h2]
 ·have h2:CB b o=true:=by
   rcases tri b hb with h3 | h3
   · rw [PO (h.2 h3)] at h1;cases h1
   · exact h3
  have e1:lo o a=a:=by unfold lo;rw [h1];simp
  have e2:lo o b=b:=by unfold lo;rw [h2];simp
  have e3:hi o a=o:=by unfold hi;rw [h1];simp
  have e4:hi o b=o:=by unfold hi;rw [h2];simp
  have e5:lo o o=o:=by unfold lo;rw [iY];simp
  rw [e1,e2,e3,e4,e5];have e6:hi a b=a\/hi a b=b:=by unfold hi;split;exact .inl rfl;exact .inr rfl
  rcases e6 with e6 | e6<;>rw [e6]
  · rw [AX ha,AZ h1]
  · rw [AX hb,AZ h2]
theorem aiE {o a b:Pt} (ho:Bg o=true) (hna:Bg a=true) (hnb:Bg b=true) (ha:a≠o) (hb:b≠o) (h1:¬ ET o a b) (h2:¬ ET o b a) :
  Fp o a o b=2/\Fp a o o b=2/\Fp o a b o=2/\Fp a o b o=2:=by
 obtain ⟨hc,hbf⟩:=aqO ha hb h1 h2;have hs:=aqP ha hb hbf;have c1:Jw a o o b=2:=by rw [<- hs];exact nV a o o b
 have c2:Jw o a b o=2:=by rw [XF,nV,XF];exact hs
 have c3:Jw a o b o=2:=by rw [XF,nV,XF];exact c1
 unfold tw at hc;unfold Fp Me;refine ⟨?_,?_,?_,?_⟩
 · rw [AZ (Yu ho hna ho hnb),AX (fun e=>ha e.1.symm),AZ NY,AZ ⟨NY,NY,NY,NY⟩];exact hs
 · rw [AZ (Yu hna ho ho hnb),AX (fun e=>ha e.1),AZ NY,AZ ⟨NY,NY,NY,NY⟩];exact c1
 · rw [AZ (Yu ho hna hnb ho),AX (fun e=>ha e.1.symm),AZ NY,AZ ⟨NY,NY,NY,NY⟩];exact c2
 · rw [AZ (Yu hna ho hnb ho),AX (fun e=>ha e.1),AZ NY,AZ ⟨NY,NY,NY,NY⟩];exact c3
section
variable {α:Type}
theorem iF {lt:α->α->Bool}:∀ {l m:List α},l.Perm m->l.Pairwise (fun a b=>lt b a=false)->m.Pairwise (fun a b=>lt b a=false)->(∀ a∈l,∀ b∈l,lt a b=false->lt b a=false->a=b)->l=m
 | [],m,hp,_,_,_=>(List.nil_perm.1 hp).symm
 | a::l,[],hp,_,_,_=>by have:=hp.length_eq;simp at this
 | a::l,b::m,hp,h1,h2,ht=>by
  have h1':=JC.1 h1;have h2':=JC.1 h2;have hab:a=b:=by
   have ha:a∈b::m:=hp.subset (Ea);have hb:b∈a::l:=hp.symm.subset (Ea);rcases EJ.1 ha with e | ha
   · exact e
   rcases EJ.1 hb with e | hb
   · exact e.symm
   exact ht a Ea b (Gn _ hb) (h2'.1 a ha) (h1'.1 b hb)
  subst hab;rw [iF (List.Perm.cons_inv hp) h1'.2 h2'.2 (fun x hx y hy=>ht x (Gn _ hx) y (Gn _ hy))]
theorem Uy:∀ {l m:List Int},l.Nodup->(∀ x∈l,x∈m)->l.length<=m.length
 | [],m,_,_=>BZ _
 | a::l,m,h,hs=>by
  have h':=sN.1 h;have ha:=hs a Ea;have:=Uy (m:=m.erase a) h'.2 (fun x hx=>(List.mem_erase_of_ne (fun e=>h'.1 (by rw [<- e];exact hx))).2 (hs x (Gn _ hx)))
  rw [List.length_erase_of_mem ha] at this;have hp:0<m.length:=List.length_pos_of_mem ha;simp only [I9];omega
def iter (f:Int->Int) (x:Int):Nat->List Int
 | 0=>[]
 | n+1=>x::iter f (f x) n
def pw (f:Int->Int) (x:Int):Nat->Int
 | 0=>x
 | n+1=>f (pw f x n)
theorem aiF (f:Int->Int) (x:Int) (n:Nat):pw f (f x) n=pw f x (n+1):=by
 induction n with
 | zero=>rfl
 | succ n ih=>rw [pw,ih];rfl
theorem Wv (f:Int->Int) (x:Int) (n:Nat):(iter f x n).length=n:=by
 induction n generalizing x with
 | zero=>rfl
 | succ n ih=>simp [iter,ih]
theorem iG (f:Int->Int) (x:Int) (n k:Nat) (hk:k<(iter f x n).length):(iter f x n)[k]=pw f x k:=by
 induction n generalizing x k with
 | zero=>simp [iter] at hk
 | succ n ih =>
  cases k with
  | zero=>rfl
  | succ k =>
   simp only [iter,List.getElem_cons_succ];rw [ih (f x) k (by simpa [iter] using hk),aiF]
theorem adT (f:Int->Int) (x:Int) (n:Nat):iter f x (n+1)=iter f x n++[pw f x n]:=by
 induction n generalizing x with
 | zero=>rfl
 | succ n ih =>
  rw [iter,ih (f x),aiF];rfl
variable {f:Int->Int} {D:List Int} (hD:∀ x∈D,f x∈D) (hi:∀ x∈D,∀ y∈D,f x=f y->x=y)
include hD in
theorem Wx {x:Int} (hx:x∈D) (n:Nat):pw f x n∈D:=by
 induction n with
 | zero=>exact hx
 | succ n ih=>exact hD _ ih
include hD hi in
theorem aiG {x:Int} (hx:x∈D) {i j:Nat} (h:pw f x i=pw f x (i+j)):pw f x j=x:=by
 induction i with
 | zero=>rw [QC] at h;exact h.symm
 | succ i ih =>
  refine ih (hi _ (Wx hD hx i) _ (Wx hD hx (i+j)) ?_);rw [show i+1+j=(i+j)+1 by omega] at h;exact h
theorem aiH (f:Int->Int) (x:Int) (n:Nat):(iter f x n).Nodup\/∃ i j,0<j/\i+j<n/\pw f x i=pw f x (i+j):=by
 induction n with
 | zero=>exact .inl List.nodup_nil
 | succ n ih =>
  rcases ih with h | ⟨i,j,h1,h2,h3⟩
  ·by_cases hm:pw f x n∈iter f x n
   ·right;obtain ⟨k,hk,e⟩:=Dp.1 hm;rw [iG] at e;rw [Wv] at hk;exact ⟨k,n-k,AB,AB,by rw [e,show k+(n-k)=n by omega]⟩
   ·left;rw [adT,List.nodup_append];refine ⟨h,Aw,fun a ha b hb=>?_⟩;rw [ED] at hb;subst hb;exact fun e=>hm (e ▸ ha)
  · exact .inr ⟨i,j,h1,AB,h3⟩
include hD hi in
theorem returns {x:Int} (hx:x∈D):∃ j,0<j/\j<=D.length/\pw f x j=x:=by
 rcases aiH f x (D.length+1) with h | ⟨i,j,h1,h2,h3⟩
 ·have:=Uy h (fun y hy=>by
   obtain ⟨k,hk,rfl⟩:=Dp.1 hy;rw [iG];exact Wx hD hx k)
  rw [Wv] at this;omega
 · exact ⟨j,h1,AB,aiG hD hi hx h3⟩
def per (f:Int->Int) (x:Int):Nat->Nat->Nat
 | k,0=>k
 | k,n+1=>if pw f x k=x then k else per f x (k+1) n
theorem aqQ (f:Int->Int) (x:Int) (k n:Nat):k<=per f x k n/\∀ j,k<=j->j<per f x k n->pw f x j≠x:=by
 induction n generalizing k with
 | zero=>exact ⟨DT _,fun j h1 h2=>by simp only [per] at h2;omega⟩
 | succ n ih =>
  unfold per;split
  · exact ⟨DT _,fun j h1 h2=>by omega⟩
  ·rename_i hne;obtain ⟨h1,h2⟩:=ih (k+1);refine ⟨AB,fun j hj hj2=>?_⟩;by_cases e:j=k
   · subst e;exact hne
   · exact h2 j AB hj2
theorem aqR (f:Int->Int) (x:Int) (k n:Nat) (h:∃ j,k<=j/\j<=k+n/\pw f x j=x):pw f x (per f x k n)=x/\per f x k n<=k+n:=by
 induction n generalizing k with
 | zero =>
  obtain ⟨j,h1,h2,h3⟩:=h
  have:j=k:=by omega
  subst this;exact ⟨h3,DT _⟩
 | succ n ih =>
  unfold per;split
  · rename_i e;exact ⟨e,AB⟩
  ·rename_i hne;obtain ⟨j,h1,h2,h3⟩:=h;have:=ih (k+1) ⟨j,by
    by_cases e:j=k
    · subst e;exact absurd h3 hne
    · omega,AB,h3⟩
   exact ⟨this.1,AB⟩
def LV (f:Int->Int) (D:List Int) (x:Int):Nat:=per f x 1 D.length
def JM (f:Int->Int) (D:List Int) (x:Int):List Int:=iter f x (LV f D x)
include hD hi in
theorem WL {x:Int} (hx:x∈D):0<LV f D x/\LV f D x<=D.length+1/\pw f x (LV f D x)=x/\(∀ j,0<j->j<LV f D x->pw f x j≠x)/\(JM f D x).Nodup/\(JM f D x).length=LV f D x:=by
 obtain ⟨j,h1,h2,h3⟩:=returns hD hi hx;obtain ⟨a1,a2⟩:=aqQ f x 1 D.length;obtain ⟨b1,b2⟩:=aqR f x 1 D.length ⟨j,h1,AB,h3⟩;refine ⟨a1,by show per f x 1 D.length<=_;omega,b1,fun j h1 h2=>a2 j h1 h2,?_,Wv _ _ _⟩;rcases aiH f x (LV f D x) with h | ⟨i,j,c1,c2,c3⟩
 · exact h
 · exact absurd (aiG hD hi hx c3) (a2 j c1 (by unfold LV at c2;omega))
theorem Uz {f:Int->Int} {x y:Int} {n:Nat}:y∈iter f x n↔∃ k,k<n/\pw f x k=y:=by
 rw [Dp];constructor
 ·rintro ⟨k,hk,e⟩;rw [iG] at e;rw [Wv] at hk;exact ⟨k,hk,e⟩
 ·rintro ⟨k,hk,e⟩;exact ⟨k,by rw [Wv];exact hk,by rw [iG];exact e⟩
include hD hi in
theorem adU {x y:Int} (hx:x∈D):y∈D->(f y∈JM f D x↔y∈JM f D x):=by
 intro hy;obtain ⟨h1,-,h3,-,-,-⟩:=WL hD hi hx;unfold JM;rw [Uz,Uz];constructor
 ·rintro ⟨k,hk,e⟩
  cases k with
  | zero =>
   refine ⟨LV f D x-1,AB,hi _ (Wx hD hx _) _ hy ?_⟩
   have:pw f x (LV f D x-1+1)=x:=by rw [ab7 h1];exact h3
   rw [pw] at this;rw [this];exact e
  | succ k=>exact ⟨k,AB,hi _ (Wx hD hx _) _ hy e⟩
 ·rintro ⟨k,hk,rfl⟩;by_cases e:k+1=LV f D x
  ·refine ⟨0,h1,?_⟩;have h4:pw f x (k+1)=x:=by rw [e];exact h3
   exact h4.symm
  · exact ⟨k+1,AB,rfl⟩
end
section
def Ol (f:Int->Int) (D:List Int) (acc:List (List Int)) (d:Int):List (List Int):=if d∈acc.flatten then acc else acc++[JM f D d]
def aBS (f:Int->Int) (D L:List Int):List (List Int):=L.foldl (Ol f D) []
variable {f:Int->Int} {D:List Int}
theorem aiI {x:Int} (h:0<LV f D x):x∈JM f D x:=Uz.2 ⟨0,h,rfl⟩
theorem wG (hD:∀ x∈D,f x∈D) {x y:Int} (hx:x∈D) (hy:y∈JM f D x):y∈D:=by
 obtain ⟨k,-,rfl⟩:=Uz.1 hy;exact Wx hD hx k
structure Om (f:Int->Int) (D P:List Int) (acc:List (List Int)):Prop where
 lV:∀ l∈acc,∃ d∈P,l=JM f D d/\∀ e∈l,e∈P->d<=e
 covers:∀ x∈P,x∈acc.flatten
 nodup:acc.flatten.Nodup
 closed:∀ y∈D,f y∈acc.flatten↔y∈acc.flatten
theorem Om.back {P:List Int} {acc:List (List Int)} (h:Om f D P acc) (hD:∀ x∈D,f x∈D) {x:Int} (hx:x∈D) (k:Nat):pw f x k∈acc.flatten↔x∈acc.flatten:=by
 induction k with
 | zero=>exact Iff.rfl
 | succ k ih=>exact (h.closed _ (Wx hD hx k)).trans ih
theorem Om.nil (f:Int->Int) (D:List Int):Om f D [] []:=⟨fun l h=>(by cases h),fun x h=>(by cases h),List.nodup_nil,fun y _=>⟨fun h=>(by cases h),fun h=>(by cases h)⟩⟩
theorem Om.apart {P:List Int} {acc:List (List Int)} (h:Om f D P acc) (hD:∀ x∈D,f x∈D) {d:Int} (hd:d∈D) (hm:d∉acc.flatten) {y:Int} (hy:y∈JM f D d):y∉acc.flatten:=by
 obtain ⟨k,-,rfl⟩:=Uz.1 hy;exact fun e=>hm ((h.back hD hd k).1 e)
theorem Om.step {P:List Int} {acc:List (List Int)} (h:Om f D P acc) (hD:∀ x∈D,f x∈D) (hi:∀ x∈D,∀ y∈D,f x=f y->x=y) {d:Int} (hd:d∈D) (hlt:∀ x∈P,x<d):Om f D (P++[d]) (Ol f D acc d):=by
 unfold Ol;by_cases hm:d∈acc.flatten
 ·rw [AZ hm];refine ⟨fun l hl=>?_,fun x hx=>?_,h.nodup,h.closed⟩
  ·obtain ⟨d',h1,h2,h3⟩:=h.lV l hl;refine ⟨d',Oa _ h1,h2,fun e he hp=>?_⟩;rcases FZ.1 hp with hp | hp
   · exact h3 e he hp
   · rw [ED] at hp;subst hp;exact fM (hlt _ h1)
  ·rcases FZ.1 hx with hx | hx
   · exact h.covers x hx
   · rw [ED] at hx;subst hx;exact hm
 ·rw [AX hm];obtain ⟨o1,-,-,-,o5,-⟩:=WL hD hi hd;have hfl:(acc++[JM f D d]).flatten=acc.flatten++JM f D d:=by simp
  refine ⟨fun l hl=>?_,fun x hx=>?_,?_,fun y hy=>?_⟩
  ·rcases FZ.1 hl with hl | hl
   ·obtain ⟨d',h1,h2,h3⟩:=h.lV l hl;refine ⟨d',Oa _ h1,h2,fun e he hp=>?_⟩;rcases FZ.1 hp with hp | hp
    · exact h3 e he hp
    · rw [ED] at hp;subst hp;exact fM (hlt _ h1)
   ·rw [ED] at hl;refine ⟨d,Xv _ (ED.2 rfl),hl,fun e he hp=>?_⟩;subst hl;rcases FZ.1 hp with hp | hp
    · exact absurd (h.covers e hp) (h.apart hD hd hm he)
    · rw [ED] at hp;exact Int.le_of_eq hp.symm
  ·rw [hfl];rcases FZ.1 hx with hx | hx
   · exact Oa _ (h.covers x hx)
   · rw [ED] at hx;subst hx;exact Xv _ (aiI o1)
  ·rw [hfl,List.nodup_append];exact ⟨h.nodup,o5,fun a ha b hb e=>h.apart hD hd hm hb (e ▸ ha)⟩
  · rw [hfl,FZ,FZ,h.closed y hy,adU hD hi hd hy]
theorem adV (hD:∀ x∈D,f x∈D) (hi:∀ x∈D,∀ y∈D,f x=f y->x=y):∀ (L P:List Int) (acc:List (List Int)),Om f D P acc->(∀ x∈L,x∈D)->(P++L).Pairwise (· < ·)->Om f D (P++L) (L.foldl (Ol f D) acc)
 | [],P,acc,h,_,_=>by rw [IQ];exact h
 | d::L,P,acc,h,hs,hp=>by
  have hp':=Ql.1 hp;have:=adV hD hi L (P++[d]) _ (h.step hD hi (hs d Ea) (fun x hx=>hp'.2.2 x hx d Ea)) (fun x hx=>hs x (Gn _ hx)) (by rw [JR];exact hp)
  rw [JR] at this;exact this
theorem aqS (hD:∀ x∈D,f x∈D) (hi:∀ x∈D,∀ y∈D,f x=f y->x=y) (hs:D.Pairwise (· < ·)):Om f D D (aBS f D D):=by
 have:=adV hD hi D [] [] (Om.nil f D) (fun x hx=>hx) hs
 exact this
theorem Om.perm {acc:List (List Int)} (h:Om f D D acc) (hD:∀ x∈D,f x∈D) (hs:D.Nodup):acc.flatten.Perm D:=by
 refine (sO h.nodup hs).2 fun x=>⟨fun hx=>?_,h.covers x⟩;obtain ⟨l,hl,hx⟩:=aAI.1 hx;obtain ⟨d,h1,h2,-⟩:=h.lV l hl;subst h2;exact wG hD h1 hx
end
def Ee (d:Int):Int:=if d<0 then -d else d
def iH:Int:=-9223372036854775808
def FW (p:Pl) (d:Int):Option Ar:=if d=0\/d=iH then none else findAr p.AU (Ee d)
def Ja (p:Pl) (d:Int):Int:=match FW p d with
 | none=>0
 | some a=>if 0<d then a.fr else a.dst
def Es (p:Pl) (d:Int):Int:=match FW p d with
 | none=>0
 | some a=>if 0<d then a.left else a.right
def Df (l:List Ar) (n:Int):List Int:=l.flatMap fun a=>(if a.fr=n then [a.id] else [])++(if a.dst=n then [-a.id] else [])
def Dt (p:Pl) (d:Int):Pt:=match findAr p.AU (Ee d) with
 | none=>AY
 | some a=>if 0<d then (AV p a).getD 1 AY else (AV p a).getD a.via.length AY
def BU (p:Pl):List Int:=(p.AU.map (fun a=>-a.id)).reverse++p.AU.map (·.id)
section
variable {p:Pl} (h:Valid p)
include h
theorem Valid.Gh {a:Ar} (ha:a∈p.AU):1<=a.id/\a.id<=1073741824:=by
 have hr:=h.rng;unfold OE at hr;rw [Em] at hr;have h1:=hr.1;rw [Ru,Xu] at h1;have:=h1 a.id (Oa _ (Xv _ (Gs ha)))
 unfold KA at this;simp only [L6,E8,not_or] at this;omega
theorem Valid.aqT {n:Nd} (hn:n∈p.nodes):1<=n.id/\n.id<=1073741824:=by
 have hr:=h.rng;unfold OE at hr;rw [Em] at hr;have h1:=hr.1;rw [Ru,Xu] at h1;have:=h1 n.id (Oa _ (Oa _ (Gs hn)))
 unfold KA at this;simp only [L6,E8,not_or] at this;omega
theorem Valid.find {a:Ar} (ha:a∈p.AU):findAr p.AU a.id=some a:=aBL (fun x:Ar=>x.id) p.AU h.sound.AU a ha
theorem Valid.aiJ {a b:Ar} (ha:a∈p.AU) (hb:b∈p.AU) (e:a.id=b.id):a=b:=by
 have h1:=h.find ha;rw [e,h.find hb] at h1;exact (Dc h1).symm
theorem Valid.lW {a:Ar} (ha:a∈p.AU):FW p a.id=some a:=by
 have:=h.Gh ha
 unfold FW Ee iH;rw [AX AB,AX AB,h.find ha]
theorem Valid.wH {a:Ar} (ha:a∈p.AU):FW p (-a.id)=some a:=by
 have:=h.Gh ha
 unfold FW Ee iH;rw [AX AB,AZ AB,Ob,h.find ha]
theorem Valid.aBT {a:Ar} (ha:a∈p.AU):Ja p a.id=a.fr:=by
 have:=h.Gh ha
 unfold Ja;rw [h.lW ha]
 show (if 0<a.id then a.fr else a.dst)=a.fr
 rw [AZ AB]
theorem Valid.wI {a:Ar} (ha:a∈p.AU):Ja p (-a.id)=a.dst:=by
 have:=h.Gh ha
 unfold Ja;rw [h.wH ha]
 show (if 0 < -a.id then a.fr else a.dst)=a.dst
 rw [AX AB]
theorem Valid.iI {a:Ar} (ha:a∈p.AU):Dt p a.id=(AV p a).getD 1 AY:=by
 have:=h.Gh ha
 unfold Dt Ee;rw [AX AB,h.find ha]
 show (if 0<a.id then _ else _)=_
 rw [AZ AB]
theorem Valid.dS {a:Ar} (ha:a∈p.AU):Dt p (-a.id)=(AV p a).getD a.via.length AY:=by
 have:=h.Gh ha
 unfold Dt Ee;rw [AZ AB,Ob,h.find ha]
 show (if 0 < -a.id then _ else _)=_
 rw [AX AB]
end
theorem Qz {l:List Ar} {n d:Int}:d∈Df l n↔∃ a∈l,(d=a.id/\a.fr=n)\/(d=-a.id/\a.dst=n):=by
 unfold Df;rw [GY];refine exists_congr fun a=>and_congr_right fun _=>?_;rw [FZ];constructor
 ·rintro (h | h)
  ·split at h
   · rw [ED] at h;exact .inl ⟨h,KP⟩
   · cases h
  ·split at h
   · rw [ED] at h;exact .inr ⟨h,KP⟩
   · cases h
 ·rintro (⟨h1,h2⟩ | ⟨h1,h2⟩)
  · left;rw [AZ h2,h1];exact ED.2 rfl
  · right;rw [AZ h2,h1];exact ED.2 rfl
theorem Iy {p:Pl} {d:Int}:d∈BU p↔∃ a∈p.AU,d=a.id\/d=-a.id:=by
 unfold BU;rw [FZ,aAJ,EM,EM];constructor
 ·rintro (⟨a,ha,rfl⟩ | ⟨a,ha,rfl⟩)
  · exact ⟨a,ha,.inr rfl⟩
  · exact ⟨a,ha,.inl rfl⟩
 ·rintro ⟨a,ha,rfl | rfl⟩
  · exact .inr ⟨a,ha,rfl⟩
  · exact .inl ⟨a,ha,rfl⟩
section
variable {p:Pl} (h:Valid p)
include h
theorem Valid.adW {n:Nd} (hn:n∈p.nodes) {d:Int} (hd:d∈Df p.AU n.id):∃ a∈p.AU,∃ k,k+1<(AV p a).length /\
  ((d=a.id/\k=0/\a.fr=n.id/\(AV p a).getD k AY=n.pt/\(AV p a).getD (k+1) AY=Dt p d)\/(d=-a.id/\k=a.via.length/\a.dst=n.id/\(AV p a).getD (k+1) AY=n.pt/\(AV p a).getD k AY=Dt p d)):=by
 obtain ⟨a,ha,h1⟩:=Qz.1 hd;have hl:=Eh p a;rcases h1 with ⟨rfl,h2⟩ | ⟨rfl,h2⟩
 ·refine ⟨a,ha,0,AB,.inl ⟨rfl,rfl,h2,?_,(h.iI ha).symm⟩⟩;rw [WJ,h2];exact h.sound.QM hn
 ·refine ⟨a,ha,a.via.length,AB,.inr ⟨rfl,rfl,h2,?_,(h.dS ha).symm⟩⟩;have:(AV p a).getD (a.via.length+1) AY=nodeAt p a.dst:=by
   unfold AV;rw [aal,Fj,List.getElem?_append_right AB];simp
  rw [this,h2];exact h.sound.QM hn
theorem Valid.iJ {n:Nd} (hn:n∈p.nodes) {d:Int} (hd:d∈Df p.AU n.id):Bg n.pt=true/\Bg (Dt p d)=true/\Dt p d≠n.pt:=by
 obtain ⟨a,ha,k,hk,h1⟩:=h.adW hn hd;have n1:=h.DW ha (k:=k) AB;have n2:=h.DW ha (k:=k+1) hk;have hne:=(h.distinct ha hk).1;rcases h1 with ⟨-,-,-,e1,e2⟩ | ⟨-,-,-,e1,e2⟩
 · rw [e1] at n1 hne;rw [e2] at n2 hne;exact ⟨n1,n2,hne.symm⟩
 · rw [e1] at n2 hne;rw [e2] at n1 hne;exact ⟨n2,n1,hne⟩
theorem Valid.dirs {n:Nd} (hn:n∈p.nodes) {d1 d2:Int} (h1:d1∈Df p.AU n.id) (h2:d2∈Df p.AU n.id) (hne:d1≠d2):ET n.pt (Dt p d1) (Dt p d2)\/ET n.pt (Dt p d2) (Dt p d1):=by
 by_cases c1:ET n.pt (Dt p d1) (Dt p d2)
 · exact .inl c1
 by_cases c2:ET n.pt (Dt p d2) (Dt p d1)
 · exact .inr c2
 exfalso;have key:∀ {e1 e2:Int},e1∈Df p.AU n.id->e2∈Df p.AU n.id->¬ ET n.pt (Dt p e1) (Dt p e2)->¬ ET n.pt (Dt p e2) (Dt p e1)->∀ {a b:Ar} {k m:Nat},
   ((AV p a).getD k AY=n.pt/\(AV p a).getD (k+1) AY=Dt p e1\/(AV p a).getD (k+1) AY=n.pt/\(AV p a).getD k AY=Dt p e1) ->
   ((AV p b).getD m AY=n.pt/\(AV p b).getD (m+1) AY=Dt p e2\/(AV p b).getD (m+1) AY=n.pt/\(AV p b).getD m AY=Dt p e2) ->
   Fp (Dj p a k).a (Dj p a k).b (Dj p b m).a (Dj p b m).b=2:=by
  intro e1 e2 m1 m2 q1 q2 a b k m s1 s2;obtain ⟨n0,n1,x1⟩:=h.iJ hn m1;obtain ⟨-,n2,x2⟩:=h.iJ hn m2;obtain ⟨r1,r2,r3,r4⟩:=aiE n0 n1 n2 x1 x2 q1 q2;unfold Dj;rcases s1 with ⟨u1,u2⟩ | ⟨u1,u2⟩<;>rcases s2 with ⟨v1,v2⟩ | ⟨v1,v2⟩<;>simp only [u1,u2,v1,v2]
  · exact r1
  · exact r3
  · exact r2
  · exact r4
 obtain ⟨a,ha,k,hk,s1⟩:=h.adW hn h1;obtain ⟨b,hb,m,hm,s2⟩:=h.adW hn h2;have t1:(AV p a).getD k AY=n.pt/\(AV p a).getD (k+1) AY=Dt p d1\/(AV p a).getD (k+1) AY=n.pt/\(AV p a).getD k AY=Dt p d1:=by
  rcases s1 with ⟨-,-,-,e1,e2⟩ | ⟨-,-,-,e1,e2⟩
  · exact .inl ⟨e1,e2⟩
  · exact .inr ⟨e1,e2⟩
 have t2:(AV p b).getD m AY=n.pt/\(AV p b).getD (m+1) AY=Dt p d2\/(AV p b).getD (m+1) AY=n.pt/\(AV p b).getD m AY=Dt p d2:=by
  rcases s2 with ⟨-,-,-,e1,e2⟩ | ⟨-,-,-,e1,e2⟩
  · exact .inl ⟨e1,e2⟩
  · exact .inr ⟨e1,e2⟩
 have r12:=key h1 h2 c1 c2 t1 t2;have r21:=key h2 h1 c2 c1 t2 t1;by_cases hab:a=b
 ·subst hab;have hl:=Eh p a;have same:∀ {d3 d4:Int} {i j:Nat},d3≠d4->((d3=a.id/\i=0/\a.fr=n.id)\/(d3=-a.id/\i=a.via.length/\a.dst=n.id))->((d4=a.id/\j=0/\a.fr=n.id)\/(d4=-a.id/\j=a.via.length/\a.dst=n.id))->Fp (Dj p a i).a (Dj p a i).b (Dj p a j).a (Dj p a j).b=2->i<j->False:=by
   intro d3 d4 i j hne z1 z2 z3 z4;rcases z1 with ⟨y1,y2,y3⟩ | ⟨y1,y2,y3⟩
   ·rcases z2 with ⟨x1,x2,x3⟩ | ⟨x1,x2,x3⟩
    · omega
    ·have h4:=(h.distinct ha (k:=i) AB).2 (y3.trans x3.symm);have hap:=h.Qx.2.1 a ha i j z4 AB;unfold UD at hap;rw [z3] at hap;split at hap
     · simp at hap
     · simp at hap
   ·rcases z2 with ⟨x1,x2,x3⟩ | ⟨x1,x2,x3⟩
    · omega
    · omega
  have q1:(d1=a.id/\k=0/\a.fr=n.id)\/(d1=-a.id/\k=a.via.length/\a.dst=n.id):=by
   rcases s1 with ⟨y1,y2,y3,-⟩ | ⟨y1,y2,y3,-⟩
   · exact .inl ⟨y1,y2,y3⟩
   · exact .inr ⟨y1,y2,y3⟩
  have q2:(d2=a.id/\m=0/\a.fr=n.id)\/(d2=-a.id/\m=a.via.length/\a.dst=n.id):=by
   rcases s2 with ⟨y1,y2,y3,-⟩ | ⟨y1,y2,y3,-⟩
   · exact .inl ⟨y1,y2,y3⟩
   · exact .inr ⟨y1,y2,y3⟩
  rcases PD k m with hkm | hkm | hkm
  · exact same hne q1 q2 r12 hkm
  ·subst hkm;have hd4:=h.distinct ha hk;rcases q1 with ⟨y1,y2,y3⟩ | ⟨y1,y2,y3⟩
   ·rcases q2 with ⟨x1,x2,x3⟩ | ⟨x1,x2,x3⟩
    · exact hne (y1.trans x1.symm)
    · have:=hd4.2 (y3.trans x3.symm);omega
   ·rcases q2 with ⟨x1,x2,x3⟩ | ⟨x1,x2,x3⟩
    · have:=hd4.2 (x3.trans y3.symm);omega
    · exact hne (y1.trans x1.symm)
  · exact same (fun e=>hne e.symm) q2 q1 r21 hkm
 ·have hp:=h.Qx.2.2;obtain ⟨i,hi,rfl⟩:=Dp.1 ha;obtain ⟨j,hj,rfl⟩:=Dp.1 hb;rw [Fe] at hp;have no2:∀ {s t:Sg},PU p s t=true->Fp s.a s.b t.a t.b=2->False:=by
   intro s t hj2 h2;unfold PU at hj2;rw [h2] at hj2;simp at hj2
  rcases PD i j with hij | hij | hij
  · exact no2 (hp i j hi hj hij k hk m hm) r12
  · subst hij;exact hab rfl
  · exact no2 (hp j i hj hi hij m hm k hk) r21
end
def Wy (lt:Int->Int->Bool) (l:List Int) (c:Int):List Int:=l.takeWhile (fun x=>!lt c x)++c::l.dropWhile (fun x=>!lt c x)
def sortB (lt:Int->Int->Bool) (l:List Int):List Int:=l.foldl (Wy lt) []
theorem adX (lt:Int->Int->Bool) (l:List Int) (c:Int):(Wy lt l c).Perm (c::l):=by
 unfold Wy;refine List.perm_middle.trans ?_;rw [aAK]
structure Yv (lt:Int->Int->Bool) (D:List Int):Prop where
 asym:∀ x∈D,∀ y∈D,lt x y=true->lt y x=false
 ntr:∀ x∈D,∀ y∈D,∀ z∈D,lt x y=false->lt y z=false->lt x z=false
 tri:∀ x∈D,∀ y∈D,lt x y=false->lt y x=false->x=y
theorem aqU {lt:Int->Int->Bool} {D:List Int} (ho:Yv lt D) {l:List Int} (h:l.Pairwise (fun a b=>lt b a=false)) (hl:∀ x∈l,x∈D) {c:Int} (hc:c∈D):(Wy lt l c).Pairwise (fun a b=>lt b a=false):=by
 induction l with
 | nil=>simp [Wy]
 | cons a l ih =>
  have h':=JC.1 h;have ha:=hl a Ea;unfold Wy
  cases hca:lt c a
  ·have e1:(a::l).takeWhile (fun x=>!lt c x)=a::l.takeWhile (fun x=>!lt c x):=by rw [ab8];simp [hca]
   have e2:(a::l).dropWhile (fun x=>!lt c x)=l.dropWhile (fun x=>!lt c x):=by rw [fU];simp [hca]
   rw [e1,e2]
   show List.Pairwise _ (a::Wy lt l c)
   refine JC.2 ⟨fun x hx=>?_,ih h'.2 (fun x hx=>hl x (Gn _ hx))⟩;rcases EJ.1 ((adX lt l c).subset hx) with rfl | hx
   · exact hca
   · exact h'.1 x hx
  ·have e1:(a::l).takeWhile (fun x=>!lt c x)=[]:=by rw [ab8];simp [hca]
   have e2:(a::l).dropWhile (fun x=>!lt c x)=a::l:=by rw [fU];simp [hca]
   rw [e1,e2,QD];refine JC.2 ⟨fun x hx=>?_,h⟩;have h1:=ho.asym c hc a ha hca;rcases EJ.1 hx with rfl | hx'
   · exact h1
   · exact ho.ntr x (hl x hx) a ha c hc (h'.1 x hx') h1
theorem aiK {lt:Int->Int->Bool} {D:List Int} (ho:Yv lt D):∀ (l acc:List Int),acc.Pairwise (fun a b=>lt b a=false)->(∀ x∈l,x∈D)->(∀ x∈acc,x∈D)->(l.foldl (Wy lt) acc).Perm (acc++l)/\(l.foldl (Wy lt) acc).Pairwise (fun a b=>lt b a=false)
 | [],acc,h,_,_=>by simpa using h
 | c::l,acc,h,hl,ha=>by
  have hc:=hl c Ea;have:=aiK ho l (Wy lt acc c) (aqU ho h ha hc) (fun x hx=>hl x (Gn _ hx)) (fun x hx=>by
   rcases EJ.1 ((adX lt acc c).subset hx) with rfl | hx
   · exact hc
   · exact ha x hx)
  refine ⟨this.1.trans ?_,this.2⟩;refine ((adX lt acc c).append_right l).trans ?_;rw [aao];exact List.perm_middle.symm
theorem iK {lt:Int->Int->Bool} {D:List Int} (ho:Yv lt D):(sortB lt D).Perm D/\(sortB lt D).Pairwise (fun a b=>lt b a=false):=by
 have:=aiK ho D [] List.Pairwise.nil (fun x hx=>hx) (fun x hx=>by cases hx)
 simpa [sortB] using this
theorem aqV {lt:Int->Int->Bool} {D m:List Int} (ho:Yv lt D) (hp:m.Perm D) (hs:m.Pairwise (fun a b=>lt b a=false)):m=sortB lt D:=by
 obtain ⟨h1,h2⟩:=iK ho;exact iF (hp.trans h1.symm) hs h2 (fun a ha b hb=>ho.tri a (hp.subset ha) b (hp.subset hb))
def ltD (p:Pl) (o:Pt) (d e:Int):Bool:=Si o (Dt p d) (Dt p e)
def DF (p:Pl) (n:Int):List Int:=match JK p.nodes n with
 | none=>[]
 | some x=>sortB (ltD p x.pt) (Df p.AU n)
def precD (l:List Int) (d:Int):Int:=match l.findIdx? (fun x=>x == d) with
 | none=>0
 | some i=>l.getD ((i+l.length-1) % l.length) 0
def FP (p:Pl) (d:Int):Int:=if (FW p d).isSome then precD (DF p (Ja p (-d))) (-d) else 0
def CX (p:Pl):List (List Int):=aBS (FP p) (BU p) (BU p)
section
variable {p:Pl} (h:Valid p)
include h
theorem Valid.wJ {n:Nd} (hn:n∈p.nodes):Yv (ltD p n.pt) (Df p.AU n.id):=by
 have key:∀ d∈Df p.AU n.id,∀ e∈Df p.AU n.id,(ltD p n.pt d e=true↔ET n.pt (Dt p d) (Dt p e)):=fun d hd e he=>by
  obtain ⟨n0,n1,x1⟩:=h.iJ hn hd;obtain ⟨-,n2,x2⟩:=h.iJ hn he;unfold ltD;rw [abp];exact ⟨fun h=>h.2.2.2,fun h=>⟨by simp [Dy,n0,n1,n2],x1,x2,h⟩⟩
 have lX:∀ d∈Df p.AU n.id,∀ e∈Df p.AU n.id,(ltD p n.pt d e=false↔¬ ET n.pt (Dt p d) (Dt p e)):=fun d hd e he=>by
  rw [<- key d hd e he,Iz]
 have nz:∀ d∈Df p.AU n.id,¬ ((Dt p d).x-n.pt.x=0/\(Dt p d).y-n.pt.y=0):=fun d hd=>uH.1 (h.iJ hn hd).2.2;refine ⟨fun x hx y hy h1=>?_,fun x hx y hy z hz h1 h2=>?_,fun x hx y hy h1 h2=>?_⟩
 ·rw [lX y hy x hx];rw [key x hx y hy] at h1;exact fun h2=>ao8 _ _ (aoA (nz x hx) (nz y hy) (nz x hx) h1 h2)
 ·rw [lX x hx y hy] at h1;rw [lX y hy z hz] at h2;rw [lX x hx z hz];exact aoB (nz x hx) (nz y hy) (nz z hz) h1 h2
 ·rw [lX x hx y hy] at h1;rw [lX y hy x hx] at h2;rcases Decidable.em (x=y) with e | e
  · exact e
  ·rcases h.dirs hn hx hy e with h3 | h3
   · exact absurd h3 h1
   · exact absurd h3 h2
theorem Valid.aqW {n:Nd} (hn:n∈p.nodes):JK p.nodes n.id=some n:=aBL (fun x:Nd=>x.id) p.nodes h.sound.nodes n hn
theorem Valid.aBU {n:Nd} (hn:n∈p.nodes):DF p n.id=sortB (ltD p n.pt) (Df p.AU n.id):=by
 unfold DF;rw [h.aqW hn]
theorem Valid.N8 {n:Nd} (hn:n∈p.nodes):(DF p n.id).Perm (Df p.AU n.id):=by
 rw [h.aBU hn];exact (iK (h.wJ hn)).1
theorem Valid.adY {n:Int}:(Df p.AU n).Nodup:=by
 have hs:=h.sound.AU;rw [IL] at hs;have hpos:∀ a∈p.AU,1<=a.id:=fun a ha=>(h.Gh ha).1;unfold Df List.Nodup;rw [aA9];refine ⟨fun a ha=>?_,?_⟩
 ·have:=hpos a ha
  split<;>split<;>simp<;>omega
 ·have hs2:p.AU.Pairwise (fun a b=>1<=a.id/\1<=b.id/\a.id<b.id):=by
   rw [Fe] at hs ⊢;exact fun i j hi hj hij=>⟨hpos _ (BH hi),hpos _ (BH hj),hs i j hi hj hij⟩
  refine hs2.imp ?_;rintro a b ⟨h1,h2,h3⟩ x hx y hy;have hx':x=a.id\/x=-a.id:=by
   rcases FZ.1 hx with hx | hx
   ·split at hx
    · exact .inl (ED.1 hx)
    · cases hx
   ·split at hx
    · exact .inr (ED.1 hx)
    · cases hx
  have hy':y=b.id\/y=-b.id:=by
   rcases FZ.1 hy with hy | hy
   ·split at hy
    · exact .inl (ED.1 hy)
    · cases hy
   ·split at hy
    · exact .inr (ED.1 hy)
    · cases hy
  omega
theorem Valid.aBV:(BU p).Pairwise (· < ·):=by
 have hs:=h.sound.AU;have hpos:∀ a∈p.AU,1<=a.id:=fun a ha=>(h.Gh ha).1;unfold BU;rw [Ql];refine ⟨?_,hs,fun x hx y hy=>?_⟩
 ·rw [List.pairwise_reverse,IL];rw [IL] at hs;exact hs.imp (fun h=>by omega)
 ·rw [aAJ,EM] at hx;obtain ⟨a,ha,rfl⟩:=hx;obtain ⟨b,hb,rfl⟩:=EM.1 hy;have:=hpos a ha;have:=hpos b hb
  omega
end
