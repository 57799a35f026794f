import Derived.Test.YtialfdomhoojiaaGreatQJ08
set_option linter.unusedSimpArgs false
set_option linter.unusedVariables false
namespace Go.Proofs.YtialfdomhoojiaaGreat
open Go.RowKit
structure Valid (p:Pl):Prop where
 lim:Ji p=false
 ord:QL p=true
 rng:Nb p=true
 dup:UJ (p.nodes.map (·.pt))=false
 ends:p.AP.all (JY p)=true
 sides:SI p=true
 adE:MP p=true
theorem Yi (p:Pl):IG p=0↔Valid p:=by
 unfold IG;constructor
 ·intro h;split at h
  · cases h
  rename_i h1;split at h
  · cases h
  rename_i h2;split at h
  · cases h
  rename_i h3;split at h
  · cases h
  rename_i h4;split at h
  · cases h
  rename_i h5;split at h
  · cases h
  rename_i h6;split at h
  · cases h
  rename_i h7;exact ⟨by simpa using h1,by simpa using h2,by simpa using h3,by simpa using h4,by simpa using h5,by simpa using h6,by simpa using h7⟩
 ·rintro ⟨h1,h2,h3,h4,h5,h6,h7⟩;simp [h1,h2,h3,h4,h5,h6,h7]
section
variable {p:Pl}
theorem Valid.sound (h:Valid p):Sound p:=by
 have ho:=h.ord;unfold QL at ho;rw [Ei,Ei] at ho;exact ⟨uz _ ho.1.1,uz _ ho.1.2,KU.1 h.ends⟩
theorem agS {q:Pt} (h:KY q=true):C9 q=true:=by
 simp only [KY,Ei,EO] at h;rw [Qr];omega
theorem Valid.near (h:Valid p) {q:Pt} (hq:q∈Vk p):C9 q=true:=by
 have hr:=h.rng;unfold Nb at hr;rw [Ei] at hr;exact agS (KU.1 hr.2 q hq)
theorem Valid.wH (h:Valid p) {n:Nd} (hn:n∈p.nodes):C9 n.pt=true:=h.near (O9 _ (Gh hn))
theorem Valid.aoY (h:Valid p) {a:Ar} (ha:a∈p.AP) {q:Pt} (hq:q∈a.via):C9 q=true:=h.near (YI _ (Gf.2 ⟨a,ha,hq⟩))
theorem Sound.Xk (hp:Sound p) {a:Ar} (ha:a∈p.AP):∃ n∈p.nodes,n.id=a.fr/\nodeAt p a.fr=n.pt:=by
 obtain ⟨⟨n,hn,e⟩,-⟩:=hp.aBU ha;exact ⟨n,hn,e,by rw [<- e,hp.QN hn]⟩
theorem Sound.Yj (hp:Sound p) {a:Ar} (ha:a∈p.AP):∃ n∈p.nodes,n.id=a.dst/\nodeAt p a.dst=n.pt:=by
 obtain ⟨-,⟨n,hn,e⟩⟩:=hp.aBU ha;exact ⟨n,hn,e,by rw [<- e,hp.QN hn]⟩
theorem Valid.adF (h:Valid p) {a:Ar} (ha:a∈p.AP) {q:Pt} (hq:q∈AV p a):C9 q=true:=by
 unfold AV at hq;rcases EW.1 hq with rfl | hq
 ·obtain ⟨n,hn,-,e⟩:=h.sound.Xk ha;rw [e];exact h.wH hn
 ·rcases FX.1 hq with hq | hq
  · exact h.aoY ha hq
  ·rw [EP] at hq;subst hq;obtain ⟨n,hn,-,e⟩:=h.sound.Yj ha;rw [e];exact h.wH hn
end
theorem aoZ (a b:Pt):CP a b=false↔b.x<a.x\/(a.x=b.x/\b.y<=a.y):=by
 rw [<- JK,MN];omega
theorem adG (a b:Pt):CP a (lo a b)=false:=by
 rcases Yt a b with ⟨h,-,h'⟩ | ⟨h,-,h'⟩
 · rw [h];exact iT a
 · rw [h];exact PX h'
theorem agT (a b:Pt):CP b (lo a b)=false:=by rw [acD];exact adG b a
theorem adH (a b:Pt):CP (hi a b) a=false:=by
 rcases Yt a b with ⟨-,h,h'⟩ | ⟨-,h,h'⟩
 · rw [h];exact h'
 · rw [h];exact iT a
theorem agU (a b:Pt):CP (hi a b) b=false:=by rw [aBF];exact adH b a
theorem agV {x y q:Pt} (h1:CP q x=false) (h2:CP q y=false):CP q (hi x y)=false:=by
 rcases Yt x y with ⟨-,h,-⟩ | ⟨-,h,-⟩<;>rw [h]<;>assumption
theorem agW {x y q:Pt} (h1:CP x q=false) (h2:CP y q=false):CP (lo x y) q=false:=by
 rcases Yt x y with ⟨h,-,-⟩ | ⟨h,-,-⟩<;>rw [h]<;>assumption
theorem agX {a b c d q:Pt} (h1:q=a\/q=b) (h2:q=c\/q=d):KL a b c d≠0:=by
 have f1:CP q (lo a b)=false:=by rcases h1 with rfl | rfl;exact adG _ _;exact agT _ _
 have f2:CP q (lo c d)=false:=by rcases h2 with rfl | rfl;exact adG _ _;exact agT _ _
 have g1:CP (hi a b) q=false:=by rcases h1 with rfl | rfl;exact adH _ _;exact agU _ _
 have g2:CP (hi c d) q=false:=by rcases h2 with rfl | rfl;exact adH _ _;exact agU _ _
 have f:=agV f1 f2;have g:=agW g1 g2;rw [VU];generalize hi (lo a b) (lo c d)=x at *;generalize lo (hi a b) (hi c d)=y at *;by_cases hxy:x=y
 · rw [AZ hxy];omega
 ·rw [AX hxy]
  have:CP x y=true:=by
   rw [aoZ] at f g;rw [MN];have hne:¬ (x.x=y.x/\x.y=y.y):=fun e=>hxy (Pt.ext_iff'.2 e);omega
  rw [AZ this];omega
theorem Yk {a b c d:Pt} (ha:C9 a=true) (hb:C9 b=true) (hc:C9 c=true) (hd:C9 d=true):EN [a,b,c,d]=true:=by simp [EN,ha,hb,hc,hd]
theorem ai0 {a b c:Pt} (ha:C9 a=true) (hb:C9 b=true) (hc:C9 c=true):Fq a b c b≠0:=by
 unfold Fq;rw [AZ (Yk ha hb hc hb)];unfold ND;have e1:BM a b a c=- BM a b c b:=by unfold BM;grind
 have e2:BM a b a b=0:=by unfold BM;grind
 have e3:BM c b c a=BM a b c b:=by unfold BM;grind
 have e4:BM c b c b=0:=by unfold BM;grind
 have e5:BM a c c b=BM a b c b:=by unfold BM;grind
 have e6:BM a c a b=BM a b c b:=by unfold BM;grind
 rw [AX (show ¬ (a=b/\c=b/\¬ a=c) from fun h=>h.2.2 (h.1.trans h.2.1.symm)),e1,e2,e3,e4,e5,e6];generalize BM a b c b=n at *;by_cases h0:n=0
 ·rw [AZ h0,AZ AB];exact agX (.inr rfl) (.inr rfl)
 ·rw [AX h0];by_cases hn:n<0
  · rw [AZ hn,AZ AB];omega
  · rw [AX hn,AZ AB];omega
theorem apy {a b c:Pt} (ha:C9 a=true) (hb:C9 b=true) (hc:C9 c=true):Fq a b c a≠0:=by
 unfold Fq;rw [AZ (Yk ha hb hc ha)];unfold ND;have e1:BM a b a c=- BM a b c a:=by unfold BM;grind
 have e2:BM a b a a=0:=by unfold BM;grind
 have e3:BM c a c a=0:=by unfold BM;grind
 have e4:BM c a c b=- BM a b c a:=by unfold BM;grind
 have e5:BM a c c a=0:=by unfold BM;grind
 have e6:BM a c a b=BM a b c a:=by unfold BM;grind
 rw [AX (show ¬ (a=b/\c=a/\¬ a=c) from fun h=>h.2.2 h.2.1.symm),e1,e2,e3,e4,e5,e6];generalize BM a b c a=n at *;by_cases h0:n=0
 ·rw [AZ h0,AZ AB];exact agX (.inl rfl) (.inr rfl)
 ·rw [AX h0];by_cases hn:n<0
  · rw [AZ hn,AZ AB];omega
  · rw [AX hn,AZ AB];omega
theorem apz {a b:Pt} (ha:C9 a=true) (hb:C9 b=true):LZ a b b=true:=by
 unfold LZ;have e1:BM a b a b=0:=by unfold BM;grind
 have e2:Yr a b b b=0:=by unfold Yr;grind
 simp [EN,ha,hb,e1,e2]
theorem aq0 {a b:Pt} (ha:C9 a=true) (hb:C9 b=true):LZ a b a=true:=by
 unfold LZ;have e1:BM a b a a=0:=by unfold BM;grind
 have e2:Yr a a b a=0:=by unfold Yr;grind
 simp [EN,ha,hb,e1,e2]
def DY (p:Pl) (a:Ar) (k:Nat):Sg:=⟨a,k,(AV p a).length-1,(AV p a).getD k AY,(AV p a).getD (k+1) AY⟩
theorem oZ {p:Pl} {a:Ar} {k:Nat} (hk:k+1<(AV p a).length):DY p a k∈Jv a (AV p a) :=
 ED.2 ⟨k,Et.2 AB,rfl⟩
theorem bC (p:Pl) (a:Ar) (j:Nat) (hj:j<a.via.length):(AV p a).getD (j+1) AY=a.via[j]:=by
 unfold AV;rw [aaw,Fj,List.getElem?_append_left hj,Dh hj];rfl
theorem Wp (p:Pl) (a:Ar):(AV p a).getD 0 AY=nodeAt p a.fr:=rfl
theorem aq1 (p:Pl) (a:Ar) (j:Nat) (hj:j<(AV p a).length):(AV p a).getD j AY∈AV p a:=by
 rw [Fj,Dh hj];exact BO hj
section
variable {p:Pl} (h:Valid p)
include h
theorem Valid.Ri:(∀ a∈p.AP,∀ k,k+1<(AV p a).length->QK p (DY p a k)=true) /\
  (∀ a∈p.AP,∀ k m,k<m->m+1<(AV p a).length->SE (DY p a k) (DY p a m)=true) /\
  p.AP.Pairwise (fun a b=>∀ k,k+1<(AV p a).length->∀ m,m+1<(AV p b).length->PG p (DY p a k) (DY p b m)=true):=by
 have hp:=h.adE;unfold MP at hp;rw [aBS] at hp;obtain ⟨h1,h2⟩:=hp;unfold UK at h1 h2;rw [sO] at h2;refine ⟨fun a ha k hk=>h1 _ (Gf.2 ⟨a,ha,oZ hk⟩),fun a ha k m hkm hm=>?_,?_⟩
 ·have h3:=h2.1 a ha;unfold Jv at h3;rw [I5,Fa] at h3;have h4:=h3 k m (by rw [PO];omega) (by rw [PO];omega) hkm;simp only [List.getElem_range] at h4;unfold NG at h4;rw [AZ rfl] at h4;exact h4
 ·have hs:=h.sound.AP;rw [I5] at hs;refine (hs.and h2.2).imp ?_;rintro a b ⟨hlt,h3⟩ k hk m hm;have h4:=h3 _ (oZ hk) _ (oZ hm);unfold NG at h4;rw [AX (show ¬ (DY p a k).arc.id=(DY p b m).arc.id from fun e=>by have e':a.id=b.id:=e;omega)] at h4;exact h4
theorem Valid.Dj {a:Ar} (ha:a∈p.AP) {k:Nat} (hk:k<(AV p a).length):C9 ((AV p a).getD k AY)=true:=h.adF ha (aq1 p a k hk)
theorem Valid.oh {a:Ar} (ha:a∈p.AP) {k:Nat} (hk:k+1<(AV p a).length) {n:Nd} (hn:n∈p.nodes) (ho:LZ (DY p a k).a (DY p a k).b n.pt=true) :
  (k=0/\a.fr=n.id)\/(k=a.via.length/\a.dst=n.id):=by
 have h1:=h.Ri.1 a ha k hk;unfold QK at h1;rw [Ei,KU] at h1;have h2:=h1.1 n hn;unfold Qz at h2;rw [ho] at h2;unfold Qy DY at h2;simp only [Bool.not_true,Bool.or_false,KD,Ei,beq_iff_eq] at h2;have hl:=Ey p a;rcases h2 with ⟨h3,h4⟩ | ⟨h3,h4⟩
 · left;exact ⟨AB,h4⟩
 · right;exact ⟨AB,h4⟩
theorem Valid.distinct {a:Ar} (ha:a∈p.AP) {k:Nat} (hk:k+1<(AV p a).length):(AV p a).getD k AY≠(AV p a).getD (k+1) AY/\(a.fr=a.dst->4<=(AV p a).length):=by
 have h1:=h.Ri.1 a ha k hk;unfold QK V3 DY at h1;simp only [Ei,Qk,Iy,KD,bne_iff_ne,EO] at h1;refine ⟨h1.2.1,fun e=>?_⟩;rcases h1.2.2 with h2 | h2
 · exact absurd e h2
 · omega
theorem Valid.adI {a:Ar} (ha:a∈p.AP) {j:Nat} (hj:j<a.via.length) {n:Nd} (hn:n∈p.nodes):a.via[j]≠n.pt:=by
 intro e;have hl:=Ey p a;have hm:=bC p a j hj;have o1:LZ (DY p a j).a (DY p a j).b n.pt=true:=by
  rw [<- e,<- hm];exact apz (h.Dj ha AB) (h.Dj ha AB)
 have o2:LZ (DY p a (j+1)).a (DY p a (j+1)).b n.pt=true:=by
  rw [<- e,<- hm];exact aq0 (h.Dj ha AB) (h.Dj ha AB)
 rcases h.oh ha AB hn o1 with ⟨h1,h2⟩ | ⟨h1,h2⟩
 ·have hd:=(h.distinct ha (k:=j) AB).1;obtain ⟨n',hn',e1,e2⟩:=h.sound.Xk ha
  have:nodeAt p a.fr=n.pt:=by rw [h2];exact h.sound.QN hn
  subst h1;rw [Wp,this,hm,e] at hd;exact hd rfl
 · omega
theorem Valid.ai1 {a:Ar} (ha:a∈p.AP) {j m:Nat} (hjm:j<m) (hm:m<a.via.length):a.via[j]≠a.via[m]:=by
 intro e;have hl:=Ey p a;have e1:=bC p a j AB;have e2:=bC p a m hm;by_cases hn:m=j+1
 ·subst hn;have:=(h.distinct ha (k:=j+1) AB).1
  rw [e1,e2] at this;exact this e
 ·have h1:=h.Ri.2.1 a ha j m hjm AB;unfold SE at h1;have hc:¬ ((DY p a m).i=(DY p a j).i+1\/((DY p a j).i=0/\(DY p a m).i+1=(DY p a m).n/\(DY p a j).arc.fr=(DY p a j).arc.dst)):=by
   unfold DY;simp only [];omega
  rw [AX hc] at h1;have h2:Fq ((AV p a).getD j AY) ((AV p a).getD (j+1) AY) ((AV p a).getD m AY) ((AV p a).getD (m+1) AY)=0:=by simpa [DY] using h1
  rw [e2,<- e,<- e1] at h2;exact ai0 (h.Dj ha AB) (h.Dj ha AB) (h.Dj ha AB) h2
theorem Valid.aq2:p.AP.Pairwise (fun a b=>∀ x∈a.via,∀ y∈b.via,x≠y):=by
 refine (List.Pairwise.and_mem.1 h.Ri.2.2).imp ?_;rintro a b ⟨ha,hb,hj⟩ x hx y hy e;obtain ⟨j,hjl,rfl⟩:=EF.1 hx;obtain ⟨m,hml,rfl⟩:=EF.1 hy;have hla:=Ey p a;have hlb:=Ey p b;have e1:=bC p a j hjl;have e2:=bC p b m hml;have j1:=hj j AB m AB;have j2:=hj (j+1) AB m AB;unfold PG at j1 j2;have n1:Fq (DY p a j).a (DY p a j).b (DY p b m).a (DY p b m).b≠0:=by
  unfold DY;simp only [];rw [e2,<- e,<- e1];exact ai0 (h.Dj ha AB) (h.Dj ha AB) (h.Dj hb AB)
 have n2:Fq (DY p a (j+1)).a (DY p a (j+1)).b (DY p b m).a (DY p b m).b≠0:=by
  unfold DY;simp only [];rw [e2,<- e,<- e1];exact apy (h.Dj ha AB) (h.Dj ha AB) (h.Dj hb AB)
 have m1:Fq (DY p a j).a (DY p a j).b (DY p b m).a (DY p b m).b=1:=by
  by_cases hh:Fq (DY p a j).a (DY p a j).b (DY p b m).a (DY p b m).b=1
  · exact hh
  · rw [AX hh] at j1;exact absurd (by simpa using j1) n1
 have m2:Fq (DY p a (j+1)).a (DY p a (j+1)).b (DY p b m).a (DY p b m).b=1:=by
  by_cases hh:Fq (DY p a (j+1)).a (DY p a (j+1)).b (DY p b m).a (DY p b m).b=1
  · exact hh
  · rw [AX hh] at j2;exact absurd (by simpa using j2) n2
 rw [AZ m1,OC] at j1;rw [AZ m2,OC] at j2;obtain ⟨n,hn,hn'⟩:=j1;obtain ⟨n',hm,hm'⟩:=j2;unfold PE at hn' hm';rw [Ei,Ei] at hn' hm';have k1:=h.oh ha AB hn hn'.1.2;have k2:=h.oh hb AB hn hn'.2;have k3:=h.oh ha AB hm hm'.1.2;have k4:=h.oh hb AB hm hm'.2;have hd:=(h.distinct ha (k:=j) AB).2;omega
end
theorem aq3 {o a b:Pt} (ha:a≠o) (hb:b≠o) (h1:¬ Ef o a b) (h2:¬ Ef o b a):tw o a b=0/\(CP o a=true↔CP o b=true):=by
 have ha':=vI.1 ha;have hb':=vI.1 hb;unfold Ef OJ at h1 h2;have e:tw o a b=(a.x-o.x)*(b.y-o.y)-(a.y-o.y)*(b.x-o.x):=rfl;rw [MN,MN,e];generalize hux:a.x-o.x=ux at *;generalize huy:a.y-o.y=uy at *;generalize hvx:b.x-o.x=vx at *;generalize hvy:b.y-o.y=vy at *;rw [KP vx,KP vy] at h2;have hl:EZ ux uy↔EZ vx vy:=by
  by_cases l1:EZ ux uy<;>by_cases l2:EZ vx vy<;>simp [l1,l2] at h1 h2 ⊢
 have hz:ux*vy-uy*vx=0:=by
  rcases Ik (ux*vy-uy*vx) 0 with h | h | h
  · exact absurd (.inr ⟨hl.symm,AB⟩) h2
  · exact h
  · exact absurd (.inr ⟨hl,h⟩) h1
 refine ⟨hz,?_⟩;have m1:∀ {a b:Int},0<a->0<b->0<a*b:=Jg;have m2:∀ {a b:Int},0<a->b<0->a*b<0:=XK;have m3:∀ {a b:Int},a<0->0<b->a*b<0:=VQ;have m4:∀ {a b:Int},a<0->b<0->0<a*b:=rW;unfold EZ at hl;have key:(0<ux↔0<vx)/\(ux<0↔vx<0):=by
  rcases Ik uy 0 with y1 | y1 | y1
  ·have y2:vy<0:=by
    rcases Ik vy 0 with y2 | y2 | y2
    · exact y2
    ·have h3:vx<0:=by omega
     have:=m4 y1 h3
     rw [y2,KQ] at hz;omega
    · omega
   rcases Ik ux 0 with x1 | x1 | x1<;>rcases Ik vx 0 with x2 | x2 | x2
   · omega
   · have:=m4 x1 y2;rw [x2,KQ] at hz;omega
   · have h3:=m4 x1 y2;have h4:=m3 y1 x2;omega
   · have:=m4 y1 x2;rw [x1,Jf] at hz;omega
   · omega
   · have:=m3 y1 x2;rw [x1,Jf] at hz;omega
   · have h3:=m2 x1 y2;have h4:=m4 y1 x2;omega
   · have:=m2 x1 y2;rw [x2,KQ] at hz;omega
   · omega
  ·rw [y1,Jf] at hz;have hx:ux≠0:=by omega
   have y2:vy=0:=by
    rcases XM.1 (show ux*vy=0 by omega) with h | h
    · exact absurd h hx
    · exact h
   omega
  ·have y2:0<vy:=by
    rcases Ik vy 0 with y2 | y2 | y2
    · omega
    ·have h3:0<vx:=by omega
     have:=m1 y1 h3
     rw [y2,KQ] at hz;omega
    · exact y2
   rcases Ik ux 0 with x1 | x1 | x1<;>rcases Ik vx 0 with x2 | x2 | x2
   · omega
   · have:=m3 x1 y2;rw [x2,KQ] at hz;omega
   · have h3:=m3 x1 y2;have h4:=m1 y1 x2;omega
   · have:=m2 y1 x2;rw [x1,Jf] at hz;omega
   · omega
   · have:=m1 y1 x2;rw [x1,Jf] at hz;omega
   · have h3:=m1 x1 y2;have h4:=m2 y1 x2;omega
   · have:=m1 x1 y2;rw [x2,KQ] at hz;omega
   · omega
 omega
theorem aq4 {o a b:Pt} (ha:a≠o) (hb:b≠o) (h:CP o a=true↔CP o b=true):KL o a o b=2:=by
 have tri:∀ q:Pt,q≠o->CP o q=true\/CP q o=true:=fun q hq=>by
  cases h1:CP o q
  ·cases h2:CP q o
   · exact absurd (nH h2 h1) hq
   · exact .inr rfl
  · exact .inl rfl
 rw [VU];rcases tri a ha with h1 | h1
 ·have h2:=h.1 h1;have e1:lo o a=o:=by unfold lo;rw [PX h1];simp
  have e2:lo o b=o:=by unfold lo;rw [PX h2];simp
  have e3:hi o a=a:=by unfold hi;rw [PX h1];simp
  have e4:hi o b=b:=by unfold hi;rw [PX h2];simp
  have e5:hi o o=o:=by unfold hi;rw [iT];simp
  rw [e1,e2,e3,e4,e5];have e6:lo a b=a\/lo a b=b:=by unfold lo;split;exact .inr rfl;exact .inl rfl
  rcases e6 with e6 | e6<;>rw [e6]
  · rw [AX (fun e=>ha e.symm),AZ h1]
  · rw [AX (fun e=>hb e.symm),AZ h2]
 ·have h2:CP b o=true:=by
   rcases tri b hb with h3 | h3
   · rw [PX (h.2 h3)] at h1;cases h1
   · exact h3
  have e1:lo o a=a:=by unfold lo;rw [h1];simp
  have e2:lo o b=b:=by unfold lo;rw [h2];simp
  have e3:hi o a=o:=by unfold hi;rw [h1];simp
  have e4:hi o b=o:=by unfold hi;rw [h2];simp
  have e5:lo o o=o:=by unfold lo;rw [iT];simp
  rw [e1,e2,e3,e4,e5];have e6:hi a b=a\/hi a b=b:=by unfold hi;split;exact .inl rfl;exact .inr rfl
  rcases e6 with e6 | e6<;>rw [e6]
  · rw [AX ha,AZ h1]
  · rw [AX hb,AZ h2]
theorem ai2 {o a b:Pt} (ho:C9 o=true) (hna:C9 a=true) (hnb:C9 b=true) (ha:a≠o) (hb:b≠o) (h1:¬ Ef o a b) (h2:¬ Ef o b a) :
  Fq o a o b=2/\Fq a o o b=2/\Fq o a b o=2/\Fq a o b o=2:=by
 obtain ⟨hc,hbf⟩:=aq3 ha hb h1 h2;have hs:=aq4 ha hb hbf;have c1:KL a o o b=2:=by rw [<- hs];exact nI a o o b
 have c2:KL o a b o=2:=by rw [Xf,nI,Xf];exact hs
 have c3:KL a o b o=2:=by rw [Xf,nI,Xf];exact c1
 unfold tw at hc;unfold Fq ND;refine ⟨?_,?_,?_,?_⟩
 · rw [AZ (Yk ho hna ho hnb),AX (fun e=>ha e.1.symm),AZ NW,AZ ⟨NW,NW,NW,NW⟩];exact hs
 · rw [AZ (Yk hna ho ho hnb),AX (fun e=>ha e.1),AZ NW,AZ ⟨NW,NW,NW,NW⟩];exact c1
 · rw [AZ (Yk ho hna hnb ho),AX (fun e=>ha e.1.symm),AZ NW,AZ ⟨NW,NW,NW,NW⟩];exact c2
 · rw [AZ (Yk hna ho hnb ho),AX (fun e=>ha e.1),AZ NW,AZ ⟨NW,NW,NW,NW⟩];exact c3
section
variable {α:Type}
theorem ou {lt:α->α->Bool}:∀ {l m:List α},l.Perm m->l.Pairwise (fun a b=>lt b a=false)->m.Pairwise (fun a b=>lt b a=false)->(∀ a∈l,∀ b∈l,lt a b=false->lt b a=false->a=b)->l=m
 | [],m,hp,_,_,_=>(List.nil_perm.1 hp).symm
 | a::l,[],hp,_,_,_=>by have:=hp.length_eq;simp at this
 | a::l,b::m,hp,h1,h2,ht=>by
  have h1':=JL.1 h1;have h2':=JL.1 h2;have hab:a=b:=by
   have ha:a∈b::m:=hp.subset (Eu);have hb:b∈a::l:=hp.symm.subset (Eu);rcases EW.1 ha with e | ha
   · exact e
   rcases EW.1 hb with e | hb
   · exact e.symm
   exact ht a Eu b (I7 _ hb) (h2'.1 a ha) (h1'.1 b hb)
  subst hab;rw [ou (List.Perm.cons_inv hp) h1'.2 h2'.2 (fun x hx y hy=>ht x (I7 _ hx) y (I7 _ hy))]
theorem Wq:∀ {l m:List Int},l.Nodup->(∀ x∈l,x∈m)->l.length<=m.length
 | [],m,_,_=>Bv _
 | a::l,m,h,hs=>by
  have h':=aAO.1 h;have ha:=hs a Eu;have:=Wq (m:=m.erase a) h'.2 (fun x hx=>(List.mem_erase_of_ne (fun e=>h'.1 (by rw [<- e];exact hx))).2 (hs x (I7 _ hx)))
  rw [List.length_erase_of_mem ha] at this;have hp:0<m.length:=abS ha;simp only [IU];omega
def iter (f:Int->Int) (x:Int):Nat->List Int
 | 0=>[]
 | n+1=>x::iter f (f x) n
def pw (f:Int->Int) (x:Int):Nat->Int
 | 0=>x
 | n+1=>f (pw f x n)
theorem ai3 (f:Int->Int) (x:Int) (n:Nat):pw f (f x) n=pw f x (n+1):=by
 induction n with
 | zero=>rfl
 | succ n ih=>rw [pw,ih];rfl
theorem XW (f:Int->Int) (x:Int) (n:Nat):(iter f x n).length=n:=by
 induction n generalizing x with
 | zero=>rfl
 | succ n ih=>simp [iter,ih]
theorem iJ (f:Int->Int) (x:Int) (n k:Nat) (hk:k<(iter f x n).length):(iter f x n)[k]=pw f x k:=by
 induction n generalizing x k with
 | zero=>simp [iter] at hk
 | succ n ih =>
  cases k with
  | zero=>rfl
  | succ k =>
   simp only [iter,List.getElem_cons_succ];rw [ih (f x) k (by simpa [iter] using hk),ai3]
theorem adJ (f:Int->Int) (x:Int) (n:Nat):iter f x (n+1)=iter f x n++[pw f x n]:=by
 induction n generalizing x with
 | zero=>rfl
 | succ n ih =>
  rw [iter,ih (f x),ai3];rfl
variable {f:Int->Int} {D:List Int} (hD:∀ x∈D,f x∈D) (hi:∀ x∈D,∀ y∈D,f x=f y->x=y)
include hD in
theorem Xl {x:Int} (hx:x∈D) (n:Nat):pw f x n∈D:=by
 induction n with
 | zero=>exact hx
 | succ n ih=>exact hD _ ih
include hD hi in
theorem ai4 {x:Int} (hx:x∈D) {i j:Nat} (h:pw f x i=pw f x (i+j)):pw f x j=x:=by
 induction i with
 | zero=>rw [Qm] at h;exact h.symm
 | succ i ih =>
  refine ih (hi _ (Xl hD hx i) _ (Xl hD hx (i+j)) ?_);rw [show i+1+j=(i+j)+1 by omega] at h;exact h
theorem ai5 (f:Int->Int) (x:Int) (n:Nat):(iter f x n).Nodup\/∃ i j,0<j/\i+j<n/\pw f x i=pw f x (i+j):=by
 induction n with
 | zero=>exact .inl List.nodup_nil
 | succ n ih =>
  rcases ih with h | ⟨i,j,h1,h2,h3⟩
  ·by_cases hm:pw f x n∈iter f x n
   ·right;obtain ⟨k,hk,e⟩:=EF.1 hm;rw [iJ] at e;rw [XW] at hk;exact ⟨k,n-k,AB,AB,by rw [e,show k+(n-k)=n by omega]⟩
   ·left;rw [adJ,List.nodup_append];refine ⟨h,Ak,fun a ha b hb=>?_⟩;rw [EP] at hb;subst hb;exact fun e=>hm (e ▸ ha)
  · exact .inr ⟨i,j,h1,AB,h3⟩
include hD hi in
theorem returns {x:Int} (hx:x∈D):∃ j,0<j/\j<=D.length/\pw f x j=x:=by
 rcases ai5 f x (D.length+1) with h | ⟨i,j,h1,h2,h3⟩
 ·have:=Wq h (fun y hy=>by
   obtain ⟨k,hk,rfl⟩:=EF.1 hy;rw [iJ];exact Xl hD hx k)
  rw [XW] at this;omega
 · exact ⟨j,h1,AB,ai4 hD hi hx h3⟩
def per (f:Int->Int) (x:Int):Nat->Nat->Nat
 | k,0=>k
 | k,n+1=>if pw f x k=x then k else per f x (k+1) n
theorem aq5 (f:Int->Int) (x:Int) (k n:Nat):k<=per f x k n/\∀ j,k<=j->j<per f x k n->pw f x j≠x:=by
 induction n generalizing k with
 | zero=>exact ⟨Dc _,fun j h1 h2=>by simp only [per] at h2;omega⟩
 | succ n ih =>
  unfold per;split
  · exact ⟨Dc _,fun j h1 h2=>by omega⟩
  ·rename_i hne;obtain ⟨h1,h2⟩:=ih (k+1);refine ⟨AB,fun j hj hj2=>?_⟩;by_cases e:j=k
   · subst e;exact hne
   · exact h2 j AB hj2
theorem aq6 (f:Int->Int) (x:Int) (k n:Nat) (h:∃ j,k<=j/\j<=k+n/\pw f x j=x):pw f x (per f x k n)=x/\per f x k n<=k+n:=by
 induction n generalizing k with
 | zero =>
  obtain ⟨j,h1,h2,h3⟩:=h
  have:j=k:=by omega
  subst this;exact ⟨h3,Dc _⟩
 | succ n ih =>
  unfold per;split
  · rename_i e;exact ⟨e,AB⟩
  ·rename_i hne;obtain ⟨j,h1,h2,h3⟩:=h;have:=ih (k+1) ⟨j,by
    by_cases e:j=k
    · subst e;exact absurd h3 hne
    · omega,AB,h3⟩
   exact ⟨this.1,AB⟩
def LJ (f:Int->Int) (D:List Int) (x:Int):Nat:=per f x 1 D.length
def JZ (f:Int->Int) (D:List Int) (x:Int):List Int:=iter f x (LJ f D x)
include hD hi in
theorem Ws {x:Int} (hx:x∈D):0<LJ f D x/\LJ f D x<=D.length+1/\pw f x (LJ f D x)=x/\(∀ j,0<j->j<LJ f D x->pw f x j≠x)/\(JZ f D x).Nodup/\(JZ f D x).length=LJ f D x:=by
 obtain ⟨j,h1,h2,h3⟩:=returns hD hi hx;obtain ⟨a1,a2⟩:=aq5 f x 1 D.length;obtain ⟨b1,b2⟩:=aq6 f x 1 D.length ⟨j,h1,AB,h3⟩;refine ⟨a1,by show per f x 1 D.length<=_;omega,b1,fun j h1 h2=>a2 j h1 h2,?_,XW _ _ _⟩;rcases ai5 f x (LJ f D x) with h | ⟨i,j,c1,c2,c3⟩
 · exact h
 · exact absurd (ai4 hD hi hx c3) (a2 j c1 (by unfold LJ at c2;omega))
theorem Uk {f:Int->Int} {x y:Int} {n:Nat}:y∈iter f x n↔∃ k,k<n/\pw f x k=y:=by
 rw [EF];constructor
 ·rintro ⟨k,hk,e⟩;rw [iJ] at e;rw [XW] at hk;exact ⟨k,hk,e⟩
 ·rintro ⟨k,hk,e⟩;exact ⟨k,by rw [XW];exact hk,by rw [iJ];exact e⟩
include hD hi in
theorem adK {x y:Int} (hx:x∈D):y∈D->(f y∈JZ f D x↔y∈JZ f D x):=by
 intro hy;obtain ⟨h1,-,h3,-,-,-⟩:=Ws hD hi hx;unfold JZ;rw [Uk,Uk];constructor
 ·rintro ⟨k,hk,e⟩
  cases k with
  | zero =>
   refine ⟨LJ f D x-1,AB,hi _ (Xl hD hx _) _ hy ?_⟩
   have:pw f x (LJ f D x-1+1)=x:=by rw [aax h1];exact h3
   rw [pw] at this;rw [this];exact e
  | succ k=>exact ⟨k,AB,hi _ (Xl hD hx _) _ hy e⟩
 ·rintro ⟨k,hk,rfl⟩;by_cases e:k+1=LJ f D x
  ·refine ⟨0,h1,?_⟩;have h4:pw f x (k+1)=x:=by rw [e];exact h3
   exact h4.symm
  · exact ⟨k+1,AB,rfl⟩
end
section
def Om (f:Int->Int) (D:List Int) (acc:List (List Int)) (d:Int):List (List Int):=if d∈acc.flatten then acc else acc++[JZ f D d]
def aBZ (f:Int->Int) (D L:List Int):List (List Int):=L.foldl (Om f D) []
variable {f:Int->Int} {D:List Int}
theorem ai6 {x:Int} (h:0<LJ f D x):x∈JZ f D x:=Uk.2 ⟨0,h,rfl⟩
theorem wI (hD:∀ x∈D,f x∈D) {x y:Int} (hx:x∈D) (hy:y∈JZ f D x):y∈D:=by
 obtain ⟨k,-,rfl⟩:=Uk.1 hy;exact Xl hD hx k
structure Oo (f:Int->Int) (D P:List Int) (acc:List (List Int)):Prop where
 oz:∀ l∈acc,∃ d∈P,l=JZ f D d/\∀ e∈l,e∈P->d<=e
 covers:∀ x∈P,x∈acc.flatten
 nodup:acc.flatten.Nodup
 closed:∀ y∈D,f y∈acc.flatten↔y∈acc.flatten
theorem Oo.back {P:List Int} {acc:List (List Int)} (h:Oo f D P acc) (hD:∀ x∈D,f x∈D) {x:Int} (hx:x∈D) (k:Nat):pw f x k∈acc.flatten↔x∈acc.flatten:=by
 induction k with
 | zero=>exact Iff.rfl
 | succ k ih=>exact (h.closed _ (Xl hD hx k)).trans ih
theorem Oo.nil (f:Int->Int) (D:List Int):Oo f D [] []:=⟨fun l h=>(by cases h),fun x h=>(by cases h),List.nodup_nil,fun y _=>⟨fun h=>(by cases h),fun h=>(by cases h)⟩⟩
theorem Oo.apart {P:List Int} {acc:List (List Int)} (h:Oo f D P acc) (hD:∀ x∈D,f x∈D) {d:Int} (hd:d∈D) (hm:d∉acc.flatten) {y:Int} (hy:y∈JZ f D d):y∉acc.flatten:=by
 obtain ⟨k,-,rfl⟩:=Uk.1 hy;exact fun e=>hm ((h.back hD hd k).1 e)
theorem Oo.step {P:List Int} {acc:List (List Int)} (h:Oo f D P acc) (hD:∀ x∈D,f x∈D) (hi:∀ x∈D,∀ y∈D,f x=f y->x=y) {d:Int} (hd:d∈D) (hlt:∀ x∈P,x<d):Oo f D (P++[d]) (Om f D acc d):=by
 unfold Om;by_cases hm:d∈acc.flatten
 ·rw [AZ hm];refine ⟨fun l hl=>?_,fun x hx=>?_,h.nodup,h.closed⟩
  ·obtain ⟨d',h1,h2,h3⟩:=h.oz l hl;refine ⟨d',O9 _ h1,h2,fun e he hp=>?_⟩;rcases FX.1 hp with hp | hp
   · exact h3 e he hp
   · rw [EP] at hp;subst hp;exact gW (hlt _ h1)
  ·rcases FX.1 hx with hx | hx
   · exact h.covers x hx
   · rw [EP] at hx;subst hx;exact hm
 ·rw [AX hm];obtain ⟨o1,-,-,-,o5,-⟩:=Ws hD hi hd;have hfl:(acc++[JZ f D d]).flatten=acc.flatten++JZ f D d:=by simp
  refine ⟨fun l hl=>?_,fun x hx=>?_,?_,fun y hy=>?_⟩
  ·rcases FX.1 hl with hl | hl
   ·obtain ⟨d',h1,h2,h3⟩:=h.oz l hl;refine ⟨d',O9 _ h1,h2,fun e he hp=>?_⟩;rcases FX.1 hp with hp | hp
    · exact h3 e he hp
    · rw [EP] at hp;subst hp;exact gW (hlt _ h1)
   ·rw [EP] at hl;refine ⟨d,YI _ (EP.2 rfl),hl,fun e he hp=>?_⟩;subst hl;rcases FX.1 hp with hp | hp
    · exact absurd (h.covers e hp) (h.apart hD hd hm he)
    · rw [EP] at hp;exact Int.le_of_eq hp.symm
  ·rw [hfl];rcases FX.1 hx with hx | hx
   · exact O9 _ (h.covers x hx)
   · rw [EP] at hx;subst hx;exact YI _ (ai6 o1)
  ·rw [hfl,List.nodup_append];exact ⟨h.nodup,o5,fun a ha b hb e=>h.apart hD hd hm hb (e ▸ ha)⟩
  · rw [hfl,FX,FX,h.closed y hy,adK hD hi hd hy]
theorem adL (hD:∀ x∈D,f x∈D) (hi:∀ x∈D,∀ y∈D,f x=f y->x=y):∀ (L P:List Int) (acc:List (List Int)),Oo f D P acc->(∀ x∈L,x∈D)->(P++L).Pairwise (· < ·)->Oo f D (P++L) (L.foldl (Om f D) acc)
 | [],P,acc,h,_,_=>by rw [JA];exact h
 | d::L,P,acc,h,hs,hp=>by
  have hp':=Qn.1 hp;have:=adL hD hi L (P++[d]) _ (h.step hD hi (hs d Eu) (fun x hx=>hp'.2.2 x hx d Eu)) (fun x hx=>hs x (I7 _ hx)) (by rw [KW];exact hp)
  rw [KW] at this;exact this
theorem aq7 (hD:∀ x∈D,f x∈D) (hi:∀ x∈D,∀ y∈D,f x=f y->x=y) (hs:D.Pairwise (· < ·)):Oo f D D (aBZ f D D):=by
 have:=adL hD hi D [] [] (Oo.nil f D) (fun x hx=>hx) hs
 exact this
theorem Oo.perm {acc:List (List Int)} (h:Oo f D D acc) (hD:∀ x∈D,f x∈D) (hs:D.Nodup):acc.flatten.Perm D:=by
 refine (aay h.nodup hs).2 fun x=>⟨fun hx=>?_,h.covers x⟩;obtain ⟨l,hl,hx⟩:=aAP.1 hx;obtain ⟨d,h1,h2,-⟩:=h.oz l hl;subst h2;exact wI hD h1 hx
end
def Ez (d:Int):Int:=if d<0 then -d else d
def aBa:Int:=-9223372036854775808
def Fg (p:Pl) (d:Int):Option Ar:=if d=0\/d=aBa then none else findAr p.AP (Ez d)
def Kq (p:Pl) (d:Int):Int:=match Fg p d with
 | none=>0
 | some a=>if 0<d then a.fr else a.dst
def IK (p:Pl) (d:Int):Int:=match Fg p d with
 | none=>0
 | some a=>if 0<d then a.left else a.right
def Dl (l:List Ar) (n:Int):List Int:=l.flatMap fun a=>(if a.fr=n then [a.id] else [])++(if a.dst=n then [-a.id] else [])
def Dy (p:Pl) (d:Int):Pt:=match findAr p.AP (Ez d) with
 | none=>AY
 | some a=>if 0<d then (AV p a).getD 1 AY else (AV p a).getD a.via.length AY
def Bh (p:Pl):List Int:=(p.AP.map (fun a=>-a.id)).reverse++p.AP.map (·.id)
section
variable {p:Pl} (h:Valid p)
include h
theorem Valid.Gx {a:Ar} (ha:a∈p.AP):1<=a.id/\a.id<=1073741824:=by
 have hr:=h.rng;unfold Nb at hr;rw [Ei] at hr;have h1:=hr.1;rw [Qk,XO] at h1;have:=h1 a.id (O9 _ (YI _ (Gh ha)))
 unfold Jj at this;simp only [KD,EO,not_or] at this;omega
theorem Valid.aq8 {n:Nd} (hn:n∈p.nodes):1<=n.id/\n.id<=1073741824:=by
 have hr:=h.rng;unfold Nb at hr;rw [Ei] at hr;have h1:=hr.1;rw [Qk,XO] at h1;have:=h1 n.id (O9 _ (O9 _ (Gh hn)))
 unfold Jj at this;simp only [KD,EO,not_or] at this;omega
theorem Valid.find {a:Ar} (ha:a∈p.AP):findAr p.AP a.id=some a:=aBT (fun x:Ar=>x.id) p.AP h.sound.AP a ha
theorem Valid.ai7 {a b:Ar} (ha:a∈p.AP) (hb:b∈p.AP) (e:a.id=b.id):a=b:=by
 have h1:=h.find ha;rw [e,h.find hb] at h1;exact (Dq h1).symm
theorem Valid.iK {a:Ar} (ha:a∈p.AP):Fg p a.id=some a:=by
 have:=h.Gx ha
 unfold Fg Ez aBa;rw [AX AB,AX AB,h.find ha]
theorem Valid.pF {a:Ar} (ha:a∈p.AP):Fg p (-a.id)=some a:=by
 have:=h.Gx ha
 unfold Fg Ez aBa;rw [AX AB,AZ AB,Oj,h.find ha]
theorem Valid.aBb {a:Ar} (ha:a∈p.AP):Kq p a.id=a.fr:=by
 have:=h.Gx ha
 unfold Kq;rw [h.iK ha]
 show (if 0<a.id then a.fr else a.dst)=a.fr
 rw [AZ AB]
theorem Valid.wJ {a:Ar} (ha:a∈p.AP):Kq p (-a.id)=a.dst:=by
 have:=h.Gx ha
 unfold Kq;rw [h.pF ha]
 show (if 0 < -a.id then a.fr else a.dst)=a.dst
 rw [AX AB]
theorem Valid.jV {a:Ar} (ha:a∈p.AP):Dy p a.id=(AV p a).getD 1 AY:=by
 have:=h.Gx ha
 unfold Dy Ez;rw [AX AB,h.find ha]
 show (if 0<a.id then _ else _)=_
 rw [AZ AB]
theorem Valid.bF {a:Ar} (ha:a∈p.AP):Dy p (-a.id)=(AV p a).getD a.via.length AY:=by
 have:=h.Gx ha
 unfold Dy Ez;rw [AZ AB,Oj,h.find ha]
 show (if 0 < -a.id then _ else _)=_
 rw [AX AB]
end
theorem Rl {l:List Ar} {n d:Int}:d∈Dl l n↔∃ a∈l,(d=a.id/\a.fr=n)\/(d=-a.id/\a.dst=n):=by
 unfold Dl;rw [Gf];refine exists_congr fun a=>and_congr_right fun _=>?_;rw [FX];constructor
 ·rintro (h | h)
  ·split at h
   · rw [EP] at h;exact .inl ⟨h,KT⟩
   · cases h
  ·split at h
   · rw [EP] at h;exact .inr ⟨h,KT⟩
   · cases h
 ·rintro (⟨h1,h2⟩ | ⟨h1,h2⟩)
  · left;rw [AZ h2,h1];exact EP.2 rfl
  · right;rw [AZ h2,h1];exact EP.2 rfl
theorem Iq {p:Pl} {d:Int}:d∈Bh p↔∃ a∈p.AP,d=a.id\/d=-a.id:=by
 unfold Bh;rw [FX,aAI,ED,ED];constructor
 ·rintro (⟨a,ha,rfl⟩ | ⟨a,ha,rfl⟩)
  · exact ⟨a,ha,.inr rfl⟩
  · exact ⟨a,ha,.inl rfl⟩
 ·rintro ⟨a,ha,rfl | rfl⟩
  · exact .inr ⟨a,ha,rfl⟩
  · exact .inl ⟨a,ha,rfl⟩
section
variable {p:Pl} (h:Valid p)
include h
theorem Valid.adM {n:Nd} (hn:n∈p.nodes) {d:Int} (hd:d∈Dl p.AP n.id):∃ a∈p.AP,∃ k,k+1<(AV p a).length /\
  ((d=a.id/\k=0/\a.fr=n.id/\(AV p a).getD k AY=n.pt/\(AV p a).getD (k+1) AY=Dy p d)\/(d=-a.id/\k=a.via.length/\a.dst=n.id/\(AV p a).getD (k+1) AY=n.pt/\(AV p a).getD k AY=Dy p d)):=by
 obtain ⟨a,ha,h1⟩:=Rl.1 hd;have hl:=Ey p a;rcases h1 with ⟨rfl,h2⟩ | ⟨rfl,h2⟩
 ·refine ⟨a,ha,0,AB,.inl ⟨rfl,rfl,h2,?_,(h.jV ha).symm⟩⟩;rw [Wp,h2];exact h.sound.QN hn
 ·refine ⟨a,ha,a.via.length,AB,.inr ⟨rfl,rfl,h2,?_,(h.bF ha).symm⟩⟩;have:(AV p a).getD (a.via.length+1) AY=nodeAt p a.dst:=by
   unfold AV;rw [aaw,Fj,List.getElem?_append_right AB];simp
  rw [this,h2];exact h.sound.QN hn
theorem Valid.jW {n:Nd} (hn:n∈p.nodes) {d:Int} (hd:d∈Dl p.AP n.id):C9 n.pt=true/\C9 (Dy p d)=true/\Dy p d≠n.pt:=by
 obtain ⟨a,ha,k,hk,h1⟩:=h.adM hn hd;have n1:=h.Dj ha (k:=k) AB;have n2:=h.Dj ha (k:=k+1) hk;have hne:=(h.distinct ha hk).1;rcases h1 with ⟨-,-,-,e1,e2⟩ | ⟨-,-,-,e1,e2⟩
 · rw [e1] at n1 hne;rw [e2] at n2 hne;exact ⟨n1,n2,hne.symm⟩
 · rw [e1] at n2 hne;rw [e2] at n1 hne;exact ⟨n2,n1,hne⟩
theorem Valid.dirs {n:Nd} (hn:n∈p.nodes) {d1 d2:Int} (h1:d1∈Dl p.AP n.id) (h2:d2∈Dl p.AP n.id) (hne:d1≠d2):Ef n.pt (Dy p d1) (Dy p d2)\/Ef n.pt (Dy p d2) (Dy p d1):=by
 by_cases c1:Ef n.pt (Dy p d1) (Dy p d2)
 · exact .inl c1
 by_cases c2:Ef n.pt (Dy p d2) (Dy p d1)
 · exact .inr c2
 exfalso;have key:∀ {e1 e2:Int},e1∈Dl p.AP n.id->e2∈Dl p.AP n.id->¬ Ef n.pt (Dy p e1) (Dy p e2)->¬ Ef n.pt (Dy p e2) (Dy p e1)->∀ {a b:Ar} {k m:Nat},
   ((AV p a).getD k AY=n.pt/\(AV p a).getD (k+1) AY=Dy p e1\/(AV p a).getD (k+1) AY=n.pt/\(AV p a).getD k AY=Dy p e1) ->
   ((AV p b).getD m AY=n.pt/\(AV p b).getD (m+1) AY=Dy p e2\/(AV p b).getD (m+1) AY=n.pt/\(AV p b).getD m AY=Dy p e2) ->
   Fq (DY p a k).a (DY p a k).b (DY p b m).a (DY p b m).b=2:=by
  intro e1 e2 m1 m2 q1 q2 a b k m s1 s2;obtain ⟨n0,n1,x1⟩:=h.jW hn m1;obtain ⟨-,n2,x2⟩:=h.jW hn m2;obtain ⟨r1,r2,r3,r4⟩:=ai2 n0 n1 n2 x1 x2 q1 q2;unfold DY;rcases s1 with ⟨u1,u2⟩ | ⟨u1,u2⟩<;>rcases s2 with ⟨v1,v2⟩ | ⟨v1,v2⟩<;>simp only [u1,u2,v1,v2]
  · exact r1
  · exact r3
  · exact r2
  · exact r4
 obtain ⟨a,ha,k,hk,s1⟩:=h.adM hn h1;obtain ⟨b,hb,m,hm,s2⟩:=h.adM hn h2;have t1:(AV p a).getD k AY=n.pt/\(AV p a).getD (k+1) AY=Dy p d1\/(AV p a).getD (k+1) AY=n.pt/\(AV p a).getD k AY=Dy p d1:=by
  rcases s1 with ⟨-,-,-,e1,e2⟩ | ⟨-,-,-,e1,e2⟩
  · exact .inl ⟨e1,e2⟩
  · exact .inr ⟨e1,e2⟩
 have t2:(AV p b).getD m AY=n.pt/\(AV p b).getD (m+1) AY=Dy p d2\/(AV p b).getD (m+1) AY=n.pt/\(AV p b).getD m AY=Dy p d2:=by
  rcases s2 with ⟨-,-,-,e1,e2⟩ | ⟨-,-,-,e1,e2⟩
  · exact .inl ⟨e1,e2⟩
  · exact .inr ⟨e1,e2⟩
 have r12:=key h1 h2 c1 c2 t1 t2;have r21:=key h2 h1 c2 c1 t2 t1;by_cases hab:a=b
 ·subst hab;have hl:=Ey p a;have same:∀ {d3 d4:Int} {i j:Nat},d3≠d4->((d3=a.id/\i=0/\a.fr=n.id)\/(d3=-a.id/\i=a.via.length/\a.dst=n.id))->((d4=a.id/\j=0/\a.fr=n.id)\/(d4=-a.id/\j=a.via.length/\a.dst=n.id))->Fq (DY p a i).a (DY p a i).b (DY p a j).a (DY p a j).b=2->i<j->False:=by
   intro d3 d4 i j hne z1 z2 z3 z4;rcases z1 with ⟨y1,y2,y3⟩ | ⟨y1,y2,y3⟩
   ·rcases z2 with ⟨x1,x2,x3⟩ | ⟨x1,x2,x3⟩
    · omega
    ·have h4:=(h.distinct ha (k:=i) AB).2 (y3.trans x3.symm);have hap:=h.Ri.2.1 a ha i j z4 AB;unfold SE at hap;rw [z3] at hap;split at hap
     · simp at hap
     · simp at hap
   ·rcases z2 with ⟨x1,x2,x3⟩ | ⟨x1,x2,x3⟩
    · omega
    · omega
  have q1:(d1=a.id/\k=0/\a.fr=n.id)\/(d1=-a.id/\k=a.via.length/\a.dst=n.id):=by
   rcases s1 with ⟨y1,y2,y3,-⟩ | ⟨y1,y2,y3,-⟩
   · exact .inl ⟨y1,y2,y3⟩
   · exact .inr ⟨y1,y2,y3⟩
  have q2:(d2=a.id/\m=0/\a.fr=n.id)\/(d2=-a.id/\m=a.via.length/\a.dst=n.id):=by
   rcases s2 with ⟨y1,y2,y3,-⟩ | ⟨y1,y2,y3,-⟩
   · exact .inl ⟨y1,y2,y3⟩
   · exact .inr ⟨y1,y2,y3⟩
  rcases PN k m with hkm | hkm | hkm
  · exact same hne q1 q2 r12 hkm
  ·subst hkm;have hd4:=h.distinct ha hk;rcases q1 with ⟨y1,y2,y3⟩ | ⟨y1,y2,y3⟩
   ·rcases q2 with ⟨x1,x2,x3⟩ | ⟨x1,x2,x3⟩
    · exact hne (y1.trans x1.symm)
    · have:=hd4.2 (y3.trans x3.symm);omega
   ·rcases q2 with ⟨x1,x2,x3⟩ | ⟨x1,x2,x3⟩
    · have:=hd4.2 (x3.trans y3.symm);omega
    · exact hne (y1.trans x1.symm)
  · exact same (fun e=>hne e.symm) q2 q1 r21 hkm
 ·have hp:=h.Ri.2.2;obtain ⟨i,hi,rfl⟩:=EF.1 ha;obtain ⟨j,hj,rfl⟩:=EF.1 hb;rw [Fa] at hp;have no2:∀ {s t:Sg},PG p s t=true->Fq s.a s.b t.a t.b=2->False:=by
   intro s t hj2 h2;unfold PG at hj2;rw [h2] at hj2;simp at hj2
  rcases PN i j with hij | hij | hij
  · exact no2 (hp i j hi hj hij k hk m hm) r12
  · subst hij;exact hab rfl
  · exact no2 (hp j i hj hi hij m hm k hk) r21
end
def bH (n:Int):DataW Unit:=.lit (.int .i64 n)
def iiR:Value->Option (DataW Unit×List MemPlace)
 | .int .i64 n=>some (bH n,[])
 | _=>none
theorem aq9 {v:Value} {n:Int} {ps:List MemPlace} (h:iiR v=some (bH n,ps)):v=.int .i64 n:=by
 unfold iiR at h;split at h
 ·simp only [bH,JM,Prod.mk.injEq,DataW.lit.injEq,Lit.int.injEq,true_and] at h;rw [h.1]
 · cases h
def Gy (w:World) (b n:Nat) (f:Int->Int):Prop :=
 ∃ D:DataW Unit,w.ownsMap Tryz.prog 3 iiR b n D/\Maps.IsMap D/\∀ id,D.atKey (.int .i64 id) (bH 0)=bH (f id)
theorem Gy.kept {w w':World} {b n:Nat} {f:Int->Int} (h:Gy w b n f) {row:Option Nat} (hg:w.grownBy w' row) (hr:some b≠row):Gy w' b n f:=by
 obtain ⟨D,h1,h2⟩:=h;exact ⟨D,h1.kept hg hr,h2⟩
theorem Gy.keep {w w':World} {b n:Nat} {f:Int->Int} (h:Gy w b n f) (hb:AU w w'):Gy w' b n f :=
 h.kept (row:=none) ⟨hb.os,hb.tape,hb.output,hb.size,fun i hi _=>hb.block i hi⟩ Ak
theorem Gy.lt {w:World} {b n:Nat} {f:Int->Int} (h:Gy w b n f):b<w.heap.size:=by
 obtain ⟨D,h1,h2⟩:=h;exact h1.lt
theorem Gy.made (w:World):Gy (w.alloc (.map #[] 0)) w.heap.size 0 (fun _=>0) :=
 ⟨.map [],World.ownsMap_made _ _ _ _,⟨_,rfl⟩,fun _=>rfl⟩
theorem aqA (w:World):(zeroValue 3).run Tryz.prog w=.ok (.int .i64 0) w:=by kernel_rfl
theorem Gy.look {w:World} {b n:Nat} {f:Int->Int} (h:Gy w b n f) (id:Int) (hid:En id) :
  (Instr.lookup 96 (.map (some b)) (.int .i64 id) false).run Tryz.prog w=.ok (.int .i64 (f id)) w:=by
 obtain ⟨D,h1,-,h2⟩:=h;obtain ⟨v,ps,hr,hv⟩:=h1.lookup VZ Tryz.underlying96 (aqA w) (zd:=bH 0) (zp:=[]) rfl (Maps.keyOf_int_mk Tryz.underlying3 hid);rw [h2] at hv;rw [hr,aq9 hv]
theorem Gy.upd {w:World} {b n:Nat} {f:Int->Int} (h:Gy w b n f) (hn:n<4294967296) (id:Int) (hid:En id) (x:Int) :
  ∃ w',(Instr.mapUpdate 96 (.map (some b)) (.int .i64 id) (.int .i64 x)).run Tryz.prog w=.ok () w'/\Gy w' b (n+1) (fun i=>if i=id then x else f i)/\w.grownBy w' (some b):=by
 obtain ⟨D,h1,hm,h2⟩:=h;obtain ⟨w',hr,ho,hg⟩:=h1.update VZ Tryz.underlying96 tC (Maps.keyOf_int_mk Tryz.underlying3 hid) (val:=.int .i64 x) (d:=bH x) (ps:=[]) rfl;refine ⟨w',hr,⟨_,ho,?_,fun i=>?_⟩,hg⟩
 · obtain ⟨es,rfl⟩:=hm;exact ⟨_,rfl⟩
 ·show _=bH (if i=id then x else f i)
  by_cases e:i=id
  ·subst e;rw [AZ rfl];exact Maps.atKey_put_same hm (by trivial) _ _
  · rw [AX e,Maps.atKey_put_other (fun h=>e (by injection h)),h2]
def Ul (b:Bool):DataW Unit:=.lit (.bool b)
def aAw:Value->Option (DataW Unit×List MemPlace)
 | .bool b=>some (Ul b,[])
 | _=>none
theorem ai8 {v:Value} {b:Bool} {ps:List MemPlace} (h:aAw v=some (Ul b,ps)):v=.bool b:=by
 unfold aAw at h;split at h
 ·simp only [Ul,JM,Prod.mk.injEq,DataW.lit.injEq,Lit.bool.injEq] at h;rw [h.1]
 · cases h
def Le (w:World) (b n:Nat) (f:Int->Bool):Prop :=
 ∃ D:DataW Unit,w.ownsMap Tryz.prog 3 aAw b n D/\Maps.IsMap D/\∀ id,D.atKey (.int .i64 id) (Ul false)=Ul (f id)
theorem Le.kept {w w':World} {b n:Nat} {f:Int->Bool} (h:Le w b n f) {row:Option Nat} (hg:w.grownBy w' row) (hr:some b≠row):Le w' b n f:=by
 obtain ⟨D,h1,h2⟩:=h;exact ⟨D,h1.kept hg hr,h2⟩
theorem Le.keep {w w':World} {b n:Nat} {f:Int->Bool} (h:Le w b n f) (hb:AU w w'):Le w' b n f :=
 h.kept (row:=none) ⟨hb.os,hb.tape,hb.output,hb.size,fun i hi _=>hb.block i hi⟩ Ak
theorem Le.lt {w:World} {b n:Nat} {f:Int->Bool} (h:Le w b n f):b<w.heap.size:=by
 obtain ⟨D,h1,h2⟩:=h;exact h1.lt
theorem Le.made (w:World):Le (w.alloc (.map #[] 0)) w.heap.size 0 (fun _=>false) :=
 ⟨.map [],World.ownsMap_made _ _ _ _,⟨_,rfl⟩,fun _=>rfl⟩
theorem ai9 (w:World):(zeroValue 4).run Tryz.prog w=.ok (.bool false) w:=by kernel_rfl
theorem Le.look {w:World} {b n:Nat} {f:Int->Bool} (h:Le w b n f) (id:Int) (hid:En id) :
  (Instr.lookup 139 (.map (some b)) (.int .i64 id) false).run Tryz.prog w=.ok (.bool (f id)) w:=by
 obtain ⟨D,h1,-,h2⟩:=h;obtain ⟨v,ps,hr,hv⟩:=h1.lookup VZ Tryz.underlying139 (ai9 w) (zd:=Ul false) (zp:=[]) rfl (Maps.keyOf_int_mk Tryz.underlying3 hid);rw [h2] at hv;rw [hr,ai8 hv]
theorem Le.upd {w:World} {b n:Nat} {f:Int->Bool} (h:Le w b n f) (hn:n<4294967296) (id:Int) (hid:En id) (x:Bool) :
  ∃ w',(Instr.mapUpdate 139 (.map (some b)) (.int .i64 id) (.bool x)).run Tryz.prog w=.ok () w'/\Le w' b (n+1) (fun i=>if i=id then x else f i)/\w.grownBy w' (some b):=by
 obtain ⟨D,h1,hm,h2⟩:=h;obtain ⟨w',hr,ho,hg⟩:=h1.update VZ Tryz.underlying139 tC (Maps.keyOf_int_mk Tryz.underlying3 hid) (val:=.bool x) (d:=Ul x) (ps:=[]) rfl;refine ⟨w',hr,⟨_,ho,?_,fun i=>?_⟩,hg⟩
 · obtain ⟨es,rfl⟩:=hm;exact ⟨_,rfl⟩
 ·show _=Ul (if i=id then x else f i)
  by_cases e:i=id
  ·subst e;rw [AZ rfl];exact Maps.atKey_put_same hm (by trivial) _ _
  · rw [AX e,Maps.atKey_put_other (fun h=>e (by injection h)),h2]
def BK (x:SV):Value:=.slice x.a x.n x.c
def Sv (n:Nat):DataW Unit:=.lit (.int .i64 (n:Int))
def Ym (x:SV):DataW Unit:=match x.a with
 | none=>.agg [Sv x.n,Sv x.c]
 | some ⟨b,o,none⟩=>.agg [Sv b,Sv o,Sv x.n,Sv x.c]
 | some ⟨_,_,some _⟩=>.agg []
def aAx:Value->Option (DataW Unit×List MemPlace)
 | .slice none n c=>some (.agg [Sv n,Sv c],[])
 | .slice (some ⟨b,o,none⟩) n c=>some (.agg [Sv b,Sv o,Sv n,Sv c],[])
 | _=>none
theorem aqB {v:Value} {x:SV} {ps:List MemPlace} (h:aAx v=some (Ym x,ps)):v=BK x:=by
 obtain ⟨a,n,c⟩:=x;unfold aAx at h;split at h
 ·rename_i n' c';unfold Ym at h;rcases a with _ | ⟨b,o,_ | q⟩
  ·simp only [JM,Prod.mk.injEq,DataW.agg.injEq,List.cons.injEq,Sv,DataW.lit.injEq,Lit.int.injEq,and_true,true_and] at h;have h1:n'=n:=by omega
   have h2:c'=c:=by omega
   subst h1 h2;rfl
  · simp at h
  · simp at h
 ·rename_i b' o' n' c';unfold Ym at h;rcases a with _ | ⟨b,o,_ | q⟩
  · simp at h
  ·simp only [JM,Prod.mk.injEq,DataW.agg.injEq,List.cons.injEq,Sv,DataW.lit.injEq,Lit.int.injEq,and_true,true_and] at h;have h1:b'=b:=by omega
   have h2:o'=o:=by omega
   have h3:n'=n:=by omega
   have h4:c'=c:=by omega
   subst h1 h2 h3 h4;rfl
  · simp at h
 · cases h
def SV.ok (x:SV):Prop:=x.a=none\/∃ b o,x.a=some ⟨b,o,none⟩
theorem aqC {x:SV} (h:x.ok):aAx (BK x)=some (Ym x,[]):=by
 obtain ⟨a,n,c⟩:=x;rcases h with h | ⟨b,o,h⟩
 · simp only at h;subst h;rfl
 · simp only at h;subst h;rfl
def sv0:SV:=⟨none,0,0⟩
def NH (w:World) (b n:Nat) (f:Int->SV):Prop :=
 ∃ D:DataW Unit,w.ownsMap Tryz.prog 3 aAx b n D/\Maps.IsMap D/\∀ id,D.atKey (.int .i64 id) (Ym sv0)=Ym (f id)
theorem NH.kept {w w':World} {b n:Nat} {f:Int->SV} (h:NH w b n f) {row:Option Nat} (hg:w.grownBy w' row) (hr:some b≠row):NH w' b n f:=by
 obtain ⟨D,h1,h2⟩:=h;exact ⟨D,h1.kept hg hr,h2⟩
theorem NH.keep {w w':World} {b n:Nat} {f:Int->SV} (h:NH w b n f) (hb:AU w w'):NH w' b n f :=
 h.kept (row:=none) ⟨hb.os,hb.tape,hb.output,hb.size,fun i hi _=>hb.block i hi⟩ Ak
theorem NH.lt {w:World} {b n:Nat} {f:Int->SV} (h:NH w b n f):b<w.heap.size:=by
 obtain ⟨D,h1,h2⟩:=h;exact h1.lt
theorem NH.made (w:World):NH (w.alloc (.map #[] 0)) w.heap.size 0 (fun _=>sv0) :=
 ⟨.map [],World.ownsMap_made _ _ _ _,⟨_,rfl⟩,fun _=>rfl⟩
theorem aqD (w:World):(zeroValue 46).run Tryz.prog w=.ok (.slice none 0 0) w:=by kernel_rfl
theorem NH.look {w:World} {b n:Nat} {f:Int->SV} (h:NH w b n f) (id:Int) (hid:En id) :
  (Instr.lookup 78 (.map (some b)) (.int .i64 id) false).run Tryz.prog w=.ok (BK (f id)) w:=by
 obtain ⟨D,h1,-,h2⟩:=h;obtain ⟨v,ps,hr,hv⟩:=h1.lookup VZ Tryz.underlying78 (aqD w) (zd:=Ym sv0) (zp:=[]) rfl (Maps.keyOf_int_mk Tryz.underlying3 hid);rw [h2] at hv;rw [hr,aqB hv]
theorem NH.upd {w:World} {b n:Nat} {f:Int->SV} (h:NH w b n f) (hn:n<4294967296) (id:Int) (hid:En id) (x:SV) (hx:x.ok) :
  ∃ w',(Instr.mapUpdate 78 (.map (some b)) (.int .i64 id) (BK x)).run Tryz.prog w=.ok () w'/\NH w' b (n+1) (fun i=>if i=id then x else f i)/\w.grownBy w' (some b):=by
 obtain ⟨D,h1,hm,h2⟩:=h;obtain ⟨w',hr,ho,hg⟩:=h1.update VZ Tryz.underlying78 tC (Maps.keyOf_int_mk Tryz.underlying3 hid) (val:=BK x) (d:=Ym x) (ps:=[]) (aqC hx);refine ⟨w',hr,⟨_,ho,?_,fun i=>?_⟩,hg⟩
 · obtain ⟨es,rfl⟩:=hm;exact ⟨_,rfl⟩
 ·show _=Ym (if i=id then x else f i)
  by_cases e:i=id
  ·subst e;rw [AZ rfl];exact Maps.atKey_put_same hm (by trivial) _ _
  · rw [AX e,Maps.atKey_put_other (fun h=>e (by injection h)),h2]
