import Derived.Test.YtialfdomhoojiaaGreatJ32
import Derived.Test.YtialfdomhoojiaaGreatJ15
import Derived.Test.YtialfdomhoojiaaGreatJ09
import Derived.Test.YtialfdomhoojiaaGreatJ34
set_option linter.unusedSimpArgs false
set_option linter.unusedVariables false
namespace Go.Proofs.YtialfdomhoojiaaGreat
open Go.RowKit
set_option linter.unusedSectionVars false
def fV (e d:Int):Int:=if d=e\/d=-e then -d else d
theorem XK {e d:Int} (h:d=e\/d=-e):fV e d=-d:=if_pos h
theorem Oc {e d:Int} (h:¬ (d=e\/d=-e)):fV e d=d:=if_neg h
theorem Ig (e d:Int):fV e (fV e d)=d:=by
 unfold fV;by_cases c:d=e\/d=-e
 · rw [if_pos c,if_pos (by omega)];omega
 · rw [if_neg c,if_neg c]
theorem atT (e d:Int):fV e (-d)=-fV e d:=by
 unfold fV;by_cases c:d=e\/d=-e
 · rw [if_pos c,if_pos (by omega)]
 · rw [if_neg c,if_neg (by omega)]
theorem ajq {e x y:Int} (h:fV e x=fV e y):x=y:=by rw [<- Ig e x,h,Ig]
def iZ (e:Int) (a:Ar):Ar:=if a.id=e then iL a else a
theorem RX (e:Int) (a:Ar):(iZ e a).id=a.id:=by unfold iZ;split<;>rfl
theorem atU (p:Pl) (i:Nat) (hi:i<p.ah.length) (hs:(p.ah.map (·.id)).Pairwise (· < ·)):(jL p i hi).ah=p.ah.map (iZ p.ah[i].id):=by
 rw [List.pairwise_map,List.pairwise_iff_getElem] at hs
 show p.ah.set i (iL p.ah[i])=_
 apply List.ext_getElem (by simp);intro j h1 h2;rw [List.getElem_set,List.getElem_map];rw [List.length_set] at h1;by_cases e:i=j
 · subst e;rw [if_pos rfl];unfold iZ;rw [if_pos rfl]
 ·rw [if_neg e];unfold iZ;rw [if_neg];rcases Nat.lt_or_gt_of_ne e with l | l
  · have:=hs i j hi h1 l;omega
  · have:=hs j i h1 hi l;omega
structure Twin (p q:Pl) (e:Int):Prop where
 vp:Valid p
 vq:Valid q
 nodes:p.nodes=q.nodes
 ah:q.ah=p.ah.map (iZ e)
 faces:p.faces=q.faces
 pos:1<=e
theorem Twin.symm {p q:Pl} {e:Int} (h:Twin p q e):Twin q p e:=by
 refine ⟨h.vq,h.vp,h.nodes.symm,?_,h.faces.symm,h.pos⟩;rw [h.ah,List.map_map]
 have:iZ e ∘ iZ e=id:=by
  funext a
  show iZ e (iZ e a)=a
  unfold iZ;by_cases c:a.id=e
  · rw [if_pos c,if_pos (show (iL a).id=e from c),ZJ]
  · rw [if_neg c,if_neg c]
 rw [this,List.map_id]
theorem Twin.of {p:Pl} (h:Valid p) {i:Nat} (hi:i<p.ah.length):Twin p (jL p i hi) p.ah[i].id :=
 ⟨h,(Ea _).1 (by rw [amO];exact (Ea p).2 h),rfl,atU p i hi h.sound.ah,rfl,(h.jB (List.getElem_mem hi)).1⟩
section
variable {p q:Pl} {e:Int} (h:Twin p q e)
include h
theorem Twin.aQ:aQ q=aQ p:=by
 unfold Go.Proofs.YtialfdomhoojiaaGreat.aQ;rw [h.ah];simp only [List.map_map];have e1:((fun a:Ar=>-a.id) ∘ iZ e)=fun a:Ar=>-a.id:=by funext a;show -(iZ e a).id=_;rw [RX]
 have e2:((fun a:Ar=>a.id) ∘ iZ e)=fun a:Ar=>a.id:=by funext a;exact RX e a
 rw [e1,e2]
theorem Twin.find (i:Int):findAr q.ah i=(findAr p.ah i).map (iZ e):=by
 unfold findAr;rw [h.ah,List.find?_map];congr 1;congr 1
 funext a
 show ((iZ e a).id == i)=_
 rw [RX]
theorem Twin.gV (d:Int):gV q d=(gV p d).map (iZ e):=by
 unfold Go.Proofs.YtialfdomhoojiaaGreat.gV;split
 · rfl
 · exact h.find _
theorem Twin.nodeAt (i:Int):nodeAt q i=nodeAt p i:=by unfold Go.Proofs.YtialfdomhoojiaaGreat.nodeAt;rw [h.nodes]
theorem Twin.path (a:Ar):ak q a=ak p a:=by unfold ak;rw [h.nodeAt,h.nodeAt]
theorem Twin.Oe (a:Ar):ak q (iZ e a)=if a.id=e then (ak p a).reverse else ak p a:=by
 rw [h.path];unfold iZ;split
 · rw [Pz]
 · rfl
theorem Twin.mem (d:Int):d∈Go.Proofs.YtialfdomhoojiaaGreat.aQ q↔d∈Go.Proofs.YtialfdomhoojiaaGreat.aQ p:=by rw [h.aQ]
theorem Twin.acA {d:Int} (hd:d∈Go.Proofs.YtialfdomhoojiaaGreat.aQ p):fV e d∈Go.Proofs.YtialfdomhoojiaaGreat.aQ q:=by
 rw [h.mem];unfold fV;split
 · exact y8 hd
 · exact hd
theorem Twin.cases {d:Int} (hd:d∈Go.Proofs.YtialfdomhoojiaaGreat.aQ p):∃ a∈p.ah,1<=a.id/\Go.Proofs.YtialfdomhoojiaaGreat.gV p d=some a/\(d=a.id\/d=-a.id)/\Go.Proofs.YtialfdomhoojiaaGreat.gV q d=some (iZ e a)/\Go.Proofs.YtialfdomhoojiaaGreat.gV q (fV e d)=some (iZ e a):=by
 obtain ⟨a,ha,hor⟩:=ji.1 hd;have hid:=(h.vp.jB ha).1;have e1:=h.vp.O9 ha;have e2:=h.vp.Ud ha;have ed:Go.Proofs.YtialfdomhoojiaaGreat.gV p d=some a:=by rcases hor with rfl | rfl<;>assumption
 refine ⟨a,ha,hid,ed,hor,by rw [h.gV,ed];rfl,?_⟩;rw [h.gV]
 have:Go.Proofs.YtialfdomhoojiaaGreat.gV p (fV e d)=some a:=by
  unfold fV;split
  ·rcases hor with rfl | rfl
   · exact e2
   · rw [Int.neg_neg];exact e1
  · exact ed
 rw [this];rfl
theorem Twin.start {d:Int} (hd:d∈Go.Proofs.YtialfdomhoojiaaGreat.aQ p):lu q (fV e d)=lu p d:=by
 obtain ⟨a,ha,hid,e1,hor,-,e2⟩:=h.cases hd;unfold lu;rw [e1,e2];simp only;unfold iZ;by_cases c:a.id=e
 ·rw [if_pos c,XK (by omega)];rcases hor with rfl | rfl
  · rw [if_neg (by omega),if_pos (by omega)];rfl
  · rw [if_pos (by omega),if_neg (by omega)];rfl
 · rw [if_neg c,Oc (by have:=h.pos;omega)]
theorem Twin.area {d:Int} (hd:d∈Go.Proofs.YtialfdomhoojiaaGreat.aQ p):qI q (fV e d)=qI p d:=by
 obtain ⟨a,ha,hid,e1,hor,-,e2⟩:=h.cases hd;unfold qI;rw [e1,e2];simp only;rw [h.Oe];by_cases c:a.id=e
 ·rw [if_pos c,XK (by omega),ams _ (by rw [fM];omega)];rcases hor with rfl | rfl
  · rw [if_neg (by omega),if_pos (by omega)];omega
  · rw [if_pos (by omega),if_neg (by omega)]
 · rw [if_neg c,Oc (by have:=h.pos;omega)]
theorem Twin.side {d:Int} (hd:d∈Go.Proofs.YtialfdomhoojiaaGreat.aQ p):iw q (fV e d)=iw p d:=by
 obtain ⟨a,ha,hid,e1,hor,-,e2⟩:=h.cases hd;unfold iw;rw [e1,e2];simp only;unfold iZ;by_cases c:a.id=e
 ·rw [if_pos c,XK (by omega)];rcases hor with rfl | rfl
  · rw [if_neg (by omega),if_pos (by omega)];rfl
  · rw [if_pos (by omega),if_neg (by omega)];rfl
 · rw [if_neg c,Oc (by have:=h.pos;omega)]
omit h in
theorem ajr {d:Int} (h:d≠0):gJ (-d)=gJ d:=by unfold gJ;split<;>split<;>omega
theorem Twin.XM {d:Int} (hd:d∈Go.Proofs.YtialfdomhoojiaaGreat.aQ p):gK q (fV e d)=gK p d\/gK q (fV e d)=(gK p d).reverse:=by
 obtain ⟨a,ha,hid,e1,hor,-,-⟩:=h.cases hd;have hab:gJ d=a.id:=by unfold gJ;split<;>omega
 have acB:gJ (fV e d)=a.id:=by
  rw [<- hab];unfold fV;split
  · exact ajr (by omega)
  · rfl
 unfold gK;rw [h.find,hab,acB,h.vp.find ha]
 show ak q (iZ e a)=ak p a\/ak q (iZ e a)=(ak p a).reverse
 rw [h.Oe];split
 · exact .inr rfl
 · exact .inl rfl
theorem Twin.to {d:Int} (hd:d∈Go.Proofs.YtialfdomhoojiaaGreat.aQ p):dN q (fV e d)=dN p d:=by
 obtain ⟨a,ha,hid,e1,hor,-,-⟩:=h.cases hd;have hab:gJ d=a.id:=by unfold gJ;split<;>omega
 have acB:gJ (fV e d)=a.id:=by
  rw [<- hab];unfold fV;split
  · exact ajr (by omega)
  · rfl
 unfold dN;rw [h.find,hab,acB,h.vp.find ha]
 show (if 0<fV e d then (ak q (iZ e a)).getD 1 aB else (ak q (iZ e a)).getD (iZ e a).via.length aB)=if 0<d then (ak p a).getD 1 aB else (ak p a).getD a.via.length aB
 have hl:=fM p a;have hv:(iZ e a).via.length=a.via.length:=by unfold iZ;split<;>simp [iL]
 rw [h.Oe,hv];by_cases c:a.id=e
 ·rw [if_pos c,XK (by omega),BH (by omega),BH (by omega),hl];rw [show a.via.length+2-1-1=a.via.length by omega,show a.via.length+2-1-a.via.length=1 by omega];rcases hor with rfl | rfl
  · rw [if_neg (by omega),if_pos (by omega)]
  · rw [if_pos (by omega),if_neg (by omega)]
 · rw [if_neg c,Oc (by have:=h.pos;omega)]
theorem Twin.dO (n:Int):(dO q.ah n).Perm ((dO p.ah n).map (fV e)):=by
 unfold Go.Proofs.YtialfdomhoojiaaGreat.dO;rw [h.ah,List.flatMap_map,List.map_flatMap];have hid:∀ a∈p.ah,1<=a.id:=fun a ha=>(h.vp.jB ha).1;revert hid;generalize p.ah=l;intro hid
 induction l with
 | nil=>exact List.Perm.refl _
 | cons a l ih =>
  rw [List.flatMap_cons,List.flatMap_cons];refine List.Perm.append ?_ (ih fun b hb=>hid b (List.mem_cons_of_mem _ hb));have h1:=hid a List.mem_cons_self;by_cases c:a.id=e
  ·have e1:iZ e a=iL a:=by unfold iZ;rw [if_pos c]
   have f1:fV e a.id=-a.id:=by unfold fV;rw [if_pos (by omega)]
   have f2:fV e (-a.id)=a.id:=by unfold fV;rw [if_pos (by omega)];omega
   rw [e1]
   show ((if a.dst=n then [a.id] else [])++(if a.fr=n then [-a.id] else [])).Perm _
   rw [List.map_append];refine List.perm_append_comm.trans (List.Perm.of_eq ?_);congr 1
   ·split
    · simp [f1]
    · rfl
   ·split
    · simp [f2]
    · rfl
  ·have e1:iZ e a=a:=by unfold iZ;rw [if_neg c]
   have f1:fV e a.id=a.id:=Oc (by have:=h.pos;omega);have f2:fV e (-a.id)=-a.id:=Oc (by have:=h.pos;omega);rw [e1,List.map_append];refine List.Perm.of_eq ?_;congr 1
   ·split
    · simp [f1]
    · rfl
   ·split
    · simp [f2]
    · rfl
theorem Twin.around {n:Nd} (hn:n∈p.nodes):dJ q n.id=(dJ p n.id).map (fV e):=by
 have hn':n∈q.nodes:=by rw [<- h.nodes];exact hn
 rw [h.vq.Pj hn'];symm;refine aez (h.vq.LD hn') (((h.vp.nT hn).map _).trans (h.dO n.id).symm) ?_;rw [List.pairwise_map];have hp:=(Ph (h.vp.LD hn)).2;rw [<- h.vp.Pj hn] at hp;refine List.Pairwise.imp_of_mem (fun {a b} ha hb hab=>?_) hp;have ha':=(h.vp.Ee ((h.vp.nT hn).subset ha)).1;have hb':=(h.vp.Ee ((h.vp.nT hn).subset hb)).1;unfold ltD at hab ⊢;rw [h.to ha',h.to hb'];exact hab
omit h in
theorem atV {f:Int->Int} (hf:∀ x y,f x=f y->x=y) {l:List Int} (hl:l.Nodup) {d:Int} (hd:d∈l):precD (l.map f) (f d)=f (precD l d):=by
 obtain ⟨i,hi,rfl⟩:=List.mem_iff_getElem.1 hd;have hl':(l.map f).Nodup:=by
  unfold List.Nodup at hl ⊢;rw [List.pairwise_map];exact hl.imp (fun hne e=>hne (hf _ _ e))
 have hi':i<(l.map f).length:=by rw [List.length_map];exact hi
 have e1:f l[i]=(l.map f)[i]:=by rw [List.getElem_map]
 rw [e1,Gh hl' hi',Gh hl hi,List.getElem_map];simp only [List.length_map]
theorem Twin.next {d:Int} (hd:d∈Go.Proofs.YtialfdomhoojiaaGreat.aQ p):fO q (fV e d)=fV e (fO p d):=by
 obtain ⟨n,hn,e1,hm,e2⟩:=h.vp.I7 hd;have hfd:=h.acA hd;rw [e2];unfold fO;rw [if_pos (h.vq.Zt hfd),<- atT,h.start (y8 hd),<- e1,h.around hn,atV (fun x y=>ajq) (h.vp.Gi hn) hm]
theorem Twin.pw {d:Int} (hd:d∈Go.Proofs.YtialfdomhoojiaaGreat.aQ p) (k:Nat):pw (fO q) (fV e d) k=fV e (pw (fO p) d k):=by
 induction k with
 | zero=>rfl
 | succ k ih =>
  show fO q (Go.Proofs.YtialfdomhoojiaaGreat.pw (fO q) (fV e d) k)=fV e (fO p (Go.Proofs.YtialfdomhoojiaaGreat.pw (fO p) d k))
  rw [ih,h.next (AV (fun x hx=>(h.vp.sQ hx).1) hd k)]
omit h in
theorem atW {p:Pl} (h:Valid p) {X:List Int} (hX:X∈bF p) {d:Int} (hd:d∈Go.Proofs.YtialfdomhoojiaaGreat.aQ p) (k:Nat):Go.Proofs.YtialfdomhoojiaaGreat.pw (fO p) d k∈X↔d∈X:=by
 induction k with
 | zero=>exact Iff.rfl
 | succ k ih=>exact (h.UA hX (AV (fun x hx=>(h.sQ hx).1) hd k)).trans ih
theorem Twin.sub {c c':List Int} (hc:c∈bF p) (hc':c'∈bF q) {d:Int} (hd:d∈c) (hd':fV e d∈c') {y:Int} (hy:y∈c):fV e y∈c':=by
 obtain ⟨x,hx,e1,-,hxc⟩:=h.vp.uI hc;rw [e1] at hd hy;obtain ⟨j,-,rfl⟩:=vZ.1 hd;obtain ⟨k,-,rfl⟩:=vZ.1 hy;rw [<- h.pw hx] at hd' ⊢;rw [atW h.vq hc' (h.acA hx)] at hd' ⊢;exact hd'
theorem Twin.jk {c:List Int} (hc:c∈bF p):∃ c'∈bF q,c'.Perm (c.map (fV e)):=by
 have hh:=h.vp.oU hc;have hd:=(h.vp.iE hc).2;obtain ⟨c',hc',hdc,-⟩:=h.vq.Jc (h.acA (hd _ hh));refine ⟨c',hc',?_⟩;refine (List.perm_ext_iff_of_nodup (h.vq.iE hc').1 ?_).2 fun y=>?_
 ·have hn:=(h.vp.iE hc).1;unfold List.Nodup at hn ⊢;rw [List.pairwise_map];exact hn.imp (fun hne e=>hne (ajq e))
 ·rw [List.mem_map];constructor
  ·intro hy;exact ⟨fV e y,h.symm.sub hc' hc hdc (by rw [Ig];exact hh) hy,Ig e y⟩
  ·rintro ⟨z,hz,rfl⟩;exact h.sub hc hc' hh hdc hz
end
def mG (e:Int) (c c':List Int):Prop:=c'.Perm (c.map (fV e))
theorem mG.symm {e:Int} {c c':List Int} (h:mG e c c'):mG e c' c:=by
 unfold mG at *;have:=(h.map (fV e)).symm
 rw [List.map_map] at this;have e1:fV e ∘ fV e=id:=funext (Ig e)
 rwa [e1,List.map_id] at this
section
variable {p q:Pl} {e:Int} (h:Twin p q e)
include h
theorem Twin.dV {c c':List Int} (hc:∀ d∈c,d∈Go.Proofs.YtialfdomhoojiaaGreat.aQ p) (ht:mG e c c'):dV q c'=dV p c:=by
 unfold Go.Proofs.YtialfdomhoojiaaGreat.dV;rw [LV (ht.map (qI q)),List.map_map];congr 1;exact List.map_congr_left fun d hd=>h.area (hc d hd)
omit h in
theorem ajs {P Q:List Pt} (hq:Q=P\/Q=P.reverse) (v:Pt):((fU Q).any fun q=>fJ q.1 q.2 v)=((fU P).any fun q=>fJ q.1 q.2 v) /\
  ((fU Q).map fun q=>if lH v q.1 q.2 then (1:Int) else 0).sum=((fU P).map fun q=>if lH v q.1 q.2 then (1:Int) else 0).sum:=by
 rcases hq with rfl | rfl
 · exact ⟨rfl,rfl⟩
 ·rw [apY];refine ⟨?_,?_⟩
  ·rw [List.any_reverse,List.any_map];congr 1
   funext q
   exact apZ _ _ _
  ·rw [List.map_reverse,List.sum_reverse,List.map_map];congr 2
   funext q
   simp only [Function.comp];rw [ap0]
omit h in
theorem atX {α:Type} {l m:List α} (hp:l.Perm m) (f:α->Bool):l.any f=m.any f:=by
 rw [Bool.eq_iff_iff,List.any_eq_true,List.any_eq_true];exact ⟨fun ⟨x,hx,e⟩=>⟨x,hp.subset hx,e⟩,fun ⟨x,hx,e⟩=>⟨x,hp.symm.subset hx,e⟩⟩
omit h in
theorem ajt {α:Type} {f g:α->List Int}:∀ {c:List α},(∀ d∈c,(f d).sum=(g d).sum)->(c.flatMap f).sum=(c.flatMap g).sum
 | [],_=>rfl
 | d::c,h=>by
  rw [List.flatMap_cons,List.flatMap_cons,List.sum_append,List.sum_append,h d List.mem_cons_self,ajt fun x hx=>h x (List.mem_cons_of_mem _ hx)]
theorem Twin.encS {c c':List Int} (hc:∀ d∈c,d∈Go.Proofs.YtialfdomhoojiaaGreat.aQ p) (ht:mG e c c') (v:Pt):encS q c' v=encS p c v:=by
 unfold Go.Proofs.YtialfdomhoojiaaGreat.encS;rw [aan,aan];have hseg:(bP q c').Perm (c.flatMap fun d=>fU (gK q (fV e d))):=by
  unfold bP;have:=ht.flatMap_right (fun d=>fU (gK q d))
  rwa [List.flatMap_map] at this
 have h1:((bP q c').any fun q=>fJ q.1 q.2 v)=((bP p c).any fun q=>fJ q.1 q.2 v):=by
  rw [atX hseg];unfold bP;rw [List.any_flatMap,List.any_flatMap,Bool.eq_iff_iff,List.any_eq_true,List.any_eq_true];exact exists_congr fun d=>and_congr_right fun hd=>by rw [(ajs (h.XM (hc d hd)) v).1]
 have h2:((bP q c').map fun q=>if lH v q.1 q.2 then (1:Int) else 0).sum=((bP p c).map fun q=>if lH v q.1 q.2 then (1:Int) else 0).sum:=by
  rw [LV (hseg.map _)];unfold bP;rw [List.map_flatMap,List.map_flatMap];exact ajt fun d hd=>(ajs (h.XM (hc d hd)) v).2
 rw [h1,h2]
theorem Twin.out {X:List Int} (hX:X∈aI p):∃ X'∈aI q,mG e X X':=by
 obtain ⟨hc,hp⟩:=fF.1 hX;obtain ⟨c',hc',ht⟩:=h.jk hc;exact ⟨c',fF.2 ⟨hc',by rw [h.dV (h.vp.iE hc).2 ht];exact hp⟩,ht⟩
theorem Twin.res {X:List Int} (hX:X∈iM p):∃ X'∈iM q,mG e X X':=by
 obtain ⟨hc,hp⟩:=tH.1 hX;obtain ⟨c',hc',ht⟩:=h.jk hc;exact ⟨c',tH.2 ⟨hc',by rw [h.dV (h.vp.iE hc).2 ht];exact hp⟩,ht⟩
omit h in
theorem DU {c c':List Int} (ht:mG e c c') {d:Int} (hd:d∈c):fV e d∈c':=(List.Perm.symm (show c'.Perm (c.map (fV e)) from ht)).subset (List.mem_map_of_mem hd)
theorem Twin.aju {X Y X' Y':List Int} (hX:X∈bF p) (hY:Y∈bF p) (hX':X'∈bF q) (dQ:Y'∈bF q) (t1:mG e X X') (t2:mG e Y Y'):X=Y↔X'=Y':=by
 constructor
 ·rintro rfl;have hh:=h.vp.oU hX;exact h.vq.Eo hX' dQ (DU t1 hh) (DU t2 hh)
 ·rintro rfl;have hh:=h.vq.oU hX';exact h.vp.Eo hX hY (DU t1.symm hh) (DU t2.symm hh)
theorem Twin.XO {v:Pt} (nv:aU v=true) {X:List Int} (hh:dW p v=some X):∃ X',dW q v=some X'/\mG e X X':=by
 obtain ⟨m1,m2,m3⟩:=Dk _ _ hh;obtain ⟨X',hX',ht⟩:=h.out m1;have hXc:=(fF.1 m1).1;have e1:=h.encS (h.vp.iE hXc).2 ht v
 cases c:dW q v with
 | none =>
  have:=(anK _ _).1 c X' hX'
  rw [e1,m2] at this
  cases this
 | some Z' =>
  obtain ⟨n1,n2,n3⟩:=Dk _ _ c;refine ⟨Z',rfl,?_⟩;obtain ⟨Z,hZ,htz⟩:=h.symm.out n1;have hZc:=(fF.1 hZ).1;have avM:=(fF.1 n1).1;have eZ:=h.encS (h.vp.iE hZc).2 htz.symm v;have aX:=h.dV (h.vp.iE hXc).2 ht;have aZ:=h.dV (h.vp.iE hZc).2 htz.symm;have l1:=n3 X' hX' (by rw [e1];exact m2);have l2:=m3 Z hZ (by rw [<- eZ];exact n2)
  have:X=Z:=h.vp.anJ hXc hZc (fF.1 m1).2 (fF.1 hZ).2 nv m2 (by rw [<- eZ];exact n2) (by omega)
  rw [this];exact htz.symm
theorem Twin.ajv {v:Pt} (nv:aU v=true):dW p v=none↔dW q v=none:=by
 constructor
 ·intro c
  cases g:dW q v with
  | none=>rfl
  | some Z =>
   obtain ⟨X',e1,-⟩:=h.symm.XO nv g;rw [c] at e1
   cases e1
 ·intro c
  cases g:dW p v with
  | none=>rfl
  | some Z =>
   obtain ⟨X',e1,-⟩:=h.XO nv g;rw [c] at e1
   cases e1
theorem Twin.ajw {v:Pt} (nv:aU v=true) {X X':List Int} (hX:X∈aI p) (hX':X'∈aI q) (ht:mG e X X'):dW p v=some X↔dW q v=some X':=by
 have key:∀ {p q:Pl} (h:Twin p q e) {X X':List Int},X∈aI p->X'∈aI q->mG e X X'->dW p v=some X->dW q v=some X':=fun h X X' hX hX' ht g=>by
  obtain ⟨Z',e1,t2⟩:=h.XO nv g;rw [e1,(h.aju (fF.1 hX).1 (fF.1 hX).1 (fF.1 hX').1 (fF.1 (WT e1)).1 ht t2).1 rfl]
 exact ⟨key h hX hX' ht,key h.symm hX' hX ht.symm⟩
theorem Twin.lC {c c':List Int} (hc:c∈bF p) (hc':c'∈bF q) (ht:mG e c c'):dW p (lC q c')=dW p (Go.Proofs.YtialfdomhoojiaaGreat.lC p c)/\aU (Go.Proofs.YtialfdomhoojiaaGreat.lC q c')=true:=by
 obtain ⟨a,ha,ho,e1,hs⟩:=h.vp.QL hc;obtain ⟨b',hb',ho',e2,-⟩:=h.vq.QL hc';rw [h.ah] at hb';obtain ⟨b,hb,rfl⟩:=List.mem_map.1 hb';rw [RX] at ho';have hl:=fM p b;have hhb:fV e (c'.headD 0)∈c:=DU ht.symm (h.vq.oU hc');have hbc:b.id∈c\/-b.id∈c:=by
  unfold fV at hhb;split at hhb
  ·rcases ho' with e | e
   · rw [e] at hhb;exact .inr hhb
   · rw [e,Int.neg_neg] at hhb;exact .inl hhb
  ·rcases ho' with e | e
   · rw [e] at hhb;exact .inl hhb
   · rw [e] at hhb;exact .inr hhb
 have hsb:aK p p.ah.length b.id=iI p c:=by
  rcases hbc with g | g
  · exact (h.vp.QK hc g).symm
  ·rw [h.vp.QK hc g];exact (h.vp.wG (ji.2 ⟨b,hb,.inl rfl⟩)).symm
 have hpt:∃ k,k<(ak p b).length/\Go.Proofs.YtialfdomhoojiaaGreat.lC q c'=(ak p b).getD k aB:=by
  rw [e2,h.Oe];split
  · exact ⟨(ak p b).length-1,by omega,by rw [BH (by omega)];rfl⟩
  · exact ⟨0,by omega,rfl⟩
 obtain ⟨k,hk,e3⟩:=hpt;rw [e3,e1];refine ⟨h.vp.afI hb ha (by rw [hsb,hs]) hk (by rw [fM];omega),h.vp.bW hb hk⟩
theorem Twin.inn {b b':Option (List Int)} (hb:(b=none/\b'=none)\/∃ X∈aI p,∃ X'∈aI q,mG e X X'/\b=some X/\b'=some X') {c c':List Int} (hc:c∈iM p) (hc':c'∈iM q) (ht:mG e c c'):c'∈lS q b'↔c∈lS p b:=by
 obtain ⟨e1,nv⟩:=h.lC (tH.1 hc).1 (tH.1 hc').1 ht;unfold lS;rw [List.mem_filter,List.mem_filter,decide_eq_true_eq,decide_eq_true_eq,<- e1];refine and_congr ⟨fun _=>hc,fun _=>hc'⟩ ?_;rcases hb with ⟨rfl,rfl⟩ | ⟨X,hX,X',hX',t,rfl,rfl⟩
 · exact (h.ajv nv).symm
 · exact (h.ajw nv hX hX' t).symm
theorem Twin.VJ {b b':Option (List Int)} (hb:(b=none/\b'=none)\/∃ X∈aI p,∃ X'∈aI q,mG e X X'/\b=some X/\b'=some X') {c':List Int} (hc':c'∈gY q b'):c'=[]\/∃ c∈gY p b,c∈bF p/\mG e c c':=by
 unfold gY at hc';rcases List.mem_cons.1 hc' with g | g
 ·rcases hb with ⟨rfl,rfl⟩ | ⟨X,hX,X',hX',t,rfl,rfl⟩
  · exact .inl g
  ·have g':c'=X':=g;subst g';exact .inr ⟨X,List.mem_cons_self,(fF.1 hX).1,t⟩
 ·have hr:c'∈iM q:=(List.mem_filter.1 g).1;obtain ⟨c,hc,t⟩:=h.symm.res hr;exact .inr ⟨c,List.mem_cons_of_mem _ ((h.inn hb hc hr t.symm).1 g),(tH.1 hc).1,t.symm⟩
theorem Twin.acC (hf:uJ p):uJ q:=by
 have hfx:∀ {X X':List Int},X∈aI p->X'∈aI q->mG e X X'->iw q (X'.headD 0)=iw p (X.headD 0):=fun {X X'} hX hX' ht=>by
  have hh:=h.vq.oU (fF.1 hX').1;have hm:=DU ht.symm hh;have hd:=(h.vp.iE (fF.1 hX).1).2 _ hm;have:=h.side hd
  rw [Ig] at this;rw [this];exact hf.sides (some X) (.inr ⟨X,hX,rfl⟩) X List.mem_cons_self _ hm
 have hinj:∀ {X Y:List Int},X∈aI p->Y∈aI p->iw p (X.headD 0)=iw p (Y.headD 0)->X=Y:=fun {X Y} hX hY g=>by
  have hd:=hf.differ;unfold List.Nodup at hd;rw [List.pairwise_map,List.pairwise_iff_getElem] at hd;obtain ⟨i,hi,e1⟩:=List.mem_iff_getElem.1 hX;obtain ⟨j,hj,e2⟩:=List.mem_iff_getElem.1 hY;rcases Nat.lt_trichotomy i j with l | l | l
  · exact absurd (by rw [e1,e2];exact g) (hd i j hi hj l)
  · subst l;rw [<- e1,<- e2]
  · exact absurd (by rw [e1,e2];exact g.symm) (hd j i hj hi l)
 have hdiff:((aI q).map (fun X=>iw q (X.headD 0))).Nodup:=by
  have hn:=h.vq.U4;unfold List.Nodup at hn ⊢;rw [List.pairwise_map];refine List.Pairwise.imp_of_mem (fun {X' Y'} hX' dQ hne g=>?_) hn;obtain ⟨X,hX,t1⟩:=h.symm.out hX';obtain ⟨Y,hY,t2⟩:=h.symm.out dQ;rw [hfx hX hX' t1.symm,hfx hY dQ t2.symm] at g;exact hne ((h.aju (fF.1 hX).1 (fF.1 hY).1 (fF.1 hX').1 (fF.1 dQ).1 t1.symm t2.symm).1 (hinj hX hY g))
 refine ⟨fun X' hX'=>?_,hdiff,fun b' hb' c' hc' d' hd'=>?_,?_⟩
 ·obtain ⟨X,hX,t⟩:=h.symm.out hX';rw [hfx hX hX' t.symm];exact hf.some X hX
 ·have hbb:∃ b,(b=none\/∃ X∈aI p,b=some X)/\ku q b'=ku p b/\((b=none/\b'=none)\/∃ X∈aI p,∃ X'∈aI q,mG e X X'/\b=some X/\b'=some X'):=by
   rcases hb' with rfl | ⟨X',hX',rfl⟩
   · exact ⟨none,.inl rfl,rfl,.inl ⟨rfl,rfl⟩⟩
   ·obtain ⟨X,hX,t⟩:=h.symm.out hX';exact ⟨some X,.inr ⟨X,hX,rfl⟩,hfx hX hX' t.symm,.inr ⟨X,hX,X',hX',t.symm,rfl,rfl⟩⟩
  obtain ⟨b,hb,ef,hbb⟩:=hbb;rcases h.VJ hbb hc' with rfl | ⟨c,hc,hcc,t⟩
  · cases hd'
  ·have hm:=DU t.symm hd';have:=h.side ((h.vp.iE hcc).2 _ hm)
   rw [Ig] at this;rw [this,ef];exact hf.sides b hb c hc _ hm
 ·rw [<- h.faces,<- hf.all];have hp:((aI q).map (fun X=>iw q (X.headD 0))).Perm ((aI p).map (fun X=>iw p (X.headD 0))):=by
   refine (List.perm_ext_iff_of_nodup hdiff hf.differ).2 fun y=>?_;rw [List.mem_map,List.mem_map];constructor
   ·rintro ⟨X',hX',rfl⟩;obtain ⟨X,hX,t⟩:=h.symm.out hX';exact ⟨X,hX,(hfx hX hX' t.symm).symm⟩
   ·rintro ⟨X,hX,rfl⟩;obtain ⟨X',hX',t⟩:=h.out hX;exact ⟨X',hX',hfx hX hX' t⟩
  have:=hp.length_eq
  rwa [List.length_map,List.length_map] at this
theorem Twin.face {X X':List Int} (hf:uJ p) (hX:X∈aI p) (hX':X'∈aI q) (t:mG e X X'):ku q (some X')=ku p (some X):=by
 have hh:=h.vp.oU (fF.1 hX).1;have h1:=(h.acC hf).sides (some X') (.inr ⟨X',hX',rfl⟩) X' List.mem_cons_self _ (DU t hh);rw [<- h1,h.side ((h.vp.iE (fF.1 hX).1).2 _ hh)];rfl
theorem Twin.check (hf:uJ p):iV p=0/\iV q=0:=by
 constructor
 ·unfold iV;rw [if_neg (by rw [(Ea p).2 h.vp];simp),if_pos (JD.2 hf)]
 ·unfold iV;rw [if_neg (by rw [(Ea q).2 h.vq];simp),if_pos (JD.2 (h.acC hf))]
theorem Twin.EW (v:Pt):EW q v↔EW p v:=by
 have key:∀ {p q:Pl} (h:Twin p q e),Go.Proofs.YtialfdomhoojiaaGreat.EW p v->Go.Proofs.YtialfdomhoojiaaGreat.EW q v:=fun {p q} h=>by
  rintro ⟨a,ha,k,hk,on⟩;refine ⟨iZ e a,by rw [h.ah];exact List.mem_map_of_mem ha,?_⟩;rw [h.Oe];split
  ·refine ⟨(ak p a).length-2-k,by rw [List.length_reverse];omega,?_⟩;rw [BH (by omega),BH (by omega),show (ak p a).length-1-((ak p a).length-2-k)=k+1 by omega,show (ak p a).length-1-((ak p a).length-2-k+1)=k by omega];exact Bf on
  · exact ⟨k,hk,on⟩
 exact ⟨key h.symm,key h⟩
theorem Twin.JY {X X':List Int} (hX:X∈aI p) (hX':X'∈aI q) (t:mG e X X') {v:Pt} (nv:aU v=true):JY q (some X') v↔JY p (some X) v:=by
 unfold Go.Proofs.YtialfdomhoojiaaGreat.JY;rw [h.EW,<- h.nodes,h.ajw nv hX hX' t]
theorem Twin.kY {v:Pt} (nv:aU v=true) {a:Ar} (ha:a∈p.ah):kY q v (iZ e a)=kY p v a:=by
 have ha':iZ e a∈q.ah:=by rw [h.ah];exact List.mem_map_of_mem ha
 rw [Bool.eq_iff_iff,h.vp.WS nv ha,h.vq.WS nv ha',h.Oe];split
 ·constructor
  ·rintro ⟨k,hk,on⟩;rw [List.length_reverse] at hk;refine ⟨(ak p a).length-2-k,by omega,?_⟩;rw [BH (by omega),BH (by omega)] at on;have:=Bf on
   rwa [show (ak p a).length-1-(k+1)=(ak p a).length-2-k by omega,show (ak p a).length-1-k=(ak p a).length-2-k+1 by omega] at this
  ·rintro ⟨k,hk,on⟩;refine ⟨(ak p a).length-2-k,by rw [List.length_reverse];omega,?_⟩;rw [BH (by omega),BH (by omega),show (ak p a).length-1-((ak p a).length-2-k)=k+1 by omega,show (ak p a).length-1-((ak p a).length-2-k+1)=k by omega];exact Bf on
 · exact Iff.rfl
omit h in
theorem find_congr {α:Type} {f g:α->Bool}:∀ {l:List α},(∀ a∈l,f a=g a)->l.find? f=l.find? g
 | [],_=>rfl
 | a::l,hfg=>by
  rw [List.find?_cons,List.find?_cons,hfg a List.mem_cons_self,find_congr fun b hb=>hfg b (List.mem_cons_of_mem _ hb)]
theorem Twin.um (hf:uJ p) {v:Pt} (nv:aU v=true):um q v=um p v:=by
 unfold Go.Proofs.YtialfdomhoojiaaGreat.um;rw [<- h.nodes]
 cases p.nodes.find? (fun n=>decide (n.pt=v)) with
 | some n=>rfl
 | none =>
  simp only;rw [h.ah,List.find?_map];have e1:p.ah.find? (Go.Proofs.YtialfdomhoojiaaGreat.kY q v ∘ iZ e)=p.ah.find? (Go.Proofs.YtialfdomhoojiaaGreat.kY p v):=find_congr fun a ha=>h.kY nv ha;rw [e1]
  cases p.ah.find? (Go.Proofs.YtialfdomhoojiaaGreat.kY p v) with
  | some a=>show ((2:Int),(iZ e a).id)=_;rw [RX]
  | none =>
   show ((0:Int),ku q (dW q v))=((0:Int),ku p (dW p v))
   congr 1
   cases c:dW p v with
   | none=>rw [(h.ajv nv).1 c];rfl
   | some X =>
    obtain ⟨X',e2,t⟩:=h.XO nv c;rw [e2];exact h.face hf (WT c) (WT e2) t
theorem Twin.ou (hf:uJ p) (v:Pt):ou q v=ou p v:=by
 obtain ⟨c1,c2⟩:=h.check hf
 cases hk:lZ v with
 | true=>rw [abX c1 hk,abX c2 hk,h.um hf (TU hk)]
 | false =>
  unfold Go.Proofs.YtialfdomhoojiaaGreat.ou;rw [if_neg (show ¬ iV q≠0 by simpa using c2),if_pos hk,if_neg (show ¬ iV p≠0 by simpa using c1),if_pos hk]
theorem Twin.runs {X X':List Int} (hX:X∈aI p) (hX':X'∈aI q) (t:mG e X X') (y:Int):tY q (some X') y=tY p (some X) y:=by
 have val:∀ (p:Pl) b,nS (tY p b y):=fun p b=>(O8 _ _ (y7 _).1 (y7 _).1).1;refine Zk (val _ _) (val _ _) fun n=>?_;constructor
 ·intro g;have nv:=h.vq.Wv hX' g;exact (h.vp.Wq hX nv).2 ((h.JY hX hX' t nv).1 ((h.vq.Wq hX' nv).1 g))
 ·intro g;have nv:=h.vp.Wv hX g;exact (h.vq.Wq hX' nv).2 ((h.JY hX hX' t nv).2 ((h.vp.Wq hX nv).1 g))
theorem Twin.mid (hf:uJ p) (f:Int):wO q f=wO p f:=by
 have hq:=h.acC hf;by_cases hm:f∈p.faces
 ·obtain ⟨X,eX⟩:=(h.vp.WU hf).1 hm;obtain ⟨X',eX'⟩:=(h.vq.WU hq (f:=f)).1 (by rw [<- h.faces];exact hm);obtain ⟨hX,f1⟩:=NQ eX;obtain ⟨hX',f2⟩:=NQ eX';have t:mG e X X':=by
   obtain ⟨Z,hZ,t⟩:=h.symm.out hX';have f3:=h.face hf hZ hX' t.symm;rw [f2] at f3
   have:Z=X:=by
    have hd:=hf.differ;unfold List.Nodup at hd;rw [List.pairwise_map,List.pairwise_iff_getElem] at hd;have f4:iw p (Z.headD 0)=iw p (X.headD 0):=f3.symm.trans f1.symm;obtain ⟨i,hi,e1⟩:=List.mem_iff_getElem.1 hZ;obtain ⟨j,hj,e2⟩:=List.mem_iff_getElem.1 hX;rcases Nat.lt_trichotomy i j with l | l | l
    · exact absurd (by rw [e1,e2];exact f4) (hd i j hi hj l)
    · subst l;rw [<- e1,<- e2]
    · exact absurd (by rw [e1,e2];exact f4.symm) (hd j i hj hi l)
   rw [<- this];exact t.symm
  have hd:=(h.vp.iE (fF.1 hX).1).2;have hd':=(h.vq.iE (fF.1 hX').1).2;have lT:∀ v,v∈kE (bP q X')↔v∈kE (bP p X):=fun v=>by
   rw [h.vq.Ru hd',h.vp.Ru hd,List.mem_flatMap,List.mem_flatMap];constructor
   ·rintro ⟨d',hm',g⟩;have hm:=DU t.symm hm';refine ⟨_,hm,?_⟩;rw [NP] at g ⊢;have hp:=h.XM (hd _ hm);rw [Ig] at hp;rcases hp with e1 | e1<;>rw [e1] at g
    · exact g
    · exact List.mem_reverse.1 g
   ·rintro ⟨d,hm,g⟩;refine ⟨_,DU t hm,?_⟩;rw [NP] at g ⊢;rcases h.XM (hd _ hm) with e1 | e1<;>rw [e1]
    · exact g
    · exact List.mem_reverse.2 g
  have hne:kE (bP p X)≠[]:=fun e0=>by
   have hh:=h.vp.oU (fF.1 hX).1;obtain ⟨a,ha,-,hp⟩:=h.vp.AY (hd _ hh);have hl:=fM p a;have:(ak p a).getD 0 aB∈kE (bP p X):=(h.vp.Ru hd _).2 (List.mem_flatMap.2 ⟨_,hh,(NP _ _ _).2 (by
    rw [hp,List.getD_eq_getElem?_getD,List.getElem?_eq_getElem (show 0<(ak p a).length by omega)];exact List.getElem_mem _)⟩)
   rw [e0] at this
   cases this
  have hne':kE (bP q X')≠[]:=fun e0=>by
   cases c:kE (bP p X) with
   | nil=>exact hne c
   | cons v l =>
    have:=(lT v).2 (by rw [c];exact List.mem_cons_self)
    rw [e0] at this
    cases this
  obtain ⟨-,q1,-,q2⟩:=ar1 (abY hne') (abY hne) lT;unfold wO;rw [eX,eX'];simp only;rw [q1,q2];unfold Qn midD midRow;simp only [h.runs hX hX' t]
 ·have n1:yC p f=none:=by
   cases c:yC p f with
   | none=>rfl
   | some X=>exact absurd ((h.vp.WU hf).2 ⟨X,c⟩) hm
  have n2:yC q f=none:=by
   cases c:yC q f with
   | none=>rfl
   | some X=>exact absurd ((h.vq.WU hq).2 ⟨X,c⟩) (by rw [<- h.faces];exact hm)
  unfold wO;rw [n1,n2]
end
theorem Row.as_ {w:World} {A:Option Addr} {l:List (Ar×SV)} (h:Row w A (l.flatMap lI)) {k:Nat} (hk:k<l.length) :
  ∃ b o,A=some ⟨b,o,none⟩/\b<w.heap.size/\w.cell? ⟨b,o+k*6,none⟩=some (.int .i64 l[k].1.id)/\w.cell? ⟨b,o+k*6+1,none⟩=some (.int .i64 l[k].1.fr)/\w.cell? ⟨b,o+k*6+2,none⟩=some (.int .i64 l[k].1.dst) /\
   w.cell? ⟨b,o+k*6+3,none⟩=some (.slice l[k].2.a l[k].2.n l[k].2.c)/\w.cell? ⟨b,o+k*6+4,none⟩=some (.int .i64 l[k].1.left)/\w.cell? ⟨b,o+k*6+5,none⟩=some (.int .i64 l[k].1.right):=by
 obtain ⟨b,o,hA,hb,hc⟩:=h.at_ (n:=6) (fun _=>rfl) hk (by omega);exact ⟨b,o,hA,hb,hc 0 _ rfl,hc 1 _ rfl,hc 2 _ rfl,hc 3 _ rfl,hc 4 _ rfl,hc 5 _ rfl⟩
theorem Own.atY {α:Type} {w w':World} {base B:Nat} {e:TypeId} {size:Nat} {f:α->List Value} {v:Value} {l:List α} (h:Own w base e size f v l) (hb:Below B w w') (hr:∀ g,v.ownBlock=some g->g<B):Own w' base e size f v l:=by
 obtain ⟨h1,h2⟩:=h;refine ⟨h1,?_⟩;rcases h2 with h2 | ⟨g,cap,cur,hv,hg,hh,r⟩
 · exact .inl h2
 ·subst hv;exact .inr ⟨g,cap,cur,rfl,hg,(hb.block g (hr g rfl)).trans hh,r⟩
theorem Own.form {α:Type} {w:World} {base:Nat} {e:TypeId} {size:Nat} {f:α->List Value} {v:Value} {l:List α} (h:Own w base e size f v l) (hl:0<l.length):∃ g c,v=.slice (some ⟨g,0,none⟩) l.length c/\base<=g/\g<w.heap.size/\l.length<=c/\c<=maxLen/\(∃ cur,aj w g e cur/\cur.size=c*size):=by
 rcases h.2 with ⟨_,h0⟩ | ⟨g,cap,cur,hv,hg,hh,hnc,hcm,hcs,_⟩
 · omega
 · exact ⟨g,cap,hv,hg,aj.lt hh,hnc,hcm,cur,hh,hcs⟩
end Go.Proofs.YtialfdomhoojiaaGreat
