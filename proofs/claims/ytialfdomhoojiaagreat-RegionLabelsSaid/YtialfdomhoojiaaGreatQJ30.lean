import Derived.Test.YtialfdomhoojiaaGreatQJ29
set_option linter.unusedSimpArgs false
set_option linter.unusedVariables false
namespace Go.Proofs.YtialfdomhoojiaaGreat
open Go.RowKit
set_option linter.unusedSectionVars false
section
variable (p:Pl)
theorem aen (i:Int):findAr (Bq p).AP i=(findAr p.AP i).map Nr:=by
 unfold findAr Bq;rw [List.find?_map];rfl
theorem aeo (d:Int):Fg (Bq p) d=(Fg p d).map Nr:=by
 unfold Fg;split
 · rfl
 · exact aen p _
theorem awF (d:Int):Kq (Bq p) d=Kq p d:=by
 unfold Kq;rw [aeo]
 cases Fg p d<;>rfl
theorem awG (d:Int):QB (Bq p) d=QB p d:=by
 unfold QB;rw [aeo]
 cases Fg p d<;>rfl
theorem am9 (d:Int):Dy (Bq p) d=Dy p d:=by
 unfold Dy;rw [aen]
 cases findAr p.AP (Ez d)<;>rfl
theorem amA (d:Int):G5 (Bq p) d=G5 p d:=by
 unfold G5;rw [aen]
 cases findAr p.AP (Ez d)<;>rfl
theorem avQ (n:Int):Dl (Bq p).AP n=Dl p.AP n:=by
 unfold Dl Bq;rw [Og];rfl
theorem avR:Bh (Bq p)=Bh p:=by
 unfold Bh Bq;simp only [IV];rfl
theorem avS (n:Int):DL (Bq p) n=DL p n:=by
 unfold DL;rw [avQ];have e:∀ o,ltD (Bq p) o=ltD p o:=fun o=>by funext d e;unfold ltD;rw [am9,am9]
 show (match J3 p.nodes n with | none=>_ | some x=>_)=_
 cases J3 p.nodes n with
 | none=>rfl
 | some x=>simp only [e]
theorem avT:FH (Bq p)=FH p:=by
 funext d
 unfold FH;rw [aeo,awF,avS,Option.isSome_map]
theorem amB:Ce (Bq p)=Ce p:=by unfold Ce;rw [avT,avR]
theorem aep:FB (Bq p)=FB p:=by
 funext X
 unfold FB;have e:QB (Bq p)=QB p:=funext (awG p);rw [e]
theorem avU:DV (Bq p)=DV p:=by
 funext X
 unfold DV;have e:G5 (Bq p)=G5 p:=funext (amA p);rw [e]
theorem avV:encS (Bq p)=encS p:=by funext X v;unfold encS;rw [avU]
theorem aer:BP (Bq p)=BP p:=by unfold BP;rw [amB,aep]
theorem avW:Js (Bq p)=Js p:=by unfold Js;rw [amB,aep]
theorem avX:Ie (Bq p)=Ie p:=by funext v;unfold Ie;rw [aer,aep,avV]
theorem avY:RG (Bq p)=RG p:=by funext c;unfold RG;rw [amA]
theorem avZ:Vu (Bq p)=Vu p:=by funext b;unfold Vu;rw [avW,avX,avY]
theorem amC:GR (Bq p)=GR p:=by funext b;unfold GR;rw [avZ]
theorem amD (a:Ar):aB2 (Bq p) (Nr a)↔aB2 p a:=Iff.rfl
end
def VK (p q:Pl):Prop:=Bq p=Bq q
theorem VK.nodes {p q:Pl} (h:VK p q):p.nodes=q.nodes:=by
 have e:Bq p=Bq q:=h;exact show (Bq p).nodes=(Bq q).nodes by rw [e]
theorem VK.AP {p q:Pl} (h:VK p q):p.AP.map Nr=q.AP.map Nr:=by
 have e:Bq p=Bq q:=h;exact show (Bq p).AP=(Bq q).AP by rw [e]
theorem VK.map {p q:Pl} (h:VK p q) {α:Type} (f:Ar->α) (hf:∀ a,f (Nr a)=f a):p.AP.map f=q.AP.map f:=by
 have:=congrArg (List.map f) h.AP
 rw [IV,IV] at this;have e:f ∘ Nr=f:=funext hf
 rwa [e] at this
section
variable {p q:Pl} (h:VK p q)
include h
theorem VK.BP:BP p=BP q:=by rw [<- aer p,<- aer q,h]
theorem VK.GR:GR p=GR q:=by rw [<- amC p,<- amC q,h]
theorem VK.valid (hv:Valid p) (h1:q.faces.length<=64) (h2:OH q.faces=true) (h3:∀ f∈q.faces,Jj f=false) (h4:SI q=true):Valid q where
 lim:=by
  have hl:=hv.lim;unfold Ji at hl ⊢;simp only [QC,Iy] at hl ⊢;obtain ⟨a1,⟨a2,a3⟩,-⟩:=hl;rw [<- h.nodes];have e1:q.AP.any (fun a=>decide (64<a.via.length))=p.AP.any (fun a=>decide (64<a.via.length)):=by
   rw [any_map' q.AP,any_map' p.AP,h.map (fun a=>decide (64<a.via.length)) (fun a=>rfl)]
  have e2:p.AP.length=q.AP.length:=by simpa using congrArg List.length h.AP
  rw [e1,<- e2];exact ⟨a1,⟨a2,a3⟩,AB⟩
 ord:=by
  have ho:=hv.ord;unfold QL at ho ⊢;rw [Ei,Ei] at ho ⊢;rw [<- h.nodes,<- h.map (·.id) (fun a=>rfl)];exact ⟨ho.1,h2⟩
 rng:=by
  have hr:=hv.rng;unfold Nb at hr ⊢;rw [Ei] at hr ⊢;have ep:Vk q=Vk p:=by
   unfold Vk;rw [<- h.nodes,List.flatMap_def,List.flatMap_def,h.map (·.via) (fun a=>rfl)]
  rw [ep];refine ⟨?_,hr.2⟩;have h0:=hr.1;rw [Qk,XO] at h0 ⊢;rw [<- h.nodes,<- h.map (·.id) (fun a=>rfl)];intro x hx;rcases FX.1 hx with hx | hx
  · exact h0 x (O9 _ hx)
  · rw [h3 x hx];simp
 dup:=by have:=hv.dup;rwa [h.nodes] at this
 ends:=by
  have:=hv.ends
  rw [all_map'] at this ⊢;rw [<- this];congr 1;have e:JY q=JY p:=by funext a;unfold JY;rw [h.nodes]
  rw [e];exact (h.map (JY p) (fun a=>rfl)).symm
 sides:=h4
 adE:=by
  have hs:(p.AP.map (·.id)).Pairwise (· < ·):=hv.sound.AP;have hs':(q.AP.map (·.id)).Pairwise (· < ·):=by rw [<- h.map (·.id) (fun a=>rfl)];exact hs
  have hb:(Bq p).AP.map (·.id)=p.AP.map (·.id):=by unfold Bq;simp only [IV];rfl
  have hb':(Bq q).AP.map (·.id)=q.AP.map (·.id):=by unfold Bq;simp only [IV];rfl
  have key:∀ r:Pl,(r.AP.map (·.id)).Pairwise (· < ·)->(MP (Bq r)=true↔MP r=true):=fun r hr=>by
   have hbr:(Bq r).AP.map (·.id)=r.AP.map (·.id):=by unfold Bq;simp only [IV];rfl
   rw [aho r hr,aho (Bq r) (by rw [hbr];exact hr)];refine and_congr ?_ ?_
   ·show (∀ a∈r.AP.map Nr,aB2 (Bq r) a)↔_
    constructor
    · exact fun g a ha=>(amD r a).1 (g _ (Gh ha))
    ·rintro g a ha;obtain ⟨b,hb,rfl⟩:=ED.1 ha;exact (amD r b).2 (g b hb)
   ·show List.Pairwise (ahn (Bq r)) (r.AP.map Nr)↔_
    rw [I5];exact Iff.rfl
  have h5:=(key p hs).2 hv.adE;have h6:Bq p=Bq q:=h;rw [h6] at h5;exact (key q hs').1 h5
end
set_option linter.unusedSectionVars false
theorem amE {α β:Type} [DecidableEq β] (g:α->β) (O:List α):∀ {fs:List β},fs.Nodup->(fs.flatMap fun f=>O.filter (fun X=>decide (g X=f))).Perm (O.filter (fun X=>decide (g X∈fs)))
 | [],_=>by simp
 | f::fs,h=>by
  obtain ⟨hf,hn⟩:=aAO.1 h;rw [KI];refine ((amE g O hn).append_left _).trans ?_;have e1:O.filter (fun X=>decide (g X=f))=(O.filter (fun X=>decide (g X∈f::fs))).filter (fun X=>decide (g X=f)):=by
   rw [ab4];congr 1
   funext X
   by_cases e:g X=f<;>simp [e]
  have e2:O.filter (fun X=>decide (g X∈fs))=(O.filter (fun X=>decide (g X∈f::fs))).filter (fun X=>!decide (g X=f)):=by
   rw [ab4];congr 1
   funext X
   by_cases e:g X=f
   · simp [e,hf]
   · simp [e]
  rw [e1,e2];exact abY _ _
theorem ava {α β:Type} [DecidableEq β] (g:α->β) (O:List α) {fs:List β} (hn:fs.Nodup) (ha:∀ x∈O,g x∈fs):(fs.flatMap fun f=>O.filter (fun X=>decide (g X=f))).Perm O:=by
 refine (amE g O hn).trans ?_
 have:O.filter (fun X=>decide (g X∈fs))=O:=by
  rw [List.filter_eq_self];intro x hx;rw [EO];exact ha x hx
 rw [this]
theorem amF {α β:Type} (f g:α->List β):∀ l:List α,(l.flatMap fun a=>f a++g a).Perm (l.flatMap f++l.flatMap g)
 | []=>by simp
 | a::l=>by
  simp only [KI];refine ((amF f g l).append_left _).trans ?_;rw [KW,KW];refine List.Perm.append_left _ ?_;rw [<- KW,<- KW];exact List.Perm.append_right _ abU
def zG (r:Rg):List Int:=r.out++r.inn.flatten
section
variable {p:Pl} (h:Valid p)
include h
theorem Valid.avb:(Jp p).Nodup:=by
 unfold Jp;refine aAO.2 ⟨fun hm=>?_,?_⟩
 ·obtain ⟨X,-,e⟩:=ED.1 hm
  cases e
 ·have hn:=h.aBw;unfold List.Nodup at hn ⊢;rw [I5];exact hn.imp (fun hne e=>hne (by injection e))
omit h in
theorem avc (v:Pt):Ie p v∈Jp p:=by
 unfold Jp
 cases e:Ie p v with
 | none=>exact Eu
 | some X=>exact I7 _ (Gh (awE e))
theorem Valid.avd:(((Jp p).map (SY p)).flatMap zG).Perm (Bh p):=by
 rw [Og];have e1:((Jp p).flatMap fun b=>zG (SY p b)).Perm ((Jp p).flatMap (fun b=>b.getD [])++(Jp p).flatMap fun b=>(Vu p b).flatten):=amF _ _ _;refine e1.trans ?_;have e2:(Jp p).flatMap (fun b=>b.getD [])=(BP p).flatten:=by
  unfold Jp;rw [KI,Og,ab5];rfl
 have e3:((Jp p).flatMap fun b=>(Vu p b).flatten).Perm (Js p).flatten:=by
  have g:=ava (fun c=>Ie p (RG p c)) (Js p) h.avb (fun c _=>avc _);have e4:((Jp p).flatMap fun b=>(Vu p b).flatten)=((Jp p).flatMap fun f=>(Js p).filter (fun X=>decide (Ie p (RG p X)=f))).flatten:=by
   rw [ab5 (L:=(Jp p).flatMap _),abe];congr 1
   funext b
   rw [ab5];rfl
  rw [e4];exact g.flatten
 rw [e2];refine (e3.append_left _).trans ?_;rw [<- ab1];refine List.Perm.trans ?_ h.adQ;refine List.Perm.flatten ?_;unfold BP Js;exact abY _ _
end
set_option linter.unusedSectionVars false
theorem ave (p:Pl):Bq (Bq p)=Bq p:=by
 unfold Bq;simp only [IV];rfl
theorem aes (p:Pl):Bq (H6 p)=Bq p:=by
 unfold H6 Bq;simp only [IV];rfl
theorem avf (p:Pl):H6 (H6 p)=H6 p:=by
 have e:=aes p;have e2:H6 (H6 p)=⟨(Bq (H6 p)).nodes,(Bq (H6 p)).AP.map (ZF (Bq (H6 p)) (sortK (BP (Bq (H6 p))))),(List.range (BP (Bq (H6 p))).length).map fun i:Nat=>((i:Int)+1)⟩:=rfl;rw [e2,e];rfl
theorem avg (p:Pl):MG (H6 p)=MG p:=by unfold MG;rw [aes]
theorem Valid.avh {p:Pl} (h:Valid p) {b b':Option (List Int)} (hb:b=none\/∃ X∈BP p,b=some X) (hb':b'=none\/∃ X∈BP p,b'=some X) {d:Int} (h1:∃ c∈GR p b,d∈c) (h2:∃ c∈GR p b',d∈c):b=b':=by
 have key:∀ {b:Option (List Int)},(b=none\/∃ X∈BP p,b=some X)->∀ c∈GR p b,d∈c->(c∈BP p/\b=some c)\/(c∈Js p/\Ie p (RG p c)=b):=fun {b} hb c hc hd=>by
  unfold GR at hc;rcases EW.1 hc with e | hc
  ·rcases hb with rfl | ⟨X,hX,rfl⟩
   · rw [e] at hd;cases hd
   ·have e':c=X:=e;subst e';exact .inl ⟨hX,rfl⟩
  ·have:=QE.1 hc
   exact .inr ⟨this.1,by simpa using this.2⟩
 obtain ⟨c,hc,hd⟩:=h1;obtain ⟨c',hc',hd'⟩:=h2;have k1:=key hb c hc hd;have k2:=key hb' c' hc' hd';have e:c=c':=by
  refine h.aB8 ?_ ?_ hd hd'
  ·rcases k1 with g | g
   · exact (Ku.1 g.1).1
   · exact (Vt.1 g.1).1
  ·rcases k2 with g | g
   · exact (Ku.1 g.1).1
   · exact (Vt.1 g.1).1
 subst e;rcases k1 with ⟨g1,rfl⟩ | ⟨g1,rfl⟩<;>rcases k2 with ⟨g2,rfl⟩ | ⟨g2,rfl⟩
 · rfl
 · exact absurd (Ku.1 g1).2 (Vt.1 g2).2
 · exact absurd (Ku.1 g2).2 (Vt.1 g1).2
 · rfl
theorem aeu {p:Pl} {O:List (List Int)} (hO:O.Perm (BP p)) (i:Nat) (hi:i<=O.length):KO O i=none\/∃ X∈BP p,KO O i=some X:=by
 by_cases e:i=0
 · subst e;exact .inl rfl
 ·rw [Tn AB hi];exact .inr ⟨_,hO.subset (BO _),rfl⟩
section
variable {p:Pl} (h:Valid p) {O:List (List Int)} (hO:O.Perm (BP p))
include h hO
theorem Valid.amG {i:Nat} (hi:i<=O.length) {d:Int} (hd:∃ c∈J7 p O i,d∈c):∀ n,n<=O.length->Ij p O n d=if i<=n then (i:Int) else 0
 | 0,_=>by
  show (0:Int)=_
  split
  ·have:i=0:=by omega
   subst this;rfl
  · rfl
 | n+1,hn=>by
  have hnd:O.Nodup:=hO.nodup_iff.2 h.aBw
  show (if (J7 p O (n+1)).any (fun c=>decide (d∈c))=true then (n:Int)+1 else Ij p O n d)=_
  by_cases c:(J7 p O (n+1)).any (fun c=>decide (d∈c))=true
  ·rw [AZ c];rw [OC] at c;obtain ⟨c,hc,hdc⟩:=c;have:=h.avh (aeu hO i hi) (aeu hO (n+1) hn) hd ⟨c,hc,by simpa using hdc⟩
   have:=adt hnd hi hn this
   subst this;rw [AZ (Dc _)];rfl
  ·rw [AX c,Valid.amG hi hd n AB];have hne:i≠n+1:=fun e=>by
    subst e;obtain ⟨c',hc',hdc⟩:=hd;exact c (OC.2 ⟨c',hc',by simpa using hdc⟩)
   by_cases g:i<=n
   · rw [AZ g,AZ AB]
   · rw [AX g,AX AB]
theorem Valid.amH (d:Int):∀ n,n<=O.length->0<=Ij p O n d/\Ij p O n d<=n
 | 0,_=>⟨KH _,KH _⟩
 | n+1,hn=>by
  have ih:=Valid.amH d n AB
  show 0<=(if (J7 p O (n+1)).any (fun c=>decide (d∈c))=true then (n:Int)+1 else Ij p O n d)/\(if (J7 p O (n+1)).any (fun c=>decide (d∈c))=true then (n:Int)+1 else Ij p O n d)<=((n+1:Nat):Int)
  split<;>omega
end
theorem avi (n:Nat):OH ((List.range n).map fun i:Nat=>((i:Int)+1))=true:=by
 refine abz _ fun j hj=>?_;simp only [Gp,List.getElem_range];omega
theorem avj {p:Pl} (hz:MG p=0):Valid (H6 p)/\aO (H6 p):=by
 obtain ⟨hc,hn⟩:IG (Bq p)=0/\(BP (Bq p)).length<=64:=by
  unfold MG at hz;split at hz
  · rename_i c;exact absurd hz c
  ·rename_i c;split at hz
   · cases hz
   · exact ⟨AB,AB⟩
 have hv:=(Yi _).1 hc;have hO:=(Ze (BP (Bq p))).1;have hlen:=hO.length_eq;have hg:VK (Bq p) (H6 p):=by unfold VK;rw [ave,aes]
 have hfm:∀ x:Int,1<=x->x<=(BP (Bq p)).length->x∈(H6 p).faces:=fun x h1 h2=>ED.2 ⟨(x-1).toNat,Et.2 AB,AB⟩;have hq:Valid (H6 p):=by
  refine hg.valid hv (by show ((List.range _).map _).length<=64;simp;omega) (avi _) (fun f hf=>?_) ?_
  ·obtain ⟨i,hi,rfl⟩:=ED.1 (show f∈(List.range (BP (Bq p)).length).map fun i:Nat=>((i:Int)+1) from hf);rw [Et] at hi;unfold Jj;simp only [QC,Iy];omega
  ·unfold SI;rw [KU];intro a ha;obtain ⟨b,hb,rfl⟩:=ED.1 (show a∈(Bq p).AP.map (ZF (Bq p) (sortK (BP (Bq p)))) from ha);have key:∀ d,F6 (H6 p).faces (Ij (Bq p) (sortK (BP (Bq p))) (sortK (BP (Bq p))).length d)=true:=fun d=>by
    obtain ⟨l1,l2⟩:=hv.amH hO d _ (Dc _);unfold F6;rw [KD];generalize Ij (Bq p) (sortK (BP (Bq p))) (sortK (BP (Bq p))).length d=x at *;by_cases e:x=0
    · exact .inr (by simpa using e)
    · exact .inl (OC.2 ⟨x,hfm x AB AB,Ak⟩)
   show (F6 (H6 p).faces _ && F6 (H6 p).faces _)=true
   rw [Ei];exact ⟨key _,key _⟩
 refine ⟨hq,?_⟩;have hside:∀ d∈Bh (Bq p),IK (H6 p) d=Ij (Bq p) (sortK (BP (Bq p))) (sortK (BP (Bq p))).length d:=fun d hd=>by
  obtain ⟨b,hb,hor⟩:=Iq.1 hd;have hbm:ZF (Bq p) (sortK (BP (Bq p))) b∈(H6 p).AP:=Gh (f:=ZF (Bq p) (sortK (BP (Bq p)))) hb;have hid:=hv.Gx hb;unfold IK;rcases hor with rfl | rfl
  ·have:=hq.iK hbm
   rw [show (ZF (Bq p) (sortK (BP (Bq p))) b).id=b.id from rfl] at this;rw [this];exact AZ AB
  ·have:=hq.pF hbm
   rw [show (ZF (Bq p) (sortK (BP (Bq p))) b).id=b.id from rfl] at this;rw [this];exact AX AB
 have aCz:∀ b,GR (H6 p) b=GR (Bq p) b:=fun b=>by rw [hg.GR]
 refine (Ui.iff (O:=sortK (BP (Bq p))) (by rw [<- hg.BP];exact hO)).2 ⟨?_,by rw [hlen];show _=((List.range _).map _).length;simp⟩;have hat:∀ i,i<=(sortK (BP (Bq p))).length->∀ c∈J7 (Bq p) (sortK (BP (Bq p))) i,∀ d∈c,IK (H6 p) d=i:=fun i hi c hc d hd=>by
  have hdd:d∈Bh (Bq p):=by
   have hc':c∈GR (Bq p) (KO (sortK (BP (Bq p))) i):=hc;unfold GR at hc';rcases EW.1 hc' with e | hc'
   ·rcases aeu hO i hi with g | ⟨X,hX,g⟩
    ·rw [g] at e;rw [e] at hd;cases hd
    ·rw [g] at e;have e':c=X:=e;subst e';exact (hv.Gq (Ku.1 hX).1).2 d hd
   · exact (hv.Gq (Vt.1 (QE.1 hc').1).1).2 d hd
  rw [hside d hdd,hv.amG hO hi ⟨c,hc,hd⟩ _ (Dc _),AZ hi]
 have hfc:∀ i,i<=(sortK (BP (Bq p))).length->Ih (H6 p) (sortK (BP (Bq p))) i=i:=fun i hi=>by
  by_cases e:i=0
  · subst e;rfl
  ·rw [Zf AB hi];have hX:=hO.subset (BO (show i-1<(sortK (BP (Bq p))).length by omega));refine hat i hi _ ?_ _ (hv.akq (Ku.1 hX).1);unfold J7;rw [Tn AB hi];exact Eu
 refine ⟨fun i h1 h2=>?_,fun i j h1 h2 h3=>?_,fun i hi c hc d hd=>?_⟩
 · rw [hfc i AB];omega
 · rw [hfc i AB,hfc j AB];omega
 ·rw [hfc i AB];refine hat i AB c ?_ d hd
  have:c∈GR (H6 p) (KO (sortK (BP (Bq p))) i):=hc
  rw [aCz] at this;exact this
theorem avk {p:Pl} (hz:MG p=0):Ib (H6 p)=0:=by
 obtain ⟨h1,h2⟩:=avj hz;unfold Ib;rw [AX (by rw [(Yi _).2 h1];simp),AZ (aBx.2 h2)]
