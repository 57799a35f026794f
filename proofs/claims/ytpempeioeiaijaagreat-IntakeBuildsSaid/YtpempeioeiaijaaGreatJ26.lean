import Derived.Test.YtpempeioeiaijaaGreatJ21
import Derived.Test.YtpempeioeiaijaaGreatJ25
set_option linter.unusedSimpArgs false
set_option linter.unusedVariables false
namespace Go.Proofs.YtpempeioeiaijaaGreat
open Go.RowKit
set_option linter.unusedSectionVars false
section
variable (p:Pl)
theorem agR (i:Int):findAr (C9 p).AQ i=(findAr p.AQ i).map P5:=by
 unfold findAr C9;rw [List.find?_map];rfl
theorem agS (d:Int):Fb (C9 p) d=(Fb p d).map P5:=by
 unfold Fb;split
 · rfl
 · exact agR p _
theorem axn (d:Int):KR (C9 p) d=KR p d:=by
 unfold KR;rw [agS]
 cases Fb p d<;>rfl
theorem axo (d:Int):PX (C9 p) d=PX p d:=by
 unfold PX;rw [agS]
 cases Fb p d<;>rfl
theorem anm (d:Int):Dz (C9 p) d=Dz p d:=by
 unfold Dz;rw [agR]
 cases findAr p.AQ (FD d)<;>rfl
theorem ano (d:Int):MF (C9 p) d=MF p d:=by
 unfold MF;rw [agR]
 cases findAr p.AQ (FD d)<;>rfl
theorem axp (n:Int):Dn (C9 p).AQ n=Dn p.AQ n:=by
 unfold Dn C9;rw [S9];rfl
theorem axq:Bj (C9 p)=Bj p:=by
 unfold Bj C9;simp only [IW];rfl
theorem axr (n:Int):DT (C9 p) n=DT p n:=by
 unfold DT;rw [axp];have e:∀ o,ltD (C9 p) o=ltD p o:=fun o=>by funext d e;unfold ltD;rw [anm,anm]
 show (match Jm p.nodes n with | none=>_ | some x=>_)=_
 cases Jm p.nodes n with
 | none=>rfl
 | some x=>simp only [e]
theorem axt:FC (C9 p)=FC p:=by
 funext d
 unfold FC;rw [agS,axn,axr,Option.isSome_map]
theorem anp:Cb (C9 p)=Cb p:=by unfold Cb;rw [axt,axq]
theorem agT:F8 (C9 p)=F8 p:=by
 funext X
 unfold F8;have e:PX (C9 p)=PX p:=funext (axo p);rw [e]
theorem axu:Jr (C9 p)=Jr p:=by
 funext X
 unfold Jr;have e:MF (C9 p)=MF p:=funext (ano p);rw [e]
theorem axv:encS (C9 p)=encS p:=by funext X v;unfold encS;rw [axu]
theorem agU:Ci (C9 p)=Ci p:=by unfold Ci;rw [anp,agT]
theorem axw:Nl (C9 p)=Nl p:=by unfold Nl;rw [anp,agT]
theorem axx:MG (C9 p)=MG p:=by funext v;unfold MG;rw [agU,agT,axv]
theorem axy:UU (C9 p)=UU p:=by funext c;unfold UU;rw [ano]
theorem axz:mQ (C9 p)=mQ p:=by funext b;unfold mQ;rw [axw,axx,axy]
theorem anq:Kr (C9 p)=Kr p:=by funext b;unfold Kr;rw [axz]
theorem anr (a:Ar):aaw (C9 p) (P5 a)↔aaw p a:=Iff.rfl
end
def UO (p q:Pl):Prop:=C9 p=C9 q
theorem UO.nodes {p q:Pl} (h:UO p q):p.nodes=q.nodes:=by
 have e:C9 p=C9 q:=h;exact show (C9 p).nodes=(C9 q).nodes by rw [e]
theorem UO.AQ {p q:Pl} (h:UO p q):p.AQ.map P5=q.AQ.map P5:=by
 have e:C9 p=C9 q:=h;exact show (C9 p).AQ=(C9 q).AQ by rw [e]
theorem UO.map {p q:Pl} (h:UO p q) {α:Type} (f:Ar->α) (hf:∀ a,f (P5 a)=f a):p.AQ.map f=q.AQ.map f:=by
 have:=congrArg (List.map f) h.AQ
 rw [IW,IW] at this;have e:f ∘ P5=f:=funext hf
 rwa [e] at this
section
variable {p q:Pl} (h:UO p q)
include h
theorem UO.Ci:Ci p=Ci q:=by rw [<- agU p,<- agU q,h]
theorem UO.Kr:Kr p=Kr q:=by rw [<- anq p,<- anq q,h]
theorem UO.valid (hv:Valid p) (h1:q.faces.length<=64) (h2:OE q.faces=true) (h3:∀ f∈q.faces,Jp f=false) (h4:Rx q=true):Valid q where
 lim:=by
  have hl:=hv.lim;unfold KD at hl ⊢;simp only [OC,JH] at hl ⊢;obtain ⟨a1,⟨a2,a3⟩,-⟩:=hl;rw [<- h.nodes];have e1:q.AQ.any (fun a=>decide (64<a.via.length))=p.AQ.any (fun a=>decide (64<a.via.length)):=by
   rw [any_map' q.AQ,any_map' p.AQ,h.map (fun a=>decide (64<a.via.length)) (fun a=>rfl)]
  have e2:p.AQ.length=q.AQ.length:=by simpa using congrArg List.length h.AQ
  rw [e1,<- e2];exact ⟨a1,⟨a2,a3⟩,AA⟩
 ord:=by
  have ho:=hv.ord;unfold Qy at ho ⊢;rw [ER,ER] at ho ⊢;rw [<- h.nodes,<- h.map (·.id) (fun a=>rfl)];exact ⟨ho.1,h2⟩
 rng:=by
  have hr:=hv.rng;unfold OG at hr ⊢;rw [ER] at hr ⊢;have ep:VH q=VH p:=by
   unfold VH;rw [<- h.nodes,List.flatMap_def,List.flatMap_def,h.map (·.via) (fun a=>rfl)]
  rw [ep];refine ⟨?_,hr.2⟩;have h0:=hr.1;rw [QM,MB] at h0 ⊢;rw [<- h.nodes,<- h.map (·.id) (fun a=>rfl)];intro x hx;rcases GI.1 hx with hx | hx
  · exact h0 x (SB _ hx)
  · rw [h3 x hx];simp
 dup:=by have:=hv.dup;rwa [h.nodes] at this
 ends:=by
  have:=hv.ends
  rw [all_map'] at this ⊢;rw [<- this];congr 1;have e:JX q=JX p:=by funext a;unfold JX;rw [h.nodes]
  rw [e];exact (h.map (JX p) (fun a=>rfl)).symm
 sides:=h4
 aei:=by
  have hs:(p.AQ.map (·.id)).Pairwise (· < ·):=hv.sound.AQ;have hs':(q.AQ.map (·.id)).Pairwise (· < ·):=by rw [<- h.map (·.id) (fun a=>rfl)];exact hs
  have hb:(C9 p).AQ.map (·.id)=p.AQ.map (·.id):=by unfold C9;simp only [IW];rfl
  have hb':(C9 q).AQ.map (·.id)=q.AQ.map (·.id):=by unfold C9;simp only [IW];rfl
  have key:∀ r:Pl,(r.AQ.map (·.id)).Pairwise (· < ·)->(MZ (C9 r)=true↔MZ r=true):=fun r hr=>by
   have hbr:(C9 r).AQ.map (·.id)=r.AQ.map (·.id):=by unfold C9;simp only [IW];rfl
   rw [ajv r hr,ajv (C9 r) (by rw [hbr];exact hr)];refine and_congr ?_ ?_
   ·show (∀ a∈r.AQ.map P5,aaw (C9 r) a)↔_
    constructor
    · exact fun g a ha=>(anr r a).1 (g _ (FZ ha))
    ·rintro g a ha;obtain ⟨b,hb,rfl⟩:=Ez.1 ha;exact (anr r b).2 (g b hb)
   ·show List.Pairwise (aju (C9 r)) (r.AQ.map P5)↔_
    rw [IX];exact Iff.rfl
  have h5:=(key p hs).2 hv.aei;have h6:C9 p=C9 q:=h;rw [h6] at h5;exact (key q hs').1 h5
end
set_option linter.unusedSectionVars false
theorem ay0 (p:Pl):C9 (C9 p)=C9 p:=by
 unfold C9;simp only [IW];rfl
theorem ay1 (p:Pl):C9 (J6 p)=C9 p:=by
 unfold J6 C9;simp only [IW];rfl
theorem Valid.axE {p:Pl} (h:Valid p) {b b':Option (List Int)} (hb:b=none\/∃ X∈Ci p,b=some X) (hb':b'=none\/∃ X∈Ci p,b'=some X) {d:Int} (h1:∃ c∈Kr p b,d∈c) (h2:∃ c∈Kr p b',d∈c):b=b':=by
 have key:∀ {b:Option (List Int)},(b=none\/∃ X∈Ci p,b=some X)->∀ c∈Kr p b,d∈c->(c∈Ci p/\b=some c)\/(c∈Nl p/\MG p (UU p c)=b):=fun {b} hb c hc hd=>by
  unfold Kr at hc;rcases FI.1 hc with e | hc
  ·rcases hb with rfl | ⟨X,hX,rfl⟩
   · rw [e] at hd;cases hd
   ·have e':c=X:=e;subst e';exact .inl ⟨hX,rfl⟩
  ·have:=QN.1 hc
   exact .inr ⟨this.1,by simpa using this.2⟩
 obtain ⟨c,hc,hd⟩:=h1;obtain ⟨c',hc',hd'⟩:=h2;have k1:=key hb c hc hd;have k2:=key hb' c' hc' hd';have e:c=c':=by
  refine h.ab3 ?_ ?_ hd hd'
  ·rcases k1 with g | g
   · exact (Np.1 g.1).1
   · exact (Xg.1 g.1).1
  ·rcases k2 with g | g
   · exact (Np.1 g.1).1
   · exact (Xg.1 g.1).1
 subst e;rcases k1 with ⟨g1,rfl⟩ | ⟨g1,rfl⟩<;>rcases k2 with ⟨g2,rfl⟩ | ⟨g2,rfl⟩
 · rfl
 · exact absurd (Np.1 g1).2 (Xg.1 g2).2
 · exact absurd (Np.1 g2).2 (Xg.1 g1).2
 · rfl
theorem agV {p:Pl} {O:List (List Int)} (hO:O.Perm (Ci p)) (i:Nat) (hi:i<=O.length):Lj O i=none\/∃ X∈Ci p,Lj O i=some X:=by
 by_cases e:i=0
 · subst e;exact .inl rfl
 ·rw [VT AA hi];exact .inr ⟨_,hO.subset (BO _),rfl⟩
section
variable {p:Pl} (h:Valid p) {O:List (List Int)} (hO:O.Perm (Ci p))
include h hO
theorem Valid.ant {i:Nat} (hi:i<=O.length) {d:Int} (hd:∃ c∈Je p O i,d∈c):∀ n,n<=O.length->Iq p O n d=if i<=n then (i:Int) else 0
 | 0,_=>by
  show (0:Int)=_
  split
  ·have:i=0:=AA
   subst this;rfl
  · rfl
 | n+1,hn=>by
  have hnd:O.Nodup:=hO.nodup_iff.2 h.afK
  show (if (Je p O (n+1)).any (fun c=>decide (d∈c))=true then (n:Int)+1 else Iq p O n d)=_
  by_cases c:(Je p O (n+1)).any (fun c=>decide (d∈c))=true
  ·rw [AZ c];rw [OA] at c;obtain ⟨c,hc,hdc⟩:=c;have:=h.axE (agV hO i hi) (agV hO (n+1) hn) hd ⟨c,hc,by simpa using hdc⟩
   have:=afJ hnd hi hn this
   subst this;rw [AZ (Cj _)];rfl
  ·rw [AX c,Valid.ant hi hd n AA];have hne:i≠n+1:=fun e=>by
    subst e;obtain ⟨c',hc',hdc⟩:=hd;exact c (OA.2 ⟨c',hc',by simpa using hdc⟩)
   by_cases g:i<=n
   · rw [AZ g,AZ AA]
   · rw [AX g,AX AA]
theorem Valid.an9 (d:Int):∀ n,n<=O.length->0<=Iq p O n d/\Iq p O n d<=n
 | 0,_=>⟨dY _,dY _⟩
 | n+1,hn=>by
  have ih:=Valid.an9 d n AA
  show 0<=(if (Je p O (n+1)).any (fun c=>decide (d∈c))=true then (n:Int)+1 else Iq p O n d)/\(if (Je p O (n+1)).any (fun c=>decide (d∈c))=true then (n:Int)+1 else Iq p O n d)<=((n+1:Nat):Int)
  split<;>omega
end
theorem axF (n:Nat):OE ((List.range n).map fun i:Nat=>((i:Int)+1))=true:=by
 refine ad6 _ fun j hj=>?_;simp only [Iu,List.getElem_range];omega
theorem axG {p:Pl} (hz:Om p=0):Valid (J6 p)/\aeA (J6 p):=by
 obtain ⟨hc,hn⟩:Gn (C9 p)=0/\(Ci (C9 p)).length<=64:=by
  unfold Om at hz;split at hz
  · rename_i c;exact absurd hz c
  ·rename_i c;split at hz
   · cases hz
   · exact ⟨AA,AA⟩
 have hv:=(fH _).1 hc;have hO:=(dK (Ci (C9 p))).1;have hlen:=hO.length_eq;have hg:UO (C9 p) (J6 p):=by unfold UO;rw [ay0,ay1]
 have hfm:∀ x:Int,1<=x->x<=(Ci (C9 p)).length->x∈(J6 p).faces:=fun x h1 h2=>Ez.2 ⟨(x-1).toNat,FQ.2 AA,AA⟩;have hq:Valid (J6 p):=by
  refine hg.valid hv (by show ((List.range _).map _).length<=64;simp;omega) (axF _) (fun f hf=>?_) ?_
  ·obtain ⟨i,hi,rfl⟩:=Ez.1 (show f∈(List.range (Ci (C9 p)).length).map fun i:Nat=>((i:Int)+1) from hf);rw [FQ] at hi;unfold Jp;simp only [OC,JH];omega
  ·unfold Rx;rw [LK];intro a ha;obtain ⟨b,hb,rfl⟩:=Ez.1 (show a∈(C9 p).AQ.map (aW (C9 p) (sortK (Ci (C9 p)))) from ha);have key:∀ d,Eu (J6 p).faces (Iq (C9 p) (sortK (Ci (C9 p))) (sortK (Ci (C9 p))).length d)=true:=fun d=>by
    obtain ⟨l1,l2⟩:=hv.an9 hO d _ (Cj _);unfold Eu;rw [Ir];generalize Iq (C9 p) (sortK (Ci (C9 p))) (sortK (Ci (C9 p))).length d=x at *;by_cases e:x=0
    · exact .inr (by simpa using e)
    · exact .inl (OA.2 ⟨x,hfm x AA AA,Ah⟩)
   show (Eu (J6 p).faces _ && Eu (J6 p).faces _)=true
   rw [ER];exact ⟨key _,key _⟩
 refine ⟨hq,?_⟩;have hside:∀ d∈Bj (C9 p),Ib (J6 p) d=Iq (C9 p) (sortK (Ci (C9 p))) (sortK (Ci (C9 p))).length d:=fun d hd=>by
  obtain ⟨b,hb,hor⟩:=J9.1 hd;have hbm:aW (C9 p) (sortK (Ci (C9 p))) b∈(J6 p).AQ:=FZ (f:=aW (C9 p) (sortK (Ci (C9 p)))) hb;have hid:=hv.IQ hb;unfold Ib;rcases hor with rfl | rfl
  ·have:=hq.fK hbm
   rw [show (aW (C9 p) (sortK (Ci (C9 p))) b).id=b.id from rfl] at this;rw [this];exact AZ AA
  ·have:=hq.ni hbm
   rw [show (aW (C9 p) (sortK (Ci (C9 p))) b).id=b.id from rfl] at this;rw [this];exact AX AA
 have ac8:∀ b,Kr (J6 p) b=Kr (C9 p) b:=fun b=>by rw [hg.Kr]
 refine (UC.iff (O:=sortK (Ci (C9 p))) (by rw [<- hg.Ci];exact hO)).2 ⟨?_,by rw [hlen];show _=((List.range _).map _).length;simp⟩;have hat:∀ i,i<=(sortK (Ci (C9 p))).length->∀ c∈Je (C9 p) (sortK (Ci (C9 p))) i,∀ d∈c,Ib (J6 p) d=i:=fun i hi c hc d hd=>by
  have hdd:d∈Bj (C9 p):=by
   have hc':c∈Kr (C9 p) (Lj (sortK (Ci (C9 p))) i):=hc;unfold Kr at hc';rcases FI.1 hc' with e | hc'
   ·rcases agV hO i hi with g | ⟨X,hX,g⟩
    ·rw [g] at e;rw [e] at hd;cases hd
    ·rw [g] at e;have e':c=X:=e;subst e';exact (hv.Ic (Np.1 hX).1).2 d hd
   · exact (hv.Ic (Xg.1 (QN.1 hc').1).1).2 d hd
  rw [hside d hdd,hv.ant hO hi ⟨c,hc,hd⟩ _ (Cj _),AZ hi]
 have hfc:∀ i,i<=(sortK (Ci (C9 p))).length->Ll (J6 p) (sortK (Ci (C9 p))) i=i:=fun i hi=>by
  by_cases e:i=0
  · subst e;rfl
  ·rw [aK AA hi];have hX:=hO.subset (BO (show i-1<(sortK (Ci (C9 p))).length by omega));refine hat i hi _ ?_ _ (hv.axl (Np.1 hX).1);unfold Je;rw [VT AA hi];exact JC
 refine ⟨fun i h1 h2=>?_,fun i j h1 h2 h3=>?_,fun i hi c hc d hd=>?_⟩
 · rw [hfc i AA];omega
 · rw [hfc i AA,hfc j AA];omega
 ·rw [hfc i AA];refine hat i AA c ?_ d hd
  have:c∈Kr (J6 p) (Lj (sortK (Ci (C9 p))) i):=hc
  rw [ac8] at this;exact this
theorem axH {p:Pl} (hz:Om p=0):YS (J6 p)=0:=by
 obtain ⟨h1,h2⟩:=axG hz;unfold YS;rw [AX (by rw [(fH _).2 h1];simp),AZ (alp.2 h2)]
