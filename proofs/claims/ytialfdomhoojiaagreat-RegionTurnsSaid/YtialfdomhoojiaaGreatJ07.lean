import Derived.Test.YtialfdomhoojiaaGreatPlanar
import Derived.Test.YtialfdomhoojiaaGreatJ03
import Derived.Test.YtialfdomhoojiaaGreatGB
set_option linter.unusedSimpArgs false
set_option linter.unusedVariables false
namespace Go.Proofs.YtialfdomhoojiaaGreat
open Go.RowKit
theorem alP (p:Pl) (a:Ar):hasB (p.nodes.map (·.id)) a=mP p a:=by
 have h:∀ id:Int,(p.nodes.map (·.id)).any (fun y=>y == id)=(mM p.nodes id).isSome:=fun id=>by
  unfold mM;rw [List.any_map,Bool.eq_iff_iff,List.any_eq_true,List.find?_isSome];rfl
 unfold hasB mP;rw [h,h]
theorem ad9 (p:Pl):yS p (p.nodes.map (·.id))=if Ae (p.nodes.map (·.pt))=true then 8 else if p.ah.all (mP p)=false then 7 else if Au p=false then 12 else 0:=by
 unfold yS
 have:hasB (p.nodes.map (·.id))=mP p:=funext fun a=>alP p a
 rw [this]
theorem alQ (p:Pl) (h:lY p=false):mQ p=if sF p=false then 10 else if rY p=false then 2 else if yS p (p.nodes.map (·.id))=0 then (if qC p=false then 11 else 0) else yS p (p.nodes.map (·.id)):=by
 unfold mQ;rw [h,ad9];rw [if_neg (show ¬ false=true by decide)];split
 · rfl
 split
 · rfl
 split
 · rfl
 split
 · rfl
 split
 · rfl
 · rfl
theorem alR (p:Pl) (h:yS p (p.nodes.map (·.id))=0):∀ a∈p.ah,mP p a=true:=by
 rw [ad9] at h
 cases h2:p.ah.all (mP p)
 ·rw [h2] at h;split at h
  · omega
  · simp at h
 · exact List.all_eq_true.1 h2
theorem alS (p:Pl):Iy p=(Ad p).all lZ:=by
 unfold Iy Ad;have h:∀ l:List Pt,(!l.any oI)=l.all lZ:=fun l=>by
  induction l with
  | nil=>rfl
  | cons a l ih=>rw [List.any_cons,List.all_cons,Bool.not_or,ih,akv,Bool.not_not]
 rw [List.all_append,List.all_flatMap,List.all_map];have h1:(!p.nodes.any fun n=>oI n.pt)=p.nodes.all (lZ ∘ fun n=>n.pt):=by
  have:=h (p.nodes.map (·.pt))
  rw [List.any_map,List.all_map] at this;exact this
 have h2:(!p.ah.any fun a=>a.via.any oI)=p.ah.all fun a=>a.via.all lZ:=by
  rw [List.not_any_eq_all_not];congr 1
  funext a
  exact h a.via
 rw [h1,h2]
theorem O5 (p:Pl):rY p=(!(p.nodes.map (·.id)).any qW && !(p.ah.map (·.id)).any qW && !p.faces.any qW && Iy p):=by
 unfold rY;rw [alS,List.any_append,List.any_append,Bool.not_or,Bool.not_or]
theorem alT {α:Type} {l:List α} {q:α->Bool} (h:l.any q=false):∀ x∈l,q x=false:=fun x hx=>by
 rw [List.any_eq_false] at h;have:=h x hx
 simpa using this
theorem alU {l:List Nd} (h:(l.map (·.id)).any qW=false):∀ n∈l,eG n.id:=fun n hn=>by
 have:=alT h n.id (List.mem_map_of_mem hn)
 simp only [qW,Bool.or_eq_false_iff,decide_eq_false_iff_not] at this;exact oV (by omega) (by omega)
theorem alV {p:Pl} (h:lY p=false):(p.ah.flatMap (gI p)).length<=2097152:=by
 obtain ⟨h1,h2,h3,h4,h5⟩:=Tm h;have hl:=Tj p.ah (gI p) 65 (fun a ha=>by
  simp only [gI,List.length_map,List.length_range];unfold pathOf
  cases hb:findAr p.ah a.id with
  | none=>simp
  | some b =>
   simp only [];split
   ·have:=h1 b (YG hb)
    simp only [Option.getD_some,fM];omega
   · simp)
 omega
set_option maxRecDepth 100000 in
set_option maxHeartbeats 8000000 in
theorem aea (v:Value) (p:Pl) (w:World) (h:dS w v p) :
  Calls Tryz.prog 115 #[v] w fun e w'=>e=.returned (.int .i64 (mQ p))/\Below w.heap.size w w':=by
 have HP:=Lib.hid h;obtain ⟨_,_,_,al,rfl,hpa,⟨An,cn,rfl,hn1,hn2,-⟩,⟨⟨Aa,ca,rfl,ha1,ha2,jy⟩,hV⟩,hF⟩:=h;have HF:=Lib.hid hF;obtain ⟨Af,cf,rfl,hf1,hf2,-⟩:=hF;unfold maxLen at hn2 ha2 hf2;have HV:=Lib.hid hV;clear hV;have lK:=Lib.hid jy;clear jy;obtain ⟨q,hq⟩:∃ q,mQ p=q:=⟨_,rfl⟩;rw [hq];have hq2:=hq;unfold mQ at hq;have hbig:256<p.nodes.length\/256<al.length\/64<p.faces.length->3=q:=fun hh=>by
  rw [<- hq,if_pos];unfold lY;rw [hpa,List.length_map];simp only [Bool.or_eq_true,decide_eq_true_eq];omega
 have uY:∀ k (hk:k<al.length),64<al[k].1.via.length->3=q:=fun k hk hh=>by
  rw [<- hq,if_pos];unfold lY;rw [hpa,List.any_map];have:=Iq al ((fun a=>decide (64<a.via.length)) ∘ fun x=>x.1) k hk (by simpa using hh)
  rw [this];rfl
 have hsmall:¬ 256<p.nodes.length->¬ 256<al.length->¬ 64<p.faces.length->(∀ k (hk:k<al.length),¬ 64<al[k].1.via.length)->lY p=false:=fun h1 h2 h3 h4=>by
  unfold lY;rw [hpa,List.length_map,List.any_map];have:=Ir al ((fun a=>decide (64<a.via.length)) ∘ fun x=>x.1) (fun j hj=>by have:=h4 j hj;simpa using this)
  rw [this,decide_eq_false h1,decide_eq_false h2,decide_eq_false h3];rfl
 have Hq:=Lib.hid hq2;have IU:=Lib.hid hbig;have aeb:=Lib.hid uY;have aec:=Lib.hid hsmall;have Hpa:=Lib.hid hpa;clear hq hq2 hbig uY hsmall hpa;go_enter Tryz.func115,Tryz.ntmps115;by_cases g1:256<p.nodes.length
 ·have hf:=Lib.hid (IU.out (.inl g1));go_wp2_with fail;go_ret;exact ⟨fZ hf.out,bA (bR w) _⟩
 by_cases g2:256<al.length
 ·have hf:=Lib.hid (IU.out (.inr (.inl g2)));go_wp2_with fail;go_ret;exact ⟨fZ hf.out,bA (bR w) _⟩
 by_cases g3:64<p.faces.length
 ·have hf:=Lib.hid (IU.out (.inr (.inr g3)));go_wp2_with fail;go_ret;exact ⟨fZ hf.out,bA (bR w) _⟩
 go_wp2_with fail;obtain ⟨W1,hW1⟩:∃ W1:World,W1=w.alloc (.cells #[.slice An p.nodes.length cn,.slice Aa al.length ca,.slice Af p.faces.length cf] 26):=⟨_,rfl⟩;have HB1:=Lib.hid (show Below w.heap.size w W1 by rw [hW1];exact bA (bR w) _);have fK:Hid (aj W1 w.heap.size 26 #[.slice An p.nodes.length cn,.slice Aa al.length ca,.slice Af p.faces.length cf]):=Lib.hid (by rw [hW1];exact aj.made rfl _ _);rw [<- hW1];clear hW1;go_loopw [26] (fun u wr=>∃ k:Nat,k<=al.length/\u=.int .i64 k/\Below W1.heap.size W1 wr/\∀ j (hj:j<al.length),j<k->¬ 64<al[j].1.via.length) (fun u _=>al.length-(intOf u).toNat)
 case atStart => exact ⟨0,Nat.zero_le _,rfl,bR W1,fun _ _ h=>by omega⟩
 case round =>
 obtain ⟨k,hk,rfl,hb,hno⟩:=hrel;have Hb:=Lib.hid hb;have Hno:=Lib.hid hno;have X1:=fK.out.keep hb;clear hb hno;obtain ⟨aO,aP,aS,aT,-,-,-⟩:=X1.aY;by_cases hlt:k<al.length
 case pos =>
  obtain ⟨b,o,rfl,hlb,c0,c1,c2,c3,c4,c5⟩:=(lK.out.mono (bT HB1.out Hb.out)).ar hlt;obtain ⟨Av,cv,hv,hv1,hv2,-⟩:=HV.out k hlt;unfold maxLen at hv2;rw [hv] at c3;clear hv;by_cases hbig:64<al[k].1.via.length
  ·have hf:=Lib.hid (aeb.out k hlt hbig);go_wp2_with fail;go_ret;exact ⟨fZ hf.out,bT HB1.out (bA Hb.out _)⟩
  ·have hb':=Lib.hid hbig;go_wp2_with fail;go_roundw
   case rel => exact ⟨k+1,by omega,by go_num,bA Hb.out _,all_succ (p:=fun a=>¬ 64<a.1.via.length) Hno.out hlt hb'.out⟩
   case measure => simp [intOf];omega
 case neg =>
 have hlim:=aec.out g1 g2 g3 (fun j hj=>Hno.out j hj (by omega));have hlen:=alV hlim;have hq:=Hq.out;rw [alQ p hlim] at hq;have auY:=Lib.hid hlim;have HLen:=Lib.hid hlen;have hsh:Short p:=fun a ha=>by have:=(Tm hlim).1 a ha;omega
 have fD:=Lib.hid hsh;replace Hq:=Lib.hid hq;have alW:p.ah.length<=4096:=by rw [Hpa.out,List.length_map];omega
 clear hlim hlen hsh hq IU aeb aec HV lK Hno;have Bw:=bT HB1.out Hb.out;clear Hb;go_wp2_with fail;refine (aky _ p _ (HP.out.mono Bw) (by omega) alW).mono ?_;rintro e w2 ⟨v2,u2,rfl,hb2,ho1,ho2⟩;have rD:=Lib.hid (Own.sl ho1);have iK:=Lib.hid (Own.sl ho2);replace Bw:=bT Bw hb2;replace X1:=X1.keep hb2;clear hb2 ho1 ho2
 try clear aO
 try clear aP
 try clear aS
 try clear aT
 obtain ⟨aO,aP,aS,aT,-,-,-⟩:=X1.aY;obtain ⟨wz,rfl⟩:∃ wz:World,wz=w2:=⟨_,rfl⟩;go_wp2_with fail;refine (Yq _ _ _ rD.out).mono ?_;rintro e w3 ⟨rfl,hb3⟩;have B3:=hb3;replace X1:=X1.keep hb3;clear hb3
 try clear aO
 try clear aP
 try clear aS
 try clear aT
 obtain ⟨aO,aP,aS,aT,-,-,-⟩:=X1.aY
 cases h1:vU (p.nodes.map (·.id))
 case false =>
  have hf:=Lib.hid (show 10=q by rw [<- Hq.out,if_pos (by simp [sF,h1])]);clear h1;go_wp2_with fail;go_ret;exact ⟨fZ hf.out,bT Bw B3⟩
 have H1:=Lib.hid h1;clear h1;go_wp2_with fail;refine (Yq _ _ _ (iK.out.mono B3)).mono ?_;rintro e w4 ⟨rfl,hb4⟩;have B4:=bT B3 hb4;replace X1:=X1.keep hb4;clear hb4 B3
 try clear aO
 try clear aP
 try clear aS
 try clear aT
 obtain ⟨aO,aP,aS,aT,-,-,-⟩:=X1.aY
 cases h1:vU (p.ah.map (·.id))
 case false =>
  have hf:=Lib.hid (show 10=q by rw [<- Hq.out,if_pos (by simp [sF,h1])]);clear h1;go_wp2_with fail;go_ret;exact ⟨fZ hf.out,bT Bw B4⟩
 have H2:=Lib.hid h1;clear h1;go_wp2_with fail;refine (Yq _ _ _ (HF.out.mono (bT Bw B4))).mono ?_;rintro e w5 ⟨rfl,hb5⟩;have B5:=bT B4 hb5;replace X1:=X1.keep hb5;clear hb5 B4
 try clear aO
 try clear aP
 try clear aS
 try clear aT
 obtain ⟨aO,aP,aS,aT,-,-,-⟩:=X1.aY
 cases h1:vU p.faces
 case false =>
  have hf:=Lib.hid (show 10=q by rw [<- Hq.out,if_pos (by simp [sF,h1])]);clear h1;go_wp2_with fail;go_ret;exact ⟨fZ hf.out,bT Bw B5⟩
 have hq:=Hq.out;rw [if_neg (show ¬ sF p=false by simp [sF,h1,H1.out,H2.out])] at hq;replace Hq:=Lib.hid hq;clear hq h1;go_wp2_with fail;refine (Yt _ _ _ (rD.out.mono B5)).mono ?_;rintro e w6 ⟨rfl,hb6⟩;have B6:=bT B5 hb6;replace X1:=X1.keep hb6;clear hb6 B5
 try clear aO
 try clear aP
 try clear aS
 try clear aT
 obtain ⟨aO,aP,aS,aT,-,-,-⟩:=X1.aY
 cases h1:(p.nodes.map (·.id)).any qW
 case true =>
  have hf:=Lib.hid (show 2=q by rw [<- Hq.out,if_pos (by rw [O5,h1];rfl)]);clear h1;go_wp2_with fail;go_ret;exact ⟨fZ hf.out,bT Bw B6⟩
 have H3:=Lib.hid h1;clear h1;go_wp2_with fail;refine (Yt _ _ _ (iK.out.mono B6)).mono ?_;rintro e w7 ⟨rfl,hb7⟩;have B7:=bT B6 hb7;replace X1:=X1.keep hb7;clear hb7 B6
 try clear aO
 try clear aP
 try clear aS
 try clear aT
 obtain ⟨aO,aP,aS,aT,-,-,-⟩:=X1.aY
 cases h1:(p.ah.map (·.id)).any qW
 case true =>
  have hf:=Lib.hid (show 2=q by rw [<- Hq.out,if_pos (by rw [O5,h1];simp)]);clear h1;go_wp2_with fail;go_ret;exact ⟨fZ hf.out,bT Bw B7⟩
 have H4:=Lib.hid h1;clear h1;go_wp2_with fail;refine (Yt _ _ _ (HF.out.mono (bT Bw B7))).mono ?_;rintro e w8 ⟨rfl,hb8⟩;have B8:=bT B7 hb8;replace X1:=X1.keep hb8;clear hb8 B7
 try clear aO
 try clear aP
 try clear aS
 try clear aT
 obtain ⟨aO,aP,aS,aT,-,-,-⟩:=X1.aY
 cases h1:p.faces.any qW
 case true =>
  have hf:=Lib.hid (show 2=q by rw [<- Hq.out,if_pos (by rw [O5,h1];simp)]);clear h1;go_wp2_with fail;go_ret;exact ⟨fZ hf.out,bT Bw B8⟩
 have H5:=Lib.hid h1;clear h1;go_wp2_with fail;refine (akw _ p _ (HP.out.mono (bT Bw B8))).mono ?_;rintro e w9 ⟨rfl,sK⟩;have B9:=bT B8 sK;replace X1:=X1.keep sK;clear sK B8
 try clear aO
 try clear aP
 try clear aS
 try clear aT
 obtain ⟨aO,aP,aS,aT,-,-,-⟩:=X1.aY
 cases h1:Iy p
 case false =>
  have hf:=Lib.hid (show 2=q by rw [<- Hq.out,if_pos (by rw [O5,h1];simp)]);clear h1;go_wp2_with fail;go_ret;exact ⟨fZ hf.out,bT Bw B9⟩
 have hq:=Hq.out;rw [if_neg (show ¬ rY p=false by rw [O5,h1,H3.out,H4.out,H5.out];decide)] at hq;replace Hq:=Lib.hid hq;clear hq h1;go_wp2_with fail;refine (akQ _ _ p _ _ (HP.out.mono (bT Bw B9)) (rD.out.mono B9)).mono ?_;rintro e w10 ⟨rfl,yX⟩;have B10:=bT B9 yX;replace X1:=X1.keep yX;clear yX B9
 try clear aO
 try clear aP
 try clear aS
 try clear aT
 obtain ⟨aO,aP,aS,aT,-,-,-⟩:=X1.aY;by_cases h1:yS p (p.nodes.map (·.id))=0
 case neg =>
  have hf:=Lib.hid (show yS p (p.nodes.map (·.id))=q by rw [<- Hq.out,if_neg h1]);generalize yS p (p.nodes.map (·.id))=c at *;go_wp2_with fail;go_ret;exact ⟨fZ hf.out,bT Bw B10⟩
 have hq:=Hq.out;rw [if_pos h1] at hq;replace Hq:=Lib.hid hq;have alX:=Lib.hid (alR p h1);rw [h1];clear hq h1;have D9:Hid (Sound p):=Lib.hid ⟨KX _ H1.out,KX _ H2.out,alX.out⟩;go_wp2_with fail;refine (alK _ p _ (HP.out.mono (bT Bw B10)) fD.out HLen.out (by omega) (alU H3.out) D9.out).mono ?_;rintro e yY ⟨rfl,rE⟩;have B11:=bT B10 rE;clear rE B10 X1 aO aP aS aT
 cases h1:qC p
 case false =>
  have hf:=Lib.hid (show 11=q by rw [<- Hq.out,if_pos h1]);clear h1;go_wp2_with fail;go_ret;exact ⟨fZ hf.out,bT Bw B11⟩
 case true =>
  have hf:=Lib.hid (show 0=q by rw [<- Hq.out,if_neg (by rw [h1];decide)]);clear h1;go_wp2_with fail;go_ret;exact ⟨fZ hf.out,bT Bw B11⟩
structure Valid (p:Pl):Prop where
 lim:lY p=false
 ord:sF p=true
 rng:rY p=true
 dup:Ae (p.nodes.map (·.pt))=false
 ends:p.ah.all (mP p)=true
 sides:Au p=true
 Zb:qC p=true
theorem Ea (p:Pl):mQ p=0↔Valid p:=by
 unfold mQ;constructor
 ·intro h;split at h
  · cases h
  rename_i h1;split at h
  · cases h
  rename_i h2;split at h
  · cases h
  rename_i h3;split at h
  · cases h
  rename_i h4;split at h
  · cases h
  rename_i h5;split at h
  · cases h
  rename_i h6;split at h
  · cases h
  rename_i h7;exact ⟨by simpa using h1,by simpa using h2,by simpa using h3,by simpa using h4,by simpa using h5,by simpa using h6,by simpa using h7⟩
 ·rintro ⟨h1,h2,h3,h4,h5,h6,h7⟩;simp [h1,h2,h3,h4,h5,h6,h7]
section
variable {p:Pl}
theorem Valid.sound (h:Valid p):Sound p:=by
 have ho:=h.ord;unfold sF at ho;rw [Bool.and_eq_true,Bool.and_eq_true] at ho;exact ⟨KX _ ho.1.1,KX _ ho.1.2,List.all_eq_true.1 h.ends⟩
theorem TU {q:Pt} (h:lZ q=true):aU q=true:=by
 simp only [lZ,Bool.and_eq_true,decide_eq_true_eq] at h;rw [xJ];omega
theorem Valid.near (h:Valid p) {q:Pt} (hq:q∈Ad p):aU q=true:=by
 have hr:=h.rng;unfold rY at hr;rw [Bool.and_eq_true] at hr;exact TU (List.all_eq_true.1 hr.2 q hq)
theorem Valid.TV (h:Valid p) {n:Nd} (hn:n∈p.nodes):aU n.pt=true:=h.near (List.mem_append_left _ (List.mem_map_of_mem hn))
theorem Valid.alY (h:Valid p) {a:Ar} (ha:a∈p.ah) {q:Pt} (hq:q∈a.via):aU q=true:=h.near (List.mem_append_right _ (List.mem_flatMap.2 ⟨a,ha,hq⟩))
theorem Sound.AU (hp:Sound p) {a:Ar} (ha:a∈p.ah):∃ n∈p.nodes,n.id=a.fr/\nodeAt p a.fr=n.pt:=by
 obtain ⟨⟨n,hn,e⟩,-⟩:=hp.TK ha;exact ⟨n,hn,e,by rw [<- e,hp.sH hn]⟩
theorem Sound.CS (hp:Sound p) {a:Ar} (ha:a∈p.ah):∃ n∈p.nodes,n.id=a.dst/\nodeAt p a.dst=n.pt:=by
 obtain ⟨-,⟨n,hn,e⟩⟩:=hp.TK ha;exact ⟨n,hn,e,by rw [<- e,hp.sH hn]⟩
theorem Valid.Le (h:Valid p) {a:Ar} (ha:a∈p.ah) {q:Pt} (hq:q∈ak p a):aU q=true:=by
 unfold ak at hq;rcases List.mem_cons.1 hq with rfl | hq
 ·obtain ⟨n,hn,-,e⟩:=h.sound.AU ha;rw [e];exact h.TV hn
 ·rcases List.mem_append.1 hq with hq | hq
  · exact h.alY ha hq
  ·rw [List.mem_singleton] at hq;subst hq;obtain ⟨n,hn,-,e⟩:=h.sound.CS ha;rw [e];exact h.TV hn
end
theorem alZ (a b:Pt):bJ a b=false↔b.x<a.x\/(a.x=b.x/\b.y<=a.y):=by
 rw [<- Bool.not_eq_true,oJ];omega
theorem Zc (a b:Pt):bJ a (lo a b)=false:=by
 rcases DZ a b with ⟨h,-,h'⟩ | ⟨h,-,h'⟩
 · rw [h];exact IB a
 · rw [h];exact rZ h'
theorem aed (a b:Pt):bJ b (lo a b)=false:=by rw [YI];exact Zc b a
theorem Zd (a b:Pt):bJ (hi a b) a=false:=by
 rcases DZ a b with ⟨-,h,h'⟩ | ⟨-,h,h'⟩
 · rw [h];exact h'
 · rw [h];exact IB a
theorem aee (a b:Pt):bJ (hi a b) b=false:=by rw [Tc];exact Zd b a
theorem aef {x y q:Pt} (h1:bJ q x=false) (h2:bJ q y=false):bJ q (hi x y)=false:=by
 rcases DZ x y with ⟨-,h,-⟩ | ⟨-,h,-⟩<;>rw [h]<;>assumption
theorem aeg {x y q:Pt} (h1:bJ x q=false) (h2:bJ y q=false):bJ (lo x y) q=false:=by
 rcases DZ x y with ⟨h,-,-⟩ | ⟨h,-,-⟩<;>rw [h]<;>assumption
theorem aeh {a b c d q:Pt} (h1:q=a\/q=b) (h2:q=c\/q=d):mO a b c d≠0:=by
 have f1:bJ q (lo a b)=false:=by rcases h1 with rfl | rfl;exact Zc _ _;exact aed _ _
 have f2:bJ q (lo c d)=false:=by rcases h2 with rfl | rfl;exact Zc _ _;exact aed _ _
 have g1:bJ (hi a b) q=false:=by rcases h1 with rfl | rfl;exact Zd _ _;exact aee _ _
 have g2:bJ (hi c d) q=false:=by rcases h2 with rfl | rfl;exact Zd _ _;exact aee _ _
 have f:=aef f1 f2;have g:=aeg g1 g2;rw [Ag];generalize hi (lo a b) (lo c d)=x at *;generalize lo (hi a b) (hi c d)=y at *;by_cases hxy:x=y
 · rw [if_pos hxy];omega
 ·rw [if_neg hxy]
  have:bJ x y=true:=by
   rw [alZ] at f g;rw [oJ];have hne:¬ (x.x=y.x/\x.y=y.y):=fun e=>hxy (Pt.ext_iff'.2 e);omega
  rw [if_pos this];omega
theorem Eb {a b c d:Pt} (ha:aU a=true) (hb:aU b=true) (hc:aU c=true) (hd:aU d=true):fE [a,b,c,d]=true:=by simp [fE,ha,hb,hc,hd]
theorem aei {a b c:Pt} (ha:aU a=true) (hb:aU b=true) (hc:aU c=true):iH a b c b≠0:=by
 unfold iH;rw [if_pos (Eb ha hb hc hb)];unfold pV;have e1:aF a b a c=- aF a b c b:=by unfold aF;grind
 have e2:aF a b a b=0:=by unfold aF;grind
 have e3:aF c b c a=aF a b c b:=by unfold aF;grind
 have e4:aF c b c b=0:=by unfold aF;grind
 have e5:aF a c c b=aF a b c b:=by unfold aF;grind
 have e6:aF a c a b=aF a b c b:=by unfold aF;grind
 rw [if_neg (show ¬ (a=b/\c=b/\¬ a=c) from fun h=>h.2.2 (h.1.trans h.2.1.symm)),e1,e2,e3,e4,e5,e6];generalize aF a b c b=n at *;by_cases h0:n=0
 ·rw [if_pos h0,if_pos (by omega)];exact aeh (.inr rfl) (.inr rfl)
 ·rw [if_neg h0];by_cases hn:n<0
  · rw [if_pos hn,if_pos (by omega)];omega
  · rw [if_neg hn,if_pos (by omega)];omega
theorem al0 {a b c:Pt} (ha:aU a=true) (hb:aU b=true) (hc:aU c=true):iH a b c a≠0:=by
 unfold iH;rw [if_pos (Eb ha hb hc ha)];unfold pV;have e1:aF a b a c=- aF a b c a:=by unfold aF;grind
 have e2:aF a b a a=0:=by unfold aF;grind
 have e3:aF c a c a=0:=by unfold aF;grind
 have e4:aF c a c b=- aF a b c a:=by unfold aF;grind
 have e5:aF a c c a=0:=by unfold aF;grind
 have e6:aF a c a b=aF a b c a:=by unfold aF;grind
 rw [if_neg (show ¬ (a=b/\c=a/\¬ a=c) from fun h=>h.2.2 h.2.1.symm),e1,e2,e3,e4,e5,e6];generalize aF a b c a=n at *;by_cases h0:n=0
 ·rw [if_pos h0,if_pos (by omega)];exact aeh (.inl rfl) (.inr rfl)
 ·rw [if_neg h0];by_cases hn:n<0
  · rw [if_pos hn,if_pos (by omega)];omega
  · rw [if_neg hn,if_pos (by omega)];omega
theorem al1 {a b:Pt} (ha:aU a=true) (hb:aU b=true):pU a b b=true:=by
 unfold pU;have e1:aF a b a b=0:=by unfold aF;grind
 have e2:DY a b b b=0:=by unfold DY;grind
 simp [fE,ha,hb,e1,e2]
theorem al2 {a b:Pt} (ha:aU a=true) (hb:aU b=true):pU a b a=true:=by
 unfold pU;have e1:aF a b a a=0:=by unfold aF;grind
 have e2:DY a a b a=0:=by unfold DY;grind
 simp [fE,ha,hb,e1,e2]
def bI (p:Pl) (a:Ar) (k:Nat):Sg:=⟨a,k,(ak p a).length-1,(ak p a).getD k aB,(ak p a).getD (k+1) aB⟩
theorem Lh {p:Pl} {a:Ar} {k:Nat} (hk:k+1<(ak p a).length):bI p a k∈FI a (ak p a) :=
 List.mem_map.2 ⟨k,List.mem_range.2 (by omega),rfl⟩
theorem Gg (p:Pl) (a:Ar) (j:Nat) (hj:j<a.via.length):(ak p a).getD (j+1) aB=a.via[j]:=by
 unfold ak;rw [List.getD_cons_succ,List.getD_eq_getElem?_getD,List.getElem?_append_left hj,List.getElem?_eq_getElem hj];rfl
theorem yZ (p:Pl) (a:Ar):(ak p a).getD 0 aB=nodeAt p a.fr:=rfl
theorem al3 (p:Pl) (a:Ar) (j:Nat) (hj:j<(ak p a).length):(ak p a).getD j aB∈ak p a:=by
 rw [List.getD_eq_getElem?_getD,List.getElem?_eq_getElem hj];exact List.getElem_mem hj
section
variable {p:Pl} (h:Valid p)
include h
theorem Valid.uV:(∀ a∈p.ah,∀ k,k+1<(ak p a).length->Ak p (bI p a k)=true) /\
  (∀ a∈p.ah,∀ k m,k<m->m+1<(ak p a).length->Cj (bI p a k) (bI p a m)=true) /\
  p.ah.Pairwise (fun a b=>∀ k,k+1<(ak p a).length->∀ m,m+1<(ak p b).length->sD p (bI p a k) (bI p b m)=true):=by
 have hp:=h.Zb;unfold qC at hp;rw [TJ] at hp;obtain ⟨h1,h2⟩:=hp;unfold Oy at h1 h2;rw [List.pairwise_flatMap] at h2;refine ⟨fun a ha k hk=>h1 _ (List.mem_flatMap.2 ⟨a,ha,Lh hk⟩),fun a ha k m hkm hm=>?_,?_⟩
 ·have h3:=h2.1 a ha;unfold FI at h3;rw [List.pairwise_map,List.pairwise_iff_getElem] at h3;have h4:=h3 k m (by rw [List.length_range];omega) (by rw [List.length_range];omega) hkm;simp only [List.getElem_range] at h4;unfold Cm at h4;rw [if_pos rfl] at h4;exact h4
 ·have hs:=h.sound.ah;rw [List.pairwise_map] at hs;refine (hs.and h2.2).imp ?_;rintro a b ⟨hlt,h3⟩ k hk m hm;have h4:=h3 _ (Lh hk) _ (Lh hm);unfold Cm at h4;rw [if_neg (show ¬ (bI p a k).arc.id=(bI p b m).arc.id from fun e=>by have e':a.id=b.id:=e;omega)] at h4;exact h4
theorem Valid.bW {a:Ar} (ha:a∈p.ah) {k:Nat} (hk:k<(ak p a).length):aU ((ak p a).getD k aB)=true:=h.Le ha (al3 p a k hk)
theorem Valid.Lj {a:Ar} (ha:a∈p.ah) {k:Nat} (hk:k+1<(ak p a).length) {n:Nd} (hn:n∈p.nodes) (ho:pU (bI p a k).a (bI p a k).b n.pt=true) :
  (k=0/\a.fr=n.id)\/(k=a.via.length/\a.dst=n.id):=by
 have h1:=h.uV.1 a ha k hk;unfold Ak at h1;rw [Bool.and_eq_true,List.all_eq_true] at h1;have h2:=h1.1 n hn;unfold FD at h2;rw [ho] at h2;unfold Ti bI at h2;simp only [Bool.not_true,Bool.or_false,Bool.or_eq_true,Bool.and_eq_true,beq_iff_eq] at h2;have hl:=fM p a;rcases h2 with ⟨h3,h4⟩ | ⟨h3,h4⟩
 · left;exact ⟨by omega,h4⟩
 · right;exact ⟨by omega,h4⟩
theorem Valid.distinct {a:Ar} (ha:a∈p.ah) {k:Nat} (hk:k+1<(ak p a).length):(ak p a).getD k aB≠(ak p a).getD (k+1) aB/\(a.fr=a.dst->4<=(ak p a).length):=by
 have h1:=h.uV.1 a ha k hk;unfold Ak FH bI at h1;simp only [Bool.and_eq_true,Bool.not_eq_true',decide_eq_false_iff_not,Bool.or_eq_true,bne_iff_ne,decide_eq_true_eq] at h1;refine ⟨h1.2.1,fun e=>?_⟩;rcases h1.2.2 with h2 | h2
 · exact absurd e h2
 · omega
theorem Valid.TY {a:Ar} (ha:a∈p.ah) {j:Nat} (hj:j<a.via.length) {n:Nd} (hn:n∈p.nodes):a.via[j]≠n.pt:=by
 intro e;have hl:=fM p a;have hm:=Gg p a j hj;have o1:pU (bI p a j).a (bI p a j).b n.pt=true:=by
  rw [<- e,<- hm];exact al1 (h.bW ha (by omega)) (h.bW ha (by omega))
 have o2:pU (bI p a (j+1)).a (bI p a (j+1)).b n.pt=true:=by
  rw [<- e,<- hm];exact al2 (h.bW ha (by omega)) (h.bW ha (by omega))
 rcases h.Lj ha (by omega) hn o1 with ⟨h1,h2⟩ | ⟨h1,h2⟩
 ·have hd:=(h.distinct ha (k:=j) (by omega)).1;obtain ⟨n',hn',e1,e2⟩:=h.sound.AU ha
  have:nodeAt p a.fr=n.pt:=by rw [h2];exact h.sound.sH hn
  subst h1;rw [yZ,this,hm,e] at hd;exact hd rfl
 · omega
theorem Valid.Ze {a:Ar} (ha:a∈p.ah) {j m:Nat} (hjm:j<m) (hm:m<a.via.length):a.via[j]≠a.via[m]:=by
 intro e;have hl:=fM p a;have e1:=Gg p a j (by omega);have e2:=Gg p a m hm;by_cases hn:m=j+1
 ·subst hn;have:=(h.distinct ha (k:=j+1) (by omega)).1
  rw [e1,e2] at this;exact this e
 ·have h1:=h.uV.2.1 a ha j m hjm (by omega);unfold Cj at h1;have hc:¬ ((bI p a m).i=(bI p a j).i+1\/((bI p a j).i=0/\(bI p a m).i+1=(bI p a m).n/\(bI p a j).arc.fr=(bI p a j).arc.dst)):=by
   unfold bI;simp only [];omega
  rw [if_neg hc] at h1;have h2:iH ((ak p a).getD j aB) ((ak p a).getD (j+1) aB) ((ak p a).getD m aB) ((ak p a).getD (m+1) aB)=0:=by simpa [bI] using h1
  rw [e2,<- e,<- e1] at h2;exact aei (h.bW ha (by omega)) (h.bW ha (by omega)) (h.bW ha (by omega)) h2
theorem Valid.aej:p.ah.Pairwise (fun a b=>∀ x∈a.via,∀ y∈b.via,x≠y):=by
 refine (List.Pairwise.and_mem.1 h.uV.2.2).imp ?_;rintro a b ⟨ha,hb,hj⟩ x hx y hy e;obtain ⟨j,hjl,rfl⟩:=List.mem_iff_getElem.1 hx;obtain ⟨m,hml,rfl⟩:=List.mem_iff_getElem.1 hy;have hla:=fM p a;have hlb:=fM p b;have e1:=Gg p a j hjl;have e2:=Gg p b m hml;have j1:=hj j (by omega) m (by omega);have j2:=hj (j+1) (by omega) m (by omega);unfold sD at j1 j2;have n1:iH (bI p a j).a (bI p a j).b (bI p b m).a (bI p b m).b≠0:=by
  unfold bI;simp only [];rw [e2,<- e,<- e1];exact aei (h.bW ha (by omega)) (h.bW ha (by omega)) (h.bW hb (by omega))
 have n2:iH (bI p a (j+1)).a (bI p a (j+1)).b (bI p b m).a (bI p b m).b≠0:=by
  unfold bI;simp only [];rw [e2,<- e,<- e1];exact al0 (h.bW ha (by omega)) (h.bW ha (by omega)) (h.bW hb (by omega))
 have m1:iH (bI p a j).a (bI p a j).b (bI p b m).a (bI p b m).b=1:=by
  by_cases hh:iH (bI p a j).a (bI p a j).b (bI p b m).a (bI p b m).b=1
  · exact hh
  · rw [if_neg hh] at j1;exact absurd (by simpa using j1) n1
 have m2:iH (bI p a (j+1)).a (bI p a (j+1)).b (bI p b m).a (bI p b m).b=1:=by
  by_cases hh:iH (bI p a (j+1)).a (bI p a (j+1)).b (bI p b m).a (bI p b m).b=1
  · exact hh
  · rw [if_neg hh] at j2;exact absurd (by simpa using j2) n2
 rw [if_pos m1,List.any_eq_true] at j1;rw [if_pos m2,List.any_eq_true] at j2;obtain ⟨n,hn,hn'⟩:=j1;obtain ⟨n',hm,hm'⟩:=j2;unfold Aj at hn' hm';rw [Bool.and_eq_true,Bool.and_eq_true] at hn' hm';have k1:=h.Lj ha (by omega) hn hn'.1.2;have k2:=h.Lj hb (by omega) hn hn'.2;have k3:=h.Lj ha (by omega) hm hm'.1.2;have k4:=h.Lj hb (by omega) hm hm'.2;have hd:=(h.distinct ha (k:=j) (by omega)).2;omega
theorem Valid.nR:(p.ah.flatMap (·.via)).Pairwise (·≠·):=by
 rw [List.pairwise_flatMap];refine ⟨fun a ha=>?_,h.aej⟩;rw [List.pairwise_iff_getElem];intro i j hi hj hij;exact h.Ze ha hij hj
end
theorem count_none {l:List Pt} {q:Pt} (h:q∉l):Ce l q=0:=by
 unfold Ce;rw [List.filter_eq_nil_iff.2 fun x hx=>by simp;rintro rfl;exact h hx];rfl
theorem count_one {l:List Pt} {q:Pt} (h:l.Pairwise (·≠·)) (hq:q∈l):Ce l q=1:=by
 induction l with
 | nil=>cases hq
 | cons a l ih =>
  rw [List.pairwise_cons] at h;by_cases e:a=q
  ·subst e;have hn:a∉l:=fun hm=>h.1 a hm rfl;have:=count_none hn
   unfold Ce at this ⊢;rw [List.filter_cons_of_pos (by simp)];simp only [List.length_cons];omega
  ·have:=ih h.2 (by
    rcases List.mem_cons.1 hq with h' | h'
    · exact absurd h'.symm e
    · exact h')
   unfold Ce at this ⊢;rw [List.filter_cons_of_neg (by simpa using e)];exact this
theorem al4 (l m:List Pt) (q:Pt):Ce (l++m) q=Ce l q+Ce m q:=by
 unfold Ce;rw [List.filter_append,List.length_append]
theorem Valid.count {p:Pl} (h:Valid p) {a:Ar} (ha:a∈p.ah) {j:Nat} (hj:j<a.via.length):Ce (Ad p) a.via[j]=1:=by
 unfold Ad;rw [al4,count_none,count_one h.nR (List.mem_flatMap.2 ⟨a,ha,List.getElem_mem hj⟩)];intro hm;obtain ⟨n,hn,e⟩:=List.mem_map.1 hm;exact h.TY ha hj hn e.symm
theorem al5 {o a b:Pt} (ha:a≠o) (hb:b≠o) (h1:¬ eH o a b) (h2:¬ eH o b a):tw o a b=0/\(bJ o a=true↔bJ o b=true):=by
 have ha':=YN.1 ha;have hb':=YN.1 hb;unfold eH su at h1 h2;have e:tw o a b=(a.x-o.x)*(b.y-o.y)-(a.y-o.y)*(b.x-o.x):=rfl;rw [oJ,oJ,e];generalize hux:a.x-o.x=ux at *;generalize huy:a.y-o.y=uy at *;generalize hvx:b.x-o.x=vx at *;generalize hvy:b.y-o.y=vy at *;rw [Int.mul_comm vx,Int.mul_comm vy] at h2;have hl:kK ux uy↔kK vx vy:=by
  by_cases l1:kK ux uy<;>by_cases l2:kK vx vy<;>simp [l1,l2] at h1 h2 ⊢
 have hz:ux*vy-uy*vx=0:=by
  rcases Int.lt_trichotomy (ux*vy-uy*vx) 0 with h | h | h
  · exact absurd (.inr ⟨hl.symm,by omega⟩) h2
  · exact h
  · exact absurd (.inr ⟨hl,h⟩) h1
 refine ⟨hz,?_⟩;have m1:∀ {a b:Int},0<a->0<b->0<a*b:=Int.mul_pos;have m2:∀ {a b:Int},0<a->b<0->a*b<0:=Int.mul_neg_of_pos_of_neg;have m3:∀ {a b:Int},a<0->0<b->a*b<0:=Int.mul_neg_of_neg_of_pos;have m4:∀ {a b:Int},a<0->b<0->0<a*b:=Int.mul_pos_of_neg_of_neg;unfold kK at hl;have key:(0<ux↔0<vx)/\(ux<0↔vx<0):=by
  rcases Int.lt_trichotomy uy 0 with y1 | y1 | y1
  ·have y2:vy<0:=by
    rcases Int.lt_trichotomy vy 0 with y2 | y2 | y2
    · exact y2
    ·have h3:vx<0:=by omega
     have:=m4 y1 h3
     rw [y2,Int.mul_zero] at hz;omega
    · omega
   rcases Int.lt_trichotomy ux 0 with x1 | x1 | x1<;>rcases Int.lt_trichotomy vx 0 with x2 | x2 | x2
   · omega
   · have:=m4 x1 y2;rw [x2,Int.mul_zero] at hz;omega
   · have h3:=m4 x1 y2;have h4:=m3 y1 x2;omega
   · have:=m4 y1 x2;rw [x1,Int.zero_mul] at hz;omega
   · omega
   · have:=m3 y1 x2;rw [x1,Int.zero_mul] at hz;omega
   · have h3:=m2 x1 y2;have h4:=m4 y1 x2;omega
   · have:=m2 x1 y2;rw [x2,Int.mul_zero] at hz;omega
   · omega
  ·rw [y1,Int.zero_mul] at hz;have hx:ux≠0:=by omega
   have y2:vy=0:=by
    rcases Int.mul_eq_zero.1 (show ux*vy=0 by omega) with h | h
    · exact absurd h hx
    · exact h
   omega
  ·have y2:0<vy:=by
    rcases Int.lt_trichotomy vy 0 with y2 | y2 | y2
    · omega
    ·have h3:0<vx:=by omega
     have:=m1 y1 h3
     rw [y2,Int.mul_zero] at hz;omega
    · exact y2
   rcases Int.lt_trichotomy ux 0 with x1 | x1 | x1<;>rcases Int.lt_trichotomy vx 0 with x2 | x2 | x2
   · omega
   · have:=m3 x1 y2;rw [x2,Int.mul_zero] at hz;omega
   · have h3:=m3 x1 y2;have h4:=m1 y1 x2;omega
   · have:=m2 y1 x2;rw [x1,Int.zero_mul] at hz;omega
   · omega
   · have:=m1 y1 x2;rw [x1,Int.zero_mul] at hz;omega
   · have h3:=m1 x1 y2;have h4:=m2 y1 x2;omega
   · have:=m1 x1 y2;rw [x2,Int.mul_zero] at hz;omega
   · omega
 omega
theorem al6 {o a b:Pt} (ha:a≠o) (hb:b≠o) (h:bJ o a=true↔bJ o b=true):mO o a o b=2:=by
 have tri:∀ q:Pt,q≠o->bJ o q=true\/bJ q o=true:=fun q hq=>by
  cases h1:bJ o q
  ·cases h2:bJ q o
   · exact absurd (KH h2 h1) hq
   · exact .inr rfl
  · exact .inl rfl
 rw [Ag];rcases tri a ha with h1 | h1
 ·have h2:=h.1 h1;have e1:lo o a=o:=by unfold lo;rw [rZ h1];simp
  have e2:lo o b=o:=by unfold lo;rw [rZ h2];simp
  have e3:hi o a=a:=by unfold hi;rw [rZ h1];simp
  have e4:hi o b=b:=by unfold hi;rw [rZ h2];simp
  have e5:hi o o=o:=by unfold hi;rw [IB];simp
  rw [e1,e2,e3,e4,e5];have e6:lo a b=a\/lo a b=b:=by unfold lo;split;exact .inr rfl;exact .inl rfl
  rcases e6 with e6 | e6<;>rw [e6]
  · rw [if_neg (fun e=>ha e.symm),if_pos h1]
  · rw [if_neg (fun e=>hb e.symm),if_pos h2]
 ·have h2:bJ b o=true:=by
   rcases tri b hb with h3 | h3
   · rw [rZ (h.2 h3)] at h1;cases h1
   · exact h3
  have e1:lo o a=a:=by unfold lo;rw [h1];simp
  have e2:lo o b=b:=by unfold lo;rw [h2];simp
  have e3:hi o a=o:=by unfold hi;rw [h1];simp
  have e4:hi o b=o:=by unfold hi;rw [h2];simp
  have e5:lo o o=o:=by unfold lo;rw [IB];simp
  rw [e1,e2,e3,e4,e5];have e6:hi a b=a\/hi a b=b:=by unfold hi;split;exact .inl rfl;exact .inr rfl
  rcases e6 with e6 | e6<;>rw [e6]
  · rw [if_neg ha,if_pos h1]
  · rw [if_neg hb,if_pos h2]
theorem aek {o a b:Pt} (ho:aU o=true) (hna:aU a=true) (hnb:aU b=true) (ha:a≠o) (hb:b≠o) (h1:¬ eH o a b) (h2:¬ eH o b a) :
  iH o a o b=2/\iH a o o b=2/\iH o a b o=2/\iH a o b o=2:=by
 obtain ⟨hc,hbf⟩:=al5 ha hb h1 h2;have hs:=al6 ha hb hbf;have c1:mO a o o b=2:=by rw [<- hs];exact IC a o o b
 have c2:mO o a b o=2:=by rw [Ci,IC,Ci];exact hs
 have c3:mO a o b o=2:=by rw [Ci,IC,Ci];exact c1
 unfold tw at hc;unfold iH pV;refine ⟨?_,?_,?_,?_⟩
 · rw [if_pos (Eb ho hna ho hnb),if_neg (fun e=>ha e.1.symm),if_pos (by unfold aF;grind),if_pos ⟨by unfold aF;grind,by unfold aF;grind,by unfold aF;grind,by unfold aF;grind⟩];exact hs
 · rw [if_pos (Eb hna ho ho hnb),if_neg (fun e=>ha e.1),if_pos (by unfold aF;grind),if_pos ⟨by unfold aF;grind,by unfold aF;grind,by unfold aF;grind,by unfold aF;grind⟩];exact c1
 · rw [if_pos (Eb ho hna hnb ho),if_neg (fun e=>ha e.1.symm),if_pos (by unfold aF;grind),if_pos ⟨by unfold aF;grind,by unfold aF;grind,by unfold aF;grind,by unfold aF;grind⟩];exact c2
 · rw [if_pos (Eb hna ho hnb ho),if_neg (fun e=>ha e.1),if_pos (by unfold aF;grind),if_pos ⟨by unfold aF;grind,by unfold aF;grind,by unfold aF;grind,by unfold aF;grind⟩];exact c3
section
variable {α:Type}
theorem Ll {lt:α->α->Bool}:∀ {l m:List α},l.Perm m->l.Pairwise (fun a b=>lt b a=false)->m.Pairwise (fun a b=>lt b a=false)->(∀ a∈l,∀ b∈l,lt a b=false->lt b a=false->a=b)->l=m
 | [],m,hp,_,_,_=>(List.nil_perm.1 hp).symm
 | a::l,[],hp,_,_,_=>by have:=hp.length_eq;simp at this
 | a::l,b::m,hp,h1,h2,ht=>by
  have h1':=List.pairwise_cons.1 h1;have h2':=List.pairwise_cons.1 h2;have hab:a=b:=by
   have ha:a∈b::m:=hp.subset (List.mem_cons_self);have hb:b∈a::l:=hp.symm.subset (List.mem_cons_self);rcases List.mem_cons.1 ha with e | ha
   · exact e
   rcases List.mem_cons.1 hb with e | hb
   · exact e.symm
   exact ht a List.mem_cons_self b (List.mem_cons_of_mem _ hb) (h2'.1 a ha) (h1'.1 b hb)
  subst hab;rw [Ll (List.Perm.cons_inv hp) h1'.2 h2'.2 (fun x hx y hy=>ht x (List.mem_cons_of_mem _ hx) y (List.mem_cons_of_mem _ hy))]
theorem Lm:∀ {l m:List Int},l.Nodup->(∀ x∈l,x∈m)->l.length<=m.length
 | [],m,_,_=>Nat.zero_le _
 | a::l,m,h,hs=>by
  have h':=List.nodup_cons.1 h;have ha:=hs a List.mem_cons_self;have:=Lm (m:=m.erase a) h'.2 (fun x hx=>(List.mem_erase_of_ne (fun e=>h'.1 (by rw [<- e];exact hx))).2 (hs x (List.mem_cons_of_mem _ hx)))
  rw [List.length_erase_of_mem ha] at this;have hp:0<m.length:=List.length_pos_of_mem ha;simp only [List.length_cons];omega
def iter (f:Int->Int) (x:Int):Nat->List Int
 | 0=>[]
 | n+1=>x::iter f (f x) n
def pw (f:Int->Int) (x:Int):Nat->Int
 | 0=>x
 | n+1=>f (pw f x n)
theorem ael (f:Int->Int) (x:Int) (n:Nat):pw f (f x) n=pw f x (n+1):=by
 induction n with
 | zero=>rfl
 | succ n ih=>rw [pw,ih];rfl
theorem CU (f:Int->Int) (x:Int) (n:Nat):(iter f x n).length=n:=by
 induction n generalizing x with
 | zero=>rfl
 | succ n ih=>simp [iter,ih]
theorem Lp (f:Int->Int) (x:Int) (n k:Nat) (hk:k<(iter f x n).length):(iter f x n)[k]=pw f x k:=by
 induction n generalizing x k with
 | zero=>simp [iter] at hk
 | succ n ih =>
  cases k with
  | zero=>rfl
  | succ k =>
   simp only [iter,List.getElem_cons_succ];rw [ih (f x) k (by simpa [iter] using hk),ael]
theorem aem (f:Int->Int) (x:Int) (n:Nat):iter f x (n+1)=iter f x n++[pw f x n]:=by
 induction n generalizing x with
 | zero=>rfl
 | succ n ih =>
  rw [iter,ih (f x),ael];rfl
variable {f:Int->Int} {D:List Int} (hD:∀ x∈D,f x∈D) (hi:∀ x∈D,∀ y∈D,f x=f y->x=y)
include hD in
theorem AV {x:Int} (hx:x∈D) (n:Nat):pw f x n∈D:=by
 induction n with
 | zero=>exact hx
 | succ n ih=>exact hD _ ih
include hD hi in
theorem aen {x:Int} (hx:x∈D) {i j:Nat} (h:pw f x i=pw f x (i+j)):pw f x j=x:=by
 induction i with
 | zero=>rw [Nat.zero_add] at h;exact h.symm
 | succ i ih =>
  refine ih (hi _ (AV hD hx i) _ (AV hD hx (i+j)) ?_);rw [show i+1+j=(i+j)+1 by omega] at h;exact h
theorem aeo (f:Int->Int) (x:Int) (n:Nat):(iter f x n).Nodup\/∃ i j,0<j/\i+j<n/\pw f x i=pw f x (i+j):=by
 induction n with
 | zero=>exact .inl List.nodup_nil
 | succ n ih =>
  rcases ih with h | ⟨i,j,h1,h2,h3⟩
  ·by_cases hm:pw f x n∈iter f x n
   ·right;obtain ⟨k,hk,e⟩:=List.mem_iff_getElem.1 hm;rw [Lp] at e;rw [CU] at hk;exact ⟨k,n-k,by omega,by omega,by rw [e,show k+(n-k)=n by omega]⟩
   ·left;rw [aem,List.nodup_append];refine ⟨h,by simp,fun a ha b hb=>?_⟩;rw [List.mem_singleton] at hb;subst hb;exact fun e=>hm (e ▸ ha)
  · exact .inr ⟨i,j,h1,by omega,h3⟩
include hD hi in
theorem returns {x:Int} (hx:x∈D):∃ j,0<j/\j<=D.length/\pw f x j=x:=by
 rcases aeo f x (D.length+1) with h | ⟨i,j,h1,h2,h3⟩
 ·have:=Lm h (fun y hy=>by
   obtain ⟨k,hk,rfl⟩:=List.mem_iff_getElem.1 hy;rw [Lp];exact AV hD hx k)
  rw [CU] at this;omega
 · exact ⟨j,h1,by omega,aen hD hi hx h3⟩
def per (f:Int->Int) (x:Int):Nat->Nat->Nat
 | k,0=>k
 | k,n+1=>if pw f x k=x then k else per f x (k+1) n
theorem al7 (f:Int->Int) (x:Int) (k n:Nat):k<=per f x k n/\∀ j,k<=j->j<per f x k n->pw f x j≠x:=by
 induction n generalizing k with
 | zero=>exact ⟨Nat.le_refl _,fun j h1 h2=>by simp only [per] at h2;omega⟩
 | succ n ih =>
  unfold per;split
  · exact ⟨Nat.le_refl _,fun j h1 h2=>by omega⟩
  ·rename_i hne;obtain ⟨h1,h2⟩:=ih (k+1);refine ⟨by omega,fun j hj hj2=>?_⟩;by_cases e:j=k
   · subst e;exact hne
   · exact h2 j (by omega) hj2
theorem al8 (f:Int->Int) (x:Int) (k n:Nat) (h:∃ j,k<=j/\j<=k+n/\pw f x j=x):pw f x (per f x k n)=x/\per f x k n<=k+n:=by
 induction n generalizing k with
 | zero =>
  obtain ⟨j,h1,h2,h3⟩:=h
  have:j=k:=by omega
  subst this;exact ⟨h3,Nat.le_refl _⟩
 | succ n ih =>
  unfold per;split
  · rename_i e;exact ⟨e,by omega⟩
  ·rename_i hne;obtain ⟨j,h1,h2,h3⟩:=h;have:=ih (k+1) ⟨j,by
    by_cases e:j=k
    · subst e;exact absurd h3 hne
    · omega,by omega,h3⟩
   exact ⟨this.1,by omega⟩
def oZ (f:Int->Int) (D:List Int) (x:Int):Nat:=per f x 1 D.length
def mW (f:Int->Int) (D:List Int) (x:Int):List Int:=iter f x (oZ f D x)
include hD hi in
theorem Ec {x:Int} (hx:x∈D):0<oZ f D x/\oZ f D x<=D.length+1/\pw f x (oZ f D x)=x/\(∀ j,0<j->j<oZ f D x->pw f x j≠x)/\(mW f D x).Nodup/\(mW f D x).length=oZ f D x:=by
 obtain ⟨j,h1,h2,h3⟩:=returns hD hi hx;obtain ⟨a1,a2⟩:=al7 f x 1 D.length;obtain ⟨b1,b2⟩:=al8 f x 1 D.length ⟨j,h1,by omega,h3⟩;refine ⟨a1,by show per f x 1 D.length<=_;omega,b1,fun j h1 h2=>a2 j h1 h2,?_,CU _ _ _⟩;rcases aeo f x (oZ f D x) with h | ⟨i,j,c1,c2,c3⟩
 · exact h
 · exact absurd (aen hD hi hx c3) (a2 j c1 (by unfold oZ at c2;omega))
theorem vZ {f:Int->Int} {x y:Int} {n:Nat}:y∈iter f x n↔∃ k,k<n/\pw f x k=y:=by
 rw [List.mem_iff_getElem];constructor
 ·rintro ⟨k,hk,e⟩;rw [Lp] at e;rw [CU] at hk;exact ⟨k,hk,e⟩
 ·rintro ⟨k,hk,e⟩;exact ⟨k,by rw [CU];exact hk,by rw [Lp];exact e⟩
include hD hi in
theorem Zf {x y:Int} (hx:x∈D):y∈D->(f y∈mW f D x↔y∈mW f D x):=by
 intro hy;obtain ⟨h1,-,h3,-,-,-⟩:=Ec hD hi hx;unfold mW;rw [vZ,vZ];constructor
 ·rintro ⟨k,hk,e⟩
  cases k with
  | zero =>
   refine ⟨oZ f D x-1,by omega,hi _ (AV hD hx _) _ hy ?_⟩
   have:pw f x (oZ f D x-1+1)=x:=by rw [Nat.sub_add_cancel h1];exact h3
   rw [pw] at this;rw [this];exact e
  | succ k=>exact ⟨k,by omega,hi _ (AV hD hx _) _ hy e⟩
 ·rintro ⟨k,hk,rfl⟩;by_cases e:k+1=oZ f D x
  ·refine ⟨0,h1,?_⟩;have h4:pw f x (k+1)=x:=by rw [e];exact h3
   exact h4.symm
  · exact ⟨k+1,by omega,rfl⟩
end
section
def xR (f:Int->Int) (D:List Int) (acc:List (List Int)) (d:Int):List (List Int):=if d∈acc.flatten then acc else acc++[mW f D d]
def Zg (f:Int->Int) (D L:List Int):List (List Int):=L.foldl (xR f D) []
variable {f:Int->Int} {D:List Int}
theorem aep {x:Int} (h:0<oZ f D x):x∈mW f D x:=vZ.2 ⟨0,h,rfl⟩
theorem Zh (hD:∀ x∈D,f x∈D) {x y:Int} (hx:x∈D) (hy:y∈mW f D x):y∈D:=by
 obtain ⟨k,-,rfl⟩:=vZ.1 hy;exact AV hD hx k
structure rF (f:Int->Int) (D P:List Int) (acc:List (List Int)):Prop where
 O6:∀ l∈acc,∃ d∈P,l=mW f D d/\∀ e∈l,e∈P->d<=e
 covers:∀ x∈P,x∈acc.flatten
 nodup:acc.flatten.Nodup
 closed:∀ y∈D,f y∈acc.flatten↔y∈acc.flatten
theorem rF.back {P:List Int} {acc:List (List Int)} (h:rF f D P acc) (hD:∀ x∈D,f x∈D) {x:Int} (hx:x∈D) (k:Nat):pw f x k∈acc.flatten↔x∈acc.flatten:=by
 induction k with
 | zero=>exact Iff.rfl
 | succ k ih=>exact (h.closed _ (AV hD hx k)).trans ih
theorem rF.nil (f:Int->Int) (D:List Int):rF f D [] []:=⟨fun l h=>(by cases h),fun x h=>(by cases h),List.nodup_nil,fun y _=>⟨fun h=>(by cases h),fun h=>(by cases h)⟩⟩
theorem rF.apart {P:List Int} {acc:List (List Int)} (h:rF f D P acc) (hD:∀ x∈D,f x∈D) {d:Int} (hd:d∈D) (hm:d∉acc.flatten) {y:Int} (hy:y∈mW f D d):y∉acc.flatten:=by
 obtain ⟨k,-,rfl⟩:=vZ.1 hy;exact fun e=>hm ((h.back hD hd k).1 e)
theorem rF.step {P:List Int} {acc:List (List Int)} (h:rF f D P acc) (hD:∀ x∈D,f x∈D) (hi:∀ x∈D,∀ y∈D,f x=f y->x=y) {d:Int} (hd:d∈D) (hlt:∀ x∈P,x<d):rF f D (P++[d]) (xR f D acc d):=by
 unfold xR;by_cases hm:d∈acc.flatten
 ·rw [if_pos hm];refine ⟨fun l hl=>?_,fun x hx=>?_,h.nodup,h.closed⟩
  ·obtain ⟨d',h1,h2,h3⟩:=h.O6 l hl;refine ⟨d',List.mem_append_left _ h1,h2,fun e he hp=>?_⟩;rcases List.mem_append.1 hp with hp | hp
   · exact h3 e he hp
   · rw [List.mem_singleton] at hp;subst hp;exact Int.le_of_lt (hlt _ h1)
  ·rcases List.mem_append.1 hx with hx | hx
   · exact h.covers x hx
   · rw [List.mem_singleton] at hx;subst hx;exact hm
 ·rw [if_neg hm];obtain ⟨o1,-,-,-,o5,-⟩:=Ec hD hi hd;have hfl:(acc++[mW f D d]).flatten=acc.flatten++mW f D d:=by simp
  refine ⟨fun l hl=>?_,fun x hx=>?_,?_,fun y hy=>?_⟩
  ·rcases List.mem_append.1 hl with hl | hl
   ·obtain ⟨d',h1,h2,h3⟩:=h.O6 l hl;refine ⟨d',List.mem_append_left _ h1,h2,fun e he hp=>?_⟩;rcases List.mem_append.1 hp with hp | hp
    · exact h3 e he hp
    · rw [List.mem_singleton] at hp;subst hp;exact Int.le_of_lt (hlt _ h1)
   ·rw [List.mem_singleton] at hl;refine ⟨d,List.mem_append_right _ (List.mem_singleton.2 rfl),hl,fun e he hp=>?_⟩;subst hl;rcases List.mem_append.1 hp with hp | hp
    · exact absurd (h.covers e hp) (h.apart hD hd hm he)
    · rw [List.mem_singleton] at hp;exact Int.le_of_eq hp.symm
  ·rw [hfl];rcases List.mem_append.1 hx with hx | hx
   · exact List.mem_append_left _ (h.covers x hx)
   · rw [List.mem_singleton] at hx;subst hx;exact List.mem_append_right _ (aep o1)
  ·rw [hfl,List.nodup_append];exact ⟨h.nodup,o5,fun a ha b hb e=>h.apart hD hd hm hb (e ▸ ha)⟩
  · rw [hfl,List.mem_append,List.mem_append,h.closed y hy,Zf hD hi hd hy]
theorem Zi (hD:∀ x∈D,f x∈D) (hi:∀ x∈D,∀ y∈D,f x=f y->x=y):∀ (L P:List Int) (acc:List (List Int)),rF f D P acc->(∀ x∈L,x∈D)->(P++L).Pairwise (· < ·)->rF f D (P++L) (L.foldl (xR f D) acc)
 | [],P,acc,h,_,_=>by rw [List.append_nil];exact h
 | d::L,P,acc,h,hs,hp=>by
  have hp':=List.pairwise_append.1 hp;have:=Zi hD hi L (P++[d]) _ (h.step hD hi (hs d List.mem_cons_self) (fun x hx=>hp'.2.2 x hx d List.mem_cons_self)) (fun x hx=>hs x (List.mem_cons_of_mem _ hx)) (by rw [List.append_assoc];exact hp)
  rw [List.append_assoc] at this;exact this
theorem al9 (hD:∀ x∈D,f x∈D) (hi:∀ x∈D,∀ y∈D,f x=f y->x=y) (hs:D.Pairwise (· < ·)):rF f D D (Zg f D D):=by
 have:=Zi hD hi D [] [] (rF.nil f D) (fun x hx=>hx) hs
 exact this
theorem rF.perm {acc:List (List Int)} (h:rF f D D acc) (hD:∀ x∈D,f x∈D) (hs:D.Nodup):acc.flatten.Perm D:=by
 refine (List.perm_ext_iff_of_nodup h.nodup hs).2 fun x=>⟨fun hx=>?_,h.covers x⟩;obtain ⟨l,hl,hx⟩:=List.mem_flatten.1 hx;obtain ⟨d,h1,h2,-⟩:=h.O6 l hl;subst h2;exact Zh hD h1 hx
end
end Go.Proofs.YtialfdomhoojiaaGreat
