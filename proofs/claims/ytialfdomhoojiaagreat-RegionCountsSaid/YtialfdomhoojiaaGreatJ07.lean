import Derived.Test.YtialfdomhoojiaaGreatPlanar
import Derived.Test.YtialfdomhoojiaaGreatJ03
import Derived.Test.YtialfdomhoojiaaGreatGB
set_option linter.unusedSimpArgs false
set_option linter.unusedVariables false
namespace Go.Proofs.YtialfdomhoojiaaGreat
open Go.RowKit
theorem akG (p:Pl) (a:Ar):hasB (p.nodes.map (·.id)) a=qZ p a:=by
 have h:∀ id:Int,(p.nodes.map (·.id)).any (fun y=>y == id)=(mJ p.nodes id).isSome:=fun id=>by
  unfold mJ;rw [List.any_map,Bool.eq_iff_iff,List.any_eq_true,List.find?_isSome];rfl
 unfold hasB qZ;rw [h,h]
theorem adh (p:Pl):yj p (p.nodes.map (·.id))=if AB (p.nodes.map (·.pt))=true then 8 else if p.ah.all (qZ p)=false then 7 else if GK p=false then 12 else 0:=by
 unfold yj
 have:hasB (p.nodes.map (·.id))=qZ p:=funext fun a=>akG p a
 rw [this]
theorem akH (p:Pl) (h:nN p=false):oH p=if y7 p=false then 10 else if wQ p=false then 2 else if yj p (p.nodes.map (·.id))=0 then (if sJ p=false then 11 else 0) else yj p (p.nodes.map (·.id)):=by
 unfold oH;rw [h,adh];rw [if_neg (show ¬ false=true by decide)];split
 · rfl
 split
 · rfl
 split
 · rfl
 split
 · rfl
 split
 · rfl
 · rfl
theorem akI (p:Pl) (h:yj p (p.nodes.map (·.id))=0):∀ a∈p.ah,qZ p a=true:=by
 rw [adh] at h
 cases h2:p.ah.all (qZ p)
 ·rw [h2] at h;split at h
  · omega
  · simp at h
 · exact List.all_eq_true.1 h2
theorem akJ (p:Pl):Gx p=(Az p).all qL:=by
 unfold Gx Az;have h:∀ l:List Pt,(!l.any nP)=l.all qL:=fun l=>by
  induction l with
  | nil=>rfl
  | cons a l ih=>rw [List.any_cons,List.all_cons,Bool.not_or,ih,ajn,Bool.not_not]
 rw [List.all_append,List.all_flatMap,List.all_map];have h1:(!p.nodes.any fun n=>nP n.pt)=p.nodes.all (qL ∘ fun n=>n.pt):=by
  have:=h (p.nodes.map (·.pt))
  rw [List.any_map,List.all_map] at this;exact this
 have h2:(!p.ah.any fun a=>a.via.any nP)=p.ah.all fun a=>a.via.all qL:=by
  rw [List.not_any_eq_all_not];congr 1
  funext a
  exact h a.via
 rw [h1,h2]
theorem NK (p:Pl):wQ p=(!(p.nodes.map (·.id)).any qK && !(p.ah.map (·.id)).any qK && !p.faces.any qK && Gx p):=by
 unfold wQ;rw [akJ,List.any_append,List.any_append,Bool.not_or,Bool.not_or]
theorem akK {α:Type} {l:List α} {q:α->Bool} (h:l.any q=false):∀ x∈l,q x=false:=fun x hx=>by
 rw [List.any_eq_false] at h;have:=h x hx
 simpa using this
theorem akL {l:List Nd} (h:(l.map (·.id)).any qK=false):∀ n∈l,dP n.id:=fun n hn=>by
 have:=akK h n.id (List.mem_map_of_mem hn)
 simp only [qK,Bool.or_eq_false_iff,decide_eq_false_iff_not] at this;exact kQ (by omega) (by omega)
theorem akM {p:Pl} (h:nN p=false):(p.ah.flatMap (fD p)).length<=2097152:=by
 obtain ⟨h1,h2,h3,h4,h5⟩:=QY h;have hl:=QX p.ah (fD p) 65 (fun a ha=>by
  simp only [fD,List.length_map,List.length_range];unfold pathOf
  cases hb:findAr p.ah a.id with
  | none=>simp
  | some b =>
   simp only [];split
   ·have:=h1 b (WE hb)
    simp only [Option.getD_some,fJ];omega
   · simp)
 omega
set_option maxRecDepth 100000 in
set_option maxHeartbeats 8000000 in
theorem adi (v:Value) (p:Pl) (w:World) (h:dS w v p) :
  Calls Tryz.prog 115 #[v] w fun e w'=>e=.returned (.int .i64 (oH p))/\Below w.heap.size w w':=by
 have HP:=Lib.hid h;obtain ⟨_,_,_,al,rfl,hpa,⟨An,cn,rfl,hn1,hn2,-⟩,⟨⟨Aa,ca,rfl,ha1,ha2,jV⟩,hV⟩,hF⟩:=h;have HF:=Lib.hid hF;obtain ⟨Af,cf,rfl,hf1,hf2,-⟩:=hF;unfold maxLen at hn2 ha2 hf2;have HV:=Lib.hid hV;clear hV;have mM:=Lib.hid jV;clear jV;obtain ⟨q,hq⟩:∃ q,oH p=q:=⟨_,rfl⟩;rw [hq];have hq2:=hq;unfold oH at hq;have hbig:256<p.nodes.length\/256<al.length\/64<p.faces.length->3=q:=fun hh=>by
  rw [<- hq,if_pos];unfold nN;rw [hpa,List.length_map];simp only [Bool.or_eq_true,decide_eq_true_eq];omega
 have wW:∀ k (hk:k<al.length),64<al[k].1.via.length->3=q:=fun k hk hh=>by
  rw [<- hq,if_pos];unfold nN;rw [hpa,List.any_map];have:=Gv al ((fun a=>decide (64<a.via.length)) ∘ fun x=>x.1) k hk (by simpa using hh)
  rw [this];rfl
 have hsmall:¬ 256<p.nodes.length->¬ 256<al.length->¬ 64<p.faces.length->(∀ k (hk:k<al.length),¬ 64<al[k].1.via.length)->nN p=false:=fun h1 h2 h3 h4=>by
  unfold nN;rw [hpa,List.length_map,List.any_map];have:=Gw al ((fun a=>decide (64<a.via.length)) ∘ fun x=>x.1) (fun j hj=>by have:=h4 j hj;simpa using this)
  rw [this,decide_eq_false h1,decide_eq_false h2,decide_eq_false h3];rfl
 have Hq:=Lib.hid hq2;have G8:=Lib.hid hbig;have adk:=Lib.hid wW;have adl:=Lib.hid hsmall;have Hpa:=Lib.hid hpa;clear hq hq2 hbig wW hsmall hpa;go_enter Tryz.func115,Tryz.ntmps115;by_cases g1:256<p.nodes.length
 ·have hf:=Lib.hid (G8.out (.inl g1));go_wp2_with fail;go_ret;exact ⟨fA hf.out,bA (bR w) _⟩
 by_cases g2:256<al.length
 ·have hf:=Lib.hid (G8.out (.inr (.inl g2)));go_wp2_with fail;go_ret;exact ⟨fA hf.out,bA (bR w) _⟩
 by_cases g3:64<p.faces.length
 ·have hf:=Lib.hid (G8.out (.inr (.inr g3)));go_wp2_with fail;go_ret;exact ⟨fA hf.out,bA (bR w) _⟩
 go_wp2_with fail;obtain ⟨W1,hW1⟩:∃ W1:World,W1=w.alloc (.cells #[.slice An p.nodes.length cn,.slice Aa al.length ca,.slice Af p.faces.length cf] 26):=⟨_,rfl⟩;have HB1:=Lib.hid (show Below w.heap.size w W1 by rw [hW1];exact bA (bR w) _);have eH:Hid (aj W1 w.heap.size 26 #[.slice An p.nodes.length cn,.slice Aa al.length ca,.slice Af p.faces.length cf]):=Lib.hid (by rw [hW1];exact aj.made rfl _ _);rw [<- hW1];clear hW1;go_loopw [26] (fun u wr=>∃ k:Nat,k<=al.length/\u=.int .i64 k/\Below W1.heap.size W1 wr/\∀ j (hj:j<al.length),j<k->¬ 64<al[j].1.via.length) (fun u _=>al.length-(intOf u).toNat)
 case atStart => exact ⟨0,Nat.zero_le _,rfl,bR W1,fun _ _ h=>by omega⟩
 case round =>
 obtain ⟨k,hk,rfl,hb,hno⟩:=hrel;have Hb:=Lib.hid hb;have Hno:=Lib.hid hno;have X1:=eH.out.keep hb;clear hb hno;obtain ⟨aI,aJ,aK,aP,-,-,-⟩:=X1.bC;by_cases hlt:k<al.length
 case pos =>
  obtain ⟨b,o,rfl,hlb,c0,c1,c2,c3,c4,c5⟩:=(mM.out.mono (bT HB1.out Hb.out)).ar hlt;obtain ⟨Av,cv,hv,hv1,hv2,-⟩:=HV.out k hlt;unfold maxLen at hv2;rw [hv] at c3;clear hv;by_cases hbig:64<al[k].1.via.length
  ·have hf:=Lib.hid (adk.out k hlt hbig);go_wp2_with fail;go_ret;exact ⟨fA hf.out,bT HB1.out (bA Hb.out _)⟩
  ·have hb':=Lib.hid hbig;go_wp2_with fail;go_roundw
   case rel => exact ⟨k+1,by omega,by go_num,bA Hb.out _,all_succ (p:=fun a=>¬ 64<a.1.via.length) Hno.out hlt hb'.out⟩
   case measure => simp [intOf];omega
 case neg =>
 have hlim:=adl.out g1 g2 g3 (fun j hj=>Hno.out j hj (by omega));have hlen:=akM hlim;have hq:=Hq.out;rw [akH p hlim] at hq;have atf:=Lib.hid hlim;have HLen:=Lib.hid hlen;have hsh:Short p:=fun a ha=>by have:=(QY hlim).1 a ha;omega
 have eu:=Lib.hid hsh;replace Hq:=Lib.hid hq;have akN:p.ah.length<=4096:=by rw [Hpa.out,List.length_map];omega
 clear hlim hlen hsh hq G8 adk adl HV mM Hno;have Bw:=bT HB1.out Hb.out;clear Hb;go_wp2_with fail;refine (ajq _ p _ (HP.out.mono Bw) (by omega) akN).mono ?_;rintro e w2 ⟨v2,u2,rfl,hb2,ho1,ho2⟩;have lS:=Lib.hid (Own.sl ho1);have fM:=Lib.hid (Own.sl ho2);replace Bw:=bT Bw hb2;replace X1:=X1.keep hb2;clear hb2 ho1 ho2
 try clear aI
 try clear aJ
 try clear aK
 try clear aP
 obtain ⟨aI,aJ,aK,aP,-,-,-⟩:=X1.bC;obtain ⟨wz,rfl⟩:∃ wz:World,wz=w2:=⟨_,rfl⟩;go_wp2_with fail;refine (Wx _ _ _ lS.out).mono ?_;rintro e w3 ⟨rfl,hb3⟩;have B3:=hb3;replace X1:=X1.keep hb3;clear hb3
 try clear aI
 try clear aJ
 try clear aK
 try clear aP
 obtain ⟨aI,aJ,aK,aP,-,-,-⟩:=X1.bC
 cases h1:uU (p.nodes.map (·.id))
 case false =>
  have hf:=Lib.hid (show 10=q by rw [<- Hq.out,if_pos (by simp [y7,h1])]);clear h1;go_wp2_with fail;go_ret;exact ⟨fA hf.out,bT Bw B3⟩
 have H1:=Lib.hid h1;clear h1;go_wp2_with fail;refine (Wx _ _ _ (fM.out.mono B3)).mono ?_;rintro e w4 ⟨rfl,hb4⟩;have B4:=bT B3 hb4;replace X1:=X1.keep hb4;clear hb4 B3
 try clear aI
 try clear aJ
 try clear aK
 try clear aP
 obtain ⟨aI,aJ,aK,aP,-,-,-⟩:=X1.bC
 cases h1:uU (p.ah.map (·.id))
 case false =>
  have hf:=Lib.hid (show 10=q by rw [<- Hq.out,if_pos (by simp [y7,h1])]);clear h1;go_wp2_with fail;go_ret;exact ⟨fA hf.out,bT Bw B4⟩
 have H2:=Lib.hid h1;clear h1;go_wp2_with fail;refine (Wx _ _ _ (HF.out.mono (bT Bw B4))).mono ?_;rintro e w5 ⟨rfl,hb5⟩;have B5:=bT B4 hb5;replace X1:=X1.keep hb5;clear hb5 B4
 try clear aI
 try clear aJ
 try clear aK
 try clear aP
 obtain ⟨aI,aJ,aK,aP,-,-,-⟩:=X1.bC
 cases h1:uU p.faces
 case false =>
  have hf:=Lib.hid (show 10=q by rw [<- Hq.out,if_pos (by simp [y7,h1])]);clear h1;go_wp2_with fail;go_ret;exact ⟨fA hf.out,bT Bw B5⟩
 have hq:=Hq.out;rw [if_neg (show ¬ y7 p=false by simp [y7,h1,H1.out,H2.out])] at hq;replace Hq:=Lib.hid hq;clear hq h1;go_wp2_with fail;refine (WA _ _ _ (lS.out.mono B5)).mono ?_;rintro e w6 ⟨rfl,hb6⟩;have B6:=bT B5 hb6;replace X1:=X1.keep hb6;clear hb6 B5
 try clear aI
 try clear aJ
 try clear aK
 try clear aP
 obtain ⟨aI,aJ,aK,aP,-,-,-⟩:=X1.bC
 cases h1:(p.nodes.map (·.id)).any qK
 case true =>
  have hf:=Lib.hid (show 2=q by rw [<- Hq.out,if_pos (by rw [NK,h1];rfl)]);clear h1;go_wp2_with fail;go_ret;exact ⟨fA hf.out,bT Bw B6⟩
 have H3:=Lib.hid h1;clear h1;go_wp2_with fail;refine (WA _ _ _ (fM.out.mono B6)).mono ?_;rintro e w7 ⟨rfl,hb7⟩;have B7:=bT B6 hb7;replace X1:=X1.keep hb7;clear hb7 B6
 try clear aI
 try clear aJ
 try clear aK
 try clear aP
 obtain ⟨aI,aJ,aK,aP,-,-,-⟩:=X1.bC
 cases h1:(p.ah.map (·.id)).any qK
 case true =>
  have hf:=Lib.hid (show 2=q by rw [<- Hq.out,if_pos (by rw [NK,h1];simp)]);clear h1;go_wp2_with fail;go_ret;exact ⟨fA hf.out,bT Bw B7⟩
 have H4:=Lib.hid h1;clear h1;go_wp2_with fail;refine (WA _ _ _ (HF.out.mono (bT Bw B7))).mono ?_;rintro e w8 ⟨rfl,hb8⟩;have B8:=bT B7 hb8;replace X1:=X1.keep hb8;clear hb8 B7
 try clear aI
 try clear aJ
 try clear aK
 try clear aP
 obtain ⟨aI,aJ,aK,aP,-,-,-⟩:=X1.bC
 cases h1:p.faces.any qK
 case true =>
  have hf:=Lib.hid (show 2=q by rw [<- Hq.out,if_pos (by rw [NK,h1];simp)]);clear h1;go_wp2_with fail;go_ret;exact ⟨fA hf.out,bT Bw B8⟩
 have H5:=Lib.hid h1;clear h1;go_wp2_with fail;refine (ajo _ p _ (HP.out.mono (bT Bw B8))).mono ?_;rintro e w9 ⟨rfl,CO⟩;have B9:=bT B8 CO;replace X1:=X1.keep CO;clear CO B8
 try clear aI
 try clear aJ
 try clear aK
 try clear aP
 obtain ⟨aI,aJ,aK,aP,-,-,-⟩:=X1.bC
 cases h1:Gx p
 case false =>
  have hf:=Lib.hid (show 2=q by rw [<- Hq.out,if_pos (by rw [NK,h1];simp)]);clear h1;go_wp2_with fail;go_ret;exact ⟨fA hf.out,bT Bw B9⟩
 have hq:=Hq.out;rw [if_neg (show ¬ wQ p=false by rw [NK,h1,H3.out,H4.out,H5.out];decide)] at hq;replace Hq:=Lib.hid hq;clear hq h1;go_wp2_with fail;refine (ajI _ _ p _ _ (HP.out.mono (bT Bw B9)) (lS.out.mono B9)).mono ?_;rintro e w10 ⟨rfl,GZ⟩;have B10:=bT B9 GZ;replace X1:=X1.keep GZ;clear GZ B9
 try clear aI
 try clear aJ
 try clear aK
 try clear aP
 obtain ⟨aI,aJ,aK,aP,-,-,-⟩:=X1.bC;by_cases h1:yj p (p.nodes.map (·.id))=0
 case neg =>
  have hf:=Lib.hid (show yj p (p.nodes.map (·.id))=q by rw [<- Hq.out,if_neg h1]);generalize yj p (p.nodes.map (·.id))=c at *;go_wp2_with fail;go_ret;exact ⟨fA hf.out,bT Bw B10⟩
 have hq:=Hq.out;rw [if_pos h1] at hq;replace Hq:=Lib.hid hq;have akO:=Lib.hid (akI p h1);rw [h1];clear hq h1;have zq:Hid (Sound p):=Lib.hid ⟨Nz _ H1.out,Nz _ H2.out,akO.out⟩;go_wp2_with fail;refine (akB _ p _ (HP.out.mono (bT Bw B10)) eu.out HLen.out (by omega) (akL H3.out) zq.out).mono ?_;rintro e EK ⟨rfl,wX⟩;have B11:=bT B10 wX;clear wX B10 X1 aI aJ aK aP
 cases h1:sJ p
 case false =>
  have hf:=Lib.hid (show 11=q by rw [<- Hq.out,if_pos h1]);clear h1;go_wp2_with fail;go_ret;exact ⟨fA hf.out,bT Bw B11⟩
 case true =>
  have hf:=Lib.hid (show 0=q by rw [<- Hq.out,if_neg (by rw [h1];decide)]);clear h1;go_wp2_with fail;go_ret;exact ⟨fA hf.out,bT Bw B11⟩
structure Valid (p:Pl):Prop where
 lim:nN p=false
 ord:y7 p=true
 rng:wQ p=true
 dup:AB (p.nodes.map (·.pt))=false
 ends:p.ah.all (qZ p)=true
 sides:GK p=true
 Xf:sJ p=true
theorem NP (p:Pl):oH p=0↔Valid p:=by
 unfold oH;constructor
 ·intro h;split at h
  · cases h
  rename_i h1;split at h
  · cases h
  rename_i h2;split at h
  · cases h
  rename_i h3;split at h
  · cases h
  rename_i h4;split at h
  · cases h
  rename_i h5;split at h
  · cases h
  rename_i h6;split at h
  · cases h
  rename_i h7;exact ⟨by simpa using h1,by simpa using h2,by simpa using h3,by simpa using h4,by simpa using h5,by simpa using h6,by simpa using h7⟩
 ·rintro ⟨h1,h2,h3,h4,h5,h6,h7⟩;simp [h1,h2,h3,h4,h5,h6,h7]
section
variable {p:Pl}
theorem Valid.sound (h:Valid p):Sound p:=by
 have ho:=h.ord;unfold y7 at ho;rw [Bool.and_eq_true,Bool.and_eq_true] at ho;exact ⟨Nz _ ho.1.1,Nz _ ho.1.2,List.all_eq_true.1 h.ends⟩
theorem adn {q:Pt} (h:qL q=true):aW q=true:=by
 simp only [qL,Bool.and_eq_true,decide_eq_true_eq] at h;rw [wL];omega
theorem Valid.near (h:Valid p) {q:Pt} (hq:q∈Az p):aW q=true:=by
 have hr:=h.rng;unfold wQ at hr;rw [Bool.and_eq_true] at hr;exact adn (List.all_eq_true.1 hr.2 q hq)
theorem Valid.Rz (h:Valid p) {n:Nd} (hn:n∈p.nodes):aW n.pt=true:=h.near (List.mem_append_left _ (List.mem_map_of_mem hn))
theorem Valid.akP (h:Valid p) {a:Ar} (ha:a∈p.ah) {q:Pt} (hq:q∈a.via):aW q=true:=h.near (List.mem_append_right _ (List.mem_flatMap.2 ⟨a,ha,hq⟩))
theorem Sound.yw (hp:Sound p) {a:Ar} (ha:a∈p.ah):∃ n∈p.nodes,n.id=a.fr/\nodeAt p a.fr=n.pt:=by
 obtain ⟨⟨n,hn,e⟩,-⟩:=hp.Rq ha;exact ⟨n,hn,e,by rw [<- e,hp.sN hn]⟩
theorem Sound.zu (hp:Sound p) {a:Ar} (ha:a∈p.ah):∃ n∈p.nodes,n.id=a.dst/\nodeAt p a.dst=n.pt:=by
 obtain ⟨-,⟨n,hn,e⟩⟩:=hp.Rq ha;exact ⟨n,hn,e,by rw [<- e,hp.sN hn]⟩
theorem Valid.ado (h:Valid p) {a:Ar} (ha:a∈p.ah) {q:Pt} (hq:q∈au p a):aW q=true:=by
 unfold au at hq;rcases List.mem_cons.1 hq with rfl | hq
 ·obtain ⟨n,hn,-,e⟩:=h.sound.yw ha;rw [e];exact h.Rz hn
 ·rcases List.mem_append.1 hq with hq | hq
  · exact h.akP ha hq
  ·rw [List.mem_singleton] at hq;subst hq;obtain ⟨n,hn,-,e⟩:=h.sound.zu ha;rw [e];exact h.Rz hn
end
theorem akQ (a b:Pt):bF a b=false↔b.x<a.x\/(a.x=b.x/\b.y<=a.y):=by
 rw [<- Bool.not_eq_true,nR];omega
theorem Xg (a b:Pt):bF a (lo a b)=false:=by
 rcases Ce a b with ⟨h,-,h'⟩ | ⟨h,-,h'⟩
 · rw [h];exact Gz a
 · rw [h];exact ru h'
theorem adp (a b:Pt):bF b (lo a b)=false:=by rw [WH];exact Xg b a
theorem Xh (a b:Pt):bF (hi a b) a=false:=by
 rcases Ce a b with ⟨-,h,h'⟩ | ⟨-,h,h'⟩
 · rw [h];exact h'
 · rw [h];exact Gz a
theorem adq (a b:Pt):bF (hi a b) b=false:=by rw [QU];exact Xh b a
theorem adr {x y q:Pt} (h1:bF q x=false) (h2:bF q y=false):bF q (hi x y)=false:=by
 rcases Ce x y with ⟨-,h,-⟩ | ⟨-,h,-⟩<;>rw [h]<;>assumption
theorem ads {x y q:Pt} (h1:bF x q=false) (h2:bF y q=false):bF (lo x y) q=false:=by
 rcases Ce x y with ⟨h,-,-⟩ | ⟨h,-,-⟩<;>rw [h]<;>assumption
theorem adt {a b c d q:Pt} (h1:q=a\/q=b) (h2:q=c\/q=d):lM a b c d≠0:=by
 have f1:bF q (lo a b)=false:=by rcases h1 with rfl | rfl;exact Xg _ _;exact adp _ _
 have f2:bF q (lo c d)=false:=by rcases h2 with rfl | rfl;exact Xg _ _;exact adp _ _
 have g1:bF (hi a b) q=false:=by rcases h1 with rfl | rfl;exact Xh _ _;exact adq _ _
 have g2:bF (hi c d) q=false:=by rcases h2 with rfl | rfl;exact Xh _ _;exact adq _ _
 have f:=adr f1 f2;have g:=ads g1 g2;rw [yY];generalize hi (lo a b) (lo c d)=x at *;generalize lo (hi a b) (hi c d)=y at *;by_cases hxy:x=y
 · rw [if_pos hxy];omega
 ·rw [if_neg hxy]
  have:bF x y=true:=by
   rw [akQ] at f g;rw [nR];have hne:¬ (x.x=y.x/\x.y=y.y):=fun e=>hxy (Pt.ext_iff'.2 e);omega
  rw [if_pos this];omega
theorem CP {a b c d:Pt} (ha:aW a=true) (hb:aW b=true) (hc:aW c=true) (hd:aW d=true):fH [a,b,c,d]=true:=by simp [fH,ha,hb,hc,hd]
theorem adu {a b c:Pt} (ha:aW a=true) (hb:aW b=true) (hc:aW c=true):ig a b c b≠0:=by
 unfold ig;rw [if_pos (CP ha hb hc hb)];unfold qg;have e1:aF a b a c=- aF a b c b:=by unfold aF;grind
 have e2:aF a b a b=0:=by unfold aF;grind
 have e3:aF c b c a=aF a b c b:=by unfold aF;grind
 have e4:aF c b c b=0:=by unfold aF;grind
 have e5:aF a c c b=aF a b c b:=by unfold aF;grind
 have e6:aF a c a b=aF a b c b:=by unfold aF;grind
 rw [if_neg (show ¬ (a=b/\c=b/\¬ a=c) from fun h=>h.2.2 (h.1.trans h.2.1.symm)),e1,e2,e3,e4,e5,e6];generalize aF a b c b=n at *;by_cases h0:n=0
 ·rw [if_pos h0,if_pos (by omega)];exact adt (.inr rfl) (.inr rfl)
 ·rw [if_neg h0];by_cases hn:n<0
  · rw [if_pos hn,if_pos (by omega)];omega
  · rw [if_neg hn,if_pos (by omega)];omega
theorem akR {a b c:Pt} (ha:aW a=true) (hb:aW b=true) (hc:aW c=true):ig a b c a≠0:=by
 unfold ig;rw [if_pos (CP ha hb hc ha)];unfold qg;have e1:aF a b a c=- aF a b c a:=by unfold aF;grind
 have e2:aF a b a a=0:=by unfold aF;grind
 have e3:aF c a c a=0:=by unfold aF;grind
 have e4:aF c a c b=- aF a b c a:=by unfold aF;grind
 have e5:aF a c c a=0:=by unfold aF;grind
 have e6:aF a c a b=aF a b c a:=by unfold aF;grind
 rw [if_neg (show ¬ (a=b/\c=a/\¬ a=c) from fun h=>h.2.2 h.2.1.symm),e1,e2,e3,e4,e5,e6];generalize aF a b c a=n at *;by_cases h0:n=0
 ·rw [if_pos h0,if_pos (by omega)];exact adt (.inl rfl) (.inr rfl)
 ·rw [if_neg h0];by_cases hn:n<0
  · rw [if_pos hn,if_pos (by omega)];omega
  · rw [if_neg hn,if_pos (by omega)];omega
theorem akS {a b:Pt} (ha:aW a=true) (hb:aW b=true):qX a b b=true:=by
 unfold qX;have e1:aF a b a b=0:=by unfold aF;grind
 have e2:Jy a b b b=0:=by unfold Jy;grind
 simp [fH,ha,hb,e1,e2]
theorem akT {a b:Pt} (ha:aW a=true) (hb:aW b=true):qX a b a=true:=by
 unfold qX;have e1:aF a b a a=0:=by unfold aF;grind
 have e2:Jy a a b a=0:=by unfold Jy;grind
 simp [fH,ha,hb,e1,e2]
def bQ (p:Pl) (a:Ar) (k:Nat):Sg:=⟨a,k,(au p a).length-1,(au p a).getD k aB,(au p a).getD (k+1) aB⟩
theorem JW {p:Pl} {a:Ar} {k:Nat} (hk:k+1<(au p a).length):bQ p a k∈Ei a (au p a) :=
 List.mem_map.2 ⟨k,List.mem_range.2 (by omega),rfl⟩
theorem EL (p:Pl) (a:Ar) (j:Nat) (hj:j<a.via.length):(au p a).getD (j+1) aB=a.via[j]:=by
 unfold au;rw [List.getD_cons_succ,List.getD_eq_getElem?_getD,List.getElem?_append_left hj,List.getElem?_eq_getElem hj];rfl
theorem zy (p:Pl) (a:Ar):(au p a).getD 0 aB=nodeAt p a.fr:=rfl
theorem akU (p:Pl) (a:Ar) (j:Nat) (hj:j<(au p a).length):(au p a).getD j aB∈au p a:=by
 rw [List.getD_eq_getElem?_getD,List.getElem?_eq_getElem hj];exact List.getElem_mem hj
section
variable {p:Pl} (h:Valid p)
include h
theorem Valid.tY:(∀ a∈p.ah,∀ k,k+1<(au p a).length->Eh p (bQ p a k)=true) /\
  (∀ a∈p.ah,∀ k m,k<m->m+1<(au p a).length->Ci (bQ p a k) (bQ p a m)=true) /\
  p.ah.Pairwise (fun a b=>∀ k,k+1<(au p a).length->∀ m,m+1<(au p b).length->sH p (bQ p a k) (bQ p b m)=true):=by
 have hp:=h.Xf;unfold sJ at hp;rw [Rl] at hp;obtain ⟨h1,h2⟩:=hp;unfold Nc at h1 h2;rw [List.pairwise_flatMap] at h2;refine ⟨fun a ha k hk=>h1 _ (List.mem_flatMap.2 ⟨a,ha,JW hk⟩),fun a ha k m hkm hm=>?_,?_⟩
 ·have h3:=h2.1 a ha;unfold Ei at h3;rw [List.pairwise_map,List.pairwise_iff_getElem] at h3;have h4:=h3 k m (by rw [List.length_range];omega) (by rw [List.length_range];omega) hkm;simp only [List.getElem_range] at h4;unfold AQ at h4;rw [if_pos rfl] at h4;exact h4
 ·have hs:=h.sound.ah;rw [List.pairwise_map] at hs;refine (hs.and h2.2).imp ?_;rintro a b ⟨hlt,h3⟩ k hk m hm;have h4:=h3 _ (JW hk) _ (JW hm);unfold AQ at h4;rw [if_neg (show ¬ (bQ p a k).arc.id=(bQ p b m).arc.id from fun e=>by have e':a.id=b.id:=e;omega)] at h4;exact h4
theorem Valid.bV {a:Ar} (ha:a∈p.ah) {k:Nat} (hk:k<(au p a).length):aW ((au p a).getD k aB)=true:=h.ado ha (akU p a k hk)
theorem Valid.JX {a:Ar} (ha:a∈p.ah) {k:Nat} (hk:k+1<(au p a).length) {n:Nd} (hn:n∈p.nodes) (ho:qX (bQ p a k).a (bQ p a k).b n.pt=true) :
  (k=0/\a.fr=n.id)\/(k=a.via.length/\a.dst=n.id):=by
 have h1:=h.tY.1 a ha k hk;unfold Eh at h1;rw [Bool.and_eq_true,List.all_eq_true] at h1;have h2:=h1.1 n hn;unfold MZ at h2;rw [ho] at h2;unfold WO bQ at h2;simp only [Bool.not_true,Bool.or_false,Bool.or_eq_true,Bool.and_eq_true,beq_iff_eq] at h2;have hl:=fJ p a;rcases h2 with ⟨h3,h4⟩ | ⟨h3,h4⟩
 · left;exact ⟨by omega,h4⟩
 · right;exact ⟨by omega,h4⟩
theorem Valid.distinct {a:Ar} (ha:a∈p.ah) {k:Nat} (hk:k+1<(au p a).length):(au p a).getD k aB≠(au p a).getD (k+1) aB/\(a.fr=a.dst->4<=(au p a).length):=by
 have h1:=h.tY.1 a ha k hk;unfold Eh Na bQ at h1;simp only [Bool.and_eq_true,Bool.not_eq_true',decide_eq_false_iff_not,Bool.or_eq_true,bne_iff_ne,decide_eq_true_eq] at h1;refine ⟨h1.2.1,fun e=>?_⟩;rcases h1.2.2 with h2 | h2
 · exact absurd e h2
 · omega
theorem Valid.RD {a:Ar} (ha:a∈p.ah) {j:Nat} (hj:j<a.via.length) {n:Nd} (hn:n∈p.nodes):a.via[j]≠n.pt:=by
 intro e;have hl:=fJ p a;have hm:=EL p a j hj;have o1:qX (bQ p a j).a (bQ p a j).b n.pt=true:=by
  rw [<- e,<- hm];exact akS (h.bV ha (by omega)) (h.bV ha (by omega))
 have o2:qX (bQ p a (j+1)).a (bQ p a (j+1)).b n.pt=true:=by
  rw [<- e,<- hm];exact akT (h.bV ha (by omega)) (h.bV ha (by omega))
 rcases h.JX ha (by omega) hn o1 with ⟨h1,h2⟩ | ⟨h1,h2⟩
 ·have hd:=(h.distinct ha (k:=j) (by omega)).1;obtain ⟨n',hn',e1,e2⟩:=h.sound.yw ha
  have:nodeAt p a.fr=n.pt:=by rw [h2];exact h.sound.sN hn
  subst h1;rw [zy,this,hm,e] at hd;exact hd rfl
 · omega
theorem Valid.Xi {a:Ar} (ha:a∈p.ah) {j m:Nat} (hjm:j<m) (hm:m<a.via.length):a.via[j]≠a.via[m]:=by
 intro e;have hl:=fJ p a;have e1:=EL p a j (by omega);have e2:=EL p a m hm;by_cases hn:m=j+1
 ·subst hn;have:=(h.distinct ha (k:=j+1) (by omega)).1
  rw [e1,e2] at this;exact this e
 ·have h1:=h.tY.2.1 a ha j m hjm (by omega);unfold Ci at h1;have hc:¬ ((bQ p a m).i=(bQ p a j).i+1\/((bQ p a j).i=0/\(bQ p a m).i+1=(bQ p a m).n/\(bQ p a j).arc.fr=(bQ p a j).arc.dst)):=by
   unfold bQ;simp only [];omega
  rw [if_neg hc] at h1;have h2:ig ((au p a).getD j aB) ((au p a).getD (j+1) aB) ((au p a).getD m aB) ((au p a).getD (m+1) aB)=0:=by simpa [bQ] using h1
  rw [e2,<- e,<- e1] at h2;exact adu (h.bV ha (by omega)) (h.bV ha (by omega)) (h.bV ha (by omega)) h2
theorem Valid.adv:p.ah.Pairwise (fun a b=>∀ x∈a.via,∀ y∈b.via,x≠y):=by
 refine (List.Pairwise.and_mem.1 h.tY.2.2).imp ?_;rintro a b ⟨ha,hb,hj⟩ x hx y hy e;obtain ⟨j,hjl,rfl⟩:=List.mem_iff_getElem.1 hx;obtain ⟨m,hml,rfl⟩:=List.mem_iff_getElem.1 hy;have hla:=fJ p a;have hlb:=fJ p b;have e1:=EL p a j hjl;have e2:=EL p b m hml;have j1:=hj j (by omega) m (by omega);have j2:=hj (j+1) (by omega) m (by omega);unfold sH at j1 j2;have n1:ig (bQ p a j).a (bQ p a j).b (bQ p b m).a (bQ p b m).b≠0:=by
  unfold bQ;simp only [];rw [e2,<- e,<- e1];exact adu (h.bV ha (by omega)) (h.bV ha (by omega)) (h.bV hb (by omega))
 have n2:ig (bQ p a (j+1)).a (bQ p a (j+1)).b (bQ p b m).a (bQ p b m).b≠0:=by
  unfold bQ;simp only [];rw [e2,<- e,<- e1];exact akR (h.bV ha (by omega)) (h.bV ha (by omega)) (h.bV hb (by omega))
 have m1:ig (bQ p a j).a (bQ p a j).b (bQ p b m).a (bQ p b m).b=1:=by
  by_cases hh:ig (bQ p a j).a (bQ p a j).b (bQ p b m).a (bQ p b m).b=1
  · exact hh
  · rw [if_neg hh] at j1;exact absurd (by simpa using j1) n1
 have m2:ig (bQ p a (j+1)).a (bQ p a (j+1)).b (bQ p b m).a (bQ p b m).b=1:=by
  by_cases hh:ig (bQ p a (j+1)).a (bQ p a (j+1)).b (bQ p b m).a (bQ p b m).b=1
  · exact hh
  · rw [if_neg hh] at j2;exact absurd (by simpa using j2) n2
 rw [if_pos m1,List.any_eq_true] at j1;rw [if_pos m2,List.any_eq_true] at j2;obtain ⟨n,hn,hn'⟩:=j1;obtain ⟨n',hm,hm'⟩:=j2;unfold Ef at hn' hm';rw [Bool.and_eq_true,Bool.and_eq_true] at hn' hm';have k1:=h.JX ha (by omega) hn hn'.1.2;have k2:=h.JX hb (by omega) hn hn'.2;have k3:=h.JX ha (by omega) hm hm'.1.2;have k4:=h.JX hb (by omega) hm hm'.2;have hd:=(h.distinct ha (k:=j) (by omega)).2;omega
theorem Valid.nS:(p.ah.flatMap (·.via)).Pairwise (·≠·):=by
 rw [List.pairwise_flatMap];refine ⟨fun a ha=>?_,h.adv⟩;rw [List.pairwise_iff_getElem];intro i j hi hj hij;exact h.Xi ha hij hj
end
theorem count_none {l:List Pt} {q:Pt} (h:q∉l):AO l q=0:=by
 unfold AO;rw [List.filter_eq_nil_iff.2 fun x hx=>by simp;rintro rfl;exact h hx];rfl
theorem count_one {l:List Pt} {q:Pt} (h:l.Pairwise (·≠·)) (hq:q∈l):AO l q=1:=by
 induction l with
 | nil=>cases hq
 | cons a l ih =>
  rw [List.pairwise_cons] at h;by_cases e:a=q
  ·subst e;have hn:a∉l:=fun hm=>h.1 a hm rfl;have:=count_none hn
   unfold AO at this ⊢;rw [List.filter_cons_of_pos (by simp)];simp only [List.length_cons];omega
  ·have:=ih h.2 (by
    rcases List.mem_cons.1 hq with h' | h'
    · exact absurd h'.symm e
    · exact h')
   unfold AO at this ⊢;rw [List.filter_cons_of_neg (by simpa using e)];exact this
theorem akV (l m:List Pt) (q:Pt):AO (l++m) q=AO l q+AO m q:=by
 unfold AO;rw [List.filter_append,List.length_append]
theorem Valid.count {p:Pl} (h:Valid p) {a:Ar} (ha:a∈p.ah) {j:Nat} (hj:j<a.via.length):AO (Az p) a.via[j]=1:=by
 unfold Az;rw [akV,count_none,count_one h.nS (List.mem_flatMap.2 ⟨a,ha,List.getElem_mem hj⟩)];intro hm;obtain ⟨n,hn,e⟩:=List.mem_map.1 hm;exact h.RD ha hj hn e.symm
theorem akW {o a b:Pt} (ha:a≠o) (hb:b≠o) (h1:¬ dV o a b) (h2:¬ dV o b a):tw o a b=0/\(bF o a=true↔bF o b=true):=by
 have ha':=WM.1 ha;have hb':=WM.1 hb;unfold dV rC at h1 h2;have e:tw o a b=(a.x-o.x)*(b.y-o.y)-(a.y-o.y)*(b.x-o.x):=rfl;rw [nR,nR,e];generalize hux:a.x-o.x=ux at *;generalize huy:a.y-o.y=uy at *;generalize hvx:b.x-o.x=vx at *;generalize hvy:b.y-o.y=vy at *;rw [Int.mul_comm vx,Int.mul_comm vy] at h2;have hl:jW ux uy↔jW vx vy:=by
  by_cases l1:jW ux uy<;>by_cases l2:jW vx vy<;>simp [l1,l2] at h1 h2 ⊢
 have hz:ux*vy-uy*vx=0:=by
  rcases Int.lt_trichotomy (ux*vy-uy*vx) 0 with h | h | h
  · exact absurd (.inr ⟨hl.symm,by omega⟩) h2
  · exact h
  · exact absurd (.inr ⟨hl,h⟩) h1
 refine ⟨hz,?_⟩;have m1:∀ {a b:Int},0<a->0<b->0<a*b:=Int.mul_pos;have m2:∀ {a b:Int},0<a->b<0->a*b<0:=Int.mul_neg_of_pos_of_neg;have m3:∀ {a b:Int},a<0->0<b->a*b<0:=Int.mul_neg_of_neg_of_pos;have m4:∀ {a b:Int},a<0->b<0->0<a*b:=Int.mul_pos_of_neg_of_neg;unfold jW at hl;have key:(0<ux↔0<vx)/\(ux<0↔vx<0):=by
  rcases Int.lt_trichotomy uy 0 with y1 | y1 | y1
  ·have y2:vy<0:=by
    rcases Int.lt_trichotomy vy 0 with y2 | y2 | y2
    · exact y2
    ·have h3:vx<0:=by omega
     have:=m4 y1 h3
     rw [y2,Int.mul_zero] at hz;omega
    · omega
   rcases Int.lt_trichotomy ux 0 with x1 | x1 | x1<;>rcases Int.lt_trichotomy vx 0 with x2 | x2 | x2
   · omega
   · have:=m4 x1 y2;rw [x2,Int.mul_zero] at hz;omega
   · have h3:=m4 x1 y2;have h4:=m3 y1 x2;omega
   · have:=m4 y1 x2;rw [x1,Int.zero_mul] at hz;omega
   · omega
   · have:=m3 y1 x2;rw [x1,Int.zero_mul] at hz;omega
   · have h3:=m2 x1 y2;have h4:=m4 y1 x2;omega
   · have:=m2 x1 y2;rw [x2,Int.mul_zero] at hz;omega
   · omega
  ·rw [y1,Int.zero_mul] at hz;have hx:ux≠0:=by omega
   have y2:vy=0:=by
    rcases Int.mul_eq_zero.1 (show ux*vy=0 by omega) with h | h
    · exact absurd h hx
    · exact h
   omega
  ·have y2:0<vy:=by
    rcases Int.lt_trichotomy vy 0 with y2 | y2 | y2
    · omega
    ·have h3:0<vx:=by omega
     have:=m1 y1 h3
     rw [y2,Int.mul_zero] at hz;omega
    · exact y2
   rcases Int.lt_trichotomy ux 0 with x1 | x1 | x1<;>rcases Int.lt_trichotomy vx 0 with x2 | x2 | x2
   · omega
   · have:=m3 x1 y2;rw [x2,Int.mul_zero] at hz;omega
   · have h3:=m3 x1 y2;have h4:=m1 y1 x2;omega
   · have:=m2 y1 x2;rw [x1,Int.zero_mul] at hz;omega
   · omega
   · have:=m1 y1 x2;rw [x1,Int.zero_mul] at hz;omega
   · have h3:=m1 x1 y2;have h4:=m2 y1 x2;omega
   · have:=m1 x1 y2;rw [x2,Int.mul_zero] at hz;omega
   · omega
 omega
theorem akX {o a b:Pt} (ha:a≠o) (hb:b≠o) (h:bF o a=true↔bF o b=true):lM o a o b=2:=by
 have tri:∀ q:Pt,q≠o->bF o q=true\/bF q o=true:=fun q hq=>by
  cases h1:bF o q
  ·cases h2:bF q o
   · exact absurd (Jz h2 h1) hq
   · exact .inr rfl
  · exact .inl rfl
 rw [yY];rcases tri a ha with h1 | h1
 ·have h2:=h.1 h1;have e1:lo o a=o:=by unfold lo;rw [ru h1];simp
  have e2:lo o b=o:=by unfold lo;rw [ru h2];simp
  have e3:hi o a=a:=by unfold hi;rw [ru h1];simp
  have e4:hi o b=b:=by unfold hi;rw [ru h2];simp
  have e5:hi o o=o:=by unfold hi;rw [Gz];simp
  rw [e1,e2,e3,e4,e5];have e6:lo a b=a\/lo a b=b:=by unfold lo;split;exact .inr rfl;exact .inl rfl
  rcases e6 with e6 | e6<;>rw [e6]
  · rw [if_neg (fun e=>ha e.symm),if_pos h1]
  · rw [if_neg (fun e=>hb e.symm),if_pos h2]
 ·have h2:bF b o=true:=by
   rcases tri b hb with h3 | h3
   · rw [ru (h.2 h3)] at h1;cases h1
   · exact h3
  have e1:lo o a=a:=by unfold lo;rw [h1];simp
  have e2:lo o b=b:=by unfold lo;rw [h2];simp
  have e3:hi o a=o:=by unfold hi;rw [h1];simp
  have e4:hi o b=o:=by unfold hi;rw [h2];simp
  have e5:lo o o=o:=by unfold lo;rw [Gz];simp
  rw [e1,e2,e3,e4,e5];have e6:hi a b=a\/hi a b=b:=by unfold hi;split;exact .inl rfl;exact .inr rfl
  rcases e6 with e6 | e6<;>rw [e6]
  · rw [if_neg ha,if_pos h1]
  · rw [if_neg hb,if_pos h2]
theorem adw {o a b:Pt} (ho:aW o=true) (hna:aW a=true) (hnb:aW b=true) (ha:a≠o) (hb:b≠o) (h1:¬ dV o a b) (h2:¬ dV o b a) :
  ig o a o b=2/\ig a o o b=2/\ig o a b o=2/\ig a o b o=2:=by
 obtain ⟨hc,hbf⟩:=akW ha hb h1 h2;have hs:=akX ha hb hbf;have c1:lM a o o b=2:=by rw [<- hs];exact JA a o o b
 have c2:lM o a b o=2:=by rw [AP,JA,AP];exact hs
 have c3:lM a o b o=2:=by rw [AP,JA,AP];exact c1
 unfold tw at hc;unfold ig qg;refine ⟨?_,?_,?_,?_⟩
 · rw [if_pos (CP ho hna ho hnb),if_neg (fun e=>ha e.1.symm),if_pos (by unfold aF;grind),if_pos ⟨by unfold aF;grind,by unfold aF;grind,by unfold aF;grind,by unfold aF;grind⟩];exact hs
 · rw [if_pos (CP hna ho ho hnb),if_neg (fun e=>ha e.1),if_pos (by unfold aF;grind),if_pos ⟨by unfold aF;grind,by unfold aF;grind,by unfold aF;grind,by unfold aF;grind⟩];exact c1
 · rw [if_pos (CP ho hna hnb ho),if_neg (fun e=>ha e.1.symm),if_pos (by unfold aF;grind),if_pos ⟨by unfold aF;grind,by unfold aF;grind,by unfold aF;grind,by unfold aF;grind⟩];exact c2
 · rw [if_pos (CP hna ho hnb ho),if_neg (fun e=>ha e.1),if_pos (by unfold aF;grind),if_pos ⟨by unfold aF;grind,by unfold aF;grind,by unfold aF;grind,by unfold aF;grind⟩];exact c3
section
variable {α:Type}
theorem JY {lt:α->α->Bool}:∀ {l m:List α},l.Perm m->l.Pairwise (fun a b=>lt b a=false)->m.Pairwise (fun a b=>lt b a=false)->(∀ a∈l,∀ b∈l,lt a b=false->lt b a=false->a=b)->l=m
 | [],m,hp,_,_,_=>(List.nil_perm.1 hp).symm
 | a::l,[],hp,_,_,_=>by have:=hp.length_eq;simp at this
 | a::l,b::m,hp,h1,h2,ht=>by
  have h1':=List.pairwise_cons.1 h1;have h2':=List.pairwise_cons.1 h2;have hab:a=b:=by
   have ha:a∈b::m:=hp.subset (List.mem_cons_self);have hb:b∈a::l:=hp.symm.subset (List.mem_cons_self);rcases List.mem_cons.1 ha with e | ha
   · exact e
   rcases List.mem_cons.1 hb with e | hb
   · exact e.symm
   exact ht a List.mem_cons_self b (List.mem_cons_of_mem _ hb) (h2'.1 a ha) (h1'.1 b hb)
  subst hab;rw [JY (List.Perm.cons_inv hp) h1'.2 h2'.2 (fun x hx y hy=>ht x (List.mem_cons_of_mem _ hx) y (List.mem_cons_of_mem _ hy))]
theorem CQ:∀ {l m:List Int},l.Nodup->(∀ x∈l,x∈m)->l.length<=m.length
 | [],m,_,_=>Nat.zero_le _
 | a::l,m,h,hs=>by
  have h':=List.nodup_cons.1 h;have ha:=hs a List.mem_cons_self;have:=CQ (m:=m.erase a) h'.2 (fun x hx=>(List.mem_erase_of_ne (fun e=>h'.1 (by rw [<- e];exact hx))).2 (hs x (List.mem_cons_of_mem _ hx)))
  rw [List.length_erase_of_mem ha] at this;have hp:0<m.length:=List.length_pos_of_mem ha;simp only [List.length_cons];omega
def iter (f:Int->Int) (x:Int):Nat->List Int
 | 0=>[]
 | n+1=>x::iter f (f x) n
def pw (f:Int->Int) (x:Int):Nat->Int
 | 0=>x
 | n+1=>f (pw f x n)
theorem RF (f:Int->Int) (x:Int) (n:Nat):pw f (f x) n=pw f x (n+1):=by
 induction n with
 | zero=>rfl
 | succ n ih=>rw [pw,ih];rfl
theorem AY (f:Int->Int) (x:Int) (n:Nat):(iter f x n).length=n:=by
 induction n generalizing x with
 | zero=>rfl
 | succ n ih=>simp [iter,ih]
theorem JZ (f:Int->Int) (x:Int) (n k:Nat) (hk:k<(iter f x n).length):(iter f x n)[k]=pw f x k:=by
 induction n generalizing x k with
 | zero=>simp [iter] at hk
 | succ n ih =>
  cases k with
  | zero=>rfl
  | succ k =>
   simp only [iter,List.getElem_cons_succ];rw [ih (f x) k (by simpa [iter] using hk),RF]
theorem adx (f:Int->Int) (x:Int) (n:Nat):iter f x (n+1)=iter f x n++[pw f x n]:=by
 induction n generalizing x with
 | zero=>rfl
 | succ n ih =>
  rw [iter,ih (f x),RF];rfl
variable {f:Int->Int} {D:List Int} (hD:∀ x∈D,f x∈D) (hi:∀ x∈D,∀ y∈D,f x=f y->x=y)
include hD in
theorem CS {x:Int} (hx:x∈D) (n:Nat):pw f x n∈D:=by
 induction n with
 | zero=>exact hx
 | succ n ih=>exact hD _ ih
include hD hi in
theorem ady {x:Int} (hx:x∈D) {i j:Nat} (h:pw f x i=pw f x (i+j)):pw f x j=x:=by
 induction i with
 | zero=>rw [Nat.zero_add] at h;exact h.symm
 | succ i ih =>
  refine ih (hi _ (CS hD hx i) _ (CS hD hx (i+j)) ?_);rw [show i+1+j=(i+j)+1 by omega] at h;exact h
theorem adz (f:Int->Int) (x:Int) (n:Nat):(iter f x n).Nodup\/∃ i j,0<j/\i+j<n/\pw f x i=pw f x (i+j):=by
 induction n with
 | zero=>exact .inl List.nodup_nil
 | succ n ih =>
  rcases ih with h | ⟨i,j,h1,h2,h3⟩
  ·by_cases hm:pw f x n∈iter f x n
   ·right;obtain ⟨k,hk,e⟩:=List.mem_iff_getElem.1 hm;rw [JZ] at e;rw [AY] at hk;exact ⟨k,n-k,by omega,by omega,by rw [e,show k+(n-k)=n by omega]⟩
   ·left;rw [adx,List.nodup_append];refine ⟨h,by simp,fun a ha b hb=>?_⟩;rw [List.mem_singleton] at hb;subst hb;exact fun e=>hm (e ▸ ha)
  · exact .inr ⟨i,j,h1,by omega,h3⟩
include hD hi in
theorem returns {x:Int} (hx:x∈D):∃ j,0<j/\j<=D.length/\pw f x j=x:=by
 rcases adz f x (D.length+1) with h | ⟨i,j,h1,h2,h3⟩
 ·have:=CQ h (fun y hy=>by
   obtain ⟨k,hk,rfl⟩:=List.mem_iff_getElem.1 hy;rw [JZ];exact CS hD hx k)
  rw [AY] at this;omega
 · exact ⟨j,h1,by omega,ady hD hi hx h3⟩
def per (f:Int->Int) (x:Int):Nat->Nat->Nat
 | k,0=>k
 | k,n+1=>if pw f x k=x then k else per f x (k+1) n
theorem akY (f:Int->Int) (x:Int) (k n:Nat):k<=per f x k n/\∀ j,k<=j->j<per f x k n->pw f x j≠x:=by
 induction n generalizing k with
 | zero=>exact ⟨Nat.le_refl _,fun j h1 h2=>by simp only [per] at h2;omega⟩
 | succ n ih =>
  unfold per;split
  · exact ⟨Nat.le_refl _,fun j h1 h2=>by omega⟩
  ·rename_i hne;obtain ⟨h1,h2⟩:=ih (k+1);refine ⟨by omega,fun j hj hj2=>?_⟩;by_cases e:j=k
   · subst e;exact hne
   · exact h2 j (by omega) hj2
theorem akZ (f:Int->Int) (x:Int) (k n:Nat) (h:∃ j,k<=j/\j<=k+n/\pw f x j=x):pw f x (per f x k n)=x/\per f x k n<=k+n:=by
 induction n generalizing k with
 | zero =>
  obtain ⟨j,h1,h2,h3⟩:=h
  have:j=k:=by omega
  subst this;exact ⟨h3,Nat.le_refl _⟩
 | succ n ih =>
  unfold per;split
  · rename_i e;exact ⟨e,by omega⟩
  ·rename_i hne;obtain ⟨j,h1,h2,h3⟩:=h;have:=ih (k+1) ⟨j,by
    by_cases e:j=k
    · subst e;exact absurd h3 hne
    · omega,by omega,h3⟩
   exact ⟨this.1,by omega⟩
def oJ (f:Int->Int) (D:List Int) (x:Int):Nat:=per f x 1 D.length
def lT (f:Int->Int) (D:List Int) (x:Int):List Int:=iter f x (oJ f D x)
include hD hi in
theorem CU {x:Int} (hx:x∈D):0<oJ f D x/\oJ f D x<=D.length+1/\pw f x (oJ f D x)=x/\(∀ j,0<j->j<oJ f D x->pw f x j≠x)/\(lT f D x).Nodup/\(lT f D x).length=oJ f D x:=by
 obtain ⟨j,h1,h2,h3⟩:=returns hD hi hx;obtain ⟨a1,a2⟩:=akY f x 1 D.length;obtain ⟨b1,b2⟩:=akZ f x 1 D.length ⟨j,h1,by omega,h3⟩;refine ⟨a1,by show per f x 1 D.length<=_;omega,b1,fun j h1 h2=>a2 j h1 h2,?_,AY _ _ _⟩;rcases adz f x (oJ f D x) with h | ⟨i,j,c1,c2,c3⟩
 · exact h
 · exact absurd (ady hD hi hx c3) (a2 j c1 (by unfold oJ at c2;omega))
theorem yx {f:Int->Int} {x y:Int} {n:Nat}:y∈iter f x n↔∃ k,k<n/\pw f x k=y:=by
 rw [List.mem_iff_getElem];constructor
 ·rintro ⟨k,hk,e⟩;rw [JZ] at e;rw [AY] at hk;exact ⟨k,hk,e⟩
 ·rintro ⟨k,hk,e⟩;exact ⟨k,by rw [AY];exact hk,by rw [JZ];exact e⟩
include hD hi in
theorem Xj {x y:Int} (hx:x∈D):y∈D->(f y∈lT f D x↔y∈lT f D x):=by
 intro hy;obtain ⟨h1,-,h3,-,-,-⟩:=CU hD hi hx;unfold lT;rw [yx,yx];constructor
 ·rintro ⟨k,hk,e⟩
  cases k with
  | zero =>
   refine ⟨oJ f D x-1,by omega,hi _ (CS hD hx _) _ hy ?_⟩
   have:pw f x (oJ f D x-1+1)=x:=by rw [Nat.sub_add_cancel h1];exact h3
   rw [pw] at this;rw [this];exact e
  | succ k=>exact ⟨k,by omega,hi _ (CS hD hx _) _ hy e⟩
 ·rintro ⟨k,hk,rfl⟩;by_cases e:k+1=oJ f D x
  ·refine ⟨0,h1,?_⟩;have h4:pw f x (k+1)=x:=by rw [e];exact h3
   exact h4.symm
  · exact ⟨k+1,by omega,rfl⟩
end
section
def wY (f:Int->Int) (D:List Int) (acc:List (List Int)) (d:Int):List (List Int):=if d∈acc.flatten then acc else acc++[lT f D d]
def Xk (f:Int->Int) (D L:List Int):List (List Int):=L.foldl (wY f D) []
variable {f:Int->Int} {D:List Int}
theorem adA {x:Int} (h:0<oJ f D x):x∈lT f D x:=yx.2 ⟨0,h,rfl⟩
theorem Xl (hD:∀ x∈D,f x∈D) {x y:Int} (hx:x∈D) (hy:y∈lT f D x):y∈D:=by
 obtain ⟨k,-,rfl⟩:=yx.1 hy;exact CS hD hx k
structure qO (f:Int->Int) (D P:List Int) (acc:List (List Int)):Prop where
 NQ:∀ l∈acc,∃ d∈P,l=lT f D d/\∀ e∈l,e∈P->d<=e
 covers:∀ x∈P,x∈acc.flatten
 nodup:acc.flatten.Nodup
 closed:∀ y∈D,f y∈acc.flatten↔y∈acc.flatten
theorem qO.back {P:List Int} {acc:List (List Int)} (h:qO f D P acc) (hD:∀ x∈D,f x∈D) {x:Int} (hx:x∈D) (k:Nat):pw f x k∈acc.flatten↔x∈acc.flatten:=by
 induction k with
 | zero=>exact Iff.rfl
 | succ k ih=>exact (h.closed _ (CS hD hx k)).trans ih
theorem qO.nil (f:Int->Int) (D:List Int):qO f D [] []:=⟨fun l h=>(by cases h),fun x h=>(by cases h),List.nodup_nil,fun y _=>⟨fun h=>(by cases h),fun h=>(by cases h)⟩⟩
theorem qO.apart {P:List Int} {acc:List (List Int)} (h:qO f D P acc) (hD:∀ x∈D,f x∈D) {d:Int} (hd:d∈D) (hm:d∉acc.flatten) {y:Int} (hy:y∈lT f D d):y∉acc.flatten:=by
 obtain ⟨k,-,rfl⟩:=yx.1 hy;exact fun e=>hm ((h.back hD hd k).1 e)
theorem qO.step {P:List Int} {acc:List (List Int)} (h:qO f D P acc) (hD:∀ x∈D,f x∈D) (hi:∀ x∈D,∀ y∈D,f x=f y->x=y) {d:Int} (hd:d∈D) (hlt:∀ x∈P,x<d):qO f D (P++[d]) (wY f D acc d):=by
 unfold wY;by_cases hm:d∈acc.flatten
 ·rw [if_pos hm];refine ⟨fun l hl=>?_,fun x hx=>?_,h.nodup,h.closed⟩
  ·obtain ⟨d',h1,h2,h3⟩:=h.NQ l hl;refine ⟨d',List.mem_append_left _ h1,h2,fun e he hp=>?_⟩;rcases List.mem_append.1 hp with hp | hp
   · exact h3 e he hp
   · rw [List.mem_singleton] at hp;subst hp;exact Int.le_of_lt (hlt _ h1)
  ·rcases List.mem_append.1 hx with hx | hx
   · exact h.covers x hx
   · rw [List.mem_singleton] at hx;subst hx;exact hm
 ·rw [if_neg hm];obtain ⟨o1,-,-,-,o5,-⟩:=CU hD hi hd;have hfl:(acc++[lT f D d]).flatten=acc.flatten++lT f D d:=by simp
  refine ⟨fun l hl=>?_,fun x hx=>?_,?_,fun y hy=>?_⟩
  ·rcases List.mem_append.1 hl with hl | hl
   ·obtain ⟨d',h1,h2,h3⟩:=h.NQ l hl;refine ⟨d',List.mem_append_left _ h1,h2,fun e he hp=>?_⟩;rcases List.mem_append.1 hp with hp | hp
    · exact h3 e he hp
    · rw [List.mem_singleton] at hp;subst hp;exact Int.le_of_lt (hlt _ h1)
   ·rw [List.mem_singleton] at hl;refine ⟨d,List.mem_append_right _ (List.mem_singleton.2 rfl),hl,fun e he hp=>?_⟩;subst hl;rcases List.mem_append.1 hp with hp | hp
    · exact absurd (h.covers e hp) (h.apart hD hd hm he)
    · rw [List.mem_singleton] at hp;exact Int.le_of_eq hp.symm
  ·rw [hfl];rcases List.mem_append.1 hx with hx | hx
   · exact List.mem_append_left _ (h.covers x hx)
   · rw [List.mem_singleton] at hx;subst hx;exact List.mem_append_right _ (adA o1)
  ·rw [hfl,List.nodup_append];exact ⟨h.nodup,o5,fun a ha b hb e=>h.apart hD hd hm hb (e ▸ ha)⟩
  · rw [hfl,List.mem_append,List.mem_append,h.closed y hy,Xj hD hi hd hy]
theorem Xm (hD:∀ x∈D,f x∈D) (hi:∀ x∈D,∀ y∈D,f x=f y->x=y):∀ (L P:List Int) (acc:List (List Int)),qO f D P acc->(∀ x∈L,x∈D)->(P++L).Pairwise (· < ·)->qO f D (P++L) (L.foldl (wY f D) acc)
 | [],P,acc,h,_,_=>by rw [List.append_nil];exact h
 | d::L,P,acc,h,hs,hp=>by
  have hp':=List.pairwise_append.1 hp;have:=Xm hD hi L (P++[d]) _ (h.step hD hi (hs d List.mem_cons_self) (fun x hx=>hp'.2.2 x hx d List.mem_cons_self)) (fun x hx=>hs x (List.mem_cons_of_mem _ hx)) (by rw [List.append_assoc];exact hp)
  rw [List.append_assoc] at this;exact this
theorem ak0 (hD:∀ x∈D,f x∈D) (hi:∀ x∈D,∀ y∈D,f x=f y->x=y) (hs:D.Pairwise (· < ·)):qO f D D (Xk f D D):=by
 have:=Xm hD hi D [] [] (qO.nil f D) (fun x hx=>hx) hs
 exact this
theorem qO.perm {acc:List (List Int)} (h:qO f D D acc) (hD:∀ x∈D,f x∈D) (hs:D.Nodup):acc.flatten.Perm D:=by
 refine (List.perm_ext_iff_of_nodup h.nodup hs).2 fun x=>⟨fun hx=>?_,h.covers x⟩;obtain ⟨l,hl,hx⟩:=List.mem_flatten.1 hx;obtain ⟨d,h1,h2,-⟩:=h.NQ l hl;subst h2;exact Xl hD h1 hx
end
end Go.Proofs.YtialfdomhoojiaaGreat
