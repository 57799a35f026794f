import Derived.Test.YtialfdomhoojiaaGreatPlanar
import Derived.Test.YtialfdomhoojiaaGreatJ04
import Derived.Test.YtialfdomhoojiaaGreatGB
set_option linter.unusedSimpArgs false
set_option linter.unusedVariables false
namespace Go.Proofs.YtialfdomhoojiaaGreat
open Go.RowKit
theorem adx (p:Pl) (a:Ar):hasB (p.nodes.map (·.id)) a=jk p a:=by
 have h:∀ id:Int,(p.nodes.map (·.id)).any (fun y=>y == id)=(jh p.nodes id).isSome:=fun id=>by
  unfold jh;rw [List.any_map,Bool.eq_iff_iff,List.any_eq_true,List.find?_isSome];rfl
 unfold hasB jk;rw [h,h]
theorem WE (p:Pl):rX p (p.nodes.map (·.id))=if wE (p.nodes.map (·.pt))=true then 8 else if p.au.all (jk p)=false then 7 else if DR p=false then 12 else 0:=by
 unfold rX
 have:hasB (p.nodes.map (·.id))=jk p:=funext fun a=>adx p a
 rw [this]
theorem ady (p:Pl) (h:lH p=false):mg p=if wH p=false then 10 else if tY p=false then 2 else if rX p (p.nodes.map (·.id))=0 then (if rW p=false then 11 else 0) else rX p (p.nodes.map (·.id)):=by
 unfold mg;rw [h,WE];rw [if_neg (show ¬ false=true by decide)];split
 · rfl
 split
 · rfl
 split
 · rfl
 split
 · rfl
 split
 · rfl
 · rfl
theorem adz (p:Pl) (h:rX p (p.nodes.map (·.id))=0):∀ a∈p.au,jk p a=true:=by
 rw [WE] at h
 cases h2:p.au.all (jk p)
 ·rw [h2] at h;split at h
  · omega
  · simp at h
 · exact List.all_eq_true.1 h2
theorem adA (p:Pl):Aj p=(oU p).all fK:=by
 unfold Aj oU;have h:∀ l:List Pt,(!l.any jO)=l.all fK:=fun l=>by
  induction l with
  | nil=>rfl
  | cons a l ih=>rw [List.any_cons,List.all_cons,Bool.not_or,ih,abV,Bool.not_not]
 rw [List.all_append,List.all_flatMap,List.all_map];have h1:(!p.nodes.any fun n=>jO n.pt)=p.nodes.all (fK ∘ fun n=>n.pt):=by
  have:=h (p.nodes.map (·.pt))
  rw [List.any_map,List.all_map] at this;exact this
 have h2:(!p.au.any fun a=>a.via.any jO)=p.au.all fun a=>a.via.all fK:=by
  rw [List.not_any_eq_all_not];congr 1
  funext a
  exact h a.via
 rw [h1,h2]
theorem Gm (p:Pl):tY p=(!(p.nodes.map (·.id)).any lZ && !(p.au.map (·.id)).any lZ && !p.faces.any lZ && Aj p):=by
 unfold tY;rw [adA,List.any_append,List.any_append,Bool.not_or,Bool.not_or]
theorem adB {α:Type} {l:List α} {q:α->Bool} (h:l.any q=false):∀ x∈l,q x=false:=fun x hx=>by
 rw [List.any_eq_false] at h;have:=h x hx
 simpa using this
theorem adD {l:List Nd} (h:(l.map (·.id)).any lZ=false):∀ n∈l,cZ n.id:=fun n hn=>by
 have:=adB h n.id (List.mem_map_of_mem hn)
 simp only [lZ,Bool.or_eq_false_iff,decide_eq_false_iff_not] at this;exact nR (by omega) (by omega)
theorem adE {p:Pl} (h:lH p=false):(p.au.flatMap (eH p)).length<=2097152:=by
 obtain ⟨h1,h2,h3,h4,h5⟩:=Oo h;have hl:=U8 p.au (eH p) 65 (fun a ha=>by
  simp only [eH,List.length_map,List.length_range];unfold pathOf
  cases hb:findAr p.au a.id with
  | none=>simp
  | some b =>
   simp only [];split
   ·have:=h1 b (yw hb)
    simp only [Option.getD_some,jQ];omega
   · simp)
 omega
set_option maxRecDepth 100000 in
set_option maxHeartbeats 8000000 in
theorem WG (v:Value) (p:Pl) (w:World) (h:dh w v p) :
  Calls Tryz.prog 115 #[v] w fun e w'=>e=.returned (.int .i64 (mg p))/\Below w.heap.size w w':=by
 have HP:=Lib.hid h;obtain ⟨_,_,_,al,rfl,hpa,⟨An,cn,rfl,hn1,hn2,-⟩,⟨⟨Aa,ca,rfl,ha1,ha2,fO⟩,hV⟩,hF⟩:=h;have HF:=Lib.hid hF;obtain ⟨Af,cf,rfl,hf1,hf2,-⟩:=hF;unfold maxLen at hn2 ha2 hf2;have HV:=Lib.hid hV;clear hV;have iV:=Lib.hid fO;clear fO;obtain ⟨q,hq⟩:∃ q,mg p=q:=⟨_,rfl⟩;rw [hq];have hq2:=hq;unfold mg at hq;have hbig:256<p.nodes.length\/256<al.length\/64<p.faces.length->3=q:=fun hh=>by
  rw [<- hq,if_pos];unfold lH;rw [hpa,List.length_map];simp only [Bool.or_eq_true,decide_eq_true_eq];omega
 have Ee:∀ k (hk:k<al.length),64<al[k].1.via.length->3=q:=fun k hk hh=>by
  rw [<- hq,if_pos];unfold lH;rw [hpa,List.any_map];have:=Dv al ((fun a=>decide (64<a.via.length)) ∘ fun x=>x.1) k hk (by simpa using hh)
  rw [this];rfl
 have hsmall:¬ 256<p.nodes.length->¬ 256<al.length->¬ 64<p.faces.length->(∀ k (hk:k<al.length),¬ 64<al[k].1.via.length)->lH p=false:=fun h1 h2 h3 h4=>by
  unfold lH;rw [hpa,List.length_map,List.any_map];have:=Dx al ((fun a=>decide (64<a.via.length)) ∘ fun x=>x.1) (fun j hj=>by have:=h4 j hj;simpa using this)
  rw [this,decide_eq_false h1,decide_eq_false h2,decide_eq_false h3];rfl
 have Hq:=Lib.hid hq2;have AZ:=Lib.hid hbig;have WH:=Lib.hid Ee;have WI:=Lib.hid hsmall;have Hpa:=Lib.hid hpa;clear hq hq2 hbig Ee hsmall hpa;go_enter Tryz.func115,Tryz.ntmps115;by_cases g1:256<p.nodes.length
 ·have hf:=Lib.hid (AZ.out (.inl g1));go_wp2_with fail;go_ret;exact ⟨dY hf.out,bA (bR w) _⟩
 by_cases g2:256<al.length
 ·have hf:=Lib.hid (AZ.out (.inr (.inl g2)));go_wp2_with fail;go_ret;exact ⟨dY hf.out,bA (bR w) _⟩
 by_cases g3:64<p.faces.length
 ·have hf:=Lib.hid (AZ.out (.inr (.inr g3)));go_wp2_with fail;go_ret;exact ⟨dY hf.out,bA (bR w) _⟩
 go_wp2_with fail;obtain ⟨W1,hW1⟩:∃ W1:World,W1=w.alloc (.cells #[.slice An p.nodes.length cn,.slice Aa al.length ca,.slice Af p.faces.length cf] 26):=⟨_,rfl⟩;have HB1:=Lib.hid (show Below w.heap.size w W1 by rw [hW1];exact bA (bR w) _);have iE:Hid (ah W1 w.heap.size 26 #[.slice An p.nodes.length cn,.slice Aa al.length ca,.slice Af p.faces.length cf]):=Lib.hid (by rw [hW1];exact ah.made rfl _ _);rw [<- hW1];clear hW1;go_loopw [26] (fun u wr=>∃ k:Nat,k<=al.length/\u=.int .i64 k/\Below W1.heap.size W1 wr/\∀ j (hj:j<al.length),j<k->¬ 64<al[j].1.via.length) (fun u _=>al.length-(intOf u).toNat)
 case atStart => exact ⟨0,Nat.zero_le _,rfl,bR W1,fun _ _ h=>by omega⟩
 case round =>
 obtain ⟨k,hk,rfl,hb,hno⟩:=hrel;have Hb:=Lib.hid hb;have Hno:=Lib.hid hno;have X1:=iE.out.keep hb;clear hb hno;obtain ⟨aZ,bf,bg,bK,-,-,-⟩:=X1.aJ;by_cases hlt:k<al.length
 case pos =>
  obtain ⟨b,o,rfl,hlb,c0,c1,c2,c3,c4,c5⟩:=(iV.out.mono (bT HB1.out Hb.out)).ar hlt;obtain ⟨Av,cv,hv,hv1,hv2,-⟩:=HV.out k hlt;unfold maxLen at hv2;rw [hv] at c3;clear hv;by_cases hbig:64<al[k].1.via.length
  ·have hf:=Lib.hid (WH.out k hlt hbig);go_wp2_with fail;go_ret;exact ⟨dY hf.out,bT HB1.out (bA Hb.out _)⟩
  ·have hb':=Lib.hid hbig;go_wp2_with fail;go_roundw
   case rel => exact ⟨k+1,by omega,by go_num,bA Hb.out _,all_succ (p:=fun a=>¬ 64<a.1.via.length) Hno.out hlt hb'.out⟩
   case measure => simp [intOf];omega
 case neg =>
 have hlim:=WI.out g1 g2 g3 (fun j hj=>Hno.out j hj (by omega));have hlen:=adE hlim;have hq:=Hq.out;rw [ady p hlim] at hq;have ajH:=Lib.hid hlim;have HLen:=Lib.hid hlen;have hsh:Short p:=fun a ha=>by have:=(Oo hlim).1 a ha;omega
 have ji:=Lib.hid hsh;replace Hq:=Lib.hid hq;have adF:p.au.length<=4096:=by rw [Hpa.out,List.length_map];omega
 clear hlim hlen hsh hq AZ WH WI HV iV Hno;have Bw:=bT HB1.out Hb.out;clear Hb;go_wp2_with fail;refine (abY _ p _ (HP.out.mono Bw) (by omega) adF).mono ?_;rintro e w2 ⟨v2,u2,rfl,hb2,ho1,ho2⟩;have jI:=Lib.hid (Own.sl ho1);have iT:=Lib.hid (Own.sl ho2);replace Bw:=bT Bw hb2;replace X1:=X1.keep hb2;clear hb2 ho1 ho2
 try clear aZ
 try clear bf
 try clear bg
 try clear bK
 obtain ⟨aZ,bf,bg,bK,-,-,-⟩:=X1.aJ;obtain ⟨wz,rfl⟩:∃ wz:World,wz=w2:=⟨_,rfl⟩;go_wp2_with fail;refine (NU _ _ _ jI.out).mono ?_;rintro e w3 ⟨rfl,hb3⟩;have B3:=hb3;replace X1:=X1.keep hb3;clear hb3
 try clear aZ
 try clear bf
 try clear bg
 try clear bK
 obtain ⟨aZ,bf,bg,bK,-,-,-⟩:=X1.aJ
 cases h1:qA (p.nodes.map (·.id))
 case false =>
  have hf:=Lib.hid (show 10=q by rw [<- Hq.out,if_pos (by simp [wH,h1])]);clear h1;go_wp2_with fail;go_ret;exact ⟨dY hf.out,bT Bw B3⟩
 have H1:=Lib.hid h1;clear h1;go_wp2_with fail;refine (NU _ _ _ (iT.out.mono B3)).mono ?_;rintro e w4 ⟨rfl,hb4⟩;have B4:=bT B3 hb4;replace X1:=X1.keep hb4;clear hb4 B3
 try clear aZ
 try clear bf
 try clear bg
 try clear bK
 obtain ⟨aZ,bf,bg,bK,-,-,-⟩:=X1.aJ
 cases h1:qA (p.au.map (·.id))
 case false =>
  have hf:=Lib.hid (show 10=q by rw [<- Hq.out,if_pos (by simp [wH,h1])]);clear h1;go_wp2_with fail;go_ret;exact ⟨dY hf.out,bT Bw B4⟩
 have H2:=Lib.hid h1;clear h1;go_wp2_with fail;refine (NU _ _ _ (HF.out.mono (bT Bw B4))).mono ?_;rintro e w5 ⟨rfl,hb5⟩;have B5:=bT B4 hb5;replace X1:=X1.keep hb5;clear hb5 B4
 try clear aZ
 try clear bf
 try clear bg
 try clear bK
 obtain ⟨aZ,bf,bg,bK,-,-,-⟩:=X1.aJ
 cases h1:qA p.faces
 case false =>
  have hf:=Lib.hid (show 10=q by rw [<- Hq.out,if_pos (by simp [wH,h1])]);clear h1;go_wp2_with fail;go_ret;exact ⟨dY hf.out,bT Bw B5⟩
 have hq:=Hq.out;rw [if_neg (show ¬ wH p=false by simp [wH,h1,H1.out,H2.out])] at hq;replace Hq:=Lib.hid hq;clear hq h1;go_wp2_with fail;refine (NY _ _ _ (jI.out.mono B5)).mono ?_;rintro e w6 ⟨rfl,hb6⟩;have B6:=bT B5 hb6;replace X1:=X1.keep hb6;clear hb6 B5
 try clear aZ
 try clear bf
 try clear bg
 try clear bK
 obtain ⟨aZ,bf,bg,bK,-,-,-⟩:=X1.aJ
 cases h1:(p.nodes.map (·.id)).any lZ
 case true =>
  have hf:=Lib.hid (show 2=q by rw [<- Hq.out,if_pos (by rw [Gm,h1];rfl)]);clear h1;go_wp2_with fail;go_ret;exact ⟨dY hf.out,bT Bw B6⟩
 have H3:=Lib.hid h1;clear h1;go_wp2_with fail;refine (NY _ _ _ (iT.out.mono B6)).mono ?_;rintro e w7 ⟨rfl,hb7⟩;have B7:=bT B6 hb7;replace X1:=X1.keep hb7;clear hb7 B6
 try clear aZ
 try clear bf
 try clear bg
 try clear bK
 obtain ⟨aZ,bf,bg,bK,-,-,-⟩:=X1.aJ
 cases h1:(p.au.map (·.id)).any lZ
 case true =>
  have hf:=Lib.hid (show 2=q by rw [<- Hq.out,if_pos (by rw [Gm,h1];simp)]);clear h1;go_wp2_with fail;go_ret;exact ⟨dY hf.out,bT Bw B7⟩
 have H4:=Lib.hid h1;clear h1;go_wp2_with fail;refine (NY _ _ _ (HF.out.mono (bT Bw B7))).mono ?_;rintro e w8 ⟨rfl,hb8⟩;have B8:=bT B7 hb8;replace X1:=X1.keep hb8;clear hb8 B7
 try clear aZ
 try clear bf
 try clear bg
 try clear bK
 obtain ⟨aZ,bf,bg,bK,-,-,-⟩:=X1.aJ
 cases h1:p.faces.any lZ
 case true =>
  have hf:=Lib.hid (show 2=q by rw [<- Hq.out,if_pos (by rw [Gm,h1];simp)]);clear h1;go_wp2_with fail;go_ret;exact ⟨dY hf.out,bT Bw B8⟩
 have H5:=Lib.hid h1;clear h1;go_wp2_with fail;refine (abW _ p _ (HP.out.mono (bT Bw B8))).mono ?_;rintro e w9 ⟨rfl,su⟩;have B9:=bT B8 su;replace X1:=X1.keep su;clear su B8
 try clear aZ
 try clear bf
 try clear bg
 try clear bK
 obtain ⟨aZ,bf,bg,bK,-,-,-⟩:=X1.aJ
 cases h1:Aj p
 case false =>
  have hf:=Lib.hid (show 2=q by rw [<- Hq.out,if_pos (by rw [Gm,h1];simp)]);clear h1;go_wp2_with fail;go_ret;exact ⟨dY hf.out,bT Bw B9⟩
 have hq:=Hq.out;rw [if_neg (show ¬ tY p=false by rw [Gm,h1,H3.out,H4.out,H5.out];decide)] at hq;replace Hq:=Lib.hid hq;clear hq h1;go_wp2_with fail;refine (acw _ _ p _ _ (HP.out.mono (bT Bw B9)) (jI.out.mono B9)).mono ?_;rintro e w10 ⟨rfl,AY⟩;have B10:=bT B9 AY;replace X1:=X1.keep AY;clear AY B9
 try clear aZ
 try clear bf
 try clear bg
 try clear bK
 obtain ⟨aZ,bf,bg,bK,-,-,-⟩:=X1.aJ;by_cases h1:rX p (p.nodes.map (·.id))=0
 case neg =>
  have hf:=Lib.hid (show rX p (p.nodes.map (·.id))=q by rw [<- Hq.out,if_neg h1]);generalize rX p (p.nodes.map (·.id))=c at *;go_wp2_with fail;go_ret;exact ⟨dY hf.out,bT Bw B10⟩
 have hq:=Hq.out;rw [if_pos h1] at hq;replace Hq:=Lib.hid hq;have adG:=Lib.hid (adz p h1);rw [h1];clear hq h1;have wP:Hid (Sound p):=Lib.hid ⟨JE _ H1.out,JE _ H2.out,adG.out⟩;go_wp2_with fail;refine (ads _ p _ (HP.out.mono (bT Bw B10)) ji.out HLen.out (by omega) (adD H3.out) wP.out).mono ?_;rintro e yU ⟨rfl,yV⟩;have B11:=bT B10 yV;clear yV B10 X1 aZ bf bg bK
 cases h1:rW p
 case false =>
  have hf:=Lib.hid (show 11=q by rw [<- Hq.out,if_pos h1]);clear h1;go_wp2_with fail;go_ret;exact ⟨dY hf.out,bT Bw B11⟩
 case true =>
  have hf:=Lib.hid (show 0=q by rw [<- Hq.out,if_neg (by rw [h1];decide)]);clear h1;go_wp2_with fail;go_ret;exact ⟨dY hf.out,bT Bw B11⟩
structure Valid (p:Pl):Prop where
 lim:lH p=false
 ord:wH p=true
 rng:tY p=true
 dup:wE (p.nodes.map (·.pt))=false
 ends:p.au.all (jk p)=true
 sides:DR p=true
 adH:rW p=true
theorem WJ (p:Pl):mg p=0↔Valid p:=by
 unfold mg;constructor
 ·intro h;split at h
  · cases h
  rename_i h1;split at h
  · cases h
  rename_i h2;split at h
  · cases h
  rename_i h3;split at h
  · cases h
  rename_i h4;split at h
  · cases h
  rename_i h5;split at h
  · cases h
  rename_i h6;split at h
  · cases h
  rename_i h7;exact ⟨by simpa using h1,by simpa using h2,by simpa using h3,by simpa using h4,by simpa using h5,by simpa using h6,by simpa using h7⟩
 ·rintro ⟨h1,h2,h3,h4,h5,h6,h7⟩;simp [h1,h2,h3,h4,h5,h6,h7]
section
variable {p:Pl}
theorem Valid.sound (h:Valid p):Sound p:=by
 have ho:=h.ord;unfold wH at ho;rw [Bool.and_eq_true,Bool.and_eq_true] at ho;exact ⟨JE _ ho.1.1,JE _ ho.1.2,List.all_eq_true.1 h.ends⟩
theorem adI {q:Pt} (h:fK q=true):dI q=true:=by
 simp only [fK,Bool.and_eq_true,decide_eq_true_eq] at h;rw [tC];omega
theorem Valid.near (h:Valid p) {q:Pt} (hq:q∈oU p):dI q=true:=by
 have hr:=h.rng;unfold tY at hr;rw [Bool.and_eq_true] at hr;exact adI (List.all_eq_true.1 hr.2 q hq)
theorem Valid.OI (h:Valid p) {n:Nd} (hn:n∈p.nodes):dI n.pt=true:=h.near (List.mem_append_left _ (List.mem_map_of_mem hn))
theorem Valid.adJ (h:Valid p) {a:Ar} (ha:a∈p.au) {q:Pt} (hq:q∈a.via):dI q=true:=h.near (List.mem_append_right _ (List.mem_flatMap.2 ⟨a,ha,hq⟩))
theorem Sound.JQ (hp:Sound p) {a:Ar} (ha:a∈p.au):∃ n∈p.nodes,n.id=a.fr/\nodeAt p a.fr=n.pt:=by
 obtain ⟨⟨n,hn,e⟩,-⟩:=hp.JG ha;exact ⟨n,hn,e,by rw [<- e,hp.wL hn]⟩
theorem Sound.JR (hp:Sound p) {a:Ar} (ha:a∈p.au):∃ n∈p.nodes,n.id=a.dst/\nodeAt p a.dst=n.pt:=by
 obtain ⟨-,⟨n,hn,e⟩⟩:=hp.JG ha;exact ⟨n,hn,e,by rw [<- e,hp.wL hn]⟩
theorem Valid.adK (h:Valid p) {a:Ar} (ha:a∈p.au) {q:Pt} (hq:q∈aK p a):dI q=true:=by
 unfold aK at hq;rcases List.mem_cons.1 hq with rfl | hq
 ·obtain ⟨n,hn,-,e⟩:=h.sound.JQ ha;rw [e];exact h.OI hn
 ·rcases List.mem_append.1 hq with hq | hq
  · exact h.adJ ha hq
  ·rw [List.mem_singleton] at hq;subst hq;obtain ⟨n,hn,-,e⟩:=h.sound.JR ha;rw [e];exact h.OI hn
end
theorem adL (a b:Pt):bn a b=false↔b.x<a.x\/(a.x=b.x/\b.y<=a.y):=by
 rw [<- Bool.not_eq_true,kF];omega
theorem OJ (a b:Pt):bn a (lo a b)=false:=by
 rcases wG a b with ⟨h,-,h'⟩ | ⟨h,-,h'⟩
 · rw [h];exact DI a
 · rw [h];exact l9 h'
theorem WL (a b:Pt):bn b (lo a b)=false:=by rw [Oc];exact OJ b a
theorem OL (a b:Pt):bn (hi a b) a=false:=by
 rcases wG a b with ⟨-,h,h'⟩ | ⟨-,h,h'⟩
 · rw [h];exact h'
 · rw [h];exact DI a
theorem WM (a b:Pt):bn (hi a b) b=false:=by rw [Jq];exact OL b a
theorem adM {x y q:Pt} (h1:bn q x=false) (h2:bn q y=false):bn q (hi x y)=false:=by
 rcases wG x y with ⟨-,h,-⟩ | ⟨-,h,-⟩<;>rw [h]<;>assumption
theorem adN {x y q:Pt} (h1:bn x q=false) (h2:bn y q=false):bn (lo x y) q=false:=by
 rcases wG x y with ⟨h,-,-⟩ | ⟨h,-,-⟩<;>rw [h]<;>assumption
theorem WO {a b c d q:Pt} (h1:q=a\/q=b) (h2:q=c\/q=d):kR a b c d≠0:=by
 have f1:bn q (lo a b)=false:=by rcases h1 with rfl | rfl;exact OJ _ _;exact WL _ _
 have f2:bn q (lo c d)=false:=by rcases h2 with rfl | rfl;exact OJ _ _;exact WL _ _
 have g1:bn (hi a b) q=false:=by rcases h1 with rfl | rfl;exact OL _ _;exact WM _ _
 have g2:bn (hi c d) q=false:=by rcases h2 with rfl | rfl;exact OL _ _;exact WM _ _
 have f:=adM f1 f2;have g:=adN g1 g2;rw [wF];generalize hi (lo a b) (lo c d)=x at *;generalize lo (hi a b) (hi c d)=y at *;by_cases hxy:x=y
 · rw [if_pos hxy];omega
 ·rw [if_neg hxy]
  have:bn x y=true:=by
   rw [adL] at f g;rw [kF];have hne:¬ (x.x=y.x/\x.y=y.y):=fun e=>hxy (Pt.ext_iff'.2 e);omega
  rw [if_pos this];omega
theorem Ef {a b c d:Pt} (ha:dI a=true) (hb:dI b=true) (hc:dI c=true) (hd:dI d=true):dU [a,b,c,d]=true:=by simp [dU,ha,hb,hc,hd]
theorem WQ {a b c:Pt} (ha:dI a=true) (hb:dI b=true) (hc:dI c=true):gV a b c b≠0:=by
 unfold gV;rw [if_pos (Ef ha hb hc hb)];unfold uV;have e1:aC a b a c=- aC a b c b:=by unfold aC;grind
 have e2:aC a b a b=0:=by unfold aC;grind
 have e3:aC c b c a=aC a b c b:=by unfold aC;grind
 have e4:aC c b c b=0:=by unfold aC;grind
 have e5:aC a c c b=aC a b c b:=by unfold aC;grind
 have e6:aC a c a b=aC a b c b:=by unfold aC;grind
 rw [if_neg (show ¬ (a=b/\c=b/\¬ a=c) from fun h=>h.2.2 (h.1.trans h.2.1.symm)),e1,e2,e3,e4,e5,e6];generalize aC a b c b=n at *;by_cases h0:n=0
 ·rw [if_pos h0,if_pos (by omega)];exact WO (.inr rfl) (.inr rfl)
 ·rw [if_neg h0];by_cases hn:n<0
  · rw [if_pos hn,if_pos (by omega)];omega
  · rw [if_neg hn,if_pos (by omega)];omega
theorem adO {a b c:Pt} (ha:dI a=true) (hb:dI b=true) (hc:dI c=true):gV a b c a≠0:=by
 unfold gV;rw [if_pos (Ef ha hb hc ha)];unfold uV;have e1:aC a b a c=- aC a b c a:=by unfold aC;grind
 have e2:aC a b a a=0:=by unfold aC;grind
 have e3:aC c a c a=0:=by unfold aC;grind
 have e4:aC c a c b=- aC a b c a:=by unfold aC;grind
 have e5:aC a c c a=0:=by unfold aC;grind
 have e6:aC a c a b=aC a b c a:=by unfold aC;grind
 rw [if_neg (show ¬ (a=b/\c=a/\¬ a=c) from fun h=>h.2.2 h.2.1.symm),e1,e2,e3,e4,e5,e6];generalize aC a b c a=n at *;by_cases h0:n=0
 ·rw [if_pos h0,if_pos (by omega)];exact WO (.inl rfl) (.inr rfl)
 ·rw [if_neg h0];by_cases hn:n<0
  · rw [if_pos hn,if_pos (by omega)];omega
  · rw [if_neg hn,if_pos (by omega)];omega
def dQ (p:Pl) (a:Ar) (k:Nat):Sg:=⟨a,k,(aK p a).length-1,(aK p a).getD k aQ,(aK p a).getD (k+1) aQ⟩
theorem OM {p:Pl} {a:Ar} {k:Nat} (hk:k+1<(aK p a).length):dQ p a k∈Jt a (aK p a) :=
 List.mem_map.2 ⟨k,List.mem_range.2 (by omega),rfl⟩
theorem JU (p:Pl) (a:Ar) (j:Nat) (hj:j<a.via.length):(aK p a).getD (j+1) aQ=a.via[j]:=by
 unfold aK;rw [List.getD_cons_succ,List.getD_eq_getElem?_getD,List.getElem?_append_left hj,List.getElem?_eq_getElem hj];rfl
theorem adP (p:Pl) (a:Ar):(aK p a).getD 0 aQ=nodeAt p a.fr:=rfl
theorem adQ (p:Pl) (a:Ar) (j:Nat) (hj:j<(aK p a).length):(aK p a).getD j aQ∈aK p a:=by
 rw [List.getD_eq_getElem?_getD,List.getElem?_eq_getElem hj];exact List.getElem_mem hj
section
variable {p:Pl} (h:Valid p)
include h
theorem Valid.wM:(∀ a∈p.au,∀ k,k+1<(aK p a).length->Aw p (dQ p a k)=true) /\
  (∀ a∈p.au,∀ k m,k<m->m+1<(aK p a).length->FU (dQ p a k) (dQ p a m)=true) /\
  p.au.Pairwise (fun a b=>∀ k,k+1<(aK p a).length->∀ m,m+1<(aK p b).length->uX p (dQ p a k) (dQ p b m)=true):=by
 have hp:=h.adH;unfold rW at hp;rw [OD] at hp;obtain ⟨h1,h2⟩:=hp;unfold Ju at h1 h2;rw [List.pairwise_flatMap] at h2;refine ⟨fun a ha k hk=>h1 _ (List.mem_flatMap.2 ⟨a,ha,OM hk⟩),fun a ha k m hkm hm=>?_,?_⟩
 ·have h3:=h2.1 a ha;unfold Jt at h3;rw [List.pairwise_map,List.pairwise_iff_getElem] at h3;have h4:=h3 k m (by rw [List.length_range];omega) (by rw [List.length_range];omega) hkm;simp only [List.getElem_range] at h4;unfold DN at h4;rw [if_pos rfl] at h4;exact h4
 ·have hs:=h.sound.au;rw [List.pairwise_map] at hs;refine (hs.and h2.2).imp ?_;rintro a b ⟨hlt,h3⟩ k hk m hm;have h4:=h3 _ (OM hk) _ (OM hm);unfold DN at h4;rw [if_neg (show ¬ (dQ p a k).arc.id=(dQ p b m).arc.id from fun e=>by have e':a.id=b.id:=e;omega)] at h4;exact h4
theorem Valid.oW {a:Ar} (ha:a∈p.au) {k:Nat} (hk:k<(aK p a).length):dI ((aK p a).getD k aQ)=true:=h.adK ha (adQ p a k hk)
theorem Valid.JV {a:Ar} (ha:a∈p.au) {k:Nat} (hk:k+1<(aK p a).length) {n:Nd} (hn:n∈p.nodes) (ho:ql (dQ p a k).a (dQ p a k).b n.pt=true) :
  (k=0/\a.fr=n.id)\/(k=a.via.length/\a.dst=n.id):=by
 have h1:=h.wM.1 a ha k hk;unfold Aw at h1;rw [Bool.and_eq_true,List.all_eq_true] at h1;have h2:=h1.1 n hn;unfold FW at h2;rw [ho] at h2;unfold Ol dQ at h2;simp only [Bool.not_true,Bool.or_false,Bool.or_eq_true,Bool.and_eq_true,beq_iff_eq] at h2;have hl:=jQ p a;rcases h2 with ⟨h3,h4⟩ | ⟨h3,h4⟩
 · left;exact ⟨by omega,h4⟩
 · right;exact ⟨by omega,h4⟩
theorem Valid.distinct {a:Ar} (ha:a∈p.au) {k:Nat} (hk:k+1<(aK p a).length):(aK p a).getD k aQ≠(aK p a).getD (k+1) aQ/\(a.fr=a.dst->4<=(aK p a).length):=by
 have h1:=h.wM.1 a ha k hk;unfold Aw FX dQ at h1;simp only [Bool.and_eq_true,Bool.not_eq_true',decide_eq_false_iff_not,Bool.or_eq_true,bne_iff_ne,decide_eq_true_eq] at h1;refine ⟨h1.2.1,fun e=>?_⟩;rcases h1.2.2 with h2 | h2
 · exact absurd e h2
 · omega
theorem Valid.adR {a:Ar} (ha:a∈p.au) {j m:Nat} (hjm:j<m) (hm:m<a.via.length):a.via[j]≠a.via[m]:=by
 intro e;have hl:=jQ p a;have e1:=JU p a j (by omega);have e2:=JU p a m hm;by_cases hn:m=j+1
 ·subst hn;have:=(h.distinct ha (k:=j+1) (by omega)).1
  rw [e1,e2] at this;exact this e
 ·have h1:=h.wM.2.1 a ha j m hjm (by omega);unfold FU at h1;have hc:¬ ((dQ p a m).i=(dQ p a j).i+1\/((dQ p a j).i=0/\(dQ p a m).i+1=(dQ p a m).n/\(dQ p a j).arc.fr=(dQ p a j).arc.dst)):=by
   unfold dQ;simp only [];omega
  rw [if_neg hc] at h1;have h2:gV ((aK p a).getD j aQ) ((aK p a).getD (j+1) aQ) ((aK p a).getD m aQ) ((aK p a).getD (m+1) aQ)=0:=by simpa [dQ] using h1
  rw [e2,<- e,<- e1] at h2;exact WQ (h.oW ha (by omega)) (h.oW ha (by omega)) (h.oW ha (by omega)) h2
theorem Valid.adS:p.au.Pairwise (fun a b=>∀ x∈a.via,∀ y∈b.via,x≠y):=by
 refine (List.Pairwise.and_mem.1 h.wM.2.2).imp ?_;rintro a b ⟨ha,hb,hj⟩ x hx y hy e;obtain ⟨j,hjl,rfl⟩:=List.mem_iff_getElem.1 hx;obtain ⟨m,hml,rfl⟩:=List.mem_iff_getElem.1 hy;have hla:=jQ p a;have hlb:=jQ p b;have e1:=JU p a j hjl;have e2:=JU p b m hml;have j1:=hj j (by omega) m (by omega);have j2:=hj (j+1) (by omega) m (by omega);unfold uX at j1 j2;have n1:gV (dQ p a j).a (dQ p a j).b (dQ p b m).a (dQ p b m).b≠0:=by
  unfold dQ;simp only [];rw [e2,<- e,<- e1];exact WQ (h.oW ha (by omega)) (h.oW ha (by omega)) (h.oW hb (by omega))
 have n2:gV (dQ p a (j+1)).a (dQ p a (j+1)).b (dQ p b m).a (dQ p b m).b≠0:=by
  unfold dQ;simp only [];rw [e2,<- e,<- e1];exact adO (h.oW ha (by omega)) (h.oW ha (by omega)) (h.oW hb (by omega))
 have m1:gV (dQ p a j).a (dQ p a j).b (dQ p b m).a (dQ p b m).b=1:=by
  by_cases hh:gV (dQ p a j).a (dQ p a j).b (dQ p b m).a (dQ p b m).b=1
  · exact hh
  · rw [if_neg hh] at j1;exact absurd (by simpa using j1) n1
 have m2:gV (dQ p a (j+1)).a (dQ p a (j+1)).b (dQ p b m).a (dQ p b m).b=1:=by
  by_cases hh:gV (dQ p a (j+1)).a (dQ p a (j+1)).b (dQ p b m).a (dQ p b m).b=1
  · exact hh
  · rw [if_neg hh] at j2;exact absurd (by simpa using j2) n2
 rw [if_pos m1,List.any_eq_true] at j1;rw [if_pos m2,List.any_eq_true] at j2;obtain ⟨n,hn,hn'⟩:=j1;obtain ⟨n',hm,hm'⟩:=j2;unfold DL at hn' hm';rw [Bool.and_eq_true,Bool.and_eq_true] at hn' hm';have k1:=h.JV ha (by omega) hn hn'.1.2;have k2:=h.JV hb (by omega) hn hn'.2;have k3:=h.JV ha (by omega) hm hm'.1.2;have k4:=h.JV hb (by omega) hm hm'.2;have hd:=(h.distinct ha (k:=j) (by omega)).2;omega
theorem Valid.mM:(p.au.flatMap (·.via)).Pairwise (·≠·):=by
 rw [List.pairwise_flatMap];refine ⟨fun a ha=>?_,h.adS⟩;rw [List.pairwise_iff_getElem];intro i j hi hj hij;exact h.adR ha hij hj
end
theorem adT {o a b:Pt} (ha:a≠o) (hb:b≠o) (h1:¬ kT o a b) (h2:¬ kT o b a):tw o a b=0/\(bn o a=true↔bn o b=true):=by
 have ha':=Oj.1 ha;have hb':=Oj.1 hb;unfold kT nY at h1 h2;have e:tw o a b=(a.x-o.x)*(b.y-o.y)-(a.y-o.y)*(b.x-o.x):=rfl;rw [kF,kF,e];generalize hux:a.x-o.x=ux at *;generalize huy:a.y-o.y=uy at *;generalize hvx:b.x-o.x=vx at *;generalize hvy:b.y-o.y=vy at *;rw [Int.mul_comm vx,Int.mul_comm vy] at h2;have hl:iQ ux uy↔iQ vx vy:=by
  by_cases l1:iQ ux uy<;>by_cases l2:iQ vx vy<;>simp [l1,l2] at h1 h2 ⊢
 have hz:ux*vy-uy*vx=0:=by
  rcases Int.lt_trichotomy (ux*vy-uy*vx) 0 with h | h | h
  · exact absurd (.inr ⟨hl.symm,by omega⟩) h2
  · exact h
  · exact absurd (.inr ⟨hl,h⟩) h1
 refine ⟨hz,?_⟩;have m1:∀ {a b:Int},0<a->0<b->0<a*b:=Int.mul_pos;have m2:∀ {a b:Int},0<a->b<0->a*b<0:=Int.mul_neg_of_pos_of_neg;have m3:∀ {a b:Int},a<0->0<b->a*b<0:=Int.mul_neg_of_neg_of_pos;have m4:∀ {a b:Int},a<0->b<0->0<a*b:=Int.mul_pos_of_neg_of_neg;unfold iQ at hl;have key:(0<ux↔0<vx)/\(ux<0↔vx<0):=by
  rcases Int.lt_trichotomy uy 0 with y1 | y1 | y1
  ·have y2:vy<0:=by
    rcases Int.lt_trichotomy vy 0 with y2 | y2 | y2
    · exact y2
    ·have h3:vx<0:=by omega
     have:=m4 y1 h3
     rw [y2,Int.mul_zero] at hz;omega
    · omega
   rcases Int.lt_trichotomy ux 0 with x1 | x1 | x1<;>rcases Int.lt_trichotomy vx 0 with x2 | x2 | x2
   · omega
   · have:=m4 x1 y2;rw [x2,Int.mul_zero] at hz;omega
   · have h3:=m4 x1 y2;have h4:=m3 y1 x2;omega
   · have:=m4 y1 x2;rw [x1,Int.zero_mul] at hz;omega
   · omega
   · have:=m3 y1 x2;rw [x1,Int.zero_mul] at hz;omega
   · have h3:=m2 x1 y2;have h4:=m4 y1 x2;omega
   · have:=m2 x1 y2;rw [x2,Int.mul_zero] at hz;omega
   · omega
  ·rw [y1,Int.zero_mul] at hz;have hx:ux≠0:=by omega
   have y2:vy=0:=by
    rcases Int.mul_eq_zero.1 (show ux*vy=0 by omega) with h | h
    · exact absurd h hx
    · exact h
   omega
  ·have y2:0<vy:=by
    rcases Int.lt_trichotomy vy 0 with y2 | y2 | y2
    · omega
    ·have h3:0<vx:=by omega
     have:=m1 y1 h3
     rw [y2,Int.mul_zero] at hz;omega
    · exact y2
   rcases Int.lt_trichotomy ux 0 with x1 | x1 | x1<;>rcases Int.lt_trichotomy vx 0 with x2 | x2 | x2
   · omega
   · have:=m3 x1 y2;rw [x2,Int.mul_zero] at hz;omega
   · have h3:=m3 x1 y2;have h4:=m1 y1 x2;omega
   · have:=m2 y1 x2;rw [x1,Int.zero_mul] at hz;omega
   · omega
   · have:=m1 y1 x2;rw [x1,Int.zero_mul] at hz;omega
   · have h3:=m1 x1 y2;have h4:=m2 y1 x2;omega
   · have:=m1 x1 y2;rw [x2,Int.mul_zero] at hz;omega
   · omega
 omega
theorem adU {o a b:Pt} (ha:a≠o) (hb:b≠o) (h:bn o a=true↔bn o b=true):kR o a o b=2:=by
 have tri:∀ q:Pt,q≠o->bn o q=true\/bn q o=true:=fun q hq=>by
  cases h1:bn o q
  ·cases h2:bn q o
   · exact absurd (DJ h2 h1) hq
   · exact .inr rfl
  · exact .inl rfl
 rw [wF];rcases tri a ha with h1 | h1
 ·have h2:=h.1 h1;have e1:lo o a=o:=by unfold lo;rw [l9 h1];simp
  have e2:lo o b=o:=by unfold lo;rw [l9 h2];simp
  have e3:hi o a=a:=by unfold hi;rw [l9 h1];simp
  have e4:hi o b=b:=by unfold hi;rw [l9 h2];simp
  have e5:hi o o=o:=by unfold hi;rw [DI];simp
  rw [e1,e2,e3,e4,e5];have e6:lo a b=a\/lo a b=b:=by unfold lo;split;exact .inr rfl;exact .inl rfl
  rcases e6 with e6 | e6<;>rw [e6]
  · rw [if_neg (fun e=>ha e.symm),if_pos h1]
  · rw [if_neg (fun e=>hb e.symm),if_pos h2]
 ·have h2:bn b o=true:=by
   rcases tri b hb with h3 | h3
   · rw [l9 (h.2 h3)] at h1;cases h1
   · exact h3
  have e1:lo o a=a:=by unfold lo;rw [h1];simp
  have e2:lo o b=b:=by unfold lo;rw [h2];simp
  have e3:hi o a=o:=by unfold hi;rw [h1];simp
  have e4:hi o b=o:=by unfold hi;rw [h2];simp
  have e5:lo o o=o:=by unfold lo;rw [DI];simp
  rw [e1,e2,e3,e4,e5];have e6:hi a b=a\/hi a b=b:=by unfold hi;split;exact .inl rfl;exact .inr rfl
  rcases e6 with e6 | e6<;>rw [e6]
  · rw [if_neg ha,if_pos h1]
  · rw [if_neg hb,if_pos h2]
theorem adV {o a b:Pt} (ho:dI o=true) (hna:dI a=true) (hnb:dI b=true) (ha:a≠o) (hb:b≠o) (h1:¬ kT o a b) (h2:¬ kT o b a) :
  gV o a o b=2/\gV a o o b=2/\gV o a b o=2/\gV a o b o=2:=by
 obtain ⟨hc,hbf⟩:=adT ha hb h1 h2;have hs:=adU ha hb hbf;have c1:kR a o o b=2:=by rw [<- hs];exact Oe a o o b
 have c2:kR o a b o=2:=by rw [DK,Oe,DK];exact hs
 have c3:kR a o b o=2:=by rw [DK,Oe,DK];exact c1
 unfold tw at hc;unfold gV uV;refine ⟨?_,?_,?_,?_⟩
 · rw [if_pos (Ef ho hna ho hnb),if_neg (fun e=>ha e.1.symm),if_pos (by unfold aC;grind),if_pos ⟨by unfold aC;grind,by unfold aC;grind,by unfold aC;grind,by unfold aC;grind⟩];exact hs
 · rw [if_pos (Ef hna ho ho hnb),if_neg (fun e=>ha e.1),if_pos (by unfold aC;grind),if_pos ⟨by unfold aC;grind,by unfold aC;grind,by unfold aC;grind,by unfold aC;grind⟩];exact c1
 · rw [if_pos (Ef ho hna hnb ho),if_neg (fun e=>ha e.1.symm),if_pos (by unfold aC;grind),if_pos ⟨by unfold aC;grind,by unfold aC;grind,by unfold aC;grind,by unfold aC;grind⟩];exact c2
 · rw [if_pos (Ef hna ho hnb ho),if_neg (fun e=>ha e.1),if_pos (by unfold aC;grind),if_pos ⟨by unfold aC;grind,by unfold aC;grind,by unfold aC;grind,by unfold aC;grind⟩];exact c3
section
variable {α:Type}
theorem OO {lt:α->α->Bool}:∀ {l m:List α},l.Perm m->l.Pairwise (fun a b=>lt b a=false)->m.Pairwise (fun a b=>lt b a=false)->(∀ a∈l,∀ b∈l,lt a b=false->lt b a=false->a=b)->l=m
 | [],m,hp,_,_,_=>(List.nil_perm.1 hp).symm
 | a::l,[],hp,_,_,_=>by have:=hp.length_eq;simp at this
 | a::l,b::m,hp,h1,h2,ht=>by
  have h1':=List.pairwise_cons.1 h1;have h2':=List.pairwise_cons.1 h2;have hab:a=b:=by
   have ha:a∈b::m:=hp.subset (List.mem_cons_self);have hb:b∈a::l:=hp.symm.subset (List.mem_cons_self);rcases List.mem_cons.1 ha with e | ha
   · exact e
   rcases List.mem_cons.1 hb with e | hb
   · exact e.symm
   exact ht a List.mem_cons_self b (List.mem_cons_of_mem _ hb) (h2'.1 a ha) (h1'.1 b hb)
  subst hab;rw [OO (List.Perm.cons_inv hp) h1'.2 h2'.2 (fun x hx y hy=>ht x (List.mem_cons_of_mem _ hx) y (List.mem_cons_of_mem _ hy))]
theorem JW:∀ {l m:List Int},l.Nodup->(∀ x∈l,x∈m)->l.length<=m.length
 | [],m,_,_=>Nat.zero_le _
 | a::l,m,h,hs=>by
  have h':=List.nodup_cons.1 h;have ha:=hs a List.mem_cons_self;have:=JW (m:=m.erase a) h'.2 (fun x hx=>(List.mem_erase_of_ne (fun e=>h'.1 (by rw [<- e];exact hx))).2 (hs x (List.mem_cons_of_mem _ hx)))
  rw [List.length_erase_of_mem ha] at this;have hp:0<m.length:=List.length_pos_of_mem ha;simp only [List.length_cons];omega
def iter (f:Int->Int) (x:Int):Nat->List Int
 | 0=>[]
 | n+1=>x::iter f (f x) n
def pw (f:Int->Int) (x:Int):Nat->Int
 | 0=>x
 | n+1=>f (pw f x n)
theorem WR (f:Int->Int) (x:Int) (n:Nat):pw f (f x) n=pw f x (n+1):=by
 induction n with
 | zero=>rfl
 | succ n ih=>rw [pw,ih];rfl
theorem vk (f:Int->Int) (x:Int) (n:Nat):(iter f x n).length=n:=by
 induction n generalizing x with
 | zero=>rfl
 | succ n ih=>simp [iter,ih]
theorem Eh (f:Int->Int) (x:Int) (n k:Nat) (hk:k<(iter f x n).length):(iter f x n)[k]=pw f x k:=by
 induction n generalizing x k with
 | zero=>simp [iter] at hk
 | succ n ih =>
  cases k with
  | zero=>rfl
  | succ k =>
   simp only [iter,List.getElem_cons_succ];rw [ih (f x) k (by simpa [iter] using hk),WR]
theorem WS (f:Int->Int) (x:Int) (n:Nat):iter f x (n+1)=iter f x n++[pw f x n]:=by
 induction n generalizing x with
 | zero=>rfl
 | succ n ih =>
  rw [iter,ih (f x),WR];rfl
variable {f:Int->Int} {D:List Int} (hD:∀ x∈D,f x∈D) (hi:∀ x∈D,∀ y∈D,f x=f y->x=y)
include hD in
theorem yX {x:Int} (hx:x∈D) (n:Nat):pw f x n∈D:=by
 induction n with
 | zero=>exact hx
 | succ n ih=>exact hD _ ih
include hD hi in
theorem WT {x:Int} (hx:x∈D) {i j:Nat} (h:pw f x i=pw f x (i+j)):pw f x j=x:=by
 induction i with
 | zero=>rw [Nat.zero_add] at h;exact h.symm
 | succ i ih =>
  refine ih (hi _ (yX hD hx i) _ (yX hD hx (i+j)) ?_);rw [show i+1+j=(i+j)+1 by omega] at h;exact h
theorem WU (f:Int->Int) (x:Int) (n:Nat):(iter f x n).Nodup\/∃ i j,0<j/\i+j<n/\pw f x i=pw f x (i+j):=by
 induction n with
 | zero=>exact .inl List.nodup_nil
 | succ n ih =>
  rcases ih with h | ⟨i,j,h1,h2,h3⟩
  ·by_cases hm:pw f x n∈iter f x n
   ·right;obtain ⟨k,hk,e⟩:=List.mem_iff_getElem.1 hm;rw [Eh] at e;rw [vk] at hk;exact ⟨k,n-k,by omega,by omega,by rw [e,show k+(n-k)=n by omega]⟩
   ·left;rw [WS,List.nodup_append];refine ⟨h,by simp,fun a ha b hb=>?_⟩;rw [List.mem_singleton] at hb;subst hb;exact fun e=>hm (e ▸ ha)
  · exact .inr ⟨i,j,h1,by omega,h3⟩
include hD hi in
theorem returns {x:Int} (hx:x∈D):∃ j,0<j/\j<=D.length/\pw f x j=x:=by
 rcases WU f x (D.length+1) with h | ⟨i,j,h1,h2,h3⟩
 ·have:=JW h (fun y hy=>by
   obtain ⟨k,hk,rfl⟩:=List.mem_iff_getElem.1 hy;rw [Eh];exact yX hD hx k)
  rw [vk] at this;omega
 · exact ⟨j,h1,by omega,WT hD hi hx h3⟩
def per (f:Int->Int) (x:Int):Nat->Nat->Nat
 | k,0=>k
 | k,n+1=>if pw f x k=x then k else per f x (k+1) n
theorem adW (f:Int->Int) (x:Int) (k n:Nat):k<=per f x k n/\∀ j,k<=j->j<per f x k n->pw f x j≠x:=by
 induction n generalizing k with
 | zero=>exact ⟨Nat.le_refl _,fun j h1 h2=>by simp only [per] at h2;omega⟩
 | succ n ih =>
  unfold per;split
  · exact ⟨Nat.le_refl _,fun j h1 h2=>by omega⟩
  ·rename_i hne;obtain ⟨h1,h2⟩:=ih (k+1);refine ⟨by omega,fun j hj hj2=>?_⟩;by_cases e:j=k
   · subst e;exact hne
   · exact h2 j (by omega) hj2
theorem adX (f:Int->Int) (x:Int) (k n:Nat) (h:∃ j,k<=j/\j<=k+n/\pw f x j=x):pw f x (per f x k n)=x/\per f x k n<=k+n:=by
 induction n generalizing k with
 | zero =>
  obtain ⟨j,h1,h2,h3⟩:=h
  have:j=k:=by omega
  subst this;exact ⟨h3,Nat.le_refl _⟩
 | succ n ih =>
  unfold per;split
  · rename_i e;exact ⟨e,by omega⟩
  ·rename_i hne;obtain ⟨j,h1,h2,h3⟩:=h;have:=ih (k+1) ⟨j,by
    by_cases e:j=k
    · subst e;exact absurd h3 hne
    · omega,by omega,h3⟩
   exact ⟨this.1,by omega⟩
def kW (f:Int->Int) (D:List Int) (x:Int):Nat:=per f x 1 D.length
def jJ (f:Int->Int) (D:List Int) (x:Int):List Int:=iter f x (kW f D x)
include hD hi in
theorem yY {x:Int} (hx:x∈D):0<kW f D x/\kW f D x<=D.length+1/\pw f x (kW f D x)=x/\(∀ j,0<j->j<kW f D x->pw f x j≠x)/\(jJ f D x).Nodup/\(jJ f D x).length=kW f D x:=by
 obtain ⟨j,h1,h2,h3⟩:=returns hD hi hx;obtain ⟨a1,a2⟩:=adW f x 1 D.length;obtain ⟨b1,b2⟩:=adX f x 1 D.length ⟨j,h1,by omega,h3⟩;refine ⟨a1,by show per f x 1 D.length<=_;omega,b1,fun j h1 h2=>a2 j h1 h2,?_,vk _ _ _⟩;rcases WU f x (kW f D x) with h | ⟨i,j,c1,c2,c3⟩
 · exact h
 · exact absurd (WT hD hi hx c3) (a2 j c1 (by unfold kW at c2;omega))
theorem yZ {f:Int->Int} {x y:Int} {n:Nat}:y∈iter f x n↔∃ k,k<n/\pw f x k=y:=by
 rw [List.mem_iff_getElem];constructor
 ·rintro ⟨k,hk,e⟩;rw [Eh] at e;rw [vk] at hk;exact ⟨k,hk,e⟩
 ·rintro ⟨k,hk,e⟩;exact ⟨k,by rw [vk];exact hk,by rw [Eh];exact e⟩
include hD hi in
theorem adY {x y:Int} (hx:x∈D):y∈D->(f y∈jJ f D x↔y∈jJ f D x):=by
 intro hy;obtain ⟨h1,-,h3,-,-,-⟩:=yY hD hi hx;unfold jJ;rw [yZ,yZ];constructor
 ·rintro ⟨k,hk,e⟩
  cases k with
  | zero =>
   refine ⟨kW f D x-1,by omega,hi _ (yX hD hx _) _ hy ?_⟩
   have:pw f x (kW f D x-1+1)=x:=by rw [Nat.sub_add_cancel h1];exact h3
   rw [pw] at this;rw [this];exact e
  | succ k=>exact ⟨k,by omega,hi _ (yX hD hx _) _ hy e⟩
 ·rintro ⟨k,hk,rfl⟩;by_cases e:k+1=kW f D x
  ·refine ⟨0,h1,?_⟩;have h4:pw f x (k+1)=x:=by rw [e];exact h3
   exact h4.symm
  · exact ⟨k+1,by omega,rfl⟩
end
section
def qI (f:Int->Int) (D:List Int) (acc:List (List Int)) (d:Int):List (List Int):=if d∈acc.flatten then acc else acc++[jJ f D d]
def OQ (f:Int->Int) (D L:List Int):List (List Int):=L.foldl (qI f D) []
variable {f:Int->Int} {D:List Int}
theorem WV {x:Int} (h:0<kW f D x):x∈jJ f D x:=yZ.2 ⟨0,h,rfl⟩
theorem OT (hD:∀ x∈D,f x∈D) {x y:Int} (hx:x∈D) (hy:y∈jJ f D x):y∈D:=by
 obtain ⟨k,-,rfl⟩:=yZ.1 hy;exact yX hD hx k
structure lM (f:Int->Int) (D P:List Int) (acc:List (List Int)):Prop where
 Gn:∀ l∈acc,∃ d∈P,l=jJ f D d/\∀ e∈l,e∈P->d<=e
 covers:∀ x∈P,x∈acc.flatten
 nodup:acc.flatten.Nodup
 closed:∀ y∈D,f y∈acc.flatten↔y∈acc.flatten
theorem lM.back {P:List Int} {acc:List (List Int)} (h:lM f D P acc) (hD:∀ x∈D,f x∈D) {x:Int} (hx:x∈D) (k:Nat):pw f x k∈acc.flatten↔x∈acc.flatten:=by
 induction k with
 | zero=>exact Iff.rfl
 | succ k ih=>exact (h.closed _ (yX hD hx k)).trans ih
theorem lM.nil (f:Int->Int) (D:List Int):lM f D [] []:=⟨fun l h=>(by cases h),fun x h=>(by cases h),List.nodup_nil,fun y _=>⟨fun h=>(by cases h),fun h=>(by cases h)⟩⟩
theorem lM.apart {P:List Int} {acc:List (List Int)} (h:lM f D P acc) (hD:∀ x∈D,f x∈D) {d:Int} (hd:d∈D) (hm:d∉acc.flatten) {y:Int} (hy:y∈jJ f D d):y∉acc.flatten:=by
 obtain ⟨k,-,rfl⟩:=yZ.1 hy;exact fun e=>hm ((h.back hD hd k).1 e)
theorem lM.step {P:List Int} {acc:List (List Int)} (h:lM f D P acc) (hD:∀ x∈D,f x∈D) (hi:∀ x∈D,∀ y∈D,f x=f y->x=y) {d:Int} (hd:d∈D) (hlt:∀ x∈P,x<d):lM f D (P++[d]) (qI f D acc d):=by
 unfold qI;by_cases hm:d∈acc.flatten
 ·rw [if_pos hm];refine ⟨fun l hl=>?_,fun x hx=>?_,h.nodup,h.closed⟩
  ·obtain ⟨d',h1,h2,h3⟩:=h.Gn l hl;refine ⟨d',List.mem_append_left _ h1,h2,fun e he hp=>?_⟩;rcases List.mem_append.1 hp with hp | hp
   · exact h3 e he hp
   · rw [List.mem_singleton] at hp;subst hp;exact Int.le_of_lt (hlt _ h1)
  ·rcases List.mem_append.1 hx with hx | hx
   · exact h.covers x hx
   · rw [List.mem_singleton] at hx;subst hx;exact hm
 ·rw [if_neg hm];obtain ⟨o1,-,-,-,o5,-⟩:=yY hD hi hd;have hfl:(acc++[jJ f D d]).flatten=acc.flatten++jJ f D d:=by simp
  refine ⟨fun l hl=>?_,fun x hx=>?_,?_,fun y hy=>?_⟩
  ·rcases List.mem_append.1 hl with hl | hl
   ·obtain ⟨d',h1,h2,h3⟩:=h.Gn l hl;refine ⟨d',List.mem_append_left _ h1,h2,fun e he hp=>?_⟩;rcases List.mem_append.1 hp with hp | hp
    · exact h3 e he hp
    · rw [List.mem_singleton] at hp;subst hp;exact Int.le_of_lt (hlt _ h1)
   ·rw [List.mem_singleton] at hl;refine ⟨d,List.mem_append_right _ (List.mem_singleton.2 rfl),hl,fun e he hp=>?_⟩;subst hl;rcases List.mem_append.1 hp with hp | hp
    · exact absurd (h.covers e hp) (h.apart hD hd hm he)
    · rw [List.mem_singleton] at hp;exact Int.le_of_eq hp.symm
  ·rw [hfl];rcases List.mem_append.1 hx with hx | hx
   · exact List.mem_append_left _ (h.covers x hx)
   · rw [List.mem_singleton] at hx;subst hx;exact List.mem_append_right _ (WV o1)
  ·rw [hfl,List.nodup_append];exact ⟨h.nodup,o5,fun a ha b hb e=>h.apart hD hd hm hb (e ▸ ha)⟩
  · rw [hfl,List.mem_append,List.mem_append,h.closed y hy,adY hD hi hd hy]
theorem OU (hD:∀ x∈D,f x∈D) (hi:∀ x∈D,∀ y∈D,f x=f y->x=y):∀ (L P:List Int) (acc:List (List Int)),lM f D P acc->(∀ x∈L,x∈D)->(P++L).Pairwise (· < ·)->lM f D (P++L) (L.foldl (qI f D) acc)
 | [],P,acc,h,_,_=>by rw [List.append_nil];exact h
 | d::L,P,acc,h,hs,hp=>by
  have hp':=List.pairwise_append.1 hp;have:=OU hD hi L (P++[d]) _ (h.step hD hi (hs d List.mem_cons_self) (fun x hx=>hp'.2.2 x hx d List.mem_cons_self)) (fun x hx=>hs x (List.mem_cons_of_mem _ hx)) (by rw [List.append_assoc];exact hp)
  rw [List.append_assoc] at this;exact this
theorem adZ (hD:∀ x∈D,f x∈D) (hi:∀ x∈D,∀ y∈D,f x=f y->x=y) (hs:D.Pairwise (· < ·)):lM f D D (OQ f D D):=by
 have:=OU hD hi D [] [] (lM.nil f D) (fun x hx=>hx) hs
 exact this
theorem lM.perm {acc:List (List Int)} (h:lM f D D acc) (hD:∀ x∈D,f x∈D) (hs:D.Nodup):acc.flatten.Perm D:=by
 refine (List.perm_ext_iff_of_nodup h.nodup hs).2 fun x=>⟨fun hx=>?_,h.covers x⟩;obtain ⟨l,hl,hx⟩:=List.mem_flatten.1 hx;obtain ⟨d,h1,h2,-⟩:=h.Gn l hl;subst h2;exact OT hD h1 hx
end
def mO (d:Int):Int:=if d<0 then -d else d
def JX:Int:=-9223372036854775808
def gW (p:Pl) (d:Int):Option Ar:=if d=0\/d=JX then none else findAr p.au (mO d)
def uq (p:Pl) (d:Int):Int:=match gW p d with
 | none=>0
 | some a=>if 0<d then a.fr else a.dst
def iF (p:Pl) (d:Int):Int:=match gW p d with
 | none=>0
 | some a=>if 0<d then a.left else a.right
def eu (l:List Ar) (n:Int):List Int:=l.flatMap fun a=>(if a.fr=n then [a.id] else [])++(if a.dst=n then [-a.id] else [])
def fJ (p:Pl) (d:Int):Pt:=match findAr p.au (mO d) with
 | none=>aQ
 | some a=>if 0<d then (aK p a).getD 1 aQ else (aK p a).getD a.via.length aQ
def dS (p:Pl):List Int:=(p.au.map (fun a=>-a.id)).reverse++p.au.map (·.id)
section
variable {p:Pl} (h:Valid p)
include h
theorem Valid.oC {a:Ar} (ha:a∈p.au):1<=a.id/\a.id<=1073741824:=by
 have hr:=h.rng;unfold tY at hr;rw [Bool.and_eq_true] at hr;have h1:=hr.1;rw [Bool.not_eq_true',List.any_eq_false] at h1;have:=h1 a.id (List.mem_append_left _ (List.mem_append_right _ (List.mem_map_of_mem ha)))
 unfold lZ at this;simp only [Bool.or_eq_true,decide_eq_true_eq,not_or] at this;omega
theorem Valid.ad1 {n:Nd} (hn:n∈p.nodes):1<=n.id/\n.id<=1073741824:=by
 have hr:=h.rng;unfold tY at hr;rw [Bool.and_eq_true] at hr;have h1:=hr.1;rw [Bool.not_eq_true',List.any_eq_false] at h1;have:=h1 n.id (List.mem_append_left _ (List.mem_append_left _ (List.mem_map_of_mem hn)))
 unfold lZ at this;simp only [Bool.or_eq_true,decide_eq_true_eq,not_or] at this;omega
theorem Valid.find {a:Ar} (ha:a∈p.au):findAr p.au a.id=some a:=JF (fun x:Ar=>x.id) p.au h.sound.au a ha
theorem Valid.ad2 {a b:Ar} (ha:a∈p.au) (hb:b∈p.au) (e:a.id=b.id):a=b:=by
 have h1:=h.find ha;rw [e,h.find hb] at h1;exact (Option.some.inj h1).symm
theorem Valid.OV {a:Ar} (ha:a∈p.au):gW p a.id=some a:=by
 have:=h.oC ha
 unfold gW mO JX;rw [if_neg (by omega),if_neg (by omega),h.find ha]
theorem Valid.WW {a:Ar} (ha:a∈p.au):gW p (-a.id)=some a:=by
 have:=h.oC ha
 unfold gW mO JX;rw [if_neg (by omega),if_pos (by omega),Int.neg_neg,h.find ha]
theorem Valid.WX {a:Ar} (ha:a∈p.au):uq p a.id=a.fr:=by
 have:=h.oC ha
 unfold uq;rw [h.OV ha]
 show (if 0<a.id then a.fr else a.dst)=a.fr
 rw [if_pos (by omega)]
theorem Valid.WY {a:Ar} (ha:a∈p.au):uq p (-a.id)=a.dst:=by
 have:=h.oC ha
 unfold uq;rw [h.WW ha]
 show (if 0 < -a.id then a.fr else a.dst)=a.dst
 rw [if_neg (by omega)]
theorem Valid.WZ {a:Ar} (ha:a∈p.au):fJ p a.id=(aK p a).getD 1 aQ:=by
 have:=h.oC ha
 unfold fJ mO;rw [if_neg (by omega),h.find ha]
 show (if 0<a.id then _ else _)=_
 rw [if_pos (by omega)]
theorem Valid.Xa {a:Ar} (ha:a∈p.au):fJ p (-a.id)=(aK p a).getD a.via.length aQ:=by
 have:=h.oC ha
 unfold fJ mO;rw [if_pos (by omega),Int.neg_neg,h.find ha]
 show (if 0 < -a.id then _ else _)=_
 rw [if_neg (by omega)]
end
theorem Gp {l:List Ar} {n d:Int}:d∈eu l n↔∃ a∈l,(d=a.id/\a.fr=n)\/(d=-a.id/\a.dst=n):=by
 unfold eu;rw [List.mem_flatMap];refine exists_congr fun a=>and_congr_right fun _=>?_;rw [List.mem_append];constructor
 ·rintro (h | h)
  ·split at h
   · rw [List.mem_singleton] at h;exact .inl ⟨h,by assumption⟩
   · cases h
  ·split at h
   · rw [List.mem_singleton] at h;exact .inr ⟨h,by assumption⟩
   · cases h
 ·rintro (⟨h1,h2⟩ | ⟨h1,h2⟩)
  · left;rw [if_pos h2,h1];exact List.mem_singleton.2 rfl
  · right;rw [if_pos h2,h1];exact List.mem_singleton.2 rfl
theorem y7 {p:Pl} {d:Int}:d∈dS p↔∃ a∈p.au,d=a.id\/d=-a.id:=by
 unfold dS;rw [List.mem_append,List.mem_reverse,List.mem_map,List.mem_map];constructor
 ·rintro (⟨a,ha,rfl⟩ | ⟨a,ha,rfl⟩)
  · exact ⟨a,ha,.inr rfl⟩
  · exact ⟨a,ha,.inl rfl⟩
 ·rintro ⟨a,ha,rfl | rfl⟩
  · exact .inr ⟨a,ha,rfl⟩
  · exact .inl ⟨a,ha,rfl⟩
section
variable {p:Pl} (h:Valid p)
include h
theorem Valid.OW {n:Nd} (hn:n∈p.nodes) {d:Int} (hd:d∈eu p.au n.id):∃ a∈p.au,∃ k,k+1<(aK p a).length /\
  ((d=a.id/\k=0/\a.fr=n.id/\(aK p a).getD k aQ=n.pt/\(aK p a).getD (k+1) aQ=fJ p d)\/(d=-a.id/\k=a.via.length/\a.dst=n.id/\(aK p a).getD (k+1) aQ=n.pt/\(aK p a).getD k aQ=fJ p d)):=by
 obtain ⟨a,ha,h1⟩:=Gp.1 hd;have hl:=jQ p a;rcases h1 with ⟨rfl,h2⟩ | ⟨rfl,h2⟩
 ·refine ⟨a,ha,0,by omega,.inl ⟨rfl,rfl,h2,?_,(h.WZ ha).symm⟩⟩;rw [adP,h2];exact h.sound.wL hn
 ·refine ⟨a,ha,a.via.length,by omega,.inr ⟨rfl,rfl,h2,?_,(h.Xa ha).symm⟩⟩;have:(aK p a).getD (a.via.length+1) aQ=nodeAt p a.dst:=by
   unfold aK;rw [List.getD_cons_succ,List.getD_eq_getElem?_getD,List.getElem?_append_right (by omega)];simp
  rw [this,h2];exact h.sound.wL hn
theorem Valid.Gq {n:Nd} (hn:n∈p.nodes) {d:Int} (hd:d∈eu p.au n.id):dI n.pt=true/\dI (fJ p d)=true/\fJ p d≠n.pt:=by
 obtain ⟨a,ha,k,hk,h1⟩:=h.OW hn hd;have n1:=h.oW ha (k:=k) (by omega);have n2:=h.oW ha (k:=k+1) hk;have hne:=(h.distinct ha hk).1;rcases h1 with ⟨-,-,-,e1,e2⟩ | ⟨-,-,-,e1,e2⟩
 · rw [e1] at n1 hne;rw [e2] at n2 hne;exact ⟨n1,n2,hne.symm⟩
 · rw [e1] at n2 hne;rw [e2] at n1 hne;exact ⟨n2,n1,hne⟩
theorem Valid.dirs {n:Nd} (hn:n∈p.nodes) {d1 d2:Int} (h1:d1∈eu p.au n.id) (h2:d2∈eu p.au n.id) (hne:d1≠d2):kT n.pt (fJ p d1) (fJ p d2)\/kT n.pt (fJ p d2) (fJ p d1):=by
 by_cases c1:kT n.pt (fJ p d1) (fJ p d2)
 · exact .inl c1
 by_cases c2:kT n.pt (fJ p d2) (fJ p d1)
 · exact .inr c2
 exfalso;have key:∀ {e1 e2:Int},e1∈eu p.au n.id->e2∈eu p.au n.id->¬ kT n.pt (fJ p e1) (fJ p e2)->¬ kT n.pt (fJ p e2) (fJ p e1)->∀ {a b:Ar} {k m:Nat},
   ((aK p a).getD k aQ=n.pt/\(aK p a).getD (k+1) aQ=fJ p e1\/(aK p a).getD (k+1) aQ=n.pt/\(aK p a).getD k aQ=fJ p e1) ->
   ((aK p b).getD m aQ=n.pt/\(aK p b).getD (m+1) aQ=fJ p e2\/(aK p b).getD (m+1) aQ=n.pt/\(aK p b).getD m aQ=fJ p e2) ->
   gV (dQ p a k).a (dQ p a k).b (dQ p b m).a (dQ p b m).b=2:=by
  intro e1 e2 m1 m2 q1 q2 a b k m s1 s2;obtain ⟨n0,n1,x1⟩:=h.Gq hn m1;obtain ⟨-,n2,x2⟩:=h.Gq hn m2;obtain ⟨r1,r2,r3,r4⟩:=adV n0 n1 n2 x1 x2 q1 q2;unfold dQ;rcases s1 with ⟨u1,u2⟩ | ⟨u1,u2⟩<;>rcases s2 with ⟨v1,v2⟩ | ⟨v1,v2⟩<;>simp only [u1,u2,v1,v2]
  · exact r1
  · exact r3
  · exact r2
  · exact r4
 obtain ⟨a,ha,k,hk,s1⟩:=h.OW hn h1;obtain ⟨b,hb,m,hm,s2⟩:=h.OW hn h2;have t1:(aK p a).getD k aQ=n.pt/\(aK p a).getD (k+1) aQ=fJ p d1\/(aK p a).getD (k+1) aQ=n.pt/\(aK p a).getD k aQ=fJ p d1:=by
  rcases s1 with ⟨-,-,-,e1,e2⟩ | ⟨-,-,-,e1,e2⟩
  · exact .inl ⟨e1,e2⟩
  · exact .inr ⟨e1,e2⟩
 have t2:(aK p b).getD m aQ=n.pt/\(aK p b).getD (m+1) aQ=fJ p d2\/(aK p b).getD (m+1) aQ=n.pt/\(aK p b).getD m aQ=fJ p d2:=by
  rcases s2 with ⟨-,-,-,e1,e2⟩ | ⟨-,-,-,e1,e2⟩
  · exact .inl ⟨e1,e2⟩
  · exact .inr ⟨e1,e2⟩
 have r12:=key h1 h2 c1 c2 t1 t2;have Xb:=key h2 h1 c2 c1 t2 t1;by_cases hab:a=b
 ·subst hab;have hl:=jQ p a;have same:∀ {d3 d4:Int} {i j:Nat},d3≠d4->((d3=a.id/\i=0/\a.fr=n.id)\/(d3=-a.id/\i=a.via.length/\a.dst=n.id))->((d4=a.id/\j=0/\a.fr=n.id)\/(d4=-a.id/\j=a.via.length/\a.dst=n.id))->gV (dQ p a i).a (dQ p a i).b (dQ p a j).a (dQ p a j).b=2->i<j->False:=by
   intro d3 d4 i j hne z1 z2 z3 z4;rcases z1 with ⟨y1,y2,y3⟩ | ⟨y1,y2,y3⟩
   ·rcases z2 with ⟨x1,x2,x3⟩ | ⟨x1,x2,x3⟩
    · omega
    ·have h4:=(h.distinct ha (k:=i) (by omega)).2 (y3.trans x3.symm);have hap:=h.wM.2.1 a ha i j z4 (by omega);unfold FU at hap;rw [z3] at hap;split at hap
     · simp at hap
     · simp at hap
   ·rcases z2 with ⟨x1,x2,x3⟩ | ⟨x1,x2,x3⟩
    · omega
    · omega
  have q1:(d1=a.id/\k=0/\a.fr=n.id)\/(d1=-a.id/\k=a.via.length/\a.dst=n.id):=by
   rcases s1 with ⟨y1,y2,y3,-⟩ | ⟨y1,y2,y3,-⟩
   · exact .inl ⟨y1,y2,y3⟩
   · exact .inr ⟨y1,y2,y3⟩
  have q2:(d2=a.id/\m=0/\a.fr=n.id)\/(d2=-a.id/\m=a.via.length/\a.dst=n.id):=by
   rcases s2 with ⟨y1,y2,y3,-⟩ | ⟨y1,y2,y3,-⟩
   · exact .inl ⟨y1,y2,y3⟩
   · exact .inr ⟨y1,y2,y3⟩
  rcases Nat.lt_trichotomy k m with hkm | hkm | hkm
  · exact same hne q1 q2 r12 hkm
  ·subst hkm;have hd4:=h.distinct ha hk;rcases q1 with ⟨y1,y2,y3⟩ | ⟨y1,y2,y3⟩
   ·rcases q2 with ⟨x1,x2,x3⟩ | ⟨x1,x2,x3⟩
    · exact hne (y1.trans x1.symm)
    · have:=hd4.2 (y3.trans x3.symm);omega
   ·rcases q2 with ⟨x1,x2,x3⟩ | ⟨x1,x2,x3⟩
    · have:=hd4.2 (x3.trans y3.symm);omega
    · exact hne (y1.trans x1.symm)
  · exact same (fun e=>hne e.symm) q2 q1 Xb hkm
 ·have hp:=h.wM.2.2;obtain ⟨i,hi,rfl⟩:=List.mem_iff_getElem.1 ha;obtain ⟨j,hj,rfl⟩:=List.mem_iff_getElem.1 hb;rw [List.pairwise_iff_getElem] at hp;have Xc:∀ {s t:Sg},uX p s t=true->gV s.a s.b t.a t.b=2->False:=by
   intro s t hj2 h2;unfold uX at hj2;rw [h2] at hj2;simp at hj2
  rcases Nat.lt_trichotomy i j with hij | hij | hij
  · exact Xc (hp i j hi hj hij k hk m hm) r12
  · subst hij;exact hab rfl
  · exact Xc (hp j i hj hi hij m hm k hk) Xb
end
end Go.Proofs.YtialfdomhoojiaaGreat
