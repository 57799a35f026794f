import Derived.Test.YtialfdomhoojiaaGreatJ34
import Derived.Test.YtialfdomhoojiaaGreatJ35
import Derived.Test.YtialfdomhoojiaaGreatJ26
import Derived.Test.YtialfdomhoojiaaGreatJ25
set_option linter.unusedSimpArgs false
set_option linter.unusedVariables false
namespace Go.Proofs.YtialfdomhoojiaaGreat
open Go.RowKit
theorem atB (p:Pt):Hg p=lZ p:=by
 unfold Hg lZ DJ;simp only [Bool.and_assoc]
theorem atC (v:Value) {p:Pl} (hv:Valid p) {k:Nat} (hk:k<p.ah.length) (w:World) (h:dS w v p):Calls Tryz.prog 27 #[v,.int .i64 p.ah[k].id] w fun e w' =>
  ∃ A c,e=.returned (.tuple #[.slice A (ak p p.ah[k]).length c,.int .i64 0])/\Below w.heap.size w w'/\gW w' (.slice A (ak p p.ah[k]).length c) (ak p p.ah[k]):=by
 refine (OA v p p.ah[k].id w h (fun a ha=>Nat.le_trans (hv.y9 ha) (by omega))).mono ?_;rintro e w' ⟨A,c,rfl,hb,ho⟩;rw [hv.sound.path (List.getElem_mem hk)] at ho ⊢;exact ⟨A,c,rfl,hb,Own.sl ho⟩
theorem ajg {α:Type} (hit:α->Bool) (id:α->Int) (k:Int) (t:Int×Int) {l:List α} {m:Nat} (hm:m<l.length) :
  (l.take (m+1)).foldl (lJ hit id k t) (false,0)=if hit l[m]=true then (decide (t.1=k) && decide (t.2=id l[m]),((l.take m).foldl (lJ hit id k t) (false,0)).2+1) else (l.take m).foldl (lJ hit id k t) (false,0):=by
 rw [List.take_succ_eq_append_getElem hm,List.foldl_append];rfl
theorem ajh {α:Type} (hit:α->Bool) (id:α->Int) (k:Int) (t:Int×Int):∀ (l:List α) (s:Bool×Int),s.2<=(l.foldl (lJ hit id k t) s).2/\(l.foldl (lJ hit id k t) s).2<=s.2+l.length
 | [],s=>by simp
 | x::l,s=>by
  have h:=ajh hit id k t l (lJ hit id k t s x);have h1:s.2<=(lJ hit id k t s x).2/\(lJ hit id k t s x).2<=s.2+1:=by unfold lJ;split<;>(try dsimp only)<;>omega
  rw [List.foldl_cons,List.length_cons];omega
theorem XG {α:Type} (hit:α->Bool) (id:α->Int) (k:Int) (t:Int×Int) (l:List α) (m:Nat):0<=((l.take m).foldl (lJ hit id k t) (false,0)).2/\((l.take m).foldl (lJ hit id k t) (false,0)).2<=m:=by
 have h:=ajh hit id k t (l.take m) (false,0);have:(l.take m).length<=m:=by rw [List.length_take];omega
 simp only at h;omega
set_option maxRecDepth 100000 in
set_option maxHeartbeats 8000000 in
theorem atD (v:Value) (p:Pl) (at_:Pt) (w:World) (h:dS w v p) (hs:FB p) :
  Calls Tryz.prog 6 #[v,bg at_] w fun e w'=>e=.returned (.bool true)/\Below w.heap.size w w':=by
 have RU:=Lib.hid (fun W (hW:Below w.heap.size w W)=>aje v p W (h.mono hW) (fun a ha=>Nat.le_trans (hs a ha) (by omega)));have kH:=Lib.hid (fun W (hW:Below w.heap.size w W)=>V9 v p W (h.mono hW));have xk:=Lib.hid (fun W (hW:Below w.heap.size w W)=>WC v p at_ W (h.mono hW));have sW:=Lib.hid (fun (hv:Valid p) k (hk:k<p.ah.length) W (hW:Below w.heap.size w W)=>atC v hv hk W (h.mono hW));have HGp:=Lib.hid (fun W=>aqy at_ W);have nZ:=Lib.hid (fun a b W=>KC a b at_ W);have zO:=Lib.hid ai1;obtain ⟨_,_,_,al,rfl,hpa,hN,⟨⟨Aa,ca,rfl,ha1,ha2,jy⟩,hV⟩,hF⟩:=h;have G6:=Lib.hid hF;obtain ⟨An,cn,rfl,hn1,hn2,J4⟩:=hN;obtain ⟨Af,cf,rfl,hf1,hf2,-⟩:=hF;have HRn:=Lib.hid J4;have lK:=Lib.hid jy;have Dl:=Lib.hid hV;have vF:=Lib.hid hpa;have HHs:=Lib.hid (fun n W (hW:Below w.heap.size w W)=>aqj _ p.faces n W (Ints.mono G6.out hW));have wI:=Lib.hid (show al.length=p.ah.length by rw [hpa,List.length_map]);unfold maxLen at ha2 hn2 hf2;generalize hnn:p.nodes.length=nn at *;generalize hnf:p.faces.length=nf at *;have Hu:=Lib.hid hnf;have DL:=Lib.hid hnn;unfold bg at HGp xk nZ ⊢;clear hs hpa jy J4 hV hnf hnn;go_enter Tryz.func6,Tryz.ntmps6;go_upto_region 1 with fail;obtain ⟨W1,hW⟩:∃ W1:World,W1=(w.alloc (.cells #[.slice An nn cn,.slice Aa al.length ca,.slice Af nf cf] 26)).alloc (.cells #[.int .i64 at_.x,.int .i64 at_.y] 39):=⟨_,rfl⟩;have X1:aj W1 w.heap.size 26 #[.slice An nn cn,.slice Aa al.length ca,.slice Af nf cf]:=by rw [hW];exact (aj.made rfl _ _).alloc _
 have X2:aj W1 (w.heap.size+1) 39 #[.int .i64 at_.x,.int .i64 at_.y]:=by rw [hW];exact aj.made (by simp) _ _
 have HB1:=Lib.hid (show Below w.heap.size w W1 by rw [hW];exact bA (bA (bR w) _) _);rw [<- hW];clear hW;have fK:=Lib.hid X1;have bU:=Lib.hid X2;obtain ⟨aO,aP,aS,aT,-,-,-⟩:=X1.aY;go_wp2_with fail;refine (RU.out _ HB1.out).mono ?_;rintro e w2 ⟨lt,rfl,hlt,hb2⟩;have HB2:=Lib.hid (bT HB1.out hb2);have EX:=Lib.hid (fK.out.keep hb2);have J5:=Lib.hid (bU.out.keep hb2);clear hb2 RU X1 aO aP aS aT X2 fK bU HB1
 cases lt
 case false =>
  go_wp2_with fail;refine (zO.out _).mono ?_;rintro e w3 ⟨rfl,hb3⟩;go_wp2_with fail;go_ret;exact ⟨rfl,bT HB2.out hb3⟩
 have Fb:=hlt rfl;have hal:al.length<=30:=by have:=Fb.ah;have:=wI.out;omega
 have hfl:nf<=30:=by have:=Fb.faces;have:=Hu.out;omega
 have hnl:nn<=30:=by have:=Fb.nodes;have:=DL.out;omega
 clear hlt Fb;have X2:=J5.out;obtain ⟨cu,cO,dH,-,-⟩:=X2.bH;go_wp2_with fail;refine (HGp.out _).mono ?_;rintro e w3 ⟨rfl,hb3⟩;have HB3:=Lib.hid (bT HB2.out hb3);have EO:=Lib.hid (EX.out.keep hb3);have XF:=Lib.hid (J5.out.keep hb3);clear hb3 HGp X2 cu cO dH EX J5 HB2
 cases hgp:Hg at_
 case false =>
  go_wp2_with fail;refine (zO.out _).mono ?_;rintro e w4 ⟨rfl,hb4⟩;go_wp2_with fail;go_ret;exact ⟨rfl,bT HB3.out hb4⟩
 have hok:lZ at_=true:=by rw [<- atB];exact hgp
 clear hgp;have X1:=EO.out
 try clear aO
 try clear aP
 try clear aS
 try clear aT
 obtain ⟨aO,aP,aS,aT,-,-,-⟩:=X1.aY;go_wp2_with fail;refine (kH.out _ HB3.out).mono ?_;rintro e w4 ⟨rfl,hb4⟩;have HB4:=Lib.hid (bT HB3.out hb4);have NH:=Lib.hid (EO.out.keep hb4);have acw:=Lib.hid (XF.out.keep hb4);clear hb4 kH X1 aO aP aS aT EO XF HB3;by_cases hz:iV p=0
 case neg =>
  generalize iV p=q at *;have hzb:(q != 0)=true:=by simpa using hz
  go_wp2_with fail;refine (zO.out _).mono ?_;rintro e w5 ⟨rfl,hb5⟩;go_wp2_with fail;go_ret;exact ⟨rfl,bT HB4.out hb5⟩
 have hlo:=abX hz hok;obtain ⟨hv,hfc⟩:=Nw hz;have HV:=Lib.hid hv;have H9:=Lib.hid (hv.locates (JD.1 hfc) (TU hok));rw [hlo] at xk;rw [hz];clear hz hv hfc hok hlo;generalize um p at_=T at *;obtain ⟨T1,T2⟩:=T;have X1:=NH.out;have X2:=acw.out
 try clear aO
 try clear aP
 try clear aS
 try clear aT
 obtain ⟨aO,aP,aS,aT,-,-,-⟩:=X1.aY
 try clear cu
 try clear cO
 try clear dH
 obtain ⟨cu,cO,dH,-,-⟩:=X2.bH;go_upto_region 3 with fail;go_wp2_with fail;refine (xk.out _ HB4.out).mono ?_;rintro e w5 ⟨rfl,hb5⟩;have dM:=Lib.hid (bT HB4.out hb5);have fK:=Lib.hid (NH.out.keep hb5);have bU:=Lib.hid (acw.out.keep hb5);clear hb5 xk X1 aO aP aS aT X2 cu cO dH NH acw HB4;unfold J3;go_upto_block 0 with fail;go_wp2_with fail;go_loopw [8,10,11] (fun s n u wr=>∃ k:Nat,k<=nn/\u=.int .i64 k/\s=.bool ((p.nodes.take k).foldl (lJ (fun n=>decide (n.pt=at_)) (·.id) 1 (T1,T2)) (false,0)).1/\n=.int .i64 ((p.nodes.take k).foldl (lJ (fun n=>decide (n.pt=at_)) (·.id) 1 (T1,T2)) (false,0)).2/\Below w5.heap.size w5 wr) (fun _ _ u _=>nn-(intOf u).toNat)
 case atStart => exact ⟨0,Nat.zero_le _,rfl,rfl,rfl,bR w5⟩
 case round =>
  obtain ⟨k,hk,rfl,rfl,rfl,hb⟩:=hrel;obtain ⟨wo,rfl⟩:∃ wo:World,wo=wr:=⟨_,rfl⟩;have Hb:=Lib.hid hb;clear hb;by_cases hlt:k<nn
  ·have hltp:k<p.nodes.length:=by rw [DL.out];exact hlt
   obtain ⟨b,o,hA',hlb,c0,c1,c2⟩:=(HRn.out.mono (bT dM.out Hb.out)).nd hltp;subst hA';have hst:=ajg (fun n:Nd=>decide (n.pt=at_)) (·.id) 1 (T1,T2) hltp;have hbd:=XG (fun n:Nd=>decide (n.pt=at_)) (·.id) 1 (T1,T2) p.nodes k;generalize (p.nodes.take k).foldl (lJ (fun n=>decide (n.pt=at_)) (·.id) 1 (T1,T2)) (false,0)=S at *;obtain ⟨s,n⟩:=S;generalize p.nodes[k]=x at *;obtain ⟨id,x0,y0⟩:=x;simp only at c0 c1 c2 hst hbd;have Fe:=Lib.hid hst;clear hst;have X1:=fK.out.keep Hb.out;have X2:=bU.out.keep Hb.out;have Qy:(k:Int)<nn:=by omega
   have Qz:0<=(k:Int):=by omega
   have kw:IntKind.i64.wrap (n+1)=n+1:=IntWalk.i64_in _ (by omega)
   try clear aO
   try clear aP
   try clear aS
   try clear aT
   obtain ⟨aO,aP,aS,aT,-,-,-⟩:=X1.aY
   try clear cu
   try clear cO
   try clear dH
   obtain ⟨cu,cO,dH,-,-⟩:=X2.bH;by_cases he:(⟨x0,y0⟩:Pt)=at_
   ·have hr:=Lib.hid (Fe.out.trans (if_pos (by simpa using he)));have he1:x0=at_.x:=by rw [<- he]
    have he2:y0=at_.y:=by rw [<- he]
    subst he1 he2;clear he Fe;go_upto_region 10 with fail;refine cZ (Since wo) (.run 8 0 0 (.done)) (by kernel_rfl) (bD (bR _)) (by kernel_rfl) (by kernel_rfl) (Nat.le_of_ble_eq_true (by kernel_rfl)) ?_;intro dn QR au aC hS
    iterate 8
     apply bn;exact au;exact rfl;exact hS;exact rfl
     · intro _ hqc;go_simp;try rfl
     try simp only [pu]
    refine bQ ?_;refine aC.down _ _ ?_;have hB:Below wo.heap.size wo wo.drew:=hS;clear hS aC au;obtain ⟨W6,hW⟩:∃ W:World,W=wo.drew:=⟨_,rfl⟩;rw [<- hW] at hB ⊢;have gZ:=Lib.hid (bT Hb.out hB);replace X1:=X1.keep hB;have c0':=gU hB c0;have Cb:b<W6.heap.size:=Nat.lt_of_lt_of_le hlb hB.size;clear hW hB aO aP aS aT X2 cu cO dH c0 c1 c2 hlb
    try clear aO
    try clear aP
    try clear aS
    try clear aT
    obtain ⟨aO,aP,aS,aT,-,-,-⟩:=X1.aY
    cases hb1:(T1 == 1)
    case false =>
     have ht:=Lib.hid (show ¬ T1=1 by simpa using hb1);go_wp2_with fail;go_roundw
     case rel => exact ⟨k+1,by omega,by go_num,by rw [hr.out];simp [ht.out],by rw [hr.out],gZ.out⟩
     case measure => simp [intOf];omega
    have ht:=Lib.hid (show T1=1 by simpa using hb1)
    cases hb2:(T2 == id)
    case false =>
     have ht2:=Lib.hid (show ¬ T2=id by simpa using hb2);go_wp2_with fail;go_roundw
     case rel => exact ⟨k+1,by omega,by go_num,by rw [hr.out];simp [ht2.out],by rw [hr.out],gZ.out⟩
     case measure => simp [intOf];omega
    have ht2:=Lib.hid (show T2=id by simpa using hb2);go_wp2_with fail;go_roundw
    case rel => exact ⟨k+1,by omega,by go_num,by rw [hr.out];simp [ht.out,ht2.out],by rw [hr.out],gZ.out⟩
    case measure => simp [intOf];omega
   ·have hr:=Lib.hid (Fe.out.trans (if_neg (by simpa using he)));have hnx:x0≠at_.x\/(x0=at_.x/\y0≠at_.y):=by
     by_cases e:x0=at_.x
     · exact .inr ⟨e,fun e2=>he (by rw [e,e2])⟩
     · exact .inl e
    clear he Fe;rcases hnx with hx | ⟨rfl,hy⟩
    ·have hx2:¬ x0=at_.x:=hx;clear hx;go_upto_region 10 with fail;refine cZ (Since wo) (.run 8 0 0 (.done)) (by kernel_rfl) (bD (bR _)) (by kernel_rfl) (by kernel_rfl) (Nat.le_of_ble_eq_true (by kernel_rfl)) ?_;intro dn QR au aC hS
     iterate 8
      apply bn;exact au;exact rfl;exact hS;exact rfl
      · intro _ hqc;go_simp;try rfl
      try simp only [pu]
     refine bQ ?_;refine aC.down _ _ ?_;have hB:Below wo.heap.size wo wo.drew:=hS;clear hS aC au;obtain ⟨W6,hW⟩:∃ W:World,W=wo.drew:=⟨_,rfl⟩;rw [<- hW] at hB ⊢;have gZ:=Lib.hid (bT Hb.out hB);clear hW hB aO aP aS aT X2 cu cO dH c0 c1 c2 hlb;go_wp2_with fail;go_roundw
     case rel => exact ⟨k+1,by omega,by go_num,by rw [hr.out],by rw [hr.out],gZ.out⟩
     case measure => simp [intOf];omega
    ·have hy2:¬ y0=at_.y:=hy;clear hy;go_upto_region 10 with fail;refine cZ (Since wo) (.run 8 0 0 (.done)) (by kernel_rfl) (bD (bR _)) (by kernel_rfl) (by kernel_rfl) (Nat.le_of_ble_eq_true (by kernel_rfl)) ?_;intro dn QR au aC hS
     iterate 8
      apply bn;exact au;exact rfl;exact hS;exact rfl
      · intro _ hqc;go_simp;try rfl
      try simp only [pu]
     refine bQ ?_;refine aC.down _ _ ?_;have hB:Below wo.heap.size wo wo.drew:=hS;clear hS aC au;obtain ⟨W6,hW⟩:∃ W:World,W=wo.drew:=⟨_,rfl⟩;rw [<- hW] at hB ⊢;have gZ:=Lib.hid (bT Hb.out hB);clear hW hB aO aP aS aT X2 cu cO dH c0 c1 c2 hlb;go_wp2_with fail;go_roundw
     case rel => exact ⟨k+1,by omega,by go_num,by rw [hr.out],by rw [hr.out],gZ.out⟩
     case measure => simp [intOf];omega
  ·obtain rfl:k=nn:=by omega
   have hfull:p.nodes.take k=p.nodes:=List.take_of_length_le (by rw [DL.out];exact Nat.le_refl _);have hbd:=XG (fun n:Nd=>decide (n.pt=at_)) (·.id) 1 (T1,T2) p.nodes k;rw [hfull] at hbd ⊢;have hlc:=H9.out;clear hfull H9
   try dsimp only at hlc
   generalize p.nodes.foldl (lJ (fun n=>decide (n.pt=at_)) (·.id) 1 (T1,T2)) (false,0)=S1 at *;obtain ⟨s1,n1⟩:=S1;simp only at hlc hbd;have gZ:=Lib.hid (bT dM.out Hb.out);have RV:=Lib.hid (fK.out.keep Hb.out);have atE:=Lib.hid (bU.out.keep Hb.out);clear fK bU Hb dM HRn;by_cases hn:0<n1
   ·rw [if_pos hn] at hlc;injection hlc with a1 a2;subst a1 a2;clear hn hbd;have X1:=RV.out
    try clear aO
    try clear aP
    try clear aS
    try clear aT
    obtain ⟨aO,aP,aS,aT,-,-,-⟩:=X1.aY;go_wp2_with fail;refine (zO.out _).mono ?_;rintro e w7 ⟨rfl,hb7⟩;go_wp2_with fail;go_ret;exact ⟨rfl,bT gZ.out hb7⟩
   obtain rfl:n1=0:=by omega
   rw [if_neg (by omega)] at hlc;have H9:=Lib.hid hlc;clear hlc hn hbd;have X1:=RV.out
   try clear aO
   try clear aP
   try clear aS
   try clear aT
   obtain ⟨aO,aP,aS,aT,-,-,-⟩:=X1.aY;go_upto_block 2 with fail;clear X1 aO aP aS aT;go_wp2_with fail;go_loopw [9,10,12] (fun s n u wr=>∃ j:Nat,j<=al.length/\u=.int .i64 j/\s=.bool ((p.ah.take j).foldl (lJ (kY p at_) (·.id) 2 (T1,T2)) (false,0)).1/\n=.int .i64 ((p.ah.take j).foldl (lJ (kY p at_) (·.id) 2 (T1,T2)) (false,0)).2/\Below wo.heap.size wo wr) (fun _ _ u _=>al.length-(intOf u).toNat)
   case atStart => exact ⟨0,Nat.zero_le _,rfl,rfl,rfl,bR wo⟩
   case round =>
    obtain ⟨j,hj,rfl,rfl,rfl,hb⟩:=hrel;obtain ⟨wq,rfl⟩:∃ wq:World,wq=wr:=⟨_,rfl⟩;have Hb:=Lib.hid hb;clear hb;by_cases hlt:j<al.length
    ·have hjp:j<p.ah.length:=by rw [<- wI.out];exact hlt
     have hax:p.ah[j]=al[j].1:=by
      have e:p.ah[j]? = some al[j].1:=by rw [vF.out,List.getElem?_map,List.getElem?_eq_getElem hlt];rfl
      rw [List.getElem?_eq_getElem hjp] at e;exact Option.some.inj e
     have hlen:=fM p p.ah[j];have uY:=HV.out.y9 (List.getElem_mem hjp);obtain ⟨b,o,hA',hlb,c0,-,-,-,-,-⟩:=(lK.out.mono (bT gZ.out Hb.out)).ar hlt;subst hA';rw [<- hax] at c0;have hst:=ajg (kY p at_) (·.id) 2 (T1,T2) hjp;have hbd:=XG (kY p at_) (·.id) 2 (T1,T2) p.ah j;have hpt:=sW.out HV.out j hjp;rw [show kY p at_ p.ah[j]=uj (ak p p.ah[j]) at_ ((ak p p.ah[j]).length-1) from rfl] at hst;generalize (p.ah.take j).foldl (lJ (kY p at_) (·.id) 2 (T1,T2)) (false,0)=S at *;obtain ⟨s,n⟩:=S;clear hax;generalize ak p p.ah[j]=PP at *;generalize p.ah[j].id=id at *;simp only at hst hbd;have Fe:=Lib.hid hst;have HPj:=Lib.hid (fun W (hW:Below wq.heap.size wq W)=>hpt W (bT (bT gZ.out Hb.out) hW));have arn:2<=PP.length:=by omega
     have hpl2:PP.length<=66:=by omega
     clear hst hpt hlen uY;have Qy:(j:Int)<al.length:=by omega
     have Qz:0<=(j:Int):=by omega
     have kw:IntKind.i64.wrap (n+1)=n+1:=IntWalk.i64_in _ (by omega);have X1:=RV.out.keep Hb.out
     try clear aO
     try clear aP
     try clear aS
     try clear aT
     obtain ⟨aO,aP,aS,aT,-,-,-⟩:=X1.aY;go_upto_region 18 with fail;refine cZ (Since wq) (.run 7 0 0 (.call 7 255 (.run 5 8 255 (.done)))) (by kernel_rfl) (bD (bR _)) (by kernel_rfl) (by kernel_rfl) (Nat.le_of_ble_eq_true (by kernel_rfl)) ?_;intro dn QR au aC hS
     iterate 7
      apply bn;exact au;exact rfl;exact hS;exact rfl
      · intro _ hqc;go_simp;try rfl
      try simp only [pu]
     refine aW (i:=7) (aH au rfl) (fun K hK=>?_);have aA:=Lib.hid hS;clear hS;refine aN (aV rfl) ?_;go_simp;refine (HPj.out _ aA.out).mono ?_;rintro e bC ⟨A1,c1,rfl,bM,lT⟩;have hS:Since wq bC:=bT (w:=wq) aA.out bM;clear aA;refine hK.out _ _ hS (fun _=>?_);clear hK K
     try simp only [pu]
     iterate 5
      apply bn;exact au;exact rfl;exact hS;exact rfl
      · intro _ hqc;go_simp;try rfl
      try simp only [pu]
     refine bQ ?_;refine aC.down _ _ ?_;have hB:Below wq.heap.size wq bC:=hS;clear hS aC au;have tJ:=Lib.hid (bT (bT gZ.out Hb.out) hB);have Rj:=Lib.hid (bT Hb.out hB);have acy:=Lib.hid (RV.out.keep (bT Hb.out hB));have Ob:=Lib.hid (atE.out.keep (bT Hb.out hB));have Du:=Lib.hid lT;have Hc0:=Lib.hid (gU hB c0);have XH:b<bC.heap.size:=Nat.lt_of_lt_of_le hlb hB.size;clear X1 aO aP aS aT c0 hlb hB lT HPj Hb;go_upto_block 4 with fail;go_wp2_with fail;go_loopw [15,16] (fun s u wr=>∃ m:Nat,m+1<=PP.length/\u=.int .i64 ((m:Int)+1)/\s=.bool (uj PP at_ m)/\Below bC.heap.size bC wr) (fun _ u _=>PP.length-(intOf u).toNat)
     case atStart => exact ⟨0,by omega,rfl,rfl,bR bC⟩
     case round =>
      obtain ⟨m,hm,rfl,rfl,hb⟩:=hrel;obtain ⟨wm,rfl⟩:∃ wm:World,wm=wr:=⟨_,rfl⟩;have uO:=Lib.hid hb;clear hb;by_cases hmt:m+1<PP.length
      ·have Vh:((m:Int)+1)<PP.length:=by omega
       have QA:0<=(m:Int):=by omega
       have kk5:(m:Int)<PP.length:=by omega
       have kw2:IntKind.i64.wrap (m:Int)=m:=IntWalk.i64_in _ (by omega)
       cases hU:uj PP at_ m with
       | true =>
        have hr:=Lib.hid (show uj PP at_ (m+1)=true by rw [WA,hU];rfl);clear hU;go_upto_region 25 with fail;refine cZ (Since wm) (.run 15 0 0 (.done)) (by kernel_rfl) (bD (bR _)) (by kernel_rfl) (by kernel_rfl) (Nat.le_of_ble_eq_true (by kernel_rfl)) ?_;intro dn QR au aC hS
        iterate 2
         apply bn;exact au;exact rfl;exact hS;exact rfl
         · intro _ hqc;go_simp;try rfl
         try simp only [pu]
        iterate 11
         refine qB au rfl hS rfl rfl rfl rfl rfl ?_
         try simp only [pu]
        iterate 2
         apply bn;exact au;exact rfl;exact hS;exact rfl
         · intro _ hqc;go_simp;try rfl
         try simp only [pu]
        refine bQ ?_;refine aC.down _ _ ?_;have hB:Below wm.heap.size wm wm.drew:=hS;clear hS aC au;have tZ:=Lib.hid (bT uO.out hB);clear hB;go_wp2_with fail;go_roundw
        case rel => exact ⟨m+1,by omega,by go_num,by rw [hr.out],tZ.out⟩
        case measure => simp [intOf];omega
       | false =>
        obtain ⟨Jl,cp',he,-,-,tK⟩:=Du.out.mono uO.out;injection he with y1 y2 y3;subst y1 y3;clear y2;obtain ⟨bp,op,lU,hlp,d0,d1⟩:=tK.pt (show m<PP.length by omega);obtain ⟨bp',op',nC,-,d2,d3⟩:=tK.pt hmt;rw [lU] at nC;injection nC with nC;injection nC with q1 q2 _;subst q1 q2 lU;have hr:=Lib.hid (show uj PP at_ (m+1)=fJ PP[m] PP[m+1] at_ by rw [WA,hU,Bool.false_or];exact Wy hmt);generalize PP[m+1]=pb at *;generalize PP[m]=pa at *;have HO:=Lib.hid (fun W=>nZ.out pa pb W);generalize fJ pa pb at_=z at *;obtain ⟨xa,ya⟩:=pa;obtain ⟨xb,yb⟩:=pb;simp only at d0 d1 d2 d3;have X2:=Ob.out.keep uO.out;clear hU
        try clear cu
        try clear cO
        try clear dH
        obtain ⟨cu,cO,dH,-,-⟩:=X2.bH;go_upto_region 25 with fail;refine cZ (Since wm) (.run 12 0 0 (.call 12 8191 (.take 13 16383 (.take 14 32767 (.done))))) (by kernel_rfl) (bD (bR _)) (by kernel_rfl) (by kernel_rfl) (Nat.le_of_ble_eq_true (by kernel_rfl)) ?_;intro dn QR au aC hS
        iterate 2
         apply bn;exact au;exact rfl;exact hS;exact rfl
         · intro _ hqc;go_simp;try rfl
         try simp only [pu]
        iterate 10
         apply eF;exact au;exact rfl;exact hS;iterate 4 exact rfl
         · intro _ hqc;go_simp;try rfl
         try simp only [pu]
        refine aW (i:=12) (aH au rfl) (fun K hK=>?_);have aA:=Lib.hid hS;clear hS;refine aN (mJ rfl (aH au rfl) rfl rfl) ?_;go_simp;refine (HO.out _).mono ?_;rintro e bC ⟨rfl,bM⟩;have hS:Since wm bC:=bT (w:=wm) aA.out bM;clear aA;refine hK.out _ _ hS (fun _=>?_);clear hK K
        try simp only [pu]
        iterate 2
         apply bn;exact au;exact rfl;exact hS;exact rfl
         · intro _ hqc;go_simp;try rfl
         try simp only [pu]
        refine bQ ?_;refine aC.down _ _ ?_;have hB:Below wm.heap.size wm bC:=hS;clear hS aC au;have tZ:=Lib.hid (bT uO.out hB);clear X2 cu cO dH d0 d1 d2 d3 hlp hB HO;go_wp2_with fail;go_roundw
        case rel => exact ⟨m+1,by omega,by go_num,by rw [hr.out],tZ.out⟩
        case measure => simp [intOf];omega
      ·obtain rfl:m=PP.length-1:=by omega
       have zM:=Lib.hid (bT Rj.out uO.out)
       cases hU:uj PP at_ (PP.length-1) with
       | true =>
        have hr:=Lib.hid (Fe.out.trans (if_pos hU));have X1:=acy.out.keep uO.out;have c0:=gU uO.out Hc0.out;have hlb:b<wm.heap.size:=Nat.lt_of_lt_of_le XH uO.out.size;clear hU Fe Hc0 XH
        try clear aO
        try clear aP
        try clear aS
        try clear aT
        obtain ⟨aO,aP,aS,aT,-,-,-⟩:=X1.aY
        cases hb1:(T1 == 2)
        case false =>
         have ht:=Lib.hid (show ¬ T1=2 by simpa using hb1);go_wp2_with fail;go_roundw
         case rel => exact ⟨j+1,by omega,by go_num,by rw [hr.out];simp [ht.out],by rw [hr.out],zM.out⟩
         case measure => simp [intOf];omega
        have ht:=Lib.hid (show T1=2 by simpa using hb1)
        cases hb2:(T2 == id)
        case false =>
         have ht2:=Lib.hid (show ¬ T2=id by simpa using hb2);go_wp2_with fail;go_roundw
         case rel => exact ⟨j+1,by omega,by go_num,by rw [hr.out];simp [ht2.out],by rw [hr.out],zM.out⟩
         case measure => simp [intOf];omega
        have ht2:=Lib.hid (show T2=id by simpa using hb2);go_wp2_with fail;go_roundw
        case rel => exact ⟨j+1,by omega,by go_num,by rw [hr.out];simp [ht.out,ht2.out],by rw [hr.out],zM.out⟩
        case measure => simp [intOf];omega
       | false =>
        have hr:=Lib.hid (Fe.out.trans (if_neg (by rw [hU];simp)));clear hU Fe;go_wp2_with fail;go_roundw
        case rel => exact ⟨j+1,by omega,by go_num,by rw [hr.out],by rw [hr.out],zM.out⟩
        case measure => simp [intOf];omega
    ·obtain rfl:j=al.length:=by omega
     have hfull:p.ah.take al.length=p.ah:=List.take_of_length_le (by rw [wI.out];exact Nat.le_refl _);have hbd:=XG (kY p at_) (·.id) 2 (T1,T2) p.ah al.length;rw [hfull] at hbd ⊢;have hlc:=H9.out;clear hfull H9;generalize p.ah.foldl (lJ (kY p at_) (·.id) 2 (T1,T2)) (false,0)=S2 at *;obtain ⟨s2,n2⟩:=S2;simp only at hlc hbd;have tJ:=Lib.hid (bT gZ.out Hb.out);have X1:=RV.out.keep Hb.out;have acy:=Lib.hid X1
     try clear aO
     try clear aP
     try clear aS
     try clear aT
     obtain ⟨aO,aP,aS,aT,-,-,-⟩:=X1.aY;by_cases hn:0<n2
     ·rw [if_pos hn] at hlc;injection hlc with a1 a2;subst a1 a2;clear hn hbd;go_wp2_with fail;refine (zO.out _).mono ?_;rintro e w8 ⟨rfl,hb8⟩;go_wp2_with fail;go_ret;exact ⟨rfl,bT tJ.out hb8⟩
     obtain rfl:n2=0:=by omega
     rw [if_neg (by omega)] at hlc;obtain ⟨rfl,ht2⟩:=hlc;clear hn hbd;by_cases ht:T2=0
     ·subst ht;clear ht2;go_wp2_with fail;refine (zO.out _).mono ?_;rintro e w8 ⟨rfl,hb8⟩;go_wp2_with fail;go_ret;exact ⟨rfl,bT tJ.out hb8⟩
     ·have hb2:(T2 == 0)=false:=by simpa using ht
      have hany:p.faces.any (fun y=>decide (y=T2))=true:=List.any_eq_true.2 ⟨T2,ht2.resolve_left ht,by simp⟩;have HH:Hid (∀ W,Below w.heap.size w W->Calls Tryz.prog 29 #[.slice Af nf cf,.int .i64 T2] W fun e w'=>e=.returned (.bool true)/\Below W.heap.size W w'):=Lib.hid fun W hW=>by
       have h:=HHs.out T2 W hW;rw [hany] at h;exact h
      clear ht ht2 hany;go_wp2_with fail;refine (zO.out _).mono ?_;rintro e w8 ⟨rfl,hb8⟩;have yG:=Lib.hid (bT tJ.out hb8);have X9:=acy.out.keep hb8;clear hb8 X1 aO aP aS aT;obtain ⟨gy,gG,iP,uT,-,-,-⟩:=X9.aY;go_wp2_with fail;refine (HH.out _ yG.out).mono ?_;rintro e w9 ⟨rfl,sK⟩;go_wp2_with fail;go_ret;exact ⟨rfl,bT yG.out sK⟩
end Go.Proofs.YtialfdomhoojiaaGreat
