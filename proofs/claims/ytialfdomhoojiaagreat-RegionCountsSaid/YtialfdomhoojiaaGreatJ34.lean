import Derived.StillTailTactics
import Derived.Test.YtialfdomhoojiaaGreatJ32
import Derived.Deep.CutBlock
import Derived.Test.YtialfdomhoojiaaGreatGB
set_option linter.unusedSimpArgs false
set_option linter.unusedVariables false
namespace Go.Proofs.YtialfdomhoojiaaGreat
open Go.RowKit
theorem Row.asf {w:World} {A:Option Addr} {l:List Pt} (h:Row w A (l.flatMap iV)) (h0:0<l.length) :
  ∃ b o,A=some ⟨b,o,none⟩/\b<w.heap.size/\∀ j (hj:j<l.length),w.cell? ⟨b,o+j*2,none⟩=some (.int .i64 l[j].x)/\w.cell? ⟨b,o+j*2+1,none⟩=some (.int .i64 l[j].y):=by
 obtain ⟨b,o,hA,hb,-⟩:=h.pt h0;refine ⟨b,o,hA,hb,fun j hj=>?_⟩;obtain ⟨b',o',hA',-,c0,c1⟩:=h.pt hj;rw [hA] at hA';obtain ⟨rfl,rfl⟩:b=b'/\o=o':=by simpa using hA'
 exact ⟨c0,c1⟩
theorem air:StructOf Tryz.prog 73 4:=.rZ Tryz.underlying73 (by kernel_rfl)
set_option maxRecDepth 100000 in
set_option maxHeartbeats 8000000 in
theorem asg (v:Value) (l:List Pt) (w:World) (h:gG w v l) (hpos:0<l.length) :
  Calls Tryz.prog 47 #[v] w fun e w'=>e=.returned (.agg (FZ (qJ l)))/\Below w.heap.size w w':=by
 obtain ⟨A,c,rfl,h1,h2,hR⟩:=h;unfold maxLen at h2;obtain ⟨b,o,rfl,hlb,hc⟩:=Row.asf hR hpos;obtain ⟨u0,u1⟩:=hc 0 hpos;simp only [Nat.zero_mul,Nat.add_zero] at u0 u1;obtain ⟨r,hr⟩:∃ r,qJ l=r:=⟨_,rfl⟩;rw [hr];have HR:=Lib.hid (show l.foldl qc ⟨l[0].x,l[0].y,l[0].x,l[0].y⟩=r by
  rw [<- hr]
  cases l with
  | nil=>simp at hpos
  | cons p l=>rfl)
 have HI:=Lib.hid (show (⟨l[0].x,l[0].y,l[0].x,l[0].y⟩:Bx)=(l.take 1).foldl qc ⟨l[0].x,l[0].y,l[0].x,l[0].y⟩ by
  cases l with
  | nil=>simp at hpos
  | cons p l =>
   show _=qc ⟨p.x,p.y,p.x,p.y⟩ p
   unfold qc;simp)
 have HC:=Lib.hid hc;obtain ⟨ln,hln⟩:∃ ln,l.length=ln:=⟨_,rfl⟩;have HLn:=Lib.hid hln;rw [hln] at h1 hpos ⊢;obtain ⟨p0,hp0⟩:∃ p,l[0]=p:=⟨_,rfl⟩;rw [hp0] at u0 u1 HR HI;clear hr hc hR hp0 hln;have v1:(0:Int)<ln:=by omega
 have v2:((ln:Int) == 0)=false:=by simp;omega
 have v3:¬ ln=0:=by omega
 unfold FZ;obtain ⟨g2,hg2⟩:∃ g,w.heap.size=g:=⟨_,rfl⟩;obtain ⟨W,hW⟩:∃ W:World,W=w.alloc (.cells #[.int .i64 0,.int .i64 0,.int .i64 0,.int .i64 0] 73):=⟨_,rfl⟩;have hA:Below w.heap.size w W:=by rw [hW];exact bA (bR w) _
 have X2:aj W g2 73 #[.int .i64 0,.int .i64 0,.int .i64 0,.int .i64 0]:=by rw [hW];exact aj.made hg2.symm _ _
 have HB:=Lib.hid hA;have bY:=Lib.hid X2;go_enter Tryz.func47,Tryz.ntmps47;go_upto_region 3 with fail
 try rw [<- hW]
 have hgw:w.heap.size<=g2:=by omega
 have hbg:b<g2:=by omega
 have hbW:b<W.heap.size:=Nat.lt_of_lt_of_le hlb hA.size;replace u0:=fG hA u0;replace u1:=fG hA u1;clear hW hg2 hA;go_cut [3] (fun u wx=>∃ g3,u=.pointer (some ⟨g3,0,none⟩)/\aj wx g3 73 #[.int .i64 p0.x,.int .i64 p0.y,.int .i64 p0.x,.int .i64 p0.y]/\W.heap.size<=g3/\Below W.heap.size W wx)
 case first =>
  refine bZ (gW (W.heap.size) W) (.run 17 0 0 (.call 17 262143 (.call 18 524287 (.done)))) (by kernel_rfl) (Below.drew (Below.refl _ _)) (by kernel_rfl) (by kernel_rfl) (Nat.le_of_ble_eq_true (by kernel_rfl)) ?_;intro cO QR ak aC hS
  iterate 17
   apply lK;exact ak;exact rfl;exact hS;exact rfl
   · intro _ hqc;go_simp;try rfl
   try simp only [pu]
  refine aT (i:=17) (aG ak rfl) (fun K hK=>?_);have aA:=Lib.hid hS;clear hS;refine aO (aV rfl) ?_;go_simp;have XQy:Below (W.heap.size) W (W.drew):=aA.out;have XQz:W.heap.size<=(W.drew).heap.size:=Nat.le_trans (by omega) (show Below (W.heap.size) W (W.drew) from aA.out).size;refine hK.out _ _ (oM (by omega) aA.out _) (fun hS=>?_);clear hK K aA
  try replace XQ:=XQ.alloc (.cells #[.int .i64 0,.int .i64 0,.int .i64 0,.int .i64 0] 73)
  have XQ:=aj.new (W.drew) 73 #[.int .i64 0,.int .i64 0,.int .i64 0,.int .i64 0]
  try simp only [World.size_drew,World.size_alloc] at XQ XQz
  try simp only [pu]
  refine aT (i:=18) (aG ak rfl) (fun K hK=>?_);have aA:=Lib.hid hS;clear hS;refine aO (aV rfl) ?_;obtain ⟨XQl,XQa,XQb,XQc,XQd,XQe,XQf,XQg,XQh⟩:=XQ.nG;go_simp;refine hK.out _ _ (by unfold gW;have h:Below _ _ _:=aA.out;repeat (first | with_reducible assumption | with_reducible exact Below.refl _ _ | with_reducible refine xu ?_ (by first | omega | (simp;omega)) _ | with_reducible refine Below.drew ?_ | with_reducible refine oM (by omega) ?_ _ | exact h)) ?_;intro hS;clear hK K aA
  try simp only [pu]
  refine bM ?_;refine aC.down _ _ ?_;have hB:Below (W.heap.size) W _:=hS;clear hS aC ak;go_wp2_with fail;go_meet
  case rel => exact ⟨_,rfl,(by first | with_reducible exact aj.Gf XQ | with_reducible exact aj.made rfl _ _ | with_reducible exact aj.drew (aj.made rfl _ _)),(by first | omega | (simp;done) | (simp;omega)),hB⟩
 case rest =>
 obtain ⟨g3,rfl,X3,hg3,hb3⟩:=hcut;obtain ⟨W3,hW3⟩:∃ W3:World,W3=wc:=⟨_,rfl⟩;rw [<- hW3] at X3 hb3 ⊢;have HB3:=Lib.hid (bT HB.out hb3);have ash:=Lib.hid (bY.out.keep hb3);have iE:=Lib.hid X3;have asi:g2<g3:=by have:=bY.out.lt;omega
 have asj:w.heap.size<=g3:=by omega
 have atX:b<g3:=by omega
 clear hW3 hb3 X3 X2 u0 u1 hbW;go_wp2_with fail;go_loopw [4] (fun u wr=>∃ (k:Nat) (x:Bx),1<=k/\k<=ln/\u=.int .i64 k/\x=(l.take k).foldl qc ⟨p0.x,p0.y,p0.x,p0.y⟩/\aj wr g3 73 #[.int .i64 x.x0,.int .i64 x.y0,.int .i64 x.x1,.int .i64 x.y1]/\Below g3 W3 wr) (fun u _=>ln-(intOf u).toNat)
 case atStart => exact ⟨1,⟨p0.x,p0.y,p0.x,p0.y⟩,Nat.le_refl _,hpos,rfl,HI.out,iE.out,Below.refl _ _⟩
 case round =>
  obtain ⟨k,x,hk1,hk,rfl,hx,X3,hb⟩:=hrel;have Hb:=Lib.hid hb;have HX:=Lib.hid hx;have Qg:=Lib.hid X3;have l3:=X3.lt;have iD:=Lib.hid (show Below w.heap.size w wr from HB3.out.trans (hb.mono asj));clear hb hx;by_cases hlt:k<ln
  ·have hkl:k<l.length:=by rw [HLn.out];exact hlt
   obtain ⟨c0,c1⟩:=HC.out k hkl;replace c0:=fG iD.out c0;replace c1:=fG iD.out c1;have hst:(l.take (k+1)).foldl qc ⟨p0.x,p0.y,p0.x,p0.y⟩=qc x l[k]:=by
    rw [List.take_succ_eq_append_getElem hkl,List.foldl_append,<- HX.out];rfl
   unfold qc at hst;have dQ:=Lib.hid hst;obtain ⟨q,hq⟩:∃ q,l[k]=q:=⟨_,rfl⟩;rw [hq] at c0 c1 dQ;clear hq hst hkl;have hbr:b<wr.heap.size:=by omega
   have hne:some b≠some g3:=fun e=>by have:=Option.some.inj e;omega
   have r1:0<=(k:Int):=by omega
   have r2:(k:Int)<ln:=by omega
   obtain ⟨kU,kV,mO,Lj,Jk,Ep,Np,ahV,ahW⟩:=X3.nG;go_upto_region 7 with fail;have hmn:(⟨if q.x<x.x0 then q.x else x.x0,if q.y<x.y0 then q.y else x.y0,if x.x1<q.x then q.x else x.x1,if x.y1<q.y then q.y else x.y1⟩:Bx)=⟨min x.x0 q.x,min x.y0 q.y,max x.x1 q.x,max x.y1 q.y⟩:=by
    congr 1
    · split<;>omega
    · split<;>omega
    · split<;>omega
    · split<;>omega
   have HMn:=Lib.hid hmn;clear hmn;go_still_tail 33,(by kernel_rfl);change wpList _ _ _ _ _ wr.drew;have Jk:=Qg.out.drew;have abr:=Lib.hid Jk;have hbd:Below g3 W3 wr.drew:=Below.drew Hb.out;obtain ⟨wd,hwd⟩:∃ wd:World,wd=wr.drew:=⟨_,rfl⟩;have rD:=Lib.hid hbd;rw [<- hwd] at Jk abr rD ⊢;clear hwd hbd X3 kU kV mO Lj c0 c1;obtain ⟨atY,atZ,at1,at7,aua,aub,auc,aud,aue⟩:=Jk.nG;go_wp2_with fail;go_roundw
   case rel => first | exact ⟨k+1,_,by omega,by omega,by go_num,HMn.out.trans dQ.out.symm,abr.out.Gf,(((rD.out.setCell (p:=⟨g3,0,none⟩) (Nat.le_refl _) _).setCell (p:=⟨g3,1,none⟩) (Nat.le_refl _) _).setCell (p:=⟨g3,2,none⟩) (Nat.le_refl _) _).setCell (p:=⟨g3,3,none⟩) (Nat.le_refl _) _⟩ | exact ⟨k+1,_,by omega,by omega,by go_num,dQ.out.symm,abr.out.Gf,(((rD.out.setCell (p:=⟨g3,0,none⟩) (Nat.le_refl _) _).setCell (p:=⟨g3,1,none⟩) (Nat.le_refl _) _).setCell (p:=⟨g3,2,none⟩) (Nat.le_refl _) _).setCell (p:=⟨g3,3,none⟩) (Nat.le_refl _) _⟩
   case measure => simp [intOf];omega
  ·have hxr:x=r:=by rw [HX.out,List.take_of_length_le (by have:=HLn.out;omega),HR.out]
   have HXr:=Lib.hid hxr;have r2:¬ (k:Int)<ln:=by omega
   clear hxr;have X2:=ash.out.below Hb.out asi;have asl:=Lib.hid X2
   try clear kU
   try clear kV
   try clear mO
   try clear Lj
   try clear Jk
   try clear Ep
   try clear Np
   try clear ahV
   try clear ahW
   obtain ⟨kU,kV,mO,Lj,Jk,-,-,-,-⟩:=X3.nG;obtain ⟨gI,gJ,iq,iZ,Um,AV,GU,Lh,abe⟩:=X2.nG;go_wp2_with fail;refine MN (g:=g2) (cs:=#[.int .i64 x.x0,.int .i64 x.y0,.int .i64 x.x1,.int .i64 x.y1]) rfl air rfl rfl (aj.Gf asl.out) ⟨by rw [HXr.out],?_⟩;exact (((iD.out.setCell (p:=⟨g2,0,none⟩) hgw _).setCell (p:=⟨g2,1,none⟩) hgw _).setCell (p:=⟨g2,2,none⟩) hgw _).setCell (p:=⟨g2,3,none⟩) hgw _
set_option maxHeartbeats 2000000 in
theorem asn (v:Value) (w:World) (h:gG w v []):Calls Tryz.prog 47 #[v] w fun e w'=>e=.returned (.agg (FZ (qJ [])))/\Below w.heap.size w w':=by
 obtain ⟨A,c,rfl,-⟩:=h;have hz:(([] : List Pt).length:Int)=0:=rfl;unfold FZ qJ;simp only [List.length_nil];obtain ⟨g2,hg2⟩:∃ g,w.heap.size=g:=⟨_,rfl⟩;obtain ⟨W,hW⟩:∃ W:World,W=w.alloc (.cells #[.int .i64 0,.int .i64 0,.int .i64 0,.int .i64 0] 73):=⟨_,rfl⟩;have hA:Below w.heap.size w W:=by rw [hW];exact bA (bR w) _
 have X2:aj W g2 73 #[.int .i64 0,.int .i64 0,.int .i64 0,.int .i64 0]:=by rw [hW];exact aj.made hg2.symm _ _
 have HB:=Lib.hid hA;have bY:=Lib.hid X2;go_enter Tryz.func47,Tryz.ntmps47;go_upto_region 1 with fail;rw [<- hW]
 try rw [hg2]
 have hgw:w.heap.size<=g2:=by omega
 clear hW hg2 hA;obtain ⟨gI,gJ,iq,iZ,Um,AV,GU,Lh,abe⟩:=X2.nG;go_wp2_with fail;refine MN (g:=g2) (cs:=#[.int .i64 0,.int .i64 0,.int .i64 (-1),.int .i64 (-1)]) rfl air rfl rfl (aj.Gf bY.out) ⟨rfl,?_⟩;exact (((HB.out.setCell (p:=⟨g2,0,none⟩) hgw _).setCell (p:=⟨g2,1,none⟩) hgw _).setCell (p:=⟨g2,2,none⟩) hgw _).setCell (p:=⟨g2,3,none⟩) hgw _
theorem aso (v:Value) (l:List Pt) (w:World) (h:gG w v l):Calls Tryz.prog 47 #[v] w fun e w'=>e=.returned (.agg (FZ (qJ l)))/\Below w.heap.size w w':=by
 cases l with
 | nil=>exact asn v w h
 | cons p l=>exact asg v (p::l) w h (by simp)
structure Lgt (p:Pl):Prop where
 nodes:p.nodes.length<=30
 ah:p.ah.length<=30
 faces:p.faces.length<=30
 nS:∀ a∈p.ah,a.via.length<=180
def asq (w:World) (p:Pl) (e:Ending) (w':World):Prop:=∃ b,e=.returned (.bool b)/\(b=true->Lgt p)/\Below w.heap.size w w'
set_option maxRecDepth 100000 in
set_option maxHeartbeats 8000000 in
theorem asr (v:Value) (p:Pl) (w:World) (h:dS w v p) (hsz:∀ a∈p.ah,a.via.length<=9223372036854775000):Calls Tryz.prog 15 #[v] w (asq w p):=by
 have J8:=Lib.hid hsz;clear hsz;obtain ⟨_,_,_,al,rfl,hpa,⟨An,cn,rfl,hn1,hn2,hR⟩,⟨⟨Aa,ca,rfl,hm1,hm2,jV⟩,vC⟩,⟨Af,cf,rfl,-⟩⟩:=h;have HRn:=Lib.hid hR;have mM:=Lib.hid jV;have Dj:=Lib.hid vC;have uz:=Lib.hid hpa;have hnv:p.ah.length=al.length:=by rw [hpa,List.length_map]
 obtain ⟨nn,hnn⟩:∃ n,p.nodes.length=n:=⟨_,rfl⟩;obtain ⟨na,hna⟩:∃ n,al.length=n:=⟨_,rfl⟩;obtain ⟨nf,hnf⟩:∃ n,p.faces.length=n:=⟨_,rfl⟩;have xP:=Lib.hid hnn;have IY:=Lib.hid hna;have PK:=Lib.hid hnf;have Lu:=Lib.hid hnv;rw [hnn,hna,hnf];clear hR jV vC hpa hnv hnn hna hnf hn1 hn2 hm1 hm2;go_enter Tryz.func15,Tryz.ntmps15;go_upto_region 1 with fail;obtain ⟨W1,hW⟩:∃ W:World,W=w.alloc (.cells #[.slice An nn cn,.slice Aa na ca,.slice Af nf cf] 26):=⟨_,rfl⟩;have X1:aj W1 w.heap.size 26 #[.slice An nn cn,.slice Aa na ca,.slice Af nf cf]:=by rw [hW];exact aj.made rfl _ _
 have HB1:=Lib.hid (show Below w.heap.size w W1 by rw [hW];exact bA (bR w) _);obtain ⟨g1,h1⟩:∃ g,w.heap.size=g:=⟨_,rfl⟩;have hg1:w.heap.size<=g1:=by omega
 rw [<- hW];rw [h1] at X1 ⊢;have eH:=Lib.hid X1;clear hW h1;obtain ⟨aI,aJ,aK,aP,-,-,-⟩:=X1.bC;by_cases h1:30<nn
 ·have k1:(30:Int)<nn:=by omega
  go_wp2_with fail;go_ret;exact ⟨false,rfl,fun h=>(by cases h),HB1.out⟩
 by_cases h2:30<na
 ·have k1:¬ (30:Int)<nn:=by omega
  have k2:(30:Int)<na:=by omega
  go_wp2_with fail;go_ret;exact ⟨false,rfl,fun h=>(by cases h),HB1.out⟩
 by_cases h3:30<nf
 ·have k1:¬ (30:Int)<nn:=by omega
  have k2:¬ (30:Int)<na:=by omega
  have k3:(30:Int)<nf:=by omega
  go_wp2_with fail;go_ret;exact ⟨false,rfl,fun h=>(by cases h),HB1.out⟩
 have k1:¬ (30:Int)<nn:=by omega
 have k2:¬ (30:Int)<na:=by omega
 have k3:¬ (30:Int)<nf:=by omega
 go_upto_block 0 with fail;clear k1 k2 k3 X1 aI aJ aK aP;go_wp2_with fail;go_loopw [4,3] (fun i s wr=>∃ (k:Nat) (l:List Pt),k<=nn/\i=.int .i64 k/\(∃ A c,s=.slice A l.length c)/\Own wr W1.heap.size 39 2 iV s l/\l.length=k/\Below W1.heap.size W1 wr) (fun i _ _=>nn-(intOf i).toNat)
 case atStart => exact ⟨0,[],Nat.zero_le _,rfl,⟨_,_,rfl⟩,Own.nil _ _ _ _ _,rfl,bR W1⟩
 case round =>
  obtain ⟨k,l,hk,rfl,⟨A,c,rfl⟩,ho,hl,hb⟩:=hrel;obtain ⟨wo,rfl⟩:∃ wo:World,wo=wr:=⟨_,rfl⟩;have HO:=Lib.hid ho;have Hb:=Lib.hid hb;have L9:=Lib.hid hl;have hlk:l.length<=30:=by omega
  have X1:=eH.out.keep hb;clear ho hb hl;by_cases hlt:k<nn
  ·obtain ⟨b,o,hA,hlb,c0,c1,c2⟩:=(HRn.out.mono (bT HB1.out Hb.out)).nd (k:=k) (by rw [xP.out];exact hlt);subst hA;generalize p.nodes[k]'_=x at *;obtain ⟨id,x0,y0⟩:=x;simp only at c0 c1 c2;have hw1:=Hb.out.size;have hsh:(l++[(⟨x0,y0⟩:Pt)]).length=l.length+1:=by simp
   have eu:=Lib.hid hsh;clear hsh
   try clear aI
   try clear aJ
   try clear aK
   try clear aP
   obtain ⟨aI,aJ,aK,aP,-,-,-⟩:=X1.bC;go_wp2_with
    (at_builtin
     refine jH _ rfl (.tmp 30) (.tmp 37) _ rfl (base:=W1.heap.size) Jp F9 Jq rfl (Own.alloc HO.out _) rfl (l2:=[(⟨x0,y0⟩:Pt)]) (Sl.lit (n:=1) (aj.made rfl _ _) rfl (dW (by omega))) (by simp only [List.length_cons,List.length_nil];omega) (by simp only [List.length_cons,List.length_nil];omega) (by simp;omega) ?_;intro v3 w3 ho3 hg3 lY;obtain ⟨A3,c3,hv3,-⟩:=ho3.sl;rw [eu.out] at hv3;subst hv3;have fE:=Lib.hid ho3;have HB3:=Lib.hid (show Below W1.heap.size W1 w3 from bG (bA Hb.out _) hg3 (fun g hg=>(HO.out.lt g hg).1));clear ho3 hg3 lY X1 aI aJ aK aP)
   go_roundw
   case rel => exact ⟨k+1,l++[⟨x0,y0⟩],by omega,by go_num,⟨A3,c3,by rw [eu.out]⟩,fE.out,by rw [eu.out,L9.out],HB3.out⟩
   case measure => simp [intOf];omega
  ·obtain rfl:k=nn:=by omega
   obtain ⟨wA,rfl⟩:∃ wA:World,wA=wo:=⟨_,rfl⟩;have hlA:l.length<=30:=hlk;clear L9
   try clear aI
   try clear aJ
   try clear aK
   try clear aP
   obtain ⟨aI,aJ,aK,aP,-,-,-⟩:=X1.bC;go_upto_block 2 with fail;clear X1 aI aJ aK aP;go_wp2_with fail;go_loopw [5,3] (fun i s wr=>∃ (k:Nat) (l:List Pt),k<=na/\i=.int .i64 k/\(∃ A c,s=.slice A l.length c)/\Own wr W1.heap.size 39 2 iV s l/\l.length<=180/\(∀ j (hj:j<al.length),j<k->al[j].1.via.length<=180)/\Below W1.heap.size W1 wr) (fun i _ _=>na-(intOf i).toNat)
   case atStart => exact ⟨0,l,Nat.zero_le _,rfl,⟨_,_,rfl⟩,HO.out,by omega,fun j _ hj=>by omega,Hb.out⟩
   case round =>
    obtain ⟨k,l,hk,rfl,⟨A,c,rfl⟩,ho,hl,hvs,hb⟩:=hrel;obtain ⟨wo,rfl⟩:∃ wo:World,wo=wr:=⟨_,rfl⟩;have HO:=Lib.hid ho;have Hb:=Lib.hid hb;have Ll:=Lib.hid hvs;have X1:=eH.out.keep hb;have hw1:=hb.size;clear ho hb hvs;by_cases hlt:k<na
    ·have hka:k<al.length:=by rw [IY.out];exact hlt
     obtain ⟨b,o,hA,hlb,c0,c1,c2,c3,c4,c5⟩:=(mM.out.mono (bT HB1.out Hb.out)).ar hka;subst hA;have hvv:=fun W (hW:Below w.heap.size w W)=>(Dj.out k hka).mono hW;have hvz:al[k].1.via.length<=9223372036854775000:=J8.out _ (by rw [uz.out];exact List.mem_map_of_mem (List.getElem_mem hka));have HVn:=Lib.hid (fun (h:al[k].1.via.length<=180)=>show ∀ j (hj:j<al.length),j<k+1->al[j].1.via.length<=180 from fun j hj hjk=>by
      by_cases e:j=k
      · subst e;exact h
      · exact Ll.out j hj (by omega))
     generalize al[k]=x at *;obtain ⟨a,u⟩:=x;simp only at c3 hvv HVn hvz;obtain ⟨Av,cv,hue,hv1,hv2,-⟩:=hvv w (bR w);subst hue;have xQ:=Lib.hid hvv;unfold maxLen at hv2;obtain ⟨V,hV⟩:∃ V,a.via=V:=⟨_,rfl⟩;rw [hV] at hv1 c3 xQ HVn hvz;clear hV hvv c0 c1 c2 c4 c5;have i1:0<=(k:Int):=by omega
     have i2:(k:Int)<na:=by omega
     have HB2:=Lib.hid (bT HB1.out Hb.out)
     try clear aI
     try clear aJ
     try clear aK
     try clear aP
     obtain ⟨aI,aJ,aK,aP,-,-,-⟩:=X1.bC;by_cases hbig:180<l.length+V.length
     ·have hs1:(180:Int)<(l.length:Int)+V.length:=by omega
      have kw:IntKind.i64.wrap ((l.length:Int)+V.length)=l.length+V.length:=IntWalk.i64_in _ (by omega);go_wp2_with fail;go_ret;exact ⟨false,rfl,fun h=>(by cases h),HB2.out⟩
     ·have hs1:¬ (180:Int)<(l.length:Int)+V.length:=by omega
      have kw:IntKind.i64.wrap ((l.length:Int)+V.length)=l.length+V.length:=IntWalk.i64_in _ (by omega);have hsh:(l++V).length=l.length+V.length:=List.length_append;have eu:=Lib.hid hsh;clear hsh;go_wp2_with
       (at_builtin
        refine jH _ rfl (.tmp 57) (.tmp 63) _ rfl (base:=W1.heap.size) Jp F9 Jq rfl HO.out rfl (l2:=V) (xQ.out _ HB2.out) (by omega) (by omega) (by omega) ?_;intro v3 w3 ho3 hg3 lY;obtain ⟨A3,c3',hv3,-⟩:=ho3.sl;rw [eu.out] at hv3;subst hv3;have fE:=Lib.hid ho3;have HB3:=Lib.hid (show Below W1.heap.size W1 w3 from bG Hb.out hg3 (fun g hg=>(HO.out.lt g hg).1));clear ho3 hg3 lY X1 aI aJ aK aP)
      go_roundw
      case rel => exact ⟨k+1,l++V,by omega,by go_num,⟨A3,c3',by rw [eu.out]⟩,fE.out,by rw [eu.out];omega,HVn.out (by omega),HB3.out⟩
      case measure => simp [intOf];omega
    ·obtain rfl:k=na:=by omega
     have HLg:=Lib.hid (show Lgt p from ⟨by rw [xP.out];omega,by rw [Lu.out,IY.out];omega,by rw [PK.out];omega,fun a ha=>by
      rw [uz.out] at ha;obtain ⟨z,hz,rfl⟩:=List.mem_map.1 ha;obtain ⟨j,hj,rfl⟩:=List.mem_iff_getElem.1 hz;exact Ll.out j hj (by rw [<- IY.out];exact hj)⟩)
     have iH:=aso _ l wo HO.out.sl;unfold FZ at iH;generalize qJ l=bx at *;obtain ⟨x0,y0,x1,y1⟩:=bx;simp only at iH;have iR:=Lib.hid iH;clear iH Ll
     try clear aI
     try clear aJ
     try clear aK
     try clear aP
     obtain ⟨aI,aJ,aK,aP,-,-,-⟩:=X1.bC;go_wp2_with fail;refine iR.out.mono ?_;rintro e w5 ⟨rfl,hb5⟩;have dK:=Lib.hid (bT (bT HB1.out Hb.out) hb5);clear hb5 iR X1 aI aJ aK aP;go_wp2_with fail
     all_goals
      go_ret;exact ⟨_,rfl,fun _=>HLg.out,bA dK.out _⟩
end Go.Proofs.YtialfdomhoojiaaGreat
