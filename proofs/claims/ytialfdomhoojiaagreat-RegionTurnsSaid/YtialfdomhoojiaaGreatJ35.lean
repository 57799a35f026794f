import Derived.StillTailTactics
import Derived.Test.YtialfdomhoojiaaGreatJ33
import Derived.Deep.CutBlock
import Derived.Test.YtialfdomhoojiaaGreatGB
import Derived.Test.YtialfdomhoojiaaGreatJ32
import Derived.Test.YtialfdomhoojiaaGreatJ09
set_option linter.unusedSimpArgs false
set_option linter.unusedVariables false
namespace Go.Proofs.YtialfdomhoojiaaGreat
open Go.RowKit
theorem Row.atp {w:World} {A:Option Addr} {l:List Pt} (h:Row w A (l.flatMap jm)) (h0:0<l.length) :
  ∃ b o,A=some ⟨b,o,none⟩/\b<w.heap.size/\∀ j (hj:j<l.length),w.cell? ⟨b,o+j*2,none⟩=some (.int .i64 l[j].x)/\w.cell? ⟨b,o+j*2+1,none⟩=some (.int .i64 l[j].y):=by
 obtain ⟨b,o,hA,hb,-⟩:=h.pt h0;refine ⟨b,o,hA,hb,fun j hj=>?_⟩;obtain ⟨b',o',hA',-,c0,c1⟩:=h.pt hj;rw [hA] at hA';obtain ⟨rfl,rfl⟩:b=b'/\o=o':=by simpa using hA'
 exact ⟨c0,c1⟩
theorem ajd:StructOf Tryz.prog 73 4:=.uq Tryz.underlying73 (by kernel_rfl)
set_option maxRecDepth 100000 in
set_option maxHeartbeats 8000000 in
theorem atq (v:Value) (l:List Pt) (w:World) (h:gW w v l) (hpos:0<l.length) :
  Calls Tryz.prog 47 #[v] w fun e w'=>e=.returned (.agg (Ib (rH l)))/\Below w.heap.size w w':=by
 obtain ⟨A,c,rfl,h1,h2,hR⟩:=h;unfold maxLen at h2;obtain ⟨b,o,rfl,hlb,hc⟩:=Row.atp hR hpos;obtain ⟨u0,u1⟩:=hc 0 hpos;simp only [Nat.zero_mul,Nat.add_zero] at u0 u1;obtain ⟨r,hr⟩:∃ r,rH l=r:=⟨_,rfl⟩;rw [hr];have HR:=Lib.hid (show l.foldl qH ⟨l[0].x,l[0].y,l[0].x,l[0].y⟩=r by
  rw [<- hr]
  cases l with
  | nil=>simp at hpos
  | cons p l=>rfl)
 have HI:=Lib.hid (show (⟨l[0].x,l[0].y,l[0].x,l[0].y⟩:Bx)=(l.take 1).foldl qH ⟨l[0].x,l[0].y,l[0].x,l[0].y⟩ by
  cases l with
  | nil=>simp at hpos
  | cons p l =>
   show _=qH ⟨p.x,p.y,p.x,p.y⟩ p
   unfold qH;simp)
 have HC:=Lib.hid hc;obtain ⟨ln,hln⟩:∃ ln,l.length=ln:=⟨_,rfl⟩;have HLn:=Lib.hid hln;rw [hln] at h1 hpos ⊢;obtain ⟨p0,hp0⟩:∃ p,l[0]=p:=⟨_,rfl⟩;rw [hp0] at u0 u1 HR HI;clear hr hc hR hp0 hln;have v1:(0:Int)<ln:=by omega
 have v2:((ln:Int) == 0)=false:=by simp;omega
 have v3:¬ ln=0:=by omega
 unfold Ib;obtain ⟨g2,hg2⟩:∃ g,w.heap.size=g:=⟨_,rfl⟩;obtain ⟨W,hW⟩:∃ W:World,W=w.alloc (.cells #[.int .i64 0,.int .i64 0,.int .i64 0,.int .i64 0] 73):=⟨_,rfl⟩;have hA:Below w.heap.size w W:=by rw [hW];exact bA (bR w) _
 have X2:aj W g2 73 #[.int .i64 0,.int .i64 0,.int .i64 0,.int .i64 0]:=by rw [hW];exact aj.made hg2.symm _ _
 have HB:=Lib.hid hA;have bU:=Lib.hid X2;go_enter Tryz.func47,Tryz.ntmps47;go_upto_region 3 with fail
 try rw [<- hW]
 have hgw:w.heap.size<=g2:=by omega
 have hbg:b<g2:=by omega
 have hbW:b<W.heap.size:=Nat.lt_of_lt_of_le hlb hA.size;replace u0:=gU hA u0;replace u1:=gU hA u1;clear hW hg2 hA;go_cut [3] (fun u wx=>∃ g3,u=.pointer (some ⟨g3,0,none⟩)/\aj wx g3 73 #[.int .i64 p0.x,.int .i64 p0.y,.int .i64 p0.x,.int .i64 p0.y]/\W.heap.size<=g3/\Below W.heap.size W wx)
 case first =>
  refine cZ (iq (W.heap.size) W) (.run 17 0 0 (.call 17 262143 (.call 18 524287 (.done)))) (by kernel_rfl) (Below.drew (Below.refl _ _)) (by kernel_rfl) (by kernel_rfl) (Nat.le_of_ble_eq_true (by kernel_rfl)) ?_;intro dn QR au aC hS
  iterate 17
   apply jV;exact au;exact rfl;exact hS;exact rfl
   · intro _ hqc;go_simp;try rfl
   try simp only [pu]
  refine aW (i:=17) (aH au rfl) (fun K hK=>?_);have aA:=Lib.hid hS;clear hS;refine aN (aV rfl) ?_;go_simp;have Xx:Below (W.heap.size) W (W.drew):=aA.out;have Fa:W.heap.size<=(W.drew).heap.size:=Nat.le_trans (by omega) (show Below (W.heap.size) W (W.drew) from aA.out).size;refine hK.out _ _ (kQ (by omega) aA.out _) (fun hS=>?_);clear hK K aA
  try replace XQ:=XQ.alloc (.cells #[.int .i64 0,.int .i64 0,.int .i64 0,.int .i64 0] 73)
  have XQ:=aj.new (W.drew) 73 #[.int .i64 0,.int .i64 0,.int .i64 0,.int .i64 0]
  try simp only [World.size_drew,World.size_alloc] at XQ Fa
  try simp only [pu]
  refine aW (i:=18) (aH au rfl) (fun K hK=>?_);have aA:=Lib.hid hS;clear hS;refine aN (aV rfl) ?_;obtain ⟨Xy,Xz,XB,XD,XE,XQe,XQf,XQg,XQh⟩:=XQ.oD;go_simp;refine hK.out _ _ (by unfold iq;have h:Below _ _ _:=aA.out;repeat (first | with_reducible assumption | with_reducible exact Below.refl _ _ | with_reducible refine qJ ?_ (by first | omega | (simp;omega)) _ | with_reducible refine Below.drew ?_ | with_reducible refine kQ (by omega) ?_ _ | exact h)) ?_;intro hS;clear hK K aA
  try simp only [pu]
  refine bQ ?_;refine aC.down _ _ ?_;have hB:Below (W.heap.size) W _:=hS;clear hS aC au;go_wp2_with fail;go_meet
  case rel => exact ⟨_,rfl,(by first | with_reducible exact aj.Ii XQ | with_reducible exact aj.made rfl _ _ | with_reducible exact aj.drew (aj.made rfl _ _)),(by first | omega | (simp;done) | (simp;omega)),hB⟩
 case rest =>
 obtain ⟨g3,rfl,X3,hg3,hb3⟩:=hcut;obtain ⟨W3,hW3⟩:∃ W3:World,W3=wc:=⟨_,rfl⟩;rw [<- hW3] at X3 hb3 ⊢;have HB3:=Lib.hid (bT HB.out hb3);have XF:=Lib.hid (bU.out.keep hb3);have iR:=Lib.hid X3;have atr:g2<g3:=by have:=bU.out.lt;omega
 have att:w.heap.size<=g3:=by omega
 have avC:b<g3:=by omega
 clear hW3 hb3 X3 X2 u0 u1 hbW;go_wp2_with fail;go_loopw [4] (fun u wr=>∃ (k:Nat) (x:Bx),1<=k/\k<=ln/\u=.int .i64 k/\x=(l.take k).foldl qH ⟨p0.x,p0.y,p0.x,p0.y⟩/\aj wr g3 73 #[.int .i64 x.x0,.int .i64 x.y0,.int .i64 x.x1,.int .i64 x.y1]/\Below g3 W3 wr) (fun u _=>ln-(intOf u).toNat)
 case atStart => exact ⟨1,⟨p0.x,p0.y,p0.x,p0.y⟩,Nat.le_refl _,hpos,rfl,HI.out,iR.out,Below.refl _ _⟩
 case round =>
  obtain ⟨k,x,hk1,hk,rfl,hx,X3,hb⟩:=hrel;have Hb:=Lib.hid hb;have HX:=Lib.hid hx;have Rz:=Lib.hid X3;have l3:=X3.lt;have iQ:=Lib.hid (show Below w.heap.size w wr from HB3.out.trans (hb.mono att));clear hb hx;by_cases hlt:k<ln
  ·have hkl:k<l.length:=by rw [HLn.out];exact hlt
   obtain ⟨c0,c1⟩:=HC.out k hkl;replace c0:=gU iQ.out c0;replace c1:=gU iQ.out c1;have hst:(l.take (k+1)).foldl qH ⟨p0.x,p0.y,p0.x,p0.y⟩=qH x l[k]:=by
    rw [List.take_succ_eq_append_getElem hkl,List.foldl_append,<- HX.out];rfl
   unfold qH at hst;have eP:=Lib.hid hst;obtain ⟨q,hq⟩:∃ q,l[k]=q:=⟨_,rfl⟩;rw [hq] at c0 c1 eP;clear hq hst hkl;have hbr:b<wr.heap.size:=by omega
   have hne:some b≠some g3:=fun e=>by have:=Option.some.inj e;omega
   have r1:0<=(k:Int):=by omega
   have r2:(k:Int)<ln:=by omega
   obtain ⟨lM,lN,nN,Na,Ku,FQ,OE,aiM,aiN⟩:=X3.oD;go_upto_region 7 with fail;have hmn:(⟨if q.x<x.x0 then q.x else x.x0,if q.y<x.y0 then q.y else x.y0,if x.x1<q.x then q.x else x.x1,if x.y1<q.y then q.y else x.y1⟩:Bx)=⟨min x.x0 q.x,min x.y0 q.y,max x.x1 q.x,max x.y1 q.y⟩:=by
    congr 1
    · split<;>omega
    · split<;>omega
    · split<;>omega
    · split<;>omega
   have HMn:=Lib.hid hmn;clear hmn;go_still_tail 33,(by kernel_rfl);change wpList _ _ _ _ _ wr.drew;have Ku:=Rz.out.drew;have acu:=Lib.hid Ku;have hbd:Below g3 W3 wr.drew:=Below.drew Hb.out;obtain ⟨wd,hwd⟩:∃ wd:World,wd=wr.drew:=⟨_,rfl⟩;have sG:=Lib.hid hbd;rw [<- hwd] at Ku acu sG ⊢;clear hwd hbd X3 lM lN nN Na c0 c1;obtain ⟨avD,avE,avF,avG,avH,avI,avJ,avK,avL⟩:=Ku.oD;go_wp2_with fail;go_roundw
   case rel => first | exact ⟨k+1,_,by omega,by omega,by go_num,HMn.out.trans eP.out.symm,acu.out.Ii,(((sG.out.setCell (p:=⟨g3,0,none⟩) (Nat.le_refl _) _).setCell (p:=⟨g3,1,none⟩) (Nat.le_refl _) _).setCell (p:=⟨g3,2,none⟩) (Nat.le_refl _) _).setCell (p:=⟨g3,3,none⟩) (Nat.le_refl _) _⟩ | exact ⟨k+1,_,by omega,by omega,by go_num,eP.out.symm,acu.out.Ii,(((sG.out.setCell (p:=⟨g3,0,none⟩) (Nat.le_refl _) _).setCell (p:=⟨g3,1,none⟩) (Nat.le_refl _) _).setCell (p:=⟨g3,2,none⟩) (Nat.le_refl _) _).setCell (p:=⟨g3,3,none⟩) (Nat.le_refl _) _⟩
   case measure => simp [intOf];omega
  ·have hxr:x=r:=by rw [HX.out,List.take_of_length_le (by have:=HLn.out;omega),HR.out]
   have HXr:=Lib.hid hxr;have r2:¬ (k:Int)<ln:=by omega
   clear hxr;have X2:=XF.out.below Hb.out atr;have atu:=Lib.hid X2
   try clear lM
   try clear lN
   try clear nN
   try clear Na
   try clear Ku
   try clear FQ
   try clear OE
   try clear aiM
   try clear aiN
   obtain ⟨lM,lN,nN,Na,Ku,-,-,-,-⟩:=X3.oD;obtain ⟨cu,cO,dH,dZ,Vy,CO,IJ,MZ,acd⟩:=X2.oD;go_wp2_with fail;refine Oi (g:=g2) (cs:=#[.int .i64 x.x0,.int .i64 x.y0,.int .i64 x.x1,.int .i64 x.y1]) rfl ajd rfl rfl (aj.Ii atu.out) ⟨by rw [HXr.out],?_⟩;exact (((iQ.out.setCell (p:=⟨g2,0,none⟩) hgw _).setCell (p:=⟨g2,1,none⟩) hgw _).setCell (p:=⟨g2,2,none⟩) hgw _).setCell (p:=⟨g2,3,none⟩) hgw _
set_option maxHeartbeats 2000000 in
theorem atv (v:Value) (w:World) (h:gW w v []):Calls Tryz.prog 47 #[v] w fun e w'=>e=.returned (.agg (Ib (rH [])))/\Below w.heap.size w w':=by
 obtain ⟨A,c,rfl,-⟩:=h;have hz:(([] : List Pt).length:Int)=0:=rfl;unfold Ib rH;simp only [List.length_nil];obtain ⟨g2,hg2⟩:∃ g,w.heap.size=g:=⟨_,rfl⟩;obtain ⟨W,hW⟩:∃ W:World,W=w.alloc (.cells #[.int .i64 0,.int .i64 0,.int .i64 0,.int .i64 0] 73):=⟨_,rfl⟩;have hA:Below w.heap.size w W:=by rw [hW];exact bA (bR w) _
 have X2:aj W g2 73 #[.int .i64 0,.int .i64 0,.int .i64 0,.int .i64 0]:=by rw [hW];exact aj.made hg2.symm _ _
 have HB:=Lib.hid hA;have bU:=Lib.hid X2;go_enter Tryz.func47,Tryz.ntmps47;go_upto_region 1 with fail;rw [<- hW]
 try rw [hg2]
 have hgw:w.heap.size<=g2:=by omega
 clear hW hg2 hA;obtain ⟨cu,cO,dH,dZ,Vy,CO,IJ,MZ,acd⟩:=X2.oD;go_wp2_with fail;refine Oi (g:=g2) (cs:=#[.int .i64 0,.int .i64 0,.int .i64 (-1),.int .i64 (-1)]) rfl ajd rfl rfl (aj.Ii bU.out) ⟨rfl,?_⟩;exact (((HB.out.setCell (p:=⟨g2,0,none⟩) hgw _).setCell (p:=⟨g2,1,none⟩) hgw _).setCell (p:=⟨g2,2,none⟩) hgw _).setCell (p:=⟨g2,3,none⟩) hgw _
theorem atw (v:Value) (l:List Pt) (w:World) (h:gW w v l):Calls Tryz.prog 47 #[v] w fun e w'=>e=.returned (.agg (Ib (rH l)))/\Below w.heap.size w w':=by
 cases l with
 | nil=>exact atv v w h
 | cons p l=>exact atq v (p::l) w h (by simp)
structure Lgt (p:Pl):Prop where
 nodes:p.nodes.length<=30
 ah:p.ah.length<=30
 faces:p.faces.length<=30
 nR:∀ a∈p.ah,a.via.length<=180
def atx (w:World) (p:Pl) (e:Ending) (w':World):Prop:=∃ b,e=.returned (.bool b)/\(b=true->Lgt p)/\Below w.heap.size w w'
set_option maxRecDepth 100000 in
set_option maxHeartbeats 8000000 in
theorem aje (v:Value) (p:Pl) (w:World) (h:dS w v p) (hsz:∀ a∈p.ah,a.via.length<=9223372036854775000):Calls Tryz.prog 15 #[v] w (atx w p):=by
 have LJ:=Lib.hid hsz;clear hsz;obtain ⟨_,_,_,al,rfl,hpa,⟨An,cn,rfl,hn1,hn2,hR⟩,⟨⟨Aa,ca,rfl,hm1,hm2,jy⟩,Bg⟩,⟨Af,cf,rfl,-⟩⟩:=h;have HRn:=Lib.hid hR;have lK:=Lib.hid jy;have Dl:=Lib.hid Bg;have vF:=Lib.hid hpa;have hnv:p.ah.length=al.length:=by rw [hpa,List.length_map]
 obtain ⟨nn,hnn⟩:∃ n,p.nodes.length=n:=⟨_,rfl⟩;obtain ⟨na,hna⟩:∃ n,al.length=n:=⟨_,rfl⟩;obtain ⟨nf,hnf⟩:∃ n,p.faces.length=n:=⟨_,rfl⟩;have DL:=Lib.hid hnn;have JK:=Lib.hid hna;have Hu:=Lib.hid hnf;have Np:=Lib.hid hnv;rw [hnn,hna,hnf];clear hR jy Bg hpa hnv hnn hna hnf hn1 hn2 hm1 hm2;go_enter Tryz.func15,Tryz.ntmps15;go_upto_region 1 with fail;obtain ⟨W1,hW⟩:∃ W:World,W=w.alloc (.cells #[.slice An nn cn,.slice Aa na ca,.slice Af nf cf] 26):=⟨_,rfl⟩;have X1:aj W1 w.heap.size 26 #[.slice An nn cn,.slice Aa na ca,.slice Af nf cf]:=by rw [hW];exact aj.made rfl _ _
 have HB1:=Lib.hid (show Below w.heap.size w W1 by rw [hW];exact bA (bR w) _);obtain ⟨g1,h1⟩:∃ g,w.heap.size=g:=⟨_,rfl⟩;have hg1:w.heap.size<=g1:=by omega
 rw [<- hW];rw [h1] at X1 ⊢;have fK:=Lib.hid X1;clear hW h1;obtain ⟨aO,aP,aS,aT,-,-,-⟩:=X1.aY;by_cases h1:30<nn
 ·have k1:(30:Int)<nn:=by omega
  go_wp2_with fail;go_ret;exact ⟨false,rfl,fun h=>(by cases h),HB1.out⟩
 by_cases h2:30<na
 ·have k1:¬ (30:Int)<nn:=by omega
  have k2:(30:Int)<na:=by omega
  go_wp2_with fail;go_ret;exact ⟨false,rfl,fun h=>(by cases h),HB1.out⟩
 by_cases h3:30<nf
 ·have k1:¬ (30:Int)<nn:=by omega
  have k2:¬ (30:Int)<na:=by omega
  have k3:(30:Int)<nf:=by omega
  go_wp2_with fail;go_ret;exact ⟨false,rfl,fun h=>(by cases h),HB1.out⟩
 have k1:¬ (30:Int)<nn:=by omega
 have k2:¬ (30:Int)<na:=by omega
 have k3:¬ (30:Int)<nf:=by omega
 go_upto_block 0 with fail;clear k1 k2 k3 X1 aO aP aS aT;go_wp2_with fail;go_loopw [4,3] (fun i s wr=>∃ (k:Nat) (l:List Pt),k<=nn/\i=.int .i64 k/\(∃ A c,s=.slice A l.length c)/\Own wr W1.heap.size 39 2 jm s l/\l.length=k/\Below W1.heap.size W1 wr) (fun i _ _=>nn-(intOf i).toNat)
 case atStart => exact ⟨0,[],Nat.zero_le _,rfl,⟨_,_,rfl⟩,Own.nil _ _ _ _ _,rfl,bR W1⟩
 case round =>
  obtain ⟨k,l,hk,rfl,⟨A,c,rfl⟩,ho,hl,hb⟩:=hrel;obtain ⟨wo,rfl⟩:∃ wo:World,wo=wr:=⟨_,rfl⟩;have HO:=Lib.hid ho;have Hb:=Lib.hid hb;have NC:=Lib.hid hl;have hlk:l.length<=30:=by omega
  have X1:=fK.out.keep hb;clear ho hb hl;by_cases hlt:k<nn
  ·obtain ⟨b,o,hA,hlb,c0,c1,c2⟩:=(HRn.out.mono (bT HB1.out Hb.out)).nd (k:=k) (by rw [DL.out];exact hlt);subst hA;generalize p.nodes[k]'_=x at *;obtain ⟨id,x0,y0⟩:=x;simp only at c0 c1 c2;have hw1:=Hb.out.size;have hsh:(l++[(⟨x0,y0⟩:Pt)]).length=l.length+1:=by simp
   have fD:=Lib.hid hsh;clear hsh
   try clear aO
   try clear aP
   try clear aS
   try clear aT
   obtain ⟨aO,aP,aS,aT,-,-,-⟩:=X1.aY;go_wp2_with
    (at_builtin
     refine lq _ rfl (.tmp 30) (.tmp 37) _ rfl (base:=W1.heap.size) Fp DV Fq rfl (Own.alloc HO.out _) rfl (l2:=[(⟨x0,y0⟩:Pt)]) (Sl.lit (n:=1) (aj.made rfl _ _) rfl (fQ (by omega))) (by simp only [List.length_cons,List.length_nil];omega) (by simp only [List.length_cons,List.length_nil];omega) (by simp;omega) ?_;intro v3 w3 ho3 hg3 qj;obtain ⟨A3,c3,hv3,-⟩:=ho3.sl;rw [fD.out] at hv3;subst hv3;have iU:=Lib.hid ho3;have HB3:=Lib.hid (show Below W1.heap.size W1 w3 from bG (bA Hb.out _) hg3 (fun g hg=>(HO.out.lt g hg).1));clear ho3 hg3 qj X1 aO aP aS aT)
   go_roundw
   case rel => exact ⟨k+1,l++[⟨x0,y0⟩],by omega,by go_num,⟨A3,c3,by rw [fD.out]⟩,iU.out,by rw [fD.out,NC.out],HB3.out⟩
   case measure => simp [intOf];omega
  ·obtain rfl:k=nn:=by omega
   obtain ⟨wA,rfl⟩:∃ wA:World,wA=wo:=⟨_,rfl⟩;have hlA:l.length<=30:=hlk;clear NC
   try clear aO
   try clear aP
   try clear aS
   try clear aT
   obtain ⟨aO,aP,aS,aT,-,-,-⟩:=X1.aY;go_upto_block 2 with fail;clear X1 aO aP aS aT;go_wp2_with fail;go_loopw [5,3] (fun i s wr=>∃ (k:Nat) (l:List Pt),k<=na/\i=.int .i64 k/\(∃ A c,s=.slice A l.length c)/\Own wr W1.heap.size 39 2 jm s l/\l.length<=180/\(∀ j (hj:j<al.length),j<k->al[j].1.via.length<=180)/\Below W1.heap.size W1 wr) (fun i _ _=>na-(intOf i).toNat)
   case atStart => exact ⟨0,l,Nat.zero_le _,rfl,⟨_,_,rfl⟩,HO.out,by omega,fun j _ hj=>by omega,Hb.out⟩
   case round =>
    obtain ⟨k,l,hk,rfl,⟨A,c,rfl⟩,ho,hl,hvs,hb⟩:=hrel;obtain ⟨wo,rfl⟩:∃ wo:World,wo=wr:=⟨_,rfl⟩;have HO:=Lib.hid ho;have Hb:=Lib.hid hb;have Nb:=Lib.hid hvs;have X1:=fK.out.keep hb;have hw1:=hb.size;clear ho hb hvs;by_cases hlt:k<na
    ·have hka:k<al.length:=by rw [JK.out];exact hlt
     obtain ⟨b,o,hA,hlb,c0,c1,c2,c3,c4,c5⟩:=(lK.out.mono (bT HB1.out Hb.out)).ar hka;subst hA;have hvv:=fun W (hW:Below w.heap.size w W)=>(Dl.out k hka).mono hW;have hvz:al[k].1.via.length<=9223372036854775000:=LJ.out _ (by rw [vF.out];exact List.mem_map_of_mem (List.getElem_mem hka));have HVn:=Lib.hid (fun (h:al[k].1.via.length<=180)=>show ∀ j (hj:j<al.length),j<k+1->al[j].1.via.length<=180 from fun j hj hjk=>by
      by_cases e:j=k
      · subst e;exact h
      · exact Nb.out j hj (by omega))
     generalize al[k]=x at *;obtain ⟨a,u⟩:=x;simp only at c3 hvv HVn hvz;obtain ⟨Av,cv,hue,hv1,hv2,-⟩:=hvv w (bR w);subst hue;have yI:=Lib.hid hvv;unfold maxLen at hv2;obtain ⟨V,hV⟩:∃ V,a.via=V:=⟨_,rfl⟩;rw [hV] at hv1 c3 yI HVn hvz;clear hV hvv c0 c1 c2 c4 c5;have i1:0<=(k:Int):=by omega
     have i2:(k:Int)<na:=by omega
     have HB2:=Lib.hid (bT HB1.out Hb.out)
     try clear aO
     try clear aP
     try clear aS
     try clear aT
     obtain ⟨aO,aP,aS,aT,-,-,-⟩:=X1.aY;by_cases hbig:180<l.length+V.length
     ·have hs1:(180:Int)<(l.length:Int)+V.length:=by omega
      have kw:IntKind.i64.wrap ((l.length:Int)+V.length)=l.length+V.length:=IntWalk.i64_in _ (by omega);go_wp2_with fail;go_ret;exact ⟨false,rfl,fun h=>(by cases h),HB2.out⟩
     ·have hs1:¬ (180:Int)<(l.length:Int)+V.length:=by omega
      have kw:IntKind.i64.wrap ((l.length:Int)+V.length)=l.length+V.length:=IntWalk.i64_in _ (by omega);have hsh:(l++V).length=l.length+V.length:=List.length_append;have fD:=Lib.hid hsh;clear hsh;go_wp2_with
       (at_builtin
        refine lq _ rfl (.tmp 57) (.tmp 63) _ rfl (base:=W1.heap.size) Fp DV Fq rfl HO.out rfl (l2:=V) (yI.out _ HB2.out) (by omega) (by omega) (by omega) ?_;intro v3 w3 ho3 hg3 qj;obtain ⟨A3,c3',hv3,-⟩:=ho3.sl;rw [fD.out] at hv3;subst hv3;have iU:=Lib.hid ho3;have HB3:=Lib.hid (show Below W1.heap.size W1 w3 from bG Hb.out hg3 (fun g hg=>(HO.out.lt g hg).1));clear ho3 hg3 qj X1 aO aP aS aT)
      go_roundw
      case rel => exact ⟨k+1,l++V,by omega,by go_num,⟨A3,c3',by rw [fD.out]⟩,iU.out,by rw [fD.out];omega,HVn.out (by omega),HB3.out⟩
      case measure => simp [intOf];omega
    ·obtain rfl:k=na:=by omega
     have HLg:=Lib.hid (show Lgt p from ⟨by rw [DL.out];omega,by rw [Np.out,JK.out];omega,by rw [Hu.out];omega,fun a ha=>by
      rw [vF.out] at ha;obtain ⟨z,hz,rfl⟩:=List.mem_map.1 ha;obtain ⟨j,hj,rfl⟩:=List.mem_iff_getElem.1 hz;exact Nb.out j hj (by rw [<- JK.out];exact hj)⟩)
     have iJ:=atw _ l wo HO.out.sl;unfold Ib at iJ;generalize rH l=bx at *;obtain ⟨x0,y0,x1,y1⟩:=bx;simp only at iJ;have jJ:=Lib.hid iJ;clear iJ Nb
     try clear aO
     try clear aP
     try clear aS
     try clear aT
     obtain ⟨aO,aP,aS,aT,-,-,-⟩:=X1.aY;go_wp2_with fail;refine jJ.out.mono ?_;rintro e w5 ⟨rfl,hb5⟩;have dM:=Lib.hid (bT (bT HB1.out Hb.out) hb5);clear hb5 jJ X1 aO aP aS aT;go_wp2_with fail
     all_goals
      go_ret;exact ⟨_,rfl,fun _=>HLg.out,bA dM.out _⟩
set_option linter.unusedSectionVars false
def lJ {α:Type} (hit:α->Bool) (id:α->Int) (k:Int) (t:Int×Int) (s:Bool×Int) (x:α):Bool×Int:=if hit x=true then (decide (t.1=k) && decide (t.2=id x),s.2+1) else s
theorem ajf {α:Type} {hit:α->Bool} {id:α->Int} {k:Int} {t:Int×Int}:∀ {l:List α} {s:Bool×Int},(∀ x∈l,hit x=false)->l.foldl (lJ hit id k t) s=s
 | [],_,_=>rfl
 | x::l,s,h=>by
  rw [List.foldl_cons]
  have:lJ hit id k t s x=s:=if_neg (by rw [h x List.mem_cons_self];simp)
  rw [this];exact ajf fun y hy=>h y (List.mem_cons_of_mem _ hy)
theorem acv {α:Type} {hit:α->Bool} {id:α->Int} {k:Int} {t:Int×Int}:∀ {l:List α},l.Pairwise (fun a b=>¬ (hit a=true/\hit b=true)) ->
  l.foldl (lJ hit id k t) (false,0)=match l.find? hit with
   | none=>(false,0)
   | some x=>(decide (t.1=k) && decide (t.2=id x),1)
 | [],_=>rfl
 | x::l,h=>by
  have h':=List.pairwise_cons.1 h;rw [List.foldl_cons,List.find?_cons]
  cases c:hit x with
  | true =>
   have e:lJ hit id k t (false,0) x=(decide (t.1=k) && decide (t.2=id x),1):=by unfold lJ;rw [if_pos c];rfl
   rw [e];exact ajf fun y hy=>by
    cases c2:hit y with
    | true=>exact absurd ⟨c,c2⟩ (h'.1 y hy)
    | false=>rfl
  | false =>
   have e:lJ hit id k t (false,0) x=(false,0):=if_neg (by rw [c];simp);rw [e];exact acv h'.2
section
variable {p:Pl} (h:Valid p)
include h
theorem Valid.aty:p.nodes.Pairwise (fun a b=>a.pt≠b.pt):=by
 have hd:=h.dup;have:=(List.pairwise_map (f:=fun n:Nd=>n.pt) (R:=fun a b=>a≠b) (l:=p.nodes)).1 ((ae2 _).1 hd)
 exact this
theorem Valid.atz (v:Pt):p.nodes.Pairwise (fun a b=>¬ (decide (a.pt=v)=true/\decide (b.pt=v)=true)) :=
 h.aty.imp fun {a b} hne g=>hne ((of_decide_eq_true g.1).trans (of_decide_eq_true g.2).symm)
theorem Valid.atA {v:Pt} (nv:aU v=true) (hn:∀ n∈p.nodes,n.pt≠v):p.ah.Pairwise (fun a b=>¬ (kY p v a=true/\kY p v b=true)):=by
 have hs:=h.sound.ah;rw [List.pairwise_map] at hs;refine List.Pairwise.imp_of_mem (fun {a b} ha hb hab g=>?_) hs;obtain ⟨k,hk,o1⟩:=(h.WS nv ha).1 g.1;obtain ⟨m,hm,o2⟩:=(h.WS nv hb).1 g.2;have hne:a≠b:=fun e=>by subst e;omega
 obtain ⟨n,hn',e,-⟩:=h.afG ha hb hne hk hm nv o1 o2;exact hn n hn' e
theorem Valid.locates (hf:uJ p) {v:Pt} (nv:aU v=true) :
  let s1:=p.nodes.foldl (lJ (fun n=>decide (n.pt=v)) (·.id) 1 (um p v)) (false,0)
  let s2:=p.ah.foldl (lJ (kY p v) (·.id) 2 (um p v)) (false,0)
  if 0<s1.2 then s1=(true,1) else if 0<s2.2 then s2=(true,1) else (um p v).1=0/\((um p v).2=0\/(um p v).2∈p.faces):=by
 simp only;rw [acv (h.atz v)]
 cases c:p.nodes.find? (fun n=>decide (n.pt=v)) with
 | some n =>
  simp only;rw [if_pos (by decide)];unfold um;rw [c];simp
 | none =>
  have hn:∀ n∈p.nodes,n.pt≠v:=fun n hn e=>by
   have:=(List.find?_eq_none.1 c) n hn
   simp [e] at this
  simp only;rw [if_neg (by decide),acv (h.atA nv hn)]
  cases c2:p.ah.find? (kY p v) with
  | some a =>
   simp only;rw [if_pos (by decide)];unfold um;rw [c];simp only;rw [c2];simp
  | none =>
   simp only;rw [if_neg (by decide)];unfold um;rw [c];simp only;rw [c2];refine ⟨rfl,?_⟩
   show ku p (dW p v)=0\/ku p (dW p v)∈p.faces
   cases e:dW p v with
   | none=>exact .inl rfl
   | some X=>exact h.U3 _
end
end Go.Proofs.YtialfdomhoojiaaGreat
