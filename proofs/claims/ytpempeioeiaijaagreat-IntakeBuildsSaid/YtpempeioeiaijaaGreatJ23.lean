import Derived.Test.YtpempeioeiaijaaGreatJ22
import Derived.BigRegion
import Derived.Test.YtpempeioeiaijaaGreatLaySortLn
set_option linter.unusedSimpArgs false
set_option linter.unusedVariables false
set_option maxRecDepth 100000
set_option maxHeartbeats 8000000
namespace Go.Proofs.YtpempeioeiaijaaGreat
open Go.RowKit Go.Sort Tryz
def KA (l:List Pt) (q:Pt):Int:=(l.count q:Int)
theorem agB (l:List Pt) (p:Pt):(fun q=>if q=p then KA l p+1 else KA l q)=KA (l++[p]):=by
 funext q
 unfold KA;rw [ZL];by_cases e:q=p
 · subst e;simp
 ·have:([p] : List Pt).count q=0:=yZ.2 (by simpa using e)
  rw [AX e,this];simp
theorem agC (l:List Pt) (q:Pt):0<=KA l q/\KA l q<=l.length:=by
 unfold KA;have:=ah5 (l:=l) (a:=q)
 omega
theorem ax7:KA []=fun _=>0:=by funext q;simp [KA]
theorem bump_eq {l:List Pt} (h:2<=l.length):bump l=l++[l[0]]++[l[l.length-1]]:=by
 unfold bump
 match l,h with
 | x::y::r,_ =>
  have:(x::y::r).getLast? = some ((x::y::r)[(x::y::r).length-1]):=by
   rw [List.getLast?_eq_getElem?,Di Ah]
  rw [this];rfl
theorem ax8 {L:List (List Pt)} {k:Nat} (hk:k<L.length) (h:2<=L[k].length):bumps (L.take (k+1))=bumps (L.take k)++L[k]++[L[k][0]]++[L[k][L[k].length-1]]:=by
 rw [Em hk];unfold bumps;rw [O7,N7,yS,MC,bump_eq h];simp only [LJ]
theorem ax9 {L:List (List Pt)} {k:Nat} {l:List Pt} (hk:L[k]? = some l) (h:2<=l.length):bumps (L.take (k+1))=bumps (L.take k)++l++[l[0]]++[l[l.length-1]]:=by
 obtain ⟨h1,rfl⟩:=List.getElem?_eq_some_iff.1 hk;exact ax8 h1 h
theorem axA (L:List (List Pt)) (m:Nat) (h:∀ l∈L,l.length<=m):(bumps L).length<=L.length*(m+2):=by
 unfold bumps;refine aA L bump (m+2) fun l hl=>?_;unfold bump;have:=h l hl
 simp only [Es];have h1:l.head?.toList.length<=1:=by cases l.head? <;> simp
 have h2:l.getLast?.toList.length<=1:=by cases l.getLast? <;> simp
 omega
def gF (f:Pt->Int) (S:Pt->Bool) (p:Pt):Int:=if S p then f p else if 2<=f p then f p else 0
theorem axB (f:Pt->Int):gF f (fun p=>decide (f p≠0))=f:=by
 funext p
 unfold gF;by_cases h:f p=0
 · simp [h]
 · simp [h]
theorem awR {f:Pt->Int} {S:Pt->Bool} {p:Pt} (h:¬ 2<=f p):(fun q=>if q=p then 0 else gF f S q)=gF f (fun q=>S q && !decide (q=p)):=by
 funext q
 unfold gF;by_cases e:q=p
 · subst e;simp [h]
 · simp [e]
theorem awS {f:Pt->Int} {S:Pt->Bool} {p:Pt} (h:2<=f p):gF f S=gF f (fun q=>S q && !decide (q=p)):=by
 funext q
 unfold gF;by_cases e:q=p
 · subst e;simp [h]
 · simp [e]
def ak (f:Pt->Int) (p:Pt):Int:=if 2<=f p then f p else 0
theorem awT {f:Pt->Int} {S:Pt->Bool} (hf:∀ p,¬ L6 p->f p=0) (h:∀ p,L6 p->S p=false):gF f S=ak f:=by
 funext q
 unfold gF ak;by_cases e:L6 q
 · rw [h q e];rfl
 · rw [hf q e];simp
theorem acG:∀ {l m:List Pt},l.Nodup->(∀ x∈l,x∈m)->l.length<=m.length
 | [],_,_,_=>BX _
 | x::l,m,hn,hs=>by
  obtain ⟨h1,h2⟩:=yP.1 hn;have hx:=hs x JC;have h3:l.length<=(m.erase x).length:=acG h2 fun y hy=>by
   have hne:y≠x:=fun e=>h1 (e ▸ hy);exact (List.mem_erase_of_ne hne).2 (hs y (LM _ hy))
  rw [List.length_erase_of_mem hx] at h3;have h4:0<m.length:=acg hx;rw [JA];omega
open Go.RowKit Go.Sort
theorem awU (v:Value) (xs:List (SV×List Pt)) (w:World) (h:FY w v xs) (hn:xs.length<=1000000) (hs:∀ k (hk:k<xs.length),xs[k].2.length<=1000000) (hz:GZ (xs.map (·.2))≠0) :
  Calls prog 12 #[v] w fun e w'=>e=.returned (.tuple #[.slice none 0 0,.int .i64 (GZ (xs.map (·.2)))])/\AU w w':=by
 have HC:=AB (amT v xs w h hn hs);obtain ⟨⟨A,c,rfl,-⟩,-⟩:=h;generalize GZ (xs.map (·.2))=z at *;have hz':(z != 0)=true:=by simpa using hz
 clear hz;go_enter func12,ntmps12;go_wp2_with fail;refine HC.1.mono ?_;rintro e w1 ⟨rfl,hb1⟩;go_wp2_with fail;go_ret2;exact ⟨rfl,hb1⟩
def amh (w:World) (l:List Pt) (e:Ending) (w':World):Prop :=
 ∃ A c,e=.returned (.tuple #[.slice A l.length c,.int .i64 0])/\AU w w'/\Own w' w.heap.size 42 2 DK (.slice A l.length c) l
theorem ami (v:Value) (xs:List (SV×List Pt)) (w:World) (h:FY w v xs) (hg:UN (xs.map (·.2))) :
  Calls prog 12 #[v] w (amh w (KW (xs.map (·.2)))):=by
 have hn:xs.length<=256:=by have:=hg.num;simpa using this
 have hmem:∀ k (hk:k<xs.length),xs[k].2∈xs.map (·.2):=fun k hk=>FZ (BO hk);have h4:∀ k (hk:k<xs.length),2<=xs[k].2.length/\xs[k].2.length<=4096:=fun k hk=>⟨hg.two _ (hmem k hk),hg.len _ (hmem k hk)⟩;have hwf:∀ k (hk:k<xs.length),∀ p∈xs[k].2,L6 p:=fun k hk p hp=>by
  have:=hg.pts _ (hmem k hk) p hp
  unfold GL at this;simp only [ER,Dq] at this;exact ⟨KC AA AA,KC AA AA⟩
 have HC:=AB (amT v xs w h AA (fun k hk=>by have:=h4 k hk;omega));rw [Ve.2 hg] at HC;have hLk:∀ k (hk:k<xs.length),(xs.map (·.2))[k]? = some xs[k].2:=fun k hk=>by rw [List.getElem?_map,Di hk];rfl
 have hLm:∀ k,∀ l∈(xs.map (·.2)).take k,l.length<=4096:=fun k l hl=>hg.len _ (kW hl);have hLn:(xs.map (·.2)).length=xs.length:=by simp
 have HG:=AB hg;generalize xs.map (·.2)=L at *;obtain ⟨⟨A,c,rfl,hc1,hc2,hR⟩,hP⟩:=h;unfold maxLen at hc2;obtain ⟨HR,HP,H4,XF,jS,HLm,HLn⟩:=WI hR hP h4 hwf hLk hLm hLn;have hmm:=@run_makeMap prog;clear hR hP h4 hwf hLk hLm hmem hg hLn;go_enter func12,ntmps12;go_wp2_with fail;refine HC.1.mono ?_;rintro e w1 ⟨rfl,hb1⟩;go_upto_region 5 with fail;obtain ⟨gm,hgm⟩:=BR w1.heap.size;obtain ⟨W1,hW⟩:∃ W:World,W=w1.alloc (.map #[] 0):=⟨_,rfl⟩;have JO:=AB (show IU W1 gm 0 (KA (bumps (L.take 0))) by
  have e:bumps (L.take 0)=[]:=rfl;rw [hW,hgm,e,ax7];exact IU.made w1)
 have HB1:=AB (show AU w W1 by rw [hW];exact bA hb1 _);have hgl:w.heap.size<=gm:=by rw [hgm];exact hb1.size
 rw [<- hW,<- hgm];clear hW hgm hmm hb1;go_upto_block 0 with fail;go_wp2_with fail;go_loopw [20] (fun u wr=>∃ k n:Nat,k<=xs.length/\n<=k*5000/\u=.int .i64 k/\IU wr gm n (KA (bumps (L.take k)))/\AU w wr) (fun u _=>xs.length-(intOf u).toNat)
 case atStart => exact ⟨0,0,BX _,BX _,rfl,JO.1,HB1.1⟩
 case round =>
  obtain ⟨k,n,hk,hnk,rfl,mp,hb⟩:=hrel;obtain ⟨w2,rfl⟩:=BR wr;have HM:=AB mp;have Hb:=AB hb;clear mp hb JO HB1;by_cases hlt:k<xs.length
  ·obtain ⟨b,o,rfl,hlb,c0⟩:=(HR.1.mono Hb.1).ln hlt;obtain ⟨A1,c1,hv1,hc3,hc4,hR1⟩:=HP.1 k hlt;obtain ⟨hl2,hl4⟩:=H4.1 k hlt;have hwl:=XF.1 k hlt;have hT:=ax9 (jS.1 k hlt) hl2;rw [hv1] at c0;unfold maxLen at hc4;clear hv1;generalize xs[k].2=l at *;have hBl:(bumps (L.take k)).length<=k*4098:=by
    have h9:=axA (L.take k) 4096 (HLm.1 k);have h8:(L.take k).length<=k:=by rw [GH];omega
    have h7:=qX 4098 h8;omega
   have HT:=AB hT;clear hT;generalize bumps (L.take k)=B0 at *;have HR1:=AB hR1;have YF:=AB hwl;clear hR1 hwl;go_upto_block 2 with fail;clear c0 hlb;go_wp2_with fail;go_loopw [26] (fun u wr=>∃ i m:Nat,i<=l.length/\m<=n+i/\u=.int .i64 i/\IU wr gm m (KA (B0++l.take i))/\AU w wr) (fun u _=>l.length-(intOf u).toNat)
   case atStart => exact ⟨0,n,BX _,AA,rfl,by rw [OD,MC];exact HM.1,Hb.1⟩
   case round =>
    obtain ⟨i,m,hi,hmn,rfl,mp,hb⟩:=hrel;obtain ⟨w3,rfl⟩:=BR wr;replace HM:=AB mp;replace Hb:=AB hb;clear mp hb;by_cases J7:i<l.length
    ·obtain ⟨b1,o1,rfl,NK,d0,d1⟩:=(HR1.1.mono Hb.1).pt J7;have hwp:=YF.1 _ (BO J7);have hTi:B0++l.take (i+1)=(B0++l.take i)++[l[i]]:=by rw [Em J7,LJ]
     have hBi:(B0++l.take i).length<=k*4098+4096:=by
      rw [Es,GH];omega
     generalize l[i]=p at *;have acH:=AB hTi;clear hTi;generalize B0++l.take i=C at *;have hcb:=agC C p;go_upto_region 11 with fail;obtain ⟨W5,hW⟩:∃ W:World,W=w3.alloc (.cells #[.int .i64 p.x,.int .i64 p.y] 42):=⟨_,rfl⟩;have X8:AO W5 w3.heap.size 42 #[.int .i64 p.x,.int .i64 p.y]:=by rw [hW];exact AO.made rfl _ _
     have HA:=AB (show AU w3 W5 by rw [hW];exact bA (bR w3) _);have OT:=(HM.1.keep HA.1).kept (row:=none) (gD (gR W5 none)) Ah;have jT:=OT.look p hwp;obtain ⟨st,w6,w7,r1,g1,jU,r2,WR,g2⟩:=OT.bump AA p hwp (KA C p+1) AA;have hwr:=EL (KA C p+1);rw [agB,<- acH.1] at WR;have YZ:=AB WR;have Gx:=AB (show AU w w7 from bG (w:=w) (bD (bT Hb.1 HA.1)) g2 (fun q hq=>by have:=DV hq;omega));rw [<- hW];clear hW d0 d1 WR g1 g2 OT HM NK;generalize KA C p=cp at *;obtain ⟨Rq,Rt,SG,-⟩:=X8.Bl;go_region;clear r1 r2 jT jU;go_wp2;go_roundw
     case rel => exact ⟨i+1,m+1,AA,AA,BG,YZ.1,Gx.1⟩
     case measure => exact BH
    ·have hil:i=l.length:=AA
     subst hil;rw [I5] at HM;obtain ⟨b1,o1,rfl,NK,d0,d1⟩:=(HR1.1.mono Hb.1).pt (k:=0) AA;simp only [kP,RF] at d0 d1;have hwp:=YF.1 _ (BO (show 0<l.length by omega));have hwq:=YF.1 _ (BO (show l.length-1<l.length by omega));have HF:=AB (fun W (hW:AU w W)=>(HR1.1.mono hW).pt (k:=l.length-1) (show l.length-1<l.length by omega));generalize l[0]=p at *;generalize l[l.length-1]=q at *;have hCl:(B0++l).length<=k*4098+4096:=by rw [Es];omega
     generalize B0++l=C at *;have hcb:=agC C p;have hcb2:=agC (C++[p]) q;have hln:(C++[p]).length=C.length+1:=by simp
     have OT:=HM.1.kept (row:=none) (gD (gR w3 none)) Ah;have jT:=OT.look p hwp;obtain ⟨st,w6,w7,r1,g1,jU,r2,WR,g2⟩:=OT.bump AA p hwp (KA C p+1) AA;have hwr:=EL (KA C p+1);rw [agB] at WR;have YZ:=AB WR;have Gx:=AB (show AU w w7 from bG (w:=w) (bD Hb.1) g2 (fun q hq=>by have:=DV hq;omega));clear WR g1 g2 OT HM;have hlp:0<l.length:=AA
     have hcr:KA (C++[p]) q+1≠0:=AA
     obtain ⟨cp,hcp⟩:=BI (KA C p);rw [hcp] at jT r1 jU r2 hwr;clear hcp;go_upto_region 13 with fail;go_region;clear r1 r2 jT jU d0 d1 hwr NK;have OT:=YZ.1.kept (row:=none) (gD (gR w7 none)) Ah;have jT:=OT.look q hwq;obtain ⟨st2,w8,w9,r1,g1,jU,r2,hm9,g2⟩:=OT.bump AA q hwq (KA (C++[p]) q+1) hcr;have hwr:=EL (KA (C++[p]) q+1);rw [agB,<- HT.1] at hm9;have y9:=AB hm9;have GX:=AB (show AU w w9 from bG (w:=w) (bD Gx.1) g2 (fun q hq=>by have:=DV hq;omega));obtain ⟨b2,o2,hA2,UD,f0,f1⟩:=HF.1 _ Gx.1;simp only [Gt,Addr.mk.injEq,and_true] at hA2;obtain ⟨rfl,rfl⟩:=hA2;obtain ⟨cq,hcq⟩:=BI (KA (C++[p]) q);rw [hcq] at jT r1 jU r2 hwr;obtain ⟨N,hN⟩:=BI (l.length-1);have hN2:((l.length:Int)-1)=N:=AA
     have hN3:IntKind.i64.wrap ((l.length:Int)-1)=N:=by rw [hN2];exact Jw _ AA
     have hN4:N<l.length:=AA
     have hN5:(N:Int)<l.length:=AA
     have hN6:(0:Int)<=N:=AA
     rw [hN] at f0 f1;clear hcq hm9 g1 g2 OT YZ hcb hcb2 hN2;go_upto_region 14 with fail;go_region;clear r1 r2 jT jU f0 f1 hwr UD hN3 hN5 hN6;go_wp2;go_roundw
     case rel => exact ⟨k+1,m+2,AA,AA,BG,y9.1,GX.1⟩
     case measure => exact BH
  ·have hkn:k=xs.length:=AA
   subst hkn;rw [IE (by rw [HLn.1];exact Cj _)] at HM;have oO:=AB (show ∀ p,¬ L6 p->KA (bumps L) p=0 from fun p hp=>by
    unfold KA;have:(bumps L).count p=0:=yZ.2 fun hm=>by
     obtain ⟨l,hl,hpl⟩:=kF.1 (akF.1 hm);have:=HG.1.pts l hl p hpl
     unfold GL at this;simp only [ER,Dq] at this;exact hp ⟨KC AA AA,KC AA AA⟩
    rw [this];rfl)
   have HFm:=AB (show ∀ p,ak (KA (bumps L)) p≠0↔meets L p=true from fun p=>by
    unfold ak meets KA;rw [Dq];split<;>omega)
   generalize KA (bumps L)=f at *;go_wp2_with (first | (at_range;refine amf _ rfl _ rfl gm n f rfl HM.1 ?_;intro w4 cnt4 hrg4 hg4 hs4) | fail);go_frame;obtain ⟨r,hr⟩:=BR w2.heap.size;have hrl:w.heap.size<=r:=by rw [hr];exact Hb.1.size
   rw [<- hr] at hrg4 ⊢;have HR4:=AB (show Pj w4 gm r n (gF f (fun p=>decide (f p≠0))) (fun p=>decide (f p≠0)) cnt4 by rw [axB];exact hrg4);have HB4:=AB (show AU w w4 from bG (w:=w) Hb.1 hg4 (fun q hq=>by cases hq));clear hrg4 hg4 hs4 HM hr;go_loopw [10] (fun _ wr=>∃ (S:Pt->Bool) (cnt:Nat),Pj wr gm r n (gF f S) S cnt/\AU w wr) (fun _ wr=>wr.rangeLeft gm r)
   case atStart => exact ⟨_,_,HR4.1,HB4.1⟩
   case round =>
    obtain ⟨S,cnt,hrg,hb⟩:=hrel;obtain ⟨w5,rfl⟩:=BR wr;replace Hb:=AB hb;have YG:=AB hrg;clear hb hrg HR4 HB4;go_wp2_with (first | (at_next;refine amg _ rfl _ rfl gm r n _ _ _ rfl YG.1 ?_ ?_) | fail)
    ·intro hl0;have TY:=AB (show IU w5 gm n (ak f) by rw [<- awT oO.1 hl0];exact YG.1.owns);clear hl0 YG;go_wp2_with (first | (at_range;refine amf _ rfl _ rfl gm n _ rfl TY.1 ?_;intro w6 amj oP FN hs6) | fail);go_frame;obtain ⟨r2,hr2⟩:=BR w5.heap.size;have hrl2:w.heap.size<=r2:=by rw [hr2];exact Hb.1.size
     rw [<- hr2] at oP ⊢;have qC:=AB oP;have Ew:=AB (show AU w w6 from bG (w:=w) Hb.1 FN (fun q hq=>by cases hq));clear oP FN hs6 TY hr2;have HGz:=AB (show ∀ p,¬ L6 p->ak f p=0 from fun p hp=>by unfold ak;rw [oO.1 p hp];rfl);generalize ak f=g at *;go_loopw [2] (fun u wr=>∃ (S:Pt->Bool) (cnt:Nat) (l:List Pt),Own wr w.heap.size 42 2 DK u l/\Pj wr gm r2 n g S cnt/\AU w wr/\l.Nodup/\(∀ p,L6 p->(p∈l↔g p≠0/\S p=false))/\(∀ p∈l,L6 p)/\∀ p,S p=true->g p≠0) (fun _ wr=>wr.rangeLeft gm r2)
     case atStart => exact ⟨_,_,[],Own.nil _ _ _ _ _,qC.1,Ew.1,List.Pairwise.nil,fun p _=>⟨fun h=>(by cases h),fun h=>(by have h1:=h.1;have h2:=h.2;simp [h1] at h2)⟩,fun p h=>(by cases h),fun p h=>(by simpa using h)⟩
     case round =>
      obtain ⟨S,cnt,l,ho,hrg,hb,hnd,hml,hwl,hsg⟩:=hrel;obtain ⟨w7,rfl⟩:=BR wr;replace Hb:=AB hb;obtain ⟨YG,HO,MI,acI,YF,mD⟩:=Jz hrg ho hnd hml hwl hsg;clear hb hrg qC Ew ho hnd hml hwl hsg;have hln:l.length<=1048576:=by
       have h1:=acG MI.1 (m:=L.flatten) (fun x hx=>iO ((HFm.1 x).1 ((acI.1 x (YF.1 x hx)).1 hx).1));have h3:L.flatten.length<=L.length*4096:=by
        have:=aA L id 4096 (fun l hl=>HG.1.len l hl)
        simpa [List.flatMap_id] using this
       have h4:=HG.1.num;omega
      go_wp2_with (first | (at_next;refine amg _ rfl _ rfl gm r2 n _ _ _ rfl YG.1 ?_ ?_) | fail)
      ·intro hl0;have HFin:=AB (show ∀ p,p∈l↔meets L p=true from fun p=>by
        rw [<- HFm.1 p];by_cases hw:L6 p
        ·rw [acI.1 p hw];exact ⟨fun h=>h.1,fun h=>⟨h,hl0 p hw⟩⟩
        · exact ⟨fun h=>absurd (YF.1 p h) hw,fun h=>absurd (HGz.1 p hw) h⟩)
       clear hl0;go_wp2_with fail;refine (ax6 w.heap.size _ l _ HO.1 AA).mono ?_;rintro e w9 ⟨rfl,sl,hp,hs,Gy,JK⟩;have hsl:sl=KW L:=akG (hp.nodup_iff.2 MI.1) (fun p=>by rw [hp.mem_iff];exact HFin.1 p) (hs.imp fun h=>by rw [abd (fun x:Pt=>x)] at h;exact h);subst hsl;have GX:=AB (show AU w w9 from bG (w:=w) Hb.1 JK (fun q hq=>(HO.1.lt q hq).1));have Vx:=AB Gy;clear hp hs JK Gy;go_wp2_with fail;obtain ⟨A9,c9,cZ,-⟩:=Own.shape Vx.1;subst cZ;go_ret2;exact ⟨A9,c9,rfl,GX.1,Vx.1⟩
      ·intro p w8 awV hwp hsp amA awW Pg hs8 hen;have qE:=AB amA;obtain ⟨hne1,hne2⟩:=YG.1.own_ne HO.1;have KH:=AB (HO.1.grown Pg (fun q hq e=>hne2 (by rw [hq,<- DV e])));have Jb:=AB (show AU w w8 from bG (w:=w) Hb.1 Pg (fun q hq=>by have:=DV hq;omega));have hgp:=mD.1 p hsp;have hpl:p∉l:=fun h=>by have:=((acI.1 p hwp).1 h).2;rw [hsp] at this;cases this
       have hb8:=Jb.1.size;generalize g p=gp at *;clear hne1 hne2 amA Pg hs8;go_wp2_with
        (at_builtin
         refine FK _ rfl (.tmp 74) (.tmp 76) _ rfl (base:=w.heap.size) JI I7 JD rfl ((KH.1.alloc _).alloc _) rfl (l2:=[p]) (Sl.lit (n:=1) (AO.made Ah _ _) rfl (D7 AA)) Dl Dl DR ?_;intro v1 w1 ho1 hg1 MH;obtain ⟨Fp,HR1,HB1⟩:=CG ho1 (((qE.1.kept (World.grownBy_alloc _ _ none) Ah Ah).kept (World.grownBy_alloc _ _ none) Ah Ah).kept hg1 (fun e=>(qE.1.own_ne KH.1).1 e.symm) (fun e=>(qE.1.own_ne KH.1).2 e.symm)) (show AU w w1 from bG (w:=w) (bA (bA Jb.1 _) _) hg1 (fun q hq=>(KH.1.lt q hq).1));clear ho1 hg1 MH)
       go_roundw
       case rel => exact ⟨_,awV,l++[p],Fp.1,HR1.1,HB1.1,ach.2 ⟨MI.1,yP.2 ⟨Ah,List.Pairwise.nil⟩,fun a ha b hb e=>hpl (by rw [Eb] at hb;rw [<- hb,<- e];exact ha)⟩,fun q hq=>by
         rw [GI,Eb,acI.1 q hq];by_cases e:q=p
         · subst e;simp [mD.1 q hsp]
         · simp [e],fun q hq=>by
         rcases GI.1 hq with h | h
         · exact YF.1 q h
         · rw [Eb.1 h];exact hwp,fun q hq=>mD.1 q (by simp only [ER] at hq;exact hq.1)⟩
       case measure => rw [HR1.1.left_eq,YG.1.left_eq];exact awW
    ·intro p w6 amj hwp hsp oP awX FN hs6 hen;have qC:=AB oP;have Ew:=AB (show AU w w6 from bG (w:=w) Hb.1 FN (fun q hq=>by have:=DV hq;omega));have hgv:gF f S p=f p:=by unfold gF;rw [hsp];rfl
     rw [hgv] at hen ⊢;clear hgv oP FN hs6 hsp;by_cases h2:2<=f p
     ·have HE:=AB (awS (S:=S) h2);generalize f p=fp at *;go_wp2;go_roundw
      case rel => exact ⟨_,amj,by rw [<- HE.1];exact qC.1.kept (World.grownBy_alloc _ _ none) Ah Ah,bA Ew.1 _⟩
      case measure => rw [(qC.1.kept (World.grownBy_alloc _ _ none) Ah Ah).left_eq,YG.1.left_eq];exact awX
     ·have HE:=AB (awR (S:=S) h2);generalize f p=fp at *;go_wp2_with (first | (at_delete;refine ax2 _ rfl (.tmp 66) (.tmp 67) rfl gm r n _ _ _ rfl p hwp rfl (qC.1.kept (World.grownBy_alloc _ _ none) Ah Ah) ?_;intro w7 awY amB azS ht7;go_frame) | fail);have qF:=AB amB;have Gx:=AB (show AU w w7 from bG (w:=w) (bA Ew.1 _) ht7.grown (fun q hq=>by have:=DV hq;omega));clear amB ht7;go_roundw
      case rel => exact ⟨_,awY,by
       have h9:=qF.1;rw [HE.1] at h9;have e9:(fun q=>(S q && !decide (q=p)) && !decide (q=p))=fun q=>S q && !decide (q=p):=by
        funext q;cases S q<;>cases decide (q=p)<;>rfl
       rw [e9] at h9;exact h9,Gx.1⟩
      case measure => rw [qF.1.left_eq,YG.1.left_eq];omega
open Go.RowKit Go.Sort
theorem acJ {α:Type} (f:α->List Pt) (x y:α):ltOf (fun x y=>cmpL (f x) (f y)) x y=EU (f x) (f y):=by
 unfold ltOf cmpL
 cases h1:EU (f x) (f y)<;>cases h2:EU (f y) (f x)<;>simp [h1,h2]
theorem awZ {α:Type} (f:α->List Pt):SWO (ltOf (fun x y:α=>cmpL (f x) (f y))) where
 irrefl x:=by rw [acJ];exact zA _
 trans x y z h1 h2:=by rw [acJ] at *;exact afy h1 h2
 ntrans x y z h1 h2:=by rw [acJ] at *;exact afz h2 h1
theorem YH (x:SV×List Pt):(Kw x).length=1:=rfl
theorem amC (l:List (SV×List Pt)):l.flatMap Kw=l.map fun x=>BF x.1:=by
 induction l with
 | nil=>rfl
 | cons a l ih=>rw [N7,ih];rfl
theorem amD (l:List (SV×List Pt)) (j:Nat):(l.flatMap Kw)[j]? = (l[j]?).map (fun x=>BF x.1):=by rw [amC,List.getElem?_map]
theorem amE (l:List (SV×List Pt)):(l.flatMap Kw).length=l.length:=by rw [amC,CV]
def jV (w0:World) (x:SV×List Pt):Prop:=CZ w0 (BF x.1) x.2/\x.2.length<=1000000000
def awc (w:World) (base:Nat) (v:Value) (sl:List (SV×List Pt)) (e:Ending) (w':World):Prop :=
 e=.returned (.tuple #[])/\∃ sl':List (SV×List Pt),sl'.Perm sl/\sl'.Pairwise (fun a b=>EU b.2 a.2=false)/\Own w' base 25 1 Kw v sl'/\w.grownBy w' v.ownBlock
theorem awd (w0:World) (base:Nat) (v:Value) (sl:List (SV×List Pt)) (w:World) (hown:Own w base 25 1 Kw v sl) (hb0:AU w0 w) (hbase:w0.heap.size<=base) (hok:∀ x∈sl,jV w0 x) (hn:sl.length<=4294967296) :
  Calls prog 65 #[v,.func (.func 66) #[] #[]] w (awc w base v sl):=by
 rcases sl with _ | ⟨s0,rest⟩
 ·have hv:∃ p cap,v=.slice p 0 cap:=by
   rcases hown.2 with ⟨h,_⟩ | ⟨g,cap,cur,h,_⟩
   · exact ⟨_,_,h⟩
   · exact ⟨_,_,h⟩
  obtain ⟨p,cap,rfl⟩:=hv;refine Calls.mono (AnyF.slices_SortFunc_none {Tryz.sortLn with} p cap (.func (.func 66) #[] #[]) w) ?_;rintro e w' ⟨rfl,rfl⟩;exact ⟨rfl,[],List.Perm.refl _,List.Pairwise.nil,hown,World.grownBy.refl _ _⟩
 generalize hsl:s0::rest=sl at *;have hs0:s0∈sl:=by rw [<- hsl];simp
 have hpos:0<sl.length:=by rw [<- hsl];simp
 obtain ⟨hlen,hown2⟩:=hown;rcases hown2 with ⟨_,h0⟩ | ⟨g,cap,cur,rfl,hg,hh,hnc,hcm,hcs,hx⟩
 · omega
 haveI hI:Inhabited ({x:SV×List Pt // jV w0 x}):=⟨⟨s0,hok s0 hs0⟩⟩
 have hdl:∃ dl:List ({x:SV×List Pt // jV w0 x}),dl.map (·.1)=sl:=⟨sl.attachWith (fun s=>jV w0 s) hok,by simp;exact List.attach_map_subtype_val sl⟩;obtain ⟨dl,hdl⟩:=hdl;have hdn:dl.length=sl.length:=by have:=congrArg List.length hdl;simpa using this
 have hcur:∀ j,j<sl.length->cur[j]? = (sl[j]?).map (fun x=>BF x.1):=fun j hj=>by
  rw [<- amD,<- hx,List.getElem?_take,AZ AA];simp
 let enc:{x:SV×List Pt // jV w0 x}->Value:=fun x=>BF x.1.1
 have eg:∀ args w,(callFunc 66 args).run prog w=.ok (.enter 66 args) w:=enters_of func66 Gl rfl;have hcmp:CmpLays1 prog 66 #[] enc (fun x y=>cmpL x.1.2 y.1.2) g 0 dl.toArray.size w:=fun m os dk hdk x y=>by
  have hg':=aam enc w g 0 m dk os;have Nh:AU w0 _:=bG hb0 hg' (fun q hq=>by have:=DV hq;omega);exact (ava x.1 y.1 _ (x.2.1.mono Nh) (y.2.1.mono Nh) x.2.2 y.2.2).mono fun e w' h=>⟨h.1,qw h.2⟩
 have hget:∀ j,j<dl.length->sl[j]? = some (dl.toArray[j]!).1:=fun j hj=>by
  have e1:dl.toArray[j]! = dl[j]:=by rw [getElem!_pos dl.toArray j ZE];simp
  rw [e1]
  have:sl[j]? = (dl.map (·.1))[j]? := by rw [hdl]
  rw [this,List.getElem?_map,Di hj];rfl
 have hH:Holds enc w g 0 dl.toArray:=fun j hj=>by
  have hj':j<dl.length:=by simpa using hj
  refine ⟨?_,AO.frozen (t:=25) (cs:=cur) hh _⟩;rw [cell_of_row w g _ cur 25 (0,0) hh,Ug,hcur j AA,hget j hj'];rfl
 have hcon:=Any.slices_SortFunc Tryz.sortLn enc (fun _=>rfl) (fun x y=>cmpL x.1.2 y.1.2) (awZ fun x:{x:SV×List Pt // jV w0 x}=>x.1.2) 66 #[] g 0 cap dl.toArray w eg hcmp hH (AO.lt hh) DR;have hns:dl.toArray.size=sl.length:=by simp [hdn]
 rw [hns] at hcon;refine Calls.mono hcon ?_;rintro e w' ⟨rfl,d',n,os,hp,hs,rfl⟩;obtain ⟨p1,-,p3⟩:=hp;have hd':d'.size=sl.length:=by rw [p1,hns]
 have hperm:d'.toList.Perm dl:=by
  have e1:d'.extract 0 sl.length=d':=by rw [<- hd'];simp
  have e2:dl.toArray.extract 0 sl.length=dl.toArray:=by rw [<- hns];simp
  rw [e1,e2] at p3;simpa using p3
 have aeD:(d'.toList.map (·.1)).Perm sl:=by
  have h1:(d'.toList.map (·.1)).Perm (dl.map (·.1)):=hperm.map _;exact h1.trans (List.Perm.of_eq hdl)
 have hsorted:(d'.toList.map (·.1)).Pairwise (fun a b=>EU b.2 a.2=false):=by
  rw [IX,G9];intro i j hi hj hij;have hj':j<d'.size:=by simpa using hj
  have:=hs i j (BX _) hij (by rw [<- hd'];exact hj')
  rw [acJ,getElem!_pos d' j hj',getElem!_pos d' i AA] at this;simpa using this
 refine ⟨rfl,_,aeD,hsorted,?_,aam enc w g 0 n d' os⟩;have hl':(d'.toList.map (·.1)).length=sl.length:=by simp [hd']
 unfold Own;rw [hl'];refine ⟨by rw [amE,hl'];omega,.inr ⟨g,cap,putCells enc 0 d' cur,rfl,hg,?_,hnc,hcm,qQ,?_⟩⟩
 ·have hgl:g<w.heap.size:=AO.lt hh;rw [aal,Array.getElem?_append_left (by simpa using hgl),Array.getElem?_modify,AZ rfl,hh];rfl
 ·apply kM;intro j;rw [List.getElem?_take];by_cases hj:j<sl.length*1
  ·rw [AZ hj];have hjc:j<cur.size:=by rw [hcs];omega
   have hjd:j<d'.size:=by rw [hd'];omega
   rw [amD,List.getElem?_map];have e1:(putCells enc 0 d' cur).toList[j]? = some (enc d'[j]!):=by
    simp [putCells,hjc,hjd]
   rw [e1,getElem!_pos d' j hjd,Array.getElem?_toList,Array.getElem?_eq_getElem hjd];rfl
  · rw [AX hj,ZJ (by rw [amE,hl'];omega)]
open Go.RowKit Go.Sort
theorem au:Elem prog 22 25 1 24:=Elem.QV (z:=.slice none 0 0) Gl Gl rfl AA
theorem bC (x:SV×List Pt):∀ u∈Kw x,u.oneCell'=true:=by simp [Kw,BF,Value.oneCell']
def awe (w:World) (L:List (List Pt)) (M:Pt->Bool) (e:Ending) (w':World):Prop :=
 ∃ A c ys,e=.returned (.slice A ys.length c)/\AU w w'/\Own w' w.heap.size 25 1 Kw (.slice A ys.length c) ys/\(∀ y∈ys,CZ w (BF y.1) y.2)/\ys.map (·.2)=WX (L.flatMap (L8 M))
theorem amF {l:List Pt} {s i:Nat} (hs:s<=i) (hi:i<l.length):(l.drop s).take (i-s)++[l[i]]=(l.drop s).take (i+1-s):=by
 rw [show i+1-s=(i-s)+1 by omega];have h:i-s<(l.drop s).length:=by rw [Ue];omega
 rw [Em h];congr 2;rw [List.getElem_drop];congr 1;omega
theorem take_one {l:List Pt} {i:Nat} (hi:i<l.length):(l.drop i).take (i+1-i)=[l[i]]:=by
 rw [show i+1-i=1 by omega,TB l hi];rfl
theorem amG {M:Pt->Bool} {l:List Pt} {s i:Nat} (hs:s<=i) (hi:i<l.length) (hM:M l[i]=true):KJ M ((l.drop s).take (i-s)) (l.drop i)=(l.drop s).take (i+1-s)::KJ M ((l.drop i).take (i+1-i)) (l.drop (i+1)):=by
 rw [take_one hi,<- amF hs hi,TB l hi,KJ,AZ hM]
theorem amH {M:Pt->Bool} {l:List Pt} {s i:Nat} (hs:s<=i) (hi:i<l.length) (hM:M l[i]=false):KJ M ((l.drop s).take (i-s)) (l.drop i)=KJ M ((l.drop s).take (i+1-s)) (l.drop (i+1)):=by
 rw [<- amF hs hi,TB l hi,KJ,AX (by rw [hM];simp)]
theorem amI (M:Pt->Bool) {l:List Pt} (hi:0<l.length):KJ M ((l.drop 0).take (1-0)) (l.drop 1)=L8 M l:=by
 match l,hi with
 | x::r,_=>rfl
theorem awf (v:Value) (xs:List (SV×List Pt)) (gm n:Nat) (f:Pt->Int) (w:World) (h:FY w v xs) (hg:UN (xs.map (·.2))) (hM:IU w gm n f) :
  Calls prog 35 #[v,.map (some gm)] w (awe w (xs.map (·.2)) (fun p=>decide (f p≠0))):=by
 have hn:xs.length<=256:=by have:=hg.num;simpa using this
 have hmem:∀ k (hk:k<xs.length),xs[k].2∈xs.map (·.2):=fun k hk=>FZ (BO hk);have h4:∀ k (hk:k<xs.length),2<=xs[k].2.length/\xs[k].2.length<=4096:=fun k hk=>⟨hg.two _ (hmem k hk),hg.len _ (hmem k hk)⟩;have hwf:∀ k (hk:k<xs.length),∀ p∈xs[k].2,L6 p:=fun k hk p hp=>by
  have:=hg.pts _ (hmem k hk) p hp
  unfold GL at this;simp only [ER,Dq] at this;exact ⟨KC AA AA,KC AA AA⟩
 have hLk:∀ k (hk:k<xs.length),(xs.map (·.2)).take (k+1)=(xs.map (·.2)).take k++[xs[k].2]:=fun k hk=>by
  rw [Em Uc];simp
 have hLn:(xs.map (·.2)).length=xs.length:=by simp
 obtain ⟨M,OT⟩:∃ M:Pt->Bool,M=fun p=>decide (f p≠0):=⟨_,rfl⟩;rw [<- OT];have HMd:=AB (fun p=>congrFun OT p);generalize xs.map (·.2)=L at *;obtain ⟨⟨A,c,rfl,hc1,hc2,hR⟩,hP⟩:=h;unfold maxLen at hc2;obtain ⟨HR,HP,H4,XF,jS,HLn,HM,HG⟩:=yU hR hP h4 hwf hLk hLn hM hg;clear hR hP h4 hwf hLk hmem hLn hM OT hg;go_enter func35,ntmps35;go_upto_block 0 with fail;go_wp2_with fail;go_loopw [4,13] (fun z u wr=>∃ (k:Nat) (ys:List (SV×List Pt)),k<=xs.length/\u=.int .i64 k/\Own wr w.heap.size 25 1 Kw z ys/\AU w wr/\(∀ y∈ys,CZ w (BF y.1) y.2)/\ys.map (·.2)=(L.take k).flatMap (L8 M)/\ys.length<=k*4096) (fun _ u _=>xs.length-(intOf u).toNat)
 case atStart => exact ⟨0,[],BX _,rfl,Own.nil _ _ _ _ _,bR w,fun y h=>(by cases h),rfl,Cj _⟩
 case round =>
  obtain ⟨k,ys,hk,rfl,ho,hb,hrd,hys,hyl⟩:=hrel;obtain ⟨w2,rfl⟩:=BR wr;obtain ⟨HO,Hb,OO,O5⟩:=DW ho hb hrd hys;clear ho hb hrd hys;by_cases hlt:k<xs.length
  ·obtain ⟨b,o,rfl,hlb,c0⟩:=(HR.1.mono Hb.1).ln hlt;have wU:=HP.1 k hlt;obtain ⟨A1,c1,hv1,hc3,hc4,hR1⟩:=wU;obtain ⟨hl2,hl4⟩:=H4.1 k hlt;have hwl:=XF.1 k hlt;have hT:=jS.1 k hlt;rw [hv1] at c0;have UZ:=AB (show Sl w (.slice A1 xs[k].2.length c1) xs[k].2.length (xs[k].2.flatMap DK) from ⟨A1,c1,rfl,hc3,hc4,hR1⟩);unfold maxLen at hc4;clear hv1;generalize xs[k].2=l at *;obtain ⟨HT,HR1,YF⟩:=CG (show (L.take (k+1)).flatMap (L8 M)=ys.map (·.2)++L8 M l by rw [hT,O7,O5.1];simp) hR1 hwl;clear hR1 hwl hT;go_upto_block 2 with fail;clear c0 hlb;go_wp2_with fail;go_loopw [4,7,8] (fun z t u wr=>∃ (i s:Nat) (zs:List (SV×List Pt)) (Q:List (List Pt)),i<=l.length/\s<=i/\1<=i/\u=.int .i64 i/\t=.int .i64 s/\Own wr w.heap.size 25 1 Kw z zs/\AU w wr/\(∀ y∈zs,CZ w (BF y.1) y.2)/\zs.map (·.2)=ys.map (·.2)++Q/\Q++KJ M ((l.drop s).take (i-s)) (l.drop i)=L8 M l/\zs.length<=k*4096+i) (fun _ _ u _=>l.length-(intOf u).toNat)
   case atStart => exact ⟨1,0,ys,[],AA,AA,Cj _,rfl,rfl,HO.1,Hb.1,OO.1,Ah,by rw [OW];exact amI M AA,AA⟩
   case round =>
    obtain ⟨i,s,zs,Q,hi,hsi,hi1,rfl,rfl,ho,hb,hrd,hzs,hQ,hzl⟩:=hrel;obtain ⟨w3,rfl⟩:=BR wr;replace HO:=AB ho;replace Hb:=AB hb;replace OO:=AB hrd;have jW:=AB hzs;have HQ:=AB hQ;clear ho hb hrd hzs hQ;by_cases J7:i<l.length
    ·have hfp:=HMd.1 l[i];have hwp:=YF.1 _ (BO J7);obtain ⟨b1,o1,rfl,NK,d0,d1⟩:=(HR1.1.mono Hb.1).pt J7
     cases qG:M l[i]
     ·have Pm:=AB (show Q++KJ M ((l.drop s).take (i+1-s)) (l.drop (i+1))=L8 M l by rw [<- amH hsi J7 qG];exact HQ.1);rw [qG] at hfp;clear qG;generalize l[i]=p at *;have hlk:=(HM.1.keep Hb.1).look_ok p hwp;rw [<- hfp] at hlk;clear hfp;go_wp2;go_roundw
      case rel => exact ⟨i+1,s,zs,Q,AA,AA,AA,BG,rfl,HO.1,Hb.1,OO.1,jW.1,Pm.1,AA⟩
      case measure => exact BH
     ·have Pm:=AB (show (Q++[(l.drop s).take (i+1-s)])++KJ M ((l.drop i).take (i+1-i)) (l.drop (i+1))=L8 M l by rw [LJ,kT,<- amG hsi J7 qG];exact HQ.1);rw [qG] at hfp;clear qG;generalize l[i]=p at *;have hlk:=(HM.1.keep Hb.1).look_ok p hwp;rw [<- hfp] at hlk;clear hfp;have hmid:=Sl.aaG I7 UZ.1 s (i+1) AA AA;have hpl:((l.drop s).take (i+1-s)).length=i+1-s:=by rw [GH,Ue];omega
      obtain ⟨Ac,hAc⟩:=BI (QW (some ⟨b1,o1,none⟩) c1 s 2);have hcut:=fun W=>aaF (P:=prog) Tryz.underlying25 (e:=42) (size:=2) (fun _=>by kernel_rfl) (some ⟨b1,o1,none⟩) l.length c1 s (i+1) AA AA hc3 (s:Int) ((i:Int)+1) rfl AA W;rw [hAc] at hmid hcut;obtain ⟨pc,hpc⟩:=BI ((l.drop s).take (i+1-s));rw [hpc] at hmid hpl Pm;obtain ⟨N1,hN1⟩:=BI (i+1-s);obtain ⟨C1,wV⟩:=BI (c1-s);rw [hN1,wV] at hcut hmid;rw [hN1] at hpl;have wW:=AB (show CZ w (BF ⟨Ac,N1,C1⟩) pc from hmid);have hwr:=EL ((i:Int)+1);have hb3:=Hb.1.size;clear hmid hpc hN1 wV hAc;go_wp2_with
       (at_builtin
        refine FK _ rfl (.tmp 33) (.tmp 39) _ rfl (base:=w.heap.size) au YH bC rfl (HO.1.alloc _) rfl (l2:=[((⟨Ac,N1,C1⟩:SV),pc)]) (Sl.lit (n:=1) (AO.made Ah _ _) rfl (D7 AA)) Dl Dl DR ?_;intro v1 w1 ho1 hg1 MH;have Fp:=AB ho1;have HB1:=AB (show AU w w1 from bG (w:=w) (bA Hb.1 _) hg1 (fun q hq=>(HO.1.lt q hq).1));clear ho1 hg1 MH)
      go_roundw
      case rel => exact ⟨i+1,i,_,Q++[pc],AA,AA,AA,BG,rfl,Fp.1,HB1.1,fun y hy=>by
        rcases GI.1 hy with h | h
        · exact OO.1 y h
        · rw [Eb.1 h];exact wW.1,by rw [FH,jW.1,LJ];rfl,Pm.1,Qz⟩
      case measure => exact BH
    ·have hil:i=l.length:=AA
     subst hil;have Pm:=AB (show Q=L8 M l by
      have h9:=HQ.1;rw [ZK] at h9;simpa [KJ] using h9)
     go_wp2;go_roundw
     case rel => exact ⟨k+1,zs,AA,BG,HO.1,Hb.1,OO.1,by rw [HT.1,jW.1,Pm.1],AA⟩
     case measure => exact BH
  ·have hkn:k=xs.length:=AA
   subst hkn;have jX:=O5.1;rw [IE (by rw [HLn.1];exact Cj _)] at jX;have acK:=AB jX;have hok:∀ y∈ys,jV w y:=fun y hy=>⟨OO.1 y hy,by
    have h1:y.2∈L.flatMap (L8 M):=by rw [<- acK.1];exact FZ hy
    obtain ⟨l,hl,hq⟩:=Ii.1 h1;have h2:=HG.1.two l hl;have h3:=HG.1.len l hl;obtain ⟨x,r,rfl,-⟩:=an4 h2;have h5:=(acE M r [x] y.2 hq).length_le;simp only [kT] at h5;omega⟩
   clear jX O5;go_wp2_with fail;refine (awd w w.heap.size _ ys _ HO.1 Hb.1 (Cj _) hok AA).mono ?_;rintro e w9 ⟨rfl,sl,hp,hs,Gy,JK⟩;obtain ⟨HFin,awg,GX,Vx⟩:=DW (show sl.map (·.2)=WX (L.flatMap (L8 M)) from atn ((hp.map (·.2)).trans (List.Perm.of_eq acK.1)) (by rw [IX];exact hs)) (show ∀ y∈sl,CZ w (BF y.1) y.2 from fun y hy=>OO.1 y (hp.mem_iff.1 hy)) (show AU w w9 from bG (w:=w) Hb.1 JK (fun q hq=>(HO.1.lt q hq).1)) Gy;clear hp hs JK Gy hok;go_wp2_with fail;obtain ⟨A9,c9,cZ,-⟩:=Own.shape Vx.1;subst cZ;go_ret;exact ⟨A9,c9,sl,rfl,GX.1,Vx.1,awg.1,HFin.1⟩
open Go.RowKit Go.Sort
def QJ (x y:SV×List Pt):Bool:=EU x.2 y.2
theorem amJ {α:Type} {lt:α->α->Bool} {x:α} {l:List α} {k:Nat} (h:∀ j (hj:j<l.length),j<k->lt l[j] x=true) (he:k=l.length\/∃ hk:k<l.length,lt l[k] x=false):Kv lt x l=l.take k++x::l.drop k:=by
 induction l generalizing k with
 | nil =>
  rcases he with rfl | ⟨hk,-⟩
  · rfl
  · exact absurd hk Ah
 | cons a l ih =>
  cases k with
  | zero =>
   rcases he with he | ⟨hk,h1⟩
   · simp at he
   ·simp only [List.getElem_cons_zero] at h1;simp [Kv,h1]
  | succ k =>
   have ha:lt a x=true:=h 0 Ah AA;rw [Kv,AZ ha,ih (k:=k) (fun j hj hjk=>h (j+1) ZE AA) (by
    rcases he with he | ⟨hk,h1⟩
    · left;simpa using he
    · right;exact ⟨Uc,by simpa using h1⟩)]
   simp
theorem anR {α:Type} (lt:α->α->Bool) (x:α) (l:List α):(Kv lt x l).length=l.length+1:=(abY lt x l).length_eq
theorem anS (x:SV×List Pt):∀ l:List (SV×List Pt),(Kv QJ x l).map (·.2)=Kv EU x.2 (l.map (·.2))
 | []=>rfl
 | y::l=>by
  unfold Kv;rw [Ey];simp only;have e:QJ y x=EU y.2 x.2:=rfl;rw [e];split
  · rw [Ey,anS x l]
  · rfl
theorem awh {α:Type} (lt:α->α->Bool) (l:List α) (x:α):WW lt (l++[x])=Kv lt x (WW lt l):=by
 unfold WW;rw [WC];rfl
def anT (w:World) (ys:List (SV×List Pt)) (e:Ending) (w':World):Prop :=
 ∃ A c,e=.returned (.slice A ys.length c)/\AU w w'/\FY w' (.slice A ys.length c) ys
theorem awi (v:Value) (xs:List (SV×List Pt)) (x:SV×List Pt) (w:World) (h:FY w v xs) (hx:CZ w (BF x.1) x.2) (hn:xs.length<=2000000) (hs:∀ k (hk:k<xs.length),xs[k].2.length<=1000000000) (hxl:x.2.length<=1000000000) :
  Calls prog 52 #[v,BF x.1] w (anT w (Kv QJ x xs)):=by
 obtain ⟨Vy,HP,HX⟩:=CG (fun k (hk:k<xs.length) W (hW:AU w W)=>agt xs[k] x W ((h.2 k hk).mono hW) (hx.mono hW) (hs k hk) hxl) h.2 hx;have agD:=anR QJ x xs;obtain ⟨⟨A,c,rfl,hm1,hm2,hR⟩,-⟩:=h;have HC:=AB (show Sl w (.slice A xs.length c) xs.length (xs.flatMap Kw) from ⟨A,c,rfl,hm1,hm2,hR⟩);unfold maxLen at hm2;have HR:=AB hR;obtain ⟨q,hq⟩:=BI (Kv QJ x xs);rw [hq] at agD ⊢;have Hq:=AB hq;have Hlen:=AB agD;clear hq hR hx hs agD;have OO:=AB (show ∀ k W,AU w W->q=xs.take k++x::xs.drop k->∀ j (hj:j<q.length),CZ W (BF q[j].1) q[j].2 from fun k W hW he j hj=>by
  have key:∀ y∈xs,CZ w (BF y.1) y.2:=fun y hy=>by
   obtain ⟨j,hj,e⟩:=EF.1 hy;rw [<- e];exact HP.1 j hj
  have hm:=BO hj;obtain ⟨z,hz⟩:=BI (q[j]);rw [hz] at hm ⊢;rw [he,GI,FI] at hm;rcases hm with h | h | h
  · exact (key _ (kW h)).mono hW
  · rw [h];exact HX.1.mono hW
  · exact (key _ (List.mem_of_mem_drop h)).mono hW)
 go_enter func52,ntmps52;go_upto_block 0 with fail;go_wp2_with fail;go_loopw [5] (fun u wr=>∃ k:Nat,k<=xs.length/\u=.int .i64 k/\AU w wr/\∀ j (hj:j<xs.length),j<k->QJ xs[j] x=true) (fun u _=>xs.length-(intOf u).toNat)
 case atStart => exact ⟨0,BX _,rfl,bR w,fun _ _ h=>AA⟩
 case round =>
  obtain ⟨k,hk,rfl,hb,hno⟩:=hrel;obtain ⟨wo,rfl⟩:=BR wr;have Hb:=AB hb;have MJ:=AB hno;clear hb hno;have hrun1:=ahr Tryz.underlying22 (fun w=>show (Go.sizeOf 25).run prog w=.ok 1 w by kernel_rfl) A xs.length c k hk hm1;have hrun2:=adG Tryz.underlying22 (fun w=>show (Go.sizeOf 25).run prog w=.ok 1 w by kernel_rfl) A xs.length c k hk (k:Int) rfl;obtain ⟨Ei,iK,Ui,qo,jY,jZ⟩:=Jz (show Sl w (.slice A k c) (xs.take k).length ((xs.take k).flatMap Kw) from Sl.adH HC.1 k hk) (show Sl w (.slice (QW A c k 1) (xs.length-k) (c-k)) (xs.drop k).length ((xs.drop k).flatMap Kw) from Sl.from_ YH HC.1 k hk) (show (xs.take k).length<=2000000 by rw [GH];omega) (show (xs.drop k).length<=2000000 by rw [Ue];omega) hrun1 hrun2;clear hrun1 hrun2;by_cases hlt:k<xs.length
  ·obtain ⟨b,o,rfl,hlb,c0⟩:=(HR.1.mono Hb.1).ln hlt;have VJ:=AB (fun W (hW:AU wo W)=>Vy.1 k hlt W (bT Hb.1 hW));have hbr:QJ xs[k] x=EU xs[k].2 x.2:=rfl;have bF:=AB (fun (e:QJ xs[k] x=false)=>show q=xs.take k++x::xs.drop k by rw [<- Hq.1];exact amJ MJ.1 (.inr ⟨hlt,e⟩));have Ju:=AB (fun (e:QJ xs[k] x=true)=>all_succ (p:=fun y=>QJ y x=true) MJ.1 hlt e);rw [hbr] at bF Ju;generalize xs[k]=y at *;obtain ⟨sy,ly⟩:=y;simp only at VJ bF Ju c0;unfold BF at c0 VJ;generalize EU ly x.2=br at *;clear hbr;go_wp2_with fail;refine (VJ.1 _ (bR wo)).mono ?_;rintro e w1 ⟨rfl,hb1⟩;have HB1:=AB (bT Hb.1 hb1);clear hb1 c0 hlb
   cases br
   case true =>
    have HN9:=AB (Ju.1 rfl);go_wp2;go_roundw
    case rel => exact ⟨k+1,AA,BG,HB1.1,HN9.1⟩
    case measure => exact BH
   case false =>
    have HI:=AB (bF.1 rfl);clear bF Ju;have hrun1:=jY.1;have hrun2:=jZ.1;clear jY jZ;go_upto_region 5 with
     (at_builtin
      refine FK _ rfl (.tmp 21) (.tmp 24) _ rfl (base:=w.heap.size) au YH bC rfl (Own.lit _ _ _ _ Kw [] _ 0 _ rfl rfl HB1.1.size (D7 AA) rfl rfl) rfl (l2:=xs.take k) (Ei.1.mono (bA HB1.1 _)) dS dS (by have:=HB1.1.size;simp;omega) ?_;intro v5 w5 Dj hg5 G5;rw [OW] at Dj;have Ep:=AB Dj;have Ce:=AB (show AU w w5 from bG (bA HB1.1 _) hg5 (fun g hg=>by have h:=DV hg;have:=HB1.1.size;simp at h;omega));have QA:w.heap.size<=w5.heap.size:=Ce.1.size;clear Dj hg5 G5)
    unfold BF;refine PE (w.heap.size) (w5) (.take 0 1 (.take 1 3 (.run 3 4 3 (.call 2 119 (.call 3 127 (.call 7 255 (.take 8 511 (.done)))))))) fun CQ QR Ae Aj hS=>?_
    iterate 5 refine Ak ?_
    refine BN ?_;clear hS;intro K hK AP;go_simp;refine hK.out _ _ (Ej AA AP.out _) (fun hS=>?_);clear hK K AP
    try simp only [pu]
    refine BN ?_;clear hS;intro K hK AP;refine GK (.tmp 26) (.tmp 28) _ rfl (base:=w.heap.size) au YH bC rfl (Own.alloc (Ep.1.keep (bD (bR w5))) _) rfl (l2:=[x]) (Sl.lit (n:=1) (AO.made rfl _ _) rfl (D7 AA)) XT XT DR ?_;intro v6 w6 NT FN Yo;have YI:Below w.heap.size w5 w6:=Below.grown (Below.alloc (Below.drew (Below.refl _ _)) DR _) FN DR (fun g hg=>(Ep.1.lt g hg).1);have hS:E8 (w.heap.size) w5 w6:=YI;have Ew:=AB YI;have JQ:=AB NT;have UW:w.heap.size<=w6.heap.size:=EG QA YI.size;clear NT FN Yo YI;clear AP;refine hK.out _ _ hS (fun _=>?_);clear hK K
    try simp only [pu]
    refine BN ?_;clear hS;intro K hK AP;refine GK (.tmp 29) (.tmp 32) _ rfl (base:=w.heap.size) au YH bC rfl JQ.1 rfl (l2:=xs.drop k) (iK.1.mono (Ce.1.trans Ew.1)) dL dL UW ?_;intro v7 w7 Dv DN Jd;rw [LJ,kT,<- HI.1] at Dv;have hS:E8 (w.heap.size) w5 w7:=Below.grown Ew.1 DN UW (fun g hg=>(JQ.1.lt g hg).1);obtain ⟨A7,c7,hv7,-⟩:=Own.GU Dv;subst hv7;have NU:=AB Dv;clear Dv DN Jd;clear AP;refine hK.out _ _ hS (fun _=>?_);clear hK K
    try simp only [pu]
    refine Ak ?_;refine J3 ?_;clear hS Aj Ae;intro hB;have GX:=AB (Ce.1.trans hB);go_wp2;go_ret;exact ⟨A7,c7,rfl,GX.1,Own.sl NU.1,OO.1 k _ GX.1 HI.1⟩
  ·have hkl:k=xs.length:=AA
   have HI:=AB (show q=xs.take k++x::xs.drop k by rw [<- Hq.1];exact amJ MJ.1 (.inl hkl));clear hkl;have hrun1:=jY.1;have hrun2:=jZ.1;clear jY jZ;go_upto_region 5 with
    (at_builtin
     refine FK _ rfl (.tmp 21) (.tmp 24) _ rfl (base:=w.heap.size) au YH bC rfl (Own.lit _ _ _ _ Kw [] _ 0 _ rfl rfl Hb.1.size (D7 AA) rfl rfl) rfl (l2:=xs.take k) (Ei.1.mono (bA Hb.1 _)) dS dS (by have:=Hb.1.size;simp;omega) ?_;intro v5 w5 Dj hg5 G5;rw [OW] at Dj;have Ep:=AB Dj;have Ce:=AB (show AU w w5 from bG (bA Hb.1 _) hg5 (fun g hg=>by have h:=DV hg;have:=Hb.1.size;simp at h;omega));have QA:w.heap.size<=w5.heap.size:=Ce.1.size;clear Dj hg5 G5)
   unfold BF;refine PE (w.heap.size) (w5) (.take 0 1 (.take 1 3 (.run 3 4 3 (.call 2 119 (.call 3 127 (.call 7 255 (.take 8 511 (.done)))))))) fun CQ QR Ae Aj hS=>?_
   iterate 5 refine Ak ?_
   refine BN ?_;clear hS;intro K hK AP;go_simp;refine hK.out _ _ (Ej AA AP.out _) (fun hS=>?_);clear hK K AP
   try simp only [pu]
   refine BN ?_;clear hS;intro K hK AP;refine GK (.tmp 26) (.tmp 28) _ rfl (base:=w.heap.size) au YH bC rfl (Own.alloc (Ep.1.keep (bD (bR w5))) _) rfl (l2:=[x]) (Sl.lit (n:=1) (AO.made rfl _ _) rfl (D7 AA)) XT XT DR ?_;intro v6 w6 NT FN Yo;have YI:Below w.heap.size w5 w6:=Below.grown (Below.alloc (Below.drew (Below.refl _ _)) DR _) FN DR (fun g hg=>(Ep.1.lt g hg).1);have hS:E8 (w.heap.size) w5 w6:=YI;have Ew:=AB YI;have JQ:=AB NT;have UW:w.heap.size<=w6.heap.size:=EG QA YI.size;clear NT FN Yo YI;clear AP;refine hK.out _ _ hS (fun _=>?_);clear hK K
   try simp only [pu]
   refine BN ?_;clear hS;intro K hK AP;refine GK (.tmp 29) (.tmp 32) _ rfl (base:=w.heap.size) au YH bC rfl JQ.1 rfl (l2:=xs.drop k) (iK.1.mono (Ce.1.trans Ew.1)) dL dL UW ?_;intro v7 w7 Dv DN Jd;rw [LJ,kT,<- HI.1] at Dv;have hS:E8 (w.heap.size) w5 w7:=Below.grown Ew.1 DN UW (fun g hg=>(JQ.1.lt g hg).1);obtain ⟨A7,c7,hv7,-⟩:=Own.GU Dv;subst hv7;have NU:=AB Dv;clear Dv DN Jd;clear AP;refine hK.out _ _ hS (fun _=>?_);clear hK K
   try simp only [pu]
   refine Ak ?_;refine J3 ?_;clear hS Aj Ae;intro hB;have GX:=AB (Ce.1.trans hB);go_wp2;go_ret;exact ⟨A7,c7,rfl,GX.1,Own.sl NU.1,OO.1 k _ GX.1 HI.1⟩
open Go.RowKit Go.Sort
theorem anU {p:Pt} {l:List Pt} {k:Nat} (h:∀ j (hj:j<l.length),j<k->BP l[j] p=true) (he:k=l.length\/∃ hk:k<l.length,BP l[k] p=false/\l[k]≠p):LC p l=l.take k++p::l.drop k:=by
 induction l generalizing k with
 | nil =>
  rcases he with rfl | ⟨hk,-⟩
  · rfl
  · exact absurd hk Ah
 | cons a l ih =>
  cases k with
  | zero =>
   rcases he with he | ⟨hk,h1,h2⟩
   · simp at he
   ·simp only [List.getElem_cons_zero] at h1 h2;simp [LC,h1,h2]
  | succ k =>
   have ha:BP a p=true:=h 0 Ah AA;rw [LC,AZ ha,ih (k:=k) (fun j hj hjk=>h (j+1) ZE AA) (by
    rcases he with he | ⟨hk,h1,h2⟩
    · left;simpa using he
    · right;exact ⟨Uc,by simpa using h1,by simpa using h2⟩)]
   simp
theorem awj {p:Pt} {l:List Pt} {k:Nat} (hk:k<l.length) (h:∀ j (hj:j<l.length),j<k->BP l[j] p=true) (he:l[k]=p):LC p l=l:=by
 induction l generalizing k with
 | nil=>exact absurd hk Ah
 | cons a l ih =>
  cases k with
  | zero =>
   simp only [List.getElem_cons_zero] at he;subst he;simp [LC,U4]
  | succ k =>
   have ha:BP a p=true:=h 0 Ah AA;rw [LC,AZ ha,ih (k:=k) Uc (fun j hj hjk=>h (j+1) ZE AA) (by simpa using he)]
theorem anV (p:Pt):∀ l:List Pt,(LC p l).length<=l.length+1
 | []=>by simp [LC]
 | y::l=>by
  unfold LC;have:=anV p l
  split
  · simp only [JA];omega
  · split<;>simp only [JA]<;>omega
def awk (w:World) (l:List Pt) (e:Ending) (w':World):Prop :=
 ∃ A c,e=.returned (.slice A l.length c)/\AU w w'/\CZ w' (.slice A l.length c) l
theorem awl (v:Value) (l:List Pt) (p:Pt) (w:World) (h:CZ w v l) (hl:l.length<=2000000) :
  Calls prog 30 #[v,.agg #[.int .i64 p.x,.int .i64 p.y]] w (awk w (LC p l)):=by
 have WZ:=AB (fun a W=>amY a p W);obtain ⟨A,c,rfl,hn,hc,hR⟩:=h;have HC:=AB (show CZ w (.slice A l.length c) l from ⟨A,c,rfl,hn,hc,hR⟩);unfold maxLen at hc;have HR:=AB hR;clear hR;obtain ⟨q,hq⟩:=BI (LC p l);rw [hq];have Hq:=AB hq;clear hq;go_enter func30,ntmps30;go_upto_block 0 with fail;obtain ⟨W1,hW⟩:=BR (w.alloc (.cells #[.int .i64 p.x,.int .i64 p.y] 42));have Dt:=AB (show AO W1 w.heap.size 42 #[.int .i64 p.x,.int .i64 p.y] by rw [hW];exact AO.made rfl _ _);have HB1:=AB (show AU w W1 by rw [hW];exact bA (bR w) _);rw [<- hW];clear hW;go_wp2_with fail;go_loopw [5] (fun u wr=>∃ k:Nat,k<=l.length/\u=.int .i64 k/\AU W1 wr/\∀ j (hj:j<l.length),j<k->BP l[j] p=true) (fun u _=>l.length-(intOf u).toNat)
 case atStart => exact ⟨0,BX _,rfl,bR W1,fun _ _ h=>AA⟩
 case round =>
  obtain ⟨k,hk,rfl,hb,hno⟩:=hrel;obtain ⟨wo,rfl⟩:=BR wr;have Hb:=AB hb;have MJ:=AB hno;have X1:=Dt.1.keep hb;clear hb hno;have q1:(0:Int)<=k:=AA
  obtain ⟨jY,jZ,Ei,iK,Ui,qo⟩:=Jz (ahr Tryz.underlying25 (fun w=>show (Go.sizeOf 42).run prog w=.ok 2 w by kernel_rfl) A l.length c k hk hn) (adG Tryz.underlying25 (fun w=>show (Go.sizeOf 42).run prog w=.ok 2 w by kernel_rfl) A l.length c k hk (k:Int) rfl) (show Sl w (.slice A k c) (l.take k).length ((l.take k).flatMap DK) from Sl.adH HC.1 k hk) (show Sl w (.slice (QW A c k 2) (l.length-k) (c-k)) (l.drop k).length ((l.drop k).flatMap DK) from Sl.from_ I7 HC.1 k hk) (show (l.take k).length<=2000000 by rw [GH];omega) (show (l.drop k).length<=2000000 by rw [Ue];omega);obtain ⟨BJ,BK,BL,-⟩:=X1.Bl;by_cases hlt:k<l.length
  ·have q2:(k:Int)<l.length:=AA
   obtain ⟨b,o,rfl,hlb,d0,d1⟩:=(HR.1.mono (bT HB1.1 Hb.1)).pt hlt;have hlb0:=hlb;obtain ⟨r,hr⟩:=BI (l[k]);rw [hr] at d0 d1;have Hr:=AB hr;have acL:=AB (WZ.1 r);clear hr
   cases hbr:BP r p
   case true =>
    rw [hbr] at acL;have Hbr:=AB hbr;clear hbr;go_upto_region 2 with fail;refine D9 (wo) (.run 10 0 0 (.call 10 2047 (.take 11 4095 (.done)))) fun CQ QR Ae Aj hS=>?_
    iterate 5 refine Ak ?_
    iterate 5 refine E5 ?_
    refine BN ?_;clear hS;intro K hK AP;go_simp;refine (acL.1 _).mono ?_;rintro e BZ ⟨rfl,BU⟩;have hS:Since wo BZ:=bT (w:=wo) AP.out BU;clear AP;refine hK.out _ _ hS (fun _=>?_);clear hK K
    try simp only [pu]
    refine Ak ?_;refine D5 ?_;clear hS Aj Ae;intro hB;have Hb2:=AB (bT Hb.1 hB);clear BJ BK BL d0 d1 hB hlb;go_wp2;go_roundw
    case rel => exact ⟨k+1,AA,BG,Hb2.1,all_succ (p:=fun y=>BP y p=true) MJ.1 hlt (by rw [Hr.1];exact Hbr.1)⟩
    case measure => exact BH
   case false =>
    rw [hbr] at acL;have Hbr:=AB hbr;clear hbr;go_upto_region 2 with fail;refine D9 (wo) (.run 10 0 0 (.call 10 2047 (.take 11 4095 (.done)))) fun CQ QR Ae Aj hS=>?_
    iterate 5 refine Ak ?_
    iterate 5 refine E5 ?_
    refine BN ?_;clear hS;intro K hK AP;go_simp;refine (acL.1 _).mono ?_;rintro e BZ ⟨rfl,BU⟩;have hS:Since wo BZ:=bT (w:=wo) AP.out BU;clear AP;refine hK.out _ _ hS (fun _=>?_);clear hK K
    try simp only [pu]
    refine Ak ?_;refine D5 ?_;clear hS Aj Ae;intro hB;obtain ⟨W3,hW3⟩:∃ W:World,W=BZ:=⟨_,rfl⟩;rw [<- hW3] at hB ⊢;have Hb3:=AB (bT Hb.1 hB);have X3:=Dt.1.keep Hb3.1;have e0:W3.cell? ⟨b,o+k*2,none⟩=some (.int .i64 r.x):=KL hB d0;have e1:W3.cell? ⟨b,o+k*2+1,none⟩=some (.int .i64 r.y):=KL hB d1;have YP:b<W3.heap.size:=QS hlb0 hB.size;clear hW3 BJ BK BL d0 d1 hB hlb;obtain ⟨Dk,EI,EN,-⟩:=X3.Bl;by_cases Lp:r=p
    ·have heq:∀ W,(binOp .eql 42 (.agg #[.int .i64 r.x,.int .i64 r.y]) (.agg #[.int .i64 p.x,.int .i64 p.y])).run prog W=.ok (.bool true) W:=fun W=>by rw [KP];simp [Lp]
     have H9:=AB (show l=q by rw [<- Hq.1];exact (awj hlt MJ.1 (by rw [Hr.1];exact Lp)).symm);clear Lp;go_upto_region 4 with fail;refine D9 (W3) (.run 12 0 0 (.done)) fun CQ QR Ae Aj hS=>?_
     iterate 5 refine Ak ?_
     iterate 6 refine E5 ?_
     refine Ak ?_;refine D5 ?_;clear hS Aj Ae;intro hB;go_wp2;go_ret;rw [<- H9.1];exact ⟨_,c,rfl,bT HB1.1 (bT Hb3.1 hB),HC.1.mono (bT HB1.1 (bT Hb3.1 hB))⟩
    ·have heq:∀ W,(binOp .eql 42 (.agg #[.int .i64 r.x,.int .i64 r.y]) (.agg #[.int .i64 p.x,.int .i64 p.y])).run prog W=.ok (.bool false) W:=fun W=>by rw [KP];simp [Lp]
     have bF:=AB (show q=l.take k++p::l.drop k by rw [<- Hq.1];exact anU MJ.1 (.inr ⟨hlt,by rw [Hr.1];exact Hbr.1,by rw [Hr.1];exact Lp⟩));clear Lp;go_upto_region 4 with fail;refine D9 (W3) (.run 12 0 0 (.done)) fun CQ QR Ae Aj hS=>?_
     iterate 5 refine Ak ?_
     iterate 6 refine E5 ?_
     refine Ak ?_;refine D5 ?_;clear hS Aj Ae;intro hB;obtain ⟨W5,IZ⟩:∃ W:World,W=W3.drew:=⟨_,rfl⟩;rw [<- IZ] at hB ⊢;have Hb5:=AB (bT Hb3.1 hB);have X5:=Dt.1.keep Hb5.1;clear IZ hB heq e0 e1 YP X3 Dk EI EN;have hrun1:=jY.1;have hrun2:=jZ.1;go_upto_region 7 with
      (at_builtin
       refine FK _ rfl (.tmp 34) (.tmp 37) _ rfl (base:=W1.heap.size) JI I7 JD rfl (Own.lit _ _ _ _ DK [] _ 0 _ rfl rfl Hb5.1.size (D7 AA) rfl rfl) rfl (l2:=l.take k) (Ei.1.mono (bA (bT HB1.1 Hb5.1) _)) dS dS (by have:=Hb5.1.size;simp;omega) ?_;intro v1 w1 ho1 hg1 MH;rw [OW] at ho1;have Fp:=AB ho1;have B1:=AB (show AU W1 w1 from bG (bA Hb5.1 _) hg1 (fun g hg=>by have h:=DV hg;have:=Hb5.1.size;simp at h;omega));have hz1:W1.heap.size<=w1.heap.size:=B1.1.size;clear ho1 hg1 MH)
     have X7:=Dt.1.keep B1.1;have hx0:w.heap.size<W1.heap.size:=Dt.1.lt;obtain ⟨EJ,EK,F7,-⟩:=X7.Bl;refine PE (W1.heap.size) (w1) (.take 0 1 (.take 1 3 (.run 3 4 3 (.call 2 119 (.call 3 127 (.call 7 255 (.take 8 511 (.done)))))))) fun CQ QR Ae Aj hS=>?_
     iterate 5 refine Ak ?_
     refine BN ?_;clear hS;intro K hK AP;go_simp;refine hK.out _ _ (Ej AA AP.out _) (fun hS=>?_);clear hK K AP
     try simp only [pu]
     refine BN ?_;clear hS;intro K hK AP;refine GK (.tmp 39) (.tmp 41) _ rfl (base:=W1.heap.size) JI I7 JD rfl (Own.alloc (Fp.1.keep (bD (bR w1))) _) rfl (l2:=[p]) (CZ.one (x:=p) (AO.made rfl _ _)) XT XT DR ?_;intro v2 wr2 ho2 hg2 wK;have hB2:Below W1.heap.size w1 wr2:=Below.grown (Below.alloc (Below.drew (Below.refl _ _)) DR _) hg2 DR (fun g hg=>(Fp.1.lt g hg).1);have hS:E8 (W1.heap.size) w1 wr2:=hB2;have HB2:=AB hB2;have Fq:=AB ho2;have hz2:W1.heap.size<=wr2.heap.size:=EG hz1 hB2.size;clear ho2 hg2 wK hB2;clear AP;refine hK.out _ _ hS (fun _=>?_);clear hK K
     try simp only [pu]
     refine BN ?_;clear hS;intro K hK AP;refine GK (.tmp 42) (.tmp 45) _ rfl (base:=W1.heap.size) JI I7 JD rfl Fq.1 rfl (l2:=l.drop k) (iK.1.mono (bT HB1.1 (B1.1.trans HB2.1))) dL dL hz2 ?_;intro v3 wr3 ho3 hg3 Vo;rw [LJ,kT,<- bF.1] at ho3;have hS:E8 (W1.heap.size) w1 wr3:=Below.grown HB2.1 hg3 hz2 (fun g hg=>(Fq.1.lt g hg).1);obtain ⟨A3,c3,hv3,-⟩:=Own.GU ho3;subst hv3;have G7:=AB ho3;clear ho3 hg3 Vo;clear AP;refine hK.out _ _ hS (fun _=>?_);clear hK K
     try simp only [pu]
     refine Ak ?_;refine J3 ?_;clear hS Aj Ae;intro hB;go_wp2;go_ret;exact ⟨A3,c3,rfl,bT HB1.1 (B1.1.trans hB),G7.1.sl⟩
  ·have hkl:k=l.length:=AA
   have q2:¬ (k:Int)<l.length:=AA
   have bF:=AB (show q=l.take k++p::l.drop k by rw [<- Hq.1];exact anU MJ.1 (.inl hkl));clear hkl;go_upto_region 2 with fail;refine D9 (wo) (.run 12 0 0 (.done)) fun CQ QR Ae Aj hS=>?_
   iterate 5 refine Ak ?_
   iterate 6 refine JW ?_
   refine Ak ?_;refine D5 ?_;clear hS Aj Ae;intro hB;obtain ⟨W3,hW3⟩:∃ W:World,W=wo.drew:=⟨_,rfl⟩;rw [<- hW3] at hB ⊢;have Hb3:=AB (bT Hb.1 hB);clear hW3 X1 BJ BK BL hB;go_upto_region 4 with fail;refine D9 (W3) (.run 12 0 0 (.done)) fun CQ QR Ae Aj hS=>?_
   iterate 5 refine Ak ?_
   iterate 6 refine JW ?_
   refine Ak ?_;refine D5 ?_;clear hS Aj Ae;intro hB;obtain ⟨W5,IZ⟩:∃ W:World,W=W3.drew:=⟨_,rfl⟩;rw [<- IZ] at hB ⊢;have Hb5:=AB (bT Hb3.1 hB);have X5:=Dt.1.keep Hb5.1;clear IZ hB;have hrun1:=jY.1;have hrun2:=jZ.1;go_upto_region 7 with
    (at_builtin
     refine FK _ rfl (.tmp 34) (.tmp 37) _ rfl (base:=W1.heap.size) JI I7 JD rfl (Own.lit _ _ _ _ DK [] _ 0 _ rfl rfl Hb5.1.size (D7 AA) rfl rfl) rfl (l2:=l.take k) (Ei.1.mono (bA (bT HB1.1 Hb5.1) _)) dS dS (by have:=Hb5.1.size;simp;omega) ?_;intro v1 w1 ho1 hg1 MH;rw [OW] at ho1;have Fp:=AB ho1;have B1:=AB (show AU W1 w1 from bG (bA Hb5.1 _) hg1 (fun g hg=>by have h:=DV hg;have:=Hb5.1.size;simp at h;omega));have hz1:W1.heap.size<=w1.heap.size:=B1.1.size;clear ho1 hg1 MH)
   have X7:=Dt.1.keep B1.1;have hx0:w.heap.size<W1.heap.size:=Dt.1.lt
   try clear EJ EK F7
   obtain ⟨EJ,EK,F7,-⟩:=X7.Bl;refine PE (W1.heap.size) (w1) (.take 0 1 (.take 1 3 (.run 3 4 3 (.call 2 119 (.call 3 127 (.call 7 255 (.take 8 511 (.done)))))))) fun CQ QR Ae Aj hS=>?_
   iterate 5 refine Ak ?_
   refine BN ?_;clear hS;intro K hK AP;go_simp;refine hK.out _ _ (Ej AA AP.out _) (fun hS=>?_);clear hK K AP
   try simp only [pu]
   refine BN ?_;clear hS;intro K hK AP;refine GK (.tmp 39) (.tmp 41) _ rfl (base:=W1.heap.size) JI I7 JD rfl (Own.alloc (Fp.1.keep (bD (bR w1))) _) rfl (l2:=[p]) (CZ.one (x:=p) (AO.made rfl _ _)) XT XT DR ?_;intro v2 wr2 ho2 hg2 wK;have hB2:Below W1.heap.size w1 wr2:=Below.grown (Below.alloc (Below.drew (Below.refl _ _)) DR _) hg2 DR (fun g hg=>(Fp.1.lt g hg).1);have hS:E8 (W1.heap.size) w1 wr2:=hB2;have HB2:=AB hB2;have Fq:=AB ho2;have hz2:W1.heap.size<=wr2.heap.size:=EG hz1 hB2.size;clear ho2 hg2 wK hB2;clear AP;refine hK.out _ _ hS (fun _=>?_);clear hK K
   try simp only [pu]
   refine BN ?_;clear hS;intro K hK AP;refine GK (.tmp 42) (.tmp 45) _ rfl (base:=W1.heap.size) JI I7 JD rfl Fq.1 rfl (l2:=l.drop k) (iK.1.mono (bT HB1.1 (B1.1.trans HB2.1))) dL dL hz2 ?_;intro v3 wr3 ho3 hg3 Vo;rw [LJ,kT,<- bF.1] at ho3;have hS:E8 (W1.heap.size) w1 wr3:=Below.grown HB2.1 hg3 hz2 (fun g hg=>(Fq.1.lt g hg).1);obtain ⟨A3,c3,hv3,-⟩:=Own.GU ho3;subst hv3;have G7:=AB ho3;clear ho3 hg3 Vo;clear AP;refine hK.out _ _ hS (fun _=>?_);clear hK K
   try simp only [pu]
   refine Ak ?_;refine J3 ?_;clear hS Aj Ae;intro hB;go_wp2;go_ret;exact ⟨A3,c3,rfl,bT HB1.1 (B1.1.trans hB),G7.1.sl⟩
open Go.RowKit Go.Sort
theorem awm (v:Value) (xs:List (SV×List Pt)) (w:World) (h:FY w v xs) (hn:xs.length<=1000000) (hs:∀ k (hk:k<xs.length),xs[k].2.length<=1000000) (hz:GZ (xs.map (·.2))≠0) :
  Calls prog 13 #[v] w fun e w'=>e=.returned (.tuple #[.slice none 0 0,.int .i64 (GZ (xs.map (·.2)))])/\AU w w':=by
 have HC:=AB (amU v xs w h hn hs);obtain ⟨⟨A,c,rfl,-⟩,-⟩:=h;generalize GZ (xs.map (·.2))=z at *;have hz':(z != 0)=true:=by simpa using hz
 clear hz;go_enter func13,ntmps13;go_wp2_with fail;refine HC.1.mono ?_;rintro e w1 ⟨rfl,hb1⟩;go_wp2_with fail;go_ret2;exact ⟨rfl,hb1⟩
theorem anW (S:Pt->Bool) (o l:List Pt) (p:Pt):O4 S o (l++[p])=if S p then LC p (O4 S o l) else O4 S o l:=by
 unfold O4;rw [WC];rfl
theorem awn (S:Pt->Bool) (l o:List Pt):(O4 S o l).length<=o.length+l.length:=by
 induction l generalizing o with
 | nil=>exact Cj _
 | cons p l ih =>
  have e:O4 S o (p::l)=O4 S (if S p then LC p o else o) l:=rfl;have:=ih (if S p then LC p o else o)
  have h1:=anV p o;rw [e,JA];split at this<;>rename_i hp<;>simp only [hp] at * <;> first | omega | (simp at *;omega)
def anX (w:World) (l:List Pt) (e:Ending) (w':World):Prop :=
 ∃ A c,e=.returned (.tuple #[.slice A l.length c,.int .i64 0])/\AU w w'/\CZ w' (.slice A l.length c) l
theorem anY {α:Type} (f:α->List Pt) {xs:List α} {k:Nat} (hk:k<xs.length):((xs.take (k+1)).map f).flatten=((xs.take k).map f).flatten++f xs[k]:=by
 rw [Em hk,FH,yY];simp
theorem awo {α:Type} (f:α->List Pt) {xs:List α} (k:Nat) (m:Nat) (h:∀ k (hk:k<xs.length),(f xs[k]).length<=m):((xs.take k).map f).flatten.length<=k*m:=by
 induction k with
 | zero=>simp
 | succ k ih =>
  by_cases hk:k<xs.length
  ·rw [anY f hk,Es];have:=h k hk
   rw [Nat.succ_mul];omega
  ·rw [IE AA];rw [IE AA] at ih;rw [Nat.succ_mul];omega
theorem awp (v:Value) (xs:List (SV×List Pt)) (w:World) (h:FY w v xs) (hg:UN (xs.map (·.2))) :
  Calls prog 13 #[v] w (anX w (ah (xs.map (·.2)))):=by
 have hn:xs.length<=256:=by have:=hg.num;simpa using this
 have hmem:∀ k (hk:k<xs.length),xs[k].2∈xs.map (·.2):=fun k hk=>FZ (BO hk);have h4:∀ k (hk:k<xs.length),2<=xs[k].2.length/\xs[k].2.length<=4096:=fun k hk=>⟨hg.two _ (hmem k hk),hg.len _ (hmem k hk)⟩;have HC:=AB (amU v xs w h AA (fun k hk=>by have:=h4 k hk;omega));rw [Ve.2 hg] at HC;have wZ:=AB (fun p W (hW:AU w W)=>amW v xs p W (h.mono hW) hn (fun k hk=>(h4 k hk).2) (fun k hk=>(h4 k hk).1));have HWi:=AB (@awl);obtain ⟨S,hS⟩:=BI (QI (xs.map (·.2)));obtain ⟨G,hG⟩:∃ G:Nat->List Pt,G=fun k=>((xs.take k).map (·.2)).flatten:=⟨_,rfl⟩;obtain ⟨VJ,HG0,HGl,YQ⟩:=DW (show ∀ k (hk:k<xs.length),G (k+1)=G k++xs[k].2 from fun k hk=>by rw [hG];exact anY (·.2) hk) (show O4 S [] (G 0)=[] by rw [hG];rfl) (show ∀ k,(G k).length<=k*4096 from fun k=>by rw [hG];exact awo (·.2) k 4096 (fun k hk=>(h4 k hk).2)) (show O4 S [] (G xs.length)=ah (xs.map (·.2)) by unfold ah;rw [hS,hG];simp only [I5]);rw [hS] at wZ;generalize ah (xs.map (·.2))=R at *;obtain ⟨⟨A,c,rfl,hc1,hc2,hR⟩,hP⟩:=h;unfold maxLen at hc2;obtain ⟨HR,HP,H4⟩:=CG hR hP h4;clear hR hP h4 hmem hg hS hG;go_enter func13,ntmps13;go_wp2_with fail;refine HC.1.mono ?_;rintro e w1 ⟨rfl,hb1⟩;have HB1:=AB hb1;clear hb1;go_upto_block 0 with fail;go_wp2_with fail;go_loopw [5,6] (fun z u wr=>∃ (k:Nat) (m:List Pt),k<=xs.length/\u=.int .i64 k/\AU w wr/\O4 S [] (G k)=m/\CZ wr z m) (fun _ u _=>xs.length-(intOf u).toNat)
 case atStart => exact ⟨0,[],BX _,rfl,HB1.1,HG0.1,Sl.SK (Own.nil _ w.heap.size 42 2 DK)⟩
 case round =>
  obtain ⟨k,m,hk,rfl,hb,hm,hp⟩:=hrel;obtain ⟨w2,rfl⟩:=BR wr;obtain ⟨Hb,Hm,Hp⟩:=CG hb hm hp;clear hb hm hp;by_cases hlt:k<xs.length
  ·have hgk:=VJ.1 k hlt;have hgl:=HGl.1 k;obtain ⟨b,o,rfl,hlb0,hc0⟩:=HR.1.oK hlt;obtain ⟨A1,c1,hv1,hc3,hc4,hR1⟩:=HP.1 k hlt;obtain ⟨hk1,hk2⟩:=H4.1 k hlt;have HR1:=AB hR1;rw [hv1] at hc0;unfold maxLen at hc4;clear hv1 hR1;generalize xs[k].2=L at *;have HGL:=AB hgk;have Kz:=AB hc0;obtain ⟨T,hT⟩:=BI (G k);rw [hT] at Hm hgl HGL;clear hc0 hgk hT;go_upto_block 2 with fail;go_wp2_with fail;go_loopw [5,7] (fun z u wr=>∃ (i:Nat) (m:List Pt),i<=L.length/\u=.int .i64 i/\AU w wr/\O4 S [] (T++L.take i)=m/\CZ wr z m) (fun _ u _=>L.length-(intOf u).toNat)
   case atStart => exact ⟨0,m,BX _,rfl,Hb.1,by rw [OD,MC];exact Hm.1,Hp.1⟩
   case round =>
    obtain ⟨i,m2,hi,rfl,hb,hm,hp⟩:=hrel;obtain ⟨w3,rfl⟩:=BR wr;replace Hb:=AB hb;have Hm2:=AB hm;have Hp2:=AB hp;have hml:m2.length<=k*4096+4096:=by
     rw [<- hm];have h1:=awn S (T++L.take i) [];rw [Es,GH,LH] at h1;omega
    obtain ⟨A2,c2,rfl,-⟩:=hp;clear hb hm;have c0:=Kz.1 _ Hb.1;by_cases J7:i<L.length
    ·obtain ⟨b1,o1,rfl,NK,d0,d1⟩:=(HR1.1.mono Hb.1).pt J7;have acH:=AB (show T++L.take (i+1)=(T++L.take i)++[L[i]] by rw [Em J7,LJ]);have I9:=AB (show Row w3 (some ⟨b1,o1,none⟩) (L.flatMap DK) from HR1.1.mono Hb.1);generalize L[i]=p at *;have YJ:=AB (wZ.1 p);go_wp2_with fail;refine (YJ.1 _ Hb.1).mono ?_;rintro e w4 ⟨rfl,hb4⟩;have HB4:=AB (bT Hb.1 hb4);have e0:w4.cell? ⟨b1,o1+i*2,none⟩=some (.int .i64 p.x):=KL hb4 d0;have e1:w4.cell? ⟨b1,o1+i*2+1,none⟩=some (.int .i64 p.y):=KL hb4 d1;have Hp4:=AB (CZ.mono Hp2.1 hb4);replace c0:=Kz.1 _ HB4.1;clear hb4 d0 d1
     cases hSp:S p
     ·have UK:=AB (show O4 S [] (T++L.take (i+1))=m2 by rw [acH.1,anW,hSp,Hm2.1];rfl);clear hSp;go_wp2;go_roundw
      case rel => exact ⟨i+1,m2,AA,BG,HB4.1,UK.1,Hp4.1⟩
      case measure => exact BH
     ·have UK:=AB (show O4 S [] (T++L.take (i+1))=LC p m2 by rw [acH.1,anW,hSp,Hm2.1];rfl);clear hSp;have HWp:=AB (HWi.1 _ m2 p w4 Hp4.1 AA);go_wp2_with fail;refine HWp.1.mono ?_;rintro e w5 ⟨A5,c5,rfl,hb5,Wn⟩;have Ce:=AB (bT HB4.1 hb5);have Hp5:=AB Wn;clear hb5 Wn c0 e0 e1;go_wp2;go_roundw
      case rel => exact ⟨i+1,_,AA,BG,Ce.1,UK.1,Hp5.1⟩
      case measure => exact BH
    ·have hil:i=L.length:=AA
     have UK:=AB (show O4 S [] (G (k+1))=m2 by rw [HGL.1,<- Hm2.1,hil,I5]);go_wp2;go_roundw
     case rel => exact ⟨k+1,m2,AA,BG,Hb.1,UK.1,Hp2.1⟩
     case measure => exact BH
  ·have hkn:k=xs.length:=AA
   have UK:=AB (show m=R by rw [<- Hm.1,hkn];exact YQ.1);obtain ⟨A2,c2,rfl,-⟩:=Hp.1;go_wp2_with fail;go_ret2;rw [<- UK.1];exact ⟨A2,c2,rfl,Hb.1,Hp.1⟩
