import Derived.Test.YtialfdomhoojiaaGreatJ32
import Derived.Test.YtialfdomhoojiaaGreatJ15
import Derived.Test.YtialfdomhoojiaaGreatJ04
import Derived.Test.YtialfdomhoojiaaGreatJ28
import Derived.Test.YtialfdomhoojiaaGreatJ07
import Derived.Test.YtialfdomhoojiaaGreatJ01
import Derived.Test.YtialfdomhoojiaaGreatJ30
import Derived.Test.YtialfdomhoojiaaGreatRegLB
set_option linter.unusedSimpArgs false
set_option linter.unusedVariables false
namespace Go.Proofs.YtialfdomhoojiaaGreat
open Go.RowKit
theorem ahZ (a b:Int) (W:World):(Instr.index 116 (.agg #[.int .i64 a,.int .i64 b]) (.int .i64 0)).run Tryz.prog W=.ok (.int .i64 a) W/\(Instr.index 116 (.agg #[.int .i64 a,.int .i64 b]) (.int .i64 1)).run Tryz.prog W=.ok (.int .i64 b) W:=⟨by kernel_rfl,by kernel_rfl⟩
set_option maxRecDepth 100000 in
set_option maxHeartbeats 8000000 in
theorem ah0 (v:Value) (p:Pl) (fc:Int) (w:World) (h:dS w v p) (hv:jG p=0):Calls Tryz.prog 30 #[v,.int .i64 fc] w fun e w'=>e=.returned (Qe (IK p fc))/\Below w.heap.size w w':=by
 obtain ⟨hvv,hfb⟩:=PW hv;have hf:=KZ.1 hfb;have Hix:=Lib.hid (arv hf fc);have HC:=Lib.hid (fun W (hW:Below w.heap.size w W)=>UZ v p W (h.mono hW) hv);have HPv:=Lib.hid h;have xQ:=Lib.hid hvv;have hol:(aN p).length<=512:=Nat.le_trans (List.length_filter_le _ _) hvv.DF;obtain ⟨q,hq⟩:∃ q,IK p fc=q:=⟨_,rfl⟩;rw [hq];have HQ:=Lib.hid hq;obtain ⟨_,_,_,al,rfl,-,⟨An,cn,rfl,-⟩,⟨⟨Aa,ca,rfl,-⟩,-⟩,⟨Af,cf,rfl,-⟩⟩:=h;obtain ⟨V,hV⟩:∃ V:Value,V=.agg #[.slice An p.nodes.length cn,.slice Aa al.length ca,.slice Af p.faces.length cf]:=⟨_,rfl⟩;rw [<- hV] at HPv;have HVe:=Lib.hid hV;generalize p.nodes.length=nn at *;generalize al.length=na at *;generalize p.faces.length=nf at *;clear hq hV hvv hfb hv hf;go_enter Tryz.func30,Tryz.ntmps30;go_upto_region 1 with fail;obtain ⟨W1,hW⟩:∃ W:World,W=(w.alloc (.cells #[.slice An nn cn,.slice Aa na ca,.slice Af nf cf] 26)).alloc (.cells #[.int .i64 0,.int .i64 0] 39):=⟨_,rfl⟩;have X2:aj W1 w.heap.size 26 #[.slice An nn cn,.slice Aa na ca,.slice Af nf cf]:=by rw [hW];exact (aj.made rfl _ _).alloc _
 have X4:aj W1 (w.heap.size+1) 39 #[.int .i64 0,.int .i64 0]:=by rw [hW];exact aj.made (by simp) _ _
 have HB1:=Lib.hid (show Below w.heap.size w W1 by rw [hW];exact bA (bA (bR w) _) _);rw [<- hW];clear hW;obtain ⟨g4,h4⟩:∃ g,w.heap.size+1=g:=⟨_,rfl⟩;have hg4:w.heap.size<=g4:=by omega
 rw [h4] at X4 ⊢;obtain ⟨g2,h2⟩:∃ g,w.heap.size=g:=⟨_,rfl⟩;rw [h2] at X2 ⊢;have bY:=Lib.hid X2;have dn:=Lib.hid X4;have n24:g2≠g4:=by omega
 have n42:g4≠g2:=by omega
 clear h4 h2 X4;obtain ⟨gI,gJ,iq,iZ,-,-,-⟩:=X2.bC;go_wp2_with fail;refine (HC.out _ HB1.out).mono ?_;rintro e w1 ⟨A,c,L,A',c',gm,f,rfl,hb1,wE,hfi,hdv,htw,hpm,hgm,-⟩;have HB2:=Lib.hid (bT HB1.out hb1);have hll:L.length=(aN p).length+1:=hdv.len;rw [hll] at hfi;have HIx:=Lib.hid (fun W (hW:Below w1.heap.size w1 W)=>afc _ _ fc W (hfi.mono hW));have ah1:=Lib.hid (bY.out.keep hb1);have ah2:=Lib.hid (dn.out.keep hb1);have HA:=Lib.hid wE;have HD:=Lib.hid hdv;have lX:=Lib.hid hpm;have HL:=Lib.hid hll;rw [<- hll] at HIx;clear hb1 HC X2 gI gJ iq iZ bY dn HB1 wE hfi hdv htw hpm hgm hll;go_wp2_with fail;refine (HIx.out _ (bR w1)).mono ?_;rintro e w2 ⟨rfl,hb2⟩;have HB3:=Lib.hid (bT HB2.out hb2);have ah3:=Lib.hid (ah1.out.keep hb2);have Vt:=Lib.hid (ah2.out.keep hb2);have HA2:=Lib.hid (HA.out.mono hb2);have ah4:=Lib.hid (lX.out.keep hb2);rw [HL.out];clear hb2 HIx ah1 ah2 HA lX HB2;have hix:=Hix.out;clear Hix;rcases hix with ⟨i,hi,hz,Ql⟩ | ⟨hz,Ql⟩
 case inr =>
  have hq:=HQ.out;unfold IK at hq;rw [Ql] at hq;have Jf:=Lib.hid (show q=none from hq.symm);generalize Dt _ fc=z at *;have X4:=Vt.out;clear hq HQ Ql;obtain ⟨cZ,dh,eF,eG,iY⟩:=X4.bI;go_wp2_with fail;refine su (t:=39) (g:=g4) (cs:=#[.int .i64 0,.int .i64 0]) rfl Gh rfl rfl (aj.wJ Vt.out) ⟨by rw [Jf.out];rfl,bS (p:=⟨g4,1,none⟩) (bS (p:=⟨g4,0,none⟩) HB3.out hg4 _) hg4 _⟩
 case inl =>
  rw [hz];have abf:=Lib.hid Ql;have kz:¬ (i:Int)+1<1:=by omega
  clear hz Ql;go_upto_region 7 with fail;have MB:i+1<L.length:=by rw [HL.out];omega
  have hX:(aN p)[i]∈aN p:=List.getElem_mem hi;obtain ⟨X,hXe⟩:∃ X,(aN p)[i]=X:=⟨_,rfl⟩;have hout:=HD.out.KY MB (by omega);have hcy:=HD.out.UN MB;have hkey:qA (aN p) (i+1)=some X:=by rw [DC (by omega) (by omega)];simp only [Nat.add_sub_cancel];rw [hXe]
  unfold rQ at hcy;rw [hkey] at hcy;have hal:L[i+1].bn=sW p (some X):=by rw [HD.out.bn (i+1) MB,hkey];rfl
  simp only [Nat.add_sub_cancel] at hout;rw [hXe] at hout hX abf;have hmem:=List.getElem_mem MB;have HR:=Lib.hid (fun W (hW:Below w2.heap.size w2 W)=>(HA2.out.mono hW).sl);have HRo:=Lib.hid (fun W (hW:Below w2.heap.size w2 W)=>(HA2.out.mono hW).out _ hmem);have DI:=Lib.hid (fun W (hW:Below w2.heap.size w2 W)=>(HA2.out.mono hW).inn _ hmem);have BD:=Lib.hid (fun W (hW:Below w2.heap.size w2 W)=>(HA2.out.mono hW).iJ _ hmem);have mM:=Lib.hid (fun W (hW:Below w2.heap.size w2 W)=>(HA2.out.mono hW).bn _ hmem);have arw:(bU p X).length<=33280:=by
   have h1:=xQ.out.ahN (b:=some X) (List.mem_cons_of_mem _ (List.mem_map_of_mem hX));have h2:=ahJ (bU p) (l:=jq p (some X)) (a:=X) List.mem_cons_self;unfold iF at h1;omega
  have hdd:=(xQ.out.kK (kH.1 hX).1).2;have BH:IK p fc=Tz p (some X) (qJ (lI (bU p X))).y0 (qJ (lI (bU p X))).y1:=by unfold IK;rw [abf.out]
  rw [HQ.out] at BH;have hne:lI (bU p X)≠[]:=by
   have hh:=xQ.out.IX (kH.1 hX).1;obtain ⟨a,ha,-,hp⟩:=xQ.out.BA (hdd _ hh);have hl:=fJ p a;have hpt:(au p a).getD 0 aB∈lI (bU p X):=(xQ.out.ahw hdd _).2 (List.mem_flatMap.2 ⟨_,hh,(aa0 _ _ _).2 (by
    rw [hp,List.getD_eq_getElem?_getD,List.getElem?_eq_getElem (show 0<(au p a).length by omega)];exact List.getElem_mem _)⟩)
   intro e0;rw [e0] at hpt
   cases hpt
  have hbx:=aqK hne;have pq:∀ u∈lI (bU p X),aW u=true:=fun u hu=>by
   have hu:=(xQ.out.ahw hdd u).1 hu;obtain ⟨d,hd,hu⟩:=List.mem_flatMap.1 hu;rw [aa0] at hu;obtain ⟨a,ha,-,hp⟩:=xQ.out.BA (hdd _ hd);rw [hp] at hu;exact xQ.out.ado ha hu
  have hby:(-2097152<=(qJ (lI (bU p X))).y0/\(qJ (lI (bU p X))).y0<=2097152)/\(-2097152<=(qJ (lI (bU p X))).y1/\(qJ (lI (bU p X))).y1<=2097152):=by
   obtain ⟨u,hu,e⟩:=hbx.y0;obtain ⟨u',hu',e'⟩:=hbx.y1;have n1:=pq u hu;have n2:=pq u' hu';rw [wL] at n1 n2;omega
  have hel:0<(lI (bU p X)).length:=List.length_pos_iff.2 hne;obtain ⟨E,hE⟩:∃ E,lI (bU p X)=E:=⟨_,rfl⟩;rw [hE] at BH hby hel;obtain ⟨bx,abg⟩:∃ bx,qJ E=bx:=⟨_,rfl⟩;rw [abg] at BH hby;have qF:=Lib.hid BH;have HE:=Lib.hid hE;have lZ:=Lib.hid abg;have HMd:=Lib.hid (fun W (hW:Below w2.heap.size w2 W) y=>ark V p W ((HPv.out.mono HB3.out).mono hW) xQ.out gm f (ah4.out.keep hW) L[i+1] X hX (HRo.out W hW) (DI.out W hW) (BD.out W hW) (mM.out W hW) hcy hal y);have zM:=Lib.hid (fun W B g k1 k2 hB h0 hw=>arq w2 gm p f ah4.out xQ.out (aH L[i+1].ov) L[i+1].out (HRo.out w2 (bR w2)) (by rw [hout];exact hdd) B g (by rw [hout];omega) k1 k2 W hB (.slice none 0 0) h0 hw);rw [hout] at zM;have hrow:=HA2.out.sl;obtain ⟨A2,c2,he,-,-,hRr⟩:=hrow;injection he with q1 q2 q3;subst q1 q3;clear q2;obtain ⟨bl,ol,hAe,hlb,c0,c1,MC,c3⟩:=hRr.ad MB;generalize L[i+1]=x at *;obtain ⟨tw,out,⟨oa,on,oc⟩,inn,⟨ia,iT,ic⟩,bn,⟨aa,an,ac⟩⟩:=x;unfold aH at c1 MC c3 HMd zM;simp only at c0 c1 MC c3 HMd zM;subst hAe;have kl:(i:Int)+1<((aN p).length:Int)+1:=by omega
  have k0:0<=(i:Int)+1:=by omega
  obtain ⟨nO,hnO⟩:∃ nO,(aN p).length=nO:=⟨_,rfl⟩;rw [hnO] at kl ⊢;clear hXe hout hcy hkey hal hmem arw hdd BH hne hbx pq hE abg hnO hRr HL abf HQ HD MB;go_upto_region 8 with fail;obtain ⟨W3,hW⟩:∃ W:World,W=w2.alloc (.cells #[.slice none 0 0] 46):=⟨_,rfl⟩;have lQ:aj W3 w2.heap.size 46 #[.slice none 0 0]:=by rw [hW];exact aj.made rfl _ _
  have hA:Below w2.heap.size w2 W3:=by rw [hW];exact bA (bR w2) _
  have ou:=Lib.hid hA;have LX:=Lib.hid (show D7 W3 W3.heap.size w2.heap.size [] (.slice none 0 0) from ⟨lQ,Own.nil _ _ _ _ _⟩);have d1:=fG hA c1;have hl3:w2.heap.size<=W3.heap.size:=hA.size;rw [<- hW];clear hW hA lQ;obtain ⟨g11,h11⟩:∃ g,w2.heap.size=g:=⟨_,rfl⟩;have Vh:w2.heap.size<=g11:=by omega
  rw [h11] at LX ⊢;clear h11;go_wp2_with fail;refine (zM.out W3 W3.heap.size g11 hl3 Vh (Nat.le_refl _) LX.out ou.out).mono ?_;rintro e w4 ⟨rfl,arx⟩;obtain ⟨⟨vp,hpb⟩,-,hb4⟩:=arx;rw [HE.out] at hpb;obtain ⟨Ap,cp,hvp,-⟩:=hpb.own.sl;subst hvp;have lQ:=hpb.box;have hrb:=fun W (hW:Below w4.heap.size w4 W)=>arl _ E W (Sl.mono hpb.own.sl hW) hel;rw [lZ.out] at hrb;unfold FZ at hrb;have HRb:=Lib.hid hrb;have HB4:=Lib.hid hb4;clear hrb hpb hb4 zM LX ou d1 HE lZ;obtain ⟨zk,zl,-⟩:=lQ.fB;go_wp2_with fail;refine (HRb.out _ (bR w4)).mono ?_;rintro e w5 ⟨rfl,hb5⟩;obtain ⟨x0,y0,x1,y1⟩:=bx;simp only at hby ⊢;have dK:=Lib.hid (bT HB4.out hb5);clear hb5 HB4 HRb lQ zk zl hel;go_upto_region 10 with fail;obtain ⟨W6,hW⟩:∃ W:World,W=w5.alloc (.cells #[.int .i64 x0,.int .i64 y0,.int .i64 x1,.int .i64 y1] 73):=⟨_,rfl⟩;have mD:aj W6 w5.heap.size 73 #[.int .i64 x0,.int .i64 y0,.int .i64 x1,.int .i64 y1]:=by rw [hW];exact aj.made rfl _ _
  have hA:Below w2.heap.size w2 W6:=by rw [hW];exact bA dK.out _
  have iL:=Lib.hid hA;have bY:=Lib.hid (ah3.out.keep hA);have dn:=Lib.hid (Vt.out.keep hA);have BX:=Lib.hid mD;replace c0:=fG hA c0;replace c1:=fG hA c1;replace MC:=fG hA MC;replace c3:=fG hA c3;replace hlb:=Nat.lt_of_lt_of_le hlb hA.size;obtain ⟨g12,h12⟩:∃ g,w5.heap.size=g:=⟨_,rfl⟩;rw [<- hW];rw [h12] at mD BX ⊢;clear hW hA ah3 Vt h12 dK;obtain ⟨pK,pO,pR,pU,MF,-,-,-,-⟩:=mD.nG;have km:IntKind.i64.wrap (y0+y1)=y0+y1:=IntWalk.i64_in _ (by omega);go_upto_block 0 with fail;obtain ⟨mid,hmid⟩:∃ mid,(y0+y1) / 2=mid:=⟨_,rfl⟩;have hmb:(-2097153<=mid/\mid<=2097153):=by omega
  have Qm:=Lib.hid hmid;simp only [hmid];clear hmid km mD pK pO pR pU MF;have xJ:=Lib.hid c0;have Zw:=Lib.hid c1;have HC2:=Lib.hid MC;have HC3:=Lib.hid c3;clear c0 c1 MC c3;go_wp2_with fail;go_loopw [14,5] (fun d ok wr=>∃ D:Nat,d=.int .i64 D/\(∀ j,j<D->midD p (some X) y0 y1 mid j=none)/\ok=.bool false/\D<=4194310/\Below W6.heap.size W6 wr) (fun d _ _=>4194312-(intOf d).toNat)
  case atStart => exact ⟨0,rfl,fun j hj=>by omega,rfl,by omega,bR W6⟩
  case round =>
   obtain ⟨D,rfl,hno,rfl,hD,hbw⟩:=hrel;obtain ⟨wo,rfl⟩:∃ wo:World,wo=wr:=⟨_,rfl⟩;have qy:=Lib.hid hno;have iD:=Lib.hid hbw;have mD:=BX.out.keep hbw;have k1:IntKind.i64.wrap (mid+D)=mid+D:=IntWalk.i64_in _ (by omega);have k2:IntKind.i64.wrap (mid-D)=mid-D:=IntWalk.i64_in _ (by omega);clear hno hbw
   try clear pK
   try clear pO
   try clear pR
   try clear pU
   try clear MF
   obtain ⟨pK,pO,pR,pU,MF,-,-,-,-⟩:=mD.nG;by_cases hc:mid+D<=y1\/y0<=mid-D
   ·have hDb:D<=4194308:=by omega
    go_upto_block 2 with fail
    all_goals
     clear mD pK pO pR pU MF;go_wp2_with fail;go_loopw [72,5] (fun j ok wr=>∃ J:Nat,J<=2/\j=.int .i64 J/\(1<=J->midRow p (some X) y0 y1 (mid+D)=none)/\(2<=J->midRow p (some X) y0 y1 (mid-D)=none)/\ok=.bool false/\Below W6.heap.size W6 wr) (fun j _ _=>2-(intOf j).toNat)
     case atStart => exact ⟨0,by omega,rfl,fun h=>by omega,fun h=>by omega,rfl,iD.out⟩
     case round =>
      obtain ⟨J,hJ,rfl,hj1,hj2,rfl,hbv⟩:=hrel;obtain ⟨wv,rfl⟩:∃ wv:World,wv=wr:=⟨_,rfl⟩;have Vu:=Lib.hid hj1;have HJ2:=Lib.hid hj2;have xR:=Lib.hid hbv;clear hj1 hj2 hbv;by_cases hlt:J<2
      ·have hyy:∃ yy,(∀ W,(Instr.index 116 (.agg #[.int .i64 (mid+D),.int .i64 (mid-D)]) (.int .i64 J)).run Tryz.prog W=.ok (.int .i64 yy) W)/\(yy=mid+D\/yy=mid-D)/\(midRow p (some X) y0 y1 yy=none->(1<=J+1->midRow p (some X) y0 y1 (mid+D)=none)/\(2<=J+1->midRow p (some X) y0 y1 (mid-D)=none))/\∀ u,midRow p (some X) y0 y1 yy=some u->midD p (some X) y0 y1 mid D=some u:=by
        have:J=0\/J=1:=by omega
        rcases this with rfl | rfl
        · exact ⟨mid+D,fun W=>(ahZ _ _ W).1,.inl rfl,fun h=>⟨fun _=>h,fun h=>by omega⟩,fun u hu=>by unfold midD;rw [hu];rfl⟩
        · exact ⟨mid-D,fun W=>(ahZ _ _ W).2,.inr rfl,fun h=>⟨fun _=>Vu.out (Nat.le_refl _),fun _=>h⟩,fun u hu=>by unfold midD;rw [Vu.out (Nat.le_refl _),hu];rfl⟩
       obtain ⟨yy,hI,hyb,hyn,hys⟩:=hyy;have Qn:=Lib.hid hyn;have Vw:=Lib.hid hys;have atS:-6291465<=yy/\yy<=6291465:=by omega
       have mD:=BX.out.keep xR.out;clear hyb hyn hys Vu HJ2
       try clear pK
       try clear pO
       try clear pR
       try clear pU
       try clear MF
       obtain ⟨pK,pO,pR,pU,MF,-,-,-,-⟩:=mD.nG;by_cases ho:yy<y0\/y1<yy
       ·have hr:=Qn.out (Qc p (some X) ho);have HR1:=Lib.hid hr;clear hr Qn Vw;go_wp2_with fail
        all_goals
         go_roundw
         case rel => exact ⟨J+1,by omega,by go_num,HR1.out.1,HR1.out.2,rfl,xR.out⟩
         case measure => simp [intOf];omega
       ·have ho1:¬ yy<y0:=fun e=>ho (.inl e);have ho2:¬ y1<yy:=fun e=>ho (.inr e);have Pq:=aq9 p (some X) ho;have hmd:=fun W (hW:Below wv.heap.size wv W)=>HMd.out W (bT iL.out (bT xR.out hW)) yy;rw [HVe.out] at hmd;unfold abd at hmd;rw [<- Pq] at hmd;obtain ⟨res,hres⟩:∃ res,midRow p (some X) y0 y1 yy=res:=⟨_,rfl⟩;rw [hres] at hmd;have ah5:=Lib.hid hres;have X2:=bY.out.keep xR.out;have X4:=dn.out.keep xR.out;have atT:=Lib.hid X4;have c0:=fG xR.out xJ.out;have c1:=fG xR.out Zw.out;have c2:=fG xR.out HC2.out;have c3:=fG xR.out HC3.out;have hlv:=Nat.lt_of_lt_of_le hlb xR.out.size;have hbl:bl≠g4:=fun e=>by
         subst e;rw [X4.cell] at c1;generalize ol+(i+1)*4+1=k at c1
         match k,c1 with
         | 0,h=>simp at h
         | 1,h=>simp at h
         | k+2,h=>simp at h
        have atU:=hbl.symm;clear Pq hres ho
        try clear gI
        try clear gJ
        try clear iq
        try clear iZ
        obtain ⟨gI,gJ,iq,iZ,-,-,-⟩:=X2.bC
        cases res with
        | none =>
         unfold Qe at hmd;have abh:=Lib.hid hmd;have hr:=Qn.out ah5.out;have HR1:=Lib.hid hr;clear hmd hr Qn Vw;go_upto_region 18 with fail;refine bZ (ji wv (some g4)) (.run 7 0 0 (.call 7 255 (.run 3 8 255 (.call 11 4095 (.take 12 8191 (.done)))))) (by kernel_rfl) (gD (gR _ _)) (by kernel_rfl) (by kernel_rfl) (Nat.le_of_ble_eq_true (by kernel_rfl)) ?_;intro cO QR ak aC hS;replace X4:=X4.drew
         iterate 7
          apply jI;exact ak;exact rfl;exact hS;exact rfl
          · intro _ hqc;go_simp;try rfl
          try simp only [pu]
         refine aT (i:=7) (aG ak rfl) (fun K hK=>?_);have aA:=Lib.hid hS;clear hS;refine aO (aV rfl) ?_;go_simp;refine (abh.out _ (bD (bR wv))).mono ?_;rintro e bH ⟨rfl,bJ⟩;have hS:ji wv (some g4) bH:=gB (w0:=wv) aA.out bJ;clear aA
         try replace X4:=X4.keep bJ
         refine hK.out _ _ hS (fun _=>?_);clear hK K
         try simp only [pu]
         iterate 3
          apply jI;exact ak;exact rfl;exact hS;exact rfl
          · intro _ hqc;go_simp;try rfl
          try simp only [pu]
         refine aT (i:=11) (aG ak rfl) (fun K hK=>?_);have aA:=Lib.hid hS;clear hS;refine aO (aV rfl) ?_;obtain ⟨cZ,dh,eF,eG,iY⟩:=X4.bI;go_simp;refine hK.out _ _ (by first | exact gS aA.out _ _ | (unfold ji;have uH:World.grownBy _ _ _:=aA.out;repeat (first | with_reducible assumption | with_reducible exact World.grownBy.refl _ _ | with_reducible refine gS ?_ _ _ | with_reducible refine gD ?_ | with_reducible refine gA ?_ _))) (fun hS=>?_);clear hK K aA
         try simp only [pu]
         apply jI;exact ak;exact rfl;exact hS;exact rfl
         · intro _ hqc;go_simp;try rfl
         try simp only [pu]
         refine bM ?_;refine aC.down _ _ ?_;have hB:wv.grownBy _ (some g4):=hS;clear hS aC ak;rw [ahY X4 (i:=0) (v:=.int .i64 0) rfl,ahY X4 (i:=1) (v:=.int .i64 0) rfl];have HBz:=Lib.hid (bT xR.out (bT (bD (bR wv)) bJ));clear hB;go_wp2_with fail;go_roundw
         case rel => exact ⟨J+1,by omega,by go_num,HR1.out.1,HR1.out.2,rfl,HBz.out⟩
         case measure => simp [intOf];omega
        | some u =>
         unfold Qe at hmd;have abh:=Lib.hid hmd;have hq:q=some u:=by
          rw [qF.out];exact arb p (some X) (D:=D) (by rw [Qm.out];exact qy.out) (by rw [Qm.out];exact Vw.out u ah5.out)
         have Jf:=Lib.hid hq;clear hmd hq Qn Vw;go_upto_region 18 with fail;refine bZ (ji wv (some g4)) (.run 7 0 0 (.call 7 255 (.run 3 8 255 (.call 11 4095 (.take 12 8191 (.done)))))) (by kernel_rfl) (gD (gR _ _)) (by kernel_rfl) (by kernel_rfl) (Nat.le_of_ble_eq_true (by kernel_rfl)) ?_;intro cO QR ak aC hS;replace X4:=X4.drew
         iterate 7
          apply jI;exact ak;exact rfl;exact hS;exact rfl
          · intro _ hqc;go_simp;try rfl
          try simp only [pu]
         refine aT (i:=7) (aG ak rfl) (fun K hK=>?_);have aA:=Lib.hid hS;clear hS;refine aO (aV rfl) ?_;go_simp;refine (abh.out _ (bD (bR wv))).mono ?_;rintro e bH ⟨rfl,bJ⟩;have hS:ji wv (some g4) bH:=gB (w0:=wv) aA.out bJ;clear aA
         try replace X4:=X4.keep bJ
         refine hK.out _ _ hS (fun _=>?_);clear hK K
         try simp only [pu]
         iterate 3
          apply jI;exact ak;exact rfl;exact hS;exact rfl
          · intro _ hqc;go_simp;try rfl
          try simp only [pu]
         refine aT (i:=11) (aG ak rfl) (fun K hK=>?_);have aA:=Lib.hid hS;clear hS;refine aO (aV rfl) ?_;obtain ⟨cZ,dh,eF,eG,iY⟩:=X4.bI;go_simp;refine hK.out _ _ (by first | exact gS aA.out _ _ | (unfold ji;have uH:World.grownBy _ _ _:=aA.out;repeat (first | with_reducible assumption | with_reducible exact World.grownBy.refl _ _ | with_reducible refine gS ?_ _ _ | with_reducible refine gD ?_ | with_reducible refine gA ?_ _))) (fun hS=>?_);clear hK K aA
         try simp only [pu]
         apply jI;exact ak;exact rfl;exact hS;exact rfl
         · intro _ hqc;go_simp;try rfl
         try simp only [pu]
         refine bM ?_;refine aC.down _ _ ?_;have hB:wv.grownBy _ (some g4):=hS;clear hS aC ak;have HBz:=Lib.hid (bT xR.out (bT (bD (bR wv)) bJ));clear hB cZ dh eF eG iY;have X4n:=aj.wJ X4 (x0:=.int .i64 u.x) (x1:=.int .i64 u.y);obtain ⟨wz,hwz⟩:∃ wz:World,wz=(bH.setCell ⟨g4,0,none⟩ (.int .i64 u.x)).setCell ⟨g4,1,none⟩ (.int .i64 u.y):=⟨_,rfl⟩;have HBy:=Lib.hid (show Below w.heap.size w wz by rw [hwz];exact bS (p:=⟨g4,1,none⟩) (bS (p:=⟨g4,0,none⟩) (bT HB3.out (bT iL.out HBz.out)) hg4 _) hg4 _);rw [<- hwz] at X4n ⊢;clear hwz X4;have abj:=Lib.hid X4n;obtain ⟨cZ,dh,eF,eG,iY⟩:=X4n.bI;go_wp2_with fail;refine su (t:=39) (g:=g4) (cs:=#[.int .i64 u.x,.int .i64 u.y]) rfl Gh rfl rfl (aj.wJ abj.out) ⟨by rw [Jf.out];unfold Qe;congr 1,bS (p:=⟨g4,1,none⟩) (bS (p:=⟨g4,0,none⟩) HBy.out hg4 _) hg4 _⟩
      ·obtain rfl:J=2:=by omega
       have hd:=midD p (some X) y0 y1 mid D;have hn:midD p (some X) y0 y1 mid D=none:=by unfold midD;rw [Vu.out (by omega),HJ2.out (by omega)];rfl
       have uM:=Lib.hid (show ∀ j,j<D+1->midD p (some X) y0 y1 mid j=none from fun j hj=>by
        by_cases e:j=D
        · subst e;exact hn
        · exact qy.out j (by omega))
       clear hn hd;go_wp2_with fail;go_roundw
       case rel => exact ⟨D+1,by go_num,uM.out,rfl,by omega,xR.out⟩
       case measure => simp [intOf];omega
   ·have hc1:¬ mid+D<=y1:=fun e=>hc (.inl e);have hc2:¬ y0<=mid-D:=fun e=>hc (.inr e);have hq:q=none:=by
     rw [qF.out];exact ara p (some X) (D:=D) (by rw [Qm.out];exact qy.out) (by rw [Qm.out];omega) (by rw [Qm.out];omega)
    have Jf:=Lib.hid hq;have X4:=dn.out.keep iD.out;have abj:=Lib.hid X4;clear hq hc
    try clear cZ
    try clear dh
    try clear eF
    try clear eG
    try clear iY
    obtain ⟨cZ,dh,eF,eG,iY⟩:=X4.bI;go_wp2_with fail;refine su (t:=39) (g:=g4) (cs:=#[.int .i64 0,.int .i64 0]) rfl Gh rfl rfl (aj.wJ abj.out) ⟨by rw [Jf.out];rfl,bS (p:=⟨g4,1,none⟩) (bS (p:=⟨g4,0,none⟩) (bT HB3.out (bT iL.out iD.out)) hg4 _) hg4 _⟩
set_option maxRecDepth 100000 in
set_option maxHeartbeats 8000000 in
theorem arz (v u:Value) (L L':List AD) (w:World) (hl:uK w v L) (hl':uK w u L') (he:L.map jS=L'.map jS):Calls Tryz.prog 20 #[v,u] w fun e w'=>e=.returned (.bool true)/\Below w.heap.size w w':=by
 have HS:=Lib.hid (fun (va ub:Value) (l:List Int) W (h:Ints W va l) (h':Ints W ub l)=>show Calls Tryz.prog 55 #[va,ub] W fun e w'=>e=.returned (.bool true)/\Below W.heap.size W w' from by
  have t:=apt va ub l l W h h';rw [decide_eq_true rfl] at t;exact t)
 have hll:L.length=L'.length:=by simpa using congrArg List.length he
 have HAt:=Lib.hid (fun k (h1:k<L.length) (h2:k<L'.length)=>show jS L[k]=jS L'[k] from by
  have e1:(L.map jS)[k]'(by simpa using h1)=jS L[k]:=by rw [List.getElem_map]
  have e2:(L'.map jS)[k]'(by simpa using h2)=jS L'[k]:=by rw [List.getElem_map]
  rw [<- e1,<- e2];congr 1)
 have HL:=Lib.hid hl;have Qo:=Lib.hid hl';obtain ⟨A,c,rfl,h1,h2,-⟩:=hl.sl;obtain ⟨A',c',rfl,h1',h2',-⟩:=hl'.sl;unfold maxLen at h2;obtain ⟨n,hn⟩:∃ n,L.length=n:=⟨_,rfl⟩;have hn':L'.length=n:=hll.symm.trans hn;have HN:=Lib.hid hn;have HN':=Lib.hid hn';have hnb:n<=9223372036854775807:=by omega
 rw [hn,hn'];clear hl hl' he hll hn hn' h1 h2 h1' h2';go_enter Tryz.func20,Tryz.ntmps20;go_wp2_with fail;go_loopw [5] (fun i wr=>∃ k:Nat,k<=n/\i=.int .i64 k/\Below w.heap.size w wr) (fun i _=>n-(intOf i).toNat)
 case atStart => exact ⟨0,Nat.zero_le _,rfl,bR w⟩
 case round =>
  obtain ⟨k,hk,rfl,hb⟩:=hrel;obtain ⟨wo,rfl⟩:∃ wo:World,wo=wr:=⟨_,rfl⟩;have Hb:=Lib.hid hb;clear hb;by_cases hlt:k<n
  ·have k1:k<L.length:=by rw [HN.out];exact hlt
   have k2:k<L'.length:=by rw [HN'.out];exact hlt
   obtain ⟨A1,c1,e1,-,-,hR⟩:=(HL.out.mono Hb.out).sl;obtain ⟨A2,c2,e2,-,-,hR'⟩:=(Qo.out.mono Hb.out).sl;injection e1 with q1 q2 q3;subst q1 q3;clear q2;injection e2 with q1 q2 q3;subst q1 q3;clear q2;obtain ⟨b,o,hA,hlb,c0,c1,c2,c3⟩:=hR.ad k1;obtain ⟨b',o',hA',Gu,d0,d1,d2,d3⟩:=hR'.ad k2;subst hA hA';have hg:=HAt.out k k1 k2;have m1:=List.getElem_mem k1;have m2:=List.getElem_mem k2;have Ho:=Lib.hid (fun W (hW:Below wo.heap.size wo W)=>((HL.out.mono (bT Hb.out hW)).out _ m1));have Vx:=Lib.hid (fun W (hW:Below wo.heap.size wo W)=>((Qo.out.mono (bT Hb.out hW)).out _ m2));have Hi:=Lib.hid (fun W (hW:Below wo.heap.size wo W)=>((HL.out.mono (bT Hb.out hW)).inn _ m1));have Vy:=Lib.hid (fun W (hW:Below wo.heap.size wo W)=>((Qo.out.mono (bT Hb.out hW)).inn _ m2));have Hc:=Lib.hid (fun W (hW:Below wo.heap.size wo W)=>((HL.out.mono (bT Hb.out hW)).iJ _ m1));have Hc':=Lib.hid (fun W (hW:Below wo.heap.size wo W)=>((Qo.out.mono (bT Hb.out hW)).iJ _ m2));have Ha:=Lib.hid (fun W (hW:Below wo.heap.size wo W)=>((HL.out.mono (bT Hb.out hW)).bn _ m1));have Vz:=Lib.hid (fun W (hW:Below wo.heap.size wo W)=>((Qo.out.mono (bT Hb.out hW)).bn _ m2));generalize L[k]=x at *;generalize L'[k]=x' at *;obtain ⟨tw,out,⟨oa,on,oc⟩,inn,⟨ia,iT,ic⟩,bn,⟨aa,an,ac⟩⟩:=x;obtain ⟨ZX,out',⟨ZY,on',oc'⟩,MG,⟨Z8,Z9,ic'⟩,atV,⟨aa',an',ac'⟩⟩:=x';unfold jS at hg;injection hg with g1 g2 g3 g4;simp only at g1 g2 g3 g4;subst g1 g2 g4;unfold aH at c1 c2 c3 d1 d2 d3 Ho Vx Hi Vy Ha Vz;simp only at c0 c1 c2 c3 d0 d1 d2 d3 Ho Vx Hi Vy Ha Vz Hc Hc';obtain ⟨_,_,e1,hi1,hi2,-⟩:=Hi.out wo (bR wo);have hib:inn.length<=9223372036854775807:=by unfold maxLen at hi2;omega
   clear hi1 hi2;obtain ⟨_,_,e2,-,-,-⟩:=Vy.out wo (bR wo);injection e1 with q1 q2 q3;subst q1 q3;injection e2 with q1 q2' q3;subst q1 q3;have hil:MG.length=inn.length:=by simpa using (congrArg List.length g3).symm
   rw [hil] at q2';subst q2 q2';have HIl:=Lib.hid hil;have HG:=Lib.hid g3;have uo:=Lib.hid (fun W (hW:Below wo.heap.size wo W)=>HS.out _ _ out W (Ho.out W hW) (Vx.out W hW));have HSa:=Lib.hid (fun W (hW:Below wo.heap.size wo W)=>HS.out _ _ bn W (Ha.out W hW) (Vz.out W hW));have HC0:=Lib.hid c2;have HD0:=Lib.hid d2;have i1:0<=(k:Int):=by omega
   have i2:(k:Int)<n:=by omega
   have hnl:((inn.length:Int) != inn.length)=false:=by simp
   have htt:(tw != tw)=false:=by simp
   clear k1 k2 hR hR' m1 m2 g3 hil;go_upto_region 6 with fail;refine bZ (Since wo) (.run 22 0 0 (.call 22 8388607 (.run 13 23 8388607 (.call 36 137438953471 (.run 17 37 137438953471 (.done)))))) (by kernel_rfl) (bD (bR _)) (by kernel_rfl) (by kernel_rfl) (Nat.le_of_ble_eq_true (by kernel_rfl)) ?_;intro cO QR ak aC hS
   iterate 12
    apply bg;exact ak;exact rfl;exact hS;exact rfl
    · intro _ hqc;go_simp;try rfl
    try simp only [pu]
   iterate 10
    apply dY;exact ak;exact rfl;exact hS;iterate 4 exact rfl
    · intro _ hqc;go_simp;try rfl
    try simp only [pu]
   refine aT (i:=22) (aG ak rfl) (fun K hK=>?_);have aA:=Lib.hid hS;clear hS;refine aO (mF rfl (aG ak rfl) rfl rfl) ?_;go_simp;refine (uo.out _ (bT (bD (bR wo)) (bR _))).mono ?_;rintro e bH ⟨rfl,bJ⟩;have hS:Since wo bH:=bT (w:=wo) aA.out bJ;clear aA;refine hK.out _ _ hS (fun _=>?_);clear hK K
   try simp only [pu]
   apply dY;exact ak;exact rfl;exact hS;iterate 4 exact rfl
   · intro _ hqc;go_simp;try rfl
   try simp only [pu]
   iterate 2
    apply bg;exact ak;exact rfl;exact hS;exact rfl
    · intro _ hqc;go_simp;try rfl
    try simp only [pu]
   iterate 10
    apply dY;exact ak;exact rfl;exact hS;iterate 4 exact rfl
    · intro _ hqc;go_simp;try rfl
    try simp only [pu]
   refine aT (i:=36) (aG ak rfl) (fun K hK=>?_);have aA:=Lib.hid hS;clear hS;refine aO (mF rfl (aG ak rfl) rfl rfl) ?_;go_simp;refine (HSa.out _ (bT (bD (bR wo)) bJ)).mono ?_;rintro e wr2 ⟨rfl,gZ⟩;have hS:Since wo wr2:=bT (w:=wo) aA.out gZ;clear aA;refine hK.out _ _ hS (fun _=>?_);clear hK K
   try simp only [pu]
   apply dY;exact ak;exact rfl;exact hS;iterate 4 exact rfl
   · intro _ hqc;go_simp;try rfl
   try simp only [pu]
   iterate 2
    apply bg;exact ak;exact rfl;exact hS;exact rfl
    · intro _ hqc;go_simp;try rfl
    try simp only [pu]
   iterate 13
    apply dY;exact ak;exact rfl;exact hS;iterate 4 exact rfl
    · intro _ hqc;go_simp;try rfl
    try simp only [pu]
   apply bg;exact ak;exact rfl;exact hS;exact rfl
   · intro _ hqc;go_simp;try rfl
   try simp only [pu]
   refine bM ?_;refine aC.down _ _ ?_;have hB:Below wo.heap.size wo wr2:=hS;clear hS aC ak;skip;have HB2:=Lib.hid hB;clear hB c0 c1 c2 c3 d0 d1 d2 d3 uo HSa Ho Vx Ha Vz hnl htt bJ gZ;replace c2:=fG HB2.out HC0.out;replace d2:=fG HB2.out HD0.out;have hlw:b<wr2.heap.size:=Nat.lt_of_lt_of_le hlb HB2.out.size;have arA:b'<wr2.heap.size:=Nat.lt_of_lt_of_le Gu HB2.out.size;go_upto_block 2 with fail;go_wp2_with fail;go_loopw [6] (fun j wr=>∃ J:Nat,J<=inn.length/\j=.int .i64 J/\Below wo.heap.size wo wr) (fun j _=>inn.length-(intOf j).toNat)
   case atStart => exact ⟨0,Nat.zero_le _,rfl,HB2.out⟩
   case round =>
    obtain ⟨J,hJ,rfl,hbv⟩:=hrel;obtain ⟨wv,rfl⟩:∃ wv:World,wv=wr:=⟨_,rfl⟩;have Hv:=Lib.hid hbv;replace c2:=fG hbv HC0.out;replace d2:=fG hbv HD0.out;replace hlw:=Nat.lt_of_lt_of_le hlb hbv.size;replace arA:=Nat.lt_of_lt_of_le Gu hbv.size;clear hbv HB2;by_cases hj:J<inn.length
    ·have hj':J<MG.length:=by rw [HIl.out];exact hj
     obtain ⟨A3,c3,e1,h13,-,hRi⟩:=Hi.out wv Hv.out;obtain ⟨A4,c4,e2,h14,-,ah6⟩:=Vy.out wv Hv.out;rw [HIl.out] at e2;injection e1 with q1 _ q3;injection e2 with q1' _ q3';subst q1 q3 q1' q3';obtain ⟨b3,o3,hA,hl3,e3⟩:=hRi.cy hj;obtain ⟨b4,o4,hA',hl4,e4⟩:=ah6.cy hj';subst hA hA';have hxe:inn[J].1=MG[J].1:=by
      have x1:(inn.map (·.1))[J]'(by simpa using hj)=inn[J].1:=by rw [List.getElem_map]
      have x2:(MG.map (·.1))[J]'(by simpa using hj')=MG[J].1:=by rw [List.getElem_map]
      rw [<- x1,<- x2];have hg:=HG.out;congr 1
     have EJ:=Lib.hid (fun W (hW:Below wv.heap.size wv W)=>HS.out _ _ inn[J].1 W (Hc.out W (bT Hv.out hW) _ (List.getElem_mem hj)) (by rw [hxe];exact Hc'.out W (bT Hv.out hW) _ (List.getElem_mem hj')));clear hxe hRi ah6;generalize inn[J]=z at *;generalize MG[J]=z' at *;clear hj';obtain ⟨zx,⟨za,zn,zc⟩⟩:=z;obtain ⟨zx',⟨za',zn',zc'⟩⟩:=z';unfold aH at EJ;simp only at e3 e4 EJ;have i3:0<=(J:Int):=by omega
     have i4:(J:Int)<inn.length:=by omega
     go_upto_region 11 with fail;refine bZ (Since wv) (.run 16 0 0 (.call 16 131071 (.take 17 262143 (.done)))) (by kernel_rfl) (bD (bR _)) (by kernel_rfl) (by kernel_rfl) (Nat.le_of_ble_eq_true (by kernel_rfl)) ?_;intro cO QR ak aC hS
     iterate 16
      apply bg;exact ak;exact rfl;exact hS;exact rfl
      · intro _ hqc;go_simp;try rfl
      try simp only [pu]
     refine aT (i:=16) (aG ak rfl) (fun K hK=>?_);have aA:=Lib.hid hS;clear hS;refine aO (aV rfl) ?_;go_simp;refine (EJ.out _ (bD (bR wv))).mono ?_;rintro e bH ⟨rfl,bJ⟩;have hS:Since wv bH:=bT (w:=wv) aA.out bJ;clear aA;refine hK.out _ _ hS (fun _=>?_);clear hK K
     try simp only [pu]
     apply bg;exact ak;exact rfl;exact hS;exact rfl
     · intro _ hqc;go_simp;try rfl
     try simp only [pu]
     refine bM ?_;refine aC.down _ _ ?_;have hB:Below wv.heap.size wv bH:=hS;clear hS aC ak;go_wp2_with fail;go_roundw
     case rel => exact ⟨J+1,by omega,by go_num,bT Hv.out hB⟩
     case measure => simp [intOf];omega
    ·obtain rfl:J=inn.length:=by omega
     go_wp2_with fail;go_roundw
     case rel => exact ⟨k+1,by omega,by go_num,bT Hb.out Hv.out⟩
     case measure => simp [intOf];omega
  ·obtain rfl:k=n:=by omega
   go_wp2_with fail;go_ret;exact ⟨rfl,Hb.out⟩
def Jl:List Pt:=[⟨10,0⟩,⟨10,10⟩,⟨0,10⟩]
def D8:Pl:=⟨[⟨1,⟨0,0⟩⟩],[⟨1,1,1,Jl,1,0⟩],[1]⟩
def pl0:Pl:=⟨[],[],[]⟩
def exV (gn ga gf:Nat):Value:=.agg #[.slice (some ⟨gn,0,none⟩) 1 1,.slice (some ⟨ga,0,none⟩) 1 1,.slice (some ⟨gf,0,none⟩) 1 1]
def exN:Array Value:=#[.int .i64 1,.int .i64 0,.int .i64 0]
def ah7:Array Value:=#[.int .i64 10,.int .i64 0,.int .i64 10,.int .i64 10,.int .i64 0,.int .i64 10]
def VA (gv nv cv:Nat) (left:Int):Array Value:=#[.int .i64 1,.int .i64 1,.int .i64 1,.slice (some ⟨gv,0,none⟩) nv cv,.int .i64 left,.int .i64 0]
def arB (w:World) (e:Ending) (w':World):Prop :=
 ∃ gn gv ga gf,e=.returned (exV gn ga gf)/\Below w.heap.size w w'/\(w.heap.size<=gn/\w.heap.size<=gv/\w.heap.size<=ga/\w.heap.size<=gf) /\
  aj w' gn 45 exN/\aj w' gv 39 ah7/\aj w' ga 50 (VA gv 3 3 1)/\aj w' gf 3 #[.int .i64 1]
theorem dS.blocks {w:World} {vn va vf:Value} {p:Pl} {al:List (Ar×Value)} (hp:p.ah=al.map (·.1)) (hn:zZ w vn p.nodes) (ha:Sl w va al.length (al.flatMap F8)) (hv:Ea w al) (hf:Ints w vf p.faces):dS w (.agg #[vn,va,vf]) p :=
 ⟨vn,va,vf,al,rfl,hp,hn,⟨ha,hv⟩,hf⟩
theorem dS.zero (w:World):dS w (.agg #[.slice none 0 0,.slice none 0 0,.slice none 0 0]) pl0 :=
 dS.blocks (al:=[]) rfl (Sl.nil w) (Sl.nil w) (fun k hk=>by simp at hk) (Sl.nil w)
theorem Sl.pre {w:World} {g n c:Nat} {t:TypeId} {cs:Array Value} {xs:List Value} (h:aj w g t cs) (hx:∀ (j:Nat) (v:Value),xs[j]? = some v->cs[j]? = some v) (hn:n<=c) (hc:c<=maxLen):Sl w (.slice (some ⟨g,0,none⟩) n c) n xs :=
 ⟨_,c,rfl,hn,hc,fun _=>⟨g,0,rfl,h.lt,fun j v hj=>by rw [h.cell,Nat.zero_add];exact hx j v hj⟩⟩
theorem arD {w:World} {a:Ar} {u:Value} (h:gG w u a.via):Ea w [(a,u)]:=fun k hk=>by
 have:k=0:=by simpa using hk
 subst this;exact h
theorem dS.ex {w:World} {vn:Value} {l:List Nd} {a v f n c:Nat} {left:Int} {via:List Pt} (hn:zZ w vn l) (ha:aj w a 50 (VA v n c left)) (hv:gG w (.slice (some ⟨v,0,none⟩) n c) via) (hf:aj w f 3 #[.int .i64 1]) :
  dS w (.agg #[vn,.slice (some ⟨a,0,none⟩) 1 1,.slice (some ⟨f,0,none⟩) 1 1]) ⟨l,[⟨1,1,1,via,left,0⟩],[1]⟩ :=
 dS.blocks (al:=[(⟨1,1,1,via,left,0⟩,.slice (some ⟨v,0,none⟩) n c)]) rfl hn (Sl.lit (n:=1) ha rfl (dW (by omega))) (arD hv) (Sl.lit (n:=1) hf rfl (dW (by omega)))
theorem arE {w:World} {n:Nat} (h:aj w n 45 exN):zZ w (.slice (some ⟨n,0,none⟩) 1 1) [⟨1,⟨0,0⟩⟩]:=Sl.lit (n:=1) h rfl (dW (by omega))
theorem abk {w:World} {v:Nat} (h:aj w v 39 ah7):gG w (.slice (some ⟨v,0,none⟩) 3 3) Jl:=Sl.lit (n:=3) h rfl (dW (by omega))
def qV:Pl:=⟨[⟨1,⟨0,0⟩⟩,⟨2,⟨5,5⟩⟩],[⟨1,1,1,Jl,1,0⟩],[1]⟩
def Jm:Pl:=⟨[⟨1,⟨0,0⟩⟩,⟨2,⟨5,5⟩⟩],[⟨1,1,1,Jl,0,0⟩],[1]⟩
theorem ah8:jG D8=0:=by decide +kernel
theorem arF:xM D8 (sortK (aN D8))=[⟨0,[],[[-1]],[]⟩,⟨1,[1],[],[]⟩]:=by kernel_rfl
theorem arG:wF D8 ⟨5,5⟩=(0,1,0):=by decide +kernel
theorem arH:wF D8 ⟨10,5⟩=(2,1,0):=by decide +kernel
theorem arI:IK D8 1=some ⟨5,5⟩:=by kernel_rfl
theorem arJ:jG qV=0:=by decide +kernel
theorem arK:IK qV 1=some ⟨2,5⟩:=by kernel_rfl
theorem arL:jG Jm=12:=by decide +kernel
theorem arM:oH (dw Jm)=0:=by decide +kernel
theorem arN:(aN (dw Jm)).length=1:=by decide +kernel
theorem arO:U0 Jm=qV:=by kernel_rfl
set_option maxHeartbeats 1000000 in
theorem arP (w:World):Calls Tryz.prog 48 #[] w (arB w):=by
 go_enter Tryz.func48,Tryz.ntmps48;go_wp2_with fail;refine MN (t:=26) (g:=w.heap.size) (cs:=#[.slice (some ⟨w.heap.size+1,0,none⟩) 1 1,.slice (some ⟨w.heap.size+1+1+1,0,none⟩) 1 1,.slice (some ⟨w.heap.size+1+1+1+1,0,none⟩) 1 1]) rfl Qz rfl rfl ?_ ⟨w.heap.size+1,w.heap.size+1+1,w.heap.size+1+1+1,w.heap.size+1+1+1+1,rfl,?_,by omega,?_,?_,?_,?_⟩
 · exact ((((aj.made rfl _ _).alloc _).alloc _).alloc _).alloc _
 · exact bA (bA (bA (bA (bA (bR w) _) _) _) _) _
 · exact (((aj.made (by simp) _ _).alloc _).alloc _).alloc _
 · exact ((aj.made (by simp) _ _).alloc _).alloc _
 · exact (aj.made (by simp) _ _).alloc _
 · exact aj.made (by simp) _ _
theorem Own.arQ {α:Type} {w:World} {g n:Nat} {e:TypeId} {cs:Array Value} {base size:Nat} {f:α->List Value} {l:List α} (h:aj w g e cs) (hb:base<=g) (hn:n=l.length) (hl:(l.flatMap f).length=l.length*size) (hx:cs.toList=l.flatMap f) (hm:n<=maxLen):Own w base e size f (.slice (some ⟨g,0,none⟩) n n) l:=by
 subst hn;unfold Own;have hs:cs.size=l.length*size:=by rw [<- hl,<- hx];simp
 exact ⟨hl,.inr ⟨g,l.length,cs,rfl,hb,h,Nat.le_refl _,hm,hs,by rw [hx,<- hl];exact List.take_length⟩⟩
def abl (w:World):World:=(((w.alloc (.cells #[.int .i64 (-1)] 3)).alloc (.cells #[.slice (some ⟨w.heap.size,0,none⟩) 1 1] 24)).alloc (.cells #[.int .i64 1] 3)).alloc (.cells #[.int .i64 0,.slice none 0 0,.slice (some ⟨w.heap.size+1,0,none⟩) 1 1,.slice none 0 0,.int .i64 1,.slice (some ⟨w.heap.size+1+1,0,none⟩) 1 1,.slice none 0 0,.slice none 0 0] 62)
def MH (w:World):List AD:=[⟨0,[],sv0,[([-1],⟨some ⟨w.heap.size,0,none⟩,1,1⟩)],⟨some ⟨w.heap.size+1,0,none⟩,1,1⟩,[],sv0⟩,⟨1,[1],⟨some ⟨w.heap.size+1+1,0,none⟩,1,1⟩,[],sv0,[],sv0⟩]
theorem ah9 (w:World):Below w.heap.size w (abl w):=bA (bA (bA (bA (bR w) _) _) _) _
theorem arR (w:World):uK (abl w) (.slice (some ⟨w.heap.size+1+1+1,0,none⟩) 2 2) (MH w):=by
 refine ⟨Sl.lit (n:=2) (aj.made (by simp) _ _) rfl (dW (by omega)),fun x hx=>?_,fun x hx=>?_,fun x hx c hc=>?_,fun x hx=>?_⟩
 ·simp only [MH,List.mem_cons,List.not_mem_nil,or_false] at hx;rcases hx with rfl | rfl
  · exact Sl.nil _
  · exact Sl.lit (n:=1) ((aj.made (by simp) _ _).alloc _) rfl (dW (by omega))
 ·simp only [MH,List.mem_cons,List.not_mem_nil,or_false] at hx;rcases hx with rfl | rfl
  · exact Sl.lit (n:=1) (((aj.made (by simp) _ _).alloc _).alloc _) rfl (dW (by omega))
  · exact Sl.nil _
 ·simp only [MH,List.mem_cons,List.not_mem_nil,or_false] at hx;rcases hx with rfl | rfl
  ·simp only [List.mem_cons,List.not_mem_nil,or_false] at hc;subst hc;exact Sl.lit (n:=1) ((((aj.made rfl _ _).alloc _).alloc _).alloc _) rfl (dW (by omega))
  · cases hc
 ·simp only [MH,List.mem_cons,List.not_mem_nil,or_false] at hx;rcases hx with rfl | rfl
  · exact Sl.nil _
  · exact Sl.nil _
set_option maxRecDepth 100000 in
set_option maxHeartbeats 8000000 in
theorem arT (w:World):Calls Tryz.prog 16 #[] w fun e w'=>e=.returned (.bool true)/\Below w.heap.size w w':=by
 have HE:=Lib.hid arP;go_enter Tryz.func16,Tryz.ntmps16;go_wp2_with fail;refine (HE.out _).mono ?_;rintro e w1 ⟨n1,v1,a1,f1,rfl,hb1,hx1,hn1,hv1,ha1,hf1⟩;unfold exV;have HB1:=Lib.hid hb1;have Nj:=Lib.hid (dS.ex (arE hn1) ha1 (abk hv1) hf1);clear hb1 hn1 hv1 ha1 hf1 hx1;go_upto_region 2 with fail;obtain ⟨W2,hW⟩:∃ W:World,W=w1.alloc (.cells #[.slice (some ⟨n1,0,none⟩) 1 1,.slice (some ⟨a1,0,none⟩) 1 1,.slice (some ⟨f1,0,none⟩) 1 1] 26):=⟨_,rfl⟩;have X1:aj W2 w1.heap.size 26 #[.slice (some ⟨n1,0,none⟩) 1 1,.slice (some ⟨a1,0,none⟩) 1 1,.slice (some ⟨f1,0,none⟩) 1 1]:=by rw [hW];exact aj.made rfl _ _
 have hA:Below w1.heap.size w1 W2:=by rw [hW];exact bA (bR w1) _
 have HP2:=Lib.hid (Nj.out.mono hA);have HB2:=Lib.hid (bT HB1.out hA);obtain ⟨g1,h1⟩:∃ g,w1.heap.size=g:=⟨_,rfl⟩;rw [<- hW];rw [h1] at X1 ⊢;clear hW hA h1 Nj HB1;have eH:=Lib.hid X1;have Qp:=Lib.hid (fun W (hW:Below W2.heap.size W2 W)=>agR _ D8 W (HP2.out.mono hW) ah8);have Py:=Lib.hid (fun u W (hW:Below W2.heap.size W2 W)=>aqJ _ D8 u W (HP2.out.mono hW));have qF:=Lib.hid (fun W (hW:Below W2.heap.size W2 W)=>ah0 _ D8 1 W (HP2.out.mono hW) ah8);rw [arI] at qF;have Qq:=Lib.hid (Py.out ⟨5,5⟩);have HL2:=Lib.hid (Py.out ⟨10,5⟩);rw [arG] at Qq;rw [arH] at HL2;replace Qq:=Lib.hid (show ∀ W,Below W2.heap.size W2 W->Calls Tryz.prog 24 #[.agg #[.slice (some ⟨n1,0,none⟩) 1 1,.slice (some ⟨a1,0,none⟩) 1 1,.slice (some ⟨f1,0,none⟩) 1 1],.agg #[.int .i64 5,.int .i64 5]] W fun e w'=>e=.returned (.tuple #[.int .i64 0,.int .i64 1,.int .i64 0])/\Below W.heap.size W w' from Qq.out);replace HL2:=Lib.hid (show ∀ W,Below W2.heap.size W2 W->Calls Tryz.prog 24 #[.agg #[.slice (some ⟨n1,0,none⟩) 1 1,.slice (some ⟨a1,0,none⟩) 1 1,.slice (some ⟨f1,0,none⟩) 1 1],.agg #[.int .i64 10,.int .i64 5]] W fun e w'=>e=.returned (.tuple #[.int .i64 2,.int .i64 1,.int .i64 0])/\Below W.heap.size W w' from HL2.out);replace qF:=Lib.hid (show ∀ W,Below W2.heap.size W2 W->Calls Tryz.prog 30 #[.agg #[.slice (some ⟨n1,0,none⟩) 1 1,.slice (some ⟨a1,0,none⟩) 1 1,.slice (some ⟨f1,0,none⟩) 1 1],.int .i64 1] W fun e w'=>e=.returned (.tuple #[.agg #[.int .i64 5,.int .i64 5],.bool true])/\Below W.heap.size W w' from qF.out);clear Py;obtain ⟨aI,aJ,aK,aP,-,-,-⟩:=X1.bC;go_wp2_with fail;refine (Qp.out _ (bR W2)).mono ?_;rintro e w3 ⟨A,c,L,rfl,hb3,wE,hmap⟩;rw [arF] at hmap;have hll:L.length=2:=by simpa using congrArg List.length hmap
 rw [hll];rw [hll] at wE;have HAf:=Lib.hid wE;have aaI:=Lib.hid hmap;have HB3:=Lib.hid hb3;clear hb3 wE hmap hll Qp X1 aI aJ aK aP;have X1:=eH.out.keep HB3.out
 try clear aI
 try clear aJ
 try clear aK
 try clear aP
 obtain ⟨aI,aJ,aK,aP,-,-,-⟩:=X1.bC;go_wp2_with fail;refine (Qq.out _ HB3.out).mono ?_;rintro e w4 ⟨rfl,hb4⟩;have HB4:=Lib.hid (bT HB3.out hb4);have aia:=Lib.hid (HAf.out.mono hb4);clear hb4 HB3 HAf Qq X1 aI aJ aK aP;have X1:=eH.out.keep HB4.out
 try clear aI
 try clear aJ
 try clear aK
 try clear aP
 obtain ⟨aI,aJ,aK,aP,-,-,-⟩:=X1.bC;go_wp2_with fail;refine (HL2.out _ HB4.out).mono ?_;rintro e w5 ⟨rfl,hb5⟩;have dK:=Lib.hid (bT HB4.out hb5);have aib:=Lib.hid (aia.out.mono hb5);clear hb5 HB4 aia HL2 X1 aI aJ aK aP;have X1:=eH.out.keep dK.out
 try clear aI
 try clear aJ
 try clear aK
 try clear aP
 obtain ⟨aI,aJ,aK,aP,-,-,-⟩:=X1.bC;go_wp2_with fail;refine (qF.out _ dK.out).mono ?_;rintro e w6 ⟨rfl,hb6⟩;have iL:=Lib.hid (bT HB2.out (bT dK.out hb6));have aic:=Lib.hid (aib.out.mono hb6);clear hb6 dK aib qF X1 aI aJ aK aP eH HP2 HB2;go_upto_region 6 with fail;obtain ⟨W7,hW⟩:∃ W:World,W=w6.alloc (.cells #[.int .i64 5,.int .i64 5] 39):=⟨_,rfl⟩;have dU:aj W7 w6.heap.size 39 #[.int .i64 5,.int .i64 5]:=by rw [hW];exact aj.made rfl _ _
 have hA:Below w6.heap.size w6 W7:=by rw [hW];exact bA (bR w6) _
 have arU:=Lib.hid (aic.out.mono hA);have zG:=Lib.hid (bT iL.out hA);obtain ⟨g10,h10⟩:∃ g,w6.heap.size=g:=⟨_,rfl⟩;rw [<- hW];rw [h10] at dU ⊢;have wU:=Lib.hid dU;clear hW hA h10 aic iL dU;go_wp2_with fail;refine (HE.out _).mono ?_;rintro e w8 ⟨n2,v2,a2,f2,rfl,hb8,hx8,hn2,hv2,ha2,hf2⟩;unfold exV;go_upto_region 7 with fail;obtain ⟨W9,hW⟩:∃ W:World,W=w8.alloc (.cells #[.slice (some ⟨n2,0,none⟩) 1 1,.slice (some ⟨a2,0,none⟩) 1 1,.slice (some ⟨f2,0,none⟩) 1 1] 26):=⟨_,rfl⟩;have hA:Below w8.heap.size w8 W9:=by rw [hW];exact bA (bR w8) _
 have T2:aj W9 w8.heap.size 26 #[.slice (some ⟨n2,0,none⟩) 1 1,.slice (some ⟨a2,0,none⟩) 1 1,.slice (some ⟨f2,0,none⟩) 1 1]:=by rw [hW];exact aj.made rfl _ _
 have uM:=Lib.hid (hn2.keep hA);have VB:=Lib.hid (hv2.keep hA);have HA2:=Lib.hid (ha2.keep hA);have HF2:=Lib.hid (hf2.keep hA);have Je:=Lib.hid (bT hb8 hA);have hs8:=hb8.size;obtain ⟨g12,h12⟩:∃ g,w8.heap.size=g:=⟨_,rfl⟩;have hx9:W7.heap.size<=n2/\W7.heap.size<=v2/\W7.heap.size<=a2/\W7.heap.size<=f2/\W7.heap.size<=g12:=by omega
 rw [<- hW];rw [h12] at T2 ⊢;have HT2:=Lib.hid T2;clear hW hA h12 hb8 hn2 hv2 ha2 hf2 hx8 hs8;obtain ⟨T2l,T2a,T2b,T2c,arW,arY,arZ⟩:=T2.bC;go_upto_region 8 with
  (at_builtin
   refine jH _ rfl (.tmp 44) (.tmp 47) _ rfl (base:=n2) abz VT abA rfl (Own.arQ (l:=[(⟨1,⟨0,0⟩⟩:Nd)]) (uM.out.alloc _) (Nat.le_refl _) rfl rfl rfl (dW (by omega))) rfl (l2:=[(⟨2,⟨5,5⟩⟩:Nd)]) (Sl.lit (n:=1) (aj.made rfl _ _) rfl (dW (by omega))) (by simp only [List.length_cons,List.length_nil];omega) (by simp only [List.length_cons,List.length_nil];omega) (by have:=uM.out.lt;simp;omega) ?_;intro v5 w5 gy hg5 oz;replace gy:Own w5 n2 45 3 uS v5 qV.nodes:=gy;have hs5:Sl w5 v5 2 (qV.nodes.flatMap uS):=Own.sl gy;obtain ⟨A5,c5,rfl,-,-,-⟩:=hs5;have rX:=Lib.hid gy;have Jo:=Lib.hid (show (W9.alloc (.cells #[.int .i64 2,.int .i64 5,.int .i64 5] 45)).grownBy w5 (some n2) from hg5);have T2n:=(HT2.out.alloc (.cells #[.int .i64 2,.int .i64 5,.int .i64 5] 45)).grown Jo.out (fun e=>aj.nD HT2.out uM.out (by decide) (Option.some.inj e));have abm:=Lib.hid T2n;clear T2 T2l T2a T2b T2c arW arY arZ gy hg5 oz;obtain ⟨ar1,ar2,-,-,ar4,-,-⟩:=T2n.bC;clear T2n)
 obtain ⟨tJ,hW⟩:∃ W:World,W=w5.setCell ⟨g12,0,none⟩ (.slice A5 2 c5):=⟨_,rfl⟩;have hK:∀ g t cs,g≠n2->g≠g12->aj W9 g t cs->aj tJ g t cs:=fun g t cs k1 k2 h=>by
  rw [hW];exact aj.far (aj.grown (h.alloc _) Jo.out (fun e=>k1 (Option.some.inj e))) k2 _
 have HNq:=Lib.hid (show Own tJ n2 45 3 uS (.slice A5 2 c5) qV.nodes by
  rw [hW];exact rX.out.far (p:=⟨g12,0,none⟩) (Own.dM rX.out abm.out (by decide)) _)
 have HT:=Lib.hid (show aj tJ g12 26 #[.slice A5 2 c5,.slice (some ⟨a2,0,none⟩) 1 1,.slice (some ⟨f2,0,none⟩) 1 1] by
  rw [hW];have:=abm.out.fF 0 (.slice A5 2 c5)
  simpa using this)
 have HV:=Lib.hid (hK _ _ _ (aj.nD VB.out uM.out (by decide)) (aj.nD VB.out HT2.out (by decide)) VB.out);have HA:=Lib.hid (hK _ _ _ (aj.nD HA2.out uM.out (by decide)) (aj.nD HA2.out HT2.out (by decide)) HA2.out);have HF:=Lib.hid (hK _ _ _ (aj.nD HF2.out uM.out (by decide)) (aj.nD HF2.out HT2.out (by decide)) HF2.out);have aie:=Lib.hid (show Below W7.heap.size W7 tJ by
  rw [hW];exact bS (p:=⟨g12,0,none⟩) (bG (bA Je.out _) Jo.out (fun k hk=>by have:=Option.some.inj hk;omega)) (by simp;omega) _)
 rw [<- hW];clear hW hK rX Jo abm VB HA2 HF2 uM HT2 Je ar1 ar2 ar4;have LU:=Lib.hid (show dS tJ (.agg #[.slice A5 2 c5,.slice (some ⟨a2,0,none⟩) 1 1,.slice (some ⟨f2,0,none⟩) 1 1]) qV from dS.ex (Own.sl HNq.out) HA.out (abk HV.out) HF.out);have sO:=Lib.hid (ah0 _ qV 1 tJ LU.out arJ);rw [arK] at sO;replace sO:=Lib.hid (show Calls Tryz.prog 30 #[.agg #[.slice A5 2 c5,.slice (some ⟨a2,0,none⟩) 1 1,.slice (some ⟨f2,0,none⟩) 1 1],.int .i64 1] tJ fun e w'=>e=.returned (.tuple #[.agg #[.int .i64 2,.int .i64 5],.bool true])/\Below tJ.heap.size tJ w' from sO.out);have mD:=HT.out;obtain ⟨pK,pO,pR,pU,-,-,-⟩:=mD.bC;go_wp2_with fail;refine sO.out.mono ?_;rintro e EK ⟨rfl,wX⟩;have aif:=Lib.hid wX;clear wX sO LU mD pK pO pR pU;go_upto_region 9 with fail;obtain ⟨W11,hW⟩:∃ W:World,W=EK.alloc (.cells #[.int .i64 2,.int .i64 5] 39):=⟨_,rfl⟩;have hA:Below tJ.heap.size tJ W11:=by rw [hW];exact bA aif.out _
 have sU:aj W11 EK.heap.size 39 #[.int .i64 2,.int .i64 5]:=by rw [hW];exact aj.made rfl _ _
 obtain ⟨g13,h13⟩:∃ g,EK.heap.size=g:=⟨_,rfl⟩;rw [<- hW];rw [h13] at sU ⊢;have uO:=Lib.hid sU;have VD:=Lib.hid (HT.out.keep hA);have abn:=Lib.hid (HNq.out.keep hA);have abo:=Lib.hid (HV.out.keep hA);have F5:=Lib.hid (HA.out.keep hA);have abp:=Lib.hid (HF.out.keep hA);have aii:=Lib.hid (bT aie.out hA);clear hW hA h13 HT HNq HV HA HF aie aif;have mD:=VD.out;have XA:=F5.out;unfold VA at XA
 try clear pK
 try clear pO
 try clear pR
 try clear pU
 obtain ⟨pK,pO,pR,pU,-,-,-⟩:=mD.bC;obtain ⟨XAl,XAa,XAb,XAc,XAd,XAe,XAf,ar5,ar6,ar7,ar8,ar9,asa⟩:=XA.kZ;go_upto_region 10 with fail;obtain ⟨bW,hW⟩:∃ W:World,W=W11.setCell ⟨a2,4,none⟩ (.int .i64 0):=⟨_,rfl⟩;have abq:=Lib.hid (show aj bW g12 26 _ by rw [hW];exact VD.out.far (p:=⟨a2,4,none⟩) (aj.nD VD.out F5.out (by decide)) _);have aij:=Lib.hid (show aj bW g13 39 _ by rw [hW];exact uO.out.far (p:=⟨a2,4,none⟩) (aj.nD uO.out F5.out (by decide)) _);have asb:=Lib.hid (show Below W7.heap.size W7 bW by rw [hW];exact bS (p:=⟨a2,4,none⟩) aii.out (by simp;omega) _);have aik:=Lib.hid (show dS bW (.agg #[.slice A5 2 c5,.slice (some ⟨a2,0,none⟩) 1 1,.slice (some ⟨f2,0,none⟩) 1 1]) Jm by
  rw [hW];refine dS.ex (v:=v2) (n:=3) (c:=3) (Own.sl (abn.out.far (p:=⟨a2,4,none⟩) (Own.dM abn.out F5.out (by decide)) _)) ?_ (abk (abo.out.far (p:=⟨a2,4,none⟩) (aj.nD abo.out F5.out (by decide)) _)) (abp.out.far (p:=⟨a2,4,none⟩) (aj.nD abp.out F5.out (by decide)) _);have:=F5.out.fF 4 (.int .i64 0)
  unfold VA at this ⊢;simpa using this)
 rw [<- hW];clear hW VD uO abn abo F5 abp aii sU mD pK pO pR pU XA XAl XAa XAb XAc XAd XAe XAf ar5 ar6 ar7 ar8 ar9 asa;have HLb:=Lib.hid (show Calls Tryz.prog 21 #[.agg #[.slice A5 2 c5,.slice (some ⟨a2,0,none⟩) 1 1,.slice (some ⟨f2,0,none⟩) 1 1]] bW (agS bW qV) from (aqf _ Jm bW aik.out ⟨by show 2<=100000;omega,by show 1<=100000;omega,fun a ha=>by
   have e:a=⟨1,1,1,Jl,0,0⟩:=List.mem_singleton.1 ha;subst e
   show 3<=100000
   omega⟩ arM).mono (fun e w' h=>by
  rcases h with ⟨h64,-⟩ | ⟨-,h⟩
  · rw [arN] at h64;omega
  · rw [arO] at h;exact h))
 have jr:=Lib.hid (fun W (hW:Below bW.heap.size bW W)=>agP _ Jm W (aik.out.mono hW));rw [arL] at jr;have mD:=abq.out
 try clear pK
 try clear pO
 try clear pR
 try clear pU
 obtain ⟨pK,pO,pR,pU,-,-,-⟩:=mD.bC;go_wp2_with fail;refine HLb.out.mono ?_;rintro e MI ⟨An,cn,Aa,ca,Af,cf,bl,rfl,ail,hpo⟩;have har:=hpo.iQ;have heq:[(⟨1,1,1,Jl,1,0⟩:Ar)]=bl.map (·.1):=hpo.eq.symm;obtain ⟨z,hbl⟩:∃ z,bl=[z]:=by
  cases bl with
  | nil=>simp at heq
  | cons z l =>
   cases l with
   | nil=>exact ⟨z,rfl⟩
   | cons _ _=>simp at heq
 subst hbl;have hz:z.1=⟨1,1,1,Jl,1,0⟩:=by simpa using heq.symm
 obtain ⟨ba,oa,yM,hla,-,-,-,-,y4,y5⟩:=Row.ZU (Own.aeM har) (k:=0) (by simp);simp only [List.getElem_cons_zero,hz,Nat.zero_mul,Nat.add_zero] at y4 y5;subst yM;have ain:=Lib.hid ail;have VE:=Lib.hid y4;have IU:=Lib.hid y5;clear ail hpo har heq hz y4 y5 HLb mD pK pO pR pU;go_upto_region 11 with fail;obtain ⟨F6,hW⟩:∃ W:World,W=MI.alloc (.cells #[.slice An qV.nodes.length cn,.slice (some ⟨ba,oa,none⟩) qV.ah.length ca,.slice Af qV.faces.length cf] 26):=⟨_,rfl⟩;have zo:aj F6 MI.heap.size 26 #[.slice An qV.nodes.length cn,.slice (some ⟨ba,oa,none⟩) qV.ah.length ca,.slice Af qV.faces.length cf]:=by rw [hW];exact aj.made rfl _ _
 have hA:Below MI.heap.size MI F6:=by rw [hW];exact bA (bR MI) _
 replace VE:=Lib.hid (fG hA VE.out);replace IU:=Lib.hid (fG hA IU.out);have MJ:=Lib.hid (bT ain.out hA);have VF:=Lib.hid (bT asb.out MJ.out);obtain ⟨g15,h15⟩:∃ g,MI.heap.size=g:=⟨_,rfl⟩;rw [<- hW];rw [h15] at zo ⊢;have DW:=Lib.hid zo;have atW:=Nat.lt_of_lt_of_le hla hA.size;clear hW hA h15 ain;have dU:=wU.out.keep VF.out;have sU:=aij.out.keep MJ.out;have mD:=abq.out.keep MJ.out;have y4:=VE.out;have y5:=IU.out;have aio:=arU.out.mono VF.out;have hS:=fun (W:World) (h:uK W (.slice A 2 c) L) (L':List AD) (u:Value) (h':uK W u L') (he:L.map jS=L'.map jS)=>arz (.slice A 2 c) u L L' W h h' he;have ase:=Lib.hid aio;have HS:=Lib.hid hS;clear aio hS;have VG:qV.ah.length=1:=rfl;have VH:qV.nodes.length=2:=rfl;have VI:qV.faces.length=1:=rfl;rw [VG,VH,VI] at zo;rw [VG,VH,VI] at DW
 try rw [VG,VH,VI]
 clear VG VH VI;obtain ⟨jX,jY,jZ,-,-⟩:=dU.bI;obtain ⟨G5,G6,G7,-,-⟩:=sU.bI
 try clear pK
 try clear pO
 try clear pR
 try clear pU
 obtain ⟨pK,pO,pR,pU,-,-,-⟩:=mD.bC;obtain ⟨NH,NI,NJ,U9,-,-,-⟩:=zo.bC;go_wp2_with fail;refine (HS.out (abl F6) (ase.out.mono (ah9 F6)) (MH F6) (.slice (some ⟨F6.heap.size+1+1+1,0,none⟩) 2 2) (arR F6) (aaI.out.trans rfl)).mono ?_;rintro e w20 ⟨rfl,aip⟩;have D6:=Lib.hid (bT (ah9 F6) aip);clear aip dU jX jY jZ sU G5 G6 G7 mD pK pO pR pU zo NH NI NJ U9 y4 y5;have dU:=(wU.out.keep VF.out).keep D6.out;have sU:=(aij.out.keep MJ.out).keep D6.out;have mD:=(abq.out.keep MJ.out).keep D6.out
 try clear jX
 try clear jY
 try clear jZ
 obtain ⟨jX,jY,jZ,-,-⟩:=dU.bI
 try clear G5
 try clear G6
 try clear G7
 obtain ⟨G5,G6,G7,-,-⟩:=sU.bI
 try clear pK
 try clear pO
 try clear pR
 try clear pU
 obtain ⟨pK,pO,pR,pU,-,-,-⟩:=mD.bC;go_wp2_with fail;refine (jr.out _ (bT MJ.out D6.out)).mono ?_;rintro e w21 ⟨rfl,aiq⟩;have VJ:=Lib.hid (bT D6.out aiq);clear aiq dU jX jY jZ sU G5 G6 G7 mD pK pO pR pU;have zo:=DW.out.keep VJ.out;have y4:=fG VJ.out VE.out;have y5:=fG VJ.out IU.out
 try clear NH
 try clear NI
 try clear NJ
 try clear U9
 obtain ⟨NH,NI,NJ,U9,-,-,-⟩:=zo.bC;go_wp2_with fail;go_ret;exact ⟨rfl,bT zG.out (bT VF.out VJ.out)⟩
end Go.Proofs.YtialfdomhoojiaaGreat
