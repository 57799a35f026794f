import Derived.Test.YtialfdomhoojiaaGreatRegWR
import Derived.Test.YtialfdomhoojiaaGreatJ15
import Derived.Test.YtialfdomhoojiaaGreatJ04
import Derived.Test.YtialfdomhoojiaaGreatJ29
import Derived.Test.YtialfdomhoojiaaGreatJ07
import Derived.Test.YtialfdomhoojiaaGreatJ01
import Derived.Test.YtialfdomhoojiaaGreatJ31
import Derived.Test.YtialfdomhoojiaaGreatRegLB
set_option linter.unusedSimpArgs false
set_option linter.unusedVariables false
namespace Go.Proofs.YtialfdomhoojiaaGreat
open Go.RowKit
theorem aiQ (a b:Int) (W:World):(Instr.index 116 (.agg #[.int .i64 a,.int .i64 b]) (.int .i64 0)).run Tryz.prog W=.ok (.int .i64 a) W/\(Instr.index 116 (.agg #[.int .i64 a,.int .i64 b]) (.int .i64 1)).run Tryz.prog W=.ok (.int .i64 b) W:=⟨by kernel_rfl,by kernel_rfl⟩
set_option maxRecDepth 100000 in
set_option maxHeartbeats 8000000 in
theorem Xe (v:Value) (p:Pl) (fc:Int) (w:World) (h:dS w v p) (hv:iV p=0):Calls Tryz.prog 30 #[v,.int .i64 fc] w fun e w'=>e=.returned (Kr (wO p fc))/\Below w.heap.size w w':=by
 obtain ⟨hvv,hfb⟩:=Nw hv;have hf:=JD.1 hfb;have Hix:=Lib.hid (asN hf fc);have HC:=Lib.hid (fun W (hW:Below w.heap.size w W)=>Wi v p W (h.mono hW) hv);have HPv:=Lib.hid h;have yI:=Lib.hid hvv;have hol:(aI p).length<=512:=Nat.le_trans (List.length_filter_le _ _) hvv.GU;obtain ⟨q,hq⟩:∃ q,wO p fc=q:=⟨_,rfl⟩;rw [hq];have HQ:=Lib.hid hq;obtain ⟨_,_,_,al,rfl,-,⟨An,cn,rfl,-⟩,⟨⟨Aa,ca,rfl,-⟩,-⟩,⟨Af,cf,rfl,-⟩⟩:=h;obtain ⟨V,hV⟩:∃ V:Value,V=.agg #[.slice An p.nodes.length cn,.slice Aa al.length ca,.slice Af p.faces.length cf]:=⟨_,rfl⟩;rw [<- hV] at HPv;have HVe:=Lib.hid hV;generalize p.nodes.length=nn at *;generalize al.length=na at *;generalize p.faces.length=nf at *;clear hq hV hvv hfb hv hf;go_enter Tryz.func30,Tryz.ntmps30;go_upto_region 1 with fail;obtain ⟨W1,hW⟩:∃ W:World,W=(w.alloc (.cells #[.slice An nn cn,.slice Aa na ca,.slice Af nf cf] 26)).alloc (.cells #[.int .i64 0,.int .i64 0] 39):=⟨_,rfl⟩;have X2:aj W1 w.heap.size 26 #[.slice An nn cn,.slice Aa na ca,.slice Af nf cf]:=by rw [hW];exact (aj.made rfl _ _).alloc _
 have X4:aj W1 (w.heap.size+1) 39 #[.int .i64 0,.int .i64 0]:=by rw [hW];exact aj.made (by simp) _ _
 have HB1:=Lib.hid (show Below w.heap.size w W1 by rw [hW];exact bA (bA (bR w) _) _);rw [<- hW];clear hW;obtain ⟨g4,h4⟩:∃ g,w.heap.size+1=g:=⟨_,rfl⟩;have hg4:w.heap.size<=g4:=by omega
 rw [h4] at X4 ⊢;obtain ⟨g2,h2⟩:∃ g,w.heap.size=g:=⟨_,rfl⟩;rw [h2] at X2 ⊢;have bU:=Lib.hid X2;have dI:=Lib.hid X4;have n24:g2≠g4:=by omega
 have n42:g4≠g2:=by omega
 clear h4 h2 X4;obtain ⟨cu,cO,dH,dZ,-,-,-⟩:=X2.aY;go_wp2_with fail;refine (HC.out _ HB1.out).mono ?_;rintro e w1 ⟨A,c,L,A',c',gm,f,rfl,hb1,xB,hfi,hdv,htw,hpm,hgm,-⟩;have HB2:=Lib.hid (bT HB1.out hb1);have hll:L.length=(aI p).length+1:=hdv.len;rw [hll] at hfi;have HIx:=Lib.hid (fun W (hW:Below w1.heap.size w1 W)=>agj _ _ fc W (hfi.mono hW));have aiR:=Lib.hid (bU.out.keep hb1);have aiS:=Lib.hid (dI.out.keep hb1);have HA:=Lib.hid xB;have HD:=Lib.hid hdv;have ng:=Lib.hid hpm;have HL:=Lib.hid hll;rw [<- hll] at HIx;clear hb1 HC X2 cu cO dH dZ bU dI HB1 xB hfi hdv htw hpm hgm hll;go_wp2_with fail;refine (HIx.out _ (bR w1)).mono ?_;rintro e w2 ⟨rfl,hb2⟩;have HB3:=Lib.hid (bT HB2.out hb2);have aiT:=Lib.hid (aiR.out.keep hb2);have Xf:=Lib.hid (aiS.out.keep hb2);have HA2:=Lib.hid (HA.out.mono hb2);have aiU:=Lib.hid (ng.out.keep hb2);rw [HL.out];clear hb2 HIx aiR aiS HA ng HB2;have hix:=Hix.out;clear Hix;rcases hix with ⟨i,hi,hz,RI⟩ | ⟨hz,RI⟩
 case inr =>
  have hq:=HQ.out;unfold wO at hq;rw [RI] at hq;have J6:=Lib.hid (show q=none from hq.symm);generalize EF _ fc=z at *;have X4:=Xf.out;clear hq HQ RI;obtain ⟨dF,dG,fG,fH,jw⟩:=X4.bH;go_wp2_with fail;refine uw (t:=39) (g:=g4) (cs:=#[.int .i64 0,.int .i64 0]) rfl Ik rfl rfl (aj.rW Xf.out) ⟨by rw [J6.out];rfl,bS (p:=⟨g4,1,none⟩) (bS (p:=⟨g4,0,none⟩) HB3.out hg4 _) hg4 _⟩
 case inl =>
  rw [hz];have ace:=Lib.hid RI;have kz:¬ (i:Int)+1<1:=by omega
  clear hz RI;go_upto_region 7 with fail;have NU:i+1<L.length:=by rw [HL.out];omega
  have hX:(aI p)[i]∈aI p:=List.getElem_mem hi;obtain ⟨X,hXe⟩:∃ X,(aI p)[i]=X:=⟨_,rfl⟩;have hout:=HD.out.MQ NU (by omega);have hcy:=HD.out.VZ NU;have hkey:qO (aI p) (i+1)=some X:=by rw [EH (by omega) (by omega)];simp only [Nat.add_sub_cancel];rw [hXe]
  unfold tX at hcy;rw [hkey] at hcy;have hal:L[i+1].bK=vC p (some X):=by rw [HD.out.bK (i+1) NU,hkey];rfl
  simp only [Nat.add_sub_cancel] at hout;rw [hXe] at hout hX ace;have hmem:=List.getElem_mem NU;have HR:=Lib.hid (fun W (hW:Below w2.heap.size w2 W)=>(HA2.out.mono hW).sl);have HRo:=Lib.hid (fun W (hW:Below w2.heap.size w2 W)=>(HA2.out.mono hW).out _ hmem);have EI:=Lib.hid (fun W (hW:Below w2.heap.size w2 W)=>(HA2.out.mono hW).inn _ hmem);have Dn:=Lib.hid (fun W (hW:Below w2.heap.size w2 W)=>(HA2.out.mono hW).jk _ hmem);have lK:=Lib.hid (fun W (hW:Below w2.heap.size w2 W)=>(HA2.out.mono hW).bK _ hmem);have asO:(bP p X).length<=33280:=by
   have h1:=yI.out.aiE (b:=some X) (List.mem_cons_of_mem _ (List.mem_map_of_mem hX));have h2:=aiA (bP p) (l:=gY p (some X)) (a:=X) List.mem_cons_self;unfold iD at h1;omega
  have hdd:=(yI.out.iE (fF.1 hX).1).2;have yu:wO p fc=Qn p (some X) (rH (kE (bP p X))).y0 (rH (kE (bP p X))).y1:=by unfold wO;rw [ace.out]
  rw [HQ.out] at yu;have hne:kE (bP p X)≠[]:=by
   have hh:=yI.out.oU (fF.1 hX).1;obtain ⟨a,ha,-,hp⟩:=yI.out.AY (hdd _ hh);have hl:=fM p a;have hpt:(ak p a).getD 0 aB∈kE (bP p X):=(yI.out.Ru hdd _).2 (List.mem_flatMap.2 ⟨_,hh,(NP _ _ _).2 (by
    rw [hp,List.getD_eq_getElem?_getD,List.getElem?_eq_getElem (show 0<(ak p a).length by omega)];exact List.getElem_mem _)⟩)
   intro e0;rw [e0] at hpt
   cases hpt
  have hbx:=abY hne;have lT:∀ u∈kE (bP p X),aU u=true:=fun u hu=>by
   have hu:=(yI.out.Ru hdd u).1 hu;obtain ⟨d,hd,hu⟩:=List.mem_flatMap.1 hu;rw [NP] at hu;obtain ⟨a,ha,-,hp⟩:=yI.out.AY (hdd _ hd);rw [hp] at hu;exact yI.out.Le ha hu
  have hby:(-2097152<=(rH (kE (bP p X))).y0/\(rH (kE (bP p X))).y0<=2097152)/\(-2097152<=(rH (kE (bP p X))).y1/\(rH (kE (bP p X))).y1<=2097152):=by
   obtain ⟨u,hu,e⟩:=hbx.y0;obtain ⟨u',hu',e'⟩:=hbx.y1;have n1:=lT u hu;have n2:=lT u' hu';rw [xJ] at n1 n2;omega
  have hel:0<(kE (bP p X)).length:=List.length_pos_iff.2 hne;obtain ⟨E,hE⟩:∃ E,kE (bP p X)=E:=⟨_,rfl⟩;rw [hE] at yu hby hel;obtain ⟨bx,acf⟩:∃ bx,rH E=bx:=⟨_,rfl⟩;rw [acf] at yu hby;have qV:=Lib.hid yu;have HE:=Lib.hid hE;have nG:=Lib.hid acf;have HMd:=Lib.hid (fun W (hW:Below w2.heap.size w2 W) y=>asF V p W ((HPv.out.mono HB3.out).mono hW) yI.out gm f (aiU.out.keep hW) L[i+1] X hX (HRo.out W hW) (EI.out W hW) (Dn.out W hW) (lK.out W hW) hcy hal y);have BD:=Lib.hid (fun W B g k1 k2 hB h0 hw=>asL w2 gm p f aiU.out yI.out (aJ L[i+1].ov) L[i+1].out (HRo.out w2 (bR w2)) (by rw [hout];exact hdd) B g (by rw [hout];omega) k1 k2 W hB (.slice none 0 0) h0 hw);rw [hout] at BD;have hrow:=HA2.out.sl;obtain ⟨A2,c2,he,-,-,hRr⟩:=hrow;injection he with q1 q2 q3;subst q1 q3;clear q2;obtain ⟨bl,ol,hAe,hlb,c0,c1,NV,c3⟩:=hRr.ad NU;generalize L[i+1]=x at *;obtain ⟨tw,out,⟨oa,on,oc⟩,inn,⟨ia,jM,ic⟩,bK,⟨aa,an,ac⟩⟩:=x;unfold aJ at c1 NV c3 HMd BD;simp only at c0 c1 NV c3 HMd BD;subst hAe;have kl:(i:Int)+1<((aI p).length:Int)+1:=by omega
  have k0:0<=(i:Int)+1:=by omega
  obtain ⟨nO,hnO⟩:∃ nO,(aI p).length=nO:=⟨_,rfl⟩;rw [hnO] at kl ⊢;clear hXe hout hcy hkey hal hmem asO hdd yu hne hbx lT hE acf hnO hRr HL ace HQ HD NU;go_upto_region 8 with fail;obtain ⟨W3,hW⟩:∃ W:World,W=w2.alloc (.cells #[.slice none 0 0] 46):=⟨_,rfl⟩;have mV:aj W3 w2.heap.size 46 #[.slice none 0 0]:=by rw [hW];exact aj.made rfl _ _
  have hA:Below w2.heap.size w2 W3:=by rw [hW];exact bA (bR w2) _
  have rQ:=Lib.hid hA;have NJ:=Lib.hid (show E5 W3 W3.heap.size w2.heap.size [] (.slice none 0 0) from ⟨mV,Own.nil _ _ _ _ _⟩);have d1:=gU hA c1;have hl3:w2.heap.size<=W3.heap.size:=hA.size;rw [<- hW];clear hW hA mV;obtain ⟨g11,h11⟩:∃ g,w2.heap.size=g:=⟨_,rfl⟩;have WB:w2.heap.size<=g11:=by omega
  rw [h11] at NJ ⊢;clear h11;go_wp2_with fail;refine (BD.out W3 W3.heap.size g11 hl3 WB (Nat.le_refl _) NJ.out rQ.out).mono ?_;rintro e w4 ⟨rfl,asP⟩;obtain ⟨⟨vp,hpb⟩,-,hb4⟩:=asP;rw [HE.out] at hpb;obtain ⟨Ap,cp,hvp,-⟩:=hpb.own.sl;subst hvp;have mV:=hpb.box;have hrb:=fun W (hW:Below w4.heap.size w4 W)=>asG _ E W (Sl.mono hpb.own.sl hW) hel;rw [nG.out] at hrb;unfold Ib at hrb;have HRb:=Lib.hid hrb;have HB4:=Lib.hid hb4;clear hrb hpb hb4 BD NJ rQ d1 HE nG;obtain ⟨AO,AP,-⟩:=mV.ig;go_wp2_with fail;refine (HRb.out _ (bR w4)).mono ?_;rintro e w5 ⟨rfl,hb5⟩;obtain ⟨x0,y0,x1,y1⟩:=bx;simp only at hby ⊢;have dM:=Lib.hid (bT HB4.out hb5);clear hb5 HB4 HRb mV AO AP hel;go_upto_region 10 with fail;obtain ⟨W6,hW⟩:∃ W:World,W=w5.alloc (.cells #[.int .i64 x0,.int .i64 y0,.int .i64 x1,.int .i64 y1] 73):=⟨_,rfl⟩;have nK:aj W6 w5.heap.size 73 #[.int .i64 x0,.int .i64 y0,.int .i64 x1,.int .i64 y1]:=by rw [hW];exact aj.made rfl _ _
  have hA:Below w2.heap.size w2 W6:=by rw [hW];exact bA dM.out _
  have gZ:=Lib.hid hA;have bU:=Lib.hid (aiT.out.keep hA);have dI:=Lib.hid (Xf.out.keep hA);have EX:=Lib.hid nK;replace c0:=gU hA c0;replace c1:=gU hA c1;replace NV:=gU hA NV;replace c3:=gU hA c3;replace hlb:=Nat.lt_of_lt_of_le hlb hA.size;obtain ⟨g12,h12⟩:∃ g,w5.heap.size=g:=⟨_,rfl⟩;rw [<- hW];rw [h12] at nK EX ⊢;clear hW hA aiT Xf h12 dM;obtain ⟨qw,qx,qy,qA,NW,-,-,-,-⟩:=nK.oD;have km:IntKind.i64.wrap (y0+y1)=y0+y1:=IntWalk.i64_in _ (by omega);go_upto_block 0 with fail;obtain ⟨mid,hmid⟩:∃ mid,(y0+y1) / 2=mid:=⟨_,rfl⟩;have hmb:(-2097153<=mid/\mid<=2097153):=by omega
  have RJ:=Lib.hid hmid;simp only [hmid];clear hmid km nK qw qx qy qA NW;have DC:=Lib.hid c0;have HC1:=Lib.hid c1;have HC2:=Lib.hid NV;have HC3:=Lib.hid c3;clear c0 c1 NV c3;go_wp2_with fail;go_loopw [14,5] (fun d ok wr=>∃ D:Nat,d=.int .i64 D/\(∀ j,j<D->midD p (some X) y0 y1 mid j=none)/\ok=.bool false/\D<=4194310/\Below W6.heap.size W6 wr) (fun d _ _=>4194312-(intOf d).toNat)
  case atStart => exact ⟨0,rfl,fun j hj=>by omega,rfl,by omega,bR W6⟩
  case round =>
   obtain ⟨D,rfl,hno,rfl,hD,hbw⟩:=hrel;obtain ⟨wo,rfl⟩:∃ wo:World,wo=wr:=⟨_,rfl⟩;have qN:=Lib.hid hno;have iQ:=Lib.hid hbw;have nK:=EX.out.keep hbw;have k1:IntKind.i64.wrap (mid+D)=mid+D:=IntWalk.i64_in _ (by omega);have k2:IntKind.i64.wrap (mid-D)=mid-D:=IntWalk.i64_in _ (by omega);clear hno hbw
   try clear qw
   try clear qx
   try clear qy
   try clear qA
   try clear NW
   obtain ⟨qw,qx,qy,qA,NW,-,-,-,-⟩:=nK.oD;by_cases hc:mid+D<=y1\/y0<=mid-D
   ·have hDb:D<=4194308:=by omega
    go_upto_block 2 with fail
    all_goals
     clear nK qw qx qy qA NW;go_wp2_with fail;go_loopw [72,5] (fun j ok wr=>∃ J:Nat,J<=2/\j=.int .i64 J/\(1<=J->midRow p (some X) y0 y1 (mid+D)=none)/\(2<=J->midRow p (some X) y0 y1 (mid-D)=none)/\ok=.bool false/\Below W6.heap.size W6 wr) (fun j _ _=>2-(intOf j).toNat)
     case atStart => exact ⟨0,by omega,rfl,fun h=>by omega,fun h=>by omega,rfl,iQ.out⟩
     case round =>
      obtain ⟨J,hJ,rfl,hj1,hj2,rfl,hbv⟩:=hrel;obtain ⟨wv,rfl⟩:∃ wv:World,wv=wr:=⟨_,rfl⟩;have Xg:=Lib.hid hj1;have HJ2:=Lib.hid hj2;have yJ:=Lib.hid hbv;clear hj1 hj2 hbv;by_cases hlt:J<2
      ·have hyy:∃ yy,(∀ W,(Instr.index 116 (.agg #[.int .i64 (mid+D),.int .i64 (mid-D)]) (.int .i64 J)).run Tryz.prog W=.ok (.int .i64 yy) W)/\(yy=mid+D\/yy=mid-D)/\(midRow p (some X) y0 y1 yy=none->(1<=J+1->midRow p (some X) y0 y1 (mid+D)=none)/\(2<=J+1->midRow p (some X) y0 y1 (mid-D)=none))/\∀ u,midRow p (some X) y0 y1 yy=some u->midD p (some X) y0 y1 mid D=some u:=by
        have:J=0\/J=1:=by omega
        rcases this with rfl | rfl
        · exact ⟨mid+D,fun W=>(aiQ _ _ W).1,.inl rfl,fun h=>⟨fun _=>h,fun h=>by omega⟩,fun u hu=>by unfold midD;rw [hu];rfl⟩
        · exact ⟨mid-D,fun W=>(aiQ _ _ W).2,.inr rfl,fun h=>⟨fun _=>Xg.out (Nat.le_refl _),fun _=>h⟩,fun u hu=>by unfold midD;rw [Xg.out (Nat.le_refl _),hu];rfl⟩
       obtain ⟨yy,hI,hyb,hyn,hys⟩:=hyy;have RN:=Lib.hid hyn;have Xh:=Lib.hid hys;have avw:-6291465<=yy/\yy<=6291465:=by omega
       have nK:=EX.out.keep yJ.out;clear hyb hyn hys Xg HJ2
       try clear qw
       try clear qx
       try clear qy
       try clear qA
       try clear NW
       obtain ⟨qw,qx,qy,qA,NW,-,-,-,-⟩:=nK.oD;by_cases ho:yy<y0\/y1<yy
       ·have hr:=RN.out (Ry p (some X) ho);have HR1:=Lib.hid hr;clear hr RN Xh;go_wp2_with fail
        all_goals
         go_roundw
         case rel => exact ⟨J+1,by omega,by go_num,HR1.out.1,HR1.out.2,rfl,yJ.out⟩
         case measure => simp [intOf];omega
       ·have ho1:¬ yy<y0:=fun e=>ho (.inl e);have ho2:¬ y1<yy:=fun e=>ho (.inr e);have QS:=asy p (some X) ho;have hmd:=fun W (hW:Below wv.heap.size wv W)=>HMd.out W (bT gZ.out (bT yJ.out hW)) yy;rw [HVe.out] at hmd;unfold ab9 at hmd;rw [<- QS] at hmd;obtain ⟨res,hres⟩:∃ res,midRow p (some X) y0 y1 yy=res:=⟨_,rfl⟩;rw [hres] at hmd;have aiV:=Lib.hid hres;have X2:=bU.out.keep yJ.out;have X4:=dI.out.keep yJ.out;have avx:=Lib.hid X4;have c0:=gU yJ.out DC.out;have c1:=gU yJ.out HC1.out;have c2:=gU yJ.out HC2.out;have c3:=gU yJ.out HC3.out;have hlv:=Nat.lt_of_lt_of_le hlb yJ.out.size;have hbl:bl≠g4:=fun e=>by
         subst e;rw [X4.cell] at c1;generalize ol+(i+1)*4+1=k at c1
         match k,c1 with
         | 0,h=>simp at h
         | 1,h=>simp at h
         | k+2,h=>simp at h
        have avy:=hbl.symm;clear QS hres ho
        try clear cu
        try clear cO
        try clear dH
        try clear dZ
        obtain ⟨cu,cO,dH,dZ,-,-,-⟩:=X2.aY
        cases res with
        | none =>
         unfold Kr at hmd;have acg:=Lib.hid hmd;have hr:=RN.out aiV.out;have HR1:=Lib.hid hr;clear hmd hr RN Xh;go_upto_region 18 with fail;refine cZ (jH wv (some g4)) (.run 7 0 0 (.call 7 255 (.run 3 8 255 (.call 11 4095 (.take 12 8191 (.done)))))) (by kernel_rfl) (gD (gR _ _)) (by kernel_rfl) (by kernel_rfl) (Nat.le_of_ble_eq_true (by kernel_rfl)) ?_;intro dn QR au aC hS;replace X4:=X4.drew
         iterate 7
          apply jU;exact au;exact rfl;exact hS;exact rfl
          · intro _ hqc;go_simp;try rfl
          try simp only [pu]
         refine aW (i:=7) (aH au rfl) (fun K hK=>?_);have aA:=Lib.hid hS;clear hS;refine aN (aV rfl) ?_;go_simp;refine (acg.out _ (bD (bR wv))).mono ?_;rintro e bC ⟨rfl,bM⟩;have hS:jH wv (some g4) bC:=gB (w0:=wv) aA.out bM;clear aA
         try replace X4:=X4.keep bM
         refine hK.out _ _ hS (fun _=>?_);clear hK K
         try simp only [pu]
         iterate 3
          apply jU;exact au;exact rfl;exact hS;exact rfl
          · intro _ hqc;go_simp;try rfl
          try simp only [pu]
         refine aW (i:=11) (aH au rfl) (fun K hK=>?_);have aA:=Lib.hid hS;clear hS;refine aN (aV rfl) ?_;obtain ⟨dF,dG,fG,fH,jw⟩:=X4.bH;go_simp;refine hK.out _ _ (by first | exact gS aA.out _ _ | (unfold jH;have vI:World.grownBy _ _ _:=aA.out;repeat (first | with_reducible assumption | with_reducible exact World.grownBy.refl _ _ | with_reducible refine gS ?_ _ _ | with_reducible refine gD ?_ | with_reducible refine gA ?_ _))) (fun hS=>?_);clear hK K aA
         try simp only [pu]
         apply jU;exact au;exact rfl;exact hS;exact rfl
         · intro _ hqc;go_simp;try rfl
         try simp only [pu]
         refine bQ ?_;refine aC.down _ _ ?_;have hB:wv.grownBy _ (some g4):=hS;clear hS aC au;rw [aiP X4 (i:=0) (v:=.int .i64 0) rfl,aiP X4 (i:=1) (v:=.int .i64 0) rfl];have RP:=Lib.hid (bT yJ.out (bT (bD (bR wv)) bM));clear hB;go_wp2_with fail;go_roundw
         case rel => exact ⟨J+1,by omega,by go_num,HR1.out.1,HR1.out.2,rfl,RP.out⟩
         case measure => simp [intOf];omega
        | some u =>
         unfold Kr at hmd;have acg:=Lib.hid hmd;have hq:q=some u:=by
          rw [qV.out];exact asA p (some X) (D:=D) (by rw [RJ.out];exact qN.out) (by rw [RJ.out];exact Xh.out u aiV.out)
         have J6:=Lib.hid hq;clear hmd hq RN Xh;go_upto_region 18 with fail;refine cZ (jH wv (some g4)) (.run 7 0 0 (.call 7 255 (.run 3 8 255 (.call 11 4095 (.take 12 8191 (.done)))))) (by kernel_rfl) (gD (gR _ _)) (by kernel_rfl) (by kernel_rfl) (Nat.le_of_ble_eq_true (by kernel_rfl)) ?_;intro dn QR au aC hS;replace X4:=X4.drew
         iterate 7
          apply jU;exact au;exact rfl;exact hS;exact rfl
          · intro _ hqc;go_simp;try rfl
          try simp only [pu]
         refine aW (i:=7) (aH au rfl) (fun K hK=>?_);have aA:=Lib.hid hS;clear hS;refine aN (aV rfl) ?_;go_simp;refine (acg.out _ (bD (bR wv))).mono ?_;rintro e bC ⟨rfl,bM⟩;have hS:jH wv (some g4) bC:=gB (w0:=wv) aA.out bM;clear aA
         try replace X4:=X4.keep bM
         refine hK.out _ _ hS (fun _=>?_);clear hK K
         try simp only [pu]
         iterate 3
          apply jU;exact au;exact rfl;exact hS;exact rfl
          · intro _ hqc;go_simp;try rfl
          try simp only [pu]
         refine aW (i:=11) (aH au rfl) (fun K hK=>?_);have aA:=Lib.hid hS;clear hS;refine aN (aV rfl) ?_;obtain ⟨dF,dG,fG,fH,jw⟩:=X4.bH;go_simp;refine hK.out _ _ (by first | exact gS aA.out _ _ | (unfold jH;have vI:World.grownBy _ _ _:=aA.out;repeat (first | with_reducible assumption | with_reducible exact World.grownBy.refl _ _ | with_reducible refine gS ?_ _ _ | with_reducible refine gD ?_ | with_reducible refine gA ?_ _))) (fun hS=>?_);clear hK K aA
         try simp only [pu]
         apply jU;exact au;exact rfl;exact hS;exact rfl
         · intro _ hqc;go_simp;try rfl
         try simp only [pu]
         refine bQ ?_;refine aC.down _ _ ?_;have hB:wv.grownBy _ (some g4):=hS;clear hS aC au;have RP:=Lib.hid (bT yJ.out (bT (bD (bR wv)) bM));clear hB dF dG fG fH jw;have X4n:=aj.rW X4 (x0:=.int .i64 u.x) (x1:=.int .i64 u.y);obtain ⟨wz,hwz⟩:∃ wz:World,wz=(bC.setCell ⟨g4,0,none⟩ (.int .i64 u.x)).setCell ⟨g4,1,none⟩ (.int .i64 u.y):=⟨_,rfl⟩;have HBy:=Lib.hid (show Below w.heap.size w wz by rw [hwz];exact bS (p:=⟨g4,1,none⟩) (bS (p:=⟨g4,0,none⟩) (bT HB3.out (bT gZ.out RP.out)) hg4 _) hg4 _);rw [<- hwz] at X4n ⊢;clear hwz X4;have ach:=Lib.hid X4n;obtain ⟨dF,dG,fG,fH,jw⟩:=X4n.bH;go_wp2_with fail;refine uw (t:=39) (g:=g4) (cs:=#[.int .i64 u.x,.int .i64 u.y]) rfl Ik rfl rfl (aj.rW ach.out) ⟨by rw [J6.out];unfold Kr;congr 1,bS (p:=⟨g4,1,none⟩) (bS (p:=⟨g4,0,none⟩) HBy.out hg4 _) hg4 _⟩
      ·obtain rfl:J=2:=by omega
       have hd:=midD p (some X) y0 y1 mid D;have hn:midD p (some X) y0 y1 mid D=none:=by unfold midD;rw [Xg.out (by omega),HJ2.out (by omega)];rfl
       have vN:=Lib.hid (show ∀ j,j<D+1->midD p (some X) y0 y1 mid j=none from fun j hj=>by
        by_cases e:j=D
        · subst e;exact hn
        · exact qN.out j (by omega))
       clear hn hd;go_wp2_with fail;go_roundw
       case rel => exact ⟨D+1,by go_num,vN.out,rfl,by omega,yJ.out⟩
       case measure => simp [intOf];omega
   ·have hc1:¬ mid+D<=y1:=fun e=>hc (.inl e);have hc2:¬ y0<=mid-D:=fun e=>hc (.inr e);have hq:q=none:=by
     rw [qV.out];exact asz p (some X) (D:=D) (by rw [RJ.out];exact qN.out) (by rw [RJ.out];omega) (by rw [RJ.out];omega)
    have J6:=Lib.hid hq;have X4:=dI.out.keep iQ.out;have ach:=Lib.hid X4;clear hq hc
    try clear dF
    try clear dG
    try clear fG
    try clear fH
    try clear jw
    obtain ⟨dF,dG,fG,fH,jw⟩:=X4.bH;go_wp2_with fail;refine uw (t:=39) (g:=g4) (cs:=#[.int .i64 0,.int .i64 0]) rfl Ik rfl rfl (aj.rW ach.out) ⟨by rw [J6.out];rfl,bS (p:=⟨g4,1,none⟩) (bS (p:=⟨g4,0,none⟩) (bT HB3.out (bT gZ.out iQ.out)) hg4 _) hg4 _⟩
set_option maxRecDepth 100000 in
set_option maxHeartbeats 8000000 in
theorem asQ (v u:Value) (L L':List AD) (w:World) (hl:vM w v L) (hl':vM w u L') (he:L.map uh=L'.map uh):Calls Tryz.prog 20 #[v,u] w fun e w'=>e=.returned (.bool true)/\Below w.heap.size w w':=by
 have HS:=Lib.hid (fun (va ub:Value) (l:List Int) W (h:Ints W va l) (h':Ints W ub l)=>show Calls Tryz.prog 55 #[va,ub] W fun e w'=>e=.returned (.bool true)/\Below W.heap.size W w' from by
  have t:=aqA va ub l l W h h';rw [decide_eq_true rfl] at t;exact t)
 have hll:L.length=L'.length:=by simpa using congrArg List.length he
 have HAt:=Lib.hid (fun k (h1:k<L.length) (h2:k<L'.length)=>show uh L[k]=uh L'[k] from by
  have e1:(L.map uh)[k]'(by simpa using h1)=uh L[k]:=by rw [List.getElem_map]
  have e2:(L'.map uh)[k]'(by simpa using h2)=uh L'[k]:=by rw [List.getElem_map]
  rw [<- e1,<- e2];congr 1)
 have HL:=Lib.hid hl;have RQ:=Lib.hid hl';obtain ⟨A,c,rfl,h1,h2,-⟩:=hl.sl;obtain ⟨A',c',rfl,h1',h2',-⟩:=hl'.sl;unfold maxLen at h2;obtain ⟨n,hn⟩:∃ n,L.length=n:=⟨_,rfl⟩;have hn':L'.length=n:=hll.symm.trans hn;have HN:=Lib.hid hn;have HN':=Lib.hid hn';have hnb:n<=9223372036854775807:=by omega
 rw [hn,hn'];clear hl hl' he hll hn hn' h1 h2 h1' h2';go_enter Tryz.func20,Tryz.ntmps20;go_wp2_with fail;go_loopw [5] (fun i wr=>∃ k:Nat,k<=n/\i=.int .i64 k/\Below w.heap.size w wr) (fun i _=>n-(intOf i).toNat)
 case atStart => exact ⟨0,Nat.zero_le _,rfl,bR w⟩
 case round =>
  obtain ⟨k,hk,rfl,hb⟩:=hrel;obtain ⟨wo,rfl⟩:∃ wo:World,wo=wr:=⟨_,rfl⟩;have Hb:=Lib.hid hb;clear hb;by_cases hlt:k<n
  ·have k1:k<L.length:=by rw [HN.out];exact hlt
   have k2:k<L'.length:=by rw [HN'.out];exact hlt
   obtain ⟨A1,c1,e1,-,-,hR⟩:=(HL.out.mono Hb.out).sl;obtain ⟨A2,c2,e2,-,-,hR'⟩:=(RQ.out.mono Hb.out).sl;injection e1 with q1 q2 q3;subst q1 q3;clear q2;injection e2 with q1 q2 q3;subst q1 q3;clear q2;obtain ⟨b,o,hA,hlb,c0,c1,c2,c3⟩:=hR.ad k1;obtain ⟨b',o',hA',Cb,d0,d1,d2,d3⟩:=hR'.ad k2;subst hA hA';have hg:=HAt.out k k1 k2;have m1:=List.getElem_mem k1;have m2:=List.getElem_mem k2;have Ho:=Lib.hid (fun W (hW:Below wo.heap.size wo W)=>((HL.out.mono (bT Hb.out hW)).out _ m1));have Xi:=Lib.hid (fun W (hW:Below wo.heap.size wo W)=>((RQ.out.mono (bT Hb.out hW)).out _ m2));have Hi:=Lib.hid (fun W (hW:Below wo.heap.size wo W)=>((HL.out.mono (bT Hb.out hW)).inn _ m1));have Xj:=Lib.hid (fun W (hW:Below wo.heap.size wo W)=>((RQ.out.mono (bT Hb.out hW)).inn _ m2));have Hc:=Lib.hid (fun W (hW:Below wo.heap.size wo W)=>((HL.out.mono (bT Hb.out hW)).jk _ m1));have Hc':=Lib.hid (fun W (hW:Below wo.heap.size wo W)=>((RQ.out.mono (bT Hb.out hW)).jk _ m2));have Ha:=Lib.hid (fun W (hW:Below wo.heap.size wo W)=>((HL.out.mono (bT Hb.out hW)).bK _ m1));have Xk:=Lib.hid (fun W (hW:Below wo.heap.size wo W)=>((RQ.out.mono (bT Hb.out hW)).bK _ m2));generalize L[k]=x at *;generalize L'[k]=x' at *;obtain ⟨tw,out,⟨oa,on,oc⟩,inn,⟨ia,jM,ic⟩,bK,⟨aa,an,ac⟩⟩:=x;obtain ⟨tw',out',⟨oa',on',oc'⟩,NY,⟨ia',aa5,ic'⟩,avz,⟨aa',an',ac'⟩⟩:=x';unfold uh at hg;injection hg with g1 g2 g3 g4;simp only at g1 g2 g3 g4;subst g1 g2 g4;unfold aJ at c1 c2 c3 d1 d2 d3 Ho Xi Hi Xj Ha Xk;simp only at c0 c1 c2 c3 d0 d1 d2 d3 Ho Xi Hi Xj Ha Xk Hc Hc';obtain ⟨_,_,e1,hi1,hi2,-⟩:=Hi.out wo (bR wo);have hib:inn.length<=9223372036854775807:=by unfold maxLen at hi2;omega
   clear hi1 hi2;obtain ⟨_,_,e2,-,-,-⟩:=Xj.out wo (bR wo);injection e1 with q1 q2 q3;subst q1 q3;injection e2 with q1 q2' q3;subst q1 q3;have hil:NY.length=inn.length:=by simpa using (congrArg List.length g3).symm
   rw [hil] at q2';subst q2 q2';have HIl:=Lib.hid hil;have HG:=Lib.hid g3;have vg:=Lib.hid (fun W (hW:Below wo.heap.size wo W)=>HS.out _ _ out W (Ho.out W hW) (Xi.out W hW));have HSa:=Lib.hid (fun W (hW:Below wo.heap.size wo W)=>HS.out _ _ bK W (Ha.out W hW) (Xk.out W hW));have HC0:=Lib.hid c2;have HD0:=Lib.hid d2;have i1:0<=(k:Int):=by omega
   have i2:(k:Int)<n:=by omega
   have hnl:((inn.length:Int) != inn.length)=false:=by simp
   have htt:(tw != tw)=false:=by simp
   clear k1 k2 hR hR' m1 m2 g3 hil;go_upto_region 6 with fail;refine cZ (Since wo) (.run 22 0 0 (.call 22 8388607 (.run 13 23 8388607 (.call 36 137438953471 (.run 17 37 137438953471 (.done)))))) (by kernel_rfl) (bD (bR _)) (by kernel_rfl) (by kernel_rfl) (Nat.le_of_ble_eq_true (by kernel_rfl)) ?_;intro dn QR au aC hS
   iterate 12
    apply bn;exact au;exact rfl;exact hS;exact rfl
    · intro _ hqc;go_simp;try rfl
    try simp only [pu]
   iterate 10
    apply eF;exact au;exact rfl;exact hS;iterate 4 exact rfl
    · intro _ hqc;go_simp;try rfl
    try simp only [pu]
   refine aW (i:=22) (aH au rfl) (fun K hK=>?_);have aA:=Lib.hid hS;clear hS;refine aN (mJ rfl (aH au rfl) rfl rfl) ?_;go_simp;refine (vg.out _ (bT (bD (bR wo)) (bR _))).mono ?_;rintro e bC ⟨rfl,bM⟩;have hS:Since wo bC:=bT (w:=wo) aA.out bM;clear aA;refine hK.out _ _ hS (fun _=>?_);clear hK K
   try simp only [pu]
   apply eF;exact au;exact rfl;exact hS;iterate 4 exact rfl
   · intro _ hqc;go_simp;try rfl
   try simp only [pu]
   iterate 2
    apply bn;exact au;exact rfl;exact hS;exact rfl
    · intro _ hqc;go_simp;try rfl
    try simp only [pu]
   iterate 10
    apply eF;exact au;exact rfl;exact hS;iterate 4 exact rfl
    · intro _ hqc;go_simp;try rfl
    try simp only [pu]
   refine aW (i:=36) (aH au rfl) (fun K hK=>?_);have aA:=Lib.hid hS;clear hS;refine aN (mJ rfl (aH au rfl) rfl rfl) ?_;go_simp;refine (HSa.out _ (bT (bD (bR wo)) bM)).mono ?_;rintro e wr2 ⟨rfl,jr⟩;have hS:Since wo wr2:=bT (w:=wo) aA.out jr;clear aA;refine hK.out _ _ hS (fun _=>?_);clear hK K
   try simp only [pu]
   apply eF;exact au;exact rfl;exact hS;iterate 4 exact rfl
   · intro _ hqc;go_simp;try rfl
   try simp only [pu]
   iterate 2
    apply bn;exact au;exact rfl;exact hS;exact rfl
    · intro _ hqc;go_simp;try rfl
    try simp only [pu]
   iterate 13
    apply eF;exact au;exact rfl;exact hS;iterate 4 exact rfl
    · intro _ hqc;go_simp;try rfl
    try simp only [pu]
   apply bn;exact au;exact rfl;exact hS;exact rfl
   · intro _ hqc;go_simp;try rfl
   try simp only [pu]
   refine bQ ?_;refine aC.down _ _ ?_;have hB:Below wo.heap.size wo wr2:=hS;clear hS aC au;skip;have HB2:=Lib.hid hB;clear hB c0 c1 c2 c3 d0 d1 d2 d3 vg HSa Ho Xi Ha Xk hnl htt bM jr;replace c2:=gU HB2.out HC0.out;replace d2:=gU HB2.out HD0.out;have hlw:b<wr2.heap.size:=Nat.lt_of_lt_of_le hlb HB2.out.size;have asR:b'<wr2.heap.size:=Nat.lt_of_lt_of_le Cb HB2.out.size;go_upto_block 2 with fail;go_wp2_with fail;go_loopw [6] (fun j wr=>∃ J:Nat,J<=inn.length/\j=.int .i64 J/\Below wo.heap.size wo wr) (fun j _=>inn.length-(intOf j).toNat)
   case atStart => exact ⟨0,Nat.zero_le _,rfl,HB2.out⟩
   case round =>
    obtain ⟨J,hJ,rfl,hbv⟩:=hrel;obtain ⟨wv,rfl⟩:∃ wv:World,wv=wr:=⟨_,rfl⟩;have Hv:=Lib.hid hbv;replace c2:=gU hbv HC0.out;replace d2:=gU hbv HD0.out;replace hlw:=Nat.lt_of_lt_of_le hlb hbv.size;replace asR:=Nat.lt_of_lt_of_le Cb hbv.size;clear hbv HB2;by_cases hj:J<inn.length
    ·have hj':J<NY.length:=by rw [HIl.out];exact hj
     obtain ⟨A3,c3,e1,h13,-,hRi⟩:=Hi.out wv Hv.out;obtain ⟨A4,c4,e2,h14,-,aiW⟩:=Xj.out wv Hv.out;rw [HIl.out] at e2;injection e1 with q1 _ q3;injection e2 with q1' _ q3';subst q1 q3 q1' q3';obtain ⟨b3,o3,hA,hl3,e3⟩:=hRi.cy hj;obtain ⟨b4,o4,hA',hl4,e4⟩:=aiW.cy hj';subst hA hA';have hxe:inn[J].1=NY[J].1:=by
      have x1:(inn.map (·.1))[J]'(by simpa using hj)=inn[J].1:=by rw [List.getElem_map]
      have x2:(NY.map (·.1))[J]'(by simpa using hj')=NY[J].1:=by rw [List.getElem_map]
      rw [<- x1,<- x2];have hg:=HG.out;congr 1
     have Gf:=Lib.hid (fun W (hW:Below wv.heap.size wv W)=>HS.out _ _ inn[J].1 W (Hc.out W (bT Hv.out hW) _ (List.getElem_mem hj)) (by rw [hxe];exact Hc'.out W (bT Hv.out hW) _ (List.getElem_mem hj')));clear hxe hRi aiW;generalize inn[J]=z at *;generalize NY[J]=z' at *;clear hj';obtain ⟨zx,⟨za,zn,zc⟩⟩:=z;obtain ⟨zx',⟨za',zn',zc'⟩⟩:=z';unfold aJ at Gf;simp only at e3 e4 Gf;have i3:0<=(J:Int):=by omega
     have i4:(J:Int)<inn.length:=by omega
     go_upto_region 11 with fail;refine cZ (Since wv) (.run 16 0 0 (.call 16 131071 (.take 17 262143 (.done)))) (by kernel_rfl) (bD (bR _)) (by kernel_rfl) (by kernel_rfl) (Nat.le_of_ble_eq_true (by kernel_rfl)) ?_;intro dn QR au aC hS
     iterate 16
      apply bn;exact au;exact rfl;exact hS;exact rfl
      · intro _ hqc;go_simp;try rfl
      try simp only [pu]
     refine aW (i:=16) (aH au rfl) (fun K hK=>?_);have aA:=Lib.hid hS;clear hS;refine aN (aV rfl) ?_;go_simp;refine (Gf.out _ (bD (bR wv))).mono ?_;rintro e bC ⟨rfl,bM⟩;have hS:Since wv bC:=bT (w:=wv) aA.out bM;clear aA;refine hK.out _ _ hS (fun _=>?_);clear hK K
     try simp only [pu]
     apply bn;exact au;exact rfl;exact hS;exact rfl
     · intro _ hqc;go_simp;try rfl
     try simp only [pu]
     refine bQ ?_;refine aC.down _ _ ?_;have hB:Below wv.heap.size wv bC:=hS;clear hS aC au;go_wp2_with fail;go_roundw
     case rel => exact ⟨J+1,by omega,by go_num,bT Hv.out hB⟩
     case measure => simp [intOf];omega
    ·obtain rfl:J=inn.length:=by omega
     go_wp2_with fail;go_roundw
     case rel => exact ⟨k+1,by omega,by go_num,bT Hb.out Hv.out⟩
     case measure => simp [intOf];omega
  ·obtain rfl:k=n:=by omega
   go_wp2_with fail;go_ret;exact ⟨rfl,Hb.out⟩
def Kv:List Pt:=[⟨10,0⟩,⟨10,10⟩,⟨0,10⟩]
def E8:Pl:=⟨[⟨1,⟨0,0⟩⟩],[⟨1,1,1,Kv,1,0⟩],[1]⟩
def pl0:Pl:=⟨[],[],[]⟩
def exV (gn ga gf:Nat):Value:=.agg #[.slice (some ⟨gn,0,none⟩) 1 1,.slice (some ⟨ga,0,none⟩) 1 1,.slice (some ⟨gf,0,none⟩) 1 1]
def exN:Array Value:=#[.int .i64 1,.int .i64 0,.int .i64 0]
def aiX:Array Value:=#[.int .i64 10,.int .i64 0,.int .i64 10,.int .i64 10,.int .i64 0,.int .i64 10]
def Xl (gv nv cv:Nat) (left:Int):Array Value:=#[.int .i64 1,.int .i64 1,.int .i64 1,.slice (some ⟨gv,0,none⟩) nv cv,.int .i64 left,.int .i64 0]
def asT (w:World) (e:Ending) (w':World):Prop :=
 ∃ gn gv ga gf,e=.returned (exV gn ga gf)/\Below w.heap.size w w'/\(w.heap.size<=gn/\w.heap.size<=gv/\w.heap.size<=ga/\w.heap.size<=gf) /\
  aj w' gn 45 exN/\aj w' gv 39 aiX/\aj w' ga 50 (Xl gv 3 3 1)/\aj w' gf 3 #[.int .i64 1]
theorem dS.blocks {w:World} {vn va vf:Value} {p:Pl} {al:List (Ar×Value)} (hp:p.ah=al.map (·.1)) (hn:BO w vn p.nodes) (ha:Sl w va al.length (al.flatMap Ih)) (hv:Fj w al) (hf:Ints w vf p.faces):dS w (.agg #[vn,va,vf]) p :=
 ⟨vn,va,vf,al,rfl,hp,hn,⟨ha,hv⟩,hf⟩
theorem dS.zero (w:World):dS w (.agg #[.slice none 0 0,.slice none 0 0,.slice none 0 0]) pl0 :=
 dS.blocks (al:=[]) rfl (Sl.nil w) (Sl.nil w) (fun k hk=>by simp at hk) (Sl.nil w)
theorem Sl.pre {w:World} {g n c:Nat} {t:TypeId} {cs:Array Value} {xs:List Value} (h:aj w g t cs) (hx:∀ (j:Nat) (v:Value),xs[j]? = some v->cs[j]? = some v) (hn:n<=c) (hc:c<=maxLen):Sl w (.slice (some ⟨g,0,none⟩) n c) n xs :=
 ⟨_,c,rfl,hn,hc,fun _=>⟨g,0,rfl,h.lt,fun j v hj=>by rw [h.cell,Nat.zero_add];exact hx j v hj⟩⟩
theorem asU {w:World} {a:Ar} {u:Value} (h:gW w u a.via):Fj w [(a,u)]:=fun k hk=>by
 have:k=0:=by simpa using hk
 subst this;exact h
theorem dS.ex {w:World} {vn:Value} {l:List Nd} {a v f n c:Nat} {left:Int} {via:List Pt} (hn:BO w vn l) (ha:aj w a 50 (Xl v n c left)) (hv:gW w (.slice (some ⟨v,0,none⟩) n c) via) (hf:aj w f 3 #[.int .i64 1]) :
  dS w (.agg #[vn,.slice (some ⟨a,0,none⟩) 1 1,.slice (some ⟨f,0,none⟩) 1 1]) ⟨l,[⟨1,1,1,via,left,0⟩],[1]⟩ :=
 dS.blocks (al:=[(⟨1,1,1,via,left,0⟩,.slice (some ⟨v,0,none⟩) n c)]) rfl hn (Sl.lit (n:=1) ha rfl (fQ (by omega))) (asU hv) (Sl.lit (n:=1) hf rfl (fQ (by omega)))
theorem asV {w:World} {n:Nat} (h:aj w n 45 exN):BO w (.slice (some ⟨n,0,none⟩) 1 1) [⟨1,⟨0,0⟩⟩]:=Sl.lit (n:=1) h rfl (fQ (by omega))
theorem aci {w:World} {v:Nat} (h:aj w v 39 aiX):gW w (.slice (some ⟨v,0,none⟩) 3 3) Kv:=Sl.lit (n:=3) h rfl (fQ (by omega))
def rV:Pl:=⟨[⟨1,⟨0,0⟩⟩,⟨2,⟨5,5⟩⟩],[⟨1,1,1,Kv,1,0⟩],[1]⟩
def Kw:Pl:=⟨[⟨1,⟨0,0⟩⟩,⟨2,⟨5,5⟩⟩],[⟨1,1,1,Kv,0,0⟩],[1]⟩
theorem aiY:iV E8=0:=by decide +kernel
theorem asW:Hw E8 (sortK (aI E8))=[⟨0,[],[[-1]],[]⟩,⟨1,[1],[],[]⟩]:=by kernel_rfl
theorem asX:ou E8 ⟨5,5⟩=(0,1,0):=by decide +kernel
theorem asY:ou E8 ⟨10,5⟩=(2,1,0):=by decide +kernel
theorem asZ:wO E8 1=some ⟨5,5⟩:=by kernel_rfl
theorem as1:iV rV=0:=by decide +kernel
theorem as2:wO rV 1=some ⟨2,5⟩:=by kernel_rfl
theorem as3:iV Kw=12:=by decide +kernel
theorem as4:mQ (dK Kw)=0:=by decide +kernel
theorem as5:(aI (dK Kw)).length=1:=by decide +kernel
theorem as6:WE Kw=rV:=by kernel_rfl
set_option maxHeartbeats 1000000 in
theorem as7 (w:World):Calls Tryz.prog 48 #[] w (asT w):=by
 go_enter Tryz.func48,Tryz.ntmps48;go_wp2_with fail;refine Oi (t:=26) (g:=w.heap.size) (cs:=#[.slice (some ⟨w.heap.size+1,0,none⟩) 1 1,.slice (some ⟨w.heap.size+1+1+1,0,none⟩) 1 1,.slice (some ⟨w.heap.size+1+1+1+1,0,none⟩) 1 1]) rfl SA rfl rfl ?_ ⟨w.heap.size+1,w.heap.size+1+1,w.heap.size+1+1+1,w.heap.size+1+1+1+1,rfl,?_,by omega,?_,?_,?_,?_⟩
 · exact ((((aj.made rfl _ _).alloc _).alloc _).alloc _).alloc _
 · exact bA (bA (bA (bA (bA (bR w) _) _) _) _) _
 · exact (((aj.made (by simp) _ _).alloc _).alloc _).alloc _
 · exact ((aj.made (by simp) _ _).alloc _).alloc _
 · exact (aj.made (by simp) _ _).alloc _
 · exact aj.made (by simp) _ _
theorem Own.aiZ {α:Type} {w:World} {g n:Nat} {e:TypeId} {cs:Array Value} {base size:Nat} {f:α->List Value} {l:List α} (h:aj w g e cs) (hb:base<=g) (hn:n=l.length) (hl:(l.flatMap f).length=l.length*size) (hx:cs.toList=l.flatMap f) (hm:n<=maxLen):Own w base e size f (.slice (some ⟨g,0,none⟩) n n) l:=by
 subst hn;unfold Own;have hs:cs.size=l.length*size:=by rw [<- hl,<- hx];simp
 exact ⟨hl,.inr ⟨g,l.length,cs,rfl,hb,h,Nat.le_refl _,hm,hs,by rw [hx,<- hl];exact List.take_length⟩⟩
def acj (w:World):World:=(((w.alloc (.cells #[.int .i64 (-1)] 3)).alloc (.cells #[.slice (some ⟨w.heap.size,0,none⟩) 1 1] 24)).alloc (.cells #[.int .i64 1] 3)).alloc (.cells #[.int .i64 0,.slice none 0 0,.slice (some ⟨w.heap.size+1,0,none⟩) 1 1,.slice none 0 0,.int .i64 1,.slice (some ⟨w.heap.size+1+1,0,none⟩) 1 1,.slice none 0 0,.slice none 0 0] 62)
def NZ (w:World):List AD:=[⟨0,[],sv0,[([-1],⟨some ⟨w.heap.size,0,none⟩,1,1⟩)],⟨some ⟨w.heap.size+1,0,none⟩,1,1⟩,[],sv0⟩,⟨1,[1],⟨some ⟨w.heap.size+1+1,0,none⟩,1,1⟩,[],sv0,[],sv0⟩]
theorem ai0 (w:World):Below w.heap.size w (acj w):=bA (bA (bA (bA (bR w) _) _) _) _
theorem as8 (w:World):vM (acj w) (.slice (some ⟨w.heap.size+1+1+1,0,none⟩) 2 2) (NZ w):=by
 refine ⟨Sl.lit (n:=2) (aj.made (by simp) _ _) rfl (fQ (by omega)),fun x hx=>?_,fun x hx=>?_,fun x hx c hc=>?_,fun x hx=>?_⟩
 ·simp only [NZ,List.mem_cons,List.not_mem_nil,or_false] at hx;rcases hx with rfl | rfl
  · exact Sl.nil _
  · exact Sl.lit (n:=1) ((aj.made (by simp) _ _).alloc _) rfl (fQ (by omega))
 ·simp only [NZ,List.mem_cons,List.not_mem_nil,or_false] at hx;rcases hx with rfl | rfl
  · exact Sl.lit (n:=1) (((aj.made (by simp) _ _).alloc _).alloc _) rfl (fQ (by omega))
  · exact Sl.nil _
 ·simp only [NZ,List.mem_cons,List.not_mem_nil,or_false] at hx;rcases hx with rfl | rfl
  ·simp only [List.mem_cons,List.not_mem_nil,or_false] at hc;subst hc;exact Sl.lit (n:=1) ((((aj.made rfl _ _).alloc _).alloc _).alloc _) rfl (fQ (by omega))
  · cases hc
 ·simp only [NZ,List.mem_cons,List.not_mem_nil,or_false] at hx;rcases hx with rfl | rfl
  · exact Sl.nil _
  · exact Sl.nil _
set_option maxRecDepth 100000 in
set_option maxHeartbeats 8000000 in
theorem ai1 (w:World):Calls Tryz.prog 16 #[] w fun e w'=>e=.returned (.bool true)/\Below w.heap.size w w':=by
 have HE:=Lib.hid as7;go_enter Tryz.func16,Tryz.ntmps16;go_wp2_with fail;refine (HE.out _).mono ?_;rintro e w1 ⟨n1,v1,a1,f1,rfl,hb1,hx1,hn1,hv1,ha1,hf1⟩;unfold exV;have HB1:=Lib.hid hb1;have OB:=Lib.hid (dS.ex (asV hn1) ha1 (aci hv1) hf1);clear hb1 hn1 hv1 ha1 hf1 hx1;go_upto_region 2 with fail;obtain ⟨W2,hW⟩:∃ W:World,W=w1.alloc (.cells #[.slice (some ⟨n1,0,none⟩) 1 1,.slice (some ⟨a1,0,none⟩) 1 1,.slice (some ⟨f1,0,none⟩) 1 1] 26):=⟨_,rfl⟩;have X1:aj W2 w1.heap.size 26 #[.slice (some ⟨n1,0,none⟩) 1 1,.slice (some ⟨a1,0,none⟩) 1 1,.slice (some ⟨f1,0,none⟩) 1 1]:=by rw [hW];exact aj.made rfl _ _
 have hA:Below w1.heap.size w1 W2:=by rw [hW];exact bA (bR w1) _
 have HP2:=Lib.hid (OB.out.mono hA);have HB2:=Lib.hid (bT HB1.out hA);obtain ⟨g1,h1⟩:∃ g,w1.heap.size=g:=⟨_,rfl⟩;rw [<- hW];rw [h1] at X1 ⊢;clear hW hA h1 OB HB1;have fK:=Lib.hid X1;have HRg:=Lib.hid (fun W (hW:Below W2.heap.size W2 W)=>aqX _ E8 W (HP2.out.mono hW) aiY);have xk:=Lib.hid (fun u W (hW:Below W2.heap.size W2 W)=>WC _ E8 u W (HP2.out.mono hW));have qV:=Lib.hid (fun W (hW:Below W2.heap.size W2 W)=>Xe _ E8 1 W (HP2.out.mono hW) aiY);rw [asZ] at qV;have RS:=Lib.hid (xk.out ⟨5,5⟩);have HL2:=Lib.hid (xk.out ⟨10,5⟩);rw [asX] at RS;rw [asY] at HL2;replace RS:=Lib.hid (show ∀ W,Below W2.heap.size W2 W->Calls Tryz.prog 24 #[.agg #[.slice (some ⟨n1,0,none⟩) 1 1,.slice (some ⟨a1,0,none⟩) 1 1,.slice (some ⟨f1,0,none⟩) 1 1],.agg #[.int .i64 5,.int .i64 5]] W fun e w'=>e=.returned (.tuple #[.int .i64 0,.int .i64 1,.int .i64 0])/\Below W.heap.size W w' from RS.out);replace HL2:=Lib.hid (show ∀ W,Below W2.heap.size W2 W->Calls Tryz.prog 24 #[.agg #[.slice (some ⟨n1,0,none⟩) 1 1,.slice (some ⟨a1,0,none⟩) 1 1,.slice (some ⟨f1,0,none⟩) 1 1],.agg #[.int .i64 10,.int .i64 5]] W fun e w'=>e=.returned (.tuple #[.int .i64 2,.int .i64 1,.int .i64 0])/\Below W.heap.size W w' from HL2.out);replace qV:=Lib.hid (show ∀ W,Below W2.heap.size W2 W->Calls Tryz.prog 30 #[.agg #[.slice (some ⟨n1,0,none⟩) 1 1,.slice (some ⟨a1,0,none⟩) 1 1,.slice (some ⟨f1,0,none⟩) 1 1],.int .i64 1] W fun e w'=>e=.returned (.tuple #[.agg #[.int .i64 5,.int .i64 5],.bool true])/\Below W.heap.size W w' from qV.out);clear xk;obtain ⟨aO,aP,aS,aT,-,-,-⟩:=X1.aY;go_wp2_with fail;refine (HRg.out _ (bR W2)).mono ?_;rintro e w3 ⟨A,c,L,rfl,hb3,xB,hmap⟩;rw [asW] at hmap;have hll:L.length=2:=by simpa using congrArg List.length hmap
 rw [hll];rw [hll] at xB;have HAf:=Lib.hid xB;have abD:=Lib.hid hmap;have HB3:=Lib.hid hb3;clear hb3 xB hmap hll HRg X1 aO aP aS aT;have X1:=fK.out.keep HB3.out
 try clear aO
 try clear aP
 try clear aS
 try clear aT
 obtain ⟨aO,aP,aS,aT,-,-,-⟩:=X1.aY;go_wp2_with fail;refine (RS.out _ HB3.out).mono ?_;rintro e w4 ⟨rfl,hb4⟩;have HB4:=Lib.hid (bT HB3.out hb4);have ai2:=Lib.hid (HAf.out.mono hb4);clear hb4 HB3 HAf RS X1 aO aP aS aT;have X1:=fK.out.keep HB4.out
 try clear aO
 try clear aP
 try clear aS
 try clear aT
 obtain ⟨aO,aP,aS,aT,-,-,-⟩:=X1.aY;go_wp2_with fail;refine (HL2.out _ HB4.out).mono ?_;rintro e w5 ⟨rfl,hb5⟩;have dM:=Lib.hid (bT HB4.out hb5);have ai3:=Lib.hid (ai2.out.mono hb5);clear hb5 HB4 ai2 HL2 X1 aO aP aS aT;have X1:=fK.out.keep dM.out
 try clear aO
 try clear aP
 try clear aS
 try clear aT
 obtain ⟨aO,aP,aS,aT,-,-,-⟩:=X1.aY;go_wp2_with fail;refine (qV.out _ dM.out).mono ?_;rintro e w6 ⟨rfl,hb6⟩;have gZ:=Lib.hid (bT HB2.out (bT dM.out hb6));have ai4:=Lib.hid (ai3.out.mono hb6);clear hb6 dM ai3 qV X1 aO aP aS aT fK HP2 HB2;go_upto_region 6 with fail;obtain ⟨W7,hW⟩:∃ W:World,W=w6.alloc (.cells #[.int .i64 5,.int .i64 5] 39):=⟨_,rfl⟩;have dY:aj W7 w6.heap.size 39 #[.int .i64 5,.int .i64 5]:=by rw [hW];exact aj.made rfl _ _
 have hA:Below w6.heap.size w6 W7:=by rw [hW];exact bA (bR w6) _
 have as9:=Lib.hid (ai4.out.mono hA);have tJ:=Lib.hid (bT gZ.out hA);obtain ⟨g10,h10⟩:∃ g,w6.heap.size=g:=⟨_,rfl⟩;rw [<- hW];rw [h10] at dY ⊢;have xO:=Lib.hid dY;clear hW hA h10 ai4 gZ dY;go_wp2_with fail;refine (HE.out _).mono ?_;rintro e w8 ⟨n2,v2,a2,f2,rfl,hb8,hx8,hn2,hv2,ha2,hf2⟩;unfold exV;go_upto_region 7 with fail;obtain ⟨W9,hW⟩:∃ W:World,W=w8.alloc (.cells #[.slice (some ⟨n2,0,none⟩) 1 1,.slice (some ⟨a2,0,none⟩) 1 1,.slice (some ⟨f2,0,none⟩) 1 1] 26):=⟨_,rfl⟩;have hA:Below w8.heap.size w8 W9:=by rw [hW];exact bA (bR w8) _
 have T2:aj W9 w8.heap.size 26 #[.slice (some ⟨n2,0,none⟩) 1 1,.slice (some ⟨a2,0,none⟩) 1 1,.slice (some ⟨f2,0,none⟩) 1 1]:=by rw [hW];exact aj.made rfl _ _
 have vN:=Lib.hid (hn2.keep hA);have Xm:=Lib.hid (hv2.keep hA);have HA2:=Lib.hid (ha2.keep hA);have HF2:=Lib.hid (hf2.keep hA);have N7:=Lib.hid (bT hb8 hA);have hs8:=hb8.size;obtain ⟨g12,h12⟩:∃ g,w8.heap.size=g:=⟨_,rfl⟩;have hx9:W7.heap.size<=n2/\W7.heap.size<=v2/\W7.heap.size<=a2/\W7.heap.size<=f2/\W7.heap.size<=g12:=by omega
 rw [<- hW];rw [h12] at T2 ⊢;have HT2:=Lib.hid T2;clear hW hA h12 hb8 hn2 hv2 ha2 hf2 hx8 hs8;obtain ⟨T2l,T2a,T2b,T2c,ata,atb,atc⟩:=T2.aY;go_upto_region 8 with
  (at_builtin
   refine lq _ rfl (.tmp 44) (.tmp 47) _ rfl (base:=n2) acK Yh acL rfl (Own.aiZ (l:=[(⟨1,⟨0,0⟩⟩:Nd)]) (vN.out.alloc _) (Nat.le_refl _) rfl rfl rfl (fQ (by omega))) rfl (l2:=[(⟨2,⟨5,5⟩⟩:Nd)]) (Sl.lit (n:=1) (aj.made rfl _ _) rfl (fQ (by omega))) (by simp only [List.length_cons,List.length_nil];omega) (by simp only [List.length_cons,List.length_nil];omega) (by have:=vN.out.lt;simp;omega) ?_;intro v5 w5 iY hg5 rU;replace iY:Own w5 n2 45 3 vP v5 rV.nodes:=iY;have hs5:Sl w5 v5 2 (rV.nodes.flatMap vP):=Own.sl iY;obtain ⟨A5,c5,rfl,-,-,-⟩:=hs5;have uf:=Lib.hid iY;have Xn:=Lib.hid (show (W9.alloc (.cells #[.int .i64 2,.int .i64 5,.int .i64 5] 45)).grownBy w5 (some n2) from hg5);have T2n:=(HT2.out.alloc (.cells #[.int .i64 2,.int .i64 5,.int .i64 5] 45)).grown Xn.out (fun e=>aj.oC HT2.out vN.out (by decide) (Option.some.inj e));have acn:=Lib.hid T2n;clear T2 T2l T2a T2b T2c ata atb atc iY hg5 rU;obtain ⟨atd,ate,-,-,atf,-,-⟩:=T2n.aY;clear T2n)
 obtain ⟨uP,hW⟩:∃ W:World,W=w5.setCell ⟨g12,0,none⟩ (.slice A5 2 c5):=⟨_,rfl⟩;have hK:∀ g t cs,g≠n2->g≠g12->aj W9 g t cs->aj uP g t cs:=fun g t cs k1 k2 h=>by
  rw [hW];exact aj.far (aj.grown (h.alloc _) Xn.out (fun e=>k1 (Option.some.inj e))) k2 _
 have HNq:=Lib.hid (show Own uP n2 45 3 vP (.slice A5 2 c5) rV.nodes by
  rw [hW];exact uf.out.far (p:=⟨g12,0,none⟩) (Own.dU uf.out acn.out (by decide)) _)
 have HT:=Lib.hid (show aj uP g12 26 #[.slice A5 2 c5,.slice (some ⟨a2,0,none⟩) 1 1,.slice (some ⟨f2,0,none⟩) 1 1] by
  rw [hW];have:=acn.out.fC 0 (.slice A5 2 c5)
  simpa using this)
 have HV:=Lib.hid (hK _ _ _ (aj.oC Xm.out vN.out (by decide)) (aj.oC Xm.out HT2.out (by decide)) Xm.out);have HA:=Lib.hid (hK _ _ _ (aj.oC HA2.out vN.out (by decide)) (aj.oC HA2.out HT2.out (by decide)) HA2.out);have HF:=Lib.hid (hK _ _ _ (aj.oC HF2.out vN.out (by decide)) (aj.oC HF2.out HT2.out (by decide)) HF2.out);have N8:=Lib.hid (show Below W7.heap.size W7 uP by
  rw [hW];exact bS (p:=⟨g12,0,none⟩) (bG (bA N7.out _) Xn.out (fun k hk=>by have:=Option.some.inj hk;omega)) (by simp;omega) _)
 rw [<- hW];clear hW hK uf Xn acn Xm HA2 HF2 vN HT2 N7 atd ate atf;have NG:=Lib.hid (show dS uP (.agg #[.slice A5 2 c5,.slice (some ⟨a2,0,none⟩) 1 1,.slice (some ⟨f2,0,none⟩) 1 1]) rV from dS.ex (Own.sl HNq.out) HA.out (aci HV.out) HF.out);have pX:=Lib.hid (Xe _ rV 1 uP NG.out as1);rw [as2] at pX;replace pX:=Lib.hid (show Calls Tryz.prog 30 #[.agg #[.slice A5 2 c5,.slice (some ⟨a2,0,none⟩) 1 1,.slice (some ⟨f2,0,none⟩) 1 1],.int .i64 1] uP fun e w'=>e=.returned (.tuple #[.agg #[.int .i64 2,.int .i64 5],.bool true])/\Below uP.heap.size uP w' from pX.out);have nK:=HT.out;obtain ⟨qw,qx,qy,qA,-,-,-⟩:=nK.aY;go_wp2_with fail;refine pX.out.mono ?_;rintro e yY ⟨rfl,rE⟩;have Xo:=Lib.hid rE;clear rE pX NG nK qw qx qy qA;go_upto_region 9 with fail;obtain ⟨W11,hW⟩:∃ W:World,W=yY.alloc (.cells #[.int .i64 2,.int .i64 5] 39):=⟨_,rfl⟩;have hA:Below uP.heap.size uP W11:=by rw [hW];exact bA Xo.out _
 have xQ:aj W11 yY.heap.size 39 #[.int .i64 2,.int .i64 5]:=by rw [hW];exact aj.made rfl _ _
 obtain ⟨g13,h13⟩:∃ g,yY.heap.size=g:=⟨_,rfl⟩;rw [<- hW];rw [h13] at xQ ⊢;have EO:=Lib.hid xQ;have Xp:=Lib.hid (HT.out.keep hA);have aco:=Lib.hid (HNq.out.keep hA);have acp:=Lib.hid (HV.out.keep hA);have Ic:=Lib.hid (HA.out.keep hA);have acr:=Lib.hid (HF.out.keep hA);have ai5:=Lib.hid (bT N8.out hA);clear hW hA h13 HT HNq HV HA HF N8 Xo;have nK:=Xp.out;have XA:=Ic.out;unfold Xl at XA
 try clear qw
 try clear qx
 try clear qy
 try clear qA
 obtain ⟨qw,qx,qy,qA,-,-,-⟩:=nK.aY;obtain ⟨XAl,XAa,XAb,XAc,XAd,XAe,XAf,atg,ath,ati,atj,atl,atm⟩:=XA.kZ;go_upto_region 10 with fail;obtain ⟨dh,hW⟩:∃ W:World,W=W11.setCell ⟨a2,4,none⟩ (.int .i64 0):=⟨_,rfl⟩;have acs:=Lib.hid (show aj dh g12 26 _ by rw [hW];exact Xp.out.far (p:=⟨a2,4,none⟩) (aj.oC Xp.out Ic.out (by decide)) _);have ai6:=Lib.hid (show aj dh g13 39 _ by rw [hW];exact EO.out.far (p:=⟨a2,4,none⟩) (aj.oC EO.out Ic.out (by decide)) _);have atn:=Lib.hid (show Below W7.heap.size W7 dh by rw [hW];exact bS (p:=⟨a2,4,none⟩) ai5.out (by simp;omega) _);have ai7:=Lib.hid (show dS dh (.agg #[.slice A5 2 c5,.slice (some ⟨a2,0,none⟩) 1 1,.slice (some ⟨f2,0,none⟩) 1 1]) Kw by
  rw [hW];refine dS.ex (v:=v2) (n:=3) (c:=3) (Own.sl (aco.out.far (p:=⟨a2,4,none⟩) (Own.dU aco.out Ic.out (by decide)) _)) ?_ (aci (acp.out.far (p:=⟨a2,4,none⟩) (aj.oC acp.out Ic.out (by decide)) _)) (acr.out.far (p:=⟨a2,4,none⟩) (aj.oC acr.out Ic.out (by decide)) _);have:=Ic.out.fC 4 (.int .i64 0)
  unfold Xl at this ⊢;simpa using this)
 rw [<- hW];clear hW Xp EO aco acp Ic acr ai5 xQ nK qw qx qy qA XA XAl XAa XAb XAc XAd XAe XAf atg ath ati atj atl atm;have HLb:=Lib.hid (show Calls Tryz.prog 21 #[.agg #[.slice A5 2 c5,.slice (some ⟨a2,0,none⟩) 1 1,.slice (some ⟨f2,0,none⟩) 1 1]] dh (ah0 dh rV) from (arK _ Kw dh ai7.out ⟨by show 2<=100000;omega,by show 1<=100000;omega,fun a ha=>by
   have e:a=⟨1,1,1,Kv,0,0⟩:=List.mem_singleton.1 ha;subst e
   show 3<=100000
   omega⟩ as4).mono (fun e w' h=>by
  rcases h with ⟨h64,-⟩ | ⟨-,h⟩
  · rw [as5] at h64;omega
  · rw [as6] at h;exact h))
 have kH:=Lib.hid (fun W (hW:Below dh.heap.size dh W)=>V9 _ Kw W (ai7.out.mono hW));rw [as3] at kH;have nK:=acs.out
 try clear qw
 try clear qx
 try clear qy
 try clear qA
 obtain ⟨qw,qx,qy,qA,-,-,-⟩:=nK.aY;go_wp2_with fail;refine HLb.out.mono ?_;rintro e N9 ⟨An,cn,Aa,ca,Af,cf,bl,rfl,ai8,hpo⟩;have har:=hpo.jq;have heq:[(⟨1,1,1,Kv,1,0⟩:Ar)]=bl.map (·.1):=hpo.eq.symm;obtain ⟨z,hbl⟩:∃ z,bl=[z]:=by
  cases bl with
  | nil=>simp at heq
  | cons z l =>
   cases l with
   | nil=>exact ⟨z,rfl⟩
   | cons _ _=>simp at heq
 subst hbl;have hz:z.1=⟨1,1,1,Kv,1,0⟩:=by simpa using heq.symm
 obtain ⟨ba,oa,zG,hla,-,-,-,-,y4,y5⟩:=Row.at6 (Own.afO har) (k:=0) (by simp);simp only [List.getElem_cons_zero,hz,Nat.zero_mul,Nat.add_zero] at y4 y5;subst zG;have ai9:=Lib.hid ai8;have Xq:=Lib.hid y4;have JH:=Lib.hid y5;clear ai8 hpo har heq hz y4 y5 HLb nK qw qx qy qA;go_upto_region 11 with fail;obtain ⟨Ie,hW⟩:∃ W:World,W=N9.alloc (.cells #[.slice An rV.nodes.length cn,.slice (some ⟨ba,oa,none⟩) rV.ah.length ca,.slice Af rV.faces.length cf] 26):=⟨_,rfl⟩;have AQ:aj Ie N9.heap.size 26 #[.slice An rV.nodes.length cn,.slice (some ⟨ba,oa,none⟩) rV.ah.length ca,.slice Af rV.faces.length cf]:=by rw [hW];exact aj.made rfl _ _
 have hA:Below N9.heap.size N9 Ie:=by rw [hW];exact bA (bR N9) _
 replace Xq:=Lib.hid (gU hA Xq.out);replace JH:=Lib.hid (gU hA JH.out);have Oa:=Lib.hid (bT ai9.out hA);have Xr:=Lib.hid (bT atn.out Oa.out);obtain ⟨g15,h15⟩:∃ g,N9.heap.size=g:=⟨_,rfl⟩;rw [<- hW];rw [h15] at AQ ⊢;have VN:=Lib.hid AQ;have avA:=Nat.lt_of_lt_of_le hla hA.size;clear hW hA h15 ai9;have dY:=xO.out.keep Xr.out;have xQ:=ai6.out.keep Oa.out;have nK:=acs.out.keep Oa.out;have y4:=Xq.out;have y5:=JH.out;have aja:=as9.out.mono Xr.out;have hS:=fun (W:World) (h:vM W (.slice A 2 c) L) (L':List AD) (u:Value) (h':vM W u L') (he:L.map uh=L'.map uh)=>asQ (.slice A 2 c) u L L' W h h' he;have ato:=Lib.hid aja;have HS:=Lib.hid hS;clear aja hS;have Xt:rV.ah.length=1:=rfl;have Xu:rV.nodes.length=2:=rfl;have Xv:rV.faces.length=1:=rfl;rw [Xt,Xu,Xv] at AQ;rw [Xt,Xu,Xv] at VN
 try rw [Xt,Xu,Xv]
 clear Xt Xu Xv;obtain ⟨kL,kM,kN,-,-⟩:=dY.bH;obtain ⟨OW,OX,OY,-,-⟩:=xQ.bH
 try clear qw
 try clear qx
 try clear qy
 try clear qA
 obtain ⟨qw,qx,qy,qA,-,-,-⟩:=nK.aY;obtain ⟨OZ,O1,O4,WR,-,-,-⟩:=AQ.aY;go_wp2_with fail;refine (HS.out (acj Ie) (ato.out.mono (ai0 Ie)) (NZ Ie) (.slice (some ⟨Ie.heap.size+1+1+1,0,none⟩) 2 2) (as8 Ie) (abD.out.trans rfl)).mono ?_;rintro e w20 ⟨rfl,ajb⟩;have EZ:=Lib.hid (bT (ai0 Ie) ajb);clear ajb dY kL kM kN xQ OW OX OY nK qw qx qy qA AQ OZ O1 O4 WR y4 y5;have dY:=(xO.out.keep Xr.out).keep EZ.out;have xQ:=(ai6.out.keep Oa.out).keep EZ.out;have nK:=(acs.out.keep Oa.out).keep EZ.out
 try clear kL
 try clear kM
 try clear kN
 obtain ⟨kL,kM,kN,-,-⟩:=dY.bH
 try clear OW
 try clear OX
 try clear OY
 obtain ⟨OW,OX,OY,-,-⟩:=xQ.bH
 try clear qw
 try clear qx
 try clear qy
 try clear qA
 obtain ⟨qw,qx,qy,qA,-,-,-⟩:=nK.aY;go_wp2_with fail;refine (kH.out _ (bT Oa.out EZ.out)).mono ?_;rintro e w21 ⟨rfl,ajc⟩;have Xw:=Lib.hid (bT EZ.out ajc);clear ajc dY kL kM kN xQ OW OX OY nK qw qx qy qA;have AQ:=VN.out.keep Xw.out;have y4:=gU Xw.out Xq.out;have y5:=gU Xw.out JH.out
 try clear OZ
 try clear O1
 try clear O4
 try clear WR
 obtain ⟨OZ,O1,O4,WR,-,-,-⟩:=AQ.aY;go_wp2_with fail;go_ret;exact ⟨rfl,bT tJ.out (bT Xr.out Xw.out)⟩
end Go.Proofs.YtialfdomhoojiaaGreat
