import Derived.Test.YtialfdomhoojiaaGreatRegWR
set_option linter.unusedSimpArgs false
set_option linter.unusedVariables false
set_option maxRecDepth 100000
set_option maxHeartbeats 8000000
namespace Go.Proofs.YtialfdomhoojiaaGreat
open Go.RowKit
theorem ams (a b:Int) (W:World):(Instr.index 116 (.agg #[.int .i64 a,.int .i64 b]) (.int .i64 0)).run Tryz.prog W=.ok (.int .i64 a) W/\(Instr.index 116 (.agg #[.int .i64 a,.int .i64 b]) (.int .i64 1)).run Tryz.prog W=.ok (.int .i64 b) W:=⟨FC,FC⟩
theorem azu (v:Value) (p:Pl) (fc:Int) (w:World) (h:Cb w v p) (hv:Eu p≠0):Calls Tryz.prog 30 #[v,.int .i64 fc] w fun e w'=>e=.returned (qP none)/\AP w w':=by
 have HC:=AA (fun W (hW:AP w W)=>af0 v p W (h.mono hW) hv);obtain ⟨vn,va,vf,al,rfl,-⟩:=h;generalize Eu p=z at *;have hb:(z != 0)=true:=by simpa using hv
 clear hv;go_enter Tryz.func30,Tryz.ntmps30;go_upto_region 1 with fail;obtain ⟨W1,hW⟩:∃ W:World,W=(w.alloc (.cells #[vn,va,vf] 26)).alloc (.cells #[.int .i64 0,.int .i64 0] 39):=⟨_,rfl⟩;have X2:AO W1 w.heap.size 26 #[vn,va,vf]:=by rw [hW];exact (AO.made rfl _ _).alloc _
 have X4:AO W1 (w.heap.size+1) 39 #[.int .i64 0,.int .i64 0]:=by rw [hW];exact AO.made Aw _ _
 have HB1:=AA (show AP w W1 by rw [hW];exact bA (bA (bR w) _) _);have DJ:=AA X4;rw [<- hW];clear hW X4;obtain ⟨BQ,BR,BX,CZ,-,-,-⟩:=X2.BF;go_wp2_with fail;refine (HC.out _ HB1.out).mono ?_;rintro e w1 ⟨rfl,hb1⟩;have HB2:=AA (bT HB1.out hb1);have X4:=DJ.out.keep hb1;have D8:=AA X4;clear hb1 HC X2 BQ BR BX CZ;obtain ⟨Bh,Bl,CV,Dl,Ey⟩:=X4.BN;go_wp2_with fail;refine LG (t:=39) (g:=w.heap.size+1) (cs:=#[.int .i64 0,.int .i64 0]) rfl XB rfl rfl (AO.QI D8.out) ⟨rfl,bS (p:=⟨w.heap.size+1,1,none⟩) (bS (p:=⟨w.heap.size+1,0,none⟩) HB2.out Aw _) Aw _⟩
theorem amu (v:Value) (p:Pl) (fc:Int) (w:World) (h:Cb w v p) (hv:Eu p=0):Calls Tryz.prog 30 #[v,.int .i64 fc] w fun e w'=>e=.returned (qP (kT p fc))/\AP w w':=by
 obtain ⟨hvv,hfb⟩:=qA hv;have hf:=aeF.1 hfb;have Hix:=AA (awx hf fc);have HC:=AA (fun W (hW:AP w W)=>aa4 v p W (h.mono hW) hv);have HPv:=AA h;have Tt:=AA hvv;have hol:(Bj p).length<=512:=Dn (LY _ _) hvv.QY;obtain ⟨q,hq⟩:=BL (kT p fc);rw [hq];have HQ:=AA hq;obtain ⟨_,_,_,al,rfl,-,⟨An,cn,rfl,-⟩,⟨⟨Aa,ca,rfl,-⟩,-⟩,⟨Af,cf,rfl,-⟩⟩:=h;obtain ⟨V,hV⟩:=BO (.agg #[.slice An p.nodes.length cn,.slice Aa al.length ca,.slice Af p.faces.length cf]:Value);rw [<- hV] at HPv;have HVe:=AA hV;generalize p.nodes.length=nn at *;generalize al.length=na at *;generalize p.faces.length=nf at *;clear hq hV hvv hfb hv hf;go_enter Tryz.func30,Tryz.ntmps30;go_upto_region 1 with fail;obtain ⟨W1,hW⟩:∃ W:World,W=(w.alloc (.cells #[.slice An nn cn,.slice Aa na ca,.slice Af nf cf] 26)).alloc (.cells #[.int .i64 0,.int .i64 0] 39):=⟨_,rfl⟩;have X2:AO W1 w.heap.size 26 #[.slice An nn cn,.slice Aa na ca,.slice Af nf cf]:=by rw [hW];exact (AO.made rfl _ _).alloc _
 have X4:AO W1 (w.heap.size+1) 39 #[.int .i64 0,.int .i64 0]:=by rw [hW];exact AO.made Aw _ _
 have HB1:=AA (show AP w W1 by rw [hW];exact bA (bA (bR w) _) _);rw [<- hW];clear hW;obtain ⟨g4,h4⟩:∃ g,w.heap.size+1=g:=⟨_,rfl⟩;have hg4:w.heap.size<=g4:=by omega
 rw [h4] at X4 ⊢;obtain ⟨g2,h2⟩:∃ g,w.heap.size=g:=⟨_,rfl⟩;rw [h2] at X2 ⊢;have CG:=AA X2;have DJ:=AA X4;have n24:g2≠g4:=by omega
 have n42:g4≠g2:=by omega
 clear h4 h2 X4;obtain ⟨BQ,BR,BX,CZ,-,-,-⟩:=X2.BF;go_wp2_with fail;refine (HC.out _ HB1.out).mono ?_;rintro e w1 ⟨A,c,L,A',c',gm,f,rfl,hb1,P6,hfi,hdv,htw,hpm,hgm,-⟩;have HB2:=AA (bT HB1.out hb1);have hll:L.length=(Bj p).length+1:=hdv.len;rw [hll] at hfi;have HIx:=AA (fun W (hW:AP w1 W)=>aii _ _ fc W (hfi.mono hW));have amv:=AA (CG.out.keep hb1);have amw:=AA (DJ.out.keep hb1);have HA:=AA P6;have HD:=AA hdv;have Jr:=AA hpm;have HL:=AA hll;rw [<- hll] at HIx;clear hb1 HC X2 BQ BR BX CZ CG DJ HB1 P6 hfi hdv htw hpm hgm hll;go_wp2_with fail;refine (HIx.out _ (bR w1)).mono ?_;rintro e w2 ⟨rfl,hb2⟩;have HB3:=AA (bT HB2.out hb2);have amx:=AA (amv.out.keep hb2);have abM:=AA (amw.out.keep hb2);have HA2:=AA (HA.out.mono hb2);have amy:=AA (Jr.out.keep hb2);rw [HL.out];clear hb2 HIx amv amw HA Jr HB2;have hix:=Hix.out;clear Hix;rcases hix with ⟨i,hi,hz,yU⟩ | ⟨hz,yU⟩
 case inr =>
  have hq:=HQ.out;unfold kT at hq;rw [yU] at hq;have jd:=AA (show q=none from hq.symm);generalize YI _ fc=z at *;have X4:=abM.out;clear hq HQ yU;obtain ⟨Bh,Bl,CV,Dl,Ey⟩:=X4.BN;go_wp2_with fail;refine LG (t:=39) (g:=g4) (cs:=#[.int .i64 0,.int .i64 0]) rfl XB rfl rfl (AO.QI abM.out) ⟨by rw [jd.out];rfl,bS (p:=⟨g4,1,none⟩) (bS (p:=⟨g4,0,none⟩) HB3.out hg4 _) hg4 _⟩
 case inl =>
  rw [hz];have afe:=AA yU;have kz:¬ (i:Int)+1<1:=by omega
  clear hz yU;go_upto_region 7 with fail;have qQ:i+1<L.length:=by rw [HL.out];omega
  have hX:(Bj p)[i]∈Bj p:=BH hi;obtain ⟨X,hXe⟩:=BL ((Bj p)[i]);have hout:=HD.out.aP qQ AB;have hcy:=HD.out.aaj qQ;have hkey:Lp (Bj p) (i+1)=some X:=by rw [Ut AB AB];simp only [Ze];rw [hXe]
  unfold MP at hcy;rw [hkey] at hcy;have hal:L[i+1].CU=ak p (some X):=by rw [HD.out.CU (i+1) qQ,hkey];rfl
  simp only [Ze] at hout;rw [hXe] at hout hX afe;have hmem:=BH qQ;have HR:=AA (fun W (hW:AP w2 W)=>(HA2.out.mono hW).sl);have aa2:=AA (fun W (hW:AP w2 W)=>(HA2.out.mono hW).out _ hmem);have RV:=AA (fun W (hW:AP w2 W)=>(HA2.out.mono hW).inn _ hmem);have NH:=AA (fun W (hW:AP w2 W)=>(HA2.out.mono hW).Gi _ hmem);have Gu:=AA (fun W (hW:AP w2 W)=>(HA2.out.mono hW).CU _ hmem);have awy:(DV p X).length<=33280:=by
   have h1:=Tt.out.amA (b:=some X) (Gn _ (Gs hX));have h2:=am6 (DV p) (l:=Jq p (some X)) (a:=X) Ea;unfold Gz at h1;omega
  have hdd:=(Tt.out.Gy (Nl.1 hX).1).2;have OT:kT p fc=aBk p (some X) (Ou (Kv (DV p X))).y0 (Ou (Kv (DV p X))).y1:=by unfold kT;rw [afe.out]
  rw [HQ.out] at OT;have hne:Kv (DV p X)≠[]:=by
   have hh:=Tt.out.awQ (Nl.1 hX).1;obtain ⟨a,ha,-,hp⟩:=Tt.out.Tq (hdd _ hh);have hl:=Eh p a;have hpt:(AV p a).getD 0 AY∈Kv (DV p X):=(Tt.out.am2 hdd _).2 (GY.2 ⟨_,hh,(aek _ _ _).2 (by
    rw [hp,Fj,DK (show 0<(AV p a).length by omega)];exact BH _)⟩)
   intro e0;rw [e0] at hpt
   cases hpt
  have hbx:=axI hne;have Np:∀ u∈Kv (DV p X),Bg u=true:=fun u hu=>by
   have hu:=(Tt.out.am2 hdd u).1 hu;obtain ⟨d,hd,hu⟩:=GY.1 hu;rw [aek] at hu;obtain ⟨a,ha,-,hp⟩:=Tt.out.Tq (hdd _ hd);rw [hp] at hu;exact Tt.out.wF ha hu
  have hby:(-2097152<=(Ou (Kv (DV p X))).y0/\(Ou (Kv (DV p X))).y0<=2097152)/\(-2097152<=(Ou (Kv (DV p X))).y1/\(Ou (Kv (DV p X))).y1<=2097152):=by
   obtain ⟨u,hu,e⟩:=hbx.y0;obtain ⟨u',hu',e'⟩:=hbx.y1;have n1:=Np u hu;have n2:=Np u' hu';rw [Qq] at n1 n2;omega
  have hel:0<(Kv (DV p X)).length:=fV.2 hne;obtain ⟨E,hE⟩:=BL (Kv (DV p X));rw [hE] at OT hby hel;obtain ⟨bx,aff⟩:=BL (Ou E);rw [aff] at OT hby;have NT:=AA OT;have HE:=AA hE;have LP:=AA aff;have HMd:=AA (fun W (hW:AP w2 W) y=>awp V p W ((HPv.out.mono HB3.out).mono hW) Tt.out gm f (amy.out.keep hW) L[i+1] X hX (aa2.out W hW) (RV.out W hW) (NH.out W hW) (Gu.out W hW) hcy hal y);have WZ:=AA (fun W B g k1 k2 hB h0 hw=>awv w2 gm p f amy.out Tt.out (BJ L[i+1].ov) L[i+1].out (aa2.out w2 (bR w2)) (by rw [hout];exact hdd) B g (by rw [hout];omega) k1 k2 W hB (.slice none 0 0) h0 hw);rw [hout] at WZ;have hrow:=HA2.out.sl;obtain ⟨A2,c2,he,-,-,hRr⟩:=hrow;injection he with q1 q2 q3;subst q1 q3;clear q2;obtain ⟨bl,ol,hAe,hlb,c0,c1,qR,c3⟩:=hRr.ad qQ;generalize L[i+1]=x at *;obtain ⟨tw,out,⟨oa,on,oc⟩,inn,⟨ia,FY,ic⟩,CU,⟨aa,an,ac⟩⟩:=x;unfold BJ at c1 qR c3 HMd WZ;simp only at c0 c1 qR c3 HMd WZ;subst hAe;have kl:(i:Int)+1<((Bj p).length:Int)+1:=by omega
  have k0:0<=(i:Int)+1:=by omega
  obtain ⟨nO,hnO⟩:=BL ((Bj p).length);rw [hnO] at kl ⊢;clear hXe hout hcy hkey hal hmem awy hdd OT hne hbx Np hE aff hnO hRr HL afe HQ HD qQ;go_upto_region 8 with fail;obtain ⟨W3,hW⟩:∃ W:World,W=w2.alloc (.cells #[.slice none 0 0] 46):=⟨_,rfl⟩;have LD:AO W3 w2.heap.size 46 #[.slice none 0 0]:=by rw [hW];exact AO.made rfl _ _
  have hA:AP w2 W3:=by rw [hW];exact bA (bR w2) _
  have IY:=AA hA;have qI:=AA (show Zb W3 W3.heap.size w2.heap.size [] (.slice none 0 0) from ⟨LD,Own.nil _ _ _ _ _⟩);have d1:=Dv hA c1;have hl3:w2.heap.size<=W3.heap.size:=hA.size;rw [<- hW];clear hW hA LD;obtain ⟨g11,h11⟩:∃ g,w2.heap.size=g:=⟨_,rfl⟩;have abI:w2.heap.size<=g11:=by omega
  rw [h11] at qI ⊢;clear h11;go_wp2_with fail;refine (WZ.out W3 W3.heap.size g11 hl3 abI (DT _) qI.out IY.out).mono ?_;rintro e w4 ⟨rfl,awz⟩;obtain ⟨⟨vp,hpb⟩,-,hb4⟩:=awz;rw [HE.out] at hpb;obtain ⟨Ap,cp,hvp,-⟩:=hpb.own.sl;subst hvp;have LD:=hpb.box;have hrb:=fun W (hW:AP w4 W)=>awq _ E W (Sl.mono hpb.own.sl hW) hel;rw [LP.out] at hrb;unfold eP at hrb;have HRb:=AA hrb;have HB4:=AA hb4;clear hrb hpb hb4 WZ qI IY d1 HE LP;obtain ⟨VP,VQ,-⟩:=LD.Fa;go_wp2_with fail;refine (HRb.out _ (bR w4)).mono ?_;rintro e w5 ⟨rfl,hb5⟩;obtain ⟨x0,y0,x1,y1⟩:=bx;simp only at hby ⊢;have CW:=AA (bT HB4.out hb5);clear hb5 HB4 HRb LD VP VQ hel;go_upto_region 10 with fail;obtain ⟨W6,hW⟩:∃ W:World,W=w5.alloc (.cells #[.int .i64 x0,.int .i64 y0,.int .i64 x1,.int .i64 y1] 73):=⟨_,rfl⟩;have LU:AO W6 w5.heap.size 73 #[.int .i64 x0,.int .i64 y0,.int .i64 x1,.int .i64 y1]:=by rw [hW];exact AO.made rfl _ _
  have hA:AP w2 W6:=by rw [hW];exact bA CW.out _
  have Eb:=AA hA;have CG:=AA (amx.out.keep hA);have DJ:=AA (abM.out.keep hA);have Q9:=AA LU;replace c0:=Dv hA c0;replace c1:=Dv hA c1;replace qR:=Dv hA qR;replace c3:=Dv hA c3;replace hlb:=L9 hlb hA.size;obtain ⟨g12,h12⟩:∃ g,w5.heap.size=g:=⟨_,rfl⟩;rw [<- hW];rw [h12] at LU Q9 ⊢;clear hW hA amx abM h12 CW;obtain ⟨O8,O4,O5,O6,qU,-,-,-,-⟩:=LU.MC;have km:IntKind.i64.wrap (y0+y1)=y0+y1:=Ci _ AB;go_upto_block 0 with fail;obtain ⟨mid,hmid⟩:=BL ((y0+y1) / 2);have hmb:(-2097153<=mid/\mid<=2097153):=by omega
  have yV:=AA hmid;simp only [hmid];clear hmid km LU O8 O4 O5 O6 qU;have Ny:=AA c0;have fB:=AA c1;have HC2:=AA qR;have HC3:=AA c3;clear c0 c1 qR c3;go_wp2_with fail;go_loopw [14,5] (fun d ok wr=>∃ D:Nat,d=.int .i64 D/\(∀ j,j<D->midD p (some X) y0 y1 mid j=none)/\ok=.bool false/\D<=4194310/\AP W6 wr) (fun d _ _=>4194312-(intOf d).toNat)
  case atStart => exact ⟨0,rfl,fun j hj=>by omega,rfl,AB,bR W6⟩
  case round =>
   obtain ⟨D,rfl,hno,rfl,hD,hbw⟩:=hrel;obtain ⟨wo,rfl⟩:=BO wr;have Hg:=AA hno;have EY:=AA hbw;have LU:=Q9.out.keep hbw;have k1:IntKind.i64.wrap (mid+D)=mid+D:=Ci _ AB;have k2:IntKind.i64.wrap (mid-D)=mid-D:=Ci _ AB;clear hno hbw
   try clear O8 O4 O5 O6 qU
   obtain ⟨O8,O4,O5,O6,qU,-,-,-,-⟩:=LU.MC;by_cases hc:mid+D<=y1\/y0<=mid-D
   ·have hDb:D<=4194308:=by omega
    go_upto_block 2 with fail
    all_goals
     clear LU O8 O4 O5 O6 qU;go_wp2_with fail;go_loopw [72,5] (fun j ok wr=>∃ J:Nat,J<=2/\j=.int .i64 J/\(1<=J->midRow p (some X) y0 y1 (mid+D)=none)/\(2<=J->midRow p (some X) y0 y1 (mid-D)=none)/\ok=.bool false/\AP W6 wr) (fun j _ _=>2-(intOf j).toNat)
     case atStart => exact ⟨0,AB,rfl,fun h=>by omega,fun h=>by omega,rfl,EY.out⟩
     case round =>
      obtain ⟨J,hJ,rfl,hj1,hj2,rfl,hbv⟩:=hrel;obtain ⟨wv,rfl⟩:=BO wr;have HJ1:=AA hj1;have HJ2:=AA hj2;have Kz:=AA hbv;clear hj1 hj2 hbv;by_cases hlt:J<2
      ·have hyy:∃ yy,(∀ W,(Instr.index 116 (.agg #[.int .i64 (mid+D),.int .i64 (mid-D)]) (.int .i64 J)).run Tryz.prog W=.ok (.int .i64 yy) W)/\(yy=mid+D\/yy=mid-D)/\(midRow p (some X) y0 y1 yy=none->(1<=J+1->midRow p (some X) y0 y1 (mid+D)=none)/\(2<=J+1->midRow p (some X) y0 y1 (mid-D)=none))/\∀ u,midRow p (some X) y0 y1 yy=some u->midD p (some X) y0 y1 mid D=some u:=by
        have:J=0\/J=1:=by omega
        rcases this with rfl | rfl
        · exact ⟨mid+D,fun W=>(ams _ _ W).1,.inl rfl,fun h=>⟨fun _=>h,fun h=>by omega⟩,fun u hu=>by unfold midD;rw [hu];rfl⟩
        · exact ⟨mid-D,fun W=>(ams _ _ W).2,.inr rfl,fun h=>⟨fun _=>HJ1.out (DT _),fun _=>h⟩,fun u hu=>by unfold midD;rw [HJ1.out (DT _),hu];rfl⟩
       obtain ⟨yy,hI,hyb,hyn,hys⟩:=hyy;have yX:=AA hyn;have HYs:=AA hys;have azv:-6291465<=yy/\yy<=6291465:=by omega
       have LU:=Q9.out.keep Kz.out;clear hyb hyn hys HJ1 HJ2
       try clear O8 O4 O5 O6 qU
       obtain ⟨O8,O4,O5,O6,qU,-,-,-,-⟩:=LU.MC;by_cases ho:yy<y0\/y1<yy
       ·have hr:=yX.out (zN p (some X) ho);have HR1:=AA hr;clear hr yX HYs;go_wp2_with fail
        all_goals
         go_roundw
         case rel => exact ⟨J+1,AB,BI,HR1.out.1,HR1.out.2,rfl,Kz.out⟩
         case measure => exact BK
       ·have ho1:¬ yy<y0:=fun e=>ho (.inl e);have ho2:¬ y1<yy:=fun e=>ho (.inr e);have fH:=awj p (some X) ho;have hmd:=fun W (hW:AP wv W)=>HMd.out W (bT Eb.out (bT Kz.out hW)) yy;rw [HVe.out] at hmd;unfold afc at hmd;rw [<- fH] at hmd;obtain ⟨res,hres⟩:=BL (midRow p (some X) y0 y1 yy);rw [hres] at hmd;have an0:=AA hres;have X2:=CG.out.keep Kz.out;have X4:=DJ.out.keep Kz.out;have azw:=AA X4;have c0:=Dv Kz.out Ny.out;have c1:=Dv Kz.out fB.out;have c2:=Dv Kz.out HC2.out;have c3:=Dv Kz.out HC3.out;have hlv:=L9 hlb Kz.out.size;have hbl:bl≠g4:=fun e=>by
         subst e;rw [X4.cell] at c1;generalize ol+(i+1)*4+1=k at c1
         match k,c1 with
         | 0,h=>simp at h
         | 1,h=>simp at h
         | k+2,h=>simp at h
        have azx:=hbl.symm;clear fH hres ho
        try clear BQ BR BX CZ
        obtain ⟨BQ,BR,BX,CZ,-,-,-⟩:=X2.BF
        cases res with
        | none =>
         unfold qP at hmd;have afg:=AA hmd;have hr:=yX.out an0.out;have HR1:=AA hr;clear hmd hr yX HYs;go_upto_region 18 with fail;refine Vp (wv) (some g4) (.run 7 0 0 (.call 7 255 (.run 3 8 255 (.call 11 4095 (.take 12 8191 (.done)))))) fun Bv QR Ae Ah hS=>?_;replace X4:=X4.drew
         iterate 7 refine Aj ?_
         refine FD (afg.out _ (bD (bR wv))) ?_;clear hS;intro Bq Bf hS
         try replace X4:=X4.keep Bf
         iterate 3 refine Aj ?_
         refine BP ?_;clear hS;intro K hK AQ;obtain ⟨Bh,Bl,CV,Dl,Ey⟩:=X4.BN;go_simp;refine hK.out _ _ (by first | exact gS AQ.out _ _ | (unfold JI;have QW:World.grownBy _ _ _:=AQ.out;repeat (first | with_reducible assumption | with_reducible exact World.grownBy.refl _ _ | with_reducible refine gS ?_ _ _ | with_reducible refine gD ?_ | with_reducible refine gA ?_ _))) (fun hS=>?_);clear hK K AQ
         try simp only [pu]
         refine Aj ?_;refine Ry ?_;clear hS Ah Ae;intro hB;rw [amr X4 (i:=0) (v:=.int .i64 0) rfl,amr X4 (i:=1) (v:=.int .i64 0) rfl];have HBz:=AA (bT Kz.out (bT (bD (bR wv)) Bf));clear hB;go_wp2;go_roundw
         case rel => exact ⟨J+1,AB,BI,HR1.out.1,HR1.out.2,rfl,HBz.out⟩
         case measure => exact BK
        | some u =>
         unfold qP at hmd;have afg:=AA hmd;have hq:q=some u:=by
          rw [NT.out];exact awl p (some X) (D:=D) (by rw [yV.out];exact Hg.out) (by rw [yV.out];exact HYs.out u an0.out)
         have jd:=AA hq;clear hmd hq yX HYs;go_upto_region 18 with fail;refine Vp (wv) (some g4) (.run 7 0 0 (.call 7 255 (.run 3 8 255 (.call 11 4095 (.take 12 8191 (.done)))))) fun Bv QR Ae Ah hS=>?_;replace X4:=X4.drew
         iterate 7 refine Aj ?_
         refine FD (afg.out _ (bD (bR wv))) ?_;clear hS;intro Bq Bf hS
         try replace X4:=X4.keep Bf
         iterate 3 refine Aj ?_
         refine BP ?_;clear hS;intro K hK AQ;obtain ⟨Bh,Bl,CV,Dl,Ey⟩:=X4.BN;go_simp;refine hK.out _ _ (by first | exact gS AQ.out _ _ | (unfold JI;have QW:World.grownBy _ _ _:=AQ.out;repeat (first | with_reducible assumption | with_reducible exact World.grownBy.refl _ _ | with_reducible refine gS ?_ _ _ | with_reducible refine gD ?_ | with_reducible refine gA ?_ _))) (fun hS=>?_);clear hK K AQ
         try simp only [pu]
         refine Aj ?_;refine Ry ?_;clear hS Ah Ae;intro hB;have HBz:=AA (bT Kz.out (bT (bD (bR wv)) Bf));clear hB Bh Bl CV Dl Ey;have X4n:=AO.QI X4 (x0:=.int .i64 u.x) (x1:=.int .i64 u.y);obtain ⟨wz,hwz⟩:=BO ((Bq.setCell ⟨g4,0,none⟩ (.int .i64 u.x)).setCell ⟨g4,1,none⟩ (.int .i64 u.y));have aCp:=AA (show AP w wz by rw [hwz];exact bS (p:=⟨g4,1,none⟩) (bS (p:=⟨g4,0,none⟩) (bT HB3.out (bT Eb.out HBz.out)) hg4 _) hg4 _);rw [<- hwz] at X4n ⊢;clear hwz X4;have afh:=AA X4n;obtain ⟨Bh,Bl,CV,Dl,Ey⟩:=X4n.BN;go_wp2_with fail;refine LG (t:=39) (g:=g4) (cs:=#[.int .i64 u.x,.int .i64 u.y]) rfl XB rfl rfl (AO.QI afh.out) ⟨by rw [jd.out];unfold qP;congr 1,bS (p:=⟨g4,1,none⟩) (bS (p:=⟨g4,0,none⟩) aCp.out hg4 _) hg4 _⟩
      ·obtain rfl:J=2:=by omega
       have hd:=midD p (some X) y0 y1 mid D;have hn:midD p (some X) y0 y1 mid D=none:=by unfold midD;rw [HJ1.out AB,HJ2.out AB];rfl
       have QH:=AA (show ∀ j,j<D+1->midD p (some X) y0 y1 mid j=none from fun j hj=>by
        by_cases e:j=D
        · subst e;exact hn
        · exact Hg.out j AB)
       clear hn hd;go_wp2;go_roundw
       case rel => exact ⟨D+1,BI,QH.out,rfl,AB,Kz.out⟩
       case measure => exact BK
   ·have hc1:¬ mid+D<=y1:=fun e=>hc (.inl e);have hc2:¬ y0<=mid-D:=fun e=>hc (.inr e);have hq:q=none:=by
     rw [NT.out];exact awk p (some X) (D:=D) (by rw [yV.out];exact Hg.out) (by rw [yV.out];omega) (by rw [yV.out];omega)
    have jd:=AA hq;have X4:=DJ.out.keep EY.out;have afh:=AA X4;clear hq hc
    try clear Bh Bl CV
    try clear Dl Ey
    obtain ⟨Bh,Bl,CV,Dl,Ey⟩:=X4.BN;go_wp2_with fail;refine LG (t:=39) (g:=g4) (cs:=#[.int .i64 0,.int .i64 0]) rfl XB rfl rfl (AO.QI afh.out) ⟨by rw [jd.out];rfl,bS (p:=⟨g4,1,none⟩) (bS (p:=⟨g4,0,none⟩) (bT HB3.out (bT Eb.out EY.out)) hg4 _) hg4 _⟩
theorem an1 (v u:Value) (L L':List AD) (w:World) (hl:Nw w v L) (hl':Nw w u L') (he:L.map Lu=L'.map Lu):Calls Tryz.prog 20 #[v,u] w fun e w'=>e=.returned (.bool true)/\AP w w':=by
 have HS:=AA (fun (va ub:Value) (l:List Int) W (h:Ints W va l) (h':Ints W ub l)=>show Calls Tryz.prog 55 #[va,ub] W fun e w'=>e=.returned (.bool true)/\AP W w' from by
  have t:=akk va ub l l W h h';rw [JE rfl] at t;exact t)
 have hll:L.length=L'.length:=by simpa using congrArg List.length he
 have HAt:=AA (fun k (h1:k<L.length) (h2:k<L'.length)=>show Lu L[k]=Lu L'[k] from by
  have e1:(L.map Lu)[k]'(by simpa using h1)=Lu L[k]:=by rw [Gq]
  have e2:(L'.map Lu)[k]'(by simpa using h2)=Lu L'[k]:=by rw [Gq]
  rw [<- e1,<- e2];congr 1)
 have HL:=AA hl;have eU:=AA hl';obtain ⟨A,c,rfl,h1,h2,-⟩:=hl.sl;obtain ⟨A',c',rfl,h1',h2',-⟩:=hl'.sl;unfold maxLen at h2;obtain ⟨n,hn⟩:=BL L.length;have hn':L'.length=n:=hll.symm.trans hn;have HN:=AA hn;have HN':=AA hn';have hnb:n<=9223372036854775807:=by omega
 rw [hn,hn'];clear hl hl' he hll hn hn' h1 h2 h1' h2';go_enter Tryz.func20,Tryz.ntmps20;go_wp2_with fail;go_loopw [5] (fun i wr=>∃ k:Nat,k<=n/\i=.int .i64 k/\AP w wr) (fun i _=>n-(intOf i).toNat)
 case atStart => exact ⟨0,BZ _,rfl,bR w⟩
 case round =>
  obtain ⟨k,hk,rfl,hb⟩:=hrel;obtain ⟨wo,rfl⟩:=BO wr;have Hb:=AA hb;clear hb;by_cases hlt:k<n
  ·have k1:k<L.length:=by rw [HN.out];exact hlt
   have k2:k<L'.length:=by rw [HN'.out];exact hlt
   obtain ⟨A1,c1,e1,-,-,hR⟩:=(HL.out.mono Hb.out).sl;obtain ⟨A2,c2,e2,-,-,hR'⟩:=(eU.out.mono Hb.out).sl;injection e1 with q1 q2 q3;subst q1 q3;clear q2;injection e2 with q1 q2 q3;subst q1 q3;clear q2;obtain ⟨b,o,hA,hlb,c0,c1,c2,c3⟩:=hR.ad k1;obtain ⟨b',o',hA',Rz,d0,d1,d2,d3⟩:=hR'.ad k2;subst hA hA';have hg:=HAt.out k k1 k2;have m1:=BH k1;have m2:=BH k2;have Ho:=AA (fun W (hW:AP wo W)=>((HL.out.mono (bT Hb.out hW)).out _ m1));have Ho':=AA (fun W (hW:AP wo W)=>((eU.out.mono (bT Hb.out hW)).out _ m2));have Hi:=AA (fun W (hW:AP wo W)=>((HL.out.mono (bT Hb.out hW)).inn _ m1));have Hi':=AA (fun W (hW:AP wo W)=>((eU.out.mono (bT Hb.out hW)).inn _ m2));have Hc:=AA (fun W (hW:AP wo W)=>((HL.out.mono (bT Hb.out hW)).Gi _ m1));have Hc':=AA (fun W (hW:AP wo W)=>((eU.out.mono (bT Hb.out hW)).Gi _ m2));have Ha:=AA (fun W (hW:AP wo W)=>((HL.out.mono (bT Hb.out hW)).CU _ m1));have Ha':=AA (fun W (hW:AP wo W)=>((eU.out.mono (bT Hb.out hW)).CU _ m2));generalize L[k]=x at *;generalize L'[k]=x' at *;obtain ⟨tw,out,⟨oa,on,oc⟩,inn,⟨ia,FY,ic⟩,CU,⟨aa,an,ac⟩⟩:=x;obtain ⟨tw',out',⟨oa',on',oc'⟩,pR,⟨ia',adt,ic'⟩,azy,⟨aa',an',ac'⟩⟩:=x';unfold Lu at hg;injection hg with g1 g2 g3 g4;simp only at g1 g2 g3 g4;subst g1 g2 g4;unfold BJ at c1 c2 c3 d1 d2 d3 Ho Ho' Hi Hi' Ha Ha';simp only at c0 c1 c2 c3 d0 d1 d2 d3 Ho Ho' Hi Hi' Ha Ha' Hc Hc';obtain ⟨_,_,e1,hi1,hi2,-⟩:=Hi.out wo (bR wo);have hib:inn.length<=9223372036854775807:=by unfold maxLen at hi2;omega
   clear hi1 hi2;obtain ⟨_,_,e2,-,-,-⟩:=Hi'.out wo (bR wo);injection e1 with q1 q2 q3;subst q1 q3;injection e2 with q1 q2' q3;subst q1 q3;have hil:pR.length=inn.length:=by simpa using (congrArg List.length g3).symm
   rw [hil] at q2';subst q2 q2';have HIl:=AA hil;have HG:=AA g3;have PZ:=AA (fun W (hW:AP wo W)=>HS.out _ _ out W (Ho.out W hW) (Ho'.out W hW));have HSa:=AA (fun W (hW:AP wo W)=>HS.out _ _ CU W (Ha.out W hW) (Ha'.out W hW));have V8:=AA c2;have HD0:=AA d2;have i1:0<=(k:Int):=by omega
   have i2:(k:Int)<n:=by omega
   have hnl:((inn.length:Int) != inn.length)=false:=by simp
   have htt:(tw != tw)=false:=by simp
   clear k1 k2 hR hR' m1 m2 g3 hil;go_upto_region 6 with fail;refine Cj (wo) (.run 22 0 0 (.call 22 8388607 (.run 13 23 8388607 (.call 36 137438953471 (.run 17 37 137438953471 (.done)))))) fun Bv QR Ae Ah hS=>?_
   iterate 12 refine Aj ?_
   iterate 10 refine Dh ?_
   refine FD (PZ.out _ (bT (bD (bR wo)) (bR _))) ?_;clear hS;intro Bq Bf hS;refine Dh ?_
   iterate 2 refine Aj ?_
   iterate 10 refine Dh ?_
   refine FD (HSa.out _ (bT (bD (bR wo)) Bf)) ?_;clear hS;intro wr2 FT hS;refine Dh ?_
   iterate 2 refine Aj ?_
   iterate 13 refine Dh ?_
   refine Aj ?_;refine Ce ?_;clear hS Ah Ae;intro hB;skip;have HB2:=AA hB;clear hB c0 c1 c2 c3 d0 d1 d2 d3 PZ HSa Ho Ho' Ha Ha' hnl htt Bf FT;replace c2:=Dv HB2.out V8.out;replace d2:=Dv HB2.out HD0.out;have hlw:b<wr2.heap.size:=L9 hlb HB2.out.size;have ax0:b'<wr2.heap.size:=L9 Rz HB2.out.size;go_upto_block 2 with fail;go_wp2_with fail;go_loopw [6] (fun j wr=>∃ J:Nat,J<=inn.length/\j=.int .i64 J/\AP wo wr) (fun j _=>inn.length-(intOf j).toNat)
   case atStart => exact ⟨0,BZ _,rfl,HB2.out⟩
   case round =>
    obtain ⟨J,hJ,rfl,hbv⟩:=hrel;obtain ⟨wv,rfl⟩:=BO wr;have Hv:=AA hbv;replace c2:=Dv hbv V8.out;replace d2:=Dv hbv HD0.out;replace hlw:=L9 hlb hbv.size;replace ax0:=L9 Rz hbv.size;clear hbv HB2;by_cases hj:J<inn.length
    ·have hj':J<pR.length:=by rw [HIl.out];exact hj
     obtain ⟨A3,c3,e1,h13,-,hRi⟩:=Hi.out wv Hv.out;obtain ⟨A4,c4,e2,h14,-,an2⟩:=Hi'.out wv Hv.out;rw [HIl.out] at e2;injection e1 with q1 _ q3;injection e2 with q1' _ q3';subst q1 q3 q1' q3';obtain ⟨b3,o3,hA,hl3,e3⟩:=hRi.cy hj;obtain ⟨b4,o4,hA',hl4,e4⟩:=an2.cy hj';subst hA hA';have hxe:inn[J].1=pR[J].1:=by
      have x1:(inn.map (·.1))[J]'(by simpa using hj)=inn[J].1:=by rw [Gq]
      have x2:(pR.map (·.1))[J]'(by simpa using hj')=pR[J].1:=by rw [Gq]
      rw [<- x1,<- x2];have hg:=HG.out;congr 1
     have Ux:=AA (fun W (hW:AP wv W)=>HS.out _ _ inn[J].1 W (Hc.out W (bT Hv.out hW) _ (BH hj)) (by rw [hxe];exact Hc'.out W (bT Hv.out hW) _ (BH hj')));clear hxe hRi an2;generalize inn[J]=z at *;generalize pR[J]=z' at *;clear hj';obtain ⟨zx,⟨za,zn,zc⟩⟩:=z;obtain ⟨zx',⟨za',zn',zc'⟩⟩:=z';unfold BJ at Ux;simp only at e3 e4 Ux;have i3:0<=(J:Int):=by omega
     have i4:(J:Int)<inn.length:=by omega
     go_upto_region 11 with fail;refine Cj (wv) (.run 16 0 0 (.call 16 131071 (.take 17 262143 (.done)))) fun Bv QR Ae Ah hS=>?_
     iterate 16 refine Aj ?_
     refine FD (Ux.out _ (bD (bR wv))) ?_;clear hS;intro Bq Bf hS;refine Aj ?_;refine Ce ?_;clear hS Ah Ae;intro hB;go_wp2;go_roundw
     case rel => exact ⟨J+1,AB,BI,bT Hv.out hB⟩
     case measure => exact BK
    ·obtain rfl:J=inn.length:=by omega
     go_wp2;go_roundw
     case rel => exact ⟨k+1,AB,BI,bT Hb.out Hv.out⟩
     case measure => exact BK
  ·obtain rfl:k=n:=by omega
   go_wp2;go_ret;exact ⟨rfl,Hb.out⟩
def lF:List Pt:=[⟨10,0⟩,⟨10,10⟩,⟨0,10⟩]
def Zc:Pl:=⟨[⟨1,⟨0,0⟩⟩],[⟨1,1,1,lF,1,0⟩],[1]⟩
def exV (gn ga gf:Nat):Value:=.agg #[.slice (some ⟨gn,0,none⟩) 1 1,.slice (some ⟨ga,0,none⟩) 1 1,.slice (some ⟨gf,0,none⟩) 1 1]
def exN:Array Value:=#[.int .i64 1,.int .i64 0,.int .i64 0]
def an3:Array Value:=#[.int .i64 10,.int .i64 0,.int .i64 10,.int .i64 10,.int .i64 0,.int .i64 10]
def abN (gv nv cv:Nat) (left:Int):Array Value:=#[.int .i64 1,.int .i64 1,.int .i64 1,.slice (some ⟨gv,0,none⟩) nv cv,.int .i64 left,.int .i64 0]
def ax1 (w:World) (e:Ending) (w':World):Prop :=
 ∃ gn gv ga gf,e=.returned (exV gn ga gf)/\AP w w'/\(w.heap.size<=gn/\w.heap.size<=gv/\w.heap.size<=ga/\w.heap.size<=gf) /\
  AO w' gn 45 exN/\AO w' gv 39 an3/\AO w' ga 50 (abN gv 3 3 1)/\AO w' gf 3 #[.int .i64 1]
theorem Cb.blocks {w:World} {vn va vf:Value} {p:Pl} {al:List (Ar×Value)} (hp:p.AU=al.map (·.1)) (hn:aI w vn p.nodes) (ha:Sl w va al.length (al.flatMap gW)) (hv:aJ w al) (hf:Ints w vf p.faces):Cb w (.agg #[vn,va,vf]) p :=
 ⟨vn,va,vf,al,rfl,hp,hn,⟨ha,hv⟩,hf⟩
theorem ax2 {w:World} {a:Ar} {u:Value} (h:Dq w u a.via):aJ w [(a,u)]:=fun k hk=>by
 have:k=0:=by simpa using hk
 subst this;exact h
theorem Cb.ex {w:World} {vn:Value} {l:List Nd} {a v f n c:Nat} {left:Int} {via:List Pt} (hn:aI w vn l) (ha:AO w a 50 (abN v n c left)) (hv:Dq w (.slice (some ⟨v,0,none⟩) n c) via) (hf:AO w f 3 #[.int .i64 1]) :
  Cb w (.agg #[vn,.slice (some ⟨a,0,none⟩) 1 1,.slice (some ⟨f,0,none⟩) 1 1]) ⟨l,[⟨1,1,1,via,left,0⟩],[1]⟩ :=
 Cb.blocks (al:=[(⟨1,1,1,via,left,0⟩,.slice (some ⟨v,0,none⟩) n c)]) rfl hn (Sl.lit (n:=1) ha rfl (D6 AB)) (ax2 hv) (Sl.lit (n:=1) hf rfl (D6 AB))
theorem awS {w:World} {n:Nat} (h:AO w n 45 exN):aI w (.slice (some ⟨n,0,none⟩) 1 1) [⟨1,⟨0,0⟩⟩]:=Sl.lit (n:=1) h rfl (D6 AB)
theorem afi {w:World} {v:Nat} (h:AO w v 39 an3):Dq w (.slice (some ⟨v,0,none⟩) 3 3) lF:=Sl.lit (n:=3) h rfl (D6 AB)
def P8:Pl:=⟨[⟨1,⟨0,0⟩⟩,⟨2,⟨5,5⟩⟩],[⟨1,1,1,lF,1,0⟩],[1]⟩
def lG:Pl:=⟨[⟨1,⟨0,0⟩⟩,⟨2,⟨5,5⟩⟩],[⟨1,1,1,lF,0,0⟩],[1]⟩
theorem an4:Eu Zc=0:=by decide +kernel
theorem awT:VA Zc (sortK (Bj Zc))=[⟨0,[],[[-1]],[]⟩,⟨1,[1],[],[]⟩]:=by kernel_rfl
theorem awU:NV Zc ⟨5,5⟩=(0,1,0):=by decide +kernel
theorem awV:NV Zc ⟨10,5⟩=(2,1,0):=by decide +kernel
theorem awW:kT Zc 1=some ⟨5,5⟩:=by kernel_rfl
theorem awX:Eu P8=0:=by decide +kernel
theorem awY:kT P8 1=some ⟨2,5⟩:=by kernel_rfl
theorem awZ:Eu lG=12:=by decide +kernel
theorem awc:Ig (I5 lG)=0:=by decide +kernel
theorem ay3:(Bj (I5 lG)).length=1:=by decide +kernel
theorem ay4:aa8 lG=P8:=by kernel_rfl
theorem ay5 (w:World):Calls Tryz.prog 48 #[] w (ax1 w):=by
 go_enter Tryz.func48,Tryz.ntmps48;go_wp2_with fail;refine gY (t:=26) (g:=w.heap.size) (cs:=#[.slice (some ⟨w.heap.size+1,0,none⟩) 1 1,.slice (some ⟨w.heap.size+1+1+1,0,none⟩) 1 1,.slice (some ⟨w.heap.size+1+1+1+1,0,none⟩) 1 1]) rfl uO rfl rfl ?_ ⟨w.heap.size+1,w.heap.size+1+1,w.heap.size+1+1+1,w.heap.size+1+1+1+1,rfl,?_,AB,?_,?_,?_,?_⟩
 · exact ((((AO.made rfl _ _).alloc _).alloc _).alloc _).alloc _
 · exact bA (bA (bA (bA (bA (bR w) _) _) _) _) _
 · exact (((AO.made Aw _ _).alloc _).alloc _).alloc _
 · exact ((AO.made Aw _ _).alloc _).alloc _
 · exact (AO.made Aw _ _).alloc _
 · exact AO.made Aw _ _
theorem Own.ay6 {α:Type} {w:World} {g n:Nat} {e:TypeId} {cs:Array Value} {base size:Nat} {f:α->List Value} {l:List α} (h:AO w g e cs) (hb:base<=g) (hn:n=l.length) (hl:(l.flatMap f).length=l.length*size) (hx:cs.toList=l.flatMap f) (hm:n<=maxLen):Own w base e size f (.slice (some ⟨g,0,none⟩) n n) l:=by
 subst hn;unfold Own;have hs:cs.size=l.length*size:=by rw [<- hl,<- hx];simp
 exact ⟨hl,.inr ⟨g,l.length,cs,rfl,hb,h,DT _,hm,hs,by rw [hx,<- hl];exact H8⟩⟩
def afj (w:World):World:=(((w.alloc (.cells #[.int .i64 (-1)] 3)).alloc (.cells #[.slice (some ⟨w.heap.size,0,none⟩) 1 1] 24)).alloc (.cells #[.int .i64 1] 3)).alloc (.cells #[.int .i64 0,.slice none 0 0,.slice (some ⟨w.heap.size+1,0,none⟩) 1 1,.slice none 0 0,.int .i64 1,.slice (some ⟨w.heap.size+1+1,0,none⟩) 1 1,.slice none 0 0,.slice none 0 0] 62)
def pU (w:World):List AD:=[⟨0,[],sv0,[([-1],⟨some ⟨w.heap.size,0,none⟩,1,1⟩)],⟨some ⟨w.heap.size+1,0,none⟩,1,1⟩,[],sv0⟩,⟨1,[1],⟨some ⟨w.heap.size+1+1,0,none⟩,1,1⟩,[],sv0,[],sv0⟩]
theorem an5 (w:World):AP w (afj w):=bA (bA (bA (bA (bR w) _) _) _) _
theorem ay7 (w:World):Nw (afj w) (.slice (some ⟨w.heap.size+1+1+1,0,none⟩) 2 2) (pU w):=by
 refine ⟨Sl.lit (n:=2) (AO.made Aw _ _) rfl (D6 AB),fun x hx=>?_,fun x hx=>?_,fun x hx c hc=>?_,fun x hx=>?_⟩
 ·simp only [pU,EJ,Xw,or_false] at hx;rcases hx with rfl | rfl
  · exact Sl.nil _
  · exact Sl.lit (n:=1) ((AO.made Aw _ _).alloc _) rfl (D6 AB)
 ·simp only [pU,EJ,Xw,or_false] at hx;rcases hx with rfl | rfl
  · exact Sl.lit (n:=1) (((AO.made Aw _ _).alloc _).alloc _) rfl (D6 AB)
  · exact Sl.nil _
 ·simp only [pU,EJ,Xw,or_false] at hx;rcases hx with rfl | rfl
  ·simp only [EJ,Xw,or_false] at hc;subst hc;exact Sl.lit (n:=1) ((((AO.made rfl _ _).alloc _).alloc _).alloc _) rfl (D6 AB)
  · cases hc
 ·simp only [pU,EJ,Xw,or_false] at hx;rcases hx with rfl | rfl
  · exact Sl.nil _
  · exact Sl.nil _
theorem an6 (w:World):Calls Tryz.prog 16 #[] w fun e w'=>e=.returned (.bool true)/\AP w w':=by
 have HE:=AA ay5;go_enter Tryz.func16,Tryz.ntmps16;go_wp2_with fail;refine (HE.out _).mono ?_;rintro e w1 ⟨n1,v1,a1,f1,rfl,hb1,hx1,hn1,hv1,ha1,hf1⟩;unfold exV;have HB1:=AA hb1;have Zz:=AA (Cb.ex (awS hn1) ha1 (afi hv1) hf1);clear hb1 hn1 hv1 ha1 hf1 hx1;go_upto_region 2 with fail;obtain ⟨W2,hW⟩:∃ W:World,W=w1.alloc (.cells #[.slice (some ⟨n1,0,none⟩) 1 1,.slice (some ⟨a1,0,none⟩) 1 1,.slice (some ⟨f1,0,none⟩) 1 1] 26):=⟨_,rfl⟩;have X1:AO W2 w1.heap.size 26 #[.slice (some ⟨n1,0,none⟩) 1 1,.slice (some ⟨a1,0,none⟩) 1 1,.slice (some ⟨f1,0,none⟩) 1 1]:=by rw [hW];exact AO.made rfl _ _
 have hA:AP w1 W2:=by rw [hW];exact bA (bR w1) _
 have HP2:=AA (Zz.out.mono hA);have HB2:=AA (bT HB1.out hA);obtain ⟨g1,h1⟩:∃ g,w1.heap.size=g:=⟨_,rfl⟩;rw [<- hW];rw [h1] at X1 ⊢;clear hW hA h1 Zz HB1;have D9:=AA X1;have pV:=AA (fun W (hW:AP W2 W)=>akc _ Zc W (HP2.out.mono hW) an4);have Vw:=AA (fun u W (hW:AP W2 W)=>am0 _ Zc u W (HP2.out.mono hW));have NT:=AA (fun W (hW:AP W2 W)=>amu _ Zc 1 W (HP2.out.mono hW) an4);rw [awW] at NT;have OH:=AA (Vw.out ⟨5,5⟩);have HL2:=AA (Vw.out ⟨10,5⟩);rw [awU] at OH;rw [awV] at HL2;replace OH:=AA (show ∀ W,AP W2 W->Calls Tryz.prog 24 #[.agg #[.slice (some ⟨n1,0,none⟩) 1 1,.slice (some ⟨a1,0,none⟩) 1 1,.slice (some ⟨f1,0,none⟩) 1 1],.agg #[.int .i64 5,.int .i64 5]] W fun e w'=>e=.returned (.tuple #[.int .i64 0,.int .i64 1,.int .i64 0])/\AP W w' from OH.out);replace HL2:=AA (show ∀ W,AP W2 W->Calls Tryz.prog 24 #[.agg #[.slice (some ⟨n1,0,none⟩) 1 1,.slice (some ⟨a1,0,none⟩) 1 1,.slice (some ⟨f1,0,none⟩) 1 1],.agg #[.int .i64 10,.int .i64 5]] W fun e w'=>e=.returned (.tuple #[.int .i64 2,.int .i64 1,.int .i64 0])/\AP W w' from HL2.out);replace NT:=AA (show ∀ W,AP W2 W->Calls Tryz.prog 30 #[.agg #[.slice (some ⟨n1,0,none⟩) 1 1,.slice (some ⟨a1,0,none⟩) 1 1,.slice (some ⟨f1,0,none⟩) 1 1],.int .i64 1] W fun e w'=>e=.returned (.tuple #[.agg #[.int .i64 5,.int .i64 5],.bool true])/\AP W w' from NT.out);clear Vw;obtain ⟨Ak,Au,Az,BA,-,-,-⟩:=X1.BF;go_wp2_with fail;refine (pV.out _ (bR W2)).mono ?_;rintro e w3 ⟨A,c,L,rfl,hb3,P6,hmap⟩;rw [awT] at hmap;have hll:L.length=2:=by simpa using congrArg List.length hmap
 rw [hll];rw [hll] at P6;have pX:=AA P6;have af5:=AA hmap;have HB3:=AA hb3;clear hb3 P6 hmap hll pV X1 Ak Au Az BA;have X1:=D9.out.keep HB3.out
 try clear Ak Au Az BA
 obtain ⟨Ak,Au,Az,BA,-,-,-⟩:=X1.BF;go_wp2_with fail;refine (OH.out _ HB3.out).mono ?_;rintro e w4 ⟨rfl,hb4⟩;have HB4:=AA (bT HB3.out hb4);have an7:=AA (pX.out.mono hb4);clear hb4 HB3 pX OH X1 Ak Au Az BA;have X1:=D9.out.keep HB4.out
 try clear Ak Au Az BA
 obtain ⟨Ak,Au,Az,BA,-,-,-⟩:=X1.BF;go_wp2_with fail;refine (HL2.out _ HB4.out).mono ?_;rintro e w5 ⟨rfl,hb5⟩;have CW:=AA (bT HB4.out hb5);have an8:=AA (an7.out.mono hb5);clear hb5 HB4 an7 HL2 X1 Ak Au Az BA;have X1:=D9.out.keep CW.out
 try clear Ak Au Az BA
 obtain ⟨Ak,Au,Az,BA,-,-,-⟩:=X1.BF;go_wp2_with fail;refine (NT.out _ CW.out).mono ?_;rintro e w6 ⟨rfl,hb6⟩;have Eb:=AA (bT HB2.out (bT CW.out hb6));have an9:=AA (an8.out.mono hb6);clear hb6 CW an8 NT X1 Ak Au Az BA D9 HP2 HB2;go_upto_region 6 with fail;obtain ⟨W7,hW⟩:∃ W:World,W=w6.alloc (.cells #[.int .i64 5,.int .i64 5] 39):=⟨_,rfl⟩;have EP:AO W7 w6.heap.size 39 #[.int .i64 5,.int .i64 5]:=by rw [hW];exact AO.made rfl _ _
 have hA:AP w6 W7:=by rw [hW];exact bA (bR w6) _
 have ay8:=AA (an9.out.mono hA);have Jf:=AA (bT Eb.out hA);obtain ⟨g10,h10⟩:∃ g,w6.heap.size=g:=⟨_,rfl⟩;rw [<- hW];rw [h10] at EP ⊢;have UG:=AA EP;clear hW hA h10 an9 Eb EP;go_wp2_with fail;refine (HE.out _).mono ?_;rintro e w8 ⟨n2,v2,a2,f2,rfl,hb8,hx8,hn2,hv2,ha2,hf2⟩;unfold exV;go_upto_region 7 with fail;obtain ⟨W9,hW⟩:∃ W:World,W=w8.alloc (.cells #[.slice (some ⟨n2,0,none⟩) 1 1,.slice (some ⟨a2,0,none⟩) 1 1,.slice (some ⟨f2,0,none⟩) 1 1] 26):=⟨_,rfl⟩;have hA:AP w8 W9:=by rw [hW];exact bA (bR w8) _
 have T2:AO W9 w8.heap.size 26 #[.slice (some ⟨n2,0,none⟩) 1 1,.slice (some ⟨a2,0,none⟩) 1 1,.slice (some ⟨f2,0,none⟩) 1 1]:=by rw [hW];exact AO.made rfl _ _
 have QH:=AA (hn2.keep hA);have HV2:=AA (hv2.keep hA);have HA2:=AA (ha2.keep hA);have HF2:=AA (hf2.keep hA);have Lm:=AA (bT hb8 hA);have hs8:=hb8.size;obtain ⟨g12,h12⟩:∃ g,w8.heap.size=g:=⟨_,rfl⟩;have hx9:W7.heap.size<=n2/\W7.heap.size<=v2/\W7.heap.size<=a2/\W7.heap.size<=f2/\W7.heap.size<=g12:=by omega
 rw [<- hW];rw [h12] at T2 ⊢;have HT2:=AA T2;clear hW hA h12 hb8 hn2 hv2 ha2 hf2 hx8 hs8;obtain ⟨T2l,T2a,T2b,T2c,ay9,ayA,ayB⟩:=T2.BF;go_upto_region 8 with
  (at_builtin
   refine Ew _ rfl (.tmp 44) (.tmp 47) _ rfl (base:=n2) agZ acR aga rfl (Own.ay6 (l:=[(⟨1,⟨0,0⟩⟩:Nd)]) (QH.out.alloc _) (DT _) rfl rfl rfl (D6 AB)) rfl (l2:=[(⟨2,⟨5,5⟩⟩:Nd)]) (Sl.lit (n:=1) (AO.made rfl _ _) rfl (D6 AB)) DR DR (by have:=QH.out.lt;simp;omega) ?_;intro v5 w5 DY hg5 Gf;replace DY:Own w5 n2 45 3 SA v5 P8.nodes:=DY;have hs5:Sl w5 v5 2 (P8.nodes.flatMap SA):=Own.sl DY;obtain ⟨A5,c5,rfl,-,-,-⟩:=hs5;have Fh:=AA DY;have Vz:=AA (show (W9.alloc (.cells #[.int .i64 2,.int .i64 5,.int .i64 5] 45)).grownBy w5 (some n2) from hg5);have T2n:=(HT2.out.alloc (.cells #[.int .i64 2,.int .i64 5,.int .i64 5] 45)).grown Vz.out (fun e=>AO.MX HT2.out QH.out BG (Dc e));have afk:=AA T2n;clear T2 T2l T2a T2b T2c ay9 ayA ayB DY hg5 Gf;obtain ⟨ayC,ayD,-,-,ayE,-,-⟩:=T2n.BF;clear T2n)
 obtain ⟨Rx,hW⟩:∃ W:World,W=w5.setCell ⟨g12,0,none⟩ (.slice A5 2 c5):=⟨_,rfl⟩;have hK:∀ g t cs,g≠n2->g≠g12->AO W9 g t cs->AO Rx g t cs:=fun g t cs k1 k2 h=>by
  rw [hW];exact AO.far (AO.grown (h.alloc _) Vz.out (fun e=>k1 (Dc e))) k2 _
 have HNq:=AA (show Own Rx n2 45 3 SA (.slice A5 2 c5) P8.nodes by
  rw [hW];exact Fh.out.far (p:=⟨g12,0,none⟩) (Own.Dz Fh.out afk.out BG) _)
 have HT:=AA (show AO Rx g12 26 #[.slice A5 2 c5,.slice (some ⟨a2,0,none⟩) 1 1,.slice (some ⟨f2,0,none⟩) 1 1] by
  rw [hW];have:=afk.out.EW 0 (.slice A5 2 c5)
  simpa using this)
 have HV:=AA (hK _ _ _ (AO.MX HV2.out QH.out BG) (AO.MX HV2.out HT2.out BG) HV2.out);have HA:=AA (hK _ _ _ (AO.MX HA2.out QH.out BG) (AO.MX HA2.out HT2.out BG) HA2.out);have HF:=AA (hK _ _ _ (AO.MX HF2.out QH.out BG) (AO.MX HF2.out HT2.out BG) HF2.out);have anA:=AA (show AP W7 Rx by
  rw [hW];exact bS (p:=⟨g12,0,none⟩) (bG (bA Lm.out _) Vz.out (fun k hk=>by have:=Dc hk;omega)) DC _)
 rw [<- hW];clear hW hK Fh Vz afk HV2 HA2 HF2 QH HT2 Lm ayC ayD ayE;have qG:=AA (show Cb Rx (.agg #[.slice A5 2 c5,.slice (some ⟨a2,0,none⟩) 1 1,.slice (some ⟨f2,0,none⟩) 1 1]) P8 from Cb.ex (Own.sl HNq.out) HA.out (afi HV.out) HF.out);have QN:=AA (amu _ P8 1 Rx qG.out awX);rw [awY] at QN;replace QN:=AA (show Calls Tryz.prog 30 #[.agg #[.slice A5 2 c5,.slice (some ⟨a2,0,none⟩) 1 1,.slice (some ⟨f2,0,none⟩) 1 1],.int .i64 1] Rx fun e w'=>e=.returned (.tuple #[.agg #[.int .i64 2,.int .i64 5],.bool true])/\AP Rx w' from QN.out);have LU:=HT.out;obtain ⟨O8,O4,O5,O6,-,-,-⟩:=LU.BF;go_wp2_with fail;refine QN.out.mono ?_;rintro e dO ⟨rfl,Td⟩;have anB:=AA Td;clear Td QN qG LU O8 O4 O5 O6;go_upto_region 9 with fail;obtain ⟨W11,hW⟩:∃ W:World,W=dO.alloc (.cells #[.int .i64 2,.int .i64 5] 39):=⟨_,rfl⟩;have hA:AP Rx W11:=by rw [hW];exact bA anB.out _
 have UJ:AO W11 dO.heap.size 39 #[.int .i64 2,.int .i64 5]:=by rw [hW];exact AO.made rfl _ _
 obtain ⟨g13,h13⟩:∃ g,dO.heap.size=g:=⟨_,rfl⟩;rw [<- hW];rw [h13] at UJ ⊢;have SQ:=AA UJ;have abO:=AA (HT.out.keep hA);have afl:=AA (HNq.out.keep hA);have afm:=AA (HV.out.keep hA);have eu:=AA (HA.out.keep hA);have afn:=AA (HF.out.keep hA);have anC:=AA (bT anA.out hA);clear hW hA h13 HT HNq HV HA HF anA anB;have LU:=abO.out;have XA:=eu.out;unfold abN at XA
 try clear O8 O4 O5 O6
 obtain ⟨O8,O4,O5,O6,-,-,-⟩:=LU.BF;obtain ⟨XAl,XAa,XAb,XAc,XAd,XAe,XAf,ayF,ayG,ayH,ayI,ayJ,ayK⟩:=XA.IU;go_upto_region 10 with fail;obtain ⟨EN,hW⟩:∃ W:World,W=W11.setCell ⟨a2,4,none⟩ (.int .i64 0):=⟨_,rfl⟩;have afo:=AA (show AO EN g12 26 _ by rw [hW];exact abO.out.far (p:=⟨a2,4,none⟩) (AO.MX abO.out eu.out BG) _);have anD:=AA (show AO EN g13 39 _ by rw [hW];exact SQ.out.far (p:=⟨a2,4,none⟩) (AO.MX SQ.out eu.out BG) _);have ayL:=AA (show AP W7 EN by rw [hW];exact bS (p:=⟨a2,4,none⟩) anC.out DC _);have anE:=AA (show Cb EN (.agg #[.slice A5 2 c5,.slice (some ⟨a2,0,none⟩) 1 1,.slice (some ⟨f2,0,none⟩) 1 1]) lG by
  rw [hW];refine Cb.ex (v:=v2) (n:=3) (c:=3) (Own.sl (afl.out.far (p:=⟨a2,4,none⟩) (Own.Dz afl.out eu.out BG) _)) ?_ (afi (afm.out.far (p:=⟨a2,4,none⟩) (AO.MX afm.out eu.out BG) _)) (afn.out.far (p:=⟨a2,4,none⟩) (AO.MX afn.out eu.out BG) _);have:=eu.out.EW 4 (.int .i64 0)
  unfold abN at this ⊢;simpa using this)
 rw [<- hW];clear hW abO SQ afl afm eu afn anC UJ LU O8 O4 O5 O6 XA XAl XAa XAb XAc XAd XAe XAf ayF ayG ayH ayI ayJ ayK;have HLb:=AA (show Calls Tryz.prog 21 #[.agg #[.slice A5 2 c5,.slice (some ⟨a2,0,none⟩) 1 1,.slice (some ⟨f2,0,none⟩) 1 1]] EN (amL EN P8) from (avR _ lG EN anE.out ⟨by show 2<=100000;omega,by show 1<=100000;omega,fun a ha=>by
   have e:a=⟨1,1,1,lF,0,0⟩:=ED.1 ha;subst e
   show 3<=100000
   omega⟩ awc).mono (fun e w' h=>by
  rcases h with ⟨h64,-⟩ | ⟨-,h⟩
  · rw [ay3] at h64;omega
  · rw [ay4] at h;exact h))
 have Gm:=AA (fun W (hW:AP EN W)=>al7 _ lG W (anE.out.mono hW));rw [awZ] at Gm;have LU:=afo.out
 try clear O8 O4 O5 O6
 obtain ⟨O8,O4,O5,O6,-,-,-⟩:=LU.BF;go_wp2_with fail;refine HLb.out.mono ?_;rintro e tJ ⟨An,cn,Aa,ca,Af,cf,bl,rfl,ama,hpo⟩;have har:=hpo.I7;have heq:[(⟨1,1,1,lF,1,0⟩:Ar)]=bl.map (·.1):=hpo.eq.symm;obtain ⟨z,hbl⟩:∃ z,bl=[z]:=by
  cases bl with
  | nil=>simp at heq
  | cons z l =>
   cases l with
   | nil=>exact ⟨z,rfl⟩
   | cons _ _=>simp at heq
 subst hbl;have hz:z.1=⟨1,1,1,lF,1,0⟩:=by simpa using heq.symm
 obtain ⟨ba,oa,V4,hla,-,-,-,-,y4,y5⟩:=Row.at6 (Own.aio har) (k:=0) Aw;simp only [List.getElem_cons_zero,hz,lN,VJ] at y4 y5;subst V4;have amb:=AA ama;have HY4:=AA y4;have kW:=AA y5;clear ama hpo har heq hz y4 y5 HLb LU O8 O4 O5 O6;go_upto_region 11 with fail;obtain ⟨fA,hW⟩:∃ W:World,W=tJ.alloc (.cells #[.slice An P8.nodes.length cn,.slice (some ⟨ba,oa,none⟩) P8.AU.length ca,.slice Af P8.faces.length cf] 26):=⟨_,rfl⟩;have WH:AO fA tJ.heap.size 26 #[.slice An P8.nodes.length cn,.slice (some ⟨ba,oa,none⟩) P8.AU.length ca,.slice Af P8.faces.length cf]:=by rw [hW];exact AO.made rfl _ _
 have hA:AP tJ fA:=by rw [hW];exact bA (bR tJ) _
 replace HY4:=AA (Dv hA HY4.out);replace kW:=AA (Dv hA kW.out);have rO:=AA (bT amb.out hA);have abP:=AA (bT ayL.out rO.out);obtain ⟨g15,h15⟩:∃ g,tJ.heap.size=g:=⟨_,rfl⟩;rw [<- hW];rw [h15] at WH ⊢;have jr:=AA WH;have azz:=L9 hla hA.size;clear hW hA h15 amb;have EP:=UG.out.keep abP.out;have UJ:=anD.out.keep rO.out;have LU:=afo.out.keep rO.out;have y4:=HY4.out;have y5:=kW.out;have amc:=ay8.out.mono abP.out;have hS:=fun (W:World) (h:Nw W (.slice A 2 c) L) (L':List AD) (u:Value) (h':Nw W u L') (he:L.map Lu=L'.map Lu)=>an1 (.slice A 2 c) u L L' W h h' he;have ayM:=AA amc;have HS:=AA hS;clear amc hS;have kl1:P8.AU.length=1:=rfl;have kl2:P8.nodes.length=2:=rfl;have kl3:P8.faces.length=1:=rfl;rw [kl1,kl2,kl3] at WH;rw [kl1,kl2,kl3] at jr
 try rw [kl1,kl2,kl3]
 clear kl1 kl2 kl3;obtain ⟨J5,J6,J7,-,-⟩:=EP.BN;obtain ⟨uz,vC,vF,-,-⟩:=UJ.BN
 try clear O8 O4 O5 O6
 obtain ⟨O8,O4,O5,O6,-,-,-⟩:=LU.BF;obtain ⟨vG,vH,vI,aaI,-,-,-⟩:=WH.BF;go_wp2_with fail;refine (HS.out (afj fA) (ayM.out.mono (an5 fA)) (pU fA) (.slice (some ⟨fA.heap.size+1+1+1,0,none⟩) 2 2) (ay7 fA) (af5.out.trans rfl)).mono ?_;rintro e w20 ⟨rfl,amd⟩;have ZY:=AA (bT (an5 fA) amd);clear amd EP J5 J6 J7 UJ uz vC vF LU O8 O4 O5 O6 WH vG vH vI aaI y4 y5;have EP:=(UG.out.keep abP.out).keep ZY.out;have UJ:=(anD.out.keep rO.out).keep ZY.out;have LU:=(afo.out.keep rO.out).keep ZY.out
 try clear J5 J6 J7
 obtain ⟨J5,J6,J7,-,-⟩:=EP.BN
 try clear uz vC vF
 obtain ⟨uz,vC,vF,-,-⟩:=UJ.BN
 try clear O8 O4 O5 O6
 obtain ⟨O8,O4,O5,O6,-,-,-⟩:=LU.BF;go_wp2_with fail;refine (Gm.out _ (bT rO.out ZY.out)).mono ?_;rintro e w21 ⟨rfl,ame⟩;have abQ:=AA (bT ZY.out ame);clear ame EP J5 J6 J7 UJ uz vC vF LU O8 O4 O5 O6;have WH:=jr.out.keep abQ.out;have y4:=Dv abQ.out HY4.out;have y5:=Dv abQ.out kW.out
 try clear vG vH vI aaI
 obtain ⟨vG,vH,vI,aaI,-,-,-⟩:=WH.BF;go_wp2;go_ret;exact ⟨rfl,bT Jf.out (bT abP.out abQ.out)⟩
