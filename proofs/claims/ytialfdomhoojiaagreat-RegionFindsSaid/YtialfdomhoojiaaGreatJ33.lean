import Derived.Test.YtialfdomhoojiaaGreatJ32
set_option linter.unusedSimpArgs false
set_option linter.unusedVariables false
set_option maxRecDepth 100000
set_option maxHeartbeats 8000000
namespace Go.Proofs.YtialfdomhoojiaaGreat
open Go.RowKit Go.Sort
structure WE (w:World) (B g1 g2 g3:Nat) (y:Int) (S:List (Pt×Pt)) (T:List Rn) (w2 W:World):Prop where
 st:∃ vt vc,SL W B g1 g2 g3 y (S.flatMap (Q5 y)++T) (S.flatMap (IX y)) vt vc
 kept:Ir B g2 g3 w2 W
 below:AP w W
theorem WE.drew {w:World} {B g1 g2 g3:Nat} {y:Int} {S:List (Pt×Pt)} {T:List Rn} {w2 W:World} (h:WE w B g1 g2 g3 y S T w2 W):WE w B g1 g2 g3 y S T w2 W.drew:=by
 obtain ⟨⟨vt,vc,hs⟩,hk,hb⟩:=h;exact ⟨⟨vt,vc,hs.keep (bD (bR W))⟩,hk.trans ⟨fun w0 k _ _ _=>bD k,DT _,fun _ _ _ _=>rfl⟩,bD hb⟩
theorem Ir.base {B g2 g3:Nat} {w W W':World} (h:Ir B g2 g3 W W') (hb:AP w W) (k1:w.heap.size<=B) (k2:w.heap.size<=g2) (k3:w.heap.size<=g3):Below w.heap.size W W':=by
 have b:=h.below w hb k1 k2 k3;exact ⟨b.os.trans hb.os.symm,b.tape.trans hb.tape.symm,b.output.trans hb.output.symm,h.size,fun k hk=>h.blk k (L9 hk k1) AB AB⟩
theorem awm (w w2:World) (gm:Nat) (p:Pl) (f:Int->SV) (hpm:QT w gm p f) (hv:Valid p) (vc:Value) (X:List Int) (hX:Ints w vc X) (hd:∀ d∈X,d∈BU p) (B g1 g2 g3:Nat) (y:Int) (S:List (Pt×Pt))
  (hl:S.length+(DV p X).length<=40000) (hB:B<=w2.heap.size) (hg1:g1<B) (k1:w.heap.size<=B) (k2:w.heap.size<=g2) (k3:w.heap.size<=g3) (W:World) (h0:WE w B g1 g2 g3 y S [] w2 W) :
  Calls Tryz.prog 79 #[.map (some gm),vc,.func (.func 202) #[] #[.pointer (some ⟨g1,0,none⟩),.pointer (some ⟨g2,0,none⟩),.pointer (some ⟨g3,0,none⟩)]] W fun e W'=>e=.returned (.tuple #[])/\WE w B g1 g2 g3 y (S++DV p X) [] w2 W':=by
 refine (asH w gm p f hpm hv vc X hX hd g1 g2 g3 (fun s W=>WE w B g1 g2 g3 y (S++s) [] w2 W) (fun s q=>s++[q]) (fun s W h=>h.below) (fun s W h=>h.drew) [] (fun S0 W q r hs h=>?_) W gK).mono ?_
 ·rw [foldl_snoc,QD] at h ⊢;obtain ⟨⟨vt,vc,hst⟩,hk,hb⟩:=h;rw [IQ] at hst;have hq:q∈DV p X:=by rw [hs];simp
  have hlen:(S++S0).length<=40000:=by
   have:=congrArg List.length hs
   simp only [EC,I9] at this ⊢;omega
  have l1:=lD (Q5 y) (afb y) (S++S0);have l2:=lD (IX y) (am7 y) (S++S0);obtain ⟨a,ha,-,k,hk',rfl⟩:=hv.aB8 hd hq;refine (aso _ _ (hv.aa5 ha AB) (hv.aa5 ha hk') y B g1 g2 g3 _ _ vt vc W hst (Dn hB hk.size) hg1 AB AB).mono ?_;rintro e W' ⟨rfl,⟨vt',vc',hst'⟩,hk2⟩;refine ⟨rfl,⟨⟨vt',vc',?_⟩,hk.trans hk2,hk2.below w hb k1 k2 k3⟩,hk2.base hb k1 k2 k3⟩;rw [IQ,<- JR,KO,KO];simpa using hst'
 ·rintro e W' ⟨rfl,h,-⟩;rw [foldl_snoc,QD] at h;exact ⟨rfl,h⟩
theorem Ir.own {B g2 g3:Nat} {W W':World} (h:Ir B g2 g3 W W') {α:Type} {B0:Nat} {e:TypeId} {n:Nat} {f:α->List Value} {v:Value} {l:List α} (ho:Own W B0 e n f v l) (hB:W.heap.size<=B) (h1:v.ownBlock≠some g2) (h2:v.ownBlock≠some g3):Own W' B0 e n f v l:=by
 obtain ⟨h0,h3⟩:=ho;refine ⟨h0,?_⟩;rcases h3 with h3 | ⟨q,cap,cur,rfl,a1,a2,a3⟩
 · exact .inl h3
 · exact .inr ⟨q,cap,cur,rfl,a1,Ir.keep h (cs:=cur) a2 (L9 (AO.lt a2) hB) (fun e=>h1 Y8) (fun e=>h2 Y8),a3⟩
theorem WE.step {w:World} {B g1 g2 g3:Nat} {y:Int} {S:List (Pt×Pt)} {T:List Rn} {w2 W W':World} (h:WE w B g1 g2 g3 y S T w2 W) (hB:B<=w2.heap.size) (hb:AP W W'):WE w B g1 g2 g3 y S T w2 W':=by
 obtain ⟨⟨vt,vc,hs⟩,hk,hw⟩:=h;exact ⟨⟨vt,vc,hs.keep hb⟩,hk.trans (Ir.of (Dn hB hk.size) hb),bT hw hb⟩
theorem awn (v:Value) (p:Pl) (w:World) (h:Cb w v p) (hv:Valid p) (gm:Nat) (f:Int->SV) (hpm:QT w gm p f) (x:AD) (b:Option (List Int)) (hb:b∈Ji p)
  (ho:Ints w (BJ x.ov) x.out) (hi:Sl w (BJ x.iv) x.inn.length (x.inn.flatMap Ib)) (hc:∀ c∈x.inn,Ints w (BJ c.2) c.1) (ha:Ints w (BJ x.av) x.CU) (hcy:(MQ x).map (·.1)=Jq p b) (hal:x.CU=ak p b) (y:Int) :
  Calls Tryz.prog 140 #[.map (some gm),v,.agg #[.int .i64 x.tw,BJ x.ov,BJ x.iv,BJ x.av],.int .i64 y] w (aeS w (Uu p b y)):=by
 have hnl:=hv.bW;have hli:x.inn.length<=512:=by
  have e1:=congrArg List.length hcy;have h2:=LY (fun c=>decide (I4 p (TB p c)=b)) (J8 p);have h3:(J8 p).length<=(CX p).length:=LY _ _;have h4:=hv.QY;unfold MQ Jq aj at e1;simp only [Ez,I9,Cm] at e1;omega
 have hsl:=hv.amA hb;have hal2:x.CU.length<=256:=by rw [hal];exact hv.axS b
 have Lr:=AA (fun W (hW:AP w W)=>aeK x W (hi.mono hW) AB);have bV:=AA (fun id W (hW:AP w W)=>ac4 v p id W (h.mono hW));have Jg:=AA (show ∀ c∈MQ x,Ints w (BJ c.2) c.1 from fun c hc'=>by
  unfold MQ at hc';rcases EJ.1 hc' with rfl | hc'
  · exact ho
  · exact hc c hc')
 have PZ:=AA (@akE);have ZI:=AA (fun id n (e:JK p.nodes id=some n)=>hv.akd (VG e));have QB:=AA hsl;have NT:=AA (@auL);have WZ:=AA (fun w2 vc X hX hd B g1 g2 g3 S hl hB hg1 k1 k2 k3 W h0=>awm w w2 gm p f hpm hv vc X hX hd B g1 g2 g3 y S hl hB hg1 k1 k2 k3 W h0);obtain ⟨CL,hCL⟩:=BL (MQ x);obtain ⟨C,hC⟩:=BL (Jq p b);have hll:CL.length<=513:=by rw [<- hCL];unfold MQ;rw [I9];omega
 rw [hCL] at Lr Jg hcy;rw [hC] at hcy;have hcd:∀ c∈C,∀ d∈c,d∈BU p:=fun c hc=>by rw [<- hC] at hc;exact hv.am9 hb hc
 have HCd:=AA hcd;have aa3:=AA hcy;have hlc:C.length=CL.length:=by rw [<- hcy,Cm]
 have HSB:=AA (show Gz p b=WC p C C.length by unfold Gz WC;rw [hC,H8]);have hle:∀ k,(WC p C k).length<=33280:=fun k=>by
  have:=awe p C k
  have e:C.flatMap (DV p)=Gz p b:=by unfold Gz;rw [hC]
  rw [e] at this;omega
 have aA4:=AA hle;have aA5:=AA hlc;obtain ⟨R,hR⟩:=BL (Uu p b y);have HR:=AA (show R=OO (Pn (Jj (aQ ((Gz p b).flatMap (IX y))))) (Pn ((Gz p b).flatMap (Q5 y)++aS p b y)) from hR.symm);rw [hR];have OJ:=AA (show ∀ k,(x.CU.take k).flatMap (Q7 p.nodes y)=((ak p b).take k).flatMap (Q7 p.nodes y) from fun k=>by rw [hal]);have ku:=AA (show aS p b y=x.CU.flatMap (Q7 p.nodes y) by unfold aS;rw [hal]);have HAi:=AA ha;clear hCL hC hcy hcd hlc hle hR hal ho hi hc hpm hb hli hsl;obtain ⟨_,_,_,al,rfl,-,⟨An,cn,rfl,-⟩,⟨⟨Aa,ca,rfl,-⟩,-⟩,⟨Af,cf,rfl,-⟩⟩:=h;obtain ⟨tw,out,⟨oa,on,oc⟩,inn,⟨ia,FY,ic⟩,CU,⟨aa,an,ac⟩⟩:=x;unfold BJ at Lr ha ⊢;simp only at Lr ha hal2 OJ ku HAi ⊢;obtain ⟨Ax,cx,he,-⟩:=ha;injection he with q1 q2 q3;subst q1 q2 q3;generalize hnn:p.nodes.length=nn at *;generalize al.length=na at *;generalize p.faces.length=nf at *;clear hv;go_enter Tryz.func140,Tryz.ntmps140;go_upto_region 4 with fail;obtain ⟨W1,hW⟩:∃ W:World,W=((((w.alloc (.cells #[.slice An nn cn,.slice Aa na ca,.slice Af nf cf] 26)).alloc (.cells #[.int .i64 tw,.slice oa on oc,.slice ia FY ic,.slice aa CU.length ac] 82)).alloc (.cells #[.int .i64 y] 3)).alloc (.cells #[.slice none 0 0] 24)).alloc (.cells #[.slice none 0 0] 124):=⟨_,rfl⟩;have X5:AO W1 w.heap.size 26 #[.slice An nn cn,.slice Aa na ca,.slice Af nf cf]:=by rw [hW];exact ((((AO.made rfl _ _).alloc _).alloc _).alloc _).alloc _
 have X6:AO W1 (w.heap.size+1) 82 #[.int .i64 tw,.slice oa on oc,.slice ia FY ic,.slice aa CU.length ac]:=by rw [hW];exact (((AO.made Aw _ _).alloc _).alloc _).alloc _
 have X7:AO W1 (w.heap.size+1+1) 3 #[.int .i64 y]:=by rw [hW];exact ((AO.made Aw _ _).alloc _).alloc _
 have X9:AO W1 (w.heap.size+1+1+1) 24 #[.slice none 0 0]:=by rw [hW];exact (AO.made Aw _ _).alloc _
 have LD:AO W1 (w.heap.size+1+1+1+1) 124 #[.slice none 0 0]:=by rw [hW];exact AO.made Aw _ _
 have hA:AP w W1:=by rw [hW];exact bA (bA (bA (bA (bA (bR w) _) _) _) _) _
 have hsz:W1.heap.size=w.heap.size+5:=by rw [hW];simp
 have HA:=AA hA;have D8:=AA X5;have IV:=AA X6;have Iw:=AA X7;have Kq:=AA X9;have qM:=AA LD;rw [<- hW];clear hW hA;obtain ⟨g5,h5⟩:∃ g,w.heap.size=g:=⟨_,rfl⟩;obtain ⟨g6,h6⟩:∃ g,w.heap.size+1=g:=⟨_,rfl⟩;obtain ⟨g7,h7⟩:∃ g,w.heap.size+1+1=g:=⟨_,rfl⟩;obtain ⟨g9,h9⟩:∃ g,w.heap.size+1+1+1=g:=⟨_,rfl⟩;obtain ⟨g11,h11⟩:∃ g,w.heap.size+1+1+1+1=g:=⟨_,rfl⟩;have hn:w.heap.size<=g5/\g5<g6/\g6<g7/\g7<g9/\g9<g11/\g11<W1.heap.size:=by omega
 rw [h11] at LD qM ⊢;rw [h9] at X9 Kq ⊢;rw [h7] at X7 Iw ⊢;rw [h6] at X6 IV ⊢;rw [h5] at X5 D8 ⊢;clear h5 h6 h7 h9 h11;obtain ⟨EF,EG,EH,Nb,Sj,-,-,-,-⟩:=X6.MC;go_wp2_with fail;refine (Lr.out _ HA.out).mono ?_;rintro e w2 ⟨⟨Ac,cc,rfl,hown⟩,hb2⟩;have HO:=AA hown;have HB2:=AA (bT HA.out hb2);have HS0:=AA (show SL w2 w2.heap.size g7 g11 g9 y [] [] (.slice none 0 0) (.slice none 0 0) from ⟨Iw.out.keep hb2,⟨qM.out.keep hb2,Own.nil _ _ _ _ _⟩,⟨Kq.out.keep hb2,Own.nil _ _ _ _ _⟩⟩);have hs2:=hb2.size;replace D8:=AA (D8.out.keep hb2);replace IV:=AA (IV.out.keep hb2);have hw2:w.heap.size<=w2.heap.size:=by omega
 clear hb2 hown Lr HA Iw Kq qM X5 X6 EF EG EH Nb Sj X7 X9 LD;go_upto_block 0 with fail;go_wp2_with fail;go_loopw [24] (fun i wr=>∃ k:Nat,k<=CL.length/\i=.int .i64 k/\WE w w2.heap.size g7 g11 g9 y (WC p C k) [] w2 wr) (fun i _=>CL.length-(intOf i).toNat)
 case atStart => exact ⟨0,BZ _,rfl,⟨⟨_,_,HS0.out⟩,Ir.refl _ _ _ _,HB2.out⟩⟩
 case round =>
  obtain ⟨k,hk,rfl,hr⟩:=hrel;obtain ⟨wo,rfl⟩:=BO wr;have O7:=AA hr;clear hr HS0;by_cases hlt:k<CL.length
  ·have hOr:=O7.out.kept.own HO.out (DT _) (fun e=>by have:=(HO.out.lt g11 e).1;omega) (fun e=>by have:=(HO.out.lt g9 e).1;omega);obtain ⟨A',c',he,-,-,IC⟩:=hOr.sl;injection he with q1 q2 q3;subst q1 q3;clear q2;obtain ⟨b',o',rfl,hlb,c0⟩:=IC.cy hlt;have hkC:k<C.length:=by rw [aA5.out];exact hlt
   have hCk:=fG aa3.out hlt hkC;have hcs:=awd p hkC;have hl1:=aA4.out (k+1);have hii:=Jg.out _ (BH hlt);have hdd:=HCd.out _ (BH hkC);rw [hCk] at hcs hdd;rw [hcs,EC] at hl1;have HC:=AA (fun W h0=>WZ.out w2 _ _ hii hdd w2.heap.size g7 g11 g9 (WC p C k) AB (DT _) AB hw2 AB AB W h0);generalize CL[k]=X at *;obtain ⟨X,⟨sa,sn,sc⟩⟩:=X;unfold BJ at HC;simp only at c0 HC hcs;have HCs:=AA hcs;clear hOr IC hii hdd hCk hkC hcs hl1;go_wp2_with fail;refine (HC.out _ O7.out).mono ?_;rintro e w4 ⟨rfl,hr2⟩;have HR2:=AA hr2;clear hr2;go_wp2;go_roundw
   case rel => exact ⟨k+1,AB,BI,by rw [HCs.out];exact HR2.out⟩
   case measure => exact BK
  ·obtain rfl:k=CL.length:=by omega
   have qN:=O7.out;rw [<- aA5.out,<- HSB.out] at qN;have HR1:=AA qN;clear qN O7;have hw3:=HR1.out.kept.size;have X6:=HR1.out.kept.keep IV.out AB AB AB;obtain ⟨wA,rfl⟩:=BO wo;clear WZ Jg HCd aa3 aA4 HO HSB HB2 IV
   try clear EF EG EH Nb Sj
   obtain ⟨EF,EG,EH,Nb,Sj,-,-,-,-⟩:=X6.MC;go_upto_block 2 with fail;clear X6 EF EG EH Nb Sj;go_wp2_with fail;go_loopw [36] (fun i wr=>∃ k:Nat,k<=CU.length/\i=.int .i64 k/\WE w w2.heap.size g7 g11 g9 y (Gz p b) ((CU.take k).flatMap (Q7 p.nodes y)) w2 wr) (fun i _=>CU.length-(intOf i).toNat)
   case atStart => exact ⟨0,BZ _,rfl,HR1.out⟩
   case round =>
    obtain ⟨k,hk,rfl,hr⟩:=hrel;obtain ⟨wo,rfl⟩:=BO wr;have O7:=AA hr;clear hr HR1;by_cases hlt:k<CU.length
    ·obtain ⟨A',c',he,-,-,IC⟩:=HAi.out.mono O7.out.below;injection he with q1 q2 q3;subst q1 q3;clear q2;obtain ⟨b',o',rfl,hlb,c0⟩:=IC.int hlt;have hts:(CU.take (k+1)).flatMap (Q7 p.nodes y)=(CU.take k).flatMap (Q7 p.nodes y)++Q7 p.nodes y CU[k]:=by
      rw [En hlt,KO];simp
     obtain ⟨F,hF⟩:=BL (Q7 p.nodes y CU[k]);rw [hF] at hts;have HTs:=AA hts;have hlen:((CU.take k).flatMap (Q7 p.nodes y)).length<=256:=by
      have:=lD (Q7 p.nodes y) (am8 p.nodes y) (CU.take k)
      rw [Ie] at this;omega
     clear hts IC;unfold Q7 at hF;generalize CU[k]=id at *;have hs3:=O7.out.kept.size;have X5:=O7.out.kept.keep D8.out AB AB AB;have HN:=AA (fun W (hW:AP wo W)=>bV.out id W (bT O7.out.below hW));unfold iU at HN;obtain ⟨fn,hfn⟩:=BL (JK p.nodes id);rw [hfn] at HN hF;have HF:=AA hF;have HBg:=AA (fun n (e:fn=some n)=>ZI.out id n (hfn.trans e));clear hfn hF;obtain ⟨CJ,CO,CS,G6,-,-,-⟩:=X5.BF
     cases fn with
     | none =>
      replace HN:=AA (show ∀ W,AP wo W->Calls Tryz.prog 74 #[.agg #[.slice An nn cn,.slice Aa na ca,.slice Af nf cf],.int .i64 id] W fun e w'=>e=.returned (.tuple #[.agg #[.int .i64 0,.int .i64 0,.int .i64 0],.bool false])/\AP W w' from HN.out);go_wp2_with fail;refine (HN.out _ (bR wo)).mono ?_;rintro e w4 ⟨rfl,hb4⟩;have HB4:=AA hb4;clear hb4 X5 CJ CO CS G6 HN;go_wp2;go_roundw
      case rel =>
       have hf:F=[]:=HF.out.symm;exact ⟨k+1,AB,BI,by rw [HTs.out,hf,IQ];exact O7.out.step (DT _) (bA HB4.out _)⟩
      case measure => exact BK
     | some n =>
      have hbg:=(HBg.out n rfl).1;obtain ⟨ni,⟨nx,ny⟩⟩:=n;simp only at hbg;replace HN:=AA (show ∀ W,AP wo W->Calls Tryz.prog 74 #[.agg #[.slice An nn cn,.slice Aa na ca,.slice Af nf cf],.int .i64 id] W fun e w'=>e=.returned (.tuple #[.agg #[.int .i64 ni,.int .i64 nx,.int .i64 ny],.bool true])/\AP W w' from HN.out);have hf:F=if ny=y then [⟨nx,nx+1⟩] else []:=HF.out.symm;have HF2:=AA hf;clear hf HF;go_wp2_with fail;refine (HN.out _ (bR wo)).mono ?_;rintro e w4 ⟨rfl,hb4⟩;have HB4:=AA hb4;clear hb4 X5 CJ CO CS G6 HN;go_upto_region 13 with fail;obtain ⟨W5,hW⟩:∃ W:World,W=w4.alloc (.cells #[.int .i64 ni,.int .i64 nx,.int .i64 ny] 45):=⟨_,rfl⟩;have X17:AO W5 w4.heap.size 45 #[.int .i64 ni,.int .i64 nx,.int .i64 ny]:=by rw [hW];exact AO.made rfl _ _
      have HRv:=AA (O7.out.step (DT _) (show AP wo W5 by rw [hW];exact bA HB4.out _));obtain ⟨g17,h17⟩:∃ g,w4.heap.size=g:=⟨_,rfl⟩;rw [<- hW]
      try rw [h17]
      rw [h17] at X17;clear hW h17 O7 HB4;obtain ⟨⟨vt,vc,hst⟩,hkp,hbw⟩:=HRv.out;have DI:=AA hst;have Tv:=AA hkp;have EY:=AA hbw;have XR:=hst.row;clear hst hkp hbw HRv;obtain ⟨azo,azp,azq,azr,-,-,-⟩:=X17.BF;obtain ⟨y7,wU,-⟩:=XR.Fa;by_cases hy:ny=y
      ·have hf:=HF2.out;rw [AZ hy] at hf;subst hf;subst hy;have hll:((Gz p b).flatMap (Q5 ny)++(CU.take k).flatMap (Q7 p.nodes ny)).length<=40000:=by
        have:=lD (Q5 ny) (afb ny) (Gz p b)
        have:=QB.out
        rw [EC];omega
       obtain ⟨L,hL⟩:=BL ((Gz p b).flatMap (Q5 ny)++(CU.take k).flatMap (Q7 p.nodes ny));rw [hL] at DI hll;have HL:=AA hL;obtain ⟨At,ct,hvt,-⟩:=DI.out.tkn.own.sl;subst hvt;have hB5:w2.heap.size<=W5.heap.size:=Tv.out.size;have LD:=DI.out.tkn.box;have qM:=AA LD;have kw:IntKind.i64.wrap (nx+1)=nx+1:=Ci _ AB;have hsh:(L++[(⟨nx,nx+1⟩:Rn)]).length=L.length+1:=by simp
       have DL:=AA hsh;clear hL hsh HF2;obtain ⟨VP,VQ,alb⟩:=LD.Fa;go_wp2_with
        (at_builtin
         refine Ew _ rfl (.tmp 54) (.tmp 63) _ rfl (base:=w2.heap.size) YW Xo YV rfl (Own.alloc DI.out.tkn.own _) rfl (l2:=[(⟨nx,nx+1⟩:Rn)]) (Sl.lit (n:=1) (AO.made rfl _ _) rfl (D6 AB)) DR DR DC ?_;intro v3 w3 ho3 hg3 Jc;obtain ⟨A3,c3,hv3,-⟩:=ho3.sl;rw [DL.out] at hv3;subst hv3;have HG:=AA (DI.out.aeJ Tv.out.size hg3 ho3);have Pv:=AO.grown (qM.out.alloc _) hg3 (fun e=>Own.Dz DI.out.tkn.own qM.out BG e.symm);clear ho3 hg3 Jc LD VP VQ alb;obtain ⟨bI,bJ,bK⟩:=Pv.Fa
         )
       go_roundw
       case rel => exact ⟨k+1,AB,BI,⟨⟨_,_,by rw [HTs.out,<- JR,HL.out];exact HG.out.1⟩,Tv.out.trans HG.out.2,HG.out.2.below w EY.out hw2 AB AB⟩⟩
       case measure => exact BK
      ·have hf:=HF2.out;rw [AX hy] at hf;have HFn:=AA hf;clear hf HF2;go_wp2;go_roundw
       case rel => exact ⟨k+1,AB,BI,by rw [HTs.out,HFn.out,IQ];exact ⟨⟨_,_,DI.out⟩,Tv.out,EY.out⟩⟩
       case measure => exact BK
    ·obtain rfl:k=CU.length:=by omega
     have qN:=O7.out;rw [H8,<- ku.out] at qN;obtain ⟨⟨vt,vc,hst⟩,hkp,hbw⟩:=qN;have hlt1:((Gz p b).flatMap (Q5 y)++aS p b y).length<=40000:=by
      have h1:=lD (Q5 y) (afb y) (Gz p b);have h2:=lD (Q7 p.nodes y) (am8 p.nodes y) CU;have h3:=QB.out;rw [ku.out,EC];omega
     have alc:((Gz p b).flatMap (IX y)).length<=33280:=Dn (lD (IX y) (am7 y) (Gz p b)) QB.out;have hr0:=HR.out;obtain ⟨L,hL⟩:=BL ((Gz p b).flatMap (Q5 y)++aS p b y);obtain ⟨M,hM⟩:=BL ((Gz p b).flatMap (IX y));rw [hL] at hst hlt1 hr0;rw [hM] at hst alc hr0;have HR2:=AA hr0;have DI:=AA hst;have Tv:=AA hkp;have EY:=AA hbw;obtain ⟨wB,rfl⟩:=BO wo;clear hL hM hr0 hst hkp hbw HR O7 bV ZI QB OJ ku HAi D8;obtain ⟨Am,cm,uY,hm1,hm2,-⟩:=DI.out.Kw.own.sl;subst uY;have X9:=DI.out.Kw.box;obtain ⟨Gv,Gw,-⟩:=X9.Fa;have qO:=DI.out.Kw.own;go_wp2_with fail;refine (PZ.out w2.heap.size _ M _ qO AB).mono ?_;rintro e w3 ⟨rfl,hq,hg3⟩;have ald:=Own.Dz qO DI.out.Kw.box BG;have hB3:AP w w3:=bG EY.out hg3 (fun k hk=>Dn hw2 (qO.lt k hk).1);have HQo:=AA hq;have Kq:=AA (AO.grown DI.out.Kw.box hg3 (fun e=>ald e.symm));have dV:=AA (AO.grown DI.out.tkn.box hg3 (fun e=>Own.Dz qO DI.out.tkn.box BG e.symm));have HTo:=AA (Own.grown DI.out.tkn.own hg3 (fun g hg=>Own.apart DI.out.tkn.own qO BG g hg));have HB3:=AA hB3;have hq2:=atN M;have TQ:=aij M;obtain ⟨Q,hQ⟩:=BL (Py M);rw [hQ] at HQo hq2 TQ;rw [<- hq2] at HR2;rw [<- TQ] at alc Kq HQo ⊢;obtain ⟨wC,rfl⟩:=BO w3;clear hQ hq2 TQ hq hg3 qO ald hB3 DI Tv EY X9 Gv Gw PZ;go_upto_block 4 with fail;go_wp2_with fail;go_loopw [19,10] (fun i s wr=>∃ (j:Nat) (O:List Rn),j<=Q.length/\i=.int .i64 ((j:Int)+1)/\(∃ A c,s=.slice A O.length c)/\Own wr wC.heap.size 121 2 G9 s O/\(∃ m,j=2*m/\O=Jj (Q.take j))/\AP wC wr) (fun i _ _=>Q.length-(intOf i).toNat)
     case atStart => exact ⟨0,[],BZ _,rfl,⟨_,_,rfl⟩,Own.nil _ _ _ _ _,⟨0,rfl,rfl⟩,bR wC⟩
     case round =>
      obtain ⟨j,O,hj,rfl,⟨Ao,co,rfl⟩,qx,hjm,Ec⟩:=hrel;obtain ⟨wo,rfl⟩:=BO wr;have TI:=AA qx;have HJm:=AA hjm;have F7:=AA Ec;have X9:=Kq.out.keep Ec;have abJ:=Ec.size;have hOl:O.length<=40000:=by
       obtain ⟨m,-,rfl⟩:=hjm;have:=ala _ (Q.take j) (DT _)
       have:=aav j Q
       omega
      clear qx hjm Ec;by_cases hlt:j+1<Q.length
      ·obtain ⟨Aq,cq,he,-,-,hRq⟩:=HQo.out.sl;injection he with q1 q2 q3;subst q1 q3;clear q2;obtain ⟨b',o',rfl,hlb,c0⟩:=Row.int hRq (k:=j) AB;obtain ⟨b'',o'',he,-,c1⟩:=Row.int hRq hlt;injection he with he;injection he with q1 q2 _;subst q1 q2;replace c0:=Dv F7.out c0;replace c1:=Dv F7.out c1;have KX:=Kq.out.lt;have hlo:b'<wo.heap.size:=L9 hlb abJ;have hgt:∀ m,j=2*m->Jj (Q.take (j+2))=Jj (Q.take j)++J9 (Q[j]'(by omega)) Q[j+1]:=fun m hm=>by
        subst hm;exact alY m Q hlt
       have HGt:=AA hgt;clear hgt hRq;generalize Q[j+1]=x2 at *;generalize Q[j]=x1 at *;have k2:IntKind.i64.wrap ((j:Int)+1-1)=j:=by rw [show (j:Int)+1-1=j by omega];exact Ci _ AB
       have k3:(j:Int)<Q.length:=by omega
       have k8:IntKind.i64.wrap (j:Int)=j:=Ci _ AB;have k4:0<=(j:Int):=by omega
       have k5:(j:Int)+1-1=j:=by omega
       have k6:(j:Int)+1<Q.length:=by omega
       have k7:0<=(j:Int)+1:=by omega
       try clear Gv Gw
       obtain ⟨Gv,Gw,-⟩:=X9.Fa;go_upto_region 20 with fail;refine Cj (wo) (.run 10 0 0 (.done)) fun Bv QR Ae Ah hS=>?_
       iterate 10 refine Aj ?_
       refine Ce ?_;clear hS Ah Ae;intro hB;skip;obtain ⟨wd,hwd⟩:=BO wo.drew;have ale:=AA (X9.keep hB);have V7:=AA (TI.out.keep hB);have Nj:=AA (bT F7.out hB);have d0:=Dv hB c0;have d1:=Dv hB c1;have hld:b'<wd.heap.size:=by rw [hwd];exact L9 (L9 hlb abJ) hB.size
       have apV:wC.heap.size<=wd.heap.size:=by rw [hwd];exact Dn abJ hB.size
       rw [<- hwd] at ale V7 Nj d0 d1 ⊢;clear hwd hB X9 Gv Gw c0 c1 TI F7 abJ hlo;have X9:=ale.out;by_cases hx:x1<x2
       ·have hsh:(O++[(⟨x1,x2⟩:Rn)]).length=O.length+1:=by simp
        have DL:=AA hsh;clear hsh
        try clear Gv Gw
        obtain ⟨Gv,Gw,-⟩:=X9.Fa;go_upto_region 21 with fail;refine QK (wC.heap.size) (wd) (.run 11 0 0 (.call 11 4095 (.call 12 8191 (.take 13 16383 (.done))))) fun Bv QR Ae Ah hS=>?_
        iterate 11 refine Aj ?_
        refine BP ?_;clear hS;intro K hK AQ;go_simp;refine hK.out _ _ (Gj AB AQ.out _) (fun hS=>?_);clear hK K AQ
        try simp only [pu]
        refine BP ?_;clear hS;intro K hK AQ;refine IZ (.tmp 84) (.tmp 95) _ rfl (base:=wC.heap.size) (l:=O) (l2:=[⟨x1,x2⟩]) YW Xo YV rfl (Own.alloc (V7.out.keep (bD (bR wd))) _) rfl (Sl.lit (n:=1) (AO.made rfl _ _) rfl (D6 AB)) DR DR DC ?_;intro v9 wn oO hgn ae4;obtain ⟨A9,c9,xW,-⟩:=Own.IE oO;rw [DL.out] at xW;subst xW;have ae5:=AA oO;have hS:Fb wC.heap.size wd wn:=Below.grown (Below.alloc (Below.drew (Below.refl _ _)) DC _) hgn DC (fun g hg=>(V7.out.lt g hg).1);clear oO hgn ae4;clear AQ;refine hK.out _ _ hS (fun _=>?_);clear hK K
        try simp only [pu]
        refine Aj ?_;refine KW ?_;clear hS Ah Ae;intro hB;go_wp2;go_roundw
        case rel => exact ⟨j+2,O++[⟨x1,x2⟩],AB,BI,⟨A9,c9,by rw [DL.out]⟩,ae5.out,(by obtain ⟨m,h1,h2⟩:=HJm.out;exact ⟨m+1,AB,by rw [HGt.out m h1,<- h2];unfold J9;rw [AZ hx]⟩),Below.trans Nj.out hB⟩
        case measure => exact BK
       ·go_wp2;go_roundw
        case rel => exact ⟨j+2,O,AB,BI,⟨_,_,rfl⟩,V7.out,(by obtain ⟨m,h1,h2⟩:=HJm.out;exact ⟨m+1,AB,by rw [HGt.out m h1,<- h2];unfold J9;rw [AX hx,IQ]⟩),Nj.out⟩
        case measure => exact BK
      ·obtain ⟨m,h1,h2⟩:=HJm.out;have hOe:O=Jj Q:=by
        rw [h2,h1];exact alZ m Q AB AB
       have hr:=HR2.out;rw [<- hOe] at hr;have Xb:=AA hr;have MV:=AA (bT HB3.out F7.out);obtain ⟨At,ct,hvt,-⟩:=HTo.out.sl;subst hvt;have LD:=dV.out.keep F7.out;have HTf:=AA (HTo.out.keep F7.out);clear hr hOe h2 HJm Kq HQo dV HTo HB3 HR2
       try clear Gv Gw
       obtain ⟨Gv,Gw,-⟩:=X9.Fa
       try clear VP VQ
       try clear alb
       obtain ⟨VP,VQ,-⟩:=LD.Fa;by_cases h0:O.length=0
       ·have hO:O=[]:=List.length_eq_zero_iff.1 h0;have hz:((O.length:Nat):Int)=0:=by omega
        have hr:=Xb.out;rw [hO,awf] at hr;have HR0:=AA hr;clear hr hO;go_wp2;go_ret;exact ⟨none,0,by rw [HR0.out];rfl,by rw [HR0.out];exact Own.nil _ _ _ _ _,MV.out⟩
       ·have hz:¬ ((O.length:Nat):Int)=0:=by omega
        go_wp2_with fail;refine (NT.out _ _ O L wo TI.out.sl HTf.out.sl AB AB).mono ?_;rintro e w5 ⟨A,c,rfl,DY,hb5⟩;rw [<- Xb.out] at DY ⊢;have Fh:=AA DY;have CW:=AA (bT MV.out hb5);have hsz5:=MV.out.size;clear DY hb5;go_wp2;go_ret;exact ⟨A,c,rfl,Fh.out.Du hsz5,CW.out⟩
def qP (o:Option Pt):Value:=match o with
 | none=>.tuple #[.agg #[.int .i64 0,.int .i64 0],.bool false]
 | some v=>.tuple #[.agg #[.int .i64 v.x,.int .i64 v.y],.bool true]
def afc (p:Pl) (b:Option (List Int)) (y:Int):Option Pt:=((aT (Uu p b y)).2).map fun x=>⟨x,y⟩
theorem Valid.awo {p:Pl} (h:Valid p) {X:List Int} (hX:X∈Bj p) {y:Int} {r:Rn} (hr:r∈Uu p (some X) y):(-2097152<=r.lo/\r.lo<=2097152)/\(-2097152<=r.hi/\r.hi<=2097153):=by
 have hv:MN (Uu p (some X) y):=(aeQ _ _ (oD _).1 (oD _).1).1;have h0:=hv.1 r hr;have n1:=h.amJ hX (y:=y) (x:=r.lo) ⟨r,hr,L8 _,h0⟩;have n2:=h.amJ hX (y:=y) (x:=r.hi-1) ⟨r,hr,AB,AB⟩;rw [Qq] at n1 n2;simp only at n1 n2;omega
theorem awp (v:Value) (p:Pl) (w:World) (h:Cb w v p) (hv:Valid p) (gm:Nat) (f:Int->SV) (hpm:QT w gm p f) (x:AD) (X:List Int) (hX:X∈Bj p)
  (ho:Ints w (BJ x.ov) x.out) (hi:Sl w (BJ x.iv) x.inn.length (x.inn.flatMap Ib)) (hc:∀ c∈x.inn,Ints w (BJ c.2) c.1) (ha:Ints w (BJ x.av) x.CU) (hcy:(MQ x).map (·.1)=Jq p (some X)) (hal:x.CU=ak p (some X)) (y:Int) :
  Calls Tryz.prog 82 #[.map (some gm),v,.agg #[.int .i64 x.tw,BJ x.ov,BJ x.iv,BJ x.av],.int .i64 y] w fun e w'=>e=.returned (qP (afc p (some X) y))/\AP w w':=by
 have hb:some X∈Ji p:=Gn _ (Gs hX);have O7:=AA (fun W (hW:AP w W)=>awn v p W (h.mono hW) hv gm f (hpm.keep hW) x (some X) hb (ho.mono hW) (hi.mono hW) (fun c hc'=>(hc c hc').mono hW) (ha.mono hW) hcy hal y);have Nj:=AA (fun r hr=>hv.awo hX (y:=y) (r:=r) hr);obtain ⟨R,hR⟩:=BL (Uu p (some X) y);unfold afc;rw [hR] at O7 Nj ⊢;clear hR hb hpm hX ho hi hc ha hcy hal hv;obtain ⟨_,_,_,al,rfl,-,⟨An,cn,rfl,-⟩,⟨⟨Aa,ca,rfl,-⟩,-⟩,⟨Af,cf,rfl,-⟩⟩:=h;obtain ⟨tw,out,⟨oa,on,oc⟩,inn,⟨ia,FY,ic⟩,CU,⟨aa,an,ac⟩⟩:=x;unfold BJ at O7 ⊢;simp only at O7 ⊢;generalize p.nodes.length=nn at *;generalize al.length=na at *;generalize p.faces.length=nf at *;obtain ⟨q,hq⟩:=BL (((aT R).2.map fun x=>(⟨x,y⟩:Pt)));rw [hq];have HQ:=AA hq;clear hq;go_enter Tryz.func82,Tryz.ntmps82;go_upto_region 2 with fail;obtain ⟨W1,hW⟩:∃ W:World,W=((w.alloc (.cells #[.slice An nn cn,.slice Aa na ca,.slice Af nf cf] 26)).alloc (.cells #[.int .i64 tw,.slice oa on oc,.slice ia FY ic,.slice aa an ac] 82)).alloc (.cells #[.int .i64 0,.int .i64 0] 39):=⟨_,rfl⟩;have X5:AO W1 w.heap.size 26 #[.slice An nn cn,.slice Aa na ca,.slice Af nf cf]:=by rw [hW];exact ((AO.made rfl _ _).alloc _).alloc _
 have X6:AO W1 (w.heap.size+1) 82 #[.int .i64 tw,.slice oa on oc,.slice ia FY ic,.slice aa an ac]:=by rw [hW];exact (AO.made Aw _ _).alloc _
 have X8:AO W1 (w.heap.size+1+1) 39 #[.int .i64 0,.int .i64 0]:=by rw [hW];exact AO.made Aw _ _
 have HA:=AA (show AP w W1 by rw [hW];exact bA (bA (bA (bR w) _) _) _);rw [<- hW];clear hW;obtain ⟨g8,h8⟩:∃ g,w.heap.size+1+1=g:=⟨_,rfl⟩;have Nv:w.heap.size<=g8:=by omega
 rw [h8] at X8 ⊢;have Yr:=AA X8;clear h8 X8;obtain ⟨CJ,CO,CS,G6,-,-,-⟩:=X5.BF;obtain ⟨EF,EG,EH,Nb,Sj,-,-,-,-⟩:=X6.MC;go_wp2_with fail;refine (O7.out _ HA.out).mono ?_;rintro e w2 ⟨A,c,rfl,hown,hb2⟩;have HO:=AA (hown.Du HA.out.size);have HB2:=AA (bT HA.out hb2);have HX:=AA (Yr.out.keep hb2);have hRl:R.length<=9223372036854775807:=by
  obtain ⟨_,_,_,h1,h2,-⟩:=hown.sl;unfold maxLen at h2;omega
 clear hown hb2 Yr O7 HA X5 CJ CO CS G6 X6 EF EG EH Nb Sj;go_upto_block 0 with fail;go_wp2_with fail;go_loopw [20,10,9] (fun i m ok wr=>∃ (k:Nat) (s:Int×Option Int),k<=R.length/\i=.int .i64 k/\aT (R.take k)=s/\m=.int .i64 s.1/\ok=.bool s.2.isSome/\Own wr w.heap.size 121 2 G9 (.slice A R.length c) R/\AO wr g8 39 #[.int .i64 (s.2.getD 0),.int .i64 (if s.2.isSome=true then y else 0)]/\AP w wr) (fun i _ _ _=>R.length-(intOf i).toNat)
 case atStart => exact ⟨0,(0,none),BZ _,rfl,rfl,rfl,rfl,HO.out,HX.out,HB2.out⟩
 case round =>
  obtain ⟨k,s,hk,rfl,hs,rfl,rfl,hO,X8,hbw⟩:=hrel;obtain ⟨wo,rfl⟩:=BO wr;have EU:=AA hO;have CG:=AA X8;have EY:=AA hbw;by_cases hlt:k<R.length
  ·obtain ⟨A',c',he,-,-,IC⟩:=hO.sl;injection he with q1 q2 q3;subst q1 q3;clear q2;obtain ⟨b',o',rfl,hlb,c0,c1⟩:=IC.rn hlt;have hst:=awg hlt;rw [hs] at hst;have hbd:=Nj.out _ (BH hlt);generalize R[k]=r at *;obtain ⟨lo,hi⟩:=r;obtain ⟨m0,o⟩:=s;simp only at c0 c1 hbd;unfold aeI at hst;simp only at hst;have DI:=AA hst;have k1:IntKind.i64.wrap (hi-lo)=hi-lo:=Ci _ AB;have k2:IntKind.i64.wrap (lo+hi)=lo+hi:=Ci _ AB;have k3:IntKind.i64.wrap (lo+hi-1)=lo+hi-1:=Ci _ AB;clear hs hst hO IC HO HX HB2 hbw;by_cases hgt:m0<hi-lo
   ·have hst:=DI.out;rw [AZ hgt] at hst;have Un:=AA hst;have O1:=X8;clear hst DI;obtain ⟨Nc,Nh,O1,abK,abL⟩:=X8.BN;go_wp2_with fail;have hne:=Own.Dz EU.out CG.out BG;go_roundw
    case measure => exact BK
    case rel => exact ⟨k+1,_,AB,BI,Un.out,rfl,rfl,((EU.out.far (p:=⟨g8,0,none⟩) hne _).far (p:=⟨g8,1,none⟩) hne _).alloc _,(AO.QI CG.out).alloc _,bA (bS (p:=⟨g8,1,none⟩) (bS (p:=⟨g8,0,none⟩) EY.out Nv _) Nv _) _⟩
   ·have hst:=DI.out;rw [AX hgt] at hst;have Un:=AA hst;clear hst DI;go_wp2;go_roundw
    case measure => exact BK
    case rel => exact ⟨k+1,_,AB,BI,Un.out,rfl,rfl,EU.out.alloc _,CG.out.alloc _,bA EY.out _⟩
  ·obtain rfl:k=R.length:=by omega
   rw [H8] at hs;have hq:=HQ.out;rw [hs] at hq;have Ku:=AA hq;clear hs hq HQ hO;obtain ⟨m0,o⟩:=s;simp only at X8 Ku CG;have hl8:=X8.lt
   cases o with
   | none =>
    have HR:=AA (show q=none from Ku.out.symm);simp only [rV,fK,Rt,if_false] at X8 CG
    try clear Nc Nh O1
    try clear abK abL
    obtain ⟨Nc,Nh,O1,abK,abL⟩:=X8.BN;go_wp2_with fail;refine LG (t:=39) (g:=g8) (cs:=#[.int .i64 0,.int .i64 0]) rfl XB rfl rfl (AO.QI CG.out) ⟨by rw [HR.out];rfl,bS (p:=⟨g8,1,none⟩) (bS (p:=⟨g8,0,none⟩) EY.out Nv _) Nv _⟩
   | some z =>
    have HR:=AA (show q=some ⟨z,y⟩ from Ku.out.symm);simp only [Gp,VH,if_true] at X8 CG
    try clear Nc Nh O1
    try clear abK abL
    obtain ⟨Nc,Nh,O1,abK,abL⟩:=X8.BN;go_wp2_with fail;refine LG (t:=39) (g:=g8) (cs:=#[.int .i64 z,.int .i64 y]) rfl XB rfl rfl (AO.QI CG.out) ⟨by rw [HR.out];rfl,bS (p:=⟨g8,1,none⟩) (bS (p:=⟨g8,0,none⟩) EY.out Nv _) Nv _⟩
def eP (x:Bx):Array Value:=#[.int .i64 x.x0,.int .i64 x.y0,.int .i64 x.x1,.int .i64 x.y1]
theorem awq (v:Value) (l:List Pt) (w:World) (h:Dq w v l) (hne:0<l.length):Calls Tryz.prog 81 #[v] w fun e w'=>e=.returned (.agg (eP (Ou l)))/\AP w w':=by
 obtain ⟨A,c,rfl,hn1,hn2,hR⟩:=h;unfold maxLen at hn2;have HR:=AA hR;obtain ⟨b,o,rfl,hlb,c0,c1⟩:=hR.pt hne;simp only [lN,VJ] at c0 c1;obtain ⟨R,hRr⟩:=BL (Ou l);rw [hRr];have hR2:l.foldl OQ ⟨l[0].x,l[0].y,l[0].x,l[0].y⟩=R:=by
  rw [<- hRr]
  cases l with
  | nil=>cases hne
  | cons a l=>rfl
 obtain ⟨p0,hp0⟩:=BL (l[0]);rw [hp0] at c0 c1 hR2;have Kr:=AA hR2;have hk0:(0:Int)<l.length:=by omega
 have hkn:¬ l=[]:=fun e=>by rw [e] at hne;cases hne
 have hkz:((l.length:Int) == 0)=false:=by rw [beq_eq_false_iff_ne];omega
 have azs:(l.length == 0)=false:=by rw [beq_eq_false_iff_ne];omega
 clear hR hRr hR2 hp0;go_enter Tryz.func81,Tryz.ntmps81;go_upto_region 1 with fail;obtain ⟨W1,hW⟩:∃ W:World,W=w.alloc (.cells #[.int .i64 0,.int .i64 0,.int .i64 0,.int .i64 0] 73):=⟨_,rfl⟩;obtain ⟨g2,hg2⟩:=BL w.heap.size;have X2:AO W1 g2 73 #[.int .i64 0,.int .i64 0,.int .i64 0,.int .i64 0]:=by rw [hW];exact AO.made hg2.symm _ _
 have hA:AP w W1:=by rw [hW];exact bA (bR w) _
 have HB1:=AA hA;rw [<- hW];replace c0:=Dv hA c0;replace c1:=Dv hA c1;have wQ:b<W1.heap.size:=by have:=hA.size;omega
 have hbg:some b≠some g2:=fun e=>by have:=Dc e;omega
 have CG:=AA X2;have hgw:w.heap.size<=g2:=by omega
 clear hW hA
 try rw [hg2]
 obtain ⟨BQ,BR,BX,CZ,uG,XI,iy,qV,afd⟩:=X2.MC;go_upto_region 3 with fail;refine Vp (W1) (some g2) (.run 17 0 0 (.call 17 262143 (.done))) fun Bv QR Ae Ah hS=>?_
 iterate 17 refine Aj ?_
 refine BP ?_;clear hS;intro K hK AQ;go_simp;refine hK.out _ _ (by first | exact gS AQ.out _ _ | (unfold JI;have QW:World.grownBy _ _ _:=AQ.out;repeat (first | with_reducible assumption | with_reducible exact World.grownBy.refl _ _ | with_reducible refine gS ?_ _ _ | with_reducible refine gD ?_ | with_reducible refine gA ?_ _))) (fun hS=>?_);clear hK K AQ
 try simp only [pu]
 refine Ry ?_;clear hS Ah Ae;intro hB;skip;have Nj:=AA (show Below g2 W1 W1.drew from Below.drew (Below.refl g2 W1));clear hB c0 c1 BQ BR BX CZ uG XI iy qV afd;go_wp2_with fail;go_loopw [28] (fun u wr=>∃ (k:Nat) (x:Bx),k<=l.length/\u=.int .i64 k/\x=(l.take k).foldl OQ ⟨p0.x,p0.y,p0.x,p0.y⟩/\AO wr g2 73 #[.int .i64 x.x0,.int .i64 x.y0,.int .i64 x.x1,.int .i64 x.y1]/\Below g2 W1 wr) (fun u _=>l.length-(intOf u).toNat)
 case atStart => exact ⟨0,⟨p0.x,p0.y,p0.x,p0.y⟩,BZ _,rfl,rfl,AO.gX CG.out.drew,(((Nj.out.setCell (p:=⟨g2,0,none⟩) (DT _) _).setCell (p:=⟨g2,1,none⟩) (DT _) _).setCell (p:=⟨g2,2,none⟩) (DT _) _).setCell (p:=⟨g2,3,none⟩) (DT _) _⟩
 case round =>
  obtain ⟨k,x,hk,rfl,hx,X3,hb⟩:=hrel;obtain ⟨wo,rfl⟩:=BO wr;have Hb:=AA hb;have HX:=AA hx;have zO:=AA X3;have l3:=X3.lt;have EY:=AA (show AP w wo from HB1.out.trans (hb.mono hgw));clear hb hx;by_cases hlt:k<l.length
  ·obtain ⟨b',o',hA',Rz,c0,c1⟩:=(HR.out.mono EY.out).pt hlt;injection hA' with hA';injection hA' with y1 y2 _;subst y1 y2;have hst:(l.take (k+1)).foldl OQ ⟨p0.x,p0.y,p0.x,p0.y⟩=OQ x l[k]:=by
    rw [En hlt,O9,<- HX.out];rfl
   unfold OQ at hst;have DI:=AA hst;generalize l[k]=p at *;clear hst;go_upto_region 7 with fail;obtain ⟨W2,hW2⟩:∃ W:World,W=wo.alloc (.cells #[.int .i64 p.x,.int .i64 p.y] 39):=⟨_,rfl⟩;have hA1:AP wo W2:=by rw [hW2];exact bA (bR wo) _
   obtain ⟨g5,hg5⟩:=BL wo.heap.size;have X5:AO W2 g5 39 #[.int .i64 p.x,.int .i64 p.y]:=by rw [hW2];exact AO.made hg5.symm _ _
   have HB2:=AA (show Below g2 W1 W2 by rw [hW2];exact Hb.out.alloc (by have:=Hb.out.size;have:=CG.out.lt;omega) _);have n5:¬ g5=g2:=by omega
   have DJ:=AA (zO.out.keep hA1);have D8:=AA X5;rw [<- hW2]
   try rw [hg5]
   clear hW2 hA1 hg5 X3 c0 c1 zO Hb EY;have X4:=DJ.out;obtain ⟨Bh,Bl,CV,FB,JV,Dl,Ey,Ia,OD⟩:=X4.MC;obtain ⟨CJ,CO,CS,-,-⟩:=X5.BN;go_cut [33] (fun u wx=>AO wx g2 73 #[.int .i64 (min x.x0 p.x),.int .i64 x.y0,.int .i64 (max x.x1 p.x),.int .i64 x.y1]/\AO wx g5 39 #[.int .i64 p.x,.int .i64 p.y]/\Below g2 W1 wx)
   case first =>
    obtain ⟨m1,hm1⟩:=BO (if p.x<x.x0 then p.x else x.x0);obtain ⟨m2,hm2⟩:=BO (if x.x1<p.x then p.x else x.x1);have hfin:AO (((W2.setCell ⟨g2,0,none⟩ (.int .i64 m1)).setCell ⟨g2,2,none⟩ (.int .i64 m2))).drew g2 73 #[.int .i64 (min x.x0 p.x),.int .i64 x.y0,.int .i64 (max x.x1 p.x),.int .i64 x.y1]/\AO (((W2.setCell ⟨g2,0,none⟩ (.int .i64 m1)).setCell ⟨g2,2,none⟩ (.int .i64 m2))).drew g5 39 #[.int .i64 p.x,.int .i64 p.y]/\Below g2 W1 (((W2.setCell ⟨g2,0,none⟩ (.int .i64 m1)).setCell ⟨g2,2,none⟩ (.int .i64 m2))).drew:=by
     refine ⟨?_,((D8.out.far (p:=⟨g2,0,none⟩) n5 _).far (p:=⟨g2,2,none⟩) n5 _).drew,((HB2.out.setCell (p:=⟨g2,0,none⟩) (DT _) _).setCell (p:=⟨g2,2,none⟩) (DT _) _).drew⟩;have h:=AO.EW (AO.EW DJ.out 0 (.int .i64 m1)) 2 (.int .i64 m2);have e1:min x.x0 p.x=m1:=by rw [hm1];split<;>omega
     have e2:max x.x1 p.x=m2:=by rw [hm2];split<;>omega
     rw [e1,e2];refine AO.drew ?_;simpa using h
    have Vx:=AA hfin;have zQ:=AA hm1;have zS:=AA hm2;have zT:=AA (show min x.x0 p.x=m1 by rw [hm1];split<;>omega);have zU:=AA (show max x.x1 p.x=m2 by rw [hm2];split<;>omega);clear hfin hm1 hm2;go_upto_region 7 with fail;refine Vp (W2) (some g2) (.take 0 1 (.take 2 5 (.take 3 13 (.take 5 45 (.take 7 173 (.take 8 429 (.two 1 431 (.take 4 447 (.call 6 511 (.take 9 1023 (.take 10 2047 (.call 11 4095 (.take 12 8191 (.call 13 16383 (.done)))))))) 6 493 (.take 9 1005 (.call 1 1007 (.take 4 1023 (.take 10 2047 (.call 11 4095 (.take 12 8191 (.call 13 16383 (.done))))))))))))))) fun Bv QR Ae Ah hS=>?_
    iterate 6 refine Aj ?_
    refine Oc (i:=1) (j:=6) (Ej Ae rfl) (Ej Ae rfl) (fun K hK=>?_) (fun K hK=>?_)
    ·have AQ:=AA hS;clear hS;refine FQ (FM rfl) ?_;go_simp;refine hK.out _ _ AQ.out (fun hS=>?_);clear hK K AQ
     try simp only [pu]
     refine Aj ?_;refine BP ?_;clear hS;intro K hK AQ;go_simp;refine hK.out _ _ AQ.out (fun hS=>?_);clear hK K AQ
     try simp only [pu]
     iterate 2 refine Aj ?_
     refine BP ?_;clear hS;intro K hK AQ;go_simp;refine hK.out _ _ (by first | exact gS AQ.out _ _ | (unfold JI;have QW:World.grownBy _ _ _:=AQ.out;repeat (first | with_reducible assumption | with_reducible exact World.grownBy.refl _ _ | with_reducible refine gS ?_ _ _ | with_reducible refine gD ?_ | with_reducible refine gA ?_ _))) (fun hS=>?_);clear hK K AQ
     try simp only [pu]
     refine Aj ?_;refine BP ?_;clear hS;intro K hK AQ;go_simp;refine hK.out _ _ (by first | exact gS AQ.out _ _ | (unfold JI;have QW:World.grownBy _ _ _:=AQ.out;repeat (first | with_reducible assumption | with_reducible exact World.grownBy.refl _ _ | with_reducible refine gS ?_ _ _ | with_reducible refine gD ?_ | with_reducible refine gA ?_ _))) (fun hS=>?_);clear hK K AQ
     try simp only [pu]
     refine Ry ?_;clear hS Ah Ae;intro hB
     first | rw [<- zQ.out,<- zS.out] | rw [zT.out,zU.out]
     go_wp2;go_meet
     case rel => exact Vx.out
    ·have AQ:=AA hS;clear hS;refine FQ (FM rfl) ?_;go_simp;refine hK.out _ _ AQ.out (fun hS=>?_);clear hK K AQ
     try simp only [pu]
     refine Aj ?_;refine BP ?_;clear hS;intro K hK AQ;go_simp;refine hK.out _ _ AQ.out (fun hS=>?_);clear hK K AQ
     try simp only [pu]
     iterate 2 refine Aj ?_
     refine BP ?_;clear hS;intro K hK AQ;go_simp;refine hK.out _ _ (by first | exact gS AQ.out _ _ | (unfold JI;have QW:World.grownBy _ _ _:=AQ.out;repeat (first | with_reducible assumption | with_reducible exact World.grownBy.refl _ _ | with_reducible refine gS ?_ _ _ | with_reducible refine gD ?_ | with_reducible refine gA ?_ _))) (fun hS=>?_);clear hK K AQ
     try simp only [pu]
     refine Aj ?_;refine BP ?_;clear hS;intro K hK AQ;go_simp;refine hK.out _ _ (by first | exact gS AQ.out _ _ | (unfold JI;have QW:World.grownBy _ _ _:=AQ.out;repeat (first | with_reducible assumption | with_reducible exact World.grownBy.refl _ _ | with_reducible refine gS ?_ _ _ | with_reducible refine gD ?_ | with_reducible refine gA ?_ _))) (fun hS=>?_);clear hK K AQ
     try simp only [pu]
     refine Ry ?_;clear hS Ah Ae;intro hB
     first | rw [<- zQ.out,<- zS.out] | rw [zT.out,zU.out]
     go_wp2;go_meet
     case rel => exact Vx.out
   case rest =>
   obtain ⟨hx4,hx5,hb4⟩:=hcut;obtain ⟨wv,rfl⟩:=BO wc;have IV:=AA hx4;have Iw:=AA hx5;have HB4:=AA hb4;clear hx4 hx5 hb4 X4 Bh Bl CV FB JV Dl Ey Ia OD X5 CJ CO CS DJ D8 HB2;have X6:=IV.out;have X7:=Iw.out;obtain ⟨EF,EG,EH,Nb,Sj,XD,XE,avV,azt⟩:=X6.MC;obtain ⟨EK,EL,FN,-,-⟩:=X7.BN;obtain ⟨m1,hm1⟩:=BO (if p.y<x.y0 then p.y else x.y0);obtain ⟨m2,hm2⟩:=BO (if x.y1<p.y then p.y else x.y1);have hfin:AO (((wv.setCell ⟨g2,1,none⟩ (.int .i64 m1)).setCell ⟨g2,3,none⟩ (.int .i64 m2))).drew g2 73 #[.int .i64 (min x.x0 p.x),.int .i64 (min x.y0 p.y),.int .i64 (max x.x1 p.x),.int .i64 (max x.y1 p.y)]/\Below g2 W1 (((wv.setCell ⟨g2,1,none⟩ (.int .i64 m1)).setCell ⟨g2,3,none⟩ (.int .i64 m2))).drew:=by
    refine ⟨?_,((HB4.out.setCell (p:=⟨g2,1,none⟩) (DT _) _).setCell (p:=⟨g2,3,none⟩) (DT _) _).drew⟩;have h:=AO.EW (AO.EW IV.out 1 (.int .i64 m1)) 3 (.int .i64 m2);have e1:min x.y0 p.y=m1:=by rw [hm1];split<;>omega
    have e2:max x.y1 p.y=m2:=by rw [hm2];split<;>omega
    rw [e1,e2];refine AO.drew ?_;simpa using h
   have Vx:=AA hfin;have zQ:=AA hm1;have zS:=AA hm2;have zT:=AA (show min x.y0 p.y=m1 by rw [hm1];split<;>omega);have zU:=AA (show max x.y1 p.y=m2 by rw [hm2];split<;>omega);clear hfin hm1 hm2;go_upto_region 8 with fail;refine Vp (wv) (some g2) (.take 0 1 (.take 2 5 (.take 3 13 (.take 5 45 (.take 7 173 (.take 8 429 (.two 1 431 (.take 4 447 (.call 6 511 (.take 9 1023 (.take 10 2047 (.call 11 4095 (.take 12 8191 (.call 13 16383 (.done)))))))) 6 493 (.take 9 1005 (.call 1 1007 (.take 4 1023 (.take 10 2047 (.call 11 4095 (.take 12 8191 (.call 13 16383 (.done))))))))))))))) fun Bv QR Ae Ah hS=>?_
   iterate 6 refine Aj ?_
   refine Oc (i:=1) (j:=6) (Ej Ae rfl) (Ej Ae rfl) (fun K hK=>?_) (fun K hK=>?_)
   ·have AQ:=AA hS;clear hS;refine FQ (FM rfl) ?_;go_simp;refine hK.out _ _ AQ.out (fun hS=>?_);clear hK K AQ
    try simp only [pu]
    refine Aj ?_;refine BP ?_;clear hS;intro K hK AQ;go_simp;refine hK.out _ _ AQ.out (fun hS=>?_);clear hK K AQ
    try simp only [pu]
    iterate 2 refine Aj ?_
    refine BP ?_;clear hS;intro K hK AQ;go_simp;refine hK.out _ _ (by first | exact gS AQ.out _ _ | (unfold JI;have QW:World.grownBy _ _ _:=AQ.out;repeat (first | with_reducible assumption | with_reducible exact World.grownBy.refl _ _ | with_reducible refine gS ?_ _ _ | with_reducible refine gD ?_ | with_reducible refine gA ?_ _))) (fun hS=>?_);clear hK K AQ
    try simp only [pu]
    refine Aj ?_;refine BP ?_;clear hS;intro K hK AQ;go_simp;refine hK.out _ _ (by first | exact gS AQ.out _ _ | (unfold JI;have QW:World.grownBy _ _ _:=AQ.out;repeat (first | with_reducible assumption | with_reducible exact World.grownBy.refl _ _ | with_reducible refine gS ?_ _ _ | with_reducible refine gD ?_ | with_reducible refine gA ?_ _))) (fun hS=>?_);clear hK K AQ
    try simp only [pu]
    refine Ry ?_;clear hS Ah Ae;intro hB
    first | rw [<- zQ.out,<- zS.out] | rw [zT.out,zU.out]
    go_wp2;go_roundw
    case rel => exact ⟨k+1,_,AB,BI,DI.out.symm,Vx.out.1,Vx.out.2⟩
    case measure => exact BK
   ·have AQ:=AA hS;clear hS;refine FQ (FM rfl) ?_;go_simp;refine hK.out _ _ AQ.out (fun hS=>?_);clear hK K AQ
    try simp only [pu]
    refine Aj ?_;refine BP ?_;clear hS;intro K hK AQ;go_simp;refine hK.out _ _ AQ.out (fun hS=>?_);clear hK K AQ
    try simp only [pu]
    iterate 2 refine Aj ?_
    refine BP ?_;clear hS;intro K hK AQ;go_simp;refine hK.out _ _ (by first | exact gS AQ.out _ _ | (unfold JI;have QW:World.grownBy _ _ _:=AQ.out;repeat (first | with_reducible assumption | with_reducible exact World.grownBy.refl _ _ | with_reducible refine gS ?_ _ _ | with_reducible refine gD ?_ | with_reducible refine gA ?_ _))) (fun hS=>?_);clear hK K AQ
    try simp only [pu]
    refine Aj ?_;refine BP ?_;clear hS;intro K hK AQ;go_simp;refine hK.out _ _ (by first | exact gS AQ.out _ _ | (unfold JI;have QW:World.grownBy _ _ _:=AQ.out;repeat (first | with_reducible assumption | with_reducible exact World.grownBy.refl _ _ | with_reducible refine gS ?_ _ _ | with_reducible refine gD ?_ | with_reducible refine gA ?_ _))) (fun hS=>?_);clear hK K AQ
    try simp only [pu]
    refine Ry ?_;clear hS Ah Ae;intro hB
    first | rw [<- zQ.out,<- zS.out] | rw [zT.out,zU.out]
    go_wp2;go_roundw
    case rel => exact ⟨k+1,_,AB,BI,DI.out.symm,Vx.out.1,Vx.out.2⟩
    case measure => exact BK
  ·have hxr:x=R:=by rw [HX.out,Hw AB,Kr.out]
   have HXr:=AA hxr;clear hxr;obtain ⟨E5,Eo,F9,LC,KZ,bg,vU,alf,alg⟩:=X3.MC;go_wp2_with fail;refine gY (g:=g2) (cs:=#[.int .i64 x.x0,.int .i64 x.y0,.int .i64 x.x1,.int .i64 x.y1]) rfl anS rfl rfl (AO.gX zO.out) ⟨by rw [HXr.out];rfl,?_⟩;exact (((EY.out.setCell (p:=⟨g2,0,none⟩) hgw _).setCell (p:=⟨g2,1,none⟩) hgw _).setCell (p:=⟨g2,2,none⟩) hgw _).setCell (p:=⟨g2,3,none⟩) hgw _
