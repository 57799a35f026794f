import Derived.Test.YtialfdomhoojiaaGreatJ19
import Derived.Test.YtialfdomhoojiaaGreatJ13
import Derived.Test.YtialfdomhoojiaaGreatJ20
import Derived.Test.YtialfdomhoojiaaGreatJ32
import Derived.Test.YtialfdomhoojiaaGreatJ01
import Derived.Test.YtialfdomhoojiaaGreatJ30
import Derived.Test.YtialfdomhoojiaaGreatJ31
import Derived.Test.YtialfdomhoojiaaGreatJ14
import Derived.Test.YtialfdomhoojiaaGreatJ15
set_option linter.unusedSimpArgs false
set_option linter.unusedVariables false
namespace Go.Proofs.YtialfdomhoojiaaGreat
open Go.RowKit Go.Sort
structure BM (w:World) (B g1 g2 g3:Nat) (y:Int) (S:List (Pt×Pt)) (T:List Rn) (w2 W:World):Prop where
 st:∃ vt vc,wP W B g1 g2 g3 y (S.flatMap (oP y)++T) (S.flatMap (jl y)) vt vc
 kept:kF B g2 g3 w2 W
 below:Below w.heap.size w W
theorem BM.drew {w:World} {B g1 g2 g3:Nat} {y:Int} {S:List (Pt×Pt)} {T:List Rn} {w2 W:World} (h:BM w B g1 g2 g3 y S T w2 W):BM w B g1 g2 g3 y S T w2 W.drew:=by
 obtain ⟨⟨vt,vc,hs⟩,hk,hb⟩:=h;exact ⟨⟨vt,vc,hs.keep (bD (bR W))⟩,hk.trans ⟨fun w0 k _ _ _=>bD k,Nat.le_refl _,fun _ _ _ _=>rfl⟩,bD hb⟩
theorem kF.base {B g2 g3:Nat} {w W W':World} (h:kF B g2 g3 W W') (hb:Below w.heap.size w W) (k1:w.heap.size<=B) (k2:w.heap.size<=g2) (k3:w.heap.size<=g3):Below w.heap.size W W':=by
 have b:=h.below w hb k1 k2 k3;exact ⟨b.os.trans hb.os.symm,b.tape.trans hb.tape.symm,b.output.trans hb.output.symm,h.size,fun k hk=>h.blk k (Nat.lt_of_lt_of_le hk k1) (by omega) (by omega)⟩
theorem asB (w w2:World) (gm:Nat) (p:Pl) (f:Int->SV) (hpm:rO w gm p f) (hv:Valid p) (vc:Value) (X:List Int) (hX:Ints w vc X) (hd:∀ d∈X,d∈aQ p) (B g1 g2 g3:Nat) (y:Int) (S:List (Pt×Pt))
  (hl:S.length+(bP p X).length<=40000) (hB:B<=w2.heap.size) (hg1:g1<B) (k1:w.heap.size<=B) (k2:w.heap.size<=g2) (k3:w.heap.size<=g3) (W:World) (h0:BM w B g1 g2 g3 y S [] w2 W) :
  Calls Tryz.prog 79 #[.map (some gm),vc,.func (.func 202) #[] #[.pointer (some ⟨g1,0,none⟩),.pointer (some ⟨g2,0,none⟩),.pointer (some ⟨g3,0,none⟩)]] W fun e W'=>e=.returned (.tuple #[])/\BM w B g1 g2 g3 y (S++bP p X) [] w2 W':=by
 refine (anU w gm p f hpm hv vc X hX hd g1 g2 g3 (fun s W=>BM w B g1 g2 g3 y (S++s) [] w2 W) (fun s q=>s++[q]) (fun s W h=>h.below) (fun s W h=>h.drew) [] (fun S0 W q r hs h=>?_) W (by simpa using h0)).mono ?_
 ·rw [foldl_snoc,List.nil_append] at h ⊢;obtain ⟨⟨vt,vc,hst⟩,hk,hb⟩:=h;rw [List.append_nil] at hst;have hq:q∈bP p X:=by rw [hs];simp
  have hlen:(S++S0).length<=40000:=by
   have:=congrArg List.length hs
   simp only [List.length_append,List.length_cons] at this ⊢;omega
  have l1:=Ko (oP y) (ab6 y) (S++S0);have l2:=Ko (jl y) (aiB y) (S++S0);obtain ⟨a,ha,-,k,hk',rfl⟩:=hv.PW hd hq;refine (apg _ _ (hv.Vr ha (by omega)) (hv.Vr ha hk') y B g1 g2 g3 _ _ vt vc W hst (Nat.le_trans hB hk.size) hg1 (by omega) (by omega)).mono ?_;rintro e W' ⟨rfl,⟨vt',vc',hst'⟩,hk2⟩;refine ⟨rfl,⟨⟨vt',vc',?_⟩,hk.trans hk2,hk2.below w hb k1 k2 k3⟩,hk2.base hb k1 k2 k3⟩;rw [List.append_nil,<- List.append_assoc,List.flatMap_append,List.flatMap_append];simpa using hst'
 ·rintro e W' ⟨rfl,h,-⟩;rw [foldl_snoc,List.nil_append] at h;exact ⟨rfl,h⟩
theorem kF.own {B g2 g3:Nat} {W W':World} (h:kF B g2 g3 W W') {α:Type} {B0:Nat} {e:TypeId} {n:Nat} {f:α->List Value} {v:Value} {l:List α} (ho:Own W B0 e n f v l) (hB:W.heap.size<=B) (h1:v.ownBlock≠some g2) (h2:v.ownBlock≠some g3):Own W' B0 e n f v l:=by
 obtain ⟨h0,h3⟩:=ho;refine ⟨h0,?_⟩;rcases h3 with h3 | ⟨q,cap,cur,rfl,a1,a2,a3⟩
 · exact .inl h3
 · exact .inr ⟨q,cap,cur,rfl,a1,kF.keep h (cs:=cur) a2 (Nat.lt_of_lt_of_le (aj.lt a2) hB) (fun e=>h1 (by rw [e];rfl)) (fun e=>h2 (by rw [e];rfl)),a3⟩
theorem BM.step {w:World} {B g1 g2 g3:Nat} {y:Int} {S:List (Pt×Pt)} {T:List Rn} {w2 W W':World} (h:BM w B g1 g2 g3 y S T w2 W) (hB:B<=w2.heap.size) (hb:Below W.heap.size W W'):BM w B g1 g2 g3 y S T w2 W':=by
 obtain ⟨⟨vt,vc,hs⟩,hk,hw⟩:=h;exact ⟨⟨vt,vc,hs.keep hb⟩,hk.trans (kF.of (Nat.le_trans hB hk.size) hb),bT hw hb⟩
set_option maxRecDepth 100000 in
set_option maxHeartbeats 8000000 in
theorem asC (v:Value) (p:Pl) (w:World) (h:dS w v p) (hv:Valid p) (gm:Nat) (f:Int->SV) (hpm:rO w gm p f) (x:AD) (b:Option (List Int)) (hb:b∈lD p)
  (ho:Ints w (aJ x.ov) x.out) (hi:Sl w (aJ x.iv) x.inn.length (x.inn.flatMap nD)) (hc:∀ c∈x.inn,Ints w (aJ c.2) c.1) (ha:Ints w (aJ x.av) x.bK) (hcy:(qm x).map (·.1)=gY p b) (hal:x.bK=vC p b) (y:Int) :
  Calls Tryz.prog 140 #[.map (some gm),v,.agg #[.int .i64 x.tw,aJ x.ov,aJ x.iv,aJ x.av],.int .i64 y] w (aav w (tY p b y)):=by
 have hnl:=hv.Qk;have hli:x.inn.length<=512:=by
  have e1:=congrArg List.length hcy;have h2:=List.length_filter_le (fun c=>decide (dW p (lC p c)=b)) (iM p);have h3:(iM p).length<=(bF p).length:=List.length_filter_le _ _;have h4:=hv.GU;unfold qm gY lS at e1;simp only [List.map_cons,List.length_cons,List.length_map] at e1;omega
 have hsl:=hv.aiE hb;have hal2:x.bK.length<=256:=by rw [hal];exact hv.aso b
 have ug:=Lib.hid (fun W (hW:Below w.heap.size w W)=>aaW x W (hi.mono hW) (by omega));have MI:=Lib.hid (fun id W (hW:Below w.heap.size w W)=>Yo v p id W (h.mono hW));have oN:=Lib.hid (show ∀ c∈qm x,Ints w (aJ c.2) c.1 from fun c hc'=>by
  unfold qm at hc';rcases List.mem_cons.1 hc' with rfl | hc'
  · exact ho
  · exact hc c hc')
 have vg:=Lib.hid (@agn);have MS:=Lib.hid (fun id n (e:mM p.nodes id=some n)=>hv.agS (List.mem_of_find?_eq_some e));have zq:=Lib.hid hsl;have qV:=Lib.hid (@apq);have BD:=Lib.hid (fun w2 vc X hX hd B g1 g2 g3 S hl hB hg1 k1 k2 k3 W h0=>asB w w2 gm p f hpm hv vc X hX hd B g1 g2 g3 y S hl hB hg1 k1 k2 k3 W h0);obtain ⟨CL,hCL⟩:∃ CL,qm x=CL:=⟨_,rfl⟩;obtain ⟨C,hC⟩:∃ C,gY p b=C:=⟨_,rfl⟩;have hll:CL.length<=513:=by rw [<- hCL];unfold qm;rw [List.length_cons];omega
 rw [hCL] at ug oN hcy;rw [hC] at hcy;have hcd:∀ c∈C,∀ d∈c,d∈aQ p:=fun c hc=>by rw [<- hC] at hc;exact hv.aiD hb hc
 have HCd:=Lib.hid hcd;have WX:=Lib.hid hcy;have hlc:C.length=CL.length:=by rw [<- hcy,List.length_map]
 have HSB:=Lib.hid (show iD p b=BL p C C.length by unfold iD BL;rw [hC,List.take_length]);have hle:∀ k,(BL p C k).length<=33280:=fun k=>by
  have:=asr p C k
  have e:C.flatMap (bP p)=iD p b:=by unfold iD;rw [hC]
  rw [e] at this;omega
 have HLe:=Lib.hid hle;have H9:=Lib.hid hlc;obtain ⟨R,hR⟩:∃ R,tY p b y=R:=⟨_,rfl⟩;have HR:=Lib.hid (show R=pY (sO (kT (Dv ((iD p b).flatMap (jl y))))) (sO ((iD p b).flatMap (oP y)++zC p b y)) from hR.symm);rw [hR];have wI:=Lib.hid (show ∀ k,(x.bK.take k).flatMap (qP p.nodes y)=((vC p b).take k).flatMap (qP p.nodes y) from fun k=>by rw [hal]);have JL:=Lib.hid (show zC p b y=x.bK.flatMap (qP p.nodes y) by unfold zC;rw [hal]);have Kq:=Lib.hid ha;clear hCL hC hcy hcd hlc hle hR hal ho hi hc hpm hb hli hsl;obtain ⟨_,_,_,al,rfl,-,⟨An,cn,rfl,-⟩,⟨⟨Aa,ca,rfl,-⟩,-⟩,⟨Af,cf,rfl,-⟩⟩:=h;obtain ⟨tw,out,⟨oa,on,oc⟩,inn,⟨ia,jM,ic⟩,bK,⟨aa,an,ac⟩⟩:=x;unfold aJ at ug ha ⊢;simp only at ug ha hal2 wI JL Kq ⊢;obtain ⟨Ax,cx,he,-⟩:=ha;injection he with q1 q2 q3;subst q1 q2 q3;generalize hnn:p.nodes.length=nn at *;generalize al.length=na at *;generalize p.faces.length=nf at *;clear hv;go_enter Tryz.func140,Tryz.ntmps140;go_upto_region 4 with fail;obtain ⟨W1,hW⟩:∃ W:World,W=((((w.alloc (.cells #[.slice An nn cn,.slice Aa na ca,.slice Af nf cf] 26)).alloc (.cells #[.int .i64 tw,.slice oa on oc,.slice ia jM ic,.slice aa bK.length ac] 82)).alloc (.cells #[.int .i64 y] 3)).alloc (.cells #[.slice none 0 0] 24)).alloc (.cells #[.slice none 0 0] 124):=⟨_,rfl⟩;have X5:aj W1 w.heap.size 26 #[.slice An nn cn,.slice Aa na ca,.slice Af nf cf]:=by rw [hW];exact ((((aj.made rfl _ _).alloc _).alloc _).alloc _).alloc _
 have X6:aj W1 (w.heap.size+1) 82 #[.int .i64 tw,.slice oa on oc,.slice ia jM ic,.slice aa bK.length ac]:=by rw [hW];exact (((aj.made (by simp) _ _).alloc _).alloc _).alloc _
 have X7:aj W1 (w.heap.size+1+1) 3 #[.int .i64 y]:=by rw [hW];exact ((aj.made (by simp) _ _).alloc _).alloc _
 have X9:aj W1 (w.heap.size+1+1+1) 24 #[.slice none 0 0]:=by rw [hW];exact (aj.made (by simp) _ _).alloc _
 have mV:aj W1 (w.heap.size+1+1+1+1) 124 #[.slice none 0 0]:=by rw [hW];exact aj.made (by simp) _ _
 have hA:Below w.heap.size w W1:=by rw [hW];exact bA (bA (bA (bA (bA (bR w) _) _) _) _) _
 have hsz:W1.heap.size=w.heap.size+5:=by rw [hW];simp
 have HA:=Lib.hid hA;have bV:=Lib.hid X5;have jI:=Lib.hid X6;have kX:=Lib.hid X7;have l9:=Lib.hid X9;have NR:=Lib.hid mV;rw [<- hW];clear hW hA;obtain ⟨g5,h5⟩:∃ g,w.heap.size=g:=⟨_,rfl⟩;obtain ⟨g6,h6⟩:∃ g,w.heap.size+1=g:=⟨_,rfl⟩;obtain ⟨g7,h7⟩:∃ g,w.heap.size+1+1=g:=⟨_,rfl⟩;obtain ⟨g9,h9⟩:∃ g,w.heap.size+1+1+1=g:=⟨_,rfl⟩;obtain ⟨g11,h11⟩:∃ g,w.heap.size+1+1+1+1=g:=⟨_,rfl⟩;have hn:w.heap.size<=g5/\g5<g6/\g6<g7/\g7<g9/\g9<g11/\g11<W1.heap.size:=by omega
 rw [h11] at mV NR ⊢;rw [h9] at X9 l9 ⊢;rw [h7] at X7 kX ⊢;rw [h6] at X6 jI ⊢;rw [h5] at X5 bV ⊢;clear h5 h6 h7 h9 h11;obtain ⟨jd,jf,jg,pW,qX,-,-,-,-⟩:=X6.oD;go_wp2_with fail;refine (ug.out _ HA.out).mono ?_;rintro e w2 ⟨⟨Ac,cc,rfl,hown⟩,hb2⟩;have HO:=Lib.hid hown;have HB2:=Lib.hid (bT HA.out hb2);have HS0:=Lib.hid (show wP w2 w2.heap.size g7 g11 g9 y [] [] (.slice none 0 0) (.slice none 0 0) from ⟨kX.out.keep hb2,⟨NR.out.keep hb2,Own.nil _ _ _ _ _⟩,⟨l9.out.keep hb2,Own.nil _ _ _ _ _⟩⟩);have hs2:=hb2.size;replace bV:=Lib.hid (bV.out.keep hb2);replace jI:=Lib.hid (jI.out.keep hb2);have hw2:w.heap.size<=w2.heap.size:=by omega
 clear hb2 hown ug HA kX l9 NR X5 X6 jd jf jg pW qX X7 X9 mV;go_upto_block 0 with fail;go_wp2_with fail;go_loopw [24] (fun i wr=>∃ k:Nat,k<=CL.length/\i=.int .i64 k/\BM w w2.heap.size g7 g11 g9 y (BL p C k) [] w2 wr) (fun i _=>CL.length-(intOf i).toNat)
 case atStart => exact ⟨0,Nat.zero_le _,rfl,⟨⟨_,_,HS0.out⟩,kF.refl _ _ _ _,HB2.out⟩⟩
 case round =>
  obtain ⟨k,hk,rfl,hr⟩:=hrel;obtain ⟨wo,rfl⟩:∃ wo:World,wo=wr:=⟨_,rfl⟩;have qp:=Lib.hid hr;clear hr HS0;by_cases hlt:k<CL.length
  ·have hOr:=qp.out.kept.own HO.out (Nat.le_refl _) (fun e=>by have:=(HO.out.lt g11 e).1;omega) (fun e=>by have:=(HO.out.lt g9 e).1;omega);obtain ⟨A',c',he,-,-,qg⟩:=hOr.sl;injection he with q1 q2 q3;subst q1 q3;clear q2;obtain ⟨b',o',rfl,hlb,c0⟩:=qg.cy hlt;have WY:k<C.length:=by rw [H9.out];exact hlt
   have hCk:=ag6 WX.out hlt WY;have hcs:=asq p WY;have hl1:=HLe.out (k+1);have hii:=oN.out _ (List.getElem_mem hlt);have hdd:=HCd.out _ (List.getElem_mem WY);rw [hCk] at hcs hdd;rw [hcs,List.length_append] at hl1;have HC:=Lib.hid (fun W h0=>BD.out w2 _ _ hii hdd w2.heap.size g7 g11 g9 (BL p C k) (by omega) (Nat.le_refl _) (by omega) hw2 (by omega) (by omega) W h0);generalize CL[k]=X at *;obtain ⟨X,⟨sa,sn,sc⟩⟩:=X;unfold aJ at HC;simp only at c0 HC hcs;have HCs:=Lib.hid hcs;clear hOr qg hii hdd hCk WY hcs hl1;go_wp2_with fail;refine (HC.out _ qp.out).mono ?_;rintro e w4 ⟨rfl,hr2⟩;have HR2:=Lib.hid hr2;clear hr2;go_wp2_with fail;go_roundw
   case rel => exact ⟨k+1,by omega,by go_num,by rw [HCs.out];exact HR2.out⟩
   case measure => simp [intOf];omega
  ·obtain rfl:k=CL.length:=by omega
   have NS:=qp.out;rw [<- H9.out,<- HSB.out] at NS;have HR1:=Lib.hid NS;clear NS qp;have hw3:=HR1.out.kept.size;have X6:=HR1.out.kept.keep jI.out (by omega) (by omega) (by omega);obtain ⟨wA,rfl⟩:∃ wA:World,wA=wo:=⟨_,rfl⟩;clear BD oN HCd WX HLe HO HSB HB2 jI
   try clear jd
   try clear jf
   try clear jg
   try clear pW
   try clear qX
   obtain ⟨jd,jf,jg,pW,qX,-,-,-,-⟩:=X6.oD;go_upto_block 2 with fail;clear X6 jd jf jg pW qX;go_wp2_with fail;go_loopw [36] (fun i wr=>∃ k:Nat,k<=bK.length/\i=.int .i64 k/\BM w w2.heap.size g7 g11 g9 y (iD p b) ((bK.take k).flatMap (qP p.nodes y)) w2 wr) (fun i _=>bK.length-(intOf i).toNat)
   case atStart => exact ⟨0,Nat.zero_le _,rfl,HR1.out⟩
   case round =>
    obtain ⟨k,hk,rfl,hr⟩:=hrel;obtain ⟨wo,rfl⟩:∃ wo:World,wo=wr:=⟨_,rfl⟩;have qp:=Lib.hid hr;clear hr HR1;by_cases hlt:k<bK.length
    ·obtain ⟨A',c',he,-,-,qg⟩:=Kq.out.mono qp.out.below;injection he with q1 q2 q3;subst q1 q3;clear q2;obtain ⟨b',o',rfl,hlb,c0⟩:=qg.int hlt;have hts:(bK.take (k+1)).flatMap (qP p.nodes y)=(bK.take k).flatMap (qP p.nodes y)++qP p.nodes y bK[k]:=by
      rw [List.take_succ_eq_append_getElem hlt,List.flatMap_append];simp
     obtain ⟨F,hF⟩:∃ F,qP p.nodes y bK[k]=F:=⟨_,rfl⟩;rw [hF] at hts;have HTs:=Lib.hid hts;have hlen:((bK.take k).flatMap (qP p.nodes y)).length<=256:=by
      have:=Ko (qP p.nodes y) (aiC p.nodes y) (bK.take k)
      rw [List.length_take] at this;omega
     clear hts qg;unfold qP at hF;generalize bK[k]=id at *;have hs3:=qp.out.kept.size;have X5:=qp.out.kept.keep bV.out (by omega) (by omega) (by omega);have HN:=Lib.hid (fun W (hW:Below wo.heap.size wo W)=>MI.out id W (bT qp.out.below hW));unfold SN at HN;obtain ⟨fn,hfn⟩:∃ fn,mM p.nodes id=fn:=⟨_,rfl⟩;rw [hfn] at HN hF;have HF:=Lib.hid hF;have HBg:=Lib.hid (fun n (e:fn=some n)=>MS.out id n (hfn.trans e));clear hfn hF;obtain ⟨dw,dB,dL,jK,-,-,-⟩:=X5.aY
     cases fn with
     | none =>
      replace HN:=Lib.hid (show ∀ W,Below wo.heap.size wo W->Calls Tryz.prog 74 #[.agg #[.slice An nn cn,.slice Aa na ca,.slice Af nf cf],.int .i64 id] W fun e w'=>e=.returned (.tuple #[.agg #[.int .i64 0,.int .i64 0,.int .i64 0],.bool false])/\Below W.heap.size W w' from HN.out);go_wp2_with fail;refine (HN.out _ (bR wo)).mono ?_;rintro e w4 ⟨rfl,hb4⟩;have HB4:=Lib.hid hb4;clear hb4 X5 dw dB dL jK HN;go_wp2_with fail;go_roundw
      case rel =>
       have hf:F=[]:=HF.out.symm;exact ⟨k+1,by omega,by go_num,by rw [HTs.out,hf,List.append_nil];exact qp.out.step (Nat.le_refl _) (bA HB4.out _)⟩
      case measure => simp [intOf];omega
     | some n =>
      have hbg:=(HBg.out n rfl).1;obtain ⟨ni,⟨nx,ny⟩⟩:=n;simp only at hbg;replace HN:=Lib.hid (show ∀ W,Below wo.heap.size wo W->Calls Tryz.prog 74 #[.agg #[.slice An nn cn,.slice Aa na ca,.slice Af nf cf],.int .i64 id] W fun e w'=>e=.returned (.tuple #[.agg #[.int .i64 ni,.int .i64 nx,.int .i64 ny],.bool true])/\Below W.heap.size W w' from HN.out);have hf:F=if ny=y then [⟨nx,nx+1⟩] else []:=HF.out.symm;have HF2:=Lib.hid hf;clear hf HF;go_wp2_with fail;refine (HN.out _ (bR wo)).mono ?_;rintro e w4 ⟨rfl,hb4⟩;have HB4:=Lib.hid hb4;clear hb4 X5 dw dB dL jK HN;go_upto_region 13 with fail;obtain ⟨W5,hW⟩:∃ W:World,W=w4.alloc (.cells #[.int .i64 ni,.int .i64 nx,.int .i64 ny] 45):=⟨_,rfl⟩;have X17:aj W5 w4.heap.size 45 #[.int .i64 ni,.int .i64 nx,.int .i64 ny]:=by rw [hW];exact aj.made rfl _ _
      have HRv:=Lib.hid (qp.out.step (Nat.le_refl _) (show Below wo.heap.size wo W5 by rw [hW];exact bA HB4.out _));obtain ⟨g17,h17⟩:∃ g,w4.heap.size=g:=⟨_,rfl⟩;rw [<- hW]
      try rw [h17]
      rw [h17] at X17;clear hW h17 qp HB4;obtain ⟨⟨vt,vc,hst⟩,hkp,hbw⟩:=HRv.out;have eP:=Lib.hid hst;have yD:=Lib.hid hkp;have iQ:=Lib.hid hbw;have XR:=hst.row;clear hst hkp hbw HRv;obtain ⟨avr,avs,avt,avu,-,-,-⟩:=X17.aY;obtain ⟨Qs,Qu,-⟩:=XR.ig;by_cases hy:ny=y
      ·have hf:=HF2.out;rw [if_pos hy] at hf;subst hf;subst hy;have hll:((iD p b).flatMap (oP ny)++(bK.take k).flatMap (qP p.nodes ny)).length<=40000:=by
        have:=Ko (oP ny) (ab6 ny) (iD p b)
        have:=zq.out
        rw [List.length_append];omega
       obtain ⟨L,hL⟩:∃ L,(iD p b).flatMap (oP ny)++(bK.take k).flatMap (qP p.nodes ny)=L:=⟨_,rfl⟩;rw [hL] at eP hll;have HL:=Lib.hid hL;obtain ⟨At,ct,hvt,-⟩:=eP.out.tkn.own.sl;subst hvt;have hB5:w2.heap.size<=W5.heap.size:=yD.out.size;have mV:=eP.out.tkn.box;have NR:=Lib.hid mV;have kw:IntKind.i64.wrap (nx+1)=nx+1:=IntWalk.i64_in _ (by omega);have hsh:(L++[(⟨nx,nx+1⟩:Rn)]).length=L.length+1:=by simp
       have fD:=Lib.hid hsh;clear hL hsh HF2;obtain ⟨AO,AP,aiI⟩:=mV.ig;go_wp2_with
        (at_builtin
         refine lq _ rfl (.tmp 54) (.tmp 63) _ rfl (base:=w2.heap.size) Ez Dp Ey rfl (Own.alloc eP.out.tkn.own _) rfl (l2:=[(⟨nx,nx+1⟩:Rn)]) (Sl.lit (n:=1) (aj.made rfl _ _) rfl (fQ (by omega))) (by simp only [List.length_cons,List.length_nil];omega) (by simp only [List.length_cons,List.length_nil];omega) (by simp;omega) ?_;intro v3 w3 ho3 hg3 qj;obtain ⟨A3,c3,hv3,-⟩:=ho3.sl;rw [fD.out] at hv3;subst hv3;have HG:=Lib.hid (eP.out.aaV yD.out.size hg3 ho3);have tN:=aj.grown (NR.out.alloc _) hg3 (fun e=>Own.dU eP.out.tkn.own NR.out (by decide) e.symm);clear ho3 hg3 qj mV AO AP aiI;obtain ⟨Gy,Gz,GH⟩:=tN.ig
         )
       go_roundw
       case rel => exact ⟨k+1,by omega,by go_num,⟨⟨_,_,by rw [HTs.out,<- List.append_assoc,HL.out];exact HG.out.1⟩,yD.out.trans HG.out.2,HG.out.2.below w iQ.out hw2 (by omega) (by omega)⟩⟩
       case measure => simp [intOf];omega
      ·have hf:=HF2.out;rw [if_neg hy] at hf;have HFn:=Lib.hid hf;clear hf HF2;go_wp2_with fail;go_roundw
       case rel => exact ⟨k+1,by omega,by go_num,by rw [HTs.out,HFn.out,List.append_nil];exact ⟨⟨_,_,eP.out⟩,yD.out,iQ.out⟩⟩
       case measure => simp [intOf];omega
    ·obtain rfl:k=bK.length:=by omega
     have NS:=qp.out;rw [List.take_length,<- JL.out] at NS;obtain ⟨⟨vt,vc,hst⟩,hkp,hbw⟩:=NS;have hlt1:((iD p b).flatMap (oP y)++zC p b y).length<=40000:=by
      have h1:=Ko (oP y) (ab6 y) (iD p b);have h2:=Ko (qP p.nodes y) (aiC p.nodes y) bK;have h3:=zq.out;rw [JL.out,List.length_append];omega
     have aiJ:((iD p b).flatMap (jl y)).length<=33280:=Nat.le_trans (Ko (jl y) (aiB y) (iD p b)) zq.out;have hr0:=HR.out;obtain ⟨L,hL⟩:∃ L,(iD p b).flatMap (oP y)++zC p b y=L:=⟨_,rfl⟩;obtain ⟨M,hM⟩:∃ M,(iD p b).flatMap (jl y)=M:=⟨_,rfl⟩;rw [hL] at hst hlt1 hr0;rw [hM] at hst aiJ hr0;have HR2:=Lib.hid hr0;have eP:=Lib.hid hst;have yD:=Lib.hid hkp;have iQ:=Lib.hid hbw;obtain ⟨wB,rfl⟩:∃ wB:World,wB=wo:=⟨_,rfl⟩;clear hL hM hr0 hst hkp hbw HR qp MI MS zq wI JL Kq bV;obtain ⟨Am,cm,hvc,hm1,hm2,-⟩:=eP.out.mF.own.sl;subst hvc;have X9:=eP.out.mF.box;obtain ⟨gy,gG,-⟩:=X9.ig;have NT:=eP.out.mF.own;go_wp2_with fail;refine (vg.out w2.heap.size _ M _ NT (by omega)).mono ?_;rintro e w3 ⟨rfl,hq,hg3⟩;have aiK:=Own.dU NT eP.out.mF.box (by decide);have hB3:Below w.heap.size w w3:=bG iQ.out hg3 (fun k hk=>Nat.le_trans hw2 (NT.lt k hk).1);have WZ:=Lib.hid hq;have l9:=Lib.hid (aj.grown eP.out.mF.box hg3 (fun e=>aiK e.symm));have LH:=Lib.hid (aj.grown eP.out.tkn.box hg3 (fun e=>Own.dU NT eP.out.tkn.box (by decide) e.symm));have HTo:=Lib.hid (Own.grown eP.out.tkn.own hg3 (fun g hg=>Own.apart eP.out.tkn.own NT (by decide) g hg));have HB3:=Lib.hid hB3;have hq2:=apa M;have Jq:=agl M;obtain ⟨Q,hQ⟩:∃ Q,tV M=Q:=⟨_,rfl⟩;rw [hQ] at WZ hq2 Jq;rw [<- hq2] at HR2;rw [<- Jq] at aiJ l9 WZ ⊢;obtain ⟨wC,rfl⟩:∃ wC:World,wC=w3:=⟨_,rfl⟩;clear hQ hq2 Jq hq hg3 NT aiK hB3 eP yD iQ X9 gy gG vg;go_upto_block 4 with fail;go_wp2_with fail;go_loopw [19,10] (fun i s wr=>∃ (j:Nat) (O:List Rn),j<=Q.length/\i=.int .i64 ((j:Int)+1)/\(∃ A c,s=.slice A O.length c)/\Own wr wC.heap.size 121 2 iO s O/\(∃ m,j=2*m/\O=kT (Q.take j))/\Below wC.heap.size wC wr) (fun i _ _=>Q.length-(intOf i).toNat)
     case atStart => exact ⟨0,[],Nat.zero_le _,rfl,⟨_,_,rfl⟩,Own.nil _ _ _ _ _,⟨0,rfl,rfl⟩,bR wC⟩
     case round =>
      obtain ⟨j,O,hj,rfl,⟨Ao,co,rfl⟩,hoo,hjm,iJ⟩:=hrel;obtain ⟨wo,rfl⟩:∃ wo:World,wo=wr:=⟨_,rfl⟩;have PX:=Lib.hid hoo;have Xa:=Lib.hid hjm;have jJ:=Lib.hid iJ;have X9:=l9.out.keep iJ;have Xb:=iJ.size;have hOl:O.length<=40000:=by
       obtain ⟨m,-,rfl⟩:=hjm;have:=aiH _ (Q.take j) (Nat.le_refl _)
       have:=List.length_take_le j Q
       omega
      clear hoo hjm iJ;by_cases hlt:j+1<Q.length
      ·obtain ⟨Aq,cq,he,-,-,hRq⟩:=WZ.out.sl;injection he with q1 q2 q3;subst q1 q3;clear q2;obtain ⟨b',o',rfl,hlb,c0⟩:=Row.int hRq (k:=j) (by omega);obtain ⟨b'',o'',he,-,c1⟩:=Row.int hRq hlt;injection he with he;injection he with q1 q2 _;subst q1 q2;replace c0:=gU jJ.out c0;replace c1:=gU jJ.out c1;have Ot:=l9.out.lt;have hlo:b'<wo.heap.size:=Nat.lt_of_lt_of_le hlb Xb;have hgt:∀ m,j=2*m->kT (Q.take (j+2))=kT (Q.take j)++kP (Q[j]'(by omega)) Q[j+1]:=fun m hm=>by
        subst hm;exact aiF m Q hlt
       have HGt:=Lib.hid hgt;clear hgt hRq;generalize Q[j+1]=x2 at *;generalize Q[j]=x1 at *;have k2:IntKind.i64.wrap ((j:Int)+1-1)=j:=by rw [show (j:Int)+1-1=j by omega];exact IntWalk.i64_in _ (by omega)
       have k3:(j:Int)<Q.length:=by omega
       have k8:IntKind.i64.wrap (j:Int)=j:=IntWalk.i64_in _ (by omega);have k4:0<=(j:Int):=by omega
       have k5:(j:Int)+1-1=j:=by omega
       have k6:(j:Int)+1<Q.length:=by omega
       have k7:0<=(j:Int)+1:=by omega
       try clear gy
       try clear gG
       obtain ⟨gy,gG,-⟩:=X9.ig;go_upto_region 20 with fail;refine cZ (Since wo) (.run 10 0 0 (.done)) (by kernel_rfl) (bD (bR _)) (by kernel_rfl) (by kernel_rfl) (Nat.le_of_ble_eq_true (by kernel_rfl)) ?_;intro dn QR au aC hS
       iterate 10
        apply bn;exact au;exact rfl;exact hS;exact rfl
        · intro _ hqc;go_simp;try rfl
        try simp only [pu]
       refine bQ ?_;refine aC.down _ _ ?_;have hB:Below wo.heap.size wo wo.drew:=hS;clear hS aC au;skip;obtain ⟨wd,hwd⟩:∃ wd:World,wd=wo.drew:=⟨_,rfl⟩;have aiL:=Lib.hid (X9.keep hB);have ER:=Lib.hid (PX.out.keep hB);have sG:=Lib.hid (bT jJ.out hB);have d0:=gU hB c0;have d1:=gU hB c1;have hld:b'<wd.heap.size:=by rw [hwd];exact Nat.lt_of_lt_of_le (Nat.lt_of_lt_of_le hlb Xb) hB.size
       have alc:wC.heap.size<=wd.heap.size:=by rw [hwd];exact Nat.le_trans Xb hB.size
       rw [<- hwd] at aiL ER sG d0 d1 ⊢;clear hwd hB X9 gy gG c0 c1 PX jJ Xb hlo;have X9:=aiL.out;by_cases hx:x1<x2
       ·have hsh:(O++[(⟨x1,x2⟩:Rn)]).length=O.length+1:=by simp
        have fD:=Lib.hid hsh;clear hsh
        try clear gy
        try clear gG
        obtain ⟨gy,gG,-⟩:=X9.ig;go_upto_region 21 with fail;refine cZ (iq (wC.heap.size) wd) (.run 11 0 0 (.call 11 4095 (.call 12 8191 (.take 13 16383 (.done))))) (by kernel_rfl) (Below.drew (Below.refl _ _)) (by kernel_rfl) (by kernel_rfl) (Nat.le_of_ble_eq_true (by kernel_rfl)) ?_;intro dn QR au aC hS
        iterate 11
         apply jV;exact au;exact rfl;exact hS;exact rfl
         · intro _ hqc;go_simp;try rfl
         try simp only [pu]
        refine aW (i:=11) (aH au rfl) (fun K hK=>?_);have aA:=Lib.hid hS;clear hS;refine aN (aV rfl) ?_;go_simp;refine hK.out _ _ (kQ (by omega) aA.out _) (fun hS=>?_);clear hK K aA
        try simp only [pu]
        refine aW (i:=12) (aH au rfl) (fun K hK=>?_);have aA:=Lib.hid hS;clear hS;refine aN (aV rfl) ?_;refine BP (.tmp 84) (.tmp 95) _ rfl (base:=wC.heap.size) (l:=O) (l2:=[⟨x1,x2⟩]) Ez Dp Ey rfl (Own.alloc (ER.out.keep (bD (bR wd))) _) rfl (Sl.lit (n:=1) (aj.made rfl _ _) rfl (fQ (by omega))) (by simp only [List.length_cons,List.length_nil];omega) (by simp only [List.length_cons,List.length_nil];omega) (by simp;omega) ?_;intro v9 wn ab7 hgn ab8;obtain ⟨A9,c9,Ia,-⟩:=Own.qM ab7;rw [fD.out] at Ia;subst Ia;have asD:=Lib.hid ab7;have hS:iq wC.heap.size wd wn:=Below.grown (Below.alloc (Below.drew (Below.refl _ _)) (by simp;omega) _) hgn (by simp;omega) (fun g hg=>(ER.out.lt g hg).1);clear ab7 hgn ab8;clear aA;refine hK.out _ _ hS (fun _=>?_);clear hK K
        try simp only [pu]
        apply jV;exact au;exact rfl;exact hS;exact rfl
        · intro _ hqc;go_simp;try rfl
        try simp only [pu]
        refine bQ ?_;refine aC.down _ _ ?_;have hB:Below (wC.heap.size) wd _:=hS;clear hS aC au;go_wp2_with fail;go_roundw
        case rel => exact ⟨j+2,O++[⟨x1,x2⟩],by omega,by go_num,⟨A9,c9,by rw [fD.out]⟩,asD.out,(by obtain ⟨m,h1,h2⟩:=Xa.out;exact ⟨m+1,by omega,by rw [HGt.out m h1,<- h2];unfold kP;rw [if_pos hx]⟩),Below.trans sG.out hB⟩
        case measure => simp [intOf];omega
       ·go_wp2_with fail;go_roundw
        case rel => exact ⟨j+2,O,by omega,by go_num,⟨_,_,rfl⟩,ER.out,(by obtain ⟨m,h1,h2⟩:=Xa.out;exact ⟨m+1,by omega,by rw [HGt.out m h1,<- h2];unfold kP;rw [if_neg hx,List.append_nil]⟩),sG.out⟩
        case measure => simp [intOf];omega
      ·obtain ⟨m,h1,h2⟩:=Xa.out;have hOe:O=kT Q:=by
        rw [h2,h1];exact aiG m Q (by omega) (by omega)
       have hr:=HR2.out;rw [<- hOe] at hr;have DK:=Lib.hid hr;have rP:=Lib.hid (bT HB3.out jJ.out);obtain ⟨At,ct,hvt,-⟩:=HTo.out.sl;subst hvt;have mV:=LH.out.keep jJ.out;have HTf:=Lib.hid (HTo.out.keep jJ.out);clear hr hOe h2 Xa l9 WZ LH HTo HB3 HR2
       try clear gy
       try clear gG
       obtain ⟨gy,gG,-⟩:=X9.ig
       try clear AO
       try clear AP
       try clear aiI
       obtain ⟨AO,AP,-⟩:=mV.ig;by_cases h0:O.length=0
       ·have hO:O=[]:=List.length_eq_zero_iff.1 h0;have hz:((O.length:Nat):Int)=0:=by omega
        have hr:=DK.out;rw [hO,asu] at hr;have HR0:=Lib.hid hr;clear hr hO;go_wp2_with fail;go_ret;exact ⟨none,0,by rw [HR0.out];rfl,by rw [HR0.out];exact Own.nil _ _ _ _ _,rP.out⟩
       ·have hz:¬ ((O.length:Nat):Int)=0:=by omega
        go_wp2_with fail;refine (qV.out _ _ O L wo PX.out.sl HTf.out.sl (by omega) (by omega)).mono ?_;rintro e w5 ⟨A,c,rfl,iY,hb5⟩;rw [<- DK.out] at iY ⊢;have uf:=Lib.hid iY;have dM:=Lib.hid (bT rP.out hb5);have hsz5:=rP.out.size;clear iY hb5;go_wp2_with fail;go_ret;exact ⟨A,c,rfl,uf.out.jG hsz5,dM.out⟩
def Kr (o:Option Pt):Value:=match o with
 | none=>.tuple #[.agg #[.int .i64 0,.int .i64 0],.bool false]
 | some v=>.tuple #[.agg #[.int .i64 v.x,.int .i64 v.y],.bool true]
def ab9 (p:Pl) (b:Option (List Int)) (y:Int):Option Pt:=((GX (tY p b y)).2).map fun x=>⟨x,y⟩
theorem Valid.asE {p:Pl} (h:Valid p) {X:List Int} (hX:X∈aI p) {y:Int} {r:Rn} (hr:r∈tY p (some X) y):(-2097152<=r.lo/\r.lo<=2097152)/\(-2097152<=r.hi/\r.hi<=2097153):=by
 have hv:nS (tY p (some X) y):=(O8 _ _ (y7 _).1 (y7 _).1).1;have h0:=hv.1 r hr;have n1:=h.Wv hX (y:=y) (x:=r.lo) ⟨r,hr,Int.le_refl _,h0⟩;have n2:=h.Wv hX (y:=y) (x:=r.hi-1) ⟨r,hr,by omega,by omega⟩;rw [xJ] at n1 n2;simp only at n1 n2;omega
set_option maxRecDepth 100000 in
set_option maxHeartbeats 8000000 in
theorem asF (v:Value) (p:Pl) (w:World) (h:dS w v p) (hv:Valid p) (gm:Nat) (f:Int->SV) (hpm:rO w gm p f) (x:AD) (X:List Int) (hX:X∈aI p)
  (ho:Ints w (aJ x.ov) x.out) (hi:Sl w (aJ x.iv) x.inn.length (x.inn.flatMap nD)) (hc:∀ c∈x.inn,Ints w (aJ c.2) c.1) (ha:Ints w (aJ x.av) x.bK) (hcy:(qm x).map (·.1)=gY p (some X)) (hal:x.bK=vC p (some X)) (y:Int) :
  Calls Tryz.prog 82 #[.map (some gm),v,.agg #[.int .i64 x.tw,aJ x.ov,aJ x.iv,aJ x.av],.int .i64 y] w fun e w'=>e=.returned (Kr (ab9 p (some X) y))/\Below w.heap.size w w':=by
 have hb:some X∈lD p:=List.mem_cons_of_mem _ (List.mem_map_of_mem hX);have qp:=Lib.hid (fun W (hW:Below w.heap.size w W)=>asC v p W (h.mono hW) hv gm f (hpm.keep hW) x (some X) hb (ho.mono hW) (hi.mono hW) (fun c hc'=>(hc c hc').mono hW) (ha.mono hW) hcy hal y);have sG:=Lib.hid (fun r hr=>hv.asE hX (y:=y) (r:=r) hr);obtain ⟨R,hR⟩:∃ R,tY p (some X) y=R:=⟨_,rfl⟩;unfold ab9;rw [hR] at qp sG ⊢;clear hR hb hpm hX ho hi hc ha hcy hal hv;obtain ⟨_,_,_,al,rfl,-,⟨An,cn,rfl,-⟩,⟨⟨Aa,ca,rfl,-⟩,-⟩,⟨Af,cf,rfl,-⟩⟩:=h;obtain ⟨tw,out,⟨oa,on,oc⟩,inn,⟨ia,jM,ic⟩,bK,⟨aa,an,ac⟩⟩:=x;unfold aJ at qp ⊢;simp only at qp ⊢;generalize p.nodes.length=nn at *;generalize al.length=na at *;generalize p.faces.length=nf at *;obtain ⟨q,hq⟩:∃ q,((GX R).2.map fun x=>(⟨x,y⟩:Pt))=q:=⟨_,rfl⟩;rw [hq];have HQ:=Lib.hid hq;clear hq;go_enter Tryz.func82,Tryz.ntmps82;go_upto_region 2 with fail;obtain ⟨W1,hW⟩:∃ W:World,W=((w.alloc (.cells #[.slice An nn cn,.slice Aa na ca,.slice Af nf cf] 26)).alloc (.cells #[.int .i64 tw,.slice oa on oc,.slice ia jM ic,.slice aa an ac] 82)).alloc (.cells #[.int .i64 0,.int .i64 0] 39):=⟨_,rfl⟩;have X5:aj W1 w.heap.size 26 #[.slice An nn cn,.slice Aa na ca,.slice Af nf cf]:=by rw [hW];exact ((aj.made rfl _ _).alloc _).alloc _
 have X6:aj W1 (w.heap.size+1) 82 #[.int .i64 tw,.slice oa on oc,.slice ia jM ic,.slice aa an ac]:=by rw [hW];exact (aj.made (by simp) _ _).alloc _
 have X8:aj W1 (w.heap.size+1+1) 39 #[.int .i64 0,.int .i64 0]:=by rw [hW];exact aj.made (by simp) _ _
 have HA:=Lib.hid (show Below w.heap.size w W1 by rw [hW];exact bA (bA (bA (bR w) _) _) _);rw [<- hW];clear hW;obtain ⟨g8,h8⟩:∃ g,w.heap.size+1+1=g:=⟨_,rfl⟩;have xu:w.heap.size<=g8:=by omega
 rw [h8] at X8 ⊢;have D8:=Lib.hid X8;clear h8 X8;obtain ⟨dw,dB,dL,jK,-,-,-⟩:=X5.aY;obtain ⟨jd,jf,jg,pW,qX,-,-,-,-⟩:=X6.oD;go_wp2_with fail;refine (qp.out _ HA.out).mono ?_;rintro e w2 ⟨A,c,rfl,hown,hb2⟩;have HO:=Lib.hid (hown.jG HA.out.size);have HB2:=Lib.hid (bT HA.out hb2);have HX:=Lib.hid (D8.out.keep hb2);have hRl:R.length<=9223372036854775807:=by
  obtain ⟨_,_,_,h1,h2,-⟩:=hown.sl;unfold maxLen at h2;omega
 clear hown hb2 D8 qp HA X5 dw dB dL jK X6 jd jf jg pW qX;go_upto_block 0 with fail;go_wp2_with fail;go_loopw [20,10,9] (fun i m ok wr=>∃ (k:Nat) (s:Int×Option Int),k<=R.length/\i=.int .i64 k/\GX (R.take k)=s/\m=.int .i64 s.1/\ok=.bool s.2.isSome/\Own wr w.heap.size 121 2 iO (.slice A R.length c) R/\aj wr g8 39 #[.int .i64 (s.2.getD 0),.int .i64 (if s.2.isSome=true then y else 0)]/\Below w.heap.size w wr) (fun i _ _ _=>R.length-(intOf i).toNat)
 case atStart => exact ⟨0,(0,none),Nat.zero_le _,rfl,rfl,rfl,rfl,HO.out,HX.out,HB2.out⟩
 case round =>
  obtain ⟨k,s,hk,rfl,hs,rfl,rfl,hO,X8,hbw⟩:=hrel;obtain ⟨wo,rfl⟩:∃ wo:World,wo=wr:=⟨_,rfl⟩;have iK:=Lib.hid hO;have bU:=Lib.hid X8;have iQ:=Lib.hid hbw;by_cases hlt:k<R.length
  ·obtain ⟨A',c',he,-,-,qg⟩:=hO.sl;injection he with q1 q2 q3;subst q1 q3;clear q2;obtain ⟨b',o',rfl,hlb,c0,c1⟩:=qg.rn hlt;have hst:=asv hlt;rw [hs] at hst;have hbd:=sG.out _ (List.getElem_mem hlt);generalize R[k]=r at *;obtain ⟨lo,hi⟩:=r;obtain ⟨m0,o⟩:=s;simp only at c0 c1 hbd;unfold aaU at hst;simp only at hst;have eP:=Lib.hid hst;have k1:IntKind.i64.wrap (hi-lo)=hi-lo:=IntWalk.i64_in _ (by omega);have k2:IntKind.i64.wrap (lo+hi)=lo+hi:=IntWalk.i64_in _ (by omega);have k3:IntKind.i64.wrap (lo+hi-1)=lo+hi-1:=IntWalk.i64_in _ (by omega);clear hs hst hO qg HO HX HB2 hbw;by_cases hgt:m0<hi-lo
   ·have hst:=eP.out;rw [if_pos hgt] at hst;have Qa:=Lib.hid hst;have qF:=X8;clear hst eP
    try clear qF
    obtain ⟨qY,qZ,qF,Xc,Xd⟩:=X8.bH;go_wp2_with fail;have hne:=Own.dU iK.out bU.out (by decide);go_roundw
    case measure => simp [intOf];omega
    case rel => exact ⟨k+1,_,by omega,by go_num,Qa.out,rfl,rfl,((iK.out.far (p:=⟨g8,0,none⟩) hne _).far (p:=⟨g8,1,none⟩) hne _).alloc _,(aj.rW bU.out).alloc _,bA (bS (p:=⟨g8,1,none⟩) (bS (p:=⟨g8,0,none⟩) iQ.out xu _) xu _) _⟩
   ·have hst:=eP.out;rw [if_neg hgt] at hst;have Qa:=Lib.hid hst;clear hst eP;go_wp2_with fail;go_roundw
    case measure => simp [intOf];omega
    case rel => exact ⟨k+1,_,by omega,by go_num,Qa.out,rfl,rfl,iK.out.alloc _,bU.out.alloc _,bA iQ.out _⟩
  ·obtain rfl:k=R.length:=by omega
   rw [List.take_length] at hs;have hq:=HQ.out;rw [hs] at hq;have vH:=Lib.hid hq;clear hs hq HQ hO;obtain ⟨m0,o⟩:=s;simp only at X8 vH bU;have hl8:=X8.lt
   cases o with
   | none =>
    have HR:=Lib.hid (show q=none from vH.out.symm);simp only [Option.getD_none,Option.isSome_none,Bool.false_eq_true,if_false] at X8 bU
    try clear qY
    try clear qZ
    try clear qF
    try clear Xc
    try clear Xd
    obtain ⟨qY,qZ,qF,Xc,Xd⟩:=X8.bH;go_wp2_with fail;refine uw (t:=39) (g:=g8) (cs:=#[.int .i64 0,.int .i64 0]) rfl Ik rfl rfl (aj.rW bU.out) ⟨by rw [HR.out];rfl,bS (p:=⟨g8,1,none⟩) (bS (p:=⟨g8,0,none⟩) iQ.out xu _) xu _⟩
   | some z =>
    have HR:=Lib.hid (show q=some ⟨z,y⟩ from vH.out.symm);simp only [Option.getD_some,Option.isSome_some,if_true] at X8 bU
    try clear qY
    try clear qZ
    try clear qF
    try clear Xc
    try clear Xd
    obtain ⟨qY,qZ,qF,Xc,Xd⟩:=X8.bH;go_wp2_with fail;refine uw (t:=39) (g:=g8) (cs:=#[.int .i64 z,.int .i64 y]) rfl Ik rfl rfl (aj.rW bU.out) ⟨by rw [HR.out];rfl,bS (p:=⟨g8,1,none⟩) (bS (p:=⟨g8,0,none⟩) iQ.out xu _) xu _⟩
def Ib (x:Bx):Array Value:=#[.int .i64 x.x0,.int .i64 x.y0,.int .i64 x.x1,.int .i64 x.y1]
set_option maxRecDepth 100000 in
set_option maxHeartbeats 4000000 in
theorem asG (v:Value) (l:List Pt) (w:World) (h:gW w v l) (hne:0<l.length):Calls Tryz.prog 81 #[v] w fun e w'=>e=.returned (.agg (Ib (rH l)))/\Below w.heap.size w w':=by
 obtain ⟨A,c,rfl,hn1,hn2,hR⟩:=h;unfold maxLen at hn2;have HR:=Lib.hid hR;obtain ⟨b,o,rfl,hlb,c0,c1⟩:=hR.pt hne;simp only [Nat.zero_mul,Nat.add_zero] at c0 c1;obtain ⟨R,hRr⟩:∃ R,rH l=R:=⟨_,rfl⟩;rw [hRr];have hR2:l.foldl qH ⟨l[0].x,l[0].y,l[0].x,l[0].y⟩=R:=by
  rw [<- hRr]
  cases l with
  | nil=>cases hne
  | cons a l=>rfl
 obtain ⟨p0,hp0⟩:∃ p0,l[0]=p0:=⟨_,rfl⟩;rw [hp0] at c0 c1 hR2;have vG:=Lib.hid hR2;have hk0:(0:Int)<l.length:=by omega
 have hkn:¬ l=[]:=fun e=>by rw [e] at hne;cases hne
 have hkz:((l.length:Int) == 0)=false:=by rw [beq_eq_false_iff_ne];omega
 have avv:(l.length == 0)=false:=by rw [beq_eq_false_iff_ne];omega
 clear hR hRr hR2 hp0;go_enter Tryz.func81,Tryz.ntmps81;go_upto_region 1 with fail;obtain ⟨W1,hW⟩:∃ W:World,W=w.alloc (.cells #[.int .i64 0,.int .i64 0,.int .i64 0,.int .i64 0] 73):=⟨_,rfl⟩;obtain ⟨g2,hg2⟩:∃ g2,w.heap.size=g2:=⟨_,rfl⟩;have X2:aj W1 g2 73 #[.int .i64 0,.int .i64 0,.int .i64 0,.int .i64 0]:=by rw [hW];exact aj.made hg2.symm _ _
 have hA:Below w.heap.size w W1:=by rw [hW];exact bA (bR w) _
 have HB1:=Lib.hid hA;rw [<- hW];replace c0:=gU hA c0;replace c1:=gU hA c1;have aeH:b<W1.heap.size:=by have:=hA.size;omega
 have hbg:some b≠some g2:=fun e=>by have:=Option.some.inj e;omega
 have bU:=Lib.hid X2;have hgw:w.heap.size<=g2:=by omega
 clear hW hA
 try rw [hg2]
 obtain ⟨cu,cO,dH,dZ,Vy,CO,IJ,MZ,acd⟩:=X2.oD;go_upto_region 3 with fail;refine cZ (jH W1 (some g2)) (.run 17 0 0 (.call 17 262143 (.done))) (by kernel_rfl) (gD (gR _ _)) (by kernel_rfl) (by kernel_rfl) (Nat.le_of_ble_eq_true (by kernel_rfl)) ?_;intro dn QR au aC hS
 iterate 17
  apply jU;exact au;exact rfl;exact hS;exact rfl
  · intro _ hqc;go_simp;try rfl
  try simp only [pu]
 refine aW (i:=17) (aH au rfl) (fun K hK=>?_);have aA:=Lib.hid hS;clear hS;refine aN (aV rfl) ?_;go_simp;refine hK.out _ _ (by first | exact gS aA.out _ _ | (unfold jH;have vI:World.grownBy _ _ _:=aA.out;repeat (first | with_reducible assumption | with_reducible exact World.grownBy.refl _ _ | with_reducible refine gS ?_ _ _ | with_reducible refine gD ?_ | with_reducible refine gA ?_ _))) (fun hS=>?_);clear hK K aA
 try simp only [pu]
 refine bQ ?_;refine aC.down _ _ ?_;have hB:W1.grownBy _ (some g2):=hS;clear hS aC au;skip;have sG:=Lib.hid (show Below g2 W1 W1.drew from Below.drew (Below.refl g2 W1));clear hB c0 c1 cu cO dH dZ Vy CO IJ MZ acd;go_wp2_with fail;go_loopw [28] (fun u wr=>∃ (k:Nat) (x:Bx),k<=l.length/\u=.int .i64 k/\x=(l.take k).foldl qH ⟨p0.x,p0.y,p0.x,p0.y⟩/\aj wr g2 73 #[.int .i64 x.x0,.int .i64 x.y0,.int .i64 x.x1,.int .i64 x.y1]/\Below g2 W1 wr) (fun u _=>l.length-(intOf u).toNat)
 case atStart => exact ⟨0,⟨p0.x,p0.y,p0.x,p0.y⟩,Nat.zero_le _,rfl,rfl,aj.Ii bU.out.drew,(((sG.out.setCell (p:=⟨g2,0,none⟩) (Nat.le_refl _) _).setCell (p:=⟨g2,1,none⟩) (Nat.le_refl _) _).setCell (p:=⟨g2,2,none⟩) (Nat.le_refl _) _).setCell (p:=⟨g2,3,none⟩) (Nat.le_refl _) _⟩
 case round =>
  obtain ⟨k,x,hk,rfl,hx,X3,hb⟩:=hrel;obtain ⟨wo,rfl⟩:∃ wo:World,wo=wr:=⟨_,rfl⟩;have Hb:=Lib.hid hb;have HX:=Lib.hid hx;have Rz:=Lib.hid X3;have l3:=X3.lt;have iQ:=Lib.hid (show Below w.heap.size w wo from HB1.out.trans (hb.mono hgw));clear hb hx;by_cases hlt:k<l.length
  ·obtain ⟨b',o',hA',Cb,c0,c1⟩:=(HR.out.mono iQ.out).pt hlt;injection hA' with hA';injection hA' with y1 y2 _;subst y1 y2;have hst:(l.take (k+1)).foldl qH ⟨p0.x,p0.y,p0.x,p0.y⟩=qH x l[k]:=by
    rw [List.take_succ_eq_append_getElem hlt,List.foldl_append,<- HX.out];rfl
   unfold qH at hst;have eP:=Lib.hid hst;generalize l[k]=p at *;clear hst;go_upto_region 7 with fail;obtain ⟨W2,hW2⟩:∃ W:World,W=wo.alloc (.cells #[.int .i64 p.x,.int .i64 p.y] 39):=⟨_,rfl⟩;have hA1:Below wo.heap.size wo W2:=by rw [hW2];exact bA (bR wo) _
   obtain ⟨g5,hg5⟩:∃ g5,wo.heap.size=g5:=⟨_,rfl⟩;have X5:aj W2 g5 39 #[.int .i64 p.x,.int .i64 p.y]:=by rw [hW2];exact aj.made hg5.symm _ _
   have HB2:=Lib.hid (show Below g2 W1 W2 by rw [hW2];exact Hb.out.alloc (by have:=Hb.out.size;have:=bU.out.lt;omega) _);have n5:¬ g5=g2:=by omega
   have dI:=Lib.hid (Rz.out.keep hA1);have bV:=Lib.hid X5;rw [<- hW2]
   try rw [hg5]
   clear hW2 hA1 hg5 X3 c0 c1 Rz Hb iQ;have X4:=dI.out;obtain ⟨dF,dG,fG,jP,yL,fH,jw,lX,yM⟩:=X4.oD;obtain ⟨dw,dB,dL,-,-⟩:=X5.bH;go_cut [33] (fun u wx=>aj wx g2 73 #[.int .i64 (min x.x0 p.x),.int .i64 x.y0,.int .i64 (max x.x1 p.x),.int .i64 x.y1]/\aj wx g5 39 #[.int .i64 p.x,.int .i64 p.y]/\Below g2 W1 wx)
   case first =>
    obtain ⟨m1,hm1⟩:∃ m1:Int,m1=if p.x<x.x0 then p.x else x.x0:=⟨_,rfl⟩;obtain ⟨m2,hm2⟩:∃ m2:Int,m2=if x.x1<p.x then p.x else x.x1:=⟨_,rfl⟩;have hfin:aj (((W2.setCell ⟨g2,0,none⟩ (.int .i64 m1)).setCell ⟨g2,2,none⟩ (.int .i64 m2))).drew g2 73 #[.int .i64 (min x.x0 p.x),.int .i64 x.y0,.int .i64 (max x.x1 p.x),.int .i64 x.y1]/\aj (((W2.setCell ⟨g2,0,none⟩ (.int .i64 m1)).setCell ⟨g2,2,none⟩ (.int .i64 m2))).drew g5 39 #[.int .i64 p.x,.int .i64 p.y]/\Below g2 W1 (((W2.setCell ⟨g2,0,none⟩ (.int .i64 m1)).setCell ⟨g2,2,none⟩ (.int .i64 m2))).drew:=by
     refine ⟨?_,((bV.out.far (p:=⟨g2,0,none⟩) n5 _).far (p:=⟨g2,2,none⟩) n5 _).drew,((HB2.out.setCell (p:=⟨g2,0,none⟩) (Nat.le_refl _) _).setCell (p:=⟨g2,2,none⟩) (Nat.le_refl _) _).drew⟩;have h:=aj.fC (aj.fC dI.out 0 (.int .i64 m1)) 2 (.int .i64 m2);have e1:min x.x0 p.x=m1:=by rw [hm1];split<;>omega
     have e2:max x.x1 p.x=m2:=by rw [hm2];split<;>omega
     rw [e1,e2];refine aj.drew ?_;simpa using h
    have ES:=Lib.hid hfin;have RD:=Lib.hid hm1;have RF:=Lib.hid hm2;have RG:=Lib.hid (show min x.x0 p.x=m1 by rw [hm1];split<;>omega);have RH:=Lib.hid (show max x.x1 p.x=m2 by rw [hm2];split<;>omega);clear hfin hm1 hm2;go_upto_region 7 with fail;refine cZ (jH W2 (some g2)) (.take 0 1 (.take 2 5 (.take 3 13 (.take 5 45 (.take 7 173 (.take 8 429 (.two 1 431 (.take 4 447 (.call 6 511 (.take 9 1023 (.take 10 2047 (.call 11 4095 (.take 12 8191 (.call 13 16383 (.done)))))))) 6 493 (.take 9 1005 (.call 1 1007 (.take 4 1023 (.take 10 2047 (.call 11 4095 (.take 12 8191 (.call 13 16383 (.done))))))))))))))) (by kernel_rfl) (gD (gR _ _)) (by kernel_rfl) (by kernel_rfl) (Nat.le_of_ble_eq_true (by kernel_rfl)) ?_;intro dn QR au aC hS
    iterate 6
     apply jU;exact au;exact rfl;exact hS;exact rfl
     · intro _ hqc;go_simp;try rfl
     try simp only [pu]
    refine xG (i:=1) (j:=6) (aH au rfl) (aH au rfl) (fun K hK=>?_) (fun K hK=>?_)
    ·have aA:=Lib.hid hS;clear hS;refine aN (aV rfl) ?_;go_simp;refine hK.out _ _ aA.out (fun hS=>?_);clear hK K aA
     try simp only [pu]
     apply jU;exact au;exact rfl;exact hS;exact rfl
     · intro _ hqc;go_simp;try rfl
     try simp only [pu]
     refine aW (i:=6) (aH au rfl) (fun K hK=>?_);have aA:=Lib.hid hS;clear hS;refine aN (aV rfl) ?_;go_simp;refine hK.out _ _ aA.out (fun hS=>?_);clear hK K aA
     try simp only [pu]
     iterate 2
      apply jU;exact au;exact rfl;exact hS;exact rfl
      · intro _ hqc;go_simp;try rfl
      try simp only [pu]
     refine aW (i:=11) (aH au rfl) (fun K hK=>?_);have aA:=Lib.hid hS;clear hS;refine aN (aV rfl) ?_;go_simp;refine hK.out _ _ (by first | exact gS aA.out _ _ | (unfold jH;have vI:World.grownBy _ _ _:=aA.out;repeat (first | with_reducible assumption | with_reducible exact World.grownBy.refl _ _ | with_reducible refine gS ?_ _ _ | with_reducible refine gD ?_ | with_reducible refine gA ?_ _))) (fun hS=>?_);clear hK K aA
     try simp only [pu]
     apply jU;exact au;exact rfl;exact hS;exact rfl
     · intro _ hqc;go_simp;try rfl
     try simp only [pu]
     refine aW (i:=13) (aH au rfl) (fun K hK=>?_);have aA:=Lib.hid hS;clear hS;refine aN (aV rfl) ?_;go_simp;refine hK.out _ _ (by first | exact gS aA.out _ _ | (unfold jH;have vI:World.grownBy _ _ _:=aA.out;repeat (first | with_reducible assumption | with_reducible exact World.grownBy.refl _ _ | with_reducible refine gS ?_ _ _ | with_reducible refine gD ?_ | with_reducible refine gA ?_ _))) (fun hS=>?_);clear hK K aA
     try simp only [pu]
     refine bQ ?_;refine aC.down _ _ ?_;have hB:W2.grownBy _ (some g2):=hS;clear hS aC au
     first | rw [<- RD.out,<- RF.out] | rw [RG.out,RH.out]
     go_wp2_with fail;go_meet
     case rel => exact ES.out
    ·have aA:=Lib.hid hS;clear hS;refine aN (aV rfl) ?_;go_simp;refine hK.out _ _ aA.out (fun hS=>?_);clear hK K aA
     try simp only [pu]
     apply jU;exact au;exact rfl;exact hS;exact rfl
     · intro _ hqc;go_simp;try rfl
     try simp only [pu]
     refine aW (i:=1) (aH au rfl) (fun K hK=>?_);have aA:=Lib.hid hS;clear hS;refine aN (aV rfl) ?_;go_simp;refine hK.out _ _ aA.out (fun hS=>?_);clear hK K aA
     try simp only [pu]
     iterate 2
      apply jU;exact au;exact rfl;exact hS;exact rfl
      · intro _ hqc;go_simp;try rfl
      try simp only [pu]
     refine aW (i:=11) (aH au rfl) (fun K hK=>?_);have aA:=Lib.hid hS;clear hS;refine aN (aV rfl) ?_;go_simp;refine hK.out _ _ (by first | exact gS aA.out _ _ | (unfold jH;have vI:World.grownBy _ _ _:=aA.out;repeat (first | with_reducible assumption | with_reducible exact World.grownBy.refl _ _ | with_reducible refine gS ?_ _ _ | with_reducible refine gD ?_ | with_reducible refine gA ?_ _))) (fun hS=>?_);clear hK K aA
     try simp only [pu]
     apply jU;exact au;exact rfl;exact hS;exact rfl
     · intro _ hqc;go_simp;try rfl
     try simp only [pu]
     refine aW (i:=13) (aH au rfl) (fun K hK=>?_);have aA:=Lib.hid hS;clear hS;refine aN (aV rfl) ?_;go_simp;refine hK.out _ _ (by first | exact gS aA.out _ _ | (unfold jH;have vI:World.grownBy _ _ _:=aA.out;repeat (first | with_reducible assumption | with_reducible exact World.grownBy.refl _ _ | with_reducible refine gS ?_ _ _ | with_reducible refine gD ?_ | with_reducible refine gA ?_ _))) (fun hS=>?_);clear hK K aA
     try simp only [pu]
     refine bQ ?_;refine aC.down _ _ ?_;have hB:W2.grownBy _ (some g2):=hS;clear hS aC au
     first | rw [<- RD.out,<- RF.out] | rw [RG.out,RH.out]
     go_wp2_with fail;go_meet
     case rel => exact ES.out
   case rest =>
   obtain ⟨hx4,hx5,hb4⟩:=hcut;obtain ⟨wv,rfl⟩:∃ wv:World,wv=wc:=⟨_,rfl⟩;have jI:=Lib.hid hx4;have kX:=Lib.hid hx5;have HB4:=Lib.hid hb4;clear hx4 hx5 hb4 X4 dF dG fG jP yL fH jw lX yM X5 dw dB dL dI bV HB2;have X6:=jI.out;have X7:=kX.out;obtain ⟨jd,jf,jg,pW,qX,Qq,Qr,ah8,asH⟩:=X6.oD;obtain ⟨jW,jX,rX,-,-⟩:=X7.bH;obtain ⟨m1,hm1⟩:∃ m1:Int,m1=if p.y<x.y0 then p.y else x.y0:=⟨_,rfl⟩;obtain ⟨m2,hm2⟩:∃ m2:Int,m2=if x.y1<p.y then p.y else x.y1:=⟨_,rfl⟩;have hfin:aj (((wv.setCell ⟨g2,1,none⟩ (.int .i64 m1)).setCell ⟨g2,3,none⟩ (.int .i64 m2))).drew g2 73 #[.int .i64 (min x.x0 p.x),.int .i64 (min x.y0 p.y),.int .i64 (max x.x1 p.x),.int .i64 (max x.y1 p.y)]/\Below g2 W1 (((wv.setCell ⟨g2,1,none⟩ (.int .i64 m1)).setCell ⟨g2,3,none⟩ (.int .i64 m2))).drew:=by
    refine ⟨?_,((HB4.out.setCell (p:=⟨g2,1,none⟩) (Nat.le_refl _) _).setCell (p:=⟨g2,3,none⟩) (Nat.le_refl _) _).drew⟩;have h:=aj.fC (aj.fC jI.out 1 (.int .i64 m1)) 3 (.int .i64 m2);have e1:min x.y0 p.y=m1:=by rw [hm1];split<;>omega
    have e2:max x.y1 p.y=m2:=by rw [hm2];split<;>omega
    rw [e1,e2];refine aj.drew ?_;simpa using h
   have ES:=Lib.hid hfin;have RD:=Lib.hid hm1;have RF:=Lib.hid hm2;have RG:=Lib.hid (show min x.y0 p.y=m1 by rw [hm1];split<;>omega);have RH:=Lib.hid (show max x.y1 p.y=m2 by rw [hm2];split<;>omega);clear hfin hm1 hm2;go_upto_region 8 with fail;refine cZ (jH wv (some g2)) (.take 0 1 (.take 2 5 (.take 3 13 (.take 5 45 (.take 7 173 (.take 8 429 (.two 1 431 (.take 4 447 (.call 6 511 (.take 9 1023 (.take 10 2047 (.call 11 4095 (.take 12 8191 (.call 13 16383 (.done)))))))) 6 493 (.take 9 1005 (.call 1 1007 (.take 4 1023 (.take 10 2047 (.call 11 4095 (.take 12 8191 (.call 13 16383 (.done))))))))))))))) (by kernel_rfl) (gD (gR _ _)) (by kernel_rfl) (by kernel_rfl) (Nat.le_of_ble_eq_true (by kernel_rfl)) ?_;intro dn QR au aC hS
   iterate 6
    apply jU;exact au;exact rfl;exact hS;exact rfl
    · intro _ hqc;go_simp;try rfl
    try simp only [pu]
   refine xG (i:=1) (j:=6) (aH au rfl) (aH au rfl) (fun K hK=>?_) (fun K hK=>?_)
   ·have aA:=Lib.hid hS;clear hS;refine aN (aV rfl) ?_;go_simp;refine hK.out _ _ aA.out (fun hS=>?_);clear hK K aA
    try simp only [pu]
    apply jU;exact au;exact rfl;exact hS;exact rfl
    · intro _ hqc;go_simp;try rfl
    try simp only [pu]
    refine aW (i:=6) (aH au rfl) (fun K hK=>?_);have aA:=Lib.hid hS;clear hS;refine aN (aV rfl) ?_;go_simp;refine hK.out _ _ aA.out (fun hS=>?_);clear hK K aA
    try simp only [pu]
    iterate 2
     apply jU;exact au;exact rfl;exact hS;exact rfl
     · intro _ hqc;go_simp;try rfl
     try simp only [pu]
    refine aW (i:=11) (aH au rfl) (fun K hK=>?_);have aA:=Lib.hid hS;clear hS;refine aN (aV rfl) ?_;go_simp;refine hK.out _ _ (by first | exact gS aA.out _ _ | (unfold jH;have vI:World.grownBy _ _ _:=aA.out;repeat (first | with_reducible assumption | with_reducible exact World.grownBy.refl _ _ | with_reducible refine gS ?_ _ _ | with_reducible refine gD ?_ | with_reducible refine gA ?_ _))) (fun hS=>?_);clear hK K aA
    try simp only [pu]
    apply jU;exact au;exact rfl;exact hS;exact rfl
    · intro _ hqc;go_simp;try rfl
    try simp only [pu]
    refine aW (i:=13) (aH au rfl) (fun K hK=>?_);have aA:=Lib.hid hS;clear hS;refine aN (aV rfl) ?_;go_simp;refine hK.out _ _ (by first | exact gS aA.out _ _ | (unfold jH;have vI:World.grownBy _ _ _:=aA.out;repeat (first | with_reducible assumption | with_reducible exact World.grownBy.refl _ _ | with_reducible refine gS ?_ _ _ | with_reducible refine gD ?_ | with_reducible refine gA ?_ _))) (fun hS=>?_);clear hK K aA
    try simp only [pu]
    refine bQ ?_;refine aC.down _ _ ?_;have hB:wv.grownBy _ (some g2):=hS;clear hS aC au
    first | rw [<- RD.out,<- RF.out] | rw [RG.out,RH.out]
    go_wp2_with fail;go_roundw
    case rel => exact ⟨k+1,_,by omega,by go_num,eP.out.symm,ES.out.1,ES.out.2⟩
    case measure => simp [intOf];omega
   ·have aA:=Lib.hid hS;clear hS;refine aN (aV rfl) ?_;go_simp;refine hK.out _ _ aA.out (fun hS=>?_);clear hK K aA
    try simp only [pu]
    apply jU;exact au;exact rfl;exact hS;exact rfl
    · intro _ hqc;go_simp;try rfl
    try simp only [pu]
    refine aW (i:=1) (aH au rfl) (fun K hK=>?_);have aA:=Lib.hid hS;clear hS;refine aN (aV rfl) ?_;go_simp;refine hK.out _ _ aA.out (fun hS=>?_);clear hK K aA
    try simp only [pu]
    iterate 2
     apply jU;exact au;exact rfl;exact hS;exact rfl
     · intro _ hqc;go_simp;try rfl
     try simp only [pu]
    refine aW (i:=11) (aH au rfl) (fun K hK=>?_);have aA:=Lib.hid hS;clear hS;refine aN (aV rfl) ?_;go_simp;refine hK.out _ _ (by first | exact gS aA.out _ _ | (unfold jH;have vI:World.grownBy _ _ _:=aA.out;repeat (first | with_reducible assumption | with_reducible exact World.grownBy.refl _ _ | with_reducible refine gS ?_ _ _ | with_reducible refine gD ?_ | with_reducible refine gA ?_ _))) (fun hS=>?_);clear hK K aA
    try simp only [pu]
    apply jU;exact au;exact rfl;exact hS;exact rfl
    · intro _ hqc;go_simp;try rfl
    try simp only [pu]
    refine aW (i:=13) (aH au rfl) (fun K hK=>?_);have aA:=Lib.hid hS;clear hS;refine aN (aV rfl) ?_;go_simp;refine hK.out _ _ (by first | exact gS aA.out _ _ | (unfold jH;have vI:World.grownBy _ _ _:=aA.out;repeat (first | with_reducible assumption | with_reducible exact World.grownBy.refl _ _ | with_reducible refine gS ?_ _ _ | with_reducible refine gD ?_ | with_reducible refine gA ?_ _))) (fun hS=>?_);clear hK K aA
    try simp only [pu]
    refine bQ ?_;refine aC.down _ _ ?_;have hB:wv.grownBy _ (some g2):=hS;clear hS aC au
    first | rw [<- RD.out,<- RF.out] | rw [RG.out,RH.out]
    go_wp2_with fail;go_roundw
    case rel => exact ⟨k+1,_,by omega,by go_num,eP.out.symm,ES.out.1,ES.out.2⟩
    case measure => simp [intOf];omega
  ·have hxr:x=R:=by rw [HX.out,List.take_of_length_le (by omega),vG.out]
   have HXr:=Lib.hid hxr;clear hxr;obtain ⟨lM,lN,nN,Na,Ku,FQ,OE,aiM,aiN⟩:=X3.oD;go_wp2_with fail;refine Oi (g:=g2) (cs:=#[.int .i64 x.x0,.int .i64 x.y0,.int .i64 x.x1,.int .i64 x.y1]) rfl ajO rfl rfl (aj.Ii Rz.out) ⟨by rw [HXr.out];rfl,?_⟩;exact (((iQ.out.setCell (p:=⟨g2,0,none⟩) hgw _).setCell (p:=⟨g2,1,none⟩) hgw _).setCell (p:=⟨g2,2,none⟩) hgw _).setCell (p:=⟨g2,3,none⟩) hgw _
end Go.Proofs.YtialfdomhoojiaaGreat
