import Derived.Test.YtialfdomhoojiaaGreatJ22
import Derived.Lib.SliceRun
import Derived.Deep.RegionLaw
set_option linter.unusedSimpArgs false
set_option linter.unusedVariables false
set_option maxRecDepth 100000
set_option maxHeartbeats 8000000
namespace Go.Proofs.YtialfdomhoojiaaGreat
open Go.RowKit
def apX (w:World) (l:List Int) (e:Ending) (w':World):Prop :=
 ∃ A c,e=.returned (.slice A l.length c)/\Below w.heap.size w w'/\Own w' w.heap.size 3 1 dw (.slice A l.length c) l
theorem apY (v:Value) (l:List Int) (w:World) (h:Ints w v l) (hl:l.length<=1048576) :
  Calls Tryz.prog 153 #[v] w (apX w l):=by
 have H:=h;obtain ⟨A,c,rfl,hn,hc,hR⟩:=h;have hE:=Lib.run_eql_slice_nil (P:=Tryz.prog) (t:=24) (e:=3);rcases A with _ | ad
 ·have hl0:l=[]:=by
   rcases l with _ | ⟨a,l⟩
   · rfl
   ·obtain ⟨b,o,e,_⟩:=hR (by simp [dw])
    cases e
  subst hl0;clear hR H;simp only [avN] at hn ⊢;have hE1:∀ W:World,(binOp .eql 24 (.slice none 0 c) (.slice none 0 0)).run Tryz.prog W=.ok (.bool true) W:=fun W=>Lib.run_eql_slice_nil W _ 3 none _ c 0 0 Tryz.underlying24;clear hE;go_enter Tryz.func153,Tryz.ntmps153;go_wp2;go_ret;exact ⟨_,_,rfl,bR w,Own.nil _ _ _ _ _⟩
 ·have hE1:∀ W:World,(binOp .eql 24 (.slice (some ad) l.length c) (.slice none 0 0)).run Tryz.prog W=.ok (.bool false) W:=fun W=>Lib.run_eql_slice_nil W _ 3 (some ad) _ c 0 0 Tryz.underlying24;clear hE hR;have HH:=avE H;clear H;go_enter Tryz.func153,Tryz.ntmps153;go_wp2_with
   (at_builtin
    refine iZ _ rfl (.tmp 5) (.tmp 6) _ rfl (base:=w.heap.size) jR jB jT rfl (Own.lit _ _ _ _ dw [] _ 0 _ rfl rfl (awe _) (dP Pe) rfl rfl) rfl (HH.out.mono (bA (bR w) _)) at6 at6 ars ?_;intro v1 w1 hown hg hat)
  go_ret;obtain ⟨A1,c1,rfl,-⟩:=Own.sl hown;simp only [List.nil_append] at hown ⊢;exact ⟨A1,c1,rfl,bG (bA (bR w) _) hg (fun k hk=>by have:w.heap.size=k:=avP hk;omega),hown⟩
def rX (bl:List (Ar×SV)):Prop:=bl.Pairwise (fun x y=>jw (bg x.2) (bg y.2))
def apZ (w:World) (p:Pl) (e:Ending) (w':World):Prop :=
 ∃ An cn Aa ca Af cf bl,e=.returned (.agg #[.slice An p.nodes.length cn,.slice Aa p.aj.length ca,.slice Af p.faces.length cf])/\Below w.heap.size w w'/\kE w' w.heap.size (.slice An p.nodes.length cn) (.slice Aa p.aj.length ca) (.slice Af p.faces.length cf) p bl/\rX bl
theorem ahw (v:Value) (p:Pl) (w:World) (h:bQ w v p) (hm:mF p) (hf:p.faces.length<=1000000):Calls Tryz.prog 104 #[v] w (apZ w p):=by
 have ha:=hm.jX;have hn:=hm.rU;have hvl:=hm.via;obtain ⟨_,_,_,al,rfl,hpa,hN,⟨⟨Aa,ca,rfl,ha1,ha2,gV⟩,hV⟩,hF⟩:=h;obtain ⟨bl,rfl⟩:=hV.sv;have hres:p.aj=bl.map (·.1):=by rw [hpa,awc];rfl
 have hbl:bl.length<=1000000:=by rw [hres,avM] at ha;exact ha
 rw [avM] at ha1;rw [PY] at gV;have WV:=avE (show ∀ k (hk:k<bl.length),dM w (.slice bl[k].2.a bl[k].2.n bl[k].2.c) bl[k].1.via from fun k hk=>by
  have:=hV k (by simpa using hk)
  simpa [Fj] using this)
 have Sz:=avE (show ∀ k (hk:k<bl.length),bl[k].1.via.length<=1000000 from fun k hk=>hvl _ (by rw [hres];exact awd (avF hk)));have jr:=avE (show Row w Aa (bl.flatMap AZ) from gV);have HCn:=avE (fun W (hW:Below w.heap.size w W)=>ao9 _ p.nodes W (hN.mono hW) Pe);have HCf:=avE (fun W (hW:Below w.heap.size w W)=>apY _ p.faces W (hF.mono hW) Pe);have Mc:=avE (fun u l W (hu:dM W u l) (hl:l.length<=1048576)=>adl u l W hu hl);obtain ⟨An,cn,rfl,hn1,hn2,-⟩:=hN;obtain ⟨Af,cf,rfl,hf1,hf2,-⟩:=hF;have ahx:=avE hres;rw [avM] at *;unfold maxLen at ha2 hn2 hf2;clear hV gV hpa hres hvl hm ha;go_enter Tryz.func104,Tryz.ntmps104;go_upto_region 1 with fail;obtain ⟨g2,hg2⟩:∃ g2,w.heap.size+1=g2:=⟨_,rfl⟩;obtain ⟨W1,hW⟩:∃ W:World,W=(w.alloc (.cells #[.slice An p.nodes.length cn,.slice Aa bl.length ca,.slice Af p.faces.length cf] 26)).alloc (.cells #[.slice none 0 0,.slice none 0 0,.slice none 0 0] 26):=⟨_,rfl⟩;have X1:ah W1 w.heap.size 26 #[.slice An p.nodes.length cn,.slice Aa bl.length ca,.slice Af p.faces.length cf]:=by rw [hW];exact (ah.made rfl _ _).alloc _
 have X2:ah W1 g2 26 #[.slice none 0 0,.slice none 0 0,.slice none 0 0]:=by rw [hW];exact ah.made (by rw [<- hg2];simp) _ _
 have HB1:=avE (show Below w.heap.size w W1 by rw [hW];exact bA (bA (bR w) _) _);rw [<- hW]
 try rw [hg2]
 have gq:=avE X1;have dh:=avE X2;have n12:¬ g2=w.heap.size:=by omega
 have n21:¬ w.heap.size=g2:=by omega
 have hgw:w.heap.size<=g2:=by omega
 clear hW hg2;obtain ⟨aS,aT,aU,aW,-,-,-⟩:=X1.aF;obtain ⟨aG,aI,aJ,aO,Eb,FB,JG⟩:=X2.aF;go_wp2_with fail;refine (HCn.out _ HB1.out).mono ?_;rintro e w2 ⟨mG,mJ,rfl,hb2,hon⟩;have HB2:=avE (bT HB1.out hb2);have dW:=avE (gq.out.keep hb2);have dI:=avE (dh.out.keep hb2);have ahy:=hon.fG (b':=w.heap.size) HB1.out.size;have rP:=avE (show kE w2 w.heap.size (.slice mG p.nodes.length mJ) (.slice none 0 0) (.slice none 0 0) ⟨p.nodes,[],[]⟩ [] from ⟨ahy,Own.nil _ _ _ _ _,(fun x hx=>by cases hx),rfl,Own.nil _ _ _ _ _⟩);clear hb2 hon ahy HCn X1 aS aT aU aW X2 aG aI aJ aO Eb FB JG;have X3:=dW.out;have X4:=dI.out;obtain ⟨bH,bU,bY,fP,-,-,-⟩:=X3.aF;obtain ⟨aV,aX,bn,fA,dV,gy,iF⟩:=X4.aF;go_wp2_with fail;go_loopw [12] (fun i wr=>∃ (k:Nat) (ol:List (Ar×SV)) (A:Option Addr) (c:Nat),k<=bl.length/\i=.int .i64 k/\ol.length=k/\kE wr w.heap.size (.slice mG p.nodes.length mJ) (.slice A k c) (.slice none 0 0) ⟨p.nodes,(bl.take k).map (·.1),[]⟩ ol/\rX ol/\ah wr g2 26 #[.slice mG p.nodes.length mJ,.slice A k c,.slice none 0 0]/\ah wr w.heap.size 26 #[.slice An p.nodes.length cn,.slice Aa bl.length ca,.slice Af p.faces.length cf]/\Below w.heap.size w wr) (fun i _=>bl.length-(intOf i).toNat)
 case atStart => exact ⟨0,[],none,0,avK _,rfl,rfl,rP.out.far dI.out arC arC arC arC 0 _,List.Pairwise.nil,by simpa using dI.out.fF 0 (.slice mG p.nodes.length mJ),dW.out.far (by show w.heap.size≠g2;omega) _,bS HB2.out hgw _⟩
 case round =>
  clear rP dI HB2 X3 bH bU bY fP X4 aV aX bn fA dV gy iF dW;obtain ⟨k,ol,A,c,hk,rfl,hol,hpo,hsep,X4,X3,hb⟩:=hrel;obtain ⟨wo,rfl⟩:∃ wo:World,wo=wr:=⟨_,rfl⟩;have HP:=avE hpo;have dI:=avE X4;have dW:=avE X3;have HB:=avE hb;have Le:=avE hol;have abQ:=avE hsep;have hl4:=X4.lt;clear hpo hb hsep;by_cases hlt:k<bl.length
  ·obtain ⟨b,o,hAb,hlb,c0,c1,c2,c3,c4,c5⟩:=(Row.mono jr.out HB.out).VY hlt;subst hAb;have hv:=WV.out k hlt;have hvl:=Sz.out k hlt;have htk:bl.take (k+1)=bl.take k++[bl[k]]:=avH hlt;generalize bl[k]=x at *;obtain ⟨⟨id,fr,dst,via,lf,rt⟩,⟨va,vn,vc⟩⟩:=x;simp only at c0 c1 c2 c3 c4 c5 hv hvl htk;have hv0:=hv;obtain ⟨Av,cv,hev,-,-,-⟩:=hv;injection hev with y1 y2 y3;subst y1 y2 y3;have HVs:=avE (fun W (hW:Below w.heap.size w W)=>Mc.out (.slice va via.length vc) via W (hv0.mono hW) Pe);clear hv0;have jf:=avE htk;clear htk X4 X3;go_upto_region 5 with fail;obtain ⟨W2,hW⟩:∃ W:World,W=wo.alloc (.cells #[.int .i64 id,.int .i64 fr,.int .i64 dst,.slice va via.length vc,.int .i64 lf,.int .i64 rt] 50):=⟨_,rfl⟩;have hA:Below wo.heap.size wo W2:=by rw [hW];exact bA (bR wo) _
   obtain ⟨g4,hg4⟩:∃ g4,wo.heap.size=g4:=⟨_,rfl⟩;have X6:ah W2 g4 50 #[.int .i64 id,.int .i64 fr,.int .i64 dst,.slice va via.length vc,.int .i64 lf,.int .i64 rt]:=by rw [hW];exact ah.made hg4.symm _ _
   have HB2:=avE (bT HB.out hA);have HP2:=avE (HP.out.keep hA);have dF:=avE (dI.out.keep hA);have ahz:=avE (dW.out.keep hA);have n4:some g4≠(Value.slice A k c).ownBlock:=fun e=>by have:=(HP.out.jX.lt _ e.symm).2;omega
   have n42:¬ g4=g2:=by omega
   have n43:¬ g4=w.heap.size:=by have:=dW.out.lt;omega
   have auI:w.heap.size<=g4:=by have:=dW.out.lt;omega
   rw [<- hW]
   try rw [hg4]
   clear hW hA c0 c1 c2 c3 c4 c5 hlb HP HB dI dW;have pI:=avE X6;obtain ⟨fO,fQ,gK,xU,II,IJ,IK,-,-,-,-,-,-⟩:=X6.gX;go_wp2_with fail;refine (HVs.out _ HB2.out).mono ?_;rintro e w7 ⟨A7,c7,rfl,hb7,BZ⟩;have hz7:=HB2.out.size;have OI:=pI.out.keep hb7;have hn7:=Own.iO BZ OI arC;have hl6:g4<W2.heap.size:=fO;have OJ:=avE OI;have uw:=avE (HP2.out.keep hb7);have ahA:=avE (dF.out.keep hb7);have WW:=avE (ahz.out.keep hb7);have gW:=avE (bT HB2.out hb7);have Dy:=avE BZ;have VP:=avE (fun y (hy:y∈ol) g (hg:(bg y.2).ownBlock=some g)=>show jw (bg y.2) (.slice A7 via.length c7) from fun q hq e=>by
    have h1:=((HP2.out.uV y hy).lt q hq).2;have h2:=(BZ.lt q e).1;omega)
   clear X6 fO fQ gK xU II IJ IK hb7 BZ pI HP2 dF ahz HB2 OI;have OI:=OJ.out;obtain ⟨ap0,ap1,ap2,ap3,ap4,ap5,ap6,ap7,ap8,ap9,aqa,aqb,aqc⟩:=OI.gX;go_upto_region 6 with fail;obtain ⟨W8,hW⟩:∃ W:World,W=w7.setCell ⟨g4,3,none⟩ (.slice A7 via.length c7):=⟨_,rfl⟩;have X68:ah W8 g4 50 #[.int .i64 id,.int .i64 fr,.int .i64 dst,.slice A7 via.length c7,.int .i64 lf,.int .i64 rt]:=by rw [hW];have h:=OJ.out.fF 3 (.slice A7 via.length c7);simpa using h
   have SA:=avE (show kE W8 w.heap.size (.slice mG p.nodes.length mJ) (.slice A k c) (.slice none 0 0) ⟨p.nodes,(bl.take k).map (·.1),[]⟩ ol by
    rw [hW];exact ⟨uw.out.rU.far (p:=⟨g4,3,none⟩) (Own.iO uw.out.rU OJ.out arC) _,uw.out.jX.far (p:=⟨g4,3,none⟩) (fun e=>n4 e.symm) _,fun y hy=>(uw.out.uV y hy).far (p:=⟨g4,3,none⟩) (Own.iO (uw.out.uV y hy) OJ.out arC) _,uw.out.eq,uw.out.DJ.far (p:=⟨g4,3,none⟩) (Own.iO uw.out.DJ OJ.out arC) _⟩)
   have abR:=avE (show ah W8 g2 26 #[.slice mG p.nodes.length mJ,.slice A k c,.slice none 0 0] by rw [hW];exact ahA.out.far (by show g2≠g4;omega) _);have ahB:=avE (show ah W8 w.heap.size 26 #[.slice An p.nodes.length cn,.slice (some ⟨b,o,none⟩) bl.length ca,.slice Af p.faces.length cf] by rw [hW];exact WW.out.far (by show w.heap.size≠g4;omega) _);have DF:=avE (show Own W8 w.heap.size 39 2 dU (.slice A7 via.length c7) via by rw [hW];exact (Dy.out.far (p:=⟨g4,3,none⟩) hn7 _).fG hz7);have jl:=avE (show Below w.heap.size w W8 by rw [hW];exact bS gW.out (by show w.heap.size<=g4;omega) _);have HXt:=avE (show (bl.take (k+1)).map (·.1)=(bl.take k).map (·.1)++[(⟨id,fr,dst,via,lf,rt⟩:Ar)] by rw [jf.out,List.map_append];rfl);have aqd:=avE (show rX (ol++[((⟨id,fr,dst,via,lf,rt⟩:Ar),(⟨A7,via.length,c7⟩:SV))]) from List.pairwise_append.2 ⟨abQ.out,List.pairwise_singleton _ _,fun y hy z hz=>by
    rw [avY] at hz;subst hz;intro g hg;exact VP.out y hy g hg g hg⟩)
   rw [<- hW];clear hW OI ap0 ap1 ap2 ap3 ap4 ap5 ap6 ap7 ap8 ap9 aqa aqb aqc OJ uw ahA WW Dy gW VP abQ hn7 hl6;have X5:=abR.out;have hlk:ol.length<=1000000:=by omega
   have iL:=avE (show (ol++[((⟨id,fr,dst,via,lf,rt⟩:Ar),(⟨A7,via.length,c7⟩:SV))]).length=k+1 by rw [avL,Le.out];rfl);have auJ:=X5.lt;obtain ⟨bI,bJ,bV,jk,xP,DZ,ahC⟩:=X5.aF;obtain ⟨auK,auL,auM,auN,auO,auP,auQ,-,-,-,-,-,-⟩:=X68.gX;go_wp2_with
    (at_builtin
     refine iZ _ rfl (.tmp 21) (.tmp 23) _ rfl (base:=w.heap.size) ac3 UN adH rfl (Own.alloc SA.out.jX _) rfl (l2:=[((⟨id,fr,dst,via,lf,rt⟩:Ar),(⟨A7,via.length,c7⟩:SV))]) (Sl.lit (n:=1) (ah.made rfl _ _) rfl (dP Pe)) afr afr (by have:=jl.out.size;simp;omega) ?_;intro v9 w9 mY kH zh;obtain ⟨A9,c9,Ru,-⟩:=Own.lI mY;rw [iL.out] at Ru;subst Ru;have n5:=Own.iO (Own.alloc SA.out.jX (.cells #[.int .i64 id,.int .i64 fr,.int .i64 dst,.slice A7 via.length c7,.int .i64 lf,.int .i64 rt] 50)) (abR.out.alloc _) arC;have n6:=Own.iO (Own.alloc SA.out.jX (.cells #[.int .i64 id,.int .i64 fr,.int .i64 dst,.slice A7 via.length c7,.int .i64 lf,.int .i64 rt] 50)) (ahB.out.alloc _) arC;have hX9:=ah.grown (abR.out.alloc _) kH (fun e=>n5 e.symm);have aqe:=avE (ah.grown (ahB.out.alloc _) kH (fun e=>n6 e.symm));have hmr:=avE (kE.more (SA.out.keep (bA (bR W8) _)) mY kH (Own.alloc DF.out _));have oh:=avE hX9;have je:=avE (bG (bA jl.out _) kH (fun g hg=>(SA.out.jX.lt g hg).1));obtain ⟨q1,q2,q3,q4,q5,q6,q7⟩:=ah.aF hX9;clear hX9 mY kH zh n5 n6)
   go_roundw
   case rel => exact ⟨k+1,_,A9,c9,by omega,by go_num,iL.out,by rw [HXt.out];exact hmr.out.far oh.out arC arC arC arC 1 (.slice A9 (k+1) c9),aqd.out,by have h:=oh.out.fF 1 (.slice A9 (k+1) c9);simpa using h,aqe.out.far (by show w.heap.size≠g2;omega) _,bS je.out (by show w.heap.size<=g2;omega) _⟩
   case measure => simp [intOf];omega
  ·obtain rfl:k=bl.length:=by omega
   have hlen:p.aj.length=bl.length:=by rw [ahx.out,avM]
   have hpe:(⟨p.nodes,(bl.take bl.length).map (·.1),[]⟩:Pl)=⟨p.nodes,p.aj,[]⟩:=by rw [List.take_length,ahx.out]
   have hpo:=HP.out;rw [hpe] at hpo;have JH:=avE hpo;have HLn:=avE hlen;clear hpo hpe hlen HP
   try clear bH
   try clear bU
   try clear bY
   try clear fP
   obtain ⟨bH,bU,bY,fP,-,-,-⟩:=X3.aF;go_wp2_with fail;refine (HCf.out _ HB.out).mono ?_;rintro e w3 ⟨A3,c3,rfl,hb3,ho3⟩;have gY:=avE (ho3.fG (b':=w.heap.size) HB.out.size);have dF:=avE (dI.out.keep hb3);have wB:=avE (JH.out.keep hb3);have HB3:=avE (bT HB.out hb3);clear hb3 ho3 X3 bH bU bY fP X4 hl4 dI dW JH HB;have X5:=dF.out
   try clear bI
   try clear bJ
   try clear bV
   try clear jk
   try clear xP
   try clear DZ
   try clear ahC
   obtain ⟨bI,bJ,bV,jk,xP,DZ,ahC⟩:=X5.aF;have hY:ah (w3.setCell ⟨g2,2,none⟩ (.slice A3 p.faces.length c3)) g2 26 #[.slice mG p.nodes.length mJ,.slice A bl.length c,.slice A3 p.faces.length c3]:=by
    have h:=dF.out.fF 2 (.slice A3 p.faces.length c3);simpa using h
   have HY:=avE hY;have SB:=avE (show kE w3 w.heap.size (.slice mG p.nodes.length mJ) (.slice A bl.length c) (.slice A3 p.faces.length c3) p ol from ⟨wB.out.rU,wB.out.jX,wB.out.uV,wB.out.eq,gY.out⟩);have JH:=avE ((((SB.out.far dF.out arC arC arC arC 2 (.slice A3 p.faces.length c3)).far HY.out arC arC arC arC 0 (.slice mG p.nodes.length mJ)).far (HY.out.fF 0 _) arC arC arC arC 1 (.slice A bl.length c)).far ((HY.out.fF 0 _).fF 1 _) arC arC arC arC 2 (.slice A3 p.faces.length c3));have yH:=avE (bS (p:=⟨g2,2,none⟩) (bS (p:=⟨g2,1,none⟩) (bS (p:=⟨g2,0,none⟩) (bS (p:=⟨g2,2,none⟩) HB3.out hgw (.slice A3 p.faces.length c3)) hgw (.slice mG p.nodes.length mJ)) hgw (.slice A bl.length c)) hgw (.slice A3 p.faces.length c3));clear hY;go_wp2_with fail;refine Po (g:=g2) (cs:=#[.slice mG p.nodes.length mJ,.slice A bl.length c,.slice A3 p.faces.length c3]) rfl yS rfl rfl (ah.ny HY.out) ?_;have hl1:=HLn.out;refine ⟨mG,mJ,A,c,A3,c3,ol,by rw [hl1],yH.out,?_,abQ.out⟩;rw [hl1];exact JH.out
def jO (w:World) (g c:Nat) (m:List Pt):Prop:=∃ cur,ah w g 39 cur/\cur.size=c*2/\m.length<=c/\∀ k (hk:k<m.length),cur[k*2]? = some (.int .i64 m[k].x)/\cur[k*2+1]? = some (.int .i64 m[k].y)
section
variable {w w':World} {g c:Nat} {m:List Pt}
theorem jO.lt (h:jO w g c m):g<w.heap.size:=by obtain ⟨cur,hb,_⟩:=h;exact hb.lt
theorem jO.drew (h:jO w g c m):jO w.drew g c m:=h
theorem jO.at_ (h:jO w g c m) {k:Nat} (hk:k<m.length):w.cell? ⟨g,k*2,none⟩=some (.int .i64 m[k].x)/\w.cell? ⟨g,k*2+1,none⟩=some (.int .i64 m[k].y):=by
 obtain ⟨cur,h1,_,_,h2⟩:=h;exact ⟨(h1.cell _).trans (h2 k hk).1,(h1.cell _).trans (h2 k hk).2⟩
theorem jO.fz (h:jO w g c m) (i:Nat):w.frozen? ⟨g,i,none⟩=false:=by
 obtain ⟨cur,h1,_⟩:=h;exact h1.frozen i
theorem jO.set2 (h:jO w g c m) {k:Nat} (hk:k<m.length) (p:Pt):jO ((w.setCell ⟨g,k*2,none⟩ (.int .i64 p.x)).setCell ⟨g,k*2+1,none⟩ (.int .i64 p.y)) g c (m.set k p):=by
 obtain ⟨cur,h1,h2,h3,h4⟩:=h;refine ⟨_,(h1.fF _ _).fF _ _,by simp [h2],by simpa using h3,fun j hj=>?_⟩;have hj':j<m.length:=by simpa using hj
 by_cases e:k=j
 ·subst e;have b1:k*2<cur.size:=by omega
  have b2:k*2+1<cur.size:=by omega
  rw [List.getElem_set_self];constructor
  · rw [Array.getElem?_setIfInBounds_ne Pe,Array.getElem?_setIfInBounds_self_of_lt b1]
  · rw [Array.getElem?_setIfInBounds_self_of_lt (by simpa using b2)]
 ·rw [List.getElem_set_ne e];obtain ⟨a1,a2⟩:=h4 j hj';constructor
  · rw [Array.getElem?_setIfInBounds_ne Pe,Array.getElem?_setIfInBounds_ne Pe];exact a1
  · rw [Array.getElem?_setIfInBounds_ne Pe,Array.getElem?_setIfInBounds_ne Pe];exact a2
theorem jO.take (h:jO w g c m) (k:Nat):jO w g c (m.take k):=by
 obtain ⟨cur,h1,h2,h3,h4⟩:=h;refine ⟨cur,h1,h2,by rw [awk];omega,fun j hj=>?_⟩;have hj':j<m.length:=by rw [awk] at hj;omega
 rw [List.getElem_take];exact h4 j hj'
theorem jO.set1 (h:jO w g c m) {i:Nat} (hi:m.length*2<=i) (u:Value):jO (w.setCell ⟨g,i,none⟩ u) g c m:=by
 obtain ⟨cur,h1,h2,h3,h4⟩:=h;refine ⟨_,h1.fF _ _,by simp [h2],h3,fun j hj=>?_⟩;obtain ⟨a1,a2⟩:=h4 j hj;constructor
 · rw [Array.getElem?_setIfInBounds_ne Pe];exact a1
 · rw [Array.getElem?_setIfInBounds_ne Pe];exact a2
end
theorem jO.sets {g c:Nat} {m:List Pt}:∀ (vs:List Value) (o:Nat) {w:World},jO w g c m->m.length*2<=o->jO (w.setCells g o vs) g c m
 | [],_,_,h,_=>h
 | v::vs,o,_,h,ho=>jO.sets vs (o+1) (h.set1 ho v) Pe
theorem Own.hold {w:World} {B:Nat} {l:List Pt} {v:Value} (h:Own w B 39 2 dU v l) (hne:l≠[]):∃ g c,v=.slice (some ⟨g,0,none⟩) l.length c/\B<=g/\c<=maxLen/\jO w g c l:=by
 obtain ⟨h1,h2⟩:=h;rcases h2 with ⟨rfl,h2⟩ | ⟨g,cap,cur,rfl,hg,hh,h3,h4,h5,h6⟩
 · exact absurd (awi h2) hne
 ·refine ⟨g,cap,rfl,hg,h4,cur,hh,h5,h3,fun k hk=>?_⟩;have e0:=flat_get dU 2 jS l k 0 hk Pe;have e1:=flat_get dU 2 jS l k 1 hk Pe;rw [<- h6,List.getElem?_take] at e0 e1;rw [if_pos Pe] at e0 e1;exact ⟨by simpa [dU] using e0,by simpa [dU] using e1⟩
theorem jO.own {w:World} {B g c:Nat} {m:List Pt} (h:jO w g c m) (hg:B<=g) (hc:c<=maxLen):Own w B 39 2 dU (.slice (some ⟨g,0,none⟩) m.length c) m:=by
 obtain ⟨cur,h1,h2,h3,h4⟩:=h;refine ⟨flat_length dU 2 jS m,.inr ⟨g,c,cur,rfl,hg,h1,h3,hc,h2,?_⟩⟩;apply List.ext_getElem?;intro i;rw [List.getElem?_take];by_cases hi:i<m.length*2
 ·rw [if_pos hi];obtain ⟨k,j,rfl,hj⟩:∃ k j,i=k*2+j/\j<2:=⟨i / 2,i % 2,by omega,by omega⟩;have hk:k<m.length:=by omega
  rw [flat_get dU 2 jS m k j hk hj];obtain ⟨a0,a1⟩:=h4 k hk;rcases (by omega:j=0\/j=1) with rfl | rfl
  · simpa [dU] using a0
  · simpa [dU] using a1
 · rw [if_neg hi,awj (by rw [flat_length dU 2 jS];omega)]
theorem aqf (w:World) (ty:TypeId) (b o n c:Nat) (hn:0<n)
  (hc:∀ j,j<n*2->(w.cell? ⟨b,o+j,none⟩).isSome=true) (hf:∀ j,j<n*2->w.frozen? ⟨b,o+j,none⟩=false) :
  (Builtin.clear_ #[46] ty #[.slice (some ⟨b,o,none⟩) n c]).run Tryz.prog w=.ok (.tuple #[]) (w.setCells b o (List.replicate (n*2) (.int .i64 0))):=by
 have ht:Tryz.prog.underlying 46=some (.slice 39):=by kernel_rfl
 have hv:∀ w,(zeroValue 39).run Tryz.prog w=.ok (.agg #[.int .i64 0,.int .i64 0]) w:=fun w=>by kernel_rfl
 have hzc:(Builtin.zeroCells (Value.agg #[.int .i64 0,.int .i64 0]).cells n).toList=List.replicate (n*2) (.int .i64 0):=by
  simp [Builtin.zeroCells,Value.cells];apply List.ext_getElem
  · simp [Nat.mul_comm]
  ·intro i h1 h2;rcases Nat.mod_two_eq_zero_or_one i with e | e<;>simp [e]
 have hst:=run_storeCells_cells (P:=Tryz.prog) b o (List.replicate (n*2) (.int .i64 0)) 0 w (by simpa using hc) (by simpa using hf) (by intro v hv';rw [List.eq_of_mem_replicate hv'];rfl);simp only [Nat.add_zero] at hst;obtain ⟨m,rfl⟩:∃ m,n=m+1:=⟨n-1,by omega⟩;simp [Builtin.clear_,run_underlying ht,hv,hzc,hst]
theorem aqg {w0 w1:World} {g:Nat} (h:w0.grownBy w1 (some g)) (i:Nat) (u:Value):w0.grownBy (w1.setCell ⟨g,i,none⟩ u) (some g) :=
 ⟨h.os,h.tape,h.output,by simpa using h.size,fun b hb hr=>(Below.heap_setCell w1 _ u b (fun e=>hr avA)).trans (h.block b hb hr)⟩
theorem abS {w0:World} {g:Nat}:∀ (vs:List Value) (o:Nat) {w1:World},w0.grownBy w1 (some g)->w0.grownBy (w1.setCells g o vs) (some g)
 | [],_,_,h=>h
 | v::vs,o,_,h=>abS vs (o+1) (aqg h o v)
theorem SC:∀ w,(Go.sizeOf 39).run Tryz.prog w=.ok 2 w:=fun _=>by kernel_rfl
theorem aqh (g o:Nat) (q:Pt) (vs:List Value) (w:World):w.setCells g o (dU q++vs)=((w.setCell ⟨g,o,none⟩ (.int .i64 q.x)).setCell ⟨g,o+1,none⟩ (.int .i64 q.y)).setCells g (o+1+1) vs:=rfl
theorem jO.lay {g c:Nat}:∀ (ps:List Pt) (k:Nat) {m:List Pt} {w:World},jO w g c m->k+ps.length<=m.length->jO (w.setCells g (k*2) (ps.flatMap dU)) g c (m.take k++ps++m.drop (k+ps.length))
 | [],k,m,w,h,_=>by
  simp only [List.flatMap_nil,avN,Nat.add_zero,List.append_nil,List.take_append_drop];exact h
 | q::ps,k,m,w,h,hk=>by
  simp only [avO] at hk;have h1:=h.set2 (k:=k) Pe q;have h2:=jO.lay ps (k+1) h1 (by rw [av9];omega);rw [av5,aqh];rw [show (k+1)*2=k*2+1+1 by omega] at h2;have e:m.take k++(q::ps)++m.drop (k+(q::ps).length)=(m.set k q).take (k+1)++ps++(m.set k q).drop (k+1+ps.length):=by
   rw [avH (by rw [av9];omega),List.getElem_set_self,List.take_set_of_le (awe _),List.drop_set_of_lt Pe,avO];rw [show k+(ps.length+1)=k+1+ps.length by omega];simp
  rw [e];exact h2
theorem aqi (l:List Pt) (g c i:Nat) (w:World) (hh:jO w g c l) (hc:c<=maxLen) (hi:i<l.length) :
  Calls Tryz.prog 156 #[.slice (some ⟨g,0,none⟩) l.length c,.int .i64 i,.int .i64 ((i:Int)+1)] w fun e w'=>e=.returned (.slice (some ⟨g,0,none⟩) (l.eraseIdx i).length c)/\jO w' g c (l.eraseIdx i)/\w.grownBy w' (some g):=by
 obtain ⟨n,hn⟩:∃ n,l.length=n:=⟨_,rfl⟩;have hnc:n<=c:=by obtain ⟨_,_,_,h,_⟩:=hh;omega
 unfold maxLen at hc;have hel:(l.eraseIdx i).length=n-1:=by rw [List.length_eraseIdx,if_pos hi,hn]
 have HH:=avE hh;rw [hel,hn];rw [hn] at hi;obtain ⟨news,hnews⟩:∃ news,news=(l.drop (i+1)).flatMap dU:=⟨_,rfl⟩;have hlen:news.length=(n-(i+1))*2:=by rw [hnews,flat_length dU 2 jS,awl,hn]
 have Qk:=avE hnews;have HLen:=avE hlen;have H1:=avE (show jO (w.drew.setCells g (i*2) news) g c (l.eraseIdx i) by
  rw [hnews];have h:=jO.lay (l.drop (i+1)) i HH.out.drew (by rw [awl];omega);have h':=h.take (n-1);have e:(l.take i++l.drop (i+1)++l.drop (i+(l.drop (i+1)).length)).take (n-1)=l.eraseIdx i:=by
   rw [List.eraseIdx_eq_take_drop_succ,List.take_append_of_le_length arV,List.take_of_length_le arV]
  rw [e] at h';exact h')
 clear hnews hh hlen hel;go_enter Tryz.func156,Tryz.ntmps156;go_upto_region 5 with fail;obtain ⟨Ac,hAc⟩:∃ Ac,vI (some ⟨g,0,none⟩) c (i+1) 2=Ac:=⟨_,rfl⟩;have hrun1:=YQ Tryz.underlying46 SC (some ⟨g,0,none⟩) n c i Pe hnc;have hrun2:=Uw Tryz.underlying46 SC (some ⟨g,0,none⟩) n c (i+1) Pe ((i:Int)+1) Pe;rw [hAc] at hrun2;obtain ⟨A',hA',hsrc⟩:∃ A',Ac=some A'/\Hid (∀ t u,news[t]? = some u->w.drew.cell? (A'.add t)=some u):=by
  rw [<- hAc];unfold vI;by_cases e:c=i+1
  ·rw [if_pos e];refine ⟨_,rfl,avE fun t u hu=>?_⟩
   have:news=[]:=awi (by rw [HLen.out];omega)
   rw [this] at hu;simp at hu
  ·rw [if_neg e];refine ⟨_,rfl,avE fun t u hu=>?_⟩;have ht:t<(n-(i+1))*2:=by
    rw [<- HLen.out];exact (List.getElem?_eq_some_iff.1 hu).1
   obtain ⟨k,j,rfl,hj⟩:∃ k j,t=k*2+j/\j<2:=⟨t / 2,t % 2,by omega,by omega⟩;have hk:k<(l.drop (i+1)).length:=by rw [awl,hn];omega
   rw [Qk.out,flat_get dU 2 jS _ k j hk hj] at hu;have hk2:i+1+k<l.length:=by rw [hn];omega
   obtain ⟨a0,a1⟩:=HH.out.at_ hk2;rw [List.getElem_drop] at hu;have ea:((fun x:Addr=>x.add ((i+1)*2)) ⟨g,0,none⟩).add (k*2+j)=⟨g,(i+1+k)*2+j,none⟩:=by
    simp only [Addr.add_lit];rw [show 0+(i+1)*2+(k*2+j)=(i+1+k)*2+j by omega]
   rw [ea]
   show w.cell? _=some u
   rcases (by omega:j=0\/j=1) with rfl | rfl
   ·rw [Nat.add_zero,a0];simpa [dU] using hu
   ·rw [a1];simpa [dU] using hu
 obtain ⟨-,i0,z0,hi0,-,hz1,-⟩:=ng;subst hA';have ahD:=avE (show ∀ u∈news,u.oneCell'=true by rw [Qk.out];intro u hu;obtain ⟨q,-,hq⟩:=List.mem_flatMap.1 hu;exact ni q u hq);have uU:=avE (show ∀ t,t<news.length->(w.drew.cell? ⟨g,0+i*2+t,none⟩).isSome=true/\w.drew.frozen? ⟨g,0+i*2+t,none⟩=false by
  intro t ht;rw [HLen.out] at ht;obtain ⟨cur,hb,hcs,-⟩:=HH.out;refine ⟨?_,hb.frozen _⟩
  show (w.cell? ⟨g,0+i*2+t,none⟩).isSome=true
  rw [hb.cell,Array.getElem?_eq_getElem Pe];rfl)
 clear hAc;go_region_law (refine step_append_room rfl (.tmp 22) (.tmp 25) 46 rfl 39 i0 2 Tryz.underlying46 hi0 hz1 g 0 i c (by simp [Act.eval,Act.put]) A' (n-(i+1)) (c-(i+1)) news (by simp [Act.eval,Act.put]) HLen.out hsrc.out ahD.out Pe uU.out ?_);obtain ⟨W1,hW⟩:∃ W,W=w.drew.setCells g (i*2) news:=⟨_,rfl⟩;have hg1:w.grownBy W1 (some g):=by rw [hW];exact abS news _ (⟨rfl,rfl,rfl,awe _,fun _ _ _=>rfl⟩:w.grownBy w.drew (some g))
 rw [<- hW] at H1 ⊢;have BK:=avE hg1;have hnn:i+(n-(i+1))=n-1:=by omega
 rw [hnn];clear hW hg1 hrun1 hrun2 hnn hsrc uU ahD HLen Qk;have hlen:(l.eraseIdx i).length=n-1:=by rw [List.length_eraseIdx,if_pos Pe,hn]
 have qO:=avE hlen;have hcl:∀ ty,(Builtin.clear_ #[46] ty #[.slice (some ⟨g,(n-1)*2,none⟩) 1 (c-(n-1))]).run Tryz.prog W1=.ok (.tuple #[]) (W1.setCells g ((n-1)*2) (List.replicate (1*2) (.int .i64 0))):=fun ty=>by
  refine aqf W1 ty g ((n-1)*2) 1 (c-(n-1)) Pe (fun t ht=>?_) (fun t _=>H1.out.fz _);obtain ⟨cur,hb,hcs,-⟩:=H1.out;rw [hb.cell,Array.getElem?_eq_getElem Pe];rfl
 have H2:=avE (H1.out.sets (List.replicate (1*2) (.int .i64 0)) ((n-1)*2) (by rw [hlen];exact awe _));have HG2:=avE (abS (List.replicate (1*2) (.int .i64 0)) ((n-1)*2) BK.out);have k1:((n-1:Nat):Int)=(n:Int)-1:=by omega
 have k2:n-(n-1)=1:=by omega
 have k3:¬ c=n-1:=by omega
 clear hlen hn HH H1 BK;go_wp2;go_ret;exact ⟨rfl,H2.out,HG2.out⟩
theorem Own.OM {α:Type} {w:World} {base:Nat} {e:TypeId} {size:Nat} {f:α->List Value} {v:Value} {l:List α} (h:Own w base e size f v l) (hl:0<l.length):∃ g c,v=.slice (some ⟨g,0,none⟩) l.length c/\base<=g/\g<w.heap.size/\l.length<=c/\c<=maxLen/\(∃ cur,ah w g e cur/\cur.size=c*size):=by
 rcases h.2 with ⟨_,h0⟩ | ⟨g,cap,cur,hv,hg,hh,hnc,hcm,hcs,_⟩
 · omega
 · exact ⟨g,cap,hv,hg,ah.lt hh,hnc,hcm,cur,hh,hcs⟩
def SE (a:Ar) (i:Nat):Ar:=⟨a.id,a.fr,a.dst,a.via.eraseIdx i,a.left,a.right⟩
theorem abT {arc:Int} {i:Nat}:∀ {l:List Ar} {k:Nat} (hk:k<l.length),(l[k].id == arc)=true->(∀ j (hj:j<l.length),j<k->(l[j].id == arc)=false)->uj arc i l=l.set k (SE l[k] i)
 | a::l,0,hk,h,_=>by
  unfold uj;rw [if_pos (by simpa using h)];rfl
 | a::l,k+1,hk,h,hno=>by
  unfold uj;have h0:=hno 0 ars Pe;rw [if_neg (by simpa using h0)];have ih:=abT (i:=i) (l:=l) (k:=k) (by simpa using hk) (by simpa using h) (fun j hj hjk=>by
   have:=hno (j+1) (by simpa using hj) Pe
   simpa using this)
  rw [ih];rfl
theorem ahE {l:List Ar} {arc:Int} {a:Ar} {k:Nat} (hf:findAr l arc=some a) (hk:k<l.length) (h:(l[k].id == arc)=true) (hno:∀ j (hj:j<l.length),j<k->(l[j].id == arc)=false):l[k]=a:=by
 have:=MV l (fun a=>a.id == arc) k hk hno h
 unfold findAr at hf;rw [this] at hf;exact avP hf
theorem aqj {bl:List (Ar×SV)}:rX bl↔(bl.map (fun x=>(bg x.2).ownBlock)).Pairwise (fun u v=>∀ g,u=some g->v≠some g):=by
 unfold rX jw;rw [List.pairwise_map]
theorem rX.set {bl:List (Ar×SV)} (h:rX bl) {k:Nat} (hk:k<bl.length) (x:Ar×SV) (hx:(bg x.2).ownBlock=(bg bl[k].2).ownBlock):rX (bl.set k x):=by
 rw [aqj] at *;rw [List.map_set,hx];have:(bl.map (fun x=>(bg x.2).ownBlock)).set k ((bg bl[k].2).ownBlock)=bl.map (fun x=>(bg x.2).ownBlock):=by
  apply List.ext_getElem ars;intro i h1 h2;rw [av8];split
  · rename_i e;subst e;rw [av4]
  · rfl
 rw [this];exact h
theorem rX.at_ {bl:List (Ar×SV)} (h:rX bl) {j k:Nat} (hj:j<bl.length) (hk:k<bl.length) (hne:j≠k):jw (bg bl[j].2) (bg bl[k].2):=by
 unfold rX at h;rw [avJ] at h;rcases Nat.lt_or_gt_of_ne hne with l | l
 · exact h j k hj hk l
 · exact fun g hg e=>h k j hk hj l g e hg
theorem kE.dropped {w0 w5:World} {B:Nat} {vn vf:Value} {p Q:Pl} {bl:List (Ar×SV)} {gA gv n c cv k ki:Nat} {a:Ar} {cur:Array Value} (h:kE w0 B vn (.slice (some ⟨gA,0,none⟩) n c) vf p bl) (hs:rX bl) (hg:w0.grownBy w5 (some gv)) (hk:k<bl.length) (hka:bl[k].1=a) (hQ:Q=⟨p.nodes,p.aj.set k (SE a ki),p.faces⟩)
  (hv:bg bl[k].2=.slice (some ⟨gv,0,none⟩) a.via.length cv) (hh:jO w5 gv cv (a.via.eraseIdx ki)) (hB:B<=gv) (hc:cv<=maxLen) (hne:gA≠gv) (hA:ah w5 gA 50 cur) :
  ∃ SG,kE (w5.setCell ⟨gA,k*6+3,none⟩ (.slice (some ⟨gv,0,none⟩) (a.via.eraseIdx ki).length cv)) B vn (.slice (some ⟨gA,0,none⟩) n c) vf Q SG/\rX SG:=by
 subst hQ;have hvo:=h.uV _ (avF hk);have e0:bl[k]=(a,bl[k].2):=by rw [<- hka]
 refine ⟨bl.set k (SE a ki,⟨some ⟨gv,0,none⟩,(a.via.eraseIdx ki).length,cv⟩),⟨?_,?_,?_,?_,?_⟩,hs.set hk _ (by rw [hv];rfl)⟩
 ·have h5:=Own.grown h.rU hg (fun g hg'=>by have:=Own.apart h.rU hvo arC g hg';rw [hv] at this;exact this);exact h5.far (p:=⟨gA,k*6+3,none⟩) (Own.iO h5 hA arC) _
 ·have h5:=Own.grown h.jX hg (fun g hg'=>by have:=Own.apart h.jX hvo arC g hg';rw [hv] at this;exact this);exact Own.Nv UN h5 hk Pe _ _ (by rw [e0];rfl)
 ·intro y hy;obtain ⟨j,hj,rfl⟩:=avI.1 hy;have hj':j<bl.length:=by simpa using hj
  rw [av8];by_cases e:k=j
  ·rw [if_pos e];have h5:=hh.own hB hc;exact h5.far (p:=⟨gA,k*6+3,none⟩) (fun e'=>hne (avP e').symm) _
  ·rw [if_neg e];have h5:=Own.grown (h.uV _ (avF hj')) hg (fun g hg' e'=>by
    have hgv:=avP e';subst hgv;exact hs.at_ hj' hk (fun e''=>e e''.symm) g hg' (by rw [hv];rfl))
   exact h5.far (p:=⟨gA,k*6+3,none⟩) (Own.iO h5 hA arC) _
 ·show (bl.set k _).map (·.1)=p.aj.set k (SE a ki)
  rw [List.map_set,h.eq]
 ·have h5:=Own.grown h.DJ hg (fun g hg'=>by have:=Own.apart h.DJ hvo arC g hg';rw [hv] at this;exact this);exact h5.far (p:=⟨gA,k*6+3,none⟩) (Own.iO h5 hA arC) _
theorem ahF (p:Pl) (aN:Int) (An Aa Af:Option Addr) (cn ca cf B:Nat) (bl:List (Ar×SV)) (w:World) (h:kE w B (.slice An p.nodes.length cn) (.slice Aa p.aj.length ca) (.slice Af p.faces.length cf) p bl) (hs:rX bl) (hB:B<=w.heap.size) (hm:mF p) (hw:∀ a∈p.aj,eU a.id) :
  Calls Tryz.prog 105 #[.agg #[.slice An p.nodes.length cn,.slice Aa p.aj.length ca,.slice Af p.faces.length cf],.int .i64 aN] w fun e w' =>
   match uY p aN with
   | none=>e=.returned (.bool false)/\Below w.heap.size w w'
   | some q=>e=.returned (.bool true)/\Below B w w'/\(∀ g cs,ah w g 26 cs->ah w' g 26 cs)/\∃ SG,kE w' B (.slice An p.nodes.length cn) (.slice Aa p.aj.length ca) (.slice Af p.faces.length cf) q SG/\rX SG:=by
 have qO:=avE (fun W (hW:Below w.heap.size w W)=>WI _ p aN W (h.EF.mono hW) hm hw);have hlb:bl.length=p.aj.length:=by rw [<- h.eq,avM]
 have WX:=avE (fun arc g W (hW:Below w.heap.size w W) (hx:ah W g 3 #[.int .i64 arc])=>apv (.slice Aa p.aj.length ca) (bl.map Fj) arc g W (by
  have h':=h.keep hW;refine ⟨?_,fun k hk=>?_⟩
  ·have:=h'.jX.sl
   rw [avM,PY];exact this
  ·have hk':k<bl.length:=by simpa using hk
   rw [av4];exact (h'.uV _ (avF hk')).sl) hx (by rw [avM,hlb];exact hm.jX))
 have hmap:(bl.map Fj).map (·.1)=p.aj:=by rw [awc,<- h.eq];rfl
 rw [hmap] at WX;have hvl:=hm.via;have aqk:=hm.jX;have HP:=avE h;have HS:=avE hs;have HLb:=avE hlb;unfold uY
 cases hls:lY p aN with
 | none =>
  simp only [Option.map_none];have HL:=avE (show ∀ W,Below w.heap.size w W->Calls Tryz.prog 40 #[.agg #[.slice An p.nodes.length cn,.slice Aa p.aj.length ca,.slice Af p.faces.length cf],.int .i64 aN] W fun e w'=>e=.returned (.tuple #[.int .i64 0,.int .i64 0,.int .i64 0,.bool false])/\Below W.heap.size W w' from fun W hW=>by
   have h:=qO.out W hW;rw [hls] at h;exact h)
  clear h hs hm hw hls hmap hlb;generalize p.nodes.length=nn at *;generalize p.faces.length=nf at *;generalize p.aj.length=na at *;go_enter Tryz.func105,Tryz.ntmps105;go_upto_region 1 with fail;obtain ⟨W1,hW⟩:∃ W:World,W=w.alloc (.cells #[.slice An nn cn,.slice Aa na ca,.slice Af nf cf] 26):=⟨_,rfl⟩;have X2:ah W1 w.heap.size 26 #[.slice An nn cn,.slice Aa na ca,.slice Af nf cf]:=by rw [hW];exact ah.made rfl _ _
  have HB1:=avE (show Below w.heap.size w W1 by rw [hW];exact bA (bR w) _);rw [<- hW];clear hW;obtain ⟨aG,aI,aJ,aO,-,-,-⟩:=X2.aF;go_wp2_with fail;refine (HL.out _ HB1.out).mono ?_;rintro e w2 ⟨rfl,hb2⟩;have HB2:=avE (bT HB1.out hb2);clear hb2;go_wp2;go_ret;exact ⟨rfl,bA HB2.out _⟩
 | some c =>
  simp only [Option.map_some];obtain ⟨a,hfa,aql,-,hck,-⟩:=Wj hls;have HL:=avE (show ∀ W,Below w.heap.size w W->Calls Tryz.prog 40 #[.agg #[.slice An p.nodes.length cn,.slice Aa p.aj.length ca,.slice Af p.faces.length cf],.int .i64 aN] W fun e w'=>e=.returned (.tuple #[.int .i64 c.id,.int .i64 c.k,.int .i64 c.n,.bool true])/\Below W.heap.size W w' from fun W hW=>by
   have h:=qO.out W hW;rw [hls] at h;exact h)
  have lZ:=avE hfa;obtain ⟨id,ki,n⟩:=c;simp only at hck HL lZ ⊢;have HQ:=avE (show EH p id ki=⟨p.nodes,uj id ki p.aj,p.faces⟩ from rfl);clear h hs hm hw hls hmap hfa aql hlb qO;obtain ⟨nn,hnn⟩:∃ n,p.nodes.length=n:=⟨_,rfl⟩;obtain ⟨nf,hnf⟩:∃ n,p.faces.length=n:=⟨_,rfl⟩;obtain ⟨na,hna⟩:∃ n,p.aj.length=n:=⟨_,rfl⟩;rw [hnn,hnf,hna] at HP HL ⊢;rw [hna] at WX aqk HLb;have zV:=avE hna;obtain ⟨Q,hQ⟩:∃ Q,EH p id ki=Q:=⟨_,rfl⟩;rw [hQ] at HQ ⊢;clear hnn hnf hna hQ;go_enter Tryz.func105,Tryz.ntmps105;go_upto_region 1 with fail;obtain ⟨W1,hW⟩:∃ W:World,W=w.alloc (.cells #[.slice An nn cn,.slice Aa na ca,.slice Af nf cf] 26):=⟨_,rfl⟩;have X2:ah W1 w.heap.size 26 #[.slice An nn cn,.slice Aa na ca,.slice Af nf cf]:=by rw [hW];exact ah.made rfl _ _
  have HB1:=avE (show Below w.heap.size w W1 by rw [hW];exact bA (bR w) _);rw [<- hW];clear hW;have dh:=avE X2
  try clear aG
  try clear aI
  try clear aJ
  try clear aO
  obtain ⟨aG,aI,aJ,aO,-,-,-⟩:=X2.aF;go_wp2_with fail;refine (HL.out _ HB1.out).mono ?_;rintro e w2 ⟨rfl,hb2⟩;have HB2:=avE (bT HB1.out hb2);have jG:=avE (dh.out.keep hb2);clear hb2 HL dh HB1 X2 aG aI aJ aO;go_upto_region 2 with fail;obtain ⟨g5,hg5⟩:∃ g,w2.heap.size=g:=⟨_,rfl⟩;obtain ⟨W3,hW⟩:∃ W:World,W=w2.alloc (.cells #[.int .i64 id] 3):=⟨_,rfl⟩;have dF:=avE (show ah W3 g5 3 #[.int .i64 id] by rw [hW,<- hg5];exact ah.made rfl _ _);have hA3:Below w2.heap.size w2 W3:=by rw [hW];exact bA (bR w2) _
  have vg:=avE (jG.out.keep hA3);have HB3:=avE (bT HB2.out hA3);rw [<- hW,hg5];clear hW hg5 hA3 jG HB2;have X2:=vg.out
  try clear aG
  try clear aI
  try clear aJ
  try clear aO
  obtain ⟨aG,aI,aJ,aO,-,-,-⟩:=X2.aF;go_upto_region 4 with fail;go_wp2_with fail;refine (WX.out id g5 _ HB3.out dF.out).mono ?_;rintro e w4 ⟨⟨r,rfl,hr⟩,hb4⟩;have HB4:=avE (bT HB3.out hb4);have Gy:=avE (vg.out.keep hb4);clear hb4 X2 aG aI aJ aO vg HB3 WX;obtain ⟨k,hk,rfl,abU,hno⟩:∃ (k:Nat) (hk:k<p.aj.length),r=(k:Int)/\(p.aj[k].id == id)=true/\∀ j (hj:j<p.aj.length),j<k->(p.aj[j].id == id)=false:=by
   rcases hr with ⟨-,hno⟩ | h
   ·exfalso;have:=Pn p.aj (fun a=>a.id == id) (fun j hj=>hno j hj)
    have hf:=lZ.out;unfold findAr at hf;rw [this] at hf
    cases hf
   · exact h
  have hak:=ahE lZ.out hk abU hno;have hdl:=abT (i:=ki) hk abU hno;rw [hak] at hdl;have hkb:k<bl.length:=by rw [HLb.out,<- zV.out];exact hk
  have hka:bl[k].1=a:=by
   rw [<- hak]
   have:p.aj[k]=(bl.map (·.1))[k]'(by simpa using hkb):=by simp only [HP.out.eq]
   rw [this,av4]
  have hkn:k<na:=by rw [<- zV.out];exact hk
  have Dp:=avE hdl;have WY:=avE hka;have HHr:=avE hno;clear hr abU hno hak hdl hk;have tu:=avE (HP.out.keep HB4.out);obtain ⟨gA,cA,hAA,hgB,hgl,-⟩:=Own.OM tu.out.jX Pe;injection hAA with e1 e2 e3;subst e1;clear e2 e3;obtain ⟨A6,c6,he,-,-,SH⟩:=tu.out.jX.sl;injection he with e1 e2 e3;subst e1;clear e2 e3;obtain ⟨b',o',jK,yZ,k0,k1,k2,k3,k4,k5⟩:=SH.VY hkb;simp only [Option.some.injEq,Addr.mk.injEq,and_true] at jK;obtain ⟨rfl,rfl⟩:=jK;simp only [Nat.zero_add] at k0 k1 k2 k3 k4 k5;have hvk:=tu.out.uV _ (avF hkb);rw [WY.out] at hvk;obtain ⟨gv,cv,hvv,hvB,UC,hvh⟩:=Own.hold hvk (fun e=>by rw [e] at hck;simp at hck);have hsv:(Value.slice bl[k].2.a bl[k].2.n bl[k].2.c)=.slice (some ⟨gv,0,none⟩) a.via.length cv:=hvv;rw [hsv] at k3;have hgv:gv<w4.heap.size:=hvh.lt;have hng:¬ gA=gv:=fun e=>by
   have:=Own.iO hvk (g:=gA) (t:=50) (cs:=(Classical.choose (show ∃ cs,ah w4 gA 50 cs from by
    obtain ⟨_,_,hq,-,-,-,-,cur,hcur,-⟩:=Own.OM tu.out.jX Pe;injection hq with e1 _ _;injection e1 with e1;injection e1 with e1 _ _;subst e1;exact ⟨cur,hcur⟩))) (Classical.choose_spec _) arC
   rw [hvv] at this;exact this (by rw [e];rfl)
  have auR:w4.frozen? ⟨gA,k*6+3,none⟩=false:=by
   obtain ⟨_,_,hq,-,-,-,-,cur,hcur,-⟩:=Own.OM tu.out.jX Pe;injection hq with e1 _ _;injection e1 with e1;injection e1 with e1 _ _;subst e1;exact ah.frozen hcur _
  have JI:=avE (fun W (hh:jO W gv cv a.via)=>aqi a.via gv cv ki W hh UC hck);have HHv:=avE hvh;have X2:=Gy.out;have r0:0<=(k:Int):=by omega
  have r1:(k:Int)<na:=by omega
  have hkw:IntKind.i64.wrap ((ki:Int)+1)=(ki:Int)+1:=avS _ (by have:=hvl a (CW lZ.out);omega);have hw2:w.heap.size<w4.heap.size:=X2.lt;have n1:¬ w.heap.size=gv:=by
   have:=(HP.out.uV _ (avF hkb)).lt gv (by rw [hvv];rfl)
   omega
  have n2:¬ w.heap.size=gA:=by
   have:=HP.out.jX.lt gA rfl
   omega
  have WV:=avE hvk;have HVv:=avE hvv;clear hvk hvv hsv hvh SH k0 k1 k2 k4 k5
  try clear aG
  try clear aI
  try clear aJ
  try clear aO
  obtain ⟨aG,aI,aJ,aO,-,-,-⟩:=X2.aF;go_upto_region 5 with fail;obtain ⟨aqm,hbA⟩:∃ cur,ah w4 gA 50 cur:=by
   obtain ⟨_,_,hq,-,-,-,-,cur,hcur,-⟩:=Own.OM tu.out.jX Pe;injection hq with e1 _ _;injection e1 with e1;injection e1 with e1 _ _;subst e1;exact ⟨cur,hcur⟩
  have HbA:=avE hbA;have hc3:aqm[k*6+3]? = some (.slice (some ⟨gv,0,none⟩) a.via.length cv):=by rw [<- hbA.cell];exact k3
  have Hc3:=avE hc3;clear hbA hc3;go_region_law (go_simp;go_at_call 156;refine (JI.out _ HHv.out.drew).mono ?_;rintro e w5 ⟨rfl,hh5,hg5⟩;have hX5:=ah.grown (Gy.out.drew) hg5 (fun e=>n1 (avP e));obtain ⟨q1,q2,q3,q4,-,-,-⟩:=hX5.aF;have WZ:=ah.grown (HbA.out.drew) hg5 (fun e=>hng (avP e));have k35:=(WZ.cell (k*6+3)).trans Hc3.out;have hf5:=WZ.frozen (k*6+3);have EP:=avE hg5;have HH5:=avE hh5;have jY:=avE WZ;clear hg5 hh5 hX5 WZ)
  all_goals
   (have aqn:gA≠gv:=hng
    have yH:=avE (show Below B w (w5.setCell ⟨gA,k*6+3,none⟩ (.slice (some ⟨gv,0,none⟩) (a.via.eraseIdx ki).length cv)) from ((HB4.out.mono hB).trans (Below.grown (Below.drew (Below.refl B w4)) EP.out (avZ hB HB4.out.size) (fun g hg=>by have:=avP hg;omega))).setCell (p:=⟨gA,k*6+3,none⟩) hgB _);have HKf:=avE (show ∀ g cs,ah w g 26 cs->ah (w5.setCell ⟨gA,k*6+3,none⟩ (.slice (some ⟨gv,0,none⟩) (a.via.eraseIdx ki).length cv)) g 26 cs from fun g cs hb=>by
     have h4:=hb.keep HB4.out;have n1:g≠gv:=fun e=>by
      obtain ⟨cur,hc,-⟩:=HHv.out;exact ah.J3 h4 hc arC e
     have n2:g≠gA:=ah.J3 h4 HbA.out arC;exact (ah.grown (h4.drew) EP.out (fun e=>n1 (avP e))).far (p:=⟨gA,k*6+3,none⟩) n2 _)
    have HQf:=avE ((tu.out.keep (bD (bR w4))).dropped HS.out EP.out hkb WY.out (HQ.out.trans (by rw [Dp.out])) HVv.out HH5.out hvB UC aqn jY.out);clear q1 q2 q3 q4 k35 hf5;go_wp2;go_ret;exact ⟨rfl,yH.out,HKf.out,HQf.out⟩)
set_option linter.unusedSectionVars false
def jy (a b:Int):Bool:=decide (iJ a<iJ b) || (decide (iJ a=iJ b) && decide (b<a))
theorem abV {a b:Int}:jy a b=true↔iJ a<iJ b\/(iJ a=iJ b/\b<a):=by unfold jy;simp
theorem ahG {a b:Int} (h1:jy a b=false) (h2:jy b a=false):a=b:=by
 rw [<- Bool.not_eq_true,abV] at h1 h2;unfold iJ at *;split at h1<;>split at h1<;>simp_all<;>omega
theorem ahH {a b c:Int} (h1:jy a b=true) (h2:jy b c=true):jy a c=true:=by
 rw [abV] at *;omega
theorem ahI {a b:Int} (h1:jy a b=true):jy b a=false:=by
 rw [<- Bool.not_eq_true];intro h2;rw [abV] at h1 h2;omega
def DR (k d:Int):Int:=if jy d k then d else k
def Cb (c:List Int) (n:Nat):Int:=(c.take n).foldl DR (c.headD 0)
def gQ (c:List Int):Int:=c.foldl DR (c.headD 0)
theorem aqo {c:List Int} {n:Nat} (hn:n<c.length):Cb c (n+1)=DR (Cb c n) c[n]:=by
 unfold Cb;rw [avH hn,List.foldl_append];rfl
theorem aqp (c:List Int):Cb c c.length=gQ c:=by unfold Cb gQ;rw [List.take_length]
theorem abW:∀ (l:List Int) (k:Int),l.foldl DR k=k\/l.foldl DR k∈l
 | [],k=>.inl rfl
 | d::l,k=>by
  rw [List.foldl_cons];rcases abW l (DR k d) with h | h
  ·rw [h];unfold DR;split
   · exact .inr av3
   · exact .inl rfl
  · exact .inr (List.mem_cons_of_mem _ h)
theorem abX {c:List Int} (h:c≠[]):gQ c∈c:=by
 rcases abW c (c.headD 0) with e | e
 ·unfold gQ;rw [e]
  cases c with
  | nil=>exact absurd rfl h
  | cons a c=>exact av3
 · exact e
def JJ (X:List Int) (l:List (List Int)):List (List Int):=l.takeWhile (fun Y=>!jy (gQ X) (gQ Y))++X::l.dropWhile (fun Y=>!jy (gQ X) (gQ Y))
def sortK (l:List (List Int)):List (List Int):=l.foldl (fun acc X=>JJ X acc) []
def xC (X Y:List Int):Bool:=jy (gQ X) (gQ Y)
theorem aqr (X:List Int) (l:List (List Int)):(JJ X l).Perm (X::l):=by
 unfold JJ;refine List.perm_middle.trans ?_;rw [List.takeWhile_append_dropWhile]
theorem aqs {X:List Int} {l:List (List Int)} (h:l.Pairwise (fun a b=>xC b a=false)):(JJ X l).Pairwise (fun a b=>xC b a=false):=by
 unfold JJ;have hall:(l.takeWhile (fun Y=>!jy (gQ X) (gQ Y))++l.dropWhile (fun Y=>!jy (gQ X) (gQ Y)))=l:=List.takeWhile_append_dropWhile;have h1:∀ Y∈l.takeWhile (fun Y=>!jy (gQ X) (gQ Y)),jy (gQ X) (gQ Y)=false:=fun Y hY=>by
  have:=awh.1 (List.all_takeWhile (p:=fun Y=>!jy (gQ X) (gQ Y)) (l:=l)) Y hY
  simpa using this
 have h2:∀ Y∈l.dropWhile (fun Y=>!jy (gQ X) (gQ Y)),jy (gQ Y) (gQ X)=false:=by
  intro Y hY
  cases hd:l.dropWhile (fun Y=>!jy (gQ X) (gQ Y)) with
  | nil=>rw [hd] at hY;cases hY
  | cons Z m =>
   have hZ:jy (gQ X) (gQ Z)=true:=by
    have:=List.head_dropWhile_not (fun Y=>!jy (gQ X) (gQ Y)) (l:=l) (by rw [hd];simp)
    simp only [hd,List.head_cons] at this;simpa using this
   rw [hd] at hY;rcases av2.1 hY with rfl | hY
   · exact ahI hZ
   ·have hp:(Z::m).Pairwise (fun a b=>xC b a=false):=by
     have:=h
     rw [<- hall,List.pairwise_append] at this;rw [<- hd];exact this.2.1
    have:=(List.pairwise_cons.1 hp).1 Y hY
    rw [<- Bool.not_eq_true];intro hc;have h3:=ahH hc hZ;unfold xC at this;rw [h3] at this
    cases this
 have hp:=h;rw [<- hall,List.pairwise_append] at hp;rw [List.pairwise_append,List.pairwise_cons];refine ⟨hp.1,⟨h2,hp.2.1⟩,fun a ha b hb=>?_⟩;rcases av2.1 hb with rfl | hb
 · exact h1 a ha
 · exact hp.2.2 a ha b hb
theorem SI (l:List (List Int)):(sortK l).Perm l/\(sortK l).Pairwise (fun a b=>xC b a=false):=by
 have:∀ (l acc:List (List Int)),acc.Pairwise (fun a b=>xC b a=false)->(l.foldl (fun acc X=>JJ X acc) acc).Perm (acc++l)/\(l.foldl (fun acc X=>JJ X acc) acc).Pairwise (fun a b=>xC b a=false):=by
  intro l
  induction l with
  | nil=>intro acc h;exact ⟨by rw [List.append_nil];exact List.Perm.refl _,h⟩
  | cons X l ih =>
   intro acc h;rw [List.foldl_cons];obtain ⟨h1,h2⟩:=ih (JJ X acc) (aqs h);refine ⟨h1.trans ?_,h2⟩;exact ((aqr X acc).append_right l).trans (List.perm_middle (l₁:=acc) (l₂:=l) (a:=X)).symm
 have h:=this l [] List.Pairwise.nil;rw [List.nil_append] at h;exact h
section
variable {p:Pl} (h:Valid p)
include h
theorem Valid.aqt {X Y:List Int} (hX:X∈cO p) (hY:Y∈cO p) (h1:xC X Y=false) (h2:xC Y X=false):X=Y:=by
 obtain ⟨x,-,-,-,hx⟩:=h.uN hX;obtain ⟨y,-,-,-,hy⟩:=h.uN hY;have e:gQ X=gQ Y:=ahG h1 h2;refine h.aax hX hY (abX (fun e=>by rw [e] at hx;cases hx)) ?_;rw [e];exact abX (fun e=>by rw [e] at hy;cases hy)
theorem Valid.aqu {l:List (List Int)} (hl:l.Perm (iE p)) (hs:l.Pairwise (fun a b=>xC b a=false)):l=sortK (iE p):=by
 obtain ⟨h1,h2⟩:=SI (iE p);refine Qp (lt:=xC) (hl.trans h1.symm) hs h2 fun a ha b hb g1 g2=>?_;have ma:=(Dv.1 (hl.subset ha)).1;have mb:=(Dv.1 (hl.subset hb)).1;exact h.aqt ma mb g1 g2
end
end Go.Proofs.YtialfdomhoojiaaGreat
