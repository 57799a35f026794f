import Derived.Test.YtialfdomhoojiaaGreatJ14
import Derived.Test.YtialfdomhoojiaaGreatJ17
import Derived.Test.YtialfdomhoojiaaGreatJ13
import Derived.Lib.SliceRun
import Derived.Test.YtialfdomhoojiaaGreatJ15
import Derived.Deep.RegionLaw
set_option linter.unusedSimpArgs false
set_option linter.unusedVariables false
namespace Go.Proofs.YtialfdomhoojiaaGreat
open Go.RowKit
def agT (w:World) (l:List Int) (e:Ending) (w':World):Prop :=
 ∃ A c,e=.returned (.slice A l.length c)/\Below w.heap.size w w'/\Own w' w.heap.size 3 1 dX (.slice A l.length c) l
set_option maxHeartbeats 400000 in
theorem agU (v:Value) (l:List Int) (w:World) (h:Ints w v l) (hl:l.length<=1048576) :
  Calls Tryz.prog 153 #[v] w (agT w l):=by
 have H:=h;obtain ⟨A,c,rfl,hn,hc,hR⟩:=h;have hE:=Lib.run_eql_slice_nil (P:=Tryz.prog) (t:=24) (e:=3);rcases A with _ | ad
 ·have hl0:l=[]:=by
   rcases l with _ | ⟨a,l⟩
   · rfl
   ·obtain ⟨b,o,e,_⟩:=hR (by simp [dX])
    cases e
  subst hl0;clear hR H;simp only [List.length_nil] at hn ⊢;have hE1:∀ W:World,(binOp .eql 24 (.slice none 0 c) (.slice none 0 0)).run Tryz.prog W=.ok (.bool true) W:=fun W=>Lib.run_eql_slice_nil W _ 3 none _ c 0 0 Tryz.underlying24;clear hE;go_enter Tryz.func153,Tryz.ntmps153;go_wp2;go_ret;exact ⟨_,_,rfl,bR w,Own.nil _ _ _ _ _⟩
 ·have hE1:∀ W:World,(binOp .eql 24 (.slice (some ad) l.length c) (.slice none 0 0)).run Tryz.prog W=.ok (.bool false) W:=fun W=>Lib.run_eql_slice_nil W _ 3 (some ad) _ c 0 0 Tryz.underlying24;clear hE hR;have HH:=Lib.hid H;clear H;go_enter Tryz.func153,Tryz.ntmps153;go_wp2_with
   (at_builtin
    refine jX _ rfl (.tmp 5) (.tmp 6) _ rfl (base:=w.heap.size) uQ qc uS rfl (Own.lit _ _ _ _ dX [] _ 0 _ rfl rfl (Nat.le_refl _) (eG (by omega)) rfl rfl) rfl (HH.out.mono (bA (bR w) _)) (by simp only [List.length_nil];omega) (by simp only [List.length_nil];omega) (by simp) ?_;intro v1 w1 hown hg hat)
  go_ret;obtain ⟨A1,c1,rfl,-⟩:=Own.sl hown;simp only [List.nil_append] at hown ⊢;exact ⟨A1,c1,rfl,bG (bA (bR w) _) hg (fun k hk=>by have:w.heap.size=k:=Option.some.inj hk;omega),hown⟩
def lX (bl:List (Ar×SV)):Prop:=bl.Pairwise (fun x y=>jv (aP x.2) (aP y.2))
def agV (w:World) (p:Pl) (e:Ending) (w':World):Prop :=
 ∃ An cn Aa ca Af cf bl,e=.returned (.agg #[.slice An p.nodes.length cn,.slice Aa p.au.length ca,.slice Af p.faces.length cf])/\Below w.heap.size w w'/\gX w' w.heap.size (.slice An p.nodes.length cn) (.slice Aa p.au.length ca) (.slice Af p.faces.length cf) p bl/\lX bl
set_option maxRecDepth 100000 in
set_option maxHeartbeats 8000000 in
theorem Z5 (v:Value) (p:Pl) (w:World) (h:dh w v p) (hm:jV p) (hf:p.faces.length<=1000000):Calls Tryz.prog 104 #[v] w (agV w p):=by
 have ha:=hm.gY;have hn:=hm.lT;have hvl:=hm.via;obtain ⟨_,_,_,al,rfl,hpa,hN,⟨⟨Aa,ca,rfl,ha1,ha2,fO⟩,hV⟩,hF⟩:=h;obtain ⟨bl,rfl⟩:=hV.sv;have hres:p.au=bl.map (·.1):=by rw [hpa,List.map_map];rfl
 have hbl:bl.length<=1000000:=by rw [hres,List.length_map] at ha;exact ha
 rw [List.length_map] at ha1;rw [Og] at fO;have Z8:=Lib.hid (show ∀ k (hk:k<bl.length),bU w (.slice bl[k].2.a bl[k].2.n bl[k].2.c) bl[k].1.via from fun k hk=>by
  have:=hV k (by simpa using hk)
  simpa [Am] using this)
 have Rk:=Lib.hid (show ∀ k (hk:k<bl.length),bl[k].1.via.length<=1000000 from fun k hk=>hvl _ (by rw [hres];exact List.mem_map_of_mem (List.getElem_mem hk)));have iV:=Lib.hid (show Row w Aa (bl.flatMap yA) from fO);have Z9:=Lib.hid (fun W (hW:Below w.heap.size w W)=>afU _ p.nodes W (hN.mono hW) (by omega));have HCf:=Lib.hid (fun W (hW:Below w.heap.size w W)=>agU _ p.faces W (hF.mono hW) (by omega));have LW:=Lib.hid (fun u l W (hu:bU W u l) (hl:l.length<=1048576)=>UH u l W hu hl);obtain ⟨An,cn,rfl,hn1,hn2,-⟩:=hN;obtain ⟨Af,cf,rfl,hf1,hf2,-⟩:=hF;have aac:=Lib.hid hres;rw [List.length_map] at *;unfold maxLen at ha2 hn2 hf2;clear hV fO hpa hres hvl hm ha;go_enter Tryz.func104,Tryz.ntmps104;go_upto_region 1 with fail;obtain ⟨g2,hg2⟩:∃ g2,w.heap.size+1=g2:=⟨_,rfl⟩;obtain ⟨W1,hW⟩:∃ W:World,W=(w.alloc (.cells #[.slice An p.nodes.length cn,.slice Aa bl.length ca,.slice Af p.faces.length cf] 26)).alloc (.cells #[.slice none 0 0,.slice none 0 0,.slice none 0 0] 26):=⟨_,rfl⟩;have X1:ah W1 w.heap.size 26 #[.slice An p.nodes.length cn,.slice Aa bl.length ca,.slice Af p.faces.length cf]:=by rw [hW];exact (ah.made rfl _ _).alloc _
 have X2:ah W1 g2 26 #[.slice none 0 0,.slice none 0 0,.slice none 0 0]:=by rw [hW];exact ah.made (by rw [<- hg2];simp) _ _
 have HB1:=Lib.hid (show Below w.heap.size w W1 by rw [hW];exact bA (bA (bR w) _) _);rw [<- hW]
 try rw [hg2]
 have iE:=Lib.hid X1;have eF:=Lib.hid X2;have n12:¬ g2=w.heap.size:=by omega
 have n21:¬ w.heap.size=g2:=by omega
 have hgw:w.heap.size<=g2:=by omega
 clear hW hg2;obtain ⟨aZ,bf,bg,bK,-,-,-⟩:=X1.aJ;obtain ⟨bF,bH,bI,bM,Jy,Ot,aad⟩:=X2.aJ;go_wp2_with fail;refine (Z9.out _ HB1.out).mono ?_;rintro e w2 ⟨jd,je,rfl,hb2,hon⟩;have HB2:=Lib.hid (bT HB1.out hb2);have dP:=Lib.hid (iE.out.keep hb2);have dJ:=Lib.hid (eF.out.keep hb2);have aae:=hon.fM (b':=w.heap.size) HB1.out.size;have lN:=Lib.hid (show gX w2 w.heap.size (.slice jd p.nodes.length je) (.slice none 0 0) (.slice none 0 0) ⟨p.nodes,[],[]⟩ [] from ⟨aae,Own.nil _ _ _ _ _,(fun x hx=>by cases hx),rfl,Own.nil _ _ _ _ _⟩);clear hb2 hon aae Z9 X1 aZ bf bg bK X2 bF bH bI bM Jy Ot aad;have X3:=dP.out;have X4:=dJ.out;obtain ⟨aW,aX,aY,dK,-,-,-⟩:=X3.aJ;obtain ⟨aU,aV,bQ,eP,dW,gq,gQ⟩:=X4.aJ;go_wp2_with fail;go_loopw [12] (fun i wr=>∃ (k:Nat) (ol:List (Ar×SV)) (A:Option Addr) (c:Nat),k<=bl.length/\i=.int .i64 k/\ol.length=k/\gX wr w.heap.size (.slice jd p.nodes.length je) (.slice A k c) (.slice none 0 0) ⟨p.nodes,(bl.take k).map (·.1),[]⟩ ol/\lX ol/\ah wr g2 26 #[.slice jd p.nodes.length je,.slice A k c,.slice none 0 0]/\ah wr w.heap.size 26 #[.slice An p.nodes.length cn,.slice Aa bl.length ca,.slice Af p.faces.length cf]/\Below w.heap.size w wr) (fun i _=>bl.length-(intOf i).toNat)
 case atStart => exact ⟨0,[],none,0,Nat.zero_le _,rfl,rfl,lN.out.far dJ.out (by decide) (by decide) (by decide) (by decide) 0 _,List.Pairwise.nil,by simpa using dJ.out.fB 0 (.slice jd p.nodes.length je),dP.out.far (by show w.heap.size≠g2;omega) _,bS HB2.out hgw _⟩
 case round =>
  clear lN dJ HB2 X3 aW aX aY dK X4 aU aV bQ eP dW gq gQ dP;obtain ⟨k,ol,A,c,hk,rfl,hol,hpo,hsep,X4,X3,hb⟩:=hrel;obtain ⟨wo,rfl⟩:∃ wo:World,wo=wr:=⟨_,rfl⟩;have HP:=Lib.hid hpo;have dJ:=Lib.hid X4;have dP:=Lib.hid X3;have HB:=Lib.hid hb;have P8:=Lib.hid hol;have Rl:=Lib.hid hsep;have hl4:=X4.lt;clear hpo hb hsep;by_cases hlt:k<bl.length
  ·obtain ⟨b,o,hAb,hlb,c0,c1,c2,c3,c4,c5⟩:=(Row.mono iV.out HB.out).YS hlt;subst hAb;have hv:=Z8.out k hlt;have hvl:=Rk.out k hlt;have htk:bl.take (k+1)=bl.take k++[bl[k]]:=List.take_succ_eq_append_getElem hlt;generalize bl[k]=x at *;obtain ⟨⟨id,fr,dst,via,lf,rt⟩,⟨va,vn,vc⟩⟩:=x;simp only at c0 c1 c2 c3 c4 c5 hv hvl htk;have hv0:=hv;obtain ⟨Av,cv,hev,-,-,-⟩:=hv;injection hev with y1 y2 y3;subst y1 y2 y3;have HVs:=Lib.hid (fun W (hW:Below w.heap.size w W)=>LW.out (.slice va via.length vc) via W (hv0.mono hW) (by omega));clear hv0;have mQ:=Lib.hid htk;clear htk X4 X3;go_upto_region 5 with fail;obtain ⟨W2,hW⟩:∃ W:World,W=wo.alloc (.cells #[.int .i64 id,.int .i64 fr,.int .i64 dst,.slice va via.length vc,.int .i64 lf,.int .i64 rt] 50):=⟨_,rfl⟩;have hA:Below wo.heap.size wo W2:=by rw [hW];exact bA (bR wo) _
   obtain ⟨g4,hg4⟩:∃ g4,wo.heap.size=g4:=⟨_,rfl⟩;have X6:ah W2 g4 50 #[.int .i64 id,.int .i64 fr,.int .i64 dst,.slice va via.length vc,.int .i64 lf,.int .i64 rt]:=by rw [hW];exact ah.made hg4.symm _ _
   have HB2:=Lib.hid (bT HB.out hA);have HP2:=Lib.hid (HP.out.keep hA);have bP:=Lib.hid (dJ.out.keep hA);have aaf:=Lib.hid (dP.out.keep hA);have n4:some g4≠(Value.slice A k c).ownBlock:=fun e=>by have:=(HP.out.gY.lt _ e.symm).2;omega
   have n42:¬ g4=g2:=by omega
   have n43:¬ g4=w.heap.size:=by have:=dP.out.lt;omega
   have ajT:w.heap.size<=g4:=by have:=dP.out.lt;omega
   rw [<- hW]
   try rw [hg4]
   clear hW hA c0 c1 c2 c3 c4 c5 hlb HP HB dJ dP;have nZ:=Lib.hid X6;obtain ⟨gu,gI,iP,rU,yF,yG,yH,-,-,-,-,-,-⟩:=X6.eY;go_wp2_with fail;refine (HVs.out _ HB2.out).mono ?_;rintro e w7 ⟨A7,c7,rfl,hb7,LX⟩;have hz7:=HB2.out.size;have EU:=nZ.out.keep hb7;have hn7:=Own.fD LX EU (by decide);have hl6:g4<W2.heap.size:=gu;have EW:=Lib.hid EU;have xK:=Lib.hid (HP2.out.keep hb7);have aag:=Lib.hid (bP.out.keep hb7);have LY:=Lib.hid (aaf.out.keep hb7);have jT:=Lib.hid (bT HB2.out hb7);have Kq:=Lib.hid LX;have HLt:=Lib.hid (fun y (hy:y∈ol) g (hg:(aP y.2).ownBlock=some g)=>show jv (aP y.2) (.slice A7 via.length c7) from fun q hq e=>by
    have h1:=((HP2.out.mM y hy).lt q hq).2;have h2:=(LX.lt q e).1;omega)
   clear X6 gu gI iP rU yF yG yH hb7 LX nZ HP2 bP aaf HB2 EU;have EU:=EW.out;obtain ⟨agW,agX,agY,agZ,ag0,ag1,ag2,ag3,ag4,ag5,ag6,ag7,ag8⟩:=EU.eY;go_upto_region 6 with fail;obtain ⟨W8,hW⟩:∃ W:World,W=w7.setCell ⟨g4,3,none⟩ (.slice A7 via.length c7):=⟨_,rfl⟩;have X68:ah W8 g4 50 #[.int .i64 id,.int .i64 fr,.int .i64 dst,.slice A7 via.length c7,.int .i64 lf,.int .i64 rt]:=by rw [hW];have h:=EW.out.fB 3 (.slice A7 via.length c7);simpa using h
   have Iw:=Lib.hid (show gX W8 w.heap.size (.slice jd p.nodes.length je) (.slice A k c) (.slice none 0 0) ⟨p.nodes,(bl.take k).map (·.1),[]⟩ ol by
    rw [hW];exact ⟨xK.out.lT.far (p:=⟨g4,3,none⟩) (Own.fD xK.out.lT EW.out (by decide)) _,xK.out.gY.far (p:=⟨g4,3,none⟩) (fun e=>n4 e.symm) _,fun y hy=>(xK.out.mM y hy).far (p:=⟨g4,3,none⟩) (Own.fD (xK.out.mM y hy) EW.out (by decide)) _,xK.out.eq,xK.out.uH.far (p:=⟨g4,3,none⟩) (Own.fD xK.out.uH EW.out (by decide)) _⟩)
   have Rn:=Lib.hid (show ah W8 g2 26 #[.slice jd p.nodes.length je,.slice A k c,.slice none 0 0] by rw [hW];exact aag.out.far (by show g2≠g4;omega) _);have aah:=Lib.hid (show ah W8 w.heap.size 26 #[.slice An p.nodes.length cn,.slice (some ⟨b,o,none⟩) bl.length ca,.slice Af p.faces.length cf] by rw [hW];exact LY.out.far (by show w.heap.size≠g4;omega) _);have Ro:=Lib.hid (show Own W8 w.heap.size 39 2 dG (.slice A7 via.length c7) via by rw [hW];exact (Kq.out.far (p:=⟨g4,3,none⟩) hn7 _).fM hz7);have ku:=Lib.hid (show Below w.heap.size w W8 by rw [hW];exact bS jT.out (by show w.heap.size<=g4;omega) _);have HXt:=Lib.hid (show (bl.take (k+1)).map (·.1)=(bl.take k).map (·.1)++[(⟨id,fr,dst,via,lf,rt⟩:Ar)] by rw [mQ.out,List.map_append];rfl);have ag9:=Lib.hid (show lX (ol++[((⟨id,fr,dst,via,lf,rt⟩:Ar),(⟨A7,via.length,c7⟩:SV))]) from List.pairwise_append.2 ⟨Rl.out,List.pairwise_singleton _ _,fun y hy z hz=>by
    rw [List.mem_singleton] at hz;subst hz;intro g hg;exact HLt.out y hy g hg g hg⟩)
   rw [<- hW];clear hW EU agW agX agY agZ ag0 ag1 ag2 ag3 ag4 ag5 ag6 ag7 ag8 EW xK aag LY Kq jT HLt Rl hn7 hl6;have X5:=Rn.out;have hlk:ol.length<=1000000:=by omega
   have ji:=Lib.hid (show (ol++[((⟨id,fr,dst,via,lf,rt⟩:Ar),(⟨A7,via.length,c7⟩:SV))]).length=k+1 by rw [List.length_append,P8.out];rfl);have ajU:=X5.lt;obtain ⟨bV,bW,dH,iR,ET,aai,aaj⟩:=X5.aJ;obtain ⟨ajV,ajW,ajX,ajY,ajZ,aj0,aj1,-,-,-,-,-,-⟩:=X68.eY;go_wp2_with
    (at_builtin
     refine jX _ rfl (.tmp 21) (.tmp 23) _ rfl (base:=w.heap.size) abl U3 ach rfl (Own.alloc Iw.out.gY _) rfl (l2:=[((⟨id,fr,dst,via,lf,rt⟩:Ar),(⟨A7,via.length,c7⟩:SV))]) (Sl.lit (n:=1) (ah.made rfl _ _) rfl (eG (by omega))) (by simp only [List.length_cons,List.length_nil];omega) (by simp only [List.length_cons,List.length_nil];omega) (by have:=ku.out.size;simp;omega) ?_;intro v9 w9 nV lG Ak;obtain ⟨A9,c9,hv9,-⟩:=Own.qO nV;rw [ji.out] at hv9;subst hv9;have n5:=Own.fD (Own.alloc Iw.out.gY (.cells #[.int .i64 id,.int .i64 fr,.int .i64 dst,.slice A7 via.length c7,.int .i64 lf,.int .i64 rt] 50)) (Rn.out.alloc _) (by decide);have n6:=Own.fD (Own.alloc Iw.out.gY (.cells #[.int .i64 id,.int .i64 fr,.int .i64 dst,.slice A7 via.length c7,.int .i64 lf,.int .i64 rt] 50)) (aah.out.alloc _) (by decide);have Rq:=ah.grown (Rn.out.alloc _) lG (fun e=>n5 e.symm);have aha:=Lib.hid (ah.grown (aah.out.alloc _) lG (fun e=>n6 e.symm));have hmr:=Lib.hid (gX.more (Iw.out.keep (bA (bR W8) _)) nV lG (Own.alloc Ro.out _));have mF:=Lib.hid Rq;have kM:=Lib.hid (bG (bA ku.out _) lG (fun g hg=>(Iw.out.gY.lt g hg).1));obtain ⟨q1,q2,q3,q4,q5,q6,q7⟩:=ah.aJ Rq;clear Rq nV lG Ak n5 n6)
   go_roundw
   case rel => exact ⟨k+1,_,A9,c9,by omega,by go_num,ji.out,by rw [HXt.out];exact hmr.out.far mF.out (by decide) (by decide) (by decide) (by decide) 1 (.slice A9 (k+1) c9),ag9.out,by have h:=mF.out.fB 1 (.slice A9 (k+1) c9);simpa using h,aha.out.far (by show w.heap.size≠g2;omega) _,bS kM.out (by show w.heap.size<=g2;omega) _⟩
   case measure => simp [intOf];omega
  ·obtain rfl:k=bl.length:=by omega
   have hlen:p.au.length=bl.length:=by rw [aac.out,List.length_map]
   have hpe:(⟨p.nodes,(bl.take bl.length).map (·.1),[]⟩:Pl)=⟨p.nodes,p.au,[]⟩:=by rw [List.take_length,aac.out]
   have hpo:=HP.out;rw [hpe] at hpo;have LZ:=Lib.hid hpo;have HLn:=Lib.hid hlen;clear hpo hpe hlen HP
   try clear aW
   try clear aX
   try clear aY
   try clear dK
   obtain ⟨aW,aX,aY,dK,-,-,-⟩:=X3.aJ;go_wp2_with fail;refine (HCf.out _ HB.out).mono ?_;rintro e w3 ⟨A3,c3,rfl,hb3,ho3⟩;have iC:=Lib.hid (ho3.fM (b':=w.heap.size) HB.out.size);have bP:=Lib.hid (dJ.out.keep hb3);have oh:=Lib.hid (LZ.out.keep hb3);have HB3:=Lib.hid (bT HB.out hb3);clear hb3 ho3 X3 aW aX aY dK X4 hl4 dJ dP LZ HB;have X5:=bP.out
   try clear bV
   try clear bW
   try clear dH
   try clear iR
   try clear ET
   try clear aai
   try clear aaj
   obtain ⟨bV,bW,dH,iR,ET,aai,aaj⟩:=X5.aJ;have hY:ah (w3.setCell ⟨g2,2,none⟩ (.slice A3 p.faces.length c3)) g2 26 #[.slice jd p.nodes.length je,.slice A bl.length c,.slice A3 p.faces.length c3]:=by
    have h:=bP.out.fB 2 (.slice A3 p.faces.length c3);simpa using h
   have HY:=Lib.hid hY;have Rt:=Lib.hid (show gX w3 w.heap.size (.slice jd p.nodes.length je) (.slice A bl.length c) (.slice A3 p.faces.length c3) p ol from ⟨oh.out.lT,oh.out.gY,oh.out.mM,oh.out.eq,iC.out⟩);have LZ:=Lib.hid ((((Rt.out.far bP.out (by decide) (by decide) (by decide) (by decide) 2 (.slice A3 p.faces.length c3)).far HY.out (by decide) (by decide) (by decide) (by decide) 0 (.slice jd p.nodes.length je)).far (HY.out.fB 0 _) (by decide) (by decide) (by decide) (by decide) 1 (.slice A bl.length c)).far ((HY.out.fB 0 _).fB 1 _) (by decide) (by decide) (by decide) (by decide) 2 (.slice A3 p.faces.length c3));have CO:=Lib.hid (bS (p:=⟨g2,2,none⟩) (bS (p:=⟨g2,1,none⟩) (bS (p:=⟨g2,0,none⟩) (bS (p:=⟨g2,2,none⟩) HB3.out hgw (.slice A3 p.faces.length c3)) hgw (.slice jd p.nodes.length je)) hgw (.slice A bl.length c)) hgw (.slice A3 p.faces.length c3));clear hY;go_wp2_with fail;refine Ui (g:=g2) (cs:=#[.slice jd p.nodes.length je,.slice A bl.length c,.slice A3 p.faces.length c3]) rfl zU rfl rfl (ah.lF HY.out) ?_;have hl1:=HLn.out;refine ⟨jd,je,A,c,A3,c3,ol,by rw [hl1],CO.out,?_,Rl.out⟩;rw [hl1];exact LZ.out
def fF (w:World) (g c:Nat) (m:List Pt):Prop:=∃ cur,ah w g 39 cur/\cur.size=c*2/\m.length<=c/\∀ k (hk:k<m.length),cur[k*2]? = some (.int .i64 m[k].x)/\cur[k*2+1]? = some (.int .i64 m[k].y)
section
variable {w w':World} {g c:Nat} {m:List Pt}
theorem fF.lt (h:fF w g c m):g<w.heap.size:=by obtain ⟨cur,hb,_⟩:=h;exact hb.lt
theorem fF.keep (h:fF w g c m) (hb:Below w.heap.size w w'):fF w' g c m:=by
 obtain ⟨cur,h1,h2⟩:=h;exact ⟨cur,h1.keep hb,h2⟩
theorem fF.drew (h:fF w g c m):fF w.drew g c m:=h
theorem fF.at_ (h:fF w g c m) {k:Nat} (hk:k<m.length):w.cell? ⟨g,k*2,none⟩=some (.int .i64 m[k].x)/\w.cell? ⟨g,k*2+1,none⟩=some (.int .i64 m[k].y):=by
 obtain ⟨cur,h1,_,_,h2⟩:=h;exact ⟨(h1.cell _).trans (h2 k hk).1,(h1.cell _).trans (h2 k hk).2⟩
theorem fF.fz (h:fF w g c m) (i:Nat):w.frozen? ⟨g,i,none⟩=false:=by
 obtain ⟨cur,h1,_⟩:=h;exact h1.frozen i
theorem fF.set2 (h:fF w g c m) {k:Nat} (hk:k<m.length) (p:Pt):fF ((w.setCell ⟨g,k*2,none⟩ (.int .i64 p.x)).setCell ⟨g,k*2+1,none⟩ (.int .i64 p.y)) g c (m.set k p):=by
 obtain ⟨cur,h1,h2,h3,h4⟩:=h;refine ⟨_,(h1.fB _ _).fB _ _,by simp [h2],by simpa using h3,fun j hj=>?_⟩;have hj':j<m.length:=by simpa using hj
 by_cases e:k=j
 ·subst e;have b1:k*2<cur.size:=by omega
  have b2:k*2+1<cur.size:=by omega
  rw [List.getElem_set_self];constructor
  · rw [Array.getElem?_setIfInBounds_ne (by omega),Array.getElem?_setIfInBounds_self_of_lt b1]
  · rw [Array.getElem?_setIfInBounds_self_of_lt (by simpa using b2)]
 ·rw [List.getElem_set_ne e];obtain ⟨a1,a2⟩:=h4 j hj';constructor
  · rw [Array.getElem?_setIfInBounds_ne (by omega),Array.getElem?_setIfInBounds_ne (by omega)];exact a1
  · rw [Array.getElem?_setIfInBounds_ne (by omega),Array.getElem?_setIfInBounds_ne (by omega)];exact a2
theorem fF.far (h:fF w g c m) {p:Addr} (hp:g≠p.block) (u:Value):fF (w.setCell p u) g c m:=by
 obtain ⟨cur,h1,h2⟩:=h;exact ⟨cur,h1.far hp u,h2⟩
theorem fF.vW (h:fF w g c m) {g':Nat} {t':TypeId} {cs':Array Value} (h':ah w g' t' cs') (hne:39≠t'):g≠g':=by
 obtain ⟨cur,h1,h2⟩:=h;exact ah.vW h1 h' hne
theorem fF.take (h:fF w g c m) (k:Nat):fF w g c (m.take k):=by
 obtain ⟨cur,h1,h2,h3,h4⟩:=h;refine ⟨cur,h1,h2,by rw [List.length_take];omega,fun j hj=>?_⟩;have hj':j<m.length:=by rw [List.length_take] at hj;omega
 rw [List.getElem_take];exact h4 j hj'
theorem fF.set1 (h:fF w g c m) {i:Nat} (hi:m.length*2<=i) (u:Value):fF (w.setCell ⟨g,i,none⟩ u) g c m:=by
 obtain ⟨cur,h1,h2,h3,h4⟩:=h;refine ⟨_,h1.fB _ _,by simp [h2],h3,fun j hj=>?_⟩;obtain ⟨a1,a2⟩:=h4 j hj;constructor
 · rw [Array.getElem?_setIfInBounds_ne (by omega)];exact a1
 · rw [Array.getElem?_setIfInBounds_ne (by omega)];exact a2
end
theorem fF.sets {g c:Nat} {m:List Pt}:∀ (vs:List Value) (o:Nat) {w:World},fF w g c m->m.length*2<=o->fF (w.setCells g o vs) g c m
 | [],_,_,h,_=>h
 | v::vs,o,_,h,ho=>fF.sets vs (o+1) (h.set1 ho v) (by omega)
theorem Own.hold {w:World} {B:Nat} {l:List Pt} {v:Value} (h:Own w B 39 2 dG v l) (hne:l≠[]):∃ g c,v=.slice (some ⟨g,0,none⟩) l.length c/\B<=g/\c<=maxLen/\fF w g c l:=by
 obtain ⟨h1,h2⟩:=h;rcases h2 with ⟨rfl,h2⟩ | ⟨g,cap,cur,rfl,hg,hh,h3,h4,h5,h6⟩
 · exact absurd (List.eq_nil_of_length_eq_zero h2) hne
 ·refine ⟨g,cap,rfl,hg,h4,cur,hh,h5,h3,fun k hk=>?_⟩;have e0:=flat_get dG 2 iU l k 0 hk (by omega);have e1:=flat_get dG 2 iU l k 1 hk (by omega);rw [<- h6,List.getElem?_take] at e0 e1;rw [if_pos (by omega)] at e0 e1;exact ⟨by simpa [dG] using e0,by simpa [dG] using e1⟩
theorem fF.own {w:World} {B g c:Nat} {m:List Pt} (h:fF w g c m) (hg:B<=g) (hc:c<=maxLen):Own w B 39 2 dG (.slice (some ⟨g,0,none⟩) m.length c) m:=by
 obtain ⟨cur,h1,h2,h3,h4⟩:=h;refine ⟨flat_length dG 2 iU m,.inr ⟨g,c,cur,rfl,hg,h1,h3,hc,h2,?_⟩⟩;apply List.ext_getElem?;intro i;rw [List.getElem?_take];by_cases hi:i<m.length*2
 ·rw [if_pos hi];obtain ⟨k,j,rfl,hj⟩:∃ k j,i=k*2+j/\j<2:=⟨i / 2,i % 2,by omega,by omega⟩;have hk:k<m.length:=by omega
  rw [flat_get dG 2 iU m k j hk hj];obtain ⟨a0,a1⟩:=h4 k hk;rcases (by omega:j=0\/j=1) with rfl | rfl
  · simpa [dG] using a0
  · simpa [dG] using a1
 · rw [if_neg hi,List.getElem?_eq_none (by rw [flat_length dG 2 iU];omega)]
theorem ahb (w:World) (ty:TypeId) (b o n c:Nat) (hn:0<n)
  (hc:∀ j,j<n*2->(w.cell? ⟨b,o+j,none⟩).isSome=true) (hf:∀ j,j<n*2->w.frozen? ⟨b,o+j,none⟩=false) :
  (Builtin.clear_ #[46] ty #[.slice (some ⟨b,o,none⟩) n c]).run Tryz.prog w=.ok (.tuple #[]) (w.setCells b o (List.replicate (n*2) (.int .i64 0))):=by
 have ht:Tryz.prog.underlying 46=some (.slice 39):=by kernel_rfl
 have hv:∀ w,(zeroValue 39).run Tryz.prog w=.ok (.agg #[.int .i64 0,.int .i64 0]) w:=fun w=>by kernel_rfl
 have hzc:(Builtin.zeroCells (Value.agg #[.int .i64 0,.int .i64 0]).cells n).toList=List.replicate (n*2) (.int .i64 0):=by
  simp [Builtin.zeroCells,Value.cells];apply List.ext_getElem
  · simp [Nat.mul_comm]
  ·intro i h1 h2;rcases Nat.mod_two_eq_zero_or_one i with e | e<;>simp [e]
 have hst:=run_storeCells_cells (P:=Tryz.prog) b o (List.replicate (n*2) (.int .i64 0)) 0 w (by simpa using hc) (by simpa using hf) (by intro v hv';rw [List.eq_of_mem_replicate hv'];rfl);simp only [Nat.add_zero] at hst;obtain ⟨m,rfl⟩:∃ m,n=m+1:=⟨n-1,by omega⟩;simp [Builtin.clear_,run_underlying ht,hv,hzc,hst]
theorem ahc {w0 w1:World} {g:Nat} (h:w0.grownBy w1 (some g)) (i:Nat) (u:Value):w0.grownBy (w1.setCell ⟨g,i,none⟩ u) (some g) :=
 ⟨h.os,h.tape,h.output,by simpa using h.size,fun b hb hr=>(Below.heap_setCell w1 _ u b (fun e=>hr (by rw [e]))).trans (h.block b hb hr)⟩
theorem Ru {w0:World} {g:Nat}:∀ (vs:List Value) (o:Nat) {w1:World},w0.grownBy w1 (some g)->w0.grownBy (w1.setCells g o vs) (some g)
 | [],_,_,h=>h
 | v::vs,o,_,h=>Ru vs (o+1) (ahc h o v)
theorem Rw:∀ w,(Go.sizeOf 39).run Tryz.prog w=.ok 2 w:=fun _=>by kernel_rfl
theorem ahd (g o:Nat) (q:Pt) (vs:List Value) (w:World):w.setCells g o (dG q++vs)=((w.setCell ⟨g,o,none⟩ (.int .i64 q.x)).setCell ⟨g,o+1,none⟩ (.int .i64 q.y)).setCells g (o+1+1) vs:=rfl
theorem fF.lay {g c:Nat}:∀ (ps:List Pt) (k:Nat) {m:List Pt} {w:World},fF w g c m->k+ps.length<=m.length->fF (w.setCells g (k*2) (ps.flatMap dG)) g c (m.take k++ps++m.drop (k+ps.length))
 | [],k,m,w,h,_=>by
  simp only [List.flatMap_nil,List.length_nil,Nat.add_zero,List.append_nil,List.take_append_drop];exact h
 | q::ps,k,m,w,h,hk=>by
  simp only [List.length_cons] at hk;have h1:=h.set2 (k:=k) (by omega) q;have h2:=fF.lay ps (k+1) h1 (by rw [List.length_set];omega);rw [List.flatMap_cons,ahd];rw [show (k+1)*2=k*2+1+1 by omega] at h2;have e:m.take k++(q::ps)++m.drop (k+(q::ps).length)=(m.set k q).take (k+1)++ps++(m.set k q).drop (k+1+ps.length):=by
   rw [List.take_succ_eq_append_getElem (by rw [List.length_set];omega),List.getElem_set_self,List.take_set_of_le (Nat.le_refl _),List.drop_set_of_lt (by omega),List.length_cons];rw [show k+(ps.length+1)=k+1+ps.length by omega];simp
  rw [e];exact h2
set_option maxRecDepth 100000 in
set_option maxHeartbeats 8000000 in
theorem ahe (l:List Pt) (g c i:Nat) (w:World) (hh:fF w g c l) (hc:c<=maxLen) (hi:i<l.length) :
  Calls Tryz.prog 156 #[.slice (some ⟨g,0,none⟩) l.length c,.int .i64 i,.int .i64 ((i:Int)+1)] w fun e w'=>e=.returned (.slice (some ⟨g,0,none⟩) (l.eraseIdx i).length c)/\fF w' g c (l.eraseIdx i)/\w.grownBy w' (some g):=by
 obtain ⟨n,hn⟩:∃ n,l.length=n:=⟨_,rfl⟩;have hnc:n<=c:=by obtain ⟨_,_,_,h,_⟩:=hh;omega
 unfold maxLen at hc;have hel:(l.eraseIdx i).length=n-1:=by rw [List.length_eraseIdx,if_pos hi,hn]
 have HH:=Lib.hid hh;rw [hel,hn];rw [hn] at hi;obtain ⟨news,hnews⟩:∃ news,news=(l.drop (i+1)).flatMap dG:=⟨_,rfl⟩;have hlen:news.length=(n-(i+1))*2:=by rw [hnews,flat_length dG 2 iU,List.length_drop,hn]
 have Gi:=Lib.hid hnews;have HLen:=Lib.hid hlen;have H1:=Lib.hid (show fF (w.drew.setCells g (i*2) news) g c (l.eraseIdx i) by
  rw [hnews];have h:=fF.lay (l.drop (i+1)) i HH.out.drew (by rw [List.length_drop];omega);have h':=h.take (n-1);have e:(l.take i++l.drop (i+1)++l.drop (i+(l.drop (i+1)).length)).take (n-1)=l.eraseIdx i:=by
   rw [List.eraseIdx_eq_take_drop_succ,List.take_append_of_le_length (by simp;omega),List.take_of_length_le (by simp;omega)]
  rw [e] at h';exact h')
 clear hnews hh hlen hel;go_enter Tryz.func156,Tryz.ntmps156;go_upto_region 5 with fail;obtain ⟨Ac,hAc⟩:∃ Ac,rJ (some ⟨g,0,none⟩) c (i+1) 2=Ac:=⟨_,rfl⟩;have hrun1:=abw Tryz.underlying46 Rw (some ⟨g,0,none⟩) n c i (by omega) hnc;have hrun2:=Ut Tryz.underlying46 Rw (some ⟨g,0,none⟩) n c (i+1) (by omega) ((i:Int)+1) (by omega);rw [hAc] at hrun2;obtain ⟨A',hA',hsrc⟩:∃ A',Ac=some A'/\Hid (∀ t u,news[t]? = some u->w.drew.cell? (A'.add t)=some u):=by
  rw [<- hAc];unfold rJ;by_cases e:c=i+1
  ·rw [if_pos e];refine ⟨_,rfl,Lib.hid fun t u hu=>?_⟩
   have:news=[]:=List.eq_nil_of_length_eq_zero (by rw [HLen.out];omega)
   rw [this] at hu;simp at hu
  ·rw [if_neg e];refine ⟨_,rfl,Lib.hid fun t u hu=>?_⟩;have ht:t<(n-(i+1))*2:=by
    rw [<- HLen.out];exact (List.getElem?_eq_some_iff.1 hu).1
   obtain ⟨k,j,rfl,hj⟩:∃ k j,t=k*2+j/\j<2:=⟨t / 2,t % 2,by omega,by omega⟩;have hk:k<(l.drop (i+1)).length:=by rw [List.length_drop,hn];omega
   rw [Gi.out,flat_get dG 2 iU _ k j hk hj] at hu;have hk2:i+1+k<l.length:=by rw [hn];omega
   obtain ⟨a0,a1⟩:=HH.out.at_ hk2;rw [List.getElem_drop] at hu;have ea:((fun x:Addr=>x.add ((i+1)*2)) ⟨g,0,none⟩).add (k*2+j)=⟨g,(i+1+k)*2+j,none⟩:=by
    simp only [Addr.add_lit];rw [show 0+(i+1)*2+(k*2+j)=(i+1+k)*2+j by omega]
   rw [ea]
   show w.cell? _=some u
   rcases (by omega:j=0\/j=1) with rfl | rfl
   ·rw [Nat.add_zero,a0];simpa [dG] using hu
   ·rw [a1];simpa [dG] using hu
 obtain ⟨-,i0,z0,hi0,-,hz1,-⟩:=kP;subst hA';have aak:=Lib.hid (show ∀ u∈news,u.oneCell'=true by rw [Gi.out];intro u hu;obtain ⟨q,-,hq⟩:=List.mem_flatMap.1 hu;exact kQ q u hq);have HSp:=Lib.hid (show ∀ t,t<news.length->(w.drew.cell? ⟨g,0+i*2+t,none⟩).isSome=true/\w.drew.frozen? ⟨g,0+i*2+t,none⟩=false by
  intro t ht;rw [HLen.out] at ht;obtain ⟨cur,hb,hcs,-⟩:=HH.out;refine ⟨?_,hb.frozen _⟩
  show (w.cell? ⟨g,0+i*2+t,none⟩).isSome=true
  rw [hb.cell,Array.getElem?_eq_getElem (by omega)];rfl)
 clear hAc;go_region_law (refine step_append_room rfl (.tmp 22) (.tmp 25) 46 rfl 39 i0 2 Tryz.underlying46 hi0 hz1 g 0 i c (by simp [Act.eval,Act.put]) A' (n-(i+1)) (c-(i+1)) news (by simp [Act.eval,Act.put]) HLen.out hsrc.out aak.out (by omega) HSp.out ?_);obtain ⟨W1,hW⟩:∃ W,W=w.drew.setCells g (i*2) news:=⟨_,rfl⟩;have hg1:w.grownBy W1 (some g):=by rw [hW];exact Ru news _ (⟨rfl,rfl,rfl,Nat.le_refl _,fun _ _ _=>rfl⟩:w.grownBy w.drew (some g))
 rw [<- hW] at H1 ⊢;have wZ:=Lib.hid hg1;have hnn:i+(n-(i+1))=n-1:=by omega
 rw [hnn];clear hW hg1 hrun1 hrun2 hnn hsrc HSp aak HLen Gi;have hlen:(l.eraseIdx i).length=n-1:=by rw [List.length_eraseIdx,if_pos (by omega),hn]
 have L6:=Lib.hid hlen;have hcl:∀ ty,(Builtin.clear_ #[46] ty #[.slice (some ⟨g,(n-1)*2,none⟩) 1 (c-(n-1))]).run Tryz.prog W1=.ok (.tuple #[]) (W1.setCells g ((n-1)*2) (List.replicate (1*2) (.int .i64 0))):=fun ty=>by
  refine ahb W1 ty g ((n-1)*2) 1 (c-(n-1)) (by omega) (fun t ht=>?_) (fun t _=>H1.out.fz _);obtain ⟨cur,hb,hcs,-⟩:=H1.out;rw [hb.cell,Array.getElem?_eq_getElem (by omega)];rfl
 have H2:=Lib.hid (H1.out.sets (List.replicate (1*2) (.int .i64 0)) ((n-1)*2) (by rw [hlen];exact Nat.le_refl _));have HG2:=Lib.hid (Ru (List.replicate (1*2) (.int .i64 0)) ((n-1)*2) wZ.out);have k1:((n-1:Nat):Int)=(n:Int)-1:=by omega
 have k2:n-(n-1)=1:=by omega
 have k3:¬ c=n-1:=by omega
 clear hlen hn HH H1 wZ;go_wp2;go_ret;exact ⟨rfl,H2.out,HG2.out⟩
theorem Own.L8 {α:Type} {w:World} {base:Nat} {e:TypeId} {size:Nat} {f:α->List Value} {v:Value} {l:List α} (h:Own w base e size f v l) (hl:0<l.length):∃ g c,v=.slice (some ⟨g,0,none⟩) l.length c/\base<=g/\g<w.heap.size/\l.length<=c/\c<=maxLen/\(∃ cur,ah w g e cur/\cur.size=c*size):=by
 rcases h.2 with ⟨_,h0⟩ | ⟨g,cap,cur,hv,hg,hh,hnc,hcm,hcs,_⟩
 · omega
 · exact ⟨g,cap,hv,hg,ah.lt hh,hnc,hcm,cur,hh,hcs⟩
def L9 (a:Ar) (i:Nat):Ar:=⟨a.id,a.fr,a.dst,a.via.eraseIdx i,a.left,a.right⟩
theorem aal {arc:Int} {i:Nat}:∀ {l:List Ar} {k:Nat} (hk:k<l.length),(l[k].id == arc)=true->(∀ j (hj:j<l.length),j<k->(l[j].id == arc)=false)->nI arc i l=l.set k (L9 l[k] i)
 | a::l,0,hk,h,_=>by
  unfold nI;rw [if_pos (by simpa using h)];rfl
 | a::l,k+1,hk,h,hno=>by
  unfold nI;have h0:=hno 0 (by simp) (by omega);rw [if_neg (by simpa using h0)];have ih:=aal (i:=i) (l:=l) (k:=k) (by simpa using hk) (by simpa using h) (fun j hj hjk=>by
   have:=hno (j+1) (by simpa using hj) (by omega)
   simpa using this)
  rw [ih];rfl
theorem ahf {l:List Ar} {arc:Int} {a:Ar} {k:Nat} (hf:findAr l arc=some a) (hk:k<l.length) (h:(l[k].id == arc)=true) (hno:∀ j (hj:j<l.length),j<k->(l[j].id == arc)=false):l[k]=a:=by
 have:=Fj l (fun a=>a.id == arc) k hk hno h
 unfold findAr at hf;rw [this] at hf;exact Option.some.inj hf
theorem ahg {bl:List (Ar×SV)}:lX bl↔(bl.map (fun x=>(aP x.2).ownBlock)).Pairwise (fun u v=>∀ g,u=some g->v≠some g):=by
 unfold lX jv;rw [List.pairwise_map]
theorem lX.set {bl:List (Ar×SV)} (h:lX bl) {k:Nat} (hk:k<bl.length) (x:Ar×SV) (hx:(aP x.2).ownBlock=(aP bl[k].2).ownBlock):lX (bl.set k x):=by
 rw [ahg] at *;rw [List.map_set,hx];have:(bl.map (fun x=>(aP x.2).ownBlock)).set k ((aP bl[k].2).ownBlock)=bl.map (fun x=>(aP x.2).ownBlock):=by
  apply List.ext_getElem (by simp);intro i h1 h2;rw [List.getElem_set];split
  · rename_i e;subst e;rw [List.getElem_map]
  · rfl
 rw [this];exact h
theorem lX.at_ {bl:List (Ar×SV)} (h:lX bl) {j k:Nat} (hj:j<bl.length) (hk:k<bl.length) (hne:j≠k):jv (aP bl[j].2) (aP bl[k].2):=by
 unfold lX at h;rw [List.pairwise_iff_getElem] at h;rcases Nat.lt_or_gt_of_ne hne with l | l
 · exact h j k hj hk l
 · exact fun g hg e=>h k j hk hj l g e hg
theorem gX.dropped {w0 w5:World} {B:Nat} {vn vf:Value} {p Q:Pl} {bl:List (Ar×SV)} {gA gv n c cv k ki:Nat} {a:Ar} {cur:Array Value} (h:gX w0 B vn (.slice (some ⟨gA,0,none⟩) n c) vf p bl) (hs:lX bl) (hg:w0.grownBy w5 (some gv)) (hk:k<bl.length) (hka:bl[k].1=a) (hQ:Q=⟨p.nodes,p.au.set k (L9 a ki),p.faces⟩)
  (hv:aP bl[k].2=.slice (some ⟨gv,0,none⟩) a.via.length cv) (hh:fF w5 gv cv (a.via.eraseIdx ki)) (hB:B<=gv) (hc:cv<=maxLen) (hne:gA≠gv) (hA:ah w5 gA 50 cur) :
  ∃ Iy,gX (w5.setCell ⟨gA,k*6+3,none⟩ (.slice (some ⟨gv,0,none⟩) (a.via.eraseIdx ki).length cv)) B vn (.slice (some ⟨gA,0,none⟩) n c) vf Q Iy/\lX Iy:=by
 subst hQ;have Rx:=h.mM _ (List.getElem_mem hk);have e0:bl[k]=(a,bl[k].2):=by rw [<- hka]
 refine ⟨bl.set k (L9 a ki,⟨some ⟨gv,0,none⟩,(a.via.eraseIdx ki).length,cv⟩),⟨?_,?_,?_,?_,?_⟩,hs.set hk _ (by rw [hv];rfl)⟩
 ·have h5:=Own.grown h.lT hg (fun g hg'=>by have:=Own.apart h.lT Rx (by decide) g hg';rw [hv] at this;exact this);exact h5.far (p:=⟨gA,k*6+3,none⟩) (Own.fD h5 hA (by decide)) _
 ·have h5:=Own.grown h.gY hg (fun g hg'=>by have:=Own.apart h.gY Rx (by decide) g hg';rw [hv] at this;exact this);exact Own.Jr U3 h5 hk (by omega) _ _ (by rw [e0];rfl)
 ·intro y hy;obtain ⟨j,hj,rfl⟩:=List.mem_iff_getElem.1 hy;have hj':j<bl.length:=by simpa using hj
  rw [List.getElem_set];by_cases e:k=j
  ·rw [if_pos e];have h5:=hh.own hB hc;exact h5.far (p:=⟨gA,k*6+3,none⟩) (fun e'=>hne (Option.some.inj e').symm) _
  ·rw [if_neg e];have h5:=Own.grown (h.mM _ (List.getElem_mem hj')) hg (fun g hg' e'=>by
    have hgv:=Option.some.inj e';subst hgv;exact hs.at_ hj' hk (fun e''=>e e''.symm) g hg' (by rw [hv];rfl))
   exact h5.far (p:=⟨gA,k*6+3,none⟩) (Own.fD h5 hA (by decide)) _
 ·show (bl.set k _).map (·.1)=p.au.set k (L9 a ki)
  rw [List.map_set,h.eq]
 ·have h5:=Own.grown h.uH hg (fun g hg'=>by have:=Own.apart h.uH Rx (by decide) g hg';rw [hv] at this;exact this);exact h5.far (p:=⟨gA,k*6+3,none⟩) (Own.fD h5 hA (by decide)) _
set_option maxRecDepth 100000 in
set_option maxHeartbeats 8000000 in
theorem aam (p:Pl) (aI:Int) (An Aa Af:Option Addr) (cn ca cf B:Nat) (bl:List (Ar×SV)) (w:World) (h:gX w B (.slice An p.nodes.length cn) (.slice Aa p.au.length ca) (.slice Af p.faces.length cf) p bl) (hs:lX bl) (hB:B<=w.heap.size) (hm:jV p) (hw:∀ a∈p.au,cZ a.id) :
  Calls Tryz.prog 105 #[.agg #[.slice An p.nodes.length cn,.slice Aa p.au.length ca,.slice Af p.faces.length cf],.int .i64 aI] w fun e w' =>
   match sK p aI with
   | none=>e=.returned (.bool false)/\Below w.heap.size w w'
   | some q=>e=.returned (.bool true)/\Below B w w'/\(∀ g cs,ah w g 26 cs->ah w' g 26 cs)/\∃ Iy,gX w' B (.slice An p.nodes.length cn) (.slice Aa p.au.length ca) (.slice Af p.faces.length cf) q Iy/\lX Iy:=by
 have L6:=Lib.hid (fun W (hW:Below w.heap.size w W)=>QK _ p aI W (h.KO.mono hW) hm hw);have hlb:bl.length=p.au.length:=by rw [<- h.eq,List.length_map]
 have Mc:=Lib.hid (fun arc g W (hW:Below w.heap.size w W) (hx:ah W g 3 #[.int .i64 arc])=>agq (.slice Aa p.au.length ca) (bl.map Am) arc g W (by
  have h':=h.keep hW;refine ⟨?_,fun k hk=>?_⟩
  ·have:=h'.gY.sl
   rw [List.length_map,Og];exact this
  ·have hk':k<bl.length:=by simpa using hk
   rw [List.getElem_map];exact (h'.mM _ (List.getElem_mem hk')).sl) hx (by rw [List.length_map,hlb];exact hm.gY))
 have hmap:(bl.map Am).map (·.1)=p.au:=by rw [List.map_map,<- h.eq];rfl
 rw [hmap] at Mc;have hvl:=hm.via;have ahh:=hm.gY;have HP:=Lib.hid h;have HS:=Lib.hid hs;have HLb:=Lib.hid hlb;unfold sK
 cases hls:pF p aI with
 | none =>
  simp only [Option.map_none];have HL:=Lib.hid (show ∀ W,Below w.heap.size w W->Calls Tryz.prog 40 #[.agg #[.slice An p.nodes.length cn,.slice Aa p.au.length ca,.slice Af p.faces.length cf],.int .i64 aI] W fun e w'=>e=.returned (.tuple #[.int .i64 0,.int .i64 0,.int .i64 0,.bool false])/\Below W.heap.size W w' from fun W hW=>by
   have h:=L6.out W hW;rw [hls] at h;exact h)
  clear h hs hm hw hls hmap hlb;generalize p.nodes.length=nn at *;generalize p.faces.length=nf at *;generalize p.au.length=na at *;go_enter Tryz.func105,Tryz.ntmps105;go_upto_region 1 with fail;obtain ⟨W1,hW⟩:∃ W:World,W=w.alloc (.cells #[.slice An nn cn,.slice Aa na ca,.slice Af nf cf] 26):=⟨_,rfl⟩;have X2:ah W1 w.heap.size 26 #[.slice An nn cn,.slice Aa na ca,.slice Af nf cf]:=by rw [hW];exact ah.made rfl _ _
  have HB1:=Lib.hid (show Below w.heap.size w W1 by rw [hW];exact bA (bR w) _);rw [<- hW];clear hW;obtain ⟨bF,bH,bI,bM,-,-,-⟩:=X2.aJ;go_wp2_with fail;refine (HL.out _ HB1.out).mono ?_;rintro e w2 ⟨rfl,hb2⟩;have HB2:=Lib.hid (bT HB1.out hb2);clear hb2;go_wp2_with fail;go_ret;exact ⟨rfl,bA HB2.out _⟩
 | some c =>
  simp only [Option.map_some];obtain ⟨a,hfa,ahi,-,hck,-⟩:=Zr hls;have HL:=Lib.hid (show ∀ W,Below w.heap.size w W->Calls Tryz.prog 40 #[.agg #[.slice An p.nodes.length cn,.slice Aa p.au.length ca,.slice Af p.faces.length cf],.int .i64 aI] W fun e w'=>e=.returned (.tuple #[.int .i64 c.id,.int .i64 c.k,.int .i64 c.n,.bool true])/\Below W.heap.size W w' from fun W hW=>by
   have h:=L6.out W hW;rw [hls] at h;exact h)
  have sU:=Lib.hid hfa;obtain ⟨id,ki,n⟩:=c;simp only at hck HL sU ⊢;have HQ:=Lib.hid (show Qy p id ki=⟨p.nodes,nI id ki p.au,p.faces⟩ from rfl);clear h hs hm hw hls hmap hfa ahi hlb L6;obtain ⟨nn,hnn⟩:∃ n,p.nodes.length=n:=⟨_,rfl⟩;obtain ⟨nf,hnf⟩:∃ n,p.faces.length=n:=⟨_,rfl⟩;obtain ⟨na,hna⟩:∃ n,p.au.length=n:=⟨_,rfl⟩;rw [hnn,hnf,hna] at HP HL ⊢;rw [hna] at Mc ahh HLb;have CQ:=Lib.hid hna;obtain ⟨Q,hQ⟩:∃ Q,Qy p id ki=Q:=⟨_,rfl⟩;rw [hQ] at HQ ⊢;clear hnn hnf hna hQ;go_enter Tryz.func105,Tryz.ntmps105;go_upto_region 1 with fail;obtain ⟨W1,hW⟩:∃ W:World,W=w.alloc (.cells #[.slice An nn cn,.slice Aa na ca,.slice Af nf cf] 26):=⟨_,rfl⟩;have X2:ah W1 w.heap.size 26 #[.slice An nn cn,.slice Aa na ca,.slice Af nf cf]:=by rw [hW];exact ah.made rfl _ _
  have HB1:=Lib.hid (show Below w.heap.size w W1 by rw [hW];exact bA (bR w) _);rw [<- hW];clear hW;have eF:=Lib.hid X2
  try clear bF
  try clear bH
  try clear bI
  try clear bM
  obtain ⟨bF,bH,bI,bM,-,-,-⟩:=X2.aJ;go_wp2_with fail;refine (HL.out _ HB1.out).mono ?_;rintro e w2 ⟨rfl,hb2⟩;have HB2:=Lib.hid (bT HB1.out hb2);have ng:=Lib.hid (eF.out.keep hb2);clear hb2 HL eF HB1 X2 bF bH bI bM;go_upto_region 2 with fail;obtain ⟨g5,hg5⟩:∃ g,w2.heap.size=g:=⟨_,rfl⟩;obtain ⟨W3,hW⟩:∃ W:World,W=w2.alloc (.cells #[.int .i64 id] 3):=⟨_,rfl⟩;have bP:=Lib.hid (show ah W3 g5 3 #[.int .i64 id] by rw [hW,<- hg5];exact ah.made rfl _ _);have hA3:Below w2.heap.size w2 W3:=by rw [hW];exact bA (bR w2) _
  have CP:=Lib.hid (ng.out.keep hA3);have HB3:=Lib.hid (bT HB2.out hA3);rw [<- hW,hg5];clear hW hg5 hA3 ng HB2;have X2:=CP.out
  try clear bF
  try clear bH
  try clear bI
  try clear bM
  obtain ⟨bF,bH,bI,bM,-,-,-⟩:=X2.aJ;go_upto_region 4 with fail;go_wp2_with fail;refine (Mc.out id g5 _ HB3.out bP.out).mono ?_;rintro e w4 ⟨⟨r,rfl,hr⟩,hb4⟩;have HB4:=Lib.hid (bT HB3.out hb4);have ES:=Lib.hid (CP.out.keep hb4);clear hb4 X2 bF bH bI bM CP HB3 Mc;obtain ⟨k,hk,rfl,Ry,hno⟩:∃ (k:Nat) (hk:k<p.au.length),r=(k:Int)/\(p.au[k].id == id)=true/\∀ j (hj:j<p.au.length),j<k->(p.au[j].id == id)=false:=by
   rcases hr with ⟨-,hno⟩ | h
   ·exfalso;have:=Jb p.au (fun a=>a.id == id) (fun j hj=>hno j hj)
    have hf:=sU.out;unfold findAr at hf;rw [this] at hf
    cases hf
   · exact h
  have hak:=ahf sU.out hk Ry hno;have hdl:=aal (i:=ki) hk Ry hno;rw [hak] at hdl;have hkb:k<bl.length:=by rw [HLb.out,<- CQ.out];exact hk
  have hka:bl[k].1=a:=by
   rw [<- hak]
   have:p.au[k]=(bl.map (·.1))[k]'(by simpa using hkb):=by simp only [HP.out.eq]
   rw [this,List.getElem_map]
  have hkn:k<na:=by rw [<- CQ.out];exact hk
  have HDl:=Lib.hid hdl;have HKa:=Lib.hid hka;have HHr:=Lib.hid hno;clear hr Ry hno hak hdl hk;have mD:=Lib.hid (HP.out.keep HB4.out);obtain ⟨gA,cA,hAA,hgB,hgl,-⟩:=Own.L8 mD.out.gY (by omega);injection hAA with e1 e2 e3;subst e1;clear e2 e3;obtain ⟨A6,c6,he,-,-,Iz⟩:=mD.out.gY.sl;injection he with e1 e2 e3;subst e1;clear e2 e3;obtain ⟨b',o',rY,Ah,k0,k1,k2,k3,k4,k5⟩:=Iz.YS hkb;simp only [Option.some.injEq,Addr.mk.injEq,and_true] at rY;obtain ⟨rfl,rfl⟩:=rY;simp only [Nat.zero_add] at k0 k1 k2 k3 k4 k5;have hvk:=mD.out.mM _ (List.getElem_mem hkb);rw [HKa.out] at hvk;obtain ⟨gv,cv,hvv,hvB,N7,Rz⟩:=Own.hold hvk (fun e=>by rw [e] at hck;simp at hck);have hsv:(Value.slice bl[k].2.a bl[k].2.n bl[k].2.c)=.slice (some ⟨gv,0,none⟩) a.via.length cv:=hvv;rw [hsv] at k3;have hgv:gv<w4.heap.size:=Rz.lt;have hng:¬ gA=gv:=fun e=>by
   have:=Own.fD hvk (g:=gA) (t:=50) (cs:=(Classical.choose (show ∃ cs,ah w4 gA 50 cs from by
    obtain ⟨_,_,hq,-,-,-,-,cur,hcur,-⟩:=Own.L8 mD.out.gY (by omega);injection hq with e1 _ _;injection e1 with e1;injection e1 with e1 _ _;subst e1;exact ⟨cur,hcur⟩))) (Classical.choose_spec _) (by decide)
   rw [hvv] at this;exact this (by rw [e];rfl)
  have aj2:w4.frozen? ⟨gA,k*6+3,none⟩=false:=by
   obtain ⟨_,_,hq,-,-,-,-,cur,hcur,-⟩:=Own.L8 mD.out.gY (by omega);injection hq with e1 _ _;injection e1 with e1;injection e1 with e1 _ _;subst e1;exact ah.frozen hcur _
  have IB:=Lib.hid (fun W (hh:fF W gv cv a.via)=>ahe a.via gv cv ki W hh N7 hck);have HHv:=Lib.hid Rz;have X2:=ES.out;have r0:0<=(k:Int):=by omega
  have r1:(k:Int)<na:=by omega
  have hkw:IntKind.i64.wrap ((ki:Int)+1)=(ki:Int)+1:=IntWalk.i64_in _ (by have:=hvl a (yw sU.out);omega);have hw2:w.heap.size<w4.heap.size:=X2.lt;have n1:¬ w.heap.size=gv:=by
   have:=(HP.out.mM _ (List.getElem_mem hkb)).lt gv (by rw [hvv];rfl)
   omega
  have n2:¬ w.heap.size=gA:=by
   have:=HP.out.gY.lt gA rfl
   omega
  have Z8:=Lib.hid hvk;have HVv:=Lib.hid hvv;clear hvk hvv hsv Rz Iz k0 k1 k2 k4 k5
  try clear bF
  try clear bH
  try clear bI
  try clear bM
  obtain ⟨bF,bH,bI,bM,-,-,-⟩:=X2.aJ;go_upto_region 5 with fail;obtain ⟨ahj,RD⟩:∃ cur,ah w4 gA 50 cur:=by
   obtain ⟨_,_,hq,-,-,-,-,cur,hcur,-⟩:=Own.L8 mD.out.gY (by omega);injection hq with e1 _ _;injection e1 with e1;injection e1 with e1 _ _;subst e1;exact ⟨cur,hcur⟩
  have HbA:=Lib.hid RD;have hc3:ahj[k*6+3]? = some (.slice (some ⟨gv,0,none⟩) a.via.length cv):=by rw [<- RD.cell];exact k3
  have Hc3:=Lib.hid hc3;clear RD hc3;go_region_law (go_simp;go_at_call 156;refine (IB.out _ HHv.out.drew).mono ?_;rintro e w5 ⟨rfl,hh5,hg5⟩;have hX5:=ah.grown (ES.out.drew) hg5 (fun e=>n1 (Option.some.inj e));obtain ⟨q1,q2,q3,q4,-,-,-⟩:=hX5.aJ;have Md:=ah.grown (HbA.out.drew) hg5 (fun e=>hng (Option.some.inj e));have k35:=(Md.cell (k*6+3)).trans Hc3.out;have hf5:=Md.frozen (k*6+3);have RF:=Lib.hid hg5;have HH5:=Lib.hid hh5;have xM:=Lib.hid Md;clear hg5 hh5 hX5 Md)
  all_goals
   (have ahk:gA≠gv:=hng
    have CO:=Lib.hid (show Below B w (w5.setCell ⟨gA,k*6+3,none⟩ (.slice (some ⟨gv,0,none⟩) (a.via.eraseIdx ki).length cv)) from ((HB4.out.mono hB).trans (Below.grown (Below.drew (Below.refl B w4)) RF.out (Nat.le_trans hB HB4.out.size) (fun g hg=>by have:=Option.some.inj hg;omega))).setCell (p:=⟨gA,k*6+3,none⟩) hgB _);have HKf:=Lib.hid (show ∀ g cs,ah w g 26 cs->ah (w5.setCell ⟨gA,k*6+3,none⟩ (.slice (some ⟨gv,0,none⟩) (a.via.eraseIdx ki).length cv)) g 26 cs from fun g cs hb=>by
     have h4:=hb.keep HB4.out;have n1:g≠gv:=fun e=>by
      obtain ⟨cur,hc,-⟩:=HHv.out;exact ah.vW h4 hc (by decide) e
     have n2:g≠gA:=ah.vW h4 HbA.out (by decide);exact (ah.grown (h4.drew) RF.out (fun e=>n1 (Option.some.inj e))).far (p:=⟨gA,k*6+3,none⟩) n2 _)
    have HQf:=Lib.hid ((mD.out.keep (bD (bR w4))).dropped HS.out RF.out hkb HKa.out (HQ.out.trans (by rw [HDl.out])) HVv.out HH5.out hvB N7 ahk xM.out);clear q1 q2 q3 q4 k35 hf5;go_wp2_with fail;go_ret;exact ⟨rfl,CO.out,HKf.out,HQf.out⟩)
end Go.Proofs.YtialfdomhoojiaaGreat
