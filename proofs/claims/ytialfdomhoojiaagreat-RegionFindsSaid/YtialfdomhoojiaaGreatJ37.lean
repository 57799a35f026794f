import Derived.Test.YtialfdomhoojiaaGreatJ32
set_option linter.unusedSimpArgs false
set_option linter.unusedVariables false
set_option maxRecDepth 100000
set_option maxHeartbeats 8000000
namespace Go.Proofs.YtialfdomhoojiaaGreat
open Go.RowKit
theorem Valid.axz {p:Pl} (h:Valid p) {a:Ar} (ha:a∈p.AU):Ky p a.id=AV p a:=by
 have hid:=(h.Gh ha).1;unfold Ky;rw [AZ AB];unfold GV;rw [show Ee a.id=a.id by unfold Ee;split<;>omega,h.find ha]
theorem ay0 {p:Pl} {v:Pt} {k:Nat} (hk:k<p.nodes.length) (h:(p.nodes.take k).find? (fun n=>decide (n.pt=v))=none) (he:p.nodes[k].pt=v):VE p v=(1,p.nodes[k].id):=by
 unfold VE;rw [abH hk h (by simpa using he)]
theorem ay1 {p:Pl} {v:Pt} (hn:p.nodes.find? (fun n=>decide (n.pt=v))=none) {k:Nat} (hk:k<p.AU.length) (h:(p.AU.take k).find? (U4 p v)=none) (he:U4 p v p.AU[k]=true):VE p v=(2,p.AU[k].id):=by
 unfold VE;rw [hn];simp only;rw [abH hk h he]
theorem ay2 {p:Pl} {v:Pt} (hn:p.nodes.find? (fun n=>decide (n.pt=v))=none) (ha:p.AU.find? (U4 p v)=none):VE p v=(0,KH p (I4 p v)):=by
 unfold VE;rw [hn];simp only;rw [ha]
theorem axT (v vl:Value) (p:Pl) (CL:List (List Int×SV)) (O:List (List Int)) (at_:Pt) (w:World) (h:Cb w v p) (hv:Valid p) (hC:fD w vl CL) (hcl:CL.map (·.1)=O) (hO:O.Perm (Bj p)) (nv:Bg at_=true) :
  Calls Tryz.prog 71 #[v,vl,BD at_] w fun e w'=>e=.returned (.tuple #[.int .i64 (VE p at_).1,.int .i64 (VE p at_).2])/\AP w w':=by
 have HV:=AA hv;have HLn:=AA (fun k (hl:k<p.nodes.length) hf he=>ay0 (v:=at_) hl hf he);have zH:=AA (fun hn k (hl:k<p.AU.length) hf he=>ay1 (v:=at_) hn hl hf he);have zI:=AA (fun hn ha=>ay2 (p:=p) (v:=at_) hn ha);have Il:=AA (fun W (hW:AP w W)=>alH v vl p CL O at_ W (h.mono hW) hv (hC.mono hW) hcl hO nv);have Jd:=AA (fun k (hk:k<p.AU.length) W (hW:AP w W)=>show Calls Tryz.prog 84 #[v,.int .i64 p.AU[k].id] W (YD W (AV p p.AU[k])) from hv.axz (BH hk) ▸ afH v p p.AU[k].id W (h.mono hW) hv (Iy.2 ⟨_,BH hk,.inl rfl⟩));have OI:=AA (fun d (hd:ES d) W (hW:AP w W)=>adb v p d W (h.mono hW) (fun a ha=>Dn (hv.short a ha) AB) hd);have II:=AA (fun a b W (hn:Dy [a,b,at_]=true)=>al9 a b at_ W hn);have fE:=AA (fun (k:Nat) (hk:k<p.AU.length) (m:Nat) (a b:Pt) (h1:(AV p p.AU[k])[m]? = some a) (h2:(AV p p.AU[k])[m+1]? = some b)=>show Dy [a,b,at_]=true by
  have h1:=hv.wF (BH hk) (abC h1);have h2:=hv.wF (BH hk) (abC h2);simp [Dy,h1,h2,nv])
 have hol:O.length<=512:=by
  rw [hO.length_eq];exact Dn (LY _ _) hv.QY
 have hll:CL.length=O.length:=by rw [<- hcl,Cm]
 have ZJ:=AA (fun n (h1:0<n) (h2:n<=O.length) (hk:I4 p at_=Lp O n)=>show ∃ (hx:n-1<CL.length) (d:Int) (t:List Int),CL[n-1].1=d::t/\KH p (I4 p at_)=Es p d/\ES d from by
  have hx:n-1<CL.length:=by omega
  have hxo:n-1<O.length:=by omega
  have e1:=fG hcl hx hxo;have hm:=(Nl.1 (hO.subset (BH hxo))).1;rw [e1] at hm;have hne:=hv.Wh hm
  cases hX:CL[n-1].1 with
  | nil=>exact absurd hX hne
  | cons d t =>
   refine ⟨hx,d,t,hX ▸ rfl,?_,?_⟩
   ·rw [hk];unfold Lp;rw [AX AB,DK hxo,e1,hX];rfl
   ·rw [hX] at hm;have:=hv.Qo ((hv.Gy hm).2 d Ea)
    exact KU AB AB)
 have aaA:p.nodes.length<=256:=hv.bW;have hqa:p.AU.length<=256:=by
  have hl:=hv.lim;unfold JX at hl;simp at hl;omega
 obtain ⟨⟨Ac,cc,rfl,hc1,hc2,IC⟩,hI⟩:=hC;unfold maxLen at hc2;obtain ⟨_,_,_,al,rfl,hpa,⟨An,cn,rfl,hn1,hn2,zJ⟩,⟨⟨Aa,ca,rfl,ha1,ha2,FU⟩,TG⟩,⟨Af,cf,rfl,-⟩⟩:=h;unfold maxLen at hn2 ha2;generalize p.faces.length=nf at *;have hal:al.length=p.AU.length:=by rw [hpa,Cm]
 have HRn:=AA zJ;have Gu:=AA FU;have LH:=AA hpa;have OJ:=AA hal;have NH:=AA IC;have HI:=AA hI;have JG:=AA hll;have axD:al.length<=256:=by omega
 have avH:CL.length<=512:=by omega
 unfold BD at II Il ⊢;clear hv zJ FU TG hpa nv hal IC hI hcl hO hll;go_enter Tryz.func71,Tryz.ntmps71;go_upto_block 0 with fail;obtain ⟨W1,hW⟩:=BO ((w.alloc (.cells #[.slice An p.nodes.length cn,.slice Aa al.length ca,.slice Af nf cf] 26)).alloc (.cells #[.int .i64 at_.x,.int .i64 at_.y] 39));have D9:=AA (show AO W1 w.heap.size 26 #[.slice An p.nodes.length cn,.slice Aa al.length ca,.slice Af nf cf] by rw [hW];exact (AO.made rfl _ _).alloc _);have CG:=AA (show AO W1 (w.heap.size+1) 39 #[.int .i64 at_.x,.int .i64 at_.y] by rw [hW];exact AO.made Aw _ _);have HB1:=AA (show AP w W1 by rw [hW];exact bA (bA (bR w) _) _);rw [<- hW];clear hW;go_wp2_with fail;go_loopw [8] (fun u wr=>∃ k:Nat,k<=p.nodes.length/\u=.int .i64 k/\(p.nodes.take k).find? (fun n=>decide (n.pt=at_))=none/\AP W1 wr) (fun u _=>p.nodes.length-(intOf u).toNat)
 case atStart => exact ⟨0,BZ _,rfl,rfl,bR W1⟩
 case round =>
  obtain ⟨k,hk,rfl,hno,hb⟩:=hrel;obtain ⟨wo,rfl⟩:=BO wr;have Hg:=AA hno;have Hb:=AA hb;have X1:=D9.out.keep hb;have X2:=CG.out.keep hb;clear hno hb;by_cases hlt:k<p.nodes.length
  ·obtain ⟨b,o,hA',hlb,c0,c1,c2⟩:=(HRn.out.mono (bT HB1.out Hb.out)).nd hlt;subst hA';have KI:=AA (fun he=>HLn.out k hlt Hg.out he);have KD:=AA (fun hne=>abG hlt Hg.out hne);generalize p.nodes[k]=x at *;obtain ⟨id,x0,y0⟩:=x;simp only at c0 c1 c2;have wW:(k:Int)<p.nodes.length:=by omega
   have wZ:0<=(k:Int):=by omega
   have axU:=AA X1;obtain ⟨Ak,Au,Az,BA,-,-,-⟩:=X1.BF;obtain ⟨BQ,BR,BX,-,-⟩:=X2.BN;by_cases he:(⟨x0,y0⟩:Pt)=at_
   ·have hr:=AA (KI.out he);have he1:x0=at_.x:=by rw [<- he]
    have he2:y0=at_.y:=by rw [<- he]
    subst he1 he2;clear he KI KD Hg;go_upto_region 4 with fail;refine Cj (wo) (.run 8 0 0 (.done)) fun Bv QR Ae Ah hS=>?_
    iterate 8 refine Aj ?_
    refine Ce ?_;clear hS Ah Ae;intro hB;obtain ⟨W6,hW⟩:∃ W:World,W=wo.drew:=⟨_,rfl⟩;rw [<- hW] at hB ⊢;have Eb:=AA (bT HB1.out (bT Hb.out hB));have X7:=axU.out.keep hB;have c0':=Dv hB c0;have Rz:b<W6.heap.size:=L9 hlb hB.size;clear hW hB X1 Ak Au Az BA X2 BQ BR BX c0 c1 c2 hlb;obtain ⟨EK,EL,FN,nM,-,-,-⟩:=X7.BF;go_upto_region 5 with fail;refine Cj (W6) (.run 8 0 0 (.done)) fun Bv QR Ae Ah hS=>?_
    iterate 8 refine Aj ?_
    refine Ce ?_;clear hS Ah Ae;intro hB;go_wp2_with fail;exact bodyPost_ret (results_tmp2 rfl _ _ _) rfl ⟨by rw [hr.out];rfl,bT Eb.out hB⟩
   ·have hr:=AA (KD.out (by simpa using he));have hnx:x0≠at_.x\/(x0=at_.x/\y0≠at_.y):=by
     by_cases e:x0=at_.x
     · exact .inr ⟨e,fun e2=>he (by rw [e,e2])⟩
     · exact .inl e
    clear he KI KD Hg;rcases hnx with hx | ⟨rfl,hy⟩
    ·have hx2:¬ x0=at_.x:=hx;clear hx;go_upto_region 4 with fail;refine Cj (wo) (.run 8 0 0 (.done)) fun Bv QR Ae Ah hS=>?_
     iterate 8 refine Aj ?_
     refine Ce ?_;clear hS Ah Ae;intro hB;have Eb:=AA (bT Hb.out hB);clear hB X1 Ak Au Az BA X2 BQ BR BX c0 c1 c2 hlb;go_wp2;go_roundw
     case rel => exact ⟨k+1,AB,BI,hr.out,Eb.out⟩
     case measure => exact BK
    ·have hy2:¬ y0=at_.y:=hy;clear hy;go_upto_region 4 with fail;refine Cj (wo) (.run 8 0 0 (.done)) fun Bv QR Ae Ah hS=>?_
     iterate 8 refine Aj ?_
     refine Ce ?_;clear hS Ah Ae;intro hB;have Eb:=AA (bT Hb.out hB);clear hB X1 Ak Au Az BA X2 BQ BR BX c0 c1 c2 hlb;go_wp2;go_roundw
     case rel => exact ⟨k+1,AB,BI,hr.out,Eb.out⟩
     case measure => exact BK
  ·obtain rfl:k=p.nodes.length:=by omega
   have hnn:=Hg.out;rw [H8] at hnn;have Xf:=AA hnn;have HB4:=AA (bT HB1.out Hb.out);have eG:=AA X1;have zh:=AA X2;clear hnn Hg Hb HB1 D9 CG HLn X2
   try clear Ak Au Az BA
   obtain ⟨Ak,Au,Az,BA,-,-,-⟩:=X1.BF;go_upto_block 2 with fail;clear X1 Ak Au Az BA;go_wp2_with fail;go_loopw [9] (fun u wr=>∃ k:Nat,k<=al.length/\u=.int .i64 k/\(p.AU.take k).find? (U4 p at_)=none/\AP wo wr) (fun u _=>al.length-(intOf u).toNat)
   case atStart => exact ⟨0,BZ _,rfl,rfl,bR wo⟩
   case round =>
    obtain ⟨k,hk,rfl,hno,hb⟩:=hrel;obtain ⟨wq,rfl⟩:=BO wr;have Hg:=AA hno;have Hb:=AA hb;have X1:=eG.out.keep hb;have X2:=zh.out.keep hb;clear hno hb;by_cases hlt:k<al.length
    ·have hkp:k<p.AU.length:=by rw [<- OJ.out];exact hlt
     have hax:p.AU[k]=al[k].1:=by
      have e:p.AU[k]? = some al[k].1:=by rw [LH.out,List.getElem?_map,DK hlt];rfl
      rw [DK hkp] at e;exact Dc e
     have hlen:=Eh p p.AU[k];have PY:=HV.out.Sv (BH hkp);obtain ⟨b,o,hA',hlb,c0,-,-,-,-,-⟩:=(Gu.out.mono (bT HB4.out Hb.out)).ar hlt;subst hA';rw [<- hax] at c0;have yZ:=AA (fun he=>zH.out Xf.out k hkp Hg.out he);have LM:=AA (fun hne=>abG hkp Hg.out hne);have pJ:=AA (Jd.out k hkp);have KI:=AA (fE.out k hkp);unfold U4 at yZ LM;clear hax Hg;generalize AV p p.AU[k]=PP at *;generalize p.AU[k].id=id at *;have HPj:=AA (fun W (hW:AP wq W)=>pJ.out W (bT (bT HB4.out Hb.out) hW));have axE:2<=PP.length:=by omega
     have hpl2:PP.length<=66:=by omega
     clear hlen PY pJ;have wW:(k:Int)<al.length:=by omega
     have wZ:0<=(k:Int):=by omega
     have yg:=AA X1;have amq:=AA X2
     try clear Ak Au Az BA
     obtain ⟨Ak,Au,Az,BA,-,-,-⟩:=X1.BF;go_upto_region 9 with fail;refine Cj (wq) (.run 7 0 0 (.call 7 255 (.take 8 511 (.done)))) fun Bv QR Ae Ah hS=>?_
     iterate 7 refine Aj ?_
     refine BP ?_;clear hS;intro K hK AQ;go_simp;refine (HPj.out _ AQ.out).mono ?_;rintro e Bq ⟨A1,c1,rfl,Bf,hown⟩;have hS:Since wq Bq:=bT (w:=wq) AQ.out Bf;clear AQ;refine hK.out _ _ hS (fun _=>?_);clear hK K
     try simp only [pu]
     refine Aj ?_;refine Ce ?_;clear hS Ah Ae;intro hB;have Jf:=AA (bT (bT HB4.out Hb.out) hB);have Za:=AA (bT Hb.out hB);have axV:=AA (yg.out.keep hB);have axW:=AA (amq.out.keep hB);have TU:=AA (Own.sl hown);have Hc0:=AA (Dv hB c0);have axX:b<Bq.heap.size:=L9 hlb hB.size;clear X1 Ak Au Az BA X2 c0 hlb hB hown HPj Hb yg amq;go_upto_block 4 with fail;go_wp2_with fail;go_loopw [11] (fun u wr=>∃ m:Nat,m+1<=PP.length/\u=.int .i64 ((m:Int)+1)/\U3 PP at_ m=false/\AP Bq wr) (fun u _=>PP.length-(intOf u).toNat)
     case atStart => exact ⟨0,AB,rfl,rfl,bR Bq⟩
     case round =>
      obtain ⟨m,hm,rfl,hnm,hb⟩:=hrel;obtain ⟨wm,rfl⟩:=BO wr;have NK:=AA hnm;have QA:=AA hb;clear hnm hb;by_cases hmt:m+1<PP.length
      ·obtain ⟨jD,cp',he,-,-,Pm⟩:=TU.out.mono QA.out;injection he with y1 y2 y3;subst y1 y3;clear y2;obtain ⟨bp,op,KJ,hlp,d0,d1⟩:=Pm.pt (show m<PP.length by omega);obtain ⟨bp',op',Jl,-,d2,d3⟩:=Pm.pt hmt;rw [KJ] at Jl;injection Jl with Jl;injection Jl with q1 q2 _;subst q1 q2 KJ;have hoi:=alr (v:=at_) hmt;have hnr:=KI.out m _ _ (DK AB) (DK hmt);generalize PP[m+1]=pb at *;generalize PP[m]=pa at *;obtain ⟨xa,ya⟩:=pa;obtain ⟨xb,yb⟩:=pb;simp only at d0 d1 d2 d3;have HO:=AA (fun W=>II.out ⟨xa,ya⟩ ⟨xb,yb⟩ W hnr);have X2:=axW.out.keep QA.out;have aBu:((m:Int)+1)<PP.length:=by omega
       have wu:0<=(m:Int):=by omega
       have kk5:(m:Int)<PP.length:=by omega
       have kw:IntKind.i64.wrap (m:Int)=m:=Ci _ AB
       try clear BQ BR BX
       obtain ⟨BQ,BR,BX,-,-⟩:=X2.BN
       cases hon:EO ⟨xa,ya⟩ ⟨xb,yb⟩ at_ with
       | true =>
        rw [hon] at HO;have zK:U3 PP at_ (PP.length-1)=true:=als (k:=m+1) AB (by rw [aCx,hoi,hon,Bool.or_true]);have hr:=AA (yZ.out zK);clear hon hoi zK yZ LM hnr;go_upto_region 13 with fail;refine Cj (wm) (.run 10 0 0 (.call 10 2047 (.done))) fun Bv QR Ae Ah hS=>?_
        iterate 10 refine Aj ?_
        refine FD (HO.out _) ?_;clear hS;intro Bq Bf hS;refine Ce ?_;clear hS Ah Ae;intro hB;have RS:=AA (bT (bT Jf.out QA.out) hB);have X8:=axV.out.keep (bT QA.out hB);have c0:=Dv (bT QA.out hB) Hc0.out;have azZ:b<Bq.heap.size:=L9 axX (bT QA.out hB).size;clear X2 BQ BR BX d0 d1 d2 d3 hlp hB HO;obtain ⟨Nc,Nh,O1,uD,-,-,-⟩:=X8.BF;go_upto_region 14 with fail;refine Cj (Bq) (.run 8 0 0 (.done)) fun Bv QR Ae Ah hS=>?_
        iterate 8 refine Aj ?_
        refine Ce ?_;clear hS Ah Ae;intro hB;go_wp2_with fail;exact bodyPost_ret (results_tmp2 rfl _ _ _) rfl ⟨by rw [hr.out];rfl,bT RS.out hB⟩
       | false =>
        rw [hon] at HO;have hr:=AA (show U3 PP at_ (m+1)=false by rw [aCx,hoi,hon,NK.out];rfl);clear hon hoi yZ LM hnr;go_upto_region 13 with fail;refine Cj (wm) (.run 10 0 0 (.call 10 2047 (.done))) fun Bv QR Ae Ah hS=>?_
        iterate 10 refine Aj ?_
        refine FD (HO.out _) ?_;clear hS;intro Bq Bf hS;refine Ce ?_;clear hS Ah Ae;intro hB;have RY:=AA (bT QA.out hB);clear X2 BQ BR BX d0 d1 d2 d3 hlp hB HO;go_wp2;go_roundw
        case rel => exact ⟨m+1,AB,BI,hr.out,RY.out⟩
        case measure => exact BK
      ·obtain rfl:m=PP.length-1:=by omega
       have hr:=AA (LM.out NK.out);have HBk:=AA (bT Za.out QA.out);clear yZ LM NK II QA;go_wp2;go_roundw
       case rel => exact ⟨k+1,AB,BI,hr.out,HBk.out⟩
       case measure => exact BK
    ·obtain rfl:k=al.length:=by omega
     have lC:=Hg.out;rw [OJ.out,H8] at lC;have hr:=zI.out Xf.out lC;have Za:=AA (bT HB4.out Hb.out);have yg:=AA X1;have HFin:=AA hr;clear lC hr Hg Xf zI zH II HB4 eG zh HRn Gu Jd fE
     try clear Ak Au Az BA
     obtain ⟨Ak,Au,Az,BA,-,-,-⟩:=X1.BF
     try clear BQ BR BX
     obtain ⟨BQ,BR,BX,-,-⟩:=X2.BN;go_upto_region 16 with fail;go_wp2_with fail;refine (Il.out _ Za.out).mono ?_;rintro e w7 ⟨⟨n,rfl,hn,hke⟩,hb7⟩;have Jf:=AA (bT Za.out hb7);have X7:=yg.out.keep hb7;clear hb7 X1 Ak Au Az BA X2 BQ BR BX Za yg Il;rcases VF n with h0 | h0
     ·subst h0;have hz:KH p (I4 p at_)=0:=by rw [hke];rfl
      have HZ:=AA hz;clear hz hke X7;go_wp2_with fail;exact bodyPost_ret (results_tmp2 rfl _ _ _) rfl ⟨by rw [HFin.out,HZ.out];rfl,Jf.out⟩
     ·obtain ⟨hx,d,t,hX,hfx,hwd⟩:=ZJ.out n h0 hn hke;have HS:=AA (OI.out d hwd);obtain ⟨bc,oc,hAc,hlc,c0⟩:=(NH.out.mono Jf.out).cy hx;subst hAc;have hin:=(HI.out _ (BH hx)).mono Jf.out;rw [hX] at hin;obtain ⟨Ax,cx,he,hx1,hx2,kD⟩:=hin;rw [he] at c0;obtain ⟨bx,ox,hAx,hlx,d0⟩:=kD.int (k:=0) Aw;subst hAx;simp only [List.getElem_cons_zero,I9,VJ] at d0 c0 hx1;have kH:=AA hfx;have hnl:n<=CL.length:=by rw [JG.out];exact hn
      obtain ⟨j,rfl⟩:∃ j,n=j+1:=⟨n-1,AB⟩;simp only [Ze] at c0 hx;have ej:((j+1:Nat):Int)-1=j:=by omega
      rw [ej];have j1:(j:Int)<CL.length:=by omega
      have j2:0<=(j:Int):=by omega
      have j3:0<((t.length+1:Nat):Int):=by omega
      clear hfx hX he kD hx2 ej hke hwd h0
      try clear EK EL FN nM
      obtain ⟨EK,EL,FN,nM,-,-,-⟩:=X7.BF;go_upto_region 18 with fail;refine Cj (w7) (.run 7 0 0 (.call 7 255 (.take 8 511 (.take 9 1023 (.done))))) fun Bv QR Ae Ah hS=>?_
      iterate 7 refine Aj ?_
      refine FD (HS.out _ (bT Jf.out hS)) ?_;clear hS;intro Bq Bf hS
      iterate 2 refine Aj ?_
      refine Ce ?_;clear hS Ah Ae;intro hB;have Lm:=AA (bT Jf.out hB);go_wp2_with fail;exact bodyPost_ret (results_tmp2 rfl _ _ _) rfl ⟨by rw [HFin.out,kH.out];rfl,Lm.out⟩
section
variable {G:Nat->Prop} {w w0 w' W:World}
def Skip (G:Nat->Prop) (w w':World):Prop:=w.heap.size<=w'.heap.size/\∀ k,k<w.heap.size->¬ G k->w'.heap[k]? = w.heap[k]?
theorem Own.skip {α:Type} {base:Nat} {e:TypeId} {size:Nat} {f:α->List Value} {v:Value} {l:List α} (h:Own w base e size f v l) (hG:∀ g,G g->g<base) (hs:Skip G w W):Own W base e size f v l:=by
 obtain ⟨h1,h2⟩:=h;refine ⟨h1,?_⟩;rcases h2 with h2 | ⟨g,cap,cur,hv,hg,hh,r⟩
 · exact .inl h2
 · exact .inr ⟨g,cap,cur,hv,hg,(hs.2 g (AO.lt hh) (fun k=>by have:=hG g k;omega)).trans hh,r⟩
theorem Cb.form {v:Value} {p:Pl} (h:Cb w v p):∃ An cn Aa ca Af cf,v=.agg #[.slice An p.nodes.length cn,.slice Aa p.AU.length ca,.slice Af p.faces.length cf]:=by
 obtain ⟨_,_,_,al,rfl,hpa,⟨An,cn,rfl,-⟩,⟨⟨Aa,ca,rfl,-⟩,-⟩,⟨Af,cf,rfl,-⟩⟩:=h;exact ⟨An,cn,Aa,ca,Af,cf,by rw [hpa,Cm]⟩
end
theorem axY (p:Pt):aCd p=Ik p:=by
 unfold aCd Ik aCc;simp only [Bool.and_assoc]
theorem axZ (v:Value) (p:Pl) (at_:Pt) (w:World) (h:Cb w v p):Calls Tryz.prog 25 #[v,BD at_] w fun e w'=>e=.returned (qK (NV p at_))/\AP w w':=by
 have HC:=AA (fun W (hW:AP w W)=>aex v p W (h.mono hW));have HG:=AA (fun W=>auX at_ W);rw [axY] at HG;have qw:=AA (fun (hz:Eu p=0) W (hW:AP w W)=>alS v p W (h.mono hW) (qA hz).1);have Vw:=AA (fun (hz:Eu p=0) (hk:Ik at_=true) vl CL W (hC:fD W vl CL) (hcl:CL.map (·.1)=sortK (Bj p)) (hW:AP w W)=>axT v vl p CL (sortK (Bj p)) at_ W (h.mono hW) (qA hz).1 hC hcl (XM _).1 (adO hk));have HS:=AA (fun (hz:Eu p=0) (hk:Ik at_=true)=>axG hz hk);obtain ⟨An,cn,Aa,ca,Af,cf,rfl⟩:=h.form;clear h;obtain ⟨R,hR⟩:=BL (NV p at_);rw [hR] at HS ⊢;have HR:=AA hR;clear hR;generalize p.nodes.length=nn at *;generalize p.AU.length=na at *;generalize p.faces.length=nf at *;obtain ⟨z,hz⟩:=BL (Eu p);rw [hz] at HC qw Vw HS;have HZ:=AA hz;obtain ⟨k,hk⟩:=BL (Ik at_);rw [hk] at HG Vw HS;have HK:=AA hk;unfold BD at HG Vw ⊢;clear hz hk;go_enter Tryz.func25,Tryz.ntmps25;go_upto_region 1 with fail;obtain ⟨W1,hW⟩:=BO ((w.alloc (.cells #[.slice An nn cn,.slice Aa na ca,.slice Af nf cf] 26)).alloc (.cells #[.int .i64 at_.x,.int .i64 at_.y] 39));have X1:AO W1 w.heap.size 26 #[.slice An nn cn,.slice Aa na ca,.slice Af nf cf]:=by rw [hW];exact (AO.made rfl _ _).alloc _
 have CG:=AA (show AO W1 (w.heap.size+1) 39 #[.int .i64 at_.x,.int .i64 at_.y] by rw [hW];exact AO.made Aw _ _);have HB1:=AA (show AP w W1 by rw [hW];exact bA (bA (bR w) _) _);rw [<- hW];have D9:=AA X1;clear hW;obtain ⟨Ak,Au,Az,BA,-,-,-⟩:=X1.BF;go_wp2_with fail;refine (HC.out _ HB1.out).mono ?_;rintro e w2 ⟨rfl,hb2⟩;have HB2:=AA (bT HB1.out hb2);have Q9:=AA (D9.out.keep hb2);have WB:=AA (CG.out.keep hb2);clear hb2 X1 Ak Au Az BA D9 CG HB1 HC;by_cases hz:z=0
 case neg =>
  have hzb:(z != 0)=true:=by simpa using hz
  have hr:=AA (show R=(0,0,z) by rw [<- HR.out];unfold NV;rw [AZ (by rw [HZ.out];exact hz),HZ.out]);go_wp2_with fail;exact bodyPost_ret (results_tmp3 rfl _ _ _) rfl ⟨by rw [hr.out];rfl,HB2.out⟩
 subst hz;have X2:=WB.out;obtain ⟨BQ,BR,BX,-,-⟩:=X2.BN;go_wp2_with fail;refine (HG.out _).mono ?_;rintro e w3 ⟨rfl,hb3⟩;have HB3:=AA (bT HB2.out hb3);have SQ:=AA (Q9.out.keep hb3);have rP:=AA (WB.out.keep hb3);clear hb3 X2 BQ BR BX Q9 WB HB2 HG
 cases k with
 | false =>
  have hr:=AA (show R=(0,0,2) by rw [<- HR.out];unfold NV;rw [AX (by rw [HZ.out];decide),AZ HK.out]);go_wp2_with fail;exact bodyPost_ret (results_tmp3 rfl _ _ _) rfl ⟨by rw [hr.out];rfl,HB3.out⟩
 | true =>
  have jw:=AA (HS.out (by first | rfl | trivial) (by first | rfl | trivial));have X1:=SQ.out;have X2:=rP.out;have HO:=AA (qw.out (by first | rfl | trivial));have HL:=AA (Vw.out (by first | rfl | trivial) (by first | rfl | trivial));obtain ⟨T,hT⟩:=BL (VE p at_);rw [hT] at jw HL;clear qw Vw HS hT
  try clear Ak Au Az BA
  obtain ⟨Ak,Au,Az,BA,-,-,-⟩:=X1.BF
  try clear BQ BR BX
  obtain ⟨BQ,BR,BX,-,-⟩:=X2.BN;go_upto_region 6 with fail;refine Cj (w3) (.take 0 1 (.take 1 3 (.take 3 11 (.call 2 15 (.call 4 31 (.run 5 5 31 (.done))))))) fun Bv QR Ae Ah hS=>?_
  iterate 3 refine Aj ?_
  refine BP ?_;clear hS;intro K hK AQ;go_simp;refine (HO.out _ (bT HB3.out AQ.out)).mono ?_;rintro e Bq ⟨A,c,L,rfl,Bf,hcy,hL⟩;have hS:Since w3 Bq:=bT (w:=w3) AQ.out Bf;clear AQ;refine hK.out _ _ hS (fun _=>?_);clear hK K
  try simp only [pu]
  refine FD (HL.out _ L _ (hcy.read.mono (bR _)) hL (bT HB3.out hS)) ?_;clear hS;intro wr2 FT hS
  iterate 5 refine Aj ?_
  refine Ce ?_;clear hS Ah Ae;intro hB;have Eb:=AA (bT HB3.out hB);go_wp2_with fail;exact bodyPost_ret (results_tmp3 rfl _ _ _) rfl ⟨by rw [jw.out];rfl,Eb.out⟩
