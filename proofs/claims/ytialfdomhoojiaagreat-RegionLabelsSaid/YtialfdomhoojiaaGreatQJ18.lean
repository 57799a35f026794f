import Derived.Test.YtialfdomhoojiaaGreatQJ17
set_option linter.unusedSimpArgs false
set_option linter.unusedVariables false
set_option maxRecDepth 100000
set_option maxHeartbeats 8000000
namespace Go.Proofs.YtialfdomhoojiaaGreat
open Go.RowKit Go.Sort
theorem arq (v:Value) (p:Pl) (n:Int) (w:World) (h:Ci w v p) (hv:Valid p) :
  Calls Tryz.prog 250 #[v,.int .i64 n] w (aBh w (DL p n)):=by
 have fH:=AA (fun W (hW:AU w W)=>ag6 v p n W (h.mono hW));have HSc:=AA (fun d (hd:-9223372036854775808<d/\d<=9223372036854775807) W (hW:AU w W)=>ark v p d W (h.mono hW) hv.short hd);obtain ⟨_,_,_,al,rfl,hpa,⟨An,cn,rfl,-⟩,⟨⟨Aa,ca,rfl,hn1,hn2,hR⟩,-⟩,⟨Af,cf,rfl,-⟩⟩:=h;unfold maxLen at hn2;have HR:=AA hR;have HV:=AA hv;have Kv:=AA hpa;have hall:al.length<=256:=by
  have hl:=hv.lim;unfold Ji at hl;simp only [QC,Iy] at hl;have h2:=hl.2;rw [hpa,Cj] at h2;omega
 have fJ:=AA (show ∀ k (hk:k<al.length),1<=al[k].1.id/\al[k].1.id<=1073741824 from fun k hk=>hv.Gx (by rw [hpa];exact Gh (BO hk)));generalize hnn:p.nodes.length=nn at *;generalize p.faces.length=nf at *;obtain ⟨q,hq⟩:=BN (DL p n);rw [hq];have Hq:=AA hq;clear hpa hR hv hq hnn;go_enter Tryz.func250,Tryz.ntmps250;go_wp2_with fail;refine (fH.out _ (bA (bR w) _)).mono ?_;rintro e w1 ⟨rfl,hb1⟩;have X2:AO w1 w.heap.size 26 #[.slice An nn cn,.slice Aa al.length ca,.slice Af nf cf]:=(AO.made rfl _ _).keep hb1;have B1:=AA (bT (bA (bR w) _) hb1);clear hb1;unfold iP uM
 cases hfn:J3 p.nodes n with
 | none =>
  have hf:q=[]:=by rw [<- Hq.out];unfold DL;rw [hfn]
  subst hf;clear hfn;simp only [rV,gX];go_wp2;go_ret;exact ⟨none,0,rfl,bA B1.out _,Own.nil _ _ _ _ _⟩
 | some nd =>
  have hnd:nd∈p.nodes/\nd.id=n:=⟨VO hfn,by have:=List.find?_some hfn;simpa using this⟩;obtain ⟨hnm,rfl⟩:=hnd;have hAr:=HV.out.aAy hnm;rw [Hq.out] at hAr;have Jw:=AA hAr;have RJ:=AA hnm;clear hfn hAr hnm Hq;simp only [H9,VP];go_upto_region 4 with fail;obtain ⟨W5,hW⟩:∃ W:World,W=w1.alloc (.cells #[.int .i64 nd.id,.int .i64 nd.pt.x,.int .i64 nd.pt.y] 45):=⟨_,rfl⟩;have B5:=AA (show AU w W5 by rw [hW];exact bA B1.out _);have DI:=AA (show AO W5 w1.heap.size 45 #[.int .i64 nd.id,.int .i64 nd.pt.x,.int .i64 nd.pt.y] by rw [hW];exact AO.made rfl _ _);have CG:=AA (show AO W5 w.heap.size 26 #[.slice An nn cn,.slice Aa al.length ca,.slice Af nf cf] by rw [hW];exact X2.alloc _);rw [<- hW];clear hW X2;obtain ⟨g5,hg5⟩:=BN w1.heap.size;rw [hg5] at DI ⊢;clear hg5 B1;go_wp2_with fail;go_loopw [7,8] (fun s i wr=>∃ k:Nat,k<=al.length/\i=.int .i64 k/\Own wr W5.heap.size 3 1 DR s (Dl (p.AP.take k) nd.id)/\AU W5 wr) (fun _ i _=>al.length-(intOf i).toNat)
  case atStart => exact ⟨0,Bv _,rfl,by simpa [Dl] using Own.nil W5 W5.heap.size 3 1 DR,bR W5⟩
  case round =>
   obtain ⟨k,hk,rfl,ho,hb⟩:=hrel;have Ho:=AA ho;have Hb:=AA hb;have X2:=CG.out.keep hb;have hzr:=hb.size;clear ho hb;obtain ⟨BU,BX,Bg,CB,-,-,-⟩:=X2.Az;by_cases hlt:k<al.length
   case neg =>
    have hkk:k=al.length:=by omega
    subst hkk;have ho:=Ho.out;rw [show p.AP.take al.length=p.AP from IQ (by rw [Kv.out,Cj];omega)] at ho;obtain ⟨A7,c7,rfl,h71,h72⟩:=Own.shape ho;unfold maxLen at h72;have fF:=AA ho;clear ho Ho;go_wp2_with fail;have hol:=yO p.AP nd.id;rw [show p.AP.length=al.length by rw [Kv.out,Cj]] at hol;have WA:=AA (show (Dl p.AP nd.id).length<=512 by omega);have aiO:=AA (HV.out.wK RJ.out);have ars:=AA (HV.out.adO (n:=nd.id));have aiP:=AA (show ∀ d∈Dl p.AP nd.id,Lp p d=Dy p d from fun d hd=>HV.out.arj hd);have kF:=AA (show ∀ d∈Dl p.AP nd.id,-9223372036854775808<d/\d<=9223372036854775807 from fun d hd=>by
     obtain ⟨a,ha,e⟩:=Rl.1 hd;have:=HV.out.Gx ha
     rcases e with ⟨rfl,-⟩ | ⟨rfl,-⟩<;>omega)
    have aru:=AA (DI.out.keep Hb.out);have aiQ:=AA X2;have Bo:=AA (bT B5.out Hb.out);have aeO:=AA (show Row wr A7 ((Dl p.AP nd.id).flatMap DR) by
     obtain ⟨A',c',he,_,_,hr⟩:=fF.out.sl;injection he with e1 e2 e3;subst e1;exact hr)
    clear hol X2 BU BX Bg CB hlt fF;generalize Dl p.AP nd.id=D at *;obtain ⟨wo,rfl⟩:=BR wr;go_loopw [9,10] (fun s i wr=>∃ k:Nat,k<=D.length/\i=.int .i64 k/\Own wr wo.heap.size 39 2 Ee s ((D.take k).map (Lp p))/\AU wo wr) (fun _ i _=>D.length-(intOf i).toNat)
    case atStart => exact ⟨0,Bv _,rfl,Own.nil _ _ _ _ _,bR wo⟩
    case round =>
     obtain ⟨k,hk2,rfl,ho,hb⟩:=hrel;have ZY:=AA ho;have Hb2:=AA hb;have X2:=aiQ.out.keep hb;have ari:=hb.size;clear ho hb
     try clear BU BX Bg CB
     obtain ⟨BU,BX,Bg,CB,-,-,-⟩:=X2.Az;by_cases hlt:k<D.length
     case neg =>
      have hkk:k=D.length:=by omega
      subst hkk;have ho:=ZY.out;rw [I4] at ho;obtain ⟨A9,c9,rfl,h91,h92⟩:=Own.shape ho;unfold maxLen at h92;rw [Cj] at h91;rw [show (List.map (Lp p) D).length=D.length from Cj _];have xH:=AA ho;clear ho ZY;clear X2 BU BX Bg CB hlt;go_wp2_with fail;obtain ⟨ws,rfl⟩:=BR wr;have aiR:=AA (show Row ws A9 ((D.map (Lp p)).flatMap Ee) by
       obtain ⟨A',c',he,_,_,hr⟩:=xH.out.sl;injection he with e1 e2 e3;subst e1;exact hr)
      have arv:=AA (aeO.out.mono Hb2.out);have arw:=AA (aru.out.keep Hb2.out);have Bs:=AA (bT Bo.out Hb2.out);obtain ⟨lt,hlt'⟩:∃ lt,ltD p nd.pt=lt:=⟨_,rfl⟩;have aBk:=AA (show ∀ d∈D,∀ e∈D,YV nd.pt (Lp p d) (Lp p e)=lt d e from fun d hd e he=>by rw [<- hlt',arp,aiP.out d hd,aiP.out e he]);have HPk:=AA (show ∀ m,m<D.length->xG lt D m=(sortB lt D)[m]? from fun m hm=>by rw [<- hlt'];exact aro aiO.out ars.out hm);have hsl:(sortB lt D).length=D.length:=by rw [<- hlt'];exact (jB aiO.out).1.length_eq
      have har:=Jw.out;rw [hlt'] at har;have Za:=AA (fun a b W=>asB nd.pt a b W);unfold BA at Za;generalize sortB lt D=S at *;subst har;have Po:=AA hsl;clear hlt' hsl Jw;go_loopw [11] (fun s wr=>∃ m:Nat,m<=D.length/\(∃ A c,s=.slice A m c)/\Own wr ws.heap.size 3 1 DR s (q.take m)/\AU ws wr) (fun s _=>D.length-lenV s)
      case atStart => exact ⟨0,Bv _,⟨none,0,rfl⟩,Own.nil _ _ _ _ _,bR ws⟩
      case round =>
       obtain ⟨m,hm,⟨A,c,rfl⟩,ho,hb⟩:=hrel;have uX:=AA ho;have Hb3:=AA hb;have az0:=hb.size;clear ho hb;by_cases hlt:m<D.length
       case neg =>
        have hmm:m=D.length:=by omega
        subst hmm;have ho:=uX.out;rw [IQ (by have:=Po.out;omega)] at ho;have HO:=AA ho;clear ho uX;go_wp2;go_ret;exact ⟨A,c,by rw [Po.out];rfl,bT Bs.out Hb3.out,by rw [Po.out];exact HO.out.ES (by have:=Bs.out.size;omega)⟩
       have km:(m:Int)<D.length:=by omega
       have KA:=AA (HPk.out m hlt);have Uw:m<q.length:=by have:=Po.out;omega
       have aiS:Hid (¬ ∀ j (hj:j<D.length),(Xa lt D D[j] == m)=false):=AA fun h=>by
        have h1:xG lt D m=none:=List.find?_eq_none.2 (fun x hx=>by
         obtain ⟨j,hj,rfl⟩:=EF.1 hx;rw [h j hj];decide)
        rw [KA.out,Dh Uw] at h1
        cases h1
       go_wp2_with fail;go_loopw [11,12] (fun s i wx=>∃ i':Nat,i'<=D.length/\i=.int .i64 i'/\s=.slice A m c/\Own wx ws.heap.size 3 1 DR (.slice A m c) (q.take m)/\AU ws wx/\∀ j (hj:j<D.length),j<i'->(Xa lt D D[j] == m)=false) (fun _ i _=>D.length-(intOf i).toNat)
       case atStart => exact ⟨0,Bv _,rfl,rfl,uX.out,Hb3.out,fun _ _ h=>by omega⟩
       case round =>
        obtain ⟨i',hi,rfl,rfl,ho,hb,hno⟩:=hrel;have Ho4:=AA ho;have Hb4:=AA hb;have Hno:=AA hno;have az1:=hb.size;clear ho hb hno;by_cases hil:i'<D.length
        case neg => exact absurd (fun j hj=>Hno.out j hj AB) aiS.out
        have ki:(i':Int)<D.length:=by omega
        go_wp2_with fail;obtain ⟨di,hdi⟩:=BN (D[i']);have Qi:=AA hdi;have fK:=AA (show di∈D from hdi ▸ BO hil);clear hdi;obtain ⟨wx,rfl⟩:=BR wr;go_loopw [13,14] (fun t u wy=>∃ j:Nat,j<=D.length/\u=.int .i64 j/\t=.int .i64 ((D.take j).countP (fun y=>lt y di):Nat)/\AU wx wy) (fun _ u _=>D.length-(intOf u).toNat)
        case atStart => exact ⟨0,Bv _,rfl,rfl,bR wx⟩
        case round =>
         obtain ⟨j,hj,rfl,rfl,hb⟩:=hrel;have Hb5:=AA hb;clear hb;by_cases hjl:j<D.length
         case neg =>
          have hjj:j=D.length:=by omega
          subst hjj;rw [I4];obtain ⟨rk,hrk⟩:=BN (D.countP (fun y=>lt y di));rw [hrk];have aiT:Xa lt D D[i']=rk:=by rw [Qi.out];exact hrk
          have HRk:=AA aiT;have hrl:rk<=D.length:=by rw [<- hrk];exact List.countP_le_length
          clear hrk aiT;have hdl:=WA.out;by_cases hrm:rk=m
          ·subst hrm;have hqm:q.take (rk+1)=q.take rk++[di]:=by
            have hg:q[rk]? = some di:=by
             rw [<- KA.out];unfold xG;rw [uN D _ i' hil (fun j hj hji=>Hno.out j hj hji) (by simpa using HRk.out),Qi.out]
            rw [List.take_add_one,hg];rfl
           have HQm:=AA hqm;have htl:(q.take rk).length=rk:=by rw [Iw];omega
           have UE:=AA htl;clear hqm htl;obtain ⟨bd,od,hAd,hld,c0⟩:=(arv.out.mono (bT Hb4.out Hb5.out)).int hil;subst hAd;rw [Qi.out] at c0;have Fh:=AA (Ho4.out.keep Hb5.out);have Tc:=Hb5.out.size;go_wp2_with
            (at_builtin
             refine FK _ rfl (.tmp 114) (.tmp 119) _ rfl (base:=ws.heap.size) JW Iz JR rfl (Own.alloc Fh.out _) rfl (l2:=[di]) (Sl.lit (n:=1) (AO.made rfl _ _) rfl (DN AB)) (by have:=UE.out;simp only [IU,LX];omega) (by have:=UE.out;simp only [IU,LX];omega) DT ?_;intro v9 w9 Jt Je Vp;rw [<- HQm.out] at Jt;obtain ⟨A0,c9',xI,-⟩:=Own.shape Jt;rw [show (q.take (rk+1)).length=rk+1 by rw [HQm.out,ER,UE.out];rfl] at xI;subst xI;have arx:=AA Jt;have arz:=AA (bG (bA (bT Hb4.out Hb5.out) _) Je (fun g hg=>(Fh.out.lt g hg).1));clear Jt Je Vp)
           exact ⟨⟨rk+1,AB,⟨A0,c9',rfl⟩,arx.out,arz.out⟩,by simp only [lenV];omega⟩
          ·have hne:((rk:Int) == (m:Int))=false:=by simpa using (show ¬ (rk:Int)=m by omega)
           have hsucc:∀ j (hj:j<D.length),j<i'+1->(Xa lt D D[j] == m)=false:=fun j hj hji=>by
            by_cases e:j=i'
            · subst e;rw [HRk.out];simpa using hrm
            · exact Hno.out j hj AB
           have QZ:=AA hsucc;clear hsucc hrm;by_cases hlast:i'+1=D.length
           · exact absurd (fun j hj=>QZ.out j hj AB) aiS.out
           have hl2:((i':Int) == (D.length:Int)-1)=false:=by simpa using (show ¬ (i':Int)=(D.length:Int)-1 by omega)
           go_wp2;go_roundw
           case rel => exact ⟨i'+1,AB,BJ,rfl,Ho4.out.keep Hb5.out,bT Hb4.out Hb5.out,QZ.out⟩
           case measure => exact BL
         obtain ⟨b5,o5,WT,kH,e0,e1⟩:=(aiR.out.mono (bT Hb4.out Hb5.out)).pt (k:=j) (by rw [Cj];exact hjl);subst WT;obtain ⟨b6,o6,he6,-,f0,f1⟩:=(aiR.out.mono (bT Hb4.out Hb5.out)).pt (k:=i') (by rw [Cj];exact hil);simp only [JM,Addr.mk.injEq,and_true] at he6;obtain ⟨rfl,rfl⟩:=he6;rw [Gp] at e0 e1 f0 f1;have hl:YV nd.pt (Lp p D[j]) (Lp p D[i'])=lt D[j] di:=by rw [aBk.out D[j] (BO hjl) D[i'] (BO hil),Qi.out]
         have RD:=AA (Za.out (Lp p D[j]) (Lp p D[i']));rw [hl] at RD;have hst:(D.take (j+1)).countP (fun y=>lt y di)=(D.take j).countP (fun y=>lt y di)+(if lt D[j] di=true then 1 else 0):=by
          rw [F7 hjl,abN,List.countP_singleton]
         have hcl:(D.take j).countP (fun y=>lt y di)<=j:=EH List.countP_le_length (aao _ _);have hdl:=WA.out;have DU:=AA hst;clear hst hl;generalize (D.take j).countP (fun y=>lt y di)=ct at *;generalize lt D[j] di=z at *;generalize Lp p D[j]=pj at *;generalize Lp p D[i']=pi at *;have kj:(j:Int)<D.length:=by omega
         have X5:=arw.out.keep (bT Hb4.out Hb5.out);obtain ⟨CJ,CO,CS,F8,-,-,-⟩:=X5.Az;go_upto_region 26 with fail;refine DJ (wr) (.run 10 0 0 (.call 10 2047 (.done))) fun CU QR Ae Ah hS=>?_
         iterate 10 refine Aj ?_
         refine GL (RD.out _) ?_;clear hS;intro CX CV hS;refine DF ?_;clear hS Ah Ae;intro hB;clear X5 CJ CO CS F8 e0 e1 f0 f1 kj kH
         cases z
         ·go_wp2;go_roundw
          case rel => exact ⟨j+1,AB,BJ,by rw [DU.out];rfl,bT Hb5.out hB⟩
          case measure => exact BL
         ·go_wp2;go_roundw
          case rel => exact ⟨j+1,AB,BJ,by rw [DU.out,AZ rfl];go_num,bT Hb5.out hB⟩
          case measure => exact BL
     obtain ⟨bd,od,rfl,hld,-⟩:=aeO.out.int hlt;obtain ⟨b_,o_,Nq,-,c0⟩:=(aeO.out.mono Hb2.out).int hlt;simp only [JM,Addr.mk.injEq,and_true] at Nq;obtain ⟨rfl,rfl⟩:=Nq;have hwo:w.heap.size<wo.heap.size:=aiQ.out.lt;have Wn:=AA (HSc.out D[k] (kF.out _ (BO hlt)));have hst:(D.take (k+1)).map (Lp p)=(D.take k).map (Lp p)++[Lp p D[k]]:=by rw [F7 hlt,GI];rfl
     have DU:=AA hst;have JQ:=AA (show ((D.take k).map (Lp p)).length<=512 by have:=WA.out;rw [Cj,Iw];omega);clear hst;generalize (D.take k).map (Lp p)=L at *;generalize Lp p D[k]=p2 at *;generalize D[k]=d at *;have k4:(k:Int)<D.length:=by omega
     obtain ⟨s,rfl⟩:=BR u9;go_upto_region 16 with fail;refine Rz (wo.heap.size) (wr) (.run 6 0 0 (.call 6 127 (.call 7 255 (.call 8 511 (.take 9 1023 (.done)))))) fun CU QR Ae Ah hS=>?_
     iterate 6 refine Aj ?_
     refine Bj ?_;clear hS;intro K hK AQ;go_simp;refine (Wn.out _ (bT (bT Bo.out Hb2.out) (bD (bR wr)))).mono ?_;rintro e wy ⟨rfl,hby⟩;have hS:GK wo.heap.size wr wy:=Below.trans AQ.out (hby.mono (by have:=(Below.size AQ.out);omega));have hzy:=hby.size;simp only [World.size_drew] at hzy;have aBl:=AA (show AU wr wy from bT (bD (bR wr)) hby);clear hby;clear AQ;refine hK.out _ _ hS (fun _=>?_);clear hK K
     try simp only [pu]
     refine Bj ?_;clear hS;intro K hK AQ;go_simp;refine hK.out _ _ (IB AB AQ.out _) (fun hS=>?_);clear hK K AQ
     try simp only [pu]
     refine Bj ?_;clear hS;intro K hK AQ;refine JV (.tmp 71) (.tmp 78) _ rfl (base:=wo.heap.size) (l:=L) (l2:=[p2]) L6 KJ L8 rfl (Own.alloc (ZY.out.keep aBl.out) _) rfl (Dv.one (x:=p2) (AO.made rfl _ _)) sV sV DT ?_;intro v9 wn nY hgn aeP;have aeQ:=AA nY;have hS:GK wo.heap.size wr wn:=Below.grown (Below.alloc (aBl.out.mono AB) AB _) hgn DT (fun g hg=>(ZY.out.lt g hg).1);clear nY hgn aeP;clear AQ;refine hK.out _ _ hS (fun _=>?_);clear hK K
     try simp only [pu]
     refine Aj ?_;refine LY ?_;clear hS Ah Ae;intro hB;go_wp2;go_roundw
     case rel => exact ⟨k+1,AB,BJ,by rw [DU.out];exact aeQ.out,Below.trans Hb2.out hB⟩
     case measure => exact BL
   have hst:Dl (p.AP.take (k+1)) nd.id=Dl (p.AP.take k) nd.id++((if al[k].1.fr=nd.id then [al[k].1.id] else [])++(if al[k].1.dst=nd.id then [-al[k].1.id] else [])):=by
    have h1:k<p.AP.length:=by rw [Kv.out,Cj];exact hlt
    have h2:=aij p.AP nd.id k h1;have h3:p.AP[k]=al[k].1:=by simp only [Kv.out,Gp]
    rw [h3] at h2;exact h2
   have hid:=fJ.out k hlt;have hlen:=yO (p.AP.take k) nd.id;have hlen2:(p.AP.take k).length<=k:=aao _ _;obtain ⟨b,o,rfl,hlb,c0,c1,c2,-⟩:=(HR.out.mono (bT B5.out Hb.out)).ar hlt;have DU:=AA hst;have JQ:=AA (show (Dl (p.AP.take k) nd.id).length<=512 by omega);obtain ⟨D1,hD1⟩:=BN (Dl (p.AP.take (k+1)) nd.id);rw [hD1] at DU;have HD1:=AA hD1;clear hst hlen hlen2 hD1;generalize Dl (p.AP.take k) nd.id=D0 at *;obtain ⟨a,ha⟩:=BN (al[k].1);rw [ha] at hid DU c0 c1 c2;have kJ:=AA ha;clear ha;have hneg:IntKind.i64.wrap (-a.id)=-a.id:=D6 _ AB;have k4:(k:Int)<al.length:=by omega
   clear hid;obtain ⟨s,rfl⟩:=BR u7
   cases hb1:(a.fr == nd.id)
   case false =>
    cases hb2:(a.dst == nd.id)
    case false =>
     have hD:D1=D0:=by rw [DU.out,AX (by simpa using hb1),AX iG];simp
     go_wp2;go_roundw
     case rel => exact ⟨k+1,AB,BJ,by rw [HD1.out.trans hD];exact Ho.out,Hb.out⟩
     case measure => exact BL
    case true =>
     have hD:D1=D0++[-a.id]:=by rw [DU.out,AX (by simpa using hb1),AZ iG];simp
     go_wp2_with
      (at_builtin
       refine FK _ rfl (.tmp 55) (.tmp 63) _ rfl (base:=W5.heap.size) (l:=D0) JW Iz JR rfl (Own.alloc Ho.out _) rfl (l2:=[-a.id]) (Sl.lit (n:=1) (AO.made rfl _ _) rfl (DN AB)) iE iE DT ?_;intro v9 w9 Jt Je Vp;have xH:=AA Jt;have Pq:=AA (Below.grown (Below.alloc Hb.out AB _) Je DT (fun g hg=>(Ho.out.lt g hg).1));have hz9:=Pq.out.size;replace X2:=CG.out.keep Pq.out;have HC9:=AA (HR.out.mono (bT B5.out Pq.out));obtain ⟨b_,o_,Nq,-,d0,d1,d2,-⟩:=HC9.out.ar hlt;simp only [JM,Addr.mk.injEq,and_true] at Nq;obtain ⟨rfl,rfl⟩:=Nq;rw [kJ.out] at d0 d1 d2;clear Jt Je Vp BU BX Bg CB
       try clear BU BX Bg CB
       obtain ⟨BU,BX,Bg,CB,-,-,-⟩:=X2.Az
       )
     go_roundw
     case rel => exact ⟨k+1,AB,BJ,by rw [HD1.out.trans hD];exact xH.out,Pq.out⟩
     case measure => exact BL
   case true =>
    cases hb2:(a.dst == nd.id)
    case false =>
     have hD:D1=D0++[a.id]:=by rw [DU.out,AZ (by simpa using hb1),AX iG];simp
     go_wp2_with
      (at_builtin
       refine FK _ rfl (.tmp 38) (.tmp 45) _ rfl (base:=W5.heap.size) (l:=D0) JW Iz JR rfl (Own.alloc Ho.out _) rfl (l2:=[a.id]) (Sl.lit (n:=1) (AO.made rfl _ _) rfl (DN AB)) iE iE DT ?_;intro v8 w8 Qa Lr kK;have OT:=AA Qa;have Ls:=AA (Below.grown (Below.alloc Hb.out AB _) Lr DT (fun g hg=>(Ho.out.lt g hg).1));have hz8:=Ls.out.size;replace X2:=CG.out.keep Ls.out;have HC8:=AA (HR.out.mono (bT B5.out Ls.out));obtain ⟨b_,o_,Nq,-,d0,d1,d2,-⟩:=HC8.out.ar hlt;simp only [JM,Addr.mk.injEq,and_true] at Nq;obtain ⟨rfl,rfl⟩:=Nq;rw [kJ.out] at d0 d1 d2;clear Qa Lr kK BU BX Bg CB
       try clear BU BX Bg CB
       obtain ⟨BU,BX,Bg,CB,-,-,-⟩:=X2.Az
       )
     go_roundw
     case rel => exact ⟨k+1,AB,BJ,by rw [HD1.out.trans hD];exact OT.out,Ls.out⟩
     case measure => exact BL
    case true =>
     have hD:D1=D0++[a.id]++[-a.id]:=by rw [DU.out,AZ (by simpa using hb1),AZ iG];simp
     go_upto_region 10 with
      (at_builtin
       refine FK _ rfl (.tmp 38) (.tmp 45) _ rfl (base:=W5.heap.size) (l:=D0) JW Iz JR rfl (Own.alloc Ho.out _) rfl (l2:=[a.id]) (Sl.lit (n:=1) (AO.made rfl _ _) rfl (DN AB)) iE iE DT ?_;intro v8 w8 Qa Lr kK;have OT:=AA Qa;have Ls:=AA (Below.grown (Below.alloc Hb.out AB _) Lr DT (fun g hg=>(Ho.out.lt g hg).1));have hz8:=Ls.out.size;replace X2:=CG.out.keep Ls.out;have HC8:=AA (HR.out.mono (bT B5.out Ls.out));obtain ⟨b_,o_,Nq,-,d0,d1,d2,-⟩:=HC8.out.ar hlt;simp only [JM,Addr.mk.injEq,and_true] at Nq;obtain ⟨rfl,rfl⟩:=Nq;rw [kJ.out] at d0 d1 d2;clear Qa Lr kK BU BX Bg CB
       try clear BU BX Bg CB
       obtain ⟨BU,BX,Bg,CB,-,-,-⟩:=X2.Az
       )
     have az2:=OT.out;go_wp2_with
      (at_builtin
       refine FK _ rfl (.tmp 55) (.tmp 63) _ rfl (base:=W5.heap.size) (l:=D0++[a.id]) JW Iz JR rfl (Own.alloc OT.out _) rfl (l2:=[-a.id]) (Sl.lit (n:=1) (AO.made rfl _ _) rfl (DN AB)) iE iE DT ?_;intro v9 w9 Jt Je Vp;have xH:=AA Jt;have Pq:=AA (Below.grown (Below.alloc Ls.out AB _) Je DT (fun g hg=>(OT.out.lt g hg).1));have hz9:=Pq.out.size;replace X2:=CG.out.keep Pq.out;have HC9:=AA (HR.out.mono (bT B5.out Pq.out));obtain ⟨b_,o_,Nq,-,d0,d1,d2,-⟩:=HC9.out.ar hlt;simp only [JM,Addr.mk.injEq,and_true] at Nq;obtain ⟨rfl,rfl⟩:=Nq;rw [kJ.out] at d0 d1 d2;clear Jt Je Vp BU BX Bg CB
       try clear BU BX Bg CB
       obtain ⟨BU,BX,Bg,CB,-,-,-⟩:=X2.Az
       )
     go_roundw
     case rel => exact ⟨k+1,AB,BJ,by rw [HD1.out.trans hD];exact xH.out,Pq.out⟩
     case measure => exact BL
def as1 (w:World) (l:List (Int×Int)) (e:Ending) (w':World):Prop :=
 ∃ A c A' c',e=.returned (.tuple #[.slice A l.length c,.slice A' l.length c'])/\AU w w'/\Own w' w.heap.size 3 1 DR (.slice A l.length c) (l.map (·.1))/\Own w' w.heap.size 3 1 DR (.slice A' l.length c') (l.map (·.2))
def IL (u v:Value):Prop:=∀ g,u.ownBlock=some g->v.ownBlock≠some g
theorem as2 (v:Value) (p:Pl) (w:World) (h:Ci w v p) (hv:Valid p) :
  Calls Tryz.prog 192 #[v] w (as1 w (Np p p.nodes.length)):=by
 have Jw:=AA (fun n W (hW:AU w W)=>arq v p n W (h.mono hW) hv);obtain ⟨_,_,_,al,rfl,hpa,⟨An,cn,rfl,hn1,hn2,hR⟩,⟨⟨Aa,ca,rfl,-⟩,-⟩,⟨Af,cf,rfl,-⟩⟩:=h;unfold maxLen at hn2;have HR:=AA hR;have HV:=AA hv;have hnl:=hv.jU;generalize al.length=na at *;generalize p.faces.length=nf at *;obtain ⟨nn,hnn⟩:=BN p.nodes.length;rw [hnn] at hn1 hnl Jw ⊢;have aBm:=AA hnn;obtain ⟨q,hq⟩:=BN (Np p nn);rw [hq];have Hq:=AA hq;clear hpa hR hv hnn hq;go_enter Tryz.func192,Tryz.ntmps192;go_upto_region 1 with fail;obtain ⟨W1,hW⟩:∃ W:World,W=w.alloc (.cells #[.slice An nn cn,.slice Aa na ca,.slice Af nf cf] 26):=⟨_,rfl⟩;have B1:=AA (show AU w W1 by rw [hW];exact bA (bR w) _);have X1:AO W1 w.heap.size 26 #[.slice An nn cn,.slice Aa na ca,.slice Af nf cf]:=by rw [hW];exact AO.made rfl _ _
 rw [<- hW];clear hW;have Dt:=AA X1;obtain ⟨BF,BG,BH,BI,-,-,-⟩:=X1.Az;go_upto_block 0 with fail;go_wp2_with fail;go_loopw [4,5,6] (fun s t i wr=>∃ k:Nat,k<=nn/\i=.int .i64 k/\(∃ A c,s=.slice A (Np p k).length c)/\(∃ A c,t=.slice A (Np p k).length c)/\Own wr W1.heap.size 3 1 DR s ((Np p k).map (·.1))/\Own wr W1.heap.size 3 1 DR t ((Np p k).map (·.2))/\IL s t/\AU W1 wr) (fun _ _ i _=>nn-(intOf i).toNat)
 case atStart => exact ⟨0,Bv _,rfl,⟨none,0,rfl⟩,⟨none,0,rfl⟩,Own.nil _ _ _ _ _,Own.nil _ _ _ _ _,(fun g hg=>by simp [Value.ownBlock] at hg),bR W1⟩
 case round =>
  obtain ⟨k,hk,rfl,⟨A,c,rfl⟩,⟨A',c',rfl⟩,own,own',sep,hb⟩:=hrel;obtain ⟨wo,rfl⟩:=BR wr;have hlk:=aix HV.out k;rw [<- aiN] at hlk;have HO:=AA own;have xJ:=AA own';have LD:=AA sep;have Hb:=AA hb;have aCl:=hb.size;have X2:=Dt.out.keep hb;clear own own' sep hb X1 BF BG BH BI;by_cases hlt:k<nn
  ·have hkn:k<p.nodes.length:=by have:=aBm.out;omega
   obtain ⟨b,o,rfl,hlb,c0,c1,c2⟩:=(HR.out.mono (bT B1.out Hb.out)).nd hkn;have xK:=asT p k hkn;have Uw:=HV.out.aeJ p.nodes[k].id;have MQ:=AA (fun d (hd:d∈DL p p.nodes[k].id)=>HV.out.Qh (HV.out.aeN (BO hkn) hd).2);have Ou:=AA (Jw.out p.nodes[k].id);generalize p.nodes[k]=nd at *;have Zb:=AA xK;clear xK;obtain ⟨L,hL⟩:=BN (Np p k);obtain ⟨Q,hQ⟩:=BN (DL p nd.id);rw [hL] at hlk Zb HO xJ LD ⊢;rw [hQ] at Zb Uw Ou MQ;clear hL hQ;obtain ⟨BU,BX,Bg,CB,-,-,-⟩:=X2.Az;go_upto_region 5 with fail;refine DJ (wo) (.run 7 0 0 (.call 7 255 (.take 8 511 (.done)))) fun CU QR Ae Ah hS=>?_
   iterate 7 refine Aj ?_
   refine Bj ?_;clear hS;intro K hK AQ;go_simp;refine (Ou.out _ (bT B1.out (bT Hb.out (bD (bR wo))))).mono ?_;rintro e CX ⟨Aq,cq,rfl,CV,hoq⟩;have hS:Since wo CX:=bT (w:=wo) AQ.out CV;clear AQ;refine hK.out _ _ hS (fun _=>?_);clear hK K
   try simp only [pu]
   refine Aj ?_;refine DF ?_;clear hS Ah Ae;intro hB;obtain ⟨W5,IY⟩:∃ W:World,W=CX:=⟨_,rfl⟩;rw [<- IY] at hB hoq ⊢;have Cm:=AA hB;have nZ:=AA (Own.ES hoq (b':=wo.heap.size) Ak);have qQ:=AA (show IL (.slice A L.length c) (.slice Aq Q.length cq) from fun g hg e=>by
    have h1:=(HO.out.lt g hg).2;have h2:=(nZ.out.lt g e).1;omega)
   have as3:=AA (show IL (.slice A' L.length c') (.slice Aq Q.length cq) from fun g hg e=>by
    have h1:=(xJ.out.lt g hg).2;have h2:=(nZ.out.lt g e).1;omega)
   have Tc:=Cm.out.size;clear hB hoq CV IY c0 c1 c2 hlb X2 BU BX Bg CB Ou;go_upto_block 2 with fail;go_wp2_with fail;go_loopw [4,5,8] (fun s t i wr=>∃ j:Nat,j<=Q.length/\i=.int .i64 j/\(∃ A c,s=.slice A (L.length+j) c)/\(∃ A c,t=.slice A (L.length+j) c)/\Own wr W1.heap.size 3 1 DR s ((L++(Nl Q).take j).map (·.1))/\Own wr W1.heap.size 3 1 DR t ((L++(Nl Q).take j).map (·.2))/\IL s t/\IL s (.slice Aq Q.length cq)/\IL t (.slice Aq Q.length cq)/\Own wr wo.heap.size 3 1 DR (.slice Aq Q.length cq) Q/\AU W1 wr/\W5.heap.size<=wr.heap.size) (fun _ _ i _=>Q.length-(intOf i).toNat)
   case atStart => exact ⟨0,Bv _,rfl,⟨A,c,rfl⟩,⟨A',c',rfl⟩,by rw [O8,JA];exact HO.out.keep Cm.out,by rw [O8,JA];exact xJ.out.keep Cm.out,LD.out,qQ.out,as3.out,nZ.out,bT Hb.out Cm.out,Dc _⟩
   case round =>
    obtain ⟨j,hj,rfl,⟨A3,c3,rfl⟩,⟨A4,c4,rfl⟩,xM,own4,s34,s3q,s4q,oq,hb3,hz3⟩:=hrel;have F5:=AA xM;have JH:=AA own4;have H34:=AA s34;have H3q:=AA s3q;have H4q:=AA s4q;have HQ:=AA oq;have HB3:=AA hb3;clear xM own4 s34 s3q s4q oq hb3;by_cases hlj:j<Q.length
    ·have hm:(j+1) % Q.length<Q.length:=UC _ AB;have htk:=asU Q j hlj hm;have f1:=(HQ.out.row_in).int hlj;have f2:=(HQ.out.row_in).int hm;obtain ⟨bq,kL,rfl,kM,e1⟩:=f1;obtain ⟨b_,o_,Nq,-,e2⟩:=f2;simp only [JM,Addr.mk.injEq,and_true] at Nq;obtain ⟨rfl,rfl⟩:=Nq;have htm:Int.tmod ((j:Int)+1) (Q.length:Int)=((j+1) % Q.length:Nat):=by
      rw [Int.tmod_eq_emod_of_nonneg AB,show (j:Int)+1=((j+1:Nat):Int) by omega];exact (Int.natCast_emod _ _).symm
     have hbd:-1073741824<=Q[(j+1) % Q.length]/\Q[(j+1) % Q.length]<=1073741824:=MQ.out _ (BO hm);have FI:=AA htk;obtain ⟨f,hf⟩:=BN (Q[j]);rw [hf] at FI;have HF:=AA hf;clear htk hf e1;generalize Q[(j+1) % Q.length]=d at *;generalize (j+1) % Q.length=m at *;have HLn:=AA (show (L++(Nl Q).take (j+1)).length=L.length+(j+1) by rw [ER,Iw,nV];omega);have HLj:=AA (show (L++(Nl Q).take j).length=L.length+j by rw [ER,Iw,nV];omega);have k1:IntKind.i64.wrap (-d)=-d:=D6 _ AB;have g1:IntKind.i64.wrap ((j:Int)+1)=(j:Int)+1:=D6 _ AB;have g3:¬ (Q.length:Int)=0:=by omega
     have g11:¬ Q=[]:=fun e=>by have:=congrArg List.length e;simp only [LX] at this;omega
     have g4:IntKind.i64.wrap (m:Int)=m:=D6 _ AB;have g5:(m:Int)<Q.length:=by omega
     have g6:0<=(m:Int):=by omega
     go_upto_region 10 with
      (at_builtin
       refine FK _ rfl (.tmp 30) (.tmp 40) _ rfl (base:=W1.heap.size) JW Iz JR rfl (Own.alloc F5.out _) rfl (l2:=[-d]) (Sl.lit (n:=1) (AO.made rfl _ _) rfl (DN AB)) abJ abJ (by have:=HB3.out.size;simp;omega) ?_;intro v5 w5 Di hg5 Gi;rw [show (L++(Nl Q).take j).map (·.1)++[-d]=(L++(Nl Q).take (j+1)).map (·.1) by rw [FI.out];simp only [GI,FM,QD,KW]] at Di;obtain ⟨A5,c5,hv5,-⟩:=Own.Ig Di;rw [Cj,HLn.out] at hv5;subst hv5;have Fh:=AA Di;have aeR:=AA (Own.grown (Own.alloc HQ.out _) hg5 (fun g hg e=>H3q.out g e.symm hg));have aiU:=AA (Own.grown (Own.alloc JH.out _) hg5 (fun g hg e=>H34.out g e.symm hg));have adk:∀ g,(Value.slice A5 (L.length+(j+1)) c5).ownBlock=some g->(Value.slice A3 (L.length+j) c3).ownBlock=some g\/g=wr.heap.size+1:=fun g hg=>by
        rcases Gi with h | h
        · exact .inl (h.symm.trans hg)
        · rw [hg] at h;have:=Dq h;simp at this;exact .inr this
       have H54:=AA (show IL (.slice A5 (L.length+(j+1)) c5) (.slice A4 (L.length+j) c4) from fun g hg e=>by
        rcases adk g hg with h | h
        · exact H34.out g h e
        · have:=(JH.out.lt g e).2;omega)
       have H5q:=AA (show IL (.slice A5 (L.length+(j+1)) c5) (.slice (some ⟨bq,kL,none⟩) Q.length cq) from fun g hg e=>by
        rcases adk g hg with h | h
        · exact H3q.out g h e
        · have:=(HQ.out.lt g e).2;omega)
       have aiV:=AA (bG (bA HB3.out _) hg5 (fun g hg=>(F5.out.lt g hg).1));have az3:wr.heap.size<w5.heap.size:=by have:=hg5.size;simp at this;omega
       clear Di hg5 Gi adk
       )
     clear e2 htm g1 g3 g4 g5 g6 g11 k1 hbd;obtain ⟨b_,o_,Nq,kH,e1⟩:=(aeR.out.row_in).int hlj;simp only [JM,Addr.mk.injEq,and_true] at Nq;obtain ⟨rfl,rfl⟩:=Nq;rw [HF.out] at e1;go_upto_region 8 with
      (at_builtin
       refine FK _ rfl (.tmp 42) (.tmp 47) _ rfl (base:=W1.heap.size) JW Iz JR rfl (Own.alloc aiU.out _) rfl (l2:=[f]) (Sl.lit (n:=1) (AO.made rfl _ _) rfl (DN AB)) abJ abJ (by have:=aiV.out.size;simp;omega) ?_;intro v6 w6 Us Ir xO;rw [show (L++(Nl Q).take j).map (·.2)++[f]=(L++(Nl Q).take (j+1)).map (·.2) by rw [FI.out];simp only [GI,FM,QD,KW]] at Us;obtain ⟨A6,c6,hv6,-⟩:=Own.Ig Us;rw [Cj,HLn.out] at hv6;subst hv6;have RH:=AA Us;have HQ6:=AA (Own.grown (Own.alloc aeR.out _) Ir (fun g hg e=>H4q.out g e.symm hg));have as4:=AA (Own.grown (Own.alloc Fh.out _) Ir (fun g hg e=>H54.out g hg e.symm));have kN:∀ g,(Value.slice A6 (L.length+(j+1)) c6).ownBlock=some g->(Value.slice A4 (L.length+j) c4).ownBlock=some g\/g=w5.heap.size+1:=fun g hg=>by
        rcases xO with h | h
        · exact .inl (h.symm.trans hg)
        · rw [hg] at h;have:=Dq h;simp at this;exact .inr this
       have H56:=AA (show IL (.slice A5 (L.length+(j+1)) c5) (.slice A6 (L.length+(j+1)) c6) from fun g hg e=>by
        rcases kN g e with h | h
        · exact H54.out g hg h
        · have:=(Fh.out.lt g hg).2;omega)
       have H6q:=AA (show IL (.slice A6 (L.length+(j+1)) c6) (.slice (some ⟨bq,kL,none⟩) Q.length cq) from fun g hg e=>by
        rcases kN g hg with h | h
        · exact H4q.out g h e
        · have:=(aeR.out.lt g e).2;omega)
       have GU:=AA (bG (bA aiV.out _) Ir (fun g hg=>(aiU.out.lt g hg).1));have oK:w5.heap.size<w6.heap.size:=by have:=Ir.size;simp at this;omega
       clear Us Ir xO kN
       )
     clear e1 kH;go_wp2;go_roundw
     case rel => exact ⟨j+1,AB,BJ,⟨A5,c5,rfl⟩,⟨A6,c6,rfl⟩,as4.out,RH.out,H56.out,H5q.out,H6q.out,HQ6.out,GU.out,AB⟩
     case measure => exact BL
    ·obtain rfl:j=Q.length:=by omega
     have ho3:=F5.out;have Jk:=JH.out;rw [asV] at ho3 Jk;have Za:=AA (show (Np p (k+1)).length=L.length+Q.length by rw [Zb.out,ER,nV]);have as5:=AA ho3;have arO:=AA Jk;clear ho3 Jk;go_wp2;go_roundw
     case rel => exact ⟨k+1,AB,BJ,⟨A3,c3,by rw [Za.out]⟩,⟨A4,c4,by rw [Za.out]⟩,by rw [Zb.out];exact as5.out,by rw [Zb.out];exact arO.out,H34.out,HB3.out⟩
     case measure => exact BL
  ·obtain rfl:k=nn:=by omega
   rw [Hq.out] at HO xJ ⊢
   try clear BU BX Bg CB
   obtain ⟨BU,BX,Bg,CB,-,-,-⟩:=X2.Az;go_wp2_with fail;go_ret2;exact ⟨A,c,A',c',rfl,bT B1.out Hb.out,HO.out.ES B1.out.size,xJ.out.ES B1.out.size⟩
structure AD where
 tw:Int
 out:List Int
 ov:SV
 inn:List (List Int×SV)
 iv:SV
 DC:List Int
 av:SV
def E8 (x:AD):List Value:=[.int .i64 x.tw,BK x.ov,BK x.iv,BK x.av]
theorem RN (x:AD):(E8 x).length=4:=rfl
theorem xP (x:AD):∀ u∈E8 x,u.oneCell'=true:=by simp [E8,BK,Value.oneCell']
theorem arP:Elem Tryz.prog 76 82 4 80:=Elem.PU (z:=.agg #[.int .i64 0,.slice none 0 0,.slice none 0 0,.slice none 0 0]) I8 I8 rfl AB
structure GY (e:TypeId) (w0 w:World) (B:Nat) (v:Value) (L:List AD):Prop where
 own:Own w B e 4 E8 v L
 out:∀ x∈L,Ints w0 (BK x.ov) x.out
 inn:∀ x∈L,Own w B 24 1 Ia (BK x.iv) x.inn
 Ja:∀ x∈L,∀ c∈x.inn,Ints w0 (BK c.2) c.1
 DC:∀ x∈L,Own w B 3 1 DR (BK x.av) x.DC
 fM:L.Pairwise (fun x y=>IL (BK x.iv) (BK y.iv))
 fO:L.Pairwise (fun x y=>IL (BK x.av) (BK y.av))
theorem GY.keep {e:TypeId} {w0 w w':World} {B:Nat} {v:Value} {L:List AD} (h:GY e w0 w B v L) (hb:AU w w'):GY e w0 w' B v L :=
 ⟨h.own.keep hb,h.out,fun x hx=>(h.inn x hx).keep hb,h.Ja,fun x hx=>(h.DC x hx).keep hb,h.fM,h.fO⟩
theorem adl (p:Pl) {X:List Int} {k:Nat} (hk:k<X.length):DV p (X.take (k+1))=DV p (X.take k)++Es (G5 p X[k]):=by
 unfold DV;rw [F7 hk,LC];simp
theorem aBn {P:List Pt} {m:Nat} (hm:m+1<P.length):(Es P).take (m+1)=(Es P).take m++[(P.getD m AY,P.getD (m+1) AY)]:=by
 have h:m<(Es P).length:=by unfold Es;rw [Cj,PO];omega
 rw [F7 h];simp [Es]
theorem arQ {σ:Type} (w:World) (gm:Nat) (p:Pl) (f:Int->SV) (hpm:Qe w gm p f) (hv:Valid p) (vc:Value) (X:List Int) (hX:Ints w vc X) (hd:∀ d∈X,d∈Bh p) (g1 g2 g3:Nat)
  (Inv:σ->World->Prop) (upd:σ->Pt×Pt->σ) (hI:∀ s W,Inv s W->AU w W) (hD:∀ s W,Inv s W->Inv s W.drew)
  (hst:∀ s W q,q∈DV p X->Inv s W->Calls Tryz.prog 199 #[BA q.1,BA q.2,.pointer (some ⟨g1,0,none⟩),.pointer (some ⟨g2,0,none⟩),.pointer (some ⟨g3,0,none⟩)] W fun e W'=>e=.returned (.tuple #[])/\Inv (upd s q) W'/\Below w.heap.size W W')
  (s:σ) (W:World) (h0:Inv s W) :
  Calls Tryz.prog 79 #[.map (some gm),vc,.func (.func 199) #[] #[.pointer (some ⟨g1,0,none⟩),.pointer (some ⟨g2,0,none⟩),.pointer (some ⟨g3,0,none⟩)]] W fun e W'=>e=.returned (.tuple #[])/\Inv ((DV p X).foldl upd s) W'/\Below w.heap.size W W':=by
 obtain ⟨Ac,cc,rfl,hc1,hc2,Jb⟩:=hX;unfold maxLen at hc2;have Pv:=AA Jb;have KA:=AA hpm;have HI:=AA hI;have DU:=AA hst;have Ux:=AA hD;have Zc:=AA hd;have HV:=AA hv;have H0:=AA h0;have FI:=AA (fun k (hk:k<X.length)=>adl p hk);obtain ⟨R,hR⟩:=BN ((DV p X).foldl upd s);rw [hR];have RP:=AA hR;have Qg:=AA (fun k (hk:k<X.length) q (hq:q∈Es (G5 p X[k]))=>show q∈DV p X from Gf.2 ⟨_,BO hk,hq⟩);clear Jb hpm hI hst hD hd hv h0 hR;go_enter Tryz.func79,Tryz.ntmps79;go_wp2_with fail;go_loopw [12] (fun i wr=>∃ k:Nat,k<=X.length/\i=.int .i64 k/\Inv ((DV p (X.take k)).foldl upd s) wr/\Below w.heap.size W wr) (fun i _=>X.length-(intOf i).toNat)
 case atStart => exact ⟨0,Bv _,rfl,H0.out,Below.refl _ _⟩
 case round =>
  obtain ⟨k,hk,rfl,hinv,hbw⟩:=hrel;obtain ⟨wo,rfl⟩:=BR wr;have Jo:=AA hinv;have Ep:=AA hbw;have Hb:=AA (HI.out _ _ hinv);clear hinv hbw;by_cases hlt:k<X.length
  ·obtain ⟨b,o,rfl,hlb,c0⟩:=(Pv.out.mono Hb.out).int hlt;have hdd:=Zc.out _ (BO hlt);have htk:=FI.out k hlt;have hmem:=Qg.out k hlt;generalize X[k]=d at *;obtain ⟨a,ha,hor,hpt⟩:=HV.out.TY hdd;have hid:=HV.out.Gx ha;rw [hpt] at htk hmem;obtain ⟨n,hmp⟩:=(KA.out.keep Hb.out).mp;have hlk:=hmp.look a.id (N8 AB AB);have O6:=KA.out.rd a ha;have hlen:2<=(AV p a).length:=by have:=Ey p a;omega
   have xQ:=AA htk;have Qb:=AA hmem;have k1:IntKind.i64.wrap (-d)=-d:=D6 _ AB;have km:max d (-d)=a.id:=by omega
   have Rk:=HV.out.Tv ha;have hpl:(AV p a).length<=66:=by have:=Ey p a;omega
   generalize f a.id=x at *;obtain ⟨Ap,np,cp⟩:=x;unfold BK at hlk O6;obtain ⟨qR,cp',he,hp1,hp2,TK⟩:=O6;injection he with e1 e2 e3;subst e1 e2 e3;unfold maxLen at hp2;have WC:=AA TK;clear hmp hdd htk hmem hpt hor ha TK Rk;generalize a.id=ai at *;generalize AV p a=P at *;clear hid;obtain ⟨s1,hs1⟩:=BN ((DV p (X.take k)).foldl upd s);rw [hs1] at Jo;have WE:=AA hs1;clear hs1;go_upto_block 2 with fail;go_wp2_with fail;go_loopw [9] (fun i wr=>∃ j:Nat,1<=j/\j<=P.length/\i=.int .i64 j/\Inv (((Es P).take (j-1)).foldl upd s1) wr/\Below w.heap.size wo wr) (fun i _=>P.length-(intOf i).toNat)
   case atStart => exact ⟨1,Dc _,AB,rfl,Jo.out,Below.refl _ _⟩
   case round =>
    obtain ⟨j,hj1,hj2,rfl,hinv,Eo⟩:=hrel;have fP:=AA hinv;have FP:=AA Eo;have Hb2:=AA (HI.out _ _ hinv);clear hinv Eo;by_cases hlj:j<P.length
    ·obtain ⟨m,rfl⟩:∃ m,j=m+1:=⟨j-1,AB⟩;have hmp:m<P.length:=by omega
     have hq:=Qb.out (P.getD m AY,P.getD (m+1) AY) (ED.2 ⟨m,Et.2 AB,rfl⟩);have htk:=aBn hlj;have hst:=DU.out _ wr.drew _ hq (Ux.out _ _ fP.out);rw [show m+1-1=m by omega] at hst;have ea:P.getD m AY=P[m]:=by simp only [Fj,Dh hmp,H9]
     have eb:P.getD (m+1) AY=P[m+1]:=by simp only [Fj,Dh hlj,H9]
     rw [ea,eb] at hst htk;obtain ⟨bp,op,Lm,hlp,e10,e11⟩:=(WC.out).pt hmp;obtain ⟨bp',op',Lu,-,e20,e21⟩:=(WC.out).pt hlj;rw [Lm] at Lu;injection Lu with Lu;injection Lu with x1 x2 _;subst x1 x2;replace e10:=Eh Hb2.out e10;replace e11:=Eh Hb2.out e11;replace e20:=Eh Hb2.out e20;replace e21:=Eh Hb2.out e21;have UE:=AA htk;generalize P[m]=pa at *;generalize P[m+1]=pb at *;unfold BA at hst;simp only at hst;have HC:=AA hst;clear hst htk ea eb hq;subst Lm;have k2:IntKind.i64.wrap ((m:Int)+1-1)=m:=by rw [show (m:Int)+1-1=m by omega];exact D6 _ AB
     have k3:(m:Int)<P.length:=by omega
     have k8:IntKind.i64.wrap (m:Int)=m:=D6 _ AB;have k4:0<=(m:Int):=by omega
     have k5:(m:Int)+1-1=m:=by omega
     have k6:(m:Int)+1<P.length:=by omega
     have k7:0<=(m:Int)+1:=by omega
     rw [show (((m+1:Nat)):Int)=(m:Int)+1 from by omega];go_upto_region 7 with fail;refine Rz (w.heap.size) (wr) (.run 10 0 0 (.call 10 2047 (.done))) fun CU QR Ae Ah hS=>?_
     iterate 10 refine Aj ?_
     refine Bj ?_;clear hS;intro K hK AQ;go_simp;refine HC.out.mono ?_;rintro e w4 ⟨rfl,dU,hb4⟩;have hS:GK w.heap.size wr w4:=Below.trans AQ.out hb4;have abM:=AA dU;clear hb4 dU;clear AQ;refine hK.out _ _ hS (fun _=>?_);clear hK K
     try simp only [pu]
     refine LY ?_;clear hS Ah Ae;intro hB;have xR:=AA (Below.trans FP.out hB);clear hB e10 e11 e20 e21 hlp;go_wp2;go_roundw
     case rel => exact ⟨m+1+1,AB,AB,BJ,afl,xR.out⟩
     case measure => exact BL
    ·obtain rfl:j=P.length:=by omega
     have xU:(Es P).length=P.length-1:=by unfold Es;rw [Cj,PO]
     have hfin:=fP.out;rw [IQ AB,<- WE.out,<- Oi,<- xQ.out] at hfin;have HF:=AA hfin;clear hfin xU;go_wp2;go_roundw
     case rel => exact ⟨k+1,AB,BJ,HF.out,Below.trans Ep.out FP.out⟩
     case measure => exact BL
  ·obtain rfl:k=X.length:=by omega
   have hfin:=Jo.out;rw [I4,RP.out] at hfin;have HF:=AA hfin;clear hfin;go_wp2_with fail;exact bodyPost_end (v:=.tuple #[]) (results_none rfl _ _ _) rfl ⟨rfl,HF.out,Ep.out⟩
