import Derived.Test.YtialfdomhoojiaaGreatJ17
set_option linter.unusedSimpArgs false
set_option linter.unusedVariables false
set_option maxRecDepth 100000
set_option maxHeartbeats 8000000
namespace Go.Proofs.YtialfdomhoojiaaGreat
open Go.RowKit Go.Sort
theorem aoD (v:Value) (p:Pl) (n:Int) (w:World) (h:bQ w v p) (hv:Valid p) :
  Calls Tryz.prog 250 #[v,.int .i64 n] w (VJ w (dJ p n)):=by
 have Rk:=avE (fun W (hW:Below w.heap.size w W)=>adk v p n W (h.mono hW));have HSc:=avE (fun d (hd:-9223372036854775808<d/\d<=9223372036854775807) W (hW:Below w.heap.size w W)=>aoy v p d W (h.mono hW) hv.short hd);obtain ⟨_,_,_,al,rfl,hpa,⟨An,cn,rfl,-⟩,⟨⟨Aa,ca,rfl,hn1,hn2,hR⟩,-⟩,⟨Af,cf,rfl,-⟩⟩:=h;unfold maxLen at hn2;have HR:=avE hR;have HV:=avE hv;have oI:=avE hpa;have hall:al.length<=256:=by
  have hl:=hv.lim;unfold nC at hl;simp only [Bool.or_eq_false_iff,avX] at hl;have h2:=hl.2;rw [hpa,avM] at h2;omega
 have Rq:=avE (show ∀ k (hk:k<al.length),1<=al[k].1.id/\al[k].1.id<=1073741824 from fun k hk=>hv.kC (by rw [hpa];exact awd (avF hk)));generalize hnn:p.nodes.length=nn at *;generalize p.faces.length=nf at *;obtain ⟨q,hq⟩:∃ q,dJ p n=q:=⟨_,rfl⟩;rw [hq];have Hq:=avE hq;clear hpa hR hv hq hnn;go_enter Tryz.func250,Tryz.ntmps250;go_wp2_with fail;refine (Rk.out _ (bA (bR w) _)).mono ?_;rintro e w1 ⟨rfl,hb1⟩;have X2:ah w1 w.heap.size 26 #[.slice An nn cn,.slice Aa al.length ca,.slice Af nf cf]:=(ah.made rfl _ _).keep hb1;have B1:=avE (bT (bA (bR w) _) hb1);clear hb1;unfold Nh Pm
 cases hfn:mP p.nodes n with
 | none =>
  have hf:q=[]:=by rw [<- Hq.out];unfold dJ;rw [hfn]
  subst hf;clear hfn;simp only [Option.getD_none,Option.isSome_none];go_wp2;go_ret;exact ⟨none,0,rfl,bA B1.out _,Own.nil _ _ _ _ _⟩
 | some nd =>
  have hnd:nd∈p.nodes/\nd.id=n:=⟨List.mem_of_find?_eq_some hfn,by have:=List.find?_some hfn;simpa using this⟩;obtain ⟨hnm,rfl⟩:=hnd;have hAr:=HV.out.Vf hnm;rw [Hq.out] at hAr;have pO:=avE hAr;have uT:=avE hnm;clear hfn hAr hnm Hq;simp only [avU,Option.isSome_some];go_upto_region 4 with fail;obtain ⟨W5,hW⟩:∃ W:World,W=w1.alloc (.cells #[.int .i64 nd.id,.int .i64 nd.pt.x,.int .i64 nd.pt.y] 45):=⟨_,rfl⟩;have B5:=avE (show Below w.heap.size w W5 by rw [hW];exact bA B1.out _);have dF:=avE (show ah W5 w1.heap.size 45 #[.int .i64 nd.id,.int .i64 nd.pt.x,.int .i64 nd.pt.y] by rw [hW];exact ah.made rfl _ _);have dh:=avE (show ah W5 w.heap.size 26 #[.slice An nn cn,.slice Aa al.length ca,.slice Af nf cf] by rw [hW];exact X2.alloc _);rw [<- hW];clear hW X2;obtain ⟨g5,hg5⟩:∃ g5,w1.heap.size=g5:=⟨_,rfl⟩;rw [hg5] at dF ⊢;clear hg5 B1;go_wp2_with fail;go_loopw [7,8] (fun s i wr=>∃ k:Nat,k<=al.length/\i=.int .i64 k/\Own wr W5.heap.size 3 1 dw s (eG (p.aj.take k) nd.id)/\Below W5.heap.size W5 wr) (fun _ i _=>al.length-(intOf i).toNat)
  case atStart => exact ⟨0,avK _,rfl,by simpa [eG] using Own.nil W5 W5.heap.size 3 1 dw,bR W5⟩
  case round =>
   obtain ⟨k,hk,rfl,ho,hb⟩:=hrel;have Ho:=avE ho;have Hb:=avE hb;have X2:=dh.out.keep hb;have hzr:=hb.size;clear ho hb;obtain ⟨aG,aI,aJ,aO,-,-,-⟩:=X2.aF;by_cases hlt:k<al.length
   case neg =>
    have hkk:k=al.length:=by omega
    subst hkk;have ho:=Ho.out;rw [show p.aj.take al.length=p.aj from List.take_of_length_le (by rw [oI.out,avM];omega)] at ho;obtain ⟨A7,c7,rfl,h71,h72⟩:=Own.shape ho;unfold maxLen at h72;have Dy:=avE ho;clear ho Ho;go_wp2_with fail;have hol:=Ri p.aj nd.id;rw [show p.aj.length=al.length by rw [oI.out,avM]] at hol;have Le:=avE (show (eG p.aj nd.id).length<=512 by omega);have agN:=avE (HV.out.Qu uT.out);have aoE:=avE (HV.out.aaj (n:=nd.id));have agO:=avE (show ∀ d∈eG p.aj nd.id,oJ p d=fC p d from fun d hd=>HV.out.aox hd);have HDb:=avE (show ∀ d∈eG p.aj nd.id,-9223372036854775808<d/\d<=9223372036854775807 from fun d hd=>by
     obtain ⟨a,ha,e⟩:=wJ.1 hd;have:=HV.out.kC ha
     rcases e with ⟨rfl,-⟩ | ⟨rfl,-⟩<;>omega)
    have aoF:=avE (dF.out.keep Hb.out);have agP:=avE X2;have Bo:=avE (bT B5.out Hb.out);have abe:=avE (show Row wr A7 ((eG p.aj nd.id).flatMap dw) by
     obtain ⟨A',c',he,_,_,hr⟩:=Dy.out.sl;injection he with e1 e2 e3;subst e1;exact hr)
    clear hol X2 aG aI aJ aO hlt Dy;generalize eG p.aj nd.id=D at *;obtain ⟨wo,rfl⟩:∃ wo:World,wo=wr:=⟨_,rfl⟩;go_loopw [9,10] (fun s i wr=>∃ k:Nat,k<=D.length/\i=.int .i64 k/\Own wr wo.heap.size 39 2 dU s ((D.take k).map (oJ p))/\Below wo.heap.size wo wr) (fun _ i _=>D.length-(intOf i).toNat)
    case atStart => exact ⟨0,avK _,rfl,Own.nil _ _ _ _ _,bR wo⟩
    case round =>
     obtain ⟨k,hk2,rfl,ho,hb⟩:=hrel;have Gn:=avE ho;have Hb2:=avE hb;have X2:=agP.out.keep hb;have aow:=hb.size;clear ho hb
     try clear aG
     try clear aI
     try clear aJ
     try clear aO
     obtain ⟨aG,aI,aJ,aO,-,-,-⟩:=X2.aF;by_cases hlt:k<D.length
     case neg =>
      have hkk:k=D.length:=by omega
      subst hkk;have ho:=Gn.out;rw [List.take_length] at ho;obtain ⟨A9,c9,rfl,h91,h92⟩:=Own.shape ho;unfold maxLen at h92;rw [avM] at h91;rw [show (List.map (oJ p) D).length=D.length from avM _];have BM:=avE ho;clear ho Gn;clear X2 aG aI aJ aO hlt;go_wp2_with fail;obtain ⟨ws,rfl⟩:∃ ws:World,ws=wr:=⟨_,rfl⟩;have agQ:=avE (show Row ws A9 ((D.map (oJ p)).flatMap dU) by
       obtain ⟨A',c',he,_,_,hr⟩:=BM.out.sl;injection he with e1 e2 e3;subst e1;exact hr)
      have aoG:=avE (abe.out.mono Hb2.out);have aoH:=avE (aoF.out.keep Hb2.out);have Bs:=avE (bT Bo.out Hb2.out);obtain ⟨lt,hlt'⟩:∃ lt,ltD p nd.pt=lt:=⟨_,rfl⟩;have VP:=avE (show ∀ d∈D,∀ e∈D,Fq nd.pt (oJ p d) (oJ p e)=lt d e from fun d hd e he=>by rw [<- hlt',aoC,agO.out d hd,agO.out e he]);have HPk:=avE (show ∀ m,m<D.length->Rt lt D m=(sortB lt D)[m]? from fun m hm=>by rw [<- hlt'];exact aoB agN.out aoE.out hm);have hsl:(sortB lt D).length=D.length:=by rw [<- hlt'];exact (KI agN.out).1.length_eq
      have har:=pO.out;rw [hlt'] at har;have qy:=avE (fun a b W=>an0 nd.pt a b W);unfold aK at qy;generalize sortB lt D=S at *;subst har;have VQ:=avE hsl;clear hlt' hsl pO;go_loopw [11] (fun s wr=>∃ m:Nat,m<=D.length/\(∃ A c,s=.slice A m c)/\Own wr ws.heap.size 3 1 dw s (q.take m)/\Below ws.heap.size ws wr) (fun s _=>D.length-lenV s)
      case atStart => exact ⟨0,avK _,⟨none,0,rfl⟩,Own.nil _ _ _ _ _,bR ws⟩
      case round =>
       obtain ⟨m,hm,⟨A,c,rfl⟩,ho,hb⟩:=hrel;have P8:=avE ho;have Hb3:=avE hb;have auv:=hb.size;clear ho hb;by_cases hlt:m<D.length
       case neg =>
        have hmm:m=D.length:=by omega
        subst hmm;have ho:=P8.out;rw [List.take_of_length_le (by have:=VQ.out;omega)] at ho;have HO:=avE ho;clear ho P8;go_wp2;go_ret;exact ⟨A,c,by rw [VQ.out];rfl,bT Bs.out Hb3.out,by rw [VQ.out];exact HO.out.fG (by have:=Bs.out.size;omega)⟩
       have km:(m:Int)<D.length:=by omega
       have wQ:=avE (HPk.out m hlt);have Lp:m<q.length:=by have:=VQ.out;omega
       have agR:Hid (¬ ∀ j (hj:j<D.length),(Ey lt D D[j] == m)=false):=avE fun h=>by
        have h1:Rt lt D m=none:=List.find?_eq_none.2 (fun x hx=>by
         obtain ⟨j,hj,rfl⟩:=avI.1 hx;rw [h j hj];decide)
        rw [wQ.out,avG Lp] at h1
        cases h1
       go_wp2_with fail;go_loopw [11,12] (fun s i wx=>∃ i':Nat,i'<=D.length/\i=.int .i64 i'/\s=.slice A m c/\Own wx ws.heap.size 3 1 dw (.slice A m c) (q.take m)/\Below ws.heap.size ws wx/\∀ j (hj:j<D.length),j<i'->(Ey lt D D[j] == m)=false) (fun _ i _=>D.length-(intOf i).toNat)
       case atStart => exact ⟨0,avK _,rfl,rfl,P8.out,Hb3.out,fun _ _ h=>by omega⟩
       case round =>
        obtain ⟨i',hi,rfl,rfl,ho,hb,hno⟩:=hrel;have Ho4:=avE ho;have Hb4:=avE hb;have Hno:=avE hno;have auw:=hb.size;clear ho hb hno;by_cases hil:i'<D.length
        case neg => exact absurd (fun j hj=>Hno.out j hj Pe) agR.out
        have ki:(i':Int)<D.length:=by omega
        go_wp2_with fail;obtain ⟨di,hdi⟩:∃ di,D[i']=di:=⟨_,rfl⟩;have BN:=avE hdi;have Jy:=avE (show di∈D from hdi ▸ avF hil);clear hdi;obtain ⟨wx,rfl⟩:∃ wx:World,wx=wr:=⟨_,rfl⟩;go_loopw [13,14] (fun t u wy=>∃ j:Nat,j<=D.length/\u=.int .i64 j/\t=.int .i64 ((D.take j).countP (fun y=>lt y di):Nat)/\Below wx.heap.size wx wy) (fun _ u _=>D.length-(intOf u).toNat)
        case atStart => exact ⟨0,avK _,rfl,rfl,bR wx⟩
        case round =>
         obtain ⟨j,hj,rfl,rfl,hb⟩:=hrel;have Hb5:=avE hb;clear hb;by_cases hjl:j<D.length
         case neg =>
          have hjj:j=D.length:=by omega
          subst hjj;rw [List.take_length];obtain ⟨rk,hrk⟩:∃ rk,D.countP (fun y=>lt y di)=rk:=⟨_,rfl⟩;rw [hrk];have agS:Ey lt D D[i']=rk:=by rw [BN.out];exact hrk
          have HRk:=avE agS;have hrl:rk<=D.length:=by rw [<- hrk];exact List.countP_le_length
          clear hrk agS;have hdl:=Le.out;by_cases hrm:rk=m
          ·subst hrm;have hqm:q.take (rk+1)=q.take rk++[di]:=by
            have hg:q[rk]? = some di:=by
             rw [<- wQ.out];unfold Rt;rw [MV D _ i' hil (fun j hj hji=>Hno.out j hj hji) (by simpa using HRk.out),BN.out]
            rw [List.take_add_one,hg];rfl
           have HQm:=avE hqm;have htl:(q.take rk).length=rk:=by rw [awk];omega
           have oQ:=avE htl;clear hqm htl;obtain ⟨bd,od,hAd,hld,c0⟩:=(aoG.out.mono (bT Hb4.out Hb5.out)).int hil;subst hAd;rw [BN.out] at c0;have jd:=avE (Ho4.out.keep Hb5.out);have zG:=Hb5.out.size;go_wp2_with
            (at_builtin
             refine iZ _ rfl (.tmp 114) (.tmp 119) _ rfl (base:=ws.heap.size) jR jB jT rfl (Own.alloc jd.out _) rfl (l2:=[di]) (Sl.lit (n:=1) (ah.made rfl _ _) rfl (dP Pe)) ave ave arV ?_;intro v9 w9 mY kH zh;rw [<- HQm.out] at mY;obtain ⟨A0,c9',Ru,-⟩:=Own.shape mY;rw [show (q.take (rk+1)).length=rk+1 by rw [HQm.out,avL,oQ.out];rfl] at Ru;subst Ru;have aoI:=avE mY;have aoJ:=avE (bG (bA (bT Hb4.out Hb5.out) _) kH (fun g hg=>(jd.out.lt g hg).1));clear mY kH zh)
           exact ⟨⟨rk+1,by omega,⟨A0,c9',rfl⟩,aoI.out,aoJ.out⟩,by simp only [lenV];omega⟩
          ·have hne:((rk:Int) == (m:Int))=false:=by simpa using (show ¬ (rk:Int)=m by omega)
           have hsucc:∀ j (hj:j<D.length),j<i'+1->(Ey lt D D[j] == m)=false:=fun j hj hji=>by
            by_cases e:j=i'
            · subst e;rw [HRk.out];simpa using hrm
            · exact Hno.out j hj Pe
           have yB:=avE hsucc;clear hsucc hrm;by_cases hlast:i'+1=D.length
           · exact absurd (fun j hj=>yB.out j hj Pe) agR.out
           have hl2:((i':Int) == (D.length:Int)-1)=false:=by simpa using (show ¬ (i':Int)=(D.length:Int)-1 by omega)
           go_wp2;go_roundw
           case rel => exact ⟨i'+1,by omega,by go_num,rfl,Ho4.out.keep Hb5.out,bT Hb4.out Hb5.out,yB.out⟩
           case measure => simp [intOf];omega
         obtain ⟨b5,o5,Dc,Lr,e0,e1⟩:=(agQ.out.mono (bT Hb4.out Hb5.out)).pt (k:=j) (by rw [avM];exact hjl);subst Dc;obtain ⟨b6,o6,he6,-,f0,f1⟩:=(agQ.out.mono (bT Hb4.out Hb5.out)).pt (k:=i') (by rw [avM];exact hil);simp only [Option.some.injEq,Addr.mk.injEq,and_true] at he6;obtain ⟨rfl,rfl⟩:=he6;rw [av4] at e0 e1 f0 f1;have hl:Fq nd.pt (oJ p D[j]) (oJ p D[i'])=lt D[j] di:=by rw [VP.out D[j] (avF hjl) D[i'] (avF hil),BN.out]
         have rD:=avE (qy.out (oJ p D[j]) (oJ p D[i']));rw [hl] at rD;have hst:(D.take (j+1)).countP (fun y=>lt y di)=(D.take j).countP (fun y=>lt y di)+(if lt D[j] di=true then 1 else 0):=by
          rw [avH hjl,List.countP_append,List.countP_singleton]
         have hcl:(D.take j).countP (fun y=>lt y di)<=j:=avZ List.countP_le_length (List.length_take_le _ _);have hdl:=Le.out;have fU:=avE hst;clear hst hl;generalize (D.take j).countP (fun y=>lt y di)=ct at *;generalize lt D[j] di=z at *;generalize oJ p D[j]=pj at *;generalize oJ p D[i']=pi at *;have kj:(j:Int)<D.length:=by omega
         have X5:=aoH.out.keep (bT Hb4.out Hb5.out);obtain ⟨bI,bJ,bV,jk,-,-,-⟩:=X5.aF;go_upto_region 26 with fail;refine dH (wr) (.run 10 0 0 (.call 10 2047 (.done))) fun bZ QR aB aH hS=>?_
         iterate 10 refine aC ?_
         refine fV (rD.out _) ?_;clear hS;intro cZ bW hS;refine dB ?_;clear hS aH aB;intro hB;clear X5 bI bJ bV jk e0 e1 f0 f1 kj Lr
         cases z
         ·go_wp2;go_roundw
          case rel => exact ⟨j+1,by omega,by go_num,by rw [fU.out];rfl,bT Hb5.out hB⟩
          case measure => simp [intOf];omega
         ·go_wp2;go_roundw
          case rel => exact ⟨j+1,by omega,by go_num,by rw [fU.out,if_pos rfl];go_num,bT Hb5.out hB⟩
          case measure => simp [intOf];omega
     obtain ⟨bd,od,rfl,hld,-⟩:=abe.out.int hlt;obtain ⟨b_,o_,qA,-,c0⟩:=(abe.out.mono Hb2.out).int hlt;simp only [Option.some.injEq,Addr.mk.injEq,and_true] at qA;obtain ⟨rfl,rfl⟩:=qA;have hwo:w.heap.size<wo.heap.size:=agP.out.lt;have tJ:=avE (HSc.out D[k] (HDb.out _ (avF hlt)));have hst:(D.take (k+1)).map (oJ p)=(D.take k).map (oJ p)++[oJ p D[k]]:=by rw [avH hlt,List.map_append];rfl
     have fU:=avE hst;have iM:=avE (show ((D.take k).map (oJ p)).length<=512 by have:=Le.out;rw [avM,awk];omega);clear hst;generalize (D.take k).map (oJ p)=L at *;generalize oJ p D[k]=p2 at *;generalize D[k]=d at *;have k4:(k:Int)<D.length:=by omega
     obtain ⟨s,rfl⟩:∃ s:Value,s=u9:=⟨_,rfl⟩;go_upto_region 16 with fail;refine Ah (wo.heap.size) (wr) (.run 6 0 0 (.call 6 127 (.call 7 255 (.call 8 511 (.take 9 1023 (.done)))))) fun bZ QR aB aH hS=>?_
     iterate 6 refine aC ?_
     refine bK ?_;clear hS;intro K hK ak;go_simp;refine (tJ.out _ (bT (bT Bo.out Hb2.out) (bD (bR wr)))).mono ?_;rintro e wy ⟨rfl,hby⟩;have hS:fM wo.heap.size wr wy:=Below.trans ak.out (hby.mono (by have:=(Below.size ak.out);omega));have hzy:=hby.size;simp only [World.size_drew] at hzy;have HBy:=avE (show Below wr.heap.size wr wy from bT (bD (bR wr)) hby);clear hby;clear ak;refine hK.out _ _ hS (fun _=>?_);clear hK K
     try simp only [pu]
     refine bK ?_;clear hS;intro K hK ak;go_simp;refine hK.out _ _ (fE Pe ak.out _) (fun hS=>?_);clear hK K ak
     try simp only [pu]
     refine bK ?_;clear hS;intro K hK ak;refine kW (.tmp 71) (.tmp 78) _ rfl (base:=wo.heap.size) (l:=L) (l2:=[p2]) ng jS ni rfl (Own.alloc (Gn.out.keep HBy.out) _) rfl (dM.one (x:=p2) (ah.made rfl _ _)) avf avf arV ?_;intro v9 wn agT hgn aoK;have aoL:=avE agT;have hS:fM wo.heap.size wr wn:=Below.grown (Below.alloc (HBy.out.mono Pe) Pe _) hgn arV (fun g hg=>(Gn.out.lt g hg).1);clear agT hgn aoK;clear ak;refine hK.out _ _ hS (fun _=>?_);clear hK K
     try simp only [pu]
     refine aC ?_;refine o8 ?_;clear hS aH aB;intro hB;go_wp2;go_roundw
     case rel => exact ⟨k+1,by omega,by go_num,by rw [fU.out];exact aoL.out,Below.trans Hb2.out hB⟩
     case measure => simp [intOf];omega
   have hst:eG (p.aj.take (k+1)) nd.id=eG (p.aj.take k) nd.id++((if al[k].1.fr=nd.id then [al[k].1.id] else [])++(if al[k].1.dst=nd.id then [-al[k].1.id] else [])):=by
    have h1:k<p.aj.length:=by rw [oI.out,avM];exact hlt
    have h2:=agy p.aj nd.id k h1;have h3:p.aj[k]=al[k].1:=by simp only [oI.out,av4]
    rw [h3] at h2;exact h2
   have hid:=Rq.out k hlt;have hlen:=Ri (p.aj.take k) nd.id;have hlen2:(p.aj.take k).length<=k:=List.length_take_le _ _;obtain ⟨b,o,rfl,hlb,c0,c1,c2,-⟩:=(HR.out.mono (bT B5.out Hb.out)).ar hlt;have fU:=avE hst;have iM:=avE (show (eG (p.aj.take k) nd.id).length<=512 by omega);obtain ⟨D1,hD1⟩:∃ D1,eG (p.aj.take (k+1)) nd.id=D1:=⟨_,rfl⟩;rw [hD1] at fU;have HD1:=avE hD1;clear hst hlen hlen2 hD1;generalize eG (p.aj.take k) nd.id=D0 at *;obtain ⟨a,ha⟩:∃ a,al[k].1=a:=⟨_,rfl⟩;rw [ha] at hid fU c0 c1 c2;have VR:=avE ha;clear ha;have hneg:IntKind.i64.wrap (-a.id)=-a.id:=avS _ Pe;have k4:(k:Int)<al.length:=by omega
   clear hid;obtain ⟨s,rfl⟩:∃ s:Value,s=u7:=⟨_,rfl⟩
   cases hb1:(a.fr == nd.id)
   case false =>
    cases hb2:(a.dst == nd.id)
    case false =>
     have hD:D1=D0:=by rw [fU.out,if_neg (by simpa using hb1),if_neg avw];simp
     go_wp2;go_roundw
     case rel => exact ⟨k+1,by omega,by go_num,by rw [HD1.out.trans hD];exact Ho.out,Hb.out⟩
     case measure => simp [intOf];omega
    case true =>
     have hD:D1=D0++[-a.id]:=by rw [fU.out,if_neg (by simpa using hb1),if_pos avw];simp
     go_wp2_with
      (at_builtin
       refine iZ _ rfl (.tmp 55) (.tmp 63) _ rfl (base:=W5.heap.size) (l:=D0) jR jB jT rfl (Own.alloc Ho.out _) rfl (l2:=[-a.id]) (Sl.lit (n:=1) (ah.made rfl _ _) rfl (dP Pe)) asc asc arV ?_;intro v9 w9 mY kH zh;have BM:=avE mY;have je:=avE (Below.grown (Below.alloc Hb.out Pe _) kH arV (fun g hg=>(Ho.out.lt g hg).1));have VT:=je.out.size;replace X2:=dh.out.keep je.out;have HC9:=avE (HR.out.mono (bT B5.out je.out));obtain ⟨b_,o_,qA,-,d0,d1,d2,-⟩:=HC9.out.ar hlt;simp only [Option.some.injEq,Addr.mk.injEq,and_true] at qA;obtain ⟨rfl,rfl⟩:=qA;rw [VR.out] at d0 d1 d2;clear mY kH zh aG aI aJ aO
       try clear aG
       try clear aI
       try clear aJ
       try clear aO
       obtain ⟨aG,aI,aJ,aO,-,-,-⟩:=X2.aF
       )
     go_roundw
     case rel => exact ⟨k+1,by omega,by go_num,by rw [HD1.out.trans hD];exact BM.out,je.out⟩
     case measure => simp [intOf];omega
   case true =>
    cases hb2:(a.dst == nd.id)
    case false =>
     have hD:D1=D0++[a.id]:=by rw [fU.out,if_pos (by simpa using hb1),if_neg avw];simp
     go_wp2_with
      (at_builtin
       refine iZ _ rfl (.tmp 38) (.tmp 45) _ rfl (base:=W5.heap.size) (l:=D0) jR jB jT rfl (Own.alloc Ho.out _) rfl (l2:=[a.id]) (Sl.lit (n:=1) (ah.made rfl _ _) rfl (dP Pe)) asc asc arV ?_;intro v8 w8 Ez EC Rw;have DF:=avE Ez;have jl:=avE (Below.grown (Below.alloc Hb.out Pe _) EC arV (fun g hg=>(Ho.out.lt g hg).1));have hz8:=jl.out.size;replace X2:=dh.out.keep jl.out;have HC8:=avE (HR.out.mono (bT B5.out jl.out));obtain ⟨b_,o_,qA,-,d0,d1,d2,-⟩:=HC8.out.ar hlt;simp only [Option.some.injEq,Addr.mk.injEq,and_true] at qA;obtain ⟨rfl,rfl⟩:=qA;rw [VR.out] at d0 d1 d2;clear Ez EC Rw aG aI aJ aO
       try clear aG
       try clear aI
       try clear aJ
       try clear aO
       obtain ⟨aG,aI,aJ,aO,-,-,-⟩:=X2.aF
       )
     go_roundw
     case rel => exact ⟨k+1,by omega,by go_num,by rw [HD1.out.trans hD];exact DF.out,jl.out⟩
     case measure => simp [intOf];omega
    case true =>
     have hD:D1=D0++[a.id]++[-a.id]:=by rw [fU.out,if_pos (by simpa using hb1),if_pos avw];simp
     go_upto_region 10 with
      (at_builtin
       refine iZ _ rfl (.tmp 38) (.tmp 45) _ rfl (base:=W5.heap.size) (l:=D0) jR jB jT rfl (Own.alloc Ho.out _) rfl (l2:=[a.id]) (Sl.lit (n:=1) (ah.made rfl _ _) rfl (dP Pe)) asc asc arV ?_;intro v8 w8 Ez EC Rw;have DF:=avE Ez;have jl:=avE (Below.grown (Below.alloc Hb.out Pe _) EC arV (fun g hg=>(Ho.out.lt g hg).1));have hz8:=jl.out.size;replace X2:=dh.out.keep jl.out;have HC8:=avE (HR.out.mono (bT B5.out jl.out));obtain ⟨b_,o_,qA,-,d0,d1,d2,-⟩:=HC8.out.ar hlt;simp only [Option.some.injEq,Addr.mk.injEq,and_true] at qA;obtain ⟨rfl,rfl⟩:=qA;rw [VR.out] at d0 d1 d2;clear Ez EC Rw aG aI aJ aO
       try clear aG
       try clear aI
       try clear aJ
       try clear aO
       obtain ⟨aG,aI,aJ,aO,-,-,-⟩:=X2.aF
       )
     have auy:=DF.out;go_wp2_with
      (at_builtin
       refine iZ _ rfl (.tmp 55) (.tmp 63) _ rfl (base:=W5.heap.size) (l:=D0++[a.id]) jR jB jT rfl (Own.alloc DF.out _) rfl (l2:=[-a.id]) (Sl.lit (n:=1) (ah.made rfl _ _) rfl (dP Pe)) asc asc arV ?_;intro v9 w9 mY kH zh;have BM:=avE mY;have je:=avE (Below.grown (Below.alloc jl.out Pe _) kH arV (fun g hg=>(DF.out.lt g hg).1));have VT:=je.out.size;replace X2:=dh.out.keep je.out;have HC9:=avE (HR.out.mono (bT B5.out je.out));obtain ⟨b_,o_,qA,-,d0,d1,d2,-⟩:=HC9.out.ar hlt;simp only [Option.some.injEq,Addr.mk.injEq,and_true] at qA;obtain ⟨rfl,rfl⟩:=qA;rw [VR.out] at d0 d1 d2;clear mY kH zh aG aI aJ aO
       try clear aG
       try clear aI
       try clear aJ
       try clear aO
       obtain ⟨aG,aI,aJ,aO,-,-,-⟩:=X2.aF
       )
     go_roundw
     case rel => exact ⟨k+1,by omega,by go_num,by rw [HD1.out.trans hD];exact BM.out,je.out⟩
     case measure => simp [intOf];omega
def aoM (w:World) (l:List (Int×Int)) (e:Ending) (w':World):Prop :=
 ∃ A c A' c',e=.returned (.tuple #[.slice A l.length c,.slice A' l.length c'])/\Below w.heap.size w w'/\Own w' w.heap.size 3 1 dw (.slice A l.length c) (l.map (·.1))/\Own w' w.heap.size 3 1 dw (.slice A' l.length c') (l.map (·.2))
def jw (u v:Value):Prop:=∀ g,u.ownBlock=some g->v.ownBlock≠some g
theorem aoN (v:Value) (p:Pl) (w:World) (h:bQ w v p) (hv:Valid p) :
  Calls Tryz.prog 192 #[v] w (aoM w (qx p p.nodes.length)):=by
 have pO:=avE (fun n W (hW:Below w.heap.size w W)=>aoD v p n W (h.mono hW) hv);obtain ⟨_,_,_,al,rfl,hpa,⟨An,cn,rfl,hn1,hn2,hR⟩,⟨⟨Aa,ca,rfl,-⟩,-⟩,⟨Af,cf,rfl,-⟩⟩:=h;unfold maxLen at hn2;have HR:=avE hR;have HV:=avE hv;have hnl:=hv.VO;generalize al.length=na at *;generalize p.faces.length=nf at *;obtain ⟨nn,hnn⟩:∃ nn,p.nodes.length=nn:=⟨_,rfl⟩;rw [hnn] at hn1 hnl pO ⊢;have VU:=avE hnn;obtain ⟨q,hq⟩:∃ q,qx p nn=q:=⟨_,rfl⟩;rw [hq];have Hq:=avE hq;clear hpa hR hv hnn hq;go_enter Tryz.func192,Tryz.ntmps192;go_upto_region 1 with fail;obtain ⟨W1,hW⟩:∃ W:World,W=w.alloc (.cells #[.slice An nn cn,.slice Aa na ca,.slice Af nf cf] 26):=⟨_,rfl⟩;have B1:=avE (show Below w.heap.size w W1 by rw [hW];exact bA (bR w) _);have X1:ah W1 w.heap.size 26 #[.slice An nn cn,.slice Aa na ca,.slice Af nf cf]:=by rw [hW];exact ah.made rfl _ _
 rw [<- hW];clear hW;have gq:=avE X1;obtain ⟨aS,aT,aU,aW,-,-,-⟩:=X1.aF;go_upto_block 0 with fail;go_wp2_with fail;go_loopw [4,5,6] (fun s t i wr=>∃ k:Nat,k<=nn/\i=.int .i64 k/\(∃ A c,s=.slice A (qx p k).length c)/\(∃ A c,t=.slice A (qx p k).length c)/\Own wr W1.heap.size 3 1 dw s ((qx p k).map (·.1))/\Own wr W1.heap.size 3 1 dw t ((qx p k).map (·.2))/\jw s t/\Below W1.heap.size W1 wr) (fun _ _ i _=>nn-(intOf i).toNat)
 case atStart => exact ⟨0,avK _,rfl,⟨none,0,rfl⟩,⟨none,0,rfl⟩,Own.nil _ _ _ _ _,Own.nil _ _ _ _ _,(fun g hg=>by simp [Value.ownBlock] at hg),bR W1⟩
 case round =>
  obtain ⟨k,hk,rfl,⟨A,c,rfl⟩,⟨A',c',rfl⟩,own,own',sep,hb⟩:=hrel;obtain ⟨wo,rfl⟩:∃ wo:World,wo=wr:=⟨_,rfl⟩;have hlk:=agI HV.out k;rw [<- agM] at hlk;have HO:=avE own;have Rx:=avE own';have uU:=avE sep;have Hb:=avE hb;have hzo:=hb.size;have X2:=gq.out.keep hb;clear own own' sep hb X1 aS aT aU aW;by_cases hlt:k<nn
  ·have hkn:k<p.nodes.length:=by have:=VU.out;omega
   obtain ⟨b,o,rfl,hlb,c0,c1,c2⟩:=(HR.out.mono (bT B1.out Hb.out)).nd hkn;have BO:=aom p k hkn;have Lp:=HV.out.aa7 p.nodes[k].id;have Qc:=avE (fun d (hd:d∈dJ p p.nodes[k].id)=>HV.out.tZ (HV.out.abd (avF hkn) hd).2);have Ls:=avE (pO.out p.nodes[k].id);generalize p.nodes[k]=nd at *;have wV:=avE BO;clear BO;obtain ⟨L,hL⟩:∃ L,qx p k=L:=⟨_,rfl⟩;obtain ⟨Q,hQ⟩:∃ Q,dJ p nd.id=Q:=⟨_,rfl⟩;rw [hL] at hlk wV HO Rx uU ⊢;rw [hQ] at wV Lp Ls Qc;clear hL hQ;obtain ⟨aG,aI,aJ,aO,-,-,-⟩:=X2.aF;go_upto_region 5 with fail;refine dH (wo) (.run 7 0 0 (.call 7 255 (.take 8 511 (.done)))) fun bZ QR aB aH hS=>?_
   iterate 7 refine aC ?_
   refine bK ?_;clear hS;intro K hK ak;go_simp;refine (Ls.out _ (bT B1.out (bT Hb.out (bD (bR wo))))).mono ?_;rintro e cZ ⟨Aq,cq,rfl,bW,hoq⟩;have hS:Since wo cZ:=bT (w:=wo) ak.out bW;clear ak;refine hK.out _ _ hS (fun _=>?_);clear hK K
   try simp only [pu]
   refine aC ?_;refine dB ?_;clear hS aH aB;intro hB;obtain ⟨W5,kJ⟩:∃ W:World,W=cZ:=⟨_,rfl⟩;rw [<- kJ] at hB hoq ⊢;have bC:=avE hB;have Gp:=avE (Own.fG hoq (b':=wo.heap.size) ars);have wW:=avE (show jw (.slice A L.length c) (.slice Aq Q.length cq) from fun g hg e=>by
    have h1:=(HO.out.lt g hg).2;have h2:=(Gp.out.lt g e).1;omega)
   have aoO:=avE (show jw (.slice A' L.length c') (.slice Aq Q.length cq) from fun g hg e=>by
    have h1:=(Rx.out.lt g hg).2;have h2:=(Gp.out.lt g e).1;omega)
   have zG:=bC.out.size;clear hB hoq bW kJ c0 c1 c2 hlb X2 aG aI aJ aO Ls;go_upto_block 2 with fail;go_wp2_with fail;go_loopw [4,5,8] (fun s t i wr=>∃ j:Nat,j<=Q.length/\i=.int .i64 j/\(∃ A c,s=.slice A (L.length+j) c)/\(∃ A c,t=.slice A (L.length+j) c)/\Own wr W1.heap.size 3 1 dw s ((L++(qw Q).take j).map (·.1))/\Own wr W1.heap.size 3 1 dw t ((L++(qw Q).take j).map (·.2))/\jw s t/\jw s (.slice Aq Q.length cq)/\jw t (.slice Aq Q.length cq)/\Own wr wo.heap.size 3 1 dw (.slice Aq Q.length cq) Q/\Below W1.heap.size W1 wr/\W5.heap.size<=wr.heap.size) (fun _ _ i _=>Q.length-(intOf i).toNat)
   case atStart => exact ⟨0,avK _,rfl,⟨A,c,rfl⟩,⟨A',c',rfl⟩,by rw [List.take_zero,List.append_nil];exact HO.out.keep bC.out,by rw [List.take_zero,List.append_nil];exact Rx.out.keep bC.out,uU.out,wW.out,aoO.out,Gp.out,bT Hb.out bC.out,awe _⟩
   case round =>
    obtain ⟨j,hj,rfl,⟨A3,c3,rfl⟩,⟨A4,c4,rfl⟩,Ry,own4,s34,s3q,s4q,oq,hb3,hz3⟩:=hrel;have gY:=avE Ry;have kP:=avE own4;have H34:=avE s34;have H3q:=avE s3q;have H4q:=avE s4q;have HQ:=avE oq;have HB3:=avE hb3;clear Ry own4 s34 s3q s4q oq hb3;by_cases hlj:j<Q.length
    ·have hm:(j+1) % Q.length<Q.length:=Nat.mod_lt _ Pe;have htk:=aon Q j hlj hm;have f1:=(HQ.out.row_in).int hlj;have f2:=(HQ.out.row_in).int hm;obtain ⟨bq,Lu,rfl,LC,e1⟩:=f1;obtain ⟨b_,o_,qA,-,e2⟩:=f2;simp only [Option.some.injEq,Addr.mk.injEq,and_true] at qA;obtain ⟨rfl,rfl⟩:=qA;have htm:Int.tmod ((j:Int)+1) (Q.length:Int)=((j+1) % Q.length:Nat):=by
      rw [Int.tmod_eq_emod_of_nonneg Pe,show (j:Int)+1=((j+1:Nat):Int) by omega];exact (Int.natCast_emod _ _).symm
     have hbd:-1073741824<=Q[(j+1) % Q.length]/\Q[(j+1) % Q.length]<=1073741824:=Qc.out _ (avF hm);have jf:=avE htk;obtain ⟨f,hf⟩:∃ f,Q[j]=f:=⟨_,rfl⟩;rw [hf] at jf;have HF:=avE hf;clear htk hf e1;generalize Q[(j+1) % Q.length]=d at *;generalize (j+1) % Q.length=m at *;have HLn:=avE (show (L++(qw Q).take (j+1)).length=L.length+(j+1) by rw [avL,awk,Ot];omega);have HLj:=avE (show (L++(qw Q).take j).length=L.length+j by rw [avL,awk,Ot];omega);have k1:IntKind.i64.wrap (-d)=-d:=avS _ Pe;have g1:IntKind.i64.wrap ((j:Int)+1)=(j:Int)+1:=avS _ Pe;have g3:¬ (Q.length:Int)=0:=by omega
     have g11:¬ Q=[]:=fun e=>by have:=congrArg List.length e;simp only [avN] at this;omega
     have g4:IntKind.i64.wrap (m:Int)=m:=avS _ Pe;have g5:(m:Int)<Q.length:=by omega
     have g6:0<=(m:Int):=by omega
     go_upto_region 10 with
      (at_builtin
       refine iZ _ rfl (.tmp 30) (.tmp 40) _ rfl (base:=W1.heap.size) jR jB jT rfl (Own.alloc gY.out _) rfl (l2:=[-d]) (Sl.lit (n:=1) (ah.made rfl _ _) rfl (dP Pe)) avh avh (by have:=HB3.out.size;simp;omega) ?_;intro v5 w5 dG hg5 iG;rw [show (L++(qw Q).take j).map (·.1)++[-d]=(L++(qw Q).take (j+1)).map (·.1) by rw [jf.out];simp only [List.map_append,List.map_cons,List.map_nil,awm]] at dG;obtain ⟨A5,c5,hv5,-⟩:=Own.lI dG;rw [avM,HLn.out] at hv5;subst hv5;have jd:=avE dG;have abf:=avE (Own.grown (Own.alloc HQ.out _) hg5 (fun g hg e=>H3q.out g e.symm hg));have agU:=avE (Own.grown (Own.alloc kP.out _) hg5 (fun g hg e=>H34.out g e.symm hg));have abg:∀ g,(Value.slice A5 (L.length+(j+1)) c5).ownBlock=some g->(Value.slice A3 (L.length+j) c3).ownBlock=some g\/g=wr.heap.size+1:=fun g hg=>by
        rcases iG with h | h
        · exact .inl (h.symm.trans hg)
        · rw [hg] at h;have:=avP h;simp at this;exact .inr this
       have H54:=avE (show jw (.slice A5 (L.length+(j+1)) c5) (.slice A4 (L.length+j) c4) from fun g hg e=>by
        rcases abg g hg with h | h
        · exact H34.out g h e
        · have:=(kP.out.lt g e).2;omega)
       have H5q:=avE (show jw (.slice A5 (L.length+(j+1)) c5) (.slice (some ⟨bq,Lu,none⟩) Q.length cq) from fun g hg e=>by
        rcases abg g hg with h | h
        · exact H3q.out g h e
        · have:=(HQ.out.lt g e).2;omega)
       have agV:=avE (bG (bA HB3.out _) hg5 (fun g hg=>(gY.out.lt g hg).1));have auz:wr.heap.size<w5.heap.size:=by have:=hg5.size;simp at this;omega
       clear dG hg5 iG abg
       )
     clear e2 htm g1 g3 g4 g5 g6 g11 k1 hbd;obtain ⟨b_,o_,qA,Lr,e1⟩:=(abf.out.row_in).int hlj;simp only [Option.some.injEq,Addr.mk.injEq,and_true] at qA;obtain ⟨rfl,rfl⟩:=qA;rw [HF.out] at e1;go_upto_region 8 with
      (at_builtin
       refine iZ _ rfl (.tmp 42) (.tmp 47) _ rfl (base:=W1.heap.size) jR jB jT rfl (Own.alloc agU.out _) rfl (l2:=[f]) (Sl.lit (n:=1) (ah.made rfl _ _) rfl (dP Pe)) avh avh (by have:=agV.out.size;simp;omega) ?_;intro v6 w6 wO lK Rz;rw [show (L++(qw Q).take j).map (·.2)++[f]=(L++(qw Q).take (j+1)).map (·.2) by rw [jf.out];simp only [List.map_append,List.map_cons,List.map_nil,awm]] at wO;obtain ⟨A6,c6,hv6,-⟩:=Own.lI wO;rw [avM,HLn.out] at hv6;subst hv6;have qp:=avE wO;have HQ6:=avE (Own.grown (Own.alloc abf.out _) lK (fun g hg e=>H4q.out g e.symm hg));have aoP:=avE (Own.grown (Own.alloc jd.out _) lK (fun g hg e=>H54.out g hg e.symm));have LD:∀ g,(Value.slice A6 (L.length+(j+1)) c6).ownBlock=some g->(Value.slice A4 (L.length+j) c4).ownBlock=some g\/g=w5.heap.size+1:=fun g hg=>by
        rcases Rz with h | h
        · exact .inl (h.symm.trans hg)
        · rw [hg] at h;have:=avP h;simp at this;exact .inr this
       have H56:=avE (show jw (.slice A5 (L.length+(j+1)) c5) (.slice A6 (L.length+(j+1)) c6) from fun g hg e=>by
        rcases LD g e with h | h
        · exact H54.out g hg h
        · have:=(jd.out.lt g hg).2;omega)
       have H6q:=avE (show jw (.slice A6 (L.length+(j+1)) c6) (.slice (some ⟨bq,Lu,none⟩) Q.length cq) from fun g hg e=>by
        rcases LD g hg with h | h
        · exact H4q.out g h e
        · have:=(abf.out.lt g e).2;omega)
       have jq:=avE (bG (bA agV.out _) lK (fun g hg=>(agU.out.lt g hg).1));have QZ:w5.heap.size<w6.heap.size:=by have:=lK.size;simp at this;omega
       clear wO lK Rz LD
       )
     clear e1 Lr;go_wp2;go_roundw
     case rel => exact ⟨j+1,by omega,by go_num,⟨A5,c5,rfl⟩,⟨A6,c6,rfl⟩,aoP.out,qp.out,H56.out,H5q.out,H6q.out,HQ6.out,jq.out,by omega⟩
     case measure => simp [intOf];omega
    ·obtain rfl:j=Q.length:=by omega
     have ho3:=gY.out;have jI:=kP.out;rw [aoo] at ho3 jI;have qy:=avE (show (qx p (k+1)).length=L.length+Q.length by rw [wV.out,avL,Ot]);have aoQ:=avE ho3;have aoR:=avE jI;clear ho3 jI;go_wp2;go_roundw
     case rel => exact ⟨k+1,by omega,by go_num,⟨A3,c3,by rw [qy.out]⟩,⟨A4,c4,by rw [qy.out]⟩,by rw [wV.out];exact aoQ.out,by rw [wV.out];exact aoR.out,H34.out,HB3.out⟩
     case measure => simp [intOf];omega
  ·obtain rfl:k=nn:=by omega
   rw [Hq.out] at HO Rx ⊢
   try clear aG
   try clear aI
   try clear aJ
   try clear aO
   obtain ⟨aG,aI,aJ,aO,-,-,-⟩:=X2.aF;go_wp2_with fail;go_ret2;exact ⟨A,c,A',c',rfl,bT B1.out Hb.out,HO.out.fG B1.out.size,Rx.out.fG B1.out.size⟩
structure AD where
 tw:Int
 out:List Int
 ov:SV
 inn:List (List Int×SV)
 iv:SV
 fD:List Int
 av:SV
def wZ (x:AD):List Value:=[.int .i64 x.tw,bg x.ov,bg x.iv,bg x.av]
theorem RD (x:AD):(wZ x).length=4:=rfl
theorem agW (x:AD):∀ u∈wZ x,u.oneCell'=true:=by simp [wZ,bg,Value.oneCell']
theorem aoS:Elem Tryz.prog 76 82 4 80:=Elem.xK (z:=.agg #[.int .i64 0,.slice none 0 0,.slice none 0 0,.slice none 0 0]) atF atF rfl Pe
structure jm (e:TypeId) (w0 w:World) (B:Nat) (v:Value) (L:List AD):Prop where
 own:Own w B e 4 wZ v L
 out:∀ x∈L,Ints w0 (bg x.ov) x.out
 inn:∀ x∈L,Own w B 24 1 lJ (bg x.iv) x.inn
 lH:∀ x∈L,∀ c∈x.inn,Ints w0 (bg c.2) c.1
 fD:∀ x∈L,Own w B 3 1 dw (bg x.av) x.fD
 Jz:L.Pairwise (fun x y=>jw (bg x.iv) (bg y.iv))
 JA:L.Pairwise (fun x y=>jw (bg x.av) (bg y.av))
theorem jm.keep {e:TypeId} {w0 w w':World} {B:Nat} {v:Value} {L:List AD} (h:jm e w0 w B v L) (hb:Below w.heap.size w w'):jm e w0 w' B v L :=
 ⟨h.own.keep hb,h.out,fun x hx=>(h.inn x hx).keep hb,h.lH,fun x hx=>(h.fD x hx).keep hb,h.Jz,h.JA⟩
theorem aoT (p:Pl) {X:List Int} {k:Nat} (hk:k<X.length):nJ p (X.take (k+1))=nJ p (X.take k)++lW (tX p X[k]):=by
 unfold nJ;rw [avH hk,List.flatMap_append];simp
theorem agX {P:List Pt} {m:Nat} (hm:m+1<P.length):(lW P).take (m+1)=(lW P).take m++[(P.getD m aA,P.getD (m+1) aA)]:=by
 have h:m<(lW P).length:=by unfold lW;rw [avM,List.length_range];omega
 rw [avH h];simp [lW]
theorem aoU {σ:Type} (w:World) (gm:Nat) (p:Pl) (f:Int->SV) (hpm:Gg w gm p f) (hv:Valid p) (vc:Value) (X:List Int) (hX:Ints w vc X) (hd:∀ d∈X,d∈bf p) (g1 g2 g3:Nat)
  (Inv:σ->World->Prop) (upd:σ->Pt×Pt->σ) (hI:∀ s W,Inv s W->Below w.heap.size w W) (hD:∀ s W,Inv s W->Inv s W.drew)
  (hst:∀ s W q,q∈nJ p X->Inv s W->Calls Tryz.prog 199 #[aK q.1,aK q.2,.pointer (some ⟨g1,0,none⟩),.pointer (some ⟨g2,0,none⟩),.pointer (some ⟨g3,0,none⟩)] W fun e W'=>e=.returned (.tuple #[])/\Inv (upd s q) W'/\Below w.heap.size W W')
  (s:σ) (W:World) (h0:Inv s W) :
  Calls Tryz.prog 79 #[.map (some gm),vc,.func (.func 199) #[] #[.pointer (some ⟨g1,0,none⟩),.pointer (some ⟨g2,0,none⟩),.pointer (some ⟨g3,0,none⟩)]] W fun e W'=>e=.returned (.tuple #[])/\Inv ((nJ p X).foldl upd s) W'/\Below w.heap.size W W':=by
 obtain ⟨Ac,cc,rfl,hc1,hc2,uf⟩:=hX;unfold maxLen at hc2;have zK:=avE uf;have wQ:=avE hpm;have HI:=avE hI;have fU:=avE hst;have VW:=avE hD;have RF:=avE hd;have HV:=avE hv;have H0:=avE h0;have jf:=avE (fun k (hk:k<X.length)=>aoT p hk);obtain ⟨R,hR⟩:∃ R,(nJ p X).foldl upd s=R:=⟨_,rfl⟩;rw [hR];have fH:=avE hR;have KZ:=avE (fun k (hk:k<X.length) q (hq:q∈lW (tX p X[k]))=>show q∈nJ p X from List.mem_flatMap.2 ⟨_,avF hk,hq⟩);clear uf hpm hI hst hD hd hv h0 hR;go_enter Tryz.func79,Tryz.ntmps79;go_wp2_with fail;go_loopw [12] (fun i wr=>∃ k:Nat,k<=X.length/\i=.int .i64 k/\Inv ((nJ p (X.take k)).foldl upd s) wr/\Below w.heap.size W wr) (fun i _=>X.length-(intOf i).toNat)
 case atStart => exact ⟨0,avK _,rfl,H0.out,Below.refl _ _⟩
 case round =>
  obtain ⟨k,hk,rfl,hinv,hbw⟩:=hrel;obtain ⟨wo,rfl⟩:∃ wo:World,wo=wr:=⟨_,rfl⟩;have yC:=avE hinv;have jW:=avE hbw;have Hb:=avE (HI.out _ _ hinv);clear hinv hbw;by_cases hlt:k<X.length
  ·obtain ⟨b,o,rfl,hlb,c0⟩:=(zK.out.mono Hb.out).int hlt;have hdd:=RF.out _ (avF hlt);have htk:=jf.out k hlt;have hmem:=KZ.out k hlt;generalize X[k]=d at *;obtain ⟨a,ha,hor,hpt⟩:=HV.out.KU hdd;have hid:=HV.out.kC ha;rw [hpt] at htk hmem;obtain ⟨n,hmp⟩:=(wQ.out.keep Hb.out).mp;have hlk:=hmp.look a.id (qX Pe Pe);have Ou:=wQ.out.rd a ha;have hlen:2<=(au p a).length:=by have:=ig p a;omega
   have aoV:=avE htk;have JB:=avE hmem;have k1:IntKind.i64.wrap (-d)=-d:=avS _ Pe;have km:max d (-d)=a.id:=by omega
   have Ee:=HV.out.FT ha;have hpl:(au p a).length<=66:=by have:=ig p a;omega
   generalize f a.id=x at *;obtain ⟨Ap,np,cp⟩:=x;unfold bg at hlk Ou;obtain ⟨Ap',cp',he,hp1,hp2,xg⟩:=Ou;injection he with e1 e2 e3;subst e1 e2 e3;unfold maxLen at hp2;have RG:=avE xg;clear hmp hdd htk hmem hpt hor ha xg Ee;generalize a.id=ai at *;generalize au p a=P at *;clear hid;obtain ⟨s1,hs1⟩:∃ s1,(nJ p (X.take k)).foldl upd s=s1:=⟨_,rfl⟩;rw [hs1] at yC;have nM:=avE hs1;clear hs1;go_upto_block 2 with fail;go_wp2_with fail;go_loopw [9] (fun i wr=>∃ j:Nat,1<=j/\j<=P.length/\i=.int .i64 j/\Inv (((lW P).take (j-1)).foldl upd s1) wr/\Below w.heap.size wo wr) (fun i _=>P.length-(intOf i).toNat)
   case atStart => exact ⟨1,awe _,by omega,rfl,yC.out,Below.refl _ _⟩
   case round =>
    obtain ⟨j,hj1,hj2,rfl,hinv,jK⟩:=hrel;have agY:=avE hinv;have iT:=avE jK;have Hb2:=avE (HI.out _ _ hinv);clear hinv jK;by_cases hlj:j<P.length
    ·obtain ⟨m,rfl⟩:∃ m,j=m+1:=⟨j-1,by omega⟩;have hmp:m<P.length:=by omega
     have hq:=JB.out (P.getD m aA,P.getD (m+1) aA) (av6.2 ⟨m,List.mem_range.2 Pe,rfl⟩);have htk:=agX hlj;have hst:=fU.out _ wr.drew _ hq (VW.out _ _ agY.out);rw [show m+1-1=m by omega] at hst;have ea:P.getD m aA=P[m]:=by simp only [avT,avG hmp,avU]
     have eb:P.getD (m+1) aA=P[m+1]:=by simp only [avT,avG hlj,avU]
     rw [ea,eb] at hst htk;obtain ⟨bp,op,yA,hlp,e10,e11⟩:=(RG.out).pt hmp;obtain ⟨bp',op',JC,-,e20,e21⟩:=(RG.out).pt hlj;rw [yA] at JC;injection JC with JC;injection JC with x1 x2 _;subst x1 x2;replace e10:=kF Hb2.out e10;replace e11:=kF Hb2.out e11;replace e20:=kF Hb2.out e20;replace e21:=kF Hb2.out e21;have oQ:=avE htk;generalize P[m]=pa at *;generalize P[m+1]=pb at *;unfold aK at hst;simp only at hst;have HC:=avE hst;clear hst htk ea eb hq;subst yA;have k2:IntKind.i64.wrap ((m:Int)+1-1)=m:=by rw [show (m:Int)+1-1=m by omega];exact avS _ Pe
     have k3:(m:Int)<P.length:=by omega
     have k8:IntKind.i64.wrap (m:Int)=m:=avS _ Pe;have k4:0<=(m:Int):=by omega
     have k5:(m:Int)+1-1=m:=by omega
     have k6:(m:Int)+1<P.length:=by omega
     have k7:0<=(m:Int)+1:=by omega
     rw [show (((m+1:Nat)):Int)=(m:Int)+1 from by omega];go_upto_region 7 with fail;refine Ah (w.heap.size) (wr) (.run 10 0 0 (.call 10 2047 (.done))) fun bZ QR aB aH hS=>?_
     iterate 10 refine aC ?_
     refine bK ?_;clear hS;intro K hK ak;go_simp;refine HC.out.mono ?_;rintro e w4 ⟨rfl,agZ,hb4⟩;have hS:fM w.heap.size wr w4:=Below.trans ak.out hb4;have aoW:=avE agZ;clear hb4 agZ;clear ak;refine hK.out _ _ hS (fun _=>?_);clear hK K
     try simp only [pu]
     refine o8 ?_;clear hS aH aB;intro hB;have aoX:=avE (Below.trans iT.out hB);clear hB e10 e11 e20 e21 hlp;go_wp2;go_roundw
     case rel => exact ⟨m+1+1,by omega,by omega,by go_num,by rw [show m+1+1-1=m+1 by omega,oQ.out,List.foldl_append];exact aoW.out,aoX.out⟩
     case measure => simp [intOf];omega
    ·obtain rfl:j=P.length:=by omega
     have hlS:(lW P).length=P.length-1:=by unfold lW;rw [avM,List.length_range]
     have hfin:=agY.out;rw [List.take_of_length_le Pe,<- nM.out,<- List.foldl_append,<- aoV.out] at hfin;have HF:=avE hfin;clear hfin hlS;go_wp2;go_roundw
     case rel => exact ⟨k+1,by omega,by go_num,HF.out,Below.trans jW.out iT.out⟩
     case measure => simp [intOf];omega
  ·obtain rfl:k=X.length:=by omega
   have hfin:=yC.out;rw [List.take_length,fH.out] at hfin;have HF:=avE hfin;clear hfin;go_wp2_with fail;exact bodyPost_end (v:=.tuple #[]) (results_none rfl _ _ _) rfl ⟨rfl,HF.out,jW.out⟩
end Go.Proofs.YtialfdomhoojiaaGreat
