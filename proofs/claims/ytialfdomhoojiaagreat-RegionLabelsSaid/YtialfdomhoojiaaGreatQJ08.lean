import Derived.Deep.CutBlock
import Derived.Test.YtialfdomhoojiaaGreatQJ07
set_option linter.unusedSimpArgs false
set_option linter.unusedVariables false
set_option maxRecDepth 100000
set_option maxHeartbeats 16000000
namespace Go.Proofs.YtialfdomhoojiaaGreat
open Go.RowKit
theorem Row.psg {w:World} {A:Option Addr} {l:List DX} (h:Row w A (l.flatMap IZ)) {k:Nat} (hk:k<l.length) :
  ∃ b o,A=some ⟨b,o,none⟩/\b<w.heap.size/\w.cell? ⟨b,o+k*2,none⟩=some (.pointer (some ⟨l[k].ln.g,0,none⟩))/\w.cell? ⟨b,o+k*2+1,none⟩=some (.int .i64 l[k].k):=by
 obtain ⟨b,o,hA,hb,hc⟩:=h.at_ (n:=2) (fun _=>rfl) hk AB;exact ⟨b,o,hA,hb,hc 0 _ rfl,hc 1 _ rfl⟩
theorem free_eq (s:DX) (n:Nd):Ld s n = !(Ea s.fst s.snd n.pt && !(((s.k:Int) == 0) && (s.ln.arc.fr == n.id)) && !(((s.k:Int) == (s.ln.path.length:Int)-2) && (s.ln.arc.dst == n.id))):=rfl
structure aot (f:Int->Pt) (nl:List Nd) (sl:List DX) (q:Bool):Prop where
 pair:∀ i j (_:i<j) (hj:j<sl.length),Il sl[j]<=PI (sl[i]'(by omega))->Ol f (sl[i]'(by omega)) sl[j]=false->q=false
 node:∀ i (hi:i<sl.length) m (hm:m<nl.length),Ld sl[i] nl[m]=false->q=false
 yes:(∀ i j (_:i<j) (hj:j<sl.length),Il sl[j]<=PI (sl[i]'(by omega))->Ol f (sl[i]'(by omega)) sl[j]=true)->(∀ i (hi:i<sl.length) m (hm:m<nl.length),Ld sl[i] nl[m]=true)->q=true
theorem verdict {p:Pl} (hp:Sound p) (hok:p.AP.all (Ko p)=true) {sl:List DX} (hs:(sl.map DX.abs).Perm (p.AP.flatMap (FT p))):aot (nodeAt p) p.nodes sl (MP p):=by
 have hl:=hp.aom hok sl hs;refine ⟨fun i j hij hj hw hc=>?_,fun i hi m hm hf=>?_,fun h1 h2=>hl.1 ⟨h1,fun s hs n hn=>?_⟩⟩
 · rw [<- JK];intro hq;have:=(hl.2 hq).1 i j hij hj hw;rw [hc] at this;cases this
 · rw [<- JK];intro hq;have:=(hl.2 hq).2 _ (BO hi) _ (BO hm);rw [hf] at this;cases this
 ·obtain ⟨i,hi,rfl⟩:=EF.1 hs;obtain ⟨m,hm,rfl⟩:=EF.1 hn;exact h2 i hi m hm
theorem aou (v:Value) (p:Pl) (w:World) (h:Ci w v p) (hsh:Short p) (hl:(p.AP.flatMap (FT p)).length<=2097152) (hnl:p.nodes.length<=4096)
  (aBV:∀ n∈p.nodes,En n.id) (hp:Sound p) :
  Calls Tryz.prog 173 #[v] w fun e w'=>e=.returned (.bool (MP p))/\AU w w':=by
 have hno:=@Sound.aon p hp;have agb:=fun hok sl hs=>@verdict p hp hok sl hs;have hlast:=aop p hp.nodes;have har:∀ a∈p.AP,En a.fr/\En a.dst:=fun a ha=>by
  obtain ⟨⟨n1,h1,e1⟩,⟨n2,h2,e2⟩⟩:=hp.aBU ha;exact ⟨e1 ▸ aBV n1 h1,e2 ▸ aBV n2 h2⟩
 have agc:∀ x∈p.AP.flatMap (FT p),En x.arc.fr/\En x.arc.dst:=fun x hx=>har _ (hp.mem hx).1;have hseg:=ap5 v p;have aov:=AA hseg;have HP:=AA h;have Hno:=AA hno;have agd:=AA agb;have agf:=AA agc;have Hsh:=AA hsh;have Hl:=AA hl;clear hno agb agc hseg hsh hl har hp;generalize MP p=q at *;obtain ⟨_,va,vf,al,rfl,-,⟨An,cn,rfl,hn1,hn2,hR⟩,-,-⟩:=h;unfold maxLen at hn2;have HR:=AA hR;clear hR;have hnw:∀ k (hk:k<p.nodes.length),En p.nodes[k].id:=fun k hk=>aBV _ (BO hk);clear aBV;have HNw:=AA hnw;clear hnw;generalize hF:nodeAt p=F at *;generalize hA:p.AP.flatMap (FT p)=AL at *;have aow:=AA hlast;clear hlast hF;have HA:=AA hA;clear hA;generalize hNl:p.nodes=nl at *;have HNl:=AA hNl;clear hNl;go_enter Tryz.func173,Tryz.ntmps173;go_wp2_with fail;refine (aov.out _ (HP.out.mono (bA (bR w) _)) Hsh.out Hl.out).mono ?_;rintro e w1 ⟨hb1,hr⟩;have Bw:AU w w1:=bT (bA (bR w) _) hb1;have X1:AO w1 w.heap.size 26 #[.slice An nl.length cn,va,vf]:=(AO.made rfl _ _).keep hb1;clear hb1
 cases hok:p.AP.all (Ko p)
 case false =>
  rw [hok] at hr;simp only [Rq,if_false] at hr;subst hr;have hf:=AA (Hno.out hok);clear hok;obtain ⟨BF,BG,BH,BI,-,-,-⟩:=X1.Az;go_wp2;go_ret;exact ⟨CW hf.out.symm,Bw⟩
 case true =>
 rw [hok] at hr;simp only [if_true] at hr;obtain ⟨sl,vs,rfl,hsl,agh,hown⟩:=hr;rw [HA.out] at hsl;have agi:sl.length<=2097152:=by have:=congrArg List.length hsl;rw [Cj] at this;have:=Hl.out;omega
 have hsz1:=Bw.size;have hs1:=Own.sl (Own.ES hown (b':=w.heap.size) Ak);obtain ⟨As,cs,rfl,hs1,hs2,-⟩:=hs1;unfold maxLen at hs2;have agj:=Own.lt hown;have FC:=AA (Own.ES hown (b':=w.heap.size) Ak);have agk:=AA agh;have UL:=AA hsl;have Dt:=AA X1;have agl:=AA (agd.out hok);clear hsl agh hown hok;have hnb:=FC.out.Dz X1 Aw;have agm:=AA agj;have Hnb:=AA hnb;clear agj hnb
 try clear BF BG BH BI
 obtain ⟨BF,BG,BH,BI,-,-,-⟩:=X1.Az;have iq:=AA (JB.made w1);have hmm:=@run_makeMap Tryz.prog;go_wp2_with fail;obtain ⟨W2,hW2⟩:=BR (w1.alloc (.map #[] 0));have QO:Hid (JB W2 w1.heap.size 0 (fun _=>z0)):=by rw [hW2];exact iq
 have hA2:AU w1 W2:=by rw [hW2];exact bA (bR w1) _
 have HB2:=AA hA2;rw [<- hW2];clear hmm hW2 hA2 X1 BF BG BH BI iq;have hx2:=HB2.out.size;go_loopw [27] (fun u wr=>∃ k:Nat,k<=nl.length/\u=.int .i64 k/\AU w1 wr/\JB wr w1.heap.size k (ig (nl.take k))) (fun u _=>nl.length-(intOf u).toNat)
 case atStart => exact ⟨0,Bv _,rfl,HB2.out,QO.out⟩
 case round =>
  obtain ⟨k,hk,rfl,hb,hm⟩:=hrel;have Hb:=AA hb;have Hm:=AA hm;have tX:=hb.size;clear hb hm;by_cases hlt:k<nl.length
  case pos =>
   obtain ⟨b,o,rfl,hlb,c0,c1,c2⟩:=(HR.out.mono (bT Bw Hb.out)).nd hlt;obtain ⟨w3,hr3,Q9,hg3⟩:=JB.upd (Hm.out.keep (bA (bR wr) (.cells #[.int .i64 nl[k].id,.int .i64 nl[k].pt.x,.int .i64 nl[k].pt.y] 45))) AB nl[k].id (HNw.out k hlt) nl[k].pt;have hm4:JB w3 w1.heap.size (k+1) (ig (nl.take (k+1))):=by rw [aoo nl k hlt];exact Q9
   have B3:AU w1 w3:=bG (bA Hb.out _) hg3 (fun g hg=>by injection hg with hg;omega);have Hm4:=AA hm4;have HB3:=AA B3;unfold BA at hr3;clear Q9 hg3 hm4 B3;go_wp2;go_roundw
   case rel => exact ⟨k+1,AB,BJ,HB3.out,Hm4.out⟩
   case measure => exact BL
  case neg =>
  have hall:nl.take k=nl:=IQ AB;have hm:=Hm.out;rw [hall,aow.out] at hm;have hkm:k<=4096:=by omega
  replace Hm:=AA hm;clear hm hall;go_wp2_with fail;refine (aos w.heap.size _ sl _ (FC.out.keep Hb.out) (fun s hs=>(agk.out s hs).keep Hb.out) AB).mono ?_;rintro e w4 ⟨rfl,sl',hperm,hsort,hown',hok',hg⟩;have hps:(sl'.map DX.abs).Perm AL:=by
   have:=hperm.map DX.abs
   rw [UL.out] at this;exact this
  have hwf:∀ s∈sl',En s.ln.arc.fr/\En s.ln.arc.dst:=fun s hs=>by
   have:=agf.out s.abs (hps.mem_iff.1 (Gh hs))
   exact this
  have hlen':sl'.length=sl.length:=hperm.length_eq;have B4:AU w w4:=bG (bT Bw Hb.out) hg (fun g hg'=>(FC.out.lt g hg').1);have hm4:JB w4 w1.heap.size k F:=Hm.out.kept hg (fun e=>by have:=(agm.out _ e.symm).2;omega);have X1:AO w4 w.heap.size 26 #[.slice An nl.length cn,va,vf]:=(Dt.out.keep Hb.out).grown hg (fun e=>Hnb.out e.symm);have hV:=agl.out sl' hps;have hrow:Row w4 As (sl'.flatMap IZ):=by
   obtain ⟨A0,c0,e0,-,-,hr0⟩:=Own.sl hown';injection e0 with e0 _ _;subst e0;exact hr0
  have HV:=AA hV;have D8:=AA X1;have iw:=AA hm4;have HB4:=AA B4;have dJ:=AA hok';have iI:=AA hrow;have aox:=AA hsort;have oW:=AA hwf;clear hps hperm hsort hown' hok' hg hwf B4 hm4 X1 hV hrow FC agk UL agf agd agl agm Hnb Hm QO Dt Hb HB2 tX hx2;have ays:sl'.length<=2097152:=by rw [hlen'];exact agi
  rw [<- hlen'] at hs1 ⊢;clear hlen' agi;go_wp2_with fail;obtain ⟨wo,rfl⟩:=BR wr;go_loopw [41] (fun u wr=>∃ i:Nat,i<=sl'.length/\u=.int .i64 i/\AU w4 wr/\(∀ a b (_:a<b) (hb:b<sl'.length),a<i->Il sl'[b]<=PI (sl'[a]'(by omega))->Ol F (sl'[a]'(by omega)) sl'[b]=true)/\(∀ a (ha:a<sl'.length) m (hm:m<nl.length),a<i->Ld sl'[a] nl[m]=true)) (fun u _=>sl'.length-(intOf u).toNat)
  case atStart => exact ⟨0,Bv _,rfl,bR w4,fun _ _ _ _ h=>by omega,fun _ _ _ _ h=>by omega⟩
  case round =>
   obtain ⟨i,hi,rfl,hb,uZ,Vl⟩:=hrel;have Hb:=AA hb;have adC:=AA uZ;have Qw:=AA Vl;clear hb uZ Vl;by_cases hlt:i<sl'.length
   case neg =>
    have hf:=AA (HV.out.yes (fun a b hab hb hw=>adC.out a b hab hb AB hw) (fun a ha m hm=>Qw.out a ha m hm AB));go_wp2;go_ret;exact ⟨CW hf.out.symm,bT HB4.out Hb.out⟩
   obtain ⟨b,o,hAs,hlb,c0,c1⟩:=(iI.out.mono Hb.out).psg hlt;obtain ⟨Ac,Cc,Rx⟩:∃ Ac Cc,Ac=uS As cs (i+1) 2/\Cc=cs-(i+1):=⟨_,_,rfl,rfl⟩;have agn:∀ W,(Instr.slice 224 (.slice As sl'.length cs) (some (.int .i64 ((i:Int)+1))) none none).run Tryz.prog W=.ok (.slice Ac (sl'.length-(i+1)) Cc) W:=fun W=>by
    rw [Rx.1,Rx.2];exact an1 Tryz.underlying224 aga As sl'.length cs (i+1) AB _ AB W
   have ah:=AA Rx;clear Rx;subst hAs;obtain ⟨dl,hdl⟩:=BR (sl'.drop (i+1));have hdn:sl'.length-(i+1)=dl.length:=by rw [hdl,mD]
   have hdg:∀ j (hj:j<dl.length),∃ h:i+1+j<sl'.length,dl[j]=sl'[i+1+j]:=fun j hj=>by
    subst hdl;rw [mD] at hj;exact ⟨AB,Ak⟩
   have agp:Row w4 Ac (dl.flatMap IZ):=by
    rw [ah.out.1,hdl,<- an2 IZ 2 aBO];exact iI.out.cut (by rw [flat_length IZ 2 aBO];omega)
   rw [hdn] at agn;have aj:=AA hdg;have agq:=AA agp;have HDn:=AA hdn;have hdb:dl.length<=2097152:=by omega
   clear hdl hdg agp ah hdn;have hsi:=AA ((dJ.out _ (BO hlt)));have agr:∀ j,i<j->∀ hj:j<sl'.length,Il sl'[j]<=PI sl'[i]->Ol F sl'[i] sl'[j]=false->q=false:=fun j hij hj=>HV.out.pair i j hij hj;have hnodes:∀ m (hm:m<nl.length),Ld sl'[i] nl[m]=false->q=false:=fun m hm=>HV.out.node i hlt m hm;have hdone:(∀ j,i<j->∀ hj:j<sl'.length,Il sl'[j]<=PI sl'[i]->Ol F sl'[i] sl'[j]=true)->(∀ a b (_:a<b) (hb:b<sl'.length),a<i+1->Il sl'[b]<=PI (sl'[a]'(by omega))->Ol F (sl'[a]'(by omega)) sl'[b]=true):=fun h a b hab hb ha=>by
    by_cases e:a<i
    · exact adC.out a b hab hb e
    ·have:a=i:=by omega
     subst this;exact h b hab hb
   have ags:(∀ m (hm:m<nl.length),Ld sl'[i] nl[m]=true)->(∀ a (ha:a<sl'.length) m (hm:m<nl.length),a<i+1->Ld sl'[a] nl[m]=true):=fun h a ha m hm hai=>by
    by_cases e:a<i
    · exact Qw.out a ha m hm e
    ·have:a=i:=by omega
     subst this;exact h m hm
   have agt:=oW.out _ (BO hlt);generalize agu:sl'[i]=si at *;have ak:=AA agu;have agv:=AA agr;have aBW:=AA hnodes;have agw:=AA hdone;have aoy:=AA ags;have agx:=AA agt;clear agu agr hnodes hdone ags adC Qw agt;have nM:IntKind.i64.wrap ((i:Int)+1)=(i:Int)+1:=D6 _ AB;have r3:0<=(i:Int)+1:=by omega
   have r4:(i:Int)+1<=sl'.length:=by omega
   have r5:((i:Int)+1).toNat=i+1:=by omega
   go_upto_block 4 with fail;obtain ⟨W5,IY⟩:=BR (wr.alloc (.cells #[.pointer (some ⟨si.ln.g,0,none⟩),.int .i64 si.k] 230));have Cm:=AA (show AU w4 W5 by rw [IY];exact bA Hb.out _);have X9:AO W5 wr.heap.size 230 #[.pointer (some ⟨si.ln.g,0,none⟩),.int .i64 si.k]:=by rw [IY];exact AO.made rfl _ _
   have MR:=AA X9;rw [<- IY];clear IY X9 agn nM r3 r4 r5 c0 c1 hlb;obtain ⟨wp,rfl⟩:=BR wr;have TW:∀ s:DX,∀ W,FZ W s->Calls Tryz.prog 228 #[IC s] W _:=fun s W h=>abk s W h;have TE:∀ s:DX,∀ W,FZ W s->Calls Tryz.prog 229 #[IC s] W _:=fun s W h=>anY s W h;have TC:∀ s t:DX,∀ W,FZ W s->FZ W t->JB W w1.heap.size k F->En s.ln.arc.fr->En s.ln.arc.dst->Calls Tryz.prog 230 #[IC s,IC t,.map (some w1.heap.size)] W _:=fun s t W h1 h2 h3 h4 h5=>apH F w1.heap.size k s t W h1 h2 h3 h4 h5;unfold IC at TW TE TC;have HTW:=AA TW;have HTE:=AA TE;have HTC:=AA TC;clear TW TE TC;go_cut [51] (fun u wx=>AU W5 wx/\∀ j,i<j->∀ hj:j<sl'.length,Il sl'[j]<=PI si->Ol F si sl'[j]=true)
   case first =>
    go_wp2_with fail;go_loopw [51] (fun u wx=>∃ j:Nat,j<=dl.length/\u=.int .i64 j/\AU W5 wx/\∀ m (hm:m<dl.length),m<j->Il dl[m]<=PI si->Ol F si dl[m]=true) (fun u _=>dl.length-(intOf u).toNat)
    case atStart => exact ⟨0,Bv _,rfl,bR W5,fun _ _ h=>by omega⟩
    case round =>
     obtain ⟨j,hj,rfl,hbx,hnx⟩:=hrel;have Fv:=AA hbx;have Uj:=AA hnx;have hxs:=hbx.size;have X9:=MR.out.keep hbx;clear hbx hnx;by_cases hlj:j<dl.length
     case neg =>
      have hf:=AA (show ∀ j,i<j->∀ hj:j<sl'.length,Il sl'[j]<=PI si->Ol F si sl'[j]=true from fun m him hm hw=>by
       have hd:=HDn.out;obtain ⟨h1,h2⟩:=aj.out (m-(i+1)) AB;have e:i+1+(m-(i+1))=m:=by omega
       simp only [e] at h2;have:=Uj.out (m-(i+1)) AB AB
       rw [h2] at this;exact this hw)
      go_wp2;go_meet
      case rel => exact ⟨Fv.out,hf.out⟩
     obtain ⟨b',o',rfl,QJ,d0,d1⟩:=(agq.out.mono (bT Cm.out Fv.out)).psg hlj;obtain ⟨hjs,hje⟩:=aj.out j hlj;have htj:=AA (dJ.out _ (BO hjs));rw [<- hje] at htj;have hwj:=AA hje;clear hje;go_upto_region 17 with fail;obtain ⟨W7,aBX⟩:=BR (wr.alloc (.cells #[.pointer (some ⟨dl[j].ln.g,0,none⟩),.int .i64 dl[j].k] 230));have WY:AU wr W7:=by rw [aBX];exact bA (bR wr) _
     have LH:AO W7 wr.heap.size 230 #[.pointer (some ⟨dl[j].ln.g,0,none⟩),.int .i64 dl[j].k]:=by rw [aBX];exact AO.made rfl _ _
     rw [<- aBX];replace X9:=X9.keep WY;have B7:=AA (bT Cm.out (bT Fv.out WY));have B7':=AA (bT Fv.out WY);clear aBX WY d0 d1 QJ;obtain ⟨Gv,Gw,JG,-,-⟩:=X9.BQ;obtain ⟨WZ,Wh,adD,-,-⟩:=LH.BQ;refine DJ (W7) (.take 0 1 (.take 2 5 (.call 1 7 (.call 3 15 (.take 4 31 (.done)))))) fun CU QR Ae Ah hS=>?_
     iterate 2 refine Aj ?_
     refine Bj ?_;clear hS;intro K hK AQ;go_simp;refine (HTW.out _ _ (htj.out.keep (bT B7.out AQ.out))).mono ?_;rintro e CX ⟨rfl,CV,-⟩;have hS:Since W7 CX:=bT (w:=W7) AQ.out CV;clear AQ;refine hK.out _ _ hS (fun _=>?_);clear hK K
     try simp only [pu]
     refine Bj ?_;clear hS;intro K hK AQ;go_simp;refine (HTE.out _ _ (hsi.out.keep (bT B7.out AQ.out))).mono ?_;rintro e wr2 ⟨rfl,Fp,-⟩;have hS:Since W7 wr2:=bT (w:=W7) AQ.out Fp;clear AQ;refine hK.out _ _ hS (fun _=>?_);clear hK K
     try simp only [pu]
     refine Aj ?_;refine DF ?_;clear hS Ah Ae;intro hB;have B8:=AA (bT B7.out hB);have B8':=AA (bT B7'.out hB);replace X9:=X9.keep hB;replace LH:=LH.keep hB;clear hB
     try clear Gv Gw JG
     obtain ⟨Gv,Gw,JG,-,-⟩:=X9.BQ
     try clear WZ Wh adD
     obtain ⟨WZ,Wh,adD,-,-⟩:=LH.BQ;by_cases hw:PI si<Il dl[j]
     ·have hf:=AA (show ∀ j,i<j->∀ hj:j<sl'.length,Il sl'[j]<=PI si->Ol F si sl'[j]=true from fun m him hm hwm=>by
       by_cases e:m<i+1+j
       ·have hd:=HDn.out;obtain ⟨h1,h2⟩:=aj.out (m-(i+1)) AB;have e:i+1+(m-(i+1))=m:=by omega
        simp only [e] at h2;have:=Uj.out (m-(i+1)) AB AB
        rw [h2] at this;exact this hwm
       ·have hs:Il dl[j]<=Il sl'[m]:=by
         rw [hwj.out];by_cases e':m=i+1+j
         · subst e';exact KH _
         · exact aox.out (i+1+j) m AB hm
        omega)
      go_wp2;go_meet
      case rel => exact ⟨B8'.out,hf.out⟩
     ·have hw':=AA hw;go_wp2_with fail;refine (HTC.out _ _ _ (hsi.out.keep B8.out) (htj.out.keep B8.out) (iw.out.keep B8.out) agx.out.1 agx.out.2).mono ?_;rintro e w9 ⟨rfl,OM⟩;have B9:=AA (bT B8'.out OM);clear OM X9 LH Gv Gw JG WZ Wh adD hw
      cases hc:Ol F si dl[j]
      case false =>
       have hf:=AA (show false=q by
        have hq:=agv.out (i+1+j) AB hjs;rw [<- hwj.out] at hq;exact (hq (by have:=hw'.out;omega) hc).symm)
       clear hc;go_wp2;go_ret;exact ⟨CW hf.out,bT HB4.out (bT Cm.out B9.out)⟩
      case true =>
       have hc':=AA hc;clear hc;go_wp2;go_roundw
       case rel => exact ⟨j+1,AB,BJ,B9.out,all_succ (p:=fun t=>Il t<=PI si->Ol F si t=true) Uj.out hlj (fun _=>hc'.out)⟩
       case measure => exact BL
   case rest =>
   obtain ⟨hbc,hpd⟩:=hcut;have au:=AA (agw.out hpd);have HBc:=AA (bT Cm.out hbc);have X9:=MR.out.keep hbc;replace MR:=AA X9;have X1:=D8.out.keep HBc.out;have HY:=AA (hsi.out.keep HBc.out);clear hbc hpd agv agw aj agq HDn X9 HTW HTE HTC hdb;have TS:∀ W,FZ W si->Calls Tryz.prog 231 #[IC si] W _:=fun W hW=>uh si W hW;have TO:∀ p q r:Pt,∀ W,Calls Tryz.prog 28 #[BA p,BA q,BA r] W _:=fun p q r W=>tJ p q r W;have TF:∀ W,Calls Tryz.prog 232 #[IC si] W _:=fun W=>ahA si W;have TL:∀ W,FZ W si->Calls Tryz.prog 233 #[IC si] W _:=fun W hW=>ahB si W hW;unfold IC at TS TF TL;unfold BA at TS TO;have HTS:=AA TS;have QA:=AA TO;have QS:=AA TF;have Rj:=AA TL;clear TS TO TF TL
   try clear BF BG BH BI
   obtain ⟨BF,BG,BH,BI,-,-,-⟩:=X1.Az;go_wp2_with fail;clear X1 BF BG BH BI;go_loopw [69] (fun u wx=>∃ m:Nat,m<=nl.length/\u=.int .i64 m/\AU wc wx/\∀ n (hn:n<nl.length),n<m->Ld si nl[n]=true) (fun u _=>nl.length-(intOf u).toNat)
   case atStart => exact ⟨0,Bv _,rfl,bR wc,fun _ _ h=>by omega⟩
   case round =>
    obtain ⟨m,hm,rfl,hbx,hnx⟩:=hrel;have Fv:=AA hbx;have Uj:=AA hnx;have X9:=MR.out.keep hbx;clear hbx hnx;by_cases hlm:m<nl.length
    case neg =>
     have hf:=AA (aoy.out (fun n hn=>Uj.out n hn AB));clear X9;go_wp2;go_roundw
     case rel => exact ⟨i+1,AB,BJ,bT HBc.out Fv.out,au.out,hf.out⟩
     case measure => exact BL
    obtain ⟨b,o,rfl,hlb,c0,c1,c2⟩:=(HR.out.mono (bT HB4.out (bT HBc.out Fv.out))).nd hlm
    try clear Gv Gw JG
    obtain ⟨Gv,Gw,JG,-,-⟩:=X9.BQ;go_wp2_with fail;refine (HTS.out _ (HY.out.keep (bA Fv.out _))).mono ?_;rintro e w10 ⟨rfl,Ry,-⟩;have hA10:AU wr w10:=bT (bA (bR wr) _) Ry;have Tt:AO w10 wr.heap.size 45 #[.int .i64 nl[m].id,.int .i64 nl[m].pt.x,.int .i64 nl[m].pt.y]:=(AO.made rfl _ _).keep Ry;replace X9:=X9.keep hA10;replace Fv:=AA (bT Fv.out hA10);clear Ry hA10 c0 c1 c2 hlb Gv Gw JG;go_upto_region 25 with fail;obtain ⟨EX,uU⟩:=BR ((w10.alloc (.cells #[.int .i64 si.fst.x,.int .i64 si.fst.y] 39)).alloc (.cells #[.int .i64 si.snd.x,.int .i64 si.snd.y] 39));have aBY:AU w10 EX:=by rw [uU];exact bA (bA (bR w10) _) _
    have Tq:AO EX w10.heap.size 39 #[.int .i64 si.fst.x,.int .i64 si.fst.y]:=by rw [uU];exact (AO.made rfl _ _).alloc _
    have Wi:AO EX (w10.heap.size+1) 39 #[.int .i64 si.snd.x,.int .i64 si.snd.y]:=by rw [uU];exact AO.made Ak _ _
    rw [<- uU];replace X9:=X9.keep aBY;replace Tt:=Tt.keep aBY;replace Fv:=AA (bT Fv.out aBY);have Y:=(HY.out.keep Fv.out).line;clear uU aBY
    try clear Gv Gw JG
    obtain ⟨Gv,Gw,JG,-,-⟩:=X9.BQ;obtain ⟨vZ,vg,vk,ayt,-,-,-⟩:=Tt.Az;obtain ⟨WU,WV,WW,-,-⟩:=Tq.BQ;obtain ⟨vw,wE,wF,-,-⟩:=Wi.BQ;obtain ⟨Yl,Ya,Yb,Yc,Yd,Ye,Yf,Yg,-,-,-,-,-,-,-⟩:=Y.dP;have hfe:=AA (free_eq si nl[m]);have TF:=QS.out;have TL:=Rj.out;have TO:=QA.out si.fst si.snd nl[m].pt
    cases e1:Ea si.fst si.snd nl[m].pt
    case false =>
     rw [e1] at TO;have hf:=AA (show Ld si nl[m]=true by rw [hfe.out];simp only [e1];rfl);have QA:=AA TO;have QS:=AA TF;have Rj:=AA TL;clear TO TF TL hfe e1;refine DJ (EX) (.run 4 0 0 (.call 4 31 (.run 32 5 31 (.done)))) fun CU QR Ae Ah hS=>?_
     iterate 4 refine Aj ?_
     refine Bj ?_;clear hS;intro K hK AQ;go_simp;refine (QA.out _).mono ?_;rintro e CX ⟨rfl,CV⟩;have hS:Since EX CX:=bT (w:=EX) AQ.out CV;clear AQ;refine hK.out _ _ hS (fun _=>?_);clear hK K
     try simp only [pu]
     refine Aj ?_
     iterate 14 refine Jh ?_
     iterate 2 refine Aj ?_
     iterate 14 refine Jh ?_
     refine Aj ?_;refine DF ?_;clear hS Ah Ae;intro hB;go_wp2;go_roundw
     case rel => exact ⟨m+1,AB,BJ,bT Fv.out hB,all_succ (p:=fun n=>Ld si n=true) Uj.out hlm hf.out⟩
     case measure => exact BL
    case true =>
     rw [e1] at TO
     cases e2:((si.k:Int) == 0)
     case false =>
      rw [e2] at TF
      cases e4:((si.k:Int) == (si.ln.path.length:Int)-2)
      case false =>
       rw [e4] at TL;have hf:=AA (show Ld si nl[m]=false by rw [hfe.out];simp only [e1,e2,e4];rfl);have QA:=AA TO;have QS:=AA TF;have Rj:=AA TL;clear TO TF TL hfe e1 e2 e4;refine DJ (EX) (.run 4 0 0 (.call 4 31 (.take 5 63 (.take 6 127 (.call 7 255 (.run 15 8 255 (.call 23 16777215 (.run 13 24 16777215 (.done))))))))) fun CU QR Ae Ah hS=>?_
       iterate 4 refine Aj ?_
       refine Bj ?_;clear hS;intro K hK AQ;go_simp;refine (QA.out _).mono ?_;rintro e CX ⟨rfl,CV⟩;have hS:Since EX CX:=bT (w:=EX) AQ.out CV;clear AQ;refine hK.out _ _ hS (fun _=>?_);clear hK K
       try simp only [pu]
       refine Aj ?_;refine Du ?_;refine Bj ?_;clear hS;intro K hK AQ;go_simp;refine (QS.out _).mono ?_;rintro e wr2 ⟨rfl,Fp⟩;have hS:Since EX wr2:=bT (w:=EX) AQ.out Fp;clear AQ;refine hK.out _ _ hS (fun _=>?_);clear hK K
       try simp only [pu]
       refine Du ?_
       iterate 9 refine Jh ?_
       iterate 2 refine Du ?_
       iterate 2 refine Aj ?_
       refine Du ?_;refine Bj ?_;clear hS;intro K hK AQ;go_simp;refine (Rj.out _ (HY.out.keep (bT Fv.out AQ.out))).mono ?_;rintro e wr3 ⟨rfl,PK⟩;have hS:Since EX wr3:=bT (w:=EX) AQ.out PK;clear AQ;refine hK.out _ _ hS (fun _=>?_);clear hK K
       try simp only [pu]
       refine Du ?_
       iterate 9 refine Jh ?_
       iterate 2 refine Du ?_
       refine Aj ?_;refine DF ?_;clear hS Ah Ae;intro hB;have hr:=AA (aBW.out m hlm hf.out);go_wp2;go_ret;exact ⟨CW hr.out.symm,bT HB4.out (bT HBc.out (bT Fv.out hB))⟩
      case true =>
       rw [e4] at TL
       cases e5:(si.ln.arc.dst == nl[m].id)
       case false =>
        have hf:=AA (show Ld si nl[m]=false by rw [hfe.out];simp only [e1,e2,e4,e5];rfl);have QA:=AA TO;have QS:=AA TF;have Rj:=AA TL;clear TO TF TL hfe e1 e2 e4;refine DJ (EX) (.run 4 0 0 (.call 4 31 (.take 5 63 (.take 6 127 (.call 7 255 (.run 15 8 255 (.call 23 16777215 (.run 13 24 16777215 (.done))))))))) fun CU QR Ae Ah hS=>?_
        iterate 4 refine Aj ?_
        refine Bj ?_;clear hS;intro K hK AQ;go_simp;refine (QA.out _).mono ?_;rintro e CX ⟨rfl,CV⟩;have hS:Since EX CX:=bT (w:=EX) AQ.out CV;clear AQ;refine hK.out _ _ hS (fun _=>?_);clear hK K
        try simp only [pu]
        refine Aj ?_;refine Du ?_;refine Bj ?_;clear hS;intro K hK AQ;go_simp;refine (QS.out _).mono ?_;rintro e wr2 ⟨rfl,Fp⟩;have hS:Since EX wr2:=bT (w:=EX) AQ.out Fp;clear AQ;refine hK.out _ _ hS (fun _=>?_);clear hK K
        try simp only [pu]
        refine Du ?_
        iterate 9 refine Jh ?_
        iterate 2 refine Du ?_
        iterate 2 refine Aj ?_
        refine Du ?_;refine Bj ?_;clear hS;intro K hK AQ;go_simp;refine (Rj.out _ (HY.out.keep (bT Fv.out AQ.out))).mono ?_;rintro e wr3 ⟨rfl,PK⟩;have hS:Since EX wr3:=bT (w:=EX) AQ.out PK;clear AQ;refine hK.out _ _ hS (fun _=>?_);clear hK K
        try simp only [pu]
        iterate 12 refine Du ?_
        refine Aj ?_;refine DF ?_;clear hS Ah Ae;intro hB;have hr:=AA (aBW.out m hlm hf.out);go_wp2;go_ret;exact ⟨CW hr.out.symm,bT HB4.out (bT HBc.out (bT Fv.out hB))⟩
       case true =>
        have hf:=AA (show Ld si nl[m]=true by rw [hfe.out];simp only [e1,e2,e4,e5];rfl);have QA:=AA TO;have QS:=AA TF;have Rj:=AA TL;clear TO TF TL hfe e1 e2 e4;refine DJ (EX) (.run 4 0 0 (.call 4 31 (.take 5 63 (.take 6 127 (.call 7 255 (.run 15 8 255 (.call 23 16777215 (.run 13 24 16777215 (.done))))))))) fun CU QR Ae Ah hS=>?_
        iterate 4 refine Aj ?_
        refine Bj ?_;clear hS;intro K hK AQ;go_simp;refine (QA.out _).mono ?_;rintro e CX ⟨rfl,CV⟩;have hS:Since EX CX:=bT (w:=EX) AQ.out CV;clear AQ;refine hK.out _ _ hS (fun _=>?_);clear hK K
        try simp only [pu]
        refine Aj ?_;refine Du ?_;refine Bj ?_;clear hS;intro K hK AQ;go_simp;refine (QS.out _).mono ?_;rintro e wr2 ⟨rfl,Fp⟩;have hS:Since EX wr2:=bT (w:=EX) AQ.out Fp;clear AQ;refine hK.out _ _ hS (fun _=>?_);clear hK K
        try simp only [pu]
        refine Du ?_
        iterate 9 refine Jh ?_
        iterate 2 refine Du ?_
        iterate 2 refine Aj ?_
        refine Du ?_;refine Bj ?_;clear hS;intro K hK AQ;go_simp;refine (Rj.out _ (HY.out.keep (bT Fv.out AQ.out))).mono ?_;rintro e wr3 ⟨rfl,PK⟩;have hS:Since EX wr3:=bT (w:=EX) AQ.out PK;clear AQ;refine hK.out _ _ hS (fun _=>?_);clear hK K
        try simp only [pu]
        iterate 12 refine Du ?_
        refine Aj ?_;refine DF ?_;clear hS Ah Ae;intro hB;go_wp2;go_roundw
        case rel => exact ⟨m+1,AB,BJ,bT Fv.out hB,all_succ (p:=fun n=>Ld si n=true) Uj.out hlm hf.out⟩
        case measure => exact BL
     case true =>
      rw [e2] at TF
      cases e3:(si.ln.arc.fr == nl[m].id)
      case false =>
       cases e4:((si.k:Int) == (si.ln.path.length:Int)-2)
       case false =>
        rw [e4] at TL;have hf:=AA (show Ld si nl[m]=false by rw [hfe.out];simp only [e1,e2,e3,e4];rfl);have QA:=AA TO;have QS:=AA TF;have Rj:=AA TL;clear TO TF TL hfe e1 e2 e4;refine DJ (EX) (.run 4 0 0 (.call 4 31 (.take 5 63 (.take 6 127 (.call 7 255 (.run 15 8 255 (.call 23 16777215 (.run 13 24 16777215 (.done))))))))) fun CU QR Ae Ah hS=>?_
        iterate 4 refine Aj ?_
        refine Bj ?_;clear hS;intro K hK AQ;go_simp;refine (QA.out _).mono ?_;rintro e CX ⟨rfl,CV⟩;have hS:Since EX CX:=bT (w:=EX) AQ.out CV;clear AQ;refine hK.out _ _ hS (fun _=>?_);clear hK K
        try simp only [pu]
        refine Aj ?_;refine Du ?_;refine Bj ?_;clear hS;intro K hK AQ;go_simp;refine (QS.out _).mono ?_;rintro e wr2 ⟨rfl,Fp⟩;have hS:Since EX wr2:=bT (w:=EX) AQ.out Fp;clear AQ;refine hK.out _ _ hS (fun _=>?_);clear hK K
        try simp only [pu]
        iterate 12 refine Du ?_
        iterate 2 refine Aj ?_
        refine Du ?_;refine Bj ?_;clear hS;intro K hK AQ;go_simp;refine (Rj.out _ (HY.out.keep (bT Fv.out AQ.out))).mono ?_;rintro e wr3 ⟨rfl,PK⟩;have hS:Since EX wr3:=bT (w:=EX) AQ.out PK;clear AQ;refine hK.out _ _ hS (fun _=>?_);clear hK K
        try simp only [pu]
        refine Du ?_
        iterate 9 refine Jh ?_
        iterate 2 refine Du ?_
        refine Aj ?_;refine DF ?_;clear hS Ah Ae;intro hB;have hr:=AA (aBW.out m hlm hf.out);go_wp2;go_ret;exact ⟨CW hr.out.symm,bT HB4.out (bT HBc.out (bT Fv.out hB))⟩
       case true =>
        rw [e4] at TL
        cases e5:(si.ln.arc.dst == nl[m].id)
        case false =>
         have hf:=AA (show Ld si nl[m]=false by rw [hfe.out];simp only [e1,e2,e3,e4,e5];rfl);have QA:=AA TO;have QS:=AA TF;have Rj:=AA TL;clear TO TF TL hfe e1 e2 e4;refine DJ (EX) (.run 4 0 0 (.call 4 31 (.take 5 63 (.take 6 127 (.call 7 255 (.run 15 8 255 (.call 23 16777215 (.run 13 24 16777215 (.done))))))))) fun CU QR Ae Ah hS=>?_
         iterate 4 refine Aj ?_
         refine Bj ?_;clear hS;intro K hK AQ;go_simp;refine (QA.out _).mono ?_;rintro e CX ⟨rfl,CV⟩;have hS:Since EX CX:=bT (w:=EX) AQ.out CV;clear AQ;refine hK.out _ _ hS (fun _=>?_);clear hK K
         try simp only [pu]
         refine Aj ?_;refine Du ?_;refine Bj ?_;clear hS;intro K hK AQ;go_simp;refine (QS.out _).mono ?_;rintro e wr2 ⟨rfl,Fp⟩;have hS:Since EX wr2:=bT (w:=EX) AQ.out Fp;clear AQ;refine hK.out _ _ hS (fun _=>?_);clear hK K
         try simp only [pu]
         iterate 12 refine Du ?_
         iterate 2 refine Aj ?_
         refine Du ?_;refine Bj ?_;clear hS;intro K hK AQ;go_simp;refine (Rj.out _ (HY.out.keep (bT Fv.out AQ.out))).mono ?_;rintro e wr3 ⟨rfl,PK⟩;have hS:Since EX wr3:=bT (w:=EX) AQ.out PK;clear AQ;refine hK.out _ _ hS (fun _=>?_);clear hK K
         try simp only [pu]
         iterate 12 refine Du ?_
         refine Aj ?_;refine DF ?_;clear hS Ah Ae;intro hB;have hr:=AA (aBW.out m hlm hf.out);go_wp2;go_ret;exact ⟨CW hr.out.symm,bT HB4.out (bT HBc.out (bT Fv.out hB))⟩
        case true =>
         have hf:=AA (show Ld si nl[m]=true by rw [hfe.out];simp only [e1,e2,e3,e4,e5];rfl);have QA:=AA TO;have QS:=AA TF;have Rj:=AA TL;clear TO TF TL hfe e1 e2 e4;refine DJ (EX) (.run 4 0 0 (.call 4 31 (.take 5 63 (.take 6 127 (.call 7 255 (.run 15 8 255 (.call 23 16777215 (.run 13 24 16777215 (.done))))))))) fun CU QR Ae Ah hS=>?_
         iterate 4 refine Aj ?_
         refine Bj ?_;clear hS;intro K hK AQ;go_simp;refine (QA.out _).mono ?_;rintro e CX ⟨rfl,CV⟩;have hS:Since EX CX:=bT (w:=EX) AQ.out CV;clear AQ;refine hK.out _ _ hS (fun _=>?_);clear hK K
         try simp only [pu]
         refine Aj ?_;refine Du ?_;refine Bj ?_;clear hS;intro K hK AQ;go_simp;refine (QS.out _).mono ?_;rintro e wr2 ⟨rfl,Fp⟩;have hS:Since EX wr2:=bT (w:=EX) AQ.out Fp;clear AQ;refine hK.out _ _ hS (fun _=>?_);clear hK K
         try simp only [pu]
         iterate 12 refine Du ?_
         iterate 2 refine Aj ?_
         refine Du ?_;refine Bj ?_;clear hS;intro K hK AQ;go_simp;refine (Rj.out _ (HY.out.keep (bT Fv.out AQ.out))).mono ?_;rintro e wr3 ⟨rfl,PK⟩;have hS:Since EX wr3:=bT (w:=EX) AQ.out PK;clear AQ;refine hK.out _ _ hS (fun _=>?_);clear hK K
         try simp only [pu]
         iterate 12 refine Du ?_
         refine Aj ?_;refine DF ?_;clear hS Ah Ae;intro hB;go_wp2;go_roundw
         case rel => exact ⟨m+1,AB,BJ,bT Fv.out hB,all_succ (p:=fun n=>Ld si n=true) Uj.out hlm hf.out⟩
         case measure => exact BL
      case true =>
       have hf:=AA (show Ld si nl[m]=true by rw [hfe.out];simp only [e1,e2,e3];rfl);have QA:=AA TO;have QS:=AA TF;have Rj:=AA TL;clear TO TF TL hfe e1 e2;refine DJ (EX) (.run 4 0 0 (.call 4 31 (.take 5 63 (.take 6 127 (.call 7 255 (.run 29 8 255 (.done))))))) fun CU QR Ae Ah hS=>?_
       iterate 4 refine Aj ?_
       refine Bj ?_;clear hS;intro K hK AQ;go_simp;refine (QA.out _).mono ?_;rintro e CX ⟨rfl,CV⟩;have hS:Since EX CX:=bT (w:=EX) AQ.out CV;clear AQ;refine hK.out _ _ hS (fun _=>?_);clear hK K
       try simp only [pu]
       refine Aj ?_;refine Du ?_;refine Bj ?_;clear hS;intro K hK AQ;go_simp;refine (QS.out _).mono ?_;rintro e wr2 ⟨rfl,Fp⟩;have hS:Since EX wr2:=bT (w:=EX) AQ.out Fp;clear AQ;refine hK.out _ _ hS (fun _=>?_);clear hK K
       try simp only [pu]
       iterate 12 refine Du ?_
       iterate 2 refine Aj ?_
       iterate 14 refine Jh ?_
       refine Aj ?_;refine DF ?_;clear hS Ah Ae;intro hB;go_wp2;go_roundw
       case rel => exact ⟨m+1,AB,BJ,bT Fv.out hB,all_succ (p:=fun n=>Ld si n=true) Uj.out hlm hf.out⟩
       case measure => exact BL
theorem aoz (p:Pl) (a:Ar):hasB (p.nodes.map (·.id)) a=JY p a:=by
 have h:∀ id:Int,(p.nodes.map (·.id)).any (fun y=>y == id)=(J3 p.nodes id).isSome:=fun id=>by
  unfold J3;rw [gZ,MH,OC,List.find?_isSome];rfl
 unfold hasB JY;rw [h,h]
theorem agy (p:Pl):V4 p (p.nodes.map (·.id))=if UJ (p.nodes.map (·.pt))=true then 8 else if p.AP.all (JY p)=false then 7 else if SI p=false then 12 else 0:=by
 unfold V4
 have:hasB (p.nodes.map (·.id))=JY p:=funext fun a=>aoz p a
 rw [this]
theorem aoQ (p:Pl) (h:Ji p=false):IG p=if QL p=false then 10 else if Nb p=false then 2 else if V4 p (p.nodes.map (·.id))=0 then (if MP p=false then 11 else 0) else V4 p (p.nodes.map (·.id)):=by
 unfold IG;rw [h,agy];rw [AX (show ¬ false=true by decide)];split
 · rfl
 split
 · rfl
 split
 · rfl
 split
 · rfl
 split
 · rfl
 · rfl
theorem aoR (p:Pl) (h:V4 p (p.nodes.map (·.id))=0):∀ a∈p.AP,JY p a=true:=by
 rw [agy] at h
 cases h2:p.AP.all (JY p)
 ·rw [h2] at h;split at h
  · omega
  · simp at h
 · exact KU.1 h2
theorem aoS (p:Pl):iQ p=(Vk p).all KY:=by
 unfold iQ Vk;have h:∀ l:List Pt,(!l.any MK)=l.all KY:=fun l=>by
  induction l with
  | nil=>rfl
  | cons a l ih=>rw [aAM,aAF,Bool.not_or,ih,aoN,Bool.not_not]
 rw [List.all_append,List.all_flatMap,XJ];have h1:(!p.nodes.any fun n=>MK n.pt)=p.nodes.all (KY ∘ fun n=>n.pt):=by
  have:=h (p.nodes.map (·.pt))
  rw [gZ,XJ] at this;exact this
 have h2:(!p.AP.any fun a=>a.via.any MK)=p.AP.all fun a=>a.via.all KY:=by
  rw [List.not_any_eq_all_not];congr 1
  funext a
  exact h a.via
 rw [h1,h2]
theorem wG (p:Pl):Nb p=(!(p.nodes.map (·.id)).any Jj && !(p.AP.map (·.id)).any Jj && !p.faces.any Jj && iQ p):=by
 unfold Nb;rw [aoS,aAN,aAN,Bool.not_or,Bool.not_or]
theorem aoT {α:Type} {l:List α} {q:α->Bool} (h:l.any q=false):∀ x∈l,q x=false:=fun x hx=>by
 rw [XO] at h;have:=h x hx
 simpa using this
theorem aoU {l:List Nd} (h:(l.map (·.id)).any Jj=false):∀ n∈l,En n.id:=fun n hn=>by
 have:=aoT h n.id (Gh hn)
 simp only [Jj,QC,Iy] at this;exact N8 AB AB
theorem aoV {p:Pl} (h:Ji p=false):(p.AP.flatMap (FT p)).length<=2097152:=by
 obtain ⟨h1,h2,h3,h4,h5⟩:=ug h;have hl:=aBJ p.AP (FT p) 65 (fun a ha=>by
  simp only [FT,Cj,PO];unfold pathOf
  cases hb:findAr p.AP a.id with
  | none=>simp
  | some b =>
   simp only [];split
   ·have:=h1 b (aBD hb)
    simp only [H9,Ey];omega
   · simp)
 omega
theorem agz (v:Value) (p:Pl) (w:World) (h:Ci w v p) :
  Calls Tryz.prog 115 #[v] w fun e w'=>e=.returned (.int .i64 (IG p))/\AU w w':=by
 have HP:=AA h;obtain ⟨_,_,_,al,rfl,hpa,⟨An,cn,rfl,hn1,hn2,-⟩,⟨⟨Aa,ca,rfl,ha1,ha2,FD⟩,hV⟩,hF⟩:=h;have HF:=AA hF;obtain ⟨Af,cf,rfl,hf1,hf2,-⟩:=hF;unfold maxLen at hn2 ha2 hf2;have HV:=AA hV;clear hV;have GN:=AA FD;clear FD;obtain ⟨q,hq⟩:=BN (IG p);rw [hq];have hq2:=hq;unfold IG at hq;have hbig:256<p.nodes.length\/256<al.length\/64<p.faces.length->3=q:=fun hh=>by
  rw [<- hq,AZ];unfold Ji;rw [hpa,Cj];simp only [KD,EO];omega
 have Rk:∀ k (hk:k<al.length),64<al[k].1.via.length->3=q:=fun k hk hh=>by
  rw [<- hq,AZ];unfold Ji;rw [hpa,gZ];have:=SB al ((fun a=>decide (64<a.via.length)) ∘ fun x=>x.1) k hk (by simpa using hh)
  rw [this];rfl
 have hsmall:¬ 256<p.nodes.length->¬ 256<al.length->¬ 64<p.faces.length->(∀ k (hk:k<al.length),¬ 64<al[k].1.via.length)->Ji p=false:=fun h1 h2 h3 h4=>by
  unfold Ji;rw [hpa,Cj,gZ];have:=Ue al ((fun a=>decide (64<a.via.length)) ∘ fun x=>x.1) (fun j hj=>by have:=h4 j hj;simpa using this)
  rw [this,Gg h1,Gg h2,Gg h3];rfl
 have Hq:=AA hq2;have Wj:=AA hbig;have ah0:=AA Rk;have agR:=AA hsmall;have dK:=AA hpa;clear hq hq2 hbig Rk hsmall hpa;go_enter Tryz.func115,Tryz.ntmps115;by_cases g1:256<p.nodes.length
 ·have hf:=AA (Wj.out (.inl g1));go_wp2;go_ret;exact ⟨Df hf.out,bA (bR w) _⟩
 by_cases g2:256<al.length
 ·have hf:=AA (Wj.out (.inr (.inl g2)));go_wp2;go_ret;exact ⟨Df hf.out,bA (bR w) _⟩
 by_cases g3:64<p.faces.length
 ·have hf:=AA (Wj.out (.inr (.inr g3)));go_wp2;go_ret;exact ⟨Df hf.out,bA (bR w) _⟩
 go_wp2_with fail;obtain ⟨W1,hW1⟩:=BR (w.alloc (.cells #[.slice An p.nodes.length cn,.slice Aa al.length ca,.slice Af p.faces.length cf] 26));have HB1:=AA (show AU w W1 by rw [hW1];exact bA (bR w) _);have Dt:Hid (AO W1 w.heap.size 26 #[.slice An p.nodes.length cn,.slice Aa al.length ca,.slice Af p.faces.length cf]):=AA (by rw [hW1];exact AO.made rfl _ _);rw [<- hW1];clear hW1;go_loopw [26] (fun u wr=>∃ k:Nat,k<=al.length/\u=.int .i64 k/\AU W1 wr/\∀ j (hj:j<al.length),j<k->¬ 64<al[j].1.via.length) (fun u _=>al.length-(intOf u).toNat)
 case atStart => exact ⟨0,Bv _,rfl,bR W1,fun _ _ h=>by omega⟩
 case round =>
 obtain ⟨k,hk,rfl,hb,hno⟩:=hrel;have Hb:=AA hb;have Hno:=AA hno;have X1:=Dt.out.keep hb;clear hb hno;obtain ⟨BF,BG,BH,BI,-,-,-⟩:=X1.Az;by_cases hlt:k<al.length
 case pos =>
  obtain ⟨b,o,rfl,hlb,c0,c1,c2,c3,c4,c5⟩:=(GN.out.mono (bT HB1.out Hb.out)).ar hlt;obtain ⟨Av,cv,hv,hv1,hv2,-⟩:=HV.out k hlt;unfold maxLen at hv2;rw [hv] at c3;clear hv;by_cases hbig:64<al[k].1.via.length
  ·have hf:=AA (ah0.out k hlt hbig);go_wp2;go_ret;exact ⟨Df hf.out,bT HB1.out (bA Hb.out _)⟩
  ·have hb':=AA hbig;go_wp2;go_roundw
   case rel => exact ⟨k+1,AB,BJ,bA Hb.out _,all_succ (p:=fun a=>¬ 64<a.1.via.length) Hno.out hlt hb'.out⟩
   case measure => exact BL
 case neg =>
 have hlim:=agR.out g1 g2 g3 (fun j hj=>Hno.out j hj AB);have hlen:=aoV hlim;have hq:=Hq.out;rw [aoQ p hlim] at hq;have ayu:=AA hlim;have HLen:=AA hlen;have hsh:Short p:=fun a ha=>by have:=(ug hlim).1 a ha;omega
 have DW:=AA hsh;replace Hq:=AA hq;have aoW:p.AP.length<=4096:=by rw [dK.out,Cj];omega
 clear hlim hlen hsh hq Wj ah0 agR HV GN Hno;have Bw:=bT HB1.out Hb.out;clear Hb;go_wp2_with fail;refine (anZ _ p _ (HP.out.mono Bw) AB aoW).mono ?_;rintro e w2 ⟨v2,u2,rfl,hb2,ho1,ho2⟩;have Hg:=AA (Own.sl ho1);have F9:=AA (Own.sl ho2);replace Bw:=bT Bw hb2;replace X1:=X1.keep hb2;clear hb2 ho1 ho2
 try clear BF BG BH BI
 obtain ⟨BF,BG,BH,BI,-,-,-⟩:=X1.Az;obtain ⟨wz,rfl⟩:=BR w2;go_wp2_with fail;refine (ac0 _ _ _ Hg.out).mono ?_;rintro e w3 ⟨rfl,hb3⟩;have B3:=hb3;replace X1:=X1.keep hb3;clear hb3
 try clear BF BG BH BI
 obtain ⟨BF,BG,BH,BI,-,-,-⟩:=X1.Az
 cases h1:OH (p.nodes.map (·.id))
 case false =>
  have hf:=AA (show 10=q by rw [<- Hq.out,AZ (by simp [QL,h1])]);clear h1;go_wp2;go_ret;exact ⟨Df hf.out,bT Bw B3⟩
 have H1:=AA h1;clear h1;go_wp2_with fail;refine (ac0 _ _ _ (F9.out.mono B3)).mono ?_;rintro e w4 ⟨rfl,hb4⟩;have B4:=bT B3 hb4;replace X1:=X1.keep hb4;clear hb4 B3
 try clear BF BG BH BI
 obtain ⟨BF,BG,BH,BI,-,-,-⟩:=X1.Az
 cases h1:OH (p.AP.map (·.id))
 case false =>
  have hf:=AA (show 10=q by rw [<- Hq.out,AZ (by simp [QL,h1])]);clear h1;go_wp2;go_ret;exact ⟨Df hf.out,bT Bw B4⟩
 have H2:=AA h1;clear h1;go_wp2_with fail;refine (ac0 _ _ _ (HF.out.mono (bT Bw B4))).mono ?_;rintro e w5 ⟨rfl,hb5⟩;have B5:=bT B4 hb5;replace X1:=X1.keep hb5;clear hb5 B4
 try clear BF BG BH BI
 obtain ⟨BF,BG,BH,BI,-,-,-⟩:=X1.Az
 cases h1:OH p.faces
 case false =>
  have hf:=AA (show 10=q by rw [<- Hq.out,AZ (by simp [QL,h1])]);clear h1;go_wp2;go_ret;exact ⟨Df hf.out,bT Bw B5⟩
 have hq:=Hq.out;rw [AX (show ¬ QL p=false by simp [QL,h1,H1.out,H2.out])] at hq;replace Hq:=AA hq;clear hq h1;go_wp2_with fail;refine (ac2 _ _ _ (Hg.out.mono B5)).mono ?_;rintro e w6 ⟨rfl,hb6⟩;have B6:=bT B5 hb6;replace X1:=X1.keep hb6;clear hb6 B5
 try clear BF BG BH BI
 obtain ⟨BF,BG,BH,BI,-,-,-⟩:=X1.Az
 cases h1:(p.nodes.map (·.id)).any Jj
 case true =>
  have hf:=AA (show 2=q by rw [<- Hq.out,AZ (by rw [wG,h1];rfl)]);clear h1;go_wp2;go_ret;exact ⟨Df hf.out,bT Bw B6⟩
 have H3:=AA h1;clear h1;go_wp2_with fail;refine (ac2 _ _ _ (F9.out.mono B6)).mono ?_;rintro e w7 ⟨rfl,hb7⟩;have B7:=bT B6 hb7;replace X1:=X1.keep hb7;clear hb7 B6
 try clear BF BG BH BI
 obtain ⟨BF,BG,BH,BI,-,-,-⟩:=X1.Az
 cases h1:(p.AP.map (·.id)).any Jj
 case true =>
  have hf:=AA (show 2=q by rw [<- Hq.out,AZ (by rw [wG,h1];simp)]);clear h1;go_wp2;go_ret;exact ⟨Df hf.out,bT Bw B7⟩
 have H4:=AA h1;clear h1;go_wp2_with fail;refine (ac2 _ _ _ (HF.out.mono (bT Bw B7))).mono ?_;rintro e w8 ⟨rfl,hb8⟩;have B8:=bT B7 hb8;replace X1:=X1.keep hb8;clear hb8 B7
 try clear BF BG BH BI
 obtain ⟨BF,BG,BH,BI,-,-,-⟩:=X1.Az
 cases h1:p.faces.any Jj
 case true =>
  have hf:=AA (show 2=q by rw [<- Hq.out,AZ (by rw [wG,h1];simp)]);clear h1;go_wp2;go_ret;exact ⟨Df hf.out,bT Bw B8⟩
 have H5:=AA h1;clear h1;go_wp2_with fail;refine (aoO _ p _ (HP.out.mono (bT Bw B8))).mono ?_;rintro e w9 ⟨rfl,OM⟩;have B9:=bT B8 OM;replace X1:=X1.keep OM;clear OM B8
 try clear BF BG BH BI
 obtain ⟨BF,BG,BH,BI,-,-,-⟩:=X1.Az
 cases h1:iQ p
 case false =>
  have hf:=AA (show 2=q by rw [<- Hq.out,AZ (by rw [wG,h1];simp)]);clear h1;go_wp2;go_ret;exact ⟨Df hf.out,bT Bw B9⟩
 have hq:=Hq.out;rw [AX (show ¬ Nb p=false by rw [wG,h1,H3.out,H4.out,H5.out];decide)] at hq;replace Hq:=AA hq;clear hq h1;go_wp2_with fail;refine (anU _ _ p _ _ (HP.out.mono (bT Bw B9)) (Hg.out.mono B9)).mono ?_;rintro e w10 ⟨rfl,Ry⟩;have B10:=bT B9 Ry;replace X1:=X1.keep Ry;clear Ry B9
 try clear BF BG BH BI
 obtain ⟨BF,BG,BH,BI,-,-,-⟩:=X1.Az;by_cases h1:V4 p (p.nodes.map (·.id))=0
 case neg =>
  have hf:=AA (show V4 p (p.nodes.map (·.id))=q by rw [<- Hq.out,AX h1]);generalize V4 p (p.nodes.map (·.id))=c at *;go_wp2;go_ret;exact ⟨Df hf.out,bT Bw B10⟩
 have hq:=Hq.out;rw [AZ h1] at hq;replace Hq:=AA hq;have aoX:=AA (aoR p h1);rw [h1];clear hq h1;have Wn:Hid (Sound p):=AA ⟨uz _ H1.out,uz _ H2.out,aoX.out⟩;go_wp2_with fail;refine (aou _ p _ (HP.out.mono (bT Bw B10)) DW.out HLen.out AB (aoU H3.out) Wn.out).mono ?_;rintro e Xj ⟨rfl,Nh⟩;have B11:=bT B10 Nh;clear Nh B10 X1 BF BG BH BI
 cases h1:MP p
 case false =>
  have hf:=AA (show 11=q by rw [<- Hq.out,AZ h1]);clear h1;go_wp2;go_ret;exact ⟨Df hf.out,bT Bw B11⟩
 case true =>
  have hf:=AA (show 0=q by rw [<- Hq.out,AX (by rw [h1];decide)]);clear h1;go_wp2;go_ret;exact ⟨Df hf.out,bT Bw B11⟩
