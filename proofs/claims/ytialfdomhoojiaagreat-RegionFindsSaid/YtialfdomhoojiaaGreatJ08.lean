import Derived.Deep.CutBlock
import Derived.Test.YtialfdomhoojiaaGreatJ07
set_option linter.unusedSimpArgs false
set_option linter.unusedVariables false
set_option maxRecDepth 100000
set_option maxHeartbeats 16000000
namespace Go.Proofs.YtialfdomhoojiaaGreat
open Go.RowKit
theorem Row.psg {w:World} {A:Option Addr} {l:List DN} (h:Row w A (l.flatMap IW)) {k:Nat} (hk:k<l.length) :
  ∃ b o,A=some ⟨b,o,none⟩/\b<w.heap.size/\w.cell? ⟨b,o+k*2,none⟩=some (.pointer (some ⟨l[k].ln.g,0,none⟩))/\w.cell? ⟨b,o+k*2+1,none⟩=some (.int .i64 l[k].k):=by
 obtain ⟨b,o,hA,hb,hc⟩:=h.at_ (n:=2) (fun _=>rfl) hk AB;exact ⟨b,o,hA,hb,hc 0 _ rfl,hc 1 _ rfl⟩
theorem free_eq (s:DN) (n:Nd):Ld s n = !(EO s.fst s.snd n.pt && !(((s.k:Int) == 0) && (s.ln.arc.fr == n.id)) && !(((s.k:Int) == (s.ln.path.length:Int)-2) && (s.ln.arc.dst == n.id))):=rfl
structure aod (f:Int->Pt) (nl:List Nd) (sl:List DN) (q:Bool):Prop where
 pair:∀ i j (_:i<j) (hj:j<sl.length),Ih sl[j]<=Oh (sl[i]'(by omega))->Oj f (sl[i]'(by omega)) sl[j]=false->q=false
 node:∀ i (hi:i<sl.length) m (hm:m<nl.length),Ld sl[i] nl[m]=false->q=false
 yes:(∀ i j (_:i<j) (hj:j<sl.length),Ih sl[j]<=Oh (sl[i]'(by omega))->Oj f (sl[i]'(by omega)) sl[j]=true)->(∀ i (hi:i<sl.length) m (hm:m<nl.length),Ld sl[i] nl[m]=true)->q=true
theorem verdict {p:Pl} (hp:Sound p) (hok:p.AU.all (Ko p)=true) {sl:List DN} (hs:(sl.map DN.abs).Perm (p.AU.flatMap (FK p))):aod (nodeAt p) p.nodes sl (Og p):=by
 have hl:=hp.ap6 hok sl hs;refine ⟨fun i j hij hj hw hc=>?_,fun i hi m hm hf=>?_,fun h1 h2=>hl.1 ⟨h1,fun s hs n hn=>?_⟩⟩
 · rw [<- Iz];intro hq;have:=(hl.2 hq).1 i j hij hj hw;rw [hc] at this;cases this
 · rw [<- Iz];intro hq;have:=(hl.2 hq).2 _ (BH hi) _ (BH hm);rw [hf] at this;cases this
 ·obtain ⟨i,hi,rfl⟩:=Dp.1 hs;obtain ⟨m,hm,rfl⟩:=Dp.1 hn;exact h2 i hi m hm
theorem aoe (v:Value) (p:Pl) (w:World) (h:Cb w v p) (hsh:Short p) (hl:(p.AU.flatMap (FK p)).length<=2097152) (hnl:p.nodes.length<=4096)
  (aBN:∀ n∈p.nodes,ES n.id) (hp:Sound p) :
  Calls Tryz.prog 173 #[v] w fun e w'=>e=.returned (.bool (Og p))/\AP w w':=by
 have hno:=@Sound.ap7 p hp;have agq:=fun hok sl hs=>@verdict p hp hok sl hs;have hlast:=ap9 p hp.nodes;have har:∀ a∈p.AU,ES a.fr/\ES a.dst:=fun a ha=>by
  obtain ⟨⟨n1,h1,e1⟩,⟨n2,h2,e2⟩⟩:=hp.aBM ha;exact ⟨e1 ▸ aBN n1 h1,e2 ▸ aBN n2 h2⟩
 have agr:∀ x∈p.AU.flatMap (FK p),ES x.arc.fr/\ES x.arc.dst:=fun x hx=>har _ (hp.mem hx).1;have hseg:=apP v p;have aof:=AA hseg;have HP:=AA h;have Hno:=AA hno;have ags:=AA agq;have agt:=AA agr;have Hsh:=AA hsh;have Hl:=AA hl;clear hno agq agr hseg hsh hl har hp;generalize Og p=q at *;obtain ⟨_,va,vf,al,rfl,-,⟨An,cn,rfl,hn1,hn2,hR⟩,-,-⟩:=h;unfold maxLen at hn2;have HR:=AA hR;clear hR;have hnw:∀ k (hk:k<p.nodes.length),ES p.nodes[k].id:=fun k hk=>aBN _ (BH hk);clear aBN;have HNw:=AA hnw;clear hnw;generalize hF:nodeAt p=F at *;generalize hA:p.AU.flatMap (FK p)=AL at *;have aog:=AA hlast;clear hlast hF;have HA:=AA hA;clear hA;generalize hNl:p.nodes=nl at *;have HNl:=AA hNl;clear hNl;go_enter Tryz.func173,Tryz.ntmps173;go_wp2_with fail;refine (aof.out _ (HP.out.mono (bA (bR w) _)) Hsh.out Hl.out).mono ?_;rintro e w1 ⟨hb1,hr⟩;have Bw:AP w w1:=bT (bA (bR w) _) hb1;have X1:AO w1 w.heap.size 26 #[.slice An nl.length cn,va,vf]:=(AO.made rfl _ _).keep hb1;clear hb1
 cases hok:p.AU.all (Ko p)
 case false =>
  rw [hok] at hr;simp only [Rt,if_false] at hr;subst hr;have hf:=AA (Hno.out hok);clear hok;obtain ⟨Ak,Au,Az,BA,-,-,-⟩:=X1.BF;go_wp2;go_ret;exact ⟨C9 hf.out.symm,Bw⟩
 case true =>
 rw [hok] at hr;simp only [if_true] at hr;obtain ⟨sl,vs,rfl,hsl,agu,hown⟩:=hr;rw [HA.out] at hsl;have agv:sl.length<=2097152:=by have:=congrArg List.length hsl;rw [Cm] at this;have:=Hl.out;omega
 have hsz1:=Bw.size;have hs1:=Own.sl (Own.Du hown (b':=w.heap.size) Aw);obtain ⟨As,cs,rfl,hs1,hs2,-⟩:=hs1;unfold maxLen at hs2;have agw:=Own.lt hown;have Ef:=AA (Own.Du hown (b':=w.heap.size) Aw);have agx:=AA agu;have UE:=AA hsl;have D9:=AA X1;have agy:=AA (ags.out hok);clear hsl agu hown hok;have hnb:=Ef.out.Dz X1 BG;have agz:=AA agw;have Hnb:=AA hnb;clear agw hnb
 try clear Ak Au Az BA
 obtain ⟨Ak,Au,Az,BA,-,-,-⟩:=X1.BF;have jB:=AA (J4.made w1);have hmm:=@run_makeMap Tryz.prog;go_wp2_with fail;obtain ⟨W2,hW2⟩:=BO (w1.alloc (.map #[] 0));have QN:Hid (J4 W2 w1.heap.size 0 (fun _=>z0)):=by rw [hW2];exact jB
 have hA2:AP w1 W2:=by rw [hW2];exact bA (bR w1) _
 have HB2:=AA hA2;rw [<- hW2];clear hmm hW2 hA2 X1 Ak Au Az BA jB;have hx2:=HB2.out.size;go_loopw [27] (fun u wr=>∃ k:Nat,k<=nl.length/\u=.int .i64 k/\AP w1 wr/\J4 wr w1.heap.size k (jA (nl.take k))) (fun u _=>nl.length-(intOf u).toNat)
 case atStart => exact ⟨0,BZ _,rfl,HB2.out,QN.out⟩
 case round =>
  obtain ⟨k,hk,rfl,hb,hm⟩:=hrel;have Hb:=AA hb;have Hm:=AA hm;have nN:=hb.size;clear hb hm;by_cases hlt:k<nl.length
  case pos =>
   obtain ⟨b,o,rfl,hlb,c0,c1,c2⟩:=(HR.out.mono (bT Bw Hb.out)).nd hlt;obtain ⟨w3,hr3,PW,hg3⟩:=J4.upd (Hm.out.keep (bA (bR wr) (.cells #[.int .i64 nl[k].id,.int .i64 nl[k].pt.x,.int .i64 nl[k].pt.y] 45))) AB nl[k].id (HNw.out k hlt) nl[k].pt;have hm4:J4 w3 w1.heap.size (k+1) (jA (nl.take (k+1))):=by rw [ap8 nl k hlt];exact PW
   have B3:AP w1 w3:=bG (bA Hb.out _) hg3 (fun g hg=>by injection hg with hg;omega);have Hm4:=AA hm4;have HB3:=AA B3;unfold BD at hr3;clear PW hg3 hm4 B3;go_wp2;go_roundw
   case rel => exact ⟨k+1,AB,BI,HB3.out,Hm4.out⟩
   case measure => exact BK
  case neg =>
  have hall:nl.take k=nl:=Hw AB;have hm:=Hm.out;rw [hall,aog.out] at hm;have hkm:k<=4096:=by omega
  replace Hm:=AA hm;clear hm hall;go_wp2_with fail;refine (aoc w.heap.size _ sl _ (Ef.out.keep Hb.out) (fun s hs=>(agx.out s hs).keep Hb.out) AB).mono ?_;rintro e w4 ⟨rfl,sl',hperm,hsort,hown',hok',hg⟩;have hps:(sl'.map DN.abs).Perm AL:=by
   have:=hperm.map DN.abs
   rw [UE.out] at this;exact this
  have hwf:∀ s∈sl',ES s.ln.arc.fr/\ES s.ln.arc.dst:=fun s hs=>by
   have:=agt.out s.abs (hps.mem_iff.1 (Gs hs))
   exact this
  have hlen':sl'.length=sl.length:=hperm.length_eq;have B4:AP w w4:=bG (bT Bw Hb.out) hg (fun g hg'=>(Ef.out.lt g hg').1);have hm4:J4 w4 w1.heap.size k F:=Hm.out.kept hg (fun e=>by have:=(agz.out _ e.symm).2;omega);have X1:AO w4 w.heap.size 26 #[.slice An nl.length cn,va,vf]:=(D9.out.keep Hb.out).grown hg (fun e=>Hnb.out e.symm);have hV:=agy.out sl' hps;have hrow:Row w4 As (sl'.flatMap IW):=by
   obtain ⟨A0,c0,e0,-,-,hr0⟩:=Own.sl hown';injection e0 with e0 _ _;subst e0;exact hr0
  have HV:=AA hV;have DJ:=AA X1;have jC:=AA hm4;have HB4:=AA B4;have Zm:=AA hok';have ah0:=AA hrow;have aoh:=AA hsort;have lT:=AA hwf;clear hps hperm hsort hown' hok' hg hwf B4 hm4 X1 hV hrow Ef agx UE agt ags agy agz Hnb Hm QN D9 Hb HB2 nN hx2;have azL:sl'.length<=2097152:=by rw [hlen'];exact agv
  rw [<- hlen'] at hs1 ⊢;clear hlen' agv;go_wp2_with fail;obtain ⟨wo,rfl⟩:=BO wr;go_loopw [41] (fun u wr=>∃ i:Nat,i<=sl'.length/\u=.int .i64 i/\AP w4 wr/\(∀ a b (_:a<b) (hb:b<sl'.length),a<i->Ih sl'[b]<=Oh (sl'[a]'(by omega))->Oj F (sl'[a]'(by omega)) sl'[b]=true)/\(∀ a (ha:a<sl'.length) m (hm:m<nl.length),a<i->Ld sl'[a] nl[m]=true)) (fun u _=>sl'.length-(intOf u).toNat)
  case atStart => exact ⟨0,BZ _,rfl,bR w4,fun _ _ _ _ h=>by omega,fun _ _ _ _ h=>by omega⟩
  case round =>
   obtain ⟨i,hi,rfl,hb,vN,VX⟩:=hrel;have Hb:=AA hb;have adM:=AA vN;have Rj:=AA VX;clear hb vN VX;by_cases hlt:i<sl'.length
   case neg =>
    have hf:=AA (HV.out.yes (fun a b hab hb hw=>adM.out a b hab hb AB hw) (fun a ha m hm=>Rj.out a ha m hm AB));go_wp2;go_ret;exact ⟨C9 hf.out.symm,bT HB4.out Hb.out⟩
   obtain ⟨b,o,hAs,hlb,c0,c1⟩:=(ah0.out.mono Hb.out).psg hlt;obtain ⟨Ac,Cc,Sr⟩:∃ Ac Cc,Ac=gq As cs (i+1) 2/\Cc=cs-(i+1):=⟨_,_,rfl,rfl⟩;have ah1:∀ W,(Instr.slice 224 (.slice As sl'.length cs) (some (.int .i64 ((i:Int)+1))) none none).run Tryz.prog W=.ok (.slice Ac (sl'.length-(i+1)) Cc) W:=fun W=>by
    rw [Sr.1,Sr.2];exact agB Tryz.underlying224 agp As sl'.length cs (i+1) AB _ AB W
   have dL:=AA Sr;clear Sr;subst hAs;obtain ⟨dl,hdl⟩:=BO (sl'.drop (i+1));have hdn:sl'.length-(i+1)=dl.length:=by rw [hdl,gI]
   have hdg:∀ j (hj:j<dl.length),∃ h:i+1+j<sl'.length,dl[j]=sl'[i+1+j]:=fun j hj=>by
    subst hdl;rw [gI] at hj;exact ⟨AB,Aw⟩
   have ah2:Row w4 Ac (dl.flatMap IW):=by
    rw [dL.out.1,hdl,<- agC IW 2 aBH];exact ah0.out.cut (by rw [flat_length IW 2 aBH];omega)
   rw [hdn] at ah1;have dM:=AA hdg;have ah3:=AA ah2;have HDn:=AA hdn;have hdb:dl.length<=2097152:=by omega
   clear hdl hdg ah2 dL hdn;have hsi:=AA ((Zm.out _ (BH hlt)));have ah4:∀ j,i<j->∀ hj:j<sl'.length,Ih sl'[j]<=Oh sl'[i]->Oj F sl'[i] sl'[j]=false->q=false:=fun j hij hj=>HV.out.pair i j hij hj;have hnodes:∀ m (hm:m<nl.length),Ld sl'[i] nl[m]=false->q=false:=fun m hm=>HV.out.node i hlt m hm;have hdone:(∀ j,i<j->∀ hj:j<sl'.length,Ih sl'[j]<=Oh sl'[i]->Oj F sl'[i] sl'[j]=true)->(∀ a b (_:a<b) (hb:b<sl'.length),a<i+1->Ih sl'[b]<=Oh (sl'[a]'(by omega))->Oj F (sl'[a]'(by omega)) sl'[b]=true):=fun h a b hab hb ha=>by
    by_cases e:a<i
    · exact adM.out a b hab hb e
    ·have:a=i:=by omega
     subst this;exact h b hab hb
   have ah5:(∀ m (hm:m<nl.length),Ld sl'[i] nl[m]=true)->(∀ a (ha:a<sl'.length) m (hm:m<nl.length),a<i+1->Ld sl'[a] nl[m]=true):=fun h a ha m hm hai=>by
    by_cases e:a<i
    · exact Rj.out a ha m hm e
    ·have:a=i:=by omega
     subst this;exact h m hm
   have ah6:=lT.out _ (BH hlt);generalize ah7:sl'[i]=si at *;have Ux:=AA ah7;have ah8:=AA ah4;have aBO:=AA hnodes;have ah9:=AA hdone;have aoi:=AA ah5;have ahA:=AA ah6;clear ah7 ah4 hnodes hdone ah5 adM Rj ah6;have lq:IntKind.i64.wrap ((i:Int)+1)=(i:Int)+1:=Ci _ AB;have r3:0<=(i:Int)+1:=by omega
   have r4:(i:Int)+1<=sl'.length:=by omega
   have r5:((i:Int)+1).toNat=i+1:=by omega
   go_upto_block 4 with fail;obtain ⟨W5,GU⟩:=BO (wr.alloc (.cells #[.pointer (some ⟨si.ln.g,0,none⟩),.int .i64 si.k] 230));have CW:=AA (show AP w4 W5 by rw [GU];exact bA Hb.out _);have X9:AO W5 wr.heap.size 230 #[.pointer (some ⟨si.ln.g,0,none⟩),.int .i64 si.k]:=by rw [GU];exact AO.made rfl _ _
   have Kq:=AA X9;rw [<- GU];clear GU X9 ah1 lq r3 r4 r5 c0 c1 hlb;obtain ⟨wp,rfl⟩:=BO wr;have TW:∀ s:DN,∀ W,FV W s->Calls Tryz.prog 228 #[H9 s] W _:=fun s W h=>abt s W h;have TE:∀ s:DN,∀ W,FV W s->Calls Tryz.prog 229 #[H9 s] W _:=fun s W h=>apJ s W h;have TC:∀ s t:DN,∀ W,FV W s->FV W t->J4 W w1.heap.size k F->ES s.ln.arc.fr->ES s.ln.arc.dst->Calls Tryz.prog 230 #[H9 s,H9 t,.map (some w1.heap.size)] W _:=fun s t W h1 h2 h3 h4 h5=>aop F w1.heap.size k s t W h1 h2 h3 h4 h5;unfold H9 at TW TE TC;have HTW:=AA TW;have HTE:=AA TE;have HTC:=AA TC;clear TW TE TC;go_cut [51] (fun u wx=>AP W5 wx/\∀ j,i<j->∀ hj:j<sl'.length,Ih sl'[j]<=Oh si->Oj F si sl'[j]=true)
   case first =>
    go_wp2_with fail;go_loopw [51] (fun u wx=>∃ j:Nat,j<=dl.length/\u=.int .i64 j/\AP W5 wx/\∀ m (hm:m<dl.length),m<j->Ih dl[m]<=Oh si->Oj F si dl[m]=true) (fun u _=>dl.length-(intOf u).toNat)
    case atStart => exact ⟨0,BZ _,rfl,bR W5,fun _ _ h=>by omega⟩
    case round =>
     obtain ⟨j,hj,rfl,hbx,hnx⟩:=hrel;have Fq:=AA hbx;have Uw:=AA hnx;have hxs:=hbx.size;have X9:=Kq.out.keep hbx;clear hbx hnx;by_cases hlj:j<dl.length
     case neg =>
      have hf:=AA (show ∀ j,i<j->∀ hj:j<sl'.length,Ih sl'[j]<=Oh si->Oj F si sl'[j]=true from fun m him hm hw=>by
       have hd:=HDn.out;obtain ⟨h1,h2⟩:=dM.out (m-(i+1)) AB;have e:i+1+(m-(i+1))=m:=by omega
       simp only [e] at h2;have:=Uw.out (m-(i+1)) AB AB
       rw [h2] at this;exact this hw)
      go_wp2;go_meet
      case rel => exact ⟨Fq.out,hf.out⟩
     obtain ⟨b',o',rfl,Rz,d0,d1⟩:=(ah3.out.mono (bT CW.out Fq.out)).psg hlj;obtain ⟨hjs,hje⟩:=dM.out j hlj;have htj:=AA (Zm.out _ (BH hjs));rw [<- hje] at htj;have hwj:=AA hje;clear hje;go_upto_region 17 with fail;obtain ⟨W7,aBP⟩:=BO (wr.alloc (.cells #[.pointer (some ⟨dl[j].ln.g,0,none⟩),.int .i64 dl[j].k] 230));have aBQ:AP wr W7:=by rw [aBP];exact bA (bR wr) _
     have LD:AO W7 wr.heap.size 230 #[.pointer (some ⟨dl[j].ln.g,0,none⟩),.int .i64 dl[j].k]:=by rw [aBP];exact AO.made rfl _ _
     rw [<- aBP];replace X9:=X9.keep aBQ;have B7:=AA (bT CW.out (bT Fq.out aBQ));have B7':=AA (bT Fq.out aBQ);clear aBP aBQ d0 d1 Rz;obtain ⟨Gv,Gw,JL,-,-⟩:=X9.BN;obtain ⟨VP,VQ,adN,-,-⟩:=LD.BN;refine Cj (W7) (.take 0 1 (.take 2 5 (.call 1 7 (.call 3 15 (.take 4 31 (.done)))))) fun Bv QR Ae Ah hS=>?_
     iterate 2 refine Aj ?_
     refine BP ?_;clear hS;intro K hK AQ;go_simp;refine (HTW.out _ _ (htj.out.keep (bT B7.out AQ.out))).mono ?_;rintro e Bq ⟨rfl,Bf,-⟩;have hS:Since W7 Bq:=bT (w:=W7) AQ.out Bf;clear AQ;refine hK.out _ _ hS (fun _=>?_);clear hK K
     try simp only [pu]
     refine BP ?_;clear hS;intro K hK AQ;go_simp;refine (HTE.out _ _ (hsi.out.keep (bT B7.out AQ.out))).mono ?_;rintro e wr2 ⟨rfl,FT,-⟩;have hS:Since W7 wr2:=bT (w:=W7) AQ.out FT;clear AQ;refine hK.out _ _ hS (fun _=>?_);clear hK K
     try simp only [pu]
     refine Aj ?_;refine Ce ?_;clear hS Ah Ae;intro hB;have B8:=AA (bT B7.out hB);have B8':=AA (bT B7'.out hB);replace X9:=X9.keep hB;replace LD:=LD.keep hB;clear hB
     try clear Gv Gw JL
     obtain ⟨Gv,Gw,JL,-,-⟩:=X9.BN
     try clear VP VQ adN
     obtain ⟨VP,VQ,adN,-,-⟩:=LD.BN;by_cases hw:Oh si<Ih dl[j]
     ·have hf:=AA (show ∀ j,i<j->∀ hj:j<sl'.length,Ih sl'[j]<=Oh si->Oj F si sl'[j]=true from fun m him hm hwm=>by
       by_cases e:m<i+1+j
       ·have hd:=HDn.out;obtain ⟨h1,h2⟩:=dM.out (m-(i+1)) AB;have e:i+1+(m-(i+1))=m:=by omega
        simp only [e] at h2;have:=Uw.out (m-(i+1)) AB AB
        rw [h2] at this;exact this hwm
       ·have hs:Ih dl[j]<=Ih sl'[m]:=by
         rw [hwj.out];by_cases e':m=i+1+j
         · subst e';exact L8 _
         · exact aoh.out (i+1+j) m AB hm
        omega)
      go_wp2;go_meet
      case rel => exact ⟨B8'.out,hf.out⟩
     ·have hw':=AA hw;go_wp2_with fail;refine (HTC.out _ _ _ (hsi.out.keep B8.out) (htj.out.keep B8.out) (jC.out.keep B8.out) ahA.out.1 ahA.out.2).mono ?_;rintro e w9 ⟨rfl,Vj⟩;have B9:=AA (bT B8'.out Vj);clear Vj X9 LD Gv Gw JL VP VQ adN hw
      cases hc:Oj F si dl[j]
      case false =>
       have hf:=AA (show false=q by
        have hq:=ah8.out (i+1+j) AB hjs;rw [<- hwj.out] at hq;exact (hq (by have:=hw'.out;omega) hc).symm)
       clear hc;go_wp2;go_ret;exact ⟨C9 hf.out,bT HB4.out (bT CW.out B9.out)⟩
      case true =>
       have hc':=AA hc;clear hc;go_wp2;go_roundw
       case rel => exact ⟨j+1,AB,BI,B9.out,all_succ (p:=fun t=>Ih t<=Oh si->Oj F si t=true) Uw.out hlj (fun _=>hc'.out)⟩
       case measure => exact BK
   case rest =>
   obtain ⟨hbc,hpd⟩:=hcut;have dN:=AA (ah9.out hpd);have HBc:=AA (bT CW.out hbc);have X9:=Kq.out.keep hbc;replace Kq:=AA X9;have X1:=DJ.out.keep HBc.out;have HY:=AA (hsi.out.keep HBc.out);clear hbc hpd ah8 ah9 dM ah3 HDn X9 HTW HTE HTC hdb;have TS:∀ W,FV W si->Calls Tryz.prog 231 #[H9 si] W _:=fun W hW=>vP si W hW;have TO:∀ p q r:Pt,∀ W,Calls Tryz.prog 28 #[BD p,BD q,BD r] W _:=fun p q r W=>uU p q r W;have TF:∀ W,Calls Tryz.prog 232 #[H9 si] W _:=fun W=>ahM si W;have TL:∀ W,FV W si->Calls Tryz.prog 233 #[H9 si] W _:=fun W hW=>ahN si W hW;unfold H9 at TS TF TL;unfold BD at TS TO;have HTS:=AA TS;have PX:=AA TO;have QO:=AA TF;have Qy:=AA TL;clear TS TO TF TL
   try clear Ak Au Az BA
   obtain ⟨Ak,Au,Az,BA,-,-,-⟩:=X1.BF;go_wp2_with fail;clear X1 Ak Au Az BA;go_loopw [69] (fun u wx=>∃ m:Nat,m<=nl.length/\u=.int .i64 m/\AP wc wx/\∀ n (hn:n<nl.length),n<m->Ld si nl[n]=true) (fun u _=>nl.length-(intOf u).toNat)
   case atStart => exact ⟨0,BZ _,rfl,bR wc,fun _ _ h=>by omega⟩
   case round =>
    obtain ⟨m,hm,rfl,hbx,hnx⟩:=hrel;have Fq:=AA hbx;have Uw:=AA hnx;have X9:=Kq.out.keep hbx;clear hbx hnx;by_cases hlm:m<nl.length
    case neg =>
     have hf:=AA (aoi.out (fun n hn=>Uw.out n hn AB));clear X9;go_wp2;go_roundw
     case rel => exact ⟨i+1,AB,BI,bT HBc.out Fq.out,dN.out,hf.out⟩
     case measure => exact BK
    obtain ⟨b,o,rfl,hlb,c0,c1,c2⟩:=(HR.out.mono (bT HB4.out (bT HBc.out Fq.out))).nd hlm
    try clear Gv Gw JL
    obtain ⟨Gv,Gw,JL,-,-⟩:=X9.BN;go_wp2_with fail;refine (HTS.out _ (HY.out.keep (bA Fq.out _))).mono ?_;rintro e w10 ⟨rfl,iE,-⟩;have hA10:AP wr w10:=bT (bA (bR wr) _) iE;have UJ:AO w10 wr.heap.size 45 #[.int .i64 nl[m].id,.int .i64 nl[m].pt.x,.int .i64 nl[m].pt.y]:=(AO.made rfl _ _).keep iE;replace X9:=X9.keep hA10;replace Fq:=AA (bT Fq.out hA10);clear iE hA10 c0 c1 c2 hlb Gv Gw JL;go_upto_region 25 with fail;obtain ⟨EN,uw⟩:=BO ((w10.alloc (.cells #[.int .i64 si.fst.x,.int .i64 si.fst.y] 39)).alloc (.cells #[.int .i64 si.snd.x,.int .i64 si.snd.y] 39));have aBR:AP w10 EN:=by rw [uw];exact bA (bA (bR w10) _) _
    have UH:AO EN w10.heap.size 39 #[.int .i64 si.fst.x,.int .i64 si.fst.y]:=by rw [uw];exact (AO.made rfl _ _).alloc _
    have WH:AO EN (w10.heap.size+1) 39 #[.int .i64 si.snd.x,.int .i64 si.snd.y]:=by rw [uw];exact AO.made Aw _ _
    rw [<- uw];replace X9:=X9.keep aBR;replace UJ:=UJ.keep aBR;replace Fq:=AA (bT Fq.out aBR);have Y:=(HY.out.keep Fq.out).line;clear uw aBR
    try clear Gv Gw JL
    obtain ⟨Gv,Gw,JL,-,-⟩:=X9.BN;obtain ⟨uz,vC,vF,azM,-,-,-⟩:=UJ.BF;obtain ⟨Vl,VL,VN,-,-⟩:=UH.BN;obtain ⟨vG,vH,vI,-,-⟩:=WH.BN;obtain ⟨Yl,Ya,Yb,Yc,Yd,Ye,Yf,Yg,-,-,-,-,-,-,-⟩:=Y.bZ;have hfe:=AA (free_eq si nl[m]);have TF:=QO.out;have TL:=Qy.out;have TO:=PX.out si.fst si.snd nl[m].pt
    cases e1:EO si.fst si.snd nl[m].pt
    case false =>
     rw [e1] at TO;have hf:=AA (show Ld si nl[m]=true by rw [hfe.out];simp only [e1];rfl);have PX:=AA TO;have QO:=AA TF;have Qy:=AA TL;clear TO TF TL hfe e1;refine Cj (EN) (.run 4 0 0 (.call 4 31 (.run 32 5 31 (.done)))) fun Bv QR Ae Ah hS=>?_
     iterate 4 refine Aj ?_
     refine BP ?_;clear hS;intro K hK AQ;go_simp;refine (PX.out _).mono ?_;rintro e Bq ⟨rfl,Bf⟩;have hS:Since EN Bq:=bT (w:=EN) AQ.out Bf;clear AQ;refine hK.out _ _ hS (fun _=>?_);clear hK K
     try simp only [pu]
     refine Aj ?_
     iterate 14 refine JU ?_
     iterate 2 refine Aj ?_
     iterate 14 refine JU ?_
     refine Aj ?_;refine Ce ?_;clear hS Ah Ae;intro hB;go_wp2;go_roundw
     case rel => exact ⟨m+1,AB,BI,bT Fq.out hB,all_succ (p:=fun n=>Ld si n=true) Uw.out hlm hf.out⟩
     case measure => exact BK
    case true =>
     rw [e1] at TO
     cases e2:((si.k:Int) == 0)
     case false =>
      rw [e2] at TF
      cases e4:((si.k:Int) == (si.ln.path.length:Int)-2)
      case false =>
       rw [e4] at TL;have hf:=AA (show Ld si nl[m]=false by rw [hfe.out];simp only [e1,e2,e4];rfl);have PX:=AA TO;have QO:=AA TF;have Qy:=AA TL;clear TO TF TL hfe e1 e2 e4;refine Cj (EN) (.run 4 0 0 (.call 4 31 (.take 5 63 (.take 6 127 (.call 7 255 (.run 15 8 255 (.call 23 16777215 (.run 13 24 16777215 (.done))))))))) fun Bv QR Ae Ah hS=>?_
       iterate 4 refine Aj ?_
       refine BP ?_;clear hS;intro K hK AQ;go_simp;refine (PX.out _).mono ?_;rintro e Bq ⟨rfl,Bf⟩;have hS:Since EN Bq:=bT (w:=EN) AQ.out Bf;clear AQ;refine hK.out _ _ hS (fun _=>?_);clear hK K
       try simp only [pu]
       refine Aj ?_;refine Dh ?_;refine BP ?_;clear hS;intro K hK AQ;go_simp;refine (QO.out _).mono ?_;rintro e wr2 ⟨rfl,FT⟩;have hS:Since EN wr2:=bT (w:=EN) AQ.out FT;clear AQ;refine hK.out _ _ hS (fun _=>?_);clear hK K
       try simp only [pu]
       refine Dh ?_
       iterate 9 refine JU ?_
       iterate 2 refine Dh ?_
       iterate 2 refine Aj ?_
       refine Dh ?_;refine BP ?_;clear hS;intro K hK AQ;go_simp;refine (Qy.out _ (HY.out.keep (bT Fq.out AQ.out))).mono ?_;rintro e wr3 ⟨rfl,Oi⟩;have hS:Since EN wr3:=bT (w:=EN) AQ.out Oi;clear AQ;refine hK.out _ _ hS (fun _=>?_);clear hK K
       try simp only [pu]
       refine Dh ?_
       iterate 9 refine JU ?_
       iterate 2 refine Dh ?_
       refine Aj ?_;refine Ce ?_;clear hS Ah Ae;intro hB;have hr:=AA (aBO.out m hlm hf.out);go_wp2;go_ret;exact ⟨C9 hr.out.symm,bT HB4.out (bT HBc.out (bT Fq.out hB))⟩
      case true =>
       rw [e4] at TL
       cases e5:(si.ln.arc.dst == nl[m].id)
       case false =>
        have hf:=AA (show Ld si nl[m]=false by rw [hfe.out];simp only [e1,e2,e4,e5];rfl);have PX:=AA TO;have QO:=AA TF;have Qy:=AA TL;clear TO TF TL hfe e1 e2 e4;refine Cj (EN) (.run 4 0 0 (.call 4 31 (.take 5 63 (.take 6 127 (.call 7 255 (.run 15 8 255 (.call 23 16777215 (.run 13 24 16777215 (.done))))))))) fun Bv QR Ae Ah hS=>?_
        iterate 4 refine Aj ?_
        refine BP ?_;clear hS;intro K hK AQ;go_simp;refine (PX.out _).mono ?_;rintro e Bq ⟨rfl,Bf⟩;have hS:Since EN Bq:=bT (w:=EN) AQ.out Bf;clear AQ;refine hK.out _ _ hS (fun _=>?_);clear hK K
        try simp only [pu]
        refine Aj ?_;refine Dh ?_;refine BP ?_;clear hS;intro K hK AQ;go_simp;refine (QO.out _).mono ?_;rintro e wr2 ⟨rfl,FT⟩;have hS:Since EN wr2:=bT (w:=EN) AQ.out FT;clear AQ;refine hK.out _ _ hS (fun _=>?_);clear hK K
        try simp only [pu]
        refine Dh ?_
        iterate 9 refine JU ?_
        iterate 2 refine Dh ?_
        iterate 2 refine Aj ?_
        refine Dh ?_;refine BP ?_;clear hS;intro K hK AQ;go_simp;refine (Qy.out _ (HY.out.keep (bT Fq.out AQ.out))).mono ?_;rintro e wr3 ⟨rfl,Oi⟩;have hS:Since EN wr3:=bT (w:=EN) AQ.out Oi;clear AQ;refine hK.out _ _ hS (fun _=>?_);clear hK K
        try simp only [pu]
        iterate 12 refine Dh ?_
        refine Aj ?_;refine Ce ?_;clear hS Ah Ae;intro hB;have hr:=AA (aBO.out m hlm hf.out);go_wp2;go_ret;exact ⟨C9 hr.out.symm,bT HB4.out (bT HBc.out (bT Fq.out hB))⟩
       case true =>
        have hf:=AA (show Ld si nl[m]=true by rw [hfe.out];simp only [e1,e2,e4,e5];rfl);have PX:=AA TO;have QO:=AA TF;have Qy:=AA TL;clear TO TF TL hfe e1 e2 e4;refine Cj (EN) (.run 4 0 0 (.call 4 31 (.take 5 63 (.take 6 127 (.call 7 255 (.run 15 8 255 (.call 23 16777215 (.run 13 24 16777215 (.done))))))))) fun Bv QR Ae Ah hS=>?_
        iterate 4 refine Aj ?_
        refine BP ?_;clear hS;intro K hK AQ;go_simp;refine (PX.out _).mono ?_;rintro e Bq ⟨rfl,Bf⟩;have hS:Since EN Bq:=bT (w:=EN) AQ.out Bf;clear AQ;refine hK.out _ _ hS (fun _=>?_);clear hK K
        try simp only [pu]
        refine Aj ?_;refine Dh ?_;refine BP ?_;clear hS;intro K hK AQ;go_simp;refine (QO.out _).mono ?_;rintro e wr2 ⟨rfl,FT⟩;have hS:Since EN wr2:=bT (w:=EN) AQ.out FT;clear AQ;refine hK.out _ _ hS (fun _=>?_);clear hK K
        try simp only [pu]
        refine Dh ?_
        iterate 9 refine JU ?_
        iterate 2 refine Dh ?_
        iterate 2 refine Aj ?_
        refine Dh ?_;refine BP ?_;clear hS;intro K hK AQ;go_simp;refine (Qy.out _ (HY.out.keep (bT Fq.out AQ.out))).mono ?_;rintro e wr3 ⟨rfl,Oi⟩;have hS:Since EN wr3:=bT (w:=EN) AQ.out Oi;clear AQ;refine hK.out _ _ hS (fun _=>?_);clear hK K
        try simp only [pu]
        iterate 12 refine Dh ?_
        refine Aj ?_;refine Ce ?_;clear hS Ah Ae;intro hB;go_wp2;go_roundw
        case rel => exact ⟨m+1,AB,BI,bT Fq.out hB,all_succ (p:=fun n=>Ld si n=true) Uw.out hlm hf.out⟩
        case measure => exact BK
     case true =>
      rw [e2] at TF
      cases e3:(si.ln.arc.fr == nl[m].id)
      case false =>
       cases e4:((si.k:Int) == (si.ln.path.length:Int)-2)
       case false =>
        rw [e4] at TL;have hf:=AA (show Ld si nl[m]=false by rw [hfe.out];simp only [e1,e2,e3,e4];rfl);have PX:=AA TO;have QO:=AA TF;have Qy:=AA TL;clear TO TF TL hfe e1 e2 e4;refine Cj (EN) (.run 4 0 0 (.call 4 31 (.take 5 63 (.take 6 127 (.call 7 255 (.run 15 8 255 (.call 23 16777215 (.run 13 24 16777215 (.done))))))))) fun Bv QR Ae Ah hS=>?_
        iterate 4 refine Aj ?_
        refine BP ?_;clear hS;intro K hK AQ;go_simp;refine (PX.out _).mono ?_;rintro e Bq ⟨rfl,Bf⟩;have hS:Since EN Bq:=bT (w:=EN) AQ.out Bf;clear AQ;refine hK.out _ _ hS (fun _=>?_);clear hK K
        try simp only [pu]
        refine Aj ?_;refine Dh ?_;refine BP ?_;clear hS;intro K hK AQ;go_simp;refine (QO.out _).mono ?_;rintro e wr2 ⟨rfl,FT⟩;have hS:Since EN wr2:=bT (w:=EN) AQ.out FT;clear AQ;refine hK.out _ _ hS (fun _=>?_);clear hK K
        try simp only [pu]
        iterate 12 refine Dh ?_
        iterate 2 refine Aj ?_
        refine Dh ?_;refine BP ?_;clear hS;intro K hK AQ;go_simp;refine (Qy.out _ (HY.out.keep (bT Fq.out AQ.out))).mono ?_;rintro e wr3 ⟨rfl,Oi⟩;have hS:Since EN wr3:=bT (w:=EN) AQ.out Oi;clear AQ;refine hK.out _ _ hS (fun _=>?_);clear hK K
        try simp only [pu]
        refine Dh ?_
        iterate 9 refine JU ?_
        iterate 2 refine Dh ?_
        refine Aj ?_;refine Ce ?_;clear hS Ah Ae;intro hB;have hr:=AA (aBO.out m hlm hf.out);go_wp2;go_ret;exact ⟨C9 hr.out.symm,bT HB4.out (bT HBc.out (bT Fq.out hB))⟩
       case true =>
        rw [e4] at TL
        cases e5:(si.ln.arc.dst == nl[m].id)
        case false =>
         have hf:=AA (show Ld si nl[m]=false by rw [hfe.out];simp only [e1,e2,e3,e4,e5];rfl);have PX:=AA TO;have QO:=AA TF;have Qy:=AA TL;clear TO TF TL hfe e1 e2 e4;refine Cj (EN) (.run 4 0 0 (.call 4 31 (.take 5 63 (.take 6 127 (.call 7 255 (.run 15 8 255 (.call 23 16777215 (.run 13 24 16777215 (.done))))))))) fun Bv QR Ae Ah hS=>?_
         iterate 4 refine Aj ?_
         refine BP ?_;clear hS;intro K hK AQ;go_simp;refine (PX.out _).mono ?_;rintro e Bq ⟨rfl,Bf⟩;have hS:Since EN Bq:=bT (w:=EN) AQ.out Bf;clear AQ;refine hK.out _ _ hS (fun _=>?_);clear hK K
         try simp only [pu]
         refine Aj ?_;refine Dh ?_;refine BP ?_;clear hS;intro K hK AQ;go_simp;refine (QO.out _).mono ?_;rintro e wr2 ⟨rfl,FT⟩;have hS:Since EN wr2:=bT (w:=EN) AQ.out FT;clear AQ;refine hK.out _ _ hS (fun _=>?_);clear hK K
         try simp only [pu]
         iterate 12 refine Dh ?_
         iterate 2 refine Aj ?_
         refine Dh ?_;refine BP ?_;clear hS;intro K hK AQ;go_simp;refine (Qy.out _ (HY.out.keep (bT Fq.out AQ.out))).mono ?_;rintro e wr3 ⟨rfl,Oi⟩;have hS:Since EN wr3:=bT (w:=EN) AQ.out Oi;clear AQ;refine hK.out _ _ hS (fun _=>?_);clear hK K
         try simp only [pu]
         iterate 12 refine Dh ?_
         refine Aj ?_;refine Ce ?_;clear hS Ah Ae;intro hB;have hr:=AA (aBO.out m hlm hf.out);go_wp2;go_ret;exact ⟨C9 hr.out.symm,bT HB4.out (bT HBc.out (bT Fq.out hB))⟩
        case true =>
         have hf:=AA (show Ld si nl[m]=true by rw [hfe.out];simp only [e1,e2,e3,e4,e5];rfl);have PX:=AA TO;have QO:=AA TF;have Qy:=AA TL;clear TO TF TL hfe e1 e2 e4;refine Cj (EN) (.run 4 0 0 (.call 4 31 (.take 5 63 (.take 6 127 (.call 7 255 (.run 15 8 255 (.call 23 16777215 (.run 13 24 16777215 (.done))))))))) fun Bv QR Ae Ah hS=>?_
         iterate 4 refine Aj ?_
         refine BP ?_;clear hS;intro K hK AQ;go_simp;refine (PX.out _).mono ?_;rintro e Bq ⟨rfl,Bf⟩;have hS:Since EN Bq:=bT (w:=EN) AQ.out Bf;clear AQ;refine hK.out _ _ hS (fun _=>?_);clear hK K
         try simp only [pu]
         refine Aj ?_;refine Dh ?_;refine BP ?_;clear hS;intro K hK AQ;go_simp;refine (QO.out _).mono ?_;rintro e wr2 ⟨rfl,FT⟩;have hS:Since EN wr2:=bT (w:=EN) AQ.out FT;clear AQ;refine hK.out _ _ hS (fun _=>?_);clear hK K
         try simp only [pu]
         iterate 12 refine Dh ?_
         iterate 2 refine Aj ?_
         refine Dh ?_;refine BP ?_;clear hS;intro K hK AQ;go_simp;refine (Qy.out _ (HY.out.keep (bT Fq.out AQ.out))).mono ?_;rintro e wr3 ⟨rfl,Oi⟩;have hS:Since EN wr3:=bT (w:=EN) AQ.out Oi;clear AQ;refine hK.out _ _ hS (fun _=>?_);clear hK K
         try simp only [pu]
         iterate 12 refine Dh ?_
         refine Aj ?_;refine Ce ?_;clear hS Ah Ae;intro hB;go_wp2;go_roundw
         case rel => exact ⟨m+1,AB,BI,bT Fq.out hB,all_succ (p:=fun n=>Ld si n=true) Uw.out hlm hf.out⟩
         case measure => exact BK
      case true =>
       have hf:=AA (show Ld si nl[m]=true by rw [hfe.out];simp only [e1,e2,e3];rfl);have PX:=AA TO;have QO:=AA TF;have Qy:=AA TL;clear TO TF TL hfe e1 e2;refine Cj (EN) (.run 4 0 0 (.call 4 31 (.take 5 63 (.take 6 127 (.call 7 255 (.run 29 8 255 (.done))))))) fun Bv QR Ae Ah hS=>?_
       iterate 4 refine Aj ?_
       refine BP ?_;clear hS;intro K hK AQ;go_simp;refine (PX.out _).mono ?_;rintro e Bq ⟨rfl,Bf⟩;have hS:Since EN Bq:=bT (w:=EN) AQ.out Bf;clear AQ;refine hK.out _ _ hS (fun _=>?_);clear hK K
       try simp only [pu]
       refine Aj ?_;refine Dh ?_;refine BP ?_;clear hS;intro K hK AQ;go_simp;refine (QO.out _).mono ?_;rintro e wr2 ⟨rfl,FT⟩;have hS:Since EN wr2:=bT (w:=EN) AQ.out FT;clear AQ;refine hK.out _ _ hS (fun _=>?_);clear hK K
       try simp only [pu]
       iterate 12 refine Dh ?_
       iterate 2 refine Aj ?_
       iterate 14 refine JU ?_
       refine Aj ?_;refine Ce ?_;clear hS Ah Ae;intro hB;go_wp2;go_roundw
       case rel => exact ⟨m+1,AB,BI,bT Fq.out hB,all_succ (p:=fun n=>Ld si n=true) Uw.out hlm hf.out⟩
       case measure => exact BK
theorem aoj (p:Pl) (a:Ar):hasB (p.nodes.map (·.id)) a=KY p a:=by
 have h:∀ id:Int,(p.nodes.map (·.id)).any (fun y=>y == id)=(JK p.nodes id).isSome:=fun id=>by
  unfold JK;rw [lI,LX,PE,List.find?_isSome];rfl
 unfold hasB KY;rw [h,h]
theorem agb (p:Pl):Uf p (p.nodes.map (·.id))=if UC (p.nodes.map (·.pt))=true then 8 else if p.AU.all (KY p)=false then 7 else if Ue p=false then 12 else 0:=by
 unfold Uf
 have:hasB (p.nodes.map (·.id))=KY p:=funext fun a=>aoj p a
 rw [this]
theorem aq8 (p:Pl) (h:JX p=false):Ig p=if Qw p=false then 10 else if OE p=false then 2 else if Uf p (p.nodes.map (·.id))=0 then (if Og p=false then 11 else 0) else Uf p (p.nodes.map (·.id)):=by
 unfold Ig;rw [h,agb];rw [AX (show ¬ false=true by decide)];split
 · rfl
 split
 · rfl
 split
 · rfl
 split
 · rfl
 split
 · rfl
 · rfl
theorem aq9 (p:Pl) (h:Uf p (p.nodes.map (·.id))=0):∀ a∈p.AU,KY p a=true:=by
 rw [agb] at h
 cases h2:p.AU.all (KY p)
 ·rw [h2] at h;split at h
  · omega
  · simp at h
 · exact JF.1 h2
theorem aqA (p:Pl):iV p=(Zv p).all Ik:=by
 unfold iV Zv;have h:∀ l:List Pt,(!l.any MG)=l.all Ik:=fun l=>by
  induction l with
  | nil=>rfl
  | cons a l ih=>rw [ab5,aAD,Bool.not_or,ih,anl,Bool.not_not]
 rw [List.all_append,List.all_flatMap,Xr];have h1:(!p.nodes.any fun n=>MG n.pt)=p.nodes.all (Ik ∘ fun n=>n.pt):=by
  have:=h (p.nodes.map (·.pt))
  rw [lI,Xr] at this;exact this
 have h2:(!p.AU.any fun a=>a.via.any MG)=p.AU.all fun a=>a.via.all Ik:=by
  rw [List.not_any_eq_all_not];congr 1
  funext a
  exact h a.via
 rw [h1,h2]
theorem vJ (p:Pl):OE p=(!(p.nodes.map (·.id)).any KA && !(p.AU.map (·.id)).any KA && !p.faces.any KA && iV p):=by
 unfold OE;rw [aqA,ab6,ab6,Bool.not_or,Bool.not_or]
theorem aqB {α:Type} {l:List α} {q:α->Bool} (h:l.any q=false):∀ x∈l,q x=false:=fun x hx=>by
 rw [Xu] at h;have:=h x hx
 simpa using this
theorem aqC {l:List Nd} (h:(l.map (·.id)).any KA=false):∀ n∈l,ES n.id:=fun n hn=>by
 have:=aqB h n.id (Gs hn)
 simp only [KA,Rq,J3] at this;exact KU AB AB
theorem aqD {p:Pl} (h:JX p=false):(p.AU.flatMap (FK p)).length<=2097152:=by
 obtain ⟨h1,h2,h3,h4,h5⟩:=lu h;have hl:=aAl p.AU (FK p) 65 (fun a ha=>by
  simp only [FK,Cm,Qj];unfold pathOf
  cases hb:findAr p.AU a.id with
  | none=>simp
  | some b =>
   simp only [];split
   ·have:=h1 b (aAf hb)
    simp only [Gp,Eh];omega
   · simp)
 omega
theorem agc (v:Value) (p:Pl) (w:World) (h:Cb w v p) :
  Calls Tryz.prog 115 #[v] w fun e w'=>e=.returned (.int .i64 (Ig p))/\AP w w':=by
 have HP:=AA h;obtain ⟨_,_,_,al,rfl,hpa,⟨An,cn,rfl,hn1,hn2,-⟩,⟨⟨Aa,ca,rfl,ha1,ha2,FU⟩,hV⟩,hF⟩:=h;have HF:=AA hF;obtain ⟨Af,cf,rfl,hf1,hf2,-⟩:=hF;unfold maxLen at hn2 ha2 hf2;have HV:=AA hV;clear hV;have Gu:=AA FU;clear FU;obtain ⟨q,hq⟩:=BL (Ig p);rw [hq];have hq2:=hq;unfold Ig at hq;have hbig:256<p.nodes.length\/256<al.length\/64<p.faces.length->3=q:=fun hh=>by
  rw [<- hq,AZ];unfold JX;rw [hpa,Cm];simp only [L6,E8];omega
 have PY:∀ k (hk:k<al.length),64<al[k].1.via.length->3=q:=fun k hk hh=>by
  rw [<- hq,AZ];unfold JX;rw [hpa,lI];have:=Ri al ((fun a=>decide (64<a.via.length)) ∘ fun x=>x.1) k hk (by simpa using hh)
  rw [this];rfl
 have hsmall:¬ 256<p.nodes.length->¬ 256<al.length->¬ 64<p.faces.length->(∀ k (hk:k<al.length),¬ 64<al[k].1.via.length)->JX p=false:=fun h1 h2 h3 h4=>by
  unfold JX;rw [hpa,Cm,lI];have:=UA al ((fun a=>decide (64<a.via.length)) ∘ fun x=>x.1) (fun j hj=>by have:=h4 j hj;simpa using this)
  rw [this,G8 h1,G8 h2,G8 h3];rfl
 have Hq:=AA hq2;have WI:=AA hbig;have agd:=AA PY;have agf:=AA hsmall;have Zn:=AA hpa;clear hq hq2 hbig PY hsmall hpa;go_enter Tryz.func115,Tryz.ntmps115;by_cases g1:256<p.nodes.length
 ·have hf:=AA (WI.out (.inl g1));go_wp2;go_ret;exact ⟨DU hf.out,bA (bR w) _⟩
 by_cases g2:256<al.length
 ·have hf:=AA (WI.out (.inr (.inl g2)));go_wp2;go_ret;exact ⟨DU hf.out,bA (bR w) _⟩
 by_cases g3:64<p.faces.length
 ·have hf:=AA (WI.out (.inr (.inr g3)));go_wp2;go_ret;exact ⟨DU hf.out,bA (bR w) _⟩
 go_wp2_with fail;obtain ⟨W1,hW1⟩:=BO (w.alloc (.cells #[.slice An p.nodes.length cn,.slice Aa al.length ca,.slice Af p.faces.length cf] 26));have HB1:=AA (show AP w W1 by rw [hW1];exact bA (bR w) _);have D9:Hid (AO W1 w.heap.size 26 #[.slice An p.nodes.length cn,.slice Aa al.length ca,.slice Af p.faces.length cf]):=AA (by rw [hW1];exact AO.made rfl _ _);rw [<- hW1];clear hW1;go_loopw [26] (fun u wr=>∃ k:Nat,k<=al.length/\u=.int .i64 k/\AP W1 wr/\∀ j (hj:j<al.length),j<k->¬ 64<al[j].1.via.length) (fun u _=>al.length-(intOf u).toNat)
 case atStart => exact ⟨0,BZ _,rfl,bR W1,fun _ _ h=>by omega⟩
 case round =>
 obtain ⟨k,hk,rfl,hb,hno⟩:=hrel;have Hb:=AA hb;have Hno:=AA hno;have X1:=D9.out.keep hb;clear hb hno;obtain ⟨Ak,Au,Az,BA,-,-,-⟩:=X1.BF;by_cases hlt:k<al.length
 case pos =>
  obtain ⟨b,o,rfl,hlb,c0,c1,c2,c3,c4,c5⟩:=(Gu.out.mono (bT HB1.out Hb.out)).ar hlt;obtain ⟨Av,cv,hv,hv1,hv2,-⟩:=HV.out k hlt;unfold maxLen at hv2;rw [hv] at c3;clear hv;by_cases hbig:64<al[k].1.via.length
  ·have hf:=AA (agd.out k hlt hbig);go_wp2;go_ret;exact ⟨DU hf.out,bT HB1.out (bA Hb.out _)⟩
  ·have hb':=AA hbig;go_wp2;go_roundw
   case rel => exact ⟨k+1,AB,BI,bA Hb.out _,all_succ (p:=fun a=>¬ 64<a.1.via.length) Hno.out hlt hb'.out⟩
   case measure => exact BK
 case neg =>
 have hlim:=agf.out g1 g2 g3 (fun j hj=>Hno.out j hj AB);have hlen:=aqD hlim;have hq:=Hq.out;rw [aq8 p hlim] at hq;have azN:=AA hlim;have HLen:=AA hlen;have hsh:Short p:=fun a ha=>by have:=(lu hlim).1 a ha;omega
 have DL:=AA hsh;replace Hq:=AA hq;have aqE:p.AU.length<=4096:=by rw [Zn.out,Cm];omega
 clear hlim hlen hsh hq WI agd agf HV Gu Hno;have Bw:=bT HB1.out Hb.out;clear Hb;go_wp2_with fail;refine (anp _ p _ (HP.out.mono Bw) AB aqE).mono ?_;rintro e w2 ⟨v2,u2,rfl,hb2,ho1,ho2⟩;have JZ:=AA (Own.sl ho1);have EU:=AA (Own.sl ho2);replace Bw:=bT Bw hb2;replace X1:=X1.keep hb2;clear hb2 ho1 ho2
 try clear Ak Au Az BA
 obtain ⟨Ak,Au,Az,BA,-,-,-⟩:=X1.BF;obtain ⟨wz,rfl⟩:=BO w2;go_wp2_with fail;refine (ac9 _ _ _ JZ.out).mono ?_;rintro e w3 ⟨rfl,hb3⟩;have B3:=hb3;replace X1:=X1.keep hb3;clear hb3
 try clear Ak Au Az BA
 obtain ⟨Ak,Au,Az,BA,-,-,-⟩:=X1.BF
 cases h1:PI (p.nodes.map (·.id))
 case false =>
  have hf:=AA (show 10=q by rw [<- Hq.out,AZ (by simp [Qw,h1])]);clear h1;go_wp2;go_ret;exact ⟨DU hf.out,bT Bw B3⟩
 have H1:=AA h1;clear h1;go_wp2_with fail;refine (ac9 _ _ _ (EU.out.mono B3)).mono ?_;rintro e w4 ⟨rfl,hb4⟩;have B4:=bT B3 hb4;replace X1:=X1.keep hb4;clear hb4 B3
 try clear Ak Au Az BA
 obtain ⟨Ak,Au,Az,BA,-,-,-⟩:=X1.BF
 cases h1:PI (p.AU.map (·.id))
 case false =>
  have hf:=AA (show 10=q by rw [<- Hq.out,AZ (by simp [Qw,h1])]);clear h1;go_wp2;go_ret;exact ⟨DU hf.out,bT Bw B4⟩
 have H2:=AA h1;clear h1;go_wp2_with fail;refine (ac9 _ _ _ (HF.out.mono (bT Bw B4))).mono ?_;rintro e w5 ⟨rfl,hb5⟩;have B5:=bT B4 hb5;replace X1:=X1.keep hb5;clear hb5 B4
 try clear Ak Au Az BA
 obtain ⟨Ak,Au,Az,BA,-,-,-⟩:=X1.BF
 cases h1:PI p.faces
 case false =>
  have hf:=AA (show 10=q by rw [<- Hq.out,AZ (by simp [Qw,h1])]);clear h1;go_wp2;go_ret;exact ⟨DU hf.out,bT Bw B5⟩
 have hq:=Hq.out;rw [AX (show ¬ Qw p=false by simp [Qw,h1,H1.out,H2.out])] at hq;replace Hq:=AA hq;clear hq h1;go_wp2_with fail;refine (acB _ _ _ (JZ.out.mono B5)).mono ?_;rintro e w6 ⟨rfl,hb6⟩;have B6:=bT B5 hb6;replace X1:=X1.keep hb6;clear hb6 B5
 try clear Ak Au Az BA
 obtain ⟨Ak,Au,Az,BA,-,-,-⟩:=X1.BF
 cases h1:(p.nodes.map (·.id)).any KA
 case true =>
  have hf:=AA (show 2=q by rw [<- Hq.out,AZ (by rw [vJ,h1];rfl)]);clear h1;go_wp2;go_ret;exact ⟨DU hf.out,bT Bw B6⟩
 have H3:=AA h1;clear h1;go_wp2_with fail;refine (acB _ _ _ (EU.out.mono B6)).mono ?_;rintro e w7 ⟨rfl,hb7⟩;have B7:=bT B6 hb7;replace X1:=X1.keep hb7;clear hb7 B6
 try clear Ak Au Az BA
 obtain ⟨Ak,Au,Az,BA,-,-,-⟩:=X1.BF
 cases h1:(p.AU.map (·.id)).any KA
 case true =>
  have hf:=AA (show 2=q by rw [<- Hq.out,AZ (by rw [vJ,h1];simp)]);clear h1;go_wp2;go_ret;exact ⟨DU hf.out,bT Bw B7⟩
 have H4:=AA h1;clear h1;go_wp2_with fail;refine (acB _ _ _ (HF.out.mono (bT Bw B7))).mono ?_;rintro e w8 ⟨rfl,hb8⟩;have B8:=bT B7 hb8;replace X1:=X1.keep hb8;clear hb8 B7
 try clear Ak Au Az BA
 obtain ⟨Ak,Au,Az,BA,-,-,-⟩:=X1.BF
 cases h1:p.faces.any KA
 case true =>
  have hf:=AA (show 2=q by rw [<- Hq.out,AZ (by rw [vJ,h1];simp)]);clear h1;go_wp2;go_ret;exact ⟨DU hf.out,bT Bw B8⟩
 have H5:=AA h1;clear h1;go_wp2_with fail;refine (anm _ p _ (HP.out.mono (bT Bw B8))).mono ?_;rintro e w9 ⟨rfl,Vj⟩;have B9:=bT B8 Vj;replace X1:=X1.keep Vj;clear Vj B8
 try clear Ak Au Az BA
 obtain ⟨Ak,Au,Az,BA,-,-,-⟩:=X1.BF
 cases h1:iV p
 case false =>
  have hf:=AA (show 2=q by rw [<- Hq.out,AZ (by rw [vJ,h1];simp)]);clear h1;go_wp2;go_ret;exact ⟨DU hf.out,bT Bw B9⟩
 have hq:=Hq.out;rw [AX (show ¬ OE p=false by rw [vJ,h1,H3.out,H4.out,H5.out];decide)] at hq;replace Hq:=AA hq;clear hq h1;go_wp2_with fail;refine (apF _ _ p _ _ (HP.out.mono (bT Bw B9)) (JZ.out.mono B9)).mono ?_;rintro e w10 ⟨rfl,iE⟩;have B10:=bT B9 iE;replace X1:=X1.keep iE;clear iE B9
 try clear Ak Au Az BA
 obtain ⟨Ak,Au,Az,BA,-,-,-⟩:=X1.BF;by_cases h1:Uf p (p.nodes.map (·.id))=0
 case neg =>
  have hf:=AA (show Uf p (p.nodes.map (·.id))=q by rw [<- Hq.out,AX h1]);generalize Uf p (p.nodes.map (·.id))=c at *;go_wp2;go_ret;exact ⟨DU hf.out,bT Bw B10⟩
 have hq:=Hq.out;rw [AZ h1] at hq;replace Hq:=AA hq;have aqF:=AA (aq9 p h1);rw [h1];clear hq h1;have OI:Hid (Sound p):=AA ⟨uo _ H1.out,uo _ H2.out,aqF.out⟩;go_wp2_with fail;refine (aoe _ p _ (HP.out.mono (bT Bw B10)) DL.out HLen.out AB (aqC H3.out) OI.out).mono ?_;rintro e dO ⟨rfl,Td⟩;have B11:=bT B10 Td;clear Td B10 X1 Ak Au Az BA
 cases h1:Og p
 case false =>
  have hf:=AA (show 11=q by rw [<- Hq.out,AZ h1]);clear h1;go_wp2;go_ret;exact ⟨DU hf.out,bT Bw B11⟩
 case true =>
  have hf:=AA (show 0=q by rw [<- Hq.out,AX (by rw [h1];decide)]);clear h1;go_wp2;go_ret;exact ⟨DU hf.out,bT Bw B11⟩
