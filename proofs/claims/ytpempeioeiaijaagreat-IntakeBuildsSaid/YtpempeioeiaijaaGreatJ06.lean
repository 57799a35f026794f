import Derived.Deep.CutBlock
import Derived.Test.YtpempeioeiaijaaGreatJ05
set_option linter.unusedSimpArgs false
set_option linter.unusedVariables false
set_option maxRecDepth 100000
set_option maxHeartbeats 16000000
namespace Go.Proofs.YtpempeioeiaijaaGreat
open Go.RowKit Tryz
theorem Row.psg {w:World} {A:Option Addr} {l:List DZ} (h:Row w A (l.flatMap Ia)) {k:Nat} (hk:k<l.length) :
  ∃ b o,A=some ⟨b,o,none⟩/\b<w.heap.size/\w.cell? ⟨b,o+k*2,none⟩=some (.pointer (some ⟨l[k].ln.g,0,none⟩))/\w.cell? ⟨b,o+k*2+1,none⟩=some (.int .i64 l[k].k):=by
 obtain ⟨b,o,hA,hb,hc⟩:=h.at_ (n:=2) (fun _=>rfl) hk AA;exact ⟨b,o,hA,hb,hc 0 _ rfl,hc 1 _ rfl⟩
theorem free_eq (s:DZ) (n:Nd):LX s n = !(Ee s.fst s.snd n.pt && !(((s.k:Int) == 0) && (s.ln.arc.fr == n.id)) && !(((s.k:Int) == (s.ln.path.length:Int)-2) && (s.ln.arc.dst == n.id))):=rfl
structure apH (f:Int->Pt) (nl:List Nd) (sl:List DZ) (q:Bool):Prop where
 pair:∀ i j (_:i<j) (hj:j<sl.length),J4 sl[j]<=Oq (sl[i]'(by omega))->Ot f (sl[i]'(by omega)) sl[j]=false->q=false
 node:∀ i (hi:i<sl.length) m (hm:m<nl.length),LX sl[i] nl[m]=false->q=false
 yes:(∀ i j (_:i<j) (hj:j<sl.length),J4 sl[j]<=Oq (sl[i]'(by omega))->Ot f (sl[i]'(by omega)) sl[j]=true)->(∀ i (hi:i<sl.length) m (hm:m<nl.length),LX sl[i] nl[m]=true)->q=true
theorem verdict {p:Pl} (hp:Sound p) (hok:p.AQ.all (KQ p)=true) {sl:List DZ} (hs:(sl.map DZ.abs).Perm (p.AQ.flatMap (FM p))):apH (nodeAt p) p.nodes sl (MZ p):=by
 have hl:=hp.apD hok sl hs;refine ⟨fun i j hij hj hw hc=>?_,fun i hi m hm hf=>?_,fun h1 h2=>hl.1 ⟨h1,fun s hs n hn=>?_⟩⟩
 · rw [<- IL];intro hq;have:=(hl.2 hq).1 i j hij hj hw;rw [hc] at this;cases this
 · rw [<- IL];intro hq;have:=(hl.2 hq).2 _ (BO hi) _ (BO hm);rw [hf] at this;cases this
 ·obtain ⟨i,hi,rfl⟩:=EF.1 hs;obtain ⟨m,hm,rfl⟩:=EF.1 hn;exact h2 i hi m hm
theorem apI (v:Value) (p:Pl) (w:World) (h:D6 w v p) (hsh:Short p) (hl:(p.AQ.flatMap (FM p)).length<=2097152) (hnl:p.nodes.length<=4096)
  (aa4:∀ n∈p.nodes,F6 n.id) (hp:Sound p) :
  Calls prog 51 #[v] w fun e w'=>e=.returned (.bool (MZ p))/\AU w w':=by
 have hno:=@Sound.apE p hp;have aiu:=fun hok sl hs=>@verdict p hp hok sl hs;have hlast:=apG p hp.nodes;have har:∀ a∈p.AQ,F6 a.fr/\F6 a.dst:=fun a ha=>by
  obtain ⟨⟨n1,h1,e1⟩,⟨n2,h2,e2⟩⟩:=hp.aa3 ha;exact ⟨e1 ▸ aa4 n1 h1,e2 ▸ aa4 n2 h2⟩
 have aiv:∀ x∈p.AQ.flatMap (FM p),F6 x.arc.fr/\F6 x.arc.dst:=fun x hx=>har _ (hp.mem hx).1;have hseg:=apq v p;obtain ⟨apJ,HP,Hno,aiw,aix,Hsh,Hl⟩:=WI hseg h hno aiu aiv hsh hl;clear hno aiu aiv hseg hsh hl har hp;generalize MZ p=q at *;obtain ⟨_,va,vf,al,rfl,-,⟨An,cn,rfl,hn1,hn2,hR⟩,-⟩:=h;unfold maxLen at hn2;have HR:=AB hR;clear hR;have hnw:∀ k (hk:k<p.nodes.length),F6 p.nodes[k].id:=fun k hk=>aa4 _ (BO hk);clear aa4;have HNw:=AB hnw;clear hnw;generalize hF:nodeAt p=F at *;generalize hA:p.AQ.flatMap (FM p)=AL at *;have apK:=AB hlast;clear hlast hF;have HA:=AB hA;clear hA;generalize hNl:p.nodes=nl at *;clear hNl;go_enter func51,ntmps51;go_wp2_with fail;refine (apJ.1 _ (HP.1.mono (bA (bR w) _)) Hsh.1 Hl.1).mono ?_;rintro e w1 ⟨hb1,hr⟩;have Bw:AU w w1:=bT (bA (bR w) _) hb1;have X1:AO w1 w.heap.size 34 #[.slice An nl.length cn,va,vf]:=(AO.made rfl _ _).keep hb1;clear hb1
 cases hok:p.AQ.all (KQ p)
 case false =>
  rw [hok] at hr;simp only [QL,if_false] at hr;subst hr;have hf:=AB (Hno.1 hok);clear hok;obtain ⟨BJ,BK,BL,BQ,-⟩:=X1.Az;go_wp2;go_ret;exact ⟨CP hf.1.symm,Bw⟩
 case true =>
 rw [hok] at hr;simp only [if_true] at hr;obtain ⟨sl,vs,rfl,hsl,aiy,hown⟩:=hr;rw [HA.1] at hsl;have aiz:sl.length<=2097152:=by have:=congrArg List.length hsl;rw [CV] at this;have:=Hl.1;omega
 have hsz1:=Bw.size;have hs1:=Own.sl (Own.EM hown (b':=w.heap.size) Ah);obtain ⟨As,cs,rfl,hs1,hs2,-⟩:=hs1;unfold maxLen at hs2;have aj0:=Own.lt hown;obtain ⟨FB,aj1,TQ,Dt,aj2⟩:=I4 (Own.EM hown (b':=w.heap.size) Ah) aiy hsl X1 (aiw.1 hok);clear hsl aiy hown hok;have hnb:=FB.1.EX X1 Aw;have aj3:=AB aj0;have Hnb:=AB hnb;clear aj0 hnb
 try clear BJ BK BL BQ
 obtain ⟨BJ,BK,BL,BQ,-⟩:=X1.Az;have fE:=AB (JJ.made w1);have hmm:=@run_makeMap prog;go_wp2_with fail;obtain ⟨W2,hW2⟩:=BR (w1.alloc (.map #[] 0));have TY:Et (JJ W2 w1.heap.size 0 (fun _=>z0)):=by rw [hW2];exact fE
 have hA2:AU w1 W2:=by rw [hW2];exact bA (bR w1) _
 have HB2:=AB hA2;rw [<- hW2];clear hmm hW2 hA2 X1 BJ BK BL BQ fE;have hx2:=HB2.1.size;go_loopw [27] (fun u wr=>∃ k:Nat,k<=nl.length/\u=.int .i64 k/\AU w1 wr/\JJ wr w1.heap.size k (fD (nl.take k))) (fun u _=>nl.length-(intOf u).toNat)
 case atStart => exact ⟨0,BX _,rfl,HB2.1,TY.out⟩
 case round =>
  obtain ⟨k,hk,rfl,hb,hm⟩:=hrel;have Hb:=AB hb;have Hm:=AB hm;have tK:=hb.size;clear hb hm;by_cases hlt:k<nl.length
  case pos =>
   obtain ⟨b,o,rfl,hlb,c0,c1,c2⟩:=(HR.1.mono (bT Bw Hb.1)).nd hlt;obtain ⟨w3,hr3,PV,hg3⟩:=JJ.upd (Hm.1.keep (bA (bR wr) (.cells #[.int .i64 nl[k].id,.int .i64 nl[k].pt.x,.int .i64 nl[k].pt.y] 47))) AA nl[k].id (HNw.1 k hlt) nl[k].pt;have hm4:JJ w3 w1.heap.size (k+1) (fD (nl.take (k+1))):=by rw [apF nl k hlt];exact PV
   have B3:AU w1 w3:=bG (bA Hb.1 _) hg3 (fun g hg=>by injection hg with hg;omega);have Hm4:=AB hm4;have HB3:=AB B3;unfold BA at hr3;clear PV hg3 hm4 B3;go_wp2;go_roundw
   case rel => exact ⟨k+1,AA,BG,HB3.1,Hm4.1⟩
   case measure => exact BH
  case neg =>
  have hall:nl.take k=nl:=IE AA;have hm:=Hm.1;rw [hall,apK.1] at hm;have hkm:k<=4096:=AA
  replace Hm:=AB hm;clear hm hall;go_wp2_with fail;refine (aq8 w.heap.size _ sl _ (FB.1.keep Hb.1) (fun s hs=>(aj1.1 s hs).keep Hb.1) AA).mono ?_;rintro e w4 ⟨rfl,sl',hperm,hsort,hown',hok',hg⟩;have hps:(sl'.map DZ.abs).Perm AL:=by
   have:=hperm.map DZ.abs
   rw [TQ.1] at this;exact this
  have hwf:∀ s∈sl',F6 s.ln.arc.fr/\F6 s.ln.arc.dst:=fun s hs=>by
   have:=aix.1 s.abs (hps.mem_iff.1 (FZ hs))
   exact this
  have hlen':sl'.length=sl.length:=hperm.length_eq;have B4:AU w w4:=bG (bT Bw Hb.1) hg (fun g hg'=>(FB.1.lt g hg').1);have hm4:JJ w4 w1.heap.size k F:=Hm.1.kept hg (fun e=>by have:=(aj3.1 _ e.symm).2;omega);have X1:AO w4 w.heap.size 34 #[.slice An nl.length cn,va,vf]:=(Dt.1.keep Hb.1).grown hg (fun e=>Hnb.1 e.symm);have hV:=aj2.1 sl' hps;have hrow:Row w4 As (sl'.flatMap Ia):=by
   obtain ⟨A0,c0,e0,-,-,hr0⟩:=Own.sl hown';injection e0 with e0 _ _;subst e0;exact hr0
  obtain ⟨HV,DL,fF,HB4,Zy,fG,apL,XF⟩:=yU hV X1 hm4 B4 hok' hrow hsort hwf;clear hps hperm hsort hown' hok' hg hwf B4 hm4 X1 hV hrow FB aj1 TQ aix aiw aj2 aj3 Hnb Hm TY Dt Hb HB2 tK hx2;have azc:sl'.length<=2097152:=by rw [hlen'];exact aiz
  rw [<- hlen'] at hs1 ⊢;clear hlen' aiz;go_wp2_with fail;obtain ⟨wo,rfl⟩:=BR wr;go_loopw [41] (fun u wr=>∃ i:Nat,i<=sl'.length/\u=.int .i64 i/\AU w4 wr/\(∀ a b (_:a<b) (hb:b<sl'.length),a<i->J4 sl'[b]<=Oq (sl'[a]'(by omega))->Ot F (sl'[a]'(by omega)) sl'[b]=true)/\(∀ a (ha:a<sl'.length) m (hm:m<nl.length),a<i->LX sl'[a] nl[m]=true)) (fun u _=>sl'.length-(intOf u).toNat)
  case atStart => exact ⟨0,BX _,rfl,bR w4,fun _ _ _ _ h=>AA,fun _ _ _ _ h=>AA⟩
  case round =>
   obtain ⟨i,hi,rfl,hb,sD,LP⟩:=hrel;obtain ⟨Hb,adh,QY⟩:=CG hb sD LP;clear hb sD LP;by_cases hlt:i<sl'.length
   case neg =>
    have hf:=AB (HV.1.yes (fun a b hab hb hw=>adh.1 a b hab hb AA hw) (fun a ha m hm=>QY.1 a ha m hm AA));go_wp2;go_ret;exact ⟨CP hf.1.symm,bT HB4.1 Hb.1⟩
   obtain ⟨b,o,hAs,hlb,c0,c1⟩:=(fG.1.mono Hb.1).psg hlt;obtain ⟨Ac,Cc,RP⟩:∃ Ac Cc,Ac=QW As cs (i+1) 2/\Cc=cs-(i+1):=⟨_,_,rfl,rfl⟩;have aj6:∀ W,(Instr.slice 125 (.slice As sl'.length cs) (some (.int .i64 ((i:Int)+1))) none none).run prog W=.ok (.slice Ac (sl'.length-(i+1)) Cc) W:=fun W=>by
    rw [RP.1,RP.2];exact adG Tryz.underlying125 ahI As sl'.length cs (i+1) AA _ AA W
   have Zk:=AB RP;clear RP;subst hAs;obtain ⟨dl,hdl⟩:=BR (sl'.drop (i+1));have hdn:sl'.length-(i+1)=dl.length:=by rw [hdl,Ue]
   have hdg:∀ j (hj:j<dl.length),∃ h:i+1+j<sl'.length,dl[j]=sl'[i+1+j]:=fun j hj=>by
    subst hdl;rw [Ue] at hj;exact ⟨AA,Ah⟩
   have aj7:Row w4 Ac (dl.flatMap Ia):=by
    rw [Zk.1.1,hdl,<- ahq Ia 2 zi];exact fG.1.cut (by rw [flat_length Ia 2 zi];omega)
   rw [hdn] at aj6;obtain ⟨ZP,aj8,HDn⟩:=CG hdg aj7 hdn;have hdb:dl.length<=2097152:=AA
   clear hdl hdg aj7 Zk hdn;have hsi:=AB ((Zy.1 _ (BO hlt)));have aj9:∀ j,i<j->∀ hj:j<sl'.length,J4 sl'[j]<=Oq sl'[i]->Ot F sl'[i] sl'[j]=false->q=false:=fun j hij hj=>HV.1.pair i j hij hj;have hnodes:∀ m (hm:m<nl.length),LX sl'[i] nl[m]=false->q=false:=fun m hm=>HV.1.node i hlt m hm;have hdone:(∀ j,i<j->∀ hj:j<sl'.length,J4 sl'[j]<=Oq sl'[i]->Ot F sl'[i] sl'[j]=true)->(∀ a b (_:a<b) (hb:b<sl'.length),a<i+1->J4 sl'[b]<=Oq (sl'[a]'(by omega))->Ot F (sl'[a]'(by omega)) sl'[b]=true):=fun h a b hab hb ha=>by
    by_cases e:a<i
    · exact adh.1 a b hab hb e
    ·have:a=i:=AA
     subst this;exact h b hab hb
   have ajA:(∀ m (hm:m<nl.length),LX sl'[i] nl[m]=true)->(∀ a (ha:a<sl'.length) m (hm:m<nl.length),a<i+1->LX sl'[a] nl[m]=true):=fun h a ha m hm hai=>by
    by_cases e:a<i
    · exact QY.1 a ha m hm e
    ·have:a=i:=AA
     subst this;exact h m hm
   have ajB:=XF.1 _ (BO hlt);generalize anu:sl'[i]=si at *;obtain ⟨ajC,aa5,aiK,aqk,aiL⟩:=I4 aj9 hnodes hdone ajA ajB;clear anu aj9 hnodes hdone ajA adh QY ajB;have lK:=EL ((i:Int)+1);have r3:0<=(i:Int)+1:=AA
   have r4:(i:Int)+1<=sl'.length:=AA
   have r5:((i:Int)+1).toNat=i+1:=AA
   go_upto_block 4 with fail;obtain ⟨W5,IZ⟩:=BR (wr.alloc (.cells #[.pointer (some ⟨si.ln.g,0,none⟩),.int .i64 si.k] 132));have Ce:=AB (show AU w4 W5 by rw [IZ];exact bA Hb.1 _);have X9:AO W5 wr.heap.size 132 #[.pointer (some ⟨si.ln.g,0,none⟩),.int .i64 si.k]:=by rw [IZ];exact AO.made rfl _ _
   have TU:=AB X9;rw [<- IZ];clear IZ X9 aj6 lK r3 r4 r5 c0 c1 hlb;obtain ⟨wp,rfl⟩:=BR wr;have TW:∀ s:DZ,∀ W,FX W s->Calls prog 97 #[I8 s] W _:=fun s W h=>adW s W h;have TE:∀ s:DZ,∀ W,FX W s->Calls prog 98 #[I8 s] W _:=fun s W h=>aoJ s W h;have TC:∀ s t:DZ,∀ W,FX W s->FX W t->JJ W w1.heap.size k F->F6 s.ln.arc.fr->F6 s.ln.arc.dst->Calls prog 99 #[I8 s,I8 t,.map (some w1.heap.size)] W _:=fun s t W h1 h2 h3 h4 h5=>apW F w1.heap.size k s t W h1 h2 h3 h4 h5;unfold I8 at TW TE TC;obtain ⟨HTW,HTE,HTC⟩:=CG TW TE TC;clear TW TE TC;go_cut [51] (fun u wx=>AU W5 wx/\∀ j,i<j->∀ hj:j<sl'.length,J4 sl'[j]<=Oq si->Ot F si sl'[j]=true)
   case first =>
    go_wp2_with fail;go_loopw [51] (fun u wx=>∃ j:Nat,j<=dl.length/\u=.int .i64 j/\AU W5 wx/\∀ m (hm:m<dl.length),m<j->J4 dl[m]<=Oq si->Ot F si dl[m]=true) (fun u _=>dl.length-(intOf u).toNat)
    case atStart => exact ⟨0,BX _,rfl,bR W5,fun _ _ h=>AA⟩
    case round =>
     obtain ⟨j,hj,rfl,hbx,hnx⟩:=hrel;have G6:=AB hbx;have Tt:=AB hnx;have hxs:=hbx.size;have X9:=TU.1.keep hbx;clear hbx hnx;by_cases hlj:j<dl.length
     case neg =>
      have hf:=AB (show ∀ j,i<j->∀ hj:j<sl'.length,J4 sl'[j]<=Oq si->Ot F si sl'[j]=true from fun m him hm hw=>by
       have hd:=HDn.1;obtain ⟨h1,h2⟩:=ZP.1 (m-(i+1)) AA;have e:i+1+(m-(i+1))=m:=AA
       simp only [e] at h2;have:=Tt.1 (m-(i+1)) AA AA
       rw [h2] at this;exact this hw)
      go_wp2;go_meet
      case rel => exact ⟨G6.1,hf.1⟩
     obtain ⟨b',o',rfl,VF,d0,d1⟩:=(aj8.1.mono (bT Ce.1 G6.1)).psg hlj;obtain ⟨hjs,hje⟩:=ZP.1 j hlj;have htj:=AB (Zy.1 _ (BO hjs));rw [<- hje] at htj;have hwj:=AB hje;clear hje;go_upto_region 17 with fail;obtain ⟨W7,aa6⟩:=BR (wr.alloc (.cells #[.pointer (some ⟨dl[j].ln.g,0,none⟩),.int .i64 dl[j].k] 132));have Uy:AU wr W7:=by rw [aa6];exact bA (bR wr) _
     have ZQ:AO W7 wr.heap.size 132 #[.pointer (some ⟨dl[j].ln.g,0,none⟩),.int .i64 dl[j].k]:=by rw [aa6];exact AO.made rfl _ _
     rw [<- aa6];replace X9:=X9.keep Uy;have B7:=AB (bT Ce.1 (bT G6.1 Uy));have B7':=AB (bT G6.1 Uy);clear aa6 Uy d0 d1 VF;obtain ⟨JU,Jg,JY,-⟩:=X9.Bl;obtain ⟨uP,uQ,adJ,-⟩:=ZQ.Bl;refine D9 (W7) (.take 0 1 (.take 2 5 (.call 1 7 (.call 3 15 (.take 4 31 (.done)))))) fun CQ QR Ae Aj hS=>?_
     iterate 2 refine Ak ?_
     refine BN ?_;clear hS;intro K hK AP;go_simp;refine (HTW.1 _ _ (htj.1.keep (bT B7.1 AP.out))).mono ?_;rintro e BZ ⟨rfl,BU,-⟩;have hS:Since W7 BZ:=bT (w:=W7) AP.out BU;clear AP;refine hK.out _ _ hS (fun _=>?_);clear hK K
     try simp only [pu]
     refine BN ?_;clear hS;intro K hK AP;go_simp;refine (HTE.1 _ _ (hsi.1.keep (bT B7.1 AP.out))).mono ?_;rintro e wr2 ⟨rfl,Du,-⟩;have hS:Since W7 wr2:=bT (w:=W7) AP.out Du;clear AP;refine hK.out _ _ hS (fun _=>?_);clear hK K
     try simp only [pu]
     refine Ak ?_;refine D5 ?_;clear hS Aj Ae;intro hB;have B8:=AB (bT B7.1 hB);have B8':=AB (bT B7'.1 hB);replace X9:=X9.keep hB;replace ZQ:=ZQ.keep hB;clear hB
     try clear JU Jg JY
     obtain ⟨JU,Jg,JY,-⟩:=X9.Bl
     try clear uP uQ adJ
     obtain ⟨uP,uQ,adJ,-⟩:=ZQ.Bl;by_cases hw:Oq si<J4 dl[j]
     ·have hf:=AB (show ∀ j,i<j->∀ hj:j<sl'.length,J4 sl'[j]<=Oq si->Ot F si sl'[j]=true from fun m him hm hwm=>by
       by_cases e:m<i+1+j
       ·have hd:=HDn.1;obtain ⟨h1,h2⟩:=ZP.1 (m-(i+1)) AA;have e:i+1+(m-(i+1))=m:=AA
        simp only [e] at h2;have:=Tt.1 (m-(i+1)) AA AA
        rw [h2] at this;exact this hwm
       ·have hs:J4 dl[j]<=J4 sl'[m]:=by
         rw [hwj.1];by_cases e':m=i+1+j
         · subst e';exact dY _
         · exact apL.1 (i+1+j) m AA hm
        omega)
      go_wp2;go_meet
      case rel => exact ⟨B8'.1,hf.1⟩
     ·have hw':=AB hw;go_wp2_with fail;refine (HTC.1 _ _ _ (hsi.1.keep B8.1) (htj.1.keep B8.1) (fF.1.keep B8.1) aiL.1.1 aiL.1.2).mono ?_;rintro e w9 ⟨rfl,Nh⟩;have B9:=AB (bT B8'.1 Nh);clear Nh X9 ZQ JU Jg JY uP uQ adJ hw
      cases hc:Ot F si dl[j]
      case false =>
       have hf:=AB (show false=q by
        have hq:=ajC.1 (i+1+j) AA hjs;rw [<- hwj.1] at hq;exact (hq (by have:=hw'.1;omega) hc).symm)
       clear hc;go_wp2;go_ret;exact ⟨CP hf.1,bT HB4.1 (bT Ce.1 B9.1)⟩
      case true =>
       have hc':=AB hc;clear hc;go_wp2;go_roundw
       case rel => exact ⟨j+1,AA,BG,B9.1,all_succ (p:=fun t=>J4 t<=Oq si->Ot F si t=true) Tt.1 hlj (fun _=>hc'.1)⟩
       case measure => exact BH
   case rest =>
   obtain ⟨hbc,hpd⟩:=hcut;have ZR:=AB (aiK.1 hpd);have HBc:=AB (bT Ce.1 hbc);have X9:=TU.1.keep hbc;replace TU:=AB X9;have X1:=DL.1.keep HBc.1;have HY:=AB (hsi.1.keep HBc.1);clear hbc hpd ajC aiK ZP aj8 HDn X9 HTW HTE HTC hdb;have TS:∀ W,FX W si->Calls prog 100 #[I8 si] W _:=fun W hW=>sG si W hW;have TO:∀ p q r:Pt,∀ W,Calls prog 101 #[BA p,BA q,BA r] W _:=fun p q r W=>aaP p q r W;have TF:∀ W,Calls prog 102 #[I8 si] W _:=fun W=>ahd si W;have TL:∀ W,FX W si->Calls prog 103 #[I8 si] W _:=fun W hW=>ahe si W hW;unfold I8 at TS TF TL;unfold BA at TS TO;obtain ⟨HTS,PW,Pz,Qe⟩:=DW TS TO TF TL;clear TS TO TF TL
   try clear BJ BK BL BQ
   obtain ⟨BJ,BK,BL,BQ,-⟩:=X1.Az;go_wp2_with fail;clear X1 BJ BK BL BQ;go_loopw [69] (fun u wx=>∃ m:Nat,m<=nl.length/\u=.int .i64 m/\AU wc wx/\∀ n (hn:n<nl.length),n<m->LX si nl[n]=true) (fun u _=>nl.length-(intOf u).toNat)
   case atStart => exact ⟨0,BX _,rfl,bR wc,fun _ _ h=>AA⟩
   case round =>
    obtain ⟨m,hm,rfl,hbx,hnx⟩:=hrel;have G6:=AB hbx;have Tt:=AB hnx;have X9:=TU.1.keep hbx;clear hbx hnx;by_cases hlm:m<nl.length
    case neg =>
     have hf:=AB (aqk.1 (fun n hn=>Tt.1 n hn AA));clear X9;go_wp2;go_roundw
     case rel => exact ⟨i+1,AA,BG,bT HBc.1 G6.1,ZR.1,hf.1⟩
     case measure => exact BH
    obtain ⟨b,o,rfl,hlb,c0,c1,c2⟩:=(HR.1.mono (bT HB4.1 (bT HBc.1 G6.1))).nd hlm
    try clear JU Jg JY
    obtain ⟨JU,Jg,JY,-⟩:=X9.Bl;go_wp2_with fail;refine (HTS.1 _ (HY.1.keep (bA G6.1 _))).mono ?_;rintro e w10 ⟨rfl,Tz,-⟩;have hA10:AU wr w10:=bT (bA (bR wr) _) Tz;have Xm:AO w10 wr.heap.size 47 #[.int .i64 nl[m].id,.int .i64 nl[m].pt.x,.int .i64 nl[m].pt.y]:=(AO.made rfl _ _).keep Tz;replace X9:=X9.keep hA10;replace G6:=AB (bT G6.1 hA10);clear Tz hA10 c0 c1 c2 hlb JU Jg JY;go_upto_region 25 with fail;obtain ⟨F5,uS⟩:=BR ((w10.alloc (.cells #[.int .i64 si.fst.x,.int .i64 si.fst.y] 42)).alloc (.cells #[.int .i64 si.snd.x,.int .i64 si.snd.y] 42));have aa7:AU w10 F5:=by rw [uS];exact bA (bA (bR w10) _) _
    have TV:AO F5 w10.heap.size 42 #[.int .i64 si.fst.x,.int .i64 si.fst.y]:=by rw [uS];exact (AO.made rfl _ _).alloc _
    have adK:AO F5 (w10.heap.size+1) 42 #[.int .i64 si.snd.x,.int .i64 si.snd.y]:=by rw [uS];exact AO.made Ah _ _
    rw [<- uS];replace X9:=X9.keep aa7;replace Xm:=Xm.keep aa7;replace G6:=AB (bT G6.1 aa7);have Y:=(HY.1.keep G6.1).line;clear uS aa7
    try clear JU Jg JY
    obtain ⟨JU,Jg,JY,-⟩:=X9.Bl;obtain ⟨aa8,aa9,aaA,aaB,-⟩:=Xm.Az;obtain ⟨VA,VB,VD,-⟩:=TV.Bl;obtain ⟨aql,aqm,aqn,-⟩:=adK.Bl;obtain ⟨Yl,Ya,Yb,Yc,Yd,Ye,Yf,Yg,-⟩:=Y.ZX;have hfe:=AB (free_eq si nl[m]);have TF:=Pz.1;have TL:=Qe.1;have TO:=PW.1 si.fst si.snd nl[m].pt
    cases e1:Ee si.fst si.snd nl[m].pt
    case false =>
     rw [e1] at TO;obtain ⟨hf,PW,Pz,Qe⟩:=DW (show LX si nl[m]=true by rw [hfe.1];simp only [e1];rfl) TO TF TL;clear TO TF TL hfe e1;refine D9 (F5) (.run 4 0 0 (.call 4 31 (.run 32 5 31 (.done)))) fun CQ QR Ae Aj hS=>?_
     iterate 4 refine Ak ?_
     refine BN ?_;clear hS;intro K hK AP;go_simp;refine (PW.1 _).mono ?_;rintro e BZ ⟨rfl,BU⟩;have hS:Since F5 BZ:=bT (w:=F5) AP.out BU;clear AP;refine hK.out _ _ hS (fun _=>?_);clear hK K
     try simp only [pu]
     refine Ak ?_
     iterate 14 refine JW ?_
     iterate 2 refine Ak ?_
     iterate 14 refine JW ?_
     refine Ak ?_;refine D5 ?_;clear hS Aj Ae;intro hB;go_wp2;go_roundw
     case rel => exact ⟨m+1,AA,BG,bT G6.1 hB,all_succ (p:=fun n=>LX si n=true) Tt.1 hlm hf.1⟩
     case measure => exact BH
    case true =>
     rw [e1] at TO
     cases e2:((si.k:Int) == 0)
     case false =>
      rw [e2] at TF
      cases e4:((si.k:Int) == (si.ln.path.length:Int)-2)
      case false =>
       rw [e4] at TL;obtain ⟨hf,PW,Pz,Qe⟩:=DW (show LX si nl[m]=false by rw [hfe.1];simp only [e1,e2,e4];rfl) TO TF TL;clear TO TF TL hfe e1 e2 e4;refine D9 (F5) (.run 4 0 0 (.call 4 31 (.take 5 63 (.take 6 127 (.call 7 255 (.run 15 8 255 (.call 23 16777215 (.run 13 24 16777215 (.done))))))))) fun CQ QR Ae Aj hS=>?_
       iterate 4 refine Ak ?_
       refine BN ?_;clear hS;intro K hK AP;go_simp;refine (PW.1 _).mono ?_;rintro e BZ ⟨rfl,BU⟩;have hS:Since F5 BZ:=bT (w:=F5) AP.out BU;clear AP;refine hK.out _ _ hS (fun _=>?_);clear hK K
       try simp only [pu]
       refine Ak ?_;refine E5 ?_;refine BN ?_;clear hS;intro K hK AP;go_simp;refine (Pz.1 _).mono ?_;rintro e wr2 ⟨rfl,Du⟩;have hS:Since F5 wr2:=bT (w:=F5) AP.out Du;clear AP;refine hK.out _ _ hS (fun _=>?_);clear hK K
       try simp only [pu]
       refine E5 ?_
       iterate 9 refine JW ?_
       iterate 2 refine E5 ?_
       iterate 2 refine Ak ?_
       refine E5 ?_;refine BN ?_;clear hS;intro K hK AP;go_simp;refine (Qe.1 _ (HY.1.keep (bT G6.1 AP.out))).mono ?_;rintro e wr3 ⟨rfl,NG⟩;have hS:Since F5 wr3:=bT (w:=F5) AP.out NG;clear AP;refine hK.out _ _ hS (fun _=>?_);clear hK K
       try simp only [pu]
       refine E5 ?_
       iterate 9 refine JW ?_
       iterate 2 refine E5 ?_
       refine Ak ?_;refine D5 ?_;clear hS Aj Ae;intro hB;have hr:=AB (aa5.1 m hlm hf.1);go_wp2;go_ret;exact ⟨CP hr.1.symm,bT HB4.1 (bT HBc.1 (bT G6.1 hB))⟩
      case true =>
       rw [e4] at TL
       cases e5:(si.ln.arc.dst == nl[m].id)
       case false =>
        obtain ⟨hf,PW,Pz,Qe⟩:=DW (show LX si nl[m]=false by rw [hfe.1];simp only [e1,e2,e4,e5];rfl) TO TF TL;clear TO TF TL hfe e1 e2 e4;refine D9 (F5) (.run 4 0 0 (.call 4 31 (.take 5 63 (.take 6 127 (.call 7 255 (.run 15 8 255 (.call 23 16777215 (.run 13 24 16777215 (.done))))))))) fun CQ QR Ae Aj hS=>?_
        iterate 4 refine Ak ?_
        refine BN ?_;clear hS;intro K hK AP;go_simp;refine (PW.1 _).mono ?_;rintro e BZ ⟨rfl,BU⟩;have hS:Since F5 BZ:=bT (w:=F5) AP.out BU;clear AP;refine hK.out _ _ hS (fun _=>?_);clear hK K
        try simp only [pu]
        refine Ak ?_;refine E5 ?_;refine BN ?_;clear hS;intro K hK AP;go_simp;refine (Pz.1 _).mono ?_;rintro e wr2 ⟨rfl,Du⟩;have hS:Since F5 wr2:=bT (w:=F5) AP.out Du;clear AP;refine hK.out _ _ hS (fun _=>?_);clear hK K
        try simp only [pu]
        refine E5 ?_
        iterate 9 refine JW ?_
        iterate 2 refine E5 ?_
        iterate 2 refine Ak ?_
        refine E5 ?_;refine BN ?_;clear hS;intro K hK AP;go_simp;refine (Qe.1 _ (HY.1.keep (bT G6.1 AP.out))).mono ?_;rintro e wr3 ⟨rfl,NG⟩;have hS:Since F5 wr3:=bT (w:=F5) AP.out NG;clear AP;refine hK.out _ _ hS (fun _=>?_);clear hK K
        try simp only [pu]
        iterate 12 refine E5 ?_
        refine Ak ?_;refine D5 ?_;clear hS Aj Ae;intro hB;have hr:=AB (aa5.1 m hlm hf.1);go_wp2;go_ret;exact ⟨CP hr.1.symm,bT HB4.1 (bT HBc.1 (bT G6.1 hB))⟩
       case true =>
        obtain ⟨hf,PW,Pz,Qe⟩:=DW (show LX si nl[m]=true by rw [hfe.1];simp only [e1,e2,e4,e5];rfl) TO TF TL;clear TO TF TL hfe e1 e2 e4;refine D9 (F5) (.run 4 0 0 (.call 4 31 (.take 5 63 (.take 6 127 (.call 7 255 (.run 15 8 255 (.call 23 16777215 (.run 13 24 16777215 (.done))))))))) fun CQ QR Ae Aj hS=>?_
        iterate 4 refine Ak ?_
        refine BN ?_;clear hS;intro K hK AP;go_simp;refine (PW.1 _).mono ?_;rintro e BZ ⟨rfl,BU⟩;have hS:Since F5 BZ:=bT (w:=F5) AP.out BU;clear AP;refine hK.out _ _ hS (fun _=>?_);clear hK K
        try simp only [pu]
        refine Ak ?_;refine E5 ?_;refine BN ?_;clear hS;intro K hK AP;go_simp;refine (Pz.1 _).mono ?_;rintro e wr2 ⟨rfl,Du⟩;have hS:Since F5 wr2:=bT (w:=F5) AP.out Du;clear AP;refine hK.out _ _ hS (fun _=>?_);clear hK K
        try simp only [pu]
        refine E5 ?_
        iterate 9 refine JW ?_
        iterate 2 refine E5 ?_
        iterate 2 refine Ak ?_
        refine E5 ?_;refine BN ?_;clear hS;intro K hK AP;go_simp;refine (Qe.1 _ (HY.1.keep (bT G6.1 AP.out))).mono ?_;rintro e wr3 ⟨rfl,NG⟩;have hS:Since F5 wr3:=bT (w:=F5) AP.out NG;clear AP;refine hK.out _ _ hS (fun _=>?_);clear hK K
        try simp only [pu]
        iterate 12 refine E5 ?_
        refine Ak ?_;refine D5 ?_;clear hS Aj Ae;intro hB;go_wp2;go_roundw
        case rel => exact ⟨m+1,AA,BG,bT G6.1 hB,all_succ (p:=fun n=>LX si n=true) Tt.1 hlm hf.1⟩
        case measure => exact BH
     case true =>
      rw [e2] at TF
      cases e3:(si.ln.arc.fr == nl[m].id)
      case false =>
       cases e4:((si.k:Int) == (si.ln.path.length:Int)-2)
       case false =>
        rw [e4] at TL;obtain ⟨hf,PW,Pz,Qe⟩:=DW (show LX si nl[m]=false by rw [hfe.1];simp only [e1,e2,e3,e4];rfl) TO TF TL;clear TO TF TL hfe e1 e2 e4;refine D9 (F5) (.run 4 0 0 (.call 4 31 (.take 5 63 (.take 6 127 (.call 7 255 (.run 15 8 255 (.call 23 16777215 (.run 13 24 16777215 (.done))))))))) fun CQ QR Ae Aj hS=>?_
        iterate 4 refine Ak ?_
        refine BN ?_;clear hS;intro K hK AP;go_simp;refine (PW.1 _).mono ?_;rintro e BZ ⟨rfl,BU⟩;have hS:Since F5 BZ:=bT (w:=F5) AP.out BU;clear AP;refine hK.out _ _ hS (fun _=>?_);clear hK K
        try simp only [pu]
        refine Ak ?_;refine E5 ?_;refine BN ?_;clear hS;intro K hK AP;go_simp;refine (Pz.1 _).mono ?_;rintro e wr2 ⟨rfl,Du⟩;have hS:Since F5 wr2:=bT (w:=F5) AP.out Du;clear AP;refine hK.out _ _ hS (fun _=>?_);clear hK K
        try simp only [pu]
        iterate 12 refine E5 ?_
        iterate 2 refine Ak ?_
        refine E5 ?_;refine BN ?_;clear hS;intro K hK AP;go_simp;refine (Qe.1 _ (HY.1.keep (bT G6.1 AP.out))).mono ?_;rintro e wr3 ⟨rfl,NG⟩;have hS:Since F5 wr3:=bT (w:=F5) AP.out NG;clear AP;refine hK.out _ _ hS (fun _=>?_);clear hK K
        try simp only [pu]
        refine E5 ?_
        iterate 9 refine JW ?_
        iterate 2 refine E5 ?_
        refine Ak ?_;refine D5 ?_;clear hS Aj Ae;intro hB;have hr:=AB (aa5.1 m hlm hf.1);go_wp2;go_ret;exact ⟨CP hr.1.symm,bT HB4.1 (bT HBc.1 (bT G6.1 hB))⟩
       case true =>
        rw [e4] at TL
        cases e5:(si.ln.arc.dst == nl[m].id)
        case false =>
         obtain ⟨hf,PW,Pz,Qe⟩:=DW (show LX si nl[m]=false by rw [hfe.1];simp only [e1,e2,e3,e4,e5];rfl) TO TF TL;clear TO TF TL hfe e1 e2 e4;refine D9 (F5) (.run 4 0 0 (.call 4 31 (.take 5 63 (.take 6 127 (.call 7 255 (.run 15 8 255 (.call 23 16777215 (.run 13 24 16777215 (.done))))))))) fun CQ QR Ae Aj hS=>?_
         iterate 4 refine Ak ?_
         refine BN ?_;clear hS;intro K hK AP;go_simp;refine (PW.1 _).mono ?_;rintro e BZ ⟨rfl,BU⟩;have hS:Since F5 BZ:=bT (w:=F5) AP.out BU;clear AP;refine hK.out _ _ hS (fun _=>?_);clear hK K
         try simp only [pu]
         refine Ak ?_;refine E5 ?_;refine BN ?_;clear hS;intro K hK AP;go_simp;refine (Pz.1 _).mono ?_;rintro e wr2 ⟨rfl,Du⟩;have hS:Since F5 wr2:=bT (w:=F5) AP.out Du;clear AP;refine hK.out _ _ hS (fun _=>?_);clear hK K
         try simp only [pu]
         iterate 12 refine E5 ?_
         iterate 2 refine Ak ?_
         refine E5 ?_;refine BN ?_;clear hS;intro K hK AP;go_simp;refine (Qe.1 _ (HY.1.keep (bT G6.1 AP.out))).mono ?_;rintro e wr3 ⟨rfl,NG⟩;have hS:Since F5 wr3:=bT (w:=F5) AP.out NG;clear AP;refine hK.out _ _ hS (fun _=>?_);clear hK K
         try simp only [pu]
         iterate 12 refine E5 ?_
         refine Ak ?_;refine D5 ?_;clear hS Aj Ae;intro hB;have hr:=AB (aa5.1 m hlm hf.1);go_wp2;go_ret;exact ⟨CP hr.1.symm,bT HB4.1 (bT HBc.1 (bT G6.1 hB))⟩
        case true =>
         obtain ⟨hf,PW,Pz,Qe⟩:=DW (show LX si nl[m]=true by rw [hfe.1];simp only [e1,e2,e3,e4,e5];rfl) TO TF TL;clear TO TF TL hfe e1 e2 e4;refine D9 (F5) (.run 4 0 0 (.call 4 31 (.take 5 63 (.take 6 127 (.call 7 255 (.run 15 8 255 (.call 23 16777215 (.run 13 24 16777215 (.done))))))))) fun CQ QR Ae Aj hS=>?_
         iterate 4 refine Ak ?_
         refine BN ?_;clear hS;intro K hK AP;go_simp;refine (PW.1 _).mono ?_;rintro e BZ ⟨rfl,BU⟩;have hS:Since F5 BZ:=bT (w:=F5) AP.out BU;clear AP;refine hK.out _ _ hS (fun _=>?_);clear hK K
         try simp only [pu]
         refine Ak ?_;refine E5 ?_;refine BN ?_;clear hS;intro K hK AP;go_simp;refine (Pz.1 _).mono ?_;rintro e wr2 ⟨rfl,Du⟩;have hS:Since F5 wr2:=bT (w:=F5) AP.out Du;clear AP;refine hK.out _ _ hS (fun _=>?_);clear hK K
         try simp only [pu]
         iterate 12 refine E5 ?_
         iterate 2 refine Ak ?_
         refine E5 ?_;refine BN ?_;clear hS;intro K hK AP;go_simp;refine (Qe.1 _ (HY.1.keep (bT G6.1 AP.out))).mono ?_;rintro e wr3 ⟨rfl,NG⟩;have hS:Since F5 wr3:=bT (w:=F5) AP.out NG;clear AP;refine hK.out _ _ hS (fun _=>?_);clear hK K
         try simp only [pu]
         iterate 12 refine E5 ?_
         refine Ak ?_;refine D5 ?_;clear hS Aj Ae;intro hB;go_wp2;go_roundw
         case rel => exact ⟨m+1,AA,BG,bT G6.1 hB,all_succ (p:=fun n=>LX si n=true) Tt.1 hlm hf.1⟩
         case measure => exact BH
      case true =>
       obtain ⟨hf,PW,Pz,Qe⟩:=DW (show LX si nl[m]=true by rw [hfe.1];simp only [e1,e2,e3];rfl) TO TF TL;clear TO TF TL hfe e1 e2;refine D9 (F5) (.run 4 0 0 (.call 4 31 (.take 5 63 (.take 6 127 (.call 7 255 (.run 29 8 255 (.done))))))) fun CQ QR Ae Aj hS=>?_
       iterate 4 refine Ak ?_
       refine BN ?_;clear hS;intro K hK AP;go_simp;refine (PW.1 _).mono ?_;rintro e BZ ⟨rfl,BU⟩;have hS:Since F5 BZ:=bT (w:=F5) AP.out BU;clear AP;refine hK.out _ _ hS (fun _=>?_);clear hK K
       try simp only [pu]
       refine Ak ?_;refine E5 ?_;refine BN ?_;clear hS;intro K hK AP;go_simp;refine (Pz.1 _).mono ?_;rintro e wr2 ⟨rfl,Du⟩;have hS:Since F5 wr2:=bT (w:=F5) AP.out Du;clear AP;refine hK.out _ _ hS (fun _=>?_);clear hK K
       try simp only [pu]
       iterate 12 refine E5 ?_
       iterate 2 refine Ak ?_
       iterate 14 refine JW ?_
       refine Ak ?_;refine D5 ?_;clear hS Aj Ae;intro hB;go_wp2;go_roundw
       case rel => exact ⟨m+1,AA,BG,bT G6.1 hB,all_succ (p:=fun n=>LX si n=true) Tt.1 hlm hf.1⟩
       case measure => exact BH
theorem aqo (p:Pl) (a:Ar):hasB (p.nodes.map (·.id)) a=JX p a:=by
 have h:∀ id:Int,(p.nodes.map (·.id)).any (fun y=>y == id)=(Jm p.nodes id).isSome:=fun id=>by
  unfold Jm;rw [XW,Jh,OA,List.find?_isSome];rfl
 unfold hasB JX;rw [h,h]
theorem aiM (p:Pl):Tq p (p.nodes.map (·.id))=if SX (p.nodes.map (·.pt))=true then 8 else if p.AQ.all (JX p)=false then 7 else if Rx p=false then 12 else 0:=by
 unfold Tq
 have:hasB (p.nodes.map (·.id))=JX p:=funext fun a=>aqo p a
 rw [this]
theorem aqp (p:Pl) (h:KD p=false):Gn p=if Qy p=false then 10 else if OG p=false then 2 else if Tq p (p.nodes.map (·.id))=0 then (if MZ p=false then 11 else 0) else Tq p (p.nodes.map (·.id)):=by
 unfold Gn;rw [h,aiM];rw [AX (show ¬ false=true by decide)];split
 · rfl
 split
 · rfl
 split
 · rfl
 split
 · rfl
 split
 · rfl
 · rfl
theorem aqr (p:Pl) (h:Tq p (p.nodes.map (·.id))=0):∀ a∈p.AQ,JX p a=true:=by
 rw [aiM] at h
 cases h2:p.AQ.all (JX p)
 ·rw [h2] at h;split at h
  · omega
  · simp at h
 · exact LK.1 h2
theorem aqs (p:Pl):gW p=(VH p).all GL:=by
 unfold gW VH;have h:∀ l:List Pt,(!l.any MV)=l.all GL:=fun l=>by
  induction l with
  | nil=>rfl
  | cons a l ih=>rw [qY,yQ,Bool.not_or,ih,ap1,Bool.not_not]
 rw [List.all_append,List.all_flatMap,WH];have h1:(!p.nodes.any fun n=>MV n.pt)=p.nodes.all (GL ∘ fun n=>n.pt):=by
  have:=h (p.nodes.map (·.pt))
  rw [XW,WH] at this;exact this
 have h2:(!p.AQ.any fun a=>a.via.any MV)=p.AQ.all fun a=>a.via.all GL:=by
  rw [List.not_any_eq_all_not];congr 1
  funext a
  exact h a.via
 rw [h1,h2]
theorem uT (p:Pl):OG p=(!(p.nodes.map (·.id)).any Jp && !(p.AQ.map (·.id)).any Jp && !p.faces.any Jp && gW p):=by
 unfold OG;rw [aqs,acf,acf,Bool.not_or,Bool.not_or]
theorem aqt {α:Type} {l:List α} {q:α->Bool} (h:l.any q=false):∀ x∈l,q x=false:=fun x hx=>by
 rw [MB] at h;have:=h x hx
 simpa using this
theorem aqu {l:List Nd} (h:(l.map (·.id)).any Jp=false):∀ n∈l,F6 n.id:=fun n hn=>by
 have:=aqt h n.id (FZ hn)
 simp only [Jp,OC,JH] at this;exact KC AA AA
theorem aqv {p:Pl} (h:KD p=false):(p.AQ.flatMap (FM p)).length<=2097152:=by
 obtain ⟨h1,h2,h3,h4,h5⟩:=aaV h;have hl:=aA p.AQ (FM p) 65 (fun a ha=>by
  simp only [FM,CV,P9];unfold pathOf
  cases hb:findAr p.AQ a.id with
  | none=>simp
  | some b =>
   simp only [];split
   ·have:=h1 b (aaN hb)
    simp only [Ih,Fa];omega
   · simp)
 omega
theorem adL (v:Value) (p:Pl) (w:World) (h:D6 w v p) :
  Calls prog 22 #[v] w fun e w'=>e=.returned (.int .i64 (Gn p))/\AU w w':=by
 have HP:=AB h;obtain ⟨_,_,_,al,rfl,hpa,⟨An,cn,rfl,hn1,hn2,-⟩,⟨⟨Aa,ca,rfl,ha1,ha2,FT⟩,hV⟩,hF⟩:=h;have HF:=AB hF;obtain ⟨Af,cf,rfl,hf1,hf2,-⟩:=hF;unfold maxLen at hn2 ha2 hf2;have HV:=AB hV;clear hV;have Ij:=AB FT;clear FT;obtain ⟨q,hq⟩:=BI (Gn p);rw [hq];have hq2:=hq;unfold Gn at hq;have hbig:256<p.nodes.length\/256<al.length\/64<p.faces.length->3=q:=fun hh=>by
  rw [<- hq,AZ];unfold KD;rw [hpa,CV];simp only [Ir,Dq];omega
 have ZT:∀ k (hk:k<al.length),64<al[k].1.via.length->3=q:=fun k hk hh=>by
  rw [<- hq,AZ];unfold KD;rw [hpa,XW];have:=QX al ((fun a=>decide (64<a.via.length)) ∘ fun x=>x.1) k hk (by simpa using hh)
  rw [this];rfl
 have hsmall:¬ 256<p.nodes.length->¬ 256<al.length->¬ 64<p.faces.length->(∀ k (hk:k<al.length),¬ 64<al[k].1.via.length)->KD p=false:=fun h1 h2 h3 h4=>by
  unfold KD;rw [hpa,CV,XW];have:=SS al ((fun a=>decide (64<a.via.length)) ∘ fun x=>x.1) (fun j hj=>by have:=h4 j hj;simpa using this)
  rw [this,Fg h1,Fg h2,Fg h3];rfl
 obtain ⟨Hq,LY,aiN,aiO,aB⟩:=I4 hq2 hbig ZT hsmall hpa;clear hq hq2 hbig ZT hsmall hpa;go_enter func22,ntmps22;by_cases g1:256<p.nodes.length
 ·have hf:=AB (LY.1 (.inl g1));go_wp2;go_ret;exact ⟨D8 hf.1,bA (bR w) _⟩
 by_cases g2:256<al.length
 ·have hf:=AB (LY.1 (.inr (.inl g2)));go_wp2;go_ret;exact ⟨D8 hf.1,bA (bR w) _⟩
 by_cases g3:64<p.faces.length
 ·have hf:=AB (LY.1 (.inr (.inr g3)));go_wp2;go_ret;exact ⟨D8 hf.1,bA (bR w) _⟩
 go_wp2_with fail;obtain ⟨W1,hW1⟩:=BR (w.alloc (.cells #[.slice An p.nodes.length cn,.slice Aa al.length ca,.slice Af p.faces.length cf] 34));have HB1:=AB (show AU w W1 by rw [hW1];exact bA (bR w) _);have Dt:Et (AO W1 w.heap.size 34 #[.slice An p.nodes.length cn,.slice Aa al.length ca,.slice Af p.faces.length cf]):=AB (by rw [hW1];exact AO.made rfl _ _);rw [<- hW1];clear hW1;go_loopw [26] (fun u wr=>∃ k:Nat,k<=al.length/\u=.int .i64 k/\AU W1 wr/\∀ j (hj:j<al.length),j<k->¬ 64<al[j].1.via.length) (fun u _=>al.length-(intOf u).toNat)
 case atStart => exact ⟨0,BX _,rfl,bR W1,fun _ _ h=>AA⟩
 case round =>
 obtain ⟨k,hk,rfl,hb,hno⟩:=hrel;have Hb:=AB hb;have Hno:=AB hno;have X1:=Dt.out.keep hb;clear hb hno;obtain ⟨BJ,BK,BL,BQ,-⟩:=X1.Az;by_cases hlt:k<al.length
 case pos =>
  obtain ⟨b,o,rfl,hlb,c0,c1,c2,c3,c4,c5⟩:=(Ij.1.mono (bT HB1.1 Hb.1)).ar hlt;obtain ⟨Av,cv,hv,hv1,hv2,-⟩:=HV.1 k hlt;unfold maxLen at hv2;rw [hv] at c3;clear hv;by_cases hbig:64<al[k].1.via.length
  ·have hf:=AB (aiN.1 k hlt hbig);go_wp2;go_ret;exact ⟨D8 hf.1,bT HB1.1 (bA Hb.1 _)⟩
  ·have hb':=AB hbig;go_wp2;go_roundw
   case rel => exact ⟨k+1,AA,BG,bA Hb.1 _,all_succ (p:=fun a=>¬ 64<a.1.via.length) Hno.1 hlt hb'.1⟩
   case measure => exact BH
 case neg =>
 have hlim:=aiO.1 g1 g2 g3 (fun j hj=>Hno.1 j hj AA);have hlen:=aqv hlim;have hq:=Hq.1;rw [aqp p hlim] at hq;have HLen:=AB hlen;have hsh:Short p:=fun a ha=>by have:=(aaV hlim).1 a ha;omega
 have ED:=AB hsh;replace Hq:=AB hq;have aqw:p.AQ.length<=4096:=by rw [aB.1,CV];omega
 clear hlim hlen hsh hq LY aiN aiO HV Ij Hno;have Bw:=bT HB1.1 Hb.1;clear Hb;go_wp2_with fail;refine (ap4 _ p _ (HP.1.mono Bw) AA aqw).mono ?_;rintro e w2 ⟨v2,u2,rfl,hb2,ho1,ho2⟩;have Fp:=AB (Own.sl ho1);have Fq:=AB (Own.sl ho2);replace Bw:=bT Bw hb2;replace X1:=X1.keep hb2;clear hb2 ho1 ho2
 try clear BJ BK BL BQ
 obtain ⟨BJ,BK,BL,BQ,-⟩:=X1.Az;obtain ⟨wz,rfl⟩:=BR w2;go_wp2_with fail;refine (ad7 _ _ _ Fp.1).mono ?_;rintro e w3 ⟨rfl,hb3⟩;have B3:=hb3;replace X1:=X1.keep hb3;clear hb3
 try clear BJ BK BL BQ
 obtain ⟨BJ,BK,BL,BQ,-⟩:=X1.Az
 cases h1:OE (p.nodes.map (·.id))
 case false =>
  have hf:=AB (show 10=q by rw [<- Hq.1,AZ (by simp [Qy,h1])]);clear h1;go_wp2;go_ret;exact ⟨D8 hf.1,bT Bw B3⟩
 have H1:=AB h1;clear h1;go_wp2_with fail;refine (ad7 _ _ _ (Fq.1.mono B3)).mono ?_;rintro e w4 ⟨rfl,hb4⟩;have B4:=bT B3 hb4;replace X1:=X1.keep hb4;clear hb4 B3
 try clear BJ BK BL BQ
 obtain ⟨BJ,BK,BL,BQ,-⟩:=X1.Az
 cases h1:OE (p.AQ.map (·.id))
 case false =>
  have hf:=AB (show 10=q by rw [<- Hq.1,AZ (by simp [Qy,h1])]);clear h1;go_wp2;go_ret;exact ⟨D8 hf.1,bT Bw B4⟩
 have H2:=AB h1;clear h1;go_wp2_with fail;refine (ad7 _ _ _ (HF.1.mono (bT Bw B4))).mono ?_;rintro e w5 ⟨rfl,hb5⟩;have B5:=bT B4 hb5;replace X1:=X1.keep hb5;clear hb5 B4
 try clear BJ BK BL BQ
 obtain ⟨BJ,BK,BL,BQ,-⟩:=X1.Az
 cases h1:OE p.faces
 case false =>
  have hf:=AB (show 10=q by rw [<- Hq.1,AZ (by simp [Qy,h1])]);clear h1;go_wp2;go_ret;exact ⟨D8 hf.1,bT Bw B5⟩
 have hq:=Hq.1;rw [AX (show ¬ Qy p=false by simp [Qy,h1,H1.1,H2.1])] at hq;replace Hq:=AB hq;clear hq h1;go_wp2_with fail;refine (ad8 _ _ _ (Fp.1.mono B5)).mono ?_;rintro e w6 ⟨rfl,hb6⟩;have B6:=bT B5 hb6;replace X1:=X1.keep hb6;clear hb6 B5
 try clear BJ BK BL BQ
 obtain ⟨BJ,BK,BL,BQ,-⟩:=X1.Az
 cases h1:(p.nodes.map (·.id)).any Jp
 case true =>
  have hf:=AB (show 2=q by rw [<- Hq.1,AZ (by rw [uT,h1];rfl)]);clear h1;go_wp2;go_ret;exact ⟨D8 hf.1,bT Bw B6⟩
 have H3:=AB h1;clear h1;go_wp2_with fail;refine (ad8 _ _ _ (Fq.1.mono B6)).mono ?_;rintro e w7 ⟨rfl,hb7⟩;have B7:=bT B6 hb7;replace X1:=X1.keep hb7;clear hb7 B6
 try clear BJ BK BL BQ
 obtain ⟨BJ,BK,BL,BQ,-⟩:=X1.Az
 cases h1:(p.AQ.map (·.id)).any Jp
 case true =>
  have hf:=AB (show 2=q by rw [<- Hq.1,AZ (by rw [uT,h1];simp)]);clear h1;go_wp2;go_ret;exact ⟨D8 hf.1,bT Bw B7⟩
 have H4:=AB h1;clear h1;go_wp2_with fail;refine (ad8 _ _ _ (HF.1.mono (bT Bw B7))).mono ?_;rintro e w8 ⟨rfl,hb8⟩;have B8:=bT B7 hb8;replace X1:=X1.keep hb8;clear hb8 B7
 try clear BJ BK BL BQ
 obtain ⟨BJ,BK,BL,BQ,-⟩:=X1.Az
 cases h1:p.faces.any Jp
 case true =>
  have hf:=AB (show 2=q by rw [<- Hq.1,AZ (by rw [uT,h1];simp)]);clear h1;go_wp2;go_ret;exact ⟨D8 hf.1,bT Bw B8⟩
 have H5:=AB h1;clear h1;go_wp2_with fail;refine (ap2 _ p _ (HP.1.mono (bT Bw B8))).mono ?_;rintro e w9 ⟨rfl,Nh⟩;have B9:=bT B8 Nh;replace X1:=X1.keep Nh;clear Nh B8
 try clear BJ BK BL BQ
 obtain ⟨BJ,BK,BL,BQ,-⟩:=X1.Az
 cases h1:gW p
 case false =>
  have hf:=AB (show 2=q by rw [<- Hq.1,AZ (by rw [uT,h1];simp)]);clear h1;go_wp2;go_ret;exact ⟨D8 hf.1,bT Bw B9⟩
 have hq:=Hq.1;rw [AX (show ¬ OG p=false by rw [uT,h1,H3.1,H4.1,H5.1];decide)] at hq;replace Hq:=AB hq;clear hq h1;go_wp2_with fail;refine (aoF _ _ p _ _ (HP.1.mono (bT Bw B9)) (Fp.1.mono B9)).mono ?_;rintro e w10 ⟨rfl,Tz⟩;have B10:=bT B9 Tz;replace X1:=X1.keep Tz;clear Tz B9
 try clear BJ BK BL BQ
 obtain ⟨BJ,BK,BL,BQ,-⟩:=X1.Az;by_cases h1:Tq p (p.nodes.map (·.id))=0
 case neg =>
  have hf:=AB (show Tq p (p.nodes.map (·.id))=q by rw [<- Hq.1,AX h1]);generalize Tq p (p.nodes.map (·.id))=c at *;go_wp2;go_ret;exact ⟨D8 hf.1,bT Bw B10⟩
 have hq:=Hq.1;rw [AZ h1] at hq;replace Hq:=AB hq;have aqx:=AB (aqr p h1);rw [h1];clear hq h1;have Vh:Et (Sound p):=AB ⟨aa0 _ H1.1,aa0 _ H2.1,aqx.1⟩;go_wp2_with fail;refine (apI _ p _ (HP.1.mono (bT Bw B10)) ED.1 HLen.1 AA (aqu H3.1) Vh.out).mono ?_;rintro e Df ⟨rfl,Tc⟩;have B11:=bT B10 Tc;clear Tc B10 X1 BJ BK BL BQ
 cases h1:MZ p
 case false =>
  have hf:=AB (show 11=q by rw [<- Hq.1,AZ h1]);clear h1;go_wp2;go_ret;exact ⟨D8 hf.1,bT Bw B11⟩
 case true =>
  have hf:=AB (show 0=q by rw [<- Hq.1,AX (by rw [h1];decide)]);clear h1;go_wp2;go_ret;exact ⟨D8 hf.1,bT Bw B11⟩
structure Valid (p:Pl):Prop where
 lim:KD p=false
 ord:Qy p=true
 rng:OG p=true
 dup:SX (p.nodes.map (·.pt))=false
 ends:p.AQ.all (JX p)=true
 sides:Rx p=true
 aei:MZ p=true
theorem fH (p:Pl):Gn p=0↔Valid p:=by
 unfold Gn;constructor
 ·intro h;split at h
  · cases h
  rename_i h1;split at h
  · cases h
  rename_i h2;split at h
  · cases h
  rename_i h3;split at h
  · cases h
  rename_i h4;split at h
  · cases h
  rename_i h5;split at h
  · cases h
  rename_i h6;split at h
  · cases h
  rename_i h7;exact ⟨by simpa using h1,by simpa using h2,by simpa using h3,by simpa using h4,by simpa using h5,by simpa using h6,by simpa using h7⟩
 ·rintro ⟨h1,h2,h3,h4,h5,h6,h7⟩;simp [h1,h2,h3,h4,h5,h6,h7]
section
variable {p:Pl}
theorem Valid.sound (h:Valid p):Sound p:=by
 have ho:=h.ord;unfold Qy at ho;rw [ER,ER] at ho;exact ⟨aa0 _ ho.1.1,aa0 _ ho.1.2,LK.1 h.ends⟩
theorem aqy {q:Pt} (h:GL q=true):CJ q=true:=by
 simp only [GL,ER,Dq] at h;rw [SH];omega
theorem Valid.near (h:Valid p) {q:Pt} (hq:q∈VH p):CJ q=true:=by
 have hr:=h.rng;unfold OG at hr;rw [ER] at hr;exact aqy (LK.1 hr.2 q hq)
theorem Valid.uU (h:Valid p) {n:Nd} (hn:n∈p.nodes):CJ n.pt=true:=h.near (SB _ (FZ hn))
theorem Valid.aqz (h:Valid p) {a:Ar} (ha:a∈p.AQ) {q:Pt} (hq:q∈a.via):CJ q=true:=h.near (kJ _ (Ii.2 ⟨a,ha,hq⟩))
theorem Sound.XG (hp:Sound p) {a:Ar} (ha:a∈p.AQ):∃ n∈p.nodes,n.id=a.fr/\nodeAt p a.fr=n.pt:=by
 obtain ⟨⟨n,hn,e⟩,-⟩:=hp.aa3 ha;exact ⟨n,hn,e,by rw [<- e,hp.Py hn]⟩
theorem Sound.Xn (hp:Sound p) {a:Ar} (ha:a∈p.AQ):∃ n∈p.nodes,n.id=a.dst/\nodeAt p a.dst=n.pt:=by
 obtain ⟨-,⟨n,hn,e⟩⟩:=hp.aa3 ha;exact ⟨n,hn,e,by rw [<- e,hp.Py hn]⟩
theorem Valid.aiP (h:Valid p) {a:Ar} (ha:a∈p.AQ) {q:Pt} (hq:q∈AV p a):CJ q=true:=by
 unfold AV at hq;rcases FI.1 hq with rfl | hq
 ·obtain ⟨n,hn,-,e⟩:=h.sound.XG ha;rw [e];exact h.uU hn
 ·rcases GI.1 hq with hq | hq
  · exact h.aqz ha hq
  ·rw [Eb] at hq;subst hq;obtain ⟨n,hn,-,e⟩:=h.sound.Xn ha;rw [e];exact h.uU hn
end
theorem ar0 (a b:Pt):BP a b=false↔b.x<a.x\/(a.x=b.x/\b.y<=a.y):=by
 rw [<- IL,MX];omega
theorem aej (a b:Pt):BP a (lo a b)=false:=by
 rcases Xz a b with ⟨h,-,h'⟩ | ⟨h,-,h'⟩
 · rw [h];exact U4 a
 · rw [h];exact PN h'
theorem aiQ (a b:Pt):BP b (lo a b)=false:=by rw [adM];exact aej b a
theorem aek (a b:Pt):BP (hi a b) a=false:=by
 rcases Xz a b with ⟨-,h,h'⟩ | ⟨-,h,h'⟩
 · rw [h];exact h'
 · rw [h];exact U4 a
theorem aiR (a b:Pt):BP (hi a b) b=false:=by rw [aaS];exact aek b a
theorem aiS {x y q:Pt} (h1:BP q x=false) (h2:BP q y=false):BP q (hi x y)=false:=by
 rcases Xz x y with ⟨-,h,-⟩ | ⟨-,h,-⟩<;>rw [h]<;>assumption
theorem aiT {x y q:Pt} (h1:BP x q=false) (h2:BP y q=false):BP (lo x y) q=false:=by
 rcases Xz x y with ⟨h,-⟩ | ⟨h,-⟩<;>rw [h]<;>assumption
theorem aiU {a b c d q:Pt} (h1:q=a\/q=b) (h2:q=c\/q=d):KN a b c d≠0:=by
 have f1:BP q (lo a b)=false:=by rcases h1 with rfl | rfl;exact aej _ _;exact aiQ _ _
 have f2:BP q (lo c d)=false:=by rcases h2 with rfl | rfl;exact aej _ _;exact aiQ _ _
 have g1:BP (hi a b) q=false:=by rcases h1 with rfl | rfl;exact aek _ _;exact aiR _ _
 have g2:BP (hi c d) q=false:=by rcases h2 with rfl | rfl;exact aek _ _;exact aiR _ _
 have f:=aiS f1 f2;have g:=aiT g1 g2;rw [V7];generalize hi (lo a b) (lo c d)=x at *;generalize lo (hi a b) (hi c d)=y at *;by_cases hxy:x=y
 · rw [AZ hxy];omega
 ·rw [AX hxy]
  have:BP x y=true:=by
   rw [ar0] at f g;rw [MX];have hne:¬ (x.x=y.x/\x.y=y.y):=fun e=>hxy (Pt.ext_iff'.2 e);omega
  rw [AZ this];omega
theorem Xo {a b c d:Pt} (ha:CJ a=true) (hb:CJ b=true) (hc:CJ c=true) (hd:CJ d=true):EO [a,b,c,d]=true:=by simp [EO,ha,hb,hc,hd]
theorem aiV {a b c:Pt} (ha:CJ a=true) (hb:CJ b=true) (hc:CJ c=true):Fz a b c b≠0:=by
 unfold Fz;rw [AZ (Xo ha hb hc hb)];unfold N9;have e1:BM a b a c=- BM a b c b:=by unfold BM;grind
 have e2:BM a b a b=0:=by unfold BM;grind
 have e3:BM c b c a=BM a b c b:=by unfold BM;grind
 have e4:BM c b c b=0:=by unfold BM;grind
 have e5:BM a c c b=BM a b c b:=by unfold BM;grind
 have e6:BM a c a b=BM a b c b:=by unfold BM;grind
 rw [AX (show ¬ (a=b/\c=b/\¬ a=c) from fun h=>h.2.2 (h.1.trans h.2.1.symm)),e1,e2,e3,e4,e5,e6];generalize BM a b c b=n at *;by_cases h0:n=0
 ·rw [AZ h0,AZ AA];exact aiU (.inr rfl) (.inr rfl)
 ·rw [AX h0];by_cases hn:n<0
  · rw [AZ hn,AZ AA];omega
  · rw [AX hn,AZ AA];omega
theorem ar1 {a b c:Pt} (ha:CJ a=true) (hb:CJ b=true) (hc:CJ c=true):Fz a b c a≠0:=by
 unfold Fz;rw [AZ (Xo ha hb hc ha)];unfold N9;have e1:BM a b a c=- BM a b c a:=by unfold BM;grind
 have e2:BM a b a a=0:=by unfold BM;grind
 have e3:BM c a c a=0:=by unfold BM;grind
 have e4:BM c a c b=- BM a b c a:=by unfold BM;grind
 have e5:BM a c c a=0:=by unfold BM;grind
 have e6:BM a c a b=BM a b c a:=by unfold BM;grind
 rw [AX (show ¬ (a=b/\c=a/\¬ a=c) from fun h=>h.2.2 h.2.1.symm),e1,e2,e3,e4,e5,e6];generalize BM a b c a=n at *;by_cases h0:n=0
 ·rw [AZ h0,AZ AA];exact aiU (.inl rfl) (.inr rfl)
 ·rw [AX h0];by_cases hn:n<0
  · rw [AZ hn,AZ AA];omega
  · rw [AX hn,AZ AA];omega
theorem ar2 {a b:Pt} (ha:CJ a=true) (hb:CJ b=true):LQ a b b=true:=by
 unfold LQ;have e1:BM a b a b=0:=by unfold BM;grind
 have e2:Xa a b b b=0:=by unfold Xa;grind
 simp [EO,ha,hb,e1,e2]
theorem ar4 {a b:Pt} (ha:CJ a=true) (hb:CJ b=true):LQ a b a=true:=by
 unfold LQ;have e1:BM a b a a=0:=by unfold BM;grind
 have e2:Xa a a b a=0:=by unfold Xa;grind
 simp [EO,ha,hb,e1,e2]
def Dc (p:Pl) (a:Ar) (k:Nat):Sg:=⟨a,k,(AV p a).length-1,(AV p a).getD k AY,(AV p a).getD (k+1) AY⟩
theorem nV {p:Pl} {a:Ar} {k:Nat} (hk:k+1<(AV p a).length):Dc p a k∈KE a (AV p a) :=
 Ez.2 ⟨k,FQ.2 AA,rfl⟩
theorem ZU (p:Pl) (a:Ar) (j:Nat) (hj:j<a.via.length):(AV p a).getD (j+1) AY=a.via[j]:=by
 unfold AV;rw [ace,Gm,List.getElem?_append_left hj,Di hj];rfl
theorem Vj (p:Pl) (a:Ar):(AV p a).getD 0 AY=nodeAt p a.fr:=rfl
theorem ar5 (p:Pl) (a:Ar) (j:Nat) (hj:j<(AV p a).length):(AV p a).getD j AY∈AV p a:=by
 rw [Gm,Di hj];exact BO hj
section
variable {p:Pl} (h:Valid p)
include h
theorem Valid.Qd:(∀ a∈p.AQ,∀ k,k+1<(AV p a).length->Px p (Dc p a k)=true) /\
  (∀ a∈p.AQ,∀ k m,k<m->m+1<(AV p a).length->Rw (Dc p a k) (Dc p a m)=true) /\
  p.AQ.Pairwise (fun a b=>∀ k,k+1<(AV p a).length->∀ m,m+1<(AV p b).length->Oh p (Dc p a k) (Dc p b m)=true):=by
 have hp:=h.aei;unfold MZ at hp;rw [aa1] at hp;obtain ⟨h1,h2⟩:=hp;unfold SI at h1 h2;rw [yO] at h2;refine ⟨fun a ha k hk=>h1 _ (Ii.2 ⟨a,ha,nV hk⟩),fun a ha k m hkm hm=>?_,?_⟩
 ·have h3:=h2.1 a ha;unfold KE at h3;rw [IX,G9] at h3;have h4:=h3 k m (by rw [P9];omega) (by rw [P9];omega) hkm;simp only [List.getElem_range] at h4;unfold NC at h4;rw [AZ rfl] at h4;exact h4
 ·have hs:=h.sound.AQ;rw [IX] at hs;refine (hs.and h2.2).imp ?_;rintro a b ⟨hlt,h3⟩ k hk m hm;have h4:=h3 _ (nV hk) _ (nV hm);unfold NC at h4;rw [AX (show ¬ (Dc p a k).arc.id=(Dc p b m).arc.id from fun e=>by have e':a.id=b.id:=e;omega)] at h4;exact h4
theorem Valid.Dh {a:Ar} (ha:a∈p.AQ) {k:Nat} (hk:k<(AV p a).length):CJ ((AV p a).getD k AY)=true:=h.aiP ha (ar5 p a k hk)
theorem Valid.nY {a:Ar} (ha:a∈p.AQ) {k:Nat} (hk:k+1<(AV p a).length) {n:Nd} (hn:n∈p.nodes) (ho:LQ (Dc p a k).a (Dc p a k).b n.pt=true) :
  (k=0/\a.fr=n.id)\/(k=a.via.length/\a.dst=n.id):=by
 have h1:=h.Qd.1 a ha k hk;unfold Px at h1;rw [ER,LK] at h1;have h2:=h1.1 n hn;unfold Qx at h2;rw [ho] at h2;unfold Qw Dc at h2;simp only [Bool.not_true,Bool.or_false,Ir,ER,beq_iff_eq] at h2;have hl:=Fa p a;rcases h2 with ⟨h3,h4⟩ | ⟨h3,h4⟩
 · left;exact ⟨AA,h4⟩
 · right;exact ⟨AA,h4⟩
theorem Valid.distinct {a:Ar} (ha:a∈p.AQ) {k:Nat} (hk:k+1<(AV p a).length):(AV p a).getD k AY≠(AV p a).getD (k+1) AY/\(a.fr=a.dst->4<=(AV p a).length):=by
 have h1:=h.Qd.1 a ha k hk;unfold Px Tn Dc at h1;simp only [ER,QM,JH,Ir,bne_iff_ne,Dq] at h1;refine ⟨h1.2.1,fun e=>?_⟩;rcases h1.2.2 with h2 | h2
 · exact absurd e h2
 · omega
theorem Valid.ael {a:Ar} (ha:a∈p.AQ) {j:Nat} (hj:j<a.via.length) {n:Nd} (hn:n∈p.nodes):a.via[j]≠n.pt:=by
 intro e;have hl:=Fa p a;have hm:=ZU p a j hj;have o1:LQ (Dc p a j).a (Dc p a j).b n.pt=true:=by
  rw [<- e,<- hm];exact ar2 (h.Dh ha AA) (h.Dh ha AA)
 have o2:LQ (Dc p a (j+1)).a (Dc p a (j+1)).b n.pt=true:=by
  rw [<- e,<- hm];exact ar4 (h.Dh ha AA) (h.Dh ha AA)
 rcases h.nY ha AA hn o1 with ⟨h1,h2⟩ | ⟨h1,h2⟩
 ·have hd:=(h.distinct ha (k:=j) AA).1;obtain ⟨n',hn',e1,e2⟩:=h.sound.XG ha
  have:nodeAt p a.fr=n.pt:=by rw [h2];exact h.sound.Py hn
  subst h1;rw [Vj,this,hm,e] at hd;exact hd rfl
 · omega
theorem Valid.aiW {a:Ar} (ha:a∈p.AQ) {j m:Nat} (hjm:j<m) (hm:m<a.via.length):a.via[j]≠a.via[m]:=by
 intro e;have hl:=Fa p a;have e1:=ZU p a j AA;have e2:=ZU p a m hm;by_cases hn:m=j+1
 ·subst hn;have:=(h.distinct ha (k:=j+1) AA).1
  rw [e1,e2] at this;exact this e
 ·have h1:=h.Qd.2.1 a ha j m hjm AA;unfold Rw at h1;have hc:¬ ((Dc p a m).i=(Dc p a j).i+1\/((Dc p a j).i=0/\(Dc p a m).i+1=(Dc p a m).n/\(Dc p a j).arc.fr=(Dc p a j).arc.dst)):=by
   unfold Dc;simp only [];omega
  rw [AX hc] at h1;have h2:Fz ((AV p a).getD j AY) ((AV p a).getD (j+1) AY) ((AV p a).getD m AY) ((AV p a).getD (m+1) AY)=0:=by simpa [Dc] using h1
  rw [e2,<- e,<- e1] at h2;exact aiV (h.Dh ha AA) (h.Dh ha AA) (h.Dh ha AA) h2
theorem Valid.ar6:p.AQ.Pairwise (fun a b=>∀ x∈a.via,∀ y∈b.via,x≠y):=by
 refine (List.Pairwise.and_mem.1 h.Qd.2.2).imp ?_;rintro a b ⟨ha,hb,hj⟩ x hx y hy e;obtain ⟨j,hjl,rfl⟩:=EF.1 hx;obtain ⟨m,hml,rfl⟩:=EF.1 hy;have hla:=Fa p a;have hlb:=Fa p b;have e1:=ZU p a j hjl;have e2:=ZU p b m hml;have j1:=hj j AA m AA;have j2:=hj (j+1) AA m AA;unfold Oh at j1 j2;have n1:Fz (Dc p a j).a (Dc p a j).b (Dc p b m).a (Dc p b m).b≠0:=by
  unfold Dc;simp only [];rw [e2,<- e,<- e1];exact aiV (h.Dh ha AA) (h.Dh ha AA) (h.Dh hb AA)
 have n2:Fz (Dc p a (j+1)).a (Dc p a (j+1)).b (Dc p b m).a (Dc p b m).b≠0:=by
  unfold Dc;simp only [];rw [e2,<- e,<- e1];exact ar1 (h.Dh ha AA) (h.Dh ha AA) (h.Dh hb AA)
 have m1:Fz (Dc p a j).a (Dc p a j).b (Dc p b m).a (Dc p b m).b=1:=by
  by_cases hh:Fz (Dc p a j).a (Dc p a j).b (Dc p b m).a (Dc p b m).b=1
  · exact hh
  · rw [AX hh] at j1;exact absurd (by simpa using j1) n1
 have m2:Fz (Dc p a (j+1)).a (Dc p a (j+1)).b (Dc p b m).a (Dc p b m).b=1:=by
  by_cases hh:Fz (Dc p a (j+1)).a (Dc p a (j+1)).b (Dc p b m).a (Dc p b m).b=1
  · exact hh
  · rw [AX hh] at j2;exact absurd (by simpa using j2) n2
 rw [AZ m1,OA] at j1;rw [AZ m2,OA] at j2;obtain ⟨n,hn,hn'⟩:=j1;obtain ⟨n',hm,hm'⟩:=j2;unfold Og at hn' hm';rw [ER,ER] at hn' hm';have k1:=h.nY ha AA hn hn'.1.2;have k2:=h.nY hb AA hn hn'.2;have k3:=h.nY ha AA hm hm'.1.2;have k4:=h.nY hb AA hm hm'.2;have hd:=(h.distinct ha (k:=j) AA).2;omega
end
theorem ar7 {o a b:Pt} (ha:a≠o) (hb:b≠o) (h1:¬ Ea o a b) (h2:¬ Ea o b a):tw o a b=0/\(BP o a=true↔BP o b=true):=by
 have ha':=rC.1 ha;have hb':=rC.1 hb;unfold Ea OI at h1 h2;have e:tw o a b=(a.x-o.x)*(b.y-o.y)-(a.y-o.y)*(b.x-o.x):=rfl;rw [MX,MX,e];generalize hux:a.x-o.x=ux at *;generalize huy:a.y-o.y=uy at *;generalize hvx:b.x-o.x=vx at *;generalize hvy:b.y-o.y=vy at *;rw [OB vx,OB vy] at h2;have hl:EZ ux uy↔EZ vx vy:=by
  by_cases l1:EZ ux uy<;>by_cases l2:EZ vx vy<;>simp [l1,l2] at h1 h2 ⊢
 have hz:ux*vy-uy*vx=0:=by
  rcases Iw (ux*vy-uy*vx) 0 with h | h | h
  · exact absurd (.inr ⟨hl.symm,AA⟩) h2
  · exact h
  · exact absurd (.inr ⟨hl,h⟩) h1
 refine ⟨hz,?_⟩;have m1:∀ {a b:Int},0<a->0<b->0<a*b:=Ji;have m2:∀ {a b:Int},0<a->b<0->a*b<0:=WE;have m3:∀ {a b:Int},a<0->0<b->a*b<0:=Uf;have m4:∀ {a b:Int},a<0->b<0->0<a*b:=qZ;unfold EZ at hl;have key:(0<ux↔0<vx)/\(ux<0↔vx<0):=by
  rcases Iw uy 0 with y1 | y1 | y1
  ·have y2:vy<0:=by
    rcases Iw vy 0 with y2 | y2 | y2
    · exact y2
    ·have h3:vx<0:=AA
     have:=m4 y1 h3
     rw [y2,KO] at hz;omega
    · omega
   rcases Iw ux 0 with x1 | x1 | x1<;>rcases Iw vx 0 with x2 | x2 | x2
   · omega
   · have:=m4 x1 y2;rw [x2,KO] at hz;omega
   · have h3:=m4 x1 y2;have h4:=m3 y1 x2;omega
   · have:=m4 y1 x2;rw [x1,Jy] at hz;omega
   · omega
   · have:=m3 y1 x2;rw [x1,Jy] at hz;omega
   · have h3:=m2 x1 y2;have h4:=m4 y1 x2;omega
   · have:=m2 x1 y2;rw [x2,KO] at hz;omega
   · omega
  ·rw [y1,Jy] at hz;have hx:ux≠0:=AA
   have y2:vy=0:=by
    rcases WG.1 (show ux*vy=0 by omega) with h | h
    · exact absurd h hx
    · exact h
   omega
  ·have y2:0<vy:=by
    rcases Iw vy 0 with y2 | y2 | y2
    · omega
    ·have h3:0<vx:=AA
     have:=m1 y1 h3
     rw [y2,KO] at hz;omega
    · exact y2
   rcases Iw ux 0 with x1 | x1 | x1<;>rcases Iw vx 0 with x2 | x2 | x2
   · omega
   · have:=m3 x1 y2;rw [x2,KO] at hz;omega
   · have h3:=m3 x1 y2;have h4:=m1 y1 x2;omega
   · have:=m2 y1 x2;rw [x1,Jy] at hz;omega
   · omega
   · have:=m1 y1 x2;rw [x1,Jy] at hz;omega
   · have h3:=m1 x1 y2;have h4:=m2 y1 x2;omega
   · have:=m1 x1 y2;rw [x2,KO] at hz;omega
   · omega
 omega
theorem ar8 {o a b:Pt} (ha:a≠o) (hb:b≠o) (h:BP o a=true↔BP o b=true):KN o a o b=2:=by
 have tri:∀ q:Pt,q≠o->BP o q=true\/BP q o=true:=fun q hq=>by
  cases h1:BP o q
  ·cases h2:BP q o
   · exact absurd (Wv h2 h1) hq
   · exact .inr rfl
  · exact .inl rfl
 rw [V7];rcases tri a ha with h1 | h1
 ·have h2:=h.1 h1;have e1:lo o a=o:=by unfold lo;rw [PN h1];simp
  have e2:lo o b=o:=by unfold lo;rw [PN h2];simp
  have e3:hi o a=a:=by unfold hi;rw [PN h1];simp
  have e4:hi o b=b:=by unfold hi;rw [PN h2];simp
  have e5:hi o o=o:=by unfold hi;rw [U4];simp
  rw [e1,e2,e3,e4,e5];have e6:lo a b=a\/lo a b=b:=by unfold lo;split;exact .inr rfl;exact .inl rfl
  rcases e6 with e6 | e6<;>rw [e6]
  · rw [AX (fun e=>ha e.symm),AZ h1]
  · rw [AX (fun e=>hb e.symm),AZ h2]
 ·have h2:BP b o=true:=by
   rcases tri b hb with h3 | h3
   · rw [PN (h.2 h3)] at h1;cases h1
   · exact h3
  have e1:lo o a=a:=by unfold lo;rw [h1];simp
  have e2:lo o b=b:=by unfold lo;rw [h2];simp
  have e3:hi o a=o:=by unfold hi;rw [h1];simp
  have e4:hi o b=o:=by unfold hi;rw [h2];simp
  have e5:lo o o=o:=by unfold lo;rw [U4];simp
  rw [e1,e2,e3,e4,e5];have e6:hi a b=a\/hi a b=b:=by unfold hi;split;exact .inl rfl;exact .inr rfl
  rcases e6 with e6 | e6<;>rw [e6]
  · rw [AX ha,AZ h1]
  · rw [AX hb,AZ h2]
theorem aiX {o a b:Pt} (ho:CJ o=true) (hna:CJ a=true) (hnb:CJ b=true) (ha:a≠o) (hb:b≠o) (h1:¬ Ea o a b) (h2:¬ Ea o b a) :
  Fz o a o b=2/\Fz a o o b=2/\Fz o a b o=2/\Fz a o b o=2:=by
 obtain ⟨hc,hbf⟩:=ar7 ha hb h1 h2;have hs:=ar8 ha hb hbf;have c1:KN a o o b=2:=by rw [<- hs];exact lI a o o b
 have c2:KN o a b o=2:=by rw [Wx,lI,Wx];exact hs
 have c3:KN a o b o=2:=by rw [Wx,lI,Wx];exact c1
 unfold tw at hc;unfold Fz N9;refine ⟨?_,?_,?_,?_⟩
 · rw [AZ (Xo ho hna ho hnb),AX (fun e=>ha e.1.symm),AZ NY,AZ ⟨NY,NY,NY,NY⟩];exact hs
 · rw [AZ (Xo hna ho ho hnb),AX (fun e=>ha e.1),AZ NY,AZ ⟨NY,NY,NY,NY⟩];exact c1
 · rw [AZ (Xo ho hna hnb ho),AX (fun e=>ha e.1.symm),AZ NY,AZ ⟨NY,NY,NY,NY⟩];exact c2
 · rw [AZ (Xo hna ho hnb ho),AX (fun e=>ha e.1),AZ NY,AZ ⟨NY,NY,NY,NY⟩];exact c3
section
variable {α:Type}
theorem nZ {lt:α->α->Bool}:∀ {l m:List α},l.Perm m->l.Pairwise (fun a b=>lt b a=false)->m.Pairwise (fun a b=>lt b a=false)->(∀ a∈l,∀ b∈l,lt a b=false->lt b a=false->a=b)->l=m
 | [],m,hp,_,_,_=>(List.nil_perm.1 hp).symm
 | a::l,[],hp,_,_,_=>by have:=hp.length_eq;simp at this
 | a::l,b::m,hp,h1,h2,ht=>by
  have h1':=P8.1 h1;have h2':=P8.1 h2;have hab:a=b:=by
   have ha:a∈b::m:=hp.subset (JC);have hb:b∈a::l:=hp.symm.subset (JC);rcases FI.1 ha with e | ha
   · exact e
   rcases FI.1 hb with e | hb
   · exact e.symm
   exact ht a JC b (LM _ hb) (h2'.1 a ha) (h1'.1 b hb)
  subst hab;rw [nZ (List.Perm.cons_inv hp) h1'.2 h2'.2 (fun x hx y hy=>ht x (LM _ hx) y (LM _ hy))]
theorem Vk:∀ {l m:List Int},l.Nodup->(∀ x∈l,x∈m)->l.length<=m.length
 | [],m,_,_=>BX _
 | a::l,m,h,hs=>by
  have h':=yP.1 h;have ha:=hs a JC;have:=Vk (m:=m.erase a) h'.2 (fun x hx=>(List.mem_erase_of_ne (fun e=>h'.1 (by rw [<- e];exact hx))).2 (hs x (LM _ hx)))
  rw [List.length_erase_of_mem ha] at this;have hp:0<m.length:=acg ha;simp only [JA];omega
def iter (f:Int->Int) (x:Int):Nat->List Int
 | 0=>[]
 | n+1=>x::iter f (f x) n
def pw (f:Int->Int) (x:Int):Nat->Int
 | 0=>x
 | n+1=>f (pw f x n)
theorem aiY (f:Int->Int) (x:Int) (n:Nat):pw f (f x) n=pw f x (n+1):=by
 induction n with
 | zero=>rfl
 | succ n ih=>rw [pw,ih];rfl
theorem WL (f:Int->Int) (x:Int) (n:Nat):(iter f x n).length=n:=by
 induction n generalizing x with
 | zero=>rfl
 | succ n ih=>simp [iter,ih]
theorem fJ (f:Int->Int) (x:Int) (n k:Nat) (hk:k<(iter f x n).length):(iter f x n)[k]=pw f x k:=by
 induction n generalizing x k with
 | zero=>simp [iter] at hk
 | succ n ih =>
  cases k with
  | zero=>rfl
  | succ k =>
   simp only [iter,List.getElem_cons_succ];rw [ih (f x) k (by simpa [iter] using hk),aiY]
theorem aem (f:Int->Int) (x:Int) (n:Nat):iter f x (n+1)=iter f x n++[pw f x n]:=by
 induction n generalizing x with
 | zero=>rfl
 | succ n ih =>
  rw [iter,ih (f x),aiY];rfl
variable {f:Int->Int} {D:List Int} (hD:∀ x∈D,f x∈D) (hi:∀ x∈D,∀ y∈D,f x=f y->x=y)
include hD in
theorem XH {x:Int} (hx:x∈D) (n:Nat):pw f x n∈D:=by
 induction n with
 | zero=>exact hx
 | succ n ih=>exact hD _ ih
include hD hi in
theorem aiZ {x:Int} (hx:x∈D) {i j:Nat} (h:pw f x i=pw f x (i+j)):pw f x j=x:=by
 induction i with
 | zero=>rw [Ug] at h;exact h.symm
 | succ i ih =>
  refine ih (hi _ (XH hD hx i) _ (XH hD hx (i+j)) ?_);rw [show i+1+j=(i+j)+1 by omega] at h;exact h
theorem aia (f:Int->Int) (x:Int) (n:Nat):(iter f x n).Nodup\/∃ i j,0<j/\i+j<n/\pw f x i=pw f x (i+j):=by
 induction n with
 | zero=>exact .inl List.nodup_nil
 | succ n ih =>
  rcases ih with h | ⟨i,j,h1,h2,h3⟩
  ·by_cases hm:pw f x n∈iter f x n
   ·right;obtain ⟨k,hk,e⟩:=EF.1 hm;rw [fJ] at e;rw [WL] at hk;exact ⟨k,n-k,AA,AA,by rw [e,show k+(n-k)=n by omega]⟩
   ·left;rw [aem,ach];refine ⟨h,Ah,fun a ha b hb=>?_⟩;rw [Eb] at hb;subst hb;exact fun e=>hm (e ▸ ha)
  · exact .inr ⟨i,j,h1,AA,h3⟩
include hD hi in
theorem returns {x:Int} (hx:x∈D):∃ j,0<j/\j<=D.length/\pw f x j=x:=by
 rcases aia f x (D.length+1) with h | ⟨i,j,h1,h2,h3⟩
 ·have:=Vk h (fun y hy=>by
   obtain ⟨k,hk,rfl⟩:=EF.1 hy;rw [fJ];exact XH hD hx k)
  rw [WL] at this;omega
 · exact ⟨j,h1,AA,aiZ hD hi hx h3⟩
def per (f:Int->Int) (x:Int):Nat->Nat->Nat
 | k,0=>k
 | k,n+1=>if pw f x k=x then k else per f x (k+1) n
theorem aqK (f:Int->Int) (x:Int) (k n:Nat):k<=per f x k n/\∀ j,k<=j->j<per f x k n->pw f x j≠x:=by
 induction n generalizing k with
 | zero=>exact ⟨Cj _,fun j h1 h2=>by simp only [per] at h2;omega⟩
 | succ n ih =>
  unfold per;split
  · exact ⟨Cj _,fun j h1 h2=>AA⟩
  ·rename_i hne;obtain ⟨h1,h2⟩:=ih (k+1);refine ⟨AA,fun j hj hj2=>?_⟩;by_cases e:j=k
   · subst e;exact hne
   · exact h2 j AA hj2
theorem aqL (f:Int->Int) (x:Int) (k n:Nat) (h:∃ j,k<=j/\j<=k+n/\pw f x j=x):pw f x (per f x k n)=x/\per f x k n<=k+n:=by
 induction n generalizing k with
 | zero =>
  obtain ⟨j,h1,h2,h3⟩:=h
  have:j=k:=AA
  subst this;exact ⟨h3,Cj _⟩
 | succ n ih =>
  unfold per;split
  · rename_i e;exact ⟨e,AA⟩
  ·rename_i hne;obtain ⟨j,h1,h2,h3⟩:=h;have:=ih (k+1) ⟨j,by
    by_cases e:j=k
    · subst e;exact absurd h3 hne
    · omega,AA,h3⟩
   exact ⟨this.1,AA⟩
def KZ (f:Int->Int) (D:List Int) (x:Int):Nat:=per f x 1 D.length
def JZ (f:Int->Int) (D:List Int) (x:Int):List Int:=iter f x (KZ f D x)
include hD hi in
theorem Vl {x:Int} (hx:x∈D):0<KZ f D x/\KZ f D x<=D.length+1/\pw f x (KZ f D x)=x/\(∀ j,0<j->j<KZ f D x->pw f x j≠x)/\(JZ f D x).Nodup/\(JZ f D x).length=KZ f D x:=by
 obtain ⟨j,h1,h2,h3⟩:=returns hD hi hx;obtain ⟨a1,a2⟩:=aqK f x 1 D.length;obtain ⟨b1,b2⟩:=aqL f x 1 D.length ⟨j,h1,AA,h3⟩;refine ⟨a1,by show per f x 1 D.length<=_;omega,b1,fun j h1 h2=>a2 j h1 h2,?_,WL _ _ _⟩;rcases aia f x (KZ f D x) with h | ⟨i,j,c1,c2,c3⟩
 · exact h
 · exact absurd (aiZ hD hi hx c3) (a2 j c1 (by unfold KZ at c2;omega))
theorem U0 {f:Int->Int} {x y:Int} {n:Nat}:y∈iter f x n↔∃ k,k<n/\pw f x k=y:=by
 rw [EF];constructor
 ·rintro ⟨k,hk,e⟩;rw [fJ] at e;rw [WL] at hk;exact ⟨k,hk,e⟩
 ·rintro ⟨k,hk,e⟩;exact ⟨k,by rw [WL];exact hk,by rw [fJ];exact e⟩
include hD hi in
theorem aen {x y:Int} (hx:x∈D):y∈D->(f y∈JZ f D x↔y∈JZ f D x):=by
 intro hy;obtain ⟨h1,-,h3,-⟩:=Vl hD hi hx;unfold JZ;rw [U0,U0];constructor
 ·rintro ⟨k,hk,e⟩
  cases k with
  | zero =>
   refine ⟨KZ f D x-1,AA,hi _ (XH hD hx _) _ hy ?_⟩
   have:pw f x (KZ f D x-1+1)=x:=by rw [aci h1];exact h3
   rw [pw] at this;rw [this];exact e
  | succ k=>exact ⟨k,AA,hi _ (XH hD hx _) _ hy e⟩
 ·rintro ⟨k,hk,rfl⟩;by_cases e:k+1=KZ f D x
  ·refine ⟨0,h1,?_⟩;have h4:pw f x (k+1)=x:=by rw [e];exact h3
   exact h4.symm
  · exact ⟨k+1,AA,rfl⟩
end
section
def Ou (f:Int->Int) (D:List Int) (acc:List (List Int)) (d:Int):List (List Int):=if d∈acc.flatten then acc else acc++[JZ f D d]
def aaC (f:Int->Int) (D L:List Int):List (List Int):=L.foldl (Ou f D) []
variable {f:Int->Int} {D:List Int}
theorem aib {x:Int} (h:0<KZ f D x):x∈JZ f D x:=U0.2 ⟨0,h,rfl⟩
theorem uV (hD:∀ x∈D,f x∈D) {x y:Int} (hx:x∈D) (hy:y∈JZ f D x):y∈D:=by
 obtain ⟨k,-,rfl⟩:=U0.1 hy;exact XH hD hx k
structure Ov (f:Int->Int) (D P:List Int) (acc:List (List Int)):Prop where
 ng:∀ l∈acc,∃ d∈P,l=JZ f D d/\∀ e∈l,e∈P->d<=e
 covers:∀ x∈P,x∈acc.flatten
 nodup:acc.flatten.Nodup
 closed:∀ y∈D,f y∈acc.flatten↔y∈acc.flatten
theorem Ov.back {P:List Int} {acc:List (List Int)} (h:Ov f D P acc) (hD:∀ x∈D,f x∈D) {x:Int} (hx:x∈D) (k:Nat):pw f x k∈acc.flatten↔x∈acc.flatten:=by
 induction k with
 | zero=>exact Iff.rfl
 | succ k ih=>exact (h.closed _ (XH hD hx k)).trans ih
theorem Ov.nil (f:Int->Int) (D:List Int):Ov f D [] []:=⟨fun l h=>(by cases h),fun x h=>(by cases h),List.nodup_nil,fun y _=>⟨fun h=>(by cases h),fun h=>(by cases h)⟩⟩
theorem Ov.apart {P:List Int} {acc:List (List Int)} (h:Ov f D P acc) (hD:∀ x∈D,f x∈D) {d:Int} (hd:d∈D) (hm:d∉acc.flatten) {y:Int} (hy:y∈JZ f D d):y∉acc.flatten:=by
 obtain ⟨k,-,rfl⟩:=U0.1 hy;exact fun e=>hm ((h.back hD hd k).1 e)
theorem Ov.step {P:List Int} {acc:List (List Int)} (h:Ov f D P acc) (hD:∀ x∈D,f x∈D) (hi:∀ x∈D,∀ y∈D,f x=f y->x=y) {d:Int} (hd:d∈D) (hlt:∀ x∈P,x<d):Ov f D (P++[d]) (Ou f D acc d):=by
 unfold Ou;by_cases hm:d∈acc.flatten
 ·rw [AZ hm];refine ⟨fun l hl=>?_,fun x hx=>?_,h.nodup,h.closed⟩
  ·obtain ⟨d',h1,h2,h3⟩:=h.ng l hl;refine ⟨d',SB _ h1,h2,fun e he hp=>?_⟩;rcases GI.1 hp with hp | hp
   · exact h3 e he hp
   · rw [Eb] at hp;subst hp;exact dW (hlt _ h1)
  ·rcases GI.1 hx with hx | hx
   · exact h.covers x hx
   · rw [Eb] at hx;subst hx;exact hm
 ·rw [AX hm];obtain ⟨o1,-,-,-,o5,-⟩:=Vl hD hi hd;have hfl:(acc++[JZ f D d]).flatten=acc.flatten++JZ f D d:=by simp
  refine ⟨fun l hl=>?_,fun x hx=>?_,?_,fun y hy=>?_⟩
  ·rcases GI.1 hl with hl | hl
   ·obtain ⟨d',h1,h2,h3⟩:=h.ng l hl;refine ⟨d',SB _ h1,h2,fun e he hp=>?_⟩;rcases GI.1 hp with hp | hp
    · exact h3 e he hp
    · rw [Eb] at hp;subst hp;exact dW (hlt _ h1)
   ·rw [Eb] at hl;refine ⟨d,kJ _ (Eb.2 rfl),hl,fun e he hp=>?_⟩;subst hl;rcases GI.1 hp with hp | hp
    · exact absurd (h.covers e hp) (h.apart hD hd hm he)
    · rw [Eb] at hp;exact Int.le_of_eq hp.symm
  ·rw [hfl];rcases GI.1 hx with hx | hx
   · exact SB _ (h.covers x hx)
   · rw [Eb] at hx;subst hx;exact kJ _ (aib o1)
  ·rw [hfl,ach];exact ⟨h.nodup,o5,fun a ha b hb e=>h.apart hD hd hm hb (e ▸ ha)⟩
  · rw [hfl,GI,GI,h.closed y hy,aen hD hi hd hy]
theorem aeo (hD:∀ x∈D,f x∈D) (hi:∀ x∈D,∀ y∈D,f x=f y->x=y):∀ (L P:List Int) (acc:List (List Int)),Ov f D P acc->(∀ x∈L,x∈D)->(P++L).Pairwise (· < ·)->Ov f D (P++L) (L.foldl (Ou f D) acc)
 | [],P,acc,h,_,_=>by rw [MC];exact h
 | d::L,P,acc,h,hs,hp=>by
  have hp':=dZ.1 hp;have:=aeo hD hi L (P++[d]) _ (h.step hD hi (hs d JC) (fun x hx=>hp'.2.2 x hx d JC)) (fun x hx=>hs x (LM _ hx)) (by rw [LJ];exact hp)
  rw [LJ] at this;exact this
theorem aqM (hD:∀ x∈D,f x∈D) (hi:∀ x∈D,∀ y∈D,f x=f y->x=y) (hs:D.Pairwise (· < ·)):Ov f D D (aaC f D D):=by
 have:=aeo hD hi D [] [] (Ov.nil f D) (fun x hx=>hx) hs
 exact this
theorem Ov.perm {acc:List (List Int)} (h:Ov f D D acc) (hD:∀ x∈D,f x∈D) (hs:D.Nodup):acc.flatten.Perm D:=by
 refine (acj h.nodup hs).2 fun x=>⟨fun hx=>?_,h.covers x⟩;obtain ⟨l,hl,hx⟩:=kF.1 hx;obtain ⟨d,h1,h2,-⟩:=h.ng l hl;subst h2;exact uV hD h1 hx
end
