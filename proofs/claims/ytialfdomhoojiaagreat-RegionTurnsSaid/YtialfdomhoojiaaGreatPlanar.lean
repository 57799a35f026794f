import Derived.Deep.CutBlock
import Derived.Test.YtialfdomhoojiaaGreatJ06
import Derived.Test.YtialfdomhoojiaaGreatGB
set_option linter.unusedSimpArgs false
set_option linter.unusedVariables false
namespace Go.Proofs.YtialfdomhoojiaaGreat
open Go.RowKit
theorem Row.psg {w:World} {A:Option Addr} {l:List bY} (h:Row w A (l.flatMap jA)) {k:Nat} (hk:k<l.length) :
  ∃ b o,A=some ⟨b,o,none⟩/\b<w.heap.size/\w.cell? ⟨b,o+k*2,none⟩=some (.pointer (some ⟨l[k].ln.g,0,none⟩))/\w.cell? ⟨b,o+k*2+1,none⟩=some (.int .i64 l[k].k):=by
 obtain ⟨b,o,hA,hb,hc⟩:=h.at_ (n:=2) (fun _=>rfl) hk (by omega);exact ⟨b,o,hA,hb,hc 0 _ rfl,hc 1 _ rfl⟩
theorem free_eq (s:bY) (n:Nd):nP s n = !(fJ s.fst s.snd n.pt && !(((s.k:Int) == 0) && (s.ln.arc.fr == n.id)) && !(((s.k:Int) == (s.ln.path.length:Int)-2) && (s.ln.arc.dst == n.id))):=rfl
structure alJ (f:Int->Pt) (nl:List Nd) (sl:List bY) (q:Bool):Prop where
 pair:∀ i j (_:i<j) (hj:j<sl.length),jQ sl[j]<=ru (sl[i]'(by omega))->rC f (sl[i]'(by omega)) sl[j]=false->q=false
 node:∀ i (hi:i<sl.length) m (hm:m<nl.length),nP sl[i] nl[m]=false->q=false
 yes:(∀ i j (_:i<j) (hj:j<sl.length),jQ sl[j]<=ru (sl[i]'(by omega))->rC f (sl[i]'(by omega)) sl[j]=true)->(∀ i (hi:i<sl.length) m (hm:m<nl.length),nP sl[i] nl[m]=true)->q=true
theorem verdict {p:Pl} (hp:Sound p) (hok:p.ah.all (l7 p)=true) {sl:List bY} (hs:(sl.map bY.abs).Perm (p.ah.flatMap (gI p))):alJ (nodeAt p) p.nodes sl (qC p):=by
 have hl:=hp.alC hok sl hs;refine ⟨fun i j hij hj hw hc=>?_,fun i hi m hm hf=>?_,fun h1 h2=>hl.1 ⟨h1,fun s hs n hn=>?_⟩⟩
 · rw [<- Bool.not_eq_true];intro hq;have:=(hl.2 hq).1 i j hij hj hw;rw [hc] at this;cases this
 · rw [<- Bool.not_eq_true];intro hq;have:=(hl.2 hq).2 _ (List.getElem_mem hi) _ (List.getElem_mem hm);rw [hf] at this;cases this
 ·obtain ⟨i,hi,rfl⟩:=List.mem_iff_getElem.1 hs;obtain ⟨m,hm,rfl⟩:=List.mem_iff_getElem.1 hn;exact h2 i hi m hm
set_option maxRecDepth 100000 in
set_option maxHeartbeats 16000000 in
theorem alK (v:Value) (p:Pl) (w:World) (h:dS w v p) (hsh:Short p) (hl:(p.ah.flatMap (gI p)).length<=2097152) (hnl:p.nodes.length<=4096)
  (TP:∀ n∈p.nodes,eG n.id) (hp:Sound p) :
  Calls Tryz.prog 173 #[v] w fun e w'=>e=.returned (.bool (qC p))/\Below w.heap.size w w':=by
 have hno:=@Sound.alD p hp;have adM:=fun hok sl hs=>@verdict p hp hok sl hs;have hlast:=alF p hp.nodes;have har:∀ a∈p.ah,eG a.fr/\eG a.dst:=fun a ha=>by
  obtain ⟨⟨n1,h1,e1⟩,⟨n2,h2,e2⟩⟩:=hp.TK ha;exact ⟨e1 ▸ TP n1 h1,e2 ▸ TP n2 h2⟩
 have adN:∀ x∈p.ah.flatMap (gI p),eG x.arc.fr/\eG x.arc.dst:=fun x hx=>har _ (hp.mem hx).1;have hseg:=ak1 v p;have alL:=Lib.hid hseg;have HP:=Lib.hid h;have Hno:=Lib.hid hno;have adO:=Lib.hid adM;have adP:=Lib.hid adN;have Hsh:=Lib.hid hsh;have Hl:=Lib.hid hl;clear hno adM adN hseg hsh hl har hp;generalize qC p=q at *;obtain ⟨_,va,vf,al,rfl,-,⟨An,cn,rfl,hn1,hn2,hR⟩,-,-⟩:=h;unfold maxLen at hn2;have HR:=Lib.hid hR;clear hR;have hnw:∀ k (hk:k<p.nodes.length),eG p.nodes[k].id:=fun k hk=>TP _ (List.getElem_mem hk);clear TP;have HNw:=Lib.hid hnw;clear hnw;generalize hF:nodeAt p=F at *;generalize hA:p.ah.flatMap (gI p)=AL at *;have alM:=Lib.hid hlast;clear hlast hF;have HA:=Lib.hid hA;clear hA;generalize hNl:p.nodes=nl at *;have HNl:=Lib.hid hNl;clear hNl;go_enter Tryz.func173,Tryz.ntmps173;go_wp2_with fail;refine (alL.out _ (HP.out.mono (bA (bR w) _)) Hsh.out Hl.out).mono ?_;rintro e w1 ⟨hb1,hr⟩;have Bw:Below w.heap.size w w1:=bT (bA (bR w) _) hb1;have X1:aj w1 w.heap.size 26 #[.slice An nl.length cn,va,vf]:=(aj.made rfl _ _).keep hb1;clear hb1
 cases hok:p.ah.all (l7 p)
 case false =>
  rw [hok] at hr;simp only [Bool.false_eq_true,if_false] at hr;subst hr;have hf:=Lib.hid (Hno.out hok);clear hok;obtain ⟨aO,aP,aS,aT,-,-,-⟩:=X1.aY;go_wp2_with fail;go_ret;exact ⟨eu hf.out.symm,Bw⟩
 case true =>
 rw [hok] at hr;simp only [if_true] at hr;obtain ⟨sl,vs,rfl,hsl,adQ,hown⟩:=hr;rw [HA.out] at hsl;have adR:sl.length<=2097152:=by have:=congrArg List.length hsl;rw [List.length_map] at this;have:=Hl.out;omega
 have hsz1:=Bw.size;have hs1:=Own.sl (Own.jG hown (b':=w.heap.size) (by simp));obtain ⟨As,cs,rfl,hs1,hs2,-⟩:=hs1;unfold maxLen at hs2;have adS:=Own.lt hown;have kU:=Lib.hid (Own.jG hown (b':=w.heap.size) (by simp));have adT:=Lib.hid adQ;have OG:=Lib.hid hsl;have fK:=Lib.hid X1;have adU:=Lib.hid (adO.out hok);clear hsl adQ hown hok;have hnb:=kU.out.dU X1 (by decide);have adV:=Lib.hid adS;have Hnb:=Lib.hid hnb;clear adS hnb
 try clear aO
 try clear aP
 try clear aS
 try clear aT
 obtain ⟨aO,aP,aS,aT,-,-,-⟩:=X1.aY;have IL:=Lib.hid (kJ.made w1);have hmm:=@run_makeMap Tryz.prog;go_wp2_with fail;obtain ⟨W2,hW2⟩:∃ W2:World,W2=w1.alloc (.map #[] 0):=⟨_,rfl⟩;have pX:Hid (kJ W2 w1.heap.size 0 (fun _=>z0)):=by rw [hW2];exact IL
 have hA2:Below w1.heap.size w1 W2:=by rw [hW2];exact bA (bR w1) _
 have HB2:=Lib.hid hA2;rw [<- hW2];clear hmm hW2 hA2 X1 aO aP aS aT IL;have hx2:=HB2.out.size;go_loopw [27] (fun u wr=>∃ k:Nat,k<=nl.length/\u=.int .i64 k/\Below w1.heap.size w1 wr/\kJ wr w1.heap.size k (IK (nl.take k))) (fun u _=>nl.length-(intOf u).toNat)
 case atStart => exact ⟨0,Nat.zero_le _,rfl,HB2.out,pX.out⟩
 case round =>
  obtain ⟨k,hk,rfl,hb,hm⟩:=hrel;have Hb:=Lib.hid hb;have Hm:=Lib.hid hm;have SX:=hb.size;clear hb hm;by_cases hlt:k<nl.length
  case pos =>
   obtain ⟨b,o,rfl,hlb,c0,c1,c2⟩:=(HR.out.mono (bT Bw Hb.out)).nd hlt;obtain ⟨w3,hr3,sJ,hg3⟩:=kJ.upd (Hm.out.keep (bA (bR wr) (.cells #[.int .i64 nl[k].id,.int .i64 nl[k].pt.x,.int .i64 nl[k].pt.y] 45))) (by omega) nl[k].id (HNw.out k hlt) nl[k].pt;have hm4:kJ w3 w1.heap.size (k+1) (IK (nl.take (k+1))):=by rw [alE nl k hlt];exact sJ
   have B3:Below w1.heap.size w1 w3:=bG (bA Hb.out _) hg3 (fun g hg=>by injection hg with hg;omega);have Hm4:=Lib.hid hm4;have HB3:=Lib.hid B3;unfold bg at hr3;clear sJ hg3 hm4 B3;go_wp2_with fail;go_roundw
   case rel => exact ⟨k+1,by omega,by go_num,HB3.out,Hm4.out⟩
   case measure => simp [intOf];omega
  case neg =>
  have hall:nl.take k=nl:=List.take_of_length_le (by omega);have hm:=Hm.out;rw [hall,alM.out] at hm;have hkm:k<=4096:=by omega
  replace Hm:=Lib.hid hm;clear hm hall;go_wp2_with fail;refine (alI w.heap.size _ sl _ (kU.out.keep Hb.out) (fun s hs=>(adT.out s hs).keep Hb.out) (by omega)).mono ?_;rintro e w4 ⟨rfl,sl',hperm,hsort,hown',hok',hg⟩;have hps:(sl'.map bY.abs).Perm AL:=by
   have:=hperm.map bY.abs
   rw [OG.out] at this;exact this
  have hwf:∀ s∈sl',eG s.ln.arc.fr/\eG s.ln.arc.dst:=fun s hs=>by
   have:=adP.out s.abs (hps.mem_iff.1 (List.mem_map_of_mem hs))
   exact this
  have hlen':sl'.length=sl.length:=hperm.length_eq;have B4:Below w.heap.size w w4:=bG (bT Bw Hb.out) hg (fun g hg'=>(kU.out.lt g hg').1);have hm4:kJ w4 w1.heap.size k F:=Hm.out.kept hg (fun e=>by have:=(adV.out _ e.symm).2;omega);have X1:aj w4 w.heap.size 26 #[.slice An nl.length cn,va,vf]:=(fK.out.keep Hb.out).grown hg (fun e=>Hnb.out e.symm);have hV:=adU.out sl' hps;have hrow:Row w4 As (sl'.flatMap jA):=by
   obtain ⟨A0,c0,e0,-,-,hr0⟩:=Own.sl hown';injection e0 with e0 _ _;subst e0;exact hr0
  have HV:=Lib.hid hV;have dI:=Lib.hid X1;have IQ:=Lib.hid hm4;have HB4:=Lib.hid B4;have HOk:=Lib.hid hok';have adW:=Lib.hid hrow;have alN:=Lib.hid hsort;have Lc:=Lib.hid hwf;clear hps hperm hsort hown' hok' hg hwf B4 hm4 X1 hV hrow kU adT OG adP adO adU adV Hnb Hm pX fK Hb HB2 SX hx2;have auW:sl'.length<=2097152:=by rw [hlen'];exact adR
  rw [<- hlen'] at hs1 ⊢;clear hlen' adR;go_wp2_with fail;obtain ⟨wo,rfl⟩:∃ wo:World,wo=wr:=⟨_,rfl⟩;go_loopw [41] (fun u wr=>∃ i:Nat,i<=sl'.length/\u=.int .i64 i/\Below w4.heap.size w4 wr/\(∀ a b (_:a<b) (hb:b<sl'.length),a<i->jQ sl'[b]<=ru (sl'[a]'(by omega))->rC F (sl'[a]'(by omega)) sl'[b]=true)/\(∀ a (ha:a<sl'.length) m (hm:m<nl.length),a<i->nP sl'[a] nl[m]=true)) (fun u _=>sl'.length-(intOf u).toNat)
  case atStart => exact ⟨0,Nat.zero_le _,rfl,bR w4,fun _ _ _ _ h=>by omega,fun _ _ _ _ h=>by omega⟩
  case round =>
   obtain ⟨i,hi,rfl,hb,adX,Oz⟩:=hrel;have Hb:=Lib.hid hb;have Y9:=Lib.hid adX;have KI:=Lib.hid Oz;clear hb adX Oz;by_cases hlt:i<sl'.length
   case neg =>
    have hf:=Lib.hid (HV.out.yes (fun a b hab hb hw=>Y9.out a b hab hb (by omega) hw) (fun a ha m hm=>KI.out a ha m hm (by omega)));go_wp2_with fail;go_ret;exact ⟨eu hf.out.symm,bT HB4.out Hb.out⟩
   obtain ⟨b,o,hAs,hlb,c0,c1⟩:=(adW.out.mono Hb.out).psg hlt;obtain ⟨Ac,Cc,vY⟩:∃ Ac Cc,Ac=Oo As cs (i+1) 2/\Cc=cs-(i+1):=⟨_,_,rfl,rfl⟩;have adY:∀ W,(Instr.slice 224 (.slice As sl'.length cs) (some (.int .i64 ((i:Int)+1))) none none).run Tryz.prog W=.ok (.slice Ac (sl'.length-(i+1)) Cc) W:=fun W=>by
    rw [vY.1,vY.2];exact aj0 Tryz.underlying224 adL As sl'.length cs (i+1) (by omega) _ (by omega) W
   have F9:=Lib.hid vY;clear vY;subst hAs;obtain ⟨dl,hdl⟩:∃ dl,dl=sl'.drop (i+1):=⟨_,rfl⟩;have hdn:sl'.length-(i+1)=dl.length:=by rw [hdl,List.length_drop]
   have hdg:∀ j (hj:j<dl.length),∃ h:i+1+j<sl'.length,dl[j]=sl'[i+1+j]:=fun j hj=>by
    subst hdl;rw [List.length_drop] at hj;exact ⟨by omega,by simp⟩
   have adZ:Row w4 Ac (dl.flatMap jA):=by
    rw [F9.out.1,hdl,<- aj1 jA 2 Tz];exact adW.out.cut (by rw [flat_length jA 2 Tz];omega)
   rw [hdn] at adY;have Ld:=Lib.hid hdg;have ad1:=Lib.hid adZ;have HDn:=Lib.hid hdn;have hdb:dl.length<=2097152:=by omega
   clear hdl hdg adZ F9 hdn;have hsi:=Lib.hid ((HOk.out _ (List.getElem_mem hlt)));have ad2:∀ j,i<j->∀ hj:j<sl'.length,jQ sl'[j]<=ru sl'[i]->rC F sl'[i] sl'[j]=false->q=false:=fun j hij hj=>HV.out.pair i j hij hj;have hnodes:∀ m (hm:m<nl.length),nP sl'[i] nl[m]=false->q=false:=fun m hm=>HV.out.node i hlt m hm;have hdone:(∀ j,i<j->∀ hj:j<sl'.length,jQ sl'[j]<=ru sl'[i]->rC F sl'[i] sl'[j]=true)->(∀ a b (_:a<b) (hb:b<sl'.length),a<i+1->jQ sl'[b]<=ru (sl'[a]'(by omega))->rC F (sl'[a]'(by omega)) sl'[b]=true):=fun h a b hab hb ha=>by
    by_cases e:a<i
    · exact Y9.out a b hab hb e
    ·have:a=i:=by omega
     subst this;exact h b hab hb
   have ad3:(∀ m (hm:m<nl.length),nP sl'[i] nl[m]=true)->(∀ a (ha:a<sl'.length) m (hm:m<nl.length),a<i+1->nP sl'[a] nl[m]=true):=fun h a ha m hm hai=>by
    by_cases e:a<i
    · exact KI.out a ha m hm e
    ·have:a=i:=by omega
     subst this;exact h m hm
   have ad4:=Lc.out _ (List.getElem_mem hlt);generalize ad5:sl'[i]=si at *;have Gf:=Lib.hid ad5;have ad6:=Lib.hid ad2;have TQ:=Lib.hid hnodes;have ad7:=Lib.hid hdone;have alO:=Lib.hid ad3;have ad8:=Lib.hid ad4;clear ad5 ad2 hnodes hdone ad3 Y9 KI ad4;have TD:IntKind.i64.wrap ((i:Int)+1)=(i:Int)+1:=IntWalk.i64_in _ (by omega);have r3:0<=(i:Int)+1:=by omega
   have r4:(i:Int)+1<=sl'.length:=by omega
   have r5:((i:Int)+1).toNat=i+1:=by omega
   go_upto_block 4 with fail;obtain ⟨W5,qE⟩:∃ W5:World,W5=wr.alloc (.cells #[.pointer (some ⟨si.ln.g,0,none⟩),.int .i64 si.k] 230):=⟨_,rfl⟩;have dM:=Lib.hid (show Below w4.heap.size w4 W5 by rw [qE];exact bA Hb.out _);have X9:aj W5 wr.heap.size 230 #[.pointer (some ⟨si.ln.g,0,none⟩),.int .i64 si.k]:=by rw [qE];exact aj.made rfl _ _
   have l9:=Lib.hid X9;rw [<- qE];clear qE X9 adY TD r3 r4 r5 c0 c1 hlb;obtain ⟨wp,rfl⟩:∃ wp:World,wp=wr:=⟨_,rfl⟩;have TW:∀ s:bY,∀ W,gX W s->Calls Tryz.prog 228 #[jh s] W _:=fun s W h=>YT s W h;have TE:∀ s:bY,∀ W,gX W s->Calls Tryz.prog 229 #[jh s] W _:=fun s W h=>akU s W h;have TC:∀ s t:bY,∀ W,gX W s->gX W t->kJ W w1.heap.size k F->eG s.ln.arc.fr->eG s.ln.arc.dst->Calls Tryz.prog 230 #[jh s,jh t,.map (some w1.heap.size)] W _:=fun s t W h1 h2 h3 h4 h5=>ali F w1.heap.size k s t W h1 h2 h3 h4 h5;unfold jh at TW TE TC;have HTW:=Lib.hid TW;have HTE:=Lib.hid TE;have HTC:=Lib.hid TC;clear TW TE TC;go_cut [51] (fun u wx=>Below W5.heap.size W5 wx/\∀ j,i<j->∀ hj:j<sl'.length,jQ sl'[j]<=ru si->rC F si sl'[j]=true)
   case first =>
    go_wp2_with fail;go_loopw [51] (fun u wx=>∃ j:Nat,j<=dl.length/\u=.int .i64 j/\Below W5.heap.size W5 wx/\∀ m (hm:m<dl.length),m<j->jQ dl[m]<=ru si->rC F si dl[m]=true) (fun u _=>dl.length-(intOf u).toNat)
    case atStart => exact ⟨0,Nat.zero_le _,rfl,bR W5,fun _ _ h=>by omega⟩
    case round =>
     obtain ⟨j,hj,rfl,hbx,hnx⟩:=hrel;have jo:=Lib.hid hbx;have yU:=Lib.hid hnx;have hxs:=hbx.size;have X9:=l9.out.keep hbx;clear hbx hnx;by_cases hlj:j<dl.length
     case neg =>
      have hf:=Lib.hid (show ∀ j,i<j->∀ hj:j<sl'.length,jQ sl'[j]<=ru si->rC F si sl'[j]=true from fun m him hm hw=>by
       have hd:=HDn.out;obtain ⟨h1,h2⟩:=Ld.out (m-(i+1)) (by omega);have e:i+1+(m-(i+1))=m:=by omega
       simp only [e] at h2;have:=yU.out (m-(i+1)) (by omega) (by omega)
       rw [h2] at this;exact this hw)
      go_wp2_with fail;go_meet
      case rel => exact ⟨jo.out,hf.out⟩
     obtain ⟨b',o',rfl,Cb,d0,d1⟩:=(ad1.out.mono (bT dM.out jo.out)).psg hlj;obtain ⟨hjs,hje⟩:=Ld.out j hlj;have htj:=Lib.hid (HOk.out _ (List.getElem_mem hjs));rw [<- hje] at htj;have hwj:=Lib.hid hje;clear hje;go_upto_region 17 with fail;obtain ⟨W7,CQ⟩:∃ W7:World,W7=wr.alloc (.cells #[.pointer (some ⟨dl[j].ln.g,0,none⟩),.int .i64 dl[j].k] 230):=⟨_,rfl⟩;have yV:Below wr.heap.size wr W7:=by rw [CQ];exact bA (bR wr) _
     have mV:aj W7 wr.heap.size 230 #[.pointer (some ⟨dl[j].ln.g,0,none⟩),.int .i64 dl[j].k]:=by rw [CQ];exact aj.made rfl _ _
     rw [<- CQ];replace X9:=X9.keep yV;have B7:=Lib.hid (bT dM.out (bT jo.out yV));have B7':=Lib.hid (bT jo.out yV);clear CQ yV d0 d1 Cb;obtain ⟨gy,gG,iP,-,-⟩:=X9.bH;obtain ⟨AO,AP,Za,-,-⟩:=mV.bH;refine cZ (Since W7) (.take 0 1 (.take 2 5 (.call 1 7 (.call 3 15 (.take 4 31 (.done)))))) (by kernel_rfl) (bD (bR _)) (by kernel_rfl) (by kernel_rfl) (Nat.le_of_ble_eq_true (by kernel_rfl)) ?_;intro dn QR au aC hS
     iterate 2
      apply bn;exact au;exact rfl;exact hS;exact rfl
      · intro _ hqc;go_simp;try rfl
      try simp only [pu]
     refine aW (i:=1) (aH au rfl) (fun K hK=>?_);have aA:=Lib.hid hS;clear hS;refine aN (aV rfl) ?_;go_simp;refine (HTW.out _ _ (htj.out.keep (bT B7.out aA.out))).mono ?_;rintro e bC ⟨rfl,bM,-⟩;have hS:Since W7 bC:=bT (w:=W7) aA.out bM;clear aA;refine hK.out _ _ hS (fun _=>?_);clear hK K
     try simp only [pu]
     refine aW (i:=3) (aH au rfl) (fun K hK=>?_);have aA:=Lib.hid hS;clear hS;refine aN (aV rfl) ?_;go_simp;refine (HTE.out _ _ (hsi.out.keep (bT B7.out aA.out))).mono ?_;rintro e wr2 ⟨rfl,jr,-⟩;have hS:Since W7 wr2:=bT (w:=W7) aA.out jr;clear aA;refine hK.out _ _ hS (fun _=>?_);clear hK K
     try simp only [pu]
     apply bn;exact au;exact rfl;exact hS;exact rfl
     · intro _ hqc;go_simp;try rfl
     try simp only [pu]
     refine bQ ?_;refine aC.down _ _ ?_;have hB:Below W7.heap.size W7 wr2:=hS;clear hS aC au;have B8:=Lib.hid (bT B7.out hB);have B8':=Lib.hid (bT B7'.out hB);replace X9:=X9.keep hB;replace mV:=mV.keep hB;clear hB
     try clear gy
     try clear gG
     try clear iP
     obtain ⟨gy,gG,iP,-,-⟩:=X9.bH
     try clear AO
     try clear AP
     try clear Za
     obtain ⟨AO,AP,Za,-,-⟩:=mV.bH;by_cases hw:ru si<jQ dl[j]
     ·have hf:=Lib.hid (show ∀ j,i<j->∀ hj:j<sl'.length,jQ sl'[j]<=ru si->rC F si sl'[j]=true from fun m him hm hwm=>by
       by_cases e:m<i+1+j
       ·have hd:=HDn.out;obtain ⟨h1,h2⟩:=Ld.out (m-(i+1)) (by omega);have e:i+1+(m-(i+1))=m:=by omega
        simp only [e] at h2;have:=yU.out (m-(i+1)) (by omega) (by omega)
        rw [h2] at this;exact this hwm
       ·have hs:jQ dl[j]<=jQ sl'[m]:=by
         rw [hwj.out];by_cases e':m=i+1+j
         · subst e';exact Int.le_refl _
         · exact alN.out (i+1+j) m (by omega) hm
        omega)
      go_wp2_with fail;go_meet
      case rel => exact ⟨B8'.out,hf.out⟩
     ·have hw':=Lib.hid hw;go_wp2_with fail;refine (HTC.out _ _ _ (hsi.out.keep B8.out) (htj.out.keep B8.out) (IQ.out.keep B8.out) ad8.out.1 ad8.out.2).mono ?_;rintro e w9 ⟨rfl,sK⟩;have B9:=Lib.hid (bT B8'.out sK);clear sK X9 mV gy gG iP AO AP Za hw
      cases hc:rC F si dl[j]
      case false =>
       have hf:=Lib.hid (show false=q by
        have hq:=ad6.out (i+1+j) (by omega) hjs;rw [<- hwj.out] at hq;exact (hq (by have:=hw'.out;omega) hc).symm)
       clear hc;go_wp2_with fail;go_ret;exact ⟨eu hf.out,bT HB4.out (bT dM.out B9.out)⟩
      case true =>
       have hc':=Lib.hid hc;clear hc;go_wp2_with fail;go_roundw
       case rel => exact ⟨j+1,by omega,by go_num,B9.out,all_succ (p:=fun t=>jQ t<=ru si->rC F si t=true) yU.out hlj (fun _=>hc'.out)⟩
       case measure => simp [intOf];omega
   case rest =>
   obtain ⟨hbc,hpd⟩:=hcut;have HPd:=Lib.hid (ad7.out hpd);have HBc:=Lib.hid (bT dM.out hbc);have X9:=l9.out.keep hbc;replace l9:=Lib.hid X9;have X1:=dI.out.keep HBc.out;have HY:=Lib.hid (hsi.out.keep HBc.out);clear hbc hpd ad6 ad7 Ld ad1 HDn X9 HTW HTE HTC hdb;have TS:∀ W,gX W si->Calls Tryz.prog 231 #[jh si] W _:=fun W hW=>OD si W hW;have TO:∀ p q r:Pt,∀ W,Calls Tryz.prog 28 #[bg p,bg q,bg r] W _:=fun p q r W=>KC p q r W;have TF:∀ W,Calls Tryz.prog 232 #[jh si] W _:=fun W=>adp si W;have TL:∀ W,gX W si->Calls Tryz.prog 233 #[jh si] W _:=fun W hW=>adq si W hW;unfold jh at TS TF TL;unfold bg at TS TO;have HTS:=Lib.hid TS;have sN:=Lib.hid TO;have uF:=Lib.hid TF;have uX:=Lib.hid TL;clear TS TO TF TL
   try clear aO
   try clear aP
   try clear aS
   try clear aT
   obtain ⟨aO,aP,aS,aT,-,-,-⟩:=X1.aY;go_wp2_with fail;clear X1 aO aP aS aT;go_loopw [69] (fun u wx=>∃ m:Nat,m<=nl.length/\u=.int .i64 m/\Below wc.heap.size wc wx/\∀ n (hn:n<nl.length),n<m->nP si nl[n]=true) (fun u _=>nl.length-(intOf u).toNat)
   case atStart => exact ⟨0,Nat.zero_le _,rfl,bR wc,fun _ _ h=>by omega⟩
   case round =>
    obtain ⟨m,hm,rfl,hbx,hnx⟩:=hrel;have jo:=Lib.hid hbx;have yU:=Lib.hid hnx;have X9:=l9.out.keep hbx;clear hbx hnx;by_cases hlm:m<nl.length
    case neg =>
     have hf:=Lib.hid (alO.out (fun n hn=>yU.out n hn (by omega)));clear X9;go_wp2_with fail;go_roundw
     case rel => exact ⟨i+1,by omega,by go_num,bT HBc.out jo.out,HPd.out,hf.out⟩
     case measure => simp [intOf];omega
    obtain ⟨b,o,rfl,hlb,c0,c1,c2⟩:=(HR.out.mono (bT HB4.out (bT HBc.out jo.out))).nd hlm
    try clear gy
    try clear gG
    try clear iP
    obtain ⟨gy,gG,iP,-,-⟩:=X9.bH;go_wp2_with fail;refine (HTS.out _ (HY.out.keep (bA jo.out _))).mono ?_;rintro e w10 ⟨rfl,yX,-⟩;have hA10:Below wr.heap.size wr w10:=bT (bA (bR wr) _) yX;have xQ:aj w10 wr.heap.size 45 #[.int .i64 nl[m].id,.int .i64 nl[m].pt.x,.int .i64 nl[m].pt.y]:=(aj.made rfl _ _).keep yX;replace X9:=X9.keep hA10;replace jo:=Lib.hid (bT jo.out hA10);clear yX hA10 c0 c1 c2 hlb gy gG iP;go_upto_region 25 with fail;obtain ⟨dh,OV⟩:∃ dh:World,dh=(w10.alloc (.cells #[.int .i64 si.fst.x,.int .i64 si.fst.y] 39)).alloc (.cells #[.int .i64 si.snd.x,.int .i64 si.snd.y] 39):=⟨_,rfl⟩;have TR:Below w10.heap.size w10 dh:=by rw [OV];exact bA (bA (bR w10) _) _
    have xP:aj dh w10.heap.size 39 #[.int .i64 si.fst.x,.int .i64 si.fst.y]:=by rw [OV];exact (aj.made rfl _ _).alloc _
    have AQ:aj dh (w10.heap.size+1) 39 #[.int .i64 si.snd.x,.int .i64 si.snd.y]:=by rw [OV];exact aj.made (by simp) _ _
    rw [<- OV];replace X9:=X9.keep TR;replace xQ:=xQ.keep TR;replace jo:=Lib.hid (bT jo.out TR);have Y:=(HY.out.keep jo.out).line;clear OV TR
    try clear gy
    try clear gG
    try clear iP
    obtain ⟨gy,gG,iP,-,-⟩:=X9.bH;obtain ⟨OW,OX,OY,auX,-,-,-⟩:=xQ.aY;obtain ⟨Aw,Az,AA,-,-⟩:=xP.bH;obtain ⟨OZ,O1,O4,-,-⟩:=AQ.bH;obtain ⟨Yl,Ya,Yb,Yc,Yd,Ye,Yf,Yg,-,-,-,-,-,-,-⟩:=Y.FP;have hfe:=Lib.hid (free_eq si nl[m]);have TF:=uF.out;have TL:=uX.out;have TO:=sN.out si.fst si.snd nl[m].pt
    cases e1:fJ si.fst si.snd nl[m].pt
    case false =>
     rw [e1] at TO;have hf:=Lib.hid (show nP si nl[m]=true by rw [hfe.out];simp only [e1];rfl);have sN:=Lib.hid TO;have uF:=Lib.hid TF;have uX:=Lib.hid TL;clear TO TF TL hfe e1;refine cZ (Since dh) (.run 4 0 0 (.call 4 31 (.run 32 5 31 (.done)))) (by kernel_rfl) (bD (bR _)) (by kernel_rfl) (by kernel_rfl) (Nat.le_of_ble_eq_true (by kernel_rfl)) ?_;intro dn QR au aC hS
     iterate 4
      apply bn;exact au;exact rfl;exact hS;exact rfl
      · intro _ hqc;go_simp;try rfl
      try simp only [pu]
     refine aW (i:=4) (aH au rfl) (fun K hK=>?_);have aA:=Lib.hid hS;clear hS;refine aN (aV rfl) ?_;go_simp;refine (sN.out _).mono ?_;rintro e bC ⟨rfl,bM⟩;have hS:Since dh bC:=bT (w:=dh) aA.out bM;clear aA;refine hK.out _ _ hS (fun _=>?_);clear hK K
     try simp only [pu]
     apply bn;exact au;exact rfl;exact hS;exact rfl
     · intro _ hqc;go_simp;try rfl
     try simp only [pu]
     iterate 14
      refine qB au rfl hS rfl rfl rfl rfl rfl ?_
      try simp only [pu]
     iterate 2
      apply bn;exact au;exact rfl;exact hS;exact rfl
      · intro _ hqc;go_simp;try rfl
      try simp only [pu]
     iterate 14
      refine qB au rfl hS rfl rfl rfl rfl rfl ?_
      try simp only [pu]
     apply bn;exact au;exact rfl;exact hS;exact rfl
     · intro _ hqc;go_simp;try rfl
     try simp only [pu]
     refine bQ ?_;refine aC.down _ _ ?_;have hB:Below dh.heap.size dh bC:=hS;clear hS aC au;go_wp2_with fail;go_roundw
     case rel => exact ⟨m+1,by omega,by go_num,bT jo.out hB,all_succ (p:=fun n=>nP si n=true) yU.out hlm hf.out⟩
     case measure => simp [intOf];omega
    case true =>
     rw [e1] at TO
     cases e2:((si.k:Int) == 0)
     case false =>
      rw [e2] at TF
      cases e4:((si.k:Int) == (si.ln.path.length:Int)-2)
      case false =>
       rw [e4] at TL;have hf:=Lib.hid (show nP si nl[m]=false by rw [hfe.out];simp only [e1,e2,e4];rfl);have sN:=Lib.hid TO;have uF:=Lib.hid TF;have uX:=Lib.hid TL;clear TO TF TL hfe e1 e2 e4;refine cZ (Since dh) (.run 4 0 0 (.call 4 31 (.take 5 63 (.take 6 127 (.call 7 255 (.run 15 8 255 (.call 23 16777215 (.run 13 24 16777215 (.done))))))))) (by kernel_rfl) (bD (bR _)) (by kernel_rfl) (by kernel_rfl) (Nat.le_of_ble_eq_true (by kernel_rfl)) ?_;intro dn QR au aC hS
       iterate 4
        apply bn;exact au;exact rfl;exact hS;exact rfl
        · intro _ hqc;go_simp;try rfl
        try simp only [pu]
       refine aW (i:=4) (aH au rfl) (fun K hK=>?_);have aA:=Lib.hid hS;clear hS;refine aN (aV rfl) ?_;go_simp;refine (sN.out _).mono ?_;rintro e bC ⟨rfl,bM⟩;have hS:Since dh bC:=bT (w:=dh) aA.out bM;clear aA;refine hK.out _ _ hS (fun _=>?_);clear hK K
       try simp only [pu]
       apply bn;exact au;exact rfl;exact hS;exact rfl
       · intro _ hqc;go_simp;try rfl
       try simp only [pu]
       apply eF;exact au;exact rfl;exact hS;iterate 4 exact rfl
       · intro _ hqc;go_simp;try rfl
       try simp only [pu]
       refine aW (i:=7) (aH au rfl) (fun K hK=>?_);have aA:=Lib.hid hS;clear hS;refine aN (mJ rfl (aH au rfl) rfl rfl) ?_;go_simp;refine (uF.out _).mono ?_;rintro e wr2 ⟨rfl,jr⟩;have hS:Since dh wr2:=bT (w:=dh) aA.out jr;clear aA;refine hK.out _ _ hS (fun _=>?_);clear hK K
       try simp only [pu]
       apply eF;exact au;exact rfl;exact hS;iterate 4 exact rfl
       · intro _ hqc;go_simp;try rfl
       try simp only [pu]
       iterate 9
        refine qB au rfl hS rfl rfl rfl rfl rfl ?_
        try simp only [pu]
       iterate 2
        apply eF;exact au;exact rfl;exact hS;iterate 4 exact rfl
        · intro _ hqc;go_simp;try rfl
        try simp only [pu]
       iterate 2
        apply bn;exact au;exact rfl;exact hS;exact rfl
        · intro _ hqc;go_simp;try rfl
        try simp only [pu]
       apply eF;exact au;exact rfl;exact hS;iterate 4 exact rfl
       · intro _ hqc;go_simp;try rfl
       try simp only [pu]
       refine aW (i:=23) (aH au rfl) (fun K hK=>?_);have aA:=Lib.hid hS;clear hS;refine aN (mJ rfl (aH au rfl) rfl rfl) ?_;go_simp;refine (uX.out _ (HY.out.keep (bT jo.out aA.out))).mono ?_;rintro e wr3 ⟨rfl,uU⟩;have hS:Since dh wr3:=bT (w:=dh) aA.out uU;clear aA;refine hK.out _ _ hS (fun _=>?_);clear hK K
       try simp only [pu]
       apply eF;exact au;exact rfl;exact hS;iterate 4 exact rfl
       · intro _ hqc;go_simp;try rfl
       try simp only [pu]
       iterate 9
        refine qB au rfl hS rfl rfl rfl rfl rfl ?_
        try simp only [pu]
       iterate 2
        apply eF;exact au;exact rfl;exact hS;iterate 4 exact rfl
        · intro _ hqc;go_simp;try rfl
        try simp only [pu]
       apply bn;exact au;exact rfl;exact hS;exact rfl
       · intro _ hqc;go_simp;try rfl
       try simp only [pu]
       refine bQ ?_;refine aC.down _ _ ?_;have hB:Below dh.heap.size dh wr3:=hS;clear hS aC au;have hr:=Lib.hid (TQ.out m hlm hf.out);go_wp2_with fail;go_ret;exact ⟨eu hr.out.symm,bT HB4.out (bT HBc.out (bT jo.out hB))⟩
      case true =>
       rw [e4] at TL
       cases e5:(si.ln.arc.dst == nl[m].id)
       case false =>
        have hf:=Lib.hid (show nP si nl[m]=false by rw [hfe.out];simp only [e1,e2,e4,e5];rfl);have sN:=Lib.hid TO;have uF:=Lib.hid TF;have uX:=Lib.hid TL;clear TO TF TL hfe e1 e2 e4;refine cZ (Since dh) (.run 4 0 0 (.call 4 31 (.take 5 63 (.take 6 127 (.call 7 255 (.run 15 8 255 (.call 23 16777215 (.run 13 24 16777215 (.done))))))))) (by kernel_rfl) (bD (bR _)) (by kernel_rfl) (by kernel_rfl) (Nat.le_of_ble_eq_true (by kernel_rfl)) ?_;intro dn QR au aC hS
        iterate 4
         apply bn;exact au;exact rfl;exact hS;exact rfl
         · intro _ hqc;go_simp;try rfl
         try simp only [pu]
        refine aW (i:=4) (aH au rfl) (fun K hK=>?_);have aA:=Lib.hid hS;clear hS;refine aN (aV rfl) ?_;go_simp;refine (sN.out _).mono ?_;rintro e bC ⟨rfl,bM⟩;have hS:Since dh bC:=bT (w:=dh) aA.out bM;clear aA;refine hK.out _ _ hS (fun _=>?_);clear hK K
        try simp only [pu]
        apply bn;exact au;exact rfl;exact hS;exact rfl
        · intro _ hqc;go_simp;try rfl
        try simp only [pu]
        apply eF;exact au;exact rfl;exact hS;iterate 4 exact rfl
        · intro _ hqc;go_simp;try rfl
        try simp only [pu]
        refine aW (i:=7) (aH au rfl) (fun K hK=>?_);have aA:=Lib.hid hS;clear hS;refine aN (mJ rfl (aH au rfl) rfl rfl) ?_;go_simp;refine (uF.out _).mono ?_;rintro e wr2 ⟨rfl,jr⟩;have hS:Since dh wr2:=bT (w:=dh) aA.out jr;clear aA;refine hK.out _ _ hS (fun _=>?_);clear hK K
        try simp only [pu]
        apply eF;exact au;exact rfl;exact hS;iterate 4 exact rfl
        · intro _ hqc;go_simp;try rfl
        try simp only [pu]
        iterate 9
         refine qB au rfl hS rfl rfl rfl rfl rfl ?_
         try simp only [pu]
        iterate 2
         apply eF;exact au;exact rfl;exact hS;iterate 4 exact rfl
         · intro _ hqc;go_simp;try rfl
         try simp only [pu]
        iterate 2
         apply bn;exact au;exact rfl;exact hS;exact rfl
         · intro _ hqc;go_simp;try rfl
         try simp only [pu]
        apply eF;exact au;exact rfl;exact hS;iterate 4 exact rfl
        · intro _ hqc;go_simp;try rfl
        try simp only [pu]
        refine aW (i:=23) (aH au rfl) (fun K hK=>?_);have aA:=Lib.hid hS;clear hS;refine aN (mJ rfl (aH au rfl) rfl rfl) ?_;go_simp;refine (uX.out _ (HY.out.keep (bT jo.out aA.out))).mono ?_;rintro e wr3 ⟨rfl,uU⟩;have hS:Since dh wr3:=bT (w:=dh) aA.out uU;clear aA;refine hK.out _ _ hS (fun _=>?_);clear hK K
        try simp only [pu]
        iterate 12
         apply eF;exact au;exact rfl;exact hS;iterate 4 exact rfl
         · intro _ hqc;go_simp;try rfl
         try simp only [pu]
        apply bn;exact au;exact rfl;exact hS;exact rfl
        · intro _ hqc;go_simp;try rfl
        try simp only [pu]
        refine bQ ?_;refine aC.down _ _ ?_;have hB:Below dh.heap.size dh wr3:=hS;clear hS aC au;have hr:=Lib.hid (TQ.out m hlm hf.out);go_wp2_with fail;go_ret;exact ⟨eu hr.out.symm,bT HB4.out (bT HBc.out (bT jo.out hB))⟩
       case true =>
        have hf:=Lib.hid (show nP si nl[m]=true by rw [hfe.out];simp only [e1,e2,e4,e5];rfl);have sN:=Lib.hid TO;have uF:=Lib.hid TF;have uX:=Lib.hid TL;clear TO TF TL hfe e1 e2 e4;refine cZ (Since dh) (.run 4 0 0 (.call 4 31 (.take 5 63 (.take 6 127 (.call 7 255 (.run 15 8 255 (.call 23 16777215 (.run 13 24 16777215 (.done))))))))) (by kernel_rfl) (bD (bR _)) (by kernel_rfl) (by kernel_rfl) (Nat.le_of_ble_eq_true (by kernel_rfl)) ?_;intro dn QR au aC hS
        iterate 4
         apply bn;exact au;exact rfl;exact hS;exact rfl
         · intro _ hqc;go_simp;try rfl
         try simp only [pu]
        refine aW (i:=4) (aH au rfl) (fun K hK=>?_);have aA:=Lib.hid hS;clear hS;refine aN (aV rfl) ?_;go_simp;refine (sN.out _).mono ?_;rintro e bC ⟨rfl,bM⟩;have hS:Since dh bC:=bT (w:=dh) aA.out bM;clear aA;refine hK.out _ _ hS (fun _=>?_);clear hK K
        try simp only [pu]
        apply bn;exact au;exact rfl;exact hS;exact rfl
        · intro _ hqc;go_simp;try rfl
        try simp only [pu]
        apply eF;exact au;exact rfl;exact hS;iterate 4 exact rfl
        · intro _ hqc;go_simp;try rfl
        try simp only [pu]
        refine aW (i:=7) (aH au rfl) (fun K hK=>?_);have aA:=Lib.hid hS;clear hS;refine aN (mJ rfl (aH au rfl) rfl rfl) ?_;go_simp;refine (uF.out _).mono ?_;rintro e wr2 ⟨rfl,jr⟩;have hS:Since dh wr2:=bT (w:=dh) aA.out jr;clear aA;refine hK.out _ _ hS (fun _=>?_);clear hK K
        try simp only [pu]
        apply eF;exact au;exact rfl;exact hS;iterate 4 exact rfl
        · intro _ hqc;go_simp;try rfl
        try simp only [pu]
        iterate 9
         refine qB au rfl hS rfl rfl rfl rfl rfl ?_
         try simp only [pu]
        iterate 2
         apply eF;exact au;exact rfl;exact hS;iterate 4 exact rfl
         · intro _ hqc;go_simp;try rfl
         try simp only [pu]
        iterate 2
         apply bn;exact au;exact rfl;exact hS;exact rfl
         · intro _ hqc;go_simp;try rfl
         try simp only [pu]
        apply eF;exact au;exact rfl;exact hS;iterate 4 exact rfl
        · intro _ hqc;go_simp;try rfl
        try simp only [pu]
        refine aW (i:=23) (aH au rfl) (fun K hK=>?_);have aA:=Lib.hid hS;clear hS;refine aN (mJ rfl (aH au rfl) rfl rfl) ?_;go_simp;refine (uX.out _ (HY.out.keep (bT jo.out aA.out))).mono ?_;rintro e wr3 ⟨rfl,uU⟩;have hS:Since dh wr3:=bT (w:=dh) aA.out uU;clear aA;refine hK.out _ _ hS (fun _=>?_);clear hK K
        try simp only [pu]
        iterate 12
         apply eF;exact au;exact rfl;exact hS;iterate 4 exact rfl
         · intro _ hqc;go_simp;try rfl
         try simp only [pu]
        apply bn;exact au;exact rfl;exact hS;exact rfl
        · intro _ hqc;go_simp;try rfl
        try simp only [pu]
        refine bQ ?_;refine aC.down _ _ ?_;have hB:Below dh.heap.size dh wr3:=hS;clear hS aC au;go_wp2_with fail;go_roundw
        case rel => exact ⟨m+1,by omega,by go_num,bT jo.out hB,all_succ (p:=fun n=>nP si n=true) yU.out hlm hf.out⟩
        case measure => simp [intOf];omega
     case true =>
      rw [e2] at TF
      cases e3:(si.ln.arc.fr == nl[m].id)
      case false =>
       cases e4:((si.k:Int) == (si.ln.path.length:Int)-2)
       case false =>
        rw [e4] at TL;have hf:=Lib.hid (show nP si nl[m]=false by rw [hfe.out];simp only [e1,e2,e3,e4];rfl);have sN:=Lib.hid TO;have uF:=Lib.hid TF;have uX:=Lib.hid TL;clear TO TF TL hfe e1 e2 e4;refine cZ (Since dh) (.run 4 0 0 (.call 4 31 (.take 5 63 (.take 6 127 (.call 7 255 (.run 15 8 255 (.call 23 16777215 (.run 13 24 16777215 (.done))))))))) (by kernel_rfl) (bD (bR _)) (by kernel_rfl) (by kernel_rfl) (Nat.le_of_ble_eq_true (by kernel_rfl)) ?_;intro dn QR au aC hS
        iterate 4
         apply bn;exact au;exact rfl;exact hS;exact rfl
         · intro _ hqc;go_simp;try rfl
         try simp only [pu]
        refine aW (i:=4) (aH au rfl) (fun K hK=>?_);have aA:=Lib.hid hS;clear hS;refine aN (aV rfl) ?_;go_simp;refine (sN.out _).mono ?_;rintro e bC ⟨rfl,bM⟩;have hS:Since dh bC:=bT (w:=dh) aA.out bM;clear aA;refine hK.out _ _ hS (fun _=>?_);clear hK K
        try simp only [pu]
        apply bn;exact au;exact rfl;exact hS;exact rfl
        · intro _ hqc;go_simp;try rfl
        try simp only [pu]
        apply eF;exact au;exact rfl;exact hS;iterate 4 exact rfl
        · intro _ hqc;go_simp;try rfl
        try simp only [pu]
        refine aW (i:=7) (aH au rfl) (fun K hK=>?_);have aA:=Lib.hid hS;clear hS;refine aN (mJ rfl (aH au rfl) rfl rfl) ?_;go_simp;refine (uF.out _).mono ?_;rintro e wr2 ⟨rfl,jr⟩;have hS:Since dh wr2:=bT (w:=dh) aA.out jr;clear aA;refine hK.out _ _ hS (fun _=>?_);clear hK K
        try simp only [pu]
        iterate 12
         apply eF;exact au;exact rfl;exact hS;iterate 4 exact rfl
         · intro _ hqc;go_simp;try rfl
         try simp only [pu]
        iterate 2
         apply bn;exact au;exact rfl;exact hS;exact rfl
         · intro _ hqc;go_simp;try rfl
         try simp only [pu]
        apply eF;exact au;exact rfl;exact hS;iterate 4 exact rfl
        · intro _ hqc;go_simp;try rfl
        try simp only [pu]
        refine aW (i:=23) (aH au rfl) (fun K hK=>?_);have aA:=Lib.hid hS;clear hS;refine aN (mJ rfl (aH au rfl) rfl rfl) ?_;go_simp;refine (uX.out _ (HY.out.keep (bT jo.out aA.out))).mono ?_;rintro e wr3 ⟨rfl,uU⟩;have hS:Since dh wr3:=bT (w:=dh) aA.out uU;clear aA;refine hK.out _ _ hS (fun _=>?_);clear hK K
        try simp only [pu]
        apply eF;exact au;exact rfl;exact hS;iterate 4 exact rfl
        · intro _ hqc;go_simp;try rfl
        try simp only [pu]
        iterate 9
         refine qB au rfl hS rfl rfl rfl rfl rfl ?_
         try simp only [pu]
        iterate 2
         apply eF;exact au;exact rfl;exact hS;iterate 4 exact rfl
         · intro _ hqc;go_simp;try rfl
         try simp only [pu]
        apply bn;exact au;exact rfl;exact hS;exact rfl
        · intro _ hqc;go_simp;try rfl
        try simp only [pu]
        refine bQ ?_;refine aC.down _ _ ?_;have hB:Below dh.heap.size dh wr3:=hS;clear hS aC au;have hr:=Lib.hid (TQ.out m hlm hf.out);go_wp2_with fail;go_ret;exact ⟨eu hr.out.symm,bT HB4.out (bT HBc.out (bT jo.out hB))⟩
       case true =>
        rw [e4] at TL
        cases e5:(si.ln.arc.dst == nl[m].id)
        case false =>
         have hf:=Lib.hid (show nP si nl[m]=false by rw [hfe.out];simp only [e1,e2,e3,e4,e5];rfl);have sN:=Lib.hid TO;have uF:=Lib.hid TF;have uX:=Lib.hid TL;clear TO TF TL hfe e1 e2 e4;refine cZ (Since dh) (.run 4 0 0 (.call 4 31 (.take 5 63 (.take 6 127 (.call 7 255 (.run 15 8 255 (.call 23 16777215 (.run 13 24 16777215 (.done))))))))) (by kernel_rfl) (bD (bR _)) (by kernel_rfl) (by kernel_rfl) (Nat.le_of_ble_eq_true (by kernel_rfl)) ?_;intro dn QR au aC hS
         iterate 4
          apply bn;exact au;exact rfl;exact hS;exact rfl
          · intro _ hqc;go_simp;try rfl
          try simp only [pu]
         refine aW (i:=4) (aH au rfl) (fun K hK=>?_);have aA:=Lib.hid hS;clear hS;refine aN (aV rfl) ?_;go_simp;refine (sN.out _).mono ?_;rintro e bC ⟨rfl,bM⟩;have hS:Since dh bC:=bT (w:=dh) aA.out bM;clear aA;refine hK.out _ _ hS (fun _=>?_);clear hK K
         try simp only [pu]
         apply bn;exact au;exact rfl;exact hS;exact rfl
         · intro _ hqc;go_simp;try rfl
         try simp only [pu]
         apply eF;exact au;exact rfl;exact hS;iterate 4 exact rfl
         · intro _ hqc;go_simp;try rfl
         try simp only [pu]
         refine aW (i:=7) (aH au rfl) (fun K hK=>?_);have aA:=Lib.hid hS;clear hS;refine aN (mJ rfl (aH au rfl) rfl rfl) ?_;go_simp;refine (uF.out _).mono ?_;rintro e wr2 ⟨rfl,jr⟩;have hS:Since dh wr2:=bT (w:=dh) aA.out jr;clear aA;refine hK.out _ _ hS (fun _=>?_);clear hK K
         try simp only [pu]
         iterate 12
          apply eF;exact au;exact rfl;exact hS;iterate 4 exact rfl
          · intro _ hqc;go_simp;try rfl
          try simp only [pu]
         iterate 2
          apply bn;exact au;exact rfl;exact hS;exact rfl
          · intro _ hqc;go_simp;try rfl
          try simp only [pu]
         apply eF;exact au;exact rfl;exact hS;iterate 4 exact rfl
         · intro _ hqc;go_simp;try rfl
         try simp only [pu]
         refine aW (i:=23) (aH au rfl) (fun K hK=>?_);have aA:=Lib.hid hS;clear hS;refine aN (mJ rfl (aH au rfl) rfl rfl) ?_;go_simp;refine (uX.out _ (HY.out.keep (bT jo.out aA.out))).mono ?_;rintro e wr3 ⟨rfl,uU⟩;have hS:Since dh wr3:=bT (w:=dh) aA.out uU;clear aA;refine hK.out _ _ hS (fun _=>?_);clear hK K
         try simp only [pu]
         iterate 12
          apply eF;exact au;exact rfl;exact hS;iterate 4 exact rfl
          · intro _ hqc;go_simp;try rfl
          try simp only [pu]
         apply bn;exact au;exact rfl;exact hS;exact rfl
         · intro _ hqc;go_simp;try rfl
         try simp only [pu]
         refine bQ ?_;refine aC.down _ _ ?_;have hB:Below dh.heap.size dh wr3:=hS;clear hS aC au;have hr:=Lib.hid (TQ.out m hlm hf.out);go_wp2_with fail;go_ret;exact ⟨eu hr.out.symm,bT HB4.out (bT HBc.out (bT jo.out hB))⟩
        case true =>
         have hf:=Lib.hid (show nP si nl[m]=true by rw [hfe.out];simp only [e1,e2,e3,e4,e5];rfl);have sN:=Lib.hid TO;have uF:=Lib.hid TF;have uX:=Lib.hid TL;clear TO TF TL hfe e1 e2 e4;refine cZ (Since dh) (.run 4 0 0 (.call 4 31 (.take 5 63 (.take 6 127 (.call 7 255 (.run 15 8 255 (.call 23 16777215 (.run 13 24 16777215 (.done))))))))) (by kernel_rfl) (bD (bR _)) (by kernel_rfl) (by kernel_rfl) (Nat.le_of_ble_eq_true (by kernel_rfl)) ?_;intro dn QR au aC hS
         iterate 4
          apply bn;exact au;exact rfl;exact hS;exact rfl
          · intro _ hqc;go_simp;try rfl
          try simp only [pu]
         refine aW (i:=4) (aH au rfl) (fun K hK=>?_);have aA:=Lib.hid hS;clear hS;refine aN (aV rfl) ?_;go_simp;refine (sN.out _).mono ?_;rintro e bC ⟨rfl,bM⟩;have hS:Since dh bC:=bT (w:=dh) aA.out bM;clear aA;refine hK.out _ _ hS (fun _=>?_);clear hK K
         try simp only [pu]
         apply bn;exact au;exact rfl;exact hS;exact rfl
         · intro _ hqc;go_simp;try rfl
         try simp only [pu]
         apply eF;exact au;exact rfl;exact hS;iterate 4 exact rfl
         · intro _ hqc;go_simp;try rfl
         try simp only [pu]
         refine aW (i:=7) (aH au rfl) (fun K hK=>?_);have aA:=Lib.hid hS;clear hS;refine aN (mJ rfl (aH au rfl) rfl rfl) ?_;go_simp;refine (uF.out _).mono ?_;rintro e wr2 ⟨rfl,jr⟩;have hS:Since dh wr2:=bT (w:=dh) aA.out jr;clear aA;refine hK.out _ _ hS (fun _=>?_);clear hK K
         try simp only [pu]
         iterate 12
          apply eF;exact au;exact rfl;exact hS;iterate 4 exact rfl
          · intro _ hqc;go_simp;try rfl
          try simp only [pu]
         iterate 2
          apply bn;exact au;exact rfl;exact hS;exact rfl
          · intro _ hqc;go_simp;try rfl
          try simp only [pu]
         apply eF;exact au;exact rfl;exact hS;iterate 4 exact rfl
         · intro _ hqc;go_simp;try rfl
         try simp only [pu]
         refine aW (i:=23) (aH au rfl) (fun K hK=>?_);have aA:=Lib.hid hS;clear hS;refine aN (mJ rfl (aH au rfl) rfl rfl) ?_;go_simp;refine (uX.out _ (HY.out.keep (bT jo.out aA.out))).mono ?_;rintro e wr3 ⟨rfl,uU⟩;have hS:Since dh wr3:=bT (w:=dh) aA.out uU;clear aA;refine hK.out _ _ hS (fun _=>?_);clear hK K
         try simp only [pu]
         iterate 12
          apply eF;exact au;exact rfl;exact hS;iterate 4 exact rfl
          · intro _ hqc;go_simp;try rfl
          try simp only [pu]
         apply bn;exact au;exact rfl;exact hS;exact rfl
         · intro _ hqc;go_simp;try rfl
         try simp only [pu]
         refine bQ ?_;refine aC.down _ _ ?_;have hB:Below dh.heap.size dh wr3:=hS;clear hS aC au;go_wp2_with fail;go_roundw
         case rel => exact ⟨m+1,by omega,by go_num,bT jo.out hB,all_succ (p:=fun n=>nP si n=true) yU.out hlm hf.out⟩
         case measure => simp [intOf];omega
      case true =>
       have hf:=Lib.hid (show nP si nl[m]=true by rw [hfe.out];simp only [e1,e2,e3];rfl);have sN:=Lib.hid TO;have uF:=Lib.hid TF;have uX:=Lib.hid TL;clear TO TF TL hfe e1 e2;refine cZ (Since dh) (.run 4 0 0 (.call 4 31 (.take 5 63 (.take 6 127 (.call 7 255 (.run 29 8 255 (.done))))))) (by kernel_rfl) (bD (bR _)) (by kernel_rfl) (by kernel_rfl) (Nat.le_of_ble_eq_true (by kernel_rfl)) ?_;intro dn QR au aC hS
       iterate 4
        apply bn;exact au;exact rfl;exact hS;exact rfl
        · intro _ hqc;go_simp;try rfl
        try simp only [pu]
       refine aW (i:=4) (aH au rfl) (fun K hK=>?_);have aA:=Lib.hid hS;clear hS;refine aN (aV rfl) ?_;go_simp;refine (sN.out _).mono ?_;rintro e bC ⟨rfl,bM⟩;have hS:Since dh bC:=bT (w:=dh) aA.out bM;clear aA;refine hK.out _ _ hS (fun _=>?_);clear hK K
       try simp only [pu]
       apply bn;exact au;exact rfl;exact hS;exact rfl
       · intro _ hqc;go_simp;try rfl
       try simp only [pu]
       apply eF;exact au;exact rfl;exact hS;iterate 4 exact rfl
       · intro _ hqc;go_simp;try rfl
       try simp only [pu]
       refine aW (i:=7) (aH au rfl) (fun K hK=>?_);have aA:=Lib.hid hS;clear hS;refine aN (mJ rfl (aH au rfl) rfl rfl) ?_;go_simp;refine (uF.out _).mono ?_;rintro e wr2 ⟨rfl,jr⟩;have hS:Since dh wr2:=bT (w:=dh) aA.out jr;clear aA;refine hK.out _ _ hS (fun _=>?_);clear hK K
       try simp only [pu]
       iterate 12
        apply eF;exact au;exact rfl;exact hS;iterate 4 exact rfl
        · intro _ hqc;go_simp;try rfl
        try simp only [pu]
       iterate 2
        apply bn;exact au;exact rfl;exact hS;exact rfl
        · intro _ hqc;go_simp;try rfl
        try simp only [pu]
       iterate 14
        refine qB au rfl hS rfl rfl rfl rfl rfl ?_
        try simp only [pu]
       apply bn;exact au;exact rfl;exact hS;exact rfl
       · intro _ hqc;go_simp;try rfl
       try simp only [pu]
       refine bQ ?_;refine aC.down _ _ ?_;have hB:Below dh.heap.size dh wr2:=hS;clear hS aC au;go_wp2_with fail;go_roundw
       case rel => exact ⟨m+1,by omega,by go_num,bT jo.out hB,all_succ (p:=fun n=>nP si n=true) yU.out hlm hf.out⟩
       case measure => simp [intOf];omega
end Go.Proofs.YtialfdomhoojiaaGreat
