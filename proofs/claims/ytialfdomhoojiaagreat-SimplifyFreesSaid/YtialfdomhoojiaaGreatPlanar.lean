import Derived.Deep.CutBlock
import Derived.Test.YtialfdomhoojiaaGreatJ06
import Derived.Test.YtialfdomhoojiaaGreatSortB
import Derived.Test.YtialfdomhoojiaaGreatGB
set_option linter.unusedSimpArgs false
set_option linter.unusedVariables false
namespace Go.Proofs.YtialfdomhoojiaaGreat
open Go.RowKit
theorem Row.VJ {w:World} {A:Option Addr} {l:List bJ} (h:Row w A (l.flatMap gU)) {k:Nat} (hk:k<l.length) :
  ∃ b o,A=some ⟨b,o,none⟩/\b<w.heap.size/\w.cell? ⟨b,o+k*2,none⟩=some (.pointer (some ⟨l[k].ln.g,0,none⟩))/\w.cell? ⟨b,o+k*2+1,none⟩=some (.int .i64 l[k].k):=by
 obtain ⟨b,o,hA,hb,hc⟩:=h.at_ (n:=2) (fun _=>rfl) hk (by omega);exact ⟨b,o,hA,hb,hc 0 _ rfl,hc 1 _ rfl⟩
theorem free_eq (s:bJ) (n:Nd):jH s n = !(dV s.fst s.snd n.pt && !(((s.k:Int) == 0) && (s.ln.arc.fr == n.id)) && !(((s.k:Int) == (s.ln.path.length:Int)-2) && (s.ln.arc.dst == n.id))):=rfl
structure adr (f:Int->Pt) (nl:List Nd) (sl:List bJ) (q:Bool):Prop where
 pair:∀ i j (_:i<j) (hj:j<sl.length),iw sl[j]<=lI (sl[i]'(by omega))->lJ f (sl[i]'(by omega)) sl[j]=false->q=false
 node:∀ i (hi:i<sl.length) m (hm:m<nl.length),jH sl[i] nl[m]=false->q=false
 yes:(∀ i j (_:i<j) (hj:j<sl.length),iw sl[j]<=lI (sl[i]'(by omega))->lJ f (sl[i]'(by omega)) sl[j]=true)->(∀ i (hi:i<sl.length) m (hm:m<nl.length),jH sl[i] nl[m]=true)->q=true
theorem verdict {p:Pl} (hp:Sound p) (hok:p.au.all (jr p)=true) {sl:List bJ} (hs:(sl.map bJ.abs).Perm (p.au.flatMap (eH p))):adr (nodeAt p) p.nodes sl (rW p):=by
 have hl:=hp.adh hok sl hs;refine ⟨fun i j hij hj hw hc=>?_,fun i hi m hm hf=>?_,fun h1 h2=>hl.1 ⟨h1,fun s hs n hn=>?_⟩⟩
 · rw [<- Bool.not_eq_true];intro hq;have:=(hl.2 hq).1 i j hij hj hw;rw [hc] at this;cases this
 · rw [<- Bool.not_eq_true];intro hq;have:=(hl.2 hq).2 _ (List.getElem_mem hi) _ (List.getElem_mem hm);rw [hf] at this;cases this
 ·obtain ⟨i,hi,rfl⟩:=List.mem_iff_getElem.1 hs;obtain ⟨m,hm,rfl⟩:=List.mem_iff_getElem.1 hn;exact h2 i hi m hm
set_option maxRecDepth 100000 in
set_option maxHeartbeats 16000000 in
theorem ads (v:Value) (p:Pl) (w:World) (h:dh w v p) (hsh:Short p) (hl:(p.au.flatMap (eH p)).length<=2097152) (hnl:p.nodes.length<=4096)
  (JI:∀ n∈p.nodes,cZ n.id) (hp:Sound p) :
  Calls Tryz.prog 173 #[v] w fun e w'=>e=.returned (.bool (rW p))/\Below w.heap.size w w':=by
 have hno:=@Sound.adi p hp;have VK:=fun hok sl hs=>@verdict p hp hok sl hs;have hlast:=adl p hp.nodes;have har:∀ a∈p.au,cZ a.fr/\cZ a.dst:=fun a ha=>by
  obtain ⟨⟨n1,h1,e1⟩,⟨n2,h2,e2⟩⟩:=hp.JG ha;exact ⟨e1 ▸ JI n1 h1,e2 ▸ JI n2 h2⟩
 have VL:∀ x∈p.au.flatMap (eH p),cZ x.arc.fr/\cZ x.arc.dst:=fun x hx=>har _ (hp.mem hx).1;have hseg:=acI v p;have adt:=Lib.hid hseg;have HP:=Lib.hid h;have Hno:=Lib.hid hno;have VN:=Lib.hid VK;have VO:=Lib.hid VL;have Hsh:=Lib.hid hsh;have Hl:=Lib.hid hl;clear hno VK VL hseg hsh hl har hp;generalize rW p=q at *;obtain ⟨_,va,vf,al,rfl,-,⟨An,cn,rfl,hn1,hn2,hR⟩,-,-⟩:=h;unfold maxLen at hn2;have HR:=Lib.hid hR;clear hR;have hnw:∀ k (hk:k<p.nodes.length),cZ p.nodes[k].id:=fun k hk=>JI _ (List.getElem_mem hk);clear JI;have Gi:=Lib.hid hnw;clear hnw;generalize hF:nodeAt p=F at *;generalize hA:p.au.flatMap (eH p)=AL at *;have adu:=Lib.hid hlast;clear hlast hF;have HA:=Lib.hid hA;clear hA;generalize hNl:p.nodes=nl at *;have HNl:=Lib.hid hNl;clear hNl;go_enter Tryz.func173,Tryz.ntmps173;go_wp2_with fail;refine (adt.out _ (HP.out.mono (bA (bR w) _)) Hsh.out Hl.out).mono ?_;rintro e w1 ⟨hb1,hr⟩;have Bw:Below w.heap.size w w1:=bT (bA (bR w) _) hb1;have X1:ah w1 w.heap.size 26 #[.slice An nl.length cn,va,vf]:=(ah.made rfl _ _).keep hb1;clear hb1
 cases hok:p.au.all (jr p)
 case false =>
  rw [hok] at hr;simp only [Bool.false_eq_true,if_false] at hr;subst hr;have hf:=Lib.hid (Hno.out hok);clear hok;obtain ⟨aZ,bf,bg,bK,-,-,-⟩:=X1.aJ;go_wp2_with fail;go_ret;exact ⟨aT hf.out.symm,Bw⟩
 case true =>
 rw [hok] at hr;simp only [if_true] at hr;obtain ⟨sl,vs,rfl,hsl,VP,hown⟩:=hr;rw [HA.out] at hsl;have VQ:sl.length<=2097152:=by have:=congrArg List.length hsl;rw [List.length_map] at this;have:=Hl.out;omega
 have hsz1:=Bw.size;have hs1:=Own.sl (Own.fM hown (b':=w.heap.size) (by simp));obtain ⟨As,cs,rfl,hs1,hs2,-⟩:=hs1;unfold maxLen at hs2;have VR:=Own.lt hown;have fH:=Lib.hid (Own.fM hown (b':=w.heap.size) (by simp));have VT:=Lib.hid VP;have F9:=Lib.hid hsl;have iE:=Lib.hid X1;have VU:=Lib.hid (VN.out hok);clear hsl VP hown hok;have hnb:=fH.out.fD X1 (by decide);have VW:=Lib.hid VR;have VX:=Lib.hid hnb;clear VR hnb
 try clear aZ
 try clear bf
 try clear bg
 try clear bK
 obtain ⟨aZ,bf,bg,bK,-,-,-⟩:=X1.aJ;have AU:=Lib.hid (iI.made w1);have hmm:=@run_makeMap Tryz.prog;go_wp2_with fail;obtain ⟨W2,hW2⟩:∃ W2:World,W2=w1.alloc (.map #[] 0):=⟨_,rfl⟩;have AV:Hid (iI W2 w1.heap.size 0 (fun _=>z0)):=by rw [hW2];exact AU
 have hA2:Below w1.heap.size w1 W2:=by rw [hW2];exact bA (bR w1) _
 have HB2:=Lib.hid hA2;rw [<- hW2];clear hmm hW2 hA2 X1 aZ bf bg bK AU;have hx2:=HB2.out.size;go_loopw [27] (fun u wr=>∃ k:Nat,k<=nl.length/\u=.int .i64 k/\Below w1.heap.size w1 wr/\iI wr w1.heap.size k (AQ (nl.take k))) (fun u _=>nl.length-(intOf u).toNat)
 case atStart => exact ⟨0,Nat.zero_le _,rfl,HB2.out,AV.out⟩
 case round =>
  obtain ⟨k,hk,rfl,hb,hm⟩:=hrel;have Hb:=Lib.hid hb;have Hm:=Lib.hid hm;have FD:=hb.size;clear hb hm;by_cases hlt:k<nl.length
  case pos =>
   obtain ⟨b,o,rfl,hlb,c0,c1,c2⟩:=(HR.out.mono (bT Bw Hb.out)).nd hlt;obtain ⟨w3,hr3,kG,hg3⟩:=iI.upd (Hm.out.keep (bA (bR wr) (.cells #[.int .i64 nl[k].id,.int .i64 nl[k].pt.x,.int .i64 nl[k].pt.y] 45))) (by omega) nl[k].id (Gi.out k hlt) nl[k].pt;have hm4:iI w3 w1.heap.size (k+1) (AQ (nl.take (k+1))):=by rw [adk nl k hlt];exact kG
   have B3:Below w1.heap.size w1 w3:=bG (bA Hb.out _) hg3 (fun g hg=>by injection hg with hg;omega);have Hm4:=Lib.hid hm4;have HB3:=Lib.hid B3;unfold aF at hr3;clear kG hg3 hm4 B3;go_wp2_with fail;go_roundw
   case rel => exact ⟨k+1,by omega,by go_num,HB3.out,Hm4.out⟩
   case measure => simp [intOf];omega
  case neg =>
  have hall:nl.take k=nl:=List.take_of_length_le (by omega);have hm:=Hm.out;rw [hall,adu.out] at hm;have hkm:k<=4096:=by omega
  replace Hm:=Lib.hid hm;clear hm hall;go_wp2_with fail;refine (adq w.heap.size _ sl _ (fH.out.keep Hb.out) (fun s hs=>(VT.out s hs).keep Hb.out) (by omega)).mono ?_;rintro e w4 ⟨rfl,sl',hperm,hsort,hown',hok',hg⟩;have hps:(sl'.map bJ.abs).Perm AL:=by
   have:=hperm.map bJ.abs
   rw [F9.out] at this;exact this
  have hwf:∀ s∈sl',cZ s.ln.arc.fr/\cZ s.ln.arc.dst:=fun s hs=>by
   have:=VO.out s.abs (hps.mem_iff.1 (List.mem_map_of_mem hs))
   exact this
  have hlen':sl'.length=sl.length:=hperm.length_eq;have B4:Below w.heap.size w w4:=bG (bT Bw Hb.out) hg (fun g hg'=>(fH.out.lt g hg').1);have hm4:iI w4 w1.heap.size k F:=Hm.out.kept hg (fun e=>by have:=(VW.out _ e.symm).2;omega);have X1:ah w4 w.heap.size 26 #[.slice An nl.length cn,va,vf]:=(iE.out.keep Hb.out).grown hg (fun e=>VX.out e.symm);have hV:=VU.out sl' hps;have hrow:Row w4 As (sl'.flatMap gU):=by
   obtain ⟨A0,c0,e0,-,-,hr0⟩:=Own.sl hown';injection e0 with e0 _ _;subst e0;exact hr0
  have HV:=Lib.hid hV;have dJ:=Lib.hid X1;have AX:=Lib.hid hm4;have HB4:=Lib.hid B4;have VY:=Lib.hid hok';have VZ:=Lib.hid hrow;have adv:=Lib.hid hsort;have Eb:=Lib.hid hwf;clear hps hperm hsort hown' hok' hg hwf B4 hm4 X1 hV hrow fH VT F9 VO VN VU VW VX Hm AV iE Hb HB2 FD hx2;have ajz:sl'.length<=2097152:=by rw [hlen'];exact VQ
  rw [<- hlen'] at hs1 ⊢;clear hlen' VQ;go_wp2_with fail;obtain ⟨wo,rfl⟩:∃ wo:World,wo=wr:=⟨_,rfl⟩;go_loopw [41] (fun u wr=>∃ i:Nat,i<=sl'.length/\u=.int .i64 i/\Below w4.heap.size w4 wr/\(∀ a b (_:a<b) (hb:b<sl'.length),a<i->iw sl'[b]<=lI (sl'[a]'(by omega))->lJ F (sl'[a]'(by omega)) sl'[b]=true)/\(∀ a (ha:a<sl'.length) m (hm:m<nl.length),a<i->jH sl'[a] nl[m]=true)) (fun u _=>sl'.length-(intOf u).toNat)
  case atStart => exact ⟨0,Nat.zero_le _,rfl,bR w4,fun _ _ _ _ h=>by omega,fun _ _ _ _ h=>by omega⟩
  case round =>
   obtain ⟨i,hi,rfl,hb,V7,FZ⟩:=hrel;have Hb:=Lib.hid hb;have OG:=Lib.hid V7;have DT:=Lib.hid FZ;clear hb V7 FZ;by_cases hlt:i<sl'.length
   case neg =>
    have hf:=Lib.hid (HV.out.yes (fun a b hab hb hw=>OG.out a b hab hb (by omega) hw) (fun a ha m hm=>DT.out a ha m hm (by omega)));go_wp2_with fail;go_ret;exact ⟨aT hf.out.symm,bT HB4.out Hb.out⟩
   obtain ⟨b,o,hAs,hlb,c0,c1⟩:=(VZ.out.mono Hb.out).VJ hlt;obtain ⟨Ac,Cc,wO⟩:∃ Ac Cc,Ac=rJ As cs (i+1) 2/\Cc=cs-(i+1):=⟨_,_,rfl,rfl⟩;have V8:∀ W,(Instr.slice 224 (.slice As sl'.length cs) (some (.int .i64 ((i:Int)+1))) none none).run Tryz.prog W=.ok (.slice Ac (sl'.length-(i+1)) Cc) W:=fun W=>by
    rw [wO.1,wO.2];exact Ut Tryz.underlying224 VH As sl'.length cs (i+1) (by omega) _ (by omega) W
   have Gj:=Lib.hid wO;clear wO;subst hAs;obtain ⟨dl,hdl⟩:∃ dl,dl=sl'.drop (i+1):=⟨_,rfl⟩;have hdn:sl'.length-(i+1)=dl.length:=by rw [hdl,List.length_drop]
   have hdg:∀ j (hj:j<dl.length),∃ h:i+1+j<sl'.length,dl[j]=sl'[i+1+j]:=fun j hj=>by
    subst hdl;rw [List.length_drop] at hj;exact ⟨by omega,by simp⟩
   have V9:Row w4 Ac (dl.flatMap gU):=by
    rw [Gj.out.1,hdl,<- Uu gU 2 Jz];exact VZ.out.cut (by rw [flat_length gU 2 Jz];omega)
   rw [hdn] at V8;have Ec:=Lib.hid hdg;have Wh:=Lib.hid V9;have HDn:=Lib.hid hdn;have hdb:dl.length<=2097152:=by omega
   clear hdl hdg V9 Gj hdn;have hsi:=Lib.hid ((VY.out _ (List.getElem_mem hlt)));have Wi:∀ j,i<j->∀ hj:j<sl'.length,iw sl'[j]<=lI sl'[i]->lJ F sl'[i] sl'[j]=false->q=false:=fun j hij hj=>HV.out.pair i j hij hj;have hnodes:∀ m (hm:m<nl.length),jH sl'[i] nl[m]=false->q=false:=fun m hm=>HV.out.node i hlt m hm;have hdone:(∀ j,i<j->∀ hj:j<sl'.length,iw sl'[j]<=lI sl'[i]->lJ F sl'[i] sl'[j]=true)->(∀ a b (_:a<b) (hb:b<sl'.length),a<i+1->iw sl'[b]<=lI (sl'[a]'(by omega))->lJ F (sl'[a]'(by omega)) sl'[b]=true):=fun h a b hab hb ha=>by
    by_cases e:a<i
    · exact OG.out a b hab hb e
    ·have:a=i:=by omega
     subst this;exact h b hab hb
   have Wj:(∀ m (hm:m<nl.length),jH sl'[i] nl[m]=true)->(∀ a (ha:a<sl'.length) m (hm:m<nl.length),a<i+1->jH sl'[a] nl[m]=true):=fun h a ha m hm hai=>by
    by_cases e:a<i
    · exact DT.out a ha m hm e
    ·have:a=i:=by omega
     subst this;exact h m hm
   have Wn:=Eb.out _ (List.getElem_mem hlt);generalize Wp:sl'[i]=si at *;have JJ:=Lib.hid Wp;have Wq:=Lib.hid Wi;have JK:=Lib.hid hnodes;have Ws:=Lib.hid hdone;have adw:=Lib.hid Wj;have Wu:=Lib.hid Wn;clear Wp Wi hnodes hdone Wj OG DT Wn;have JB:IntKind.i64.wrap ((i:Int)+1)=(i:Int)+1:=IntWalk.i64_in _ (by omega);have r3:0<=(i:Int)+1:=by omega
   have r4:(i:Int)+1<=sl'.length:=by omega
   have r5:((i:Int)+1).toNat=i+1:=by omega
   go_upto_block 4 with fail;obtain ⟨W5,qF⟩:∃ W5:World,W5=wr.alloc (.cells #[.pointer (some ⟨si.ln.g,0,none⟩),.int .i64 si.k] 230):=⟨_,rfl⟩;have cO:=Lib.hid (show Below w4.heap.size w4 W5 by rw [qF];exact bA Hb.out _);have X9:ah W5 wr.heap.size 230 #[.pointer (some ⟨si.ln.g,0,none⟩),.int .i64 si.k]:=by rw [qF];exact ah.made rfl _ _
   have mF:=Lib.hid X9;rw [<- qF];clear qF X9 V8 JB r3 r4 r5 c0 c1 hlb;obtain ⟨wp,rfl⟩:∃ wp:World,wp=wr:=⟨_,rfl⟩;have TW:∀ s:bJ,∀ W,eU W s->Calls Tryz.prog 228 #[fZ s] W _:=fun s W h=>Ou s W h;have TE:∀ s:bJ,∀ W,eU W s->Calls Tryz.prog 229 #[fZ s] W _:=fun s W h=>acB s W h;have TC:∀ s t:bJ,∀ W,eU W s->eU W t->iI W w1.heap.size k F->cZ s.ln.arc.fr->cZ s.ln.arc.dst->Calls Tryz.prog 230 #[fZ s,fZ t,.map (some w1.heap.size)] W _:=fun s t W h1 h2 h3 h4 h5=>acZ F w1.heap.size k s t W h1 h2 h3 h4 h5;unfold fZ at TW TE TC;have Wv:=Lib.hid TW;have Wx:=Lib.hid TE;have Wy:=Lib.hid TC;clear TW TE TC;go_cut [51] (fun u wx=>Below W5.heap.size W5 wx/\∀ j,i<j->∀ hj:j<sl'.length,iw sl'[j]<=lI si->lJ F si sl'[j]=true)
   case first =>
    go_wp2_with fail;go_loopw [51] (fun u wx=>∃ j:Nat,j<=dl.length/\u=.int .i64 j/\Below W5.heap.size W5 wx/\∀ m (hm:m<dl.length),m<j->iw dl[m]<=lI si->lJ F si dl[m]=true) (fun u _=>dl.length-(intOf u).toNat)
    case atStart => exact ⟨0,Nat.zero_le _,rfl,bR W5,fun _ _ h=>by omega⟩
    case round =>
     obtain ⟨j,hj,rfl,hbx,hnx⟩:=hrel;have gy:=Lib.hid hbx;have rZ:=Lib.hid hnx;have hxs:=hbx.size;have X9:=mF.out.keep hbx;clear hbx hnx;by_cases hlj:j<dl.length
     case neg =>
      have hf:=Lib.hid (show ∀ j,i<j->∀ hj:j<sl'.length,iw sl'[j]<=lI si->lJ F si sl'[j]=true from fun m him hm hw=>by
       have hd:=HDn.out;obtain ⟨h1,h2⟩:=Ec.out (m-(i+1)) (by omega);have e:i+1+(m-(i+1))=m:=by omega
       simp only [e] at h2;have:=rZ.out (m-(i+1)) (by omega) (by omega)
       rw [h2] at this;exact this hw)
      go_wp2_with fail;go_meet
      case rel => exact ⟨gy.out,hf.out⟩
     obtain ⟨b',o',rfl,Ah,d0,d1⟩:=(Wh.out.mono (bT cO.out gy.out)).VJ hlj;obtain ⟨hjs,hje⟩:=Ec.out j hlj;have htj:=Lib.hid (VY.out _ (List.getElem_mem hjs));rw [<- hje] at htj;have WA:=Lib.hid hje;clear hje;go_upto_region 17 with fail;obtain ⟨W7,JL⟩:∃ W7:World,W7=wr.alloc (.cells #[.pointer (some ⟨dl[j].ln.g,0,none⟩),.int .i64 dl[j].k] 230):=⟨_,rfl⟩;have JM:Below wr.heap.size wr W7:=by rw [JL];exact bA (bR wr) _
     have iL:ah W7 wr.heap.size 230 #[.pointer (some ⟨dl[j].ln.g,0,none⟩),.int .i64 dl[j].k]:=by rw [JL];exact ah.made rfl _ _
     rw [<- JL];replace X9:=X9.keep JM;have B7:=Lib.hid (bT cO.out (bT gy.out JM));have B7':=Lib.hid (bT gy.out JM);clear JL JM d0 d1 Ah;obtain ⟨iW,iY,iZ,-,-⟩:=X9.aO;obtain ⟨kU,kV,mG,-,-⟩:=iL.aO;refine dN (Since W7) (.take 0 1 (.take 2 5 (.call 1 7 (.call 3 15 (.take 4 31 (.done)))))) (by kernel_rfl) (bD (bR _)) (by kernel_rfl) (by kernel_rfl) (Nat.le_of_ble_eq_true (by kernel_rfl)) ?_;intro dO QR aj aA hS
     iterate 2
      apply aH;exact aj;exact rfl;exact hS;exact rfl
      · intro _ hqc;go_simp;try rfl
      try simp only [pu]
     refine aS (i:=1) (aB aj rfl) (fun K hK=>?_);have ak:=Lib.hid hS;clear hS;refine aG (aN rfl) ?_;go_simp;refine (Wv.out _ _ (htj.out.keep (bT B7.out ak.out))).mono ?_;rintro e bY ⟨rfl,dB,-⟩;have hS:Since W7 bY:=bT (w:=W7) ak.out dB;clear ak;refine hK.out _ _ hS (fun _=>?_);clear hK K
     try simp only [pu]
     refine aS (i:=3) (aB aj rfl) (fun K hK=>?_);have ak:=Lib.hid hS;clear hS;refine aG (aN rfl) ?_;go_simp;refine (Wx.out _ _ (hsi.out.keep (bT B7.out ak.out))).mono ?_;rintro e wr2 ⟨rfl,fG,-⟩;have hS:Since W7 wr2:=bT (w:=W7) ak.out fG;clear ak;refine hK.out _ _ hS (fun _=>?_);clear hK K
     try simp only [pu]
     apply aH;exact aj;exact rfl;exact hS;exact rfl
     · intro _ hqc;go_simp;try rfl
     try simp only [pu]
     refine dF ?_;refine aA.down _ _ ?_;have hB:Below W7.heap.size W7 wr2:=hS;clear hS aA aj;have B8:=Lib.hid (bT B7.out hB);have WB:=Lib.hid (bT B7'.out hB);replace X9:=X9.keep hB;replace iL:=iL.keep hB;clear hB
     try clear iW
     try clear iY
     try clear iZ
     obtain ⟨iW,iY,iZ,-,-⟩:=X9.aO
     try clear kU
     try clear kV
     try clear mG
     obtain ⟨kU,kV,mG,-,-⟩:=iL.aO;by_cases hw:lI si<iw dl[j]
     ·have hf:=Lib.hid (show ∀ j,i<j->∀ hj:j<sl'.length,iw sl'[j]<=lI si->lJ F si sl'[j]=true from fun m him hm hwm=>by
       by_cases e:m<i+1+j
       ·have hd:=HDn.out;obtain ⟨h1,h2⟩:=Ec.out (m-(i+1)) (by omega);have e:i+1+(m-(i+1))=m:=by omega
        simp only [e] at h2;have:=rZ.out (m-(i+1)) (by omega) (by omega)
        rw [h2] at this;exact this hwm
       ·have hs:iw dl[j]<=iw sl'[m]:=by
         rw [WA.out];by_cases e':m=i+1+j
         · subst e';exact Int.le_refl _
         · exact adv.out (i+1+j) m (by omega) hm
        omega)
      go_wp2_with fail;go_meet
      case rel => exact ⟨WB.out,hf.out⟩
     ·have hw':=Lib.hid hw;go_wp2_with fail;refine (Wy.out _ _ _ (hsi.out.keep B8.out) (htj.out.keep B8.out) (AX.out.keep B8.out) Wu.out.1 Wu.out.2).mono ?_;rintro e w9 ⟨rfl,su⟩;have B9:=Lib.hid (bT WB.out su);clear su X9 iL iW iY iZ kU kV mG hw
      cases hc:lJ F si dl[j]
      case false =>
       have hf:=Lib.hid (show false=q by
        have hq:=Wq.out (i+1+j) (by omega) hjs;rw [<- WA.out] at hq;exact (hq (by have:=hw'.out;omega) hc).symm)
       clear hc;go_wp2_with fail;go_ret;exact ⟨aT hf.out,bT HB4.out (bT cO.out B9.out)⟩
      case true =>
       have hc':=Lib.hid hc;clear hc;go_wp2_with fail;go_roundw
       case rel => exact ⟨j+1,by omega,by go_num,B9.out,all_succ (p:=fun t=>iw t<=lI si->lJ F si t=true) rZ.out hlj (fun _=>hc'.out)⟩
       case measure => simp [intOf];omega
   case rest =>
   obtain ⟨hbc,WC⟩:=hcut;have HPd:=Lib.hid (Ws.out WC);have HBc:=Lib.hid (bT cO.out hbc);have X9:=mF.out.keep hbc;replace mF:=Lib.hid X9;have X1:=dJ.out.keep HBc.out;have HY:=Lib.hid (hsi.out.keep HBc.out);clear hbc WC Wq Ws Ec Wh HDn X9 Wv Wx Wy hdb;have TS:∀ W,eU W si->Calls Tryz.prog 231 #[fZ si] W _:=fun W hW=>F7 si W hW;have TO:∀ p q r:Pt,∀ W,Calls Tryz.prog 28 #[aF p,aF q,aF r] W _:=fun p q r W=>zY p q r W;have TF:∀ W,Calls Tryz.prog 232 #[fZ si] W _:=fun W=>Ve si W;have TL:∀ W,eU W si->Calls Tryz.prog 233 #[fZ si] W _:=fun W hW=>Vf si W hW;unfold fZ at TS TF TL;unfold aF at TS TO;have HTS:=Lib.hid TS;have mJ:=Lib.hid TO;have nD:=Lib.hid TF;have oz:=Lib.hid TL;clear TS TO TF TL
   try clear aZ
   try clear bf
   try clear bg
   try clear bK
   obtain ⟨aZ,bf,bg,bK,-,-,-⟩:=X1.aJ;go_wp2_with fail;clear X1 aZ bf bg bK;go_loopw [69] (fun u wx=>∃ m:Nat,m<=nl.length/\u=.int .i64 m/\Below wc.heap.size wc wx/\∀ n (hn:n<nl.length),n<m->jH si nl[n]=true) (fun u _=>nl.length-(intOf u).toNat)
   case atStart => exact ⟨0,Nat.zero_le _,rfl,bR wc,fun _ _ h=>by omega⟩
   case round =>
    obtain ⟨m,hm,rfl,hbx,hnx⟩:=hrel;have gy:=Lib.hid hbx;have rZ:=Lib.hid hnx;have X9:=mF.out.keep hbx;clear hbx hnx;by_cases hlm:m<nl.length
    case neg =>
     have hf:=Lib.hid (adw.out (fun n hn=>rZ.out n hn (by omega)));clear X9;go_wp2_with fail;go_roundw
     case rel => exact ⟨i+1,by omega,by go_num,bT HBc.out gy.out,HPd.out,hf.out⟩
     case measure => simp [intOf];omega
    obtain ⟨b,o,rfl,hlb,c0,c1,c2⟩:=(HR.out.mono (bT HB4.out (bT HBc.out gy.out))).nd hlm
    try clear iW
    try clear iY
    try clear iZ
    obtain ⟨iW,iY,iZ,-,-⟩:=X9.aO;go_wp2_with fail;refine (HTS.out _ (HY.out.keep (bA gy.out _))).mono ?_;rintro e w10 ⟨rfl,AY,-⟩;have hA10:Below wr.heap.size wr w10:=bT (bA (bR wr) _) AY;have OH:ah w10 wr.heap.size 45 #[.int .i64 nl[m].id,.int .i64 nl[m].pt.x,.int .i64 nl[m].pt.y]:=(ah.made rfl _ _).keep AY;replace X9:=X9.keep hA10;replace gy:=Lib.hid (bT gy.out hA10);clear AY hA10 c0 c1 c2 hlb iW iY iZ;go_upto_region 25 with fail;obtain ⟨bZ,Gl⟩:∃ bZ:World,bZ=(w10.alloc (.cells #[.int .i64 si.fst.x,.int .i64 si.fst.y] 39)).alloc (.cells #[.int .i64 si.snd.x,.int .i64 si.snd.y] 39):=⟨_,rfl⟩;have JO:Below w10.heap.size w10 bZ:=by rw [Gl];exact bA (bA (bR w10) _) _
    have qH:ah bZ w10.heap.size 39 #[.int .i64 si.fst.x,.int .i64 si.fst.y]:=by rw [Gl];exact (ah.made rfl _ _).alloc _
    have X15:ah bZ (w10.heap.size+1) 39 #[.int .i64 si.snd.x,.int .i64 si.snd.y]:=by rw [Gl];exact ah.made (by simp) _ _
    rw [<- Gl];replace X9:=X9.keep JO;replace OH:=OH.keep JO;replace gy:=Lib.hid (bT gy.out JO);have Y:=(HY.out.keep gy.out).line;clear Gl JO
    try clear iW
    try clear iY
    try clear iZ
    obtain ⟨iW,iY,iZ,-,-⟩:=X9.aO;obtain ⟨ajA,ajB,ajC,ajD,-,-,-⟩:=OH.aJ;obtain ⟨uh,uj,um,-,-⟩:=qH.aO;obtain ⟨ajE,ajF,ajG,-,-⟩:=X15.aO;obtain ⟨Yl,Ya,Yb,Yc,Yd,Ye,Yf,Yg,-,-,-,-,-,-,-⟩:=Y.yI;have hfe:=Lib.hid (free_eq si nl[m]);have TF:=nD.out;have TL:=oz.out;have TO:=mJ.out si.fst si.snd nl[m].pt
    cases e1:dV si.fst si.snd nl[m].pt
    case false =>
     rw [e1] at TO;have hf:=Lib.hid (show jH si nl[m]=true by rw [hfe.out];simp only [e1];rfl);have mJ:=Lib.hid TO;have nD:=Lib.hid TF;have oz:=Lib.hid TL;clear TO TF TL hfe e1;refine dN (Since bZ) (.run 4 0 0 (.call 4 31 (.run 32 5 31 (.done)))) (by kernel_rfl) (bD (bR _)) (by kernel_rfl) (by kernel_rfl) (Nat.le_of_ble_eq_true (by kernel_rfl)) ?_;intro dO QR aj aA hS
     iterate 4
      apply aH;exact aj;exact rfl;exact hS;exact rfl
      · intro _ hqc;go_simp;try rfl
      try simp only [pu]
     refine aS (i:=4) (aB aj rfl) (fun K hK=>?_);have ak:=Lib.hid hS;clear hS;refine aG (aN rfl) ?_;go_simp;refine (mJ.out _).mono ?_;rintro e bY ⟨rfl,dB⟩;have hS:Since bZ bY:=bT (w:=bZ) ak.out dB;clear ak;refine hK.out _ _ hS (fun _=>?_);clear hK K
     try simp only [pu]
     apply aH;exact aj;exact rfl;exact hS;exact rfl
     · intro _ hqc;go_simp;try rfl
     try simp only [pu]
     iterate 14
      refine iH aj rfl hS rfl rfl rfl rfl rfl ?_
      try simp only [pu]
     iterate 2
      apply aH;exact aj;exact rfl;exact hS;exact rfl
      · intro _ hqc;go_simp;try rfl
      try simp only [pu]
     iterate 14
      refine iH aj rfl hS rfl rfl rfl rfl rfl ?_
      try simp only [pu]
     apply aH;exact aj;exact rfl;exact hS;exact rfl
     · intro _ hqc;go_simp;try rfl
     try simp only [pu]
     refine dF ?_;refine aA.down _ _ ?_;have hB:Below bZ.heap.size bZ bY:=hS;clear hS aA aj;go_wp2_with fail;go_roundw
     case rel => exact ⟨m+1,by omega,by go_num,bT gy.out hB,all_succ (p:=fun n=>jH si n=true) rZ.out hlm hf.out⟩
     case measure => simp [intOf];omega
    case true =>
     rw [e1] at TO
     cases e2:((si.k:Int) == 0)
     case false =>
      rw [e2] at TF
      cases e4:((si.k:Int) == (si.ln.path.length:Int)-2)
      case false =>
       rw [e4] at TL;have hf:=Lib.hid (show jH si nl[m]=false by rw [hfe.out];simp only [e1,e2,e4];rfl);have mJ:=Lib.hid TO;have nD:=Lib.hid TF;have oz:=Lib.hid TL;clear TO TF TL hfe e1 e2 e4;refine dN (Since bZ) (.run 4 0 0 (.call 4 31 (.take 5 63 (.take 6 127 (.call 7 255 (.run 15 8 255 (.call 23 16777215 (.run 13 24 16777215 (.done))))))))) (by kernel_rfl) (bD (bR _)) (by kernel_rfl) (by kernel_rfl) (Nat.le_of_ble_eq_true (by kernel_rfl)) ?_;intro dO QR aj aA hS
       iterate 4
        apply aH;exact aj;exact rfl;exact hS;exact rfl
        · intro _ hqc;go_simp;try rfl
        try simp only [pu]
       refine aS (i:=4) (aB aj rfl) (fun K hK=>?_);have ak:=Lib.hid hS;clear hS;refine aG (aN rfl) ?_;go_simp;refine (mJ.out _).mono ?_;rintro e bY ⟨rfl,dB⟩;have hS:Since bZ bY:=bT (w:=bZ) ak.out dB;clear ak;refine hK.out _ _ hS (fun _=>?_);clear hK K
       try simp only [pu]
       apply aH;exact aj;exact rfl;exact hS;exact rfl
       · intro _ hqc;go_simp;try rfl
       try simp only [pu]
       apply dw;exact aj;exact rfl;exact hS;iterate 4 exact rfl
       · intro _ hqc;go_simp;try rfl
       try simp only [pu]
       refine aS (i:=7) (aB aj rfl) (fun K hK=>?_);have ak:=Lib.hid hS;clear hS;refine aG (ig rfl (aB aj rfl) rfl rfl) ?_;go_simp;refine (nD.out _).mono ?_;rintro e wr2 ⟨rfl,fG⟩;have hS:Since bZ wr2:=bT (w:=bZ) ak.out fG;clear ak;refine hK.out _ _ hS (fun _=>?_);clear hK K
       try simp only [pu]
       apply dw;exact aj;exact rfl;exact hS;iterate 4 exact rfl
       · intro _ hqc;go_simp;try rfl
       try simp only [pu]
       iterate 9
        refine iH aj rfl hS rfl rfl rfl rfl rfl ?_
        try simp only [pu]
       iterate 2
        apply dw;exact aj;exact rfl;exact hS;iterate 4 exact rfl
        · intro _ hqc;go_simp;try rfl
        try simp only [pu]
       iterate 2
        apply aH;exact aj;exact rfl;exact hS;exact rfl
        · intro _ hqc;go_simp;try rfl
        try simp only [pu]
       apply dw;exact aj;exact rfl;exact hS;iterate 4 exact rfl
       · intro _ hqc;go_simp;try rfl
       try simp only [pu]
       refine aS (i:=23) (aB aj rfl) (fun K hK=>?_);have ak:=Lib.hid hS;clear hS;refine aG (ig rfl (aB aj rfl) rfl rfl) ?_;go_simp;refine (oz.out _ (HY.out.keep (bT gy.out ak.out))).mono ?_;rintro e wr3 ⟨rfl,jG⟩;have hS:Since bZ wr3:=bT (w:=bZ) ak.out jG;clear ak;refine hK.out _ _ hS (fun _=>?_);clear hK K
       try simp only [pu]
       apply dw;exact aj;exact rfl;exact hS;iterate 4 exact rfl
       · intro _ hqc;go_simp;try rfl
       try simp only [pu]
       iterate 9
        refine iH aj rfl hS rfl rfl rfl rfl rfl ?_
        try simp only [pu]
       iterate 2
        apply dw;exact aj;exact rfl;exact hS;iterate 4 exact rfl
        · intro _ hqc;go_simp;try rfl
        try simp only [pu]
       apply aH;exact aj;exact rfl;exact hS;exact rfl
       · intro _ hqc;go_simp;try rfl
       try simp only [pu]
       refine dF ?_;refine aA.down _ _ ?_;have hB:Below bZ.heap.size bZ wr3:=hS;clear hS aA aj;have hr:=Lib.hid (JK.out m hlm hf.out);go_wp2_with fail;go_ret;exact ⟨aT hr.out.symm,bT HB4.out (bT HBc.out (bT gy.out hB))⟩
      case true =>
       rw [e4] at TL
       cases e5:(si.ln.arc.dst == nl[m].id)
       case false =>
        have hf:=Lib.hid (show jH si nl[m]=false by rw [hfe.out];simp only [e1,e2,e4,e5];rfl);have mJ:=Lib.hid TO;have nD:=Lib.hid TF;have oz:=Lib.hid TL;clear TO TF TL hfe e1 e2 e4;refine dN (Since bZ) (.run 4 0 0 (.call 4 31 (.take 5 63 (.take 6 127 (.call 7 255 (.run 15 8 255 (.call 23 16777215 (.run 13 24 16777215 (.done))))))))) (by kernel_rfl) (bD (bR _)) (by kernel_rfl) (by kernel_rfl) (Nat.le_of_ble_eq_true (by kernel_rfl)) ?_;intro dO QR aj aA hS
        iterate 4
         apply aH;exact aj;exact rfl;exact hS;exact rfl
         · intro _ hqc;go_simp;try rfl
         try simp only [pu]
        refine aS (i:=4) (aB aj rfl) (fun K hK=>?_);have ak:=Lib.hid hS;clear hS;refine aG (aN rfl) ?_;go_simp;refine (mJ.out _).mono ?_;rintro e bY ⟨rfl,dB⟩;have hS:Since bZ bY:=bT (w:=bZ) ak.out dB;clear ak;refine hK.out _ _ hS (fun _=>?_);clear hK K
        try simp only [pu]
        apply aH;exact aj;exact rfl;exact hS;exact rfl
        · intro _ hqc;go_simp;try rfl
        try simp only [pu]
        apply dw;exact aj;exact rfl;exact hS;iterate 4 exact rfl
        · intro _ hqc;go_simp;try rfl
        try simp only [pu]
        refine aS (i:=7) (aB aj rfl) (fun K hK=>?_);have ak:=Lib.hid hS;clear hS;refine aG (ig rfl (aB aj rfl) rfl rfl) ?_;go_simp;refine (nD.out _).mono ?_;rintro e wr2 ⟨rfl,fG⟩;have hS:Since bZ wr2:=bT (w:=bZ) ak.out fG;clear ak;refine hK.out _ _ hS (fun _=>?_);clear hK K
        try simp only [pu]
        apply dw;exact aj;exact rfl;exact hS;iterate 4 exact rfl
        · intro _ hqc;go_simp;try rfl
        try simp only [pu]
        iterate 9
         refine iH aj rfl hS rfl rfl rfl rfl rfl ?_
         try simp only [pu]
        iterate 2
         apply dw;exact aj;exact rfl;exact hS;iterate 4 exact rfl
         · intro _ hqc;go_simp;try rfl
         try simp only [pu]
        iterate 2
         apply aH;exact aj;exact rfl;exact hS;exact rfl
         · intro _ hqc;go_simp;try rfl
         try simp only [pu]
        apply dw;exact aj;exact rfl;exact hS;iterate 4 exact rfl
        · intro _ hqc;go_simp;try rfl
        try simp only [pu]
        refine aS (i:=23) (aB aj rfl) (fun K hK=>?_);have ak:=Lib.hid hS;clear hS;refine aG (ig rfl (aB aj rfl) rfl rfl) ?_;go_simp;refine (oz.out _ (HY.out.keep (bT gy.out ak.out))).mono ?_;rintro e wr3 ⟨rfl,jG⟩;have hS:Since bZ wr3:=bT (w:=bZ) ak.out jG;clear ak;refine hK.out _ _ hS (fun _=>?_);clear hK K
        try simp only [pu]
        iterate 12
         apply dw;exact aj;exact rfl;exact hS;iterate 4 exact rfl
         · intro _ hqc;go_simp;try rfl
         try simp only [pu]
        apply aH;exact aj;exact rfl;exact hS;exact rfl
        · intro _ hqc;go_simp;try rfl
        try simp only [pu]
        refine dF ?_;refine aA.down _ _ ?_;have hB:Below bZ.heap.size bZ wr3:=hS;clear hS aA aj;have hr:=Lib.hid (JK.out m hlm hf.out);go_wp2_with fail;go_ret;exact ⟨aT hr.out.symm,bT HB4.out (bT HBc.out (bT gy.out hB))⟩
       case true =>
        have hf:=Lib.hid (show jH si nl[m]=true by rw [hfe.out];simp only [e1,e2,e4,e5];rfl);have mJ:=Lib.hid TO;have nD:=Lib.hid TF;have oz:=Lib.hid TL;clear TO TF TL hfe e1 e2 e4;refine dN (Since bZ) (.run 4 0 0 (.call 4 31 (.take 5 63 (.take 6 127 (.call 7 255 (.run 15 8 255 (.call 23 16777215 (.run 13 24 16777215 (.done))))))))) (by kernel_rfl) (bD (bR _)) (by kernel_rfl) (by kernel_rfl) (Nat.le_of_ble_eq_true (by kernel_rfl)) ?_;intro dO QR aj aA hS
        iterate 4
         apply aH;exact aj;exact rfl;exact hS;exact rfl
         · intro _ hqc;go_simp;try rfl
         try simp only [pu]
        refine aS (i:=4) (aB aj rfl) (fun K hK=>?_);have ak:=Lib.hid hS;clear hS;refine aG (aN rfl) ?_;go_simp;refine (mJ.out _).mono ?_;rintro e bY ⟨rfl,dB⟩;have hS:Since bZ bY:=bT (w:=bZ) ak.out dB;clear ak;refine hK.out _ _ hS (fun _=>?_);clear hK K
        try simp only [pu]
        apply aH;exact aj;exact rfl;exact hS;exact rfl
        · intro _ hqc;go_simp;try rfl
        try simp only [pu]
        apply dw;exact aj;exact rfl;exact hS;iterate 4 exact rfl
        · intro _ hqc;go_simp;try rfl
        try simp only [pu]
        refine aS (i:=7) (aB aj rfl) (fun K hK=>?_);have ak:=Lib.hid hS;clear hS;refine aG (ig rfl (aB aj rfl) rfl rfl) ?_;go_simp;refine (nD.out _).mono ?_;rintro e wr2 ⟨rfl,fG⟩;have hS:Since bZ wr2:=bT (w:=bZ) ak.out fG;clear ak;refine hK.out _ _ hS (fun _=>?_);clear hK K
        try simp only [pu]
        apply dw;exact aj;exact rfl;exact hS;iterate 4 exact rfl
        · intro _ hqc;go_simp;try rfl
        try simp only [pu]
        iterate 9
         refine iH aj rfl hS rfl rfl rfl rfl rfl ?_
         try simp only [pu]
        iterate 2
         apply dw;exact aj;exact rfl;exact hS;iterate 4 exact rfl
         · intro _ hqc;go_simp;try rfl
         try simp only [pu]
        iterate 2
         apply aH;exact aj;exact rfl;exact hS;exact rfl
         · intro _ hqc;go_simp;try rfl
         try simp only [pu]
        apply dw;exact aj;exact rfl;exact hS;iterate 4 exact rfl
        · intro _ hqc;go_simp;try rfl
        try simp only [pu]
        refine aS (i:=23) (aB aj rfl) (fun K hK=>?_);have ak:=Lib.hid hS;clear hS;refine aG (ig rfl (aB aj rfl) rfl rfl) ?_;go_simp;refine (oz.out _ (HY.out.keep (bT gy.out ak.out))).mono ?_;rintro e wr3 ⟨rfl,jG⟩;have hS:Since bZ wr3:=bT (w:=bZ) ak.out jG;clear ak;refine hK.out _ _ hS (fun _=>?_);clear hK K
        try simp only [pu]
        iterate 12
         apply dw;exact aj;exact rfl;exact hS;iterate 4 exact rfl
         · intro _ hqc;go_simp;try rfl
         try simp only [pu]
        apply aH;exact aj;exact rfl;exact hS;exact rfl
        · intro _ hqc;go_simp;try rfl
        try simp only [pu]
        refine dF ?_;refine aA.down _ _ ?_;have hB:Below bZ.heap.size bZ wr3:=hS;clear hS aA aj;go_wp2_with fail;go_roundw
        case rel => exact ⟨m+1,by omega,by go_num,bT gy.out hB,all_succ (p:=fun n=>jH si n=true) rZ.out hlm hf.out⟩
        case measure => simp [intOf];omega
     case true =>
      rw [e2] at TF
      cases e3:(si.ln.arc.fr == nl[m].id)
      case false =>
       cases e4:((si.k:Int) == (si.ln.path.length:Int)-2)
       case false =>
        rw [e4] at TL;have hf:=Lib.hid (show jH si nl[m]=false by rw [hfe.out];simp only [e1,e2,e3,e4];rfl);have mJ:=Lib.hid TO;have nD:=Lib.hid TF;have oz:=Lib.hid TL;clear TO TF TL hfe e1 e2 e4;refine dN (Since bZ) (.run 4 0 0 (.call 4 31 (.take 5 63 (.take 6 127 (.call 7 255 (.run 15 8 255 (.call 23 16777215 (.run 13 24 16777215 (.done))))))))) (by kernel_rfl) (bD (bR _)) (by kernel_rfl) (by kernel_rfl) (Nat.le_of_ble_eq_true (by kernel_rfl)) ?_;intro dO QR aj aA hS
        iterate 4
         apply aH;exact aj;exact rfl;exact hS;exact rfl
         · intro _ hqc;go_simp;try rfl
         try simp only [pu]
        refine aS (i:=4) (aB aj rfl) (fun K hK=>?_);have ak:=Lib.hid hS;clear hS;refine aG (aN rfl) ?_;go_simp;refine (mJ.out _).mono ?_;rintro e bY ⟨rfl,dB⟩;have hS:Since bZ bY:=bT (w:=bZ) ak.out dB;clear ak;refine hK.out _ _ hS (fun _=>?_);clear hK K
        try simp only [pu]
        apply aH;exact aj;exact rfl;exact hS;exact rfl
        · intro _ hqc;go_simp;try rfl
        try simp only [pu]
        apply dw;exact aj;exact rfl;exact hS;iterate 4 exact rfl
        · intro _ hqc;go_simp;try rfl
        try simp only [pu]
        refine aS (i:=7) (aB aj rfl) (fun K hK=>?_);have ak:=Lib.hid hS;clear hS;refine aG (ig rfl (aB aj rfl) rfl rfl) ?_;go_simp;refine (nD.out _).mono ?_;rintro e wr2 ⟨rfl,fG⟩;have hS:Since bZ wr2:=bT (w:=bZ) ak.out fG;clear ak;refine hK.out _ _ hS (fun _=>?_);clear hK K
        try simp only [pu]
        iterate 12
         apply dw;exact aj;exact rfl;exact hS;iterate 4 exact rfl
         · intro _ hqc;go_simp;try rfl
         try simp only [pu]
        iterate 2
         apply aH;exact aj;exact rfl;exact hS;exact rfl
         · intro _ hqc;go_simp;try rfl
         try simp only [pu]
        apply dw;exact aj;exact rfl;exact hS;iterate 4 exact rfl
        · intro _ hqc;go_simp;try rfl
        try simp only [pu]
        refine aS (i:=23) (aB aj rfl) (fun K hK=>?_);have ak:=Lib.hid hS;clear hS;refine aG (ig rfl (aB aj rfl) rfl rfl) ?_;go_simp;refine (oz.out _ (HY.out.keep (bT gy.out ak.out))).mono ?_;rintro e wr3 ⟨rfl,jG⟩;have hS:Since bZ wr3:=bT (w:=bZ) ak.out jG;clear ak;refine hK.out _ _ hS (fun _=>?_);clear hK K
        try simp only [pu]
        apply dw;exact aj;exact rfl;exact hS;iterate 4 exact rfl
        · intro _ hqc;go_simp;try rfl
        try simp only [pu]
        iterate 9
         refine iH aj rfl hS rfl rfl rfl rfl rfl ?_
         try simp only [pu]
        iterate 2
         apply dw;exact aj;exact rfl;exact hS;iterate 4 exact rfl
         · intro _ hqc;go_simp;try rfl
         try simp only [pu]
        apply aH;exact aj;exact rfl;exact hS;exact rfl
        · intro _ hqc;go_simp;try rfl
        try simp only [pu]
        refine dF ?_;refine aA.down _ _ ?_;have hB:Below bZ.heap.size bZ wr3:=hS;clear hS aA aj;have hr:=Lib.hid (JK.out m hlm hf.out);go_wp2_with fail;go_ret;exact ⟨aT hr.out.symm,bT HB4.out (bT HBc.out (bT gy.out hB))⟩
       case true =>
        rw [e4] at TL
        cases e5:(si.ln.arc.dst == nl[m].id)
        case false =>
         have hf:=Lib.hid (show jH si nl[m]=false by rw [hfe.out];simp only [e1,e2,e3,e4,e5];rfl);have mJ:=Lib.hid TO;have nD:=Lib.hid TF;have oz:=Lib.hid TL;clear TO TF TL hfe e1 e2 e4;refine dN (Since bZ) (.run 4 0 0 (.call 4 31 (.take 5 63 (.take 6 127 (.call 7 255 (.run 15 8 255 (.call 23 16777215 (.run 13 24 16777215 (.done))))))))) (by kernel_rfl) (bD (bR _)) (by kernel_rfl) (by kernel_rfl) (Nat.le_of_ble_eq_true (by kernel_rfl)) ?_;intro dO QR aj aA hS
         iterate 4
          apply aH;exact aj;exact rfl;exact hS;exact rfl
          · intro _ hqc;go_simp;try rfl
          try simp only [pu]
         refine aS (i:=4) (aB aj rfl) (fun K hK=>?_);have ak:=Lib.hid hS;clear hS;refine aG (aN rfl) ?_;go_simp;refine (mJ.out _).mono ?_;rintro e bY ⟨rfl,dB⟩;have hS:Since bZ bY:=bT (w:=bZ) ak.out dB;clear ak;refine hK.out _ _ hS (fun _=>?_);clear hK K
         try simp only [pu]
         apply aH;exact aj;exact rfl;exact hS;exact rfl
         · intro _ hqc;go_simp;try rfl
         try simp only [pu]
         apply dw;exact aj;exact rfl;exact hS;iterate 4 exact rfl
         · intro _ hqc;go_simp;try rfl
         try simp only [pu]
         refine aS (i:=7) (aB aj rfl) (fun K hK=>?_);have ak:=Lib.hid hS;clear hS;refine aG (ig rfl (aB aj rfl) rfl rfl) ?_;go_simp;refine (nD.out _).mono ?_;rintro e wr2 ⟨rfl,fG⟩;have hS:Since bZ wr2:=bT (w:=bZ) ak.out fG;clear ak;refine hK.out _ _ hS (fun _=>?_);clear hK K
         try simp only [pu]
         iterate 12
          apply dw;exact aj;exact rfl;exact hS;iterate 4 exact rfl
          · intro _ hqc;go_simp;try rfl
          try simp only [pu]
         iterate 2
          apply aH;exact aj;exact rfl;exact hS;exact rfl
          · intro _ hqc;go_simp;try rfl
          try simp only [pu]
         apply dw;exact aj;exact rfl;exact hS;iterate 4 exact rfl
         · intro _ hqc;go_simp;try rfl
         try simp only [pu]
         refine aS (i:=23) (aB aj rfl) (fun K hK=>?_);have ak:=Lib.hid hS;clear hS;refine aG (ig rfl (aB aj rfl) rfl rfl) ?_;go_simp;refine (oz.out _ (HY.out.keep (bT gy.out ak.out))).mono ?_;rintro e wr3 ⟨rfl,jG⟩;have hS:Since bZ wr3:=bT (w:=bZ) ak.out jG;clear ak;refine hK.out _ _ hS (fun _=>?_);clear hK K
         try simp only [pu]
         iterate 12
          apply dw;exact aj;exact rfl;exact hS;iterate 4 exact rfl
          · intro _ hqc;go_simp;try rfl
          try simp only [pu]
         apply aH;exact aj;exact rfl;exact hS;exact rfl
         · intro _ hqc;go_simp;try rfl
         try simp only [pu]
         refine dF ?_;refine aA.down _ _ ?_;have hB:Below bZ.heap.size bZ wr3:=hS;clear hS aA aj;have hr:=Lib.hid (JK.out m hlm hf.out);go_wp2_with fail;go_ret;exact ⟨aT hr.out.symm,bT HB4.out (bT HBc.out (bT gy.out hB))⟩
        case true =>
         have hf:=Lib.hid (show jH si nl[m]=true by rw [hfe.out];simp only [e1,e2,e3,e4,e5];rfl);have mJ:=Lib.hid TO;have nD:=Lib.hid TF;have oz:=Lib.hid TL;clear TO TF TL hfe e1 e2 e4;refine dN (Since bZ) (.run 4 0 0 (.call 4 31 (.take 5 63 (.take 6 127 (.call 7 255 (.run 15 8 255 (.call 23 16777215 (.run 13 24 16777215 (.done))))))))) (by kernel_rfl) (bD (bR _)) (by kernel_rfl) (by kernel_rfl) (Nat.le_of_ble_eq_true (by kernel_rfl)) ?_;intro dO QR aj aA hS
         iterate 4
          apply aH;exact aj;exact rfl;exact hS;exact rfl
          · intro _ hqc;go_simp;try rfl
          try simp only [pu]
         refine aS (i:=4) (aB aj rfl) (fun K hK=>?_);have ak:=Lib.hid hS;clear hS;refine aG (aN rfl) ?_;go_simp;refine (mJ.out _).mono ?_;rintro e bY ⟨rfl,dB⟩;have hS:Since bZ bY:=bT (w:=bZ) ak.out dB;clear ak;refine hK.out _ _ hS (fun _=>?_);clear hK K
         try simp only [pu]
         apply aH;exact aj;exact rfl;exact hS;exact rfl
         · intro _ hqc;go_simp;try rfl
         try simp only [pu]
         apply dw;exact aj;exact rfl;exact hS;iterate 4 exact rfl
         · intro _ hqc;go_simp;try rfl
         try simp only [pu]
         refine aS (i:=7) (aB aj rfl) (fun K hK=>?_);have ak:=Lib.hid hS;clear hS;refine aG (ig rfl (aB aj rfl) rfl rfl) ?_;go_simp;refine (nD.out _).mono ?_;rintro e wr2 ⟨rfl,fG⟩;have hS:Since bZ wr2:=bT (w:=bZ) ak.out fG;clear ak;refine hK.out _ _ hS (fun _=>?_);clear hK K
         try simp only [pu]
         iterate 12
          apply dw;exact aj;exact rfl;exact hS;iterate 4 exact rfl
          · intro _ hqc;go_simp;try rfl
          try simp only [pu]
         iterate 2
          apply aH;exact aj;exact rfl;exact hS;exact rfl
          · intro _ hqc;go_simp;try rfl
          try simp only [pu]
         apply dw;exact aj;exact rfl;exact hS;iterate 4 exact rfl
         · intro _ hqc;go_simp;try rfl
         try simp only [pu]
         refine aS (i:=23) (aB aj rfl) (fun K hK=>?_);have ak:=Lib.hid hS;clear hS;refine aG (ig rfl (aB aj rfl) rfl rfl) ?_;go_simp;refine (oz.out _ (HY.out.keep (bT gy.out ak.out))).mono ?_;rintro e wr3 ⟨rfl,jG⟩;have hS:Since bZ wr3:=bT (w:=bZ) ak.out jG;clear ak;refine hK.out _ _ hS (fun _=>?_);clear hK K
         try simp only [pu]
         iterate 12
          apply dw;exact aj;exact rfl;exact hS;iterate 4 exact rfl
          · intro _ hqc;go_simp;try rfl
          try simp only [pu]
         apply aH;exact aj;exact rfl;exact hS;exact rfl
         · intro _ hqc;go_simp;try rfl
         try simp only [pu]
         refine dF ?_;refine aA.down _ _ ?_;have hB:Below bZ.heap.size bZ wr3:=hS;clear hS aA aj;go_wp2_with fail;go_roundw
         case rel => exact ⟨m+1,by omega,by go_num,bT gy.out hB,all_succ (p:=fun n=>jH si n=true) rZ.out hlm hf.out⟩
         case measure => simp [intOf];omega
      case true =>
       have hf:=Lib.hid (show jH si nl[m]=true by rw [hfe.out];simp only [e1,e2,e3];rfl);have mJ:=Lib.hid TO;have nD:=Lib.hid TF;have oz:=Lib.hid TL;clear TO TF TL hfe e1 e2;refine dN (Since bZ) (.run 4 0 0 (.call 4 31 (.take 5 63 (.take 6 127 (.call 7 255 (.run 29 8 255 (.done))))))) (by kernel_rfl) (bD (bR _)) (by kernel_rfl) (by kernel_rfl) (Nat.le_of_ble_eq_true (by kernel_rfl)) ?_;intro dO QR aj aA hS
       iterate 4
        apply aH;exact aj;exact rfl;exact hS;exact rfl
        · intro _ hqc;go_simp;try rfl
        try simp only [pu]
       refine aS (i:=4) (aB aj rfl) (fun K hK=>?_);have ak:=Lib.hid hS;clear hS;refine aG (aN rfl) ?_;go_simp;refine (mJ.out _).mono ?_;rintro e bY ⟨rfl,dB⟩;have hS:Since bZ bY:=bT (w:=bZ) ak.out dB;clear ak;refine hK.out _ _ hS (fun _=>?_);clear hK K
       try simp only [pu]
       apply aH;exact aj;exact rfl;exact hS;exact rfl
       · intro _ hqc;go_simp;try rfl
       try simp only [pu]
       apply dw;exact aj;exact rfl;exact hS;iterate 4 exact rfl
       · intro _ hqc;go_simp;try rfl
       try simp only [pu]
       refine aS (i:=7) (aB aj rfl) (fun K hK=>?_);have ak:=Lib.hid hS;clear hS;refine aG (ig rfl (aB aj rfl) rfl rfl) ?_;go_simp;refine (nD.out _).mono ?_;rintro e wr2 ⟨rfl,fG⟩;have hS:Since bZ wr2:=bT (w:=bZ) ak.out fG;clear ak;refine hK.out _ _ hS (fun _=>?_);clear hK K
       try simp only [pu]
       iterate 12
        apply dw;exact aj;exact rfl;exact hS;iterate 4 exact rfl
        · intro _ hqc;go_simp;try rfl
        try simp only [pu]
       iterate 2
        apply aH;exact aj;exact rfl;exact hS;exact rfl
        · intro _ hqc;go_simp;try rfl
        try simp only [pu]
       iterate 14
        refine iH aj rfl hS rfl rfl rfl rfl rfl ?_
        try simp only [pu]
       apply aH;exact aj;exact rfl;exact hS;exact rfl
       · intro _ hqc;go_simp;try rfl
       try simp only [pu]
       refine dF ?_;refine aA.down _ _ ?_;have hB:Below bZ.heap.size bZ wr2:=hS;clear hS aA aj;go_wp2_with fail;go_roundw
       case rel => exact ⟨m+1,by omega,by go_num,bT gy.out hB,all_succ (p:=fun n=>jH si n=true) rZ.out hlm hf.out⟩
       case measure => simp [intOf];omega
end Go.Proofs.YtialfdomhoojiaaGreat
