import Derived.Deep.CutBlock
import Derived.Test.YtialfdomhoojiaaGreatJ06
import Derived.Test.YtialfdomhoojiaaGreatGB
set_option linter.unusedSimpArgs false
set_option linter.unusedVariables false
namespace Go.Proofs.YtialfdomhoojiaaGreat
open Go.RowKit
theorem Row.psg {w:World} {A:Option Addr} {l:List bP} (h:Row w A (l.flatMap jc)) {k:Nat} (hk:k<l.length) :
  ∃ b o,A=some ⟨b,o,none⟩/\b<w.heap.size/\w.cell? ⟨b,o+k*2,none⟩=some (.pointer (some ⟨l[k].ln.g,0,none⟩))/\w.cell? ⟨b,o+k*2+1,none⟩=some (.int .i64 l[k].k):=by
 obtain ⟨b,o,hA,hb,hc⟩:=h.at_ (n:=2) (fun _=>rfl) hk (by omega);exact ⟨b,o,hA,hb,hc 0 _ rfl,hc 1 _ rfl⟩
theorem free_eq (s:bP) (n:Nd):mP s n = !(fO s.fst s.snd n.pt && !(((s.k:Int) == 0) && (s.ln.arc.fr == n.id)) && !(((s.k:Int) == (s.ln.path.length:Int)-2) && (s.ln.arc.dst == n.id))):=rfl
structure akA (f:Int->Pt) (nl:List Nd) (sl:List bP) (q:Bool):Prop where
 pair:∀ i j (_:i<j) (hj:j<sl.length),jA sl[j]<=qM (sl[i]'(by omega))->qN f (sl[i]'(by omega)) sl[j]=false->q=false
 node:∀ i (hi:i<sl.length) m (hm:m<nl.length),mP sl[i] nl[m]=false->q=false
 yes:(∀ i j (_:i<j) (hj:j<sl.length),jA sl[j]<=qM (sl[i]'(by omega))->qN f (sl[i]'(by omega)) sl[j]=true)->(∀ i (hi:i<sl.length) m (hm:m<nl.length),mP sl[i] nl[m]=true)->q=true
theorem verdict {p:Pl} (hp:Sound p) (hok:p.ah.all (lC p)=true) {sl:List bP} (hs:(sl.map bP.abs).Perm (p.ah.flatMap (fD p))):akA (nodeAt p) p.nodes sl (sJ p):=by
 have hl:=hp.akt hok sl hs;refine ⟨fun i j hij hj hw hc=>?_,fun i hi m hm hf=>?_,fun h1 h2=>hl.1 ⟨h1,fun s hs n hn=>?_⟩⟩
 · rw [<- Bool.not_eq_true];intro hq;have:=(hl.2 hq).1 i j hij hj hw;rw [hc] at this;cases this
 · rw [<- Bool.not_eq_true];intro hq;have:=(hl.2 hq).2 _ (List.getElem_mem hi) _ (List.getElem_mem hm);rw [hf] at this;cases this
 ·obtain ⟨i,hi,rfl⟩:=List.mem_iff_getElem.1 hs;obtain ⟨m,hm,rfl⟩:=List.mem_iff_getElem.1 hn;exact h2 i hi m hm
set_option maxRecDepth 100000 in
set_option maxHeartbeats 16000000 in
theorem akB (v:Value) (p:Pl) (w:World) (h:dS w v p) (hsh:Short p) (hl:(p.ah.flatMap (fD p)).length<=2097152) (hnl:p.nodes.length<=4096)
  (Rt:∀ n∈p.nodes,dP n.id) (hp:Sound p) :
  Calls Tryz.prog 173 #[v] w fun e w'=>e=.returned (.bool (sJ p))/\Below w.heap.size w w':=by
 have hno:=@Sound.aku p hp;have acS:=fun hok sl hs=>@verdict p hp hok sl hs;have hlast:=akw p hp.nodes;have har:∀ a∈p.ah,dP a.fr/\dP a.dst:=fun a ha=>by
  obtain ⟨⟨n1,h1,e1⟩,⟨n2,h2,e2⟩⟩:=hp.Rq ha;exact ⟨e1 ▸ Rt n1 h1,e2 ▸ Rt n2 h2⟩
 have acT:∀ x∈p.ah.flatMap (fD p),dP x.arc.fr/\dP x.arc.dst:=fun x hx=>har _ (hp.mem hx).1;have hseg:=ajT v p;have akC:=Lib.hid hseg;have HP:=Lib.hid h;have Hno:=Lib.hid hno;have acU:=Lib.hid acS;have acV:=Lib.hid acT;have Hsh:=Lib.hid hsh;have Hl:=Lib.hid hl;clear hno acS acT hseg hsh hl har hp;generalize sJ p=q at *;obtain ⟨_,va,vf,al,rfl,-,⟨An,cn,rfl,hn1,hn2,hR⟩,-,-⟩:=h;unfold maxLen at hn2;have HR:=Lib.hid hR;clear hR;have hnw:∀ k (hk:k<p.nodes.length),dP p.nodes[k].id:=fun k hk=>Rt _ (List.getElem_mem hk);clear Rt;have HNw:=Lib.hid hnw;clear hnw;generalize hF:nodeAt p=F at *;generalize hA:p.ah.flatMap (fD p)=AL at *;have akD:=Lib.hid hlast;clear hlast hF;have HA:=Lib.hid hA;clear hA;generalize hNl:p.nodes=nl at *;have HNl:=Lib.hid hNl;clear hNl;go_enter Tryz.func173,Tryz.ntmps173;go_wp2_with fail;refine (akC.out _ (HP.out.mono (bA (bR w) _)) Hsh.out Hl.out).mono ?_;rintro e w1 ⟨hb1,hr⟩;have Bw:Below w.heap.size w w1:=bT (bA (bR w) _) hb1;have X1:aj w1 w.heap.size 26 #[.slice An nl.length cn,va,vf]:=(aj.made rfl _ _).keep hb1;clear hb1
 cases hok:p.ah.all (lC p)
 case false =>
  rw [hok] at hr;simp only [Bool.false_eq_true,if_false] at hr;subst hr;have hf:=Lib.hid (Hno.out hok);clear hok;obtain ⟨aI,aJ,aK,aP,-,-,-⟩:=X1.bC;go_wp2_with fail;go_ret;exact ⟨eP hf.out.symm,Bw⟩
 case true =>
 rw [hok] at hr;simp only [if_true] at hr;obtain ⟨sl,vs,rfl,hsl,acW,hown⟩:=hr;rw [HA.out] at hsl;have acX:sl.length<=2097152:=by have:=congrArg List.length hsl;rw [List.length_map] at this;have:=Hl.out;omega
 have hsz1:=Bw.size;have hs1:=Own.sl (Own.iW hown (b':=w.heap.size) (by simp));obtain ⟨As,cs,rfl,hs1,hs2,-⟩:=hs1;unfold maxLen at hs2;have acY:=Own.lt hown;have kD:=Lib.hid (Own.iW hown (b':=w.heap.size) (by simp));have acZ:=Lib.hid acW;have Nq:=Lib.hid hsl;have eH:=Lib.hid X1;have ac0:=Lib.hid (acU.out hok);clear hsl acW hown hok;have hnb:=kD.out.dM X1 (by decide);have ac1:=Lib.hid acY;have Hnb:=Lib.hid hnb;clear acY hnb
 try clear aI
 try clear aJ
 try clear aK
 try clear aP
 obtain ⟨aI,aJ,aK,aP,-,-,-⟩:=X1.bC;have GX:=Lib.hid (jT.made w1);have hmm:=@run_makeMap Tryz.prog;go_wp2_with fail;obtain ⟨W2,hW2⟩:∃ W2:World,W2=w1.alloc (.map #[] 0):=⟨_,rfl⟩;have sO:Hid (jT W2 w1.heap.size 0 (fun _=>z0)):=by rw [hW2];exact GX
 have hA2:Below w1.heap.size w1 W2:=by rw [hW2];exact bA (bR w1) _
 have HB2:=Lib.hid hA2;rw [<- hW2];clear hmm hW2 hA2 X1 aI aJ aK aP GX;have hx2:=HB2.out.size;go_loopw [27] (fun u wr=>∃ k:Nat,k<=nl.length/\u=.int .i64 k/\Below w1.heap.size w1 wr/\jT wr w1.heap.size k (GV (nl.take k))) (fun u _=>nl.length-(intOf u).toNat)
 case atStart => exact ⟨0,Nat.zero_le _,rfl,HB2.out,sO.out⟩
 case round =>
  obtain ⟨k,hk,rfl,hb,hm⟩:=hrel;have Hb:=Lib.hid hb;have Hm:=Lib.hid hm;have QO:=hb.size;clear hb hm;by_cases hlt:k<nl.length
  case pos =>
   obtain ⟨b,o,rfl,hlb,c0,c1,c2⟩:=(HR.out.mono (bT Bw Hb.out)).nd hlt;obtain ⟨w3,hr3,oI,hg3⟩:=jT.upd (Hm.out.keep (bA (bR wr) (.cells #[.int .i64 nl[k].id,.int .i64 nl[k].pt.x,.int .i64 nl[k].pt.y] 45))) (by omega) nl[k].id (HNw.out k hlt) nl[k].pt;have hm4:jT w3 w1.heap.size (k+1) (GV (nl.take (k+1))):=by rw [akv nl k hlt];exact oI
   have B3:Below w1.heap.size w1 w3:=bG (bA Hb.out _) hg3 (fun g hg=>by injection hg with hg;omega);have Hm4:=Lib.hid hm4;have HB3:=Lib.hid B3;unfold aZ at hr3;clear oI hg3 hm4 B3;go_wp2_with fail;go_roundw
   case rel => exact ⟨k+1,by omega,by go_num,HB3.out,Hm4.out⟩
   case measure => simp [intOf];omega
  case neg =>
  have hall:nl.take k=nl:=List.take_of_length_le (by omega);have hm:=Hm.out;rw [hall,akD.out] at hm;have hkm:k<=4096:=by omega
  replace Hm:=Lib.hid hm;clear hm hall;go_wp2_with fail;refine (akz w.heap.size _ sl _ (kD.out.keep Hb.out) (fun s hs=>(acZ.out s hs).keep Hb.out) (by omega)).mono ?_;rintro e w4 ⟨rfl,sl',hperm,hsort,hown',hok',hg⟩;have hps:(sl'.map bP.abs).Perm AL:=by
   have:=hperm.map bP.abs
   rw [Nq.out] at this;exact this
  have hwf:∀ s∈sl',dP s.ln.arc.fr/\dP s.ln.arc.dst:=fun s hs=>by
   have:=acV.out s.abs (hps.mem_iff.1 (List.mem_map_of_mem hs))
   exact this
  have hlen':sl'.length=sl.length:=hperm.length_eq;have B4:Below w.heap.size w w4:=bG (bT Bw Hb.out) hg (fun g hg'=>(kD.out.lt g hg').1);have hm4:jT w4 w1.heap.size k F:=Hm.out.kept hg (fun e=>by have:=(ac1.out _ e.symm).2;omega);have X1:aj w4 w.heap.size 26 #[.slice An nl.length cn,va,vf]:=(eH.out.keep Hb.out).grown hg (fun e=>Hnb.out e.symm);have hV:=ac0.out sl' hps;have hrow:Row w4 As (sl'.flatMap jc):=by
   obtain ⟨A0,c0,e0,-,-,hr0⟩:=Own.sl hown';injection e0 with e0 _ _;subst e0;exact hr0
  have HV:=Lib.hid hV;have dn:=Lib.hid X1;have GY:=Lib.hid hm4;have HB4:=Lib.hid B4;have ND:=Lib.hid hok';have ac2:=Lib.hid hrow;have akE:=Lib.hid hsort;have JV:=Lib.hid hwf;clear hps hperm hsort hown' hok' hg hwf B4 hm4 X1 hV hrow kD acZ Nq acV acU ac0 ac1 Hnb Hm sO eH Hb HB2 QO hx2;have ate:sl'.length<=2097152:=by rw [hlen'];exact acX
  rw [<- hlen'] at hs1 ⊢;clear hlen' acX;go_wp2_with fail;obtain ⟨wo,rfl⟩:∃ wo:World,wo=wr:=⟨_,rfl⟩;go_loopw [41] (fun u wr=>∃ i:Nat,i<=sl'.length/\u=.int .i64 i/\Below w4.heap.size w4 wr/\(∀ a b (_:a<b) (hb:b<sl'.length),a<i->jA sl'[b]<=qM (sl'[a]'(by omega))->qN F (sl'[a]'(by omega)) sl'[b]=true)/\(∀ a (ha:a<sl'.length) m (hm:m<nl.length),a<i->mP sl'[a] nl[m]=true)) (fun u _=>sl'.length-(intOf u).toNat)
  case atStart => exact ⟨0,Nat.zero_le _,rfl,bR w4,fun _ _ _ _ h=>by omega,fun _ _ _ _ h=>by omega⟩
  case round =>
   obtain ⟨i,hi,rfl,hb,ac3,Nh⟩:=hrel;have Hb:=Lib.hid hb;have Xd:=Lib.hid ac3;have JB:=Lib.hid Nh;clear hb ac3 Nh;by_cases hlt:i<sl'.length
   case neg =>
    have hf:=Lib.hid (HV.out.yes (fun a b hab hb hw=>Xd.out a b hab hb (by omega) hw) (fun a ha m hm=>JB.out a ha m hm (by omega)));go_wp2_with fail;go_ret;exact ⟨eP hf.out.symm,bT HB4.out Hb.out⟩
   obtain ⟨b,o,hAs,hlb,c0,c1⟩:=(ac2.out.mono Hb.out).psg hlt;obtain ⟨Ac,Cc,vg⟩:∃ Ac Cc,Ac=Gm As cs (i+1) 2/\Cc=cs-(i+1):=⟨_,_,rfl,rfl⟩;have ac4:∀ W,(Instr.slice 224 (.slice As sl'.length cs) (some (.int .i64 ((i:Int)+1))) none none).run Tryz.prog W=.ok (.slice Ac (sl'.length-(i+1)) Cc) W:=fun W=>by
    rw [vg.1,vg.2];exact abH Tryz.underlying224 acR As sl'.length cs (i+1) (by omega) _ (by omega) W
   have EI:=Lib.hid vg;clear vg;subst hAs;obtain ⟨dl,hdl⟩:∃ dl,dl=sl'.drop (i+1):=⟨_,rfl⟩;have hdn:sl'.length-(i+1)=dl.length:=by rw [hdl,List.length_drop]
   have hdg:∀ j (hj:j<dl.length),∃ h:i+1+j<sl'.length,dl[j]=sl'[i+1+j]:=fun j hj=>by
    subst hdl;rw [List.length_drop] at hj;exact ⟨by omega,by simp⟩
   have ac5:Row w4 Ac (dl.flatMap jc):=by
    rw [EI.out.1,hdl,<- abI jc 2 Rf];exact ac2.out.cut (by rw [flat_length jc 2 Rf];omega)
   rw [hdn] at ac4;have CJ:=Lib.hid hdg;have ac6:=Lib.hid ac5;have HDn:=Lib.hid hdn;have hdb:dl.length<=2097152:=by omega
   clear hdl hdg ac5 EI hdn;have hsi:=Lib.hid ((ND.out _ (List.getElem_mem hlt)));have ac7:∀ j,i<j->∀ hj:j<sl'.length,jA sl'[j]<=qM sl'[i]->qN F sl'[i] sl'[j]=false->q=false:=fun j hij hj=>HV.out.pair i j hij hj;have hnodes:∀ m (hm:m<nl.length),mP sl'[i] nl[m]=false->q=false:=fun m hm=>HV.out.node i hlt m hm;have hdone:(∀ j,i<j->∀ hj:j<sl'.length,jA sl'[j]<=qM sl'[i]->qN F sl'[i] sl'[j]=true)->(∀ a b (_:a<b) (hb:b<sl'.length),a<i+1->jA sl'[b]<=qM (sl'[a]'(by omega))->qN F (sl'[a]'(by omega)) sl'[b]=true):=fun h a b hab hb ha=>by
    by_cases e:a<i
    · exact Xd.out a b hab hb e
    ·have:a=i:=by omega
     subst this;exact h b hab hb
   have ac8:(∀ m (hm:m<nl.length),mP sl'[i] nl[m]=true)->(∀ a (ha:a<sl'.length) m (hm:m<nl.length),a<i+1->mP sl'[a] nl[m]=true):=fun h a ha m hm hai=>by
    by_cases e:a<i
    · exact JB.out a ha m hm e
    ·have:a=i:=by omega
     subst this;exact h m hm
   have ac9:=JV.out _ (List.getElem_mem hlt);generalize ada:sl'[i]=si at *;have EJ:=Lib.hid ada;have adb:=Lib.hid ac7;have Ru:=Lib.hid hnodes;have ade:=Lib.hid hdone;have akF:=Lib.hid ac8;have adf:=Lib.hid ac9;clear ada ac7 hnodes hdone ac8 Xd JB ac9;have Ri:IntKind.i64.wrap ((i:Int)+1)=(i:Int)+1:=IntWalk.i64_in _ (by omega);have r3:0<=(i:Int)+1:=by omega
   have r4:(i:Int)+1<=sl'.length:=by omega
   have r5:((i:Int)+1).toNat=i+1:=by omega
   go_upto_block 4 with fail;obtain ⟨W5,qh⟩:∃ W5:World,W5=wr.alloc (.cells #[.pointer (some ⟨si.ln.g,0,none⟩),.int .i64 si.k] 230):=⟨_,rfl⟩;have dK:=Lib.hid (show Below w4.heap.size w4 W5 by rw [qh];exact bA Hb.out _);have X9:aj W5 wr.heap.size 230 #[.pointer (some ⟨si.ln.g,0,none⟩),.int .i64 si.k]:=by rw [qh];exact aj.made rfl _ _
   have qo:=Lib.hid X9;rw [<- qh];clear qh X9 ac4 Ri r3 r4 r5 c0 c1 hlb;obtain ⟨wp,rfl⟩:∃ wp:World,wp=wr:=⟨_,rfl⟩;have TW:∀ s:bP,∀ W,fK W s->Calls Tryz.prog 228 #[iI s] W _:=fun s W h=>WV s W h;have TE:∀ s:bP,∀ W,fK W s->Calls Tryz.prog 229 #[iI s] W _:=fun s W h=>ajM s W h;have TC:∀ s t:bP,∀ W,fK W s->fK W t->jT W w1.heap.size k F->dP s.ln.arc.fr->dP s.ln.arc.dst->Calls Tryz.prog 230 #[iI s,iI t,.map (some w1.heap.size)] W _:=fun s t W h1 h2 h3 h4 h5=>akd F w1.heap.size k s t W h1 h2 h3 h4 h5;unfold iI at TW TE TC;have HTW:=Lib.hid TW;have HTE:=Lib.hid TE;have HTC:=Lib.hid TC;clear TW TE TC;go_cut [51] (fun u wx=>Below W5.heap.size W5 wx/\∀ j,i<j->∀ hj:j<sl'.length,jA sl'[j]<=qM si->qN F si sl'[j]=true)
   case first =>
    go_wp2_with fail;go_loopw [51] (fun u wx=>∃ j:Nat,j<=dl.length/\u=.int .i64 j/\Below W5.heap.size W5 wx/\∀ m (hm:m<dl.length),m<j->jA dl[m]<=qM si->qN F si dl[m]=true) (fun u _=>dl.length-(intOf u).toNat)
    case atStart => exact ⟨0,Nat.zero_le _,rfl,bR W5,fun _ _ h=>by omega⟩
    case round =>
     obtain ⟨j,hj,rfl,hbx,hnx⟩:=hrel;have iO:=Lib.hid hbx;have yu:=Lib.hid hnx;have hxs:=hbx.size;have X9:=qo.out.keep hbx;clear hbx hnx;by_cases hlj:j<dl.length
     case neg =>
      have hf:=Lib.hid (show ∀ j,i<j->∀ hj:j<sl'.length,jA sl'[j]<=qM si->qN F si sl'[j]=true from fun m him hm hw=>by
       have hd:=HDn.out;obtain ⟨h1,h2⟩:=CJ.out (m-(i+1)) (by omega);have e:i+1+(m-(i+1))=m:=by omega
       simp only [e] at h2;have:=yu.out (m-(i+1)) (by omega) (by omega)
       rw [h2] at this;exact this hw)
      go_wp2_with fail;go_meet
      case rel => exact ⟨iO.out,hf.out⟩
     obtain ⟨b',o',rfl,Gu,d0,d1⟩:=(ac6.out.mono (bT dK.out iO.out)).psg hlj;obtain ⟨hjs,hje⟩:=CJ.out j hlj;have htj:=Lib.hid (ND.out _ (List.getElem_mem hjs));rw [<- hje] at htj;have hwj:=Lib.hid hje;clear hje;go_upto_region 17 with fail;obtain ⟨W7,Rw⟩:∃ W7:World,W7=wr.alloc (.cells #[.pointer (some ⟨dl[j].ln.g,0,none⟩),.int .i64 dl[j].k] 230):=⟨_,rfl⟩;have Rx:Below wr.heap.size wr W7:=by rw [Rw];exact bA (bR wr) _
     have lQ:aj W7 wr.heap.size 230 #[.pointer (some ⟨dl[j].ln.g,0,none⟩),.int .i64 dl[j].k]:=by rw [Rw];exact aj.made rfl _ _
     rw [<- Rw];replace X9:=X9.keep Rx;have B7:=Lib.hid (bT dK.out (bT iO.out Rx));have B7':=Lib.hid (bT iO.out Rx);clear Rw Rx d0 d1 Gu;obtain ⟨iw,iy,kE,-,-⟩:=X9.bI;obtain ⟨zk,zl,Xe,-,-⟩:=lQ.bI;refine bZ (Since W7) (.take 0 1 (.take 2 5 (.call 1 7 (.call 3 15 (.take 4 31 (.done)))))) (by kernel_rfl) (bD (bR _)) (by kernel_rfl) (by kernel_rfl) (Nat.le_of_ble_eq_true (by kernel_rfl)) ?_;intro cO QR ak aC hS
     iterate 2
      apply bg;exact ak;exact rfl;exact hS;exact rfl
      · intro _ hqc;go_simp;try rfl
      try simp only [pu]
     refine aT (i:=1) (aG ak rfl) (fun K hK=>?_);have aA:=Lib.hid hS;clear hS;refine aO (aV rfl) ?_;go_simp;refine (HTW.out _ _ (htj.out.keep (bT B7.out aA.out))).mono ?_;rintro e bH ⟨rfl,bJ,-⟩;have hS:Since W7 bH:=bT (w:=W7) aA.out bJ;clear aA;refine hK.out _ _ hS (fun _=>?_);clear hK K
     try simp only [pu]
     refine aT (i:=3) (aG ak rfl) (fun K hK=>?_);have aA:=Lib.hid hS;clear hS;refine aO (aV rfl) ?_;go_simp;refine (HTE.out _ _ (hsi.out.keep (bT B7.out aA.out))).mono ?_;rintro e wr2 ⟨rfl,gZ,-⟩;have hS:Since W7 wr2:=bT (w:=W7) aA.out gZ;clear aA;refine hK.out _ _ hS (fun _=>?_);clear hK K
     try simp only [pu]
     apply bg;exact ak;exact rfl;exact hS;exact rfl
     · intro _ hqc;go_simp;try rfl
     try simp only [pu]
     refine bM ?_;refine aC.down _ _ ?_;have hB:Below W7.heap.size W7 wr2:=hS;clear hS aC ak;have B8:=Lib.hid (bT B7.out hB);have B8':=Lib.hid (bT B7'.out hB);replace X9:=X9.keep hB;replace lQ:=lQ.keep hB;clear hB
     try clear iw
     try clear iy
     try clear kE
     obtain ⟨iw,iy,kE,-,-⟩:=X9.bI
     try clear zk
     try clear zl
     try clear Xe
     obtain ⟨zk,zl,Xe,-,-⟩:=lQ.bI;by_cases hw:qM si<jA dl[j]
     ·have hf:=Lib.hid (show ∀ j,i<j->∀ hj:j<sl'.length,jA sl'[j]<=qM si->qN F si sl'[j]=true from fun m him hm hwm=>by
       by_cases e:m<i+1+j
       ·have hd:=HDn.out;obtain ⟨h1,h2⟩:=CJ.out (m-(i+1)) (by omega);have e:i+1+(m-(i+1))=m:=by omega
        simp only [e] at h2;have:=yu.out (m-(i+1)) (by omega) (by omega)
        rw [h2] at this;exact this hwm
       ·have hs:jA dl[j]<=jA sl'[m]:=by
         rw [hwj.out];by_cases e':m=i+1+j
         · subst e';exact Int.le_refl _
         · exact akE.out (i+1+j) m (by omega) hm
        omega)
      go_wp2_with fail;go_meet
      case rel => exact ⟨B8'.out,hf.out⟩
     ·have hw':=Lib.hid hw;go_wp2_with fail;refine (HTC.out _ _ _ (hsi.out.keep B8.out) (htj.out.keep B8.out) (GY.out.keep B8.out) adf.out.1 adf.out.2).mono ?_;rintro e w9 ⟨rfl,CO⟩;have B9:=Lib.hid (bT B8'.out CO);clear CO X9 lQ iw iy kE zk zl Xe hw
      cases hc:qN F si dl[j]
      case false =>
       have hf:=Lib.hid (show false=q by
        have hq:=adb.out (i+1+j) (by omega) hjs;rw [<- hwj.out] at hq;exact (hq (by have:=hw'.out;omega) hc).symm)
       clear hc;go_wp2_with fail;go_ret;exact ⟨eP hf.out,bT HB4.out (bT dK.out B9.out)⟩
      case true =>
       have hc':=Lib.hid hc;clear hc;go_wp2_with fail;go_roundw
       case rel => exact ⟨j+1,by omega,by go_num,B9.out,all_succ (p:=fun t=>jA t<=qM si->qN F si t=true) yu.out hlj (fun _=>hc'.out)⟩
       case measure => simp [intOf];omega
   case rest =>
   obtain ⟨hbc,hpd⟩:=hcut;have HPd:=Lib.hid (ade.out hpd);have HBc:=Lib.hid (bT dK.out hbc);have X9:=qo.out.keep hbc;replace qo:=Lib.hid X9;have X1:=dn.out.keep HBc.out;have HY:=Lib.hid (hsi.out.keep HBc.out);clear hbc hpd adb ade CJ ac6 HDn X9 HTW HTE HTC hdb;have TS:∀ W,fK W si->Calls Tryz.prog 231 #[iI si] W _:=fun W hW=>Nl si W hW;have TO:∀ p q r:Pt,∀ W,Calls Tryz.prog 28 #[aZ p,aZ q,aZ r] W _:=fun p q r W=>MS p q r W;have TF:∀ W,Calls Tryz.prog 232 #[iI si] W _:=fun W=>acv si W;have TL:∀ W,fK W si->Calls Tryz.prog 233 #[iI si] W _:=fun W hW=>acw si W hW;unfold iI at TS TF TL;unfold aZ at TS TO;have HTS:=Lib.hid TS;have rE:=Lib.hid TO;have sQ:=Lib.hid TF;have tZ:=Lib.hid TL;clear TS TO TF TL
   try clear aI
   try clear aJ
   try clear aK
   try clear aP
   obtain ⟨aI,aJ,aK,aP,-,-,-⟩:=X1.bC;go_wp2_with fail;clear X1 aI aJ aK aP;go_loopw [69] (fun u wx=>∃ m:Nat,m<=nl.length/\u=.int .i64 m/\Below wc.heap.size wc wx/\∀ n (hn:n<nl.length),n<m->mP si nl[n]=true) (fun u _=>nl.length-(intOf u).toNat)
   case atStart => exact ⟨0,Nat.zero_le _,rfl,bR wc,fun _ _ h=>by omega⟩
   case round =>
    obtain ⟨m,hm,rfl,hbx,hnx⟩:=hrel;have iO:=Lib.hid hbx;have yu:=Lib.hid hnx;have X9:=qo.out.keep hbx;clear hbx hnx;by_cases hlm:m<nl.length
    case neg =>
     have hf:=Lib.hid (akF.out (fun n hn=>yu.out n hn (by omega)));clear X9;go_wp2_with fail;go_roundw
     case rel => exact ⟨i+1,by omega,by go_num,bT HBc.out iO.out,HPd.out,hf.out⟩
     case measure => simp [intOf];omega
    obtain ⟨b,o,rfl,hlb,c0,c1,c2⟩:=(HR.out.mono (bT HB4.out (bT HBc.out iO.out))).nd hlm
    try clear iw
    try clear iy
    try clear kE
    obtain ⟨iw,iy,kE,-,-⟩:=X9.bI;go_wp2_with fail;refine (HTS.out _ (HY.out.keep (bA iO.out _))).mono ?_;rintro e w10 ⟨rfl,GZ,-⟩;have hA10:Below wr.heap.size wr w10:=bT (bA (bR wr) _) GZ;have sU:aj w10 wr.heap.size 45 #[.int .i64 nl[m].id,.int .i64 nl[m].pt.x,.int .i64 nl[m].pt.y]:=(aj.made rfl _ _).keep GZ;replace X9:=X9.keep hA10;replace iO:=Lib.hid (bT iO.out hA10);clear GZ hA10 c0 c1 c2 hlb iw iy kE;go_upto_region 25 with fail;obtain ⟨bW,NG⟩:∃ bW:World,bW=(w10.alloc (.cells #[.int .i64 si.fst.x,.int .i64 si.fst.y] 39)).alloc (.cells #[.int .i64 si.snd.x,.int .i64 si.snd.y] 39):=⟨_,rfl⟩;have Ry:Below w10.heap.size w10 bW:=by rw [NG];exact bA (bA (bR w10) _) _
    have wV:aj bW w10.heap.size 39 #[.int .i64 si.fst.x,.int .i64 si.fst.y]:=by rw [NG];exact (aj.made rfl _ _).alloc _
    have zo:aj bW (w10.heap.size+1) 39 #[.int .i64 si.snd.x,.int .i64 si.snd.y]:=by rw [NG];exact aj.made (by simp) _ _
    rw [<- NG];replace X9:=X9.keep Ry;replace sU:=sU.keep Ry;replace iO:=Lib.hid (bT iO.out Ry);have Y:=(HY.out.keep iO.out).line;clear NG Ry
    try clear iw
    try clear iy
    try clear kE
    obtain ⟨iw,iy,kE,-,-⟩:=X9.bI;obtain ⟨G5,G6,G7,adg,-,-,-⟩:=sU.bC;obtain ⟨y9,zf,zh,-,-⟩:=wV.bI;obtain ⟨NH,NI,NJ,-,-⟩:=zo.bI;obtain ⟨Yl,Ya,Yb,Yc,Yd,Ye,Yf,Yg,-,-,-,-,-,-,-⟩:=Y.Eo;have hfe:=Lib.hid (free_eq si nl[m]);have TF:=sQ.out;have TL:=tZ.out;have TO:=rE.out si.fst si.snd nl[m].pt
    cases e1:fO si.fst si.snd nl[m].pt
    case false =>
     rw [e1] at TO;have hf:=Lib.hid (show mP si nl[m]=true by rw [hfe.out];simp only [e1];rfl);have rE:=Lib.hid TO;have sQ:=Lib.hid TF;have tZ:=Lib.hid TL;clear TO TF TL hfe e1;refine bZ (Since bW) (.run 4 0 0 (.call 4 31 (.run 32 5 31 (.done)))) (by kernel_rfl) (bD (bR _)) (by kernel_rfl) (by kernel_rfl) (Nat.le_of_ble_eq_true (by kernel_rfl)) ?_;intro cO QR ak aC hS
     iterate 4
      apply bg;exact ak;exact rfl;exact hS;exact rfl
      · intro _ hqc;go_simp;try rfl
      try simp only [pu]
     refine aT (i:=4) (aG ak rfl) (fun K hK=>?_);have aA:=Lib.hid hS;clear hS;refine aO (aV rfl) ?_;go_simp;refine (rE.out _).mono ?_;rintro e bH ⟨rfl,bJ⟩;have hS:Since bW bH:=bT (w:=bW) aA.out bJ;clear aA;refine hK.out _ _ hS (fun _=>?_);clear hK K
     try simp only [pu]
     apply bg;exact ak;exact rfl;exact hS;exact rfl
     · intro _ hqc;go_simp;try rfl
     try simp only [pu]
     iterate 14
      refine qH ak rfl hS rfl rfl rfl rfl rfl ?_
      try simp only [pu]
     iterate 2
      apply bg;exact ak;exact rfl;exact hS;exact rfl
      · intro _ hqc;go_simp;try rfl
      try simp only [pu]
     iterate 14
      refine qH ak rfl hS rfl rfl rfl rfl rfl ?_
      try simp only [pu]
     apply bg;exact ak;exact rfl;exact hS;exact rfl
     · intro _ hqc;go_simp;try rfl
     try simp only [pu]
     refine bM ?_;refine aC.down _ _ ?_;have hB:Below bW.heap.size bW bH:=hS;clear hS aC ak;go_wp2_with fail;go_roundw
     case rel => exact ⟨m+1,by omega,by go_num,bT iO.out hB,all_succ (p:=fun n=>mP si n=true) yu.out hlm hf.out⟩
     case measure => simp [intOf];omega
    case true =>
     rw [e1] at TO
     cases e2:((si.k:Int) == 0)
     case false =>
      rw [e2] at TF
      cases e4:((si.k:Int) == (si.ln.path.length:Int)-2)
      case false =>
       rw [e4] at TL;have hf:=Lib.hid (show mP si nl[m]=false by rw [hfe.out];simp only [e1,e2,e4];rfl);have rE:=Lib.hid TO;have sQ:=Lib.hid TF;have tZ:=Lib.hid TL;clear TO TF TL hfe e1 e2 e4;refine bZ (Since bW) (.run 4 0 0 (.call 4 31 (.take 5 63 (.take 6 127 (.call 7 255 (.run 15 8 255 (.call 23 16777215 (.run 13 24 16777215 (.done))))))))) (by kernel_rfl) (bD (bR _)) (by kernel_rfl) (by kernel_rfl) (Nat.le_of_ble_eq_true (by kernel_rfl)) ?_;intro cO QR ak aC hS
       iterate 4
        apply bg;exact ak;exact rfl;exact hS;exact rfl
        · intro _ hqc;go_simp;try rfl
        try simp only [pu]
       refine aT (i:=4) (aG ak rfl) (fun K hK=>?_);have aA:=Lib.hid hS;clear hS;refine aO (aV rfl) ?_;go_simp;refine (rE.out _).mono ?_;rintro e bH ⟨rfl,bJ⟩;have hS:Since bW bH:=bT (w:=bW) aA.out bJ;clear aA;refine hK.out _ _ hS (fun _=>?_);clear hK K
       try simp only [pu]
       apply bg;exact ak;exact rfl;exact hS;exact rfl
       · intro _ hqc;go_simp;try rfl
       try simp only [pu]
       apply dY;exact ak;exact rfl;exact hS;iterate 4 exact rfl
       · intro _ hqc;go_simp;try rfl
       try simp only [pu]
       refine aT (i:=7) (aG ak rfl) (fun K hK=>?_);have aA:=Lib.hid hS;clear hS;refine aO (mF rfl (aG ak rfl) rfl rfl) ?_;go_simp;refine (sQ.out _).mono ?_;rintro e wr2 ⟨rfl,gZ⟩;have hS:Since bW wr2:=bT (w:=bW) aA.out gZ;clear aA;refine hK.out _ _ hS (fun _=>?_);clear hK K
       try simp only [pu]
       apply dY;exact ak;exact rfl;exact hS;iterate 4 exact rfl
       · intro _ hqc;go_simp;try rfl
       try simp only [pu]
       iterate 9
        refine qH ak rfl hS rfl rfl rfl rfl rfl ?_
        try simp only [pu]
       iterate 2
        apply dY;exact ak;exact rfl;exact hS;iterate 4 exact rfl
        · intro _ hqc;go_simp;try rfl
        try simp only [pu]
       iterate 2
        apply bg;exact ak;exact rfl;exact hS;exact rfl
        · intro _ hqc;go_simp;try rfl
        try simp only [pu]
       apply dY;exact ak;exact rfl;exact hS;iterate 4 exact rfl
       · intro _ hqc;go_simp;try rfl
       try simp only [pu]
       refine aT (i:=23) (aG ak rfl) (fun K hK=>?_);have aA:=Lib.hid hS;clear hS;refine aO (mF rfl (aG ak rfl) rfl rfl) ?_;go_simp;refine (tZ.out _ (HY.out.keep (bT iO.out aA.out))).mono ?_;rintro e wr3 ⟨rfl,tX⟩;have hS:Since bW wr3:=bT (w:=bW) aA.out tX;clear aA;refine hK.out _ _ hS (fun _=>?_);clear hK K
       try simp only [pu]
       apply dY;exact ak;exact rfl;exact hS;iterate 4 exact rfl
       · intro _ hqc;go_simp;try rfl
       try simp only [pu]
       iterate 9
        refine qH ak rfl hS rfl rfl rfl rfl rfl ?_
        try simp only [pu]
       iterate 2
        apply dY;exact ak;exact rfl;exact hS;iterate 4 exact rfl
        · intro _ hqc;go_simp;try rfl
        try simp only [pu]
       apply bg;exact ak;exact rfl;exact hS;exact rfl
       · intro _ hqc;go_simp;try rfl
       try simp only [pu]
       refine bM ?_;refine aC.down _ _ ?_;have hB:Below bW.heap.size bW wr3:=hS;clear hS aC ak;have hr:=Lib.hid (Ru.out m hlm hf.out);go_wp2_with fail;go_ret;exact ⟨eP hr.out.symm,bT HB4.out (bT HBc.out (bT iO.out hB))⟩
      case true =>
       rw [e4] at TL
       cases e5:(si.ln.arc.dst == nl[m].id)
       case false =>
        have hf:=Lib.hid (show mP si nl[m]=false by rw [hfe.out];simp only [e1,e2,e4,e5];rfl);have rE:=Lib.hid TO;have sQ:=Lib.hid TF;have tZ:=Lib.hid TL;clear TO TF TL hfe e1 e2 e4;refine bZ (Since bW) (.run 4 0 0 (.call 4 31 (.take 5 63 (.take 6 127 (.call 7 255 (.run 15 8 255 (.call 23 16777215 (.run 13 24 16777215 (.done))))))))) (by kernel_rfl) (bD (bR _)) (by kernel_rfl) (by kernel_rfl) (Nat.le_of_ble_eq_true (by kernel_rfl)) ?_;intro cO QR ak aC hS
        iterate 4
         apply bg;exact ak;exact rfl;exact hS;exact rfl
         · intro _ hqc;go_simp;try rfl
         try simp only [pu]
        refine aT (i:=4) (aG ak rfl) (fun K hK=>?_);have aA:=Lib.hid hS;clear hS;refine aO (aV rfl) ?_;go_simp;refine (rE.out _).mono ?_;rintro e bH ⟨rfl,bJ⟩;have hS:Since bW bH:=bT (w:=bW) aA.out bJ;clear aA;refine hK.out _ _ hS (fun _=>?_);clear hK K
        try simp only [pu]
        apply bg;exact ak;exact rfl;exact hS;exact rfl
        · intro _ hqc;go_simp;try rfl
        try simp only [pu]
        apply dY;exact ak;exact rfl;exact hS;iterate 4 exact rfl
        · intro _ hqc;go_simp;try rfl
        try simp only [pu]
        refine aT (i:=7) (aG ak rfl) (fun K hK=>?_);have aA:=Lib.hid hS;clear hS;refine aO (mF rfl (aG ak rfl) rfl rfl) ?_;go_simp;refine (sQ.out _).mono ?_;rintro e wr2 ⟨rfl,gZ⟩;have hS:Since bW wr2:=bT (w:=bW) aA.out gZ;clear aA;refine hK.out _ _ hS (fun _=>?_);clear hK K
        try simp only [pu]
        apply dY;exact ak;exact rfl;exact hS;iterate 4 exact rfl
        · intro _ hqc;go_simp;try rfl
        try simp only [pu]
        iterate 9
         refine qH ak rfl hS rfl rfl rfl rfl rfl ?_
         try simp only [pu]
        iterate 2
         apply dY;exact ak;exact rfl;exact hS;iterate 4 exact rfl
         · intro _ hqc;go_simp;try rfl
         try simp only [pu]
        iterate 2
         apply bg;exact ak;exact rfl;exact hS;exact rfl
         · intro _ hqc;go_simp;try rfl
         try simp only [pu]
        apply dY;exact ak;exact rfl;exact hS;iterate 4 exact rfl
        · intro _ hqc;go_simp;try rfl
        try simp only [pu]
        refine aT (i:=23) (aG ak rfl) (fun K hK=>?_);have aA:=Lib.hid hS;clear hS;refine aO (mF rfl (aG ak rfl) rfl rfl) ?_;go_simp;refine (tZ.out _ (HY.out.keep (bT iO.out aA.out))).mono ?_;rintro e wr3 ⟨rfl,tX⟩;have hS:Since bW wr3:=bT (w:=bW) aA.out tX;clear aA;refine hK.out _ _ hS (fun _=>?_);clear hK K
        try simp only [pu]
        iterate 12
         apply dY;exact ak;exact rfl;exact hS;iterate 4 exact rfl
         · intro _ hqc;go_simp;try rfl
         try simp only [pu]
        apply bg;exact ak;exact rfl;exact hS;exact rfl
        · intro _ hqc;go_simp;try rfl
        try simp only [pu]
        refine bM ?_;refine aC.down _ _ ?_;have hB:Below bW.heap.size bW wr3:=hS;clear hS aC ak;have hr:=Lib.hid (Ru.out m hlm hf.out);go_wp2_with fail;go_ret;exact ⟨eP hr.out.symm,bT HB4.out (bT HBc.out (bT iO.out hB))⟩
       case true =>
        have hf:=Lib.hid (show mP si nl[m]=true by rw [hfe.out];simp only [e1,e2,e4,e5];rfl);have rE:=Lib.hid TO;have sQ:=Lib.hid TF;have tZ:=Lib.hid TL;clear TO TF TL hfe e1 e2 e4;refine bZ (Since bW) (.run 4 0 0 (.call 4 31 (.take 5 63 (.take 6 127 (.call 7 255 (.run 15 8 255 (.call 23 16777215 (.run 13 24 16777215 (.done))))))))) (by kernel_rfl) (bD (bR _)) (by kernel_rfl) (by kernel_rfl) (Nat.le_of_ble_eq_true (by kernel_rfl)) ?_;intro cO QR ak aC hS
        iterate 4
         apply bg;exact ak;exact rfl;exact hS;exact rfl
         · intro _ hqc;go_simp;try rfl
         try simp only [pu]
        refine aT (i:=4) (aG ak rfl) (fun K hK=>?_);have aA:=Lib.hid hS;clear hS;refine aO (aV rfl) ?_;go_simp;refine (rE.out _).mono ?_;rintro e bH ⟨rfl,bJ⟩;have hS:Since bW bH:=bT (w:=bW) aA.out bJ;clear aA;refine hK.out _ _ hS (fun _=>?_);clear hK K
        try simp only [pu]
        apply bg;exact ak;exact rfl;exact hS;exact rfl
        · intro _ hqc;go_simp;try rfl
        try simp only [pu]
        apply dY;exact ak;exact rfl;exact hS;iterate 4 exact rfl
        · intro _ hqc;go_simp;try rfl
        try simp only [pu]
        refine aT (i:=7) (aG ak rfl) (fun K hK=>?_);have aA:=Lib.hid hS;clear hS;refine aO (mF rfl (aG ak rfl) rfl rfl) ?_;go_simp;refine (sQ.out _).mono ?_;rintro e wr2 ⟨rfl,gZ⟩;have hS:Since bW wr2:=bT (w:=bW) aA.out gZ;clear aA;refine hK.out _ _ hS (fun _=>?_);clear hK K
        try simp only [pu]
        apply dY;exact ak;exact rfl;exact hS;iterate 4 exact rfl
        · intro _ hqc;go_simp;try rfl
        try simp only [pu]
        iterate 9
         refine qH ak rfl hS rfl rfl rfl rfl rfl ?_
         try simp only [pu]
        iterate 2
         apply dY;exact ak;exact rfl;exact hS;iterate 4 exact rfl
         · intro _ hqc;go_simp;try rfl
         try simp only [pu]
        iterate 2
         apply bg;exact ak;exact rfl;exact hS;exact rfl
         · intro _ hqc;go_simp;try rfl
         try simp only [pu]
        apply dY;exact ak;exact rfl;exact hS;iterate 4 exact rfl
        · intro _ hqc;go_simp;try rfl
        try simp only [pu]
        refine aT (i:=23) (aG ak rfl) (fun K hK=>?_);have aA:=Lib.hid hS;clear hS;refine aO (mF rfl (aG ak rfl) rfl rfl) ?_;go_simp;refine (tZ.out _ (HY.out.keep (bT iO.out aA.out))).mono ?_;rintro e wr3 ⟨rfl,tX⟩;have hS:Since bW wr3:=bT (w:=bW) aA.out tX;clear aA;refine hK.out _ _ hS (fun _=>?_);clear hK K
        try simp only [pu]
        iterate 12
         apply dY;exact ak;exact rfl;exact hS;iterate 4 exact rfl
         · intro _ hqc;go_simp;try rfl
         try simp only [pu]
        apply bg;exact ak;exact rfl;exact hS;exact rfl
        · intro _ hqc;go_simp;try rfl
        try simp only [pu]
        refine bM ?_;refine aC.down _ _ ?_;have hB:Below bW.heap.size bW wr3:=hS;clear hS aC ak;go_wp2_with fail;go_roundw
        case rel => exact ⟨m+1,by omega,by go_num,bT iO.out hB,all_succ (p:=fun n=>mP si n=true) yu.out hlm hf.out⟩
        case measure => simp [intOf];omega
     case true =>
      rw [e2] at TF
      cases e3:(si.ln.arc.fr == nl[m].id)
      case false =>
       cases e4:((si.k:Int) == (si.ln.path.length:Int)-2)
       case false =>
        rw [e4] at TL;have hf:=Lib.hid (show mP si nl[m]=false by rw [hfe.out];simp only [e1,e2,e3,e4];rfl);have rE:=Lib.hid TO;have sQ:=Lib.hid TF;have tZ:=Lib.hid TL;clear TO TF TL hfe e1 e2 e4;refine bZ (Since bW) (.run 4 0 0 (.call 4 31 (.take 5 63 (.take 6 127 (.call 7 255 (.run 15 8 255 (.call 23 16777215 (.run 13 24 16777215 (.done))))))))) (by kernel_rfl) (bD (bR _)) (by kernel_rfl) (by kernel_rfl) (Nat.le_of_ble_eq_true (by kernel_rfl)) ?_;intro cO QR ak aC hS
        iterate 4
         apply bg;exact ak;exact rfl;exact hS;exact rfl
         · intro _ hqc;go_simp;try rfl
         try simp only [pu]
        refine aT (i:=4) (aG ak rfl) (fun K hK=>?_);have aA:=Lib.hid hS;clear hS;refine aO (aV rfl) ?_;go_simp;refine (rE.out _).mono ?_;rintro e bH ⟨rfl,bJ⟩;have hS:Since bW bH:=bT (w:=bW) aA.out bJ;clear aA;refine hK.out _ _ hS (fun _=>?_);clear hK K
        try simp only [pu]
        apply bg;exact ak;exact rfl;exact hS;exact rfl
        · intro _ hqc;go_simp;try rfl
        try simp only [pu]
        apply dY;exact ak;exact rfl;exact hS;iterate 4 exact rfl
        · intro _ hqc;go_simp;try rfl
        try simp only [pu]
        refine aT (i:=7) (aG ak rfl) (fun K hK=>?_);have aA:=Lib.hid hS;clear hS;refine aO (mF rfl (aG ak rfl) rfl rfl) ?_;go_simp;refine (sQ.out _).mono ?_;rintro e wr2 ⟨rfl,gZ⟩;have hS:Since bW wr2:=bT (w:=bW) aA.out gZ;clear aA;refine hK.out _ _ hS (fun _=>?_);clear hK K
        try simp only [pu]
        iterate 12
         apply dY;exact ak;exact rfl;exact hS;iterate 4 exact rfl
         · intro _ hqc;go_simp;try rfl
         try simp only [pu]
        iterate 2
         apply bg;exact ak;exact rfl;exact hS;exact rfl
         · intro _ hqc;go_simp;try rfl
         try simp only [pu]
        apply dY;exact ak;exact rfl;exact hS;iterate 4 exact rfl
        · intro _ hqc;go_simp;try rfl
        try simp only [pu]
        refine aT (i:=23) (aG ak rfl) (fun K hK=>?_);have aA:=Lib.hid hS;clear hS;refine aO (mF rfl (aG ak rfl) rfl rfl) ?_;go_simp;refine (tZ.out _ (HY.out.keep (bT iO.out aA.out))).mono ?_;rintro e wr3 ⟨rfl,tX⟩;have hS:Since bW wr3:=bT (w:=bW) aA.out tX;clear aA;refine hK.out _ _ hS (fun _=>?_);clear hK K
        try simp only [pu]
        apply dY;exact ak;exact rfl;exact hS;iterate 4 exact rfl
        · intro _ hqc;go_simp;try rfl
        try simp only [pu]
        iterate 9
         refine qH ak rfl hS rfl rfl rfl rfl rfl ?_
         try simp only [pu]
        iterate 2
         apply dY;exact ak;exact rfl;exact hS;iterate 4 exact rfl
         · intro _ hqc;go_simp;try rfl
         try simp only [pu]
        apply bg;exact ak;exact rfl;exact hS;exact rfl
        · intro _ hqc;go_simp;try rfl
        try simp only [pu]
        refine bM ?_;refine aC.down _ _ ?_;have hB:Below bW.heap.size bW wr3:=hS;clear hS aC ak;have hr:=Lib.hid (Ru.out m hlm hf.out);go_wp2_with fail;go_ret;exact ⟨eP hr.out.symm,bT HB4.out (bT HBc.out (bT iO.out hB))⟩
       case true =>
        rw [e4] at TL
        cases e5:(si.ln.arc.dst == nl[m].id)
        case false =>
         have hf:=Lib.hid (show mP si nl[m]=false by rw [hfe.out];simp only [e1,e2,e3,e4,e5];rfl);have rE:=Lib.hid TO;have sQ:=Lib.hid TF;have tZ:=Lib.hid TL;clear TO TF TL hfe e1 e2 e4;refine bZ (Since bW) (.run 4 0 0 (.call 4 31 (.take 5 63 (.take 6 127 (.call 7 255 (.run 15 8 255 (.call 23 16777215 (.run 13 24 16777215 (.done))))))))) (by kernel_rfl) (bD (bR _)) (by kernel_rfl) (by kernel_rfl) (Nat.le_of_ble_eq_true (by kernel_rfl)) ?_;intro cO QR ak aC hS
         iterate 4
          apply bg;exact ak;exact rfl;exact hS;exact rfl
          · intro _ hqc;go_simp;try rfl
          try simp only [pu]
         refine aT (i:=4) (aG ak rfl) (fun K hK=>?_);have aA:=Lib.hid hS;clear hS;refine aO (aV rfl) ?_;go_simp;refine (rE.out _).mono ?_;rintro e bH ⟨rfl,bJ⟩;have hS:Since bW bH:=bT (w:=bW) aA.out bJ;clear aA;refine hK.out _ _ hS (fun _=>?_);clear hK K
         try simp only [pu]
         apply bg;exact ak;exact rfl;exact hS;exact rfl
         · intro _ hqc;go_simp;try rfl
         try simp only [pu]
         apply dY;exact ak;exact rfl;exact hS;iterate 4 exact rfl
         · intro _ hqc;go_simp;try rfl
         try simp only [pu]
         refine aT (i:=7) (aG ak rfl) (fun K hK=>?_);have aA:=Lib.hid hS;clear hS;refine aO (mF rfl (aG ak rfl) rfl rfl) ?_;go_simp;refine (sQ.out _).mono ?_;rintro e wr2 ⟨rfl,gZ⟩;have hS:Since bW wr2:=bT (w:=bW) aA.out gZ;clear aA;refine hK.out _ _ hS (fun _=>?_);clear hK K
         try simp only [pu]
         iterate 12
          apply dY;exact ak;exact rfl;exact hS;iterate 4 exact rfl
          · intro _ hqc;go_simp;try rfl
          try simp only [pu]
         iterate 2
          apply bg;exact ak;exact rfl;exact hS;exact rfl
          · intro _ hqc;go_simp;try rfl
          try simp only [pu]
         apply dY;exact ak;exact rfl;exact hS;iterate 4 exact rfl
         · intro _ hqc;go_simp;try rfl
         try simp only [pu]
         refine aT (i:=23) (aG ak rfl) (fun K hK=>?_);have aA:=Lib.hid hS;clear hS;refine aO (mF rfl (aG ak rfl) rfl rfl) ?_;go_simp;refine (tZ.out _ (HY.out.keep (bT iO.out aA.out))).mono ?_;rintro e wr3 ⟨rfl,tX⟩;have hS:Since bW wr3:=bT (w:=bW) aA.out tX;clear aA;refine hK.out _ _ hS (fun _=>?_);clear hK K
         try simp only [pu]
         iterate 12
          apply dY;exact ak;exact rfl;exact hS;iterate 4 exact rfl
          · intro _ hqc;go_simp;try rfl
          try simp only [pu]
         apply bg;exact ak;exact rfl;exact hS;exact rfl
         · intro _ hqc;go_simp;try rfl
         try simp only [pu]
         refine bM ?_;refine aC.down _ _ ?_;have hB:Below bW.heap.size bW wr3:=hS;clear hS aC ak;have hr:=Lib.hid (Ru.out m hlm hf.out);go_wp2_with fail;go_ret;exact ⟨eP hr.out.symm,bT HB4.out (bT HBc.out (bT iO.out hB))⟩
        case true =>
         have hf:=Lib.hid (show mP si nl[m]=true by rw [hfe.out];simp only [e1,e2,e3,e4,e5];rfl);have rE:=Lib.hid TO;have sQ:=Lib.hid TF;have tZ:=Lib.hid TL;clear TO TF TL hfe e1 e2 e4;refine bZ (Since bW) (.run 4 0 0 (.call 4 31 (.take 5 63 (.take 6 127 (.call 7 255 (.run 15 8 255 (.call 23 16777215 (.run 13 24 16777215 (.done))))))))) (by kernel_rfl) (bD (bR _)) (by kernel_rfl) (by kernel_rfl) (Nat.le_of_ble_eq_true (by kernel_rfl)) ?_;intro cO QR ak aC hS
         iterate 4
          apply bg;exact ak;exact rfl;exact hS;exact rfl
          · intro _ hqc;go_simp;try rfl
          try simp only [pu]
         refine aT (i:=4) (aG ak rfl) (fun K hK=>?_);have aA:=Lib.hid hS;clear hS;refine aO (aV rfl) ?_;go_simp;refine (rE.out _).mono ?_;rintro e bH ⟨rfl,bJ⟩;have hS:Since bW bH:=bT (w:=bW) aA.out bJ;clear aA;refine hK.out _ _ hS (fun _=>?_);clear hK K
         try simp only [pu]
         apply bg;exact ak;exact rfl;exact hS;exact rfl
         · intro _ hqc;go_simp;try rfl
         try simp only [pu]
         apply dY;exact ak;exact rfl;exact hS;iterate 4 exact rfl
         · intro _ hqc;go_simp;try rfl
         try simp only [pu]
         refine aT (i:=7) (aG ak rfl) (fun K hK=>?_);have aA:=Lib.hid hS;clear hS;refine aO (mF rfl (aG ak rfl) rfl rfl) ?_;go_simp;refine (sQ.out _).mono ?_;rintro e wr2 ⟨rfl,gZ⟩;have hS:Since bW wr2:=bT (w:=bW) aA.out gZ;clear aA;refine hK.out _ _ hS (fun _=>?_);clear hK K
         try simp only [pu]
         iterate 12
          apply dY;exact ak;exact rfl;exact hS;iterate 4 exact rfl
          · intro _ hqc;go_simp;try rfl
          try simp only [pu]
         iterate 2
          apply bg;exact ak;exact rfl;exact hS;exact rfl
          · intro _ hqc;go_simp;try rfl
          try simp only [pu]
         apply dY;exact ak;exact rfl;exact hS;iterate 4 exact rfl
         · intro _ hqc;go_simp;try rfl
         try simp only [pu]
         refine aT (i:=23) (aG ak rfl) (fun K hK=>?_);have aA:=Lib.hid hS;clear hS;refine aO (mF rfl (aG ak rfl) rfl rfl) ?_;go_simp;refine (tZ.out _ (HY.out.keep (bT iO.out aA.out))).mono ?_;rintro e wr3 ⟨rfl,tX⟩;have hS:Since bW wr3:=bT (w:=bW) aA.out tX;clear aA;refine hK.out _ _ hS (fun _=>?_);clear hK K
         try simp only [pu]
         iterate 12
          apply dY;exact ak;exact rfl;exact hS;iterate 4 exact rfl
          · intro _ hqc;go_simp;try rfl
          try simp only [pu]
         apply bg;exact ak;exact rfl;exact hS;exact rfl
         · intro _ hqc;go_simp;try rfl
         try simp only [pu]
         refine bM ?_;refine aC.down _ _ ?_;have hB:Below bW.heap.size bW wr3:=hS;clear hS aC ak;go_wp2_with fail;go_roundw
         case rel => exact ⟨m+1,by omega,by go_num,bT iO.out hB,all_succ (p:=fun n=>mP si n=true) yu.out hlm hf.out⟩
         case measure => simp [intOf];omega
      case true =>
       have hf:=Lib.hid (show mP si nl[m]=true by rw [hfe.out];simp only [e1,e2,e3];rfl);have rE:=Lib.hid TO;have sQ:=Lib.hid TF;have tZ:=Lib.hid TL;clear TO TF TL hfe e1 e2;refine bZ (Since bW) (.run 4 0 0 (.call 4 31 (.take 5 63 (.take 6 127 (.call 7 255 (.run 29 8 255 (.done))))))) (by kernel_rfl) (bD (bR _)) (by kernel_rfl) (by kernel_rfl) (Nat.le_of_ble_eq_true (by kernel_rfl)) ?_;intro cO QR ak aC hS
       iterate 4
        apply bg;exact ak;exact rfl;exact hS;exact rfl
        · intro _ hqc;go_simp;try rfl
        try simp only [pu]
       refine aT (i:=4) (aG ak rfl) (fun K hK=>?_);have aA:=Lib.hid hS;clear hS;refine aO (aV rfl) ?_;go_simp;refine (rE.out _).mono ?_;rintro e bH ⟨rfl,bJ⟩;have hS:Since bW bH:=bT (w:=bW) aA.out bJ;clear aA;refine hK.out _ _ hS (fun _=>?_);clear hK K
       try simp only [pu]
       apply bg;exact ak;exact rfl;exact hS;exact rfl
       · intro _ hqc;go_simp;try rfl
       try simp only [pu]
       apply dY;exact ak;exact rfl;exact hS;iterate 4 exact rfl
       · intro _ hqc;go_simp;try rfl
       try simp only [pu]
       refine aT (i:=7) (aG ak rfl) (fun K hK=>?_);have aA:=Lib.hid hS;clear hS;refine aO (mF rfl (aG ak rfl) rfl rfl) ?_;go_simp;refine (sQ.out _).mono ?_;rintro e wr2 ⟨rfl,gZ⟩;have hS:Since bW wr2:=bT (w:=bW) aA.out gZ;clear aA;refine hK.out _ _ hS (fun _=>?_);clear hK K
       try simp only [pu]
       iterate 12
        apply dY;exact ak;exact rfl;exact hS;iterate 4 exact rfl
        · intro _ hqc;go_simp;try rfl
        try simp only [pu]
       iterate 2
        apply bg;exact ak;exact rfl;exact hS;exact rfl
        · intro _ hqc;go_simp;try rfl
        try simp only [pu]
       iterate 14
        refine qH ak rfl hS rfl rfl rfl rfl rfl ?_
        try simp only [pu]
       apply bg;exact ak;exact rfl;exact hS;exact rfl
       · intro _ hqc;go_simp;try rfl
       try simp only [pu]
       refine bM ?_;refine aC.down _ _ ?_;have hB:Below bW.heap.size bW wr2:=hS;clear hS aC ak;go_wp2_with fail;go_roundw
       case rel => exact ⟨m+1,by omega,by go_num,bT iO.out hB,all_succ (p:=fun n=>mP si n=true) yu.out hlm hf.out⟩
       case measure => simp [intOf];omega
end Go.Proofs.YtialfdomhoojiaaGreat
