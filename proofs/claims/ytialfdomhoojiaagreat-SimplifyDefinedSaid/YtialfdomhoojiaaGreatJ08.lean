import Derived.Deep.CutBlock
import Derived.Test.YtialfdomhoojiaaGreatJ07
set_option linter.unusedSimpArgs false
set_option linter.unusedVariables false
set_option maxRecDepth 100000
set_option maxHeartbeats 16000000
namespace Go.Proofs.YtialfdomhoojiaaGreat
open Go.RowKit
theorem Row.psg {w:World} {A:Option Addr} {l:List dO} (h:Row w A (l.flatMap jV)) {k:Nat} (hk:k<l.length) :
  ∃ b o,A=some ⟨b,o,none⟩/\b<w.heap.size/\w.cell? ⟨b,o+k*2,none⟩=some (.pointer (some ⟨l[k].ln.g,0,none⟩))/\w.cell? ⟨b,o+k*2+1,none⟩=some (.int .i64 l[k].k):=by
 obtain ⟨b,o,hA,hb,hc⟩:=h.at_ (n:=2) (fun _=>rfl) hk Pe;exact ⟨b,o,hA,hb,hc 0 _ rfl,hc 1 _ rfl⟩
theorem free_eq (s:dO) (n:Nd):ou s n = !(dQ s.fst s.snd n.pt && !(((s.k:Int) == 0) && (s.ln.arc.fr == n.id)) && !(((s.k:Int) == (s.ln.path.length:Int)-2) && (s.ln.arc.dst == n.id))):=rfl
structure alp (f:Int->Pt) (nl:List Nd) (sl:List dO) (q:Bool):Prop where
 pair:∀ i j (_:i<j) (hj:j<sl.length),kK sl[j]<=rE (sl[i]'(by omega))->rF f (sl[i]'(by omega)) sl[j]=false->q=false
 node:∀ i (hi:i<sl.length) m (hm:m<nl.length),ou sl[i] nl[m]=false->q=false
 yes:(∀ i j (_:i<j) (hj:j<sl.length),kK sl[j]<=rE (sl[i]'(by omega))->rF f (sl[i]'(by omega)) sl[j]=true)->(∀ i (hi:i<sl.length) m (hm:m<nl.length),ou sl[i] nl[m]=true)->q=true
theorem verdict {p:Pl} (hp:Sound p) (hok:p.aj.all (nI p)=true) {sl:List dO} (hs:(sl.map dO.abs).Perm (p.aj.flatMap (iC p))):alp (nodeAt p) p.nodes sl (rC p):=by
 have hl:=hp.ale hok sl hs;refine ⟨fun i j hij hj hw hc=>?_,fun i hi m hm hf=>?_,fun h1 h2=>hl.1 ⟨h1,fun s hs n hn=>?_⟩⟩
 · rw [<- Bool.not_eq_true];intro hq;have:=(hl.2 hq).1 i j hij hj hw;rw [hc] at this;cases this
 · rw [<- Bool.not_eq_true];intro hq;have:=(hl.2 hq).2 _ (avF hi) _ (avF hm);rw [hf] at this;cases this
 ·obtain ⟨i,hi,rfl⟩:=avI.1 hs;obtain ⟨m,hm,rfl⟩:=avI.1 hn;exact h2 i hi m hm
theorem alq (v:Value) (p:Pl) (w:World) (h:bQ w v p) (hsh:Short p) (hl:(p.aj.flatMap (iC p)).length<=2097152) (hnl:p.nodes.length<=4096)
  (U4:∀ n∈p.nodes,eU n.id) (hp:Sound p) :
  Calls Tryz.prog 173 #[v] w fun e w'=>e=.returned (.bool (rC p))/\Below w.heap.size w w':=by
 have hno:=@Sound.alg p hp;have aem:=fun hok sl hs=>@verdict p hp hok sl hs;have hlast:=ali p hp.nodes;have har:∀ a∈p.aj,eU a.fr/\eU a.dst:=fun a ha=>by
  obtain ⟨⟨n1,h1,e1⟩,⟨n2,h2,e2⟩⟩:=hp.U2 ha;exact ⟨e1 ▸ U4 n1 h1,e2 ▸ U4 n2 h2⟩
 have aen:∀ x∈p.aj.flatMap (iC p),eU x.arc.fr/\eU x.arc.dst:=fun x hx=>har _ (hp.mem hx).1;have hseg:=akL v p;have alr:=avE hseg;have HP:=avE h;have Hno:=avE hno;have aeo:=avE aem;have aep:=avE aen;have Hsh:=avE hsh;have Hl:=avE hl;clear hno aem aen hseg hsh hl har hp;generalize rC p=q at *;obtain ⟨_,va,vf,al,rfl,-,⟨An,cn,rfl,hn1,hn2,hR⟩,-,-⟩:=h;unfold maxLen at hn2;have HR:=avE hR;clear hR;have hnw:∀ k (hk:k<p.nodes.length),eU p.nodes[k].id:=fun k hk=>U4 _ (avF hk);clear U4;have Qk:=avE hnw;clear hnw;generalize hF:nodeAt p=F at *;generalize hA:p.aj.flatMap (iC p)=AL at *;have als:=avE hlast;clear hlast hF;have HA:=avE hA;clear hA;generalize hNl:p.nodes=nl at *;have HNl:=avE hNl;clear hNl;go_enter Tryz.func173,Tryz.ntmps173;go_wp2_with fail;refine (alr.out _ (HP.out.mono (bA (bR w) _)) Hsh.out Hl.out).mono ?_;rintro e w1 ⟨hb1,hr⟩;have Bw:Below w.heap.size w w1:=bT (bA (bR w) _) hb1;have X1:ah w1 w.heap.size 26 #[.slice An nl.length cn,va,vf]:=(ah.made rfl _ _).keep hb1;clear hb1
 cases hok:p.aj.all (nI p)
 case false =>
  rw [hok] at hr;simp only [Bool.false_eq_true,if_false] at hr;subst hr;have hf:=avE (Hno.out hok);clear hok;obtain ⟨aS,aT,aU,aW,-,-,-⟩:=X1.aF;go_wp2;go_ret;exact ⟨aY hf.out.symm,Bw⟩
 case true =>
 rw [hok] at hr;simp only [if_true] at hr;obtain ⟨sl,vs,rfl,hsl,aer,hown⟩:=hr;rw [HA.out] at hsl;have aes:sl.length<=2097152:=by have:=congrArg List.length hsl;rw [avM] at this;have:=Hl.out;omega
 have hsz1:=Bw.size;have hs1:=Own.sl (Own.fG hown (b':=w.heap.size) ars);obtain ⟨As,cs,rfl,hs1,hs2,-⟩:=hs1;unfold maxLen at hs2;have aeu:=Own.lt hown;have gU:=avE (Own.fG hown (b':=w.heap.size) ars);have aev:=avE aer;have zu:=avE hsl;have gq:=avE X1;have aew:=avE (aeo.out hok);clear hsl aer hown hok;have hnb:=gU.out.iO X1 arC;have aex:=avE aeu;have Hnb:=avE hnb;clear aeu hnb
 try clear aS
 try clear aT
 try clear aU
 try clear aW
 obtain ⟨aS,aT,aU,aW,-,-,-⟩:=X1.aF;have KA:=avE (kX.made w1);have hmm:=@run_makeMap Tryz.prog;go_wp2_with fail;obtain ⟨W2,hW2⟩:∃ W2:World,W2=w1.alloc (.map #[] 0):=⟨_,rfl⟩;have Dh:Hid (kX W2 w1.heap.size 0 (fun _=>z0)):=by rw [hW2];exact KA
 have hA2:Below w1.heap.size w1 W2:=by rw [hW2];exact bA (bR w1) _
 have HB2:=avE hA2;rw [<- hW2];clear hmm hW2 hA2 X1 aS aT aU aW KA;have hx2:=HB2.out.size;go_loopw [27] (fun u wr=>∃ k:Nat,k<=nl.length/\u=.int .i64 k/\Below w1.heap.size w1 wr/\kX wr w1.heap.size k (Kz (nl.take k))) (fun u _=>nl.length-(intOf u).toNat)
 case atStart => exact ⟨0,avK _,rfl,HB2.out,Dh.out⟩
 case round =>
  obtain ⟨k,hk,rfl,hb,hm⟩:=hrel;have Hb:=avE hb;have Hm:=avE hm;have Nk:=hb.size;clear hb hm;by_cases hlt:k<nl.length
  case pos =>
   obtain ⟨b,o,rfl,hlb,c0,c1,c2⟩:=(HR.out.mono (bT Bw Hb.out)).nd hlt;obtain ⟨w3,hr3,qm,hg3⟩:=kX.upd (Hm.out.keep (bA (bR wr) (.cells #[.int .i64 nl[k].id,.int .i64 nl[k].pt.x,.int .i64 nl[k].pt.y] 45))) Pe nl[k].id (Qk.out k hlt) nl[k].pt;have hm4:kX w3 w1.heap.size (k+1) (Kz (nl.take (k+1))):=by rw [alh nl k hlt];exact qm
   have B3:Below w1.heap.size w1 w3:=bG (bA Hb.out _) hg3 (fun g hg=>by injection hg with hg;omega);have Hm4:=avE hm4;have HB3:=avE B3;unfold aK at hr3;clear qm hg3 hm4 B3;go_wp2;go_roundw
   case rel => exact ⟨k+1,by omega,by go_num,HB3.out,Hm4.out⟩
   case measure => simp [intOf];omega
  case neg =>
  have hall:nl.take k=nl:=List.take_of_length_le Pe;have hm:=Hm.out;rw [hall,als.out] at hm;have hkm:k<=4096:=by omega
  replace Hm:=avE hm;clear hm hall;go_wp2_with fail;refine (aln w.heap.size _ sl _ (gU.out.keep Hb.out) (fun s hs=>(aev.out s hs).keep Hb.out) Pe).mono ?_;rintro e w4 ⟨rfl,sl',hperm,hsort,hown',hok',hg⟩;have hps:(sl'.map dO.abs).Perm AL:=by
   have:=hperm.map dO.abs
   rw [zu.out] at this;exact this
  have hwf:∀ s∈sl',eU s.ln.arc.fr/\eU s.ln.arc.dst:=fun s hs=>by
   have:=aep.out s.abs (hps.mem_iff.1 (awd hs))
   exact this
  have hlen':sl'.length=sl.length:=hperm.length_eq;have B4:Below w.heap.size w w4:=bG (bT Bw Hb.out) hg (fun g hg'=>(gU.out.lt g hg').1);have hm4:kX w4 w1.heap.size k F:=Hm.out.kept hg (fun e=>by have:=(aex.out _ e.symm).2;omega);have X1:ah w4 w.heap.size 26 #[.slice An nl.length cn,va,vf]:=(gq.out.keep Hb.out).grown hg (fun e=>Hnb.out e.symm);have hV:=aew.out sl' hps;have hrow:Row w4 As (sl'.flatMap jV):=by
   obtain ⟨A0,c0,e0,-,-,hr0⟩:=Own.sl hown';injection e0 with e0 _ _;subst e0;exact hr0
  have HV:=avE hV;have dI:=avE X1;have KC:=avE hm4;have HB4:=avE B4;have IB:=avE hok';have aey:=avE hrow;have alu:=avE hsort;have NT:=avE hwf;clear hps hperm hsort hown' hok' hg hwf B4 hm4 X1 hV hrow gU aev zu aep aeo aew aex Hnb Hm Dh gq Hb HB2 Nk hx2;have auh:sl'.length<=2097152:=by rw [hlen'];exact aes
  rw [<- hlen'] at hs1 ⊢;clear hlen' aes;go_wp2_with fail;obtain ⟨wo,rfl⟩:∃ wo:World,wo=wr:=⟨_,rfl⟩;go_loopw [41] (fun u wr=>∃ i:Nat,i<=sl'.length/\u=.int .i64 i/\Below w4.heap.size w4 wr/\(∀ a b (_:a<b) (hb:b<sl'.length),a<i->kK sl'[b]<=rE (sl'[a]'(by omega))->rF F (sl'[a]'(by omega)) sl'[b]=true)/\(∀ a (ha:a<sl'.length) m (hm:m<nl.length),a<i->ou sl'[a] nl[m]=true)) (fun u _=>sl'.length-(intOf u).toNat)
  case atStart => exact ⟨0,avK _,rfl,bR w4,fun _ _ _ _ h=>by omega,fun _ _ _ _ h=>by omega⟩
  case round =>
   obtain ⟨i,hi,rfl,hb,Qa,CS⟩:=hrel;have Hb:=avE hb;have ZY:=avE Qa;have vV:=avE CS;clear hb Qa CS;by_cases hlt:i<sl'.length
   case neg =>
    have hf:=avE (HV.out.yes (fun a b hab hb hw=>ZY.out a b hab hb Pe hw) (fun a ha m hm=>vV.out a ha m hm Pe));go_wp2;go_ret;exact ⟨aY hf.out.symm,bT HB4.out Hb.out⟩
   obtain ⟨b,o,hAs,hlb,c0,c1⟩:=(aey.out.mono Hb.out).psg hlt;obtain ⟨Ac,Cc,FH⟩:∃ Ac Cc,Ac=vI As cs (i+1) 2/\Cc=cs-(i+1):=⟨_,_,rfl,rfl⟩;have aez:∀ W,(Instr.slice 224 (.slice As sl'.length cs) (some (.int .i64 ((i:Int)+1))) none none).run Tryz.prog W=.ok (.slice Ac (sl'.length-(i+1)) Cc) W:=fun W=>by
    rw [FH.1,FH.2];exact Uw Tryz.underlying224 aek As sl'.length cs (i+1) Pe _ Pe W
   have Ql:=avE FH;clear FH;subst hAs;obtain ⟨dl,hdl⟩:∃ dl,dl=sl'.drop (i+1):=⟨_,rfl⟩;have hdn:sl'.length-(i+1)=dl.length:=by rw [hdl,awl]
   have hdg:∀ j (hj:j<dl.length),∃ h:i+1+j<sl'.length,dl[j]=sl'[i+1+j]:=fun j hj=>by
    subst hdl;rw [awl] at hj;exact ⟨by omega,by simp⟩
   have aeA:Row w4 Ac (dl.flatMap jV):=by
    rw [Ql.out.1,hdl,<- YP jV 2 UW];exact aey.out.cut (by rw [flat_length jV 2 UW];omega)
   rw [hdn] at aez;have I9:=avE hdg;have aeB:=avE aeA;have HDn:=avE hdn;have hdb:dl.length<=2097152:=by omega
   clear hdl hdg aeA Ql hdn;have hsi:=avE ((IB.out _ (avF hlt)));have aeC:∀ j,i<j->∀ hj:j<sl'.length,kK sl'[j]<=rE sl'[i]->rF F sl'[i] sl'[j]=false->q=false:=fun j hij hj=>HV.out.pair i j hij hj;have hnodes:∀ m (hm:m<nl.length),ou sl'[i] nl[m]=false->q=false:=fun m hm=>HV.out.node i hlt m hm;have hdone:(∀ j,i<j->∀ hj:j<sl'.length,kK sl'[j]<=rE sl'[i]->rF F sl'[i] sl'[j]=true)->(∀ a b (_:a<b) (hb:b<sl'.length),a<i+1->kK sl'[b]<=rE (sl'[a]'(by omega))->rF F (sl'[a]'(by omega)) sl'[b]=true):=fun h a b hab hb ha=>by
    by_cases e:a<i
    · exact ZY.out a b hab hb e
    ·have:a=i:=by omega
     subst this;exact h b hab hb
   have aeD:(∀ m (hm:m<nl.length),ou sl'[i] nl[m]=true)->(∀ a (ha:a<sl'.length) m (hm:m<nl.length),a<i+1->ou sl'[a] nl[m]=true):=fun h a ha m hm hai=>by
    by_cases e:a<i
    · exact vV.out a ha m hm e
    ·have:a=i:=by omega
     subst this;exact h m hm
   have aeE:=NT.out _ (avF hlt);generalize aeF:sl'[i]=si at *;have Ja:=avE aeF;have aeG:=avE aeC;have U5:=avE hnodes;have aeH:=avE hdone;have alv:=avE aeD;have aeI:=avE aeE;clear aeF aeC hnodes hdone aeD ZY vV aeE;have Ny:IntKind.i64.wrap ((i:Int)+1)=(i:Int)+1:=avS _ Pe;have r3:0<=(i:Int)+1:=by omega
   have r4:(i:Int)+1<=sl'.length:=by omega
   have r5:((i:Int)+1).toNat=i+1:=by omega
   go_upto_block 4 with fail;obtain ⟨W5,kJ⟩:∃ W5:World,W5=wr.alloc (.cells #[.pointer (some ⟨si.ln.g,0,none⟩),.int .i64 si.k] 230):=⟨_,rfl⟩;have bC:=avE (show Below w4.heap.size w4 W5 by rw [kJ];exact bA Hb.out _);have X9:ah W5 wr.heap.size 230 #[.pointer (some ⟨si.ln.g,0,none⟩),.int .i64 si.k]:=by rw [kJ];exact ah.made rfl _ _
   have oh:=avE X9;rw [<- kJ];clear kJ X9 aez Ny r3 r4 r5 c0 c1 hlb;obtain ⟨wp,rfl⟩:∃ wp:World,wp=wr:=⟨_,rfl⟩;have TW:∀ s:dO,∀ W,iI W s->Calls Tryz.prog 228 #[jE s] W _:=fun s W h=>ZN s W h;have TE:∀ s:dO,∀ W,iI W s->Calls Tryz.prog 229 #[jE s] W _:=fun s W h=>akF s W h;have TC:∀ s t:dO,∀ W,iI W s->iI W t->kX W w1.heap.size k F->eU s.ln.arc.fr->eU s.ln.arc.dst->Calls Tryz.prog 230 #[jE s,jE t,.map (some w1.heap.size)] W _:=fun s t W h1 h2 h3 h4 h5=>akX F w1.heap.size k s t W h1 h2 h3 h4 h5;unfold jE at TW TE TC;have HTW:=avE TW;have HTE:=avE TE;have HTC:=avE TC;clear TW TE TC;go_cut [51] (fun u wx=>Below W5.heap.size W5 wx/\∀ j,i<j->∀ hj:j<sl'.length,kK sl'[j]<=rE si->rF F si sl'[j]=true)
   case first =>
    go_wp2_with fail;go_loopw [51] (fun u wx=>∃ j:Nat,j<=dl.length/\u=.int .i64 j/\Below W5.heap.size W5 wx/\∀ m (hm:m<dl.length),m<j->kK dl[m]<=rE si->rF F si dl[m]=true) (fun u _=>dl.length-(intOf u).toNat)
    case atStart => exact ⟨0,avK _,rfl,bR W5,fun _ _ h=>by omega⟩
    case round =>
     obtain ⟨j,hj,rfl,hbx,hnx⟩:=hrel;have iR:=avE hbx;have Bq:=avE hnx;have hxs:=hbx.size;have X9:=oh.out.keep hbx;clear hbx hnx;by_cases hlj:j<dl.length
     case neg =>
      have hf:=avE (show ∀ j,i<j->∀ hj:j<sl'.length,kK sl'[j]<=rE si->rF F si sl'[j]=true from fun m him hm hw=>by
       have hd:=HDn.out;obtain ⟨h1,h2⟩:=I9.out (m-(i+1)) Pe;have e:i+1+(m-(i+1))=m:=by omega
       simp only [e] at h2;have:=Bq.out (m-(i+1)) Pe Pe
       rw [h2] at this;exact this hw)
      go_wp2;go_meet
      case rel => exact ⟨iR.out,hf.out⟩
     obtain ⟨b',o',rfl,yZ,d0,d1⟩:=(aeB.out.mono (bT bC.out iR.out)).psg hlj;obtain ⟨hjs,hje⟩:=I9.out j hlj;have htj:=avE (IB.out _ (avF hjs));rw [<- hje] at htj;have hwj:=avE hje;clear hje;go_upto_region 17 with fail;obtain ⟨W7,U6⟩:∃ W7:World,W7=wr.alloc (.cells #[.pointer (some ⟨dl[j].ln.g,0,none⟩),.int .i64 dl[j].k] 230):=⟨_,rfl⟩;have U7:Below wr.heap.size wr W7:=by rw [U6];exact bA (bR wr) _
     have lF:ah W7 wr.heap.size 230 #[.pointer (some ⟨dl[j].ln.g,0,none⟩),.int .i64 dl[j].k]:=by rw [U6];exact ah.made rfl _ _
     rw [<- U6];replace X9:=X9.keep U7;have B7:=avE (bT bC.out (bT iR.out U7));have B7':=avE (bT iR.out U7);clear U6 U7 d0 d1 yZ;obtain ⟨lu,lC,lD,-,-⟩:=X9.aQ;obtain ⟨qJ,qK,tC,-,-⟩:=lF.aQ;refine dH (W7) (.take 0 1 (.take 2 5 (.call 1 7 (.call 3 15 (.take 4 31 (.done)))))) fun bZ QR aB aH hS=>?_
     iterate 2 refine aC ?_
     refine bK ?_;clear hS;intro K hK ak;go_simp;refine (HTW.out _ _ (htj.out.keep (bT B7.out ak.out))).mono ?_;rintro e cZ ⟨rfl,bW,-⟩;have hS:Since W7 cZ:=bT (w:=W7) ak.out bW;clear ak;refine hK.out _ _ hS (fun _=>?_);clear hK K
     try simp only [pu]
     refine bK ?_;clear hS;intro K hK ak;go_simp;refine (HTE.out _ _ (hsi.out.keep (bT B7.out ak.out))).mono ?_;rintro e wr2 ⟨rfl,iW,-⟩;have hS:Since W7 wr2:=bT (w:=W7) ak.out iW;clear ak;refine hK.out _ _ hS (fun _=>?_);clear hK K
     try simp only [pu]
     refine aC ?_;refine dB ?_;clear hS aH aB;intro hB;have B8:=avE (bT B7.out hB);have B8':=avE (bT B7'.out hB);replace X9:=X9.keep hB;replace lF:=lF.keep hB;clear hB
     try clear lu
     try clear lC
     try clear lD
     obtain ⟨lu,lC,lD,-,-⟩:=X9.aQ
     try clear qJ
     try clear qK
     try clear tC
     obtain ⟨qJ,qK,tC,-,-⟩:=lF.aQ;by_cases hw:rE si<kK dl[j]
     ·have hf:=avE (show ∀ j,i<j->∀ hj:j<sl'.length,kK sl'[j]<=rE si->rF F si sl'[j]=true from fun m him hm hwm=>by
       by_cases e:m<i+1+j
       ·have hd:=HDn.out;obtain ⟨h1,h2⟩:=I9.out (m-(i+1)) Pe;have e:i+1+(m-(i+1))=m:=by omega
        simp only [e] at h2;have:=Bq.out (m-(i+1)) Pe Pe
        rw [h2] at this;exact this hwm
       ·have hs:kK dl[j]<=kK sl'[m]:=by
         rw [hwj.out];by_cases e':m=i+1+j
         · subst e';exact Int.le_refl _
         · exact alu.out (i+1+j) m Pe hm
        omega)
      go_wp2;go_meet
      case rel => exact ⟨B8'.out,hf.out⟩
     ·have hw':=avE hw;go_wp2_with fail;refine (HTC.out _ _ _ (hsi.out.keep B8.out) (htj.out.keep B8.out) (KC.out.keep B8.out) aeI.out.1 aeI.out.2).mono ?_;rintro e w9 ⟨rfl,qh⟩;have B9:=avE (bT B8'.out qh);clear qh X9 lF lu lC lD qJ qK tC hw
      cases hc:rF F si dl[j]
      case false =>
       have hf:=avE (show false=q by
        have hq:=aeG.out (i+1+j) Pe hjs;rw [<- hwj.out] at hq;exact (hq (by have:=hw'.out;omega) hc).symm)
       clear hc;go_wp2;go_ret;exact ⟨aY hf.out,bT HB4.out (bT bC.out B9.out)⟩
      case true =>
       have hc':=avE hc;clear hc;go_wp2;go_roundw
       case rel => exact ⟨j+1,by omega,by go_num,B9.out,all_succ (p:=fun t=>kK t<=rE si->rF F si t=true) Bq.out hlj (fun _=>hc'.out)⟩
       case measure => simp [intOf];omega
   case rest =>
   obtain ⟨hbc,hpd⟩:=hcut;have Jb:=avE (aeH.out hpd);have HBc:=avE (bT bC.out hbc);have X9:=oh.out.keep hbc;replace oh:=avE X9;have X1:=dI.out.keep HBc.out;have HY:=avE (hsi.out.keep HBc.out);clear hbc hpd aeG aeH I9 aeB HDn X9 HTW HTE HTC hdb;have TS:∀ W,iI W si->Calls Tryz.prog 231 #[jE si] W _:=fun W hW=>Qd si W hW;have TO:∀ p q r:Pt,∀ W,Calls Tryz.prog 28 #[aK p,aK q,aK r] W _:=fun p q r W=>J8 p q r W;have TF:∀ W,Calls Tryz.prog 232 #[jE si] W _:=fun W=>adZ si W;have TL:∀ W,iI W si->Calls Tryz.prog 233 #[jE si] W _:=fun W hW=>ad1 si W hW;unfold jE at TS TF TL;unfold aK at TS TO;have HTS:=avE TS;have tH:=avE TO;have uJ:=avE TF;have wI:=avE TL;clear TS TO TF TL
   try clear aS
   try clear aT
   try clear aU
   try clear aW
   obtain ⟨aS,aT,aU,aW,-,-,-⟩:=X1.aF;go_wp2_with fail;clear X1 aS aT aU aW;go_loopw [69] (fun u wx=>∃ m:Nat,m<=nl.length/\u=.int .i64 m/\Below wc.heap.size wc wx/\∀ n (hn:n<nl.length),n<m->ou si nl[n]=true) (fun u _=>nl.length-(intOf u).toNat)
   case atStart => exact ⟨0,avK _,rfl,bR wc,fun _ _ h=>by omega⟩
   case round =>
    obtain ⟨m,hm,rfl,hbx,hnx⟩:=hrel;have iR:=avE hbx;have Bq:=avE hnx;have X9:=oh.out.keep hbx;clear hbx hnx;by_cases hlm:m<nl.length
    case neg =>
     have hf:=avE (alv.out (fun n hn=>Bq.out n hn Pe));clear X9;go_wp2;go_roundw
     case rel => exact ⟨i+1,by omega,by go_num,bT HBc.out iR.out,Jb.out,hf.out⟩
     case measure => simp [intOf];omega
    obtain ⟨b,o,rfl,hlb,c0,c1,c2⟩:=(HR.out.mono (bT HB4.out (bT HBc.out iR.out))).nd hlm
    try clear lu
    try clear lC
    try clear lD
    obtain ⟨lu,lC,lD,-,-⟩:=X9.aQ;go_wp2_with fail;refine (HTS.out _ (HY.out.keep (bA iR.out _))).mono ?_;rintro e w10 ⟨rfl,KD,-⟩;have hA10:Below wr.heap.size wr w10:=bT (bA (bR wr) _) KD;have Z5:ah w10 wr.heap.size 45 #[.int .i64 nl[m].id,.int .i64 nl[m].pt.x,.int .i64 nl[m].pt.y]:=(ah.made rfl _ _).keep KD;replace X9:=X9.keep hA10;replace iR:=avE (bT iR.out hA10);clear KD hA10 c0 c1 c2 hlb lu lC lD;go_upto_region 25 with fail;obtain ⟨gu,Qm⟩:∃ gu:World,gu=(w10.alloc (.cells #[.int .i64 si.fst.x,.int .i64 si.fst.y] 39)).alloc (.cells #[.int .i64 si.snd.x,.int .i64 si.snd.y] 39):=⟨_,rfl⟩;have U8:Below w10.heap.size w10 gu:=by rw [Qm];exact bA (bA (bR w10) _) _
    have ql:ah gu w10.heap.size 39 #[.int .i64 si.fst.x,.int .i64 si.fst.y]:=by rw [Qm];exact (ah.made rfl _ _).alloc _
    have X15:ah gu (w10.heap.size+1) 39 #[.int .i64 si.snd.x,.int .i64 si.snd.y]:=by rw [Qm];exact ah.made ars _ _
    rw [<- Qm];replace X9:=X9.keep U8;replace Z5:=Z5.keep U8;replace iR:=avE (bT iR.out U8);have Y:=(HY.out.keep iR.out).line;clear Qm U8
    try clear lu
    try clear lC
    try clear lD
    obtain ⟨lu,lC,lD,-,-⟩:=X9.aQ;obtain ⟨aui,auj,auk,aul,-,-,-⟩:=Z5.aF;obtain ⟨wE,wF,wG,-,-⟩:=ql.aQ;obtain ⟨aum,aun,auo,-,-⟩:=X15.aQ;obtain ⟨Yl,Ya,Yb,Yc,Yd,Ye,Yf,Yg,-,-,-,-,-,-,-⟩:=Y.IL;have hfe:=avE (free_eq si nl[m]);have TF:=uJ.out;have TL:=wI.out;have TO:=tH.out si.fst si.snd nl[m].pt
    cases e1:dQ si.fst si.snd nl[m].pt
    case false =>
     rw [e1] at TO;have hf:=avE (show ou si nl[m]=true by rw [hfe.out];simp only [e1];rfl);have tH:=avE TO;have uJ:=avE TF;have wI:=avE TL;clear TO TF TL hfe e1;refine dH (gu) (.run 4 0 0 (.call 4 31 (.run 32 5 31 (.done)))) fun bZ QR aB aH hS=>?_
     iterate 4 refine aC ?_
     refine bK ?_;clear hS;intro K hK ak;go_simp;refine (tH.out _).mono ?_;rintro e cZ ⟨rfl,bW⟩;have hS:Since gu cZ:=bT (w:=gu) ak.out bW;clear ak;refine hK.out _ _ hS (fun _=>?_);clear hK K
     try simp only [pu]
     refine aC ?_
     iterate 14 refine jC ?_
     iterate 2 refine aC ?_
     iterate 14 refine jC ?_
     refine aC ?_;refine dB ?_;clear hS aH aB;intro hB;go_wp2;go_roundw
     case rel => exact ⟨m+1,by omega,by go_num,bT iR.out hB,all_succ (p:=fun n=>ou si n=true) Bq.out hlm hf.out⟩
     case measure => simp [intOf];omega
    case true =>
     rw [e1] at TO
     cases e2:((si.k:Int) == 0)
     case false =>
      rw [e2] at TF
      cases e4:((si.k:Int) == (si.ln.path.length:Int)-2)
      case false =>
       rw [e4] at TL;have hf:=avE (show ou si nl[m]=false by rw [hfe.out];simp only [e1,e2,e4];rfl);have tH:=avE TO;have uJ:=avE TF;have wI:=avE TL;clear TO TF TL hfe e1 e2 e4;refine dH (gu) (.run 4 0 0 (.call 4 31 (.take 5 63 (.take 6 127 (.call 7 255 (.run 15 8 255 (.call 23 16777215 (.run 13 24 16777215 (.done))))))))) fun bZ QR aB aH hS=>?_
       iterate 4 refine aC ?_
       refine bK ?_;clear hS;intro K hK ak;go_simp;refine (tH.out _).mono ?_;rintro e cZ ⟨rfl,bW⟩;have hS:Since gu cZ:=bT (w:=gu) ak.out bW;clear ak;refine hK.out _ _ hS (fun _=>?_);clear hK K
       try simp only [pu]
       refine aC ?_;refine dN ?_;refine bK ?_;clear hS;intro K hK ak;go_simp;refine (uJ.out _).mono ?_;rintro e wr2 ⟨rfl,iW⟩;have hS:Since gu wr2:=bT (w:=gu) ak.out iW;clear ak;refine hK.out _ _ hS (fun _=>?_);clear hK K
       try simp only [pu]
       refine dN ?_
       iterate 9 refine jC ?_
       iterate 2 refine dN ?_
       iterate 2 refine aC ?_
       refine dN ?_;refine bK ?_;clear hS;intro K hK ak;go_simp;refine (wI.out _ (HY.out.keep (bT iR.out ak.out))).mono ?_;rintro e wr3 ⟨rfl,qj⟩;have hS:Since gu wr3:=bT (w:=gu) ak.out qj;clear ak;refine hK.out _ _ hS (fun _=>?_);clear hK K
       try simp only [pu]
       refine dN ?_
       iterate 9 refine jC ?_
       iterate 2 refine dN ?_
       refine aC ?_;refine dB ?_;clear hS aH aB;intro hB;have hr:=avE (U5.out m hlm hf.out);go_wp2;go_ret;exact ⟨aY hr.out.symm,bT HB4.out (bT HBc.out (bT iR.out hB))⟩
      case true =>
       rw [e4] at TL
       cases e5:(si.ln.arc.dst == nl[m].id)
       case false =>
        have hf:=avE (show ou si nl[m]=false by rw [hfe.out];simp only [e1,e2,e4,e5];rfl);have tH:=avE TO;have uJ:=avE TF;have wI:=avE TL;clear TO TF TL hfe e1 e2 e4;refine dH (gu) (.run 4 0 0 (.call 4 31 (.take 5 63 (.take 6 127 (.call 7 255 (.run 15 8 255 (.call 23 16777215 (.run 13 24 16777215 (.done))))))))) fun bZ QR aB aH hS=>?_
        iterate 4 refine aC ?_
        refine bK ?_;clear hS;intro K hK ak;go_simp;refine (tH.out _).mono ?_;rintro e cZ ⟨rfl,bW⟩;have hS:Since gu cZ:=bT (w:=gu) ak.out bW;clear ak;refine hK.out _ _ hS (fun _=>?_);clear hK K
        try simp only [pu]
        refine aC ?_;refine dN ?_;refine bK ?_;clear hS;intro K hK ak;go_simp;refine (uJ.out _).mono ?_;rintro e wr2 ⟨rfl,iW⟩;have hS:Since gu wr2:=bT (w:=gu) ak.out iW;clear ak;refine hK.out _ _ hS (fun _=>?_);clear hK K
        try simp only [pu]
        refine dN ?_
        iterate 9 refine jC ?_
        iterate 2 refine dN ?_
        iterate 2 refine aC ?_
        refine dN ?_;refine bK ?_;clear hS;intro K hK ak;go_simp;refine (wI.out _ (HY.out.keep (bT iR.out ak.out))).mono ?_;rintro e wr3 ⟨rfl,qj⟩;have hS:Since gu wr3:=bT (w:=gu) ak.out qj;clear ak;refine hK.out _ _ hS (fun _=>?_);clear hK K
        try simp only [pu]
        iterate 12 refine dN ?_
        refine aC ?_;refine dB ?_;clear hS aH aB;intro hB;have hr:=avE (U5.out m hlm hf.out);go_wp2;go_ret;exact ⟨aY hr.out.symm,bT HB4.out (bT HBc.out (bT iR.out hB))⟩
       case true =>
        have hf:=avE (show ou si nl[m]=true by rw [hfe.out];simp only [e1,e2,e4,e5];rfl);have tH:=avE TO;have uJ:=avE TF;have wI:=avE TL;clear TO TF TL hfe e1 e2 e4;refine dH (gu) (.run 4 0 0 (.call 4 31 (.take 5 63 (.take 6 127 (.call 7 255 (.run 15 8 255 (.call 23 16777215 (.run 13 24 16777215 (.done))))))))) fun bZ QR aB aH hS=>?_
        iterate 4 refine aC ?_
        refine bK ?_;clear hS;intro K hK ak;go_simp;refine (tH.out _).mono ?_;rintro e cZ ⟨rfl,bW⟩;have hS:Since gu cZ:=bT (w:=gu) ak.out bW;clear ak;refine hK.out _ _ hS (fun _=>?_);clear hK K
        try simp only [pu]
        refine aC ?_;refine dN ?_;refine bK ?_;clear hS;intro K hK ak;go_simp;refine (uJ.out _).mono ?_;rintro e wr2 ⟨rfl,iW⟩;have hS:Since gu wr2:=bT (w:=gu) ak.out iW;clear ak;refine hK.out _ _ hS (fun _=>?_);clear hK K
        try simp only [pu]
        refine dN ?_
        iterate 9 refine jC ?_
        iterate 2 refine dN ?_
        iterate 2 refine aC ?_
        refine dN ?_;refine bK ?_;clear hS;intro K hK ak;go_simp;refine (wI.out _ (HY.out.keep (bT iR.out ak.out))).mono ?_;rintro e wr3 ⟨rfl,qj⟩;have hS:Since gu wr3:=bT (w:=gu) ak.out qj;clear ak;refine hK.out _ _ hS (fun _=>?_);clear hK K
        try simp only [pu]
        iterate 12 refine dN ?_
        refine aC ?_;refine dB ?_;clear hS aH aB;intro hB;go_wp2;go_roundw
        case rel => exact ⟨m+1,by omega,by go_num,bT iR.out hB,all_succ (p:=fun n=>ou si n=true) Bq.out hlm hf.out⟩
        case measure => simp [intOf];omega
     case true =>
      rw [e2] at TF
      cases e3:(si.ln.arc.fr == nl[m].id)
      case false =>
       cases e4:((si.k:Int) == (si.ln.path.length:Int)-2)
       case false =>
        rw [e4] at TL;have hf:=avE (show ou si nl[m]=false by rw [hfe.out];simp only [e1,e2,e3,e4];rfl);have tH:=avE TO;have uJ:=avE TF;have wI:=avE TL;clear TO TF TL hfe e1 e2 e4;refine dH (gu) (.run 4 0 0 (.call 4 31 (.take 5 63 (.take 6 127 (.call 7 255 (.run 15 8 255 (.call 23 16777215 (.run 13 24 16777215 (.done))))))))) fun bZ QR aB aH hS=>?_
        iterate 4 refine aC ?_
        refine bK ?_;clear hS;intro K hK ak;go_simp;refine (tH.out _).mono ?_;rintro e cZ ⟨rfl,bW⟩;have hS:Since gu cZ:=bT (w:=gu) ak.out bW;clear ak;refine hK.out _ _ hS (fun _=>?_);clear hK K
        try simp only [pu]
        refine aC ?_;refine dN ?_;refine bK ?_;clear hS;intro K hK ak;go_simp;refine (uJ.out _).mono ?_;rintro e wr2 ⟨rfl,iW⟩;have hS:Since gu wr2:=bT (w:=gu) ak.out iW;clear ak;refine hK.out _ _ hS (fun _=>?_);clear hK K
        try simp only [pu]
        iterate 12 refine dN ?_
        iterate 2 refine aC ?_
        refine dN ?_;refine bK ?_;clear hS;intro K hK ak;go_simp;refine (wI.out _ (HY.out.keep (bT iR.out ak.out))).mono ?_;rintro e wr3 ⟨rfl,qj⟩;have hS:Since gu wr3:=bT (w:=gu) ak.out qj;clear ak;refine hK.out _ _ hS (fun _=>?_);clear hK K
        try simp only [pu]
        refine dN ?_
        iterate 9 refine jC ?_
        iterate 2 refine dN ?_
        refine aC ?_;refine dB ?_;clear hS aH aB;intro hB;have hr:=avE (U5.out m hlm hf.out);go_wp2;go_ret;exact ⟨aY hr.out.symm,bT HB4.out (bT HBc.out (bT iR.out hB))⟩
       case true =>
        rw [e4] at TL
        cases e5:(si.ln.arc.dst == nl[m].id)
        case false =>
         have hf:=avE (show ou si nl[m]=false by rw [hfe.out];simp only [e1,e2,e3,e4,e5];rfl);have tH:=avE TO;have uJ:=avE TF;have wI:=avE TL;clear TO TF TL hfe e1 e2 e4;refine dH (gu) (.run 4 0 0 (.call 4 31 (.take 5 63 (.take 6 127 (.call 7 255 (.run 15 8 255 (.call 23 16777215 (.run 13 24 16777215 (.done))))))))) fun bZ QR aB aH hS=>?_
         iterate 4 refine aC ?_
         refine bK ?_;clear hS;intro K hK ak;go_simp;refine (tH.out _).mono ?_;rintro e cZ ⟨rfl,bW⟩;have hS:Since gu cZ:=bT (w:=gu) ak.out bW;clear ak;refine hK.out _ _ hS (fun _=>?_);clear hK K
         try simp only [pu]
         refine aC ?_;refine dN ?_;refine bK ?_;clear hS;intro K hK ak;go_simp;refine (uJ.out _).mono ?_;rintro e wr2 ⟨rfl,iW⟩;have hS:Since gu wr2:=bT (w:=gu) ak.out iW;clear ak;refine hK.out _ _ hS (fun _=>?_);clear hK K
         try simp only [pu]
         iterate 12 refine dN ?_
         iterate 2 refine aC ?_
         refine dN ?_;refine bK ?_;clear hS;intro K hK ak;go_simp;refine (wI.out _ (HY.out.keep (bT iR.out ak.out))).mono ?_;rintro e wr3 ⟨rfl,qj⟩;have hS:Since gu wr3:=bT (w:=gu) ak.out qj;clear ak;refine hK.out _ _ hS (fun _=>?_);clear hK K
         try simp only [pu]
         iterate 12 refine dN ?_
         refine aC ?_;refine dB ?_;clear hS aH aB;intro hB;have hr:=avE (U5.out m hlm hf.out);go_wp2;go_ret;exact ⟨aY hr.out.symm,bT HB4.out (bT HBc.out (bT iR.out hB))⟩
        case true =>
         have hf:=avE (show ou si nl[m]=true by rw [hfe.out];simp only [e1,e2,e3,e4,e5];rfl);have tH:=avE TO;have uJ:=avE TF;have wI:=avE TL;clear TO TF TL hfe e1 e2 e4;refine dH (gu) (.run 4 0 0 (.call 4 31 (.take 5 63 (.take 6 127 (.call 7 255 (.run 15 8 255 (.call 23 16777215 (.run 13 24 16777215 (.done))))))))) fun bZ QR aB aH hS=>?_
         iterate 4 refine aC ?_
         refine bK ?_;clear hS;intro K hK ak;go_simp;refine (tH.out _).mono ?_;rintro e cZ ⟨rfl,bW⟩;have hS:Since gu cZ:=bT (w:=gu) ak.out bW;clear ak;refine hK.out _ _ hS (fun _=>?_);clear hK K
         try simp only [pu]
         refine aC ?_;refine dN ?_;refine bK ?_;clear hS;intro K hK ak;go_simp;refine (uJ.out _).mono ?_;rintro e wr2 ⟨rfl,iW⟩;have hS:Since gu wr2:=bT (w:=gu) ak.out iW;clear ak;refine hK.out _ _ hS (fun _=>?_);clear hK K
         try simp only [pu]
         iterate 12 refine dN ?_
         iterate 2 refine aC ?_
         refine dN ?_;refine bK ?_;clear hS;intro K hK ak;go_simp;refine (wI.out _ (HY.out.keep (bT iR.out ak.out))).mono ?_;rintro e wr3 ⟨rfl,qj⟩;have hS:Since gu wr3:=bT (w:=gu) ak.out qj;clear ak;refine hK.out _ _ hS (fun _=>?_);clear hK K
         try simp only [pu]
         iterate 12 refine dN ?_
         refine aC ?_;refine dB ?_;clear hS aH aB;intro hB;go_wp2;go_roundw
         case rel => exact ⟨m+1,by omega,by go_num,bT iR.out hB,all_succ (p:=fun n=>ou si n=true) Bq.out hlm hf.out⟩
         case measure => simp [intOf];omega
      case true =>
       have hf:=avE (show ou si nl[m]=true by rw [hfe.out];simp only [e1,e2,e3];rfl);have tH:=avE TO;have uJ:=avE TF;have wI:=avE TL;clear TO TF TL hfe e1 e2;refine dH (gu) (.run 4 0 0 (.call 4 31 (.take 5 63 (.take 6 127 (.call 7 255 (.run 29 8 255 (.done))))))) fun bZ QR aB aH hS=>?_
       iterate 4 refine aC ?_
       refine bK ?_;clear hS;intro K hK ak;go_simp;refine (tH.out _).mono ?_;rintro e cZ ⟨rfl,bW⟩;have hS:Since gu cZ:=bT (w:=gu) ak.out bW;clear ak;refine hK.out _ _ hS (fun _=>?_);clear hK K
       try simp only [pu]
       refine aC ?_;refine dN ?_;refine bK ?_;clear hS;intro K hK ak;go_simp;refine (uJ.out _).mono ?_;rintro e wr2 ⟨rfl,iW⟩;have hS:Since gu wr2:=bT (w:=gu) ak.out iW;clear ak;refine hK.out _ _ hS (fun _=>?_);clear hK K
       try simp only [pu]
       iterate 12 refine dN ?_
       iterate 2 refine aC ?_
       iterate 14 refine jC ?_
       refine aC ?_;refine dB ?_;clear hS aH aB;intro hB;go_wp2;go_roundw
       case rel => exact ⟨m+1,by omega,by go_num,bT iR.out hB,all_succ (p:=fun n=>ou si n=true) Bq.out hlm hf.out⟩
       case measure => simp [intOf];omega
theorem alx (p:Pl) (a:Ar):hasB (p.nodes.map (·.id)) a=jD p a:=by
 have h:∀ id:Int,(p.nodes.map (·.id)).any (fun y=>y == id)=(mP p.nodes id).isSome:=fun id=>by
  unfold mP;rw [List.any_map,Bool.eq_iff_iff,awg,List.find?_isSome];rfl
 unfold hasB jD;rw [h,h]
theorem aeJ (p:Pl):Bl p (p.nodes.map (·.id))=if y8 (p.nodes.map (·.pt))=true then 8 else if p.aj.all (jD p)=false then 7 else if Bj p=false then 12 else 0:=by
 unfold Bl
 have:hasB (p.nodes.map (·.id))=jD p:=funext fun a=>alx p a
 rw [this]
theorem aly (p:Pl) (h:nC p=false):nZ p=if wu p=false then 10 else if qZ p=false then 2 else if Bl p (p.nodes.map (·.id))=0 then (if rC p=false then 11 else 0) else Bl p (p.nodes.map (·.id)):=by
 unfold nZ;rw [h,aeJ];rw [if_neg (show ¬ false=true by decide)];split
 · rfl
 split
 · rfl
 split
 · rfl
 split
 · rfl
 split
 · rfl
 · rfl
theorem alz (p:Pl) (h:Bl p (p.nodes.map (·.id))=0):∀ a∈p.aj,jD p a=true:=by
 rw [aeJ] at h
 cases h2:p.aj.all (jD p)
 ·rw [h2] at h;split at h
  · omega
  · simp at h
 · exact awh.1 h2
theorem alA (p:Pl):Ko p=(vU p).all iP:=by
 unfold Ko vU;have h:∀ l:List Pt,(!l.any oO)=l.all iP:=fun l=>by
  induction l with
  | nil=>rfl
  | cons a l ih=>rw [List.any_cons,List.all_cons,Bool.not_or,ih,aj0,Bool.not_not]
 rw [List.all_append,List.all_flatMap,List.all_map];have h1:(!p.nodes.any fun n=>oO n.pt)=p.nodes.all (iP ∘ fun n=>n.pt):=by
  have:=h (p.nodes.map (·.pt))
  rw [List.any_map,List.all_map] at this;exact this
 have h2:(!p.aj.any fun a=>a.via.any oO)=p.aj.all fun a=>a.via.all iP:=by
  rw [List.not_any_eq_all_not];congr 1
  funext a
  exact h a.via
 rw [h1,h2]
theorem Qn (p:Pl):qZ p=(!(p.nodes.map (·.id)).any mX && !(p.aj.map (·.id)).any mX && !p.faces.any mX && Ko p):=by
 unfold qZ;rw [alA,List.any_append,List.any_append,Bool.not_or,Bool.not_or]
theorem alB {α:Type} {l:List α} {q:α->Bool} (h:l.any q=false):∀ x∈l,q x=false:=fun x hx=>by
 rw [List.any_eq_false] at h;have:=h x hx
 simpa using this
theorem alC {l:List Nd} (h:(l.map (·.id)).any mX=false):∀ n∈l,eU n.id:=fun n hn=>by
 have:=alB h n.id (awd hn)
 simp only [mX,Bool.or_eq_false_iff,avX] at this;exact qX Pe Pe
theorem alD {p:Pl} (h:nC p=false):(p.aj.flatMap (iC p)).length<=2097152:=by
 obtain ⟨h1,h2,h3,h4,h5⟩:=UQ h;have hl:=adV p.aj (iC p) 65 (fun a ha=>by
  simp only [iC,avM,List.length_range];unfold pathOf
  cases hb:findAr p.aj a.id with
  | none=>simp
  | some b =>
   simp only [];split
   ·have:=h1 b (CW hb)
    simp only [avU,ig];omega
   · simp)
 omega
theorem aeK (v:Value) (p:Pl) (w:World) (h:bQ w v p) :
  Calls Tryz.prog 115 #[v] w fun e w'=>e=.returned (.int .i64 (nZ p))/\Below w.heap.size w w':=by
 have HP:=avE h;obtain ⟨_,_,_,al,rfl,hpa,⟨An,cn,rfl,hn1,hn2,-⟩,⟨⟨Aa,ca,rfl,ha1,ha2,gV⟩,hV⟩,hF⟩:=h;have HF:=avE hF;obtain ⟨Af,cf,rfl,hf1,hf2,-⟩:=hF;unfold maxLen at hn2 ha2 hf2;have HV:=avE hV;clear hV;have jr:=avE gV;clear gV;obtain ⟨q,hq⟩:∃ q,nZ p=q:=⟨_,rfl⟩;rw [hq];have hq2:=hq;unfold nZ at hq;have hbig:256<p.nodes.length\/256<al.length\/64<p.faces.length->3=q:=fun hh=>by
  rw [<- hq,if_pos];unfold nC;rw [hpa,avM];simp only [Bool.or_eq_true,avQ];omega
 have Ee:∀ k (hk:k<al.length),64<al[k].1.via.length->3=q:=fun k hk hh=>by
  rw [<- hq,if_pos];unfold nC;rw [hpa,List.any_map];have:=vO al ((fun a=>decide (64<a.via.length)) ∘ fun x=>x.1) k hk (by simpa using hh)
  rw [this];rfl
 have hsmall:¬ 256<p.nodes.length->¬ 256<al.length->¬ 64<p.faces.length->(∀ k (hk:k<al.length),¬ 64<al[k].1.via.length)->nC p=false:=fun h1 h2 h3 h4=>by
  unfold nC;rw [hpa,avM,List.any_map];have:=y7 al ((fun a=>decide (64<a.via.length)) ∘ fun x=>x.1) (fun j hj=>by have:=h4 j hj;simpa using this)
  rw [this,avV h1,avV h2,avV h3];rfl
 have Hq:=avE hq2;have Di:=avE hbig;have aeL:=avE Ee;have aeM:=avE hsmall;have IC:=avE hpa;clear hq hq2 hbig Ee hsmall hpa;go_enter Tryz.func115,Tryz.ntmps115;by_cases g1:256<p.nodes.length
 ·have hf:=avE (Di.out (.inl g1));go_wp2;go_ret;exact ⟨dL hf.out,bA (bR w) _⟩
 by_cases g2:256<al.length
 ·have hf:=avE (Di.out (.inr (.inl g2)));go_wp2;go_ret;exact ⟨dL hf.out,bA (bR w) _⟩
 by_cases g3:64<p.faces.length
 ·have hf:=avE (Di.out (.inr (.inr g3)));go_wp2;go_ret;exact ⟨dL hf.out,bA (bR w) _⟩
 go_wp2_with fail;obtain ⟨W1,hW1⟩:∃ W1:World,W1=w.alloc (.cells #[.slice An p.nodes.length cn,.slice Aa al.length ca,.slice Af p.faces.length cf] 26):=⟨_,rfl⟩;have HB1:=avE (show Below w.heap.size w W1 by rw [hW1];exact bA (bR w) _);have gq:Hid (ah W1 w.heap.size 26 #[.slice An p.nodes.length cn,.slice Aa al.length ca,.slice Af p.faces.length cf]):=avE (by rw [hW1];exact ah.made rfl _ _);rw [<- hW1];clear hW1;go_loopw [26] (fun u wr=>∃ k:Nat,k<=al.length/\u=.int .i64 k/\Below W1.heap.size W1 wr/\∀ j (hj:j<al.length),j<k->¬ 64<al[j].1.via.length) (fun u _=>al.length-(intOf u).toNat)
 case atStart => exact ⟨0,avK _,rfl,bR W1,fun _ _ h=>by omega⟩
 case round =>
 obtain ⟨k,hk,rfl,hb,hno⟩:=hrel;have Hb:=avE hb;have Hno:=avE hno;have X1:=gq.out.keep hb;clear hb hno;obtain ⟨aS,aT,aU,aW,-,-,-⟩:=X1.aF;by_cases hlt:k<al.length
 case pos =>
  obtain ⟨b,o,rfl,hlb,c0,c1,c2,c3,c4,c5⟩:=(jr.out.mono (bT HB1.out Hb.out)).ar hlt;obtain ⟨Av,cv,hv,hv1,hv2,-⟩:=HV.out k hlt;unfold maxLen at hv2;rw [hv] at c3;clear hv;by_cases hbig:64<al[k].1.via.length
  ·have hf:=avE (aeL.out k hlt hbig);go_wp2;go_ret;exact ⟨dL hf.out,bT HB1.out (bA Hb.out _)⟩
  ·have hb':=avE hbig;go_wp2;go_roundw
   case rel => exact ⟨k+1,by omega,by go_num,bA Hb.out _,all_succ (p:=fun a=>¬ 64<a.1.via.length) Hno.out hlt hb'.out⟩
   case measure => simp [intOf];omega
 case neg =>
 have hlim:=aeM.out g1 g2 g3 (fun j hj=>Hno.out j hj Pe);have hlen:=alD hlim;have hq:=Hq.out;rw [aly p hlim] at hq;have aup:=avE hlim;have HLen:=avE hlen;have hsh:Short p:=fun a ha=>by have:=(UQ hlim).1 a ha;omega
 have iL:=avE hsh;replace Hq:=avE hq;have alE:p.aj.length<=4096:=by rw [IC.out,avM];omega
 clear hlim hlen hsh hq Di aeL aeM HV jr Hno;have Bw:=bT HB1.out Hb.out;clear Hb;go_wp2_with fail;refine (aj3 _ p _ (HP.out.mono Bw) Pe alE).mono ?_;rintro e w2 ⟨v2,u2,rfl,hb2,ho1,ho2⟩;have ku:=avE (Own.sl ho1);have iU:=avE (Own.sl ho2);replace Bw:=bT Bw hb2;replace X1:=X1.keep hb2;clear hb2 ho1 ho2
 try clear aS
 try clear aT
 try clear aU
 try clear aW
 obtain ⟨aS,aT,aU,aW,-,-,-⟩:=X1.aF;obtain ⟨wz,rfl⟩:∃ wz:World,wz=w2:=⟨_,rfl⟩;go_wp2_with fail;refine (Zf _ _ _ ku.out).mono ?_;rintro e w3 ⟨rfl,hb3⟩;have B3:=hb3;replace X1:=X1.keep hb3;clear hb3
 try clear aS
 try clear aT
 try clear aU
 try clear aW
 obtain ⟨aS,aT,aU,aW,-,-,-⟩:=X1.aF
 cases h1:sV (p.nodes.map (·.id))
 case false =>
  have hf:=avE (show 10=q by rw [<- Hq.out,if_pos (by simp [wu,h1])]);clear h1;go_wp2;go_ret;exact ⟨dL hf.out,bT Bw B3⟩
 have H1:=avE h1;clear h1;go_wp2_with fail;refine (Zf _ _ _ (iU.out.mono B3)).mono ?_;rintro e w4 ⟨rfl,hb4⟩;have B4:=bT B3 hb4;replace X1:=X1.keep hb4;clear hb4 B3
 try clear aS
 try clear aT
 try clear aU
 try clear aW
 obtain ⟨aS,aT,aU,aW,-,-,-⟩:=X1.aF
 cases h1:sV (p.aj.map (·.id))
 case false =>
  have hf:=avE (show 10=q by rw [<- Hq.out,if_pos (by simp [wu,h1])]);clear h1;go_wp2;go_ret;exact ⟨dL hf.out,bT Bw B4⟩
 have H2:=avE h1;clear h1;go_wp2_with fail;refine (Zf _ _ _ (HF.out.mono (bT Bw B4))).mono ?_;rintro e w5 ⟨rfl,hb5⟩;have B5:=bT B4 hb5;replace X1:=X1.keep hb5;clear hb5 B4
 try clear aS
 try clear aT
 try clear aU
 try clear aW
 obtain ⟨aS,aT,aU,aW,-,-,-⟩:=X1.aF
 cases h1:sV p.faces
 case false =>
  have hf:=avE (show 10=q by rw [<- Hq.out,if_pos (by simp [wu,h1])]);clear h1;go_wp2;go_ret;exact ⟨dL hf.out,bT Bw B5⟩
 have hq:=Hq.out;rw [if_neg (show ¬ wu p=false by simp [wu,h1,H1.out,H2.out])] at hq;replace Hq:=avE hq;clear hq h1;go_wp2_with fail;refine (Zi _ _ _ (ku.out.mono B5)).mono ?_;rintro e w6 ⟨rfl,hb6⟩;have B6:=bT B5 hb6;replace X1:=X1.keep hb6;clear hb6 B5
 try clear aS
 try clear aT
 try clear aU
 try clear aW
 obtain ⟨aS,aT,aU,aW,-,-,-⟩:=X1.aF
 cases h1:(p.nodes.map (·.id)).any mX
 case true =>
  have hf:=avE (show 2=q by rw [<- Hq.out,if_pos (by rw [Qn,h1];rfl)]);clear h1;go_wp2;go_ret;exact ⟨dL hf.out,bT Bw B6⟩
 have H3:=avE h1;clear h1;go_wp2_with fail;refine (Zi _ _ _ (iU.out.mono B6)).mono ?_;rintro e w7 ⟨rfl,hb7⟩;have B7:=bT B6 hb7;replace X1:=X1.keep hb7;clear hb7 B6
 try clear aS
 try clear aT
 try clear aU
 try clear aW
 obtain ⟨aS,aT,aU,aW,-,-,-⟩:=X1.aF
 cases h1:(p.aj.map (·.id)).any mX
 case true =>
  have hf:=avE (show 2=q by rw [<- Hq.out,if_pos (by rw [Qn,h1];simp)]);clear h1;go_wp2;go_ret;exact ⟨dL hf.out,bT Bw B7⟩
 have H4:=avE h1;clear h1;go_wp2_with fail;refine (Zi _ _ _ (HF.out.mono (bT Bw B7))).mono ?_;rintro e w8 ⟨rfl,hb8⟩;have B8:=bT B7 hb8;replace X1:=X1.keep hb8;clear hb8 B7
 try clear aS
 try clear aT
 try clear aU
 try clear aW
 obtain ⟨aS,aT,aU,aW,-,-,-⟩:=X1.aF
 cases h1:p.faces.any mX
 case true =>
  have hf:=avE (show 2=q by rw [<- Hq.out,if_pos (by rw [Qn,h1];simp)]);clear h1;go_wp2;go_ret;exact ⟨dL hf.out,bT Bw B8⟩
 have H5:=avE h1;clear h1;go_wp2_with fail;refine (aj1 _ p _ (HP.out.mono (bT Bw B8))).mono ?_;rintro e w9 ⟨rfl,qh⟩;have B9:=bT B8 qh;replace X1:=X1.keep qh;clear qh B8
 try clear aS
 try clear aT
 try clear aU
 try clear aW
 obtain ⟨aS,aT,aU,aW,-,-,-⟩:=X1.aF
 cases h1:Ko p
 case false =>
  have hf:=avE (show 2=q by rw [<- Hq.out,if_pos (by rw [Qn,h1];simp)]);clear h1;go_wp2;go_ret;exact ⟨dL hf.out,bT Bw B9⟩
 have hq:=Hq.out;rw [if_neg (show ¬ qZ p=false by rw [Qn,h1,H3.out,H4.out,H5.out];decide)] at hq;replace Hq:=avE hq;clear hq h1;go_wp2_with fail;refine (akB _ _ p _ _ (HP.out.mono (bT Bw B9)) (ku.out.mono B9)).mono ?_;rintro e w10 ⟨rfl,KD⟩;have B10:=bT B9 KD;replace X1:=X1.keep KD;clear KD B9
 try clear aS
 try clear aT
 try clear aU
 try clear aW
 obtain ⟨aS,aT,aU,aW,-,-,-⟩:=X1.aF;by_cases h1:Bl p (p.nodes.map (·.id))=0
 case neg =>
  have hf:=avE (show Bl p (p.nodes.map (·.id))=q by rw [<- Hq.out,if_neg h1]);generalize Bl p (p.nodes.map (·.id))=c at *;go_wp2;go_ret;exact ⟨dL hf.out,bT Bw B10⟩
 have hq:=Hq.out;rw [if_pos h1] at hq;replace Hq:=avE hq;have alF:=avE (alz p h1);rw [h1];clear hq h1;have tJ:Hid (Sound p):=avE ⟨Qj _ H1.out,Qj _ H2.out,alF.out⟩;go_wp2_with fail;refine (alq _ p _ (HP.out.mono (bT Bw B10)) iL.out HLen.out Pe (alC H3.out) tJ.out).mono ?_;rintro e Jc ⟨rfl,Jd⟩;have B11:=bT B10 Jd;clear Jd B10 X1 aS aT aU aW
 cases h1:rC p
 case false =>
  have hf:=avE (show 11=q by rw [<- Hq.out,if_pos h1]);clear h1;go_wp2;go_ret;exact ⟨dL hf.out,bT Bw B11⟩
 case true =>
  have hf:=avE (show 0=q by rw [<- Hq.out,if_neg (by rw [h1];decide)]);clear h1;go_wp2;go_ret;exact ⟨dL hf.out,bT Bw B11⟩
end Go.Proofs.YtialfdomhoojiaaGreat
