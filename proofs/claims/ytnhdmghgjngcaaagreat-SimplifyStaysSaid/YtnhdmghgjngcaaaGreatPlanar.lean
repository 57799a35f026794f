import Derived.Deep.CutBlock
import Derived.Test.YtnhdmghgjngcaaaGreatJ06
import Derived.Test.YtnhdmghgjngcaaaGreatSortB
import Derived.Test.YtnhdmghgjngcaaaGreatGB
set_option linter.unusedSimpArgs false
set_option linter.unusedVariables false
namespace Go.Proofs.YtnhdmghgjngcaaaGreat
open Go.RowKit

theorem Row.psg {w:World} {A:Option Addr} {l:List PSg} (h:Row w A (l.flatMap psgC)) {k:Nat} (hk:k<l.length) :
  ∃ b o,A=some ⟨b,o,none⟩∧b<w.heap.size∧w.cell? ⟨b,o+k*2,none⟩=some (.pointer (some ⟨l[k].ln.g,0,none⟩))∧w.cell? ⟨b,o+k*2+1,none⟩=some (.int .i64 l[k].k):=by
 obtain ⟨b,o,hA,hb,hc⟩:=h.at_ (n:=2) (fun _=>rfl) hk (by omega)
 exact ⟨b,o,hA,hb,hc 0 _ rfl,hc 1 _ rfl⟩

theorem free_eq (s:PSg) (n:Nd):freeS s n = !(onS s.fst s.snd n.pt && !(((s.k:Int) == 0) && (s.ln.arc.fr == n.id)) && !(((s.k:Int) == (s.ln.path.length:Int)-2) && (s.ln.arc.dst == n.id))):=rfl

structure Verdict (f:Int→Pt) (nl:List Nd) (sl:List PSg) (q:Bool):Prop where
 pair:∀ i j (_:i<j) (hj:j<sl.length),westS sl[j]≤eastS (sl[i]'(by omega))→compatS f (sl[i]'(by omega)) sl[j]=false→q=false
 node:∀ i (hi:i<sl.length) m (hm:m<nl.length),freeS sl[i] nl[m]=false→q=false
 yes:(∀ i j (_:i<j) (hj:j<sl.length),westS sl[j]≤eastS (sl[i]'(by omega))→compatS f (sl[i]'(by omega)) sl[j]=true)→(∀ i (hi:i<sl.length) m (hm:m<nl.length),freeS sl[i] nl[m]=true)→q=true
theorem verdict {p:Pl} (hp:Sound p) (hok:p.arcs.all (arcOk p)=true) {sl:List PSg} (hs:(sl.map PSg.abs).Perm (p.arcs.flatMap (absOf p))):Verdict (nodeAt p) p.nodes sl (planarR p):=by
 have hl:=hp.planar_yes hok sl hs
 refine ⟨fun i j hij hj hw hc=>?_,fun i hi m hm hf=>?_,fun h1 h2=>hl.1 ⟨h1,fun s hs n hn=>?_⟩⟩
 · rw [← Bool.not_eq_true];intro hq;have:=(hl.2 hq).1 i j hij hj hw;rw [hc] at this;cases this
 · rw [← Bool.not_eq_true];intro hq;have:=(hl.2 hq).2 _ (List.getElem_mem hi) _ (List.getElem_mem hm);rw [hf] at this;cases this
 ·
  obtain ⟨i,hi,rfl⟩:=List.mem_iff_getElem.1 hs
  obtain ⟨m,hm,rfl⟩:=List.mem_iff_getElem.1 hn
  exact h2 i hi m hm

set_option maxRecDepth 100000 in
set_option maxHeartbeats 16000000 in
theorem planar_spec (v:Value) (p:Pl) (w:World) (h:PlV w v p) (hsh:Short p) (hl:(p.arcs.flatMap (absOf p)).length≤2097152) (hnl:p.nodes.length≤4096)
  (hids:∀ n∈p.nodes,wfI n.id) (hp:Sound p) :
  Calls Tryz.prog 88 #[v] w fun e w'=>e=.returned (.bool (planarR p))∧Below w.heap.size w w':=by
 have hno:=@Sound.planar_no p hp
 have hver:=fun hok sl hs=>@verdict p hp hok sl hs
 have hlast:=lastAt_eq p hp.nodes
 have har:∀ a∈p.arcs,wfI a.fr∧wfI a.dst:=fun a ha=>by
  obtain ⟨⟨n1,h1,e1⟩,⟨n2,h2,e2⟩⟩:=hp.node_of ha
  exact ⟨e1 ▸ hids n1 h1,e2 ▸ hids n2 h2⟩
 have hara:∀ x∈p.arcs.flatMap (absOf p),wfI x.arc.fr∧wfI x.arc.dst:=fun x hx=>har _ (hp.mem hx).1
 have hseg:=segments_spec v p
 have HSeg:=Lib.hid hseg
 have HP:=Lib.hid h
 have Hno:=Lib.hid hno
 have Hver:=Lib.hid hver
 have Hara:=Lib.hid hara
 have Hsh:=Lib.hid hsh
 have Hl:=Lib.hid hl
 clear hno hver hara hseg hsh hl har hp
 generalize planarR p=q at *
 obtain ⟨_,va,vf,al,rfl,-,⟨An,cn,rfl,hn1,hn2,hR⟩,-,-⟩:=h
 unfold maxLen at hn2
 have HR:=Lib.hid hR;clear hR
 have hnw:∀ k (hk:k<p.nodes.length),wfI p.nodes[k].id:=fun k hk=>hids _ (List.getElem_mem hk)
 clear hids
 have HNw:=Lib.hid hnw;clear hnw
 generalize hF:nodeAt p=F at *
 generalize hA:p.arcs.flatMap (absOf p)=AL at *
 have Hlast:=Lib.hid hlast
 clear hlast hF
 have HA:=Lib.hid hA;clear hA
 generalize hNl:p.nodes=nl at *
 have HNl:=Lib.hid hNl;clear hNl
 go_enter Tryz.func88,Tryz.ntmps88
 go_wp2_with fail
 refine (HSeg.out _ (HP.out.mono (bA (bR w) _)) Hsh.out Hl.out).mono ?_
 rintro e w1 ⟨hb1,hr⟩
 have Bw:Below w.heap.size w w1:=bT (bA (bR w) _) hb1
 have X1:Blk w1 w.heap.size 26 #[.slice An nl.length cn,va,vf]:=(Blk.made rfl _ _).keep hb1
 clear hb1
 cases hok:p.arcs.all (arcOk p)
 case false =>
  rw [hok] at hr
  simp only [Bool.false_eq_true,if_false] at hr
  subst hr
  have hf:=Lib.hid (Hno.out hok)
  clear hok
  obtain ⟨X1l,X1a,X1b,X1c,-,-,-⟩:=X1.facts3
  go_wp2_with fail
  go_ret
  exact ⟨ret_bool hf.out.symm,Bw⟩
 case true =>
 rw [hok] at hr
 simp only [if_true] at hr
 obtain ⟨sl,vs,rfl,hsl,hsok,hown⟩:=hr
 rw [HA.out] at hsl
 have hsln:sl.length≤2097152:=by have:=congrArg List.length hsl;rw [List.length_map] at this;have:=Hl.out;omega
 have hsz1:=Bw.size
 have hs1:=Own.sl (Own.mono_base hown (b':=w.heap.size) (by simp))
 obtain ⟨As,cs,rfl,hs1,hs2,-⟩:=hs1
 unfold maxLen at hs2
 have hownlt:=Own.lt hown
 have Hown:=Lib.hid (Own.mono_base hown (b':=w.heap.size) (by simp))
 have Hsok:=Lib.hid hsok
 have Hsl:=Lib.hid hsl
 have HX1:=Lib.hid X1
 have Hver2:=Lib.hid (Hver.out hok)
 clear hsl hsok hown hok
 have hnb:=Hown.out.ne_blk X1 (by decide)
 have HOwnlt:=Lib.hid hownlt
 have Hnb:=Lib.hid hnb
 clear hownlt hnb
 try clear X1l
 try clear X1a
 try clear X1b
 try clear X1c
 obtain ⟨X1l,X1a,X1b,X1c,-,-,-⟩:=X1.facts3
 have HM0:=Lib.hid (MapPts.made w1)
 have hmm:=@run_makeMap Tryz.prog
 go_wp2_with fail
 obtain ⟨W2,hW2⟩:∃ W2:World,W2=w1.alloc (.map #[] 0):=⟨_,rfl⟩
 have HM2:Hid (MapPts W2 w1.heap.size 0 (fun _=>z0)):=by rw [hW2];exact HM0
 have hA2:Below w1.heap.size w1 W2:=by rw [hW2];exact bA (bR w1) _
 have HB2:=Lib.hid hA2
 rw [← hW2]
 clear hmm hW2 hA2 X1 X1l X1a X1b X1c HM0
 have hx2:=HB2.out.size
 go_loopw [27] (fun u wr=>∃ k:Nat,k≤nl.length∧u=.int .i64 k∧Below w1.heap.size w1 wr∧MapPts wr w1.heap.size k (lastAt (nl.take k))) (fun u _=>nl.length-(intOf u).toNat)
 case atStart => exact ⟨0,Nat.zero_le _,rfl,HB2.out,HM2.out⟩
 case round =>
  obtain ⟨k,hk,rfl,hb,hm⟩:=hrel
  have Hb:=Lib.hid hb
  have Hm:=Lib.hid hm
  have hszr:=hb.size
  clear hb hm
  by_cases hlt:k<nl.length
  case pos =>
   obtain ⟨b,o,rfl,hlb,c0,c1,c2⟩:=(HR.out.mono (bT Bw Hb.out)).nd hlt
   obtain ⟨w3,hr3,hm3,hg3⟩:=MapPts.upd (Hm.out.keep (bA (bR wr) (.cells #[.int .i64 nl[k].id,.int .i64 nl[k].pt.x,.int .i64 nl[k].pt.y] 38))) (by omega) nl[k].id (HNw.out k hlt) nl[k].pt
   have hm4:MapPts w3 w1.heap.size (k+1) (lastAt (nl.take (k+1))):=by rw [lastAt_succ nl k hlt];exact hm3
   have B3:Below w1.heap.size w1 w3:=bG (bA Hb.out _) hg3 (fun g hg=>by injection hg with hg;omega)
   have Hm4:=Lib.hid hm4
   have HB3:=Lib.hid B3
   unfold ptV at hr3
   clear hm3 hg3 hm4 B3
   go_wp2_with fail
   go_roundw
   case rel => exact ⟨k+1,by omega,by go_num,HB3.out,Hm4.out⟩
   case measure => simp [intOf];omega
  case neg =>
  have hall:nl.take k=nl:=List.take_of_length_le (by omega)
  have hm:=Hm.out
  rw [hall,Hlast.out] at hm
  have hkm:k≤4096:=by omega
  replace Hm:=Lib.hid hm
  clear hm hall
  go_wp2_with fail
  refine (Sort_seg_spec w.heap.size _ sl _ (Hown.out.keep Hb.out) (fun s hs=>(Hsok.out s hs).keep Hb.out) (by omega)).mono ?_
  rintro e w4 ⟨rfl,sl',hperm,hsort,hown',hok',hg⟩
  have hps:(sl'.map PSg.abs).Perm AL:=by
   have:=hperm.map PSg.abs
   rw [Hsl.out] at this;exact this
  have hwf:∀ s∈sl',wfI s.ln.arc.fr∧wfI s.ln.arc.dst:=fun s hs=>by
   have:=Hara.out s.abs (hps.mem_iff.1 (List.mem_map_of_mem hs))
   exact this
  have hlen':sl'.length=sl.length:=hperm.length_eq
  have B4:Below w.heap.size w w4:=bG (bT Bw Hb.out) hg (fun g hg'=>(Hown.out.lt g hg').1)
  have hm4:MapPts w4 w1.heap.size k F:=Hm.out.kept hg (fun e=>by have:=(HOwnlt.out _ e.symm).2;omega)
  have X1:Blk w4 w.heap.size 26 #[.slice An nl.length cn,va,vf]:=(HX1.out.keep Hb.out).grown hg (fun e=>Hnb.out e.symm)
  have hV:=Hver2.out sl' hps
  have hrow:Row w4 As (sl'.flatMap psgC):=by
   obtain ⟨A0,c0,e0,-,-,hr0⟩:=Own.sl hown'
   injection e0 with e0 _ _
   subst e0
   exact hr0
  have HV:=Lib.hid hV
  have HX4:=Lib.hid X1
  have HM4:=Lib.hid hm4
  have HB4:=Lib.hid B4
  have HOk:=Lib.hid hok'
  have HRow:=Lib.hid hrow
  have HSort:=Lib.hid hsort
  have HWf:=Lib.hid hwf
  clear hps hperm hsort hown' hok' hg hwf B4 hm4 X1 hV hrow Hown Hsok Hsl Hara Hver Hver2 HOwnlt Hnb Hm HM2 HX1 Hb HB2 hszr hx2
  have hslx:sl'.length≤2097152:=by rw [hlen'];exact hsln
  rw [← hlen'] at hs1 ⊢
  clear hlen' hsln
  go_wp2_with fail
  obtain ⟨wo,rfl⟩:∃ wo:World,wo=wr:=⟨_,rfl⟩
  go_loopw [41] (fun u wr=>∃ i:Nat,i≤sl'.length∧u=.int .i64 i∧Below w4.heap.size w4 wr∧(∀ a b (_:a<b) (hb:b<sl'.length),a<i→westS sl'[b]≤eastS (sl'[a]'(by omega))→compatS F (sl'[a]'(by omega)) sl'[b]=true)∧(∀ a (ha:a<sl'.length) m (hm:m<nl.length),a<i→freeS sl'[a] nl[m]=true)) (fun u _=>sl'.length-(intOf u).toNat)
  case atStart => exact ⟨0,Nat.zero_le _,rfl,bR w4,fun _ _ _ _ h=>by omega,fun _ _ _ _ h=>by omega⟩
  case round =>
   obtain ⟨i,hi,rfl,hb,hno1,hno2⟩:=hrel
   have Hb:=Lib.hid hb
   have Hno1:=Lib.hid hno1
   have Hno2:=Lib.hid hno2
   clear hb hno1 hno2
   by_cases hlt:i<sl'.length
   case neg =>
    have hf:=Lib.hid (HV.out.yes (fun a b hab hb hw=>Hno1.out a b hab hb (by omega) hw) (fun a ha m hm=>Hno2.out a ha m hm (by omega)))
    go_wp2_with fail
    go_ret
    exact ⟨ret_bool hf.out.symm,bT HB4.out Hb.out⟩
   obtain ⟨b,o,hAs,hlb,c0,c1⟩:=(HRow.out.mono Hb.out).psg hlt
   obtain ⟨Ac,Cc,hAC⟩:∃ Ac Cc,Ac=cutA As cs (i+1) 2∧Cc=cs-(i+1):=⟨_,_,rfl,rfl⟩
   have hcutrun:∀ W,(Instr.slice 148 (.slice As sl'.length cs) (some (.int .i64 ((i:Int)+1))) none none).run Tryz.prog W=.ok (.slice Ac (sl'.length-(i+1)) Cc) W:=fun W=>by
    rw [hAC.1,hAC.2]
    exact run_cut Tryz.underlying148 sizeOf_seg As sl'.length cs (i+1) (by omega) _ (by omega) W
   have HAC:=Lib.hid hAC
   clear hAC
   subst hAs
   obtain ⟨dl,hdl⟩:∃ dl,dl=sl'.drop (i+1):=⟨_,rfl⟩
   have hdn:sl'.length-(i+1)=dl.length:=by rw [hdl,List.length_drop]
   have hdg:∀ j (hj:j<dl.length),∃ h:i+1+j<sl'.length,dl[j]=sl'[i+1+j]:=fun j hj=>by
    subst hdl
    rw [List.length_drop] at hj
    exact ⟨by omega,by simp⟩
   have hdrow:Row w4 Ac (dl.flatMap psgC):=by
    rw [HAC.out.1,hdl,← flat_drop psgC 2 psgC_len]
    exact HRow.out.cut (by rw [flat_length psgC 2 psgC_len];omega)
   rw [hdn] at hcutrun
   have HDg:=Lib.hid hdg
   have HDrow:=Lib.hid hdrow
   have HDn:=Lib.hid hdn
   have hdb:dl.length≤2097152:=by omega
   clear hdl hdg hdrow HAC hdn
   have hsi:=Lib.hid ((HOk.out _ (List.getElem_mem hlt)))
   have hpairs:∀ j,i<j→∀ hj:j<sl'.length,westS sl'[j]≤eastS sl'[i]→compatS F sl'[i] sl'[j]=false→q=false:=fun j hij hj=>HV.out.pair i j hij hj
   have hnodes:∀ m (hm:m<nl.length),freeS sl'[i] nl[m]=false→q=false:=fun m hm=>HV.out.node i hlt m hm
   have hdone:(∀ j,i<j→∀ hj:j<sl'.length,westS sl'[j]≤eastS sl'[i]→compatS F sl'[i] sl'[j]=true)→(∀ a b (_:a<b) (hb:b<sl'.length),a<i+1→westS sl'[b]≤eastS (sl'[a]'(by omega))→compatS F (sl'[a]'(by omega)) sl'[b]=true):=fun h a b hab hb ha=>by
    by_cases e:a<i
    · exact Hno1.out a b hab hb e
    ·
     have:a=i:=by omega
     subst this
     exact h b hab hb
   have hdone2:(∀ m (hm:m<nl.length),freeS sl'[i] nl[m]=true)→(∀ a (ha:a<sl'.length) m (hm:m<nl.length),a<i+1→freeS sl'[a] nl[m]=true):=fun h a ha m hm hai=>by
    by_cases e:a<i
    · exact Hno2.out a ha m hm e
    ·
     have:a=i:=by omega
     subst this
     exact h m hm
   have hwsi:=HWf.out _ (List.getElem_mem hlt)
   generalize hsi2:sl'[i]=si at *
   have HSi:=Lib.hid hsi2
   have HPairs:=Lib.hid hpairs
   have HNodes:=Lib.hid hnodes
   have HDone:=Lib.hid hdone
   have HDone2:=Lib.hid hdone2
   have HWsi:=Lib.hid hwsi
   clear hsi2 hpairs hnodes hdone hdone2 Hno1 Hno2 hwsi
   have w1e:IntKind.i64.wrap ((i:Int)+1)=(i:Int)+1:=IntWalk.i64_in _ (by omega)
   have r3:0≤(i:Int)+1:=by omega
   have r4:(i:Int)+1≤sl'.length:=by omega
   have r5:((i:Int)+1).toNat=i+1:=by omega
   go_upto_block 4 with fail
   obtain ⟨W5,hW5⟩:∃ W5:World,W5=wr.alloc (.cells #[.pointer (some ⟨si.ln.g,0,none⟩),.int .i64 si.k] 154):=⟨_,rfl⟩
   have HB5:=Lib.hid (show Below w4.heap.size w4 W5 by rw [hW5];exact bA Hb.out _)
   have X9:Blk W5 wr.heap.size 154 #[.pointer (some ⟨si.ln.g,0,none⟩),.int .i64 si.k]:=by rw [hW5];exact Blk.made rfl _ _
   have HX9:=Lib.hid X9
   rw [← hW5]
   clear hW5 X9 hcutrun w1e r3 r4 r5 c0 c1 hlb
   obtain ⟨wp,rfl⟩:∃ wp:World,wp=wr:=⟨_,rfl⟩
   have TW:∀ s:PSg,∀ W,SgOk W s→Calls Tryz.prog 110 #[psgV s] W _:=fun s W h=>west_spec s W h
   have TE:∀ s:PSg,∀ W,SgOk W s→Calls Tryz.prog 111 #[psgV s] W _:=fun s W h=>east_spec s W h
   have TC:∀ s t:PSg,∀ W,SgOk W s→SgOk W t→MapPts W w1.heap.size k F→wfI s.ln.arc.fr→wfI s.ln.arc.dst→Calls Tryz.prog 112 #[psgV s,psgV t,.map (some w1.heap.size)] W _:=fun s t W h1 h2 h3 h4 h5=>compat_spec F w1.heap.size k s t W h1 h2 h3 h4 h5
   unfold psgV at TW TE TC
   have HTW:=Lib.hid TW;have HTE:=Lib.hid TE;have HTC:=Lib.hid TC
   clear TW TE TC
   go_cut [51] (fun u wx=>Below W5.heap.size W5 wx∧∀ j,i<j→∀ hj:j<sl'.length,westS sl'[j]≤eastS si→compatS F si sl'[j]=true)
   case first =>
    go_wp2_with fail
    go_loopw [51] (fun u wx=>∃ j:Nat,j≤dl.length∧u=.int .i64 j∧Below W5.heap.size W5 wx∧∀ m (hm:m<dl.length),m<j→westS dl[m]≤eastS si→compatS F si dl[m]=true) (fun u _=>dl.length-(intOf u).toNat)
    case atStart => exact ⟨0,Nat.zero_le _,rfl,bR W5,fun _ _ h=>by omega⟩
    case round =>
     obtain ⟨j,hj,rfl,hbx,hnx⟩:=hrel
     have Hbx:=Lib.hid hbx
     have Hnx:=Lib.hid hnx
     have hxs:=hbx.size
     have X9:=HX9.out.keep hbx
     clear hbx hnx
     by_cases hlj:j<dl.length
     case neg =>
      have hf:=Lib.hid (show ∀ j,i<j→∀ hj:j<sl'.length,westS sl'[j]≤eastS si→compatS F si sl'[j]=true from fun m him hm hw=>by
       have hd:=HDn.out
       obtain ⟨h1,h2⟩:=HDg.out (m-(i+1)) (by omega)
       have e:i+1+(m-(i+1))=m:=by omega
       simp only [e] at h2
       have:=Hnx.out (m-(i+1)) (by omega) (by omega)
       rw [h2] at this
       exact this hw)
      go_wp2_with fail
      go_meet
      case rel => exact ⟨Hbx.out,hf.out⟩
     obtain ⟨b',o',rfl,hlb',d0,d1⟩:=(HDrow.out.mono (bT HB5.out Hbx.out)).psg hlj
     obtain ⟨hjs,hje⟩:=HDg.out j hlj
     have htj:=Lib.hid (HOk.out _ (List.getElem_mem hjs))
     rw [← hje] at htj
     have hwj:=Lib.hid hje
     clear hje
     go_upto_region 17 with fail
     obtain ⟨W7,hW7⟩:∃ W7:World,W7=wr.alloc (.cells #[.pointer (some ⟨dl[j].ln.g,0,none⟩),.int .i64 dl[j].k] 154):=⟨_,rfl⟩
     have hA7:Below wr.heap.size wr W7:=by rw [hW7];exact bA (bR wr) _
     have X11:Blk W7 wr.heap.size 154 #[.pointer (some ⟨dl[j].ln.g,0,none⟩),.int .i64 dl[j].k]:=by rw [hW7];exact Blk.made rfl _ _
     rw [← hW7]
     replace X9:=X9.keep hA7
     have B7:=Lib.hid (bT HB5.out (bT Hbx.out hA7))
     have B7':=Lib.hid (bT Hbx.out hA7)
     clear hW7 hA7 d0 d1 hlb'
     obtain ⟨X9l,X9a,X9b,-,-⟩:=X9.facts2
     obtain ⟨X11l,X11a,X11b,-,-⟩:=X11.facts2
     refine rg_start (Since W7) (.take 0 1 (.take 2 5 (.call 1 7 (.call 3 15 (.take 4 31 (.done)))))) (by kernel_rfl) (bD (bR _)) (by kernel_rfl) (by kernel_rfl) (Nat.le_of_ble_eq_true (by kernel_rfl)) ?_
     intro opsR QR Hops HQrg hS
     iterate 2
      apply rg_p;exact Hops;exact rfl;exact hS;exact rfl
      · intro _ hqc;go_simp;try rfl
      try simp only [pu]
     refine rg_call (i:=1) (get_of Hops rfl) (fun K hK=>?_)
     have HSrg:=Lib.hid hS;clear hS
     refine rg_run (wanted_plain rfl) ?_
     go_simp
     refine (HTW.out _ _ (htj.out.keep (bT B7.out HSrg.out))).mono ?_
     rintro e wr1 ⟨rfl,hbr1,-⟩
     have hS:Since W7 wr1:=bT (w:=W7) HSrg.out hbr1
     clear HSrg
     refine hK.out _ _ hS (fun _=>?_)
     clear hK K
     try simp only [pu]
     refine rg_call (i:=3) (get_of Hops rfl) (fun K hK=>?_)
     have HSrg:=Lib.hid hS;clear hS
     refine rg_run (wanted_plain rfl) ?_
     go_simp
     refine (HTE.out _ _ (hsi.out.keep (bT B7.out HSrg.out))).mono ?_
     rintro e wr2 ⟨rfl,hbr2,-⟩
     have hS:Since W7 wr2:=bT (w:=W7) HSrg.out hbr2
     clear HSrg
     refine hK.out _ _ hS (fun _=>?_)
     clear hK K
     try simp only [pu]
     apply rg_p;exact Hops;exact rfl;exact hS;exact rfl
     · intro _ hqc;go_simp;try rfl
     try simp only [pu]
     refine rg_done ?_
     refine HQrg.down _ _ ?_
     have hB:Below W7.heap.size W7 wr2:=hS
     clear hS HQrg Hops
     have B8:=Lib.hid (bT B7.out hB)
     have B8':=Lib.hid (bT B7'.out hB)
     replace X9:=X9.keep hB
     replace X11:=X11.keep hB
     clear hB
     try clear X9l
     try clear X9a
     try clear X9b
     obtain ⟨X9l,X9a,X9b,-,-⟩:=X9.facts2
     try clear X11l
     try clear X11a
     try clear X11b
     obtain ⟨X11l,X11a,X11b,-,-⟩:=X11.facts2
     by_cases hw:eastS si<westS dl[j]
     ·
      have hf:=Lib.hid (show ∀ j,i<j→∀ hj:j<sl'.length,westS sl'[j]≤eastS si→compatS F si sl'[j]=true from fun m him hm hwm=>by
       by_cases e:m<i+1+j
       ·
        have hd:=HDn.out
        obtain ⟨h1,h2⟩:=HDg.out (m-(i+1)) (by omega)
        have e:i+1+(m-(i+1))=m:=by omega
        simp only [e] at h2
        have:=Hnx.out (m-(i+1)) (by omega) (by omega)
        rw [h2] at this
        exact this hwm
       ·
        have hs:westS dl[j]≤westS sl'[m]:=by
         rw [hwj.out]
         by_cases e':m=i+1+j
         · subst e';exact Int.le_refl _
         · exact HSort.out (i+1+j) m (by omega) hm
        omega)
      go_wp2_with fail
      go_meet
      case rel => exact ⟨B8'.out,hf.out⟩
     ·
      have hw':=Lib.hid hw
      go_wp2_with fail
      refine (HTC.out _ _ _ (hsi.out.keep B8.out) (htj.out.keep B8.out) (HM4.out.keep B8.out) HWsi.out.1 HWsi.out.2).mono ?_
      rintro e w9 ⟨rfl,hb9⟩
      have B9:=Lib.hid (bT B8'.out hb9)
      clear hb9 X9 X11 X9l X9a X9b X11l X11a X11b hw
      cases hc:compatS F si dl[j]
      case false =>
       have hf:=Lib.hid (show false=q by
        have hq:=HPairs.out (i+1+j) (by omega) hjs
        rw [← hwj.out] at hq
        exact (hq (by have:=hw'.out;omega) hc).symm)
       clear hc
       go_wp2_with fail
       go_ret
       exact ⟨ret_bool hf.out,bT HB4.out (bT HB5.out B9.out)⟩
      case true =>
       have hc':=Lib.hid hc
       clear hc
       go_wp2_with fail
       go_roundw
       case rel => exact ⟨j+1,by omega,by go_num,B9.out,all_succ (p:=fun t=>westS t≤eastS si→compatS F si t=true) Hnx.out hlj (fun _=>hc'.out)⟩
       case measure => simp [intOf];omega
   case rest =>
   obtain ⟨hbc,hpd⟩:=hcut
   have HPd:=Lib.hid (HDone.out hpd)
   have HBc:=Lib.hid (bT HB5.out hbc)
   have X9:=HX9.out.keep hbc
   replace HX9:=Lib.hid X9
   have X1:=HX4.out.keep HBc.out
   have HY:=Lib.hid (hsi.out.keep HBc.out)
   clear hbc hpd HPairs HDone HDg HDrow HDn X9 HTW HTE HTC hdb
   have TS:∀ W,SgOk W si→Calls Tryz.prog 113 #[psgV si] W _:=fun W hW=>ends2_spec si W hW
   have TO:∀ p q r:Pt,∀ W,Calls Tryz.prog 72 #[ptV p,ptV q,ptV r] W _:=fun p q r W=>On_spec p q r W
   have TF:∀ W,Calls Tryz.prog 114 #[psgV si] W _:=fun W=>segfirst_spec si W
   have TL:∀ W,SgOk W si→Calls Tryz.prog 115 #[psgV si] W _:=fun W hW=>seglast_spec si W hW
   unfold psgV at TS TF TL
   unfold ptV at TS TO
   have HTS:=Lib.hid TS;have HTO:=Lib.hid TO;have HTF:=Lib.hid TF;have HTL:=Lib.hid TL
   clear TS TO TF TL
   try clear X1l
   try clear X1a
   try clear X1b
   try clear X1c
   obtain ⟨X1l,X1a,X1b,X1c,-,-,-⟩:=X1.facts3
   go_wp2_with fail
   clear X1 X1l X1a X1b X1c
   go_loopw [69] (fun u wx=>∃ m:Nat,m≤nl.length∧u=.int .i64 m∧Below wc.heap.size wc wx∧∀ n (hn:n<nl.length),n<m→freeS si nl[n]=true) (fun u _=>nl.length-(intOf u).toNat)
   case atStart => exact ⟨0,Nat.zero_le _,rfl,bR wc,fun _ _ h=>by omega⟩
   case round =>
    obtain ⟨m,hm,rfl,hbx,hnx⟩:=hrel
    have Hbx:=Lib.hid hbx
    have Hnx:=Lib.hid hnx
    have X9:=HX9.out.keep hbx
    clear hbx hnx
    by_cases hlm:m<nl.length
    case neg =>
     have hf:=Lib.hid (HDone2.out (fun n hn=>Hnx.out n hn (by omega)))
     clear X9
     go_wp2_with fail
     go_roundw
     case rel => exact ⟨i+1,by omega,by go_num,bT HBc.out Hbx.out,HPd.out,hf.out⟩
     case measure => simp [intOf];omega
    obtain ⟨b,o,rfl,hlb,c0,c1,c2⟩:=(HR.out.mono (bT HB4.out (bT HBc.out Hbx.out))).nd hlm
    try clear X9l
    try clear X9a
    try clear X9b
    obtain ⟨X9l,X9a,X9b,-,-⟩:=X9.facts2
    go_wp2_with fail
    refine (HTS.out _ (HY.out.keep (bA Hbx.out _))).mono ?_
    rintro e w10 ⟨rfl,hb10,-⟩
    have hA10:Below wr.heap.size wr w10:=bT (bA (bR wr) _) hb10
    have X13:Blk w10 wr.heap.size 38 #[.int .i64 nl[m].id,.int .i64 nl[m].pt.x,.int .i64 nl[m].pt.y]:=(Blk.made rfl _ _).keep hb10
    replace X9:=X9.keep hA10
    replace Hbx:=Lib.hid (bT Hbx.out hA10)
    clear hb10 hA10 c0 c1 c2 hlb X9l X9a X9b
    go_upto_region 25 with fail
    obtain ⟨W12,hW12⟩:∃ W12:World,W12=(w10.alloc (.cells #[.int .i64 si.fst.x,.int .i64 si.fst.y] 36)).alloc (.cells #[.int .i64 si.snd.x,.int .i64 si.snd.y] 36):=⟨_,rfl⟩
    have hA12:Below w10.heap.size w10 W12:=by rw [hW12];exact bA (bA (bR w10) _) _
    have X14:Blk W12 w10.heap.size 36 #[.int .i64 si.fst.x,.int .i64 si.fst.y]:=by rw [hW12];exact (Blk.made rfl _ _).alloc _
    have X15:Blk W12 (w10.heap.size+1) 36 #[.int .i64 si.snd.x,.int .i64 si.snd.y]:=by rw [hW12];exact Blk.made (by simp) _ _
    rw [← hW12]
    replace X9:=X9.keep hA12
    replace X13:=X13.keep hA12
    replace Hbx:=Lib.hid (bT Hbx.out hA12)
    have Y:=(HY.out.keep Hbx.out).line
    clear hW12 hA12
    try clear X9l
    try clear X9a
    try clear X9b
    obtain ⟨X9l,X9a,X9b,-,-⟩:=X9.facts2
    obtain ⟨X13l,X13a,X13b,X13c,-,-,-⟩:=X13.facts3
    obtain ⟨X14l,X14a,X14b,-,-⟩:=X14.facts2
    obtain ⟨X15l,X15a,X15b,-,-⟩:=X15.facts2
    obtain ⟨Yl,Ya,Yb,Yc,Yd,Ye,Yf,Yg,-,-,-,-,-,-,-⟩:=Y.facts7
    have hfe:=Lib.hid (free_eq si nl[m])
    have TF:=HTF.out
    have TL:=HTL.out
    have TO:=HTO.out si.fst si.snd nl[m].pt
    cases e1:onS si.fst si.snd nl[m].pt
    case false =>
     rw [e1] at TO
     have hf:=Lib.hid (show freeS si nl[m]=true by rw [hfe.out];simp only [e1];rfl)
     have HTO:=Lib.hid TO
     have HTF:=Lib.hid TF
     have HTL:=Lib.hid TL
     clear TO TF TL hfe e1
     refine rg_start (Since W12) (.run 4 0 0 (.call 4 31 (.run 32 5 31 (.done)))) (by kernel_rfl) (bD (bR _)) (by kernel_rfl) (by kernel_rfl) (Nat.le_of_ble_eq_true (by kernel_rfl)) ?_
     intro opsR QR Hops HQrg hS
     iterate 4
      apply rg_p;exact Hops;exact rfl;exact hS;exact rfl
      · intro _ hqc;go_simp;try rfl
      try simp only [pu]
     refine rg_call (i:=4) (get_of Hops rfl) (fun K hK=>?_)
     have HSrg:=Lib.hid hS;clear hS
     refine rg_run (wanted_plain rfl) ?_
     go_simp
     refine (HTO.out _).mono ?_
     rintro e wr1 ⟨rfl,hbr1⟩
     have hS:Since W12 wr1:=bT (w:=W12) HSrg.out hbr1
     clear HSrg
     refine hK.out _ _ hS (fun _=>?_)
     clear hK K
     try simp only [pu]
     apply rg_p;exact Hops;exact rfl;exact hS;exact rfl
     · intro _ hqc;go_simp;try rfl
     try simp only [pu]
     iterate 14
      refine rg_yn Hops rfl hS rfl rfl rfl rfl rfl ?_
      try simp only [pu]
     iterate 2
      apply rg_p;exact Hops;exact rfl;exact hS;exact rfl
      · intro _ hqc;go_simp;try rfl
      try simp only [pu]
     iterate 14
      refine rg_yn Hops rfl hS rfl rfl rfl rfl rfl ?_
      try simp only [pu]
     apply rg_p;exact Hops;exact rfl;exact hS;exact rfl
     · intro _ hqc;go_simp;try rfl
     try simp only [pu]
     refine rg_done ?_
     refine HQrg.down _ _ ?_
     have hB:Below W12.heap.size W12 wr1:=hS
     clear hS HQrg Hops
     go_wp2_with fail
     go_roundw
     case rel => exact ⟨m+1,by omega,by go_num,bT Hbx.out hB,all_succ (p:=fun n=>freeS si n=true) Hnx.out hlm hf.out⟩
     case measure => simp [intOf];omega
    case true =>
     rw [e1] at TO
     cases e2:((si.k:Int) == 0)
     case false =>
      rw [e2] at TF
      cases e4:((si.k:Int) == (si.ln.path.length:Int)-2)
      case false =>
       rw [e4] at TL
       have hf:=Lib.hid (show freeS si nl[m]=false by rw [hfe.out];simp only [e1,e2,e4];rfl)
       have HTO:=Lib.hid TO
       have HTF:=Lib.hid TF
       have HTL:=Lib.hid TL
       clear TO TF TL hfe e1 e2 e4
       refine rg_start (Since W12) (.run 4 0 0 (.call 4 31 (.take 5 63 (.take 6 127 (.call 7 255 (.run 15 8 255 (.call 23 16777215 (.run 13 24 16777215 (.done))))))))) (by kernel_rfl) (bD (bR _)) (by kernel_rfl) (by kernel_rfl) (Nat.le_of_ble_eq_true (by kernel_rfl)) ?_
       intro opsR QR Hops HQrg hS
       iterate 4
        apply rg_p;exact Hops;exact rfl;exact hS;exact rfl
        · intro _ hqc;go_simp;try rfl
        try simp only [pu]
       refine rg_call (i:=4) (get_of Hops rfl) (fun K hK=>?_)
       have HSrg:=Lib.hid hS;clear hS
       refine rg_run (wanted_plain rfl) ?_
       go_simp
       refine (HTO.out _).mono ?_
       rintro e wr1 ⟨rfl,hbr1⟩
       have hS:Since W12 wr1:=bT (w:=W12) HSrg.out hbr1
       clear HSrg
       refine hK.out _ _ hS (fun _=>?_)
       clear hK K
       try simp only [pu]
       apply rg_p;exact Hops;exact rfl;exact hS;exact rfl
       · intro _ hqc;go_simp;try rfl
       try simp only [pu]
       apply rg_g;exact Hops;exact rfl;exact hS;iterate 4 exact rfl
       · intro _ hqc;go_simp;try rfl
       try simp only [pu]
       refine rg_call (i:=7) (get_of Hops rfl) (fun K hK=>?_)
       have HSrg:=Lib.hid hS;clear hS
       refine rg_run (wanted_yes rfl (get_of Hops rfl) rfl rfl) ?_
       go_simp
       refine (HTF.out _).mono ?_
       rintro e wr2 ⟨rfl,hbr2⟩
       have hS:Since W12 wr2:=bT (w:=W12) HSrg.out hbr2
       clear HSrg
       refine hK.out _ _ hS (fun _=>?_)
       clear hK K
       try simp only [pu]
       apply rg_g;exact Hops;exact rfl;exact hS;iterate 4 exact rfl
       · intro _ hqc;go_simp;try rfl
       try simp only [pu]
       iterate 9
        refine rg_yn Hops rfl hS rfl rfl rfl rfl rfl ?_
        try simp only [pu]
       iterate 2
        apply rg_g;exact Hops;exact rfl;exact hS;iterate 4 exact rfl
        · intro _ hqc;go_simp;try rfl
        try simp only [pu]
       iterate 2
        apply rg_p;exact Hops;exact rfl;exact hS;exact rfl
        · intro _ hqc;go_simp;try rfl
        try simp only [pu]
       apply rg_g;exact Hops;exact rfl;exact hS;iterate 4 exact rfl
       · intro _ hqc;go_simp;try rfl
       try simp only [pu]
       refine rg_call (i:=23) (get_of Hops rfl) (fun K hK=>?_)
       have HSrg:=Lib.hid hS;clear hS
       refine rg_run (wanted_yes rfl (get_of Hops rfl) rfl rfl) ?_
       go_simp
       refine (HTL.out _ (HY.out.keep (bT Hbx.out HSrg.out))).mono ?_
       rintro e wr3 ⟨rfl,hbr3⟩
       have hS:Since W12 wr3:=bT (w:=W12) HSrg.out hbr3
       clear HSrg
       refine hK.out _ _ hS (fun _=>?_)
       clear hK K
       try simp only [pu]
       apply rg_g;exact Hops;exact rfl;exact hS;iterate 4 exact rfl
       · intro _ hqc;go_simp;try rfl
       try simp only [pu]
       iterate 9
        refine rg_yn Hops rfl hS rfl rfl rfl rfl rfl ?_
        try simp only [pu]
       iterate 2
        apply rg_g;exact Hops;exact rfl;exact hS;iterate 4 exact rfl
        · intro _ hqc;go_simp;try rfl
        try simp only [pu]
       apply rg_p;exact Hops;exact rfl;exact hS;exact rfl
       · intro _ hqc;go_simp;try rfl
       try simp only [pu]
       refine rg_done ?_
       refine HQrg.down _ _ ?_
       have hB:Below W12.heap.size W12 wr3:=hS
       clear hS HQrg Hops
       have hr:=Lib.hid (HNodes.out m hlm hf.out)
       go_wp2_with fail
       go_ret
       exact ⟨ret_bool hr.out.symm,bT HB4.out (bT HBc.out (bT Hbx.out hB))⟩
      case true =>
       rw [e4] at TL
       cases e5:(si.ln.arc.dst == nl[m].id)
       case false =>
        have hf:=Lib.hid (show freeS si nl[m]=false by rw [hfe.out];simp only [e1,e2,e4,e5];rfl)
        have HTO:=Lib.hid TO
        have HTF:=Lib.hid TF
        have HTL:=Lib.hid TL
        clear TO TF TL hfe e1 e2 e4
        refine rg_start (Since W12) (.run 4 0 0 (.call 4 31 (.take 5 63 (.take 6 127 (.call 7 255 (.run 15 8 255 (.call 23 16777215 (.run 13 24 16777215 (.done))))))))) (by kernel_rfl) (bD (bR _)) (by kernel_rfl) (by kernel_rfl) (Nat.le_of_ble_eq_true (by kernel_rfl)) ?_
        intro opsR QR Hops HQrg hS
        iterate 4
         apply rg_p;exact Hops;exact rfl;exact hS;exact rfl
         · intro _ hqc;go_simp;try rfl
         try simp only [pu]
        refine rg_call (i:=4) (get_of Hops rfl) (fun K hK=>?_)
        have HSrg:=Lib.hid hS;clear hS
        refine rg_run (wanted_plain rfl) ?_
        go_simp
        refine (HTO.out _).mono ?_
        rintro e wr1 ⟨rfl,hbr1⟩
        have hS:Since W12 wr1:=bT (w:=W12) HSrg.out hbr1
        clear HSrg
        refine hK.out _ _ hS (fun _=>?_)
        clear hK K
        try simp only [pu]
        apply rg_p;exact Hops;exact rfl;exact hS;exact rfl
        · intro _ hqc;go_simp;try rfl
        try simp only [pu]
        apply rg_g;exact Hops;exact rfl;exact hS;iterate 4 exact rfl
        · intro _ hqc;go_simp;try rfl
        try simp only [pu]
        refine rg_call (i:=7) (get_of Hops rfl) (fun K hK=>?_)
        have HSrg:=Lib.hid hS;clear hS
        refine rg_run (wanted_yes rfl (get_of Hops rfl) rfl rfl) ?_
        go_simp
        refine (HTF.out _).mono ?_
        rintro e wr2 ⟨rfl,hbr2⟩
        have hS:Since W12 wr2:=bT (w:=W12) HSrg.out hbr2
        clear HSrg
        refine hK.out _ _ hS (fun _=>?_)
        clear hK K
        try simp only [pu]
        apply rg_g;exact Hops;exact rfl;exact hS;iterate 4 exact rfl
        · intro _ hqc;go_simp;try rfl
        try simp only [pu]
        iterate 9
         refine rg_yn Hops rfl hS rfl rfl rfl rfl rfl ?_
         try simp only [pu]
        iterate 2
         apply rg_g;exact Hops;exact rfl;exact hS;iterate 4 exact rfl
         · intro _ hqc;go_simp;try rfl
         try simp only [pu]
        iterate 2
         apply rg_p;exact Hops;exact rfl;exact hS;exact rfl
         · intro _ hqc;go_simp;try rfl
         try simp only [pu]
        apply rg_g;exact Hops;exact rfl;exact hS;iterate 4 exact rfl
        · intro _ hqc;go_simp;try rfl
        try simp only [pu]
        refine rg_call (i:=23) (get_of Hops rfl) (fun K hK=>?_)
        have HSrg:=Lib.hid hS;clear hS
        refine rg_run (wanted_yes rfl (get_of Hops rfl) rfl rfl) ?_
        go_simp
        refine (HTL.out _ (HY.out.keep (bT Hbx.out HSrg.out))).mono ?_
        rintro e wr3 ⟨rfl,hbr3⟩
        have hS:Since W12 wr3:=bT (w:=W12) HSrg.out hbr3
        clear HSrg
        refine hK.out _ _ hS (fun _=>?_)
        clear hK K
        try simp only [pu]
        iterate 12
         apply rg_g;exact Hops;exact rfl;exact hS;iterate 4 exact rfl
         · intro _ hqc;go_simp;try rfl
         try simp only [pu]
        apply rg_p;exact Hops;exact rfl;exact hS;exact rfl
        · intro _ hqc;go_simp;try rfl
        try simp only [pu]
        refine rg_done ?_
        refine HQrg.down _ _ ?_
        have hB:Below W12.heap.size W12 wr3:=hS
        clear hS HQrg Hops
        have hr:=Lib.hid (HNodes.out m hlm hf.out)
        go_wp2_with fail
        go_ret
        exact ⟨ret_bool hr.out.symm,bT HB4.out (bT HBc.out (bT Hbx.out hB))⟩
       case true =>
        have hf:=Lib.hid (show freeS si nl[m]=true by rw [hfe.out];simp only [e1,e2,e4,e5];rfl)
        have HTO:=Lib.hid TO
        have HTF:=Lib.hid TF
        have HTL:=Lib.hid TL
        clear TO TF TL hfe e1 e2 e4
        refine rg_start (Since W12) (.run 4 0 0 (.call 4 31 (.take 5 63 (.take 6 127 (.call 7 255 (.run 15 8 255 (.call 23 16777215 (.run 13 24 16777215 (.done))))))))) (by kernel_rfl) (bD (bR _)) (by kernel_rfl) (by kernel_rfl) (Nat.le_of_ble_eq_true (by kernel_rfl)) ?_
        intro opsR QR Hops HQrg hS
        iterate 4
         apply rg_p;exact Hops;exact rfl;exact hS;exact rfl
         · intro _ hqc;go_simp;try rfl
         try simp only [pu]
        refine rg_call (i:=4) (get_of Hops rfl) (fun K hK=>?_)
        have HSrg:=Lib.hid hS;clear hS
        refine rg_run (wanted_plain rfl) ?_
        go_simp
        refine (HTO.out _).mono ?_
        rintro e wr1 ⟨rfl,hbr1⟩
        have hS:Since W12 wr1:=bT (w:=W12) HSrg.out hbr1
        clear HSrg
        refine hK.out _ _ hS (fun _=>?_)
        clear hK K
        try simp only [pu]
        apply rg_p;exact Hops;exact rfl;exact hS;exact rfl
        · intro _ hqc;go_simp;try rfl
        try simp only [pu]
        apply rg_g;exact Hops;exact rfl;exact hS;iterate 4 exact rfl
        · intro _ hqc;go_simp;try rfl
        try simp only [pu]
        refine rg_call (i:=7) (get_of Hops rfl) (fun K hK=>?_)
        have HSrg:=Lib.hid hS;clear hS
        refine rg_run (wanted_yes rfl (get_of Hops rfl) rfl rfl) ?_
        go_simp
        refine (HTF.out _).mono ?_
        rintro e wr2 ⟨rfl,hbr2⟩
        have hS:Since W12 wr2:=bT (w:=W12) HSrg.out hbr2
        clear HSrg
        refine hK.out _ _ hS (fun _=>?_)
        clear hK K
        try simp only [pu]
        apply rg_g;exact Hops;exact rfl;exact hS;iterate 4 exact rfl
        · intro _ hqc;go_simp;try rfl
        try simp only [pu]
        iterate 9
         refine rg_yn Hops rfl hS rfl rfl rfl rfl rfl ?_
         try simp only [pu]
        iterate 2
         apply rg_g;exact Hops;exact rfl;exact hS;iterate 4 exact rfl
         · intro _ hqc;go_simp;try rfl
         try simp only [pu]
        iterate 2
         apply rg_p;exact Hops;exact rfl;exact hS;exact rfl
         · intro _ hqc;go_simp;try rfl
         try simp only [pu]
        apply rg_g;exact Hops;exact rfl;exact hS;iterate 4 exact rfl
        · intro _ hqc;go_simp;try rfl
        try simp only [pu]
        refine rg_call (i:=23) (get_of Hops rfl) (fun K hK=>?_)
        have HSrg:=Lib.hid hS;clear hS
        refine rg_run (wanted_yes rfl (get_of Hops rfl) rfl rfl) ?_
        go_simp
        refine (HTL.out _ (HY.out.keep (bT Hbx.out HSrg.out))).mono ?_
        rintro e wr3 ⟨rfl,hbr3⟩
        have hS:Since W12 wr3:=bT (w:=W12) HSrg.out hbr3
        clear HSrg
        refine hK.out _ _ hS (fun _=>?_)
        clear hK K
        try simp only [pu]
        iterate 12
         apply rg_g;exact Hops;exact rfl;exact hS;iterate 4 exact rfl
         · intro _ hqc;go_simp;try rfl
         try simp only [pu]
        apply rg_p;exact Hops;exact rfl;exact hS;exact rfl
        · intro _ hqc;go_simp;try rfl
        try simp only [pu]
        refine rg_done ?_
        refine HQrg.down _ _ ?_
        have hB:Below W12.heap.size W12 wr3:=hS
        clear hS HQrg Hops
        go_wp2_with fail
        go_roundw
        case rel => exact ⟨m+1,by omega,by go_num,bT Hbx.out hB,all_succ (p:=fun n=>freeS si n=true) Hnx.out hlm hf.out⟩
        case measure => simp [intOf];omega
     case true =>
      rw [e2] at TF
      cases e3:(si.ln.arc.fr == nl[m].id)
      case false =>
       cases e4:((si.k:Int) == (si.ln.path.length:Int)-2)
       case false =>
        rw [e4] at TL
        have hf:=Lib.hid (show freeS si nl[m]=false by rw [hfe.out];simp only [e1,e2,e3,e4];rfl)
        have HTO:=Lib.hid TO
        have HTF:=Lib.hid TF
        have HTL:=Lib.hid TL
        clear TO TF TL hfe e1 e2 e4
        refine rg_start (Since W12) (.run 4 0 0 (.call 4 31 (.take 5 63 (.take 6 127 (.call 7 255 (.run 15 8 255 (.call 23 16777215 (.run 13 24 16777215 (.done))))))))) (by kernel_rfl) (bD (bR _)) (by kernel_rfl) (by kernel_rfl) (Nat.le_of_ble_eq_true (by kernel_rfl)) ?_
        intro opsR QR Hops HQrg hS
        iterate 4
         apply rg_p;exact Hops;exact rfl;exact hS;exact rfl
         · intro _ hqc;go_simp;try rfl
         try simp only [pu]
        refine rg_call (i:=4) (get_of Hops rfl) (fun K hK=>?_)
        have HSrg:=Lib.hid hS;clear hS
        refine rg_run (wanted_plain rfl) ?_
        go_simp
        refine (HTO.out _).mono ?_
        rintro e wr1 ⟨rfl,hbr1⟩
        have hS:Since W12 wr1:=bT (w:=W12) HSrg.out hbr1
        clear HSrg
        refine hK.out _ _ hS (fun _=>?_)
        clear hK K
        try simp only [pu]
        apply rg_p;exact Hops;exact rfl;exact hS;exact rfl
        · intro _ hqc;go_simp;try rfl
        try simp only [pu]
        apply rg_g;exact Hops;exact rfl;exact hS;iterate 4 exact rfl
        · intro _ hqc;go_simp;try rfl
        try simp only [pu]
        refine rg_call (i:=7) (get_of Hops rfl) (fun K hK=>?_)
        have HSrg:=Lib.hid hS;clear hS
        refine rg_run (wanted_yes rfl (get_of Hops rfl) rfl rfl) ?_
        go_simp
        refine (HTF.out _).mono ?_
        rintro e wr2 ⟨rfl,hbr2⟩
        have hS:Since W12 wr2:=bT (w:=W12) HSrg.out hbr2
        clear HSrg
        refine hK.out _ _ hS (fun _=>?_)
        clear hK K
        try simp only [pu]
        iterate 12
         apply rg_g;exact Hops;exact rfl;exact hS;iterate 4 exact rfl
         · intro _ hqc;go_simp;try rfl
         try simp only [pu]
        iterate 2
         apply rg_p;exact Hops;exact rfl;exact hS;exact rfl
         · intro _ hqc;go_simp;try rfl
         try simp only [pu]
        apply rg_g;exact Hops;exact rfl;exact hS;iterate 4 exact rfl
        · intro _ hqc;go_simp;try rfl
        try simp only [pu]
        refine rg_call (i:=23) (get_of Hops rfl) (fun K hK=>?_)
        have HSrg:=Lib.hid hS;clear hS
        refine rg_run (wanted_yes rfl (get_of Hops rfl) rfl rfl) ?_
        go_simp
        refine (HTL.out _ (HY.out.keep (bT Hbx.out HSrg.out))).mono ?_
        rintro e wr3 ⟨rfl,hbr3⟩
        have hS:Since W12 wr3:=bT (w:=W12) HSrg.out hbr3
        clear HSrg
        refine hK.out _ _ hS (fun _=>?_)
        clear hK K
        try simp only [pu]
        apply rg_g;exact Hops;exact rfl;exact hS;iterate 4 exact rfl
        · intro _ hqc;go_simp;try rfl
        try simp only [pu]
        iterate 9
         refine rg_yn Hops rfl hS rfl rfl rfl rfl rfl ?_
         try simp only [pu]
        iterate 2
         apply rg_g;exact Hops;exact rfl;exact hS;iterate 4 exact rfl
         · intro _ hqc;go_simp;try rfl
         try simp only [pu]
        apply rg_p;exact Hops;exact rfl;exact hS;exact rfl
        · intro _ hqc;go_simp;try rfl
        try simp only [pu]
        refine rg_done ?_
        refine HQrg.down _ _ ?_
        have hB:Below W12.heap.size W12 wr3:=hS
        clear hS HQrg Hops
        have hr:=Lib.hid (HNodes.out m hlm hf.out)
        go_wp2_with fail
        go_ret
        exact ⟨ret_bool hr.out.symm,bT HB4.out (bT HBc.out (bT Hbx.out hB))⟩
       case true =>
        rw [e4] at TL
        cases e5:(si.ln.arc.dst == nl[m].id)
        case false =>
         have hf:=Lib.hid (show freeS si nl[m]=false by rw [hfe.out];simp only [e1,e2,e3,e4,e5];rfl)
         have HTO:=Lib.hid TO
         have HTF:=Lib.hid TF
         have HTL:=Lib.hid TL
         clear TO TF TL hfe e1 e2 e4
         refine rg_start (Since W12) (.run 4 0 0 (.call 4 31 (.take 5 63 (.take 6 127 (.call 7 255 (.run 15 8 255 (.call 23 16777215 (.run 13 24 16777215 (.done))))))))) (by kernel_rfl) (bD (bR _)) (by kernel_rfl) (by kernel_rfl) (Nat.le_of_ble_eq_true (by kernel_rfl)) ?_
         intro opsR QR Hops HQrg hS
         iterate 4
          apply rg_p;exact Hops;exact rfl;exact hS;exact rfl
          · intro _ hqc;go_simp;try rfl
          try simp only [pu]
         refine rg_call (i:=4) (get_of Hops rfl) (fun K hK=>?_)
         have HSrg:=Lib.hid hS;clear hS
         refine rg_run (wanted_plain rfl) ?_
         go_simp
         refine (HTO.out _).mono ?_
         rintro e wr1 ⟨rfl,hbr1⟩
         have hS:Since W12 wr1:=bT (w:=W12) HSrg.out hbr1
         clear HSrg
         refine hK.out _ _ hS (fun _=>?_)
         clear hK K
         try simp only [pu]
         apply rg_p;exact Hops;exact rfl;exact hS;exact rfl
         · intro _ hqc;go_simp;try rfl
         try simp only [pu]
         apply rg_g;exact Hops;exact rfl;exact hS;iterate 4 exact rfl
         · intro _ hqc;go_simp;try rfl
         try simp only [pu]
         refine rg_call (i:=7) (get_of Hops rfl) (fun K hK=>?_)
         have HSrg:=Lib.hid hS;clear hS
         refine rg_run (wanted_yes rfl (get_of Hops rfl) rfl rfl) ?_
         go_simp
         refine (HTF.out _).mono ?_
         rintro e wr2 ⟨rfl,hbr2⟩
         have hS:Since W12 wr2:=bT (w:=W12) HSrg.out hbr2
         clear HSrg
         refine hK.out _ _ hS (fun _=>?_)
         clear hK K
         try simp only [pu]
         iterate 12
          apply rg_g;exact Hops;exact rfl;exact hS;iterate 4 exact rfl
          · intro _ hqc;go_simp;try rfl
          try simp only [pu]
         iterate 2
          apply rg_p;exact Hops;exact rfl;exact hS;exact rfl
          · intro _ hqc;go_simp;try rfl
          try simp only [pu]
         apply rg_g;exact Hops;exact rfl;exact hS;iterate 4 exact rfl
         · intro _ hqc;go_simp;try rfl
         try simp only [pu]
         refine rg_call (i:=23) (get_of Hops rfl) (fun K hK=>?_)
         have HSrg:=Lib.hid hS;clear hS
         refine rg_run (wanted_yes rfl (get_of Hops rfl) rfl rfl) ?_
         go_simp
         refine (HTL.out _ (HY.out.keep (bT Hbx.out HSrg.out))).mono ?_
         rintro e wr3 ⟨rfl,hbr3⟩
         have hS:Since W12 wr3:=bT (w:=W12) HSrg.out hbr3
         clear HSrg
         refine hK.out _ _ hS (fun _=>?_)
         clear hK K
         try simp only [pu]
         iterate 12
          apply rg_g;exact Hops;exact rfl;exact hS;iterate 4 exact rfl
          · intro _ hqc;go_simp;try rfl
          try simp only [pu]
         apply rg_p;exact Hops;exact rfl;exact hS;exact rfl
         · intro _ hqc;go_simp;try rfl
         try simp only [pu]
         refine rg_done ?_
         refine HQrg.down _ _ ?_
         have hB:Below W12.heap.size W12 wr3:=hS
         clear hS HQrg Hops
         have hr:=Lib.hid (HNodes.out m hlm hf.out)
         go_wp2_with fail
         go_ret
         exact ⟨ret_bool hr.out.symm,bT HB4.out (bT HBc.out (bT Hbx.out hB))⟩
        case true =>
         have hf:=Lib.hid (show freeS si nl[m]=true by rw [hfe.out];simp only [e1,e2,e3,e4,e5];rfl)
         have HTO:=Lib.hid TO
         have HTF:=Lib.hid TF
         have HTL:=Lib.hid TL
         clear TO TF TL hfe e1 e2 e4
         refine rg_start (Since W12) (.run 4 0 0 (.call 4 31 (.take 5 63 (.take 6 127 (.call 7 255 (.run 15 8 255 (.call 23 16777215 (.run 13 24 16777215 (.done))))))))) (by kernel_rfl) (bD (bR _)) (by kernel_rfl) (by kernel_rfl) (Nat.le_of_ble_eq_true (by kernel_rfl)) ?_
         intro opsR QR Hops HQrg hS
         iterate 4
          apply rg_p;exact Hops;exact rfl;exact hS;exact rfl
          · intro _ hqc;go_simp;try rfl
          try simp only [pu]
         refine rg_call (i:=4) (get_of Hops rfl) (fun K hK=>?_)
         have HSrg:=Lib.hid hS;clear hS
         refine rg_run (wanted_plain rfl) ?_
         go_simp
         refine (HTO.out _).mono ?_
         rintro e wr1 ⟨rfl,hbr1⟩
         have hS:Since W12 wr1:=bT (w:=W12) HSrg.out hbr1
         clear HSrg
         refine hK.out _ _ hS (fun _=>?_)
         clear hK K
         try simp only [pu]
         apply rg_p;exact Hops;exact rfl;exact hS;exact rfl
         · intro _ hqc;go_simp;try rfl
         try simp only [pu]
         apply rg_g;exact Hops;exact rfl;exact hS;iterate 4 exact rfl
         · intro _ hqc;go_simp;try rfl
         try simp only [pu]
         refine rg_call (i:=7) (get_of Hops rfl) (fun K hK=>?_)
         have HSrg:=Lib.hid hS;clear hS
         refine rg_run (wanted_yes rfl (get_of Hops rfl) rfl rfl) ?_
         go_simp
         refine (HTF.out _).mono ?_
         rintro e wr2 ⟨rfl,hbr2⟩
         have hS:Since W12 wr2:=bT (w:=W12) HSrg.out hbr2
         clear HSrg
         refine hK.out _ _ hS (fun _=>?_)
         clear hK K
         try simp only [pu]
         iterate 12
          apply rg_g;exact Hops;exact rfl;exact hS;iterate 4 exact rfl
          · intro _ hqc;go_simp;try rfl
          try simp only [pu]
         iterate 2
          apply rg_p;exact Hops;exact rfl;exact hS;exact rfl
          · intro _ hqc;go_simp;try rfl
          try simp only [pu]
         apply rg_g;exact Hops;exact rfl;exact hS;iterate 4 exact rfl
         · intro _ hqc;go_simp;try rfl
         try simp only [pu]
         refine rg_call (i:=23) (get_of Hops rfl) (fun K hK=>?_)
         have HSrg:=Lib.hid hS;clear hS
         refine rg_run (wanted_yes rfl (get_of Hops rfl) rfl rfl) ?_
         go_simp
         refine (HTL.out _ (HY.out.keep (bT Hbx.out HSrg.out))).mono ?_
         rintro e wr3 ⟨rfl,hbr3⟩
         have hS:Since W12 wr3:=bT (w:=W12) HSrg.out hbr3
         clear HSrg
         refine hK.out _ _ hS (fun _=>?_)
         clear hK K
         try simp only [pu]
         iterate 12
          apply rg_g;exact Hops;exact rfl;exact hS;iterate 4 exact rfl
          · intro _ hqc;go_simp;try rfl
          try simp only [pu]
         apply rg_p;exact Hops;exact rfl;exact hS;exact rfl
         · intro _ hqc;go_simp;try rfl
         try simp only [pu]
         refine rg_done ?_
         refine HQrg.down _ _ ?_
         have hB:Below W12.heap.size W12 wr3:=hS
         clear hS HQrg Hops
         go_wp2_with fail
         go_roundw
         case rel => exact ⟨m+1,by omega,by go_num,bT Hbx.out hB,all_succ (p:=fun n=>freeS si n=true) Hnx.out hlm hf.out⟩
         case measure => simp [intOf];omega
      case true =>
       have hf:=Lib.hid (show freeS si nl[m]=true by rw [hfe.out];simp only [e1,e2,e3];rfl)
       have HTO:=Lib.hid TO
       have HTF:=Lib.hid TF
       have HTL:=Lib.hid TL
       clear TO TF TL hfe e1 e2
       refine rg_start (Since W12) (.run 4 0 0 (.call 4 31 (.take 5 63 (.take 6 127 (.call 7 255 (.run 29 8 255 (.done))))))) (by kernel_rfl) (bD (bR _)) (by kernel_rfl) (by kernel_rfl) (Nat.le_of_ble_eq_true (by kernel_rfl)) ?_
       intro opsR QR Hops HQrg hS
       iterate 4
        apply rg_p;exact Hops;exact rfl;exact hS;exact rfl
        · intro _ hqc;go_simp;try rfl
        try simp only [pu]
       refine rg_call (i:=4) (get_of Hops rfl) (fun K hK=>?_)
       have HSrg:=Lib.hid hS;clear hS
       refine rg_run (wanted_plain rfl) ?_
       go_simp
       refine (HTO.out _).mono ?_
       rintro e wr1 ⟨rfl,hbr1⟩
       have hS:Since W12 wr1:=bT (w:=W12) HSrg.out hbr1
       clear HSrg
       refine hK.out _ _ hS (fun _=>?_)
       clear hK K
       try simp only [pu]
       apply rg_p;exact Hops;exact rfl;exact hS;exact rfl
       · intro _ hqc;go_simp;try rfl
       try simp only [pu]
       apply rg_g;exact Hops;exact rfl;exact hS;iterate 4 exact rfl
       · intro _ hqc;go_simp;try rfl
       try simp only [pu]
       refine rg_call (i:=7) (get_of Hops rfl) (fun K hK=>?_)
       have HSrg:=Lib.hid hS;clear hS
       refine rg_run (wanted_yes rfl (get_of Hops rfl) rfl rfl) ?_
       go_simp
       refine (HTF.out _).mono ?_
       rintro e wr2 ⟨rfl,hbr2⟩
       have hS:Since W12 wr2:=bT (w:=W12) HSrg.out hbr2
       clear HSrg
       refine hK.out _ _ hS (fun _=>?_)
       clear hK K
       try simp only [pu]
       iterate 12
        apply rg_g;exact Hops;exact rfl;exact hS;iterate 4 exact rfl
        · intro _ hqc;go_simp;try rfl
        try simp only [pu]
       iterate 2
        apply rg_p;exact Hops;exact rfl;exact hS;exact rfl
        · intro _ hqc;go_simp;try rfl
        try simp only [pu]
       iterate 14
        refine rg_yn Hops rfl hS rfl rfl rfl rfl rfl ?_
        try simp only [pu]
       apply rg_p;exact Hops;exact rfl;exact hS;exact rfl
       · intro _ hqc;go_simp;try rfl
       try simp only [pu]
       refine rg_done ?_
       refine HQrg.down _ _ ?_
       have hB:Below W12.heap.size W12 wr2:=hS
       clear hS HQrg Hops
       go_wp2_with fail
       go_roundw
       case rel => exact ⟨m+1,by omega,by go_num,bT Hbx.out hB,all_succ (p:=fun n=>freeS si n=true) Hnx.out hlm hf.out⟩
       case measure => simp [intOf];omega
end Go.Proofs.YtnhdmghgjngcaaaGreat
