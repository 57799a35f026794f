import Derived.Test.YtialfdomhoojiaaGreatJ27
import Derived.Test.YtialfdomhoojiaaGreatLawWc
import Derived.Test.YtialfdomhoojiaaGreatJ24
import Derived.Test.YtialfdomhoojiaaGreatJ17
import Derived.Test.YtialfdomhoojiaaGreatJ09
import Derived.Test.YtialfdomhoojiaaGreatJ19
import Derived.Test.YtialfdomhoojiaaGreatJ21
set_option linter.unusedSimpArgs false
set_option linter.unusedVariables false
namespace Go.Proofs.YtialfdomhoojiaaGreat
open Go.RowKit
theorem abz {P:Program} {fn:Func} {p q r s:Tmp} (h:fn.results=#[.tmp p,.tmp q,.tmp r,.tmp s]) (a:Array Value) (w:World) :
  (results fn a).run P w=.ok (.tuple #[a.getD p undef,a.getD q undef,a.getD r undef,a.getD s undef]) w:=by
 simp only [results,h];simp [Sem.run_bind,Sem.run_pure,Result.andThen]
def ahD (w:World) (p:Pl) (e:Ending) (w':World):Prop :=
 ∃ A c L A' c' gm f,e=.returned (.tuple #[.slice A L.length c,.slice A' L.length c',.map (some gm),.int .i64 0])/\Below w.heap.size w w'/\vM w' (.slice A L.length c) L/\Ints w' (.slice A' L.length c') (qo p (aI p) L.length) /\
  jE p L (aI p) (iM p) p.nodes/\vK p L/\rO w' gm p f/\w.heap.size<=gm/\(∀ x∈L,Own w' w.heap.size 24 1 nD (aJ x.iv) x.inn/\Own w' w.heap.size 3 1 eU (aJ x.av) x.bK)
def abA (w:World) (z:Int) (e:Ending) (w':World):Prop:=e=.returned (.tuple #[.slice none 0 0,.slice none 0 0,.map none,.int .i64 z])/\Below w.heap.size w w'
set_option maxRecDepth 100000 in
set_option maxHeartbeats 8000000 in
theorem ahE (v:Value) (p:Pl) (w:World) (h:dS w v p) (hv:mQ p≠0):Calls Tryz.prog 49 #[v] w (abA w (mQ p)):=by
 have kH:=Lib.hid (fun W (hW:Below w.heap.size w W)=>aqO v p W (h.mono hW) hv);obtain ⟨vn,va,vf,al,rfl,-⟩:=h;generalize mQ p=z at *;have he:(z != 0)=true:=by simpa using hv
 clear hv;go_enter Tryz.func49,Tryz.ntmps49;go_wp2_with fail;refine (kH.out _ (bA (bR w) _)).mono ?_;rintro e w1 ⟨Ac,cc,cl,rfl,hb1,-,-⟩;have B1:=Lib.hid (bT (bA (bR w) _) hb1);clear hb1 kH;go_wp2_with fail;exact bodyPost_ret (abz rfl _ _) rfl ⟨rfl,B1.out⟩
set_option maxRecDepth 100000 in
set_option maxHeartbeats 8000000 in
theorem abB (v:Value) (p:Pl) (w:World) (h:dS w v p) (hv:Valid p):Calls Tryz.prog 49 #[v] w fun e w'=>if wM p=true then ahD w p e w' else abA w 12 e w':=by
 have kH:=Lib.hid (fun W (hW:Below w.heap.size w W)=>ag8 v p W (h.mono hW) hv);have Bh:=Lib.hid (fun W (hW:Below w.heap.size w W)=>afL v p W (h.mono hW) hv);have EP:=Lib.hid (fun vc CL gm f W (hW:Below w.heap.size w W) hc hcl hpm=>ag7 v vc p CL gm f W (h.mono hW) hv hc hcl hpm);have VH:=Lib.hid (fun vl L W (hW:Below w.heap.size w W) hl hd=>aqE v vl p L (aI p) p.nodes W (h.mono hW) hv hl hd (List.Perm.refl _));have HV:=Lib.hid hv;obtain ⟨_,_,_,al,rfl,hpa,⟨An,cn,rfl,-⟩,⟨⟨Aa,ca,rfl,-⟩,-⟩,⟨Af,cf,rfl,-⟩⟩:=h;generalize hnn:p.nodes.length=nn at *;generalize al.length=na at *;generalize hnf:p.faces.length=nf at *;obtain ⟨q,hq⟩:∃ q,wM p=q:=⟨_,rfl⟩;rw [hq];have HQ:=Lib.hid hq;clear hpa hv hnn hnf hq;go_enter Tryz.func49,Tryz.ntmps49;go_wp2_with fail;refine (kH.out _ (bA (bR w) _)).mono ?_;rintro e w1 ⟨Ac,cc,CL,rfl,hb1,hcl,hco⟩;have hcr:=hco.read;have hle:(bF p).length=CL.length:=by rw [<- hcl,List.length_map]
 rw [hle] at hcr ⊢;have DC:=Lib.hid hcl;have EU:=Lib.hid hcr;have X1:aj w1 w.heap.size 26 #[.slice An nn cn,.slice Aa na ca,.slice Af nf cf]:=(aj.made rfl _ _).keep hb1;have B1:=Lib.hid (bT (bA (bR w) _) hb1);have fK:=Lib.hid X1;clear hb1 kH hcl hco hcr hle;obtain ⟨aO,aP,aS,aT,-,-,-⟩:=X1.aY;go_wp2_with fail;refine (Bh.out _ B1.out).mono ?_;rintro e w2 ⟨gm,f,rfl,hb2,hgm,hpm⟩;have B2:=Lib.hid (bT B1.out hb2);have bU:=Lib.hid (fK.out.keep hb2);have ahF:=Lib.hid (EU.out.mono hb2);have ng:=Lib.hid hpm;have hgw:w.heap.size<=gm:=Nat.le_trans B1.out.size hgm;clear hb2 hpm fK EU X1 aO aP aS aT Bh B1 hgm;have X1:=bU.out
 try clear aO
 try clear aP
 try clear aS
 try clear aT
 obtain ⟨aO,aP,aS,aT,-,-,-⟩:=X1.aY;go_wp2_with fail;refine (EP.out _ CL gm f _ B2.out ahF.out DC.out ng.out).mono ?_;rintro e w3 ⟨A,c,L,rfl,hb3,had,hdv,htw⟩;have B3:=Lib.hid (bT B2.out hb3);have iR:=Lib.hid (bU.out.keep hb3);have Q8:=Lib.hid (ng.out.keep hb3);have HA:=Lib.hid (had.full hb3);have HD:=Lib.hid hdv;have HT:=Lib.hid htw;have hz2:=B2.out.size;have HOw:=Lib.hid (show ∀ x∈L,Own w3 w.heap.size 24 1 nD (aJ x.iv) x.inn/\Own w3 w.heap.size 3 1 eU (aJ x.av) x.bK from fun x hx=>⟨(had.inn x hx).jG hz2,(had.bK x hx).jG hz2⟩);have HLn:=Lib.hid (show (aI p).length+1=L.length from hdv.len.symm);clear hb3 had hdv htw bU ahF ng X1 aO aP aS aT EP B2 hz2;have X1:=iR.out
 try clear aO
 try clear aP
 try clear aS
 try clear aT
 obtain ⟨aO,aP,aS,aT,-,-,-⟩:=X1.aY;go_wp2_with fail;refine (VH.out _ L _ B3.out HA.out HD.out).mono ?_;rintro e w4 ⟨A',n',c',rfl,hb4,hof⟩;rw [HQ.out] at hof ⊢;have B4:=Lib.hid (bT B3.out hb4);have Nv:=Lib.hid (Q8.out.keep hb4);have lF:=Lib.hid (HA.out.mono hb4);have MC:=Lib.hid hof;have aqP:=Lib.hid (show ∀ x∈L,Own w4 w.heap.size 24 1 nD (aJ x.iv) x.inn/\Own w4 w.heap.size 3 1 eU (aJ x.av) x.bK from fun x hx=>⟨(HOw.out x hx).1.keep hb4,(HOw.out x hx).2.keep hb4⟩);clear hb4 hof X1 aO aP aS aT VH HA Q8 iR B3 HOw
 cases q
 case false =>
  go_wp2_with fail;exact bodyPost_ret (abz rfl _ _) rfl (by (try rw [if_neg (by decide)]);exact ⟨rfl,B4.out⟩)
 case true =>
  have ho:=MC.out rfl;rw [HLn.out] at ho;have hnl:n'=L.length:=by
   obtain ⟨A9,c9,h9,-⟩:=Own.qM ho;rw [yE] at h9;injection h9
  subst hnl;have HO:=Lib.hid ho;clear ho;go_wp2_with fail;refine bodyPost_ret (abz rfl _ _) rfl ?_
  try rw [if_pos rfl]
  refine ⟨A,c,L,A',c',gm,f,rfl,B4.out,lF.out,?_,HD.out,HT.out,Nv.out,hgw,aqP.out⟩;have:=HO.out.sl
  rw [yE] at this;unfold Ints;rw [yE];exact this
def iV (p:Pl):Int:=if mQ p≠0 then mQ p else if wM p=true then 0 else 12
set_option maxRecDepth 100000 in
set_option maxHeartbeats 4000000 in
theorem V9 (v:Value) (p:Pl) (w:World) (h:dS w v p):Calls Tryz.prog 19 #[v] w fun e w'=>e=.returned (.int .i64 (iV p))/\Below w.heap.size w w':=by
 have HR:=Lib.hid (show ∀ W,Below w.heap.size w W->Calls Tryz.prog 49 #[v] W fun e w'=>(∃ A B C,e=.returned (.tuple #[A,B,C,.int .i64 (iV p)]))/\Below W.heap.size W w' from fun W hW=>by
  by_cases hv:mQ p=0
  ·refine (abB v p W (h.mono hW) ((Ea p).1 hv)).mono ?_;intro e w' he;unfold iV;rw [if_neg (by simpa using hv)];by_cases hf:wM p=true
   ·rw [if_pos hf] at he ⊢;obtain ⟨A,c,L,A',c',gm,f,rfl,hb,-⟩:=he;exact ⟨⟨_,_,_,rfl⟩,hb⟩
   ·rw [if_neg hf] at he ⊢;exact ⟨⟨_,_,_,he.1⟩,he.2⟩
  ·refine (ahE v p W (h.mono hW) hv).mono ?_;rintro e w' ⟨rfl,hb⟩;unfold iV;rw [if_pos hv];exact ⟨⟨_,_,_,rfl⟩,hb⟩)
 obtain ⟨vn,va,vf,al,rfl,-⟩:=h;generalize iV p=z at *;go_enter Tryz.func19,Tryz.ntmps19;go_wp2_with fail;refine (HR.out _ (bA (bR w) _)).mono ?_;rintro e w1 ⟨⟨A,B,C,rfl⟩,hb1⟩;have B1:=Lib.hid (bT (bA (bR w) _) hb1);clear hb1 HR;go_wp2_with fail;go_ret;exact ⟨rfl,B1.out⟩
structure Rg where
 face:Int
 out:List Int
 inn:List (List Int)
 bK:List Int
def xA (p:Pl) (b:Option (List Int)):Rg:=⟨ku p b,b.getD [],lS p b,vC p b⟩
def Wh (p:Pl) (O:List (List Int)) (f:Int):List Rg:=(O.filter (fun X=>decide (ku p (some X)=f))).map (fun X=>xA p (some X))
def Hw (p:Pl) (O:List (List Int)):List Rg:=xA p none::p.faces.flatMap (Wh p O)
theorem ahG {α:Type} (g:α->Int) (O:List α):∀ {fs:List Int},fs.Nodup->(fs.flatMap fun f=>O.filter (fun X=>decide (g X=f))).Perm (O.filter (fun X=>decide (g X∈fs)))
 | [],_=>by simp
 | f::fs,h=>by
  obtain ⟨hf,hn⟩:=List.nodup_cons.1 h;rw [List.flatMap_cons];refine ((ahG g O hn).append_left _).trans ?_;have e1:O.filter (fun X=>decide (g X=f))=(O.filter (fun X=>decide (g X∈f::fs))).filter (fun X=>decide (g X=f)):=by
   rw [List.filter_filter];congr 1
   funext X
   by_cases e:g X=f<;>simp [e]
  have e2:O.filter (fun X=>decide (g X∈fs))=(O.filter (fun X=>decide (g X∈f::fs))).filter (fun X=>!decide (g X=f)):=by
   rw [List.filter_filter];congr 1
   funext X
   by_cases e:g X=f
   · simp [e,hf]
   · simp [e]
  rw [e1,e2];exact List.filter_append_perm _ _
theorem aqQ {p:Pl} (h:Valid p) (hf:uJ p) {O:List (List Int)} (hO:O.Perm (aI p)):(Hw p O).Perm ((lD p).map (xA p)):=by
 unfold Hw lD;rw [List.map_cons,List.map_map];refine List.Perm.cons _ ?_;have hn:p.faces.Nodup:=h.agv.imp (fun h=>by omega);have e:p.faces.flatMap (Wh p O)=(p.faces.flatMap fun f=>O.filter (fun X=>decide (ku p (some X)=f))).map (fun X=>xA p (some X)):=by
  rw [List.map_flatMap];rfl
 rw [e];refine List.Perm.map _ (((ahG (fun X=>ku p (some X)) O hn).trans ?_).trans hO)
 have:O.filter (fun X=>decide (ku p (some X)∈p.faces))=O:=by
  rw [List.filter_eq_self];intro X hX;rw [decide_eq_true_eq];rcases h.U3 (X.headD 0) with e | e
  · exact absurd e (hf.some X (hO.subset hX))
  · exact e
 rw [this]
theorem Q9 {p:Pl} {O:List (List Int)} {f:Int} {r:Rg} (h:r∈Wh p O f):r.face=f:=by
 unfold Wh at h;obtain ⟨X,hX,rfl⟩:=List.mem_map.1 h;exact of_decide_eq_true (List.mem_filter.1 hX).2
theorem aqR {p:Pl} (h:Valid p) (O:List (List Int)):(Hw p O).Pairwise (fun a b=>a.face<=b.face):=by
 unfold Hw;rw [List.pairwise_cons,List.pairwise_flatMap];refine ⟨fun r hr=>?_,fun f hf=>?_,h.agv.imp (fun {f g} hfg x hx y hy=>?_)⟩
 ·obtain ⟨f,hf,hr⟩:=List.mem_flatMap.1 hr;rw [Q9 hr];have:=h.agw hf
  show (0:Int)<=f
  omega
 ·rw [List.pairwise_iff_getElem];intro i j hi hj _;rw [Q9 (List.getElem_mem hi),Q9 (List.getElem_mem hj)];exact Int.le_refl _
 ·rw [Q9 hx,Q9 hy];omega
theorem aqS {p:Pl} (hf:uJ p) {a b:Rg} (ha:a∈(lD p).map (xA p)) (hb:b∈(lD p).map (xA p)) (e:a.face=b.face):a=b:=by
 obtain ⟨x,hx,rfl⟩:=List.mem_map.1 ha;obtain ⟨y,hy,rfl⟩:=List.mem_map.1 hb;unfold lD at hx hy;have key:∀ X∈aI p,∀ Y∈aI p,ku p (some X)=ku p (some Y)->X=Y:=by
  intro X hX Y hY e;obtain ⟨i,hi,rfl⟩:=List.mem_iff_getElem.1 hX;obtain ⟨j,hj,rfl⟩:=List.mem_iff_getElem.1 hY;have hd:=hf.differ;unfold List.Nodup at hd;rw [List.pairwise_map,List.pairwise_iff_getElem] at hd;rcases Nat.lt_trichotomy i j with hij | hij | hij
  · exact absurd e (hd i j hi hj hij)
  · subst hij;rfl
  · exact absurd e.symm (hd j i hj hi hij)
 rcases List.mem_cons.1 hx with rfl | hx<;>rcases List.mem_cons.1 hy with rfl | hy
 · rfl
 ·obtain ⟨Y,hY,rfl⟩:=List.mem_map.1 hy;exact absurd e.symm (hf.some Y hY)
 ·obtain ⟨X,hX,rfl⟩:=List.mem_map.1 hx;exact absurd e (hf.some X hX)
 ·obtain ⟨X,hX,rfl⟩:=List.mem_map.1 hx;obtain ⟨Y,hY,rfl⟩:=List.mem_map.1 hy;rw [key X hX Y hY e]
theorem aqT {p:Pl} (h:Valid p) (hf:uJ p) {O:List (List Int)} (hO:O.Perm (aI p)) {l:List Rg} (hl:l.Perm ((lD p).map (xA p))) (hs:l.Pairwise (fun a b=>a.face<=b.face)):l=Hw p O:=by
 refine Ll (lt:=fun a b=>decide (a.face<b.face)) (hl.trans (aqQ h hf hO).symm) (hs.imp (fun h=>by simp;omega)) ((aqR h O).imp (fun h=>by simp;omega)) (fun a ha b hb h1 h2=>?_);simp only [decide_eq_false_iff_not] at h1 h2;exact aqS hf (hl.subset ha) (hl.subset hb) (by omega)
def uh (x:AD):Rg:=⟨x.tw,x.out,x.inn.map (·.1),x.bK⟩
theorem jE.rg {p:Pl} {L:List AD} {O:List (List Int)} (h:jE p L O (iM p) p.nodes) (ht:∀ i (hi:i<L.length),L[i].tw=jT p O i) {i:Nat} (hi:i<L.length):uh L[i]=xA p (qO O i):=by
 have hc:=h.VZ hi;unfold qm tX gY at hc;rw [List.map_cons] at hc;injection hc with h1 h2;unfold uh xA;rw [ht i hi,h.bK i hi];have h1':L[i].out=(qO O i).getD []:=h1;rw [h1',h2];rfl
def aqU (w:World) (p:Pl) (e:Ending) (w':World):Prop :=
 ∃ A c L,e=.returned (.tuple #[.slice A L.length c,.int .i64 0])/\Below w.heap.size w w'/\vM w' (.slice A L.length c) L/\L.map uh=Hw p (sortK (aI p))
open Go.RowKit Go.Sort
theorem Nw {p:Pl} (hv:iV p=0):Valid p/\wM p=true:=by
 unfold iV at hv;split at hv
 · rename_i h0;exact absurd hv h0
 ·rename_i h0;split at hv
  · rename_i h1;exact ⟨(Ea p).1 (by simpa using h0),h1⟩
  · cases hv
theorem aqV (v:Value) (p:Pl) (w:World) (h:dS w v p) (hv:iV p≠0):Calls Tryz.prog 49 #[v] w (abA w (iV p)):=by
 by_cases h0:mQ p=0
 ·have hr:iV p=if wM p=true then 0 else 12:=by unfold iV;rw [if_neg (by simpa using h0)]
  have hf:¬ wM p=true:=fun e=>hv (by rw [hr,if_pos e]);rw [hr,if_neg hf];refine (abB v p w h ((Ea p).1 h0)).mono fun e w' g=>?_;rw [if_neg hf] at g;exact g
 ·have hr:iV p=mQ p:=by unfold iV;rw [if_pos h0]
  rw [hr];exact ahE v p w h h0
theorem Wi (v:Value) (p:Pl) (w:World) (h:dS w v p) (hv:iV p=0):Calls Tryz.prog 49 #[v] w (ahD w p):=by
 obtain ⟨h1,h2⟩:=Nw hv;refine (abB v p w h h1).mono fun e w' g=>?_;rw [if_pos h2] at g;exact g
theorem aqW {p:Pl} {L:List AD} {O:List (List Int)} (h:jE p L O (iM p) p.nodes):(zK p O L L.length).map uh=(none::O.map some).map (xA p):=by
 have hd:=aqN h L.length;have ht:∀ i (hi:i<(zK p O L L.length).length),(zK p O L L.length)[i].tw=jT p O i:=fun i hi=>by
  have hil:i<L.length:=by rw [JX] at hi;exact hi
  rw [Nu hi hil,if_pos hil]
 have hl:=hd.len;apply List.ext_getElem (by simp [hl]);intro i h1 h2;have h3:i<(zK p O L L.length).length:=by simpa using h1
 rw [List.getElem_map,hd.rg ht h3,List.getElem_map];congr 1;by_cases e:i=0
 · subst e;rfl
 ·obtain ⟨j,rfl⟩:∃ j,i=j+1:=⟨i-1,by omega⟩;rw [EH (by omega) (by omega)];simp
set_option maxRecDepth 100000 in
set_option maxHeartbeats 8000000 in
theorem aqX (v:Value) (p:Pl) (w:World) (h:dS w v p) (hv:iV p=0):Calls Tryz.prog 17 #[v] w (aqU w p):=by
 obtain ⟨hvv,hfb⟩:=Nw hv;have HV:=Lib.hid hvv;have HFk:=Lib.hid (JD.1 hfb);have HC:=Lib.hid (fun W (hW:Below w.heap.size w W)=>Wi v p W (h.mono hW) hv);have vg:=Lib.hid (@apX);have hol:(aI p).length<=512:=Nat.le_trans (List.length_filter_le _ _) hvv.GU;obtain ⟨vn,va,vf,al,rfl,-⟩:=h;clear hv hfb hvv;go_enter Tryz.func17,Tryz.ntmps17;go_wp2_with fail;refine (HC.out _ (bA (bR w) _)).mono ?_;rintro e w1 ⟨A,c,L,A',c',gm,f,rfl,hb1,xB,hfi,hdv,-,-,-,-⟩;have HB1:=Lib.hid (bT (bA (bR w) _) hb1);have HA:=Lib.hid xB;have HD:=Lib.hid hdv;have hll:L.length=(aI p).length+1:=hdv.len;have hl1:L.length<=513:=by omega
 have hfl:=yE p (aI p) L.length;obtain ⟨Al,cl,hel,hl2,hl3,hRl⟩:=xB.sl;injection hel with y1 y2 y3;subst y1 y3;clear y2;unfold Ints at hfi;rw [hfl] at hfi;obtain ⟨Af,cf,hef,hf2,hf3,Hy⟩:=hfi;injection hef with y1 y2 y3;subst y1 y3;clear y2;unfold maxLen at hl3 hf3;have HRl:=Lib.hid hRl;have DK:=Lib.hid Hy;have EL:=Lib.hid hll;have abC:=JX p (aI p) L L.length;obtain ⟨F,hF⟩:∃ F,zK p (aI p) L L.length=F:=⟨_,rfl⟩;have Rf:=Lib.hid hF;rw [hF] at abC;have Rh:=Lib.hid abC;clear hb1 xB hdv hRl Hy HC hF hfl hll abC;go_upto_block 0 with fail;go_wp2_with fail;go_loopw [2,21] (fun s i wr=>∃ k:Nat,k<=L.length/\i=.int .i64 k/\(∃ A c,s=.slice A k c)/\Own wr w1.heap.size 62 4 dP s (F.take k)/\Below w1.heap.size w1 wr) (fun _ i _=>L.length-(intOf i).toNat)
 case atStart => exact ⟨0,Nat.zero_le _,rfl,⟨_,_,rfl⟩,by rw [List.take_zero];exact Own.nil _ _ _ _ _,bR w1⟩
 case round =>
  obtain ⟨k,hk,rfl,⟨A5,c5,rfl⟩,ho,hb⟩:=hrel;obtain ⟨wo,rfl⟩:∃ wo:World,wo=wr:=⟨_,rfl⟩;have HO:=Lib.hid ho;have HB:=Lib.hid hb;have hzo:=hb.size;clear ho hb;by_cases hlt:k<L.length
  ·obtain ⟨b,o,rfl,hlb,c0,c1,c2,c3⟩:=(HRl.out.mono HB.out).ad hlt;have hfk:k<(qo p (aI p) L.length).length:=by rw [yE];exact hlt
   obtain ⟨bf,of_,rfl,avc,f0⟩:=(DK.out.mono HB.out).int hfk;have hkF:k<F.length:=by rw [Rh.out];exact hlt
   have htk:F.take (k+1)=F.take k++[F[k]]:=List.take_succ_eq_append_getElem hkF;have hfv:(qo p (aI p) L.length)[k]=jT p (aI p) k:=by simp only [qo,List.getElem_map,List.getElem_range]
   have hFk:F[k] = {L[k] with tw:=jT p (aI p) k}:=by
    have:=Nu (p:=p) (O:=aI p) (L:=L) (k:=L.length) (i:=k) (by rw [JX];exact hlt) hlt
    rw [if_pos hlt] at this;rw [<- this];congr 1;exact Rf.out.symm
   rw [hfv] at f0;rw [hFk] at htk;generalize jT p (aI p) k=fc at *;generalize L[k]=x at *;obtain ⟨tw,X,⟨oa,on,oc⟩,In,⟨ia,jM,ic⟩,al',⟨aa,an,ac⟩⟩:=x;unfold aJ at c1 c2 c3;simp only at c0 c1 c2 c3 htk;have mD:=Lib.hid htk;have HF0:=Lib.hid f0;clear htk hFk hfv;go_upto_region 7 with fail;obtain ⟨W2,hW⟩:∃ W:World,W=wo.alloc (.cells #[.int .i64 tw,.slice oa on oc,.slice ia jM ic,.slice aa an ac] 82):=⟨_,rfl⟩;have hA:Below wo.heap.size wo W2:=by rw [hW];exact bA (bR wo) _
   obtain ⟨g8,xu⟩:∃ g8,wo.heap.size=g8:=⟨_,rfl⟩;have X5:aj W2 g8 82 #[.int .i64 tw,.slice oa on oc,.slice ia jM ic,.slice aa an ac]:=by rw [hW];exact aj.made xu.symm _ _
   have HB2:=Lib.hid (bT HB.out hA);have iK:=Lib.hid (HO.out.keep hA);replace f0:=gU hA f0;have n1:some g8≠(Value.slice A5 k c5).ownBlock:=fun e=>by have:=(HO.out.lt _ e.symm).2;omega
   have n2:some bf≠(Value.slice A5 k c5).ownBlock:=fun e=>by
    have:=(HO.out.lt _ e.symm).1
    have:bf<w1.heap.size:=by
     obtain ⟨b9,o9,e9,h9,-⟩:=DK.out.int hfk;injection e9 with e9;injection e9 with e9 _ _;omega
    omega
   have hzW:wo.heap.size<=W2.heap.size:=hA.size;have aqY:bf<W2.heap.size:=by omega
   have aqZ:w1.heap.size<=W2.heap.size:=by omega
   rw [<- hW]
   try rw [xu]
   clear hW hA c0 c1 c2 c3 hlb HO HB;have hkl2:(F.take k).length=k:=by rw [List.length_take];omega
   have hsh:(F.take k++[(⟨fc,X,⟨oa,on,oc⟩,In,⟨ia,jM,ic⟩,al',⟨aa,an,ac⟩⟩:AD)]).length=k+1:=by rw [List.length_append,hkl2];rfl
   have fD:=Lib.hid hsh;have avd:(F.take k).length<=513:=by omega
   have kf1:(k:Int)<L.length:=by omega
   have kf2:0<=(k:Int):=by omega
   clear hsh hkl2;obtain ⟨dw,dB,dL,jK,yT,-,-,-,-⟩:=X5.oD;refine cZ (jH W2 ((Value.slice A5 k c5).ownBlock)) (.run 12 0 0 (.call 12 8191 (.call 13 16383 (.take 14 32767 (.done))))) (by kernel_rfl) (gD (gR _ _)) (by kernel_rfl) (by kernel_rfl) (Nat.le_of_ble_eq_true (by kernel_rfl)) ?_;intro dn QR au aC hS
   iterate 12
    apply jU;exact au;exact rfl;exact hS;exact rfl
    · intro _ hqc;go_simp;try rfl
    try simp only [pu]
   refine aW (i:=12) (aH au rfl) (fun K hK=>?_);have aA:=Lib.hid hS;clear hS;refine aN (aV rfl) ?_;go_simp;refine hK.out _ _ (gA aA.out _) (fun hS=>?_);clear hK K aA
   try simp only [pu]
   refine aW (i:=13) (aH au rfl) (fun K hK=>?_);have aA:=Lib.hid hS;clear hS;refine aN (aV rfl) ?_;refine BP (.tmp 26) (.tmp 38) _ rfl (base:=w1.heap.size) aqh vJ UZ rfl ((iK.out.keep (bD (bR W2))).alloc _) rfl (l2:=[(⟨fc,X,⟨oa,on,oc⟩,In,⟨ia,jM,ic⟩,al',⟨aa,an,ac⟩⟩:AD)]) (Sl.lit (n:=1) (aj.made rfl _ _) rfl (fQ (by omega))) (by simp only [List.length_cons,List.length_nil];omega) (by simp only [List.length_cons,List.length_nil];omega) (by simp;omega) ?_;intro v3 wr3 ho3 hg hat;obtain ⟨A6,c6,hv6,-⟩:=Own.qM ho3;rw [fD.out] at hv6;subst hv6;have hS:jH W2 (Value.slice A5 k c5).ownBlock wr3:=gT aA.out hg;clear aA;refine hK.out _ _ hS (fun _=>?_);clear hK K
   try simp only [pu]
   apply jU;exact au;exact rfl;exact hS;exact rfl
   · intro _ hqc;go_simp;try rfl
   try simp only [pu]
   refine bQ ?_;refine aC.down _ _ ?_;have hB:W2.grownBy _ ((Value.slice A5 k c5).ownBlock):=hS;clear hS aC au;have iU:=Lib.hid ho3;have HB3:=Lib.hid (ajQ HB2.out aqZ hB (fun g hg=>(iK.out.lt g hg).1));clear ho3 hg hat hB f0 X5 dw dB dL jK yT n1 n2 aqY;go_wp2_with fail;go_roundw
   case rel => exact ⟨k+1,by omega,by go_num,⟨A6,c6,rfl⟩,by rw [mD.out];exact iU.out,HB3.out⟩
   case measure => simp [intOf];omega
  ·obtain rfl:k=L.length:=by omega
   have hFt:F.take L.length=F:=List.take_of_length_le (by rw [Rh.out];omega);have hoF:=HO.out;rw [hFt] at hoF;have HOF:=Lib.hid hoF;clear hoF hFt HO;go_wp2_with fail;refine (vg.out w1.heap.size _ F wo HOF.out (by rw [Rh.out];omega)).mono ?_;rintro e w5 ⟨rfl,M,hp,hs,iY,hg5⟩;have dM:=Lib.hid (bG HB.out hg5 (fun g hg=>(HOF.out.lt g hg).1));have hml:M.length=L.length:=by rw [hp.length_eq,Rh.out]
   have HP:=Lib.hid hp;have uf:=Lib.hid iY;have HMl:=Lib.hid hml;have HS:=Lib.hid (show M.Pairwise (fun a b=>a.tw<=b.tw) from hs.imp (fun {a b} g=>by
    have g':ltOf (fun x y:AD=>lQ x.tw y.tw) b a=false:=g;rw [La (fun x:AD=>x.tw),decide_eq_false_iff_not] at g';omega))
   have abD:=Lib.hid (show M.map uh=Hw p (sortK (aI p)) from by
    refine aqT HV.out HFk.out (UL (aI p)).1 ?_ ?_
    ·refine (HP.out.map uh).trans ?_;rw [<- Rf.out,aqW HD.out];exact List.Perm.refl _
    ·rw [List.pairwise_map];exact HS.out)
   have zo:=Lib.hid (show ∀ x∈M,∃ y∈L,∃ t,x = {y with tw:=t} from fun x hx=>by
    have h9:=HP.out.subset hx;rw [<- Rf.out] at h9;exact aqM h9)
   have zJ:=Lib.hid (HA.out.mono dM.out);have hsl:=iY.sl;rw [hml] at hsl;have zq:=Lib.hid hsl;clear hp hs iY hg5 hml hsl;go_wp2_with fail;go_ret2;refine ⟨A5,c5,M,by rw [HMl.out];rfl,bT HB1.out dM.out,⟨by rw [HMl.out];exact zq.out,fun x hx=>?_,fun x hx=>?_,fun x hx=>?_,fun x hx=>?_⟩,abD.out⟩
   · obtain ⟨y,hy,t,rfl⟩:=zo.out x hx;exact zJ.out.out y hy
   · obtain ⟨y,hy,t,rfl⟩:=zo.out x hx;exact zJ.out.inn y hy
   · obtain ⟨y,hy,t,rfl⟩:=zo.out x hx;exact zJ.out.jk y hy
   · obtain ⟨y,hy,t,rfl⟩:=zo.out x hx;exact zJ.out.bK y hy
end Go.Proofs.YtialfdomhoojiaaGreat
