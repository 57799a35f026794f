import Derived.Test.YtialfdomhoojiaaGreatJ26
import Derived.Test.YtialfdomhoojiaaGreatLawWc
import Derived.Test.YtialfdomhoojiaaGreatJ19
import Derived.Test.YtialfdomhoojiaaGreatJ21
set_option linter.unusedSimpArgs false
set_option linter.unusedVariables false
namespace Go.Proofs.YtialfdomhoojiaaGreat
open Go.RowKit
theorem aaE {P:Program} {fn:Func} {p q r s:Tmp} (h:fn.results=#[.tmp p,.tmp q,.tmp r,.tmp s]) (a:Array Value) (w:World) :
  (results fn a).run P w=.ok (.tuple #[a.getD p undef,a.getD q undef,a.getD r undef,a.getD s undef]) w:=by
 simp only [results,h];simp [Sem.run_bind,Sem.run_pure,Result.andThen]
def agM (w:World) (p:Pl) (e:Ending) (w':World):Prop :=
 ∃ A c L A' c' gm f,e=.returned (.tuple #[.slice A L.length c,.slice A' L.length c',.map (some gm),.int .i64 0])/\Below w.heap.size w w'/\uK w' (.slice A L.length c) L/\Ints w' (.slice A' L.length c') (pI p (aN p) L.length) /\
  jf p L (aN p) (iP p) p.nodes/\uJ p L/\qQ w' gm p f/\w.heap.size<=gm/\(∀ x∈L,Own w' w.heap.size 24 1 kY (aH x.iv) x.inn/\Own w' w.heap.size 3 1 dO (aH x.av) x.bn)
def aaF (w:World) (z:Int) (e:Ending) (w':World):Prop:=e=.returned (.tuple #[.slice none 0 0,.slice none 0 0,.map none,.int .i64 z])/\Below w.heap.size w w'
set_option maxRecDepth 100000 in
set_option maxHeartbeats 8000000 in
theorem agN (v:Value) (p:Pl) (w:World) (h:dS w v p) (hv:oH p≠0):Calls Tryz.prog 49 #[v] w (aaF w (oH p)):=by
 have jr:=Lib.hid (fun W (hW:Below w.heap.size w W)=>apP v p W (h.mono hW) hv);obtain ⟨vn,va,vf,al,rfl,-⟩:=h;generalize oH p=z at *;have he:(z != 0)=true:=by simpa using hv
 clear hv;go_enter Tryz.func49,Tryz.ntmps49;go_wp2_with fail;refine (jr.out _ (bA (bR w) _)).mono ?_;rintro e w1 ⟨Ac,cc,cl,rfl,hb1,-,-⟩;have B1:=Lib.hid (bT (bA (bR w) _) hb1);clear hb1 jr;go_wp2_with fail;exact bodyPost_ret (aaE rfl _ _) rfl ⟨rfl,B1.out⟩
set_option maxRecDepth 100000 in
set_option maxHeartbeats 8000000 in
theorem aaG (v:Value) (p:Pl) (w:World) (h:dS w v p) (hv:Valid p):Calls Tryz.prog 49 #[v] w fun e w'=>if vJ p=true then agM w p e w' else aaF w 12 e w':=by
 have jr:=Lib.hid (fun W (hW:Below w.heap.size w W)=>aal v p W (h.mono hW) hv);have zF:=Lib.hid (fun W (hW:Below w.heap.size w W)=>aeJ v p W (h.mono hW) hv);have DU:=Lib.hid (fun vc CL gm f W (hW:Below w.heap.size w W) hc hcl hpm=>af8 v vc p CL gm f W (h.mono hW) hv hc hcl hpm);have Ux:=Lib.hid (fun vl L W (hW:Below w.heap.size w W) hl hd=>apx v vl p L (aN p) p.nodes W (h.mono hW) hv hl hd (List.Perm.refl _));have HV:=Lib.hid hv;obtain ⟨_,_,_,al,rfl,hpa,⟨An,cn,rfl,-⟩,⟨⟨Aa,ca,rfl,-⟩,-⟩,⟨Af,cf,rfl,-⟩⟩:=h;generalize hnn:p.nodes.length=nn at *;generalize al.length=na at *;generalize hnf:p.faces.length=nf at *;obtain ⟨q,hq⟩:∃ q,vJ p=q:=⟨_,rfl⟩;rw [hq];have HQ:=Lib.hid hq;clear hpa hv hnn hnf hq;go_enter Tryz.func49,Tryz.ntmps49;go_wp2_with fail;refine (jr.out _ (bA (bR w) _)).mono ?_;rintro e w1 ⟨Ac,cc,CL,rfl,hb1,hcl,hco⟩;have hcr:=hco.read;have hle:(aY p).length=CL.length:=by rw [<- hcl,List.length_map]
 rw [hle] at hcr ⊢;have xJ:=Lib.hid hcl;have DZ:=Lib.hid hcr;have X1:aj w1 w.heap.size 26 #[.slice An nn cn,.slice Aa na ca,.slice Af nf cf]:=(aj.made rfl _ _).keep hb1;have B1:=Lib.hid (bT (bA (bR w) _) hb1);have eH:=Lib.hid X1;clear hb1 jr hcl hco hcr hle;obtain ⟨aI,aJ,aK,aP,-,-,-⟩:=X1.bC;go_wp2_with fail;refine (zF.out _ B1.out).mono ?_;rintro e w2 ⟨gm,f,rfl,hb2,hgm,hpm⟩;have B2:=Lib.hid (bT B1.out hb2);have bY:=Lib.hid (eH.out.keep hb2);have agO:=Lib.hid (DZ.out.mono hb2);have lX:=Lib.hid hpm;have hgw:w.heap.size<=gm:=Nat.le_trans B1.out.size hgm;clear hb2 hpm eH DZ X1 aI aJ aK aP zF B1 hgm;have X1:=bY.out
 try clear aI
 try clear aJ
 try clear aK
 try clear aP
 obtain ⟨aI,aJ,aK,aP,-,-,-⟩:=X1.bC;go_wp2_with fail;refine (DU.out _ CL gm f _ B2.out agO.out xJ.out lX.out).mono ?_;rintro e w3 ⟨A,c,L,rfl,hb3,had,hdv,htw⟩;have B3:=Lib.hid (bT B2.out hb3);have iE:=Lib.hid (bY.out.keep hb3);have PU:=Lib.hid (lX.out.keep hb3);have HA:=Lib.hid (had.full hb3);have HD:=Lib.hid hdv;have HT:=Lib.hid htw;have hz2:=B2.out.size;have HOw:=Lib.hid (show ∀ x∈L,Own w3 w.heap.size 24 1 kY (aH x.iv) x.inn/\Own w3 w.heap.size 3 1 dO (aH x.av) x.bn from fun x hx=>⟨(had.inn x hx).iW hz2,(had.bn x hx).iW hz2⟩);have HLn:=Lib.hid (show (aN p).length+1=L.length from hdv.len.symm);clear hb3 had hdv htw bY agO lX X1 aI aJ aK aP DU B2 hz2;have X1:=iE.out
 try clear aI
 try clear aJ
 try clear aK
 try clear aP
 obtain ⟨aI,aJ,aK,aP,-,-,-⟩:=X1.bC;go_wp2_with fail;refine (Ux.out _ L _ B3.out HA.out HD.out).mono ?_;rintro e w4 ⟨A',n',c',rfl,hb4,hof⟩;rw [HQ.out] at hof ⊢;have B4:=Lib.hid (bT B3.out hb4);have LP:=Lib.hid (PU.out.keep hb4);have kP:=Lib.hid (HA.out.mono hb4);have KL:=Lib.hid hof;have apQ:=Lib.hid (show ∀ x∈L,Own w4 w.heap.size 24 1 kY (aH x.iv) x.inn/\Own w4 w.heap.size 3 1 dO (aH x.av) x.bn from fun x hx=>⟨(HOw.out x hx).1.keep hb4,(HOw.out x hx).2.keep hb4⟩);clear hb4 hof X1 aI aJ aK aP Ux HA PU iE B3 HOw
 cases q
 case false =>
  go_wp2_with fail;exact bodyPost_ret (aaE rfl _ _) rfl (by (try rw [if_neg (by decide)]);exact ⟨rfl,B4.out⟩)
 case true =>
  have ho:=KL.out rfl;rw [HLn.out] at ho;have hnl:n'=L.length:=by
   obtain ⟨A9,c9,h9,-⟩:=Own.mY ho;rw [xK] at h9;injection h9
  subst hnl;have HO:=Lib.hid ho;clear ho;go_wp2_with fail;refine bodyPost_ret (aaE rfl _ _) rfl ?_
  try rw [if_pos rfl]
  refine ⟨A,c,L,A',c',gm,f,rfl,B4.out,kP.out,?_,HD.out,HT.out,LP.out,hgw,apQ.out⟩;have:=HO.out.sl
  rw [xK] at this;unfold Ints;rw [xK];exact this
def jG (p:Pl):Int:=if oH p≠0 then oH p else if vJ p=true then 0 else 12
set_option maxRecDepth 100000 in
set_option maxHeartbeats 4000000 in
theorem agP (v:Value) (p:Pl) (w:World) (h:dS w v p):Calls Tryz.prog 19 #[v] w fun e w'=>e=.returned (.int .i64 (jG p))/\Below w.heap.size w w':=by
 have HR:=Lib.hid (show ∀ W,Below w.heap.size w W->Calls Tryz.prog 49 #[v] W fun e w'=>(∃ A B C,e=.returned (.tuple #[A,B,C,.int .i64 (jG p)]))/\Below W.heap.size W w' from fun W hW=>by
  by_cases hv:oH p=0
  ·refine (aaG v p W (h.mono hW) ((NP p).1 hv)).mono ?_;intro e w' he;unfold jG;rw [if_neg (by simpa using hv)];by_cases hf:vJ p=true
   ·rw [if_pos hf] at he ⊢;obtain ⟨A,c,L,A',c',gm,f,rfl,hb,-⟩:=he;exact ⟨⟨_,_,_,rfl⟩,hb⟩
   ·rw [if_neg hf] at he ⊢;exact ⟨⟨_,_,_,he.1⟩,he.2⟩
  ·refine (agN v p W (h.mono hW) hv).mono ?_;rintro e w' ⟨rfl,hb⟩;unfold jG;rw [if_pos hv];exact ⟨⟨_,_,_,rfl⟩,hb⟩)
 obtain ⟨vn,va,vf,al,rfl,-⟩:=h;generalize jG p=z at *;go_enter Tryz.func19,Tryz.ntmps19;go_wp2_with fail;refine (HR.out _ (bA (bR w) _)).mono ?_;rintro e w1 ⟨⟨A,B,C,rfl⟩,hb1⟩;have B1:=Lib.hid (bT (bA (bR w) _) hb1);clear hb1 HR;go_wp2_with fail;go_ret;exact ⟨rfl,B1.out⟩
structure Rg where
 face:Int
 out:List Int
 inn:List (List Int)
 bn:List Int
def uP (p:Pl) (b:Option (List Int)):Rg:=⟨oP p b,b.getD [],lW p b,sW p b⟩
def UW (p:Pl) (O:List (List Int)) (f:Int):List Rg:=(O.filter (fun X=>decide (oP p (some X)=f))).map (fun X=>uP p (some X))
def xM (p:Pl) (O:List (List Int)):List Rg:=uP p none::p.faces.flatMap (UW p O)
theorem agQ {α:Type} (g:α->Int) (O:List α):∀ {fs:List Int},fs.Nodup->(fs.flatMap fun f=>O.filter (fun X=>decide (g X=f))).Perm (O.filter (fun X=>decide (g X∈fs)))
 | [],_=>by simp
 | f::fs,h=>by
  obtain ⟨hf,hn⟩:=List.nodup_cons.1 h;rw [List.flatMap_cons];refine ((agQ g O hn).append_left _).trans ?_;have e1:O.filter (fun X=>decide (g X=f))=(O.filter (fun X=>decide (g X∈f::fs))).filter (fun X=>decide (g X=f)):=by
   rw [List.filter_filter];congr 1
   funext X
   by_cases e:g X=f<;>simp [e]
  have e2:O.filter (fun X=>decide (g X∈fs))=(O.filter (fun X=>decide (g X∈f::fs))).filter (fun X=>!decide (g X=f)):=by
   rw [List.filter_filter];congr 1
   funext X
   by_cases e:g X=f
   · simp [e,hf]
   · simp [e]
  rw [e1,e2];exact List.filter_append_perm _ _
theorem UY {p:Pl} (h:Valid p) (hf:EY p) {O:List (List Int)} (hO:O.Perm (aN p)):(xM p O).Perm ((jQ p).map (uP p)):=by
 unfold xM jQ;rw [List.map_cons,List.map_map];refine List.Perm.cons _ ?_;have hn:p.faces.Nodup:=h.afo.imp (fun h=>by omega);have e:p.faces.flatMap (UW p O)=(p.faces.flatMap fun f=>O.filter (fun X=>decide (oP p (some X)=f))).map (fun X=>uP p (some X)):=by
  rw [List.map_flatMap];rfl
 rw [e];refine List.Perm.map _ (((agQ (fun X=>oP p (some X)) O hn).trans ?_).trans hO)
 have:O.filter (fun X=>decide (oP p (some X)∈p.faces))=O:=by
  rw [List.filter_eq_self];intro X hX;rw [decide_eq_true_eq];rcases h.afq (X.headD 0) with e | e
  · exact absurd e (hf.some X (hO.subset hX))
  · exact e
 rw [this]
theorem PV {p:Pl} {O:List (List Int)} {f:Int} {r:Rg} (h:r∈UW p O f):r.face=f:=by
 unfold UW at h;obtain ⟨X,hX,rfl⟩:=List.mem_map.1 h;exact of_decide_eq_true (List.mem_filter.1 hX).2
theorem apR {p:Pl} (h:Valid p) (O:List (List Int)):(xM p O).Pairwise (fun a b=>a.face<=b.face):=by
 unfold xM;rw [List.pairwise_cons,List.pairwise_flatMap];refine ⟨fun r hr=>?_,fun f hf=>?_,h.afo.imp (fun {f g} hfg x hx y hy=>?_)⟩
 ·obtain ⟨f,hf,hr⟩:=List.mem_flatMap.1 hr;rw [PV hr];have:=h.afp hf
  show (0:Int)<=f
  omega
 ·rw [List.pairwise_iff_getElem];intro i j hi hj _;rw [PV (List.getElem_mem hi),PV (List.getElem_mem hj)];exact Int.le_refl _
 ·rw [PV hx,PV hy];omega
theorem apS {p:Pl} (hf:EY p) {a b:Rg} (ha:a∈(jQ p).map (uP p)) (hb:b∈(jQ p).map (uP p)) (e:a.face=b.face):a=b:=by
 obtain ⟨x,hx,rfl⟩:=List.mem_map.1 ha;obtain ⟨y,hy,rfl⟩:=List.mem_map.1 hb;unfold jQ at hx hy;have key:∀ X∈aN p,∀ Y∈aN p,oP p (some X)=oP p (some Y)->X=Y:=by
  intro X hX Y hY e;obtain ⟨i,hi,rfl⟩:=List.mem_iff_getElem.1 hX;obtain ⟨j,hj,rfl⟩:=List.mem_iff_getElem.1 hY;have hd:=hf.differ;unfold List.Nodup at hd;rw [List.pairwise_map,List.pairwise_iff_getElem] at hd;rcases Nat.lt_trichotomy i j with hij | hij | hij
  · exact absurd e (hd i j hi hj hij)
  · subst hij;rfl
  · exact absurd e.symm (hd j i hj hi hij)
 rcases List.mem_cons.1 hx with rfl | hx<;>rcases List.mem_cons.1 hy with rfl | hy
 · rfl
 ·obtain ⟨Y,hY,rfl⟩:=List.mem_map.1 hy;exact absurd e.symm (hf.some Y hY)
 ·obtain ⟨X,hX,rfl⟩:=List.mem_map.1 hx;exact absurd e (hf.some X hX)
 ·obtain ⟨X,hX,rfl⟩:=List.mem_map.1 hx;obtain ⟨Y,hY,rfl⟩:=List.mem_map.1 hy;rw [key X hX Y hY e]
theorem apT {p:Pl} (h:Valid p) (hf:EY p) {O:List (List Int)} (hO:O.Perm (aN p)) {l:List Rg} (hl:l.Perm ((jQ p).map (uP p))) (hs:l.Pairwise (fun a b=>a.face<=b.face)):l=xM p O:=by
 refine JY (lt:=fun a b=>decide (a.face<b.face)) (hl.trans (UY h hf hO).symm) (hs.imp (fun h=>by simp;omega)) ((apR h O).imp (fun h=>by simp;omega)) (fun a ha b hb h1 h2=>?_);simp only [decide_eq_false_iff_not] at h1 h2;exact apS hf (hl.subset ha) (hl.subset hb) (by omega)
def jS (x:AD):Rg:=⟨x.tw,x.out,x.inn.map (·.1),x.bn⟩
theorem jf.rg {p:Pl} {L:List AD} {O:List (List Int)} (h:jf p L O (iP p) p.nodes) (ht:∀ i (hi:i<L.length),L[i].tw=jF p O i) {i:Nat} (hi:i<L.length):jS L[i]=uP p (qA O i):=by
 have hc:=h.UN hi;unfold kN rQ jq at hc;rw [List.map_cons] at hc;injection hc with h1 h2;unfold jS uP;rw [ht i hi,h.bn i hi];have h1':L[i].out=(qA O i).getD []:=h1;rw [h1',h2];rfl
def apU (w:World) (p:Pl) (e:Ending) (w':World):Prop :=
 ∃ A c L,e=.returned (.tuple #[.slice A L.length c,.int .i64 0])/\Below w.heap.size w w'/\uK w' (.slice A L.length c) L/\L.map jS=xM p (sortK (aN p))
open Go.RowKit Go.Sort
theorem PW {p:Pl} (hv:jG p=0):Valid p/\vJ p=true:=by
 unfold jG at hv;split at hv
 · rename_i h0;exact absurd hv h0
 ·rename_i h0;split at hv
  · rename_i h1;exact ⟨(NP p).1 (by simpa using h0),h1⟩
  · cases hv
theorem apV (v:Value) (p:Pl) (w:World) (h:dS w v p) (hv:jG p≠0):Calls Tryz.prog 49 #[v] w (aaF w (jG p)):=by
 by_cases h0:oH p=0
 ·have hr:jG p=if vJ p=true then 0 else 12:=by unfold jG;rw [if_neg (by simpa using h0)]
  have hf:¬ vJ p=true:=fun e=>hv (by rw [hr,if_pos e]);rw [hr,if_neg hf];refine (aaG v p w h ((NP p).1 h0)).mono fun e w' g=>?_;rw [if_neg hf] at g;exact g
 ·have hr:jG p=oH p:=by unfold jG;rw [if_pos h0]
  rw [hr];exact agN v p w h h0
theorem UZ (v:Value) (p:Pl) (w:World) (h:dS w v p) (hv:jG p=0):Calls Tryz.prog 49 #[v] w (agM w p):=by
 obtain ⟨h1,h2⟩:=PW hv;refine (aaG v p w h h1).mono fun e w' g=>?_;rw [if_pos h2] at g;exact g
theorem apW {p:Pl} {L:List AD} {O:List (List Int)} (h:jf p L O (iP p) p.nodes):(yP p O L L.length).map jS=(none::O.map some).map (uP p):=by
 have hd:=apF h L.length;have ht:∀ i (hi:i<(yP p O L L.length).length),(yP p O L L.length)[i].tw=jF p O i:=fun i hi=>by
  have hil:i<L.length:=by rw [Jd] at hi;exact hi
  rw [LK hi hil,if_pos hil]
 have hl:=hd.len;apply List.ext_getElem (by simp [hl]);intro i h1 h2;have h3:i<(yP p O L L.length).length:=by simpa using h1
 rw [List.getElem_map,hd.rg ht h3,List.getElem_map];congr 1;by_cases e:i=0
 · subst e;rfl
 ·obtain ⟨j,rfl⟩:∃ j,i=j+1:=⟨i-1,by omega⟩;rw [DC (by omega) (by omega)];simp
set_option maxRecDepth 100000 in
set_option maxHeartbeats 8000000 in
theorem agR (v:Value) (p:Pl) (w:World) (h:dS w v p) (hv:jG p=0):Calls Tryz.prog 17 #[v] w (apU w p):=by
 obtain ⟨hvv,hfb⟩:=PW hv;have HV:=Lib.hid hvv;have HFk:=Lib.hid (KZ.1 hfb);have HC:=Lib.hid (fun W (hW:Below w.heap.size w W)=>UZ v p W (h.mono hW) hv);have uo:=Lib.hid (@aoP);have hol:(aN p).length<=512:=Nat.le_trans (List.length_filter_le _ _) hvv.DF;obtain ⟨vn,va,vf,al,rfl,-⟩:=h;clear hv hfb hvv;go_enter Tryz.func17,Tryz.ntmps17;go_wp2_with fail;refine (HC.out _ (bA (bR w) _)).mono ?_;rintro e w1 ⟨A,c,L,A',c',gm,f,rfl,hb1,wE,hfi,hdv,-,-,-,-⟩;have HB1:=Lib.hid (bT (bA (bR w) _) hb1);have HA:=Lib.hid wE;have HD:=Lib.hid hdv;have hll:L.length=(aN p).length+1:=hdv.len;have hl1:L.length<=513:=by omega
 have hfl:=xK p (aN p) L.length;obtain ⟨Al,cl,hel,hl2,hl3,hRl⟩:=wE.sl;injection hel with y1 y2 y3;subst y1 y3;clear y2;unfold Ints at hfi;rw [hfl] at hfi;obtain ⟨Af,cf,hef,hf2,hf3,PX⟩:=hfi;injection hef with y1 y2 y3;subst y1 y3;clear y2;unfold maxLen at hl3 hf3;have HRl:=Lib.hid hRl;have FW:=Lib.hid PX;have DR:=Lib.hid hll;have aaH:=Jd p (aN p) L L.length;obtain ⟨F,hF⟩:∃ F,yP p (aN p) L L.length=F:=⟨_,rfl⟩;have PY:=Lib.hid hF;rw [hF] at aaH;have PZ:=Lib.hid aaH;clear hb1 wE hdv hRl PX HC hF hfl hll aaH;go_upto_block 0 with fail;go_wp2_with fail;go_loopw [2,21] (fun s i wr=>∃ k:Nat,k<=L.length/\i=.int .i64 k/\(∃ A c,s=.slice A k c)/\Own wr w1.heap.size 62 4 dH s (F.take k)/\Below w1.heap.size w1 wr) (fun _ i _=>L.length-(intOf i).toNat)
 case atStart => exact ⟨0,Nat.zero_le _,rfl,⟨_,_,rfl⟩,by rw [List.take_zero];exact Own.nil _ _ _ _ _,bR w1⟩
 case round =>
  obtain ⟨k,hk,rfl,⟨A5,c5,rfl⟩,ho,hb⟩:=hrel;obtain ⟨wo,rfl⟩:∃ wo:World,wo=wr:=⟨_,rfl⟩;have HO:=Lib.hid ho;have HB:=Lib.hid hb;have Oq:=hb.size;clear ho hb;by_cases hlt:k<L.length
  ·obtain ⟨b,o,rfl,hlb,c0,c1,c2,c3⟩:=(HRl.out.mono HB.out).ad hlt;have hfk:k<(pI p (aN p) L.length).length:=by rw [xK];exact hlt
   obtain ⟨bf,of_,rfl,atu,f0⟩:=(FW.out.mono HB.out).int hfk;have hkF:k<F.length:=by rw [PZ.out];exact hlt
   have htk:F.take (k+1)=F.take k++[F[k]]:=List.take_succ_eq_append_getElem hkF;have hfv:(pI p (aN p) L.length)[k]=jF p (aN p) k:=by simp only [pI,List.getElem_map,List.getElem_range]
   have hFk:F[k] = {L[k] with tw:=jF p (aN p) k}:=by
    have:=LK (p:=p) (O:=aN p) (L:=L) (k:=L.length) (i:=k) (by rw [Jd];exact hlt) hlt
    rw [if_pos hlt] at this;rw [<- this];congr 1;exact PY.out.symm
   rw [hfv] at f0;rw [hFk] at htk;generalize jF p (aN p) k=fc at *;generalize L[k]=x at *;obtain ⟨tw,X,⟨oa,on,oc⟩,In,⟨ia,iT,ic⟩,al',⟨aa,an,ac⟩⟩:=x;unfold aH at c1 c2 c3;simp only at c0 c1 c2 c3 htk;have kL:=Lib.hid htk;have HF0:=Lib.hid f0;clear htk hFk hfv;go_upto_region 7 with fail;obtain ⟨W2,hW⟩:∃ W:World,W=wo.alloc (.cells #[.int .i64 tw,.slice oa on oc,.slice ia iT ic,.slice aa an ac] 82):=⟨_,rfl⟩;have hA:Below wo.heap.size wo W2:=by rw [hW];exact bA (bR wo) _
   obtain ⟨g8,wu⟩:∃ g8,wo.heap.size=g8:=⟨_,rfl⟩;have X5:aj W2 g8 82 #[.int .i64 tw,.slice oa on oc,.slice ia iT ic,.slice aa an ac]:=by rw [hW];exact aj.made wu.symm _ _
   have HB2:=Lib.hid (bT HB.out hA);have fM:=Lib.hid (HO.out.keep hA);replace f0:=fG hA f0;have n1:some g8≠(Value.slice A5 k c5).ownBlock:=fun e=>by have:=(HO.out.lt _ e.symm).2;omega
   have n2:some bf≠(Value.slice A5 k c5).ownBlock:=fun e=>by
    have:=(HO.out.lt _ e.symm).1
    have:bf<w1.heap.size:=by
     obtain ⟨b9,o9,e9,h9,-⟩:=FW.out.int hfk;injection e9 with e9;injection e9 with e9 _ _;omega
    omega
   have hzW:wo.heap.size<=W2.heap.size:=hA.size;have apX:bf<W2.heap.size:=by omega
   have apY:w1.heap.size<=W2.heap.size:=by omega
   rw [<- hW]
   try rw [wu]
   clear hW hA c0 c1 c2 c3 hlb HO HB;have hkl2:(F.take k).length=k:=by rw [List.length_take];omega
   have hsh:(F.take k++[(⟨fc,X,⟨oa,on,oc⟩,In,⟨ia,iT,ic⟩,al',⟨aa,an,ac⟩⟩:AD)]).length=k+1:=by rw [List.length_append,hkl2];rfl
   have eu:=Lib.hid hsh;have atv:(F.take k).length<=513:=by omega
   have kf1:(k:Int)<L.length:=by omega
   have kf2:0<=(k:Int):=by omega
   clear hsh hkl2;obtain ⟨dF,dG,dI,jo,yt,-,-,-,-⟩:=X5.nG;refine bZ (ji W2 ((Value.slice A5 k c5).ownBlock)) (.run 12 0 0 (.call 12 8191 (.call 13 16383 (.take 14 32767 (.done))))) (by kernel_rfl) (gD (gR _ _)) (by kernel_rfl) (by kernel_rfl) (Nat.le_of_ble_eq_true (by kernel_rfl)) ?_;intro cO QR ak aC hS
   iterate 12
    apply jI;exact ak;exact rfl;exact hS;exact rfl
    · intro _ hqc;go_simp;try rfl
    try simp only [pu]
   refine aT (i:=12) (aG ak rfl) (fun K hK=>?_);have aA:=Lib.hid hS;clear hS;refine aO (aV rfl) ?_;go_simp;refine hK.out _ _ (gA aA.out _) (fun hS=>?_);clear hK K aA
   try simp only [pu]
   refine aT (i:=13) (aG ak rfl) (fun K hK=>?_);have aA:=Lib.hid hS;clear hS;refine aO (aV rfl) ?_;refine wI (.tmp 26) (.tmp 38) _ rfl (base:=w1.heap.size) ao6 uI Tn rfl ((fM.out.keep (bD (bR W2))).alloc _) rfl (l2:=[(⟨fc,X,⟨oa,on,oc⟩,In,⟨ia,iT,ic⟩,al',⟨aa,an,ac⟩⟩:AD)]) (Sl.lit (n:=1) (aj.made rfl _ _) rfl (dW (by omega))) (by simp only [List.length_cons,List.length_nil];omega) (by simp only [List.length_cons,List.length_nil];omega) (by simp;omega) ?_;intro v3 wr3 ho3 hg hat;obtain ⟨A6,c6,hv6,-⟩:=Own.mY ho3;rw [eu.out] at hv6;subst hv6;have hS:ji W2 (Value.slice A5 k c5).ownBlock wr3:=gT aA.out hg;clear aA;refine hK.out _ _ hS (fun _=>?_);clear hK K
   try simp only [pu]
   apply jI;exact ak;exact rfl;exact hS;exact rfl
   · intro _ hqc;go_simp;try rfl
   try simp only [pu]
   refine bM ?_;refine aC.down _ _ ?_;have hB:W2.grownBy _ ((Value.slice A5 k c5).ownBlock):=hS;clear hS aC ak;have fE:=Lib.hid ho3;have HB3:=Lib.hid (aiG HB2.out apY hB (fun g hg=>(fM.out.lt g hg).1));clear ho3 hg hat hB f0 X5 dF dG dI jo yt n1 n2 apX;go_wp2_with fail;go_roundw
   case rel => exact ⟨k+1,by omega,by go_num,⟨A6,c6,rfl⟩,by rw [kL.out];exact fE.out,HB3.out⟩
   case measure => simp [intOf];omega
  ·obtain rfl:k=L.length:=by omega
   have hFt:F.take L.length=F:=List.take_of_length_le (by rw [PZ.out];omega);have hoF:=HO.out;rw [hFt] at hoF;have HOF:=Lib.hid hoF;clear hoF hFt HO;go_wp2_with fail;refine (uo.out w1.heap.size _ F wo HOF.out (by rw [PZ.out];omega)).mono ?_;rintro e w5 ⟨rfl,M,hp,hs,gy,hg5⟩;have dK:=Lib.hid (bG HB.out hg5 (fun g hg=>(HOF.out.lt g hg).1));have hml:M.length=L.length:=by rw [hp.length_eq,PZ.out]
   have HP:=Lib.hid hp;have rX:=Lib.hid gy;have HMl:=Lib.hid hml;have HS:=Lib.hid (show M.Pairwise (fun a b=>a.tw<=b.tw) from hs.imp (fun {a b} g=>by
    have g':ltOf (fun x y:AD=>lN x.tw y.tw) b a=false:=g;rw [JU (fun x:AD=>x.tw),decide_eq_false_iff_not] at g';omega))
   have aaI:=Lib.hid (show M.map jS=xM p (sortK (aN p)) from by
    refine apT HV.out HFk.out (Io (aN p)).1 ?_ ?_
    ·refine (HP.out.map jS).trans ?_;rw [<- PY.out,apW HD.out];exact List.Perm.refl _
    ·rw [List.pairwise_map];exact HS.out)
   have yE:=Lib.hid (show ∀ x∈M,∃ y∈L,∃ t,x = {y with tw:=t} from fun x hx=>by
    have h9:=HP.out.subset hx;rw [<- PY.out] at h9;exact apE h9)
   have vY:=Lib.hid (HA.out.mono dK.out);have hsl:=gy.sl;rw [hml] at hsl;have yF:=Lib.hid hsl;clear hp hs gy hg5 hml hsl;go_wp2_with fail;go_ret2;refine ⟨A5,c5,M,by rw [HMl.out];rfl,bT HB1.out dK.out,⟨by rw [HMl.out];exact yF.out,fun x hx=>?_,fun x hx=>?_,fun x hx=>?_,fun x hx=>?_⟩,aaI.out⟩
   · obtain ⟨y,hy,t,rfl⟩:=yE.out x hx;exact vY.out.out y hy
   · obtain ⟨y,hy,t,rfl⟩:=yE.out x hx;exact vY.out.inn y hy
   · obtain ⟨y,hy,t,rfl⟩:=yE.out x hx;exact vY.out.iJ y hy
   · obtain ⟨y,hy,t,rfl⟩:=yE.out x hx;exact vY.out.bn y hy
end Go.Proofs.YtialfdomhoojiaaGreat
