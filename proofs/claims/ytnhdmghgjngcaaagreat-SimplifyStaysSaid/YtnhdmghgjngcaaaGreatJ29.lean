import Derived.Test.YtnhdmghgjngcaaaGreatJ27
import Derived.Test.YtnhdmghgjngcaaaGreatLawWc
import Derived.Test.YtnhdmghgjngcaaaGreatJ24
import Derived.Test.YtnhdmghgjngcaaaGreatJ14
import Derived.Test.YtnhdmghgjngcaaaGreatJ09
import Derived.Test.YtnhdmghgjngcaaaGreatJ22
import Derived.Test.YtnhdmghgjngcaaaGreatJ28
set_option linter.unusedSimpArgs false
set_option linter.unusedVariables false
namespace Go.Proofs.YtnhdmghgjngcaaaGreat
open Go.RowKit

theorem res_tmp4 {P:Program} {fn:Func} {p q r s:Tmp} (h:fn.results=#[.tmp p,.tmp q,.tmp r,.tmp s]) (a:Array Value) (w:World) :
  (results fn a).run P w=.ok (.tuple #[a.getD p undef,a.getD q undef,a.getD r undef,a.getD s undef]) w:=by
 simp only [results,h]
 simp [Sem.run_bind,Sem.run_pure,Result.andThen]
def RetRead (w:World) (p:Pl) (e:Ending) (w':World):Prop :=
 ∃ A c L A' c' gm f,e=.returned (.tuple #[.slice A L.length c,.slice A' L.length c',.map (some gm),.int .i64 0])∧Below w.heap.size w w'∧AdF w' (.slice A L.length c) L∧Ints w' (.slice A' L.length c') (facF p (outX p) L.length) ∧
  DivA p L (outX p) (resX p) p.nodes∧TwA p L∧PathsM w' gm p f∧w.heap.size≤gm∧(∀ x∈L,Own w' w.heap.size 24 1 cyC (svV x.iv) x.inn∧Own w' w.heap.size 3 1 inC (svV x.av) x.alo)
def RetNone (w:World) (z:Int) (e:Ending) (w':World):Prop:=e=.returned (.tuple #[.slice none 0 0,.slice none 0 0,.map none,.int .i64 z])∧Below w.heap.size w w'

set_option maxRecDepth 100000 in
set_option maxHeartbeats 8000000 in
theorem Read_bad (v:Value) (p:Pl) (w:World) (h:PlV w v p) (hv:checkS p≠0):Calls Tryz.prog 24 #[v] w (RetNone w (checkS p)):=by
 have HCk:=Lib.hid (fun W (hW:Below w.heap.size w W)=>Cycles_bad v p W (h.mono hW) hv)
 obtain ⟨vn,va,vf,al,rfl,-⟩:=h
 generalize checkS p=z at *
 have he:(z != 0)=true:=by simpa using hv
 clear hv
 go_enter Tryz.func24,Tryz.ntmps24
 go_wp2_with fail
 refine (HCk.out _ (bA (bR w) _)).mono ?_
 rintro e w1 ⟨Ac,cc,cl,rfl,hb1,-,-⟩
 have B1:=Lib.hid (bT (bA (bR w) _) hb1)
 clear hb1 HCk
 go_wp2_with fail
 exact bodyPost_ret (res_tmp4 rfl _ _) rfl ⟨rfl,B1.out⟩

set_option maxRecDepth 100000 in
set_option maxHeartbeats 8000000 in
theorem Read_spec (v:Value) (p:Pl) (w:World) (h:PlV w v p) (hv:Valid p):Calls Tryz.prog 24 #[v] w fun e w'=>if facB p=true then RetRead w p e w' else RetNone w 12 e w':=by
 have HCk:=Lib.hid (fun W (hW:Below w.heap.size w W)=>Cycles_spec v p W (h.mono hW) hv)
 have HPo:=Lib.hid (fun W (hW:Below w.heap.size w W)=>PathsOf_spec v p W (h.mono hW) hv)
 have HDi:=Lib.hid (fun vc CL gm f W (hW:Below w.heap.size w W) hc hcl hpm=>Divide_spec v vc p CL gm f W (h.mono hW) hv hc hcl hpm)
 have HFa:=Lib.hid (fun vl L W (hW:Below w.heap.size w W) hl hd=>Faces_spec v vl p L (outX p) p.nodes W (h.mono hW) hv hl hd (List.Perm.refl _))
 have HV:=Lib.hid hv
 obtain ⟨_,_,_,al,rfl,hpa,⟨An,cn,rfl,-⟩,⟨⟨Aa,ca,rfl,-⟩,-⟩,⟨Af,cf,rfl,-⟩⟩:=h
 generalize hnn:p.nodes.length=nn at *
 generalize al.length=na at *
 generalize hnf:p.faces.length=nf at *
 obtain ⟨q,hq⟩:∃ q,facB p=q:=⟨_,rfl⟩
 rw [hq]
 have HQ:=Lib.hid hq
 clear hpa hv hnn hnf hq
 go_enter Tryz.func24,Tryz.ntmps24
 go_wp2_with fail
 refine (HCk.out _ (bA (bR w) _)).mono ?_
 rintro e w1 ⟨Ac,cc,CL,rfl,hb1,hcl,hco⟩
 have hcr:=hco.read
 have hle:(cyclesD p).length=CL.length:=by rw [← hcl,List.length_map]
 rw [hle] at hcr ⊢
 have HCl:=Lib.hid hcl;have HCr:=Lib.hid hcr
 have X1:Blk w1 w.heap.size 26 #[.slice An nn cn,.slice Aa na ca,.slice Af nf cf]:=(Blk.made rfl _ _).keep hb1
 have B1:=Lib.hid (bT (bA (bR w) _) hb1)
 have HX1:=Lib.hid X1
 clear hb1 HCk hcl hco hcr hle
 obtain ⟨X1l,X1a,X1b,X1c,-,-,-⟩:=X1.facts3
 go_wp2_with fail
 refine (HPo.out _ B1.out).mono ?_
 rintro e w2 ⟨gm,f,rfl,hb2,hgm,hpm⟩
 have B2:=Lib.hid (bT B1.out hb2)
 have HX2:=Lib.hid (HX1.out.keep hb2);have HCr2:=Lib.hid (HCr.out.mono hb2);have HPm:=Lib.hid hpm
 have hgw:w.heap.size≤gm:=Nat.le_trans B1.out.size hgm
 clear hb2 hpm HX1 HCr X1 X1l X1a X1b X1c HPo B1 hgm
 have X1:=HX2.out
 try clear X1l
 try clear X1a
 try clear X1b
 try clear X1c
 obtain ⟨X1l,X1a,X1b,X1c,-,-,-⟩:=X1.facts3
 go_wp2_with fail
 refine (HDi.out _ CL gm f _ B2.out HCr2.out HCl.out HPm.out).mono ?_
 rintro e w3 ⟨A,c,L,rfl,hb3,had,hdv,htw⟩
 have B3:=Lib.hid (bT B2.out hb3)
 have HX3:=Lib.hid (HX2.out.keep hb3);have HPm3:=Lib.hid (HPm.out.keep hb3);have HA:=Lib.hid (had.full hb3);have HD:=Lib.hid hdv;have HT:=Lib.hid htw
 have hz2:=B2.out.size
 have HOw:=Lib.hid (show ∀ x∈L,Own w3 w.heap.size 24 1 cyC (svV x.iv) x.inn∧Own w3 w.heap.size 3 1 inC (svV x.av) x.alo from fun x hx=>⟨(had.inn x hx).mono_base hz2,(had.alo x hx).mono_base hz2⟩)
 have HLn:=Lib.hid (show (outX p).length+1=L.length from hdv.len.symm)
 clear hb3 had hdv htw HX2 HCr2 HPm X1 X1l X1a X1b X1c HDi B2 hz2
 have X1:=HX3.out
 try clear X1l
 try clear X1a
 try clear X1b
 try clear X1c
 obtain ⟨X1l,X1a,X1b,X1c,-,-,-⟩:=X1.facts3
 go_wp2_with fail
 refine (HFa.out _ L _ B3.out HA.out HD.out).mono ?_
 rintro e w4 ⟨A',n',c',rfl,hb4,hof⟩
 rw [HQ.out] at hof ⊢
 have B4:=Lib.hid (bT B3.out hb4)
 have HPm4:=Lib.hid (HPm3.out.keep hb4);have HA4:=Lib.hid (HA.out.mono hb4);have HOf:=Lib.hid hof
 have HOw4:=Lib.hid (show ∀ x∈L,Own w4 w.heap.size 24 1 cyC (svV x.iv) x.inn∧Own w4 w.heap.size 3 1 inC (svV x.av) x.alo from fun x hx=>⟨(HOw.out x hx).1.keep hb4,(HOw.out x hx).2.keep hb4⟩)
 clear hb4 hof X1 X1l X1a X1b X1c HFa HA HPm3 HX3 B3 HOw
 cases q
 case false =>
  go_wp2_with fail
  exact bodyPost_ret (res_tmp4 rfl _ _) rfl (by (try rw [if_neg (by decide)]);exact ⟨rfl,B4.out⟩)
 case true =>
  have ho:=HOf.out rfl
  rw [HLn.out] at ho
  have hnl:n'=L.length:=by
   obtain ⟨A9,c9,h9,-⟩:=Own.shape_ ho
   rw [facF_len] at h9
   injection h9
  subst hnl
  have HO:=Lib.hid ho
  clear ho
  go_wp2_with fail
  refine bodyPost_ret (res_tmp4 rfl _ _) rfl ?_
  try rw [if_pos rfl]
  refine ⟨A,c,L,A',c',gm,f,rfl,B4.out,HA4.out,?_,HD.out,HT.out,HPm4.out,hgw,HOw4.out⟩
  have:=HO.out.sl
  rw [facF_len] at this
  unfold Ints
  rw [facF_len]
  exact this

def rchkS (p:Pl):Int:=if checkS p≠0 then checkS p else if facB p=true then 0 else 12
set_option maxRecDepth 100000 in
set_option maxHeartbeats 4000000 in
theorem RegCheck_spec (v:Value) (p:Pl) (w:World) (h:PlV w v p):Calls Tryz.prog 11 #[v] w fun e w'=>e=.returned (.int .i64 (rchkS p))∧Below w.heap.size w w':=by
 have HR:=Lib.hid (show ∀ W,Below w.heap.size w W→Calls Tryz.prog 24 #[v] W fun e w'=>(∃ A B C,e=.returned (.tuple #[A,B,C,.int .i64 (rchkS p)]))∧Below W.heap.size W w' from fun W hW=>by
  by_cases hv:checkS p=0
  ·
   refine (Read_spec v p W (h.mono hW) ((check_zero p).1 hv)).mono ?_
   intro e w' he
   unfold rchkS
   rw [if_neg (by simpa using hv)]
   by_cases hf:facB p=true
   ·
    rw [if_pos hf] at he ⊢
    obtain ⟨A,c,L,A',c',gm,f,rfl,hb,-⟩:=he
    exact ⟨⟨_,_,_,rfl⟩,hb⟩
   ·
    rw [if_neg hf] at he ⊢
    exact ⟨⟨_,_,_,he.1⟩,he.2⟩
  ·
   refine (Read_bad v p W (h.mono hW) hv).mono ?_
   rintro e w' ⟨rfl,hb⟩
   unfold rchkS
   rw [if_pos hv]
   exact ⟨⟨_,_,_,rfl⟩,hb⟩)
 obtain ⟨vn,va,vf,al,rfl,-⟩:=h
 generalize rchkS p=z at *
 go_enter Tryz.func11,Tryz.ntmps11
 go_wp2_with fail
 refine (HR.out _ (bA (bR w) _)).mono ?_
 rintro e w1 ⟨⟨A,B,C,rfl⟩,hb1⟩
 have B1:=Lib.hid (bT (bA (bR w) _) hb1)
 clear hb1 HR
 go_wp2_with fail
 go_ret
 exact ⟨rfl,B1.out⟩
end Go.Proofs.YtnhdmghgjngcaaaGreat
namespace Go.Proofs.YtnhdmghgjngcaaaGreat
open Go.RowKit

structure Rg where
 face:Int
 out:List Int
 inn:List (List Int)
 alo:List Int
def rgX (p:Pl) (b:Option (List Int)):Rg:=⟨faceX p b,b.getD [],innX p b,aloX p b⟩
def rgsF (p:Pl) (O:List (List Int)) (f:Int):List Rg:=(O.filter (fun X=>decide (faceX p (some X)=f))).map (fun X=>rgX p (some X))
def rgsO (p:Pl) (O:List (List Int)):List Rg:=rgX p none::p.faces.flatMap (rgsF p O)
theorem parts_perm {α:Type} (g:α→Int) (O:List α):∀ {fs:List Int},fs.Nodup→(fs.flatMap fun f=>O.filter (fun X=>decide (g X=f))).Perm (O.filter (fun X=>decide (g X∈fs)))
 | [],_=>by simp
 | f::fs,h=>by
  obtain ⟨hf,hn⟩:=List.nodup_cons.1 h
  rw [List.flatMap_cons]
  refine ((parts_perm g O hn).append_left _).trans ?_
  have e1:O.filter (fun X=>decide (g X=f))=(O.filter (fun X=>decide (g X∈f::fs))).filter (fun X=>decide (g X=f)):=by
   rw [List.filter_filter]
   congr 1
   funext X
   by_cases e:g X=f<;>simp [e]
  have e2:O.filter (fun X=>decide (g X∈fs))=(O.filter (fun X=>decide (g X∈f::fs))).filter (fun X=>!decide (g X=f)):=by
   rw [List.filter_filter]
   congr 1
   funext X
   by_cases e:g X=f
   · simp [e,hf]
   · simp [e]
  rw [e1,e2]
  exact List.filter_append_perm _ _
theorem rgsO_perm {p:Pl} (h:Valid p) (hf:FaceOK p) {O:List (List Int)} (hO:O.Perm (outX p)):(rgsO p O).Perm ((regsX p).map (rgX p)):=by
 unfold rgsO regsX
 rw [List.map_cons,List.map_map]
 refine List.Perm.cons _ ?_
 have hn:p.faces.Nodup:=h.faces_asc.imp (fun h=>by omega)
 have e:p.faces.flatMap (rgsF p O)=(p.faces.flatMap fun f=>O.filter (fun X=>decide (faceX p (some X)=f))).map (fun X=>rgX p (some X)):=by
  rw [List.map_flatMap]
  rfl
 rw [e]
 refine List.Perm.map _ (((parts_perm (fun X=>faceX p (some X)) O hn).trans ?_).trans hO)
 have:O.filter (fun X=>decide (faceX p (some X)∈p.faces))=O:=by
  rw [List.filter_eq_self]
  intro X hX
  rw [decide_eq_true_eq]
  rcases h.side_face (X.headD 0) with e | e
  · exact absurd e (hf.some X (hO.subset hX))
  · exact e
 rw [this]
theorem rgsF_face {p:Pl} {O:List (List Int)} {f:Int} {r:Rg} (h:r∈rgsF p O f):r.face=f:=by
 unfold rgsF at h
 obtain ⟨X,hX,rfl⟩:=List.mem_map.1 h
 exact of_decide_eq_true (List.mem_filter.1 hX).2
theorem rgsO_asc {p:Pl} (h:Valid p) (O:List (List Int)):(rgsO p O).Pairwise (fun a b=>a.face≤b.face):=by
 unfold rgsO
 rw [List.pairwise_cons,List.pairwise_flatMap]
 refine ⟨fun r hr=>?_,fun f hf=>?_,h.faces_asc.imp (fun {f g} hfg x hx y hy=>?_)⟩
 ·
  obtain ⟨f,hf,hr⟩:=List.mem_flatMap.1 hr
  rw [rgsF_face hr]
  have:=h.face_pos hf
  show (0:Int)≤f
  omega
 ·
  rw [List.pairwise_iff_getElem]
  intro i j hi hj _
  rw [rgsF_face (List.getElem_mem hi),rgsF_face (List.getElem_mem hj)]
  exact Int.le_refl _
 ·
  rw [rgsF_face hx,rgsF_face hy]
  omega
theorem regs_face {p:Pl} (hf:FaceOK p) {a b:Rg} (ha:a∈(regsX p).map (rgX p)) (hb:b∈(regsX p).map (rgX p)) (e:a.face=b.face):a=b:=by
 obtain ⟨x,hx,rfl⟩:=List.mem_map.1 ha
 obtain ⟨y,hy,rfl⟩:=List.mem_map.1 hb
 unfold regsX at hx hy
 have key:∀ X∈outX p,∀ Y∈outX p,faceX p (some X)=faceX p (some Y)→X=Y:=by
  intro X hX Y hY e
  obtain ⟨i,hi,rfl⟩:=List.mem_iff_getElem.1 hX
  obtain ⟨j,hj,rfl⟩:=List.mem_iff_getElem.1 hY
  have hd:=hf.differ
  unfold List.Nodup at hd
  rw [List.pairwise_map,List.pairwise_iff_getElem] at hd
  rcases Nat.lt_trichotomy i j with hij | hij | hij
  · exact absurd e (hd i j hi hj hij)
  · subst hij;rfl
  · exact absurd e.symm (hd j i hj hi hij)
 rcases List.mem_cons.1 hx with rfl | hx<;>rcases List.mem_cons.1 hy with rfl | hy
 · rfl
 ·
  obtain ⟨Y,hY,rfl⟩:=List.mem_map.1 hy
  exact absurd e.symm (hf.some Y hY)
 ·
  obtain ⟨X,hX,rfl⟩:=List.mem_map.1 hx
  exact absurd e (hf.some X hX)
 ·
  obtain ⟨X,hX,rfl⟩:=List.mem_map.1 hx
  obtain ⟨Y,hY,rfl⟩:=List.mem_map.1 hy
  rw [key X hX Y hY e]
theorem rgs_eq {p:Pl} (h:Valid p) (hf:FaceOK p) {O:List (List Int)} (hO:O.Perm (outX p)) {l:List Rg} (hl:l.Perm ((regsX p).map (rgX p))) (hs:l.Pairwise (fun a b=>a.face≤b.face)):l=rgsO p O:=by
 refine sorted_uniq (lt:=fun a b=>decide (a.face<b.face)) (hl.trans (rgsO_perm h hf hO).symm) (hs.imp (fun h=>by simp;omega)) ((rgsO_asc h O).imp (fun h=>by simp;omega)) (fun a ha b hb h1 h2=>?_)
 simp only [decide_eq_false_iff_not] at h1 h2
 exact regs_face hf (hl.subset ha) (hl.subset hb) (by omega)
end Go.Proofs.YtnhdmghgjngcaaaGreat
namespace Go.Proofs.YtnhdmghgjngcaaaGreat
open Go.RowKit

def adG (x:AD):Rg:=⟨x.tw,x.out,x.inn.map (·.1),x.alo⟩
theorem DivA.rg {p:Pl} {L:List AD} {O:List (List Int)} (h:DivA p L O (resX p) p.nodes) (ht:∀ i (hi:i<L.length),L[i].tw=fcI p O i) {i:Nat} (hi:i<L.length):adG L[i]=rgX p (keyA O i):=by
 have hc:=h.cys_at hi
 unfold cysAD cyI cysX at hc
 rw [List.map_cons] at hc
 injection hc with h1 h2
 unfold adG rgX
 rw [ht i hi,h.alo i hi]
 have h1':L[i].out=(keyA O i).getD []:=h1
 rw [h1',h2]
 rfl
def RetRgs (w:World) (p:Pl) (e:Ending) (w':World):Prop :=
 ∃ A c L,e=.returned (.tuple #[.slice A L.length c,.int .i64 0])∧Below w.heap.size w w'∧AdF w' (.slice A L.length c) L∧L.map adG=rgsO p (sortK (outX p))
end Go.Proofs.YtnhdmghgjngcaaaGreat
namespace Go.Proofs.YtnhdmghgjngcaaaGreat
open Go.RowKit Go.Sort

theorem rchk_ok {p:Pl} (hv:rchkS p=0):Valid p∧facB p=true:=by
 unfold rchkS at hv
 split at hv
 · rename_i h0;exact absurd hv h0
 ·
  rename_i h0
  split at hv
  · rename_i h1;exact ⟨(check_zero p).1 (by simpa using h0),h1⟩
  · cases hv
theorem Read_ok (v:Value) (p:Pl) (w:World) (h:PlV w v p) (hv:rchkS p=0):Calls Tryz.prog 24 #[v] w (RetRead w p):=by
 obtain ⟨h1,h2⟩:=rchk_ok hv
 refine (Read_spec v p w h h1).mono fun e w' g=>?_
 rw [if_pos h2] at g
 exact g

theorem fcd_rgs {p:Pl} {L:List AD} {O:List (List Int)} (h:DivA p L O (resX p) p.nodes):(fcdL p O L L.length).map adG=(none::O.map some).map (rgX p):=by
 have hd:=fcdL_div h L.length
 have ht:∀ i (hi:i<(fcdL p O L L.length).length),(fcdL p O L L.length)[i].tw=fcI p O i:=fun i hi=>by
  have hil:i<L.length:=by rw [fcdL_len] at hi;exact hi
  rw [fcdL_at hi hil,if_pos hil]
 have hl:=hd.len
 apply List.ext_getElem (by simp [hl])
 intro i h1 h2
 have h3:i<(fcdL p O L L.length).length:=by simpa using h1
 rw [List.getElem_map,hd.rg ht h3,List.getElem_map]
 congr 1
 by_cases e:i=0
 · subst e;rfl
 ·
  obtain ⟨j,rfl⟩:∃ j,i=j+1:=⟨i-1,by omega⟩
  rw [keyA_some (by omega) (by omega)]
  simp

set_option maxRecDepth 100000 in
set_option maxHeartbeats 8000000 in
theorem Regions_spec (v:Value) (p:Pl) (w:World) (h:PlV w v p) (hv:rchkS p=0):Calls Tryz.prog 17 #[v] w (RetRgs w p):=by
 obtain ⟨hvv,hfb⟩:=rchk_ok hv
 have HV:=Lib.hid hvv;have HFk:=Lib.hid (facB_iff.1 hfb)
 have HC:=Lib.hid (fun W (hW:Below w.heap.size w W)=>Read_ok v p W (h.mono hW) hv)
 have HSo:=Lib.hid (@SortRg_spec)
 have hol:(outX p).length≤512:=Nat.le_trans (List.length_filter_le _ _) hvv.cycs_len
 obtain ⟨vn,va,vf,al,rfl,-⟩:=h
 clear hv hfb hvv
 go_enter Tryz.func17,Tryz.ntmps17
 go_wp2_with fail
 refine (HC.out _ (bA (bR w) _)).mono ?_
 rintro e w1 ⟨A,c,L,A',c',gm,f,rfl,hb1,haf,hfi,hdv,-,-,-,-⟩
 have HB1:=Lib.hid (bT (bA (bR w) _) hb1)
 have HA:=Lib.hid haf;have HD:=Lib.hid hdv
 have hll:L.length=(outX p).length+1:=hdv.len
 have hl1:L.length≤513:=by omega
 have hfl:=facF_len p (outX p) L.length
 obtain ⟨Al,cl,hel,hl2,hl3,hRl⟩:=haf.sl
 injection hel with y1 y2 y3
 subst y1 y3
 clear y2
 unfold Ints at hfi
 rw [hfl] at hfi
 obtain ⟨Af,cf,hef,hf2,hf3,hRf⟩:=hfi
 injection hef with y1 y2 y3
 subst y1 y3
 clear y2
 unfold maxLen at hl3 hf3
 have HRl:=Lib.hid hRl;have HRf:=Lib.hid hRf
 have HLl:=Lib.hid hll
 have hfcl:=fcdL_len p (outX p) L L.length
 obtain ⟨F,hF⟩:∃ F,fcdL p (outX p) L L.length=F:=⟨_,rfl⟩
 have HFe:=Lib.hid hF
 rw [hF] at hfcl
 have HFl:=Lib.hid hfcl
 clear hb1 haf hdv hRl hRf HC hF hfl hll hfcl
 go_upto_block 0 with fail
 go_wp2_with fail
 go_loopw [2,21] (fun s i wr=>∃ k:Nat,k≤L.length∧i=.int .i64 k∧(∃ A c,s=.slice A k c)∧Own wr w1.heap.size 52 4 adC s (F.take k)∧Below w1.heap.size w1 wr) (fun _ i _=>L.length-(intOf i).toNat)
 case atStart => exact ⟨0,Nat.zero_le _,rfl,⟨_,_,rfl⟩,by rw [List.take_zero];exact Own.nil _ _ _ _ _,bR w1⟩
 case round =>
  obtain ⟨k,hk,rfl,⟨A5,c5,rfl⟩,ho,hb⟩:=hrel
  obtain ⟨wo,rfl⟩:∃ wo:World,wo=wr:=⟨_,rfl⟩
  have HO:=Lib.hid ho;have HB:=Lib.hid hb
  have hzo:=hb.size
  clear ho hb
  by_cases hlt:k<L.length
  ·
   obtain ⟨b,o,rfl,hlb,c0,c1,c2,c3⟩:=(HRl.out.mono HB.out).ad hlt
   have hfk:k<(facF p (outX p) L.length).length:=by rw [facF_len];exact hlt
   obtain ⟨bf,of_,rfl,hlbf,f0⟩:=(HRf.out.mono HB.out).int hfk
   have hkF:k<F.length:=by rw [HFl.out];exact hlt
   have htk:F.take (k+1)=F.take k++[F[k]]:=List.take_succ_eq_append_getElem hkF
   have hfv:(facF p (outX p) L.length)[k]=fcI p (outX p) k:=by simp only [facF,List.getElem_map,List.getElem_range]
   have hFk:F[k] = {L[k] with tw:=fcI p (outX p) k}:=by
    have:=fcdL_at (p:=p) (O:=outX p) (L:=L) (k:=L.length) (i:=k) (by rw [fcdL_len];exact hlt) hlt
    rw [if_pos hlt] at this
    rw [← this]
    congr 1
    exact HFe.out.symm
   rw [hfv] at f0
   rw [hFk] at htk
   generalize fcI p (outX p) k=fc at *
   generalize L[k]=x at *
   obtain ⟨tw,X,⟨oa,on,oc⟩,In,⟨ia,in_,ic⟩,al',⟨aa,an,ac⟩⟩:=x
   unfold svV at c1 c2 c3
   simp only at c0 c1 c2 c3 htk
   have HTk:=Lib.hid htk;have HF0:=Lib.hid f0
   clear htk hFk hfv
   go_upto_region 7 with fail
   obtain ⟨W2,hW⟩:∃ W:World,W=wo.alloc (.cells #[.int .i64 tw,.slice oa on oc,.slice ia in_ ic,.slice aa an ac] 70):=⟨_,rfl⟩
   have hA:Below wo.heap.size wo W2:=by rw [hW];exact bA (bR wo) _
   obtain ⟨g8,hg8⟩:∃ g8,wo.heap.size=g8:=⟨_,rfl⟩
   have X5:Blk W2 g8 70 #[.int .i64 tw,.slice oa on oc,.slice ia in_ ic,.slice aa an ac]:=by rw [hW];exact Blk.made hg8.symm _ _
   have HB2:=Lib.hid (bT HB.out hA);have HO2:=Lib.hid (HO.out.keep hA)
   replace f0:=keepc hA f0
   have n1:some g8≠(Value.slice A5 k c5).ownBlock:=fun e=>by have:=(HO.out.lt _ e.symm).2;omega
   have n2:some bf≠(Value.slice A5 k c5).ownBlock:=fun e=>by
    have:=(HO.out.lt _ e.symm).1
    have:bf<w1.heap.size:=by
     obtain ⟨b9,o9,e9,h9,-⟩:=HRf.out.int hfk
     injection e9 with e9
     injection e9 with e9 _ _
     omega
    omega
   have hzW:wo.heap.size≤W2.heap.size:=hA.size
   have hlbf2:bf<W2.heap.size:=by omega
   have hzw1:w1.heap.size≤W2.heap.size:=by omega
   rw [← hW]
   try rw [hg8]
   clear hW hA c0 c1 c2 c3 hlb HO HB
   have hkl2:(F.take k).length=k:=by rw [List.length_take];omega
   have hsh:(F.take k++[(⟨fc,X,⟨oa,on,oc⟩,In,⟨ia,in_,ic⟩,al',⟨aa,an,ac⟩⟩:AD)]).length=k+1:=by rw [List.length_append,hkl2];rfl
   have HSh:=Lib.hid hsh
   have hkl3:(F.take k).length≤513:=by omega
   have kf1:(k:Int)<L.length:=by omega
   have kf2:0≤(k:Int):=by omega
   clear hsh hkl2
   obtain ⟨X5l,X5a,X5b,X5c,X5d,-,-,-,-⟩:=X5.facts4
   refine rg_start (SinceX W2 ((Value.slice A5 k c5).ownBlock)) (.run 12 0 0 (.call 12 8191 (.call 13 16383 (.take 14 32767 (.done))))) (by kernel_rfl) (gD (gR _ _)) (by kernel_rfl) (by kernel_rfl) (Nat.le_of_ble_eq_true (by kernel_rfl)) ?_
   intro opsR QR Hops HQrg hS
   iterate 12
    apply rg_pX;exact Hops;exact rfl;exact hS;exact rfl
    · intro _ hqc;go_simp;try rfl
    try simp only [pu]
   refine rg_call (i:=12) (get_of Hops rfl) (fun K hK=>?_)
   have HSrg:=Lib.hid hS;clear hS
   refine rg_run (wanted_plain rfl) ?_
   go_simp
   refine hK.out _ _ (gA HSrg.out _) (fun hS=>?_)
   clear hK K HSrg
   try simp only [pu]
   refine rg_call (i:=13) (get_of Hops rfl) (fun K hK=>?_)
   have HSrg:=Lib.hid hS;clear hS
   refine rg_run (wanted_plain rfl) ?_
   refine wp_appl (.tmp 26) (.tmp 38) _ rfl (base:=w1.heap.size) elem_rg adC_len adC_one rfl ((HO2.out.keep (bD (bR W2))).alloc _) rfl (l2:=[(⟨fc,X,⟨oa,on,oc⟩,In,⟨ia,in_,ic⟩,al',⟨aa,an,ac⟩⟩:AD)]) (Sl.lit (n:=1) (Blk.made rfl _ _) rfl (le_maxLen (by omega))) (by simp only [List.length_cons,List.length_nil];omega) (by simp only [List.length_cons,List.length_nil];omega) (by simp;omega) ?_
   intro v3 wr3 ho3 hg hat
   obtain ⟨A6,c6,hv6,-⟩:=Own.shape_ ho3
   rw [HSh.out] at hv6
   subst hv6
   have hS:SinceX W2 (Value.slice A5 k c5).ownBlock wr3:=gT HSrg.out hg
   clear HSrg
   refine hK.out _ _ hS (fun _=>?_)
   clear hK K
   try simp only [pu]
   apply rg_pX;exact Hops;exact rfl;exact hS;exact rfl
   · intro _ hqc;go_simp;try rfl
   try simp only [pu]
   refine rg_done ?_
   refine HQrg.down _ _ ?_
   have hB:W2.grownBy _ ((Value.slice A5 k c5).ownBlock):=hS
   clear hS HQrg Hops
   have HO3:=Lib.hid ho3
   have HB3:=Lib.hid (gBelow HB2.out hzw1 hB (fun g hg=>(HO2.out.lt g hg).1))
   clear ho3 hg hat hB f0 X5 X5l X5a X5b X5c X5d n1 n2 hlbf2
   go_wp2_with fail
   go_roundw
   case rel => exact ⟨k+1,by omega,by go_num,⟨A6,c6,rfl⟩,by rw [HTk.out];exact HO3.out,HB3.out⟩
   case measure => simp [intOf];omega
  ·
   obtain rfl:k=L.length:=by omega
   have hFt:F.take L.length=F:=List.take_of_length_le (by rw [HFl.out];omega)
   have hoF:=HO.out
   rw [hFt] at hoF
   have HOF:=Lib.hid hoF
   clear hoF hFt HO
   go_wp2_with fail
   refine (HSo.out w1.heap.size _ F wo HOF.out (by rw [HFl.out];omega)).mono ?_
   rintro e w5 ⟨rfl,M,hp,hs,ho5,hg5⟩
   have HB5:=Lib.hid (bG HB.out hg5 (fun g hg=>(HOF.out.lt g hg).1))
   have hml:M.length=L.length:=by rw [hp.length_eq,HFl.out]
   have HP:=Lib.hid hp;have HO5:=Lib.hid ho5;have HMl:=Lib.hid hml
   have HS:=Lib.hid (show M.Pairwise (fun a b=>a.tw≤b.tw) from hs.imp (fun {a b} g=>by
    have g':ltOf (fun x y:AD=>cmpI x.tw y.tw) b a=false:=g
    rw [ltOf_cmp (fun x:AD=>x.tw),decide_eq_false_iff_not] at g'
    omega))
   have HMap:=Lib.hid (show M.map adG=rgsO p (sortK (outX p)) from by
    refine rgs_eq HV.out HFk.out (sortK_facts (outX p)).1 ?_ ?_
    ·
     refine (HP.out.map adG).trans ?_
     rw [← HFe.out,fcd_rgs HD.out]
     exact List.Perm.refl _
    ·
     rw [List.pairwise_map]
     exact HS.out)
   have HMem:=Lib.hid (show ∀ x∈M,∃ y∈L,∃ t,x = {y with tw:=t} from fun x hx=>by
    have h9:=HP.out.subset hx
    rw [← HFe.out] at h9
    exact fcdL_mem h9)
   have HA5:=Lib.hid (HA.out.mono HB5.out)
   have hsl:=ho5.sl
   rw [hml] at hsl
   have HSl:=Lib.hid hsl
   clear hp hs ho5 hg5 hml hsl
   go_wp2_with fail
   go_ret2
   refine ⟨A5,c5,M,by rw [HMl.out];rfl,bT HB1.out HB5.out,⟨by rw [HMl.out];exact HSl.out,fun x hx=>?_,fun x hx=>?_,fun x hx=>?_,fun x hx=>?_⟩,HMap.out⟩
   · obtain ⟨y,hy,t,rfl⟩:=HMem.out x hx;exact HA5.out.out y hy
   · obtain ⟨y,hy,t,rfl⟩:=HMem.out x hx;exact HA5.out.inn y hy
   · obtain ⟨y,hy,t,rfl⟩:=HMem.out x hx;exact HA5.out.cyc y hy
   · obtain ⟨y,hy,t,rfl⟩:=HMem.out x hx;exact HA5.out.alo y hy
end Go.Proofs.YtnhdmghgjngcaaaGreat
