import Derived.Test.YtnhdmghgjngcaaaGreatJ29
import Derived.Test.YtnhdmghgjngcaaaGreatLawWc
import Derived.Test.YtnhdmghgjngcaaaGreatJ25
import Derived.Test.YtnhdmghgjngcaaaGreatJ14
import Derived.Test.YtnhdmghgjngcaaaGreatJ09
import Derived.Test.YtnhdmghgjngcaaaGreatJ16
import Derived.Test.YtnhdmghgjngcaaaGreatJ13
import Derived.Test.YtnhdmghgjngcaaaGreatJ15
import Derived.Test.YtnhdmghgjngcaaaGreatJ05
import Derived.Test.YtnhdmghgjngcaaaGreatSortB
import Derived.Test.YtnhdmghgjngcaaaGreatLaySortRg
import Derived.Test.YtnhdmghgjngcaaaGreatJ22
import Derived.Test.YtnhdmghgjngcaaaGreatJ23
import Derived.Test.YtnhdmghgjngcaaaGreatGE
import Derived.Test.YtnhdmghgjngcaaaGreatJ24
import Derived.Test.YtnhdmghgjngcaaaGreatJ26
import Derived.Test.YtnhdmghgjngcaaaGreatJ28
import Derived.Test.YtnhdmghgjngcaaaGreatJ04
import Derived.Test.YtnhdmghgjngcaaaGreatJ17
import Derived.Test.YtnhdmghgjngcaaaGreatJ01
import Derived.Test.YtnhdmghgjngcaaaGreatGB
set_option linter.unusedSimpArgs false
set_option linter.unusedVariables false
namespace Go.Proofs.YtnhdmghgjngcaaaGreat
open Go.RowKit

theorem res_tmp4 {P:Program} {fn:Func} {p q r s:Tmp} (h:fn.results=#[.tmp p,.tmp q,.tmp r,.tmp s]) (a:Array Value) (w:World) :
  (results fn a).run P w=.ok (.tuple #[a.getD p undef,a.getD q undef,a.getD r undef,a.getD s undef]) w:=by
 simp only [results,h]
 simp [Sem.run_bind,Sem.run_pure,Result.andThen]
def RetRead (w:World) (p:Pl) (e:Ending) (w':World):Prop :=
 ∃ A c L A' c' gm f,e=.returned (.tuple #[.slice A L.length c,.slice A' L.length c',.map (some gm),.int .i64 0])∧Below w.heap.size w w'∧AdF w' (.slice A L.length c) L∧Ints w' (.slice A' L.length c') (facF p (outX p) L.length) ∧
  DivA p L (outX p) (resX p) p.nodes∧TwA p L∧PathsM w' gm p f∧w.heap.size≤gm∧(∀ x∈L,Own w' w.heap.size 24 1 cyC (svV x.iv) x.inn∧Own w' w.heap.size 3 1 inC (svV x.av) x.alo)
def RetNone (w:World) (z:Int) (e:Ending) (w':World):Prop:=e=.returned (.tuple #[.slice none 0 0,.slice none 0 0,.map none,.int .i64 z])∧Below w.heap.size w w'

set_option maxRecDepth 100000 in
set_option maxHeartbeats 8000000 in
theorem Read_bad (v:Value) (p:Pl) (w:World) (h:PlV w v p) (hv:checkS p≠0):Calls Tryz.prog 24 #[v] w (RetNone w (checkS p)):=by
 have HCk:=Lib.hid (fun W (hW:Below w.heap.size w W)=>Cycles_bad v p W (h.mono hW) hv)
 obtain ⟨vn,va,vf,al,rfl,-⟩:=h
 generalize checkS p=z at *
 have he:(z != 0)=true:=by simpa using hv
 clear hv
 go_enter Tryz.func24,Tryz.ntmps24
 go_wp2_with fail
 refine (HCk.out _ (bA (bR w) _)).mono ?_
 rintro e w1 ⟨Ac,cc,cl,rfl,hb1,-,-⟩
 have B1:=Lib.hid (bT (bA (bR w) _) hb1)
 clear hb1 HCk
 go_wp2_with fail
 exact bodyPost_ret (res_tmp4 rfl _ _) rfl ⟨rfl,B1.out⟩

set_option maxRecDepth 100000 in
set_option maxHeartbeats 8000000 in
theorem Read_spec (v:Value) (p:Pl) (w:World) (h:PlV w v p) (hv:Valid p):Calls Tryz.prog 24 #[v] w fun e w'=>if facB p=true then RetRead w p e w' else RetNone w 12 e w':=by
 have HCk:=Lib.hid (fun W (hW:Below w.heap.size w W)=>Cycles_spec v p W (h.mono hW) hv)
 have HPo:=Lib.hid (fun W (hW:Below w.heap.size w W)=>PathsOf_spec v p W (h.mono hW) hv)
 have HDi:=Lib.hid (fun vc CL gm f W (hW:Below w.heap.size w W) hc hcl hpm=>Divide_spec v vc p CL gm f W (h.mono hW) hv hc hcl hpm)
 have HFa:=Lib.hid (fun vl L W (hW:Below w.heap.size w W) hl hd=>Faces_spec v vl p L (outX p) p.nodes W (h.mono hW) hv hl hd (List.Perm.refl _))
 have HV:=Lib.hid hv
 obtain ⟨_,_,_,al,rfl,hpa,⟨An,cn,rfl,-⟩,⟨⟨Aa,ca,rfl,-⟩,-⟩,⟨Af,cf,rfl,-⟩⟩:=h
 generalize hnn:p.nodes.length=nn at *
 generalize al.length=na at *
 generalize hnf:p.faces.length=nf at *
 obtain ⟨q,hq⟩:∃ q,facB p=q:=⟨_,rfl⟩
 rw [hq]
 have HQ:=Lib.hid hq
 clear hpa hv hnn hnf hq
 go_enter Tryz.func24,Tryz.ntmps24
 go_wp2_with fail
 refine (HCk.out _ (bA (bR w) _)).mono ?_
 rintro e w1 ⟨Ac,cc,CL,rfl,hb1,hcl,hco⟩
 have hcr:=hco.read
 have hle:(cyclesD p).length=CL.length:=by rw [← hcl,List.length_map]
 rw [hle] at hcr ⊢
 have HCl:=Lib.hid hcl;have HCr:=Lib.hid hcr
 have X1:Blk w1 w.heap.size 26 #[.slice An nn cn,.slice Aa na ca,.slice Af nf cf]:=(Blk.made rfl _ _).keep hb1
 have B1:=Lib.hid (bT (bA (bR w) _) hb1)
 have HX1:=Lib.hid X1
 clear hb1 HCk hcl hco hcr hle
 obtain ⟨X1l,X1a,X1b,X1c,-,-,-⟩:=X1.facts3
 go_wp2_with fail
 refine (HPo.out _ B1.out).mono ?_
 rintro e w2 ⟨gm,f,rfl,hb2,hgm,hpm⟩
 have B2:=Lib.hid (bT B1.out hb2)
 have HX2:=Lib.hid (HX1.out.keep hb2);have HCr2:=Lib.hid (HCr.out.mono hb2);have HPm:=Lib.hid hpm
 have hgw:w.heap.size≤gm:=Nat.le_trans B1.out.size hgm
 clear hb2 hpm HX1 HCr X1 X1l X1a X1b X1c HPo B1 hgm
 have X1:=HX2.out
 try clear X1l
 try clear X1a
 try clear X1b
 try clear X1c
 obtain ⟨X1l,X1a,X1b,X1c,-,-,-⟩:=X1.facts3
 go_wp2_with fail
 refine (HDi.out _ CL gm f _ B2.out HCr2.out HCl.out HPm.out).mono ?_
 rintro e w3 ⟨A,c,L,rfl,hb3,had,hdv,htw⟩
 have B3:=Lib.hid (bT B2.out hb3)
 have HX3:=Lib.hid (HX2.out.keep hb3);have HPm3:=Lib.hid (HPm.out.keep hb3);have HA:=Lib.hid (had.full hb3);have HD:=Lib.hid hdv;have HT:=Lib.hid htw
 have hz2:=B2.out.size
 have HOw:=Lib.hid (show ∀ x∈L,Own w3 w.heap.size 24 1 cyC (svV x.iv) x.inn∧Own w3 w.heap.size 3 1 inC (svV x.av) x.alo from fun x hx=>⟨(had.inn x hx).mono_base hz2,(had.alo x hx).mono_base hz2⟩)
 have HLn:=Lib.hid (show (outX p).length+1=L.length from hdv.len.symm)
 clear hb3 had hdv htw HX2 HCr2 HPm X1 X1l X1a X1b X1c HDi B2 hz2
 have X1:=HX3.out
 try clear X1l
 try clear X1a
 try clear X1b
 try clear X1c
 obtain ⟨X1l,X1a,X1b,X1c,-,-,-⟩:=X1.facts3
 go_wp2_with fail
 refine (HFa.out _ L _ B3.out HA.out HD.out).mono ?_
 rintro e w4 ⟨A',n',c',rfl,hb4,hof⟩
 rw [HQ.out] at hof ⊢
 have B4:=Lib.hid (bT B3.out hb4)
 have HPm4:=Lib.hid (HPm3.out.keep hb4);have HA4:=Lib.hid (HA.out.mono hb4);have HOf:=Lib.hid hof
 have HOw4:=Lib.hid (show ∀ x∈L,Own w4 w.heap.size 24 1 cyC (svV x.iv) x.inn∧Own w4 w.heap.size 3 1 inC (svV x.av) x.alo from fun x hx=>⟨(HOw.out x hx).1.keep hb4,(HOw.out x hx).2.keep hb4⟩)
 clear hb4 hof X1 X1l X1a X1b X1c HFa HA HPm3 HX3 B3 HOw
 cases q
 case false =>
  go_wp2_with fail
  exact bodyPost_ret (res_tmp4 rfl _ _) rfl (by (try rw [if_neg (by decide)]);exact ⟨rfl,B4.out⟩)
 case true =>
  have ho:=HOf.out rfl
  rw [HLn.out] at ho
  have hnl:n'=L.length:=by
   obtain ⟨A9,c9,h9,-⟩:=Own.shape_ ho
   rw [facF_len] at h9
   injection h9
  subst hnl
  have HO:=Lib.hid ho
  clear ho
  go_wp2_with fail
  refine bodyPost_ret (res_tmp4 rfl _ _) rfl ?_
  try rw [if_pos rfl]
  refine ⟨A,c,L,A',c',gm,f,rfl,B4.out,HA4.out,?_,HD.out,HT.out,HPm4.out,hgw,HOw4.out⟩
  have:=HO.out.sl
  rw [facF_len] at this
  unfold Ints
  rw [facF_len]
  exact this

def rchkS (p:Pl):Int:=if checkS p≠0 then checkS p else if facB p=true then 0 else 12
set_option maxRecDepth 100000 in
set_option maxHeartbeats 4000000 in
theorem RegCheck_spec (v:Value) (p:Pl) (w:World) (h:PlV w v p):Calls Tryz.prog 11 #[v] w fun e w'=>e=.returned (.int .i64 (rchkS p))∧Below w.heap.size w w':=by
 have HR:=Lib.hid (show ∀ W,Below w.heap.size w W→Calls Tryz.prog 24 #[v] W fun e w'=>(∃ A B C,e=.returned (.tuple #[A,B,C,.int .i64 (rchkS p)]))∧Below W.heap.size W w' from fun W hW=>by
  by_cases hv:checkS p=0
  ·
   refine (Read_spec v p W (h.mono hW) ((check_zero p).1 hv)).mono ?_
   intro e w' he
   unfold rchkS
   rw [if_neg (by simpa using hv)]
   by_cases hf:facB p=true
   ·
    rw [if_pos hf] at he ⊢
    obtain ⟨A,c,L,A',c',gm,f,rfl,hb,-⟩:=he
    exact ⟨⟨_,_,_,rfl⟩,hb⟩
   ·
    rw [if_neg hf] at he ⊢
    exact ⟨⟨_,_,_,he.1⟩,he.2⟩
  ·
   refine (Read_bad v p W (h.mono hW) hv).mono ?_
   rintro e w' ⟨rfl,hb⟩
   unfold rchkS
   rw [if_pos hv]
   exact ⟨⟨_,_,_,rfl⟩,hb⟩)
 obtain ⟨vn,va,vf,al,rfl,-⟩:=h
 generalize rchkS p=z at *
 go_enter Tryz.func11,Tryz.ntmps11
 go_wp2_with fail
 refine (HR.out _ (bA (bR w) _)).mono ?_
 rintro e w1 ⟨⟨A,B,C,rfl⟩,hb1⟩
 have B1:=Lib.hid (bT (bA (bR w) _) hb1)
 clear hb1 HR
 go_wp2_with fail
 go_ret
 exact ⟨rfl,B1.out⟩
end Go.Proofs.YtnhdmghgjngcaaaGreat
namespace Go.Proofs.YtnhdmghgjngcaaaGreat
open Go.RowKit Go.Sort

theorem rchk_ok {p:Pl} (hv:rchkS p=0):Valid p∧facB p=true:=by
 unfold rchkS at hv
 split at hv
 · rename_i h0;exact absurd hv h0
 ·
  rename_i h0
  split at hv
  · rename_i h1;exact ⟨(check_zero p).1 (by simpa using h0),h1⟩
  · cases hv
end Go.Proofs.YtnhdmghgjngcaaaGreat
