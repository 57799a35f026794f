import Derived.Test.YtialfdomhoojiaaGreatJ25
import Derived.Test.YtialfdomhoojiaaGreatLawWc
import Derived.Test.YtialfdomhoojiaaGreatJ22
import Derived.Test.YtialfdomhoojiaaGreatJ12
import Derived.Test.YtialfdomhoojiaaGreatJ09
set_option linter.unusedSimpArgs false
set_option linter.unusedVariables false
namespace Go.Proofs.YtialfdomhoojiaaGreat
open Go.RowKit
theorem SY {P:Program} {fn:Func} {p q r s:Tmp} (h:fn.results=#[.tmp p,.tmp q,.tmp r,.tmp s]) (a:Array Value) (w:World) :
  (results fn a).run P w=.ok (.tuple #[a.getD p undef,a.getD q undef,a.getD r undef,a.getD s undef]) w:=by
 simp only [results,h];simp [Sem.run_bind,Sem.run_pure,Result.andThen]
def ais (w:World) (p:Pl) (e:Ending) (w':World):Prop :=
 ∃ A c L A' c' gm f,e=.returned (.tuple #[.slice A L.length c,.slice A' L.length c',.map (some gm),.int .i64 0])/\Below w.heap.size w w'/\xO w' (.slice A L.length c) L/\Ints w' (.slice A' L.length c') (vT p (jc p) L.length) /\
  jw p L (jc p) (qM p) p.nodes/\oP p L/\uF w' gm p f/\w.heap.size<=gm/\(∀ x∈L,Own w' w.heap.size 24 1 kL (aP x.iv) x.inn/\Own w' w.heap.size 3 1 dX (aP x.av) x.dM)
def aaM (w:World) (z:Int) (e:Ending) (w':World):Prop:=e=.returned (.tuple #[.slice none 0 0,.slice none 0 0,.map none,.int .i64 z])/\Below w.heap.size w w'
set_option maxRecDepth 100000 in
set_option maxHeartbeats 8000000 in
theorem ait (v:Value) (p:Pl) (w:World) (h:dh w v p) (hv:mg p≠0):Calls Tryz.prog 49 #[v] w (aaM w (mg p)):=by
 have oQ:=Lib.hid (fun W (hW:Below w.heap.size w W)=>air v p W (h.mono hW) hv);obtain ⟨vn,va,vf,al,rfl,-⟩:=h;generalize mg p=z at *;have he:(z != 0)=true:=by simpa using hv
 clear hv;go_enter Tryz.func49,Tryz.ntmps49;go_wp2_with fail;refine (oQ.out _ (bA (bR w) _)).mono ?_;rintro e w1 ⟨Ac,cc,cl,rfl,hb1,-,-⟩;have B1:=Lib.hid (bT (bA (bR w) _) hb1);clear hb1 oQ;go_wp2_with fail;exact bodyPost_ret (SY rfl _ _) rfl ⟨rfl,B1.out⟩
set_option maxRecDepth 100000 in
set_option maxHeartbeats 8000000 in
theorem aiu (v:Value) (p:Pl) (w:World) (h:dh w v p) (hv:Valid p):Calls Tryz.prog 49 #[v] w fun e w'=>if uM p=true then ais w p e w' else aaM w 12 e w':=by
 have oQ:=Lib.hid (fun W (hW:Below w.heap.size w W)=>ahI v p W (h.mono hW) hv);have lN:=Lib.hid (fun W (hW:Below w.heap.size w W)=>aeT v p W (h.mono hW) hv);have IQ:=Lib.hid (fun vc CL gm f W (hW:Below w.heap.size w W) hc hcl hpm=>ahG v vc p CL gm f W (h.mono hW) hv hc hcl hpm);have sU:=Lib.hid (fun vl L W (hW:Below w.heap.size w W) hl hd=>aij v vl p L (jc p) p.nodes W (h.mono hW) hv hl hd (List.Perm.refl _));have HV:=Lib.hid hv;obtain ⟨_,_,_,al,rfl,hpa,⟨An,cn,rfl,-⟩,⟨⟨Aa,ca,rfl,-⟩,-⟩,⟨Af,cf,rfl,-⟩⟩:=h;generalize hnn:p.nodes.length=nn at *;generalize al.length=na at *;generalize hnf:p.faces.length=nf at *;obtain ⟨q,hq⟩:∃ q,uM p=q:=⟨_,rfl⟩;rw [hq];have HQ:=Lib.hid hq;clear hpa hv hnn hnf hq;go_enter Tryz.func49,Tryz.ntmps49;go_wp2_with fail;refine (oQ.out _ (bA (bR w) _)).mono ?_;rintro e w1 ⟨Ac,cc,CL,rfl,hb1,hcl,hco⟩;have hcr:=hco.read;have hle:(gJ p).length=CL.length:=by rw [<- hcl,List.length_map]
 rw [hle] at hcr ⊢;have pO:=Lib.hid hcl;have MX:=Lib.hid hcr;have X1:ah w1 w.heap.size 26 #[.slice An nn cn,.slice Aa na ca,.slice Af nf cf]:=(ah.made rfl _ _).keep hb1;have B1:=Lib.hid (bT (bA (bR w) _) hb1);have iE:=Lib.hid X1;clear hb1 oQ hcl hco hcr hle;obtain ⟨aZ,bf,bg,bK,-,-,-⟩:=X1.aJ;go_wp2_with fail;refine (lN.out _ B1.out).mono ?_;rintro e w2 ⟨gm,f,rfl,hb2,hgm,hpm⟩;have B2:=Lib.hid (bT B1.out hb2);have eF:=Lib.hid (iE.out.keep hb2);have aaN:=Lib.hid (MX.out.mono hb2);have sH:=Lib.hid hpm;have hgw:w.heap.size<=gm:=Nat.le_trans B1.out.size hgm;clear hb2 hpm iE MX X1 aZ bf bg bK lN B1 hgm;have X1:=eF.out
 try clear aZ
 try clear bf
 try clear bg
 try clear bK
 obtain ⟨aZ,bf,bg,bK,-,-,-⟩:=X1.aJ;go_wp2_with fail;refine (IQ.out _ CL gm f _ B2.out aaN.out pO.out sH.out).mono ?_;rintro e w3 ⟨A,c,L,rfl,hb3,had,hdv,htw⟩;have B3:=Lib.hid (bT B2.out hb3);have dP:=Lib.hid (eF.out.keep hb3);have aaO:=Lib.hid (sH.out.keep hb3);have HA:=Lib.hid (had.full hb3);have HD:=Lib.hid hdv;have HT:=Lib.hid htw;have hz2:=B2.out.size;have S9:=Lib.hid (show ∀ x∈L,Own w3 w.heap.size 24 1 kL (aP x.iv) x.inn/\Own w3 w.heap.size 3 1 dX (aP x.av) x.dM from fun x hx=>⟨(had.inn x hx).fM hz2,(had.dM x hx).fM hz2⟩);have HLn:=Lib.hid (show (jc p).length+1=L.length from hdv.len.symm);clear hb3 had hdv htw eF aaN sH X1 aZ bf bg bK IQ B2 hz2;have X1:=dP.out
 try clear aZ
 try clear bf
 try clear bg
 try clear bK
 obtain ⟨aZ,bf,bg,bK,-,-,-⟩:=X1.aJ;go_wp2_with fail;refine (sU.out _ L _ B3.out HA.out HD.out).mono ?_;rintro e w4 ⟨A',n',c',rfl,hb4,hof⟩;rw [HQ.out] at hof ⊢;have B4:=Lib.hid (bT B3.out hb4);have aiv:=Lib.hid (aaO.out.keep hb4);have jy:=Lib.hid (HA.out.mono hb4);have SX:=Lib.hid hof;have aiw:=Lib.hid (show ∀ x∈L,Own w4 w.heap.size 24 1 kL (aP x.iv) x.inn/\Own w4 w.heap.size 3 1 dX (aP x.av) x.dM from fun x hx=>⟨(S9.out x hx).1.keep hb4,(S9.out x hx).2.keep hb4⟩);clear hb4 hof X1 aZ bf bg bK sU HA aaO dP B3 S9
 cases q
 case false =>
  go_wp2_with fail;exact bodyPost_ret (SY rfl _ _) rfl (by (try rw [if_neg (by decide)]);exact ⟨rfl,B4.out⟩)
 case true =>
  have ho:=SX.out rfl;rw [HLn.out] at ho;have hnl:n'=L.length:=by
   obtain ⟨A9,c9,h9,-⟩:=Own.qO ho;rw [IX] at h9;injection h9
  subst hnl;have HO:=Lib.hid ho;clear ho;go_wp2_with fail;refine bodyPost_ret (SY rfl _ _) rfl ?_
  try rw [if_pos rfl]
  refine ⟨A,c,L,A',c',gm,f,rfl,B4.out,jy.out,?_,HD.out,HT.out,aiv.out,hgw,aiw.out⟩;have:=HO.out.sl
  rw [IX] at this;unfold Ints;rw [IX];exact this
def rG (p:Pl):Int:=if mg p≠0 then mg p else if uM p=true then 0 else 12
set_option maxRecDepth 100000 in
set_option maxHeartbeats 4000000 in
theorem aaP (v:Value) (p:Pl) (w:World) (h:dh w v p):Calls Tryz.prog 19 #[v] w fun e w'=>e=.returned (.int .i64 (rG p))/\Below w.heap.size w w':=by
 have HR:=Lib.hid (show ∀ W,Below w.heap.size w W->Calls Tryz.prog 49 #[v] W fun e w'=>(∃ A B C,e=.returned (.tuple #[A,B,C,.int .i64 (rG p)]))/\Below W.heap.size W w' from fun W hW=>by
  by_cases hv:mg p=0
  ·refine (aiu v p W (h.mono hW) ((WJ p).1 hv)).mono ?_;intro e w' he;unfold rG;rw [if_neg (by simpa using hv)];by_cases hf:uM p=true
   ·rw [if_pos hf] at he ⊢;obtain ⟨A,c,L,A',c',gm,f,rfl,hb,-⟩:=he;exact ⟨⟨_,_,_,rfl⟩,hb⟩
   ·rw [if_neg hf] at he ⊢;exact ⟨⟨_,_,_,he.1⟩,he.2⟩
  ·refine (ait v p W (h.mono hW) hv).mono ?_;rintro e w' ⟨rfl,hb⟩;unfold rG;rw [if_pos hv];exact ⟨⟨_,_,_,rfl⟩,hb⟩)
 obtain ⟨vn,va,vf,al,rfl,-⟩:=h;generalize rG p=z at *;go_enter Tryz.func19,Tryz.ntmps19;go_wp2_with fail;refine (HR.out _ (bA (bR w) _)).mono ?_;rintro e w1 ⟨⟨A,B,C,rfl⟩,hb1⟩;have B1:=Lib.hid (bT (bA (bR w) _) hb1);clear hb1 HR;go_wp2_with fail;go_ret;exact ⟨rfl,B1.out⟩
end Go.Proofs.YtialfdomhoojiaaGreat
