import Derived.Test.YtialfdomhoojiaaGreatLawWc
import Derived.Test.YtialfdomhoojiaaGreatJ30
set_option linter.unusedSimpArgs false
set_option linter.unusedVariables false
set_option maxRecDepth 100000
set_option maxHeartbeats 8000000
namespace Go.Proofs.YtialfdomhoojiaaGreat
open Go.RowKit
theorem acD {P:Program} {fn:Func} {p q r s:Tmp} (h:fn.results=#[.tmp p,.tmp q,.tmp r,.tmp s]) (a:Array Value) (w:World) :
  (results fn a).run P w=.ok (.tuple #[a.getD p undef,a.getD q undef,a.getD r undef,a.getD s undef]) w:=by
 simp only [results,h];simp [Sem.run_bind,Sem.run_pure,Result.andThen]
def asE (w:World) (p:Pl) (e:Ending) (w':World):Prop :=
 ∃ A c L A' c' gm f,e=.returned (.tuple #[.slice A L.length c,.slice A' L.length c',.map (some gm),.int .i64 0])/\Below w.heap.size w w'/\OT w' (.slice A L.length c) L/\Ints w' (.slice A' L.length c') (EU p (iE p) L.length) /\
  jP p L (iE p) (rO p) p.nodes/\xH p L/\Gg w' gm p f/\w.heap.size<=gm/\(∀ x∈L,Own w' w.heap.size 24 1 lJ (bg x.iv) x.inn/\Own w' w.heap.size 3 1 dw (bg x.av) x.fD)
def aiC (w:World) (z:Int) (e:Ending) (w':World):Prop:=e=.returned (.tuple #[.slice none 0 0,.slice none 0 0,.map none,.int .i64 z])/\Below w.heap.size w w'
theorem asF (v:Value) (p:Pl) (w:World) (h:bQ w v p) (hv:nZ p≠0):Calls Tryz.prog 49 #[v] w (aiC w (nZ p)):=by
 have mM:=avE (fun W (hW:Below w.heap.size w W)=>asl v p W (h.mono hW) hv);obtain ⟨vn,va,vf,al,rfl,-⟩:=h;generalize nZ p=z at *;have he:(z != 0)=true:=by simpa using hv
 clear hv;go_enter Tryz.func49,Tryz.ntmps49;go_wp2_with fail;refine (mM.out _ (bA (bR w) _)).mono ?_;rintro e w1 ⟨Ac,cc,cl,rfl,hb1,-,-⟩;have B1:=avE (bT (bA (bR w) _) hb1);clear hb1 mM;go_wp2_with fail;exact bodyPost_ret (acD rfl _ _) rfl ⟨rfl,B1.out⟩
theorem asG (v:Value) (p:Pl) (w:World) (h:bQ w v p) (hv:Valid p):Calls Tryz.prog 49 #[v] w fun e w'=>if uz p=true then asE w p e w' else aiC w 12 e w':=by
 have mM:=avE (fun W (hW:Below w.heap.size w W)=>aq9 v p W (h.mono hW) hv);have rP:=avE (fun W (hW:Below w.heap.size w W)=>anN v p W (h.mono hW) hv);have BN:=avE (fun vc CL gm f W (hW:Below w.heap.size w W) hc hcl hpm=>aq1 v vc p CL gm f W (h.mono hW) hv hc hcl hpm);have lZ:=avE (fun vl L W (hW:Below w.heap.size w W) hl hd=>ar9 v vl p L (iE p) p.nodes W (h.mono hW) hv hl hd (List.Perm.refl _));have HV:=avE hv;obtain ⟨_,_,_,al,rfl,hpa,⟨An,cn,rfl,-⟩,⟨⟨Aa,ca,rfl,-⟩,-⟩,⟨Af,cf,rfl,-⟩⟩:=h;generalize hnn:p.nodes.length=nn at *;generalize al.length=na at *;generalize hnf:p.faces.length=nf at *;obtain ⟨q,hq⟩:∃ q,uz p=q:=⟨_,rfl⟩;rw [hq];have HQ:=avE hq;clear hpa hv hnn hnf hq;go_enter Tryz.func49,Tryz.ntmps49;go_wp2_with fail;refine (mM.out _ (bA (bR w) _)).mono ?_;rintro e w1 ⟨Ac,cc,CL,rfl,hb1,hcl,hco⟩;have hcr:=hco.read;have hle:(cO p).length=CL.length:=by rw [<- hcl,avM]
 rw [hle] at hcr ⊢;have nU:=avE hcl;have GY:=avE hcr;have X1:ah w1 w.heap.size 26 #[.slice An nn cn,.slice Aa na ca,.slice Af nf cf]:=(ah.made rfl _ _).keep hb1;have B1:=avE (bT (bA (bR w) _) hb1);have gq:=avE X1;clear hb1 mM hcl hco hcr hle;obtain ⟨aS,aT,aU,aW,-,-,-⟩:=X1.aF;go_wp2_with fail;refine (rP.out _ B1.out).mono ?_;rintro e w2 ⟨gm,f,rfl,hb2,hgm,hpm⟩;have B2:=avE (bT B1.out hb2);have dh:=avE (gq.out.keep hb2);have aiD:=avE (GY.out.mono hb2);have wQ:=avE hpm;have hgw:w.heap.size<=gm:=avZ B1.out.size hgm;clear hb2 hpm gq GY X1 aS aT aU aW rP B1 hgm;have X1:=dh.out
 try clear aS
 try clear aT
 try clear aU
 try clear aW
 obtain ⟨aS,aT,aU,aW,-,-,-⟩:=X1.aF;go_wp2_with fail;refine (BN.out _ CL gm f _ B2.out aiD.out nU.out wQ.out).mono ?_;rintro e w3 ⟨A,c,L,rfl,hb3,had,hdv,htw⟩;have B3:=avE (bT B2.out hb3);have dW:=avE (dh.out.keep hb3);have aiE:=avE (wQ.out.keep hb3);have HA:=avE (had.full hb3);have HD:=avE hdv;have HT:=avE htw;have hz2:=B2.out.size;have HOw:=avE (show ∀ x∈L,Own w3 w.heap.size 24 1 lJ (bg x.iv) x.inn/\Own w3 w.heap.size 3 1 dw (bg x.av) x.fD from fun x hx=>⟨(had.inn x hx).fG hz2,(had.fD x hx).fG hz2⟩);have HLn:=avE (show (iE p).length+1=L.length from hdv.len.symm);clear hb3 had hdv htw dh aiD wQ X1 aS aT aU aW BN B2 hz2;have X1:=dW.out
 try clear aS
 try clear aT
 try clear aU
 try clear aW
 obtain ⟨aS,aT,aU,aW,-,-,-⟩:=X1.aF;go_wp2_with fail;refine (lZ.out _ L _ B3.out HA.out HD.out).mono ?_;rintro e w4 ⟨A',n',c',rfl,hb4,hof⟩;rw [HQ.out] at hof ⊢;have B4:=avE (bT B3.out hb4);have asH:=avE (aiE.out.keep hb4);have lN:=avE (HA.out.mono hb4);have yI:=avE hof;have asI:=avE (show ∀ x∈L,Own w4 w.heap.size 24 1 lJ (bg x.iv) x.inn/\Own w4 w.heap.size 3 1 dw (bg x.av) x.fD from fun x hx=>⟨(HOw.out x hx).1.keep hb4,(HOw.out x hx).2.keep hb4⟩);clear hb4 hof X1 aS aT aU aW lZ HA aiE dW B3 HOw
 cases q
 case false =>
  go_wp2_with fail;exact bodyPost_ret (acD rfl _ _) rfl (by (try rw [if_neg arC]);exact ⟨rfl,B4.out⟩)
 case true =>
  have ho:=yI.out rfl;rw [HLn.out] at ho;have hnl:n'=L.length:=by
   obtain ⟨A9,c9,h9,-⟩:=Own.lI ho;rw [TG] at h9;injection h9
  subst hnl;have HO:=avE ho;clear ho;go_wp2_with fail;refine bodyPost_ret (acD rfl _ _) rfl ?_
  try rw [if_pos rfl]
  refine ⟨A,c,L,A',c',gm,f,rfl,B4.out,lN.out,?_,HD.out,HT.out,asH.out,hgw,asI.out⟩;have:=HO.out.sl
  rw [TG] at this;unfold Ints;rw [TG];exact this
def qE (p:Pl):Int:=if nZ p≠0 then nZ p else if uz p=true then 0 else 12
theorem aiF (v:Value) (p:Pl) (w:World) (h:bQ w v p):Calls Tryz.prog 19 #[v] w fun e w'=>e=.returned (.int .i64 (qE p))/\Below w.heap.size w w':=by
 have HR:=avE (show ∀ W,Below w.heap.size w W->Calls Tryz.prog 49 #[v] W fun e w'=>(∃ A B C,e=.returned (.tuple #[A,B,C,.int .i64 (qE p)]))/\Below W.heap.size W w' from fun W hW=>by
  by_cases hv:nZ p=0
  ·refine (asG v p W (h.mono hW) ((U9 p).1 hv)).mono ?_;intro e w' he;unfold qE;rw [if_neg (by simpa using hv)];by_cases hf:uz p=true
   ·rw [if_pos hf] at he ⊢;obtain ⟨A,c,L,A',c',gm,f,rfl,hb,-⟩:=he;exact ⟨⟨_,_,_,rfl⟩,hb⟩
   ·rw [if_neg hf] at he ⊢;exact ⟨⟨_,_,_,he.1⟩,he.2⟩
  ·refine (asF v p W (h.mono hW) hv).mono ?_;rintro e w' ⟨rfl,hb⟩;unfold qE;rw [if_pos hv];exact ⟨⟨_,_,_,rfl⟩,hb⟩)
 obtain ⟨vn,va,vf,al,rfl,-⟩:=h;generalize qE p=z at *;go_enter Tryz.func19,Tryz.ntmps19;go_wp2_with fail;refine (HR.out _ (bA (bR w) _)).mono ?_;rintro e w1 ⟨⟨A,B,C,rfl⟩,hb1⟩;have B1:=avE (bT (bA (bR w) _) hb1);clear hb1 HR;go_wp2;go_ret;exact ⟨rfl,B1.out⟩
theorem aiG (v:Value) (p:Pl) (w:World) (h:bQ w v p):Calls Tryz.prog 53 #[v] w fun e w'=>e=.returned (.int .i64 (qE p))/\Below w.heap.size w w':=by
 have HC:=avE (fun W (hW:Below w.heap.size w W)=>adW v p W (h.mono hW));have lZ:=avE (fun (hv:nZ p=0) W (hW:Below w.heap.size w W)=>(asy v p W (h.mono hW) ((U9 p).1 hv)).mono (R':=fun e w'=>(∃ A n c,e=.returned (.tuple #[.slice A n c,.bool (uz p)]))/\Below W.heap.size W w') (by
  rintro e w' ⟨A,n,c,h1,h2,-⟩;exact ⟨⟨A,n,c,h1⟩,h2⟩))
 obtain ⟨vn,va,vf,al,rfl,-⟩:=h;obtain ⟨z,hz⟩:∃ z,nZ p=z:=⟨_,rfl⟩;obtain ⟨R,hR⟩:∃ R,qE p=R:=⟨_,rfl⟩;rw [hR];unfold qE at hR;rw [hz] at HC lZ hR;by_cases h0:z=0
 ·subst h0;rw [if_neg ars] at hR;have fH:=avE hR;clear hR hz;obtain ⟨q,hq⟩:∃ q,uz p=q:=⟨_,rfl⟩;rw [hq] at lZ fH;clear hq;go_enter Tryz.func53,Tryz.ntmps53;go_wp2_with fail;refine (HC.out _ (bA (bR w) _)).mono ?_;rintro e w1 ⟨rfl,hb1⟩;have HB1:=avE (bT (bA (bR w) _) hb1);have X1:ah w1 w.heap.size 26 #[vn,va,vf]:=(ah.made rfl _ _).keep hb1;clear hb1 HC;obtain ⟨aS,aT,aU,aW,-,-,-⟩:=X1.aF;go_wp2_with fail;refine (lZ.out (by trivial) _ HB1.out).mono ?_;rintro e w2 ⟨⟨A,n,c,rfl⟩,hb2⟩;have HB2:=avE (bT HB1.out hb2);clear hb2 lZ HB1 X1 aS aT aU aW
  cases q
  ·have hr:=fH.out;rw [if_neg arC] at hr;have HRq:=avE hr;clear hr fH;go_wp2;go_ret;exact ⟨by rw [<- HRq.out];rfl,HB2.out⟩
  ·have hr:=fH.out;rw [if_pos rfl] at hr;have HRq:=avE hr;clear hr fH;go_wp2;go_ret;exact ⟨by rw [<- HRq.out];rfl,HB2.out⟩
 ·rw [if_pos h0] at hR;subst hR;have hb:(z != 0)=true:=by simpa using h0
  clear h0 lZ hz;go_enter Tryz.func53,Tryz.ntmps53;go_wp2_with fail;refine (HC.out _ (bA (bR w) _)).mono ?_;rintro e w1 ⟨rfl,hb1⟩;have HB1:=avE (bT (bA (bR w) _) hb1);clear hb1 HC;go_wp2;go_ret;exact ⟨rfl,HB1.out⟩
end Go.Proofs.YtialfdomhoojiaaGreat
