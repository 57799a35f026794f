import Derived.Test.YtialfdomhoojiaaGreatQJ25
import Derived.Test.YtialfdomhoojiaaGreatQLawWc
set_option linter.unusedSimpArgs false
set_option linter.unusedVariables false
set_option maxRecDepth 100000
set_option maxHeartbeats 8000000
namespace Go.Proofs.YtialfdomhoojiaaGreat
open Go.RowKit
theorem af8 {P:Program} {fn:Func} {p q r s:Tmp} (h:fn.results=#[.tmp p,.tmp q,.tmp r,.tmp s]) (a:Array Value) (w:World) :
  (results fn a).run P w=.ok (.tuple #[a.getD p undef,a.getD q undef,a.getD r undef,a.getD s undef]) w:=by
 simp only [results,h];simp [Sem.run_bind,Sem.run_pure,Result.andThen]
def al0 (w:World) (p:Pl) (e:Ending) (w':World):Prop :=
 ∃ A c L A' c' gm f,e=.returned (.tuple #[.slice A L.length c,.slice A' L.length c',.map (some gm),.int .i64 0])/\AU w w'/\SN w' (.slice A L.length c) L/\Ints w' (.slice A' L.length c') (Ns p (BP p) L.length) /\
  Gz p L (BP p) (Js p) p.nodes/\RU p L/\Qe w' gm p f/\w.heap.size<=gm/\(∀ x∈L,Own w' w.heap.size 24 1 Ia (BK x.iv) x.inn/\Own w' w.heap.size 3 1 DR (BK x.av) x.DC)
def af9 (w:World) (z:Int) (e:Ending) (w':World):Prop:=e=.returned (.tuple #[.slice none 0 0,.slice none 0 0,.map none,.int .i64 z])/\AU w w'
theorem al1 (v:Value) (p:Pl) (w:World) (h:Ci w v p) (hv:IG p≠0):Calls Tryz.prog 49 #[v] w (af9 w (IG p)):=by
 have GV:=AA (fun W (hW:AU w W)=>akz v p W (h.mono hW) hv);obtain ⟨vn,va,vf,al,rfl,-⟩:=h;generalize IG p=z at *;have he:(z != 0)=true:=by simpa using hv
 clear hv;go_enter Tryz.func49,Tryz.ntmps49;go_wp2_with fail;refine (GV.out _ (bA (bR w) _)).mono ?_;rintro e w1 ⟨Ac,cc,cl,rfl,hb1,-,-⟩;have B1:=AA (bT (bA (bR w) _) hb1);clear hb1 GV;go_wp2_with fail;exact bodyPost_ret (af8 rfl _ _) rfl ⟨rfl,B1.out⟩
theorem afA (v:Value) (p:Pl) (w:World) (h:Ci w v p) (hv:Valid p):Calls Tryz.prog 49 #[v] w fun e w'=>if SL p=true then al0 w p e w' else af9 w 12 e w':=by
 have GV:=AA (fun W (hW:AU w W)=>ajo v p W (h.mono hW) hv);have Vx:=AA (fun W (hW:AU w W)=>ajQ v p W (h.mono hW) hv);have Qi:=AA (fun vc CL gm f W (hW:AU w W) hc hcl hpm=>ajl v vc p CL gm f W (h.mono hW) hv hc hcl hpm);have aaR:=AA (fun vl L W (hW:AU w W) hl hd=>auq v vl p L (BP p) p.nodes W (h.mono hW) hv hl hd (List.Perm.refl _));have HV:=AA hv;obtain ⟨_,_,_,al,rfl,hpa,⟨An,cn,rfl,-⟩,⟨⟨Aa,ca,rfl,-⟩,-⟩,⟨Af,cf,rfl,-⟩⟩:=h;generalize hnn:p.nodes.length=nn at *;generalize al.length=na at *;generalize hnf:p.faces.length=nf at *;obtain ⟨q,hq⟩:=BN (SL p);rw [hq];have HQ:=AA hq;clear hpa hv hnn hnf hq;go_enter Tryz.func49,Tryz.ntmps49;go_wp2_with fail;refine (GV.out _ (bA (bR w) _)).mono ?_;rintro e w1 ⟨Ac,cc,CL,rfl,hb1,hcl,hco⟩;have hcr:=hco.read;have hle:(Ce p).length=CL.length:=by rw [<- hcl,Cj]
 rw [hle] at hcr ⊢;have OW:=AA hcl;have SX:=AA hcr;have X1:AO w1 w.heap.size 26 #[.slice An nn cn,.slice Aa na ca,.slice Af nf cf]:=(AO.made rfl _ _).keep hb1;have B1:=AA (bT (bA (bR w) _) hb1);have Dt:=AA X1;clear hb1 GV hcl hco hcr hle;obtain ⟨BF,BG,BH,BI,-,-,-⟩:=X1.Az;go_wp2_with fail;refine (Vx.out _ B1.out).mono ?_;rintro e w2 ⟨gm,f,rfl,hb2,hgm,hpm⟩;have B2:=AA (bT B1.out hb2);have CG:=AA (Dt.out.keep hb2);have al2:=AA (SX.out.mono hb2);have KA:=AA hpm;have hgw:w.heap.size<=gm:=EH B1.out.size hgm;clear hb2 hpm Dt SX X1 BF BG BH BI Vx B1 hgm;have X1:=CG.out
 try clear BF BG BH BI
 obtain ⟨BF,BG,BH,BI,-,-,-⟩:=X1.Az;go_wp2_with fail;refine (Qi.out _ CL gm f _ B2.out al2.out OW.out KA.out).mono ?_;rintro e w3 ⟨A,c,L,rfl,hb3,had,hdv,htw⟩;have B3:=AA (bT B2.out hb3);have Ej:=AA (CG.out.keep hb3);have zy:=AA (KA.out.keep hb3);have HA:=AA (had.full hb3);have HD:=AA hdv;have HT:=AA htw;have hz2:=B2.out.size;have HOw:=AA (show ∀ x∈L,Own w3 w.heap.size 24 1 Ia (BK x.iv) x.inn/\Own w3 w.heap.size 3 1 DR (BK x.av) x.DC from fun x hx=>⟨(had.inn x hx).ES hz2,(had.DC x hx).ES hz2⟩);have HLn:=AA (show (BP p).length+1=L.length from hdv.len.symm);clear hb3 had hdv htw CG al2 KA X1 BF BG BH BI Qi B2 hz2;have X1:=Ej.out
 try clear BF BG BH BI
 obtain ⟨BF,BG,BH,BI,-,-,-⟩:=X1.Az;go_wp2_with fail;refine (aaR.out _ L _ B3.out HA.out HD.out).mono ?_;rintro e w4 ⟨A',n',c',rfl,hb4,hof⟩;rw [HQ.out] at hof ⊢;have B4:=AA (bT B3.out hb4);have pR:=AA (zy.out.keep hb4);have Iu:=AA (HA.out.mono hb4);have RV:=AA hof;have auz:=AA (show ∀ x∈L,Own w4 w.heap.size 24 1 Ia (BK x.iv) x.inn/\Own w4 w.heap.size 3 1 DR (BK x.av) x.DC from fun x hx=>⟨(HOw.out x hx).1.keep hb4,(HOw.out x hx).2.keep hb4⟩);clear hb4 hof X1 BF BG BH BI aaR HA zy Ej B3 HOw
 cases q
 case false =>
  go_wp2_with fail;exact bodyPost_ret (af8 rfl _ _) rfl (by (try rw [AX Aw]);exact ⟨rfl,B4.out⟩)
 case true =>
  have ho:=RV.out rfl;rw [HLn.out] at ho;have hnl:n'=L.length:=by
   obtain ⟨A9,c9,h9,-⟩:=Own.Ig ho;rw [U6] at h9;injection h9
  subst hnl;have HO:=AA ho;clear ho;go_wp2_with fail;refine bodyPost_ret (af8 rfl _ _) rfl ?_
  try rw [AZ rfl]
  refine ⟨A,c,L,A',c',gm,f,rfl,B4.out,Iu.out,?_,HD.out,HT.out,pR.out,hgw,auz.out⟩;have:=HO.out.sl
  rw [U6] at this;unfold Ints;rw [U6];exact this
def Ib (p:Pl):Int:=if IG p≠0 then IG p else if SL p=true then 0 else 12
theorem al3 (v:Value) (p:Pl) (w:World) (h:Ci w v p):Calls Tryz.prog 19 #[v] w fun e w'=>e=.returned (.int .i64 (Ib p))/\AU w w':=by
 have HR:=AA (show ∀ W,AU w W->Calls Tryz.prog 49 #[v] W fun e w'=>(∃ A B C,e=.returned (.tuple #[A,B,C,.int .i64 (Ib p)]))/\AU W w' from fun W hW=>by
  by_cases hv:IG p=0
  ·refine (afA v p W (h.mono hW) ((Yi p).1 hv)).mono ?_;intro e w' he;unfold Ib;rw [AX (by simpa using hv)];by_cases hf:SL p=true
   ·rw [AZ hf] at he ⊢;obtain ⟨A,c,L,A',c',gm,f,rfl,hb,-⟩:=he;exact ⟨⟨_,_,_,rfl⟩,hb⟩
   ·rw [AX hf] at he ⊢;exact ⟨⟨_,_,_,he.1⟩,he.2⟩
  ·refine (al1 v p W (h.mono hW) hv).mono ?_;rintro e w' ⟨rfl,hb⟩;unfold Ib;rw [AZ hv];exact ⟨⟨_,_,_,rfl⟩,hb⟩)
 obtain ⟨vn,va,vf,al,rfl,-⟩:=h;generalize Ib p=z at *;go_enter Tryz.func19,Tryz.ntmps19;go_wp2_with fail;refine (HR.out _ (bA (bR w) _)).mono ?_;rintro e w1 ⟨⟨A,B,C,rfl⟩,hb1⟩;have B1:=AA (bT (bA (bR w) _) hb1);clear hb1 HR;go_wp2;go_ret;exact ⟨rfl,B1.out⟩
structure Rg where
 face:Int
 out:List Int
 inn:List (List Int)
 DC:List Int
def SY (p:Pl) (b:Option (List Int)):Rg:=⟨NR p b,b.getD [],Vu p b,aN p b⟩
def aae (p:Pl) (O:List (List Int)) (f:Int):List Rg:=(O.filter (fun X=>decide (NR p (some X)=f))).map (fun X=>SY p (some X))
def fA (p:Pl) (O:List (List Int)):List Rg:=SY p none::p.faces.flatMap (aae p O)
theorem al4 {α:Type} (g:α->Int) (O:List α):∀ {fs:List Int},fs.Nodup->(fs.flatMap fun f=>O.filter (fun X=>decide (g X=f))).Perm (O.filter (fun X=>decide (g X∈fs)))
 | [],_=>by simp
 | f::fs,h=>by
  obtain ⟨hf,hn⟩:=aAO.1 h;rw [KI];refine ((al4 g O hn).append_left _).trans ?_;have e1:O.filter (fun X=>decide (g X=f))=(O.filter (fun X=>decide (g X∈f::fs))).filter (fun X=>decide (g X=f)):=by
   rw [ab4];congr 1
   funext X
   by_cases e:g X=f<;>simp [e]
  have e2:O.filter (fun X=>decide (g X∈fs))=(O.filter (fun X=>decide (g X∈f::fs))).filter (fun X=>!decide (g X=f)):=by
   rw [ab4];congr 1
   funext X
   by_cases e:g X=f
   · simp [e,hf]
   · simp [e]
  rw [e1,e2];exact abY _ _
theorem av1 {p:Pl} (h:Valid p) (hf:aO p) {O:List (List Int)} (hO:O.Perm (BP p)):(fA p O).Perm ((Jp p).map (SY p)):=by
 unfold fA Jp;rw [FM,IV];refine List.Perm.cons _ ?_;have hn:p.faces.Nodup:=h.akH.imp (fun h=>by omega);have e:p.faces.flatMap (aae p O)=(p.faces.flatMap fun f=>O.filter (fun X=>decide (NR p (some X)=f))).map (fun X=>SY p (some X)):=by
  rw [aAL];rfl
 rw [e];refine List.Perm.map _ (((al4 (fun X=>NR p (some X)) O hn).trans ?_).trans hO)
 have:O.filter (fun X=>decide (NR p (some X)∈p.faces))=O:=by
  rw [List.filter_eq_self];intro X hX;rw [EO];rcases h.akJ (X.headD 0) with e | e
  · exact absurd e (hf.some X (hO.subset hX))
  · exact e
 rw [this]
theorem aA0 {p:Pl} {O:List (List Int)} {f:Int} {r:Rg} (h:r∈aae p O f):r.face=f:=by
 unfold aae at h;obtain ⟨X,hX,rfl⟩:=ED.1 h;exact of_decide_eq_true (QE.1 hX).2
theorem av2 {p:Pl} (h:Valid p) (O:List (List Int)):(fA p O).Pairwise (fun a b=>a.face<=b.face):=by
 unfold fA;rw [JL,sO];refine ⟨fun r hr=>?_,fun f hf=>?_,h.akH.imp (fun {f g} hfg x hx y hy=>?_)⟩
 ·obtain ⟨f,hf,hr⟩:=Gf.1 hr;rw [aA0 hr];have:=h.akI hf
  show (0:Int)<=f
  omega
 ·rw [Fa];intro i j hi hj _;rw [aA0 (BO hi),aA0 (BO hj)];exact KH _
 ·rw [aA0 hx,aA0 hy];omega
theorem av3 {p:Pl} (hf:aO p) {a b:Rg} (ha:a∈(Jp p).map (SY p)) (hb:b∈(Jp p).map (SY p)) (e:a.face=b.face):a=b:=by
 obtain ⟨x,hx,rfl⟩:=ED.1 ha;obtain ⟨y,hy,rfl⟩:=ED.1 hb;unfold Jp at hx hy;have key:∀ X∈BP p,∀ Y∈BP p,NR p (some X)=NR p (some Y)->X=Y:=by
  intro X hX Y hY e;obtain ⟨i,hi,rfl⟩:=EF.1 hX;obtain ⟨j,hj,rfl⟩:=EF.1 hY;have hd:=hf.differ;unfold List.Nodup at hd;rw [I5,Fa] at hd;rcases PN i j with hij | hij | hij
  · exact absurd e (hd i j hi hj hij)
  · subst hij;rfl
  · exact absurd e.symm (hd j i hj hi hij)
 rcases EW.1 hx with rfl | hx<;>rcases EW.1 hy with rfl | hy
 · rfl
 ·obtain ⟨Y,hY,rfl⟩:=ED.1 hy;exact absurd e.symm (hf.some Y hY)
 ·obtain ⟨X,hX,rfl⟩:=ED.1 hx;exact absurd e (hf.some X hX)
 ·obtain ⟨X,hX,rfl⟩:=ED.1 hx;obtain ⟨Y,hY,rfl⟩:=ED.1 hy;rw [key X hX Y hY e]
theorem av4 {p:Pl} (h:Valid p) (hf:aO p) {O:List (List Int)} (hO:O.Perm (BP p)) {l:List Rg} (hl:l.Perm ((Jp p).map (SY p))) (hs:l.Pairwise (fun a b=>a.face<=b.face)):l=fA p O:=by
 refine ou (lt:=fun a b=>decide (a.face<b.face)) (hl.trans (av1 h hf hO).symm) (hs.imp (fun h=>by simp;omega)) ((av2 h O).imp (fun h=>by simp;omega)) (fun a ha b hb h1 h2=>?_);simp only [Iy] at h1 h2;exact av3 hf (hl.subset ha) (hl.subset hb) AB
def Px (x:AD):Rg:=⟨x.tw,x.out,x.inn.map (·.1),x.DC⟩
theorem Gz.rg {p:Pl} {L:List AD} {O:List (List Int)} (h:Gz p L O (Js p) p.nodes) (ht:∀ i (hi:i<L.length),L[i].tw=Ih p O i) {i:Nat} (hi:i<L.length):Px L[i]=SY p (KO O i):=by
 have hc:=h.aac hi;unfold MB J7 GR at hc;rw [FM] at hc;injection hc with h1 h2;unfold Px SY;rw [ht i hi,h.DC i hi];have h1':L[i].out=(KO O i).getD []:=h1;rw [h1',h2];rfl
def av5 (w:World) (p:Pl) (e:Ending) (w':World):Prop :=
 ∃ A c L,e=.returned (.tuple #[.slice A L.length c,.int .i64 0])/\AU w w'/\SN w' (.slice A L.length c) L/\L.map Px=fA p (sortK (BP p))
open Go.RowKit Go.Sort
theorem aaf {p:Pl} (hv:Ib p=0):Valid p/\SL p=true:=by
 unfold Ib at hv;split at hv
 · rename_i h0;exact absurd hv h0
 ·rename_i h0;split at hv
  · rename_i h1;exact ⟨(Yi p).1 (by simpa using h0),h1⟩
  · cases hv
theorem al5 (v:Value) (p:Pl) (w:World) (h:Ci w v p) (hv:Ib p≠0):Calls Tryz.prog 49 #[v] w (af9 w (Ib p)):=by
 by_cases h0:IG p=0
 ·have hr:Ib p=if SL p=true then 0 else 12:=by unfold Ib;rw [AX (by simpa using h0)]
  have hf:¬ SL p=true:=fun e=>hv (by rw [hr,AZ e]);rw [hr,AX hf];refine (afA v p w h ((Yi p).1 h0)).mono fun e w' g=>?_;rw [AX hf] at g;exact g
 ·have hr:Ib p=IG p:=by unfold Ib;rw [AZ h0]
  rw [hr];exact al1 v p w h h0
theorem aCv (v:Value) (p:Pl) (w:World) (h:Ci w v p) (hv:Ib p=0):Calls Tryz.prog 49 #[v] w (al0 w p):=by
 obtain ⟨h1,h2⟩:=aaf hv;refine (afA v p w h h1).mono fun e w' g=>?_;rw [AZ h2] at g;exact g
theorem av6 {p:Pl} {L:List AD} {O:List (List Int)} (h:Gz p L O (Js p) p.nodes):(VD p O L L.length).map Px=(none::O.map some).map (SY p):=by
 have hd:=auy h L.length;have ht:∀ i (hi:i<(VD p O L L.length).length),(VD p O L L.length)[i].tw=Ih p O i:=fun i hi=>by
  have hil:i<L.length:=by rw [jr] at hi;exact hi
  rw [rG hi hil,AZ hil]
 have hl:=hd.len;apply Zq (by simp [hl]);intro i h1 h2;have h3:i<(VD p O L L.length).length:=by simpa using h1
 rw [Gp,hd.rg ht h3,Gp];congr 1;by_cases e:i=0
 · subst e;rfl
 ·obtain ⟨j,rfl⟩:∃ j,i=j+1:=⟨i-1,AB⟩;rw [Tn AB AB];simp
theorem av7 (v:Value) (p:Pl) (w:World) (h:Ci w v p) (hv:Ib p=0):Calls Tryz.prog 17 #[v] w (av5 w p):=by
 obtain ⟨hvv,hfb⟩:=aaf hv;have HV:=AA hvv;have HFk:=AA (aBx.1 hfb);have HC:=AA (fun W (hW:AU w W)=>aCv v p W (h.mono hW) hv);have PY:=AA (@asq);have hol:(BP p).length<=512:=EH (OA _ _) hvv.U5;obtain ⟨vn,va,vf,al,rfl,-⟩:=h;clear hv hfb hvv;go_enter Tryz.func17,Tryz.ntmps17;go_wp2_with fail;refine (HC.out _ (bA (bR w) _)).mono ?_;rintro e w1 ⟨A,c,L,A',c',gm,f,rfl,hb1,Si,hfi,hdv,-,-,-,-⟩;have HB1:=AA (bT (bA (bR w) _) hb1);have HA:=AA Si;have HD:=AA hdv;have hll:L.length=(BP p).length+1:=hdv.len;have hl1:L.length<=513:=by omega
 have hfl:=U6 p (BP p) L.length;obtain ⟨Al,cl,hel,hl2,hl3,hRl⟩:=Si.sl;injection hel with y1 y2 y3;subst y1 y3;clear y2;unfold Ints at hfi;rw [hfl] at hfi;obtain ⟨Af,cf,hef,hf2,hf3,fB⟩:=hfi;injection hef with y1 y2 y3;subst y1 y3;clear y2;unfold maxLen at hl3 hf3;have HRl:=AA hRl;have Wy:=AA fB;have JQ:=AA hll;have afB:=jr p (BP p) L L.length;obtain ⟨F,hF⟩:=BN (VD p (BP p) L L.length);have aA1:=AA hF;rw [hF] at afB;have eH:=AA afB;clear hb1 Si hdv hRl fB HC hF hfl hll afB;go_upto_block 0 with fail;go_wp2_with fail;go_loopw [2,21] (fun s i wr=>∃ k:Nat,k<=L.length/\i=.int .i64 k/\(∃ A c,s=.slice A k c)/\Own wr w1.heap.size 62 4 E8 s (F.take k)/\AU w1 wr) (fun _ i _=>L.length-(intOf i).toNat)
 case atStart => exact ⟨0,Bv _,rfl,⟨_,_,rfl⟩,by rw [O8];exact Own.nil _ _ _ _ _,bR w1⟩
 case round =>
  obtain ⟨k,hk,rfl,⟨A5,c5,rfl⟩,ho,hb⟩:=hrel;obtain ⟨wo,rfl⟩:=BR wr;have HO:=AA ho;have HB:=AA hb;have aCl:=hb.size;clear ho hb;by_cases hlt:k<L.length
  ·obtain ⟨b,o,rfl,hlb,c0,c1,c2,c3⟩:=(HRl.out.mono HB.out).ad hlt;have hfk:k<(Ns p (BP p) L.length).length:=by rw [U6];exact hlt
   obtain ⟨bf,of_,rfl,ayi,f0⟩:=(Wy.out.mono HB.out).int hfk;have hkF:k<F.length:=by rw [eH.out];exact hlt
   have htk:F.take (k+1)=F.take k++[F[k]]:=F7 hkF;have hfv:(Ns p (BP p) L.length)[k]=Ih p (BP p) k:=by simp only [Ns,Gp,List.getElem_range]
   have hFk:F[k] = {L[k] with tw:=Ih p (BP p) k}:=by
    have:=rG (p:=p) (O:=BP p) (L:=L) (k:=L.length) (i:=k) (by rw [jr];exact hlt) hlt
    rw [AZ hlt] at this;rw [<- this];congr 1;exact aA1.out.symm
   rw [hfv] at f0;rw [hFk] at htk;generalize Ih p (BP p) k=fc at *;generalize L[k]=x at *;obtain ⟨tw,X,⟨oa,on,oc⟩,In,⟨ia,II,ic⟩,al',⟨aa,an,ac⟩⟩:=x;unfold BK at c1 c2 c3;simp only at c0 c1 c2 c3 htk;have FI:=AA htk;have HF0:=AA f0;clear htk hFk hfv;go_upto_region 7 with fail;obtain ⟨W2,hW⟩:∃ W:World,W=wo.alloc (.cells #[.int .i64 tw,.slice oa on oc,.slice ia II ic,.slice aa an ac] 82):=⟨_,rfl⟩;have hA:AU wo W2:=by rw [hW];exact bA (bR wo) _
   obtain ⟨g8,Lr⟩:=BN wo.heap.size;have X5:AO W2 g8 82 #[.int .i64 tw,.slice oa on oc,.slice ia II ic,.slice aa an ac]:=by rw [hW];exact AO.made Lr.symm _ _
   have HB2:=AA (bT HB.out hA);have F9:=AA (HO.out.keep hA);replace f0:=Eh hA f0;have n1:some g8≠(Value.slice A5 k c5).ownBlock:=fun e=>by have:=(HO.out.lt _ e.symm).2;omega
   have n2:some bf≠(Value.slice A5 k c5).ownBlock:=fun e=>by
    have:=(HO.out.lt _ e.symm).1
    have:bf<w1.heap.size:=by
     obtain ⟨b9,o9,e9,h9,-⟩:=Wy.out.int hfk;injection e9 with e9;injection e9 with e9 _ _;omega
    omega
   have hzW:wo.heap.size<=W2.heap.size:=hA.size;have av8:bf<W2.heap.size:=by omega
   have av9:w1.heap.size<=W2.heap.size:=by omega
   rw [<- hW]
   try rw [Lr]
   clear hW hA c0 c1 c2 c3 hlb HO HB;have hkl2:(F.take k).length=k:=by rw [Iw];omega
   have hsh:(F.take k++[(⟨fc,X,⟨oa,on,oc⟩,In,⟨ia,II,ic⟩,al',⟨aa,an,ac⟩⟩:AD)]).length=k+1:=by rw [ER,hkl2];rfl
   have DW:=AA hsh;have aza:(F.take k).length<=513:=by omega
   have kf1:(k:Int)<L.length:=by omega
   have kf2:0<=(k:Int):=by omega
   clear hsh hkl2;obtain ⟨CJ,CO,CS,F8,UN,-,-,-,-⟩:=X5.N7;refine UY (W2) ((Value.slice A5 k c5).ownBlock) (.run 12 0 0 (.call 12 8191 (.call 13 16383 (.take 14 32767 (.done))))) fun CU QR Ae Ah hS=>?_
   iterate 12 refine Aj ?_
   refine Bj ?_;clear hS;intro K hK AQ;go_simp;refine hK.out _ _ (gA AQ.out _) (fun hS=>?_);clear hK K AQ
   try simp only [pu]
   refine Bj ?_;clear hS;intro K hK AQ;refine JV (.tmp 26) (.tmp 38) _ rfl (base:=w1.heap.size) ajU RN xP rfl ((F9.out.keep (bD (bR W2))).alloc _) rfl (l2:=[(⟨fc,X,⟨oa,on,oc⟩,In,⟨ia,II,ic⟩,al',⟨aa,an,ac⟩⟩:AD)]) (Sl.lit (n:=1) (AO.made rfl _ _) rfl (DN AB)) DZ DZ DT ?_;intro v3 wr3 ho3 hg hat;obtain ⟨A6,c6,hv6,-⟩:=Own.Ig ho3;rw [DW.out] at hv6;subst hv6;have hS:JU W2 (Value.slice A5 k c5).ownBlock wr3:=gT AQ.out hg;clear AQ;refine hK.out _ _ hS (fun _=>?_);clear hK K
   try simp only [pu]
   refine Aj ?_;refine Qq ?_;clear hS Ah Ae;intro hB;have F5:=AA ho3;have HB3:=AA (agQ HB2.out av9 hB (fun g hg=>(F9.out.lt g hg).1));clear ho3 hg hat hB f0 X5 CJ CO CS F8 UN n1 n2 av8;go_wp2;go_roundw
   case rel => exact ⟨k+1,AB,BJ,⟨A6,c6,rfl⟩,by rw [FI.out];exact F5.out,HB3.out⟩
   case measure => exact BL
  ·obtain rfl:k=L.length:=by omega
   have hFt:F.take L.length=F:=IQ (by rw [eH.out];omega);have hoF:=HO.out;rw [hFt] at hoF;have HOF:=AA hoF;clear hoF hFt HO;go_wp2_with fail;refine (PY.out w1.heap.size _ F wo HOF.out (by rw [eH.out];omega)).mono ?_;rintro e w5 ⟨rfl,M,hp,hs,Di,hg5⟩;have Cm:=AA (bG HB.out hg5 (fun g hg=>(HOF.out.lt g hg).1));have hml:M.length=L.length:=by rw [hp.length_eq,eH.out]
   have HP:=AA hp;have Fh:=AA Di;have HMl:=AA hml;have HS:=AA (show M.Pairwise (fun a b=>a.tw<=b.tw) from hs.imp (fun {a b} g=>by
    have g':ltOf (fun x y:AD=>KN x.tw y.tw) b a=false:=g;rw [oV (fun x:AD=>x.tw),Iy] at g';omega))
   have afC:=AA (show M.map Px=fA p (sortK (BP p)) from by
    refine av4 HV.out HFk.out (Ze (BP p)).1 ?_ ?_
    ·refine (HP.out.map Px).trans ?_;rw [<- aA1.out,av6 HD.out];exact List.Perm.refl _
    ·rw [I5];exact HS.out)
   have Qg:=AA (show ∀ x∈M,∃ y∈L,∃ t,x = {y with tw:=t} from fun x hx=>by
    have h9:=HP.out.subset hx;rw [<- aA1.out] at h9;exact auw h9)
   have Ii:=AA (HA.out.mono Cm.out);have hsl:=Di.sl;rw [hml] at hsl;have Po:=AA hsl;clear hp hs Di hg5 hml hsl;go_wp2_with fail;go_ret2;refine ⟨A5,c5,M,by rw [HMl.out];rfl,bT HB1.out Cm.out,⟨by rw [HMl.out];exact Po.out,fun x hx=>?_,fun x hx=>?_,fun x hx=>?_,fun x hx=>?_⟩,afC.out⟩
   · obtain ⟨y,hy,t,rfl⟩:=Qg.out x hx;exact Ii.out.out y hy
   · obtain ⟨y,hy,t,rfl⟩:=Qg.out x hx;exact Ii.out.inn y hy
   · obtain ⟨y,hy,t,rfl⟩:=Qg.out x hx;exact Ii.out.Ja y hy
   · obtain ⟨y,hy,t,rfl⟩:=Qg.out x hx;exact Ii.out.DC y hy
