import Derived.Test.YtialfdomhoojiaaGreatLawWc
import Derived.Test.YtialfdomhoojiaaGreatJ28
set_option linter.unusedSimpArgs false
set_option linter.unusedVariables false
set_option maxRecDepth 100000
set_option maxHeartbeats 8000000
namespace Go.Proofs.YtialfdomhoojiaaGreat
open Go.RowKit
theorem aeu {P:Program} {fn:Func} {p q r s:Tmp} (h:fn.results=#[.tmp p,.tmp q,.tmp r,.tmp s]) (a:Array Value) (w:World) :
  (results fn a).run P w=.ok (.tuple #[a.getD p undef,a.getD q undef,a.getD r undef,a.getD s undef]) w:=by
 simp only [results,h];simp [Sem.run_bind,Sem.run_pure,Result.andThen]
def al4 (w:World) (p:Pl) (e:Ending) (w':World):Prop :=
 ∃ A c L A' c' gm f,e=.returned (.tuple #[.slice A L.length c,.slice A' L.length c',.map (some gm),.int .i64 0])/\AP w w'/\Nw w' (.slice A L.length c) L/\Ints w' (.slice A' L.length c') (Nz p (Bj p) L.length) /\
  FX p L (Bj p) (J8 p) p.nodes/\RU p L/\QT w' gm p f/\w.heap.size<=gm/\(∀ x∈L,Own w' w.heap.size 24 1 Ib (BJ x.iv) x.inn/\Own w' w.heap.size 3 1 D5 (BJ x.av) x.CU)
def aev (w:World) (z:Int) (e:Ending) (w':World):Prop:=e=.returned (.tuple #[.slice none 0 0,.slice none 0 0,.map none,.int .i64 z])/\AP w w'
theorem al5 (v:Value) (p:Pl) (w:World) (h:Cb w v p) (hv:Ig p≠0):Calls Tryz.prog 49 #[v] w (aev w (Ig p)):=by
 have Gm:=AA (fun W (hW:AP w W)=>aku v p W (h.mono hW) hv);obtain ⟨vn,va,vf,al,rfl,-⟩:=h;generalize Ig p=z at *;have he:(z != 0)=true:=by simpa using hv
 clear hv;go_enter Tryz.func49,Tryz.ntmps49;go_wp2_with fail;refine (Gm.out _ (bA (bR w) _)).mono ?_;rintro e w1 ⟨Ac,cc,cl,rfl,hb1,-,-⟩;have B1:=AA (bT (bA (bR w) _) hb1);clear hb1 Gm;go_wp2_with fail;exact bodyPost_ret (aeu rfl _ _) rfl ⟨rfl,B1.out⟩
theorem aew (v:Value) (p:Pl) (w:World) (h:Cb w v p) (hv:Valid p):Calls Tryz.prog 49 #[v] w fun e w'=>if NP p=true then al4 w p e w' else aev w 12 e w':=by
 have Gm:=AA (fun W (hW:AP w W)=>alJ v p W (h.mono hW) hv);have WT:=AA (fun W (hW:AP w W)=>ajY v p W (h.mono hW) hv);have QX:=AA (fun vc CL gm f W (hW:AP w W) hc hcl hpm=>alF v vc p CL gm f W (h.mono hW) hv hc hcl hpm);have U0:=AA (fun vl L W (hW:AP w W) hl hd=>auv v vl p L (Bj p) p.nodes W (h.mono hW) hv hl hd (List.Perm.refl _));have HV:=AA hv;obtain ⟨_,_,_,al,rfl,hpa,⟨An,cn,rfl,-⟩,⟨⟨Aa,ca,rfl,-⟩,-⟩,⟨Af,cf,rfl,-⟩⟩:=h;generalize hnn:p.nodes.length=nn at *;generalize al.length=na at *;generalize hnf:p.faces.length=nf at *;obtain ⟨q,hq⟩:=BL (NP p);rw [hq];have HQ:=AA hq;clear hpa hv hnn hnf hq;go_enter Tryz.func49,Tryz.ntmps49;go_wp2_with fail;refine (Gm.out _ (bA (bR w) _)).mono ?_;rintro e w1 ⟨Ac,cc,CL,rfl,hb1,hcl,hco⟩;have hcr:=hco.read;have hle:(CX p).length=CL.length:=by rw [<- hcl,Cm]
 rw [hle] at hcr ⊢;have Ny:=AA hcl;have SS:=AA hcr;have X1:AO w1 w.heap.size 26 #[.slice An nn cn,.slice Aa na ca,.slice Af nf cf]:=(AO.made rfl _ _).keep hb1;have B1:=AA (bT (bA (bR w) _) hb1);have D9:=AA X1;clear hb1 Gm hcl hco hcr hle;obtain ⟨Ak,Au,Az,BA,-,-,-⟩:=X1.BF;go_wp2_with fail;refine (WT.out _ B1.out).mono ?_;rintro e w2 ⟨gm,f,rfl,hb2,hgm,hpm⟩;have B2:=AA (bT B1.out hb2);have CG:=AA (D9.out.keep hb2);have al6:=AA (SS.out.mono hb2);have Jr:=AA hpm;have hgw:w.heap.size<=gm:=Dn B1.out.size hgm;clear hb2 hpm D9 SS X1 Ak Au Az BA WT B1 hgm;have X1:=CG.out
 try clear Ak Au Az BA
 obtain ⟨Ak,Au,Az,BA,-,-,-⟩:=X1.BF;go_wp2_with fail;refine (QX.out _ CL gm f _ B2.out al6.out Ny.out Jr.out).mono ?_;rintro e w3 ⟨A,c,L,rfl,hb3,had,hdv,htw⟩;have B3:=AA (bT B2.out hb3);have Ep:=AA (CG.out.keep hb3);have zA:=AA (Jr.out.keep hb3);have HA:=AA (had.full hb3);have HD:=AA hdv;have HT:=AA htw;have hz2:=B2.out.size;have HOw:=AA (show ∀ x∈L,Own w3 w.heap.size 24 1 Ib (BJ x.iv) x.inn/\Own w3 w.heap.size 3 1 D5 (BJ x.av) x.CU from fun x hx=>⟨(had.inn x hx).Du hz2,(had.CU x hx).Du hz2⟩);have HLn:=AA (show (Bj p).length+1=L.length from hdv.len.symm);clear hb3 had hdv htw CG al6 Jr X1 Ak Au Az BA QX B2 hz2;have X1:=Ep.out
 try clear Ak Au Az BA
 obtain ⟨Ak,Au,Az,BA,-,-,-⟩:=X1.BF;go_wp2_with fail;refine (U0.out _ L _ B3.out HA.out HD.out).mono ?_;rintro e w4 ⟨A',n',c',rfl,hb4,hof⟩;rw [HQ.out] at hof ⊢;have B4:=AA (bT B3.out hb4);have pY:=AA (zA.out.keep hb4);have Ij:=AA (HA.out.mono hb4);have RJ:=AA hof;have awD:=AA (show ∀ x∈L,Own w4 w.heap.size 24 1 Ib (BJ x.iv) x.inn/\Own w4 w.heap.size 3 1 D5 (BJ x.av) x.CU from fun x hx=>⟨(HOw.out x hx).1.keep hb4,(HOw.out x hx).2.keep hb4⟩);clear hb4 hof X1 Ak Au Az BA U0 HA zA Ep B3 HOw
 cases q
 case false =>
  go_wp2_with fail;exact bodyPost_ret (aeu rfl _ _) rfl (by (try rw [AX BG]);exact ⟨rfl,B4.out⟩)
 case true =>
  have ho:=RJ.out rfl;rw [HLn.out] at ho;have hnl:n'=L.length:=by
   obtain ⟨A9,c9,h9,-⟩:=Own.IE ho;rw [U1] at h9;injection h9
  subst hnl;have HO:=AA ho;clear ho;go_wp2_with fail;refine bodyPost_ret (aeu rfl _ _) rfl ?_
  try rw [AZ rfl]
  refine ⟨A,c,L,A',c',gm,f,rfl,B4.out,Ij.out,?_,HD.out,HT.out,pY.out,hgw,awD.out⟩;have:=HO.out.sl
  rw [U1] at this;unfold Ints;rw [U1];exact this
def Eu (p:Pl):Int:=if Ig p≠0 then Ig p else if NP p=true then 0 else 12
theorem al7 (v:Value) (p:Pl) (w:World) (h:Cb w v p):Calls Tryz.prog 19 #[v] w fun e w'=>e=.returned (.int .i64 (Eu p))/\AP w w':=by
 have HR:=AA (show ∀ W,AP w W->Calls Tryz.prog 49 #[v] W fun e w'=>(∃ A B C,e=.returned (.tuple #[A,B,C,.int .i64 (Eu p)]))/\AP W w' from fun W hW=>by
  by_cases hv:Ig p=0
  ·refine (aew v p W (h.mono hW) ((dP p).1 hv)).mono ?_;intro e w' he;unfold Eu;rw [AX (by simpa using hv)];by_cases hf:NP p=true
   ·rw [AZ hf] at he ⊢;obtain ⟨A,c,L,A',c',gm,f,rfl,hb,-⟩:=he;exact ⟨⟨_,_,_,rfl⟩,hb⟩
   ·rw [AX hf] at he ⊢;exact ⟨⟨_,_,_,he.1⟩,he.2⟩
  ·refine (al5 v p W (h.mono hW) hv).mono ?_;rintro e w' ⟨rfl,hb⟩;unfold Eu;rw [AZ hv];exact ⟨⟨_,_,_,rfl⟩,hb⟩)
 obtain ⟨vn,va,vf,al,rfl,-⟩:=h;generalize Eu p=z at *;go_enter Tryz.func19,Tryz.ntmps19;go_wp2_with fail;refine (HR.out _ (bA (bR w) _)).mono ?_;rintro e w1 ⟨⟨A,B,C,rfl⟩,hb1⟩;have B1:=AA (bT (bA (bR w) _) hb1);clear hb1 HR;go_wp2;go_ret;exact ⟨rfl,B1.out⟩
structure Rg where
 face:Int
 out:List Int
 inn:List (List Int)
 CU:List Int
def Rh (p:Pl) (b:Option (List Int)):Rg:=⟨KH p b,b.getD [],aj p b,ak p b⟩
def pq (p:Pl) (O:List (List Int)) (f:Int):List Rg:=(O.filter (fun X=>decide (KH p (some X)=f))).map (fun X=>Rh p (some X))
def VA (p:Pl) (O:List (List Int)):List Rg:=Rh p none::p.faces.flatMap (pq p O)
theorem akZ {α:Type} (g:α->Int) (O:List α):∀ {fs:List Int},fs.Nodup->(fs.flatMap fun f=>O.filter (fun X=>decide (g X=f))).Perm (O.filter (fun X=>decide (g X∈fs)))
 | [],_=>by simp
 | f::fs,h=>by
  obtain ⟨hf,hn⟩:=sN.1 h;rw [Ju];refine ((akZ g O hn).append_left _).trans ?_;have e1:O.filter (fun X=>decide (g X=f))=(O.filter (fun X=>decide (g X∈f::fs))).filter (fun X=>decide (g X=f)):=by
   rw [abD];congr 1
   funext X
   by_cases e:g X=f<;>simp [e]
  have e2:O.filter (fun X=>decide (g X∈fs))=(O.filter (fun X=>decide (g X∈f::fs))).filter (fun X=>!decide (g X=f)):=by
   rw [abD];congr 1
   funext X
   by_cases e:g X=f
   · simp [e,hf]
   · simp [e]
  rw [e1,e2];exact abl _ _
theorem awE {p:Pl} (h:Valid p) (hf:jX p) {O:List (List Int)} (hO:O.Perm (Bj p)):(VA p O).Perm ((Ji p).map (Rh p)):=by
 unfold VA Ji;rw [Ez,Mc];refine List.Perm.cons _ ?_;have hn:p.faces.Nodup:=h.aeB.imp (fun h=>by omega);have e:p.faces.flatMap (pq p O)=(p.faces.flatMap fun f=>O.filter (fun X=>decide (KH p (some X)=f))).map (fun X=>Rh p (some X)):=by
  rw [rQ];rfl
 rw [e];refine List.Perm.map _ (((akZ (fun X=>KH p (some X)) O hn).trans ?_).trans hO)
 have:O.filter (fun X=>decide (KH p (some X)∈p.faces))=O:=by
  rw [List.filter_eq_self];intro X hX;rw [E8];rcases h.aeC (X.headD 0) with e | e
  · exact absurd e (hf.some X (hO.subset hX))
  · exact e
 rw [this]
theorem zB {p:Pl} {O:List (List Int)} {f:Int} {r:Rg} (h:r∈pq p O f):r.face=f:=by
 unfold pq at h;obtain ⟨X,hX,rfl⟩:=EM.1 h;exact of_decide_eq_true (QF.1 hX).2
theorem awF {p:Pl} (h:Valid p) (O:List (List Int)):(VA p O).Pairwise (fun a b=>a.face<=b.face):=by
 unfold VA;rw [JC,aA9];refine ⟨fun r hr=>?_,fun f hf=>?_,h.aeB.imp (fun {f g} hfg x hx y hy=>?_)⟩
 ·obtain ⟨f,hf,hr⟩:=GY.1 hr;rw [zB hr];have:=h.akY hf
  show (0:Int)<=f
  omega
 ·rw [Fe];intro i j hi hj _;rw [zB (BH hi),zB (BH hj)];exact L8 _
 ·rw [zB hx,zB hy];omega
theorem awG {p:Pl} (hf:jX p) {a b:Rg} (ha:a∈(Ji p).map (Rh p)) (hb:b∈(Ji p).map (Rh p)) (e:a.face=b.face):a=b:=by
 obtain ⟨x,hx,rfl⟩:=EM.1 ha;obtain ⟨y,hy,rfl⟩:=EM.1 hb;unfold Ji at hx hy;have key:∀ X∈Bj p,∀ Y∈Bj p,KH p (some X)=KH p (some Y)->X=Y:=by
  intro X hX Y hY e;obtain ⟨i,hi,rfl⟩:=Dp.1 hX;obtain ⟨j,hj,rfl⟩:=Dp.1 hY;have hd:=hf.differ;unfold List.Nodup at hd;rw [IL,Fe] at hd;rcases PD i j with hij | hij | hij
  · exact absurd e (hd i j hi hj hij)
  · subst hij;rfl
  · exact absurd e.symm (hd j i hj hi hij)
 rcases EJ.1 hx with rfl | hx<;>rcases EJ.1 hy with rfl | hy
 · rfl
 ·obtain ⟨Y,hY,rfl⟩:=EM.1 hy;exact absurd e.symm (hf.some Y hY)
 ·obtain ⟨X,hX,rfl⟩:=EM.1 hx;exact absurd e (hf.some X hX)
 ·obtain ⟨X,hX,rfl⟩:=EM.1 hx;obtain ⟨Y,hY,rfl⟩:=EM.1 hy;rw [key X hX Y hY e]
theorem awH {p:Pl} (h:Valid p) (hf:jX p) {O:List (List Int)} (hO:O.Perm (Bj p)) {l:List Rg} (hl:l.Perm ((Ji p).map (Rh p))) (hs:l.Pairwise (fun a b=>a.face<=b.face)):l=VA p O:=by
 refine iF (lt:=fun a b=>decide (a.face<b.face)) (hl.trans (awE h hf hO).symm) (hs.imp (fun h=>by simp;omega)) ((awF h O).imp (fun h=>by simp;omega)) (fun a ha b hb h1 h2=>?_);simp only [J3] at h1 h2;exact awG hf (hl.subset ha) (hl.subset hb) AB
theorem aex (v:Value) (p:Pl) (w:World) (h:Cb w v p):Calls Tryz.prog 53 #[v] w fun e w'=>e=.returned (.int .i64 (Eu p))/\AP w w':=by
 have HC:=AA (fun W (hW:AP w W)=>ahK v p W (h.mono hW));have U0:=AA (fun (hv:Ig p=0) W (hW:AP w W)=>(akx v p W (h.mono hW) ((dP p).1 hv)).mono (R':=fun e w'=>(∃ A n c,e=.returned (.tuple #[.slice A n c,.bool (NP p)]))/\AP W w') (by
  rintro e w' ⟨A,n,c,h1,h2,-⟩;exact ⟨⟨A,n,c,h1⟩,h2⟩))
 obtain ⟨vn,va,vf,al,rfl,-⟩:=h;obtain ⟨z,hz⟩:=BL (Ig p);obtain ⟨R,hR⟩:=BL (Eu p);rw [hR];unfold Eu at hR;rw [hz] at HC U0 hR;by_cases h0:z=0
 ·subst h0;rw [AX Aw] at hR;have Kr:=AA hR;clear hR hz;obtain ⟨q,hq⟩:=BL (NP p);rw [hq] at U0 Kr;clear hq;go_enter Tryz.func53,Tryz.ntmps53;go_wp2_with fail;refine (HC.out _ (bA (bR w) _)).mono ?_;rintro e w1 ⟨rfl,hb1⟩;have HB1:=AA (bT (bA (bR w) _) hb1);have X1:AO w1 w.heap.size 26 #[vn,va,vf]:=(AO.made rfl _ _).keep hb1;clear hb1 HC;obtain ⟨Ak,Au,Az,BA,-,-,-⟩:=X1.BF;go_wp2_with fail;refine (U0.out (by trivial) _ HB1.out).mono ?_;rintro e w2 ⟨⟨A,n,c,rfl⟩,hb2⟩;have HB2:=AA (bT HB1.out hb2);clear hb2 U0 HB1 X1 Ak Au Az BA
  cases q
  ·have hr:=Kr.out;rw [AX BG] at hr;have HRq:=AA hr;clear hr Kr;go_wp2;go_ret;exact ⟨by rw [<- HRq.out];rfl,HB2.out⟩
  ·have hr:=Kr.out;rw [AZ rfl] at hr;have HRq:=AA hr;clear hr Kr;go_wp2;go_ret;exact ⟨by rw [<- HRq.out];rfl,HB2.out⟩
 ·rw [AZ h0] at hR;subst hR;have hb:(z != 0)=true:=by simpa using h0
  clear h0 U0 hz;go_enter Tryz.func53,Tryz.ntmps53;go_wp2_with fail;refine (HC.out _ (bA (bR w) _)).mono ?_;rintro e w1 ⟨rfl,hb1⟩;have HB1:=AA (bT (bA (bR w) _) hb1);clear hb1 HC;go_wp2;go_ret;exact ⟨rfl,HB1.out⟩
def Lu (x:AD):Rg:=⟨x.tw,x.out,x.inn.map (·.1),x.CU⟩
theorem FX.rg {p:Pl} {L:List AD} {O:List (List Int)} (h:FX p L O (J8 p) p.nodes) (ht:∀ i (hi:i<L.length),L[i].tw=GI p O i) {i:Nat} (hi:i<L.length):Lu L[i]=Rh p (Lp O i):=by
 have hc:=h.aaj hi;unfold MQ MP Jq at hc;rw [Ez] at hc;injection hc with h1 h2;unfold Lu Rh;rw [ht i hi,h.CU i hi];have h1':L[i].out=(Lp O i).getD []:=h1;rw [h1',h2];rfl
theorem FX.rgs {p:Pl} {L:List AD} {O:List (List Int)} (h:FX p L O (J8 p) p.nodes) (ht:∀ i (hi:i<L.length),L[i].tw=GI p O i):(L.drop 1).map Lu=O.map (fun X=>Rh p (some X)):=by
 have hl:=h.len;apply U6 DC;intro i h1 h2;have h3:i<O.length:=by simpa using h2
 rw [Gq,List.getElem_drop,Gq,h.rg ht AB,Ut AB AB];congr 2;simp only [abg]
def kF (L:List AD) (f:Int):List AD:=L.filter (fun x=>decide (x.tw=f))
theorem FX.sel {p:Pl} {L:List AD} {O:List (List Int)} (h:FX p L O (J8 p) p.nodes) (ht:∀ i (hi:i<L.length),L[i].tw=GI p O i) (f:Int):(kF (L.drop 1) f).map Lu=pq p O f:=by
 unfold kF pq;have e1:((L.drop 1).filter (fun x=>decide (x.tw=f))).map Lu=((L.drop 1).map Lu).filter (fun r=>decide (r.face=f)):=by
  rw [List.filter_map];rfl
 rw [e1,h.rgs ht,List.filter_map];rfl
def ZW (L:List AD) (z:AD) (fs:List Int):List AD:=z::fs.flatMap (fun f=>kF (L.drop 1) f)
theorem FX.ZW {p:Pl} {L:List AD} {O:List (List Int)} (h:FX p L O (J8 p) p.nodes) (ht:∀ i (hi:i<L.length),L[i].tw=GI p O i) (h0:0<L.length):(ZW L L[0] p.faces).map Lu=VA p O:=by
 unfold Go.Proofs.YtialfdomhoojiaaGreat.ZW VA;rw [Ez,h.rg ht h0,rQ];congr 1;congr 1
 funext f
 exact h.sel ht f
def akb (w:World) (p:Pl) (e:Ending) (w':World):Prop :=
 ∃ A c L,e=.returned (.tuple #[.slice A L.length c,.int .i64 0])/\AP w w'/\Nw w' (.slice A L.length c) L/\L.map Lu=VA p (sortK (Bj p))
theorem take_drop_succ {L:List AD} {m:Nat} (h1:1<=m) (hm:m<L.length):(L.take (m+1)).drop 1=(L.take m).drop 1++[L[m]]:=by
 rw [En hm,List.drop_append_of_le_length fZ]
theorem awI (L:List AD) (x:AD) (f:Int):kF (L++[x]) f=kF L f++(if x.tw=f then [x] else []):=by
 unfold kF;rw [rX];by_cases e:x.tw=f<;>simp [e]
theorem awJ (v:Value) (p:Pl) (w:World) (h:Cb w v p) (hv:Eu p≠0):Calls Tryz.prog 18 #[v] w fun e w'=>e=.returned (.tuple #[.slice none 0 0,.int .i64 (Eu p)])/\AP w w':=by
 have HC:=AA (fun W (hW:AP w W)=>aex v p W (h.mono hW));obtain ⟨vn,va,vf,al,rfl,-⟩:=h;generalize Eu p=z at *;have hb:(z != 0)=true:=by simpa using hv
 clear hv;go_enter Tryz.func18,Tryz.ntmps18;go_wp2_with fail;refine (HC.out _ (bA (bR w) _)).mono ?_;rintro e w1 ⟨rfl,hb1⟩;have HB1:=AA (bT (bA (bR w) _) hb1);clear hb1 HC;go_wp2_with fail;go_ret2;exact ⟨rfl,HB1.out⟩
theorem awK (v:Value) (p:Pl) (w:World) (h:Cb w v p) (hv:Eu p=0):Calls Tryz.prog 18 #[v] w (akb w p):=by
 have hvv:Valid p/\NP p=true:=by
  unfold Eu at hv;split at hv
  · rename_i h0;exact absurd hv h0
  ·rename_i h0;split at hv
   · rename_i h1;exact ⟨(dP p).1 gK,h1⟩
   · cases hv
 have HC:=AA (fun W (hW:AP w W)=>aex v p W (h.mono hW));rw [hv] at HC;have U0:=AA (fun W (hW:AP w W)=>akx v p W (h.mono hW) hvv.1);have hff:p.faces.length<=64:=(lu hvv.1.lim).2.2.2.1;have hfb:=hvv.2;have HFb:=AA hfb;have HV:=AA hvv.1;obtain ⟨_,_,_,al,rfl,hpa,⟨An,cn,rfl,-⟩,⟨⟨Aa,ca,rfl,-⟩,-⟩,hF⟩:=h;have HF:=AA hF;obtain ⟨Af,cf,rfl,hf1,hf2,dw⟩:=hF;have Xb:=AA dw;unfold maxLen at hf2;clear hpa dw hv hfb hvv;generalize p.nodes.length=nn at *;generalize al.length=na at *;go_enter Tryz.func18,Tryz.ntmps18;go_wp2_with fail;refine (HC.out _ (bA (bR w) _)).mono ?_;rintro e w1 ⟨rfl,hb1⟩;have HB1:=AA (bT (bA (bR w) _) hb1);have X1:AO w1 w.heap.size 26 #[.slice An nn cn,.slice Aa na ca,.slice Af p.faces.length cf]:=(AO.made rfl _ _).keep hb1;have D9:=AA X1;clear hb1 HC;obtain ⟨Ak,Au,Az,BA,-,-,-⟩:=X1.BF;go_wp2_with fail;refine (U0.out _ HB1.out).mono ?_;rintro e w2 ⟨A,n,c,rfl,hb2,hres⟩;obtain ⟨L,rfl,haw,hdv,htw⟩:=hres HFb.out;have HB2:=AA (bT HB1.out hb2);have CG:=AA (D9.out.keep hb2);have HA:=AA haw;have HD:=AA hdv;have HT:=AA htw;have akz:=AA haw.low;have hll:L.length=(sortK (Bj p)).length+1:=hdv.len;have hol:(sortK (Bj p)).length<=512:=by
  rw [(XM (Bj p)).1.length_eq];exact Dn (LY _ _) HV.out.QY
 have hl0:0<L.length/\L.length<=513:=by omega
 obtain ⟨gL,hgA,alU,-,-,-⟩:=Own.OY HA.out.own AB;subst hgA;have hz2:=HB2.out.size;clear hb2 haw hdv htw X1 Ak Au Az BA D9 HB1 U0 hres hll hol HFb;have HZ0:=AA (Own.kE HA.out.own (k:=0) hl0.1);obtain ⟨z0,hz0⟩:=BL (L[0]);rw [hz0] at HZ0;have HZe:=AA hz0;obtain ⟨awL,-,e0,e1,e2,e3⟩:=HZ0.out;simp only [lN,QC] at e0 e1 e2 e3;obtain ⟨pz,X0,⟨oa,on,oc⟩,I0,⟨ia,FY,ic⟩,a0,⟨aa,an,ac⟩⟩:=z0;unfold BJ at e1 e2 e3;simp only at e0 e1 e2 e3;have kL0:(0:Int)<L.length:=by omega
 have kLn:¬ L=[]:=fun e=>by rw [e] at hl0;exact absurd hl0.1 Aw
 clear HZ0 hz0;go_upto_region 6 with fail;obtain ⟨W3,hW3⟩:∃ W:World,W=w2.alloc (.cells #[.int .i64 pz,.slice oa on oc,.slice ia FY ic,.slice aa an ac] 62):=⟨_,rfl⟩;have EI:=AA (show Own W3 w2.heap.size 62 4 Di (.slice (some ⟨w2.heap.size,0,none⟩) 1 1) [(⟨pz,X0,⟨oa,on,oc⟩,I0,⟨ia,FY,ic⟩,a0,⟨aa,an,ac⟩⟩:AD)] by rw [hW3];exact Own.lit _ _ _ _ _ _ _ _ _ rfl rfl (DT _) (D6 AB) rfl rfl);have HB3:=AA (show AP w2 W3 by rw [hW3];exact bA (bR w2) _);rw [<- hW3];have HZc:=AA (show ZW L ⟨pz,X0,⟨oa,on,oc⟩,I0,⟨ia,FY,ic⟩,a0,⟨aa,an,ac⟩⟩ []=[(⟨pz,X0,⟨oa,on,oc⟩,I0,⟨ia,FY,ic⟩,a0,⟨aa,an,ac⟩⟩:AD)] from rfl);have hzm:(⟨pz,X0,⟨oa,on,oc⟩,I0,⟨ia,FY,ic⟩,a0,⟨aa,an,ac⟩⟩:AD)∈L:=by rw [<- HZe.out];exact BH _
 have HZm:=AA hzm;clear hW3 e0 e1 e2 e3 awL hzm;generalize (⟨pz,X0,⟨oa,on,oc⟩,I0,⟨ia,FY,ic⟩,a0,⟨aa,an,ac⟩⟩:AD)=z0 at *;go_wp2_with fail;go_loopw [7,8] (fun s i wr=>∃ (k:Nat) (Q:List AD),k<=p.faces.length/\i=.int .i64 k/\(∃ A c,s=.slice A Q.length c)/\Own wr w2.heap.size 62 4 Di s Q/\Q=ZW L z0 (p.faces.take k)/\Q.length<=1+600*k/\AP w2 wr) (fun _ i _=>p.faces.length-(intOf i).toNat)
 case atStart => exact ⟨0,[z0],BZ _,rfl,⟨_,_,rfl⟩,EI.out,by rw [OB];exact HZc.out.symm,Aw,HB3.out⟩
 case round =>
  clear EI HB3 HZc;obtain ⟨k,Q,hk,rfl,⟨A,c',rfl⟩,ho,hq,TQ,hb⟩:=hrel;obtain ⟨wo,rfl⟩:=BO wr;have HO:=AA ho;have HB:=AA hb;have HQ:=AA hq;have X1:=CG.out.keep hb;clear ho hb hq
  try clear Ak Au Az BA
  obtain ⟨Ak,Au,Az,BA,-,-,-⟩:=X1.BF;by_cases hlt:k<p.faces.length
  ·have htk:p.faces.take (k+1)=p.faces.take k++[p.faces[k]]:=En hlt;obtain ⟨bf,of_,rfl,awM,cf0⟩:=Xb.out.int hlt;have HCf:=AA cf0;obtain ⟨f,hf⟩:=BL (p.faces[k]);rw [hf] at htk HCf;have Et:=AA htk;have kf1:(k:Int)<p.faces.length:=by omega
   have kf2:0<=(k:Int):=by omega
   clear htk hf cf0;go_upto_block 2 with fail;go_wp2_with fail;go_loopw [7,9] (fun s i wr=>∃ (m:Nat) (Q2:List AD),1<=m/\m<=L.length/\i=.int .i64 m/\(∃ A c,s=.slice A Q2.length c)/\Own wr w2.heap.size 62 4 Di s Q2/\Q2=Q++kF ((L.take m).drop 1) f/\Q2.length<=Q.length+m/\AP w2 wr) (fun _ i _=>L.length-(intOf i).toNat)
   case atStart => exact ⟨1,Q,DT _,hl0.1,rfl,⟨_,_,rfl⟩,HO.out,by
    have:(L.take 1).drop 1=[]:=ab2 fZ
    rw [this];exact (IQ _).symm,AB,HB.out⟩
   case round =>
    clear HO HB X1 Ak Au Az BA;obtain ⟨m,Q2,hm1,hm2,rfl,⟨A,c',rfl⟩,ho,hq2,aya,hb⟩:=hrel;obtain ⟨wq,rfl⟩:=BO wr;have HO:=AA ho;have HB:=AA hb;have Ku:=AA hq2;clear ho hb hq2;by_cases hlm:m<L.length
    ·have htd:=take_drop_succ (L:=L) hm1 hlm;have hsn:=awI ((L.take m).drop 1) L[m] f;obtain ⟨hgl,-,e0,e1,e2,e3⟩:=Own.kE (HA.out.keep HB.out).own hlm;rw [<- htd] at hsn;have hmm:=BH hlm;generalize L[m]=x at *;obtain ⟨tw,X,⟨oa,on,oc⟩,In,⟨ia,FY,ic⟩,al,⟨aa,an,ac⟩⟩:=x;unfold BJ at e1 e2 e3;simp only at e0 e1 e2 e3 hsn;have Un:=AA hsn;have HE0:=AA e0;have pW:=AA e1;have HE2:=AA e2;have HE3:=AA e3;have cf1:=Dv (bT (bT (bT (bR w) HB2.out) (bR w2)) HB.out) HCf.out;have aey:bf<wq.heap.size:=by have:=HB.out.size;omega
     have X1:=CG.out.keep HB.out;have km1:(m:Int)<L.length:=by omega
     have km2:0<=(m:Int):=by omega
     clear hsn htd e1 e2 e3
     try clear Ak Au Az BA
     obtain ⟨Ak,Au,Az,BA,-,-,-⟩:=X1.BF;go_upto_region 12 with fail;refine Cj (wq) (.run 11 0 0 (.done)) fun Bv QR Ae Ah hS=>?_
     iterate 11 refine Aj ?_
     refine Ce ?_;clear hS Ah Ae;intro hB;obtain ⟨W5,GU⟩:∃ W:World,W=wq.drew:=⟨_,rfl⟩;rw [<- GU] at hB ⊢;have CW:=AA (bT HB.out hB);have Fh:=AA (HO.out.keep hB);have e0:=Dv hB HE0.out;have e1:=Dv hB pW.out;have e2:=Dv hB HE2.out;have e3:=Dv hB HE3.out;have Q8:gL<W5.heap.size:=by have:=hB.size;omega
     clear hB GU X1 Ak Au Az BA cf1 aey HB HO HE0 pW HE2 HE3 hgl;by_cases hf:tw=f
     ·subst hf;have hs:=Un.out;rw [AZ rfl] at hs;have aez:=AA hs;have hsh:(Q2++[(⟨tw,X,⟨oa,on,oc⟩,In,⟨ia,FY,ic⟩,al,⟨aa,an,ac⟩⟩:AD)]).length=Q2.length+1:=by simp
      have DL:=AA hsh;clear hs hsh Un;go_wp2_with
       (at_builtin
        refine Ew _ rfl (.tmp 48) (.tmp 53) _ rfl (base:=w2.heap.size) afZ Pz oQ rfl (Own.alloc Fh.out _) rfl (l2:=[(⟨tw,X,⟨oa,on,oc⟩,In,⟨ia,FY,ic⟩,al,⟨aa,an,ac⟩⟩:AD)]) (Sl.lit (n:=1) (AO.made rfl _ _) rfl (D6 AB)) DR DR (by have:=CW.out.size;simp;omega) ?_;intro v6 w6 QU JB kL;obtain ⟨A6,c6,hv6,-⟩:=Own.IE QU;rw [DL.out] at hv6;subst hv6;have ML:=AA QU;have Eb:=AA (bG (bA CW.out _) JB (fun g hg=>(Fh.out.lt g hg).1));clear QU JB kL
        )
      go_roundw
      case rel => exact ⟨m+1,_,AB,AB,BI,⟨A6,c6,by rw [DL.out]⟩,ML.out,by rw [aez.out,<- JR,<- Ku.out],by rw [DL.out];omega,Eb.out⟩
      case measure => exact BK
     ·have hs:=Un.out;rw [AX hf,IQ] at hs;have aez:=AA hs;have hfb:(tw == f)=false:=by simpa using hf
      clear hs hf Un e0 e1 e2 e3;go_wp2;go_roundw
      case rel => exact ⟨m+1,Q2,AB,AB,BI,⟨A,c',rfl⟩,Fh.out,by rw [aez.out];exact Ku.out,AB,CW.out⟩
      case measure => exact BK
    ·obtain rfl:m=L.length:=by omega
     have hq:=Ku.out;rw [H8,HQ.out] at hq;have HQf:=AA (show Q2=ZW L z0 (p.faces.take (k+1)) from by
      rw [hq,Et.out];unfold ZW;rw [KO,aao];simp)
     clear hq;go_wp2;go_roundw
     case rel => exact ⟨k+1,Q2,AB,BI,⟨A,c',rfl⟩,HO.out,HQf.out,AB,HB.out⟩
     case measure => exact BK
  ·have hkk:p.faces.take k=p.faces:=Hw AB;have hq:=HQ.out;rw [hkk] at hq;have hmap:=HD.out.ZW HT.out hl0.1;rw [HZe.out,<- hq] at hmap;have aa3:=AA hmap;have NI:=AA (show ∀ x∈Q,x∈L from fun x hx=>by
    rw [hq] at hx;unfold ZW at hx;rcases EJ.1 hx with rfl | hx
    · exact HZm.out
    ·obtain ⟨f,-,hx⟩:=GY.1 hx;exact List.mem_of_mem_drop (QF.1 hx).1)
   have Us:=AA (HA.out.keep HB.out).full;clear hq hmap hkk;go_wp2_with fail;go_ret2;exact ⟨A,c',Q,rfl,bT HB2.out HB.out,⟨HO.out.sl,fun x hx=>Us.out.out x (NI.out x hx),fun x hx=>Us.out.inn x (NI.out x hx),fun x hx=>Us.out.Gi x (NI.out x hx),fun x hx=>Us.out.CU x (NI.out x hx)⟩,aa3.out⟩
open Go.RowKit Go.Sort
theorem qA {p:Pl} (hv:Eu p=0):Valid p/\NP p=true:=by
 unfold Eu at hv;split at hv
 · rename_i h0;exact absurd hv h0
 ·rename_i h0;split at hv
  · rename_i h1;exact ⟨(dP p).1 gK,h1⟩
  · cases hv
theorem af0 (v:Value) (p:Pl) (w:World) (h:Cb w v p) (hv:Eu p≠0):Calls Tryz.prog 49 #[v] w (aev w (Eu p)):=by
 by_cases h0:Ig p=0
 ·have hr:Eu p=if NP p=true then 0 else 12:=by unfold Eu;rw [AX gK]
  have hf:¬ NP p=true:=fun e=>hv (by rw [hr,AZ e]);rw [hr,AX hf];refine (aew v p w h ((dP p).1 h0)).mono fun e w' g=>?_;rw [AX hf] at g;exact g
 ·have hr:Eu p=Ig p:=by unfold Eu;rw [AZ h0]
  rw [hr];exact al5 v p w h h0
theorem aa4 (v:Value) (p:Pl) (w:World) (h:Cb w v p) (hv:Eu p=0):Calls Tryz.prog 49 #[v] w (al4 w p):=by
 obtain ⟨h1,h2⟩:=qA hv;refine (aew v p w h h1).mono fun e w' g=>?_;rw [AZ h2] at g;exact g
theorem awN (v:Value) (p:Pl) (w:World) (h:Cb w v p) (hv:Eu p≠0):Calls Tryz.prog 17 #[v] w fun e w'=>e=.returned (.tuple #[.slice none 0 0,.int .i64 (Eu p)])/\AP w w':=by
 have HC:=AA (fun W (hW:AP w W)=>af0 v p W (h.mono hW) hv);obtain ⟨vn,va,vf,al,rfl,-⟩:=h;generalize Eu p=z at *;have hb:(z != 0)=true:=by simpa using hv
 clear hv;go_enter Tryz.func17,Tryz.ntmps17;go_wp2_with fail;refine (HC.out _ (bA (bR w) _)).mono ?_;rintro e w1 ⟨rfl,hb1⟩;have HB1:=AA (bT (bA (bR w) _) hb1);clear hb1 HC;go_wp2_with fail;go_ret2;exact ⟨rfl,HB1.out⟩
theorem awO {p:Pl} {L:List AD} {O:List (List Int)} (h:FX p L O (J8 p) p.nodes):(Jk p O L L.length).map Lu=(none::O.map some).map (Rh p):=by
 have hd:=akw h L.length;have ht:∀ i (hi:i<(Jk p O L L.length).length),(Jk p O L L.length)[i].tw=GI p O i:=fun i hi=>by
  have hil:i<L.length:=by rw [NU] at hi;exact hi
  rw [Qd hi hil,AZ hil]
 have hl:=hd.len;apply U6 (by simp [hl]);intro i h1 h2;have h3:i<(Jk p O L L.length).length:=by simpa using h1
 rw [Gq,hd.rg ht h3,Gq];congr 1;by_cases e:i=0
 · subst e;rfl
 ·obtain ⟨j,rfl⟩:∃ j,i=j+1:=⟨i-1,AB⟩;rw [Ut AB AB];simp
theorem akc (v:Value) (p:Pl) (w:World) (h:Cb w v p) (hv:Eu p=0):Calls Tryz.prog 17 #[v] w (akb w p):=by
 obtain ⟨hvv,hfb⟩:=qA hv;have HV:=AA hvv;have HFk:=AA (aeF.1 hfb);have HC:=AA (fun W (hW:AP w W)=>aa4 v p W (h.mono hW) hv);have PZ:=AA (@auA);have hol:(Bj p).length<=512:=Dn (LY _ _) hvv.QY;obtain ⟨vn,va,vf,al,rfl,-⟩:=h;clear hv hfb hvv;go_enter Tryz.func17,Tryz.ntmps17;go_wp2_with fail;refine (HC.out _ (bA (bR w) _)).mono ?_;rintro e w1 ⟨A,c,L,A',c',gm,f,rfl,hb1,P6,hfi,hdv,-,-,-,-⟩;have HB1:=AA (bT (bA (bR w) _) hb1);have HA:=AA P6;have HD:=AA hdv;have hll:L.length=(Bj p).length+1:=hdv.len;have hl1:L.length<=513:=by omega
 have hfl:=U1 p (Bj p) L.length;obtain ⟨Al,cl,hel,hl2,hl3,hRl⟩:=P6.sl;injection hel with y1 y2 y3;subst y1 y3;clear y2;unfold Ints at hfi;rw [hfl] at hfi;obtain ⟨Af,cf,hef,hf2,hf3,dw⟩:=hfi;injection hef with y1 y2 y3;subst y1 y3;clear y2;unfold maxLen at hl3 hf3;have HRl:=AA hRl;have Xb:=AA dw;have JG:=AA hll;have af4:=NU p (Bj p) L L.length;obtain ⟨F,hF⟩:=BL (Jk p (Bj p) L L.length);have kH:=AA hF;rw [hF] at af4;have dZ:=AA af4;clear hb1 P6 hdv hRl dw HC hF hfl hll af4;go_upto_block 0 with fail;go_wp2_with fail;go_loopw [2,21] (fun s i wr=>∃ k:Nat,k<=L.length/\i=.int .i64 k/\(∃ A c,s=.slice A k c)/\Own wr w1.heap.size 62 4 Di s (F.take k)/\AP w1 wr) (fun _ i _=>L.length-(intOf i).toNat)
 case atStart => exact ⟨0,BZ _,rfl,⟨_,_,rfl⟩,by rw [OB];exact Own.nil _ _ _ _ _,bR w1⟩
 case round =>
  obtain ⟨k,hk,rfl,⟨A5,c5,rfl⟩,ho,hb⟩:=hrel;obtain ⟨wo,rfl⟩:=BO wr;have HO:=AA ho;have HB:=AA hb;have aBA:=hb.size;clear ho hb;by_cases hlt:k<L.length
  ·obtain ⟨b,o,rfl,hlb,c0,c1,c2,c3⟩:=(HRl.out.mono HB.out).ad hlt;have hfk:k<(Nz p (Bj p) L.length).length:=by rw [U1];exact hlt
   obtain ⟨bf,of_,rfl,awM,f0⟩:=(Xb.out.mono HB.out).int hfk;have hkF:k<F.length:=by rw [dZ.out];exact hlt
   have htk:F.take (k+1)=F.take k++[F[k]]:=En hkF;have hfv:(Nz p (Bj p) L.length)[k]=GI p (Bj p) k:=by simp only [Nz,Gq,List.getElem_range]
   have hFk:F[k] = {L[k] with tw:=GI p (Bj p) k}:=by
    have:=Qd (p:=p) (O:=Bj p) (L:=L) (k:=L.length) (i:=k) (by rw [NU];exact hlt) hlt
    rw [AZ hlt] at this;rw [<- this];congr 1;exact kH.out.symm
   rw [hfv] at f0;rw [hFk] at htk;generalize GI p (Bj p) k=fc at *;generalize L[k]=x at *;obtain ⟨tw,X,⟨oa,on,oc⟩,In,⟨ia,FY,ic⟩,al',⟨aa,an,ac⟩⟩:=x;unfold BJ at c1 c2 c3;simp only at c0 c1 c2 c3 htk;have Et:=AA htk;have HF0:=AA f0;clear htk hFk hfv;go_upto_region 7 with fail;obtain ⟨W2,hW⟩:∃ W:World,W=wo.alloc (.cells #[.int .i64 tw,.slice oa on oc,.slice ia FY ic,.slice aa an ac] 82):=⟨_,rfl⟩;have hA:AP wo W2:=by rw [hW];exact bA (bR wo) _
   obtain ⟨g8,Nv⟩:=BL wo.heap.size;have X5:AO W2 g8 82 #[.int .i64 tw,.slice oa on oc,.slice ia FY ic,.slice aa an ac]:=by rw [hW];exact AO.made Nv.symm _ _
   have HB2:=AA (bT HB.out hA);have EU:=AA (HO.out.keep hA);replace f0:=Dv hA f0;have n1:some g8≠(Value.slice A5 k c5).ownBlock:=fun e=>by have:=(HO.out.lt _ e.symm).2;omega
   have n2:some bf≠(Value.slice A5 k c5).ownBlock:=fun e=>by
    have:=(HO.out.lt _ e.symm).1
    have:bf<w1.heap.size:=by
     obtain ⟨b9,o9,e9,h9,-⟩:=Xb.out.int hfk;injection e9 with e9;injection e9 with e9 _ _;omega
    omega
   have hzW:wo.heap.size<=W2.heap.size:=hA.size;have aey:bf<W2.heap.size:=by omega
   have awP:w1.heap.size<=W2.heap.size:=by omega
   rw [<- hW]
   try rw [Nv]
   clear hW hA c0 c1 c2 c3 hlb HO HB;have hkl2:(F.take k).length=k:=by rw [Ie];omega
   have hsh:(F.take k++[(⟨fc,X,⟨oa,on,oc⟩,In,⟨ia,FY,ic⟩,al',⟨aa,an,ac⟩⟩:AD)]).length=k+1:=by rw [EC,hkl2];rfl
   have DL:=AA hsh;have ayb:(F.take k).length<=513:=by omega
   have kf1:(k:Int)<L.length:=by omega
   have kf2:0<=(k:Int):=by omega
   clear hsh hkl2;obtain ⟨CJ,CO,CS,G6,UF,-,-,-,-⟩:=X5.MC;refine Vp (W2) ((Value.slice A5 k c5).ownBlock) (.run 12 0 0 (.call 12 8191 (.call 13 16383 (.take 14 32767 (.done))))) fun Bv QR Ae Ah hS=>?_
   iterate 12 refine Aj ?_
   refine BP ?_;clear hS;intro K hK AQ;go_simp;refine hK.out _ _ (gA AQ.out _) (fun hS=>?_);clear hK K AQ
   try simp only [pu]
   refine BP ?_;clear hS;intro K hK AQ;refine IZ (.tmp 26) (.tmp 38) _ rfl (base:=w1.heap.size) afZ Pz oQ rfl ((EU.out.keep (bD (bR W2))).alloc _) rfl (l2:=[(⟨fc,X,⟨oa,on,oc⟩,In,⟨ia,FY,ic⟩,al',⟨aa,an,ac⟩⟩:AD)]) (Sl.lit (n:=1) (AO.made rfl _ _) rfl (D6 AB)) DR DR DC ?_;intro v3 wr3 ho3 hg hat;obtain ⟨A6,c6,hv6,-⟩:=Own.IE ho3;rw [DL.out] at hv6;subst hv6;have hS:JI W2 (Value.slice A5 k c5).ownBlock wr3:=gT AQ.out hg;clear AQ;refine hK.out _ _ hS (fun _=>?_);clear hK K
   try simp only [pu]
   refine Aj ?_;refine Ry ?_;clear hS Ah Ae;intro hB;have EI:=AA ho3;have HB3:=AA (ag7 HB2.out awP hB (fun g hg=>(EU.out.lt g hg).1));clear ho3 hg hat hB f0 X5 CJ CO CS G6 UF n1 n2 aey;go_wp2;go_roundw
   case rel => exact ⟨k+1,AB,BI,⟨A6,c6,rfl⟩,by rw [Et.out];exact EI.out,HB3.out⟩
   case measure => exact BK
  ·obtain rfl:k=L.length:=by omega
   have hFt:F.take L.length=F:=Hw (by rw [dZ.out];omega);have hoF:=HO.out;rw [hFt] at hoF;have HOF:=AA hoF;clear hoF hFt HO;go_wp2_with fail;refine (PZ.out w1.heap.size _ F wo HOF.out (by rw [dZ.out];omega)).mono ?_;rintro e w5 ⟨rfl,M,hp,hs,DY,hg5⟩;have CW:=AA (bG HB.out hg5 (fun g hg=>(HOF.out.lt g hg).1));have hml:M.length=L.length:=by rw [hp.length_eq,dZ.out]
   have HP:=AA hp;have Fh:=AA DY;have HMl:=AA hml;have HS:=AA (show M.Pairwise (fun a b=>a.tw<=b.tw) from hs.imp (fun {a b} g=>by
    have g':ltOf (fun x y:AD=>KC x.tw y.tw) b a=false:=g;rw [nG (fun x:AD=>x.tw),J3] at g';omega))
   have af5:=AA (show M.map Lu=VA p (sortK (Bj p)) from by
    refine awH HV.out HFk.out (XM (Bj p)).1 ?_ ?_
    ·refine (HP.out.map Lu).trans ?_;rw [<- kH.out,awO HD.out];exact List.Perm.refl _
    ·rw [IL];exact HS.out)
   have NI:=AA (show ∀ x∈M,∃ y∈L,∃ t,x = {y with tw:=t} from fun x hx=>by
    have h9:=HP.out.subset hx;rw [<- kH.out] at h9;exact akv h9)
   have Hu:=AA (HA.out.mono CW.out);have hsl:=DY.sl;rw [hml] at hsl;have QB:=AA hsl;clear hp hs DY hg5 hml hsl;go_wp2_with fail;go_ret2;refine ⟨A5,c5,M,by rw [HMl.out];rfl,bT HB1.out CW.out,⟨by rw [HMl.out];exact QB.out,fun x hx=>?_,fun x hx=>?_,fun x hx=>?_,fun x hx=>?_⟩,af5.out⟩
   · obtain ⟨y,hy,t,rfl⟩:=NI.out x hx;exact Hu.out.out y hy
   · obtain ⟨y,hy,t,rfl⟩:=NI.out x hx;exact Hu.out.inn y hy
   · obtain ⟨y,hy,t,rfl⟩:=NI.out x hx;exact Hu.out.Gi y hy
   · obtain ⟨y,hy,t,rfl⟩:=NI.out x hx;exact Hu.out.CU y hy
