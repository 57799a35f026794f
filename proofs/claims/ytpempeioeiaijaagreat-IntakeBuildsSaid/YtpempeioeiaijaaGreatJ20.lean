import Derived.Test.YtpempeioeiaijaaGreatJ18
import Derived.Test.YtpempeioeiaijaaGreatLawWc
set_option linter.unusedSimpArgs false
set_option linter.unusedVariables false
set_option maxRecDepth 100000
set_option maxHeartbeats 8000000
namespace Go.Proofs.YtpempeioeiaijaaGreat
open Go.RowKit Tryz
theorem afF {P:Program} {fn:Func} {p q r s:Tmp} (h:fn.results=#[.tmp p,.tmp q,.tmp r,.tmp s]) (a:Array Value) (w:World) :
  (results fn a).run P w=.ok (.tuple #[a.getD p undef,a.getD q undef,a.getD r undef,a.getD s undef]) w:=by
 simp only [results,h];simp [Sem.run_bind,Sem.run_pure,Result.andThen]
def aw1 (w:World) (p:Pl) (e:Ending) (w':World):Prop :=
 ∃ A c L A' c' gm f,e=.returned (.tuple #[.slice A L.length c,.slice A' L.length c',.map (some gm),.int .i64 0])/\AU w w'/\pX w' (.slice A L.length c) L/\Ints w' (.slice A' L.length c') (Wh p (Ci p) L.length) /\
  Ie p L (Ci p) (Nl p) p.nodes/\Qp p L/\YX w' gm p f/\w.heap.size<=gm/\(∀ x∈L,Own w' w.heap.size 32 1 J5 (BF x.iv) x.inn/\Own w' w.heap.size 3 1 DY (BF x.av) x.EP)
def ale (w:World) (z:Int) (e:Ending) (w':World):Prop:=e=.returned (.tuple #[.slice none 0 0,.slice none 0 0,.map none,.int .i64 z])/\AU w w'
theorem aw2 (v:Value) (p:Pl) (w:World) (h:D6 w v p) (hv:Gn p≠0):Calls prog 45 #[v] w (ale w (Gn p)):=by
 have Fe:=AB (fun W (hW:AU w W)=>ald v p W (h.mono hW) hv);obtain ⟨vn,va,vf,al,rfl,-⟩:=h;generalize Gn p=z at *;have he:(z != 0)=true:=by simpa using hv
 clear hv;go_enter func45,ntmps45;go_wp2_with fail;refine (Fe.1 _ (bA (bR w) _)).mono ?_;rintro e w1 ⟨Ac,cc,cl,rfl,hb1,-⟩;have B1:=AB (bT (bA (bR w) _) hb1);clear hb1 Fe;go_wp2_with fail;exact bodyPost_ret (afF rfl _ _) rfl ⟨rfl,B1.1⟩
theorem aw3 (v:Value) (p:Pl) (w:World) (h:D6 w v p) (hv:Valid p):Calls prog 45 #[v] w fun e w'=>if VU p=true then aw1 w p e w' else ale w 12 e w':=by
 obtain ⟨Fe,OJ,QK,abH⟩:=DW (fun W (hW:AU w W)=>am7 v p W (h.mono hW) hv) (fun W (hW:AU w W)=>ajJ v p W (h.mono hW) hv) (fun vc CL gm f W (hW:AU w W) hc hcl hpm=>am4 v vc p CL gm f W (h.mono hW) hv hc hcl hpm) (fun vl L W (hW:AU w W) hl hd=>aub v vl p L (Ci p) p.nodes W (h.mono hW) hv hl hd (List.Perm.refl _));obtain ⟨_,_,_,al,rfl,hpa,⟨An,cn,rfl,-⟩,⟨⟨Aa,ca,rfl,-⟩,-⟩,⟨Af,cf,rfl,-⟩⟩:=h;generalize hnn:p.nodes.length=nn at *;generalize al.length=na at *;generalize hnf:p.faces.length=nf at *;obtain ⟨q,hq⟩:=BI (VU p);rw [hq];have HQ:=AB hq;clear hpa hv hnn hnf hq;go_enter func45,ntmps45;go_wp2_with fail;refine (Fe.1 _ (bA (bR w) _)).mono ?_;rintro e w1 ⟨Ac,cc,CL,rfl,hb1,hcl,hco⟩;have hcr:=hco.read;have hle:(Cb p).length=CL.length:=by rw [<- hcl,CV]
 rw [hle] at hcr ⊢;have ML:=AB hcl;have Rk:=AB hcr;have X1:AO w1 w.heap.size 34 #[.slice An nn cn,.slice Aa na ca,.slice Af nf cf]:=(AO.made rfl _ _).keep hb1;have B1:=AB (bT (bA (bR w) _) hb1);have Dt:=AB X1;clear hb1 Fe hcl hco hcr hle;obtain ⟨BJ,BK,BL,BQ,-⟩:=X1.Az;go_wp2_with fail;refine (OJ.1 _ B1.1).mono ?_;rintro e w2 ⟨gm,f,rfl,hb2,hgm,hpm⟩;obtain ⟨B2,DC,alf,Po⟩:=DW (bT B1.1 hb2) (Dt.1.keep hb2) (Rk.1.mono hb2) hpm;have hgw:w.heap.size<=gm:=EG B1.1.size hgm;clear hb2 hpm Dt Rk X1 BJ BK BL BQ OJ B1 hgm;have X1:=DC.1
 try clear BJ BK BL BQ
 obtain ⟨BJ,BK,BL,BQ,-⟩:=X1.Az;go_wp2_with fail;refine (QK.1 _ CL gm f _ B2.1 alf.1 ML.1 Po.1).mono ?_;rintro e w3 ⟨A,c,L,rfl,hb3,had,hdv,htw⟩;obtain ⟨B3,EY,alg,HA,HD,HT⟩:=Jz (bT B2.1 hb3) (DC.1.keep hb3) (Po.1.keep hb3) (had.full hb3) hdv htw;have hz2:=B2.1.size;have HOw:=AB (show ∀ x∈L,Own w3 w.heap.size 32 1 J5 (BF x.iv) x.inn/\Own w3 w.heap.size 3 1 DY (BF x.av) x.EP from fun x hx=>⟨(had.inn x hx).EM hz2,(had.EP x hx).EM hz2⟩);have HLn:=AB (show (Ci p).length+1=L.length from hdv.len.symm);clear hb3 had hdv htw DC alf Po X1 BJ BK BL BQ QK B2 hz2;have X1:=EY.1
 try clear BJ BK BL BQ
 obtain ⟨BJ,BK,BL,BQ,-⟩:=X1.Az;go_wp2_with fail;refine (abH.1 _ L _ B3.1 HA.1 HD.1).mono ?_;rintro e w4 ⟨A',n',c',rfl,hb4,hof⟩;rw [HQ.1] at hof ⊢;obtain ⟨B4,aw4,Io,Rf,aw5⟩:=I4 (bT B3.1 hb4) (alg.1.keep hb4) (HA.1.mono hb4) hof (show ∀ x∈L,Own w4 w.heap.size 32 1 J5 (BF x.iv) x.inn/\Own w4 w.heap.size 3 1 DY (BF x.av) x.EP from fun x hx=>⟨(HOw.1 x hx).1.keep hb4,(HOw.1 x hx).2.keep hb4⟩);clear hb4 hof X1 BJ BK BL BQ abH HA alg EY B3 HOw
 cases q
 case false =>
  go_wp2_with fail;exact bodyPost_ret (afF rfl _ _) rfl (by (try rw [AX Aw]);exact ⟨rfl,B4.1⟩)
 case true =>
  have ho:=Rf.1 rfl;rw [HLn.1] at ho;have hnl:n'=L.length:=by
   obtain ⟨A9,c9,h9,-⟩:=Own.GU ho;rw [xg] at h9;injection h9
  subst hnl;have HO:=AB ho;clear ho;go_wp2_with fail;refine bodyPost_ret (afF rfl _ _) rfl ?_
  try rw [AZ rfl]
  refine ⟨A,c,L,A',c',gm,f,rfl,B4.1,Io.1,?_,HD.1,HT.1,aw4.1,hgw,aw5.1⟩;have:=HO.1.sl
  rw [xg] at this;unfold Ints;rw [xg];exact this
def YS (p:Pl):Int:=if Gn p≠0 then Gn p else if VU p=true then 0 else 12
theorem aw6 (v:Value) (p:Pl) (w:World) (h:D6 w v p):Calls prog 21 #[v] w fun e w'=>e=.returned (.int .i64 (YS p))/\AU w w':=by
 have HR:=AB (show ∀ W,AU w W->Calls prog 45 #[v] W fun e w'=>(∃ A B C,e=.returned (.tuple #[A,B,C,.int .i64 (YS p)]))/\AU W w' from fun W hW=>by
  by_cases hv:Gn p=0
  ·refine (aw3 v p W (h.mono hW) ((fH p).1 hv)).mono ?_;intro e w' he;unfold YS;rw [AX (by simpa using hv)];by_cases hf:VU p=true
   ·rw [AZ hf] at he ⊢;obtain ⟨A,c,L,A',c',gm,f,rfl,hb,-⟩:=he;exact ⟨⟨_,_,_,rfl⟩,hb⟩
   ·rw [AX hf] at he ⊢;exact ⟨⟨_,_,_,he.1⟩,he.2⟩
  ·refine (aw2 v p W (h.mono hW) hv).mono ?_;rintro e w' ⟨rfl,hb⟩;unfold YS;rw [AZ hv];exact ⟨⟨_,_,_,rfl⟩,hb⟩)
 obtain ⟨vn,va,vf,al,rfl,-⟩:=h;generalize YS p=z at *;go_enter func21,ntmps21;go_wp2_with fail;refine (HR.1 _ (bA (bR w) _)).mono ?_;rintro e w1 ⟨⟨A,B,C,rfl⟩,hb1⟩;have B1:=AB (bT (bA (bR w) _) hb1);clear hb1 HR;go_wp2;go_ret;exact ⟨rfl,B1.1⟩
