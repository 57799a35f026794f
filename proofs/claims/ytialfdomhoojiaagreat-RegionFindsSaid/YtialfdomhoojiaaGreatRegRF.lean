import Derived.Test.YtialfdomhoojiaaGreatJ25
set_option linter.unusedSimpArgs false
set_option linter.unusedVariables false
set_option maxRecDepth 100000
set_option maxHeartbeats 8000000
namespace Go.Proofs.YtialfdomhoojiaaGreat
open Go.RowKit
theorem afZ:Elem Tryz.prog 29 62 4 80:=Elem.Po (z:=.agg #[.int .i64 0,.slice none 0 0,.slice none 0 0,.slice none 0 0]) FC FC rfl AB
structure LQ (w:World) (B:Nat) (v:Value) (L:List AD):Prop where
 own:Own w B 62 4 Di v L
 out:∀ x∈L,Own w B 3 1 D5 (BJ x.ov) x.out
 inn:∀ x∈L,Own w B 24 1 Ib (BJ x.iv) x.inn
 Gi:∀ x∈L,∀ c∈x.inn,Own w B 3 1 D5 (BJ c.2) c.1
 CU:∀ x∈L,Own w B 3 1 D5 (BJ x.av) x.CU
theorem LQ.keep {w w':World} {B:Nat} {v:Value} {L:List AD} (h:LQ w B v L) (hb:AP w w'):LQ w' B v L :=
 ⟨h.own.keep hb,fun x hx=>(h.out x hx).keep hb,fun x hx=>(h.inn x hx).keep hb,fun x hx c hc=>(h.Gi x hx c hc).keep hb,fun x hx=>(h.CU x hx).keep hb⟩
theorem LQ.full {w:World} {B:Nat} {v:Value} {L:List AD} (h:LQ w B v L):Nw w v L :=
 ⟨h.own.sl,fun x hx=>(h.out x hx).sl,fun x hx=>(h.inn x hx).sl,fun x hx c hc=>(h.Gi x hx c hc).sl,fun x hx=>(h.CU x hx).sl⟩
def aul (w:World) (p:Pl) (e:Ending) (w':World):Prop :=
 ∃ A c L,e=.returned (.slice A L.length c)/\AP w w'/\LQ w' w.heap.size (.slice A L.length c) L/\FX p L (sortK (Bj p)) (J8 p) p.nodes/\∀ x∈L,x.tw=0
theorem YD.first {w:World} {P:List Pt} {e:Ending} {w':World} (h:YD w P e w') (hP:0<P.length):∃ b o c,e=.returned (.slice (some ⟨b,o,none⟩) P.length c)/\AP w w'/\w'.cell? ⟨b,o,none⟩=some (.int .i64 (P.getD 0 AY).x)/\w'.cell? ⟨b,o+1,none⟩=some (.int .i64 (P.getD 0 AY).y)/\b<w'.heap.size:=by
 obtain ⟨A,c,rfl,hb,ho⟩:=h;obtain ⟨b,o,rfl,hlb,c0,c1⟩:=(ho.row_of).pt hP;simp only [lN,VJ] at c0 c1;have e:P.getD 0 AY=P[0]:=by simp only [Fj,DK hP,Gp]
 rw [e];exact ⟨b,o,c,rfl,hb,c0,c1,hlb⟩
theorem Own.ZQ {α:Type} {w:World} {base:Nat} {e:TypeId} {size:Nat} {f:α->List Value} {v:Value} {l:List α} (h:Own w base e size f v l) {B':Nat} {e':TypeId} {s':Nat} {β:Type} {f':β->List Value} {g n c:Nat} {l':List β} (h':Own w B' e' s' f' (.slice (some ⟨g,0,none⟩) n c) l') (hne:e≠e') (j:Nat) (u:Value):Own (w.setCell ⟨g,j,none⟩ u) base e size f v l :=
 Own.far h (fun e8=>Own.apart h h' hne g e8 rfl) u
theorem jy {w0 w1 w2:World} {row r:Option Nat} (h:w0.grownBy w1 row) (k:w1.grownBy w2 r) (hr:∀ g,r=some g->w0.heap.size<=g):w0.grownBy w2 row :=
 ⟨k.os.trans h.os,k.tape.trans h.tape,k.output.trans h.output,Dn h.size k.size,fun i hi hne=>by
  rw [k.block i (L9 hi h.size) (fun e=>by have:=hr i e.symm;omega)];exact h.block i hi hne⟩
theorem qp {n m:Nat} {v v':Value} (hat:v'.ownBlock=v.ownBlock\/v'.ownBlock=some m) (h1:∀ q,v.ownBlock=some q->n<=q) (h2:n<=m):∀ q,v'.ownBlock=some q->n<=q:=fun q hq=>by
 rcases hat with h | h
 · exact h1 q (h.symm.trans hq)
 ·rw [hq] at h;have:=Dc h
  omega
theorem Valid.aum {p:Pl} (h:Valid p) {c:List Int} (hc:c∈CX p):Bg ((Ky p (c.headD 0)).getD 0 AY)=true/\I4 p ((Ky p (c.headD 0)).getD 0 AY)=I4 p (TB p c):=by
 have hne:=h.Wh hc;have hd:c.headD 0∈BU p:=(h.Gy hc).2 _ (by
  cases c with
  | nil=>exact absurd rfl hne
  | cons a c=>exact Ea)
 obtain ⟨a,ha,-,hpt⟩:=h.Tq hd;have hl:=Eh p a;unfold TB Ky;rw [hpt];split
 · exact ⟨h.DW ha AB,rfl⟩
 ·rw [afE AB];exact ⟨h.DW ha AB,h.aqd ha ha rfl AB AB⟩
theorem aun (v:Value) (p:Pl) (w:World) (h:Cb w v p) (hv:Valid p):Calls Tryz.prog 66 #[v] w (aul w p):=by
 have qw:=AA (fun W (hW:AP w W)=>alS v p W (h.mono hW) hv);have Gm:=AA (fun W (hW:AP w W)=>alO v p W (h.mono hW) hv);have Tc:=AA (fun u l (hl:l∈CX p) W (hu:Ints W u l) (hW:AP w W)=>show Calls Tryz.prog 132 #[v,u] W fun e w'=>e=.returned (.int .i64 (F8 p l))/\AP W w' from by
  have t:=adi v u p l W (h.mono hW) hu hv (fun d hd=>by have:=hv.Qo ((hv.Gy hl).2 d hd);exact KU AB AB);rw [hv.aCt hl] at t;exact t)
 have LH:=AA (fun d (hd:d∈BU p) W (hW:AP w W)=>(afH v p d W (h.mono hW) hv hd).mono fun e w' hr=>hr.first (by have:=hv.afI hd;omega));have ael:=fun vl CL at_ W (hW:AP w W) hC hcl nv=>alH v vl p CL (sortK (Bj p)) at_ W (h.mono hW) hv hC hcl (XM (Bj p)).1 nv;unfold BD at ael;have Il:=AA ael;have dM:=AA (fun id W (hW:AP w W)=>aoQ v p id W (h.mono hW) (by have:=hv.lim;unfold JX at this;simp only [Rq,J3] at this;omega));have HV:=AA hv;have hcn:=hv.QY;have hnl:=hv.bW;have II:=AA ((XM (Bj p)).1.nodup_iff.2 hv.aeD);have hol:(sortK (Bj p)).length<=512:=by
  rw [(XM (Bj p)).1.length_eq];exact Dn (LY _ _) hv.QY
 obtain ⟨_,_,_,al,rfl,hpa,⟨An,cn,rfl,hn1,hn2,hR⟩,⟨⟨Aa,ca,rfl,-⟩,-⟩,⟨Af,cf,rfl,-⟩⟩:=h;unfold maxLen at hn2;have HRn:=AA hR;clear hpa hv ael hR;generalize al.length=na at *;generalize p.faces.length=nf at *;obtain ⟨O,hO⟩:=BL (sortK (Bj p));have ZR:=AA hO;rw [hO] at II hol Il;clear hO;go_enter Tryz.func66,Tryz.ntmps66;go_wp2_with fail;refine (qw.out _ (bA (bR w) _)).mono ?_;rintro e w1 ⟨Ao,co,OL,rfl,hb1,qx,XY⟩;rw [ZR.out] at XY;have hle:OL.length=O.length:=by rw [<- XY,Cm]
 have aem:OL.length<=512:=by omega
 have X1:AO w1 w.heap.size 26 #[.slice An p.nodes.length cn,.slice Aa na ca,.slice Af nf cf]:=(AO.made rfl _ _).keep hb1;have HB1:=AA (bT (bA (bR w) _) hb1);have D9:=AA X1;have TI:=AA (show TY w1 w.heap.size (.slice Ao OL.length co) OL from ⟨qx.1.Du Aw,fun x hx=>(qx.2 x hx).Du Aw⟩);have RX:=AA XY;have aA4:=AA hle;clear hb1 qw qx XY hle X1;go_upto_region 3 with fail;obtain ⟨W2,hW⟩:∃ W:World,W=w1.alloc (.cells #[.int .i64 0,.slice none 0 0,.slice none 0 0,.slice none 0 0] 62):=⟨_,rfl⟩;have EU:=AA (show Own W2 w1.heap.size 62 4 Di (.slice (some ⟨w1.heap.size,0,none⟩) 1 1) [ad0] by rw [hW];exact Own.lit _ _ _ _ _ _ _ _ _ rfl rfl (DT _) (D6 AB) rfl rfl);have HB2:=AA (show AP w1 W2 by rw [hW];exact bA (bR w1) _);rw [<- hW];clear hW;have HA2:=AA (show GH 62 w1 W2 w1.heap.size (.slice (some ⟨w1.heap.size,0,none⟩) 1 1) [ad0] from ⟨EU.out,(fun x hx=>by rw [ED] at hx;subst hx;exact Sl.nil _),(fun x hx=>by rw [ED] at hx;subst hx;exact Own.nil _ _ _ _ _),(fun x hx=>by rw [ED] at hx;subst hx;intro c hc;cases hc),(fun x hx=>by rw [ED] at hx;subst hx;exact Own.nil _ _ _ _ _),sQ _ _,sQ _ _⟩);clear EU;go_wp2_with fail;go_loopw [4,5] (fun s i wr=>∃ (k:Nat) (L:List AD),k<=OL.length/\i=.int .i64 k/\(∃ A c,s=.slice A L.length c)/\GH 62 w1 wr w1.heap.size s L/\FX p L (O.take k) [] []/\(∀ x∈L,x.iv=sv0/\x.av=sv0/\x.inn=[]/\x.tw=0/\Own w1 w.heap.size 3 1 D5 (BJ x.ov) x.out)/\L.length=k+1/\AP w1 wr) (fun _ i _=>OL.length-(intOf i).toNat)
 case atStart => exact ⟨0,[ad0],BZ _,rfl,⟨_,_,rfl⟩,HA2.out,by rw [OB];exact FX.start p ad0 rfl rfl rfl,(fun x hx=>by rw [ED] at hx;subst hx;exact ⟨rfl,rfl,rfl,rfl,Own.nil _ _ _ _ _⟩),rfl,HB2.out⟩
 case round =>
  clear HA2 HB2;obtain ⟨k,L,hk,rfl,⟨A,c,rfl⟩,had,hdv,hz,hll,hb⟩:=hrel;obtain ⟨wo,rfl⟩:=BO wr;have HA:=AA had;have HD:=AA hdv;have HZ:=AA hz;have HB:=AA hb;have wQ:L.length<=513/\0<L.length:=by omega
  have JG:=AA hll;clear had hdv hz hb hll;by_cases hlt:k<OL.length
  ·have hlo:k<O.length:=by have:=aA4.out;omega
   obtain ⟨b,o,rfl,hlb,c0⟩:=(TI.out.1.keep HB.out).row_of.cy hlt;have Vy:=TI.out.2 OL[k] (BH hlt);have hoe:=fG RX.out hlt hlo;have htk:O.take (k+1)=O.take k++[O[k]]:=En hlo;rw [hoe] at htk;generalize OL[k]=x at *;obtain ⟨X,xa,xn,xc⟩:=x;simp only at Vy c0 htk hoe;have aA1:=AA Vy;have Et:=AA htk;have k1:(k:Int)<OL.length:=by omega
   have k2:0<=(k:Int):=by omega
   clear Vy htk hoe hlo;have hsh:(L++[(⟨0,X,⟨xa,xn,xc⟩,[],sv0,[],sv0⟩:AD)]).length=L.length+1:=by simp
   have DL:=AA hsh;clear hsh;go_upto_region 5 with
    (at_builtin
     refine Ew _ rfl (.tmp 22) (.tmp 28) _ rfl (base:=w1.heap.size) afZ Pz oQ rfl (Own.alloc HA.out.own _) rfl (l2:=[(⟨0,X,⟨xa,xn,xc⟩,[],sv0,[],sv0⟩:AD)]) (Sl.lit (n:=1) (AO.made rfl _ _) rfl (D6 AB)) DR DR (by have:=HB.out.size;simp;omega) ?_;intro v3 w3 ho3 hg3 Jc;obtain ⟨A3,c3,hv3,-⟩:=Own.IE ho3;rw [DL.out] at hv3;subst hv3;have IY:=AA (GH.more BG (HA.out.keep (bA (bR wo) _)) ho3 hg3 aA1.out.sl rfl rfl rfl rfl);have HB3:=AA (bG (bA HB.out _) hg3 (fun g hg=>(HA.out.own.lt g hg).1));clear ho3 hg3 Jc
     )
   clear c0 hlb;go_wp2;go_roundw
   case rel => exact ⟨k+1,_,AB,BI,⟨A3,c3,by rw [DL.out]⟩,IY.out,by rw [Et.out];exact HD.out.more rfl rfl _ rfl rfl,(fun x hx=>by
     rcases FZ.1 hx with hx | hx
     · exact HZ.out x hx
     · rw [ED] at hx;subst hx;exact ⟨rfl,rfl,rfl,rfl,aA1.out⟩),by rw [DL.out,JG.out],HB3.out⟩
   case measure => exact BK
  ·have hkk:k=O.length:=by have:=aA4.out;omega
   have hd:=HD.out;rw [hkk,H8] at hd;have HD3:=AA hd;have X1:=D9.out.keep HB.out;obtain ⟨gL,hgA,alU,auo,-,-⟩:=Own.OY HA.out.own AB;subst hgA;clear hd HD hkk;obtain ⟨Ak,Au,Az,BA,-,-,-⟩:=X1.BF;go_wp2_with fail;refine (Gm.out _ (bT HB1.out HB.out)).mono ?_;rintro e w4 ⟨Ac,cc,CL,rfl,hb4,hcl,hco⟩;have hle:(CX p).length=CL.length:=by rw [<- hcl,Cm]
   rw [hle] at hco hcn ⊢;have Ny:=AA hcl;have Qc:=AA hco;have aA5:=AA hle;have HB4:=AA (bT HB.out hb4);have Ij:=AA (show GH 62 w4 w4 w1.heap.size (.slice (some ⟨gL,0,none⟩) L.length c) L from by
    have h:=HA.out.keep hb4;exact ⟨h.own,fun x hx=>(h.out x hx).mono HB4.out,h.inn,fun x hx c hc=>(h.Gi x hx c hc).mono HB4.out,h.CU,h.aN,h.aO⟩)
   have ji:gL<w4.heap.size:=by have:=hb4.size;omega
   have az0:w1.heap.size<=w4.heap.size:=HB4.out.size;have az1:w1.heap.size<=wo.heap.size:=HB.out.size;clear hb4 hcl hco hle X1 Ak Au Az BA HA HB auo;have qy:=AA Ij.out.own;have az2:L.length<=513/\0<L.length:=wQ;go_wp2_with fail;go_loopw [8] (fun i wr=>∃ (j:Nat) (L2:List AD),j<=CL.length/\i=.int .i64 j/\L2.length=L.length/\GH 62 w4 wr w1.heap.size (.slice (some ⟨gL,0,none⟩) L.length c) L2/\FX p L2 O (fF p j) []/\(∀ x∈L2,(∀ g,(BJ x.iv).ownBlock=some g->w4.heap.size<=g)/\x.av=sv0/\(∀ d∈x.inn,d∈CL)/\x.tw=0/\Own w1 w.heap.size 3 1 D5 (BJ x.ov) x.out)/\w4.grownBy wr (some gL)) (fun i _=>CL.length-(intOf i).toNat)
   case atStart => exact ⟨0,L,BZ _,rfl,rfl,Ij.out,HD3.out,(fun x hx=>by
    obtain ⟨e1,e2,e3,e4,e5⟩:=HZ.out x hx;exact ⟨(fun g hg=>by rw [e1] at hg;cases hg),e2,(fun d hd=>by rw [e3] at hd;cases hd),e4,e5⟩),gR w4 _⟩
   case round =>
    clear Ij HD3 HZ;obtain ⟨j,L2,hj,rfl,hl3,had,hdv,hz,hg⟩:=hrel;obtain ⟨wp,rfl⟩:=BO wr;have HA:=AA had;have HD:=AA hdv;have HZ:=AA hz;have HG:=AA hg;have HB:=AA (show AP w1 wp from bG HB4.out hg (fun g hg=>by have:=Dc hg;omega));have hzp:w4.heap.size<=wp.heap.size:=hg.size;clear had hdv hz hg;by_cases hlj:j<CL.length
    ·have hlc:j<(CX p).length:=by have:=aA5.out;omega
     have hcr:=Own.grown Qc.out.1 HG.out (fun g hg=>Own.apart Qc.out.1 qy.out BG g hg);have SS:=AA hcr;obtain ⟨b,o,hAc,hlb,c0⟩:=hcr.row_of.cy hlj;subst hAc;have hcm:CL[j]∈CL:=BH hlj;have Vy:=Own.grown (Qc.out.2 CL[j] hcm) HG.out (fun g hg=>Own.apart (Qc.out.2 CL[j] hcm) qy.out BG g hg);have hoe:=fG Ny.out hlj hlc;have hmem:(CX p)[j]∈CX p:=BH hlc;have hrs:=alC hlc;rw [hoe] at hmem hrs;generalize CL[j]=x at *;obtain ⟨X,xa,xn,xc⟩:=x;simp only at Vy c0 hmem hrs hoe;have HCm:=AA hcm;have QV:=AA hmem;have hin:=Vy.sl;have Et:=AA (fun W (hW:AP wp W)=>Tc.out _ X hmem W (Sl.mono hin hW) (bT (bT HB1.out HB.out) hW));obtain ⟨t,ht⟩:=BL (F8 p X);rw [ht] at Et hrs;have HRs:=AA hrs;have Jg:=AA hin;have V8:=AA c0;have k1:(j:Int)<CL.length:=by omega
     have k2:0<=(j:Int):=by omega
     have X1:=D9.out.keep HB.out;clear Vy hoe hmem hrs ht hlc hin hcr hcm
     try clear Ak Au Az BA
     obtain ⟨Ak,Au,Az,BA,-,-,-⟩:=X1.BF;go_upto_region 11 with fail;refine Cj (wp) (.run 5 0 0 (.call 5 63 (.take 6 127 (.done)))) fun Bv QR Ae Ah hS=>?_
     iterate 5 refine Aj ?_
     refine FD (Et.out _ hS) ?_;clear hS;intro Bq Bf hS;refine Aj ?_;refine Ce ?_;clear hS Ah Ae;intro hB;obtain ⟨W3,hW3⟩:∃ W:World,W=Bq:=⟨_,rfl⟩;rw [<- hW3] at hB Bf ⊢;have HB3:=AA (bT HB.out hB);have IY:=AA (HA.out.keep hB);have RQ:=AA (gB HG.out hB);have alV:=AA (Sl.mono Jg.out hB);have alW:=AA (SS.out.keep hB);replace c0:=Dv hB V8.out;have qo:b<W3.heap.size:=by have:=hB.size;omega
     have hz3:w4.heap.size<=W3.heap.size:=by have:=hB.size;omega
     clear hB Bf hW3 X1 Ak Au Az BA V8 hlb Et HB HA HG Jg SS hzp;by_cases h0:t<=0
     ·have hrs:=HRs.out;rw [AX AB] at hrs;have ZK:=AA hrs;have hne:=HV.out.Wh QV.out;have hkl:0<X.length:=fV.2 hne;have hhd:X.headD 0=X[0]:=by
       cases X with
       | nil=>exact absurd rfl hne
       | cons d l'=>rfl
      have hdd:X[0]∈BU p:=(HV.out.Gy QV.out).2 _ (BH hkl);obtain ⟨nv,hhm⟩:=HV.out.aum QV.out;rw [hhd] at nv hhm;obtain ⟨Al,cl,hel,-,-,hRl⟩:=alV.out;injection hel with y1 y2 y3;subst y1 y2 y3;obtain ⟨bl,ol,jl,jm,d0⟩:=(show Row W3 xa (X.flatMap D5) from hRl).int hkl;subst jl;simp only [VJ] at d0;have kz:(0:Int)<X.length:=by omega
      have kn:¬ X=[]:=hne;have hpl:=HV.out.afI hdd;have dN:=AA (fun W (hW:AP W3 W)=>LH.out X[0] hdd W (bT (bT HB1.out HB3.out) hW));generalize X[0]=dd at *;generalize Ky p dd=P at *;have aA6:=AA (fun W (hW:AP W3 W)=>Il.out (.slice Ao OL.length co) OL (P.getD 0 AY) W (bT (bT HB1.out HB3.out) hW) (TI.out.read.mono (bT HB3.out hW)) RX.out nv);generalize P.getD 0 AY=pt at *;have jo:=AA hhm;have kp:(0:Int)<P.length:=by omega
      have kp3:0<P.length:=by omega
      have kp2:¬ P=[]:=fun e=>by rw [e] at hpl;simp at hpl
      have X1:=D9.out.keep HB3.out;clear hrs hne hhd hdd nv hhm hRl
      try clear Ak Au Az BA
      obtain ⟨Ak,Au,Az,BA,-,-,-⟩:=X1.BF;go_upto_region 12 with fail;refine Cj (W3) (.run 9 0 0 (.call 9 1023 (.take 10 2047 (.call 11 4095 (.call 12 8191 (.take 13 16383 (.take 14 32767 (.done)))))))) fun Bv QR Ae Ah hS=>?_
      iterate 9 refine Aj ?_
      refine BP ?_;clear hS;intro K hK AQ;go_simp;refine (dN.out _ AQ.out).mono ?_;rintro e Bq ⟨b9,o9,c9,rfl,Bf,e10,e11,hl9⟩;have hS:Since W3 Bq:=bT (w:=W3) AQ.out Bf;clear AQ;refine hK.out _ _ hS (fun _=>?_);clear hK K
      try simp only [pu]
      refine Aj ?_;refine BP ?_;clear hS;intro K hK AQ;go_simp;refine hK.out _ _ AQ.out (fun hS=>?_);clear hK K AQ
      try simp only [pu]
      refine BP ?_;clear hS;intro K hK AQ;go_simp;refine (aA6.out _ AQ.out).mono ?_;rintro e wr2 ⟨⟨n9,rfl,hn9,hh9⟩,FT⟩;have hS:Since W3 wr2:=bT (w:=W3) AQ.out FT;clear AQ;refine hK.out _ _ hS (fun _=>?_);clear hK K
      try simp only [pu]
      iterate 2 refine Aj ?_
      refine Ce ?_;clear hS Ah Ae;intro hB;obtain ⟨W5,GU⟩:∃ W:World,W=wr2:=⟨_,rfl⟩;rw [<- GU] at hB ⊢;have CW:=AA (bT HB3.out hB);have Hu:=AA (IY.out.keep hB);have Vz:=AA (gB RQ.out hB);have az3:=AA (alW.out.keep hB);replace c0:=Dv hB c0;have jV:b<W5.heap.size:=by have:=hB.size;omega
      have RG:w4.heap.size<=W5.heap.size:=by have:=hB.size;omega
      have rC:w1.heap.size<=W5.heap.size:=by omega
      rw [jo.out] at hh9;have rD:=AA hh9;have aup:n9<=512:=by omega
      have aA7:IntKind.i64.wrap (1+((n9:Int)-1))=(n9:Int):=by rw [Ci _ AB];omega
      try rw [aA7]
      have hbl:n9<L2.length:=by have:=HD.out.len;omega
      clear hB Bf FT GU X1 Ak Au Az BA dN aA6 HB3 IY RQ alW e10 e11 hl9 d0 jm qo kz kn kp kp2 kp3 hh9 aA7 hpl alV;obtain ⟨g',GN,-,hgl,-,hce⟩:=Own.OY Hu.out.own AB;injection GN with GN;injection GN with GN _ _;subst GN;obtain ⟨-,-,e2,-⟩:=hce n9 hbl;have Iu:=Hu.out.inn _ (BH hbl);have hse:=(HZ.out _ (BH hbl)).1;have hNl:L2[n9].inn.length<=512:=by
       have:=congrArg List.length (HD.out.inn n9 hbl)
       rw [Cm] at this;rw [this];refine Dn (LY _ _) ?_;unfold fF;refine Dn (LY _ _) ?_;rw [Ie];omega
      have aA0:=AA (show Ints w4 (BJ ⟨some ⟨bl,ol,none⟩,X.length,xc⟩) X from (Qc.out.2 _ HCm.out).sl);have Xq:=AA (fun (Ox:SV) (h9:∀ q,(BJ Ox).ownBlock=some q->w4.heap.size<=q)=>show ∀ x∈L2.set n9 {L2[n9] with inn:=L2[n9].inn++[((X,⟨some ⟨bl,ol,none⟩,X.length,xc⟩):List Int×SV)],iv:=Ox},(∀ g,(BJ x.iv).ownBlock=some g->w4.heap.size<=g)/\x.av=sv0/\(∀ d∈x.inn,d∈CL)/\x.tw=0/\Own w1 w.heap.size 3 1 D5 (BJ x.ov) x.out from fun x hx=>by
       rcases Qb hx with ⟨rfl,_⟩ | ⟨q,hq,_,rfl⟩
       ·obtain ⟨z1,z2,z3,z4,z5⟩:=HZ.out _ (BH hbl);refine ⟨h9,z2,fun d hd=>?_,z4,z5⟩;rcases FZ.1 hd with hd | hd
        · exact z3 d hd
        · rw [ED] at hd;subst hd;exact HCm.out
       · exact HZ.out _ (BH hq))
      obtain ⟨iv,hiv⟩:=BL (L2[n9].iv);obtain ⟨N,hN⟩:=BL (L2[n9].inn);rw [hiv,hN] at Iu;rw [hiv] at e2 hse;rw [hN] at hNl;obtain ⟨ia,FY,ic⟩:=iv;unfold BJ at Iu e2 hse;have aAQ:=AA hiv;have QH:=AA hN;have Rf:=AA hse;have G7:=AA Iu;clear hiv hN hce hse Iu;have kb1:(n9:Int)<L.length:=by omega
      have kb2:0<=(n9:Int):=by omega
      have hsh:(N++[((X,⟨some ⟨bl,ol,none⟩,X.length,xc⟩):List Int×SV)]).length=N.length+1:=by simp
      have DL:=AA hsh;clear hsh;go_upto_region 13 with fail;refine QK (w1.heap.size) (W5) (.run 6 0 0 (.run 3 7 63 (.two 6 1023 (.call 10 2047 (.call 11 4095 (.call 12 8191 (.take 13 16383 (.take 14 32767 (.call 15 65535 (.done))))))) 10 1983 (.two 6 2047 (.call 11 4095 (.call 12 8191 (.take 13 16383 (.take 14 32767 (.call 15 65535 (.done)))))) 11 4031 (.call 6 4095 (.call 12 8191 (.take 13 16383 (.take 14 32767 (.call 15 65535 (.done)))))))))) fun Bv QR Ae Ah hS=>?_
      iterate 9 refine Aj ?_
      refine Oc (i:=6) (j:=10) (Ej Ae rfl) (Ej Ae rfl) (fun K hK=>?_) (fun K hK=>?_)
      ·have AQ:=AA hS;clear hS;refine FQ (FM rfl) ?_;go_simp;refine hK.out _ _ AQ.out (fun hS=>?_);clear hK K AQ
       try simp only [pu]
       refine BP ?_;clear hS;intro K hK AQ;go_simp;refine hK.out _ _ AQ.out (fun hS=>?_);clear hK K AQ
       try simp only [pu]
       refine BP ?_;clear hS;intro K hK AQ;go_simp;refine hK.out _ _ (Gj AB AQ.out _) (fun hS=>?_);clear hK K AQ
       try simp only [pu]
       refine BP ?_;clear hS;intro K hK AQ;refine IZ (.tmp 68) (.tmp 73) _ rfl (base:=w1.heap.size) YK XO YJ rfl ((G7.out.keep (bD (bR W5))).alloc _) rfl (l2:=[((X,⟨some ⟨bl,ol,none⟩,X.length,xc⟩):List Int×SV)]) (Sl.lit (n:=1) (AO.made rfl _ _) rfl (D6 AB)) DR DR DC ?_;intro v5 w5 DY hg5 Gf;obtain ⟨A5,c5,hv5,-⟩:=Own.IE DY;rw [DL.out] at hv5;subst hv5;have hown5:=Own.grown ((Hu.out.own.keep (bD (bR W5))).alloc _) hg5 (fun g hg=>Own.apart Hu.out.own G7.out BG g hg);obtain ⟨g',hg',-,Q8,GZ,H6⟩:=Own.OY hown5 AB;injection hg' with hg';injection hg' with hg' _ _;subst hg';obtain ⟨-,-,f2,-⟩:=H6 n9 hbl;have hf2:=GZ (n9*4+2);have V9:=AA (GH.aaJ BG (Hu.out.keep (bA (bD (bR W5)) _)) hbl (Ox:=⟨A5,N.length+1,c5⟩) (c:=(X,⟨some ⟨bl,ol,none⟩,X.length,xc⟩)) Zi Zg Zh (aA0.out));have WA:=AA (gS (jy (gA (gD Vz.out) _) hg5 (fun q hq=>Rf.out q hq)) (n9*4+2) (.slice A5 (N.length+1) c5));have ZT:=AA (show ∀ q,(Value.slice A5 (N.length+1) c5).ownBlock=some q->w4.heap.size<=q from qp Gf Rf.out DC);have hS:Fb (w1.heap.size) W5 w5:=Below.grown (show Below w1.heap.size W5 _ from AQ.out) hg5 (Dn rC (show Below w1.heap.size W5 _ from AQ.out).size) (fun g hg=>(G7.out.lt g hg).1);clear DY hg5 Gf hown5 H6 GZ e2;clear AQ;refine hK.out _ _ hS (fun _=>?_);clear hK K
       try simp only [pu]
       iterate 2 refine Aj ?_
       refine BP ?_;clear hS;intro K hK AQ;go_simp;refine hK.out _ _ (by unfold Fb;have h:Below _ _ _:=AQ.out;repeat (first | with_reducible assumption | with_reducible exact Below.refl _ _ | with_reducible refine MK ?_ OC _ | with_reducible refine Below.drew ?_ | with_reducible refine Gj AB ?_ _ | exact h)) ?_;intro hS;clear hK K AQ
       try simp only [pu]
       refine KW ?_;clear hS Ah Ae;intro hB;go_wp2;go_roundw
       case rel => exact ⟨j+1,_,AB,BI,by rw [Qm];exact hl3,V9.out,by rw [ZK.out];exact HD.out.inner II.out hbl X ⟨some ⟨bl,ol,none⟩,X.length,xc⟩ ⟨A5,N.length+1,c5⟩ rD.out,Xq.out ⟨A5,N.length+1,c5⟩ ZT.out,WA.out⟩
       case measure => exact BK
      ·have AQ:=AA hS;clear hS;refine FQ (FM rfl) ?_;go_simp;refine hK.out _ _ AQ.out (fun hS=>?_);clear hK K AQ
       try simp only [pu]
       refine Oc (i:=6) (j:=11) (Ej Ae rfl) (Ej Ae rfl) (fun K hK=>?_) (fun K hK=>?_)
       ·have AQ:=AA hS;clear hS;refine FQ (FM rfl) ?_;go_simp;refine hK.out _ _ AQ.out (fun hS=>?_);clear hK K AQ
        try simp only [pu]
        refine BP ?_;clear hS;intro K hK AQ;go_simp;refine hK.out _ _ (Gj AB AQ.out _) (fun hS=>?_);clear hK K AQ
        try simp only [pu]
        refine BP ?_;clear hS;intro K hK AQ;refine IZ (.tmp 68) (.tmp 73) _ rfl (base:=w1.heap.size) YK XO YJ rfl ((G7.out.keep (bD (bR W5))).alloc _) rfl (l2:=[((X,⟨some ⟨bl,ol,none⟩,X.length,xc⟩):List Int×SV)]) (Sl.lit (n:=1) (AO.made rfl _ _) rfl (D6 AB)) DR DR DC ?_;intro v5 w5 DY hg5 Gf;obtain ⟨A5,c5,hv5,-⟩:=Own.IE DY;rw [DL.out] at hv5;subst hv5;have hown5:=Own.grown ((Hu.out.own.keep (bD (bR W5))).alloc _) hg5 (fun g hg=>Own.apart Hu.out.own G7.out BG g hg);obtain ⟨g',hg',-,Q8,GZ,H6⟩:=Own.OY hown5 AB;injection hg' with hg';injection hg' with hg' _ _;subst hg';obtain ⟨-,-,f2,-⟩:=H6 n9 hbl;have hf2:=GZ (n9*4+2);have V9:=AA (GH.aaJ BG (Hu.out.keep (bA (bD (bR W5)) _)) hbl (Ox:=⟨A5,N.length+1,c5⟩) (c:=(X,⟨some ⟨bl,ol,none⟩,X.length,xc⟩)) Zi Zg Zh (aA0.out));have WA:=AA (gS (jy (gA (gD Vz.out) _) hg5 (fun q hq=>Rf.out q hq)) (n9*4+2) (.slice A5 (N.length+1) c5));have ZT:=AA (show ∀ q,(Value.slice A5 (N.length+1) c5).ownBlock=some q->w4.heap.size<=q from qp Gf Rf.out DC);have hS:Fb (w1.heap.size) W5 w5:=Below.grown (show Below w1.heap.size W5 _ from AQ.out) hg5 (Dn rC (show Below w1.heap.size W5 _ from AQ.out).size) (fun g hg=>(G7.out.lt g hg).1);clear DY hg5 Gf hown5 H6 GZ e2;clear AQ;refine hK.out _ _ hS (fun _=>?_);clear hK K
        try simp only [pu]
        iterate 2 refine Aj ?_
        refine BP ?_;clear hS;intro K hK AQ;go_simp;refine hK.out _ _ (by unfold Fb;have h:Below _ _ _:=AQ.out;repeat (first | with_reducible assumption | with_reducible exact Below.refl _ _ | with_reducible refine MK ?_ OC _ | with_reducible refine Below.drew ?_ | with_reducible refine Gj AB ?_ _ | exact h)) ?_;intro hS;clear hK K AQ
        try simp only [pu]
        refine KW ?_;clear hS Ah Ae;intro hB;go_wp2;go_roundw
        case rel => exact ⟨j+1,_,AB,BI,by rw [Qm];exact hl3,V9.out,by rw [ZK.out];exact HD.out.inner II.out hbl X ⟨some ⟨bl,ol,none⟩,X.length,xc⟩ ⟨A5,N.length+1,c5⟩ rD.out,Xq.out ⟨A5,N.length+1,c5⟩ ZT.out,WA.out⟩
        case measure => exact BK
       ·have AQ:=AA hS;clear hS;refine FQ (FM rfl) ?_;go_simp;refine hK.out _ _ (Gj AB AQ.out _) (fun hS=>?_);clear hK K AQ
        try simp only [pu]
        refine BP ?_;clear hS;intro K hK AQ;go_simp;refine hK.out _ _ AQ.out (fun hS=>?_);clear hK K AQ
        try simp only [pu]
        refine BP ?_;clear hS;intro K hK AQ;refine IZ (.tmp 68) (.tmp 73) _ rfl (base:=w1.heap.size) YK XO YJ rfl ((G7.out.keep (bD (bR W5))).alloc _) rfl (l2:=[((X,⟨some ⟨bl,ol,none⟩,X.length,xc⟩):List Int×SV)]) (Sl.lit (n:=1) (AO.made rfl _ _) rfl (D6 AB)) DR DR DC ?_;intro v5 w5 DY hg5 Gf;obtain ⟨A5,c5,hv5,-⟩:=Own.IE DY;rw [DL.out] at hv5;subst hv5;have hown5:=Own.grown ((Hu.out.own.keep (bD (bR W5))).alloc _) hg5 (fun g hg=>Own.apart Hu.out.own G7.out BG g hg);obtain ⟨g',hg',-,Q8,GZ,H6⟩:=Own.OY hown5 AB;injection hg' with hg';injection hg' with hg' _ _;subst hg';obtain ⟨-,-,f2,-⟩:=H6 n9 hbl;have hf2:=GZ (n9*4+2);have V9:=AA (GH.aaJ BG (Hu.out.keep (bA (bD (bR W5)) _)) hbl (Ox:=⟨A5,N.length+1,c5⟩) (c:=(X,⟨some ⟨bl,ol,none⟩,X.length,xc⟩)) Zi Zg Zh (aA0.out));have WA:=AA (gS (jy (gA (gD Vz.out) _) hg5 (fun q hq=>Rf.out q hq)) (n9*4+2) (.slice A5 (N.length+1) c5));have ZT:=AA (show ∀ q,(Value.slice A5 (N.length+1) c5).ownBlock=some q->w4.heap.size<=q from qp Gf Rf.out DC);have hS:Fb (w1.heap.size) W5 w5:=Below.grown (show Below w1.heap.size W5 _ from AQ.out) hg5 (Dn rC (show Below w1.heap.size W5 _ from AQ.out).size) (fun g hg=>(G7.out.lt g hg).1);clear DY hg5 Gf hown5 H6 GZ e2;clear AQ;refine hK.out _ _ hS (fun _=>?_);clear hK K
        try simp only [pu]
        iterate 2 refine Aj ?_
        refine BP ?_;clear hS;intro K hK AQ;go_simp;refine hK.out _ _ (by unfold Fb;have h:Below _ _ _:=AQ.out;repeat (first | with_reducible assumption | with_reducible exact Below.refl _ _ | with_reducible refine MK ?_ OC _ | with_reducible refine Below.drew ?_ | with_reducible refine Gj AB ?_ _ | exact h)) ?_;intro hS;clear hK K AQ
        try simp only [pu]
        refine KW ?_;clear hS Ah Ae;intro hB;go_wp2;go_roundw
        case rel => exact ⟨j+1,_,AB,BI,by rw [Qm];exact hl3,V9.out,by rw [ZK.out];exact HD.out.inner II.out hbl X ⟨some ⟨bl,ol,none⟩,X.length,xc⟩ ⟨A5,N.length+1,c5⟩ rD.out,Xq.out ⟨A5,N.length+1,c5⟩ ZT.out,WA.out⟩
        case measure => exact BK
     ·have hrs:=HRs.out;rw [AZ AB,IQ] at hrs;have ZK:=AA hrs;clear hrs;go_wp2;go_roundw
      case rel => exact ⟨j+1,L2,AB,BI,hl3,IY.out,by rw [ZK.out];exact HD.out,HZ.out,RQ.out⟩
      case measure => exact BK
    ·have hjj:j=(CX p).length:=by have:=aA5.out;omega
     have hd:=HD.out;rw [hjj,alE] at hd;have HD6:=AA hd;have hXB:w.heap.size<w1.heap.size:=D9.out.lt;clear hd HD hjj;go_wp2_with fail;go_loopw [10] (fun i wr=>∃ (k:Nat) (L3:List AD),k<=p.nodes.length/\i=.int .i64 k/\L3.length=L.length/\GH 62 w4 wr w1.heap.size (.slice (some ⟨gL,0,none⟩) L.length c) L3/\FX p L3 O (J8 p) (p.nodes.take k)/\(∀ x∈L3,(∀ g,(BJ x.av).ownBlock=some g->w4.heap.size<=g)/\(∀ d∈x.inn,d∈CL)/\x.tw=0/\Own w1 w.heap.size 3 1 D5 (BJ x.ov) x.out)/\w4.grownBy wr (some gL)) (fun i _=>p.nodes.length-(intOf i).toNat)
     case atStart => exact ⟨0,L2,BZ _,rfl,hl3,HA.out,by rw [OB];exact HD6.out,(fun x hx=>by
      obtain ⟨e1,e2,e3,e4,e5⟩:=HZ.out x hx;exact ⟨(fun g hg=>by rw [e2] at hg;cases hg),e3,e4,e5⟩),HG.out⟩
     case round =>
      clear HA HD6 HZ HG HB hzp;obtain ⟨k,L3,hk,rfl,hl4,had,hdv,hz,hg⟩:=hrel;obtain ⟨wq,rfl⟩:=BO wr;have HA:=AA had;have HD:=AA hdv;have HZ:=AA hz;have HG:=AA hg;have HB:=AA (show AP w1 wq from bG HB4.out hg (fun g hg=>by have:=Dc hg;omega));have hzq:w4.heap.size<=wq.heap.size:=hg.size;have X1:=D9.out.keep HB.out;clear had hdv hz hg
      try clear Ak Au Az BA
      obtain ⟨Ak,Au,Az,BA,-,-,-⟩:=X1.BF;by_cases hlk:k<p.nodes.length
      ·obtain ⟨b,o,rfl,hlb0,c0,c1,c2⟩:=(HRn.out).nd hlk;have az4:b<w1.heap.size:=by omega
       have htk:p.nodes.take (k+1)=p.nodes.take k++[p.nodes[k]]:=En hlk;have nv:=HV.out.uf (BH hlk);generalize p.nodes[k]=nd at *;have Et:=AA htk;have Vt:=AA nv;have V8:=AA c0;have fB:=AA c1;have HC2:=AA c2;have XZ:=AA (fun W (hW:AP w W)=>dM.out nd.id W hW);have ZL:=AA (fun h0=>HD.out.pass nd h0);clear htk nv c0 c1 c2;obtain ⟨dg,hdg⟩:=BL (Na p.AU nd.id);rw [hdg] at XZ ZL;have qg:=AA hdg;clear hdg;have c0:=Dv (bT HB1.out HB.out) V8.out;have hlb:b<wq.heap.size:=by omega
       go_upto_region 17 with fail;refine Cj (wq) (.run 7 0 0 (.call 7 255 (.take 8 511 (.done)))) fun Bv QR Ae Ah hS=>?_
       iterate 7 refine Aj ?_
       refine FD (XZ.out _ (bT (bT HB1.out HB.out) hS)) ?_;clear hS;intro Bq Bf hS;refine Aj ?_;refine Ce ?_;clear hS Ah Ae;intro hB;obtain ⟨W3,hW3⟩:∃ W:World,W=Bq:=⟨_,rfl⟩;rw [<- hW3] at hB Bf ⊢;have HB3:=AA (bT HB.out hB);have IY:=AA (HA.out.keep hB);have RQ:=AA (gB HG.out hB);have qo:b<W3.heap.size:=by have:=hB.size;omega
       have hz3:w4.heap.size<=W3.heap.size:=by have:=hB.size;omega
       clear hB Bf hW3 X1 Ak Au Az BA HB HA HG hzq c0 hlb XZ;by_cases h0:dg=0
       ·subst h0;have aA6:=AA (fun W (hW:AP W3 W)=>Il.out (.slice Ao OL.length co) OL nd.pt W (bT (bT HB1.out HB3.out) hW) (TI.out.read.mono (bT HB3.out hW)) RX.out Vt.out);have X1:=D9.out.keep HB3.out;have c0:=Dv (bT HB1.out HB3.out) V8.out;have c1:=Dv (bT HB1.out HB3.out) fB.out;have c2:=Dv (bT HB1.out HB3.out) HC2.out;clear ZL
        try clear Ak Au Az BA
        obtain ⟨Ak,Au,Az,BA,-,-,-⟩:=X1.BF;go_upto_region 18 with fail;refine Cj (W3) (.run 8 0 0 (.call 8 511 (.take 9 1023 (.take 10 2047 (.done))))) fun Bv QR Ae Ah hS=>?_
        iterate 8 refine Aj ?_
        refine BP ?_;clear hS;intro K hK AQ;go_simp;refine (aA6.out _ AQ.out).mono ?_;rintro e Bq ⟨⟨n9,rfl,hn9,hh9⟩,Bf⟩;have hS:Since W3 Bq:=bT (w:=W3) AQ.out Bf;clear AQ;refine hK.out _ _ hS (fun _=>?_);clear hK K
        try simp only [pu]
        iterate 2 refine Aj ?_
        refine Ce ?_;clear hS Ah Ae;intro hB;obtain ⟨W5,GU⟩:∃ W:World,W=Bq:=⟨_,rfl⟩;rw [<- GU] at hB ⊢;have CW:=AA (bT HB3.out hB);have Hu:=AA (IY.out.keep hB);have Vz:=AA (gB RQ.out hB);have jV:b<W5.heap.size:=by have:=hB.size;omega
        have RG:w4.heap.size<=W5.heap.size:=by have:=hB.size;omega
        have rC:w1.heap.size<=W5.heap.size:=by omega
        have rD:=AA hh9;have aup:n9<=512:=by omega
        have aA7:IntKind.i64.wrap (1+((n9:Int)-1))=(n9:Int):=by rw [Ci _ AB];omega
        try rw [aA7]
        have hbl:n9<L3.length:=by have:=HD.out.len;omega
        clear hB Bf GU X1 Ak Au Az BA aA6 HB3 IY RQ qo hh9 aA7 c0 c1 c2;obtain ⟨g',GN,-,hgl,-,hce⟩:=Own.OY Hu.out.own AB;injection GN with GN;injection GN with GN _ _;subst GN;obtain ⟨-,-,-,e2⟩:=hce n9 hbl;have Iu:=Hu.out.CU _ (BH hbl);have hse:=(HZ.out _ (BH hbl)).1;have hNl:L3[n9].CU.length<=256:=by
         rw [HD.out.CU n9 hbl,Cm];exact Dn (LY _ _) fZ
        have Xq:=AA (fun (OV:SV) (h9:∀ q,(BJ OV).ownBlock=some q->w4.heap.size<=q)=>show ∀ x∈L3.set n9 {L3[n9] with CU:=L3[n9].CU++[nd.id],av:=OV},(∀ g,(BJ x.av).ownBlock=some g->w4.heap.size<=g)/\(∀ d∈x.inn,d∈CL)/\x.tw=0/\Own w1 w.heap.size 3 1 D5 (BJ x.ov) x.out from fun x hx=>by
         rcases Qb hx with ⟨rfl,_⟩ | ⟨q,hq,_,rfl⟩
         ·obtain ⟨z1,z2,z3,z4⟩:=HZ.out _ (BH hbl);exact ⟨h9,z2,z3,z4⟩
         · exact HZ.out _ (BH hq))
        obtain ⟨iv,hiv⟩:=BL (L3[n9].av);obtain ⟨N,hN⟩:=BL (L3[n9].CU);rw [hiv,hN] at Iu;rw [hiv] at e2 hse;rw [hN] at hNl;obtain ⟨ia,FY,ic⟩:=iv;unfold BJ at Iu e2 hse;have aAQ:=AA hiv;have QH:=AA hN;have Rf:=AA hse;have G7:=AA Iu;clear hiv hN hce hse Iu;have kb1:(n9:Int)<L.length:=by omega
        have kb2:0<=(n9:Int):=by omega
        have hsh:(N++[nd.id]).length=N.length+1:=by simp
        have DL:=AA hsh;clear hsh;have X1:=D9.out.keep CW.out;have c0:=Dv (bT HB1.out CW.out) V8.out
        try clear Ak Au Az BA
        obtain ⟨Ak,Au,Az,BA,-,-,-⟩:=X1.BF;go_upto_region 19 with fail;refine QK (w1.heap.size) (W5) (.run 6 0 0 (.run 6 7 63 (.two 6 8191 (.call 13 16383 (.call 14 32767 (.take 15 65535 (.take 16 131071 (.call 17 262143 (.done)))))) 13 16319 (.call 6 16383 (.call 14 32767 (.take 15 65535 (.take 16 131071 (.call 17 262143 (.done))))))))) fun Bv QR Ae Ah hS=>?_
        iterate 12 refine Aj ?_
        refine Oc (i:=6) (j:=13) (Ej Ae rfl) (Ej Ae rfl) (fun K hK=>?_) (fun K hK=>?_)
        ·have AQ:=AA hS;clear hS;refine FQ (FM rfl) ?_;go_simp;refine hK.out _ _ AQ.out (fun hS=>?_);clear hK K AQ
         try simp only [pu]
         refine BP ?_;clear hS;intro K hK AQ;go_simp;refine hK.out _ _ (Gj AB AQ.out _) (fun hS=>?_);clear hK K AQ
         try simp only [pu]
         refine BP ?_;clear hS;intro K hK AQ;refine IZ (.tmp 109) (.tmp 116) _ rfl (base:=w1.heap.size) IB Gt IK rfl ((G7.out.keep (bD (bR W5))).alloc _) rfl (l2:=[nd.id]) (Sl.lit (n:=1) (AO.made rfl _ _) rfl (D6 AB)) DR DR DC ?_;intro v5 w5 DY hg5 Gf;obtain ⟨A5,c5,hv5,-⟩:=Own.IE DY;rw [DL.out] at hv5;subst hv5;have hown5:=Own.grown ((Hu.out.own.keep (bD (bR W5))).alloc _) hg5 (fun g hg=>Own.apart Hu.out.own G7.out BG g hg);obtain ⟨g',hg',-,Q8,GZ,H6⟩:=Own.OY hown5 AB;injection hg' with hg';injection hg' with hg' _ _;subst hg';obtain ⟨-,-,-,f2⟩:=H6 n9 hbl;have hf2:=GZ (n9*4+3);have V9:=AA (GH.zf BG (Hu.out.keep (bA (bD (bR W5)) _)) hbl (OV:=⟨A5,N.length+1,c5⟩) (c:=nd.id) Zi Zg Zh);have WA:=AA (gS (jy (gA (gD Vz.out) _) hg5 (fun q hq=>Rf.out q hq)) (n9*4+3) (.slice A5 (N.length+1) c5));have ZT:=AA (show ∀ q,(Value.slice A5 (N.length+1) c5).ownBlock=some q->w4.heap.size<=q from qp Gf Rf.out DC);have hS:Fb (w1.heap.size) W5 w5:=Below.grown (show Below w1.heap.size W5 _ from AQ.out) hg5 (Dn rC (show Below w1.heap.size W5 _ from AQ.out).size) (fun g hg=>(G7.out.lt g hg).1);clear DY hg5 Gf hown5 H6 GZ e2;clear AQ;refine hK.out _ _ hS (fun _=>?_);clear hK K
         try simp only [pu]
         iterate 2 refine Aj ?_
         refine BP ?_;clear hS;intro K hK AQ;go_simp;refine hK.out _ _ (by unfold Fb;have h:Below _ _ _:=AQ.out;repeat (first | with_reducible assumption | with_reducible exact Below.refl _ _ | with_reducible refine MK ?_ OC _ | with_reducible refine Below.drew ?_ | with_reducible refine Gj AB ?_ _ | exact h)) ?_;intro hS;clear hK K AQ
         try simp only [pu]
         refine KW ?_;clear hS Ah Ae;intro hB;go_wp2;go_roundw
         case rel => exact ⟨k+1,_,AB,BI,aAP,V9.out,by rw [Et.out];exact HD.out.lone II.out hbl nd ⟨A5,N.length+1,c5⟩ qg.out rD.out,Xq.out ⟨A5,N.length+1,c5⟩ ZT.out,WA.out⟩
         case measure => exact BK
        ·have AQ:=AA hS;clear hS;refine FQ (FM rfl) ?_;go_simp;refine hK.out _ _ (Gj AB AQ.out _) (fun hS=>?_);clear hK K AQ
         try simp only [pu]
         refine BP ?_;clear hS;intro K hK AQ;go_simp;refine hK.out _ _ AQ.out (fun hS=>?_);clear hK K AQ
         try simp only [pu]
         refine BP ?_;clear hS;intro K hK AQ;refine IZ (.tmp 109) (.tmp 116) _ rfl (base:=w1.heap.size) IB Gt IK rfl ((G7.out.keep (bD (bR W5))).alloc _) rfl (l2:=[nd.id]) (Sl.lit (n:=1) (AO.made rfl _ _) rfl (D6 AB)) DR DR DC ?_;intro v5 w5 DY hg5 Gf;obtain ⟨A5,c5,hv5,-⟩:=Own.IE DY;rw [DL.out] at hv5;subst hv5;have hown5:=Own.grown ((Hu.out.own.keep (bD (bR W5))).alloc _) hg5 (fun g hg=>Own.apart Hu.out.own G7.out BG g hg);obtain ⟨g',hg',-,Q8,GZ,H6⟩:=Own.OY hown5 AB;injection hg' with hg';injection hg' with hg' _ _;subst hg';obtain ⟨-,-,-,f2⟩:=H6 n9 hbl;have hf2:=GZ (n9*4+3);have V9:=AA (GH.zf BG (Hu.out.keep (bA (bD (bR W5)) _)) hbl (OV:=⟨A5,N.length+1,c5⟩) (c:=nd.id) Zi Zg Zh);have WA:=AA (gS (jy (gA (gD Vz.out) _) hg5 (fun q hq=>Rf.out q hq)) (n9*4+3) (.slice A5 (N.length+1) c5));have ZT:=AA (show ∀ q,(Value.slice A5 (N.length+1) c5).ownBlock=some q->w4.heap.size<=q from qp Gf Rf.out DC);have hS:Fb (w1.heap.size) W5 w5:=Below.grown (show Below w1.heap.size W5 _ from AQ.out) hg5 (Dn rC (show Below w1.heap.size W5 _ from AQ.out).size) (fun g hg=>(G7.out.lt g hg).1);clear DY hg5 Gf hown5 H6 GZ e2;clear AQ;refine hK.out _ _ hS (fun _=>?_);clear hK K
         try simp only [pu]
         iterate 2 refine Aj ?_
         refine BP ?_;clear hS;intro K hK AQ;go_simp;refine hK.out _ _ (by unfold Fb;have h:Below _ _ _:=AQ.out;repeat (first | with_reducible assumption | with_reducible exact Below.refl _ _ | with_reducible refine MK ?_ OC _ | with_reducible refine Below.drew ?_ | with_reducible refine Gj AB ?_ _ | exact h)) ?_;intro hS;clear hK K AQ
         try simp only [pu]
         refine KW ?_;clear hS Ah Ae;intro hB;go_wp2;go_roundw
         case rel => exact ⟨k+1,_,AB,BI,aAP,V9.out,by rw [Et.out];exact HD.out.lone II.out hbl nd ⟨A5,N.length+1,c5⟩ qg.out rD.out,Xq.out ⟨A5,N.length+1,c5⟩ ZT.out,WA.out⟩
         case measure => exact BK
       ·have h1:(dg == 0)=false:=by simpa using h0
        have HPq:=AA (ZL.out h0);clear h0 ZL;go_wp2;go_roundw
        case rel => exact ⟨k+1,L3,AB,BI,hl4,IY.out,by rw [Et.out];exact HPq.out,HZ.out,RQ.out⟩
        case measure => exact BK
      ·have hkk:k=p.nodes.length:=by omega
       have hd:=HD.out;rw [hkk,H8] at hd;have kZ:=AA hd;have hz1:=HB1.out.size;have HW:=AA (show LQ wq w.heap.size (.slice (some ⟨gL,0,none⟩) L.length c) L3 from ⟨HA.out.own.Du hz1,fun x hx=>(HZ.out x hx).2.2.2.keep HB.out,fun x hx=>(HA.out.inn x hx).Du hz1,fun x hx d hd=>by
        have hm:=(HZ.out x hx).2.1 d hd;have:=Own.grown (Qc.out.2 d hm) HG.out (fun g hg=>Own.apart (Qc.out.2 d hm) qy.out BG g hg)
        exact Own.Du this AB,fun x hx=>(HA.out.CU x hx).Du hz1⟩)
       clear hd hkk;go_wp2;go_ret;exact ⟨some ⟨gL,0,none⟩,c,L3,by rw [hl4];rfl,bT HB1.out HB.out,by rw [hl4];exact HW.out,by rw [ZR.out];exact kZ.out,fun x hx=>(HZ.out x hx).2.2.1⟩
