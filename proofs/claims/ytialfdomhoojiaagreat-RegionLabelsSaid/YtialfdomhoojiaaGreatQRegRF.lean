import Derived.Test.YtialfdomhoojiaaGreatQJ23
set_option linter.unusedSimpArgs false
set_option linter.unusedVariables false
set_option maxRecDepth 100000
set_option maxHeartbeats 8000000
namespace Go.Proofs.YtialfdomhoojiaaGreat
open Go.RowKit
theorem ajU:Elem Tryz.prog 29 62 4 80:=Elem.PU (z:=.agg #[.int .i64 0,.slice none 0 0,.slice none 0 0,.slice none 0 0]) I8 I8 rfl AB
structure zi (w:World) (B:Nat) (v:Value) (L:List AD):Prop where
 own:Own w B 62 4 E8 v L
 out:∀ x∈L,Own w B 3 1 DR (BK x.ov) x.out
 inn:∀ x∈L,Own w B 24 1 Ia (BK x.iv) x.inn
 Ja:∀ x∈L,∀ c∈x.inn,Own w B 3 1 DR (BK c.2) c.1
 DC:∀ x∈L,Own w B 3 1 DR (BK x.av) x.DC
def atW (w:World) (p:Pl) (e:Ending) (w':World):Prop :=
 ∃ A c L,e=.returned (.slice A L.length c)/\AU w w'/\zi w' w.heap.size (.slice A L.length c) L/\Gz p L (sortK (BP p)) (Js p) p.nodes/\∀ x∈L,x.tw=0
theorem bU.first {w:World} {P:List Pt} {e:Ending} {w':World} (h:bU w P e w') (hP:0<P.length):∃ b o c,e=.returned (.slice (some ⟨b,o,none⟩) P.length c)/\AU w w'/\w'.cell? ⟨b,o,none⟩=some (.int .i64 (P.getD 0 AY).x)/\w'.cell? ⟨b,o+1,none⟩=some (.int .i64 (P.getD 0 AY).y)/\b<w'.heap.size:=by
 obtain ⟨A,c,rfl,hb,ho⟩:=h;obtain ⟨b,o,rfl,hlb,c0,c1⟩:=(ho.row_of).pt hP;simp only [sU,YJ] at c0 c1;have e:P.getD 0 AY=P[0]:=by simp only [Fj,Dh hP,H9]
 rw [e];exact ⟨b,o,c,rfl,hb,c0,c1,hlb⟩
theorem jm {w0 w1 w2:World} {row r:Option Nat} (h:w0.grownBy w1 row) (k:w1.grownBy w2 r) (hr:∀ g,r=some g->w0.heap.size<=g):w0.grownBy w2 row :=
 ⟨k.os.trans h.os,k.tape.trans h.tape,k.output.trans h.output,EH h.size k.size,fun i hi hne=>by
  rw [k.block i (LW hi h.size) (fun e=>by have:=hr i e.symm;omega)];exact h.block i hi hne⟩
theorem jo {n m:Nat} {v v':Value} (hat:v'.ownBlock=v.ownBlock\/v'.ownBlock=some m) (h1:∀ q,v.ownBlock=some q->n<=q) (h2:n<=m):∀ q,v'.ownBlock=some q->n<=q:=fun q hq=>by
 rcases hat with h | h
 · exact h1 q (h.symm.trans hq)
 ·rw [hq] at h;have:=Dq h
  omega
theorem Valid.atX {p:Pl} (h:Valid p) {c:List Int} (hc:c∈Ce p):C9 ((MC p (c.headD 0)).getD 0 AY)=true/\Ie p ((MC p (c.headD 0)).getD 0 AY)=Ie p (RG p c):=by
 have hne:=h.Xc hc;have hd:c.headD 0∈Bh p:=(h.Gq hc).2 _ (by
  cases c with
  | nil=>exact absurd rfl hne
  | cons a c=>exact Eu)
 obtain ⟨a,ha,-,hpt⟩:=h.TY hd;have hl:=Ey p a;unfold RG MC;rw [hpt];split
 · exact ⟨h.Dj ha AB,rfl⟩
 ·rw [adv AB];exact ⟨h.Dj ha AB,h.aqO ha ha rfl AB AB⟩
theorem atY (v:Value) (p:Pl) (w:World) (h:Ci w v p) (hv:Valid p):Calls Tryz.prog 66 #[v] w (atW w p):=by
 have HOu:=AA (fun W (hW:AU w W)=>atv v p W (h.mono hW) hv);have GV:=AA (fun W (hW:AU w W)=>ajt v p W (h.mono hW) hv);have WH:=AA (fun u l (hl:l∈Ce p) W (hu:Ints W u l) (hW:AU w W)=>show Calls Tryz.prog 132 #[v,u] W fun e w'=>e=.returned (.int .i64 (FB p l))/\AU W w' from by
  have t:=adV v u p l W (h.mono hW) hu hv (fun d hd=>by have:=hv.Qh ((hv.Gq hl).2 d hd);exact N8 AB AB);rw [hv.aBv hl] at t;exact t)
 have Kv:=AA (fun d (hd:d∈Bh p) W (hW:AU w W)=>(ajg v p d W (h.mono hW) hv hd).mono fun e w' hr=>hr.first (by have:=hv.ady hd;omega));have adg:=fun vl CL at_ W (hW:AU w W) hC hcl nv=>auK v vl p CL (sortK (BP p)) at_ W (h.mono hW) hv hC hcl (Ze (BP p)).1 nv;unfold BA at adg;have Jw:=AA adg;have aj:=AA (fun id W (hW:AU w W)=>aoB v p id W (h.mono hW) (by have:=hv.lim;unfold Ji at this;simp only [QC,Iy] at this;omega));have HV:=AA hv;have hcn:=hv.U5;have hnl:=hv.jU;have JI:=AA ((Ze (BP p)).1.nodup_iff.2 hv.aBw);have hol:(sortK (BP p)).length<=512:=by
  rw [(Ze (BP p)).1.length_eq];exact EH (OA _ _) hv.U5
 obtain ⟨_,_,_,al,rfl,hpa,⟨An,cn,rfl,hn1,hn2,hR⟩,⟨⟨Aa,ca,rfl,-⟩,-⟩,⟨Af,cf,rfl,-⟩⟩:=h;unfold maxLen at hn2;have HRn:=AA hR;clear hpa hv adg hR;generalize al.length=na at *;generalize p.faces.length=nf at *;obtain ⟨O,hO⟩:=BN (sortK (BP p));have rD:=AA hO;rw [hO] at JI hol Jw;clear hO;go_enter Tryz.func66,Tryz.ntmps66;go_wp2_with fail;refine (HOu.out _ (bA (bR w) _)).mono ?_;rintro e w1 ⟨Ao,co,OL,rfl,hb1,Xz,Y0⟩;rw [rD.out] at Y0;have hle:OL.length=O.length:=by rw [<- Y0,Cj]
 have ayc:OL.length<=512:=by omega
 have X1:AO w1 w.heap.size 26 #[.slice An p.nodes.length cn,.slice Aa na ca,.slice Af nf cf]:=(AO.made rfl _ _).keep hb1;have HB1:=AA (bT (bA (bR w) _) hb1);have Dt:=AA X1;have Nk:=AA (show Ti w1 w.heap.size (.slice Ao OL.length co) OL from ⟨Xz.1.ES Ak,fun x hx=>(Xz.2 x hx).ES Ak⟩);have VB:=AA Y0;have zk:=AA hle;clear hb1 HOu Xz Y0 hle X1;go_upto_region 3 with fail;obtain ⟨W2,hW⟩:∃ W:World,W=w1.alloc (.cells #[.int .i64 0,.slice none 0 0,.slice none 0 0,.slice none 0 0] 62):=⟨_,rfl⟩;have F9:=AA (show Own W2 w1.heap.size 62 4 E8 (.slice (some ⟨w1.heap.size,0,none⟩) 1 1) [ad0] by rw [hW];exact Own.lit _ _ _ _ _ _ _ _ _ rfl rfl (Dc _) (DN AB) rfl rfl);have HB2:=AA (show AU w1 W2 by rw [hW];exact bA (bR w1) _);rw [<- hW];clear hW;have HA2:=AA (show GY 62 w1 W2 w1.heap.size (.slice (some ⟨w1.heap.size,0,none⟩) 1 1) [ad0] from ⟨F9.out,(fun x hx=>by rw [EP] at hx;subst hx;exact Sl.nil _),(fun x hx=>by rw [EP] at hx;subst hx;exact Own.nil _ _ _ _ _),(fun x hx=>by rw [EP] at hx;subst hx;intro c hc;cases hc),(fun x hx=>by rw [EP] at hx;subst hx;exact Own.nil _ _ _ _ _),sQ _ _,sQ _ _⟩);clear F9;go_wp2_with fail;go_loopw [4,5] (fun s i wr=>∃ (k:Nat) (L:List AD),k<=OL.length/\i=.int .i64 k/\(∃ A c,s=.slice A L.length c)/\GY 62 w1 wr w1.heap.size s L/\Gz p L (O.take k) [] []/\(∀ x∈L,x.iv=sv0/\x.av=sv0/\x.inn=[]/\x.tw=0/\Own w1 w.heap.size 3 1 DR (BK x.ov) x.out)/\L.length=k+1/\AU w1 wr) (fun _ i _=>OL.length-(intOf i).toNat)
 case atStart => exact ⟨0,[ad0],Bv _,rfl,⟨_,_,rfl⟩,HA2.out,by rw [O8];exact Gz.start p ad0 rfl rfl rfl,(fun x hx=>by rw [EP] at hx;subst hx;exact ⟨rfl,rfl,rfl,rfl,Own.nil _ _ _ _ _⟩),rfl,HB2.out⟩
 case round =>
  clear HA2 HB2;obtain ⟨k,L,hk,rfl,⟨A,c,rfl⟩,had,hdv,hz,hll,hb⟩:=hrel;obtain ⟨wo,rfl⟩:=BR wr;have HA:=AA had;have HD:=AA hdv;have HZ:=AA hz;have HB:=AA hb;have vP:L.length<=513/\0<L.length:=by omega
  have JQ:=AA hll;clear had hdv hz hb hll;by_cases hlt:k<OL.length
  ·have hlo:k<O.length:=by have:=zk.out;omega
   obtain ⟨b,o,rfl,hlb,c0⟩:=(Nk.out.1.keep HB.out).row_of.cy hlt;have WQ:=Nk.out.2 OL[k] (BO hlt);have hoe:=jd VB.out hlt hlo;have htk:O.take (k+1)=O.take k++[O[k]]:=F7 hlo;rw [hoe] at htk;generalize OL[k]=x at *;obtain ⟨X,xa,xn,xc⟩:=x;simp only at WQ c0 htk hoe;have zW:=AA WQ;have FI:=AA htk;have k1:(k:Int)<OL.length:=by omega
   have k2:0<=(k:Int):=by omega
   clear WQ htk hoe hlo;have hsh:(L++[(⟨0,X,⟨xa,xn,xc⟩,[],sv0,[],sv0⟩:AD)]).length=L.length+1:=by simp
   have DW:=AA hsh;clear hsh;go_upto_region 5 with
    (at_builtin
     refine FK _ rfl (.tmp 22) (.tmp 28) _ rfl (base:=w1.heap.size) ajU RN xP rfl (Own.alloc HA.out.own _) rfl (l2:=[(⟨0,X,⟨xa,xn,xc⟩,[],sv0,[],sv0⟩:AD)]) (Sl.lit (n:=1) (AO.made rfl _ _) rfl (DN AB)) DZ DZ (by have:=HB.out.size;simp;omega) ?_;intro v3 w3 ho3 hg3 LK;obtain ⟨A3,c3,hv3,-⟩:=Own.Ig ho3;rw [DW.out] at hv3;subst hv3;have Jq:=AA (GY.more Aw (HA.out.keep (bA (bR wo) _)) ho3 hg3 zW.out.sl rfl rfl rfl rfl);have HB3:=AA (bG (bA HB.out _) hg3 (fun g hg=>(HA.out.own.lt g hg).1));clear ho3 hg3 LK
     )
   clear c0 hlb;go_wp2;go_roundw
   case rel => exact ⟨k+1,_,AB,BJ,⟨A3,c3,by rw [DW.out]⟩,Jq.out,by rw [FI.out];exact HD.out.more rfl rfl _ rfl rfl,(fun x hx=>by
     rcases FX.1 hx with hx | hx
     · exact HZ.out x hx
     · rw [EP] at hx;subst hx;exact ⟨rfl,rfl,rfl,rfl,zW.out⟩),by rw [DW.out,JQ.out],HB3.out⟩
   case measure => exact BL
  ·have hkk:k=O.length:=by have:=zk.out;omega
   have hd:=HD.out;rw [hkk,I4] at hd;have HD3:=AA hd;have X1:=Dt.out.keep HB.out;obtain ⟨gL,hgA,atZ,ata,-,-⟩:=Own.P5 HA.out.own AB;subst hgA;clear hd HD hkk;obtain ⟨BF,BG,BH,BI,-,-,-⟩:=X1.Az;go_wp2_with fail;refine (GV.out _ (bT HB1.out HB.out)).mono ?_;rintro e w4 ⟨Ac,cc,CL,rfl,hb4,hcl,hco⟩;have hle:(Ce p).length=CL.length:=by rw [<- hcl,Cj]
   rw [hle] at hco hcn ⊢;have OW:=AA hcl;have Qd:=AA hco;have zl:=AA hle;have HB4:=AA (bT HB.out hb4);have Iu:=AA (show GY 62 w4 w4 w1.heap.size (.slice (some ⟨gL,0,none⟩) L.length c) L from by
    have h:=HA.out.keep hb4;exact ⟨h.own,fun x hx=>(h.out x hx).mono HB4.out,h.inn,fun x hx c hc=>(h.Ja x hx c hc).mono HB4.out,h.DC,h.fM,h.fO⟩)
   have dh:gL<w4.heap.size:=by have:=hb4.size;omega
   have ayd:w1.heap.size<=w4.heap.size:=HB4.out.size;have aye:w1.heap.size<=wo.heap.size:=HB.out.size;clear hb4 hcl hco hle X1 BF BG BH BI HA HB ata;have HL4:=AA Iu.out.own;have ayf:L.length<=513/\0<L.length:=vP;go_wp2_with fail;go_loopw [8] (fun i wr=>∃ (j:Nat) (L2:List AD),j<=CL.length/\i=.int .i64 j/\L2.length=L.length/\GY 62 w4 wr w1.heap.size (.slice (some ⟨gL,0,none⟩) L.length c) L2/\Gz p L2 O (dw p j) []/\(∀ x∈L2,(∀ g,(BK x.iv).ownBlock=some g->w4.heap.size<=g)/\x.av=sv0/\(∀ d∈x.inn,d∈CL)/\x.tw=0/\Own w1 w.heap.size 3 1 DR (BK x.ov) x.out)/\w4.grownBy wr (some gL)) (fun i _=>CL.length-(intOf i).toNat)
   case atStart => exact ⟨0,L,Bv _,rfl,rfl,Iu.out,HD3.out,(fun x hx=>by
    obtain ⟨e1,e2,e3,e4,e5⟩:=HZ.out x hx;exact ⟨(fun g hg=>by rw [e1] at hg;cases hg),e2,(fun d hd=>by rw [e3] at hd;cases hd),e4,e5⟩),gR w4 _⟩
   case round =>
    clear Iu HD3 HZ;obtain ⟨j,L2,hj,rfl,hl3,had,hdv,hz,hg⟩:=hrel;obtain ⟨wp,rfl⟩:=BR wr;have HA:=AA had;have HD:=AA hdv;have HZ:=AA hz;have HG:=AA hg;have HB:=AA (show AU w1 wp from bG HB4.out hg (fun g hg=>by have:=Dq hg;omega));have hzp:w4.heap.size<=wp.heap.size:=hg.size;clear had hdv hz hg;by_cases hlj:j<CL.length
    ·have hlc:j<(Ce p).length:=by have:=zl.out;omega
     have hcr:=Own.grown Qd.out.1 HG.out (fun g hg=>Own.apart Qd.out.1 HL4.out Aw g hg);have SX:=AA hcr;obtain ⟨b,o,hAc,hlb,c0⟩:=hcr.row_of.cy hlj;subst hAc;have hcm:CL[j]∈CL:=BO hlj;have WQ:=Own.grown (Qd.out.2 CL[j] hcm) HG.out (fun g hg=>Own.apart (Qd.out.2 CL[j] hcm) HL4.out Aw g hg);have hoe:=jd OW.out hlj hlc;have hmem:(Ce p)[j]∈Ce p:=BO hlc;have hrs:=aji hlc;rw [hoe] at hmem hrs;generalize CL[j]=x at *;obtain ⟨X,xa,xn,xc⟩:=x;simp only at WQ c0 hmem hrs hoe;have HCm:=AA hcm;have Qb:=AA hmem;have hin:=WQ.sl;have FI:=AA (fun W (hW:AU wp W)=>WH.out _ X hmem W (Sl.mono hin hW) (bT (bT HB1.out HB.out) hW));obtain ⟨t,ht⟩:=BN (FB p X);rw [ht] at FI hrs;have HRs:=AA hrs;have Jo:=AA hin;have VA:=AA c0;have k1:(j:Int)<CL.length:=by omega
     have k2:0<=(j:Int):=by omega
     have X1:=Dt.out.keep HB.out;clear WQ hoe hmem hrs ht hlc hin hcr hcm
     try clear BF BG BH BI
     obtain ⟨BF,BG,BH,BI,-,-,-⟩:=X1.Az;go_upto_region 11 with fail;refine DJ (wp) (.run 5 0 0 (.call 5 63 (.take 6 127 (.done)))) fun CU QR Ae Ah hS=>?_
     iterate 5 refine Aj ?_
     refine GL (FI.out _ hS) ?_;clear hS;intro CX CV hS;refine Aj ?_;refine DF ?_;clear hS Ah Ae;intro hB;obtain ⟨W3,hW3⟩:∃ W:World,W=CX:=⟨_,rfl⟩;rw [<- hW3] at hB CV ⊢;have HB3:=AA (bT HB.out hB);have Jq:=AA (HA.out.keep hB);have RI:=AA (gB HG.out hB);have ajV:=AA (Sl.mono Jo.out hB);have ajW:=AA (SX.out.keep hB);replace c0:=Eh hB VA.out;have qy:b<W3.heap.size:=by have:=hB.size;omega
     have hz3:w4.heap.size<=W3.heap.size:=by have:=hB.size;omega
     clear hB CV hW3 X1 BF BG BH BI VA hlb FI HB HA HG Jo SX hzp;by_cases h0:t<=0
     ·have hrs:=HRs.out;rw [AX AB] at hrs;have Zi:=AA hrs;have hne:=HV.out.Xc Qb.out;have hkl:0<X.length:=iD.2 hne;have hhd:X.headD 0=X[0]:=by
       cases X with
       | nil=>exact absurd rfl hne
       | cons d l'=>rfl
      have hdd:X[0]∈Bh p:=(HV.out.Gq Qb.out).2 _ (BO hkl);obtain ⟨nv,hhm⟩:=HV.out.atX Qb.out;rw [hhd] at nv hhm;obtain ⟨Al,cl,hel,-,-,hRl⟩:=ajV.out;injection hel with y1 y2 y3;subst y1 y2 y3;obtain ⟨bl,ol,wW,wZ,d0⟩:=(show Row W3 xa (X.flatMap DR) from hRl).int hkl;subst wW;simp only [YJ] at d0;have kz:(0:Int)<X.length:=by omega
      have kn:¬ X=[]:=hne;have hpl:=HV.out.ady hdd;have au:=AA (fun W (hW:AU W3 W)=>Kv.out X[0] hdd W (bT (bT HB1.out HB3.out) hW));generalize X[0]=dd at *;generalize MC p dd=P at *;have zo:=AA (fun W (hW:AU W3 W)=>Jw.out (.slice Ao OL.length co) OL (P.getD 0 AY) W (bT (bT HB1.out HB3.out) hW) (Nk.out.read.mono (bT HB3.out hW)) VB.out nv);generalize P.getD 0 AY=pt at *;have je:=AA hhm;have kp:(0:Int)<P.length:=by omega
      have kp3:0<P.length:=by omega
      have kp2:¬ P=[]:=fun e=>by rw [e] at hpl;simp at hpl
      have X1:=Dt.out.keep HB3.out;clear hrs hne hhd hdd nv hhm hRl
      try clear BF BG BH BI
      obtain ⟨BF,BG,BH,BI,-,-,-⟩:=X1.Az;go_upto_region 12 with fail;refine DJ (W3) (.run 9 0 0 (.call 9 1023 (.take 10 2047 (.call 11 4095 (.call 12 8191 (.take 13 16383 (.take 14 32767 (.done)))))))) fun CU QR Ae Ah hS=>?_
      iterate 9 refine Aj ?_
      refine Bj ?_;clear hS;intro K hK AQ;go_simp;refine (au.out _ AQ.out).mono ?_;rintro e CX ⟨b9,o9,c9,rfl,CV,e10,e11,hl9⟩;have hS:Since W3 CX:=bT (w:=W3) AQ.out CV;clear AQ;refine hK.out _ _ hS (fun _=>?_);clear hK K
      try simp only [pu]
      refine Aj ?_;refine Bj ?_;clear hS;intro K hK AQ;go_simp;refine hK.out _ _ AQ.out (fun hS=>?_);clear hK K AQ
      try simp only [pu]
      refine Bj ?_;clear hS;intro K hK AQ;go_simp;refine (zo.out _ AQ.out).mono ?_;rintro e wr2 ⟨⟨n9,rfl,hn9,hh9⟩,Fp⟩;have hS:Since W3 wr2:=bT (w:=W3) AQ.out Fp;clear AQ;refine hK.out _ _ hS (fun _=>?_);clear hK K
      try simp only [pu]
      iterate 2 refine Aj ?_
      refine DF ?_;clear hS Ah Ae;intro hB;obtain ⟨W5,IY⟩:∃ W:World,W=wr2:=⟨_,rfl⟩;rw [<- IY] at hB ⊢;have Cm:=AA (bT HB3.out hB);have Ii:=AA (Jq.out.keep hB);have Oa:=AA (gB RI.out hB);have ayg:=AA (ajW.out.keep hB);replace c0:=Eh hB c0;have kH:b<W5.heap.size:=by have:=hB.size;omega
      have Tc:w4.heap.size<=W5.heap.size:=by have:=hB.size;omega
      have rE:w1.heap.size<=W5.heap.size:=by omega
      rw [je.out] at hh9;have rF:=AA hh9;have atb:n9<=512:=by omega
      have zq:IntKind.i64.wrap (1+((n9:Int)-1))=(n9:Int):=by rw [D6 _ AB];omega
      try rw [zq]
      have hbl:n9<L2.length:=by have:=HD.out.len;omega
      clear hB CV Fp IY X1 BF BG BH BI au zo HB3 Jq RI ajW e10 e11 hl9 d0 wZ qy kz kn kp kp2 kp3 hh9 zq hpl ajV;obtain ⟨g',Gn,-,hgl,-,hce⟩:=Own.P5 Ii.out.own AB;injection Gn with Gn;injection Gn with Gn _ _;subst Gn;obtain ⟨-,-,e2,-⟩:=hce n9 hbl;have LV:=Ii.out.inn _ (BO hbl);have hse:=(HZ.out _ (BO hbl)).1;have hNl:L2[n9].inn.length<=512:=by
       have:=congrArg List.length (HD.out.inn n9 hbl)
       rw [Cj] at this;rw [this];refine EH (OA _ _) ?_;unfold dw;refine EH (OA _ _) ?_;rw [Iw];omega
      have zV:=AA (show Ints w4 (BK ⟨some ⟨bl,ol,none⟩,X.length,xc⟩) X from (Qd.out.2 _ HCm.out).sl);have RZ:=AA (fun (Oy:SV) (h9:∀ q,(BK Oy).ownBlock=some q->w4.heap.size<=q)=>show ∀ x∈L2.set n9 {L2[n9] with inn:=L2[n9].inn++[((X,⟨some ⟨bl,ol,none⟩,X.length,xc⟩):List Int×SV)],iv:=Oy},(∀ g,(BK x.iv).ownBlock=some g->w4.heap.size<=g)/\x.av=sv0/\(∀ d∈x.inn,d∈CL)/\x.tw=0/\Own w1 w.heap.size 3 1 DR (BK x.ov) x.out from fun x hx=>by
       rcases V7 hx with ⟨rfl,_⟩ | ⟨q,hq,_,rfl⟩
       ·obtain ⟨z1,z2,z3,z4,z5⟩:=HZ.out _ (BO hbl);refine ⟨h9,z2,fun d hd=>?_,z4,z5⟩;rcases FX.1 hd with hd | hd
        · exact z3 d hd
        · rw [EP] at hd;subst hd;exact HCm.out
       · exact HZ.out _ (BO hq))
      obtain ⟨iv,hiv⟩:=BN (L2[n9].iv);obtain ⟨N,hN⟩:=BN (L2[n9].inn);rw [hiv,hN] at LV;rw [hiv] at e2 hse;rw [hN] at hNl;obtain ⟨ia,II,ic⟩:=iv;unfold BK at LV e2 hse;have aAW:=AA hiv;have OE:=AA hN;have RY:=AA hse;have Gm:=AA LV;clear hiv hN hce hse LV;have kb1:(n9:Int)<L.length:=by omega
      have kb2:0<=(n9:Int):=by omega
      have hsh:(N++[((X,⟨some ⟨bl,ol,none⟩,X.length,xc⟩):List Int×SV)]).length=N.length+1:=by simp
      have DW:=AA hsh;clear hsh;go_upto_region 13 with fail;refine Rz (w1.heap.size) (W5) (.run 6 0 0 (.run 3 7 63 (.two 6 1023 (.call 10 2047 (.call 11 4095 (.call 12 8191 (.take 13 16383 (.take 14 32767 (.call 15 65535 (.done))))))) 10 1983 (.two 6 2047 (.call 11 4095 (.call 12 8191 (.take 13 16383 (.take 14 32767 (.call 15 65535 (.done)))))) 11 4031 (.call 6 4095 (.call 12 8191 (.take 13 16383 (.take 14 32767 (.call 15 65535 (.done)))))))))) fun CU QR Ae Ah hS=>?_
      iterate 9 refine Aj ?_
      refine PD (i:=6) (j:=10) (Ew Ae rfl) (Ew Ae rfl) (fun K hK=>?_) (fun K hK=>?_)
      ·have AQ:=AA hS;clear hS;refine FY (FV rfl) ?_;go_simp;refine hK.out _ _ AQ.out (fun hS=>?_);clear hK K AQ
       try simp only [pu]
       refine Bj ?_;clear hS;intro K hK AQ;go_simp;refine hK.out _ _ AQ.out (fun hS=>?_);clear hK K AQ
       try simp only [pu]
       refine Bj ?_;clear hS;intro K hK AQ;go_simp;refine hK.out _ _ (IB AB AQ.out _) (fun hS=>?_);clear hK K AQ
       try simp only [pu]
       refine Bj ?_;clear hS;intro K hK AQ;refine JV (.tmp 68) (.tmp 73) _ rfl (base:=w1.heap.size) ZX XZ ZW rfl ((Gm.out.keep (bD (bR W5))).alloc _) rfl (l2:=[((X,⟨some ⟨bl,ol,none⟩,X.length,xc⟩):List Int×SV)]) (Sl.lit (n:=1) (AO.made rfl _ _) rfl (DN AB)) DZ DZ DT ?_;intro v5 w5 Di hg5 Gi;obtain ⟨A5,c5,hv5,-⟩:=Own.Ig Di;rw [DW.out] at hv5;subst hv5;have hown5:=Own.grown ((Ii.out.own.keep (bD (bR W5))).alloc _) hg5 (fun g hg=>Own.apart Ii.out.own Gm.out Aw g hg);obtain ⟨g',hg',-,SS,G6,Hw⟩:=Own.P5 hown5 AB;injection hg' with hg';injection hg' with hg' _ _;subst hg';obtain ⟨-,-,f2,-⟩:=Hw n9 hbl;have hf2:=G6 (n9*4+2);have ZC:=AA (GY.aCa Aw (Ii.out.keep (bA (bD (bR W5)) _)) hbl (Oy:=⟨A5,N.length+1,c5⟩) (c:=(X,⟨some ⟨bl,ol,none⟩,X.length,xc⟩)) Zw Zu Zv (zV.out));have WR:=AA (gS (jm (gA (gD Oa.out) _) hg5 (fun q hq=>RY.out q hq)) (n9*4+2) (.slice A5 (N.length+1) c5));have ZE:=AA (show ∀ q,(Value.slice A5 (N.length+1) c5).ownBlock=some q->w4.heap.size<=q from jo Gi RY.out DT);have hS:GK (w1.heap.size) W5 w5:=Below.grown (show Below w1.heap.size W5 _ from AQ.out) hg5 (EH rE (show Below w1.heap.size W5 _ from AQ.out).size) (fun g hg=>(Gm.out.lt g hg).1);clear Di hg5 Gi hown5 Hw G6 e2;clear AQ;refine hK.out _ _ hS (fun _=>?_);clear hK K
       try simp only [pu]
       iterate 2 refine Aj ?_
       refine Bj ?_;clear hS;intro K hK AQ;go_simp;refine hK.out _ _ (by unfold GK;have h:Below _ _ _:=AQ.out;repeat (first | with_reducible assumption | with_reducible exact Below.refl _ _ | with_reducible refine MO ?_ OB _ | with_reducible refine Below.drew ?_ | with_reducible refine IB AB ?_ _ | exact h)) ?_;intro hS;clear hK K AQ
       try simp only [pu]
       refine LY ?_;clear hS Ah Ae;intro hB;go_wp2;go_roundw
       case rel => exact ⟨j+1,_,AB,BJ,by rw [OD];exact hl3,ZC.out,by rw [Zi.out];exact HD.out.inner JI.out hbl X ⟨some ⟨bl,ol,none⟩,X.length,xc⟩ ⟨A5,N.length+1,c5⟩ rF.out,RZ.out ⟨A5,N.length+1,c5⟩ ZE.out,WR.out⟩
       case measure => exact BL
      ·have AQ:=AA hS;clear hS;refine FY (FV rfl) ?_;go_simp;refine hK.out _ _ AQ.out (fun hS=>?_);clear hK K AQ
       try simp only [pu]
       refine PD (i:=6) (j:=11) (Ew Ae rfl) (Ew Ae rfl) (fun K hK=>?_) (fun K hK=>?_)
       ·have AQ:=AA hS;clear hS;refine FY (FV rfl) ?_;go_simp;refine hK.out _ _ AQ.out (fun hS=>?_);clear hK K AQ
        try simp only [pu]
        refine Bj ?_;clear hS;intro K hK AQ;go_simp;refine hK.out _ _ (IB AB AQ.out _) (fun hS=>?_);clear hK K AQ
        try simp only [pu]
        refine Bj ?_;clear hS;intro K hK AQ;refine JV (.tmp 68) (.tmp 73) _ rfl (base:=w1.heap.size) ZX XZ ZW rfl ((Gm.out.keep (bD (bR W5))).alloc _) rfl (l2:=[((X,⟨some ⟨bl,ol,none⟩,X.length,xc⟩):List Int×SV)]) (Sl.lit (n:=1) (AO.made rfl _ _) rfl (DN AB)) DZ DZ DT ?_;intro v5 w5 Di hg5 Gi;obtain ⟨A5,c5,hv5,-⟩:=Own.Ig Di;rw [DW.out] at hv5;subst hv5;have hown5:=Own.grown ((Ii.out.own.keep (bD (bR W5))).alloc _) hg5 (fun g hg=>Own.apart Ii.out.own Gm.out Aw g hg);obtain ⟨g',hg',-,SS,G6,Hw⟩:=Own.P5 hown5 AB;injection hg' with hg';injection hg' with hg' _ _;subst hg';obtain ⟨-,-,f2,-⟩:=Hw n9 hbl;have hf2:=G6 (n9*4+2);have ZC:=AA (GY.aCa Aw (Ii.out.keep (bA (bD (bR W5)) _)) hbl (Oy:=⟨A5,N.length+1,c5⟩) (c:=(X,⟨some ⟨bl,ol,none⟩,X.length,xc⟩)) Zw Zu Zv (zV.out));have WR:=AA (gS (jm (gA (gD Oa.out) _) hg5 (fun q hq=>RY.out q hq)) (n9*4+2) (.slice A5 (N.length+1) c5));have ZE:=AA (show ∀ q,(Value.slice A5 (N.length+1) c5).ownBlock=some q->w4.heap.size<=q from jo Gi RY.out DT);have hS:GK (w1.heap.size) W5 w5:=Below.grown (show Below w1.heap.size W5 _ from AQ.out) hg5 (EH rE (show Below w1.heap.size W5 _ from AQ.out).size) (fun g hg=>(Gm.out.lt g hg).1);clear Di hg5 Gi hown5 Hw G6 e2;clear AQ;refine hK.out _ _ hS (fun _=>?_);clear hK K
        try simp only [pu]
        iterate 2 refine Aj ?_
        refine Bj ?_;clear hS;intro K hK AQ;go_simp;refine hK.out _ _ (by unfold GK;have h:Below _ _ _:=AQ.out;repeat (first | with_reducible assumption | with_reducible exact Below.refl _ _ | with_reducible refine MO ?_ OB _ | with_reducible refine Below.drew ?_ | with_reducible refine IB AB ?_ _ | exact h)) ?_;intro hS;clear hK K AQ
        try simp only [pu]
        refine LY ?_;clear hS Ah Ae;intro hB;go_wp2;go_roundw
        case rel => exact ⟨j+1,_,AB,BJ,by rw [OD];exact hl3,ZC.out,by rw [Zi.out];exact HD.out.inner JI.out hbl X ⟨some ⟨bl,ol,none⟩,X.length,xc⟩ ⟨A5,N.length+1,c5⟩ rF.out,RZ.out ⟨A5,N.length+1,c5⟩ ZE.out,WR.out⟩
        case measure => exact BL
       ·have AQ:=AA hS;clear hS;refine FY (FV rfl) ?_;go_simp;refine hK.out _ _ (IB AB AQ.out _) (fun hS=>?_);clear hK K AQ
        try simp only [pu]
        refine Bj ?_;clear hS;intro K hK AQ;go_simp;refine hK.out _ _ AQ.out (fun hS=>?_);clear hK K AQ
        try simp only [pu]
        refine Bj ?_;clear hS;intro K hK AQ;refine JV (.tmp 68) (.tmp 73) _ rfl (base:=w1.heap.size) ZX XZ ZW rfl ((Gm.out.keep (bD (bR W5))).alloc _) rfl (l2:=[((X,⟨some ⟨bl,ol,none⟩,X.length,xc⟩):List Int×SV)]) (Sl.lit (n:=1) (AO.made rfl _ _) rfl (DN AB)) DZ DZ DT ?_;intro v5 w5 Di hg5 Gi;obtain ⟨A5,c5,hv5,-⟩:=Own.Ig Di;rw [DW.out] at hv5;subst hv5;have hown5:=Own.grown ((Ii.out.own.keep (bD (bR W5))).alloc _) hg5 (fun g hg=>Own.apart Ii.out.own Gm.out Aw g hg);obtain ⟨g',hg',-,SS,G6,Hw⟩:=Own.P5 hown5 AB;injection hg' with hg';injection hg' with hg' _ _;subst hg';obtain ⟨-,-,f2,-⟩:=Hw n9 hbl;have hf2:=G6 (n9*4+2);have ZC:=AA (GY.aCa Aw (Ii.out.keep (bA (bD (bR W5)) _)) hbl (Oy:=⟨A5,N.length+1,c5⟩) (c:=(X,⟨some ⟨bl,ol,none⟩,X.length,xc⟩)) Zw Zu Zv (zV.out));have WR:=AA (gS (jm (gA (gD Oa.out) _) hg5 (fun q hq=>RY.out q hq)) (n9*4+2) (.slice A5 (N.length+1) c5));have ZE:=AA (show ∀ q,(Value.slice A5 (N.length+1) c5).ownBlock=some q->w4.heap.size<=q from jo Gi RY.out DT);have hS:GK (w1.heap.size) W5 w5:=Below.grown (show Below w1.heap.size W5 _ from AQ.out) hg5 (EH rE (show Below w1.heap.size W5 _ from AQ.out).size) (fun g hg=>(Gm.out.lt g hg).1);clear Di hg5 Gi hown5 Hw G6 e2;clear AQ;refine hK.out _ _ hS (fun _=>?_);clear hK K
        try simp only [pu]
        iterate 2 refine Aj ?_
        refine Bj ?_;clear hS;intro K hK AQ;go_simp;refine hK.out _ _ (by unfold GK;have h:Below _ _ _:=AQ.out;repeat (first | with_reducible assumption | with_reducible exact Below.refl _ _ | with_reducible refine MO ?_ OB _ | with_reducible refine Below.drew ?_ | with_reducible refine IB AB ?_ _ | exact h)) ?_;intro hS;clear hK K AQ
        try simp only [pu]
        refine LY ?_;clear hS Ah Ae;intro hB;go_wp2;go_roundw
        case rel => exact ⟨j+1,_,AB,BJ,by rw [OD];exact hl3,ZC.out,by rw [Zi.out];exact HD.out.inner JI.out hbl X ⟨some ⟨bl,ol,none⟩,X.length,xc⟩ ⟨A5,N.length+1,c5⟩ rF.out,RZ.out ⟨A5,N.length+1,c5⟩ ZE.out,WR.out⟩
        case measure => exact BL
     ·have hrs:=HRs.out;rw [AZ AB,JA] at hrs;have Zi:=AA hrs;clear hrs;go_wp2;go_roundw
      case rel => exact ⟨j+1,L2,AB,BJ,hl3,Jq.out,by rw [Zi.out];exact HD.out,HZ.out,RI.out⟩
      case measure => exact BL
    ·have hjj:j=(Ce p).length:=by have:=zl.out;omega
     have hd:=HD.out;rw [hjj,ajk] at hd;have HD6:=AA hd;have hXB:w.heap.size<w1.heap.size:=Dt.out.lt;clear hd HD hjj;go_wp2_with fail;go_loopw [10] (fun i wr=>∃ (k:Nat) (L3:List AD),k<=p.nodes.length/\i=.int .i64 k/\L3.length=L.length/\GY 62 w4 wr w1.heap.size (.slice (some ⟨gL,0,none⟩) L.length c) L3/\Gz p L3 O (Js p) (p.nodes.take k)/\(∀ x∈L3,(∀ g,(BK x.av).ownBlock=some g->w4.heap.size<=g)/\(∀ d∈x.inn,d∈CL)/\x.tw=0/\Own w1 w.heap.size 3 1 DR (BK x.ov) x.out)/\w4.grownBy wr (some gL)) (fun i _=>p.nodes.length-(intOf i).toNat)
     case atStart => exact ⟨0,L2,Bv _,rfl,hl3,HA.out,by rw [O8];exact HD6.out,(fun x hx=>by
      obtain ⟨e1,e2,e3,e4,e5⟩:=HZ.out x hx;exact ⟨(fun g hg=>by rw [e2] at hg;cases hg),e3,e4,e5⟩),HG.out⟩
     case round =>
      clear HA HD6 HZ HG HB hzp;obtain ⟨k,L3,hk,rfl,hl4,had,hdv,hz,hg⟩:=hrel;obtain ⟨wq,rfl⟩:=BR wr;have HA:=AA had;have HD:=AA hdv;have HZ:=AA hz;have HG:=AA hg;have HB:=AA (show AU w1 wq from bG HB4.out hg (fun g hg=>by have:=Dq hg;omega));have hzq:w4.heap.size<=wq.heap.size:=hg.size;have X1:=Dt.out.keep HB.out;clear had hdv hz hg
      try clear BF BG BH BI
      obtain ⟨BF,BG,BH,BI,-,-,-⟩:=X1.Az;by_cases hlk:k<p.nodes.length
      ·obtain ⟨b,o,rfl,hlb0,c0,c1,c2⟩:=(HRn.out).nd hlk;have ayh:b<w1.heap.size:=by omega
       have htk:p.nodes.take (k+1)=p.nodes.take k++[p.nodes[k]]:=F7 hlk;have nv:=HV.out.wH (BO hlk);generalize p.nodes[k]=nd at *;have FI:=AA htk;have WJ:=AA nv;have VA:=AA c0;have dZ:=AA c1;have HC2:=AA c2;have jf:=AA (fun W (hW:AU w W)=>aj.out nd.id W hW);have Zj:=AA (fun h0=>HD.out.pass nd h0);clear htk nv c0 c1 c2;obtain ⟨dg,hdg⟩:=BN (Na p.AP nd.id);rw [hdg] at jf Zj;have ql:=AA hdg;clear hdg;have c0:=Eh (bT HB1.out HB.out) VA.out;have hlb:b<wq.heap.size:=by omega
       go_upto_region 17 with fail;refine DJ (wq) (.run 7 0 0 (.call 7 255 (.take 8 511 (.done)))) fun CU QR Ae Ah hS=>?_
       iterate 7 refine Aj ?_
       refine GL (jf.out _ (bT (bT HB1.out HB.out) hS)) ?_;clear hS;intro CX CV hS;refine Aj ?_;refine DF ?_;clear hS Ah Ae;intro hB;obtain ⟨W3,hW3⟩:∃ W:World,W=CX:=⟨_,rfl⟩;rw [<- hW3] at hB CV ⊢;have HB3:=AA (bT HB.out hB);have Jq:=AA (HA.out.keep hB);have RI:=AA (gB HG.out hB);have qy:b<W3.heap.size:=by have:=hB.size;omega
       have hz3:w4.heap.size<=W3.heap.size:=by have:=hB.size;omega
       clear hB CV hW3 X1 BF BG BH BI HB HA HG hzq c0 hlb jf;by_cases h0:dg=0
       ·subst h0;have zo:=AA (fun W (hW:AU W3 W)=>Jw.out (.slice Ao OL.length co) OL nd.pt W (bT (bT HB1.out HB3.out) hW) (Nk.out.read.mono (bT HB3.out hW)) VB.out WJ.out);have X1:=Dt.out.keep HB3.out;have c0:=Eh (bT HB1.out HB3.out) VA.out;have c1:=Eh (bT HB1.out HB3.out) dZ.out;have c2:=Eh (bT HB1.out HB3.out) HC2.out;clear Zj
        try clear BF BG BH BI
        obtain ⟨BF,BG,BH,BI,-,-,-⟩:=X1.Az;go_upto_region 18 with fail;refine DJ (W3) (.run 8 0 0 (.call 8 511 (.take 9 1023 (.take 10 2047 (.done))))) fun CU QR Ae Ah hS=>?_
        iterate 8 refine Aj ?_
        refine Bj ?_;clear hS;intro K hK AQ;go_simp;refine (zo.out _ AQ.out).mono ?_;rintro e CX ⟨⟨n9,rfl,hn9,hh9⟩,CV⟩;have hS:Since W3 CX:=bT (w:=W3) AQ.out CV;clear AQ;refine hK.out _ _ hS (fun _=>?_);clear hK K
        try simp only [pu]
        iterate 2 refine Aj ?_
        refine DF ?_;clear hS Ah Ae;intro hB;obtain ⟨W5,IY⟩:∃ W:World,W=CX:=⟨_,rfl⟩;rw [<- IY] at hB ⊢;have Cm:=AA (bT HB3.out hB);have Ii:=AA (Jq.out.keep hB);have Oa:=AA (gB RI.out hB);have kH:b<W5.heap.size:=by have:=hB.size;omega
        have Tc:w4.heap.size<=W5.heap.size:=by have:=hB.size;omega
        have rE:w1.heap.size<=W5.heap.size:=by omega
        have rF:=AA hh9;have atb:n9<=512:=by omega
        have zq:IntKind.i64.wrap (1+((n9:Int)-1))=(n9:Int):=by rw [D6 _ AB];omega
        try rw [zq]
        have hbl:n9<L3.length:=by have:=HD.out.len;omega
        clear hB CV IY X1 BF BG BH BI zo HB3 Jq RI qy hh9 zq c0 c1 c2;obtain ⟨g',Gn,-,hgl,-,hce⟩:=Own.P5 Ii.out.own AB;injection Gn with Gn;injection Gn with Gn _ _;subst Gn;obtain ⟨-,-,-,e2⟩:=hce n9 hbl;have LV:=Ii.out.DC _ (BO hbl);have hse:=(HZ.out _ (BO hbl)).1;have hNl:L3[n9].DC.length<=256:=by
         rw [HD.out.DC n9 hbl,Cj];exact EH (OA _ _) su
        have RZ:=AA (fun (OV:SV) (h9:∀ q,(BK OV).ownBlock=some q->w4.heap.size<=q)=>show ∀ x∈L3.set n9 {L3[n9] with DC:=L3[n9].DC++[nd.id],av:=OV},(∀ g,(BK x.av).ownBlock=some g->w4.heap.size<=g)/\(∀ d∈x.inn,d∈CL)/\x.tw=0/\Own w1 w.heap.size 3 1 DR (BK x.ov) x.out from fun x hx=>by
         rcases V7 hx with ⟨rfl,_⟩ | ⟨q,hq,_,rfl⟩
         ·obtain ⟨z1,z2,z3,z4⟩:=HZ.out _ (BO hbl);exact ⟨h9,z2,z3,z4⟩
         · exact HZ.out _ (BO hq))
        obtain ⟨iv,hiv⟩:=BN (L3[n9].av);obtain ⟨N,hN⟩:=BN (L3[n9].DC);rw [hiv,hN] at LV;rw [hiv] at e2 hse;rw [hN] at hNl;obtain ⟨ia,II,ic⟩:=iv;unfold BK at LV e2 hse;have aAW:=AA hiv;have OE:=AA hN;have RY:=AA hse;have Gm:=AA LV;clear hiv hN hce hse LV;have kb1:(n9:Int)<L.length:=by omega
        have kb2:0<=(n9:Int):=by omega
        have hsh:(N++[nd.id]).length=N.length+1:=by simp
        have DW:=AA hsh;clear hsh;have X1:=Dt.out.keep Cm.out;have c0:=Eh (bT HB1.out Cm.out) VA.out
        try clear BF BG BH BI
        obtain ⟨BF,BG,BH,BI,-,-,-⟩:=X1.Az;go_upto_region 19 with fail;refine Rz (w1.heap.size) (W5) (.run 6 0 0 (.run 6 7 63 (.two 6 8191 (.call 13 16383 (.call 14 32767 (.take 15 65535 (.take 16 131071 (.call 17 262143 (.done)))))) 13 16319 (.call 6 16383 (.call 14 32767 (.take 15 65535 (.take 16 131071 (.call 17 262143 (.done))))))))) fun CU QR Ae Ah hS=>?_
        iterate 12 refine Aj ?_
        refine PD (i:=6) (j:=13) (Ew Ae rfl) (Ew Ae rfl) (fun K hK=>?_) (fun K hK=>?_)
        ·have AQ:=AA hS;clear hS;refine FY (FV rfl) ?_;go_simp;refine hK.out _ _ AQ.out (fun hS=>?_);clear hK K AQ
         try simp only [pu]
         refine Bj ?_;clear hS;intro K hK AQ;go_simp;refine hK.out _ _ (IB AB AQ.out _) (fun hS=>?_);clear hK K AQ
         try simp only [pu]
         refine Bj ?_;clear hS;intro K hK AQ;refine JV (.tmp 109) (.tmp 116) _ rfl (base:=w1.heap.size) JW Iz JR rfl ((Gm.out.keep (bD (bR W5))).alloc _) rfl (l2:=[nd.id]) (Sl.lit (n:=1) (AO.made rfl _ _) rfl (DN AB)) DZ DZ DT ?_;intro v5 w5 Di hg5 Gi;obtain ⟨A5,c5,hv5,-⟩:=Own.Ig Di;rw [DW.out] at hv5;subst hv5;have hown5:=Own.grown ((Ii.out.own.keep (bD (bR W5))).alloc _) hg5 (fun g hg=>Own.apart Ii.out.own Gm.out Aw g hg);obtain ⟨g',hg',-,SS,G6,Hw⟩:=Own.P5 hown5 AB;injection hg' with hg';injection hg' with hg' _ _;subst hg';obtain ⟨-,-,-,f2⟩:=Hw n9 hbl;have hf2:=G6 (n9*4+3);have ZC:=AA (GY.wP Aw (Ii.out.keep (bA (bD (bR W5)) _)) hbl (OV:=⟨A5,N.length+1,c5⟩) (c:=nd.id) Zw Zu Zv);have WR:=AA (gS (jm (gA (gD Oa.out) _) hg5 (fun q hq=>RY.out q hq)) (n9*4+3) (.slice A5 (N.length+1) c5));have ZE:=AA (show ∀ q,(Value.slice A5 (N.length+1) c5).ownBlock=some q->w4.heap.size<=q from jo Gi RY.out DT);have hS:GK (w1.heap.size) W5 w5:=Below.grown (show Below w1.heap.size W5 _ from AQ.out) hg5 (EH rE (show Below w1.heap.size W5 _ from AQ.out).size) (fun g hg=>(Gm.out.lt g hg).1);clear Di hg5 Gi hown5 Hw G6 e2;clear AQ;refine hK.out _ _ hS (fun _=>?_);clear hK K
         try simp only [pu]
         iterate 2 refine Aj ?_
         refine Bj ?_;clear hS;intro K hK AQ;go_simp;refine hK.out _ _ (by unfold GK;have h:Below _ _ _:=AQ.out;repeat (first | with_reducible assumption | with_reducible exact Below.refl _ _ | with_reducible refine MO ?_ OB _ | with_reducible refine Below.drew ?_ | with_reducible refine IB AB ?_ _ | exact h)) ?_;intro hS;clear hK K AQ
         try simp only [pu]
         refine LY ?_;clear hS Ah Ae;intro hB;go_wp2;go_roundw
         case rel => exact ⟨k+1,_,AB,BJ,aAV,ZC.out,by rw [FI.out];exact HD.out.lone JI.out hbl nd ⟨A5,N.length+1,c5⟩ ql.out rF.out,RZ.out ⟨A5,N.length+1,c5⟩ ZE.out,WR.out⟩
         case measure => exact BL
        ·have AQ:=AA hS;clear hS;refine FY (FV rfl) ?_;go_simp;refine hK.out _ _ (IB AB AQ.out _) (fun hS=>?_);clear hK K AQ
         try simp only [pu]
         refine Bj ?_;clear hS;intro K hK AQ;go_simp;refine hK.out _ _ AQ.out (fun hS=>?_);clear hK K AQ
         try simp only [pu]
         refine Bj ?_;clear hS;intro K hK AQ;refine JV (.tmp 109) (.tmp 116) _ rfl (base:=w1.heap.size) JW Iz JR rfl ((Gm.out.keep (bD (bR W5))).alloc _) rfl (l2:=[nd.id]) (Sl.lit (n:=1) (AO.made rfl _ _) rfl (DN AB)) DZ DZ DT ?_;intro v5 w5 Di hg5 Gi;obtain ⟨A5,c5,hv5,-⟩:=Own.Ig Di;rw [DW.out] at hv5;subst hv5;have hown5:=Own.grown ((Ii.out.own.keep (bD (bR W5))).alloc _) hg5 (fun g hg=>Own.apart Ii.out.own Gm.out Aw g hg);obtain ⟨g',hg',-,SS,G6,Hw⟩:=Own.P5 hown5 AB;injection hg' with hg';injection hg' with hg' _ _;subst hg';obtain ⟨-,-,-,f2⟩:=Hw n9 hbl;have hf2:=G6 (n9*4+3);have ZC:=AA (GY.wP Aw (Ii.out.keep (bA (bD (bR W5)) _)) hbl (OV:=⟨A5,N.length+1,c5⟩) (c:=nd.id) Zw Zu Zv);have WR:=AA (gS (jm (gA (gD Oa.out) _) hg5 (fun q hq=>RY.out q hq)) (n9*4+3) (.slice A5 (N.length+1) c5));have ZE:=AA (show ∀ q,(Value.slice A5 (N.length+1) c5).ownBlock=some q->w4.heap.size<=q from jo Gi RY.out DT);have hS:GK (w1.heap.size) W5 w5:=Below.grown (show Below w1.heap.size W5 _ from AQ.out) hg5 (EH rE (show Below w1.heap.size W5 _ from AQ.out).size) (fun g hg=>(Gm.out.lt g hg).1);clear Di hg5 Gi hown5 Hw G6 e2;clear AQ;refine hK.out _ _ hS (fun _=>?_);clear hK K
         try simp only [pu]
         iterate 2 refine Aj ?_
         refine Bj ?_;clear hS;intro K hK AQ;go_simp;refine hK.out _ _ (by unfold GK;have h:Below _ _ _:=AQ.out;repeat (first | with_reducible assumption | with_reducible exact Below.refl _ _ | with_reducible refine MO ?_ OB _ | with_reducible refine Below.drew ?_ | with_reducible refine IB AB ?_ _ | exact h)) ?_;intro hS;clear hK K AQ
         try simp only [pu]
         refine LY ?_;clear hS Ah Ae;intro hB;go_wp2;go_roundw
         case rel => exact ⟨k+1,_,AB,BJ,aAV,ZC.out,by rw [FI.out];exact HD.out.lone JI.out hbl nd ⟨A5,N.length+1,c5⟩ ql.out rF.out,RZ.out ⟨A5,N.length+1,c5⟩ ZE.out,WR.out⟩
         case measure => exact BL
       ·have h1:(dg == 0)=false:=by simpa using h0
        have HPq:=AA (Zj.out h0);clear h0 Zj;go_wp2;go_roundw
        case rel => exact ⟨k+1,L3,AB,BJ,hl4,Jq.out,by rw [FI.out];exact HPq.out,HZ.out,RI.out⟩
        case measure => exact BL
      ·have hkk:k=p.nodes.length:=by omega
       have hd:=HD.out;rw [hkk,I4] at hd;have jg:=AA hd;have hz1:=HB1.out.size;have HW:=AA (show zi wq w.heap.size (.slice (some ⟨gL,0,none⟩) L.length c) L3 from ⟨HA.out.own.ES hz1,fun x hx=>(HZ.out x hx).2.2.2.keep HB.out,fun x hx=>(HA.out.inn x hx).ES hz1,fun x hx d hd=>by
        have hm:=(HZ.out x hx).2.1 d hd;have:=Own.grown (Qd.out.2 d hm) HG.out (fun g hg=>Own.apart (Qd.out.2 d hm) HL4.out Aw g hg)
        exact Own.ES this AB,fun x hx=>(HA.out.DC x hx).ES hz1⟩)
       clear hd hkk;go_wp2;go_ret;exact ⟨some ⟨gL,0,none⟩,c,L3,by rw [hl4];rfl,bT HB1.out HB.out,by rw [hl4];exact HW.out,by rw [rD.out];exact jg.out,fun x hx=>(HZ.out x hx).2.2.1⟩
