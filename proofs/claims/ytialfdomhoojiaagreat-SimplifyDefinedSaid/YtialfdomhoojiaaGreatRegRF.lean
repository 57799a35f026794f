import Derived.Test.YtialfdomhoojiaaGreatJ27
set_option linter.unusedSimpArgs false
set_option linter.unusedVariables false
set_option maxRecDepth 100000
set_option maxHeartbeats 8000000
namespace Go.Proofs.YtialfdomhoojiaaGreat
open Go.RowKit
theorem arE:Elem Tryz.prog 29 62 4 80:=Elem.xK (z:=.agg #[.int .i64 0,.slice none 0 0,.slice none 0 0,.slice none 0 0]) atF atF rfl Pe
structure oZ (w:World) (B:Nat) (v:Value) (L:List AD):Prop where
 own:Own w B 62 4 wZ v L
 out:∀ x∈L,Own w B 3 1 dw (bg x.ov) x.out
 inn:∀ x∈L,Own w B 24 1 lJ (bg x.iv) x.inn
 lH:∀ x∈L,∀ c∈x.inn,Own w B 3 1 dw (bg c.2) c.1
 fD:∀ x∈L,Own w B 3 1 dw (bg x.av) x.fD
theorem oZ.keep {w w':World} {B:Nat} {v:Value} {L:List AD} (h:oZ w B v L) (hb:Below w.heap.size w w'):oZ w' B v L :=
 ⟨h.own.keep hb,fun x hx=>(h.out x hx).keep hb,fun x hx=>(h.inn x hx).keep hb,fun x hx c hc=>(h.lH x hx c hc).keep hb,fun x hx=>(h.fD x hx).keep hb⟩
def arF (w:World) (p:Pl) (e:Ending) (w':World):Prop :=
 ∃ A c L,e=.returned (.slice A L.length c)/\Below w.heap.size w w'/\oZ w' w.heap.size (.slice A L.length c) L/\jP p L (sortK (iE p)) (rO p) p.nodes/\∀ x∈L,x.tw=0
theorem Ie.first {w:World} {P:List Pt} {e:Ending} {w':World} (h:Ie w P e w') (hP:0<P.length):∃ b o c,e=.returned (.slice (some ⟨b,o,none⟩) P.length c)/\Below w.heap.size w w'/\w'.cell? ⟨b,o,none⟩=some (.int .i64 (P.getD 0 aA).x)/\w'.cell? ⟨b,o+1,none⟩=some (.int .i64 (P.getD 0 aA).y)/\b<w'.heap.size:=by
 obtain ⟨A,c,rfl,hb,ho⟩:=h;obtain ⟨b,o,rfl,hlb,c0,c1⟩:=(ho.row_of).pt hP;simp only [Nat.zero_mul,Nat.add_zero] at c0 c1;have e:P.getD 0 aA=P[0]:=by simp only [avT,avG hP,avU]
 rw [e];exact ⟨b,o,c,rfl,hb,c0,c1,hlb⟩
theorem Own.GZ {α:Type} {w:World} {base:Nat} {e:TypeId} {size:Nat} {f:α->List Value} {v:Value} {l:List α} (h:Own w base e size f v l) {B':Nat} {e':TypeId} {s':Nat} {β:Type} {f':β->List Value} {g n c:Nat} {l':List β} (h':Own w B' e' s' f' (.slice (some ⟨g,0,none⟩) n c) l') (hne:e≠e') (j:Nat) (u:Value):Own (w.setCell ⟨g,j,none⟩ u) base e size f v l :=
 Own.far h (fun e8=>Own.apart h h' hne g e8 rfl) u
theorem Tn {w0 w1 w2:World} {row r:Option Nat} (h:w0.grownBy w1 row) (k:w1.grownBy w2 r) (hr:∀ g,r=some g->w0.heap.size<=g):w0.grownBy w2 row :=
 ⟨k.os.trans h.os,k.tape.trans h.tape,k.output.trans h.output,avZ h.size k.size,fun i hi hne=>by
  rw [k.block i (awf hi h.size) (fun e=>by have:=hr i e.symm;omega)];exact h.block i hi hne⟩
theorem Tq {n m:Nat} {v v':Value} (hat:v'.ownBlock=v.ownBlock\/v'.ownBlock=some m) (h1:∀ q,v.ownBlock=some q->n<=q) (h2:n<=m):∀ q,v'.ownBlock=some q->n<=q:=fun q hq=>by
 rcases hat with h | h
 · exact h1 q (h.symm.trans hq)
 ·rw [hq] at h;have:=avP h
  omega
theorem Valid.arG {p:Pl} (h:Valid p) {c:List Int} (hc:c∈cO p):aZ ((qC p (c.headD 0)).getD 0 aA)=true/\uQ p ((qC p (c.headD 0)).getD 0 aA)=uQ p (KX p c):=by
 have hne:=h.GH hc;have hd:c.headD 0∈bf p:=(h.lV hc).2 _ (by
  cases c with
  | nil=>exact absurd rfl hne
  | cons a c=>exact av3)
 obtain ⟨a,ha,-,hpt⟩:=h.KU hd;have hl:=ig p a;unfold KX qC;rw [hpt];split
 · exact ⟨h.dS ha Pe,rfl⟩
 ·rw [ab2 Pe];exact ⟨h.dS ha Pe,h.anK ha ha rfl Pe Pe⟩
theorem arH (v:Value) (p:Pl) (w:World) (h:bQ w v p) (hv:Valid p):Calls Tryz.prog 66 #[v] w (arF w p):=by
 have HOu:=avE (fun W (hW:Below w.heap.size w W)=>arB v p W (h.mono hW) hv);have mM:=avE (fun W (hW:Below w.heap.size w W)=>ah7 v p W (h.mono hW) hv);have xk:=avE (fun u l (hl:l∈cO p) W (hu:Ints W u l) (hW:Below w.heap.size w W)=>show Calls Tryz.prog 132 #[v,u] W fun e w'=>e=.returned (.int .i64 (iD p l))/\Below W.heap.size W w' from by
  have t:=aan v u p l W (h.mono hW) hu hv (fun d hd=>by have:=hv.tZ ((hv.lV hl).2 d hd);exact qX Pe Pe);rw [hv.Xb hl] at t;exact t)
 have oI:=avE (fun d (hd:d∈bf p) W (hW:Below w.heap.size w W)=>(ahW v p d W (h.mono hW) hv hd).mono fun e w' hr=>hr.first (by have:=hv.ab5 hd;omega));have acv:=fun vl CL at_ W (hW:Below w.heap.size w W) hC hcl nv=>aq6 v vl p CL (sortK (iE p)) at_ W (h.mono hW) hv hC hcl (SI (iE p)).1 nv;unfold aK at acv;have pO:=avE acv;have I9:=avE (fun id W (hW:Below w.heap.size w W)=>ajQ v p id W (h.mono hW) (by have:=hv.lim;unfold nC at this;simp only [Bool.or_eq_false_iff,avX] at this;omega));have HV:=avE hv;have hcn:=hv.GI;have hnl:=hv.VO;have yJ:=avE ((SI (iE p)).1.nodup_iff.2 hv.ahM);have hol:(sortK (iE p)).length<=512:=by
  rw [(SI (iE p)).1.length_eq];exact avZ (List.length_filter_le _ _) hv.GI
 obtain ⟨_,_,_,al,rfl,hpa,⟨An,cn,rfl,hn1,hn2,hR⟩,⟨⟨Aa,ca,rfl,-⟩,-⟩,⟨Af,cf,rfl,-⟩⟩:=h;unfold maxLen at hn2;have HRn:=avE hR;clear hpa hv acv hR;generalize al.length=na at *;generalize p.faces.length=nf at *;obtain ⟨O,hO⟩:∃ O,sortK (iE p)=O:=⟨_,rfl⟩;have Tt:=avE hO;rw [hO] at yJ hol pO;clear hO;go_enter Tryz.func66,Tryz.ntmps66;go_wp2_with fail;refine (HOu.out _ (bA (bR w) _)).mono ?_;rintro e w1 ⟨Ao,co,OL,rfl,hb1,hoo,XM⟩;rw [Tt.out] at XM;have hle:OL.length=O.length:=by rw [<- XM,avM]
 have acw:OL.length<=512:=by omega
 have X1:ah w1 w.heap.size 26 #[.slice An p.nodes.length cn,.slice Aa na ca,.slice Af nf cf]:=(ah.made rfl _ _).keep hb1;have HB1:=avE (bT (bA (bR w) _) hb1);have gq:=avE X1;have Gh:=avE (show zJ w1 w.heap.size (.slice Ao OL.length co) OL from ⟨hoo.1.fG ars,fun x hx=>(hoo.2 x hx).fG ars⟩);have EO:=avE XM;have qO:=avE hle;clear hb1 HOu hoo XM hle X1;go_upto_region 3 with fail;obtain ⟨W2,hW⟩:∃ W:World,W=w1.alloc (.cells #[.int .i64 0,.slice none 0 0,.slice none 0 0,.slice none 0 0] 62):=⟨_,rfl⟩;have iU:=avE (show Own W2 w1.heap.size 62 4 wZ (.slice (some ⟨w1.heap.size,0,none⟩) 1 1) [ad0] by rw [hW];exact Own.lit _ _ _ _ _ _ _ _ _ rfl rfl (awe _) (dP Pe) rfl rfl);have HB2:=avE (show Below w1.heap.size w1 W2 by rw [hW];exact bA (bR w1) _);rw [<- hW];clear hW;have HA2:=avE (show jm 62 w1 W2 w1.heap.size (.slice (some ⟨w1.heap.size,0,none⟩) 1 1) [ad0] from ⟨iU.out,(fun x hx=>by rw [avY] at hx;subst hx;exact Sl.nil _),(fun x hx=>by rw [avY] at hx;subst hx;exact Own.nil _ _ _ _ _),(fun x hx=>by rw [avY] at hx;subst hx;intro c hc;cases hc),(fun x hx=>by rw [avY] at hx;subst hx;exact Own.nil _ _ _ _ _),List.pairwise_singleton _ _,List.pairwise_singleton _ _⟩);clear iU;go_wp2_with fail;go_loopw [4,5] (fun s i wr=>∃ (k:Nat) (L:List AD),k<=OL.length/\i=.int .i64 k/\(∃ A c,s=.slice A L.length c)/\jm 62 w1 wr w1.heap.size s L/\jP p L (O.take k) [] []/\(∀ x∈L,x.iv=sv0/\x.av=sv0/\x.inn=[]/\x.tw=0/\Own w1 w.heap.size 3 1 dw (bg x.ov) x.out)/\L.length=k+1/\Below w1.heap.size w1 wr) (fun _ i _=>OL.length-(intOf i).toNat)
 case atStart => exact ⟨0,[ad0],avK _,rfl,⟨_,_,rfl⟩,HA2.out,by rw [List.take_zero];exact jP.start p ad0 rfl rfl rfl,(fun x hx=>by rw [avY] at hx;subst hx;exact ⟨rfl,rfl,rfl,rfl,Own.nil _ _ _ _ _⟩),rfl,HB2.out⟩
 case round =>
  clear HA2 HB2;obtain ⟨k,L,hk,rfl,⟨A,c,rfl⟩,had,hdv,hz,hll,hb⟩:=hrel;obtain ⟨wo,rfl⟩:∃ wo:World,wo=wr:=⟨_,rfl⟩;have HA:=avE had;have HD:=avE hdv;have HZ:=avE hz;have HB:=avE hb;have N9:L.length<=513/\0<L.length:=by omega
  have iM:=avE hll;clear had hdv hz hb hll;by_cases hlt:k<OL.length
  ·have hlo:k<O.length:=by have:=qO.out;omega
   obtain ⟨b,o,rfl,hlb,c0⟩:=(Gh.out.1.keep HB.out).row_of.cy hlt;have DT:=Gh.out.2 OL[k] (avF hlt);have hoe:=OU EO.out hlt hlo;have htk:O.take (k+1)=O.take k++[O[k]]:=avH hlo;rw [hoe] at htk;generalize OL[k]=x at *;obtain ⟨X,xa,xn,xc⟩:=x;simp only at DT c0 htk hoe;have Tf:=avE DT;have jf:=avE htk;have k1:(k:Int)<OL.length:=by omega
   have k2:0<=(k:Int):=by omega
   clear DT htk hoe hlo;have hsh:(L++[(⟨0,X,⟨xa,xn,xc⟩,[],sv0,[],sv0⟩:AD)]).length=L.length+1:=by simp
   have iL:=avE hsh;clear hsh;go_upto_region 5 with
    (at_builtin
     refine iZ _ rfl (.tmp 22) (.tmp 28) _ rfl (base:=w1.heap.size) arE RD agW rfl (Own.alloc HA.out.own _) rfl (l2:=[(⟨0,X,⟨xa,xn,xc⟩,[],sv0,[],sv0⟩:AD)]) (Sl.lit (n:=1) (ah.made rfl _ _) rfl (dP Pe)) afr afr (by have:=HB.out.size;simp;omega) ?_;intro v3 w3 ho3 hg3 Dq;obtain ⟨A3,c3,hv3,-⟩:=Own.lI ho3;rw [iL.out] at hv3;subst hv3;have l9:=avE (jm.more arC (HA.out.keep (bA (bR wo) _)) ho3 hg3 Tf.out.sl rfl rfl rfl rfl);have HB3:=avE (bG (bA HB.out _) hg3 (fun g hg=>(HA.out.own.lt g hg).1));clear ho3 hg3 Dq
     )
   clear c0 hlb;go_wp2;go_roundw
   case rel => exact ⟨k+1,_,by omega,by go_num,⟨A3,c3,by rw [iL.out]⟩,l9.out,by rw [jf.out];exact HD.out.more rfl rfl _ rfl rfl,(fun x hx=>by
     rcases av1.1 hx with hx | hx
     · exact HZ.out x hx
     · rw [avY] at hx;subst hx;exact ⟨rfl,rfl,rfl,rfl,Tf.out⟩),by rw [iL.out,iM.out],HB3.out⟩
   case measure => simp [intOf];omega
  ·have hkk:k=O.length:=by have:=qO.out;omega
   have hd:=HD.out;rw [hkk,List.take_length] at hd;have HD3:=avE hd;have X1:=gq.out.keep HB.out;obtain ⟨gL,hgA,arI,arJ,-,-⟩:=Own.uD HA.out.own Pe;subst hgA;clear hd HD hkk;obtain ⟨aS,aT,aU,aW,-,-,-⟩:=X1.aF;go_wp2_with fail;refine (mM.out _ (bT HB1.out HB.out)).mono ?_;rintro e w4 ⟨Ac,cc,CL,rfl,hb4,hcl,hco⟩;have hle:(cO p).length=CL.length:=by rw [<- hcl,avM]
   rw [hle] at hco hcn ⊢;have nU:=avE hcl;have xJ:=avE hco;have HLc:=avE hle;have HB4:=avE (bT HB.out hb4);have lN:=avE (show jm 62 w4 w4 w1.heap.size (.slice (some ⟨gL,0,none⟩) L.length c) L from by
    have h:=HA.out.keep hb4;exact ⟨h.own,fun x hx=>(h.out x hx).mono HB4.out,h.inn,fun x hx c hc=>(h.lH x hx c hc).mono HB4.out,h.fD,h.Jz,h.JA⟩)
   have MB:gL<w4.heap.size:=by have:=hb4.size;omega
   have auY:w1.heap.size<=w4.heap.size:=HB4.out.size;have auZ:w1.heap.size<=wo.heap.size:=HB.out.size;clear hb4 hcl hco hle X1 aS aT aU aW HA HB arJ;have HL4:=avE lN.out.own;have au0:L.length<=513/\0<L.length:=N9;go_wp2_with fail;go_loopw [8] (fun i wr=>∃ (j:Nat) (L2:List AD),j<=CL.length/\i=.int .i64 j/\L2.length=L.length/\jm 62 w4 wr w1.heap.size (.slice (some ⟨gL,0,none⟩) L.length c) L2/\jP p L2 O (JO p j) []/\(∀ x∈L2,(∀ g,(bg x.iv).ownBlock=some g->w4.heap.size<=g)/\x.av=sv0/\(∀ d∈x.inn,d∈CL)/\x.tw=0/\Own w1 w.heap.size 3 1 dw (bg x.ov) x.out)/\w4.grownBy wr (some gL)) (fun i _=>CL.length-(intOf i).toNat)
   case atStart => exact ⟨0,L,avK _,rfl,rfl,lN.out,HD3.out,(fun x hx=>by
    obtain ⟨e1,e2,e3,e4,e5⟩:=HZ.out x hx;exact ⟨(fun g hg=>by rw [e1] at hg;cases hg),e2,(fun d hd=>by rw [e3] at hd;cases hd),e4,e5⟩),gR w4 _⟩
   case round =>
    clear lN HD3 HZ;obtain ⟨j,L2,hj,rfl,hl3,had,hdv,hz,hg⟩:=hrel;obtain ⟨wp,rfl⟩:∃ wp:World,wp=wr:=⟨_,rfl⟩;have HA:=avE had;have HD:=avE hdv;have HZ:=avE hz;have HG:=avE hg;have HB:=avE (show Below w1.heap.size w1 wp from bG HB4.out hg (fun g hg=>by have:=avP hg;omega));have hzp:w4.heap.size<=wp.heap.size:=hg.size;clear had hdv hz hg;by_cases hlj:j<CL.length
    ·have hlc:j<(cO p).length:=by have:=HLc.out;omega
     have hcr:=Own.grown xJ.out.1 HG.out (fun g hg=>Own.apart xJ.out.1 HL4.out arC g hg);have GY:=avE hcr;obtain ⟨b,o,hAc,hlb,c0⟩:=hcr.row_of.cy hlj;subst hAc;have hcm:CL[j]∈CL:=avF hlj;have DT:=Own.grown (xJ.out.2 CL[j] hcm) HG.out (fun g hg=>Own.apart (xJ.out.2 CL[j] hcm) HL4.out arC g hg);have hoe:=OU nU.out hlj hlc;have hmem:(cO p)[j]∈cO p:=avF hlc;have hrs:=ahY hlc;rw [hoe] at hmem hrs;generalize CL[j]=x at *;obtain ⟨X,xa,xn,xc⟩:=x;simp only at DT c0 hmem hrs hoe;have HCm:=avE hcm;have JB:=avE hmem;have hin:=DT.sl;have jf:=avE (fun W (hW:Below wp.heap.size wp W)=>xk.out _ X hmem W (Sl.mono hin hW) (bT (bT HB1.out HB.out) hW));obtain ⟨t,ht⟩:∃ t,iD p X=t:=⟨_,rfl⟩;rw [ht] at jf hrs;have HRs:=avE hrs;have yC:=avE hin;have GX:=avE c0;have k1:(j:Int)<CL.length:=by omega
     have k2:0<=(j:Int):=by omega
     have X1:=gq.out.keep HB.out;clear DT hoe hmem hrs ht hlc hin hcr hcm
     try clear aS
     try clear aT
     try clear aU
     try clear aW
     obtain ⟨aS,aT,aU,aW,-,-,-⟩:=X1.aF;go_upto_region 11 with fail;refine dH (wp) (.run 5 0 0 (.call 5 63 (.take 6 127 (.done)))) fun bZ QR aB aH hS=>?_
     iterate 5 refine aC ?_
     refine fV (jf.out _ hS) ?_;clear hS;intro cZ bW hS;refine aC ?_;refine dB ?_;clear hS aH aB;intro hB;obtain ⟨W3,hW3⟩:∃ W:World,W=cZ:=⟨_,rfl⟩;rw [<- hW3] at hB bW ⊢;have HB3:=avE (bT HB.out hB);have l9:=avE (HA.out.keep hB);have wP:=avE (gB HG.out hB);have aic:=avE (Sl.mono yC.out hB);have aie:=avE (GY.out.keep hB);replace c0:=kF hB GX.out;have Ti:b<W3.heap.size:=by have:=hB.size;omega
     have hz3:w4.heap.size<=W3.heap.size:=by have:=hB.size;omega
     clear hB bW hW3 X1 aS aT aU aW GX hlb jf HB HA HG yC GY hzp;by_cases h0:t<=0
     ·have hrs:=HRs.out;rw [if_neg Pe] at hrs;have GR:=avE hrs;have hne:=HV.out.GH JB.out;have hkl:0<X.length:=List.length_pos_iff.2 hne;have hhd:X.headD 0=X[0]:=by
       cases X with
       | nil=>exact absurd rfl hne
       | cons d l'=>rfl
      have hdd:X[0]∈bf p:=(HV.out.lV JB.out).2 _ (avF hkl);obtain ⟨nv,hhm⟩:=HV.out.arG JB.out;rw [hhd] at nv hhm;obtain ⟨Al,cl,hel,-,-,hRl⟩:=aic.out;injection hel with y1 y2 y3;subst y1 y2 y3;obtain ⟨bl,ol,MF,MG,d0⟩:=(show Row W3 xa (X.flatMap dw) from hRl).int hkl;subst MF;simp only [Nat.add_zero] at d0;have kz:(0:Int)<X.length:=by omega
      have kn:¬ X=[]:=hne;have hpl:=HV.out.ab5 hdd;have Jb:=avE (fun W (hW:Below W3.heap.size W3 W)=>oI.out X[0] hdd W (bT (bT HB1.out HB3.out) hW));generalize X[0]=dd at *;generalize qC p dd=P at *;have Tv:=avE (fun W (hW:Below W3.heap.size W3 W)=>pO.out (.slice Ao OL.length co) OL (P.getD 0 aA) W (bT (bT HB1.out HB3.out) hW) (Gh.out.read.mono (bT HB3.out hW)) EO.out nv);generalize P.getD 0 aA=pt at *;have MH:=avE hhm;have kp:(0:Int)<P.length:=by omega
      have kp3:0<P.length:=by omega
      have kp2:¬ P=[]:=fun e=>by rw [e] at hpl;simp at hpl
      have X1:=gq.out.keep HB3.out;clear hrs hne hhd hdd nv hhm hRl
      try clear aS
      try clear aT
      try clear aU
      try clear aW
      obtain ⟨aS,aT,aU,aW,-,-,-⟩:=X1.aF;go_upto_region 12 with fail;refine dH (W3) (.run 9 0 0 (.call 9 1023 (.take 10 2047 (.call 11 4095 (.call 12 8191 (.take 13 16383 (.take 14 32767 (.done)))))))) fun bZ QR aB aH hS=>?_
      iterate 9 refine aC ?_
      refine bK ?_;clear hS;intro K hK ak;go_simp;refine (Jb.out _ ak.out).mono ?_;rintro e cZ ⟨b9,o9,c9,rfl,bW,e10,e11,hl9⟩;have hS:Since W3 cZ:=bT (w:=W3) ak.out bW;clear ak;refine hK.out _ _ hS (fun _=>?_);clear hK K
      try simp only [pu]
      refine aC ?_;refine bK ?_;clear hS;intro K hK ak;go_simp;refine hK.out _ _ ak.out (fun hS=>?_);clear hK K ak
      try simp only [pu]
      refine bK ?_;clear hS;intro K hK ak;go_simp;refine (Tv.out _ ak.out).mono ?_;rintro e wr2 ⟨⟨n9,rfl,hn9,hh9⟩,iW⟩;have hS:Since W3 wr2:=bT (w:=W3) ak.out iW;clear ak;refine hK.out _ _ hS (fun _=>?_);clear hK K
      try simp only [pu]
      iterate 2 refine aC ?_
      refine dB ?_;clear hS aH aB;intro hB;obtain ⟨W5,kJ⟩:∃ W:World,W=wr2:=⟨_,rfl⟩;rw [<- kJ] at hB ⊢;have bC:=avE (bT HB3.out hB);have jY:=avE (l9.out.keep hB);have EP:=avE (gB wP.out hB);have au1:=avE (aie.out.keep hB);replace c0:=kF hB c0;have Lr:b<W5.heap.size:=by have:=hB.size;omega
      have zG:w4.heap.size<=W5.heap.size:=by have:=hB.size;omega
      have OZ:w1.heap.size<=W5.heap.size:=by omega
      rw [MH.out] at hh9;have O1:=avE hh9;have arK:n9<=512:=by omega
      have Tz:IntKind.i64.wrap (1+((n9:Int)-1))=(n9:Int):=by rw [avS _ Pe];omega
      try rw [Tz]
      have hbl:n9<L2.length:=by have:=HD.out.len;omega
      clear hB bW iW kJ X1 aS aT aU aW Jb Tv HB3 l9 wP aie e10 e11 hl9 d0 MG Ti kz kn kp kp2 kp3 hh9 Tz hpl aic;obtain ⟨g',jo,-,hgl,-,hce⟩:=Own.uD jY.out.own Pe;injection jo with jo;injection jo with jo _ _;subst jo;obtain ⟨-,-,e2,-⟩:=hce n9 hbl;have kV:=jY.out.inn _ (avF hbl);have hse:=(HZ.out _ (avF hbl)).1;have hNl:L2[n9].inn.length<=512:=by
       have:=congrArg List.length (HD.out.inn n9 hbl)
       rw [avM] at this;rw [this];refine avZ (List.length_filter_le _ _) ?_;unfold JO;refine avZ (List.length_filter_le _ _) ?_;rw [awk];omega
      have LZ:=avE (show Ints w4 (bg ⟨some ⟨bl,ol,none⟩,X.length,xc⟩) X from (xJ.out.2 _ HCm.out).sl);have O4:=avE (fun (rY:SV) (h9:∀ q,(bg rY).ownBlock=some q->w4.heap.size<=q)=>show ∀ x∈L2.set n9 {L2[n9] with inn:=L2[n9].inn++[((X,⟨some ⟨bl,ol,none⟩,X.length,xc⟩):List Int×SV)],iv:=rY},(∀ g,(bg x.iv).ownBlock=some g->w4.heap.size<=g)/\x.av=sv0/\(∀ d∈x.inn,d∈CL)/\x.tw=0/\Own w1 w.heap.size 3 1 dw (bg x.ov) x.out from fun x hx=>by
       rcases xI hx with ⟨rfl,_⟩ | ⟨q,hq,_,rfl⟩
       ·obtain ⟨z1,z2,z3,z4,z5⟩:=HZ.out _ (avF hbl);refine ⟨h9,z2,fun d hd=>?_,z4,z5⟩;rcases av1.1 hd with hd | hd
        · exact z3 d hd
        · rw [avY] at hd;subst hd;exact HCm.out
       · exact HZ.out _ (avF hq))
      obtain ⟨iv,hiv⟩:∃ iv,L2[n9].iv=iv:=⟨_,rfl⟩;obtain ⟨N,hN⟩:∃ N,L2[n9].inn=N:=⟨_,rfl⟩;rw [hiv,hN] at kV;rw [hiv] at e2 hse;rw [hN] at hNl;obtain ⟨ia,xq,ic⟩:=iv;unfold bg at kV e2 hse;have pY:=avE hiv;have su:=avE hN;have uq:=avE hse;have jg:=avE kV;clear hiv hN hce hse kV;have kb1:(n9:Int)<L.length:=by omega
      have kb2:0<=(n9:Int):=by omega
      have hsh:(N++[((X,⟨some ⟨bl,ol,none⟩,X.length,xc⟩):List Int×SV)]).length=N.length+1:=by simp
      have iL:=avE hsh;clear hsh;go_upto_region 13 with fail;refine Ah (w1.heap.size) (W5) (.run 6 0 0 (.run 3 7 63 (.two 6 1023 (.call 10 2047 (.call 11 4095 (.call 12 8191 (.take 13 16383 (.take 14 32767 (.call 15 65535 (.done))))))) 10 1983 (.two 6 2047 (.call 11 4095 (.call 12 8191 (.take 13 16383 (.take 14 32767 (.call 15 65535 (.done)))))) 11 4031 (.call 6 4095 (.call 12 8191 (.take 13 16383 (.take 14 32767 (.call 15 65535 (.done)))))))))) fun bZ QR aB aH hS=>?_
      iterate 9 refine aC ?_
      refine yX (i:=6) (j:=10) (eP aB rfl) (eP aB rfl) (fun K hK=>?_) (fun K hK=>?_)
      ·have ak:=avE hS;clear hS;refine fK (fJ rfl) ?_;go_simp;refine hK.out _ _ ak.out (fun hS=>?_);clear hK K ak
       try simp only [pu]
       refine bK ?_;clear hS;intro K hK ak;go_simp;refine hK.out _ _ ak.out (fun hS=>?_);clear hK K ak
       try simp only [pu]
       refine bK ?_;clear hS;intro K hK ak;go_simp;refine hK.out _ _ (fE Pe ak.out _) (fun hS=>?_);clear hK K ak
       try simp only [pu]
       refine bK ?_;clear hS;intro K hK ak;refine kW (.tmp 68) (.tmp 73) _ rfl (base:=w1.heap.size) Gm Ew Gl rfl ((jg.out.keep (bD (bR W5))).alloc _) rfl (l2:=[((X,⟨some ⟨bl,ol,none⟩,X.length,xc⟩):List Int×SV)]) (Sl.lit (n:=1) (ah.made rfl _ _) rfl (dP Pe)) afr afr arV ?_;intro v5 w5 dG hg5 iG;obtain ⟨A5,c5,hv5,-⟩:=Own.lI dG;rw [iL.out] at hv5;subst hv5;have hown5:=Own.grown ((jY.out.own.keep (bD (bR W5))).alloc _) hg5 (fun g hg=>Own.apart jY.out.own jg.out arC g hg);obtain ⟨g',hg',-,vC,jQ,jA⟩:=Own.uD hown5 Pe;injection hg' with hg';injection hg' with hg' _ _;subst hg';obtain ⟨-,-,f2,-⟩:=jA n9 hbl;have hf2:=jQ (n9*4+2);have Ci:=avE (jm.Xh arC (jY.out.keep (bA (bD (bR W5)) _)) hbl (rY:=⟨A5,N.length+1,c5⟩) (c:=(X,⟨some ⟨bl,ol,none⟩,X.length,xc⟩)) avm avk avn (LZ.out));have G5:=avE (gS (Tn (gA (gD EP.out) _) hg5 (fun q hq=>uq.out q hq)) (n9*4+2) (.slice A5 (N.length+1) c5));have G6:=avE (show ∀ q,(Value.slice A5 (N.length+1) c5).ownBlock=some q->w4.heap.size<=q from Tq iG uq.out arV);have hS:fM (w1.heap.size) W5 w5:=Below.grown (show Below w1.heap.size W5 _ from ak.out) hg5 (avZ OZ (show Below w1.heap.size W5 _ from ak.out).size) (fun g hg=>(jg.out.lt g hg).1);clear dG hg5 iG hown5 jA jQ e2;clear ak;refine hK.out _ _ hS (fun _=>?_);clear hK K
       try simp only [pu]
       iterate 2 refine aC ?_
       refine bK ?_;clear hS;intro K hK ak;go_simp;refine hK.out _ _ (by unfold fM;have h:Below _ _ _:=ak.out;repeat (first | with_reducible assumption | with_reducible exact Below.refl _ _ | with_reducible refine jv ?_ arS _ | with_reducible refine Below.drew ?_ | with_reducible refine fE Pe ?_ _ | exact h)) ?_;intro hS;clear hK K ak
       try simp only [pu]
       refine o8 ?_;clear hS aH aB;intro hB;go_wp2;go_roundw
       case rel => exact ⟨j+1,_,by omega,by go_num,by rw [av9];exact hl3,Ci.out,by rw [GR.out];exact HD.out.inner yJ.out hbl X ⟨some ⟨bl,ol,none⟩,X.length,xc⟩ ⟨A5,N.length+1,c5⟩ O1.out,O4.out ⟨A5,N.length+1,c5⟩ G6.out,G5.out⟩
       case measure => simp [intOf];omega
      ·have ak:=avE hS;clear hS;refine fK (fJ rfl) ?_;go_simp;refine hK.out _ _ ak.out (fun hS=>?_);clear hK K ak
       try simp only [pu]
       refine yX (i:=6) (j:=11) (eP aB rfl) (eP aB rfl) (fun K hK=>?_) (fun K hK=>?_)
       ·have ak:=avE hS;clear hS;refine fK (fJ rfl) ?_;go_simp;refine hK.out _ _ ak.out (fun hS=>?_);clear hK K ak
        try simp only [pu]
        refine bK ?_;clear hS;intro K hK ak;go_simp;refine hK.out _ _ (fE Pe ak.out _) (fun hS=>?_);clear hK K ak
        try simp only [pu]
        refine bK ?_;clear hS;intro K hK ak;refine kW (.tmp 68) (.tmp 73) _ rfl (base:=w1.heap.size) Gm Ew Gl rfl ((jg.out.keep (bD (bR W5))).alloc _) rfl (l2:=[((X,⟨some ⟨bl,ol,none⟩,X.length,xc⟩):List Int×SV)]) (Sl.lit (n:=1) (ah.made rfl _ _) rfl (dP Pe)) afr afr arV ?_;intro v5 w5 dG hg5 iG;obtain ⟨A5,c5,hv5,-⟩:=Own.lI dG;rw [iL.out] at hv5;subst hv5;have hown5:=Own.grown ((jY.out.own.keep (bD (bR W5))).alloc _) hg5 (fun g hg=>Own.apart jY.out.own jg.out arC g hg);obtain ⟨g',hg',-,vC,jQ,jA⟩:=Own.uD hown5 Pe;injection hg' with hg';injection hg' with hg' _ _;subst hg';obtain ⟨-,-,f2,-⟩:=jA n9 hbl;have hf2:=jQ (n9*4+2);have Ci:=avE (jm.Xh arC (jY.out.keep (bA (bD (bR W5)) _)) hbl (rY:=⟨A5,N.length+1,c5⟩) (c:=(X,⟨some ⟨bl,ol,none⟩,X.length,xc⟩)) avm avk avn (LZ.out));have G5:=avE (gS (Tn (gA (gD EP.out) _) hg5 (fun q hq=>uq.out q hq)) (n9*4+2) (.slice A5 (N.length+1) c5));have G6:=avE (show ∀ q,(Value.slice A5 (N.length+1) c5).ownBlock=some q->w4.heap.size<=q from Tq iG uq.out arV);have hS:fM (w1.heap.size) W5 w5:=Below.grown (show Below w1.heap.size W5 _ from ak.out) hg5 (avZ OZ (show Below w1.heap.size W5 _ from ak.out).size) (fun g hg=>(jg.out.lt g hg).1);clear dG hg5 iG hown5 jA jQ e2;clear ak;refine hK.out _ _ hS (fun _=>?_);clear hK K
        try simp only [pu]
        iterate 2 refine aC ?_
        refine bK ?_;clear hS;intro K hK ak;go_simp;refine hK.out _ _ (by unfold fM;have h:Below _ _ _:=ak.out;repeat (first | with_reducible assumption | with_reducible exact Below.refl _ _ | with_reducible refine jv ?_ arS _ | with_reducible refine Below.drew ?_ | with_reducible refine fE Pe ?_ _ | exact h)) ?_;intro hS;clear hK K ak
        try simp only [pu]
        refine o8 ?_;clear hS aH aB;intro hB;go_wp2;go_roundw
        case rel => exact ⟨j+1,_,by omega,by go_num,by rw [av9];exact hl3,Ci.out,by rw [GR.out];exact HD.out.inner yJ.out hbl X ⟨some ⟨bl,ol,none⟩,X.length,xc⟩ ⟨A5,N.length+1,c5⟩ O1.out,O4.out ⟨A5,N.length+1,c5⟩ G6.out,G5.out⟩
        case measure => simp [intOf];omega
       ·have ak:=avE hS;clear hS;refine fK (fJ rfl) ?_;go_simp;refine hK.out _ _ (fE Pe ak.out _) (fun hS=>?_);clear hK K ak
        try simp only [pu]
        refine bK ?_;clear hS;intro K hK ak;go_simp;refine hK.out _ _ ak.out (fun hS=>?_);clear hK K ak
        try simp only [pu]
        refine bK ?_;clear hS;intro K hK ak;refine kW (.tmp 68) (.tmp 73) _ rfl (base:=w1.heap.size) Gm Ew Gl rfl ((jg.out.keep (bD (bR W5))).alloc _) rfl (l2:=[((X,⟨some ⟨bl,ol,none⟩,X.length,xc⟩):List Int×SV)]) (Sl.lit (n:=1) (ah.made rfl _ _) rfl (dP Pe)) afr afr arV ?_;intro v5 w5 dG hg5 iG;obtain ⟨A5,c5,hv5,-⟩:=Own.lI dG;rw [iL.out] at hv5;subst hv5;have hown5:=Own.grown ((jY.out.own.keep (bD (bR W5))).alloc _) hg5 (fun g hg=>Own.apart jY.out.own jg.out arC g hg);obtain ⟨g',hg',-,vC,jQ,jA⟩:=Own.uD hown5 Pe;injection hg' with hg';injection hg' with hg' _ _;subst hg';obtain ⟨-,-,f2,-⟩:=jA n9 hbl;have hf2:=jQ (n9*4+2);have Ci:=avE (jm.Xh arC (jY.out.keep (bA (bD (bR W5)) _)) hbl (rY:=⟨A5,N.length+1,c5⟩) (c:=(X,⟨some ⟨bl,ol,none⟩,X.length,xc⟩)) avm avk avn (LZ.out));have G5:=avE (gS (Tn (gA (gD EP.out) _) hg5 (fun q hq=>uq.out q hq)) (n9*4+2) (.slice A5 (N.length+1) c5));have G6:=avE (show ∀ q,(Value.slice A5 (N.length+1) c5).ownBlock=some q->w4.heap.size<=q from Tq iG uq.out arV);have hS:fM (w1.heap.size) W5 w5:=Below.grown (show Below w1.heap.size W5 _ from ak.out) hg5 (avZ OZ (show Below w1.heap.size W5 _ from ak.out).size) (fun g hg=>(jg.out.lt g hg).1);clear dG hg5 iG hown5 jA jQ e2;clear ak;refine hK.out _ _ hS (fun _=>?_);clear hK K
        try simp only [pu]
        iterate 2 refine aC ?_
        refine bK ?_;clear hS;intro K hK ak;go_simp;refine hK.out _ _ (by unfold fM;have h:Below _ _ _:=ak.out;repeat (first | with_reducible assumption | with_reducible exact Below.refl _ _ | with_reducible refine jv ?_ arS _ | with_reducible refine Below.drew ?_ | with_reducible refine fE Pe ?_ _ | exact h)) ?_;intro hS;clear hK K ak
        try simp only [pu]
        refine o8 ?_;clear hS aH aB;intro hB;go_wp2;go_roundw
        case rel => exact ⟨j+1,_,by omega,by go_num,by rw [av9];exact hl3,Ci.out,by rw [GR.out];exact HD.out.inner yJ.out hbl X ⟨some ⟨bl,ol,none⟩,X.length,xc⟩ ⟨A5,N.length+1,c5⟩ O1.out,O4.out ⟨A5,N.length+1,c5⟩ G6.out,G5.out⟩
        case measure => simp [intOf];omega
     ·have hrs:=HRs.out;rw [if_pos Pe,List.append_nil] at hrs;have GR:=avE hrs;clear hrs;go_wp2;go_roundw
      case rel => exact ⟨j+1,L2,by omega,by go_num,hl3,l9.out,by rw [GR.out];exact HD.out,HZ.out,wP.out⟩
      case measure => simp [intOf];omega
    ·have hjj:j=(cO p).length:=by have:=HLc.out;omega
     have hd:=HD.out;rw [hjj,ah0] at hd;have HD6:=avE hd;have hXB:w.heap.size<w1.heap.size:=gq.out.lt;clear hd HD hjj;go_wp2_with fail;go_loopw [10] (fun i wr=>∃ (k:Nat) (L3:List AD),k<=p.nodes.length/\i=.int .i64 k/\L3.length=L.length/\jm 62 w4 wr w1.heap.size (.slice (some ⟨gL,0,none⟩) L.length c) L3/\jP p L3 O (rO p) (p.nodes.take k)/\(∀ x∈L3,(∀ g,(bg x.av).ownBlock=some g->w4.heap.size<=g)/\(∀ d∈x.inn,d∈CL)/\x.tw=0/\Own w1 w.heap.size 3 1 dw (bg x.ov) x.out)/\w4.grownBy wr (some gL)) (fun i _=>p.nodes.length-(intOf i).toNat)
     case atStart => exact ⟨0,L2,avK _,rfl,hl3,HA.out,by rw [List.take_zero];exact HD6.out,(fun x hx=>by
      obtain ⟨e1,e2,e3,e4,e5⟩:=HZ.out x hx;exact ⟨(fun g hg=>by rw [e2] at hg;cases hg),e3,e4,e5⟩),HG.out⟩
     case round =>
      clear HA HD6 HZ HG HB hzp;obtain ⟨k,L3,hk,rfl,hl4,had,hdv,hz,hg⟩:=hrel;obtain ⟨wq,rfl⟩:∃ wq:World,wq=wr:=⟨_,rfl⟩;have HA:=avE had;have HD:=avE hdv;have HZ:=avE hz;have HG:=avE hg;have HB:=avE (show Below w1.heap.size w1 wq from bG HB4.out hg (fun g hg=>by have:=avP hg;omega));have hzq:w4.heap.size<=wq.heap.size:=hg.size;have X1:=gq.out.keep HB.out;clear had hdv hz hg
      try clear aS
      try clear aT
      try clear aU
      try clear aW
      obtain ⟨aS,aT,aU,aW,-,-,-⟩:=X1.aF;by_cases hlk:k<p.nodes.length
      ·obtain ⟨b,o,rfl,hlb0,c0,c1,c2⟩:=(HRn.out).nd hlk;have au2:b<w1.heap.size:=by omega
       have htk:p.nodes.take (k+1)=p.nodes.take k++[p.nodes[k]]:=avH hlk;have nv:=HV.out.Qo (avF hlk);generalize p.nodes[k]=nd at *;have jf:=avE htk;have GL:=avE nv;have GX:=avE c0;have Xg:=avE c1;have HC2:=avE c2;have ER:=avE (fun W (hW:Below w.heap.size w W)=>I9.out nd.id W hW);have Ce:=avE (fun h0=>HD.out.pass nd h0);clear htk nv c0 c1 c2;obtain ⟨dg,hdg⟩:∃ dg,sU p.aj nd.id=dg:=⟨_,rfl⟩;rw [hdg] at ER Ce;have JI:=avE hdg;clear hdg;have c0:=kF (bT HB1.out HB.out) GX.out;have hlb:b<wq.heap.size:=by omega
       go_upto_region 17 with fail;refine dH (wq) (.run 7 0 0 (.call 7 255 (.take 8 511 (.done)))) fun bZ QR aB aH hS=>?_
       iterate 7 refine aC ?_
       refine fV (ER.out _ (bT (bT HB1.out HB.out) hS)) ?_;clear hS;intro cZ bW hS;refine aC ?_;refine dB ?_;clear hS aH aB;intro hB;obtain ⟨W3,hW3⟩:∃ W:World,W=cZ:=⟨_,rfl⟩;rw [<- hW3] at hB bW ⊢;have HB3:=avE (bT HB.out hB);have l9:=avE (HA.out.keep hB);have wP:=avE (gB HG.out hB);have Ti:b<W3.heap.size:=by have:=hB.size;omega
       have hz3:w4.heap.size<=W3.heap.size:=by have:=hB.size;omega
       clear hB bW hW3 X1 aS aT aU aW HB HA HG hzq c0 hlb ER;by_cases h0:dg=0
       ·subst h0;have Tv:=avE (fun W (hW:Below W3.heap.size W3 W)=>pO.out (.slice Ao OL.length co) OL nd.pt W (bT (bT HB1.out HB3.out) hW) (Gh.out.read.mono (bT HB3.out hW)) EO.out GL.out);have X1:=gq.out.keep HB3.out;have c0:=kF (bT HB1.out HB3.out) GX.out;have c1:=kF (bT HB1.out HB3.out) Xg.out;have c2:=kF (bT HB1.out HB3.out) HC2.out;clear Ce
        try clear aS
        try clear aT
        try clear aU
        try clear aW
        obtain ⟨aS,aT,aU,aW,-,-,-⟩:=X1.aF;go_upto_region 18 with fail;refine dH (W3) (.run 8 0 0 (.call 8 511 (.take 9 1023 (.take 10 2047 (.done))))) fun bZ QR aB aH hS=>?_
        iterate 8 refine aC ?_
        refine bK ?_;clear hS;intro K hK ak;go_simp;refine (Tv.out _ ak.out).mono ?_;rintro e cZ ⟨⟨n9,rfl,hn9,hh9⟩,bW⟩;have hS:Since W3 cZ:=bT (w:=W3) ak.out bW;clear ak;refine hK.out _ _ hS (fun _=>?_);clear hK K
        try simp only [pu]
        iterate 2 refine aC ?_
        refine dB ?_;clear hS aH aB;intro hB;obtain ⟨W5,kJ⟩:∃ W:World,W=cZ:=⟨_,rfl⟩;rw [<- kJ] at hB ⊢;have bC:=avE (bT HB3.out hB);have jY:=avE (l9.out.keep hB);have EP:=avE (gB wP.out hB);have Lr:b<W5.heap.size:=by have:=hB.size;omega
        have zG:w4.heap.size<=W5.heap.size:=by have:=hB.size;omega
        have OZ:w1.heap.size<=W5.heap.size:=by omega
        have O1:=avE hh9;have arK:n9<=512:=by omega
        have Tz:IntKind.i64.wrap (1+((n9:Int)-1))=(n9:Int):=by rw [avS _ Pe];omega
        try rw [Tz]
        have hbl:n9<L3.length:=by have:=HD.out.len;omega
        clear hB bW kJ X1 aS aT aU aW Tv HB3 l9 wP Ti hh9 Tz c0 c1 c2;obtain ⟨g',jo,-,hgl,-,hce⟩:=Own.uD jY.out.own Pe;injection jo with jo;injection jo with jo _ _;subst jo;obtain ⟨-,-,-,e2⟩:=hce n9 hbl;have kV:=jY.out.fD _ (avF hbl);have hse:=(HZ.out _ (avF hbl)).1;have hNl:L3[n9].fD.length<=256:=by
         rw [HD.out.fD n9 hbl,avM];exact avZ (List.length_filter_le _ _) avx
        have O4:=avE (fun (qP:SV) (h9:∀ q,(bg qP).ownBlock=some q->w4.heap.size<=q)=>show ∀ x∈L3.set n9 {L3[n9] with fD:=L3[n9].fD++[nd.id],av:=qP},(∀ g,(bg x.av).ownBlock=some g->w4.heap.size<=g)/\(∀ d∈x.inn,d∈CL)/\x.tw=0/\Own w1 w.heap.size 3 1 dw (bg x.ov) x.out from fun x hx=>by
         rcases xI hx with ⟨rfl,_⟩ | ⟨q,hq,_,rfl⟩
         ·obtain ⟨z1,z2,z3,z4⟩:=HZ.out _ (avF hbl);exact ⟨h9,z2,z3,z4⟩
         · exact HZ.out _ (avF hq))
        obtain ⟨iv,hiv⟩:∃ iv,L3[n9].av=iv:=⟨_,rfl⟩;obtain ⟨N,hN⟩:∃ N,L3[n9].fD=N:=⟨_,rfl⟩;rw [hiv,hN] at kV;rw [hiv] at e2 hse;rw [hN] at hNl;obtain ⟨ia,xq,ic⟩:=iv;unfold bg at kV e2 hse;have pY:=avE hiv;have su:=avE hN;have uq:=avE hse;have jg:=avE kV;clear hiv hN hce hse kV;have kb1:(n9:Int)<L.length:=by omega
        have kb2:0<=(n9:Int):=by omega
        have hsh:(N++[nd.id]).length=N.length+1:=by simp
        have iL:=avE hsh;clear hsh;have X1:=gq.out.keep bC.out;have c0:=kF (bT HB1.out bC.out) GX.out
        try clear aS
        try clear aT
        try clear aU
        try clear aW
        obtain ⟨aS,aT,aU,aW,-,-,-⟩:=X1.aF;go_upto_region 19 with fail;refine Ah (w1.heap.size) (W5) (.run 6 0 0 (.run 6 7 63 (.two 6 8191 (.call 13 16383 (.call 14 32767 (.take 15 65535 (.take 16 131071 (.call 17 262143 (.done)))))) 13 16319 (.call 6 16383 (.call 14 32767 (.take 15 65535 (.take 16 131071 (.call 17 262143 (.done))))))))) fun bZ QR aB aH hS=>?_
        iterate 12 refine aC ?_
        refine yX (i:=6) (j:=13) (eP aB rfl) (eP aB rfl) (fun K hK=>?_) (fun K hK=>?_)
        ·have ak:=avE hS;clear hS;refine fK (fJ rfl) ?_;go_simp;refine hK.out _ _ ak.out (fun hS=>?_);clear hK K ak
         try simp only [pu]
         refine bK ?_;clear hS;intro K hK ak;go_simp;refine hK.out _ _ (fE Pe ak.out _) (fun hS=>?_);clear hK K ak
         try simp only [pu]
         refine bK ?_;clear hS;intro K hK ak;refine kW (.tmp 109) (.tmp 116) _ rfl (base:=w1.heap.size) jR jB jT rfl ((jg.out.keep (bD (bR W5))).alloc _) rfl (l2:=[nd.id]) (Sl.lit (n:=1) (ah.made rfl _ _) rfl (dP Pe)) afr afr arV ?_;intro v5 w5 dG hg5 iG;obtain ⟨A5,c5,hv5,-⟩:=Own.lI dG;rw [iL.out] at hv5;subst hv5;have hown5:=Own.grown ((jY.out.own.keep (bD (bR W5))).alloc _) hg5 (fun g hg=>Own.apart jY.out.own jg.out arC g hg);obtain ⟨g',hg',-,vC,jQ,jA⟩:=Own.uD hown5 Pe;injection hg' with hg';injection hg' with hg' _ _;subst hg';obtain ⟨-,-,-,f2⟩:=jA n9 hbl;have hf2:=jQ (n9*4+3);have Ci:=avE (jm.SN arC (jY.out.keep (bA (bD (bR W5)) _)) hbl (qP:=⟨A5,N.length+1,c5⟩) (c:=nd.id) avm avk avn);have G5:=avE (gS (Tn (gA (gD EP.out) _) hg5 (fun q hq=>uq.out q hq)) (n9*4+3) (.slice A5 (N.length+1) c5));have G6:=avE (show ∀ q,(Value.slice A5 (N.length+1) c5).ownBlock=some q->w4.heap.size<=q from Tq iG uq.out arV);have hS:fM (w1.heap.size) W5 w5:=Below.grown (show Below w1.heap.size W5 _ from ak.out) hg5 (avZ OZ (show Below w1.heap.size W5 _ from ak.out).size) (fun g hg=>(jg.out.lt g hg).1);clear dG hg5 iG hown5 jA jQ e2;clear ak;refine hK.out _ _ hS (fun _=>?_);clear hK K
         try simp only [pu]
         iterate 2 refine aC ?_
         refine bK ?_;clear hS;intro K hK ak;go_simp;refine hK.out _ _ (by unfold fM;have h:Below _ _ _:=ak.out;repeat (first | with_reducible assumption | with_reducible exact Below.refl _ _ | with_reducible refine jv ?_ arS _ | with_reducible refine Below.drew ?_ | with_reducible refine fE Pe ?_ _ | exact h)) ?_;intro hS;clear hK K ak
         try simp only [pu]
         refine o8 ?_;clear hS aH aB;intro hB;go_wp2;go_roundw
         case rel => exact ⟨k+1,_,by omega,by go_num,by rw [av9];exact hl4,Ci.out,by rw [jf.out];exact HD.out.lone yJ.out hbl nd ⟨A5,N.length+1,c5⟩ JI.out O1.out,O4.out ⟨A5,N.length+1,c5⟩ G6.out,G5.out⟩
         case measure => simp [intOf];omega
        ·have ak:=avE hS;clear hS;refine fK (fJ rfl) ?_;go_simp;refine hK.out _ _ (fE Pe ak.out _) (fun hS=>?_);clear hK K ak
         try simp only [pu]
         refine bK ?_;clear hS;intro K hK ak;go_simp;refine hK.out _ _ ak.out (fun hS=>?_);clear hK K ak
         try simp only [pu]
         refine bK ?_;clear hS;intro K hK ak;refine kW (.tmp 109) (.tmp 116) _ rfl (base:=w1.heap.size) jR jB jT rfl ((jg.out.keep (bD (bR W5))).alloc _) rfl (l2:=[nd.id]) (Sl.lit (n:=1) (ah.made rfl _ _) rfl (dP Pe)) afr afr arV ?_;intro v5 w5 dG hg5 iG;obtain ⟨A5,c5,hv5,-⟩:=Own.lI dG;rw [iL.out] at hv5;subst hv5;have hown5:=Own.grown ((jY.out.own.keep (bD (bR W5))).alloc _) hg5 (fun g hg=>Own.apart jY.out.own jg.out arC g hg);obtain ⟨g',hg',-,vC,jQ,jA⟩:=Own.uD hown5 Pe;injection hg' with hg';injection hg' with hg' _ _;subst hg';obtain ⟨-,-,-,f2⟩:=jA n9 hbl;have hf2:=jQ (n9*4+3);have Ci:=avE (jm.SN arC (jY.out.keep (bA (bD (bR W5)) _)) hbl (qP:=⟨A5,N.length+1,c5⟩) (c:=nd.id) avm avk avn);have G5:=avE (gS (Tn (gA (gD EP.out) _) hg5 (fun q hq=>uq.out q hq)) (n9*4+3) (.slice A5 (N.length+1) c5));have G6:=avE (show ∀ q,(Value.slice A5 (N.length+1) c5).ownBlock=some q->w4.heap.size<=q from Tq iG uq.out arV);have hS:fM (w1.heap.size) W5 w5:=Below.grown (show Below w1.heap.size W5 _ from ak.out) hg5 (avZ OZ (show Below w1.heap.size W5 _ from ak.out).size) (fun g hg=>(jg.out.lt g hg).1);clear dG hg5 iG hown5 jA jQ e2;clear ak;refine hK.out _ _ hS (fun _=>?_);clear hK K
         try simp only [pu]
         iterate 2 refine aC ?_
         refine bK ?_;clear hS;intro K hK ak;go_simp;refine hK.out _ _ (by unfold fM;have h:Below _ _ _:=ak.out;repeat (first | with_reducible assumption | with_reducible exact Below.refl _ _ | with_reducible refine jv ?_ arS _ | with_reducible refine Below.drew ?_ | with_reducible refine fE Pe ?_ _ | exact h)) ?_;intro hS;clear hK K ak
         try simp only [pu]
         refine o8 ?_;clear hS aH aB;intro hB;go_wp2;go_roundw
         case rel => exact ⟨k+1,_,by omega,by go_num,by rw [av9];exact hl4,Ci.out,by rw [jf.out];exact HD.out.lone yJ.out hbl nd ⟨A5,N.length+1,c5⟩ JI.out O1.out,O4.out ⟨A5,N.length+1,c5⟩ G6.out,G5.out⟩
         case measure => simp [intOf];omega
       ·have h1:(dg == 0)=false:=by simpa using h0
        have SB:=avE (Ce.out h0);clear h0 Ce;go_wp2;go_roundw
        case rel => exact ⟨k+1,L3,by omega,by go_num,hl4,l9.out,by rw [jf.out];exact SB.out,HZ.out,wP.out⟩
        case measure => simp [intOf];omega
      ·have hkk:k=p.nodes.length:=by omega
       have hd:=HD.out;rw [hkk,List.take_length] at hd;have HDf:=avE hd;have hz1:=HB1.out.size;have HW:=avE (show oZ wq w.heap.size (.slice (some ⟨gL,0,none⟩) L.length c) L3 from ⟨HA.out.own.fG hz1,fun x hx=>(HZ.out x hx).2.2.2.keep HB.out,fun x hx=>(HA.out.inn x hx).fG hz1,fun x hx d hd=>by
        have hm:=(HZ.out x hx).2.1 d hd;have:=Own.grown (xJ.out.2 d hm) HG.out (fun g hg=>Own.apart (xJ.out.2 d hm) HL4.out arC g hg)
        exact Own.fG this Pe,fun x hx=>(HA.out.fD x hx).fG hz1⟩)
       clear hd hkk;go_wp2;go_ret;exact ⟨some ⟨gL,0,none⟩,c,L3,by rw [hl4];rfl,bT HB1.out HB.out,by rw [hl4];exact HW.out,by rw [Tt.out];exact HDf.out,fun x hx=>(HZ.out x hx).2.2.1⟩
end Go.Proofs.YtialfdomhoojiaaGreat
