import Derived.Test.YtialfdomhoojiaaGreatJ27
set_option linter.unusedSimpArgs false
set_option linter.unusedVariables false
set_option maxRecDepth 100000
set_option maxHeartbeats 8000000
namespace Go.Proofs.YtialfdomhoojiaaGreat
open Go.RowKit
theorem LQ.Du {w:World} {B B':Nat} {v:Value} {L:List AD} (h:LQ w B v L) (hb:B'<=B):LQ w B' v L :=
 ⟨h.own.Du hb,fun x hx=>(h.out x hx).Du hb,fun x hx=>(h.inn x hx).Du hb,fun x hx c hc=>(h.Gi x hx c hc).Du hb,fun x hx=>(h.CU x hx).Du hb⟩
theorem Own.kE {e:TypeId} {w:World} {B g n c:Nat} {L:List AD} (h:Own w B e 4 Di (.slice (some ⟨g,0,none⟩) n c) L) {k:Nat} (hk:k<L.length):g<w.heap.size/\(∀ j,w.frozen? ⟨g,j,none⟩=false) /\
  w.cell? ⟨g,k*4,none⟩=some (.int .i64 L[k].tw)/\w.cell? ⟨g,k*4+1,none⟩=some (BJ L[k].ov)/\w.cell? ⟨g,k*4+2,none⟩=some (BJ L[k].iv)/\w.cell? ⟨g,k*4+3,none⟩=some (BJ L[k].av):=by
 obtain ⟨g',hg,-,h1,h2,h3⟩:=Own.OY h AB;injection hg with hg;injection hg with hg _ _;subst hg;exact ⟨h1,h2,h3 k hk⟩
theorem LQ.face {w:World} {B g n c:Nat} {L:List AD} (h:LQ w B (.slice (some ⟨g,0,none⟩) n c) L) {i:Nat} (hi:i<L.length) (f:Int) :
  LQ (w.setCell ⟨g,i*4,none⟩ (.int .i64 f)) B (.slice (some ⟨g,0,none⟩) n c) (L.set i {L[i] with tw:=f}):=by
 have hm:=BH hi;refine ⟨?_,fun x hx=>?_,fun x hx=>?_,fun x hx=>?_,fun x hx=>?_⟩
 ·have:=Own.jH Pz h.own hi (j:=0) AB {L[i] with tw:=f} (.int .i64 f) rfl
  simpa using this
 ·rcases Qb hx with ⟨rfl,_⟩ | ⟨j,hj,_,rfl⟩
  · exact Own.ZQ (h.out L[i] hm) h.own BG _ _
  · exact Own.ZQ (h.out _ (BH hj)) h.own BG _ _
 ·rcases Qb hx with ⟨rfl,_⟩ | ⟨j,hj,_,rfl⟩
  · exact Own.ZQ (h.inn L[i] hm) h.own BG _ _
  · exact Own.ZQ (h.inn _ (BH hj)) h.own BG _ _
 ·rcases Qb hx with ⟨rfl,_⟩ | ⟨j,hj,_,rfl⟩
  · exact fun c hc=>Own.ZQ (h.Gi L[i] hm c hc) h.own BG _ _
  · exact fun c hc=>Own.ZQ (h.Gi _ (BH hj) c hc) h.own BG _ _
 ·rcases Qb hx with ⟨rfl,_⟩ | ⟨j,hj,_,rfl⟩
  · exact Own.ZQ (h.CU L[i] hm) h.own BG _ _
  · exact Own.ZQ (h.CU _ (BH hj)) h.own BG _ _
structure yt (n:Nat) (v:Value) (L:List AD):Prop where
 own:∀ q,v.ownBlock=some q->q<n
 out:∀ x∈L,∀ q,(BJ x.ov).ownBlock=some q->q<n
 inn:∀ x∈L,∀ q,(BJ x.iv).ownBlock=some q->q<n
 Gi:∀ x∈L,∀ c∈x.inn,∀ q,(BJ c.2).ownBlock=some q->q<n
 CU:∀ x∈L,∀ q,(BJ x.av).ownBlock=some q->q<n
theorem LQ.low {w:World} {B:Nat} {v:Value} {L:List AD} (h:LQ w B v L):yt w.heap.size v L :=
 ⟨fun q hq=>(h.own.lt q hq).2,fun x hx q hq=>((h.out x hx).lt q hq).2,fun x hx q hq=>((h.inn x hx).lt q hq).2,fun x hx c hc q hq=>((h.Gi x hx c hc).lt q hq).2,fun x hx q hq=>((h.CU x hx).lt q hq).2⟩
theorem yt.face {n:Nat} {v:Value} {L L':List AD} (h:yt n v L) (hl:∀ x∈L',∃ y∈L,∃ t,x = {y with tw:=t}):yt n v L' :=
 ⟨h.own,fun x hx=>by obtain ⟨y,hy,t,rfl⟩:=hl x hx;exact h.out y hy,fun x hx=>by obtain ⟨y,hy,t,rfl⟩:=hl x hx;exact h.inn y hy,fun x hx=>by obtain ⟨y,hy,t,rfl⟩:=hl x hx;exact h.Gi y hy,fun x hx=>by obtain ⟨y,hy,t,rfl⟩:=hl x hx;exact h.CU y hy⟩
theorem LQ.grown {w w':World} {B n:Nat} {v:Value} {L:List AD} {row:Option Nat} (h:LQ w B v L) (hl:yt n v L) (hg:w.grownBy w' row) (hr:∀ q,row=some q->n<=q):LQ w' B v L:=by
 have ne:∀ g,g<n->some g≠row:=fun g hgn e=>by have:=hr g e.symm;omega
 exact ⟨Own.grown h.own hg (fun g hg=>ne g (hl.own g hg)),fun x hx=>Own.grown (h.out x hx) hg (fun g hg=>ne g (hl.out x hx g hg)),fun x hx=>Own.grown (h.inn x hx) hg (fun g hg=>ne g (hl.inn x hx g hg)),fun x hx c hc=>Own.grown (h.Gi x hx c hc) hg (fun g hg=>ne g (hl.Gi x hx c hc g hg)),fun x hx=>Own.grown (h.CU x hx) hg (fun g hg=>ne g (hl.CU x hx g hg))⟩
def Jk (p:Pl) (O:List (List Int)) (L:List AD) (k:Nat):List AD:=(List.range L.length).map fun i=>{L.getD i ad0 with tw:=if i<k then GI p O i else 0}
theorem NU (p:Pl) (O:List (List Int)) (L:List AD) (k:Nat):(Jk p O L k).length=L.length:=by unfold Jk;simp
theorem Qd {p:Pl} {O:List (List Int)} {L:List AD} {k i:Nat} (hi:i<(Jk p O L k).length) (hl:i<L.length):(Jk p O L k)[i] = {L[i] with tw:=if i<k then GI p O i else 0}:=by
 simp only [Jk,Gq,List.getElem_range,Fj,DK hl,Gp]
theorem akv {p:Pl} {O:List (List Int)} {L:List AD} {k:Nat} {x:AD} (hx:x∈Jk p O L k):∃ y∈L,∃ t,x = {y with tw:=t}:=by
 obtain ⟨i,hi,rfl⟩:=Dp.1 hx;have hl:i<L.length:=by rw [NU] at hi;exact hi
 exact ⟨L[i],BH hl,_,Qd hi hl⟩
theorem aw1 {p:Pl} {O:List (List Int)} {L:List AD} (h:∀ x∈L,x.tw=0):Jk p O L 0=L:=by
 apply U6 (NU _ _ _ _);intro i h1 h2;rw [Qd h1 h2,AX AB,<- h _ (BH h2)]
theorem aw2 {p:Pl} {O:List (List Int)} {L:List AD}:Jk p O L 1=Jk p O L 0:=by
 apply U6 (by rw [NU,NU]);intro i h1 h2;have h3:i<L.length:=by rw [NU] at h1;exact h1
 rw [Qd h1 h3,Qd h2 h3];by_cases e:i=0
 · subst e;rfl
 · rw [AX AB,AX AB]
theorem aw3 {p:Pl} {O:List (List Int)} {L:List AD} {k:Nat} (hk:k<L.length):(Jk p O L k).set k {(Jk p O L k)[k]'(by rw [NU];exact hk) with tw:=GI p O k}=Jk p O L (k+1):=by
 apply U6 (by rw [Qm,NU,NU]);intro i h1 h2;have h3:i<L.length:=by rw [NU] at h2;exact h2
 rw [QG,Qd h2 h3];by_cases e:k=i
 ·subst e;rw [AZ rfl,AZ AB,Qd _ hk]
 ·rw [AX e,Qd _ h3];by_cases e2:i<k
  · rw [AZ e2,AZ AB]
  · rw [AX e2,AX AB]
theorem Oy.nodup {p:Pl} {O:List (List Int)} {k:Nat} (h:Oy p O k):(GK p O k).Nodup:=by
 unfold GK List.Nodup;rw [IL,Fe];intro i j hi hj hij;simp only [Qj] at hi hj;simp only [List.getElem_range];exact h.differ (i+1) (j+1) AB AB AB
theorem Valid.aw4 {p:Pl} (h:Valid p) {O:List (List Int)} {k:Nat} (hf:Oy p O k):∀ x∈GK p O k,x∈p.faces:=by
 intro x hx;obtain ⟨i,h1,h2,rfl⟩:=aeE.1 hx;have h0:=hf.some i h1 h2;unfold GI KH at h0 ⊢;split at h0
 · exact absurd rfl h0
 ·rename_i X e;rcases h.aeC (X.headD 0) with e2 | e2
  · exact absurd e2 h0
  · exact e2
theorem aw5 {p:Pl} (h:Valid p) {O:List (List Int)} (hO:O.Perm (Bj p)) (hf:Oy p O (O.length+1)):decide (Oz (GK p O (O.length+1))=p.faces)=NP p:=by
 rw [LX,E8,aeG hO,aua hf.nodup h.aeB (h.aw4 hf),aCv];exact ⟨fun e=>⟨hf,AB⟩,fun e=>by have:=e.2;omega⟩
def aw6 (w:World) (p:Pl) (e:Ending) (w':World):Prop :=
 ∃ A n c,e=.returned (.tuple #[.slice A n c,.bool (NP p)])/\AP w w'/\(NP p=true->∃ L,n=L.length/\LQ w' w.heap.size (.slice A n c) L/\FX p L (sortK (Bj p)) (J8 p) p.nodes/\∀ i (hi:i<L.length),L[i].tw=GI p (sortK (Bj p)) i)
theorem akw {p:Pl} {O:List (List Int)} {L:List AD} {R:List (List Int)} {N:List Nd} (h:FX p L O R N) (k:Nat):FX p (Jk p O L k) O R N:=by
 refine ⟨?_,fun i hi=>?_,fun i hi=>?_⟩
 ·rw [<- h.out];apply U6 (by simp [NU]);intro i h1 h2;have h3:i<L.length:=by simpa using h2
  rw [Gq,Gq,Qd _ h3]
 ·have h3:i<L.length:=by rw [NU] at hi;exact hi
  rw [Qd hi h3];exact h.inn i h3
 ·have h3:i<L.length:=by rw [NU] at hi;exact hi
  rw [Qd hi h3];exact h.CU i h3
theorem akx (v:Value) (p:Pl) (w:World) (h:Cb w v p) (hv:Valid p):Calls Tryz.prog 54 #[v] w (aw6 w p):=by
 have dn:=AA (fun W (hW:AP w W)=>aun v p W (h.mono hW) hv);have Ux:=AA (fun d (hd:d∈BU p) W (hW:AP w W)=>adb v p d W (h.mono hW) hv.short.long (KU su su));have aky:=AA (fun vc X fc W (hW:AP w W) hX hd hl=>aub v vc p X fc W (h.mono hW) hv hX hd hl);have HV:=AA hv;obtain ⟨O,hO⟩:=BL (sortK (Bj p));have rJ:O.Perm (Bj p):=by rw [<- hO];exact (XM (Bj p)).1
 have ZR:=AA hO;have hol:O.length<=512:=by
  rw [rJ.length_eq];exact Dn (LY _ _) hv.QY
 have Hg:=AA (fun k (hk:k<=O.length)=>akm rJ (k:=k) hk);have NK:=AA (fun hf=>aw5 hv rJ hf);have aA8:=AA (fun i c (hc:c∈MP p O i) d (hd:d∈c)=>hv.aeo (fun X hX=>rJ.subset hX) hc hd);have RX:=AA (fun X (hX:X∈O)=>(Nl.1 (rJ.subset hX)).1);have Ny:=AA (fun X (hX:X∈CX p)=>show X.length<=512 from Dn (Uy (hv.Gy hX).1 (hv.Gy hX).2) hv.xk);obtain ⟨_,_,_,al,rfl,hpa,⟨An,cn,rfl,-⟩,⟨⟨Aa,ca,rfl,-⟩,-⟩,hF⟩:=h;have HF:=AA hF;obtain ⟨Af,cf,rfl,-⟩:=hF;clear hpa hv hO rJ;generalize p.nodes.length=nn at *;generalize al.length=na at *;generalize hnf:p.faces.length=nf at *;clear hnf;go_enter Tryz.func54,Tryz.ntmps54;go_wp2_with fail;refine (dn.out _ (bA (bR w) _)).mono ?_;rintro e w1 ⟨A,c,L,rfl,hb1,haw,hdv,hz⟩;rw [ZR.out] at hdv;have hll:L.length=O.length+1:=hdv.len;have az5:0<L.length/\L.length<=513:=by omega
 have X1:AO w1 w.heap.size 26 #[.slice An nn cn,.slice Aa na ca,.slice Af nf cf]:=(AO.made rfl _ _).keep hb1;have HB1:=AA (bT (bA (bR w) _) hb1);have HA1:=AA (haw.Du (B':=w.heap.size+1) Aw);have HD:=AA hdv;have HZ:=AA hz;have JG:=AA hll;have D9:=AA X1;have akz:=AA haw.low;have aw7:w.heap.size<=w1.heap.size:=by have:=hb1.size;simp at this;omega
 obtain ⟨gL,hgA,alU,-,-,-⟩:=Own.OY HA1.out.own AB;subst hgA;have yj:=AA (fun i (hi:i<L.length)=>show (MQ L[i]).map (·.1)=MP p O i from by
  unfold MQ MP Jq aj;rw [Ez,hdv.inn i hi];congr 1;by_cases e:i=0
  · subst e;exact hdv.akX hi
  ·show L[i].out=_
   rw [hdv.aP hi AB,Ut AB AB];rfl)
 clear hb1 haw hdv hz X1 dn hll;go_wp2_with fail;go_loopw [5,6] (fun s i wr=>∃ k:Nat,k<=L.length/\i=.int .i64 k/\(∃ A5 c5,s=.slice A5 (k-1) c5)/\Own wr w1.heap.size 3 1 D5 s (GK p O k)/\LQ wr (w.heap.size+1) (.slice (some ⟨gL,0,none⟩) L.length c) (Jk p O L k)/\Oy p O k/\AO wr w.heap.size 26 #[.slice An nn cn,.slice Aa na ca,.slice Af nf cf]/\AP w wr/\w1.heap.size<=wr.heap.size) (fun _ i _=>L.length-(intOf i).toNat)
 case atStart => exact ⟨0,BZ _,rfl,⟨none,0,rfl⟩,Own.nil _ _ _ _ _,by rw [aw1 HZ.out];exact HA1.out,Oy.zero p O,D9.out,HB1.out,DT _⟩
 case round =>
  clear HA1 D9 HB1;obtain ⟨k,hk,rfl,⟨A5,c5,rfl⟩,DY,haw,hu,X1,hb,hsz⟩:=hrel;obtain ⟨wo,rfl⟩:=BO wr;have Fh:=AA DY;have HA:=AA haw;have HU:=AA hu;have HX:=AA X1;have HB:=AA hb;clear DY haw hu hb;by_cases hlt:k<L.length
  ·have hko:k<=O.length:=by have:=JG.out;omega
   have rM:k<(Jk p O L k).length:=by rw [NU];exact hlt
   have hset:=aw3 (p:=p) (O:=O) hlt;have hcy:=yj.out k hlt;have hfc:1<=k->L[k].out≠[]/\GI p O k=Es p (L[k].out.headD 0):=fun h1=>by
    have e1:=HD.out.aP hlt h1;have hX:O[k-1]'(by omega)∈O:=BH _;rw [e1];exact ⟨HV.out.Wh (RX.out _ hX),ZH h1 hko⟩
   have aa1:∀ d∈L[k].out,d∈BU p:=fun d hd=>aA8.out k L[k].out (by rw [<- hcy];exact Ea) d hd;have aem:L[k].out.length<=512:=by
    rcases HD.out.aCu (BH hlt) with e | e
    · rw [e];exact BZ _
    · exact Ny.out _ (RX.out _ e)
   have hcm:(Jk p O L k)[k]∈Jk p O L k:=BH rM;have hat:=Qd (p:=p) (O:=O) (k:=k) rM hlt;obtain ⟨y,hy⟩:=BL (L[k]);rw [hy] at hcy hfc aa1 aem hat;have HY:=AA hy;obtain ⟨tw,X,sv,inn,iv,CU,av⟩:=y;simp only at hcy hfc aa1 aem hat;obtain ⟨fc,ZU⟩:=BL (GI p O k);rw [ZU] at hfc hset;have SX:=AA ZU;have hf0:k=0->fc=0:=fun e=>by rw [<- SX.out,e];rfl
   have rG:=AA (fun h=>ajn p O (k:=k) h);rw [ZU] at rG;have DI:=AA hset;have Lr:=AA hcy;have XZ:=AA aa1;have HAt:=AA hat;have KI:=AA (Hg.out k hko);rw [ZU] at KI;have hfl:=aCv p O k;have al0:gL≠w.heap.size:=by omega
   clear hset hcy aa1 hat ZU hcm hy;go_upto_if 17 with fail;go_cut [5] (fun s wx=>(∃ A5 c5,s=.slice A5 (k+1-1) c5)/\Own wx w1.heap.size 3 1 D5 s (GK p O (k+1))/\LQ wx (w.heap.size+1) (.slice (some ⟨gL,0,none⟩) L.length c) (Jk p O L (k+1))/\AO wx w.heap.size 26 #[.slice An nn cn,.slice Aa na ca,.slice Af nf cf]/\AP w wx/\w1.heap.size<=wx.heap.size/\(1<=k->fc≠0/\fc∉GK p O k))
   case first =>
    rcases VF k with h0 | h0
    ·have hk0:¬ (0:Int)<(k:Int):=by omega
     have e1:Jk p O L (k+1)=Jk p O L k:=by rw [h0];exact aw2
     have e2:GK p O (k+1)=GK p O k:=by rw [h0];rfl
     have pW:=AA e1;have HE2:=AA e2;have hk9:k-1=k+1-1:=by omega
     have HK9:=AA hk9;have HZ0:=AA h0;clear e1 e2 hf0 X1 hk9 h0;go_wp2;go_meet
     case rel => exact ⟨⟨A5,c5,by rw [HK9.out]⟩,by rw [HE2.out];exact Fh.out,by rw [pW.out];exact HA.out,HX.out,HB.out,hsz,fun h=>by have:=HZ0.out;omega⟩
    ·have hk0:(0:Int)<(k:Int):=by omega
     obtain ⟨hne,hfe⟩:=hfc h0;have hkl:0<X.length:=fV.2 hne;have hhd:X.headD 0=X[0]:=by
      cases X with
      | nil=>exact absurd rfl hne
      | cons d l'=>rfl
     rw [hhd] at hfe;obtain ⟨g',GN,-,hgl,-,hce⟩:=Own.OY HA.out.own (by rw [NU];omega);injection GN with GN;injection GN with GN _ _;subst GN;obtain ⟨-,e1,-,-⟩:=hce k rM;have hout:=HA.out.out _ (BH rM);rw [HAt.out] at e1 hout;obtain ⟨sa,sn,sc⟩:=sv;unfold BJ at e1 hout;replace hout:Own wo (w.heap.size+1) 3 1 D5 (.slice sa sn sc) X:=hout;simp only at e1;have hnb:=Own.apart hout HA.out.own BG;obtain ⟨Ao,co,hel,-,-,aCy⟩:=hout.sl;injection hel with y1 y2 y3;subst y1 y2 y3;have hr2:=hout.row_of;obtain ⟨bl,ol,jl,jm,d0⟩:=(show Row wo sa (X.flatMap D5) from hr2).int hkl;subst jl;simp only [VJ] at d0;have ayW:bl≠gL:=fun e=>hnb bl rfl Y8;have kz:(0:Int)<X.length:=by omega
     have kn:¬ X=[]:=hne;have hmem:X[0]∈BU p:=XZ.out _ (BH hkl);have OI:=AA (fun W (hW:AP w W)=>Ux.out X[0] hmem W hW);generalize X[0]=dd at *;rw [<- hfe] at OI;have hkL:(k:Int)<L.length:=by omega
     have hk2:0<=(k:Int):=by omega
     have aa2:=AA hout;have pW:=AA e1;have xI:=AA (HA.out.keep (bD (bR wo)));clear hnb aCy hr2 hmem hhd hfe hf0 hce;have n1:¬ w.heap.size=gL:=fun e=>al0 e.symm;obtain ⟨Ak,Au,Az,BA,-,-,-⟩:=X1.BF;go_upto_region 7 with fail;refine Vp (wo) (some gL) (.run 7 0 0 (.call 7 255 (.take 8 511 (.take 9 1023 (.call 10 2047 (.take 11 4095 (.take 12 8191 (.call 13 16383 (.done))))))))) fun Bv QR Ae Ah hS=>?_
     iterate 7 refine Aj ?_
     refine BP ?_;clear hS;intro K hK AQ;go_simp;refine hK.out _ _ AQ.out (fun hS=>?_);clear hK K AQ
     try simp only [pu]
     iterate 2 refine Aj ?_
     refine BP ?_;clear hS;intro K hK AQ;go_simp;refine (OI.out _ (bT HB.out (bD (bR _)))).mono ?_;rintro e Bq ⟨rfl,Bf⟩;have hS:JI wo (some gL) Bq:=gB (w0:=wo) AQ.out Bf;clear AQ;refine hK.out _ _ hS (fun _=>?_);clear hK K
     try simp only [pu]
     iterate 2 refine Aj ?_
     refine BP ?_;clear hS;intro K hK AQ;have HAx:=xI.out.keep Bf;obtain ⟨ayX,al1,f0,-⟩:=Own.kE HAx.own rM;have hf0:=al1 (k*4);clear al1;have pX:=AA (HAx.face rM fc);have Ur:=AA (Own.ZQ ((Fh.out.keep (bD (bR wo))).keep Bf) HAx.own BG (k*4) (.int .i64 fc));have Kq:=AA (AO.far (p:=⟨gL,k*4,none⟩) ((HX.out.drew).keep Bf) (fun e=>al0 e.symm) (.int .i64 fc));have Lm:=AA (bS (p:=⟨gL,k*4,none⟩) (bT (bD HB.out) Bf) DC (.int .i64 fc));have al2:=Bf.size;go_simp;refine hK.out _ _ (by first | exact gS AQ.out _ _ | (unfold JI;have QW:World.grownBy _ _ _:=AQ.out;repeat (first | with_reducible assumption | with_reducible exact World.grownBy.refl _ _ | with_reducible refine gS ?_ _ _ | with_reducible refine gD ?_ | with_reducible refine gA ?_ _))) (fun hS=>?_);clear hK K AQ
     try simp only [pu]
     refine Ry ?_;clear hS Ah Ae;intro hB;skip;obtain ⟨W5,GU⟩:∃ W:World,W=Bq.setCell ⟨gL,k*4,none⟩ (.int .i64 fc):=⟨_,rfl⟩;rw [<- GU] at pX Ur Kq Lm ⊢;have hzW:Bq.heap.size=W5.heap.size:=by rw [GU];simp
     have RG:w1.heap.size<=W5.heap.size:=by simp only [World.size_drew] at al2;omega
     have P6:=pX.out;rw [DI.out] at P6;have Hu:=AA P6;have ZV:k<(Jk p O L (k+1)).length:=by rw [NU];exact hlt
     have Tz:=Qd (p:=p) (O:=O) (k:=k+1) ZV hlt;rw [AZ (abk k),SX.out] at Tz;obtain ⟨Q8,-,e50,-⟩:=Own.kE Hu.out.own ZV;rw [Tz] at e50;simp only at e50;have zu:=AA (fun W (hW:AP W5 W)=>ak5 (.slice A5 (k-1) c5) (GK p O k) fc W (Sl.mono Ur.out.sl hW));clear hB Bf GU P6 Tz hzW al2 pX DI xI Fh HX HB hgl jm d0 X1 Ak Au Az BA e1 pW aa2 kz kn hne;by_cases z:fc=0
     ·have z1:(fc == 0)=true:=by simpa using z
      have hf:=KI.out (.inl ⟨h0,z⟩);have HF:=AA hf;clear z hf;go_wp2_with fail;go_ret2;exact ⟨none,0,0,by rw [HF.out];rfl,Lm.out,fun e=>by rw [HF.out] at e;cases e⟩
     ·have z1:(fc == 0)=false:=by simpa using z
      obtain ⟨zq,hh2⟩:∃ q,(GK p O k).any (fun y=>decide (y=fc))=q:=⟨_,rfl⟩;rw [hh2] at zu;have HZq:=AA (show zq=true↔fc∈GK p O k by
       rw [<- hh2,PE];exact ⟨fun ⟨y,hy,e⟩=>by simp only [E8] at e;rw [<- e];exact hy,fun h=>⟨fc,h,Aw⟩⟩)
      have HZf:=AA z;clear hh2 z;go_wp2_with fail;refine (zu.out _ (bR _)).mono ?_;rintro e w6 ⟨rfl,hb6⟩;have ML:=AA (Ur.out.keep hb6);have V9:=AA (Hu.out.keep hb6);have IV:=AA (Kq.out.keep hb6);have Eb:=AA (bT Lm.out hb6);have jZ:w1.heap.size<=w6.heap.size:=Dn RG hb6.size;have e61:=Dv hb6 e50;clear hb6 zu Ur Hu Kq Lm e50 Q8
      cases zq
      case true =>
       have hf:=KI.out (.inr (.inl ⟨h0,HZq.out.1 rfl⟩));have HF:=AA hf;clear hf;go_wp2_with fail;go_ret2;exact ⟨none,0,0,by rw [HF.out];rfl,Eb.out,fun e=>by rw [HF.out] at e;cases e⟩
      case false =>
       have ayY:gL<w6.heap.size:=(Own.kE V9.out.own ZV).1;have hsu:=rG.out h0;have hsh:(GK p O k++[fc]).length=k+1-1:=by rw [EC,hfl];simp only [lJ];omega
       have Ov:=AA hsu;have DL:=AA hsh;have ayZ:(GK p O k).length<=513:=by omega
       clear hsu hsh;have hnz:fc≠0/\fc∉GK p O k:=⟨HZf.out,fun h=>by have:=HZq.out.2 h;cases this⟩;have HNz:=AA hnz;clear hnz;go_wp2_with
        (at_builtin
         refine Ew _ rfl (.tmp 46) (.tmp 52) _ rfl (base:=w1.heap.size) IB Gt IK rfl (Own.alloc ML.out _) rfl (l2:=[fc]) (Sl.lit (n:=1) (AO.made rfl _ _) rfl (D6 AB)) DR DR DC ?_;intro v7 w7 MS Fg RZ;obtain ⟨A7,c7,hv7,-⟩:=Own.IE MS;rw [DL.out] at hv7;subst hv7;have au:=AA MS;have Iw:=AA (AO.grown (IV.out.alloc _) Fg (fun e=>Own.Dz ML.out IV.out BG e.symm));have yu:=AA (LQ.grown (V9.out.keep (bA (bR w6) _)) (akz.out.face fun x hx=>akv hx) Fg (fun q hq=>(ML.out.lt q hq).1));have Jf:=AA (bG (bA Eb.out _) Fg (fun g hg=>Dn aw7 (ML.out.lt g hg).1));have hz7:=Fg.size;simp only [World.size_alloc] at hz7;clear MS Fg RZ
         )
       go_meet
       case rel => exact ⟨⟨A7,c7,rfl⟩,by rw [Ov.out];exact au.out,yu.out,Iw.out,Jf.out,AB,fun _=>HNz.out⟩
   case rest =>
    obtain ⟨⟨A7,c7,rfl⟩,ho3,ha3,X1,hb3,hz3,hzz⟩:=hcut;obtain ⟨wv,rfl⟩:=BO wc;have EI:=AA ho3;have IY:=AA ha3;have Ep:=AA X1;have HB3:=AA hb3;have HZz:=AA hzz;clear ho3 ha3 hb3 hzz Fh HA HX HB DI HAt hfc hf0;have ZV:k<(Jk p O L (k+1)).length:=by rw [NU];exact hlt
    have Tz:=Qd (p:=p) (O:=O) (k:=k+1) ZV hlt;rw [AZ (abk k),SX.out,HY.out] at Tz;have al3:=AA Tz;clear Tz;obtain ⟨sa,sn,sc⟩:=sv;obtain ⟨ia,FY,ic⟩:=iv;have HEl:=AA (fun W (hW:AP wv W)=>show gL<W.heap.size/\W.cell? ⟨gL,k*4,none⟩=some (.int .i64 fc)/\W.cell? ⟨gL,k*4+1,none⟩=some (.slice sa sn sc)/\W.cell? ⟨gL,k*4+2,none⟩=some (.slice ia FY ic) from by
     obtain ⟨h1,-,h2,h3,h4,-⟩:=Own.kE (IY.out.keep hW).own ZV;rw [al3.out] at h2 h3 h4;exact ⟨h1,h2,h3,h4⟩)
    have hout:=IY.out.out _ (BH ZV);have Iu:=IY.out.inn _ (BH ZV);have P5:=IY.out.Gi _ (BH ZV);rw [al3.out] at hout Iu P5;replace hout:Own wv (w.heap.size+1) 3 1 D5 (.slice sa sn sc) X:=hout;replace Iu:Own wv (w.heap.size+1) 24 1 Ib (.slice ia FY ic) inn:=Iu;replace P5:∀ c∈inn,Own wv (w.heap.size+1) 3 1 D5 (BJ c.2) c.1:=P5;obtain ⟨Ai,ci,hel,-,-,-⟩:=Iu.sl;injection hel with y1 y2 y3;subst y1 y2 y3;have dY:=AA P5;have G7:=AA Iu;have HMx:=AA (show X∈MP p O k from by rw [<- Lr.out];exact Ea);have NT:=AA (fun c (hc:c∈inn)=>show c.1∈MP p O k from by rw [<- Lr.out];exact Gn _ (Gs hc));have RI:=AA (fun W (hW:AP wv W)=>aky.out (.slice sa sn sc) X fc W (bT HB3.out hW) (Sl.mono hout.sl hW) XZ.out AB);obtain ⟨q1,hq1⟩:∃ q,(X.all fun d=>Es p d == fc)=q:=⟨_,rfl⟩;rw [hq1] at RI;have bU:=AA hq1;have hinl:inn.length<=512:=by
     have h9:=congrArg List.length (HD.out.inn k hlt);rw [Cm,HY.out] at h9;simp only at h9;rw [h9];refine Dn (LY _ _) ?_;exact Dn (LY _ _) HV.out.QY
    have hkL:(k:Int)<L.length:=by omega
    have hk2:0<=(k:Int):=by omega
    obtain ⟨hgl,e30,e31,-⟩:=HEl.out wv (bR wv);clear hout Iu P5 hq1
    try clear Ak Au Az BA
    obtain ⟨Ak,Au,Az,BA,-,-,-⟩:=X1.BF;go_upto_region 11 with fail;refine Cj (wv) (.run 11 0 0 (.call 11 4095 (.take 12 8191 (.done)))) fun Bv QR Ae Ah hS=>?_
    iterate 11 refine Aj ?_
    refine FD (RI.out _ hS) ?_;clear hS;intro Bq Bf hS;refine Aj ?_;refine Ce ?_;clear hS Ah Ae;intro hB;obtain ⟨W6,yw⟩:∃ W:World,W=Bq:=⟨_,rfl⟩;rw [<- yw] at hB ⊢;have Eb:=AA hB;have EY:=AA (bT HB3.out hB);clear hB Bf yw X1 Ak Au Az BA e30 e31 hgl RI
    cases q1
    case false =>
     have hf:=KI.out (.inr (.inr (by
      have h9:=bU.out;rw [Y3] at h9;obtain ⟨d,hd,hne⟩:=h9;exact ⟨X,HMx.out,d,hd,fun e=>hne (by rw [e];exact beq_self_eq_true _)⟩)))
     have HF:=AA hf;clear hf;go_wp2_with fail;go_ret2;exact ⟨none,0,0,by rw [HF.out];rfl,EY.out,fun e=>by rw [HF.out] at e;cases e⟩
    case true =>
     go_upto_block 2 with fail;go_wp2_with fail;go_loopw [7] (fun i wr=>∃ j:Nat,j<=inn.length/\i=.int .i64 j/\(∀ q (hq:q<inn.length),q<j->(inn[q].1.all fun d=>Es p d == fc)=true)/\AP W6 wr) (fun i _=>inn.length-(intOf i).toNat)
     case atStart => exact ⟨0,BZ _,rfl,(fun q _ h=>by omega),bR W6⟩
     case round =>
      obtain ⟨j,hj,rfl,hall,hb7⟩:=hrel;obtain ⟨wq,rfl⟩:=BO wr;have OJ:=AA hall;have Jf:=AA hb7;have Kz:=AA (bT Eb.out hb7);clear hall hb7;obtain ⟨hgl,e30,-,e32⟩:=HEl.out wq Kz.out;by_cases hlj:j<inn.length
      ·obtain ⟨bi,oi,rfl,aw8,f0⟩:=(G7.out.keep Kz.out).row_of.cy hlj;have hci:=dY.out inn[j] (BH hlj);have OT:=NT.out inn[j] (BH hlj);have hdk:=fun d (hd:d∈inn[j].1)=>aA8.out k inn[j].1 OT d hd;have hcl:inn[j].1.length<=1000:=by
        have h9:=HD.out.inn k hlt;rw [HY.out] at h9;simp only at h9;have h8:inn[j].1∈inn.map (·.1):=Gs (BH hlj);rw [h9] at h8;have h7:=Ny.out _ (iD.1 (QF.1 h8).1).1;omega
       have KD:=AA (fun (h:(inn[j].1.all fun d=>Es p d == fc)=true)=>all_succ (p:=fun y:List Int×SV=>(y.1.all fun d=>Es p d == fc)=true) OJ.out hlj h);generalize inn[j]=x at *;obtain ⟨Xi,xa,xn,xc⟩:=x;unfold BJ at hci;simp only at hci f0 OT hdk hcl KD;have HS2:=AA (fun W (hW:AP wq W)=>aky.out (.slice xa xn xc) Xi fc W (bT HB3.out (bT Kz.out hW)) (Sl.mono hci.sl (bT Kz.out hW)) hdk hcl);obtain ⟨q2,hq2⟩:∃ q,(Xi.all fun d=>Es p d == fc)=q:=⟨_,rfl⟩;rw [hq2] at HS2 KD;have Ku:=AA hq2;have aw9:=AA OT;have j1:(j:Int)<inn.length:=by omega
       have j2:0<=(j:Int):=by omega
       have X1:=Ep.out.keep Kz.out;clear hci OT hdk hq2
       try clear Ak Au Az BA
       obtain ⟨Ak,Au,Az,BA,-,-,-⟩:=X1.BF;go_upto_region 16 with fail;refine Cj (wq) (.run 14 0 0 (.call 14 32767 (.take 15 65535 (.done)))) fun Bv QR Ae Ah hS=>?_
       iterate 14 refine Aj ?_
       refine FD (HS2.out _ hS) ?_;clear hS;intro Bq Bf hS;refine Aj ?_;refine Ce ?_;clear hS Ah Ae;intro hB;have RS:=AA (bT Jf.out hB);have awC:=AA (bT HB3.out (bT Kz.out hB));clear hB Bf X1 Ak Au Az BA e30 e32 hgl f0 aw8 HS2
       cases q2
       case false =>
        have hf:=KI.out (.inr (.inr (by
         have h9:=Ku.out;rw [Y3] at h9;obtain ⟨d,hd,hne⟩:=h9;exact ⟨Xi,aw9.out,d,hd,fun e=>hne (by rw [e];exact beq_self_eq_true _)⟩)))
        have HF:=AA hf;clear hf;go_wp2_with fail;go_ret2;exact ⟨none,0,0,by rw [HF.out];rfl,awC.out,fun e=>by rw [HF.out] at e;cases e⟩
       case true =>
        have HN9:=AA (KD.out rfl);clear KD;go_wp2;go_roundw
        case rel => exact ⟨j+1,AB,BI,HN9.out,RS.out⟩
        case measure => exact BK
      ·have HU2:=AA (show Oy p O (k+1) from HU.out.succ (fun h1=>by rw [SX.out];exact (HZz.out h1).1) (fun h1=>by rw [SX.out];exact (HZz.out h1).2) (by
        rw [SX.out,<- Lr.out];intro c hc d hd;rcases EJ.1 hc with e | hc
        ·subst e;exact eq_of_beq (JF.1 bU.out d hd)
        ·obtain ⟨y,hy,rfl⟩:=EM.1 hc;obtain ⟨q,hq,rfl⟩:=Dp.1 hy;have hq':q<inn.length:=hq;exact eq_of_beq (JF.1 (OJ.out q hq' AB) d hd)))
       have Ur:=AA (EI.out.keep Kz.out);have HA9:=AA (IY.out.keep Kz.out);have Kq:=AA (Ep.out.keep Kz.out);have Lm:=AA (bT HB3.out Kz.out);have aCq:=Kz.out.size;go_wp2;go_roundw
       case rel => exact ⟨k+1,AB,BI,⟨A7,c7,rfl⟩,Ur.out,HA9.out,HU2.out,Kq.out,Lm.out,AB⟩
       case measure => exact BK
  ·have hkk:k=O.length+1:=by have:=JG.out;omega
   have hkL:k=L.length:=by omega
   have hu:=HU.out;rw [hkk] at hu;have hnm:=NK.out hu;obtain ⟨R,hR⟩:=BL (NP p);have rH:=AA hR;rw [hR] at hnm;have wP:=AA hnm;have hsl:(GK p O k).length=k-1:=aCv p O k;have hsk:GK p O k=GK p O (O.length+1):=by rw [hkk]
   have hints:Ints wo (.slice A5 (k-1) c5) (GK p O k):=Fh.out.sl;have fE:=AA (fun W (hW:AP wo W)=>aus (.slice A5 (k-1) c5) (GK p O k) W (hints.mono hW) AB);have yx:=AA (fun A9 c9 W (hW:AP wo W) (h9:Ints W (.slice A9 (Oz (GK p O k)).length c9) (Oz (GK p O k)))=>akk _ (.slice Af nf cf) (Oz (GK p O k)) p.faces W h9 (HF.out.mono (bT HB.out hW)));obtain ⟨nl,hnl⟩:=BL (Oz (GK p O k));rw [hnl] at fE yx;rw [<- hsk,hnl] at hnm;rw [hnm] at yx;have HFin:=AA (show R=true->∃ L',L.length=L'.length/\LQ wo w.heap.size (.slice (some ⟨gL,0,none⟩) L.length c) L'/\FX p L' O (J8 p) p.nodes/\∀ i (hi:i<L'.length),L'[i].tw=GI p O i from fun _=>by
    refine ⟨Jk p O L k,(NU _ _ _ _).symm,HA.out.Du AB,akw HD.out k,fun i hi=>?_⟩;have hil:i<L.length:=by rw [NU] at hi;exact hi
    rw [Qd hi hil,AZ AB])
   have X1:=HX.out;clear hnm hnl hsk hints hu hR wP hkk hkL hsl
   try clear Ak Au Az BA
   obtain ⟨Ak,Au,Az,BA,-,-,-⟩:=X1.BF;go_upto_region 18 with fail;refine Cj (wo) (.take 0 1 (.take 1 3 (.take 3 11 (.take 4 27 (.call 2 31 (.call 5 63 (.take 6 127 (.take 7 255 (.done))))))))) fun Bv QR Ae Ah hS=>?_
   iterate 4 refine Aj ?_
   refine BP ?_;clear hS;intro K hK AQ;go_simp;refine (fE.out _ AQ.out).mono ?_;rintro e Bq ⟨A9,c9,rfl,Bf,hi9⟩;have hS:Since wo Bq:=bT (w:=wo) AQ.out Bf;clear AQ;refine hK.out _ _ hS (fun _=>?_);clear hK K
   try simp only [pu]
   refine FD (yx.out A9 c9 _ hS hi9) ?_;clear hS;intro wr2 FT hS
   iterate 2 refine Aj ?_
   refine Ce ?_;clear hS Ah Ae;intro hB;have Lm:=AA (bT HB.out hB);have HF9:=AA (show R=true->∃ L',L.length=L'.length/\LQ wr2 w.heap.size (.slice (some ⟨gL,0,none⟩) L.length c) L'/\FX p L' O (J8 p) p.nodes/\∀ i (hi:i<L'.length),L'[i].tw=GI p O i from fun e=>by
    obtain ⟨L',h1,h2,h3,h4⟩:=HFin.out e;exact ⟨L',h1,h2.keep hB,h3,h4⟩)
   clear hB Bf FT hi9 X1 Ak Au Az BA;go_wp2_with fail;go_ret2;refine ⟨some ⟨gL,0,none⟩,L.length,c,by rw [rH.out];rfl,Lm.out,fun e=>?_⟩;rw [rH.out] at e;rw [ZR.out];exact HF9.out e
