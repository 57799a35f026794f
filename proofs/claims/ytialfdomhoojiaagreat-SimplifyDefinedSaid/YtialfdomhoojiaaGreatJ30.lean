import Derived.Test.YtialfdomhoojiaaGreatJ29
set_option linter.unusedSimpArgs false
set_option linter.unusedVariables false
set_option maxRecDepth 100000
set_option maxHeartbeats 8000000
namespace Go.Proofs.YtialfdomhoojiaaGreat
open Go.RowKit
theorem oZ.fG {w:World} {B B':Nat} {v:Value} {L:List AD} (h:oZ w B v L) (hb:B'<=B):oZ w B' v L :=
 ⟨h.own.fG hb,fun x hx=>(h.out x hx).fG hb,fun x hx=>(h.inn x hx).fG hb,fun x hx c hc=>(h.lH x hx c hc).fG hb,fun x hx=>(h.fD x hx).fG hb⟩
theorem Own.XY {e:TypeId} {w:World} {B g n c:Nat} {L:List AD} (h:Own w B e 4 wZ (.slice (some ⟨g,0,none⟩) n c) L) {k:Nat} (hk:k<L.length):g<w.heap.size/\(∀ j,w.frozen? ⟨g,j,none⟩=false) /\
  w.cell? ⟨g,k*4,none⟩=some (.int .i64 L[k].tw)/\w.cell? ⟨g,k*4+1,none⟩=some (bg L[k].ov)/\w.cell? ⟨g,k*4+2,none⟩=some (bg L[k].iv)/\w.cell? ⟨g,k*4+3,none⟩=some (bg L[k].av):=by
 obtain ⟨g',hg,-,h1,h2,h3⟩:=Own.uD h Pe;injection hg with hg;injection hg with hg _ _;subst hg;exact ⟨h1,h2,h3 k hk⟩
theorem oZ.face {w:World} {B g n c:Nat} {L:List AD} (h:oZ w B (.slice (some ⟨g,0,none⟩) n c) L) {i:Nat} (hi:i<L.length) (f:Int) :
  oZ (w.setCell ⟨g,i*4,none⟩ (.int .i64 f)) B (.slice (some ⟨g,0,none⟩) n c) (L.set i {L[i] with tw:=f}):=by
 have hm:=avF hi;refine ⟨?_,fun x hx=>?_,fun x hx=>?_,fun x hx=>?_,fun x hx=>?_⟩
 ·have:=Own.Nv RD h.own hi (j:=0) Pe {L[i] with tw:=f} (.int .i64 f) rfl
  simpa using this
 ·rcases xI hx with ⟨rfl,_⟩ | ⟨j,hj,_,rfl⟩
  · exact Own.GZ (h.out L[i] hm) h.own arC _ _
  · exact Own.GZ (h.out _ (avF hj)) h.own arC _ _
 ·rcases xI hx with ⟨rfl,_⟩ | ⟨j,hj,_,rfl⟩
  · exact Own.GZ (h.inn L[i] hm) h.own arC _ _
  · exact Own.GZ (h.inn _ (avF hj)) h.own arC _ _
 ·rcases xI hx with ⟨rfl,_⟩ | ⟨j,hj,_,rfl⟩
  · exact fun c hc=>Own.GZ (h.lH L[i] hm c hc) h.own arC _ _
  · exact fun c hc=>Own.GZ (h.lH _ (avF hj) c hc) h.own arC _ _
 ·rcases xI hx with ⟨rfl,_⟩ | ⟨j,hj,_,rfl⟩
  · exact Own.GZ (h.fD L[i] hm) h.own arC _ _
  · exact Own.GZ (h.fD _ (avF hj)) h.own arC _ _
structure TR (n:Nat) (v:Value) (L:List AD):Prop where
 own:∀ q,v.ownBlock=some q->q<n
 out:∀ x∈L,∀ q,(bg x.ov).ownBlock=some q->q<n
 inn:∀ x∈L,∀ q,(bg x.iv).ownBlock=some q->q<n
 lH:∀ x∈L,∀ c∈x.inn,∀ q,(bg c.2).ownBlock=some q->q<n
 fD:∀ x∈L,∀ q,(bg x.av).ownBlock=some q->q<n
theorem oZ.low {w:World} {B:Nat} {v:Value} {L:List AD} (h:oZ w B v L):TR w.heap.size v L :=
 ⟨fun q hq=>(h.own.lt q hq).2,fun x hx q hq=>((h.out x hx).lt q hq).2,fun x hx q hq=>((h.inn x hx).lt q hq).2,fun x hx c hc q hq=>((h.lH x hx c hc).lt q hq).2,fun x hx q hq=>((h.fD x hx).lt q hq).2⟩
theorem TR.face {n:Nat} {v:Value} {L L':List AD} (h:TR n v L) (hl:∀ x∈L',∃ y∈L,∃ t,x = {y with tw:=t}):TR n v L' :=
 ⟨h.own,fun x hx=>by obtain ⟨y,hy,t,rfl⟩:=hl x hx;exact h.out y hy,fun x hx=>by obtain ⟨y,hy,t,rfl⟩:=hl x hx;exact h.inn y hy,fun x hx=>by obtain ⟨y,hy,t,rfl⟩:=hl x hx;exact h.lH y hy,fun x hx=>by obtain ⟨y,hy,t,rfl⟩:=hl x hx;exact h.fD y hy⟩
theorem oZ.grown {w w':World} {B n:Nat} {v:Value} {L:List AD} {row:Option Nat} (h:oZ w B v L) (hl:TR n v L) (hg:w.grownBy w' row) (hr:∀ q,row=some q->n<=q):oZ w' B v L:=by
 have ne:∀ g,g<n->some g≠row:=fun g hgn e=>by have:=hr g e.symm;omega
 exact ⟨Own.grown h.own hg (fun g hg=>ne g (hl.own g hg)),fun x hx=>Own.grown (h.out x hx) hg (fun g hg=>ne g (hl.out x hx g hg)),fun x hx=>Own.grown (h.inn x hx) hg (fun g hg=>ne g (hl.inn x hx g hg)),fun x hx c hc=>Own.grown (h.lH x hx c hc) hg (fun g hg=>ne g (hl.lH x hx c hc g hg)),fun x hx=>Own.grown (h.fD x hx) hg (fun g hg=>ne g (hl.fD x hx g hg))⟩
def oK (p:Pl) (O:List (List Int)) (L:List AD) (k:Nat):List AD:=(List.range L.length).map fun i=>{L.getD i ad0 with tw:=if i<k then kU p O i else 0}
theorem sG (p:Pl) (O:List (List Int)) (L:List AD) (k:Nat):(oK p O L k).length=L.length:=by unfold oK;simp
theorem yN {p:Pl} {O:List (List Int)} {L:List AD} {k i:Nat} (hi:i<(oK p O L k).length) (hl:i<L.length):(oK p O L k)[i] = {L[i] with tw:=if i<k then kU p O i else 0}:=by
 simp only [oK,av4,List.getElem_range,avT,avG hl,avU]
theorem asn {p:Pl} {O:List (List Int)} {L:List AD} {k:Nat} {x:AD} (hx:x∈oK p O L k):∃ y∈L,∃ t,x = {y with tw:=t}:=by
 obtain ⟨i,hi,rfl⟩:=avI.1 hx;have hl:i<L.length:=by rw [sG] at hi;exact hi
 exact ⟨L[i],avF hl,_,yN hi hl⟩
theorem aso {p:Pl} {O:List (List Int)} {L:List AD} (h:∀ x∈L,x.tw=0):oK p O L 0=L:=by
 apply List.ext_getElem (sG _ _ _ _);intro i h1 h2;rw [yN h1 h2,if_neg Pe,<- h _ (avF h2)]
theorem asq {p:Pl} {O:List (List Int)} {L:List AD}:oK p O L 1=oK p O L 0:=by
 apply List.ext_getElem (by rw [sG,sG]);intro i h1 h2;have h3:i<L.length:=by rw [sG] at h1;exact h1
 rw [yN h1 h3,yN h2 h3];by_cases e:i=0
 · subst e;rfl
 · rw [if_neg Pe,if_neg Pe]
theorem asr {p:Pl} {O:List (List Int)} {L:List AD} {k:Nat} (hk:k<L.length):(oK p O L k).set k {(oK p O L k)[k]'(by rw [sG];exact hk) with tw:=kU p O k}=oK p O L (k+1):=by
 apply List.ext_getElem (by rw [av9,sG,sG]);intro i h1 h2;have h3:i<L.length:=by rw [sG] at h2;exact h2
 rw [av8,yN h2 h3];by_cases e:k=i
 ·subst e;rw [if_pos rfl,if_pos Pe,yN _ hk]
 ·rw [if_neg e,yN _ h3];by_cases e2:i<k
  · rw [if_pos e2,if_pos Pe]
  · rw [if_neg e2,if_neg Pe]
theorem rZ.nodup {p:Pl} {O:List (List Int)} {k:Nat} (h:rZ p O k):(jh p O k).Nodup:=by
 unfold jh List.Nodup;rw [List.pairwise_map,avJ];intro i j hi hj hij;simp only [List.length_range] at hi hj;simp only [List.getElem_range];exact h.differ (i+1) (j+1) Pe Pe Pe
theorem Valid.asu {p:Pl} (h:Valid p) {O:List (List Int)} {k:Nat} (hf:rZ p O k):∀ x∈jh p O k,x∈p.faces:=by
 intro x hx;obtain ⟨i,h1,h2,rfl⟩:=abZ.1 hx;have h0:=hf.some i h1 h2;unfold kU QX at h0 ⊢;split at h0
 · exact absurd rfl h0
 ·rename_i X e;rcases h.ahL (X.headD 0) with e2 | e2
  · exact absurd e2 h0
  · exact e2
theorem asv {p:Pl} (h:Valid p) {O:List (List Int)} (hO:O.Perm (iE p)) (hf:rZ p O (O.length+1)):decide (uG (jh p O (O.length+1))=p.faces)=uz p:=by
 rw [Bool.eq_iff_iff,avQ,ab1 hO,asi hf.nodup h.aqy (h.asu hf),Xc];exact ⟨fun e=>⟨hf,by omega⟩,fun e=>by have:=e.2;omega⟩
def asw (w:World) (p:Pl) (e:Ending) (w':World):Prop :=
 ∃ A n c,e=.returned (.tuple #[.slice A n c,.bool (uz p)])/\Below w.heap.size w w'/\(uz p=true->∃ L,n=L.length/\oZ w' w.heap.size (.slice A n c) L/\jP p L (sortK (iE p)) (rO p) p.nodes/\∀ i (hi:i<L.length),L[i].tw=kU p (sortK (iE p)) i)
theorem asx {p:Pl} {O:List (List Int)} {L:List AD} {R:List (List Int)} {N:List Nd} (h:jP p L O R N) (k:Nat):jP p (oK p O L k) O R N:=by
 refine ⟨?_,fun i hi=>?_,fun i hi=>?_⟩
 ·rw [<- h.out];apply List.ext_getElem (by simp [sG]);intro i h1 h2;have h3:i<L.length:=by simpa using h2
  rw [av4,av4,yN _ h3]
 ·have h3:i<L.length:=by rw [sG] at hi;exact hi
  rw [yN hi h3];exact h.inn i h3
 ·have h3:i<L.length:=by rw [sG] at hi;exact hi
  rw [yN hi h3];exact h.fD i h3
theorem asy (v:Value) (p:Pl) (w:World) (h:bQ w v p) (hv:Valid p):Calls Tryz.prog 54 #[v] w (asw w p):=by
 have HDv:=avE (fun W (hW:Below w.heap.size w W)=>arH v p W (h.mono hW) hv);have Ja:=avE (fun d (hd:d∈bf p) W (hW:Below w.heap.size w W)=>ae8 v p d W (h.mono hW) hv.short.long (qX avC avC));have aix:=avE (fun vc X fc W (hW:Below w.heap.size w W) hX hd hl=>asj v vc p X fc W (h.mono hW) hv hX hd hl);have HV:=avE hv;obtain ⟨O,hO⟩:∃ O,sortK (iE p)=O:=⟨_,rfl⟩;have O8:O.Perm (iE p):=by rw [<- hO];exact (SI (iE p)).1
 have Tt:=avE hO;have hol:O.length<=512:=by
  rw [O8.length_eq];exact avZ (List.length_filter_le _ _) hv.GI
 have jL:=avE (fun k (hk:k<=O.length)=>air O8 (k:=k) hk);have uT:=avE (fun hf=>asv hv O8 hf);have TI:=avE (fun i c (hc:c∈vk p O i) d (hd:d∈c)=>hv.aiq (fun X hX=>O8.subset hX) hc hd);have EO:=avE (fun X (hX:X∈O)=>(Dv.1 (O8.subset hX)).1);have nU:=avE (fun X (hX:X∈cO p)=>show X.length<=512 from avZ (Dk (hv.lV hX).1 (hv.lV hX).2) hv.Xa);obtain ⟨_,_,_,al,rfl,hpa,⟨An,cn,rfl,-⟩,⟨⟨Aa,ca,rfl,-⟩,-⟩,hF⟩:=h;have HF:=avE hF;obtain ⟨Af,cf,rfl,-⟩:=hF;clear hpa hv hO O8;generalize p.nodes.length=nn at *;generalize al.length=na at *;generalize hnf:p.faces.length=nf at *;clear hnf;go_enter Tryz.func54,Tryz.ntmps54;go_wp2_with fail;refine (HDv.out _ (bA (bR w) _)).mono ?_;rintro e w1 ⟨A,c,L,rfl,hb1,haw,hdv,hz⟩;rw [Tt.out] at hdv;have hll:L.length=O.length+1:=hdv.len;have au3:0<L.length/\L.length<=513:=by omega
 have X1:ah w1 w.heap.size 26 #[.slice An nn cn,.slice Aa na ca,.slice Af nf cf]:=(ah.made rfl _ _).keep hb1;have HB1:=avE (bT (bA (bR w) _) hb1);have HA1:=avE (haw.fG (B':=w.heap.size+1) ars);have HD:=avE hdv;have HZ:=avE hz;have iM:=avE hll;have gq:=avE X1;have asz:=avE haw.low;have asA:w.heap.size<=w1.heap.size:=by have:=hb1.size;simp at this;omega
 obtain ⟨gL,hgA,arI,-,-,-⟩:=Own.uD HA1.out.own Pe;subst hgA;have TK:=avE (fun i (hi:i<L.length)=>show (DI L[i]).map (·.1)=vk p O i from by
  unfold DI vk Oh aaZ;rw [List.map_cons,hdv.inn i hi];congr 1;by_cases e:i=0
  · subst e;exact hdv.ahK hi
  ·show L[i].out=_
   rw [hdv.SK hi Pe,Md Pe Pe];rfl)
 clear hb1 haw hdv hz X1 HDv hll;go_wp2_with fail;go_loopw [5,6] (fun s i wr=>∃ k:Nat,k<=L.length/\i=.int .i64 k/\(∃ A5 c5,s=.slice A5 (k-1) c5)/\Own wr w1.heap.size 3 1 dw s (jh p O k)/\oZ wr (w.heap.size+1) (.slice (some ⟨gL,0,none⟩) L.length c) (oK p O L k)/\rZ p O k/\ah wr w.heap.size 26 #[.slice An nn cn,.slice Aa na ca,.slice Af nf cf]/\Below w.heap.size w wr/\w1.heap.size<=wr.heap.size) (fun _ i _=>L.length-(intOf i).toNat)
 case atStart => exact ⟨0,avK _,rfl,⟨none,0,rfl⟩,Own.nil _ _ _ _ _,by rw [aso HZ.out];exact HA1.out,rZ.zero p O,gq.out,HB1.out,awe _⟩
 case round =>
  clear HA1 gq HB1;obtain ⟨k,hk,rfl,⟨A5,c5,rfl⟩,dG,haw,hu,X1,hb,hsz⟩:=hrel;obtain ⟨wo,rfl⟩:∃ wo:World,wo=wr:=⟨_,rfl⟩;have jd:=avE dG;have HA:=avE haw;have HU:=avE hu;have HX:=avE X1;have HB:=avE hb;clear dG haw hu hb;by_cases hlt:k<L.length
  ·have hko:k<=O.length:=by have:=iM.out;omega
   have O9:k<(oK p O L k).length:=by rw [sG];exact hlt
   have hset:=asr (p:=p) (O:=O) hlt;have hcy:=TK.out k hlt;have hfc:1<=k->L[k].out≠[]/\kU p O k=iw p (L[k].out.headD 0):=fun h1=>by
    have e1:=HD.out.SK hlt h1;have hX:O[k-1]'(by omega)∈O:=avF _;rw [e1];exact ⟨HV.out.GH (EO.out _ hX),JK h1 hko⟩
   have XZ:∀ d∈L[k].out,d∈bf p:=fun d hd=>TI.out k L[k].out (by rw [<- hcy];exact av3) d hd;have acw:L[k].out.length<=512:=by
    rcases HD.out.abY (avF hlt) with e | e
    · rw [e];exact avK _
    · exact nU.out _ (EO.out _ e)
   have hcm:(oK p O L k)[k]∈oK p O L k:=avF O9;have hat:=yN (p:=p) (O:=O) (k:=k) O9 hlt;obtain ⟨y,hy⟩:∃ y,L[k]=y:=⟨_,rfl⟩;rw [hy] at hcy hfc XZ acw hat;have HY:=avE hy;obtain ⟨tw,X,sv,inn,iv,fD,av⟩:=y;simp only at hcy hfc XZ acw hat;obtain ⟨fc,G8⟩:∃ fc,kU p O k=fc:=⟨_,rfl⟩;rw [G8] at hfc hset;have yM:=avE G8;have hf0:k=0->fc=0:=fun e=>by rw [<- yM.out,e];rfl
   have O7:=avE (fun h=>ahN p O (k:=k) h);rw [G8] at O7;have fU:=avE hset;have yK:=avE hcy;have ER:=avE XZ;have HAt:=avE hat;have wM:=avE (jL.out k hko);rw [G8] at wM;have hfl:=Xc p O k;have aiy:gL≠w.heap.size:=by omega
   clear hset hcy XZ hat G8 hcm hy;go_upto_if 17 with fail;go_cut [5] (fun s wx=>(∃ A5 c5,s=.slice A5 (k+1-1) c5)/\Own wx w1.heap.size 3 1 dw s (jh p O (k+1))/\oZ wx (w.heap.size+1) (.slice (some ⟨gL,0,none⟩) L.length c) (oK p O L (k+1))/\ah wx w.heap.size 26 #[.slice An nn cn,.slice Aa na ca,.slice Af nf cf]/\Below w.heap.size w wx/\w1.heap.size<=wx.heap.size/\(1<=k->fc≠0/\fc∉jh p O k))
   case first =>
    rcases Nat.eq_zero_or_pos k with h0 | h0
    ·have hk0:¬ (0:Int)<(k:Int):=by omega
     have e1:oK p O L (k+1)=oK p O L k:=by rw [h0];exact asq
     have e2:jh p O (k+1)=jh p O k:=by rw [h0];rfl
     have EW:=avE e1;have HE2:=avE e2;have hk9:k-1=k+1-1:=by omega
     have HK9:=avE hk9;have HZ0:=avE h0;clear e1 e2 hf0 X1 hk9 h0;go_wp2;go_meet
     case rel => exact ⟨⟨A5,c5,by rw [HK9.out]⟩,by rw [HE2.out];exact jd.out,by rw [EW.out];exact HA.out,HX.out,HB.out,hsz,fun h=>by have:=HZ0.out;omega⟩
    ·have hk0:(0:Int)<(k:Int):=by omega
     obtain ⟨hne,hfe⟩:=hfc h0;have hkl:0<X.length:=List.length_pos_iff.2 hne;have hhd:X.headD 0=X[0]:=by
      cases X with
      | nil=>exact absurd rfl hne
      | cons d l'=>rfl
     rw [hhd] at hfe;obtain ⟨g',jo,-,hgl,-,hce⟩:=Own.uD HA.out.own (by rw [sG];omega);injection jo with jo;injection jo with jo _ _;subst jo;obtain ⟨-,e1,-,-⟩:=hce k O9;have hout:=HA.out.out _ (avF O9);rw [HAt.out] at e1 hout;obtain ⟨sa,sn,sc⟩:=sv;unfold bg at e1 hout;replace hout:Own wo (w.heap.size+1) 3 1 dw (.slice sa sn sc) X:=hout;simp only at e1;have hnb:=Own.apart hout HA.out.own arC;obtain ⟨Ao,co,hel,-,-,XU⟩:=hout.sl;injection hel with y1 y2 y3;subst y1 y2 y3;have hr2:=hout.row_of;obtain ⟨bl,ol,MF,MG,d0⟩:=(show Row wo sa (X.flatMap dw) from hr2).int hkl;subst MF;simp only [Nat.add_zero] at d0;have au4:bl≠gL:=fun e=>hnb bl rfl (by rw [e];rfl);have kz:(0:Int)<X.length:=by omega
     have kn:¬ X=[]:=hne;have hmem:X[0]∈bf p:=ER.out _ (avF hkl);have tJ:=avE (fun W (hW:Below w.heap.size w W)=>Ja.out X[0] hmem W hW);generalize X[0]=dd at *;rw [<- hfe] at tJ;have hkL:(k:Int)<L.length:=by omega
     have hk2:0<=(k:Int):=by omega
     have HRo:=avE hout;have EW:=avE e1;have zI:=avE (HA.out.keep (bD (bR wo)));clear hnb XU hr2 hmem hhd hfe hf0 hce;have n1:¬ w.heap.size=gL:=fun e=>aiy e.symm;obtain ⟨aS,aT,aU,aW,-,-,-⟩:=X1.aF;go_upto_region 7 with fail;refine YS (wo) (some gL) (.run 7 0 0 (.call 7 255 (.take 8 511 (.take 9 1023 (.call 10 2047 (.take 11 4095 (.take 12 8191 (.call 13 16383 (.done))))))))) fun bZ QR aB aH hS=>?_
     iterate 7 refine aC ?_
     refine bK ?_;clear hS;intro K hK ak;go_simp;refine hK.out _ _ ak.out (fun hS=>?_);clear hK K ak
     try simp only [pu]
     iterate 2 refine aC ?_
     refine bK ?_;clear hS;intro K hK ak;go_simp;refine (tJ.out _ (bT HB.out (bD (bR _)))).mono ?_;rintro e cZ ⟨rfl,bW⟩;have hS:Ae wo (some gL) cZ:=gB (w0:=wo) ak.out bW;clear ak;refine hK.out _ _ hS (fun _=>?_);clear hK K
     try simp only [pu]
     iterate 2 refine aC ?_
     refine bK ?_;clear hS;intro K hK ak;have OE:=zI.out.keep bW;obtain ⟨au5,aiz,f0,-⟩:=Own.XY OE.own O9;have hf0:=aiz (k*4);clear aiz;have HAf:=avE (OE.face O9 fc);have BM:=avE (Own.GZ ((jd.out.keep (bD (bR wo))).keep bW) OE.own arC (k*4) (.int .i64 fc));have oh:=avE (ah.far (p:=⟨gL,k*4,none⟩) ((HX.out.drew).keep bW) (fun e=>aiy e.symm) (.int .i64 fc));have je:=avE (bS (p:=⟨gL,k*4,none⟩) (bT (bD HB.out) bW) arV (.int .i64 fc));have aiA:=bW.size;go_simp;refine hK.out _ _ (by first | exact gS ak.out _ _ | (unfold Ae;have hS9:World.grownBy _ _ _:=ak.out;repeat (first | with_reducible assumption | with_reducible exact World.grownBy.refl _ _ | with_reducible refine gS ?_ _ _ | with_reducible refine gD ?_ | with_reducible refine gA ?_ _))) (fun hS=>?_);clear hK K ak
     try simp only [pu]
     refine YT ?_;clear hS aH aB;intro hB;skip;obtain ⟨W5,kJ⟩:∃ W:World,W=cZ.setCell ⟨gL,k*4,none⟩ (.int .i64 fc):=⟨_,rfl⟩;rw [<- kJ] at HAf BM oh je ⊢;have hzW:cZ.heap.size=W5.heap.size:=by rw [kJ];simp
     have zG:w1.heap.size<=W5.heap.size:=by simp only [World.size_drew] at aiA;omega
     have haf:=HAf.out;rw [fU.out] at haf;have jY:=avE haf;have G9:k<(oK p O L (k+1)).length:=by rw [sG];exact hlt
     have zL:=yN (p:=p) (O:=O) (k:=k+1) G9 hlt;rw [if_pos (Nat.lt_succ_self k),yM.out] at zL;obtain ⟨vC,-,e50,-⟩:=Own.XY jY.out.own G9;rw [zL] at e50;simp only at e50;have Tc:=avE (fun W (hW:Below W5.heap.size W5 W)=>aif (.slice A5 (k-1) c5) (jh p O k) fc W (Sl.mono BM.out.sl hW));clear hB bW kJ haf zL hzW aiA HAf fU zI jd HX HB hgl MG d0 X1 aS aT aU aW e1 EW HRo kz kn hne;by_cases z:fc=0
     ·have z1:(fc == 0)=true:=by simpa using z
      have hf:=wM.out (.inl ⟨h0,z⟩);have HF:=avE hf;clear z hf;go_wp2_with fail;go_ret2;exact ⟨none,0,0,by rw [HF.out];rfl,je.out,fun e=>by rw [HF.out] at e;cases e⟩
     ·have z1:(fc == 0)=false:=by simpa using z
      obtain ⟨zq,hh2⟩:∃ q,(jh p O k).any (fun y=>decide (y=fc))=q:=⟨_,rfl⟩;rw [hh2] at Tc;have HZq:=avE (show zq=true↔fc∈jh p O k by
       rw [<- hh2,awg];exact ⟨fun ⟨y,hy,e⟩=>by simp only [avQ] at e;rw [<- e];exact hy,fun h=>⟨fc,h,by simp⟩⟩)
      have HZf:=avE z;clear hh2 z;go_wp2_with fail;refine (Tc.out _ (bR _)).mono ?_;rintro e w6 ⟨rfl,hb6⟩;have qp:=avE (BM.out.keep hb6);have Ci:=avE (jY.out.keep hb6);have pI:=avE (oh.out.keep hb6);have jq:=avE (bT je.out hb6);have QZ:w1.heap.size<=w6.heap.size:=avZ zG hb6.size;have e61:=kF hb6 e50;clear hb6 Tc BM jY oh je e50 vC
      cases zq
      case true =>
       have hf:=wM.out (.inr (.inl ⟨h0,HZq.out.1 rfl⟩));have HF:=avE hf;clear hf;go_wp2_with fail;go_ret2;exact ⟨none,0,0,by rw [HF.out];rfl,jq.out,fun e=>by rw [HF.out] at e;cases e⟩
      case false =>
       have au6:gL<w6.heap.size:=(Own.XY Ci.out.own G9).1;have hsu:=O7.out h0;have hsh:(jh p O k++[fc]).length=k+1-1:=by rw [avL,hfl];simp only [List.length_singleton];omega
       have yB:=avE hsu;have iL:=avE hsh;have au7:(jh p O k).length<=513:=by omega
       clear hsu hsh;have hnz:fc≠0/\fc∉jh p O k:=⟨HZf.out,fun h=>by have:=HZq.out.2 h;cases this⟩;have HNz:=avE hnz;clear hnz;go_wp2_with
        (at_builtin
         refine iZ _ rfl (.tmp 46) (.tmp 52) _ rfl (base:=w1.heap.size) jR jB jT rfl (Own.alloc qp.out _) rfl (l2:=[fc]) (Sl.lit (n:=1) (ah.made rfl _ _) rfl (dP Pe)) afr afr arV ?_;intro v7 w7 BZ kD aco;obtain ⟨A7,c7,hv7,-⟩:=Own.lI BZ;rw [iL.out] at hv7;subst hv7;have Dy:=avE BZ;have lS:=avE (ah.grown (pI.out.alloc _) kD (fun e=>Own.iO qp.out pI.out arC e.symm));have HA7:=avE (oZ.grown (Ci.out.keep (bA (bR w6) _)) (asz.out.face fun x hx=>asn hx) kD (fun q hq=>(qp.out.lt q hq).1));have gW:=avE (bG (bA jq.out _) kD (fun g hg=>avZ asA (qp.out.lt g hg).1));have hz7:=kD.size;simp only [World.size_alloc] at hz7;clear BZ kD aco
         )
       go_meet
       case rel => exact ⟨⟨A7,c7,rfl⟩,by rw [yB.out];exact Dy.out,HA7.out,lS.out,gW.out,by omega,fun _=>HNz.out⟩
   case rest =>
    obtain ⟨⟨A7,c7,rfl⟩,ho3,ha3,X1,hb3,hz3,hzz⟩:=hcut;obtain ⟨wv,rfl⟩:∃ wv:World,wv=wc:=⟨_,rfl⟩;have gY:=avE ho3;have l9:=avE ha3;have dW:=avE X1;have HB3:=avE hb3;have HZz:=avE hzz;clear ho3 ha3 hb3 hzz jd HA HX HB fU HAt hfc hf0;have G9:k<(oK p O L (k+1)).length:=by rw [sG];exact hlt
    have zL:=yN (p:=p) (O:=O) (k:=k+1) G9 hlt;rw [if_pos (Nat.lt_succ_self k),yM.out,HY.out] at zL;have aiB:=avE zL;clear zL;obtain ⟨sa,sn,sc⟩:=sv;obtain ⟨ia,xq,ic⟩:=iv;have HEl:=avE (fun W (hW:Below wv.heap.size wv W)=>show gL<W.heap.size/\W.cell? ⟨gL,k*4,none⟩=some (.int .i64 fc)/\W.cell? ⟨gL,k*4+1,none⟩=some (.slice sa sn sc)/\W.cell? ⟨gL,k*4+2,none⟩=some (.slice ia xq ic) from by
     obtain ⟨h1,-,h2,h3,h4,-⟩:=Own.XY (l9.out.keep hW).own G9;rw [aiB.out] at h2 h3 h4;exact ⟨h1,h2,h3,h4⟩)
    have hout:=l9.out.out _ (avF G9);have kV:=l9.out.inn _ (avF G9);have sD:=l9.out.lH _ (avF G9);rw [aiB.out] at hout kV sD;replace hout:Own wv (w.heap.size+1) 3 1 dw (.slice sa sn sc) X:=hout;replace kV:Own wv (w.heap.size+1) 24 1 lJ (.slice ia xq ic) inn:=kV;replace sD:∀ c∈inn,Own wv (w.heap.size+1) 3 1 dw (bg c.2) c.1:=sD;obtain ⟨Ai,ci,hel,-,-,-⟩:=kV.sl;injection hel with y1 y2 y3;subst y1 y2 y3;have JU:=avE sD;have jg:=avE kV;have WL:=avE (show X∈vk p O k from by rw [<- yK.out];exact av3);have ES:=avE (fun c (hc:c∈inn)=>show c.1∈vk p O k from by rw [<- yK.out];exact List.mem_cons_of_mem _ (awd hc));have nM:=avE (fun W (hW:Below wv.heap.size wv W)=>aix.out (.slice sa sn sc) X fc W (bT HB3.out hW) (Sl.mono hout.sl hW) ER.out Pe);obtain ⟨q1,hq1⟩:∃ q,(X.all fun d=>iw p d == fc)=q:=⟨_,rfl⟩;rw [hq1] at nM;have uS:=avE hq1;have hinl:inn.length<=512:=by
     have h9:=congrArg List.length (HD.out.inn k hlt);rw [avM,HY.out] at h9;simp only at h9;rw [h9];refine avZ (List.length_filter_le _ _) ?_;exact avZ (List.length_filter_le _ _) HV.out.GI
    have hkL:(k:Int)<L.length:=by omega
    have hk2:0<=(k:Int):=by omega
    obtain ⟨hgl,e30,e31,-⟩:=HEl.out wv (bR wv);clear hout kV sD hq1
    try clear aS
    try clear aT
    try clear aU
    try clear aW
    obtain ⟨aS,aT,aU,aW,-,-,-⟩:=X1.aF;go_upto_region 11 with fail;refine dH (wv) (.run 11 0 0 (.call 11 4095 (.take 12 8191 (.done)))) fun bZ QR aB aH hS=>?_
    iterate 11 refine aC ?_
    refine fV (nM.out _ hS) ?_;clear hS;intro cZ bW hS;refine aC ?_;refine dB ?_;clear hS aH aB;intro hB;obtain ⟨W6,hW6⟩:∃ W:World,W=cZ:=⟨_,rfl⟩;rw [<- hW6] at hB ⊢;have jq:=avE hB;have jW:=avE (bT HB3.out hB);clear hB bW hW6 X1 aS aT aU aW e30 e31 hgl nM
    cases q1
    case false =>
     have hf:=wM.out (.inr (.inr (by
      have h9:=uS.out;rw [List.all_eq_false] at h9;obtain ⟨d,hd,hne⟩:=h9;exact ⟨X,WL.out,d,hd,fun e=>hne (by rw [e];exact beq_self_eq_true _)⟩)))
     have HF:=avE hf;clear hf;go_wp2_with fail;go_ret2;exact ⟨none,0,0,by rw [HF.out];rfl,jW.out,fun e=>by rw [HF.out] at e;cases e⟩
    case true =>
     go_upto_block 2 with fail;go_wp2_with fail;go_loopw [7] (fun i wr=>∃ j:Nat,j<=inn.length/\i=.int .i64 j/\(∀ q (hq:q<inn.length),q<j->(inn[q].1.all fun d=>iw p d == fc)=true)/\Below W6.heap.size W6 wr) (fun i _=>inn.length-(intOf i).toNat)
     case atStart => exact ⟨0,avK _,rfl,(fun q _ h=>by omega),bR W6⟩
     case round =>
      obtain ⟨j,hj,rfl,hall,hb7⟩:=hrel;obtain ⟨wq,rfl⟩:∃ wq:World,wq=wr:=⟨_,rfl⟩;have qL:=avE hall;have gW:=avE hb7;have DU:=avE (bT jq.out hb7);clear hall hb7;obtain ⟨hgl,e30,-,e32⟩:=HEl.out wq DU.out;by_cases hlj:j<inn.length
      ·obtain ⟨bi,oi,rfl,asB,f0⟩:=(jg.out.keep DU.out).row_of.cy hlj;have hci:=JU.out inn[j] (avF hlj);have zo:=ES.out inn[j] (avF hlj);have hdk:=fun d (hd:d∈inn[j].1)=>TI.out k inn[j].1 zo d hd;have hcl:inn[j].1.length<=1000:=by
        have h9:=HD.out.inn k hlt;rw [HY.out] at h9;simp only at h9;have h8:inn[j].1∈inn.map (·.1):=awd (avF hlj);rw [h9] at h8;have h7:=nU.out _ (aaY.1 (av7.1 h8).1).1;omega
       have oD:=avE (fun (h:(inn[j].1.all fun d=>iw p d == fc)=true)=>all_succ (p:=fun y:List Int×SV=>(y.1.all fun d=>iw p d == fc)=true) qL.out hlj h);generalize inn[j]=x at *;obtain ⟨Xi,xa,xn,xc⟩:=x;unfold bg at hci;simp only at hci f0 zo hdk hcl oD;have HS2:=avE (fun W (hW:Below wq.heap.size wq W)=>aix.out (.slice xa xn xc) Xi fc W (bT HB3.out (bT DU.out hW)) (Sl.mono hci.sl (bT DU.out hW)) hdk hcl);obtain ⟨q2,hq2⟩:∃ q,(Xi.all fun d=>iw p d == fc)=q:=⟨_,rfl⟩;rw [hq2] at HS2 oD;have Jv:=avE hq2;have asC:=avE zo;have j1:(j:Int)<inn.length:=by omega
       have j2:0<=(j:Int):=by omega
       have X1:=dW.out.keep DU.out;clear hci zo hdk hq2
       try clear aS
       try clear aT
       try clear aU
       try clear aW
       obtain ⟨aS,aT,aU,aW,-,-,-⟩:=X1.aF;go_upto_region 16 with fail;refine dH (wq) (.run 14 0 0 (.call 14 32767 (.take 15 65535 (.done)))) fun bZ QR aB aH hS=>?_
       iterate 14 refine aC ?_
       refine fV (HS2.out _ hS) ?_;clear hS;intro cZ bW hS;refine aC ?_;refine dB ?_;clear hS aH aB;intro hB;have jl:=avE (bT gW.out hB);have asD:=avE (bT HB3.out (bT DU.out hB));clear hB bW X1 aS aT aU aW e30 e32 hgl f0 asB HS2
       cases q2
       case false =>
        have hf:=wM.out (.inr (.inr (by
         have h9:=Jv.out;rw [List.all_eq_false] at h9;obtain ⟨d,hd,hne⟩:=h9;exact ⟨Xi,asC.out,d,hd,fun e=>hne (by rw [e];exact beq_self_eq_true _)⟩)))
        have HF:=avE hf;clear hf;go_wp2_with fail;go_ret2;exact ⟨none,0,0,by rw [HF.out];rfl,asD.out,fun e=>by rw [HF.out] at e;cases e⟩
       case true =>
        have HN9:=avE (oD.out rfl);clear oD;go_wp2;go_roundw
        case rel => exact ⟨j+1,by omega,by go_num,HN9.out,jl.out⟩
        case measure => simp [intOf];omega
      ·have HU2:=avE (show rZ p O (k+1) from HU.out.succ (fun h1=>by rw [yM.out];exact (HZz.out h1).1) (fun h1=>by rw [yM.out];exact (HZz.out h1).2) (by
        rw [yM.out,<- yK.out];intro c hc d hd;rcases av2.1 hc with e | hc
        ·subst e;exact eq_of_beq (awh.1 uS.out d hd)
        ·obtain ⟨y,hy,rfl⟩:=av6.1 hc;obtain ⟨q,hq,rfl⟩:=avI.1 hy;have hq':q<inn.length:=hq;exact eq_of_beq (awh.1 (qL.out q hq' Pe) d hd)))
       have BM:=avE (gY.out.keep DU.out);have HA9:=avE (l9.out.keep DU.out);have oh:=avE (dW.out.keep DU.out);have je:=avE (bT HB3.out DU.out);have VT:=DU.out.size;go_wp2;go_roundw
       case rel => exact ⟨k+1,by omega,by go_num,⟨A7,c7,rfl⟩,BM.out,HA9.out,HU2.out,oh.out,je.out,by omega⟩
       case measure => simp [intOf];omega
  ·have hkk:k=O.length+1:=by have:=iM.out;omega
   have hkL:k=L.length:=by omega
   have hu:=HU.out;rw [hkk] at hu;have hnm:=uT.out hu;obtain ⟨R,hR⟩:∃ R,uz p=R:=⟨_,rfl⟩;have XW:=avE hR;rw [hR] at hnm;have Qz:=avE hnm;have hsl:(jh p O k).length=k-1:=Xc p O k;have hsk:jh p O k=jh p O (O.length+1):=by rw [hkk]
   have hints:Ints wo (.slice A5 (k-1) c5) (jh p O k):=jd.out.sl;have SQ:=avE (fun W (hW:Below wo.heap.size wo W)=>ar4 (.slice A5 (k-1) c5) (jh p O k) W (hints.mono hW) Pe);have L9:=avE (fun A9 c9 W (hW:Below wo.heap.size wo W) (h9:Ints W (.slice A9 (uG (jh p O k)).length c9) (uG (jh p O k)))=>ar5 _ (.slice Af nf cf) (uG (jh p O k)) p.faces W h9 (HF.out.mono (bT HB.out hW)));obtain ⟨nl,hnl⟩:∃ nl,uG (jh p O k)=nl:=⟨_,rfl⟩;rw [hnl] at SQ L9;rw [<- hsk,hnl] at hnm;rw [hnm] at L9;have HFin:=avE (show R=true->∃ L',L.length=L'.length/\oZ wo w.heap.size (.slice (some ⟨gL,0,none⟩) L.length c) L'/\jP p L' O (rO p) p.nodes/\∀ i (hi:i<L'.length),L'[i].tw=kU p O i from fun _=>by
    refine ⟨oK p O L k,(sG _ _ _ _).symm,HA.out.fG Pe,asx HD.out k,fun i hi=>?_⟩;have hil:i<L.length:=by rw [sG] at hi;exact hi
    rw [yN hi hil,if_pos Pe])
   have X1:=HX.out;clear hnm hnl hsk hints hu hR Qz hkk hkL hsl
   try clear aS
   try clear aT
   try clear aU
   try clear aW
   obtain ⟨aS,aT,aU,aW,-,-,-⟩:=X1.aF;go_upto_region 18 with fail;refine dH (wo) (.take 0 1 (.take 1 3 (.take 3 11 (.take 4 27 (.call 2 31 (.call 5 63 (.take 6 127 (.take 7 255 (.done))))))))) fun bZ QR aB aH hS=>?_
   iterate 4 refine aC ?_
   refine bK ?_;clear hS;intro K hK ak;go_simp;refine (SQ.out _ ak.out).mono ?_;rintro e cZ ⟨A9,c9,rfl,bW,hi9⟩;have hS:Since wo cZ:=bT (w:=wo) ak.out bW;clear ak;refine hK.out _ _ hS (fun _=>?_);clear hK K
   try simp only [pu]
   refine fV (L9.out A9 c9 _ hS hi9) ?_;clear hS;intro wr2 iW hS
   iterate 2 refine aC ?_
   refine dB ?_;clear hS aH aB;intro hB;have je:=avE (bT HB.out hB);have HF9:=avE (show R=true->∃ L',L.length=L'.length/\oZ wr2 w.heap.size (.slice (some ⟨gL,0,none⟩) L.length c) L'/\jP p L' O (rO p) p.nodes/\∀ i (hi:i<L'.length),L'[i].tw=kU p O i from fun e=>by
    obtain ⟨L',h1,h2,h3,h4⟩:=HFin.out e;exact ⟨L',h1,h2.keep hB,h3,h4⟩)
   clear hB bW iW hi9 X1 aS aT aU aW;go_wp2_with fail;go_ret2;refine ⟨some ⟨gL,0,none⟩,L.length,c,by rw [XW.out];rfl,je.out,fun e=>?_⟩;rw [XW.out] at e;rw [Tt.out];exact HF9.out e
end Go.Proofs.YtialfdomhoojiaaGreat
