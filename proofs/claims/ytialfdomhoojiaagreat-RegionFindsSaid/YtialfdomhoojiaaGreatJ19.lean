import Derived.Test.YtialfdomhoojiaaGreatJ18
set_option linter.unusedSimpArgs false
set_option linter.unusedVariables false
set_option maxRecDepth 100000
set_option maxHeartbeats 8000000
namespace Go.Proofs.YtialfdomhoojiaaGreat
open Go.RowKit Go.Sort
theorem atQ (v:Value) (l:List Int) (x:Int) (w:World) (h:Ints w v l) :
  Calls Tryz.prog 194 #[v,.int .i64 x] w fun e w'=>e=.returned (.bool (l.any fun y=>y == x))/\AP w w':=by
 obtain ⟨A,c,rfl,hn,hc,hR⟩:=h;unfold maxLen at hc;obtain ⟨q,hq⟩:=BL ((l.any fun y=>y == x));rw [hq];have Hq:=AA hq;clear hq;go_enter Tryz.func194,Tryz.ntmps194;go_wp2_with fail;go_loopw [5] (fun i wr=>∃ k:Nat,k<=l.length/\i=.int .i64 k/\AP w wr/\∀ j (hj:j<l.length),j<k->(fun y=>y == x) l[j]=false) (fun i _=>l.length-(intOf i).toNat)
 case atStart => exact ⟨0,BZ _,rfl,bR w,fun j _ h=>by omega⟩
 case round =>
  obtain ⟨k,hk,rfl,hb,hno⟩:=hrel;have Hb:=AA hb;have Hno:=AA hno;clear hb hno;by_cases hlt:k<l.length
  ·obtain ⟨b,o,rfl,hlb,c0⟩:=(hR.mono Hb.out).int hlt;have HR:=AA hR;clear hR
   cases he:(l[k] == x)
   ·go_wp2;go_roundw
    case rel => exact ⟨k+1,AB,BI,Hb.out,all_succ (p:=fun y=>(fun y=>y == x) y=false) Hno.out hlt he⟩
    case measure => exact BK
   ·have hf:=Ri l (fun y=>y == x) k hlt he;rw [Hq.out] at hf;subst hf;go_wp2;go_ret;exact ⟨rfl,Hb.out⟩
  ·have hf:=UA l (fun y=>y == x) (fun j hj=>Hno.out j hj AB);rw [Hq.out] at hf;subst hf;go_wp2;go_ret;exact ⟨rfl,Hb.out⟩
theorem atS (v:Value) (p:Pl) (w:World) (h:Cb w v p) (hv:Valid p) :
  Calls Tryz.prog 193 #[v] w (aCm w (BU p)):=by
 obtain ⟨_,_,_,al,rfl,hpa,⟨An,cn,rfl,-⟩,⟨⟨Aa,ca,rfl,hn1,hn2,hR⟩,-⟩,⟨Af,cf,rfl,-⟩⟩:=h;unfold maxLen at hn2;have hall:al.length<=256:=by
  have hl:=hv.lim;unfold JX at hl;simp only [Rq,J3] at hl;have h2:=hl.2;rw [hpa,Cm] at h2;omega
 have HId:=AA (show ∀ k (hk:k<al.length),1<=al[k].1.id/\al[k].1.id<=1073741824 from fun k hk=>hv.Gh (by rw [hpa];exact Gs (BH hk)));obtain ⟨q,hq⟩:=BL (BU p);rw [hq];have hq2:(al.map fun x=>-x.1.id).reverse++al.map (fun x=>x.1.id)=q:=by rw [<- hq];unfold BU;rw [hpa,Mc,Mc];rfl
 have Hq:=AA hq2;have HR:=AA hR;generalize p.nodes.length=nn at *;generalize p.faces.length=nf at *;have k0:IntKind.i64.wrap ((al.length:Int)-1)=(al.length:Int)-1:=Ci _ AB;clear hpa hR hv hq hq2;go_enter Tryz.func193,Tryz.ntmps193;go_wp2_with fail;obtain ⟨W0,hW⟩:=BO (w.alloc (.cells #[.slice An nn cn,.slice Aa al.length ca,.slice Af nf cf] 26));have HB0:=AA (show AP w W0 by rw [hW];exact bA (bR w) _);have D9:=AA (show AO W0 w.heap.size 26 #[.slice An nn cn,.slice Aa al.length ca,.slice Af nf cf] by rw [hW];exact AO.made rfl _ _);rw [<- hW];clear hW;have hz0:=D9.out.lt;go_loopw [3,4] (fun s i wr=>∃ m:Nat,m<=al.length/\i=.int .i64 ((m:Int)-1)/\Own wr W0.heap.size 3 1 D5 s ((al.drop m).map fun x=>-x.1.id).reverse/\AP W0 wr) (fun _ i _=>((intOf i)+1).toNat)
 case atStart => exact ⟨al.length,DT _,rfl,by rw [aax];exact Own.nil _ _ _ _ _,bR W0⟩
 case round =>
  obtain ⟨m,hm,rfl,ho,hb⟩:=hrel;have Ho:=AA ho;have Hb:=AA hb;have X1:=D9.out.keep hb;have hzr:=hb.size;clear ho hb;obtain ⟨Ak,Au,Az,BA,-,-,-⟩:=X1.BF;by_cases hlt:0<m
  case pos =>
   obtain ⟨j,rfl⟩:∃ j,m=j+1:=⟨m-1,AB⟩;have hj:j<al.length:=by omega
   obtain ⟨b,o,rfl,hlb,c0,-⟩:=(HR.out.mono (bT HB0.out Hb.out)).ar hj;have hid:=HId.out j hj;have hst:((al.drop j).map fun x=>-x.1.id).reverse=((al.drop (j+1)).map fun x=>-x.1.id).reverse++[-al[j].1.id]:=by
    rw [Qk hj,Ez,List.reverse_cons]
   have DI:=AA hst;have hll:(((al.drop (j+1)).map fun x=>-x.1.id).reverse).length<=256:=by simp;omega
   have JG:=AA hll;clear hst hll;generalize ((al.drop (j+1)).map fun x=>-x.1.id).reverse=L at *;generalize al[j].1.id=d at *;have k1:IntKind.i64.wrap (-d)=-d:=Ci _ AB;have k2:((j+1:Nat):Int)-1=(j:Int):=by omega
   have k3:(0:Int)<=(j:Int):=by omega
   have k4:(j:Int)<al.length:=by omega
   have k5:IntKind.i64.wrap ((j:Int)-1)=(j:Int)-1:=Ci _ AB;rw [k2];obtain ⟨s,rfl⟩:=BO u3;clear hid;go_wp2_with
    (at_builtin
     refine Ew _ rfl (.tmp 14) (.tmp 22) _ rfl (base:=W0.heap.size) IB Gt IK rfl (Own.alloc Ho.out _) rfl (l2:=[-d]) (Sl.lit (n:=1) (AO.made rfl _ _) rfl (D6 AB)) sZ sZ DC ?_;intro v1 w1 ho1 hg1 SI;have JZ:=AA ho1;have HB1:=AA (Below.grown (Below.alloc Hb.out AB _) hg1 DC (fun g hg=>(Ho.out.lt g hg).1));clear ho1 hg1 SI)
   go_roundw
   case rel => exact ⟨j,AB,rfl,by rw [DI.out];exact JZ.out,HB1.out⟩
   case measure => simp [intOf]
  case neg =>
   have h0:m=0:=by omega
   subst h0;have k3:¬ (0:Int)<=((0:Nat):Int)-1:=by omega
   rw [rY] at Ho;generalize hL1:(al.map fun x=>-x.1.id).reverse=L1 at *;have hl1:L1.length<=256:=by rw [<- hL1];simp;omega
   have OH:=AA hl1;clear hL1 hl1;have Ku:=AA Hq.out;clear Hq;go_wp2_with fail;obtain ⟨wo,rfl⟩:=BO wr;obtain ⟨s0,rfl⟩:∃ s:Value,s=u3:=⟨_,rfl⟩;go_loopw [3,5] (fun s i wr=>∃ k:Nat,k<=al.length/\i=.int .i64 k/\Own wr W0.heap.size 3 1 D5 s (L1++(al.take k).map fun x=>x.1.id)/\AP W0 wr) (fun _ i _=>al.length-(intOf i).toNat)
   case atStart => exact ⟨0,BZ _,rfl,by simpa using Ho.out,Hb.out⟩
   case round =>
    obtain ⟨k,hk,rfl,ho,hb⟩:=hrel;have YL:=AA ho;have Hb2:=AA hb;replace X1:=D9.out.keep hb;have atT:=hb.size;clear ho hb Ak Au Az BA
    try clear Ak Au Az BA
    obtain ⟨Ak,Au,Az,BA,-,-,-⟩:=X1.BF;by_cases hlt2:k<al.length
    case pos =>
     obtain ⟨b,o,rfl,hlb,c0,-⟩:=(HR.out.mono (bT HB0.out Hb2.out)).ar hlt2;have hst:L1++(al.take (k+1)).map (fun x=>x.1.id)=(L1++(al.take k).map fun x=>x.1.id)++[al[k].1.id]:=by
      rw [En hlt2,GL,JR];rfl
     have DI:=AA hst;have hll:(L1++(al.take k).map fun x=>x.1.id).length<=512:=by
      have:=OH.out
      simp only [EC,Cm,Ie];omega
     have JG:=AA hll;clear hst hll;generalize L1++(al.take k).map (fun x=>x.1.id)=L at *;generalize al[k].1.id=d at *;have k4:(k:Int)<al.length:=by omega
     obtain ⟨s,rfl⟩:=BO u3;go_wp2_with
      (at_builtin
       refine Ew _ rfl (.tmp 31) (.tmp 38) _ rfl (base:=W0.heap.size) IB Gt IK rfl (Own.alloc YL.out _) rfl (l2:=[d]) (Sl.lit (n:=1) (AO.made rfl _ _) rfl (D6 AB)) sZ sZ DC ?_;intro v1 w1 ho1 hg1 SI;have JZ:=AA ho1;have HB1:=AA (Below.grown (Below.alloc Hb2.out AB _) hg1 DC (fun g hg=>(YL.out.lt g hg).1));clear ho1 hg1 SI)
     go_roundw
     case rel => exact ⟨k+1,AB,BI,by rw [DI.out];exact JZ.out,HB1.out⟩
     case measure => exact BK
    case neg =>
     have hkk:k=al.length:=by omega
     subst hkk;have ho2:=YL.out;rw [H8,Ku.out] at ho2;obtain ⟨A,c,rfl,-⟩:=Own.shape ho2;have EU:=AA ho2;clear ho2 YL;go_wp2;go_ret;exact ⟨A,c,rfl,bT HB0.out Hb2.out,EU.out.Du AB⟩
open Go.RowKit Go.Sort
def Ll (p:Pl) (d:Int):Pt:=(Tf p d).getD 1 AY
theorem Valid.atU {p:Pl} (h:Valid p) {n d:Int} (hd:d∈Df p.AU n):Ll p d=Dt p d:=by
 obtain ⟨a,ha,e⟩:=Qz.1 hd;have hid:=h.Gh ha;unfold Ll;rcases e with ⟨rfl,-⟩ | ⟨rfl,-⟩
 · rw [vV h (h.lW ha),AZ AB,h.iI ha]
 ·rw [vV h (h.wH ha),AX AB,h.dS ha];have hl:=Eh p a;simp only [Fj];rw [List.getElem?_reverse AB];congr 2;omega
theorem atV (v:Value) (p:Pl) (d:Int) (w:World) (h:Cb w v p) (hs:Short p) (hd:-9223372036854775808<d/\d<=9223372036854775807) :
  Calls Tryz.prog 274 #[v,.int .i64 d] w fun e w'=>e=.returned (.agg #[.int .i64 (Ll p d).x,.int .i64 (Ll p d).y])/\AP w w':=by
 have HA:=AA (fun W (hW:AP w W)=>aiR v p d W (h.mono hW) hs hd);obtain ⟨_,_,_,al,rfl,hpa,⟨An,cn,rfl,-⟩,⟨⟨Aa,ca,rfl,-⟩,-⟩,⟨Af,cf,rfl,-⟩⟩:=h;unfold Ll;generalize al.length=na at *;generalize p.nodes.length=nn at *;generalize p.faces.length=nf at *;clear hpa hs;generalize Tf p d=P at *;obtain ⟨q,hq⟩:=BL (P.getD 1 AY);rw [hq];have Hq:=AA hq;clear hq;unfold YD at HA;go_enter Tryz.func274,Tryz.ntmps274;go_wp2_with fail;refine (HA.out _ (bA (bA (bR w) _) _)).mono ?_;rintro e w1 ⟨A1,c1,rfl,hb1,ho1⟩;have B1:=AA (bT (bA (bA (bR w) _) _) hb1);have X4:AO w1 (w.heap.size+1) 39 #[.int .i64 0,.int .i64 0]:=(AO.made Aw _ _).keep hb1;obtain ⟨Aq,cq,he,hq1,hq2,Ti⟩:=ho1.sl;injection he with e1 e2 e3;subst e1 e3;clear e2;unfold maxLen at hq2;have dW:=AA Ti;clear hb1 ho1 Ti HA hd;obtain ⟨Bh,Bl,CV,Dl,Ey⟩:=X4.BN;by_cases hl:P.length<2
 case pos =>
  have hg:P.getD 1 AY=AY:=by
   simp only [Fj,Y0 (show P.length<=1 by omega),rV]
  rw [Hq.out] at hg;subst hg;have hl':(P.length:Int)<2:=by omega
  clear Hq;generalize P.length=n at *;go_wp2_with fail;refine gY (t:=39) (g:=w.heap.size+1) (cs:=#[.int .i64 0,.int .i64 0]) rfl XB rfl rfl (AO.QI X4) ⟨rfl,?_⟩;have Bw:=B1.out;exact Dk
 case neg =>
  have hP1:1<P.length:=by omega
  obtain ⟨b1,o1,rfl,hlb,e0,e1⟩:=dW.out.pt hP1;have hg:P.getD 1 AY=P[1]:=by simp only [Fj,DK hP1,Gp]
  rw [Hq.out] at hg;rw [<- hg] at e0 e1;clear hg dW Hq;simp only [Nat.one_mul] at e0 e1;have hl':¬ (P.length:Int)<2:=by omega
  have hl2:(1:Int)<(P.length:Int):=by omega
  generalize P.length=n at *;go_wp2_with fail;refine gY (t:=39) (g:=w.heap.size+1) (cs:=#[.int .i64 q.x,.int .i64 q.y]) rfl XB rfl rfl (AO.QI X4) ⟨rfl,?_⟩;have Bw:=B1.out;exact Dk
def XP (lt:Int->Int->Bool) (D:List Int) (x:Int):Nat:=D.countP (fun y=>lt y x)
def xR (lt:Int->Int->Bool) (D:List Int) (k:Nat):Option Int:=D.find? (fun x=>XP lt D x == k)
theorem atW {lt:Int->Int->Bool} {S:List Int} (hs:S.Pairwise (fun a b=>lt a b=true/\lt b a=false)) (hir:∀ x∈S,lt x x=false) {k:Nat} (hk:k<S.length):XP lt S S[k]=k:=by
 have hP:=Fe.1 hs;obtain ⟨c,hc⟩:=BL (S[k]);have e:S=S.take k++S[k]::S.drop (k+1):=by rw [<- Qk hk,Zd]
 have h1:(S.take k).countP (fun y=>lt y S[k])=k:=by
  have h2:(S.take k).countP (fun y=>lt y S[k])=(S.take k).length:=List.countP_eq_length.2 (fun a ha=>by
   obtain ⟨j,hj,rfl⟩:=Dp.1 ha;rw [Ie] at hj;rw [List.getElem_take];exact (hP j k AB hk AB).1)
  rw [h2,Ie];omega
 have h3:(S.drop (k+1)).countP (fun y=>lt y S[k])=0:=aAF.2 (fun a ha=>by
  obtain ⟨j,hj,rfl⟩:=Dp.1 ha;rw [gI] at hj;rw [List.getElem_drop];have:=(hP k (k+1+j) hk AB AB).2
  rw [this];decide)
 unfold XP;rw [hc] at h1 h3 e ⊢;have hcc:=hir c (hc ▸ BH hk)
 conv=>lhs;rw [e]
 rw [abZ,List.countP_cons,h1,h3,hcc];simp
theorem atX {lt:Int->Int->Bool} {D:List Int} (ho:Yv lt D) (hn:D.Nodup):(sortB lt D).Pairwise (fun a b=>lt a b=true/\lt b a=false):=by
 obtain ⟨hp,hs⟩:=iK ho;have hn2:(sortB lt D).Nodup:=hp.nodup_iff.2 hn;rw [Fe] at hs ⊢;intro i j hi hj hij;have h1:=hs i j hi hj hij;refine ⟨?_,h1⟩
 cases h:lt (sortB lt D)[i] (sortB lt D)[j]
 ·have e:=ho.tri _ (hp.mem_iff.1 (BH hi)) _ (hp.mem_iff.1 (BH hj)) h h1;have:=(Fe.1 hn2) i j hi hj hij
  exact absurd e this
 · rfl
theorem atY {lt:Int->Int->Bool} {D:List Int} (ho:Yv lt D) (hn:D.Nodup) {k:Nat} (hk:k<D.length):xR lt D k=(sortB lt D)[k]? := by
 obtain ⟨hp,-⟩:=iK ho;have hs:=atX ho hn;have hir:∀ x∈sortB lt D,lt x x=false:=fun x hx=>by
  have hx2:=hp.mem_iff.1 hx
  cases h:lt x x
  · rfl
  · have:=ho.asym x hx2 x hx2 h;rw [h] at this;cases this
 have hkl:k<(sortB lt D).length:=by rw [hp.length_eq];exact hk
 have hr:∀ j (hj:j<(sortB lt D).length),XP lt D (sortB lt D)[j]=j:=fun j hj=>by
  have:=atW hs hir hj
  unfold XP at this ⊢;rw [<- hp.countP_eq];exact this
 rw [DK hkl];unfold xR
 cases h:D.find? (fun x=>XP lt D x == k) with
 | none =>
  have:=List.find?_eq_none.1 h _ (hp.mem_iff.1 (BH hkl))
  rw [hr k hkl] at this;simp at this
 | some x =>
  have h1:=List.find?_some h;have h2:=VG h;obtain ⟨j,hj,rfl⟩:=Dp.1 (hp.mem_iff.2 h2);rw [hr j hj] at h1
  have:j=k:=by simpa using h1
  subst this;rfl
theorem atZ (p:Pl) (o:Pt) (d e:Int):ltD p o d e=Ym o (Dt p d) (Dt p e):=ana _ _ _
open Go.RowKit Go.Sort
theorem ata (v:Value) (p:Pl) (n:Int) (w:World) (h:Cb w v p) (hv:Valid p) :
  Calls Tryz.prog 250 #[v,.int .i64 n] w (aCm w (DF p n)):=by
 have bV:=AA (fun W (hW:AP w W)=>agJ v p n W (h.mono hW));have HSc:=AA (fun d (hd:-9223372036854775808<d/\d<=9223372036854775807) W (hW:AP w W)=>atV v p d W (h.mono hW) hv.short hd);obtain ⟨_,_,_,al,rfl,hpa,⟨An,cn,rfl,-⟩,⟨⟨Aa,ca,rfl,hn1,hn2,hR⟩,-⟩,⟨Af,cf,rfl,-⟩⟩:=h;unfold maxLen at hn2;have HR:=AA hR;have HV:=AA hv;have LH:=AA hpa;have hall:al.length<=256:=by
  have hl:=hv.lim;unfold JX at hl;simp only [Rq,J3] at hl;have h2:=hl.2;rw [hpa,Cm] at h2;omega
 have HId:=AA (show ∀ k (hk:k<al.length),1<=al[k].1.id/\al[k].1.id<=1073741824 from fun k hk=>hv.Gh (by rw [hpa];exact Gs (BH hk)));generalize hnn:p.nodes.length=nn at *;generalize p.faces.length=nf at *;obtain ⟨q,hq⟩:=BL (DF p n);rw [hq];have Hq:=AA hq;clear hpa hR hv hq hnn;go_enter Tryz.func250,Tryz.ntmps250;go_wp2_with fail;refine (bV.out _ (bA (bR w) _)).mono ?_;rintro e w1 ⟨rfl,hb1⟩;have X2:AO w1 w.heap.size 26 #[.slice An nn cn,.slice Aa al.length ca,.slice Af nf cf]:=(AO.made rfl _ _).keep hb1;have B1:=AA (bT (bA (bR w) _) hb1);clear hb1;unfold iU uM
 cases hfn:JK p.nodes n with
 | none =>
  have hf:q=[]:=by rw [<- Hq.out];unfold DF;rw [hfn]
  subst hf;clear hfn;simp only [rV,fK];go_wp2;go_ret;exact ⟨none,0,rfl,bA B1.out _,Own.nil _ _ _ _ _⟩
 | some nd =>
  have hnd:nd∈p.nodes/\nd.id=n:=⟨VG hfn,by have:=List.find?_some hfn;simpa using this⟩;obtain ⟨hnm,rfl⟩:=hnd;have hAr:=HV.out.aBU hnm;rw [Hq.out] at hAr;have Il:=AA hAr;have NK:=AA hnm;clear hfn hAr hnm Hq;simp only [Gp,VH];go_upto_region 4 with fail;obtain ⟨W5,hW⟩:∃ W:World,W=w1.alloc (.cells #[.int .i64 nd.id,.int .i64 nd.pt.x,.int .i64 nd.pt.y] 45):=⟨_,rfl⟩;have B5:=AA (show AP w W5 by rw [hW];exact bA B1.out _);have D8:=AA (show AO W5 w1.heap.size 45 #[.int .i64 nd.id,.int .i64 nd.pt.x,.int .i64 nd.pt.y] by rw [hW];exact AO.made rfl _ _);have CG:=AA (show AO W5 w.heap.size 26 #[.slice An nn cn,.slice Aa al.length ca,.slice Af nf cf] by rw [hW];exact X2.alloc _);rw [<- hW];clear hW X2;obtain ⟨g5,hg5⟩:=BL w1.heap.size;rw [hg5] at D8 ⊢;clear hg5 B1;go_wp2_with fail;go_loopw [7,8] (fun s i wr=>∃ k:Nat,k<=al.length/\i=.int .i64 k/\Own wr W5.heap.size 3 1 D5 s (Df (p.AU.take k) nd.id)/\AP W5 wr) (fun _ i _=>al.length-(intOf i).toNat)
  case atStart => exact ⟨0,BZ _,rfl,by simpa [Df] using Own.nil W5 W5.heap.size 3 1 D5,bR W5⟩
  case round =>
   obtain ⟨k,hk,rfl,ho,hb⟩:=hrel;have Ho:=AA ho;have Hb:=AA hb;have X2:=CG.out.keep hb;have hzr:=hb.size;clear ho hb;obtain ⟨BQ,BR,BX,CZ,-,-,-⟩:=X2.BF;by_cases hlt:k<al.length
   case neg =>
    have hkk:k=al.length:=by omega
    subst hkk;have ho:=Ho.out;rw [show p.AU.take al.length=p.AU from Hw (by rw [LH.out,Cm];omega)] at ho;obtain ⟨A7,c7,rfl,h71,h72⟩:=Own.shape ho;unfold maxLen at h72;have au:=AA ho;clear ho Ho;go_wp2_with fail;have hol:=xK p.AU nd.id;rw [show p.AU.length=al.length by rw [LH.out,Cm]] at hol;have YX:=AA (show (Df p.AU nd.id).length<=512 by omega);have akL:=AA (HV.out.wJ NK.out);have atb:=AA (HV.out.adY (n:=nd.id));have akM:=AA (show ∀ d∈Df p.AU nd.id,Ll p d=Dt p d from fun d hd=>HV.out.atU hd);have xU:=AA (show ∀ d∈Df p.AU nd.id,-9223372036854775808<d/\d<=9223372036854775807 from fun d hd=>by
     obtain ⟨a,ha,e⟩:=Qz.1 hd;have:=HV.out.Gh ha
     rcases e with ⟨rfl,-⟩ | ⟨rfl,-⟩<;>omega)
    have atc:=AA (D8.out.keep Hb.out);have akN:=AA X2;have Bo:=AA (bT B5.out Hb.out);have ae3:=AA (show Row wr A7 ((Df p.AU nd.id).flatMap D5) by
     obtain ⟨A',c',he,_,_,hr⟩:=au.out.sl;injection he with e1 e2 e3;subst e1;exact hr)
    clear hol X2 BQ BR BX CZ hlt au;generalize Df p.AU nd.id=D at *;obtain ⟨wo,rfl⟩:=BO wr;go_loopw [9,10] (fun s i wr=>∃ k:Nat,k<=D.length/\i=.int .i64 k/\Own wr wo.heap.size 39 2 EX s ((D.take k).map (Ll p))/\AP wo wr) (fun _ i _=>D.length-(intOf i).toNat)
    case atStart => exact ⟨0,BZ _,rfl,Own.nil _ _ _ _ _,bR wo⟩
    case round =>
     obtain ⟨k,hk2,rfl,ho,hb⟩:=hrel;have YL:=AA ho;have Hb2:=AA hb;have X2:=akN.out.keep hb;have atT:=hb.size;clear ho hb
     try clear BQ BR BX CZ
     obtain ⟨BQ,BR,BX,CZ,-,-,-⟩:=X2.BF;by_cases hlt:k<D.length
     case neg =>
      have hkk:k=D.length:=by omega
      subst hkk;have ho:=YL.out;rw [H8] at ho;obtain ⟨A9,c9,rfl,h91,h92⟩:=Own.shape ho;unfold maxLen at h92;rw [Cm] at h91;rw [show (List.map (Ll p) D).length=D.length from Cm _];have Ur:=AA ho;clear ho YL;clear X2 BQ BR BX CZ hlt;go_wp2_with fail;obtain ⟨ws,rfl⟩:=BO wr;have akO:=AA (show Row ws A9 ((D.map (Ll p)).flatMap EX) by
       obtain ⟨A',c',he,_,_,hr⟩:=Ur.out.sl;injection he with e1 e2 e3;subst e1;exact hr)
      have atd:=AA (ae3.out.mono Hb2.out);have ate:=AA (atc.out.keep Hb2.out);have Bs:=AA (bT Bo.out Hb2.out);obtain ⟨lt,hlt'⟩:∃ lt,ltD p nd.pt=lt:=⟨_,rfl⟩;have jU:=AA (show ∀ d∈D,∀ e∈D,Ym nd.pt (Ll p d) (Ll p e)=lt d e from fun d hd e he=>by rw [<- hlt',atZ,akM.out d hd,akM.out e he]);have pJ:=AA (show ∀ m,m<D.length->xR lt D m=(sortB lt D)[m]? from fun m hm=>by rw [<- hlt'];exact atY akL.out atb.out hm);have hsl:(sortB lt D).length=D.length:=by rw [<- hlt'];exact (iK akL.out).1.length_eq
      have har:=Il.out;rw [hlt'] at har;have YN:=AA (fun a b W=>as3 nd.pt a b W);unfold BD at YN;generalize sortB lt D=S at *;subst har;have QB:=AA hsl;clear hlt' hsl Il;go_loopw [11] (fun s wr=>∃ m:Nat,m<=D.length/\(∃ A c,s=.slice A m c)/\Own wr ws.heap.size 3 1 D5 s (q.take m)/\AP ws wr) (fun s _=>D.length-lenV s)
      case atStart => exact ⟨0,BZ _,⟨none,0,rfl⟩,Own.nil _ _ _ _ _,bR ws⟩
      case round =>
       obtain ⟨m,hm,⟨A,c,rfl⟩,ho,hb⟩:=hrel;have vK:=AA ho;have Hb3:=AA hb;have ayn:=hb.size;clear ho hb;by_cases hlt:m<D.length
       case neg =>
        have hmm:m=D.length:=by omega
        subst hmm;have ho:=vK.out;rw [Hw (by have:=QB.out;omega)] at ho;have HO:=AA ho;clear ho vK;go_wp2;go_ret;exact ⟨A,c,by rw [QB.out];rfl,bT Bs.out Hb3.out,by rw [QB.out];exact HO.out.Du (by have:=Bs.out.size;omega)⟩
       have km:(m:Int)<D.length:=by omega
       have Jr:=AA (pJ.out m hlt);have TQ:m<q.length:=by have:=QB.out;omega
       have akP:Hid (¬ ∀ j (hj:j<D.length),(XP lt D D[j] == m)=false):=AA fun h=>by
        have h1:xR lt D m=none:=List.find?_eq_none.2 (fun x hx=>by
         obtain ⟨j,hj,rfl⟩:=Dp.1 hx;rw [h j hj];decide)
        rw [Jr.out,DK TQ] at h1
        cases h1
       go_wp2_with fail;go_loopw [11,12] (fun s i wx=>∃ i':Nat,i'<=D.length/\i=.int .i64 i'/\s=.slice A m c/\Own wx ws.heap.size 3 1 D5 (.slice A m c) (q.take m)/\AP ws wx/\∀ j (hj:j<D.length),j<i'->(XP lt D D[j] == m)=false) (fun _ i _=>D.length-(intOf i).toNat)
       case atStart => exact ⟨0,BZ _,rfl,rfl,vK.out,Hb3.out,fun _ _ h=>by omega⟩
       case round =>
        obtain ⟨i',hi,rfl,rfl,ho,hb,hno⟩:=hrel;have Ho4:=AA ho;have Hb4:=AA hb;have Hno:=AA hno;have ayo:=hb.size;clear ho hb hno;by_cases hil:i'<D.length
        case neg => exact absurd (fun j hj=>Hno.out j hj AB) akP.out
        have ki:(i':Int)<D.length:=by omega
        go_wp2_with fail;obtain ⟨di,hdi⟩:=BL (D[i']);have QX:=AA hdi;have aK:=AA (show di∈D from hdi ▸ BH hil);clear hdi;obtain ⟨wx,rfl⟩:=BO wr;go_loopw [13,14] (fun t u wy=>∃ j:Nat,j<=D.length/\u=.int .i64 j/\t=.int .i64 ((D.take j).countP (fun y=>lt y di):Nat)/\AP wx wy) (fun _ u _=>D.length-(intOf u).toNat)
        case atStart => exact ⟨0,BZ _,rfl,rfl,bR wx⟩
        case round =>
         obtain ⟨j,hj,rfl,rfl,hb⟩:=hrel;have Hb5:=AA hb;clear hb;by_cases hjl:j<D.length
         case neg =>
          have hjj:j=D.length:=by omega
          subst hjj;rw [H8];obtain ⟨rk,hrk⟩:=BL (D.countP (fun y=>lt y di));rw [hrk];have akQ:XP lt D D[i']=rk:=by rw [QX.out];exact hrk
          have HRk:=AA akQ;have hrl:rk<=D.length:=by rw [<- hrk];exact List.countP_le_length
          clear hrk akQ;have hdl:=YX.out;by_cases hrm:rk=m
          ·subst hrm;have hqm:q.take (rk+1)=q.take rk++[di]:=by
            have hg:q[rk]? = some di:=by
             rw [<- Jr.out];unfold xR;rw [uN D _ i' hil (fun j hj hji=>Hno.out j hj hji) (by simpa using HRk.out),QX.out]
            rw [List.take_add_one,hg];rfl
           have HQm:=AA hqm;have htl:(q.take rk).length=rk:=by rw [Ie];omega
           have Qn:=AA htl;clear hqm htl;obtain ⟨bd,od,hAd,hld,c0⟩:=(atd.out.mono (bT Hb4.out Hb5.out)).int hil;subst hAd;rw [QX.out] at c0;have Fh:=AA (Ho4.out.keep Hb5.out);have RG:=Hb5.out.size;go_wp2_with
            (at_builtin
             refine Ew _ rfl (.tmp 114) (.tmp 119) _ rfl (base:=ws.heap.size) IB Gt IK rfl (Own.alloc Fh.out _) rfl (l2:=[di]) (Sl.lit (n:=1) (AO.made rfl _ _) rfl (D6 AB)) sW sW DC ?_;intro v9 w9 Jo KX Vd;rw [<- HQm.out] at Jo;obtain ⟨A0,c9',xW,-⟩:=Own.shape Jo;rw [show (q.take (rk+1)).length=rk+1 by rw [HQm.out,EC,Qn.out];rfl] at xW;subst xW;have atf:=AA Jo;have atg:=AA (bG (bA (bT Hb4.out Hb5.out) _) KX (fun g hg=>(Fh.out.lt g hg).1));clear Jo KX Vd)
           exact ⟨⟨rk+1,AB,⟨A0,c9',rfl⟩,atf.out,atg.out⟩,by simp only [lenV];omega⟩
          ·have hne:((rk:Int) == (m:Int))=false:=by simpa using (show ¬ (rk:Int)=m by omega)
           have hsucc:∀ j (hj:j<D.length),j<i'+1->(XP lt D D[j] == m)=false:=fun j hj hji=>by
            by_cases e:j=i'
            · subst e;rw [HRk.out];simpa using hrm
            · exact Hno.out j hj AB
           have Ov:=AA hsucc;clear hsucc hrm;by_cases hlast:i'+1=D.length
           · exact absurd (fun j hj=>Ov.out j hj AB) akP.out
           have hl2:((i':Int) == (D.length:Int)-1)=false:=by simpa using (show ¬ (i':Int)=(D.length:Int)-1 by omega)
           go_wp2;go_roundw
           case rel => exact ⟨i'+1,AB,BI,rfl,Ho4.out.keep Hb5.out,bT Hb4.out Hb5.out,Ov.out⟩
           case measure => exact BK
         obtain ⟨b5,o5,Vk,jV,e0,e1⟩:=(akO.out.mono (bT Hb4.out Hb5.out)).pt (k:=j) (by rw [Cm];exact hjl);subst Vk;obtain ⟨b6,o6,he6,-,f0,f1⟩:=(akO.out.mono (bT Hb4.out Hb5.out)).pt (k:=i') (by rw [Cm];exact hil);simp only [JD,Addr.mk.injEq,and_true] at he6;obtain ⟨rfl,rfl⟩:=he6;rw [Gq] at e0 e1 f0 f1;have hl:Ym nd.pt (Ll p D[j]) (Ll p D[i'])=lt D[j] di:=by rw [jU.out D[j] (BH hjl) D[i'] (BH hil),QX.out]
         have OH:=AA (YN.out (Ll p D[j]) (Ll p D[i']));rw [hl] at OH;have hst:(D.take (j+1)).countP (fun y=>lt y di)=(D.take j).countP (fun y=>lt y di)+(if lt D[j] di=true then 1 else 0):=by
          rw [En hjl,abZ,List.countP_singleton]
         have hcl:(D.take j).countP (fun y=>lt y di)<=j:=Dn List.countP_le_length (aav _ _);have hdl:=YX.out;have DI:=AA hst;clear hst hl;generalize (D.take j).countP (fun y=>lt y di)=ct at *;generalize lt D[j] di=z at *;generalize Ll p D[j]=pj at *;generalize Ll p D[i']=pi at *;have kj:(j:Int)<D.length:=by omega
         have X5:=ate.out.keep (bT Hb4.out Hb5.out);obtain ⟨CJ,CO,CS,G6,-,-,-⟩:=X5.BF;go_upto_region 26 with fail;refine Cj (wr) (.run 10 0 0 (.call 10 2047 (.done))) fun Bv QR Ae Ah hS=>?_
         iterate 10 refine Aj ?_
         refine FD (OH.out _) ?_;clear hS;intro Bq Bf hS;refine Ce ?_;clear hS Ah Ae;intro hB;clear X5 CJ CO CS G6 e0 e1 f0 f1 kj jV
         cases z
         ·go_wp2;go_roundw
          case rel => exact ⟨j+1,AB,BI,by rw [DI.out];rfl,bT Hb5.out hB⟩
          case measure => exact BK
         ·go_wp2;go_roundw
          case rel => exact ⟨j+1,AB,BI,by rw [DI.out,AZ rfl];go_num,bT Hb5.out hB⟩
          case measure => exact BK
     obtain ⟨bd,od,rfl,hld,-⟩:=ae3.out.int hlt;obtain ⟨b_,o_,Nu,-,c0⟩:=(ae3.out.mono Hb2.out).int hlt;simp only [JD,Addr.mk.injEq,and_true] at Nu;obtain ⟨rfl,rfl⟩:=Nu;have hwo:w.heap.size<wo.heap.size:=akN.out.lt;have OI:=AA (HSc.out D[k] (xU.out _ (BH hlt)));have hst:(D.take (k+1)).map (Ll p)=(D.take k).map (Ll p)++[Ll p D[k]]:=by rw [En hlt,GL];rfl
     have DI:=AA hst;have JG:=AA (show ((D.take k).map (Ll p)).length<=512 by have:=YX.out;rw [Cm,Ie];omega);clear hst;generalize (D.take k).map (Ll p)=L at *;generalize Ll p D[k]=p2 at *;generalize D[k]=d at *;have k4:(k:Int)<D.length:=by omega
     obtain ⟨s,rfl⟩:=BO u9;go_upto_region 16 with fail;refine QK (wo.heap.size) (wr) (.run 6 0 0 (.call 6 127 (.call 7 255 (.call 8 511 (.take 9 1023 (.done)))))) fun Bv QR Ae Ah hS=>?_
     iterate 6 refine Aj ?_
     refine BP ?_;clear hS;intro K hK AQ;go_simp;refine (OI.out _ (bT (bT Bo.out Hb2.out) (bD (bR wr)))).mono ?_;rintro e wy ⟨rfl,hby⟩;have hS:Fb wo.heap.size wr wy:=Below.trans AQ.out (hby.mono (by have:=(Below.size AQ.out);omega));have hzy:=hby.size;simp only [World.size_drew] at hzy;have aCp:=AA (show AP wr wy from bT (bD (bR wr)) hby);clear hby;clear AQ;refine hK.out _ _ hS (fun _=>?_);clear hK K
     try simp only [pu]
     refine BP ?_;clear hS;intro K hK AQ;go_simp;refine hK.out _ _ (Gj AB AQ.out _) (fun hS=>?_);clear hK K AQ
     try simp only [pu]
     refine BP ?_;clear hS;intro K hK AQ;refine IZ (.tmp 71) (.tmp 78) _ rfl (base:=wo.heap.size) (l:=L) (l2:=[p2]) KR Jv KT rfl (Own.alloc (YL.out.keep aCp.out) _) rfl (Dq.one (x:=p2) (AO.made rfl _ _)) sZ sZ DC ?_;intro v9 wn oO hgn ae4;have ae5:=AA oO;have hS:Fb wo.heap.size wr wn:=Below.grown (Below.alloc (aCp.out.mono AB) AB _) hgn DC (fun g hg=>(YL.out.lt g hg).1);clear oO hgn ae4;clear AQ;refine hK.out _ _ hS (fun _=>?_);clear hK K
     try simp only [pu]
     refine Aj ?_;refine KW ?_;clear hS Ah Ae;intro hB;go_wp2;go_roundw
     case rel => exact ⟨k+1,AB,BI,by rw [DI.out];exact ae5.out,Below.trans Hb2.out hB⟩
     case measure => exact BK
   have hst:Df (p.AU.take (k+1)) nd.id=Df (p.AU.take k) nd.id++((if al[k].1.fr=nd.id then [al[k].1.id] else [])++(if al[k].1.dst=nd.id then [-al[k].1.id] else [])):=by
    have h1:k<p.AU.length:=by rw [LH.out,Cm];exact hlt
    have h2:=aiX p.AU nd.id k h1;have h3:p.AU[k]=al[k].1:=by simp only [LH.out,Gq]
    rw [h3] at h2;exact h2
   have hid:=HId.out k hlt;have hlen:=xK (p.AU.take k) nd.id;have hlen2:(p.AU.take k).length<=k:=aav _ _;obtain ⟨b,o,rfl,hlb,c0,c1,c2,-⟩:=(HR.out.mono (bT B5.out Hb.out)).ar hlt;have DI:=AA hst;have JG:=AA (show (Df (p.AU.take k) nd.id).length<=512 by omega);obtain ⟨D1,hD1⟩:=BL (Df (p.AU.take (k+1)) nd.id);rw [hD1] at DI;have HD1:=AA hD1;clear hst hlen hlen2 hD1;generalize Df (p.AU.take k) nd.id=D0 at *;obtain ⟨a,ha⟩:=BL (al[k].1);rw [ha] at hid DI c0 c1 c2;have Us:=AA ha;clear ha;have hneg:IntKind.i64.wrap (-a.id)=-a.id:=Ci _ AB;have k4:(k:Int)<al.length:=by omega
   clear hid;obtain ⟨s,rfl⟩:=BO u7
   cases hb1:(a.fr == nd.id)
   case false =>
    cases hb2:(a.dst == nd.id)
    case false =>
     have hD:D1=D0:=by rw [DI.out,AX (by simpa using hb1),AX gU];simp
     go_wp2;go_roundw
     case rel => exact ⟨k+1,AB,BI,by rw [HD1.out.trans hD];exact Ho.out,Hb.out⟩
     case measure => exact BK
    case true =>
     have hD:D1=D0++[-a.id]:=by rw [DI.out,AX (by simpa using hb1),AZ gU];simp
     go_wp2_with
      (at_builtin
       refine Ew _ rfl (.tmp 55) (.tmp 63) _ rfl (base:=W5.heap.size) (l:=D0) IB Gt IK rfl (Own.alloc Ho.out _) rfl (l2:=[-a.id]) (Sl.lit (n:=1) (AO.made rfl _ _) rfl (D6 AB)) gG gG DC ?_;intro v9 w9 Jo KX Vd;have Ur:=AA Jo;have Lm:=AA (Below.grown (Below.alloc Hb.out AB _) KX DC (fun g hg=>(Ho.out.lt g hg).1));have aCq:=Lm.out.size;replace X2:=CG.out.keep Lm.out;have HC9:=AA (HR.out.mono (bT B5.out Lm.out));obtain ⟨b_,o_,Nu,-,d0,d1,d2,-⟩:=HC9.out.ar hlt;simp only [JD,Addr.mk.injEq,and_true] at Nu;obtain ⟨rfl,rfl⟩:=Nu;rw [Us.out] at d0 d1 d2;clear Jo KX Vd BQ BR BX CZ
       try clear BQ BR BX CZ
       obtain ⟨BQ,BR,BX,CZ,-,-,-⟩:=X2.BF
       )
     go_roundw
     case rel => exact ⟨k+1,AB,BI,by rw [HD1.out.trans hD];exact Ur.out,Lm.out⟩
     case measure => exact BK
   case true =>
    cases hb2:(a.dst == nd.id)
    case false =>
     have hD:D1=D0++[a.id]:=by rw [DI.out,AZ (by simpa using hb1),AX gU];simp
     go_wp2_with
      (at_builtin
       refine Ew _ rfl (.tmp 38) (.tmp 45) _ rfl (base:=W5.heap.size) (l:=D0) IB Gt IK rfl (Own.alloc Ho.out _) rfl (l2:=[a.id]) (Sl.lit (n:=1) (AO.made rfl _ _) rfl (D6 AB)) gG gG DC ?_;intro v8 w8 XU Nv xX;have jW:=AA XU;have RS:=AA (Below.grown (Below.alloc Hb.out AB _) Nv DC (fun g hg=>(Ho.out.lt g hg).1));have hz8:=RS.out.size;replace X2:=CG.out.keep RS.out;have HC8:=AA (HR.out.mono (bT B5.out RS.out));obtain ⟨b_,o_,Nu,-,d0,d1,d2,-⟩:=HC8.out.ar hlt;simp only [JD,Addr.mk.injEq,and_true] at Nu;obtain ⟨rfl,rfl⟩:=Nu;rw [Us.out] at d0 d1 d2;clear XU Nv xX BQ BR BX CZ
       try clear BQ BR BX CZ
       obtain ⟨BQ,BR,BX,CZ,-,-,-⟩:=X2.BF
       )
     go_roundw
     case rel => exact ⟨k+1,AB,BI,by rw [HD1.out.trans hD];exact jW.out,RS.out⟩
     case measure => exact BK
    case true =>
     have hD:D1=D0++[a.id]++[-a.id]:=by rw [DI.out,AZ (by simpa using hb1),AZ gU];simp
     go_upto_region 10 with
      (at_builtin
       refine Ew _ rfl (.tmp 38) (.tmp 45) _ rfl (base:=W5.heap.size) (l:=D0) IB Gt IK rfl (Own.alloc Ho.out _) rfl (l2:=[a.id]) (Sl.lit (n:=1) (AO.made rfl _ _) rfl (D6 AB)) gG gG DC ?_;intro v8 w8 XU Nv xX;have jW:=AA XU;have RS:=AA (Below.grown (Below.alloc Hb.out AB _) Nv DC (fun g hg=>(Ho.out.lt g hg).1));have hz8:=RS.out.size;replace X2:=CG.out.keep RS.out;have HC8:=AA (HR.out.mono (bT B5.out RS.out));obtain ⟨b_,o_,Nu,-,d0,d1,d2,-⟩:=HC8.out.ar hlt;simp only [JD,Addr.mk.injEq,and_true] at Nu;obtain ⟨rfl,rfl⟩:=Nu;rw [Us.out] at d0 d1 d2;clear XU Nv xX BQ BR BX CZ
       try clear BQ BR BX CZ
       obtain ⟨BQ,BR,BX,CZ,-,-,-⟩:=X2.BF
       )
     have ayp:=jW.out;go_wp2_with
      (at_builtin
       refine Ew _ rfl (.tmp 55) (.tmp 63) _ rfl (base:=W5.heap.size) (l:=D0++[a.id]) IB Gt IK rfl (Own.alloc jW.out _) rfl (l2:=[-a.id]) (Sl.lit (n:=1) (AO.made rfl _ _) rfl (D6 AB)) gG gG DC ?_;intro v9 w9 Jo KX Vd;have Ur:=AA Jo;have Lm:=AA (Below.grown (Below.alloc RS.out AB _) KX DC (fun g hg=>(jW.out.lt g hg).1));have aCq:=Lm.out.size;replace X2:=CG.out.keep Lm.out;have HC9:=AA (HR.out.mono (bT B5.out Lm.out));obtain ⟨b_,o_,Nu,-,d0,d1,d2,-⟩:=HC9.out.ar hlt;simp only [JD,Addr.mk.injEq,and_true] at Nu;obtain ⟨rfl,rfl⟩:=Nu;rw [Us.out] at d0 d1 d2;clear Jo KX Vd BQ BR BX CZ
       try clear BQ BR BX CZ
       obtain ⟨BQ,BR,BX,CZ,-,-,-⟩:=X2.BF
       )
     go_roundw
     case rel => exact ⟨k+1,AB,BI,by rw [HD1.out.trans hD];exact Ur.out,Lm.out⟩
     case measure => exact BK
def asu (w:World) (l:List (Int×Int)) (e:Ending) (w':World):Prop :=
 ∃ A c A' c',e=.returned (.tuple #[.slice A l.length c,.slice A' l.length c'])/\AP w w'/\Own w' w.heap.size 3 1 D5 (.slice A l.length c) (l.map (·.1))/\Own w' w.heap.size 3 1 D5 (.slice A' l.length c') (l.map (·.2))
def IG (u v:Value):Prop:=∀ g,u.ownBlock=some g->v.ownBlock≠some g
theorem asv (v:Value) (p:Pl) (w:World) (h:Cb w v p) (hv:Valid p) :
  Calls Tryz.prog 192 #[v] w (asu w (Ns p p.nodes.length)):=by
 have Il:=AA (fun n W (hW:AP w W)=>ata v p n W (h.mono hW) hv);obtain ⟨_,_,_,al,rfl,hpa,⟨An,cn,rfl,hn1,hn2,hR⟩,⟨⟨Aa,ca,rfl,-⟩,-⟩,⟨Af,cf,rfl,-⟩⟩:=h;unfold maxLen at hn2;have HR:=AA hR;have HV:=AA hv;have hnl:=hv.bW;generalize al.length=na at *;generalize p.faces.length=nf at *;obtain ⟨nn,hnn⟩:=BL p.nodes.length;rw [hnn] at hn1 hnl Il ⊢;have aCr:=AA hnn;obtain ⟨q,hq⟩:=BL (Ns p nn);rw [hq];have Hq:=AA hq;clear hpa hR hv hnn hq;go_enter Tryz.func192,Tryz.ntmps192;go_upto_region 1 with fail;obtain ⟨W1,hW⟩:∃ W:World,W=w.alloc (.cells #[.slice An nn cn,.slice Aa na ca,.slice Af nf cf] 26):=⟨_,rfl⟩;have B1:=AA (show AP w W1 by rw [hW];exact bA (bR w) _);have X1:AO W1 w.heap.size 26 #[.slice An nn cn,.slice Aa na ca,.slice Af nf cf]:=by rw [hW];exact AO.made rfl _ _
 rw [<- hW];clear hW;have D9:=AA X1;obtain ⟨Ak,Au,Az,BA,-,-,-⟩:=X1.BF;go_upto_block 0 with fail;go_wp2_with fail;go_loopw [4,5,6] (fun s t i wr=>∃ k:Nat,k<=nn/\i=.int .i64 k/\(∃ A c,s=.slice A (Ns p k).length c)/\(∃ A c,t=.slice A (Ns p k).length c)/\Own wr W1.heap.size 3 1 D5 s ((Ns p k).map (·.1))/\Own wr W1.heap.size 3 1 D5 t ((Ns p k).map (·.2))/\IG s t/\AP W1 wr) (fun _ _ i _=>nn-(intOf i).toNat)
 case atStart => exact ⟨0,BZ _,rfl,⟨none,0,rfl⟩,⟨none,0,rfl⟩,Own.nil _ _ _ _ _,Own.nil _ _ _ _ _,(fun g hg=>by simp [Value.ownBlock] at hg),bR W1⟩
 case round =>
  obtain ⟨k,hk,rfl,⟨A,c,rfl⟩,⟨A',c',rfl⟩,own,own',sep,hb⟩:=hrel;obtain ⟨wo,rfl⟩:=BO wr;have hlk:=akG HV.out k;rw [<- akK] at hlk;have HO:=AA own;have xY:=AA own';have LK:=AA sep;have Hb:=AA hb;have aBA:=hb.size;have X2:=D9.out.keep hb;clear own own' sep hb X1 Ak Au Az BA;by_cases hlt:k<nn
  ·have hkn:k<p.nodes.length:=by have:=aCr.out;omega
   obtain ⟨b,o,rfl,hlb,c0,c1,c2⟩:=(HR.out.mono (bT B1.out Hb.out)).nd hkn;have xZ:=ard p k hkn;have TQ:=HV.out.ady p.nodes[k].id;have Nj:=AA (fun d (hd:d∈DF p p.nodes[k].id)=>HV.out.Qo (HV.out.ae2 (BH hkn) hd).2);have LM:=AA (Il.out p.nodes[k].id);generalize p.nodes[k]=nd at *;have ZF:=AA xZ;clear xZ;obtain ⟨L,hL⟩:=BL (Ns p k);obtain ⟨Q,hQ⟩:=BL (DF p nd.id);rw [hL] at hlk ZF HO xY LK ⊢;rw [hQ] at ZF TQ LM Nj;clear hL hQ;obtain ⟨BQ,BR,BX,CZ,-,-,-⟩:=X2.BF;go_upto_region 5 with fail;refine Cj (wo) (.run 7 0 0 (.call 7 255 (.take 8 511 (.done)))) fun Bv QR Ae Ah hS=>?_
   iterate 7 refine Aj ?_
   refine BP ?_;clear hS;intro K hK AQ;go_simp;refine (LM.out _ (bT B1.out (bT Hb.out (bD (bR wo))))).mono ?_;rintro e Bq ⟨Aq,cq,rfl,Bf,hoq⟩;have hS:Since wo Bq:=bT (w:=wo) AQ.out Bf;clear AQ;refine hK.out _ _ hS (fun _=>?_);clear hK K
   try simp only [pu]
   refine Aj ?_;refine Ce ?_;clear hS Ah Ae;intro hB;obtain ⟨W5,GU⟩:∃ W:World,W=Bq:=⟨_,rfl⟩;rw [<- GU] at hB hoq ⊢;have CW:=AA hB;have HQ5:=AA (Own.Du hoq (b':=wo.heap.size) Aw);have oP:=AA (show IG (.slice A L.length c) (.slice Aq Q.length cq) from fun g hg e=>by
    have h1:=(HO.out.lt g hg).2;have h2:=(HQ5.out.lt g e).1;omega)
   have asw:=AA (show IG (.slice A' L.length c') (.slice Aq Q.length cq) from fun g hg e=>by
    have h1:=(xY.out.lt g hg).2;have h2:=(HQ5.out.lt g e).1;omega)
   have RG:=CW.out.size;clear hB hoq Bf GU c0 c1 c2 hlb X2 BQ BR BX CZ LM;go_upto_block 2 with fail;go_wp2_with fail;go_loopw [4,5,8] (fun s t i wr=>∃ j:Nat,j<=Q.length/\i=.int .i64 j/\(∃ A c,s=.slice A (L.length+j) c)/\(∃ A c,t=.slice A (L.length+j) c)/\Own wr W1.heap.size 3 1 D5 s ((L++(Nr Q).take j).map (·.1))/\Own wr W1.heap.size 3 1 D5 t ((L++(Nr Q).take j).map (·.2))/\IG s t/\IG s (.slice Aq Q.length cq)/\IG t (.slice Aq Q.length cq)/\Own wr wo.heap.size 3 1 D5 (.slice Aq Q.length cq) Q/\AP W1 wr/\W5.heap.size<=wr.heap.size) (fun _ _ i _=>Q.length-(intOf i).toNat)
   case atStart => exact ⟨0,BZ _,rfl,⟨A,c,rfl⟩,⟨A',c',rfl⟩,by rw [OB,IQ];exact HO.out.keep CW.out,by rw [OB,IQ];exact xY.out.keep CW.out,LK.out,oP.out,asw.out,HQ5.out,bT Hb.out CW.out,DT _⟩
   case round =>
    obtain ⟨j,hj,rfl,⟨A3,c3,rfl⟩,⟨A4,c4,rfl⟩,xg,own4,s34,s3q,s4q,oq,hb3,hz3⟩:=hrel;have EI:=AA xg;have JA:=AA own4;have H34:=AA s34;have H3q:=AA s3q;have H4q:=AA s4q;have HQ:=AA oq;have HB3:=AA hb3;clear xg own4 s34 s3q s4q oq hb3;by_cases hlj:j<Q.length
    ·have hm:(j+1) % Q.length<Q.length:=U7 _ AB;have htk:=arf Q j hlj hm;have f1:=(HQ.out.row_in).int hlj;have f2:=(HQ.out.row_in).int hm;obtain ⟨bq,kJ,rfl,kK,e1⟩:=f1;obtain ⟨b_,o_,Nu,-,e2⟩:=f2;simp only [JD,Addr.mk.injEq,and_true] at Nu;obtain ⟨rfl,rfl⟩:=Nu;have htm:Int.tmod ((j:Int)+1) (Q.length:Int)=((j+1) % Q.length:Nat):=by
      rw [Int.tmod_eq_emod_of_nonneg AB,show (j:Int)+1=((j+1:Nat):Int) by omega];exact (Int.natCast_emod _ _).symm
     have hbd:-1073741824<=Q[(j+1) % Q.length]/\Q[(j+1) % Q.length]<=1073741824:=Nj.out _ (BH hm);have Et:=AA htk;obtain ⟨f,hf⟩:=BL (Q[j]);rw [hf] at Et;have HF:=AA hf;clear htk hf e1;generalize Q[(j+1) % Q.length]=d at *;generalize (j+1) % Q.length=m at *;have HLn:=AA (show (L++(Nr Q).take (j+1)).length=L.length+(j+1) by rw [EC,Ie,oM];omega);have HLj:=AA (show (L++(Nr Q).take j).length=L.length+j by rw [EC,Ie,oM];omega);have k1:IntKind.i64.wrap (-d)=-d:=Ci _ AB;have g1:IntKind.i64.wrap ((j:Int)+1)=(j:Int)+1:=Ci _ AB;have g3:¬ (Q.length:Int)=0:=by omega
     have g11:¬ Q=[]:=fun e=>by have:=congrArg List.length e;simp only [Md] at this;omega
     have g4:IntKind.i64.wrap (m:Int)=m:=Ci _ AB;have g5:(m:Int)<Q.length:=by omega
     have g6:0<=(m:Int):=by omega
     go_upto_region 10 with
      (at_builtin
       refine Ew _ rfl (.tmp 30) (.tmp 40) _ rfl (base:=W1.heap.size) IB Gt IK rfl (Own.alloc EI.out _) rfl (l2:=[-d]) (Sl.lit (n:=1) (AO.made rfl _ _) rfl (D6 AB)) abU abU (by have:=HB3.out.size;simp;omega) ?_;intro v5 w5 DY hg5 Gf;rw [show (L++(Nr Q).take j).map (·.1)++[-d]=(L++(Nr Q).take (j+1)).map (·.1) by rw [Et.out];simp only [GL,Ez,QE,JR]] at DY;obtain ⟨A5,c5,hv5,-⟩:=Own.IE DY;rw [Cm,HLn.out] at hv5;subst hv5;have Fh:=AA DY;have ae6:=AA (Own.grown (Own.alloc HQ.out _) hg5 (fun g hg e=>H3q.out g e.symm hg));have akR:=AA (Own.grown (Own.alloc JA.out _) hg5 (fun g hg e=>H34.out g e.symm hg));have ae7:∀ g,(Value.slice A5 (L.length+(j+1)) c5).ownBlock=some g->(Value.slice A3 (L.length+j) c3).ownBlock=some g\/g=wr.heap.size+1:=fun g hg=>by
        rcases Gf with h | h
        · exact .inl (h.symm.trans hg)
        · rw [hg] at h;have:=Dc h;simp at this;exact .inr this
       have H54:=AA (show IG (.slice A5 (L.length+(j+1)) c5) (.slice A4 (L.length+j) c4) from fun g hg e=>by
        rcases ae7 g hg with h | h
        · exact H34.out g h e
        · have:=(JA.out.lt g e).2;omega)
       have H5q:=AA (show IG (.slice A5 (L.length+(j+1)) c5) (.slice (some ⟨bq,kJ,none⟩) Q.length cq) from fun g hg e=>by
        rcases ae7 g hg with h | h
        · exact H3q.out g h e
        · have:=(HQ.out.lt g e).2;omega)
       have akS:=AA (bG (bA HB3.out _) hg5 (fun g hg=>(EI.out.lt g hg).1));have ayq:wr.heap.size<w5.heap.size:=by have:=hg5.size;simp at this;omega
       clear DY hg5 Gf ae7
       )
     clear e2 htm g1 g3 g4 g5 g6 g11 k1 hbd;obtain ⟨b_,o_,Nu,jV,e1⟩:=(ae6.out.row_in).int hlj;simp only [JD,Addr.mk.injEq,and_true] at Nu;obtain ⟨rfl,rfl⟩:=Nu;rw [HF.out] at e1;go_upto_region 8 with
      (at_builtin
       refine Ew _ rfl (.tmp 42) (.tmp 47) _ rfl (base:=W1.heap.size) IB Gt IK rfl (Own.alloc akR.out _) rfl (l2:=[f]) (Sl.lit (n:=1) (AO.made rfl _ _) rfl (D6 AB)) abU abU (by have:=akS.out.size;simp;omega) ?_;intro v6 w6 QU JB kL;rw [show (L++(Nr Q).take j).map (·.2)++[f]=(L++(Nr Q).take (j+1)).map (·.2) by rw [Et.out];simp only [GL,Ez,QE,JR]] at QU;obtain ⟨A6,c6,hv6,-⟩:=Own.IE QU;rw [Cm,HLn.out] at hv6;subst hv6;have ML:=AA QU;have HQ6:=AA (Own.grown (Own.alloc ae6.out _) JB (fun g hg e=>H4q.out g e.symm hg));have asx:=AA (Own.grown (Own.alloc Fh.out _) JB (fun g hg e=>H54.out g hg e.symm));have kM:∀ g,(Value.slice A6 (L.length+(j+1)) c6).ownBlock=some g->(Value.slice A4 (L.length+j) c4).ownBlock=some g\/g=w5.heap.size+1:=fun g hg=>by
        rcases kL with h | h
        · exact .inl (h.symm.trans hg)
        · rw [hg] at h;have:=Dc h;simp at this;exact .inr this
       have H56:=AA (show IG (.slice A5 (L.length+(j+1)) c5) (.slice A6 (L.length+(j+1)) c6) from fun g hg e=>by
        rcases kM g e with h | h
        · exact H54.out g hg h
        · have:=(Fh.out.lt g hg).2;omega)
       have H6q:=AA (show IG (.slice A6 (L.length+(j+1)) c6) (.slice (some ⟨bq,kJ,none⟩) Q.length cq) from fun g hg e=>by
        rcases kM g hg with h | h
        · exact H4q.out g h e
        · have:=(ae6.out.lt g e).2;omega)
       have Eb:=AA (bG (bA akS.out _) JB (fun g hg=>(akR.out.lt g hg).1));have jZ:w5.heap.size<w6.heap.size:=by have:=JB.size;simp at this;omega
       clear QU JB kL kM
       )
     clear e1 jV;go_wp2;go_roundw
     case rel => exact ⟨j+1,AB,BI,⟨A5,c5,rfl⟩,⟨A6,c6,rfl⟩,asx.out,ML.out,H56.out,H5q.out,H6q.out,HQ6.out,Eb.out,AB⟩
     case measure => exact BK
    ·obtain rfl:j=Q.length:=by omega
     have ho3:=EI.out;have JY:=JA.out;rw [arh] at ho3 JY;have YN:=AA (show (Ns p (k+1)).length=L.length+Q.length by rw [ZF.out,EC,oM]);have asy:=AA ho3;have asz:=AA JY;clear ho3 JY;go_wp2;go_roundw
     case rel => exact ⟨k+1,AB,BI,⟨A3,c3,by rw [YN.out]⟩,⟨A4,c4,by rw [YN.out]⟩,by rw [ZF.out];exact asy.out,by rw [ZF.out];exact asz.out,H34.out,HB3.out⟩
     case measure => exact BK
  ·obtain rfl:k=nn:=by omega
   rw [Hq.out] at HO xY ⊢
   try clear BQ BR BX CZ
   obtain ⟨BQ,BR,BX,CZ,-,-,-⟩:=X2.BF;go_wp2_with fail;go_ret2;exact ⟨A,c,A',c',rfl,bT B1.out Hb.out,HO.out.Du B1.out.size,xY.out.Du B1.out.size⟩
structure AD where
 tw:Int
 out:List Int
 ov:SV
 inn:List (List Int×SV)
 iv:SV
 CU:List Int
 av:SV
def Di (x:AD):List Value:=[.int .i64 x.tw,BJ x.ov,BJ x.iv,BJ x.av]
theorem Pz (x:AD):(Di x).length=4:=rfl
theorem oQ (x:AD):∀ u∈Di x,u.oneCell'=true:=by simp [Di,BJ,Value.oneCell']
theorem at1:Elem Tryz.prog 76 82 4 80:=Elem.Po (z:=.agg #[.int .i64 0,.slice none 0 0,.slice none 0 0,.slice none 0 0]) FC FC rfl AB
structure GH (e:TypeId) (w0 w:World) (B:Nat) (v:Value) (L:List AD):Prop where
 own:Own w B e 4 Di v L
 out:∀ x∈L,Ints w0 (BJ x.ov) x.out
 inn:∀ x∈L,Own w B 24 1 Ib (BJ x.iv) x.inn
 Gi:∀ x∈L,∀ c∈x.inn,Ints w0 (BJ c.2) c.1
 CU:∀ x∈L,Own w B 3 1 D5 (BJ x.av) x.CU
 aN:L.Pairwise (fun x y=>IG (BJ x.iv) (BJ y.iv))
 aO:L.Pairwise (fun x y=>IG (BJ x.av) (BJ y.av))
theorem GH.keep {e:TypeId} {w0 w w':World} {B:Nat} {v:Value} {L:List AD} (h:GH e w0 w B v L) (hb:AP w w'):GH e w0 w' B v L :=
 ⟨h.own.keep hb,h.out,fun x hx=>(h.inn x hx).keep hb,h.Gi,fun x hx=>(h.CU x hx).keep hb,h.aN,h.aO⟩
