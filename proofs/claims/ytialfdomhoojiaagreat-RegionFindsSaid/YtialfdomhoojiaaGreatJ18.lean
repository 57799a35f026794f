import Derived.Test.YtialfdomhoojiaaGreatJ17
import Derived.Shelf.SortM.Plain
import Derived.Shelf.SortM.SortNone
import Derived.Test.YtialfdomhoojiaaGreatLaySortN
set_option linter.unusedSimpArgs false
set_option linter.unusedVariables false
set_option maxRecDepth 100000
set_option maxHeartbeats 8000000
namespace Go.Proofs.YtialfdomhoojiaaGreat
open Go.RowKit Go.Sort
theorem adw {P:Program} {fn:Func} {p:Tmp} {ty t:TypeId} {R:Ending->World->Prop} {a:Act} {w:World} {g:Nat} {v:Value} (h:fn.results=#[.cell p ty])
  (hS:∀ w,(isAgg ty).run P w=.ok false w) (hp:a.tmps.getD p undef=.pointer (some ⟨g,0,none⟩)) (hd:a.defers=[]) (hb:AO w g t #[v]) (hR:R (.returned v) w):bodyPost P fn R .ret a w:=by
 refine bodyPost_ret ?_ hd hR;have hp':a.tmps[p]?.getD undef=.pointer (some ⟨g,0,none⟩):=by simpa using hp
 have hc:w.cell? ⟨g,0,none⟩=some v:=by rw [hb.cell];rfl
 simp only [results,h];simp [hp',asAddr,loadVar,Sem.run_bind,Sem.run_pure,Result.andThen,hS,hc]
theorem ajB:∀ w,(isAgg 24).run Tryz.prog w=.ok false w:=fun _=>by kernel_rfl
def aCm (w:World) (l:List Int) (e:Ending) (w':World):Prop :=
 ∃ A c,e=.returned (.slice A l.length c)/\AP w w'/\Own w' w.heap.size 3 1 D5 (.slice A l.length c) l
theorem Valid.ajC {p:Pl} (h:Valid p) {n d:Int} (hd:d∈Df p.AU n):ES d:=by
 obtain ⟨a,ha,e⟩:=Qz.1 hd;have:=h.Gh ha
 rcases e with ⟨rfl,-⟩ | ⟨rfl,-⟩
 · exact KU AB AB
 · exact KU AB AB
theorem aiX (l:List Ar) (n:Int) (k:Nat) (hk:k<l.length):Df (l.take (k+1)) n=Df (l.take k) n++((if l[k].fr=n then [l[k].id] else [])++(if l[k].dst=n then [-l[k].id] else [])):=by
 unfold Df;rw [En hk,KO];simp
theorem xK (l:List Ar) (n:Int):(Df l n).length<=2*l.length:=by
 unfold Df
 induction l with
 | nil=>simp
 | cons a l ih =>
  rw [Ju,EC,EC,I9];have h1:(if a.fr=n then [a.id] else []).length<=1:=by split<;>simp
  have h2:(if a.dst=n then [-a.id] else []).length<=1:=by split<;>simp
  omega
theorem Own.as8 {α:Type} {w w':World} {base:Nat} {e:TypeId} {size:Nat} {f:α->List Value} {v:Value} {l:List α} (h:Own w base e size f v l) (hk:∀ g t cs,base<=g->AO w g t cs->AO w' g t cs):Own w' base e size f v l:=by
 obtain ⟨h1,h2⟩:=h;refine ⟨h1,?_⟩;rcases h2 with h2 | ⟨g,cap,cur,hv,hg,hh,r⟩
 · exact .inl h2
 ·subst hv;exact .inr ⟨g,cap,cur,rfl,hg,hk g e cur hg hh,r⟩
theorem xM {p:Pl} {D:List Int} {f:Int->Pt} (h:∀ d∈D,f d=Dt p d) {x:Int} {q:Pt} (hx:Dt p x=q):∀ d∈D++[x],(fun i=>if i=x then q else f i) d=Dt p d:=by
 intro d hd;by_cases e:d=x
 · subst e;simp [hx]
 ·simp only [FZ,ED,e,or_false] at hd;simp [e,h d hd]
theorem Own.aiY {w:World} {base:Nat} {A:Option Addr} {n c:Nat} {l:List Pt} (h:Own w base 39 2 EX (.slice A n c) l):Row w A (l.flatMap EX):=by
 obtain ⟨A',c',he,_,_,hr⟩:=h.sl;injection he with e1 e2 e3;subst e1;exact hr
theorem jO.keep {w w':World} {B g4 g7 gm n:Nat} {dl:List Int} {f:Int->Pt} {v:Value} (h:jO w B g4 g7 gm n dl f v) (hb:AP w w'):jO w' B g4 g7 gm n dl f v :=
 ⟨h.x4.keep hb,h.own.keep hb,h.x7.keep hb,h.mp.keep hb,h.b4,h.bm⟩
theorem as9 (v:Value) (p:Pl) (n:Int) (w:World) (h:Cb w v p) (hv:Valid p) :
  Calls Tryz.prog 116 #[v,.int .i64 n] w (aCm w (DF p n)):=by
 have bV:=AA (fun W (hW:AP w W)=>ac4 v p n W (h.mono hW));have asA:=AA (fun id W (hW:AP w W)=>aAm v p id W (h.mono hW) hv.short);obtain ⟨_,_,_,al,rfl,hpa,⟨An,cn,rfl,-⟩,⟨⟨Aa,ca,rfl,hn1,hn2,hR⟩,TG⟩,⟨Af,cf,rfl,-⟩⟩:=h;unfold maxLen at hn2;have HR:=AA hR;have jY:=AA TG;have HV:=AA hv;have LH:=AA hpa;generalize hnn:p.nodes.length=nn at *;generalize p.faces.length=nf at *;obtain ⟨q,hq⟩:=BL (DF p n);rw [hq];have Hq:=AA hq;have hall:al.length<=256:=by
  have hl:=hv.lim;unfold JX at hl;simp only [Rq,J3] at hl;have h2:=hl.2;rw [hpa,Cm] at h2;omega
 clear hpa hR TG hv hq hnn;go_enter Tryz.func116,Tryz.ntmps116;go_wp2_with fail;refine (bV.out _ (bA (bA (bR w) _) _)).mono ?_;rintro e w1 ⟨rfl,hb1⟩;have X2:AO w1 w.heap.size 26 #[.slice An nn cn,.slice Aa al.length ca,.slice Af nf cf]:=((AO.made rfl _ _).alloc _).keep hb1;have X4:AO w1 (w.heap.size+1) 24 #[.slice none 0 0]:=(AO.made Aw _ _).keep hb1;have B1:=AA (bT (bA (bA (bR w) _) _) hb1);clear hb1;unfold iU uM
 cases hfn:JK p.nodes n with
 | none =>
  have hf:q=[]:=by rw [<- Hq.out];unfold DF;rw [hfn]
  subst hf;clear hfn;simp only [rV,fK];obtain ⟨Bh,Bl,Dl⟩:=X4.Fa;go_wp2_with fail;refine adw (g:=w.heap.size+1) (v:=.slice none 0 0) rfl ajB rfl rfl ((AO.aAr X4).alloc _) ⟨none,0,rfl,?_,Own.nil _ _ _ _ _⟩;have Bw:=B1.out;exact Dk
 | some nd =>
  have hnd:nd∈p.nodes/\nd.id=n:=⟨VG hfn,by have:=List.find?_some hfn;simpa using this⟩;obtain ⟨hnm,rfl⟩:=hnd;have hAr:=HV.out.aBU hnm;rw [Hq.out] at hAr;have Il:=AA hAr;have NK:=AA hnm;clear hfn hAr hnm Hq;simp only [Gp,VH];obtain ⟨BQ,BR,BX,CZ,-,-,-⟩:=X2.BF
  try clear Bh Bl
  try clear Dl
  obtain ⟨Bh,Bl,Dl⟩:=X4.Fa;have jB:=AA (J4.made (w1.alloc (.cells #[.int .i64 nd.id,.int .i64 nd.pt.x,.int .i64 nd.pt.y] 45)));have hmm:=@run_makeMap Tryz.prog;go_upto_region 5 with fail;obtain ⟨W5,hW⟩:∃ W:World,W=((w1.alloc (.cells #[.int .i64 nd.id,.int .i64 nd.pt.x,.int .i64 nd.pt.y] 45)).alloc (.map #[] 0)).alloc (.cells #[.map (some (w1.heap.size+1))] 189):=⟨_,rfl⟩;have hA:AP w1 W5:=by rw [hW];exact bA (bA (bA (bR w1) _) _) _
  have D8:=AA (show AO W5 w1.heap.size 45 #[.int .i64 nd.id,.int .i64 nd.pt.x,.int .i64 nd.pt.y] by rw [hW];exact ((AO.made rfl _ _).alloc _).alloc _);have Iw:=AA (show AO W5 (w1.heap.size+1+1) 189 #[.map (some (w1.heap.size+1))] by rw [hW];exact AO.made Aw _ _);have TV:=AA (show J4 W5 (w1.heap.size+1) 0 (fun _=>z0) by
   rw [hW];have h1:=jB.out;rw [show (w1.alloc (.cells #[.int .i64 nd.id,.int .i64 nd.pt.x,.int .i64 nd.pt.y] 45)).heap.size=w1.heap.size+1 by simp] at h1;exact h1.keep (bA (bR _) _))
  have CG:=AA (X2.keep hA);have DJ:=AA (X4.keep hA);have B5:=AA (bT B1.out hA);have hz1:w.heap.size+2<=w1.heap.size:=by have:=X4.lt;omega
  rw [<- hW];clear hW hA X2 X4 BQ BR BX CZ Bh Bl Dl jB hmm;obtain ⟨g5,hg5⟩:=BL w1.heap.size;rw [hg5] at D8 Iw TV hz1 ⊢;clear hg5;have X2:=CG.out
  try clear BQ BR BX CZ
  obtain ⟨BQ,BR,BX,CZ,-,-,-⟩:=X2.BF;have Lj:=AA (@as4);go_upto_block 0 with fail;go_wp2_with fail;go_loopw [26] (fun i wr=>∃ (k:Nat) (f:Int->Pt) (vl:Value) (cnt:Nat),k<=al.length/\i=.int .i64 k/\cnt<=2*k/\jO wr (w.heap.size+1) (w.heap.size+1) (g5+1+1) (g5+1) cnt (Df (p.AU.take k) nd.id) f vl/\(∀ d∈Df (p.AU.take k) nd.id,f d=Dt p d)/\AP w wr/\AO wr w.heap.size 26 #[.slice An nn cn,.slice Aa al.length ca,.slice Af nf cf]/\AO wr g5 45 #[.int .i64 nd.id,.int .i64 nd.pt.x,.int .i64 nd.pt.y]) (fun i _=>al.length-(intOf i).toNat)
  case atStart => exact ⟨0,fun _=>z0,.slice none 0 0,0,BZ _,rfl,AB,⟨DJ.out,Own.nil _ _ _ _ _,Iw.out,TV.out,AB,AB⟩,(fun d h=>by simp [Df] at h),B5.out,CG.out,D8.out⟩
  case round =>
   obtain ⟨k,f,vl,cnt,hk,rfl,hcnt,aiZ,hf,hb,X2,X5⟩:=hrel;have Hb:=AA hb;have Uo:=AA aiZ;have Hf:=AA hf;have CG:=AA X2;have D8:=AA X5;clear hb aiZ hf
   try clear BQ BR BX CZ
   obtain ⟨BQ,BR,BX,CZ,-,-,-⟩:=X2.BF;have hzr:=Hb.out.size;have ayl:g5+1+1<wr.heap.size:=Uo.out.x7.lt;by_cases hlt:k<al.length
   case neg =>
    have hkk:k=al.length:=by omega
    have ht:p.AU.take k=p.AU:=Hw (by rw [LH.out,Cm];omega);rw [ht] at Uo Hf;have HF:=Hf;clear ht;subst hkk;obtain ⟨x4,own,x7,mp,b4,bm⟩:=Uo.out;obtain ⟨A,c,rfl,-⟩:=Own.shape own;have hlen:=xK p.AU nd.id;rw [show p.AU.length=al.length by rw [LH.out,Cm]] at hlen;have HS:=AA (arx (w.heap.size+1) _ (Df p.AU nd.id) (ltD p nd.pt) 176 #[.pointer (some ⟨g5,0,none⟩),.pointer (some ⟨g5+1+1,0,none⟩)] wr own (HV.out.wJ NK.out) AB (enters_of Tryz.func176 FC rfl)
     (fun W hW x hx y hy=>by
      have h:=as7 nd x y g5 (g5+1+1) (g5+1) cnt f W (D8.out.grown hW (fun e=>Own.Dz own D8.out BG e.symm)) (x7.grown hW (fun e=>Own.Dz own x7 BG e.symm)) (mp.kept hW (fun e=>aeb mp own e.symm)) (HV.out.ajC hx) (HV.out.ajC hy);have he:bQ (fun a b=>Si nd.pt (f a) (f b)) x y=bQ (ltD p nd.pt) x y:=by
       unfold bQ ltD;simp only [HF.out x hx,HF.out y hy]
      rw [he] at h;exact h))
    have aCl:=Own.Dz own x4 BG;have hown:=Own.lt own;have YX:=AA hown;have HB4:=AA b4;have X4:=x4;have aym:=AA x4;have Hg:=AA aCl;have hpm:(sortB (ltD p nd.pt) (Df p.AU nd.id)).length=(Df p.AU nd.id).length:=((iK (HV.out.wJ NK.out)).1).length_eq;rw [<- Il.out] at hpm HS;have Jr:=AA hpm;clear x4 own x7 mp b4 bm aCl hown hpm hlen HF Hf Uo;generalize Df p.AU nd.id=D at *
    try clear Bh Bl
    try clear Dl
    obtain ⟨Bh,Bl,Dl⟩:=X4.Fa;go_wp2_with fail;refine HS.out.mono ?_;rintro e ws ⟨rfl,hos,hgs⟩;have Y4:=AO.grown X4 hgs (fun e=>Hg.out e.symm);have YZ:=AA hos;have oG:=AA (show Below (w.heap.size+1) wr ws from Below.grown (Below.refl _ _) hgs AB (fun g hg=>(YX.out g hg).1));clear hos hgs X4 Bh Bl Dl X2 BQ BR BX CZ;have X4:=Y4;clear Y4
    try clear Bh Bl
    try clear Dl
    obtain ⟨Bh,Bl,Dl⟩:=X4.Fa;go_wp2_with fail;have ho:=YZ.out;rw [<- Jr.out] at ho ⊢;refine adw (g:=w.heap.size+1) (v:=.slice A q.length c) rfl ajB rfl rfl (AO.aAr X4) ⟨A,c,rfl,?_,(ho.far (p:=⟨w.heap.size+1,0,none⟩) (by rw [Jr.out];exact Hg.out) _).Du AB⟩;exact (Below.trans Hb.out (oG.out.mono AB)).setCell (by show w.heap.size<=w.heap.size+1;omega) _
   obtain ⟨b,o,rfl,hlb,c0,c1,c2,c3,c4,c5⟩:=(HR.out.mono Hb.out).ar hlt;have ham:al[k].1∈p.AU:=by rw [LH.out];exact Gs (BH hlt)
   have hst:Df (p.AU.take (k+1)) nd.id=Df (p.AU.take k) nd.id++((if al[k].1.fr=nd.id then [al[k].1.id] else [])++(if al[k].1.dst=nd.id then [-al[k].1.id] else [])):=by
    have h1:k<p.AU.length:=by rw [LH.out,Cm];exact hlt
    have h2:=aiX p.AU nd.id k h1;have h3:p.AU[k]=al[k].1:=by simp only [LH.out,Gq]
    rw [h3] at h2;exact h2
   obtain ⟨Av,cv,hv,-⟩:=jY.out k hlt;rw [hv] at c3;have hpo:=HV.out.adf (HV.out.lW ham);have hid:=HV.out.Gh ham;rw [show Ee al[k].1.id=al[k].1.id by unfold Ee;rw [AX AB]] at hpo;have Jd:=AA (asA.out al[k].1.id);rw [hpo] at Jd;unfold iW at Jd;simp only [Gp,VH,if_true] at Jd;have aia:=HV.out.iI ham;have aib:=HV.out.dS ham;have hpl:=Eh p al[k].1;have hvl:=HV.out.Sv ham;have hlen:=xK (p.AU.take k) nd.id;have hlen2:(p.AU.take k).length<=k:=aav _ _;have DI:=AA hst;have asB:=AA aia;have aic:=AA aib;have HLen:=AA (show (Df (p.AU.take k) nd.id).length<=512 by omega);clear hst aia aib hpo hv ham hlen hlen2;obtain ⟨D1,hD1⟩:=BL (Df (p.AU.take (k+1)) nd.id);rw [hD1] at DI;have HD1:=AA hD1;clear hD1;generalize Df (p.AU.take k) nd.id=D0 at *;generalize hP:AV p al[k].1=P at *;generalize al[k].1.via.length=vn at *;generalize al[k].1=a at *;have aie:=AA (show ES a.id from KU AB AB);have aCn:=AA (show ES (-a.id) from KU AB AB);have hneg:IntKind.i64.wrap (-a.id)=-a.id:=Ci _ AB;clear hP
   cases hb1:(a.fr == nd.id)
   case false =>
    have hn1:(a.fr != nd.id)=true:=by rw [bne,hb1];rfl
    cases hb2:(a.dst == nd.id)
    case false =>
     have hn2:(a.dst != nd.id)=true:=by rw [bne,hb2];rfl
     have hD:D1=D0:=by rw [DI.out,AX (by simpa using hb1),AX gU];simp
     go_wp2;go_roundw
     case rel => exact ⟨k+1,f,vl,cnt,AB,BI,AB,by rw [show Df (List.take (k+1) p.AU) nd.id=D0 from HD1.out.trans hD];exact Uo.out.keep (bA (bR wr) _),by rw [show Df (List.take (k+1) p.AU) nd.id=D0 from HD1.out.trans hD];exact Hf.out,bA Hb.out _,CG.out.alloc _,D8.out.alloc _⟩
     case measure => exact BK
    case true =>
     have hn2:(a.dst != nd.id)=false:=by rw [bne,hb2];rfl
     have jP:=AA hpl;clear hpl;go_wp2_with fail;refine (Jd.out _ (bA Hb.out _)).mono ?_;rintro e w2 ⟨A2,c2',rfl,hb2,ho2⟩;have HW2:=AA (show AP wr w2 from bT (bA (bR wr) _) hb2);have EU:=AA ho2;have hz2:=hb2.size;simp only [World.size_alloc] at hz2;obtain ⟨Aq,cq,he,hq1,hq2,Ti⟩:=ho2.sl;injection he with e1 e2 e3;subst e1 e3;clear e2;unfold maxLen at hq2;have UG:=AA (show AO w2 wr.heap.size 50 #[.int .i64 a.id,.int .i64 a.fr,.int .i64 a.dst,.slice Av vn cv,.int .i64 a.left,.int .i64 a.right] from (AO.made rfl _ _).keep hb2);have EP:=UG.out;rw [jP.out] at hq1 ⊢;clear hb2 ho2 Jd BQ BR BX CZ X2 c0 c1 c2 c3 c4 c5 hlb;have hD:D1=D0++[-a.id]:=by rw [DI.out,AX (by simpa using hb1),AZ gU];simp
     have HOW:=EU;have oJ:=AA (Uo.out.keep HW2.out);have oK:=AA (CG.out.keep HW2.out);have jQ:=AA (D8.out.keep HW2.out);have Sm:=AA (show AP w w2 from bT Hb.out HW2.out);have jR:=AA (Own.Dz Uo.out.own D8.out BG);clear Ti;obtain ⟨J5,J6,J7,Zo,ig,iq,iw,-,-,-,-,-,-⟩:=EP.IU;have hP2:vn<P.length:=by have:=jP.out;omega
     obtain ⟨bp,op,KJ,hlp,e20,e21⟩:=Row.pt (HOW.out.aiY) hP2;have hp2:P.getD vn AY=P[vn]:=by simp only [Fj,DK hP2,Gp]
     have xO:=AA (aic.out.trans hp2);clear hp2;generalize P[vn]=p2 at *
     first | subst KJ | (simp only [JD,Addr.mk.injEq,and_true] at KJ;obtain ⟨rfl,rfl⟩:=KJ)
     have k2:IntKind.i64.wrap ((vn:Int)+2-2)=vn:=by rw [show (vn:Int)+2-2=vn by omega];exact Ci _ AB
     have k3:IntKind.i64.wrap (vn:Int)=vn:=Ci _ AB;have k4:(vn:Int)<(vn:Int)+2:=by omega
     have k5:0<=(vn:Int):=by omega
     have k6:(vn:Int)+2-2=vn:=by omega
     go_upto_region 15 with fail;refine QK ((w.heap.size+1)) (w2) (.take 0 1 (.take 1 3 (.run 5 4 3 (.two 2 503 (.take 3 511 (.call 9 1023 (.call 10 2047 (.done)))) 9 1011 (.call 2 1015 (.take 3 1023 (.call 10 2047 (.done)))))))) fun Bv QR Ae Ah hS=>?_
     iterate 7 refine Aj ?_
     refine Oc (i:=2) (j:=9) (Ej Ae rfl) (Ej Ae rfl) (fun K hK=>?_) (fun K hK=>?_)
     ·have AQ:=AA hS;clear hS;refine FQ (FM rfl) ?_;go_simp;refine hK.out _ _ AQ.out (fun hS=>?_);clear hK K AQ
      try simp only [pu]
      refine Aj ?_;refine BP ?_;clear hS;intro K hK AQ;go_simp;refine hK.out _ _ AQ.out (fun hS=>?_);clear hK K AQ
      try simp only [pu]
      refine BP ?_;clear hS;intro K hK AQ;go_simp;refine (Lj.out (-a.id) p2 (w.heap.size+1) (w.heap.size+1) (g5+1+1) (g5+1) (cnt) (D0) (f) vl _ (oJ.out.keep (bD (bR w2))) DC AB abV aCn.out).mono ?_;rintro e w4 ⟨rfl,⟨v4,WY⟩,hb4,hk4⟩;have hS:Fb (w.heap.size+1) w2 w4:=Below.trans AQ.out hb4;have jS:=AA WY;have jT:=AA (hk4 g5 _ _ (jQ.out.keep (bD (bR w2))) AB AB jR.out);clear hb4 hk4 WY;clear AQ;refine hK.out _ _ hS (fun _=>?_);clear hK K
      try simp only [pu]
      refine KW ?_;clear hS Ah Ae;intro hB;go_wp2;go_roundw
      case rel => exact ⟨k+1,_,v4,cnt+1,AB,BI,AB,by rw [show Df (List.take (k+1) p.AU) nd.id=D0++[-a.id] from HD1.out.trans hD];exact jS.out,(fun d hd=>by rw [show Df (List.take (k+1) p.AU) nd.id=D0++[-a.id] from HD1.out.trans hD] at hd;exact xM Hf.out xO.out d hd),Below.trans Sm.out (hB.mono AB),oK.out.below hB AB,jT.out⟩
      case measure => exact BK
     ·have AQ:=AA hS;clear hS;refine FQ (FM rfl) ?_;go_simp;refine hK.out _ _ AQ.out (fun hS=>?_);clear hK K AQ
      try simp only [pu]
      refine BP ?_;clear hS;intro K hK AQ;go_simp;refine hK.out _ _ AQ.out (fun hS=>?_);clear hK K AQ
      try simp only [pu]
      refine Aj ?_;refine BP ?_;clear hS;intro K hK AQ;go_simp;refine (Lj.out (-a.id) p2 (w.heap.size+1) (w.heap.size+1) (g5+1+1) (g5+1) (cnt) (D0) (f) vl _ (oJ.out.keep (bD (bR w2))) DC AB abV aCn.out).mono ?_;rintro e w4 ⟨rfl,⟨v4,WY⟩,hb4,hk4⟩;have hS:Fb (w.heap.size+1) w2 w4:=Below.trans AQ.out hb4;have jS:=AA WY;have jT:=AA (hk4 g5 _ _ (jQ.out.keep (bD (bR w2))) AB AB jR.out);clear hb4 hk4 WY;clear AQ;refine hK.out _ _ hS (fun _=>?_);clear hK K
      try simp only [pu]
      refine KW ?_;clear hS Ah Ae;intro hB;go_wp2;go_roundw
      case rel => exact ⟨k+1,_,v4,cnt+1,AB,BI,AB,by rw [show Df (List.take (k+1) p.AU) nd.id=D0++[-a.id] from HD1.out.trans hD];exact jS.out,(fun d hd=>by rw [show Df (List.take (k+1) p.AU) nd.id=D0++[-a.id] from HD1.out.trans hD] at hd;exact xM Hf.out xO.out d hd),Below.trans Sm.out (hB.mono AB),oK.out.below hB AB,jT.out⟩
      case measure => exact BK
   case true =>
    have hn1:(a.fr != nd.id)=false:=by rw [bne,hb1];rfl
    have HB1:=AA hb1;clear hb1;have jP:=AA hpl;clear hpl;go_wp2_with fail;refine (Jd.out _ (bA Hb.out _)).mono ?_;rintro e w2 ⟨A2,c2',rfl,hb2,ho2⟩;have HW2:=AA (show AP wr w2 from bT (bA (bR wr) _) hb2);have EU:=AA ho2;have hz2:=hb2.size;simp only [World.size_alloc] at hz2;obtain ⟨Aq,cq,he,hq1,hq2,Ti⟩:=ho2.sl;injection he with e1 e2 e3;subst e1 e3;clear e2;unfold maxLen at hq2;have UG:=AA (show AO w2 wr.heap.size 50 #[.int .i64 a.id,.int .i64 a.fr,.int .i64 a.dst,.slice Av vn cv,.int .i64 a.left,.int .i64 a.right] from (AO.made rfl _ _).keep hb2);have EP:=UG.out;rw [jP.out] at hq1 ⊢;clear hb2 ho2 Jd BQ BR BX CZ X2 c0 c1 c2 c3 c4 c5 hlb;have hP1:1<P.length:=by have:=jP.out;omega
    obtain ⟨bp,op,KJ,hlp,e10,e11⟩:=Row.pt (Ti) hP1;have hp1:P.getD 1 AY=P[1]:=by simp only [Fj,DK hP1,Gp]
    have asC:=AA (asB.out.trans hp1);clear hp1;generalize P[1]=p1 at *;subst KJ;clear Ti;simp only [Nat.one_mul] at e10 e11;have k1:(1:Int)<(vn:Int)+2:=by omega
    try clear J5 J6 J7 Zo ig iq iw
    obtain ⟨J5,J6,J7,Zo,ig,iq,iw,-,-,-,-,-,-⟩:=EP.IU;go_upto_if 52 with fail;go_cut [] (fun w3=>∃ v3,jO w3 (w.heap.size+1) (w.heap.size+1) (g5+1+1) (g5+1) (cnt+1) (D0++[a.id]) (fun i=>if i=a.id then p1 else f i) v3/\Below (w.heap.size+1) w2 w3/\(∀ g t cs,AO w2 g t cs->g≠w.heap.size+1->g≠g5+1->vl.ownBlock≠some g->AO w3 g t cs))
    case first =>
     have hb1:=HB1.out;go_upto_region 13 with fail;refine QK ((w.heap.size+1)) (w2) (.take 0 1 (.take 1 3 (.take 3 11 (.take 4 27 (.two 2 31 (.call 5 63 (.call 6 127 (.done))) 5 59 (.call 2 63 (.call 6 127 (.done)))))))) fun Bv QR Ae Ah hS=>?_
     iterate 4 refine Aj ?_
     refine Oc (i:=2) (j:=5) (Ej Ae rfl) (Ej Ae rfl) (fun K hK=>?_) (fun K hK=>?_)
     ·have AQ:=AA hS;clear hS;refine FQ (FM rfl) ?_;go_simp;refine hK.out _ _ AQ.out (fun hS=>?_);clear hK K AQ
      try simp only [pu]
      refine BP ?_;clear hS;intro K hK AQ;go_simp;refine hK.out _ _ AQ.out (fun hS=>?_);clear hK K AQ
      try simp only [pu]
      refine BP ?_;clear hS;intro K hK AQ;go_simp;refine (Lj.out a.id p1 (w.heap.size+1) (w.heap.size+1) (g5+1+1) (g5+1) cnt D0 f vl _ (Uo.out.keep (bD HW2.out)) DC AB (by have:=HLen.out;omega) aie.out).mono ?_;rintro e w3 ⟨rfl,⟨v3,Yh⟩,hb3,hk3⟩;have hS:Fb (w.heap.size+1) w2 w3:=Below.trans AQ.out hb3;have adx:=AA Yh;have HK3:=AA (show ∀ g t cs,AO w2 g t cs->g≠w.heap.size+1->g≠g5+1->vl.ownBlock≠some g->AO w3 g t cs from fun g t cs h=>hk3 g t cs (h.keep (bD (bR w2))));clear hb3 hk3 Yh;clear AQ;refine hK.out _ _ hS (fun _=>?_);clear hK K
      try simp only [pu]
      refine KW ?_;clear hS Ah Ae;intro hB;go_wp2;go_meet
      case rel => exact ⟨v3,adx.out,hB,HK3.out⟩
     ·have AQ:=AA hS;clear hS;refine FQ (FM rfl) ?_;go_simp;refine hK.out _ _ AQ.out (fun hS=>?_);clear hK K AQ
      try simp only [pu]
      refine BP ?_;clear hS;intro K hK AQ;go_simp;refine hK.out _ _ AQ.out (fun hS=>?_);clear hK K AQ
      try simp only [pu]
      refine BP ?_;clear hS;intro K hK AQ;go_simp;refine (Lj.out a.id p1 (w.heap.size+1) (w.heap.size+1) (g5+1+1) (g5+1) cnt D0 f vl _ (Uo.out.keep (bD HW2.out)) DC AB (by have:=HLen.out;omega) aie.out).mono ?_;rintro e w3 ⟨rfl,⟨v3,Yh⟩,hb3,hk3⟩;have hS:Fb (w.heap.size+1) w2 w3:=Below.trans AQ.out hb3;have adx:=AA Yh;have HK3:=AA (show ∀ g t cs,AO w2 g t cs->g≠w.heap.size+1->g≠g5+1->vl.ownBlock≠some g->AO w3 g t cs from fun g t cs h=>hk3 g t cs (h.keep (bD (bR w2))));clear hb3 hk3 Yh;clear AQ;refine hK.out _ _ hS (fun _=>?_);clear hK K
      try simp only [pu]
      refine KW ?_;clear hS Ah Ae;intro hB;go_wp2;go_meet
      case rel => exact ⟨v3,adx.out,hB,HK3.out⟩
    case rest =>
     obtain ⟨v3,Yh,hB3,hk3⟩:=hcut;have Sm:=AA (show RowKit.Below w.heap.size w wc from Below.trans (bT Hb.out HW2.out) (hB3.mono AB));have oK:=AA ((CG.out.keep HW2.out).below hB3 AB);have jQ:=AA (hk3 g5 _ _ (D8.out.keep HW2.out) AB AB (Own.Dz Uo.out.own D8.out BG));have aif:=hk3 wr.heap.size _ _ UG.out AB AB (fun e=>by have:=(Uo.out.own.lt _ e).2;omega);have HOW:=AA (EU.out.as8 (fun g t cs hg hx=>hk3 g t cs hx (by simp only [World.size_alloc] at hg;omega) (by simp only [World.size_alloc] at hg;omega) (fun e=>by have:=(Uo.out.own.lt _ e).2;simp only [World.size_alloc] at hg;omega)));have oJ:=AA Yh;have jR:=AA (Own.Dz Yh.own jQ.out BG);have hf3:=xM Hf.out asC.out;have HF3:=AA hf3;have hz3:=hB3.size;clear Yh hB3 hk3 hf3 EP J5 J6 J7 Zo ig iq iw e10 e11;have EP:=aif;clear aif
     try clear J5 J6 J7 Zo ig iq iw
     obtain ⟨J5,J6,J7,Zo,ig,iq,iw,-,-,-,-,-,-⟩:=EP.IU
     cases hb2:(a.dst == nd.id)
     case false =>
      have hD:D1=D0++[a.id]:=by rw [DI.out,AZ (by simpa using HB1.out),AX gU];simp
      go_wp2;go_roundw
      case rel => exact ⟨k+1,_,v3,cnt+1,AB,BI,AB,by rw [show Df (List.take (k+1) p.AU) nd.id=D0++[a.id] from HD1.out.trans hD];exact oJ.out,by rw [show Df (List.take (k+1) p.AU) nd.id=D0++[a.id] from HD1.out.trans hD];exact HF3.out,Sm.out,oK.out,jQ.out⟩
      case measure => exact BK
     case true =>
      have hD:D1=D0++[a.id]++[-a.id]:=by rw [DI.out,AZ (by simpa using HB1.out),AZ gU];simp
      have hP2:vn<P.length:=by have:=jP.out;omega
      obtain ⟨bp,op,KJ,hlp,e20,e21⟩:=Row.pt (HOW.out.aiY) hP2;have hp2:P.getD vn AY=P[vn]:=by simp only [Fj,DK hP2,Gp]
      have xO:=AA (aic.out.trans hp2);clear hp2;generalize P[vn]=p2 at *
      first | subst KJ | (simp only [JD,Addr.mk.injEq,and_true] at KJ;obtain ⟨rfl,rfl⟩:=KJ)
      have k2:IntKind.i64.wrap ((vn:Int)+2-2)=vn:=by rw [show (vn:Int)+2-2=vn by omega];exact Ci _ AB
      have k3:IntKind.i64.wrap (vn:Int)=vn:=Ci _ AB;have k4:(vn:Int)<(vn:Int)+2:=by omega
      have k5:0<=(vn:Int):=by omega
      have k6:(vn:Int)+2-2=vn:=by omega
      go_upto_region 15 with fail;refine QK ((w.heap.size+1)) (wc) (.take 0 1 (.take 1 3 (.run 5 4 3 (.two 2 503 (.take 3 511 (.call 9 1023 (.call 10 2047 (.done)))) 9 1011 (.call 2 1015 (.take 3 1023 (.call 10 2047 (.done)))))))) fun Bv QR Ae Ah hS=>?_
      iterate 7 refine Aj ?_
      refine Oc (i:=2) (j:=9) (Ej Ae rfl) (Ej Ae rfl) (fun K hK=>?_) (fun K hK=>?_)
      ·have AQ:=AA hS;clear hS;refine FQ (FM rfl) ?_;go_simp;refine hK.out _ _ AQ.out (fun hS=>?_);clear hK K AQ
       try simp only [pu]
       refine Aj ?_;refine BP ?_;clear hS;intro K hK AQ;go_simp;refine hK.out _ _ AQ.out (fun hS=>?_);clear hK K AQ
       try simp only [pu]
       refine BP ?_;clear hS;intro K hK AQ;go_simp;refine (Lj.out (-a.id) p2 (w.heap.size+1) (w.heap.size+1) (g5+1+1) (g5+1) (cnt+1) (D0++[a.id]) (fun i=>if i=a.id then p1 else f i) v3 _ (oJ.out.keep (bD (bR wc))) DC AB abV aCn.out).mono ?_;rintro e w4 ⟨rfl,⟨v4,WY⟩,hb4,hk4⟩;have hS:Fb (w.heap.size+1) wc w4:=Below.trans AQ.out hb4;have jS:=AA WY;have jT:=AA (hk4 g5 _ _ (jQ.out.keep (bD (bR wc))) AB AB jR.out);clear hb4 hk4 WY;clear AQ;refine hK.out _ _ hS (fun _=>?_);clear hK K
       try simp only [pu]
       refine KW ?_;clear hS Ah Ae;intro hB;go_wp2;go_roundw
       case rel => exact ⟨k+1,_,v4,cnt+1+1,AB,BI,AB,by rw [show Df (List.take (k+1) p.AU) nd.id=D0++[a.id]++[-a.id] from HD1.out.trans hD];exact jS.out,(fun d hd=>by rw [show Df (List.take (k+1) p.AU) nd.id=D0++[a.id]++[-a.id] from HD1.out.trans hD] at hd;exact xM HF3.out xO.out d hd),Below.trans Sm.out (hB.mono AB),oK.out.below hB AB,jT.out⟩
       case measure => exact BK
      ·have AQ:=AA hS;clear hS;refine FQ (FM rfl) ?_;go_simp;refine hK.out _ _ AQ.out (fun hS=>?_);clear hK K AQ
       try simp only [pu]
       refine BP ?_;clear hS;intro K hK AQ;go_simp;refine hK.out _ _ AQ.out (fun hS=>?_);clear hK K AQ
       try simp only [pu]
       refine Aj ?_;refine BP ?_;clear hS;intro K hK AQ;go_simp;refine (Lj.out (-a.id) p2 (w.heap.size+1) (w.heap.size+1) (g5+1+1) (g5+1) (cnt+1) (D0++[a.id]) (fun i=>if i=a.id then p1 else f i) v3 _ (oJ.out.keep (bD (bR wc))) DC AB abV aCn.out).mono ?_;rintro e w4 ⟨rfl,⟨v4,WY⟩,hb4,hk4⟩;have hS:Fb (w.heap.size+1) wc w4:=Below.trans AQ.out hb4;have jS:=AA WY;have jT:=AA (hk4 g5 _ _ (jQ.out.keep (bD (bR wc))) AB AB jR.out);clear hb4 hk4 WY;clear AQ;refine hK.out _ _ hS (fun _=>?_);clear hK K
       try simp only [pu]
       refine KW ?_;clear hS Ah Ae;intro hB;go_wp2;go_roundw
       case rel => exact ⟨k+1,_,v4,cnt+1+1,AB,BI,AB,by rw [show Df (List.take (k+1) p.AU) nd.id=D0++[a.id]++[-a.id] from HD1.out.trans hD];exact jS.out,(fun d hd=>by rw [show Df (List.take (k+1) p.AU) nd.id=D0++[a.id]++[-a.id] from HD1.out.trans hD] at hd;exact xM HF3.out xO.out d hd),Below.trans Sm.out (hB.mono AB),oK.out.below hB AB,jT.out⟩
       case measure => exact BK
open Go.RowKit Go.Sort
def YI (l:List Int) (x:Int):Int:=match l.findIdx? (fun y=>y == x) with
 | none=>-1
 | some k=>k
theorem asD {l:List Int} {x:Int} {k:Nat} (hk:k<l.length) (hno:∀ j (hj:j<l.length),j<k->(l[j] == x)=false) (he:(l[k] == x)=true):l.findIdx? (fun y=>y == x)=some k:=by
 rw [List.findIdx?_eq_some_iff_getElem];exact ⟨hk,he,fun j hj=>by simpa using hno j AB hj⟩
theorem asE {l:List Int} {x:Int} (hno:∀ j (hj:j<l.length),(l[j] == x)=false):l.findIdx? (fun y=>y == x)=none:=by
 rw [List.findIdx?_eq_none_iff];intro y hy;obtain ⟨j,hj,rfl⟩:=Dp.1 hy;exact hno j hj
theorem aii (v:Value) (l:List Int) (x:Int) (w:World) (h:Ints w v l) :
  Calls Tryz.prog 78 #[v,.int .i64 x] w fun e w'=>e=.returned (.int .i64 (YI l x))/\AP w w':=by
 obtain ⟨A,c,rfl,hn,hc,hR⟩:=h;unfold maxLen at hc;obtain ⟨q,hq⟩:=BL (YI l x);rw [hq];have Hq:=AA hq;clear hq;go_enter Tryz.func78,Tryz.ntmps78;go_wp2_with fail;go_loopw [8] (fun i wr=>∃ k:Nat,k<=l.length/\i=.int .i64 k/\AP w wr/\∀ j (hj:j<l.length),j<k->(l[j] == x)=false) (fun i _=>l.length-(intOf i).toNat)
 case atStart => exact ⟨0,BZ _,rfl,bR w,fun j _ h=>by omega⟩
 case round =>
  obtain ⟨k,hk,rfl,hb,hno⟩:=hrel;have Hb:=AA hb;have Hno:=AA hno;clear hb hno;by_cases hlt:k<l.length
  ·obtain ⟨b,o,rfl,hlb,c0⟩:=(hR.mono Hb.out).int hlt;have HR:=AA hR;clear hR
   cases he:(l[k] == x)
   ·go_wp2;go_roundw
    case rel => exact ⟨k+1,AB,BI,Hb.out,all_succ (p:=fun y=>(y == x)=false) Hno.out hlt he⟩
    case measure => exact BK
   ·have hf:=AA (asD hlt Hno.out he);have he2:(x == l[k])=true:=by simpa using (beq_iff_eq.1 he).symm
    go_wp2;go_ret;exact ⟨DU (by rw [<- Hq.out];unfold YI;rw [hf.out]),Hb.out⟩
  ·have hf:=AA (asE (fun j hj=>Hno.out j hj AB));go_wp2;go_ret;exact ⟨DU (by rw [<- Hq.out];unfold YI;rw [hf.out]),Hb.out⟩
theorem asF (v:Value) (l:List Int) (d:Int) (w:World) (h:Ints w v l) (hl:l.length<=1000000) :
  Calls Tryz.prog 117 #[v,.int .i64 d] w fun e w'=>e=.returned (.int .i64 (precD l d))/\AP w w':=by
 have HI:=AA (aii v l d w h);obtain ⟨A,c,rfl,hn,hc,hR⟩:=h;unfold maxLen at hc;obtain ⟨q,hq⟩:=BL (precD l d);rw [hq];unfold YI at HI;unfold precD at hq;have HR:=AA hR;clear hR
 cases hi:l.findIdx? (fun y=>y == d) with
 | none =>
  rw [hi] at HI hq;simp only at HI hq;subst hq;clear hi;go_enter Tryz.func117,Tryz.ntmps117;go_wp2_with fail;refine HI.out.mono ?_;rintro e w1 ⟨rfl,hb1⟩;have B1:=AA hb1;clear hb1;go_wp2;go_ret;exact ⟨rfl,B1.out⟩
 | some k =>
  rw [hi] at HI hq;simp only at HI hq;have hk:k<l.length:=(List.findIdx?_eq_some_iff_getElem.1 hi).1;clear hi;have hm:(k+l.length-1) % l.length<l.length:=U7 _ AB;have hq2:l[(k+l.length-1) % l.length]=q:=by
   rw [<- hq];simp only [Fj,DK hm,Gp]
  have htm:Int.tmod ((k:Int)+(l.length:Int)-1) (l.length:Int)=((k+l.length-1) % l.length:Nat):=by
   rw [Int.tmod_eq_emod_of_nonneg AB,show (k:Int)+(l.length:Int)-1=((k+l.length-1:Nat):Int) by omega];exact (Int.natCast_emod _ _).symm
  clear hq;generalize hM:(k+l.length-1) % l.length=m at *;have Hq2:=AA hq2;clear hq2 hM;have h0:¬ (k:Int)<0:=by omega
  have g1:IntKind.i64.wrap ((k:Int)+(l.length:Int))=(k:Int)+(l.length:Int):=Ci _ AB;have g2:IntKind.i64.wrap ((k:Int)+(l.length:Int)-1)=(k:Int)+(l.length:Int)-1:=Ci _ AB;have g3:¬ (l.length:Int)=0:=by omega
  have g4:IntKind.i64.wrap (m:Int)=m:=Ci _ AB;have g5:(m:Int)<l.length:=by omega
  have g6:0<=(m:Int):=by omega
  have hne:l.length≠0:=by omega
  have hne':l≠[]:=by intro e;rw [e] at hne;exact hne rfl
  have Hne:=AA hne;clear hne;go_enter Tryz.func117,Tryz.ntmps117;go_wp2_with fail;refine HI.out.mono ?_;rintro e w1 ⟨rfl,hb1⟩;have B1:=AA hb1;clear hb1;obtain ⟨b,o,rfl,hlb,c0⟩:=(HR.out.mono B1.out).int hm;rw [Hq2.out] at c0;go_wp2;go_ret;exact ⟨rfl,B1.out⟩
theorem Valid.ady {p:Pl} (h:Valid p) (n:Int):(DF p n).length<=512:=by
 cases hf:JK p.nodes n with
 | none=>simp [DF,hf]
 | some nd =>
  have hm:nd∈p.nodes:=VG hf;have hid:nd.id=n:=by have:=List.find?_some hf;simpa using this
  subst hid;rw [(h.N8 hm).length_eq];have h1:=xK p.AU nd.id;have hl:=h.lim;unfold JX at hl;simp only [Rq,J3] at hl;omega
open Go.RowKit Go.Sort
def Py (l:List Int):List Int:=l.mergeSort fun x y=>decide (x<=y)
theorem adz (l:List Int):(Py l).Perm l:=List.mergeSort_perm _ _
theorem aij (l:List Int):(Py l).length=l.length:=(adz l).length_eq
theorem akD (l:List Int):(Py l).Pairwise (·<=·):=by
 have:=List.pairwise_mergeSort (le:=fun (x y:Int)=>decide (x<=y)) (fun a b c h1 h2=>by simp only [E8] at *;omega) (fun a b=>by simp only [L6,E8];omega) l
 exact this.imp (fun h=>by simpa using h)
theorem arY {l m:List Int} (hp:l.Perm m) (hs:m.Pairwise (· < ·)):Py l=m:=by
 refine iF (lt:=fun a b=>decide (a<b)) ((adz l).trans hp) ?_ ?_ (fun a _ b _ h1 h2=>by simp only [J3] at *;omega)
 · exact (akD l).imp (fun h=>by simpa using h)
 · exact hs.imp (fun h=>by simp only [J3];omega)
theorem ae0 (w:World) (n:Nat) (blk off:Nat) (d:Array Int) (os:Array Obj):(grow (putRow (Value.int .i64) (Sort.ahead w n) blk off d) os).heap=w.heap.modify blk (onCells (putCells (Value.int .i64) off d))++os:=rfl
theorem arZ (w:World) (n:Nat) (blk off:Nat) (d:Array Int) (os:Array Obj):w.grownBy (grow (putRow (Value.int .i64) (Sort.ahead w n) blk off d) os) (some blk):=by
 refine ⟨rfl,rfl,rfl,?_,fun i hi hne=>?_⟩
 · rw [ae0];simp
 ·have hne':blk≠i:=fun e=>hne Rw;rw [ae0,Array.getElem?_append_left lS,Array.getElem?_modify,AX hne']
theorem akE (base:Nat) (v:Value) (sl:List Int) (w:World) (hown:Own w base 3 1 D5 v sl) (hn:sl.length<=4294967296) :
  Calls Tryz.prog 118 #[v] w (aj2 w base v (Py sl)):=by
 rcases sl with _ | ⟨s0,rest⟩
 ·have hv:∃ p cap,v=.slice p 0 cap:=by
   rcases hown.2 with ⟨h,_⟩ | ⟨g,cap,cur,h,_⟩
   · exact ⟨_,_,h⟩
   · exact ⟨_,_,h⟩
  obtain ⟨p,cap,rfl⟩:=hv;refine Calls.mono (AnyM.slices_Sort_int_none Tryz.sortN p cap w) ?_;rintro e w' ⟨rfl,rfl⟩;exact ⟨rfl,by rw [show Py []=[] by simp [Py]];exact hown,World.grownBy.refl _ _⟩
 generalize hsl:s0::rest=sl at *;have hpos:0<sl.length:=by rw [<- hsl];simp
 obtain ⟨hlen,hown2⟩:=hown;rcases hown2 with ⟨_,h0⟩ | ⟨g,cap,cur,rfl,hg,hh,hnc,hcm,hcs,hx⟩
 · omega
 have hcur:∀ j,j<sl.length->cur[j]? = (sl[j]?).map (.int .i64 ·):=fun j hj=>by
  rw [<- aCi,<- hx,List.getElem?_take,AZ AB];simp
 have hH:Holds (Value.int .i64) w g 0 sl.toArray:=fun j hj=>by
  have hj':j<sl.length:=by simpa using hj
  refine ⟨?_,AO.frozen (t:=3) (cs:=cur) hh _⟩;rw [cell_of_row w g _ cur 3 (0,0) hh,QC,hcur j hj',getElem!_pos sl.toArray j hj,DK hj'];simp
 refine Calls.mono (AnyM.slices_Sort_int Tryz.sortN g 0 cap sl w hH (AO.lt hh) AB) ?_;rintro e w' ⟨rfl,n,os,rfl⟩;have hl':(Py sl).length=sl.length:=aij sl;refine ⟨rfl,?_,arZ w n g 0 _ os⟩;unfold Own;rw [hl'];refine ⟨by rw [aCj,hl'];omega,.inr ⟨g,cap,putCells (Value.int .i64) 0 (Py sl).toArray cur,rfl,hg,?_,hnc,hcm,tH,?_⟩⟩
 ·have hgl:g<w.heap.size:=AO.lt hh
  show (grow (putRow (Value.int .i64) (Sort.ahead w n) g 0 (Py sl).toArray) os).heap[g]? = _
  rw [ae0,Array.getElem?_append_left (by simpa using hgl),Array.getElem?_modify,AZ rfl,hh];rfl
 ·apply lK;intro j;rw [List.getElem?_take];by_cases hj:j<sl.length*1
  ·rw [AZ hj];have hjc:j<cur.size:=by rw [hcs];omega
   have hjd:j<(Py sl).length:=by rw [hl'];omega
   rw [aCi,DK hjd];have e1:(putCells (Value.int .i64) 0 (Py sl).toArray cur).toList[j]? = some (.int .i64 (Py sl).toArray[j]!):=by
    simp [putCells,hjc,hjd]
   rw [e1,getElem!_pos (Py sl).toArray j (by simpa using hjd)];simp
  · rw [AX hj,Y0 (by rw [aCj,hl'];omega)]
def Ib (x:List Int×SV):List Value:=[.slice x.2.a x.2.n x.2.c]
theorem XO (x:List Int×SV):(Ib x).length=1:=rfl
theorem YJ (x:List Int×SV):∀ u∈Ib x,u.oneCell'=true:=by simp [Ib,Value.oneCell']
theorem YK:Elem Tryz.prog 60 24 1 24:=Elem.Po (z:=.slice none 0 0) FC FC rfl AB
def TY (w:World) (B:Nat) (v:Value) (L:List (List Int×SV)):Prop :=
 Own w B 24 1 Ib v L/\∀ x∈L,Own w B 3 1 D5 (.slice x.2.a x.2.n x.2.c) x.1
theorem TY.keep {w w':World} {B:Nat} {v:Value} {L:List (List Int×SV)} (h:TY w B v L) (hb:AP w w'):TY w' B v L :=
 ⟨h.1.keep hb,fun x hx=>(h.2 x hx).keep hb⟩
def ae1 (w:World) (l:List (List Int)) (z:Int) (e:Ending) (w':World):Prop :=
 ∃ A c L,e=.returned (.tuple #[.slice A l.length c,.int .i64 z])/\AP w w'/\L.map (·.1)=l/\TY w' w.heap.size (.slice A l.length c) L
theorem xP {w:World} {gm n:Nat} {f:Int->Int} (h:Gg w gm n f) {g:Nat} {t:TypeId} {cs:Array Value} (hg:AO w g t cs):g≠gm:=by
 rintro rfl;obtain ⟨D,h1,-⟩:=h;obtain ⟨es,clock,h2,-⟩:=h1;unfold AO at hg;rw [hg] at h2
 cases h2
theorem xQ {w:World} {gm n:Nat} {f:Int->Int} (h:Gg w gm n f) {base:Nat} {e:TypeId} {size:Nat} {α:Type} {fe:α->List Value} {v:Value} {l:List α} (ho:Own w base e size fe v l):v.ownBlock≠some gm:=by
 rcases ho.2 with ⟨rfl,_⟩ | ⟨g,cap,cur,rfl,_,hh,_⟩
 · simp [Value.ownBlock]
 ·intro e';exact xP h (cs:=cur) (g:=g) hh sV
theorem Own.row_in {w:World} {base:Nat} {A:Option Addr} {n c:Nat} {l:List Int} (h:Own w base 3 1 D5 (.slice A n c) l):Row w A (l.flatMap D5):=by
 obtain ⟨A',c',he,_,_,hr⟩:=h.sl;injection he with e1 e2 e3;subst e1;exact hr
def LJ (p:Pl) (k:Nat):List Int:=(p.nodes.take k).flatMap fun n=>DF p n.id
def oL (p:Pl) (F:Int->Int) (L:List Int):Prop:=∀ e∈L,F (-e)=FP p (-e)
theorem akF (p:Pl) (k:Nat) (hk:k<p.nodes.length):LJ p (k+1)=LJ p k++DF p p.nodes[k].id:=by
 unfold LJ;rw [En hk,KO];simp
theorem akG {p:Pl} (h:Valid p) (k:Nat):(LJ p k).length<=512*k:=by
 induction k with
 | zero=>simp [LJ]
 | succ k ih =>
  by_cases hk:k<p.nodes.length
  ·rw [akF p k hk,EC];have:=h.ady p.nodes[k].id
   omega
  ·have:LJ p (k+1)=LJ p k:=by
    unfold LJ;rw [Hw AB,Hw AB]
   rw [this];omega
theorem aCo (p:Pl):LJ p p.nodes.length=p.nodes.flatMap fun n=>DF p n.id:=by
 unfold LJ;rw [H8]
theorem oL.snoc {p:Pl} {F:Int->Int} {L:List Int} (h:oL p F L) {d x:Int} (hx:FP p (-d)=x):oL p (fun i=>if i=-d then x else F i) (L++[d]):=by
 intro e he;by_cases hd:e=d
 · subst hd;simp [hx]
 ·have hne:-e≠-d:=by omega
  simp only [FZ,ED,hd,or_false] at he;simp only [hne,if_false];exact h e he
section
variable {p:Pl} (h:Valid p)
include h
theorem Valid.ae2 {n:Nd} (hn:n∈p.nodes) {d:Int} (hd:d∈DF p n.id):FP p (-d)=precD (DF p n.id) d/\d∈BU p:=by
 obtain ⟨h1,h2⟩:=h.iM ((h.N8 hn).subset hd);obtain ⟨n',hn',e,hm,hx⟩:=h.lY (WM h1);rw [Ob] at e hm hx;exact ⟨by rw [hx,e,h2],h1⟩
theorem Valid.Qo {d:Int} (hd:d∈BU p):-1073741824<=d/\d<=1073741824:=by
 obtain ⟨a,ha,e⟩:=Iy.1 hd;have:=h.Gh ha
 omega
theorem Valid.ara:Py (LJ p p.nodes.length)=BU p:=by
 rw [aCo];exact arY h.aBW h.aBV
theorem Valid.arb {F:Int->Int} (hF:oL p F (LJ p p.nodes.length)) {d:Int} (hd:d∈BU p):F d=FP p d:=by
 have h1:-d∈LJ p p.nodes.length:=by
  rw [aCo];exact h.aBW.symm.subset (WM hd)
 have:=hF _ h1
 rwa [Ob] at this
theorem Valid.akH:(BU p).length<=512:=by
 have hl:=h.lim;unfold JX at hl;simp only [Rq,J3] at hl;unfold BU;simp only [EC,Wp,Cm];omega
theorem Valid.bW:p.nodes.length<=256:=by
 have hl:=h.lim;unfold JX at hl;simp only [Rq,J3] at hl;omega
theorem Valid.akI (k:Nat):Om (FP p) (BU p) ((BU p).take k) (((BU p).take k).foldl (Ol (FP p) (BU p)) []):=by
 have:=adV (f:=FP p) (D:=BU p) (fun x hx=>(h.Qe hx).1) (fun x hx y hy=>h.Xg hx hy) ((BU p).take k) [] [] (Om.nil _ _) (fun x hx=>aAE hx) (by rw [QD];exact h.aBV.sublist (List.take_sublist _ _))
 rwa [QD] at this
end
theorem akJ (f:Int->Int) (D:List Int) (k:Nat) (hk:k<D.length):(D.take (k+1)).foldl (Ol f D) []=Ol f D ((D.take k).foldl (Ol f D) []) D[k]:=by
 rw [En hk,O9];rfl
def Nr (Q:List Int):List (Int×Int):=(List.range Q.length).map fun j=>(-(Q.getD ((j+1) % Q.length) 0),Q.getD j 0)
def Ns (p:Pl) (k:Nat):List (Int×Int):=(p.nodes.take k).flatMap fun n=>Nr (DF p n.id)
theorem oM (Q:List Int):(Nr Q).length=Q.length:=by simp [Nr]
theorem ard (p:Pl) (k:Nat) (hk:k<p.nodes.length):Ns p (k+1)=Ns p k++Nr (DF p p.nodes[k].id):=by
 unfold Ns;rw [En hk,KO];simp
theorem akK (p:Pl) (k:Nat):(Ns p k).length=(LJ p k).length:=by
 unfold Ns LJ;rw [List.length_flatMap,List.length_flatMap];congr 1;exact aay fun n _=>oM _
theorem arf (Q:List Int) (j:Nat) (hj:j<Q.length) (hm:(j+1) % Q.length<Q.length):(Nr Q).take (j+1)=(Nr Q).take j++[(-Q[(j+1) % Q.length],Q[j])]:=by
 have h:j<(Nr Q).length:=by rw [oM];exact hj
 rw [En h];congr 2;simp only [Nr,Gq,List.getElem_range,Fj,DK hm,DK hj,Gp]
theorem arh (Q:List Int):(Nr Q).take Q.length=Nr Q:=Hw (by rw [oM];exact DT _)
theorem ari {Q:List Int} {x:Int×Int} (h:x∈Nr Q):∃ j,∃ hj:j<Q.length,∃ hm:(j+1) % Q.length<Q.length,x=(-Q[(j+1) % Q.length],Q[j]):=by
 unfold Nr at h;obtain ⟨j,hj,rfl⟩:=EM.1 h;rw [F5] at hj;have hm:(j+1) % Q.length<Q.length:=U7 _ AB;exact ⟨j,hj,hm,by simp only [Fj,DK hm,DK hj,Gp]⟩
theorem arj {j N:Nat} (hj:j<N):j=((j+1) % N+N-1) % N:=by
 by_cases e:j+1=N
 ·subst e;rw [Nat.mod_self];have:(0+(j+1)-1) % (j+1)=j:=by rw [show 0+(j+1)-1=j by omega];exact Wq AB
  exact this.symm
 · rw [Wq (show j+1<N by omega),show j+1+N-1=j+N by omega,aAG,Wq hj]
section
variable {p:Pl} (h:Valid p)
include h
theorem Valid.ark {x:Int×Int} (hx:x∈Ns p p.nodes.length):x.1∈BU p/\x.2=FP p x.1:=by
 unfold Ns at hx;rw [H8] at hx;obtain ⟨n,hn,hx⟩:=GY.1 hx;obtain ⟨j,hj,hm,rfl⟩:=ari hx;have hnd:=h.dU hn;have h1:=h.ae2 hn (BH hm);refine ⟨WM h1.2,?_⟩
 show (DF p n.id)[j]=FP p (-(DF p n.id)[(j+1) % (DF p n.id).length])
 rw [h1.1,iL hnd hm];congr 1;exact arj hj
theorem Valid.atO {d:Int} (hd:d∈BU p):d∈(Ns p p.nodes.length).map (·.1):=by
 obtain ⟨n,hn,-,hm⟩:=h.adZ (WM hd);have hq:=(h.N8 hn).symm.subset hm;obtain ⟨i,hi,e⟩:=Dp.1 hq;rw [EM];have key:∃ j,j<(DF p n.id).length/\(j+1) % (DF p n.id).length=i:=by
  by_cases e0:i=0
  ·subst e0;exact ⟨(DF p n.id).length-1,AB,by rw [ab7 AB,Nat.mod_self]⟩
  · exact ⟨i-1,AB,by rw [ab7 AB,Wq hi]⟩
 obtain ⟨j,hj,hji⟩:=key;refine ⟨(-((DF p n.id).getD ((j+1) % (DF p n.id).length) 0),(DF p n.id).getD j 0),?_,?_⟩
 ·unfold Ns;rw [H8,GY];exact ⟨n,hn,EM.2 ⟨j,F5.2 hj,rfl⟩⟩
 ·show -((DF p n.id).getD ((j+1) % (DF p n.id).length) 0)=d
  rw [hji,Fj,DK hi,Gp,e];omega
theorem Valid.atP:(Ns p p.nodes.length).length=(BU p).length:=by
 rw [akK,aCo];exact h.aBW.length_eq
end
