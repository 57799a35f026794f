import Derived.Test.YtialfdomhoojiaaGreatJ11
import Derived.Shelf.SortM.Plain
import Derived.Shelf.SortM.SortNone
import Derived.Test.YtialfdomhoojiaaGreatJ07
import Derived.Test.YtialfdomhoojiaaGreatLaySortN
set_option linter.unusedSimpArgs false
set_option linter.unusedVariables false
namespace Go.Proofs.YtialfdomhoojiaaGreat
open Go.RowKit Go.Sort
theorem Yo {P:Program} {fn:Func} {p:Tmp} {ty t:TypeId} {R:Ending->World->Prop} {a:Act} {w:World} {g:Nat} {v:Value} (h:fn.results=#[.cell p ty])
  (hS:∀ w,(isAgg ty).run P w=.ok false w) (hp:a.tmps.getD p undef=.pointer (some ⟨g,0,none⟩)) (hd:a.defers=[]) (hb:ah w g t #[v]) (hR:R (.returned v) w):bodyPost P fn R .ret a w:=by
 refine bodyPost_ret ?_ hd hR;have hp':a.tmps[p]?.getD undef=.pointer (some ⟨g,0,none⟩):=by simpa using hp
 have hc:w.cell? ⟨g,0,none⟩=some v:=by rw [hb.cell];rfl
 simp only [results,h];simp [hp',asAddr,loadVar,Sem.run_bind,Sem.run_pure,Result.andThen,hS,hc]
theorem Yp:∀ w,(isAgg 24).run Tryz.prog w=.ok false w:=fun _=>by kernel_rfl
def afb (w:World) (l:List Int) (e:Ending) (w':World):Prop :=
 ∃ A c,e=.returned (.slice A l.length c)/\Below w.heap.size w w'/\Own w' w.heap.size 3 1 dX (.slice A l.length c) l
theorem Valid.Yq {p:Pl} (h:Valid p) {n d:Int} (hd:d∈eu p.au n):cZ d:=by
 obtain ⟨a,ha,e⟩:=Gp.1 hd;have:=h.oC ha
 rcases e with ⟨rfl,-⟩ | ⟨rfl,-⟩
 · exact nR (by omega) (by omega)
 · exact nR (by omega) (by omega)
theorem afc (l:List Ar) (n:Int) (k:Nat) (hk:k<l.length):eu (l.take (k+1)) n=eu (l.take k) n++((if l[k].fr=n then [l[k].id] else [])++(if l[k].dst=n then [-l[k].id] else [])):=by
 unfold eu;rw [List.take_succ_eq_append_getElem hk,List.flatMap_append];simp
theorem P6 (l:List Ar) (n:Int):(eu l n).length<=2*l.length:=by
 unfold eu
 induction l with
 | nil=>simp
 | cons a l ih =>
  rw [List.flatMap_cons,List.length_append,List.length_append,List.length_cons];have h1:(if a.fr=n then [a.id] else []).length<=1:=by split<;>simp
  have h2:(if a.dst=n then [-a.id] else []).length<=1:=by split<;>simp
  omega
theorem Own.afd {α:Type} {w w':World} {base:Nat} {e:TypeId} {size:Nat} {f:α->List Value} {v:Value} {l:List α} (h:Own w base e size f v l) (hk:∀ g t cs,base<=g->ah w g t cs->ah w' g t cs):Own w' base e size f v l:=by
 obtain ⟨h1,h2⟩:=h;refine ⟨h1,?_⟩;rcases h2 with h2 | ⟨g,cap,cur,hv,hg,hh,r⟩
 · exact .inl h2
 ·subst hv;exact .inr ⟨g,cap,cur,rfl,hg,hk g e cur hg hh,r⟩
theorem GZ {p:Pl} {D:List Int} {f:Int->Pt} (h:∀ d∈D,f d=fJ p d) {x:Int} {q:Pt} (hx:fJ p x=q):∀ d∈D++[x],(fun i=>if i=x then q else f i) d=fJ p d:=by
 intro d hd;by_cases e:d=x
 · subst e;simp [hx]
 ·simp only [List.mem_append,List.mem_singleton,e,or_false] at hd;simp [e,h d hd]
theorem Own.Yr {w:World} {base:Nat} {A:Option Addr} {n c:Nat} {l:List Pt} (h:Own w base 39 2 dG (.slice A n c) l):Row w A (l.flatMap dG):=by
 obtain ⟨A',c',he,_,_,hr⟩:=h.sl;injection he with e1 e2 e3;subst e1;exact hr
theorem BH.keep {w w':World} {B g4 g7 gm n:Nat} {dl:List Int} {f:Int->Pt} {v:Value} (h:BH w B g4 g7 gm n dl f v) (hb:Below w.heap.size w w'):BH w' B g4 g7 gm n dl f v :=
 ⟨h.x4.keep hb,h.own.keep hb,h.x7.keep hb,h.mp.keep hb,h.b4,h.bm⟩
set_option maxRecDepth 100000 in
set_option maxHeartbeats 8000000 in
theorem afe (v:Value) (p:Pl) (n:Int) (w:World) (h:dh w v p) (hv:Valid p) :
  Calls Tryz.prog 116 #[v,.int .i64 n] w (afb w (kH p n)):=by
 have P7:=Lib.hid (fun W (hW:Below w.heap.size w W)=>UG v p n W (h.mono hW));have aff:=Lib.hid (fun id W (hW:Below w.heap.size w W)=>DU v p id W (h.mono hW) hv.short);obtain ⟨_,_,_,al,rfl,hpa,⟨An,cn,rfl,-⟩,⟨⟨Aa,ca,rfl,hn1,hn2,hR⟩,GK⟩,⟨Af,cf,rfl,-⟩⟩:=h;unfold maxLen at hn2;have HR:=Lib.hid hR;have BD:=Lib.hid GK;have HV:=Lib.hid hv;have o8:=Lib.hid hpa;generalize hnn:p.nodes.length=nn at *;generalize p.faces.length=nf at *;obtain ⟨q,hq⟩:∃ q,kH p n=q:=⟨_,rfl⟩;rw [hq];have Hq:=Lib.hid hq;have hall:al.length<=256:=by
  have hl:=hv.lim;unfold lH at hl;simp only [Bool.or_eq_false_iff,decide_eq_false_iff_not] at hl;have h2:=hl.2;rw [hpa,List.length_map] at h2;omega
 clear hpa hR GK hv hq hnn;go_enter Tryz.func116,Tryz.ntmps116;go_wp2_with fail;refine (P7.out _ (bA (bA (bR w) _) _)).mono ?_;rintro e w1 ⟨rfl,hb1⟩;have X2:ah w1 w.heap.size 26 #[.slice An nn cn,.slice Aa al.length ca,.slice Af nf cf]:=((ah.made rfl _ _).alloc _).keep hb1;have X4:ah w1 (w.heap.size+1) 24 #[.slice none 0 0]:=(ah.made (by simp) _ _).keep hb1;have B1:=Lib.hid (bT (bA (bA (bR w) _) _) hb1);clear hb1;unfold FB Ja
 cases hfn:jh p.nodes n with
 | none =>
  have hf:q=[]:=by rw [<- Hq.out];unfold kH;rw [hfn]
  subst hf;clear hfn;simp only [Option.getD_none,Option.isSome_none];obtain ⟨aU,aV,dW⟩:=X4.fC;go_wp2_with fail;refine Yo (g:=w.heap.size+1) (v:=.slice none 0 0) rfl Yp rfl rfl ((ah.Ny X4).alloc _) ⟨none,0,rfl,?_,Own.nil _ _ _ _ _⟩;have Bw:=B1.out
  repeat (first | with_reducible exact bR _ | with_reducible assumption | with_reducible refine bA ?_ _ | with_reducible refine bD ?_ | with_reducible refine bN ?_ _ | ((with_reducible refine bS ?_ ?_ _);rotate_left;(simp;try omega)) | ((with_reducible refine bT ?_ ?_);rotate_left;with_reducible assumption) | with_reducible refine bT ?_ (by assumption))
 | some nd =>
  have hnd:nd∈p.nodes/\nd.id=n:=⟨List.mem_of_find?_eq_some hfn,by have:=List.find?_some hfn;simpa using this⟩;obtain ⟨hnm,rfl⟩:=hnd;have hAr:=HV.out.Xg hnm;rw [Hq.out] at hAr;have uw:=Lib.hid hAr;have sF:=Lib.hid hnm;clear hfn hAr hnm Hq;simp only [Option.getD_some,Option.isSome_some];obtain ⟨bF,bH,bI,bM,-,-,-⟩:=X2.aJ
  try clear aU
  try clear aV
  try clear dW
  obtain ⟨aU,aV,dW⟩:=X4.fC;have AU:=Lib.hid (iI.made (w1.alloc (.cells #[.int .i64 nd.id,.int .i64 nd.pt.x,.int .i64 nd.pt.y] 45)));have hmm:=@run_makeMap Tryz.prog;go_upto_region 5 with fail;obtain ⟨W5,hW⟩:∃ W:World,W=((w1.alloc (.cells #[.int .i64 nd.id,.int .i64 nd.pt.x,.int .i64 nd.pt.y] 45)).alloc (.map #[] 0)).alloc (.cells #[.map (some (w1.heap.size+1))] 189):=⟨_,rfl⟩;have hA:Below w1.heap.size w1 W5:=by rw [hW];exact bA (bA (bA (bR w1) _) _) _
  have bP:=Lib.hid (show ah W5 w1.heap.size 45 #[.int .i64 nd.id,.int .i64 nd.pt.x,.int .i64 nd.pt.y] by rw [hW];exact ((ah.made rfl _ _).alloc _).alloc _);have lK:=Lib.hid (show ah W5 (w1.heap.size+1+1) 189 #[.map (some (w1.heap.size+1))] by rw [hW];exact ah.made (by simp) _ _);have zy:=Lib.hid (show iI W5 (w1.heap.size+1) 0 (fun _=>z0) by
   rw [hW];have h1:=AU.out;rw [show (w1.alloc (.cells #[.int .i64 nd.id,.int .i64 nd.pt.x,.int .i64 nd.pt.y] 45)).heap.size=w1.heap.size+1 by simp] at h1;exact h1.keep (bA (bR _) _))
  have eF:=Lib.hid (X2.keep hA);have dJ:=Lib.hid (X4.keep hA);have B5:=Lib.hid (bT B1.out hA);have hz1:w.heap.size+2<=w1.heap.size:=by have:=X4.lt;omega
  rw [<- hW];clear hW hA X2 X4 bF bH bI bM aU aV dW AU hmm;obtain ⟨g5,hg5⟩:∃ g5,w1.heap.size=g5:=⟨_,rfl⟩;rw [hg5] at bP lK zy hz1 ⊢;clear hg5;have X2:=eF.out
  try clear bF
  try clear bH
  try clear bI
  try clear bM
  obtain ⟨bF,bH,bI,bM,-,-,-⟩:=X2.aJ;have Ew:=Lib.hid (@ae7);go_upto_block 0 with fail;go_wp2_with fail;go_loopw [26] (fun i wr=>∃ (k:Nat) (f:Int->Pt) (vl:Value) (cnt:Nat),k<=al.length/\i=.int .i64 k/\cnt<=2*k/\BH wr (w.heap.size+1) (w.heap.size+1) (g5+1+1) (g5+1) cnt (eu (p.au.take k) nd.id) f vl/\(∀ d∈eu (p.au.take k) nd.id,f d=fJ p d)/\Below w.heap.size w wr/\ah wr w.heap.size 26 #[.slice An nn cn,.slice Aa al.length ca,.slice Af nf cf]/\ah wr g5 45 #[.int .i64 nd.id,.int .i64 nd.pt.x,.int .i64 nd.pt.y]) (fun i _=>al.length-(intOf i).toNat)
  case atStart => exact ⟨0,fun _=>z0,.slice none 0 0,0,Nat.zero_le _,rfl,by omega,⟨dJ.out,Own.nil _ _ _ _ _,lK.out,zy.out,by omega,by omega⟩,(fun d h=>by simp [eu] at h),B5.out,eF.out,bP.out⟩
  case round =>
   obtain ⟨k,f,vl,cnt,hk,rfl,hcnt,Yt,hf,hb,X2,X5⟩:=hrel;have Hb:=Lib.hid hb;have sG:=Lib.hid Yt;have Hf:=Lib.hid hf;have eF:=Lib.hid X2;have bP:=Lib.hid X5;clear hb Yt hf
   try clear bF
   try clear bH
   try clear bI
   try clear bM
   obtain ⟨bF,bH,bI,bM,-,-,-⟩:=X2.aJ;have hzr:=Hb.out.size;have ajK:g5+1+1<wr.heap.size:=sG.out.x7.lt;by_cases hlt:k<al.length
   case neg =>
    have hkk:k=al.length:=by omega
    have ht:p.au.take k=p.au:=List.take_of_length_le (by rw [o8.out,List.length_map];omega);rw [ht] at sG Hf;have HF:=Hf;clear ht;subst hkk;obtain ⟨x4,own,x7,mp,b4,bm⟩:=sG.out;obtain ⟨A,c,rfl,-⟩:=Own.shape own;have hlen:=P6 p.au nd.id;rw [show p.au.length=al.length by rw [o8.out,List.length_map]] at hlen;have HS:=Lib.hid (ae3 (w.heap.size+1) _ (eu p.au nd.id) (ltD p nd.pt) 176 #[.pointer (some ⟨g5,0,none⟩),.pointer (some ⟨g5+1+1,0,none⟩)] wr own (HV.out.O4 sF.out) (by omega) (enters_of Tryz.func176 (by kernel_rfl) rfl)
     (fun W hW x hx y hy=>by
      have h:=afa nd x y g5 (g5+1+1) (g5+1) cnt f W (bP.out.grown hW (fun e=>Own.fD own bP.out (by decide) e.symm)) (x7.grown hW (fun e=>Own.fD own x7 (by decide) e.symm)) (mp.kept hW (fun e=>P5 mp own e.symm)) (HV.out.Yq hx) (HV.out.Yq hy);have he:zx (fun a b=>qE nd.pt (f a) (f b)) x y=zx (ltD p nd.pt) x y:=by
       unfold zx ltD;simp only [HF.out x hx,HF.out y hy]
      rw [he] at h;exact h))
    have Kz:=Own.fD own x4 (by decide);have hown:=Own.lt own;have P8:=Lib.hid hown;have HB4:=Lib.hid b4;have X4:=x4;have ajL:=Lib.hid x4;have jg:=Lib.hid Kz;have hpm:(sortB (ltD p nd.pt) (eu p.au nd.id)).length=(eu p.au nd.id).length:=((O1 (HV.out.O4 sF.out)).1).length_eq;rw [<- uw.out] at hpm HS;have sH:=Lib.hid hpm;clear x4 own x7 mp b4 bm Kz hown hpm hlen HF Hf sG;generalize eu p.au nd.id=D at *
    try clear aU
    try clear aV
    try clear dW
    obtain ⟨aU,aV,dW⟩:=X4.fC;go_wp2_with fail;refine HS.out.mono ?_;rintro e ws ⟨rfl,hos,hgs⟩;have Y4:=ah.grown X4 hgs (fun e=>jg.out e.symm);have Ey:=Lib.hid hos;have KA:=Lib.hid (show Below (w.heap.size+1) wr ws from Below.grown (Below.refl _ _) hgs (by omega) (fun g hg=>(P8.out g hg).1));clear hos hgs X4 aU aV dW X2 bF bH bI bM;have X4:=Y4;clear Y4
    try clear aU
    try clear aV
    try clear dW
    obtain ⟨aU,aV,dW⟩:=X4.fC;go_wp2_with fail;have ho:=Ey.out;rw [<- sH.out] at ho ⊢;refine Yo (g:=w.heap.size+1) (v:=.slice A q.length c) rfl Yp rfl rfl (ah.Ny X4) ⟨A,c,rfl,?_,(ho.far (p:=⟨w.heap.size+1,0,none⟩) (by rw [sH.out];exact jg.out) _).fM (by omega)⟩;exact (Below.trans Hb.out (KA.out.mono (by omega))).setCell (by show w.heap.size<=w.heap.size+1;omega) _
   obtain ⟨b,o,rfl,hlb,c0,c1,c2,c3,c4,c5⟩:=(HR.out.mono Hb.out).ar hlt;have ham:al[k].1∈p.au:=by rw [o8.out];exact List.mem_map_of_mem (List.getElem_mem hlt)
   have hst:eu (p.au.take (k+1)) nd.id=eu (p.au.take k) nd.id++((if al[k].1.fr=nd.id then [al[k].1.id] else [])++(if al[k].1.dst=nd.id then [-al[k].1.id] else [])):=by
    have h1:k<p.au.length:=by rw [o8.out,List.length_map];exact hlt
    have h2:=afc p.au nd.id k h1;have h3:p.au[k]=al[k].1:=by simp only [o8.out,List.getElem_map]
    rw [h3] at h2;exact h2
   obtain ⟨Av,cv,hv,-⟩:=BD.out k hlt;rw [hv] at c3;have hpo:=HV.out.Xo (HV.out.OV ham);have hid:=HV.out.oC ham;rw [show mO al[k].1.id=al[k].1.id by unfold mO;rw [if_neg (by omega)]] at hpo;have jR:=Lib.hid (aff.out al[k].1.id);rw [hpo] at jR;unfold Jo at jR;simp only [Option.getD_some,Option.isSome_some,if_true] at jR;have Yu:=HV.out.WZ ham;have Yv:=HV.out.Xa ham;have hpl:=jQ p al[k].1;have hvl:=HV.out.Em ham;have hlen:=P6 (p.au.take k) nd.id;have hlen2:(p.au.take k).length<=k:=List.length_take_le _ _;have iG:=Lib.hid hst;have afg:=Lib.hid Yu;have Yw:=Lib.hid Yv;have HLen:=Lib.hid (show (eu (p.au.take k) nd.id).length<=512 by omega);clear hst Yu Yv hpo hv ham hlen hlen2;obtain ⟨D1,hD1⟩:∃ D1,eu (p.au.take (k+1)) nd.id=D1:=⟨_,rfl⟩;rw [hD1] at iG;have HD1:=Lib.hid hD1;clear hD1;generalize eu (p.au.take k) nd.id=D0 at *;generalize hP:aK p al[k].1=P at *;generalize al[k].1.via.length=vn at *;generalize al[k].1=a at *;have Yx:=Lib.hid (show cZ a.id from nR (by omega) (by omega));have KC:=Lib.hid (show cZ (-a.id) from nR (by omega) (by omega));have hneg:IntKind.i64.wrap (-a.id)=-a.id:=IntWalk.i64_in _ (by omega);clear hP
   cases hb1:(a.fr == nd.id)
   case false =>
    have hn1:(a.fr != nd.id)=true:=by rw [bne,hb1];rfl
    cases hb2:(a.dst == nd.id)
    case false =>
     have hn2:(a.dst != nd.id)=true:=by rw [bne,hb2];rfl
     have hD:D1=D0:=by rw [iG.out,if_neg (by simpa using hb1),if_neg (by simpa using hb2)];simp
     go_wp2_with fail;go_roundw
     case rel => exact ⟨k+1,f,vl,cnt,by omega,by go_num,by omega,by rw [show eu (List.take (k+1) p.au) nd.id=D0 from HD1.out.trans hD];exact sG.out.keep (bA (bR wr) _),by rw [show eu (List.take (k+1) p.au) nd.id=D0 from HD1.out.trans hD];exact Hf.out,bA Hb.out _,eF.out.alloc _,bP.out.alloc _⟩
     case measure => simp [intOf];omega
    case true =>
     have hn2:(a.dst != nd.id)=false:=by rw [bne,hb2];rfl
     have lS:=Lib.hid hpl;clear hpl;go_wp2_with fail;refine (jR.out _ (bA Hb.out _)).mono ?_;rintro e w2 ⟨A2,c2',rfl,hb2,ho2⟩;have HW2:=Lib.hid (show Below wr.heap.size wr w2 from bT (bA (bR wr) _) hb2);have iT:=Lib.hid ho2;have hz2:=hb2.size;simp only [World.size_alloc] at hz2;obtain ⟨Aq,cq,he,hq1,hq2,Bj⟩:=ho2.sl;injection he with e1 e2 e3;subst e1 e3;clear e2;unfold maxLen at hq2;have ou:=Lib.hid (show ah w2 wr.heap.size 50 #[.int .i64 a.id,.int .i64 a.fr,.int .i64 a.dst,.slice Av vn cv,.int .i64 a.left,.int .i64 a.right] from (ah.made rfl _ _).keep hb2);have dZ:=ou.out;rw [lS.out] at hq1 ⊢;clear hb2 ho2 jR bF bH bI bM X2 c0 c1 c2 c3 c4 c5 hlb;have hD:D1=D0++[-a.id]:=by rw [iG.out,if_neg (by simpa using hb1),if_pos (by simpa using hb2)];simp
     have HOW:=iT;have Ez:=Lib.hid (sG.out.keep HW2.out);have EC:=Lib.hid (eF.out.keep HW2.out);have BI:=Lib.hid (bP.out.keep HW2.out);have oV:=Lib.hid (show Below w.heap.size w w2 from bT Hb.out HW2.out);have BJ:=Lib.hid (Own.fD sG.out.own bP.out (by decide));clear Bj;obtain ⟨jm,jo,jq,yD,Az,AB,AO,-,-,-,-,-,-⟩:=dZ.eY;have hP2:vn<P.length:=by have:=lS.out;omega
     obtain ⟨bp,op,o9,hlp,e20,e21⟩:=Row.pt (HOW.out.Yr) hP2;have hp2:P.getD vn aQ=P[vn]:=by simp only [List.getD_eq_getElem?_getD,List.getElem?_eq_getElem hP2,Option.getD_some]
     have G5:=Lib.hid (Yw.out.trans hp2);clear hp2;generalize P[vn]=p2 at *
     first | subst o9 | (simp only [Option.some.injEq,Addr.mk.injEq,and_true] at o9;obtain ⟨rfl,rfl⟩:=o9)
     have k2:IntKind.i64.wrap ((vn:Int)+2-2)=vn:=by rw [show (vn:Int)+2-2=vn by omega];exact IntWalk.i64_in _ (by omega)
     have k3:IntKind.i64.wrap (vn:Int)=vn:=IntWalk.i64_in _ (by omega);have k4:(vn:Int)<(vn:Int)+2:=by omega
     have k5:0<=(vn:Int):=by omega
     have k6:(vn:Int)+2-2=vn:=by omega
     go_upto_region 15 with fail;refine dN (fA ((w.heap.size+1)) w2) (.take 0 1 (.take 1 3 (.run 5 4 3 (.two 2 503 (.take 3 511 (.call 9 1023 (.call 10 2047 (.done)))) 9 1011 (.call 2 1015 (.take 3 1023 (.call 10 2047 (.done)))))))) (by kernel_rfl) (Below.drew (Below.refl _ _)) (by kernel_rfl) (by kernel_rfl) (Nat.le_of_ble_eq_true (by kernel_rfl)) ?_;intro dO QR aj aA hS
     iterate 7
      apply qh;exact aj;exact rfl;exact hS;exact rfl
      · intro _ hqc;go_simp;try rfl
      try simp only [pu]
     refine wB (i:=2) (j:=9) (aB aj rfl) (aB aj rfl) (fun K hK=>?_) (fun K hK=>?_)
     ·have ak:=Lib.hid hS;clear hS;refine aG (aN rfl) ?_;go_simp;refine hK.out _ _ ak.out (fun hS=>?_);clear hK K ak
      try simp only [pu]
      apply qh;exact aj;exact rfl;exact hS;exact rfl
      · intro _ hqc;go_simp;try rfl
      try simp only [pu]
      refine aS (i:=9) (aB aj rfl) (fun K hK=>?_);have ak:=Lib.hid hS;clear hS;refine aG (aN rfl) ?_;go_simp;refine hK.out _ _ ak.out (fun hS=>?_);clear hK K ak
      try simp only [pu]
      refine aS (i:=10) (aB aj rfl) (fun K hK=>?_);have ak:=Lib.hid hS;clear hS;refine aG (aN rfl) ?_;go_simp;refine (Ew.out (-a.id) p2 (w.heap.size+1) (w.heap.size+1) (g5+1+1) (g5+1) (cnt) (D0) (f) vl _ (Ez.out.keep (bD (bR w2))) (by simp;omega) (by omega) (by have:=HLen.out;(try simp only [List.length_append,List.length_singleton]);omega) KC.out).mono ?_;rintro e w4 ⟨rfl,⟨v4,uG⟩,hb4,hk4⟩;have hS:fA (w.heap.size+1) w2 w4:=Below.trans ak.out hb4;have BK:=Lib.hid uG;have BL:=Lib.hid (hk4 g5 _ _ (BI.out.keep (bD (bR w2))) (by omega) (by omega) BJ.out);clear hb4 hk4 uG;clear ak;refine hK.out _ _ hS (fun _=>?_);clear hK K
      try simp only [pu]
      refine dF ?_;refine aA.down _ _ ?_;have hB:Below ((w.heap.size+1)) w2 _:=hS;clear hS aA aj;go_wp2_with fail;go_roundw
      case rel => exact ⟨k+1,_,v4,cnt+1,by omega,by go_num,by omega,by rw [show eu (List.take (k+1) p.au) nd.id=D0++[-a.id] from HD1.out.trans hD];exact BK.out,(fun d hd=>by rw [show eu (List.take (k+1) p.au) nd.id=D0++[-a.id] from HD1.out.trans hD] at hd;exact GZ Hf.out G5.out d hd),Below.trans oV.out (hB.mono (by omega)),EC.out.below hB (by omega),BL.out⟩
      case measure => simp [intOf];omega
     ·have ak:=Lib.hid hS;clear hS;refine aG (aN rfl) ?_;go_simp;refine hK.out _ _ ak.out (fun hS=>?_);clear hK K ak
      try simp only [pu]
      refine aS (i:=2) (aB aj rfl) (fun K hK=>?_);have ak:=Lib.hid hS;clear hS;refine aG (aN rfl) ?_;go_simp;refine hK.out _ _ ak.out (fun hS=>?_);clear hK K ak
      try simp only [pu]
      apply qh;exact aj;exact rfl;exact hS;exact rfl
      · intro _ hqc;go_simp;try rfl
      try simp only [pu]
      refine aS (i:=10) (aB aj rfl) (fun K hK=>?_);have ak:=Lib.hid hS;clear hS;refine aG (aN rfl) ?_;go_simp;refine (Ew.out (-a.id) p2 (w.heap.size+1) (w.heap.size+1) (g5+1+1) (g5+1) (cnt) (D0) (f) vl _ (Ez.out.keep (bD (bR w2))) (by simp;omega) (by omega) (by have:=HLen.out;(try simp only [List.length_append,List.length_singleton]);omega) KC.out).mono ?_;rintro e w4 ⟨rfl,⟨v4,uG⟩,hb4,hk4⟩;have hS:fA (w.heap.size+1) w2 w4:=Below.trans ak.out hb4;have BK:=Lib.hid uG;have BL:=Lib.hid (hk4 g5 _ _ (BI.out.keep (bD (bR w2))) (by omega) (by omega) BJ.out);clear hb4 hk4 uG;clear ak;refine hK.out _ _ hS (fun _=>?_);clear hK K
      try simp only [pu]
      refine dF ?_;refine aA.down _ _ ?_;have hB:Below ((w.heap.size+1)) w2 _:=hS;clear hS aA aj;go_wp2_with fail;go_roundw
      case rel => exact ⟨k+1,_,v4,cnt+1,by omega,by go_num,by omega,by rw [show eu (List.take (k+1) p.au) nd.id=D0++[-a.id] from HD1.out.trans hD];exact BK.out,(fun d hd=>by rw [show eu (List.take (k+1) p.au) nd.id=D0++[-a.id] from HD1.out.trans hD] at hd;exact GZ Hf.out G5.out d hd),Below.trans oV.out (hB.mono (by omega)),EC.out.below hB (by omega),BL.out⟩
      case measure => simp [intOf];omega
   case true =>
    have hn1:(a.fr != nd.id)=false:=by rw [bne,hb1];rfl
    have HB1:=Lib.hid hb1;clear hb1;have lS:=Lib.hid hpl;clear hpl;go_wp2_with fail;refine (jR.out _ (bA Hb.out _)).mono ?_;rintro e w2 ⟨A2,c2',rfl,hb2,ho2⟩;have HW2:=Lib.hid (show Below wr.heap.size wr w2 from bT (bA (bR wr) _) hb2);have iT:=Lib.hid ho2;have hz2:=hb2.size;simp only [World.size_alloc] at hz2;obtain ⟨Aq,cq,he,hq1,hq2,Bj⟩:=ho2.sl;injection he with e1 e2 e3;subst e1 e3;clear e2;unfold maxLen at hq2;have ou:=Lib.hid (show ah w2 wr.heap.size 50 #[.int .i64 a.id,.int .i64 a.fr,.int .i64 a.dst,.slice Av vn cv,.int .i64 a.left,.int .i64 a.right] from (ah.made rfl _ _).keep hb2);have dZ:=ou.out;rw [lS.out] at hq1 ⊢;clear hb2 ho2 jR bF bH bI bM X2 c0 c1 c2 c3 c4 c5 hlb;have hP1:1<P.length:=by have:=lS.out;omega
    obtain ⟨bp,op,o9,hlp,e10,e11⟩:=Row.pt (Bj) hP1;have hp1:P.getD 1 aQ=P[1]:=by simp only [List.getD_eq_getElem?_getD,List.getElem?_eq_getElem hP1,Option.getD_some]
    have afh:=Lib.hid (afg.out.trans hp1);clear hp1;generalize P[1]=p1 at *;subst o9;clear Bj;simp only [Nat.one_mul] at e10 e11;have k1:(1:Int)<(vn:Int)+2:=by omega
    try clear jm
    try clear jo
    try clear jq
    try clear yD
    try clear Az
    try clear AB
    try clear AO
    obtain ⟨jm,jo,jq,yD,Az,AB,AO,-,-,-,-,-,-⟩:=dZ.eY;go_upto_if 52 with fail;go_cut [] (fun w3=>∃ v3,BH w3 (w.heap.size+1) (w.heap.size+1) (g5+1+1) (g5+1) (cnt+1) (D0++[a.id]) (fun i=>if i=a.id then p1 else f i) v3/\Below (w.heap.size+1) w2 w3/\(∀ g t cs,ah w2 g t cs->g≠w.heap.size+1->g≠g5+1->vl.ownBlock≠some g->ah w3 g t cs))
    case first =>
     have hb1:=HB1.out;go_upto_region 13 with fail;refine dN (fA ((w.heap.size+1)) w2) (.take 0 1 (.take 1 3 (.take 3 11 (.take 4 27 (.two 2 31 (.call 5 63 (.call 6 127 (.done))) 5 59 (.call 2 63 (.call 6 127 (.done)))))))) (by kernel_rfl) (Below.drew (Below.refl _ _)) (by kernel_rfl) (by kernel_rfl) (Nat.le_of_ble_eq_true (by kernel_rfl)) ?_;intro dO QR aj aA hS
     iterate 4
      apply qh;exact aj;exact rfl;exact hS;exact rfl
      · intro _ hqc;go_simp;try rfl
      try simp only [pu]
     refine wB (i:=2) (j:=5) (aB aj rfl) (aB aj rfl) (fun K hK=>?_) (fun K hK=>?_)
     ·have ak:=Lib.hid hS;clear hS;refine aG (aN rfl) ?_;go_simp;refine hK.out _ _ ak.out (fun hS=>?_);clear hK K ak
      try simp only [pu]
      refine aS (i:=5) (aB aj rfl) (fun K hK=>?_);have ak:=Lib.hid hS;clear hS;refine aG (aN rfl) ?_;go_simp;refine hK.out _ _ ak.out (fun hS=>?_);clear hK K ak
      try simp only [pu]
      refine aS (i:=6) (aB aj rfl) (fun K hK=>?_);have ak:=Lib.hid hS;clear hS;refine aG (aN rfl) ?_;go_simp;refine (Ew.out a.id p1 (w.heap.size+1) (w.heap.size+1) (g5+1+1) (g5+1) cnt D0 f vl _ (sG.out.keep (bD HW2.out)) (by simp;omega) (by omega) (by have:=HLen.out;omega) Yx.out).mono ?_;rintro e w3 ⟨rfl,⟨v3,xg⟩,hb3,hk3⟩;have hS:fA (w.heap.size+1) w2 w3:=Below.trans ak.out hb3;have P9:=Lib.hid xg;have Qa:=Lib.hid (show ∀ g t cs,ah w2 g t cs->g≠w.heap.size+1->g≠g5+1->vl.ownBlock≠some g->ah w3 g t cs from fun g t cs h=>hk3 g t cs (h.keep (bD (bR w2))));clear hb3 hk3 xg;clear ak;refine hK.out _ _ hS (fun _=>?_);clear hK K
      try simp only [pu]
      refine dF ?_;refine aA.down _ _ ?_;have hB:Below ((w.heap.size+1)) w2 _:=hS;clear hS aA aj;go_wp2_with fail;go_meet
      case rel => exact ⟨v3,P9.out,hB,Qa.out⟩
     ·have ak:=Lib.hid hS;clear hS;refine aG (aN rfl) ?_;go_simp;refine hK.out _ _ ak.out (fun hS=>?_);clear hK K ak
      try simp only [pu]
      refine aS (i:=2) (aB aj rfl) (fun K hK=>?_);have ak:=Lib.hid hS;clear hS;refine aG (aN rfl) ?_;go_simp;refine hK.out _ _ ak.out (fun hS=>?_);clear hK K ak
      try simp only [pu]
      refine aS (i:=6) (aB aj rfl) (fun K hK=>?_);have ak:=Lib.hid hS;clear hS;refine aG (aN rfl) ?_;go_simp;refine (Ew.out a.id p1 (w.heap.size+1) (w.heap.size+1) (g5+1+1) (g5+1) cnt D0 f vl _ (sG.out.keep (bD HW2.out)) (by simp;omega) (by omega) (by have:=HLen.out;omega) Yx.out).mono ?_;rintro e w3 ⟨rfl,⟨v3,xg⟩,hb3,hk3⟩;have hS:fA (w.heap.size+1) w2 w3:=Below.trans ak.out hb3;have P9:=Lib.hid xg;have Qa:=Lib.hid (show ∀ g t cs,ah w2 g t cs->g≠w.heap.size+1->g≠g5+1->vl.ownBlock≠some g->ah w3 g t cs from fun g t cs h=>hk3 g t cs (h.keep (bD (bR w2))));clear hb3 hk3 xg;clear ak;refine hK.out _ _ hS (fun _=>?_);clear hK K
      try simp only [pu]
      refine dF ?_;refine aA.down _ _ ?_;have hB:Below ((w.heap.size+1)) w2 _:=hS;clear hS aA aj;go_wp2_with fail;go_meet
      case rel => exact ⟨v3,P9.out,hB,Qa.out⟩
    case rest =>
     obtain ⟨v3,xg,hB3,hk3⟩:=hcut;have oV:=Lib.hid (show RowKit.Below w.heap.size w wc from Below.trans (bT Hb.out HW2.out) (hB3.mono (by omega)));have EC:=Lib.hid ((eF.out.keep HW2.out).below hB3 (by omega));have BI:=Lib.hid (hk3 g5 _ _ (bP.out.keep HW2.out) (by omega) (by omega) (Own.fD sG.out.own bP.out (by decide)));have Yy:=hk3 wr.heap.size _ _ ou.out (by omega) (by omega) (fun e=>by have:=(sG.out.own.lt _ e).2;omega);have HOW:=Lib.hid (iT.out.afd (fun g t cs hg hx=>hk3 g t cs hx (by simp only [World.size_alloc] at hg;omega) (by simp only [World.size_alloc] at hg;omega) (fun e=>by have:=(sG.out.own.lt _ e).2;simp only [World.size_alloc] at hg;omega)));have Ez:=Lib.hid xg;have BJ:=Lib.hid (Own.fD xg.own BI.out (by decide));have hf3:=GZ Hf.out afh.out;have HF3:=Lib.hid hf3;have hz3:=hB3.size;clear xg hB3 hk3 hf3 dZ jm jo jq yD Az AB AO e10 e11;have dZ:=Yy;clear Yy
     try clear jm
     try clear jo
     try clear jq
     try clear yD
     try clear Az
     try clear AB
     try clear AO
     obtain ⟨jm,jo,jq,yD,Az,AB,AO,-,-,-,-,-,-⟩:=dZ.eY
     cases hb2:(a.dst == nd.id)
     case false =>
      have hD:D1=D0++[a.id]:=by rw [iG.out,if_pos (by simpa using HB1.out),if_neg (by simpa using hb2)];simp
      go_wp2_with fail;go_roundw
      case rel => exact ⟨k+1,_,v3,cnt+1,by omega,by go_num,by omega,by rw [show eu (List.take (k+1) p.au) nd.id=D0++[a.id] from HD1.out.trans hD];exact Ez.out,by rw [show eu (List.take (k+1) p.au) nd.id=D0++[a.id] from HD1.out.trans hD];exact HF3.out,oV.out,EC.out,BI.out⟩
      case measure => simp [intOf];omega
     case true =>
      have hD:D1=D0++[a.id]++[-a.id]:=by rw [iG.out,if_pos (by simpa using HB1.out),if_pos (by simpa using hb2)];simp
      have hP2:vn<P.length:=by have:=lS.out;omega
      obtain ⟨bp,op,o9,hlp,e20,e21⟩:=Row.pt (HOW.out.Yr) hP2;have hp2:P.getD vn aQ=P[vn]:=by simp only [List.getD_eq_getElem?_getD,List.getElem?_eq_getElem hP2,Option.getD_some]
      have G5:=Lib.hid (Yw.out.trans hp2);clear hp2;generalize P[vn]=p2 at *
      first | subst o9 | (simp only [Option.some.injEq,Addr.mk.injEq,and_true] at o9;obtain ⟨rfl,rfl⟩:=o9)
      have k2:IntKind.i64.wrap ((vn:Int)+2-2)=vn:=by rw [show (vn:Int)+2-2=vn by omega];exact IntWalk.i64_in _ (by omega)
      have k3:IntKind.i64.wrap (vn:Int)=vn:=IntWalk.i64_in _ (by omega);have k4:(vn:Int)<(vn:Int)+2:=by omega
      have k5:0<=(vn:Int):=by omega
      have k6:(vn:Int)+2-2=vn:=by omega
      go_upto_region 15 with fail;refine dN (fA ((w.heap.size+1)) wc) (.take 0 1 (.take 1 3 (.run 5 4 3 (.two 2 503 (.take 3 511 (.call 9 1023 (.call 10 2047 (.done)))) 9 1011 (.call 2 1015 (.take 3 1023 (.call 10 2047 (.done)))))))) (by kernel_rfl) (Below.drew (Below.refl _ _)) (by kernel_rfl) (by kernel_rfl) (Nat.le_of_ble_eq_true (by kernel_rfl)) ?_;intro dO QR aj aA hS
      iterate 7
       apply qh;exact aj;exact rfl;exact hS;exact rfl
       · intro _ hqc;go_simp;try rfl
       try simp only [pu]
      refine wB (i:=2) (j:=9) (aB aj rfl) (aB aj rfl) (fun K hK=>?_) (fun K hK=>?_)
      ·have ak:=Lib.hid hS;clear hS;refine aG (aN rfl) ?_;go_simp;refine hK.out _ _ ak.out (fun hS=>?_);clear hK K ak
       try simp only [pu]
       apply qh;exact aj;exact rfl;exact hS;exact rfl
       · intro _ hqc;go_simp;try rfl
       try simp only [pu]
       refine aS (i:=9) (aB aj rfl) (fun K hK=>?_);have ak:=Lib.hid hS;clear hS;refine aG (aN rfl) ?_;go_simp;refine hK.out _ _ ak.out (fun hS=>?_);clear hK K ak
       try simp only [pu]
       refine aS (i:=10) (aB aj rfl) (fun K hK=>?_);have ak:=Lib.hid hS;clear hS;refine aG (aN rfl) ?_;go_simp;refine (Ew.out (-a.id) p2 (w.heap.size+1) (w.heap.size+1) (g5+1+1) (g5+1) (cnt+1) (D0++[a.id]) (fun i=>if i=a.id then p1 else f i) v3 _ (Ez.out.keep (bD (bR wc))) (by simp;omega) (by omega) (by have:=HLen.out;(try simp only [List.length_append,List.length_singleton]);omega) KC.out).mono ?_;rintro e w4 ⟨rfl,⟨v4,uG⟩,hb4,hk4⟩;have hS:fA (w.heap.size+1) wc w4:=Below.trans ak.out hb4;have BK:=Lib.hid uG;have BL:=Lib.hid (hk4 g5 _ _ (BI.out.keep (bD (bR wc))) (by omega) (by omega) BJ.out);clear hb4 hk4 uG;clear ak;refine hK.out _ _ hS (fun _=>?_);clear hK K
       try simp only [pu]
       refine dF ?_;refine aA.down _ _ ?_;have hB:Below ((w.heap.size+1)) wc _:=hS;clear hS aA aj;go_wp2_with fail;go_roundw
       case rel => exact ⟨k+1,_,v4,cnt+1+1,by omega,by go_num,by omega,by rw [show eu (List.take (k+1) p.au) nd.id=D0++[a.id]++[-a.id] from HD1.out.trans hD];exact BK.out,(fun d hd=>by rw [show eu (List.take (k+1) p.au) nd.id=D0++[a.id]++[-a.id] from HD1.out.trans hD] at hd;exact GZ HF3.out G5.out d hd),Below.trans oV.out (hB.mono (by omega)),EC.out.below hB (by omega),BL.out⟩
       case measure => simp [intOf];omega
      ·have ak:=Lib.hid hS;clear hS;refine aG (aN rfl) ?_;go_simp;refine hK.out _ _ ak.out (fun hS=>?_);clear hK K ak
       try simp only [pu]
       refine aS (i:=2) (aB aj rfl) (fun K hK=>?_);have ak:=Lib.hid hS;clear hS;refine aG (aN rfl) ?_;go_simp;refine hK.out _ _ ak.out (fun hS=>?_);clear hK K ak
       try simp only [pu]
       apply qh;exact aj;exact rfl;exact hS;exact rfl
       · intro _ hqc;go_simp;try rfl
       try simp only [pu]
       refine aS (i:=10) (aB aj rfl) (fun K hK=>?_);have ak:=Lib.hid hS;clear hS;refine aG (aN rfl) ?_;go_simp;refine (Ew.out (-a.id) p2 (w.heap.size+1) (w.heap.size+1) (g5+1+1) (g5+1) (cnt+1) (D0++[a.id]) (fun i=>if i=a.id then p1 else f i) v3 _ (Ez.out.keep (bD (bR wc))) (by simp;omega) (by omega) (by have:=HLen.out;(try simp only [List.length_append,List.length_singleton]);omega) KC.out).mono ?_;rintro e w4 ⟨rfl,⟨v4,uG⟩,hb4,hk4⟩;have hS:fA (w.heap.size+1) wc w4:=Below.trans ak.out hb4;have BK:=Lib.hid uG;have BL:=Lib.hid (hk4 g5 _ _ (BI.out.keep (bD (bR wc))) (by omega) (by omega) BJ.out);clear hb4 hk4 uG;clear ak;refine hK.out _ _ hS (fun _=>?_);clear hK K
       try simp only [pu]
       refine dF ?_;refine aA.down _ _ ?_;have hB:Below ((w.heap.size+1)) wc _:=hS;clear hS aA aj;go_wp2_with fail;go_roundw
       case rel => exact ⟨k+1,_,v4,cnt+1+1,by omega,by go_num,by omega,by rw [show eu (List.take (k+1) p.au) nd.id=D0++[a.id]++[-a.id] from HD1.out.trans hD];exact BK.out,(fun d hd=>by rw [show eu (List.take (k+1) p.au) nd.id=D0++[a.id]++[-a.id] from HD1.out.trans hD] at hd;exact GZ HF3.out G5.out d hd),Below.trans oV.out (hB.mono (by omega)),EC.out.below hB (by omega),BL.out⟩
       case measure => simp [intOf];omega
open Go.RowKit Go.Sort
def G6 (l:List Int) (x:Int):Int:=match l.findIdx? (fun y=>y == x) with
 | none=>-1
 | some k=>k
theorem afi {l:List Int} {x:Int} {k:Nat} (hk:k<l.length) (hno:∀ j (hj:j<l.length),j<k->(l[j] == x)=false) (he:(l[k] == x)=true):l.findIdx? (fun y=>y == x)=some k:=by
 rw [List.findIdx?_eq_some_iff_getElem];exact ⟨hk,he,fun j hj=>by simpa using hno j (by omega) hj⟩
theorem afj {l:List Int} {x:Int} (hno:∀ j (hj:j<l.length),(l[j] == x)=false):l.findIdx? (fun y=>y == x)=none:=by
 rw [List.findIdx?_eq_none_iff];intro y hy;obtain ⟨j,hj,rfl⟩:=List.mem_iff_getElem.1 hy;exact hno j hj
set_option maxHeartbeats 400000 in
theorem afk (v:Value) (l:List Int) (x:Int) (w:World) (h:Ints w v l) :
  Calls Tryz.prog 78 #[v,.int .i64 x] w fun e w'=>e=.returned (.int .i64 (G6 l x))/\Below w.heap.size w w':=by
 obtain ⟨A,c,rfl,hn,hc,hR⟩:=h;unfold maxLen at hc;obtain ⟨q,hq⟩:∃ q,G6 l x=q:=⟨_,rfl⟩;rw [hq];have Hq:=Lib.hid hq;clear hq;go_enter Tryz.func78,Tryz.ntmps78;go_wp2_with fail;go_loopw [8] (fun i wr=>∃ k:Nat,k<=l.length/\i=.int .i64 k/\Below w.heap.size w wr/\∀ j (hj:j<l.length),j<k->(l[j] == x)=false) (fun i _=>l.length-(intOf i).toNat)
 case atStart => exact ⟨0,Nat.zero_le _,rfl,bR w,fun j _ h=>by omega⟩
 case round =>
  obtain ⟨k,hk,rfl,hb,hno⟩:=hrel;have Hb:=Lib.hid hb;have Hno:=Lib.hid hno;clear hb hno;by_cases hlt:k<l.length
  ·obtain ⟨b,o,rfl,hlb,c0⟩:=(hR.mono Hb.out).int hlt;have HR:=Lib.hid hR;clear hR
   cases he:(l[k] == x)
   ·go_wp2_with fail;go_roundw
    case rel => exact ⟨k+1,by omega,by go_num,Hb.out,all_succ (p:=fun y=>(y == x)=false) Hno.out hlt he⟩
    case measure => simp [intOf];omega
   ·have hf:=Lib.hid (afi hlt Hno.out he);have he2:(x == l[k])=true:=by simpa using (beq_iff_eq.1 he).symm
    go_wp2_with fail;go_ret;exact ⟨dY (by rw [<- Hq.out];unfold G6;rw [hf.out]),Hb.out⟩
  ·have hf:=Lib.hid (afj (fun j hj=>Hno.out j hj (by omega)));go_wp2_with fail;go_ret;exact ⟨dY (by rw [<- Hq.out];unfold G6;rw [hf.out]),Hb.out⟩
set_option maxHeartbeats 1000000 in
theorem afl (v:Value) (l:List Int) (d:Int) (w:World) (h:Ints w v l) (hl:l.length<=1000000) :
  Calls Tryz.prog 117 #[v,.int .i64 d] w fun e w'=>e=.returned (.int .i64 (precD l d))/\Below w.heap.size w w':=by
 have HI:=Lib.hid (afk v l d w h);obtain ⟨A,c,rfl,hn,hc,hR⟩:=h;unfold maxLen at hc;obtain ⟨q,hq⟩:∃ q,precD l d=q:=⟨_,rfl⟩;rw [hq];unfold G6 at HI;unfold precD at hq;have HR:=Lib.hid hR;clear hR
 cases hi:l.findIdx? (fun y=>y == d) with
 | none =>
  rw [hi] at HI hq;simp only at HI hq;subst hq;clear hi;go_enter Tryz.func117,Tryz.ntmps117;go_wp2_with fail;refine HI.out.mono ?_;rintro e w1 ⟨rfl,hb1⟩;have B1:=Lib.hid hb1;clear hb1;go_wp2_with fail;go_ret;exact ⟨rfl,B1.out⟩
 | some k =>
  rw [hi] at HI hq;simp only at HI hq;have hk:k<l.length:=(List.findIdx?_eq_some_iff_getElem.1 hi).1;clear hi;have hm:(k+l.length-1) % l.length<l.length:=Nat.mod_lt _ (by omega);have hq2:l[(k+l.length-1) % l.length]=q:=by
   rw [<- hq];simp only [List.getD_eq_getElem?_getD,List.getElem?_eq_getElem hm,Option.getD_some]
  have htm:Int.tmod ((k:Int)+(l.length:Int)-1) (l.length:Int)=((k+l.length-1) % l.length:Nat):=by
   rw [Int.tmod_eq_emod_of_nonneg (by omega),show (k:Int)+(l.length:Int)-1=((k+l.length-1:Nat):Int) by omega];exact (Int.natCast_emod _ _).symm
  clear hq;generalize hM:(k+l.length-1) % l.length=m at *;have Hq2:=Lib.hid hq2;clear hq2 hM;have h0:¬ (k:Int)<0:=by omega
  have g1:IntKind.i64.wrap ((k:Int)+(l.length:Int))=(k:Int)+(l.length:Int):=IntWalk.i64_in _ (by omega);have g2:IntKind.i64.wrap ((k:Int)+(l.length:Int)-1)=(k:Int)+(l.length:Int)-1:=IntWalk.i64_in _ (by omega);have g3:¬ (l.length:Int)=0:=by omega
  have g4:IntKind.i64.wrap (m:Int)=m:=IntWalk.i64_in _ (by omega);have g5:(m:Int)<l.length:=by omega
  have g6:0<=(m:Int):=by omega
  have hne:l.length≠0:=by omega
  have hne':l≠[]:=by intro e;rw [e] at hne;exact hne rfl
  have Hne:=Lib.hid hne;clear hne;go_enter Tryz.func117,Tryz.ntmps117;go_wp2_with fail;refine HI.out.mono ?_;rintro e w1 ⟨rfl,hb1⟩;have B1:=Lib.hid hb1;clear hb1;obtain ⟨b,o,rfl,hlb,c0⟩:=(HR.out.mono B1.out).int hm;rw [Hq2.out] at c0;go_wp2_with fail;go_ret;exact ⟨rfl,B1.out⟩
theorem Valid.Yz {p:Pl} (h:Valid p) (n:Int):(kH p n).length<=512:=by
 cases hf:jh p.nodes n with
 | none=>simp [kH,hf]
 | some nd =>
  have hm:nd∈p.nodes:=List.mem_of_find?_eq_some hf;have hid:nd.id=n:=by have:=List.find?_some hf;simpa using this
  subst hid;rw [(h.wR hm).length_eq];have h1:=P6 p.au nd.id;have hl:=h.lim;unfold lH at hl;simp only [Bool.or_eq_false_iff,decide_eq_false_iff_not] at hl;omega
open Go.RowKit Go.Sort
def oH (l:List Int):List Int:=l.mergeSort fun x y=>decide (x<=y)
theorem YC (l:List Int):(oH l).Perm l:=List.mergeSort_perm _ _
theorem afm (l:List Int):(oH l).length=l.length:=(YC l).length_eq
theorem afn (l:List Int):(oH l).Pairwise (·<=·):=by
 have:=List.pairwise_mergeSort (le:=fun (x y:Int)=>decide (x<=y)) (fun a b c h1 h2=>by simp only [decide_eq_true_eq] at *;omega) (fun a b=>by simp only [Bool.or_eq_true,decide_eq_true_eq];omega) l
 exact this.imp (fun h=>by simpa using h)
theorem afo {l m:List Int} (hp:l.Perm m) (hs:m.Pairwise (· < ·)):oH l=m:=by
 refine OO (lt:=fun a b=>decide (a<b)) ((YC l).trans hp) ?_ ?_ (fun a _ b _ h1 h2=>by simp only [decide_eq_false_iff_not] at *;omega)
 · exact (afn l).imp (fun h=>by simpa using h)
 · exact hs.imp (fun h=>by simp only [decide_eq_false_iff_not];omega)
theorem Qb (w:World) (n:Nat) (blk off:Nat) (d:Array Int) (os:Array Obj):(grow (putRow (Value.int .i64) (Sort.ahead w n) blk off d) os).heap=w.heap.modify blk (onCells (putCells (Value.int .i64) off d))++os:=rfl
theorem afp (w:World) (n:Nat) (blk off:Nat) (d:Array Int) (os:Array Obj):w.grownBy (grow (putRow (Value.int .i64) (Sort.ahead w n) blk off d) os) (some blk):=by
 refine ⟨rfl,rfl,rfl,?_,fun i hi hne=>?_⟩
 · rw [Qb];simp
 ·have hne':blk≠i:=fun e=>hne (by rw [e]);rw [Qb,Array.getElem?_append_left (by simpa using hi),Array.getElem?_modify,if_neg hne']
set_option maxHeartbeats 1000000 in
theorem afq (base:Nat) (v:Value) (sl:List Int) (w:World) (hown:Own w base 3 1 dX v sl) (hn:sl.length<=4294967296) :
  Calls Tryz.prog 118 #[v] w (XZ w base v (oH sl)):=by
 rcases sl with _ | ⟨s0,rest⟩
 ·have hv:∃ p cap,v=.slice p 0 cap:=by
   rcases hown.2 with ⟨h,_⟩ | ⟨g,cap,cur,h,_⟩
   · exact ⟨_,_,h⟩
   · exact ⟨_,_,h⟩
  obtain ⟨p,cap,rfl⟩:=hv;refine Calls.mono (AnyM.slices_Sort_int_none Tryz.sortN p cap w) ?_;rintro e w' ⟨rfl,rfl⟩;exact ⟨rfl,by rw [show oH []=[] by simp [oH]];exact hown,World.grownBy.refl _ _⟩
 generalize hsl:s0::rest=sl at *;have hpos:0<sl.length:=by rw [<- hsl];simp
 obtain ⟨hlen,hown2⟩:=hown;rcases hown2 with ⟨_,h0⟩ | ⟨g,cap,cur,rfl,hg,hh,hnc,hcm,hcs,hx⟩
 · omega
 have hcur:∀ j,j<sl.length->cur[j]? = (sl[j]?).map (.int .i64 ·):=fun j hj=>by
  rw [<- Ku,<- hx,List.getElem?_take,if_pos (by omega)];simp
 have hH:Holds (Value.int .i64) w g 0 sl.toArray:=fun j hj=>by
  have hj':j<sl.length:=by simpa using hj
  refine ⟨?_,ah.frozen (t:=3) (cs:=cur) hh _⟩;rw [cell_of_row w g _ cur 3 (0,0) hh,Nat.zero_add,hcur j hj',getElem!_pos sl.toArray j hj,List.getElem?_eq_getElem hj'];simp
 refine Calls.mono (AnyM.slices_Sort_int Tryz.sortN g 0 cap sl w hH (ah.lt hh) (by omega)) ?_;rintro e w' ⟨rfl,n,os,rfl⟩;have hl':(oH sl).length=sl.length:=afm sl;refine ⟨rfl,?_,afp w n g 0 _ os⟩;unfold Own;rw [hl'];refine ⟨by rw [Kv,hl'];omega,.inr ⟨g,cap,putCells (Value.int .i64) 0 (oH sl).toArray cur,rfl,hg,?_,hnc,hcm,by simp [putCells,hcs],?_⟩⟩
 ·have hgl:g<w.heap.size:=ah.lt hh
  show (grow (putRow (Value.int .i64) (Sort.ahead w n) g 0 (oH sl).toArray) os).heap[g]? = _
  rw [Qb,Array.getElem?_append_left (by simpa using hgl),Array.getElem?_modify,if_pos rfl,hh];rfl
 ·apply List.ext_getElem?;intro j;rw [List.getElem?_take];by_cases hj:j<sl.length*1
  ·rw [if_pos hj];have hjc:j<cur.size:=by rw [hcs];omega
   have hjd:j<(oH sl).length:=by rw [hl'];omega
   rw [Ku,List.getElem?_eq_getElem hjd];have e1:(putCells (Value.int .i64) 0 (oH sl).toArray cur).toList[j]? = some (.int .i64 (oH sl).toArray[j]!):=by
    simp [putCells,hjc,hjd]
   rw [e1,getElem!_pos (oH sl).toArray j (by simpa using hjd)];simp
  · rw [if_neg hj,List.getElem?_eq_none (by rw [Kv,hl'];omega)]
def kL (x:List Int×SV):List Value:=[.slice x.2.a x.2.n x.2.c]
theorem KD (x:List Int×SV):(kL x).length=1:=rfl
theorem KE (x:List Int×SV):∀ u∈kL x,u.oneCell'=true:=by simp [kL,Value.oneCell']
theorem KF:Elem Tryz.prog 60 24 1 24:=Elem.rH (z:=.slice none 0 0) (by kernel_rfl) (by kernel_rfl) rfl (by omega)
def zA (w:World) (B:Nat) (v:Value) (L:List (List Int×SV)):Prop :=
 Own w B 24 1 kL v L/\∀ x∈L,Own w B 3 1 dX (.slice x.2.a x.2.n x.2.c) x.1
theorem zA.keep {w w':World} {B:Nat} {v:Value} {L:List (List Int×SV)} (h:zA w B v L) (hb:Below w.heap.size w w'):zA w' B v L :=
 ⟨h.1.keep hb,fun x hx=>(h.2 x hx).keep hb⟩
def YD (w:World) (l:List (List Int)) (z:Int) (e:Ending) (w':World):Prop :=
 ∃ A c L,e=.returned (.tuple #[.slice A l.length c,.int .i64 z])/\Below w.heap.size w w'/\L.map (·.1)=l/\zA w' w.heap.size (.slice A l.length c) L
theorem Qc {w:World} {gm n:Nat} {f:Int->Int} (h:jK w gm n f) {g:Nat} {t:TypeId} {cs:Array Value} (hg:ah w g t cs):g≠gm:=by
 rintro rfl;obtain ⟨D,h1,-⟩:=h;obtain ⟨es,clock,h2,-⟩:=h1;unfold ah at hg;rw [hg] at h2
 cases h2
theorem G7 {w:World} {gm n:Nat} {f:Int->Int} (h:jK w gm n f) {base:Nat} {e:TypeId} {size:Nat} {α:Type} {fe:α->List Value} {v:Value} {l:List α} (ho:Own w base e size fe v l):v.ownBlock≠some gm:=by
 rcases ho.2 with ⟨rfl,_⟩ | ⟨g,cap,cur,rfl,_,hh,_⟩
 · simp [Value.ownBlock]
 ·intro e';exact Qc h (cs:=cur) (g:=g) hh (by simpa [Value.ownBlock] using e')
theorem Own.row_in {w:World} {base:Nat} {A:Option Addr} {n c:Nat} {l:List Int} (h:Own w base 3 1 dX (.slice A n c) l):Row w A (l.flatMap dX):=by
 obtain ⟨A',c',he,_,_,hr⟩:=h.sl;injection he with e1 e2 e3;subst e1;exact hr
def jU (p:Pl) (k:Nat):List Int:=(p.nodes.take k).flatMap fun n=>kH p n.id
def ED (p:Pl) (F:Int->Int) (L:List Int):Prop:=∀ e∈L,F (-e)=kJ p (-e)
theorem YE (p:Pl) (k:Nat) (hk:k<p.nodes.length):jU p (k+1)=jU p k++kH p p.nodes[k].id:=by
 unfold jU;rw [List.take_succ_eq_append_getElem hk,List.flatMap_append];simp
theorem afs {p:Pl} (h:Valid p) (k:Nat):(jU p k).length<=512*k:=by
 induction k with
 | zero=>simp [jU]
 | succ k ih =>
  by_cases hk:k<p.nodes.length
  ·rw [YE p k hk,List.length_append];have:=h.Yz p.nodes[k].id
   omega
  ·have:jU p (k+1)=jU p k:=by
    unfold jU;rw [List.take_of_length_le (by omega),List.take_of_length_le (by omega)]
   rw [this];omega
theorem Qd (p:Pl):jU p p.nodes.length=p.nodes.flatMap fun n=>kH p n.id:=by
 unfold jU;rw [List.take_length]
theorem ED.snoc {p:Pl} {F:Int->Int} {L:List Int} (h:ED p F L) {d x:Int} (hx:kJ p (-d)=x):ED p (fun i=>if i=-d then x else F i) (L++[d]):=by
 intro e he;by_cases hd:e=d
 · subst hd;simp [hx]
 ·have hne:-e≠-d:=by omega
  simp only [List.mem_append,List.mem_singleton,hd,or_false] at he;simp only [hne,if_false];exact h e he
section
variable {p:Pl} (h:Valid p)
include h
theorem Valid.aft {n:Nd} (hn:n∈p.nodes) {d:Int} (hd:d∈kH p n.id):kJ p (-d)=precD (kH p n.id) d/\d∈dS p:=by
 obtain ⟨h1,h2⟩:=h.Gt ((h.wR hn).subset hd);obtain ⟨n',hn',e,hm,hx⟩:=h.J4 (O6 h1);rw [Int.neg_neg] at e hm hx;exact ⟨by rw [hx,e,h2],h1⟩
theorem Valid.EF {d:Int} (hd:d∈dS p):-1073741824<=d/\d<=1073741824:=by
 obtain ⟨a,ha,e⟩:=y7.1 hd;have:=h.oC ha
 omega
theorem Valid.afu:oH (jU p p.nodes.length)=dS p:=by
 rw [Qd];exact afo h.O9 h.J3
theorem Valid.afv {F:Int->Int} (hF:ED p F (jU p p.nodes.length)) {d:Int} (hd:d∈dS p):F d=kJ p d:=by
 have h1:-d∈jU p p.nodes.length:=by
  rw [Qd];exact h.O9.symm.subset (O6 hd)
 have:=hF _ h1
 rwa [Int.neg_neg] at this
theorem Valid.afw:(dS p).length<=512:=by
 have hl:=h.lim;unfold lH at hl;simp only [Bool.or_eq_false_iff,decide_eq_false_iff_not] at hl;unfold dS;simp only [List.length_append,List.length_reverse,List.length_map];omega
theorem Valid.YG:p.nodes.length<=256:=by
 have hl:=h.lim;unfold lH at hl;simp only [Bool.or_eq_false_iff,decide_eq_false_iff_not] at hl;omega
theorem Valid.afx (k:Nat):lM (kJ p) (dS p) ((dS p).take k) (((dS p).take k).foldl (qI (kJ p) (dS p)) []):=by
 have:=OU (f:=kJ p) (D:=dS p) (fun x hx=>(h.y9 hx).1) (fun x hx y hy=>h.Gu hx hy) ((dS p).take k) [] [] (lM.nil _ _) (fun x hx=>List.mem_of_mem_take hx) (by rw [List.nil_append];exact h.J3.sublist (List.take_sublist _ _))
 rwa [List.nil_append] at this
end
theorem afy (f:Int->Int) (D:List Int) (k:Nat) (hk:k<D.length):(D.take (k+1)).foldl (qI f D) []=qI f D ((D.take k).foldl (qI f D) []) D[k]:=by
 rw [List.take_succ_eq_append_getElem hk,List.foldl_append];rfl
end Go.Proofs.YtialfdomhoojiaaGreat
