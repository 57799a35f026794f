import Derived.Test.YtialfdomhoojiaaGreatJ16
import Derived.Shelf.SortM.Plain
import Derived.Shelf.SortM.SortNone
import Derived.Test.YtialfdomhoojiaaGreatJ15
import Derived.Test.YtialfdomhoojiaaGreatJ07
import Derived.Test.YtialfdomhoojiaaGreatLaySortN
set_option linter.unusedSimpArgs false
set_option linter.unusedVariables false
namespace Go.Proofs.YtialfdomhoojiaaGreat
open Go.RowKit Go.Sort
theorem Zd {P:Program} {fn:Func} {p:Tmp} {ty t:TypeId} {R:Ending->World->Prop} {a:Act} {w:World} {g:Nat} {v:Value} (h:fn.results=#[.cell p ty])
  (hS:∀ w,(isAgg ty).run P w=.ok false w) (hp:a.tmps.getD p undef=.pointer (some ⟨g,0,none⟩)) (hd:a.defers=[]) (hb:aj w g t #[v]) (hR:R (.returned v) w):bodyPost P fn R .ret a w:=by
 refine bodyPost_ret ?_ hd hR;have hp':a.tmps[p]?.getD undef=.pointer (some ⟨g,0,none⟩):=by simpa using hp
 have hc:w.cell? ⟨g,0,none⟩=some v:=by rw [hb.cell];rfl
 simp only [results,h];simp [hp',asAddr,loadVar,Sem.run_bind,Sem.run_pure,Result.andThen,hS,hc]
theorem ae3:∀ w,(isAgg 24).run Tryz.prog w=.ok false w:=fun _=>by kernel_rfl
def ano (w:World) (l:List Int) (e:Ending) (w':World):Prop :=
 ∃ A c,e=.returned (.slice A l.length c)/\Below w.heap.size w w'/\Own w' w.heap.size 3 1 dO (.slice A l.length c) l
theorem Valid.ae4 {p:Pl} (h:Valid p) {n d:Int} (hd:d∈dL p.ah n):dP d:=by
 obtain ⟨a,ha,e⟩:=wZ.1 hd;have:=h.jC ha
 rcases e with ⟨rfl,-⟩ | ⟨rfl,-⟩
 · exact kQ (by omega) (by omega)
 · exact kQ (by omega) (by omega)
theorem anp (l:List Ar) (n:Int) (k:Nat) (hk:k<l.length):dL (l.take (k+1)) n=dL (l.take k) n++((if l[k].fr=n then [l[k].id] else [])++(if l[k].dst=n then [-l[k].id] else [])):=by
 unfold dL;rw [List.take_succ_eq_append_getElem hk,List.flatMap_append];simp
theorem Ze (l:List Ar) (n:Int):(dL l n).length<=2*l.length:=by
 unfold dL
 induction l with
 | nil=>simp
 | cons a l ih =>
  rw [List.flatMap_cons,List.length_append,List.length_append,List.length_cons];have h1:(if a.fr=n then [a.id] else []).length<=1:=by split<;>simp
  have h2:(if a.dst=n then [-a.id] else []).length<=1:=by split<;>simp
  omega
theorem Own.anq {α:Type} {w w':World} {base:Nat} {e:TypeId} {size:Nat} {f:α->List Value} {v:Value} {l:List α} (h:Own w base e size f v l) (hk:∀ g t cs,base<=g->aj w g t cs->aj w' g t cs):Own w' base e size f v l:=by
 obtain ⟨h1,h2⟩:=h;refine ⟨h1,?_⟩;rcases h2 with h2 | ⟨g,cap,cur,hv,hg,hh,r⟩
 · exact .inl h2
 ·subst hv;exact .inr ⟨g,cap,cur,rfl,hg,hk g e cur hg hh,r⟩
theorem OJ {p:Pl} {D:List Int} {f:Int->Pt} (h:∀ d∈D,f d=dJ p d) {x:Int} {q:Pt} (hx:dJ p x=q):∀ d∈D++[x],(fun i=>if i=x then q else f i) d=dJ p d:=by
 intro d hd;by_cases e:d=x
 · subst e;simp [hx]
 ·simp only [List.mem_append,List.mem_singleton,e,or_false] at hd;simp [e,h d hd]
theorem Own.ae5 {w:World} {base:Nat} {A:Option Addr} {n c:Nat} {l:List Pt} (h:Own w base 39 2 iV (.slice A n c) l):Row w A (l.flatMap iV):=by
 obtain ⟨A',c',he,_,_,hr⟩:=h.sl;injection he with e1 e2 e3;subst e1;exact hr
theorem Iq.keep {w w':World} {B g4 g7 gm n:Nat} {dl:List Int} {f:Int->Pt} {v:Value} (h:Iq w B g4 g7 gm n dl f v) (hb:Below w.heap.size w w'):Iq w' B g4 g7 gm n dl f v :=
 ⟨h.x4.keep hb,h.own.keep hb,h.x7.keep hb,h.mp.keep hb,h.b4,h.bm⟩
set_option maxRecDepth 100000 in
set_option maxHeartbeats 8000000 in
theorem anr (v:Value) (p:Pl) (n:Int) (w:World) (h:dS w v p) (hv:Valid p) :
  Calls Tryz.prog 116 #[v,.int .i64 n] w (ano w (dB p n)):=by
 have KO:=Lib.hid (fun W (hW:Below w.heap.size w W)=>Wu v p n W (h.mono hW));have ant:=Lib.hid (fun id W (hW:Below w.heap.size w W)=>QZ v p id W (h.mono hW) hv.short);obtain ⟨_,_,_,al,rfl,hpa,⟨An,cn,rfl,-⟩,⟨⟨Aa,ca,rfl,hn1,hn2,hR⟩,vC⟩,⟨Af,cf,rfl,-⟩⟩:=h;unfold maxLen at hn2;have HR:=Lib.hid hR;have Dj:=Lib.hid vC;have HV:=Lib.hid hv;have uz:=Lib.hid hpa;generalize hnn:p.nodes.length=nn at *;generalize p.faces.length=nf at *;obtain ⟨q,hq⟩:∃ q,dB p n=q:=⟨_,rfl⟩;rw [hq];have Hq:=Lib.hid hq;have hall:al.length<=256:=by
  have hl:=hv.lim;unfold nN at hl;simp only [Bool.or_eq_false_iff,decide_eq_false_iff_not] at hl;have h2:=hl.2;rw [hpa,List.length_map] at h2;omega
 clear hpa hR vC hv hq hnn;go_enter Tryz.func116,Tryz.ntmps116;go_wp2_with fail;refine (KO.out _ (bA (bA (bR w) _) _)).mono ?_;rintro e w1 ⟨rfl,hb1⟩;have X2:aj w1 w.heap.size 26 #[.slice An nn cn,.slice Aa al.length ca,.slice Af nf cf]:=((aj.made rfl _ _).alloc _).keep hb1;have X4:aj w1 (w.heap.size+1) 24 #[.slice none 0 0]:=(aj.made (by simp) _ _).keep hb1;have B1:=Lib.hid (bT (bA (bA (bR w) _) _) hb1);clear hb1;unfold QL VO
 cases hfn:mJ p.nodes n with
 | none =>
  have hf:q=[]:=by rw [<- Hq.out];unfold dB;rw [hfn]
  subst hf;clear hfn;simp only [Option.getD_none,Option.isSome_none];obtain ⟨cZ,dh,eG⟩:=X4.fB;go_wp2_with fail;refine Zd (g:=w.heap.size+1) (v:=.slice none 0 0) rfl ae3 rfl rfl ((aj.Qy X4).alloc _) ⟨none,0,rfl,?_,Own.nil _ _ _ _ _⟩;have Bw:=B1.out
  repeat (first | with_reducible exact bR _ | with_reducible assumption | with_reducible refine bA ?_ _ | with_reducible refine bD ?_ | with_reducible refine bN ?_ _ | ((with_reducible refine bS ?_ ?_ _);rotate_left;(simp;try omega)) | ((with_reducible refine bT ?_ ?_);rotate_left;with_reducible assumption) | with_reducible refine bT ?_ (by assumption))
 | some nd =>
  have hnd:nd∈p.nodes/\nd.id=n:=⟨List.mem_of_find?_eq_some hfn,by have:=List.find?_some hfn;simpa using this⟩;obtain ⟨hnm,rfl⟩:=hnd;have hAr:=HV.out.Xt hnm;rw [Hq.out] at hAr;have rF:=Lib.hid hAr;have xG:=Lib.hid hnm;clear hfn hAr hnm Hq;simp only [Option.getD_some,Option.isSome_some];obtain ⟨gI,gJ,iq,iZ,-,-,-⟩:=X2.bC
  try clear cZ
  try clear dh
  try clear eG
  obtain ⟨cZ,dh,eG⟩:=X4.fB;have GX:=Lib.hid (jT.made (w1.alloc (.cells #[.int .i64 nd.id,.int .i64 nd.pt.x,.int .i64 nd.pt.y] 45)));have hmm:=@run_makeMap Tryz.prog;go_upto_region 5 with fail;obtain ⟨W5,hW⟩:∃ W:World,W=((w1.alloc (.cells #[.int .i64 nd.id,.int .i64 nd.pt.x,.int .i64 nd.pt.y] 45)).alloc (.map #[] 0)).alloc (.cells #[.map (some (w1.heap.size+1))] 189):=⟨_,rfl⟩;have hA:Below w1.heap.size w1 W5:=by rw [hW];exact bA (bA (bA (bR w1) _) _) _
  have bK:=Lib.hid (show aj W5 w1.heap.size 45 #[.int .i64 nd.id,.int .i64 nd.pt.x,.int .i64 nd.pt.y] by rw [hW];exact ((aj.made rfl _ _).alloc _).alloc _);have kF:=Lib.hid (show aj W5 (w1.heap.size+1+1) 189 #[.map (some (w1.heap.size+1))] by rw [hW];exact aj.made (by simp) _ _);have tq:=Lib.hid (show jT W5 (w1.heap.size+1) 0 (fun _=>z0) by
   rw [hW];have h1:=GX.out;rw [show (w1.alloc (.cells #[.int .i64 nd.id,.int .i64 nd.pt.x,.int .i64 nd.pt.y] 45)).heap.size=w1.heap.size+1 by simp] at h1;exact h1.keep (bA (bR _) _))
  have bY:=Lib.hid (X2.keep hA);have dn:=Lib.hid (X4.keep hA);have B5:=Lib.hid (bT B1.out hA);have hz1:w.heap.size+2<=w1.heap.size:=by have:=X4.lt;omega
  rw [<- hW];clear hW hA X2 X4 gI gJ iq iZ cZ dh eG GX hmm;obtain ⟨g5,hg5⟩:∃ g5,w1.heap.size=g5:=⟨_,rfl⟩;rw [hg5] at bK kF tq hz1 ⊢;clear hg5;have X2:=bY.out
  try clear gI
  try clear gJ
  try clear iq
  try clear iZ
  obtain ⟨gI,gJ,iq,iZ,-,-,-⟩:=X2.bC;have mZ:=Lib.hid (@anj);go_upto_block 0 with fail;go_wp2_with fail;go_loopw [26] (fun i wr=>∃ (k:Nat) (f:Int->Pt) (vl:Value) (cnt:Nat),k<=al.length/\i=.int .i64 k/\cnt<=2*k/\Iq wr (w.heap.size+1) (w.heap.size+1) (g5+1+1) (g5+1) cnt (dL (p.ah.take k) nd.id) f vl/\(∀ d∈dL (p.ah.take k) nd.id,f d=dJ p d)/\Below w.heap.size w wr/\aj wr w.heap.size 26 #[.slice An nn cn,.slice Aa al.length ca,.slice Af nf cf]/\aj wr g5 45 #[.int .i64 nd.id,.int .i64 nd.pt.x,.int .i64 nd.pt.y]) (fun i _=>al.length-(intOf i).toNat)
  case atStart => exact ⟨0,fun _=>z0,.slice none 0 0,0,Nat.zero_le _,rfl,by omega,⟨dn.out,Own.nil _ _ _ _ _,kF.out,tq.out,by omega,by omega⟩,(fun d h=>by simp [dL] at h),B5.out,bY.out,bK.out⟩
  case round =>
   obtain ⟨k,f,vl,cnt,hk,rfl,hcnt,ae6,hf,hb,X2,X5⟩:=hrel;have Hb:=Lib.hid hb;have yH:=Lib.hid ae6;have Hf:=Lib.hid hf;have bY:=Lib.hid X2;have bK:=Lib.hid X5;clear hb ae6 hf
   try clear gI
   try clear gJ
   try clear iq
   try clear iZ
   obtain ⟨gI,gJ,iq,iZ,-,-,-⟩:=X2.bC;have hzr:=Hb.out.size;have atl:g5+1+1<wr.heap.size:=yH.out.x7.lt;by_cases hlt:k<al.length
   case neg =>
    have hkk:k=al.length:=by omega
    have ht:p.ah.take k=p.ah:=List.take_of_length_le (by rw [uz.out,List.length_map];omega);rw [ht] at yH Hf;have HF:=Hf;clear ht;subst hkk;obtain ⟨x4,own,x7,mp,b4,bm⟩:=yH.out;obtain ⟨A,c,rfl,-⟩:=Own.shape own;have hlen:=Ze p.ah nd.id;rw [show p.ah.length=al.length by rw [uz.out,List.length_map]] at hlen;have HS:=Lib.hid (anf (w.heap.size+1) _ (dL p.ah nd.id) (ltD p nd.pt) 176 #[.pointer (some ⟨g5,0,none⟩),.pointer (some ⟨g5+1+1,0,none⟩)] wr own (HV.out.RP xG.out) (by omega) (enters_of Tryz.func176 (by kernel_rfl) rfl)
     (fun W hW x hx y hy=>by
      have h:=anm nd x y g5 (g5+1+1) (g5+1) cnt f W (bK.out.grown hW (fun e=>Own.dM own bK.out (by decide) e.symm)) (x7.grown hW (fun e=>Own.dM own x7 (by decide) e.symm)) (mp.kept hW (fun e=>Zc mp own e.symm)) (HV.out.ae4 hx) (HV.out.ae4 hy);have he:Fq (fun a b=>wS nd.pt (f a) (f b)) x y=Fq (ltD p nd.pt) x y:=by
       unfold Fq ltD;simp only [HF.out x hx,HF.out y hy]
      rw [he] at h;exact h))
    have Tj:=Own.dM own x4 (by decide);have hown:=Own.lt own;have OL:=Lib.hid hown;have HB4:=Lib.hid b4;have X4:=x4;have atm:=Lib.hid x4;have qy:=Lib.hid Tj;have hpm:(sortB (ltD p nd.pt) (dL p.ah nd.id)).length=(dL p.ah nd.id).length:=((RN (HV.out.RP xG.out)).1).length_eq;rw [<- rF.out] at hpm HS;have lX:=Lib.hid hpm;clear x4 own x7 mp b4 bm Tj hown hpm hlen HF Hf yH;generalize dL p.ah nd.id=D at *
    try clear cZ
    try clear dh
    try clear eG
    obtain ⟨cZ,dh,eG⟩:=X4.fB;go_wp2_with fail;refine HS.out.mono ?_;rintro e ws ⟨rfl,hos,hgs⟩;have Y4:=aj.grown X4 hgs (fun e=>qy.out e.symm);have KP:=Lib.hid hos;have KI:=Lib.hid (show Below (w.heap.size+1) wr ws from Below.grown (Below.refl _ _) hgs (by omega) (fun g hg=>(OL.out g hg).1));clear hos hgs X4 cZ dh eG X2 gI gJ iq iZ;have X4:=Y4;clear Y4
    try clear cZ
    try clear dh
    try clear eG
    obtain ⟨cZ,dh,eG⟩:=X4.fB;go_wp2_with fail;have ho:=KP.out;rw [<- lX.out] at ho ⊢;refine Zd (g:=w.heap.size+1) (v:=.slice A q.length c) rfl ae3 rfl rfl (aj.Qy X4) ⟨A,c,rfl,?_,(ho.far (p:=⟨w.heap.size+1,0,none⟩) (by rw [lX.out];exact qy.out) _).iW (by omega)⟩;exact (Below.trans Hb.out (KI.out.mono (by omega))).setCell (by show w.heap.size<=w.heap.size+1;omega) _
   obtain ⟨b,o,rfl,hlb,c0,c1,c2,c3,c4,c5⟩:=(HR.out.mono Hb.out).ar hlt;have ham:al[k].1∈p.ah:=by rw [uz.out];exact List.mem_map_of_mem (List.getElem_mem hlt)
   have hst:dL (p.ah.take (k+1)) nd.id=dL (p.ah.take k) nd.id++((if al[k].1.fr=nd.id then [al[k].1.id] else [])++(if al[k].1.dst=nd.id then [-al[k].1.id] else [])):=by
    have h1:k<p.ah.length:=by rw [uz.out,List.length_map];exact hlt
    have h2:=anp p.ah nd.id k h1;have h3:p.ah[k]=al[k].1:=by simp only [uz.out,List.getElem_map]
    rw [h3] at h2;exact h2
   obtain ⟨Av,cv,hv,-⟩:=Dj.out k hlt;rw [hv] at c3;have hpo:=HV.out.adM (HV.out.RI ham);have hid:=HV.out.jC ham;rw [show gV al[k].1.id=al[k].1.id by unfold gV;rw [if_neg (by omega)]] at hpo;have um:=Lib.hid (ant.out al[k].1.id);rw [hpo] at um;unfold WC at um;simp only [Option.getD_some,Option.isSome_some,if_true] at um;have ae7:=HV.out.J3 ham;have ae8:=HV.out.G9 ham;have hpl:=fJ p al[k].1;have hvl:=HV.out.Bh ham;have hlen:=Ze (p.ah.take k) nd.id;have hlen2:(p.ah.take k).length<=k:=List.length_take_le _ _;have dQ:=Lib.hid hst;have anu:=Lib.hid ae7;have ae9:=Lib.hid ae8;have HLen:=Lib.hid (show (dL (p.ah.take k) nd.id).length<=512 by omega);clear hst ae7 ae8 hpo hv ham hlen hlen2;obtain ⟨D1,hD1⟩:∃ D1,dL (p.ah.take (k+1)) nd.id=D1:=⟨_,rfl⟩;rw [hD1] at dQ;have HD1:=Lib.hid hD1;clear hD1;generalize dL (p.ah.take k) nd.id=D0 at *;generalize hP:au p al[k].1=P at *;generalize al[k].1.via.length=vn at *;generalize al[k].1=a at *;have afa:=Lib.hid (show dP a.id from kQ (by omega) (by omega));have Tm:=Lib.hid (show dP (-a.id) from kQ (by omega) (by omega));have hneg:IntKind.i64.wrap (-a.id)=-a.id:=IntWalk.i64_in _ (by omega);clear hP
   cases hb1:(a.fr == nd.id)
   case false =>
    have hn1:(a.fr != nd.id)=true:=by rw [bne,hb1];rfl
    cases hb2:(a.dst == nd.id)
    case false =>
     have hn2:(a.dst != nd.id)=true:=by rw [bne,hb2];rfl
     have hD:D1=D0:=by rw [dQ.out,if_neg (by simpa using hb1),if_neg (by simpa using hb2)];simp
     go_wp2_with fail;go_roundw
     case rel => exact ⟨k+1,f,vl,cnt,by omega,by go_num,by omega,by rw [show dL (List.take (k+1) p.ah) nd.id=D0 from HD1.out.trans hD];exact yH.out.keep (bA (bR wr) _),by rw [show dL (List.take (k+1) p.ah) nd.id=D0 from HD1.out.trans hD];exact Hf.out,bA Hb.out _,bY.out.alloc _,bK.out.alloc _⟩
     case measure => simp [intOf];omega
    case true =>
     have hn2:(a.dst != nd.id)=false:=by rw [bne,hb2];rfl
     have yI:=Lib.hid hpl;clear hpl;go_wp2_with fail;refine (um.out _ (bA Hb.out _)).mono ?_;rintro e w2 ⟨A2,c2',rfl,hb2,ho2⟩;have HW2:=Lib.hid (show Below wr.heap.size wr w2 from bT (bA (bR wr) _) hb2);have fM:=Lib.hid ho2;have hz2:=hb2.size;simp only [World.size_alloc] at hz2;obtain ⟨Aq,cq,he,hq1,hq2,H6⟩:=ho2.sl;injection he with e1 e2 e3;subst e1 e3;clear e2;unfold maxLen at hq2;have wU:=Lib.hid (show aj w2 wr.heap.size 50 #[.int .i64 a.id,.int .i64 a.fr,.int .i64 a.dst,.slice Av vn cv,.int .i64 a.left,.int .i64 a.right] from (aj.made rfl _ _).keep hb2);have dU:=wU.out;rw [yI.out] at hq1 ⊢;clear hb2 ho2 um gI gJ iq iZ X2 c0 c1 c2 c3 c4 c5 hlb;have hD:D1=D0++[-a.id]:=by rw [dQ.out,if_neg (by simpa using hb1),if_pos (by simpa using hb2)];simp
     have HOW:=fM;have KQ:=Lib.hid (yH.out.keep HW2.out);have KR:=Lib.hid (bY.out.keep HW2.out);have Ir:=Lib.hid (bK.out.keep HW2.out);have uZ:=Lib.hid (show Below w.heap.size w w2 from bT Hb.out HW2.out);have Iu:=Lib.hid (Own.dM yH.out.own bK.out (by decide));clear H6;obtain ⟨jX,jY,jZ,Em,GL,GN,GR,-,-,-,-,-,-⟩:=dU.kZ;have hP2:vn<P.length:=by have:=yI.out;omega
     obtain ⟨bp,op,mX,hlp,e20,e21⟩:=Row.pt (HOW.out.ae5) hP2;have hp2:P.getD vn aB=P[vn]:=by simp only [List.getD_eq_getElem?_getD,List.getElem?_eq_getElem hP2,Option.getD_some]
     have OM:=Lib.hid (ae9.out.trans hp2);clear hp2;generalize P[vn]=p2 at *
     first | subst mX | (simp only [Option.some.injEq,Addr.mk.injEq,and_true] at mX;obtain ⟨rfl,rfl⟩:=mX)
     have k2:IntKind.i64.wrap ((vn:Int)+2-2)=vn:=by rw [show (vn:Int)+2-2=vn by omega];exact IntWalk.i64_in _ (by omega)
     have k3:IntKind.i64.wrap (vn:Int)=vn:=IntWalk.i64_in _ (by omega);have k4:(vn:Int)<(vn:Int)+2:=by omega
     have k5:0<=(vn:Int):=by omega
     have k6:(vn:Int)+2-2=vn:=by omega
     go_upto_region 15 with fail;refine bZ (gW ((w.heap.size+1)) w2) (.take 0 1 (.take 1 3 (.run 5 4 3 (.two 2 503 (.take 3 511 (.call 9 1023 (.call 10 2047 (.done)))) 9 1011 (.call 2 1015 (.take 3 1023 (.call 10 2047 (.done)))))))) (by kernel_rfl) (Below.drew (Below.refl _ _)) (by kernel_rfl) (by kernel_rfl) (Nat.le_of_ble_eq_true (by kernel_rfl)) ?_;intro cO QR ak aC hS
     iterate 7
      apply lK;exact ak;exact rfl;exact hS;exact rfl
      · intro _ hqc;go_simp;try rfl
      try simp only [pu]
     refine Ae (i:=2) (j:=9) (aG ak rfl) (aG ak rfl) (fun K hK=>?_) (fun K hK=>?_)
     ·have aA:=Lib.hid hS;clear hS;refine aO (aV rfl) ?_;go_simp;refine hK.out _ _ aA.out (fun hS=>?_);clear hK K aA
      try simp only [pu]
      apply lK;exact ak;exact rfl;exact hS;exact rfl
      · intro _ hqc;go_simp;try rfl
      try simp only [pu]
      refine aT (i:=9) (aG ak rfl) (fun K hK=>?_);have aA:=Lib.hid hS;clear hS;refine aO (aV rfl) ?_;go_simp;refine hK.out _ _ aA.out (fun hS=>?_);clear hK K aA
      try simp only [pu]
      refine aT (i:=10) (aG ak rfl) (fun K hK=>?_);have aA:=Lib.hid hS;clear hS;refine aO (aV rfl) ?_;go_simp;refine (mZ.out (-a.id) p2 (w.heap.size+1) (w.heap.size+1) (g5+1+1) (g5+1) (cnt) (D0) (f) vl _ (KQ.out.keep (bD (bR w2))) (by simp;omega) (by omega) (by have:=HLen.out;(try simp only [List.length_append,List.length_singleton]);omega) Tm.out).mono ?_;rintro e w4 ⟨rfl,⟨v4,zL⟩,hb4,hk4⟩;have hS:gW (w.heap.size+1) w2 w4:=Below.trans aA.out hb4;have Iw:=Lib.hid zL;have Iy:=Lib.hid (hk4 g5 _ _ (Ir.out.keep (bD (bR w2))) (by omega) (by omega) Iu.out);clear hb4 hk4 zL;clear aA;refine hK.out _ _ hS (fun _=>?_);clear hK K
      try simp only [pu]
      refine bM ?_;refine aC.down _ _ ?_;have hB:Below ((w.heap.size+1)) w2 _:=hS;clear hS aC ak;go_wp2_with fail;go_roundw
      case rel => exact ⟨k+1,_,v4,cnt+1,by omega,by go_num,by omega,by rw [show dL (List.take (k+1) p.ah) nd.id=D0++[-a.id] from HD1.out.trans hD];exact Iw.out,(fun d hd=>by rw [show dL (List.take (k+1) p.ah) nd.id=D0++[-a.id] from HD1.out.trans hD] at hd;exact OJ Hf.out OM.out d hd),Below.trans uZ.out (hB.mono (by omega)),KR.out.below hB (by omega),Iy.out⟩
      case measure => simp [intOf];omega
     ·have aA:=Lib.hid hS;clear hS;refine aO (aV rfl) ?_;go_simp;refine hK.out _ _ aA.out (fun hS=>?_);clear hK K aA
      try simp only [pu]
      refine aT (i:=2) (aG ak rfl) (fun K hK=>?_);have aA:=Lib.hid hS;clear hS;refine aO (aV rfl) ?_;go_simp;refine hK.out _ _ aA.out (fun hS=>?_);clear hK K aA
      try simp only [pu]
      apply lK;exact ak;exact rfl;exact hS;exact rfl
      · intro _ hqc;go_simp;try rfl
      try simp only [pu]
      refine aT (i:=10) (aG ak rfl) (fun K hK=>?_);have aA:=Lib.hid hS;clear hS;refine aO (aV rfl) ?_;go_simp;refine (mZ.out (-a.id) p2 (w.heap.size+1) (w.heap.size+1) (g5+1+1) (g5+1) (cnt) (D0) (f) vl _ (KQ.out.keep (bD (bR w2))) (by simp;omega) (by omega) (by have:=HLen.out;(try simp only [List.length_append,List.length_singleton]);omega) Tm.out).mono ?_;rintro e w4 ⟨rfl,⟨v4,zL⟩,hb4,hk4⟩;have hS:gW (w.heap.size+1) w2 w4:=Below.trans aA.out hb4;have Iw:=Lib.hid zL;have Iy:=Lib.hid (hk4 g5 _ _ (Ir.out.keep (bD (bR w2))) (by omega) (by omega) Iu.out);clear hb4 hk4 zL;clear aA;refine hK.out _ _ hS (fun _=>?_);clear hK K
      try simp only [pu]
      refine bM ?_;refine aC.down _ _ ?_;have hB:Below ((w.heap.size+1)) w2 _:=hS;clear hS aC ak;go_wp2_with fail;go_roundw
      case rel => exact ⟨k+1,_,v4,cnt+1,by omega,by go_num,by omega,by rw [show dL (List.take (k+1) p.ah) nd.id=D0++[-a.id] from HD1.out.trans hD];exact Iw.out,(fun d hd=>by rw [show dL (List.take (k+1) p.ah) nd.id=D0++[-a.id] from HD1.out.trans hD] at hd;exact OJ Hf.out OM.out d hd),Below.trans uZ.out (hB.mono (by omega)),KR.out.below hB (by omega),Iy.out⟩
      case measure => simp [intOf];omega
   case true =>
    have hn1:(a.fr != nd.id)=false:=by rw [bne,hb1];rfl
    have HB1:=Lib.hid hb1;clear hb1;have yI:=Lib.hid hpl;clear hpl;go_wp2_with fail;refine (um.out _ (bA Hb.out _)).mono ?_;rintro e w2 ⟨A2,c2',rfl,hb2,ho2⟩;have HW2:=Lib.hid (show Below wr.heap.size wr w2 from bT (bA (bR wr) _) hb2);have fM:=Lib.hid ho2;have hz2:=hb2.size;simp only [World.size_alloc] at hz2;obtain ⟨Aq,cq,he,hq1,hq2,H6⟩:=ho2.sl;injection he with e1 e2 e3;subst e1 e3;clear e2;unfold maxLen at hq2;have wU:=Lib.hid (show aj w2 wr.heap.size 50 #[.int .i64 a.id,.int .i64 a.fr,.int .i64 a.dst,.slice Av vn cv,.int .i64 a.left,.int .i64 a.right] from (aj.made rfl _ _).keep hb2);have dU:=wU.out;rw [yI.out] at hq1 ⊢;clear hb2 ho2 um gI gJ iq iZ X2 c0 c1 c2 c3 c4 c5 hlb;have hP1:1<P.length:=by have:=yI.out;omega
    obtain ⟨bp,op,mX,hlp,e10,e11⟩:=Row.pt (H6) hP1;have hp1:P.getD 1 aB=P[1]:=by simp only [List.getD_eq_getElem?_getD,List.getElem?_eq_getElem hP1,Option.getD_some]
    have anv:=Lib.hid (anu.out.trans hp1);clear hp1;generalize P[1]=p1 at *;subst mX;clear H6;simp only [Nat.one_mul] at e10 e11;have k1:(1:Int)<(vn:Int)+2:=by omega
    try clear jX
    try clear jY
    try clear jZ
    try clear Em
    try clear GL
    try clear GN
    try clear GR
    obtain ⟨jX,jY,jZ,Em,GL,GN,GR,-,-,-,-,-,-⟩:=dU.kZ;go_upto_if 52 with fail;go_cut [] (fun w3=>∃ v3,Iq w3 (w.heap.size+1) (w.heap.size+1) (g5+1+1) (g5+1) (cnt+1) (D0++[a.id]) (fun i=>if i=a.id then p1 else f i) v3/\Below (w.heap.size+1) w2 w3/\(∀ g t cs,aj w2 g t cs->g≠w.heap.size+1->g≠g5+1->vl.ownBlock≠some g->aj w3 g t cs))
    case first =>
     have hb1:=HB1.out;go_upto_region 13 with fail;refine bZ (gW ((w.heap.size+1)) w2) (.take 0 1 (.take 1 3 (.take 3 11 (.take 4 27 (.two 2 31 (.call 5 63 (.call 6 127 (.done))) 5 59 (.call 2 63 (.call 6 127 (.done)))))))) (by kernel_rfl) (Below.drew (Below.refl _ _)) (by kernel_rfl) (by kernel_rfl) (Nat.le_of_ble_eq_true (by kernel_rfl)) ?_;intro cO QR ak aC hS
     iterate 4
      apply lK;exact ak;exact rfl;exact hS;exact rfl
      · intro _ hqc;go_simp;try rfl
      try simp only [pu]
     refine Ae (i:=2) (j:=5) (aG ak rfl) (aG ak rfl) (fun K hK=>?_) (fun K hK=>?_)
     ·have aA:=Lib.hid hS;clear hS;refine aO (aV rfl) ?_;go_simp;refine hK.out _ _ aA.out (fun hS=>?_);clear hK K aA
      try simp only [pu]
      refine aT (i:=5) (aG ak rfl) (fun K hK=>?_);have aA:=Lib.hid hS;clear hS;refine aO (aV rfl) ?_;go_simp;refine hK.out _ _ aA.out (fun hS=>?_);clear hK K aA
      try simp only [pu]
      refine aT (i:=6) (aG ak rfl) (fun K hK=>?_);have aA:=Lib.hid hS;clear hS;refine aO (aV rfl) ?_;go_simp;refine (mZ.out a.id p1 (w.heap.size+1) (w.heap.size+1) (g5+1+1) (g5+1) cnt D0 f vl _ (yH.out.keep (bD HW2.out)) (by simp;omega) (by omega) (by have:=HLen.out;omega) afa.out).mono ?_;rintro e w3 ⟨rfl,⟨v3,Dq⟩,hb3,hk3⟩;have hS:gW (w.heap.size+1) w2 w3:=Below.trans aA.out hb3;have Zf:=Lib.hid Dq;have Zg:=Lib.hid (show ∀ g t cs,aj w2 g t cs->g≠w.heap.size+1->g≠g5+1->vl.ownBlock≠some g->aj w3 g t cs from fun g t cs h=>hk3 g t cs (h.keep (bD (bR w2))));clear hb3 hk3 Dq;clear aA;refine hK.out _ _ hS (fun _=>?_);clear hK K
      try simp only [pu]
      refine bM ?_;refine aC.down _ _ ?_;have hB:Below ((w.heap.size+1)) w2 _:=hS;clear hS aC ak;go_wp2_with fail;go_meet
      case rel => exact ⟨v3,Zf.out,hB,Zg.out⟩
     ·have aA:=Lib.hid hS;clear hS;refine aO (aV rfl) ?_;go_simp;refine hK.out _ _ aA.out (fun hS=>?_);clear hK K aA
      try simp only [pu]
      refine aT (i:=2) (aG ak rfl) (fun K hK=>?_);have aA:=Lib.hid hS;clear hS;refine aO (aV rfl) ?_;go_simp;refine hK.out _ _ aA.out (fun hS=>?_);clear hK K aA
      try simp only [pu]
      refine aT (i:=6) (aG ak rfl) (fun K hK=>?_);have aA:=Lib.hid hS;clear hS;refine aO (aV rfl) ?_;go_simp;refine (mZ.out a.id p1 (w.heap.size+1) (w.heap.size+1) (g5+1+1) (g5+1) cnt D0 f vl _ (yH.out.keep (bD HW2.out)) (by simp;omega) (by omega) (by have:=HLen.out;omega) afa.out).mono ?_;rintro e w3 ⟨rfl,⟨v3,Dq⟩,hb3,hk3⟩;have hS:gW (w.heap.size+1) w2 w3:=Below.trans aA.out hb3;have Zf:=Lib.hid Dq;have Zg:=Lib.hid (show ∀ g t cs,aj w2 g t cs->g≠w.heap.size+1->g≠g5+1->vl.ownBlock≠some g->aj w3 g t cs from fun g t cs h=>hk3 g t cs (h.keep (bD (bR w2))));clear hb3 hk3 Dq;clear aA;refine hK.out _ _ hS (fun _=>?_);clear hK K
      try simp only [pu]
      refine bM ?_;refine aC.down _ _ ?_;have hB:Below ((w.heap.size+1)) w2 _:=hS;clear hS aC ak;go_wp2_with fail;go_meet
      case rel => exact ⟨v3,Zf.out,hB,Zg.out⟩
    case rest =>
     obtain ⟨v3,Dq,hB3,hk3⟩:=hcut;have uZ:=Lib.hid (show RowKit.Below w.heap.size w wc from Below.trans (bT Hb.out HW2.out) (hB3.mono (by omega)));have KR:=Lib.hid ((bY.out.keep HW2.out).below hB3 (by omega));have Ir:=Lib.hid (hk3 g5 _ _ (bK.out.keep HW2.out) (by omega) (by omega) (Own.dM yH.out.own bK.out (by decide)));have afb:=hk3 wr.heap.size _ _ wU.out (by omega) (by omega) (fun e=>by have:=(yH.out.own.lt _ e).2;omega);have HOW:=Lib.hid (fM.out.anq (fun g t cs hg hx=>hk3 g t cs hx (by simp only [World.size_alloc] at hg;omega) (by simp only [World.size_alloc] at hg;omega) (fun e=>by have:=(yH.out.own.lt _ e).2;simp only [World.size_alloc] at hg;omega)));have KQ:=Lib.hid Dq;have Iu:=Lib.hid (Own.dM Dq.own Ir.out (by decide));have hf3:=OJ Hf.out anv.out;have HF3:=Lib.hid hf3;have hz3:=hB3.size;clear Dq hB3 hk3 hf3 dU jX jY jZ Em GL GN GR e10 e11;have dU:=afb;clear afb
     try clear jX
     try clear jY
     try clear jZ
     try clear Em
     try clear GL
     try clear GN
     try clear GR
     obtain ⟨jX,jY,jZ,Em,GL,GN,GR,-,-,-,-,-,-⟩:=dU.kZ
     cases hb2:(a.dst == nd.id)
     case false =>
      have hD:D1=D0++[a.id]:=by rw [dQ.out,if_pos (by simpa using HB1.out),if_neg (by simpa using hb2)];simp
      go_wp2_with fail;go_roundw
      case rel => exact ⟨k+1,_,v3,cnt+1,by omega,by go_num,by omega,by rw [show dL (List.take (k+1) p.ah) nd.id=D0++[a.id] from HD1.out.trans hD];exact KQ.out,by rw [show dL (List.take (k+1) p.ah) nd.id=D0++[a.id] from HD1.out.trans hD];exact HF3.out,uZ.out,KR.out,Ir.out⟩
      case measure => simp [intOf];omega
     case true =>
      have hD:D1=D0++[a.id]++[-a.id]:=by rw [dQ.out,if_pos (by simpa using HB1.out),if_pos (by simpa using hb2)];simp
      have hP2:vn<P.length:=by have:=yI.out;omega
      obtain ⟨bp,op,mX,hlp,e20,e21⟩:=Row.pt (HOW.out.ae5) hP2;have hp2:P.getD vn aB=P[vn]:=by simp only [List.getD_eq_getElem?_getD,List.getElem?_eq_getElem hP2,Option.getD_some]
      have OM:=Lib.hid (ae9.out.trans hp2);clear hp2;generalize P[vn]=p2 at *
      first | subst mX | (simp only [Option.some.injEq,Addr.mk.injEq,and_true] at mX;obtain ⟨rfl,rfl⟩:=mX)
      have k2:IntKind.i64.wrap ((vn:Int)+2-2)=vn:=by rw [show (vn:Int)+2-2=vn by omega];exact IntWalk.i64_in _ (by omega)
      have k3:IntKind.i64.wrap (vn:Int)=vn:=IntWalk.i64_in _ (by omega);have k4:(vn:Int)<(vn:Int)+2:=by omega
      have k5:0<=(vn:Int):=by omega
      have k6:(vn:Int)+2-2=vn:=by omega
      go_upto_region 15 with fail;refine bZ (gW ((w.heap.size+1)) wc) (.take 0 1 (.take 1 3 (.run 5 4 3 (.two 2 503 (.take 3 511 (.call 9 1023 (.call 10 2047 (.done)))) 9 1011 (.call 2 1015 (.take 3 1023 (.call 10 2047 (.done)))))))) (by kernel_rfl) (Below.drew (Below.refl _ _)) (by kernel_rfl) (by kernel_rfl) (Nat.le_of_ble_eq_true (by kernel_rfl)) ?_;intro cO QR ak aC hS
      iterate 7
       apply lK;exact ak;exact rfl;exact hS;exact rfl
       · intro _ hqc;go_simp;try rfl
       try simp only [pu]
      refine Ae (i:=2) (j:=9) (aG ak rfl) (aG ak rfl) (fun K hK=>?_) (fun K hK=>?_)
      ·have aA:=Lib.hid hS;clear hS;refine aO (aV rfl) ?_;go_simp;refine hK.out _ _ aA.out (fun hS=>?_);clear hK K aA
       try simp only [pu]
       apply lK;exact ak;exact rfl;exact hS;exact rfl
       · intro _ hqc;go_simp;try rfl
       try simp only [pu]
       refine aT (i:=9) (aG ak rfl) (fun K hK=>?_);have aA:=Lib.hid hS;clear hS;refine aO (aV rfl) ?_;go_simp;refine hK.out _ _ aA.out (fun hS=>?_);clear hK K aA
       try simp only [pu]
       refine aT (i:=10) (aG ak rfl) (fun K hK=>?_);have aA:=Lib.hid hS;clear hS;refine aO (aV rfl) ?_;go_simp;refine (mZ.out (-a.id) p2 (w.heap.size+1) (w.heap.size+1) (g5+1+1) (g5+1) (cnt+1) (D0++[a.id]) (fun i=>if i=a.id then p1 else f i) v3 _ (KQ.out.keep (bD (bR wc))) (by simp;omega) (by omega) (by have:=HLen.out;(try simp only [List.length_append,List.length_singleton]);omega) Tm.out).mono ?_;rintro e w4 ⟨rfl,⟨v4,zL⟩,hb4,hk4⟩;have hS:gW (w.heap.size+1) wc w4:=Below.trans aA.out hb4;have Iw:=Lib.hid zL;have Iy:=Lib.hid (hk4 g5 _ _ (Ir.out.keep (bD (bR wc))) (by omega) (by omega) Iu.out);clear hb4 hk4 zL;clear aA;refine hK.out _ _ hS (fun _=>?_);clear hK K
       try simp only [pu]
       refine bM ?_;refine aC.down _ _ ?_;have hB:Below ((w.heap.size+1)) wc _:=hS;clear hS aC ak;go_wp2_with fail;go_roundw
       case rel => exact ⟨k+1,_,v4,cnt+1+1,by omega,by go_num,by omega,by rw [show dL (List.take (k+1) p.ah) nd.id=D0++[a.id]++[-a.id] from HD1.out.trans hD];exact Iw.out,(fun d hd=>by rw [show dL (List.take (k+1) p.ah) nd.id=D0++[a.id]++[-a.id] from HD1.out.trans hD] at hd;exact OJ HF3.out OM.out d hd),Below.trans uZ.out (hB.mono (by omega)),KR.out.below hB (by omega),Iy.out⟩
       case measure => simp [intOf];omega
      ·have aA:=Lib.hid hS;clear hS;refine aO (aV rfl) ?_;go_simp;refine hK.out _ _ aA.out (fun hS=>?_);clear hK K aA
       try simp only [pu]
       refine aT (i:=2) (aG ak rfl) (fun K hK=>?_);have aA:=Lib.hid hS;clear hS;refine aO (aV rfl) ?_;go_simp;refine hK.out _ _ aA.out (fun hS=>?_);clear hK K aA
       try simp only [pu]
       apply lK;exact ak;exact rfl;exact hS;exact rfl
       · intro _ hqc;go_simp;try rfl
       try simp only [pu]
       refine aT (i:=10) (aG ak rfl) (fun K hK=>?_);have aA:=Lib.hid hS;clear hS;refine aO (aV rfl) ?_;go_simp;refine (mZ.out (-a.id) p2 (w.heap.size+1) (w.heap.size+1) (g5+1+1) (g5+1) (cnt+1) (D0++[a.id]) (fun i=>if i=a.id then p1 else f i) v3 _ (KQ.out.keep (bD (bR wc))) (by simp;omega) (by omega) (by have:=HLen.out;(try simp only [List.length_append,List.length_singleton]);omega) Tm.out).mono ?_;rintro e w4 ⟨rfl,⟨v4,zL⟩,hb4,hk4⟩;have hS:gW (w.heap.size+1) wc w4:=Below.trans aA.out hb4;have Iw:=Lib.hid zL;have Iy:=Lib.hid (hk4 g5 _ _ (Ir.out.keep (bD (bR wc))) (by omega) (by omega) Iu.out);clear hb4 hk4 zL;clear aA;refine hK.out _ _ hS (fun _=>?_);clear hK K
       try simp only [pu]
       refine bM ?_;refine aC.down _ _ ?_;have hB:Below ((w.heap.size+1)) wc _:=hS;clear hS aC ak;go_wp2_with fail;go_roundw
       case rel => exact ⟨k+1,_,v4,cnt+1+1,by omega,by go_num,by omega,by rw [show dL (List.take (k+1) p.ah) nd.id=D0++[a.id]++[-a.id] from HD1.out.trans hD];exact Iw.out,(fun d hd=>by rw [show dL (List.take (k+1) p.ah) nd.id=D0++[a.id]++[-a.id] from HD1.out.trans hD] at hd;exact OJ HF3.out OM.out d hd),Below.trans uZ.out (hB.mono (by omega)),KR.out.below hB (by omega),Iy.out⟩
       case measure => simp [intOf];omega
open Go.RowKit Go.Sort
def Dt (l:List Int) (x:Int):Int:=match l.findIdx? (fun y=>y == x) with
 | none=>-1
 | some k=>k
theorem anw {l:List Int} {x:Int} {k:Nat} (hk:k<l.length) (hno:∀ j (hj:j<l.length),j<k->(l[j] == x)=false) (he:(l[k] == x)=true):l.findIdx? (fun y=>y == x)=some k:=by
 rw [List.findIdx?_eq_some_iff_getElem];exact ⟨hk,he,fun j hj=>by simpa using hno j (by omega) hj⟩
theorem anx {l:List Int} {x:Int} (hno:∀ j (hj:j<l.length),(l[j] == x)=false):l.findIdx? (fun y=>y == x)=none:=by
 rw [List.findIdx?_eq_none_iff];intro y hy;obtain ⟨j,hj,rfl⟩:=List.mem_iff_getElem.1 hy;exact hno j hj
set_option maxHeartbeats 400000 in
theorem afc (v:Value) (l:List Int) (x:Int) (w:World) (h:Ints w v l) :
  Calls Tryz.prog 78 #[v,.int .i64 x] w fun e w'=>e=.returned (.int .i64 (Dt l x))/\Below w.heap.size w w':=by
 obtain ⟨A,c,rfl,hn,hc,hR⟩:=h;unfold maxLen at hc;obtain ⟨q,hq⟩:∃ q,Dt l x=q:=⟨_,rfl⟩;rw [hq];have Hq:=Lib.hid hq;clear hq;go_enter Tryz.func78,Tryz.ntmps78;go_wp2_with fail;go_loopw [8] (fun i wr=>∃ k:Nat,k<=l.length/\i=.int .i64 k/\Below w.heap.size w wr/\∀ j (hj:j<l.length),j<k->(l[j] == x)=false) (fun i _=>l.length-(intOf i).toNat)
 case atStart => exact ⟨0,Nat.zero_le _,rfl,bR w,fun j _ h=>by omega⟩
 case round =>
  obtain ⟨k,hk,rfl,hb,hno⟩:=hrel;have Hb:=Lib.hid hb;have Hno:=Lib.hid hno;clear hb hno;by_cases hlt:k<l.length
  ·obtain ⟨b,o,rfl,hlb,c0⟩:=(hR.mono Hb.out).int hlt;have HR:=Lib.hid hR;clear hR
   cases he:(l[k] == x)
   ·go_wp2_with fail;go_roundw
    case rel => exact ⟨k+1,by omega,by go_num,Hb.out,all_succ (p:=fun y=>(y == x)=false) Hno.out hlt he⟩
    case measure => simp [intOf];omega
   ·have hf:=Lib.hid (anw hlt Hno.out he);have he2:(x == l[k])=true:=by simpa using (beq_iff_eq.1 he).symm
    go_wp2_with fail;go_ret;exact ⟨fA (by rw [<- Hq.out];unfold Dt;rw [hf.out]),Hb.out⟩
  ·have hf:=Lib.hid (anx (fun j hj=>Hno.out j hj (by omega)));go_wp2_with fail;go_ret;exact ⟨fA (by rw [<- Hq.out];unfold Dt;rw [hf.out]),Hb.out⟩
set_option maxHeartbeats 1000000 in
theorem anz (v:Value) (l:List Int) (d:Int) (w:World) (h:Ints w v l) (hl:l.length<=1000000) :
  Calls Tryz.prog 117 #[v,.int .i64 d] w fun e w'=>e=.returned (.int .i64 (precD l d))/\Below w.heap.size w w':=by
 have HI:=Lib.hid (afc v l d w h);obtain ⟨A,c,rfl,hn,hc,hR⟩:=h;unfold maxLen at hc;obtain ⟨q,hq⟩:∃ q,precD l d=q:=⟨_,rfl⟩;rw [hq];unfold Dt at HI;unfold precD at hq;have HR:=Lib.hid hR;clear hR
 cases hi:l.findIdx? (fun y=>y == d) with
 | none =>
  rw [hi] at HI hq;simp only at HI hq;subst hq;clear hi;go_enter Tryz.func117,Tryz.ntmps117;go_wp2_with fail;refine HI.out.mono ?_;rintro e w1 ⟨rfl,hb1⟩;have B1:=Lib.hid hb1;clear hb1;go_wp2_with fail;go_ret;exact ⟨rfl,B1.out⟩
 | some k =>
  rw [hi] at HI hq;simp only at HI hq;have hk:k<l.length:=(List.findIdx?_eq_some_iff_getElem.1 hi).1;clear hi;have hm:(k+l.length-1) % l.length<l.length:=Nat.mod_lt _ (by omega);have hq2:l[(k+l.length-1) % l.length]=q:=by
   rw [<- hq];simp only [List.getD_eq_getElem?_getD,List.getElem?_eq_getElem hm,Option.getD_some]
  have htm:Int.tmod ((k:Int)+(l.length:Int)-1) (l.length:Int)=((k+l.length-1) % l.length:Nat):=by
   rw [Int.tmod_eq_emod_of_nonneg (by omega),show (k:Int)+(l.length:Int)-1=((k+l.length-1:Nat):Int) by omega];exact (Int.natCast_emod _ _).symm
  clear hq;generalize hM:(k+l.length-1) % l.length=m at *;have Hq2:=Lib.hid hq2;clear hq2 hM;have h0:¬ (k:Int)<0:=by omega
  have g1:IntKind.i64.wrap ((k:Int)+(l.length:Int))=(k:Int)+(l.length:Int):=IntWalk.i64_in _ (by omega);have g2:IntKind.i64.wrap ((k:Int)+(l.length:Int)-1)=(k:Int)+(l.length:Int)-1:=IntWalk.i64_in _ (by omega);have g3:¬ (l.length:Int)=0:=by omega
  have g4:IntKind.i64.wrap (m:Int)=m:=IntWalk.i64_in _ (by omega);have g5:(m:Int)<l.length:=by omega
  have g6:0<=(m:Int):=by omega
  have hne:l.length≠0:=by omega
  have hne':l≠[]:=by intro e;rw [e] at hne;exact hne rfl
  have Hne:=Lib.hid hne;clear hne;go_enter Tryz.func117,Tryz.ntmps117;go_wp2_with fail;refine HI.out.mono ?_;rintro e w1 ⟨rfl,hb1⟩;have B1:=Lib.hid hb1;clear hb1;obtain ⟨b,o,rfl,hlb,c0⟩:=(HR.out.mono B1.out).int hm;rw [Hq2.out] at c0;go_wp2_with fail;go_ret;exact ⟨rfl,B1.out⟩
theorem Valid.afd {p:Pl} (h:Valid p) (n:Int):(dB p n).length<=512:=by
 cases hf:mJ p.nodes n with
 | none=>simp [dB,hf]
 | some nd =>
  have hm:nd∈p.nodes:=List.mem_of_find?_eq_some hf;have hid:nd.id=n:=by have:=List.find?_some hf;simpa using this
  subst hid;rw [(h.oV hm).length_eq];have h1:=Ze p.ah nd.id;have hl:=h.lim;unfold nN at hl;simp only [Bool.or_eq_false_iff,decide_eq_false_iff_not] at hl;omega
open Go.RowKit Go.Sort
def rP (l:List Int):List Int:=l.mergeSort fun x y=>decide (x<=y)
theorem Zh (l:List Int):(rP l).Perm l:=List.mergeSort_perm _ _
theorem afe (l:List Int):(rP l).length=l.length:=(Zh l).length_eq
theorem aff (l:List Int):(rP l).Pairwise (·<=·):=by
 have:=List.pairwise_mergeSort (le:=fun (x y:Int)=>decide (x<=y)) (fun a b c h1 h2=>by simp only [decide_eq_true_eq] at *;omega) (fun a b=>by simp only [Bool.or_eq_true,decide_eq_true_eq];omega) l
 exact this.imp (fun h=>by simpa using h)
theorem anA {l m:List Int} (hp:l.Perm m) (hs:m.Pairwise (· < ·)):rP l=m:=by
 refine JY (lt:=fun a b=>decide (a<b)) ((Zh l).trans hp) ?_ ?_ (fun a _ b _ h1 h2=>by simp only [decide_eq_false_iff_not] at *;omega)
 · exact (aff l).imp (fun h=>by simpa using h)
 · exact hs.imp (fun h=>by simp only [decide_eq_false_iff_not];omega)
theorem Zi (w:World) (n:Nat) (blk off:Nat) (d:Array Int) (os:Array Obj):(grow (putRow (Value.int .i64) (Sort.ahead w n) blk off d) os).heap=w.heap.modify blk (onCells (putCells (Value.int .i64) off d))++os:=rfl
theorem anB (w:World) (n:Nat) (blk off:Nat) (d:Array Int) (os:Array Obj):w.grownBy (grow (putRow (Value.int .i64) (Sort.ahead w n) blk off d) os) (some blk):=by
 refine ⟨rfl,rfl,rfl,?_,fun i hi hne=>?_⟩
 · rw [Zi];simp
 ·have hne':blk≠i:=fun e=>hne (by rw [e]);rw [Zi,Array.getElem?_append_left (by simpa using hi),Array.getElem?_modify,if_neg hne']
set_option maxHeartbeats 1000000 in
theorem afg (base:Nat) (v:Value) (sl:List Int) (w:World) (hown:Own w base 3 1 dO v sl) (hn:sl.length<=4294967296) :
  Calls Tryz.prog 118 #[v] w (aeW w base v (rP sl)):=by
 rcases sl with _ | ⟨s0,rest⟩
 ·have hv:∃ p cap,v=.slice p 0 cap:=by
   rcases hown.2 with ⟨h,_⟩ | ⟨g,cap,cur,h,_⟩
   · exact ⟨_,_,h⟩
   · exact ⟨_,_,h⟩
  obtain ⟨p,cap,rfl⟩:=hv;refine Calls.mono (AnyM.slices_Sort_int_none Tryz.sortN p cap w) ?_;rintro e w' ⟨rfl,rfl⟩;exact ⟨rfl,by rw [show rP []=[] by simp [rP]];exact hown,World.grownBy.refl _ _⟩
 generalize hsl:s0::rest=sl at *;have hpos:0<sl.length:=by rw [<- hsl];simp
 obtain ⟨hlen,hown2⟩:=hown;rcases hown2 with ⟨_,h0⟩ | ⟨g,cap,cur,rfl,hg,hh,hnc,hcm,hcs,hx⟩
 · omega
 have hcur:∀ j,j<sl.length->cur[j]? = (sl[j]?).map (.int .i64 ·):=fun j hj=>by
  rw [<- Td,<- hx,List.getElem?_take,if_pos (by omega)];simp
 have hH:Holds (Value.int .i64) w g 0 sl.toArray:=fun j hj=>by
  have hj':j<sl.length:=by simpa using hj
  refine ⟨?_,aj.frozen (t:=3) (cs:=cur) hh _⟩;rw [cell_of_row w g _ cur 3 (0,0) hh,Nat.zero_add,hcur j hj',getElem!_pos sl.toArray j hj,List.getElem?_eq_getElem hj'];simp
 refine Calls.mono (AnyM.slices_Sort_int Tryz.sortN g 0 cap sl w hH (aj.lt hh) (by omega)) ?_;rintro e w' ⟨rfl,n,os,rfl⟩;have hl':(rP sl).length=sl.length:=afe sl;refine ⟨rfl,?_,anB w n g 0 _ os⟩;unfold Own;rw [hl'];refine ⟨by rw [Tf,hl'];omega,.inr ⟨g,cap,putCells (Value.int .i64) 0 (rP sl).toArray cur,rfl,hg,?_,hnc,hcm,by simp [putCells,hcs],?_⟩⟩
 ·have hgl:g<w.heap.size:=aj.lt hh
  show (grow (putRow (Value.int .i64) (Sort.ahead w n) g 0 (rP sl).toArray) os).heap[g]? = _
  rw [Zi,Array.getElem?_append_left (by simpa using hgl),Array.getElem?_modify,if_pos rfl,hh];rfl
 ·apply List.ext_getElem?;intro j;rw [List.getElem?_take];by_cases hj:j<sl.length*1
  ·rw [if_pos hj];have hjc:j<cur.size:=by rw [hcs];omega
   have hjd:j<(rP sl).length:=by rw [hl'];omega
   rw [Td,List.getElem?_eq_getElem hjd];have e1:(putCells (Value.int .i64) 0 (rP sl).toArray cur).toList[j]? = some (.int .i64 (rP sl).toArray[j]!):=by
    simp [putCells,hjc,hjd]
   rw [e1,getElem!_pos (rP sl).toArray j (by simpa using hjd)];simp
  · rw [if_neg hj,List.getElem?_eq_none (by rw [Tf,hl'];omega)]
def kY (x:List Int×SV):List Value:=[.slice x.2.a x.2.n x.2.c]
theorem OO (x:List Int×SV):(kY x).length=1:=rfl
theorem OQ (x:List Int×SV):∀ u∈kY x,u.oneCell'=true:=by simp [kY,Value.oneCell']
theorem OT:Elem Tryz.prog 60 24 1 24:=Elem.rZ (z:=.slice none 0 0) (by kernel_rfl) (by kernel_rfl) rfl (by omega)
def Fz (w:World) (B:Nat) (v:Value) (L:List (List Int×SV)):Prop :=
 Own w B 24 1 kY v L/\∀ x∈L,Own w B 3 1 dO (.slice x.2.a x.2.n x.2.c) x.1
theorem Fz.keep {w w':World} {B:Nat} {v:Value} {L:List (List Int×SV)} (h:Fz w B v L) (hb:Below w.heap.size w w'):Fz w' B v L :=
 ⟨h.1.keep hb,fun x hx=>(h.2 x hx).keep hb⟩
def afh (w:World) (l:List (List Int)) (z:Int) (e:Ending) (w':World):Prop :=
 ∃ A c L,e=.returned (.tuple #[.slice A l.length c,.int .i64 z])/\Below w.heap.size w w'/\L.map (·.1)=l/\Fz w' w.heap.size (.slice A l.length c) L
theorem Du {w:World} {gm n:Nat} {f:Int->Int} (h:fQ w gm n f) {g:Nat} {t:TypeId} {cs:Array Value} (hg:aj w g t cs):g≠gm:=by
 rintro rfl;obtain ⟨D,h1,-⟩:=h;obtain ⟨es,clock,h2,-⟩:=h1;unfold aj at hg;rw [hg] at h2
 cases h2
theorem OU {w:World} {gm n:Nat} {f:Int->Int} (h:fQ w gm n f) {base:Nat} {e:TypeId} {size:Nat} {α:Type} {fe:α->List Value} {v:Value} {l:List α} (ho:Own w base e size fe v l):v.ownBlock≠some gm:=by
 rcases ho.2 with ⟨rfl,_⟩ | ⟨g,cap,cur,rfl,_,hh,_⟩
 · simp [Value.ownBlock]
 ·intro e';exact Du h (cs:=cur) (g:=g) hh (by simpa [Value.ownBlock] using e')
theorem Own.row_in {w:World} {base:Nat} {A:Option Addr} {n c:Nat} {l:List Int} (h:Own w base 3 1 dO (.slice A n c) l):Row w A (l.flatMap dO):=by
 obtain ⟨A',c',he,_,_,hr⟩:=h.sl;injection he with e1 e2 e3;subst e1;exact hr
def nZ (p:Pl) (k:Nat):List Int:=(p.nodes.take k).flatMap fun n=>dB p n.id
def KT (p:Pl) (F:Int->Int) (L:List Int):Prop:=∀ e∈L,F (-e)=fU p (-e)
theorem afi (p:Pl) (k:Nat) (hk:k<p.nodes.length):nZ p (k+1)=nZ p k++dB p p.nodes[k].id:=by
 unfold nZ;rw [List.take_succ_eq_append_getElem hk,List.flatMap_append];simp
theorem anC {p:Pl} (h:Valid p) (k:Nat):(nZ p k).length<=512*k:=by
 induction k with
 | zero=>simp [nZ]
 | succ k ih =>
  by_cases hk:k<p.nodes.length
  ·rw [afi p k hk,List.length_append];have:=h.afd p.nodes[k].id
   omega
  ·have:nZ p (k+1)=nZ p k:=by
    unfold nZ;rw [List.take_of_length_le (by omega),List.take_of_length_le (by omega)]
   rw [this];omega
theorem Zj (p:Pl):nZ p p.nodes.length=p.nodes.flatMap fun n=>dB p n.id:=by
 unfold nZ;rw [List.take_length]
theorem KT.snoc {p:Pl} {F:Int->Int} {L:List Int} (h:KT p F L) {d x:Int} (hx:fU p (-d)=x):KT p (fun i=>if i=-d then x else F i) (L++[d]):=by
 intro e he;by_cases hd:e=d
 · subst hd;simp [hx]
 ·have hne:-e≠-d:=by omega
  simp only [List.mem_append,List.mem_singleton,hd,or_false] at he;simp only [hne,if_false];exact h e he
section
variable {p:Pl} (h:Valid p)
include h
theorem Valid.anD {n:Nd} (hn:n∈p.nodes) {d:Int} (hd:d∈dB p n.id):fU p (-d)=precD (dB p n.id) d/\d∈aQ p:=by
 obtain ⟨h1,h2⟩:=h.Hw ((h.oV hn).subset hd);obtain ⟨n',hn',e,hm,hx⟩:=h.J6 (Bf h1);rw [Int.neg_neg] at e hm hx;exact ⟨by rw [hx,e,h2],h1⟩
theorem Valid.Dv {d:Int} (hd:d∈aQ p):-1073741824<=d/\d<=1073741824:=by
 obtain ⟨a,ha,e⟩:=jD.1 hd;have:=h.jC ha
 omega
theorem Valid.anE:rP (nZ p p.nodes.length)=aQ p:=by
 rw [Zj];exact anA h.Xv h.RQ
theorem Valid.anF {F:Int->Int} (hF:KT p F (nZ p p.nodes.length)) {d:Int} (hd:d∈aQ p):F d=fU p d:=by
 have h1:-d∈nZ p p.nodes.length:=by
  rw [Zj];exact h.Xv.symm.subset (Bf hd)
 have:=hF _ h1
 rwa [Int.neg_neg] at this
theorem Valid.anG:(aQ p).length<=512:=by
 have hl:=h.lim;unfold nN at hl;simp only [Bool.or_eq_false_iff,decide_eq_false_iff_not] at hl;unfold aQ;simp only [List.length_append,List.length_reverse,List.length_map];omega
theorem Valid.KU:p.nodes.length<=256:=by
 have hl:=h.lim;unfold nN at hl;simp only [Bool.or_eq_false_iff,decide_eq_false_iff_not] at hl;omega
theorem Valid.anH (k:Nat):qO (fU p) (aQ p) ((aQ p).take k) (((aQ p).take k).foldl (wY (fU p) (aQ p)) []):=by
 have:=Xm (f:=fU p) (D:=aQ p) (fun x hx=>(h.uf hx).1) (fun x hx y hy=>h.CV hx hy) ((aQ p).take k) [] [] (qO.nil _ _) (fun x hx=>List.mem_of_mem_take hx) (by rw [List.nil_append];exact h.RQ.sublist (List.take_sublist _ _))
 rwa [List.nil_append] at this
end
theorem anI (f:Int->Int) (D:List Int) (k:Nat) (hk:k<D.length):(D.take (k+1)).foldl (wY f D) []=wY f D ((D.take k).foldl (wY f D) []) D[k]:=by
 rw [List.take_succ_eq_append_getElem hk,List.foldl_append];rfl
end Go.Proofs.YtialfdomhoojiaaGreat
