import Derived.Test.YtialfdomhoojiaaGreatJ08
import Derived.Test.YtialfdomhoojiaaGreatJ09
import Derived.Test.YtialfdomhoojiaaGreatJ10
import Derived.Test.YtialfdomhoojiaaGreatJ07
import Derived.Test.YtialfdomhoojiaaGreatJ04
import Derived.Test.YtialfdomhoojiaaGreatGB
import Derived.Shelf.SlSortCmp.NoneTotal
import Derived.Test.YtialfdomhoojiaaGreatSortB
import Derived.Test.YtialfdomhoojiaaGreatLaySortIn
import Derived.Test.YtialfdomhoojiaaGreatJ02
set_option linter.unusedSimpArgs false
set_option linter.unusedVariables false
namespace Go.Proofs.YtialfdomhoojiaaGreat
open Go.RowKit
theorem XL {w:World} {gm n:Nat} {f:Int->SV} (h:jZ w gm n f) {g:Nat} {t:TypeId} {cs:Array Value} (hg:ah w g t cs):g≠gm:=by
 rintro rfl;obtain ⟨D,h1,-⟩:=h;obtain ⟨es,clock,h2,-⟩:=h1;unfold ah at hg;rw [hg] at h2
 cases h2
theorem XM {w:World} {gm n:Nat} {f:Int->SV} (h:jZ w gm n f) {base:Nat} {e:TypeId} {size:Nat} {α:Type} {fe:α->List Value} {v:Value} {l:List α} (ho:Own w base e size fe v l):v.ownBlock≠some gm:=by
 rcases ho.2 with ⟨rfl,_⟩ | ⟨g,cap,cur,rfl,_,hh,_⟩
 · simp [Value.ownBlock]
 ·intro e';exact XL h (cs:=cur) (g:=g) hh (by simpa [Value.ownBlock] using e')
theorem aeR {w:World} {base:Nat} {e:TypeId} {size:Nat} {α:Type} {fe:α->List Value} {x:SV} {l:List α} (ho:Own w base e size fe (aP x) l):x.ok:=by
 obtain ⟨a,n,c⟩:=x;rcases ho.2 with ⟨h,_⟩ | ⟨g,cap,cur,h,_⟩
 · unfold aP at h;injection h with h1;exact .inl h1
 · unfold aP at h;injection h with h1;exact .inr ⟨g,0,h1⟩
structure uF (w:World) (b:Nat) (p:Pl) (f:Int->SV):Prop where
 mp:∃ n,jZ w b n f
 rd:∀ a∈p.au,bU w (aP (f a.id)) (aK p a)
theorem uF.keep {w w':World} {b:Nat} {p:Pl} {f:Int->SV} (h:uF w b p f) (hb:Below w.heap.size w w'):uF w' b p f:=by
 obtain ⟨⟨n,h1⟩,h2⟩:=h;exact ⟨⟨n,h1.keep hb⟩,fun a ha=>(h2 a ha).mono hb⟩
theorem uF.lt {w:World} {b:Nat} {p:Pl} {f:Int->SV} (h:uF w b p f):b<w.heap.size:=by
 obtain ⟨⟨n,h1⟩,h2⟩:=h;exact h1.lt
def aeS (w:World) (p:Pl) (e:Ending) (w':World):Prop:=∃ b f,e=.returned (.map (some b))/\Below w.heap.size w w'/\w.heap.size<=b/\uF w' b p f
set_option maxRecDepth 100000 in
set_option maxHeartbeats 8000000 in
theorem aeT (v:Value) (p:Pl) (w:World) (h:dh w v p) (hv:Valid p):Calls Tryz.prog 59 #[v] w (aeS w p):=by
 have jR:=Lib.hid (fun id W (hW:Below w.heap.size w W)=>DU v p id W (h.mono hW) hv.short);obtain ⟨_,_,_,al,rfl,hpa,⟨An,cn,rfl,-⟩,⟨⟨Aa,ca,rfl,hm1,hm2,fO⟩,GK⟩,⟨Af,cf,rfl,-⟩⟩:=h;unfold maxLen at hm2;have iV:=Lib.hid fO;have BD:=Lib.hid GK;have hall:al.length<=256:=by
  have hl:=hv.lim;unfold lH at hl;simp only [Bool.or_eq_false_iff,decide_eq_false_iff_not] at hl;have h2:=hl.2;rw [hpa,List.length_map] at h2;omega
 have o8:=Lib.hid (show ∀ k (hk:k<al.length),al[k].1∈p.au from fun k hk=>by rw [hpa];exact List.mem_map_of_mem (List.getElem_mem hk));have vC:=Lib.hid (show ∀ a∈p.au,∃ k,∃ hk:k<al.length,al[k].1=a from fun a ha=>by
  rw [hpa] at ha;obtain ⟨x,hx,rfl⟩:=List.mem_map.1 ha;obtain ⟨k,hk,rfl⟩:=List.mem_iff_getElem.1 hx;exact ⟨k,hk,rfl⟩)
 have lN:=Lib.hid (fun k (hk:k<al.length)=>hv.sound.path (o8.out k hk));have HIb:=Lib.hid (fun k (hk:k<al.length)=>hv.oC (o8.out k hk));have Pm:=Lib.hid (show ∀ j k (hj:j<al.length) (hk:k<al.length),j<k->al[j].1.id≠al[k].1.id from fun j k hj hk hjk e=>by
  have h1:=hv.sound.au;rw [hpa,List.map_map,List.pairwise_map,List.pairwise_iff_getElem] at h1;have:=h1 j k hj hk hjk
  simp only [Function.comp] at this;omega)
 generalize p.nodes.length=nn at *;generalize p.faces.length=nf at *;clear hpa fO GK hv;have hmm:=@run_makeMap Tryz.prog;go_enter Tryz.func59,Tryz.ntmps59;go_upto_region 2 with fail;obtain ⟨gm,hgm⟩:∃ gm,gm=w.heap.size+1:=⟨_,rfl⟩;obtain ⟨W1,hW⟩:∃ W:World,W=(w.alloc (.cells #[.slice An nn cn,.slice Aa al.length ca,.slice Af nf cf] 26)).alloc (.map #[] 0):=⟨_,rfl⟩;have X1:ah W1 w.heap.size 26 #[.slice An nn cn,.slice Aa al.length ca,.slice Af nf cf]:=by rw [hW];exact (ah.made rfl _ _).alloc _
 have jS:=Lib.hid (show jZ W1 gm 0 (fun _=>sv0) by
  have:=jZ.made (w.alloc (.cells #[.slice An nn cn,.slice Aa al.length ca,.slice Af nf cf] 26))
  rw [hW,hgm];simpa using this)
 have HB1:=Lib.hid (show Below w.heap.size w W1 by rw [hW];exact bA (bA (bR w) _) _);have hgl:w.heap.size<gm:=by omega
 rw [<- hW,<- hgm];clear hW hgm hmm;have iE:=Lib.hid X1;obtain ⟨aZ,bf,bg,bK,-,-,-⟩:=X1.aJ;go_upto_block 0 with fail;clear X1 aZ bf bg bK;go_wp2_with fail;go_loopw [12] (fun i wr=>∃ (k:Nat) (f:Int->SV),k<=al.length/\i=.int .i64 k/\jZ wr gm k f/\(∀ j (hj:j<al.length),j<k->Own wr w.heap.size 39 2 dG (aP (f al[j].1.id)) (aK p al[j].1))/\ah wr w.heap.size 26 #[.slice An nn cn,.slice Aa al.length ca,.slice Af nf cf]/\Below w.heap.size w wr) (fun i _=>al.length-(intOf i).toNat)
 case atStart => exact ⟨0,fun _=>sv0,Nat.zero_le _,rfl,jS.out,(fun j _ h=>by omega),iE.out,HB1.out⟩
 case round =>
  obtain ⟨k,f,hk,rfl,mp,own,X1,hb⟩:=hrel;obtain ⟨wo,rfl⟩:∃ wo:World,wo=wr:=⟨_,rfl⟩;have HM:=Lib.hid mp;have HO:=Lib.hid own;have HX:=Lib.hid X1;have Hb:=Lib.hid hb;have hzo:=hb.size;have hgo:=mp.lt;clear mp own hb iE jS HB1;by_cases hlt:k<al.length
  ·obtain ⟨b,o,rfl,hlb,c0,c1,c2,c3,c4,c5⟩:=(iV.out.mono Hb.out).ar hlt;obtain ⟨Av,cv,hvv,-⟩:=BD.out k hlt;rw [hvv] at c3;have hpo:=lN.out k hlt;have hib:=HIb.out k hlt;have hne:=fun j hj hjk=>Pm.out j k hj hlt hjk;have hpt:=jR.out al[k].1.id;rw [hpo] at hpt;have HP:=Lib.hid (show ∀ (f:Int->SV) W,(∀ j (hj:j<al.length),j<k->Own W w.heap.size 39 2 dG (aP (f al[j].1.id)) (aK p al[j].1))->Own W w.heap.size 39 2 dG (aP (f al[k].1.id)) (aK p al[k].1)->∀ j (hj:j<al.length),j<k+1->Own W w.heap.size 39 2 dG (aP (f al[j].1.id)) (aK p al[j].1) from fun f W h1 h2 j hj hjk=>by
    by_cases e:j=k
    · subst e;exact h2
    · exact h1 j hj (by omega))
   have wX:=Lib.hid hne;clear hvv hpo hne;generalize al[k].1=a at *;generalize aK p a=P at *;obtain ⟨aid,PE,PG,aeU,PI,aright⟩:=a;simp only at c0 c1 c2 c3 c4 c5 hib hpt HP wX;generalize aeU.length=vn at *;have HPk:=Lib.hid hpt;clear hpt;go_upto_region 5 with fail;obtain ⟨W5,hW⟩:∃ W:World,W=wo.alloc (.cells #[.int .i64 aid,.int .i64 PE,.int .i64 PG,.slice Av vn cv,.int .i64 PI,.int .i64 aright] 50):=⟨_,rfl⟩;have HA:=Lib.hid (show Below wo.heap.size wo W5 by rw [hW];exact bA (bR wo) _);have X5:ah W5 wo.heap.size 50 #[.int .i64 aid,.int .i64 PE,.int .i64 PG,.slice Av vn cv,.int .i64 PI,.int .i64 aright]:=by rw [hW];exact ah.made rfl _ _
   rw [<- hW];clear hW c0 c1 c2 c3 c4 c5 hlb;replace X1:=HX.out.keep HA.out;obtain ⟨bV,bW,dH,iR,qG,yJ,yK,-,-,-,-,-,-⟩:=X5.eY
   try clear aZ
   try clear bf
   try clear bg
   try clear bK
   obtain ⟨aZ,bf,bg,bK,-,-,-⟩:=X1.aJ;go_wp2_with fail;refine (HPk.out _ (bT Hb.out HA.out)).mono ?_;rintro e w6 ⟨A6,c6,rfl,hb6,Es⟩;simp only [Option.getD_some,Option.isSome_some,if_true] at Es ⊢;have lQ:=Lib.hid (bT HA.out hb6);have BF:=Lib.hid Es;have bP:=Lib.hid (show ah W5 wo.heap.size 50 #[.int .i64 aid,.int .i64 PE,.int .i64 PG,.slice Av vn cv,.int .i64 PI,.int .i64 aright] from X5);have X6:=bP.out.keep hb6;have vF:=Lib.hid (HM.out.keep lQ.out);have GL:=HA.out.size;have XO:=hb6.size;clear hb6 Es X5 bV bW dH iR qG yJ yK X1 aZ bf bg bK bP;obtain ⟨w7,hr7,XQ,wY⟩:=vF.out.upd (by omega) aid (nR (by omega) (by omega)) ⟨A6,P.length,c6⟩ (aeR (x:=⟨A6,P.length,c6⟩) BF.out);have HM7:=Lib.hid XQ;have nX:=fun (h:gm=w.heap.size)=>(show False by omega);have lK:=Lib.hid (ah.grow (HX.out.keep lQ.out) wY (fun e=>XL vF.out (HX.out.keep lQ.out) (Option.some.inj e)));have Kq:=Lib.hid (show Own w7 w.heap.size 39 2 dG (aP ⟨A6,P.length,c6⟩) P from Own.grown (Own.fM BF.out (by omega)) wY (fun g hg e=>XM vF.out BF.out (hg.trans e)));have HOo:=Lib.hid (show ∀ j (hj:j<al.length),j<k->Own w7 w.heap.size 39 2 dG (aP (f al[j].1.id)) (aK p al[j].1) from fun j hj hjk =>
    Own.grown ((HO.out j hj hjk).keep lQ.out) wY (fun g hg e=>XM vF.out ((HO.out j hj hjk).keep lQ.out) (hg.trans e)))
   have jT:=Lib.hid (bG (bT Hb.out lQ.out) wY (fun g hg=>by have:=Option.some.inj hg;omega));unfold aP at hr7;clear XQ wY nX;obtain ⟨gu,gI,iP,rU,yF,yG,yH,-,-,-,-,-,-⟩:=X6.eY;go_wp2_with fail;go_roundw
   case rel => exact ⟨k+1,fun i=>if i=aid then ⟨A6,P.length,c6⟩ else f i,by omega,by go_num,HM7.out,HP.out (fun i=>if i=aid then ⟨A6,P.length,c6⟩ else f i) w7 (fun j hj hjk=>by
    show Own w7 _ _ _ _ (aP (if _=aid then _ else _)) _
    rw [if_neg (wX.out j hj hjk)];exact HOo.out j hj hjk) (by
    show Own w7 _ _ _ _ (aP (if aid=aid then _ else _)) _
    rw [if_pos rfl];exact Kq.out),lK.out,jT.out⟩
   case measure => simp [intOf];omega
  ·obtain rfl:k=al.length:=by omega
   go_wp2_with fail;go_ret;exact ⟨gm,f,rfl,Hb.out,by omega,⟨_,HM.out⟩,fun a ha=>by
    obtain ⟨j,hj,rfl⟩:=vC.out a ha;exact (HO.out j hj hj).sl⟩
def lenV:Value->Nat
 | .slice _ n _=>n
 | _=>0
def qN (S:Int->Bool) (l:List Int) (x:Int):Bool:=S x || decide (x∈l)
theorem aeV (S:Int->Bool):qN S []=S:=by
 funext x;simp [qN]
theorem aeW (S:Int->Bool) (l:List Int) (y:Int):(fun i=>if i=y then true else qN S l i)=qN S (l++[y]):=by
 funext x
 unfold qN;by_cases e:x=y
 · subst e;simp
 · simp [e]
theorem aeX {f:Int->Int} {D:List Int} (hD:∀ x∈D,f x∈D) (hi:∀ x∈D,∀ y∈D,f x=f y->x=y) {x:Int} (hx:x∈D) {j:Nat} (hj:j<kW f D x):pw f x j∉iter f x j/\pw f x j∈jJ f D x:=by
 obtain ⟨-,-,-,-,h5,-⟩:=yY hD hi hx;constructor
 ·intro hm;obtain ⟨k,hk,e⟩:=yZ.1 hm;unfold jJ List.Nodup at h5;rw [List.pairwise_iff_getElem] at h5;have:=h5 k j (by rw [vk];omega) (by rw [vk];omega) hk
  rw [Eh,Eh] at this;exact this e
 · exact yZ.2 ⟨j,hj,rfl⟩
theorem aeY {f:Int->Int} {D:List Int} (hD:∀ x∈D,f x∈D) (hi:∀ x∈D,∀ y∈D,f x=f y->x=y) {x:Int} (hx:x∈D):pw f x (kW f D x)∈jJ f D x:=by
 obtain ⟨h1,-,h3,-,-,-⟩:=yY hD hi hx;rw [h3];exact yZ.2 ⟨0,h1,rfl⟩
def aeZ (w:World) (gm n:Nat) (S:Int->Bool) (l:List Int) (e:Ending) (w':World):Prop :=
 ∃ A c,e=.returned (.slice A l.length c)/\Own w' w.heap.size 3 1 dX (.slice A l.length c) l/\jL w' gm (n+l.length) (qN S l)/\w.grownBy w' (some gm)
theorem GN {w:World} {gm n:Nat} {f:Int->Bool} (h:jL w gm n f) {g:Nat} {t:TypeId} {cs:Array Value} (hg:ah w g t cs):g≠gm:=by
 rintro rfl;obtain ⟨D,h1,-⟩:=h;obtain ⟨es,clock,h2,-⟩:=h1;unfold ah at hg;rw [hg] at h2
 cases h2
theorem Et {w:World} {gm n:Nat} {f:Int->Bool} (h:jL w gm n f) {base:Nat} {e:TypeId} {size:Nat} {α:Type} {fe:α->List Value} {v:Value} {l:List α} (ho:Own w base e size fe v l):v.ownBlock≠some gm:=by
 rcases ho.2 with ⟨rfl,_⟩ | ⟨g,cap,cur,rfl,_,hh,_⟩
 · simp [Value.ownBlock]
 ·intro e';exact GN h (cs:=cur) (g:=g) hh (by simpa [Value.ownBlock] using e')
theorem Own.qO {α:Type} {w:World} {base:Nat} {e:TypeId} {size:Nat} {f:α->List Value} {v:Value} {l:List α} (h:Own w base e size f v l):∃ A c,v=.slice A l.length c/\l.length<=c/\c<=maxLen:=by
 obtain ⟨A,c,rfl,h1,h2,-⟩:=Own.sl h;exact ⟨A,c,rfl,h1,h2⟩
set_option maxRecDepth 100000 in
set_option maxHeartbeats 4000000 in
theorem ae0 (f:Int->Int) (D:List Int) (hD:∀ x∈D,f x∈D) (hi:∀ x∈D,∀ y∈D,f x=f y->x=y) (F:Int->Int) (hF:∀ x∈D,F x=f x) (hw:∀ x∈D,cZ x) (hl:D.length<=100000) (S:Int->Bool) (d:Int) (hd:d∈D) (hS:∀ x∈jJ f D d,S x=false)
  (gs gn gm gk n m:Nat) (w:World) (hn:n<=1000000) (h1:ah w gs 139 #[.map (some gm)]) (h2:ah w gn 96 #[.map (some gk)]) (hm:jL w gm n S) (hk:jK w gk m F) (hne:gm≠gk) :
  Calls Tryz.prog 119 #[.int .i64 d,.pointer (some ⟨gs,0,none⟩),.pointer (some ⟨gn,0,none⟩)] w (aeZ w gm n S (jJ f D d)):=by
 obtain ⟨o1,o2,o3,-,-,o6⟩:=yY hD hi hd;obtain ⟨q,hq⟩:∃ q,jJ f D d=q:=⟨_,rfl⟩;have XR:iter f d (kW f D d)=q:=hq;have XU:=Lib.hid (fun j (hj:j<kW f D d)=>aeX hD hi hd hj);have PK:=Lib.hid (fun j=>yX (f:=f) hD hd j);have hend:=aeY hD hi hd;rw [hq] at o6 hS hend XU ⊢;have HF:=Lib.hid hF;have HW:=Lib.hid hw;have HS:=Lib.hid hS;have ae1:=Lib.hid hend;have XV:=Lib.hid XR;have qP:=Lib.hid o6;clear hF hw hS hend XR o6 o3 hD hi hq hd;generalize kW f D d=N at *;have Hm0:=Lib.hid hm;have Hk0:=Lib.hid hk;have H1:=Lib.hid h1;have H2:=Lib.hid h2;have n1:=GN hm h1;have n2:=GN hm h2;have hlt1:=h1.lt;have hlt2:=h2.lt;have ajI:=hm.lt;have hltk:=hk.lt;clear hm hk h1 h2;go_enter Tryz.func119,Tryz.ntmps119;go_wp2_with fail;go_loopw [0,4] (fun x s wr=>∃ j:Nat,j<=N/\x=.int .i64 (pw f d j)/\(∃ A c,s=.slice A j c)/\Own wr w.heap.size 3 1 dX s (iter f d j)/\jL wr gm (n+j) (qN S (iter f d j))/\w.grownBy wr (some gm)) (fun _ s _=>N-lenV s)
 case atStart => exact ⟨0,Nat.zero_le _,rfl,⟨none,0,rfl⟩,Own.nil _ _ _ _ _,by rw [show iter f d 0=[] from rfl,aeV];exact Hm0.out,gR w _⟩
 case round =>
  obtain ⟨j,hj,rfl,⟨A,c,rfl⟩,own,mp,hg⟩:=hrel;have HO:=Lib.hid own;have HM:=Lib.hid mp;have HG:=Lib.hid hg;have X1:=H1.out.grow hg (fun e=>n1 (Option.some.inj e));have FD:w.heap.size<=wr.heap.size:=hg.size;clear own mp hg;obtain ⟨y,hy⟩:∃ y,pw f d j=y:=⟨_,rfl⟩;have hym:=PK.out j;have hy2:f y=pw f d (j+1):=by rw [<- hy];rfl
  have XW:F y=pw f d (j+1):=by rw [<- hy2];exact HF.out y (hy ▸ hym)
  have hwy:cZ y:=HW.out y (hy ▸ hym);have PN:=XU.out j;have hlk:=HM.out.look y hwy;rw [hy] at PN ⊢;have HY:=Lib.hid hy;have HFy:=Lib.hid XW;have XY:=Lib.hid hwy;have HN:=Lib.hid PN;have PO:=Lib.hid (hy ▸ hym);clear hym hy2 XW hwy PN;by_cases hlt:j<N
  ·have hsf:qN S (iter f d j) y=false:=by
    unfold qN;have h:=HN.out hlt;rw [HS.out y h.2];simpa using h.1
   rw [hsf] at hlk;obtain ⟨w3,hr3,kG,hg3⟩:=HM.out.upd (by omega) y XY.out true;rw [aeW] at kG;have hsn:iter f d j++[y]=iter f d (j+1):=by rw [WS,HY.out]
   rw [hsn] at kG;have mP:=Lib.hid kG;have BG:=Lib.hid (gT HG.out hg3);have iC:=Lib.hid (Own.grown HO.out hg3 (fun g' hg' e=>Et HM.out HO.out (by rw [hg',e])));have hsz3:wr.heap.size<=w3.heap.size:=hg3.size;have Kr:=Lib.hid hsn;clear hsf kG hg3 hsn hy;obtain ⟨aZ,bf,-⟩:=X1.fC;go_upto_region 3 with fail;clear hlk hr3 X1 aZ bf;go_upto_region 4 with
    (at_builtin
     refine jX _ rfl (.tmp 11) (.tmp 13) _ rfl (base:=w.heap.size) uQ qc uS rfl (Own.alloc iC.out _) rfl (l2:=[y]) (Sl.lit (n:=1) (ah.made rfl _ _) rfl (eG (by omega))) (by simp only [vk,List.length_cons,List.length_nil];omega) (by simp only [vk,List.length_cons,List.length_nil];omega) (by simp;omega) ?_;intro v1 w1 ho1 hg1 Eu;rw [Kr.out] at ho1;obtain ⟨A1,c1,hv1,-⟩:=Own.qO ho1;rw [vk] at hv1;subst hv1;have jI:=Lib.hid ho1;have hown:=iC.out.lt;have hG1:w.grownBy w1 (some gm):=⟨by rw [hg1.os];exact BG.out.os,by rw [hg1.tape];exact BG.out.tape,by rw [hg1.output];exact BG.out.output,Nat.le_trans BG.out.size (Nat.le_trans (by simp) hg1.size),fun i hi hne=>by
      rw [hg1.block i (by simp;have:=BG.out.size;omega) (fun e=>by have:=(hown i e.symm).1;omega),<- BG.out.block i hi hne];exact (bA (bR w3) (.cells #[.int .i64 y] 3)).block i (by have:=BG.out.size;omega)⟩
     have wZ:=Lib.hid hG1;have jS:=Lib.hid ((mP.out.keep (bA (bR w3) (.cells #[.int .i64 y] 3))).kept hg1 (fun e=>Et mP.out iC.out e.symm));clear ho1 hg1 Eu hG1 hown
     )
   have X2:=H2.out.grow wZ.out (fun e=>n2 (Option.some.inj e));have hlk2:=(Hk0.out.kept wZ.out (fun e=>hne (Option.some.inj e).symm)).look y XY.out;rw [HFy.out] at hlk2;obtain ⟨bF,bH,-⟩:=X2.fC;go_wp2_with fail;go_roundw
   case rel => exact ⟨j+1,by omega,rfl,⟨A1,c1,rfl⟩,jI.out,jS.out,wZ.out⟩
   case measure => simp only [lenV];omega
  ·have hjN:j=N:=by omega
   subst hjN;have hst:qN S (iter f d j) y=true:=by
    unfold qN;have h:=ae1.out;rw [HY.out,<- XV.out] at h;simp [h]
   rw [hst] at hlk;clear hst
   try clear aZ
   try clear bf
   obtain ⟨aZ,bf,-⟩:=X1.fC;go_wp2_with fail;go_ret;rw [XV.out] at HO HM;have hL:=qP.out;have ho:=HO.out;have hm:=HM.out;subst hL;exact ⟨A,c,rfl,ho,hm,HG.out⟩
theorem Ku (l:List Int) (j:Nat):(l.flatMap dX)[j]? = (l[j]?).map (.int .i64 ·):=by
 induction l generalizing j with
 | nil=>simp
 | cons a l ih =>
  rw [List.flatMap_cons]
  cases j with
  | zero=>rfl
  | succ j =>
   show (.int .i64 a::l.flatMap dX)[j+1]? = _
   rw [List.getElem?_cons_succ,ih,List.getElem?_cons_succ]
theorem Kv (l:List Int):(l.flatMap dX).length=l.length:=by
 have:=flat_length dX 1 qc l
 omega
def XZ (w:World) (base:Nat) (v:Value) (sl:List Int) (e:Ending) (w':World):Prop :=
 e=.returned (.tuple #[])/\Own w' base 3 1 dX v sl/\w.grownBy w' v.ownBlock
open Go.RowKit Go.Sort
def zx (lt:Int->Int->Bool) (x y:Int):Int:=if lt x y then -1 else if lt y x then 1 else 0
section
variable {α:Type} [Inhabited α] (enc:α->Value) (w:World)
theorem PU (blk off m:Nat) (dk:Array α) (os:Array Obj):(sortWorld enc w blk off m dk os).heap=w.heap.modify blk (onCells (putCells enc off dk))++os:=rfl
theorem X0 (blk off m:Nat) (dk:Array α) (os:Array Obj):w.grownBy (sortWorld enc w blk off m dk os) (some blk):=by
 refine ⟨rfl,rfl,rfl,?_,fun i hi hne=>?_⟩
 · rw [PU];simp
 ·have hne':blk≠i:=fun e=>hne (by rw [e]);rw [PU,Array.getElem?_append_left (by simpa using hi),Array.getElem?_modify,if_neg hne']
end
def GR (lt:Int->Int->Bool) (D:List Int) (x y:{x:Int // x∈D}):Int:=zx lt x.1 y.1
theorem Kw {lt:Int->Int->Bool} {D:List Int} (x y:{x:Int // x∈D}):ltOf (GR lt D) x y=lt x.1 y.1:=by
 unfold ltOf GR zx
 cases h1:lt x.1 y.1
 · cases h2:lt y.1 x.1<;>simp
 · simp
theorem ae2 {lt:Int->Int->Bool} {D:List Int} (ho:Bg lt D):SWO (ltOf (GR lt D)) where
 irrefl x:=by
  rw [Kw]
  cases h:lt x.1 x.1
  · rfl
  · have:=ho.asym _ x.2 _ x.2 h;rw [h] at this;cases this
 trans x y z h1 h2:=by
  rw [Kw] at *
  cases h:lt x.1 z.1
  ·have h3:=ho.asym _ y.2 _ z.2 h2;have:=ho.OZ _ x.2 _ z.2 _ y.2 h h3
   rw [h1] at this;cases this
  · rfl
 ntrans x y z h1 h2:=by
  rw [Kw] at *;exact ho.OZ _ x.2 _ y.2 _ z.2 h1 h2
set_option maxHeartbeats 1000000 in
theorem ae3 (base:Nat) (v:Value) (sl:List Int) (lt:Int->Int->Bool) (fn:Nat) (cb:Array Value) (w:World) (hown:Own w base 3 1 dX v sl) (ho:Bg lt sl) (hn:sl.length<=4294967296)
  (eg:∀ args w,(callFunc fn args).run Tryz.prog w=.ok (.enter fn args) w)
  (hc:∀ W,w.grownBy W v.ownBlock->∀ x∈sl,∀ y∈sl,Calls Tryz.prog fn (#[.int .i64 x,.int .i64 y]++cb) W fun e w'=>e=.returned (.int .i64 (zx lt x y))/\nP W w') :
  Calls Tryz.prog 175 #[v,.func (.func fn) #[] cb] w (XZ w base v (sortB lt sl)):=by
 rcases sl with _ | ⟨s0,rest⟩
 ·have hv:∃ p cap,v=.slice p 0 cap:=by
   rcases hown.2 with ⟨h,_⟩ | ⟨g,cap,cur,h,_⟩
   · exact ⟨_,_,h⟩
   · exact ⟨_,_,h⟩
  obtain ⟨p,cap,rfl⟩:=hv;refine Calls.mono (AnyF.slices_SortFunc_none {Tryz.sortIn with} p cap (.func (.func fn) #[] cb) w) ?_;rintro e w' ⟨rfl,rfl⟩;exact ⟨rfl,hown,World.grownBy.refl _ _⟩
 generalize hsl:s0::rest=sl at *;have hs0:s0∈sl:=by rw [<- hsl];simp
 have hpos:0<sl.length:=by rw [<- hsl];simp
 obtain ⟨hlen,hown2⟩:=hown;rcases hown2 with ⟨_,h0⟩ | ⟨g,cap,cur,rfl,hg,hh,hnc,hcm,hcs,hx⟩
 · omega
 haveI hI:Inhabited ({x:Int // x∈sl}):=⟨⟨s0,hs0⟩⟩
 have hdl:∃ dl:List ({x:Int // x∈sl}),dl.map (·.1)=sl:=⟨sl.attachWith (·∈sl) (fun _ h=>h),by simp⟩;obtain ⟨dl,hdl⟩:=hdl;have hdn:dl.length=sl.length:=by have:=congrArg List.length hdl;simpa using this
 have hcur:∀ j,j<sl.length->cur[j]? = (sl[j]?).map (.int .i64 ·):=fun j hj=>by
  rw [<- Ku,<- hx,List.getElem?_take,if_pos (by omega)];simp
 let enc:{x:Int // x∈sl}->Value:=fun x=>.int .i64 x.1
 have hcmp:CmpLays1 Tryz.prog fn cb enc (GR lt sl) g 0 dl.toArray.size w:=fun m os dk hdk x y=>by
  have hg':=X0 enc w g 0 m dk os;exact (hc _ hg' x.1 x.2 y.1 y.2).mono fun e w' h=>⟨h.1,VF h.2⟩
 have hget:∀ j,j<dl.length->sl[j]? = some (dl.toArray[j]!).1:=fun j hj=>by
  have e1:dl.toArray[j]! = dl[j]:=by rw [getElem!_pos dl.toArray j (by simpa using hj)];simp
  rw [e1]
  have:sl[j]? = (dl.map (·.1))[j]? := by rw [hdl]
  rw [this,List.getElem?_map,List.getElem?_eq_getElem hj];rfl
 have hH:Holds enc w g 0 dl.toArray:=fun j hj=>by
  have hj':j<dl.length:=by simpa using hj
  refine ⟨?_,ah.frozen (t:=3) (cs:=cur) hh _⟩;rw [cell_of_row w g _ cur 3 (0,0) hh,Nat.zero_add,hcur j (by omega),hget j hj'];rfl
 have hcon:=Any.slices_SortFunc Tryz.sortIn enc (fun _=>rfl) (GR lt sl) (ae2 ho) fn cb g 0 cap dl.toArray w eg hcmp hH (ah.lt hh) (by simp;omega);have hns:dl.toArray.size=sl.length:=by simp [hdn]
 rw [hns] at hcon;refine Calls.mono hcon ?_;rintro e w' ⟨rfl,d',n,os,hp,hs,rfl⟩;obtain ⟨p1,-,p3⟩:=hp;have hd':d'.size=sl.length:=by rw [p1,hns]
 have hperm:d'.toList.Perm dl:=by
  have e1:d'.extract 0 sl.length=d':=by rw [<- hd'];simp
  have e2:dl.toArray.extract 0 sl.length=dl.toArray:=by rw [<- hns];simp
  rw [e1,e2] at p3;simpa using p3
 have ae4:(d'.toList.map (·.1)).Perm sl:=by
  have h1:(d'.toList.map (·.1)).Perm (dl.map (·.1)):=hperm.map _;exact h1.trans (List.Perm.of_eq hdl)
 have hsorted:(d'.toList.map (·.1)).Pairwise (fun a b=>lt b a=false):=by
  rw [List.pairwise_map,List.pairwise_iff_getElem];intro i j hi hj hij;have hj':j<d'.size:=by simpa using hj
  have:=hs i j (Nat.zero_le _) hij (by rw [<- hd'];exact hj')
  rw [Kw,getElem!_pos d' j hj',getElem!_pos d' i (by omega)] at this;simpa using this
 have hd2:d'.toList.map (·.1)=sortB lt sl:=aed ho ae4 hsorted;refine ⟨rfl,?_,X0 enc w g 0 n d' os⟩;rw [<- hd2];have hl':(d'.toList.map (·.1)).length=sl.length:=by simp [hd']
 unfold Own;rw [hl'];refine ⟨by rw [Kv,hl'];omega,.inr ⟨g,cap,putCells enc 0 d' cur,rfl,hg,?_,hnc,hcm,by simp [putCells,hcs],?_⟩⟩
 ·have hgl:g<w.heap.size:=ah.lt hh;rw [PU,Array.getElem?_append_left (by simpa using hgl),Array.getElem?_modify,if_pos rfl,hh];rfl
 ·apply List.ext_getElem?;intro j;rw [List.getElem?_take];by_cases hj:j<sl.length*1
  ·rw [if_pos hj];have hjc:j<cur.size:=by rw [hcs];omega
   have hjd:j<d'.size:=by rw [hd'];omega
   rw [Ku,List.getElem?_map];have e1:(putCells enc 0 d' cur).toList[j]? = some (enc d'[j]!):=by
    simp [putCells,hjc,hjd]
   rw [e1,getElem!_pos d' j hjd,Array.getElem?_toList,Array.getElem?_eq_getElem hjd];rfl
  · rw [if_neg hj,List.getElem?_eq_none (by rw [Kv,hl'];omega)]
set_option maxHeartbeats 400000 in
theorem ae5 (v:Value) (l:List Pt) (w:World) (h:bU w v l) :
  Calls Tryz.prog 76 #[v] w fun e w'=>e=.returned (.bool (dU l))/\nP w w':=by
 obtain ⟨A,c,rfl,hn,hc,hR⟩:=h;unfold maxLen at hc;go_enter Tryz.func76,Tryz.ntmps76;go_wp2_with fail;go_loopw [7] (fun i wr=>∃ k:Nat,k<=l.length/\i=.int .i64 k/\nP w wr/\∀ j (hj:j<l.length),j<k->dI l[j]=true) (fun i _=>l.length-(intOf i).toNat)
 case atStart => exact ⟨0,Nat.zero_le _,rfl,⟨Below.refl _ _,dR w⟩,fun j _ h=>by omega⟩
 case round =>
  obtain ⟨k,hk,rfl,hb,hno⟩:=hrel;have Hb:=Lib.hid hb.1;have Hd:=Lib.hid hb.2;have Hno:=Lib.hid hno;have hs:=hb.1.size;clear hb hno;by_cases hlt:k<l.length
  ·obtain ⟨b,o,rfl,hlb,c0,c1⟩:=(hR.mono Hb.out).pt hlt;have HR:=Lib.hid hR;clear hR;by_cases hnr:dI l[k]=true
   ·have Hn:=Lib.hid hnr;obtain ⟨n1,n2,n3,n4⟩:=(tC _).1 hnr;clear hnr;go_wp2;go_roundw
    case rel => exact ⟨k+1,by omega,by go_num,⟨Hb.out.alloc hs _,dA Hd.out _⟩,all_succ (p:=fun x=>dI x=true) Hno.out hlt Hn.out⟩
    case measure => simp [intOf];omega
   ·have hn':dI l[k]=false:=by simpa using hnr
    have Hf:=Lib.hid (NG l k hlt hn');clear hn';have Fq:=Lib.hid hnr;clear hnr;go_wp2
    all_goals first
     | (go_ret;exact ⟨aT Hf.out.symm,Hb.out.alloc hs _,dA Hd.out _⟩)
     | (exfalso;exact Fq.out ((tC _).2 ⟨by omega,by omega,by omega,by omega⟩))
  ·go_wp2;go_ret;exact ⟨aT (NH l fun j hj=>Hno.out j hj (by omega)).symm,Hb.out,Hd.out⟩
set_option maxHeartbeats 400000 in
theorem ae6 (a b c:Pt) (w:World) (ha:lim a) (hb:lim b) (hc:lim c) :
  Calls Tryz.prog 77 #[aF a,aF b,aF c] w fun e w'=>e=.returned (.int .i64 (tw a b c))/\nP w w':=by
 obtain ⟨a1,a2,a3,a4⟩:=ha;obtain ⟨b1,b2,b3,b4⟩:=hb;obtain ⟨c1,c2,c3,c4⟩:=hc;obtain ⟨m1,m2⟩:=qj (b.x-a.x) (c.y-a.y) 4194304 (by omega) (by omega) (by omega) (by omega);obtain ⟨m3,m4⟩:=qj (b.y-a.y) (c.x-a.x) 4194304 (by omega) (by omega) (by omega) (by omega);simp only [Int.reduceMul,Int.reduceNeg] at m1 m2 m3 m4;unfold aF;go_enter Tryz.func77,Tryz.ntmps77;go_wp2;go_ret;exact ⟨dY rfl,(((Below.refl _ _).alloc (Nat.le_refl _) _).alloc (by simp) _).alloc (by simp;omega) _,dA (dA (dA (dR w) _) _) _⟩
set_option maxHeartbeats 1000000 in
theorem Yh (o p:Pt) (w:World):Calls Tryz.prog 235 #[aF o,aF p] w fun e w'=>e=.returned (.bool (ug o p))/\nP w w':=by
 unfold aF ug;by_cases h1:p.y<o.y
 ·go_enter Tryz.func235,Tryz.ntmps235;go_wp2_with fail;go_ret;exact ⟨aT (by simp [h1]),bA (bA (bR w) _) _,dA (dA (dR w) _) _⟩
 ·by_cases h2:p.y=o.y
  ·have h2':(p.y == o.y)=true:=by simpa using h2
   have H2:=Lib.hid h2;clear h2;by_cases h3:p.x<o.x
   ·go_enter Tryz.func235,Tryz.ntmps235;go_wp2_with fail;go_ret;exact ⟨aT (by simp [h1,H2.out,h3]),bA (bA (bR w) _) _,dA (dA (dR w) _) _⟩
   ·go_enter Tryz.func235,Tryz.ntmps235;go_wp2_with fail;go_ret;exact ⟨aT (by simp [h1,H2.out,h3]),bA (bA (bR w) _) _,dA (dA (dR w) _) _⟩
  ·have h2':(p.y == o.y)=false:=by simpa using h2
   have H2:=Lib.hid h2;clear h2;go_enter Tryz.func235,Tryz.ntmps235;go_wp2_with fail;go_ret;exact ⟨aT (by simp [h1,H2.out]),bA (bA (bR w) _) _,dA (dA (dR w) _) _⟩
theorem PV {p:Pt} (h:dI p=true):lim p:=(tC p).1 h
theorem PW {a b c:Pt} (h:dU [a,b,c]=true):lim a/\lim b/\lim c:=by
 simp only [dU,List.all_cons,List.all_nil,Bool.and_true,Bool.and_eq_true] at h;exact ⟨PV h.1,PV h.2.1,PV h.2.2⟩
set_option maxRecDepth 100000 in
set_option maxHeartbeats 4000000 in
theorem Yi (o a b:Pt) (w:World):Calls Tryz.prog 177 #[aF o,aF a,aF b] w fun e w'=>e=.returned (.bool (qE o a b))/\nP w w':=by
 have TN:=fun (v:Value) W=>ae5 v [o,a,b] W;have PX:=fun W=>Yh o a W;have PY:=fun W=>Yh o b W;have TT:=fun (h:dU [o,a,b]=true) W=>ae6 o a b W (PW h).1 (PW h).2.1 (PW h).2.2;have E1:=zV a o;have E2:=zV b o;obtain ⟨r,hr⟩:∃ r,qE o a b=r:=⟨_,rfl⟩;rw [hr];unfold qE at hr;unfold aF at PX PY TT ⊢;have HN:=Lib.hid TN;have H1:=Lib.hid PX;have H2:=Lib.hid PY;have HT:=Lib.hid TT;clear TN PX PY TT;generalize hz:dU [o,a,b]=z at *;generalize decide (a=o)=z1 at *;generalize decide (b=o)=z2 at *;generalize hl1:ug o a=l1 at *;generalize hl2:ug o b=l2 at *;generalize hq:decide (0<tw o a b)=q at *;have Hr:=Lib.hid hr;have Hq:=Lib.hid hq;have Hz:=Lib.hid hz;clear hr hq hz hl1 hl2;go_enter Tryz.func177,Tryz.ntmps177;go_wp2_with fail;have GU:Hid (bU ((((w.alloc (.cells #[.int .i64 o.x,.int .i64 o.y] 39)).alloc (.cells #[.int .i64 a.x,.int .i64 a.y] 39)).alloc (.cells #[.int .i64 b.x,.int .i64 b.y] 39)).alloc (.cells #[.int .i64 o.x,.int .i64 o.y,.int .i64 a.x,.int .i64 a.y,.int .i64 b.x,.int .i64 b.y] 39)) (.slice (some ⟨w.heap.size+1+1+1,0,none⟩) 3 3) [o,a,b]):=Lib.hid (bU.vX (ah.made (by simp) _ _));refine (HN.out _ _ GU.out).mono ?_;rintro e w1 ⟨rfl,hb1,hd1⟩;have B1:=Lib.hid (bT (bA (bA (bA (bA (bR w) _) _) _) _) hb1);have D1:=Lib.hid (dT (dA (dA (dA (dA (dR w) _) _) _) _) hd1);have dP:=Lib.hid (show ah w1 w.heap.size 39 #[.int .i64 o.x,.int .i64 o.y] from ((((ah.made rfl _ _).alloc _).alloc _).alloc _).keep hb1);have dJ:=Lib.hid (show ah w1 (w.heap.size+1) 39 #[.int .i64 a.x,.int .i64 a.y] from (((ah.made (by simp) _ _).alloc _).alloc _).keep hb1);have bP:=Lib.hid (show ah w1 (w.heap.size+1+1) 39 #[.int .i64 b.x,.int .i64 b.y] from ((ah.made (by simp) _ _).alloc _).keep hb1);clear hb1 hd1 GU HN;have X3:=dP.out;have X4:=dJ.out;have X5:=bP.out;obtain ⟨aW,aX,aY,-,-⟩:=X3.aO;obtain ⟨aU,aV,bQ,-,-⟩:=X4.aO;obtain ⟨bV,bW,dH,-,-⟩:=X5.aO
 cases z
 case false =>
  go_wp2_with fail;go_ret;exact ⟨aT (by rw [<- Hr.out];rfl),B1.out,D1.out⟩
 cases z1
 case true =>
  go_wp2_with fail;go_ret;exact ⟨aT (by rw [<- Hr.out];rfl),B1.out,D1.out⟩
 cases z2
 case true =>
  go_wp2_with fail;go_ret;exact ⟨aT (by rw [<- Hr.out];rfl),B1.out,D1.out⟩
 have hr:=Hr.out;simp only [Bool.true_and,Bool.not_false] at hr;have HT2:=Lib.hid (HT.out rfl);clear HT Hr Hz;go_upto_region 3 with fail;refine dN (Since w1) (.take 0 1 (.take 1 3 (.take 3 11 (.take 4 27 (.call 2 31 (.call 5 63 (.take 6 127 (.done)))))))) (by kernel_rfl) (bD (bR _)) (by kernel_rfl) (by kernel_rfl) (Nat.le_of_ble_eq_true (by kernel_rfl)) ?_;intro dO QR aj aA hS
 iterate 4
  apply aH;exact aj;exact rfl;exact hS;exact rfl
  · intro _ hqc;go_simp;try rfl
  try simp only [pu]
 refine aS (i:=2) (aB aj rfl) (fun K hK=>?_);have ak:=Lib.hid hS;clear hS;refine aG (aN rfl) ?_;go_simp;refine (H1.out _).mono ?_;rintro e bY ⟨rfl,dB,Yj⟩;have hS:Since w1 bY:=bT (w:=w1) ak.out dB;clear ak;refine hK.out _ _ hS (fun _=>?_);clear hK K
 try simp only [pu]
 refine aS (i:=5) (aB aj rfl) (fun K hK=>?_);have ak:=Lib.hid hS;clear hS;refine aG (aN rfl) ?_;go_simp;refine (H2.out _).mono ?_;rintro e wr2 ⟨rfl,fG,Yk⟩;have hS:Since w1 wr2:=bT (w:=w1) ak.out fG;clear ak;refine hK.out _ _ hS (fun _=>?_);clear hK K
 try simp only [pu]
 apply aH;exact aj;exact rfl;exact hS;exact rfl
 · intro _ hqc;go_simp;try rfl
 try simp only [pu]
 refine dF ?_;refine aA.down _ _ ?_;have hB:Below w1.heap.size w1 wr2:=hS;clear hS aA aj;have B2:=Lib.hid (bT B1.out hB);have D2:=Lib.hid (dT (dT (dD D1.out) Yj) Yk);replace dP:=Lib.hid (dP.out.keep hB);replace dJ:=Lib.hid (dJ.out.keep hB);replace bP:=Lib.hid (bP.out.keep hB);clear hB Yj Yk X3 X4 X5 aW aX aY aU aV bQ bV bW dH;have X3:=dP.out;have X4:=dJ.out;have X5:=bP.out
 try clear aW
 try clear aX
 try clear aY
 obtain ⟨aW,aX,aY,-,-⟩:=X3.aO
 try clear aU
 try clear aV
 try clear bQ
 obtain ⟨aU,aV,bQ,-,-⟩:=X4.aO
 try clear bV
 try clear bW
 try clear dH
 obtain ⟨bV,bW,dH,-,-⟩:=X5.aO;by_cases hl:l1=l2
 ·subst hl;rw [if_pos rfl] at hr;have Hr:=Lib.hid hr;clear hr
  cases l1
  all_goals
   go_wp2_with fail;refine (HT2.out _).mono ?_;rintro e w3 ⟨rfl,hb3,hd3⟩;have B3:=Lib.hid (bT B2.out hb3);have D3:=Lib.hid (dT D2.out hd3);clear hb3 hd3;go_wp2_with fail;go_ret;exact ⟨aT (by rw [<- Hr.out,<- Hq.out]),B3.out,D3.out⟩
 ·rw [if_neg hl] at hr;have Hr:=Lib.hid hr;have hl2:l2 = !l1:=by cases l1<;>cases l2<;>simp_all
  clear hl hr;subst hl2
  cases l1
  all_goals
   go_wp2_with fail;refine (H2.out _).mono ?_;rintro e w3 ⟨rfl,hb3,hd3⟩;have B3:=Lib.hid (bT B2.out hb3);have D3:=Lib.hid (dT D2.out hd3);clear hb3 hd3;go_wp2_with fail;go_ret;exact ⟨aT Hr.out,B3.out,D3.out⟩
open Go.RowKit Go.Sort
theorem Own.shape {α:Type} {w:World} {base:Nat} {e:TypeId} {size:Nat} {f:α->List Value} {v:Value} {l:List α} (h:Own w base e size f v l):∃ A c,v=.slice A l.length c/\l.length<=c/\c<=maxLen:=by
 obtain ⟨A,c,rfl,h1,h2,-⟩:=Own.sl h;exact ⟨A,c,rfl,h1,h2⟩
structure BH (w:World) (B g4 g7 gm n:Nat) (dl:List Int) (f:Int->Pt) (v:Value):Prop where
 x4:ah w g4 24 #[v]
 own:Own w B 3 1 dX v dl
 x7:ah w g7 189 #[.map (some gm)]
 mp:iI w gm n f
 b4:B<=g4
 bm:B<=gm
theorem PZ {w:World} {gm n:Nat} {f:Int->Pt} (h:iI w gm n f) {g:Nat} {t:TypeId} {cs:Array Value} (hg:ah w g t cs):g≠gm:=by
 rintro rfl;obtain ⟨D,h1,-⟩:=h;obtain ⟨es,clock,h2,-⟩:=h1;unfold ah at hg;rw [hg] at h2
 cases h2
theorem P5 {w:World} {gm n:Nat} {f:Int->Pt} (h:iI w gm n f) {base:Nat} {e:TypeId} {size:Nat} {α:Type} {fe:α->List Value} {v:Value} {l:List α} (ho:Own w base e size fe v l):v.ownBlock≠some gm:=by
 rcases ho.2 with ⟨rfl,_⟩ | ⟨g,cap,cur,rfl,_,hh,_⟩
 · simp [Value.ownBlock]
 ·intro e';exact PZ h (cs:=cur) (g:=g) hh (by simpa [Value.ownBlock] using e')
set_option maxRecDepth 100000 in
set_option maxHeartbeats 4000000 in
theorem ae7 (d:Int) (q:Pt) (B g4 g7 gm n:Nat) (dl:List Int) (f:Int->Pt) (v:Value) (w:World) (h:BH w B g4 g7 gm n dl f v) (hB:B<=w.heap.size) (hn:n<4294967296) (hl:dl.length<=1000000) (hd:cZ d) :
  Calls Tryz.prog 174 #[.int .i64 d,.agg #[.int .i64 q.x,.int .i64 q.y],.pointer (some ⟨g4,0,none⟩),.pointer (some ⟨g7,0,none⟩)] w fun e w'=>e=.returned (.tuple #[])/\(∃ v',BH w' B g4 g7 gm (n+1) (dl++[d]) (fun i=>if i=d then q else f i) v')/\Below B w w'/\∀ g t cs,ah w g t cs->g≠g4->g≠gm->v.ownBlock≠some g->ah w' g t cs:=by
 obtain ⟨x4,own,x7,mp,b4,bm⟩:=h;obtain ⟨A,c,rfl,-⟩:=Own.shape own;have dJ:=Lib.hid x4;have HO:=Lib.hid own;have lK:=Lib.hid x7;have HM:=Lib.hid mp;have n47:g4≠g7:=ah.vW x4 x7 (by decide);have GV:=PZ mp x4;have Ky:=PZ mp x7;have Kz:=Own.fD own x4 (by decide);have no7:=Own.fD own x7 (by decide);have GX:=P5 mp own;clear own mp;have Eb:=Lib.hid hd;clear hd;have X4:=x4;have X7:=x7;clear x4 x7;obtain ⟨aU,aV,dW⟩:=X4.fC;obtain ⟨fU,fV,-⟩:=X7.fC;go_enter Tryz.func174,Tryz.ntmps174;go_upto_region 1 with fail;obtain ⟨W0,hW⟩:∃ W:World,W=w.alloc (.cells #[.int .i64 q.x,.int .i64 q.y] 39):=⟨_,rfl⟩;have hA0:Below w.heap.size w W0:=by rw [hW];exact bA (bR w) _
 have X5:ah W0 w.heap.size 39 #[.int .i64 q.x,.int .i64 q.y]:=by rw [hW];exact ah.made rfl _ _
 rw [<- hW];clear hW;replace X4:=X4.keep hA0;replace X7:=X7.keep hA0;have Ym:=Lib.hid (HO.out.keep hA0);have AU:=Lib.hid (HM.out.keep hA0);have Yn:=Lib.hid hA0;have hlt4:g4<w.heap.size:=dJ.out.lt;have hz0:=hA0.size;clear hA0 aU aV dW fU fV
 try clear aU
 try clear aV
 try clear dW
 obtain ⟨aU,aV,dW⟩:=X4.fC;obtain ⟨bV,bW,dH,-,-⟩:=X5.aO
 try clear fU
 try clear fV
 obtain ⟨fU,fV,-⟩:=X7.fC;have n54:w.heap.size≠g4:=by omega
 have n57:w.heap.size≠g7:=by have:=lK.out.lt;omega
 have ajJ:=HM.out.lt;go_upto_region 2 with
  (at_builtin
   refine jX _ rfl (.tmp 6) (.tmp 8) _ rfl (base:=B) uQ qc uS rfl (Own.alloc Ym.out _) rfl (l2:=[d]) (Sl.lit (n:=1) (ah.made rfl _ _) rfl (eG (by omega))) (by simp only [List.length_cons,List.length_nil];omega) (by simp only [List.length_cons,List.length_nil];omega) (by simp;omega) ?_;intro v1 w1 ho1 hg1 Eu;obtain ⟨A1,c1,hv1,-⟩:=Own.shape ho1;rw [show (dl++[d]).length=dl.length+1 by simp] at hv1;subst hv1;have jI:=Lib.hid ho1;have hB1:Below B W0 w1:=Below.grown (Below.alloc (Below.refl _ _) (by omega) _) hg1 (by simp;omega) (fun g hg=>(Ym.out.lt g hg).1);have HB1:=Lib.hid hB1;have GY:some w.heap.size≠(Value.slice A dl.length c).ownBlock:=fun e=>by have:=(HO.out.lt _ e.symm).2;omega
   replace X4:=ah.grown (X4.alloc _) hg1 (fun e=>Kz e.symm);replace X5:=ah.grown (X5.alloc _) hg1 GY;replace X7:=ah.grown (X7.alloc _) hg1 (fun e=>no7 e.symm);have jS:=Lib.hid ((AU.out.keep (bA (bR W0) _)).kept hg1 (fun e=>GX e.symm));have HK1:=Lib.hid (fun g t cs (h:ah w g t cs) (hne:(Value.slice A dl.length c).ownBlock≠some g)=>ah.grown ((h.keep Yn.out).alloc (.cells #[.int .i64 d] 3)) hg1 (fun e=>hne e.symm));clear ho1 hg1 Eu hB1 aU aV dW bV bW dH fU fV
   try clear aU
   try clear aV
   try clear dW
   obtain ⟨aU,aV,dW⟩:=X4.fC
   try clear bV
   try clear bW
   try clear dH
   obtain ⟨bV,bW,dH,-,-⟩:=X5.aO
   try clear fU
   try clear fV
   obtain ⟨fU,fV,-⟩:=X7.fC
   )
 obtain ⟨W2,hW2⟩:∃ W:World,W=w1.setCell ⟨g4,0,none⟩ (.slice A1 (dl.length+1) c1):=⟨_,rfl⟩;have ae8:=Own.fD jI.out X4 (by decide);have Y4:ah W2 g4 24 #[.slice A1 (dl.length+1) c1]:=by rw [hW2];exact ah.Ny X4
 have Y7:ah W2 g7 189 #[.map (some gm)]:=by rw [hW2];exact X7.far (fun e=>n47 e.symm) _
 have Y5:ah W2 w.heap.size 39 #[.int .i64 q.x,.int .i64 q.y]:=by rw [hW2];exact X5.far n54 _
 have YO:Own W2 B 3 1 dX (.slice A1 (dl.length+1) c1) (dl++[d]):=by rw [hW2];exact jI.out.far ae8 _
 have YM:iI W2 gm n f:=by
  rw [hW2];exact jS.out.kept (row:=some g4) ⟨rfl,rfl,rfl,by simp,fun i _ hne=>Below.heap_setCell w1 ⟨g4,0,none⟩ _ i (fun e=>hne (by rw [e]))⟩ (fun e=>GV (Option.some.inj e).symm)
 have YB:Below B w W2:=by rw [hW2];exact (Below.trans (Yn.out.mono hB) HB1.out).setCell b4 _
 rw [<- hW2];clear X4 X5 X7 aU aV dW bV bW dH fU fV;obtain ⟨w3,hr3,kG,hg3⟩:=YM.upd hn d Eb.out q;have Z4:=Lib.hid (ah.grown Y4 hg3 (fun e=>GV (Option.some.inj e)));have Z7:=Lib.hid (ah.grown Y7 hg3 (fun e=>Ky (Option.some.inj e)));have ZO:=Lib.hid (Own.grown YO hg3 (fun g' hg' e=>P5 YM YO (by rw [hg',e])));have ZM:=Lib.hid kG;have ZB:=Lib.hid (YB.grown hg3 (by have:=YB.size;omega) (fun g hg=>by have:=Option.some.inj hg;omega));have HK:=Lib.hid (show ∀ g t cs,ah w g t cs->g≠g4->g≠gm->(Value.slice A dl.length c).ownBlock≠some g->ah w3 g t cs from fun g t cs h h4 hm' ho=>by
  refine ah.grown ?_ hg3 (fun e=>hm' (Option.some.inj e));rw [hW2];exact (HK1.out g t cs h ho).far h4 _)
 unfold aF at hr3;clear kG hg3 YO YM YB Y4 hW2;obtain ⟨Y5l,Y5a,Y5b,-,-⟩:=Y5.aO;obtain ⟨Y7l,Y7a,-⟩:=Y7.fC;go_wp2_with fail;exact bodyPost_end (v:=.tuple #[]) (results_none rfl _ _ _) rfl ⟨rfl,⟨_,Z4.out,ZO.out,Z7.out,ZM.out,b4,bm⟩,ZB.out,HK.out⟩
def ae9 (z1 z2:Bool):Int:=if z1 then -1 else if z2 then 1 else 0
set_option maxRecDepth 100000 in
set_option maxHeartbeats 4000000 in
theorem afa (nd:Nd) (x y:Int) (g5 g7 gm n:Nat) (f:Int->Pt) (w:World) (h5:ah w g5 45 #[.int .i64 nd.id,.int .i64 nd.pt.x,.int .i64 nd.pt.y]) (h7:ah w g7 189 #[.map (some gm)]) (hm:iI w gm n f) (hx:cZ x) (hy:cZ y) :
  Calls Tryz.prog 176 #[.int .i64 x,.int .i64 y,.pointer (some ⟨g5,0,none⟩),.pointer (some ⟨g7,0,none⟩)] w fun e w'=>e=.returned (.int .i64 (zx (fun a b=>qE nd.pt (f a) (f b)) x y))/\nP w w':=by
 have T1:=fun W=>Yi nd.pt (f x) (f y) W;have T2:=fun W=>Yi nd.pt (f y) (f x) W;have L1:=hm.look x hx;have L2:=hm.look y hy;have HM:=Lib.hid hm;have H5:=Lib.hid h5;have H7:=Lib.hid h7;unfold aF at T1 T2 L1 L2;have HX:=Lib.hid hx;have HY:=Lib.hid hy;obtain ⟨r,hr⟩:∃ r,zx (fun a b=>qE nd.pt (f a) (f b)) x y=r:=⟨_,rfl⟩;rw [hr];replace hr:ae9 (qE nd.pt (f x) (f y)) (qE nd.pt (f y) (f x))=r:=hr;obtain ⟨z1,hz1⟩:∃ z1,qE nd.pt (f x) (f y)=z1:=⟨_,rfl⟩;obtain ⟨z2,hz2⟩:∃ z2,qE nd.pt (f y) (f x)=z2:=⟨_,rfl⟩;rw [hz1] at T1 hr;rw [hz2] at T2 hr;have Hr:=Lib.hid hr;have H1:=Lib.hid T1;have H2:=Lib.hid T2;clear T1 T2 hm hx hy hz1 hz2 hr;have X5:=h5;have X7:=h7;clear h5 h7;obtain ⟨bV,bW,dH,iR,-,-,-⟩:=X5.aJ;obtain ⟨fU,fV,-⟩:=X7.fC;go_enter Tryz.func176,Tryz.ntmps176;go_wp2_with fail;refine (H1.out _).mono ?_;rintro e w1 ⟨rfl,hb1,hd1⟩;have B1:=Lib.hid hb1;have D1:=Lib.hid hd1;clear hb1 hd1 X5 X7 bV bW dH iR fU fV L1 L2
 cases z1
 case true =>
  go_wp2_with fail;go_ret;exact ⟨dY (by rw [<- Hr.out];rfl),B1.out,D1.out⟩
 have X5:=H5.out.keep B1.out;have X7:=H7.out.keep B1.out;have jS:=HM.out.keep B1.out;have L1:=jS.look x HX.out;have L2:=jS.look y HY.out;unfold aF at L1 L2;clear jS
 try clear bV
 try clear bW
 try clear dH
 try clear iR
 obtain ⟨bV,bW,dH,iR,-,-,-⟩:=X5.aJ
 try clear fU
 try clear fV
 obtain ⟨fU,fV,-⟩:=X7.fC;go_wp2_with fail;refine (H2.out _).mono ?_;rintro e w2 ⟨rfl,hb2,hd2⟩;have B2:=Lib.hid (bT B1.out hb2);have D2:=Lib.hid (dT D1.out hd2);clear hb2 hd2 X5 X7 bV bW dH iR fU fV L1 L2
 cases z2
 ·go_wp2_with fail;go_ret;exact ⟨dY (by rw [<- Hr.out];rfl),B2.out,D2.out⟩
 ·go_wp2_with fail;go_ret;exact ⟨dY (by rw [<- Hr.out];rfl),B2.out,D2.out⟩
end Go.Proofs.YtialfdomhoojiaaGreat
