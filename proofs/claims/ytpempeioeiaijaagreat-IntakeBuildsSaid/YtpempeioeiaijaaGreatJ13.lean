import Derived.Test.YtpempeioeiaijaaGreatJ12
import Derived.Test.YtpempeioeiaijaaGreatLaySortAd
set_option linter.unusedSimpArgs false
set_option linter.unusedVariables false
set_option maxRecDepth 100000
set_option maxHeartbeats 8000000
namespace Go.Proofs.YtpempeioeiaijaaGreat
open Go.RowKit Tryz
def AdR (w:World) (v:Value) (L:List AD):Prop:=Sl w v L.length (L.flatMap F9)/\∀ x∈L,Ints w (BF x.ov) x.out
theorem Row.ad {w:World} {A:Option Addr} {l:List AD} (h:Row w A (l.flatMap F9)) {k:Nat} (hk:k<l.length) :
  ∃ b o,A=some ⟨b,o,none⟩/\b<w.heap.size/\w.cell? ⟨b,o+k*4,none⟩=some (.int .i64 l[k].tw)/\w.cell? ⟨b,o+k*4+1,none⟩=some (BF l[k].ov)/\w.cell? ⟨b,o+k*4+2,none⟩=some (BF l[k].iv)/\w.cell? ⟨b,o+k*4+3,none⟩=some (BF l[k].av):=by
 obtain ⟨b,o,hA,hb,hc⟩:=h.at_ (n:=4) (fun _=>rfl) hk AA;exact ⟨b,o,hA,hb,hc 0 _ rfl,hc 1 _ rfl,hc 2 _ rfl,hc 3 _ rfl⟩
def Yq (p:Pl) (v:Pt) (L:List AD) (k b:Nat):Prop :=
 (b=0/\Js (fun x:AD=>encS p x.out v) (·.tw) (L.tail.take k)=none)\/∃ hb:b<L.length,1<=b/\b<=k/\Js (fun x:AD=>encS p x.out v) (·.tw) (L.tail.take k)=some L[b]
theorem afs {L:List AD} {k:Nat} (hk:k+1<L.length):L.tail.take (k+1)=L.tail.take k++[L[k+1]]:=by
 cases L with
 | nil=>cases hk
 | cons a L=>simp only [yt,List.getElem_cons_succ];exact Em Uc
theorem auR (p:Pl) (v:Pt) (L:List AD):Yq p v L 0 0:=.inl ⟨rfl,by rw [OD];rfl⟩
theorem akZ {p:Pl} {v:Pt} {L:List AD} {k b:Nat} (h:Yq p v L k b) (hk:k+1<L.length) (hE:encS p L[k+1].out v=true) (hlt:b=0\/∃ hb:b<L.length,L[k+1].tw<L[b].tw):Yq p v L (k+1) (k+1):=by
 refine .inr ⟨hk,AA,Cj _,?_⟩;rw [afs hk,Xf];unfold Qi;rcases h with ⟨rfl,e⟩ | ⟨hb,h1,h2,e⟩
 · rw [e];simp [hE]
 ·rw [e];rcases hlt with g | ⟨_,g⟩
  · omega
  · simp [hE,g]
theorem aft {p:Pl} {v:Pt} {L:List AD} {k b:Nat} (h:Yq p v L k b) (hk:k+1<L.length) (hno:encS p L[k+1].out v=false\/(b≠0/\∃ hb:b<L.length,¬ L[k+1].tw<L[b].tw)):Yq p v L (k+1) b:=by
 rcases h with ⟨rfl,e⟩ | ⟨hb,h1,h2,e⟩
 ·refine .inl ⟨rfl,?_⟩;rw [afs hk,Xf,e];rcases hno with g | ⟨g,-⟩
  · unfold Qi;simp [g]
  · exact absurd rfl g
 ·refine .inr ⟨hb,h1,AA,?_⟩;rw [afs hk,Xf,e];unfold Qi;rcases hno with g | ⟨-,_,g⟩
  · simp [g]
  · simp [g]
theorem auS (w:World) (gm:Nat) (p:Pl) (f:Int->SV) (hpm:YX w gm p f) (hv:Valid p) (vl:Value) (L:List AD) (hL:AdR w vl L) (hd:∀ x∈L,∀ d∈x.out,d∈Bj p) (hl:L.length<=1000) (v:Pt) (nv:CJ v=true) :
  Calls prog 124 #[.map (some gm),vl,BA v] w fun e w'=>(∃ b:Nat,e=.returned (.int .i64 b)/\Yq p v L (L.length-1) b)/\AU w w':=by
 have HEn:=AB (fun k (hk:k<L.length) W (hW:AU w W)=>auQ W gm p f (hpm.keep hW) hv _ L[k].out ((hL.2 _ (BO hk)).mono hW) (hd _ (BO hk)) v nv);obtain ⟨⟨Al,cl,rfl,hc1,hc2,hR⟩,-⟩:=hL;unfold maxLen at hc2;have HR:=AB hR;unfold BA at HEn ⊢;clear hR hpm hv hd nv;go_enter func124,ntmps124;go_upto_block 0 with fail;obtain ⟨W1,hW⟩:=BR (w.alloc (.cells #[.int .i64 v.x,.int .i64 v.y] 42));have HB1:=AB (show AU w W1 by rw [hW];exact bA (bR w) _);have Dt:=AB (show AO W1 w.heap.size 42 #[.int .i64 v.x,.int .i64 v.y] by rw [hW];exact AO.made rfl _ _);rw [<- hW];clear hW;go_wp2_with fail;go_loopw [7,8] (fun s i wr=>∃ k b:Nat,(k+1<=L.length\/k=0)/\i=.int .i64 ((k:Int)+1)/\s=.int .i64 b/\Yq p v L k b/\AU W1 wr) (fun _ i _=>L.length-(intOf i).toNat)
 case atStart => exact ⟨0,0,.inr rfl,rfl,rfl,auR p v L,bR W1⟩
 case round =>
  obtain ⟨k,b,hk,rfl,rfl,hbx,hb⟩:=hrel;obtain ⟨VQ,Hb,KF⟩:=CG hbx (bT HB1.1 hb) hb;have X5:=Dt.1.keep hb;clear hb;by_cases hlt:k+1<L.length
  ·obtain ⟨bq,oq,rfl,hlb,c0,c1,-⟩:=(HR.1.mono Hb.1).ad hlt;have HE:=AB (HEn.1 (k+1) hlt);obtain ⟨E,hE⟩:=BI (encS p L[k+1].out v);rw [hE] at HE;have mF:=AB hE;clear hE;have k1:=EL ((k:Int)+1);have k2:(k:Int)+1<L.length:=AA
   have k3:0<=(k:Int)+1:=AA
   have QE:=AB (show ∀ t,L[k+1].tw=t->∀ b':Nat,b=b'->True from fun _ _ _ _=>trivial);clear QE;rcases VQ.1 with ⟨hb0,-⟩ | ⟨hbl,hb1,hb2,-⟩
   ·subst hb0;have hyes:=AB (fun h=>akZ VQ.1 hlt (mF.1.trans h) (.inl rfl));have hnot:=AB (fun h=>aft VQ.1 hlt (.inl (mF.1.trans h)));generalize L[k+1].tw=t at *;generalize L[k+1].ov=sv at *;obtain ⟨sa,sn,sc⟩:=sv;unfold BF at c1 HE;obtain ⟨DI,DJ,DU,-⟩:=X5.Bl;go_upto_region 5 with fail;refine D9 (wr) (.run 23 0 0 (.call 23 16777215 (.take 24 33554431 (.done)))) fun CQ QR Ae Aj hS=>?_
    iterate 3 refine Ak ?_
    iterate 11 refine JW ?_
    iterate 2 refine Ak ?_
    iterate 7 refine E5 ?_
    refine II (HE.1 _ (bT Hb.1 hS)) ?_;clear hS;intro BZ BU hS;refine Ak ?_;refine D5 ?_;clear hS Aj Ae;intro hB;have Ce:=AB (bT KF.1 hB);clear hB c0 c1 X5 DI DJ DU
    cases E
    ·go_wp2;go_roundw
     case rel => exact ⟨k+1,0,.inl AA,BG,rfl,hnot.1 rfl,Ce.1⟩
     case measure => exact BH
    ·go_wp2;go_roundw
     case rel => exact ⟨k+1,k+1,.inl AA,BG,BG,hyes.1 rfl,Ce.1⟩
     case measure => exact BH
   ·obtain ⟨bq',iH,hA',-,e0,-⟩:=(HR.1.mono Hb.1).ad hbl;injection hA' with hA';injection hA' with y1 y2 _;subst y1 y2;have k4:IntKind.i64.wrap (b:Int)=b:=Jw _ AA;have k5:(b:Int)<L.length:=AA
    have k6:0<=(b:Int):=AA
    have kb:((b:Int) == 0)=false:=by simp;omega
    obtain ⟨hyes,hnot,mG⟩:=CG (fun h g=>akZ VQ.1 hlt (mF.1.trans h) (.inr ⟨hbl,g⟩)) (fun h=>aft VQ.1 hlt (.inl (mF.1.trans h))) (fun g=>aft VQ.1 hlt (.inr ⟨AA,hbl,g⟩));generalize L[b].tw=tb at *;generalize L[k+1].tw=t at *;generalize L[k+1].ov=sv at *;obtain ⟨sa,sn,sc⟩:=sv;unfold BF at c1 HE
    try clear DI DJ DU
    obtain ⟨DI,DJ,DU,-⟩:=X5.Bl;by_cases hlt2:t<tb
    ·go_upto_region 5 with fail;refine D9 (wr) (.run 23 0 0 (.call 23 16777215 (.take 24 33554431 (.done)))) fun CQ QR Ae Aj hS=>?_
     iterate 3 refine Ak ?_
     iterate 11 refine E5 ?_
     iterate 2 refine Ak ?_
     iterate 7 refine E5 ?_
     refine II (HE.1 _ (bT Hb.1 hS)) ?_;clear hS;intro BZ BU hS;refine Ak ?_;refine D5 ?_;clear hS Aj Ae;intro hB;have Ce:=AB (bT KF.1 hB);clear hB c0 c1 e0 X5 DI DJ DU
     cases E
     ·go_wp2;go_roundw
      case rel => exact ⟨k+1,b,.inl AA,BG,rfl,hnot.1 rfl,Ce.1⟩
      case measure => exact BH
     ·go_wp2;go_roundw
      case rel => exact ⟨k+1,k+1,.inl AA,BG,BG,hyes.1 rfl hlt2,Ce.1⟩
      case measure => exact BH
    ·go_upto_region 5 with fail;refine D9 (wr) (.run 25 0 0 (.done)) fun CQ QR Ae Aj hS=>?_
     iterate 3 refine Ak ?_
     iterate 11 refine E5 ?_
     iterate 2 refine Ak ?_
     iterate 8 refine JW ?_
     refine Ak ?_;refine D5 ?_;clear hS Aj Ae;intro hB;have Ce:=AB (bT KF.1 hB);clear hB c0 c1 e0 X5 DI DJ DU;go_wp2;go_roundw
     case rel => exact ⟨k+1,b,.inl AA,BG,rfl,mG.1 hlt2,Ce.1⟩
     case measure => exact BH
  ·have hkl:L.length-1=k:=AA
   have HF:=AB hkl;clear hkl X5;go_wp2;go_ret;exact ⟨⟨b,rfl,by rw [HF.1];exact VQ.1⟩,Hb.1⟩
def Qm (x:AD):List (List Int×SV):=(x.out,x.ov)::x.inn
theorem akb (x:AD) (w:World) (hr:Sl w (BF x.iv) x.inn.length (x.inn.flatMap J5)) (hl:x.inn.length<=100000) :
  Calls prog 77 #[.agg #[.int .i64 x.tw,BF x.ov,BF x.iv,BF x.av]] w fun e w'=>(∃ A c,e=.returned (.slice A (Qm x).length c)/\Own w' w.heap.size 32 1 J5 (.slice A (Qm x).length c) (Qm x))/\AU w w':=by
 obtain ⟨tw,out,⟨oa,on,oc⟩,inn,⟨ia,Ld,ic⟩,EP,⟨aa,an,ac⟩⟩:=x;unfold BF Qm at *;simp only at hr hl ⊢;have HS:=AB hr;obtain ⟨Ai,ci,he,-⟩:=hr;injection he with e1 e2 e3;subst e2;have HO:=AB (Own.lit (w.alloc (.cells #[.int .i64 tw,.slice oa on oc,.slice ia inn.length ic,.slice aa an ac] 106)) w.heap.size 32 1 J5 [((out,⟨oa,on,oc⟩):List Int×SV)] #[.slice oa on oc] 1 (w.heap.size+1) Ah rfl Ah (D7 AA) rfl rfl);have hle:((out,⟨oa,on,oc⟩)::inn:List (List Int×SV)).length=inn.length+1:=rfl;rw [hle];clear e1 e3 hle;go_enter func77,ntmps77;go_wp2_with
  (at_builtin
   refine FK _ rfl (.tmp 5) (.tmp 7) _ rfl (base:=w.heap.size) Yk WS Yj rfl HO.1 rfl (l2:=inn) (HS.1.mono (bA (bA (bR w) _) _)) Dl Dl (by simp only [World.size_alloc];omega) ?_;intro v2 w2 ho2 hg2 wK;obtain ⟨A2,c2,hv2,-⟩:=Own.GU ho2;rw [show ([((out,⟨oa,on,oc⟩):List Int×SV)]++inn).length=inn.length+1 by rw [Es,yu];omega] at hv2;subst hv2;have Fq:=AB ho2;have HB2:=AB (bG (bA (bA (bR w) _) _) hg2 (fun g hg=>(HO.1.lt g hg).1));clear ho2 hg2 wK
   )
 go_ret;exact ⟨⟨A2,c2,rfl,Fq.1⟩,HB2.1⟩
set_option linter.unusedSectionVars false
def Gh (a b:Int):Bool:=decide (FD a<FD b) || (decide (FD a=FD b) && decide (b<a))
theorem dI {a b:Int}:Gh a b=true↔FD a<FD b\/(FD a=FD b/\b<a):=by unfold Gh;simp
theorem atd (a:Int):Gh a a=false:=by rw [<- IL,dI];omega
theorem akc {a b:Int} (h1:Gh a b=false) (h2:Gh b a=false):a=b:=by
 rw [<- IL,dI] at h1 h2;unfold FD at *;split at h1<;>split at h1<;>simp_all<;>omega
theorem afu {a b c:Int} (h1:Gh a b=true) (h2:Gh b c=true):Gh a c=true:=by
 rw [dI] at *;omega
theorem akd {a b:Int} (h1:Gh a b=true):Gh b a=false:=by
 rw [<- IL];intro h2;rw [dI] at h1 h2;omega
def Qn (k d:Int):Int:=if Gh d k then d else k
def OM (c:List Int) (n:Nat):Int:=(c.take n).foldl Qn (c.headD 0)
def Dp (c:List Int):Int:=c.foldl Qn (c.headD 0)
theorem ake {c:List Int} {n:Nat} (hn:n<c.length):OM c (n+1)=Qn (OM c n) c[n]:=by
 unfold OM;rw [Em hn,WC];rfl
theorem akf (c:List Int):OM c c.length=Dp c:=by unfold OM Dp;rw [I5]
theorem abU:∀ (l:List Int) (k:Int),l.foldl Qn k=k\/l.foldl Qn k∈l
 | [],k=>.inl rfl
 | d::l,k=>by
  rw [kH];rcases abU l (Qn k d) with h | h
  ·rw [h];unfold Qn;split
   · exact .inr JC
   · exact .inl rfl
  · exact .inr (LM _ h)
theorem wL {c:List Int} (h:c≠[]):Dp c∈c:=by
 rcases abU c (c.headD 0) with e | e
 ·unfold Dp;rw [e]
  cases c with
  | nil=>exact absurd rfl h
  | cons a c=>exact JC
 · exact e
def dJ (X:List Int) (l:List (List Int)):List (List Int):=l.takeWhile (fun Y=>!Gh (Dp X) (Dp Y))++X::l.dropWhile (fun Y=>!Gh (Dp X) (Dp Y))
def sortK (l:List (List Int)):List (List Int):=l.foldl (fun acc X=>dJ X acc) []
def Qo (X Y:List Int):Bool:=Gh (Dp X) (Dp Y)
theorem ate (X:List Int) (l:List (List Int)):(dJ X l).Perm (X::l):=by
 unfold dJ;refine List.perm_middle.trans ?_;rw [agw]
theorem atf {X:List Int} {l:List (List Int)} (h:l.Pairwise (fun a b=>Qo b a=false)):(dJ X l).Pairwise (fun a b=>Qo b a=false):=by
 unfold dJ;have hall:(l.takeWhile (fun Y=>!Gh (Dp X) (Dp Y))++l.dropWhile (fun Y=>!Gh (Dp X) (Dp Y)))=l:=agw;have h1:∀ Y∈l.takeWhile (fun Y=>!Gh (Dp X) (Dp Y)),Gh (Dp X) (Dp Y)=false:=fun Y hY=>by
  have:=LK.1 (List.all_takeWhile (p:=fun Y=>!Gh (Dp X) (Dp Y)) (l:=l)) Y hY
  simpa using this
 have h2:∀ Y∈l.dropWhile (fun Y=>!Gh (Dp X) (Dp Y)),Gh (Dp Y) (Dp X)=false:=by
  intro Y hY
  cases hd:l.dropWhile (fun Y=>!Gh (Dp X) (Dp Y)) with
  | nil=>rw [hd] at hY;cases hY
  | cons Z m =>
   have hZ:Gh (Dp X) (Dp Z)=true:=by
    have:=List.head_dropWhile_not (fun Y=>!Gh (Dp X) (Dp Y)) (l:=l) (by rw [hd];simp)
    simp only [hd,List.head_cons] at this;simpa using this
   rw [hd] at hY;rcases FI.1 hY with rfl | hY
   · exact akd hZ
   ·have hp:(Z::m).Pairwise (fun a b=>Qo b a=false):=by
     have:=h
     rw [<- hall,dZ] at this;rw [<- hd];exact this.2.1
    have:=(P8.1 hp).1 Y hY
    rw [<- IL];intro hc;have h3:=afu hc hZ;unfold Qo at this;rw [h3] at this
    cases this
 have hp:=h;rw [<- hall,dZ] at hp;rw [dZ,P8];refine ⟨hp.1,⟨h2,hp.2.1⟩,fun a ha b hb=>?_⟩;rcases FI.1 hb with rfl | hb
 · exact h1 a ha
 · exact hp.2.2 a ha b hb
theorem dK (l:List (List Int)):(sortK l).Perm l/\(sortK l).Pairwise (fun a b=>Qo b a=false):=by
 have:∀ (l acc:List (List Int)),acc.Pairwise (fun a b=>Qo b a=false)->(l.foldl (fun acc X=>dJ X acc) acc).Perm (acc++l)/\(l.foldl (fun acc X=>dJ X acc) acc).Pairwise (fun a b=>Qo b a=false):=by
  intro l
  induction l with
  | nil=>intro acc h;exact ⟨by rw [MC];exact List.Perm.refl _,h⟩
  | cons X l ih =>
   intro acc h;rw [kH];obtain ⟨h1,h2⟩:=ih (dJ X acc) (atf h);refine ⟨h1.trans ?_,h2⟩;exact ((ate X acc).append_right l).trans (List.perm_middle (l₁:=acc) (l₂:=l) (a:=X)).symm
 have h:=this l [] List.Pairwise.nil;rw [OW] at h;exact h
section
variable {p:Pl} (h:Valid p)
include h
theorem Valid.atg {X Y:List Int} (hX:X∈Cb p) (hY:Y∈Cb p) (h1:Qo X Y=false) (h2:Qo Y X=false):X=Y:=by
 obtain ⟨x,-,-,-,hx⟩:=h.Pe hX;obtain ⟨y,-,-,-,hy⟩:=h.Pe hY;have e:Dp X=Dp Y:=akc h1 h2;refine h.ab3 hX hY (wL (fun e=>by rw [e] at hx;cases hx)) ?_;rw [e];exact wL (fun e=>by rw [e] at hy;cases hy)
theorem Valid.akg {l:List (List Int)} (hl:l.Perm (Ci p)) (hs:l.Pairwise (fun a b=>Qo b a=false)):l=sortK (Ci p):=by
 obtain ⟨h1,h2⟩:=dK (Ci p);refine nZ (lt:=Qo) (hl.trans h1.symm) hs h2 fun a ha b hb g1 g2=>?_;have ma:=(Np.1 (hl.subset ha)).1;have mb:=(Np.1 (hl.subset hb)).1;exact h.atg ma mb g1 g2
end
theorem akh {k d:Int} (h:max d (-d)<max k (-k)\/(d=-k/\0<d)):Qn k d=d:=by
 unfold Qn;rw [AZ];rw [dI];unfold FD;split<;>split<;>omega
theorem aki {k d:Int} (h:¬ (max d (-d)<max k (-k))) (h2:¬ (d=-k/\0<d)):Qn k d=k:=by
 unfold Qn;rw [AX];rw [dI];unfold FD;split<;>split<;>omega
theorem akj (v:Value) (c:List Int) (w:World) (h:Ints w v c) (hne:0<c.length) (hb:∀ d∈c,-1073741824<=d/\d<=1073741824) :
  Calls prog 76 #[v] w fun e w'=>e=.returned (.int .i64 (Dp c))/\w=w':=by
 obtain ⟨A,cp,rfl,hn1,hn2,hR⟩:=h;unfold maxLen at hn2;have HR:=AB hR;obtain ⟨R,hRr⟩:=BI (Dp c);rw [hRr];have hR0:=akf c;rw [hRr] at hR0;have Yp:=AB hR0;have HUp:=AB (fun n (hn:n<c.length)=>ake (c:=c) hn);have mJ:=AB (show ∀ n,-1073741824<=OM c n/\OM c n<=1073741824 from fun n=>by
  have h1:c.headD 0∈c:=by
   cases c with
   | nil=>cases hne
   | cons a c=>exact JC
  rcases abU (c.take n) (c.headD 0) with e | e
  · unfold OM;rw [e];exact hb _ h1
  · exact hb _ (kW e))
 have jD:=AB (fun n (hn:n<c.length)=>hb _ (BO hn));have hh:c.headD 0=c[0]:=by
  cases c with
  | nil=>cases hne
  | cons a c=>rfl
 have h0:OM c 0=c[0]:=by unfold OM;rw [OD];exact hh
 obtain ⟨b0,o0,rfl,hlb0,c0⟩:=(HR.1).int hne;rw [<- h0] at c0;simp only [RF] at c0;have kz:(0:Int)<c.length:=AA
 have kn:¬ c=[]:=fun e=>by have:=congrArg List.length e;simp only [LH] at this;omega
 clear hb hR hRr hR0 h0 hh;go_enter func76,ntmps76;go_wp2_with fail;go_loopw [3,11] (fun s i wr=>∃ k:Nat,k<=c.length/\i=.int .i64 k/\s=.int .i64 (OM c k)/\wr=w) (fun _ i _=>c.length-(intOf i).toNat)
 case atStart => exact ⟨0,BX _,rfl,rfl,rfl⟩
 case round =>
  obtain ⟨k,hk,rfl,rfl,hw⟩:=hrel;obtain rfl:=hw.symm;have hkb:=mJ.1 k;by_cases hlt:k<c.length
  ·obtain ⟨b,o,hA,hlb,c1⟩:=(HR.1).int hlt;injection hA with hA;injection hA with y1 y2 _;subst y1 y2;have hdb:=jD.1 k hlt;have hup:=HUp.1 k hlt;generalize c[k]=d at *;generalize OM c k=q at *;have HU:=AB hup;clear hup c0;have k1:=EL (-d);have k2:=EL (-q);have m1:max d (-d)=(if d<0 then -d else d):=by split<;>omega
   by_cases h1:max d (-d)<max q (-q)
   ·have hs:=AB (akh (.inl h1));clear m1;go_wp2;go_roundw
    case rel => exact ⟨k+1,AA,BG,by rw [HU.1,hs.1],trivial⟩
    case measure => exact BH
   ·clear m1;by_cases h2:d=-q
    ·by_cases h3:0<d
     ·have hs:=AB (akh (.inr ⟨h2,h3⟩));have h2b:(d == -q)=true:=by simpa using h2
      clear h2;go_wp2;go_roundw
      case rel => exact ⟨k+1,AA,BG,by rw [HU.1,hs.1],trivial⟩
      case measure => exact BH
     ·have hs:=AB (aki h1 (fun e=>h3 e.2));have h2b:(d == -q)=true:=by simpa using h2
      clear h2;go_wp2;go_roundw
      case rel => exact ⟨k+1,AA,BG,by rw [HU.1,hs.1],trivial⟩
      case measure => exact BH
    ·have hs:=AB (aki h1 (fun e=>h2 e.1));have h2b:(d == -q)=false:=by simpa using h2
     clear h2;go_wp2;go_roundw
     case rel => exact ⟨k+1,AA,BG,by rw [HU.1,hs.1],trivial⟩
     case measure => exact BH
  ·obtain rfl:k=c.length:=AA
   have hf:=Yp.1;rw [hf];go_wp2;go_ret;exact ⟨rfl,rfl⟩
open Go.RowKit Go.Sort
def cmpK (a b:Int):Int:=YE [Mc (max a (-a)) (max b (-b)),Mc b a]
theorem ath (a b:Int):cmpK a b<0↔Gh a b=true:=by
 rw [dI];unfold cmpK YE Mc FD;have e1:max a (-a)=if a<0 then -a else a:=by split<;>omega
 have e2:max b (-b)=if b<0 then -b else b:=by split<;>omega
 rw [e1,e2];generalize (if a<0 then -a else a)=c;generalize (if b<0 then -b else b)=d;by_cases h1:c<d
 · simp [h1]
 ·by_cases h2:d<c
  · simp [h1,h2];omega
  ·by_cases h3:b<a
   · simp [h1,h2,h3];omega
   · by_cases h4:a<b<;>simp [h1,h2,h3,h4]<;>omega
theorem abV {α:Type} (f:α->Int) (x y:α):ltOf (fun x y=>cmpK (f x) (f y)) x y=Gh (f x) (f y):=by
 rw [Jh,<- ath];unfold ltOf;simp only [Dq]
theorem ati {α:Type} (f:α->Int):SWO (ltOf (fun x y:α=>cmpK (f x) (f y))) where
 irrefl x:=by rw [abV];exact atd _
 trans x y z h1 h2:=by rw [abV] at *;exact afu h1 h2
 ntrans x y z h1 h2:=by
  rw [abV] at *;rw [<- IL] at *;rw [dI] at *;omega
theorem Ints.akk {w:World} {g:Nat} {t:TypeId} {a b:Int} (h:AO w g t #[.int .i64 a,.int .i64 b]):Ints w (.slice (some ⟨g,0,none⟩) 2 2) [a,b] :=
 Sl.lit (n:=2) h rfl (D7 AA)
theorem atj (a b:Int) (w:World) (ha:-1073741824<=a/\a<=1073741824) (hb:-1073741824<=b/\b<=1073741824) :
  Calls prog 75 #[.int .i64 a,.int .i64 b] w fun e w'=>e=.returned (.int .i64 (cmpK a b))/\MR w w':=by
 have k1:=EL (-a);have k2:=EL (-b);unfold cmpK;have HX:=AB (fun W=>sK (max a (-a)) (max b (-b)) W);have HY:=AB (fun W=>sK b a W);generalize Mc (max a (-a)) (max b (-b))=x at *;generalize Mc b a=y at *;go_enter func75,ntmps75;go_wp2_with fail;refine (HX.1 _).mono ?_;rintro e w1 ⟨rfl,hb1,hd1⟩;go_wp2_with fail;refine (HY.1 _).mono ?_;rintro e w2 ⟨rfl,hb2,hd2⟩;have HB2:=AB (bA (bT hb1 hb2) (.cells #[.int .i64 x,.int .i64 y] 3));have HD2:=AB (dA (dT hd1 hd2) (.cells #[.int .i64 x,.int .i64 y] 3));have hlit:=Ints.akk (AO.made (w:=w2) rfl 3 #[.int .i64 x,.int .i64 y]);have HO:=AB (ahn _ _ _ hlit Ah);clear hb1 hb2 hd1 hd2 k1 k2 hlit;go_wp2_with fail;refine (HO.1).mono ?_;rintro e w3 ⟨rfl,hb3,hd3⟩;have HB3:=AB (bT HB2.1 hb3);have HD3:=AB (dT HD2.1 hd3);clear hb3 hd3;go_wp2;go_ret;exact ⟨rfl,HB3.1,HD3.1⟩
def NV (w0:World) (s:AD):Prop:=Ints w0 (BF s.ov) s.out/\0<s.out.length/\∀ d∈s.out,-1073741824<=d/\d<=1073741824
theorem NV.mono {w w':World} {s:AD} (h:NV w s) (hb:AU w w'):NV w' s:=⟨h.1.mono hb,h.2⟩
theorem atl (s t:AD) (w:World) (hs:NV w s) (ht:NV w t):Calls prog 74 #[.agg #[.int .i64 s.tw,BF s.ov,BF s.iv,BF s.av],.agg #[.int .i64 t.tw,BF t.ov,BF t.iv,BF t.av]] w fun e w'=>e=.returned (.int .i64 (cmpK (Dp s.out) (Dp t.out)))/\MR w w':=by
 obtain ⟨HS,HT,HC⟩:=CG (fun W (hW:AU w W)=>(akj (BF s.ov) s.out W (hs.1.mono hW) hs.2.1 hs.2.2).mono (R':=fun e w'=>e=.returned (.int .i64 (Dp s.out))/\MR W w') fun e w' g=>⟨g.1,by rw [<- g.2];exact ⟨bR W,dR W⟩⟩) (fun W (hW:AU w W)=>(akj (BF t.ov) t.out W (ht.1.mono hW) ht.2.1 ht.2.2).mono (R':=fun e w'=>e=.returned (.int .i64 (Dp t.out))/\MR W w') fun e w' g=>⟨g.1,by rw [<- g.2];exact ⟨bR W,dR W⟩⟩) (fun W=>atj (Dp s.out) (Dp t.out) W (hs.2.2 _ (wL (fun e=>by have:=hs.2.1;rw [e] at this;cases this))) (ht.2.2 _ (wL (fun e=>by have:=ht.2.1;rw [e] at this;cases this))));unfold BF at *;generalize Dp s.out=x at *;generalize Dp t.out=y at *;clear hs ht;obtain ⟨tw,so,⟨oa,on,oc⟩,si,⟨ia,Ld,ic⟩,sa,⟨aa,an,ac⟩⟩:=s;obtain ⟨tw',so',⟨oa',on',oc'⟩,si',⟨ia',akA,ic'⟩,sa',⟨aa',an',ac'⟩⟩:=t;simp only at *;go_enter func74,ntmps74;go_upto_region 1 with fail;obtain ⟨W,hW⟩:=BR ((w.alloc (.cells #[.int .i64 tw,.slice oa on oc,.slice ia Ld ic,.slice aa an ac] 106)).alloc (.cells #[.int .i64 tw',.slice oa' on' oc',.slice ia' akA ic',.slice aa' an' ac'] 106));have Bw:AU w W:=by rw [hW];exact bA (bA (bR w) _) _
 have Dw:=AB (show w.drawn<=W.drawn by rw [hW];exact dA (dA (dR w) _) _);have X1:AO W w.heap.size 106 #[.int .i64 tw,.slice oa on oc,.slice ia Ld ic,.slice aa an ac]:=by rw [hW];exact (AO.made rfl _ _).alloc _
 have X2:AO W (w.heap.size+1) 106 #[.int .i64 tw',.slice oa' on' oc',.slice ia' akA ic',.slice aa' an' ac']:=by rw [hW];exact AO.made Ah _ _
 rw [<- hW];clear hW;obtain ⟨BJ,BK,BL,BQ,X1d,-⟩:=X1.sO;obtain ⟨Bh,Bq,Bv,CS,X2d,-⟩:=X2.sO;refine D9 (W) (.take 0 1 (.take 1 3 (.take 3 11 (.take 4 27 (.call 2 31 (.call 5 63 (.call 6 127 (.take 7 255 (.done))))))))) fun CQ QR Ae Aj hS=>?_
 iterate 4 refine Ak ?_
 refine BN ?_;clear hS;intro K hK AP;go_simp;refine (HS.1 _ (bT Bw AP.out)).mono ?_;rintro e BZ ⟨rfl,BU,hd1⟩;have hS:Since W BZ:=bT (w:=W) AP.out BU;clear AP;refine hK.out _ _ hS (fun _=>?_);clear hK K
 try simp only [pu]
 refine BN ?_;clear hS;intro K hK AP;go_simp;refine (HT.1 _ (bT Bw AP.out)).mono ?_;rintro e wr2 ⟨rfl,Du,hd2⟩;have hS:Since W wr2:=bT (w:=W) AP.out Du;clear AP;refine hK.out _ _ hS (fun _=>?_);clear hK K
 try simp only [pu]
 refine BN ?_;clear hS;intro K hK AP;go_simp;refine (HC.1 _).mono ?_;rintro e wr3 ⟨rfl,NG,hd3⟩;have hS:Since W wr3:=bT (w:=W) AP.out NG;clear AP;refine hK.out _ _ hS (fun _=>?_);clear hK K
 try simp only [pu]
 refine Ak ?_;refine D5 ?_;clear hS Aj Ae;intro hB;have D3:=AB (dT (dT (dT (dD Dw.1) hd1) hd2) hd3);go_wp2;go_ret;exact ⟨rfl,bT Bw hB,D3.1⟩
theorem afv {a b c:Pt} (h1:BP a b=true) (h2:BP b c=true):BP a c=true:=by
 unfold BP at *;simp only [Ir,ER,Dq] at *;omega
theorem abW {a b:Pt} (h:BP a b=true):BP b a=false:=by
 unfold BP at *;simp only [Ir,ER,Dq,OC,Bool.and_eq_false_imp,JH] at *;omega
theorem afw {a b c:Pt} (h1:BP b a=false) (h2:BP c b=false):BP c a=false:=by
 unfold BP at *;simp only [OC,Bool.and_eq_false_imp,Dq,JH] at *;omega
def Ph (a b:Pt):Int:=if BP a b then -1 else if BP b a then 1 else 0
def EU:List Pt->List Pt->Bool
 | [],[]=>false
 | [],_::_=>true
 | _::_,[]=>false
 | a::r,b::s=>if a=b then EU r s else BP a b
theorem zA:∀ a:List Pt,EU a a=false
 | []=>rfl
 | a::r=>by simp [EU,zA r]
theorem abX:∀ {a b:List Pt},EU a b=false->EU b a=false->a=b
 | [],[],_,_=>rfl
 | [],_::_,h,_=>by simp [EU] at h
 | _::_,[],_,h=>by simp [EU] at h
 | a::r,b::s,h1,h2=>by
  unfold EU at h1 h2;by_cases e:a=b
  ·subst e;simp only [if_true] at h1 h2;rw [abX h1 h2]
  ·rw [AX e] at h1;rw [AX (fun h=>e h.symm)] at h2;exact absurd (Wv h1 h2) e
theorem afx:∀ {a b:List Pt},EU a b=true->EU b a=false
 | [],[],h=>by simp [EU] at h
 | [],_::_,_=>rfl
 | _::_,[],h=>by simp [EU] at h
 | a::r,b::s,h=>by
  unfold EU at h ⊢;by_cases e:a=b
  ·subst e;simp only [if_true] at h ⊢;exact afx h
  ·rw [AX e] at h;rw [AX (fun h=>e h.symm)];exact abW h
theorem afy:∀ {a b c:List Pt},EU a b=true->EU b c=true->EU a c=true
 | [],[],_,h,_=>by simp [EU] at h
 | [],_::_,[],_,h=>by simp [EU] at h
 | [],_::_,_::_,_,_=>rfl
 | _::_,[],_,h,_=>by simp [EU] at h
 | _::_,_::_,[],_,h=>by simp [EU] at h
 | a::r,b::s,c::cs,h1,h2=>by
  unfold EU at h1 h2 ⊢;by_cases e:a=b
  ·subst e;rw [AZ rfl] at h1;by_cases e2:a=c
   ·subst e2;rw [AZ rfl] at h2 ⊢;exact afy h1 h2
   ·rw [AX e2] at h2 ⊢;exact h2
  ·rw [AX e] at h1;by_cases e2:b=c
   ·subst e2;rw [AX e];exact h1
   ·rw [AX e2] at h2;have h3:=afv h1 h2;have e3:a≠c:=fun h=>by
     subst h;rw [U4] at h3
     cases h3
    rw [AX e3];exact h3
theorem afz {a b c:List Pt} (h1:EU b a=false) (h2:EU c b=false):EU c a=false:=by
 cases h:EU c a
 · rfl
 ·exfalso;by_cases e:a=b
  · subst e;rw [h] at h2;cases h2
  ·have hab:EU a b=true:=by
    cases h':EU a b
    · exact absurd (abX h' h1) e
    · rfl
   have:=afy h hab
   rw [this] at h2
   cases h2
def cmpL (a b:List Pt):Int:=if EU a b then -1 else if EU b a then 1 else 0
section
variable {α:Type} (lt:α->α->Bool)
def Kv (x:α):List α->List α
 | []=>[x]
 | y::l=>if lt y x then y::Kv x l else x::y::l
def WW (l:List α):List α:=l.foldl (fun o x=>Kv lt x o) []
theorem abY (x:α):∀ l:List α,(Kv lt x l).Perm (x::l)
 | []=>List.Perm.refl _
 | y::l=>by
  unfold Kv;split
  · exact ((abY x l).cons y).trans (List.Perm.swap x y l)
  · exact List.Perm.refl _
theorem akB (x:α) (l:List α) {z:α}:z∈Kv lt x l↔z=x\/z∈l:=by rw [(abY lt x l).mem_iff,FI]
theorem akC (ht:∀ a b c,lt b a=false->lt c b=false->lt c a=false) (ha:∀ a b,lt a b=true->lt b a=false) (x:α):∀ l:List α,l.Pairwise (fun a b=>lt b a=false)->(Kv lt x l).Pairwise (fun a b=>lt b a=false)
 | [],_=>dh _ _
 | y::l,h=>by
  obtain ⟨h1,h2⟩:=P8.1 h;unfold Kv;split
  ·rename_i hy;refine P8.2 ⟨fun z hz=>?_,akC ht ha x l h2⟩;rcases (akB lt x l).1 hz with rfl | hz
   · exact ha _ _ hy
   · exact h1 z hz
  ·rename_i hy;have hy':lt y x=false:=by simpa using hy
   refine P8.2 ⟨fun z hz=>?_,h⟩;rcases FI.1 hz with rfl | hz
   · exact hy'
   · exact ht _ _ _ hy' (h1 z hz)
theorem ag0 (ht:∀ a b c,lt b a=false->lt c b=false->lt c a=false) (ha:∀ a b,lt a b=true->lt b a=false):∀ (l o:List α),o.Pairwise (fun a b=>lt b a=false)->(l.foldl (fun o x=>Kv lt x o) o).Pairwise (fun a b=>lt b a=false)/\(l.foldl (fun o x=>Kv lt x o) o).Perm (l++o)
 | [],o,h=>⟨h,List.Perm.refl _⟩
 | x::l,o,h=>by
  obtain ⟨h1,h2⟩:=ag0 ht ha l (Kv lt x o) (akC lt ht ha x o h);refine ⟨h1,h2.trans ?_⟩;have:=((abY lt x o).append_left l)
  exact this.trans (List.perm_middle)
theorem akD (ht:∀ a b c,lt b a=false->lt c b=false->lt c a=false) (ha:∀ a b,lt a b=true->lt b a=false) (l:List α):(WW lt l).Pairwise (fun a b=>lt b a=false):=(ag0 lt ht ha l [] List.Pairwise.nil).1
theorem akE (ht:∀ a b c,lt b a=false->lt c b=false->lt c a=false) (ha:∀ a b,lt a b=true->lt b a=false) (l:List α):(WW lt l).Perm l:=by
 have:=(ag0 lt ht ha l [] List.Pairwise.nil).2
 rw [MC] at this;exact this
end
def WX (l:List (List Pt)):List (List Pt):=WW EU l
theorem mM (l:List (List Pt)):(WX l).Perm l:=akE EU (fun _ _ _=>afz) (fun _ _=>afx) l
theorem atm (l:List (List Pt)):(WX l).Pairwise (fun a b=>EU b a=false):=akD EU (fun _ _ _=>afz) (fun _ _=>afx) l
theorem atn {l m:List (List Pt)} (hp:m.Perm l) (hs:m.Pairwise (fun a b=>EU b a=false)):m=WX l :=
 nZ (lt:=EU) (hp.trans (mM l).symm) hs (atm l) (fun _ _ _ _ h1 h2=>abX h1 h2)
def abZ (l:List Pt):List Pt:=WW BP l
theorem ag1 (l:List Pt):(abZ l).Perm l:=akE BP (fun _ _ _=>afw) (fun _ _=>abW) l
theorem ato (l:List Pt):(abZ l).Pairwise (fun a b=>BP b a=false):=akD BP (fun _ _ _=>afw) (fun _ _=>abW) l
theorem atp {l m:List Pt} (hp:m.Perm l) (hs:m.Pairwise (fun a b=>BP b a=false)):m=abZ l :=
 nZ (lt:=BP) (hp.trans (ag1 l).symm) hs (ato l) (fun _ _ _ _ h1 h2=>Wv h1 h2)
def iM:List Pt->List Pt
 | []=>[]
 | x::l=>if x∈l then iM l else x::iM l
theorem wM {p:Pt}:∀ {l:List Pt},p∈iM l↔p∈l
 | []=>Iff.rfl
 | x::l=>by
  unfold iM;split
  ·rename_i hx;rw [wM,FI];exact ⟨.inr,fun h=>h.elim (fun e=>e ▸ hx) id⟩
  · rw [FI,FI,wM]
theorem abb:∀ l:List Pt,(iM l).Nodup
 | []=>List.Pairwise.nil
 | x::l=>by
  unfold iM;split
  · exact abb l
  ·rename_i hx;exact yP.2 ⟨fun h=>hx (wM.1 h),abb l⟩
theorem atq {l m:List Pt} (hl:l.Nodup) (hm:m.Nodup) (h:∀ p,p∈l↔p∈m):l.Perm m:=by
 rw [List.perm_iff_count];intro a;rw [hl.count,hm.count];by_cases e:a∈l
 · rw [AZ e,AZ ((h a).1 e)]
 · rw [AX e,AX (fun h'=>e ((h a).2 h'))]
def bump (l:List Pt):List Pt:=l++l.head?.toList++l.getLast?.toList
def bumps (L:List (List Pt)):List Pt:=L.flatMap bump
def meets (L:List (List Pt)) (p:Pt):Bool:=decide (2<=(bumps L).count p)
theorem atr {l:List Pt} {p:Pt}:p∈bump l↔p∈l:=by
 unfold bump;simp only [GI,Option.mem_toList];constructor
 ·rintro ((h | h) | h)
  · exact h
  · exact agz h
  · exact ah0 h
 · exact fun h=>.inl (.inl h)
theorem akF {L:List (List Pt)} {p:Pt}:p∈bumps L↔p∈L.flatten:=by
 unfold bumps;simp only [Ii,kF,atr]
theorem iO {L:List (List Pt)} {p:Pt} (h:meets L p=true):p∈L.flatten:=by
 unfold meets at h;rw [Dq] at h;exact akF.1 (ah1.1 AA)
def KW (L:List (List Pt)):List Pt:=abZ ((iM L.flatten).filter (meets L))
theorem akG {L:List (List Pt)} {m:List Pt} (hn:m.Nodup) (hm:∀ p,p∈m↔meets L p=true) (hs:m.Pairwise (fun a b=>BP b a=false)):m=KW L:=by
 refine atp ?_ hs;refine atq hn ((abb _).filter _) (fun p=>?_);rw [hm,QN,wM];exact ⟨fun h=>⟨iO h,h⟩,fun h=>h.2⟩
theorem pO {L:List (List Pt)} {p:Pt}:p∈KW L↔meets L p=true:=by
 unfold KW;rw [(ag1 _).mem_iff,QN,wM];exact ⟨fun h=>h.2,fun h=>⟨iO h,h⟩⟩
theorem akH (L:List (List Pt)):(KW L).Nodup:=(ag1 _).nodup_iff.2 ((abb _).filter _)
open Go.RowKit Go.Sort
theorem att (a b:Pt):YE [Mc a.x b.x,Mc a.y b.y]=Ph a b:=by
 unfold YE Mc Ph BP;by_cases h1:a.x<b.x
 · simp [h1]
 ·by_cases h2:b.x<a.x
  ·have h3:¬ a.x=b.x:=AA
   simp [h1,h2,h3]
  ·have h3:a.x=b.x:=AA
   by_cases h4:a.y<b.y
   · simp [h3,h4]
   · by_cases h5:b.y<a.y<;>simp [h3,h4,h5]
theorem abd {α:Type} (f:α->Pt) (x y:α):ltOf (fun x y=>Ph (f x) (f y)) x y=BP (f x) (f y):=by
 unfold ltOf Ph
 cases h1:BP (f x) (f y)<;>cases h2:BP (f y) (f x)<;>simp [h1,h2]
theorem atu {α:Type} (f:α->Pt):SWO (ltOf (fun x y:α=>Ph (f x) (f y))) where
 irrefl x:=by rw [abd];exact U4 _
 trans x y z h1 h2:=by rw [abd] at *;exact afv h1 h2
 ntrans x y z h1 h2:=by rw [abd] at *;exact afw h2 h1
theorem akI (a b:Pt) (w:World):Calls prog 27 #[.agg #[.int .i64 a.x,.int .i64 a.y],.agg #[.int .i64 b.x,.int .i64 b.y]] w fun e w'=>e=.returned (.int .i64 (Ph a b))/\MR w w':=by
 have HX:=AB (fun W=>sK a.x b.x W);have HY:=AB (fun W=>sK a.y b.y W);rw [<- att];generalize Mc a.x b.x=x at *;generalize Mc a.y b.y=y at *;obtain ⟨ax,ay⟩:=a;obtain ⟨bx,by_⟩:=b;simp only at *;go_enter func27,ntmps27;go_upto_region 1 with fail;obtain ⟨W,hW⟩:=BR ((w.alloc (.cells #[.int .i64 ax,.int .i64 ay] 42)).alloc (.cells #[.int .i64 bx,.int .i64 by_] 42));have Bw:AU w W:=by rw [hW];exact bA (bA (bR w) _) _
 have Dw:=AB (show w.drawn<=W.drawn by rw [hW];exact dA (dA (dR w) _) _);have X1:AO W w.heap.size 42 #[.int .i64 ax,.int .i64 ay]:=by rw [hW];exact (AO.made rfl _ _).alloc _
 have X2:AO W (w.heap.size+1) 42 #[.int .i64 bx,.int .i64 by_]:=by rw [hW];exact AO.made Ah _ _
 rw [<- hW];clear hW;obtain ⟨BJ,BK,BL,-⟩:=X1.Bl;obtain ⟨Bh,Bq,Bv,-⟩:=X2.Bl;refine D9 (W) (.run 4 0 0 (.run 4 5 15 (.call 4 511 (.call 9 1023 (.call 10 2047 (.call 11 4095 (.take 12 8191 (.done)))))))) fun CQ QR Ae Aj hS=>?_
 iterate 8 refine Ak ?_
 refine BN ?_;clear hS;intro K hK AP;go_simp;refine (HX.1 _).mono ?_;rintro e BZ ⟨rfl,BU,hd1⟩;have hS:Since W BZ:=bT (w:=W) AP.out BU;clear AP
 try replace XQ:=XQ.keep BU
 refine hK.out _ _ hS (fun _=>?_);clear hK K
 try simp only [pu]
 refine BN ?_;clear hS;intro K hK AP;go_simp;refine (HY.1 _).mono ?_;rintro e wr2 ⟨rfl,Du,hd2⟩;have hS:Since W wr2:=bT (w:=W) AP.out Du;clear AP
 try replace XQ:=XQ.keep Du
 refine hK.out _ _ hS (fun _=>?_);clear hK K
 try simp only [pu]
 refine BN ?_;clear hS;intro K hK AP;go_simp;refine hK.out _ _ (bA AP.out _) (fun hS=>?_);clear hK K AP
 try replace XQ:=XQ.alloc (.cells #[.int .i64 x,.int .i64 y] 3)
 have XQ:=AO.new (wr2) 3 #[.int .i64 x,.int .i64 y]
 try simp only [World.size_drew,World.size_alloc] at XQ XQz
 try simp only [pu]
 refine BN ?_;clear hS;intro K hK AP;go_simp;refine (ahn _ _ _ (Ints.akk XQ) Ah).mono ?_;rintro e wr3 ⟨rfl,NG,hd3⟩;have hS:Since W wr3:=bT (w:=W) AP.out NG;clear AP
 try replace XQ:=XQ.keep NG
 refine hK.out _ _ hS (fun _=>?_);clear hK K
 try simp only [pu]
 refine Ak ?_;refine D5 ?_;clear hS Aj Ae;intro hB;have D3:=AB (dT (dA (dT (dT (dD Dw.1) hd1) hd2) _) hd3);go_wp2;go_ret;exact ⟨rfl,bT Bw hB,D3.1⟩
theorem atv (p:Pt) (w:World):Calls prog 53 #[.agg #[.int .i64 p.x,.int .i64 p.y]] w fun e w'=>e=.returned (.bool (GL p))/\AU w w':=by
 go_enter func53,ntmps53;go_wp2_with fail
 all_goals
  go_ret;refine ⟨CP (by rw [GL,Jh];simp only [ER,Dq,true_iff,QL,false_iff];omega),?_⟩;exact Dy
def Kw (x:SV×List Pt):List Value:=[BF x.1]
def FY (w:World) (v:Value) (xs:List (SV×List Pt)):Prop:=Sl w v xs.length (xs.flatMap Kw)/\∀ k (hk:k<xs.length),CZ w (BF xs[k].1) xs[k].2
theorem FY.mono {w w':World} {v:Value} {xs:List (SV×List Pt)} (h:FY w v xs) (hb:AU w w'):FY w' v xs:=⟨h.1.mono hb,fun k hk=>(h.2 k hk).mono hb⟩
theorem Row.ln {w:World} {A:Option Addr} {xs:List (SV×List Pt)} (h:Row w A (xs.flatMap Kw)) {k:Nat} (hk:k<xs.length) :
  ∃ b o,A=some ⟨b,o,none⟩/\b<w.heap.size/\w.cell? ⟨b,o+k,none⟩=some (BF xs[k].1):=by
 obtain ⟨b,o,hA,hb,hc⟩:=h.at_ (n:=1) (fun _=>rfl) hk AA;exact ⟨b,o,hA,hb,by simpa using hc 0 _ rfl⟩
def OU (B g:Nat) (w0:World):World->Prop:=fun w=>Below B w0 w/\w.heap[g]? = w0.heap[g]?
section
variable {B g:Nat} {W w w':World}
theorem akJ (h:OU B g W w):(∀ b o,b<B->w.cell? ⟨b,o,none⟩=W.cell? ⟨b,o,none⟩)/\(∀ o,w.cell? ⟨g,o,none⟩=W.cell? ⟨g,o,none⟩) :=
 ⟨(aaD h.1).1,fun o=>by simp only [World.cell?,h.2]⟩
theorem kR (W:World):OU B g W W.drew:=⟨Below.drew (Below.refl _ _),rfl⟩
theorem kA (h:OU B g W w) (hB:B<=W.heap.size) (hg:g<W.heap.size) (o:Obj):OU B g W (w.alloc o) :=
 ⟨h.1.alloc (EG hB h.1.size) o,by rw [Below.heap_alloc w o g (QS hg h.1.size)];exact h.2⟩
theorem kC (h:OU B g W w) (k:AU w w') (hB:B<=W.heap.size) (hg:g<W.heap.size):OU B g W w' :=
 ⟨h.1.trans (k.mono (EG hB h.1.size)),(k.block g (QS hg h.1.size)).trans h.2⟩
theorem kG (h:OU B g W w) {row:Option Nat} (k:w.grownBy w' row) (hr:∀ q,row=some q->B<=q) (hn:some g≠row) (hB:B<=W.heap.size) (hg:g<W.heap.size):OU B g W w' :=
 ⟨h.1.grown k (EG hB h.1.size) hr,(k.block g (QS hg h.1.size) hn).trans h.2⟩
theorem kS (h:OU B g W w) {p:Addr} (hB:B<=p.block) (hn:g≠p.block) (u:Value):OU B g W (w.setCell p u) :=
 ⟨h.1.setCell hB u,(Below.heap_setCell w p u g hn).trans h.2⟩
end
section
variable {P:Program} {ops:Array Oper} {Q:Exit->Act->World->Prop}
theorem pR {l:List Oper} {i m:Nat} {oi:Oper} {r:IG} {a:Act} {w W:World} {B g:Nat} {v:Value} (H:PLift (ops=l.toArray)) (hi:l[i]? = some oi) (hS:OU B g W w) (hg:oi.guard=none)
  (hy:∀ wq:World,(∀ b o,b<B->wq.cell? ⟨b,o,none⟩=W.cell? ⟨b,o,none⟩)->(∀ o,wq.cell? ⟨g,o,none⟩=W.cell? ⟨g,o,none⟩)->(execOp a.eval oi).run P wq=.ok (.value v) wq) (h:Gf P ops (NoPanic Q) (OU B g W) r (a.put oi.dst v) w):Gf P ops (NoPanic Q) (OU B g W) (.take i m r) a w :=
 eu H hi hS hg (fun wq hq=>hy wq (akJ hq).1 (akJ hq).2) h
end
def atw (w:World) (l:List Nd) (e:Ending) (w':World):Prop :=
 ∃ A c,e=.returned (.slice A l.length c)/\AU w w'/\Own w' w.heap.size 47 3 PD (.slice A l.length c) l
theorem atx (v:Value) (l:List Nd) (w:World) (h:lV w v l) (hl:l.length<=1048576) :
  Calls prog 118 #[v] w (atw w l):=by
 have H:=h;obtain ⟨A,c,rfl,hn,hc,hR⟩:=h;have hE:=Lib.run_eql_slice_nil (P:=prog) (t:=30) (e:=47);rcases A with _ | ad
 ·have hl0:l=[]:=by
   rcases l with _ | ⟨a,l⟩
   · rfl
   ·obtain ⟨b,o,e,_⟩:=hR (by simp [PD])
    cases e
  subst hl0;clear hR H;simp only [LH] at hn ⊢;have hE1:∀ W:World,(binOp .eql 30 (.slice none 0 c) (.slice none 0 0)).run prog W=.ok (.bool true) W:=fun W=>Lib.run_eql_slice_nil W _ 47 none _ c 0 0 Tryz.underlying30;clear hE;go_enter func118,ntmps118;go_wp2;go_ret;exact ⟨_,_,rfl,bR w,Own.nil _ _ _ _ _⟩
 ·have hE1:∀ W:World,(binOp .eql 30 (.slice (some ad) l.length c) (.slice none 0 0)).run prog W=.ok (.bool false) W:=fun W=>Lib.run_eql_slice_nil W _ 47 (some ad) _ c 0 0 Tryz.underlying30;clear hE hR;have HH:=AB H;clear H;go_enter func118,ntmps118;go_wp2_with
   (at_builtin
    refine FK _ rfl (.tmp 5) (.tmp 6) _ rfl (base:=w.heap.size) sV sW sZ rfl (Own.lit _ _ _ _ PD [] _ 0 _ rfl rfl (Cj _) (D7 AA) rfl rfl) rfl (HH.1.mono (bA (bR w) _)) Ua Ua Ah ?_;intro v1 w1 hown hg hat)
  go_ret;obtain ⟨A1,c1,rfl,-⟩:=Own.sl hown;simp only [OW] at hown ⊢;exact ⟨A1,c1,rfl,bG (bA (bR w) _) hg (fun k hk=>by have:w.heap.size=k:=DV hk;omega),hown⟩
def P5 (a:Ar):Ar:=⟨a.id,a.fr,a.dst,a.via,0,0⟩
def C9 (p:Pl):Pl:=⟨p.nodes,p.AQ.map P5,[]⟩
structure FP (w:World) (B:Nat) (vn va vf:Value) (p:Pl) (bl:List (Ar×SV)):Prop where
 P6:Own w B 47 3 PD vn p.nodes
 Ec:Own w B 50 6 Ja va bl
 MK:∀ x∈bl,Own w B 42 2 DK (BF x.2) x.1.via
 eq:bl.map (·.1)=p.AQ
 KI:Own w B 3 1 DY vf p.faces
theorem FP.keep {w w':World} {B:Nat} {vn va vf:Value} {p:Pl} {bl:List (Ar×SV)} (h:FP w B vn va vf p bl) (hb:AU w w'):FP w' B vn va vf p bl :=
 ⟨h.P6.keep hb,h.Ec.keep hb,fun x hx=>(h.MK x hx).keep hb,h.eq,h.KI.keep hb⟩
theorem FP.Yr {w:World} {B:Nat} {vn va vf:Value} {p:Pl} {bl:List (Ar×SV)} (h:FP w B vn va vf p bl):D6 w (.agg #[vn,va,vf]) p:=by
 refine ⟨vn,va,vf,bl.map jB,rfl,?_,h.P6.sl,⟨?_,fun k hk=>?_⟩,h.KI.sl⟩
 · rw [IW,<- h.eq];rfl
 ·have:=h.Ec.sl
  rw [CV,aau];exact this
 ·have hk':k<bl.length:=by simpa using hk
  rw [Iu];exact (h.MK _ (BO hk')).sl
def aty (w:World) (p:Pl) (e:Ending) (w':World):Prop :=
 ∃ An cn Aa ca bl,e=.returned (.agg #[.slice An p.nodes.length cn,.slice Aa p.AQ.length ca,.slice none 0 0])/\AU w w'/\FP w' w.heap.size (.slice An p.nodes.length cn) (.slice Aa p.AQ.length ca) (.slice none 0 0) p bl
theorem FP.more {w w1:World} {B:Nat} {vn va va' vf:Value} {p:Pl} {bl:List (Ar×SV)} {x:Ar×SV} (h:FP w B vn va vf p bl) (ho:Own w1 B 50 6 Ja va' (bl++[x])) (hg:w.grownBy w1 va.ownBlock) (hx:Own w B 42 2 DK (BF x.2) x.1.via) :
  FP w1 B vn va' vf ⟨p.nodes,p.AQ++[x.1],p.faces⟩ (bl++[x]) :=
 ⟨Own.grown h.P6 hg (Own.apart h.P6 h.Ec Aw),ho,fun y hy=>by
  rcases GI.1 hy with hy | hy
  · exact Own.grown (h.MK y hy) hg (Own.apart (h.MK y hy) h.Ec Aw)
  ·rw [Eb] at hy;subst hy;exact Own.grown hx hg (Own.apart hx h.Ec Aw),by rw [FH,h.eq];rfl,Own.grown h.KI hg (Own.apart h.KI h.Ec Aw)⟩
theorem FP.far {w:World} {B:Nat} {vn va vf:Value} {p:Pl} {bl:List (Ar×SV)} (h:FP w B vn va vf p bl) {g:Nat} {t:TypeId} {cs:Array Value} (hb:AO w g t cs) (h1:47≠t) (h2:50≠t) (h3:42≠t) (h4:3≠t) (j:Nat) (u:Value):FP (w.setCell ⟨g,j,none⟩ u) B vn va vf p bl :=
 ⟨Own.far h.P6 (Own.EX h.P6 hb h1) u,Own.far h.Ec (Own.EX h.Ec hb h2) u,fun x hx=>Own.far (h.MK x hx) (Own.EX (h.MK x hx) hb h3) u,h.eq,Own.far h.KI (Own.EX h.KI hb h4) u⟩
theorem Row.at6 {w:World} {A:Option Addr} {l:List (Ar×SV)} (h:Row w A (l.flatMap Ja)) {k:Nat} (hk:k<l.length) :
  ∃ b o,A=some ⟨b,o,none⟩/\b<w.heap.size/\w.cell? ⟨b,o+k*6,none⟩=some (.int .i64 l[k].1.id)/\w.cell? ⟨b,o+k*6+1,none⟩=some (.int .i64 l[k].1.fr)/\w.cell? ⟨b,o+k*6+2,none⟩=some (.int .i64 l[k].1.dst) /\
   w.cell? ⟨b,o+k*6+3,none⟩=some (.slice l[k].2.a l[k].2.n l[k].2.c)/\w.cell? ⟨b,o+k*6+4,none⟩=some (.int .i64 l[k].1.left)/\w.cell? ⟨b,o+k*6+5,none⟩=some (.int .i64 l[k].1.right):=by
 obtain ⟨b,o,hA,hb,hc⟩:=h.at_ (n:=6) (fun _=>rfl) hk AA;exact ⟨b,o,hA,hb,hc 0 _ rfl,hc 1 _ rfl,hc 2 _ rfl,hc 3 _ rfl,hc 4 _ rfl,hc 5 _ rfl⟩
theorem alh (v:Value) (p:Pl) (w:World) (h:D6 w v p) (hn:p.nodes.length<=100000) (ha:p.AQ.length<=100000) (hvl:∀ a∈p.AQ,a.via.length<=100000):Calls prog 69 #[v] w (aty w (C9 p)):=by
 obtain ⟨_,_,_,al,rfl,hpa,hN,⟨⟨Aa,ca,rfl,ha1,ha2,FT⟩,hV⟩,⟨Af,cf,rfl,-⟩⟩:=h;obtain ⟨bl,rfl⟩:=hV.sv;have hres:p.AQ=bl.map (·.1):=by rw [hpa,IW];rfl
 have hbl:bl.length<=100000:=by rw [hres,CV] at ha;exact ha
 rw [CV] at ha1;rw [aau] at FT;have abe:=AB (show ∀ k (hk:k<bl.length),CZ w (.slice bl[k].2.a bl[k].2.n bl[k].2.c) bl[k].1.via from fun k hk=>by
  have:=hV k Uc
  simpa [jB] using this)
 obtain ⟨iP,Ij,HCn,Yt⟩:=DW (show ∀ k (hk:k<bl.length),bl[k].1.via.length<=100000 from fun k hk=>hvl _ (by rw [hres];exact FZ (BO hk))) (show Row w Aa (bl.flatMap Ja) from FT) (fun W (hW:AU w W)=>atx _ p.nodes W (hN.mono hW) AA) (fun u l W (hu:CZ W u l) (hl:l.length<=1048576)=>adI u l W hu hl);obtain ⟨An,cn,rfl,hn1,hn2,-⟩:=hN;have wO:=AB hres;rw [CV] at *;unfold maxLen at ha2 hn2;clear hV FT hpa hres hvl;generalize p.faces.length=nf at *;go_enter func69,ntmps69;go_upto_region 1 with fail;obtain ⟨g2,hg2⟩:=BI (w.heap.size+1);obtain ⟨W1,hW⟩:∃ W:World,W=(w.alloc (.cells #[.slice An p.nodes.length cn,.slice Aa bl.length ca,.slice Af nf cf] 34)).alloc (.cells #[.slice none 0 0,.slice none 0 0,.slice none 0 0] 34):=⟨_,rfl⟩;have X1:AO W1 w.heap.size 34 #[.slice An p.nodes.length cn,.slice Aa bl.length ca,.slice Af nf cf]:=by rw [hW];exact (AO.made rfl _ _).alloc _
 have X2:AO W1 g2 34 #[.slice none 0 0,.slice none 0 0,.slice none 0 0]:=by rw [hW];exact AO.made (by rw [<- hg2];simp) _ _
 have HB1:=AB (show AU w W1 by rw [hW];exact bA (bA (bR w) _) _);rw [<- hW]
 try rw [hg2]
 have Dt:=AB X1;have DC:=AB X2;have n12:¬ g2=w.heap.size:=AA
 have hgw:w.heap.size<=g2:=AA
 clear hW hg2;obtain ⟨BJ,BK,BL,BQ,-⟩:=X1.Az;obtain ⟨Bh,Bq,Bv,CS,Y9,ZY,iQ⟩:=X2.Az;go_wp2_with fail;refine (HCn.1 _ HB1.1).mono ?_;rintro e w2 ⟨Gp,Gq,rfl,hb2,hon⟩;obtain ⟨HB2,EY,DL⟩:=CG (bT HB1.1 hb2) (Dt.1.keep hb2) (DC.1.keep hb2);have ali:=hon.EM (b':=w.heap.size) HB1.1.size;have OJ:=AB (show FP w2 w.heap.size (.slice Gp p.nodes.length Gq) (.slice none 0 0) (.slice none 0 0) ⟨p.nodes,[],[]⟩ [] from ⟨ali,Own.nil _ _ _ _ _,(fun x hx=>by cases hx),rfl,Own.nil _ _ _ _ _⟩);clear hb2 hon ali HCn X1 BJ BK BL BQ X2 Bh Bq Bv CS Y9 ZY iQ;have X3:=EY.1;have X4:=DL.1;obtain ⟨Dk,EI,EN,Gv,-⟩:=X3.Az;obtain ⟨Bg,CO,CU,ES,Eo,Gu,Jo⟩:=X4.Az;go_wp2_with fail;go_loopw [12] (fun i wr=>∃ (k:Nat) (ol:List (Ar×SV)) (A:Option Addr) (c:Nat),k<=bl.length/\i=.int .i64 k/\ol.length=k/\FP wr w.heap.size (.slice Gp p.nodes.length Gq) (.slice A k c) (.slice none 0 0) ⟨p.nodes,(bl.take k).map (fun x=>P5 x.1),[]⟩ ol/\AO wr g2 34 #[.slice Gp p.nodes.length Gq,.slice A k c,.slice none 0 0]/\AU w wr) (fun i _=>bl.length-(intOf i).toNat)
 case atStart => exact ⟨0,[],none,0,BX _,rfl,rfl,OJ.1.far DL.1 Aw Aw Aw Aw 0 _,by simpa using DL.1.EH 0 (.slice Gp p.nodes.length Gq),bS HB2.1 hgw _⟩
 case round =>
  clear OJ DL HB2 X3 Dk EI EN Gv X4 Bg CO CU ES Eo Gu Jo;obtain ⟨k,ol,A,c,hk,rfl,hol,hpo,X4,hb⟩:=hrel;obtain ⟨wo,rfl⟩:=BR wr;obtain ⟨HP,DL,HB,Oz⟩:=DW hpo X4 hb hol;have hl4:=X4.lt;clear hpo hb;by_cases hlt:k<bl.length
  ·obtain ⟨b,o,hAb,hlb,c0,c1,c2,c3,c4,c5⟩:=(Row.mono Ij.1 HB.1).at6 hlt;subst hAb;have hv:=abe.1 k hlt;have hvl:=iP.1 k hlt;have htk:bl.take (k+1)=bl.take k++[bl[k]]:=Em hlt;generalize bl[k]=x at *;obtain ⟨⟨id,fr,dst,via,lf,rt⟩,⟨va,vn,vc⟩⟩:=x;simp only at c0 c1 c2 c3 c4 c5 hv hvl htk;have hv0:=hv;obtain ⟨Av,cv,hev,-⟩:=hv;injection hev with y1 y2 y3;subst y1 y2 y3;have HVs:=AB (fun W (hW:AU w W)=>Yt.1 (.slice va via.length vc) via W (hv0.mono hW) AA);clear hv0;have Ei:=AB htk;clear htk;go_upto_region 5 with fail;obtain ⟨W2,hW⟩:∃ W:World,W=wo.alloc (.cells #[.int .i64 id,.int .i64 fr,.int .i64 dst,.slice va via.length vc,.int .i64 lf,.int .i64 rt] 50):=⟨_,rfl⟩;have hA:AU wo W2:=by rw [hW];exact bA (bR wo) _
   obtain ⟨g4,hg4⟩:=BI wo.heap.size;have X6:AO W2 g4 50 #[.int .i64 id,.int .i64 fr,.int .i64 dst,.slice va via.length vc,.int .i64 lf,.int .i64 rt]:=by rw [hW];exact AO.made hg4.symm _ _
   obtain ⟨HB2,HP2,DX⟩:=CG (bT HB.1 hA) (HP.1.keep hA) (DL.1.keep hA);have n4:some g4≠(Value.slice A k c).ownBlock:=fun e=>by have:=(HP.1.Ec.lt _ e.symm).2;omega
   have n42:¬ g4=g2:=AA
   have hz2:=HB2.1.size;have azl:=hA.size;rw [<- hW]
   try rw [hg4]
   clear hW hA c0 c1 c2 c3 c4 c5 hlb HP HB DL;have X5:=DX.1;clear X4;have ED:=AB (fun (y:Ar×SV)=>show (ol++[y]).length=k+1 from by rw [Es,Oz.1];rfl);have ag2:ol.length<=100000:=AA
   have ag3:w.heap.size<=g2:=hgw;have UA:=AB (fun (A7:Option Addr) (c7:Nat)=>show (bl.take (k+1)).map (fun x=>P5 x.1)=(bl.take k).map (fun x=>P5 x.1)++[(⟨id,fr,dst,via,0,0⟩:Ar)] from by rw [Ei.1,FH];rfl);obtain ⟨FU,FV,FW,QZ,aF,ZV,ZW,-⟩:=X6.Iy;have hl5:=X5.lt;have n5:=Own.EX HP2.1.Ec DX.1 Aw;refine zL (OU (w.heap.size) (g4) W2) (.take 0 1 (.run 8 2 1 (.two 1 1023 (.call 10 2047 (.take 11 4095 (.call 12 8191 (.call 13 16383 (.take 14 32767 (.call 15 65535 (.done))))))) 10 2045 (.take 11 4093 (.two 1 4095 (.call 12 8191 (.call 13 16383 (.take 14 32767 (.call 15 65535 (.done))))) 12 8189 (.call 1 8191 (.call 13 16383 (.take 14 32767 (.call 15 65535 (.done)))))))))) Gl (kR _) Gl Gl (acW Gl) ?_;intro CQ QR Ae Aj hS;replace X5:=X5.drew
   iterate 9
    apply pR;exact Ae;exact rfl;exact hS;exact rfl
    · intro _ hqc wP;go_simp;try rfl
    try simp only [pu]
   refine MQ (i:=1) (j:=10) (ET Ae rfl) (ET Ae rfl) (fun K hK=>?_) (fun K hK=>?_)
   ·have AP:=AB hS;clear hS;refine En (Eh rfl) ?_;obtain ⟨z1,z2,z3,z4,-⟩:=AO.Az X5;go_simp;refine hK.out _ _ AP.out (fun hS=>?_);clear hK K AP
    try simp only [pu]
    refine Um (i:=10) (ET Ae rfl) (fun K hK=>?_);have AP:=AB hS;clear hS;refine En (Eh rfl) ?_;go_simp;refine (HVs.1 _ (bT HB2.1 (bD (bR W2)))).mono ?_;rintro e BZ ⟨A9,c9,rfl,BU,Gy⟩;have hS:OU (w.heap.size) (g4) W2 BZ:=kC AP.out BU AA AA;clear AP
    try replace XL:=XL.keep BU
    try replace X5:=X5.keep BU
    refine hK.out _ _ hS (fun _=>?_);clear hK K
    try simp only [pu]
    apply pR;exact Ae;exact rfl;exact hS;exact rfl
    · intro _ hqc wP;go_simp;try rfl
    try simp only [pu]
    refine Um (i:=12) (ET Ae rfl) (fun K hK=>?_);have AP:=AB hS;clear hS;refine En (Eh rfl) ?_;go_simp;have VR:Below (w.heap.size) W2 (BZ):=AP.out.1;have Le:w.heap.size<=(BZ).heap.size:=EG AA (show Below (w.heap.size) W2 (BZ) from AP.out.1).size;refine hK.out _ _ (kA AP.out AA AA _) (fun hS=>?_);clear hK K AP
    try replace X5:=X5.alloc (.cells #[.int .i64 id,.int .i64 fr,.int .i64 dst,.slice A9 via.length c9,.int .i64 0,.int .i64 0] 50)
    try replace XL:=XL.alloc (.cells #[.int .i64 id,.int .i64 fr,.int .i64 dst,.slice A9 via.length c9,.int .i64 0,.int .i64 0] 50)
    have XL:=AO.new (BZ) 50 #[.int .i64 id,.int .i64 fr,.int .i64 dst,.slice A9 via.length c9,.int .i64 0,.int .i64 0]
    try simp only [World.size_drew,World.size_alloc] at XL Le
    try simp only [World.alloc_drew] at X5
    try simp only [World.alloc_drew] at XL
    try simp only [pu]
    refine Um (i:=13) (ET Ae rfl) (fun K hK=>?_);have AP:=AB hS;clear hS;refine En (Eh rfl) ?_;refine GK (.tmp 17) (.tmp 28) _ rfl (base:=w.heap.size) Uw Ql Vw rfl (((HP2.1.Ec.keep (bD (bR W2))).keep BU).alloc _) rfl (l2:=[((⟨id,fr,dst,via,0,0⟩:Ar),(⟨A9,via.length,c9⟩:SV))]) (Sl.lit (n:=1) (AO.made rfl _ _) rfl (D7 AA)) Dl Dl ZF ?_;intro v7 w7 Dv DN Jd;obtain ⟨A7,c7,hv7,-⟩:=Own.GU Dv;rw [ED.1] at hv7;subst hv7;have EW:=AO.grown X5 DN (fun e=>n5 e.symm);obtain ⟨q1,q2,q3,q4,q5,q6,q7⟩:=AO.Az EW;have hmr:=FP.more (((HP2.1.keep (bD (bR W2))).keep BU).keep (bA (bR _) _)) Dv DN (Own.alloc (Gy.EM DR) _);obtain ⟨Lh,OZ,Fv⟩:=CG (hmr.far EW Aw Aw Aw Aw 1 (.slice A7 (k+1) c7)) (EW.EH 1 (.slice A7 (k+1) c7)) (bS (p:=⟨g2,1,none⟩) (bG (bA (bT (bT HB2.1 (bD (bR W2))) BU) _) DN (fun q hq=>(HP2.1.Ec.lt q hq).1)) ag3 (.slice A7 (k+1) c7));have hS:OU w.heap.size g4 W2 w7:=kG AP.out DN (fun q hq=>(HP2.1.Ec.lt q hq).1) n4 AA AA;clear hmr EW Dv DN Jd;clear AP;refine hK.out _ _ hS (fun _=>?_);clear hK K
    try simp only [pu]
    apply pR;exact Ae;exact rfl;exact hS;exact rfl
    · intro _ hqc wP;go_simp;try rfl
    try simp only [pu]
    refine Um (i:=15) (ET Ae rfl) (fun K hK=>?_);have AP:=AB hS;clear hS;refine En (Eh rfl) ?_;go_simp;refine hK.out _ _ (kS AP.out Jv Jv _) (fun hS=>?_);clear hK K AP
    try simp only [pu]
    refine lZ ?_;refine Aj.down _ _ ?_;have hBk:=hS.2;have hB:Below (w.heap.size) W2 _:=hS.1;clear hS Aj Ae;go_wp2;go_roundw
    case rel => exact ⟨k+1,_,A7,c7,AA,BG,ED.1 _,by rw [UA.1 A7 c7];exact Lh.1,Rz,Fv.1⟩
    case measure => exact BH
   ·have AP:=AB hS;clear hS;refine En (Eh rfl) ?_;go_simp;refine (HVs.1 _ (bT HB2.1 (bD (bR W2)))).mono ?_;rintro e BZ ⟨A9,c9,rfl,BU,Gy⟩;have hS:OU (w.heap.size) (g4) W2 BZ:=kC AP.out BU AA AA;clear AP
    try replace XL:=XL.keep BU
    try replace X5:=X5.keep BU
    refine hK.out _ _ hS (fun _=>?_);clear hK K
    try simp only [pu]
    apply pR;exact Ae;exact rfl;exact hS;exact rfl
    · intro _ hqc wP;go_simp;try rfl
    try simp only [pu]
    refine MQ (i:=1) (j:=12) (ET Ae rfl) (ET Ae rfl) (fun K hK=>?_) (fun K hK=>?_)
    ·have AP:=AB hS;clear hS;refine En (Eh rfl) ?_;obtain ⟨z1,z2,z3,z4,-⟩:=AO.Az X5;go_simp;refine hK.out _ _ AP.out (fun hS=>?_);clear hK K AP
     try simp only [pu]
     refine Um (i:=12) (ET Ae rfl) (fun K hK=>?_);have AP:=AB hS;clear hS;refine En (Eh rfl) ?_;go_simp;have VR:Below (w.heap.size) W2 (BZ):=AP.out.1;have Le:w.heap.size<=(BZ).heap.size:=EG AA (show Below (w.heap.size) W2 (BZ) from AP.out.1).size;refine hK.out _ _ (kA AP.out AA AA _) (fun hS=>?_);clear hK K AP
     try replace X5:=X5.alloc (.cells #[.int .i64 id,.int .i64 fr,.int .i64 dst,.slice A9 via.length c9,.int .i64 0,.int .i64 0] 50)
     try replace XL:=XL.alloc (.cells #[.int .i64 id,.int .i64 fr,.int .i64 dst,.slice A9 via.length c9,.int .i64 0,.int .i64 0] 50)
     have XL:=AO.new (BZ) 50 #[.int .i64 id,.int .i64 fr,.int .i64 dst,.slice A9 via.length c9,.int .i64 0,.int .i64 0]
     try simp only [World.size_drew,World.size_alloc] at XL Le
     try simp only [World.alloc_drew] at X5
     try simp only [World.alloc_drew] at XL
     try simp only [pu]
     refine Um (i:=13) (ET Ae rfl) (fun K hK=>?_);have AP:=AB hS;clear hS;refine En (Eh rfl) ?_;refine GK (.tmp 17) (.tmp 28) _ rfl (base:=w.heap.size) Uw Ql Vw rfl (((HP2.1.Ec.keep (bD (bR W2))).keep BU).alloc _) rfl (l2:=[((⟨id,fr,dst,via,0,0⟩:Ar),(⟨A9,via.length,c9⟩:SV))]) (Sl.lit (n:=1) (AO.made rfl _ _) rfl (D7 AA)) Dl Dl ZF ?_;intro v7 w7 Dv DN Jd;obtain ⟨A7,c7,hv7,-⟩:=Own.GU Dv;rw [ED.1] at hv7;subst hv7;have EW:=AO.grown X5 DN (fun e=>n5 e.symm);obtain ⟨q1,q2,q3,q4,q5,q6,q7⟩:=AO.Az EW;have hmr:=FP.more (((HP2.1.keep (bD (bR W2))).keep BU).keep (bA (bR _) _)) Dv DN (Own.alloc (Gy.EM DR) _);obtain ⟨Lh,OZ,Fv⟩:=CG (hmr.far EW Aw Aw Aw Aw 1 (.slice A7 (k+1) c7)) (EW.EH 1 (.slice A7 (k+1) c7)) (bS (p:=⟨g2,1,none⟩) (bG (bA (bT (bT HB2.1 (bD (bR W2))) BU) _) DN (fun q hq=>(HP2.1.Ec.lt q hq).1)) ag3 (.slice A7 (k+1) c7));have hS:OU w.heap.size g4 W2 w7:=kG AP.out DN (fun q hq=>(HP2.1.Ec.lt q hq).1) n4 AA AA;clear hmr EW Dv DN Jd;clear AP;refine hK.out _ _ hS (fun _=>?_);clear hK K
     try simp only [pu]
     apply pR;exact Ae;exact rfl;exact hS;exact rfl
     · intro _ hqc wP;go_simp;try rfl
     try simp only [pu]
     refine Um (i:=15) (ET Ae rfl) (fun K hK=>?_);have AP:=AB hS;clear hS;refine En (Eh rfl) ?_;go_simp;refine hK.out _ _ (kS AP.out Jv Jv _) (fun hS=>?_);clear hK K AP
     try simp only [pu]
     refine lZ ?_;refine Aj.down _ _ ?_;have hBk:=hS.2;have hB:Below (w.heap.size) W2 _:=hS.1;clear hS Aj Ae;go_wp2;go_roundw
     case rel => exact ⟨k+1,_,A7,c7,AA,BG,ED.1 _,by rw [UA.1 A7 c7];exact Lh.1,Rz,Fv.1⟩
     case measure => exact BH
    ·have AP:=AB hS;clear hS;refine En (Eh rfl) ?_;go_simp;have VR:Below (w.heap.size) W2 (BZ):=AP.out.1;have Le:w.heap.size<=(BZ).heap.size:=EG AA (show Below (w.heap.size) W2 (BZ) from AP.out.1).size;refine hK.out _ _ (kA AP.out AA AA _) (fun hS=>?_);clear hK K AP
     try replace X5:=X5.alloc (.cells #[.int .i64 id,.int .i64 fr,.int .i64 dst,.slice A9 via.length c9,.int .i64 0,.int .i64 0] 50)
     try replace XL:=XL.alloc (.cells #[.int .i64 id,.int .i64 fr,.int .i64 dst,.slice A9 via.length c9,.int .i64 0,.int .i64 0] 50)
     have XL:=AO.new (BZ) 50 #[.int .i64 id,.int .i64 fr,.int .i64 dst,.slice A9 via.length c9,.int .i64 0,.int .i64 0]
     try simp only [World.size_drew,World.size_alloc] at XL Le
     try simp only [World.alloc_drew] at X5
     try simp only [World.alloc_drew] at XL
     try simp only [pu]
     refine Um (i:=1) (ET Ae rfl) (fun K hK=>?_);have AP:=AB hS;clear hS;refine En (Eh rfl) ?_;obtain ⟨z1,z2,z3,z4,-⟩:=AO.Az X5;go_simp;refine hK.out _ _ AP.out (fun hS=>?_);clear hK K AP
     try simp only [pu]
     refine Um (i:=13) (ET Ae rfl) (fun K hK=>?_);have AP:=AB hS;clear hS;refine En (Eh rfl) ?_;refine GK (.tmp 17) (.tmp 28) _ rfl (base:=w.heap.size) Uw Ql Vw rfl (((HP2.1.Ec.keep (bD (bR W2))).keep BU).alloc _) rfl (l2:=[((⟨id,fr,dst,via,0,0⟩:Ar),(⟨A9,via.length,c9⟩:SV))]) (Sl.lit (n:=1) (AO.made rfl _ _) rfl (D7 AA)) Dl Dl ZF ?_;intro v7 w7 Dv DN Jd;obtain ⟨A7,c7,hv7,-⟩:=Own.GU Dv;rw [ED.1] at hv7;subst hv7;have EW:=AO.grown X5 DN (fun e=>n5 e.symm);obtain ⟨q1,q2,q3,q4,q5,q6,q7⟩:=AO.Az EW;have hmr:=FP.more (((HP2.1.keep (bD (bR W2))).keep BU).keep (bA (bR _) _)) Dv DN (Own.alloc (Gy.EM DR) _);obtain ⟨Lh,OZ,Fv⟩:=CG (hmr.far EW Aw Aw Aw Aw 1 (.slice A7 (k+1) c7)) (EW.EH 1 (.slice A7 (k+1) c7)) (bS (p:=⟨g2,1,none⟩) (bG (bA (bT (bT HB2.1 (bD (bR W2))) BU) _) DN (fun q hq=>(HP2.1.Ec.lt q hq).1)) ag3 (.slice A7 (k+1) c7));have hS:OU w.heap.size g4 W2 w7:=kG AP.out DN (fun q hq=>(HP2.1.Ec.lt q hq).1) n4 AA AA;clear hmr EW Dv DN Jd;clear AP;refine hK.out _ _ hS (fun _=>?_);clear hK K
     try simp only [pu]
     apply pR;exact Ae;exact rfl;exact hS;exact rfl
     · intro _ hqc wP;go_simp;try rfl
     try simp only [pu]
     refine Um (i:=15) (ET Ae rfl) (fun K hK=>?_);have AP:=AB hS;clear hS;refine En (Eh rfl) ?_;go_simp;refine hK.out _ _ (kS AP.out Jv Jv _) (fun hS=>?_);clear hK K AP
     try simp only [pu]
     refine lZ ?_;refine Aj.down _ _ ?_;have hBk:=hS.2;have hB:Below (w.heap.size) W2 _:=hS.1;clear hS Aj Ae;go_wp2;go_roundw
     case rel => exact ⟨k+1,_,A7,c7,AA,BG,ED.1 _,by rw [UA.1 A7 c7];exact Lh.1,Rz,Fv.1⟩
     case measure => exact BH
  ·obtain rfl:k=bl.length:=AA
   have hlen:p.AQ.length=bl.length:=by rw [wO.1,CV]
   have hpe:(⟨p.nodes,(bl.take bl.length).map (fun x=>P5 x.1),[]⟩:Pl)=C9 p:=by
    unfold C9;rw [I5,wO.1,IW];rfl
   have hpo:=HP.1;rw [hpe] at hpo;obtain ⟨Lh,Fv,HLn⟩:=CG (((hpo.far DL.1 Aw Aw Aw Aw 0 (.slice Gp p.nodes.length Gq)).far (DL.1.EH 0 _) Aw Aw Aw Aw 1 (.slice A bl.length c)).far ((DL.1.EH 0 _).EH 1 _) Aw Aw Aw Aw 2 (.slice none 0 0)) (bS (p:=⟨g2,2,none⟩) (bS (p:=⟨g2,1,none⟩) (bS (p:=⟨g2,0,none⟩) HB.1 hgw (.slice Gp p.nodes.length Gq)) hgw (.slice A bl.length c)) hgw (.slice none 0 0)) hlen;clear hpo hpe hlen HP
   try clear Bg CO CU ES
   try clear Eo Gu Jo
   obtain ⟨Bg,CO,CU,ES,Eo,Gu,Jo⟩:=X4.Az;go_wp2_with fail;refine adA (g:=g2) (cs:=#[.slice Gp p.nodes.length Gq,.slice A bl.length c,.slice none 0 0]) rfl Na rfl rfl (AO.LG DL.1) ?_;have hl1:(C9 p).AQ.length=bl.length:=by unfold C9;rw [CV];exact HLn.1
   refine ⟨Gp,Gq,A,c,ol,by rw [hl1];rfl,Fv.1,?_⟩;rw [hl1];exact Lh.1
open Go.RowKit Go.Sort
theorem atz:∀ w,(isAgg 106).run prog w=.ok true w:=fun _=>by kernel_rfl
theorem au0:∀ w,(Go.sizeOf 106).run prog w=.ok 4 w:=fun _=>by kernel_rfl
open Go.RowKit Go.Sort
theorem au1 (w0:World) (base g c cap:Nat) (z:AD) (sl:List AD) (w:World) (hown:Own w base 106 4 F9 (.slice (some ⟨g,0,none⟩) (sl.length+1) c) (z::sl)) (hpos:0<sl.length) (hb0:AU w0 w) (hbase:w0.heap.size<=base) (hok:∀ s∈sl,NV w0 s) (hn:sl.length<=4294967296) :
  Calls prog 73 #[.slice (some ⟨g,4,none⟩) sl.length cap,.func (.func 74) #[] #[]] w fun e w'=>e=.returned (.tuple #[])/\∃ sl':List AD,sl'.Perm sl/\sl'.Pairwise (fun a b=>ltOf (fun x y:AD=>cmpK (Dp x.out) (Dp y.out)) b a=false)/\Own w' base 106 4 F9 (.slice (some ⟨g,0,none⟩) (sl.length+1) c) (z::sl')/\w.grownBy w' (some g):=by
 have hs0:sl[0]∈sl:=BO hpos;obtain ⟨hlen,hown2⟩:=hown;rcases hown2 with ⟨_,h0⟩ | ⟨g',cap',cur,hv,hg,hh,hnc,hcm,hcs,hx⟩
 · cases h0
 injection hv with e1 _ e3;injection e1 with e1;injection e1 with e1 _ _;subst e1 e3;have hnl:(z::sl).length=sl.length+1:=rfl;rw [hnl] at hnc hx hlen;have hfl:(z::sl).flatMap F9=F9 z++sl.flatMap F9:=rfl;have au2:(sl.flatMap F9).length=sl.length*4:=flat_length F9 4 Sr sl
 haveI hI:Inhabited {s:AD // NV w0 s}:=⟨⟨sl[0],hok _ hs0⟩⟩
 have hdl:∃ dl:List {s:AD // NV w0 s},dl.map (·.1)=sl:=⟨sl.attachWith (fun s=>NV w0 s) hok,Ah⟩;obtain ⟨dl,hdl⟩:=hdl;have hdn:dl.length=sl.length:=by rw [<- hdl];simp
 have hfm:dl.flatMap (fun x=>F9 x.1)=sl.flatMap F9:=by rw [<- hdl,S9]
 have hcur:∀ j,j<sl.length*4->cur[4+j]? = (sl.flatMap F9)[j]? := fun j hj=>by
  have h9:((z::sl).flatMap F9)[4+j]? = (sl.flatMap F9)[j]? := by
   rw [hfl,List.getElem?_append_right (by rw [Sr];omega),Sr,Nat.add_sub_cancel_left]
  rw [<- h9,<- hx,List.getElem?_take,AZ AA];simp
 have eg:∀ args w,(callFunc 74 args).run prog w=.ok (.enter 74 args) w:=enters_of func74 Gl rfl;have hkk:∀ x:{s:AD // NV w0 s},(F9 x.1).length=4:=fun _=>rfl;have hcmp:CmpLays prog 74 #[] (fun x:{s:AD // NV w0 s}=>F9 x.1) 4 (fun x y=>(fun x y:AD=>cmpK (Dp x.out) (Dp y.out)) x.1 y.1) g 4 dl.toArray.size w:=fun m os dk hdk x y=>by
  have hg':=lN (fun x:{s:AD // NV w0 s}=>F9 x.1) 4 w g 4 m dk os;have Nh:AU w0 _:=bG hb0 hg' (fun q hq=>by have:=DV hq;omega);exact (atl x.1 y.1 _ (x.2.mono Nh) (y.2.mono Nh)).mono fun e w' h=>⟨h.1,qw h.2⟩
 have hsz:dl.toArray.size*4=sl.length*4:=by simp [hdn]
 have hH:HoldsK (fun x:{s:AD // NV w0 s}=>F9 x.1) 4 w g 4 dl.toArray:=fun j hj=>by
  rw [size_flatK,hsz] at hj;refine ⟨?_,AO.frozen (t:=106) (cs:=cur) hh _⟩;rw [cell_of_row w g _ cur 106 (0,0) hh,hcur j hj,lQ _ 4 hkk _ j (by rw [hsz];exact hj)];simp only [id];rw [hfm,List.getElem!_eq_getElem?_getD]
  have:j<(sl.flatMap F9).length:=by rw [au2];exact hj
  rw [Di this];rfl
 have hcon:=AnyQ.slices_SortFunc Tryz.sortAd 4 atz au0 (fun x:{s:AD // NV w0 s}=>F9 x.1) hkk (fun x=>afq x.1) (fun x y=>(fun x y:AD=>cmpK (Dp x.out) (Dp y.out)) x.1 y.1) (ati fun x:{s:AD // NV w0 s}=>Dp x.1.out) 74 #[] g 4 cap dl.toArray w eg hcmp hH (AO.lt hh) DR;have hns:dl.toArray.size=sl.length:=by simp [hdn]
 rw [hns] at hcon;refine Calls.mono hcon ?_;rintro e w' ⟨rfl,d',n,os,hp,hs,rfl⟩;obtain ⟨p1,-,p3⟩:=hp;have hd':d'.size=sl.length:=by rw [p1,hns]
 have hperm:d'.toList.Perm dl:=by
  have e1:d'.extract 0 sl.length=d':=by rw [<- hd'];simp
  have e2:dl.toArray.extract 0 sl.length=dl.toArray:=by rw [<- hns];simp
  rw [e1,e2] at p3;simpa using p3
 have hg':=lN (fun x:{s:AD // NV w0 s}=>F9 x.1) 4 w g 4 n d' os;refine ⟨rfl,d'.toList.map (·.1),by rw [<- hdl];exact hperm.map _,?_,?_,hg'⟩
 ·rw [IX,G9];intro i j hi hj hij;have hj':j<d'.size:=by simpa using hj
  have:=hs i j (BX _) hij (by rw [<- hd'];exact hj')
  rw [getElem!_pos d' j hj',getElem!_pos d' i AA] at this;exact this
 ·have hl':(d'.toList.map (·.1)).length=sl.length:=by simp [hd']
  unfold Own;have hl2:(z::d'.toList.map (·.1)).length=sl.length+1:=by rw [JA,hl']
  rw [hl2];have hfd:(d'.toList.map (·.1)).flatMap F9=d'.toList.flatMap (fun x=>F9 x.1):=by rw [S9]
  have hln:((d'.toList.map (·.1)).flatMap F9).length=sl.length*4:=by rw [flat_length F9 4 Sr,hl']
  have abf:(z::d'.toList.map (·.1)).flatMap F9=F9 z++(d'.toList.map (·.1)).flatMap F9:=rfl;have alj:((z::d'.toList.map (·.1)).flatMap F9).length=(sl.length+1)*4:=by rw [abf,Es,Sr,hln];omega
  refine ⟨alj,.inr ⟨g,c,putCells id 4 (flatK (fun x:{s:AD // NV w0 s}=>F9 x.1) 4 d') cur,rfl,hg,?_,hnc,hcm,qQ,?_⟩⟩
  ·have hgl:g<w.heap.size:=AO.lt hh;rw [qx,Array.getElem?_append_left (by simpa using hgl),Array.getElem?_modify,AZ rfl,hh];rfl
  ·apply kM;intro j;rw [List.getElem?_take];by_cases hj:j<(sl.length+1)*4
   ·rw [AZ hj,abf,hfd];have hjc:j<cur.size:=by rw [hcs];have:=qX 4 hnc;omega
    by_cases h4:j<4
    ·have e1:(putCells id 4 (flatK (fun x:{s:AD // NV w0 s}=>F9 x.1) 4 d') cur).toList[j]? = cur.toList[j]? := by
      simp [putCells,hjc,show ¬ 4<=j by omega]
     rw [e1,List.getElem?_append_left (by rw [Sr];exact h4)];have h9:((z::sl).flatMap F9)[j]? = (F9 z)[j]? := by rw [hfl,List.getElem?_append_left (by rw [Sr];exact h4)]
     rw [<- h9,<- hx,List.getElem?_take,AZ AA]
    ·obtain ⟨i,rfl⟩:∃ i,j=4+i:=⟨j-4,AA⟩;have hjd:i<d'.size*4:=by rw [hd'];omega
     have e1:(putCells id 4 (flatK (fun x:{s:AD // NV w0 s}=>F9 x.1) 4 d') cur).toList[4+i]? = some (flatK (fun x:{s:AD // NV w0 s}=>F9 x.1) 4 d')[i]! := by
      simp [putCells,hjc,hjd]
     rw [e1,lQ _ 4 hkk _ i hjd,List.getElem!_eq_getElem?_getD,List.getElem?_append_right (by rw [Sr];omega),Sr,Nat.add_sub_cancel_left]
     have:i<(d'.toList.flatMap fun x=>F9 x.1).length:=by rw [<- hfd,hln];omega
     rw [Di this];rfl
   · rw [AX hj,ZJ (by rw [alj];omega)]
set_option linter.unusedSectionVars false
section
variable {p:Pl} (h:Valid p)
include h
theorem Valid.wQ:(Bj p).length<=512:=by
 have hl:=h.lim;unfold KD at hl;simp only [OC,JH] at hl;have h2:=hl.2;unfold Bj;rw [Es,WB,CV,CV];omega
theorem Valid.abg {X:List Int} (hX:X∈Cb p):U1 p X=F8 p X:=by
 obtain ⟨h1,h2⟩:=h.Ic hX;have hl:=Vk h1 h2;have h3:=h.wQ;unfold U1;rw [AZ ⟨AA,fun d hd=>h.aif (h2 d hd)⟩,arZ p X X.length (Cj _),I5];rfl
end
