import Derived.Test.YtpempeioeiaijaaGreatJ17
import Derived.Maps.OwnSet
import Derived.Test.YtpempeioeiaijaaGreatJ15
set_option linter.unusedSimpArgs false
set_option linter.unusedVariables false
set_option maxRecDepth 100000
set_option maxHeartbeats 8000000
namespace Go.Proofs.YtpempeioeiaijaaGreat
open Go.RowKit Tryz
structure Facing (g k:Ed):Prop where
 up:k.aff=g.aff
 line:k.line=g.line
 lo:k.lo=g.lo
 hi:k.hi=g.hi
 pos:afg k = !afg g
section
variable {g k:Ed} (h:Facing g k)
include h
end
def Lm (w:World) (b:Nat) (S:List Int):Prop :=
 ∃ D:DataW Unit,w.ownsMap prog 3 zo b S.length D/\Maps.size D=S.length/\(∀ id,D.atKey (.int .i64 id) (Tv false)=Tv (decide (id∈S)))/\∀ id,Maps.has D (.int .i64 id)=decide (id∈S)
theorem Lm.kept {w w':World} {b:Nat} {S:List Int} (h:Lm w b S) {row:Option Nat} (hg:w.grownBy w' row) (hr:some b≠row):Lm w' b S:=by
 obtain ⟨D,h1,h2⟩:=h;exact ⟨D,h1.kept hg hr,h2⟩
theorem Lm.keep {w w':World} {b:Nat} {S:List Int} (h:Lm w b S) (hb:AU w w'):Lm w' b S :=
 h.kept (row:=none) ⟨hb.os,hb.tape,hb.output,hb.size,fun i hi _=>hb.block i hi⟩ Ah
theorem Lm.lt {w:World} {b:Nat} {S:List Int} (h:Lm w b S):b<w.heap.size:=by
 obtain ⟨D,h1,h2⟩:=h;exact h1.lt
theorem Lm.made (w:World):Lm (w.alloc (.map #[] 0)) w.heap.size [] :=
 ⟨.map [],World.ownsMap_made _ _ _ _,rfl,fun _=>rfl,fun _=>rfl⟩
theorem Lm.look {w:World} {b:Nat} {S:List Int} (h:Lm w b S) (id:Int) (hid:F6 id) :
  (Instr.lookup 158 (.map (some b)) (.int .i64 id) false).run prog w=.ok (.bool (decide (id∈S))) w:=by
 obtain ⟨D,h1,-,h2,-⟩:=h;obtain ⟨v,ps,hr,hv⟩:=h1.lookup Ux Tryz.underlying158 (ahH w) (zd:=Tv false) (zp:=[]) rfl (Maps.keyOf_int_mk Tryz.underlying3 hid);rw [h2] at hv;rw [hr,ahG hv]
theorem Lm.len {w:World} {b:Nat} {S:List Int} (h:Lm w b S) (ty:TypeId) :
  (Builtin.len_ #[158] ty #[.map (some b)]).run prog w=.ok (.int .i64 S.length) w:=by
 obtain ⟨D,h1,h2,-⟩:=h;rw [h1.len Tryz.underlying158 ty,h2]
theorem Lm.upd {w:World} {b:Nat} {S:List Int} (h:Lm w b S) (hn:S.length<4294967296) (id:Int) (hid:F6 id) (hx:id∉S) :
  ∃ w',(Instr.mapUpdate 158 (.map (some b)) (.int .i64 id) (.bool true)).run prog w=.ok () w'/\Lm w' b (S++[id])/\w.grownBy w' (some b):=by
 obtain ⟨D,h1,h2,h3,h4⟩:=h;have ht:=h1.tidy Ux;obtain ⟨w',hr,ho,hg⟩:=h1.update Ux Tryz.underlying158 jy (Maps.keyOf_int_mk Tryz.underlying3 hid) (val:=.bool true) (d:=Tv true) (ps:=[]) rfl;refine ⟨w',hr,⟨_,by rw [Es];exact ho,?_,fun i=>?_,fun i=>?_⟩,hg⟩
 · rw [Maps.size_put ht,h4,Fg hx,h2,Es];rfl
 ·by_cases e:i=id
  ·subst e;rw [Maps.atKey_put_same ht.isMap (by trivial),JB Ah]
  ·rw [Maps.atKey_put_other (fun h=>e (by injection h)),h3];congr 1;simp [e]
 ·by_cases e:i=id
  ·subst e;rw [Maps.has_put_same ht.isMap (by trivial),JB Ah]
  ·rw [Maps.has_put_other (fun h=>e (by injection h)),h4];simp [e]
theorem afA {w:World} {gm:Nat} {S:List Int} (h:Lm w gm S) {g:Nat} {t:TypeId} {cs:Array Value} (hg:AO w g t cs):g≠gm:=by
 rintro rfl;obtain ⟨D,h1,-⟩:=h;obtain ⟨es,clock,h2,-⟩:=h1;unfold AO at hg;rw [hg] at h2
 cases h2
theorem alV {w:World} {gm:Nat} {S:List Int} (h:Lm w gm S) {base:Nat} {e:TypeId} {size:Nat} {α:Type} {fe:α->List Value} {v:Value} {l:List α} (ho:Own w base e size fe v l):v.ownBlock≠some gm:=by
 rcases ho.2 with ⟨rfl,_⟩ | ⟨g,cap,cur,rfl,_,hh,_⟩
 · simp [Value.ownBlock]
 ·intro e';exact afA h (cs:=cur) (g:=g) hh qO
def Wh (p:Pl) (O:List (List Int)) (k:Nat):List Int:=(List.range k).map (Ll p O)
theorem xg (p:Pl) (O:List (List Int)) (k:Nat):(Wh p O k).length=k:=by unfold Wh;simp
theorem auY (p:Pl) (O:List (List Int)) (k:Nat):Wh p O (k+1)=Wh p O k++[Ll p O k]:=by unfold Wh;rw [XY,FH];rfl
theorem Ie.alW {p:Pl} {L:List AD} {O:List (List Int)} {N:List Nd} (h:Ie p L O (Nl p) N) {i:Nat} (hi:i<L.length):(Qm L[i]).map (·.1)=Je p O i:=by
 have hl:=h.len;unfold Qm Je Kr mQ;rw [Ey,h.inn i hi];congr 1;by_cases e:i=0
 · subst e;exact h.alk hi
 ·show L[i].out=_
  rw [h.pU hi AA,VT AA AA];rfl
section
variable {p:Pl} (h:Valid p)
include h
theorem Valid.afB {O:List (List Int)} (hO:∀ X∈O,X∈Ci p) {i:Nat} {c:List Int} (hc:c∈Je p O i) {d:Int} (hd:d∈c):d∈Bj p:=by
 unfold Je Kr at hc;rcases FI.1 hc with rfl | hc
 ·unfold Lj at hd;split at hd
  · cases hd
  · cases e:O[i-1]? with
   | none=>rw [e] at hd;cases hd
   | some X =>
    rw [e] at hd;exact (h.Ic (Np.1 (hO X (kQ e))).1).2 d hd
 ·have:=QN.1 hc
  exact (h.Ic (Xg.1 this.1).1).2 d hd
end
def auZ (w:World) (p:Pl) (O:List (List Int)) (e:Ending) (w':World):Prop :=
 ∃ A n c,e=.returned (.tuple #[.slice A n c,.bool (VU p)])/\AU w w'/\(VU p=true->Own w' w.heap.size 3 1 DY (.slice A n c) (Wh p O (O.length+1)))
theorem aua {p:Pl} {O:List (List Int)} (hO:O.Perm (Ci p)) {k:Nat} (hk:k<=O.length) (h:(1<=k/\Ll p O k=0)\/(1<=k/\Ll p O k∈Oj p O k)\/∃ c∈Je p O k,∃ d∈c,Ib p d≠Ll p O k):VU p=false:=by
 rw [<- IL,alq hO];rintro ⟨hu,-⟩;rcases h with ⟨h1,h⟩ | ⟨h1,h⟩ | ⟨c,hc,d,hd,h⟩
 · exact hu.some k h1 AA h
 ·obtain ⟨i,h2,h3,h4⟩:=aln.1 h;exact hu.differ i k h2 h3 AA h4
 · exact h (hu.sides k AA c hc d hd)
theorem aub (v vl:Value) (p:Pl) (L:List AD) (O:List (List Int)) (N:List Nd) (w:World) (h:D6 w v p) (hv:Valid p) (hl:pX w vl L) (hd:Ie p L O (Nl p) N) (hO:O.Perm (Ci p)) :
  Calls prog 88 #[v,vl] w (auZ w p O):=by
 obtain ⟨ad2,HV,HL,HD⟩:=DW (fun d (hd:F6 d) W (hW:AU w W)=>aqX v p d W (h.mono hW) hv.short.long hd) hv hl hd;have alX:=hd.len;have hol:O.length<=512:=by
  rw [hO.length_eq];exact EG (SC _ _) hv.Yu
 have HSub:=AB hO.subset;have NK:1<=L.length/\L.length<=513:=AA
 obtain ⟨Jj,HDa,abG,QH,MJ,alY⟩:=Jz alX (fun i c (hc:c∈Je p O i) d (hd:d∈c)=>hv.afB (fun X hX=>hO.subset hX) hc hd) (fun d (hd:d∈Bj p)=>show F6 d from KC (by have:=hv.QC hd;omega) (by have:=hv.QC hd;omega)) (fun i (hi:i<L.length)=>hd.alW hi) (fun k (hk:k<=O.length)=>aua hO (k:=k) hk) (alq hO);have ML:=AB (fun i (hi:i<L.length)=>show L[i].inn.length<=512 from by
  have:=congrArg List.length (hd.inn i hi)
  rw [CV] at this;rw [this];refine EG (SC _ _) ?_;exact EG (SC _ _) hv.Yu)
 have HSb:=AB (fun d=>hv.atW d);obtain ⟨Al,cl,rfl,hl1,hl2,hRl⟩:=hl.sl;obtain ⟨_,_,_,al,rfl,hpa,⟨An,cn,rfl,-⟩,⟨⟨Aa,ca,rfl,-⟩,-⟩,⟨Af,cf,rfl,-⟩⟩:=h;unfold maxLen at hl2;have hff:p.faces.length<=64:=(aaV hv.lim).2.2.2.1;have HRl:=AB hRl;generalize p.nodes.length=nn at *;generalize al.length=na at *;obtain ⟨nf,hnf⟩:=BI p.faces.length;rw [hnf] at hff alY ad2 ⊢;clear hpa hRl hv hl hd hnf alX;have hmm:=@run_makeMap prog;go_enter func88,ntmps88;go_upto_region 2 with fail;obtain ⟨gm,hgm⟩:=BR (w.heap.size+1);obtain ⟨W1,hW⟩:∃ W:World,W=(w.alloc (.cells #[.slice An nn cn,.slice Aa na ca,.slice Af nf cf] 34)).alloc (.map #[] 0):=⟨_,rfl⟩;have X1:AO W1 w.heap.size 34 #[.slice An nn cn,.slice Aa na ca,.slice Af nf cf]:=by rw [hW];exact (AO.made rfl _ _).alloc _
 have JO:=AB (show Lm W1 gm [] by
  have:=Lm.made (w.alloc (.cells #[.slice An nn cn,.slice Aa na ca,.slice Af nf cf] 34))
  rw [hW,hgm];simpa using this)
 have HB1:=AB (show AU w W1 by rw [hW];exact bA (bA (bR w) _) _);have hgl:w.heap.size<gm:=AA
 rw [<- hW,<- hgm];clear hW hgm hmm;have Dt:=AB X1;clear X1;go_upto_block 0 with fail;go_wp2_with fail;go_loopw [4,17] (fun s i wr=>∃ k:Nat,k<=L.length/\i=.int .i64 k/\(∃ A c,s=.slice A k c)/\Own wr w.heap.size 3 1 DY s (Wh p O k)/\Lm wr gm (Oj p O k)/\UC p O k/\AO wr w.heap.size 34 #[.slice An nn cn,.slice Aa na ca,.slice Af nf cf]/\AU w wr) (fun _ i _=>L.length-(intOf i).toNat)
 case atStart => exact ⟨0,BX _,rfl,⟨_,_,rfl⟩,Own.nil _ _ _ _ _,JO.1,UC.zero p O,Dt.1,HB1.1⟩
 case round =>
  clear Dt JO HB1;obtain ⟨k,hk,rfl,⟨A,c,rfl⟩,ho,hm,hu,X1,hb⟩:=hrel;obtain ⟨wo,rfl⟩:=BR wr;obtain ⟨HO,HM,HU,HX,Hb⟩:=I4 ho hm hu X1 hb;have hfl:=xg p O k;have hsl:=atY p O k;have auc:=hm.lt;clear ho hm hu hb;by_cases hlt:k<L.length
  ·have hko:k<=O.length:=by have:=Jj.1;omega
   obtain ⟨b,o,rfl,hlb,c0,c1,c2,c3⟩:=(HRl.1.mono Hb.1).ad hlt;have hcy:=QH.1 k hlt;have hcl:=ML.1 k hlt;have hout:=HL.1.out _ (BO hlt);have Ky:=HL.1.inn _ (BO hlt);have UF:=HL.1.KT _ (BO hlt);have hfc:1<=k->L[k].out≠[]/\Ll p O k=Ib p (L[k].out.headD 0):=fun h1=>by
    have e1:=HD.1.pU hlt h1;have hX:O[k-1]'(by omega)∈O:=BO _;rw [e1];exact ⟨HV.1.WY (Np.1 (HSub.1 hX)).1,aK h1 hko⟩
   generalize L[k]=x at *;obtain ⟨tw,out,⟨oa,on,oc⟩,inn,⟨ia,Ld,ic⟩,EP,⟨aa,an,ac⟩⟩:=x;unfold BF at c1 c2 c3 hout Ky;simp only at c0 c1 c2 c3 hout Ky hcy UF hcl hfc;obtain ⟨fc,afC⟩:=BI (Ll p O k);have aT:=AB (auY p O k);have HSs:=AB (fun h=>atX p O (k:=k) h);rw [afC] at hfc aT HSs;obtain ⟨jK,xk,afD,Gi,qA,HFh⟩:=Jz afC hcy hout Ky UF hfc;clear hcy hout Ky UF hfc afC;have hfb:0<=fc/\fc<=1073741824:=by
    rw [<- jK.1];unfold Ll aaf;split
    · omega
    · exact HSb.1 _
   have hf0:k=0->fc=0:=fun e=>by rw [<- jK.1,e];rfl
   have hwf:F6 fc:=KC AA AA;have XF:=AB hwf;clear hwf;go_upto_region 5 with fail;obtain ⟨W2,hW⟩:∃ W:World,W=wo.alloc (.cells #[.int .i64 tw,.slice oa on oc,.slice ia Ld ic,.slice aa an ac] 106):=⟨_,rfl⟩;have hA:AU wo W2:=by rw [hW];exact bA (bR wo) _
   have X5:AO W2 wo.heap.size 106 #[.int .i64 tw,.slice oa on oc,.slice ia Ld ic,.slice aa an ac]:=by rw [hW];exact AO.made rfl _ _
   replace X1:=X1.keep hA;obtain ⟨Fq,DC,DX,TY,HB2,alZ⟩:=Jz (HO.1.keep hA) X1 X5 (HM.1.keep hA) (bT Hb.1 hA) (afD.1.mono (bT Hb.1 hA));have hz2:=Hb.1.size;rw [<- hW];clear hW hA HO HM HX Hb c0 c1 c2 c3 hlb;obtain ⟨g5,hg5⟩:=BI wo.heap.size;rw [hg5] at DX X5 hz2 auc ⊢;clear hg5;have hS0:k=0->Oj p O (k+1)=Oj p O k:=fun e=>by subst e;rfl
   have XK:=AB hS0;clear hS0;have hkn:O.length<=512:=hol;go_upto_if 23 with fail;go_cut [9,4,5] (fun f s q wx=>f=.int .i64 fc/\s=.slice A k c/\Lm wx gm (Oj p O (k+1))/\Own wx w.heap.size 3 1 DY (.slice A k c) (Wh p O k)/\AO wx w.heap.size 34 #[.slice An nn cn,.slice Aa na ca,.slice Af nf cf]/\AO wx g5 106 #[.int .i64 tw,.slice oa on oc,.slice ia Ld ic,.slice aa an ac]/\AU w wx/\(1<=k->fc≠0/\fc∉Oj p O k))
   case first =>
    rcases kL k with h0 | h0
    ·have e1:=hf0 h0;have hk0:¬ (0:Int)<(k:Int):=AA
     have PV:=TY.1;rw [<- XK.1 h0] at PV;have Nq:=AB PV;have HE:=AB e1;clear PV e1 hf0 h0 X1 X5;go_wp2;go_meet
     case rel => exact ⟨by rw [HE.1],rfl,Nq.1,Fq.1,DC.1,DX.1,HB2.1,fun h=>AA⟩
    ·have hk0:(0:Int)<(k:Int):=AA
     obtain ⟨hne,hfe⟩:=HFh.1 h0;have hkl:0<out.length:=kN.2 hne;have hhd:out.headD 0=out[0]:=by
      cases out with
      | nil=>exact absurd rfl hne
      | cons d l'=>rfl
     rw [hhd] at hfe;obtain ⟨Ao,co,hel,-,-,hRo⟩:=alZ.1;injection hel with y1 y2 y3;subst y1 y2 y3;obtain ⟨bl,ol,wB,wC,d0⟩:=(hRo).int hkl;subst wB;simp only [RF] at d0;have kz:(0:Int)<out.length:=AA
     have kn:¬ out=[]:=hne;have hmem:out[0]∈Bj p:=HDa.1 k out (by rw [<- xk.1];exact JC) _ (BO hkl);have Vh:=AB (fun W (hW:AU w W)=>ad2.1 out[0] (abG.1 _ hmem) W hW);generalize out[0]=dd at *;rw [<- hfe] at Vh;have Vr:=AB (MJ.1 k hko);rw [jK.1] at Vr;have VW:=AB (HSs.1 h0);clear hhd hfe hmem hRo hf0;obtain ⟨BJ,BK,BL,BQ,-⟩:=X1.Az;obtain ⟨DI,DJ,DU,IJ,XC,-⟩:=X5.sO;go_upto_region 7 with fail;refine D9 (W2) (.run 5 0 0 (.call 5 63 (.take 6 127 (.done)))) fun CQ QR Ae Aj hS=>?_
     iterate 5 refine Ak ?_
     refine II (Vh.1 _ (bT HB2.1 hS)) ?_;clear hS;intro BZ BU hS;refine Ak ?_;refine D5 ?_;clear hS Aj Ae;intro hB;obtain ⟨HB3,G7,EY,YL,Nq⟩:=I4 (bT HB2.1 hB) (Fq.1.keep hB) (DC.1.keep hB) (DX.1.keep hB) (TY.1.keep hB);clear hB X1 BJ BK BL BQ X5 DI DJ DU IJ XC d0 BU TY Fq DC DX HB2 wC kz kn Vh;by_cases z:fc=0
     ·have z1:(fc == 0)=true:=by simpa using z
      have hf:=Vr.1 (.inl ⟨h0,z⟩);have HF:=AB hf;clear z hf;go_wp2_with fail;go_ret2;exact ⟨none,0,0,by rw [HF.1];rfl,HB3.1,fun e=>by rw [HF.1] at e;cases e⟩
     ·have z1:(fc == 0)=false:=by simpa using z
      have hlk:=Nq.1.look fc XF.1;by_cases z2:fc∈Oj p O k
      ·have hf:=Vr.1 (.inr (.inl ⟨h0,z2⟩));have HF:=AB hf;rw [JB z2] at hlk;clear z hf z2;go_wp2_with fail;go_ret2;exact ⟨none,0,0,by rw [HF.1];rfl,HB3.1,fun e=>by rw [HF.1] at e;cases e⟩
      ·rw [Fg z2] at hlk;obtain ⟨w6,hr6,Rj,FN⟩:=Nq.1.upd AA fc XF.1 z2;rw [<- VW.1] at Rj;obtain ⟨RV,HZ,JQ,JM,afW,Ew⟩:=Jz Rj (show fc≠0/\fc∉Oj p O k from ⟨z,z2⟩) (Own.grown G7.1 FN (fun g hg e=>alV Nq.1 G7.1 (by rw [hg,e]))) (AO.grown EY.1 FN (fun e=>afA Nq.1 EY.1 (DV e))) (AO.grown YL.1 FN (fun e=>afA Nq.1 YL.1 (DV e))) (bG HB3.1 FN (fun g hg=>by have:=DV hg;omega));clear Rj FN z z2;go_wp2;go_meet
       case rel => exact ⟨rfl,rfl,RV.1,JQ.1,JM.1,afW.1,Ew.1,fun _=>HZ.1⟩
   case rest =>
    obtain ⟨rfl,rfl,PV,ho3,X1,X5,hb3,hzz⟩:=hcut;obtain ⟨Nq,G7,EY,YL,HB3,HZ⟩:=Jz PV ho3 X1 X5 hb3 hzz;have RP:=akb ⟨tw,out,⟨oa,on,oc⟩,inn,⟨ia,Ld,ic⟩,EP,⟨aa,an,ac⟩⟩ wc (Gi.1.mono hb3) (by show inn.length<=100000;omega);have wE:(Qm ⟨tw,out,⟨oa,on,oc⟩,inn,⟨ia,Ld,ic⟩,EP,⟨aa,an,ac⟩⟩).length<=513:=by show inn.length+1<=513;omega
    have hcr:∀ y∈Qm ⟨tw,out,⟨oa,on,oc⟩,inn,⟨ia,Ld,ic⟩,EP,⟨aa,an,ac⟩⟩,Ints w (BF y.2) y.1:=fun y hy=>by
     rcases FI.1 hy with rfl | hy
     · exact afD.1
     · exact qA.1 y hy
    have hck:=xk.1;unfold BF at RP;simp only at RP;generalize Qm ⟨tw,out,⟨oa,on,oc⟩,inn,⟨ia,Ld,ic⟩,EP,⟨aa,an,ac⟩⟩=CY at *;obtain ⟨Zk,Rk,HDy,HMy⟩:=DW RP hcr (fun q (hq:q<CY.length) d (hd:d∈CY[q].1)=>HDa.1 k CY[q].1 (by rw [<- hck];exact FZ (BO hq)) d hd) (fun q (hq:q<CY.length)=>show CY[q].1∈Je p O k from by rw [<- hck];exact FZ (BO hq));have afN:=AB (fun (h:∀ q (hq:q<CY.length),∀ d∈CY[q].1,Ib p d=fc)=>show ∀ c∈Je p O k,∀ d∈c,Ib p d=Ll p O k from fun c hc d hd=>by
     rw [<- hck] at hc;obtain ⟨y,hy,rfl⟩:=Ez.1 hc;obtain ⟨q,hq,rfl⟩:=EF.1 hy;rw [jK.1];exact h q hq d hd)
    have Vr:=AB (MJ.1 k hko);rw [jK.1] at Vr;clear PV ho3 hb3 hzz TY Fq DC DX HB2 RP hcr hck alZ xk afD Gi qA HFh hf0 XK HSs
    try clear DI DJ DU IJ XC
    obtain ⟨DI,DJ,DU,IJ,XC,-⟩:=X5.sO;go_wp2_with fail;refine Zk.1.mono ?_;rintro e w3 ⟨⟨A2,c2,rfl,ho2⟩,hb4⟩;obtain ⟨HB4,Jc,DL,fF,HR4⟩:=I4 (bT HB3.1 hb4) (G7.1.keep hb4) (EY.1.keep hb4) (Nq.1.keep hb4) ho2.row_of;have aN:=hb4.size;clear ho2 hb4 HB3 G7 EY YL Nq X1 X5 DI DJ DU IJ XC Zk;go_upto_block 2 with fail;go_wp2_with fail;go_loopw [4,42] (fun s i wr=>s=.slice A k c/\∃ j:Nat,j<=CY.length/\i=.int .i64 j/\(∀ q (hq:q<CY.length),q<j->∀ d∈CY[q].1,Ib p d=fc)/\AU w3 wr) (fun _ i _=>CY.length-(intOf i).toNat)
    case atStart => exact ⟨rfl,0,BX _,rfl,(fun q _ h=>AA),bR w3⟩
    case round =>
     obtain ⟨rfl,j,hj,rfl,hall,hb5⟩:=hrel;have aag:=AB hall;have Ce:=AB hb5;clear hall hb5;by_cases hlj:j<CY.length
     ·obtain ⟨b,o,rfl,hlb,c0⟩:=(HR4.1.mono Ce.1).cy hlj;have hin:=(Rk.1 CY[j] (BO hlj)).mono (bT HB4.1 Ce.1);have hdy:=HDy.1 j hlj;have VX:=AB (HMy.1 j hlj);have Ju:=AB (fun (h:∀ d∈CY[j].1,Ib p d=fc)=>all_succ (p:=fun y:List Int×SV=>∀ d∈y.1,Ib p d=fc) aag.1 hlj h);generalize CY[j]=x at *;obtain ⟨X,xa,xn,xc⟩:=x;unfold BF at hin;simp only at hin c0 hdy VX Ju;obtain ⟨Ax,cx,he,hx1,hx2,Sz⟩:=hin;injection he with y1 y2 y3;subst y1 y2 y3;unfold maxLen at hx2;have hxl:X.length<=9223372036854775807:=AA
      have HRx:=AB Sz;have HDx:=AB hdy;clear Sz hdy;obtain ⟨wq,rfl⟩:=BR wr;go_upto_block 4 with fail;clear c0 hlb;go_wp2_with fail;go_loopw [4,48] (fun s i wr=>s=.slice A k c/\∃ m:Nat,m<=X.length/\i=.int .i64 m/\(∀ q (hq:q<X.length),q<m->Ib p X[q]=fc)/\AU wq wr) (fun _ i _=>X.length-(intOf i).toNat)
      case atStart => exact ⟨rfl,0,BX _,rfl,(fun q _ h=>AA),bR wq⟩
      case round =>
       obtain ⟨rfl,m,hmm,rfl,hall,hb6⟩:=hrel;obtain ⟨ala,Ew,KF⟩:=CG hall hb6 (bT HB4.1 (bT Ce.1 hb6));clear hall hb6;by_cases hlm:m<X.length
       ·obtain ⟨b2,o2,rfl,UD,e0⟩:=(HRx.1.mono Ew.1).int hlm;have hdm:=HDx.1 X[m] (BO hlm);obtain ⟨Vh,Vt,yx⟩:=CG (fun W (hW:AU w W)=>ad2.1 X[m] (abG.1 _ hdm) W hW) (fun (h:Ib p X[m]≠fc)=>Vr.1 (.inr (.inr ⟨X,VX.1,X[m],BO hlm,h⟩))) (fun (h:Ib p X[m]=fc)=>all_succ (p:=fun d=>Ib p d=fc) ala.1 hlm h);generalize X[m]=dd at *;obtain ⟨sd,hsd⟩:=BI (Ib p dd);rw [hsd] at Vh Vt yx;have X1:=DL.1.keep (bT Ce.1 Ew.1);clear hsd hdm
        try clear BJ BK BL BQ
        obtain ⟨BJ,BK,BL,BQ,-⟩:=X1.Az;go_wp2_with fail;refine (Vh.1 _ KF.1).mono ?_;rintro e w7 ⟨rfl,hb7⟩;have Gx:=AB (bT Ew.1 hb7);have avy:=AB (bT KF.1 hb7);clear hb7 X1 BJ BK BL BQ e0 UD Vh;by_cases z:sd=fc
        ·have z1:(sd != fc)=false:=by simpa using z
         have HYz:=AB (yx.1 z);clear z;go_wp2;go_roundw
         case rel => exact ⟨rfl,m+1,AA,BG,HYz.1,Gx.1⟩
         case measure => exact BH
        ·have z1:(sd != fc)=true:=by simpa using z
         have HF:=AB (Vt.1 z);clear z;go_wp2_with fail;go_ret2;exact ⟨none,0,0,by rw [HF.1];rfl,avy.1,fun e=>by rw [HF.1] at e;cases e⟩
       ·have hmx:m=X.length:=AA
        have HNz:=AB (Ju.1 fun d hd=>by
         obtain ⟨q,hq,rfl⟩:=EF.1 hd;exact ala.1 q hq AA)
        clear hmx;go_wp2;go_roundw
        case rel => exact ⟨rfl,j+1,AA,BG,HNz.1,bT Ce.1 Ew.1⟩
        case measure => exact BH
     ·have hjx:j=CY.length:=AA
      obtain ⟨HUk,DX,Ep,Pn,alb⟩:=I4 (HU.1.succ (fun h=>by rw [jK.1];exact (HZ.1 h).1) (fun h=>by rw [jK.1];exact (HZ.1 h).2) (afN.1 fun q hq=>aag.1 q hq AA)) (DL.1.keep Ce.1) (Jc.1.keep Ce.1) (fF.1.keep Ce.1) (bT HB4.1 Ce.1);have n1:=Own.EX Ep.1 DX.1 Aw;have n2:=alV Pn.1 Ep.1;have alc:=xg p O (k+1);clear hjx DL Jc fF HB4 HR4;go_upto_region 22 with
       (at_builtin
        refine FK _ rfl (.tmp 59) (.tmp 61) _ rfl (base:=w.heap.size) Jk JV Jl rfl (Own.alloc Ep.1 _) rfl (l2:=[fc]) (Sl.lit (n:=1) (AO.made rfl _ _) rfl (D7 AA)) Dl Dl (by have:=alb.1.size;simp;omega) ?_;intro v8 w8 QD Pg iG;rw [<- aT.1] at QD;obtain ⟨A8,c8,hv8,-⟩:=Own.GU QD;rw [alc] at hv8;subst hv8;obtain ⟨KH,aV,TR,Jb⟩:=DW QD ((Pn.1.keep (bA (bR wr) _)).kept Pg (fun e=>n2 e.symm)) (AO.grown (DX.1.alloc _) Pg (fun e=>n1 e.symm)) (bG (bA alb.1 _) Pg (fun g hg=>(Ep.1.lt g hg).1));clear QD Pg iG
        )
      clear n1 n2 alc;go_wp2;go_roundw
      case rel => exact ⟨k+1,AA,BG,⟨A8,c8,rfl⟩,KH.1,aV.1,HUk.1,TR.1,Jb.1⟩
      case measure => exact BH
  ·have hkk:k=L.length:=AA
   have afE:O.length+1=k:=by have:=Jj.1;omega
   have hlen:=fun ty=>(HM.1.keep (bD (bR wo))).len ty;have hres:VU p=(((Oj p O k).length:Int) == (nf:Int)):=by
    have hy:=alY.1;rw [afE] at hy;rw [Jh,hy,hsl];constructor
    · rintro ⟨-,e⟩;simp;omega
    · intro e;simp at e;exact ⟨HU.1,AA⟩
   have ho:=HO.1;have Rf:=AB (show Own wo w.heap.size 3 1 DY (.slice A k c) (Wh p O (O.length+1)) by rw [afE];exact ho);have HRe:=AB hres;generalize Oj p O k=S at *;clear hres ho hkk afE hsl
   try clear BJ BK BL BQ
   obtain ⟨BJ,BK,BL,BQ,-⟩:=X1.Az;go_upto_region 23 with fail;refine D9 (wo) (.take 0 1 (.take 1 3 (.run 3 3 3 (.call 2 63 (.run 3 6 63 (.done)))))) fun CQ QR Ae Aj hS=>?_
   iterate 5 refine Ak ?_
   refine BN ?_;clear hS;intro K hK AP;go_simp;refine hK.out _ _ AP.out (fun hS=>?_);clear hK K AP
   try simp only [pu]
   iterate 3 refine Ak ?_
   refine D5 ?_;clear hS Aj Ae;intro hB;have Fv:=AB (bT Hb.1 hB);have avz:=AB (Rf.1.keep hB);clear hB;go_wp2_with fail;go_ret2;exact ⟨A,k,c,by rw [HRe.1];rfl,Fv.1,fun _=>avz.1⟩
