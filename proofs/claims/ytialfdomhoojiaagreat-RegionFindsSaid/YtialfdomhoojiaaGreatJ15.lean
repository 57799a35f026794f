import Derived.Test.YtialfdomhoojiaaGreatJ14
set_option linter.unusedSimpArgs false
set_option linter.unusedVariables false
set_option maxRecDepth 100000
set_option maxHeartbeats 8000000
namespace Go.Proofs.YtialfdomhoojiaaGreat
open Go.RowKit
set_option linter.unusedSectionVars false
def Bj (p:Pl):List (List Int):=(CX p).filter (fun X=>decide (0<F8 p X))
def J8 (p:Pl):List (List Int):=(CX p).filter (fun X=>!decide (0<F8 p X))
def I4 (p:Pl) (v:Pt):Option (List Int):=Je (fun X=>encS p X v) (F8 p) (Bj p)
theorem Nl {p:Pl} {X:List Int}:X∈Bj p↔X∈CX p/\0<F8 p X:=by unfold Bj;rw [QF,E8]
theorem iD {p:Pl} {X:List Int}:X∈J8 p↔X∈CX p/\¬ 0<F8 p X:=by unfold J8;rw [QF];simp
section
variable {p:Pl} (h:Valid p)
include h
theorem Valid.aqb {l:List (List Int)} (hl:(Bj p).Perm l) {v:Pt} (nv:Bg v=true):Je (fun X=>encS p X v) (F8 p) l=I4 p v:=by
 refine (ar8 _ _ hl fun X hX Y hY eX eY e=>?_).symm;rw [Nl] at hX hY;exact h.ar7 hX.1 hY.1 hX.2 hY.2 nv eX eY e
theorem Valid.ajV {X:List Int} (hX:X∈Bj p) {r:Int} (hr:r∈X) {a:Ar} (ha:a∈p.AU) (hs:CQ p p.AU.length a.id=CQ p p.AU.length r) {k:Nat} (hk:k<(AV p a).length):encS p X ((AV p a).getD k AY)=false:=by
 rw [Nl] at hX;have nv:=h.DW ha hk;have hma:a.id∈BU p:=Iy.2 ⟨a,ha,.inl rfl⟩;have hl:=Eh p a;rw [<- Iz];intro he;obtain ⟨g1,g2⟩:=(h.yE hX.1 hX.2 nv).1 he;have hoff:=h.yF nv g1;obtain ⟨w1,w2⟩:=h.acr (h.WS hX.1) ha hk hoff;rw [h.YQ hX.1 hX.2 hr hma hs] at w1;rw [w1] at g2;have hin:a.id∈X:=MZ fun c=>by rw [AX c] at g2;cases g2
 obtain ⟨j,hj,hon⟩:∃ j,j+1<(AV p a).length/\Ip ((AV p a).getD j AY) ((AV p a).getD (j+1) AY) ((AV p a).getD k AY):=by
  by_cases h1:k+1<(AV p a).length
  · exact ⟨k,h1,Yy _ _,AB⟩
  ·obtain ⟨j,rfl⟩:∃ j,k=j+1:=⟨k-1,AB⟩;exact ⟨j,hk,Yz _ _,AB⟩
 have:=g1 _ (h.acj ha (.inl hin) hj)
 rw [(pI (h.DW ha AB) (h.DW ha hj) nv).2 hon] at this
 cases this
theorem Valid.aqc {X:List Int} (hX:X∈Bj p) {a b:Ar} (ha:a∈p.AU) (hb:b∈p.AU) (hs:CQ p p.AU.length a.id=CQ p p.AU.length b.id) {k m:Nat} (hk:k<(AV p a).length) (hm:m<(AV p b).length) :
  encS p X ((AV p a).getD k AY)=encS p X ((AV p b).getD m AY):=by
 have hX':=Nl.1 hX;obtain ⟨r,-,-,-,hr⟩:=h.Ph hX'.1;by_cases hc:CQ p p.AU.length a.id=CQ p p.AU.length r
 · rw [h.ajV hX hr ha hc hk,h.ajV hX hr hb (by rw [<- hs];exact hc) hm]
 ·have hma:a.id∈BU p:=Iy.2 ⟨a,ha,.inl rfl⟩;have hmb:b.id∈BU p:=Iy.2 ⟨b,hb,.inl rfl⟩;have o1:=h.ajT hX'.1 hr ha hc hk;have o2:=h.ajT hX'.1 hr hb (by rw [<- hs];exact hc) hm;have w1:=(h.acr (h.WS hX'.1) ha hk (h.yF (h.DW ha hk) o1)).1;have w2:=(h.acr (h.WS hX'.1) hb hm (h.yF (h.DW hb hm) o2)).1;have e:=(h.ach hX'.1 hX'.2 hr hma hc).2 _ hmb hs.symm;rw [LX,h.yE hX'.1 hX'.2 (h.DW ha hk),h.yE hX'.1 hX'.2 (h.DW hb hm),w1,w2,e];exact ⟨fun g=>⟨o2,g.2⟩,fun g=>⟨o1,g.2⟩⟩
theorem Valid.aqd {a b:Ar} (ha:a∈p.AU) (hb:b∈p.AU) (hs:CQ p p.AU.length a.id=CQ p p.AU.length b.id) {k m:Nat} (hk:k<(AV p a).length) (hm:m<(AV p b).length) :
  I4 p ((AV p a).getD k AY)=I4 p ((AV p b).getD m AY):=by
 unfold I4 Je;have:∀ (l:List (List Int)) (o:Option (List Int)),(∀ X∈l,X∈Bj p)->l.foldl (RF (fun X=>encS p X ((AV p a).getD k AY)) (F8 p)) o=l.foldl (RF (fun X=>encS p X ((AV p b).getD m AY)) (F8 p)) o:=by
  intro l
  induction l with
  | nil=>intro o _;rfl
  | cons X l ih =>
   intro o hl;rw [U5,U5,ih _ (fun Y hY=>hl Y (Gn _ hY))];congr 1;have e:=h.aqc (hl X Ea) ha hb hs hk hm;simp only [RF,e]
 exact this _ _ fun X hX=>hX
end
def TB (p:Pl) (c:List Int):Pt:=(GV p (c.headD 0)).getD 0 AY
def aj (p:Pl) (b:Option (List Int)):List (List Int):=(J8 p).filter (fun c=>decide (I4 p (TB p c)=b))
def ak (p:Pl) (b:Option (List Int)):List Int:=(p.nodes.filter (fun n=>decide (Na p.AU n.id=0/\I4 p n.pt=b))).map (·.id)
def KH (p:Pl) (b:Option (List Int)):Int:=match b with
 | none=>0
 | some X=>Es p (X.headD 0)
def Jq (p:Pl) (b:Option (List Int)):List (List Int):=b.getD []::aj p b
structure jX (p:Pl):Prop where
 some:∀ X∈Bj p,Es p (X.headD 0)≠0
 differ:((Bj p).map (fun X=>Es p (X.headD 0))).Nodup
 sides:∀ b,(b=none\/∃ X∈Bj p,b=Option.some X)->∀ c∈Jq p b,∀ d∈c,Es p d=KH p b
 all:(Bj p).length=p.faces.length
theorem ajW {w:World} {gm n:Nat} {f:Int->SV} (h:N7 w gm n f) {g:Nat} {t:TypeId} {cs:Array Value} (hg:AO w g t cs):g≠gm:=by
 rintro rfl;obtain ⟨D,h1,-⟩:=h;obtain ⟨es,clock,h2,-⟩:=h1;unfold AO at hg;rw [hg] at h2
 cases h2
theorem ajX {w:World} {gm n:Nat} {f:Int->SV} (h:N7 w gm n f) {base:Nat} {e:TypeId} {size:Nat} {α:Type} {fe:α->List Value} {v:Value} {l:List α} (ho:Own w base e size fe v l):v.ownBlock≠some gm:=by
 rcases ho.2 with ⟨rfl,_⟩ | ⟨g,cap,cur,rfl,_,hh,_⟩
 · simp [Value.ownBlock]
 ·intro e';exact ajW h (cs:=cur) (g:=g) hh sV
theorem aqe {w:World} {base:Nat} {e:TypeId} {size:Nat} {α:Type} {fe:α->List Value} {x:SV} {l:List α} (ho:Own w base e size fe (BJ x) l):x.ok:=by
 obtain ⟨a,n,c⟩:=x;rcases ho.2 with ⟨h,_⟩ | ⟨g,cap,cur,h,_⟩
 · unfold BJ at h;injection h with h1;exact .inl h1
 · unfold BJ at h;injection h with h1;exact .inr ⟨g,0,h1⟩
structure QT (w:World) (b:Nat) (p:Pl) (f:Int->SV):Prop where
 mp:∃ n,N7 w b n f
 rd:∀ a∈p.AU,Dq w (BJ (f a.id)) (AV p a)
theorem QT.keep {w w':World} {b:Nat} {p:Pl} {f:Int->SV} (h:QT w b p f) (hb:AP w w'):QT w' b p f:=by
 obtain ⟨⟨n,h1⟩,h2⟩:=h;exact ⟨⟨n,h1.keep hb⟩,fun a ha=>(h2 a ha).mono hb⟩
def aqf (w:World) (p:Pl) (e:Ending) (w':World):Prop:=∃ b f,e=.returned (.map (some b))/\AP w w'/\w.heap.size<=b/\QT w' b p f
theorem ajY (v:Value) (p:Pl) (w:World) (h:Cb w v p) (hv:Valid p):Calls Tryz.prog 59 #[v] w (aqf w p):=by
 have Jd:=AA (fun id W (hW:AP w W)=>aAm v p id W (h.mono hW) hv.short);obtain ⟨_,_,_,al,rfl,hpa,⟨An,cn,rfl,-⟩,⟨⟨Aa,ca,rfl,hm1,hm2,FU⟩,TG⟩,⟨Af,cf,rfl,-⟩⟩:=h;unfold maxLen at hm2;have Gu:=AA FU;have jY:=AA TG;have hall:al.length<=256:=by
  have hl:=hv.lim;unfold JX at hl;simp only [Rq,J3] at hl;have h2:=hl.2;rw [hpa,Cm] at h2;omega
 have LH:=AA (show ∀ k (hk:k<al.length),al[k].1∈p.AU from fun k hk=>by rw [hpa];exact Gs (BH hk));have OJ:=AA (show ∀ a∈p.AU,∃ k,∃ hk:k<al.length,al[k].1=a from fun a ha=>by
  rw [hpa] at ha;obtain ⟨x,hx,rfl⟩:=EM.1 ha;obtain ⟨k,hk,rfl⟩:=Dp.1 hx;exact ⟨k,hk,rfl⟩)
 have WT:=AA (fun k (hk:k<al.length)=>hv.sound.path (LH.out k hk));have HIb:=AA (fun k (hk:k<al.length)=>hv.Gh (LH.out k hk));have wP:=AA (show ∀ j k (hj:j<al.length) (hk:k<al.length),j<k->al[j].1.id≠al[k].1.id from fun j k hj hk hjk e=>by
  have h1:=hv.sound.AU;rw [hpa,Mc,IL,Fe] at h1;have:=h1 j k hj hk hjk
  simp only [Function.comp] at this;omega)
 generalize p.nodes.length=nn at *;generalize p.faces.length=nf at *;clear hpa FU TG hv;have hmm:=@run_makeMap Tryz.prog;go_enter Tryz.func59,Tryz.ntmps59;go_upto_region 2 with fail;obtain ⟨gm,hgm⟩:=BO (w.heap.size+1);obtain ⟨W1,hW⟩:∃ W:World,W=(w.alloc (.cells #[.slice An nn cn,.slice Aa al.length ca,.slice Af nf cf] 26)).alloc (.map #[] 0):=⟨_,rfl⟩;have X1:AO W1 w.heap.size 26 #[.slice An nn cn,.slice Aa al.length ca,.slice Af nf cf]:=by rw [hW];exact (AO.made rfl _ _).alloc _
 have OM:=AA (show N7 W1 gm 0 (fun _=>sv0) by
  have:=N7.made (w.alloc (.cells #[.slice An nn cn,.slice Aa al.length ca,.slice Af nf cf] 26))
  rw [hW,hgm];simpa using this)
 have HB1:=AA (show AP w W1 by rw [hW];exact bA (bA (bR w) _) _);have hgl:w.heap.size<gm:=by omega
 rw [<- hW,<- hgm];clear hW hgm hmm;have D9:=AA X1;obtain ⟨Ak,Au,Az,BA,-,-,-⟩:=X1.BF;go_upto_block 0 with fail;clear X1 Ak Au Az BA;go_wp2_with fail;go_loopw [12] (fun i wr=>∃ (k:Nat) (f:Int->SV),k<=al.length/\i=.int .i64 k/\N7 wr gm k f/\(∀ j (hj:j<al.length),j<k->Own wr w.heap.size 39 2 EX (BJ (f al[j].1.id)) (AV p al[j].1))/\AO wr w.heap.size 26 #[.slice An nn cn,.slice Aa al.length ca,.slice Af nf cf]/\AP w wr) (fun i _=>al.length-(intOf i).toNat)
 case atStart => exact ⟨0,fun _=>sv0,BZ _,rfl,OM.out,(fun j _ h=>by omega),D9.out,HB1.out⟩
 case round =>
  obtain ⟨k,f,hk,rfl,mp,own,X1,hb⟩:=hrel;obtain ⟨wo,rfl⟩:=BO wr;have HM:=AA mp;have HO:=AA own;have HX:=AA X1;have Hb:=AA hb;have aBA:=hb.size;have hgo:=mp.lt;clear mp own hb D9 OM HB1;by_cases hlt:k<al.length
  ·obtain ⟨b,o,rfl,hlb,c0,c1,c2,c3,c4,c5⟩:=(Gu.out.mono Hb.out).ar hlt;obtain ⟨Av,cv,hvv,-⟩:=jY.out k hlt;rw [hvv] at c3;have hpo:=WT.out k hlt;have hib:=HIb.out k hlt;have hne:=fun j hj hjk=>wP.out j k hj hlt hjk;have hpt:=Jd.out al[k].1.id;rw [hpo] at hpt;have HP:=AA (show ∀ (f:Int->SV) W,(∀ j (hj:j<al.length),j<k->Own W w.heap.size 39 2 EX (BJ (f al[j].1.id)) (AV p al[j].1))->Own W w.heap.size 39 2 EX (BJ (f al[k].1.id)) (AV p al[k].1)->∀ j (hj:j<al.length),j<k+1->Own W w.heap.size 39 2 EX (BJ (f al[j].1.id)) (AV p al[j].1) from fun f W h1 h2 j hj hjk=>by
    by_cases e:j=k
    · subst e;exact h2
    · exact h1 j hj AB)
   have KI:=AA hne;clear hvv hpo hne;generalize al[k].1=a at *;generalize AV p a=P at *;obtain ⟨aid,afr,acs,aqg,aeL,aright⟩:=a;simp only at c0 c1 c2 c3 c4 c5 hib hpt HP KI;generalize aqg.length=vn at *;have pJ:=AA hpt;clear hpt;go_upto_region 5 with fail;obtain ⟨W5,hW⟩:∃ W:World,W=wo.alloc (.cells #[.int .i64 aid,.int .i64 afr,.int .i64 acs,.slice Av vn cv,.int .i64 aeL,.int .i64 aright] 50):=⟨_,rfl⟩;have HA:=AA (show AP wo W5 by rw [hW];exact bA (bR wo) _);have X5:AO W5 wo.heap.size 50 #[.int .i64 aid,.int .i64 afr,.int .i64 acs,.slice Av vn cv,.int .i64 aeL,.int .i64 aright]:=by rw [hW];exact AO.made rfl _ _
   rw [<- hW];clear hW c0 c1 c2 c3 c4 c5 hlb;replace X1:=HX.out.keep HA.out;obtain ⟨CJ,CO,CS,G6,UF,mG,mJ,-,-,-,-,-,-⟩:=X5.IU
   try clear Ak Au Az BA
   obtain ⟨Ak,Au,Az,BA,-,-,-⟩:=X1.BF;go_wp2_with fail;refine (pJ.out _ (bT Hb.out HA.out)).mono ?_;rintro e w6 ⟨A6,c6,rfl,hb6,QU⟩;simp only [Gp,VH,if_true] at QU ⊢;have Eb:=AA (bT HA.out hb6);have ML:=AA QU;have D8:=AA (show AO W5 wo.heap.size 50 #[.int .i64 aid,.int .i64 afr,.int .i64 acs,.slice Av vn cv,.int .i64 aeL,.int .i64 aright] from X5);have X6:=D8.out.keep hb6;have Ul:=AA (HM.out.keep Eb.out);have RG:=HA.out.size;have jZ:=hb6.size;clear hb6 QU X5 CJ CO CS G6 UF mG mJ X1 Ak Au Az BA D8;obtain ⟨w7,hr7,hm7,Fg⟩:=Ul.out.upd AB aid (KU AB AB) ⟨A6,P.length,c6⟩ (aqe (x:=⟨A6,P.length,c6⟩) ML.out);have HM7:=AA hm7;have nX:=fun (h:gm=w.heap.size)=>(show False by omega);have Iw:=AA (AO.grow (HX.out.keep Eb.out) Fg (fun e=>ajW Ul.out (HX.out.keep Eb.out) (Dc e)));have au:=AA (show Own w7 w.heap.size 39 2 EX (BJ ⟨A6,P.length,c6⟩) P from Own.grown (Own.Du ML.out AB) Fg (fun g hg e=>ajX Ul.out ML.out (hg.trans e)));have TI:=AA (show ∀ j (hj:j<al.length),j<k->Own w7 w.heap.size 39 2 EX (BJ (f al[j].1.id)) (AV p al[j].1) from fun j hj hjk =>
    Own.grown ((HO.out j hj hjk).keep Eb.out) Fg (fun g hg e=>ajX Ul.out ((HO.out j hj hjk).keep Eb.out) (hg.trans e)))
   have Jf:=AA (bG (bT Hb.out Eb.out) Fg (fun g hg=>by have:=Dc hg;omega));unfold BJ at hr7;clear hm7 Fg nX;obtain ⟨EF,EG,EH,Nb,Sj,mD,mF,-,-,-,-,-,-⟩:=X6.IU;go_wp2;go_roundw
   case rel => exact ⟨k+1,fun i=>if i=aid then ⟨A6,P.length,c6⟩ else f i,AB,BI,HM7.out,HP.out (fun i=>if i=aid then ⟨A6,P.length,c6⟩ else f i) w7 (fun j hj hjk=>by
    show Own w7 _ _ _ _ (BJ (if _=aid then _ else _)) _
    rw [AX (KI.out j hj hjk)];exact TI.out j hj hjk) (by
    show Own w7 _ _ _ _ (BJ (if aid=aid then _ else _)) _
    rw [AZ rfl];exact au.out),Iw.out,Jf.out⟩
   case measure => exact BK
  ·obtain rfl:k=al.length:=by omega
   go_wp2;go_ret;exact ⟨gm,f,rfl,Hb.out,AB,⟨_,HM.out⟩,fun a ha=>by
    obtain ⟨j,hj,rfl⟩:=OJ.out a ha;exact (HO.out j hj hj).sl⟩
theorem aeM (p:Pl) {X:List Int} {k:Nat} (hk:k<X.length):DV p (X.take (k+1))=DV p (X.take k)++Ei (GV p X[k]):=by
 unfold DV;rw [En hk,KO];simp
theorem aBB {P:List Pt} {m:Nat} (hm:m+1<P.length):(Ei P).take (m+1)=(Ei P).take m++[(P.getD m AY,P.getD (m+1) AY)]:=by
 have h:m<(Ei P).length:=by unfold Ei;rw [Cm,Qj];omega
 rw [En h];simp [Ei]
theorem aqh {σ:Type} (w:World) (gm:Nat) (p:Pl) (f:Int->SV) (hpm:QT w gm p f) (hv:Valid p) (vc:Value) (X:List Int) (hX:Ints w vc X) (hd:∀ d∈X,d∈BU p) (g1 g2 g3:Nat)
  (Inv:σ->World->Prop) (upd:σ->Pt×Pt->σ) (hI:∀ s W,Inv s W->AP w W) (hD:∀ s W,Inv s W->Inv s W.drew)
  (hst:∀ s W q,q∈DV p X->Inv s W->Calls Tryz.prog 199 #[BD q.1,BD q.2,.pointer (some ⟨g1,0,none⟩),.pointer (some ⟨g2,0,none⟩),.pointer (some ⟨g3,0,none⟩)] W fun e W'=>e=.returned (.tuple #[])/\Inv (upd s q) W'/\Below w.heap.size W W')
  (s:σ) (W:World) (h0:Inv s W) :
  Calls Tryz.prog 79 #[.map (some gm),vc,.func (.func 199) #[] #[.pointer (some ⟨g1,0,none⟩),.pointer (some ⟨g2,0,none⟩),.pointer (some ⟨g3,0,none⟩)]] W fun e W'=>e=.returned (.tuple #[])/\Inv ((DV p X).foldl upd s) W'/\Below w.heap.size W W':=by
 obtain ⟨Ac,cc,rfl,hc1,hc2,IC⟩:=hX;unfold maxLen at hc2;have NH:=AA IC;have Jr:=AA hpm;have HI:=AA hI;have DI:=AA hst;have RH:=AA hD;have WU:=AA hd;have HV:=AA hv;have H0:=AA h0;have Et:=AA (fun k (hk:k<X.length)=>aeM p hk);obtain ⟨R,hR⟩:=BL ((DV p X).foldl upd s);rw [hR];have Kr:=AA hR;have NI:=AA (fun k (hk:k<X.length) q (hq:q∈Ei (GV p X[k]))=>show q∈DV p X from GY.2 ⟨_,BH hk,hq⟩);clear IC hpm hI hst hD hd hv h0 hR;go_enter Tryz.func79,Tryz.ntmps79;go_wp2_with fail;go_loopw [12] (fun i wr=>∃ k:Nat,k<=X.length/\i=.int .i64 k/\Inv ((DV p (X.take k)).foldl upd s) wr/\Below w.heap.size W wr) (fun i _=>X.length-(intOf i).toNat)
 case atStart => exact ⟨0,BZ _,rfl,H0.out,Below.refl _ _⟩
 case round =>
  obtain ⟨k,hk,rfl,hinv,hbw⟩:=hrel;obtain ⟨wo,rfl⟩:=BO wr;have Jg:=AA hinv;have EY:=AA hbw;have Hb:=AA (HI.out _ _ hinv);clear hinv hbw;by_cases hlt:k<X.length
  ·obtain ⟨b,o,rfl,hlb,c0⟩:=(NH.out.mono Hb.out).int hlt;have hdd:=WU.out _ (BH hlt);have htk:=Et.out k hlt;have hmem:=NI.out k hlt;generalize X[k]=d at *;obtain ⟨a,ha,hor,hpt⟩:=HV.out.Tq hdd;have hid:=HV.out.Gh ha;rw [hpt] at htk hmem;obtain ⟨n,hmp⟩:=(Jr.out.keep Hb.out).mp;have hlk:=hmp.look a.id (KU AB AB);have Np:=Jr.out.rd a ha;have hlen:2<=(AV p a).length:=by have:=Eh p a;omega
   have yI:=AA htk;have QV:=AA hmem;have k1:IntKind.i64.wrap (-d)=-d:=Ci _ AB;have km:max d (-d)=a.id:=by omega
   have PY:=HV.out.Sv ha;have hpl:(AV p a).length<=66:=by have:=Eh p a;omega
   generalize f a.id=x at *;obtain ⟨Ap,np,cp⟩:=x;unfold BJ at hlk Np;obtain ⟨jD,cp',he,hp1,hp2,Pm⟩:=Np;injection he with e1 e2 e3;subst e1 e2 e3;unfold maxLen at hp2;have WV:=AA Pm;clear hmp hdd htk hmem hpt hor ha Pm PY;generalize a.id=ai at *;generalize AV p a=P at *;clear hid;obtain ⟨s1,hs1⟩:=BL ((DV p (X.take k)).foldl upd s);rw [hs1] at Jg;have RI:=AA hs1;clear hs1;go_upto_block 2 with fail;go_wp2_with fail;go_loopw [9] (fun i wr=>∃ j:Nat,1<=j/\j<=P.length/\i=.int .i64 j/\Inv (((Ei P).take (j-1)).foldl upd s1) wr/\Below w.heap.size wo wr) (fun i _=>P.length-(intOf i).toNat)
   case atStart => exact ⟨1,DT _,AB,rfl,Jg.out,Below.refl _ _⟩
   case round =>
    obtain ⟨j,hj1,hj2,rfl,hinv,Ec⟩:=hrel;have bC:=AA hinv;have F7:=AA Ec;have Hb2:=AA (HI.out _ _ hinv);clear hinv Ec;by_cases hlj:j<P.length
    ·obtain ⟨m,rfl⟩:∃ m,j=m+1:=⟨j-1,AB⟩;have hmp:m<P.length:=by omega
     have hq:=QV.out (P.getD m AY,P.getD (m+1) AY) (EM.2 ⟨m,F5.2 AB,rfl⟩);have htk:=aBB hlj;have hst:=DI.out _ wr.drew _ hq (RH.out _ _ bC.out);rw [show m+1-1=m by omega] at hst;have ea:P.getD m AY=P[m]:=by simp only [Fj,DK hmp,Gp]
     have eb:P.getD (m+1) AY=P[m+1]:=by simp only [Fj,DK hlj,Gp]
     rw [ea,eb] at hst htk;obtain ⟨bp,op,KJ,hlp,e10,e11⟩:=(WV.out).pt hmp;obtain ⟨bp',op',Jl,-,e20,e21⟩:=(WV.out).pt hlj;rw [KJ] at Jl;injection Jl with Jl;injection Jl with x1 x2 _;subst x1 x2;replace e10:=Dv Hb2.out e10;replace e11:=Dv Hb2.out e11;replace e20:=Dv Hb2.out e20;replace e21:=Dv Hb2.out e21;have Qn:=AA htk;generalize P[m]=pa at *;generalize P[m+1]=pb at *;unfold BD at hst;simp only at hst;have HC:=AA hst;clear hst htk ea eb hq;subst KJ;have k2:IntKind.i64.wrap ((m:Int)+1-1)=m:=by rw [show (m:Int)+1-1=m by omega];exact Ci _ AB
     have k3:(m:Int)<P.length:=by omega
     have k8:IntKind.i64.wrap (m:Int)=m:=Ci _ AB;have k4:0<=(m:Int):=by omega
     have k5:(m:Int)+1-1=m:=by omega
     have k6:(m:Int)+1<P.length:=by omega
     have k7:0<=(m:Int)+1:=by omega
     rw [show (((m+1:Nat)):Int)=(m:Int)+1 from by omega];go_upto_region 7 with fail;refine QK (w.heap.size) (wr) (.run 10 0 0 (.call 10 2047 (.done))) fun Bv QR Ae Ah hS=>?_
     iterate 10 refine Aj ?_
     refine BP ?_;clear hS;intro K hK AQ;go_simp;refine HC.out.mono ?_;rintro e w4 ⟨rfl,bF,hb4⟩;have hS:Fb w.heap.size wr w4:=Below.trans AQ.out hb4;have abY:=AA bF;clear hb4 bF;clear AQ;refine hK.out _ _ hS (fun _=>?_);clear hK K
     try simp only [pu]
     refine KW ?_;clear hS Ah Ae;intro hB;have yJ:=AA (Below.trans F7.out hB);clear hB e10 e11 e20 e21 hlp;go_wp2;go_roundw
     case rel => exact ⟨m+1+1,AB,AB,BI,afv,yJ.out⟩
     case measure => exact BK
    ·obtain rfl:j=P.length:=by omega
     have yK:(Ei P).length=P.length-1:=by unfold Ei;rw [Cm,Qj]
     have hfin:=bC.out;rw [Hw AB,<- RI.out,<- O9,<- yI.out] at hfin;have HF:=AA hfin;clear hfin yK;go_wp2;go_roundw
     case rel => exact ⟨k+1,AB,BI,HF.out,Below.trans EY.out F7.out⟩
     case measure => exact BK
  ·obtain rfl:k=X.length:=by omega
   have hfin:=Jg.out;rw [H8,Kr.out] at hfin;have HF:=AA hfin;clear hfin;go_wp2_with fail;exact bodyPost_end (v:=.tuple #[]) (results_none rfl _ _ _) rfl ⟨rfl,HF.out,EY.out⟩
theorem asG (p:Pl) (A:List Int) (d:Int) (B:List Int):DV p (A++d::B)=DV p A++(Ei (GV p d)++DV p B):=by
 unfold DV;rw [KO,Ju]
theorem ajZ (p:Pl) {X:List Int} {k:Nat} (hk:k<X.length):∀ m,m+1<(GV p X[k]).length->∃ r,DV p X=(DV p (X.take k)++(Ei (GV p X[k])).take m)++((GV p X[k]).getD m AY,(GV p X[k]).getD (m+1) AY)::r:=fun m hm=>by
 have hl:m<(Ei (GV p X[k])).length:=by unfold Ei;rw [Cm,Qj];omega
 have e1:Ei (GV p X[k])=(Ei (GV p X[k])).take m++(Ei (GV p X[k]))[m]::(Ei (GV p X[k])).drop (m+1):=by rw [<- Qk hl,Zd]
 have e2:(Ei (GV p X[k]))[m]=((GV p X[k]).getD m AY,(GV p X[k]).getD (m+1) AY):=by simp [Ei]
 have e3:X=X.take k++X[k]::X.drop (k+1):=by rw [<- Qk hk,Zd]
 refine ⟨(Ei (GV p X[k])).drop (m+1)++DV p (X.drop (k+1)),?_⟩;have e4:DV p X=DV p (X.take k)++(Ei (GV p X[k])++DV p (X.drop (k+1))):=by
  rw [<- asG p,<- e3]
 rw [e4,JR,<- aao,<- e2,<- JR ((Ei (GV p X[k])).take m),<- e1]
theorem asH {σ:Type} (w:World) (gm:Nat) (p:Pl) (f:Int->SV) (hpm:QT w gm p f) (hv:Valid p) (vc:Value) (X:List Int) (hX:Ints w vc X) (hd:∀ d∈X,d∈BU p) (g1 g2 g3:Nat)
  (Inv:σ->World->Prop) (upd:σ->Pt×Pt->σ) (hI:∀ s W,Inv s W->AP w W) (hD:∀ s W,Inv s W->Inv s W.drew)
  (s:σ) (hst:∀ S0 W q r,DV p X=S0++q::r->Inv (S0.foldl upd s) W->Calls Tryz.prog 202 #[BD q.1,BD q.2,.pointer (some ⟨g1,0,none⟩),.pointer (some ⟨g2,0,none⟩),.pointer (some ⟨g3,0,none⟩)] W fun e W'=>e=.returned (.tuple #[])/\Inv (upd (S0.foldl upd s) q) W'/\Below w.heap.size W W')
  (W:World) (h0:Inv s W) :
  Calls Tryz.prog 79 #[.map (some gm),vc,.func (.func 202) #[] #[.pointer (some ⟨g1,0,none⟩),.pointer (some ⟨g2,0,none⟩),.pointer (some ⟨g3,0,none⟩)]] W fun e W'=>e=.returned (.tuple #[])/\Inv ((DV p X).foldl upd s) W'/\Below w.heap.size W W':=by
 obtain ⟨Ac,cc,rfl,hc1,hc2,IC⟩:=hX;unfold maxLen at hc2;have NH:=AA IC;have Jr:=AA hpm;have HI:=AA hI;have DI:=AA hst;have RH:=AA hD;have WU:=AA hd;have HV:=AA hv;have H0:=AA h0;have Et:=AA (fun k (hk:k<X.length)=>aeM p hk);obtain ⟨R,hR⟩:=BL ((DV p X).foldl upd s);rw [hR];have Kr:=AA hR;have NI:=AA (fun k (hk:k<X.length)=>ajZ p hk);clear IC hpm hI hst hD hd hv h0 hR;go_enter Tryz.func79,Tryz.ntmps79;go_wp2_with fail;go_loopw [12] (fun i wr=>∃ k:Nat,k<=X.length/\i=.int .i64 k/\Inv ((DV p (X.take k)).foldl upd s) wr/\Below w.heap.size W wr) (fun i _=>X.length-(intOf i).toNat)
 case atStart => exact ⟨0,BZ _,rfl,H0.out,Below.refl _ _⟩
 case round =>
  obtain ⟨k,hk,rfl,hinv,hbw⟩:=hrel;obtain ⟨wo,rfl⟩:=BO wr;have Jg:=AA hinv;have EY:=AA hbw;have Hb:=AA (HI.out _ _ hinv);clear hinv hbw;by_cases hlt:k<X.length
  ·obtain ⟨b,o,rfl,hlb,c0⟩:=(NH.out.mono Hb.out).int hlt;have hdd:=WU.out _ (BH hlt);have htk:=Et.out k hlt;have hmem:=NI.out k hlt;generalize X[k]=d at *;obtain ⟨a,ha,hor,hpt⟩:=HV.out.Tq hdd;have hid:=HV.out.Gh ha;rw [hpt] at htk hmem;obtain ⟨n,hmp⟩:=(Jr.out.keep Hb.out).mp;have hlk:=hmp.look a.id (KU AB AB);have Np:=Jr.out.rd a ha;have hlen:2<=(AV p a).length:=by have:=Eh p a;omega
   have yI:=AA htk;have QV:=AA hmem;have k1:IntKind.i64.wrap (-d)=-d:=Ci _ AB;have km:max d (-d)=a.id:=by omega
   have PY:=HV.out.Sv ha;have hpl:(AV p a).length<=66:=by have:=Eh p a;omega
   generalize f a.id=x at *;obtain ⟨Ap,np,cp⟩:=x;unfold BJ at hlk Np;obtain ⟨jD,cp',he,hp1,hp2,Pm⟩:=Np;injection he with e1 e2 e3;subst e1 e2 e3;unfold maxLen at hp2;have WV:=AA Pm;clear hmp hdd htk hmem hpt hor ha Pm PY;generalize a.id=ai at *;generalize AV p a=P at *;clear hid;obtain ⟨s1,hs1⟩:=BL ((DV p (X.take k)).foldl upd s);rw [hs1] at Jg;have RI:=AA hs1;clear hs1;go_upto_block 2 with fail;go_wp2_with fail;go_loopw [9] (fun i wr=>∃ j:Nat,1<=j/\j<=P.length/\i=.int .i64 j/\Inv (((Ei P).take (j-1)).foldl upd s1) wr/\Below w.heap.size wo wr) (fun i _=>P.length-(intOf i).toNat)
   case atStart => exact ⟨1,DT _,AB,rfl,Jg.out,Below.refl _ _⟩
   case round =>
    obtain ⟨j,hj1,hj2,rfl,hinv,Ec⟩:=hrel;have bC:=AA hinv;have F7:=AA Ec;have Hb2:=AA (HI.out _ _ hinv);clear hinv Ec;by_cases hlj:j<P.length
    ·obtain ⟨m,rfl⟩:∃ m,j=m+1:=⟨j-1,AB⟩;have hmp:m<P.length:=by omega
     obtain ⟨r,hq⟩:=QV.out m hlj;have htk:=aBB hlj;have hin:=bC.out;rw [show m+1-1=m by omega] at hin;have hst:=DI.out _ wr.drew _ r hq (by rw [O9,RI.out];exact RH.out _ _ hin);rw [O9,RI.out] at hst;have ea:P.getD m AY=P[m]:=by simp only [Fj,DK hmp,Gp]
     have eb:P.getD (m+1) AY=P[m+1]:=by simp only [Fj,DK hlj,Gp]
     rw [ea,eb] at hst htk;obtain ⟨bp,op,KJ,hlp,e10,e11⟩:=(WV.out).pt hmp;obtain ⟨bp',op',Jl,-,e20,e21⟩:=(WV.out).pt hlj;rw [KJ] at Jl;injection Jl with Jl;injection Jl with x1 x2 _;subst x1 x2;replace e10:=Dv Hb2.out e10;replace e11:=Dv Hb2.out e11;replace e20:=Dv Hb2.out e20;replace e21:=Dv Hb2.out e21;have Qn:=AA htk;generalize P[m]=pa at *;generalize P[m+1]=pb at *;unfold BD at hst;simp only at hst;have HC:=AA hst;clear hst htk ea eb hq hin;subst KJ;have k2:IntKind.i64.wrap ((m:Int)+1-1)=m:=by rw [show (m:Int)+1-1=m by omega];exact Ci _ AB
     have k3:(m:Int)<P.length:=by omega
     have k8:IntKind.i64.wrap (m:Int)=m:=Ci _ AB;have k4:0<=(m:Int):=by omega
     have k5:(m:Int)+1-1=m:=by omega
     have k6:(m:Int)+1<P.length:=by omega
     have k7:0<=(m:Int)+1:=by omega
     rw [show (((m+1:Nat)):Int)=(m:Int)+1 from by omega];go_upto_region 7 with fail;refine QK (w.heap.size) (wr) (.run 10 0 0 (.call 10 2047 (.done))) fun Bv QR Ae Ah hS=>?_
     iterate 10 refine Aj ?_
     refine BP ?_;clear hS;intro K hK AQ;go_simp;refine HC.out.mono ?_;rintro e w4 ⟨rfl,bF,hb4⟩;have hS:Fb w.heap.size wr w4:=Below.trans AQ.out hb4;have abY:=AA bF;clear hb4 bF;clear AQ;refine hK.out _ _ hS (fun _=>?_);clear hK K
     try simp only [pu]
     refine KW ?_;clear hS Ah Ae;intro hB;have yJ:=AA (Below.trans F7.out hB);clear hB e10 e11 e20 e21 hlp;go_wp2;go_roundw
     case rel => exact ⟨m+1+1,AB,AB,BI,afv,yJ.out⟩
     case measure => exact BK
    ·obtain rfl:j=P.length:=by omega
     have yK:(Ei P).length=P.length-1:=by unfold Ei;rw [Cm,Qj]
     have hfin:=bC.out;rw [Hw AB,<- RI.out,<- O9,<- yI.out] at hfin;have HF:=AA hfin;clear hfin yK;go_wp2;go_roundw
     case rel => exact ⟨k+1,AB,BI,HF.out,Below.trans EY.out F7.out⟩
     case measure => exact BK
  ·obtain rfl:k=X.length:=by omega
   have hfin:=Jg.out;rw [H8,Kr.out] at hfin;have HF:=AA hfin;clear hfin;go_wp2_with fail;exact bodyPost_end (v:=.tuple #[]) (results_none rfl _ _ _) rfl ⟨rfl,HF.out,EY.out⟩
theorem asI {σ:Type} (w:World) (gm:Nat) (p:Pl) (f:Int->SV) (hpm:QT w gm p f) (hv:Valid p) (vc:Value) (X:List Int) (hX:Ints w vc X) (hd:∀ d∈X,d∈BU p) (g1:Nat)
  (Inv:σ->World->Prop) (upd:σ->Pt×Pt->σ) (hI:∀ s W,Inv s W->AP w W) (hD:∀ s W,Inv s W->Inv s W.drew)
  (s:σ) (hst:∀ S0 W q r,DV p X=S0++q::r->Inv (S0.foldl upd s) W->Calls Tryz.prog 80 #[BD q.1,BD q.2,.pointer (some ⟨g1,0,none⟩)] W fun e W'=>e=.returned (.tuple #[])/\Inv (upd (S0.foldl upd s) q) W'/\Below w.heap.size W W')
  (W:World) (h0:Inv s W) :
  Calls Tryz.prog 79 #[.map (some gm),vc,.func (.func 80) #[] #[.pointer (some ⟨g1,0,none⟩)]] W fun e W'=>e=.returned (.tuple #[])/\Inv ((DV p X).foldl upd s) W'/\Below w.heap.size W W':=by
 obtain ⟨Ac,cc,rfl,hc1,hc2,IC⟩:=hX;unfold maxLen at hc2;have NH:=AA IC;have Jr:=AA hpm;have HI:=AA hI;have DI:=AA hst;have RH:=AA hD;have WU:=AA hd;have HV:=AA hv;have H0:=AA h0;have Et:=AA (fun k (hk:k<X.length)=>aeM p hk);obtain ⟨R,hR⟩:=BL ((DV p X).foldl upd s);rw [hR];have Kr:=AA hR;have NI:=AA (fun k (hk:k<X.length)=>ajZ p hk);clear IC hpm hI hst hD hd hv h0 hR;go_enter Tryz.func79,Tryz.ntmps79;go_wp2_with fail;go_loopw [12] (fun i wr=>∃ k:Nat,k<=X.length/\i=.int .i64 k/\Inv ((DV p (X.take k)).foldl upd s) wr/\Below w.heap.size W wr) (fun i _=>X.length-(intOf i).toNat)
 case atStart => exact ⟨0,BZ _,rfl,H0.out,Below.refl _ _⟩
 case round =>
  obtain ⟨k,hk,rfl,hinv,hbw⟩:=hrel;obtain ⟨wo,rfl⟩:=BO wr;have Jg:=AA hinv;have EY:=AA hbw;have Hb:=AA (HI.out _ _ hinv);clear hinv hbw;by_cases hlt:k<X.length
  ·obtain ⟨b,o,rfl,hlb,c0⟩:=(NH.out.mono Hb.out).int hlt;have hdd:=WU.out _ (BH hlt);have htk:=Et.out k hlt;have hmem:=NI.out k hlt;generalize X[k]=d at *;obtain ⟨a,ha,hor,hpt⟩:=HV.out.Tq hdd;have hid:=HV.out.Gh ha;rw [hpt] at htk hmem;obtain ⟨n,hmp⟩:=(Jr.out.keep Hb.out).mp;have hlk:=hmp.look a.id (KU AB AB);have Np:=Jr.out.rd a ha;have hlen:2<=(AV p a).length:=by have:=Eh p a;omega
   have yI:=AA htk;have QV:=AA hmem;have k1:IntKind.i64.wrap (-d)=-d:=Ci _ AB;have km:max d (-d)=a.id:=by omega
   have PY:=HV.out.Sv ha;have hpl:(AV p a).length<=66:=by have:=Eh p a;omega
   generalize f a.id=x at *;obtain ⟨Ap,np,cp⟩:=x;unfold BJ at hlk Np;obtain ⟨jD,cp',he,hp1,hp2,Pm⟩:=Np;injection he with e1 e2 e3;subst e1 e2 e3;unfold maxLen at hp2;have WV:=AA Pm;clear hmp hdd htk hmem hpt hor ha Pm PY;generalize a.id=ai at *;generalize AV p a=P at *;clear hid;obtain ⟨s1,hs1⟩:=BL ((DV p (X.take k)).foldl upd s);rw [hs1] at Jg;have RI:=AA hs1;clear hs1;go_upto_block 2 with fail;go_wp2_with fail;go_loopw [9] (fun i wr=>∃ j:Nat,1<=j/\j<=P.length/\i=.int .i64 j/\Inv (((Ei P).take (j-1)).foldl upd s1) wr/\Below w.heap.size wo wr) (fun i _=>P.length-(intOf i).toNat)
   case atStart => exact ⟨1,DT _,AB,rfl,Jg.out,Below.refl _ _⟩
   case round =>
    obtain ⟨j,hj1,hj2,rfl,hinv,Ec⟩:=hrel;have bC:=AA hinv;have F7:=AA Ec;have Hb2:=AA (HI.out _ _ hinv);clear hinv Ec;by_cases hlj:j<P.length
    ·obtain ⟨m,rfl⟩:∃ m,j=m+1:=⟨j-1,AB⟩;have hmp:m<P.length:=by omega
     obtain ⟨r,hq⟩:=QV.out m hlj;have htk:=aBB hlj;have hin:=bC.out;rw [show m+1-1=m by omega] at hin;have hst:=DI.out _ wr.drew _ r hq (by rw [O9,RI.out];exact RH.out _ _ hin);rw [O9,RI.out] at hst;have ea:P.getD m AY=P[m]:=by simp only [Fj,DK hmp,Gp]
     have eb:P.getD (m+1) AY=P[m+1]:=by simp only [Fj,DK hlj,Gp]
     rw [ea,eb] at hst htk;obtain ⟨bp,op,KJ,hlp,e10,e11⟩:=(WV.out).pt hmp;obtain ⟨bp',op',Jl,-,e20,e21⟩:=(WV.out).pt hlj;rw [KJ] at Jl;injection Jl with Jl;injection Jl with x1 x2 _;subst x1 x2;replace e10:=Dv Hb2.out e10;replace e11:=Dv Hb2.out e11;replace e20:=Dv Hb2.out e20;replace e21:=Dv Hb2.out e21;have Qn:=AA htk;generalize P[m]=pa at *;generalize P[m+1]=pb at *;unfold BD at hst;simp only at hst;have HC:=AA hst;clear hst htk ea eb hq hin;subst KJ;have k2:IntKind.i64.wrap ((m:Int)+1-1)=m:=by rw [show (m:Int)+1-1=m by omega];exact Ci _ AB
     have k3:(m:Int)<P.length:=by omega
     have k8:IntKind.i64.wrap (m:Int)=m:=Ci _ AB;have k4:0<=(m:Int):=by omega
     have k5:(m:Int)+1-1=m:=by omega
     have k6:(m:Int)+1<P.length:=by omega
     have k7:0<=(m:Int)+1:=by omega
     rw [show (((m+1:Nat)):Int)=(m:Int)+1 from by omega];go_upto_region 7 with fail;refine QK (w.heap.size) (wr) (.run 10 0 0 (.call 10 2047 (.done))) fun Bv QR Ae Ah hS=>?_
     iterate 10 refine Aj ?_
     refine BP ?_;clear hS;intro K hK AQ;go_simp;refine HC.out.mono ?_;rintro e w4 ⟨rfl,bF,hb4⟩;have hS:Fb w.heap.size wr w4:=Below.trans AQ.out hb4;have abY:=AA bF;clear hb4 bF;clear AQ;refine hK.out _ _ hS (fun _=>?_);clear hK K
     try simp only [pu]
     refine KW ?_;clear hS Ah Ae;intro hB;have yJ:=AA (Below.trans F7.out hB);clear hB e10 e11 e20 e21 hlp;go_wp2;go_roundw
     case rel => exact ⟨m+1+1,AB,AB,BI,afv,yJ.out⟩
     case measure => exact BK
    ·obtain rfl:j=P.length:=by omega
     have yK:(Ei P).length=P.length-1:=by unfold Ei;rw [Cm,Qj]
     have hfin:=bC.out;rw [Hw AB,<- RI.out,<- O9,<- yI.out] at hfin;have HF:=AA hfin;clear hfin yK;go_wp2;go_roundw
     case rel => exact ⟨k+1,AB,BI,HF.out,Below.trans EY.out F7.out⟩
     case measure => exact BK
  ·obtain rfl:k=X.length:=by omega
   have hfin:=Jg.out;rw [H8,Kr.out] at hfin;have HF:=AA hfin;clear hfin;go_wp2_with fail;exact bodyPost_end (v:=.tuple #[]) (results_none rfl _ _ _) rfl ⟨rfl,HF.out,EY.out⟩
def YT (n:Int):Prop:=-1152921504606846976<=n/\n<=1152921504606846976
theorem asJ (x y:Int) (w:World) (h:YT x) (hy:y≠0):Calls Tryz.prog 252 #[.int .i64 x,.int .i64 y] w fun e w'=>e=.returned (.int .i64 0)/\w=w':=by
 have k1:(y == 0)=false:=by simpa using hy
 have k2:(x == -9223372036854775808)=false:=by rw [beq_eq_false_iff_ne];unfold YT at h;omega
 clear h hy;go_enter Tryz.func252,Tryz.ntmps252;go_wp2;go_ret;exact ⟨rfl,rfl⟩
theorem asK {a b:Int} (h:YT a) (hb:b≠0):YT (a.tdiv b)/\YT (a.tmod b):=by
 have h1:(a.tdiv b).natAbs<=a.natAbs:=by rw [Int.natAbs_tdiv];exact Nat.div_le_self _ _
 have h2:(a.tmod b).natAbs<=a.natAbs:=by rw [Int.natAbs_tmod];exact Nat.mod_le _ _
 unfold YT at *;omega
structure Rn where
 lo:Int
 hi:Int
def Fz (l:List Rn) (n:Int):Prop:=∃ r∈l,r.lo<=n/\n<r.hi
def MN (l:List Rn):Prop:=(∀ r∈l,r.lo<r.hi)/\l.Pairwise (fun a b=>a.hi<b.lo)
theorem Xm (n:Int):¬ Fz [] n:=fun ⟨r,h,_⟩=>by cases h
theorem MO {r:Rn} {l:List Rn} {n:Int}:Fz (r::l) n↔(r.lo<=n/\n<r.hi)\/Fz l n:=by
 unfold Fz;constructor
 ·rintro ⟨x,hx,h⟩;rcases EJ.1 hx with rfl | hx
  · exact .inl h
  · exact .inr ⟨x,hx,h⟩
 ·rintro (h | ⟨x,hx,h⟩)
  · exact ⟨r,Ea,h⟩
  · exact ⟨x,Gn _ hx,h⟩
theorem Um {l m:List Rn} {n:Int}:Fz (l++m) n↔Fz l n\/Fz m n:=by
 unfold Fz;constructor
 ·rintro ⟨x,hx,h⟩;rcases FZ.1 hx with hx | hx
  · exact .inl ⟨x,hx,h⟩
  · exact .inr ⟨x,hx,h⟩
 ·rintro (⟨x,hx,h⟩ | ⟨x,hx,h⟩)
  · exact ⟨x,Oa _ hx,h⟩
  · exact ⟨x,Xv _ hx,h⟩
theorem MN.tail {r:Rn} {l:List Rn} (h:MN (r::l)):MN l:=⟨fun x hx=>h.1 x (Gn _ hx),(JC.1 h.2).2⟩
theorem MN.Xn {r:Rn} {l:List Rn} (h:MN (r::l)) {n:Int} (hn:Fz l n):r.hi<n:=by
 obtain ⟨x,hx,h1,_⟩:=hn;have:=(JC.1 h.2).1 x hx
 omega
theorem aja:∀ {l m:List Rn},MN l->MN m->(∀ n,Fz l n↔Fz m n)->l=m
 | [],[],_,_,_=>rfl
 | [],b::m,_,hm,h=>by
  have:=(h b.lo).2 (MO.2 (.inl ⟨L8 _,hm.1 b Ea⟩))
  exact absurd this (Xm _)
 | a::l,[],hl,_,h=>by
  have:=(h a.lo).1 (MO.2 (.inl ⟨L8 _,hl.1 a Ea⟩))
  exact absurd this (Xm _)
 | a::l,b::m,hl,hm,h=>by
  have ha:=hl.1 a Ea;have hb:=hm.1 b Ea;have h1:=(h a.lo).1 (MO.2 (.inl ⟨L8 _,ha⟩));have h2:=(h b.lo).2 (MO.2 (.inl ⟨L8 _,hb⟩));have e1:b.lo<=a.lo:=by
   rcases MO.1 h1 with h1 | h1
   · exact h1.1
   · have:=hm.Xn h1;omega
  have e2:a.lo<=b.lo:=by
   rcases MO.1 h2 with h2 | h2
   · exact h2.1
   · have:=hl.Xn h2;omega
  have g1:¬ Fz (a::l) a.hi:=fun g=>by
   rcases MO.1 g with g | g
   · omega
   · have:=hl.Xn g;omega
  have g2:¬ Fz (b::m) b.hi:=fun g=>by
   rcases MO.1 g with g | g
   · omega
   · have:=hm.Xn g;omega
  have e3:¬ a.hi<b.hi:=fun g=>g1 ((h a.hi).2 (MO.2 (.inl ⟨AB,g⟩)));have e4:¬ b.hi<a.hi:=fun g=>g2 ((h b.hi).1 (MO.2 (.inl ⟨AB,g⟩)));have eab:a=b:=by
   cases a;cases b;simp only [Rn.mk.injEq];simp only at e1 e2 e3 e4;omega
  subst eab;rw [aja hl.tail hm.tail fun n=>?_];constructor
  ·intro g;have:=hl.Xn g
   rcases MO.1 ((h n).1 (MO.2 (.inr g))) with g | g
   · omega
   · exact g
  ·intro g;have:=hm.Xn g
   rcases MO.1 ((h n).2 (MO.2 (.inr g))) with g | g
   · omega
   · exact g
def aBC:Rn:=⟨0,0⟩
def TK (out:List Rn) (r:Rn):List Rn :=
 if r.hi<=r.lo then out
 else if 0<out.length/\r.lo<=(out.getD (out.length-1) aBC).hi then out.set (out.length-1) ⟨(out.getD (out.length-1) aBC).lo,max (out.getD (out.length-1) aBC).hi r.hi⟩
 else out++[r]
theorem asL {α:Type} (l:List α) (z d:α):(l++[z]).getD ((l++[z]).length-1) d=z:=by
 simp [Fj]
theorem asM {α:Type} (l:List α) (z y:α):(l++[z]).set ((l++[z]).length-1) y=l++[y]:=by
 rw [EC,lJ,Ze,aat _ _ (DT _),aau];rfl
structure pK (out pre:List Rn) (m:Int):Prop where
 val:MN out
 same:∀ n,Fz out n↔Fz pre n
 le:∀ z∈out,z.lo<=m
theorem pK.step {out pre:List Rn} {r:Rn} (h:pK out pre r.lo):pK (TK out r) (pre++[r]) r.lo:=by
 unfold TK;have h1:∀ n,Fz [r] n↔r.lo<=n/\n<r.hi:=fun n=>by rw [MO];exact ⟨fun g=>g.resolve_right (Xm n),.inl⟩
 by_cases e:r.hi<=r.lo
 ·rw [AZ e];refine ⟨h.val,fun n=>?_,h.le⟩;rw [Um,h.same,h1];exact ⟨.inl,fun g=>g.resolve_right AB⟩
 rw [AX e];rcases List.eq_nil_or_concat out with rfl | ⟨l,z,rfl⟩
 ·rw [AX Aw];refine ⟨⟨fun x hx=>?_,Aw⟩,fun n=>?_,fun x hx=>?_⟩
  · simp at hx;subst hx;omega
  · rw [Um,Um,h.same]
  · simp at hx;subst hx;exact L8 _
 ·simp only [List.concat_eq_append] at h ⊢;rw [asL,asM];have hp:=Ql.1 h.val.2;have hz:=h.le z Aw;have hzv:=h.val.1 z Aw;by_cases e2:r.lo<=z.hi
  ·rw [AZ ⟨Aw,e2⟩];refine ⟨⟨fun x hx=>?_,?_⟩,fun n=>?_,fun x hx=>?_⟩
   ·rcases FZ.1 hx with hx | hx
    · exact h.val.1 x (Oa _ hx)
    ·rw [ED] at hx;subst hx
     show z.lo<max z.hi r.hi
     omega
   ·rw [Ql];refine ⟨hp.1,Aw,fun a ha b hb=>?_⟩;rw [ED] at hb;subst hb;exact hp.2.2 a ha z Aw
   ·rw [Um,Um,<- h.same,Um,h1,MO,MO];have:=Xm n
    constructor
    ·rintro (g | (g | g))
     · exact .inl (.inl g)
     ·simp only at g;by_cases e3:n<z.hi
      · exact .inl (.inr (.inl ⟨g.1,e3⟩))
      · exact .inr AB
     · exact absurd g this
    ·rintro ((g | (g | g)) | g)
     · exact .inl g
     · exact .inr (.inl (by simp only;omega))
     · exact absurd g this
     · exact .inr (.inl (by simp only;omega))
   ·rcases FZ.1 hx with hx | hx
    · exact h.le x (Oa _ hx)
    · rw [ED] at hx;subst hx;exact hz
  ·rw [AX (fun g=>e2 g.2)];refine ⟨⟨fun x hx=>?_,?_⟩,fun n=>?_,fun x hx=>?_⟩
   ·rcases FZ.1 hx with hx | hx
    · exact h.val.1 x hx
    · rw [ED] at hx;subst hx;omega
   ·rw [Ql];refine ⟨h.val.2,Aw,fun a ha b hb=>?_⟩;rw [ED] at hb;subst hb;rcases FZ.1 ha with ha | ha
    ·have:=hp.2.2 a ha z Aw
     omega
    · rw [ED] at ha;subst ha;omega
   · rw [Um (m:=[r]),Um (m:=[r]),h.same]
   ·rcases FZ.1 hx with hx | hx
    · exact h.le x hx
    · rw [ED] at hx;subst hx;exact L8 _
def jE (r:Rn):List Rn->List Rn
 | []=>[r]
 | x::l=>if r.lo<=x.lo then r::x::l else x::jE r l
def jF (l:List Rn):List Rn:=l.foldr jE []
def jG (l:List Rn):List Rn:=l.foldl TK []
def Pn (l:List Rn):List Rn:=jG (jF l)
theorem aeN (r:Rn):∀ l,(jE r l).Perm (r::l)
 | []=>List.Perm.refl _
 | x::l=>by
  unfold jE;split
  · exact List.Perm.refl _
  · exact ((aeN r l).cons x).trans (List.Perm.swap _ _ _)
theorem ajb (r:Rn):∀ l,l.Pairwise (fun a b=>a.lo<=b.lo)->(jE r l).Pairwise (fun a b=>a.lo<=b.lo)
 | [],_=>by unfold jE;simp
 | x::l,h=>by
  have h':=JC.1 h;unfold jE;split
  ·rename_i e;rw [JC];refine ⟨fun y hy=>?_,h⟩;rcases EJ.1 hy with rfl | hy
   · exact e
   · have:=h'.1 y hy;omega
  ·rename_i e;rw [JC];refine ⟨fun y hy=>?_,ajb r l h'.2⟩;rcases EJ.1 ((aeN r l).subset hy) with rfl | hy
   · omega
   · exact h'.1 y hy
theorem pO:∀ l,(jF l).Perm l/\(jF l).Pairwise (fun a b=>a.lo<=b.lo)
 | []=>⟨List.Perm.refl _,List.Pairwise.nil⟩
 | x::l=>by
  obtain ⟨h1,h2⟩:=pO l;exact ⟨(aeN x _).trans (h1.cons x),ajb x _ h2⟩
theorem ajc:∀ (l out pre:List Rn) (m:Int),pK out pre m->(∀ r∈l,m<=r.lo)->l.Pairwise (fun a b=>a.lo<=b.lo)->MN (l.foldl TK out)/\∀ n,Fz (l.foldl TK out) n↔Fz (pre++l) n
 | [],out,pre,m,h,_,_=>⟨h.val,fun n=>by rw [IQ];exact h.same n⟩
 | r::l,out,pre,m,h,hm,hs=>by
  have hs':=JC.1 hs;have h0:pK out pre r.lo:=⟨h.val,h.same,fun z hz=>Int.le_trans (h.le z hz) (hm r Ea)⟩;have:=ajc l (TK out r) (pre++[r]) r.lo h0.step hs'.1 hs'.2
  rw [JR] at this;exact this
theorem aeO {l:List Rn} (hs:l.Pairwise (fun a b=>a.lo<=b.lo)):MN (jG l)/\∀ n,Fz (jG l) n↔Fz l n:=by
 rcases l with _ | ⟨r,l⟩
 · exact ⟨⟨fun x hx=>(by cases hx),List.Pairwise.nil⟩,fun n=>Iff.rfl⟩
 ·have h0:pK [] [] r.lo:=⟨⟨fun x hx=>(by cases hx),List.Pairwise.nil⟩,fun n=>Iff.rfl,fun x hx=>by cases hx⟩;have hs':=JC.1 hs;exact ajc (r::l) [] [] r.lo h0 (fun x hx=>by
   rcases EJ.1 hx with rfl | hx
   · exact L8 _
   · exact hs'.1 x hx) hs
theorem aeP {l m:List Rn} (h:l.Perm m) (n:Int):Fz l n↔Fz m n :=
 ⟨fun ⟨x,hx,g⟩=>⟨x,h.subset hx,g⟩,fun ⟨x,hx,g⟩=>⟨x,h.symm.subset hx,g⟩⟩
theorem asN {l m:List Rn} (hp:m.Perm l) (hs:m.Pairwise (fun a b=>a.lo<=b.lo)):jG m=Pn l:=by
 obtain ⟨h1,h2⟩:=aeO hs;obtain ⟨h3,h4⟩:=aeO (pO l).2;exact aja h1 h3 fun n=>by rw [h2,show Fz (Pn l) n↔_ from h4 n,aeP hp,aeP (pO l).1]
theorem oD (l:List Rn):MN (Pn l)/\∀ n,Fz (Pn l) n↔Fz l n:=by
 obtain ⟨h3,h4⟩:=aeO (pO l).2;exact ⟨h3,fun n=>by show Fz (jG (jF l)) n↔_;rw [h4,aeP (pO l).1]⟩
