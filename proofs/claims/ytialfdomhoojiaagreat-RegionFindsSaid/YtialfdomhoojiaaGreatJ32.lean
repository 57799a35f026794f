import Derived.Test.YtialfdomhoojiaaGreatJ31
import Derived.Test.YtialfdomhoojiaaGreatRegLB
set_option linter.unusedSimpArgs false
set_option linter.unusedVariables false
set_option maxRecDepth 100000
set_option maxHeartbeats 8000000
namespace Go.Proofs.YtialfdomhoojiaaGreat
open Go.RowKit
def aCw (PP:List Pt) (v:Pt) (i:Nat):Bool:=match PP[i]?,PP[i+1]? with
 | some a,some b=>EO a b v
 | _,_=>false
def U3 (PP:List Pt) (v:Pt) (k:Nat):Bool:=(List.range k).any (aCw PP v)
def U4 (p:Pl) (v:Pt) (a:Ar):Bool:=U3 (AV p a) v ((AV p a).length-1)
def NV (p:Pl) (v:Pt):Int×Int×Int :=
 if Eu p≠0 then (0,0,Eu p) else if Ik v=false then (0,0,2) else
 match p.nodes.find? (fun n=>decide (n.pt=v)) with
 | some n=>(1,n.id,0)
 | none=>match p.AU.find? (U4 p v) with
  | some a=>(2,a.id,0)
  | none=>(0,KH p (I4 p v),0)
def qK (t:Int×Int×Int):Value:=.tuple #[.int .i64 t.1,.int .i64 t.2.1,.int .i64 t.2.2]
theorem alr {PP:List Pt} {v:Pt} {i:Nat} (h:i+1<PP.length):aCw PP v i=EO (PP[i]'(by omega)) PP[i+1] v:=by
 unfold aCw;rw [DK h,DK (show i<PP.length by omega)]
theorem aCx (PP:List Pt) (v:Pt) (k:Nat):U3 PP v (k+1)=(U3 PP v k || aCw PP v k):=by
 unfold U3;rw [Zf,ab6];simp
theorem als {PP:List Pt} {v:Pt} {k m:Nat} (hk:k<=m) (h:U3 PP v k=true):U3 PP v m=true:=by
 unfold U3 at *;rw [PE] at *;obtain ⟨i,hi,e⟩:=h;exact ⟨i,F5.2 (L9 (F5.1 hi) hk),e⟩
theorem abG {α:Type} {P:α->Bool} {l:List α} {k:Nat} (hk:k<l.length) (h:(l.take k).find? P=none) (hn:P l[k]=false):(l.take (k+1)).find? P=none:=by
 rw [En hk,List.find?_append,h];simp [hn]
theorem abH {α:Type} {P:α->Bool} {l:List α} {k:Nat} (hk:k<l.length) (h:(l.take k).find? P=none) (hn:P l[k]=true):l.find? P=some l[k]:=by
 have e:l.find? P=(l.take k++l[k]::l.drop (k+1)).find? P:=by rw [<- Qk hk,Zd]
 rw [e,List.find?_append,h];simp only [Option.none_or,List.find?_cons,hn]
section
variable {p:Pl} {v:Pt} (h0:Eu p=0) (h1:Ik v=true)
include h0 h1
theorem ax7 {k:Nat} (hk:k<p.nodes.length) (h:(p.nodes.take k).find? (fun n=>decide (n.pt=v))=none) (he:p.nodes[k].pt=v):NV p v=(1,p.nodes[k].id,0):=by
 unfold NV;rw [AX gK,AX (by simp [h1]),abH hk h (by simpa using he)]
theorem ax8 (hn:p.nodes.find? (fun n=>decide (n.pt=v))=none) {k:Nat} (hk:k<p.AU.length) (h:(p.AU.take k).find? (U4 p v)=none) (he:U4 p v p.AU[k]=true):NV p v=(2,p.AU[k].id,0):=by
 unfold NV;rw [AX gK,AX (by simp [h1]),hn];simp only;rw [abH hk h he]
theorem ax9 (hn:p.nodes.find? (fun n=>decide (n.pt=v))=none) (ha:p.AU.find? (U4 p v)=none):NV p v=(0,KH p (I4 p v),0):=by
 unfold NV;rw [AX gK,AX (by simp [h1]),hn];simp only;rw [ha]
end
theorem alu (p:Pt) (w:World):Calls Tryz.prog 69 #[BD p] w fun e w'=>e=.returned (.bool (Ik p))/\AP w w':=by
 unfold BD;go_enter Tryz.func69,Tryz.ntmps69;go_wp2_with fail
 all_goals
  go_ret;refine ⟨C9 (by rw [Ik,LX];simp only [Em,E8,true_iff,Rt,false_iff];omega),?_⟩;exact Dk
theorem axA (v:Value) (p:Pl) (at_:Pt) (w:World) (h:Cb w v p) (hv:Eu p≠0):Calls Tryz.prog 24 #[v,BD at_] w fun e w'=>e=.returned (qK (0,0,Eu p))/\AP w w':=by
 have HC:=AA (fun W (hW:AP w W)=>af0 v p W (h.mono hW) hv);obtain ⟨vn,va,vf,al,rfl,-⟩:=h;generalize Eu p=z at *;have hb:(z != 0)=true:=by simpa using hv
 unfold BD;clear hv;go_enter Tryz.func24,Tryz.ntmps24;go_wp2_with fail;refine (HC.out _ (bA (bA (bR w) _) _)).mono ?_;rintro e w1 ⟨rfl,hb1⟩;have HB1:=AA (bT (bA (bA (bR w) _) _) hb1);clear hb1 HC;go_wp2_with fail;exact bodyPost_ret (results_tmp3 rfl _ _ _) rfl ⟨rfl,HB1.out⟩
theorem axB (v:Value) (p:Pl) (at_:Pt) (w:World) (h:Cb w v p) (hv:Eu p=0) (hk:Ik at_=false):Calls Tryz.prog 24 #[v,BD at_] w fun e w'=>e=.returned (qK (0,0,2))/\AP w w':=by
 have HC:=AA (fun W (hW:AP w W)=>aa4 v p W (h.mono hW) hv);have eH:=AA (fun W=>alu at_ W);rw [hk] at eH;obtain ⟨vn,va,vf,al,rfl,-⟩:=h;unfold BD at eH ⊢;clear hv hk;go_enter Tryz.func24,Tryz.ntmps24;go_upto_region 1 with fail;obtain ⟨W1,hW⟩:=BO ((w.alloc (.cells #[vn,va,vf] 26)).alloc (.cells #[.int .i64 at_.x,.int .i64 at_.y] 39));have X1:AO W1 w.heap.size 26 #[vn,va,vf]:=by rw [hW];exact (AO.made rfl _ _).alloc _
 have X2:AO W1 (w.heap.size+1) 39 #[.int .i64 at_.x,.int .i64 at_.y]:=by rw [hW];exact AO.made Aw _ _
 have HB1:=AA (show AP w W1 by rw [hW];exact bA (bA (bR w) _) _);rw [<- hW];clear hW;have D9:=AA X1;have CG:=AA X2;obtain ⟨Ak,Au,Az,BA,-,-,-⟩:=X1.BF;go_wp2_with fail;refine (HC.out _ HB1.out).mono ?_;rintro e w1 ⟨A,c,L,A',c',gm,f,rfl,hb1,-⟩;have HB2:=AA (bT HB1.out hb1);have X3:=CG.out.keep hb1;clear hb1 HC X1 Ak Au Az BA D9 CG X2 HB1;obtain ⟨E5,Eo,F9,-,-⟩:=X3.BN;go_wp2_with fail;refine (eH.out _).mono ?_;rintro e w3 ⟨rfl,hb3⟩;have HB3:=AA (bT HB2.out hb3);clear hb3;go_wp2_with fail;exact bodyPost_ret (results_tmp3 rfl _ _ _) rfl ⟨rfl,HB3.out⟩
theorem axC (v:Value) (p:Pl) (at_:Pt) (w:World) (h:Cb w v p) (hv:Eu p=0) (hk:Ik at_=true):Calls Tryz.prog 24 #[v,BD at_] w fun e w'=>e=.returned (qK (NV p at_))/\AP w w':=by
 obtain ⟨hvv,hfb⟩:=qA hv;have HV:=AA hvv;have nv:=adO hk;have HLn:=AA (fun k (hl:k<p.nodes.length) hf he=>ax7 (v:=at_) hv hk hl hf he);have zH:=AA (fun hn k (hl:k<p.AU.length) hf he=>ax8 (v:=at_) hv hk hn hl hf he);have zI:=AA (fun hn ha=>ax9 (v:=at_) hv hk hn ha);have HC:=AA (fun W (hW:AP w W)=>aa4 v p W (h.mono hW) hv);have eH:=AA (fun W=>alu at_ W);have II:=AA (fun a b W=>uU a b at_ W);have qc:=AA (fun W gm f (hpm:QT W gm p f) vl L (hL:aCs W vl L) hd hl=>akV W gm p f hpm hvv vl L hL hd hl at_ nv);have hol:(Bj p).length<=512:=Dn (LY _ _) hvv.QY;rw [hk] at eH;obtain ⟨_,_,_,al,rfl,hpa,⟨An,cn,rfl,hn1,hn2,zJ⟩,⟨⟨Aa,ca,rfl,ha1,ha2,FU⟩,TG⟩,⟨Af,cf,rfl,-⟩⟩:=h;unfold maxLen at hn2 ha2;generalize p.faces.length=nf at *;have hal:al.length=p.AU.length:=by rw [hpa,Cm]
 have aaA:p.nodes.length<=256:=hvv.bW;have hqa:p.AU.length<=256:=by
  have hl:=hvv.lim;unfold JX at hl;simp at hl;omega
 have HRn:=AA zJ;have Gu:=AA FU;have jY:=AA TG;have LH:=AA hpa;have OJ:=AA hal;have axD:al.length<=256:=by omega
 unfold BD at eH II qc ⊢;clear hv hk hvv hfb zJ FU TG hpa nv hal;go_enter Tryz.func24,Tryz.ntmps24;go_upto_region 1 with fail;obtain ⟨W1,hW⟩:=BO ((w.alloc (.cells #[.slice An p.nodes.length cn,.slice Aa al.length ca,.slice Af nf cf] 26)).alloc (.cells #[.int .i64 at_.x,.int .i64 at_.y] 39));have X1:AO W1 w.heap.size 26 #[.slice An p.nodes.length cn,.slice Aa al.length ca,.slice Af nf cf]:=by rw [hW];exact (AO.made rfl _ _).alloc _
 have X2:AO W1 (w.heap.size+1) 39 #[.int .i64 at_.x,.int .i64 at_.y]:=by rw [hW];exact AO.made Aw _ _
 have HB1:=AA (show AP w W1 by rw [hW];exact bA (bA (bR w) _) _);rw [<- hW];clear hW;have D9:=AA X1;have CG:=AA X2;obtain ⟨Ak,Au,Az,BA,-,-,-⟩:=X1.BF;go_wp2_with fail;refine (HC.out _ HB1.out).mono ?_;rintro e w1 ⟨A,c,L,A',c',gm,f,rfl,hb1,P6,hfi,hdv,htw,hpm,hgm,-⟩;have HB2:=AA (bT HB1.out hb1);have Q9:=AA (D9.out.keep hb1);have WB:=AA (CG.out.keep hb1);have X3:=WB.out;have HA:=AA P6;have HD:=AA hdv;have HT:=AA htw;have Jr:=AA hpm;have hll:L.length=(Bj p).length+1:=hdv.len;have hfl:=U1 p (Bj p) L.length;obtain ⟨Al,cl,hel,hl2,hl3,hRl⟩:=P6.sl;injection hel with y1 y2 y3;subst y1 y3;clear y2;unfold Ints at hfi;rw [hfl] at hfi;obtain ⟨Af',cf',hef,hf2,hf3,dw⟩:=hfi;injection hef with y1 y2 y3;subst y1 y3;clear y2;have Xb:=AA dw;clear hb1 HC X1 Ak Au Az BA D9 CG X2 HB1 P6 hdv htw hpm hRl dw hl2 hl3 hf2 hf3 hfl;obtain ⟨E5,Eo,F9,-,-⟩:=X3.BN;go_wp2_with fail;refine (eH.out _).mono ?_;rintro e w3 ⟨rfl,hb3⟩;have HB3:=AA (bT HB2.out hb3);have D9:=AA (Q9.out.keep hb3);have CG:=AA (WB.out.keep hb3);have IY:=AA (HA.out.mono hb3);have zA:=AA (Jr.out.keep hb3);have alv:=AA (Xb.out.mono hb3);clear hb3 X3 E5 Eo F9 Q9 WB HA Jr Xb HB2 eH;have X1:=D9.out
 try clear Ak Au Az BA
 obtain ⟨Ak,Au,Az,BA,-,-,-⟩:=X1.BF;go_upto_block 0 with fail;clear X1 Ak Au Az BA;go_wp2_with fail;go_loopw [32] (fun u wr=>∃ k:Nat,k<=p.nodes.length/\u=.int .i64 k/\(p.nodes.take k).find? (fun n=>decide (n.pt=at_))=none/\AP w3 wr) (fun u _=>p.nodes.length-(intOf u).toNat)
 case atStart => exact ⟨0,BZ _,rfl,rfl,bR w3⟩
 case round =>
  obtain ⟨k,hk,rfl,hno,hb⟩:=hrel;obtain ⟨wo,rfl⟩:=BO wr;have Hg:=AA hno;have Hb:=AA hb;clear hno hb;by_cases hlt:k<p.nodes.length
  ·obtain ⟨b,o,hA',hlb,c0,c1,c2⟩:=(HRn.out.mono (bT HB3.out Hb.out)).nd hlt;subst hA';have X2:=CG.out.keep Hb.out;have hx2:=X2.lt;have KI:=AA (fun he=>HLn.out k hlt Hg.out he);have KD:=AA (fun hne=>abG hlt Hg.out hne);generalize p.nodes[k]=x at *;obtain ⟨id,x0,y0⟩:=x;simp only at c0 c1 c2;have wW:(k:Int)<p.nodes.length:=by omega
   have wZ:0<=(k:Int):=by omega
   obtain ⟨BQ,BR,BX,-,-⟩:=X2.BN;go_upto_region 9 with fail;obtain ⟨W5,hW⟩:∃ W:World,W=wo.alloc (.cells #[.int .i64 id,.int .i64 x0,.int .i64 y0] 45):=⟨_,rfl⟩;obtain ⟨g11,abI⟩:=BL wo.heap.size;have X5:AO W5 g11 45 #[.int .i64 id,.int .i64 x0,.int .i64 y0]:=by rw [hW];exact AO.made abI.symm _ _
   have X6:AO W5 (w.heap.size+1) 39 #[.int .i64 at_.x,.int .i64 at_.y]:=by rw [hW];exact X2.alloc _
   have MV:=AA (show AP w W5 by rw [hW];exact bA (bT HB3.out Hb.out) _);have HBg:=AA (show AP w3 W5 by rw [hW];exact bA Hb.out _);rw [<- hW]
   try rw [abI]
   clear hW c0 c1 c2 hlb X2 BQ BR BX Hb;obtain ⟨CJ,CO,CS,G6,-,-,-⟩:=X5.BF;obtain ⟨EF,EG,EH,-,-⟩:=X6.BN;by_cases he:(⟨x0,y0⟩:Pt)=at_
   ·have hr:=AA (KI.out he);have he1:x0=at_.x:=by rw [<- he]
    have he2:y0=at_.y:=by rw [<- he]
    subst he1 he2;go_upto_region 10 with fail;refine Cj (W5) (.run 5 0 0 (.done)) fun Bv QR Ae Ah hS=>?_
    iterate 5 refine Aj ?_
    refine Ce ?_;clear hS Ah Ae;intro hB;go_wp2_with fail;exact bodyPost_ret (results_tmp3 rfl _ _ _) rfl ⟨by rw [hr.out];rfl,bT MV.out hB⟩
   ·have hne:¬ (x0=at_.x/\y0=at_.y):=fun e=>he (by rw [e.1,e.2]);have hr:=AA (KD.out (by simpa using he));go_wp2_with fail
    all_goals
     refine ⟨⟨k+1,AB,rfl,hr.out,HBg.out⟩,?_⟩;simp [intOf];omega
  ·obtain rfl:k=p.nodes.length:=by omega
   have hnn:=Hg.out;rw [H8] at hnn;have Xf:=AA hnn;have HB4:=AA (bT HB3.out Hb.out);have X1:=D9.out.keep Hb.out;have DJ:=AA (CG.out.keep Hb.out);have Ij:=AA (IY.out.mono Hb.out);have pY:=AA (zA.out.keep Hb.out);have alx:=AA (alv.out.mono Hb.out);clear hnn Hg Hb HB3 D9 CG IY zA alv HLn
   try clear Ak Au Az BA
   obtain ⟨Ak,Au,Az,BA,-,-,-⟩:=X1.BF;go_upto_block 2 with fail;clear X1 Ak Au Az BA;go_wp2_with fail;go_loopw [46] (fun u wr=>∃ k:Nat,k<=al.length/\u=.int .i64 k/\(p.AU.take k).find? (U4 p at_)=none/\AP wo wr) (fun u _=>al.length-(intOf u).toNat)
   case atStart => exact ⟨0,BZ _,rfl,rfl,bR wo⟩
   case round =>
    obtain ⟨k,hk,rfl,hno,hb⟩:=hrel;obtain ⟨wq,rfl⟩:=BO wr;have Hg:=AA hno;have Hb:=AA hb;clear hno hb;by_cases hlt:k<al.length
    ·have hkp:k<p.AU.length:=by rw [<- OJ.out];exact hlt
     have hax:p.AU[k]=al[k].1:=by
      have e:p.AU[k]? = some al[k].1:=by rw [LH.out,List.getElem?_map,DK hlt];rfl
      rw [DK hkp] at e;exact Dc e
     have ham:p.AU[k]∈p.AU:=BH hkp;have hid:=HV.out.Gh ham;have hlen:=Eh p p.AU[k];have PY:=HV.out.Sv ham;obtain ⟨b,o,hA',hlb,c0,c1,c2,c3,c4,c5⟩:=(Gu.out.mono (bT HB4.out Hb.out)).ar hlt;subst hA';have Il:=AA (fun he=>zH.out Xf.out k hkp Hg.out he);have LM:=AA (fun hne=>abG hkp Hg.out hne);obtain ⟨nm,hmp⟩:=(pY.out.keep Hb.out).mp;have Np:=(pY.out.keep Hb.out).rd _ ham;have hax':=hax;have hlk:∀ W,AP wq W->_:=fun W hW=>(hmp.keep hW).look p.AU[k].id (KU AB AB);have qL:=AA hlk;rw [<- hax] at c0 c1 c2 c4 c5;unfold U4 at Il LM;generalize f p.AU[k].id=y at *;generalize AV p p.AU[k]=PP at *;generalize p.AU[k]=ax at *;obtain ⟨Av,cv,hva,-⟩:=jY.out k hlt;rw [hva] at c3;generalize al[k].1.via.length=nv' at *;clear hva;obtain ⟨ai,af,ad,av,af1,af2⟩:=ax;obtain ⟨Ap,np,cp⟩:=y;unfold BJ at hlk qL Np;have TU:=AA Np;obtain ⟨jD,cp',he,hp1,hp2,-⟩:=Np;injection he with y1 y2 y3;subst y1 y2 y3;unfold maxLen at hp2;simp only at hid hlen PY c0 c1 c2 c3 c4 c5;have axE:2<=PP.length:=by omega
     have hpl2:PP.length<=66:=by omega
     clear hax hax' ham hmp hlk hlen PY;have wW:(k:Int)<al.length:=by omega
     have wZ:0<=(k:Int):=by omega
     go_upto_region 15 with fail;obtain ⟨W5,hW⟩:∃ W:World,W=wq.alloc (.cells #[.int .i64 ai,.int .i64 af,.int .i64 ad,.slice Av nv' cv,.int .i64 af1,.int .i64 af2] 50):=⟨_,rfl⟩;obtain ⟨g13,aly⟩:=BL wq.heap.size;have X5:AO W5 g13 50 #[.int .i64 ai,.int .i64 af,.int .i64 ad,.slice Av nv' cv,.int .i64 af1,.int .i64 af2]:=by rw [hW];exact AO.made aly.symm _ _
     have hA:AP wq W5:=by rw [hW];exact bA (bR wq) _
     have CW:=AA (bT (bT HB4.out Hb.out) hA);have Za:=AA (bT Hb.out hA);have axF:=AA (DJ.out.keep (bT Hb.out hA));have afS:=AA X5;have hlk:=qL.out W5 hA;have Xd:=AA (TU.out.mono hA);rw [<- hW]
     try rw [aly]
     clear hW hA c0 c1 c2 c3 c4 c5 hlb qL TU Hb
     try clear CJ CO CS G6 UF mG mJ
     obtain ⟨CJ,CO,CS,G6,UF,mG,mJ,-,-,-,-,-,-⟩:=X5.IU;go_upto_block 4 with fail;clear X5 CJ CO CS G6 UF mG mJ hlk;go_wp2_with fail;go_loopw [15] (fun u wr=>∃ m:Nat,m+1<=PP.length/\u=.int .i64 ((m:Int)+1)/\U3 PP at_ m=false/\AP W5 wr) (fun u _=>PP.length-(intOf u).toNat)
     case atStart => exact ⟨0,AB,rfl,rfl,bR W5⟩
     case round =>
      obtain ⟨m,hm,rfl,hnm,hb⟩:=hrel;obtain ⟨wm,rfl⟩:=BO wr;have NK:=AA hnm;have QA:=AA hb;clear hnm hb;by_cases hmt:m+1<PP.length
      ·obtain ⟨jD,cp',he,-,-,Pm⟩:=Xd.out.mono QA.out;injection he with y1 y2 y3;subst y1 y3;clear y2;obtain ⟨bp,op,KJ,hlp,d0,d1⟩:=Pm.pt (show m<PP.length by omega);obtain ⟨bp',op',Jl,-,d2,d3⟩:=Pm.pt hmt;rw [KJ] at Jl;injection Jl with Jl;injection Jl with q1 q2 _;subst q1 q2 KJ;have hoi:=alr (v:=at_) hmt;generalize PP[m+1]=pb at *;generalize PP[m]=pa at *;obtain ⟨xa,ya⟩:=pa;obtain ⟨xb,yb⟩:=pb;simp only at d0 d1 d2 d3;have X6:=axF.out.keep QA.out;have X7:=afS.out.keep QA.out;have Iw:=AA X7;have hx6:=X6.lt;have hx7:=X7.lt;have aBu:((m:Int)+1)<PP.length:=by omega
       have wu:0<=(m:Int):=by omega
       have kk5:(m:Int)<PP.length:=by omega
       have kw:IntKind.i64.wrap (m:Int)=m:=Ci _ AB
       try clear EF EG EH
       obtain ⟨EF,EG,EH,-,-⟩:=X6.BN
       cases hon:EO ⟨xa,ya⟩ ⟨xb,yb⟩ at_ with
       | true =>
        have HO:=AA (fun W=>II.out ⟨xa,ya⟩ ⟨xb,yb⟩ W);rw [hon] at HO;have zK:U3 PP at_ (PP.length-1)=true:=als (k:=m+1) AB (by rw [aCx,hoi,hon,Bool.or_true]);have hr:=AA (Il.out zK);clear hon hoi zK Il LM;go_upto_region 19 with fail;refine Cj (wm) (.run 10 0 0 (.call 10 2047 (.done))) fun Bv QR Ae Ah hS=>?_
        iterate 10 refine Aj ?_
        refine FD (HO.out _) ?_;clear hS;intro Bq Bf hS;refine Ce ?_;clear hS Ah Ae;intro hB;have Eb:=AA (bT (bT CW.out QA.out) hB);have X8:=Iw.out.keep hB;clear X6 EF EG EH d0 d1 d2 d3 hlp hB HO X7;obtain ⟨Nc,Nh,O1,uD,X8d,X8e,X8f,-,-,-,-,-,-⟩:=X8.IU;go_upto_region 20 with fail;refine Cj (Bq) (.run 5 0 0 (.done)) fun Bv QR Ae Ah hS=>?_
        iterate 5 refine Aj ?_
        refine Ce ?_;clear hS Ah Ae;intro hB;go_wp2_with fail;exact bodyPost_ret (results_tmp3 rfl _ _ _) rfl ⟨by rw [hr.out];rfl,bT Eb.out hB⟩
       | false =>
        have HO:=AA (fun W=>II.out ⟨xa,ya⟩ ⟨xb,yb⟩ W);rw [hon] at HO;have hr:=AA (show U3 PP at_ (m+1)=false by rw [aCx,hoi,hon,NK.out];rfl);clear hon hoi Il LM;go_upto_region 19 with fail;refine Cj (wm) (.run 10 0 0 (.call 10 2047 (.done))) fun Bv QR Ae Ah hS=>?_
        iterate 10 refine Aj ?_
        refine FD (HO.out _) ?_;clear hS;intro Bq Bf hS;refine Ce ?_;clear hS Ah Ae;intro hB;have RY:=AA (bT QA.out hB);clear X6 EF EG EH d0 d1 d2 d3 hlp hB HO X7;go_wp2;go_roundw
        case rel => exact ⟨m+1,AB,BI,hr.out,RY.out⟩
        case measure => exact BK
      ·obtain rfl:m=PP.length-1:=by omega
       have hr:=AA (LM.out NK.out);have HBk:=AA (bT Za.out QA.out);clear Il LM NK II QA;go_wp2;go_roundw
       case rel => exact ⟨k+1,AB,BI,hr.out,HBk.out⟩
       case measure => exact BK
    ·obtain rfl:k=al.length:=by omega
     have lC:=Hg.out;rw [OJ.out,H8] at lC;have hr:=AA (zI.out Xf.out lC);have Za:=AA (bT HB4.out Hb.out);have X6:=DJ.out.keep Hb.out;have hA:=Ij.out.mono Hb.out;have hP:=pY.out.keep Hb.out;have hR:=alx.out.mono Hb.out;have alz:=HD.out.len;obtain ⟨bb,oo,zL,hl9,-⟩:=hR.int (k:=0) (by rw [U1];omega);subst zL;have hF:∀ W,AP wq W->Calls Tryz.prog 70 #[.map (some gm),.slice A ((Bj p).length+1) c,.agg #[.int .i64 at_.x,.int .i64 at_.y]] W fun e w'=>(∃ i:Nat,e=.returned (.int .i64 i)/\(i:Int)<((Bj p).length:Int)+1/\0<=(i:Int)/\wq.cell? ⟨bb,oo+i,none⟩=some (.int .i64 (KH p (I4 p at_))))/\AP W w':=fun W hW=>by
      have hA':=hA.mono hW;rw [<- alz] at *;refine (qc.out W gm f (hP.keep hW) _ L hA'.read (fun x hx d hd=>by
       rcases HD.out.aCu hx with e | e
       · rw [e] at hd;cases hd
       · exact (HV.out.Gy (Nl.1 e).1).2 d hd) AB).mono ?_
      rintro e w' ⟨⟨i,rfl,hbx⟩,hb'⟩;obtain ⟨hi,hh⟩:=HD.out.home rfl HT.out hbx;obtain ⟨bb',oo',zL,hl9,hc9⟩:=hR.int (k:=i) (by rw [U1];exact hi);injection zL with zL;injection zL with q1 q2 _;subst q1 q2;refine ⟨⟨i,rfl,AB,AB,?_⟩,hb'⟩;rw [hc9];congr 2;unfold Nz;rw [Gq,List.getElem_range];unfold GI;rw [hh]
     have HF:=AA hF;clear lC hA hP hR hF alz Ij pY alx Hg Xf zI zH II qc DJ Hb
     try clear EF EG EH
     obtain ⟨EF,EG,EH,-,-⟩:=X6.BN;go_upto_region 22 with fail;refine Cj (wq) (.run 4 0 0 (.call 4 31 (.run 5 5 31 (.done)))) fun Bv QR Ae Ah hS=>?_
     iterate 4 refine Aj ?_
     refine BP ?_;clear hS;intro K hK AQ;go_simp;refine (HF.out _ AQ.out).mono ?_;rintro e Bq ⟨⟨ii,rfl,hi8,hi9,hc9⟩,Bf⟩;have hS:Since wq Bq:=bT (w:=wq) AQ.out Bf;clear AQ;refine hK.out _ _ hS (fun _=>?_);clear hK K
     try simp only [pu]
     iterate 5 refine Aj ?_
     refine Ce ?_;clear hS Ah Ae;intro hB;go_wp2_with fail;exact bodyPost_ret (results_tmp3 rfl _ _ _) rfl ⟨by rw [hr.out];rfl,bT Za.out hB⟩
theorem am0 (v:Value) (p:Pl) (at_:Pt) (w:World) (h:Cb w v p):Calls Tryz.prog 24 #[v,BD at_] w fun e w'=>e=.returned (qK (NV p at_))/\AP w w':=by
 by_cases hv:Eu p=0
 · cases hk:Ik at_ with
  | true=>exact axC v p at_ w h hv hk
  | false =>
   have e:NV p at_=(0,0,2):=by
    unfold NV;rw [AX (by simpa using hv),AZ hk]
   rw [e];exact axB v p at_ w h hv hk
 ·have e:NV p at_=(0,0,Eu p):=by
   unfold NV;rw [AZ hv]
  rw [e];exact axA v p at_ w h hv
set_option linter.unusedSectionVars false
def VE (p:Pl) (v:Pt):Int×Int:=match p.nodes.find? (fun n=>decide (n.pt=v)) with
 | some n=>(1,n.id)
 | none=>match p.AU.find? (U4 p v) with
  | some a=>(2,a.id)
  | none=>(0,KH p (I4 p v))
theorem axG {p:Pl} {v:Pt} (h0:Eu p=0) (h1:Ik v=true):NV p v=((VE p v).1,(VE p v).2,0):=by
 unfold NV VE;rw [AX gK,AX (by simp [h1])]
 cases p.nodes.find? (fun n=>decide (n.pt=v)) with
 | some n=>rfl
 | none =>
  simp only
  cases p.AU.find? (U4 p v)<;>rfl
theorem am1:∀ (l:List Pt) (x:Bx),let b:=l.foldl OQ x;
  (b.x0<=x.x0/\b.y0<=x.y0/\x.x1<=b.x1/\x.y1<=b.y1)/\(∀ v∈l,b.x0<=v.x/\b.y0<=v.y/\v.x<=b.x1/\v.y<=b.y1) /\
  (b.x0=x.x0\/∃ v∈l,b.x0=v.x)/\(b.y0=x.y0\/∃ v∈l,b.y0=v.y)/\(b.x1=x.x1\/∃ v∈l,b.x1=v.x)/\(b.y1=x.y1\/∃ v∈l,b.y1=v.y)
 | [],x=>⟨⟨L8 _,L8 _,L8 _,L8 _⟩,fun v hv=>(by cases hv),.inl rfl,.inl rfl,.inl rfl,.inl rfl⟩
 | v::l,x=>by
  have ih:=am1 l (OQ x v);simp only [U5];generalize l.foldl OQ (OQ x v)=b at *;obtain ⟨i1,i2,i3,i4,i5,i6⟩:=ih;unfold OQ at i1 i3 i4 i5 i6;simp only at i1 i3 i4 i5 i6;have j1:b.x0<=x.x0/\b.x0<=v.x:=by clear i2 i3 i4 i5 i6;omega
  have j2:b.y0<=x.y0/\b.y0<=v.y:=by clear i2 i3 i4 i5 i6;omega
  have j3:x.x1<=b.x1/\v.x<=b.x1:=by clear i2 i3 i4 i5 i6;omega
  have j4:x.y1<=b.y1/\v.y<=b.y1:=by clear i2 i3 i4 i5 i6;omega
  refine ⟨⟨j1.1,j2.1,j3.1,j4.1⟩,fun u hu=>?_,?_,?_,?_,?_⟩
  ·rcases EJ.1 hu with rfl | hu
   · exact ⟨j1.2,j2.2,j3.2,j4.2⟩
   · exact i2 u hu
  ·clear i2 i4 i5 i6;rcases i3 with e | ⟨u,hu,e⟩
   ·rcases Zj x.x0 v.x with c | c
    · exact .inl AB
    · exact .inr ⟨v,Ea,AB⟩
   · exact .inr ⟨u,Gn _ hu,e⟩
  ·clear i2 i3 i5 i6;rcases i4 with e | ⟨u,hu,e⟩
   ·rcases Zj x.y0 v.y with c | c
    · exact .inl AB
    · exact .inr ⟨v,Ea,AB⟩
   · exact .inr ⟨u,Gn _ hu,e⟩
  ·clear i2 i3 i4 i6;rcases i5 with e | ⟨u,hu,e⟩
   ·rcases Zj x.x1 v.x with c | c
    · exact .inr ⟨v,Ea,AB⟩
    · exact .inl AB
   · exact .inr ⟨u,Gn _ hu,e⟩
  ·clear i2 i3 i4 i5;rcases i6 with e | ⟨u,hu,e⟩
   ·rcases Zj x.y1 v.y with c | c
    · exact .inr ⟨v,Ea,AB⟩
    · exact .inl AB
   · exact .inr ⟨u,Gn _ hu,e⟩
structure axH (b:Bx) (l:List Pt):Prop where
 all:∀ v∈l,b.x0<=v.x/\b.y0<=v.y/\v.x<=b.x1/\v.y<=b.y1
 x0:∃ v∈l,b.x0=v.x
 y0:∃ v∈l,b.y0=v.y
 x1:∃ v∈l,b.x1=v.x
 y1:∃ v∈l,b.y1=v.y
theorem axI {l:List Pt} (h:l≠[]):axH (Ou l) l:=by
 cases l with
 | nil=>exact absurd rfl h
 | cons u l =>
  obtain ⟨-,i2,i3,i4,i5,i6⟩:=am1 (u::l) ⟨u.x,u.y,u.x,u.y⟩;exact ⟨i2,i3.elim (fun e=>⟨u,Ea,e⟩) id,i4.elim (fun e=>⟨u,Ea,e⟩) id,i5.elim (fun e=>⟨u,Ea,e⟩) id,i6.elim (fun e=>⟨u,Ea,e⟩) id⟩
theorem axJ {P:List Pt} (h:2<=P.length) (v:Pt):v∈Kv (Ei P)↔v∈P:=by
 unfold Kv;rw [GY];constructor
 ·rintro ⟨q,hq,hv⟩;unfold Ei at hq;obtain ⟨k,hk,rfl⟩:=EM.1 hq;rw [F5] at hk;have g:∀ j,j<P.length->P.getD j AY∈P:=fun j hj=>by
   rw [Fj,DK hj];exact BH hj
  simp only [EJ,Xw,or_false] at hv;rcases hv with rfl | rfl
  · exact g k AB
  · exact g (k+1) AB
 ·intro hv;obtain ⟨j,hj,rfl⟩:=Dp.1 hv;have g:∀ j (hj:j<P.length),P.getD j AY=P[j]:=fun j hj=>by rw [Fj,DK hj];rfl
  by_cases e:j+1<P.length
  ·refine ⟨(P.getD j AY,P.getD (j+1) AY),?_,by show P[j]∈[P.getD j AY,P.getD (j+1) AY];rw [g j hj];exact Ea⟩;unfold Ei;exact EM.2 ⟨j,F5.2 AB,rfl⟩
  ·refine ⟨(P.getD (j-1) AY,P.getD (j-1+1) AY),?_,?_⟩
   ·unfold Ei;exact EM.2 ⟨j-1,F5.2 AB,rfl⟩
   ·have:j-1+1=j:=by omega
    show P[j]∈[P.getD (j-1) AY,P.getD (j-1+1) AY]
    rw [this,g j hj];exact Gn _ Ea
theorem aek (p:Pl) (d:Int) (v:Pt):v∈Ky p d↔v∈GV p d:=by
 unfold Ky;split
 · exact Iff.rfl
 · exact aAJ
section
variable {p:Pl} (h:Valid p)
include h
theorem Valid.am2 {X:List Int} (hX:∀ d∈X,d∈BU p) (v:Pt):v∈Kv (DV p X)↔v∈X.flatMap (Ky p):=by
 have e:v∈Kv (DV p X)↔∃ d∈X,v∈Kv (Ei (GV p d)):=by
  unfold Kv DV;rw [abo,GY]
 rw [e,GY];refine exists_congr fun d=>and_congr_right fun hd=>?_;obtain ⟨a,ha,-,hp⟩:=h.Tq (hX d hd);have hl:=Eh p a;rw [axJ (by rw [hp];omega),aek]
omit h in
theorem am3 {v:Pt} {X:List Int} (e:I4 p v=some X):X∈Bj p:=(aB9 _ _ e).1
omit h in
theorem afa {f:Int} {X:List Int} (e:kQ p f=some X):X∈Bj p/\KH p (some X)=f:=⟨VG e,eq_of_beq (show (KH p (some X) == f)=true from List.find?_some (p:=fun X=>KH p (some X) == f) e)⟩
end
section
variable {p:Pl} (h:Valid p)
include h
end
set_option linter.unusedSectionVars false
section
variable (p:Pl)
end
def axK (p q:Pl):Prop:=I5 p=I5 q
section
variable {p q:Pl} (h:axK p q)
include h
end
set_option linter.unusedSectionVars false
theorem Valid.azn {p:Pl} (h:Valid p) {d:Int} (hd:d∈BU p):∃ b,(b=none\/∃ X∈Bj p,b=some X)/\∃ c∈Jq p b,d∈c:=by
 obtain ⟨c,hc,hdc,-⟩:=h.oz hd;by_cases hp:0<F8 p c
 · exact ⟨some c,.inr ⟨c,Nl.2 ⟨hc,hp⟩,rfl⟩,c,Ea,hdc⟩
 ·refine ⟨I4 p (TB p c),?_,c,Gn _ (QF.2 ⟨iD.2 ⟨hc,hp⟩,Aw⟩),hdc⟩
  cases e:I4 p (TB p c) with
  | none=>exact .inl rfl
  | some X=>exact .inr ⟨X,am3 e,rfl⟩
section
variable {p:Pl} (h:Valid p) {i:Nat} (hi:i<p.AU.length) {right:Bool} {n:Int} (hn:n=0\/n∈p.faces)
include h hn
end
set_option linter.unusedSectionVars false
theorem am4 {α β:Type} [DecidableEq β] (g:α->β) (O:List α):∀ {fs:List β},fs.Nodup->(fs.flatMap fun f=>O.filter (fun X=>decide (g X=f))).Perm (O.filter (fun X=>decide (g X∈fs)))
 | [],_=>by simp
 | f::fs,h=>by
  obtain ⟨hf,hn⟩:=sN.1 h;rw [Ju];refine ((am4 g O hn).append_left _).trans ?_;have e1:O.filter (fun X=>decide (g X=f))=(O.filter (fun X=>decide (g X∈f::fs))).filter (fun X=>decide (g X=f)):=by
   rw [abD];congr 1
   funext X
   by_cases e:g X=f<;>simp [e]
  have e2:O.filter (fun X=>decide (g X∈fs))=(O.filter (fun X=>decide (g X∈f::fs))).filter (fun X=>!decide (g X=f)):=by
   rw [abD];congr 1
   funext X
   by_cases e:g X=f
   · simp [e,hf]
   · simp [e]
  rw [e1,e2];exact abl _ _
theorem axL {α β:Type} [DecidableEq β] (g:α->β) (O:List α) {fs:List β} (hn:fs.Nodup) (ha:∀ x∈O,g x∈fs):(fs.flatMap fun f=>O.filter (fun X=>decide (g X=f))).Perm O:=by
 refine (am4 g O hn).trans ?_
 have:O.filter (fun X=>decide (g X∈fs))=O:=by
  rw [List.filter_eq_self];intro x hx;rw [E8];exact ha x hx
 rw [this]
theorem am5 {α β:Type} (f g:α->List β):∀ l:List α,(l.flatMap fun a=>f a++g a).Perm (l.flatMap f++l.flatMap g)
 | []=>by simp
 | a::l=>by
  simp only [Ju];refine ((am5 f g l).append_left _).trans ?_;rw [JR,JR];refine List.Perm.append_left _ ?_;rw [<- JR,<- JR];exact List.Perm.append_right _ abj
def zM (r:Rg):List Int:=r.out++r.inn.flatten
section
variable {p:Pl} (h:Valid p)
include h
theorem Valid.axM:(Ji p).Nodup:=by
 unfold Ji;refine sN.2 ⟨fun hm=>?_,?_⟩
 ·obtain ⟨X,-,e⟩:=EM.1 hm
  cases e
 ·have hn:=h.aeD;unfold List.Nodup at hn ⊢;rw [IL];exact hn.imp (fun hne e=>hne (by injection e))
omit h in
theorem axN (v:Pt):I4 p v∈Ji p:=by
 unfold Ji
 cases e:I4 p v with
 | none=>exact Ea
 | some X=>exact Gn _ (Gs (am3 e))
theorem Valid.axO:(((Ji p).map (Rh p)).flatMap zM).Perm (BU p):=by
 rw [P9];have e1:((Ji p).flatMap fun b=>zM (Rh p b)).Perm ((Ji p).flatMap (fun b=>b.getD [])++(Ji p).flatMap fun b=>(aj p b).flatten):=am5 _ _ _;refine e1.trans ?_;have e2:(Ji p).flatMap (fun b=>b.getD [])=(Bj p).flatten:=by
  unfold Ji;rw [Ju,P9,abE];rfl
 have e3:((Ji p).flatMap fun b=>(aj p b).flatten).Perm (J8 p).flatten:=by
  have g:=axL (fun c=>I4 p (TB p c)) (J8 p) h.axM (fun c _=>axN _);have e4:((Ji p).flatMap fun b=>(aj p b).flatten)=((Ji p).flatMap fun f=>(J8 p).filter (fun X=>decide (I4 p (TB p X)=f))).flatten:=by
   rw [abE (L:=(Ji p).flatMap _),abo];congr 1
   funext b
   rw [abE];rfl
  rw [e4];exact g.flatten
 rw [e2];refine (e3.append_left _).trans ?_;rw [<- abB];refine List.Perm.trans ?_ h.ada;refine List.Perm.flatten ?_;unfold Bj J8;exact abl _ _
end
set_option linter.unusedSectionVars false
theorem am6 {α β:Type} (f:α->List β) {l:List α} {a:α} (h:a∈l):(f a).length<=(l.flatMap f).length:=by
 obtain ⟨s,t,rfl⟩:=List.append_of_mem h;simp only [KO,Ju,EC];omega
theorem lD {α β:Type} (f:α->List β) (h:∀ a,(f a).length<=1) (l:List α):(l.flatMap f).length<=l.length:=by
 have:=aAl l f 1 (fun a _=>h a)
 omega
theorem afb (y:Int) (q:Pt×Pt):(Q5 y q).length<=1:=by
 unfold Q5
 repeat' split
 all_goals simp
theorem am7 (y:Int) (q:Pt×Pt):(IX y q).length<=1:=by
 unfold IX;split<;>simp
theorem am8 (ns:List Nd) (y:Int) (i:Int):(Q7 ns y i).length<=1:=by
 unfold Q7;split
 · split<;>simp
 · simp
section
variable {p:Pl} (h:Valid p)
include h
theorem Valid.axP {b:Option (List Int)} (hb:b∈Ji p):(Jq p b).flatten.length<=512:=by
 have hp:=h.axO.length_eq;have h1:=am6 zM (Gs (f:=Rh p) hb);have h2:zM (Rh p b)=(Jq p b).flatten:=by
  unfold zM Jq;rw [List.flatten_cons];rfl
 rw [h2] at h1;have h3:(BU p).length=2*p.AU.length:=by unfold BU;simp;omega
 have h4:=(lu h.lim).2.2.1;omega
theorem Valid.axQ {X:List Int} (hX:∀ d∈X,d∈BU p):(DV p X).length<=X.length*65:=by
 unfold DV;refine aAl X _ 65 fun d hd=>?_;obtain ⟨a,ha,-,e⟩:=h.Tq (hX d hd);have h1:=Eh p a;have h2:=h.Sv ha;rw [e];unfold Ei;rw [Cm,Qj];omega
omit h in
theorem axR (b:Option (List Int)):Gz p b=DV p (Jq p b).flatten:=by
 unfold Gz DV;rw [abE,abo];rfl
theorem Valid.am9 {b:Option (List Int)} (hb:b∈Ji p) {c:List Int} (hc:c∈Jq p b):∀ d∈c,d∈BU p:=fun d hd=>by
 unfold Jq at hc;rcases EJ.1 hc with e | hc
 ·unfold Ji at hb;rcases EJ.1 hb with rfl | hb
  · rw [e] at hd;cases hd
  ·obtain ⟨X,hX,rfl⟩:=EM.1 hb;have e':c=X:=e;subst e';exact (h.Gy (Nl.1 hX).1).2 d hd
 · exact (h.Gy (iD.1 (QF.1 hc).1).1).2 d hd
theorem Valid.amA {b:Option (List Int)} (hb:b∈Ji p):(Gz p b).length<=33280:=by
 rw [axR];have h1:=h.axP hb;have h2:=h.axQ (X:=(Jq p b).flatten) (fun d hd=>by
  obtain ⟨c,hc,hd⟩:=aAI.1 hd;exact h.am9 hb hc d hd)
 omega
theorem Valid.axS (b:Option (List Int)):(ak p b).length<=256:=by
 unfold ak;rw [Cm];have:=LY (fun n=>decide (Na p.AU n.id=0/\I4 p n.pt=b)) p.nodes
 have:=h.bW
 omega
end
def WC (p:Pl) (C:List (List Int)) (k:Nat):List (Pt×Pt):=(C.take k).flatMap (DV p)
theorem awd (p:Pl) {C:List (List Int)} {k:Nat} (hk:k<C.length):WC p C (k+1)=WC p C k++DV p C[k]:=by
 unfold WC;rw [En hk,KO];simp
theorem awe (p:Pl) (C:List (List Int)) (k:Nat):(WC p C k).length<=(C.flatMap (DV p)).length:=by
 have e:C.flatMap (DV p)=WC p C k++(C.drop k).flatMap (DV p):=by
  unfold WC;rw [<- KO,Zd]
 rw [e,EC];omega
theorem foldl_snoc {α:Type}:∀ (l s:List α),l.foldl (fun s q=>s++[q]) s=s++l
 | [],s=>(IQ s).symm
 | q::l,s=>by rw [U5,foldl_snoc l];simp
theorem alY:∀ (m:Nat) (l:List Int) (h:2*m+1<l.length),Jj (l.take (2*(m+1)))=Jj (l.take (2*m))++J9 (l[2*m]'(by omega)) l[2*m+1]
 | 0,a::b::l,_=>by
  show Jj [a,b]=Jj []++J9 a b
  unfold Jj Jj;simp
 | m+1,a::b::l,h=>by
  simp only [I9] at h;have ih:=alY m l AB;have e1:(a::b::l).take (2*(m+1+1))=a::b::l.take (2*(m+1)):=by rw [show 2*(m+1+1)=2*(m+1)+1+1 by omega];rfl
  have e2:(a::b::l).take (2*(m+1))=a::b::l.take (2*m):=by rw [show 2*(m+1)=2*m+1+1 by omega];rfl
  rw [e1,e2,Jj,Jj,ih,JR];rfl
theorem alZ:∀ (m:Nat) (l:List Int),2*m<=l.length->l.length<=2*m+1->Jj (l.take (2*m))=Jj l
 | 0,l,_,h=>by
  match l,h with
  | [],_=>rfl
  | [a],_=>rfl
 | m+1,[],h,_=>by simp at h
 | m+1,[a],h,_=>by simp at h;omega
 | m+1,a::b::l,h1,h2=>by
  simp only [I9] at h1 h2;have e2:(a::b::l).take (2*(m+1))=a::b::l.take (2*m):=by rw [show 2*(m+1)=2*m+1+1 by omega];rfl
  rw [e2,Jj,Jj,alZ m l AB AB]
theorem ala:∀ (n:Nat) (l:List Int),l.length<=n->(Jj l).length<=l.length
 | _,[],_=>by unfold Jj;simp
 | _,[a],_=>by unfold Jj;simp
 | n+1,a::b::l,h=>by
  simp only [I9] at h;have ih:=ala n l AB;rw [Jj,EC];have:(J9 a b).length<=1:=by unfold J9;split<;>simp
  simp only [I9];omega
 | 0,a::b::l,h=>by simp at h
theorem awf (bs:List Rn):OO (Pn []) bs=[]:=rfl
theorem awg {l:List Rn} {k:Nat} (hk:k<l.length):aT (l.take (k+1))=aeI (aT (l.take k)) l[k]:=by
 unfold aT;rw [En hk,O9];rfl
theorem awh {α:Type} {g:Nat->Option α} {N D:Nat} {v:α} (h:∀ i,i<D->g i=none) (hv:g D=some v) (hD:D<N):(List.range N).findSome? g=some v:=by
 have e:List.range N=List.range D++D::(List.range N).drop (D+1):=by
  have h1:D<(List.range N).length:=by rw [Qj];exact hD
  have h2:(List.range N).take D=List.range D:=by rw [List.take_range];congr 1;omega
  have h3:(List.range N)[D]=D:=List.getElem_range _;have:=(Zd D (List.range N)).symm
  rw [Qk h1,h2,h3] at this;exact this
 rw [e,List.findSome?_append,List.findSome?_cons,hv];have:(List.range D).findSome? g=none:=List.findSome?_eq_none_iff.2 fun i hi=>h i (F5.1 hi)
 rw [this];rfl
theorem awi {α:Type} {g:Nat->Option α} {N:Nat} (h:∀ i,i<N->g i=none):(List.range N).findSome? g=none:=List.findSome?_eq_none_iff.2 fun i hi=>h i (F5.1 hi)
theorem zN (p:Pl) (b:Option (List Int)) {y0 y1 y:Int} (h:y<y0\/y1<y):midRow p b y0 y1 y=none:=by unfold midRow;rw [AZ h]
theorem awj (p:Pl) (b:Option (List Int)) {y0 y1 y:Int} (h:¬ (y<y0\/y1<y)):midRow p b y0 y1 y=((aT (Uu p b y)).2).map fun x=>⟨x,y⟩:=by unfold midRow;rw [AX h]
theorem awk (p:Pl) (b:Option (List Int)) {y0 y1:Int} {D:Nat} (h:∀ i,i<D->midD p b y0 y1 ((y0+y1) / 2) i=none) (h1:y1<(y0+y1) / 2+D) (h2:(y0+y1) / 2-D<y0):aBk p b y0 y1=none:=by
 refine awi fun i hi=>?_;by_cases c:i<D
 · exact h i c
 ·unfold midD;rw [zN p b (.inr AB),zN p b (.inl AB)];rfl
theorem awl (p:Pl) (b:Option (List Int)) {y0 y1:Int} {D:Nat} {v:Pt} (h:∀ i,i<D->midD p b y0 y1 ((y0+y1) / 2) i=none) (hv:midD p b y0 y1 ((y0+y1) / 2) D=some v):aBk p b y0 y1=some v:=by
 refine awh h hv ?_;have:¬ (y1<(y0+y1) / 2+D/\(y0+y1) / 2-D<y0):=fun c=>by
  unfold midD at hv;rw [zN p b (.inr c.1),zN p b (.inl c.2)] at hv
  cases hv
 omega
