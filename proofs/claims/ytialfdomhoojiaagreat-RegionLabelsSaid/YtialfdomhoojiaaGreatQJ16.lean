import Derived.Test.YtialfdomhoojiaaGreatQJ15
set_option linter.unusedSimpArgs false
set_option linter.unusedVariables false
set_option maxRecDepth 100000
set_option maxHeartbeats 8000000
namespace Go.Proofs.YtialfdomhoojiaaGreat
open Go.RowKit
theorem as9 (v:Value) (l:List Pt) (w:World) (h:Dv w v l) :
  Calls Tryz.prog 76 #[v] w fun e w'=>e=.returned (.bool (EN l))/\NY w w':=by
 obtain ⟨A,c,rfl,hn,hc,hR⟩:=h;unfold maxLen at hc;go_enter Tryz.func76,Tryz.ntmps76;go_wp2_with fail;go_loopw [7] (fun i wr=>∃ k:Nat,k<=l.length/\i=.int .i64 k/\NY w wr/\∀ j (hj:j<l.length),j<k->C9 l[j]=true) (fun i _=>l.length-(intOf i).toNat)
 case atStart => exact ⟨0,Bv _,rfl,⟨Below.refl _ _,dR w⟩,fun j _ h=>by omega⟩
 case round =>
  obtain ⟨k,hk,rfl,hb,hno⟩:=hrel;have Hb:=AA hb.1;have Hd:=AA hb.2;have Hno:=AA hno;have hs:=hb.1.size;clear hb hno;by_cases hlt:k<l.length
  ·obtain ⟨b,o,rfl,hlb,c0,c1⟩:=(hR.mono Hb.out).pt hlt;have HR:=AA hR;clear hR;by_cases hnr:C9 l[k]=true
   ·have Hn:=AA hnr;obtain ⟨n1,n2,n3,n4⟩:=(Qr _).1 hnr;clear hnr;go_wp2;go_roundw
    case rel => exact ⟨k+1,AB,BJ,⟨Hb.out.alloc hs _,dA Hd.out _⟩,all_succ (p:=fun x=>C9 x=true) Hno.out hlt Hn.out⟩
    case measure => exact BL
   ·have hn':C9 l[k]=false:=by simpa using hnr
    have Hf:=AA (acO l k hlt hn');clear hn';have uT:=AA hnr;clear hnr;go_wp2
    all_goals first
     | (go_ret;exact ⟨CW Hf.out.symm,Hb.out.alloc hs _,dA Hd.out _⟩)
     | (exfalso;exact uT.out ((Qr _).2 ⟨AB,AB,AB,AB⟩))
  ·go_wp2;go_ret;exact ⟨CW (acP l fun j hj=>Hno.out j hj AB).symm,Hb.out,Hd.out⟩
theorem asA (a b c:Pt) (w:World) (ha:lim a) (hb:lim b) (hc:lim c) :
  Calls Tryz.prog 77 #[BA a,BA b,BA c] w fun e w'=>e=.returned (.int .i64 (tw a b c))/\NY w w':=by
 obtain ⟨a1,a2,a3,a4⟩:=ha;obtain ⟨b1,b2,b3,b4⟩:=hb;obtain ⟨c1,c2,c3,c4⟩:=hc;obtain ⟨m1,m2⟩:=Qs (b.x-a.x) (c.y-a.y) 4194304 AB AB AB AB;obtain ⟨m3,m4⟩:=Qs (b.y-a.y) (c.x-a.x) 4194304 AB AB AB AB;simp only [Int.reduceMul,Int.reduceNeg] at m1 m2 m3 m4;unfold BA;go_enter Tryz.func77,Tryz.ntmps77;go_wp2;go_ret;exact ⟨Df rfl,(((Below.refl _ _).alloc (Dc _) _).alloc Ak _).alloc DT _,dA (dA (dA (dR w) _) _) _⟩
theorem aiZ (o p:Pt) (w:World):Calls Tryz.prog 235 #[BA o,BA p] w fun e w'=>e=.returned (.bool (WS o p))/\NY w w':=by
 unfold BA WS;by_cases h1:p.y<o.y
 ·go_enter Tryz.func235,Tryz.ntmps235;go_wp2;go_ret;exact ⟨CW (by simp [h1]),bA (bA (bR w) _) _,dA (dA (dR w) _) _⟩
 ·by_cases h2:p.y=o.y
  ·have h2':(p.y == o.y)=true:=by simpa using h2
   have H2:=AA h2;clear h2;by_cases h3:p.x<o.x
   ·go_enter Tryz.func235,Tryz.ntmps235;go_wp2;go_ret;exact ⟨CW (by simp [h1,H2.out,h3]),bA (bA (bR w) _) _,dA (dA (dR w) _) _⟩
   ·go_enter Tryz.func235,Tryz.ntmps235;go_wp2;go_ret;exact ⟨CW (by simp [h1,H2.out,h3]),bA (bA (bR w) _) _,dA (dA (dR w) _) _⟩
  ·have h2':(p.y == o.y)=false:=by simpa using h2
   have H2:=AA h2;clear h2;go_enter Tryz.func235,Tryz.ntmps235;go_wp2;go_ret;exact ⟨CW (by simp [h1,H2.out]),bA (bA (bR w) _) _,dA (dA (dR w) _) _⟩
theorem aeD {p:Pt} (h:C9 p=true):lim p:=(Qr p).1 h
theorem Vy {a b c:Pt} (h:EN [a,b,c]=true):lim a/\lim b/\lim c:=by
 simp only [EN,aAF,aam,aan,Ei] at h;exact ⟨aeD h.1,aeD h.2.1,aeD h.2.2⟩
theorem aia (o a b:Pt) (w:World):Calls Tryz.prog 177 #[BA o,BA a,BA b] w fun e w'=>e=.returned (.bool (SH o a b))/\NY w w':=by
 have TN:=fun (v:Value) W=>as9 v [o,a,b] W;have jM:=fun W=>aiZ o a W;have jO:=fun W=>aiZ o b W;have TT:=fun (h:EN [o,a,b]=true) W=>asA o a b W (Vy h).1 (Vy h).2.1 (Vy h).2.2;have E1:=UF a o;have E2:=UF b o;obtain ⟨r,hr⟩:=BN (SH o a b);rw [hr];unfold SH at hr;unfold BA at jM jO TT ⊢;have HN:=AA TN;have H1:=AA jM;have H2:=AA jO;have HT:=AA TT;clear TN jM jO TT;generalize hz:EN [o,a,b]=z at *;generalize decide (a=o)=z1 at *;generalize decide (b=o)=z2 at *;generalize hl1:WS o a=l1 at *;generalize hl2:WS o b=l2 at *;generalize hq:decide (0<tw o a b)=q at *;have Hr:=AA hr;have Hq:=AA hq;have Hz:=AA hz;clear hr hq hz hl1 hl2;go_enter Tryz.func177,Tryz.ntmps177;go_wp2_with fail;have Vz:Hid (Dv ((((w.alloc (.cells #[.int .i64 o.x,.int .i64 o.y] 39)).alloc (.cells #[.int .i64 a.x,.int .i64 a.y] 39)).alloc (.cells #[.int .i64 b.x,.int .i64 b.y] 39)).alloc (.cells #[.int .i64 o.x,.int .i64 o.y,.int .i64 a.x,.int .i64 a.y,.int .i64 b.x,.int .i64 b.y] 39)) (.slice (some ⟨w.heap.size+1+1+1,0,none⟩) 3 3) [o,a,b]):=AA (Dv.aB (AO.made Ak _ _));refine (HN.out _ _ Vz.out).mono ?_;rintro e w1 ⟨rfl,hb1,hd1⟩;have B1:=AA (bT (bA (bA (bA (bA (bR w) _) _) _) _) hb1);have D1:=AA (dT (dA (dA (dA (dA (dR w) _) _) _) _) hd1);have Ej:=AA (show AO w1 w.heap.size 39 #[.int .i64 o.x,.int .i64 o.y] from ((((AO.made rfl _ _).alloc _).alloc _).alloc _).keep hb1);have D8:=AA (show AO w1 (w.heap.size+1) 39 #[.int .i64 a.x,.int .i64 a.y] from (((AO.made Ak _ _).alloc _).alloc _).keep hb1);have DI:=AA (show AO w1 (w.heap.size+1+1) 39 #[.int .i64 b.x,.int .i64 b.y] from ((AO.made Ak _ _).alloc _).keep hb1);clear hb1 hd1 Vz HN;have X3:=Ej.out;have X4:=D8.out;have X5:=DI.out;obtain ⟨Dk,EJ,ET,-,-⟩:=X3.BQ;obtain ⟨BZ,Bl,CQ,-,-⟩:=X4.BQ;obtain ⟨CJ,CO,CS,-,-⟩:=X5.BQ
 cases z
 case false =>
  go_wp2;go_ret;exact ⟨CW YP,B1.out,D1.out⟩
 cases z1
 case true =>
  go_wp2;go_ret;exact ⟨CW YP,B1.out,D1.out⟩
 cases z2
 case true =>
  go_wp2;go_ret;exact ⟨CW YP,B1.out,D1.out⟩
 have hr:=Hr.out;simp only [lY,Bool.not_false] at hr;have HT2:=AA (HT.out rfl);clear HT Hr Hz;go_upto_region 3 with fail;refine DJ (w1) (.take 0 1 (.take 1 3 (.take 3 11 (.take 4 27 (.call 2 31 (.call 5 63 (.take 6 127 (.done)))))))) fun CU QR Ae Ah hS=>?_
 iterate 4 refine Aj ?_
 refine Bj ?_;clear hS;intro K hK AQ;go_simp;refine (H1.out _).mono ?_;rintro e CX ⟨rfl,CV,aib⟩;have hS:Since w1 CX:=bT (w:=w1) AQ.out CV;clear AQ;refine hK.out _ _ hS (fun _=>?_);clear hK K
 try simp only [pu]
 refine Bj ?_;clear hS;intro K hK AQ;go_simp;refine (H2.out _).mono ?_;rintro e wr2 ⟨rfl,Fp,aic⟩;have hS:Since w1 wr2:=bT (w:=w1) AQ.out Fp;clear AQ;refine hK.out _ _ hS (fun _=>?_);clear hK K
 try simp only [pu]
 refine Aj ?_;refine DF ?_;clear hS Ah Ae;intro hB;have B2:=AA (bT B1.out hB);have D2:=AA (dT (dT (dD D1.out) aib) aic);replace Ej:=AA (Ej.out.keep hB);replace D8:=AA (D8.out.keep hB);replace DI:=AA (DI.out.keep hB);clear hB aib aic X3 X4 X5 Dk EJ ET BZ Bl CQ CJ CO CS;have X3:=Ej.out;have X4:=D8.out;have X5:=DI.out
 try clear Dk EJ ET
 obtain ⟨Dk,EJ,ET,-,-⟩:=X3.BQ
 try clear BZ Bl CQ
 obtain ⟨BZ,Bl,CQ,-,-⟩:=X4.BQ
 try clear CJ CO CS
 obtain ⟨CJ,CO,CS,-,-⟩:=X5.BQ;by_cases hl:l1=l2
 ·subst hl;rw [AZ rfl] at hr;have Hr:=AA hr;clear hr
  cases l1
  all_goals
   go_wp2_with fail;refine (HT2.out _).mono ?_;rintro e w3 ⟨rfl,hb3,hd3⟩;have B3:=AA (bT B2.out hb3);have D3:=AA (dT D2.out hd3);clear hb3 hd3;go_wp2;go_ret;exact ⟨CW (by rw [<- Hr.out,<- Hq.out]),B3.out,D3.out⟩
 ·rw [AX hl] at hr;have Hr:=AA hr;have hl2:l2 = !l1:=by cases l1<;>cases l2<;>simp_all
  clear hl hr;subst hl2
  cases l1
  all_goals
   go_wp2_with fail;refine (H2.out _).mono ?_;rintro e w3 ⟨rfl,hb3,hd3⟩;have B3:=AA (bT B2.out hb3);have D3:=AA (dT D2.out hd3);clear hb3 hd3;go_wp2;go_ret;exact ⟨CW Hr.out,B3.out,D3.out⟩
theorem aie (o a:Pt) (w:World) (ho:lim o) (ha:lim a):Calls Tryz.prog 292 #[BA o,BA a] w fun e w'=>e=.returned (.int .i64 (Yv o a))/\AU w w':=by
 obtain ⟨o1,o2,o3,o4⟩:=ho;obtain ⟨a1,a2,a3,a4⟩:=ha;have k1:IntKind.i64.wrap (a.x-o.x)=a.x-o.x:=D6 _ AB;have k2:IntKind.i64.wrap (a.y-o.y)=a.y-o.y:=D6 _ AB;obtain ⟨q,hq⟩:=BN (Yv o a);rw [hq];have Hq:=AA hq;unfold BA;clear o1 o2 o3 o4 a1 a2 a3 a4 hq;go_enter Tryz.func292,Tryz.ntmps292;go_upto_region 1 with fail;obtain ⟨W,hW⟩:=BR ((w.alloc (.cells #[.int .i64 o.x,.int .i64 o.y] 39)).alloc (.cells #[.int .i64 a.x,.int .i64 a.y] 39));have BW:AU w W:=by rw [hW];exact bA (bA (bR w) _) _
 have X2:AO W w.heap.size 39 #[.int .i64 o.x,.int .i64 o.y]:=by rw [hW];exact (AO.made rfl _ _).alloc _
 have X3:AO W (w.heap.size+1) 39 #[.int .i64 a.x,.int .i64 a.y]:=by rw [hW];exact AO.made Ak _ _
 rw [<- hW];clear hW;obtain ⟨BU,BX,Bg,-,-⟩:=X2.BQ;obtain ⟨Dk,EJ,ET,-,-⟩:=X3.BQ;refine DJ (W) (.run 12 0 0 (.done)) fun CU QR Ae Ah hS=>?_
 iterate 12 refine Aj ?_
 refine DF ?_;clear hS Ah Ae;intro hB;have B1:=AA (bT BW hB);clear hB BW X2 X3 BU BX Bg Dk EJ ET;have hqq:=Hq.out;unfold Yv at hqq;generalize a.x-o.x=x at *;generalize a.y-o.y=y at *;replace Hq:=AA hqq;clear hqq;by_cases h1:0<x
 ·by_cases h2:0<=y
  ·go_wp2;go_ret;exact ⟨Df (by rw [<- Hq.out,AZ AB]),B1.out⟩
  ·have h3:¬ x<=0:=by omega
   have h4:¬ x<0:=by omega
   go_wp2;go_ret;exact ⟨Df (by rw [<- Hq.out,AX AB,AX AB,AX AB]),B1.out⟩
 ·have h3:x<=0:=by omega
  by_cases h2:0<y
  ·go_wp2;go_ret;exact ⟨Df (by rw [<- Hq.out,AX AB,AZ AB]),B1.out⟩
  ·by_cases h4:x<0
   ·go_wp2;go_ret;exact ⟨Df (by rw [<- Hq.out,AX AB,AX AB,AZ AB]),B1.out⟩
   ·go_wp2;go_ret;exact ⟨Df (by rw [<- Hq.out,AX AB,AX AB,AX AB]),B1.out⟩
theorem asB (o a b:Pt) (w:World):Calls Tryz.prog 275 #[BA o,BA a,BA b] w fun e w'=>e=.returned (.bool (YV o a b))/\AU w w':=by
 have TN:=fun (v:Value) W=>tK v [o,a,b] W;have jM:=fun (h:EN [o,a,b]=true) W=>aie o a W (Vy h).1 (Vy h).2.1;have jO:=fun (h:EN [o,a,b]=true) W=>aie o b W (Vy h).1 (Vy h).2.2;have TT:=fun (h:EN [o,a,b]=true) W=>abv o a o b W (Vy h).1 (Vy h).2.1 (Vy h).1 (Vy h).2.2;have E1:=UF a o;have E2:=UF b o;obtain ⟨r,hr⟩:=BN (YV o a b);rw [hr];unfold YV at hr;unfold BA at jM jO TT ⊢;have HN:=AA TN;have H1:=AA jM;have H2:=AA jO;have HT:=AA TT;clear TN jM jO TT;generalize hz:EN [o,a,b]=z at *;generalize decide (a=o)=z1 at *;generalize decide (b=o)=z2 at *;generalize hl1:Yv o a=l1 at *;generalize hl2:Yv o b=l2 at *;generalize hq:BM o a o b=q at *;have Hr:=AA hr;clear hr hq hz hl1 hl2;go_enter Tryz.func275,Tryz.ntmps275;go_wp2_with fail;have Vz:Hid (Dv ((((w.alloc (.cells #[.int .i64 o.x,.int .i64 o.y] 39)).alloc (.cells #[.int .i64 a.x,.int .i64 a.y] 39)).alloc (.cells #[.int .i64 b.x,.int .i64 b.y] 39)).alloc (.cells #[.int .i64 o.x,.int .i64 o.y,.int .i64 a.x,.int .i64 a.y,.int .i64 b.x,.int .i64 b.y] 39)) (.slice (some ⟨w.heap.size+1+1+1,0,none⟩) 3 3) [o,a,b]):=AA (Dv.aB (AO.made Ak _ _));refine (HN.out _ _ Vz.out).mono ?_;rintro e w1 ⟨rfl,hb1⟩;have B1:=AA (bT (bA (bA (bA (bA (bR w) _) _) _) _) hb1);have Ej:=AA (show AO w1 w.heap.size 39 #[.int .i64 o.x,.int .i64 o.y] from ((((AO.made rfl _ _).alloc _).alloc _).alloc _).keep hb1);have D8:=AA (show AO w1 (w.heap.size+1) 39 #[.int .i64 a.x,.int .i64 a.y] from (((AO.made Ak _ _).alloc _).alloc _).keep hb1);have DI:=AA (show AO w1 (w.heap.size+1+1) 39 #[.int .i64 b.x,.int .i64 b.y] from ((AO.made Ak _ _).alloc _).keep hb1);clear hb1 Vz HN;have X3:=Ej.out;have X4:=D8.out;have X5:=DI.out;obtain ⟨Dk,EJ,ET,-,-⟩:=X3.BQ;obtain ⟨BZ,Bl,CQ,-,-⟩:=X4.BQ;obtain ⟨CJ,CO,CS,-,-⟩:=X5.BQ
 cases z
 case false =>
  go_wp2;go_ret;exact ⟨CW YP,B1.out⟩
 cases z1
 case true =>
  go_wp2;go_ret;exact ⟨CW YP,B1.out⟩
 cases z2
 case true =>
  go_wp2;go_ret;exact ⟨CW YP,B1.out⟩
 have hr:=Hr.out;simp only [lY,Bool.not_false] at hr;have HT2:=AA (HT.out rfl);have yK:=AA (H1.out rfl);have OO:=AA (H2.out rfl);clear HT Hr H1 H2;go_upto_region 3 with fail;refine DJ (w1) (.take 0 1 (.take 1 3 (.take 3 11 (.take 4 27 (.call 2 31 (.call 5 63 (.take 6 127 (.take 7 255 (.done))))))))) fun CU QR Ae Ah hS=>?_
 iterate 4 refine Aj ?_
 refine GL (yK.out _) ?_;clear hS;intro CX CV hS;refine GL (OO.out _) ?_;clear hS;intro wr2 Fp hS
 iterate 2 refine Aj ?_
 refine DF ?_;clear hS Ah Ae;intro hB;have B2:=AA (bT B1.out hB);replace Ej:=AA (Ej.out.keep hB);replace D8:=AA (D8.out.keep hB);replace DI:=AA (DI.out.keep hB);clear hB X3 X4 X5 Dk EJ ET BZ Bl CQ CJ CO CS;have X3:=Ej.out;have X4:=D8.out;have X5:=DI.out
 try clear Dk EJ ET
 obtain ⟨Dk,EJ,ET,-,-⟩:=X3.BQ
 try clear BZ Bl CQ
 obtain ⟨BZ,Bl,CQ,-,-⟩:=X4.BQ
 try clear CJ CO CS
 obtain ⟨CJ,CO,CS,-,-⟩:=X5.BQ;by_cases hlt:l1<l2
 ·rw [JO hlt] at hr;have Hr:=AA hr;clear hr;go_wp2;go_ret;exact ⟨CW YP,B2.out⟩
 ·rw [Gg hlt,Bool.false_or] at hr;by_cases hl:l1=l2
  ·have hl':(l1 == l2)=true:=by simpa using hl
   rw [JO hl,lY] at hr;have Hr:=AA hr;clear hl hr;go_wp2_with fail;refine (HT2.out _).mono ?_;rintro e w3 ⟨rfl,hb3⟩;have B3:=AA (bT B2.out hb3);clear hb3;go_wp2;go_ret;exact ⟨CW Hr.out,B3.out⟩
  ·have hl':(l1 == l2)=false:=by simpa using hl
   rw [Gg hl,Bool.false_and] at hr;have Hr:=AA hr;clear hl hr;go_wp2;go_ret;exact ⟨CW Hr.out,B2.out⟩
open Go.RowKit Go.Sort
theorem Own.shape {α:Type} {w:World} {base:Nat} {e:TypeId} {size:Nat} {f:α->List Value} {v:Value} {l:List α} (h:Own w base e size f v l):∃ A c,v=.slice A l.length c/\l.length<=c/\c<=maxLen:=by
 obtain ⟨A,c,rfl,h1,h2,-⟩:=Own.sl h;exact ⟨A,c,rfl,h1,h2⟩
structure jP (w:World) (B g4 g7 gm n:Nat) (dl:List Int) (f:Int->Pt) (v:Value):Prop where
 x4:AO w g4 24 #[v]
 own:Own w B 3 1 DR v dl
 x7:AO w g7 189 #[.map (some gm)]
 mp:JB w gm n f
 b4:B<=g4
 bm:B<=gm
theorem aeE {w:World} {gm n:Nat} {f:Int->Pt} (h:JB w gm n f) {g:Nat} {t:TypeId} {cs:Array Value} (hg:AO w g t cs):g≠gm:=by
 rintro rfl;obtain ⟨D,h1,-⟩:=h;obtain ⟨es,clock,h2,-⟩:=h1;unfold AO at hg;rw [hg] at h2
 cases h2
theorem aeF {w:World} {gm n:Nat} {f:Int->Pt} (h:JB w gm n f) {base:Nat} {e:TypeId} {size:Nat} {α:Type} {fe:α->List Value} {v:Value} {l:List α} (ho:Own w base e size fe v l):v.ownBlock≠some gm:=by
 rcases ho.2 with ⟨rfl,_⟩ | ⟨g,cap,cur,rfl,_,hh,_⟩
 · simp [Value.ownBlock]
 ·intro e';exact aeE h (cs:=cur) (g:=g) hh sZ
theorem asC (d:Int) (q:Pt) (B g4 g7 gm n:Nat) (dl:List Int) (f:Int->Pt) (v:Value) (w:World) (h:jP w B g4 g7 gm n dl f v) (hB:B<=w.heap.size) (hn:n<4294967296) (hl:dl.length<=1000000) (hd:En d) :
  Calls Tryz.prog 174 #[.int .i64 d,.agg #[.int .i64 q.x,.int .i64 q.y],.pointer (some ⟨g4,0,none⟩),.pointer (some ⟨g7,0,none⟩)] w fun e w'=>e=.returned (.tuple #[])/\(∃ v',jP w' B g4 g7 gm (n+1) (dl++[d]) (fun i=>if i=d then q else f i) v')/\Below B w w'/\∀ g t cs,AO w g t cs->g≠g4->g≠gm->v.ownBlock≠some g->AO w' g t cs:=by
 obtain ⟨x4,own,x7,mp,b4,bm⟩:=h;obtain ⟨A,c,rfl,-⟩:=Own.shape own;have D8:=AA x4;have HO:=AA own;have Ip:=AA x7;have HM:=AA mp;have n47:g4≠g7:=AO.Me x4 x7 Aw;have n4m:=aeE mp x4;have n7m:=aeE mp x7;have aCs:=Own.Dz own x4 Aw;have no7:=Own.Dz own x7 Aw;have yL:=aeF mp own;clear own mp;have oW:=AA hd;clear hd;have X4:=x4;have X7:=x7;clear x4 x7;obtain ⟨BZ,Bl,EG⟩:=X4.Fb;obtain ⟨Eb,Ec,-⟩:=X7.Fb;go_enter Tryz.func174,Tryz.ntmps174;go_upto_region 1 with fail;obtain ⟨W0,hW⟩:∃ W:World,W=w.alloc (.cells #[.int .i64 q.x,.int .i64 q.y] 39):=⟨_,rfl⟩;have hA0:AU w W0:=by rw [hW];exact bA (bR w) _
 have X5:AO W0 w.heap.size 39 #[.int .i64 q.x,.int .i64 q.y]:=by rw [hW];exact AO.made rfl _ _
 rw [<- hW];clear hW;replace X4:=X4.keep hA0;replace X7:=X7.keep hA0;have yM:=AA (HO.out.keep hA0);have iq:=AA (HM.out.keep hA0);have HA0:=AA hA0;have hlt4:g4<w.heap.size:=D8.out.lt;have hz0:=hA0.size;clear hA0 BZ Bl EG Eb Ec
 try clear BZ Bl
 try clear EG
 obtain ⟨BZ,Bl,EG⟩:=X4.Fb;obtain ⟨CJ,CO,CS,-,-⟩:=X5.BQ
 try clear Eb Ec
 obtain ⟨Eb,Ec,-⟩:=X7.Fb;have n54:w.heap.size≠g4:=by omega
 have n57:w.heap.size≠g7:=by have:=Ip.out.lt;omega
 have aeG:=HM.out.lt;go_upto_region 2 with
  (at_builtin
   refine FK _ rfl (.tmp 6) (.tmp 8) _ rfl (base:=B) JW Iz JR rfl (Own.alloc yM.out _) rfl (l2:=[d]) (Sl.lit (n:=1) (AO.made rfl _ _) rfl (DN AB)) DZ DZ DT ?_;intro v1 w1 ho1 hg1 XY;obtain ⟨A1,c1,hv1,-⟩:=Own.shape ho1;rw [show (dl++[d]).length=dl.length+1 by simp] at hv1;subst hv1;have Hg:=AA ho1;have hB1:Below B W0 w1:=Below.grown (Below.alloc (Below.refl _ _) AB _) hg1 DT (fun g hg=>(yM.out.lt g hg).1);have HB1:=AA hB1;have yN:some w.heap.size≠(Value.slice A dl.length c).ownBlock:=fun e=>by have:=(HO.out.lt _ e.symm).2;omega
   replace X4:=AO.grown (X4.alloc _) hg1 (fun e=>aCs e.symm);replace X5:=AO.grown (X5.alloc _) hg1 yN;replace X7:=AO.grown (X7.alloc _) hg1 (fun e=>no7 e.symm);have Jz:=AA ((iq.out.keep (bA (bR W0) _)).kept hg1 (fun e=>yL e.symm));have HK1:=AA (fun g t cs (h:AO w g t cs) (hne:(Value.slice A dl.length c).ownBlock≠some g)=>AO.grown ((h.keep HA0.out).alloc (.cells #[.int .i64 d] 3)) hg1 (fun e=>hne e.symm));clear ho1 hg1 XY hB1 BZ Bl EG CJ CO CS Eb Ec
   try clear BZ Bl
   try clear EG
   obtain ⟨BZ,Bl,EG⟩:=X4.Fb
   try clear CJ CO CS
   obtain ⟨CJ,CO,CS,-,-⟩:=X5.BQ
   try clear Eb Ec
   obtain ⟨Eb,Ec,-⟩:=X7.Fb
   )
 obtain ⟨W2,hW2⟩:∃ W:World,W=w1.setCell ⟨g4,0,none⟩ (.slice A1 (dl.length+1) c1):=⟨_,rfl⟩;have asD:=Own.Dz Hg.out X4 Aw;have Y4:AO W2 g4 24 #[.slice A1 (dl.length+1) c1]:=by rw [hW2];exact AO.aAZ X4
 have Y7:AO W2 g7 189 #[.map (some gm)]:=by rw [hW2];exact X7.far (fun e=>n47 e.symm) _
 have Y5:AO W2 w.heap.size 39 #[.int .i64 q.x,.int .i64 q.y]:=by rw [hW2];exact X5.far n54 _
 have YO:Own W2 B 3 1 DR (.slice A1 (dl.length+1) c1) (dl++[d]):=by rw [hW2];exact Hg.out.far asD _
 have YM:JB W2 gm n f:=by
  rw [hW2];exact Jz.out.kept (row:=some g4) ⟨rfl,rfl,rfl,Ak,fun i _ hne=>Below.heap_setCell w1 ⟨g4,0,none⟩ _ i (fun e=>hne Rt)⟩ (fun e=>n4m (Dq e).symm)
 have YB:Below B w W2:=by rw [hW2];exact (Below.trans (HA0.out.mono hB) HB1.out).setCell b4 _
 rw [<- hW2];clear X4 X5 X7 BZ Bl EG CJ CO CS Eb Ec;obtain ⟨w3,hr3,Q9,hg3⟩:=YM.upd hn d oW.out q;have Z4:=AA (AO.grown Y4 hg3 (fun e=>n4m (Dq e)));have Z7:=AA (AO.grown Y7 hg3 (fun e=>n7m (Dq e)));have ZO:=AA (Own.grown YO hg3 (fun g' hg' e=>aeF YM YO (by rw [hg',e])));have ZM:=AA Q9;have ZB:=AA (YB.grown hg3 (by have:=YB.size;omega) (fun g hg=>by have:=Dq hg;omega));have HK:=AA (show ∀ g t cs,AO w g t cs->g≠g4->g≠gm->(Value.slice A dl.length c).ownBlock≠some g->AO w3 g t cs from fun g t cs h h4 hm' ho=>by
  refine AO.grown ?_ hg3 (fun e=>hm' (Dq e));rw [hW2];exact (HK1.out g t cs h ho).far h4 _)
 unfold BA at hr3;clear Q9 hg3 YO YM YB Y4 hW2;obtain ⟨Y5l,Y5a,Y5b,-,-⟩:=Y5.BQ;obtain ⟨Y7l,Y7a,-⟩:=Y7.Fb;go_wp2_with fail;exact bodyPost_end (v:=.tuple #[]) (results_none rfl _ _ _) rfl ⟨rfl,⟨_,Z4.out,ZO.out,Z7.out,ZM.out,b4,bm⟩,ZB.out,HK.out⟩
def asE (z1 z2:Bool):Int:=if z1 then -1 else if z2 then 1 else 0
theorem asF (nd:Nd) (x y:Int) (g5 g7 gm n:Nat) (f:Int->Pt) (w:World) (h5:AO w g5 45 #[.int .i64 nd.id,.int .i64 nd.pt.x,.int .i64 nd.pt.y]) (h7:AO w g7 189 #[.map (some gm)]) (hm:JB w gm n f) (hx:En x) (hy:En y) :
  Calls Tryz.prog 176 #[.int .i64 x,.int .i64 y,.pointer (some ⟨g5,0,none⟩),.pointer (some ⟨g7,0,none⟩)] w fun e w'=>e=.returned (.int .i64 (fG (fun a b=>SH nd.pt (f a) (f b)) x y))/\NY w w':=by
 have T1:=fun W=>aia nd.pt (f x) (f y) W;have T2:=fun W=>aia nd.pt (f y) (f x) W;have L1:=hm.look x hx;have L2:=hm.look y hy;have HM:=AA hm;have H5:=AA h5;have H7:=AA h7;unfold BA at T1 T2 L1 L2;have HX:=AA hx;have HY:=AA hy;obtain ⟨r,hr⟩:=BN (fG (fun a b=>SH nd.pt (f a) (f b)) x y);rw [hr];replace hr:asE (SH nd.pt (f x) (f y)) (SH nd.pt (f y) (f x))=r:=hr;obtain ⟨z1,hz1⟩:=BN (SH nd.pt (f x) (f y));obtain ⟨z2,hz2⟩:=BN (SH nd.pt (f y) (f x));rw [hz1] at T1 hr;rw [hz2] at T2 hr;have Hr:=AA hr;have H1:=AA T1;have H2:=AA T2;clear T1 T2 hm hx hy hz1 hz2 hr;have X5:=h5;have X7:=h7;clear h5 h7;obtain ⟨CJ,CO,CS,F8,-,-,-⟩:=X5.Az;obtain ⟨Eb,Ec,-⟩:=X7.Fb;go_enter Tryz.func176,Tryz.ntmps176;go_wp2_with fail;refine (H1.out _).mono ?_;rintro e w1 ⟨rfl,hb1,hd1⟩;have B1:=AA hb1;have D1:=AA hd1;clear hb1 hd1 X5 X7 CJ CO CS F8 Eb Ec L1 L2
 cases z1
 case true =>
  go_wp2;go_ret;exact ⟨Df YP,B1.out,D1.out⟩
 have X5:=H5.out.keep B1.out;have X7:=H7.out.keep B1.out;have Jz:=HM.out.keep B1.out;have L1:=Jz.look x HX.out;have L2:=Jz.look y HY.out;unfold BA at L1 L2;clear Jz
 try clear CJ CO CS F8
 obtain ⟨CJ,CO,CS,F8,-,-,-⟩:=X5.Az
 try clear Eb Ec
 obtain ⟨Eb,Ec,-⟩:=X7.Fb;go_wp2_with fail;refine (H2.out _).mono ?_;rintro e w2 ⟨rfl,hb2,hd2⟩;have B2:=AA (bT B1.out hb2);have D2:=AA (dT D1.out hd2);clear hb2 hd2 X5 X7 CJ CO CS F8 Eb Ec L1 L2
 cases z2
 ·go_wp2;go_ret;exact ⟨Df YP,B2.out,D2.out⟩
 ·go_wp2;go_ret;exact ⟨Df YP,B2.out,D2.out⟩
open Go.RowKit Go.Sort
theorem aeH {P:Program} {fn:Func} {p:Tmp} {ty t:TypeId} {R:Ending->World->Prop} {a:Act} {w:World} {g:Nat} {v:Value} (h:fn.results=#[.cell p ty])
  (hS:∀ w,(isAgg ty).run P w=.ok false w) (hp:a.tmps.getD p undef=.pointer (some ⟨g,0,none⟩)) (hd:a.defers=[]) (hb:AO w g t #[v]) (hR:R (.returned v) w):bodyPost P fn R .ret a w:=by
 refine bodyPost_ret ?_ hd hR;have hp':a.tmps[p]?.getD undef=.pointer (some ⟨g,0,none⟩):=by simpa using hp
 have hc:w.cell? ⟨g,0,none⟩=some v:=by rw [hb.cell];rfl
 simp only [results,h];simp [hp',asAddr,loadVar,Sem.run_bind,Sem.run_pure,Result.andThen,hS,hc]
theorem aif:∀ w,(isAgg 24).run Tryz.prog w=.ok false w:=fun _=>by kernel_rfl
def aBh (w:World) (l:List Int) (e:Ending) (w':World):Prop :=
 ∃ A c,e=.returned (.slice A l.length c)/\AU w w'/\Own w' w.heap.size 3 1 DR (.slice A l.length c) l
theorem Valid.aii {p:Pl} (h:Valid p) {n d:Int} (hd:d∈Dl p.AP n):En d:=by
 obtain ⟨a,ha,e⟩:=Rl.1 hd;have:=h.Gx ha
 rcases e with ⟨rfl,-⟩ | ⟨rfl,-⟩
 · exact N8 AB AB
 · exact N8 AB AB
theorem aij (l:List Ar) (n:Int) (k:Nat) (hk:k<l.length):Dl (l.take (k+1)) n=Dl (l.take k) n++((if l[k].fr=n then [l[k].id] else [])++(if l[k].dst=n then [-l[k].id] else [])):=by
 unfold Dl;rw [F7 hk,LC];simp
theorem yO (l:List Ar) (n:Int):(Dl l n).length<=2*l.length:=by
 unfold Dl
 induction l with
 | nil=>simp
 | cons a l ih =>
  rw [KI,ER,ER,IU];have h1:(if a.fr=n then [a.id] else []).length<=1:=by split<;>simp
  have h2:(if a.dst=n then [-a.id] else []).length<=1:=by split<;>simp
  omega
theorem Own.asG {α:Type} {w w':World} {base:Nat} {e:TypeId} {size:Nat} {f:α->List Value} {v:Value} {l:List α} (h:Own w base e size f v l) (hk:∀ g t cs,base<=g->AO w g t cs->AO w' g t cs):Own w' base e size f v l:=by
 obtain ⟨h1,h2⟩:=h;refine ⟨h1,?_⟩;rcases h2 with h2 | ⟨g,cap,cur,hv,hg,hh,r⟩
 · exact .inl h2
 ·subst hv;exact .inr ⟨g,cap,cur,rfl,hg,hk g e cur hg hh,r⟩
theorem x9 {p:Pl} {D:List Int} {f:Int->Pt} (h:∀ d∈D,f d=Dy p d) {x:Int} {q:Pt} (hx:Dy p x=q):∀ d∈D++[x],(fun i=>if i=x then q else f i) d=Dy p d:=by
 intro d hd;by_cases e:d=x
 · subst e;simp [hx]
 ·simp only [FX,EP,e,or_false] at hd;simp [e,h d hd]
theorem Own.aik {w:World} {base:Nat} {A:Option Addr} {n c:Nat} {l:List Pt} (h:Own w base 39 2 Ee (.slice A n c) l):Row w A (l.flatMap Ee):=by
 obtain ⟨A',c',he,_,_,hr⟩:=h.sl;injection he with e1 e2 e3;subst e1;exact hr
theorem jP.keep {w w':World} {B g4 g7 gm n:Nat} {dl:List Int} {f:Int->Pt} {v:Value} (h:jP w B g4 g7 gm n dl f v) (hb:AU w w'):jP w' B g4 g7 gm n dl f v :=
 ⟨h.x4.keep hb,h.own.keep hb,h.x7.keep hb,h.mp.keep hb,h.b4,h.bm⟩
theorem asH (v:Value) (p:Pl) (n:Int) (w:World) (h:Ci w v p) (hv:Valid p) :
  Calls Tryz.prog 116 #[v,.int .i64 n] w (aBh w (DL p n)):=by
 have fH:=AA (fun W (hW:AU w W)=>abw v p n W (h.mono hW));have asI:=AA (fun id W (hW:AU w W)=>aBK v p id W (h.mono hW) hv.short);obtain ⟨_,_,_,al,rfl,hpa,⟨An,cn,rfl,-⟩,⟨⟨Aa,ca,rfl,hn1,hn2,hR⟩,Vw⟩,⟨Af,cf,rfl,-⟩⟩:=h;unfold maxLen at hn2;have HR:=AA hR;have jL:=AA Vw;have HV:=AA hv;have Kv:=AA hpa;generalize hnn:p.nodes.length=nn at *;generalize p.faces.length=nf at *;obtain ⟨q,hq⟩:=BN (DL p n);rw [hq];have Hq:=AA hq;have hall:al.length<=256:=by
  have hl:=hv.lim;unfold Ji at hl;simp only [QC,Iy] at hl;have h2:=hl.2;rw [hpa,Cj] at h2;omega
 clear hpa hR Vw hv hq hnn;go_enter Tryz.func116,Tryz.ntmps116;go_wp2_with fail;refine (fH.out _ (bA (bA (bR w) _) _)).mono ?_;rintro e w1 ⟨rfl,hb1⟩;have X2:AO w1 w.heap.size 26 #[.slice An nn cn,.slice Aa al.length ca,.slice Af nf cf]:=((AO.made rfl _ _).alloc _).keep hb1;have X4:AO w1 (w.heap.size+1) 24 #[.slice none 0 0]:=(AO.made Ak _ _).keep hb1;have B1:=AA (bT (bA (bA (bR w) _) _) hb1);clear hb1;unfold iP uM
 cases hfn:J3 p.nodes n with
 | none =>
  have hf:q=[]:=by rw [<- Hq.out];unfold DL;rw [hfn]
  subst hf;clear hfn;simp only [rV,gX];obtain ⟨BZ,Bl,EG⟩:=X4.Fb;go_wp2_with fail;refine aeH (g:=w.heap.size+1) (v:=.slice none 0 0) rfl aif rfl rfl ((AO.aAZ X4).alloc _) ⟨none,0,rfl,?_,Own.nil _ _ _ _ _⟩;have Bw:=B1.out;exact EC
 | some nd =>
  have hnd:nd∈p.nodes/\nd.id=n:=⟨VO hfn,by have:=List.find?_some hfn;simpa using this⟩;obtain ⟨hnm,rfl⟩:=hnd;have hAr:=HV.out.aAy hnm;rw [Hq.out] at hAr;have Jw:=AA hAr;have RJ:=AA hnm;clear hfn hAr hnm Hq;simp only [H9,VP];obtain ⟨BU,BX,Bg,CB,-,-,-⟩:=X2.Az
  try clear BZ Bl
  try clear EG
  obtain ⟨BZ,Bl,EG⟩:=X4.Fb;have iq:=AA (JB.made (w1.alloc (.cells #[.int .i64 nd.id,.int .i64 nd.pt.x,.int .i64 nd.pt.y] 45)));have hmm:=@run_makeMap Tryz.prog;go_upto_region 5 with fail;obtain ⟨W5,hW⟩:∃ W:World,W=((w1.alloc (.cells #[.int .i64 nd.id,.int .i64 nd.pt.x,.int .i64 nd.pt.y] 45)).alloc (.map #[] 0)).alloc (.cells #[.map (some (w1.heap.size+1))] 189):=⟨_,rfl⟩;have hA:AU w1 W5:=by rw [hW];exact bA (bA (bA (bR w1) _) _) _
  have DI:=AA (show AO W5 w1.heap.size 45 #[.int .i64 nd.id,.int .i64 nd.pt.x,.int .i64 nd.pt.y] by rw [hW];exact ((AO.made rfl _ _).alloc _).alloc _);have Ip:=AA (show AO W5 (w1.heap.size+1+1) 189 #[.map (some (w1.heap.size+1))] by rw [hW];exact AO.made Ak _ _);have Tf:=AA (show JB W5 (w1.heap.size+1) 0 (fun _=>z0) by
   rw [hW];have h1:=iq.out;rw [show (w1.alloc (.cells #[.int .i64 nd.id,.int .i64 nd.pt.x,.int .i64 nd.pt.y] 45)).heap.size=w1.heap.size+1 by simp] at h1;exact h1.keep (bA (bR _) _))
  have CG:=AA (X2.keep hA);have D8:=AA (X4.keep hA);have B5:=AA (bT B1.out hA);have hz1:w.heap.size+2<=w1.heap.size:=by have:=X4.lt;omega
  rw [<- hW];clear hW hA X2 X4 BU BX Bg CB BZ Bl EG iq hmm;obtain ⟨g5,hg5⟩:=BN w1.heap.size;rw [hg5] at DI Ip Tf hz1 ⊢;clear hg5;have X2:=CG.out
  try clear BU BX Bg CB
  obtain ⟨BU,BX,Bg,CB,-,-,-⟩:=X2.Az;have Ll:=AA (@asC);go_upto_block 0 with fail;go_wp2_with fail;go_loopw [26] (fun i wr=>∃ (k:Nat) (f:Int->Pt) (vl:Value) (cnt:Nat),k<=al.length/\i=.int .i64 k/\cnt<=2*k/\jP wr (w.heap.size+1) (w.heap.size+1) (g5+1+1) (g5+1) cnt (Dl (p.AP.take k) nd.id) f vl/\(∀ d∈Dl (p.AP.take k) nd.id,f d=Dy p d)/\AU w wr/\AO wr w.heap.size 26 #[.slice An nn cn,.slice Aa al.length ca,.slice Af nf cf]/\AO wr g5 45 #[.int .i64 nd.id,.int .i64 nd.pt.x,.int .i64 nd.pt.y]) (fun i _=>al.length-(intOf i).toNat)
  case atStart => exact ⟨0,fun _=>z0,.slice none 0 0,0,Bv _,rfl,AB,⟨D8.out,Own.nil _ _ _ _ _,Ip.out,Tf.out,AB,AB⟩,(fun d h=>by simp [Dl] at h),B5.out,CG.out,DI.out⟩
  case round =>
   obtain ⟨k,f,vl,cnt,hk,rfl,hcnt,ail,hf,hb,X2,X5⟩:=hrel;have Hb:=AA hb;have Uu:=AA ail;have Hf:=AA hf;have CG:=AA X2;have DI:=AA X5;clear hb ail hf
   try clear BU BX Bg CB
   obtain ⟨BU,BX,Bg,CB,-,-,-⟩:=X2.Az;have hzr:=Hb.out.size;have ayy:g5+1+1<wr.heap.size:=Uu.out.x7.lt;by_cases hlt:k<al.length
   case neg =>
    have hkk:k=al.length:=by omega
    have ht:p.AP.take k=p.AP:=IQ (by rw [Kv.out,Cj];omega);rw [ht] at Uu Hf;have HF:=Hf;clear ht;subst hkk;obtain ⟨x4,own,x7,mp,b4,bm⟩:=Uu.out;obtain ⟨A,c,rfl,-⟩:=Own.shape own;have hlen:=yO p.AP nd.id;rw [show p.AP.length=al.length by rw [Kv.out,Cj]] at hlen;have HS:=AA (as7 (w.heap.size+1) _ (Dl p.AP nd.id) (ltD p nd.pt) 176 #[.pointer (some ⟨g5,0,none⟩),.pointer (some ⟨g5+1+1,0,none⟩)] wr own (HV.out.wK RJ.out) AB (enters_of Tryz.func176 I8 rfl)
     (fun W hW x hx y hy=>by
      have h:=asF nd x y g5 (g5+1+1) (g5+1) cnt f W (DI.out.grown hW (fun e=>Own.Dz own DI.out Aw e.symm)) (x7.grown hW (fun e=>Own.Dz own x7 Aw e.symm)) (mp.kept hW (fun e=>aeF mp own e.symm)) (HV.out.aii hx) (HV.out.aii hy);have he:fG (fun a b=>SH nd.pt (f a) (f b)) x y=fG (ltD p nd.pt) x y:=by
       unfold fG ltD;simp only [HF.out x hx,HF.out y hy]
      rw [he] at h;exact h))
    have aCs:=Own.Dz own x4 Aw;have hown:=Own.lt own;have WA:=AA hown;have HB4:=AA b4;have X4:=x4;have ayz:=AA x4;have OQ:=AA aCs;have hpm:(sortB (ltD p nd.pt) (Dl p.AP nd.id)).length=(Dl p.AP nd.id).length:=((jB (HV.out.wK RJ.out)).1).length_eq;rw [<- Jw.out] at hpm HS;have KA:=AA hpm;clear x4 own x7 mp b4 bm aCs hown hpm hlen HF Hf Uu;generalize Dl p.AP nd.id=D at *
    try clear BZ Bl
    try clear EG
    obtain ⟨BZ,Bl,EG⟩:=X4.Fb;go_wp2_with fail;refine HS.out.mono ?_;rintro e ws ⟨rfl,hos,hgs⟩;have Y4:=AO.grown X4 hgs (fun e=>OQ.out e.symm);have Yw:=AA hos;have oM:=AA (show Below (w.heap.size+1) wr ws from Below.grown (Below.refl _ _) hgs AB (fun g hg=>(WA.out g hg).1));clear hos hgs X4 BZ Bl EG X2 BU BX Bg CB;have X4:=Y4;clear Y4
    try clear BZ Bl
    try clear EG
    obtain ⟨BZ,Bl,EG⟩:=X4.Fb;go_wp2_with fail;have ho:=Yw.out;rw [<- KA.out] at ho ⊢;refine aeH (g:=w.heap.size+1) (v:=.slice A q.length c) rfl aif rfl rfl (AO.aAZ X4) ⟨A,c,rfl,?_,(ho.far (p:=⟨w.heap.size+1,0,none⟩) (by rw [KA.out];exact OQ.out) _).ES AB⟩;exact (Below.trans Hb.out (oM.out.mono AB)).setCell (by show w.heap.size<=w.heap.size+1;omega) _
   obtain ⟨b,o,rfl,hlb,c0,c1,c2,c3,c4,c5⟩:=(HR.out.mono Hb.out).ar hlt;have ham:al[k].1∈p.AP:=by rw [Kv.out];exact Gh (BO hlt)
   have hst:Dl (p.AP.take (k+1)) nd.id=Dl (p.AP.take k) nd.id++((if al[k].1.fr=nd.id then [al[k].1.id] else [])++(if al[k].1.dst=nd.id then [-al[k].1.id] else [])):=by
    have h1:k<p.AP.length:=by rw [Kv.out,Cj];exact hlt
    have h2:=aij p.AP nd.id k h1;have h3:p.AP[k]=al[k].1:=by simp only [Kv.out,Gp]
    rw [h3] at h2;exact h2
   obtain ⟨Av,cv,hv,-⟩:=jL.out k hlt;rw [hv] at c3;have hpo:=HV.out.adS (HV.out.iK ham);have hid:=HV.out.Gx ham;rw [show Ez al[k].1.id=al[k].1.id by unfold Ez;rw [AX AB]] at hpo;have Kr:=AA (asI.out al[k].1.id);rw [hpo] at Kr;unfold iR at Kr;simp only [H9,VP,if_true] at Kr;have ain:=HV.out.jV ham;have aio:=HV.out.bF ham;have hpl:=Ey p al[k].1;have hvl:=HV.out.Tv ham;have hlen:=yO (p.AP.take k) nd.id;have hlen2:(p.AP.take k).length<=k:=aao _ _;have DU:=AA hst;have asJ:=AA ain;have aip:=AA aio;have HLen:=AA (show (Dl (p.AP.take k) nd.id).length<=512 by omega);clear hst ain aio hpo hv ham hlen hlen2;obtain ⟨D1,hD1⟩:=BN (Dl (p.AP.take (k+1)) nd.id);rw [hD1] at DU;have HD1:=AA hD1;clear hD1;generalize Dl (p.AP.take k) nd.id=D0 at *;generalize hP:AV p al[k].1=P at *;generalize al[k].1.via.length=vn at *;generalize al[k].1=a at *;have aiq:=AA (show En a.id from N8 AB AB);have aBi:=AA (show En (-a.id) from N8 AB AB);have hneg:IntKind.i64.wrap (-a.id)=-a.id:=D6 _ AB;clear hP
   cases hb1:(a.fr == nd.id)
   case false =>
    have hn1:(a.fr != nd.id)=true:=by rw [bne,hb1];rfl
    cases hb2:(a.dst == nd.id)
    case false =>
     have hn2:(a.dst != nd.id)=true:=by rw [bne,hb2];rfl
     have hD:D1=D0:=by rw [DU.out,AX (by simpa using hb1),AX iG];simp
     go_wp2;go_roundw
     case rel => exact ⟨k+1,f,vl,cnt,AB,BJ,AB,by rw [show Dl (List.take (k+1) p.AP) nd.id=D0 from HD1.out.trans hD];exact Uu.out.keep (bA (bR wr) _),by rw [show Dl (List.take (k+1) p.AP) nd.id=D0 from HD1.out.trans hD];exact Hf.out,bA Hb.out _,CG.out.alloc _,DI.out.alloc _⟩
     case measure => exact BL
    case true =>
     have hn2:(a.dst != nd.id)=false:=by rw [bne,hb2];rfl
     have Yx:=AA hpl;clear hpl;go_wp2_with fail;refine (Kr.out _ (bA Hb.out _)).mono ?_;rintro e w2 ⟨A2,c2',rfl,hb2,ho2⟩;have HW2:=AA (show AU wr w2 from bT (bA (bR wr) _) hb2);have F9:=AA ho2;have hz2:=hb2.size;simp only [World.size_alloc] at hz2;obtain ⟨Aq,cq,he,hq1,hq2,U0⟩:=ho2.sl;injection he with e1 e2 e3;subst e1 e3;clear e2;unfold maxLen at hq2;have Nc:=AA (show AO w2 wr.heap.size 50 #[.int .i64 a.id,.int .i64 a.fr,.int .i64 a.dst,.slice Av vn cv,.int .i64 a.left,.int .i64 a.right] from (AO.made rfl _ _).keep hb2);have EY:=Nc.out;rw [Yx.out] at hq1 ⊢;clear hb2 ho2 Kr BU BX Bg CB X2 c0 c1 c2 c3 c4 c5 hlb;have hD:D1=D0++[-a.id]:=by rw [DU.out,AX (by simpa using hb1),AZ iG];simp
     have HOW:=F9;have oO:=AA (Uu.out.keep HW2.out);have nT:=AA (CG.out.keep HW2.out);have jQ:=AA (DI.out.keep HW2.out);have Rw:=AA (show AU w w2 from bT Hb.out HW2.out);have jR:=AA (Own.Dz Uu.out.own DI.out Aw);clear U0;obtain ⟨JD,JE,JF,dL,iV,iW,iY,-,-,-,-,-,-⟩:=EY.IW;have hP2:vn<P.length:=by have:=Yx.out;omega
     obtain ⟨bp,op,Lm,hlp,e20,e21⟩:=Row.pt (HOW.out.aik) hP2;have hp2:P.getD vn AY=P[vn]:=by simp only [Fj,Dh hP2,H9]
     have xA:=AA (aip.out.trans hp2);clear hp2;generalize P[vn]=p2 at *
     first | subst Lm | (simp only [JM,Addr.mk.injEq,and_true] at Lm;obtain ⟨rfl,rfl⟩:=Lm)
     have k2:IntKind.i64.wrap ((vn:Int)+2-2)=vn:=by rw [show (vn:Int)+2-2=vn by omega];exact D6 _ AB
     have k3:IntKind.i64.wrap (vn:Int)=vn:=D6 _ AB;have k4:(vn:Int)<(vn:Int)+2:=by omega
     have k5:0<=(vn:Int):=by omega
     have k6:(vn:Int)+2-2=vn:=by omega
     go_upto_region 15 with fail;refine Rz ((w.heap.size+1)) (w2) (.take 0 1 (.take 1 3 (.run 5 4 3 (.two 2 503 (.take 3 511 (.call 9 1023 (.call 10 2047 (.done)))) 9 1011 (.call 2 1015 (.take 3 1023 (.call 10 2047 (.done)))))))) fun CU QR Ae Ah hS=>?_
     iterate 7 refine Aj ?_
     refine PD (i:=2) (j:=9) (Ew Ae rfl) (Ew Ae rfl) (fun K hK=>?_) (fun K hK=>?_)
     ·have AQ:=AA hS;clear hS;refine FY (FV rfl) ?_;go_simp;refine hK.out _ _ AQ.out (fun hS=>?_);clear hK K AQ
      try simp only [pu]
      refine Aj ?_;refine Bj ?_;clear hS;intro K hK AQ;go_simp;refine hK.out _ _ AQ.out (fun hS=>?_);clear hK K AQ
      try simp only [pu]
      refine Bj ?_;clear hS;intro K hK AQ;go_simp;refine (Ll.out (-a.id) p2 (w.heap.size+1) (w.heap.size+1) (g5+1+1) (g5+1) (cnt) (D0) (f) vl _ (oO.out.keep (bD (bR w2))) DT AB abK aBi.out).mono ?_;rintro e w4 ⟨rfl,⟨v4,WB⟩,hb4,hk4⟩;have hS:GK (w.heap.size+1) w2 w4:=Below.trans AQ.out hb4;have jS:=AA WB;have jT:=AA (hk4 g5 _ _ (jQ.out.keep (bD (bR w2))) AB AB jR.out);clear hb4 hk4 WB;clear AQ;refine hK.out _ _ hS (fun _=>?_);clear hK K
      try simp only [pu]
      refine LY ?_;clear hS Ah Ae;intro hB;go_wp2;go_roundw
      case rel => exact ⟨k+1,_,v4,cnt+1,AB,BJ,AB,by rw [show Dl (List.take (k+1) p.AP) nd.id=D0++[-a.id] from HD1.out.trans hD];exact jS.out,(fun d hd=>by rw [show Dl (List.take (k+1) p.AP) nd.id=D0++[-a.id] from HD1.out.trans hD] at hd;exact x9 Hf.out xA.out d hd),Below.trans Rw.out (hB.mono AB),nT.out.below hB AB,jT.out⟩
      case measure => exact BL
     ·have AQ:=AA hS;clear hS;refine FY (FV rfl) ?_;go_simp;refine hK.out _ _ AQ.out (fun hS=>?_);clear hK K AQ
      try simp only [pu]
      refine Bj ?_;clear hS;intro K hK AQ;go_simp;refine hK.out _ _ AQ.out (fun hS=>?_);clear hK K AQ
      try simp only [pu]
      refine Aj ?_;refine Bj ?_;clear hS;intro K hK AQ;go_simp;refine (Ll.out (-a.id) p2 (w.heap.size+1) (w.heap.size+1) (g5+1+1) (g5+1) (cnt) (D0) (f) vl _ (oO.out.keep (bD (bR w2))) DT AB abK aBi.out).mono ?_;rintro e w4 ⟨rfl,⟨v4,WB⟩,hb4,hk4⟩;have hS:GK (w.heap.size+1) w2 w4:=Below.trans AQ.out hb4;have jS:=AA WB;have jT:=AA (hk4 g5 _ _ (jQ.out.keep (bD (bR w2))) AB AB jR.out);clear hb4 hk4 WB;clear AQ;refine hK.out _ _ hS (fun _=>?_);clear hK K
      try simp only [pu]
      refine LY ?_;clear hS Ah Ae;intro hB;go_wp2;go_roundw
      case rel => exact ⟨k+1,_,v4,cnt+1,AB,BJ,AB,by rw [show Dl (List.take (k+1) p.AP) nd.id=D0++[-a.id] from HD1.out.trans hD];exact jS.out,(fun d hd=>by rw [show Dl (List.take (k+1) p.AP) nd.id=D0++[-a.id] from HD1.out.trans hD] at hd;exact x9 Hf.out xA.out d hd),Below.trans Rw.out (hB.mono AB),nT.out.below hB AB,jT.out⟩
      case measure => exact BL
   case true =>
    have hn1:(a.fr != nd.id)=false:=by rw [bne,hb1];rfl
    have HB1:=AA hb1;clear hb1;have Yx:=AA hpl;clear hpl;go_wp2_with fail;refine (Kr.out _ (bA Hb.out _)).mono ?_;rintro e w2 ⟨A2,c2',rfl,hb2,ho2⟩;have HW2:=AA (show AU wr w2 from bT (bA (bR wr) _) hb2);have F9:=AA ho2;have hz2:=hb2.size;simp only [World.size_alloc] at hz2;obtain ⟨Aq,cq,he,hq1,hq2,U0⟩:=ho2.sl;injection he with e1 e2 e3;subst e1 e3;clear e2;unfold maxLen at hq2;have Nc:=AA (show AO w2 wr.heap.size 50 #[.int .i64 a.id,.int .i64 a.fr,.int .i64 a.dst,.slice Av vn cv,.int .i64 a.left,.int .i64 a.right] from (AO.made rfl _ _).keep hb2);have EY:=Nc.out;rw [Yx.out] at hq1 ⊢;clear hb2 ho2 Kr BU BX Bg CB X2 c0 c1 c2 c3 c4 c5 hlb;have hP1:1<P.length:=by have:=Yx.out;omega
    obtain ⟨bp,op,Lm,hlp,e10,e11⟩:=Row.pt (U0) hP1;have hp1:P.getD 1 AY=P[1]:=by simp only [Fj,Dh hP1,H9]
    have asK:=AA (asJ.out.trans hp1);clear hp1;generalize P[1]=p1 at *;subst Lm;clear U0;simp only [Nat.one_mul] at e10 e11;have k1:(1:Int)<(vn:Int)+2:=by omega
    try clear JD JE JF dL iV iW iY
    obtain ⟨JD,JE,JF,dL,iV,iW,iY,-,-,-,-,-,-⟩:=EY.IW;go_upto_if 52 with fail;go_cut [] (fun w3=>∃ v3,jP w3 (w.heap.size+1) (w.heap.size+1) (g5+1+1) (g5+1) (cnt+1) (D0++[a.id]) (fun i=>if i=a.id then p1 else f i) v3/\Below (w.heap.size+1) w2 w3/\(∀ g t cs,AO w2 g t cs->g≠w.heap.size+1->g≠g5+1->vl.ownBlock≠some g->AO w3 g t cs))
    case first =>
     have hb1:=HB1.out;go_upto_region 13 with fail;refine Rz ((w.heap.size+1)) (w2) (.take 0 1 (.take 1 3 (.take 3 11 (.take 4 27 (.two 2 31 (.call 5 63 (.call 6 127 (.done))) 5 59 (.call 2 63 (.call 6 127 (.done)))))))) fun CU QR Ae Ah hS=>?_
     iterate 4 refine Aj ?_
     refine PD (i:=2) (j:=5) (Ew Ae rfl) (Ew Ae rfl) (fun K hK=>?_) (fun K hK=>?_)
     ·have AQ:=AA hS;clear hS;refine FY (FV rfl) ?_;go_simp;refine hK.out _ _ AQ.out (fun hS=>?_);clear hK K AQ
      try simp only [pu]
      refine Bj ?_;clear hS;intro K hK AQ;go_simp;refine hK.out _ _ AQ.out (fun hS=>?_);clear hK K AQ
      try simp only [pu]
      refine Bj ?_;clear hS;intro K hK AQ;go_simp;refine (Ll.out a.id p1 (w.heap.size+1) (w.heap.size+1) (g5+1+1) (g5+1) cnt D0 f vl _ (Uu.out.keep (bD HW2.out)) DT AB (by have:=HLen.out;omega) aiq.out).mono ?_;rintro e w3 ⟨rfl,⟨v3,Yy⟩,hb3,hk3⟩;have hS:GK (w.heap.size+1) w2 w3:=Below.trans AQ.out hb3;have aeI:=AA Yy;have HK3:=AA (show ∀ g t cs,AO w2 g t cs->g≠w.heap.size+1->g≠g5+1->vl.ownBlock≠some g->AO w3 g t cs from fun g t cs h=>hk3 g t cs (h.keep (bD (bR w2))));clear hb3 hk3 Yy;clear AQ;refine hK.out _ _ hS (fun _=>?_);clear hK K
      try simp only [pu]
      refine LY ?_;clear hS Ah Ae;intro hB;go_wp2;go_meet
      case rel => exact ⟨v3,aeI.out,hB,HK3.out⟩
     ·have AQ:=AA hS;clear hS;refine FY (FV rfl) ?_;go_simp;refine hK.out _ _ AQ.out (fun hS=>?_);clear hK K AQ
      try simp only [pu]
      refine Bj ?_;clear hS;intro K hK AQ;go_simp;refine hK.out _ _ AQ.out (fun hS=>?_);clear hK K AQ
      try simp only [pu]
      refine Bj ?_;clear hS;intro K hK AQ;go_simp;refine (Ll.out a.id p1 (w.heap.size+1) (w.heap.size+1) (g5+1+1) (g5+1) cnt D0 f vl _ (Uu.out.keep (bD HW2.out)) DT AB (by have:=HLen.out;omega) aiq.out).mono ?_;rintro e w3 ⟨rfl,⟨v3,Yy⟩,hb3,hk3⟩;have hS:GK (w.heap.size+1) w2 w3:=Below.trans AQ.out hb3;have aeI:=AA Yy;have HK3:=AA (show ∀ g t cs,AO w2 g t cs->g≠w.heap.size+1->g≠g5+1->vl.ownBlock≠some g->AO w3 g t cs from fun g t cs h=>hk3 g t cs (h.keep (bD (bR w2))));clear hb3 hk3 Yy;clear AQ;refine hK.out _ _ hS (fun _=>?_);clear hK K
      try simp only [pu]
      refine LY ?_;clear hS Ah Ae;intro hB;go_wp2;go_meet
      case rel => exact ⟨v3,aeI.out,hB,HK3.out⟩
    case rest =>
     obtain ⟨v3,Yy,hB3,hk3⟩:=hcut;have Rw:=AA (show RowKit.Below w.heap.size w wc from Below.trans (bT Hb.out HW2.out) (hB3.mono AB));have nT:=AA ((CG.out.keep HW2.out).below hB3 AB);have jQ:=AA (hk3 g5 _ _ (DI.out.keep HW2.out) AB AB (Own.Dz Uu.out.own DI.out Aw));have air:=hk3 wr.heap.size _ _ Nc.out AB AB (fun e=>by have:=(Uu.out.own.lt _ e).2;omega);have HOW:=AA (F9.out.asG (fun g t cs hg hx=>hk3 g t cs hx (by simp only [World.size_alloc] at hg;omega) (by simp only [World.size_alloc] at hg;omega) (fun e=>by have:=(Uu.out.own.lt _ e).2;simp only [World.size_alloc] at hg;omega)));have oO:=AA Yy;have jR:=AA (Own.Dz Yy.own jQ.out Aw);have hf3:=x9 Hf.out asK.out;have HF3:=AA hf3;have hz3:=hB3.size;clear Yy hB3 hk3 hf3 EY JD JE JF dL iV iW iY e10 e11;have EY:=air;clear air
     try clear JD JE JF dL iV iW iY
     obtain ⟨JD,JE,JF,dL,iV,iW,iY,-,-,-,-,-,-⟩:=EY.IW
     cases hb2:(a.dst == nd.id)
     case false =>
      have hD:D1=D0++[a.id]:=by rw [DU.out,AZ (by simpa using HB1.out),AX iG];simp
      go_wp2;go_roundw
      case rel => exact ⟨k+1,_,v3,cnt+1,AB,BJ,AB,by rw [show Dl (List.take (k+1) p.AP) nd.id=D0++[a.id] from HD1.out.trans hD];exact oO.out,by rw [show Dl (List.take (k+1) p.AP) nd.id=D0++[a.id] from HD1.out.trans hD];exact HF3.out,Rw.out,nT.out,jQ.out⟩
      case measure => exact BL
     case true =>
      have hD:D1=D0++[a.id]++[-a.id]:=by rw [DU.out,AZ (by simpa using HB1.out),AZ iG];simp
      have hP2:vn<P.length:=by have:=Yx.out;omega
      obtain ⟨bp,op,Lm,hlp,e20,e21⟩:=Row.pt (HOW.out.aik) hP2;have hp2:P.getD vn AY=P[vn]:=by simp only [Fj,Dh hP2,H9]
      have xA:=AA (aip.out.trans hp2);clear hp2;generalize P[vn]=p2 at *
      first | subst Lm | (simp only [JM,Addr.mk.injEq,and_true] at Lm;obtain ⟨rfl,rfl⟩:=Lm)
      have k2:IntKind.i64.wrap ((vn:Int)+2-2)=vn:=by rw [show (vn:Int)+2-2=vn by omega];exact D6 _ AB
      have k3:IntKind.i64.wrap (vn:Int)=vn:=D6 _ AB;have k4:(vn:Int)<(vn:Int)+2:=by omega
      have k5:0<=(vn:Int):=by omega
      have k6:(vn:Int)+2-2=vn:=by omega
      go_upto_region 15 with fail;refine Rz ((w.heap.size+1)) (wc) (.take 0 1 (.take 1 3 (.run 5 4 3 (.two 2 503 (.take 3 511 (.call 9 1023 (.call 10 2047 (.done)))) 9 1011 (.call 2 1015 (.take 3 1023 (.call 10 2047 (.done)))))))) fun CU QR Ae Ah hS=>?_
      iterate 7 refine Aj ?_
      refine PD (i:=2) (j:=9) (Ew Ae rfl) (Ew Ae rfl) (fun K hK=>?_) (fun K hK=>?_)
      ·have AQ:=AA hS;clear hS;refine FY (FV rfl) ?_;go_simp;refine hK.out _ _ AQ.out (fun hS=>?_);clear hK K AQ
       try simp only [pu]
       refine Aj ?_;refine Bj ?_;clear hS;intro K hK AQ;go_simp;refine hK.out _ _ AQ.out (fun hS=>?_);clear hK K AQ
       try simp only [pu]
       refine Bj ?_;clear hS;intro K hK AQ;go_simp;refine (Ll.out (-a.id) p2 (w.heap.size+1) (w.heap.size+1) (g5+1+1) (g5+1) (cnt+1) (D0++[a.id]) (fun i=>if i=a.id then p1 else f i) v3 _ (oO.out.keep (bD (bR wc))) DT AB abK aBi.out).mono ?_;rintro e w4 ⟨rfl,⟨v4,WB⟩,hb4,hk4⟩;have hS:GK (w.heap.size+1) wc w4:=Below.trans AQ.out hb4;have jS:=AA WB;have jT:=AA (hk4 g5 _ _ (jQ.out.keep (bD (bR wc))) AB AB jR.out);clear hb4 hk4 WB;clear AQ;refine hK.out _ _ hS (fun _=>?_);clear hK K
       try simp only [pu]
       refine LY ?_;clear hS Ah Ae;intro hB;go_wp2;go_roundw
       case rel => exact ⟨k+1,_,v4,cnt+1+1,AB,BJ,AB,by rw [show Dl (List.take (k+1) p.AP) nd.id=D0++[a.id]++[-a.id] from HD1.out.trans hD];exact jS.out,(fun d hd=>by rw [show Dl (List.take (k+1) p.AP) nd.id=D0++[a.id]++[-a.id] from HD1.out.trans hD] at hd;exact x9 HF3.out xA.out d hd),Below.trans Rw.out (hB.mono AB),nT.out.below hB AB,jT.out⟩
       case measure => exact BL
      ·have AQ:=AA hS;clear hS;refine FY (FV rfl) ?_;go_simp;refine hK.out _ _ AQ.out (fun hS=>?_);clear hK K AQ
       try simp only [pu]
       refine Bj ?_;clear hS;intro K hK AQ;go_simp;refine hK.out _ _ AQ.out (fun hS=>?_);clear hK K AQ
       try simp only [pu]
       refine Aj ?_;refine Bj ?_;clear hS;intro K hK AQ;go_simp;refine (Ll.out (-a.id) p2 (w.heap.size+1) (w.heap.size+1) (g5+1+1) (g5+1) (cnt+1) (D0++[a.id]) (fun i=>if i=a.id then p1 else f i) v3 _ (oO.out.keep (bD (bR wc))) DT AB abK aBi.out).mono ?_;rintro e w4 ⟨rfl,⟨v4,WB⟩,hb4,hk4⟩;have hS:GK (w.heap.size+1) wc w4:=Below.trans AQ.out hb4;have jS:=AA WB;have jT:=AA (hk4 g5 _ _ (jQ.out.keep (bD (bR wc))) AB AB jR.out);clear hb4 hk4 WB;clear AQ;refine hK.out _ _ hS (fun _=>?_);clear hK K
       try simp only [pu]
       refine LY ?_;clear hS Ah Ae;intro hB;go_wp2;go_roundw
       case rel => exact ⟨k+1,_,v4,cnt+1+1,AB,BJ,AB,by rw [show Dl (List.take (k+1) p.AP) nd.id=D0++[a.id]++[-a.id] from HD1.out.trans hD];exact jS.out,(fun d hd=>by rw [show Dl (List.take (k+1) p.AP) nd.id=D0++[a.id]++[-a.id] from HD1.out.trans hD] at hd;exact x9 HF3.out xA.out d hd),Below.trans Rw.out (hB.mono AB),nT.out.below hB AB,jT.out⟩
       case measure => exact BL
