import Derived.Test.YtialfdomhoojiaaGreatJ15
set_option linter.unusedSimpArgs false
set_option linter.unusedVariables false
set_option maxRecDepth 100000
set_option maxHeartbeats 8000000
namespace Go.Proofs.YtialfdomhoojiaaGreat
open Go.RowKit
theorem anY (v:Value) (l:List Pt) (w:World) (h:dM w v l) :
  Calls Tryz.prog 76 #[v] w fun e w'=>e=.returned (.bool (eu l))/\yY w w':=by
 obtain ⟨A,c,rfl,hn,hc,hR⟩:=h;unfold maxLen at hc;go_enter Tryz.func76,Tryz.ntmps76;go_wp2_with fail;go_loopw [7] (fun i wr=>∃ k:Nat,k<=l.length/\i=.int .i64 k/\yY w wr/\∀ j (hj:j<l.length),j<k->aZ l[j]=true) (fun i _=>l.length-(intOf i).toNat)
 case atStart => exact ⟨0,avK _,rfl,⟨Below.refl _ _,dR w⟩,fun j _ h=>by omega⟩
 case round =>
  obtain ⟨k,hk,rfl,hb,hno⟩:=hrel;have Hb:=avE hb.1;have Hd:=avE hb.2;have Hno:=avE hno;have hs:=hb.1.size;clear hb hno;by_cases hlt:k<l.length
  ·obtain ⟨b,o,rfl,hlb,c0,c1⟩:=(hR.mono Hb.out).pt hlt;have HR:=avE hR;clear hR;by_cases hnr:aZ l[k]=true
   ·have Hn:=avE hnr;obtain ⟨n1,n2,n3,n4⟩:=(vJ _).1 hnr;clear hnr;go_wp2;go_roundw
    case rel => exact ⟨k+1,by omega,by go_num,⟨Hb.out.alloc hs _,dA Hd.out _⟩,all_succ (p:=fun x=>aZ x=true) Hno.out hlt Hn.out⟩
    case measure => simp [intOf];omega
   ·have hn':aZ l[k]=false:=by simpa using hnr
    have Hf:=avE (YU l k hlt hn');clear hn';have Py:=avE hnr;clear hnr;go_wp2
    all_goals first
     | (go_ret;exact ⟨aY Hf.out.symm,Hb.out.alloc hs _,dA Hd.out _⟩)
     | (exfalso;exact Py.out ((vJ _).2 ⟨by omega,by omega,by omega,by omega⟩))
  ·go_wp2;go_ret;exact ⟨aY (YW l fun j hj=>Hno.out j hj Pe).symm,Hb.out,Hd.out⟩
theorem anZ (a b c:Pt) (w:World) (ha:lim a) (hb:lim b) (hc:lim c) :
  Calls Tryz.prog 77 #[aK a,aK b,aK c] w fun e w'=>e=.returned (.int .i64 (tw a b c))/\yY w w':=by
 obtain ⟨a1,a2,a3,a4⟩:=ha;obtain ⟨b1,b2,b3,b4⟩:=hb;obtain ⟨c1,c2,c3,c4⟩:=hc;obtain ⟨m1,m2⟩:=qH (b.x-a.x) (c.y-a.y) 4194304 Pe Pe Pe Pe;obtain ⟨m3,m4⟩:=qH (b.y-a.y) (c.x-a.x) 4194304 Pe Pe Pe Pe;simp only [Int.reduceMul,Int.reduceNeg] at m1 m2 m3 m4;unfold aK;go_enter Tryz.func77,Tryz.ntmps77;go_wp2;go_ret;exact ⟨dL rfl,(((Below.refl _ _).alloc (awe _) _).alloc ars _).alloc arV _,dA (dA (dA (dR w) _) _) _⟩
theorem agq (o p:Pt) (w:World):Calls Tryz.prog 235 #[aK o,aK p] w fun e w'=>e=.returned (.bool (C9 o p))/\yY w w':=by
 unfold aK C9;by_cases h1:p.y<o.y
 ·go_enter Tryz.func235,Tryz.ntmps235;go_wp2;go_ret;exact ⟨aY (by simp [h1]),bA (bA (bR w) _) _,dA (dA (dR w) _) _⟩
 ·by_cases h2:p.y=o.y
  ·have h2':(p.y == o.y)=true:=by simpa using h2
   have H2:=avE h2;clear h2;by_cases h3:p.x<o.x
   ·go_enter Tryz.func235,Tryz.ntmps235;go_wp2;go_ret;exact ⟨aY (by simp [h1,H2.out,h3]),bA (bA (bR w) _) _,dA (dA (dR w) _) _⟩
   ·go_enter Tryz.func235,Tryz.ntmps235;go_wp2;go_ret;exact ⟨aY (by simp [h1,H2.out,h3]),bA (bA (bR w) _) _,dA (dA (dR w) _) _⟩
  ·have h2':(p.y == o.y)=false:=by simpa using h2
   have H2:=avE h2;clear h2;go_enter Tryz.func235,Tryz.ntmps235;go_wp2;go_ret;exact ⟨aY (by simp [h1,H2.out]),bA (bA (bR w) _) _,dA (dA (dR w) _) _⟩
theorem aa3 {p:Pt} (h:aZ p=true):lim p:=(vJ p).1 h
theorem Dz {a b c:Pt} (h:eu [a,b,c]=true):lim a/\lim b/\lim c:=by
 simp only [eu,List.all_cons,List.all_nil,Bool.and_true,avR] at h;exact ⟨aa3 h.1,aa3 h.2.1,aa3 h.2.2⟩
theorem agr (o a b:Pt) (w:World):Calls Tryz.prog 177 #[aK o,aK a,aK b] w fun e w'=>e=.returned (.bool (xX o a b))/\yY w w':=by
 have TN:=fun (v:Value) W=>anY v [o,a,b] W;have La:=fun W=>agq o a W;have Lc:=fun W=>agq o b W;have TT:=fun (h:eu [o,a,b]=true) W=>anZ o a b W (Dz h).1 (Dz h).2.1 (Dz h).2.2;have E1:=yT a o;have E2:=yT b o;obtain ⟨r,hr⟩:∃ r,xX o a b=r:=⟨_,rfl⟩;rw [hr];unfold xX at hr;unfold aK at La Lc TT ⊢;have HN:=avE TN;have H1:=avE La;have H2:=avE Lc;have HT:=avE TT;clear TN La Lc TT;generalize hz:eu [o,a,b]=z at *;generalize decide (a=o)=z1 at *;generalize decide (b=o)=z2 at *;generalize hl1:C9 o a=l1 at *;generalize hl2:C9 o b=l2 at *;generalize hq:decide (0<tw o a b)=q at *;have Hr:=avE hr;have Hq:=avE hq;have Hz:=avE hz;clear hr hq hz hl1 hl2;go_enter Tryz.func177,Tryz.ntmps177;go_wp2_with fail;have Ju:Hid (dM ((((w.alloc (.cells #[.int .i64 o.x,.int .i64 o.y] 39)).alloc (.cells #[.int .i64 a.x,.int .i64 a.y] 39)).alloc (.cells #[.int .i64 b.x,.int .i64 b.y] 39)).alloc (.cells #[.int .i64 o.x,.int .i64 o.y,.int .i64 a.x,.int .i64 a.y,.int .i64 b.x,.int .i64 b.y] 39)) (.slice (some ⟨w.heap.size+1+1+1,0,none⟩) 3 3) [o,a,b]):=avE (dM.DW (ah.made ars _ _));refine (HN.out _ _ Ju.out).mono ?_;rintro e w1 ⟨rfl,hb1,hd1⟩;have B1:=avE (bT (bA (bA (bA (bA (bR w) _) _) _) _) hb1);have D1:=avE (dT (dA (dA (dA (dA (dR w) _) _) _) _) hd1);have dW:=avE (show ah w1 w.heap.size 39 #[.int .i64 o.x,.int .i64 o.y] from ((((ah.made rfl _ _).alloc _).alloc _).alloc _).keep hb1);have dI:=avE (show ah w1 (w.heap.size+1) 39 #[.int .i64 a.x,.int .i64 a.y] from (((ah.made ars _ _).alloc _).alloc _).keep hb1);have dF:=avE (show ah w1 (w.heap.size+1+1) 39 #[.int .i64 b.x,.int .i64 b.y] from ((ah.made ars _ _).alloc _).keep hb1);clear hb1 hd1 Ju HN;have X3:=dW.out;have X4:=dI.out;have X5:=dF.out;obtain ⟨bH,bU,bY,-,-⟩:=X3.aQ;obtain ⟨aV,aX,bn,-,-⟩:=X4.aQ;obtain ⟨bI,bJ,bV,-,-⟩:=X5.aQ
 cases z
 case false =>
  go_wp2;go_ret;exact ⟨aY avl,B1.out,D1.out⟩
 cases z1
 case true =>
  go_wp2;go_ret;exact ⟨aY avl,B1.out,D1.out⟩
 cases z2
 case true =>
  go_wp2;go_ret;exact ⟨aY avl,B1.out,D1.out⟩
 have hr:=Hr.out;simp only [Bool.true_and,Bool.not_false] at hr;have HT2:=avE (HT.out rfl);clear HT Hr Hz;go_upto_region 3 with fail;refine dH (w1) (.take 0 1 (.take 1 3 (.take 3 11 (.take 4 27 (.call 2 31 (.call 5 63 (.take 6 127 (.done)))))))) fun bZ QR aB aH hS=>?_
 iterate 4 refine aC ?_
 refine bK ?_;clear hS;intro K hK ak;go_simp;refine (H1.out _).mono ?_;rintro e cZ ⟨rfl,bW,ags⟩;have hS:Since w1 cZ:=bT (w:=w1) ak.out bW;clear ak;refine hK.out _ _ hS (fun _=>?_);clear hK K
 try simp only [pu]
 refine bK ?_;clear hS;intro K hK ak;go_simp;refine (H2.out _).mono ?_;rintro e wr2 ⟨rfl,iW,agt⟩;have hS:Since w1 wr2:=bT (w:=w1) ak.out iW;clear ak;refine hK.out _ _ hS (fun _=>?_);clear hK K
 try simp only [pu]
 refine aC ?_;refine dB ?_;clear hS aH aB;intro hB;have B2:=avE (bT B1.out hB);have D2:=avE (dT (dT (dD D1.out) ags) agt);replace dW:=avE (dW.out.keep hB);replace dI:=avE (dI.out.keep hB);replace dF:=avE (dF.out.keep hB);clear hB ags agt X3 X4 X5 bH bU bY aV aX bn bI bJ bV;have X3:=dW.out;have X4:=dI.out;have X5:=dF.out
 try clear bH
 try clear bU
 try clear bY
 obtain ⟨bH,bU,bY,-,-⟩:=X3.aQ
 try clear aV
 try clear aX
 try clear bn
 obtain ⟨aV,aX,bn,-,-⟩:=X4.aQ
 try clear bI
 try clear bJ
 try clear bV
 obtain ⟨bI,bJ,bV,-,-⟩:=X5.aQ;by_cases hl:l1=l2
 ·subst hl;rw [if_pos rfl] at hr;have Hr:=avE hr;clear hr
  cases l1
  all_goals
   go_wp2_with fail;refine (HT2.out _).mono ?_;rintro e w3 ⟨rfl,hb3,hd3⟩;have B3:=avE (bT B2.out hb3);have D3:=avE (dT D2.out hd3);clear hb3 hd3;go_wp2;go_ret;exact ⟨aY (by rw [<- Hr.out,<- Hq.out]),B3.out,D3.out⟩
 ·rw [if_neg hl] at hr;have Hr:=avE hr;have hl2:l2 = !l1:=by cases l1<;>cases l2<;>simp_all
  clear hl hr;subst hl2
  cases l1
  all_goals
   go_wp2_with fail;refine (H2.out _).mono ?_;rintro e w3 ⟨rfl,hb3,hd3⟩;have B3:=avE (bT B2.out hb3);have D3:=avE (dT D2.out hd3);clear hb3 hd3;go_wp2;go_ret;exact ⟨aY Hr.out,B3.out,D3.out⟩
theorem agu (o a:Pt) (w:World) (ho:lim o) (ha:lim a):Calls Tryz.prog 292 #[aK o,aK a] w fun e w'=>e=.returned (.int .i64 (Fp o a))/\Below w.heap.size w w':=by
 obtain ⟨o1,o2,o3,o4⟩:=ho;obtain ⟨a1,a2,a3,a4⟩:=ha;have k1:IntKind.i64.wrap (a.x-o.x)=a.x-o.x:=avS _ Pe;have k2:IntKind.i64.wrap (a.y-o.y)=a.y-o.y:=avS _ Pe;obtain ⟨q,hq⟩:∃ q,Fp o a=q:=⟨_,rfl⟩;rw [hq];have Hq:=avE hq;unfold aK;clear o1 o2 o3 o4 a1 a2 a3 a4 hq;go_enter Tryz.func292,Tryz.ntmps292;go_upto_region 1 with fail;obtain ⟨W,hW⟩:∃ W:World,W=(w.alloc (.cells #[.int .i64 o.x,.int .i64 o.y] 39)).alloc (.cells #[.int .i64 a.x,.int .i64 a.y] 39):=⟨_,rfl⟩;have BW:Below w.heap.size w W:=by rw [hW];exact bA (bA (bR w) _) _
 have X2:ah W w.heap.size 39 #[.int .i64 o.x,.int .i64 o.y]:=by rw [hW];exact (ah.made rfl _ _).alloc _
 have X3:ah W (w.heap.size+1) 39 #[.int .i64 a.x,.int .i64 a.y]:=by rw [hW];exact ah.made ars _ _
 rw [<- hW];clear hW;obtain ⟨aG,aI,aJ,-,-⟩:=X2.aQ;obtain ⟨bH,bU,bY,-,-⟩:=X3.aQ;refine dH (W) (.run 12 0 0 (.done)) fun bZ QR aB aH hS=>?_
 iterate 12 refine aC ?_
 refine dB ?_;clear hS aH aB;intro hB;have B1:=avE (bT BW hB);clear hB BW X2 X3 aG aI aJ bH bU bY;have hqq:=Hq.out;unfold Fp at hqq;generalize a.x-o.x=x at *;generalize a.y-o.y=y at *;replace Hq:=avE hqq;clear hqq;by_cases h1:0<x
 ·by_cases h2:0<=y
  ·go_wp2;go_ret;exact ⟨dL (by rw [<- Hq.out,if_pos Pe]),B1.out⟩
  ·have h3:¬ x<=0:=by omega
   have h4:¬ x<0:=by omega
   go_wp2;go_ret;exact ⟨dL (by rw [<- Hq.out,if_neg Pe,if_neg Pe,if_neg Pe]),B1.out⟩
 ·have h3:x<=0:=by omega
  by_cases h2:0<y
  ·go_wp2;go_ret;exact ⟨dL (by rw [<- Hq.out,if_neg Pe,if_pos Pe]),B1.out⟩
  ·by_cases h4:x<0
   ·go_wp2;go_ret;exact ⟨dL (by rw [<- Hq.out,if_neg Pe,if_neg Pe,if_pos Pe]),B1.out⟩
   ·go_wp2;go_ret;exact ⟨dL (by rw [<- Hq.out,if_neg Pe,if_neg Pe,if_neg Pe]),B1.out⟩
theorem an0 (o a b:Pt) (w:World):Calls Tryz.prog 275 #[aK o,aK a,aK b] w fun e w'=>e=.returned (.bool (Fq o a b))/\Below w.heap.size w w':=by
 have TN:=fun (v:Value) W=>J9 v [o,a,b] W;have La:=fun (h:eu [o,a,b]=true) W=>agu o a W (Dz h).1 (Dz h).2.1;have Lc:=fun (h:eu [o,a,b]=true) W=>agu o b W (Dz h).1 (Dz h).2.2;have TT:=fun (h:eu [o,a,b]=true) W=>Ux o a o b W (Dz h).1 (Dz h).2.1 (Dz h).1 (Dz h).2.2;have E1:=yT a o;have E2:=yT b o;obtain ⟨r,hr⟩:∃ r,Fq o a b=r:=⟨_,rfl⟩;rw [hr];unfold Fq at hr;unfold aK at La Lc TT ⊢;have HN:=avE TN;have H1:=avE La;have H2:=avE Lc;have HT:=avE TT;clear TN La Lc TT;generalize hz:eu [o,a,b]=z at *;generalize decide (a=o)=z1 at *;generalize decide (b=o)=z2 at *;generalize hl1:Fp o a=l1 at *;generalize hl2:Fp o b=l2 at *;generalize hq:aP o a o b=q at *;have Hr:=avE hr;clear hr hq hz hl1 hl2;go_enter Tryz.func275,Tryz.ntmps275;go_wp2_with fail;have Ju:Hid (dM ((((w.alloc (.cells #[.int .i64 o.x,.int .i64 o.y] 39)).alloc (.cells #[.int .i64 a.x,.int .i64 a.y] 39)).alloc (.cells #[.int .i64 b.x,.int .i64 b.y] 39)).alloc (.cells #[.int .i64 o.x,.int .i64 o.y,.int .i64 a.x,.int .i64 a.y,.int .i64 b.x,.int .i64 b.y] 39)) (.slice (some ⟨w.heap.size+1+1+1,0,none⟩) 3 3) [o,a,b]):=avE (dM.DW (ah.made ars _ _));refine (HN.out _ _ Ju.out).mono ?_;rintro e w1 ⟨rfl,hb1⟩;have B1:=avE (bT (bA (bA (bA (bA (bR w) _) _) _) _) hb1);have dW:=avE (show ah w1 w.heap.size 39 #[.int .i64 o.x,.int .i64 o.y] from ((((ah.made rfl _ _).alloc _).alloc _).alloc _).keep hb1);have dI:=avE (show ah w1 (w.heap.size+1) 39 #[.int .i64 a.x,.int .i64 a.y] from (((ah.made ars _ _).alloc _).alloc _).keep hb1);have dF:=avE (show ah w1 (w.heap.size+1+1) 39 #[.int .i64 b.x,.int .i64 b.y] from ((ah.made ars _ _).alloc _).keep hb1);clear hb1 Ju HN;have X3:=dW.out;have X4:=dI.out;have X5:=dF.out;obtain ⟨bH,bU,bY,-,-⟩:=X3.aQ;obtain ⟨aV,aX,bn,-,-⟩:=X4.aQ;obtain ⟨bI,bJ,bV,-,-⟩:=X5.aQ
 cases z
 case false =>
  go_wp2;go_ret;exact ⟨aY avl,B1.out⟩
 cases z1
 case true =>
  go_wp2;go_ret;exact ⟨aY avl,B1.out⟩
 cases z2
 case true =>
  go_wp2;go_ret;exact ⟨aY avl,B1.out⟩
 have hr:=Hr.out;simp only [Bool.true_and,Bool.not_false] at hr;have HT2:=avE (HT.out rfl);have uS:=avE (H1.out rfl);have Jv:=avE (H2.out rfl);clear HT Hr H1 H2;go_upto_region 3 with fail;refine dH (w1) (.take 0 1 (.take 1 3 (.take 3 11 (.take 4 27 (.call 2 31 (.call 5 63 (.take 6 127 (.take 7 255 (.done))))))))) fun bZ QR aB aH hS=>?_
 iterate 4 refine aC ?_
 refine fV (uS.out _) ?_;clear hS;intro cZ bW hS;refine fV (Jv.out _) ?_;clear hS;intro wr2 iW hS
 iterate 2 refine aC ?_
 refine dB ?_;clear hS aH aB;intro hB;have B2:=avE (bT B1.out hB);replace dW:=avE (dW.out.keep hB);replace dI:=avE (dI.out.keep hB);replace dF:=avE (dF.out.keep hB);clear hB X3 X4 X5 bH bU bY aV aX bn bI bJ bV;have X3:=dW.out;have X4:=dI.out;have X5:=dF.out
 try clear bH
 try clear bU
 try clear bY
 obtain ⟨bH,bU,bY,-,-⟩:=X3.aQ
 try clear aV
 try clear aX
 try clear bn
 obtain ⟨aV,aX,bn,-,-⟩:=X4.aQ
 try clear bI
 try clear bJ
 try clear bV
 obtain ⟨bI,bJ,bV,-,-⟩:=X5.aQ;by_cases hlt:l1<l2
 ·rw [avW hlt] at hr;have Hr:=avE hr;clear hr;go_wp2;go_ret;exact ⟨aY avl,B2.out⟩
 ·rw [avV hlt,Bool.false_or] at hr;by_cases hl:l1=l2
  ·have hl':(l1 == l2)=true:=by simpa using hl
   rw [avW hl,Bool.true_and] at hr;have Hr:=avE hr;clear hl hr;go_wp2_with fail;refine (HT2.out _).mono ?_;rintro e w3 ⟨rfl,hb3⟩;have B3:=avE (bT B2.out hb3);clear hb3;go_wp2;go_ret;exact ⟨aY Hr.out,B3.out⟩
  ·have hl':(l1 == l2)=false:=by simpa using hl
   rw [avV hl,Bool.false_and] at hr;have Hr:=avE hr;clear hl hr;go_wp2;go_ret;exact ⟨aY Hr.out,B2.out⟩
open Go.RowKit Go.Sort
theorem Own.shape {α:Type} {w:World} {base:Nat} {e:TypeId} {size:Nat} {f:α->List Value} {v:Value} {l:List α} (h:Own w base e size f v l):∃ A c,v=.slice A l.length c/\l.length<=c/\c<=maxLen:=by
 obtain ⟨A,c,rfl,h1,h2,-⟩:=Own.sl h;exact ⟨A,c,rfl,h1,h2⟩
structure Ld (w:World) (B g4 g7 gm n:Nat) (dl:List Int) (f:Int->Pt) (v:Value):Prop where
 x4:ah w g4 24 #[v]
 own:Own w B 3 1 dw v dl
 x7:ah w g7 189 #[.map (some gm)]
 mp:kX w gm n f
 b4:B<=g4
 bm:B<=gm
theorem aa4 {w:World} {gm n:Nat} {f:Int->Pt} (h:kX w gm n f) {g:Nat} {t:TypeId} {cs:Array Value} (hg:ah w g t cs):g≠gm:=by
 rintro rfl;obtain ⟨D,h1,-⟩:=h;obtain ⟨es,clock,h2,-⟩:=h1;unfold ah at hg;rw [hg] at h2
 cases h2
theorem aa5 {w:World} {gm n:Nat} {f:Int->Pt} (h:kX w gm n f) {base:Nat} {e:TypeId} {size:Nat} {α:Type} {fe:α->List Value} {v:Value} {l:List α} (ho:Own w base e size fe v l):v.ownBlock≠some gm:=by
 rcases ho.2 with ⟨rfl,_⟩ | ⟨g,cap,cur,rfl,_,hh,_⟩
 · simp [Value.ownBlock]
 ·intro e';exact aa4 h (cs:=cur) (g:=g) hh avt
theorem an1 (d:Int) (q:Pt) (B g4 g7 gm n:Nat) (dl:List Int) (f:Int->Pt) (v:Value) (w:World) (h:Ld w B g4 g7 gm n dl f v) (hB:B<=w.heap.size) (hn:n<4294967296) (hl:dl.length<=1000000) (hd:eU d) :
  Calls Tryz.prog 174 #[.int .i64 d,.agg #[.int .i64 q.x,.int .i64 q.y],.pointer (some ⟨g4,0,none⟩),.pointer (some ⟨g7,0,none⟩)] w fun e w'=>e=.returned (.tuple #[])/\(∃ v',Ld w' B g4 g7 gm (n+1) (dl++[d]) (fun i=>if i=d then q else f i) v')/\Below B w w'/\∀ g t cs,ah w g t cs->g≠g4->g≠gm->v.ownBlock≠some g->ah w' g t cs:=by
 obtain ⟨x4,own,x7,mp,b4,bm⟩:=h;obtain ⟨A,c,rfl,-⟩:=Own.shape own;have dI:=avE x4;have HO:=avE own;have lS:=avE x7;have HM:=avE mp;have n47:g4≠g7:=ah.J3 x4 x7 arC;have Q8:=aa4 mp x4;have VH:=aa4 mp x7;have VI:=Own.iO own x4 arC;have no7:=Own.iO own x7 arC;have Q9:=aa5 mp own;clear own mp;have NT:=avE hd;clear hd;have X4:=x4;have X7:=x7;clear x4 x7;obtain ⟨aV,aX,dV⟩:=X4.iV;obtain ⟨dY,dZ,-⟩:=X7.iV;go_enter Tryz.func174,Tryz.ntmps174;go_upto_region 1 with fail;obtain ⟨W0,hW⟩:∃ W:World,W=w.alloc (.cells #[.int .i64 q.x,.int .i64 q.y] 39):=⟨_,rfl⟩;have hA0:Below w.heap.size w W0:=by rw [hW];exact bA (bR w) _
 have X5:ah W0 w.heap.size 39 #[.int .i64 q.x,.int .i64 q.y]:=by rw [hW];exact ah.made rfl _ _
 rw [<- hW];clear hW;replace X4:=X4.keep hA0;replace X7:=X7.keep hA0;have Rf:=avE (HO.out.keep hA0);have KA:=avE (HM.out.keep hA0);have zI:=avE hA0;have hlt4:g4<w.heap.size:=dI.out.lt;have hz0:=hA0.size;clear hA0 aV aX dV dY dZ
 try clear aV
 try clear aX
 try clear dV
 obtain ⟨aV,aX,dV⟩:=X4.iV;obtain ⟨bI,bJ,bV,-,-⟩:=X5.aQ
 try clear dY
 try clear dZ
 obtain ⟨dY,dZ,-⟩:=X7.iV;have n54:w.heap.size≠g4:=by omega
 have n57:w.heap.size≠g7:=by have:=lS.out.lt;omega
 have an2:=HM.out.lt;go_upto_region 2 with
  (at_builtin
   refine iZ _ rfl (.tmp 6) (.tmp 8) _ rfl (base:=B) jR jB jT rfl (Own.alloc Rf.out _) rfl (l2:=[d]) (Sl.lit (n:=1) (ah.made rfl _ _) rfl (dP Pe)) afr afr arV ?_;intro v1 w1 ho1 hg1 yx;obtain ⟨A1,c1,hv1,-⟩:=Own.shape ho1;rw [show (dl++[d]).length=dl.length+1 by simp] at hv1;subst hv1;have ku:=avE ho1;have hB1:Below B W0 w1:=Below.grown (Below.alloc (Below.refl _ _) Pe _) hg1 arV (fun g hg=>(Rf.out.lt g hg).1);have HB1:=avE hB1;have Rh:some w.heap.size≠(Value.slice A dl.length c).ownBlock:=fun e=>by have:=(HO.out.lt _ e.symm).2;omega
   replace X4:=ah.grown (X4.alloc _) hg1 (fun e=>VI e.symm);replace X5:=ah.grown (X5.alloc _) hg1 Rh;replace X7:=ah.grown (X7.alloc _) hg1 (fun e=>no7 e.symm);have mZ:=avE ((KA.out.keep (bA (bR W0) _)).kept hg1 (fun e=>Q9 e.symm));have HK1:=avE (fun g t cs (h:ah w g t cs) (hne:(Value.slice A dl.length c).ownBlock≠some g)=>ah.grown ((h.keep zI.out).alloc (.cells #[.int .i64 d] 3)) hg1 (fun e=>hne e.symm));clear ho1 hg1 yx hB1 aV aX dV bI bJ bV dY dZ
   try clear aV
   try clear aX
   try clear dV
   obtain ⟨aV,aX,dV⟩:=X4.iV
   try clear bI
   try clear bJ
   try clear bV
   obtain ⟨bI,bJ,bV,-,-⟩:=X5.aQ
   try clear dY
   try clear dZ
   obtain ⟨dY,dZ,-⟩:=X7.iV
   )
 obtain ⟨W2,hW2⟩:∃ W:World,W=w1.setCell ⟨g4,0,none⟩ (.slice A1 (dl.length+1) c1):=⟨_,rfl⟩;have an3:=Own.iO ku.out X4 arC;have Y4:ah W2 g4 24 #[.slice A1 (dl.length+1) c1]:=by rw [hW2];exact ah.YJ X4
 have Y7:ah W2 g7 189 #[.map (some gm)]:=by rw [hW2];exact X7.far (fun e=>n47 e.symm) _
 have Y5:ah W2 w.heap.size 39 #[.int .i64 q.x,.int .i64 q.y]:=by rw [hW2];exact X5.far n54 _
 have YO:Own W2 B 3 1 dw (.slice A1 (dl.length+1) c1) (dl++[d]):=by rw [hW2];exact ku.out.far an3 _
 have YM:kX W2 gm n f:=by
  rw [hW2];exact mZ.out.kept (row:=some g4) ⟨rfl,rfl,rfl,by simp,fun i _ hne=>Below.heap_setCell w1 ⟨g4,0,none⟩ _ i (fun e=>hne avA)⟩ (fun e=>Q8 (avP e).symm)
 have YB:Below B w W2:=by rw [hW2];exact (Below.trans (zI.out.mono hB) HB1.out).setCell b4 _
 rw [<- hW2];clear X4 X5 X7 aV aX dV bI bJ bV dY dZ;obtain ⟨w3,hr3,qm,hg3⟩:=YM.upd hn d NT.out q;have Z4:=avE (ah.grown Y4 hg3 (fun e=>Q8 (avP e)));have Z7:=avE (ah.grown Y7 hg3 (fun e=>VH (avP e)));have ZO:=avE (Own.grown YO hg3 (fun g' hg' e=>aa5 YM YO (by rw [hg',e])));have ZM:=avE qm;have ZB:=avE (YB.grown hg3 (by have:=YB.size;omega) (fun g hg=>by have:=avP hg;omega));have HK:=avE (show ∀ g t cs,ah w g t cs->g≠g4->g≠gm->(Value.slice A dl.length c).ownBlock≠some g->ah w3 g t cs from fun g t cs h h4 hm' ho=>by
  refine ah.grown ?_ hg3 (fun e=>hm' (avP e));rw [hW2];exact (HK1.out g t cs h ho).far h4 _)
 unfold aK at hr3;clear qm hg3 YO YM YB Y4 hW2;obtain ⟨Y5l,Y5a,Y5b,-,-⟩:=Y5.aQ;obtain ⟨Y7l,Y7a,-⟩:=Y7.iV;go_wp2_with fail;exact bodyPost_end (v:=.tuple #[]) (results_none rfl _ _ _) rfl ⟨rfl,⟨_,Z4.out,ZO.out,Z7.out,ZM.out,b4,bm⟩,ZB.out,HK.out⟩
def an4 (z1 z2:Bool):Int:=if z1 then -1 else if z2 then 1 else 0
theorem an5 (nd:Nd) (x y:Int) (g5 g7 gm n:Nat) (f:Int->Pt) (w:World) (h5:ah w g5 45 #[.int .i64 nd.id,.int .i64 nd.pt.x,.int .i64 nd.pt.y]) (h7:ah w g7 189 #[.map (some gm)]) (hm:kX w gm n f) (hx:eU x) (hy:eU y) :
  Calls Tryz.prog 176 #[.int .i64 x,.int .i64 y,.pointer (some ⟨g5,0,none⟩),.pointer (some ⟨g7,0,none⟩)] w fun e w'=>e=.returned (.int .i64 (Jt (fun a b=>xX nd.pt (f a) (f b)) x y))/\yY w w':=by
 have T1:=fun W=>agr nd.pt (f x) (f y) W;have T2:=fun W=>agr nd.pt (f y) (f x) W;have L1:=hm.look x hx;have L2:=hm.look y hy;have HM:=avE hm;have H5:=avE h5;have H7:=avE h7;unfold aK at T1 T2 L1 L2;have HX:=avE hx;have HY:=avE hy;obtain ⟨r,hr⟩:∃ r,Jt (fun a b=>xX nd.pt (f a) (f b)) x y=r:=⟨_,rfl⟩;rw [hr];replace hr:an4 (xX nd.pt (f x) (f y)) (xX nd.pt (f y) (f x))=r:=hr;obtain ⟨z1,hz1⟩:∃ z1,xX nd.pt (f x) (f y)=z1:=⟨_,rfl⟩;obtain ⟨z2,hz2⟩:∃ z2,xX nd.pt (f y) (f x)=z2:=⟨_,rfl⟩;rw [hz1] at T1 hr;rw [hz2] at T2 hr;have Hr:=avE hr;have H1:=avE T1;have H2:=avE T2;clear T1 T2 hm hx hy hz1 hz2 hr;have X5:=h5;have X7:=h7;clear h5 h7;obtain ⟨bI,bJ,bV,jk,-,-,-⟩:=X5.aF;obtain ⟨dY,dZ,-⟩:=X7.iV;go_enter Tryz.func176,Tryz.ntmps176;go_wp2_with fail;refine (H1.out _).mono ?_;rintro e w1 ⟨rfl,hb1,hd1⟩;have B1:=avE hb1;have D1:=avE hd1;clear hb1 hd1 X5 X7 bI bJ bV jk dY dZ L1 L2
 cases z1
 case true =>
  go_wp2;go_ret;exact ⟨dL avl,B1.out,D1.out⟩
 have X5:=H5.out.keep B1.out;have X7:=H7.out.keep B1.out;have mZ:=HM.out.keep B1.out;have L1:=mZ.look x HX.out;have L2:=mZ.look y HY.out;unfold aK at L1 L2;clear mZ
 try clear bI
 try clear bJ
 try clear bV
 try clear jk
 obtain ⟨bI,bJ,bV,jk,-,-,-⟩:=X5.aF
 try clear dY
 try clear dZ
 obtain ⟨dY,dZ,-⟩:=X7.iV;go_wp2_with fail;refine (H2.out _).mono ?_;rintro e w2 ⟨rfl,hb2,hd2⟩;have B2:=avE (bT B1.out hb2);have D2:=avE (dT D1.out hd2);clear hb2 hd2 X5 X7 bI bJ bV jk dY dZ L1 L2
 cases z2
 ·go_wp2;go_ret;exact ⟨dL avl,B2.out,D2.out⟩
 ·go_wp2;go_ret;exact ⟨dL avl,B2.out,D2.out⟩
open Go.RowKit Go.Sort
theorem agv {P:Program} {fn:Func} {p:Tmp} {ty t:TypeId} {R:Ending->World->Prop} {a:Act} {w:World} {g:Nat} {v:Value} (h:fn.results=#[.cell p ty])
  (hS:∀ w,(isAgg ty).run P w=.ok false w) (hp:a.tmps.getD p undef=.pointer (some ⟨g,0,none⟩)) (hd:a.defers=[]) (hb:ah w g t #[v]) (hR:R (.returned v) w):bodyPost P fn R .ret a w:=by
 refine bodyPost_ret ?_ hd hR;have hp':a.tmps[p]?.getD undef=.pointer (some ⟨g,0,none⟩):=by simpa using hp
 have hc:w.cell? ⟨g,0,none⟩=some v:=by rw [hb.cell];rfl
 simp only [results,h];simp [hp',asAddr,loadVar,Sem.run_bind,Sem.run_pure,Result.andThen,hS,hc]
theorem agw:∀ w,(isAgg 24).run Tryz.prog w=.ok false w:=fun _=>by kernel_rfl
def VJ (w:World) (l:List Int) (e:Ending) (w':World):Prop :=
 ∃ A c,e=.returned (.slice A l.length c)/\Below w.heap.size w w'/\Own w' w.heap.size 3 1 dw (.slice A l.length c) l
theorem Valid.agx {p:Pl} (h:Valid p) {n d:Int} (hd:d∈eG p.aj n):eU d:=by
 obtain ⟨a,ha,e⟩:=wJ.1 hd;have:=h.kC ha
 rcases e with ⟨rfl,-⟩ | ⟨rfl,-⟩
 · exact qX Pe Pe
 · exact qX Pe Pe
theorem agy (l:List Ar) (n:Int) (k:Nat) (hk:k<l.length):eG (l.take (k+1)) n=eG (l.take k) n++((if l[k].fr=n then [l[k].id] else [])++(if l[k].dst=n then [-l[k].id] else [])):=by
 unfold eG;rw [avH hk,List.flatMap_append];simp
theorem Ri (l:List Ar) (n:Int):(eG l n).length<=2*l.length:=by
 unfold eG
 induction l with
 | nil=>simp
 | cons a l ih =>
  rw [av5,avL,avL,avO];have h1:(if a.fr=n then [a.id] else []).length<=1:=by split<;>simp
  have h2:(if a.dst=n then [-a.id] else []).length<=1:=by split<;>simp
  omega
theorem Own.an6 {α:Type} {w w':World} {base:Nat} {e:TypeId} {size:Nat} {f:α->List Value} {v:Value} {l:List α} (h:Own w base e size f v l) (hk:∀ g t cs,base<=g->ah w g t cs->ah w' g t cs):Own w' base e size f v l:=by
 obtain ⟨h1,h2⟩:=h;refine ⟨h1,?_⟩;rcases h2 with h2 | ⟨g,cap,cur,hv,hg,hh,r⟩
 · exact .inl h2
 ·subst hv;exact .inr ⟨g,cap,cur,rfl,hg,hk g e cur hg hh,r⟩
theorem Rj {p:Pl} {D:List Int} {f:Int->Pt} (h:∀ d∈D,f d=fC p d) {x:Int} {q:Pt} (hx:fC p x=q):∀ d∈D++[x],(fun i=>if i=x then q else f i) d=fC p d:=by
 intro d hd;by_cases e:d=x
 · subst e;simp [hx]
 ·simp only [av1,avY,e,or_false] at hd;simp [e,h d hd]
theorem Own.agz {w:World} {base:Nat} {A:Option Addr} {n c:Nat} {l:List Pt} (h:Own w base 39 2 dU (.slice A n c) l):Row w A (l.flatMap dU):=by
 obtain ⟨A',c',he,_,_,hr⟩:=h.sl;injection he with e1 e2 e3;subst e1;exact hr
theorem Ld.keep {w w':World} {B g4 g7 gm n:Nat} {dl:List Int} {f:Int->Pt} {v:Value} (h:Ld w B g4 g7 gm n dl f v) (hb:Below w.heap.size w w'):Ld w' B g4 g7 gm n dl f v :=
 ⟨h.x4.keep hb,h.own.keep hb,h.x7.keep hb,h.mp.keep hb,h.b4,h.bm⟩
theorem an7 (v:Value) (p:Pl) (n:Int) (w:World) (h:bQ w v p) (hv:Valid p) :
  Calls Tryz.prog 116 #[v,.int .i64 n] w (VJ w (dJ p n)):=by
 have Rk:=avE (fun W (hW:Below w.heap.size w W)=>adi v p n W (h.mono hW));have an8:=avE (fun id W (hW:Below w.heap.size w W)=>Nz v p id W (h.mono hW) hv.short);obtain ⟨_,_,_,al,rfl,hpa,⟨An,cn,rfl,-⟩,⟨⟨Aa,ca,rfl,hn1,hn2,hR⟩,QY⟩,⟨Af,cf,rfl,-⟩⟩:=h;unfold maxLen at hn2;have HR:=avE hR;have KY:=avE QY;have HV:=avE hv;have oI:=avE hpa;generalize hnn:p.nodes.length=nn at *;generalize p.faces.length=nf at *;obtain ⟨q,hq⟩:∃ q,dJ p n=q:=⟨_,rfl⟩;rw [hq];have Hq:=avE hq;have hall:al.length<=256:=by
  have hl:=hv.lim;unfold nC at hl;simp only [Bool.or_eq_false_iff,avX] at hl;have h2:=hl.2;rw [hpa,avM] at h2;omega
 clear hpa hR QY hv hq hnn;go_enter Tryz.func116,Tryz.ntmps116;go_wp2_with fail;refine (Rk.out _ (bA (bA (bR w) _) _)).mono ?_;rintro e w1 ⟨rfl,hb1⟩;have X2:ah w1 w.heap.size 26 #[.slice An nn cn,.slice Aa al.length ca,.slice Af nf cf]:=((ah.made rfl _ _).alloc _).keep hb1;have X4:ah w1 (w.heap.size+1) 24 #[.slice none 0 0]:=(ah.made ars _ _).keep hb1;have B1:=avE (bT (bA (bA (bR w) _) _) hb1);clear hb1;unfold Nh Pm
 cases hfn:mP p.nodes n with
 | none =>
  have hf:q=[]:=by rw [<- Hq.out];unfold dJ;rw [hfn]
  subst hf;clear hfn;simp only [Option.getD_none,Option.isSome_none];obtain ⟨aV,aX,dV⟩:=X4.iV;go_wp2_with fail;refine agv (g:=w.heap.size+1) (v:=.slice none 0 0) rfl agw rfl rfl ((ah.YJ X4).alloc _) ⟨none,0,rfl,?_,Own.nil _ _ _ _ _⟩;have Bw:=B1.out;exact eF
 | some nd =>
  have hnd:nd∈p.nodes/\nd.id=n:=⟨List.mem_of_find?_eq_some hfn,by have:=List.find?_some hfn;simpa using this⟩;obtain ⟨hnm,rfl⟩:=hnd;have hAr:=HV.out.Vf hnm;rw [Hq.out] at hAr;have pO:=avE hAr;have uT:=avE hnm;clear hfn hAr hnm Hq;simp only [avU,Option.isSome_some];obtain ⟨aG,aI,aJ,aO,-,-,-⟩:=X2.aF
  try clear aV
  try clear aX
  try clear dV
  obtain ⟨aV,aX,dV⟩:=X4.iV;have KA:=avE (kX.made (w1.alloc (.cells #[.int .i64 nd.id,.int .i64 nd.pt.x,.int .i64 nd.pt.y] 45)));have hmm:=@run_makeMap Tryz.prog;go_upto_region 5 with fail;obtain ⟨W5,hW⟩:∃ W:World,W=((w1.alloc (.cells #[.int .i64 nd.id,.int .i64 nd.pt.x,.int .i64 nd.pt.y] 45)).alloc (.map #[] 0)).alloc (.cells #[.map (some (w1.heap.size+1))] 189):=⟨_,rfl⟩;have hA:Below w1.heap.size w1 W5:=by rw [hW];exact bA (bA (bA (bR w1) _) _) _
  have dF:=avE (show ah W5 w1.heap.size 45 #[.int .i64 nd.id,.int .i64 nd.pt.x,.int .i64 nd.pt.y] by rw [hW];exact ((ah.made rfl _ _).alloc _).alloc _);have lS:=avE (show ah W5 (w1.heap.size+1+1) 189 #[.map (some (w1.heap.size+1))] by rw [hW];exact ah.made ars _ _);have Jw:=avE (show kX W5 (w1.heap.size+1) 0 (fun _=>z0) by
   rw [hW];have h1:=KA.out;rw [show (w1.alloc (.cells #[.int .i64 nd.id,.int .i64 nd.pt.x,.int .i64 nd.pt.y] 45)).heap.size=w1.heap.size+1 by simp] at h1;exact h1.keep (bA (bR _) _))
  have dh:=avE (X2.keep hA);have dI:=avE (X4.keep hA);have B5:=avE (bT B1.out hA);have hz1:w.heap.size+2<=w1.heap.size:=by have:=X4.lt;omega
  rw [<- hW];clear hW hA X2 X4 aG aI aJ aO aV aX dV KA hmm;obtain ⟨g5,hg5⟩:∃ g5,w1.heap.size=g5:=⟨_,rfl⟩;rw [hg5] at dF lS Jw hz1 ⊢;clear hg5;have X2:=dh.out
  try clear aG
  try clear aI
  try clear aJ
  try clear aO
  obtain ⟨aG,aI,aJ,aO,-,-,-⟩:=X2.aF;have Ol:=avE (@an1);go_upto_block 0 with fail;go_wp2_with fail;go_loopw [26] (fun i wr=>∃ (k:Nat) (f:Int->Pt) (vl:Value) (cnt:Nat),k<=al.length/\i=.int .i64 k/\cnt<=2*k/\Ld wr (w.heap.size+1) (w.heap.size+1) (g5+1+1) (g5+1) cnt (eG (p.aj.take k) nd.id) f vl/\(∀ d∈eG (p.aj.take k) nd.id,f d=fC p d)/\Below w.heap.size w wr/\ah wr w.heap.size 26 #[.slice An nn cn,.slice Aa al.length ca,.slice Af nf cf]/\ah wr g5 45 #[.int .i64 nd.id,.int .i64 nd.pt.x,.int .i64 nd.pt.y]) (fun i _=>al.length-(intOf i).toNat)
  case atStart => exact ⟨0,fun _=>z0,.slice none 0 0,0,avK _,rfl,by omega,⟨dI.out,Own.nil _ _ _ _ _,lS.out,Jw.out,by omega,by omega⟩,(fun d h=>by simp [eG] at h),B5.out,dh.out,dF.out⟩
  case round =>
   obtain ⟨k,f,vl,cnt,hk,rfl,hcnt,agA,hf,hb,X2,X5⟩:=hrel;have Hb:=avE hb;have BL:=avE agA;have Hf:=avE hf;have dh:=avE X2;have dF:=avE X5;clear hb agA hf
   try clear aG
   try clear aI
   try clear aJ
   try clear aO
   obtain ⟨aG,aI,aJ,aO,-,-,-⟩:=X2.aF;have hzr:=Hb.out.size;have aut:g5+1+1<wr.heap.size:=BL.out.x7.lt;by_cases hlt:k<al.length
   case neg =>
    have hkk:k=al.length:=by omega
    have ht:p.aj.take k=p.aj:=List.take_of_length_le (by rw [oI.out,avM];omega);rw [ht] at BL Hf;have HF:=Hf;clear ht;subst hkk;obtain ⟨x4,own,x7,mp,b4,bm⟩:=BL.out;obtain ⟨A,c,rfl,-⟩:=Own.shape own;have hlen:=Ri p.aj nd.id;rw [show p.aj.length=al.length by rw [oI.out,avM]] at hlen;have HS:=avE (anW (w.heap.size+1) _ (eG p.aj nd.id) (ltD p nd.pt) 176 #[.pointer (some ⟨g5,0,none⟩),.pointer (some ⟨g5+1+1,0,none⟩)] wr own (HV.out.Qu uT.out) Pe (enters_of Tryz.func176 atF rfl)
     (fun W hW x hx y hy=>by
      have h:=an5 nd x y g5 (g5+1+1) (g5+1) cnt f W (dF.out.grown hW (fun e=>Own.iO own dF.out arC e.symm)) (x7.grown hW (fun e=>Own.iO own x7 arC e.symm)) (mp.kept hW (fun e=>aa5 mp own e.symm)) (HV.out.agx hx) (HV.out.agx hy);have he:Jt (fun a b=>xX nd.pt (f a) (f b)) x y=Jt (ltD p nd.pt) x y:=by
       unfold Jt ltD;simp only [HF.out x hx,HF.out y hy]
      rw [he] at h;exact h))
    have VI:=Own.iO own x4 arC;have hown:=Own.lt own;have Le:=avE hown;have HB4:=avE b4;have X4:=x4;have auu:=avE x4;have jL:=avE VI;have hpm:(sortB (ltD p nd.pt) (eG p.aj nd.id)).length=(eG p.aj nd.id).length:=((KI (HV.out.Qu uT.out)).1).length_eq;rw [<- pO.out] at hpm HS;have wQ:=avE hpm;clear x4 own x7 mp b4 bm VI hown hpm hlen HF Hf BL;generalize eG p.aj nd.id=D at *
    try clear aV
    try clear aX
    try clear dV
    obtain ⟨aV,aX,dV⟩:=X4.iV;go_wp2_with fail;refine HS.out.mono ?_;rintro e ws ⟨rfl,hos,hgs⟩;have Y4:=ah.grown X4 hgs (fun e=>jL.out e.symm);have Gi:=avE hos;have VK:=avE (show Below (w.heap.size+1) wr ws from Below.grown (Below.refl _ _) hgs Pe (fun g hg=>(Le.out g hg).1));clear hos hgs X4 aV aX dV X2 aG aI aJ aO;have X4:=Y4;clear Y4
    try clear aV
    try clear aX
    try clear dV
    obtain ⟨aV,aX,dV⟩:=X4.iV;go_wp2_with fail;have ho:=Gi.out;rw [<- wQ.out] at ho ⊢;refine agv (g:=w.heap.size+1) (v:=.slice A q.length c) rfl agw rfl rfl (ah.YJ X4) ⟨A,c,rfl,?_,(ho.far (p:=⟨w.heap.size+1,0,none⟩) (by rw [wQ.out];exact jL.out) _).fG Pe⟩;exact (Below.trans Hb.out (VK.out.mono Pe)).setCell (by show w.heap.size<=w.heap.size+1;omega) _
   obtain ⟨b,o,rfl,hlb,c0,c1,c2,c3,c4,c5⟩:=(HR.out.mono Hb.out).ar hlt;have ham:al[k].1∈p.aj:=by rw [oI.out];exact awd (avF hlt)
   have hst:eG (p.aj.take (k+1)) nd.id=eG (p.aj.take k) nd.id++((if al[k].1.fr=nd.id then [al[k].1.id] else [])++(if al[k].1.dst=nd.id then [-al[k].1.id] else [])):=by
    have h1:k<p.aj.length:=by rw [oI.out,avM];exact hlt
    have h2:=agy p.aj nd.id k h1;have h3:p.aj[k]=al[k].1:=by simp only [oI.out,av4]
    rw [h3] at h2;exact h2
   obtain ⟨Av,cv,hv,-⟩:=KY.out k hlt;rw [hv] at c3;have hpo:=HV.out.aal (HV.out.NW ham);have hid:=HV.out.kC ham;rw [show iJ al[k].1.id=al[k].1.id by unfold iJ;rw [if_neg Pe]] at hpo;have kM:=avE (an8.out al[k].1.id);rw [hpo] at kM;unfold Kq at kM;simp only [avU,Option.isSome_some,if_true] at kM;have agB:=HV.out.KG ham;have agC:=HV.out.Jf ham;have hpl:=ig p al[k].1;have hvl:=HV.out.FT ham;have hlen:=Ri (p.aj.take k) nd.id;have hlen2:(p.aj.take k).length<=k:=List.length_take_le _ _;have fU:=avE hst;have an9:=avE agB;have agD:=avE agC;have HLen:=avE (show (eG (p.aj.take k) nd.id).length<=512 by omega);clear hst agB agC hpo hv ham hlen hlen2;obtain ⟨D1,hD1⟩:∃ D1,eG (p.aj.take (k+1)) nd.id=D1:=⟨_,rfl⟩;rw [hD1] at fU;have HD1:=avE hD1;clear hD1;generalize eG (p.aj.take k) nd.id=D0 at *;generalize hP:au p al[k].1=P at *;generalize al[k].1.via.length=vn at *;generalize al[k].1=a at *;have agE:=avE (show eU a.id from qX Pe Pe);have VL:=avE (show eU (-a.id) from qX Pe Pe);have hneg:IntKind.i64.wrap (-a.id)=-a.id:=avS _ Pe;clear hP
   cases hb1:(a.fr == nd.id)
   case false =>
    have hn1:(a.fr != nd.id)=true:=by rw [bne,hb1];rfl
    cases hb2:(a.dst == nd.id)
    case false =>
     have hn2:(a.dst != nd.id)=true:=by rw [bne,hb2];rfl
     have hD:D1=D0:=by rw [fU.out,if_neg (by simpa using hb1),if_neg avw];simp
     go_wp2;go_roundw
     case rel => exact ⟨k+1,f,vl,cnt,by omega,by go_num,by omega,by rw [show eG (List.take (k+1) p.aj) nd.id=D0 from HD1.out.trans hD];exact BL.out.keep (bA (bR wr) _),by rw [show eG (List.take (k+1) p.aj) nd.id=D0 from HD1.out.trans hD];exact Hf.out,bA Hb.out _,dh.out.alloc _,dF.out.alloc _⟩
     case measure => simp [intOf];omega
    case true =>
     have hn2:(a.dst != nd.id)=false:=by rw [bne,hb2];rfl
     have qM:=avE hpl;clear hpl;go_wp2_with fail;refine (kM.out _ (bA Hb.out _)).mono ?_;rintro e w2 ⟨A2,c2',rfl,hb2,ho2⟩;have HW2:=avE (show Below wr.heap.size wr w2 from bT (bA (bR wr) _) hb2);have iU:=avE ho2;have hz2:=hb2.size;simp only [World.size_alloc] at hz2;obtain ⟨Aq,cq,he,hq1,hq2,zA⟩:=ho2.sl;injection he with e1 e2 e3;subst e1 e3;clear e2;unfold maxLen at hq2;have wC:=avE (show ah w2 wr.heap.size 50 #[.int .i64 a.id,.int .i64 a.fr,.int .i64 a.dst,.slice Av vn cv,.int .i64 a.left,.int .i64 a.right] from (ah.made rfl _ _).keep hb2);have gZ:=wC.out;rw [qM.out] at hq1 ⊢;clear hb2 ho2 kM aG aI aJ aO X2 c0 c1 c2 c3 c4 c5 hlb;have hD:D1=D0++[-a.id]:=by rw [fU.out,if_neg (by simpa using hb1),if_pos avw];simp
     have HOW:=iU;have Om:=avE (BL.out.keep HW2.out);have Oo:=avE (dh.out.keep HW2.out);have Lh:=avE (dF.out.keep HW2.out);have xY:=avE (show Below w.heap.size w w2 from bT Hb.out HW2.out);have Lj:=avE (Own.iO BL.out.own dF.out arC);clear zA;obtain ⟨nD,nG,nH,IE,Kv,Kw,Ky,-,-,-,-,-,-⟩:=gZ.gX;have hP2:vn<P.length:=by have:=qM.out;omega
     obtain ⟨bp,op,yA,hlp,e20,e21⟩:=Row.pt (HOW.out.agz) hP2;have hp2:P.getD vn aA=P[vn]:=by simp only [avT,avG hP2,avU]
     have Rl:=avE (agD.out.trans hp2);clear hp2;generalize P[vn]=p2 at *
     first | subst yA | (simp only [Option.some.injEq,Addr.mk.injEq,and_true] at yA;obtain ⟨rfl,rfl⟩:=yA)
     have k2:IntKind.i64.wrap ((vn:Int)+2-2)=vn:=by rw [show (vn:Int)+2-2=vn by omega];exact avS _ Pe
     have k3:IntKind.i64.wrap (vn:Int)=vn:=avS _ Pe;have k4:(vn:Int)<(vn:Int)+2:=by omega
     have k5:0<=(vn:Int):=by omega
     have k6:(vn:Int)+2-2=vn:=by omega
     go_upto_region 15 with fail;refine Ah ((w.heap.size+1)) (w2) (.take 0 1 (.take 1 3 (.run 5 4 3 (.two 2 503 (.take 3 511 (.call 9 1023 (.call 10 2047 (.done)))) 9 1011 (.call 2 1015 (.take 3 1023 (.call 10 2047 (.done)))))))) fun bZ QR aB aH hS=>?_
     iterate 7 refine aC ?_
     refine yX (i:=2) (j:=9) (eP aB rfl) (eP aB rfl) (fun K hK=>?_) (fun K hK=>?_)
     ·have ak:=avE hS;clear hS;refine fK (fJ rfl) ?_;go_simp;refine hK.out _ _ ak.out (fun hS=>?_);clear hK K ak
      try simp only [pu]
      refine aC ?_;refine bK ?_;clear hS;intro K hK ak;go_simp;refine hK.out _ _ ak.out (fun hS=>?_);clear hK K ak
      try simp only [pu]
      refine bK ?_;clear hS;intro K hK ak;go_simp;refine (Ol.out (-a.id) p2 (w.heap.size+1) (w.heap.size+1) (g5+1+1) (g5+1) (cnt) (D0) (f) vl _ (Om.out.keep (bD (bR w2))) arV Pe avi VL.out).mono ?_;rintro e w4 ⟨rfl,⟨v4,DC⟩,hb4,hk4⟩;have hS:fM (w.heap.size+1) w2 w4:=Below.trans ak.out hb4;have Ll:=avE DC;have Lm:=avE (hk4 g5 _ _ (Lh.out.keep (bD (bR w2))) Pe Pe Lj.out);clear hb4 hk4 DC;clear ak;refine hK.out _ _ hS (fun _=>?_);clear hK K
      try simp only [pu]
      refine o8 ?_;clear hS aH aB;intro hB;go_wp2;go_roundw
      case rel => exact ⟨k+1,_,v4,cnt+1,by omega,by go_num,by omega,by rw [show eG (List.take (k+1) p.aj) nd.id=D0++[-a.id] from HD1.out.trans hD];exact Ll.out,(fun d hd=>by rw [show eG (List.take (k+1) p.aj) nd.id=D0++[-a.id] from HD1.out.trans hD] at hd;exact Rj Hf.out Rl.out d hd),Below.trans xY.out (hB.mono Pe),Oo.out.below hB Pe,Lm.out⟩
      case measure => simp [intOf];omega
     ·have ak:=avE hS;clear hS;refine fK (fJ rfl) ?_;go_simp;refine hK.out _ _ ak.out (fun hS=>?_);clear hK K ak
      try simp only [pu]
      refine bK ?_;clear hS;intro K hK ak;go_simp;refine hK.out _ _ ak.out (fun hS=>?_);clear hK K ak
      try simp only [pu]
      refine aC ?_;refine bK ?_;clear hS;intro K hK ak;go_simp;refine (Ol.out (-a.id) p2 (w.heap.size+1) (w.heap.size+1) (g5+1+1) (g5+1) (cnt) (D0) (f) vl _ (Om.out.keep (bD (bR w2))) arV Pe avi VL.out).mono ?_;rintro e w4 ⟨rfl,⟨v4,DC⟩,hb4,hk4⟩;have hS:fM (w.heap.size+1) w2 w4:=Below.trans ak.out hb4;have Ll:=avE DC;have Lm:=avE (hk4 g5 _ _ (Lh.out.keep (bD (bR w2))) Pe Pe Lj.out);clear hb4 hk4 DC;clear ak;refine hK.out _ _ hS (fun _=>?_);clear hK K
      try simp only [pu]
      refine o8 ?_;clear hS aH aB;intro hB;go_wp2;go_roundw
      case rel => exact ⟨k+1,_,v4,cnt+1,by omega,by go_num,by omega,by rw [show eG (List.take (k+1) p.aj) nd.id=D0++[-a.id] from HD1.out.trans hD];exact Ll.out,(fun d hd=>by rw [show eG (List.take (k+1) p.aj) nd.id=D0++[-a.id] from HD1.out.trans hD] at hd;exact Rj Hf.out Rl.out d hd),Below.trans xY.out (hB.mono Pe),Oo.out.below hB Pe,Lm.out⟩
      case measure => simp [intOf];omega
   case true =>
    have hn1:(a.fr != nd.id)=false:=by rw [bne,hb1];rfl
    have HB1:=avE hb1;clear hb1;have qM:=avE hpl;clear hpl;go_wp2_with fail;refine (kM.out _ (bA Hb.out _)).mono ?_;rintro e w2 ⟨A2,c2',rfl,hb2,ho2⟩;have HW2:=avE (show Below wr.heap.size wr w2 from bT (bA (bR wr) _) hb2);have iU:=avE ho2;have hz2:=hb2.size;simp only [World.size_alloc] at hz2;obtain ⟨Aq,cq,he,hq1,hq2,zA⟩:=ho2.sl;injection he with e1 e2 e3;subst e1 e3;clear e2;unfold maxLen at hq2;have wC:=avE (show ah w2 wr.heap.size 50 #[.int .i64 a.id,.int .i64 a.fr,.int .i64 a.dst,.slice Av vn cv,.int .i64 a.left,.int .i64 a.right] from (ah.made rfl _ _).keep hb2);have gZ:=wC.out;rw [qM.out] at hq1 ⊢;clear hb2 ho2 kM aG aI aJ aO X2 c0 c1 c2 c3 c4 c5 hlb;have hP1:1<P.length:=by have:=qM.out;omega
    obtain ⟨bp,op,yA,hlp,e10,e11⟩:=Row.pt (zA) hP1;have hp1:P.getD 1 aA=P[1]:=by simp only [avT,avG hP1,avU]
    have aoa:=avE (an9.out.trans hp1);clear hp1;generalize P[1]=p1 at *;subst yA;clear zA;simp only [Nat.one_mul] at e10 e11;have k1:(1:Int)<(vn:Int)+2:=by omega
    try clear nD
    try clear nG
    try clear nH
    try clear IE
    try clear Kv
    try clear Kw
    try clear Ky
    obtain ⟨nD,nG,nH,IE,Kv,Kw,Ky,-,-,-,-,-,-⟩:=gZ.gX;go_upto_if 52 with fail;go_cut [] (fun w3=>∃ v3,Ld w3 (w.heap.size+1) (w.heap.size+1) (g5+1+1) (g5+1) (cnt+1) (D0++[a.id]) (fun i=>if i=a.id then p1 else f i) v3/\Below (w.heap.size+1) w2 w3/\(∀ g t cs,ah w2 g t cs->g≠w.heap.size+1->g≠g5+1->vl.ownBlock≠some g->ah w3 g t cs))
    case first =>
     have hb1:=HB1.out;go_upto_region 13 with fail;refine Ah ((w.heap.size+1)) (w2) (.take 0 1 (.take 1 3 (.take 3 11 (.take 4 27 (.two 2 31 (.call 5 63 (.call 6 127 (.done))) 5 59 (.call 2 63 (.call 6 127 (.done)))))))) fun bZ QR aB aH hS=>?_
     iterate 4 refine aC ?_
     refine yX (i:=2) (j:=5) (eP aB rfl) (eP aB rfl) (fun K hK=>?_) (fun K hK=>?_)
     ·have ak:=avE hS;clear hS;refine fK (fJ rfl) ?_;go_simp;refine hK.out _ _ ak.out (fun hS=>?_);clear hK K ak
      try simp only [pu]
      refine bK ?_;clear hS;intro K hK ak;go_simp;refine hK.out _ _ ak.out (fun hS=>?_);clear hK K ak
      try simp only [pu]
      refine bK ?_;clear hS;intro K hK ak;go_simp;refine (Ol.out a.id p1 (w.heap.size+1) (w.heap.size+1) (g5+1+1) (g5+1) cnt D0 f vl _ (BL.out.keep (bD HW2.out)) arV Pe (by have:=HLen.out;omega) agE.out).mono ?_;rintro e w3 ⟨rfl,⟨v3,Gj⟩,hb3,hk3⟩;have hS:fM (w.heap.size+1) w2 w3:=Below.trans ak.out hb3;have aa6:=avE Gj;have HK3:=avE (show ∀ g t cs,ah w2 g t cs->g≠w.heap.size+1->g≠g5+1->vl.ownBlock≠some g->ah w3 g t cs from fun g t cs h=>hk3 g t cs (h.keep (bD (bR w2))));clear hb3 hk3 Gj;clear ak;refine hK.out _ _ hS (fun _=>?_);clear hK K
      try simp only [pu]
      refine o8 ?_;clear hS aH aB;intro hB;go_wp2;go_meet
      case rel => exact ⟨v3,aa6.out,hB,HK3.out⟩
     ·have ak:=avE hS;clear hS;refine fK (fJ rfl) ?_;go_simp;refine hK.out _ _ ak.out (fun hS=>?_);clear hK K ak
      try simp only [pu]
      refine bK ?_;clear hS;intro K hK ak;go_simp;refine hK.out _ _ ak.out (fun hS=>?_);clear hK K ak
      try simp only [pu]
      refine bK ?_;clear hS;intro K hK ak;go_simp;refine (Ol.out a.id p1 (w.heap.size+1) (w.heap.size+1) (g5+1+1) (g5+1) cnt D0 f vl _ (BL.out.keep (bD HW2.out)) arV Pe (by have:=HLen.out;omega) agE.out).mono ?_;rintro e w3 ⟨rfl,⟨v3,Gj⟩,hb3,hk3⟩;have hS:fM (w.heap.size+1) w2 w3:=Below.trans ak.out hb3;have aa6:=avE Gj;have HK3:=avE (show ∀ g t cs,ah w2 g t cs->g≠w.heap.size+1->g≠g5+1->vl.ownBlock≠some g->ah w3 g t cs from fun g t cs h=>hk3 g t cs (h.keep (bD (bR w2))));clear hb3 hk3 Gj;clear ak;refine hK.out _ _ hS (fun _=>?_);clear hK K
      try simp only [pu]
      refine o8 ?_;clear hS aH aB;intro hB;go_wp2;go_meet
      case rel => exact ⟨v3,aa6.out,hB,HK3.out⟩
    case rest =>
     obtain ⟨v3,Gj,hB3,hk3⟩:=hcut;have xY:=avE (show RowKit.Below w.heap.size w wc from Below.trans (bT Hb.out HW2.out) (hB3.mono Pe));have Oo:=avE ((dh.out.keep HW2.out).below hB3 Pe);have Lh:=avE (hk3 g5 _ _ (dF.out.keep HW2.out) Pe Pe (Own.iO BL.out.own dF.out arC));have agF:=hk3 wr.heap.size _ _ wC.out Pe Pe (fun e=>by have:=(BL.out.own.lt _ e).2;omega);have HOW:=avE (iU.out.an6 (fun g t cs hg hx=>hk3 g t cs hx (by simp only [World.size_alloc] at hg;omega) (by simp only [World.size_alloc] at hg;omega) (fun e=>by have:=(BL.out.own.lt _ e).2;simp only [World.size_alloc] at hg;omega)));have Om:=avE Gj;have Lj:=avE (Own.iO Gj.own Lh.out arC);have hf3:=Rj Hf.out aoa.out;have HF3:=avE hf3;have hz3:=hB3.size;clear Gj hB3 hk3 hf3 gZ nD nG nH IE Kv Kw Ky e10 e11;have gZ:=agF;clear agF
     try clear nD
     try clear nG
     try clear nH
     try clear IE
     try clear Kv
     try clear Kw
     try clear Ky
     obtain ⟨nD,nG,nH,IE,Kv,Kw,Ky,-,-,-,-,-,-⟩:=gZ.gX
     cases hb2:(a.dst == nd.id)
     case false =>
      have hD:D1=D0++[a.id]:=by rw [fU.out,if_pos (by simpa using HB1.out),if_neg avw];simp
      go_wp2;go_roundw
      case rel => exact ⟨k+1,_,v3,cnt+1,by omega,by go_num,by omega,by rw [show eG (List.take (k+1) p.aj) nd.id=D0++[a.id] from HD1.out.trans hD];exact Om.out,by rw [show eG (List.take (k+1) p.aj) nd.id=D0++[a.id] from HD1.out.trans hD];exact HF3.out,xY.out,Oo.out,Lh.out⟩
      case measure => simp [intOf];omega
     case true =>
      have hD:D1=D0++[a.id]++[-a.id]:=by rw [fU.out,if_pos (by simpa using HB1.out),if_pos avw];simp
      have hP2:vn<P.length:=by have:=qM.out;omega
      obtain ⟨bp,op,yA,hlp,e20,e21⟩:=Row.pt (HOW.out.agz) hP2;have hp2:P.getD vn aA=P[vn]:=by simp only [avT,avG hP2,avU]
      have Rl:=avE (agD.out.trans hp2);clear hp2;generalize P[vn]=p2 at *
      first | subst yA | (simp only [Option.some.injEq,Addr.mk.injEq,and_true] at yA;obtain ⟨rfl,rfl⟩:=yA)
      have k2:IntKind.i64.wrap ((vn:Int)+2-2)=vn:=by rw [show (vn:Int)+2-2=vn by omega];exact avS _ Pe
      have k3:IntKind.i64.wrap (vn:Int)=vn:=avS _ Pe;have k4:(vn:Int)<(vn:Int)+2:=by omega
      have k5:0<=(vn:Int):=by omega
      have k6:(vn:Int)+2-2=vn:=by omega
      go_upto_region 15 with fail;refine Ah ((w.heap.size+1)) (wc) (.take 0 1 (.take 1 3 (.run 5 4 3 (.two 2 503 (.take 3 511 (.call 9 1023 (.call 10 2047 (.done)))) 9 1011 (.call 2 1015 (.take 3 1023 (.call 10 2047 (.done)))))))) fun bZ QR aB aH hS=>?_
      iterate 7 refine aC ?_
      refine yX (i:=2) (j:=9) (eP aB rfl) (eP aB rfl) (fun K hK=>?_) (fun K hK=>?_)
      ·have ak:=avE hS;clear hS;refine fK (fJ rfl) ?_;go_simp;refine hK.out _ _ ak.out (fun hS=>?_);clear hK K ak
       try simp only [pu]
       refine aC ?_;refine bK ?_;clear hS;intro K hK ak;go_simp;refine hK.out _ _ ak.out (fun hS=>?_);clear hK K ak
       try simp only [pu]
       refine bK ?_;clear hS;intro K hK ak;go_simp;refine (Ol.out (-a.id) p2 (w.heap.size+1) (w.heap.size+1) (g5+1+1) (g5+1) (cnt+1) (D0++[a.id]) (fun i=>if i=a.id then p1 else f i) v3 _ (Om.out.keep (bD (bR wc))) arV Pe avi VL.out).mono ?_;rintro e w4 ⟨rfl,⟨v4,DC⟩,hb4,hk4⟩;have hS:fM (w.heap.size+1) wc w4:=Below.trans ak.out hb4;have Ll:=avE DC;have Lm:=avE (hk4 g5 _ _ (Lh.out.keep (bD (bR wc))) Pe Pe Lj.out);clear hb4 hk4 DC;clear ak;refine hK.out _ _ hS (fun _=>?_);clear hK K
       try simp only [pu]
       refine o8 ?_;clear hS aH aB;intro hB;go_wp2;go_roundw
       case rel => exact ⟨k+1,_,v4,cnt+1+1,by omega,by go_num,by omega,by rw [show eG (List.take (k+1) p.aj) nd.id=D0++[a.id]++[-a.id] from HD1.out.trans hD];exact Ll.out,(fun d hd=>by rw [show eG (List.take (k+1) p.aj) nd.id=D0++[a.id]++[-a.id] from HD1.out.trans hD] at hd;exact Rj HF3.out Rl.out d hd),Below.trans xY.out (hB.mono Pe),Oo.out.below hB Pe,Lm.out⟩
       case measure => simp [intOf];omega
      ·have ak:=avE hS;clear hS;refine fK (fJ rfl) ?_;go_simp;refine hK.out _ _ ak.out (fun hS=>?_);clear hK K ak
       try simp only [pu]
       refine bK ?_;clear hS;intro K hK ak;go_simp;refine hK.out _ _ ak.out (fun hS=>?_);clear hK K ak
       try simp only [pu]
       refine aC ?_;refine bK ?_;clear hS;intro K hK ak;go_simp;refine (Ol.out (-a.id) p2 (w.heap.size+1) (w.heap.size+1) (g5+1+1) (g5+1) (cnt+1) (D0++[a.id]) (fun i=>if i=a.id then p1 else f i) v3 _ (Om.out.keep (bD (bR wc))) arV Pe avi VL.out).mono ?_;rintro e w4 ⟨rfl,⟨v4,DC⟩,hb4,hk4⟩;have hS:fM (w.heap.size+1) wc w4:=Below.trans ak.out hb4;have Ll:=avE DC;have Lm:=avE (hk4 g5 _ _ (Lh.out.keep (bD (bR wc))) Pe Pe Lj.out);clear hb4 hk4 DC;clear ak;refine hK.out _ _ hS (fun _=>?_);clear hK K
       try simp only [pu]
       refine o8 ?_;clear hS aH aB;intro hB;go_wp2;go_roundw
       case rel => exact ⟨k+1,_,v4,cnt+1+1,by omega,by go_num,by omega,by rw [show eG (List.take (k+1) p.aj) nd.id=D0++[a.id]++[-a.id] from HD1.out.trans hD];exact Ll.out,(fun d hd=>by rw [show eG (List.take (k+1) p.aj) nd.id=D0++[a.id]++[-a.id] from HD1.out.trans hD] at hd;exact Rj HF3.out Rl.out d hd),Below.trans xY.out (hB.mono Pe),Oo.out.below hB Pe,Lm.out⟩
       case measure => simp [intOf];omega
end Go.Proofs.YtialfdomhoojiaaGreat
