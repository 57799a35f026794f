import Derived.Test.YtialfdomhoojiaaGreatJ16
import Derived.Test.YtialfdomhoojiaaGreatLaySortIn
set_option linter.unusedSimpArgs false
set_option linter.unusedVariables false
set_option maxRecDepth 100000
set_option maxHeartbeats 4000000
namespace Go.Proofs.YtialfdomhoojiaaGreat
open Go.RowKit Go.Sort
def bQ (lt:Int->Int->Bool) (x y:Int):Int:=if lt x y then -1 else if lt y x then 1 else 0
section
variable {α:Type} [Inhabited α] (enc:α->Value) (w:World)
theorem aeY (blk off m:Nat) (dk:Array α) (os:Array Obj):(sortWorld enc w blk off m dk os).heap=w.heap.modify blk (onCells (putCells enc off dk))++os:=rfl
theorem aj3 (blk off m:Nat) (dk:Array α) (os:Array Obj):w.grownBy (sortWorld enc w blk off m dk os) (some blk):=by
 refine ⟨rfl,rfl,rfl,?_,fun i hi hne=>?_⟩
 · rw [aeY];simp
 ·have hne':blk≠i:=fun e=>hne Rw;rw [aeY,Array.getElem?_append_left lS,Array.getElem?_modify,AX hne']
end
def yS (lt:Int->Int->Bool) (D:List Int) (x y:{x:Int // x∈D}):Int:=bQ lt x.1 y.1
theorem aCk {lt:Int->Int->Bool} {D:List Int} (x y:{x:Int // x∈D}):ltOf (yS lt D) x y=lt x.1 y.1:=by
 unfold ltOf yS bQ
 cases h1:lt x.1 y.1
 · cases h2:lt y.1 x.1<;>simp
 · simp
theorem arw {lt:Int->Int->Bool} {D:List Int} (ho:Yv lt D):SWO (ltOf (yS lt D)) where
 irrefl x:=by
  rw [aCk]
  cases h:lt x.1 x.1
  · rfl
  · have:=ho.asym _ x.2 _ x.2 h;rw [h] at this;cases this
 trans x y z h1 h2:=by
  rw [aCk] at *
  cases h:lt x.1 z.1
  ·have h3:=ho.asym _ y.2 _ z.2 h2;have:=ho.ntr _ x.2 _ z.2 _ y.2 h h3
   rw [h1] at this;cases this
  · rfl
 ntrans x y z h1 h2:=by
  rw [aCk] at *;exact ho.ntr _ x.2 _ y.2 _ z.2 h1 h2
theorem arx (base:Nat) (v:Value) (sl:List Int) (lt:Int->Int->Bool) (fn:Nat) (cb:Array Value) (w:World) (hown:Own w base 3 1 D5 v sl) (ho:Yv lt sl) (hn:sl.length<=4294967296)
  (eg:∀ args w,(callFunc fn args).run Tryz.prog w=.ok (.enter fn args) w)
  (hc:∀ W,w.grownBy W v.ownBlock->∀ x∈sl,∀ y∈sl,Calls Tryz.prog fn (#[.int .i64 x,.int .i64 y]++cb) W fun e w'=>e=.returned (.int .i64 (bQ lt x y))/\NZ W w') :
  Calls Tryz.prog 175 #[v,.func (.func fn) #[] cb] w (aj2 w base v (sortB lt sl)):=by
 rcases sl with _ | ⟨s0,rest⟩
 ·have hv:∃ p cap,v=.slice p 0 cap:=by
   rcases hown.2 with ⟨h,_⟩ | ⟨g,cap,cur,h,_⟩
   · exact ⟨_,_,h⟩
   · exact ⟨_,_,h⟩
  obtain ⟨p,cap,rfl⟩:=hv;refine Calls.mono (AnyF.slices_SortFunc_none {Tryz.sortIn with} p cap (.func (.func fn) #[] cb) w) ?_;rintro e w' ⟨rfl,rfl⟩;exact ⟨rfl,hown,World.grownBy.refl _ _⟩
 generalize hsl:s0::rest=sl at *;have hs0:s0∈sl:=by rw [<- hsl];simp
 have hpos:0<sl.length:=by rw [<- hsl];simp
 obtain ⟨hlen,hown2⟩:=hown;rcases hown2 with ⟨_,h0⟩ | ⟨g,cap,cur,rfl,hg,hh,hnc,hcm,hcs,hx⟩
 · omega
 haveI hI:Inhabited ({x:Int // x∈sl}):=⟨⟨s0,hs0⟩⟩
 have hdl:∃ dl:List ({x:Int // x∈sl}),dl.map (·.1)=sl:=⟨sl.attachWith (·∈sl) (fun _ h=>h),Aw⟩;obtain ⟨dl,hdl⟩:=hdl;have hdn:dl.length=sl.length:=by have:=congrArg List.length hdl;simpa using this
 have hcur:∀ j,j<sl.length->cur[j]? = (sl[j]?).map (.int .i64 ·):=fun j hj=>by
  rw [<- aCi,<- hx,List.getElem?_take,AZ AB];simp
 let enc:{x:Int // x∈sl}->Value:=fun x=>.int .i64 x.1
 have hcmp:CmpLays1 Tryz.prog fn cb enc (yS lt sl) g 0 dl.toArray.size w:=fun m os dk hdk x y=>by
  have hg':=aj3 enc w g 0 m dk os;exact (hc _ hg' x.1 x.2 y.1 y.2).mono fun e w' h=>⟨h.1,uq h.2⟩
 have hget:∀ j,j<dl.length->sl[j]? = some (dl.toArray[j]!).1:=fun j hj=>by
  have e1:dl.toArray[j]! = dl[j]:=by rw [getElem!_pos dl.toArray j (by simpa using hj)];simp
  rw [e1]
  have:sl[j]? = (dl.map (·.1))[j]? := by rw [hdl]
  rw [this,List.getElem?_map,DK hj];rfl
 have hH:Holds enc w g 0 dl.toArray:=fun j hj=>by
  have hj':j<dl.length:=by simpa using hj
  refine ⟨?_,AO.frozen (t:=3) (cs:=cur) hh _⟩;rw [cell_of_row w g _ cur 3 (0,0) hh,QC,hcur j AB,hget j hj'];rfl
 have hcon:=Any.slices_SortFunc Tryz.sortIn enc (fun _=>rfl) (yS lt sl) (arw ho) fn cb g 0 cap dl.toArray w eg hcmp hH (AO.lt hh) DC;have hns:dl.toArray.size=sl.length:=by simp [hdn]
 rw [hns] at hcon;refine Calls.mono hcon ?_;rintro e w' ⟨rfl,d',n,os,hp,hs,rfl⟩;obtain ⟨p1,-,p3⟩:=hp;have hd':d'.size=sl.length:=by rw [p1,hns]
 have hperm:d'.toList.Perm dl:=by
  have e1:d'.extract 0 sl.length=d':=by rw [<- hd'];simp
  have e2:dl.toArray.extract 0 sl.length=dl.toArray:=by rw [<- hns];simp
  rw [e1,e2] at p3;simpa using p3
 have arz:(d'.toList.map (·.1)).Perm sl:=by
  have h1:(d'.toList.map (·.1)).Perm (dl.map (·.1)):=hperm.map _;exact h1.trans (List.Perm.of_eq hdl)
 have hsorted:(d'.toList.map (·.1)).Pairwise (fun a b=>lt b a=false):=by
  rw [IL,Fe];intro i j hi hj hij;have hj':j<d'.size:=by simpa using hj
  have:=hs i j (BZ _) hij (by rw [<- hd'];exact hj')
  rw [aCk,getElem!_pos d' j hj',getElem!_pos d' i AB] at this;simpa using this
 have hd2:d'.toList.map (·.1)=sortB lt sl:=aqV ho arz hsorted;refine ⟨rfl,?_,aj3 enc w g 0 n d' os⟩;rw [<- hd2];have hl':(d'.toList.map (·.1)).length=sl.length:=by simp [hd']
 unfold Own;rw [hl'];refine ⟨by rw [aCj,hl'];omega,.inr ⟨g,cap,putCells enc 0 d' cur,rfl,hg,?_,hnc,hcm,tH,?_⟩⟩
 ·have hgl:g<w.heap.size:=AO.lt hh;rw [aeY,Array.getElem?_append_left (by simpa using hgl),Array.getElem?_modify,AZ rfl,hh];rfl
 ·apply lK;intro j;rw [List.getElem?_take];by_cases hj:j<sl.length*1
  ·rw [AZ hj];have hjc:j<cur.size:=by rw [hcs];omega
   have hjd:j<d'.size:=by rw [hd'];omega
   rw [aCi,List.getElem?_map];have e1:(putCells enc 0 d' cur).toList[j]? = some (enc d'[j]!):=by
    simp [putCells,hjc,hjd]
   rw [e1,getElem!_pos d' j hjd,Array.getElem?_toList,Array.getElem?_eq_getElem hjd];rfl
  · rw [AX hj,Y0 (by rw [aCj,hl'];omega)]
theorem as1 (v:Value) (l:List Pt) (w:World) (h:Dq w v l) :
  Calls Tryz.prog 76 #[v] w fun e w'=>e=.returned (.bool (Dy l))/\NZ w w':=by
 obtain ⟨A,c,rfl,hn,hc,hR⟩:=h;unfold maxLen at hc;go_enter Tryz.func76,Tryz.ntmps76;go_wp2_with fail;go_loopw [7] (fun i wr=>∃ k:Nat,k<=l.length/\i=.int .i64 k/\NZ w wr/\∀ j (hj:j<l.length),j<k->Bg l[j]=true) (fun i _=>l.length-(intOf i).toNat)
 case atStart => exact ⟨0,BZ _,rfl,⟨Below.refl _ _,dR w⟩,fun j _ h=>by omega⟩
 case round =>
  obtain ⟨k,hk,rfl,hb,hno⟩:=hrel;have Hb:=AA hb.1;have Hd:=AA hb.2;have Hno:=AA hno;have hs:=hb.1.size;clear hb hno;by_cases hlt:k<l.length
  ·obtain ⟨b,o,rfl,hlb,c0,c1⟩:=(hR.mono Hb.out).pt hlt;have HR:=AA hR;clear hR;by_cases hnr:Bg l[k]=true
   ·have Hn:=AA hnr;obtain ⟨n1,n2,n3,n4⟩:=(Qq _).1 hnr;clear hnr;go_wp2;go_roundw
    case rel => exact ⟨k+1,AB,BI,⟨Hb.out.alloc hs _,dA Hd.out _⟩,all_succ (p:=fun x=>Bg x=true) Hno.out hlt Hn.out⟩
    case measure => exact BK
   ·have hn':Bg l[k]=false:=by simpa using hnr
    have Hf:=AA (acX l k hlt hn');clear hn';have uT:=AA hnr;clear hnr;go_wp2
    all_goals first
     | (go_ret;exact ⟨C9 Hf.out.symm,Hb.out.alloc hs _,dA Hd.out _⟩)
     | (exfalso;exact uT.out ((Qq _).2 ⟨AB,AB,AB,AB⟩))
  ·go_wp2;go_ret;exact ⟨C9 (acY l fun j hj=>Hno.out j hj AB).symm,Hb.out,Hd.out⟩
theorem as2 (a b c:Pt) (w:World) (ha:lim a) (hb:lim b) (hc:lim c) :
  Calls Tryz.prog 77 #[BD a,BD b,BD c] w fun e w'=>e=.returned (.int .i64 (tw a b c))/\NZ w w':=by
 obtain ⟨a1,a2,a3,a4⟩:=ha;obtain ⟨b1,b2,b3,b4⟩:=hb;obtain ⟨c1,c2,c3,c4⟩:=hc;obtain ⟨m1,m2⟩:=Qr (b.x-a.x) (c.y-a.y) 4194304 AB AB AB AB;obtain ⟨m3,m4⟩:=Qr (b.y-a.y) (c.x-a.x) 4194304 AB AB AB AB;simp only [Int.reduceMul,Int.reduceNeg] at m1 m2 m3 m4;unfold BD;go_enter Tryz.func77,Tryz.ntmps77;go_wp2;go_ret;exact ⟨DU rfl,(((Below.refl _ _).alloc (DT _) _).alloc Aw _).alloc DC _,dA (dA (dA (dR w) _) _) _⟩
theorem aj6 (o p:Pt) (w:World):Calls Tryz.prog 235 #[BD o,BD p] w fun e w'=>e=.returned (.bool (Vh o p))/\NZ w w':=by
 unfold BD Vh;by_cases h1:p.y<o.y
 ·go_enter Tryz.func235,Tryz.ntmps235;go_wp2;go_ret;exact ⟨C9 (by simp [h1]),bA (bA (bR w) _) _,dA (dA (dR w) _) _⟩
 ·by_cases h2:p.y=o.y
  ·have h2':(p.y == o.y)=true:=by simpa using h2
   have H2:=AA h2;clear h2;by_cases h3:p.x<o.x
   ·go_enter Tryz.func235,Tryz.ntmps235;go_wp2;go_ret;exact ⟨C9 (by simp [h1,H2.out,h3]),bA (bA (bR w) _) _,dA (dA (dR w) _) _⟩
   ·go_enter Tryz.func235,Tryz.ntmps235;go_wp2;go_ret;exact ⟨C9 (by simp [h1,H2.out,h3]),bA (bA (bR w) _) _,dA (dA (dR w) _) _⟩
  ·have h2':(p.y == o.y)=false:=by simpa using h2
   have H2:=AA h2;clear h2;go_enter Tryz.func235,Tryz.ntmps235;go_wp2;go_ret;exact ⟨C9 (by simp [h1,H2.out]),bA (bA (bR w) _) _,dA (dA (dR w) _) _⟩
theorem aeZ {p:Pt} (h:Bg p=true):lim p:=(Qq p).1 h
theorem WX {a b c:Pt} (h:Dy [a,b,c]=true):lim a/\lim b/\lim c:=by
 simp only [Dy,aAD,aaq,aar,Em] at h;exact ⟨aeZ h.1,aeZ h.2.1,aeZ h.2.2⟩
theorem aj7 (o a b:Pt) (w:World):Calls Tryz.prog 177 #[BD o,BD a,BD b] w fun e w'=>e=.returned (.bool (Si o a b))/\NZ w w':=by
 have TN:=fun (v:Value) W=>as1 v [o,a,b] W;have jL:=fun W=>aj6 o a W;have jM:=fun W=>aj6 o b W;have TT:=fun (h:Dy [o,a,b]=true) W=>as2 o a b W (WX h).1 (WX h).2.1 (WX h).2.2;have E1:=U8 a o;have E2:=U8 b o;obtain ⟨r,hr⟩:=BL (Si o a b);rw [hr];unfold Si at hr;unfold BD at jL jM TT ⊢;have HN:=AA TN;have H1:=AA jL;have H2:=AA jM;have HT:=AA TT;clear TN jL jM TT;generalize hz:Dy [o,a,b]=z at *;generalize decide (a=o)=z1 at *;generalize decide (b=o)=z2 at *;generalize hl1:Vh o a=l1 at *;generalize hl2:Vh o b=l2 at *;generalize hq:decide (0<tw o a b)=q at *;have Hr:=AA hr;have Hq:=AA hq;have Hz:=AA hz;clear hr hq hz hl1 hl2;go_enter Tryz.func177,Tryz.ntmps177;go_wp2_with fail;have TU:Hid (Dq ((((w.alloc (.cells #[.int .i64 o.x,.int .i64 o.y] 39)).alloc (.cells #[.int .i64 a.x,.int .i64 a.y] 39)).alloc (.cells #[.int .i64 b.x,.int .i64 b.y] 39)).alloc (.cells #[.int .i64 o.x,.int .i64 o.y,.int .i64 a.x,.int .i64 a.y,.int .i64 b.x,.int .i64 b.y] 39)) (.slice (some ⟨w.heap.size+1+1+1,0,none⟩) 3 3) [o,a,b]):=AA (Dq.Zq (AO.made Aw _ _));refine (HN.out _ _ TU.out).mono ?_;rintro e w1 ⟨rfl,hb1,hd1⟩;have B1:=AA (bT (bA (bA (bA (bA (bR w) _) _) _) _) hb1);have D1:=AA (dT (dA (dA (dA (dA (dR w) _) _) _) _) hd1);have Ep:=AA (show AO w1 w.heap.size 39 #[.int .i64 o.x,.int .i64 o.y] from ((((AO.made rfl _ _).alloc _).alloc _).alloc _).keep hb1);have DJ:=AA (show AO w1 (w.heap.size+1) 39 #[.int .i64 a.x,.int .i64 a.y] from (((AO.made Aw _ _).alloc _).alloc _).keep hb1);have D8:=AA (show AO w1 (w.heap.size+1+1) 39 #[.int .i64 b.x,.int .i64 b.y] from ((AO.made Aw _ _).alloc _).keep hb1);clear hb1 hd1 TU HN;have X3:=Ep.out;have X4:=DJ.out;have X5:=D8.out;obtain ⟨E5,Eo,F9,-,-⟩:=X3.BN;obtain ⟨Bh,Bl,CV,-,-⟩:=X4.BN;obtain ⟨CJ,CO,CS,-,-⟩:=X5.BN
 cases z
 case false =>
  go_wp2;go_ret;exact ⟨C9 Xx,B1.out,D1.out⟩
 cases z1
 case true =>
  go_wp2;go_ret;exact ⟨C9 Xx,B1.out,D1.out⟩
 cases z2
 case true =>
  go_wp2;go_ret;exact ⟨C9 Xx,B1.out,D1.out⟩
 have hr:=Hr.out;simp only [lH,Bool.not_false] at hr;have HT2:=AA (HT.out rfl);clear HT Hr Hz;go_upto_region 3 with fail;refine Cj (w1) (.take 0 1 (.take 1 3 (.take 3 11 (.take 4 27 (.call 2 31 (.call 5 63 (.take 6 127 (.done)))))))) fun Bv QR Ae Ah hS=>?_
 iterate 4 refine Aj ?_
 refine BP ?_;clear hS;intro K hK AQ;go_simp;refine (H1.out _).mono ?_;rintro e Bq ⟨rfl,Bf,aj8⟩;have hS:Since w1 Bq:=bT (w:=w1) AQ.out Bf;clear AQ;refine hK.out _ _ hS (fun _=>?_);clear hK K
 try simp only [pu]
 refine BP ?_;clear hS;intro K hK AQ;go_simp;refine (H2.out _).mono ?_;rintro e wr2 ⟨rfl,FT,aj9⟩;have hS:Since w1 wr2:=bT (w:=w1) AQ.out FT;clear AQ;refine hK.out _ _ hS (fun _=>?_);clear hK K
 try simp only [pu]
 refine Aj ?_;refine Ce ?_;clear hS Ah Ae;intro hB;have B2:=AA (bT B1.out hB);have D2:=AA (dT (dT (dD D1.out) aj8) aj9);replace Ep:=AA (Ep.out.keep hB);replace DJ:=AA (DJ.out.keep hB);replace D8:=AA (D8.out.keep hB);clear hB aj8 aj9 X3 X4 X5 E5 Eo F9 Bh Bl CV CJ CO CS;have X3:=Ep.out;have X4:=DJ.out;have X5:=D8.out
 try clear E5 Eo F9
 obtain ⟨E5,Eo,F9,-,-⟩:=X3.BN
 try clear Bh Bl CV
 obtain ⟨Bh,Bl,CV,-,-⟩:=X4.BN
 try clear CJ CO CS
 obtain ⟨CJ,CO,CS,-,-⟩:=X5.BN;by_cases hl:l1=l2
 ·subst hl;rw [AZ rfl] at hr;have Hr:=AA hr;clear hr
  cases l1
  all_goals
   go_wp2_with fail;refine (HT2.out _).mono ?_;rintro e w3 ⟨rfl,hb3,hd3⟩;have B3:=AA (bT B2.out hb3);have D3:=AA (dT D2.out hd3);clear hb3 hd3;go_wp2;go_ret;exact ⟨C9 (by rw [<- Hr.out,<- Hq.out]),B3.out,D3.out⟩
 ·rw [AX hl] at hr;have Hr:=AA hr;have hl2:l2 = !l1:=by cases l1<;>cases l2<;>simp_all
  clear hl hr;subst hl2
  cases l1
  all_goals
   go_wp2_with fail;refine (H2.out _).mono ?_;rintro e w3 ⟨rfl,hb3,hd3⟩;have B3:=AA (bT B2.out hb3);have D3:=AA (dT D2.out hd3);clear hb3 hd3;go_wp2;go_ret;exact ⟨C9 Hr.out,B3.out,D3.out⟩
theorem ajA (o a:Pt) (w:World) (ho:lim o) (ha:lim a):Calls Tryz.prog 292 #[BD o,BD a] w fun e w'=>e=.returned (.int .i64 (Yk o a))/\AP w w':=by
 obtain ⟨o1,o2,o3,o4⟩:=ho;obtain ⟨a1,a2,a3,a4⟩:=ha;have k1:IntKind.i64.wrap (a.x-o.x)=a.x-o.x:=Ci _ AB;have k2:IntKind.i64.wrap (a.y-o.y)=a.y-o.y:=Ci _ AB;obtain ⟨q,hq⟩:=BL (Yk o a);rw [hq];have Hq:=AA hq;unfold BD;clear o1 o2 o3 o4 a1 a2 a3 a4 hq;go_enter Tryz.func292,Tryz.ntmps292;go_upto_region 1 with fail;obtain ⟨W,hW⟩:=BO ((w.alloc (.cells #[.int .i64 o.x,.int .i64 o.y] 39)).alloc (.cells #[.int .i64 a.x,.int .i64 a.y] 39));have BW:AP w W:=by rw [hW];exact bA (bA (bR w) _) _
 have X2:AO W w.heap.size 39 #[.int .i64 o.x,.int .i64 o.y]:=by rw [hW];exact (AO.made rfl _ _).alloc _
 have X3:AO W (w.heap.size+1) 39 #[.int .i64 a.x,.int .i64 a.y]:=by rw [hW];exact AO.made Aw _ _
 rw [<- hW];clear hW;obtain ⟨BQ,BR,BX,-,-⟩:=X2.BN;obtain ⟨E5,Eo,F9,-,-⟩:=X3.BN;refine Cj (W) (.run 12 0 0 (.done)) fun Bv QR Ae Ah hS=>?_
 iterate 12 refine Aj ?_
 refine Ce ?_;clear hS Ah Ae;intro hB;have B1:=AA (bT BW hB);clear hB BW X2 X3 BQ BR BX E5 Eo F9;have hqq:=Hq.out;unfold Yk at hqq;generalize a.x-o.x=x at *;generalize a.y-o.y=y at *;replace Hq:=AA hqq;clear hqq;by_cases h1:0<x
 ·by_cases h2:0<=y
  ·go_wp2;go_ret;exact ⟨DU (by rw [<- Hq.out,AZ AB]),B1.out⟩
  ·have h3:¬ x<=0:=by omega
   have h4:¬ x<0:=by omega
   go_wp2;go_ret;exact ⟨DU (by rw [<- Hq.out,AX AB,AX AB,AX AB]),B1.out⟩
 ·have h3:x<=0:=by omega
  by_cases h2:0<y
  ·go_wp2;go_ret;exact ⟨DU (by rw [<- Hq.out,AX AB,AZ AB]),B1.out⟩
  ·by_cases h4:x<0
   ·go_wp2;go_ret;exact ⟨DU (by rw [<- Hq.out,AX AB,AX AB,AZ AB]),B1.out⟩
   ·go_wp2;go_ret;exact ⟨DU (by rw [<- Hq.out,AX AB,AX AB,AX AB]),B1.out⟩
theorem as3 (o a b:Pt) (w:World):Calls Tryz.prog 275 #[BD o,BD a,BD b] w fun e w'=>e=.returned (.bool (Ym o a b))/\AP w w':=by
 have TN:=fun (v:Value) W=>uV v [o,a,b] W;have jL:=fun (h:Dy [o,a,b]=true) W=>ajA o a W (WX h).1 (WX h).2.1;have jM:=fun (h:Dy [o,a,b]=true) W=>ajA o b W (WX h).1 (WX h).2.2;have TT:=fun (h:Dy [o,a,b]=true) W=>ac3 o a o b W (WX h).1 (WX h).2.1 (WX h).1 (WX h).2.2;have E1:=U8 a o;have E2:=U8 b o;obtain ⟨r,hr⟩:=BL (Ym o a b);rw [hr];unfold Ym at hr;unfold BD at jL jM TT ⊢;have HN:=AA TN;have H1:=AA jL;have H2:=AA jM;have HT:=AA TT;clear TN jL jM TT;generalize hz:Dy [o,a,b]=z at *;generalize decide (a=o)=z1 at *;generalize decide (b=o)=z2 at *;generalize hl1:Yk o a=l1 at *;generalize hl2:Yk o b=l2 at *;generalize hq:BM o a o b=q at *;have Hr:=AA hr;clear hr hq hz hl1 hl2;go_enter Tryz.func275,Tryz.ntmps275;go_wp2_with fail;have TU:Hid (Dq ((((w.alloc (.cells #[.int .i64 o.x,.int .i64 o.y] 39)).alloc (.cells #[.int .i64 a.x,.int .i64 a.y] 39)).alloc (.cells #[.int .i64 b.x,.int .i64 b.y] 39)).alloc (.cells #[.int .i64 o.x,.int .i64 o.y,.int .i64 a.x,.int .i64 a.y,.int .i64 b.x,.int .i64 b.y] 39)) (.slice (some ⟨w.heap.size+1+1+1,0,none⟩) 3 3) [o,a,b]):=AA (Dq.Zq (AO.made Aw _ _));refine (HN.out _ _ TU.out).mono ?_;rintro e w1 ⟨rfl,hb1⟩;have B1:=AA (bT (bA (bA (bA (bA (bR w) _) _) _) _) hb1);have Ep:=AA (show AO w1 w.heap.size 39 #[.int .i64 o.x,.int .i64 o.y] from ((((AO.made rfl _ _).alloc _).alloc _).alloc _).keep hb1);have DJ:=AA (show AO w1 (w.heap.size+1) 39 #[.int .i64 a.x,.int .i64 a.y] from (((AO.made Aw _ _).alloc _).alloc _).keep hb1);have D8:=AA (show AO w1 (w.heap.size+1+1) 39 #[.int .i64 b.x,.int .i64 b.y] from ((AO.made Aw _ _).alloc _).keep hb1);clear hb1 TU HN;have X3:=Ep.out;have X4:=DJ.out;have X5:=D8.out;obtain ⟨E5,Eo,F9,-,-⟩:=X3.BN;obtain ⟨Bh,Bl,CV,-,-⟩:=X4.BN;obtain ⟨CJ,CO,CS,-,-⟩:=X5.BN
 cases z
 case false =>
  go_wp2;go_ret;exact ⟨C9 Xx,B1.out⟩
 cases z1
 case true =>
  go_wp2;go_ret;exact ⟨C9 Xx,B1.out⟩
 cases z2
 case true =>
  go_wp2;go_ret;exact ⟨C9 Xx,B1.out⟩
 have hr:=Hr.out;simp only [lH,Bool.not_false] at hr;have HT2:=AA (HT.out rfl);have bU:=AA (H1.out rfl);have Ku:=AA (H2.out rfl);clear HT Hr H1 H2;go_upto_region 3 with fail;refine Cj (w1) (.take 0 1 (.take 1 3 (.take 3 11 (.take 4 27 (.call 2 31 (.call 5 63 (.take 6 127 (.take 7 255 (.done))))))))) fun Bv QR Ae Ah hS=>?_
 iterate 4 refine Aj ?_
 refine FD (bU.out _) ?_;clear hS;intro Bq Bf hS;refine FD (Ku.out _) ?_;clear hS;intro wr2 FT hS
 iterate 2 refine Aj ?_
 refine Ce ?_;clear hS Ah Ae;intro hB;have B2:=AA (bT B1.out hB);replace Ep:=AA (Ep.out.keep hB);replace DJ:=AA (DJ.out.keep hB);replace D8:=AA (D8.out.keep hB);clear hB X3 X4 X5 E5 Eo F9 Bh Bl CV CJ CO CS;have X3:=Ep.out;have X4:=DJ.out;have X5:=D8.out
 try clear E5 Eo F9
 obtain ⟨E5,Eo,F9,-,-⟩:=X3.BN
 try clear Bh Bl CV
 obtain ⟨Bh,Bl,CV,-,-⟩:=X4.BN
 try clear CJ CO CS
 obtain ⟨CJ,CO,CS,-,-⟩:=X5.BN;by_cases hlt:l1<l2
 ·rw [JE hlt] at hr;have Hr:=AA hr;clear hr;go_wp2;go_ret;exact ⟨C9 Xx,B2.out⟩
 ·rw [G8 hlt,Bool.false_or] at hr;by_cases hl:l1=l2
  ·have hl':(l1 == l2)=true:=by simpa using hl
   rw [JE hl,lH] at hr;have Hr:=AA hr;clear hl hr;go_wp2_with fail;refine (HT2.out _).mono ?_;rintro e w3 ⟨rfl,hb3⟩;have B3:=AA (bT B2.out hb3);clear hb3;go_wp2;go_ret;exact ⟨C9 Hr.out,B3.out⟩
  ·have hl':(l1 == l2)=false:=by simpa using hl
   rw [G8 hl,Bool.false_and] at hr;have Hr:=AA hr;clear hl hr;go_wp2;go_ret;exact ⟨C9 Hr.out,B2.out⟩
open Go.RowKit Go.Sort
theorem Own.shape {α:Type} {w:World} {base:Nat} {e:TypeId} {size:Nat} {f:α->List Value} {v:Value} {l:List α} (h:Own w base e size f v l):∃ A c,v=.slice A l.length c/\l.length<=c/\c<=maxLen:=by
 obtain ⟨A,c,rfl,h1,h2,-⟩:=Own.sl h;exact ⟨A,c,rfl,h1,h2⟩
structure jO (w:World) (B g4 g7 gm n:Nat) (dl:List Int) (f:Int->Pt) (v:Value):Prop where
 x4:AO w g4 24 #[v]
 own:Own w B 3 1 D5 v dl
 x7:AO w g7 189 #[.map (some gm)]
 mp:J4 w gm n f
 b4:B<=g4
 bm:B<=gm
theorem aea {w:World} {gm n:Nat} {f:Int->Pt} (h:J4 w gm n f) {g:Nat} {t:TypeId} {cs:Array Value} (hg:AO w g t cs):g≠gm:=by
 rintro rfl;obtain ⟨D,h1,-⟩:=h;obtain ⟨es,clock,h2,-⟩:=h1;unfold AO at hg;rw [hg] at h2
 cases h2
theorem aeb {w:World} {gm n:Nat} {f:Int->Pt} (h:J4 w gm n f) {base:Nat} {e:TypeId} {size:Nat} {α:Type} {fe:α->List Value} {v:Value} {l:List α} (ho:Own w base e size fe v l):v.ownBlock≠some gm:=by
 rcases ho.2 with ⟨rfl,_⟩ | ⟨g,cap,cur,rfl,_,hh,_⟩
 · simp [Value.ownBlock]
 ·intro e';exact aea h (cs:=cur) (g:=g) hh sV
theorem as4 (d:Int) (q:Pt) (B g4 g7 gm n:Nat) (dl:List Int) (f:Int->Pt) (v:Value) (w:World) (h:jO w B g4 g7 gm n dl f v) (hB:B<=w.heap.size) (hn:n<4294967296) (hl:dl.length<=1000000) (hd:ES d) :
  Calls Tryz.prog 174 #[.int .i64 d,.agg #[.int .i64 q.x,.int .i64 q.y],.pointer (some ⟨g4,0,none⟩),.pointer (some ⟨g7,0,none⟩)] w fun e w'=>e=.returned (.tuple #[])/\(∃ v',jO w' B g4 g7 gm (n+1) (dl++[d]) (fun i=>if i=d then q else f i) v')/\Below B w w'/\∀ g t cs,AO w g t cs->g≠g4->g≠gm->v.ownBlock≠some g->AO w' g t cs:=by
 obtain ⟨x4,own,x7,mp,b4,bm⟩:=h;obtain ⟨A,c,rfl,-⟩:=Own.shape own;have DJ:=AA x4;have HO:=AA own;have Iw:=AA x7;have HM:=AA mp;have n47:g4≠g7:=AO.MX x4 x7 BG;have n4m:=aea mp x4;have n7m:=aea mp x7;have aCl:=Own.Dz own x4 BG;have no7:=Own.Dz own x7 BG;have yT:=aeb mp own;clear own mp;have lT:=AA hd;clear hd;have X4:=x4;have X7:=x7;clear x4 x7;obtain ⟨Bh,Bl,Dl⟩:=X4.Fa;obtain ⟨EK,EL,-⟩:=X7.Fa;go_enter Tryz.func174,Tryz.ntmps174;go_upto_region 1 with fail;obtain ⟨W0,hW⟩:∃ W:World,W=w.alloc (.cells #[.int .i64 q.x,.int .i64 q.y] 39):=⟨_,rfl⟩;have hA0:AP w W0:=by rw [hW];exact bA (bR w) _
 have X5:AO W0 w.heap.size 39 #[.int .i64 q.x,.int .i64 q.y]:=by rw [hW];exact AO.made rfl _ _
 rw [<- hW];clear hW;replace X4:=X4.keep hA0;replace X7:=X7.keep hA0;have xH:=AA (HO.out.keep hA0);have jB:=AA (HM.out.keep hA0);have xI:=AA hA0;have hlt4:g4<w.heap.size:=DJ.out.lt;have hz0:=hA0.size;clear hA0 Bh Bl Dl EK EL
 try clear Bh Bl
 try clear Dl
 obtain ⟨Bh,Bl,Dl⟩:=X4.Fa;obtain ⟨CJ,CO,CS,-,-⟩:=X5.BN
 try clear EK EL
 obtain ⟨EK,EL,-⟩:=X7.Fa;have n54:w.heap.size≠g4:=by omega
 have n57:w.heap.size≠g7:=by have:=Iw.out.lt;omega
 have adv:=HM.out.lt;go_upto_region 2 with
  (at_builtin
   refine Ew _ rfl (.tmp 6) (.tmp 8) _ rfl (base:=B) IB Gt IK rfl (Own.alloc xH.out _) rfl (l2:=[d]) (Sl.lit (n:=1) (AO.made rfl _ _) rfl (D6 AB)) DR DR DC ?_;intro v1 w1 ho1 hg1 SI;obtain ⟨A1,c1,hv1,-⟩:=Own.shape ho1;rw [show (dl++[d]).length=dl.length+1 by simp] at hv1;subst hv1;have JZ:=AA ho1;have hB1:Below B W0 w1:=Below.grown (Below.alloc (Below.refl _ _) AB _) hg1 DC (fun g hg=>(xH.out.lt g hg).1);have HB1:=AA hB1;have xJ:some w.heap.size≠(Value.slice A dl.length c).ownBlock:=fun e=>by have:=(HO.out.lt _ e.symm).2;omega
   replace X4:=AO.grown (X4.alloc _) hg1 (fun e=>aCl e.symm);replace X5:=AO.grown (X5.alloc _) hg1 xJ;replace X7:=AO.grown (X7.alloc _) hg1 (fun e=>no7 e.symm);have OM:=AA ((jB.out.keep (bA (bR W0) _)).kept hg1 (fun e=>yT e.symm));have HK1:=AA (fun g t cs (h:AO w g t cs) (hne:(Value.slice A dl.length c).ownBlock≠some g)=>AO.grown ((h.keep xI.out).alloc (.cells #[.int .i64 d] 3)) hg1 (fun e=>hne e.symm));clear ho1 hg1 SI hB1 Bh Bl Dl CJ CO CS EK EL
   try clear Bh Bl
   try clear Dl
   obtain ⟨Bh,Bl,Dl⟩:=X4.Fa
   try clear CJ CO CS
   obtain ⟨CJ,CO,CS,-,-⟩:=X5.BN
   try clear EK EL
   obtain ⟨EK,EL,-⟩:=X7.Fa
   )
 obtain ⟨W2,hW2⟩:∃ W:World,W=w1.setCell ⟨g4,0,none⟩ (.slice A1 (dl.length+1) c1):=⟨_,rfl⟩;have as5:=Own.Dz JZ.out X4 BG;have Y4:AO W2 g4 24 #[.slice A1 (dl.length+1) c1]:=by rw [hW2];exact AO.aAr X4
 have Y7:AO W2 g7 189 #[.map (some gm)]:=by rw [hW2];exact X7.far (fun e=>n47 e.symm) _
 have Y5:AO W2 w.heap.size 39 #[.int .i64 q.x,.int .i64 q.y]:=by rw [hW2];exact X5.far n54 _
 have YO:Own W2 B 3 1 D5 (.slice A1 (dl.length+1) c1) (dl++[d]):=by rw [hW2];exact JZ.out.far as5 _
 have YM:J4 W2 gm n f:=by
  rw [hW2];exact OM.out.kept (row:=some g4) ⟨rfl,rfl,rfl,Aw,fun i _ hne=>Below.heap_setCell w1 ⟨g4,0,none⟩ _ i (fun e=>hne Rw)⟩ (fun e=>n4m (Dc e).symm)
 have YB:Below B w W2:=by rw [hW2];exact (Below.trans (xI.out.mono hB) HB1.out).setCell b4 _
 rw [<- hW2];clear X4 X5 X7 Bh Bl Dl CJ CO CS EK EL;obtain ⟨w3,hr3,PW,hg3⟩:=YM.upd hn d lT.out q;have Z4:=AA (AO.grown Y4 hg3 (fun e=>n4m (Dc e)));have Z7:=AA (AO.grown Y7 hg3 (fun e=>n7m (Dc e)));have ZO:=AA (Own.grown YO hg3 (fun g' hg' e=>aeb YM YO (by rw [hg',e])));have ZM:=AA PW;have ZB:=AA (YB.grown hg3 (by have:=YB.size;omega) (fun g hg=>by have:=Dc hg;omega));have HK:=AA (show ∀ g t cs,AO w g t cs->g≠g4->g≠gm->(Value.slice A dl.length c).ownBlock≠some g->AO w3 g t cs from fun g t cs h h4 hm' ho=>by
  refine AO.grown ?_ hg3 (fun e=>hm' (Dc e));rw [hW2];exact (HK1.out g t cs h ho).far h4 _)
 unfold BD at hr3;clear PW hg3 YO YM YB Y4 hW2;obtain ⟨Y5l,Y5a,Y5b,-,-⟩:=Y5.BN;obtain ⟨Y7l,Y7a,-⟩:=Y7.Fa;go_wp2_with fail;exact bodyPost_end (v:=.tuple #[]) (results_none rfl _ _ _) rfl ⟨rfl,⟨_,Z4.out,ZO.out,Z7.out,ZM.out,b4,bm⟩,ZB.out,HK.out⟩
def as6 (z1 z2:Bool):Int:=if z1 then -1 else if z2 then 1 else 0
theorem as7 (nd:Nd) (x y:Int) (g5 g7 gm n:Nat) (f:Int->Pt) (w:World) (h5:AO w g5 45 #[.int .i64 nd.id,.int .i64 nd.pt.x,.int .i64 nd.pt.y]) (h7:AO w g7 189 #[.map (some gm)]) (hm:J4 w gm n f) (hx:ES x) (hy:ES y) :
  Calls Tryz.prog 176 #[.int .i64 x,.int .i64 y,.pointer (some ⟨g5,0,none⟩),.pointer (some ⟨g7,0,none⟩)] w fun e w'=>e=.returned (.int .i64 (bQ (fun a b=>Si nd.pt (f a) (f b)) x y))/\NZ w w':=by
 have T1:=fun W=>aj7 nd.pt (f x) (f y) W;have T2:=fun W=>aj7 nd.pt (f y) (f x) W;have L1:=hm.look x hx;have L2:=hm.look y hy;have HM:=AA hm;have H5:=AA h5;have H7:=AA h7;unfold BD at T1 T2 L1 L2;have HX:=AA hx;have HY:=AA hy;obtain ⟨r,hr⟩:=BL (bQ (fun a b=>Si nd.pt (f a) (f b)) x y);rw [hr];replace hr:as6 (Si nd.pt (f x) (f y)) (Si nd.pt (f y) (f x))=r:=hr;obtain ⟨z1,hz1⟩:=BL (Si nd.pt (f x) (f y));obtain ⟨z2,hz2⟩:=BL (Si nd.pt (f y) (f x));rw [hz1] at T1 hr;rw [hz2] at T2 hr;have Hr:=AA hr;have H1:=AA T1;have H2:=AA T2;clear T1 T2 hm hx hy hz1 hz2 hr;have X5:=h5;have X7:=h7;clear h5 h7;obtain ⟨CJ,CO,CS,G6,-,-,-⟩:=X5.BF;obtain ⟨EK,EL,-⟩:=X7.Fa;go_enter Tryz.func176,Tryz.ntmps176;go_wp2_with fail;refine (H1.out _).mono ?_;rintro e w1 ⟨rfl,hb1,hd1⟩;have B1:=AA hb1;have D1:=AA hd1;clear hb1 hd1 X5 X7 CJ CO CS G6 EK EL L1 L2
 cases z1
 case true =>
  go_wp2;go_ret;exact ⟨DU Xx,B1.out,D1.out⟩
 have X5:=H5.out.keep B1.out;have X7:=H7.out.keep B1.out;have OM:=HM.out.keep B1.out;have L1:=OM.look x HX.out;have L2:=OM.look y HY.out;unfold BD at L1 L2;clear OM
 try clear CJ CO CS G6
 obtain ⟨CJ,CO,CS,G6,-,-,-⟩:=X5.BF
 try clear EK EL
 obtain ⟨EK,EL,-⟩:=X7.Fa;go_wp2_with fail;refine (H2.out _).mono ?_;rintro e w2 ⟨rfl,hb2,hd2⟩;have B2:=AA (bT B1.out hb2);have D2:=AA (dT D1.out hd2);clear hb2 hd2 X5 X7 CJ CO CS G6 EK EL L1 L2
 cases z2
 ·go_wp2;go_ret;exact ⟨DU Xx,B2.out,D2.out⟩
 ·go_wp2;go_ret;exact ⟨DU Xx,B2.out,D2.out⟩
