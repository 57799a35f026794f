import Derived.Test.YtpempeioeiaijaaGreatJ10
import Derived.Test.YtpempeioeiaijaaGreatLaySortIn
import Derived.Shelf.SortM.Plain
import Derived.Shelf.SortM.SortNone
import Derived.Test.YtpempeioeiaijaaGreatLaySortN
set_option linter.unusedSimpArgs false
set_option linter.unusedVariables false
set_option maxRecDepth 100000
set_option maxHeartbeats 8000000
namespace Go.Proofs.YtpempeioeiaijaaGreat
open Go.RowKit Go.Sort Tryz
def bf (lt:Int->Int->Bool) (x y:Int):Int:=if lt x y then -1 else if lt y x then 1 else 0
section
variable {α:Type} [Inhabited α] (enc:α->Value) (w:World)
theorem aal (blk off m:Nat) (dk:Array α) (os:Array Obj):(sortWorld enc w blk off m dk os).heap=w.heap.modify blk (onCells (putCells enc off dk))++os:=rfl
theorem aam (blk off m:Nat) (dk:Array α) (os:Array Obj):w.grownBy (sortWorld enc w blk off m dk os) (some blk):=by
 refine ⟨rfl,rfl,rfl,?_,fun i hi hne=>?_⟩
 · rw [aal];simp
 ·have hne':blk≠i:=fun e=>hne RD;rw [aal,Array.getElem?_append_left kD,Array.getElem?_modify,AX hne']
end
def uo (lt:Int->Int->Bool) (D:List Int) (x y:{x:Int // x∈D}):Int:=bf lt x.1 y.1
theorem aan {lt:Int->Int->Bool} {D:List Int} (x y:{x:Int // x∈D}):ltOf (uo lt D) x y=lt x.1 y.1:=by
 unfold ltOf uo bf
 cases h1:lt x.1 y.1
 · cases h2:lt y.1 x.1<;>simp
 · simp
theorem atF {lt:Int->Int->Bool} {D:List Int} (ho:Xp lt D):SWO (ltOf (uo lt D)) where
 irrefl x:=by
  rw [aan]
  cases h:lt x.1 x.1
  · rfl
  · have:=ho.asym _ x.2 _ x.2 h;rw [h] at this;cases this
 trans x y z h1 h2:=by
  rw [aan] at *
  cases h:lt x.1 z.1
  ·have h3:=ho.asym _ y.2 _ z.2 h2;have:=ho.ntr _ x.2 _ z.2 _ y.2 h h3
   rw [h1] at this;cases this
  · rfl
 ntrans x y z h1 h2:=by
  rw [aan] at *;exact ho.ntr _ x.2 _ y.2 _ z.2 h1 h2
theorem atG (base:Nat) (v:Value) (sl:List Int) (lt:Int->Int->Bool) (fn:Nat) (cb:Array Value) (w:World) (hown:Own w base 3 1 DY v sl) (ho:Xp lt sl) (hn:sl.length<=4294967296)
  (eg:∀ args w,(callFunc fn args).run prog w=.ok (.enter fn args) w)
  (hc:∀ W,w.grownBy W v.ownBlock->∀ x∈sl,∀ y∈sl,Calls prog fn (#[.int .i64 x,.int .i64 y]++cb) W fun e w'=>e=.returned (.int .i64 (bf lt x y))/\MR W w') :
  Calls prog 160 #[v,.func (.func fn) #[] cb] w (akm w base v (sortB lt sl)):=by
 rcases sl with _ | ⟨s0,rest⟩
 ·have hv:∃ p cap,v=.slice p 0 cap:=by
   rcases hown.2 with ⟨h,_⟩ | ⟨g,cap,cur,h,_⟩
   · exact ⟨_,_,h⟩
   · exact ⟨_,_,h⟩
  obtain ⟨p,cap,rfl⟩:=hv;refine Calls.mono (AnyF.slices_SortFunc_none {Tryz.sortIn with} p cap (.func (.func fn) #[] cb) w) ?_;rintro e w' ⟨rfl,rfl⟩;exact ⟨rfl,hown,World.grownBy.refl _ _⟩
 generalize hsl:s0::rest=sl at *;have hs0:s0∈sl:=by rw [<- hsl];simp
 have hpos:0<sl.length:=by rw [<- hsl];simp
 obtain ⟨hlen,hown2⟩:=hown;rcases hown2 with ⟨_,h0⟩ | ⟨g,cap,cur,rfl,hg,hh,hnc,hcm,hcs,hx⟩
 · omega
 haveI hI:Inhabited ({x:Int // x∈sl}):=⟨⟨s0,hs0⟩⟩
 have hdl:∃ dl:List ({x:Int // x∈sl}),dl.map (·.1)=sl:=⟨sl.attachWith (·∈sl) (fun _ h=>h),Ah⟩;obtain ⟨dl,hdl⟩:=hdl;have hdn:dl.length=sl.length:=by have:=congrArg List.length hdl;simpa using this
 have hcur:∀ j,j<sl.length->cur[j]? = (sl[j]?).map (.int .i64 ·):=fun j hj=>by
  rw [<- aaj,<- hx,List.getElem?_take,AZ AA];simp
 let enc:{x:Int // x∈sl}->Value:=fun x=>.int .i64 x.1
 have hcmp:CmpLays1 prog fn cb enc (uo lt sl) g 0 dl.toArray.size w:=fun m os dk hdk x y=>by
  have hg':=aam enc w g 0 m dk os;exact (hc _ hg' x.1 x.2 y.1 y.2).mono fun e w' h=>⟨h.1,qw h.2⟩
 have hget:∀ j,j<dl.length->sl[j]? = some (dl.toArray[j]!).1:=fun j hj=>by
  have e1:dl.toArray[j]! = dl[j]:=by rw [getElem!_pos dl.toArray j ZE];simp
  rw [e1]
  have:sl[j]? = (dl.map (·.1))[j]? := by rw [hdl]
  rw [this,List.getElem?_map,Di hj];rfl
 have hH:Holds enc w g 0 dl.toArray:=fun j hj=>by
  have hj':j<dl.length:=by simpa using hj
  refine ⟨?_,AO.frozen (t:=3) (cs:=cur) hh _⟩;rw [cell_of_row w g _ cur 3 (0,0) hh,Ug,hcur j AA,hget j hj'];rfl
 have hcon:=Any.slices_SortFunc Tryz.sortIn enc (fun _=>rfl) (uo lt sl) (atF ho) fn cb g 0 cap dl.toArray w eg hcmp hH (AO.lt hh) DR;have hns:dl.toArray.size=sl.length:=by simp [hdn]
 rw [hns] at hcon;refine Calls.mono hcon ?_;rintro e w' ⟨rfl,d',n,os,hp,hs,rfl⟩;obtain ⟨p1,-,p3⟩:=hp;have hd':d'.size=sl.length:=by rw [p1,hns]
 have hperm:d'.toList.Perm dl:=by
  have e1:d'.extract 0 sl.length=d':=by rw [<- hd'];simp
  have e2:dl.toArray.extract 0 sl.length=dl.toArray:=by rw [<- hns];simp
  rw [e1,e2] at p3;simpa using p3
 have aeD:(d'.toList.map (·.1)).Perm sl:=by
  have h1:(d'.toList.map (·.1)).Perm (dl.map (·.1)):=hperm.map _;exact h1.trans (List.Perm.of_eq hdl)
 have hsorted:(d'.toList.map (·.1)).Pairwise (fun a b=>lt b a=false):=by
  rw [IX,G9];intro i j hi hj hij;have hj':j<d'.size:=by simpa using hj
  have:=hs i j (BX _) hij (by rw [<- hd'];exact hj')
  rw [aan,getElem!_pos d' j hj',getElem!_pos d' i AA] at this;simpa using this
 have hd2:d'.toList.map (·.1)=sortB lt sl:=aqP ho aeD hsorted;refine ⟨rfl,?_,aam enc w g 0 n d' os⟩;rw [<- hd2];have hl':(d'.toList.map (·.1)).length=sl.length:=by simp [hd']
 unfold Own;rw [hl'];refine ⟨by rw [aak,hl'];omega,.inr ⟨g,cap,putCells enc 0 d' cur,rfl,hg,?_,hnc,hcm,qQ,?_⟩⟩
 ·have hgl:g<w.heap.size:=AO.lt hh;rw [aal,Array.getElem?_append_left (by simpa using hgl),Array.getElem?_modify,AZ rfl,hh];rfl
 ·apply kM;intro j;rw [List.getElem?_take];by_cases hj:j<sl.length*1
  ·rw [AZ hj];have hjc:j<cur.size:=by rw [hcs];omega
   have hjd:j<d'.size:=by rw [hd'];omega
   rw [aaj,List.getElem?_map];have e1:(putCells enc 0 d' cur).toList[j]? = some (enc d'[j]!):=by
    simp [putCells,hjc,hjd]
   rw [e1,getElem!_pos d' j hjd,Array.getElem?_toList,Array.getElem?_eq_getElem hjd];rfl
  · rw [AX hj,ZJ (by rw [aak,hl'];omega)]
theorem atH (v:Value) (l:List Pt) (w:World) (h:CZ w v l) :
  Calls prog 144 #[v] w fun e w'=>e=.returned (.bool (EO l))/\MR w w':=by
 obtain ⟨A,c,rfl,hn,hc,hR⟩:=h;unfold maxLen at hc;go_enter func144,ntmps144;go_wp2_with fail;go_loopw [7] (fun i wr=>∃ k:Nat,k<=l.length/\i=.int .i64 k/\MR w wr/\∀ j (hj:j<l.length),j<k->CJ l[j]=true) (fun i _=>l.length-(intOf i).toNat)
 case atStart => exact ⟨0,BX _,rfl,⟨Below.refl _ _,dR w⟩,fun j _ h=>AA⟩
 case round =>
  obtain ⟨k,hk,rfl,hb,hno⟩:=hrel;obtain ⟨Hb,Hd,Hno⟩:=CG hb.1 hb.2 hno;have hs:=hb.1.size;clear hb hno;by_cases hlt:k<l.length
  ·obtain ⟨b,o,rfl,hlb,c0,c1⟩:=(hR.mono Hb.1).pt hlt;clear hR;by_cases hnr:CJ l[k]=true
   ·have Hn:=AB hnr;obtain ⟨n1,n2,n3,n4⟩:=(SH _).1 hnr;clear hnr;go_wp2;go_roundw
    case rel => exact ⟨k+1,AA,BG,⟨Hb.1.alloc hs _,dA Hd.1 _⟩,all_succ (p:=fun x=>CJ x=true) Hno.1 hlt Hn.1⟩
    case measure => exact BH
   ·have hn':CJ l[k]=false:=by simpa using hnr
    have Hf:=AB (adv l k hlt hn');clear hn';have rQ:=AB hnr;clear hnr;go_wp2
    all_goals first
     | (go_ret;exact ⟨CP Hf.1.symm,Hb.1.alloc hs _,dA Hd.1 _⟩)
     | (exfalso;exact rQ.1 ((SH _).2 ⟨AA,AA,AA,AA⟩))
  ·go_wp2;go_ret;exact ⟨CP (adw l fun j hj=>Hno.1 j hj AA).symm,Hb.1,Hd.1⟩
theorem atI (a b c:Pt) (w:World) (ha:lim a) (hb:lim b) (hc:lim c) :
  Calls prog 145 #[BA a,BA b,BA c] w fun e w'=>e=.returned (.int .i64 (tw a b c))/\MR w w':=by
 obtain ⟨a1,a2,a3,a4⟩:=ha;obtain ⟨b1,b2,b3,b4⟩:=hb;obtain ⟨c1,c2,c3,c4⟩:=hc;obtain ⟨m1,m2⟩:=Qa (b.x-a.x) (c.y-a.y) 4194304 AA AA AA AA;obtain ⟨m3,m4⟩:=Qa (b.y-a.y) (c.x-a.x) 4194304 AA AA AA AA;simp only [Int.reduceMul,Int.reduceNeg] at m1 m2 m3 m4;unfold BA;go_enter func145,ntmps145;go_wp2;go_ret;exact ⟨D8 rfl,(((Below.refl _ _).alloc (Cj _) _).alloc Ah _).alloc DR _,dA (dA (dA (dR w) _) _) _⟩
theorem akn (o p:Pt) (w:World):Calls prog 202 #[BA o,BA p] w fun e w'=>e=.returned (.bool (V9 o p))/\MR w w':=by
 unfold BA V9;by_cases h1:p.y<o.y
 ·go_enter func202,ntmps202;go_wp2;go_ret;exact ⟨CP (by simp [h1]),bA (bA (bR w) _) _,dA (dA (dR w) _) _⟩
 ·by_cases h2:p.y=o.y
  ·have h2':(p.y == o.y)=true:=by simpa using h2
   have H2:=AB h2;clear h2;by_cases h3:p.x<o.x
   ·go_enter func202,ntmps202;go_wp2;go_ret;exact ⟨CP (by simp [h1,H2.1,h3]),bA (bA (bR w) _) _,dA (dA (dR w) _) _⟩
   ·go_enter func202,ntmps202;go_wp2;go_ret;exact ⟨CP (by simp [h1,H2.1,h3]),bA (bA (bR w) _) _,dA (dA (dR w) _) _⟩
  ·have h2':(p.y == o.y)=false:=by simpa using h2
   have H2:=AB h2;clear h2;go_enter func202,ntmps202;go_wp2;go_ret;exact ⟨CP (by simp [h1,H2.1]),bA (bA (bR w) _) _,dA (dA (dR w) _) _⟩
theorem aeE {p:Pt} (h:CJ p=true):lim p:=(SH p).1 h
theorem Vs {a b c:Pt} (h:EO [a,b,c]=true):lim a/\lim b/\lim c:=by
 simp only [EO,yQ,acn,aco,ER] at h;exact ⟨aeE h.1,aeE h.2.1,aeE h.2.2⟩
theorem ako (o a b:Pt) (w:World):Calls prog 162 #[BA o,BA a,BA b] w fun e w'=>e=.returned (.bool (RJ o a b))/\MR w w':=by
 have TN:=fun (v:Value) W=>atH v [o,a,b] W;have iY:=fun W=>akn o a W;have iZ:=fun W=>akn o b W;have TT:=fun (h:EO [o,a,b]=true) W=>atI o a b W (Vs h).1 (Vs h).2.1 (Vs h).2.2;have E1:=KP a o;have E2:=KP b o;obtain ⟨r,hr⟩:=BI (RJ o a b);rw [hr];unfold RJ at hr;unfold BA at iY iZ TT ⊢;obtain ⟨HN,H1,H2,HT⟩:=DW TN iY iZ TT;clear TN iY iZ TT;generalize hz:EO [o,a,b]=z at *;generalize decide (a=o)=z1 at *;generalize decide (b=o)=z2 at *;generalize hl1:V9 o a=l1 at *;generalize hl2:V9 o b=l2 at *;generalize hq:decide (0<tw o a b)=q at *;obtain ⟨Hr,Hq,Hz⟩:=CG hr hq hz;clear hr hq hz hl1 hl2;go_enter func162,ntmps162;go_wp2_with fail;have bg:Et (CZ ((((w.alloc (.cells #[.int .i64 o.x,.int .i64 o.y] 42)).alloc (.cells #[.int .i64 a.x,.int .i64 a.y] 42)).alloc (.cells #[.int .i64 b.x,.int .i64 b.y] 42)).alloc (.cells #[.int .i64 o.x,.int .i64 o.y,.int .i64 a.x,.int .i64 a.y,.int .i64 b.x,.int .i64 b.y] 42)) (.slice (some ⟨w.heap.size+1+1+1,0,none⟩) 3 3) [o,a,b]):=AB (CZ.Zl (AO.made Ah _ _));refine (HN.1 _ _ bg.out).mono ?_;rintro e w1 ⟨rfl,hb1,hd1⟩;obtain ⟨B1,D1,EY,DL,DX⟩:=I4 (bT (bA (bA (bA (bA (bR w) _) _) _) _) hb1) (dT (dA (dA (dA (dA (dR w) _) _) _) _) hd1) (show AO w1 w.heap.size 42 #[.int .i64 o.x,.int .i64 o.y] from ((((AO.made rfl _ _).alloc _).alloc _).alloc _).keep hb1) (show AO w1 (w.heap.size+1) 42 #[.int .i64 a.x,.int .i64 a.y] from (((AO.made Ah _ _).alloc _).alloc _).keep hb1) (show AO w1 (w.heap.size+1+1) 42 #[.int .i64 b.x,.int .i64 b.y] from ((AO.made Ah _ _).alloc _).keep hb1);clear hb1 hd1 bg HN;have X3:=EY.1;have X4:=DL.1;have X5:=DX.1;obtain ⟨Dk,EI,EN,-⟩:=X3.Bl;obtain ⟨Bg,CO,CU,-⟩:=X4.Bl;obtain ⟨DI,DJ,DU,-⟩:=X5.Bl
 cases z
 case false =>
  go_wp2;go_ret;exact ⟨CP XU,B1.1,D1.1⟩
 cases z1
 case true =>
  go_wp2;go_ret;exact ⟨CP XU,B1.1,D1.1⟩
 cases z2
 case true =>
  go_wp2;go_ret;exact ⟨CP XU,B1.1,D1.1⟩
 have hr:=Hr.1;simp only [kK,Bool.not_false] at hr;have HT2:=AB (HT.1 rfl);clear HT Hr Hz;go_upto_region 3 with fail;refine D9 (w1) (.take 0 1 (.take 1 3 (.take 3 11 (.take 4 27 (.call 2 31 (.call 5 63 (.take 6 127 (.done)))))))) fun CQ QR Ae Aj hS=>?_
 iterate 4 refine Ak ?_
 refine BN ?_;clear hS;intro K hK AP;go_simp;refine (H1.1 _).mono ?_;rintro e BZ ⟨rfl,BU,akp⟩;have hS:Since w1 BZ:=bT (w:=w1) AP.out BU;clear AP;refine hK.out _ _ hS (fun _=>?_);clear hK K
 try simp only [pu]
 refine BN ?_;clear hS;intro K hK AP;go_simp;refine (H2.1 _).mono ?_;rintro e wr2 ⟨rfl,Du,akq⟩;have hS:Since w1 wr2:=bT (w:=w1) AP.out Du;clear AP;refine hK.out _ _ hS (fun _=>?_);clear hK K
 try simp only [pu]
 refine Ak ?_;refine D5 ?_;clear hS Aj Ae;intro hB;have B2:=AB (bT B1.1 hB);have D2:=AB (dT (dT (dD D1.1) akp) akq);replace EY:=AB (EY.1.keep hB);replace DL:=AB (DL.1.keep hB);replace DX:=AB (DX.1.keep hB);clear hB akp akq X3 X4 X5 Dk EI EN Bg CO CU DI DJ DU;have X3:=EY.1;have X4:=DL.1;have X5:=DX.1
 try clear Dk EI EN
 obtain ⟨Dk,EI,EN,-⟩:=X3.Bl
 try clear Bg CO CU
 obtain ⟨Bg,CO,CU,-⟩:=X4.Bl
 try clear DI DJ DU
 obtain ⟨DI,DJ,DU,-⟩:=X5.Bl;by_cases hl:l1=l2
 ·subst hl;rw [AZ rfl] at hr;have Hr:=AB hr;clear hr
  cases l1
  all_goals
   go_wp2_with fail;refine (HT2.1 _).mono ?_;rintro e w3 ⟨rfl,hb3,hd3⟩;have B3:=AB (bT B2.1 hb3);have D3:=AB (dT D2.1 hd3);clear hb3 hd3;go_wp2;go_ret;exact ⟨CP (by rw [<- Hr.1,<- Hq.1]),B3.1,D3.1⟩
 ·rw [AX hl] at hr;have Hr:=AB hr;have hl2:l2 = !l1:=by cases l1<;>cases l2<;>simp_all
  clear hl hr;subst hl2
  cases l1
  all_goals
   go_wp2_with fail;refine (H2.1 _).mono ?_;rintro e w3 ⟨rfl,hb3,hd3⟩;have B3:=AB (bT B2.1 hb3);have D3:=AB (dT D2.1 hd3);clear hb3 hd3;go_wp2;go_ret;exact ⟨CP Hr.1,B3.1,D3.1⟩
theorem akr (o a:Pt) (w:World) (ho:lim o) (ha:lim a):Calls prog 251 #[BA o,BA a] w fun e w'=>e=.returned (.int .i64 (Xi o a))/\AU w w':=by
 obtain ⟨o1,o2,o3,o4⟩:=ho;obtain ⟨a1,a2,a3,a4⟩:=ha;have k1:=EL (a.x-o.x);have k2:=EL (a.y-o.y);obtain ⟨q,hq⟩:=BI (Xi o a);rw [hq];have Hq:=AB hq;unfold BA;clear o1 o2 o3 o4 a1 a2 a3 a4 hq;go_enter func251,ntmps251;go_upto_region 1 with fail;obtain ⟨W,hW⟩:=BR ((w.alloc (.cells #[.int .i64 o.x,.int .i64 o.y] 42)).alloc (.cells #[.int .i64 a.x,.int .i64 a.y] 42));have BW:AU w W:=by rw [hW];exact bA (bA (bR w) _) _
 have X2:AO W w.heap.size 42 #[.int .i64 o.x,.int .i64 o.y]:=by rw [hW];exact (AO.made rfl _ _).alloc _
 have X3:AO W (w.heap.size+1) 42 #[.int .i64 a.x,.int .i64 a.y]:=by rw [hW];exact AO.made Ah _ _
 rw [<- hW];clear hW;obtain ⟨Bh,Bq,Bv,-⟩:=X2.Bl;obtain ⟨Dk,EI,EN,-⟩:=X3.Bl;refine D9 (W) (.run 12 0 0 (.done)) fun CQ QR Ae Aj hS=>?_
 iterate 12 refine Ak ?_
 refine D5 ?_;clear hS Aj Ae;intro hB;have B1:=AB (bT BW hB);clear hB BW X2 X3 Bh Bq Bv Dk EI EN;have hqq:=Hq.1;unfold Xi at hqq;generalize a.x-o.x=x at *;generalize a.y-o.y=y at *;replace Hq:=AB hqq;clear hqq;by_cases h1:0<x
 ·by_cases h2:0<=y
  ·go_wp2;go_ret;exact ⟨D8 (by rw [<- Hq.1,AZ AA]),B1.1⟩
  ·have h3:¬ x<=0:=AA
   have h4:¬ x<0:=AA
   go_wp2;go_ret;exact ⟨D8 (by rw [<- Hq.1,AX AA,AX AA,AX AA]),B1.1⟩
 ·have h3:x<=0:=AA
  by_cases h2:0<y
  ·go_wp2;go_ret;exact ⟨D8 (by rw [<- Hq.1,AX AA,AZ AA]),B1.1⟩
  ·by_cases h4:x<0
   ·go_wp2;go_ret;exact ⟨D8 (by rw [<- Hq.1,AX AA,AX AA,AZ AA]),B1.1⟩
   ·go_wp2;go_ret;exact ⟨D8 (by rw [<- Hq.1,AX AA,AX AA,AX AA]),B1.1⟩
theorem atJ (o a b:Pt) (w:World):Calls prog 245 #[BA o,BA a,BA b] w fun e w'=>e=.returned (.bool (Xj o a b))/\AU w w':=by
 have TN:=fun (v:Value) W=>rU v [o,a,b] W;have iY:=fun (h:EO [o,a,b]=true) W=>akr o a W (Vs h).1 (Vs h).2.1;have iZ:=fun (h:EO [o,a,b]=true) W=>akr o b W (Vs h).1 (Vs h).2.2;have TT:=fun (h:EO [o,a,b]=true) W=>ae5 o a o b W (Vs h).1 (Vs h).2.1 (Vs h).1 (Vs h).2.2;have E1:=KP a o;have E2:=KP b o;obtain ⟨r,hr⟩:=BI (Xj o a b);rw [hr];unfold Xj at hr;unfold BA at iY iZ TT ⊢;obtain ⟨HN,H1,H2,HT⟩:=DW TN iY iZ TT;clear TN iY iZ TT;generalize hz:EO [o,a,b]=z at *;generalize decide (a=o)=z1 at *;generalize decide (b=o)=z2 at *;generalize hl1:Xi o a=l1 at *;generalize hl2:Xi o b=l2 at *;generalize hq:BM o a o b=q at *;have Hr:=AB hr;clear hr hq hz hl1 hl2;go_enter func245,ntmps245;go_wp2_with fail;have bg:Et (CZ ((((w.alloc (.cells #[.int .i64 o.x,.int .i64 o.y] 42)).alloc (.cells #[.int .i64 a.x,.int .i64 a.y] 42)).alloc (.cells #[.int .i64 b.x,.int .i64 b.y] 42)).alloc (.cells #[.int .i64 o.x,.int .i64 o.y,.int .i64 a.x,.int .i64 a.y,.int .i64 b.x,.int .i64 b.y] 42)) (.slice (some ⟨w.heap.size+1+1+1,0,none⟩) 3 3) [o,a,b]):=AB (CZ.Zl (AO.made Ah _ _));refine (HN.1 _ _ bg.out).mono ?_;rintro e w1 ⟨rfl,hb1⟩;obtain ⟨B1,EY,DL,DX⟩:=DW (bT (bA (bA (bA (bA (bR w) _) _) _) _) hb1) (show AO w1 w.heap.size 42 #[.int .i64 o.x,.int .i64 o.y] from ((((AO.made rfl _ _).alloc _).alloc _).alloc _).keep hb1) (show AO w1 (w.heap.size+1) 42 #[.int .i64 a.x,.int .i64 a.y] from (((AO.made Ah _ _).alloc _).alloc _).keep hb1) (show AO w1 (w.heap.size+1+1) 42 #[.int .i64 b.x,.int .i64 b.y] from ((AO.made Ah _ _).alloc _).keep hb1);clear hb1 bg HN;have X3:=EY.1;have X4:=DL.1;have X5:=DX.1;obtain ⟨Dk,EI,EN,-⟩:=X3.Bl;obtain ⟨Bg,CO,CU,-⟩:=X4.Bl;obtain ⟨DI,DJ,DU,-⟩:=X5.Bl
 cases z
 case false =>
  go_wp2;go_ret;exact ⟨CP XU,B1.1⟩
 cases z1
 case true =>
  go_wp2;go_ret;exact ⟨CP XU,B1.1⟩
 cases z2
 case true =>
  go_wp2;go_ret;exact ⟨CP XU,B1.1⟩
 have hr:=Hr.1;simp only [kK,Bool.not_false] at hr;obtain ⟨HT2,uq,Pm⟩:=CG (HT.1 rfl) (H1.1 rfl) (H2.1 rfl);clear HT Hr H1 H2;go_upto_region 3 with fail;refine D9 (w1) (.take 0 1 (.take 1 3 (.take 3 11 (.take 4 27 (.call 2 31 (.call 5 63 (.take 6 127 (.take 7 255 (.done))))))))) fun CQ QR Ae Aj hS=>?_
 iterate 4 refine Ak ?_
 refine II (uq.1 _) ?_;clear hS;intro BZ BU hS;refine II (Pm.1 _) ?_;clear hS;intro wr2 Du hS
 iterate 2 refine Ak ?_
 refine D5 ?_;clear hS Aj Ae;intro hB;have B2:=AB (bT B1.1 hB);replace EY:=AB (EY.1.keep hB);replace DL:=AB (DL.1.keep hB);replace DX:=AB (DX.1.keep hB);clear hB X3 X4 X5 Dk EI EN Bg CO CU DI DJ DU;have X3:=EY.1;have X4:=DL.1;have X5:=DX.1
 try clear Dk EI EN
 obtain ⟨Dk,EI,EN,-⟩:=X3.Bl
 try clear Bg CO CU
 obtain ⟨Bg,CO,CU,-⟩:=X4.Bl
 try clear DI DJ DU
 obtain ⟨DI,DJ,DU,-⟩:=X5.Bl;by_cases hlt:l1<l2
 ·rw [JB hlt] at hr;have Hr:=AB hr;clear hr;go_wp2;go_ret;exact ⟨CP XU,B2.1⟩
 ·rw [Fg hlt,yL] at hr;by_cases hl:l1=l2
  ·have hl':(l1 == l2)=true:=by simpa using hl
   rw [JB hl,kK] at hr;have Hr:=AB hr;clear hl hr;go_wp2_with fail;refine (HT2.1 _).mono ?_;rintro e w3 ⟨rfl,hb3⟩;have B3:=AB (bT B2.1 hb3);clear hb3;go_wp2;go_ret;exact ⟨CP Hr.1,B3.1⟩
  ·have hl':(l1 == l2)=false:=by simpa using hl
   rw [Fg hl,Bool.false_and] at hr;have Hr:=AB hr;clear hl hr;go_wp2;go_ret;exact ⟨CP Hr.1,B2.1⟩
open Go.RowKit Go.Sort
theorem Own.shape {α:Type} {w:World} {base:Nat} {e:TypeId} {size:Nat} {f:α->List Value} {v:Value} {l:List α} (h:Own w base e size f v l):∃ A c,v=.slice A l.length c/\l.length<=c/\c<=maxLen:=by
 obtain ⟨A,c,rfl,h1,h2,-⟩:=Own.sl h;exact ⟨A,c,rfl,h1,h2⟩
structure ig (w:World) (B g4 g7 gm n:Nat) (dl:List Int) (f:Int->Pt) (v:Value):Prop where
 x4:AO w g4 32 #[v]
 own:Own w B 3 1 DY v dl
 x7:AO w g7 128 #[.map (some gm)]
 mp:JJ w gm n f
 b4:B<=g4
 bm:B<=gm
theorem aeF {w:World} {gm n:Nat} {f:Int->Pt} (h:JJ w gm n f) {g:Nat} {t:TypeId} {cs:Array Value} (hg:AO w g t cs):g≠gm:=by
 rintro rfl;obtain ⟨D,h1,-⟩:=h;obtain ⟨es,clock,h2,-⟩:=h1;unfold AO at hg;rw [hg] at h2
 cases h2
theorem aeG {w:World} {gm n:Nat} {f:Int->Pt} (h:JJ w gm n f) {base:Nat} {e:TypeId} {size:Nat} {α:Type} {fe:α->List Value} {v:Value} {l:List α} (ho:Own w base e size fe v l):v.ownBlock≠some gm:=by
 rcases ho.2 with ⟨rfl,_⟩ | ⟨g,cap,cur,rfl,_,hh,_⟩
 · simp [Value.ownBlock]
 ·intro e';exact aeF h (cs:=cur) (g:=g) hh qO
theorem atK (d:Int) (q:Pt) (B g4 g7 gm n:Nat) (dl:List Int) (f:Int->Pt) (v:Value) (w:World) (h:ig w B g4 g7 gm n dl f v) (hB:B<=w.heap.size) (hn:n<4294967296) (hl:dl.length<=1000000) (hd:F6 d) :
  Calls prog 159 #[.int .i64 d,.agg #[.int .i64 q.x,.int .i64 q.y],.pointer (some ⟨g4,0,none⟩),.pointer (some ⟨g7,0,none⟩)] w fun e w'=>e=.returned (.tuple #[])/\(∃ v',ig w' B g4 g7 gm (n+1) (dl++[d]) (fun i=>if i=d then q else f i) v')/\Below B w w'/\∀ g t cs,AO w g t cs->g≠g4->g≠gm->v.ownBlock≠some g->AO w' g t cs:=by
 obtain ⟨x4,own,x7,mp,b4,bm⟩:=h;obtain ⟨A,c,rfl,-⟩:=Own.shape own;obtain ⟨DL,HO,Il,HM⟩:=DW x4 own x7 mp;have n47:g4≠g7:=AO.sN x4 x7 Aw;have n4m:=aeF mp x4;have n7m:=aeF mp x7;have aao:=Own.EX own x4 Aw;have no7:=Own.EX own x7 Aw;have uw:=aeG mp own;clear own mp;have XF:=AB hd;clear hd;have X4:=x4;have X7:=x7;clear x4 x7;obtain ⟨Bg,CO,Eo⟩:=X4.LD;obtain ⟨EJ,EK,-⟩:=X7.LD;go_enter func159,ntmps159;go_upto_region 1 with fail;obtain ⟨W0,hW⟩:∃ W:World,W=w.alloc (.cells #[.int .i64 q.x,.int .i64 q.y] 42):=⟨_,rfl⟩;have hA0:AU w W0:=by rw [hW];exact bA (bR w) _
 have X5:AO W0 w.heap.size 42 #[.int .i64 q.x,.int .i64 q.y]:=by rw [hW];exact AO.made rfl _ _
 rw [<- hW];clear hW;replace X4:=X4.keep hA0;replace X7:=X7.keep hA0;obtain ⟨uz,fE,HA0⟩:=CG (HO.1.keep hA0) (HM.1.keep hA0) hA0;have hlt4:g4<w.heap.size:=DL.1.lt;have hz0:=hA0.size;clear hA0 Bg CO Eo EJ EK
 try clear Bg CO
 try clear Eo
 obtain ⟨Bg,CO,Eo⟩:=X4.LD;obtain ⟨DI,DJ,DU,-⟩:=X5.Bl
 try clear EJ EK
 obtain ⟨EJ,EK,-⟩:=X7.LD;have n54:w.heap.size≠g4:=AA
 have n57:w.heap.size≠g7:=by have:=Il.1.lt;omega
 have aeH:=HM.1.lt;go_upto_region 2 with
  (at_builtin
   refine FK _ rfl (.tmp 6) (.tmp 8) _ rfl (base:=B) Jk JV Jl rfl (Own.alloc uz.1 _) rfl (l2:=[d]) (Sl.lit (n:=1) (AO.made rfl _ _) rfl (D7 AA)) Dl Dl DR ?_;intro v1 w1 ho1 hg1 MH;obtain ⟨A1,c1,hv1,-⟩:=Own.shape ho1;rw [show (dl++[d]).length=dl.length+1 by simp] at hv1;subst hv1;have Fp:=AB ho1;have hB1:Below B W0 w1:=Below.grown (Below.alloc (Below.refl _ _) AA _) hg1 DR (fun g hg=>(uz.1.lt g hg).1);have HB1:=AB hB1;have vC:some w.heap.size≠(Value.slice A dl.length c).ownBlock:=fun e=>by have:=(HO.1.lt _ e.symm).2;omega
   replace X4:=AO.grown (X4.alloc _) hg1 (fun e=>aao e.symm);replace X5:=AO.grown (X5.alloc _) hg1 vC;replace X7:=AO.grown (X7.alloc _) hg1 (fun e=>no7 e.symm);have JO:=AB ((fE.1.keep (bA (bR W0) _)).kept hg1 (fun e=>uw e.symm));have HK1:=AB (fun g t cs (h:AO w g t cs) (hne:(Value.slice A dl.length c).ownBlock≠some g)=>AO.grown ((h.keep HA0.1).alloc (.cells #[.int .i64 d] 3)) hg1 (fun e=>hne e.symm));clear ho1 hg1 MH hB1 Bg CO Eo DI DJ DU EJ EK
   try clear Bg CO
   try clear Eo
   obtain ⟨Bg,CO,Eo⟩:=X4.LD
   try clear DI DJ DU
   obtain ⟨DI,DJ,DU,-⟩:=X5.Bl
   try clear EJ EK
   obtain ⟨EJ,EK,-⟩:=X7.LD
   )
 obtain ⟨W2,hW2⟩:∃ W:World,W=w1.setCell ⟨g4,0,none⟩ (.slice A1 (dl.length+1) c1):=⟨_,rfl⟩;have atL:=Own.EX Fp.1 X4 Aw;have Y4:AO W2 g4 32 #[.slice A1 (dl.length+1) c1]:=by rw [hW2];exact AO.ad9 X4
 have Y7:AO W2 g7 128 #[.map (some gm)]:=by rw [hW2];exact X7.far (fun e=>n47 e.symm) _
 have Y5:AO W2 w.heap.size 42 #[.int .i64 q.x,.int .i64 q.y]:=by rw [hW2];exact X5.far n54 _
 have YO:Own W2 B 3 1 DY (.slice A1 (dl.length+1) c1) (dl++[d]):=by rw [hW2];exact Fp.1.far atL _
 have YM:JJ W2 gm n f:=by
  rw [hW2];exact JO.1.kept (row:=some g4) ⟨rfl,rfl,rfl,Ah,fun i _ hne=>Below.heap_setCell w1 ⟨g4,0,none⟩ _ i (fun e=>hne RD)⟩ (fun e=>n4m (DV e).symm)
 have YB:Below B w W2:=by rw [hW2];exact (Below.trans (HA0.1.mono hB) HB1.1).setCell b4 _
 rw [<- hW2];clear X4 X5 X7 Bg CO Eo DI DJ DU EJ EK;obtain ⟨w3,hr3,PV,hg3⟩:=YM.upd hn d XF.1 q;obtain ⟨Z4,Z7,ZO,ZM,ZB⟩:=I4 (AO.grown Y4 hg3 (fun e=>n4m (DV e))) (AO.grown Y7 hg3 (fun e=>n7m (DV e))) (Own.grown YO hg3 (fun g' hg' e=>aeG YM YO (by rw [hg',e]))) PV (YB.grown hg3 (by have:=YB.size;omega) (fun g hg=>by have:=DV hg;omega));have HK:=AB (show ∀ g t cs,AO w g t cs->g≠g4->g≠gm->(Value.slice A dl.length c).ownBlock≠some g->AO w3 g t cs from fun g t cs h h4 hm' ho=>by
  refine AO.grown ?_ hg3 (fun e=>hm' (DV e));rw [hW2];exact (HK1.1 g t cs h ho).far h4 _)
 unfold BA at hr3;clear PV hg3 YO YM YB Y4 hW2;obtain ⟨Y5l,Y5a,Y5b,-⟩:=Y5.Bl;obtain ⟨Y7l,Y7a,-⟩:=Y7.LD;go_wp2_with fail;exact bodyPost_end (v:=.tuple #[]) (results_none rfl _ _ _) rfl ⟨rfl,⟨_,Z4.1,ZO.1,Z7.1,ZM.1,b4,bm⟩,ZB.1,HK.1⟩
def atM (z1 z2:Bool):Int:=if z1 then -1 else if z2 then 1 else 0
theorem atN (nd:Nd) (x y:Int) (g5 g7 gm n:Nat) (f:Int->Pt) (w:World) (h5:AO w g5 47 #[.int .i64 nd.id,.int .i64 nd.pt.x,.int .i64 nd.pt.y]) (h7:AO w g7 128 #[.map (some gm)]) (hm:JJ w gm n f) (hx:F6 x) (hy:F6 y) :
  Calls prog 161 #[.int .i64 x,.int .i64 y,.pointer (some ⟨g5,0,none⟩),.pointer (some ⟨g7,0,none⟩)] w fun e w'=>e=.returned (.int .i64 (bf (fun a b=>RJ nd.pt (f a) (f b)) x y))/\MR w w':=by
 have T1:=fun W=>ako nd.pt (f x) (f y) W;have T2:=fun W=>ako nd.pt (f y) (f x) W;have L1:=hm.look x hx;have L2:=hm.look y hy;obtain ⟨HM,H5,H7⟩:=CG hm h5 h7;unfold BA at T1 T2 L1 L2;have HX:=AB hx;have HY:=AB hy;obtain ⟨r,hr⟩:=BI (bf (fun a b=>RJ nd.pt (f a) (f b)) x y);rw [hr];replace hr:atM (RJ nd.pt (f x) (f y)) (RJ nd.pt (f y) (f x))=r:=hr;obtain ⟨z1,hz1⟩:=BI (RJ nd.pt (f x) (f y));obtain ⟨z2,hz2⟩:=BI (RJ nd.pt (f y) (f x));rw [hz1] at T1 hr;rw [hz2] at T2 hr;obtain ⟨Hr,H1,H2⟩:=CG hr T1 T2;clear T1 T2 hm hx hy hz1 hz2 hr;have X5:=h5;have X7:=h7;clear h5 h7;obtain ⟨DI,DJ,DU,IJ,-⟩:=X5.Az;obtain ⟨EJ,EK,-⟩:=X7.LD;go_enter func161,ntmps161;go_wp2_with fail;refine (H1.1 _).mono ?_;rintro e w1 ⟨rfl,hb1,hd1⟩;have B1:=AB hb1;have D1:=AB hd1;clear hb1 hd1 X5 X7 DI DJ DU IJ EJ EK L1 L2
 cases z1
 case true =>
  go_wp2;go_ret;exact ⟨D8 XU,B1.1,D1.1⟩
 have X5:=H5.1.keep B1.1;have X7:=H7.1.keep B1.1;have JO:=HM.1.keep B1.1;have L1:=JO.look x HX.1;have L2:=JO.look y HY.1;unfold BA at L1 L2;clear JO
 try clear DI DJ DU IJ
 obtain ⟨DI,DJ,DU,IJ,-⟩:=X5.Az
 try clear EJ EK
 obtain ⟨EJ,EK,-⟩:=X7.LD;go_wp2_with fail;refine (H2.1 _).mono ?_;rintro e w2 ⟨rfl,hb2,hd2⟩;have B2:=AB (bT B1.1 hb2);have D2:=AB (dT D1.1 hd2);clear hb2 hd2 X5 X7 DI DJ DU IJ EJ EK L1 L2
 cases z2
 ·go_wp2;go_ret;exact ⟨D8 XU,B2.1,D2.1⟩
 ·go_wp2;go_ret;exact ⟨D8 XU,B2.1,D2.1⟩
open Go.RowKit Go.Sort
theorem aks {P:Program} {fn:Func} {p:Tmp} {ty t:TypeId} {R:Ending->World->Prop} {a:Act} {w:World} {g:Nat} {v:Value} (h:fn.results=#[.cell p ty])
  (hS:∀ w,(isAgg ty).run P w=.ok false w) (hp:a.tmps.getD p undef=.pointer (some ⟨g,0,none⟩)) (hd:a.defers=[]) (hb:AO w g t #[v]) (hR:R (.returned v) w):bodyPost P fn R .ret a w:=by
 refine bodyPost_ret ?_ hd hR;have hp':a.tmps[p]?.getD undef=.pointer (some ⟨g,0,none⟩):=by simpa using hp
 have hc:w.cell? ⟨g,0,none⟩=some v:=by rw [hb.cell];rfl
 simp only [results,h];simp [hp',asAddr,loadVar,Sem.run_bind,Sem.run_pure,Result.andThen,hS,hc]
theorem akt:∀ w,(isAgg 32).run prog w=.ok false w:=fun _=>by kernel_rfl
def aap (w:World) (l:List Int) (e:Ending) (w':World):Prop :=
 ∃ A c,e=.returned (.slice A l.length c)/\AU w w'/\Own w' w.heap.size 3 1 DY (.slice A l.length c) l
theorem Valid.aku {p:Pl} (h:Valid p) {n d:Int} (hd:d∈Dn p.AQ n):F6 d:=by
 obtain ⟨a,ha,e⟩:=Qg.1 hd;have:=h.IQ ha
 rcases e with ⟨rfl,-⟩ | ⟨rfl,-⟩
 · exact KC AA AA
 · exact KC AA AA
theorem akv (l:List Ar) (n:Int) (k:Nat) (hk:k<l.length):Dn (l.take (k+1)) n=Dn (l.take k) n++((if l[k].fr=n then [l[k].id] else [])++(if l[k].dst=n then [-l[k].id] else [])):=by
 unfold Dn;rw [Em hk,O7];simp
theorem vF (l:List Ar) (n:Int):(Dn l n).length<=2*l.length:=by
 unfold Dn
 induction l with
 | nil=>simp
 | cons a l ih =>
  rw [N7,Es,Es,JA];have h1:(if a.fr=n then [a.id] else []).length<=1:=by split<;>simp
  have h2:(if a.dst=n then [-a.id] else []).length<=1:=by split<;>simp
  omega
theorem Own.atO {α:Type} {w w':World} {base:Nat} {e:TypeId} {size:Nat} {f:α->List Value} {v:Value} {l:List α} (h:Own w base e size f v l) (hk:∀ g t cs,base<=g->AO w g t cs->AO w' g t cs):Own w' base e size f v l:=by
 obtain ⟨h1,h2⟩:=h;refine ⟨h1,?_⟩;rcases h2 with h2 | ⟨g,cap,cur,hv,hg,hh,r⟩
 · exact .inl h2
 ·subst hv;exact .inr ⟨g,cap,cur,rfl,hg,hk g e cur hg hh,r⟩
theorem vG {p:Pl} {D:List Int} {f:Int->Pt} (h:∀ d∈D,f d=Dz p d) {x:Int} {q:Pt} (hx:Dz p x=q):∀ d∈D++[x],(fun i=>if i=x then q else f i) d=Dz p d:=by
 intro d hd;by_cases e:d=x
 · subst e;simp [hx]
 ·simp only [GI,Eb,e,or_false] at hd;simp [e,h d hd]
theorem Own.akw {w:World} {base:Nat} {A:Option Addr} {n c:Nat} {l:List Pt} (h:Own w base 42 2 DK (.slice A n c) l):Row w A (l.flatMap DK):=by
 obtain ⟨A',c',he,_,_,hr⟩:=h.sl;injection he with e1 e2 e3;subst e1;exact hr
theorem ig.keep {w w':World} {B g4 g7 gm n:Nat} {dl:List Int} {f:Int->Pt} {v:Value} (h:ig w B g4 g7 gm n dl f v) (hb:AU w w'):ig w' B g4 g7 gm n dl f v :=
 ⟨h.x4.keep hb,h.own.keep hb,h.x7.keep hb,h.mp.keep hb,h.b4,h.bm⟩
theorem atP (v:Value) (p:Pl) (n:Int) (w:World) (h:D6 w v p) (hv:Valid p) :
  Calls prog 119 #[v,.int .i64 n] w (aap w (DT p n)):=by
 have MI:=AB (fun W (hW:AU w W)=>ahs v p n W (h.mono hW));have atQ:=AB (fun id W (hW:AU w W)=>sF v p id W (h.mono hW) hv.short);obtain ⟨_,_,_,al,rfl,hpa,⟨An,cn,rfl,-⟩,⟨⟨Aa,ca,rfl,hn1,hn2,hR⟩,bZ⟩,⟨Af,cf,rfl,-⟩⟩:=h;unfold maxLen at hn2;obtain ⟨HR,vW,HV,NW⟩:=DW hR bZ hv hpa;generalize hnn:p.nodes.length=nn at *;generalize p.faces.length=nf at *;obtain ⟨q,hq⟩:=BI (DT p n);rw [hq];have Hq:=AB hq;have hall:al.length<=256:=by
  have hl:=hv.lim;unfold KD at hl;simp only [OC,JH] at hl;have h2:=hl.2;rw [hpa,CV] at h2;omega
 clear hpa hR bZ hv hq hnn;go_enter func119,ntmps119;go_wp2_with fail;refine (MI.1 _ (bA (bA (bR w) _) _)).mono ?_;rintro e w1 ⟨rfl,hb1⟩;have X2:AO w1 w.heap.size 34 #[.slice An nn cn,.slice Aa al.length ca,.slice Af nf cf]:=((AO.made rfl _ _).alloc _).keep hb1;have X4:AO w1 (w.heap.size+1) 32 #[.slice none 0 0]:=(AO.made Ah _ _).keep hb1;have B1:=AB (bT (bA (bA (bR w) _) _) hb1);clear hb1;unfold l7 sQ
 cases hfn:Jm p.nodes n with
 | none =>
  have hf:q=[]:=by rw [<- Hq.1];unfold DT;rw [hfn]
  subst hf;clear hfn;simp only [qW,kE];obtain ⟨Bg,CO,Eo⟩:=X4.LD;go_wp2_with fail;refine aks (g:=w.heap.size+1) (v:=.slice none 0 0) rfl akt rfl rfl ((AO.ad9 X4).alloc _) ⟨none,0,rfl,?_,Own.nil _ _ _ _ _⟩;have Bw:=B1.1;exact Dy
 | some nd =>
  have hnd:nd∈p.nodes/\nd.id=n:=⟨XV hfn,by have:=List.find?_some hfn;simpa using this⟩;obtain ⟨hnm,rfl⟩:=hnd;have hAr:=HV.1.zV hnm;rw [Hq.1] at hAr;have NJ:=AB hAr;have Vt:=AB hnm;clear hfn hAr hnm Hq;simp only [Ih,Ud];obtain ⟨Bh,Bq,Bv,CS,-⟩:=X2.Az
  try clear Bg CO
  try clear Eo
  obtain ⟨Bg,CO,Eo⟩:=X4.LD;have fE:=AB (JJ.made (w1.alloc (.cells #[.int .i64 nd.id,.int .i64 nd.pt.x,.int .i64 nd.pt.y] 47)));have hmm:=@run_makeMap prog;go_upto_region 5 with fail;obtain ⟨W5,hW⟩:∃ W:World,W=((w1.alloc (.cells #[.int .i64 nd.id,.int .i64 nd.pt.x,.int .i64 nd.pt.y] 47)).alloc (.map #[] 0)).alloc (.cells #[.map (some (w1.heap.size+1))] 128):=⟨_,rfl⟩;have hA:AU w1 W5:=by rw [hW];exact bA (bA (bA (bR w1) _) _) _
  have DX:=AB (show AO W5 w1.heap.size 47 #[.int .i64 nd.id,.int .i64 nd.pt.x,.int .i64 nd.pt.y] by rw [hW];exact ((AO.made rfl _ _).alloc _).alloc _);have Il:=AB (show AO W5 (w1.heap.size+1+1) 128 #[.map (some (w1.heap.size+1))] by rw [hW];exact AO.made Ah _ _);have Pn:=AB (show JJ W5 (w1.heap.size+1) 0 (fun _=>z0) by
   rw [hW];have h1:=fE.1;rw [show (w1.alloc (.cells #[.int .i64 nd.id,.int .i64 nd.pt.x,.int .i64 nd.pt.y] 47)).heap.size=w1.heap.size+1 by simp] at h1;exact h1.keep (bA (bR _) _))
  obtain ⟨DC,DL,B5⟩:=CG (X2.keep hA) (X4.keep hA) (bT B1.1 hA);have hz1:w.heap.size+2<=w1.heap.size:=by have:=X4.lt;omega
  rw [<- hW];clear hW hA X2 X4 Bh Bq Bv CS Bg CO Eo fE hmm;obtain ⟨g5,hg5⟩:=BI w1.heap.size;rw [hg5] at DX Il Pn hz1 ⊢;clear hg5;have X2:=DC.1
  try clear Bh Bq Bv CS
  obtain ⟨Bh,Bq,Bv,CS,-⟩:=X2.Az;have Nr:=AB (@atK);go_upto_block 0 with fail;go_wp2_with fail;go_loopw [26] (fun i wr=>∃ (k:Nat) (f:Int->Pt) (vl:Value) (cnt:Nat),k<=al.length/\i=.int .i64 k/\cnt<=2*k/\ig wr (w.heap.size+1) (w.heap.size+1) (g5+1+1) (g5+1) cnt (Dn (p.AQ.take k) nd.id) f vl/\(∀ d∈Dn (p.AQ.take k) nd.id,f d=Dz p d)/\AU w wr/\AO wr w.heap.size 34 #[.slice An nn cn,.slice Aa al.length ca,.slice Af nf cf]/\AO wr g5 47 #[.int .i64 nd.id,.int .i64 nd.pt.x,.int .i64 nd.pt.y]) (fun i _=>al.length-(intOf i).toNat)
  case atStart => exact ⟨0,fun _=>z0,.slice none 0 0,0,BX _,rfl,AA,⟨DL.1,Own.nil _ _ _ _ _,Il.1,Pn.1,AA,AA⟩,(fun d h=>by simp [Dn] at h),B5.1,DC.1,DX.1⟩
  case round =>
   obtain ⟨k,f,vl,cnt,hk,rfl,hcnt,akx,hf,hb,X2,X5⟩:=hrel;obtain ⟨Hb,UY,Hf,DC,DX⟩:=I4 hb akx hf X2 X5;clear hb akx hf
   try clear Bh Bq Bv CS
   obtain ⟨Bh,Bq,Bv,CS,-⟩:=X2.Az;have hzr:=Hb.1.size;have azg:g5+1+1<wr.heap.size:=UY.1.x7.lt;by_cases hlt:k<al.length
   case neg =>
    have hkk:k=al.length:=AA
    have ht:p.AQ.take k=p.AQ:=IE (by rw [NW.1,CV];omega);rw [ht] at UY Hf;have HF:=Hf;clear ht;subst hkk;obtain ⟨x4,own,x7,mp,b4,bm⟩:=UY.1;obtain ⟨A,c,rfl,-⟩:=Own.shape own;have hlen:=vF p.AQ nd.id;rw [show p.AQ.length=al.length by rw [NW.1,CV]] at hlen;have HS:=AB (atG (w.heap.size+1) _ (Dn p.AQ nd.id) (ltD p nd.pt) 161 #[.pointer (some ⟨g5,0,none⟩),.pointer (some ⟨g5+1+1,0,none⟩)] wr own (HV.1.uY Vt.1) AA (enters_of func161 Gl rfl)
     (fun W hW x hx y hy=>by
      have h:=atN nd x y g5 (g5+1+1) (g5+1) cnt f W (DX.1.grown hW (fun e=>Own.EX own DX.1 Aw e.symm)) (x7.grown hW (fun e=>Own.EX own x7 Aw e.symm)) (mp.kept hW (fun e=>aeG mp own e.symm)) (HV.1.aku hx) (HV.1.aku hy);have he:bf (fun a b=>RJ nd.pt (f a) (f b)) x y=bf (ltD p nd.pt) x y:=by
       unfold bf ltD;simp only [HF.out x hx,HF.out y hy]
      rw [he] at h;exact h))
    have aao:=Own.EX own x4 Aw;have hown:=Own.lt own;have Oz:=AB hown;have X4:=x4;have MJ:=AB aao;have hpm:(sortB (ltD p nd.pt) (Dn p.AQ nd.id)).length=(Dn p.AQ nd.id).length:=((fP (HV.1.uY Vt.1)).1).length_eq;rw [<- NJ.1] at hpm HS;have Po:=AB hpm;clear x4 own x7 mp b4 bm aao hown hpm hlen HF Hf UY;generalize Dn p.AQ nd.id=D at *
    try clear Bg CO
    try clear Eo
    obtain ⟨Bg,CO,Eo⟩:=X4.LD;go_wp2_with fail;refine HS.1.mono ?_;rintro e ws ⟨rfl,hos,hgs⟩;have Y4:=AO.grown X4 hgs (fun e=>MJ.1 e.symm);have Yh:=AB hos;have aaq:=AB (show Below (w.heap.size+1) wr ws from Below.grown (Below.refl _ _) hgs AA (fun g hg=>(Oz.1 g hg).1));clear hos hgs X4 Bg CO Eo X2 Bh Bq Bv CS;have X4:=Y4;clear Y4
    try clear Bg CO
    try clear Eo
    obtain ⟨Bg,CO,Eo⟩:=X4.LD;go_wp2_with fail;have ho:=Yh.1;rw [<- Po.1] at ho ⊢;refine aks (g:=w.heap.size+1) (v:=.slice A q.length c) rfl akt rfl rfl (AO.ad9 X4) ⟨A,c,rfl,?_,(ho.far (p:=⟨w.heap.size+1,0,none⟩) (by rw [Po.1];exact MJ.1) _).EM AA⟩;exact (Below.trans Hb.1 (aaq.1.mono AA)).setCell (by show w.heap.size<=w.heap.size+1;omega) _
   obtain ⟨b,o,rfl,hlb,c0,c1,c2,c3,c4,c5⟩:=(HR.1.mono Hb.1).ar hlt;have ham:al[k].1∈p.AQ:=by rw [NW.1];exact FZ (BO hlt)
   have hst:Dn (p.AQ.take (k+1)) nd.id=Dn (p.AQ.take k) nd.id++((if al[k].1.fr=nd.id then [al[k].1.id] else [])++(if al[k].1.dst=nd.id then [-al[k].1.id] else [])):=by
    have h1:k<p.AQ.length:=by rw [NW.1,CV];exact hlt
    have h2:=akv p.AQ nd.id k h1;have h3:p.AQ[k]=al[k].1:=by simp only [NW.1,Iu]
    rw [h3] at h2;exact h2
   obtain ⟨Av,cv,hv,-⟩:=vW.1 k hlt;rw [hv] at c3;have hpo:=HV.1.aew (HV.1.fK ham);have hid:=HV.1.IQ ham;rw [show FD al[k].1.id=al[k].1.id by unfold FD;rw [AX AA]] at hpo;have I9:=AB (atQ.1 al[k].1.id);rw [hpo] at I9;unfold gX at I9;simp only [Ih,Ud,if_true] at I9;have aky:=HV.1.fM ham;have akz:=HV.1.bI ham;have hpl:=Fa p al[k].1;have hvl:=HV.1.Xr ham;have hlen:=vF (p.AQ.take k) nd.id;have hlen2:(p.AQ.take k).length<=k:=ahB _ _;obtain ⟨Gg,atS,al0,HLen⟩:=DW hst aky akz (show (Dn (p.AQ.take k) nd.id).length<=512 by omega);clear hst aky akz hpo hv ham hlen hlen2;obtain ⟨D1,hD1⟩:=BI (Dn (p.AQ.take (k+1)) nd.id);rw [hD1] at Gg;have HD1:=AB hD1;clear hD1;generalize Dn (p.AQ.take k) nd.id=D0 at *;generalize hP:AV p al[k].1=P at *;generalize al[k].1.via.length=vn at *;generalize al[k].1=a at *;have al1:=AB (show F6 a.id from KC AA AA);have aar:=AB (show F6 (-a.id) from KC AA AA);have hneg:=EL (-a.id);clear hP
   cases hb1:(a.fr == nd.id)
   case false =>
    have hn1:(a.fr != nd.id)=true:=by rw [bne,hb1];rfl
    cases hb2:(a.dst == nd.id)
    case false =>
     have hn2:(a.dst != nd.id)=true:=by rw [bne,hb2];rfl
     have hD:D1=D0:=by rw [Gg.1,AX (by simpa using hb1),AX dO];simp
     go_wp2;go_roundw
     case rel => exact ⟨k+1,f,vl,cnt,AA,BG,AA,by rw [show Dn (List.take (k+1) p.AQ) nd.id=D0 from HD1.1.trans hD];exact UY.1.keep (bA (bR wr) _),by rw [show Dn (List.take (k+1) p.AQ) nd.id=D0 from HD1.1.trans hD];exact Hf.1,bA Hb.1 _,DC.1.alloc _,DX.1.alloc _⟩
     case measure => exact BH
    case true =>
     have hn2:(a.dst != nd.id)=false:=by rw [bne,hb2];rfl
     have NZ:=AB hpl;clear hpl;go_wp2_with fail;refine (I9.1 _ (bA Hb.1 _)).mono ?_;rintro e w2 ⟨A2,c2',rfl,hb2,ho2⟩;have HW2:=AB (show AU wr w2 from bT (bA (bR wr) _) hb2);have Fq:=AB ho2;have hz2:=hb2.size;simp only [World.size_alloc] at hz2;obtain ⟨Aq,cq,he,hq1,hq2,Tf⟩:=ho2.sl;injection he with e1 e2 e3;subst e1 e3;clear e2;unfold maxLen at hq2;have Ls:=AB (show AO w2 wr.heap.size 50 #[.int .i64 a.id,.int .i64 a.fr,.int .i64 a.dst,.slice Av vn cv,.int .i64 a.left,.int .i64 a.right] from (AO.made rfl _ _).keep hb2);have CB:=Ls.1;rw [NZ.1] at hq1 ⊢;clear hb2 ho2 I9 Bh Bq Bv CS X2 c0 c1 c2 c3 c4 c5 hlb;have hD:D1=D0++[-a.id]:=by rw [Gg.1,AX (by simpa using hb1),AZ dO];simp
     have HOW:=Fq;obtain ⟨nG,nH,iq,RN,iw⟩:=I4 (UY.1.keep HW2.1) (DC.1.keep HW2.1) (DX.1.keep HW2.1) (show AU w w2 from bT Hb.1 HW2.1) (Own.EX UY.1.own DX.1 Aw);clear Tf;obtain ⟨Gz,Hg,Hu,ND,gq,gu,gy,-⟩:=CB.Iy;have hP2:vn<P.length:=by have:=NZ.1;omega
     obtain ⟨bp,op,RX,hlp,e20,e21⟩:=Row.pt (HOW.1.akw) hP2;have hp2:P.getD vn AY=P[vn]:=by simp only [Gm,Di hP2,Ih]
     have vH:=AB (al0.1.trans hp2);clear hp2;generalize P[vn]=p2 at *
     first | subst RX | (simp only [Gt,Addr.mk.injEq,and_true] at RX;obtain ⟨rfl,rfl⟩:=RX)
     have k2:IntKind.i64.wrap ((vn:Int)+2-2)=vn:=by rw [show (vn:Int)+2-2=vn by omega];exact Jw _ AA
     have k3:IntKind.i64.wrap (vn:Int)=vn:=Jw _ AA;have k4:(vn:Int)<(vn:Int)+2:=AA
     have k5:0<=(vn:Int):=AA
     have k6:(vn:Int)+2-2=vn:=AA
     go_upto_region 15 with fail;refine PE ((w.heap.size+1)) (w2) (.take 0 1 (.take 1 3 (.run 5 4 3 (.two 2 503 (.take 3 511 (.call 9 1023 (.call 10 2047 (.done)))) 9 1011 (.call 2 1015 (.take 3 1023 (.call 10 2047 (.done)))))))) fun CQ QR Ae Aj hS=>?_
     iterate 7 refine Ak ?_
     refine MQ (i:=2) (j:=9) (ET Ae rfl) (ET Ae rfl) (fun K hK=>?_) (fun K hK=>?_)
     ·have AP:=AB hS;clear hS;refine En (Eh rfl) ?_;go_simp;refine hK.out _ _ AP.out (fun hS=>?_);clear hK K AP
      try simp only [pu]
      refine Ak ?_;refine BN ?_;clear hS;intro K hK AP;go_simp;refine hK.out _ _ AP.out (fun hS=>?_);clear hK K AP
      try simp only [pu]
      refine BN ?_;clear hS;intro K hK AP;go_simp;refine (Nr.1 (-a.id) p2 (w.heap.size+1) (w.heap.size+1) (g5+1+1) (g5+1) (cnt) (D0) (f) vl _ (nG.1.keep (bD (bR w2))) DR AA acU aar.1).mono ?_;rintro e w4 ⟨rfl,⟨v4,Vu⟩,hb4,hk4⟩;have hS:E8 (w.heap.size+1) w2 w4:=Below.trans AP.out hb4;have iy:=AB Vu;have jA:=AB (hk4 g5 _ _ (iq.1.keep (bD (bR w2))) AA AA iw.1);clear hb4 hk4 Vu;clear AP;refine hK.out _ _ hS (fun _=>?_);clear hK K
      try simp only [pu]
      refine J3 ?_;clear hS Aj Ae;intro hB;go_wp2;go_roundw
      case rel => exact ⟨k+1,_,v4,cnt+1,AA,BG,AA,by rw [show Dn (List.take (k+1) p.AQ) nd.id=D0++[-a.id] from HD1.1.trans hD];exact iy.1,(fun d hd=>by rw [show Dn (List.take (k+1) p.AQ) nd.id=D0++[-a.id] from HD1.1.trans hD] at hd;exact vG Hf.1 vH.1 d hd),Below.trans RN.1 (hB.mono AA),nH.1.below hB AA,jA.1⟩
      case measure => exact BH
     ·have AP:=AB hS;clear hS;refine En (Eh rfl) ?_;go_simp;refine hK.out _ _ AP.out (fun hS=>?_);clear hK K AP
      try simp only [pu]
      refine BN ?_;clear hS;intro K hK AP;go_simp;refine hK.out _ _ AP.out (fun hS=>?_);clear hK K AP
      try simp only [pu]
      refine Ak ?_;refine BN ?_;clear hS;intro K hK AP;go_simp;refine (Nr.1 (-a.id) p2 (w.heap.size+1) (w.heap.size+1) (g5+1+1) (g5+1) (cnt) (D0) (f) vl _ (nG.1.keep (bD (bR w2))) DR AA acU aar.1).mono ?_;rintro e w4 ⟨rfl,⟨v4,Vu⟩,hb4,hk4⟩;have hS:E8 (w.heap.size+1) w2 w4:=Below.trans AP.out hb4;have iy:=AB Vu;have jA:=AB (hk4 g5 _ _ (iq.1.keep (bD (bR w2))) AA AA iw.1);clear hb4 hk4 Vu;clear AP;refine hK.out _ _ hS (fun _=>?_);clear hK K
      try simp only [pu]
      refine J3 ?_;clear hS Aj Ae;intro hB;go_wp2;go_roundw
      case rel => exact ⟨k+1,_,v4,cnt+1,AA,BG,AA,by rw [show Dn (List.take (k+1) p.AQ) nd.id=D0++[-a.id] from HD1.1.trans hD];exact iy.1,(fun d hd=>by rw [show Dn (List.take (k+1) p.AQ) nd.id=D0++[-a.id] from HD1.1.trans hD] at hd;exact vG Hf.1 vH.1 d hd),Below.trans RN.1 (hB.mono AA),nH.1.below hB AA,jA.1⟩
      case measure => exact BH
   case true =>
    have hn1:(a.fr != nd.id)=false:=by rw [bne,hb1];rfl
    have HB1:=AB hb1;clear hb1;have NZ:=AB hpl;clear hpl;go_wp2_with fail;refine (I9.1 _ (bA Hb.1 _)).mono ?_;rintro e w2 ⟨A2,c2',rfl,hb2,ho2⟩;have HW2:=AB (show AU wr w2 from bT (bA (bR wr) _) hb2);have Fq:=AB ho2;have hz2:=hb2.size;simp only [World.size_alloc] at hz2;obtain ⟨Aq,cq,he,hq1,hq2,Tf⟩:=ho2.sl;injection he with e1 e2 e3;subst e1 e3;clear e2;unfold maxLen at hq2;have Ls:=AB (show AO w2 wr.heap.size 50 #[.int .i64 a.id,.int .i64 a.fr,.int .i64 a.dst,.slice Av vn cv,.int .i64 a.left,.int .i64 a.right] from (AO.made rfl _ _).keep hb2);have CB:=Ls.1;rw [NZ.1] at hq1 ⊢;clear hb2 ho2 I9 Bh Bq Bv CS X2 c0 c1 c2 c3 c4 c5 hlb;have hP1:1<P.length:=by have:=NZ.1;omega
    obtain ⟨bp,op,RX,hlp,e10,e11⟩:=Row.pt (Tf) hP1;have hp1:P.getD 1 AY=P[1]:=by simp only [Gm,Di hP1,Ih]
    have asN:=AB (atS.1.trans hp1);clear hp1;generalize P[1]=p1 at *;subst RX;clear Tf;simp only [Nat.one_mul] at e10 e11;have k1:(1:Int)<(vn:Int)+2:=AA
    try clear Gz Hg Hu ND gq gu gy
    obtain ⟨Gz,Hg,Hu,ND,gq,gu,gy,-⟩:=CB.Iy;go_upto_if 52 with fail;go_cut [] (fun w3=>∃ v3,ig w3 (w.heap.size+1) (w.heap.size+1) (g5+1+1) (g5+1) (cnt+1) (D0++[a.id]) (fun i=>if i=a.id then p1 else f i) v3/\Below (w.heap.size+1) w2 w3/\(∀ g t cs,AO w2 g t cs->g≠w.heap.size+1->g≠g5+1->vl.ownBlock≠some g->AO w3 g t cs))
    case first =>
     have hb1:=HB1.1;go_upto_region 13 with fail;refine PE ((w.heap.size+1)) (w2) (.take 0 1 (.take 1 3 (.take 3 11 (.take 4 27 (.two 2 31 (.call 5 63 (.call 6 127 (.done))) 5 59 (.call 2 63 (.call 6 127 (.done)))))))) fun CQ QR Ae Aj hS=>?_
     iterate 4 refine Ak ?_
     refine MQ (i:=2) (j:=5) (ET Ae rfl) (ET Ae rfl) (fun K hK=>?_) (fun K hK=>?_)
     ·have AP:=AB hS;clear hS;refine En (Eh rfl) ?_;go_simp;refine hK.out _ _ AP.out (fun hS=>?_);clear hK K AP
      try simp only [pu]
      refine BN ?_;clear hS;intro K hK AP;go_simp;refine hK.out _ _ AP.out (fun hS=>?_);clear hK K AP
      try simp only [pu]
      refine BN ?_;clear hS;intro K hK AP;go_simp;refine (Nr.1 a.id p1 (w.heap.size+1) (w.heap.size+1) (g5+1+1) (g5+1) cnt D0 f vl _ (UY.1.keep (bD HW2.1)) DR AA (by have:=HLen.1;omega) al1.1).mono ?_;rintro e w3 ⟨rfl,⟨v3,Yi⟩,hb3,hk3⟩;have hS:E8 (w.heap.size+1) w2 w3:=Below.trans AP.out hb3;have afi:=AB Yi;have HK3:=AB (show ∀ g t cs,AO w2 g t cs->g≠w.heap.size+1->g≠g5+1->vl.ownBlock≠some g->AO w3 g t cs from fun g t cs h=>hk3 g t cs (h.keep (bD (bR w2))));clear hb3 hk3 Yi;clear AP;refine hK.out _ _ hS (fun _=>?_);clear hK K
      try simp only [pu]
      refine J3 ?_;clear hS Aj Ae;intro hB;go_wp2;go_meet
      case rel => exact ⟨v3,afi.1,hB,HK3.1⟩
     ·have AP:=AB hS;clear hS;refine En (Eh rfl) ?_;go_simp;refine hK.out _ _ AP.out (fun hS=>?_);clear hK K AP
      try simp only [pu]
      refine BN ?_;clear hS;intro K hK AP;go_simp;refine hK.out _ _ AP.out (fun hS=>?_);clear hK K AP
      try simp only [pu]
      refine BN ?_;clear hS;intro K hK AP;go_simp;refine (Nr.1 a.id p1 (w.heap.size+1) (w.heap.size+1) (g5+1+1) (g5+1) cnt D0 f vl _ (UY.1.keep (bD HW2.1)) DR AA (by have:=HLen.1;omega) al1.1).mono ?_;rintro e w3 ⟨rfl,⟨v3,Yi⟩,hb3,hk3⟩;have hS:E8 (w.heap.size+1) w2 w3:=Below.trans AP.out hb3;have afi:=AB Yi;have HK3:=AB (show ∀ g t cs,AO w2 g t cs->g≠w.heap.size+1->g≠g5+1->vl.ownBlock≠some g->AO w3 g t cs from fun g t cs h=>hk3 g t cs (h.keep (bD (bR w2))));clear hb3 hk3 Yi;clear AP;refine hK.out _ _ hS (fun _=>?_);clear hK K
      try simp only [pu]
      refine J3 ?_;clear hS Aj Ae;intro hB;go_wp2;go_meet
      case rel => exact ⟨v3,afi.1,hB,HK3.1⟩
    case rest =>
     obtain ⟨v3,Yi,hB3,hk3⟩:=hcut;obtain ⟨RN,nH,iq⟩:=CG (show RowKit.Below w.heap.size w wc from Below.trans (bT Hb.1 HW2.1) (hB3.mono AA)) ((DC.1.keep HW2.1).below hB3 AA) (hk3 g5 _ _ (DX.1.keep HW2.1) AA AA (Own.EX UY.1.own DX.1 Aw));have al2:=hk3 wr.heap.size _ _ Ls.1 AA AA (fun e=>by have:=(UY.1.own.lt _ e).2;omega);obtain ⟨HOW,nG,iw⟩:=CG (Fq.1.atO (fun g t cs hg hx=>hk3 g t cs hx (by simp only [World.size_alloc] at hg;omega) (by simp only [World.size_alloc] at hg;omega) (fun e=>by have:=(UY.1.own.lt _ e).2;simp only [World.size_alloc] at hg;omega))) Yi (Own.EX Yi.own iq.1 Aw);have hf3:=vG Hf.1 asN.1;have HF3:=AB hf3;have hz3:=hB3.size;clear Yi hB3 hk3 hf3 CB Gz Hg Hu ND gq gu gy e10 e11;have CB:=al2;clear al2
     try clear Gz Hg Hu ND gq gu gy
     obtain ⟨Gz,Hg,Hu,ND,gq,gu,gy,-⟩:=CB.Iy
     cases hb2:(a.dst == nd.id)
     case false =>
      have hD:D1=D0++[a.id]:=by rw [Gg.1,AZ (by simpa using HB1.1),AX dO];simp
      go_wp2;go_roundw
      case rel => exact ⟨k+1,_,v3,cnt+1,AA,BG,AA,by rw [show Dn (List.take (k+1) p.AQ) nd.id=D0++[a.id] from HD1.1.trans hD];exact nG.1,by rw [show Dn (List.take (k+1) p.AQ) nd.id=D0++[a.id] from HD1.1.trans hD];exact HF3.1,RN.1,nH.1,iq.1⟩
      case measure => exact BH
     case true =>
      have hD:D1=D0++[a.id]++[-a.id]:=by rw [Gg.1,AZ (by simpa using HB1.1),AZ dO];simp
      have hP2:vn<P.length:=by have:=NZ.1;omega
      obtain ⟨bp,op,RX,hlp,e20,e21⟩:=Row.pt (HOW.1.akw) hP2;have hp2:P.getD vn AY=P[vn]:=by simp only [Gm,Di hP2,Ih]
      have vH:=AB (al0.1.trans hp2);clear hp2;generalize P[vn]=p2 at *
      first | subst RX | (simp only [Gt,Addr.mk.injEq,and_true] at RX;obtain ⟨rfl,rfl⟩:=RX)
      have k2:IntKind.i64.wrap ((vn:Int)+2-2)=vn:=by rw [show (vn:Int)+2-2=vn by omega];exact Jw _ AA
      have k3:IntKind.i64.wrap (vn:Int)=vn:=Jw _ AA;have k4:(vn:Int)<(vn:Int)+2:=AA
      have k5:0<=(vn:Int):=AA
      have k6:(vn:Int)+2-2=vn:=AA
      go_upto_region 15 with fail;refine PE ((w.heap.size+1)) (wc) (.take 0 1 (.take 1 3 (.run 5 4 3 (.two 2 503 (.take 3 511 (.call 9 1023 (.call 10 2047 (.done)))) 9 1011 (.call 2 1015 (.take 3 1023 (.call 10 2047 (.done)))))))) fun CQ QR Ae Aj hS=>?_
      iterate 7 refine Ak ?_
      refine MQ (i:=2) (j:=9) (ET Ae rfl) (ET Ae rfl) (fun K hK=>?_) (fun K hK=>?_)
      ·have AP:=AB hS;clear hS;refine En (Eh rfl) ?_;go_simp;refine hK.out _ _ AP.out (fun hS=>?_);clear hK K AP
       try simp only [pu]
       refine Ak ?_;refine BN ?_;clear hS;intro K hK AP;go_simp;refine hK.out _ _ AP.out (fun hS=>?_);clear hK K AP
       try simp only [pu]
       refine BN ?_;clear hS;intro K hK AP;go_simp;refine (Nr.1 (-a.id) p2 (w.heap.size+1) (w.heap.size+1) (g5+1+1) (g5+1) (cnt+1) (D0++[a.id]) (fun i=>if i=a.id then p1 else f i) v3 _ (nG.1.keep (bD (bR wc))) DR AA acU aar.1).mono ?_;rintro e w4 ⟨rfl,⟨v4,Vu⟩,hb4,hk4⟩;have hS:E8 (w.heap.size+1) wc w4:=Below.trans AP.out hb4;have iy:=AB Vu;have jA:=AB (hk4 g5 _ _ (iq.1.keep (bD (bR wc))) AA AA iw.1);clear hb4 hk4 Vu;clear AP;refine hK.out _ _ hS (fun _=>?_);clear hK K
       try simp only [pu]
       refine J3 ?_;clear hS Aj Ae;intro hB;go_wp2;go_roundw
       case rel => exact ⟨k+1,_,v4,cnt+1+1,AA,BG,AA,by rw [show Dn (List.take (k+1) p.AQ) nd.id=D0++[a.id]++[-a.id] from HD1.1.trans hD];exact iy.1,(fun d hd=>by rw [show Dn (List.take (k+1) p.AQ) nd.id=D0++[a.id]++[-a.id] from HD1.1.trans hD] at hd;exact vG HF3.1 vH.1 d hd),Below.trans RN.1 (hB.mono AA),nH.1.below hB AA,jA.1⟩
       case measure => exact BH
      ·have AP:=AB hS;clear hS;refine En (Eh rfl) ?_;go_simp;refine hK.out _ _ AP.out (fun hS=>?_);clear hK K AP
       try simp only [pu]
       refine BN ?_;clear hS;intro K hK AP;go_simp;refine hK.out _ _ AP.out (fun hS=>?_);clear hK K AP
       try simp only [pu]
       refine Ak ?_;refine BN ?_;clear hS;intro K hK AP;go_simp;refine (Nr.1 (-a.id) p2 (w.heap.size+1) (w.heap.size+1) (g5+1+1) (g5+1) (cnt+1) (D0++[a.id]) (fun i=>if i=a.id then p1 else f i) v3 _ (nG.1.keep (bD (bR wc))) DR AA acU aar.1).mono ?_;rintro e w4 ⟨rfl,⟨v4,Vu⟩,hb4,hk4⟩;have hS:E8 (w.heap.size+1) wc w4:=Below.trans AP.out hb4;have iy:=AB Vu;have jA:=AB (hk4 g5 _ _ (iq.1.keep (bD (bR wc))) AA AA iw.1);clear hb4 hk4 Vu;clear AP;refine hK.out _ _ hS (fun _=>?_);clear hK K
       try simp only [pu]
       refine J3 ?_;clear hS Aj Ae;intro hB;go_wp2;go_roundw
       case rel => exact ⟨k+1,_,v4,cnt+1+1,AA,BG,AA,by rw [show Dn (List.take (k+1) p.AQ) nd.id=D0++[a.id]++[-a.id] from HD1.1.trans hD];exact iy.1,(fun d hd=>by rw [show Dn (List.take (k+1) p.AQ) nd.id=D0++[a.id]++[-a.id] from HD1.1.trans hD] at hd;exact vG HF3.1 vH.1 d hd),Below.trans RN.1 (hB.mono AA),nH.1.below hB AA,jA.1⟩
       case measure => exact BH
open Go.RowKit Go.Sort
def vI (l:List Int) (x:Int):Int:=match l.findIdx? (fun y=>y == x) with
 | none=>-1
 | some k=>k
theorem asO {l:List Int} {x:Int} {k:Nat} (hk:k<l.length) (hno:∀ j (hj:j<l.length),j<k->(l[j] == x)=false) (he:(l[k] == x)=true):l.findIdx? (fun y=>y == x)=some k:=by
 rw [List.findIdx?_eq_some_iff_getElem];exact ⟨hk,he,fun j hj=>by simpa using hno j AA hj⟩
theorem asP {l:List Int} {x:Int} (hno:∀ j (hj:j<l.length),(l[j] == x)=false):l.findIdx? (fun y=>y == x)=none:=by
 rw [List.findIdx?_eq_none_iff];intro y hy;obtain ⟨j,hj,rfl⟩:=EF.1 hy;exact hno j hj
theorem asQ (v:Value) (l:List Int) (x:Int) (w:World) (h:Ints w v l) :
  Calls prog 141 #[v,.int .i64 x] w fun e w'=>e=.returned (.int .i64 (vI l x))/\AU w w':=by
 obtain ⟨A,c,rfl,hn,hc,hR⟩:=h;unfold maxLen at hc;obtain ⟨q,hq⟩:=BI (vI l x);rw [hq];have Hq:=AB hq;clear hq;go_enter func141,ntmps141;go_wp2_with fail;go_loopw [8] (fun i wr=>∃ k:Nat,k<=l.length/\i=.int .i64 k/\AU w wr/\∀ j (hj:j<l.length),j<k->(l[j] == x)=false) (fun i _=>l.length-(intOf i).toNat)
 case atStart => exact ⟨0,BX _,rfl,bR w,fun j _ h=>AA⟩
 case round =>
  obtain ⟨k,hk,rfl,hb,hno⟩:=hrel;have Hb:=AB hb;have Hno:=AB hno;clear hb hno;by_cases hlt:k<l.length
  ·obtain ⟨b,o,rfl,hlb,c0⟩:=(hR.mono Hb.1).int hlt;clear hR
   cases he:(l[k] == x)
   ·go_wp2;go_roundw
    case rel => exact ⟨k+1,AA,BG,Hb.1,all_succ (p:=fun y=>(y == x)=false) Hno.1 hlt he⟩
    case measure => exact BH
   ·have hf:=AB (asO hlt Hno.1 he);have he2:(x == l[k])=true:=by simpa using (beq_iff_eq.1 he).symm
    go_wp2;go_ret;exact ⟨D8 (by rw [<- Hq.1];unfold vI;rw [hf.1]),Hb.1⟩
  ·have hf:=AB (asP (fun j hj=>Hno.1 j hj AA));go_wp2;go_ret;exact ⟨D8 (by rw [<- Hq.1];unfold vI;rw [hf.1]),Hb.1⟩
theorem asR (v:Value) (l:List Int) (d:Int) (w:World) (h:Ints w v l) (hl:l.length<=1000000) :
  Calls prog 120 #[v,.int .i64 d] w fun e w'=>e=.returned (.int .i64 (precD l d))/\AU w w':=by
 have HI:=AB (asQ v l d w h);obtain ⟨A,c,rfl,hn,hc,hR⟩:=h;unfold maxLen at hc;obtain ⟨q,hq⟩:=BI (precD l d);rw [hq];unfold vI at HI;unfold precD at hq;have HR:=AB hR;clear hR
 cases hi:l.findIdx? (fun y=>y == d) with
 | none =>
  rw [hi] at HI hq;simp only at HI hq;subst hq;clear hi;go_enter func120,ntmps120;go_wp2_with fail;refine HI.1.mono ?_;rintro e w1 ⟨rfl,hb1⟩;have B1:=AB hb1;clear hb1;go_wp2;go_ret;exact ⟨rfl,B1.1⟩
 | some k =>
  rw [hi] at HI hq;simp only at HI hq;have hk:k<l.length:=(List.findIdx?_eq_some_iff_getElem.1 hi).1;clear hi;have hm:(k+l.length-1) % l.length<l.length:=Uh _ AA;have hq2:l[(k+l.length-1) % l.length]=q:=by
   rw [<- hq];simp only [Gm,Di hm,Ih]
  have htm:Int.tmod ((k:Int)+(l.length:Int)-1) (l.length:Int)=((k+l.length-1) % l.length:Nat):=by
   rw [Int.tmod_eq_emod_of_nonneg AA,show (k:Int)+(l.length:Int)-1=((k+l.length-1:Nat):Int) by omega];exact (Int.natCast_emod _ _).symm
  clear hq;generalize hM:(k+l.length-1) % l.length=m at *;have Hq2:=AB hq2;clear hq2 hM;have h0:¬ (k:Int)<0:=AA
  have g1:=EL ((k:Int)+(l.length:Int));have g2:=EL ((k:Int)+(l.length:Int)-1);have g3:¬ (l.length:Int)=0:=AA
  have g4:IntKind.i64.wrap (m:Int)=m:=Jw _ AA;have g5:(m:Int)<l.length:=AA
  have g6:0<=(m:Int):=AA
  have hne:l.length≠0:=AA
  have hne':l≠[]:=by intro e;rw [e] at hne;exact hne rfl
  clear hne;go_enter func120,ntmps120;go_wp2_with fail;refine HI.1.mono ?_;rintro e w1 ⟨rfl,hb1⟩;have B1:=AB hb1;clear hb1;obtain ⟨b,o,rfl,hlb,c0⟩:=(HR.1.mono B1.1).int hm;rw [Hq2.1] at c0;go_wp2;go_ret;exact ⟨rfl,B1.1⟩
theorem Valid.afj {p:Pl} (h:Valid p) (n:Int):(DT p n).length<=512:=by
 cases hf:Jm p.nodes n with
 | none=>simp [DT,hf]
 | some nd =>
  have hm:nd∈p.nodes:=XV hf;have hid:nd.id=n:=by have:=List.find?_some hf;simpa using this
  subst hid;rw [(h.NI hm).length_eq];have h1:=vF p.AQ nd.id;have hl:=h.lim;unfold KD at hl;simp only [OC,JH] at hl;omega
open Go.RowKit Go.Sort
def Qk (l:List Int):List Int:=l.mergeSort fun x y=>decide (x<=y)
theorem al3 (l:List Int):(Qk l).Perm l:=List.mergeSort_perm _ _
theorem asT (l:List Int):(Qk l).length=l.length:=(al3 l).length_eq
theorem asU (l:List Int):(Qk l).Pairwise (·<=·):=by
 have:=List.pairwise_mergeSort (le:=fun (x y:Int)=>decide (x<=y)) (fun a b c h1 h2=>by simp only [Dq] at *;omega) (fun a b=>by simp only [Ir,Dq];omega) l
 exact this.imp (fun h=>by simpa using h)
theorem asV {l m:List Int} (hp:l.Perm m) (hs:m.Pairwise (· < ·)):Qk l=m:=by
 refine nZ (lt:=fun a b=>decide (a<b)) ((al3 l).trans hp) ?_ ?_ (fun a _ b _ h1 h2=>by simp only [JH] at *;omega)
 · exact (asU l).imp (fun h=>by simpa using h)
 · exact hs.imp (fun h=>by simp only [JH];omega)
theorem afk (w:World) (n:Nat) (blk off:Nat) (d:Array Int) (os:Array Obj):(grow (putRow (Value.int .i64) (Sort.ahead w n) blk off d) os).heap=w.heap.modify blk (onCells (putCells (Value.int .i64) off d))++os:=rfl
theorem asW (w:World) (n:Nat) (blk off:Nat) (d:Array Int) (os:Array Obj):w.grownBy (grow (putRow (Value.int .i64) (Sort.ahead w n) blk off d) os) (some blk):=by
 refine ⟨rfl,rfl,rfl,?_,fun i hi hne=>?_⟩
 · rw [afk];simp
 ·have hne':blk≠i:=fun e=>hne RD;rw [afk,Array.getElem?_append_left kD,Array.getElem?_modify,AX hne']
theorem asX (base:Nat) (v:Value) (sl:List Int) (w:World) (hown:Own w base 3 1 DY v sl) (hn:sl.length<=4294967296) :
  Calls prog 121 #[v] w (akm w base v (Qk sl)):=by
 rcases sl with _ | ⟨s0,rest⟩
 ·have hv:∃ p cap,v=.slice p 0 cap:=by
   rcases hown.2 with ⟨h,_⟩ | ⟨g,cap,cur,h,_⟩
   · exact ⟨_,_,h⟩
   · exact ⟨_,_,h⟩
  obtain ⟨p,cap,rfl⟩:=hv;refine Calls.mono (AnyM.slices_Sort_int_none Tryz.sortN p cap w) ?_;rintro e w' ⟨rfl,rfl⟩;exact ⟨rfl,by rw [show Qk []=[] by simp [Qk]];exact hown,World.grownBy.refl _ _⟩
 generalize hsl:s0::rest=sl at *;have hpos:0<sl.length:=by rw [<- hsl];simp
 obtain ⟨hlen,hown2⟩:=hown;rcases hown2 with ⟨_,h0⟩ | ⟨g,cap,cur,rfl,hg,hh,hnc,hcm,hcs,hx⟩
 · omega
 have hcur:∀ j,j<sl.length->cur[j]? = (sl[j]?).map (.int .i64 ·):=fun j hj=>by
  rw [<- aaj,<- hx,List.getElem?_take,AZ AA];simp
 have hH:Holds (Value.int .i64) w g 0 sl.toArray:=fun j hj=>by
  have hj':j<sl.length:=by simpa using hj
  refine ⟨?_,AO.frozen (t:=3) (cs:=cur) hh _⟩;rw [cell_of_row w g _ cur 3 (0,0) hh,Ug,hcur j hj',getElem!_pos sl.toArray j hj,Di hj'];simp
 refine Calls.mono (AnyM.slices_Sort_int Tryz.sortN g 0 cap sl w hH (AO.lt hh) AA) ?_;rintro e w' ⟨rfl,n,os,rfl⟩;have hl':(Qk sl).length=sl.length:=asT sl;refine ⟨rfl,?_,asW w n g 0 _ os⟩;unfold Own;rw [hl'];refine ⟨by rw [aak,hl'];omega,.inr ⟨g,cap,putCells (Value.int .i64) 0 (Qk sl).toArray cur,rfl,hg,?_,hnc,hcm,qQ,?_⟩⟩
 ·have hgl:g<w.heap.size:=AO.lt hh
  show (grow (putRow (Value.int .i64) (Sort.ahead w n) g 0 (Qk sl).toArray) os).heap[g]? = _
  rw [afk,Array.getElem?_append_left (by simpa using hgl),Array.getElem?_modify,AZ rfl,hh];rfl
 ·apply kM;intro j;rw [List.getElem?_take];by_cases hj:j<sl.length*1
  ·rw [AZ hj];have hjc:j<cur.size:=by rw [hcs];omega
   have hjd:j<(Qk sl).length:=by rw [hl'];omega
   rw [aaj,Di hjd];have e1:(putCells (Value.int .i64) 0 (Qk sl).toArray cur).toList[j]? = some (.int .i64 (Qk sl).toArray[j]!):=by
    simp [putCells,hjc,hjd]
   rw [e1,getElem!_pos (Qk sl).toArray j (by simpa using hjd)];simp
  · rw [AX hj,ZJ (by rw [aak,hl'];omega)]
def J5 (x:List Int×SV):List Value:=[.slice x.2.a x.2.n x.2.c]
theorem WS (x:List Int×SV):(J5 x).length=1:=rfl
theorem Yj (x:List Int×SV):∀ u∈J5 x,u.oneCell'=true:=by simp [J5,Value.oneCell']
theorem Yk:Elem prog 99 32 1 24:=Elem.QV (z:=.slice none 0 0) Gl Gl rfl AA
def Sj (w:World) (B:Nat) (v:Value) (L:List (List Int×SV)):Prop :=
 Own w B 32 1 J5 v L/\∀ x∈L,Own w B 3 1 DY (.slice x.2.a x.2.n x.2.c) x.1
theorem Sj.keep {w w':World} {B:Nat} {v:Value} {L:List (List Int×SV)} (h:Sj w B v L) (hb:AU w w'):Sj w' B v L :=
 ⟨h.1.keep hb,fun x hx=>(h.2 x hx).keep hb⟩
def afl (w:World) (l:List (List Int)) (z:Int) (e:Ending) (w':World):Prop :=
 ∃ A c L,e=.returned (.tuple #[.slice A l.length c,.int .i64 z])/\AU w w'/\L.map (·.1)=l/\Sj w' w.heap.size (.slice A l.length c) L
theorem vJ {w:World} {gm n:Nat} {f:Int->Int} (h:Gw w gm n f) {g:Nat} {t:TypeId} {cs:Array Value} (hg:AO w g t cs):g≠gm:=by
 rintro rfl;obtain ⟨D,h1,-⟩:=h;obtain ⟨es,clock,h2,-⟩:=h1;unfold AO at hg;rw [hg] at h2
 cases h2
theorem vK {w:World} {gm n:Nat} {f:Int->Int} (h:Gw w gm n f) {base:Nat} {e:TypeId} {size:Nat} {α:Type} {fe:α->List Value} {v:Value} {l:List α} (ho:Own w base e size fe v l):v.ownBlock≠some gm:=by
 rcases ho.2 with ⟨rfl,_⟩ | ⟨g,cap,cur,rfl,_,hh,_⟩
 · simp [Value.ownBlock]
 ·intro e';exact vJ h (cs:=cur) (g:=g) hh qO
theorem Own.row_in {w:World} {base:Nat} {A:Option Addr} {n c:Nat} {l:List Int} (h:Own w base 3 1 DY (.slice A n c) l):Row w A (l.flatMap DY):=by
 obtain ⟨A',c',he,_,_,hr⟩:=h.sl;injection he with e1 e2 e3;subst e1;exact hr
def Ku (p:Pl) (k:Nat):List Int:=(p.nodes.take k).flatMap fun n=>DT p n.id
def nI (p:Pl) (F:Int->Int) (L:List Int):Prop:=∀ e∈L,F (-e)=FC p (-e)
theorem al4 (p:Pl) (k:Nat) (hk:k<p.nodes.length):Ku p (k+1)=Ku p k++DT p p.nodes[k].id:=by
 unfold Ku;rw [Em hk,O7];simp
theorem al5 {p:Pl} (h:Valid p) (k:Nat):(Ku p k).length<=512*k:=by
 induction k with
 | zero=>simp [Ku]
 | succ k ih =>
  by_cases hk:k<p.nodes.length
  ·rw [al4 p k hk,Es];have:=h.afj p.nodes[k].id
   omega
  ·have:Ku p (k+1)=Ku p k:=by
    unfold Ku;rw [IE AA,IE AA]
   rw [this];omega
theorem aas (p:Pl):Ku p p.nodes.length=p.nodes.flatMap fun n=>DT p n.id:=by
 unfold Ku;rw [I5]
theorem nI.snoc {p:Pl} {F:Int->Int} {L:List Int} (h:nI p F L) {d x:Int} (hx:FC p (-d)=x):nI p (fun i=>if i=-d then x else F i) (L++[d]):=by
 intro e he;by_cases hd:e=d
 · subst hd;simp [hx]
 ·have hne:-e≠-d:=AA
  simp only [GI,Eb,hd,or_false] at he;simp only [hne,if_false];exact h e he
section
variable {p:Pl} (h:Valid p)
include h
theorem Valid.afm {n:Nd} (hn:n∈p.nodes) {d:Int} (hd:d∈DT p n.id):FC p (-d)=precD (DT p n.id) d/\d∈Bj p:=by
 obtain ⟨h1,h2⟩:=h.fU ((h.NI hn).subset hd);obtain ⟨n',hn',e,hm,hx⟩:=h.o8 (Vm h1);rw [OX] at e hm hx;exact ⟨by rw [hx,e,h2],h1⟩
theorem Valid.QC {d:Int} (hd:d∈Bj p):-1073741824<=d/\d<=1073741824:=by
 obtain ⟨a,ha,e⟩:=J9.1 hd;have:=h.IQ ha
 omega
theorem Valid.asY:Qk (Ku p p.nodes.length)=Bj p:=by
 rw [aas];exact asV h.zZ h.zW
theorem Valid.asZ {F:Int->Int} (hF:nI p F (Ku p p.nodes.length)) {d:Int} (hd:d∈Bj p):F d=FC p d:=by
 have h1:-d∈Ku p p.nodes.length:=by
  rw [aas];exact h.zZ.symm.subset (Vm hd)
 have:=hF _ h1
 rwa [OX] at this
theorem Valid.al6:(Bj p).length<=512:=by
 have hl:=h.lim;unfold KD at hl;simp only [OC,JH] at hl;unfold Bj;simp only [Es,WB,CV];omega
theorem Valid.aat:p.nodes.length<=256:=by
 have hl:=h.lim;unfold KD at hl;simp only [OC,JH] at hl;omega
theorem Valid.al7 (k:Nat):Ov (FC p) (Bj p) ((Bj p).take k) (((Bj p).take k).foldl (Ou (FC p) (Bj p)) []):=by
 have:=aeo (f:=FC p) (D:=Bj p) (fun x hx=>(h.Q5 hx).1) (fun x hx y hy=>h.XJ hx hy) ((Bj p).take k) [] [] (Ov.nil _ _) (fun x hx=>kW hx) (by rw [OW];exact h.zW.sublist (List.take_sublist _ _))
 rwa [OW] at this
end
theorem akK (f:Int->Int) (D:List Int) (k:Nat) (hk:k<D.length):(D.take (k+1)).foldl (Ou f D) []=Ou f D ((D.take k).foldl (Ou f D) []) D[k]:=by
 rw [Em hk,WC];rfl
