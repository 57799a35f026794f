import Derived.Shelf.SlSortCmp.NoneTotal
import Derived.Test.YtialfdomhoojiaaGreatJ06
import Derived.Test.YtialfdomhoojiaaGreatJ15
import Derived.Test.YtialfdomhoojiaaGreatLaySortIn
import Derived.Test.YtialfdomhoojiaaGreatJ08
import Derived.Test.YtialfdomhoojiaaGreatJ03
import Derived.Test.YtialfdomhoojiaaGreatJ02
import Derived.Test.YtialfdomhoojiaaGreatGB
import Derived.Test.YtialfdomhoojiaaGreatJ09
set_option linter.unusedSimpArgs false
set_option linter.unusedVariables false
namespace Go.Proofs.YtialfdomhoojiaaGreat
open Go.RowKit Go.Sort
def Fq (lt:Int->Int->Bool) (x y:Int):Int:=if lt x y then -1 else if lt y x then 1 else 0
section
variable {α:Type} [Inhabited α] (enc:α->Value) (w:World)
theorem YZ (blk off m:Nat) (dk:Array α) (os:Array Obj):(sortWorld enc w blk off m dk os).heap=w.heap.modify blk (onCells (putCells enc off dk))++os:=rfl
theorem aeX (blk off m:Nat) (dk:Array α) (os:Array Obj):w.grownBy (sortWorld enc w blk off m dk os) (some blk):=by
 refine ⟨rfl,rfl,rfl,?_,fun i hi hne=>?_⟩
 · rw [YZ];simp
 ·have hne':blk≠i:=fun e=>hne (by rw [e]);rw [YZ,Array.getElem?_append_left (by simpa using hi),Array.getElem?_modify,if_neg hne']
end
def OG (lt:Int->Int->Bool) (D:List Int) (x y:{x:Int // x∈D}):Int:=Fq lt x.1 y.1
theorem Ti {lt:Int->Int->Bool} {D:List Int} (x y:{x:Int // x∈D}):ltOf (OG lt D) x y=lt x.1 y.1:=by
 unfold ltOf OG Fq
 cases h1:lt x.1 y.1
 · cases h2:lt y.1 x.1<;>simp
 · simp
theorem ane {lt:Int->Int->Bool} {D:List Int} (ho:Hu lt D):SWO (ltOf (OG lt D)) where
 irrefl x:=by
  rw [Ti]
  cases h:lt x.1 x.1
  · rfl
  · have:=ho.asym _ x.2 _ x.2 h;rw [h] at this;cases this
 trans x y z h1 h2:=by
  rw [Ti] at *
  cases h:lt x.1 z.1
  ·have h3:=ho.asym _ y.2 _ z.2 h2;have:=ho.Xr _ x.2 _ z.2 _ y.2 h h3
   rw [h1] at this;cases this
  · rfl
 ntrans x y z h1 h2:=by
  rw [Ti] at *;exact ho.Xr _ x.2 _ y.2 _ z.2 h1 h2
set_option maxHeartbeats 1000000 in
theorem anf (base:Nat) (v:Value) (sl:List Int) (lt:Int->Int->Bool) (fn:Nat) (cb:Array Value) (w:World) (hown:Own w base 3 1 dO v sl) (ho:Hu lt sl) (hn:sl.length<=4294967296)
  (eg:∀ args w,(callFunc fn args).run Tryz.prog w=.ok (.enter fn args) w)
  (hc:∀ W,w.grownBy W v.ownBlock->∀ x∈sl,∀ y∈sl,Calls Tryz.prog fn (#[.int .i64 x,.int .i64 y]++cb) W fun e w'=>e=.returned (.int .i64 (Fq lt x y))/\nI W w') :
  Calls Tryz.prog 175 #[v,.func (.func fn) #[] cb] w (aeW w base v (sortB lt sl)):=by
 rcases sl with _ | ⟨s0,rest⟩
 ·have hv:∃ p cap,v=.slice p 0 cap:=by
   rcases hown.2 with ⟨h,_⟩ | ⟨g,cap,cur,h,_⟩
   · exact ⟨_,_,h⟩
   · exact ⟨_,_,h⟩
  obtain ⟨p,cap,rfl⟩:=hv;refine Calls.mono (AnyF.slices_SortFunc_none {Tryz.sortIn with} p cap (.func (.func fn) #[] cb) w) ?_;rintro e w' ⟨rfl,rfl⟩;exact ⟨rfl,hown,World.grownBy.refl _ _⟩
 generalize hsl:s0::rest=sl at *;have hs0:s0∈sl:=by rw [<- hsl];simp
 have hpos:0<sl.length:=by rw [<- hsl];simp
 obtain ⟨hlen,hown2⟩:=hown;rcases hown2 with ⟨_,h0⟩ | ⟨g,cap,cur,rfl,hg,hh,hnc,hcm,hcs,hx⟩
 · omega
 haveI hI:Inhabited ({x:Int // x∈sl}):=⟨⟨s0,hs0⟩⟩
 have hdl:∃ dl:List ({x:Int // x∈sl}),dl.map (·.1)=sl:=⟨sl.attachWith (·∈sl) (fun _ h=>h),by simp⟩;obtain ⟨dl,hdl⟩:=hdl;have hdn:dl.length=sl.length:=by have:=congrArg List.length hdl;simpa using this
 have hcur:∀ j,j<sl.length->cur[j]? = (sl[j]?).map (.int .i64 ·):=fun j hj=>by
  rw [<- Td,<- hx,List.getElem?_take,if_pos (by omega)];simp
 let enc:{x:Int // x∈sl}->Value:=fun x=>.int .i64 x.1
 have hcmp:CmpLays1 Tryz.prog fn cb enc (OG lt sl) g 0 dl.toArray.size w:=fun m os dk hdk x y=>by
  have hg':=aeX enc w g 0 m dk os;exact (hc _ hg' x.1 x.2 y.1 y.2).mono fun e w' h=>⟨h.1,NC h.2⟩
 have hget:∀ j,j<dl.length->sl[j]? = some (dl.toArray[j]!).1:=fun j hj=>by
  have e1:dl.toArray[j]! = dl[j]:=by rw [getElem!_pos dl.toArray j (by simpa using hj)];simp
  rw [e1]
  have:sl[j]? = (dl.map (·.1))[j]? := by rw [hdl]
  rw [this,List.getElem?_map,List.getElem?_eq_getElem hj];rfl
 have hH:Holds enc w g 0 dl.toArray:=fun j hj=>by
  have hj':j<dl.length:=by simpa using hj
  refine ⟨?_,aj.frozen (t:=3) (cs:=cur) hh _⟩;rw [cell_of_row w g _ cur 3 (0,0) hh,Nat.zero_add,hcur j (by omega),hget j hj'];rfl
 have hcon:=Any.slices_SortFunc Tryz.sortIn enc (fun _=>rfl) (OG lt sl) (ane ho) fn cb g 0 cap dl.toArray w eg hcmp hH (aj.lt hh) (by simp;omega);have hns:dl.toArray.size=sl.length:=by simp [hdn]
 rw [hns] at hcon;refine Calls.mono hcon ?_;rintro e w' ⟨rfl,d',n,os,hp,hs,rfl⟩;obtain ⟨p1,-,p3⟩:=hp;have hd':d'.size=sl.length:=by rw [p1,hns]
 have hperm:d'.toList.Perm dl:=by
  have e1:d'.extract 0 sl.length=d':=by rw [<- hd'];simp
  have e2:dl.toArray.extract 0 sl.length=dl.toArray:=by rw [<- hns];simp
  rw [e1,e2] at p3;simpa using p3
 have ang:(d'.toList.map (·.1)).Perm sl:=by
  have h1:(d'.toList.map (·.1)).Perm (dl.map (·.1)):=hperm.map _;exact h1.trans (List.Perm.of_eq hdl)
 have hsorted:(d'.toList.map (·.1)).Pairwise (fun a b=>lt b a=false):=by
  rw [List.pairwise_map,List.pairwise_iff_getElem];intro i j hi hj hij;have hj':j<d'.size:=by simpa using hj
  have:=hs i j (Nat.zero_le _) hij (by rw [<- hd'];exact hj')
  rw [Ti,getElem!_pos d' j hj',getElem!_pos d' i (by omega)] at this;simpa using this
 have hd2:d'.toList.map (·.1)=sortB lt sl:=ak2 ho ang hsorted;refine ⟨rfl,?_,aeX enc w g 0 n d' os⟩;rw [<- hd2];have hl':(d'.toList.map (·.1)).length=sl.length:=by simp [hd']
 unfold Own;rw [hl'];refine ⟨by rw [Tf,hl'];omega,.inr ⟨g,cap,putCells enc 0 d' cur,rfl,hg,?_,hnc,hcm,by simp [putCells,hcs],?_⟩⟩
 ·have hgl:g<w.heap.size:=aj.lt hh;rw [YZ,Array.getElem?_append_left (by simpa using hgl),Array.getElem?_modify,if_pos rfl,hh];rfl
 ·apply List.ext_getElem?;intro j;rw [List.getElem?_take];by_cases hj:j<sl.length*1
  ·rw [if_pos hj];have hjc:j<cur.size:=by rw [hcs];omega
   have hjd:j<d'.size:=by rw [hd'];omega
   rw [Td,List.getElem?_map];have e1:(putCells enc 0 d' cur).toList[j]? = some (enc d'[j]!):=by
    simp [putCells,hjc,hjd]
   rw [e1,getElem!_pos d' j hjd,Array.getElem?_toList,Array.getElem?_eq_getElem hjd];rfl
  · rw [if_neg hj,List.getElem?_eq_none (by rw [Tf,hl'];omega)]
set_option maxHeartbeats 400000 in
theorem anh (v:Value) (l:List Pt) (w:World) (h:gG w v l) :
  Calls Tryz.prog 76 #[v] w fun e w'=>e=.returned (.bool (fH l))/\nI w w':=by
 obtain ⟨A,c,rfl,hn,hc,hR⟩:=h;unfold maxLen at hc;go_enter Tryz.func76,Tryz.ntmps76;go_wp2_with fail;go_loopw [7] (fun i wr=>∃ k:Nat,k<=l.length/\i=.int .i64 k/\nI w wr/\∀ j (hj:j<l.length),j<k->aW l[j]=true) (fun i _=>l.length-(intOf i).toNat)
 case atStart => exact ⟨0,Nat.zero_le _,rfl,⟨Below.refl _ _,dR w⟩,fun j _ h=>by omega⟩
 case round =>
  obtain ⟨k,hk,rfl,hb,hno⟩:=hrel;have Hb:=Lib.hid hb.1;have Hd:=Lib.hid hb.2;have Hno:=Lib.hid hno;have hs:=hb.1.size;clear hb hno;by_cases hlt:k<l.length
  ·obtain ⟨b,o,rfl,hlb,c0,c1⟩:=(hR.mono Hb.out).pt hlt;have HR:=Lib.hid hR;clear hR;by_cases hnr:aW l[k]=true
   ·have Hn:=Lib.hid hnr;obtain ⟨n1,n2,n3,n4⟩:=(wL _).1 hnr;clear hnr;go_wp2;go_roundw
    case rel => exact ⟨k+1,by omega,by go_num,⟨Hb.out.alloc hs _,dA Hd.out _⟩,all_succ (p:=fun x=>aW x=true) Hno.out hlt Hn.out⟩
    case measure => simp [intOf];omega
   ·have hn':aW l[k]=false:=by simpa using hnr
    have Hf:=Lib.hid (abQ l k hlt hn');clear hn';have V7:=Lib.hid hnr;clear hnr;go_wp2
    all_goals first
     | (go_ret;exact ⟨eP Hf.out.symm,Hb.out.alloc hs _,dA Hd.out _⟩)
     | (exfalso;exact V7.out ((wL _).2 ⟨by omega,by omega,by omega,by omega⟩))
  ·go_wp2;go_ret;exact ⟨eP (abR l fun j hj=>Hno.out j hj (by omega)).symm,Hb.out,Hd.out⟩
set_option maxHeartbeats 400000 in
theorem ani (a b c:Pt) (w:World) (ha:lim a) (hb:lim b) (hc:lim c) :
  Calls Tryz.prog 77 #[aZ a,aZ b,aZ c] w fun e w'=>e=.returned (.int .i64 (tw a b c))/\nI w w':=by
 obtain ⟨a1,a2,a3,a4⟩:=ha;obtain ⟨b1,b2,b3,b4⟩:=hb;obtain ⟨c1,c2,c3,c4⟩:=hc;obtain ⟨m1,m2⟩:=Gs (b.x-a.x) (c.y-a.y) 4194304 (by omega) (by omega) (by omega) (by omega);obtain ⟨m3,m4⟩:=Gs (b.y-a.y) (c.x-a.x) 4194304 (by omega) (by omega) (by omega) (by omega);simp only [Int.reduceMul,Int.reduceNeg] at m1 m2 m3 m4;unfold aZ;go_enter Tryz.func77,Tryz.ntmps77;go_wp2;go_ret;exact ⟨fA rfl,(((Below.refl _ _).alloc (Nat.le_refl _) _).alloc (by simp) _).alloc (by simp;omega) _,dA (dA (dA (dR w) _) _) _⟩
set_option maxHeartbeats 1000000 in
theorem aeY (o p:Pt) (w:World):Calls Tryz.prog 235 #[aZ o,aZ p] w fun e w'=>e=.returned (.bool (yZ o p))/\nI w w':=by
 unfold aZ yZ;by_cases h1:p.y<o.y
 ·go_enter Tryz.func235,Tryz.ntmps235;go_wp2_with fail;go_ret;exact ⟨eP (by simp [h1]),bA (bA (bR w) _) _,dA (dA (dR w) _) _⟩
 ·by_cases h2:p.y=o.y
  ·have h2':(p.y == o.y)=true:=by simpa using h2
   have H2:=Lib.hid h2;clear h2;by_cases h3:p.x<o.x
   ·go_enter Tryz.func235,Tryz.ntmps235;go_wp2_with fail;go_ret;exact ⟨eP (by simp [h1,H2.out,h3]),bA (bA (bR w) _) _,dA (dA (dR w) _) _⟩
   ·go_enter Tryz.func235,Tryz.ntmps235;go_wp2_with fail;go_ret;exact ⟨eP (by simp [h1,H2.out,h3]),bA (bA (bR w) _) _,dA (dA (dR w) _) _⟩
  ·have h2':(p.y == o.y)=false:=by simpa using h2
   have H2:=Lib.hid h2;clear h2;go_enter Tryz.func235,Tryz.ntmps235;go_wp2_with fail;go_ret;exact ⟨eP (by simp [h1,H2.out]),bA (bA (bR w) _) _,dA (dA (dR w) _) _⟩
theorem Y3 {p:Pt} (h:aW p=true):lim p:=(wL p).1 h
theorem Y8 {a b c:Pt} (h:fH [a,b,c]=true):lim a/\lim b/\lim c:=by
 simp only [fH,List.all_cons,List.all_nil,Bool.and_true,Bool.and_eq_true] at h;exact ⟨Y3 h.1,Y3 h.2.1,Y3 h.2.2⟩
set_option maxRecDepth 100000 in
set_option maxHeartbeats 4000000 in
theorem aeZ (o a b:Pt) (w:World):Calls Tryz.prog 177 #[aZ o,aZ a,aZ b] w fun e w'=>e=.returned (.bool (wS o a b))/\nI w w':=by
 have TN:=fun (v:Value) W=>anh v [o,a,b] W;have Y9:=fun W=>aeY o a W;have Za:=fun W=>aeY o b W;have TT:=fun (h:fH [o,a,b]=true) W=>ani o a b W (Y8 h).1 (Y8 h).2.1 (Y8 h).2.2;have E1:=Gj a o;have E2:=Gj b o;obtain ⟨r,hr⟩:∃ r,wS o a b=r:=⟨_,rfl⟩;rw [hr];unfold wS at hr;unfold aZ at Y9 Za TT ⊢;have HN:=Lib.hid TN;have H1:=Lib.hid Y9;have H2:=Lib.hid Za;have HT:=Lib.hid TT;clear TN Y9 Za TT;generalize hz:fH [o,a,b]=z at *;generalize decide (a=o)=z1 at *;generalize decide (b=o)=z2 at *;generalize hl1:yZ o a=l1 at *;generalize hl2:yZ o b=l2 at *;generalize hq:decide (0<tw o a b)=q at *;have Hr:=Lib.hid hr;have Hq:=Lib.hid hq;have Hz:=Lib.hid hz;clear hr hq hz hl1 hl2;go_enter Tryz.func177,Tryz.ntmps177;go_wp2_with fail;have Fv:Hid (gG ((((w.alloc (.cells #[.int .i64 o.x,.int .i64 o.y] 39)).alloc (.cells #[.int .i64 a.x,.int .i64 a.y] 39)).alloc (.cells #[.int .i64 b.x,.int .i64 b.y] 39)).alloc (.cells #[.int .i64 o.x,.int .i64 o.y,.int .i64 a.x,.int .i64 a.y,.int .i64 b.x,.int .i64 b.y] 39)) (.slice (some ⟨w.heap.size+1+1+1,0,none⟩) 3 3) [o,a,b]):=Lib.hid (gG.MK (aj.made (by simp) _ _));refine (HN.out _ _ Fv.out).mono ?_;rintro e w1 ⟨rfl,hb1,hd1⟩;have B1:=Lib.hid (bT (bA (bA (bA (bA (bR w) _) _) _) _) hb1);have D1:=Lib.hid (dT (dA (dA (dA (dA (dR w) _) _) _) _) hd1);have iE:=Lib.hid (show aj w1 w.heap.size 39 #[.int .i64 o.x,.int .i64 o.y] from ((((aj.made rfl _ _).alloc _).alloc _).alloc _).keep hb1);have dn:=Lib.hid (show aj w1 (w.heap.size+1) 39 #[.int .i64 a.x,.int .i64 a.y] from (((aj.made (by simp) _ _).alloc _).alloc _).keep hb1);have bK:=Lib.hid (show aj w1 (w.heap.size+1+1) 39 #[.int .i64 b.x,.int .i64 b.y] from ((aj.made (by simp) _ _).alloc _).keep hb1);clear hb1 hd1 Fv HN;have X3:=iE.out;have X4:=dn.out;have X5:=bK.out;obtain ⟨kU,kV,mO,-,-⟩:=X3.bI;obtain ⟨cZ,dh,eF,-,-⟩:=X4.bI;obtain ⟨dF,dG,dI,-,-⟩:=X5.bI
 cases z
 case false =>
  go_wp2_with fail;go_ret;exact ⟨eP (by rw [<- Hr.out];rfl),B1.out,D1.out⟩
 cases z1
 case true =>
  go_wp2_with fail;go_ret;exact ⟨eP (by rw [<- Hr.out];rfl),B1.out,D1.out⟩
 cases z2
 case true =>
  go_wp2_with fail;go_ret;exact ⟨eP (by rw [<- Hr.out];rfl),B1.out,D1.out⟩
 have hr:=Hr.out;simp only [Bool.true_and,Bool.not_false] at hr;have HT2:=Lib.hid (HT.out rfl);clear HT Hr Hz;go_upto_region 3 with fail;refine bZ (Since w1) (.take 0 1 (.take 1 3 (.take 3 11 (.take 4 27 (.call 2 31 (.call 5 63 (.take 6 127 (.done)))))))) (by kernel_rfl) (bD (bR _)) (by kernel_rfl) (by kernel_rfl) (Nat.le_of_ble_eq_true (by kernel_rfl)) ?_;intro cO QR ak aC hS
 iterate 4
  apply bg;exact ak;exact rfl;exact hS;exact rfl
  · intro _ hqc;go_simp;try rfl
  try simp only [pu]
 refine aT (i:=2) (aG ak rfl) (fun K hK=>?_);have aA:=Lib.hid hS;clear hS;refine aO (aV rfl) ?_;go_simp;refine (H1.out _).mono ?_;rintro e bH ⟨rfl,bJ,ae0⟩;have hS:Since w1 bH:=bT (w:=w1) aA.out bJ;clear aA;refine hK.out _ _ hS (fun _=>?_);clear hK K
 try simp only [pu]
 refine aT (i:=5) (aG ak rfl) (fun K hK=>?_);have aA:=Lib.hid hS;clear hS;refine aO (aV rfl) ?_;go_simp;refine (H2.out _).mono ?_;rintro e wr2 ⟨rfl,gZ,ae1⟩;have hS:Since w1 wr2:=bT (w:=w1) aA.out gZ;clear aA;refine hK.out _ _ hS (fun _=>?_);clear hK K
 try simp only [pu]
 apply bg;exact ak;exact rfl;exact hS;exact rfl
 · intro _ hqc;go_simp;try rfl
 try simp only [pu]
 refine bM ?_;refine aC.down _ _ ?_;have hB:Below w1.heap.size w1 wr2:=hS;clear hS aC ak;have B2:=Lib.hid (bT B1.out hB);have D2:=Lib.hid (dT (dT (dD D1.out) ae0) ae1);replace iE:=Lib.hid (iE.out.keep hB);replace dn:=Lib.hid (dn.out.keep hB);replace bK:=Lib.hid (bK.out.keep hB);clear hB ae0 ae1 X3 X4 X5 kU kV mO cZ dh eF dF dG dI;have X3:=iE.out;have X4:=dn.out;have X5:=bK.out
 try clear kU
 try clear kV
 try clear mO
 obtain ⟨kU,kV,mO,-,-⟩:=X3.bI
 try clear cZ
 try clear dh
 try clear eF
 obtain ⟨cZ,dh,eF,-,-⟩:=X4.bI
 try clear dF
 try clear dG
 try clear dI
 obtain ⟨dF,dG,dI,-,-⟩:=X5.bI;by_cases hl:l1=l2
 ·subst hl;rw [if_pos rfl] at hr;have Hr:=Lib.hid hr;clear hr
  cases l1
  all_goals
   go_wp2_with fail;refine (HT2.out _).mono ?_;rintro e w3 ⟨rfl,hb3,hd3⟩;have B3:=Lib.hid (bT B2.out hb3);have D3:=Lib.hid (dT D2.out hd3);clear hb3 hd3;go_wp2_with fail;go_ret;exact ⟨eP (by rw [<- Hr.out,<- Hq.out]),B3.out,D3.out⟩
 ·rw [if_neg hl] at hr;have Hr:=Lib.hid hr;have hl2:l2 = !l1:=by cases l1<;>cases l2<;>simp_all
  clear hl hr;subst hl2
  cases l1
  all_goals
   go_wp2_with fail;refine (H2.out _).mono ?_;rintro e w3 ⟨rfl,hb3,hd3⟩;have B3:=Lib.hid (bT B2.out hb3);have D3:=Lib.hid (dT D2.out hd3);clear hb3 hd3;go_wp2_with fail;go_ret;exact ⟨eP Hr.out,B3.out,D3.out⟩
open Go.RowKit Go.Sort
theorem Own.shape {α:Type} {w:World} {base:Nat} {e:TypeId} {size:Nat} {f:α->List Value} {v:Value} {l:List α} (h:Own w base e size f v l):∃ A c,v=.slice A l.length c/\l.length<=c/\c<=maxLen:=by
 obtain ⟨A,c,rfl,h1,h2,-⟩:=Own.sl h;exact ⟨A,c,rfl,h1,h2⟩
structure Iq (w:World) (B g4 g7 gm n:Nat) (dl:List Int) (f:Int->Pt) (v:Value):Prop where
 x4:aj w g4 24 #[v]
 own:Own w B 3 1 dO v dl
 x7:aj w g7 189 #[.map (some gm)]
 mp:jT w gm n f
 b4:B<=g4
 bm:B<=gm
theorem Zb {w:World} {gm n:Nat} {f:Int->Pt} (h:jT w gm n f) {g:Nat} {t:TypeId} {cs:Array Value} (hg:aj w g t cs):g≠gm:=by
 rintro rfl;obtain ⟨D,h1,-⟩:=h;obtain ⟨es,clock,h2,-⟩:=h1;unfold aj at hg;rw [hg] at h2
 cases h2
theorem Zc {w:World} {gm n:Nat} {f:Int->Pt} (h:jT w gm n f) {base:Nat} {e:TypeId} {size:Nat} {α:Type} {fe:α->List Value} {v:Value} {l:List α} (ho:Own w base e size fe v l):v.ownBlock≠some gm:=by
 rcases ho.2 with ⟨rfl,_⟩ | ⟨g,cap,cur,rfl,_,hh,_⟩
 · simp [Value.ownBlock]
 ·intro e';exact Zb h (cs:=cur) (g:=g) hh (by simpa [Value.ownBlock] using e')
set_option maxRecDepth 100000 in
set_option maxHeartbeats 4000000 in
theorem anj (d:Int) (q:Pt) (B g4 g7 gm n:Nat) (dl:List Int) (f:Int->Pt) (v:Value) (w:World) (h:Iq w B g4 g7 gm n dl f v) (hB:B<=w.heap.size) (hn:n<4294967296) (hl:dl.length<=1000000) (hd:dP d) :
  Calls Tryz.prog 174 #[.int .i64 d,.agg #[.int .i64 q.x,.int .i64 q.y],.pointer (some ⟨g4,0,none⟩),.pointer (some ⟨g7,0,none⟩)] w fun e w'=>e=.returned (.tuple #[])/\(∃ v',Iq w' B g4 g7 gm (n+1) (dl++[d]) (fun i=>if i=d then q else f i) v')/\Below B w w'/\∀ g t cs,aj w g t cs->g≠g4->g≠gm->v.ownBlock≠some g->aj w' g t cs:=by
 obtain ⟨x4,own,x7,mp,b4,bm⟩:=h;obtain ⟨A,c,rfl,-⟩:=Own.shape own;have dn:=Lib.hid x4;have HO:=Lib.hid own;have kF:=Lib.hid x7;have HM:=Lib.hid mp;have n47:g4≠g7:=aj.nD x4 x7 (by decide);have n4m:=Zb mp x4;have n7m:=Zb mp x7;have Tj:=Own.dM own x4 (by decide);have no7:=Own.dM own x7 (by decide);have OH:=Zc mp own;clear own mp;have JV:=Lib.hid hd;clear hd;have X4:=x4;have X7:=x7;clear x4 x7;obtain ⟨cZ,dh,eG⟩:=X4.fB;obtain ⟨jJ,jK,-⟩:=X7.fB;go_enter Tryz.func174,Tryz.ntmps174;go_upto_region 1 with fail;obtain ⟨W0,hW⟩:∃ W:World,W=w.alloc (.cells #[.int .i64 q.x,.int .i64 q.y] 39):=⟨_,rfl⟩;have hA0:Below w.heap.size w W0:=by rw [hW];exact bA (bR w) _
 have X5:aj W0 w.heap.size 39 #[.int .i64 q.x,.int .i64 q.y]:=by rw [hW];exact aj.made rfl _ _
 rw [<- hW];clear hW;replace X4:=X4.keep hA0;replace X7:=X7.keep hA0;have HO0:=Lib.hid (HO.out.keep hA0);have GX:=Lib.hid (HM.out.keep hA0);have HA0:=Lib.hid hA0;have hlt4:g4<w.heap.size:=dn.out.lt;have hz0:=hA0.size;clear hA0 cZ dh eG jJ jK
 try clear cZ
 try clear dh
 try clear eG
 obtain ⟨cZ,dh,eG⟩:=X4.fB;obtain ⟨dF,dG,dI,-,-⟩:=X5.bI
 try clear jJ
 try clear jK
 obtain ⟨jJ,jK,-⟩:=X7.fB;have n54:w.heap.size≠g4:=by omega
 have n57:w.heap.size≠g7:=by have:=kF.out.lt;omega
 have ae2:=HM.out.lt;go_upto_region 2 with
  (at_builtin
   refine jH _ rfl (.tmp 6) (.tmp 8) _ rfl (base:=B) pV nH pW rfl (Own.alloc HO0.out _) rfl (l2:=[d]) (Sl.lit (n:=1) (aj.made rfl _ _) rfl (dW (by omega))) (by simp only [List.length_cons,List.length_nil];omega) (by simp only [List.length_cons,List.length_nil];omega) (by simp;omega) ?_;intro v1 w1 ho1 hg1 BJ;obtain ⟨A1,c1,hv1,-⟩:=Own.shape ho1;rw [show (dl++[d]).length=dl.length+1 by simp] at hv1;subst hv1;have lS:=Lib.hid ho1;have hB1:Below B W0 w1:=Below.grown (Below.alloc (Below.refl _ _) (by omega) _) hg1 (by simp;omega) (fun g hg=>(HO0.out.lt g hg).1);have HB1:=Lib.hid hB1;have OI:some w.heap.size≠(Value.slice A dl.length c).ownBlock:=fun e=>by have:=(HO.out.lt _ e.symm).2;omega
   replace X4:=aj.grown (X4.alloc _) hg1 (fun e=>Tj e.symm);replace X5:=aj.grown (X5.alloc _) hg1 OI;replace X7:=aj.grown (X7.alloc _) hg1 (fun e=>no7 e.symm);have qw:=Lib.hid ((GX.out.keep (bA (bR W0) _)).kept hg1 (fun e=>OH e.symm));have HK1:=Lib.hid (fun g t cs (h:aj w g t cs) (hne:(Value.slice A dl.length c).ownBlock≠some g)=>aj.grown ((h.keep HA0.out).alloc (.cells #[.int .i64 d] 3)) hg1 (fun e=>hne e.symm));clear ho1 hg1 BJ hB1 cZ dh eG dF dG dI jJ jK
   try clear cZ
   try clear dh
   try clear eG
   obtain ⟨cZ,dh,eG⟩:=X4.fB
   try clear dF
   try clear dG
   try clear dI
   obtain ⟨dF,dG,dI,-,-⟩:=X5.bI
   try clear jJ
   try clear jK
   obtain ⟨jJ,jK,-⟩:=X7.fB
   )
 obtain ⟨W2,hW2⟩:∃ W:World,W=w1.setCell ⟨g4,0,none⟩ (.slice A1 (dl.length+1) c1):=⟨_,rfl⟩;have ank:=Own.dM lS.out X4 (by decide);have Y4:aj W2 g4 24 #[.slice A1 (dl.length+1) c1]:=by rw [hW2];exact aj.Qy X4
 have Y7:aj W2 g7 189 #[.map (some gm)]:=by rw [hW2];exact X7.far (fun e=>n47 e.symm) _
 have Y5:aj W2 w.heap.size 39 #[.int .i64 q.x,.int .i64 q.y]:=by rw [hW2];exact X5.far n54 _
 have YO:Own W2 B 3 1 dO (.slice A1 (dl.length+1) c1) (dl++[d]):=by rw [hW2];exact lS.out.far ank _
 have YM:jT W2 gm n f:=by
  rw [hW2];exact qw.out.kept (row:=some g4) ⟨rfl,rfl,rfl,by simp,fun i _ hne=>Below.heap_setCell w1 ⟨g4,0,none⟩ _ i (fun e=>hne (by rw [e]))⟩ (fun e=>n4m (Option.some.inj e).symm)
 have YB:Below B w W2:=by rw [hW2];exact (Below.trans (HA0.out.mono hB) HB1.out).setCell b4 _
 rw [<- hW2];clear X4 X5 X7 cZ dh eG dF dG dI jJ jK;obtain ⟨w3,hr3,oI,hg3⟩:=YM.upd hn d JV.out q;have Z4:=Lib.hid (aj.grown Y4 hg3 (fun e=>n4m (Option.some.inj e)));have Z7:=Lib.hid (aj.grown Y7 hg3 (fun e=>n7m (Option.some.inj e)));have ZO:=Lib.hid (Own.grown YO hg3 (fun g' hg' e=>Zc YM YO (by rw [hg',e])));have ZM:=Lib.hid oI;have ZB:=Lib.hid (YB.grown hg3 (by have:=YB.size;omega) (fun g hg=>by have:=Option.some.inj hg;omega));have HK:=Lib.hid (show ∀ g t cs,aj w g t cs->g≠g4->g≠gm->(Value.slice A dl.length c).ownBlock≠some g->aj w3 g t cs from fun g t cs h h4 hm' ho=>by
  refine aj.grown ?_ hg3 (fun e=>hm' (Option.some.inj e));rw [hW2];exact (HK1.out g t cs h ho).far h4 _)
 unfold aZ at hr3;clear oI hg3 YO YM YB Y4 hW2;obtain ⟨Y5l,Y5a,Y5b,-,-⟩:=Y5.bI;obtain ⟨Y7l,Y7a,-⟩:=Y7.fB;go_wp2_with fail;exact bodyPost_end (v:=.tuple #[]) (results_none rfl _ _ _) rfl ⟨rfl,⟨_,Z4.out,ZO.out,Z7.out,ZM.out,b4,bm⟩,ZB.out,HK.out⟩
def anl (z1 z2:Bool):Int:=if z1 then -1 else if z2 then 1 else 0
set_option maxRecDepth 100000 in
set_option maxHeartbeats 4000000 in
theorem anm (nd:Nd) (x y:Int) (g5 g7 gm n:Nat) (f:Int->Pt) (w:World) (h5:aj w g5 45 #[.int .i64 nd.id,.int .i64 nd.pt.x,.int .i64 nd.pt.y]) (h7:aj w g7 189 #[.map (some gm)]) (hm:jT w gm n f) (hx:dP x) (hy:dP y) :
  Calls Tryz.prog 176 #[.int .i64 x,.int .i64 y,.pointer (some ⟨g5,0,none⟩),.pointer (some ⟨g7,0,none⟩)] w fun e w'=>e=.returned (.int .i64 (Fq (fun a b=>wS nd.pt (f a) (f b)) x y))/\nI w w':=by
 have T1:=fun W=>aeZ nd.pt (f x) (f y) W;have T2:=fun W=>aeZ nd.pt (f y) (f x) W;have L1:=hm.look x hx;have L2:=hm.look y hy;have HM:=Lib.hid hm;have H5:=Lib.hid h5;have H7:=Lib.hid h7;unfold aZ at T1 T2 L1 L2;have HX:=Lib.hid hx;have HY:=Lib.hid hy;obtain ⟨r,hr⟩:∃ r,Fq (fun a b=>wS nd.pt (f a) (f b)) x y=r:=⟨_,rfl⟩;rw [hr];replace hr:anl (wS nd.pt (f x) (f y)) (wS nd.pt (f y) (f x))=r:=hr;obtain ⟨z1,hz1⟩:∃ z1,wS nd.pt (f x) (f y)=z1:=⟨_,rfl⟩;obtain ⟨z2,hz2⟩:∃ z2,wS nd.pt (f y) (f x)=z2:=⟨_,rfl⟩;rw [hz1] at T1 hr;rw [hz2] at T2 hr;have Hr:=Lib.hid hr;have H1:=Lib.hid T1;have H2:=Lib.hid T2;clear T1 T2 hm hx hy hz1 hz2 hr;have X5:=h5;have X7:=h7;clear h5 h7;obtain ⟨dF,dG,dI,jo,-,-,-⟩:=X5.bC;obtain ⟨jJ,jK,-⟩:=X7.fB;go_enter Tryz.func176,Tryz.ntmps176;go_wp2_with fail;refine (H1.out _).mono ?_;rintro e w1 ⟨rfl,hb1,hd1⟩;have B1:=Lib.hid hb1;have D1:=Lib.hid hd1;clear hb1 hd1 X5 X7 dF dG dI jo jJ jK L1 L2
 cases z1
 case true =>
  go_wp2_with fail;go_ret;exact ⟨fA (by rw [<- Hr.out];rfl),B1.out,D1.out⟩
 have X5:=H5.out.keep B1.out;have X7:=H7.out.keep B1.out;have qw:=HM.out.keep B1.out;have L1:=qw.look x HX.out;have L2:=qw.look y HY.out;unfold aZ at L1 L2;clear qw
 try clear dF
 try clear dG
 try clear dI
 try clear jo
 obtain ⟨dF,dG,dI,jo,-,-,-⟩:=X5.bC
 try clear jJ
 try clear jK
 obtain ⟨jJ,jK,-⟩:=X7.fB;go_wp2_with fail;refine (H2.out _).mono ?_;rintro e w2 ⟨rfl,hb2,hd2⟩;have B2:=Lib.hid (bT B1.out hb2);have D2:=Lib.hid (dT D1.out hd2);clear hb2 hd2 X5 X7 dF dG dI jo jJ jK L1 L2
 cases z2
 ·go_wp2_with fail;go_ret;exact ⟨fA (by rw [<- Hr.out];rfl),B2.out,D2.out⟩
 ·go_wp2_with fail;go_ret;exact ⟨fA (by rw [<- Hr.out];rfl),B2.out,D2.out⟩
end Go.Proofs.YtialfdomhoojiaaGreat
