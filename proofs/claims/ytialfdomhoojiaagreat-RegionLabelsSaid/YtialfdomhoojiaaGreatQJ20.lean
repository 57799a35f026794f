import Derived.Test.YtialfdomhoojiaaGreatQJ19
import Derived.Test.YtialfdomhoojiaaGreatLaySortAd
import Derived.Test.YtialfdomhoojiaaGreatLaySortRg
set_option linter.unusedSimpArgs false
set_option linter.unusedVariables false
set_option maxRecDepth 100000
set_option maxHeartbeats 4000000
namespace Go.Proofs.YtialfdomhoojiaaGreat
open Go.RowKit
theorem akC {k d:Int} (h:max d (-d)<max k (-k)\/(d=-k/\0<d)):RQ k d=d:=by
 unfold RQ;rw [AZ];rw [dW];unfold Ez;split<;>split<;>omega
theorem akD {k d:Int} (h:¬ (max d (-d)<max k (-k))) (h2:¬ (d=-k/\0<d)):RQ k d=k:=by
 unfold RQ;rw [AX];rw [dW];unfold Ez;split<;>split<;>omega
theorem akE (v:Value) (c:List Int) (w:World) (h:Ints w v c) (hne:0<c.length) (hb:∀ d∈c,-1073741824<=d/\d<=1073741824) :
  Calls Tryz.prog 63 #[v] w fun e w'=>e=.returned (.int .i64 (Dp c))/\w=w':=by
 obtain ⟨A,cp,rfl,hn1,hn2,hR⟩:=h;unfold maxLen at hn2;have HR:=AA hR;obtain ⟨R,hRr⟩:=BN (Dp c);rw [hRr];have hR0:=akA c;rw [hRr] at hR0;have RP:=AA hR0;have HUp:=AA (fun n (hn:n<c.length)=>ak9 (c:=c) hn);have qZ:=AA (show ∀ n,-1073741824<=OU c n/\OU c n<=1073741824 from fun n=>by
  have h1:c.headD 0∈c:=by
   cases c with
   | nil=>cases hne
   | cons a c=>exact Eu
  rcases aBs (c.take n) (c.headD 0) with e | e
  · unfold OU;rw [e];exact hb _ h1
  · exact hb _ (aAG e))
 have kF:=AA (fun n (hn:n<c.length)=>hb _ (BO hn));have hh:c.headD 0=c[0]:=by
  cases c with
  | nil=>cases hne
  | cons a c=>rfl
 have h0:OU c 0=c[0]:=by unfold OU;rw [O8];exact hh
 obtain ⟨b0,o0,rfl,hlb0,c0⟩:=(HR.out).int hne;rw [<- h0] at c0;simp only [YJ] at c0;have kz:(0:Int)<c.length:=by omega
 have kn:¬ c=[]:=fun e=>by have:=congrArg List.length e;simp only [LX] at this;omega
 clear hb hR hRr hR0 h0 hh;go_enter Tryz.func63,Tryz.ntmps63;go_wp2_with fail;go_loopw [3,11] (fun s i wr=>∃ k:Nat,k<=c.length/\i=.int .i64 k/\s=.int .i64 (OU c k)/\wr=w) (fun _ i _=>c.length-(intOf i).toNat)
 case atStart => exact ⟨0,Bv _,rfl,rfl,rfl⟩
 case round =>
  obtain ⟨k,hk,rfl,rfl,hw⟩:=hrel;obtain rfl:=hw.symm;have hkb:=qZ.out k;by_cases hlt:k<c.length
  ·obtain ⟨b,o,hA,hlb,c1⟩:=(HR.out).int hlt;injection hA with hA;injection hA with y1 y2 _;subst y1 y2;have hdb:=kF.out k hlt;have hup:=HUp.out k hlt;generalize c[k]=d at *;generalize OU c k=q at *;have HU:=AA hup;clear hup c0;have k1:IntKind.i64.wrap (-d)=-d:=D6 _ AB;have k2:IntKind.i64.wrap (-q)=-q:=D6 _ AB;have m1:max d (-d)=(if d<0 then -d else d):=by split<;>omega
   by_cases h1:max d (-d)<max q (-q)
   ·have hs:=AA (akC (.inl h1));clear m1;go_wp2;go_roundw
    case rel => exact ⟨k+1,AB,BJ,by rw [HU.out,hs.out],trivial⟩
    case measure => exact BL
   ·clear m1;by_cases h2:d=-q
    ·by_cases h3:0<d
     ·have hs:=AA (akC (.inr ⟨h2,h3⟩));have h2b:(d == -q)=true:=by simpa using h2
      clear h2;go_wp2;go_roundw
      case rel => exact ⟨k+1,AB,BJ,by rw [HU.out,hs.out],trivial⟩
      case measure => exact BL
     ·have hs:=AA (akD h1 (fun e=>h3 e.2));have h2b:(d == -q)=true:=by simpa using h2
      clear h2;go_wp2;go_roundw
      case rel => exact ⟨k+1,AB,BJ,by rw [HU.out,hs.out],trivial⟩
      case measure => exact BL
    ·have hs:=AA (akD h1 (fun e=>h2 e.1));have h2b:(d == -q)=false:=by simpa using h2
     clear h2;go_wp2;go_roundw
     case rel => exact ⟨k+1,AB,BJ,by rw [HU.out,hs.out],trivial⟩
     case measure => exact BL
  ·obtain rfl:k=c.length:=by omega
   have hf:=RP.out;rw [hf];go_wp2;go_ret;exact ⟨rfl,rfl⟩
def kT (l:List Int):Int:=(l.find? (fun x=>decide (x≠0))).getD 0
theorem atO (v:Value) (l:List Int) (w:World) (h:Ints w v l) (hs:l.length<=1000):Calls Tryz.prog 122 #[v] w fun e w'=>e=.returned (.int .i64 (kT l))/\w=w':=by
 obtain ⟨A,c,rfl,hn,hc,hR⟩:=h;unfold maxLen at hc;have HR:=AA hR;clear hR;obtain ⟨q,hq⟩:=BN (kT l);rw [hq];have Hq:=AA hq;clear hq;go_enter Tryz.func122,Tryz.ntmps122;go_wp2_with fail;go_loopw [8] (fun u wr=>∃ k:Nat,k<=l.length/\u=.int .i64 k/\wr=w/\∀ j (hj:j<l.length),j<k->l[j]=0) (fun u _=>l.length-(intOf u).toNat)
 case atStart => exact ⟨0,Bv _,rfl,rfl,fun _ _ h=>by omega⟩
 case round =>
  obtain ⟨k,hk,rfl,rfl,hno⟩:=hrel;have Hno:=AA hno;clear hno;by_cases hlt:k<l.length
  ·obtain ⟨b,o,rfl,hlb,c0⟩:=HR.out.int hlt;by_cases hz:l[k]=0
   ·have hz':(l[k] != 0)=false:=by simp [hz]
    have Hz:=AA hz;clear hz;go_wp2;go_roundw
    case rel => exact ⟨k+1,AB,BJ,trivial,fun j hj hjk=>if e:j<k then Hno.out j hj e else by
      have:j=k:=by omega
      subst this;exact Hz.out⟩
    case measure => exact BL
   ·have hz':(l[k] != 0)=true:=by simp [hz]
    have hf:=uN l (fun x=>decide (x≠0)) k hlt (fun j hj hjk=>by simp [Hno.out j hj hjk]) (by simp [hz]);have Hf:=AA hf;clear hz hf;go_wp2;go_ret;exact ⟨Df (by rw [<- Hq.out,kT,Hf.out];rfl),rfl⟩
  ·have hf:=aAv l (fun x=>decide (x≠0)) (fun j hj=>by simp [Hno.out j hj AB]);have Hf:=AA hf;clear hf;go_wp2;go_ret;exact ⟨Df (by rw [<- Hq.out,kT,Hf.out];rfl),rfl⟩
theorem atP (v:Value) (l:List Int) (w:World) (h:Ints w v l) (hs:l.length<=1000):Calls Tryz.prog 122 #[v] w fun e w'=>e=.returned (.int .i64 (kT l))/\NY w w' :=
 (atO v l w h hs).mono fun e w' h=>⟨h.1,by rw [<- h.2];exact ⟨bR w,dR w⟩⟩
open Go.RowKit Go.Sort
theorem atQ (s t:AD) (w:World):Calls Tryz.prog 51 #[.agg #[.int .i64 s.tw,BK s.ov,BK s.iv,BK s.av],.agg #[.int .i64 t.tw,BK t.ov,BK t.iv,BK t.av]] w fun e w'=>e=.returned (.int .i64 (KN s.tw t.tw))/\NY w w':=by
 unfold BK;go_enter Tryz.func51,Tryz.ntmps51;go_wp2_with fail;refine (uo s.tw t.tw _).mono ?_;rintro e w1 ⟨rfl,hb1,hd1⟩;have HB1:=AA (bT (bA (bA (bR w) _) _) hb1);have HD1:=AA (dT (dA (dA (dR w) _) _) hd1);clear hb1 hd1;go_wp2;go_ret;exact ⟨rfl,HB1.out,HD1.out⟩
def cmpK (a b:Int):Int:=kT [KN (max a (-a)) (max b (-b)),KN b a]
theorem atS (a b:Int):cmpK a b<0↔Gl a b=true:=by
 rw [dW];unfold cmpK kT KN Ez;have e1:max a (-a)=if a<0 then -a else a:=by split<;>omega
 have e2:max b (-b)=if b<0 then -b else b:=by split<;>omega
 rw [e1,e2];generalize (if a<0 then -a else a)=c;generalize (if b<0 then -b else b)=d;by_cases h1:c<d
 · simp [h1]
 ·by_cases h2:d<c
  · simp [h1,h2];omega
  ·by_cases h3:b<a
   · simp [h1,h2,h3];omega
   · by_cases h4:a<b<;>simp [h1,h2,h3,h4]<;>omega
theorem aBt {α:Type} (f:α->Int) (x y:α):ltOf (fun x y=>cmpK (f x) (f y)) x y=Gl (f x) (f y):=by
 rw [MH,<- atS];unfold ltOf;simp only [EO]
theorem atT {α:Type} (f:α->Int):SWO (ltOf (fun x y:α=>cmpK (f x) (f y))) where
 irrefl x:=by rw [aBt];exact atK _
 trans x y z h1 h2:=by rw [aBt] at *;exact adr h1 h2
 ntrans x y z h1 h2:=by
  rw [aBt] at *;rw [<- JK] at *;rw [dW] at *;omega
theorem Ints.atU {w:World} {g:Nat} {t:TypeId} {a b:Int} (h:AO w g t #[.int .i64 a,.int .i64 b]):Ints w (.slice (some ⟨g,0,none⟩) 2 2) [a,b] :=
 Sl.lit (n:=2) h rfl (DN AB)
theorem atV (a b:Int) (w:World) (ha:-1073741824<=a/\a<=1073741824) (hb:-1073741824<=b/\b<=1073741824) :
  Calls Tryz.prog 62 #[.int .i64 a,.int .i64 b] w fun e w'=>e=.returned (.int .i64 (cmpK a b))/\NY w w':=by
 have k1:IntKind.i64.wrap (-a)=-a:=D6 _ AB;have k2:IntKind.i64.wrap (-b)=-b:=D6 _ AB;unfold cmpK;have HX:=AA (fun W=>uo (max a (-a)) (max b (-b)) W);have HY:=AA (fun W=>uo b a W);generalize KN (max a (-a)) (max b (-b))=x at *;generalize KN b a=y at *;go_enter Tryz.func62,Tryz.ntmps62;go_wp2_with fail;refine (HX.out _).mono ?_;rintro e w1 ⟨rfl,hb1,hd1⟩;go_wp2_with fail;refine (HY.out _).mono ?_;rintro e w2 ⟨rfl,hb2,hd2⟩;have HB2:=AA (bA (bT hb1 hb2) (.cells #[.int .i64 x,.int .i64 y] 3));have HD2:=AA (dA (dT hd1 hd2) (.cells #[.int .i64 x,.int .i64 y] 3));have hlit:=Ints.atU (AO.made (w:=w2) rfl 3 #[.int .i64 x,.int .i64 y]);have HO:=AA (atP _ _ _ hlit Ak);clear hb1 hb2 hd1 hd2 k1 k2 hlit;go_wp2_with fail;refine (HO.out).mono ?_;rintro e w3 ⟨rfl,hb3,hd3⟩;have HB3:=AA (bT HB2.out hb3);have HD3:=AA (dT HD2.out hd3);clear hb3 hd3;go_wp2;go_ret;exact ⟨rfl,HB3.out,HD3.out⟩
def NS (w0:World) (s:AD):Prop:=Ints w0 (BK s.ov) s.out/\0<s.out.length/\∀ d∈s.out,-1073741824<=d/\d<=1073741824
theorem NS.mono {w w':World} {s:AD} (h:NS w s) (hb:AU w w'):NS w' s:=⟨h.1.mono hb,h.2⟩
theorem asf (s t:AD) (w:World) (hs:NS w s) (ht:NS w t):Calls Tryz.prog 61 #[.agg #[.int .i64 s.tw,BK s.ov,BK s.iv,BK s.av],.agg #[.int .i64 t.tw,BK t.ov,BK t.iv,BK t.av]] w fun e w'=>e=.returned (.int .i64 (cmpK (Dp s.out) (Dp t.out)))/\NY w w':=by
 have HS:=AA (fun W (hW:AU w W)=>(akE (BK s.ov) s.out W (hs.1.mono hW) hs.2.1 hs.2.2).mono (R':=fun e w'=>e=.returned (.int .i64 (Dp s.out))/\NY W w') fun e w' g=>⟨g.1,by rw [<- g.2];exact ⟨bR W,dR W⟩⟩);have HT:=AA (fun W (hW:AU w W)=>(akE (BK t.ov) t.out W (ht.1.mono hW) ht.2.1 ht.2.2).mono (R':=fun e w'=>e=.returned (.int .i64 (Dp t.out))/\NY W w') fun e w' g=>⟨g.1,by rw [<- g.2];exact ⟨bR W,dR W⟩⟩);have HC:=AA (fun W=>atV (Dp s.out) (Dp t.out) W (hs.2.2 _ (wL (fun e=>by have:=hs.2.1;rw [e] at this;cases this))) (ht.2.2 _ (wL (fun e=>by have:=ht.2.1;rw [e] at this;cases this))));unfold BK at *;generalize Dp s.out=x at *;generalize Dp t.out=y at *;clear hs ht;obtain ⟨tw,so,⟨oa,on,oc⟩,si,⟨ia,II,ic⟩,sa,⟨aa,an,ac⟩⟩:=s;obtain ⟨tw',so',⟨oa',on',oc'⟩,si',⟨ia',ads,ic'⟩,sa',⟨aa',an',ac'⟩⟩:=t;simp only at *;go_enter Tryz.func61,Tryz.ntmps61;go_upto_region 1 with fail;obtain ⟨W,hW⟩:=BR ((w.alloc (.cells #[.int .i64 tw,.slice oa on oc,.slice ia II ic,.slice aa an ac] 82)).alloc (.cells #[.int .i64 tw',.slice oa' on' oc',.slice ia' ads ic',.slice aa' an' ac'] 82));have Bw:AU w W:=by rw [hW];exact bA (bA (bR w) _) _
 have Dw:=AA (show w.drawn<=W.drawn by rw [hW];exact dA (dA (dR w) _) _);have X1:AO W w.heap.size 82 #[.int .i64 tw,.slice oa on oc,.slice ia II ic,.slice aa an ac]:=by rw [hW];exact (AO.made rfl _ _).alloc _
 have X2:AO W (w.heap.size+1) 82 #[.int .i64 tw',.slice oa' on' oc',.slice ia' ads ic',.slice aa' an' ac']:=by rw [hW];exact AO.made Ak _ _
 rw [<- hW];clear hW;obtain ⟨BF,BG,BH,BI,X1d,-,-,-,-⟩:=X1.N7;obtain ⟨BU,BX,Bg,CB,vG,-,-,-,-⟩:=X2.N7;refine DJ (W) (.take 0 1 (.take 1 3 (.take 3 11 (.take 4 27 (.call 2 31 (.call 5 63 (.call 6 127 (.take 7 255 (.done))))))))) fun CU QR Ae Ah hS=>?_
 iterate 4 refine Aj ?_
 refine Bj ?_;clear hS;intro K hK AQ;go_simp;refine (HS.out _ (bT Bw AQ.out)).mono ?_;rintro e CX ⟨rfl,CV,hd1⟩;have hS:Since W CX:=bT (w:=W) AQ.out CV;clear AQ;refine hK.out _ _ hS (fun _=>?_);clear hK K
 try simp only [pu]
 refine Bj ?_;clear hS;intro K hK AQ;go_simp;refine (HT.out _ (bT Bw AQ.out)).mono ?_;rintro e wr2 ⟨rfl,Fp,hd2⟩;have hS:Since W wr2:=bT (w:=W) AQ.out Fp;clear AQ;refine hK.out _ _ hS (fun _=>?_);clear hK K
 try simp only [pu]
 refine Bj ?_;clear hS;intro K hK AQ;go_simp;refine (HC.out _).mono ?_;rintro e wr3 ⟨rfl,PK,hd3⟩;have hS:Since W wr3:=bT (w:=W) AQ.out PK;clear AQ;refine hK.out _ _ hS (fun _=>?_);clear hK K
 try simp only [pu]
 refine Aj ?_;refine DF ?_;clear hS Ah Ae;intro hB;have D3:=AA (dT (dT (dT (dD Dw.out) hd1) hd2) hd3);go_wp2;go_ret;exact ⟨rfl,bT Bw hB,D3.out⟩
open Go.RowKit Go.Sort
theorem asg:∀ w,(isAgg 82).run Tryz.prog w=.ok true w:=fun _=>by kernel_rfl
theorem ash:∀ w,(Go.sizeOf 82).run Tryz.prog w=.ok 4 w:=fun _=>by kernel_rfl
open Go.RowKit Go.Sort
theorem asi (w0:World) (base g c cap:Nat) (z:AD) (sl:List AD) (w:World) (hown:Own w base 82 4 E8 (.slice (some ⟨g,0,none⟩) (sl.length+1) c) (z::sl)) (hpos:0<sl.length) (hb0:AU w0 w) (hbase:w0.heap.size<=base) (hok:∀ s∈sl,NS w0 s) (hn:sl.length<=4294967296) :
  Calls Tryz.prog 60 #[.slice (some ⟨g,4,none⟩) sl.length cap,.func (.func 61) #[] #[]] w fun e w'=>e=.returned (.tuple #[])/\∃ sl':List AD,sl'.Perm sl/\sl'.Pairwise (fun a b=>ltOf (fun x y:AD=>cmpK (Dp x.out) (Dp y.out)) b a=false)/\Own w' base 82 4 E8 (.slice (some ⟨g,0,none⟩) (sl.length+1) c) (z::sl')/\w.grownBy w' (some g):=by
 have hs0:sl[0]∈sl:=BO hpos;obtain ⟨hlen,hown2⟩:=hown;rcases hown2 with ⟨_,h0⟩ | ⟨g',cap',cur,hv,hg,hh,hnc,hcm,hcs,hx⟩
 · cases h0
 injection hv with e1 _ e3;injection e1 with e1;injection e1 with e1 _ _;subst e1 e3;have hnl:(z::sl).length=sl.length+1:=rfl;rw [hnl] at hnc hx hlen;have hfl:(z::sl).flatMap E8=E8 z++sl.flatMap E8:=rfl;have asj:(sl.flatMap E8).length=sl.length*4:=flat_length E8 4 RN sl
 haveI hI:Inhabited {s:AD // NS w0 s}:=⟨⟨sl[0],hok _ hs0⟩⟩
 have hdl:∃ dl:List {s:AD // NS w0 s},dl.map (·.1)=sl:=⟨sl.attachWith (fun s=>NS w0 s) hok,Ak⟩;obtain ⟨dl,hdl⟩:=hdl;have hdn:dl.length=sl.length:=by rw [<- hdl];simp
 have hfm:dl.flatMap (fun x=>E8 x.1)=sl.flatMap E8:=by rw [<- hdl,Og]
 have hcur:∀ j,j<sl.length*4->cur[4+j]? = (sl.flatMap E8)[j]? := fun j hj=>by
  have h9:((z::sl).flatMap E8)[4+j]? = (sl.flatMap E8)[j]? := by
   rw [hfl,List.getElem?_append_right (by rw [RN];omega),RN,Nat.add_sub_cancel_left]
  rw [<- h9,<- hx,List.getElem?_take,AZ AB];simp
 have eg:∀ args w,(callFunc 61 args).run Tryz.prog w=.ok (.enter 61 args) w:=enters_of Tryz.func61 I8 rfl;have hkk:∀ x:{s:AD // NS w0 s},(E8 x.1).length=4:=fun _=>rfl;have hcmp:CmpLays Tryz.prog 61 #[] (fun x:{s:AD // NS w0 s}=>E8 x.1) 4 (fun x y=>(fun x y:AD=>cmpK (Dp x.out) (Dp y.out)) x.1 y.1) g 4 dl.toArray.size w:=fun m os dk hdk x y=>by
  have hg':=aY (fun x:{s:AD // NS w0 s}=>E8 x.1) 4 w g 4 m dk os;have OM:AU w0 _:=bG hb0 hg' (fun q hq=>by have:=Dq hq;omega);exact (asf x.1 y.1 _ (x.2.mono OM) (y.2.mono OM)).mono fun e w' h=>⟨h.1,vC h.2⟩
 have hsz:dl.toArray.size*4=sl.length*4:=by simp [hdn]
 have hH:HoldsK (fun x:{s:AD // NS w0 s}=>E8 x.1) 4 w g 4 dl.toArray:=fun j hj=>by
  rw [size_flatK,hsz] at hj;refine ⟨?_,AO.frozen (t:=82) (cs:=cur) hh _⟩;rw [cell_of_row w g _ cur 82 (0,0) hh,hcur j hj,aZ _ 4 hkk _ j (by rw [hsz];exact hj)];simp only [id];rw [hfm,List.getElem!_eq_getElem?_getD]
  have:j<(sl.flatMap E8).length:=by rw [asj];exact hj
  rw [Dh this];rfl
 have hcon:=AnyQ.slices_SortFunc Tryz.sortAd 4 asg ash (fun x:{s:AD // NS w0 s}=>E8 x.1) hkk (fun x=>xP x.1) (fun x y=>(fun x y:AD=>cmpK (Dp x.out) (Dp y.out)) x.1 y.1) (atT fun x:{s:AD // NS w0 s}=>Dp x.1.out) 61 #[] g 4 cap dl.toArray w eg hcmp hH (AO.lt hh) DT;have hns:dl.toArray.size=sl.length:=by simp [hdn]
 rw [hns] at hcon;refine Calls.mono hcon ?_;rintro e w' ⟨rfl,d',n,os,hp,hs,rfl⟩;obtain ⟨p1,-,p3⟩:=hp;have hd':d'.size=sl.length:=by rw [p1,hns]
 have hperm:d'.toList.Perm dl:=by
  have e1:d'.extract 0 sl.length=d':=by rw [<- hd'];simp
  have e2:dl.toArray.extract 0 sl.length=dl.toArray:=by rw [<- hns];simp
  rw [e1,e2] at p3;simpa using p3
 have hg':=aY (fun x:{s:AD // NS w0 s}=>E8 x.1) 4 w g 4 n d' os;refine ⟨rfl,d'.toList.map (·.1),by rw [<- hdl];exact hperm.map _,?_,?_,hg'⟩
 ·rw [I5,Fa];intro i j hi hj hij;have hj':j<d'.size:=by simpa using hj
  have:=hs i j (Bv _) hij (by rw [<- hd'];exact hj')
  rw [getElem!_pos d' j hj',getElem!_pos d' i AB] at this;exact this
 ·have hl':(d'.toList.map (·.1)).length=sl.length:=by simp [hd']
  unfold Own;have hl2:(z::d'.toList.map (·.1)).length=sl.length+1:=by rw [IU,hl']
  rw [hl2];have hfd:(d'.toList.map (·.1)).flatMap E8=d'.toList.flatMap (fun x=>E8 x.1):=by rw [Og]
  have hln:((d'.toList.map (·.1)).flatMap E8).length=sl.length*4:=by rw [flat_length E8 4 RN,hl']
  have aBu:(z::d'.toList.map (·.1)).flatMap E8=E8 z++(d'.toList.map (·.1)).flatMap E8:=rfl;have akF:((z::d'.toList.map (·.1)).flatMap E8).length=(sl.length+1)*4:=by rw [aBu,ER,RN,hln];omega
  refine ⟨akF,.inr ⟨g,c,putCells id 4 (flatK (fun x:{s:AD // NS w0 s}=>E8 x.1) 4 d') cur,rfl,hg,?_,hnc,hcm,tH,?_⟩⟩
  ·have hgl:g<w.heap.size:=AO.lt hh;rw [oU,Array.getElem?_append_left (by simpa using hgl),Array.getElem?_modify,AZ rfl,hh];rfl
  ·apply lZ;intro j;rw [List.getElem?_take];by_cases hj:j<(sl.length+1)*4
   ·rw [AZ hj,aBu,hfd];have hjc:j<cur.size:=by rw [hcs];have:=lq 4 hnc;omega
    by_cases h4:j<4
    ·have e1:(putCells id 4 (flatK (fun x:{s:AD // NS w0 s}=>E8 x.1) 4 d') cur).toList[j]? = cur.toList[j]? := by
      simp [putCells,hjc,show ¬ 4<=j by omega]
     rw [e1,List.getElem?_append_left (by rw [RN];exact h4)];have h9:((z::sl).flatMap E8)[j]? = (E8 z)[j]? := by rw [hfl,List.getElem?_append_left (by rw [RN];exact h4)]
     rw [<- h9,<- hx,List.getElem?_take,AZ AB]
    ·obtain ⟨i,rfl⟩:∃ i,j=4+i:=⟨j-4,AB⟩;have hjd:i<d'.size*4:=by rw [hd'];omega
     have e1:(putCells id 4 (flatK (fun x:{s:AD // NS w0 s}=>E8 x.1) 4 d') cur).toList[4+i]? = some (flatK (fun x:{s:AD // NS w0 s}=>E8 x.1) 4 d')[i]! := by
      simp [putCells,hjc,hjd]
     rw [e1,aZ _ 4 hkk _ i hjd,List.getElem!_eq_getElem?_getD,List.getElem?_append_right (by rw [RN];omega),RN,Nat.add_sub_cancel_left]
     have:i<(d'.toList.flatMap fun x=>E8 x.1).length:=by rw [<- hfd,hln];omega
     rw [Dh this];rfl
   · rw [AX hj,YN (by rw [akF];omega)]
open Go.RowKit Go.Sort
theorem asl:∀ w,(isAgg 62).run Tryz.prog w=.ok true w:=fun _=>by kernel_rfl
theorem asn:∀ w,(Go.sizeOf 62).run Tryz.prog w=.ok 4 w:=fun _=>by kernel_rfl
def aso (w:World) (base:Nat) (v:Value) (sl:List AD) (e:Ending) (w':World):Prop :=
 e=.returned (.tuple #[])/\∃ sl':List AD,sl'.Perm sl/\sl'.Pairwise (fun a b=>ltOf (fun x y:AD=>KN x.tw y.tw) b a=false)/\Own w' base 62 4 E8 v sl'/\w.grownBy w' v.ownBlock
theorem asq (base:Nat) (v:Value) (sl:List AD) (w:World) (hown:Own w base 62 4 E8 v sl) (hn:sl.length<=4294967296) :
  Calls Tryz.prog 50 #[v,.func (.func 51) #[] #[]] w (aso w base v sl):=by
 rcases sl with _ | ⟨s0,rest⟩
 ·have hv:∃ p cap,v=.slice p 0 cap:=by
   rcases hown.2 with ⟨h,_⟩ | ⟨g,cap,cur,h,_⟩
   · exact ⟨_,_,h⟩
   · exact ⟨_,_,h⟩
  obtain ⟨p,cap,rfl⟩:=hv;refine Calls.mono (AnyF.slices_SortFunc_none Tryz.sortRg p cap (.func (.func 51) #[] #[]) w) ?_;rintro e w' ⟨rfl,rfl⟩;exact ⟨rfl,[],List.Perm.refl _,List.Pairwise.nil,hown,World.grownBy.refl _ _⟩
 generalize hsl:s0::rest=sl at *;have hs0:s0∈sl:=by rw [<- hsl];simp
 have hpos:0<sl.length:=by rw [<- hsl];simp
 obtain ⟨hlen,hown2⟩:=hown;rcases hown2 with ⟨_,h0⟩ | ⟨g,cap,cur,rfl,hg,hh,hnc,hcm,hcs,hx⟩
 · omega
 haveI hI:Inhabited {s:AD // s=s}:=⟨⟨s0,rfl⟩⟩
 have hdl:∃ dl:List {s:AD // s=s},dl.map (·.1)=sl:=⟨sl.attachWith (fun s=>s=s) (fun _ _=>rfl),Ak⟩;obtain ⟨dl,hdl⟩:=hdl;have hdn:dl.length=sl.length:=by rw [<- hdl];simp
 have hfm:dl.flatMap (fun x=>E8 x.1)=sl.flatMap E8:=by rw [<- hdl,Og]
 have hcur:∀ j,j<sl.length*4->cur[j]? = (sl.flatMap E8)[j]? := fun j hj=>by
  rw [<- hx,List.getElem?_take,AZ hj];simp
 have eg:∀ args w,(callFunc 51 args).run Tryz.prog w=.ok (.enter 51 args) w:=enters_of Tryz.func51 I8 rfl;have hkk:∀ x:{s:AD // s=s},(E8 x.1).length=4:=fun _=>rfl;have hcmp:CmpLays Tryz.prog 51 #[] (fun x:{s:AD // s=s}=>E8 x.1) 4 (fun x y=>(fun x y:AD=>KN x.tw y.tw) x.1 y.1) g 0 dl.toArray.size w:=fun m os dk hdk x y=>by
  have hg':=aY (fun x:{s:AD // s=s}=>E8 x.1) 4 w g 0 m dk os
  exact (atQ x.1 y.1 _).mono fun e w' h=>⟨h.1,vC h.2⟩
 have hsz:dl.toArray.size*4=sl.length*4:=by simp [hdn]
 have hH:HoldsK (fun x:{s:AD // s=s}=>E8 x.1) 4 w g 0 dl.toArray:=fun j hj=>by
  rw [size_flatK,hsz] at hj;refine ⟨?_,AO.frozen (t:=62) (cs:=cur) hh _⟩;rw [cell_of_row w g _ cur 62 (0,0) hh,Qm,hcur j hj,aZ _ 4 hkk _ j (by rw [hsz];exact hj)];simp only [id];rw [hfm,List.getElem!_eq_getElem?_getD]
  have:j<(sl.flatMap E8).length:=by rw [hlen];exact hj
  rw [Dh this];rfl
 have hcon:=AnyQ.slices_SortFunc Tryz.sortRg 4 asl asn (fun x:{s:AD // s=s}=>E8 x.1) hkk (fun x=>xP x.1) (fun x y=>(fun x y:AD=>KN x.tw y.tw) x.1 y.1) (adB fun x:{s:AD // s=s}=>x.1.tw) 51 #[] g 0 cap dl.toArray w eg hcmp hH (AO.lt hh) DT;have hns:dl.toArray.size=sl.length:=by simp [hdn]
 rw [hns] at hcon;refine Calls.mono hcon ?_;rintro e w' ⟨rfl,d',n,os,hp,hs,rfl⟩;obtain ⟨p1,-,p3⟩:=hp;have hd':d'.size=sl.length:=by rw [p1,hns]
 have hperm:d'.toList.Perm dl:=by
  have e1:d'.extract 0 sl.length=d':=by rw [<- hd'];simp
  have e2:dl.toArray.extract 0 sl.length=dl.toArray:=by rw [<- hns];simp
  rw [e1,e2] at p3;simpa using p3
 have hg':=aY (fun x:{s:AD // s=s}=>E8 x.1) 4 w g 0 n d' os;refine ⟨rfl,d'.toList.map (·.1),by rw [<- hdl];exact hperm.map _,?_,?_,hg'⟩
 ·rw [I5,Fa];intro i j hi hj hij;have hj':j<d'.size:=by simpa using hj
  have:=hs i j (Bv _) hij (by rw [<- hd'];exact hj')
  rw [getElem!_pos d' j hj',getElem!_pos d' i AB] at this;exact this
 ·have hl':(d'.toList.map (·.1)).length=sl.length:=by simp [hd']
  unfold Own;rw [hl'];have hfd:(d'.toList.map (·.1)).flatMap E8=d'.toList.flatMap (fun x=>E8 x.1):=by rw [Og]
  have hln:((d'.toList.map (·.1)).flatMap E8).length=sl.length*4:=by rw [flat_length E8 4 RN,hl']
  refine ⟨hln,.inr ⟨g,cap,putCells id 0 (flatK (fun x:{s:AD // s=s}=>E8 x.1) 4 d') cur,rfl,hg,?_,hnc,hcm,tH,?_⟩⟩
  ·have hgl:g<w.heap.size:=AO.lt hh;rw [oU,Array.getElem?_append_left (by simpa using hgl),Array.getElem?_modify,AZ rfl,hh];rfl
  ·apply lZ;intro j;rw [List.getElem?_take];by_cases hj:j<sl.length*4
   ·rw [AZ hj,hfd];have hjc:j<cur.size:=by rw [hcs];have:=lq 4 hnc;omega
    have hjd:j<d'.size*4:=by rw [hd'];exact hj
    have e1:(putCells id 0 (flatK (fun x:{s:AD // s=s}=>E8 x.1) 4 d') cur).toList[j]? = some (flatK (fun x:{s:AD // s=s}=>E8 x.1) 4 d')[j]! := by
     simp [putCells,hjc,hjd]
    rw [e1,aZ _ 4 hkk _ j hjd,List.getElem!_eq_getElem?_getD]
    have:j<(d'.toList.flatMap fun x=>E8 x.1).length:=by rw [<- hfd,hln];exact hj
    rw [Dh this];rfl
   · rw [AX hj,YN (by rw [hln];omega)]
set_option linter.unusedSectionVars false
section
variable {p:Pl} (h:Valid p)
include h
theorem Valid.wM:(Bh p).length<=512:=by
 have hl:=h.lim;unfold Ji at hl;simp only [QC,Iy] at hl;have h2:=hl.2;unfold Bh;rw [ER,XU,Cj,Cj];omega
theorem Valid.aBv {X:List Int} (hX:X∈Ce p):Um p X=FB p X:=by
 obtain ⟨h1,h2⟩:=h.Gq hX;have hl:=Wq h1 h2;have h3:=h.wM;unfold Um;rw [AZ ⟨AB,fun d hd=>h.aiB (h2 d hd)⟩,aqb p X X.length (Dc _),I4];rfl
end
set_option linter.unusedSectionVars false
theorem asr {α β:Type} (f:α->β) (E:β->Bool) (t:β->Int) (l:List α):Jm E t (l.map f)=(Jm (fun x=>E (f x)) (fun x=>t (f x)) l).map f:=by
 induction l using acX with
 | h0=>rfl
 | h1 l x ih =>
  rw [GI,FM,QD,ZA,ZA,ih];unfold RF
  cases Jm (fun x=>E (f x)) (fun x=>t (f x)) l<;>simp only [Option.map]<;>split<;>rfl
theorem asu {α:Type} {E E':α->Bool} {t t':α->Int} {l:List α} (h:∀ x∈l,E x=E' x/\t x=t' x):Jm E t l=Jm E' t' l:=by
 induction l using acX with
 | h0=>rfl
 | h1 l x ih =>
  have ih:=ih fun y hy=>h y (O9 _ hy);rw [ZA,ZA,ih];obtain ⟨e1,e2⟩:=h x (YI _ Eu);unfold RF
  cases hb:Jm E' t' l with
  | none=>simp only [e1]
  | some y =>
   have hy:=(aCk E' t' hb).1;have e3:=(h y (O9 _ hy)).2;simp only [e1,e2,e3]
def KO (O:List (List Int)) (i:Nat):Option (List Int):=if i=0 then none else O[i-1]?
theorem adt {O:List (List Int)} (hn:O.Nodup) {i j:Nat} (hi:i<=O.length) (hj:j<=O.length) (e:KO O i=KO O j):i=j:=by
 unfold KO at e;by_cases h1:i=0
 ·by_cases h2:j=0
  · omega
  · rw [AZ h1,AX h2,Dh AB] at e;cases e
 ·by_cases h2:j=0
  · rw [AX h1,AZ h2,Dh AB] at e;cases e
  ·rw [AX h1,AX h2,Dh AB,Dh AB] at e;injection e with e;unfold List.Nodup at hn;rw [Fa] at hn;rcases PN i j with g | g | g
   · exact absurd e (hn (i-1) (j-1) AB AB AB)
   · exact g
   · exact absurd e.symm (hn (j-1) (i-1) AB AB AB)
theorem Tn {O:List (List Int)} {i:Nat} (h0:1<=i) (hi:i<=O.length):KO O i=some (O[i-1]'(by omega)):=by
 unfold KO;rw [AX AB,Dh AB]
def RU (p:Pl) (L:List AD):Prop:=∀ i (hi:i<L.length),1<=i->L[i].tw=FB p L[i].out
theorem RU.set {p:Pl} {L:List AD} (h:RU p L) {b:Nat} {y:AD} (hb:b<L.length) (h1:y.tw=L[b].tw) (h2:y.out=L[b].out):RU p (L.set b y):=by
 intro i hi hi1;simp only [OD] at hi;rw [Qo];split
 · rename_i e;subst e;rw [h1,h2];exact h b hb hi1
 · exact h i hi hi1
theorem RU.more {p:Pl} {L:List AD} (h:RU p L) {x:AD} (h1:x.tw=FB p x.out):RU p (L++[x]):=by
 intro i hi hi1;by_cases e:i<L.length
 · rw [List.getElem_append_left e];exact h i e hi1
 ·have:i=L.length:=by simp at hi;omega
  subst this;simpa using h1
theorem RU.one (p:Pl) (x:AD):RU p [x]:=fun i hi hi1=>by simp at hi;omega
structure Gz (p:Pl) (L:List AD) (O R:List (List Int)) (N:List Nd):Prop where
 out:L.map (·.out)=[]::O
 inn:∀ i (hi:i<L.length),L[i].inn.map (·.1)=R.filter (fun c=>decide (Ie p (RG p c)=KO O i))
 DC:∀ i (hi:i<L.length),L[i].DC=(N.filter (fun n=>decide (Na p.AP n.id=0/\Ie p n.pt=KO O i))).map (·.id)
section
variable {p:Pl} {L:List AD} {O R:List (List Int)} {N:List Nd} (h:Gz p L O R N)
include h
theorem Gz.len:L.length=O.length+1:=by
 have:=congrArg List.length h.out
 simpa using this
theorem Gz.kU {i:Nat} (hi:i<L.length) (h1:1<=i):L[i].out=O[i-1]'(by have:=h.len;omega):=by
 have e:(L.map (·.out))[i]'(by simpa using hi)=L[i].out:=by rw [Gp]
 rw [<- e];have h2:=h.out;obtain ⟨j,rfl⟩:∃ j,i=j+1:=⟨i-1,AB⟩;simp only [h2,List.getElem_cons_succ,gu]
theorem Gz.akG (h0:0<L.length):L[0].out=[]:=by
 have e:(L.map (·.out))[0]'(by simpa using h0)=L[0].out:=by rw [Gp]
 rw [<- e];have h2:=h.out;simp only [h2,List.getElem_cons_zero]
theorem Gz.adu {x:AD} (hx:x∈L):x.out=[]\/x.out∈O:=by
 have:x.out∈L.map (·.out):=Gh hx
 rw [h.out] at this;rcases EW.1 this with e | e
 · exact .inl e
 · exact .inr e
theorem Gz.more (hR:R=[]) (hN:N=[]) (x:AD) (h2:x.inn=[]) (h3:x.DC=[]):Gz p (L++[x]) (O++[x.out]) R N:=by
 subst hR hN;have hl:=h.len;refine ⟨by rw [GI,h.out];rfl,fun i hi=>?_,fun i hi=>?_⟩
 ·by_cases e:i<L.length
  · rw [List.getElem_append_left e,h.inn i e];rfl
  ·have:i=L.length:=by simp at hi;omega
   subst this;simp [h2]
 ·by_cases e:i<L.length
  · rw [List.getElem_append_left e,h.DC i e];rfl
  ·have:i=L.length:=by simp at hi;omega
   subst this;simp [h3]
theorem Gz.inner (hn:O.Nodup) {b:Nat} (hb:b<L.length) (c:List Int) (sv Oy:SV) (hh:Ie p (RG p c)=KO O b) :
  Gz p (L.set b {L[b] with inn:=L[b].inn++[(c,sv)],iv:=Oy}) O (R++[c]) N:=by
 have hl:=h.len;refine ⟨?_,fun i hi=>?_,fun i hi=>?_⟩
 ·rw [<- h.out];apply Zq Ak;intro i h1 h2;rw [Gp,Gp,Qo];split
  · rename_i e;subst e;rfl
  · rfl
 ·simp only [OD] at hi;rw [Qo,aAQ];split
  ·rename_i e;subst e;rw [GI,h.inn b hb,gq,AZ (by simpa using hh)];rfl
  ·rename_i e;rw [h.inn i hi,gq,AX (by
    rw [EO,hh];exact fun g=>e (adt hn AB AB g)),aaz,JA]
 ·simp only [OD] at hi;rw [Qo];split
  · rename_i e;subst e;exact h.DC b hb
  · exact h.DC i hi
theorem Gz.lone (hn:O.Nodup) {b:Nat} (hb:b<L.length) (n:Nd) (OV:SV) (h0:Na p.AP n.id=0) (hh:Ie p n.pt=KO O b) :
  Gz p (L.set b {L[b] with DC:=L[b].DC++[n.id],av:=OV}) O R (N++[n]):=by
 have hl:=h.len;refine ⟨?_,fun i hi=>?_,fun i hi=>?_⟩
 ·rw [<- h.out];apply Zq Ak;intro i h1 h2;rw [Gp,Gp,Qo];split
  · rename_i e;subst e;rfl
  · rfl
 ·simp only [OD] at hi;rw [Qo];split
  · rename_i e;subst e;exact h.inn b hb
  · exact h.inn i hi
 ·simp only [OD] at hi;rw [Qo,aAQ];split
  ·rename_i e;subst e;rw [GI,h.DC b hb,gq,AZ (by rw [EO];exact ⟨h0,hh⟩)];rfl
  ·rename_i e;rw [h.DC i hi,gq,AX (by
    rw [EO,hh];exact fun g=>e (adt hn AB AB g.2)),aaz,JA]
theorem Gz.pass (n:Nd) (h0:Na p.AP n.id≠0):Gz p L O R (N++[n]) :=
 ⟨h.out,h.inn,fun i hi=>by
  rw [h.DC i hi,aAQ,gq,AX (by rw [EO];exact fun g=>h0 g.1),aaz,JA]⟩
theorem Gz.home (hO:O=BP p) (hT:RU p L) {v:Pt} {b:Nat} (hb:Zd p v L (L.length-1) b):b<L.length/\Ie p v=KO O b:=by
 have hl:=h.len;have ht:L.tail.take (L.length-1)=L.tail:=IQ Ak;have hm:L.tail.map (·.out)=O:=by rw [List.map_tail,h.out];rfl
 have e1:Ie p v=(Jm (fun x:AD=>encS p x.out v) (fun x:AD=>x.tw) L.tail).map (·.out):=by
  unfold Ie;rw [<- hO,<- hm,asr];congr 1;refine asu fun x hx=>⟨rfl,?_⟩;obtain ⟨i,hi,rfl⟩:=EF.1 hx;rw [List.getElem_tail];simp only [List.length_tail] at hi;exact (hT (i+1) AB AB).symm
 unfold Zd at hb;rw [ht] at hb;rcases hb with ⟨rfl,e⟩ | ⟨hbl,h1,h2,e⟩
 ·rw [e] at e1;exact ⟨AB,by rw [e1];rfl⟩
 ·rw [e] at e1;refine ⟨hbl,?_⟩;rw [e1,Tn h1 AB]
  show some L[b].out=_
  rw [h.kU hbl h1]
end
theorem Gz.start (p:Pl) (x:AD) (h1:x.out=[]) (h2:x.inn=[]) (h3:x.DC=[]):Gz p [x] [] [] []:=by
 refine ⟨by simp [h1],fun i hi=>?_,fun i hi=>?_⟩
 ·have:i=0:=by simp at hi;omega
  subst this;simp [h2]
 ·have:i=0:=by simp at hi;omega
  subst this;simp [h3]
section
variable {p:Pl} (h:Valid p)
include h
theorem Valid.Xc {X:List Int} (hX:X∈Ce p):X≠[]:=fun e=>by
 obtain ⟨x,-,-,-,hx⟩:=h.Ph hX;rw [e] at hx;cases hx
theorem Valid.asv:(Ce p).Nodup:=by
 have hp:=h.adQ.nodup_iff.2 h.vM;have hd:(Ce p).Pairwise (fun a b=>∀ x∈a,∀ y∈b,x≠y):=by
  have h2:=abO.1 hp;exact h2.2
 unfold List.Nodup;refine abP (fun {a b} ha hb hab e=>?_) hd;subst e;have hne:=h.Xc ha
 cases a with
 | nil=>exact hne rfl
 | cons x a=>exact hab x Eu x Eu rfl
theorem Valid.U5:(Ce p).length<=512:=by
 have:∀ L:List (List Int),(∀ X∈L,X≠[])->L.length<=L.flatten.length:=by
  intro L
  induction L with
  | nil=>intro _;exact Dc _
  | cons X L ih =>
   intro hL;have h1:=ih fun Y hY=>hL Y (I7 _ hY);have h2:=iD.2 (hL X Eu);rw [List.flatten_cons,ER,IU];omega
 have h1:=this (Ce p) fun X hX=>h.Xc hX;have h2:=h.adQ.length_eq;have h3:=h.wM;omega
theorem Valid.akH:p.faces.Pairwise (· < ·):=by
 have ho:=h.ord;unfold QL at ho;rw [Ei,Ei] at ho;exact uz _ ho.2
theorem Valid.akI {f:Int} (hf:f∈p.faces):1<=f/\f<=1073741824:=by
 have hr:=h.rng;unfold Nb at hr;rw [Ei] at hr;have h1:=hr.1;rw [Qk,XO] at h1;have:=h1 f (YI _ hf)
 unfold Jj at this;simp only [KD,EO,not_or] at this;omega
theorem Valid.akJ (d:Int):IK p d=0\/IK p d∈p.faces:=by
 have hs:=h.sides;unfold SI at hs;rw [KU] at hs;have hf:∀ n,F6 p.faces n=true->n=0\/n∈p.faces:=fun n hn=>by
  unfold F6 at hn;rw [KD,OC] at hn;rcases hn with ⟨x,hx,e⟩ | e
  · have:=eq_of_beq e;subst this;exact .inr hx
  · exact .inl (eq_of_beq e)
 unfold IK;split
 · exact .inl rfl
 ·rename_i a e;have ha:a∈p.AP:=by
   unfold Fg at e;split at e
   · cases e
   · exact VO e
  have:=hs a ha
  rw [Ei] at this;split
  · exact hf _ this.1
  · exact hf _ this.2
theorem Valid.asw (d:Int):0<=IK p d/\IK p d<=1073741824:=by
 rcases h.akJ d with e | e
 · omega
 · have:=h.akI e;omega
theorem Valid.aBw:(BP p).Nodup:=h.asv.filter _
end
def Ih (p:Pl) (O:List (List Int)) (i:Nat):Int:=NR p (KO O i)
def J7 (p:Pl) (O:List (List Int)) (i:Nat):List (List Int):=GR p (KO O i)
structure Ui (p:Pl) (O:List (List Int)) (k:Nat):Prop where
 some:∀ i,1<=i->i<k->Ih p O i≠0
 differ:∀ i j,1<=i->i<j->j<k->Ih p O i≠Ih p O j
 sides:∀ i,i<k->∀ c∈J7 p O i,∀ d∈c,IK p d=Ih p O i
theorem Ui.zero (p:Pl) (O:List (List Int)):Ui p O 0:=⟨fun i _ h=>by omega,fun i j _ _ h=>by omega,fun i h=>by omega⟩
def Oz (p:Pl) (O:List (List Int)) (k:Nat):List Int:=(List.range (k-1)).map fun i=>Ih p O (i+1)
theorem asx (p:Pl) (O:List (List Int)) {k:Nat} (h:1<=k):Oz p O (k+1)=Oz p O k++[Ih p O k]:=by
 unfold Oz;rw [show k+1-1=(k-1)+1 by omega,Zr,GI];simp only [FM,QD];rw [show k-1+1=k by omega]
theorem akK {p:Pl} {O:List (List Int)} {k:Nat} {x:Int}:x∈Oz p O k↔∃ i,1<=i/\i<k/\Ih p O i=x:=by
 unfold Oz;rw [ED];constructor
 ·rintro ⟨i,hi,rfl⟩;rw [Et] at hi;exact ⟨i+1,AB,AB,rfl⟩
 ·rintro ⟨i,h1,h2,rfl⟩;exact ⟨i-1,by rw [Et];omega,by rw [show i-1+1=i by omega]⟩
theorem asy (p:Pl) (O:List (List Int)) (k:Nat):(Oz p O k).length=k-1:=by unfold Oz;simp
theorem Ui.succ {p:Pl} {O:List (List Int)} {k:Nat} (h:Ui p O k) (h1:1<=k->Ih p O k≠0) (h2:1<=k->Ih p O k∉Oz p O k) (h3:∀ c∈J7 p O k,∀ d∈c,IK p d=Ih p O k):Ui p O (k+1):=by
 refine ⟨fun i hi hk=>?_,fun i j hi hj hk=>?_,fun i hi=>?_⟩
 ·by_cases e:i=k
  · subst e;exact h1 hi
  · exact h.some i hi AB
 ·by_cases e:j=k
  ·subst e;exact fun g=>h2 AB (akK.2 ⟨i,hi,hj,g⟩)
  · exact h.differ i j hi hj AB
 ·by_cases e:i=k
  · subst e;exact h3
  · exact h.sides i AB
theorem Zf {p:Pl} {O:List (List Int)} {i:Nat} (h1:1<=i) (hi:i<=O.length):Ih p O i=IK p ((O[i-1]'(by omega)).headD 0):=by
 unfold Ih;rw [Tn h1 hi];rfl
theorem Ui.iff {p:Pl} {O:List (List Int)} (hp:O.Perm (BP p)):aO p↔Ui p O (O.length+1)/\O.length=p.faces.length:=by
 constructor
 ·intro h;refine ⟨⟨fun i h1 h2=>?_,fun i j h1 h2 h3=>?_,fun i hi=>?_⟩,by rw [hp.length_eq];exact h.all⟩
  ·rw [Zf h1 AB];exact h.some _ (hp.subset (BO _))
  ·rw [Zf h1 AB,Zf AB AB];intro e;have hd:=(hp.map (fun X=>IK p (X.headD 0))).nodup_iff.2 h.differ;unfold List.Nodup at hd;rw [I5,Fa] at hd;exact hd (i-1) (j-1) AB AB AB e
  ·refine h.sides _ ?_;by_cases e:i=0
   · subst e;exact .inl rfl
   ·rw [Tn AB AB];exact .inr ⟨_,hp.subset (BO _),rfl⟩
 ·rintro ⟨h,ha⟩;refine ⟨fun X hX=>?_,?_,fun b hb=>?_,by rw [<- hp.length_eq];exact ha⟩
  ·obtain ⟨i,hi,rfl⟩:=EF.1 (hp.symm.subset hX);have:=h.some (i+1) AB AB
   rw [Zf AB AB] at this;exact this
  ·refine (hp.map (fun X=>IK p (X.headD 0))).nodup_iff.1 ?_;unfold List.Nodup;rw [I5,Fa];intro i j hi hj hij;have:=h.differ (i+1) (j+1) AB AB AB
   rw [Zf AB AB,Zf AB AB] at this;exact this
  ·rcases hb with rfl | ⟨X,hX,rfl⟩
   · exact h.sides 0 AB
   ·obtain ⟨i,hi,rfl⟩:=EF.1 (hp.symm.subset hX);have:=h.sides (i+1) AB
    unfold J7 Ih at this;rw [Tn AB AB] at this;exact this
def Jp (p:Pl):List (Option (List Int)):=none::(BP p).map some
def SL (p:Pl):Bool:=(BP p).all (fun X=>IK p (X.headD 0) != 0) && decide ((BP p).map (fun X=>IK p (X.headD 0))).Nodup && (Jp p).all (fun b=>(GR p b).all fun c=>c.all fun d=>IK p d == NR p b) && decide ((BP p).length=p.faces.length)
theorem aBx {p:Pl}:SL p=true↔aO p:=by
 unfold SL Jp;simp only [Ei,EO,KU,EW,ED,bne_iff_ne,beq_iff_eq];constructor
 ·rintro ⟨⟨⟨h1,h2⟩,h3⟩,h4⟩;refine ⟨h1,h2,fun b hb=>h3 b ?_,h4⟩;rcases hb with h | ⟨X,hX,h⟩
  · exact .inl h
  · exact .inr ⟨X,hX,h.symm⟩
 ·rintro ⟨h1,h2,h3,h4⟩;refine ⟨⟨⟨h1,h2⟩,fun b hb=>h3 b ?_⟩,h4⟩;rcases hb with h | ⟨X,hX,h⟩
  · exact .inl h
  · exact .inr ⟨X,hX,h.symm⟩
theorem akL {p:Pl} {O:List (List Int)} (hp:O.Perm (BP p)):SL p=true↔Ui p O (O.length+1)/\O.length=p.faces.length:=aBx.trans (Ui.iff hp)
set_option linter.unusedSectionVars false
theorem aBy (P:List Pt):(Es P).length=P.length-1:=by unfold Es;simp
theorem akM {P:List Pt} {k:Nat} (hk:k<(Es P).length):(Es P)[k]=(P.getD k AY,P.getD (k+1) AY):=by unfold Es;simp
theorem adv {P:List Pt} {k:Nat} (hk:k<P.length):P.reverse.getD k AY=P.getD (P.length-1-k) AY:=by
 rw [Fj,Fj,List.getElem?_reverse hk]
theorem asz (P:List Pt):Es P.reverse=((Es P).map fun q=>(q.2,q.1)).reverse:=by
 apply Zq (by simp [aBy]);intro k h1 h2;simp only [aBy,XU] at h1;rw [akM,List.getElem_reverse,Gp,akM];simp only [Cj,aBy];rw [adv AB,adv AB];rw [show P.length-1-1-k+1=P.length-1-k by omega,show P.length-1-(k+1)=P.length-1-1-k by omega]
theorem at1 (a b v:Pt):Ea a b v=Ea b a v:=by
 unfold Ea;have e1:EN [a,b,v]=EN [b,a,v]:=by unfold EN;simp only [aAF,aam];cases C9 a<;>cases C9 b<;>rfl
 have t:tw b a v=-tw a b v:=by unfold tw;grind
 rw [e1,t,rZ b.x a.x,ru b.x a.x,rZ b.y a.y,ru b.y a.y];congr 1;by_cases h:tw a b v=0
 · rw [h];rfl
 · simp [h]
theorem akN (v a b:Pt):J6 v a b=J6 v b a:=by
 have t:tw b a v=-tw a b v:=by unfold tw;grind
 unfold J6;rw [t,decide_eq_decide];omega
def MC (p:Pl) (d:Int):List Pt:=if 0<d then G5 p d else (G5 p d).reverse
def Qc (p:Pl) (X:List Int):List (Pt×Pt):=X.flatMap fun d=>Es (MC p d)
def aBz (p:Pl) (X:List Int) (v:Pt):Bool:=(TG v (Qc p X)).2 && !(TG v (Qc p X)).1
theorem akO (p:Pl) (d:Int) (v:Pt):((Es (MC p d)).any fun q=>Ea q.1 q.2 v)=((Es (G5 p d)).any fun q=>Ea q.1 q.2 v) /\
  ((Es (MC p d)).map fun q=>if J6 v q.1 q.2 then (1:Int) else 0).sum=((Es (G5 p d)).map fun q=>if J6 v q.1 q.2 then (1:Int) else 0).sum:=by
 unfold MC;split
 · exact ⟨rfl,rfl⟩
 ·rw [asz];refine ⟨?_,?_⟩
  ·rw [List.any_reverse,gZ];congr 1
   funext q
   exact at1 _ _ _
  ·rw [List.map_reverse,List.sum_reverse,IV];congr 2
   funext q
   simp only [Function.comp];rw [akN]
theorem ajd (p:Pl) (X:List Int) (v:Pt):aBz p X v=encS p X v:=by
 unfold aBz encS;rw [aCh,aCh];have h1:((Qc p X).any fun q=>Ea q.1 q.2 v)=((DV p X).any fun q=>Ea q.1 q.2 v):=by
  unfold Qc DV;rw [List.any_flatMap,List.any_flatMap];congr 1
  funext d
  exact (akO p d v).1
 have h2:((Qc p X).map fun q=>if J6 v q.1 q.2 then (1:Int) else 0).sum=((DV p X).map fun q=>if J6 v q.1 q.2 then (1:Int) else 0).sum:=by
  unfold Qc DV;clear h1
  induction X with
  | nil=>rfl
  | cons d X ih =>
   rw [KI,KI,GI,GI,O7,O7,ih,(akO p d v).2]
 rw [h1,h2]
def qc (w:World) (v:Value) (L:List (List Int×SV)):Prop:=Sl w v L.length (L.flatMap Ia)/\∀ x∈L,Ints w (.slice x.2.a x.2.n x.2.c) x.1
theorem qc.mono {w w':World} {v:Value} {L:List (List Int×SV)} (h:qc w v L) (hb:AU w w'):qc w' v L :=
 ⟨Sl.mono h.1 hb,fun x hx=>(h.2 x hx).mono hb⟩
theorem Ti.read {w:World} {B:Nat} {v:Value} {L:List (List Int×SV)} (h:Ti w B v L):qc w v L:=⟨h.1.sl,fun x hx=>(h.2 x hx).sl⟩
theorem Row.cy {w:World} {A:Option Addr} {l:List (List Int×SV)} (h:Row w A (l.flatMap Ia)) {k:Nat} (hk:k<l.length) :
  ∃ b o,A=some ⟨b,o,none⟩/\b<w.heap.size/\w.cell? ⟨b,o+k,none⟩=some (.slice l[k].2.a l[k].2.n l[k].2.c):=by
 obtain ⟨b,o,hA,hb,hc⟩:=h.at_ (n:=1) (fun _=>rfl) hk AB;exact ⟨b,o,hA,hb,by simpa using hc 0 _ rfl⟩
