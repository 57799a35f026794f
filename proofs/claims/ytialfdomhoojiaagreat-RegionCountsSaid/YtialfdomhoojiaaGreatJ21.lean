import Derived.Test.YtialfdomhoojiaaGreatJ20
import Derived.Test.YtialfdomhoojiaaGreatJ15
import Derived.Test.YtialfdomhoojiaaGreatJ05
import Derived.Test.YtialfdomhoojiaaGreatJ18
import Derived.Test.YtialfdomhoojiaaGreatJ06
import Derived.Test.YtialfdomhoojiaaGreatLaySortAd
import Derived.Test.YtialfdomhoojiaaGreatLaySortRg
import Derived.Test.YtialfdomhoojiaaGreatJ19
import Derived.Test.YtialfdomhoojiaaGreatJ17
set_option linter.unusedSimpArgs false
set_option linter.unusedVariables false
namespace Go.Proofs.YtialfdomhoojiaaGreat
open Go.RowKit
theorem af0 {k d:Int} (h:max d (-d)<max k (-k)\/(d=-k/\0<d)):zJ k d=d:=by
 unfold zJ;rw [if_pos];rw [Fj];unfold gV;split<;>split<;>omega
theorem af4 {k d:Int} (h:¬ (max d (-d)<max k (-k))) (h2:¬ (d=-k/\0<d)):zJ k d=k:=by
 unfold zJ;rw [if_neg];rw [Fj];unfold gV;split<;>split<;>omega
set_option maxRecDepth 100000 in
set_option maxHeartbeats 4000000 in
theorem af5 (v:Value) (c:List Int) (w:World) (h:Ints w v c) (hne:0<c.length) (hb:∀ d∈c,-1073741824<=d/\d<=1073741824) :
  Calls Tryz.prog 63 #[v] w fun e w'=>e=.returned (.int .i64 (eU c))/\w=w':=by
 obtain ⟨A,cp,rfl,hn1,hn2,hR⟩:=h;unfold maxLen at hn2;have HR:=Lib.hid hR;obtain ⟨R,hRr⟩:∃ R,eU c=R:=⟨_,rfl⟩;rw [hRr];have hR0:=am1 c;rw [hRr] at hR0;have uF:=Lib.hid hR0;have HUp:=Lib.hid (fun n (hn:n<c.length)=>am0 (c:=c) hn);have HKb:=Lib.hid (show ∀ n,-1073741824<=yG c n/\yG c n<=1073741824 from fun n=>by
  have h1:c.headD 0∈c:=by
   cases c with
   | nil=>cases hne
   | cons a c=>exact List.mem_cons_self
  rcases YU (c.take n) (c.headD 0) with e | e
  · unfold yG;rw [e];exact hb _ h1
  · exact hb _ (List.mem_of_mem_take e))
 have HDb:=Lib.hid (fun n (hn:n<c.length)=>hb _ (List.getElem_mem hn));have hh:c.headD 0=c[0]:=by
  cases c with
  | nil=>cases hne
  | cons a c=>rfl
 have h0:yG c 0=c[0]:=by unfold yG;rw [List.take_zero];exact hh
 obtain ⟨b0,o0,rfl,hlb0,c0⟩:=(HR.out).int hne;rw [<- h0] at c0;simp only [Nat.add_zero] at c0;have kz:(0:Int)<c.length:=by omega
 have kn:¬ c=[]:=fun e=>by have:=congrArg List.length e;simp only [List.length_nil] at this;omega
 clear hb hR hRr hR0 h0 hh;go_enter Tryz.func63,Tryz.ntmps63;go_wp2_with fail;go_loopw [3,11] (fun s i wr=>∃ k:Nat,k<=c.length/\i=.int .i64 k/\s=.int .i64 (yG c k)/\wr=w) (fun _ i _=>c.length-(intOf i).toNat)
 case atStart => exact ⟨0,Nat.zero_le _,rfl,rfl,rfl⟩
 case round =>
  obtain ⟨k,hk,rfl,rfl,hw⟩:=hrel;obtain rfl:=hw.symm;have hkb:=HKb.out k;by_cases hlt:k<c.length
  ·obtain ⟨b,o,hA,hlb,c1⟩:=(HR.out).int hlt;injection hA with hA;injection hA with y1 y2 _;subst y1 y2;have hdb:=HDb.out k hlt;have hup:=HUp.out k hlt;generalize c[k]=d at *;generalize yG c k=q at *;have HU:=Lib.hid hup;clear hup c0;have k1:IntKind.i64.wrap (-d)=-d:=IntWalk.i64_in _ (by omega);have k2:IntKind.i64.wrap (-q)=-q:=IntWalk.i64_in _ (by omega);have m1:max d (-d)=(if d<0 then -d else d):=by split<;>omega
   by_cases h1:max d (-d)<max q (-q)
   ·have hs:=Lib.hid (af0 (.inl h1));clear m1;go_wp2_with fail;go_roundw
    case rel => exact ⟨k+1,by omega,by go_num,by rw [HU.out,hs.out],trivial⟩
    case measure => simp [intOf];omega
   ·clear m1;by_cases h2:d=-q
    ·by_cases h3:0<d
     ·have hs:=Lib.hid (af0 (.inr ⟨h2,h3⟩));have h2b:(d == -q)=true:=by simpa using h2
      clear h2;go_wp2_with fail;go_roundw
      case rel => exact ⟨k+1,by omega,by go_num,by rw [HU.out,hs.out],trivial⟩
      case measure => simp [intOf];omega
     ·have hs:=Lib.hid (af4 h1 (fun e=>h3 e.2));have h2b:(d == -q)=true:=by simpa using h2
      clear h2;go_wp2_with fail;go_roundw
      case rel => exact ⟨k+1,by omega,by go_num,by rw [HU.out,hs.out],trivial⟩
      case measure => simp [intOf];omega
    ·have hs:=Lib.hid (af4 h1 (fun e=>h2 e.1));have h2b:(d == -q)=false:=by simpa using h2
     clear h2;go_wp2_with fail;go_roundw
     case rel => exact ⟨k+1,by omega,by go_num,by rw [HU.out,hs.out],trivial⟩
     case measure => simp [intOf];omega
  ·obtain rfl:k=c.length:=by omega
   have hf:=uF.out;rw [hf];go_wp2_with fail;go_ret;exact ⟨rfl,rfl⟩
def I5 (l:List Int):Int:=(l.find? (fun x=>decide (x≠0))).getD 0
set_option maxRecDepth 100000 in
set_option maxHeartbeats 1000000 in
theorem aoA (v:Value) (l:List Int) (w:World) (h:Ints w v l) (hs:l.length<=1000):Calls Tryz.prog 122 #[v] w fun e w'=>e=.returned (.int .i64 (I5 l))/\w=w':=by
 obtain ⟨A,c,rfl,hn,hc,hR⟩:=h;unfold maxLen at hc;have HR:=Lib.hid hR;clear hR;obtain ⟨q,hq⟩:∃ q,I5 l=q:=⟨_,rfl⟩;rw [hq];have Hq:=Lib.hid hq;clear hq;go_enter Tryz.func122,Tryz.ntmps122;go_wp2_with fail;go_loopw [8] (fun u wr=>∃ k:Nat,k<=l.length/\u=.int .i64 k/\wr=w/\∀ j (hj:j<l.length),j<k->l[j]=0) (fun u _=>l.length-(intOf u).toNat)
 case atStart => exact ⟨0,Nat.zero_le _,rfl,rfl,fun _ _ h=>by omega⟩
 case round =>
  obtain ⟨k,hk,rfl,rfl,hno⟩:=hrel;have Hno:=Lib.hid hno;clear hno;by_cases hlt:k<l.length
  ·obtain ⟨b,o,rfl,hlb,c0⟩:=HR.out.int hlt;by_cases hz:l[k]=0
   ·have hz':(l[k] != 0)=false:=by simp [hz]
    have Hz:=Lib.hid hz;clear hz;go_wp2_with fail;go_roundw
    case rel => exact ⟨k+1,by omega,by go_num,trivial,fun j hj hjk=>if e:j<k then Hno.out j hj e else by
      have:j=k:=by omega
      subst this;exact Hz.out⟩
    case measure => simp [intOf];omega
   ·have hz':(l[k] != 0)=true:=by simp [hz]
    have hf:=VP l (fun x=>decide (x≠0)) k hlt (fun j hj hjk=>by simp [Hno.out j hj hjk]) (by simp [hz]);have Hf:=Lib.hid hf;clear hz hf;go_wp2_with fail;go_ret;exact ⟨fA (by rw [<- Hq.out,I5,Hf.out];rfl),rfl⟩
  ·have hf:=VQ l (fun x=>decide (x≠0)) (fun j hj=>by simp [Hno.out j hj (by omega)]);have Hf:=Lib.hid hf;clear hf;go_wp2_with fail;go_ret;exact ⟨fA (by rw [<- Hq.out,I5,Hf.out];rfl),rfl⟩
theorem aoB (v:Value) (l:List Int) (w:World) (h:Ints w v l) (hs:l.length<=1000):Calls Tryz.prog 122 #[v] w fun e w'=>e=.returned (.int .i64 (I5 l))/\nI w w' :=
 (aoA v l w h hs).mono fun e w' h=>⟨h.1,by rw [<- h.2];exact ⟨bR w,dR w⟩⟩
open Go.RowKit Go.Sort
set_option maxRecDepth 100000 in
set_option maxHeartbeats 1000000 in
theorem aoC (s t:AD) (w:World):Calls Tryz.prog 51 #[.agg #[.int .i64 s.tw,aH s.ov,aH s.iv,aH s.av],.agg #[.int .i64 t.tw,aH t.ov,aH t.iv,aH t.av]] w fun e w'=>e=.returned (.int .i64 (lN s.tw t.tw))/\nI w w':=by
 unfold aH;go_enter Tryz.func51,Tryz.ntmps51;go_wp2_with fail;refine (Nv s.tw t.tw _).mono ?_;rintro e w1 ⟨rfl,hb1,hd1⟩;have HB1:=Lib.hid (bT (bA (bA (bR w) _) _) hb1);have HD1:=Lib.hid (dT (dA (dA (dR w) _) _) hd1);clear hb1 hd1;go_wp2_with fail;go_ret;exact ⟨rfl,HB1.out,HD1.out⟩
def cmpK (a b:Int):Int:=I5 [lN (max a (-a)) (max b (-b)),lN b a]
theorem aoD (a b:Int):cmpK a b<0↔kX a b=true:=by
 rw [Fj];unfold cmpK I5 lN gV;have e1:max a (-a)=if a<0 then -a else a:=by split<;>omega
 have e2:max b (-b)=if b<0 then -b else b:=by split<;>omega
 rw [e1,e2];generalize (if a<0 then -a else a)=c;generalize (if b<0 then -b else b)=d;by_cases h1:c<d
 · simp [h1]
 ·by_cases h2:d<c
  · simp [h1,h2];omega
  ·by_cases h3:b<a
   · simp [h1,h2,h3];omega
   · by_cases h4:a<b<;>simp [h1,h2,h3,h4]<;>omega
theorem Ul {α:Type} (f:α->Int) (x y:α):ltOf (fun x y=>cmpK (f x) (f y)) x y=kX (f x) (f y):=by
 rw [Bool.eq_iff_iff,<- aoD];unfold ltOf;simp only [decide_eq_true_eq]
theorem aoE {α:Type} (f:α->Int):SWO (ltOf (fun x y:α=>cmpK (f x) (f y))) where
 irrefl x:=by rw [Ul];exact amX _
 trans x y z h1 h2:=by rw [Ul] at *;exact aeT h1 h2
 ntrans x y z h1 h2:=by
  rw [Ul] at *;rw [<- Bool.not_eq_true] at *;rw [Fj] at *;omega
theorem Ints.aoF {w:World} {g:Nat} {t:TypeId} {a b:Int} (h:aj w g t #[.int .i64 a,.int .i64 b]):Ints w (.slice (some ⟨g,0,none⟩) 2 2) [a,b] :=
 Sl.lit (n:=2) h rfl (dW (by omega))
set_option maxRecDepth 100000 in
set_option maxHeartbeats 1000000 in
theorem aoG (a b:Int) (w:World) (ha:-1073741824<=a/\a<=1073741824) (hb:-1073741824<=b/\b<=1073741824) :
  Calls Tryz.prog 62 #[.int .i64 a,.int .i64 b] w fun e w'=>e=.returned (.int .i64 (cmpK a b))/\nI w w':=by
 have k1:IntKind.i64.wrap (-a)=-a:=IntWalk.i64_in _ (by omega);have k2:IntKind.i64.wrap (-b)=-b:=IntWalk.i64_in _ (by omega);unfold cmpK;have HX:=Lib.hid (fun W=>Nv (max a (-a)) (max b (-b)) W);have HY:=Lib.hid (fun W=>Nv b a W);generalize lN (max a (-a)) (max b (-b))=x at *;generalize lN b a=y at *;go_enter Tryz.func62,Tryz.ntmps62;go_wp2_with fail;refine (HX.out _).mono ?_;rintro e w1 ⟨rfl,hb1,hd1⟩;go_wp2_with fail;refine (HY.out _).mono ?_;rintro e w2 ⟨rfl,hb2,hd2⟩;have HB2:=Lib.hid (bA (bT hb1 hb2) (.cells #[.int .i64 x,.int .i64 y] 3));have HD2:=Lib.hid (dA (dT hd1 hd2) (.cells #[.int .i64 x,.int .i64 y] 3));have hlit:=Ints.aoF (aj.made (w:=w2) rfl 3 #[.int .i64 x,.int .i64 y]);have HO:=Lib.hid (aoB _ _ _ hlit (by simp));clear hb1 hb2 hd1 hd2 k1 k2 hlit;go_wp2_with fail;refine (HO.out).mono ?_;rintro e w3 ⟨rfl,hb3,hd3⟩;have HB3:=Lib.hid (bT HB2.out hb3);have HD3:=Lib.hid (dT HD2.out hd3);clear hb3 hd3;go_wp2_with fail;go_ret;exact ⟨rfl,HB3.out,HD3.out⟩
def oU (w0:World) (s:AD):Prop:=Ints w0 (aH s.ov) s.out/\0<s.out.length/\∀ d∈s.out,-1073741824<=d/\d<=1073741824
theorem oU.mono {w w':World} {s:AD} (h:oU w s) (hb:Below w.heap.size w w'):oU w' s:=⟨h.1.mono hb,h.2⟩
set_option maxRecDepth 100000 in
set_option maxHeartbeats 1000000 in
theorem aoH (s t:AD) (w:World) (hs:oU w s) (ht:oU w t):Calls Tryz.prog 61 #[.agg #[.int .i64 s.tw,aH s.ov,aH s.iv,aH s.av],.agg #[.int .i64 t.tw,aH t.ov,aH t.iv,aH t.av]] w fun e w'=>e=.returned (.int .i64 (cmpK (eU s.out) (eU t.out)))/\nI w w':=by
 have HS:=Lib.hid (fun W (hW:Below w.heap.size w W)=>(af5 (aH s.ov) s.out W (hs.1.mono hW) hs.2.1 hs.2.2).mono (R':=fun e w'=>e=.returned (.int .i64 (eU s.out))/\nI W w') fun e w' g=>⟨g.1,by rw [<- g.2];exact ⟨bR W,dR W⟩⟩);have HT:=Lib.hid (fun W (hW:Below w.heap.size w W)=>(af5 (aH t.ov) t.out W (ht.1.mono hW) ht.2.1 ht.2.2).mono (R':=fun e w'=>e=.returned (.int .i64 (eU t.out))/\nI W w') fun e w' g=>⟨g.1,by rw [<- g.2];exact ⟨bR W,dR W⟩⟩);have HC:=Lib.hid (fun W=>aoG (eU s.out) (eU t.out) W (hs.2.2 _ (Tc (fun e=>by have:=hs.2.1;rw [e] at this;cases this))) (ht.2.2 _ (Tc (fun e=>by have:=ht.2.1;rw [e] at this;cases this))));unfold aH at *;generalize eU s.out=x at *;generalize eU t.out=y at *;clear hs ht;obtain ⟨tw,so,⟨oa,on,oc⟩,si,⟨ia,iT,ic⟩,sa,⟨aa,an,ac⟩⟩:=s;obtain ⟨ZX,so',⟨ZY,on',oc'⟩,si',⟨Z8,Z9,ic'⟩,sa',⟨aa',an',ac'⟩⟩:=t;simp only at *;go_enter Tryz.func61,Tryz.ntmps61;go_upto_region 1 with fail;obtain ⟨W,hW⟩:∃ W:World,W=(w.alloc (.cells #[.int .i64 tw,.slice oa on oc,.slice ia iT ic,.slice aa an ac] 82)).alloc (.cells #[.int .i64 ZX,.slice ZY on' oc',.slice Z8 Z9 ic',.slice aa' an' ac'] 82):=⟨_,rfl⟩;have Bw:Below w.heap.size w W:=by rw [hW];exact bA (bA (bR w) _) _
 have Dw:=Lib.hid (show w.drawn<=W.drawn by rw [hW];exact dA (dA (dR w) _) _);have X1:aj W w.heap.size 82 #[.int .i64 tw,.slice oa on oc,.slice ia iT ic,.slice aa an ac]:=by rw [hW];exact (aj.made rfl _ _).alloc _
 have X2:aj W (w.heap.size+1) 82 #[.int .i64 ZX,.slice ZY on' oc',.slice Z8 Z9 ic',.slice aa' an' ac']:=by rw [hW];exact aj.made (by simp) _ _
 rw [<- hW];clear hW;obtain ⟨aI,aJ,aK,aP,X1d,-,-,-,-⟩:=X1.nG;obtain ⟨gI,gJ,iq,iZ,Um,-,-,-,-⟩:=X2.nG;refine bZ (Since W) (.take 0 1 (.take 1 3 (.take 3 11 (.take 4 27 (.call 2 31 (.call 5 63 (.call 6 127 (.take 7 255 (.done))))))))) (by kernel_rfl) (bD (bR _)) (by kernel_rfl) (by kernel_rfl) (Nat.le_of_ble_eq_true (by kernel_rfl)) ?_;intro cO QR ak aC hS
 iterate 4
  apply bg;exact ak;exact rfl;exact hS;exact rfl
  · intro _ hqc;go_simp;try rfl
  try simp only [pu]
 refine aT (i:=2) (aG ak rfl) (fun K hK=>?_);have aA:=Lib.hid hS;clear hS;refine aO (aV rfl) ?_;go_simp;refine (HS.out _ (bT Bw aA.out)).mono ?_;rintro e bH ⟨rfl,bJ,hd1⟩;have hS:Since W bH:=bT (w:=W) aA.out bJ;clear aA;refine hK.out _ _ hS (fun _=>?_);clear hK K
 try simp only [pu]
 refine aT (i:=5) (aG ak rfl) (fun K hK=>?_);have aA:=Lib.hid hS;clear hS;refine aO (aV rfl) ?_;go_simp;refine (HT.out _ (bT Bw aA.out)).mono ?_;rintro e wr2 ⟨rfl,gZ,hd2⟩;have hS:Since W wr2:=bT (w:=W) aA.out gZ;clear aA;refine hK.out _ _ hS (fun _=>?_);clear hK K
 try simp only [pu]
 refine aT (i:=6) (aG ak rfl) (fun K hK=>?_);have aA:=Lib.hid hS;clear hS;refine aO (aV rfl) ?_;go_simp;refine (HC.out _).mono ?_;rintro e wr3 ⟨rfl,tX,hd3⟩;have hS:Since W wr3:=bT (w:=W) aA.out tX;clear aA;refine hK.out _ _ hS (fun _=>?_);clear hK K
 try simp only [pu]
 apply bg;exact ak;exact rfl;exact hS;exact rfl
 · intro _ hqc;go_simp;try rfl
 try simp only [pu]
 refine bM ?_;refine aC.down _ _ ?_;have hB:Below W.heap.size W wr3:=hS;clear hS aC ak;have D3:=Lib.hid (dT (dT (dT (dD Dw.out) hd1) hd2) hd3);go_wp2_with fail;go_ret;exact ⟨rfl,bT Bw hB,D3.out⟩
open Go.RowKit Go.Sort
theorem aoI:∀ w,(isAgg 82).run Tryz.prog w=.ok true w:=fun _=>by kernel_rfl
theorem aoJ:∀ w,(Go.sizeOf 82).run Tryz.prog w=.ok 4 w:=fun _=>by kernel_rfl
open Go.RowKit Go.Sort
theorem aoK (w0:World) (base g c cap:Nat) (z:AD) (sl:List AD) (w:World) (hown:Own w base 82 4 dH (.slice (some ⟨g,0,none⟩) (sl.length+1) c) (z::sl)) (hpos:0<sl.length) (hb0:Below w0.heap.size w0 w) (hbase:w0.heap.size<=base) (hok:∀ s∈sl,oU w0 s) (hn:sl.length<=4294967296) :
  Calls Tryz.prog 60 #[.slice (some ⟨g,4,none⟩) sl.length cap,.func (.func 61) #[] #[]] w fun e w'=>e=.returned (.tuple #[])/\∃ sl':List AD,sl'.Perm sl/\sl'.Pairwise (fun a b=>ltOf (fun x y:AD=>cmpK (eU x.out) (eU y.out)) b a=false)/\Own w' base 82 4 dH (.slice (some ⟨g,0,none⟩) (sl.length+1) c) (z::sl')/\w.grownBy w' (some g):=by
 have hs0:sl[0]∈sl:=List.getElem_mem hpos;obtain ⟨hlen,hown2⟩:=hown;rcases hown2 with ⟨_,h0⟩ | ⟨g',cap',cur,hv,hg,hh,hnc,hcm,hcs,hx⟩
 · cases h0
 injection hv with e1 _ e3;injection e1 with e1;injection e1 with e1 _ _;subst e1 e3;have hnl:(z::sl).length=sl.length+1:=rfl;rw [hnl] at hnc hx hlen;have hfl:(z::sl).flatMap dH=dH z++sl.flatMap dH:=rfl;have aoL:(sl.flatMap dH).length=sl.length*4:=flat_length dH 4 uI sl
 haveI hI:Inhabited {s:AD // oU w0 s}:=⟨⟨sl[0],hok _ hs0⟩⟩
 have hdl:∃ dl:List {s:AD // oU w0 s},dl.map (·.1)=sl:=⟨sl.attachWith (fun s=>oU w0 s) hok,by simp⟩;obtain ⟨dl,hdl⟩:=hdl;have hdn:dl.length=sl.length:=by rw [<- hdl];simp
 have hfm:dl.flatMap (fun x=>dH x.1)=sl.flatMap dH:=by rw [<- hdl,List.flatMap_map]
 have hcur:∀ j,j<sl.length*4->cur[4+j]? = (sl.flatMap dH)[j]? := fun j hj=>by
  have h9:((z::sl).flatMap dH)[4+j]? = (sl.flatMap dH)[j]? := by
   rw [hfl,List.getElem?_append_right (by rw [uI];omega),uI,Nat.add_sub_cancel_left]
  rw [<- h9,<- hx,List.getElem?_take,if_pos (by omega)];simp
 have eg:∀ args w,(callFunc 61 args).run Tryz.prog w=.ok (.enter 61 args) w:=enters_of Tryz.func61 (by kernel_rfl) rfl;have hkk:∀ x:{s:AD // oU w0 s},(dH x.1).length=4:=fun _=>rfl;have hcmp:CmpLays Tryz.prog 61 #[] (fun x:{s:AD // oU w0 s}=>dH x.1) 4 (fun x y=>(fun x y:AD=>cmpK (eU x.out) (eU y.out)) x.1 y.1) g 4 dl.toArray.size w:=fun m os dk hdk x y=>by
  have hg':=EG (fun x:{s:AD // oU w0 s}=>dH x.1) 4 w g 4 m dk os;have CO:Below w0.heap.size w0 _:=bG hb0 hg' (fun q hq=>by have:=Option.some.inj hq;omega);exact (aoH x.1 y.1 _ (x.2.mono CO) (y.2.mono CO)).mono fun e w' h=>⟨h.1,NC h.2⟩
 have hsz:dl.toArray.size*4=sl.length*4:=by simp [hdn]
 have hH:HoldsK (fun x:{s:AD // oU w0 s}=>dH x.1) 4 w g 4 dl.toArray:=fun j hj=>by
  rw [size_flatK,hsz] at hj;refine ⟨?_,aj.frozen (t:=82) (cs:=cur) hh _⟩;rw [cell_of_row w g _ cur 82 (0,0) hh,hcur j hj,EH _ 4 hkk _ j (by rw [hsz];exact hj)];simp only [id];rw [hfm,List.getElem!_eq_getElem?_getD]
  have:j<(sl.flatMap dH).length:=by rw [aoL];exact hj
  rw [List.getElem?_eq_getElem this];rfl
 have hcon:=AnyQ.slices_SortFunc Tryz.sortAd 4 aoI aoJ (fun x:{s:AD // oU w0 s}=>dH x.1) hkk (fun x=>Tn x.1) (fun x y=>(fun x y:AD=>cmpK (eU x.out) (eU y.out)) x.1 y.1) (aoE fun x:{s:AD // oU w0 s}=>eU x.1.out) 61 #[] g 4 cap dl.toArray w eg hcmp hH (aj.lt hh) (by simp;omega);have hns:dl.toArray.size=sl.length:=by simp [hdn]
 rw [hns] at hcon;refine Calls.mono hcon ?_;rintro e w' ⟨rfl,d',n,os,hp,hs,rfl⟩;obtain ⟨p1,-,p3⟩:=hp;have hd':d'.size=sl.length:=by rw [p1,hns]
 have hperm:d'.toList.Perm dl:=by
  have e1:d'.extract 0 sl.length=d':=by rw [<- hd'];simp
  have e2:dl.toArray.extract 0 sl.length=dl.toArray:=by rw [<- hns];simp
  rw [e1,e2] at p3;simpa using p3
 have hg':=EG (fun x:{s:AD // oU w0 s}=>dH x.1) 4 w g 4 n d' os;refine ⟨rfl,d'.toList.map (·.1),by rw [<- hdl];exact hperm.map _,?_,?_,hg'⟩
 ·rw [List.pairwise_map,List.pairwise_iff_getElem];intro i j hi hj hij;have hj':j<d'.size:=by simpa using hj
  have:=hs i j (Nat.zero_le _) hij (by rw [<- hd'];exact hj')
  rw [getElem!_pos d' j hj',getElem!_pos d' i (by omega)] at this;exact this
 ·have hl':(d'.toList.map (·.1)).length=sl.length:=by simp [hd']
  unfold Own;have hl2:(z::d'.toList.map (·.1)).length=sl.length+1:=by rw [List.length_cons,hl']
  rw [hl2];have hfd:(d'.toList.map (·.1)).flatMap dH=d'.toList.flatMap (fun x=>dH x.1):=by rw [List.flatMap_map]
  have hln:((d'.toList.map (·.1)).flatMap dH).length=sl.length*4:=by rw [flat_length dH 4 uI,hl']
  have aac:(z::d'.toList.map (·.1)).flatMap dH=dH z++(d'.toList.map (·.1)).flatMap dH:=rfl;have af6:((z::d'.toList.map (·.1)).flatMap dH).length=(sl.length+1)*4:=by rw [aac,List.length_append,uI,hln];omega
  refine ⟨af6,.inr ⟨g,c,putCells id 4 (flatK (fun x:{s:AD // oU w0 s}=>dH x.1) 4 d') cur,rfl,hg,?_,hnc,hcm,by simp [putCells,hcs],?_⟩⟩
  ·have hgl:g<w.heap.size:=aj.lt hh;rw [JR,Array.getElem?_append_left (by simpa using hgl),Array.getElem?_modify,if_pos rfl,hh];rfl
  ·apply List.ext_getElem?;intro j;rw [List.getElem?_take];by_cases hj:j<(sl.length+1)*4
   ·rw [if_pos hj,aac,hfd];have hjc:j<cur.size:=by rw [hcs];have:=Nat.mul_le_mul_right 4 hnc;omega
    by_cases h4:j<4
    ·have e1:(putCells id 4 (flatK (fun x:{s:AD // oU w0 s}=>dH x.1) 4 d') cur).toList[j]? = cur.toList[j]? := by
      simp [putCells,hjc,show ¬ 4<=j by omega]
     rw [e1,List.getElem?_append_left (by rw [uI];exact h4)];have h9:((z::sl).flatMap dH)[j]? = (dH z)[j]? := by rw [hfl,List.getElem?_append_left (by rw [uI];exact h4)]
     rw [<- h9,<- hx,List.getElem?_take,if_pos (by omega)]
    ·obtain ⟨i,rfl⟩:∃ i,j=4+i:=⟨j-4,by omega⟩;have hjd:i<d'.size*4:=by rw [hd'];omega
     have e1:(putCells id 4 (flatK (fun x:{s:AD // oU w0 s}=>dH x.1) 4 d') cur).toList[4+i]? = some (flatK (fun x:{s:AD // oU w0 s}=>dH x.1) 4 d')[i]! := by
      simp [putCells,hjc,hjd]
     rw [e1,EH _ 4 hkk _ i hjd,List.getElem!_eq_getElem?_getD,List.getElem?_append_right (by rw [uI];omega),uI,Nat.add_sub_cancel_left]
     have:i<(d'.toList.flatMap fun x=>dH x.1).length:=by rw [<- hfd,hln];omega
     rw [List.getElem?_eq_getElem this];rfl
   · rw [if_neg hj,List.getElem?_eq_none (by rw [af6];omega)]
open Go.RowKit Go.Sort
theorem aoM:∀ w,(isAgg 62).run Tryz.prog w=.ok true w:=fun _=>by kernel_rfl
theorem aoN:∀ w,(Go.sizeOf 62).run Tryz.prog w=.ok 4 w:=fun _=>by kernel_rfl
def aoO (w:World) (base:Nat) (v:Value) (sl:List AD) (e:Ending) (w':World):Prop :=
 e=.returned (.tuple #[])/\∃ sl':List AD,sl'.Perm sl/\sl'.Pairwise (fun a b=>ltOf (fun x y:AD=>lN x.tw y.tw) b a=false)/\Own w' base 62 4 dH v sl'/\w.grownBy w' v.ownBlock
theorem aoP (base:Nat) (v:Value) (sl:List AD) (w:World) (hown:Own w base 62 4 dH v sl) (hn:sl.length<=4294967296) :
  Calls Tryz.prog 50 #[v,.func (.func 51) #[] #[]] w (aoO w base v sl):=by
 rcases sl with _ | ⟨s0,rest⟩
 ·have hv:∃ p cap,v=.slice p 0 cap:=by
   rcases hown.2 with ⟨h,_⟩ | ⟨g,cap,cur,h,_⟩
   · exact ⟨_,_,h⟩
   · exact ⟨_,_,h⟩
  obtain ⟨p,cap,rfl⟩:=hv;refine Calls.mono (AnyF.slices_SortFunc_none Tryz.sortRg p cap (.func (.func 51) #[] #[]) w) ?_;rintro e w' ⟨rfl,rfl⟩;exact ⟨rfl,[],List.Perm.refl _,List.Pairwise.nil,hown,World.grownBy.refl _ _⟩
 generalize hsl:s0::rest=sl at *;have hs0:s0∈sl:=by rw [<- hsl];simp
 have hpos:0<sl.length:=by rw [<- hsl];simp
 obtain ⟨hlen,hown2⟩:=hown;rcases hown2 with ⟨_,h0⟩ | ⟨g,cap,cur,rfl,hg,hh,hnc,hcm,hcs,hx⟩
 · omega
 haveI hI:Inhabited {s:AD // s=s}:=⟨⟨s0,rfl⟩⟩
 have hdl:∃ dl:List {s:AD // s=s},dl.map (·.1)=sl:=⟨sl.attachWith (fun s=>s=s) (fun _ _=>rfl),by simp⟩;obtain ⟨dl,hdl⟩:=hdl;have hdn:dl.length=sl.length:=by rw [<- hdl];simp
 have hfm:dl.flatMap (fun x=>dH x.1)=sl.flatMap dH:=by rw [<- hdl,List.flatMap_map]
 have hcur:∀ j,j<sl.length*4->cur[j]? = (sl.flatMap dH)[j]? := fun j hj=>by
  rw [<- hx,List.getElem?_take,if_pos hj];simp
 have eg:∀ args w,(callFunc 51 args).run Tryz.prog w=.ok (.enter 51 args) w:=enters_of Tryz.func51 (by kernel_rfl) rfl;have hkk:∀ x:{s:AD // s=s},(dH x.1).length=4:=fun _=>rfl;have hcmp:CmpLays Tryz.prog 51 #[] (fun x:{s:AD // s=s}=>dH x.1) 4 (fun x y=>(fun x y:AD=>lN x.tw y.tw) x.1 y.1) g 0 dl.toArray.size w:=fun m os dk hdk x y=>by
  have hg':=EG (fun x:{s:AD // s=s}=>dH x.1) 4 w g 0 m dk os
  exact (aoC x.1 y.1 _).mono fun e w' h=>⟨h.1,NC h.2⟩
 have hsz:dl.toArray.size*4=sl.length*4:=by simp [hdn]
 have hH:HoldsK (fun x:{s:AD // s=s}=>dH x.1) 4 w g 0 dl.toArray:=fun j hj=>by
  rw [size_flatK,hsz] at hj;refine ⟨?_,aj.frozen (t:=62) (cs:=cur) hh _⟩;rw [cell_of_row w g _ cur 62 (0,0) hh,Nat.zero_add,hcur j hj,EH _ 4 hkk _ j (by rw [hsz];exact hj)];simp only [id];rw [hfm,List.getElem!_eq_getElem?_getD]
  have:j<(sl.flatMap dH).length:=by rw [hlen];exact hj
  rw [List.getElem?_eq_getElem this];rfl
 have hcon:=AnyQ.slices_SortFunc Tryz.sortRg 4 aoM aoN (fun x:{s:AD // s=s}=>dH x.1) hkk (fun x=>Tn x.1) (fun x y=>(fun x y:AD=>lN x.tw y.tw) x.1 y.1) (Xc fun x:{s:AD // s=s}=>x.1.tw) 51 #[] g 0 cap dl.toArray w eg hcmp hH (aj.lt hh) (by simp;omega);have hns:dl.toArray.size=sl.length:=by simp [hdn]
 rw [hns] at hcon;refine Calls.mono hcon ?_;rintro e w' ⟨rfl,d',n,os,hp,hs,rfl⟩;obtain ⟨p1,-,p3⟩:=hp;have hd':d'.size=sl.length:=by rw [p1,hns]
 have hperm:d'.toList.Perm dl:=by
  have e1:d'.extract 0 sl.length=d':=by rw [<- hd'];simp
  have e2:dl.toArray.extract 0 sl.length=dl.toArray:=by rw [<- hns];simp
  rw [e1,e2] at p3;simpa using p3
 have hg':=EG (fun x:{s:AD // s=s}=>dH x.1) 4 w g 0 n d' os;refine ⟨rfl,d'.toList.map (·.1),by rw [<- hdl];exact hperm.map _,?_,?_,hg'⟩
 ·rw [List.pairwise_map,List.pairwise_iff_getElem];intro i j hi hj hij;have hj':j<d'.size:=by simpa using hj
  have:=hs i j (Nat.zero_le _) hij (by rw [<- hd'];exact hj')
  rw [getElem!_pos d' j hj',getElem!_pos d' i (by omega)] at this;exact this
 ·have hl':(d'.toList.map (·.1)).length=sl.length:=by simp [hd']
  unfold Own;rw [hl'];have hfd:(d'.toList.map (·.1)).flatMap dH=d'.toList.flatMap (fun x=>dH x.1):=by rw [List.flatMap_map]
  have hln:((d'.toList.map (·.1)).flatMap dH).length=sl.length*4:=by rw [flat_length dH 4 uI,hl']
  refine ⟨hln,.inr ⟨g,cap,putCells id 0 (flatK (fun x:{s:AD // s=s}=>dH x.1) 4 d') cur,rfl,hg,?_,hnc,hcm,by simp [putCells,hcs],?_⟩⟩
  ·have hgl:g<w.heap.size:=aj.lt hh;rw [JR,Array.getElem?_append_left (by simpa using hgl),Array.getElem?_modify,if_pos rfl,hh];rfl
  ·apply List.ext_getElem?;intro j;rw [List.getElem?_take];by_cases hj:j<sl.length*4
   ·rw [if_pos hj,hfd];have hjc:j<cur.size:=by rw [hcs];have:=Nat.mul_le_mul_right 4 hnc;omega
    have hjd:j<d'.size*4:=by rw [hd'];exact hj
    have e1:(putCells id 0 (flatK (fun x:{s:AD // s=s}=>dH x.1) 4 d') cur).toList[j]? = some (flatK (fun x:{s:AD // s=s}=>dH x.1) 4 d')[j]! := by
     simp [putCells,hjc,hjd]
    rw [e1,EH _ 4 hkk _ j hjd,List.getElem!_eq_getElem?_getD]
    have:j<(d'.toList.flatMap fun x=>dH x.1).length:=by rw [<- hfd,hln];exact hj
    rw [List.getElem?_eq_getElem this];rfl
   · rw [if_neg hj,List.getElem?_eq_none (by rw [hln];omega)]
set_option linter.unusedSectionVars false
def aad (p:Pl) (d:Int):List Pt:=if 0<d then gu p d else (gu p d).reverse
def Pn (w:World) (v:Value) (L:List (List Int×SV)):Prop:=Sl w v L.length (L.flatMap kY)/\∀ x∈L,Ints w (.slice x.2.a x.2.n x.2.c) x.1
theorem Pn.mono {w w':World} {v:Value} {L:List (List Int×SV)} (h:Pn w v L) (hb:Below w.heap.size w w'):Pn w' v L :=
 ⟨Sl.mono h.1 hb,fun x hx=>(h.2 x hx).mono hb⟩
theorem Fz.read {w:World} {B:Nat} {v:Value} {L:List (List Int×SV)} (h:Fz w B v L):Pn w v L:=⟨h.1.sl,fun x hx=>(h.2 x hx).sl⟩
theorem Row.cy {w:World} {A:Option Addr} {l:List (List Int×SV)} (h:Row w A (l.flatMap kY)) {k:Nat} (hk:k<l.length) :
  ∃ b o,A=some ⟨b,o,none⟩/\b<w.heap.size/\w.cell? ⟨b,o+k,none⟩=some (.slice l[k].2.a l[k].2.n l[k].2.c):=by
 obtain ⟨b,o,hA,hb,hc⟩:=h.at_ (n:=1) (fun _=>rfl) hk (by omega);exact ⟨b,o,hA,hb,by simpa using hc 0 _ rfl⟩
theorem lH.symm {u v:Value} (h:lH u v):lH v u:=fun g hg e=>h g e hg
theorem Lm {α:Type} {R:α->α->Prop} (hs:∀ a b,R a b->R b a) {l:List α} (h:l.Pairwise R) {i j:Nat} (hi:i<l.length) (hj:j<l.length) (hne:i≠j):R l[i] l[j]:=by
 rw [List.pairwise_iff_getElem] at h;by_cases c:i<j
 · exact h i j hi hj c
 · exact hs _ _ (h j i hj hi (by omega))
theorem vW {α:Type} {l:List α} {i:Nat} {y x:α} (h:x∈l.set i y):(x=y/\i<l.length)\/∃ j,∃ hj:j<l.length,j≠i/\x=l[j]:=by
 obtain ⟨j,hj,rfl⟩:=List.mem_iff_getElem.1 h;have hj':j<l.length:=by simpa using hj
 rw [List.getElem_set];by_cases e:i=j
 · subst e;rw [if_pos rfl];exact .inl ⟨rfl,hj'⟩
 · rw [if_neg e];exact .inr ⟨j,hj',fun h=>e h.symm,rfl⟩
theorem jP.read {e:TypeId} {w0 w:World} {B:Nat} {v:Value} {L:List AD} (h:jP e w0 w B v L) (hb:Below w0.heap.size w0 w):IG w v L:=⟨h.own.sl,fun x hx=>(h.out x hx).mono hb⟩
theorem Own.row_of {α:Type} {f:α->List Value} {w:World} {base:Nat} {e:TypeId} {size:Nat} {A:Option Addr} {n c:Nat} {l:List α} (h:Own w base e size f (.slice A n c) l):Row w A (l.flatMap f):=by
 obtain ⟨A',c',he,-,-,hr⟩:=h.sl;injection he with e1 e2 e3;subst e1;exact hr
theorem Own.FN {e:TypeId} {w:World} {B:Nat} {A:Option Addr} {n c:Nat} {L:List AD} (h:Own w B e 4 dH (.slice A n c) L) (hl:0<L.length):∃ g,A=some ⟨g,0,none⟩/\B<=g/\g<w.heap.size/\(∀ j,w.frozen? ⟨g,j,none⟩=false) /\
  ∀ k (hk:k<L.length),w.cell? ⟨g,k*4,none⟩=some (.int .i64 L[k].tw)/\w.cell? ⟨g,k*4+1,none⟩=some (aH L[k].ov)/\w.cell? ⟨g,k*4+2,none⟩=some (aH L[k].iv)/\w.cell? ⟨g,k*4+3,none⟩=some (aH L[k].av):=by
 have hr:=h.row_of;rcases h.2 with ⟨_,h0⟩ | ⟨g,cap,cur,hv,hg,hh,-⟩
 · omega
 ·injection hv with e1 e2 e3;subst e1;refine ⟨g,rfl,hg,aj.lt hh,fun j=>aj.frozen hh j,fun k hk=>?_⟩;obtain ⟨b,o,iH,-,c0,c1,c2,c3⟩:=hr.ad hk;injection iH with iH;injection iH with y1 y2 _;subst y1 y2;simp only [Nat.zero_add] at c0 c1 c2 c3;exact ⟨c0,c1,c2,c3⟩
structure uK (w:World) (v:Value) (L:List AD):Prop where
 sl:Sl w v L.length (L.flatMap dH)
 out:∀ x∈L,Ints w (aH x.ov) x.out
 inn:∀ x∈L,Sl w (aH x.iv) x.inn.length (x.inn.flatMap kY)
 iJ:∀ x∈L,∀ c∈x.inn,Ints w (aH c.2) c.1
 bn:∀ x∈L,Ints w (aH x.av) x.bn
theorem uK.mono {w w':World} {v:Value} {L:List AD} (h:uK w v L) (hb:Below w.heap.size w w'):uK w' v L :=
 ⟨h.sl.mono hb,fun x hx=>(h.out x hx).mono hb,fun x hx=>(h.inn x hx).mono hb,fun x hx c hc=>(h.iJ x hx c hc).mono hb,fun x hx=>(h.bn x hx).mono hb⟩
theorem uK.read {w:World} {v:Value} {L:List AD} (h:uK w v L):IG w v L:=⟨h.sl,h.out⟩
theorem jP.full {e:TypeId} {w0 w:World} {B:Nat} {v:Value} {L:List AD} (h:jP e w0 w B v L) (hb:Below w0.heap.size w0 w):uK w v L :=
 ⟨h.own.sl,fun x hx=>(h.out x hx).mono hb,fun x hx=>(h.inn x hx).sl,fun x hx c hc=>(h.iJ x hx c hc).mono hb,fun x hx=>(h.bn x hx).sl⟩
theorem jP.more {e:TypeId} (he:e≠24/\e≠3) {w0 w w1:World} {B:Nat} {v v':Value} {L:List AD} (h:jP e w0 w B v L) {x:AD} (ho:Own w1 B e 4 dH v' (L++[x])) (hg:w.grownBy w1 v.ownBlock)
  (hx:Ints w0 (aH x.ov) x.out) (h1:x.inn=[]) (h2:x.iv=sv0) (h3:x.bn=[]) (h4:x.av=sv0):jP e w0 w1 B v' (L++[x]):=by
 have s0:∀ u,lH u (aH sv0):=fun u g _ e=>by cases e
 refine ⟨ho,fun y hy=>?_,fun y hy=>?_,fun y hy=>?_,fun y hy=>?_,?_,?_⟩
 ·rcases List.mem_append.1 hy with hy | hy
  · exact h.out y hy
  · rw [List.mem_singleton] at hy;subst hy;exact hx
 ·rcases List.mem_append.1 hy with hy | hy
  · exact Own.grown (h.inn y hy) hg (fun g hg'=>Own.apart (h.inn y hy) h.own he.1.symm g hg')
  ·rw [List.mem_singleton] at hy;subst hy;rw [h1,h2];exact Own.nil _ _ _ _ _
 ·rcases List.mem_append.1 hy with hy | hy
  · exact h.iJ y hy
  ·rw [List.mem_singleton] at hy;subst hy;rw [h1];intro c hc;cases hc
 ·rcases List.mem_append.1 hy with hy | hy
  · exact Own.grown (h.bn y hy) hg (fun g hg'=>Own.apart (h.bn y hy) h.own he.2.symm g hg')
  ·rw [List.mem_singleton] at hy;subst hy;rw [h3,h4];exact Own.nil _ _ _ _ _
 ·rw [List.pairwise_append];refine ⟨h.Iz,List.pairwise_singleton _ _,fun a _ b hb=>?_⟩;rw [List.mem_singleton] at hb;subst hb;rw [h2];exact s0 _
 ·rw [List.pairwise_append];refine ⟨h.IB,List.pairwise_singleton _ _,fun a _ b hb=>?_⟩;rw [List.mem_singleton] at hb;subst hb;rw [h4];exact s0 _
theorem jP.aoQ {e:TypeId} (he:e≠24/\e≠3) {w0 w w1:World} {B B':Nat} {v u:Value} {L:List AD} {R:List (List Int×SV)} (h:jP e w0 w B v L) (hg:w.grownBy w1 u.ownBlock) (hu:Own w B' 24 1 kY u R) (hz:∀ x∈L,x.iv=sv0):jP e w0 w1 B v L:=by
 refine ⟨Own.grown h.own hg (fun g hg'=>Own.apart h.own hu he.1 g hg'),h.out,fun x hx=>?_,h.iJ,fun x hx=>Own.grown (h.bn x hx) hg (fun g hg'=>Own.apart (h.bn x hx) hu (by decide) g hg'),h.Iz,h.IB⟩;refine Own.grown (h.inn x hx) hg (fun g hg'=>?_);rw [hz x hx] at hg'
 cases hg'
theorem jP.aoR {e:TypeId} (he:e≠24/\e≠3) {w0 w w1:World} {B g n cc:Nat} {L:List AD} (h:jP e w0 w B (.slice (some ⟨g,0,none⟩) n cc) L) {i:Nat} (hi:i<L.length) {yJ:SV} {c:List Int×SV}
  (ho:Own w1 B 24 1 kY (aH yJ) (L[i].inn++[c])) (hg:w.grownBy w1 (aH L[i].iv).ownBlock) (hat:(aH yJ).ownBlock=(aH L[i].iv).ownBlock\/(aH yJ).ownBlock=some w.heap.size) (hc:Ints w0 (aH c.2) c.1) :
  jP e w0 (w1.setCell ⟨g,i*4+2,none⟩ (aH yJ)) B (.slice (some ⟨g,0,none⟩) n cc) (L.set i {L[i] with inn:=L[i].inn++[c],iv:=yJ}):=by
 have hgv:(Value.slice (some ⟨g,0,none⟩) n cc).ownBlock=some g:=rfl;have hm:=List.getElem_mem hi;have Po:Own w1 B e 4 dH (.slice (some ⟨g,0,none⟩) n cc) L:=Own.grown h.own hg (fun g' hg'=>Own.apart h.own (h.inn _ hm) he.1 g' hg');have I7:∀ {b:Nat} {e9:TypeId} {s:Nat} {α:Type} {f:α->List Value} {v:Value} {l:List α},Own w1 b e9 s f v l->e9≠e->Own (w1.setCell ⟨g,i*4+2,none⟩ (aH yJ)) b e9 s f v l:=fun h9 hne=>Own.far h9 (fun e8=>Own.apart h9 Po hne g e8 hgv.symm) _;have sep1:∀ j (hj:j<L.length),j≠i->lH (aH L[j].iv) (aH yJ):=fun j hj hji g' hg' e=>by
  rcases hat with h9 | h9
  ·rw [h9] at e;exact Lm (fun a b=>lH.symm) h.Iz hj hi hji g' hg' e
  ·rw [h9] at e;have:=((h.inn _ (List.getElem_mem hj)).lt g' hg').2
   have:=Option.some.inj e
   omega
 refine ⟨Own.KH uI Po hi (by omega) _ _ rfl,fun x hx=>?_,fun x hx=>?_,fun x hx=>?_,fun x hx=>?_,?_,?_⟩
 ·rcases vW hx with ⟨rfl,_⟩ | ⟨j,hj,_,rfl⟩
  · exact h.out L[i] hm
  · exact h.out _ (List.getElem_mem hj)
 ·rcases vW hx with ⟨rfl,_⟩ | ⟨j,hj,hji,rfl⟩
  · exact I7 ho he.1.symm
  · exact I7 (Own.grown (h.inn _ (List.getElem_mem hj)) hg (fun g' hg' e=>Lm (fun a b=>lH.symm) h.Iz hj hi hji g' hg' e.symm)) he.1.symm
 ·rcases vW hx with ⟨rfl,_⟩ | ⟨j,hj,_,rfl⟩
  ·intro d hd;rcases List.mem_append.1 hd with hd | hd
   · exact h.iJ L[i] hm d hd
   · rw [List.mem_singleton] at hd;subst hd;exact hc
  · exact h.iJ _ (List.getElem_mem hj)
 ·have:∀ y∈L,Own (w1.setCell ⟨g,i*4+2,none⟩ (aH yJ)) B 3 1 dO (aH y.av) y.bn:=fun y hy=>I7 (Own.grown (h.bn y hy) hg (fun g' hg'=>Own.apart (h.bn y hy) (h.inn _ hm) (by decide) g' hg')) he.2.symm
  rcases vW hx with ⟨rfl,_⟩ | ⟨j,hj,_,rfl⟩
  · exact this L[i] hm
  · exact this _ (List.getElem_mem hj)
 ·rw [List.pairwise_iff_getElem];intro a b ha hb hab;simp only [List.length_set] at ha hb;rw [List.getElem_set,List.getElem_set];by_cases e1:i=a
  ·subst e1;rw [if_pos rfl,if_neg (by omega)];exact (sep1 b hb (by omega)).symm
  ·rw [if_neg e1];by_cases e2:i=b
   ·subst e2;rw [if_pos rfl];exact sep1 a ha (by omega)
   ·rw [if_neg e2];exact Lm (fun a b=>lH.symm) h.Iz ha hb (by omega)
 ·have e:(L.set i {L[i] with inn:=L[i].inn++[c],iv:=yJ}).map (·.av)=L.map (·.av):=by
   apply List.ext_getElem (by simp);intro j h1 h2;rw [List.getElem_map,List.getElem_map,List.getElem_set];split
   · rename_i e;subst e;rfl
   · rfl
  have hp:(L.map (·.av)).Pairwise (fun x y=>lH (aH x) (aH y)):=List.pairwise_map.2 h.IB;rw [<- e] at hp;exact (List.pairwise_map (f:=fun x:AD=>x.av) (R:=fun x y=>lH (aH x) (aH y))).1 hp
theorem jP.aae {e:TypeId} (he:e≠24/\e≠3) {w0 w w1:World} {B g n cc:Nat} {L:List AD} (h:jP e w0 w B (.slice (some ⟨g,0,none⟩) n cc) L) {i:Nat} (hi:i<L.length) {vI:SV} {c:Int}
  (ho:Own w1 B 3 1 dO (aH vI) (L[i].bn++[c])) (hg:w.grownBy w1 (aH L[i].av).ownBlock) (hat:(aH vI).ownBlock=(aH L[i].av).ownBlock\/(aH vI).ownBlock=some w.heap.size) :
  jP e w0 (w1.setCell ⟨g,i*4+3,none⟩ (aH vI)) B (.slice (some ⟨g,0,none⟩) n cc) (L.set i {L[i] with bn:=L[i].bn++[c],av:=vI}):=by
 have hgv:(Value.slice (some ⟨g,0,none⟩) n cc).ownBlock=some g:=rfl;have hm:=List.getElem_mem hi;have Po:Own w1 B e 4 dH (.slice (some ⟨g,0,none⟩) n cc) L:=Own.grown h.own hg (fun g' hg'=>Own.apart h.own (h.bn _ hm) he.2 g' hg');have I7:∀ {b:Nat} {e9:TypeId} {s:Nat} {α:Type} {f:α->List Value} {v:Value} {l:List α},Own w1 b e9 s f v l->e9≠e->Own (w1.setCell ⟨g,i*4+3,none⟩ (aH vI)) b e9 s f v l:=fun h9 hne=>Own.far h9 (fun e8=>Own.apart h9 Po hne g e8 hgv.symm) _;have sep1:∀ j (hj:j<L.length),j≠i->lH (aH L[j].av) (aH vI):=fun j hj hji g' hg' e=>by
  rcases hat with h9 | h9
  ·rw [h9] at e;exact Lm (fun a b=>lH.symm) h.IB hj hi hji g' hg' e
  ·rw [h9] at e;have:=((h.bn _ (List.getElem_mem hj)).lt g' hg').2
   have:=Option.some.inj e
   omega
 refine ⟨Own.KH uI Po hi (by omega) _ _ rfl,fun x hx=>?_,fun x hx=>?_,fun x hx=>?_,fun x hx=>?_,?_,?_⟩
 ·rcases vW hx with ⟨rfl,_⟩ | ⟨j,hj,_,rfl⟩
  · exact h.out L[i] hm
  · exact h.out _ (List.getElem_mem hj)
 ·have:∀ y∈L,Own (w1.setCell ⟨g,i*4+3,none⟩ (aH vI)) B 24 1 kY (aH y.iv) y.inn:=fun y hy=>I7 (Own.grown (h.inn y hy) hg (fun g' hg'=>Own.apart (h.inn y hy) (h.bn _ hm) (by decide) g' hg')) he.1.symm
  rcases vW hx with ⟨rfl,_⟩ | ⟨j,hj,hji,rfl⟩
  · exact this L[i] hm
  · exact this _ (List.getElem_mem hj)
 ·rcases vW hx with ⟨rfl,_⟩ | ⟨j,hj,_,rfl⟩
  · exact h.iJ L[i] hm
  · exact h.iJ _ (List.getElem_mem hj)
 ·rcases vW hx with ⟨rfl,_⟩ | ⟨j,hj,hji,rfl⟩
  · exact I7 ho he.2.symm
  · exact I7 (Own.grown (h.bn _ (List.getElem_mem hj)) hg (fun g' hg' e=>Lm (fun a b=>lH.symm) h.IB hj hi hji g' hg' e.symm)) he.2.symm
 ·have e:(L.set i {L[i] with bn:=L[i].bn++[c],av:=vI}).map (·.iv)=L.map (·.iv):=by
   apply List.ext_getElem (by simp);intro j h1 h2;rw [List.getElem_map,List.getElem_map,List.getElem_set];split
   · rename_i e;subst e;rfl
   · rfl
  have hp:(L.map (·.iv)).Pairwise (fun x y=>lH (aH x) (aH y)):=List.pairwise_map.2 h.Iz;rw [<- e] at hp;exact (List.pairwise_map (f:=fun x:AD=>x.iv) (R:=fun x y=>lH (aH x) (aH y))).1 hp
 ·rw [List.pairwise_iff_getElem];intro a b ha hb hab;simp only [List.length_set] at ha hb;rw [List.getElem_set,List.getElem_set];by_cases e1:i=a
  ·subst e1;rw [if_pos rfl,if_neg (by omega)];exact (sep1 b hb (by omega)).symm
  ·rw [if_neg e1];by_cases e2:i=b
   ·subst e2;rw [if_pos rfl];exact sep1 a ha (by omega)
   ·rw [if_neg e2];exact Lm (fun a b=>lH.symm) h.IB ha hb (by omega)
end Go.Proofs.YtialfdomhoojiaaGreat
