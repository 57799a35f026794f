import Derived.Test.YtialfdomhoojiaaGreatJ18
import Derived.Test.YtialfdomhoojiaaGreatJ09
import Derived.Test.YtialfdomhoojiaaGreatJ12
import Derived.Test.YtialfdomhoojiaaGreatJ15
import Derived.Test.YtialfdomhoojiaaGreatJ14
import Derived.Test.YtialfdomhoojiaaGreatJ17
import Derived.Test.YtialfdomhoojiaaGreatJ13
import Derived.Test.YtialfdomhoojiaaGreatJ08
set_option linter.unusedSimpArgs false
set_option linter.unusedVariables false
namespace Go.Proofs.YtialfdomhoojiaaGreat
open Go.RowKit
def IG (w:World) (v:Value) (L:List AD):Prop:=Sl w v L.length (L.flatMap dH)/\∀ x∈L,Ints w (aH x.ov) x.out
theorem IG.mono {w w':World} {v:Value} {L:List AD} (h:IG w v L) (hb:Below w.heap.size w w'):IG w' v L:=⟨h.1.mono hb,fun x hx=>(h.2 x hx).mono hb⟩
theorem Row.ad {w:World} {A:Option Addr} {l:List AD} (h:Row w A (l.flatMap dH)) {k:Nat} (hk:k<l.length) :
  ∃ b o,A=some ⟨b,o,none⟩/\b<w.heap.size/\w.cell? ⟨b,o+k*4,none⟩=some (.int .i64 l[k].tw)/\w.cell? ⟨b,o+k*4+1,none⟩=some (aH l[k].ov)/\w.cell? ⟨b,o+k*4+2,none⟩=some (aH l[k].iv)/\w.cell? ⟨b,o+k*4+3,none⟩=some (aH l[k].av):=by
 obtain ⟨b,o,hA,hb,hc⟩:=h.at_ (n:=4) (fun _=>rfl) hk (by omega);exact ⟨b,o,hA,hb,hc 0 _ rfl,hc 1 _ rfl,hc 2 _ rfl,hc 3 _ rfl⟩
def Dy (p:Pl) (v:Pt) (L:List AD) (k b:Nat):Prop :=
 (b=0/\kW (fun x:AD=>encS p x.out v) (·.tw) (L.tail.take k)=none)\/∃ hb:b<L.length,1<=b/\b<=k/\kW (fun x:AD=>encS p x.out v) (·.tw) (L.tail.take k)=some L[b]
theorem Zl {L:List AD} {k:Nat} (hk:k+1<L.length):L.tail.take (k+1)=L.tail.take k++[L[k+1]]:=by
 cases L with
 | nil=>cases hk
 | cons a L=>simp only [List.tail_cons,List.getElem_cons_succ];exact List.take_succ_eq_append_getElem (by simpa using hk)
theorem anS (p:Pl) (v:Pt) (L:List AD):Dy p v L 0 0:=.inl ⟨rfl,by rw [List.take_zero];rfl⟩
theorem afk {p:Pl} {v:Pt} {L:List AD} {k b:Nat} (h:Dy p v L k b) (hk:k+1<L.length) (hE:encS p L[k+1].out v=true) (hlt:b=0\/∃ hb:b<L.length,L[k+1].tw<L[b].tw):Dy p v L (k+1) (k+1):=by
 refine .inr ⟨hk,by omega,Nat.le_refl _,?_⟩;rw [Zl hk,EX];unfold zB;rcases h with ⟨rfl,e⟩ | ⟨hb,h1,h2,e⟩
 · rw [e];simp [hE]
 ·rw [e];rcases hlt with g | ⟨_,g⟩
  · omega
  · simp [hE,g]
theorem Zm {p:Pl} {v:Pt} {L:List AD} {k b:Nat} (h:Dy p v L k b) (hk:k+1<L.length) (hno:encS p L[k+1].out v=false\/(b≠0/\∃ hb:b<L.length,¬ L[k+1].tw<L[b].tw)):Dy p v L (k+1) b:=by
 rcases h with ⟨rfl,e⟩ | ⟨hb,h1,h2,e⟩
 ·refine .inl ⟨rfl,?_⟩;rw [Zl hk,EX,e];rcases hno with g | ⟨g,-⟩
  · unfold zB;simp [g]
  · exact absurd rfl g
 ·refine .inr ⟨hb,h1,by omega,?_⟩;rw [Zl hk,EX,e];unfold zB;rcases hno with g | ⟨-,_,g⟩
  · simp [g]
  · simp [g]
set_option maxRecDepth 100000 in
set_option maxHeartbeats 8000000 in
theorem afl (w:World) (gm:Nat) (p:Pl) (f:Int->SV) (hpm:qQ w gm p f) (hv:Valid p) (vl:Value) (L:List AD) (hL:IG w vl L) (hd:∀ x∈L,∀ d∈x.out,d∈aQ p) (hl:L.length<=1000) (v:Pt) (nv:aW v=true) :
  Calls Tryz.prog 70 #[.map (some gm),vl,aZ v] w fun e w'=>(∃ b:Nat,e=.returned (.int .i64 b)/\Dy p v L (L.length-1) b)/\Below w.heap.size w w':=by
 have Dz:=Lib.hid (fun k (hk:k<L.length) W (hW:Below w.heap.size w W)=>anR W gm p f (hpm.keep hW) hv _ L[k].out ((hL.2 _ (List.getElem_mem hk)).mono hW) (hd _ (List.getElem_mem hk)) v nv);obtain ⟨⟨Al,cl,rfl,hc1,hc2,hR⟩,-⟩:=hL;unfold maxLen at hc2;have HR:=Lib.hid hR;unfold aZ at Dz ⊢;clear hR hpm hv hd nv;go_enter Tryz.func70,Tryz.ntmps70;go_upto_block 0 with fail;obtain ⟨W1,hW⟩:∃ W1:World,W1=w.alloc (.cells #[.int .i64 v.x,.int .i64 v.y] 39):=⟨_,rfl⟩;have HB1:=Lib.hid (show Below w.heap.size w W1 by rw [hW];exact bA (bR w) _);have eH:=Lib.hid (show aj W1 w.heap.size 39 #[.int .i64 v.x,.int .i64 v.y] by rw [hW];exact aj.made rfl _ _);rw [<- hW];clear hW;go_wp2_with fail;go_loopw [7,8] (fun s i wr=>∃ k b:Nat,(k+1<=L.length\/k=0)/\i=.int .i64 ((k:Int)+1)/\s=.int .i64 b/\Dy p v L k b/\Below W1.heap.size W1 wr) (fun _ i _=>L.length-(intOf i).toNat)
 case atStart => exact ⟨0,0,.inr rfl,rfl,rfl,anS p v L,bR W1⟩
 case round =>
  obtain ⟨k,b,hk,rfl,rfl,hbx,hb⟩:=hrel;have lZ:=Lib.hid hbx;have Hb:=Lib.hid (bT HB1.out hb);have iD:=Lib.hid hb;have X5:=eH.out.keep hb;clear hb;by_cases hlt:k+1<L.length
  ·obtain ⟨bq,oq,rfl,hlb,c0,c1,-,-⟩:=(HR.out.mono Hb.out).ad hlt;have HE:=Lib.hid (Dz.out (k+1) hlt);obtain ⟨E,hE⟩:∃ E,encS p L[k+1].out v=E:=⟨_,rfl⟩;rw [hE] at HE;have Tq:=Lib.hid hE;clear hE;have k1:IntKind.i64.wrap ((k:Int)+1)=(k:Int)+1:=IntWalk.i64_in _ (by omega);have k2:(k:Int)+1<L.length:=by omega
   have k3:0<=(k:Int)+1:=by omega
   have KX:=Lib.hid (show ∀ t,L[k+1].tw=t->∀ b':Nat,b=b'->True from fun _ _ _ _=>trivial);clear KX;rcases lZ.out with ⟨hb0,-⟩ | ⟨hbl,hb1,hb2,-⟩
   ·subst hb0;have hyes:=Lib.hid (fun h=>afk lZ.out hlt (Tq.out.trans h) (.inl rfl));have hnot:=Lib.hid (fun h=>Zm lZ.out hlt (.inl (Tq.out.trans h)));generalize L[k+1].tw=t at *;generalize L[k+1].ov=sv at *;obtain ⟨sa,sn,sc⟩:=sv;unfold aH at c1 HE;obtain ⟨dF,dG,dI,-,-⟩:=X5.bI;go_upto_region 5 with fail;refine bZ (Since wr) (.run 23 0 0 (.call 23 16777215 (.take 24 33554431 (.done)))) (by kernel_rfl) (bD (bR _)) (by kernel_rfl) (by kernel_rfl) (Nat.le_of_ble_eq_true (by kernel_rfl)) ?_;intro cO QR ak aC hS
    iterate 3
     apply bg;exact ak;exact rfl;exact hS;exact rfl
     · intro _ hqc;go_simp;try rfl
     try simp only [pu]
    iterate 11
     refine qH ak rfl hS rfl rfl rfl rfl rfl ?_
     try simp only [pu]
    iterate 2
     apply bg;exact ak;exact rfl;exact hS;exact rfl
     · intro _ hqc;go_simp;try rfl
     try simp only [pu]
    iterate 7
     apply dY;exact ak;exact rfl;exact hS;iterate 4 exact rfl
     · intro _ hqc;go_simp;try rfl
     try simp only [pu]
    refine aT (i:=23) (aG ak rfl) (fun K hK=>?_);have aA:=Lib.hid hS;clear hS;refine aO (mF rfl (aG ak rfl) rfl rfl) ?_;go_simp;refine (HE.out _ (bT Hb.out aA.out)).mono ?_;rintro e bH ⟨rfl,bJ⟩;have hS:Since wr bH:=bT (w:=wr) aA.out bJ;clear aA;refine hK.out _ _ hS (fun _=>?_);clear hK K
    try simp only [pu]
    apply bg;exact ak;exact rfl;exact hS;exact rfl
    · intro _ hqc;go_simp;try rfl
    try simp only [pu]
    refine bM ?_;refine aC.down _ _ ?_;have hB:Below wr.heap.size wr bH:=hS;clear hS aC ak;have dK:=Lib.hid (bT iD.out hB);clear hB c0 c1 X5 dF dG dI
    cases E
    ·go_wp2_with fail;go_roundw
     case rel => exact ⟨k+1,0,.inl (by omega),by go_num,rfl,hnot.out rfl,dK.out⟩
     case measure => simp [intOf];omega
    ·go_wp2_with fail;go_roundw
     case rel => exact ⟨k+1,k+1,.inl (by omega),by go_num,by go_num,hyes.out rfl,dK.out⟩
     case measure => simp [intOf];omega
   ·obtain ⟨bq',Zn,hA',-,e0,-,-,-⟩:=(HR.out.mono Hb.out).ad hbl;injection hA' with hA';injection hA' with y1 y2 _;subst y1 y2;have k4:IntKind.i64.wrap (b:Int)=b:=IntWalk.i64_in _ (by omega);have k5:(b:Int)<L.length:=by omega
    have k6:0<=(b:Int):=by omega
    have kb:((b:Int) == 0)=false:=by simp;omega
    have hyes:=Lib.hid (fun h g=>afk lZ.out hlt (Tq.out.trans h) (.inr ⟨hbl,g⟩));have hnot:=Lib.hid (fun h=>Zm lZ.out hlt (.inl (Tq.out.trans h)));have anT:=Lib.hid (fun g=>Zm lZ.out hlt (.inr ⟨by omega,hbl,g⟩));generalize L[b].tw=tb at *;generalize L[k+1].tw=t at *;generalize L[k+1].ov=sv at *;obtain ⟨sa,sn,sc⟩:=sv;unfold aH at c1 HE
    try clear dF
    try clear dG
    try clear dI
    obtain ⟨dF,dG,dI,-,-⟩:=X5.bI;by_cases hlt2:t<tb
    ·go_upto_region 5 with fail;refine bZ (Since wr) (.run 23 0 0 (.call 23 16777215 (.take 24 33554431 (.done)))) (by kernel_rfl) (bD (bR _)) (by kernel_rfl) (by kernel_rfl) (Nat.le_of_ble_eq_true (by kernel_rfl)) ?_;intro cO QR ak aC hS
     iterate 3
      apply bg;exact ak;exact rfl;exact hS;exact rfl
      · intro _ hqc;go_simp;try rfl
      try simp only [pu]
     iterate 11
      apply dY;exact ak;exact rfl;exact hS;iterate 4 exact rfl
      · intro _ hqc;go_simp;try rfl
      try simp only [pu]
     iterate 2
      apply bg;exact ak;exact rfl;exact hS;exact rfl
      · intro _ hqc;go_simp;try rfl
      try simp only [pu]
     iterate 7
      apply dY;exact ak;exact rfl;exact hS;iterate 4 exact rfl
      · intro _ hqc;go_simp;try rfl
      try simp only [pu]
     refine aT (i:=23) (aG ak rfl) (fun K hK=>?_);have aA:=Lib.hid hS;clear hS;refine aO (mF rfl (aG ak rfl) rfl rfl) ?_;go_simp;refine (HE.out _ (bT Hb.out aA.out)).mono ?_;rintro e bH ⟨rfl,bJ⟩;have hS:Since wr bH:=bT (w:=wr) aA.out bJ;clear aA;refine hK.out _ _ hS (fun _=>?_);clear hK K
     try simp only [pu]
     apply bg;exact ak;exact rfl;exact hS;exact rfl
     · intro _ hqc;go_simp;try rfl
     try simp only [pu]
     refine bM ?_;refine aC.down _ _ ?_;have hB:Below wr.heap.size wr bH:=hS;clear hS aC ak;have dK:=Lib.hid (bT iD.out hB);clear hB c0 c1 e0 X5 dF dG dI
     cases E
     ·go_wp2_with fail;go_roundw
      case rel => exact ⟨k+1,b,.inl (by omega),by go_num,rfl,hnot.out rfl,dK.out⟩
      case measure => simp [intOf];omega
     ·go_wp2_with fail;go_roundw
      case rel => exact ⟨k+1,k+1,.inl (by omega),by go_num,by go_num,hyes.out rfl hlt2,dK.out⟩
      case measure => simp [intOf];omega
    ·go_upto_region 5 with fail;refine bZ (Since wr) (.run 25 0 0 (.done)) (by kernel_rfl) (bD (bR _)) (by kernel_rfl) (by kernel_rfl) (Nat.le_of_ble_eq_true (by kernel_rfl)) ?_;intro cO QR ak aC hS
     iterate 3
      apply bg;exact ak;exact rfl;exact hS;exact rfl
      · intro _ hqc;go_simp;try rfl
      try simp only [pu]
     iterate 11
      apply dY;exact ak;exact rfl;exact hS;iterate 4 exact rfl
      · intro _ hqc;go_simp;try rfl
      try simp only [pu]
     iterate 2
      apply bg;exact ak;exact rfl;exact hS;exact rfl
      · intro _ hqc;go_simp;try rfl
      try simp only [pu]
     iterate 8
      refine qH ak rfl hS rfl rfl rfl rfl rfl ?_
      try simp only [pu]
     apply bg;exact ak;exact rfl;exact hS;exact rfl
     · intro _ hqc;go_simp;try rfl
     try simp only [pu]
     refine bM ?_;refine aC.down _ _ ?_;have hB:Below wr.heap.size wr wr.drew:=hS;clear hS aC ak;have dK:=Lib.hid (bT iD.out hB);clear hB c0 c1 e0 X5 dF dG dI;go_wp2_with fail;go_roundw
     case rel => exact ⟨k+1,b,.inl (by omega),by go_num,rfl,anT.out hlt2,dK.out⟩
     case measure => simp [intOf];omega
  ·have hkl:L.length-1=k:=by omega
   have HF:=Lib.hid hkl;clear hkl X5;go_wp2_with fail;go_ret;exact ⟨⟨b,rfl,by rw [HF.out];exact lZ.out⟩,Hb.out⟩
set_option linter.unusedSectionVars false
section
variable {p:Pl} (h:Valid p)
include h
theorem Valid.Zo:(aQ p).length<=512:=by
 have hl:=h.lim;unfold nN at hl;simp only [Bool.or_eq_false_iff,decide_eq_false_iff_not] at hl;have h2:=hl.2;unfold aQ;rw [List.length_append,List.length_reverse,List.length_map,List.length_map];omega
theorem Valid.anU {X:List Int} (hX:X∈aY p):CW p X=eY p X:=by
 obtain ⟨h1,h2⟩:=h.kK hX;have hl:=CQ h1 h2;have h3:=h.Zo;unfold CW;rw [if_pos ⟨by omega,fun d hd=>h.adE (h2 d hd)⟩,ame p X X.length (Nat.le_refl _),List.take_length];rfl
end
set_option linter.unusedSectionVars false
theorem anV {α β:Type} (f:α->β) (E:β->Bool) (t:β->Int) (l:List α):kW E t (l.map f)=(kW (fun x=>E (f x)) (fun x=>t (f x)) l).map f:=by
 induction l using YA with
 | h0=>rfl
 | h1 l x ih =>
  rw [List.map_append,List.map_cons,List.map_nil,EX,EX,ih];unfold zB
  cases kW (fun x=>E (f x)) (fun x=>t (f x)) l<;>simp only [Option.map]<;>split<;>rfl
theorem afm {α:Type} {E E':α->Bool} {t t':α->Int} {l:List α} (h:∀ x∈l,E x=E' x/\t x=t' x):kW E t l=kW E' t' l:=by
 induction l using YA with
 | h0=>rfl
 | h1 l x ih =>
  have ih:=ih fun y hy=>h y (List.mem_append_left _ hy);rw [EX,EX,ih];obtain ⟨e1,e2⟩:=h x (List.mem_append_right _ List.mem_cons_self);unfold zB
  cases hb:kW E' t' l with
  | none=>simp only [e1]
  | some y =>
   have hy:=(Ie E' t' hb).1;have e3:=(h y (List.mem_append_left _ hy)).2;simp only [e1,e2,e3]
def qA (O:List (List Int)) (i:Nat):Option (List Int):=if i=0 then none else O[i-1]?
theorem afn {O:List (List Int)} (hn:O.Nodup) {i j:Nat} (hi:i<=O.length) (hj:j<=O.length) (e:qA O i=qA O j):i=j:=by
 unfold qA at e;by_cases h1:i=0
 ·by_cases h2:j=0
  · omega
  · rw [if_pos h1,if_neg h2,List.getElem?_eq_getElem (by omega)] at e;cases e
 ·by_cases h2:j=0
  · rw [if_neg h1,if_pos h2,List.getElem?_eq_getElem (by omega)] at e;cases e
  ·rw [if_neg h1,if_neg h2,List.getElem?_eq_getElem (by omega),List.getElem?_eq_getElem (by omega)] at e;injection e with e;unfold List.Nodup at hn;rw [List.pairwise_iff_getElem] at hn;rcases Nat.lt_trichotomy i j with g | g | g
   · exact absurd e (hn (i-1) (j-1) (by omega) (by omega) (by omega))
   · exact g
   · exact absurd e.symm (hn (j-1) (i-1) (by omega) (by omega) (by omega))
theorem DC {O:List (List Int)} {i:Nat} (h0:1<=i) (hi:i<=O.length):qA O i=some (O[i-1]'(by omega)):=by
 unfold qA;rw [if_neg (by omega),List.getElem?_eq_getElem (by omega)]
def uJ (p:Pl) (L:List AD):Prop:=∀ i (hi:i<L.length),1<=i->L[i].tw=eY p L[i].out
theorem uJ.set {p:Pl} {L:List AD} (h:uJ p L) {b:Nat} {y:AD} (hb:b<L.length) (h1:y.tw=L[b].tw) (h2:y.out=L[b].out):uJ p (L.set b y):=by
 intro i hi hi1;simp only [List.length_set] at hi;rw [List.getElem_set];split
 · rename_i e;subst e;rw [h1,h2];exact h b hb hi1
 · exact h i hi hi1
theorem uJ.more {p:Pl} {L:List AD} (h:uJ p L) {x:AD} (h1:x.tw=eY p x.out):uJ p (L++[x]):=by
 intro i hi hi1;by_cases e:i<L.length
 · rw [List.getElem_append_left e];exact h i e hi1
 ·have:i=L.length:=by simp at hi;omega
  subst this;simpa using h1
theorem uJ.one (p:Pl) (x:AD):uJ p [x]:=fun i hi hi1=>by simp at hi;omega
structure jf (p:Pl) (L:List AD) (O R:List (List Int)) (N:List Nd):Prop where
 out:L.map (·.out)=[]::O
 inn:∀ i (hi:i<L.length),L[i].inn.map (·.1)=R.filter (fun c=>decide (iK p (oO p c)=qA O i))
 bn:∀ i (hi:i<L.length),L[i].bn=(N.filter (fun n=>decide (iM p.ah n.id=0/\iK p n.pt=qA O i))).map (·.id)
section
variable {p:Pl} {L:List AD} {O R:List (List Int)} {N:List Nd} (h:jf p L O R N)
include h
theorem jf.len:L.length=O.length+1:=by
 have:=congrArg List.length h.out
 simpa using this
theorem jf.KY {i:Nat} (hi:i<L.length) (h1:1<=i):L[i].out=O[i-1]'(by have:=h.len;omega):=by
 have e:(L.map (·.out))[i]'(by simpa using hi)=L[i].out:=by rw [List.getElem_map]
 rw [<- e];have h2:=h.out;obtain ⟨j,rfl⟩:∃ j,i=j+1:=⟨i-1,by omega⟩;simp only [h2,List.getElem_cons_succ,Nat.add_sub_cancel]
theorem jf.anW (h0:0<L.length):L[0].out=[]:=by
 have e:(L.map (·.out))[0]'(by simpa using h0)=L[0].out:=by rw [List.getElem_map]
 rw [<- e];have h2:=h.out;simp only [h2,List.getElem_cons_zero]
theorem jf.Zp {x:AD} (hx:x∈L):x.out=[]\/x.out∈O:=by
 have:x.out∈L.map (·.out):=List.mem_map_of_mem hx
 rw [h.out] at this;rcases List.mem_cons.1 this with e | e
 · exact .inl e
 · exact .inr e
theorem jf.more (hR:R=[]) (hN:N=[]) (x:AD) (h2:x.inn=[]) (h3:x.bn=[]):jf p (L++[x]) (O++[x.out]) R N:=by
 subst hR hN;have hl:=h.len;refine ⟨by rw [List.map_append,h.out];rfl,fun i hi=>?_,fun i hi=>?_⟩
 ·by_cases e:i<L.length
  · rw [List.getElem_append_left e,h.inn i e];rfl
  ·have:i=L.length:=by simp at hi;omega
   subst this;simp [h2]
 ·by_cases e:i<L.length
  · rw [List.getElem_append_left e,h.bn i e];rfl
  ·have:i=L.length:=by simp at hi;omega
   subst this;simp [h3]
theorem jf.inner (hn:O.Nodup) {b:Nat} (hb:b<L.length) (c:List Int) (sv yJ:SV) (hh:iK p (oO p c)=qA O b) :
  jf p (L.set b {L[b] with inn:=L[b].inn++[(c,sv)],iv:=yJ}) O (R++[c]) N:=by
 have hl:=h.len;refine ⟨?_,fun i hi=>?_,fun i hi=>?_⟩
 ·rw [<- h.out];apply List.ext_getElem (by simp);intro i h1 h2;rw [List.getElem_map,List.getElem_map,List.getElem_set];split
  · rename_i e;subst e;rfl
  · rfl
 ·simp only [List.length_set] at hi;rw [List.getElem_set,List.filter_append];split
  ·rename_i e;subst e;rw [List.map_append,h.inn b hb,List.filter_cons,if_pos (by simpa using hh)];rfl
  ·rename_i e;rw [h.inn i hi,List.filter_cons,if_neg (by
    rw [decide_eq_true_eq,hh];exact fun g=>e (afn hn (by omega) (by omega) g)),List.filter_nil,List.append_nil]
 ·simp only [List.length_set] at hi;rw [List.getElem_set];split
  · rename_i e;subst e;exact h.bn b hb
  · exact h.bn i hi
theorem jf.lone (hn:O.Nodup) {b:Nat} (hb:b<L.length) (n:Nd) (vI:SV) (h0:iM p.ah n.id=0) (hh:iK p n.pt=qA O b) :
  jf p (L.set b {L[b] with bn:=L[b].bn++[n.id],av:=vI}) O R (N++[n]):=by
 have hl:=h.len;refine ⟨?_,fun i hi=>?_,fun i hi=>?_⟩
 ·rw [<- h.out];apply List.ext_getElem (by simp);intro i h1 h2;rw [List.getElem_map,List.getElem_map,List.getElem_set];split
  · rename_i e;subst e;rfl
  · rfl
 ·simp only [List.length_set] at hi;rw [List.getElem_set];split
  · rename_i e;subst e;exact h.inn b hb
  · exact h.inn i hi
 ·simp only [List.length_set] at hi;rw [List.getElem_set,List.filter_append];split
  ·rename_i e;subst e;rw [List.map_append,h.bn b hb,List.filter_cons,if_pos (by rw [decide_eq_true_eq];exact ⟨h0,hh⟩)];rfl
  ·rename_i e;rw [h.bn i hi,List.filter_cons,if_neg (by
    rw [decide_eq_true_eq,hh];exact fun g=>e (afn hn (by omega) (by omega) g.2)),List.filter_nil,List.append_nil]
theorem jf.pass (n:Nd) (h0:iM p.ah n.id≠0):jf p L O R (N++[n]) :=
 ⟨h.out,h.inn,fun i hi=>by
  rw [h.bn i hi,List.filter_append,List.filter_cons,if_neg (by rw [decide_eq_true_eq];exact fun g=>h0 g.1),List.filter_nil,List.append_nil]⟩
theorem jf.home (hO:O=aN p) (hT:uJ p L) {v:Pt} {b:Nat} (hb:Dy p v L (L.length-1) b):b<L.length/\iK p v=qA O b:=by
 have hl:=h.len;have ht:L.tail.take (L.length-1)=L.tail:=List.take_of_length_le (by simp);have hm:L.tail.map (·.out)=O:=by rw [List.map_tail,h.out];rfl
 have e1:iK p v=(kW (fun x:AD=>encS p x.out v) (fun x:AD=>x.tw) L.tail).map (·.out):=by
  unfold iK;rw [<- hO,<- hm,anV];congr 1;refine afm fun x hx=>⟨rfl,?_⟩;obtain ⟨i,hi,rfl⟩:=List.mem_iff_getElem.1 hx;rw [List.getElem_tail];simp only [List.length_tail] at hi;exact (hT (i+1) (by omega) (by omega)).symm
 unfold Dy at hb;rw [ht] at hb;rcases hb with ⟨rfl,e⟩ | ⟨hbl,h1,h2,e⟩
 ·rw [e] at e1;exact ⟨by omega,by rw [e1];rfl⟩
 ·rw [e] at e1;refine ⟨hbl,?_⟩;rw [e1,DC h1 (by omega)]
  show some L[b].out=_
  rw [h.KY hbl h1]
end
theorem jf.start (p:Pl) (x:AD) (h1:x.out=[]) (h2:x.inn=[]) (h3:x.bn=[]):jf p [x] [] [] []:=by
 refine ⟨by simp [h1],fun i hi=>?_,fun i hi=>?_⟩
 ·have:i=0:=by simp at hi;omega
  subst this;simp [h2]
 ·have:i=0:=by simp at hi;omega
  subst this;simp [h3]
section
variable {p:Pl} (h:Valid p)
include h
theorem Valid.OV {X:List Int} (hX:X∈aY p):X≠[]:=fun e=>by
 obtain ⟨x,-,-,-,hx⟩:=h.o7 hX;rw [e] at hx;cases hx
theorem Valid.Tt:(aY p).Nodup:=by
 have hp:=h.Xu.nodup_iff.2 h.EM;have hd:(aY p).Pairwise (fun a b=>∀ x∈a,∀ y∈b,x≠y):=by
  have h2:=List.pairwise_flatten.1 hp;exact h2.2
 unfold List.Nodup;refine List.Pairwise.imp_of_mem (fun {a b} ha hb hab e=>?_) hd;subst e;have hne:=h.OV ha
 cases a with
 | nil=>exact hne rfl
 | cons x a=>exact hab x List.mem_cons_self x List.mem_cons_self rfl
theorem Valid.DF:(aY p).length<=512:=by
 have:∀ L:List (List Int),(∀ X∈L,X≠[])->L.length<=L.flatten.length:=by
  intro L
  induction L with
  | nil=>intro _;exact Nat.le_refl _
  | cons X L ih =>
   intro hL;have h1:=ih fun Y hY=>hL Y (List.mem_cons_of_mem _ hY);have h2:=List.length_pos_iff.2 (hL X List.mem_cons_self);rw [List.flatten_cons,List.length_append,List.length_cons];omega
 have h1:=this (aY p) fun X hX=>h.OV hX;have h2:=h.Xu.length_eq;have h3:=h.Zo;omega
theorem Valid.afo:p.faces.Pairwise (· < ·):=by
 have ho:=h.ord;unfold y7 at ho;rw [Bool.and_eq_true,Bool.and_eq_true] at ho;exact Nz _ ho.2
theorem Valid.afp {f:Int} (hf:f∈p.faces):1<=f/\f<=1073741824:=by
 have hr:=h.rng;unfold wQ at hr;rw [Bool.and_eq_true] at hr;have h1:=hr.1;rw [Bool.not_eq_true',List.any_eq_false] at h1;have:=h1 f (List.mem_append_right _ hf)
 unfold qK at this;simp only [Bool.or_eq_true,decide_eq_true_eq,not_or] at this;omega
theorem Valid.afq (d:Int):jd p d=0\/jd p d∈p.faces:=by
 have hs:=h.sides;unfold GK at hs;rw [List.all_eq_true] at hs;have hf:∀ n,jy p.faces n=true->n=0\/n∈p.faces:=fun n hn=>by
  unfold jy at hn;rw [Bool.or_eq_true,List.any_eq_true] at hn;rcases hn with ⟨x,hx,e⟩ | e
  · have:=eq_of_beq e;subst this;exact .inr hx
  · exact .inl (eq_of_beq e)
 unfold jd;split
 · exact .inl rfl
 ·rename_i a e;have ha:a∈p.ah:=by
   unfold iC at e;split at e
   · cases e
   · exact List.mem_of_find?_eq_some e
  have:=hs a ha
  rw [Bool.and_eq_true] at this;split
  · exact hf _ this.1
  · exact hf _ this.2
theorem Valid.anX (d:Int):0<=jd p d/\jd p d<=1073741824:=by
 rcases h.afq d with e | e
 · omega
 · have:=h.afp e;omega
theorem Valid.Zq:(aN p).Nodup:=h.Tt.filter _
end
def jF (p:Pl) (O:List (List Int)) (i:Nat):Int:=oP p (qA O i)
def rQ (p:Pl) (O:List (List Int)) (i:Nat):List (List Int):=jq p (qA O i)
structure xH (p:Pl) (O:List (List Int)) (k:Nat):Prop where
 some:∀ i,1<=i->i<k->jF p O i≠0
 differ:∀ i j,1<=i->i<j->j<k->jF p O i≠jF p O j
 sides:∀ i,i<k->∀ c∈rQ p O i,∀ d∈c,jd p d=jF p O i
theorem xH.zero (p:Pl) (O:List (List Int)):xH p O 0:=⟨fun i _ h=>by omega,fun i j _ _ h=>by omega,fun i h=>by omega⟩
def pF (p:Pl) (O:List (List Int)) (k:Nat):List Int:=(List.range (k-1)).map fun i=>jF p O (i+1)
theorem anY (p:Pl) (O:List (List Int)) {k:Nat} (h:1<=k):pF p O (k+1)=pF p O k++[jF p O k]:=by
 unfold pF;rw [show k+1-1=(k-1)+1 by omega,List.range_succ,List.map_append];simp only [List.map_cons,List.map_nil];rw [show k-1+1=k by omega]
theorem afs {p:Pl} {O:List (List Int)} {k:Nat} {x:Int}:x∈pF p O k↔∃ i,1<=i/\i<k/\jF p O i=x:=by
 unfold pF;rw [List.mem_map];constructor
 ·rintro ⟨i,hi,rfl⟩;rw [List.mem_range] at hi;exact ⟨i+1,by omega,by omega,rfl⟩
 ·rintro ⟨i,h1,h2,rfl⟩;exact ⟨i-1,by rw [List.mem_range];omega,by rw [show i-1+1=i by omega]⟩
theorem anZ (p:Pl) (O:List (List Int)) (k:Nat):(pF p O k).length=k-1:=by unfold pF;simp
theorem xH.succ {p:Pl} {O:List (List Int)} {k:Nat} (h:xH p O k) (h1:1<=k->jF p O k≠0) (h2:1<=k->jF p O k∉pF p O k) (h3:∀ c∈rQ p O k,∀ d∈c,jd p d=jF p O k):xH p O (k+1):=by
 refine ⟨fun i hi hk=>?_,fun i j hi hj hk=>?_,fun i hi=>?_⟩
 ·by_cases e:i=k
  · subst e;exact h1 hi
  · exact h.some i hi (by omega)
 ·by_cases e:j=k
  ·subst e;exact fun g=>h2 (by omega) (afs.2 ⟨i,hi,hj,g⟩)
  · exact h.differ i j hi hj (by omega)
 ·by_cases e:i=k
  · subst e;exact h3
  · exact h.sides i (by omega)
theorem FB {p:Pl} {O:List (List Int)} {i:Nat} (h1:1<=i) (hi:i<=O.length):jF p O i=jd p ((O[i-1]'(by omega)).headD 0):=by
 unfold jF;rw [DC h1 hi];rfl
theorem xH.iff {p:Pl} {O:List (List Int)} (hp:O.Perm (aN p)):EY p↔xH p O (O.length+1)/\O.length=p.faces.length:=by
 constructor
 ·intro h;refine ⟨⟨fun i h1 h2=>?_,fun i j h1 h2 h3=>?_,fun i hi=>?_⟩,by rw [hp.length_eq];exact h.all⟩
  ·rw [FB h1 (by omega)];exact h.some _ (hp.subset (List.getElem_mem _))
  ·rw [FB h1 (by omega),FB (by omega) (by omega)];intro e;have hd:=(hp.map (fun X=>jd p (X.headD 0))).nodup_iff.2 h.differ;unfold List.Nodup at hd;rw [List.pairwise_map,List.pairwise_iff_getElem] at hd;exact hd (i-1) (j-1) (by omega) (by omega) (by omega) e
  ·refine h.sides _ ?_;by_cases e:i=0
   · subst e;exact .inl rfl
   ·rw [DC (by omega) (by omega)];exact .inr ⟨_,hp.subset (List.getElem_mem _),rfl⟩
 ·rintro ⟨h,ha⟩;refine ⟨fun X hX=>?_,?_,fun b hb=>?_,by rw [<- hp.length_eq];exact ha⟩
  ·obtain ⟨i,hi,rfl⟩:=List.mem_iff_getElem.1 (hp.symm.subset hX);have:=h.some (i+1) (by omega) (by omega)
   rw [FB (by omega) (by omega)] at this;exact this
  ·refine (hp.map (fun X=>jd p (X.headD 0))).nodup_iff.1 ?_;unfold List.Nodup;rw [List.pairwise_map,List.pairwise_iff_getElem];intro i j hi hj hij;have:=h.differ (i+1) (j+1) (by omega) (by omega) (by omega)
   rw [FB (by omega) (by omega),FB (by omega) (by omega)] at this;exact this
  ·rcases hb with rfl | ⟨X,hX,rfl⟩
   · exact h.sides 0 (by omega)
   ·obtain ⟨i,hi,rfl⟩:=List.mem_iff_getElem.1 (hp.symm.subset hX);have:=h.sides (i+1) (by omega)
    unfold rQ jF at this;rw [DC (by omega) (by omega)] at this;exact this
def jQ (p:Pl):List (Option (List Int)):=none::(aN p).map some
def vJ (p:Pl):Bool:=(aN p).all (fun X=>jd p (X.headD 0) != 0) && decide ((aN p).map (fun X=>jd p (X.headD 0))).Nodup && (jQ p).all (fun b=>(jq p b).all fun c=>c.all fun d=>jd p d == oP p b) && decide ((aN p).length=p.faces.length)
theorem KZ {p:Pl}:vJ p=true↔EY p:=by
 unfold vJ jQ;simp only [Bool.and_eq_true,decide_eq_true_eq,List.all_eq_true,List.mem_cons,List.mem_map,bne_iff_ne,beq_iff_eq];constructor
 ·rintro ⟨⟨⟨h1,h2⟩,h3⟩,h4⟩;refine ⟨h1,h2,fun b hb=>h3 b ?_,h4⟩;rcases hb with h | ⟨X,hX,h⟩
  · exact .inl h
  · exact .inr ⟨X,hX,h.symm⟩
 ·rintro ⟨h1,h2,h3,h4⟩;refine ⟨⟨⟨h1,h2⟩,fun b hb=>h3 b ?_⟩,h4⟩;rcases hb with h | ⟨X,hX,h⟩
  · exact .inl h
  · exact .inr ⟨X,hX,h.symm⟩
theorem aft {p:Pl} {O:List (List Int)} (hp:O.Perm (aN p)):vJ p=true↔xH p O (O.length+1)/\O.length=p.faces.length:=KZ.trans (xH.iff hp)
def gY (a b:Pt):Pt:=if b.y<a.y then b else a
def kJ (a b:Pt):Pt:=if b.y<a.y then a else b
def zN (y:Int) (a b:Pt):Int:=uT ((y-(gY a b).y)*((kJ a b).x-(gY a b).x)) ((kJ a b).y-(gY a b).y)
def jg (y:Int) (q:Pt×Pt):List Int:=if (gY q.1 q.2).y<=y/\y<(kJ q.1 q.2).y then [(gY q.1 q.2).x+zN y q.1 q.2] else []
def rU (y:Int) (q:Pt×Pt):List Rn :=
 if y<(gY q.1 q.2).y\/(kJ q.1 q.2).y<y then []
 else if (gY q.1 q.2).y=(kJ q.1 q.2).y then [⟨min (gY q.1 q.2).x (kJ q.1 q.2).x,max (gY q.1 q.2).x (kJ q.1 q.2).x+1⟩]
 else if zN y q.1 q.2*((kJ q.1 q.2).y-(gY q.1 q.2).y)=(y-(gY q.1 q.2).y)*((kJ q.1 q.2).x-(gY q.1 q.2).x) then [⟨(gY q.1 q.2).x+zN y q.1 q.2,(gY q.1 q.2).x+zN y q.1 q.2+1⟩]
 else []
def kM:List Int->List Rn
 | a::b::l=>jU a b++kM l
 | _=>[]
def rV (ns:List Nd) (y id:Int):List Rn:=match mJ ns id with
 | some n=>if n.pt.y=y then [⟨n.pt.x,n.pt.x+1⟩] else []
 | none=>[]
def II (a:Int):List Int->List Int
 | []=>[a]
 | b::l=>if a<=b then a::b::l else b::II a l
def FC (l:List Int):List Int:=l.foldr II []
theorem Zr (a:Int):∀ l,(II a l).Perm (a::l)
 | []=>List.Perm.refl _
 | b::l=>by
  unfold II;split
  · exact List.Perm.refl _
  · exact ((Zr a l).cons b).trans (List.Perm.swap _ _ _)
theorem afu (a:Int):∀ l,l.Pairwise (·<=·)->(II a l).Pairwise (·<=·)
 | [],_=>by unfold II;simp
 | b::l,h=>by
  have h':=List.pairwise_cons.1 h;unfold II;split
  ·rename_i e;rw [List.pairwise_cons];refine ⟨fun y hy=>?_,h⟩;rcases List.mem_cons.1 hy with rfl | hy
   · exact e
   · have:=h'.1 y hy;omega
  ·rename_i e;rw [List.pairwise_cons];refine ⟨fun y hy=>?_,afu a l h'.2⟩;rcases List.mem_cons.1 ((Zr a l).subset hy) with rfl | hy
   · omega
   · exact h'.1 y hy
theorem Tv:∀ l,(FC l).Perm l/\(FC l).Pairwise (·<=·)
 | []=>⟨List.Perm.refl _,List.Pairwise.nil⟩
 | a::l=>by
  obtain ⟨h1,h2⟩:=Tv l;exact ⟨(Zr a _).trans (h1.cons a),afu a _ h2⟩
theorem an0 {l m:List Int} (hp:m.Perm l) (hs:m.Pairwise (·<=·)):m=FC l:=by
 refine JY (lt:=fun a b=>decide (a<b)) (hp.trans (Tv l).1.symm) (hs.imp (fun h=>by simp;omega)) ((Tv l).2.imp (fun h=>by simp;omega)) (fun a _ b _ h1 h2=>?_);simp only [decide_eq_false_iff_not] at h1 h2;omega
theorem an1 (l:List Int):rP l=FC l:=an0 (Zh l) (aff l)
def an2 (S:List (Pt×Pt)) (T:List Rn) (y:Int):List Rn:=pY (qW (kM (FC (S.flatMap (jg y))))) (qW (S.flatMap (rU y)++T))
def iF (p:Pl) (b:Option (List Int)):List (Pt×Pt):=(jq p b).flatMap (bU p)
def FD (p:Pl) (b:Option (List Int)) (y:Int):List Rn:=(sW p b).flatMap (rV p.nodes y)
def yK (p:Pl) (b:Option (List Int)) (y:Int):List Rn:=an2 (iF p b) (FD p b y) y
def Zt (s:Int×Option Int) (x:Rn):Int×Option Int:=if s.1<x.hi-x.lo then (x.hi-x.lo,some ((x.lo+x.hi-1) / 2)) else s
def FH (l:List Rn):Int×Option Int:=l.foldl Zt (0,none)
def midRow (p:Pl) (b:Option (List Int)) (y0 y1 y:Int):Option Pt:=if y<y0\/y1<y then none else ((FH (yK p b y)).2).map fun x=>⟨x,y⟩
def midD (p:Pl) (b:Option (List Int)) (y0 y1 m:Int) (d:Nat):Option Pt:=(midRow p b y0 y1 (m+d)).or (midRow p b y0 y1 (m-d))
def Tz (p:Pl) (b:Option (List Int)) (y0 y1:Int):Option Pt:=(List.range (y1-y0+2).toNat).findSome? (midD p b y0 y1 ((y0+y1) / 2))
def IJ (p:Pl) (f:Int):Option (List Int):=(aN p).find? fun X=>oP p (some X) == f
def lI (S:List (Pt×Pt)):List Pt:=S.flatMap fun q=>[q.1,q.2]
def IK (p:Pl) (f:Int):Option Pt:=match IJ p f with
 | none=>none
 | some X=>Tz p (some X) (qJ (lI (bU p X))).y0 (qJ (lI (bU p X))).y1
structure an3 (w:World) (B g:Nat) (l:List Int) (v:Value):Prop where
 box:aj w g 24 #[v]
 own:Own w B 3 1 dO v l
structure vK (w:World) (B g1 g2 g3:Nat) (y:Int) (T:List Rn) (C:List Int) (vt vc:Value):Prop where
 row:aj w g1 3 #[.int .i64 y]
 tkn:BG w B g2 T vt
 lJ:an3 w B g3 C vc
theorem vK.keep {w w':World} {B g1 g2 g3:Nat} {y:Int} {T:List Rn} {C:List Int} {vt vc:Value} (h:vK w B g1 g2 g3 y T C vt vc) (hb:Below w.heap.size w w'):vK w' B g1 g2 g3 y T C vt vc :=
 ⟨h.row.keep hb,h.tkn.keep hb,h.lJ.box.keep hb,h.lJ.own.keep hb⟩
structure jR (B g2 g3:Nat) (W W':World):Prop where
 below:∀ w0:World,Below w0.heap.size w0 W->w0.heap.size<=B->w0.heap.size<=g2->w0.heap.size<=g3->Below w0.heap.size w0 W'
 size:W.heap.size<=W'.heap.size
 blk:∀ g,g<B->g≠g2->g≠g3->W'.heap[g]? = W.heap[g]?
theorem jR.refl (B g2 g3:Nat) (W:World):jR B g2 g3 W W:=⟨fun _ h _ _ _=>h,Nat.le_refl _,fun _ _ _ _=>rfl⟩
theorem jR.trans {B g2 g3:Nat} {W W' W'':World} (h:jR B g2 g3 W W') (h':jR B g2 g3 W' W''):jR B g2 g3 W W'' :=
 ⟨fun w0 k0 k1 k2 k3=>h'.below w0 (h.below w0 k0 k1 k2 k3) k1 k2 k3,Nat.le_trans h.size h'.size,fun g k1 k2 k3=>(h'.blk g k1 k2 k3).trans (h.blk g k1 k2 k3)⟩
theorem jR.of {B g2 g3:Nat} {W W':World} (hB:B<=W.heap.size) (h:Below W.heap.size W W'):jR B g2 g3 W W' :=
 ⟨fun w0 k0 _ _ _=>bT k0 h,h.size,fun g k1 _ _=>h.block g (Nat.lt_of_lt_of_le k1 hB)⟩
theorem jR.keep {B g2 g3:Nat} {W W':World} (h:jR B g2 g3 W W') {g:Nat} {t:TypeId} {cs:Array Value} (hb:aj W g t cs) (h1:g<B) (h2:g≠g2) (h3:g≠g3):aj W' g t cs:=(h.blk g h1 h2 h3).trans hb
theorem vK.Zu {w w3:World} {B g1 g2 g3:Nat} {y:Int} {T T2:List Rn} {C:List Int} {vt vc TB:Value} {o:Obj} (h:vK w B g1 g2 g3 y T C vt vc) (hB:B<=w.heap.size) (hg:(w.alloc o).grownBy w3 vt.ownBlock) (ho:Own w3 B 121 2 gK TB T2) :
  vK (w3.setCell ⟨g2,0,none⟩ TB) B g1 g2 g3 y T2 C TB vc/\jR B g2 g3 w (w3.setCell ⟨g2,0,none⟩ TB):=by
 have X2:=aj.grown (h.tkn.box.alloc o) hg (fun e=>Own.dM h.tkn.own h.tkn.box (by decide) e.symm);have X1:=aj.grown (h.row.alloc o) hg (fun e=>Own.dM h.tkn.own h.row (by decide) e.symm);have X3:=aj.grown (h.lJ.box.alloc o) hg (fun e=>Own.dM h.tkn.own h.lJ.box (by decide) e.symm);have O3:=Own.grown (Own.alloc h.lJ.own o) hg (fun g hg=>Own.apart h.lJ.own h.tkn.own (by decide) g hg);refine ⟨⟨X1.far (p:=⟨g2,0,none⟩) (aj.nD X1 X2 (by decide)) _,⟨X2.fF 0 _,ho.far (p:=⟨g2,0,none⟩) (Own.dM ho X2 (by decide)) _⟩,⟨X3.far (p:=⟨g2,0,none⟩) (aj.nD X3 X2 (by decide)) _,O3.far (p:=⟨g2,0,none⟩) (Own.dM O3 X2 (by decide)) _⟩⟩,fun w0 k1 k2 k3 _=>?_,?_,fun g k1 k2 _=>?_⟩
 · exact bS (p:=⟨g2,0,none⟩) (bG (bA k1 _) hg (fun k hk=>Nat.le_trans k2 (h.tkn.own.lt k hk).1)) k3 _
 · have:=hg.size;simp at this;simp;omega
 ·rw [Below.heap_setCell w3 ⟨g2,0,none⟩ _ g k2,hg.block g (by simp;omega) (fun e=>by have:=(h.tkn.own.lt g e.symm).1;omega)];exact Below.heap_alloc w _ g (by omega)
theorem vK.an4 {w w3:World} {B g1 g2 g3:Nat} {y:Int} {T:List Rn} {C C2:List Int} {vt vc OW:Value} {o:Obj} (h:vK w B g1 g2 g3 y T C vt vc) (hB:B<=w.heap.size) (hg:(w.alloc o).grownBy w3 vc.ownBlock) (ho:Own w3 B 3 1 dO OW C2) (hn:vc.ownBlock≠some g1) (hn2:OW.ownBlock≠some g3) :
  vK (w3.setCell ⟨g3,0,none⟩ OW) B g1 g2 g3 y T C2 vt OW/\jR B g2 g3 w (w3.setCell ⟨g3,0,none⟩ OW):=by
 have X3:=aj.grown (h.lJ.box.alloc o) hg (fun e=>Own.dM h.lJ.own h.lJ.box (by decide) e.symm);have X1:=aj.grown (h.row.alloc o) hg (fun e=>hn e.symm);have X2:=aj.grown (h.tkn.box.alloc o) hg (fun e=>Own.dM h.lJ.own h.tkn.box (by decide) e.symm);have O2:=Own.grown (Own.alloc h.tkn.own o) hg (fun g hg=>Own.apart h.tkn.own h.lJ.own (by decide) g hg);refine ⟨⟨X1.far (p:=⟨g3,0,none⟩) (aj.nD X1 X3 (by decide)) _,⟨X2.far (p:=⟨g3,0,none⟩) (aj.nD X2 X3 (by decide)) _,O2.far (p:=⟨g3,0,none⟩) (Own.dM O2 X3 (by decide)) _⟩,⟨X3.fF 0 _,ho.far (p:=⟨g3,0,none⟩) hn2 _⟩⟩,fun w0 k1 k2 _ k3=>?_,?_,fun g k1 _ k2=>?_⟩
 · exact bS (p:=⟨g3,0,none⟩) (bG (bA k1 _) hg (fun k hk=>Nat.le_trans k2 (h.lJ.own.lt k hk).1)) k3 _
 · have:=hg.size;simp at this;simp;omega
 ·rw [Below.heap_setCell w3 ⟨g3,0,none⟩ _ g k2,hg.block g (by simp;omega) (fun e=>by have:=(h.lJ.own.lt g e.symm).1;omega)];exact Below.heap_alloc w _ g (by omega)
def an5 (W:World) (B g1 g2 g3:Nat) (y:Int) (T:List Rn) (C:List Int) (e:Ending) (W':World):Prop :=
 e=.returned (.tuple #[])/\(∃ vt vc,vK W' B g1 g2 g3 y T C vt vc)/\jR B g2 g3 W W'
theorem afv {u v:Int} (hu:-2097152<=u/\u<=2097152) (hv:-2097152<=v/\v<=2097152):-4398046511104<=u*v/\u*v<=4398046511104:=by
 have h1:=Int.mul_le_mul_of_nonneg_left hv.2 (show (0:Int)<=2097152 by omega);rcases Int.le_total 0 u with h | h
 ·have a1:=Int.mul_le_mul_of_nonneg_left hv.2 h;have a2:=Int.mul_le_mul_of_nonneg_left hv.1 h;omega
 ·have a1:=Int.mul_le_mul_of_nonpos_left h hv.1;have a2:=Int.mul_le_mul_of_nonpos_left h hv.2;omega
theorem an6 {t d H D:Int} (hH:0<H) (h0:0<=t) (h1:t<=H) (hd:-D<=d/\d<=D):-D<=uT (t*d) H/\uT (t*d) H<=D:=by
 have hD:0<=D:=by omega
 constructor
 ·have h2:¬ uT (t*d) H<=-D-1:=by
   rw [MR hH];have a1:t*(-D)<=t*d:=Int.mul_le_mul_of_nonneg_left hd.1 h0;have a2:t*D<=H*D:=Int.mul_le_mul_of_nonneg_right h1 hD;have a3:(-D-1)*H=-(H*D)-H:=by rw [Int.sub_mul,Int.neg_mul,Int.one_mul,Int.mul_comm D H]
   have a4:t*(-D)=-(t*D):=by rw [Int.mul_neg]
   omega
  omega
 ·rw [MR hH];have a1:t*d<=t*D:=Int.mul_le_mul_of_nonneg_left hd.2 h0;have a2:t*D<=H*D:=Int.mul_le_mul_of_nonneg_right h1 hD;have a3:D*H=H*D:=Int.mul_comm D H;omega
set_option maxRecDepth 100000 in
set_option maxHeartbeats 8000000 in
theorem an7 (a b:Pt) (ha:oW a) (hb:oW b) (y:Int) (B g1 g2 g3:Nat) (T:List Rn) (C:List Int) (vt vc:Value) (w:World) (h:vK w B g1 g2 g3 y T C vt vc) (hBw:B<=w.heap.size) (hg1:g1<B) (hT:T.length<=1000000) (hC:C.length<=1000000) :
  Calls Tryz.prog 202 #[aZ a,aZ b,.pointer (some ⟨g1,0,none⟩),.pointer (some ⟨g2,0,none⟩),.pointer (some ⟨g3,0,none⟩)] w (an5 w B g1 g2 g3 y (T++rU y (a,b)) (C++jg y (a,b))):=by
 have OX:=Lib.hid (@amK);obtain ⟨lo,hlo⟩:∃ lo,gY a b=lo:=⟨_,rfl⟩;obtain ⟨hi,hhi⟩:∃ hi,kJ a b=hi:=⟨_,rfl⟩;obtain ⟨R,hR⟩:∃ R,rU y (a,b)=R:=⟨_,rfl⟩;obtain ⟨S,hS⟩:∃ S,jg y (a,b)=S:=⟨_,rfl⟩;rw [hR,hS];obtain ⟨rise,hrise⟩:∃ rise,(y-lo.y)*(hi.x-lo.x)=rise:=⟨_,rfl⟩;obtain ⟨q,hq⟩:∃ q,uT rise (hi.y-lo.y)=q:=⟨_,rfl⟩;have hat:zN y a b=q:=by unfold zN;rw [hlo,hhi,hrise,hq]
 have HR:=Lib.hid (show R=if y<lo.y\/hi.y<y then [] else if lo.y=hi.y then [⟨min lo.x hi.x,max lo.x hi.x+1⟩] else if q*(hi.y-lo.y)=rise then [⟨lo.x+q,lo.x+q+1⟩] else [] by
  rw [<- hR];unfold rU;simp only;rw [hat,hlo,hhi,hrise])
 have HS:=Lib.hid (show S=if lo.y<=y/\y<hi.y then [lo.x+q] else [] by
  rw [<- hS];unfold jg;simp only;rw [hat,hlo,hhi])
 have DI:=Lib.hid hrise;have HQ:=Lib.hid hq;clear hat hrise hq;have hll:(b.y<a.y/\lo=b/\hi=a)\/(¬ b.y<a.y/\lo=a/\hi=b):=by
  rw [<- hlo,<- hhi];unfold gY kJ;by_cases e:b.y<a.y
  · exact .inl ⟨e,by rw [if_pos e],by rw [if_pos e]⟩
  · exact .inr ⟨e,by rw [if_neg e],by rw [if_neg e]⟩
 have IL:oW lo:=by rcases hll with ⟨-,e,-⟩ | ⟨-,e,-⟩<;>rw [e]<;>assumption
 have IQ:oW hi:=by rcases hll with ⟨-,-,e⟩ | ⟨-,-,e⟩<;>rw [e]<;>assumption
 have hlh:lo.y<=hi.y:=by rcases hll with ⟨e0,e,e2⟩ | ⟨e0,e,e2⟩<;>rw [e,e2]<;>omega
 have HH:=Lib.hid h;have X1:=h.row;have hg2:=h.tkn.box.lt;have hg3:=h.lJ.box.lt;have hg1:=X1.lt;unfold aZ;clear hR hS hlo hhi h;go_enter Tryz.func202,Tryz.ntmps202;go_upto_region 1 with fail;obtain ⟨W1,hW⟩:∃ W1:World,W1=(w.alloc (.cells #[.int .i64 a.x,.int .i64 a.y] 39)).alloc (.cells #[.int .i64 b.x,.int .i64 b.y] 39):=⟨_,rfl⟩;have X5:aj W1 w.heap.size 39 #[.int .i64 a.x,.int .i64 a.y]:=by rw [hW];exact (aj.made rfl _ _).alloc _
 have X6:aj W1 (w.heap.size+1) 39 #[.int .i64 b.x,.int .i64 b.y]:=by rw [hW];exact aj.made (by simp) _ _
 have hA:Below w.heap.size w W1:=by rw [hW];exact bA (bA (bR w) _) _
 have HA:=Lib.hid hA;rw [<- hW];clear hW hA X1;obtain ⟨g6,vM⟩:∃ g6,w.heap.size+1=g6:=⟨_,rfl⟩;obtain ⟨g5,hg5⟩:∃ g5,w.heap.size=g5:=⟨_,rfl⟩;have hl5:w.heap.size<=g5:=by omega
 have hl6:w.heap.size<=g6:=by omega
 have n1:g5≠g6:=by omega
 have n2:g6≠g5:=by omega
 rw [vM] at X6 ⊢;rw [hg5] at X5 ⊢;clear hg5 vM;have bK:=Lib.hid X5;have jL:=Lib.hid X6;obtain ⟨dF,dG,dI,afw,afx⟩:=X5.bI;obtain ⟨jk,jl,jm,TD,TG⟩:=X6.bI;rcases hll with ⟨hsw,e1,e2⟩ | ⟨hsw,e1,e2⟩;subst e1 e2;go_upto_region 3 with fail;obtain ⟨W2,hW⟩:∃ W2:World,W2=(((W1.setCell ⟨g5,0,none⟩ (.int .i64 lo.x)).setCell ⟨g5,1,none⟩ (.int .i64 lo.y)).setCell ⟨g6,0,none⟩ (.int .i64 hi.x)).setCell ⟨g6,1,none⟩ (.int .i64 hi.y):=⟨_,rfl⟩;have Y5:aj W2 g5 39 #[.int .i64 lo.x,.int .i64 lo.y]:=by rw [hW];exact ((aj.wJ bK.out).far (p:=⟨g6,0,none⟩) n1 _).far (p:=⟨g6,1,none⟩) n1 _
 have Y6:aj W2 (g6) 39 #[.int .i64 hi.x,.int .i64 hi.y]:=by rw [hW];exact aj.wJ ((jL.out.far (p:=⟨g5,0,none⟩) n2 _).far (p:=⟨g5,1,none⟩) n2 _)
 have HA2:=Lib.hid (show Below w.heap.size w W2 by rw [hW];exact bS (p:=⟨g6,1,none⟩) (bS (p:=⟨g6,0,none⟩) (bS (p:=⟨g5,1,none⟩) (bS (p:=⟨g5,0,none⟩) HA.out hl5 _) hl5 _) hl6 _) hl6 _);rw [<- hW];clear hW HA bK jL X5 X6 dF dG dI afw afx jk jl jm TD TG
 rotate_left
 subst e1 e2;go_upto_region 3 with fail;obtain ⟨W2,hW⟩:∃ W2:World,W2=W1:=⟨_,rfl⟩;have Y5:=X5;have Y6:=X6;rw [<- hW] at Y5 Y6 HA ⊢;have HA2:=HA;clear hW HA bK jL X5 X6 dF dG dI afw afx jk jl jm TD TG
 all_goals
  have yL:=Lib.hid (HH.out.keep HA2.out);have X1:=yL.out.row;have IU:=Lib.hid Y5;have HY6:=Lib.hid Y6;clear HH;obtain ⟨aI,aJ,-⟩:=X1.fB;obtain ⟨Y5l,Y5a,Y5b,-,-⟩:=Y5.bI;obtain ⟨Y6l,Y6a,Y6b,-,-⟩:=Y6.bI;by_cases h1:y<lo.y
  ·have hr:=HR.out;have hs:=HS.out;rw [if_pos (.inl h1)] at hr;rw [if_neg (fun e=>by omega)] at hs;subst hr hs;clear HR HS;go_wp2_with fail;refine bodyPost_ret (results_none rfl _ _ _) rfl ⟨rfl,⟨vt,vc,by simpa using yL.out⟩,jR.of hBw HA2.out⟩
  by_cases h2:hi.y<y
  ·have hr:=HR.out;have hs:=HS.out;rw [if_pos (.inr h2)] at hr;rw [if_neg (fun e=>by omega)] at hs;subst hr hs;clear HR HS;go_wp2_with fail;refine bodyPost_ret (results_none rfl _ _ _) rfl ⟨rfl,⟨vt,vc,by simpa using yL.out⟩,jR.of hBw HA2.out⟩
  have hr:=HR.out;rw [if_neg (fun e=>e.elim h1 h2)] at hr;have HR2:=Lib.hid hr;clear hr HR;obtain ⟨At,ct,hvt,-⟩:=yL.out.tkn.own.sl;obtain ⟨Ac,cc,Zv,-⟩:=yL.out.lJ.own.sl;subst hvt Zv;have X2:=yL.out.tkn.box;have X3:=yL.out.lJ.box;have bY:=Lib.hid X2;have iE:=Lib.hid X3;by_cases hfl:lo.y=hi.y
  · first
  | exfalso;omega
  | skip
    have hr:=HR2.out;have hs:=HS.out;rw [if_pos hfl] at hr;rw [if_neg (fun e=>by omega)] at hs;subst hr hs;clear HR2 HS;have kx:IntKind.i64.wrap (max lo.x hi.x+1)=max lo.x hi.x+1:=IntWalk.i64_in _ (by have:=IL.1;have:=IQ.1;omega);have hB2:B<=W2.heap.size:=Nat.le_trans hBw HA2.out.size;have hsh:(T++[(⟨min lo.x hi.x,max lo.x hi.x+1⟩:Rn)]).length=T.length+1:=by simp
    have eu:=Lib.hid hsh;clear hsh;obtain ⟨gI,gJ,AV⟩:=X2.fB;go_wp2_with
     (at_builtin
      refine jH _ rfl (.tmp 33) (.tmp 46) _ rfl (base:=B) Dp BF Dn rfl (Own.alloc yL.out.tkn.own _) rfl (l2:=[(⟨min lo.x hi.x,max lo.x hi.x+1⟩:Rn)]) (Sl.lit (n:=1) (aj.made rfl _ _) rfl (dW (by omega))) (by simp only [List.length_cons,List.length_nil];omega) (by simp only [List.length_cons,List.length_nil];omega) (by simp;omega) ?_;intro v3 w3 ho3 hg3 lY;obtain ⟨A3,c3,hv3,-⟩:=ho3.sl;rw [eu.out] at hv3;subst hv3;have HF:=Lib.hid (yL.out.Zu hB2 hg3 ho3);have rO:=aj.grown (bY.out.alloc _) hg3 (fun e=>Own.dM yL.out.tkn.own bY.out (by decide) e.symm);clear ho3 hg3 lY X2 gI gJ AV;obtain ⟨Fe,Fg,Fh⟩:=rO.fB
      )
    refine bodyPost_ret (results_none rfl _ _ _) rfl ⟨rfl,⟨_,_,by first | exact HF.out.1 | (rw [List.append_nil];exact HF.out.1)⟩,(jR.of hBw HA2.out).trans HF.out.2⟩
  have hH:0<hi.y-lo.y:=by omega
  have hr:=HR2.out;rw [if_neg hfl] at hr;have HR3:=Lib.hid hr;have hcb:=an6 (t:=y-lo.y) (d:=hi.x-lo.x) (H:=hi.y-lo.y) (D:=2097152) hH (by omega) (by omega) (by have:=IL.1;have:=IQ.1;omega);have hrb:=afv (u:=y-lo.y) (v:=hi.x-lo.x) (by have:=IL.2;have:=IQ.2;omega) (by have:=IL.1;have:=IQ.1;omega);have hqb:=afv (u:=q) (v:=hi.y-lo.y) (by rw [DI.out,HQ.out] at hcb;omega) (by have:=IL.2;have:=IQ.2;omega);rw [DI.out] at hcb hrb;rw [HQ.out] at hcb;have b1:=IL.1;have b2:=IQ.1;have b3:=IL.2;have b4:=IQ.2;have hbd:sF rise:=by unfold sF;omega
  have hce:=fun W=>OX.out rise (hi.y-lo.y) W hbd hH;rw [HQ.out] at hce;have Zw:=Lib.hid hce;have hB2:B<=W2.heap.size:=Nat.le_trans hBw HA2.out.size;have kf:IntKind.i64.wrap (lo.x+q)=lo.x+q:=IntWalk.i64_in _ (by omega);have kg:IntKind.i64.wrap (lo.x+q+1)=lo.x+q+1:=IntWalk.i64_in _ (by omega);have KF:=Lib.hid kf;have KG:=Lib.hid kg;have ke:IntKind.i64.wrap (q*(hi.y-lo.y))=q*(hi.y-lo.y):=IntWalk.i64_in _ (by omega);have KE:=Lib.hid ke;have ka:IntKind.i64.wrap (y-lo.y)=y-lo.y:=IntWalk.i64_in _ (by omega);have kb:IntKind.i64.wrap (hi.x-lo.x)=hi.x-lo.x:=IntWalk.i64_in _ (by omega);have kd:IntKind.i64.wrap (hi.y-lo.y)=hi.y-lo.y:=IntWalk.i64_in _ (by omega);have kc:IntKind.i64.wrap ((y-lo.y)*(hi.x-lo.x))=rise:=by rw [DI.out];exact IntWalk.i64_in _ (by omega)
  clear hr hcb hrb hqb hce hbd kf kg ke OX HR2;go_upto_region 6 with fail;refine bZ (Since W2) (.run 17 0 0 (.done)) (by kernel_rfl) (bD (bR _)) (by kernel_rfl) (by kernel_rfl) (Nat.le_of_ble_eq_true (by kernel_rfl)) ?_;intro cO QR ak aC hS
  iterate 17
   apply bg;exact ak;exact rfl;exact hS;exact rfl
   · intro _ hqc;go_simp;try rfl
   try simp only [pu]
  refine bM ?_;refine aC.down _ _ ?_;have hB:Below W2.heap.size W2 W2.drew:=hS;clear hS aC ak;skip;clear ka kb kc kd;have ke:=KE.out;have kf:=KF.out;have kg:=KG.out;go_wp2_with fail;refine (Zw.out _).mono ?_;rintro e w4 ⟨rfl,hw4⟩;have BK:=Lib.hid (yL.out.keep hB);have vN:=Lib.hid (bT HA2.out hB);have IV:=Lib.hid (IU.out.keep hB);have IW:=Lib.hid (HY6.out.keep hB);have hBn:B<=W2.drew.heap.size:=Nat.le_trans hB2 hB.size;rw [hw4] at *;clear X1 aI aJ Y5 Y5l Y5a Y5b Y6 Y6l Y6a Y6b X2 X3 bY iE yL IU HY6 hB2;have XR:=BK.out.row;have XT:=BK.out.tkn.box;have Z5:=IV.out;have Z6:=IW.out;have La:=Lib.hid XT;obtain ⟨OY,OZ,-⟩:=XR.fB;obtain ⟨XTl,XTa,afy⟩:=XT.fB;obtain ⟨TI,TJ,TK,-,-⟩:=Z5.bI;obtain ⟨TP,TQ,TR,-,-⟩:=Z6.bI;rcases Decidable.em (q*(hi.y-lo.y)=rise) with h3 | h3;have hr:=HR3.out;rw [if_pos h3] at hr;subst hr;have hsh:(T++[(⟨lo.x+q,lo.x+q+1⟩:Rn)]).length=T.length+1:=by simp
  have eu:=Lib.hid hsh;have kr:IntKind.i64.wrap rise=rise:=by rw [<- h3];exact ke
  clear hsh HR3;go_upto_region 10 with
   (at_builtin
    refine jH _ rfl (.tmp 74) (.tmp 85) _ rfl (base:=B) Dp BF Dn rfl (Own.alloc BK.out.tkn.own _) rfl (l2:=[(⟨lo.x+q,lo.x+q+1⟩:Rn)]) (Sl.lit (n:=1) (aj.made rfl _ _) rfl (dW (by omega))) (by simp only [List.length_cons,List.length_nil];omega) (by simp only [List.length_cons,List.length_nil];omega) (by simp;omega) ?_;intro v3 w3 ho3 hg3 lY;obtain ⟨A3,c3,hv3,-⟩:=ho3.sl;rw [eu.out] at hv3;subst hv3;have HF:=Lib.hid (BK.out.Zu hBn hg3 ho3);have rO:=aj.grown (La.out.alloc _) hg3 (fun e=>Own.dM BK.out.tkn.own La.out (by decide) e.symm);have TU:=Lib.hid ((aj.grown (IV.out.alloc _) hg3 (fun e=>Own.dM BK.out.tkn.own IV.out (by decide) e.symm)).far (p:=⟨g2,0,none⟩) (aj.nD IV.out La.out (by decide)) (.slice A3 (T.length+1) c3));have TV:=Lib.hid ((aj.grown (IW.out.alloc _) hg3 (fun e=>Own.dM BK.out.tkn.own IW.out (by decide) e.symm)).far (p:=⟨g2,0,none⟩) (aj.nD IW.out La.out (by decide)) (.slice A3 (T.length+1) c3));clear ho3 hg3 lY XT XTl XTa afy
    try clear Fe
    try clear Fg
    try clear Fh
    obtain ⟨Fe,Fg,Fh⟩:=rO.fB
    )
  obtain ⟨W5,qh⟩:∃ W5:World,W5=w3.setCell ⟨g2,0,none⟩ (.slice A3 (T.length+1) c3):=⟨_,rfl⟩;have HQ:=Lib.hid HF.out.1;have xI:=Lib.hid ((jR.of hBw vN.out).trans HF.out.2);rw [<- qh] at HQ xI TU TV ⊢;clear qh HF rO Fe Fg Fh BK vN IV IW La XR OY OZ Z5 TI TJ TK Z6 TP TQ TR hBn
  rotate_left
  have hr:=HR3.out;rw [if_neg h3] at hr;subst hr;clear HR3;go_upto_region 10 with fail;obtain ⟨W5,qh⟩:∃ W5:World,W5=w4:=⟨_,rfl⟩;have HQ:=Lib.hid (show vK _ _ _ _ _ _ (T++[]) _ _ _ by rw [List.append_nil];exact BK.out);have xI:=Lib.hid (jR.of (g2:=g2) (g3:=g3) hBw vN.out);have TU:=IV;have TV:=IW;rw [<- qh] at HQ xI TU TV ⊢;clear qh BK vN IV IW La XR OY OZ XT XTl XTa afy Z5 TI TJ TK Z6 TP TQ TR hBn
  all_goals
   have XR:=HQ.out.row;have Z5:=TU.out;have Z6:=TV.out;have XC:=HQ.out.lJ.box;have HXC:=Lib.hid XC;have hB5:B<=W5.heap.size:=Nat.le_trans hBw xI.out.size;have kf:=KF.out
   try clear OY
   try clear OZ
   obtain ⟨OY,OZ,-⟩:=XR.fB
   try clear TI
   try clear TJ
   try clear TK
   obtain ⟨TI,TJ,TK,-,-⟩:=Z5.bI
   try clear TP
   try clear TQ
   try clear TR
   obtain ⟨TP,TQ,TR,-,-⟩:=Z6.bI;obtain ⟨XCl,XCa,an8⟩:=XC.fB;by_cases h4:y<hi.y
   ·have hs:=HS.out;rw [if_pos ⟨by omega,h4⟩] at hs;subst hs;have hsh:(C++[lo.x+q]).length=C.length+1:=by simp
    have eu:=Lib.hid hsh;clear hsh HS;go_wp2_with
     (at_builtin
      refine jH _ rfl (.tmp 91) (.tmp 96) _ rfl (base:=B) pV nH pW rfl (Own.alloc HQ.out.lJ.own _) rfl (l2:=[lo.x+q]) (Sl.lit (n:=1) (aj.made rfl _ _) rfl (dW (by omega))) (by simp only [List.length_cons,List.length_nil];omega) (by simp only [List.length_cons,List.length_nil];omega) (by simp;omega) ?_;intro v3 w3 ho3 hg3 lY;obtain ⟨A3,c3,hv3,-⟩:=ho3.sl;rw [eu.out] at hv3;subst hv3;have rO:=aj.grown (HXC.out.alloc _) hg3 (fun e=>Own.dM HQ.out.lJ.own HXC.out (by decide) e.symm);have HF:=Lib.hid (HQ.out.an4 hB5 hg3 ho3 (fun e=>by have:=(HQ.out.lJ.own.lt g1 e).1;omega) (Own.dM ho3 rO (by decide)));clear ho3 hg3 lY XC XCl XCa an8
      try clear Fe
      try clear Fg
      try clear Fh
      obtain ⟨Fe,Fg,Fh⟩:=rO.fB
      )
    exact bodyPost_end (v:=.tuple #[]) (results_none rfl _ _ _) rfl ⟨rfl,⟨_,_,by first | exact HF.out.1 | (have hf:=HF.out.1;simp only [List.append_nil] at hf;exact hf)⟩,xI.out.trans HF.out.2⟩
   ·have hs:=HS.out;rw [if_neg (fun e=>h4 e.2)] at hs;subst hs;clear HS;go_wp2_with fail;exact bodyPost_end (v:=.tuple #[]) (results_none rfl _ _ _) rfl ⟨rfl,⟨_,_,by first | exact HQ.out | (have hf:=HQ.out;simp only [List.append_nil] at hf;exact hf)⟩,xI.out⟩
end Go.Proofs.YtialfdomhoojiaaGreat
