import Derived.Test.YtialfdomhoojiaaGreatJ03
import Derived.Lib.AppendZerosOnto
import Derived.Test.YtialfdomhoojiaaGreatGB
set_option linter.unusedSimpArgs false
set_option linter.unusedVariables false
namespace Go.Proofs.YtialfdomhoojiaaGreat
open Go.RowKit
def hasB (l:List Int) (a:Ar):Bool:=l.any (fun y=>y == a.fr) && l.any (fun y=>y == a.dst)
def yS (p:Pl) (l:List Int):Int :=
 if Ae (p.nodes.map (·.pt))=true then 8 else if p.ah.all (hasB l)=false then 7 else if Au p=false then 12 else 0
set_option maxRecDepth 100000 in
set_option maxHeartbeats 4000000 in
theorem akQ (v u:Value) (p:Pl) (l:List Int) (w:World) (h:dS w v p) (hu:Ints w u l) :
  Calls Tryz.prog 172 #[v,u] w fun e w'=>e=.returned (.int .i64 (yS p l))/\Below w.heap.size w w':=by
 obtain ⟨_,_,vf,al,rfl,hpa,⟨An,cn,rfl,hn1,hn2,hR⟩,⟨⟨Aa,ca,rfl,ha1,ha2,jy⟩,hV⟩,hF⟩:=h;unfold maxLen at hn2 ha2;have HF:=Lib.hid hF;clear hF;have HU:=Lib.hid hu;clear hu;have HV:=Lib.hid hV;clear hV;have HR:=Lib.hid hR;clear hR;have lK:=Lib.hid jy;clear jy;have hc:yS p l=if Ae (p.nodes.map (·.pt))=true then 8 else if al.all (fun a=>hasB l a.1)=false then 7 else if al.all (fun a=>jc p.faces a.1.left && jc p.faces a.1.right)=false then 12 else 0:=by
  unfold yS Au;rw [hpa,List.all_map,List.all_map];rfl
 obtain ⟨q,hq⟩:∃ q,yS p l=q:=⟨_,rfl⟩;rw [hq];rw [hc] at hq;have Hq:=Lib.hid hq;clear hq hc hpa;generalize p.nodes=nl at *;generalize p.faces=fl at *;go_enter Tryz.func172,Tryz.ntmps172;go_wp2_with fail;obtain ⟨W0,hW0⟩:∃ W0:World,W0=w.alloc (.cells #[.slice An nl.length cn,.slice Aa al.length ca,vf] 26):=⟨_,rfl⟩;have X1:aj W0 w.heap.size 26 #[.slice An nl.length cn,.slice Aa al.length ca,vf]:=by rw [hW0];exact aj.made rfl _ _
 have vV:Below w.heap.size w W0:=by rw [hW0];exact bA (bR w) _
 rw [<- hW0];have HX0:=Lib.hid X1;have HB0:=Lib.hid vV;clear hW0 X1 vV;go_loopw [18] (fun s wr=>∃ i:Nat,i<=nl.length/\s=.int .i64 i/\Below W0.heap.size W0 wr/\∀ j k (hk:k<j) (hj:j<nl.length),j<i->¬ nl[j].pt=nl[k].pt) (fun s _=>nl.length-(intOf s).toNat)
 case atStart => exact ⟨0,Nat.zero_le _,rfl,bR W0,fun _ _ _ _ h=>by omega⟩
 case round =>
  obtain ⟨i,hi,rfl,hb,hno⟩:=hrel;have Hb:=Lib.hid hb;have Hno:=Lib.hid hno;have X1:=HX0.out.keep hb;clear hb hno;obtain ⟨aO,aP,aS,aT,-,-,-⟩:=X1.aY;by_cases hlt:i<nl.length
  case pos =>
   obtain ⟨b,o,rfl,hlb,c0,c1,c2⟩:=(HR.out.mono (bT HB0.out Hb.out)).nd hlt;go_wp2_with fail;obtain ⟨W1,hW1⟩:∃ W1:World,W1=wr.alloc (.cells #[.int .i64 nl[i].id,.int .i64 nl[i].pt.x,.int .i64 nl[i].pt.y] 45):=⟨_,rfl⟩;have B1:Below W0.heap.size W0 W1:=by rw [hW1];exact bA Hb.out _
   have X6:aj W1 wr.heap.size 45 #[.int .i64 nl[i].id,.int .i64 nl[i].pt.x,.int .i64 nl[i].pt.y]:=by rw [hW1];exact aj.made rfl _ _
   rw [<- hW1];have jI:=Lib.hid X6;have HB1:=Lib.hid B1;clear c0 c1 c2 hlb hW1 X1 aO aP aS aT X6 B1;obtain ⟨wo,rfl⟩:∃ wo:World,wo=wr:=⟨_,rfl⟩;go_loopw [28] (fun s wx=>∃ k:Nat,k<=i/\s=.int .i64 k/\Below W1.heap.size W1 wx/\∀ m (hm:m<nl.length),m<k->¬ nl[i].pt=nl[m].pt) (fun s _=>i-(intOf s).toNat)
   case atStart => exact ⟨0,Nat.zero_le _,rfl,bR W1,fun _ _ h=>by omega⟩
   case round =>
    obtain ⟨k,hk,rfl,hb,Oz⟩:=hrel;have Hb2:=Lib.hid hb;have KI:=Lib.hid Oz;have X6:=jI.out.keep hb;clear hb Oz;by_cases hlk:k<i
    case neg =>
     have HN:=Lib.hid (show ∀ j m (hm:m<j) (hj:j<nl.length),j<i+1->¬ nl[j].pt=nl[m].pt from fun j m hm hj hji=>by
      by_cases e:j<i
      · exact Hno.out j m hm hj e
      ·have:j=i:=by omega
       subst this;exact KI.out m (by omega) (by omega))
     go_wp2_with fail;go_roundw
     case rel => exact ⟨i+1,by omega,by go_num,bT HB1.out Hb2.out,HN.out⟩
     case measure => simp [intOf];omega
    have hkl:k<nl.length:=by omega
    obtain ⟨b',o',iJ,hlb,c0,c1,c2⟩:=(HR.out.mono (bT HB0.out (bT HB1.out Hb2.out))).nd hkl;simp only [Option.some.injEq,Addr.mk.injEq,and_true] at iJ;obtain ⟨rfl,rfl⟩:=iJ;obtain ⟨jd,jf,jg,pW,-,-,-⟩:=X6.aY;have hE:=Io nl[i].pt nl[k].pt;by_cases he:nl[i].pt=nl[k].pt
    ·have hd:decide (nl[i].pt=nl[k].pt)=true:=decide_eq_true he;have hf:=Lib.hid (show 8=q by rw [<- Hq.out,if_pos (ac9 (nl.map (·.pt)) i k hlk (by simpa using hlt) (by simpa using he))]);clear he;go_wp2_with fail;go_ret;exact ⟨fZ hf.out,bT HB0.out (bT HB1.out (bA Hb2.out _))⟩
    ·have hd:decide (nl[i].pt=nl[k].pt)=false:=decide_eq_false he;have He:=Lib.hid he;clear he;go_wp2_with fail;go_roundw
     case rel => exact ⟨k+1,by omega,by go_num,bA Hb2.out _,fun m hm hmk=>if e:m<k then KI.out m hm e else by
       have:m=k:=by omega
       subst this;exact He.out⟩
     case measure => simp [intOf];omega
  case neg =>
  have hd:=Lib.hid (ada (nl.map (·.pt)) (fun j m hm hj=>by
    have:=Hno.out j m hm (by simpa using hj) (by rw [List.length_map] at hj;omega)
    simpa using this))
  have ho:=Hq.out;rw [hd.out] at ho;simp only [Bool.false_eq_true,if_false] at ho;replace Hq:=Lib.hid ho;clear ho hd;go_wp2_with fail;obtain ⟨wo,rfl⟩:∃ wo:World,wo=wr:=⟨_,rfl⟩;have fK:=Lib.hid X1;have jJ:=Lib.hid (bT HB0.out Hb.out);clear X1 aO aP aS aT Hno;go_loopw [42] (fun s wr=>∃ k:Nat,k<=al.length/\s=.int .i64 k/\Below wo.heap.size wo wr/\∀ j (hj:j<al.length),j<k->hasB l al[j].1=true) (fun s _=>al.length-(intOf s).toNat)
  case atStart => exact ⟨0,Nat.zero_le _,rfl,bR wo,fun _ _ h=>by omega⟩
  case round =>
   obtain ⟨k,hk,rfl,hb,hno⟩:=hrel;have Hb2:=Lib.hid hb;have Hno:=Lib.hid hno;have X1:=fK.out.keep hb;clear hb hno
   try clear aO
   try clear aP
   try clear aS
   try clear aT
   obtain ⟨aO,aP,aS,aT,-,-,-⟩:=X1.aY;by_cases hlt:k<al.length
   case pos =>
    obtain ⟨b,o,rfl,hlb,c0,c1,c2,c3,c4,c5⟩:=(lK.out.mono (bT jJ.out Hb2.out)).ar hlt;obtain ⟨Av,cv,hv,-⟩:=HV.out k hlt;rw [hv] at c3;clear hv;go_wp2_with fail;refine (SY _ l _ _ (HU.out.mono (bA (bT jJ.out Hb2.out) _))).mono ?_;rintro e w2 ⟨rfl,hb2⟩;have B2:=bT (bA Hb2.out _) hb2;have dY:aj w2 wr.heap.size 50 _:=(aj.made rfl _ _).keep hb2;clear hb2 c0 c1 c2 c3 c4 c5 hlb;obtain ⟨kL,kM,kN,FM,IE,IG,II,-,-,-,-,-,-⟩:=dY.kZ
    cases h1:l.any (fun y=>y == al[k].1.fr)
    case false =>
     have hg:=Lib.hid (Ox al (fun a=>hasB l a.1) k hlt (by simp [hasB,h1]));have hf:=Lib.hid (show 7=q by rw [<- Hq.out,if_pos hg.out]);clear h1;go_wp2_with fail;go_ret;exact ⟨fZ hf.out,bT jJ.out B2⟩
    have H1:=Lib.hid h1;clear h1;go_wp2_with fail;refine (SY _ l _ _ (HU.out.mono (bT jJ.out B2))).mono ?_;rintro e w3 ⟨rfl,hb3⟩;have B3:=bT B2 hb3;clear hb3 dY kL kM kN FM IE IG II
    cases h1:l.any (fun y=>y == al[k].1.dst)
    case false =>
     have hg:=Lib.hid (Ox al (fun a=>hasB l a.1) k hlt (by simp [hasB,h1]));have hf:=Lib.hid (show 7=q by rw [<- Hq.out,if_pos hg.out]);clear h1;go_wp2_with fail;go_ret;exact ⟨fZ hf.out,bT jJ.out B3⟩
    have hg:=Lib.hid (show hasB l al[k].1=true by simp only [hasB,H1.out,h1];rfl);clear h1;go_wp2_with fail;go_roundw
    case rel => exact ⟨k+1,by omega,by go_num,B3,all_succ (p:=fun x=>hasB l x.1=true) Hno.out hlt hg.out⟩
    case measure => simp [intOf];omega
   case neg =>
   have hd:=Lib.hid (YP al (fun a=>hasB l a.1) (fun j hj=>Hno.out j hj (by omega)));have ho:=Hq.out;rw [hd.out] at ho;simp only [Bool.true_eq_false,if_false] at ho;replace Hq:=Lib.hid ho;clear ho hd;go_wp2_with fail;obtain ⟨wq,rfl⟩:∃ wq:World,wq=wr:=⟨_,rfl⟩;replace fK:=Lib.hid X1;replace jJ:=Lib.hid (bT jJ.out Hb2.out);clear X1 aO aP aS aT Hno Hb2;go_loopw [62] (fun s wr=>∃ k:Nat,k<=al.length/\s=.int .i64 k/\Below wq.heap.size wq wr/\∀ j (hj:j<al.length),j<k->(jc fl al[j].1.left && jc fl al[j].1.right)=true) (fun s _=>al.length-(intOf s).toNat)
   case atStart => exact ⟨0,Nat.zero_le _,rfl,bR wq,fun _ _ h=>by omega⟩
   case round =>
    obtain ⟨k,hk,rfl,hb,hno⟩:=hrel;have Hb2:=Lib.hid hb;have Hno:=Lib.hid hno;have X1:=fK.out.keep hb;clear hb hno
    try clear aO
    try clear aP
    try clear aS
    try clear aT
    obtain ⟨aO,aP,aS,aT,-,-,-⟩:=X1.aY;by_cases hlt:k<al.length
    case neg =>
     have hd:=Lib.hid (YP al (fun a=>jc fl a.1.left && jc fl a.1.right) (fun j hj=>Hno.out j hj (by omega)));have hf:=Lib.hid (show 0=q by rw [<- Hq.out,hd.out];rfl);go_wp2_with fail;go_ret;exact ⟨fZ hf.out,bT jJ.out Hb2.out⟩
    obtain ⟨b,o,rfl,hlb,c0,c1,c2,c3,c4,c5⟩:=(lK.out.mono (bT jJ.out Hb2.out)).ar hlt;obtain ⟨Av,cv,hv,-⟩:=HV.out k hlt;rw [hv] at c3;clear hv;go_wp2_with fail;obtain ⟨W5,qE⟩:∃ W5:World,W5=wr.alloc (.cells #[.int .i64 al[k].1.id,.int .i64 al[k].1.fr,.int .i64 al[k].1.dst,.slice Av al[k].1.via.length cv,.int .i64 al[k].1.left,.int .i64 al[k].1.right] 50):=⟨_,rfl⟩;have xM:Below wr.heap.size wr W5:=by rw [qE];exact bA (bR wr) _
    have dM:=Lib.hid (bT Hb2.out xM);have bV:=Lib.hid (X1.keep xM);rw [<- qE];clear c0 c1 c2 c3 c4 c5 hlb qE xM X1 aO aP aS aT;obtain ⟨wp,rfl⟩:∃ wp:World,wp=wr:=⟨_,rfl⟩;go_loopw [71] (fun s wx=>∃ j:Int,(j=0\/j=1\/j=2)/\s=.int .i64 j/\Below W5.heap.size W5 wx/\(1<=j->jc fl al[k].1.left=true)/\(2<=j->jc fl al[k].1.right=true)) (fun s _=>2-(intOf s).toNat)
    case atStart => exact ⟨0,by omega,rfl,bR W5,fun h=>by omega,fun h=>by omega⟩
    case round =>
     obtain ⟨j,hj,rfl,hb,hl,hr⟩:=hrel;have Hb3:=Lib.hid hb;have Hl:=Lib.hid hl;have Hr:=Lib.hid hr;clear hb hl hr;rcases hj with rfl | rfl | rfl
     ·have hI:∀ w,(Instr.index 116 (.agg #[.int .i64 al[k].1.left,.int .i64 al[k].1.right]) (.int .i64 0)).run Tryz.prog w=.ok (.int .i64 al[k].1.left) w:=fun _=>by kernel_rfl
      cases hz:(al[k].1.left != 0)
      case false =>
       have hg:=Lib.hid (show jc fl al[k].1.left=true by
        have:al[k].1.left=0:=by simpa [bne_eq_false_iff_eq] using hz
        simp [jc,this])
       go_wp2_with fail;go_roundw
       case rel => exact ⟨1,by omega,rfl,Hb3.out,fun h=>by first | exact hg.out | exact Hl.out (by omega),fun h=>by first | omega | exact hg.out⟩
       case measure => simp [intOf]
      have X1:=bV.out.keep Hb3.out
      try clear aO
      try clear aP
      try clear aS
      try clear aT
      obtain ⟨aO,aP,aS,aT,-,-,-⟩:=X1.aY;go_wp2_with fail;refine (SY _ fl _ _ (HF.out.mono (bT jJ.out (bT dM.out Hb3.out)))).mono ?_;rintro e w6 ⟨rfl,hb6⟩;have B6:=bT Hb3.out hb6;clear hb6 X1 aO aP aS aT
      cases h1:fl.any (fun y=>y == al[k].1.left)
      case false =>
       have hfc:=Lib.hid (show jc fl al[k].1.left=false by
        have:¬ al[k].1.left=0:=by simpa using hz
        simp only [jc,h1];simpa using this)
       have hg:=Lib.hid (Ox al (fun a=>jc fl a.1.left && jc fl a.1.right) k hlt (by simp [hfc.out]));have hf:=Lib.hid (show 12=q by rw [<- Hq.out,if_pos hg.out]);clear h1;go_wp2_with fail;go_ret;exact ⟨fZ hf.out,bT jJ.out (bT dM.out B6)⟩
      have hg:=Lib.hid (show jc fl al[k].1.left=true by simp [jc,h1]);clear h1;go_wp2_with fail;go_roundw
      case rel => exact ⟨1,by omega,rfl,B6,fun h=>by first | exact hg.out | exact Hl.out (by omega),fun h=>by first | omega | exact hg.out⟩
      case measure => simp [intOf]
     ·have hI:∀ w,(Instr.index 116 (.agg #[.int .i64 al[k].1.left,.int .i64 al[k].1.right]) (.int .i64 1)).run Tryz.prog w=.ok (.int .i64 al[k].1.right) w:=fun _=>by kernel_rfl
      cases hz:(al[k].1.right != 0)
      case false =>
       have hg:=Lib.hid (show jc fl al[k].1.right=true by
        have:al[k].1.right=0:=by simpa [bne_eq_false_iff_eq] using hz
        simp [jc,this])
       go_wp2_with fail;go_roundw
       case rel => exact ⟨2,by omega,rfl,Hb3.out,fun h=>by first | exact hg.out | exact Hl.out (by omega),fun h=>by first | omega | exact hg.out⟩
       case measure => simp [intOf]
      have X1:=bV.out.keep Hb3.out
      try clear aO
      try clear aP
      try clear aS
      try clear aT
      obtain ⟨aO,aP,aS,aT,-,-,-⟩:=X1.aY;go_wp2_with fail;refine (SY _ fl _ _ (HF.out.mono (bT jJ.out (bT dM.out Hb3.out)))).mono ?_;rintro e w6 ⟨rfl,hb6⟩;have B6:=bT Hb3.out hb6;clear hb6 X1 aO aP aS aT
      cases h1:fl.any (fun y=>y == al[k].1.right)
      case false =>
       have hfc:=Lib.hid (show jc fl al[k].1.right=false by
        have:¬ al[k].1.right=0:=by simpa using hz
        simp only [jc,h1];simpa using this)
       have hg:=Lib.hid (Ox al (fun a=>jc fl a.1.left && jc fl a.1.right) k hlt (by simp [hfc.out]));have hf:=Lib.hid (show 12=q by rw [<- Hq.out,if_pos hg.out]);clear h1;go_wp2_with fail;go_ret;exact ⟨fZ hf.out,bT jJ.out (bT dM.out B6)⟩
      have hg:=Lib.hid (show jc fl al[k].1.right=true by simp [jc,h1]);clear h1;go_wp2_with fail;go_roundw
      case rel => exact ⟨2,by omega,rfl,B6,fun h=>by first | exact hg.out | exact Hl.out (by omega),fun h=>by first | omega | exact hg.out⟩
      case measure => simp [intOf]
     ·have hg:=Lib.hid (show (jc fl al[k].1.left && jc fl al[k].1.right)=true by rw [Hl.out (by omega),Hr.out (by omega)];rfl);go_wp2_with fail;go_roundw
      case rel => exact ⟨k+1,by omega,by go_num,bT dM.out Hb3.out,all_succ (p:=fun x=>(jc fl x.1.left && jc fl x.1.right)=true) Hno.out hlt hg.out⟩
      case measure => simp [intOf];omega
theorem akR:∃ i,Tryz.prog.info? 39=some i/\i.zero=some (.agg #[.int .i64 0,.int .i64 0])/\i.size=2/\i.bytes=16:=info_parts (by kernel_rfl)
set_option maxRecDepth 100000 in
set_option maxHeartbeats 1000000 in
theorem akS (n:Nat) (w:World) (h1:1<=n) (h2:n<=2097152) :
  Calls Tryz.prog 139 #[.slice none 0 0,.int .i64 n] w fun e w'=>∃ c,e=.returned (.slice (some ⟨w.heap.size,0,none⟩) 0 c)/\Below w.heap.size w w'/\Own w' w.heap.size 39 2 jm (.slice (some ⟨w.heap.size,0,none⟩) 0 c) []:=by
 obtain ⟨i,hi,hz,hs,hb⟩:=akR;have hr:∀ ty,(Builtin.append_ #[46,3] ty #[.slice none 0 0,.int .i64 n]).run Tryz.prog w=_:=fun ty =>
  Lib.run_append_grow_zeros w 46 3 ty 39 i _ .i64 .i64 Tryz.underlying46 Tryz.underlying3 hi hz none 0 0 [] (by simpa using run_firstCells_none (P:=Tryz.prog) (w:=w.drew) i.size 0 0 0) n (by omega) (by omega) (by omega) (by omega) (by rw [hb];omega)
   (by rw [hb];exact growslice_fits (by omega) (by omega))
 have hge:=grownCap_ge w (0+n) 0 39;have hle:=grownCap_le_maxLen w (0+n) 0 39 (by unfold maxLen;omega);have hle':=hle;unfold maxLen at hle';generalize hG:grownCap w (0+n) 0 39=G at *;have HR:=Lib.hid hr;have Hle:=Lib.hid hle;clear hr hG hle hi hz hs hb;simp only [Nat.zero_add] at HR;have q1:¬ ((n:Int)<0):=by omega
 have q2:0<(n:Int):=by omega
 go_enter Tryz.func139,Tryz.ntmps139;go_wp2_with (at_builtin;refine Lib.wpList_append_run _ rfl _ _ _ _ rfl _ _ rfl rfl _ _ (HR.out _) ?_);go_ret;refine ⟨_,rfl,bA (bD (bR w)) _,?_⟩;refine ⟨rfl,.inr ⟨w.heap.size,_,_,rfl,Nat.le_refl _,heap_alloc_new _ _,Nat.zero_le _,Hle.out,?_,by simp⟩⟩;simp only [Array.size_append,List.size_toArray,List.length_nil,size_zeroCells];simp only [Value.cells,List.size_toArray,List.length_cons,List.length_nil];omega
structure PS where
 l:List Pt
 a:Option Addr
 c:Nat
def psC (x:PS):List Value:=[.slice x.a x.l.length x.c]
theorem Row.ps {w:World} {A:Option Addr} {l:List PS} (h:Row w A (l.flatMap psC)) {k:Nat} (hk:k<l.length) :
  ∃ b o,A=some ⟨b,o,none⟩/\b<w.heap.size/\w.cell? ⟨b,o+k,none⟩=some (.slice l[k].a l[k].l.length l[k].c):=by
 obtain ⟨b,o,hA,hb,hc⟩:=h.at_ (n:=1) (fun _=>rfl) hk (by omega);exact ⟨b,o,hA,hb,by simpa using hc 0 _ rfl⟩
def FN (L:List PS) (k:Nat):Nat:=((L.take k).flatMap (·.l)).length
theorem ado (L:List PS) (k:Nat) (hk:k<L.length):FN L (k+1)=FN L k+L[k].l.length:=by
 unfold FN;rw [List.take_succ_eq_append_getElem hk,List.flatMap_append,List.length_append];simp
set_option maxRecDepth 100000 in
set_option maxHeartbeats 1000000 in
theorem akT (v:Value) (L:List PS) (w:World) (hv:Sl w v L.length (L.flatMap psC)) (hp:∀ k (hk:k<L.length),gW w (.slice L[k].a L[k].l.length L[k].c) L[k].l)
  (hL:L.length<=1048576) (h1:1<=(L.flatMap (·.l)).length) (h2:(L.flatMap (·.l)).length<=2097152) :
  Calls Tryz.prog 75 #[v] w (akz w (L.flatMap (·.l))):=by
 obtain ⟨A,c,rfl,hn,hc,hR⟩:=hv;unfold maxLen at hc;have HP:=Lib.hid hp;clear hp;have HR:=Lib.hid hR;clear hR;have hb:∀ k,FN L k<=2097152:=fun k=>Nat.le_trans (ac8 L (·.l) k) h2;have sG:=Lib.hid hb;clear hb;have H1:=Lib.hid h1;have H2:=Lib.hid h2;clear h1 h2;go_enter Tryz.func75,Tryz.ntmps75;go_wp2_with fail;go_loopw [3,11] (fun s i wr=>∃ k:Nat,k<=L.length/\i=.int .i64 k/\s=.int .i64 (FN L k:Nat)/\wr=w) (fun _ i _=>L.length-(intOf i).toNat)
 case atStart => exact ⟨0,Nat.zero_le _,rfl,rfl,rfl⟩
 case round =>
  obtain ⟨k,hk,rfl,rfl,rfl⟩:=hrel;by_cases hlt:k<L.length
  case pos =>
   obtain ⟨b,o,rfl,hlb,c0⟩:=HR.out.ps hlt;have ht:=ado L k hlt;have hb:=sG.out (k+1);have Ht:=Lib.hid ht;rw [ht] at hb;clear ht;go_wp2_with fail;go_roundw
   case rel => exact ⟨k+1,by omega,by go_num,by rw [Ht.out];go_num,trivial⟩
   case measure => simp [intOf];omega
  have hE:L.take k=L:=List.take_of_length_le (by omega);have hN0:FN L k=(L.flatMap (·.l)).length:=by unfold FN;rw [hE]
  rw [hN0];have h1:=H1.out;have h2:=H2.out;clear hE hN0;generalize hN:(L.flatMap (·.l)).length=N at *;have HN:=Lib.hid hN;clear hN;go_wp2_with fail;refine (akS N _ h1 h2).mono ?_;rintro e w1 ⟨c1,rfl,hb1,hown⟩;have kU:=Lib.hid hown;have Hb1:=Lib.hid hb1;clear hown hb1 h1 h2;obtain ⟨wo,rfl⟩:∃ wo:World,wo=wr:=⟨_,rfl⟩;go_wp2_with fail;go_loopw [6,27] (fun s i wr=>∃ k:Nat,k<=L.length/\i=.int .i64 k/\Own wr wo.heap.size 39 2 jm s ((L.take k).flatMap (·.l))/\Below wo.heap.size wo wr) (fun _ i _=>L.length-(intOf i).toNat)
  case atStart => exact ⟨0,Nat.zero_le _,rfl,kU.out,Hb1.out⟩
  case round =>
   obtain ⟨k,hk,rfl,hown,hb⟩:=hrel;have Hb:=Lib.hid hb;replace kU:=Lib.hid hown;have hsz:=hb.size;clear hb hown;by_cases hlt:k<L.length
   case neg =>
    have hE:L.take k=L:=List.take_of_length_le (by omega);have ho:=kU.out;rw [hE] at ho;replace kU:=Lib.hid ho;clear ho hE;go_wp2_with fail;go_ret;exact ⟨_,rfl,Hb.out,kU.out⟩
   obtain ⟨b,o,rfl,hlb,c0⟩:=(HR.out.mono Hb.out).ps hlt;have hlen:=Lib.hid (show ((L.take k).flatMap (·.l)).length+L[k].l.length<=2097152 by
    have ht:=ado L k hlt;have:=sG.out (k+1)
    show FN L k+L[k].l.length<=2097152
    omega)
   go_wp2_with
    (at_builtin
     refine lq _ rfl (.tmp 31) (.tmp 32) _ rfl (base:=wo.heap.size) Fp DV Fq rfl kU.out rfl (l2:=L[k].l) ((HP.out k hlt).mono Hb.out) (by have:=hlen.out;omega) (by have:=hlen.out;omega) hsz ?_;intro v1 w1 hown1 hg hat;have zU:=Lib.hid (show Below wo.heap.size wo w1 from bG Hb.out hg (fun g hk=>(kU.out.lt g hk).1));clear hg hat;have Iz:=Lib.hid hown1;clear hown1)
   go_roundw
   case rel => exact ⟨k+1,by omega,by go_num,by rw [List.take_succ_eq_append_getElem hlt,List.flatMap_append];simpa using Iz.out,zU.out⟩
   case measure => simp [intOf];omega
set_option maxRecDepth 100000 in
set_option maxHeartbeats 2000000 in
theorem OA (v:Value) (p:Pl) (id:Int) (w:World) (h:dS w v p) (hsh:Short p) :
  Calls Tryz.prog 27 #[v,.int .i64 id] w (YF w (pathOf p id)):=by
 have HP:=Lib.hid h;have fD:=Lib.hid hsh;clear hsh;obtain ⟨vn,vr,vf,al,rfl,-⟩:=h;have TN:∀ id W,Below w.heap.size w W->Calls Tryz.prog 74 #[.agg #[vn,vr,vf],.int .i64 id] W _:=fun id W hW=>Yo _ p id W (HP.out.mono hW);simp only [SN,XY] at TN;have HN:=Lib.hid TN;clear TN;obtain ⟨q,hq⟩:∃ q,pathOf p id=q:=⟨_,rfl⟩;rw [hq];have Hq:=Lib.hid hq;clear hq;go_enter Tryz.func27,Tryz.ntmps27;go_wp2_with fail;refine (aj6 _ p id _ (HP.out.mono (bA (bR w) _)) fD.out).mono ?_;rintro e w1 ⟨v1,rfl,hb1,hp1⟩;have Bw:Below w.heap.size w w1:=by
  repeat (first | with_reducible exact bR _ | with_reducible assumption | with_reducible refine bA ?_ _ | with_reducible refine bD ?_ | with_reducible refine bN ?_ _ | ((with_reducible refine bS ?_ ?_ _);rotate_left;(simp;try omega)) | ((with_reducible refine bT ?_ ?_);rotate_left;with_reducible assumption) | with_reducible refine bT ?_ (by assumption))
 have X2:aj _ (w.heap.size) 26 #[vn,vr,vf]:=aj.keep (by repeat (first | exact aj.made (by simp) _ _ | refine aj.alloc ?_ _)) hb1;clear hb1;have OB:=Lib.hid hp1;obtain ⟨A1,c1,rfl,-⟩:=hp1;generalize hr:findAr p.ah id=r at *;have Hr:=Lib.hid hr;clear hr;obtain ⟨a,ha⟩:∃ a,r.getD oH=a:=⟨_,rfl⟩;rw [ha] at OB ⊢;obtain ⟨s,hs⟩:∃ s,r.isSome=s:=⟨_,rfl⟩;rw [hs];have Ha:=Lib.hid ha;have Hs:=Lib.hid hs;clear ha hs;simp only [arV];obtain ⟨cu,cO,dH,dZ,-,-,-⟩:=X2.aY;go_wp2_with fail;refine (HN.out _ _ (bA Bw _)).mono ?_;rintro e w2 ⟨rfl,hb2⟩;have X6:aj w2 w1.heap.size 50 #[.int .i64 a.id,.int .i64 a.fr,.int .i64 a.dst,.slice A1 a.via.length c1,.int .i64 a.left,.int .i64 a.right]:=(aj.made rfl _ _).keep hb2;replace X2:=(X2.alloc _).keep hb2;have HP2:=Lib.hid ((OB.out.mono (bA (bR w1) _)).mono hb2);replace Bw:=bT (bA Bw _) hb2;clear hb2;obtain ⟨n1,hn1⟩:∃ n1,(mM p.nodes a.fr).getD nd0=n1:=⟨_,rfl⟩;rw [hn1];obtain ⟨s1,hs1⟩:∃ s1,(mM p.nodes a.fr).isSome=s1:=⟨_,rfl⟩;rw [hs1];have Hn1:=Lib.hid hn1;have Tn:=Lib.hid hs1;clear hn1 hs1
 try clear cu
 try clear cO
 try clear dH
 try clear dZ
 obtain ⟨cu,cO,dH,dZ,-,-,-⟩:=X2.aY;obtain ⟨jd,jf,jg,pW,qX,CB,CG,-,-,-,-,-,-⟩:=X6.kZ;go_wp2_with fail;refine (HN.out _ _ (bA Bw _)).mono ?_;rintro e w3 ⟨rfl,hb3⟩;have X8:aj w3 w2.heap.size 45 #[.int .i64 n1.id,.int .i64 n1.pt.x,.int .i64 n1.pt.y]:=(aj.made rfl _ _).keep hb3;replace X2:=(X2.alloc _).keep hb3;replace X6:=(X6.alloc _).keep hb3;have OC:=Lib.hid ((HP2.out.mono (bA (bR w2) _)).mono hb3);replace Bw:=bT (bA Bw _) hb3;clear hb3;obtain ⟨n2,hn2⟩:∃ n2,(mM p.nodes a.dst).getD nd0=n2:=⟨_,rfl⟩;rw [hn2];obtain ⟨s2,hs2⟩:∃ s2,(mM p.nodes a.dst).isSome=s2:=⟨_,rfl⟩;rw [hs2];have Hn2:=Lib.hid hn2;have Tq:=Lib.hid hs2;clear hn2 hs2
 try clear cu
 try clear cO
 try clear dH
 try clear dZ
 obtain ⟨cu,cO,dH,dZ,-,-,-⟩:=X2.aY
 try clear jd
 try clear jf
 try clear jg
 try clear pW
 try clear qX
 try clear CB
 try clear CG
 obtain ⟨jd,jf,jg,pW,qX,CB,CG,-,-,-,-,-,-⟩:=X6.kZ;obtain ⟨qY,qZ,qF,YQ,-,-,-⟩:=X8.aY;go_upto_region 4 with fail;obtain ⟨W4,Tt⟩:∃ W4:World,W4=w3.alloc (.cells #[.int .i64 n2.id,.int .i64 n2.pt.x,.int .i64 n2.pt.y] 45):=⟨_,rfl⟩;have dY:aj W4 w3.heap.size 45 #[.int .i64 n2.id,.int .i64 n2.pt.x,.int .i64 n2.pt.y]:=by rw [Tt];exact aj.made rfl _ _
 have hb4:Below w3.heap.size w3 W4:=by rw [Tt];exact bA (bR w3) _
 rw [<- Tt];clear Tt;replace X2:=X2.keep hb4;replace X6:=X6.keep hb4;replace X8:=X8.keep hb4;have HP4:=Lib.hid (OC.out.mono hb4);replace Bw:=bT Bw hb4;clear hb4
 try clear cu
 try clear cO
 try clear dH
 try clear dZ
 obtain ⟨cu,cO,dH,dZ,-,-,-⟩:=X2.aY
 try clear jd
 try clear jf
 try clear jg
 try clear pW
 try clear qX
 try clear CB
 try clear CG
 obtain ⟨jd,jf,jg,pW,qX,CB,CG,-,-,-,-,-,-⟩:=X6.kZ
 try clear qY
 try clear qZ
 try clear qF
 try clear YQ
 obtain ⟨qY,qZ,qF,YQ,-,-,-⟩:=X8.aY;obtain ⟨kL,kM,kN,FM,-,-,-⟩:=dY.aY;go_cut [41] (fun u wx=>u=.bool (!(s && (s1 && s2)))/\wx=W4)
 case first =>
  cases s<;>cases s1<;>cases s2
  all_goals
   go_wp2_with fail;go_meet
   case rel => exact ⟨rfl,rfl⟩
 case rest =>
  obtain ⟨rfl,rfl⟩:=hcut
  cases hsb:(s && (s1 && s2))
  case false =>
   have hf:=Lib.hid (show q=none by
    rw [<- Hq.out,pathOf,Hr.out]
    cases r with
    | none=>rfl
    | some a0 =>
     have h1:=Hs.out;have h2:=Ha.out;simp only [Option.isSome_some,Option.getD_some] at h1 h2;subst h1 h2;simp only [mP,Tn.out,Tq.out];simpa using hsb)
   clear hsb;go_wp2_with fail;go_ret2;exact ⟨none,0,by rw [hf.out];rfl,Bw,by rw [hf.out];exact Own.nil _ _ _ _ _⟩
  case true =>
   have Tv:s=true/\s1=true/\s2=true:=by simpa using hsb
   have hf:=Lib.hid (show q=some (n1.pt::(a.via++[n2.pt]))/\a.via.length<=1048576 by
    rw [<- Hq.out,pathOf,Hr.out]
    cases r with
    | none=>have h1:=Hs.out;rw [Tv.1] at h1;cases h1
    | some a0 =>
     have h2:=Ha.out;simp only [Option.getD_some] at h2;subst h2;refine ⟨?_,fD.out _ (YG Hr.out)⟩;simp only [mP,Tn.out,Tq.out,Tv.2.1,Tv.2.2,Bool.and_self,if_true,ak,nodeAt,Hn1.out,Hn2.out])
   clear hsb Tv;go_wp2_with fail;have hlen:=Lib.hid hf.out.2;have hBa:Below w.heap.size w (((wc.alloc (.cells #[.int .i64 n1.pt.x,.int .i64 n1.pt.y] 39)).alloc (.cells #[.int .i64 n2.pt.x,.int .i64 n2.pt.y] 39)).alloc (.cells #[.slice (some ⟨wc.heap.size,0,none⟩) 1 1,.slice A1 a.via.length c1,.slice (some ⟨wc.heap.size+1,0,none⟩) 1 1] 46)):=bA (bA (bA Bw _) _) _;refine (akT _ [⟨[n1.pt],some ⟨wc.heap.size,0,none⟩,1⟩,⟨a.via,A1,c1⟩,⟨[n2.pt],some ⟨wc.heap.size+1,0,none⟩,1⟩] _ (Sl.lit (n:=3) (aj.made (by simp) _ _) rfl (fQ (by omega))) ?_ (by simp) (by simp) ?_).mono ?_
   ·intro k hk;have hk:k<3:=hk;rcases k with _ | _ | _ | k
    · exact gW.one (((aj.made rfl _ _).alloc _).alloc _)
    · exact HP4.out.mono (bA (bA (bA (bR wc) _) _) _)
    · exact gW.one ((aj.made (by simp) _ _).alloc _)
    · omega
   ·have:=hlen.out
    simp only [List.flatMap_cons,List.flatMap_nil,List.length_append,List.length_cons,List.length_nil];omega
   rintro e w5 ⟨v5,rfl,hb5,hown⟩;have Bz:=hBa.size;have ho:=hown.jG (b':=w.heap.size) Bz;have B5:=bT hBa hb5;simp only [List.flatMap_cons,List.flatMap_nil,List.append_nil,List.cons_append,List.nil_append] at ho;have hf1:=hf.out.1;generalize n1.pt::(a.via++[n2.pt])=PL at ho hf1;have Hf1:=Lib.hid hf1;obtain ⟨A5,c5,rfl,-⟩:=Own.sl ho;have Ho:=Lib.hid ho;have dM:=Lib.hid B5;clear hown ho B5 Bz hb5 hBa hf1;go_wp2_with fail;go_ret2;exact ⟨A5,c5,by rw [Hf1.out];rfl,dM.out,by rw [Hf1.out];exact Ho.out⟩
structure Ln where
 arc:Ar
 path:List Pt
 g:Nat
 via:SV
 pa:Option Addr
 pc:Nat
def YR (x:Ln):Array Value:=#[.int .i64 x.arc.id,.int .i64 x.arc.fr,.int .i64 x.arc.dst,.slice x.via.a x.via.n x.via.c,.int .i64 x.arc.left,.int .i64 x.arc.right,.slice x.pa x.path.length x.pc]
def CJ (w:World) (x:Ln):Prop:=aj w x.g 237 (YR x)/\Own w 0 39 2 jm (.slice x.pa x.path.length x.pc) x.path
theorem CJ.keep {w w':World} {x:Ln} (h:CJ w x) (hb:Below w.heap.size w w'):CJ w' x:=⟨h.1.keep hb,h.2.keep hb⟩
structure bY where
 ln:Ln
 k:Nat
def jA (s:bY):List Value:=[.pointer (some ⟨s.ln.g,0,none⟩),.int .i64 s.k]
def jh (s:bY):Value:=.agg #[.pointer (some ⟨s.ln.g,0,none⟩),.int .i64 s.k]
def bY.fst (s:bY):Pt:=s.ln.path.getD s.k aB
def bY.snd (s:bY):Pt:=s.ln.path.getD (s.k+1) aB
def gX (w:World) (s:bY):Prop:=CJ w s.ln/\s.k+1<s.ln.path.length/\s.ln.path.length<=2097152
theorem gX.keep {w w':World} {s:bY} (h:gX w s) (hb:Below w.heap.size w w'):gX w' s:=⟨h.1.keep hb,h.2⟩
theorem aj.FP {w:World} {g:Nat} {t:TypeId} {v0 v1 v2 v3 v4 v5 v6:Value} (h:aj w g t #[v0,v1,v2,v3,v4,v5,v6]):g<w.heap.size/\w.cell? ⟨g,0,none⟩=some v0/\w.cell? ⟨g,1,none⟩=some v1/\w.cell? ⟨g,2,none⟩=some v2/\w.cell? ⟨g,3,none⟩=some v3/\w.cell? ⟨g,4,none⟩=some v4/\w.cell? ⟨g,5,none⟩=some v5/\w.cell? ⟨g,6,none⟩=some v6/\w.frozen? ⟨g,0,none⟩=false/\w.frozen? ⟨g,1,none⟩=false/\w.frozen? ⟨g,2,none⟩=false/\w.frozen? ⟨g,3,none⟩=false/\w.frozen? ⟨g,4,none⟩=false/\w.frozen? ⟨g,5,none⟩=false/\w.frozen? ⟨g,6,none⟩=false :=
 ⟨h.lt,h.cell 0,h.cell 1,h.cell 2,h.cell 3,h.cell 4,h.cell 5,h.cell 6,h.frozen 0,h.frozen 1,h.frozen 2,h.frozen 3,h.frozen 4,h.frozen 5,h.frozen 6⟩
set_option maxRecDepth 100000 in
set_option maxHeartbeats 1000000 in
theorem OD (s:bY) (w:World) (h:gX w s) :
  Calls Tryz.prog 231 #[jh s] w fun e w'=>e=.returned (.tuple #[bg s.fst,bg s.snd])/\oG w w':=by
 obtain ⟨⟨hL,hP⟩,hk,hm⟩:=h;obtain ⟨A,c,he,hn,hc,hR⟩:=Own.sl hP;clear hP;injection he with he1 _ he3;subst he1 he3;unfold YR at hL;obtain ⟨b,o,hA,hlb,c0,c1⟩:=hR.pt (k:=s.k) (by omega);obtain ⟨b',o',hA',-,d0,d1⟩:=hR.pt (k:=s.k+1) hk;rw [hA] at hA' hL;simp only [Option.some.injEq,Addr.mk.injEq,and_true] at hA';obtain ⟨rfl,rfl⟩:=hA';have hf:s.fst=s.ln.path[s.k]:=by unfold bY.fst;simp [List.getD,List.getElem?_eq_getElem (show s.k<s.ln.path.length by omega)]
 have hs:s.snd=s.ln.path[s.k+1]:=by unfold bY.snd;simp [List.getD,List.getElem?_eq_getElem hk]
 rw [<- hf] at c0 c1;rw [<- hs] at d0 d1;unfold jh bg;unfold maxLen at hc;clear hf hs hR hA;generalize s.fst=P0 at *;generalize s.snd=P1 at *;generalize s.ln.path.length=N at *;generalize s.k=k at *;generalize s.ln.g=g at *;have HL:=Lib.hid hL;clear hL;go_enter Tryz.func231,Tryz.ntmps231;go_upto_region 1 with fail;obtain ⟨W,hW⟩:∃ W:World,W=((w.alloc (.cells #[.pointer (some ⟨g,0,none⟩),.int .i64 k] 230)).alloc (.cells #[.int .i64 0,.int .i64 0] 39)).alloc (.cells #[.int .i64 0,.int .i64 0] 39):=⟨_,rfl⟩;have Bw:Below w.heap.size w W:=by rw [hW];exact bA (bA (bA (bR w) _) _) _
 have Dw:w.drawn<=W.drawn:=by rw [hW];exact dA (dA (dA (dR w) _) _) _
 have X1:aj W w.heap.size 230 #[.pointer (some ⟨g,0,none⟩),.int .i64 k]:=by rw [hW];exact ((aj.made rfl _ _).alloc _).alloc _
 have X2:aj W (w.heap.size+1) 39 #[.int .i64 0,.int .i64 0]:=by rw [hW];exact (aj.made (by simp) _ _).alloc _
 have X3:aj W (w.heap.size+1+1) 39 #[.int .i64 0,.int .i64 0]:=by rw [hW];exact aj.made (by simp) _ _
 rw [<- hW];clear hW;have X9:=HL.out.keep Bw;have hgl:=HL.out.lt;obtain ⟨bc,-⟩:=Fh Bw;replace c0:=(bc b _ hlb).trans c0;replace c1:=(bc b _ hlb).trans c1;replace d0:=(bc b _ hlb).trans d0;replace d1:=(bc b _ hlb).trans d1;clear bc;obtain ⟨aO,aP,aS,-,-⟩:=X1.bH;obtain ⟨gy,gG,iP,uT,YS,X9e,X9f,X9g,-,-,-,-,-,-,-⟩:=X9.FP;obtain ⟨cu,cO,dH,CO,IJ⟩:=X2.bH;obtain ⟨lM,lN,nN,FQ,OE⟩:=X3.bH;have q1:0<=(k:Int):=by omega
 have q2:(k:Int)<N:=by omega
 have q3:0<=(k:Int)+1:=by omega
 have q4:(k:Int)+1<N:=by omega
 have q5:((k:Int)+1).toNat=k+1:=by omega
 have q6:IntKind.i64.wrap ((k:Int)+1)=(k:Int)+1:=IntWalk.i64_in _ (by omega);have q7:w.heap.size<w.heap.size+1:=by omega
 have q8:g<w.heap.size+1:=by omega
 have q9:b<w.heap.size+1:=by omega
 refine cZ (iq (w.heap.size+1) W) (.run 19 0 0 (.call 19 1048575 (.call 20 2097151 (.done)))) (by kernel_rfl) (Below.drew (Below.refl _ _)) (by kernel_rfl) (by kernel_rfl) (Nat.le_of_ble_eq_true (by kernel_rfl)) ?_;intro dn QR au aC hS
 iterate 19
  apply jV;exact au;exact rfl;exact hS;exact rfl
  · intro _ hqc;go_simp;try rfl
  try simp only [pu]
 refine aW (i:=19) (aH au rfl) (fun K hK=>?_);have aA:=Lib.hid hS;clear hS;refine aN (aV rfl) ?_;go_simp;have hS:iq (w.heap.size+1) W _:=(Below.setCell (Below.setCell aA.out (p:=⟨w.heap.size+1,0,none⟩) (Nat.le_refl _) (.int .i64 P0.x)) (p:=⟨w.heap.size+1,1,none⟩) (Nat.le_refl _) (.int .i64 P0.y));clear aA;refine hK.out _ _ hS (fun _=>?_);clear hK K
 try simp only [pu]
 refine aW (i:=20) (aH au rfl) (fun K hK=>?_);have aA:=Lib.hid hS;clear hS;refine aN (aV rfl) ?_;go_simp;have hS:iq (w.heap.size+1) W _:=(Below.setCell (Below.setCell aA.out (p:=⟨w.heap.size+1+1,0,none⟩) (Nat.le_succ _) (.int .i64 P1.x)) (p:=⟨w.heap.size+1+1,1,none⟩) (Nat.le_succ _) (.int .i64 P1.y));clear aA;refine hK.out _ _ hS (fun _=>?_);clear hK K
 try simp only [pu]
 refine bQ ?_;refine aC.down _ _ ?_;have hB:Below (w.heap.size+1) W _:=hS;clear hS aC au;go_wp2_with fail;refine ajX (g:=w.heap.size+1) (g':=w.heap.size+1+1) (cs:=#[.int .i64 P0.x,.int .i64 P0.y]) (cs':=#[.int .i64 P1.x,.int .i64 P1.y]) rfl Ik Ik rfl rfl rfl ?_ ?_ ⟨rfl,?_,?_⟩
 · exact ((aj.rW X2).far (p:=⟨w.heap.size+1+1,0,none⟩) (by simp) _).far (p:=⟨w.heap.size+1+1,1,none⟩) (by simp) _
 · exact aj.rW ((X3.far (p:=⟨w.heap.size+1,0,none⟩) (by simp) _).far (p:=⟨w.heap.size+1,1,none⟩) (by simp) _)
 · exact Bw.trans (hB.mono (by omega))
 · exact Nat.le_succ_of_le Dw
def jQ (s:bY):Int:=min s.fst.x s.snd.x
def ru (s:bY):Int:=max s.fst.x s.snd.x
set_option maxHeartbeats 1000000 in
theorem YT (s:bY) (w:World) (h:gX w s) :
  Calls Tryz.prog 228 #[jh s] w fun e w'=>e=.returned (.int .i64 (jQ s))/\oG w w':=by
 have TE:∀ W,Below w.heap.size w W->Calls Tryz.prog 231 #[jh s] W _:=fun W hW=>OD s W (h.keep hW);unfold jQ;unfold jh bg at TE;unfold jh;have HE:=Lib.hid TE;clear TE h;generalize s.fst=P0 at *;generalize s.snd=P1 at *;generalize s.k=k at *;generalize s.ln.g=g at *;go_enter Tryz.func228,Tryz.ntmps228;go_wp2_with fail;refine (HE.out _ (bA (bR w) _)).mono ?_;rintro e w1 ⟨rfl,hb1,hd1⟩;have Bw:Below w.heap.size w w1:=bT (bA (bR w) _) hb1;have Dw:w.drawn<=w1.drawn:=dT (dA (dR w) _) hd1;clear hb1 hd1;go_wp2_with fail
 all_goals
  go_ret;refine ⟨fZ ?_,?_,?_⟩
  · first | rfl | omega
  · exact bA (bA Bw _) _
  · exact Dw
set_option maxHeartbeats 1000000 in
theorem akU (s:bY) (w:World) (h:gX w s) :
  Calls Tryz.prog 229 #[jh s] w fun e w'=>e=.returned (.int .i64 (ru s))/\oG w w':=by
 have TE:∀ W,Below w.heap.size w W->Calls Tryz.prog 231 #[jh s] W _:=fun W hW=>OD s W (h.keep hW);unfold ru;unfold jh bg at TE;unfold jh;have HE:=Lib.hid TE;clear TE h;generalize s.fst=P0 at *;generalize s.snd=P1 at *;generalize s.k=k at *;generalize s.ln.g=g at *;go_enter Tryz.func229,Tryz.ntmps229;go_wp2_with fail;refine (HE.out _ (bA (bR w) _)).mono ?_;rintro e w1 ⟨rfl,hb1,hd1⟩;have Bw:Below w.heap.size w w1:=bT (bA (bR w) _) hb1;have Dw:w.drawn<=w1.drawn:=dT (dA (dR w) _) hd1;clear hb1 hd1;go_wp2_with fail
 all_goals
  go_ret;refine ⟨fZ ?_,?_,?_⟩
  · first | rfl | omega
  · exact bA (bA Bw _) _
  · exact Dw
set_option maxHeartbeats 1000000 in
theorem adp (s:bY) (w:World) :
  Calls Tryz.prog 232 #[jh s] w fun e w'=>e=.returned (.bool ((s.k:Int) == 0))/\Below w.heap.size w w':=by
 unfold jh;generalize s.k=k;generalize s.ln.g=g;go_enter Tryz.func232,Tryz.ntmps232;go_wp2_with fail;go_ret;exact ⟨rfl,bA (bR w) _⟩
set_option maxRecDepth 100000 in
set_option maxHeartbeats 1000000 in
theorem adq (s:bY) (w:World) (h:gX w s) :
  Calls Tryz.prog 233 #[jh s] w fun e w'=>e=.returned (.bool ((s.k:Int) == (s.ln.path.length:Int)-2))/\Below w.heap.size w w':=by
 obtain ⟨⟨hL,hP⟩,hk,hm⟩:=h;unfold YR at hL;clear hP;unfold jh;generalize s.ln.path.length=N at *;generalize s.k=k at *;generalize s.ln.g=g at *;have HL:=Lib.hid hL;clear hL;go_enter Tryz.func233,Tryz.ntmps233;go_upto_region 1 with fail;obtain ⟨W,hW⟩:∃ W:World,W=w.alloc (.cells #[.pointer (some ⟨g,0,none⟩),.int .i64 k] 230):=⟨_,rfl⟩;have Bw:Below w.heap.size w W:=by rw [hW];exact bA (bR w) _
 have X1:aj W w.heap.size 230 #[.pointer (some ⟨g,0,none⟩),.int .i64 k]:=by rw [hW];exact aj.made rfl _ _
 rw [<- hW];clear hW;have X9:=HL.out.keep Bw;obtain ⟨aO,aP,aS,-,-⟩:=X1.bH;obtain ⟨gy,gG,iP,uT,YS,X9e,X9f,X9g,-,-,-,-,-,-,-⟩:=X9.FP;have q6:IntKind.i64.wrap ((N:Int)-2)=(N:Int)-2:=IntWalk.i64_in _ (by omega);refine cZ (Since W) (.run 11 0 0 (.done)) (by kernel_rfl) (bD (bR _)) (by kernel_rfl) (by kernel_rfl) (Nat.le_of_ble_eq_true (by kernel_rfl)) ?_;intro dn QR au aC hS
 iterate 11
  apply bn;exact au;exact rfl;exact hS;exact rfl
  · intro _ hqc;go_simp;try rfl
  try simp only [pu]
 refine bQ ?_;refine aC.down _ _ ?_;have hB:Below W.heap.size W W.drew:=hS;clear hS aC au;go_wp2_with fail;go_ret;exact ⟨rfl,bT Bw hB⟩
theorem CJ.grow {w w':World} {x:Ln} {row:Option Nat} {e:TypeId} (h:CJ w x) (hg:w.grownBy w' row) (hr:∀ g,row=some g->∃ cs,aj w g e cs) (h1:e≠237) (h2:e≠39):CJ w' x:=by
 refine ⟨h.1.grow hg (fun e'=>?_),Own.grown h.2 hg (fun g hg' e'=>?_)⟩
 ·obtain ⟨cs,hb⟩:=hr _ e'.symm;exact aj.oC hb h.1 h1 rfl
 ·obtain ⟨cs,hb⟩:=hr _ e'.symm;obtain ⟨cs',hb'⟩:=h.2.blk hg';exact aj.oC hb hb' h2 rfl
theorem gX.grow {w w':World} {s:bY} {row:Option Nat} {e:TypeId} (h:gX w s) (hg:w.grownBy w' row) (hr:∀ g,row=some g->∃ cs,aj w g e cs) (h1:e≠237) (h2:e≠39):gX w' s:=⟨h.1.grow hg hr h1 h2,h.2⟩
theorem akV:Elem Tryz.prog 224 230 2 16:=Elem.uq (z:=.agg #[.pointer none,.int .i64 0]) (by kernel_rfl) (by kernel_rfl) rfl (by omega)
theorem Tz (s:bY):(jA s).length=2:=rfl
theorem adr (s:bY):∀ u∈jA s,u.oneCell'=true:=by simp [jA,Value.oneCell']
theorem Sl.akW {w:World} {g:Nat} {t:TypeId} {s:bY} (h:aj w g t #[.pointer (some ⟨s.ln.g,0,none⟩),.int .i64 s.k]) :
  Sl w (.slice (some ⟨g,0,none⟩) 1 1) ([s] : List bY).length (([s] : List bY).flatMap jA):=Sl.lit (n:=1) h rfl (fQ (by omega))
def D6 (l:List Pt):Bool:=(List.range (l.length-1)).all fun k=>!decide (l.getD k aB=l.getD (k+1) aB)
theorem akX (l:List Pt) (k:Nat) (hk:k+1<l.length) (h:l[k]=l[k+1]):D6 l=false:=by
 unfold D6;rw [List.all_eq_false];exact ⟨k,List.mem_range.2 (by omega),by simp [List.getD,List.getElem?_eq_getElem hk,List.getElem?_eq_getElem (show k<l.length by omega),h]⟩
theorem akY (l:List Pt) (h:∀ k (hk:k+1<l.length),¬ l[k]=l[k+1]):D6 l=true:=by
 unfold D6;rw [List.all_eq_true];intro k hk;have hk:k+1<l.length:=by have:=List.mem_range.1 hk;omega
 have:=h k hk
 simpa [List.getD,List.getElem?_eq_getElem hk,List.getElem?_eq_getElem (show k<l.length by omega)] using this
def l7 (p:Pl) (a:Ar):Bool:=match pathOf p a.id with
 | none=>false
 | some l=>!(a.fr == a.dst && decide ((l.length:Int)<4)) && D6 l
structure iF where
 arc:Ar
 path:List Pt
 k:Nat
def bY.abs (s:bY):iF:=⟨s.ln.arc,s.ln.path,s.k⟩
def gI (p:Pl) (a:Ar):List iF:=(List.range (((pathOf p a.id).getD []).length-1)).map fun k=>⟨a,(pathOf p a.id).getD [],k⟩
theorem akZ (p:Pl) (a:Ar) (k:Nat) (hk:k+1<((pathOf p a.id).getD []).length):(gI p a).take (k+1)=(gI p a).take k++[⟨a,(pathOf p a.id).getD [],k⟩]:=by
 have h:k<(gI p a).length:=by simp only [gI,List.length_map,List.length_range];omega
 rw [List.take_succ_eq_append_getElem h];simp [gI]
theorem ak0 {p:Pl} {id:Int} {l:List Pt} (h:pathOf p id=some l) (hsh:Short p):2<=l.length/\l.length<=1048578:=by
 unfold pathOf at h
 cases ha:findAr p.ah id with
 | none=>rw [ha] at h;cases h
 | some a =>
  rw [ha] at h;simp only [] at h;split at h
  ·injection h with h;subst h;rw [fM];have:=hsh a (YG ha)
   omega
  · cases h
def ads (w:World) (p:Pl) (e:Ending) (w':World):Prop :=
 Below w.heap.size w w'/\if p.ah.all (l7 p)=true then
  ∃ (sl:List bY) (v:Value),e=.returned (.tuple #[v,.bool true])/\sl.map bY.abs=p.ah.flatMap (gI p)/\(∀ s∈sl,gX w' s)/\Own w' w.heap.size 230 2 jA v sl
 else e=.returned (.tuple #[.slice none 0 0,.bool false])
set_option maxRecDepth 100000 in
set_option maxHeartbeats 4000000 in
theorem ak1 (v:Value) (p:Pl) (w:World) (h:dS w v p) (hsh:Short p) (hl:(p.ah.flatMap (gI p)).length<=2097152) :
  Calls Tryz.prog 225 #[v] w (ads w p):=by
 have HP:=Lib.hid h;have fD:=Lib.hid hsh;clear hsh;obtain ⟨vn,_,vf,al,rfl,hpa,-,⟨⟨Aa,ca,rfl,ha1,ha2,jy⟩,hV⟩,-⟩:=h;unfold maxLen at ha2;have HV:=Lib.hid hV;clear hV;have lK:=Lib.hid jy;clear jy;have hL:∀ k,((al.take k).flatMap fun a=>gI p a.1).length<=2097152:=fun k=>by
  have h1:=ac8 al (fun a=>gI p a.1) k;rw [hpa,List.flatMap_map] at hl;exact Nat.le_trans h1 hl
 have HL:=Lib.hid hL;have YU:p.ah.all (l7 p)=al.all (fun a=>l7 p a.1):=by rw [hpa,List.all_map];rfl
 have hFl:p.ah.flatMap (gI p)=al.flatMap (fun a=>gI p a.1):=by rw [hpa,List.flatMap_map]
 obtain ⟨Q,hQ⟩:∃ Q,Q=ads w p:=⟨_,rfl⟩;have hbad:∀ k (hk:k<al.length),l7 p al[k].1=false->∀ w',Below w.heap.size w w'->Q (.returned (.tuple #[.slice none 0 0,.bool false])) w':=fun k hk hb w' hw=>by
  rw [hQ];refine ⟨hw,?_⟩;rw [YU,Ox al (fun a=>l7 p a.1) k hk hb];rfl
 have hgood:(∀ k (hk:k<al.length),l7 p al[k].1=true)->∀ (sl:List bY) (v:Value) w',Below w.heap.size w w'->sl.map bY.abs=al.flatMap (fun a=>gI p a.1)->(∀ s∈sl,gX w' s)->Own w' w.heap.size 230 2 jA v sl->Q (.returned (.tuple #[v,.bool true])) w':=fun h1 sl v w' hw h2 h3 h4=>by
  rw [hQ];refine ⟨hw,?_⟩;rw [YU,YP al (fun a=>l7 p a.1) h1,if_pos rfl,hFl];exact ⟨sl,v,rfl,h2,h3,h4⟩
 have YV:=Lib.hid hbad;have ak2:=Lib.hid hgood;rw [<- hQ];clear hpa hl hL YU hFl hbad hgood hQ;go_enter Tryz.func225,Tryz.ntmps225;go_wp2_with fail;obtain ⟨W0,hW0⟩:∃ W0:World,W0=w.alloc (.cells #[vn,.slice Aa al.length ca,vf] 26):=⟨_,rfl⟩;have X1:aj W0 w.heap.size 26 #[vn,.slice Aa al.length ca,vf]:=by rw [hW0];exact aj.made rfl _ _
 have vV:Below w.heap.size w W0:=by rw [hW0];exact bA (bR w) _
 have HX0:=Lib.hid X1;rw [<- hW0];clear hW0 X1;go_loopw [2,13] (fun s i wr=>∃ (k:Nat) (sl:List bY),k<=al.length/\i=.int .i64 k/\sl.map bY.abs=((al.take k).flatMap fun a=>gI p a.1)/\(∀ s∈sl,gX wr s)/\Own wr W0.heap.size 230 2 jA s sl/\Below W0.heap.size W0 wr/\∀ j (hj:j<al.length),j<k->l7 p al[j].1=true) (fun _ i _=>al.length-(intOf i).toNat)
 case atStart => exact ⟨0,[],Nat.zero_le _,rfl,rfl,(fun _ h=>by cases h),Own.nil _ _ _ _ _,bR W0,fun _ _ h=>by omega⟩
 case round =>
  obtain ⟨k,sl,hk,rfl,hsl,hok,hown,hb,hno⟩:=hrel;have Hb:=Lib.hid hb;have kU:=Lib.hid hown;have OG:=Lib.hid hsl;have Hok:=Lib.hid hok;have Hno:=Lib.hid hno;have X1:=HX0.out.keep hb;have hsz:=hb.size;clear hb hown hsl hok hno;obtain ⟨aO,aP,aS,aT,-,-,-⟩:=X1.aY;by_cases hlt:k<al.length
  case neg =>
   have hE:al.take k=al:=List.take_of_length_le (by omega);have hs:=OG.out;rw [hE] at hs;have Hs:=Lib.hid hs;clear hE hs;go_wp2_with fail;exact ak2.out (fun j hj=>Hno.out j hj (by omega)) sl _ _ (bT vV Hb.out) Hs.out Hok.out (kU.out.jG vV.size)
  obtain ⟨b,o,rfl,hlb,c0,c1,c2,c3,c4,c5⟩:=(lK.out.mono (bT vV Hb.out)).ar hlt;obtain ⟨Av,cv,hv,-⟩:=HV.out k hlt;rw [hv] at c3;clear hv;go_wp2_with fail;refine (OA _ p _ _ (HP.out.mono (bT vV (bA Hb.out _))) fD.out).mono ?_;rintro e w2 ⟨Ap,cp,rfl,hb2,hop⟩;have hA1:Below wr.heap.size wr w2:=bT (bA (bR wr) _) hb2;have X5:aj w2 wr.heap.size 50 #[.int .i64 al[k].1.id,.int .i64 al[k].1.fr,.int .i64 al[k].1.dst,.slice Av al[k].1.via.length cv,.int .i64 al[k].1.left,.int .i64 al[k].1.right]:=(aj.made rfl _ _).keep hb2;have hown2:=kU.out.keep hA1;have hok2:∀ s∈sl,gX w2 s:=fun s hs=>(Hok.out s hs).keep hA1;have B2:=bT Hb.out hA1;have hsz2:=B2.size;replace X1:=X1.keep hA1;have fK:=Lib.hid X1;have ak3:=Lib.hid hown2;have ak4:=Lib.hid hok2;have HB2:=Lib.hid B2;clear hb2 hA1 hown2 hok2 B2 c0 c1 c2 c3 c4 c5 hlb X1 aO aP aS aT;obtain ⟨dw,dB,dL,jK,yT,OH,OI,-,-,-,-,-,-⟩:=X5.kZ
  cases hpo:pathOf p al[k].1.id with
  | none =>
   have hf:=Lib.hid (show l7 p al[k].1=false by unfold l7;rw [hpo]);clear hop;simp only [Option.isSome_none,Bool.false_eq_true,if_false,Option.getD_none,List.length_nil];go_wp2_with fail;exact YV.out k hlt hf.out _ (bT vV HB2.out)
  | some l =>
  rw [hpo] at hop;simp only [Option.isSome_some,if_true,Option.getD_some] at hop ⊢;have OJ:=Lib.hid hpo;have hll:=ak0 hpo fD.out;have Hop:=Lib.hid hop;clear hpo hop;have adt:l7 p al[k].1=(!(al[k].1.fr == al[k].1.dst && decide ((l.length:Int)<4)) && D6 l):=by unfold l7;rw [OJ.out]
  have adu:=Lib.hid adt;clear adt;by_cases hloop:al[k].1.fr=al[k].1.dst/\(l.length:Int)<4
  ·obtain ⟨he1,he2⟩:=hloop;have hf:=Lib.hid (show l7 p al[k].1=false by rw [adu.out,beq_iff_eq.2 he1,decide_eq_true he2];rfl);have hz:=beq_iff_eq.2 he1;clear he1;go_wp2_with fail;exact YV.out k hlt hf.out _ (bT vV HB2.out)
  have hz:(al[k].1.fr == al[k].1.dst && decide ((l.length:Int)<4))=false:=by
   rw [Bool.and_eq_false_iff];by_cases e:al[k].1.fr=al[k].1.dst
   · right;exact decide_eq_false (fun h=>hloop ⟨e,h⟩)
   · left;exact beq_eq_false_iff_ne.2 e
  have adv:=Lib.hid (show l7 p al[k].1=D6 l by rw [adu.out,hz];rfl);go_upto_region 5 with fail;go_cut [37] (fun u wx=>u=.bool false/\wx=w2)
  case first =>
   cases e1:(al[k].1.fr == al[k].1.dst)
   ·go_wp2_with fail;go_meet
    case rel => exact ⟨rfl,rfl⟩
   ·have e2:¬ (l.length:Int)<4:=fun h=>hloop ⟨eq_of_beq e1,h⟩;clear hloop hz;go_wp2_with fail;go_meet
    case rel => exact ⟨rfl,rfl⟩
  case rest =>
  obtain ⟨rfl,rfl⟩:=hcut;clear hloop hz;go_wp2_with fail;obtain ⟨ln,hln⟩:∃ ln:Ln,ln=⟨al[k].1,l,wc.heap.size,⟨Av,al[k].1.via.length,cv⟩,Ap,cp⟩:=⟨_,rfl⟩;obtain ⟨W5,qE⟩:∃ W5:World,W5=wc.alloc (.cells #[.int .i64 al[k].1.id,.int .i64 al[k].1.fr,.int .i64 al[k].1.dst,.slice Av al[k].1.via.length cv,.int .i64 al[k].1.left,.int .i64 al[k].1.right,.slice Ap l.length cp] 237):=⟨_,rfl⟩;have xM:Below wc.heap.size wc W5:=by rw [qE];exact bA (bR wc) _
  have hlo:CJ W5 ln:=by
   rw [hln];refine ⟨?_,(Hop.out.keep xM).jG (Nat.zero_le _)⟩;rw [qE];exact aj.made rfl _ _
  rw [<- qE];have Hlo:=Lib.hid hlo;have TB:=Lib.hid hln;have ak5:=Lib.hid (ak3.out.keep xM);have ak6:=Lib.hid (fun s hs=>(ak4.out s hs).keep xM);have dM:=Lib.hid (bT HB2.out xM);clear xM qE hlo hln X5 dw dB dL jK yT OH OI;obtain ⟨M,hM⟩:∃ M,l.length=M+1:=⟨l.length-1,by omega⟩;have HM:=Lib.hid hM;clear hM;obtain ⟨wo,rfl⟩:∃ wo:World,wo=wr:=⟨_,rfl⟩;go_loopw [2,45] (fun s i wx=>∃ (j:Nat) (sx:List bY),j+1<=l.length/\i=.int .i64 j/\sx.map bY.abs=((al.take k).flatMap fun a=>gI p a.1)++(gI p al[k].1).take j/\(∀ s∈sx,gX wx s)/\CJ wx ln/\Own wx W0.heap.size 230 2 jA s sx/\Below W0.heap.size W0 wx/\∀ m (hm:m+1<l.length),m<j->¬ l[m]=l[m+1]) (fun _ i _=>l.length-(intOf i).toNat)
  case atStart => exact ⟨0,sl,by omega,rfl,by rw [OG.out];simp,ak6.out,Hlo.out,ak5.out,dM.out,fun _ _ h=>by omega⟩
  case round =>
   obtain ⟨j,sx,hj,rfl,hsx,adw,adx,ady,hbx,hnx⟩:=hrel;have jo:=Lib.hid hbx;have adz:=Lib.hid ady;have YW:=Lib.hid hsx;have adA:=Lib.hid adw;have YX:=Lib.hid adx;have yU:=Lib.hid hnx;have ak7:=hbx.size;clear hbx ady hsx adw adx hnx;by_cases hlj:j+1<l.length
   case neg =>
    have hdist:=Lib.hid (show l7 p al[k].1=true by rw [adv.out];exact akY l (fun m hm=>yU.out m hm (by omega)));have Tq:=Lib.hid (show sx.map bY.abs=((al.take (k+1)).flatMap fun a=>gI p a.1) by
     rw [YW.out,List.take_succ_eq_append_getElem hlt,List.flatMap_append,List.take_of_length_le (l:=gI p al[k].1) (by simp only [gI,OJ.out,List.length_map,List.length_range,Option.getD_some];omega)];simp)
    go_wp2_with fail;go_roundw
    case rel => exact ⟨k+1,sx,by omega,by go_num,Tq.out,adA.out,adz.out,jo.out,all_succ (p:=fun x=>l7 p x.1=true) Hno.out hlt hdist.out⟩
    case measure => simp [intOf];omega
   have hrow:=Own.sl YX.out.2;rw [TB.out] at hrow;obtain ⟨A1',auR,he1,-,-,hrow⟩:=hrow;injection he1 with he1 _ he3;subst he1;subst he3;obtain ⟨pb,po,ak8,hlp,f0,f1⟩:=hrow.pt (k:=j) (by simp only [];omega);subst ak8;obtain ⟨pb',po',adB,ak9,f2,f3⟩:=hrow.pt (k:=j+1) (by simp only [];omega);simp only [Option.some.injEq,Addr.mk.injEq,and_true] at adB;obtain ⟨rfl,rfl⟩:=adB;simp only [] at f0 f1 f2 f3;clear hrow ak9;have TD:IntKind.i64.wrap ((j:Int)+1)=(j:Int)+1:=IntWalk.i64_in _ (by omega);have r1:0<=(j:Int):=by omega
   have r2:(j:Int)<l.length:=by omega
   have r3:0<=(j:Int)+1:=by omega
   have r4:(j:Int)+1<l.length:=by omega
   have r5:((j:Int)+1).toNat=j+1:=by omega
   have hE:=Io l[j] l[j+1];by_cases he:l[j]=l[j+1]
   ·have hd:decide (l[j]=l[j+1])=true:=decide_eq_true he;have hf:=Lib.hid (show l7 p al[k].1=false by rw [adv.out];exact akX l j hlj he);clear he;go_upto_region 11 with fail;refine cZ (Since wr) (.run 10 0 0 (.done)) (by kernel_rfl) (bD (bR _)) (by kernel_rfl) (by kernel_rfl) (Nat.le_of_ble_eq_true (by kernel_rfl)) ?_;intro dn QR au aC hS
    iterate 10
     apply bn;exact au;exact rfl;exact hS;exact rfl
     · intro _ hqc;go_simp;try rfl
     try simp only [pu]
    refine bQ ?_;refine aC.down _ _ ?_;have hB:Below wr.heap.size wr wr.drew:=hS;clear hS aC au;go_wp2_with fail;exact YV.out k hlt hf.out _ (bT vV (bT jo.out hB))
   have hd:decide (l[j]=l[j+1])=false:=decide_eq_false he;have He:=Lib.hid he;clear he;go_upto_region 11 with fail;refine cZ (Since wr) (.run 10 0 0 (.done)) (by kernel_rfl) (bD (bR _)) (by kernel_rfl) (by kernel_rfl) (Nat.le_of_ble_eq_true (by kernel_rfl)) ?_;intro dn QR au aC hS
   iterate 10
    apply bn;exact au;exact rfl;exact hS;exact rfl
    · intro _ hqc;go_simp;try rfl
    try simp only [pu]
   refine bQ ?_;refine aC.down _ _ ?_;have hB:Below wr.heap.size wr wr.drew:=hS;clear hS aC au;clear f0 f1 f2 f3 TD r3 r4 r5 hE;have hlen:=Lib.hid (show sx.length+1<=2097152 by
    have h2:=congrArg List.length YW.out;rw [List.length_map,List.length_append,List.length_take] at h2;have h3:=HL.out (k+1);rw [List.take_succ_eq_append_getElem hlt,List.flatMap_append,List.length_append] at h3;simp only [List.flatMap_cons,List.flatMap_nil,List.append_nil] at h3;have h4:(gI p al[k].1).length=l.length-1:=by simp only [gI,OJ.out,List.length_map,List.length_range,Option.getD_some]
    omega)
   have hnew:Hid (gX wr.drew ⟨ln,j⟩):=Lib.hid ⟨YX.out.keep hB,by rw [TB.out];exact ⟨hlj,by simp only [];omega⟩⟩;have hgl:ln.g=wc.heap.size:=by rw [TB.out]
   have Hgl:=Lib.hid hgl;have YZ:Hid (Own wr.drew W0.heap.size 230 2 jA u2 sx):=Lib.hid adz.out;have ala:Hid (∀ s∈sx,gX wr.drew s):=Lib.hid fun s hs=>(adA.out s hs).keep hB;have alb:Hid (CJ wr.drew ln):=Lib.hid (YX.out.keep hB);have alc:W0.heap.size<=wr.drew.heap.size:=ak7;clear hB hgl;go_wp2_with
    (at_builtin
     refine lq _ rfl (.tmp 58) (.tmp 62) _ rfl (base:=W0.heap.size) akV Tz adr rfl (YZ.out.alloc _) rfl (l2:=[(⟨ln,j⟩:bY)]) (Sl.akW (by rw [Hgl.out];exact aj.made (by simp) _ _)) (by have:=hlen.out;simp only [List.length_cons,List.length_nil];omega) (by have:=hlen.out;simp only [List.length_cons,List.length_nil];omega) (by simp;omega) ?_;intro v1 w1 hown1 hg hat;have zU:=Lib.hid (show Below W0.heap.size W0 w1 from bG (bA (bD jo.out) _) hg (fun g hk=>(YZ.out.lt g hk).1));have hrow:∀ g,(u2:Value).ownBlock=some g->∃ cs,aj (wr.drew.alloc (.cells #[.pointer (some ⟨wc.heap.size,0,none⟩),.int .i64 j] 230)) g 230 cs:=fun g hg=>(YZ.out.alloc _).blk hg;have ald:=Lib.hid (show ∀ s∈sx++[(⟨ln,j⟩:bY)],gX w1 s from fun s hs=>by
      rcases List.mem_append.1 hs with h | h
      · exact ((ala.out s h).keep (bA (bR wr.drew) _)).grow hg hrow (by decide) (by decide)
      ·rw [List.mem_singleton.1 h];exact (hnew.out.keep (bA (bR wr.drew) _)).grow hg hrow (by decide) (by decide))
     have ale:=Lib.hid ((alb.out.keep (bA (bR wr.drew) _)).grow hg hrow (by decide) (by decide));clear hg hat hrow;have Iz:=Lib.hid hown1;clear hown1)
   have Tn:=Lib.hid (show (sx++[(⟨ln,j⟩:bY)]).map bY.abs=((al.take k).flatMap fun a=>gI p a.1)++(gI p al[k].1).take (j+1) by
    rw [List.map_append,YW.out,akZ p al[k].1 j (by rw [OJ.out];exact hlj),List.append_assoc];simp only [List.map_cons,List.map_nil,bY.abs,OJ.out,Option.getD_some,TB.out])
   go_roundw
   case rel => exact ⟨j+1,_,by omega,by go_num,Tn.out,ald.out,ale.out,Iz.out,zU.out,fun m hm hmj=>if e:m<j then yU.out m hm e else by
     have:m=j:=by omega
     subst this;exact He.out⟩
   case measure => simp [intOf];omega
end Go.Proofs.YtialfdomhoojiaaGreat
