import Derived.Test.YtialfdomhoojiaaGreatJ03
import Derived.Lib.AppendZerosOnto
import Derived.Test.YtialfdomhoojiaaGreatGB
set_option linter.unusedSimpArgs false
set_option linter.unusedVariables false
namespace Go.Proofs.YtialfdomhoojiaaGreat
open Go.RowKit
def hasB (l:List Int) (a:Ar):Bool:=l.any (fun y=>y == a.fr) && l.any (fun y=>y == a.dst)
def yj (p:Pl) (l:List Int):Int :=
 if AB (p.nodes.map (·.pt))=true then 8 else if p.ah.all (hasB l)=false then 7 else if GK p=false then 12 else 0
set_option maxRecDepth 100000 in
set_option maxHeartbeats 4000000 in
theorem ajI (v u:Value) (p:Pl) (l:List Int) (w:World) (h:dS w v p) (hu:Ints w u l) :
  Calls Tryz.prog 172 #[v,u] w fun e w'=>e=.returned (.int .i64 (yj p l))/\Below w.heap.size w w':=by
 obtain ⟨_,_,vf,al,rfl,hpa,⟨An,cn,rfl,hn1,hn2,hR⟩,⟨⟨Aa,ca,rfl,ha1,ha2,jV⟩,hV⟩,hF⟩:=h;unfold maxLen at hn2 ha2;have HF:=Lib.hid hF;clear hF;have HU:=Lib.hid hu;clear hu;have HV:=Lib.hid hV;clear hV;have HR:=Lib.hid hR;clear hR;have mM:=Lib.hid jV;clear jV;have hc:yj p l=if AB (p.nodes.map (·.pt))=true then 8 else if al.all (fun a=>hasB l a.1)=false then 7 else if al.all (fun a=>jy p.faces a.1.left && jy p.faces a.1.right)=false then 12 else 0:=by
  unfold yj GK;rw [hpa,List.all_map,List.all_map];rfl
 obtain ⟨q,hq⟩:∃ q,yj p l=q:=⟨_,rfl⟩;rw [hq];rw [hc] at hq;have Hq:=Lib.hid hq;clear hq hc hpa;generalize p.nodes=nl at *;generalize p.faces=fl at *;go_enter Tryz.func172,Tryz.ntmps172;go_wp2_with fail;obtain ⟨W0,hW0⟩:∃ W0:World,W0=w.alloc (.cells #[.slice An nl.length cn,.slice Aa al.length ca,vf] 26):=⟨_,rfl⟩;have X1:aj W0 w.heap.size 26 #[.slice An nl.length cn,.slice Aa al.length ca,vf]:=by rw [hW0];exact aj.made rfl _ _
 have uV:Below w.heap.size w W0:=by rw [hW0];exact bA (bR w) _
 rw [<- hW0];have HX0:=Lib.hid X1;have HB0:=Lib.hid uV;clear hW0 X1 uV;go_loopw [18] (fun s wr=>∃ i:Nat,i<=nl.length/\s=.int .i64 i/\Below W0.heap.size W0 wr/\∀ j k (hk:k<j) (hj:j<nl.length),j<i->¬ nl[j].pt=nl[k].pt) (fun s _=>nl.length-(intOf s).toNat)
 case atStart => exact ⟨0,Nat.zero_le _,rfl,bR W0,fun _ _ _ _ h=>by omega⟩
 case round =>
  obtain ⟨i,hi,rfl,hb,hno⟩:=hrel;have Hb:=Lib.hid hb;have Hno:=Lib.hid hno;have X1:=HX0.out.keep hb;clear hb hno;obtain ⟨aI,aJ,aK,aP,-,-,-⟩:=X1.bC;by_cases hlt:i<nl.length
  case pos =>
   obtain ⟨b,o,rfl,hlb,c0,c1,c2⟩:=(HR.out.mono (bT HB0.out Hb.out)).nd hlt;go_wp2_with fail;obtain ⟨W1,hW1⟩:∃ W1:World,W1=wr.alloc (.cells #[.int .i64 nl[i].id,.int .i64 nl[i].pt.x,.int .i64 nl[i].pt.y] 45):=⟨_,rfl⟩;have B1:Below W0.heap.size W0 W1:=by rw [hW1];exact bA Hb.out _
   have X6:aj W1 wr.heap.size 45 #[.int .i64 nl[i].id,.int .i64 nl[i].pt.x,.int .i64 nl[i].pt.y]:=by rw [hW1];exact aj.made rfl _ _
   rw [<- hW1];have jL:=Lib.hid X6;have HB1:=Lib.hid B1;clear c0 c1 c2 hlb hW1 X1 aI aJ aK aP X6 B1;obtain ⟨wo,rfl⟩:∃ wo:World,wo=wr:=⟨_,rfl⟩;go_loopw [28] (fun s wx=>∃ k:Nat,k<=i/\s=.int .i64 k/\Below W1.heap.size W1 wx/\∀ m (hm:m<nl.length),m<k->¬ nl[i].pt=nl[m].pt) (fun s _=>i-(intOf s).toNat)
   case atStart => exact ⟨0,Nat.zero_le _,rfl,bR W1,fun _ _ h=>by omega⟩
   case round =>
    obtain ⟨k,hk,rfl,hb,Nh⟩:=hrel;have Hb2:=Lib.hid hb;have JB:=Lib.hid Nh;have X6:=jL.out.keep hb;clear hb Nh;by_cases hlk:k<i
    case neg =>
     have HN:=Lib.hid (show ∀ j m (hm:m<j) (hj:j<nl.length),j<i+1->¬ nl[j].pt=nl[m].pt from fun j m hm hj hji=>by
      by_cases e:j<i
      · exact Hno.out j m hm hj e
      ·have:j=i:=by omega
       subst this;exact JB.out m (by omega) (by omega))
     go_wp2_with fail;go_roundw
     case rel => exact ⟨i+1,by omega,by go_num,bT HB1.out Hb2.out,HN.out⟩
     case measure => simp [intOf];omega
    have hkl:k<nl.length:=by omega
    obtain ⟨b',o',iH,hlb,c0,c1,c2⟩:=(HR.out.mono (bT HB0.out (bT HB1.out Hb2.out))).nd hkl;simp only [Option.some.injEq,Addr.mk.injEq,and_true] at iH;obtain ⟨rfl,rfl⟩:=iH;obtain ⟨jk,jl,jm,sK,-,-,-⟩:=X6.bC;have hE:=Gj nl[i].pt nl[k].pt;by_cases he:nl[i].pt=nl[k].pt
    ·have hd:decide (nl[i].pt=nl[k].pt)=true:=decide_eq_true he;have hf:=Lib.hid (show 8=q by rw [<- Hq.out,if_pos (ace (nl.map (·.pt)) i k hlk (by simpa using hlt) (by simpa using he))]);clear he;go_wp2_with fail;go_ret;exact ⟨fA hf.out,bT HB0.out (bT HB1.out (bA Hb2.out _))⟩
    ·have hd:decide (nl[i].pt=nl[k].pt)=false:=decide_eq_false he;have He:=Lib.hid he;clear he;go_wp2_with fail;go_roundw
     case rel => exact ⟨k+1,by omega,by go_num,bA Hb2.out _,fun m hm hmk=>if e:m<k then JB.out m hm e else by
       have:m=k:=by omega
       subst this;exact He.out⟩
     case measure => simp [intOf];omega
  case neg =>
  have hd:=Lib.hid (acf (nl.map (·.pt)) (fun j m hm hj=>by
    have:=Hno.out j m hm (by simpa using hj) (by rw [List.length_map] at hj;omega)
    simpa using this))
  have ho:=Hq.out;rw [hd.out] at ho;simp only [Bool.false_eq_true,if_false] at ho;replace Hq:=Lib.hid ho;clear ho hd;go_wp2_with fail;obtain ⟨wo,rfl⟩:∃ wo:World,wo=wr:=⟨_,rfl⟩;have eH:=Lib.hid X1;have iR:=Lib.hid (bT HB0.out Hb.out);clear X1 aI aJ aK aP Hno;go_loopw [42] (fun s wr=>∃ k:Nat,k<=al.length/\s=.int .i64 k/\Below wo.heap.size wo wr/\∀ j (hj:j<al.length),j<k->hasB l al[j].1=true) (fun s _=>al.length-(intOf s).toNat)
  case atStart => exact ⟨0,Nat.zero_le _,rfl,bR wo,fun _ _ h=>by omega⟩
  case round =>
   obtain ⟨k,hk,rfl,hb,hno⟩:=hrel;have Hb2:=Lib.hid hb;have Hno:=Lib.hid hno;have X1:=eH.out.keep hb;clear hb hno
   try clear aI
   try clear aJ
   try clear aK
   try clear aP
   obtain ⟨aI,aJ,aK,aP,-,-,-⟩:=X1.bC;by_cases hlt:k<al.length
   case pos =>
    obtain ⟨b,o,rfl,hlb,c0,c1,c2,c3,c4,c5⟩:=(mM.out.mono (bT iR.out Hb2.out)).ar hlt;obtain ⟨Av,cv,hv,-⟩:=HV.out k hlt;rw [hv] at c3;clear hv;go_wp2_with fail;refine (QS _ l _ _ (HU.out.mono (bA (bT iR.out Hb2.out) _))).mono ?_;rintro e w2 ⟨rfl,hb2⟩;have B2:=bT (bA Hb2.out _) hb2;have dU:aj w2 wr.heap.size 50 _:=(aj.made rfl _ _).keep hb2;clear hb2 c0 c1 c2 c3 c4 c5 hlb;obtain ⟨jX,jY,jZ,Em,GL,GN,GR,-,-,-,-,-,-⟩:=dU.kZ
    cases h1:l.any (fun y=>y == al[k].1.fr)
    case false =>
     have hg:=Lib.hid (Nb al (fun a=>hasB l a.1) k hlt (by simp [hasB,h1]));have hf:=Lib.hid (show 7=q by rw [<- Hq.out,if_pos hg.out]);clear h1;go_wp2_with fail;go_ret;exact ⟨fA hf.out,bT iR.out B2⟩
    have H1:=Lib.hid h1;clear h1;go_wp2_with fail;refine (QS _ l _ _ (HU.out.mono (bT iR.out B2))).mono ?_;rintro e w3 ⟨rfl,hb3⟩;have B3:=bT B2 hb3;clear hb3 dU jX jY jZ Em GL GN GR
    cases h1:l.any (fun y=>y == al[k].1.dst)
    case false =>
     have hg:=Lib.hid (Nb al (fun a=>hasB l a.1) k hlt (by simp [hasB,h1]));have hf:=Lib.hid (show 7=q by rw [<- Hq.out,if_pos hg.out]);clear h1;go_wp2_with fail;go_ret;exact ⟨fA hf.out,bT iR.out B3⟩
    have hg:=Lib.hid (show hasB l al[k].1=true by simp only [hasB,H1.out,h1];rfl);clear h1;go_wp2_with fail;go_roundw
    case rel => exact ⟨k+1,by omega,by go_num,B3,all_succ (p:=fun x=>hasB l x.1=true) Hno.out hlt hg.out⟩
    case measure => simp [intOf];omega
   case neg =>
   have hd:=Lib.hid (WQ al (fun a=>hasB l a.1) (fun j hj=>Hno.out j hj (by omega)));have ho:=Hq.out;rw [hd.out] at ho;simp only [Bool.true_eq_false,if_false] at ho;replace Hq:=Lib.hid ho;clear ho hd;go_wp2_with fail;obtain ⟨wq,rfl⟩:∃ wq:World,wq=wr:=⟨_,rfl⟩;replace eH:=Lib.hid X1;replace iR:=Lib.hid (bT iR.out Hb2.out);clear X1 aI aJ aK aP Hno Hb2;go_loopw [62] (fun s wr=>∃ k:Nat,k<=al.length/\s=.int .i64 k/\Below wq.heap.size wq wr/\∀ j (hj:j<al.length),j<k->(jy fl al[j].1.left && jy fl al[j].1.right)=true) (fun s _=>al.length-(intOf s).toNat)
   case atStart => exact ⟨0,Nat.zero_le _,rfl,bR wq,fun _ _ h=>by omega⟩
   case round =>
    obtain ⟨k,hk,rfl,hb,hno⟩:=hrel;have Hb2:=Lib.hid hb;have Hno:=Lib.hid hno;have X1:=eH.out.keep hb;clear hb hno
    try clear aI
    try clear aJ
    try clear aK
    try clear aP
    obtain ⟨aI,aJ,aK,aP,-,-,-⟩:=X1.bC;by_cases hlt:k<al.length
    case neg =>
     have hd:=Lib.hid (WQ al (fun a=>jy fl a.1.left && jy fl a.1.right) (fun j hj=>Hno.out j hj (by omega)));have hf:=Lib.hid (show 0=q by rw [<- Hq.out,hd.out];rfl);go_wp2_with fail;go_ret;exact ⟨fA hf.out,bT iR.out Hb2.out⟩
    obtain ⟨b,o,rfl,hlb,c0,c1,c2,c3,c4,c5⟩:=(mM.out.mono (bT iR.out Hb2.out)).ar hlt;obtain ⟨Av,cv,hv,-⟩:=HV.out k hlt;rw [hv] at c3;clear hv;go_wp2_with fail;obtain ⟨W5,qh⟩:∃ W5:World,W5=wr.alloc (.cells #[.int .i64 al[k].1.id,.int .i64 al[k].1.fr,.int .i64 al[k].1.dst,.slice Av al[k].1.via.length cv,.int .i64 al[k].1.left,.int .i64 al[k].1.right] 50):=⟨_,rfl⟩;have Cm:Below wr.heap.size wr W5:=by rw [qh];exact bA (bR wr) _
    have dK:=Lib.hid (bT Hb2.out Cm);have bK:=Lib.hid (X1.keep Cm);rw [<- qh];clear c0 c1 c2 c3 c4 c5 hlb qh Cm X1 aI aJ aK aP;obtain ⟨wp,rfl⟩:∃ wp:World,wp=wr:=⟨_,rfl⟩;go_loopw [71] (fun s wx=>∃ j:Int,(j=0\/j=1\/j=2)/\s=.int .i64 j/\Below W5.heap.size W5 wx/\(1<=j->jy fl al[k].1.left=true)/\(2<=j->jy fl al[k].1.right=true)) (fun s _=>2-(intOf s).toNat)
    case atStart => exact ⟨0,by omega,rfl,bR W5,fun h=>by omega,fun h=>by omega⟩
    case round =>
     obtain ⟨j,hj,rfl,hb,hl,hr⟩:=hrel;have Hb3:=Lib.hid hb;have Hl:=Lib.hid hl;have Hr:=Lib.hid hr;clear hb hl hr;rcases hj with rfl | rfl | rfl
     ·have hI:∀ w,(Instr.index 116 (.agg #[.int .i64 al[k].1.left,.int .i64 al[k].1.right]) (.int .i64 0)).run Tryz.prog w=.ok (.int .i64 al[k].1.left) w:=fun _=>by kernel_rfl
      cases hz:(al[k].1.left != 0)
      case false =>
       have hg:=Lib.hid (show jy fl al[k].1.left=true by
        have:al[k].1.left=0:=by simpa [bne_eq_false_iff_eq] using hz
        simp [jy,this])
       go_wp2_with fail;go_roundw
       case rel => exact ⟨1,by omega,rfl,Hb3.out,fun h=>by first | exact hg.out | exact Hl.out (by omega),fun h=>by first | omega | exact hg.out⟩
       case measure => simp [intOf]
      have X1:=bK.out.keep Hb3.out
      try clear aI
      try clear aJ
      try clear aK
      try clear aP
      obtain ⟨aI,aJ,aK,aP,-,-,-⟩:=X1.bC;go_wp2_with fail;refine (QS _ fl _ _ (HF.out.mono (bT iR.out (bT dK.out Hb3.out)))).mono ?_;rintro e w6 ⟨rfl,hb6⟩;have B6:=bT Hb3.out hb6;clear hb6 X1 aI aJ aK aP
      cases h1:fl.any (fun y=>y == al[k].1.left)
      case false =>
       have hfc:=Lib.hid (show jy fl al[k].1.left=false by
        have:¬ al[k].1.left=0:=by simpa using hz
        simp only [jy,h1];simpa using this)
       have hg:=Lib.hid (Nb al (fun a=>jy fl a.1.left && jy fl a.1.right) k hlt (by simp [hfc.out]));have hf:=Lib.hid (show 12=q by rw [<- Hq.out,if_pos hg.out]);clear h1;go_wp2_with fail;go_ret;exact ⟨fA hf.out,bT iR.out (bT dK.out B6)⟩
      have hg:=Lib.hid (show jy fl al[k].1.left=true by simp [jy,h1]);clear h1;go_wp2_with fail;go_roundw
      case rel => exact ⟨1,by omega,rfl,B6,fun h=>by first | exact hg.out | exact Hl.out (by omega),fun h=>by first | omega | exact hg.out⟩
      case measure => simp [intOf]
     ·have hI:∀ w,(Instr.index 116 (.agg #[.int .i64 al[k].1.left,.int .i64 al[k].1.right]) (.int .i64 1)).run Tryz.prog w=.ok (.int .i64 al[k].1.right) w:=fun _=>by kernel_rfl
      cases hz:(al[k].1.right != 0)
      case false =>
       have hg:=Lib.hid (show jy fl al[k].1.right=true by
        have:al[k].1.right=0:=by simpa [bne_eq_false_iff_eq] using hz
        simp [jy,this])
       go_wp2_with fail;go_roundw
       case rel => exact ⟨2,by omega,rfl,Hb3.out,fun h=>by first | exact hg.out | exact Hl.out (by omega),fun h=>by first | omega | exact hg.out⟩
       case measure => simp [intOf]
      have X1:=bK.out.keep Hb3.out
      try clear aI
      try clear aJ
      try clear aK
      try clear aP
      obtain ⟨aI,aJ,aK,aP,-,-,-⟩:=X1.bC;go_wp2_with fail;refine (QS _ fl _ _ (HF.out.mono (bT iR.out (bT dK.out Hb3.out)))).mono ?_;rintro e w6 ⟨rfl,hb6⟩;have B6:=bT Hb3.out hb6;clear hb6 X1 aI aJ aK aP
      cases h1:fl.any (fun y=>y == al[k].1.right)
      case false =>
       have hfc:=Lib.hid (show jy fl al[k].1.right=false by
        have:¬ al[k].1.right=0:=by simpa using hz
        simp only [jy,h1];simpa using this)
       have hg:=Lib.hid (Nb al (fun a=>jy fl a.1.left && jy fl a.1.right) k hlt (by simp [hfc.out]));have hf:=Lib.hid (show 12=q by rw [<- Hq.out,if_pos hg.out]);clear h1;go_wp2_with fail;go_ret;exact ⟨fA hf.out,bT iR.out (bT dK.out B6)⟩
      have hg:=Lib.hid (show jy fl al[k].1.right=true by simp [jy,h1]);clear h1;go_wp2_with fail;go_roundw
      case rel => exact ⟨2,by omega,rfl,B6,fun h=>by first | exact hg.out | exact Hl.out (by omega),fun h=>by first | omega | exact hg.out⟩
      case measure => simp [intOf]
     ·have hg:=Lib.hid (show (jy fl al[k].1.left && jy fl al[k].1.right)=true by rw [Hl.out (by omega),Hr.out (by omega)];rfl);go_wp2_with fail;go_roundw
      case rel => exact ⟨k+1,by omega,by go_num,bT dK.out Hb3.out,all_succ (p:=fun x=>(jy fl x.1.left && jy fl x.1.right)=true) Hno.out hlt hg.out⟩
      case measure => simp [intOf];omega
theorem ajJ:∃ i,Tryz.prog.info? 39=some i/\i.zero=some (.agg #[.int .i64 0,.int .i64 0])/\i.size=2/\i.bytes=16:=info_parts (by kernel_rfl)
set_option maxRecDepth 100000 in
set_option maxHeartbeats 1000000 in
theorem ajK (n:Nat) (w:World) (h1:1<=n) (h2:n<=2097152) :
  Calls Tryz.prog 139 #[.slice none 0 0,.int .i64 n] w fun e w'=>∃ c,e=.returned (.slice (some ⟨w.heap.size,0,none⟩) 0 c)/\Below w.heap.size w w'/\Own w' w.heap.size 39 2 iV (.slice (some ⟨w.heap.size,0,none⟩) 0 c) []:=by
 obtain ⟨i,hi,hz,hs,hb⟩:=ajJ;have hr:∀ ty,(Builtin.append_ #[46,3] ty #[.slice none 0 0,.int .i64 n]).run Tryz.prog w=_:=fun ty =>
  Lib.run_append_grow_zeros w 46 3 ty 39 i _ .i64 .i64 Tryz.underlying46 Tryz.underlying3 hi hz none 0 0 [] (by simpa using run_firstCells_none (P:=Tryz.prog) (w:=w.drew) i.size 0 0 0) n (by omega) (by omega) (by omega) (by omega) (by rw [hb];omega)
   (by rw [hb];exact growslice_fits (by omega) (by omega))
 have hge:=grownCap_ge w (0+n) 0 39;have hle:=grownCap_le_maxLen w (0+n) 0 39 (by unfold maxLen;omega);have hle':=hle;unfold maxLen at hle';generalize hG:grownCap w (0+n) 0 39=G at *;have HR:=Lib.hid hr;have Hle:=Lib.hid hle;clear hr hG hle hi hz hs hb;simp only [Nat.zero_add] at HR;have q1:¬ ((n:Int)<0):=by omega
 have q2:0<(n:Int):=by omega
 go_enter Tryz.func139,Tryz.ntmps139;go_wp2_with (at_builtin;refine Lib.wpList_append_run _ rfl _ _ _ _ rfl _ _ rfl rfl _ _ (HR.out _) ?_);go_ret;refine ⟨_,rfl,bA (bD (bR w)) _,?_⟩;refine ⟨rfl,.inr ⟨w.heap.size,_,_,rfl,Nat.le_refl _,heap_alloc_new _ _,Nat.zero_le _,Hle.out,?_,by simp⟩⟩;simp only [Array.size_append,List.size_toArray,List.length_nil,size_zeroCells];simp only [Value.cells,List.size_toArray,List.length_cons,List.length_nil];omega
structure PS where
 l:List Pt
 a:Option Addr
 c:Nat
def psC (x:PS):List Value:=[.slice x.a x.l.length x.c]
theorem Row.ps {w:World} {A:Option Addr} {l:List PS} (h:Row w A (l.flatMap psC)) {k:Nat} (hk:k<l.length) :
  ∃ b o,A=some ⟨b,o,none⟩/\b<w.heap.size/\w.cell? ⟨b,o+k,none⟩=some (.slice l[k].a l[k].l.length l[k].c):=by
 obtain ⟨b,o,hA,hb,hc⟩:=h.at_ (n:=1) (fun _=>rfl) hk (by omega);exact ⟨b,o,hA,hb,by simpa using hc 0 _ rfl⟩
def En (L:List PS) (k:Nat):Nat:=((L.take k).flatMap (·.l)).length
theorem acu (L:List PS) (k:Nat) (hk:k<L.length):En L (k+1)=En L k+L[k].l.length:=by
 unfold En;rw [List.take_succ_eq_append_getElem hk,List.flatMap_append,List.length_append];simp
set_option maxRecDepth 100000 in
set_option maxHeartbeats 1000000 in
theorem ajL (v:Value) (L:List PS) (w:World) (hv:Sl w v L.length (L.flatMap psC)) (hp:∀ k (hk:k<L.length),gG w (.slice L[k].a L[k].l.length L[k].c) L[k].l)
  (hL:L.length<=1048576) (h1:1<=(L.flatMap (·.l)).length) (h2:(L.flatMap (·.l)).length<=2097152) :
  Calls Tryz.prog 75 #[v] w (ajr w (L.flatMap (·.l))):=by
 obtain ⟨A,c,rfl,hn,hc,hR⟩:=hv;unfold maxLen at hc;have HP:=Lib.hid hp;clear hp;have HR:=Lib.hid hR;clear hR;have hb:∀ k,En L k<=2097152:=fun k=>Nat.le_trans (acd L (·.l) k) h2;have rD:=Lib.hid hb;clear hb;have H1:=Lib.hid h1;have H2:=Lib.hid h2;clear h1 h2;go_enter Tryz.func75,Tryz.ntmps75;go_wp2_with fail;go_loopw [3,11] (fun s i wr=>∃ k:Nat,k<=L.length/\i=.int .i64 k/\s=.int .i64 (En L k:Nat)/\wr=w) (fun _ i _=>L.length-(intOf i).toNat)
 case atStart => exact ⟨0,Nat.zero_le _,rfl,rfl,rfl⟩
 case round =>
  obtain ⟨k,hk,rfl,rfl,rfl⟩:=hrel;by_cases hlt:k<L.length
  case pos =>
   obtain ⟨b,o,rfl,hlb,c0⟩:=HR.out.ps hlt;have ht:=acu L k hlt;have hb:=rD.out (k+1);have Ht:=Lib.hid ht;rw [ht] at hb;clear ht;go_wp2_with fail;go_roundw
   case rel => exact ⟨k+1,by omega,by go_num,by rw [Ht.out];go_num,trivial⟩
   case measure => simp [intOf];omega
  have hE:L.take k=L:=List.take_of_length_le (by omega);have hN0:En L k=(L.flatMap (·.l)).length:=by unfold En;rw [hE]
  rw [hN0];have h1:=H1.out;have h2:=H2.out;clear hE hN0;generalize hN:(L.flatMap (·.l)).length=N at *;have HN:=Lib.hid hN;clear hN;go_wp2_with fail;refine (ajK N _ h1 h2).mono ?_;rintro e w1 ⟨c1,rfl,hb1,hown⟩;have kD:=Lib.hid hown;have Hb1:=Lib.hid hb1;clear hown hb1 h1 h2;obtain ⟨wo,rfl⟩:∃ wo:World,wo=wr:=⟨_,rfl⟩;go_wp2_with fail;go_loopw [6,27] (fun s i wr=>∃ k:Nat,k<=L.length/\i=.int .i64 k/\Own wr wo.heap.size 39 2 iV s ((L.take k).flatMap (·.l))/\Below wo.heap.size wo wr) (fun _ i _=>L.length-(intOf i).toNat)
  case atStart => exact ⟨0,Nat.zero_le _,rfl,kD.out,Hb1.out⟩
  case round =>
   obtain ⟨k,hk,rfl,hown,hb⟩:=hrel;have Hb:=Lib.hid hb;replace kD:=Lib.hid hown;have hsz:=hb.size;clear hb hown;by_cases hlt:k<L.length
   case neg =>
    have hE:L.take k=L:=List.take_of_length_le (by omega);have ho:=kD.out;rw [hE] at ho;replace kD:=Lib.hid ho;clear ho hE;go_wp2_with fail;go_ret;exact ⟨_,rfl,Hb.out,kD.out⟩
   obtain ⟨b,o,rfl,hlb,c0⟩:=(HR.out.mono Hb.out).ps hlt;have hlen:=Lib.hid (show ((L.take k).flatMap (·.l)).length+L[k].l.length<=2097152 by
    have ht:=acu L k hlt;have:=rD.out (k+1)
    show En L k+L[k].l.length<=2097152
    omega)
   go_wp2_with
    (at_builtin
     refine jH _ rfl (.tmp 31) (.tmp 32) _ rfl (base:=wo.heap.size) Jp F9 Jq rfl kD.out rfl (l2:=L[k].l) ((HP.out k hlt).mono Hb.out) (by have:=hlen.out;omega) (by have:=hlen.out;omega) hsz ?_;intro v1 w1 hown1 hg hat;have yT:=Lib.hid (show Below wo.heap.size wo w1 from bG Hb.out hg (fun g hk=>(kD.out.lt g hk).1));clear hg hat;have Gy:=Lib.hid hown1;clear hown1)
   go_roundw
   case rel => exact ⟨k+1,by omega,by go_num,by rw [List.take_succ_eq_append_getElem hlt,List.flatMap_append];simpa using Gy.out,yT.out⟩
   case measure => simp [intOf];omega
set_option maxRecDepth 100000 in
set_option maxHeartbeats 2000000 in
theorem QZ (v:Value) (p:Pl) (id:Int) (w:World) (h:dS w v p) (hsh:Short p) :
  Calls Tryz.prog 27 #[v,.int .i64 id] w (WC w (pathOf p id)):=by
 have HP:=Lib.hid h;have eu:=Lib.hid hsh;clear hsh;obtain ⟨vn,vr,vf,al,rfl,-⟩:=h;have TN:∀ id W,Below w.heap.size w W->Calls Tryz.prog 74 #[.agg #[vn,vr,vf],.int .i64 id] W _:=fun id W hW=>Wu _ p id W (HP.out.mono hW);simp only [QL,VO] at TN;have HN:=Lib.hid TN;clear TN;obtain ⟨q,hq⟩:∃ q,pathOf p id=q:=⟨_,rfl⟩;rw [hq];have Hq:=Lib.hid hq;clear hq;go_enter Tryz.func27,Tryz.ntmps27;go_wp2_with fail;refine (ai5 _ p id _ (HP.out.mono (bA (bR w) _)) eu.out).mono ?_;rintro e w1 ⟨v1,rfl,hb1,hp1⟩;have Bw:Below w.heap.size w w1:=by
  repeat (first | with_reducible exact bR _ | with_reducible assumption | with_reducible refine bA ?_ _ | with_reducible refine bD ?_ | with_reducible refine bN ?_ _ | ((with_reducible refine bS ?_ ?_ _);rotate_left;(simp;try omega)) | ((with_reducible refine bT ?_ ?_);rotate_left;with_reducible assumption) | with_reducible refine bT ?_ (by assumption))
 have X2:aj _ (w.heap.size) 26 #[vn,vr,vf]:=aj.keep (by repeat (first | exact aj.made (by simp) _ _ | refine aj.alloc ?_ _)) hb1;clear hb1;have Nj:=Lib.hid hp1;obtain ⟨A1,c1,rfl,-⟩:=hp1;generalize hr:findAr p.ah id=r at *;have Hr:=Lib.hid hr;clear hr;obtain ⟨a,ha⟩:∃ a,r.getD nM=a:=⟨_,rfl⟩;rw [ha] at Nj ⊢;obtain ⟨s,hs⟩:∃ s,r.isSome=s:=⟨_,rfl⟩;rw [hs];have Ha:=Lib.hid ha;have Hs:=Lib.hid hs;clear ha hs;simp only [arV];obtain ⟨gI,gJ,iq,iZ,-,-,-⟩:=X2.bC;go_wp2_with fail;refine (HN.out _ _ (bA Bw _)).mono ?_;rintro e w2 ⟨rfl,hb2⟩;have X6:aj w2 w1.heap.size 50 #[.int .i64 a.id,.int .i64 a.fr,.int .i64 a.dst,.slice A1 a.via.length c1,.int .i64 a.left,.int .i64 a.right]:=(aj.made rfl _ _).keep hb2;replace X2:=(X2.alloc _).keep hb2;have HP2:=Lib.hid ((Nj.out.mono (bA (bR w1) _)).mono hb2);replace Bw:=bT (bA Bw _) hb2;clear hb2;obtain ⟨n1,hn1⟩:∃ n1,(mJ p.nodes a.fr).getD nd0=n1:=⟨_,rfl⟩;rw [hn1];obtain ⟨s1,hs1⟩:∃ s1,(mJ p.nodes a.fr).isSome=s1:=⟨_,rfl⟩;rw [hs1];have Hn1:=Lib.hid hn1;have Q5:=Lib.hid hs1;clear hn1 hs1
 try clear gI
 try clear gJ
 try clear iq
 try clear iZ
 obtain ⟨gI,gJ,iq,iZ,-,-,-⟩:=X2.bC;obtain ⟨jk,jl,jm,sK,uY,JC,JD,-,-,-,-,-,-⟩:=X6.kZ;go_wp2_with fail;refine (HN.out _ _ (bA Bw _)).mono ?_;rintro e w3 ⟨rfl,hb3⟩;have X8:aj w3 w2.heap.size 45 #[.int .i64 n1.id,.int .i64 n1.pt.x,.int .i64 n1.pt.y]:=(aj.made rfl _ _).keep hb3;replace X2:=(X2.alloc _).keep hb3;replace X6:=(X6.alloc _).keep hb3;have Nk:=Lib.hid ((HP2.out.mono (bA (bR w2) _)).mono hb3);replace Bw:=bT (bA Bw _) hb3;clear hb3;obtain ⟨n2,hn2⟩:∃ n2,(mJ p.nodes a.dst).getD nd0=n2:=⟨_,rfl⟩;rw [hn2];obtain ⟨s2,hs2⟩:∃ s2,(mJ p.nodes a.dst).isSome=s2:=⟨_,rfl⟩;rw [hs2];have Hn2:=Lib.hid hn2;have Q7:=Lib.hid hs2;clear hn2 hs2
 try clear gI
 try clear gJ
 try clear iq
 try clear iZ
 obtain ⟨gI,gJ,iq,iZ,-,-,-⟩:=X2.bC
 try clear jk
 try clear jl
 try clear jm
 try clear sK
 try clear uY
 try clear JC
 try clear JD
 obtain ⟨jk,jl,jm,sK,uY,JC,JD,-,-,-,-,-,-⟩:=X6.kZ;obtain ⟨qj,ql,qm,WR,-,-,-⟩:=X8.bC;go_upto_region 4 with fail;obtain ⟨W4,Q8⟩:∃ W4:World,W4=w3.alloc (.cells #[.int .i64 n2.id,.int .i64 n2.pt.x,.int .i64 n2.pt.y] 45):=⟨_,rfl⟩;have dU:aj W4 w3.heap.size 45 #[.int .i64 n2.id,.int .i64 n2.pt.x,.int .i64 n2.pt.y]:=by rw [Q8];exact aj.made rfl _ _
 have hb4:Below w3.heap.size w3 W4:=by rw [Q8];exact bA (bR w3) _
 rw [<- Q8];clear Q8;replace X2:=X2.keep hb4;replace X6:=X6.keep hb4;replace X8:=X8.keep hb4;have HP4:=Lib.hid (Nk.out.mono hb4);replace Bw:=bT Bw hb4;clear hb4
 try clear gI
 try clear gJ
 try clear iq
 try clear iZ
 obtain ⟨gI,gJ,iq,iZ,-,-,-⟩:=X2.bC
 try clear jk
 try clear jl
 try clear jm
 try clear sK
 try clear uY
 try clear JC
 try clear JD
 obtain ⟨jk,jl,jm,sK,uY,JC,JD,-,-,-,-,-,-⟩:=X6.kZ
 try clear qj
 try clear ql
 try clear qm
 try clear WR
 obtain ⟨qj,ql,qm,WR,-,-,-⟩:=X8.bC;obtain ⟨jX,jY,jZ,Em,-,-,-⟩:=dU.bC;go_cut [41] (fun u wx=>u=.bool (!(s && (s1 && s2)))/\wx=W4)
 case first =>
  cases s<;>cases s1<;>cases s2
  all_goals
   go_wp2_with fail;go_meet
   case rel => exact ⟨rfl,rfl⟩
 case rest =>
  obtain ⟨rfl,rfl⟩:=hcut
  cases hsb:(s && (s1 && s2))
  case false =>
   have hf:=Lib.hid (show q=none by
    rw [<- Hq.out,pathOf,Hr.out]
    cases r with
    | none=>rfl
    | some a0 =>
     have h1:=Hs.out;have h2:=Ha.out;simp only [Option.isSome_some,Option.getD_some] at h1 h2;subst h1 h2;simp only [qZ,Q5.out,Q7.out];simpa using hsb)
   clear hsb;go_wp2_with fail;go_ret2;exact ⟨none,0,by rw [hf.out];rfl,Bw,by rw [hf.out];exact Own.nil _ _ _ _ _⟩
  case true =>
   have Q9:s=true/\s1=true/\s2=true:=by simpa using hsb
   have hf:=Lib.hid (show q=some (n1.pt::(a.via++[n2.pt]))/\a.via.length<=1048576 by
    rw [<- Hq.out,pathOf,Hr.out]
    cases r with
    | none=>have h1:=Hs.out;rw [Q9.1] at h1;cases h1
    | some a0 =>
     have h2:=Ha.out;simp only [Option.getD_some] at h2;subst h2;refine ⟨?_,eu.out _ (WE Hr.out)⟩;simp only [qZ,Q5.out,Q7.out,Q9.2.1,Q9.2.2,Bool.and_self,if_true,au,nodeAt,Hn1.out,Hn2.out])
   clear hsb Q9;go_wp2_with fail;have hlen:=Lib.hid hf.out.2;have hBa:Below w.heap.size w (((wc.alloc (.cells #[.int .i64 n1.pt.x,.int .i64 n1.pt.y] 39)).alloc (.cells #[.int .i64 n2.pt.x,.int .i64 n2.pt.y] 39)).alloc (.cells #[.slice (some ⟨wc.heap.size,0,none⟩) 1 1,.slice A1 a.via.length c1,.slice (some ⟨wc.heap.size+1,0,none⟩) 1 1] 46)):=bA (bA (bA Bw _) _) _;refine (ajL _ [⟨[n1.pt],some ⟨wc.heap.size,0,none⟩,1⟩,⟨a.via,A1,c1⟩,⟨[n2.pt],some ⟨wc.heap.size+1,0,none⟩,1⟩] _ (Sl.lit (n:=3) (aj.made (by simp) _ _) rfl (dW (by omega))) ?_ (by simp) (by simp) ?_).mono ?_
   ·intro k hk;have hk:k<3:=hk;rcases k with _ | _ | _ | k
    · exact gG.one (((aj.made rfl _ _).alloc _).alloc _)
    · exact HP4.out.mono (bA (bA (bA (bR wc) _) _) _)
    · exact gG.one ((aj.made (by simp) _ _).alloc _)
    · omega
   ·have:=hlen.out
    simp only [List.flatMap_cons,List.flatMap_nil,List.length_append,List.length_cons,List.length_nil];omega
   rintro e w5 ⟨v5,rfl,hb5,hown⟩;have Bz:=hBa.size;have ho:=hown.iW (b':=w.heap.size) Bz;have B5:=bT hBa hb5;simp only [List.flatMap_cons,List.flatMap_nil,List.append_nil,List.cons_append,List.nil_append] at ho;have hf1:=hf.out.1;generalize n1.pt::(a.via++[n2.pt])=PL at ho hf1;have Hf1:=Lib.hid hf1;obtain ⟨A5,c5,rfl,-⟩:=Own.sl ho;have Ho:=Lib.hid ho;have dK:=Lib.hid B5;clear hown ho B5 Bz hb5 hBa hf1;go_wp2_with fail;go_ret2;exact ⟨A5,c5,by rw [Hf1.out];rfl,dK.out,by rw [Hf1.out];exact Ho.out⟩
structure Ln where
 arc:Ar
 path:List Pt
 g:Nat
 via:SV
 pa:Option Addr
 pc:Nat
def WS (x:Ln):Array Value:=#[.int .i64 x.arc.id,.int .i64 x.arc.fr,.int .i64 x.arc.dst,.slice x.via.a x.via.n x.via.c,.int .i64 x.arc.left,.int .i64 x.arc.right,.slice x.pa x.path.length x.pc]
def AU (w:World) (x:Ln):Prop:=aj w x.g 237 (WS x)/\Own w 0 39 2 iV (.slice x.pa x.path.length x.pc) x.path
theorem AU.keep {w w':World} {x:Ln} (h:AU w x) (hb:Below w.heap.size w w'):AU w' x:=⟨h.1.keep hb,h.2.keep hb⟩
structure bP where
 ln:Ln
 k:Nat
def jc (s:bP):List Value:=[.pointer (some ⟨s.ln.g,0,none⟩),.int .i64 s.k]
def iI (s:bP):Value:=.agg #[.pointer (some ⟨s.ln.g,0,none⟩),.int .i64 s.k]
def bP.fst (s:bP):Pt:=s.ln.path.getD s.k aB
def bP.snd (s:bP):Pt:=s.ln.path.getD (s.k+1) aB
def fK (w:World) (s:bP):Prop:=AU w s.ln/\s.k+1<s.ln.path.length/\s.ln.path.length<=2097152
theorem fK.keep {w w':World} {s:bP} (h:fK w s) (hb:Below w.heap.size w w'):fK w' s:=⟨h.1.keep hb,h.2⟩
theorem aj.Eo {w:World} {g:Nat} {t:TypeId} {v0 v1 v2 v3 v4 v5 v6:Value} (h:aj w g t #[v0,v1,v2,v3,v4,v5,v6]):g<w.heap.size/\w.cell? ⟨g,0,none⟩=some v0/\w.cell? ⟨g,1,none⟩=some v1/\w.cell? ⟨g,2,none⟩=some v2/\w.cell? ⟨g,3,none⟩=some v3/\w.cell? ⟨g,4,none⟩=some v4/\w.cell? ⟨g,5,none⟩=some v5/\w.cell? ⟨g,6,none⟩=some v6/\w.frozen? ⟨g,0,none⟩=false/\w.frozen? ⟨g,1,none⟩=false/\w.frozen? ⟨g,2,none⟩=false/\w.frozen? ⟨g,3,none⟩=false/\w.frozen? ⟨g,4,none⟩=false/\w.frozen? ⟨g,5,none⟩=false/\w.frozen? ⟨g,6,none⟩=false :=
 ⟨h.lt,h.cell 0,h.cell 1,h.cell 2,h.cell 3,h.cell 4,h.cell 5,h.cell 6,h.frozen 0,h.frozen 1,h.frozen 2,h.frozen 3,h.frozen 4,h.frozen 5,h.frozen 6⟩
set_option maxRecDepth 100000 in
set_option maxHeartbeats 1000000 in
theorem Nl (s:bP) (w:World) (h:fK w s) :
  Calls Tryz.prog 231 #[iI s] w fun e w'=>e=.returned (.tuple #[aZ s.fst,aZ s.snd])/\nI w w':=by
 obtain ⟨⟨hL,hP⟩,hk,hm⟩:=h;obtain ⟨A,c,he,hn,hc,hR⟩:=Own.sl hP;clear hP;injection he with he1 _ he3;subst he1 he3;unfold WS at hL;obtain ⟨b,o,hA,hlb,c0,c1⟩:=hR.pt (k:=s.k) (by omega);obtain ⟨b',o',hA',-,d0,d1⟩:=hR.pt (k:=s.k+1) hk;rw [hA] at hA' hL;simp only [Option.some.injEq,Addr.mk.injEq,and_true] at hA';obtain ⟨rfl,rfl⟩:=hA';have hf:s.fst=s.ln.path[s.k]:=by unfold bP.fst;simp [List.getD,List.getElem?_eq_getElem (show s.k<s.ln.path.length by omega)]
 have hs:s.snd=s.ln.path[s.k+1]:=by unfold bP.snd;simp [List.getD,List.getElem?_eq_getElem hk]
 rw [<- hf] at c0 c1;rw [<- hs] at d0 d1;unfold iI aZ;unfold maxLen at hc;clear hf hs hR hA;generalize s.fst=P0 at *;generalize s.snd=P1 at *;generalize s.ln.path.length=N at *;generalize s.k=k at *;generalize s.ln.g=g at *;have HL:=Lib.hid hL;clear hL;go_enter Tryz.func231,Tryz.ntmps231;go_upto_region 1 with fail;obtain ⟨W,hW⟩:∃ W:World,W=((w.alloc (.cells #[.pointer (some ⟨g,0,none⟩),.int .i64 k] 230)).alloc (.cells #[.int .i64 0,.int .i64 0] 39)).alloc (.cells #[.int .i64 0,.int .i64 0] 39):=⟨_,rfl⟩;have Bw:Below w.heap.size w W:=by rw [hW];exact bA (bA (bA (bR w) _) _) _
 have Dw:w.drawn<=W.drawn:=by rw [hW];exact dA (dA (dA (dR w) _) _) _
 have X1:aj W w.heap.size 230 #[.pointer (some ⟨g,0,none⟩),.int .i64 k]:=by rw [hW];exact ((aj.made rfl _ _).alloc _).alloc _
 have X2:aj W (w.heap.size+1) 39 #[.int .i64 0,.int .i64 0]:=by rw [hW];exact (aj.made (by simp) _ _).alloc _
 have X3:aj W (w.heap.size+1+1) 39 #[.int .i64 0,.int .i64 0]:=by rw [hW];exact aj.made (by simp) _ _
 rw [<- hW];clear hW;have X9:=HL.out.keep Bw;have hgl:=HL.out.lt;obtain ⟨bc,-⟩:=D9 Bw;replace c0:=(bc b _ hlb).trans c0;replace c1:=(bc b _ hlb).trans c1;replace d0:=(bc b _ hlb).trans d0;replace d1:=(bc b _ hlb).trans d1;clear bc;obtain ⟨aI,aJ,aK,-,-⟩:=X1.bI;obtain ⟨iw,iy,kE,WT,WU,X9e,X9f,X9g,-,-,-,-,-,-,-⟩:=X9.Eo;obtain ⟨gI,gJ,iq,AV,GU⟩:=X2.bI;obtain ⟨kU,kV,mO,Ep,Np⟩:=X3.bI;have q1:0<=(k:Int):=by omega
 have q2:(k:Int)<N:=by omega
 have q3:0<=(k:Int)+1:=by omega
 have q4:(k:Int)+1<N:=by omega
 have q5:((k:Int)+1).toNat=k+1:=by omega
 have q6:IntKind.i64.wrap ((k:Int)+1)=(k:Int)+1:=IntWalk.i64_in _ (by omega);have q7:w.heap.size<w.heap.size+1:=by omega
 have q8:g<w.heap.size+1:=by omega
 have q9:b<w.heap.size+1:=by omega
 refine bZ (gW (w.heap.size+1) W) (.run 19 0 0 (.call 19 1048575 (.call 20 2097151 (.done)))) (by kernel_rfl) (Below.drew (Below.refl _ _)) (by kernel_rfl) (by kernel_rfl) (Nat.le_of_ble_eq_true (by kernel_rfl)) ?_;intro cO QR ak aC hS
 iterate 19
  apply lK;exact ak;exact rfl;exact hS;exact rfl
  · intro _ hqc;go_simp;try rfl
  try simp only [pu]
 refine aT (i:=19) (aG ak rfl) (fun K hK=>?_);have aA:=Lib.hid hS;clear hS;refine aO (aV rfl) ?_;go_simp;have hS:gW (w.heap.size+1) W _:=(Below.setCell (Below.setCell aA.out (p:=⟨w.heap.size+1,0,none⟩) (Nat.le_refl _) (.int .i64 P0.x)) (p:=⟨w.heap.size+1,1,none⟩) (Nat.le_refl _) (.int .i64 P0.y));clear aA;refine hK.out _ _ hS (fun _=>?_);clear hK K
 try simp only [pu]
 refine aT (i:=20) (aG ak rfl) (fun K hK=>?_);have aA:=Lib.hid hS;clear hS;refine aO (aV rfl) ?_;go_simp;have hS:gW (w.heap.size+1) W _:=(Below.setCell (Below.setCell aA.out (p:=⟨w.heap.size+1+1,0,none⟩) (Nat.le_succ _) (.int .i64 P1.x)) (p:=⟨w.heap.size+1+1,1,none⟩) (Nat.le_succ _) (.int .i64 P1.y));clear aA;refine hK.out _ _ hS (fun _=>?_);clear hK K
 try simp only [pu]
 refine bM ?_;refine aC.down _ _ ?_;have hB:Below (w.heap.size+1) W _:=hS;clear hS aC ak;go_wp2_with fail;refine aiN (g:=w.heap.size+1) (g':=w.heap.size+1+1) (cs:=#[.int .i64 P0.x,.int .i64 P0.y]) (cs':=#[.int .i64 P1.x,.int .i64 P1.y]) rfl Gh Gh rfl rfl rfl ?_ ?_ ⟨rfl,?_,?_⟩
 · exact ((aj.wJ X2).far (p:=⟨w.heap.size+1+1,0,none⟩) (by simp) _).far (p:=⟨w.heap.size+1+1,1,none⟩) (by simp) _
 · exact aj.wJ ((X3.far (p:=⟨w.heap.size+1,0,none⟩) (by simp) _).far (p:=⟨w.heap.size+1,1,none⟩) (by simp) _)
 · exact Bw.trans (hB.mono (by omega))
 · exact Nat.le_succ_of_le Dw
def jA (s:bP):Int:=min s.fst.x s.snd.x
def qM (s:bP):Int:=max s.fst.x s.snd.x
set_option maxHeartbeats 1000000 in
theorem WV (s:bP) (w:World) (h:fK w s) :
  Calls Tryz.prog 228 #[iI s] w fun e w'=>e=.returned (.int .i64 (jA s))/\nI w w':=by
 have TE:∀ W,Below w.heap.size w W->Calls Tryz.prog 231 #[iI s] W _:=fun W hW=>Nl s W (h.keep hW);unfold jA;unfold iI aZ at TE;unfold iI;have HE:=Lib.hid TE;clear TE h;generalize s.fst=P0 at *;generalize s.snd=P1 at *;generalize s.k=k at *;generalize s.ln.g=g at *;go_enter Tryz.func228,Tryz.ntmps228;go_wp2_with fail;refine (HE.out _ (bA (bR w) _)).mono ?_;rintro e w1 ⟨rfl,hb1,hd1⟩;have Bw:Below w.heap.size w w1:=bT (bA (bR w) _) hb1;have Dw:w.drawn<=w1.drawn:=dT (dA (dR w) _) hd1;clear hb1 hd1;go_wp2_with fail
 all_goals
  go_ret;refine ⟨fA ?_,?_,?_⟩
  · first | rfl | omega
  · exact bA (bA Bw _) _
  · exact Dw
set_option maxHeartbeats 1000000 in
theorem ajM (s:bP) (w:World) (h:fK w s) :
  Calls Tryz.prog 229 #[iI s] w fun e w'=>e=.returned (.int .i64 (qM s))/\nI w w':=by
 have TE:∀ W,Below w.heap.size w W->Calls Tryz.prog 231 #[iI s] W _:=fun W hW=>Nl s W (h.keep hW);unfold qM;unfold iI aZ at TE;unfold iI;have HE:=Lib.hid TE;clear TE h;generalize s.fst=P0 at *;generalize s.snd=P1 at *;generalize s.k=k at *;generalize s.ln.g=g at *;go_enter Tryz.func229,Tryz.ntmps229;go_wp2_with fail;refine (HE.out _ (bA (bR w) _)).mono ?_;rintro e w1 ⟨rfl,hb1,hd1⟩;have Bw:Below w.heap.size w w1:=bT (bA (bR w) _) hb1;have Dw:w.drawn<=w1.drawn:=dT (dA (dR w) _) hd1;clear hb1 hd1;go_wp2_with fail
 all_goals
  go_ret;refine ⟨fA ?_,?_,?_⟩
  · first | rfl | omega
  · exact bA (bA Bw _) _
  · exact Dw
set_option maxHeartbeats 1000000 in
theorem acv (s:bP) (w:World) :
  Calls Tryz.prog 232 #[iI s] w fun e w'=>e=.returned (.bool ((s.k:Int) == 0))/\Below w.heap.size w w':=by
 unfold iI;generalize s.k=k;generalize s.ln.g=g;go_enter Tryz.func232,Tryz.ntmps232;go_wp2_with fail;go_ret;exact ⟨rfl,bA (bR w) _⟩
set_option maxRecDepth 100000 in
set_option maxHeartbeats 1000000 in
theorem acw (s:bP) (w:World) (h:fK w s) :
  Calls Tryz.prog 233 #[iI s] w fun e w'=>e=.returned (.bool ((s.k:Int) == (s.ln.path.length:Int)-2))/\Below w.heap.size w w':=by
 obtain ⟨⟨hL,hP⟩,hk,hm⟩:=h;unfold WS at hL;clear hP;unfold iI;generalize s.ln.path.length=N at *;generalize s.k=k at *;generalize s.ln.g=g at *;have HL:=Lib.hid hL;clear hL;go_enter Tryz.func233,Tryz.ntmps233;go_upto_region 1 with fail;obtain ⟨W,hW⟩:∃ W:World,W=w.alloc (.cells #[.pointer (some ⟨g,0,none⟩),.int .i64 k] 230):=⟨_,rfl⟩;have Bw:Below w.heap.size w W:=by rw [hW];exact bA (bR w) _
 have X1:aj W w.heap.size 230 #[.pointer (some ⟨g,0,none⟩),.int .i64 k]:=by rw [hW];exact aj.made rfl _ _
 rw [<- hW];clear hW;have X9:=HL.out.keep Bw;obtain ⟨aI,aJ,aK,-,-⟩:=X1.bI;obtain ⟨iw,iy,kE,WT,WU,X9e,X9f,X9g,-,-,-,-,-,-,-⟩:=X9.Eo;have q6:IntKind.i64.wrap ((N:Int)-2)=(N:Int)-2:=IntWalk.i64_in _ (by omega);refine bZ (Since W) (.run 11 0 0 (.done)) (by kernel_rfl) (bD (bR _)) (by kernel_rfl) (by kernel_rfl) (Nat.le_of_ble_eq_true (by kernel_rfl)) ?_;intro cO QR ak aC hS
 iterate 11
  apply bg;exact ak;exact rfl;exact hS;exact rfl
  · intro _ hqc;go_simp;try rfl
  try simp only [pu]
 refine bM ?_;refine aC.down _ _ ?_;have hB:Below W.heap.size W W.drew:=hS;clear hS aC ak;go_wp2_with fail;go_ret;exact ⟨rfl,bT Bw hB⟩
theorem AU.grow {w w':World} {x:Ln} {row:Option Nat} {e:TypeId} (h:AU w x) (hg:w.grownBy w' row) (hr:∀ g,row=some g->∃ cs,aj w g e cs) (h1:e≠237) (h2:e≠39):AU w' x:=by
 refine ⟨h.1.grow hg (fun e'=>?_),Own.grown h.2 hg (fun g hg' e'=>?_)⟩
 ·obtain ⟨cs,hb⟩:=hr _ e'.symm;exact aj.nD hb h.1 h1 rfl
 ·obtain ⟨cs,hb⟩:=hr _ e'.symm;obtain ⟨cs',hb'⟩:=h.2.blk hg';exact aj.nD hb hb' h2 rfl
theorem fK.grow {w w':World} {s:bP} {row:Option Nat} {e:TypeId} (h:fK w s) (hg:w.grownBy w' row) (hr:∀ g,row=some g->∃ cs,aj w g e cs) (h1:e≠237) (h2:e≠39):fK w' s:=⟨h.1.grow hg hr h1 h2,h.2⟩
theorem ajN:Elem Tryz.prog 224 230 2 16:=Elem.rZ (z:=.agg #[.pointer none,.int .i64 0]) (by kernel_rfl) (by kernel_rfl) rfl (by omega)
theorem Rf (s:bP):(jc s).length=2:=rfl
theorem acy (s:bP):∀ u∈jc s,u.oneCell'=true:=by simp [jc,Value.oneCell']
theorem Sl.ajO {w:World} {g:Nat} {t:TypeId} {s:bP} (h:aj w g t #[.pointer (some ⟨s.ln.g,0,none⟩),.int .i64 s.k]) :
  Sl w (.slice (some ⟨g,0,none⟩) 1 1) ([s] : List bP).length (([s] : List bP).flatMap jc):=Sl.lit (n:=1) h rfl (dW (by omega))
def CB (l:List Pt):Bool:=(List.range (l.length-1)).all fun k=>!decide (l.getD k aB=l.getD (k+1) aB)
theorem ajP (l:List Pt) (k:Nat) (hk:k+1<l.length) (h:l[k]=l[k+1]):CB l=false:=by
 unfold CB;rw [List.all_eq_false];exact ⟨k,List.mem_range.2 (by omega),by simp [List.getD,List.getElem?_eq_getElem hk,List.getElem?_eq_getElem (show k<l.length by omega),h]⟩
theorem ajQ (l:List Pt) (h:∀ k (hk:k+1<l.length),¬ l[k]=l[k+1]):CB l=true:=by
 unfold CB;rw [List.all_eq_true];intro k hk;have hk:k+1<l.length:=by have:=List.mem_range.1 hk;omega
 have:=h k hk
 simpa [List.getD,List.getElem?_eq_getElem hk,List.getElem?_eq_getElem (show k<l.length by omega)] using this
def lC (p:Pl) (a:Ar):Bool:=match pathOf p a.id with
 | none=>false
 | some l=>!(a.fr == a.dst && decide ((l.length:Int)<4)) && CB l
structure gq where
 arc:Ar
 path:List Pt
 k:Nat
def bP.abs (s:bP):gq:=⟨s.ln.arc,s.ln.path,s.k⟩
def fD (p:Pl) (a:Ar):List gq:=(List.range (((pathOf p a.id).getD []).length-1)).map fun k=>⟨a,(pathOf p a.id).getD [],k⟩
theorem ajR (p:Pl) (a:Ar) (k:Nat) (hk:k+1<((pathOf p a.id).getD []).length):(fD p a).take (k+1)=(fD p a).take k++[⟨a,(pathOf p a.id).getD [],k⟩]:=by
 have h:k<(fD p a).length:=by simp only [fD,List.length_map,List.length_range];omega
 rw [List.take_succ_eq_append_getElem h];simp [fD]
theorem ajS {p:Pl} {id:Int} {l:List Pt} (h:pathOf p id=some l) (hsh:Short p):2<=l.length/\l.length<=1048578:=by
 unfold pathOf at h
 cases ha:findAr p.ah id with
 | none=>rw [ha] at h;cases h
 | some a =>
  rw [ha] at h;simp only [] at h;split at h
  ·injection h with h;subst h;rw [fJ];have:=hsh a (WE ha)
   omega
  · cases h
def acz (w:World) (p:Pl) (e:Ending) (w':World):Prop :=
 Below w.heap.size w w'/\if p.ah.all (lC p)=true then
  ∃ (sl:List bP) (v:Value),e=.returned (.tuple #[v,.bool true])/\sl.map bP.abs=p.ah.flatMap (fD p)/\(∀ s∈sl,fK w' s)/\Own w' w.heap.size 230 2 jc v sl
 else e=.returned (.tuple #[.slice none 0 0,.bool false])
set_option maxRecDepth 100000 in
set_option maxHeartbeats 4000000 in
theorem ajT (v:Value) (p:Pl) (w:World) (h:dS w v p) (hsh:Short p) (hl:(p.ah.flatMap (fD p)).length<=2097152) :
  Calls Tryz.prog 225 #[v] w (acz w p):=by
 have HP:=Lib.hid h;have eu:=Lib.hid hsh;clear hsh;obtain ⟨vn,_,vf,al,rfl,hpa,-,⟨⟨Aa,ca,rfl,ha1,ha2,jV⟩,hV⟩,-⟩:=h;unfold maxLen at ha2;have HV:=Lib.hid hV;clear hV;have mM:=Lib.hid jV;clear jV;have hL:∀ k,((al.take k).flatMap fun a=>fD p a.1).length<=2097152:=fun k=>by
  have h1:=acd al (fun a=>fD p a.1) k;rw [hpa,List.flatMap_map] at hl;exact Nat.le_trans h1 hl
 have HL:=Lib.hid hL;have WW:p.ah.all (lC p)=al.all (fun a=>lC p a.1):=by rw [hpa,List.all_map];rfl
 have hFl:p.ah.flatMap (fD p)=al.flatMap (fun a=>fD p a.1):=by rw [hpa,List.flatMap_map]
 obtain ⟨Q,hQ⟩:∃ Q,Q=acz w p:=⟨_,rfl⟩;have hbad:∀ k (hk:k<al.length),lC p al[k].1=false->∀ w',Below w.heap.size w w'->Q (.returned (.tuple #[.slice none 0 0,.bool false])) w':=fun k hk hb w' hw=>by
  rw [hQ];refine ⟨hw,?_⟩;rw [WW,Nb al (fun a=>lC p a.1) k hk hb];rfl
 have hgood:(∀ k (hk:k<al.length),lC p al[k].1=true)->∀ (sl:List bP) (v:Value) w',Below w.heap.size w w'->sl.map bP.abs=al.flatMap (fun a=>fD p a.1)->(∀ s∈sl,fK w' s)->Own w' w.heap.size 230 2 jc v sl->Q (.returned (.tuple #[v,.bool true])) w':=fun h1 sl v w' hw h2 h3 h4=>by
  rw [hQ];refine ⟨hw,?_⟩;rw [WW,WQ al (fun a=>lC p a.1) h1,if_pos rfl,hFl];exact ⟨sl,v,rfl,h2,h3,h4⟩
 have WX:=Lib.hid hbad;have ajU:=Lib.hid hgood;rw [<- hQ];clear hpa hl hL WW hFl hbad hgood hQ;go_enter Tryz.func225,Tryz.ntmps225;go_wp2_with fail;obtain ⟨W0,hW0⟩:∃ W0:World,W0=w.alloc (.cells #[vn,.slice Aa al.length ca,vf] 26):=⟨_,rfl⟩;have X1:aj W0 w.heap.size 26 #[vn,.slice Aa al.length ca,vf]:=by rw [hW0];exact aj.made rfl _ _
 have uV:Below w.heap.size w W0:=by rw [hW0];exact bA (bR w) _
 have HX0:=Lib.hid X1;rw [<- hW0];clear hW0 X1;go_loopw [2,13] (fun s i wr=>∃ (k:Nat) (sl:List bP),k<=al.length/\i=.int .i64 k/\sl.map bP.abs=((al.take k).flatMap fun a=>fD p a.1)/\(∀ s∈sl,fK wr s)/\Own wr W0.heap.size 230 2 jc s sl/\Below W0.heap.size W0 wr/\∀ j (hj:j<al.length),j<k->lC p al[j].1=true) (fun _ i _=>al.length-(intOf i).toNat)
 case atStart => exact ⟨0,[],Nat.zero_le _,rfl,rfl,(fun _ h=>by cases h),Own.nil _ _ _ _ _,bR W0,fun _ _ h=>by omega⟩
 case round =>
  obtain ⟨k,sl,hk,rfl,hsl,hok,hown,hb,hno⟩:=hrel;have Hb:=Lib.hid hb;have kD:=Lib.hid hown;have Nq:=Lib.hid hsl;have Hok:=Lib.hid hok;have Hno:=Lib.hid hno;have X1:=HX0.out.keep hb;have hsz:=hb.size;clear hb hown hsl hok hno;obtain ⟨aI,aJ,aK,aP,-,-,-⟩:=X1.bC;by_cases hlt:k<al.length
  case neg =>
   have hE:al.take k=al:=List.take_of_length_le (by omega);have hs:=Nq.out;rw [hE] at hs;have Hs:=Lib.hid hs;clear hE hs;go_wp2_with fail;exact ajU.out (fun j hj=>Hno.out j hj (by omega)) sl _ _ (bT uV Hb.out) Hs.out Hok.out (kD.out.iW uV.size)
  obtain ⟨b,o,rfl,hlb,c0,c1,c2,c3,c4,c5⟩:=(mM.out.mono (bT uV Hb.out)).ar hlt;obtain ⟨Av,cv,hv,-⟩:=HV.out k hlt;rw [hv] at c3;clear hv;go_wp2_with fail;refine (QZ _ p _ _ (HP.out.mono (bT uV (bA Hb.out _))) eu.out).mono ?_;rintro e w2 ⟨Ap,cp,rfl,hb2,hop⟩;have hA1:Below wr.heap.size wr w2:=bT (bA (bR wr) _) hb2;have X5:aj w2 wr.heap.size 50 #[.int .i64 al[k].1.id,.int .i64 al[k].1.fr,.int .i64 al[k].1.dst,.slice Av al[k].1.via.length cv,.int .i64 al[k].1.left,.int .i64 al[k].1.right]:=(aj.made rfl _ _).keep hb2;have hown2:=kD.out.keep hA1;have hok2:∀ s∈sl,fK w2 s:=fun s hs=>(Hok.out s hs).keep hA1;have B2:=bT Hb.out hA1;have hsz2:=B2.size;replace X1:=X1.keep hA1;have eH:=Lib.hid X1;have ajV:=Lib.hid hown2;have ajW:=Lib.hid hok2;have HB2:=Lib.hid B2;clear hb2 hA1 hown2 hok2 B2 c0 c1 c2 c3 c4 c5 hlb X1 aI aJ aK aP;obtain ⟨dF,dG,dI,jo,yt,Nr,Ns,-,-,-,-,-,-⟩:=X5.kZ
  cases hpo:pathOf p al[k].1.id with
  | none =>
   have hf:=Lib.hid (show lC p al[k].1=false by unfold lC;rw [hpo]);clear hop;simp only [Option.isSome_none,Bool.false_eq_true,if_false,Option.getD_none,List.length_nil];go_wp2_with fail;exact WX.out k hlt hf.out _ (bT uV HB2.out)
  | some l =>
  rw [hpo] at hop;simp only [Option.isSome_some,if_true,Option.getD_some] at hop ⊢;have Nu:=Lib.hid hpo;have hll:=ajS hpo eu.out;have Hop:=Lib.hid hop;clear hpo hop;have acA:lC p al[k].1=(!(al[k].1.fr == al[k].1.dst && decide ((l.length:Int)<4)) && CB l):=by unfold lC;rw [Nu.out]
  have acB:=Lib.hid acA;clear acA;by_cases hloop:al[k].1.fr=al[k].1.dst/\(l.length:Int)<4
  ·obtain ⟨he1,he2⟩:=hloop;have hf:=Lib.hid (show lC p al[k].1=false by rw [acB.out,beq_iff_eq.2 he1,decide_eq_true he2];rfl);have hz:=beq_iff_eq.2 he1;clear he1;go_wp2_with fail;exact WX.out k hlt hf.out _ (bT uV HB2.out)
  have hz:(al[k].1.fr == al[k].1.dst && decide ((l.length:Int)<4))=false:=by
   rw [Bool.and_eq_false_iff];by_cases e:al[k].1.fr=al[k].1.dst
   · right;exact decide_eq_false (fun h=>hloop ⟨e,h⟩)
   · left;exact beq_eq_false_iff_ne.2 e
  have acC:=Lib.hid (show lC p al[k].1=CB l by rw [acB.out,hz];rfl);go_upto_region 5 with fail;go_cut [37] (fun u wx=>u=.bool false/\wx=w2)
  case first =>
   cases e1:(al[k].1.fr == al[k].1.dst)
   ·go_wp2_with fail;go_meet
    case rel => exact ⟨rfl,rfl⟩
   ·have e2:¬ (l.length:Int)<4:=fun h=>hloop ⟨eq_of_beq e1,h⟩;clear hloop hz;go_wp2_with fail;go_meet
    case rel => exact ⟨rfl,rfl⟩
  case rest =>
  obtain ⟨rfl,rfl⟩:=hcut;clear hloop hz;go_wp2_with fail;obtain ⟨ln,hln⟩:∃ ln:Ln,ln=⟨al[k].1,l,wc.heap.size,⟨Av,al[k].1.via.length,cv⟩,Ap,cp⟩:=⟨_,rfl⟩;obtain ⟨W5,qh⟩:∃ W5:World,W5=wc.alloc (.cells #[.int .i64 al[k].1.id,.int .i64 al[k].1.fr,.int .i64 al[k].1.dst,.slice Av al[k].1.via.length cv,.int .i64 al[k].1.left,.int .i64 al[k].1.right,.slice Ap l.length cp] 237):=⟨_,rfl⟩;have Cm:Below wc.heap.size wc W5:=by rw [qh];exact bA (bR wc) _
  have hlo:AU W5 ln:=by
   rw [hln];refine ⟨?_,(Hop.out.keep Cm).iW (Nat.zero_le _)⟩;rw [qh];exact aj.made rfl _ _
  rw [<- qh];have Hlo:=Lib.hid hlo;have Rh:=Lib.hid hln;have ajX:=Lib.hid (ajV.out.keep Cm);have ajY:=Lib.hid (fun s hs=>(ajW.out s hs).keep Cm);have dK:=Lib.hid (bT HB2.out Cm);clear Cm qh hlo hln X5 dF dG dI jo yt Nr Ns;obtain ⟨M,hM⟩:∃ M,l.length=M+1:=⟨l.length-1,by omega⟩;have HM:=Lib.hid hM;clear hM;obtain ⟨wo,rfl⟩:∃ wo:World,wo=wr:=⟨_,rfl⟩;go_loopw [2,45] (fun s i wx=>∃ (j:Nat) (sx:List bP),j+1<=l.length/\i=.int .i64 j/\sx.map bP.abs=((al.take k).flatMap fun a=>fD p a.1)++(fD p al[k].1).take j/\(∀ s∈sx,fK wx s)/\AU wx ln/\Own wx W0.heap.size 230 2 jc s sx/\Below W0.heap.size W0 wx/\∀ m (hm:m+1<l.length),m<j->¬ l[m]=l[m+1]) (fun _ i _=>l.length-(intOf i).toNat)
  case atStart => exact ⟨0,sl,by omega,rfl,by rw [Nq.out];simp,ajY.out,Hlo.out,ajX.out,dK.out,fun _ _ h=>by omega⟩
  case round =>
   obtain ⟨j,sx,hj,rfl,hsx,acD,acE,acF,hbx,hnx⟩:=hrel;have iO:=Lib.hid hbx;have acG:=Lib.hid acF;have WY:=Lib.hid hsx;have acH:=Lib.hid acD;have WZ:=Lib.hid acE;have yu:=Lib.hid hnx;have ajZ:=hbx.size;clear hbx acF hsx acD acE hnx;by_cases hlj:j+1<l.length
   case neg =>
    have hdist:=Lib.hid (show lC p al[k].1=true by rw [acC.out];exact ajQ l (fun m hm=>yu.out m hm (by omega)));have Q7:=Lib.hid (show sx.map bP.abs=((al.take (k+1)).flatMap fun a=>fD p a.1) by
     rw [WY.out,List.take_succ_eq_append_getElem hlt,List.flatMap_append,List.take_of_length_le (l:=fD p al[k].1) (by simp only [fD,Nu.out,List.length_map,List.length_range,Option.getD_some];omega)];simp)
    go_wp2_with fail;go_roundw
    case rel => exact ⟨k+1,sx,by omega,by go_num,Q7.out,acH.out,acG.out,iO.out,all_succ (p:=fun x=>lC p x.1=true) Hno.out hlt hdist.out⟩
    case measure => simp [intOf];omega
   have hrow:=Own.sl WZ.out.2;rw [Rh.out] at hrow;obtain ⟨A1',as9,he1,-,-,hrow⟩:=hrow;injection he1 with he1 _ he3;subst he1;subst he3;obtain ⟨pb,po,aj0,hlp,f0,f1⟩:=hrow.pt (k:=j) (by simp only [];omega);subst aj0;obtain ⟨pb',po',acI,aj1,f2,f3⟩:=hrow.pt (k:=j+1) (by simp only [];omega);simp only [Option.some.injEq,Addr.mk.injEq,and_true] at acI;obtain ⟨rfl,rfl⟩:=acI;simp only [] at f0 f1 f2 f3;clear hrow aj1;have Ri:IntKind.i64.wrap ((j:Int)+1)=(j:Int)+1:=IntWalk.i64_in _ (by omega);have r1:0<=(j:Int):=by omega
   have r2:(j:Int)<l.length:=by omega
   have r3:0<=(j:Int)+1:=by omega
   have r4:(j:Int)+1<l.length:=by omega
   have r5:((j:Int)+1).toNat=j+1:=by omega
   have hE:=Gj l[j] l[j+1];by_cases he:l[j]=l[j+1]
   ·have hd:decide (l[j]=l[j+1])=true:=decide_eq_true he;have hf:=Lib.hid (show lC p al[k].1=false by rw [acC.out];exact ajP l j hlj he);clear he;go_upto_region 11 with fail;refine bZ (Since wr) (.run 10 0 0 (.done)) (by kernel_rfl) (bD (bR _)) (by kernel_rfl) (by kernel_rfl) (Nat.le_of_ble_eq_true (by kernel_rfl)) ?_;intro cO QR ak aC hS
    iterate 10
     apply bg;exact ak;exact rfl;exact hS;exact rfl
     · intro _ hqc;go_simp;try rfl
     try simp only [pu]
    refine bM ?_;refine aC.down _ _ ?_;have hB:Below wr.heap.size wr wr.drew:=hS;clear hS aC ak;go_wp2_with fail;exact WX.out k hlt hf.out _ (bT uV (bT iO.out hB))
   have hd:decide (l[j]=l[j+1])=false:=decide_eq_false he;have He:=Lib.hid he;clear he;go_upto_region 11 with fail;refine bZ (Since wr) (.run 10 0 0 (.done)) (by kernel_rfl) (bD (bR _)) (by kernel_rfl) (by kernel_rfl) (Nat.le_of_ble_eq_true (by kernel_rfl)) ?_;intro cO QR ak aC hS
   iterate 10
    apply bg;exact ak;exact rfl;exact hS;exact rfl
    · intro _ hqc;go_simp;try rfl
    try simp only [pu]
   refine bM ?_;refine aC.down _ _ ?_;have hB:Below wr.heap.size wr wr.drew:=hS;clear hS aC ak;clear f0 f1 f2 f3 Ri r3 r4 r5 hE;have hlen:=Lib.hid (show sx.length+1<=2097152 by
    have h2:=congrArg List.length WY.out;rw [List.length_map,List.length_append,List.length_take] at h2;have h3:=HL.out (k+1);rw [List.take_succ_eq_append_getElem hlt,List.flatMap_append,List.length_append] at h3;simp only [List.flatMap_cons,List.flatMap_nil,List.append_nil] at h3;have h4:(fD p al[k].1).length=l.length-1:=by simp only [fD,Nu.out,List.length_map,List.length_range,Option.getD_some]
    omega)
   have hnew:Hid (fK wr.drew ⟨ln,j⟩):=Lib.hid ⟨WZ.out.keep hB,by rw [Rh.out];exact ⟨hlj,by simp only [];omega⟩⟩;have hgl:ln.g=wc.heap.size:=by rw [Rh.out]
   have Hgl:=Lib.hid hgl;have Xa:Hid (Own wr.drew W0.heap.size 230 2 jc u2 sx):=Lib.hid acG.out;have aj2:Hid (∀ s∈sx,fK wr.drew s):=Lib.hid fun s hs=>(acH.out s hs).keep hB;have aj3:Hid (AU wr.drew ln):=Lib.hid (WZ.out.keep hB);have aj6:W0.heap.size<=wr.drew.heap.size:=ajZ;clear hB hgl;go_wp2_with
    (at_builtin
     refine jH _ rfl (.tmp 58) (.tmp 62) _ rfl (base:=W0.heap.size) ajN Rf acy rfl (Xa.out.alloc _) rfl (l2:=[(⟨ln,j⟩:bP)]) (Sl.ajO (by rw [Hgl.out];exact aj.made (by simp) _ _)) (by have:=hlen.out;simp only [List.length_cons,List.length_nil];omega) (by have:=hlen.out;simp only [List.length_cons,List.length_nil];omega) (by simp;omega) ?_;intro v1 w1 hown1 hg hat;have yT:=Lib.hid (show Below W0.heap.size W0 w1 from bG (bA (bD iO.out) _) hg (fun g hk=>(Xa.out.lt g hk).1));have hrow:∀ g,(u2:Value).ownBlock=some g->∃ cs,aj (wr.drew.alloc (.cells #[.pointer (some ⟨wc.heap.size,0,none⟩),.int .i64 j] 230)) g 230 cs:=fun g hg=>(Xa.out.alloc _).blk hg;have aj7:=Lib.hid (show ∀ s∈sx++[(⟨ln,j⟩:bP)],fK w1 s from fun s hs=>by
      rcases List.mem_append.1 hs with h | h
      · exact ((aj2.out s h).keep (bA (bR wr.drew) _)).grow hg hrow (by decide) (by decide)
      ·rw [List.mem_singleton.1 h];exact (hnew.out.keep (bA (bR wr.drew) _)).grow hg hrow (by decide) (by decide))
     have aj8:=Lib.hid ((aj3.out.keep (bA (bR wr.drew) _)).grow hg hrow (by decide) (by decide));clear hg hat hrow;have Gy:=Lib.hid hown1;clear hown1)
   have Q5:=Lib.hid (show (sx++[(⟨ln,j⟩:bP)]).map bP.abs=((al.take k).flatMap fun a=>fD p a.1)++(fD p al[k].1).take (j+1) by
    rw [List.map_append,WY.out,ajR p al[k].1 j (by rw [Nu.out];exact hlj),List.append_assoc];simp only [List.map_cons,List.map_nil,bP.abs,Nu.out,Option.getD_some,Rh.out])
   go_roundw
   case rel => exact ⟨j+1,_,by omega,by go_num,Q5.out,aj7.out,aj8.out,Gy.out,yT.out,fun m hm hmj=>if e:m<j then yu.out m hm e else by
     have:m=j:=by omega
     subst this;exact He.out⟩
   case measure => simp [intOf];omega
end Go.Proofs.YtialfdomhoojiaaGreat
