import Derived.Test.YtpempeioeiaijaaGreatJ21
import Derived.ProofKit
import Derived.Test.YtpempeioeiaijaaGreatChecked
import Derived.DeepKeys4
import Derived.Maps.RangeWalk
import Derived.WideKeyEntry
import Derived.ChangeKeysEq
import Derived.Test.YtpempeioeiaijaaGreatLaySortPt
set_option linter.unusedSimpArgs false
set_option linter.unusedVariables false
set_option maxRecDepth 100000
set_option maxHeartbeats 8000000
namespace Go.Proofs.YtpempeioeiaijaaGreat
open Go.RowKit Go.Sort Tryz
theorem amT (v:Value) (xs:List (SV×List Pt)) (w:World) (h:FY w v xs) (hn:xs.length<=1000000) (hs:∀ k (hk:k<xs.length),xs[k].2.length<=1000000) :
  Calls prog 25 #[v] w fun e w'=>e=.returned (.int .i64 (GZ (xs.map (·.2))))/\AU w w':=by
 obtain ⟨⟨A,c,rfl,hc1,hc2,hR⟩,hP⟩:=h;unfold maxLen at hc2;obtain ⟨HR,HP,HS,HV⟩:=DW hR hP hs (fun p W=>atv p W);obtain ⟨q,hq⟩:=BI (GZ (xs.map (·.2)));rw [hq];have Hq:=AB hq;clear hR hP hs hq;by_cases h1:256<xs.length
 ·have H9:=AB (amN (f:=fun x:SV×List Pt=>x.2) h1);go_enter func25,ntmps25;go_wp2;go_ret;exact ⟨D8 Ub,bR w⟩
 go_enter func25,ntmps25;go_upto_block 0 with fail;go_wp2_with fail;go_loopw [19] (fun u wr=>∃ k:Nat,k<=xs.length/\u=.int .i64 k/\w=wr/\∀ j (hj:j<xs.length),j<k->¬ 4096<xs[j].2.length) (fun u _=>xs.length-(intOf u).toNat)
 case atStart => exact ⟨0,BX _,rfl,rfl,fun _ _ h=>AA⟩
 case round =>
  obtain ⟨k,hk,rfl,rfl,hno⟩:=hrel;have H2:=AB hno;clear hno;by_cases hlt:k<xs.length
  ·obtain ⟨b,o,rfl,hlb,c0⟩:=HR.1.ln hlt;obtain ⟨A1,c1,hv1,hc3,hc4,-⟩:=HP.1 k hlt;rw [hv1] at c0;unfold maxLen at hc4;clear hv1;by_cases he:4096<xs[k].2.length
   ·have H9:=AB (amO (f:=fun x:SV×List Pt=>x.2) h1 hlt he);go_wp2;go_ret;exact ⟨D8 Ub,bR _⟩
   ·have He:=AB he;go_wp2;go_roundw
    case rel => exact ⟨k+1,AA,BG,trivial,fun j hj hjk=>if e:j<k then H2.1 j hj e else by
      have:j=k:=AA
      subst this;exact He.1⟩
    case measure => exact BH
  ·replace H2:=AB (fun j hj=>H2.1 j hj AA);have hkn:k=xs.length:=AA
   subst hkn;go_upto_block 2 with fail;go_wp2_with fail;go_loopw [29] (fun u wr=>∃ k:Nat,k<=xs.length/\u=.int .i64 k/\w=wr/\∀ j (hj:j<xs.length),j<k->¬ xs[j].2.length<2) (fun u _=>xs.length-(intOf u).toNat)
   case atStart => exact ⟨0,BX _,rfl,rfl,fun _ _ h=>AA⟩
   case round =>
    obtain ⟨k,hk,rfl,rfl,hno⟩:=hrel;have H3:=AB hno;clear hno;by_cases hlt:k<xs.length
    ·obtain ⟨b,o,rfl,hlb,c0⟩:=HR.1.ln hlt;obtain ⟨A1,c1,hv1,hc3,hc4,-⟩:=HP.1 k hlt;rw [hv1] at c0;unfold maxLen at hc4;clear hv1;by_cases he:xs[k].2.length<2
     ·have H9:=AB (amP (f:=fun x:SV×List Pt=>x.2) h1 H2.1 hlt he);go_wp2;go_ret;exact ⟨D8 Ub,bR _⟩
     ·have He:=AB he;go_wp2;go_roundw
      case rel => exact ⟨k+1,AA,BG,trivial,fun j hj hjk=>if e:j<k then H3.1 j hj e else by
        have:j=k:=AA
        subst this;exact He.1⟩
      case measure => exact BH
    ·replace H3:=AB (fun j hj=>H3.1 j hj AA);have hkn:k=xs.length:=AA
     subst hkn;go_upto_block 4 with fail;go_wp2_with fail;go_loopw [39] (fun u wr=>∃ k:Nat,k<=xs.length/\u=.int .i64 k/\AU w wr/\∀ j (hj:j<xs.length),j<k->∀ i (hi:i<xs[j].2.length),GL xs[j].2[i]=true) (fun u _=>xs.length-(intOf u).toNat)
     case atStart => exact ⟨0,BX _,rfl,bR _,fun _ _ h=>AA⟩
     case round =>
      obtain ⟨k,hk,rfl,hb,hno⟩:=hrel;obtain ⟨w4,rfl⟩:=BR wr;have H4:=AB hno;have Hb:=AB hb;clear hno hb;by_cases hlt:k<xs.length
      ·obtain ⟨b,o,rfl,hlb,c0⟩:=(HR.1.mono Hb.1).ln hlt;obtain ⟨A1,c1,hv1,hc3,hc4,hR1⟩:=HP.1 k hlt;have hk1:=HS.1 k hlt;have HR1:=AB hR1;rw [hv1] at c0;unfold maxLen at hc4;clear hv1 hR1;obtain ⟨L,hL⟩:=BI (xs[k].2);rw [hL] at c0 HR1 hk1 hc3;have HL:=AB hL;clear hL;go_upto_block 6 with fail;clear c0 hlb;go_wp2_with fail;go_loopw [45] (fun u wr=>∃ i:Nat,i<=L.length/\u=.int .i64 i/\AU w wr/\∀ j (hj:j<L.length),j<i->GL L[j]=true) (fun u _=>L.length-(intOf u).toNat)
       case atStart => exact ⟨0,BX _,rfl,Hb.1,fun _ _ h=>AA⟩
       case round =>
        obtain ⟨i,hi,rfl,hb2,LP⟩:=hrel;obtain ⟨w5,rfl⟩:=BR wr;have H5:=AB LP;have Hb2:=AB hb2;clear LP hb2;by_cases J7:i<L.length
        ·obtain ⟨b1,o1,rfl,NK,d0,d1⟩:=(HR1.1.mono Hb2.1).pt J7;obtain ⟨p,hp⟩:=BI (L[i]);rw [hp] at d0 d1;have Hp:=AB hp;have HVp:=AB (HV.1 p);clear hp;go_wp2_with fail;refine (HVp.1 _).mono ?_;rintro e w1 ⟨rfl,hb3⟩;have Hb3:=AB (bT (bA Hb2.1 _) hb3);clear hb3 d0 d1 NK
         cases hpo:GL p
         ·have H9:=AB (amQ (f:=fun x:SV×List Pt=>x.2) h1 H2.1 H3.1 hlt (i:=i) (by rw [HL.1];exact J7) (by simp only [HL.1,Hp.1];exact hpo));clear hpo;go_wp2;go_ret;exact ⟨D8 Ub,Hb3.1⟩
         ·have YC:=AB hpo;clear hpo;go_wp2;go_roundw
          case rel => exact ⟨i+1,AA,BG,Hb3.1,fun j hj hji=>if e:j<i then H5.1 j hj e else by
            have:j=i:=AA
            subst this;rw [Hp.1];exact YC.1⟩
          case measure => exact BH
        ·go_wp2;go_roundw
         case rel => exact ⟨k+1,AA,BG,Hb2.1,fun j hj hjk=>if e:j<k then H4.1 j hj e else by
           have:j=k:=AA
           subst this;intro i' hi';have h9:=H5.1 i' (by rw [<- HL.1];exact hi') (by rw [HL.1] at hi';omega);simp only [HL.1];exact h9⟩
         case measure => exact BH
      ·replace H4:=AB (fun j hj=>H4.1 j hj AA);have hkn:k=xs.length:=AA
       subst hkn;go_upto_block 8 with fail;go_wp2_with fail;go_loopw [56] (fun u wr=>∃ k:Nat,k<=xs.length/\u=.int .i64 k/\AU w wr/\∀ j (hj:j<xs.length),j<k->∀ i (hi:i+1<xs[j].2.length),¬ xs[j].2[i+1]=xs[j].2[i]) (fun u _=>xs.length-(intOf u).toNat)
       case atStart => exact ⟨0,BX _,rfl,Hb.1,fun _ _ h=>AA⟩
       case round =>
        obtain ⟨k,hk,rfl,hb,hno⟩:=hrel;obtain ⟨w5,rfl⟩:=BR wr;have H5:=AB hno;replace Hb:=AB hb;clear hno hb;by_cases hlt:k<xs.length
        ·obtain ⟨b,o,rfl,hlb,c0⟩:=(HR.1.mono Hb.1).ln hlt;obtain ⟨A1,c1,hv1,hc3,hc4,hR1⟩:=HP.1 k hlt;have hk1:=HS.1 k hlt;have HR1:=AB hR1;rw [hv1] at c0;unfold maxLen at hc4;clear hv1 hR1;obtain ⟨L,hL⟩:=BI (xs[k].2);rw [hL] at c0 HR1 hk1 hc3;have hl2:2<=L.length:=by have:=H3.1 k hlt;rw [hL] at this;omega
         have HL:=AB hL;clear hL;go_upto_block 10 with fail;clear c0 hlb;go_wp2_with fail;go_loopw [13] (fun u wr=>∃ i:Nat,i+1<=L.length/\u=.int .i64 ((i:Int)+1)/\AU w wr/\∀ j (hj:j+1<L.length),j<i->¬ L[j+1]=L[j]) (fun u _=>L.length-(intOf u).toNat)
         case atStart => exact ⟨0,AA,rfl,Hb.1,fun _ _ h=>AA⟩
         case round =>
          obtain ⟨i,hi,rfl,hb2,LP⟩:=hrel;obtain ⟨wo,rfl⟩:=BR wr;have H6:=AB LP;have Hb2:=AB hb2;clear LP hb2;by_cases J7:i+1<L.length
          ·obtain ⟨b1,o1,hA1,NK,d0,d1⟩:=(HR1.1.mono Hb2.1).pt J7;obtain ⟨b2,o2,hA2,-,f0,f1⟩:=(HR1.1.mono Hb2.1).pt (k:=i) AA;rw [hA1] at hA2;simp only [Gt,Addr.mk.injEq,and_true] at hA2;obtain ⟨rfl,rfl⟩:=hA2;subst hA1;obtain ⟨p,hp⟩:=BI (L[i+1]);obtain ⟨r,hr⟩:=BI (L[i]);rw [hp] at d0 d1;rw [hr] at f0 f1;have Hp:=AB hp;have Hr:=AB hr;have e0:IntKind.i64.wrap (i:Int)=i:=Jw _ AA;have heq:=KP p r;clear hp hr;have z1:((i:Int)+1)<L.length:=AA
           have z2:(0:Int)<=(i:Int)+1:=AA
           have z3:(i:Int)<L.length:=AA
           have z4:(0:Int)<=(i:Int):=AA
           go_upto_region 31 with fail;refine D9 (wo) (.run 10 0 0 (.done)) fun CQ QR Ae Aj hS=>?_
           iterate 10 refine Ak ?_
           refine D5 ?_;clear hS Aj Ae;intro hB;have Hb3:=AB (bT Hb2.1 hB);clear heq e0 z1 z2 z3 z4 d0 d1 f0 f1;by_cases hpr:p=r
           ·have H9:=AB (amR (f:=fun x:SV×List Pt=>x.2) h1 H2.1 H3.1 H4.1 hlt (i:=i) (by rw [HL.1];exact J7) (by simp only [HL.1,Hp.1,Hr.1];exact hpr));simp only [hpr,decide_true];go_wp2;go_ret;exact ⟨D8 Ub,Hb3.1⟩
           ·have Y6:=AB hpr;simp only [hpr,decide_false];clear hpr;go_wp2;go_roundw
            case rel => exact ⟨i+1,AA,BG,Hb3.1,fun j hj hji=>if e:j<i then H6.1 j hj e else by
              have:j=i:=AA
              subst this;rw [Hp.1,Hr.1];exact Y6.1⟩
            case measure => exact BH
          ·go_wp2;go_roundw
           case rel => exact ⟨k+1,AA,BG,Hb2.1,fun j hj hjk=>if e:j<k then H5.1 j hj e else by
             have:j=k:=AA
             subst this;intro i' hi';have h9:=H6.1 i' (by rw [<- HL.1];exact hi') (by rw [HL.1] at hi';omega);simp only [HL.1];exact h9⟩
           case measure => exact BH
        ·replace H5:=AB (fun j hj=>H5.1 j hj AA);have H9:=AB (amS (f:=fun x:SV×List Pt=>x.2) h1 H2.1 H3.1 H4.1 H5.1);go_wp2;go_ret;exact ⟨D8 Ub,Hb.1⟩
open Go.RowKit Go.Sort
theorem avq (p:Pt):abQ p=GL p:=by
 rw [Jh];unfold abQ GL abP;simp only [ER,Dq];omega
theorem Row.oK {w:World} {A:Option Addr} {xs:List (SV×List Pt)} (h:Row w A (xs.flatMap Kw)) {k:Nat} (hk:k<xs.length) :
  ∃ b o,A=some ⟨b,o,none⟩/\b<w.heap.size/\∀ W,AU w W->W.cell? ⟨b,o+k,none⟩=some (BF xs[k].1):=by
 obtain ⟨b,o,hA,hb,hc⟩:=h.at_ (n:=1) (fun _=>rfl) hk AA;exact ⟨b,o,hA,hb,fun W hW=>by rw [hW.cell (p:=⟨b,_,none⟩) hb];simpa using hc 0 _ rfl⟩
theorem amU (v:Value) (xs:List (SV×List Pt)) (w:World) (h:FY w v xs) (hn:xs.length<=1000000) (hs:∀ k (hk:k<xs.length),xs[k].2.length<=1000000) :
  Calls prog 28 #[v] w fun e w'=>e=.returned (.int .i64 (GZ (xs.map (·.2))))/\AU w w':=by
 obtain ⟨⟨A,c,rfl,hc1,hc2,hR⟩,hP⟩:=h;unfold maxLen at hc2;obtain ⟨HR,HP,HS,HV⟩:=DW hR hP hs (fun p W=>show Calls prog 58 #[.agg #[.int .i64 p.x,.int .i64 p.y]] W fun e w'=>e=.returned (.bool (GL p))/\AU W w' from by rw [<- avq];exact auX p W);obtain ⟨q,hq⟩:=BI (GZ (xs.map (·.2)));rw [hq];have Hq:=AB hq;clear hR hP hs hq;by_cases h1:256<xs.length
 ·have H9:=AB (amN (f:=fun x:SV×List Pt=>x.2) h1);go_enter func28,ntmps28;go_wp2;go_ret;exact ⟨D8 Ub,bR w⟩
 go_enter func28,ntmps28;go_upto_block 0 with fail;go_wp2_with fail;go_loopw [3] (fun u wr=>∃ k:Nat,k<=xs.length/\u=.int .i64 k/\w=wr/\∀ j (hj:j<xs.length),j<k->¬ 4096<xs[j].2.length) (fun u _=>xs.length-(intOf u).toNat)
 case atStart => exact ⟨0,BX _,rfl,rfl,fun _ _ h=>AA⟩
 case round =>
  obtain ⟨k,hk,rfl,rfl,hno⟩:=hrel;have H2:=AB hno;clear hno;by_cases hlt:k<xs.length
  ·obtain ⟨b,o,rfl,hlb,c0⟩:=HR.1.ln hlt;obtain ⟨A1,c1,hv1,hc3,hc4,-⟩:=HP.1 k hlt;rw [hv1] at c0;unfold maxLen at hc4;clear hv1;by_cases he:4096<xs[k].2.length
   ·have H9:=AB (amO (f:=fun x:SV×List Pt=>x.2) h1 hlt he);go_wp2;go_ret;exact ⟨D8 Ub,bR _⟩
   ·have He:=AB he;go_wp2;go_roundw
    case rel => exact ⟨k+1,AA,BG,trivial,fun j hj hjk=>if e:j<k then H2.1 j hj e else by
      have:j=k:=AA
      subst this;exact He.1⟩
    case measure => exact BH
  ·replace H2:=AB (fun j hj=>H2.1 j hj AA);have hkn:k=xs.length:=AA
   subst hkn;go_upto_block 2 with fail;go_wp2_with fail;go_loopw [4] (fun u wr=>∃ k:Nat,k<=xs.length/\u=.int .i64 k/\w=wr/\∀ j (hj:j<xs.length),j<k->¬ xs[j].2.length<2) (fun u _=>xs.length-(intOf u).toNat)
   case atStart => exact ⟨0,BX _,rfl,rfl,fun _ _ h=>AA⟩
   case round =>
    obtain ⟨k,hk,rfl,rfl,hno⟩:=hrel;have H3:=AB hno;clear hno;by_cases hlt:k<xs.length
    ·obtain ⟨b,o,rfl,hlb,c0⟩:=HR.1.ln hlt;obtain ⟨A1,c1,hv1,hc3,hc4,-⟩:=HP.1 k hlt;rw [hv1] at c0;unfold maxLen at hc4;clear hv1;by_cases he:xs[k].2.length<2
     ·have H9:=AB (amP (f:=fun x:SV×List Pt=>x.2) h1 H2.1 hlt he);go_wp2;go_ret;exact ⟨D8 Ub,bR _⟩
     ·have He:=AB he;go_wp2;go_roundw
      case rel => exact ⟨k+1,AA,BG,trivial,fun j hj hjk=>if e:j<k then H3.1 j hj e else by
        have:j=k:=AA
        subst this;exact He.1⟩
      case measure => exact BH
    ·replace H3:=AB (fun j hj=>H3.1 j hj AA);have hkn:k=xs.length:=AA
     subst hkn;go_upto_block 4 with fail;go_wp2_with fail;go_loopw [5] (fun u wr=>∃ k:Nat,k<=xs.length/\u=.int .i64 k/\AU w wr/\∀ j (hj:j<xs.length),j<k->∀ i (hi:i<xs[j].2.length),GL xs[j].2[i]=true) (fun u _=>xs.length-(intOf u).toNat)
     case atStart => exact ⟨0,BX _,rfl,bR _,fun _ _ h=>AA⟩
     case round =>
      obtain ⟨k,hk,rfl,hb,hno⟩:=hrel;obtain ⟨w4,rfl⟩:=BR wr;have H4:=AB hno;have Hb:=AB hb;clear hno hb;by_cases hlt:k<xs.length
      ·obtain ⟨b,o,rfl,hlb0,hc0⟩:=HR.1.oK hlt;obtain ⟨A1,c1,hv1,hc3,hc4,hR1⟩:=HP.1 k hlt;have hk1:=HS.1 k hlt;have HR1:=AB hR1;rw [hv1] at hc0;unfold maxLen at hc4;clear hv1 hR1;obtain ⟨L,hL⟩:=BI (xs[k].2);rw [hL] at hc0 HR1 hk1 hc3;have HL:=AB hL;have Kz:=AB hc0;have z1:(k:Int)<xs.length:=AA
       have z2:(0:Int)<=k:=AA
       clear hL hc0;go_upto_block 6 with fail;go_wp2_with fail;go_loopw [6] (fun u wr=>∃ i:Nat,i<=L.length/\u=.int .i64 i/\AU w wr/\∀ j (hj:j<L.length),j<i->GL L[j]=true) (fun u _=>L.length-(intOf u).toNat)
       case atStart => exact ⟨0,BX _,rfl,Hb.1,fun _ _ h=>AA⟩
       case round =>
        obtain ⟨i,hi,rfl,hb2,LP⟩:=hrel;obtain ⟨w5,rfl⟩:=BR wr;have H5:=AB LP;have Hb2:=AB hb2;clear LP hb2;have c0:=Kz.1 _ Hb2.1;by_cases J7:i<L.length
        ·obtain ⟨b1,o1,rfl,NK,d0,d1⟩:=(HR1.1.mono Hb2.1).pt J7;obtain ⟨p,hp⟩:=BI (L[i]);rw [hp] at d0 d1;have Hp:=AB hp;have HVp:=AB (HV.1 p);clear hp;go_wp2_with fail;refine (HVp.1 _).mono ?_;rintro e w1 ⟨rfl,hb3⟩;have Hb3:=AB (bT Hb2.1 hb3);clear hb3 d0 d1 NK c0
         cases hpo:GL p
         ·have H9:=AB (amQ (f:=fun x:SV×List Pt=>x.2) h1 H2.1 H3.1 hlt (i:=i) (by rw [HL.1];exact J7) (by simp only [HL.1,Hp.1];exact hpo));clear hpo;go_wp2;go_ret;exact ⟨D8 Ub,Hb3.1⟩
         ·have YC:=AB hpo;clear hpo;go_wp2;go_roundw
          case rel => exact ⟨i+1,AA,BG,Hb3.1,fun j hj hji=>if e:j<i then H5.1 j hj e else by
            have:j=i:=AA
            subst this;rw [Hp.1];exact YC.1⟩
          case measure => exact BH
        ·go_wp2;go_roundw
         case rel => exact ⟨k+1,AA,BG,Hb2.1,fun j hj hjk=>if e:j<k then H4.1 j hj e else by
           have:j=k:=AA
           subst this;intro i' hi';have h9:=H5.1 i' (by rw [<- HL.1];exact hi') (by rw [HL.1] at hi';omega);simp only [HL.1];exact h9⟩
         case measure => exact BH
      ·replace H4:=AB (fun j hj=>H4.1 j hj AA);have hkn:k=xs.length:=AA
       subst hkn;go_upto_block 8 with fail;go_wp2_with fail;go_loopw [7] (fun u wr=>∃ k:Nat,k<=xs.length/\u=.int .i64 k/\AU w wr/\∀ j (hj:j<xs.length),j<k->∀ i (hi:i+1<xs[j].2.length),¬ xs[j].2[i+1]=xs[j].2[i]) (fun u _=>xs.length-(intOf u).toNat)
       case atStart => exact ⟨0,BX _,rfl,Hb.1,fun _ _ h=>AA⟩
       case round =>
        obtain ⟨k,hk,rfl,hb,hno⟩:=hrel;obtain ⟨w5,rfl⟩:=BR wr;have H5:=AB hno;replace Hb:=AB hb;clear hno hb;by_cases hlt:k<xs.length
        ·obtain ⟨b,o,rfl,hlb0,hc0⟩:=HR.1.oK hlt;obtain ⟨A1,c1,hv1,hc3,hc4,hR1⟩:=HP.1 k hlt;have hk1:=HS.1 k hlt;have HR1:=AB hR1;rw [hv1] at hc0;unfold maxLen at hc4;clear hv1 hR1;obtain ⟨L,hL⟩:=BI (xs[k].2);rw [hL] at hc0 HR1 hk1 hc3;have hl2:2<=L.length:=by have:=H3.1 k hlt;rw [hL] at this;omega
         have HL:=AB hL;have Kz:=AB hc0;have y1:(k:Int)<xs.length:=AA
         have y2:(0:Int)<=k:=AA
         clear hL hc0;go_upto_block 10 with fail;go_wp2_with fail;go_loopw [8] (fun u wr=>∃ i:Nat,i+1<=L.length/\u=.int .i64 ((i:Int)+1)/\AU w wr/\∀ j (hj:j+1<L.length),j<i->¬ L[j+1]=L[j]) (fun u _=>L.length-(intOf u).toNat)
         case atStart => exact ⟨0,AA,rfl,Hb.1,fun _ _ h=>AA⟩
         case round =>
          obtain ⟨i,hi,rfl,hb2,LP⟩:=hrel;obtain ⟨wo,rfl⟩:=BR wr;have H6:=AB LP;have Hb2:=AB hb2;clear LP hb2;have c0:=Kz.1 _ Hb2.1;by_cases J7:i+1<L.length
          ·obtain ⟨b1,o1,hA1,NK,d0,d1⟩:=(HR1.1.mono Hb2.1).pt J7;obtain ⟨b2,o2,hA2,-,f0,f1⟩:=(HR1.1.mono Hb2.1).pt (k:=i) AA;rw [hA1] at hA2;simp only [Gt,Addr.mk.injEq,and_true] at hA2;obtain ⟨rfl,rfl⟩:=hA2;subst hA1;obtain ⟨p,hp⟩:=BI (L[i+1]);obtain ⟨r,hr⟩:=BI (L[i]);rw [hp] at d0 d1;rw [hr] at f0 f1;have Hp:=AB hp;have Hr:=AB hr;have e0:IntKind.i64.wrap (i:Int)=i:=Jw _ AA;have heq:=KP p r;clear hp hr;have z1:((i:Int)+1)<L.length:=AA
           have z2:(0:Int)<=(i:Int)+1:=AA
           have z3:(i:Int)<L.length:=AA
           have z4:(0:Int)<=(i:Int):=AA
           have hlb:b<wo.heap.size:=QS hlb0 Hb2.1.size;go_upto_region 27 with fail;refine D9 (wo) (.run 16 0 0 (.done)) fun CQ QR Ae Aj hS=>?_
           iterate 16 refine Ak ?_
           refine D5 ?_;clear hS Aj Ae;intro hB;have Hb3:=AB (bT Hb2.1 hB);clear heq e0 z1 z2 z3 z4 d0 d1 f0 f1 c0;by_cases hpr:p=r
           ·have H9:=AB (amR (f:=fun x:SV×List Pt=>x.2) h1 H2.1 H3.1 H4.1 hlt (i:=i) (by rw [HL.1];exact J7) (by simp only [HL.1,Hp.1,Hr.1];exact hpr));simp only [hpr,decide_true];go_wp2;go_ret;exact ⟨D8 Ub,Hb3.1⟩
           ·have Y6:=AB hpr;simp only [hpr,decide_false];clear hpr;go_wp2;go_roundw
            case rel => exact ⟨i+1,AA,BG,Hb3.1,fun j hj hji=>if e:j<i then H6.1 j hj e else by
              have:j=i:=AA
              subst this;rw [Hp.1,Hr.1];exact Y6.1⟩
            case measure => exact BH
          ·go_wp2;go_roundw
           case rel => exact ⟨k+1,AA,BG,Hb2.1,fun j hj hjk=>if e:j<k then H5.1 j hj e else by
             have:j=k:=AA
             subst this;intro i' hi';have h9:=H6.1 i' (by rw [<- HL.1];exact hi') (by rw [HL.1] at hi';omega);simp only [HL.1];exact h9⟩
           case measure => exact BH
        ·replace H5:=AB (fun j hj=>H5.1 j hj AA);have H9:=AB (amS (f:=fun x:SV×List Pt=>x.2) h1 H2.1 H3.1 H4.1 H5.1);go_wp2;go_ret;exact ⟨D8 Ub,Hb.1⟩
open Go.RowKit Go.Sort
section
variable {α:Type} {f:α->List Pt} {xs:List α} {p:Pt}
theorem avr {k:Nat} (hk:k<xs.length) {L:List Pt} (hL:f xs[k]=L) (h0:0<L.length) (h:L[0]=p):QI (xs.map f) p=true:=by
 subst hL;unfold QI;rw [Ir];refine .inl (pK (q:=fun l=>decide (l.head? = some p) || decide (l.getLast? = some p)) hk ?_);rw [List.head?_eq_getElem?,Di h0,h];simp
theorem avs {k:Nat} (hk:k<xs.length) {L:List Pt} (hL:f xs[k]=L) (h0:L.length-1<L.length) (h:L[L.length-1]=p):QI (xs.map f) p=true:=by
 subst hL;unfold QI;rw [Ir];refine .inl (pK (q:=fun l=>decide (l.head? = some p) || decide (l.getLast? = some p)) hk ?_);rw [List.getLast?_eq_getElem?,Di h0,h];simp
theorem avt (h0:∀ k (hk:k<xs.length),0<(f xs[k]).length) (h1:∀ k (hk:k<xs.length) (h:0<(f xs[k]).length),(f xs[k])[0]≠p)
  (h2:∀ k (hk:k<xs.length) (h:(f xs[k]).length-1<(f xs[k]).length),(f xs[k])[(f xs[k]).length-1]≠p):QI (xs.map f) p=decide (2<=(xs.map f).flatten.count p):=by
 unfold QI;rw [Vf (q:=fun l=>decide (l.head? = some p) || decide (l.getLast? = some p)) fun k hk=>?_,yL];have:=h0 k hk
 rw [List.getLast?_eq_getElem?,List.head?_eq_getElem?,Di (show (f xs[k]).length-1<(f xs[k]).length by omega),Di this];have a1:=h1 k hk this;have a2:=h2 k hk AA;simp [a1,a2]
def Vg (f:α->List Pt) (xs:List α) (p:Pt) (k:Nat):Nat:=((xs.take k).map f).flatten.count p
theorem amV:Vg f xs p 0=0:=by simp [Vg]
theorem avu {k:Nat} (hk:k<xs.length):Vg f xs p (k+1)=Vg f xs p k+(f xs[k]).count p:=by
 unfold Vg;rw [Em hk,FH,yY,ZL];simp
theorem avv:Vg f xs p xs.length=(xs.map f).flatten.count p:=by unfold Vg;rw [I5]
theorem avw {l:List Pt} {i:Nat} (hi:i<l.length):(l.take (i+1)).count p=(l.take i).count p+if l[i]=p then 1 else 0:=by
 rw [Em hi,ZL];by_cases e:l[i]=p
 · rw [AZ e,e];simp
 ·rw [AX e];have:[l[i]].count p=0:=yZ.2 (by simpa using fun h=>e h.symm)
  omega
end
theorem amW (v:Value) (xs:List (SV×List Pt)) (p:Pt) (w:World) (h:FY w v xs) (hn:xs.length<=256) (hs:∀ k (hk:k<xs.length),xs[k].2.length<=4096) (h2:∀ k (hk:k<xs.length),2<=xs[k].2.length) :
  Calls prog 29 #[v,.agg #[.int .i64 p.x,.int .i64 p.y]] w fun e w'=>e=.returned (.bool (QI (xs.map (·.2)) p))/\AU w w':=by
 obtain ⟨⟨A,c,rfl,hc1,hc2,hR⟩,hP⟩:=h;unfold maxLen at hc2;obtain ⟨HR,HP,HS,H2,Hhd,Hla,Hen⟩:=WI hR hP hs h2 (fun k (hk:k<xs.length) L hL h0 h=>avr (f:=fun x:SV×List Pt=>x.2) (p:=p) (k:=k) hk (L:=L) hL h0 h) (fun k (hk:k<xs.length) L hL h0 h=>avs (f:=fun x:SV×List Pt=>x.2) (p:=p) (k:=k) hk (L:=L) hL h0 h) (fun h1 h2'=>avt (f:=fun x:SV×List Pt=>x.2) (xs:=xs) (p:=p) (fun k hk=>by have:=h2 k hk;omega) h1 h2');obtain ⟨q,hq⟩:=BI (QI (xs.map (·.2)) p);rw [hq] at Hhd Hla Hen ⊢;clear hR hP hs hq h2;go_enter func29,ntmps29;go_upto_block 0 with fail;obtain ⟨W1,hW⟩:=BR (w.alloc (.cells #[.int .i64 p.x,.int .i64 p.y] 42));have Dt:=AB (show AO W1 w.heap.size 42 #[.int .i64 p.x,.int .i64 p.y] by rw [hW];exact AO.made rfl _ _);have HB1:=AB (show AU w W1 by rw [hW];exact bA (bR w) _);rw [<- hW];clear hW;go_wp2_with fail;go_loopw [5,6] (fun n u wr=>∃ k:Nat,k<=xs.length/\u=.int .i64 k/\n=.int .i64 (Vg (·.2) xs p k:Nat)/\Vg (·.2) xs p k<=4096*k/\AU W1 wr
   /\ (∀ j (hj:j<xs.length),j<k->∀ h:0<xs[j].2.length,xs[j].2[0]≠p)/\(∀ j (hj:j<xs.length),j<k->∀ h:xs[j].2.length-1<xs[j].2.length,xs[j].2[xs[j].2.length-1]≠p)) (fun _ u _=>xs.length-(intOf u).toNat)
 case atStart => exact ⟨0,BX _,rfl,by rw [amV];rfl,by rw [amV];omega,bR _,fun _ _ h=>AA,fun _ _ h=>AA⟩
 case round =>
  obtain ⟨k,hk,rfl,rfl,hcb,hb,hn1,hn2⟩:=hrel;obtain ⟨wo,rfl⟩:=BR wr;obtain ⟨HN1,ZN,Hb⟩:=CG hn1 hn2 hb;have X1:=Dt.1.keep hb;clear hn1 hn2 hb;by_cases hlt:k<xs.length
  ·have HC:=AB (avu (f:=fun x:SV×List Pt=>x.2) (p:=p) hlt);obtain ⟨n,hnn⟩:=BI (Vg (·.2) xs p k);rw [hnn] at hcb HC ⊢;clear hnn;obtain ⟨b,o,rfl,hlb0,hc0⟩:=HR.1.oK hlt;obtain ⟨A1,c1,hv1,hc3,hc4,hR1⟩:=HP.1 k hlt;have hk1:=HS.1 k hlt;have hk2:=H2.1 k hlt;have HR1:=AB hR1;rw [hv1] at hc0;unfold maxLen at hc4;clear hv1 hR1;obtain ⟨L,hL⟩:=BI (xs[k].2);simp only [hL] at hc0 HR1 hk1 hk2 hc3 HC;have HL:=AB hL;obtain ⟨Hhk,adO,Kz⟩:=CG (Hhd.1 k hlt L HL.1) (Hla.1 k hlt L HL.1) (fun W (hW:AU W1 W)=>hc0 W (bT HB1.1 hW));have y1:(k:Int)<xs.length:=AA
   have y2:(0:Int)<=k:=AA
   have hlb:b<wo.heap.size:=QS hlb0 (bT HB1.1 Hb.1).size;have c0:=Kz.1 _ Hb.1;clear hL hc0;have HRo:=AB (fun W (hW:AU W1 W)=>HR1.1.mono (bT HB1.1 hW));obtain ⟨b1,o1,hA1,NK,d0,d1⟩:=(HRo.1 _ Hb.1).pt (k:=0) AA;obtain ⟨b2,o2,hA2,-,f0,f1⟩:=(HRo.1 _ Hb.1).pt (k:=L.length-1) AA;rw [hA1] at hA2;simp only [Gt,Addr.mk.injEq,and_true] at hA2;obtain ⟨rfl,rfl⟩:=hA2;subst hA1;simp only [kP,RF] at d0 d1;obtain ⟨a,ha⟩:=BI (L[0]'(by omega));obtain ⟨z,hz⟩:=BI (L[L.length-1]'(by omega));obtain ⟨m,hm⟩:=BI (L.length-1);rw [ha] at d0 d1;rw [hz] at f0 f1;rw [hm] at f0 f1;have Ha:=AB ha;have Hz:=AB hz;have e0:IntKind.i64.wrap ((L.length:Int)-1)=m:=by rw [Jw _ AA];omega
   have z1:(m:Int)<L.length:=AA
   have z2:(0:Int)<=(m:Int):=AA
   have z3:0<L.length:=AA
   clear ha hz hm;obtain ⟨BJ,BK,BL,-⟩:=X1.Bl;by_cases hap:a=p
   ·have H9:=AB (Hhk.1 AA (by rw [Ha.1];exact hap));have heq:∀ W,(binOp .eql 42 (.agg #[.int .i64 a.x,.int .i64 a.y]) (.agg #[.int .i64 p.x,.int .i64 p.y])).run prog W=.ok (.bool true) W:=fun W=>by rw [KP];simp [hap]
    clear hap;go_upto_region 5 with fail;refine D9 (wo) (.run 24 0 0 (.done)) fun CQ QR Ae Aj hS=>?_
    iterate 9 refine Ak ?_
    iterate 14 refine JW ?_
    refine Ak ?_;refine D5 ?_;clear hS Aj Ae;intro hB;go_wp2;go_ret;exact ⟨CP H9.1.symm,bT HB1.1 (bT Hb.1 hB)⟩
   ·have Hap:=AB hap;have heq:∀ W,(binOp .eql 42 (.agg #[.int .i64 a.x,.int .i64 a.y]) (.agg #[.int .i64 p.x,.int .i64 p.y])).run prog W=.ok (.bool false) W:=fun W=>by rw [KP];simp [hap]
    clear hap;by_cases hzp:z=p
    ·have H9:=AB (adO.1 AA (by rw [Hz.1];exact hzp));have heq2:∀ W,(binOp .eql 42 (.agg #[.int .i64 z.x,.int .i64 z.y]) (.agg #[.int .i64 p.x,.int .i64 p.y])).run prog W=.ok (.bool true) W:=fun W=>by rw [KP];simp [hzp]
     clear hzp;go_upto_region 5 with fail;refine D9 (wo) (.run 24 0 0 (.done)) fun CQ QR Ae Aj hS=>?_
     iterate 9 refine Ak ?_
     iterate 14 refine E5 ?_
     refine Ak ?_;refine D5 ?_;clear hS Aj Ae;intro hB;go_wp2;go_ret;exact ⟨CP H9.1.symm,bT HB1.1 (bT Hb.1 hB)⟩
    ·have Hzp:=AB hzp;have heq2:∀ W,(binOp .eql 42 (.agg #[.int .i64 z.x,.int .i64 z.y]) (.agg #[.int .i64 p.x,.int .i64 p.y])).run prog W=.ok (.bool false) W:=fun W=>by rw [KP];simp [hzp]
     clear hzp;go_upto_region 5 with fail;refine D9 (wo) (.run 24 0 0 (.done)) fun CQ QR Ae Aj hS=>?_
     iterate 9 refine Ak ?_
     iterate 14 refine E5 ?_
     refine Ak ?_;refine D5 ?_;clear hS Aj Ae;intro hB;obtain ⟨W6,y7⟩:∃ W:World,W=wo.drew:=⟨_,rfl⟩;rw [<- y7] at hB ⊢;have Hb6:=AB (bT Hb.1 hB);clear y7 hB heq heq2 d0 d1 f0 f1 c0 hlb NK e0 BJ BK BL;go_upto_block 2 with fail;go_wp2_with fail;go_loopw [5,7] (fun u5 u wr=>∃ i:Nat,i<=L.length/\u=.int .i64 i/\u5=.int .i64 ((n+(L.take i).count p:Nat))/\AU W1 wr) (fun _ u _=>L.length-(intOf u).toNat)
     case atStart => exact ⟨0,BX _,rfl,Ah,Hb6.1⟩
     case round =>
      obtain ⟨i,hi,rfl,rfl,hb2⟩:=hrel;obtain ⟨w5,rfl⟩:=BR wr;have Hb2:=AB hb2;have X2:=Dt.1.keep hb2;clear hb2;have c0:=Kz.1 _ Hb2.1;have hlb:b<w5.heap.size:=QS hlb0 (bT HB1.1 Hb2.1).size;by_cases J7:i<L.length
      ·obtain ⟨b3,o3,hA3,YP,d0,d1⟩:=(HRo.1 _ Hb2.1).pt J7;simp only [Gt,Addr.mk.injEq,and_true] at hA3;obtain ⟨rfl,rfl⟩:=hA3;have Hct:=AB (avw (p:=p) J7);have hct:(L.take i).count p<=i:=EG ah5 jw;obtain ⟨r,hr⟩:=BI (L[i]);obtain ⟨cn,hcn⟩:=BI ((L.take i).count p);rw [hr] at d0 d1 Hct;rw [hcn] at hct Hct ⊢;clear hr hcn;have z4:(i:Int)<L.length:=AA
       have z5:(0:Int)<=i:=AA
       obtain ⟨Bh,Bq,Bv,-⟩:=X2.Bl;by_cases Lp:r=p
       ·have heq:∀ W,(binOp .eql 42 (.agg #[.int .i64 r.x,.int .i64 r.y]) (.agg #[.int .i64 p.x,.int .i64 p.y])).run prog W=.ok (.bool true) W:=fun W=>by rw [KP];simp [Lp]
        have yC:=AB (show (L.take (i+1)).count p=cn+1 by rw [Hct.1,AZ Lp]);clear Lp;go_upto_region 10 with fail;refine D9 (w5) (.run 9 0 0 (.done)) fun CQ QR Ae Aj hS=>?_
        iterate 9 refine Ak ?_
        refine D5 ?_;clear hS Aj Ae;intro hB;have Hb7:=AB (bT Hb2.1 hB);clear hB heq d0 d1 c0 Bh Bq Bv;go_wp2;go_roundw
        case rel => exact ⟨i+1,AA,BG,by rw [yC.1];first | done | (congr 1;first | done | omega | (rw [Jw _ AA];omega)),Hb7.1⟩
        case measure => exact BH
       ·have heq:∀ W,(binOp .eql 42 (.agg #[.int .i64 r.x,.int .i64 r.y]) (.agg #[.int .i64 p.x,.int .i64 p.y])).run prog W=.ok (.bool false) W:=fun W=>by rw [KP];simp [Lp]
        have yC:=AB (show (L.take (i+1)).count p=cn by rw [Hct.1,AX Lp,RF]);clear Lp;go_upto_region 10 with fail;refine D9 (w5) (.run 9 0 0 (.done)) fun CQ QR Ae Aj hS=>?_
        iterate 9 refine Ak ?_
        refine D5 ?_;clear hS Aj Ae;intro hB;have Hb7:=AB (bT Hb2.1 hB);clear hB heq d0 d1 c0 Bh Bq Bv;go_wp2;go_roundw
        case rel => exact ⟨i+1,AA,BG,by rw [yC.1],Hb7.1⟩
        case measure => exact BH
      ·have hil:i=L.length:=AA
       have yC:=AB (show (L.take i).count p=L.count p by rw [hil,I5]);have hcl:L.count p<=L.length:=ah5;go_wp2;go_roundw
       case rel => exact ⟨k+1,AA,BG,by rw [HC.1,yC.1],by rw [HC.1];omega,Hb2.1,fun j hj hjk h0=>if e:j<k then HN1.1 j hj e h0 else by
         have:j=k:=AA
         subst this;simp only [HL.1,Ha.1];exact Hap.1,fun j hj hjk h0=>if e:j<k then ZN.1 j hj e h0 else by
         have:j=k:=AA
         subst this;simp only [HL.1,Hz.1];exact Hzp.1⟩
       case measure => exact BH
  ·have hkn:k=xs.length:=AA
   subst hkn;have H9:=AB (Hen.1 (fun j hj=>HN1.1 j hj hj) (fun j hj=>ZN.1 j hj hj));have H8:=AB (avv (f:=fun x:SV×List Pt=>x.2) (xs:=xs) (p:=p));obtain ⟨n,hnn⟩:=BI (Vg (·.2) xs p xs.length);rw [hnn] at hcb H8 ⊢;clear hnn;go_wp2;go_ret;refine ⟨CP ?_,bT HB1.1 Hb.1⟩;rw [H9.1,<- H8.1]
   first | done | (rw [Jh];simp only [Dq];omega) | (simp;omega)
open Go.RowKit Go.Sort
theorem avx:cmpL [] []=0:=rfl
theorem avV (p:Pt) (l:List Pt):cmpL [] (p::l)=-1:=rfl
theorem avW (p:Pt) (l:List Pt):cmpL (p::l) []=1:=rfl
theorem avX (p:Pt) (a b:List Pt):cmpL (p::a) (p::b)=cmpL a b:=by unfold cmpL;simp [EU]
theorem avY {p q:Pt} (h:p≠q) (a b:List Pt):cmpL (p::a) (q::b)=Ph p q:=by
 have h':¬ q=p:=fun e=>h e.symm;unfold cmpL Ph;simp [EU,h,h']
theorem amX {p q:Pt}:Ph p q=0↔p=q:=by
 unfold Ph;constructor
 ·intro h
  cases h1:BP p q
  ·cases h2:BP q p
   · exact Wv h1 h2
   · rw [h1,h2] at h;simp at h
  · rw [h1] at h;simp at h
 · rintro rfl;simp [U4]
theorem TB {α:Type} (l:List α) {k:Nat} (h:k<l.length):l.drop k=l[k]::l.drop (k+1):=kU h
theorem avZ (x y:SV×List Pt) (w:World) (hx:CZ w (BF x.1) x.2) (hy:CZ w (BF y.1) y.2) (hlx:x.2.length<=1000000000) (aj:y.2.length<=1000000000) :
  Calls prog 67 #[BF x.1,BF y.1,.func (.func 27) #[] #[]] w fun e w'=>e=.returned (.int .i64 (cmpL x.2 y.2))/\MR w w':=by
 have HC:=AB (fun a b W=>akI a b W);obtain ⟨sx,lx⟩:=x;obtain ⟨sy,ly⟩:=y;simp only at *;obtain ⟨A1,c1,hv1,hc1,hc1',hR1⟩:=hx;obtain ⟨A2,c2,hv2,hc2,hc2',hR2⟩:=hy;rw [hv1,hv2];have HR1:=AB hR1;have HR2:=AB hR2;obtain ⟨q,hq⟩:=BI (cmpL lx ly);rw [hq];have Hq:=AB (show cmpL (lx.drop 0) (ly.drop 0)=q from hq);unfold maxLen at hc1' hc2';clear hv1 hv2 hR1 hR2 hq;go_enter func67,ntmps67;go_upto_block 0 with fail;go_wp2_with fail;go_loopw [13] (fun u wr=>∃ k:Nat,k<=lx.length/\u=.int .i64 k/\MR w wr/\cmpL (lx.drop k) (ly.drop k)=q) (fun u _=>lx.length-(intOf u).toNat)
 case atStart => exact ⟨0,BX _,rfl,⟨bR w,dR w⟩,Hq.1⟩
 case round =>
  obtain ⟨k,hk,rfl,hbd,hcm⟩:=hrel;obtain ⟨HB,HD,HQ⟩:=CG hbd.1 hbd.2 hcm;clear hbd hcm Hq;by_cases hlt:k<lx.length
  ·obtain ⟨b,o,rfl,hlb,d0,d1⟩:=(HR1.1.mono HB.1).pt hlt;obtain ⟨p,hp⟩:=BI (lx[k]);rw [hp] at d0 d1;have Hx:=AB (TB lx hlt);rw [hp] at Hx;clear hp;by_cases hlt2:k<ly.length
   ·obtain ⟨b2,o2,rfl,UD,f0,f1⟩:=(HR2.1.mono HB.1).pt hlt2;obtain ⟨r,hr⟩:=BI (ly[k]);rw [hr] at f0 f1;have Hy:=AB (TB ly hlt2);rw [hr] at Hy;clear hr;have Yt:=AB (HC.1 p r);go_wp2_with fail;refine (Yt.1 _).mono ?_;rintro e w1 ⟨rfl,hb1,hd1⟩;have HB1:=AB (bT (bA (bA HB.1 _) _) hb1);have HD1:=AB (dT (dA (dA HD.1 _) _) hd1);clear hb1 hd1 d0 d1 f0 f1 hlb UD;by_cases hz:Ph p r=0
    ·have e9:=amX.1 hz;subst e9;have H9:=AB (show cmpL (lx.drop (k+1)) (ly.drop (k+1))=q by rw [<- HQ.1,Hx.1,Hy.1,avX]);generalize Ph p p=z at *;subst hz;go_wp2;go_roundw
     case rel => exact ⟨k+1,AA,BG,⟨HB1.1,HD1.1⟩,H9.1⟩
     case measure => exact BH
    ·have H9:=AB (show Ph p r=q by
      rw [<- HQ.1,Hx.1,Hy.1,avY (fun e=>hz (amX.2 e))])
     generalize Ph p r=z at *;have hz':(z != 0)=true:=by simpa using hz
     go_wp2;go_ret;exact ⟨D8 H9.1,HB1.1,HD1.1⟩
   ·have H9:=AB (show (1:Int)=q by
     rw [<- HQ.1,Hx.1,ah9 (show ly.length<=k by omega),avW])
    go_wp2;go_ret;exact ⟨D8 H9.1,bA HB.1 _,dA HD.1 _⟩
  ·have hkn:k=lx.length:=AA
   subst hkn;have Hx:=AB (ZK (l:=lx));by_cases hlt2:lx.length<ly.length
   ·have H9:=AB (show (-1:Int)=q by
     rw [<- HQ.1,Hx.1,TB ly hlt2,avV])
    go_wp2;go_ret;exact ⟨D8 H9.1,HB.1,HD.1⟩
   ·have H9:=AB (show (0:Int)=q by
     rw [<- HQ.1,Hx.1,ah9 (show ly.length<=lx.length by omega),avx])
    go_wp2;go_ret;exact ⟨D8 H9.1,HB.1,HD.1⟩
theorem ava (x y:SV×List Pt) (w:World) (hx:CZ w (BF x.1) x.2) (hy:CZ w (BF y.1) y.2) (hlx:x.2.length<=1000000000) (aj:y.2.length<=1000000000) :
  Calls prog 66 #[BF x.1,BF y.1] w fun e w'=>e=.returned (.int .i64 (cmpL x.2 y.2))/\MR w w':=by
 have HX:=AB (avZ x y w hx hy hlx aj);generalize cmpL x.2 y.2=q at *;clear hx hy hlx aj;obtain ⟨⟨a1,n1,c1⟩,lx⟩:=x;obtain ⟨⟨a2,n2,c2⟩,ly⟩:=y;unfold BF at *;simp only at *;go_enter func66,ntmps66;go_wp2_with fail;refine HX.1.mono ?_;rintro e w1 ⟨rfl,hb1,hd1⟩;go_wp2;go_ret;exact ⟨rfl,hb1,hd1⟩
open Go.RowKit Go.Sort
theorem amY (a b:Pt) (w:World) :
  Calls prog 59 #[.agg #[.int .i64 a.x,.int .i64 a.y],.agg #[.int .i64 b.x,.int .i64 b.y]] w fun e w'=>e=.returned (.bool (BP a b))/\AU w w':=by
 by_cases h1:a.x<b.x
 ·go_enter func59,ntmps59;go_wp2;go_ret;refine ⟨CP (by simp [BP,h1]),?_⟩;exact Dy
 ·by_cases h2:(a.x == b.x)=true
  ·go_enter func59,ntmps59;go_wp2;go_ret;refine ⟨CP qP,?_⟩;exact Dy
  ·have h2':(a.x == b.x)=false:=by simpa using h2
   clear h2;go_enter func59,ntmps59;go_wp2;go_ret;refine ⟨CP qP,?_⟩;exact Dy
theorem avb {a b:List Pt} {k:Nat} (ha:k<a.length) (hb:k<b.length) (h:a[k]≠b[k]):EU (a.drop k) (b.drop k)=BP a[k] b[k]:=by
 rw [TB a ha,TB b hb];simp [EU,h]
theorem avc {a b:List Pt} {k:Nat} (ha:k<a.length) (hb:k<b.length) (h:a[k]=b[k]):EU (a.drop k) (b.drop k)=EU (a.drop (k+1)) (b.drop (k+1)):=by
 rw [TB a ha,TB b hb];simp [EU,h]
theorem awt {a b:List Pt} {k:Nat} (hka:k<=a.length) (hkb:k<=b.length) (h:¬ (k<a.length/\k<b.length)):EU (a.drop k) (b.drop k)=decide (a.length<b.length):=by
 by_cases ha:k<a.length
 ·have hb:k=b.length:=AA
  subst hb;rw [ZK,TB a ha,Fg AA];rfl
 ·have ha':k=a.length:=AA
  subst ha';rw [ZK];by_cases hb:a.length<b.length
  · rw [TB b hb,JB hb];rfl
  ·have:a.length=b.length:=AA
   rw [this,ZK,Fg AA];rfl
theorem agt (x y:SV×List Pt) (w:World) (hx:CZ w (BF x.1) x.2) (hy:CZ w (BF y.1) y.2) (hlx:x.2.length<=1000000000) (aj:y.2.length<=1000000000) :
  Calls prog 31 #[BF x.1,BF y.1] w fun e w'=>e=.returned (.bool (EU x.2 y.2))/\AU w w':=by
 have WZ:=AB (fun a b W=>amY a b W);obtain ⟨sx,lx⟩:=x;obtain ⟨sy,ly⟩:=y;simp only at *;obtain ⟨A1,c1,hv1,hc1,hc1',hR1⟩:=hx;obtain ⟨A2,c2,hv2,hc2,hc2',hR2⟩:=hy;rw [hv1,hv2];have HR1:=AB hR1;have HR2:=AB hR2;obtain ⟨q,hq⟩:=BI (EU lx ly);rw [hq];have Hq:=AB (show EU (lx.drop 0) (ly.drop 0)=q from hq);unfold maxLen at hc1' hc2';clear hv1 hv2 hR1 hR2 hq;go_enter func31,ntmps31;go_upto_block 0 with fail;go_wp2_with fail;go_loopw [5] (fun u wr=>∃ k:Nat,k<=lx.length/\k<=ly.length/\u=.int .i64 k/\AU w wr/\EU (lx.drop k) (ly.drop k)=q) (fun u _=>lx.length-(intOf u).toNat)
 case atStart => exact ⟨0,BX _,BX _,rfl,bR w,Hq.1⟩
 case round =>
  obtain ⟨k,hk,hk2,rfl,hb,hcm⟩:=hrel;obtain ⟨wo,rfl⟩:=BR wr;have HB:=AB hb;have HQ:=AB hcm;clear hb hcm Hq;by_cases hlt:k<lx.length/\k<ly.length
  ·obtain ⟨h1,h2⟩:=hlt;obtain ⟨b,o,rfl,hlb,d0,d1⟩:=(HR1.1.mono HB.1).pt h1;obtain ⟨b2,o2,rfl,UD,f0,f1⟩:=(HR2.1.mono HB.1).pt h2;have He:=AB (avc h1 h2);have Hn:=AB (avb h1 h2);generalize lx[k]=p at *;generalize ly[k]=r at *;have z1:(k:Int)<lx.length:=AA
   have z2:(k:Int)<ly.length:=AA
   have z3:(0:Int)<=k:=AA
   by_cases hpr:p=r
   ·subst hpr;have hneq:∀ W,(binOp .neq 42 (.agg #[.int .i64 p.x,.int .i64 p.y]) (.agg #[.int .i64 p.x,.int .i64 p.y])).run prog W=.ok (.bool false) W:=fun W=>by rw [lX];simp
    go_upto_region 4 with fail;refine D9 (wo) (.run 9 0 0 (.done)) fun CQ QR Ae Aj hS=>?_
    iterate 9 refine Ak ?_
    refine D5 ?_;clear hS Aj Ae;intro hB;have GX:=AB (bT HB.1 hB);have H9:=AB (show EU (lx.drop (k+1)) (ly.drop (k+1))=q by rw [<- HQ.1,He.1 (by trivial)]);clear hneq d0 d1 f0 f1;go_wp2;go_roundw
    case rel => exact ⟨k+1,AA,AA,BG,GX.1,H9.1⟩
    case measure => exact BH
   ·have hneq:∀ W,(binOp .neq 42 (.agg #[.int .i64 p.x,.int .i64 p.y]) (.agg #[.int .i64 r.x,.int .i64 r.y])).run prog W=.ok (.bool true) W:=fun W=>by rw [lX];simp [hpr]
    have H9:=AB (show BP p r=q by rw [<- HQ.1,Hn.1 hpr]);have jR:=AB (WZ.1 p r);clear hpr;go_upto_region 4 with fail;refine D9 (wo) (.run 9 0 0 (.done)) fun CQ QR Ae Aj hS=>?_
    iterate 9 refine Ak ?_
    refine D5 ?_;clear hS Aj Ae;intro hB;go_upto_region 5 with fail;obtain ⟨W9,YW⟩:=BR wo.drew;have GX:=AB (show AU w W9 by rw [YW];exact bD HB.1);have y0:W9.cell? ⟨b,o+k*2,none⟩=some (.int .i64 p.x):=by rw [YW];exact d0
    have y1:W9.cell? ⟨b,o+k*2+1,none⟩=some (.int .i64 p.y):=by rw [YW];exact d1
    have y2:W9.cell? ⟨b2,o2+k*2,none⟩=some (.int .i64 r.x):=by rw [YW];exact f0
    have y3:W9.cell? ⟨b2,o2+k*2+1,none⟩=some (.int .i64 r.y):=by rw [YW];exact f1
    have y4:b<W9.heap.size:=by rw [YW];exact hlb
    have y5:b2<W9.heap.size:=by rw [YW];exact UD
    rw [<- YW];clear YW d0 d1 f0 f1 hlb UD hneq hB;refine D9 (W9) (.run 8 0 0 (.call 8 511 (.take 9 1023 (.done)))) fun CQ QR Ae Aj hS=>?_
    iterate 8 refine Ak ?_
    refine BN ?_;clear hS;intro K hK AP;go_simp;refine (jR.1 _).mono ?_;rintro e BZ ⟨rfl,BU⟩;have hS:Since W9 BZ:=bT (w:=W9) AP.out BU;clear AP;refine hK.out _ _ hS (fun _=>?_);clear hK K
    try simp only [pu]
    refine Ak ?_;refine D5 ?_;clear hS Aj Ae;intro hB;go_wp2;go_ret;exact ⟨CP H9.1,bT GX.1 hB⟩
  ·have H9:=AB (awt hk hk2 hlt);go_wp2_with fail
   all_goals
    go_ret;refine ⟨CP ?_,HB.1⟩;rw [<- HQ.1,H9.1]
    first | done | (rw [Jh];simp only [Dq];omega) | (simp;omega)
theorem amZ (v u:Value) (xs ys:List (SV×List Pt)) (w:World) (hx:FY w v xs) (hy:FY w u ys) (hnx:xs.length<=1000000) (hny:ys.length<=1000000) (hlx:∀ k (hk:k<xs.length),xs[k].2.length<=1000000000) (aj:∀ k (hk:k<ys.length),ys[k].2.length<=1000000000) :
  Calls prog 14 #[v,u] w fun e w'=>e=.returned (.bool (decide (xs.map (·.2)=ys.map (·.2))))/\AU w w':=by
 have Zz:=AB (fun k (h1:k<xs.length) (h2:k<ys.length) W (hW:AU w W)=>agt xs[k] ys[k] W ((hx.2 k h1).mono hW) ((hy.2 k h2).mono hW) (hlx k h1) (aj k h2));have HL2:=AB (fun k (h1:k<xs.length) (h2:k<ys.length) W (hW:AU w W)=>agt ys[k] xs[k] W ((hy.2 k h2).mono hW) ((hx.2 k h1).mono hW) (aj k h2) (hlx k h1));obtain ⟨⟨A1,c1,rfl,hc1,hc1',hR1⟩,-⟩:=hx;obtain ⟨⟨A2,c2,rfl,hc2,hc2',hR2⟩,-⟩:=hy;obtain ⟨q,hq⟩:=BI (decide (xs.map (·.2)=ys.map (·.2)));rw [hq];obtain ⟨Hq,HR1,HR2⟩:=CG hq hR1 hR2;unfold maxLen at hc1' hc2';clear hq hR1 hR2 hlx aj;by_cases hne:xs.length=ys.length
 case neg =>
  have H9:=AB (show q=false by
   rw [<- Hq.1,Fg];intro e;have:=congrArg List.length e
   simp only [CV] at this;exact hne this)
  have hni:¬ (xs.length:Int)=ys.length:=AA
  have hnb:((xs.length:Int) != ys.length)=true:=by simp;omega
  clear hne;go_enter func14,ntmps14;go_wp2;go_ret;exact ⟨CP H9.1.symm,bR w⟩
 case pos =>
  have Hne:=AB hne;have hnb:((xs.length:Int) != ys.length)=false:=by simp [hne]
  clear hne;go_enter func14,ntmps14;go_upto_block 0 with fail;go_wp2_with fail;go_loopw [5] (fun z wr=>∃ k:Nat,k<=xs.length/\z=.int .i64 k/\AU w wr/\∀ j (h1:j<xs.length) (h2:j<ys.length),j<k->xs[j].2=ys[j].2) (fun z _=>xs.length-(intOf z).toNat)
  case atStart => exact ⟨0,BX _,rfl,bR w,fun _ _ _ h=>AA⟩
  case round =>
   obtain ⟨k,hk,rfl,hb,hno⟩:=hrel;obtain ⟨wo,rfl⟩:=BR wr;have HB:=AB hb;have MJ:=AB hno;clear hb hno;by_cases hlt:k<xs.length
   ·have hlt2:k<ys.length:=by rw [<- Hne.1];exact hlt
    obtain ⟨b,o,rfl,hlb,c0⟩:=(HR1.1.mono HB.1).ln hlt;obtain ⟨b2,o2,rfl,UD,d0⟩:=(HR2.1.mono HB.1).ln hlt2;have z1:(k:Int)<xs.length:=AA
    have z2:(k:Int)<ys.length:=AA
    have z3:(0:Int)<=k:=AA
    have oL:=AB (Zz.1 k hlt hlt2);have yD:=AB (HL2.1 k hlt hlt2);unfold BF at c0 d0 oL yD;have hoff:∀ (h:xs[k].2≠ys[k].2),q=false:=fun h=>by
     rw [<- Hq.1,Fg];intro e;have h1:(xs.map (·.2))[k]? = (ys.map (·.2))[k]? := by rw [e]
     rw [List.getElem?_map,List.getElem?_map,Di hlt,Di hlt2] at h1;exact h (DV h1)
    have yE:=AB hoff;have Vr:=AB (fun (h9:xs[k].2=ys[k].2)=>show ∀ j (h1:j<xs.length) (h2:j<ys.length),j<k+1->xs[j].2=ys[j].2 from fun j h1 h2 hjk=>if e:j<k then MJ.1 j h1 h2 e else by
     have:j=k:=AA
     subst this;exact h9)
    have HTr:=AB (@abX xs[k].2 ys[k].2);clear hoff MJ;generalize xs[k]=x at *;generalize ys[k]=y at *;obtain ⟨⟨xa,xn,xc⟩,lx⟩:=x;obtain ⟨⟨ya,yn,yc⟩,ly⟩:=y;simp only at *
    cases hl:EU lx ly
    ·rw [hl] at oL
     cases hl2:EU ly lx
     ·rw [hl2] at yD;have H9:=AB (HTr.1 hl hl2);clear hl hl2 yE;go_upto_region 6 with fail;refine D9 (wo) (.run 8 0 0 (.call 8 511 (.run 9 9 511 (.call 18 524287 (.take 19 1048575 (.done)))))) fun CQ QR Ae Aj hS=>?_
      iterate 8 refine Ak ?_
      refine BN ?_;clear hS;intro K hK AP;go_simp;refine (oL.1 _ (bT HB.1 AP.out)).mono ?_;rintro e BZ ⟨rfl,BU⟩;have hS:Since wo BZ:=bT (w:=wo) AP.out BU;clear AP;refine hK.out _ _ hS (fun _=>?_);clear hK K
      try simp only [pu]
      refine Ak ?_
      iterate 8 refine E5 ?_
      refine BN ?_;clear hS;intro K hK AP;go_simp;refine (yD.1 _ (bT HB.1 AP.out)).mono ?_;rintro e wr2 ⟨rfl,Du⟩;have hS:Since wo wr2:=bT (w:=wo) AP.out Du;clear AP;refine hK.out _ _ hS (fun _=>?_);clear hK K
      try simp only [pu]
      refine Ak ?_;refine D5 ?_;clear hS Aj Ae;intro hB;have GX:=AB (bT HB.1 hB);go_wp2;go_roundw
      case rel => exact ⟨k+1,AA,BG,GX.1,Vr.1 H9.1⟩
      case measure => exact BH
     ·rw [hl2] at yD;have H9:=AB (yE.1 (fun e=>by rw [e] at hl2;rw [zA] at hl2;cases hl2));clear hl hl2 yE;go_upto_region 6 with fail;refine D9 (wo) (.run 8 0 0 (.call 8 511 (.run 9 9 511 (.call 18 524287 (.take 19 1048575 (.done)))))) fun CQ QR Ae Aj hS=>?_
      iterate 8 refine Ak ?_
      refine BN ?_;clear hS;intro K hK AP;go_simp;refine (oL.1 _ (bT HB.1 AP.out)).mono ?_;rintro e BZ ⟨rfl,BU⟩;have hS:Since wo BZ:=bT (w:=wo) AP.out BU;clear AP;refine hK.out _ _ hS (fun _=>?_);clear hK K
      try simp only [pu]
      refine Ak ?_
      iterate 8 refine E5 ?_
      refine BN ?_;clear hS;intro K hK AP;go_simp;refine (yD.1 _ (bT HB.1 AP.out)).mono ?_;rintro e wr2 ⟨rfl,Du⟩;have hS:Since wo wr2:=bT (w:=wo) AP.out Du;clear AP;refine hK.out _ _ hS (fun _=>?_);clear hK K
      try simp only [pu]
      refine Ak ?_;refine D5 ?_;clear hS Aj Ae;intro hB;have GX:=AB (bT HB.1 hB);go_wp2;go_ret;exact ⟨CP H9.1.symm,GX.1⟩
    ·rw [hl] at oL;have H9:=AB (yE.1 (fun e=>by rw [e] at hl;rw [zA] at hl;cases hl));clear hl yE;go_upto_region 6 with fail;refine D9 (wo) (.run 8 0 0 (.call 8 511 (.run 11 9 511 (.done)))) fun CQ QR Ae Aj hS=>?_
     iterate 8 refine Ak ?_
     refine BN ?_;clear hS;intro K hK AP;go_simp;refine (oL.1 _ (bT HB.1 AP.out)).mono ?_;rintro e BZ ⟨rfl,BU⟩;have hS:Since wo BZ:=bT (w:=wo) AP.out BU;clear AP;refine hK.out _ _ hS (fun _=>?_);clear hK K
     try simp only [pu]
     refine Ak ?_
     iterate 9 refine JW ?_
     refine Ak ?_;refine D5 ?_;clear hS Aj Ae;intro hB;have GX:=AB (bT HB.1 hB);go_wp2;go_ret;exact ⟨CP H9.1.symm,GX.1⟩
   ·have H9:=AB (show q=true by
     rw [<- Hq.1,JB];refine dV (by simpa using Hne.1) fun j h1 h2=>?_;rw [Iu,Iu];exact MJ.1 j _ _ (by simp only [CV] at h1;omega))
    go_wp2;go_ret;exact ⟨CP H9.1.symm,HB.1⟩
open Go.ChangeShapes Go.WideShapes Go.RowKit
theorem awu:ownKnob prog.godebug=none:=by kernel_rfl
theorem agu:laidOutB prog=true:=by kernel_rfl
section
variable {H:Type} {enc:TypeId×Value->H} {P:Program}
theorem awv {t:TypeId} (hl:laidOutB P=true) (hr:P.readableRec t=true) (hrow:t<P.types.size) {W W':World} {v:Value} {d:DataW H} {ps:List MemPlace} {sp:Nat->Bool}
  (h:DataW.Trod enc P W 0 (fun _=>true) true t v d ps) (hb:AU W W') (hlt:∀ x∈ps,x.block<W.heap.size) (hs:∀ x∈ps,sp x.block=true):DataW.Trod enc P W' 0 sp true t v d ps :=
 WideElems.Trod_stays hl hr hrow h (fun x hx=>hb.same (hlt x hx)) hs
theorem aww {f:Func} {s:ChangeSpec} {W W':World} {args:Array Value} {v:Value} {ds gs:List (DataW H)} {before:List MemPlace}
  (hW:DataW.Whole enc P f.params.toList s.vars false W args.toList ds gs before) (hv:s.vars=[]) (hb:AU W W')
  (hres:∀ (b:Nat) (sp:Nat->Bool) (hd:Bool),DataW.TrodAll enc P W' b sp hd f.resultTypes.toList (v.resultList f.resultTypes.size) (s.fn H (ds++gs)).results [])
  (hargs:∀ sp:Nat->Bool,(∀ p∈before,sp p.block=true)->DataW.TrodAll enc P W' 0 sp true f.params.toList args.toList (s.fn H (ds++gs)).args before)
  (hvars:(s.fn H (ds++gs)).vars=[])
  (hok:∀ (j:Nat) (t:TypeId) (r:Value),f.resultTypes[j]? = some t->(v.resultList f.resultTypes.size)[j]? = some r->Value.okWide P W' .any 0 t r) :
  s.post enc P f false true false false W args v W':=by
 have hlow:∀ p∈before,p.block<W.heap.size:=fun p hp=>hW.lt p hp;have hno:∀ sp:Nat->Bool,DataW.TrodVars enc P W' sp s.vars (s.fn H (ds++gs)).vars []:=fun sp=>by rw [hv,hvars];rfl
 have awx:∀ p∈before,(fun b=>decide (b<W.heap.size)) p.block=true:=fun p hp=>JB (hlow p hp);refine ⟨ds,gs,before,[],before,[],hW,hres _ _ _,hargs _ awx,hno _,?_,fun hc=>by cases hc⟩;exact World.keptBut_mono (fun p hp=>⟨hp,Or.inr (Or.inl hp)⟩) (hb.frame (·∈before))
end
theorem TG:Maps.Keyed prog 42:=Maps.Keyed.of_law (deep_law_laid agu (m:=2) AA (of_decide_eq_true Gl) Gl Gl)
theorem ama:∃ n,prog.types.size=n+1:=⟨prog.types.size-1,Gl⟩
theorem oM (p:Pt) (h:L6 p):∃ l,keyOf prog 42 (BA p)=some l:=by
 obtain ⟨n,hn⟩:=ama;have h1:prog.keyType 42=true:=by kernel_rfl
 have h2:(BA p).formed prog 42=true:=by
  unfold BA Value.formed;rw [Tryz.underlying42];simp only [oZ];rfl
 have h3:∃ ls,prog.keyLits (n+1+1) 42 (BA p).cells.toList=some ls:=by
  have hx:=h.1;have hy:=h.2;unfold F6 at hx hy;simp [Program.keyLits,Tryz.underlying42,Tryz.underlying3,oZ,afh,BA,Value.cells,hx,hy]
 obtain ⟨ls,h3⟩:=h3;refine ⟨.string (keyBytes ls),?_⟩;unfold keyOf;rw [Tryz.underlying42,hn];simp only;rw [h1,h2,h3];rfl
structure yF (f:Pt->Int) (D:DataW Unit):Prop where
 at_:∀ p l,keyOf prog 42 (BA p)=some l->D.atKey l (PU 0)=PU (f p)
 has:∀ p l,keyOf prog 42 (BA p)=some l->Maps.has D l=decide (f p≠0)
theorem amb {p q:Pt} (h:BA p=BA q):p=q:=by
 unfold BA at h;simp only [Value.agg.injEq] at h;have h0:=congrArg (fun a:Array Value=>a.toList) h;simp only [List.cons.injEq,Value.int.injEq,and_true,true_and] at h0;exact Pt.ext_iff'.2 ⟨h0.1,h0.2⟩
theorem yG {p q:Pt} {l m:Lit} (hp:keyOf prog 42 (BA p)=some l) (hq:keyOf prog 42 (BA q)=some m) (h:p≠q):l≠m:=fun e=>by
 subst e;exact h (amb (TG.inj hp hq))
theorem amc {key:Value} {l:Lit} (h:keyOf prog 42 key=some l):∃ p,key=BA p/\L6 p:=by
 obtain ⟨n,hn⟩:=ama;unfold keyOf at h;rw [Tryz.underlying42,hn] at h;simp only at h;split at h
 ·rename_i h1;rw [ER] at h1;have hf:=h1.2;obtain ⟨ls,hls,-⟩:=Option.map_eq_some_iff.1 h;have hcs:∃ a b,key=.agg #[a,b]:=by
   cases key with
   | agg cs =>
    unfold Value.formed at hf;rw [Tryz.underlying42] at hf;simp only [oZ] at hf;obtain ⟨cs⟩:=cs;have h2:cs.length=2:=by simpa using hf
    obtain ⟨a,b,rfl⟩:=alS h2;exact ⟨a,b,rfl⟩
   | _=>unfold Value.formed at hf;rw [Tryz.underlying42] at hf;cases hf
  obtain ⟨a,b,rfl⟩:=hcs;rw [Program.keyLits.eq_def] at hls;simp only [Tryz.underlying42,oZ,Value.cells] at hls;split at hls
  ·obtain ⟨ls2,acF,-⟩:=Option.map_eq_some_iff.1 hls;simp only [List.mapM_cons,List.mapM_nil,List.drop,List.take,afh] at acF;obtain ⟨la,ha,acF⟩:=ah6.1 acF;obtain ⟨lb,hb,-⟩:=ah6.1 acF;obtain ⟨x,hx,-⟩:=keyLits_int' Tryz.underlying3 ha;obtain ⟨lb2,hb2,-⟩:=ah6.1 hb;obtain ⟨y,hy,-⟩:=keyLits_int' Tryz.underlying3 hb2;simp only [List.cons.injEq,and_true] at hx hy;subst hx hy;rw [Program.keyLits.eq_def] at ha hb2;simp only [Tryz.underlying3,true_and] at ha hb2;refine ⟨⟨x,y⟩,rfl,?_,?_⟩
   ·unfold F6;split at ha
    · assumption
    · cases ha
   ·unfold F6;split at hb2
    · assumption
    · cases hb2
  · cases hls
 · cases h
def IU (w:World) (b n:Nat) (f:Pt->Int):Prop :=
 ∃ D:DataW Unit,w.ownsMap prog 42 XD b n D/\Maps.IsMap D/\yF f D
theorem IU.kept {w w':World} {b n:Nat} {f:Pt->Int} (h:IU w b n f) {row:Option Nat} (hg:w.grownBy w' row) (hr:some b≠row):IU w' b n f:=by
 obtain ⟨D,h1,h2⟩:=h;exact ⟨D,h1.kept hg hr,h2⟩
theorem IU.keep {w w':World} {b n:Nat} {f:Pt->Int} (h:IU w b n f) (hb:AU w w'):IU w' b n f :=
 h.kept (row:=none) ⟨hb.os,hb.tape,hb.output,hb.size,fun i hi _=>hb.block i hi⟩ Ah
theorem IU.made (w:World):IU (w.alloc (.map #[] 0)) w.heap.size 0 (fun _=>0) :=
 ⟨.map [],World.ownsMap_made _ _ _ _,⟨_,rfl⟩,fun _ _ _=>rfl,fun _ _ _=>rfl⟩
theorem IU.look {w:World} {b n:Nat} {f:Pt->Int} (h:IU w b n f) (p:Pt) (hp:L6 p) :
  (Instr.lookup 52 (.map (some b)) (.agg #[.int .i64 p.x,.int .i64 p.y]) false).run prog w=.ok (.int .i64 (f p)) w:=by
 obtain ⟨D,h1,-,h2⟩:=h;obtain ⟨l,hl⟩:=oM p hp;obtain ⟨v,ps,hr,hv⟩:=h1.lookup TG Tryz.underlying52 (lM w) (zd:=PU 0) (zp:=[]) rfl hl;rw [h2.at_ p l hl] at hv;have hr':(Instr.lookup 52 (.map (some b)) (.agg #[.int .i64 p.x,.int .i64 p.y]) false).run prog w=.ok v w:=hr;rw [hr',zn hv]
theorem IU.look_ok {w:World} {b n:Nat} {f:Pt->Int} (h:IU w b n f) (p:Pt) (hp:L6 p) :
  (Instr.lookup 52 (.map (some b)) (.agg #[.int .i64 p.x,.int .i64 p.y]) true).run prog w=.ok (.tuple #[.int .i64 (f p),.bool (decide (f p≠0))]) w:=by
 obtain ⟨D,h1,-,h2⟩:=h;obtain ⟨l,hl⟩:=oM p hp;obtain ⟨v,ps,hr,hv⟩:=h1.look_ok TG Tryz.underlying52 (lM w) (zd:=PU 0) (zp:=[]) rfl hl;rw [h2.at_ p l hl] at hv;have hr':(Instr.lookup 52 (.map (some b)) (.agg #[.int .i64 p.x,.int .i64 p.y]) true).run prog w=.ok (.tuple #[v,.bool (Maps.has D l)]) w:=hr;rw [hr',zn hv,h2.has p l hl]
theorem yF.put {f:Pt->Int} {D:DataW Unit} (h:yF f D) (hm:Maps.IsMap D) {p:Pt} {l:Lit} (hl:keyOf prog 42 (BA p)=some l) (x:Int) (hx:x≠0):yF (fun i=>if i=p then x else f i) (D.put l (PU x)) where
 at_ i l' hl':=by
  by_cases e:i=p
  ·subst e;rw [hl] at hl';injection hl' with hl';subst hl';simp only [if_true];exact Maps.atKey_put_same hm (TG.key hl) _ _
  ·simp only [AX e];rw [Maps.atKey_put_other (yG hl' hl e),h.at_ i l' hl']
 has i l' hl':=by
  by_cases e:i=p
  ·subst e;rw [hl] at hl';injection hl' with hl';subst hl';simp only [if_true];rw [Maps.has_put_same hm (TG.key hl),JB hx]
  ·simp only [AX e];rw [Maps.has_put_other (yG hl' hl e),h.has i l' hl']
theorem IU.upd {w:World} {b n:Nat} {f:Pt->Int} (h:IU w b n f) (hn:n<4294967296) (p:Pt) (hp:L6 p) (x:Int) (hx:x≠0) :
  ∃ w',(Instr.mapUpdate 52 (.map (some b)) (.agg #[.int .i64 p.x,.int .i64 p.y]) (.int .i64 x)).run prog w=.ok () w'/\IU w' b (n+1) (fun i=>if i=p then x else f i)/\w.grownBy w' (some b):=by
 obtain ⟨D,h1,hm,h2⟩:=h;obtain ⟨l,hl⟩:=oM p hp;obtain ⟨w',hr,ho,hg⟩:=h1.update TG Tryz.underlying52 jy hl (val:=.int .i64 x) (d:=PU x) (ps:=[]) rfl;exact ⟨w',hr,⟨_,ho,hm.put _ _,h2.put hm hl x hx⟩,hg⟩
section
open Go.WideElems Go.ChangeShapes Go.WideShapes Go.MapKept Go.ChangeMaps
open Go.WideMaps (KeyLaw)
theorem awy {H:Type} {P:Program} {w:World} {t k e:TypeId} {R:Value->Option (DataW H×List MemPlace)} {b:Nat} {es:Array MapEntry} {clock:Nat} (K:KeyLaw P k) (ht:P.underlying t=some (.map k e)) {z:Value} (hz:∀ u:World,(zeroValue e).run P u=.ok z u) (hb:w.heap[b]? = some (.map es clock)) (F:Fit P k R es clock)
  {key:Value} {kl:Lit} (hkey:keyOf P k key=some kl) :
  ∃ v0 st w1,(Instr.mapEntry t (.map (some b)) key).run P w=.ok (.tuple #[v0,goInt st]) w1/\(Instr.mapUpdate t (.map (some b)) key v0).run P w=.ok () w1/\(Instr.lookup t (.map (some b)) key false).run P w=.ok v0 w:=by
 rcases K.find w hkey es.toList F.keys with ⟨h1,h2⟩ | ⟨j,e0,h1,h2,h3⟩
 ·refine ⟨z,clock,setBlock w b (.map (es.push ⟨key,z,clock⟩) (clock+1)),?_,?_,?_⟩
  · simp [Instr.mapEntry,run_underlying ht,MapKept.run_getObj_map hb,K.check w false hkey,h1,hz,MapKept.run_setObj_map _ hb,Result.andThen,setBlock]
  · simp [Instr.mapUpdate,run_underlying ht,MapKept.run_getObj_map hb,K.check w false hkey,h1,MapKept.run_setObj_map _ hb,Result.andThen,setBlock]
  · simp [Instr.lookup,run_underlying ht,MapKept.run_getObj_map hb,K.check w _ hkey,h1,hz,Result.andThen]
 ·have hj:es[j]? = some e0:=by simpa using h2
  have hsame:es.modify j (fun e=>{e with key:=key})=es:=by
   apply Array.ext';rw [Array.toList_modify,modify_eq_set _ _ _ _ h2];have:({e0 with key:=key}:MapEntry)=e0:=by rw [<- h3]
   rw [this];exact set_self _ _ _ h2
  have awz:es.modify j (fun e=>{e with key:=key,val:=e0.val})=es:=by
   apply Array.ext';rw [Array.toList_modify,modify_eq_set _ _ _ _ h2];have:({e0 with key:=key,val:=e0.val}:MapEntry)=e0:=by rw [<- h3]
   rw [this];exact set_self _ _ _ h2
  refine ⟨e0.val,e0.born,setBlock w b (.map es clock),?_,?_,?_⟩
  · simp [Instr.mapEntry,run_underlying ht,MapKept.run_getObj_map hb,K.check w false hkey,h1,hj,h3,K.stays w hkey,hsame,MapKept.run_setObj_map _ hb,Result.andThen,setBlock]
  · simp [Instr.mapUpdate,run_underlying ht,MapKept.run_getObj_map hb,K.check w false hkey,h1,hj,h3,K.stays w hkey,awz,MapKept.run_setObj_map _ hb,Result.andThen,setBlock]
  · simp [Instr.lookup,run_underlying ht,MapKept.run_getObj_map hb,K.check w _ hkey,h1,hj,h3,Result.andThen]
theorem ax0 (w:World) (b:Nat) (x y:Obj):setBlock (setBlock w b x) b y=setBlock w b y:=by
 unfold setBlock;simp
theorem amd:KeyLaw prog 42:=deep_law_laid agu (m:=2) AA (of_decide_eq_true Gl) Gl Gl
end
theorem IU.bump {w:World} {b n:Nat} {f:Pt->Int} (h:IU w b n f) (hn:n+1<4294967296) (p:Pt) (hp:L6 p) (x:Int) (hx:x≠0) :
  ∃ (st:Int) (w1 w2:World),(Instr.mapEntry 52 (.map (some b)) (.agg #[.int .i64 p.x,.int .i64 p.y])).run prog w=.ok (.tuple #[.int .i64 (f p),.int .i64 st]) w1/\w.grownBy w1 (some b) /\
   (Instr.lookup 52 (.map (some b)) (.agg #[.int .i64 p.x,.int .i64 p.y]) false).run prog w1=.ok (.int .i64 (f p)) w1 /\
   (Instr.entryStore 52 (.map (some b)) (.int .i64 st) (.int .i64 x)).run prog w1=.ok () w2/\IU w2 b (n+1) (fun i=>if i=p then x else f i)/\w.grownBy w2 (some b):=by
 obtain ⟨w2,hr2,hm2,hg2⟩:=h.upd AA p hp x hx;have hlk:=h.look p hp;obtain ⟨D,h1,hm,h2⟩:=h;obtain ⟨l,hl⟩:=oM p hp;have h1':=h1;obtain ⟨es,clock,hb,F,hsz,hD⟩:=h1';obtain ⟨v0,st,w1,r1,r2,r3⟩:=awy amd Tryz.underlying52 lM hb F hl;obtain ⟨v0',st',es1,c1,r1',-,hst⟩:=Go.WideElems.entry_then_store amd Tryz.underlying52 lM hb F hl;rw [r1] at r1';have hv:v0=.int .i64 (f p):=by
  have e:(Instr.lookup 52 (.map (some b)) (.agg #[.int .i64 p.x,.int .i64 p.y]) false).run prog w=.ok v0 w:=r3;rw [hlk] at e;injection e with e;exact e.symm
 subst hv;injection r1' with e1 e2;have e3:st'=st:=by
  injection e1 with e1;have:=congrArg (fun a:Array Value=>a.toList) e1
  simp only [List.cons.injEq,and_true] at this;have h9:=this.2;unfold goInt at h9;injection h9 with _ h9;omega
 subst e3;obtain ⟨es',clock',hs1,hs2⟩:=hst w1 (.int .i64 x) (by rw [e2];exact Go.ChangeMaps.heap_setBlock_same hb _);have hw2:Go.ChangeMaps.setBlock w1 b (.map es' clock')=w2:=by
  have e:(Instr.mapUpdate 52 (.map (some b)) (.agg #[.int .i64 p.x,.int .i64 p.y]) (.int .i64 x)).run prog w=.ok () (Go.ChangeMaps.setBlock w b (.map es' clock')):=hs2;rw [hr2] at e;injection e with _ e;rw [e,e2,ax0]
 rw [hw2] at hs1;obtain ⟨w1',hr1,ho1,hg1⟩:=h1.update TG Tryz.underlying52 jy hl (val:=.int .i64 (f p)) (d:=PU (f p)) (ps:=[]) rfl;rw [r2] at hr1;injection hr1 with _ hr1;subst hr1;refine ⟨st',w1,w2,r1,hg1,?_,hs1,hm2,hg2⟩;obtain ⟨v,ps,hr,hv⟩:=ho1.lookup TG Tryz.underlying52 (lM w1) (zd:=PU 0) (zp:=[]) rfl hl;rw [Maps.atKey_put_same hm (TG.key hl)] at hv;have hr':(Instr.lookup 52 (.map (some b)) (.agg #[.int .i64 p.x,.int .i64 p.y]) false).run prog w1=.ok v w1:=hr;rw [hr',zn hv]
def Pj (w:World) (b r n:Nat) (g:Pt->Int) (S:Pt->Bool) (cnt:Nat):Prop :=
 ∃ (D:DataW Unit) (left:Lit->Bool),w.ranges prog 42 XD b r n D left cnt/\Maps.IsMap D/\yF g D/\∀ p l,keyOf prog 42 (BA p)=some l->left l=S p
theorem Pj.owns {w:World} {b r n:Nat} {g:Pt->Int} {S:Pt->Bool} {cnt:Nat} (h:Pj w b r n g S cnt):IU w b n g:=by
 obtain ⟨D,left,h1,h2,h3,-⟩:=h;exact ⟨D,h1.owns,h2,h3⟩
theorem Pj.kept {w w':World} {b r n:Nat} {g:Pt->Int} {S:Pt->Bool} {cnt:Nat} (h:Pj w b r n g S cnt) {row:Option Nat} (hg:w.grownBy w' row) (hb:some b≠row) (hr:some r≠row):Pj w' b r n g S cnt:=by
 obtain ⟨D,left,h1,h2⟩:=h;exact ⟨D,left,h1.kept hg hb hr,h2⟩
theorem Pj.left_eq {w:World} {b r n:Nat} {g:Pt->Int} {S:Pt->Bool} {cnt:Nat} (h:Pj w b r n g S cnt):w.rangeLeft b r=cnt:=by
 obtain ⟨D,left,h1,h2⟩:=h;exact h1.left_eq
theorem IU.own_ne {w:World} {b n:Nat} {g:Pt->Int} (h:IU w b n g) {base:Nat} {e:TypeId} {size:Nat} {α:Type} {f:α->List Value} {v:Value} {l:List α} (ho:Own w base e size f v l):v.ownBlock≠some b:=by
 obtain ⟨D,h1,-⟩:=h;obtain ⟨es,clock,hb,-⟩:=h1;rcases ho.2 with ⟨rfl,_⟩ | ⟨g,cap,cur,rfl,_,hh,_⟩
 · simp [Value.ownBlock]
 ·intro e';have e2:g=b:=by simpa [Value.ownBlock] using e'
  rw [e2,hb] at hh;cases hh
theorem IU.ax1 {w:World} {b n:Nat} {f:Pt->Int} (h:IU w b n f) {g:Nat} {t:TypeId} {cs:Array Value} (hg:AO w g t cs):g≠b:=by
 rintro rfl;obtain ⟨D,h1,-⟩:=h;obtain ⟨es,clock,hb,-⟩:=h1;unfold AO at hg;rw [hg] at hb
 cases hb
theorem Pj.own_ne {w:World} {b r n:Nat} {g:Pt->Int} {S:Pt->Bool} {cnt:Nat} (h:Pj w b r n g S cnt) {base:Nat} {e:TypeId} {size:Nat} {α:Type} {f:α->List Value} {v:Value} {l:List α} (ho:Own w base e size f v l):v.ownBlock≠some b/\v.ownBlock≠some r:=by
 obtain ⟨D,left,h1,-⟩:=h;obtain ⟨es,clock,since,seen,c0,hb,-,-,-,hr,-⟩:=h1;rcases ho.2 with ⟨rfl,_⟩ | ⟨g,cap,cur,rfl,_,hh,_⟩
 · simp [Value.ownBlock]
 ·constructor
  ·intro e';have e2:g=b:=by simpa [Value.ownBlock] using e'
   rw [e2,hb] at hh;cases hh
  ·intro e';have e2:g=r:=by simpa [Value.ownBlock] using e'
   rw [e2,hr] at hh;cases hh
theorem ame {p:Pt} {l:Lit} (h:keyOf prog 42 (BA p)=some l) {q:Pt} {m:Lit} (h':keyOf prog 42 (BA q)=some m):m.sameKey l=decide (q=p):=by
 by_cases e:q=p
 ·subst e;rw [h] at h';injection h' with h';subst h';rw [WideAt.sameKey_self (TG.key h)];simp
 · rw [Maps.sameKey_ne (yG h' h e)];simp [e]
section
variable (w:World) {ops:Array Oper} {rest:List Oper} {o:Oper} {a:Act} {Q:Exit->Act->World->Prop}
theorem amf (hg:o.guard=none) (m:Operand) (hop:o.op=Op.range 52 m) (b n:Nat) (f:Pt->Int) (hm:a.eval m=.map (some b)) (h:IU w b n f)
  (hK:∀ w' cnt,Pj w' b w.heap.size n f (fun p=>decide (f p≠0)) cnt->w.grownBy w' none->w'.heap.size=w.heap.size+1->wpList prog ops Q rest (a.put o.dst (.pointer (some ⟨w.heap.size,0,none⟩))) w') :
  wpList prog ops Q (o::rest) a w:=by
 obtain ⟨D,h1,h2,h3⟩:=h;exact wpList_range_own w hg m _ hop _ _ TG Tryz.underlying52 XD b n D hm h1 fun w' hr hg' hs=>hK w' _ ⟨D,_,hr,h2,h3,fun p l hl=>h3.has p l hl⟩ hg' hs
theorem amg (hg:o.guard=none) (it:Operand) (hop:o.op=Op.next it false) (b r n:Nat) (g:Pt->Int) (S:Pt->Bool) (cnt:Nat) (hit:a.eval it=.pointer (some ⟨r,0,none⟩)) (h:Pj w b r n g S cnt)
  (hDone:(∀ p,L6 p->S p=false)->wpList prog ops Q rest (a.put o.dst (.tuple #[.bool false])) w)
  (hMore:∀ (p:Pt) (w':World) (cnt':Nat),L6 p->S p=true->Pj w' b r n g (fun q=>S q && !decide (q=p)) cnt'->cnt'<cnt->w.grownBy w' (some r)->w'.heap.size=w.heap.size ->
   (Instr.entry (.pointer (some ⟨r,0,none⟩))).run prog w'=.ok (.tuple #[.agg #[.int .i64 p.x,.int .i64 p.y],.int .i64 (g p)]) w'->wpList prog ops Q rest (a.put o.dst (.tuple #[.bool true,.agg #[.int .i64 p.x,.int .i64 p.y],.int .i64 (g p)])) w') :
  wpList prog ops Q (o::rest) a w:=by
 obtain ⟨D,left,h1,h2,h3,h4⟩:=h;refine wpList_next_ranges w hg it hop _ TG XD (fun p:Pt=>.agg #[.int .i64 p.x,.int .i64 p.y]) (fun c:Int=>.int .i64 c) (fun key kl hk=>?_) (fun v y hv=>?_) b r n D left cnt hit h1 (fun _ hl=>hDone fun p hp=>?_) ?_
 ·obtain ⟨p,rfl,-⟩:=amc hk;exact ⟨p,rfl⟩
 ·unfold XD at hv;split at hv
  · exact ⟨_,rfl⟩
  · cases hv
 ·obtain ⟨l,hk⟩:=oM p hp;rw [<- h4 p l hk];exact hl l
 ·intro p c kl y w' cnt' hk hlk hy hat hr hlt hgr hsz hen;have hk':keyOf prog 42 (BA p)=some kl:=hk;have hwf:L6 p:=by
   obtain ⟨p',e,hw⟩:=amc hk';rw [amb e];exact hw
  have hc:c=g p:=by
   have e1:=h3.at_ p kl hk';rw [hat] at e1;unfold XD at hy;simp only [Gt] at hy;rw [<- hy] at e1;simpa [PU] using e1
  subst hc;exact hMore p w' cnt' hwf (by rw [<- h4 p kl hk'];exact hlk) ⟨D,_,hr,h2,h3,fun q l hl=>by rw [h4 q l hl,ame hk' hl]⟩ hlt hgr hsz hen
theorem ax2 (hg:o.guard=none) (m x:Operand) (hop:o.op=Op.call {callee:=Callee.builtin Builtin.delete,args:=#[m,x],argTypes:=#[52,42]}) (b r n:Nat) (g:Pt->Int) (S:Pt->Bool) (cnt:Nat) (hm:a.eval m=.map (some b)) (p:Pt) (hp:L6 p)
  (hx:a.eval x=.agg #[.int .i64 p.x,.int .i64 p.y]) (h:Pj w b r n g S cnt)
  (hK:∀ w' cnt',Pj w' b r n (fun q=>if q=p then 0 else g q) (fun q=>S q && !decide (q=p)) cnt'->cnt'<=cnt->w.mapTurned w' b->wpList prog ops Q rest (a.put o.dst (.tuple #[])) w') :
  wpList prog ops Q (o::rest) a w:=by
 obtain ⟨D,left,h1,h2,h3,h4⟩:=h;obtain ⟨kl,hk⟩:=oM p hp;refine wpList_delete_ranges w hg m x _ _ hop _ TG Tryz.underlying52 XD b r n D left cnt hm h1 _ kl hx hk fun w' cnt' hr hle ht=>hK w' cnt' ⟨_,_,hr,h2.del _,⟨fun q l hl=>?_,fun q l hl=>?_⟩,fun q l hl=>?_⟩ hle ht
 ·by_cases e:q=p
  ·subst e;rw [hk] at hl;injection hl with hl;subst hl;rw [AZ rfl,Maps.atKey_del_same]
  · rw [AX e,Maps.atKey_del_other (yG hl hk e),h3.at_ q l hl]
 ·by_cases e:q=p
  ·subst e;rw [hk] at hl;injection hl with hl;subst hl;rw [AZ rfl,Maps.has_del_same];simp
  · rw [AX e,Maps.has_del_other (yG hl hk e),h3.has q l hl]
 · rw [h4 q l hl,ame hk hl]
end
open Go.RowKit Go.Sort
theorem ax3:∀ w,(isAgg 42).run prog w=.ok true w:=fun _=>by kernel_rfl
theorem ax4:∀ w,(Go.sizeOf 42).run prog w=.ok 2 w:=fun _=>by kernel_rfl
def ax5 (w:World) (base:Nat) (v:Value) (sl:List Pt) (e:Ending) (w':World):Prop :=
 e=.returned (.tuple #[])/\∃ sl':List Pt,sl'.Perm sl/\sl'.Pairwise (fun a b=>ltOf (fun x y:Pt=>Ph x y) b a=false)/\Own w' base 42 2 DK v sl'/\w.grownBy w' v.ownBlock
theorem ax6 (base:Nat) (v:Value) (sl:List Pt) (w:World) (hown:Own w base 42 2 DK v sl) (hn:sl.length<=4294967296) :
  Calls prog 26 #[v,.func (.func 27) #[] #[]] w (ax5 w base v sl):=by
 rcases sl with _ | ⟨s0,rest⟩
 ·have hv:∃ p cap,v=.slice p 0 cap:=by
   rcases hown.2 with ⟨h,_⟩ | ⟨g,cap,cur,h,_⟩
   · exact ⟨_,_,h⟩
   · exact ⟨_,_,h⟩
  obtain ⟨p,cap,rfl⟩:=hv;refine Calls.mono (AnyF.slices_SortFunc_none Tryz.sortPt p cap (.func (.func 27) #[] #[]) w) ?_;rintro e w' ⟨rfl,rfl⟩;exact ⟨rfl,[],List.Perm.refl _,List.Pairwise.nil,hown,World.grownBy.refl _ _⟩
 generalize hsl:s0::rest=sl at *;have hs0:s0∈sl:=by rw [<- hsl];simp
 have hpos:0<sl.length:=by rw [<- hsl];simp
 obtain ⟨hlen,hown2⟩:=hown;rcases hown2 with ⟨_,h0⟩ | ⟨g,cap,cur,rfl,hg,hh,hnc,hcm,hcs,hx⟩
 · omega
 haveI hI:Inhabited {s:Pt // s=s}:=⟨⟨s0,rfl⟩⟩
 have hdl:∃ dl:List {s:Pt // s=s},dl.map (·.1)=sl:=⟨sl.attachWith (fun s=>s=s) (fun _ _=>rfl),Ah⟩;obtain ⟨dl,hdl⟩:=hdl;have hdn:dl.length=sl.length:=by rw [<- hdl];simp
 have hfm:dl.flatMap (fun x=>DK x.1)=sl.flatMap DK:=by rw [<- hdl,S9]
 have hcur:∀ j,j<sl.length*2->cur[j]? = (sl.flatMap DK)[j]? := fun j hj=>by
  rw [<- hx,List.getElem?_take,AZ hj];simp
 have eg:∀ args w,(callFunc 27 args).run prog w=.ok (.enter 27 args) w:=enters_of func27 Gl rfl;have hkk:∀ x:{s:Pt // s=s},(DK x.1).length=2:=fun _=>rfl;have hcmp:CmpLays prog 27 #[] (fun x:{s:Pt // s=s}=>DK x.1) 2 (fun x y=>(fun x y:Pt=>Ph x y) x.1 y.1) g 0 dl.toArray.size w:=fun m os dk hdk x y=>by
  have hg':=lN (fun x:{s:Pt // s=s}=>DK x.1) 2 w g 0 m dk os
  exact (akI x.1 y.1 _).mono fun e w' h=>⟨h.1,qw h.2⟩
 have hsz:dl.toArray.size*2=sl.length*2:=by simp [hdn]
 have hH:HoldsK (fun x:{s:Pt // s=s}=>DK x.1) 2 w g 0 dl.toArray:=fun j hj=>by
  rw [size_flatK,hsz] at hj;refine ⟨?_,AO.frozen (t:=42) (cs:=cur) hh _⟩;rw [cell_of_row w g _ cur 42 (0,0) hh,Ug,hcur j hj,lQ _ 2 hkk _ j (by rw [hsz];exact hj)];simp only [id];rw [hfm,List.getElem!_eq_getElem?_getD]
  have:j<(sl.flatMap DK).length:=by rw [hlen];exact hj
  rw [Di this];rfl
 have hcon:=AnyQ.slices_SortFunc Tryz.sortPt 2 ax3 ax4 (fun x:{s:Pt // s=s}=>DK x.1) hkk (fun x=>JD x.1) (fun x y=>(fun x y:Pt=>Ph x y) x.1 y.1) (atu fun x:{s:Pt // s=s}=>x.1) 27 #[] g 0 cap dl.toArray w eg hcmp hH (AO.lt hh) DR;have hns:dl.toArray.size=sl.length:=by simp [hdn]
 rw [hns] at hcon;refine Calls.mono hcon ?_;rintro e w' ⟨rfl,d',n,os,hp,hs,rfl⟩;obtain ⟨p1,-,p3⟩:=hp;have hd':d'.size=sl.length:=by rw [p1,hns]
 have hperm:d'.toList.Perm dl:=by
  have e1:d'.extract 0 sl.length=d':=by rw [<- hd'];simp
  have e2:dl.toArray.extract 0 sl.length=dl.toArray:=by rw [<- hns];simp
  rw [e1,e2] at p3;simpa using p3
 have hg':=lN (fun x:{s:Pt // s=s}=>DK x.1) 2 w g 0 n d' os;refine ⟨rfl,d'.toList.map (·.1),by rw [<- hdl];exact hperm.map _,?_,?_,hg'⟩
 ·rw [IX,G9];intro i j hi hj hij;have hj':j<d'.size:=by simpa using hj
  have:=hs i j (BX _) hij (by rw [<- hd'];exact hj')
  rw [getElem!_pos d' j hj',getElem!_pos d' i AA] at this;exact this
 ·have hl':(d'.toList.map (·.1)).length=sl.length:=by simp [hd']
  unfold Own;rw [hl'];have hfd:(d'.toList.map (·.1)).flatMap DK=d'.toList.flatMap (fun x=>DK x.1):=by rw [S9]
  have hln:((d'.toList.map (·.1)).flatMap DK).length=sl.length*2:=by rw [flat_length DK 2 I7,hl']
  refine ⟨hln,.inr ⟨g,cap,putCells id 0 (flatK (fun x:{s:Pt // s=s}=>DK x.1) 2 d') cur,rfl,hg,?_,hnc,hcm,qQ,?_⟩⟩
  ·have hgl:g<w.heap.size:=AO.lt hh;rw [qx,Array.getElem?_append_left (by simpa using hgl),Array.getElem?_modify,AZ rfl,hh];rfl
  ·apply kM;intro j;rw [List.getElem?_take];by_cases hj:j<sl.length*2
   ·rw [AZ hj,hfd];have hjc:j<cur.size:=by rw [hcs];have:=qX 2 hnc;omega
    have hjd:j<d'.size*2:=by rw [hd'];exact hj
    have e1:(putCells id 0 (flatK (fun x:{s:Pt // s=s}=>DK x.1) 2 d') cur).toList[j]? = some (flatK (fun x:{s:Pt // s=s}=>DK x.1) 2 d')[j]! := by
     simp [putCells,hjc,hjd]
    rw [e1,lQ _ 2 hkk _ j hjd,List.getElem!_eq_getElem?_getD]
    have:j<(d'.toList.flatMap fun x=>DK x.1).length:=by rw [<- hfd,hln];exact hj
    rw [Di this];rfl
   · rw [AX hj,ZJ (by rw [hln];omega)]
