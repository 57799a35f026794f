import Derived.Test.YtialfdomhoojiaaGreatJ19
import Derived.Test.YtialfdomhoojiaaGreatJ15
import Derived.Test.YtialfdomhoojiaaGreatJ17
import Derived.Test.YtialfdomhoojiaaGreatGB
import Derived.Test.YtialfdomhoojiaaGreatJ08
set_option linter.unusedSimpArgs false
set_option linter.unusedVariables false
namespace Go.Proofs.YtialfdomhoojiaaGreat
open Go.RowKit
def kN (x:AD):List (List Int×SV):=(x.out,x.ov)::x.inn
set_option maxRecDepth 100000 in
set_option maxHeartbeats 4000000 in
theorem ZF (x:AD) (w:World) (hr:Sl w (aH x.iv) x.inn.length (x.inn.flatMap kY)) (hl:x.inn.length<=100000) :
  Calls Tryz.prog 64 #[.agg #[.int .i64 x.tw,aH x.ov,aH x.iv,aH x.av]] w fun e w'=>(∃ A c,e=.returned (.slice A (kN x).length c)/\Own w' w.heap.size 24 1 kY (.slice A (kN x).length c) (kN x))/\Below w.heap.size w w':=by
 obtain ⟨tw,out,⟨oa,on,oc⟩,inn,⟨ia,iT,ic⟩,bn,⟨aa,an,ac⟩⟩:=x;unfold aH kN at *;simp only at hr hl ⊢;have HS:=Lib.hid hr;obtain ⟨Ai,ci,he,-⟩:=hr;injection he with e1 e2 e3;subst e2;have HO:=Lib.hid (Own.lit (w.alloc (.cells #[.int .i64 tw,.slice oa on oc,.slice ia inn.length ic,.slice aa an ac] 82)) w.heap.size 24 1 kY [((out,⟨oa,on,oc⟩):List Int×SV)] #[.slice oa on oc] 1 (w.heap.size+1) (by simp) rfl (by simp) (dW (by omega)) rfl rfl);have hle:((out,⟨oa,on,oc⟩)::inn:List (List Int×SV)).length=inn.length+1:=rfl;rw [hle];clear e1 e3 hle;go_enter Tryz.func64,Tryz.ntmps64;go_wp2_with
  (at_builtin
   refine jH _ rfl (.tmp 5) (.tmp 7) _ rfl (base:=w.heap.size) OT OO OQ rfl HO.out rfl (l2:=inn) (HS.out.mono (bA (bA (bR w) _) _)) (by simp only [List.length_cons,List.length_nil];omega) (by simp only [List.length_cons,List.length_nil];omega) (by simp only [World.size_alloc];omega) ?_;intro v2 w2 ho2 hg2 O5;obtain ⟨A2,c2,hv2,-⟩:=Own.mY ho2;rw [show ([((out,⟨oa,on,oc⟩):List Int×SV)]++inn).length=inn.length+1 by rw [List.length_append,List.length_singleton];omega] at hv2;subst hv2;have fM:=Lib.hid ho2;have HB2:=Lib.hid (bG (bA (bA (bR w) _) _) hg2 (fun g hg=>(HO.out.lt g hg).1));clear ho2 hg2 O5
   )
 go_ret;exact ⟨⟨A2,c2,rfl,fM.out⟩,HB2.out⟩
theorem afK (l:List Rn):(qW l).length<=l.length:=by
 have h:=YP (Gp l) (Gp l).length;unfold pz at h;rw [List.take_length] at h;unfold qW Gq;have e:(Gp l).length=l.length:=(Ju l).1.length_eq;omega
def sliceLen:Value->Nat
 | .slice _ n _=>n
 | _=>0
def O6 (A:Option Addr) (N:List Rn) (s:Value) (j:Nat):Prop :=
 ∃ A' c,s=.slice A' (N.length-j) c/\N.length-j<=c/\c<=9223372036854775807/\∀ g,A=some ⟨g,0,none⟩->j<N.length->A'=some ⟨g,j*2,none⟩
theorem O6.next {A:Option Addr} {N:List Rn} {gb j c:Nat} (hA:A=some ⟨gb,0,none⟩) (hj:j<N.length) (hc:N.length-j<=c) (hc2:c<=9223372036854775807) :
  O6 A N (.slice (if c=1 then some ⟨gb,j*2,none⟩ else some ⟨gb,j*2+2,none⟩) (N.length-j-1) (c-1)) (j+1):=by
 refine ⟨_,c-1,by rw [Nat.sub_sub],by omega,by omega,fun g hg hlt=>?_⟩;rw [if_neg (by omega)];rw [hA] at hg;injection hg with hg;injection hg with hg _ _;subst hg;rw [Nat.add_mul,Nat.one_mul]
theorem drop_step {N:List Rn} {j:Nat} {lo:Int} (hj:j<N.length) (h:N[j].hi<=lo):oD lo (N.drop j)=oD lo (N.drop (j+1)):=by
 rw [List.drop_eq_getElem_cons hj];unfold oD;rw [List.dropWhile_cons,if_pos (by simpa using h)]
theorem aom {N:List Rn} {j:Nat} {lo:Int} (hj:j<N.length) (h:¬ N[j].hi<=lo):oD lo (N.drop j)=N.drop j:=by
 rw [List.drop_eq_getElem_cons hj];unfold oD;rw [List.dropWhile_cons,if_neg (by simpa using h)]
theorem aon {N:List Rn} {lo:Int} {j:Nat} (h:N.length<=j):oD lo (N.drop j)=N.drop j:=by
 rw [List.drop_eq_nil_of_le h];rfl
theorem afL {N:List Rn} {j:Nat} {lo hi:Int} (hj:j<N.length) (h:N[j].lo<hi):qI hi lo (N.drop j)=jU lo N[j].lo++qI hi N[j].hi (N.drop (j+1)):=by
 rw [List.drop_eq_getElem_cons hj,qI,if_pos h]
theorem afM {N:List Rn} {j:Nat} {lo hi:Int} (hj:j<N.length) (h:¬ N[j].lo<hi):qI hi lo (N.drop j)=jU lo hi:=by
 rw [List.drop_eq_getElem_cons hj];unfold qI;rw [if_neg h]
theorem aoo {N:List Rn} {lo hi:Int} {j:Nat} (h:N.length<=j):qI hi lo (N.drop j)=jU lo hi:=by
 rw [List.drop_eq_nil_of_le h];rfl
theorem afN {wA wB:World} {B g4 g7 Ba Bb:Nat} {L M N:List Rn} {v v2 Va Vb:Value} {t:TypeId} {cs:Array Value} (hx:BG wA B g4 L v) (hk:zI wA wB g4 v.ownBlock) (hat:NewAt wA v v2) (h7:v.ownBlock≠some g7) (X7:aj wA g7 t cs) (hne:g7≠g4)
  (hm:Own wA Ba 121 2 gK Va M) (hmk:∀ q,Va.ownBlock=some q->q<B) (hn:Own wA Bb 121 2 gK Vb N) (hnk:∀ q,Vb.ownBlock=some q->q<B) :
  aj wB g7 t cs/\v2.ownBlock≠some g7/\Own wB Ba 121 2 gK Va M/\Own wB Bb 121 2 gK Vb N:=by
 have key:∀ {V:Value},(∀ q,V.ownBlock=some q->q<B)->∀ k,V.ownBlock=some k->v.ownBlock≠some k:=fun hV k e e2=>by
  have h1:=hV k e;have h2:=(hx.own.lt k e2).1;omega
 refine ⟨hk.keep X7 hne h7,fun e=>?_,hk.own hm (Own.dM hm hx.box (by decide)) (key hmk),hk.own hn (Own.dM hn hx.box (by decide)) (key hnk)⟩;rcases hat with h | ⟨k,h,h2⟩
 · exact h7 (h.symm.trans e)
 ·rw [h] at e;injection e with e;have:=X7.lt
  omega
theorem afO (lo hi:Int):(jU lo hi).length<=1:=by unfold jU;split<;>simp
theorem aop {M N:List Rn} {k j j':Nat} (hk:k<M.length) (h:oD M[k].lo (N.drop j)=N.drop j'):pY (M.drop k) (N.drop j)=qI M[k].hi M[k].lo (N.drop j')++pY (M.drop (k+1)) (N.drop j'):=by
 rw [List.drop_eq_getElem_cons hk,pY,h]
theorem aoq:∀ w,(isAgg 124).run Tryz.prog w=.ok false w:=fun _=>by kernel_rfl
set_option maxRecDepth 100000 in
set_option maxHeartbeats 8000000 in
theorem aor (va vb:Value) (a b:List Rn) (w:World) (ha:Ii w va a) (hb:Ii w vb b) (hla:a.length<=50000) (hlb:b.length<=50000):Calls Tryz.prog 204 #[va,vb] w (YN w (pY (qW a) (qW b))):=by
 have IY:=Lib.hid (fun W (hW:Below w.heap.size w W)=>aeO va a W (ha.mono hW) (by omega));have Lc:=Lib.hid (fun W (hW:Below w.heap.size w W)=>aeO vb b W (hb.mono hW) (by omega));have mZ:=Lib.hid (@amV);have hlm:=afK a;have hln:=afK b;obtain ⟨M,hM⟩:∃ M,qW a=M:=⟨_,rfl⟩;obtain ⟨N,hN⟩:∃ N,qW b=N:=⟨_,rfl⟩;rw [hM] at IY hlm ⊢;rw [hN] at Lc hln ⊢;have hml:M.length<=50000:=by omega
 have hnl:N.length<=50000:=by omega
 clear ha hb hlm hln hM hN hla hlb;go_enter Tryz.func204,Tryz.ntmps204;go_upto_region 1 with fail;obtain ⟨W1,hW⟩:∃ W1:World,W1=w.alloc (.cells #[.slice none 0 0] 124):=⟨_,rfl⟩;have X1:aj W1 w.heap.size 124 #[.slice none 0 0]:=by rw [hW];exact aj.made rfl _ _
 have HB1:=Lib.hid (show Below w.heap.size w W1 by rw [hW];exact bA (bR w) _);rw [<- hW];clear hW;have eH:=Lib.hid X1;go_wp2_with fail;refine (Lc.out _ HB1.out).mono ?_;rintro e w2 ⟨Ab,cb,rfl,hob,hb2⟩;have bY:=Lib.hid (eH.out.keep hb2);have HB2:=Lib.hid (bT HB1.out hb2);have HOb:=Lib.hid hob;clear hob hb2 eH X1 HB1 Lc;go_wp2_with fail;refine (IY.out _ HB2.out).mono ?_;rintro e w3 ⟨Aa,ca,rfl,hoa,hb3⟩;have iE:=Lib.hid (bY.out.keep hb3);have HB3:=Lib.hid (bT HB2.out hb3);have S9:=Lib.hid hoa;have ZG:=Lib.hid (HOb.out.keep hb3);obtain ⟨g4,hg4⟩:∃ g4,w.heap.size=g4:=⟨_,rfl⟩;have hx3:=iE.out.lt;clear hoa hb3 bY HB2 HOb IY;go_upto_block 0 with fail;go_wp2_with fail;have hg0:g4<w3.heap.size:=by omega
 rw [hg4] at iE;have vF:=Lib.hid (fun q hq=>(ZG.out.lt q hq).2);have DK:=Lib.hid (fun q hq=>(S9.out.lt q hq).2);go_loopw [1,16] (fun s i wr=>∃ (k j:Nat) (L:List Rn) (v:Value),k<=M.length/\i=.int .i64 k/\j<=N.length/\O6 Ab N s j/\pY M N=L++pY (M.drop k) (N.drop j)/\L.length<=50002*k/\BG wr w3.heap.size g4 L v/\Own wr w2.heap.size 121 2 gK (.slice Aa M.length ca) M/\Own wr W1.heap.size 121 2 gK (.slice Ab N.length cb) N/\Below w.heap.size w wr/\w3.heap.size<=wr.heap.size) (fun _ i _=>M.length-(intOf i).toNat)
 case atStart =>
  refine ⟨0,0,[],.slice none 0 0,Nat.zero_le _,rfl,Nat.zero_le _,?_,rfl,Nat.zero_le _,⟨iE.out,Own.nil _ _ _ _ _⟩,S9.out,ZG.out,HB3.out,Nat.le_refl _⟩;obtain ⟨A',c',he,h1,h2,-⟩:=ZG.out.sl;injection he with q1 q2 q3;subst q1 q3;unfold maxLen at h2;exact ⟨Ab,cb,rfl,by omega,by omega,fun g hg _=>by rw [hg,Nat.zero_mul]⟩
 case round =>
  obtain ⟨k,j,L,v,hk,rfl,hj,⟨A1,c1,rfl,hc1,hc2,hA1⟩,hdf,hLl,hbx,O7,hon,hb,hz⟩:=hrel;obtain ⟨wo,rfl⟩:∃ wo:World,wo=wr:=⟨_,rfl⟩;have O8:=Lib.hid hdf;have lZ:=Lib.hid hbx;have FK:=Lib.hid O7;have pG:=Lib.hid hon;have Hb:=Lib.hid hb;have HA1:=Lib.hid hA1;clear hdf hbx O7 hon hb hA1;by_cases hlt:k<M.length
  ·obtain ⟨ga,yM,-,aos,-,hce⟩:=Own.Ij FK.out (by omega);subst yM;obtain ⟨c0,d0⟩:=hce k hlt;have ZH:=Lib.hid (fun j' (h:oD M[k].lo (N.drop j)=N.drop j')=>aop hlt h);generalize M[k]=r at *;obtain ⟨yN,qC⟩:=r;simp only at c0 d0;have ZI:(k:Int)<M.length:=by omega
   have ZJ:0<=(k:Int):=by omega
   clear hce;go_upto_block 2 with fail;obtain ⟨W5,hW⟩:∃ W:World,W=wo.alloc (.cells #[.int .i64 yN,.int .i64 qC] 121):=⟨_,rfl⟩;obtain ⟨g7,je⟩:∃ g7,wo.heap.size=g7:=⟨_,rfl⟩;have X7:aj W5 g7 121 #[.int .i64 yN,.int .i64 qC]:=by rw [hW];exact aj.made je.symm _ _
   have hA:Below wo.heap.size wo W5:=by rw [hW];exact bA (bR wo) _
   have afP:=Lib.hid (lZ.out.keep hA);have afQ:=Lib.hid (FK.out.keep hA);have ZK:=Lib.hid (pG.out.keep hA);have Hb5:=Lib.hid (bT Hb.out hA);have hv7:=Lib.hid (show v.ownBlock≠some g7 from fun e=>by have:=(lZ.out.own.lt g7 e).2;omega);have kF:=Lib.hid X7;have EZ:wo.heap.size<=W5.heap.size:=hA.size;rw [<- hW]
   try rw [je]
   clear hW hA c0 d0 aos lZ FK pG Hb X7;go_wp2_with fail;go_loopw [1] (fun s wr=>∃ j':Nat,j'<=N.length/\O6 Ab N s j'/\oD yN (N.drop j)=oD yN (N.drop j')/\Below W5.heap.size W5 wr) (fun s _=>sliceLen s)
   case atStart => exact ⟨j,hj,⟨A1,c1,rfl,hc1,hc2,HA1.out⟩,rfl,bR W5⟩
   case round =>
    clear HA1 hj;obtain ⟨j',hj',⟨A2,c2,rfl,hc3,hc4,hA2⟩,hdr,hb5⟩:=hrel;obtain ⟨wm,rfl⟩:∃ wm:World,wm=wr:=⟨_,rfl⟩;have uD:=Lib.hid hdr;have HA2:=Lib.hid hA2;have oh:=Lib.hid hb5;clear hdr hA2 hb5;rcases Nat.lt_or_ge j' N.length with hjt | hjt;obtain ⟨gb,yO,-,afR,-,hce⟩:=Own.Ij (ZK.out.keep oh.out) (by omega);have hA3:=HA2.out gb yO hjt;subst hA3;obtain ⟨c0,d0⟩:=hce j' hjt;have dQ:=Lib.hid (fun h=>drop_step (lo:=yN) hjt h);have BM:=Lib.hid (fun h=>aom (lo:=yN) hjt h);have hX:=kF.out.keep oh.out;have hx7:=hX.lt;have ZL:0<N.length-j':=by omega
    generalize N[j']=n at *;obtain ⟨nlo,nhi⟩:=n;simp only at c0 d0;clear hce;obtain ⟨Ue,Uf,Ug,-,-⟩:=hX.bI;by_cases hle:nhi<=yN
    ·have HE:=Lib.hid (uD.out.trans (dQ.out hle));have lU:=Lib.hid (O6.next (A:=Ab) yO hjt hc3 hc4);clear dQ BM uD ZH;go_upto_region 6 with fail;refine bZ (Since wm) (.run 12 0 0 (.done)) (by kernel_rfl) (bD (bR _)) (by kernel_rfl) (by kernel_rfl) (Nat.le_of_ble_eq_true (by kernel_rfl)) ?_;intro cO QR ak aC hS
     iterate 4
      apply bg;exact ak;exact rfl;exact hS;exact rfl
      · intro _ hqc;go_simp;try rfl
      try simp only [pu]
     iterate 7
      apply dY;exact ak;exact rfl;exact hS;iterate 4 exact rfl
      · intro _ hqc;go_simp;try rfl
      try simp only [pu]
     apply bg;exact ak;exact rfl;exact hS;exact rfl
     · intro _ hqc;go_simp;try rfl
     try simp only [pu]
     refine bM ?_;refine aC.down _ _ ?_;have hB:Below wm.heap.size wm wm.drew:=hS;clear hS aC ak;go_wp2_with fail;go_roundw
     case rel => exact ⟨j'+1,by omega,lU.out,HE.out,bT oh.out hB⟩
     case measure => simp [sliceLen];omega
    have HE:=Lib.hid (uD.out.trans (BM.out hle));clear dQ BM uD yO;go_upto_region 6 with fail;refine bZ (Since wm) (.run 12 0 0 (.done)) (by kernel_rfl) (bD (bR _)) (by kernel_rfl) (by kernel_rfl) (Nat.le_of_ble_eq_true (by kernel_rfl)) ?_;intro cO QR ak aC hS
    iterate 4
     apply bg;exact ak;exact rfl;exact hS;exact rfl
     · intro _ hqc;go_simp;try rfl
     try simp only [pu]
    iterate 7
     apply dY;exact ak;exact rfl;exact hS;iterate 4 exact rfl
     · intro _ hqc;go_simp;try rfl
     try simp only [pu]
    apply bg;exact ak;exact rfl;exact hS;exact rfl
    · intro _ hqc;go_simp;try rfl
    try simp only [pu]
    refine bM ?_;refine aC.down _ _ ?_;have hB:Below wm.heap.size wm wm.drew:=hS;clear hS aC ak;go_wp2_with fail;obtain ⟨A2,hAg⟩:∃ A2:Option Addr,(some ⟨gb,j'*2,none⟩:Option Addr)=A2:=⟨_,rfl⟩;rw [hAg] at HA2 ⊢;clear hAg c0 d0 hX Ue Uf Ug;have Uh:j'<=N.length:=hj'
    rotate_left
    have hX:=kF.out.keep oh.out;have hx7:=hX.lt;have HE:=Lib.hid (show oD yN (N.drop j)=N.drop j' from uD.out.trans (aon hjt));have ZL:¬ 0<N.length-j':=by omega
    have kk9:¬ j'<N.length:=by omega
    clear uD
    try clear Ue
    try clear Uf
    try clear Ug
    obtain ⟨Ue,Uf,Ug,-,-⟩:=hX.bI;go_upto_region 6 with fail;refine bZ (Since wm) (.run 12 0 0 (.done)) (by kernel_rfl) (bD (bR _)) (by kernel_rfl) (by kernel_rfl) (Nat.le_of_ble_eq_true (by kernel_rfl)) ?_;intro cO QR ak aC hS
    iterate 4
     apply bg;exact ak;exact rfl;exact hS;exact rfl
     · intro _ hqc;go_simp;try rfl
     try simp only [pu]
    iterate 7
     refine qH ak rfl hS rfl rfl rfl rfl rfl ?_
     try simp only [pu]
    apply bg;exact ak;exact rfl;exact hS;exact rfl
    · intro _ hqc;go_simp;try rfl
    try simp only [pu]
    refine bM ?_;refine aC.down _ _ ?_;have hB:Below wm.heap.size wm wm.drew:=hS;clear hS aC ak;go_wp2_with fail;clear hX Ue Uf Ug;have Uh:j'<=N.length:=hj'
    all_goals
     have afS:=Lib.hid ((afP.out.keep oh.out).keep hB);have afT:=Lib.hid ((afQ.out.keep oh.out).keep hB);have afU:=Lib.hid ((ZK.out.keep oh.out).keep hB);have Hb6:=Lib.hid (bT (bT Hb5.out oh.out) hB);have ZN:=Lib.hid ((kF.out.keep oh.out).keep hB);have SY:w3.heap.size<=wm.drew.heap.size:=by
      have h1:=hB.size;have h2:=oh.out.size;omega
     have h76:=ZN.out.lt;have HCu:=Lib.hid (ZH.out j' HE.out);have afV:g7≠g4:=by omega
     clear HE ZH afP afQ ZK Hb5 kF hB oh ZL hjt hx7;generalize wm.drew=wn at *;go_loopw [8,9] (fun z i wr=>∃ (n:Nat) (lo:Int) (acc:List Rn) (v2:Value),j'+n<=N.length/\i=.int .i64 n/\z=.int .i64 lo/\qI qC yN (N.drop j')=acc++qI qC lo (N.drop (j'+n))/\acc.length<=n/\BG wr w3.heap.size g4 (L++acc) v2/\v2.ownBlock≠some g7/\aj wr g7 121 #[.int .i64 yN,.int .i64 qC]/\Own wr w2.heap.size 121 2 gK (.slice (some ⟨ga,0,none⟩) M.length ca) M/\Own wr W1.heap.size 121 2 gK (.slice Ab N.length cb) N/\Below w.heap.size w wr/\wn.heap.size<=wr.heap.size) (fun _ i _=>N.length+1-(intOf i).toNat)
     case atStart => exact ⟨0,yN,[],v,Uh,rfl,rfl,rfl,Nat.zero_le _,by rw [List.append_nil];exact afS.out,hv7.out,ZN.out,afT.out,afU.out,Hb6.out,Nat.le_refl _⟩
     case round =>
      clear afS afT afU Hb6 ZN hv7;obtain ⟨n,lo,acc,v2,hn,rfl,rfl,hcu,hal,hbx,h27,X7,O7,hon,hb,hz⟩:=hrel;obtain ⟨wp,rfl⟩:∃ wp:World,wp=wr:=⟨_,rfl⟩;have Ui:=Lib.hid hcu;have lZ:=Lib.hid hbx;have H27:=Lib.hid h27;have kF:=Lib.hid X7;have FK:=Lib.hid O7;have pG:=Lib.hid hon;have Hb:=Lib.hid hb;have hzp:w3.heap.size<=wp.heap.size:=by omega
      have hll:(L++acc).length<=2600000000:=by
       rw [List.length_append]
       have:50002*k<=50002*50000:=Nat.mul_le_mul_left _ (by omega)
       omega
      clear hcu hbx h27 O7 hon hb;rcases (show ((∃ hnt:j'+n<N.length,N[j'+n].lo<qC)\/∃ hnt:j'+n<N.length,¬ N[j'+n].lo<qC)\/N.length<=j'+n from by
       by_cases h1:j'+n<N.length
       ·by_cases h2:N[j'+n].lo<qC
        · exact .inl (.inl ⟨h1,h2⟩)
        · exact .inl (.inr ⟨h1,h2⟩)
       · exact .inr (by omega)) with (⟨hnt,hle⟩ | ⟨hnt,hle⟩) | hnt
      · first
      | exfalso;omega
      | skip
        obtain ⟨gb,yO,-,afR,-,hce⟩:=Own.Ij pG.out (by omega);have hA3:=HA2.out gb yO (by omega);subst hA3;have IZ:=Lib.hid yO;clear yO;obtain ⟨c0,d0⟩:=hce (j'+n) hnt;have dQ:=Lib.hid (fun h=>afL (lo:=lo) (hi:=qC) hnt h);have BM:=Lib.hid (fun h=>afM (lo:=lo) (hi:=qC) hnt h);have ke:(j'+n)*2=j'*2+n*2:=by omega
        rw [ke] at c0 d0;have kk5:(n:Int)<(N.length-j':Nat):=by omega
        have kk6:n<N.length-j':=by omega
        have kk7:0<=(n:Int):=by omega
        obtain ⟨m,hm⟩:∃ m,N[j'+n]=m:=⟨_,rfl⟩;rw [hm] at c0 d0 dQ BM hle;have Dk:=Lib.hid hm;clear hm;obtain ⟨nlo,nhi⟩:=m;simp only at c0 d0 hle;clear hce ke;obtain ⟨jJ,jK,qY,-,-⟩:=X7.bI;have HE:=Lib.hid (dQ.out hle);clear dQ BM;go_upto_region 10 with fail;refine bZ (Since wp) (.run 14 0 0 (.done)) (by kernel_rfl) (bD (bR _)) (by kernel_rfl) (by kernel_rfl) (Nat.le_of_ble_eq_true (by kernel_rfl)) ?_;intro cO QR ak aC hS
        iterate 5
         apply bg;exact ak;exact rfl;exact hS;exact rfl
         · intro _ hqc;go_simp;try rfl
         try simp only [pu]
        iterate 8
         apply dY;exact ak;exact rfl;exact hS;iterate 4 exact rfl
         · intro _ hqc;go_simp;try rfl
         try simp only [pu]
        apply bg;exact ak;exact rfl;exact hS;exact rfl
        · intro _ hqc;go_simp;try rfl
        try simp only [pu]
        refine bM ?_;refine aC.down _ _ ?_;have hB:Below wp.heap.size wp wp.drew:=hS;clear hS aC ak;go_wp2_with fail;have hx6:=lZ.out.keep hB;have O9:=FK.out.keep hB;have Pg:=pG.out.keep hB;have Ph:=kF.out.keep hB;have hb6:=bT Hb.out hB;have aot:=hB.size;refine (mZ.out lo nlo w3.heap.size g4 (L++acc) v2 _ hx6 (by omega) (by omega)).mono ?_;rintro e w7 ⟨rfl,⟨v7,hx7,zO⟩,I4,hb7⟩;obtain ⟨q1,q2,q3,q4⟩:=afN hx6 I4 zO H27.out Ph afV O9 DK.out Pg vF.out;have ZP:=Lib.hid hx7;have aou:=Lib.hid q1;have HV7:=Lib.hid q2;have ZQ:=Lib.hid q3;have Uj:=Lib.hid q4;have ZR:=Lib.hid (hb7 w hb6 (by omega) (by omega));have hz7:=I4.size;clear hx6 O9 Pg Ph hb6 hx7 zO I4 hb7 q2 q3 q4 c0 d0 X7 jJ jK qY hB lZ FK pG kF Hb;obtain ⟨gb',Ld,-,atn,-,afW⟩:=Own.Ij Uj.out (by omega);rw [IZ.out] at Ld;injection Ld with Ld;injection Ld with Ld _ _;subst Ld;obtain ⟨-,d1⟩:=afW (j'+n) hnt;rw [Dk.out,show (j'+n)*2=j'*2+n*2 by omega] at d1;simp only at d1;have HC7:=Lib.hid (show qI qC yN (N.drop j')=(acc++jU lo nlo)++qI qC nhi (N.drop (j'+(n+1))) by rw [Ui.out,HE.out,List.append_assoc];rfl);have hl7:=afO lo nlo;clear afW HE Ui IZ;go_wp2_with fail;go_roundw
        case rel => exact ⟨n+1,nhi,acc++jU lo nlo,v7,by omega,by go_num,rfl,HC7.out,by rw [List.length_append];omega,by rw [<- List.append_assoc];exact ZP.out,HV7.out,aou.out,ZQ.out,Uj.out,ZR.out,by omega⟩
        case measure => simp [intOf];omega
      case' inl.inr =>
       first
      | exfalso;omega
      | skip
        obtain ⟨gb,yO,-,afR,-,hce⟩:=Own.Ij pG.out (by omega);have hA3:=HA2.out gb yO (by omega);subst hA3;obtain ⟨c0,d0⟩:=hce (j'+n) hnt;have dQ:=Lib.hid (fun h=>afL (lo:=lo) (hi:=qC) hnt h);have BM:=Lib.hid (fun h=>afM (lo:=lo) (hi:=qC) hnt h);have ke:(j'+n)*2=j'*2+n*2:=by omega
        rw [ke] at c0 d0;have kk5:(n:Int)<(N.length-j':Nat):=by omega
        have kk6:n<N.length-j':=by omega
        have kk7:0<=(n:Int):=by omega
        obtain ⟨m,hm⟩:∃ m,N[j'+n]=m:=⟨_,rfl⟩;rw [hm] at c0 d0 dQ BM hle;have Dk:=Lib.hid hm;clear hm;obtain ⟨nlo,nhi⟩:=m;simp only at c0 d0 hle;clear hce ke
        try clear jJ
        try clear jK
        try clear qY
        obtain ⟨jJ,jK,qY,-,-⟩:=X7.bI;have HE:=Lib.hid (Ui.out.trans (by rw [BM.out hle]));clear dQ BM Dk yO;go_upto_region 10 with fail;refine bZ (Since wp) (.run 14 0 0 (.done)) (by kernel_rfl) (bD (bR _)) (by kernel_rfl) (by kernel_rfl) (Nat.le_of_ble_eq_true (by kernel_rfl)) ?_;intro cO QR ak aC hS
        iterate 5
         apply bg;exact ak;exact rfl;exact hS;exact rfl
         · intro _ hqc;go_simp;try rfl
         try simp only [pu]
        iterate 8
         apply dY;exact ak;exact rfl;exact hS;iterate 4 exact rfl
         · intro _ hqc;go_simp;try rfl
         try simp only [pu]
        apply bg;exact ak;exact rfl;exact hS;exact rfl
        · intro _ hqc;go_simp;try rfl
        try simp only [pu]
        refine bM ?_;refine aC.down _ _ ?_;have hB:Below wp.heap.size wp wp.drew:=hS;clear hS aC ak;go_wp2_with fail
      rotate_left
      have HE:=Lib.hid (Ui.out.trans (by rw [aoo (lo:=lo) (hi:=qC) hnt]));have kk6:¬ n<N.length-j':=by omega
      have kk8:¬ (n:Int)<(N.length-j':Nat):=by omega
      try clear jJ
      try clear jK
      try clear qY
      obtain ⟨jJ,jK,qY,-,-⟩:=X7.bI;go_upto_region 10 with fail;refine bZ (Since wp) (.run 14 0 0 (.done)) (by kernel_rfl) (bD (bR _)) (by kernel_rfl) (by kernel_rfl) (Nat.le_of_ble_eq_true (by kernel_rfl)) ?_;intro cO QR ak aC hS
      iterate 5
       apply bg;exact ak;exact rfl;exact hS;exact rfl
       · intro _ hqc;go_simp;try rfl
       try simp only [pu]
      iterate 8
       refine qH ak rfl hS rfl rfl rfl rfl rfl ?_
       try simp only [pu]
      apply bg;exact ak;exact rfl;exact hS;exact rfl
      · intro _ hqc;go_simp;try rfl
      try simp only [pu]
      refine bM ?_;refine aC.down _ _ ?_;have hB:Below wp.heap.size wp wp.drew:=hS;clear hS aC ak;go_wp2_with fail
      all_goals
       have hx6:=lZ.out.keep hB;have O9:=FK.out.keep hB;have Pg:=pG.out.keep hB;have Ph:=kF.out.keep hB;have hb6:=bT Hb.out hB;have aot:=hB.size;refine (mZ.out lo qC w3.heap.size g4 (L++acc) v2 _ hx6 (by omega) (by omega)).mono ?_;rintro e w7 ⟨rfl,⟨v7,hx7,zO⟩,I4,hb7⟩;obtain ⟨-,-,q3,q4⟩:=afN hx6 I4 zO H27.out Ph afV O9 DK.out Pg vF.out;have ZP:=Lib.hid hx7;have ZQ:=Lib.hid q3;have Uj:=Lib.hid q4;have ZR:=Lib.hid (hb7 w hb6 (by omega) (by omega));have hz7:=I4.size;have aov:=Lib.hid (show pY M N=(L++acc++jU lo qC)++pY (M.drop (k+1)) (N.drop j') by
        have e1:=HCu.out
        try simp only at e1
        rw [O8.out,e1,HE.out];simp only [List.append_assoc])
       have hl7:=afO lo qC;clear hx6 O9 Pg Ph hb6 hx7 zO I4 hb7 q3 q4 X7 hB lZ FK pG kF Hb O8 HCu HE;go_wp2_with fail;go_roundw
       case rel => exact ⟨k+1,j',L++acc++jU lo qC,v7,by omega,by go_num,Uh,⟨_,c2,rfl,hc3,hc4,HA2.out⟩,aov.out,by rw [List.length_append,List.length_append];omega,ZP.out,ZQ.out,Uj.out,ZR.out,by omega⟩
       case measure => simp [intOf];omega
  ·obtain rfl:k=M.length:=by omega
   have hd:=O8.out;rw [List.drop_length] at hd;have he:pY M N=L:=by rw [hd];simp [pY]
   clear hd;obtain ⟨A,c,rfl,-⟩:=Own.sl lZ.out.own;have X4:=lZ.out.box;have HE:=Lib.hid he;clear he;obtain ⟨cZ,dh,eG⟩:=X4.fB;go_wp2_with fail;refine Zd (g:=g4) (v:=.slice A L.length c) rfl aoq rfl rfl (aj.Qy X4) ?_;rw [HE.out];refine ⟨A,c,rfl,?_,bS (p:=⟨g4,0,none⟩) Hb.out (show w.heap.size<=g4 by omega) _⟩;have ho:=lZ.out.own.far (p:=⟨g4,0,none⟩) (Own.dM lZ.out.own lZ.out.box (by decide)) (.slice A L.length c);exact ho.iW (by omega)
def qE (B g:Nat) (w0:World):World->Prop:=fun w=>Below B w0 w/\w.heap[g]? = w0.heap[g]?
section
variable {B g:Nat} {W w w':World}
theorem afX (h:qE B g W w):(∀ b o,b<B->w.cell? ⟨b,o,none⟩=W.cell? ⟨b,o,none⟩)/\(∀ o,w.cell? ⟨g,o,none⟩=W.cell? ⟨g,o,none⟩) :=
 ⟨(abE h.1).1,fun o=>by simp only [World.cell?,h.2]⟩
theorem kR (W:World):qE B g W W.drew:=⟨Below.drew (Below.refl _ _),rfl⟩
theorem kA (h:qE B g W w) (hB:B<=W.heap.size) (hg:g<W.heap.size) (o:Obj):qE B g W (w.alloc o) :=
 ⟨h.1.alloc (Nat.le_trans hB h.1.size) o,by rw [Below.heap_alloc w o g (Nat.lt_of_lt_of_le hg h.1.size)];exact h.2⟩
theorem kC (h:qE B g W w) (k:Below w.heap.size w w') (hB:B<=W.heap.size) (hg:g<W.heap.size):qE B g W w' :=
 ⟨h.1.trans (k.mono (Nat.le_trans hB h.1.size)),(k.block g (Nat.lt_of_lt_of_le hg h.1.size)).trans h.2⟩
theorem kG (h:qE B g W w) {row:Option Nat} (k:w.grownBy w' row) (hr:∀ q,row=some q->B<=q) (hn:some g≠row) (hB:B<=W.heap.size) (hg:g<W.heap.size):qE B g W w' :=
 ⟨h.1.grown k (Nat.le_trans hB h.1.size) hr,(k.block g (Nat.lt_of_lt_of_le hg h.1.size) hn).trans h.2⟩
theorem kS (h:qE B g W w) {p:Addr} (hB:B<=p.block) (hn:g≠p.block) (u:Value):qE B g W (w.setCell p u) :=
 ⟨h.1.setCell hB u,(Below.heap_setCell w p u g hn).trans h.2⟩
end
section
variable {P:Program} {ops:Array Oper} {Q:Exit->Act->World->Prop}
theorem Le {l:List Oper} {i m:Nat} {oi:Oper} {r:jv} {a:Act} {w W:World} {B g:Nat} {v:Value} (H:PLift (ops=l.toArray)) (hi:l[i]? = some oi) (hS:qE B g W w) (hg:oi.guard=none)
  (hy:∀ wq:World,(∀ b o,b<B->wq.cell? ⟨b,o,none⟩=W.cell? ⟨b,o,none⟩)->(∀ o,wq.cell? ⟨g,o,none⟩=W.cell? ⟨g,o,none⟩)->(execOp a.eval oi).run P wq=.ok (.value v) wq) (h:lq P ops (NoPanic Q) (qE B g W) r (a.put oi.dst v) w):lq P ops (NoPanic Q) (qE B g W) (.take i m r) a w :=
 QF H hi hS hg (fun wq hq=>hy wq (afX hq).1 (afX hq).2) h
end
def aow (w:World) (l:List Nd) (e:Ending) (w':World):Prop :=
 ∃ A c,e=.returned (.slice A l.length c)/\Below w.heap.size w w'/\Own w' w.heap.size 45 3 uS (.slice A l.length c) l
set_option maxHeartbeats 400000 in
theorem aox (v:Value) (l:List Nd) (w:World) (h:zZ w v l) (hl:l.length<=1048576) :
  Calls Tryz.prog 113 #[v] w (aow w l):=by
 have H:=h;obtain ⟨A,c,rfl,hn,hc,hR⟩:=h;have hE:=Lib.run_eql_slice_nil (P:=Tryz.prog) (t:=22) (e:=45);rcases A with _ | ad
 ·have hl0:l=[]:=by
   rcases l with _ | ⟨a,l⟩
   · rfl
   ·obtain ⟨b,o,e,_⟩:=hR (by simp [uS])
    cases e
  subst hl0;clear hR H;simp only [List.length_nil] at hn ⊢;have hE1:∀ W:World,(binOp .eql 22 (.slice none 0 c) (.slice none 0 0)).run Tryz.prog W=.ok (.bool true) W:=fun W=>Lib.run_eql_slice_nil W _ 45 none _ c 0 0 Tryz.underlying22;clear hE;go_enter Tryz.func113,Tryz.ntmps113;go_wp2;go_ret;exact ⟨_,_,rfl,bR w,Own.nil _ _ _ _ _⟩
 ·have hE1:∀ W:World,(binOp .eql 22 (.slice (some ad) l.length c) (.slice none 0 0)).run Tryz.prog W=.ok (.bool false) W:=fun W=>Lib.run_eql_slice_nil W _ 45 (some ad) _ c 0 0 Tryz.underlying22;clear hE hR;have HH:=Lib.hid H;clear H;go_enter Tryz.func113,Tryz.ntmps113;go_wp2_with
   (at_builtin
    refine jH _ rfl (.tmp 5) (.tmp 6) _ rfl (base:=w.heap.size) abz VT abA rfl (Own.lit _ _ _ _ uS [] _ 0 _ rfl rfl (Nat.le_refl _) (dW (by omega)) rfl rfl) rfl (HH.out.mono (bA (bR w) _)) (by simp only [List.length_nil];omega) (by simp only [List.length_nil];omega) (by simp) ?_;intro v1 w1 hown hg hat)
  go_ret;obtain ⟨A1,c1,rfl,-⟩:=Own.sl hown;simp only [List.nil_append] at hown ⊢;exact ⟨A1,c1,rfl,bG (bA (bR w) _) hg (fun k hk=>by have:w.heap.size=k:=Option.some.inj hk;omega),hown⟩
def vP (a:Ar):Ar:=⟨a.id,a.fr,a.dst,a.via,0,0⟩
def dw (p:Pl):Pl:=⟨p.nodes,p.ah.map vP,[]⟩
structure iU (w:World) (B:Nat) (vn va vf:Value) (p:Pl) (bl:List (Ar×SV)):Prop where
 tu:Own w B 45 3 uS vn p.nodes
 iQ:Own w B 50 6 Dl va bl
 nS:∀ x∈bl,Own w B 39 2 iV (aH x.2) x.1.via
 eq:bl.map (·.1)=p.ah
 oQ:Own w B 3 1 dO vf p.faces
theorem iU.keep {w w':World} {B:Nat} {vn va vf:Value} {p:Pl} {bl:List (Ar×SV)} (h:iU w B vn va vf p bl) (hb:Below w.heap.size w w'):iU w' B vn va vf p bl :=
 ⟨h.tu.keep hb,h.iQ.keep hb,fun x hx=>(h.nS x hx).keep hb,h.eq,h.oQ.keep hb⟩
theorem iU.ZT {w:World} {B:Nat} {vn va vf:Value} {p:Pl} {bl:List (Ar×SV)} (h:iU w B vn va vf p bl):dS w (.agg #[vn,va,vf]) p:=by
 refine ⟨vn,va,vf,bl.map OA,rfl,?_,h.tu.sl,⟨?_,fun k hk=>?_⟩,h.oQ.sl⟩
 · rw [List.map_map,<- h.eq];rfl
 ·have:=h.iQ.sl
  rw [List.length_map,aeL];exact this
 ·have hk':k<bl.length:=by simpa using hk
  rw [List.getElem_map];exact (h.nS _ (List.getElem_mem hk')).sl
def aoy (w:World) (p:Pl) (e:Ending) (w':World):Prop :=
 ∃ An cn Aa ca bl,e=.returned (.agg #[.slice An p.nodes.length cn,.slice Aa p.ah.length ca,.slice none 0 0])/\Below w.heap.size w w'/\iU w' w.heap.size (.slice An p.nodes.length cn) (.slice Aa p.ah.length ca) (.slice none 0 0) p bl
theorem iU.more {w w1:World} {B:Nat} {vn va va' vf:Value} {p:Pl} {bl:List (Ar×SV)} {x:Ar×SV} (h:iU w B vn va vf p bl) (ho:Own w1 B 50 6 Dl va' (bl++[x])) (hg:w.grownBy w1 va.ownBlock) (hx:Own w B 39 2 iV (aH x.2) x.1.via) :
  iU w1 B vn va' vf ⟨p.nodes,p.ah++[x.1],p.faces⟩ (bl++[x]) :=
 ⟨Own.grown h.tu hg (Own.apart h.tu h.iQ (by decide)),ho,fun y hy=>by
  rcases List.mem_append.1 hy with hy | hy
  · exact Own.grown (h.nS y hy) hg (Own.apart (h.nS y hy) h.iQ (by decide))
  ·rw [List.mem_singleton] at hy;subst hy;exact Own.grown hx hg (Own.apart hx h.iQ (by decide)),by rw [List.map_append,h.eq];rfl,Own.grown h.oQ hg (Own.apart h.oQ h.iQ (by decide))⟩
theorem iU.far {w:World} {B:Nat} {vn va vf:Value} {p:Pl} {bl:List (Ar×SV)} (h:iU w B vn va vf p bl) {g:Nat} {t:TypeId} {cs:Array Value} (hb:aj w g t cs) (h1:45≠t) (h2:50≠t) (h3:39≠t) (h4:3≠t) (j:Nat) (u:Value):iU (w.setCell ⟨g,j,none⟩ u) B vn va vf p bl :=
 ⟨Own.far h.tu (Own.dM h.tu hb h1) u,Own.far h.iQ (Own.dM h.iQ hb h2) u,fun x hx=>Own.far (h.nS x hx) (Own.dM (h.nS x hx) hb h3) u,h.eq,Own.far h.oQ (Own.dM h.oQ hb h4) u⟩
theorem Row.ZU {w:World} {A:Option Addr} {l:List (Ar×SV)} (h:Row w A (l.flatMap Dl)) {k:Nat} (hk:k<l.length) :
  ∃ b o,A=some ⟨b,o,none⟩/\b<w.heap.size/\w.cell? ⟨b,o+k*6,none⟩=some (.int .i64 l[k].1.id)/\w.cell? ⟨b,o+k*6+1,none⟩=some (.int .i64 l[k].1.fr)/\w.cell? ⟨b,o+k*6+2,none⟩=some (.int .i64 l[k].1.dst) /\
   w.cell? ⟨b,o+k*6+3,none⟩=some (.slice l[k].2.a l[k].2.n l[k].2.c)/\w.cell? ⟨b,o+k*6+4,none⟩=some (.int .i64 l[k].1.left)/\w.cell? ⟨b,o+k*6+5,none⟩=some (.int .i64 l[k].1.right):=by
 obtain ⟨b,o,hA,hb,hc⟩:=h.at_ (n:=6) (fun _=>rfl) hk (by omega);exact ⟨b,o,hA,hb,hc 0 _ rfl,hc 1 _ rfl,hc 2 _ rfl,hc 3 _ rfl,hc 4 _ rfl,hc 5 _ rfl⟩
set_option maxRecDepth 100000 in
set_option maxHeartbeats 8000000 in
theorem aoz (v:Value) (p:Pl) (w:World) (h:dS w v p) (hn:p.nodes.length<=100000) (ha:p.ah.length<=100000) (hvl:∀ a∈p.ah,a.via.length<=100000):Calls Tryz.prog 56 #[v] w (aoy w (dw p)):=by
 obtain ⟨_,_,_,al,rfl,hpa,hN,⟨⟨Aa,ca,rfl,ha1,ha2,jV⟩,hV⟩,⟨Af,cf,rfl,-⟩⟩:=h;obtain ⟨bl,rfl⟩:=hV.sv;have hres:p.ah=bl.map (·.1):=by rw [hpa,List.map_map];rfl
 have hbl:bl.length<=100000:=by rw [hres,List.length_map] at ha;exact ha
 rw [List.length_map] at ha1;rw [aeL] at jV;have HVk:=Lib.hid (show ∀ k (hk:k<bl.length),gG w (.slice bl[k].2.a bl[k].2.n bl[k].2.c) bl[k].1.via from fun k hk=>by
  have:=hV k (by simpa using hk)
  simpa [OA] using this)
 have HVl:=Lib.hid (show ∀ k (hk:k<bl.length),bl[k].1.via.length<=100000 from fun k hk=>hvl _ (by rw [hres];exact List.mem_map_of_mem (List.getElem_mem hk)));have mM:=Lib.hid (show Row w Aa (bl.flatMap Dl) from jV);have HCn:=Lib.hid (fun W (hW:Below w.heap.size w W)=>aox _ p.nodes W (hN.mono hW) (by omega));have Uk:=Lib.hid (fun u l W (hu:gG W u l) (hl:l.length<=1048576)=>abY u l W hu hl);obtain ⟨An,cn,rfl,hn1,hn2,-⟩:=hN;have afY:=Lib.hid hres;rw [List.length_map] at *;unfold maxLen at ha2 hn2;clear hV jV hpa hres hvl;generalize p.faces.length=nf at *;go_enter Tryz.func56,Tryz.ntmps56;go_upto_region 1 with fail;obtain ⟨g2,hg2⟩:∃ g2,w.heap.size+1=g2:=⟨_,rfl⟩;obtain ⟨W1,hW⟩:∃ W:World,W=(w.alloc (.cells #[.slice An p.nodes.length cn,.slice Aa bl.length ca,.slice Af nf cf] 26)).alloc (.cells #[.slice none 0 0,.slice none 0 0,.slice none 0 0] 26):=⟨_,rfl⟩;have X1:aj W1 w.heap.size 26 #[.slice An p.nodes.length cn,.slice Aa bl.length ca,.slice Af nf cf]:=by rw [hW];exact (aj.made rfl _ _).alloc _
 have X2:aj W1 g2 26 #[.slice none 0 0,.slice none 0 0,.slice none 0 0]:=by rw [hW];exact aj.made (by rw [<- hg2];simp) _ _
 have HB1:=Lib.hid (show Below w.heap.size w W1 by rw [hW];exact bA (bA (bR w) _) _);rw [<- hW]
 try rw [hg2]
 have eH:=Lib.hid X1;have bY:=Lib.hid X2;have n12:¬ g2=w.heap.size:=by omega
 have hgw:w.heap.size<=g2:=by omega
 clear hW hg2;obtain ⟨aI,aJ,aK,aP,-,-,-⟩:=X1.bC;obtain ⟨gI,gJ,iq,iZ,AV,GU,Lh⟩:=X2.bC;go_wp2_with fail;refine (HCn.out _ HB1.out).mono ?_;rintro e w2 ⟨l7,l9,rfl,hb2,hon⟩;have HB2:=Lib.hid (bT HB1.out hb2);have iE:=Lib.hid (eH.out.keep hb2);have dn:=Lib.hid (bY.out.keep hb2);have afZ:=hon.iW (b':=w.heap.size) HB1.out.size;have zF:=Lib.hid (show iU w2 w.heap.size (.slice l7 p.nodes.length l9) (.slice none 0 0) (.slice none 0 0) ⟨p.nodes,[],[]⟩ [] from ⟨afZ,Own.nil _ _ _ _ _,(fun x hx=>by cases hx),rfl,Own.nil _ _ _ _ _⟩);clear hb2 hon afZ HCn X1 aI aJ aK aP X2 gI gJ iq iZ AV GU Lh;have X3:=iE.out;have X4:=dn.out;obtain ⟨kU,kV,mO,Lj,-,-,-⟩:=X3.bC;obtain ⟨cZ,dh,eF,jw,eG,iY,lu⟩:=X4.bC;go_wp2_with fail;go_loopw [12] (fun i wr=>∃ (k:Nat) (ol:List (Ar×SV)) (A:Option Addr) (c:Nat),k<=bl.length/\i=.int .i64 k/\ol.length=k/\iU wr w.heap.size (.slice l7 p.nodes.length l9) (.slice A k c) (.slice none 0 0) ⟨p.nodes,(bl.take k).map (fun x=>vP x.1),[]⟩ ol/\aj wr g2 26 #[.slice l7 p.nodes.length l9,.slice A k c,.slice none 0 0]/\Below w.heap.size w wr) (fun i _=>bl.length-(intOf i).toNat)
 case atStart => exact ⟨0,[],none,0,Nat.zero_le _,rfl,rfl,zF.out.far dn.out (by decide) (by decide) (by decide) (by decide) 0 _,by simpa using dn.out.fF 0 (.slice l7 p.nodes.length l9),bS HB2.out hgw _⟩
 case round =>
  clear zF dn HB2 X3 kU kV mO Lj X4 cZ dh eF jw eG iY lu;obtain ⟨k,ol,A,c,hk,rfl,hol,hpo,X4,hb⟩:=hrel;obtain ⟨wo,rfl⟩:∃ wo:World,wo=wr:=⟨_,rfl⟩;have HP:=Lib.hid hpo;have dn:=Lib.hid X4;have HB:=Lib.hid hb;have OL:=Lib.hid hol;have hl4:=X4.lt;clear hpo hb;by_cases hlt:k<bl.length
  ·obtain ⟨b,o,yO,hlb,c0,c1,c2,c3,c4,c5⟩:=(Row.mono mM.out HB.out).ZU hlt;subst yO;have hv:=HVk.out k hlt;have hvl:=HVl.out k hlt;have htk:bl.take (k+1)=bl.take k++[bl[k]]:=List.take_succ_eq_append_getElem hlt;generalize bl[k]=x at *;obtain ⟨⟨id,fr,dst,via,lf,rt⟩,⟨va,vn,vc⟩⟩:=x;simp only at c0 c1 c2 c3 c4 c5 hv hvl htk;have hv0:=hv;obtain ⟨Av,cv,hev,-,-,-⟩:=hv;injection hev with y1 y2 y3;subst y1 y2 y3;have Ll:=Lib.hid (fun W (hW:Below w.heap.size w W)=>Uk.out (.slice va via.length vc) via W (hv0.mono hW) (by omega));clear hv0;have kL:=Lib.hid htk;clear htk;go_upto_region 5 with fail;obtain ⟨W2,hW⟩:∃ W:World,W=wo.alloc (.cells #[.int .i64 id,.int .i64 fr,.int .i64 dst,.slice va via.length vc,.int .i64 lf,.int .i64 rt] 50):=⟨_,rfl⟩;have hA:Below wo.heap.size wo W2:=by rw [hW];exact bA (bR wo) _
   obtain ⟨g4,hg4⟩:∃ g4,wo.heap.size=g4:=⟨_,rfl⟩;have X6:aj W2 g4 50 #[.int .i64 id,.int .i64 fr,.int .i64 dst,.slice va via.length vc,.int .i64 lf,.int .i64 rt]:=by rw [hW];exact aj.made hg4.symm _ _
   have HB2:=Lib.hid (bT HB.out hA);have HP2:=Lib.hid (HP.out.keep hA);have bK:=Lib.hid (dn.out.keep hA);have n4:some g4≠(Value.slice A k c).ownBlock:=fun e=>by have:=(HP.out.iQ.lt _ e.symm).2;omega
   have n42:¬ g4=g2:=by omega
   have hz2:=HB2.out.size;have ato:=hA.size;rw [<- hW]
   try rw [hg4]
   clear hW hA c0 c1 c2 c3 c4 c5 hlb HP HB dn;have X5:=bK.out;clear X4;have eu:=Lib.hid (fun (y:Ar×SV)=>show (ol++[y]).length=k+1 from by rw [List.length_append,OL.out];rfl);have atp:ol.length<=100000:=by omega
   have ZV:w.heap.size<=g2:=hgw;have ZW:=Lib.hid (fun (A7:Option Addr) (c7:Nat)=>show (bl.take (k+1)).map (fun x=>vP x.1)=(bl.take k).map (fun x=>vP x.1)++[(⟨id,fr,dst,via,0,0⟩:Ar)] from by rw [kL.out,List.map_append];rfl);obtain ⟨jk,jl,jm,sK,uY,JC,JD,-,-,-,-,-,-⟩:=X6.kZ;have hl5:=X5.lt;have n5:=Own.dM HP2.out.iQ bK.out (by decide);refine bZ (qE (w.heap.size) (g4) W2) (.take 0 1 (.run 8 2 1 (.two 1 1023 (.call 10 2047 (.take 11 4095 (.call 12 8191 (.call 13 16383 (.take 14 32767 (.call 15 65535 (.done))))))) 10 2045 (.take 11 4093 (.two 1 4095 (.call 12 8191 (.call 13 16383 (.take 14 32767 (.call 15 65535 (.done))))) 12 8189 (.call 1 8191 (.call 13 16383 (.take 14 32767 (.call 15 65535 (.done)))))))))) (by kernel_rfl) (kR _) (by kernel_rfl) (by kernel_rfl) (Nat.le_of_ble_eq_true (by kernel_rfl)) ?_;intro cO QR ak aC hS;replace X5:=X5.drew
   iterate 9
    apply Le;exact ak;exact rfl;exact hS;exact rfl
    · intro _ hqc Pj;go_simp;try rfl
    try simp only [pu]
   refine Ae (i:=1) (j:=10) (aG ak rfl) (aG ak rfl) (fun K hK=>?_) (fun K hK=>?_)
   ·have aA:=Lib.hid hS;clear hS;refine aO (aV rfl) ?_;obtain ⟨z1,z2,z3,z4,-⟩:=aj.bC X5;go_simp;refine hK.out _ _ aA.out (fun hS=>?_);clear hK K aA
    try simp only [pu]
    refine aT (i:=10) (aG ak rfl) (fun K hK=>?_);have aA:=Lib.hid hS;clear hS;refine aO (aV rfl) ?_;go_simp;refine (Ll.out _ (bT HB2.out (bD (bR W2)))).mono ?_;rintro e bH ⟨A9,c9,rfl,bJ,DL⟩;have hS:qE (w.heap.size) (g4) W2 bH:=kC aA.out bJ (by omega) (by omega);clear aA
    try replace XL:=XL.keep bJ
    try replace X5:=X5.keep bJ
    refine hK.out _ _ hS (fun _=>?_);clear hK K
    try simp only [pu]
    apply Le;exact ak;exact rfl;exact hS;exact rfl
    · intro _ hqc Pj;go_simp;try rfl
    try simp only [pu]
    refine aT (i:=12) (aG ak rfl) (fun K hK=>?_);have aA:=Lib.hid hS;clear hS;refine aO (aV rfl) ?_;go_simp;have XLy:Below (w.heap.size) W2 (bH):=aA.out.1;have Pm:w.heap.size<=(bH).heap.size:=Nat.le_trans (by omega) (show Below (w.heap.size) W2 (bH) from aA.out.1).size;refine hK.out _ _ (kA aA.out (by omega) (by omega) _) (fun hS=>?_);clear hK K aA
    try replace X5:=X5.alloc (.cells #[.int .i64 id,.int .i64 fr,.int .i64 dst,.slice A9 via.length c9,.int .i64 0,.int .i64 0] 50)
    try replace XL:=XL.alloc (.cells #[.int .i64 id,.int .i64 fr,.int .i64 dst,.slice A9 via.length c9,.int .i64 0,.int .i64 0] 50)
    have XL:=aj.new (bH) 50 #[.int .i64 id,.int .i64 fr,.int .i64 dst,.slice A9 via.length c9,.int .i64 0,.int .i64 0]
    try simp only [World.size_drew,World.size_alloc] at XL Pm
    try simp only [World.alloc_drew] at X5
    try simp only [World.alloc_drew] at XL
    try simp only [pu]
    refine aT (i:=13) (aG ak rfl) (fun K hK=>?_);have aA:=Lib.hid hS;clear hS;refine aO (aV rfl) ?_;refine wI (.tmp 17) (.tmp 28) _ rfl (base:=w.heap.size) VR Oz YL rfl (((HP2.out.iQ.keep (bD (bR W2))).keep bJ).alloc _) rfl (l2:=[((⟨id,fr,dst,via,0,0⟩:Ar),(⟨A9,via.length,c9⟩:SV))]) (Sl.lit (n:=1) (aj.made rfl _ _) rfl (dW (by omega))) (by simp only [List.length_cons,List.length_nil];omega) (by simp only [List.length_cons,List.length_nil];omega) (by have:=bJ.size;simp at this;simp;omega) ?_;intro v7 w7 vU je zO;obtain ⟨A7,c7,hv7,-⟩:=Own.mY vU;rw [eu.out] at hv7;subst hv7;have vV:=aj.grown X5 je (fun e=>n5 e.symm);obtain ⟨q1,q2,q3,q4,q5,q6,q7⟩:=aj.bC vV;have hmr:=iU.more (((HP2.out.keep (bD (bR W2))).keep bJ).keep (bA (bR _) _)) vU je (Own.alloc (DL.iW (by simp;omega)) _);have DN:=Lib.hid (hmr.far vV (by decide) (by decide) (by decide) (by decide) 1 (.slice A7 (k+1) c7));have FM:=Lib.hid (vV.fF 1 (.slice A7 (k+1) c7));have qR:=Lib.hid (bS (p:=⟨g2,1,none⟩) (bG (bA (bT (bT HB2.out (bD (bR W2))) bJ) _) je (fun q hq=>(HP2.out.iQ.lt q hq).1)) ZV (.slice A7 (k+1) c7));have hS:qE w.heap.size g4 W2 w7:=kG aA.out je (fun q hq=>(HP2.out.iQ.lt q hq).1) n4 (by omega) (by omega);clear hmr vV vU je zO;clear aA;refine hK.out _ _ hS (fun _=>?_);clear hK K
    try simp only [pu]
    apply Le;exact ak;exact rfl;exact hS;exact rfl
    · intro _ hqc Pj;go_simp;try rfl
    try simp only [pu]
    refine aT (i:=15) (aG ak rfl) (fun K hK=>?_);have aA:=Lib.hid hS;clear hS;refine aO (aV rfl) ?_;go_simp;refine hK.out _ _ (kS aA.out (by first | omega | (simp;omega)) (by first | omega | (simp;omega)) _) (fun hS=>?_);clear hK K aA
    try simp only [pu]
    refine bM ?_;refine aC.down _ _ ?_;have hBk:=hS.2;have hB:Below (w.heap.size) W2 _:=hS.1;clear hS aC ak;go_wp2_with fail;go_roundw
    case rel => exact ⟨k+1,_,A7,c7,by omega,by go_num,eu.out _,by rw [ZW.out A7 c7];exact DN.out,by simpa using FM.out,qR.out⟩
    case measure => simp [intOf];omega
   ·have aA:=Lib.hid hS;clear hS;refine aO (aV rfl) ?_;go_simp;refine (Ll.out _ (bT HB2.out (bD (bR W2)))).mono ?_;rintro e bH ⟨A9,c9,rfl,bJ,DL⟩;have hS:qE (w.heap.size) (g4) W2 bH:=kC aA.out bJ (by omega) (by omega);clear aA
    try replace XL:=XL.keep bJ
    try replace X5:=X5.keep bJ
    refine hK.out _ _ hS (fun _=>?_);clear hK K
    try simp only [pu]
    apply Le;exact ak;exact rfl;exact hS;exact rfl
    · intro _ hqc Pj;go_simp;try rfl
    try simp only [pu]
    refine Ae (i:=1) (j:=12) (aG ak rfl) (aG ak rfl) (fun K hK=>?_) (fun K hK=>?_)
    ·have aA:=Lib.hid hS;clear hS;refine aO (aV rfl) ?_;obtain ⟨z1,z2,z3,z4,-⟩:=aj.bC X5;go_simp;refine hK.out _ _ aA.out (fun hS=>?_);clear hK K aA
     try simp only [pu]
     refine aT (i:=12) (aG ak rfl) (fun K hK=>?_);have aA:=Lib.hid hS;clear hS;refine aO (aV rfl) ?_;go_simp;have XLy:Below (w.heap.size) W2 (bH):=aA.out.1;have Pm:w.heap.size<=(bH).heap.size:=Nat.le_trans (by omega) (show Below (w.heap.size) W2 (bH) from aA.out.1).size;refine hK.out _ _ (kA aA.out (by omega) (by omega) _) (fun hS=>?_);clear hK K aA
     try replace X5:=X5.alloc (.cells #[.int .i64 id,.int .i64 fr,.int .i64 dst,.slice A9 via.length c9,.int .i64 0,.int .i64 0] 50)
     try replace XL:=XL.alloc (.cells #[.int .i64 id,.int .i64 fr,.int .i64 dst,.slice A9 via.length c9,.int .i64 0,.int .i64 0] 50)
     have XL:=aj.new (bH) 50 #[.int .i64 id,.int .i64 fr,.int .i64 dst,.slice A9 via.length c9,.int .i64 0,.int .i64 0]
     try simp only [World.size_drew,World.size_alloc] at XL Pm
     try simp only [World.alloc_drew] at X5
     try simp only [World.alloc_drew] at XL
     try simp only [pu]
     refine aT (i:=13) (aG ak rfl) (fun K hK=>?_);have aA:=Lib.hid hS;clear hS;refine aO (aV rfl) ?_;refine wI (.tmp 17) (.tmp 28) _ rfl (base:=w.heap.size) VR Oz YL rfl (((HP2.out.iQ.keep (bD (bR W2))).keep bJ).alloc _) rfl (l2:=[((⟨id,fr,dst,via,0,0⟩:Ar),(⟨A9,via.length,c9⟩:SV))]) (Sl.lit (n:=1) (aj.made rfl _ _) rfl (dW (by omega))) (by simp only [List.length_cons,List.length_nil];omega) (by simp only [List.length_cons,List.length_nil];omega) (by have:=bJ.size;simp at this;simp;omega) ?_;intro v7 w7 vU je zO;obtain ⟨A7,c7,hv7,-⟩:=Own.mY vU;rw [eu.out] at hv7;subst hv7;have vV:=aj.grown X5 je (fun e=>n5 e.symm);obtain ⟨q1,q2,q3,q4,q5,q6,q7⟩:=aj.bC vV;have hmr:=iU.more (((HP2.out.keep (bD (bR W2))).keep bJ).keep (bA (bR _) _)) vU je (Own.alloc (DL.iW (by simp;omega)) _);have DN:=Lib.hid (hmr.far vV (by decide) (by decide) (by decide) (by decide) 1 (.slice A7 (k+1) c7));have FM:=Lib.hid (vV.fF 1 (.slice A7 (k+1) c7));have qR:=Lib.hid (bS (p:=⟨g2,1,none⟩) (bG (bA (bT (bT HB2.out (bD (bR W2))) bJ) _) je (fun q hq=>(HP2.out.iQ.lt q hq).1)) ZV (.slice A7 (k+1) c7));have hS:qE w.heap.size g4 W2 w7:=kG aA.out je (fun q hq=>(HP2.out.iQ.lt q hq).1) n4 (by omega) (by omega);clear hmr vV vU je zO;clear aA;refine hK.out _ _ hS (fun _=>?_);clear hK K
     try simp only [pu]
     apply Le;exact ak;exact rfl;exact hS;exact rfl
     · intro _ hqc Pj;go_simp;try rfl
     try simp only [pu]
     refine aT (i:=15) (aG ak rfl) (fun K hK=>?_);have aA:=Lib.hid hS;clear hS;refine aO (aV rfl) ?_;go_simp;refine hK.out _ _ (kS aA.out (by first | omega | (simp;omega)) (by first | omega | (simp;omega)) _) (fun hS=>?_);clear hK K aA
     try simp only [pu]
     refine bM ?_;refine aC.down _ _ ?_;have hBk:=hS.2;have hB:Below (w.heap.size) W2 _:=hS.1;clear hS aC ak;go_wp2_with fail;go_roundw
     case rel => exact ⟨k+1,_,A7,c7,by omega,by go_num,eu.out _,by rw [ZW.out A7 c7];exact DN.out,by simpa using FM.out,qR.out⟩
     case measure => simp [intOf];omega
    ·have aA:=Lib.hid hS;clear hS;refine aO (aV rfl) ?_;go_simp;have XLy:Below (w.heap.size) W2 (bH):=aA.out.1;have Pm:w.heap.size<=(bH).heap.size:=Nat.le_trans (by omega) (show Below (w.heap.size) W2 (bH) from aA.out.1).size;refine hK.out _ _ (kA aA.out (by omega) (by omega) _) (fun hS=>?_);clear hK K aA
     try replace X5:=X5.alloc (.cells #[.int .i64 id,.int .i64 fr,.int .i64 dst,.slice A9 via.length c9,.int .i64 0,.int .i64 0] 50)
     try replace XL:=XL.alloc (.cells #[.int .i64 id,.int .i64 fr,.int .i64 dst,.slice A9 via.length c9,.int .i64 0,.int .i64 0] 50)
     have XL:=aj.new (bH) 50 #[.int .i64 id,.int .i64 fr,.int .i64 dst,.slice A9 via.length c9,.int .i64 0,.int .i64 0]
     try simp only [World.size_drew,World.size_alloc] at XL Pm
     try simp only [World.alloc_drew] at X5
     try simp only [World.alloc_drew] at XL
     try simp only [pu]
     refine aT (i:=1) (aG ak rfl) (fun K hK=>?_);have aA:=Lib.hid hS;clear hS;refine aO (aV rfl) ?_;obtain ⟨z1,z2,z3,z4,-⟩:=aj.bC X5;go_simp;refine hK.out _ _ aA.out (fun hS=>?_);clear hK K aA
     try simp only [pu]
     refine aT (i:=13) (aG ak rfl) (fun K hK=>?_);have aA:=Lib.hid hS;clear hS;refine aO (aV rfl) ?_;refine wI (.tmp 17) (.tmp 28) _ rfl (base:=w.heap.size) VR Oz YL rfl (((HP2.out.iQ.keep (bD (bR W2))).keep bJ).alloc _) rfl (l2:=[((⟨id,fr,dst,via,0,0⟩:Ar),(⟨A9,via.length,c9⟩:SV))]) (Sl.lit (n:=1) (aj.made rfl _ _) rfl (dW (by omega))) (by simp only [List.length_cons,List.length_nil];omega) (by simp only [List.length_cons,List.length_nil];omega) (by have:=bJ.size;simp at this;simp;omega) ?_;intro v7 w7 vU je zO;obtain ⟨A7,c7,hv7,-⟩:=Own.mY vU;rw [eu.out] at hv7;subst hv7;have vV:=aj.grown X5 je (fun e=>n5 e.symm);obtain ⟨q1,q2,q3,q4,q5,q6,q7⟩:=aj.bC vV;have hmr:=iU.more (((HP2.out.keep (bD (bR W2))).keep bJ).keep (bA (bR _) _)) vU je (Own.alloc (DL.iW (by simp;omega)) _);have DN:=Lib.hid (hmr.far vV (by decide) (by decide) (by decide) (by decide) 1 (.slice A7 (k+1) c7));have FM:=Lib.hid (vV.fF 1 (.slice A7 (k+1) c7));have qR:=Lib.hid (bS (p:=⟨g2,1,none⟩) (bG (bA (bT (bT HB2.out (bD (bR W2))) bJ) _) je (fun q hq=>(HP2.out.iQ.lt q hq).1)) ZV (.slice A7 (k+1) c7));have hS:qE w.heap.size g4 W2 w7:=kG aA.out je (fun q hq=>(HP2.out.iQ.lt q hq).1) n4 (by omega) (by omega);clear hmr vV vU je zO;clear aA;refine hK.out _ _ hS (fun _=>?_);clear hK K
     try simp only [pu]
     apply Le;exact ak;exact rfl;exact hS;exact rfl
     · intro _ hqc Pj;go_simp;try rfl
     try simp only [pu]
     refine aT (i:=15) (aG ak rfl) (fun K hK=>?_);have aA:=Lib.hid hS;clear hS;refine aO (aV rfl) ?_;go_simp;refine hK.out _ _ (kS aA.out (by first | omega | (simp;omega)) (by first | omega | (simp;omega)) _) (fun hS=>?_);clear hK K aA
     try simp only [pu]
     refine bM ?_;refine aC.down _ _ ?_;have hBk:=hS.2;have hB:Below (w.heap.size) W2 _:=hS.1;clear hS aC ak;go_wp2_with fail;go_roundw
     case rel => exact ⟨k+1,_,A7,c7,by omega,by go_num,eu.out _,by rw [ZW.out A7 c7];exact DN.out,by simpa using FM.out,qR.out⟩
     case measure => simp [intOf];omega
  ·obtain rfl:k=bl.length:=by omega
   have hlen:p.ah.length=bl.length:=by rw [afY.out,List.length_map]
   have hpe:(⟨p.nodes,(bl.take bl.length).map (fun x=>vP x.1),[]⟩:Pl)=dw p:=by
    unfold dw;rw [List.take_length,afY.out,List.map_map];rfl
   have hpo:=HP.out;rw [hpe] at hpo;have DN:=Lib.hid (((hpo.far dn.out (by decide) (by decide) (by decide) (by decide) 0 (.slice l7 p.nodes.length l9)).far (dn.out.fF 0 _) (by decide) (by decide) (by decide) (by decide) 1 (.slice A bl.length c)).far ((dn.out.fF 0 _).fF 1 _) (by decide) (by decide) (by decide) (by decide) 2 (.slice none 0 0));have qR:=Lib.hid (bS (p:=⟨g2,2,none⟩) (bS (p:=⟨g2,1,none⟩) (bS (p:=⟨g2,0,none⟩) HB.out hgw (.slice l7 p.nodes.length l9)) hgw (.slice A bl.length c)) hgw (.slice none 0 0));have HLn:=Lib.hid hlen;clear hpo hpe hlen HP
   try clear cZ
   try clear dh
   try clear eF
   try clear jw
   try clear eG
   try clear iY
   try clear lu
   obtain ⟨cZ,dh,eF,jw,eG,iY,lu⟩:=X4.bC;go_wp2_with fail;refine MN (g:=g2) (cs:=#[.slice l7 p.nodes.length l9,.slice A bl.length c,.slice none 0 0]) rfl Qz rfl rfl (aj.ML dn.out) ?_;have hl1:(dw p).ah.length=bl.length:=by unfold dw;rw [List.length_map];exact HLn.out
   refine ⟨l7,l9,A,c,ol,by rw [hl1];rfl,qR.out,?_⟩;rw [hl1];exact DN.out
end Go.Proofs.YtialfdomhoojiaaGreat
