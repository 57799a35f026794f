import Derived.Test.YtialfdomhoojiaaGreatJ19
import Derived.Test.YtialfdomhoojiaaGreatJ15
import Derived.Test.YtialfdomhoojiaaGreatJ17
import Derived.Test.YtialfdomhoojiaaGreatGB
import Derived.Test.YtialfdomhoojiaaGreatJ08
set_option linter.unusedSimpArgs false
set_option linter.unusedVariables false
namespace Go.Proofs.YtialfdomhoojiaaGreat
open Go.RowKit
def qm (x:AD):List (List Int×SV):=(x.out,x.ov)::x.inn
set_option maxRecDepth 100000 in
set_option maxHeartbeats 4000000 in
theorem aaW (x:AD) (w:World) (hr:Sl w (aJ x.iv) x.inn.length (x.inn.flatMap nD)) (hl:x.inn.length<=100000) :
  Calls Tryz.prog 64 #[.agg #[.int .i64 x.tw,aJ x.ov,aJ x.iv,aJ x.av]] w fun e w'=>(∃ A c,e=.returned (.slice A (qm x).length c)/\Own w' w.heap.size 24 1 nD (.slice A (qm x).length c) (qm x))/\Below w.heap.size w w':=by
 obtain ⟨tw,out,⟨oa,on,oc⟩,inn,⟨ia,jM,ic⟩,bK,⟨aa,an,ac⟩⟩:=x;unfold aJ qm at *;simp only at hr hl ⊢;have HS:=Lib.hid hr;obtain ⟨Ai,ci,he,-⟩:=hr;injection he with e1 e2 e3;subst e2;have HO:=Lib.hid (Own.lit (w.alloc (.cells #[.int .i64 tw,.slice oa on oc,.slice ia inn.length ic,.slice aa an ac] 82)) w.heap.size 24 1 nD [((out,⟨oa,on,oc⟩):List Int×SV)] #[.slice oa on oc] 1 (w.heap.size+1) (by simp) rfl (by simp) (fQ (by omega)) rfl rfl);have hle:((out,⟨oa,on,oc⟩)::inn:List (List Int×SV)).length=inn.length+1:=rfl;rw [hle];clear e1 e3 hle;go_enter Tryz.func64,Tryz.ntmps64;go_wp2_with
  (at_builtin
   refine lq _ rfl (.tmp 5) (.tmp 7) _ rfl (base:=w.heap.size) UY UU UW rfl HO.out rfl (l2:=inn) (HS.out.mono (bA (bA (bR w) _) _)) (by simp only [List.length_cons,List.length_nil];omega) (by simp only [List.length_cons,List.length_nil];omega) (by simp only [World.size_alloc];omega) ?_;intro v2 w2 ho2 hg2 apj;obtain ⟨A2,c2,hv2,-⟩:=Own.qM ho2;rw [show ([((out,⟨oa,on,oc⟩):List Int×SV)]++inn).length=inn.length+1 by rw [List.length_append,List.length_singleton];omega] at hv2;subst hv2;have iK:=Lib.hid ho2;have HB2:=Lib.hid (bG (bA (bA (bR w) _) _) hg2 (fun g hg=>(HO.out.lt g hg).1));clear ho2 hg2 apj
   )
 go_ret;exact ⟨⟨A2,c2,rfl,iK.out⟩,HB2.out⟩
theorem agE (l:List Rn):(sO l).length<=l.length:=by
 have h:=aaw (IW l) (IW l).length;unfold qh at h;rw [List.take_length] at h;unfold sO IX;have e:(IW l).length=l.length:=(Lu l).1.length_eq;omega
def sliceLen:Value->Nat
 | .slice _ n _=>n
 | _=>0
def Qv (A:Option Addr) (N:List Rn) (s:Value) (j:Nat):Prop :=
 ∃ A' c,s=.slice A' (N.length-j) c/\N.length-j<=c/\c<=9223372036854775807/\∀ g,A=some ⟨g,0,none⟩->j<N.length->A'=some ⟨g,j*2,none⟩
theorem Qv.next {A:Option Addr} {N:List Rn} {gb j c:Nat} (hA:A=some ⟨gb,0,none⟩) (hj:j<N.length) (hc:N.length-j<=c) (hc2:c<=9223372036854775807) :
  Qv A N (.slice (if c=1 then some ⟨gb,j*2,none⟩ else some ⟨gb,j*2+2,none⟩) (N.length-j-1) (c-1)) (j+1):=by
 refine ⟨_,c-1,by rw [Nat.sub_sub],by omega,by omega,fun g hg hlt=>?_⟩;rw [if_neg (by omega)];rw [hA] at hg;injection hg with hg;injection hg with hg _ _;subst hg;rw [Nat.add_mul,Nat.one_mul]
theorem drop_step {N:List Rn} {j:Nat} {lo:Int} (hj:j<N.length) (h:N[j].hi<=lo):o7 lo (N.drop j)=o7 lo (N.drop (j+1)):=by
 rw [List.drop_eq_getElem_cons hj];unfold o7;rw [List.dropWhile_cons,if_pos (by simpa using h)]
theorem apk {N:List Rn} {j:Nat} {lo:Int} (hj:j<N.length) (h:¬ N[j].hi<=lo):o7 lo (N.drop j)=N.drop j:=by
 rw [List.drop_eq_getElem_cons hj];unfold o7;rw [List.dropWhile_cons,if_neg (by simpa using h)]
theorem apl {N:List Rn} {lo:Int} {j:Nat} (h:N.length<=j):o7 lo (N.drop j)=N.drop j:=by
 rw [List.drop_eq_nil_of_le h];rfl
theorem agF {N:List Rn} {j:Nat} {lo hi:Int} (hj:j<N.length) (h:N[j].lo<hi):rG hi lo (N.drop j)=kP lo N[j].lo++rG hi N[j].hi (N.drop (j+1)):=by
 rw [List.drop_eq_getElem_cons hj,rG,if_pos h]
theorem agG {N:List Rn} {j:Nat} {lo hi:Int} (hj:j<N.length) (h:¬ N[j].lo<hi):rG hi lo (N.drop j)=kP lo hi:=by
 rw [List.drop_eq_getElem_cons hj];unfold rG;rw [if_neg h]
theorem apm {N:List Rn} {lo hi:Int} {j:Nat} (h:N.length<=j):rG hi lo (N.drop j)=kP lo hi:=by
 rw [List.drop_eq_nil_of_le h];rfl
theorem agH {wA wB:World} {B g4 g7 Ba Bb:Nat} {L M N:List Rn} {v v2 Va Vb:Value} {t:TypeId} {cs:Array Value} (hx:Dq wA B g4 L v) (hk:Bo wA wB g4 v.ownBlock) (hat:NewAt wA v v2) (h7:v.ownBlock≠some g7) (X7:aj wA g7 t cs) (hne:g7≠g4)
  (hm:Own wA Ba 121 2 iO Va M) (hmk:∀ q,Va.ownBlock=some q->q<B) (hn:Own wA Bb 121 2 iO Vb N) (hnk:∀ q,Vb.ownBlock=some q->q<B) :
  aj wB g7 t cs/\v2.ownBlock≠some g7/\Own wB Ba 121 2 iO Va M/\Own wB Bb 121 2 iO Vb N:=by
 have key:∀ {V:Value},(∀ q,V.ownBlock=some q->q<B)->∀ k,V.ownBlock=some k->v.ownBlock≠some k:=fun hV k e e2=>by
  have h1:=hV k e;have h2:=(hx.own.lt k e2).1;omega
 refine ⟨hk.keep X7 hne h7,fun e=>?_,hk.own hm (Own.dU hm hx.box (by decide)) (key hmk),hk.own hn (Own.dU hn hx.box (by decide)) (key hnk)⟩;rcases hat with h | ⟨k,h,h2⟩
 · exact h7 (h.symm.trans e)
 ·rw [h] at e;injection e with e;have:=X7.lt
  omega
theorem agI (lo hi:Int):(kP lo hi).length<=1:=by unfold kP;split<;>simp
theorem apn {M N:List Rn} {k j j':Nat} (hk:k<M.length) (h:o7 M[k].lo (N.drop j)=N.drop j'):pY (M.drop k) (N.drop j)=rG M[k].hi M[k].lo (N.drop j')++pY (M.drop (k+1)) (N.drop j'):=by
 rw [List.drop_eq_getElem_cons hk,pY,h]
theorem apo:∀ w,(isAgg 124).run Tryz.prog w=.ok false w:=fun _=>by kernel_rfl
set_option maxRecDepth 100000 in
set_option maxHeartbeats 8000000 in
theorem apq (va vb:Value) (a b:List Rn) (w:World) (ha:Jo w va a) (hb:Jo w vb b) (hla:a.length<=50000) (hlb:b.length<=50000):Calls Tryz.prog 204 #[va,vb] w (aav w (pY (sO a) (sO b))):=by
 have JK:=Lib.hid (fun W (hW:Below w.heap.size w W)=>afQ va a W (ha.mono hW) (by omega));have MS:=Lib.hid (fun W (hW:Below w.heap.size w W)=>afQ vb b W (hb.mono hW) (by omega));have nY:=Lib.hid (@an8);have hlm:=agE a;have hln:=agE b;obtain ⟨M,hM⟩:∃ M,sO a=M:=⟨_,rfl⟩;obtain ⟨N,hN⟩:∃ N,sO b=N:=⟨_,rfl⟩;rw [hM] at JK hlm ⊢;rw [hN] at MS hln ⊢;have hml:M.length<=50000:=by omega
 have hnl:N.length<=50000:=by omega
 clear ha hb hlm hln hM hN hla hlb;go_enter Tryz.func204,Tryz.ntmps204;go_upto_region 1 with fail;obtain ⟨W1,hW⟩:∃ W1:World,W1=w.alloc (.cells #[.slice none 0 0] 124):=⟨_,rfl⟩;have X1:aj W1 w.heap.size 124 #[.slice none 0 0]:=by rw [hW];exact aj.made rfl _ _
 have HB1:=Lib.hid (show Below w.heap.size w W1 by rw [hW];exact bA (bR w) _);rw [<- hW];clear hW;have fK:=Lib.hid X1;go_wp2_with fail;refine (MS.out _ HB1.out).mono ?_;rintro e w2 ⟨Ab,cb,rfl,hob,hb2⟩;have bU:=Lib.hid (fK.out.keep hb2);have HB2:=Lib.hid (bT HB1.out hb2);have HOb:=Lib.hid hob;clear hob hb2 fK X1 HB1 MS;go_wp2_with fail;refine (JK.out _ HB2.out).mono ?_;rintro e w3 ⟨Aa,ca,rfl,hoa,hb3⟩;have iR:=Lib.hid (bU.out.keep hb3);have HB3:=Lib.hid (bT HB2.out hb3);have EC:=Lib.hid hoa;have aaX:=Lib.hid (HOb.out.keep hb3);obtain ⟨g4,hg4⟩:∃ g4,w.heap.size=g4:=⟨_,rfl⟩;have hx3:=iR.out.lt;clear hoa hb3 bU HB2 HOb JK;go_upto_block 0 with fail;go_wp2_with fail;have hg0:g4<w3.heap.size:=by omega
 rw [hg4] at iR;have wJ:=Lib.hid (fun q hq=>(aaX.out.lt q hq).2);have EJ:=Lib.hid (fun q hq=>(EC.out.lt q hq).2);go_loopw [1,16] (fun s i wr=>∃ (k j:Nat) (L:List Rn) (v:Value),k<=M.length/\i=.int .i64 k/\j<=N.length/\Qv Ab N s j/\pY M N=L++pY (M.drop k) (N.drop j)/\L.length<=50002*k/\Dq wr w3.heap.size g4 L v/\Own wr w2.heap.size 121 2 iO (.slice Aa M.length ca) M/\Own wr W1.heap.size 121 2 iO (.slice Ab N.length cb) N/\Below w.heap.size w wr/\w3.heap.size<=wr.heap.size) (fun _ i _=>M.length-(intOf i).toNat)
 case atStart =>
  refine ⟨0,0,[],.slice none 0 0,Nat.zero_le _,rfl,Nat.zero_le _,?_,rfl,Nat.zero_le _,⟨iR.out,Own.nil _ _ _ _ _⟩,EC.out,aaX.out,HB3.out,Nat.le_refl _⟩;obtain ⟨A',c',he,h1,h2,-⟩:=aaX.out.sl;injection he with q1 q2 q3;subst q1 q3;unfold maxLen at h2;exact ⟨Ab,cb,rfl,by omega,by omega,fun g hg _=>by rw [hg,Nat.zero_mul]⟩
 case round =>
  obtain ⟨k,j,L,v,hk,rfl,hj,⟨A1,c1,rfl,hc1,hc2,hA1⟩,hdf,hLl,hbx,Qw,hon,hb,hz⟩:=hrel;obtain ⟨wo,rfl⟩:∃ wo:World,wo=wr:=⟨_,rfl⟩;have Qx:=Lib.hid hdf;have nG:=Lib.hid hbx;have GY:=Lib.hid Qw;have nZ:=Lib.hid hon;have Hb:=Lib.hid hb;have HA1:=Lib.hid hA1;clear hdf hbx Qw hon hb hA1;by_cases hlt:k<M.length
  ·obtain ⟨ga,zG,-,apr,-,hce⟩:=Own.Jp GY.out (by omega);subst zG;obtain ⟨c0,d0⟩:=hce k hlt;have HDs:=Lib.hid (fun j' (h:o7 M[k].lo (N.drop j)=N.drop j')=>apn hlt h);generalize M[k]=r at *;obtain ⟨zH,qR⟩:=r;simp only at c0 d0;have Qy:(k:Int)<M.length:=by omega
   have Qz:0<=(k:Int):=by omega
   clear hce;go_upto_block 2 with fail;obtain ⟨W5,hW⟩:∃ W:World,W=wo.alloc (.cells #[.int .i64 zH,.int .i64 qR] 121):=⟨_,rfl⟩;obtain ⟨g7,jD⟩:∃ g7,wo.heap.size=g7:=⟨_,rfl⟩;have X7:aj W5 g7 121 #[.int .i64 zH,.int .i64 qR]:=by rw [hW];exact aj.made jD.symm _ _
   have hA:Below wo.heap.size wo W5:=by rw [hW];exact bA (bR wo) _
   have agJ:=Lib.hid (nG.out.keep hA);have agK:=Lib.hid (GY.out.keep hA);have aaY:=Lib.hid (nZ.out.keep hA);have Hb5:=Lib.hid (bT Hb.out hA);have hv7:=Lib.hid (show v.ownBlock≠some g7 from fun e=>by have:=(nG.out.own.lt g7 e).2;omega);have kX:=Lib.hid X7;have Jj:wo.heap.size<=W5.heap.size:=hA.size;rw [<- hW]
   try rw [jD]
   clear hW hA c0 d0 apr nG GY nZ Hb X7;go_wp2_with fail;go_loopw [1] (fun s wr=>∃ j':Nat,j'<=N.length/\Qv Ab N s j'/\o7 zH (N.drop j)=o7 zH (N.drop j')/\Below W5.heap.size W5 wr) (fun s _=>sliceLen s)
   case atStart => exact ⟨j,hj,⟨A1,c1,rfl,hc1,hc2,HA1.out⟩,rfl,bR W5⟩
   case round =>
    clear HA1 hj;obtain ⟨j',hj',⟨A2,c2,rfl,hc3,hc4,hA2⟩,hdr,hb5⟩:=hrel;obtain ⟨wm,rfl⟩:∃ wm:World,wm=wr:=⟨_,rfl⟩;have zl:=Lib.hid hdr;have HA2:=Lib.hid hA2;have tZ:=Lib.hid hb5;clear hdr hA2 hb5;rcases Nat.lt_or_ge j' N.length with hjt | hjt;obtain ⟨gb,zI,-,agL,-,hce⟩:=Own.Jp (aaY.out.keep tZ.out) (by omega);have hA3:=HA2.out gb zI hjt;subst hA3;obtain ⟨c0,d0⟩:=hce j' hjt;have eP:=Lib.hid (fun h=>drop_step (lo:=zH) hjt h);have Dz:=Lib.hid (fun h=>apk (lo:=zH) hjt h);have hX:=kX.out.keep tZ.out;have hx7:=hX.lt;have Vh:0<N.length-j':=by omega
    generalize N[j']=n at *;obtain ⟨nlo,nhi⟩:=n;simp only at c0 d0;clear hce;obtain ⟨Vj,Vk,Vl,-,-⟩:=hX.bH;by_cases hle:nhi<=zH
    ·have HE:=Lib.hid (zl.out.trans (eP.out hle));have AX:=Lib.hid (Qv.next (A:=Ab) zI hjt hc3 hc4);clear eP Dz zl HDs;go_upto_region 6 with fail;refine cZ (Since wm) (.run 12 0 0 (.done)) (by kernel_rfl) (bD (bR _)) (by kernel_rfl) (by kernel_rfl) (Nat.le_of_ble_eq_true (by kernel_rfl)) ?_;intro dn QR au aC hS
     iterate 4
      apply bn;exact au;exact rfl;exact hS;exact rfl
      · intro _ hqc;go_simp;try rfl
      try simp only [pu]
     iterate 7
      apply eF;exact au;exact rfl;exact hS;iterate 4 exact rfl
      · intro _ hqc;go_simp;try rfl
      try simp only [pu]
     apply bn;exact au;exact rfl;exact hS;exact rfl
     · intro _ hqc;go_simp;try rfl
     try simp only [pu]
     refine bQ ?_;refine aC.down _ _ ?_;have hB:Below wm.heap.size wm wm.drew:=hS;clear hS aC au;go_wp2_with fail;go_roundw
     case rel => exact ⟨j'+1,by omega,AX.out,HE.out,bT tZ.out hB⟩
     case measure => simp [sliceLen];omega
    have HE:=Lib.hid (zl.out.trans (Dz.out hle));clear eP Dz zl zI;go_upto_region 6 with fail;refine cZ (Since wm) (.run 12 0 0 (.done)) (by kernel_rfl) (bD (bR _)) (by kernel_rfl) (by kernel_rfl) (Nat.le_of_ble_eq_true (by kernel_rfl)) ?_;intro dn QR au aC hS
    iterate 4
     apply bn;exact au;exact rfl;exact hS;exact rfl
     · intro _ hqc;go_simp;try rfl
     try simp only [pu]
    iterate 7
     apply eF;exact au;exact rfl;exact hS;iterate 4 exact rfl
     · intro _ hqc;go_simp;try rfl
     try simp only [pu]
    apply bn;exact au;exact rfl;exact hS;exact rfl
    · intro _ hqc;go_simp;try rfl
    try simp only [pu]
    refine bQ ?_;refine aC.down _ _ ?_;have hB:Below wm.heap.size wm wm.drew:=hS;clear hS aC au;go_wp2_with fail;obtain ⟨A2,hAg⟩:∃ A2:Option Addr,(some ⟨gb,j'*2,none⟩:Option Addr)=A2:=⟨_,rfl⟩;rw [hAg] at HA2 ⊢;clear hAg c0 d0 hX Vj Vk Vl;have QA:j'<=N.length:=hj'
    rotate_left
    have hX:=kX.out.keep tZ.out;have hx7:=hX.lt;have HE:=Lib.hid (show o7 zH (N.drop j)=N.drop j' from zl.out.trans (apl hjt));have Vh:¬ 0<N.length-j':=by omega
    have kk9:¬ j'<N.length:=by omega
    clear zl
    try clear Vj
    try clear Vk
    try clear Vl
    obtain ⟨Vj,Vk,Vl,-,-⟩:=hX.bH;go_upto_region 6 with fail;refine cZ (Since wm) (.run 12 0 0 (.done)) (by kernel_rfl) (bD (bR _)) (by kernel_rfl) (by kernel_rfl) (Nat.le_of_ble_eq_true (by kernel_rfl)) ?_;intro dn QR au aC hS
    iterate 4
     apply bn;exact au;exact rfl;exact hS;exact rfl
     · intro _ hqc;go_simp;try rfl
     try simp only [pu]
    iterate 7
     refine qB au rfl hS rfl rfl rfl rfl rfl ?_
     try simp only [pu]
    apply bn;exact au;exact rfl;exact hS;exact rfl
    · intro _ hqc;go_simp;try rfl
    try simp only [pu]
    refine bQ ?_;refine aC.down _ _ ?_;have hB:Below wm.heap.size wm wm.drew:=hS;clear hS aC au;go_wp2_with fail;clear hX Vj Vk Vl;have QA:j'<=N.length:=hj'
    all_goals
     have agM:=Lib.hid ((agJ.out.keep tZ.out).keep hB);have agN:=Lib.hid ((agK.out.keep tZ.out).keep hB);have agO:=Lib.hid ((aaY.out.keep tZ.out).keep hB);have Hb6:=Lib.hid (bT (bT Hb5.out tZ.out) hB);have aaZ:=Lib.hid ((kX.out.keep tZ.out).keep hB);have UG:w3.heap.size<=wm.drew.heap.size:=by
      have h1:=hB.size;have h2:=tZ.out.size;omega
     have h76:=aaZ.out.lt;have HCu:=Lib.hid (HDs.out j' HE.out);have agP:g7≠g4:=by omega
     clear HE HDs agJ agK aaY Hb5 kX hB tZ Vh hjt hx7;generalize wm.drew=wn at *;go_loopw [8,9] (fun z i wr=>∃ (n:Nat) (lo:Int) (acc:List Rn) (v2:Value),j'+n<=N.length/\i=.int .i64 n/\z=.int .i64 lo/\rG qR zH (N.drop j')=acc++rG qR lo (N.drop (j'+n))/\acc.length<=n/\Dq wr w3.heap.size g4 (L++acc) v2/\v2.ownBlock≠some g7/\aj wr g7 121 #[.int .i64 zH,.int .i64 qR]/\Own wr w2.heap.size 121 2 iO (.slice (some ⟨ga,0,none⟩) M.length ca) M/\Own wr W1.heap.size 121 2 iO (.slice Ab N.length cb) N/\Below w.heap.size w wr/\wn.heap.size<=wr.heap.size) (fun _ i _=>N.length+1-(intOf i).toNat)
     case atStart => exact ⟨0,zH,[],v,QA,rfl,rfl,rfl,Nat.zero_le _,by rw [List.append_nil];exact agM.out,hv7.out,aaZ.out,agN.out,agO.out,Hb6.out,Nat.le_refl _⟩
     case round =>
      clear agM agN agO Hb6 aaZ hv7;obtain ⟨n,lo,acc,v2,hn,rfl,rfl,hcu,hal,hbx,h27,X7,Qw,hon,hb,hz⟩:=hrel;obtain ⟨wp,rfl⟩:∃ wp:World,wp=wr:=⟨_,rfl⟩;have Vm:=Lib.hid hcu;have nG:=Lib.hid hbx;have H27:=Lib.hid h27;have kX:=Lib.hid X7;have GY:=Lib.hid Qw;have nZ:=Lib.hid hon;have Hb:=Lib.hid hb;have hzp:w3.heap.size<=wp.heap.size:=by omega
      have hll:(L++acc).length<=2600000000:=by
       rw [List.length_append]
       have:50002*k<=50002*50000:=Nat.mul_le_mul_left _ (by omega)
       omega
      clear hcu hbx h27 Qw hon hb;rcases (show ((∃ hnt:j'+n<N.length,N[j'+n].lo<qR)\/∃ hnt:j'+n<N.length,¬ N[j'+n].lo<qR)\/N.length<=j'+n from by
       by_cases h1:j'+n<N.length
       ·by_cases h2:N[j'+n].lo<qR
        · exact .inl (.inl ⟨h1,h2⟩)
        · exact .inl (.inr ⟨h1,h2⟩)
       · exact .inr (by omega)) with (⟨hnt,hle⟩ | ⟨hnt,hle⟩) | hnt
      · first
      | exfalso;omega
      | skip
        obtain ⟨gb,zI,-,agL,-,hce⟩:=Own.Jp nZ.out (by omega);have hA3:=HA2.out gb zI (by omega);subst hA3;have JL:=Lib.hid zI;clear zI;obtain ⟨c0,d0⟩:=hce (j'+n) hnt;have eP:=Lib.hid (fun h=>agF (lo:=lo) (hi:=qR) hnt h);have Dz:=Lib.hid (fun h=>agG (lo:=lo) (hi:=qR) hnt h);have ke:(j'+n)*2=j'*2+n*2:=by omega
        rw [ke] at c0 d0;have kk5:(n:Int)<(N.length-j':Nat):=by omega
        have kk6:n<N.length-j':=by omega
        have kk7:0<=(n:Int):=by omega
        obtain ⟨m,hm⟩:∃ m,N[j'+n]=m:=⟨_,rfl⟩;rw [hm] at c0 d0 eP Dz hle;have Eu:=Lib.hid hm;clear hm;obtain ⟨nlo,nhi⟩:=m;simp only at c0 d0 hle;clear hce ke;obtain ⟨jW,jX,rX,-,-⟩:=X7.bH;have HE:=Lib.hid (eP.out hle);clear eP Dz;go_upto_region 10 with fail;refine cZ (Since wp) (.run 14 0 0 (.done)) (by kernel_rfl) (bD (bR _)) (by kernel_rfl) (by kernel_rfl) (Nat.le_of_ble_eq_true (by kernel_rfl)) ?_;intro dn QR au aC hS
        iterate 5
         apply bn;exact au;exact rfl;exact hS;exact rfl
         · intro _ hqc;go_simp;try rfl
         try simp only [pu]
        iterate 8
         apply eF;exact au;exact rfl;exact hS;iterate 4 exact rfl
         · intro _ hqc;go_simp;try rfl
         try simp only [pu]
        apply bn;exact au;exact rfl;exact hS;exact rfl
        · intro _ hqc;go_simp;try rfl
        try simp only [pu]
        refine bQ ?_;refine aC.down _ _ ?_;have hB:Below wp.heap.size wp wp.drew:=hS;clear hS aC au;go_wp2_with fail;have hx6:=nG.out.keep hB;have QB:=GY.out.keep hB;have QC:=nZ.out.keep hB;have QD:=kX.out.keep hB;have hb6:=bT Hb.out hB;have aps:=hB.size;refine (nY.out lo nlo w3.heap.size g4 (L++acc) v2 _ hx6 (by omega) (by omega)).mono ?_;rintro e w7 ⟨rfl,⟨v7,hx7,BG⟩,JM,hb7⟩;obtain ⟨q1,q2,q3,q4⟩:=agH hx6 JM BG H27.out QD agP QB EJ.out QC wJ.out;have Hx7:=Lib.hid hx7;have apt:=Lib.hid q1;have HV7:=Lib.hid q2;have aa0:=Lib.hid q3;have Vo:=Lib.hid q4;have Hb7:=Lib.hid (hb7 w hb6 (by omega) (by omega));have hz7:=JM.size;clear hx6 QB QC QD hb6 hx7 BG JM hb7 q2 q3 q4 c0 d0 X7 jW jX rX hB nG GY nZ kX Hb;obtain ⟨gb',MV,-,au6,-,agQ⟩:=Own.Jp Vo.out (by omega);rw [JL.out] at MV;injection MV with MV;injection MV with MV _ _;subst MV;obtain ⟨-,d1⟩:=agQ (j'+n) hnt;rw [Eu.out,show (j'+n)*2=j'*2+n*2 by omega] at d1;simp only at d1;have HC7:=Lib.hid (show rG qR zH (N.drop j')=(acc++kP lo nlo)++rG qR nhi (N.drop (j'+(n+1))) by rw [Vm.out,HE.out,List.append_assoc];rfl);have hl7:=agI lo nlo;clear agQ HE Vm JL;go_wp2_with fail;go_roundw
        case rel => exact ⟨n+1,nhi,acc++kP lo nlo,v7,by omega,by go_num,rfl,HC7.out,by rw [List.length_append];omega,by rw [<- List.append_assoc];exact Hx7.out,HV7.out,apt.out,aa0.out,Vo.out,Hb7.out,by omega⟩
        case measure => simp [intOf];omega
      case' inl.inr =>
       first
      | exfalso;omega
      | skip
        obtain ⟨gb,zI,-,agL,-,hce⟩:=Own.Jp nZ.out (by omega);have hA3:=HA2.out gb zI (by omega);subst hA3;obtain ⟨c0,d0⟩:=hce (j'+n) hnt;have eP:=Lib.hid (fun h=>agF (lo:=lo) (hi:=qR) hnt h);have Dz:=Lib.hid (fun h=>agG (lo:=lo) (hi:=qR) hnt h);have ke:(j'+n)*2=j'*2+n*2:=by omega
        rw [ke] at c0 d0;have kk5:(n:Int)<(N.length-j':Nat):=by omega
        have kk6:n<N.length-j':=by omega
        have kk7:0<=(n:Int):=by omega
        obtain ⟨m,hm⟩:∃ m,N[j'+n]=m:=⟨_,rfl⟩;rw [hm] at c0 d0 eP Dz hle;have Eu:=Lib.hid hm;clear hm;obtain ⟨nlo,nhi⟩:=m;simp only at c0 d0 hle;clear hce ke
        try clear jW
        try clear jX
        try clear rX
        obtain ⟨jW,jX,rX,-,-⟩:=X7.bH;have HE:=Lib.hid (Vm.out.trans (by rw [Dz.out hle]));clear eP Dz Eu zI;go_upto_region 10 with fail;refine cZ (Since wp) (.run 14 0 0 (.done)) (by kernel_rfl) (bD (bR _)) (by kernel_rfl) (by kernel_rfl) (Nat.le_of_ble_eq_true (by kernel_rfl)) ?_;intro dn QR au aC hS
        iterate 5
         apply bn;exact au;exact rfl;exact hS;exact rfl
         · intro _ hqc;go_simp;try rfl
         try simp only [pu]
        iterate 8
         apply eF;exact au;exact rfl;exact hS;iterate 4 exact rfl
         · intro _ hqc;go_simp;try rfl
         try simp only [pu]
        apply bn;exact au;exact rfl;exact hS;exact rfl
        · intro _ hqc;go_simp;try rfl
        try simp only [pu]
        refine bQ ?_;refine aC.down _ _ ?_;have hB:Below wp.heap.size wp wp.drew:=hS;clear hS aC au;go_wp2_with fail
      rotate_left
      have HE:=Lib.hid (Vm.out.trans (by rw [apm (lo:=lo) (hi:=qR) hnt]));have kk6:¬ n<N.length-j':=by omega
      have kk8:¬ (n:Int)<(N.length-j':Nat):=by omega
      try clear jW
      try clear jX
      try clear rX
      obtain ⟨jW,jX,rX,-,-⟩:=X7.bH;go_upto_region 10 with fail;refine cZ (Since wp) (.run 14 0 0 (.done)) (by kernel_rfl) (bD (bR _)) (by kernel_rfl) (by kernel_rfl) (Nat.le_of_ble_eq_true (by kernel_rfl)) ?_;intro dn QR au aC hS
      iterate 5
       apply bn;exact au;exact rfl;exact hS;exact rfl
       · intro _ hqc;go_simp;try rfl
       try simp only [pu]
      iterate 8
       refine qB au rfl hS rfl rfl rfl rfl rfl ?_
       try simp only [pu]
      apply bn;exact au;exact rfl;exact hS;exact rfl
      · intro _ hqc;go_simp;try rfl
      try simp only [pu]
      refine bQ ?_;refine aC.down _ _ ?_;have hB:Below wp.heap.size wp wp.drew:=hS;clear hS aC au;go_wp2_with fail
      all_goals
       have hx6:=nG.out.keep hB;have QB:=GY.out.keep hB;have QC:=nZ.out.keep hB;have QD:=kX.out.keep hB;have hb6:=bT Hb.out hB;have aps:=hB.size;refine (nY.out lo qR w3.heap.size g4 (L++acc) v2 _ hx6 (by omega) (by omega)).mono ?_;rintro e w7 ⟨rfl,⟨v7,hx7,BG⟩,JM,hb7⟩;obtain ⟨-,-,q3,q4⟩:=agH hx6 JM BG H27.out QD agP QB EJ.out QC wJ.out;have Hx7:=Lib.hid hx7;have aa0:=Lib.hid q3;have Vo:=Lib.hid q4;have Hb7:=Lib.hid (hb7 w hb6 (by omega) (by omega));have hz7:=JM.size;have apu:=Lib.hid (show pY M N=(L++acc++kP lo qR)++pY (M.drop (k+1)) (N.drop j') by
        have e1:=HCu.out
        try simp only at e1
        rw [Qx.out,e1,HE.out];simp only [List.append_assoc])
       have hl7:=agI lo qR;clear hx6 QB QC QD hb6 hx7 BG JM hb7 q3 q4 X7 hB nG GY nZ kX Hb Qx HCu HE;go_wp2_with fail;go_roundw
       case rel => exact ⟨k+1,j',L++acc++kP lo qR,v7,by omega,by go_num,QA,⟨_,c2,rfl,hc3,hc4,HA2.out⟩,apu.out,by rw [List.length_append,List.length_append];omega,Hx7.out,aa0.out,Vo.out,Hb7.out,by omega⟩
       case measure => simp [intOf];omega
  ·obtain rfl:k=M.length:=by omega
   have hd:=Qx.out;rw [List.drop_length] at hd;have he:pY M N=L:=by rw [hd];simp [pY]
   clear hd;obtain ⟨A,c,rfl,-⟩:=Own.sl nG.out.own;have X4:=nG.out.box;have HE:=Lib.hid he;clear he;obtain ⟨dF,dG,fH⟩:=X4.ig;go_wp2_with fail;refine aaI (g:=g4) (v:=.slice A L.length c) rfl apo rfl rfl (aj.Sz X4) ?_;rw [HE.out];refine ⟨A,c,rfl,?_,bS (p:=⟨g4,0,none⟩) Hb.out (show w.heap.size<=g4 by omega) _⟩;have ho:=nG.out.own.far (p:=⟨g4,0,none⟩) (Own.dU nG.out.own nG.out.box (by decide)) (.slice A L.length c);exact ho.jG (by omega)
def qU (B g:Nat) (w0:World):World->Prop:=fun w=>Below B w0 w/\w.heap[g]? = w0.heap[g]?
section
variable {B g:Nat} {W w w':World}
theorem agR (h:qU B g W w):(∀ b o,b<B->w.cell? ⟨b,o,none⟩=W.cell? ⟨b,o,none⟩)/\(∀ o,w.cell? ⟨g,o,none⟩=W.cell? ⟨g,o,none⟩) :=
 ⟨(Om h.1).1,fun o=>by simp only [World.cell?,h.2]⟩
theorem kR (W:World):qU B g W W.drew:=⟨Below.drew (Below.refl _ _),rfl⟩
theorem kA (h:qU B g W w) (hB:B<=W.heap.size) (hg:g<W.heap.size) (o:Obj):qU B g W (w.alloc o) :=
 ⟨h.1.alloc (Nat.le_trans hB h.1.size) o,by rw [Below.heap_alloc w o g (Nat.lt_of_lt_of_le hg h.1.size)];exact h.2⟩
theorem kC (h:qU B g W w) (k:Below w.heap.size w w') (hB:B<=W.heap.size) (hg:g<W.heap.size):qU B g W w' :=
 ⟨h.1.trans (k.mono (Nat.le_trans hB h.1.size)),(k.block g (Nat.lt_of_lt_of_le hg h.1.size)).trans h.2⟩
theorem kG (h:qU B g W w) {row:Option Nat} (k:w.grownBy w' row) (hr:∀ q,row=some q->B<=q) (hn:some g≠row) (hB:B<=W.heap.size) (hg:g<W.heap.size):qU B g W w' :=
 ⟨h.1.grown k (Nat.le_trans hB h.1.size) hr,(k.block g (Nat.lt_of_lt_of_le hg h.1.size) hn).trans h.2⟩
theorem kS (h:qU B g W w) {p:Addr} (hB:B<=p.block) (hn:g≠p.block) (u:Value):qU B g W (w.setCell p u) :=
 ⟨h.1.setCell hB u,(Below.heap_setCell w p u g hn).trans h.2⟩
end
section
variable {P:Program} {ops:Array Oper} {Q:Exit->Act->World->Prop}
theorem MW {l:List Oper} {i m:Nat} {oi:Oper} {r:jO} {a:Act} {w W:World} {B g:Nat} {v:Value} (H:PLift (ops=l.toArray)) (hi:l[i]? = some oi) (hS:qU B g W w) (hg:oi.guard=none)
  (hy:∀ wq:World,(∀ b o,b<B->wq.cell? ⟨b,o,none⟩=W.cell? ⟨b,o,none⟩)->(∀ o,wq.cell? ⟨g,o,none⟩=W.cell? ⟨g,o,none⟩)->(execOp a.eval oi).run P wq=.ok (.value v) wq) (h:lW P ops (NoPanic Q) (qU B g W) r (a.put oi.dst v) w):lW P ops (NoPanic Q) (qU B g W) (.take i m r) a w :=
 SI H hi hS hg (fun wq hq=>hy wq (agR hq).1 (agR hq).2) h
end
def apv (w:World) (l:List Nd) (e:Ending) (w':World):Prop :=
 ∃ A c,e=.returned (.slice A l.length c)/\Below w.heap.size w w'/\Own w' w.heap.size 45 3 vP (.slice A l.length c) l
set_option maxHeartbeats 400000 in
theorem apw (v:Value) (l:List Nd) (w:World) (h:BO w v l) (hl:l.length<=1048576) :
  Calls Tryz.prog 113 #[v] w (apv w l):=by
 have H:=h;obtain ⟨A,c,rfl,hn,hc,hR⟩:=h;have hE:=Lib.run_eql_slice_nil (P:=Tryz.prog) (t:=22) (e:=45);rcases A with _ | ad
 ·have hl0:l=[]:=by
   rcases l with _ | ⟨a,l⟩
   · rfl
   ·obtain ⟨b,o,e,_⟩:=hR (by simp [vP])
    cases e
  subst hl0;clear hR H;simp only [List.length_nil] at hn ⊢;have hE1:∀ W:World,(binOp .eql 22 (.slice none 0 c) (.slice none 0 0)).run Tryz.prog W=.ok (.bool true) W:=fun W=>Lib.run_eql_slice_nil W _ 45 none _ c 0 0 Tryz.underlying22;clear hE;go_enter Tryz.func113,Tryz.ntmps113;go_wp2;go_ret;exact ⟨_,_,rfl,bR w,Own.nil _ _ _ _ _⟩
 ·have hE1:∀ W:World,(binOp .eql 22 (.slice (some ad) l.length c) (.slice none 0 0)).run Tryz.prog W=.ok (.bool false) W:=fun W=>Lib.run_eql_slice_nil W _ 45 (some ad) _ c 0 0 Tryz.underlying22;clear hE hR;have HH:=Lib.hid H;clear H;go_enter Tryz.func113,Tryz.ntmps113;go_wp2_with
   (at_builtin
    refine lq _ rfl (.tmp 5) (.tmp 6) _ rfl (base:=w.heap.size) acK Yh acL rfl (Own.lit _ _ _ _ vP [] _ 0 _ rfl rfl (Nat.le_refl _) (fQ (by omega)) rfl rfl) rfl (HH.out.mono (bA (bR w) _)) (by simp only [List.length_nil];omega) (by simp only [List.length_nil];omega) (by simp) ?_;intro v1 w1 hown hg hat)
  go_ret;obtain ⟨A1,c1,rfl,-⟩:=Own.sl hown;simp only [List.nil_append] at hown ⊢;exact ⟨A1,c1,rfl,bG (bA (bR w) _) hg (fun k hk=>by have:w.heap.size=k:=Option.some.inj hk;omega),hown⟩
def wU (a:Ar):Ar:=⟨a.id,a.fr,a.dst,a.via,0,0⟩
def dK (p:Pl):Pl:=⟨p.nodes,p.ah.map wU,[]⟩
structure jv (w:World) (B:Nat) (vn va vf:Value) (p:Pl) (bl:List (Ar×SV)):Prop where
 uM:Own w B 45 3 vP vn p.nodes
 jq:Own w B 50 6 lI va bl
 nR:∀ x∈bl,Own w B 39 2 jm (aJ x.2) x.1.via
 eq:bl.map (·.1)=p.ah
 pK:Own w B 3 1 eU vf p.faces
theorem jv.keep {w w':World} {B:Nat} {vn va vf:Value} {p:Pl} {bl:List (Ar×SV)} (h:jv w B vn va vf p bl) (hb:Below w.heap.size w w'):jv w' B vn va vf p bl :=
 ⟨h.uM.keep hb,h.jq.keep hb,fun x hx=>(h.nR x hx).keep hb,h.eq,h.pK.keep hb⟩
theorem jv.plv {w:World} {B:Nat} {vn va vf:Value} {p:Pl} {bl:List (Ar×SV)} (h:jv w B vn va vf p bl):dS w (.agg #[vn,va,vf]) p:=by
 refine ⟨vn,va,vf,bl.map Jm,rfl,?_,h.uM.sl,⟨?_,fun k hk=>?_⟩,h.pK.sl⟩
 · rw [List.map_map,<- h.eq];rfl
 ·have:=h.jq.sl
  rw [List.length_map,UJ];exact this
 ·have hk':k<bl.length:=by simpa using hk
  rw [List.getElem_map];exact (h.nR _ (List.getElem_mem hk')).sl
def apx (w:World) (p:Pl) (e:Ending) (w':World):Prop :=
 ∃ An cn Aa ca bl,e=.returned (.agg #[.slice An p.nodes.length cn,.slice Aa p.ah.length ca,.slice none 0 0])/\Below w.heap.size w w'/\jv w' w.heap.size (.slice An p.nodes.length cn) (.slice Aa p.ah.length ca) (.slice none 0 0) p bl
theorem jv.more {w w1:World} {B:Nat} {vn va va' vf:Value} {p:Pl} {bl:List (Ar×SV)} {x:Ar×SV} (h:jv w B vn va vf p bl) (ho:Own w1 B 50 6 lI va' (bl++[x])) (hg:w.grownBy w1 va.ownBlock) (hx:Own w B 39 2 jm (aJ x.2) x.1.via) :
  jv w1 B vn va' vf ⟨p.nodes,p.ah++[x.1],p.faces⟩ (bl++[x]) :=
 ⟨Own.grown h.uM hg (Own.apart h.uM h.jq (by decide)),ho,fun y hy=>by
  rcases List.mem_append.1 hy with hy | hy
  · exact Own.grown (h.nR y hy) hg (Own.apart (h.nR y hy) h.jq (by decide))
  ·rw [List.mem_singleton] at hy;subst hy;exact Own.grown hx hg (Own.apart hx h.jq (by decide)),by rw [List.map_append,h.eq];rfl,Own.grown h.pK hg (Own.apart h.pK h.jq (by decide))⟩
theorem jv.far {w:World} {B:Nat} {vn va vf:Value} {p:Pl} {bl:List (Ar×SV)} (h:jv w B vn va vf p bl) {g:Nat} {t:TypeId} {cs:Array Value} (hb:aj w g t cs) (h1:45≠t) (h2:50≠t) (h3:39≠t) (h4:3≠t) (j:Nat) (u:Value):jv (w.setCell ⟨g,j,none⟩ u) B vn va vf p bl :=
 ⟨Own.far h.uM (Own.dU h.uM hb h1) u,Own.far h.jq (Own.dU h.jq hb h2) u,fun x hx=>Own.far (h.nR x hx) (Own.dU (h.nR x hx) hb h3) u,h.eq,Own.far h.pK (Own.dU h.pK hb h4) u⟩
theorem Row.at6 {w:World} {A:Option Addr} {l:List (Ar×SV)} (h:Row w A (l.flatMap lI)) {k:Nat} (hk:k<l.length) :
  ∃ b o,A=some ⟨b,o,none⟩/\b<w.heap.size/\w.cell? ⟨b,o+k*6,none⟩=some (.int .i64 l[k].1.id)/\w.cell? ⟨b,o+k*6+1,none⟩=some (.int .i64 l[k].1.fr)/\w.cell? ⟨b,o+k*6+2,none⟩=some (.int .i64 l[k].1.dst) /\
   w.cell? ⟨b,o+k*6+3,none⟩=some (.slice l[k].2.a l[k].2.n l[k].2.c)/\w.cell? ⟨b,o+k*6+4,none⟩=some (.int .i64 l[k].1.left)/\w.cell? ⟨b,o+k*6+5,none⟩=some (.int .i64 l[k].1.right):=by
 obtain ⟨b,o,hA,hb,hc⟩:=h.at_ (n:=6) (fun _=>rfl) hk (by omega);exact ⟨b,o,hA,hb,hc 0 _ rfl,hc 1 _ rfl,hc 2 _ rfl,hc 3 _ rfl,hc 4 _ rfl,hc 5 _ rfl⟩
set_option maxRecDepth 100000 in
set_option maxHeartbeats 8000000 in
theorem apy (v:Value) (p:Pl) (w:World) (h:dS w v p) (hn:p.nodes.length<=100000) (ha:p.ah.length<=100000) (hvl:∀ a∈p.ah,a.via.length<=100000):Calls Tryz.prog 56 #[v] w (apx w (dK p)):=by
 obtain ⟨_,_,_,al,rfl,hpa,hN,⟨⟨Aa,ca,rfl,ha1,ha2,jy⟩,hV⟩,⟨Af,cf,rfl,-⟩⟩:=h;obtain ⟨bl,rfl⟩:=hV.sv;have hres:p.ah=bl.map (·.1):=by rw [hpa,List.map_map];rfl
 have hbl:bl.length<=100000:=by rw [hres,List.length_map] at ha;exact ha
 rw [List.length_map] at ha1;rw [UJ] at jy;have QE:=Lib.hid (show ∀ k (hk:k<bl.length),gW w (.slice bl[k].2.a bl[k].2.n bl[k].2.c) bl[k].1.via from fun k hk=>by
  have:=hV k (by simpa using hk)
  simpa [Jm] using this)
 have HVl:=Lib.hid (show ∀ k (hk:k<bl.length),bl[k].1.via.length<=100000 from fun k hk=>hvl _ (by rw [hres];exact List.mem_map_of_mem (List.getElem_mem hk)));have lK:=Lib.hid (show Row w Aa (bl.flatMap lI) from jy);have HCn:=Lib.hid (fun W (hW:Below w.heap.size w W)=>apw _ p.nodes W (hN.mono hW) (by omega));have Vp:=Lib.hid (fun u l W (hu:gW W u l) (hl:l.length<=1048576)=>acS u l W hu hl);obtain ⟨An,cn,rfl,hn1,hn2,-⟩:=hN;have MX:=Lib.hid hres;rw [List.length_map] at *;unfold maxLen at ha2 hn2;clear hV jy hpa hres hvl;generalize p.faces.length=nf at *;go_enter Tryz.func56,Tryz.ntmps56;go_upto_region 1 with fail;obtain ⟨g2,hg2⟩:∃ g2,w.heap.size+1=g2:=⟨_,rfl⟩;obtain ⟨W1,hW⟩:∃ W:World,W=(w.alloc (.cells #[.slice An p.nodes.length cn,.slice Aa bl.length ca,.slice Af nf cf] 26)).alloc (.cells #[.slice none 0 0,.slice none 0 0,.slice none 0 0] 26):=⟨_,rfl⟩;have X1:aj W1 w.heap.size 26 #[.slice An p.nodes.length cn,.slice Aa bl.length ca,.slice Af nf cf]:=by rw [hW];exact (aj.made rfl _ _).alloc _
 have X2:aj W1 g2 26 #[.slice none 0 0,.slice none 0 0,.slice none 0 0]:=by rw [hW];exact aj.made (by rw [<- hg2];simp) _ _
 have HB1:=Lib.hid (show Below w.heap.size w W1 by rw [hW];exact bA (bA (bR w) _) _);rw [<- hW]
 try rw [hg2]
 have fK:=Lib.hid X1;have bU:=Lib.hid X2;have n12:¬ g2=w.heap.size:=by omega
 have hgw:w.heap.size<=g2:=by omega
 clear hW hg2;obtain ⟨aO,aP,aS,aT,-,-,-⟩:=X1.aY;obtain ⟨cu,cO,dH,dZ,CO,IJ,MZ⟩:=X2.aY;go_wp2_with fail;refine (HCn.out _ HB1.out).mono ?_;rintro e w2 ⟨nH,nI,rfl,hb2,hon⟩;have HB2:=Lib.hid (bT HB1.out hb2);have iR:=Lib.hid (fK.out.keep hb2);have dI:=Lib.hid (bU.out.keep hb2);have QF:=hon.jG (b':=w.heap.size) HB1.out.size;have Bh:=Lib.hid (show jv w2 w.heap.size (.slice nH p.nodes.length nI) (.slice none 0 0) (.slice none 0 0) ⟨p.nodes,[],[]⟩ [] from ⟨QF,Own.nil _ _ _ _ _,(fun x hx=>by cases hx),rfl,Own.nil _ _ _ _ _⟩);clear hb2 hon QF HCn X1 aO aP aS aT X2 cu cO dH dZ CO IJ MZ;have X3:=iR.out;have X4:=dI.out;obtain ⟨lM,lN,nN,Na,-,-,-⟩:=X3.aY;obtain ⟨dF,dG,fG,jP,fH,jw,lX⟩:=X4.aY;go_wp2_with fail;go_loopw [12] (fun i wr=>∃ (k:Nat) (ol:List (Ar×SV)) (A:Option Addr) (c:Nat),k<=bl.length/\i=.int .i64 k/\ol.length=k/\jv wr w.heap.size (.slice nH p.nodes.length nI) (.slice A k c) (.slice none 0 0) ⟨p.nodes,(bl.take k).map (fun x=>wU x.1),[]⟩ ol/\aj wr g2 26 #[.slice nH p.nodes.length nI,.slice A k c,.slice none 0 0]/\Below w.heap.size w wr) (fun i _=>bl.length-(intOf i).toNat)
 case atStart => exact ⟨0,[],none,0,Nat.zero_le _,rfl,rfl,Bh.out.far dI.out (by decide) (by decide) (by decide) (by decide) 0 _,by simpa using dI.out.fC 0 (.slice nH p.nodes.length nI),bS HB2.out hgw _⟩
 case round =>
  clear Bh dI HB2 X3 lM lN nN Na X4 dF dG fG jP fH jw lX;obtain ⟨k,ol,A,c,hk,rfl,hol,hpo,X4,hb⟩:=hrel;obtain ⟨wo,rfl⟩:∃ wo:World,wo=wr:=⟨_,rfl⟩;have HP:=Lib.hid hpo;have dI:=Lib.hid X4;have HB:=Lib.hid hb;have Qg:=Lib.hid hol;have hl4:=X4.lt;clear hpo hb;by_cases hlt:k<bl.length
  ·obtain ⟨b,o,zI,hlb,c0,c1,c2,c3,c4,c5⟩:=(Row.mono lK.out HB.out).at6 hlt;subst zI;have hv:=QE.out k hlt;have hvl:=HVl.out k hlt;have htk:bl.take (k+1)=bl.take k++[bl[k]]:=List.take_succ_eq_append_getElem hlt;generalize bl[k]=x at *;obtain ⟨⟨id,fr,dst,via,lf,rt⟩,⟨va,vn,vc⟩⟩:=x;simp only at c0 c1 c2 c3 c4 c5 hv hvl htk;have hv0:=hv;obtain ⟨Av,cv,hev,-,-,-⟩:=hv;injection hev with y1 y2 y3;subst y1 y2 y3;have Nb:=Lib.hid (fun W (hW:Below w.heap.size w W)=>Vp.out (.slice va via.length vc) via W (hv0.mono hW) (by omega));clear hv0;have mD:=Lib.hid htk;clear htk;go_upto_region 5 with fail;obtain ⟨W2,hW⟩:∃ W:World,W=wo.alloc (.cells #[.int .i64 id,.int .i64 fr,.int .i64 dst,.slice va via.length vc,.int .i64 lf,.int .i64 rt] 50):=⟨_,rfl⟩;have hA:Below wo.heap.size wo W2:=by rw [hW];exact bA (bR wo) _
   obtain ⟨g4,hg4⟩:∃ g4,wo.heap.size=g4:=⟨_,rfl⟩;have X6:aj W2 g4 50 #[.int .i64 id,.int .i64 fr,.int .i64 dst,.slice va via.length vc,.int .i64 lf,.int .i64 rt]:=by rw [hW];exact aj.made hg4.symm _ _
   have HB2:=Lib.hid (bT HB.out hA);have HP2:=Lib.hid (HP.out.keep hA);have bV:=Lib.hid (dI.out.keep hA);have n4:some g4≠(Value.slice A k c).ownBlock:=fun e=>by have:=(HP.out.jq.lt _ e.symm).2;omega
   have n42:¬ g4=g2:=by omega
   have hz2:=HB2.out.size;have au7:=hA.size;rw [<- hW]
   try rw [hg4]
   clear hW hA c0 c1 c2 c3 c4 c5 hlb HP HB dI;have X5:=bV.out;clear X4;have fD:=Lib.hid (fun (y:Ar×SV)=>show (ol++[y]).length=k+1 from by rw [List.length_append,Qg.out];rfl);have au8:ol.length<=100000:=by omega
   have aa1:w.heap.size<=g2:=hgw;have HXt:=Lib.hid (fun (A7:Option Addr) (c7:Nat)=>show (bl.take (k+1)).map (fun x=>wU x.1)=(bl.take k).map (fun x=>wU x.1)++[(⟨id,fr,dst,via,0,0⟩:Ar)] from by rw [mD.out,List.map_append];rfl);obtain ⟨jd,jf,jg,pW,qX,CB,CG,-,-,-,-,-,-⟩:=X6.kZ;have hl5:=X5.lt;have n5:=Own.dU HP2.out.jq bV.out (by decide);refine cZ (qU (w.heap.size) (g4) W2) (.take 0 1 (.run 8 2 1 (.two 1 1023 (.call 10 2047 (.take 11 4095 (.call 12 8191 (.call 13 16383 (.take 14 32767 (.call 15 65535 (.done))))))) 10 2045 (.take 11 4093 (.two 1 4095 (.call 12 8191 (.call 13 16383 (.take 14 32767 (.call 15 65535 (.done))))) 12 8189 (.call 1 8191 (.call 13 16383 (.take 14 32767 (.call 15 65535 (.done)))))))))) (by kernel_rfl) (kR _) (by kernel_rfl) (by kernel_rfl) (Nat.le_of_ble_eq_true (by kernel_rfl)) ?_;intro dn QR au aC hS;replace X5:=X5.drew
   iterate 9
    apply MW;exact au;exact rfl;exact hS;exact rfl
    · intro _ hqc QG;go_simp;try rfl
    try simp only [pu]
   refine xG (i:=1) (j:=10) (aH au rfl) (aH au rfl) (fun K hK=>?_) (fun K hK=>?_)
   ·have aA:=Lib.hid hS;clear hS;refine aN (aV rfl) ?_;obtain ⟨z1,z2,z3,z4,-⟩:=aj.aY X5;go_simp;refine hK.out _ _ aA.out (fun hS=>?_);clear hK K aA
    try simp only [pu]
    refine aW (i:=10) (aH au rfl) (fun K hK=>?_);have aA:=Lib.hid hS;clear hS;refine aN (aV rfl) ?_;go_simp;refine (Nb.out _ (bT HB2.out (bD (bR W2)))).mono ?_;rintro e bC ⟨A9,c9,rfl,bM,Vq⟩;have hS:qU (w.heap.size) (g4) W2 bC:=kC aA.out bM (by omega) (by omega);clear aA
    try replace XL:=XL.keep bM
    try replace X5:=X5.keep bM
    refine hK.out _ _ hS (fun _=>?_);clear hK K
    try simp only [pu]
    apply MW;exact au;exact rfl;exact hS;exact rfl
    · intro _ hqc QG;go_simp;try rfl
    try simp only [pu]
    refine aW (i:=12) (aH au rfl) (fun K hK=>?_);have aA:=Lib.hid hS;clear hS;refine aN (aV rfl) ?_;go_simp;have XLy:Below (w.heap.size) W2 (bC):=aA.out.1;have QH:w.heap.size<=(bC).heap.size:=Nat.le_trans (by omega) (show Below (w.heap.size) W2 (bC) from aA.out.1).size;refine hK.out _ _ (kA aA.out (by omega) (by omega) _) (fun hS=>?_);clear hK K aA
    try replace X5:=X5.alloc (.cells #[.int .i64 id,.int .i64 fr,.int .i64 dst,.slice A9 via.length c9,.int .i64 0,.int .i64 0] 50)
    try replace XL:=XL.alloc (.cells #[.int .i64 id,.int .i64 fr,.int .i64 dst,.slice A9 via.length c9,.int .i64 0,.int .i64 0] 50)
    have XL:=aj.new (bC) 50 #[.int .i64 id,.int .i64 fr,.int .i64 dst,.slice A9 via.length c9,.int .i64 0,.int .i64 0]
    try simp only [World.size_drew,World.size_alloc] at XL QH
    try simp only [World.alloc_drew] at X5
    try simp only [World.alloc_drew] at XL
    try simp only [pu]
    refine aW (i:=13) (aH au rfl) (fun K hK=>?_);have aA:=Lib.hid hS;clear hS;refine aN (aV rfl) ?_;refine BP (.tmp 17) (.tmp 28) _ rfl (base:=w.heap.size) Sv Ew UH rfl (((HP2.out.jq.keep (bD (bR W2))).keep bM).alloc _) rfl (l2:=[((⟨id,fr,dst,via,0,0⟩:Ar),(⟨A9,via.length,c9⟩:SV))]) (Sl.lit (n:=1) (aj.made rfl _ _) rfl (fQ (by omega))) (by simp only [List.length_cons,List.length_nil];omega) (by simp only [List.length_cons,List.length_nil];omega) (by have:=bM.size;simp at this;simp;omega) ?_;intro v7 w7 wV jD BG;obtain ⟨A7,c7,hv7,-⟩:=Own.qM wV;rw [fD.out] at hv7;subst hv7;have wW:=aj.grown X5 jD (fun e=>n5 e.symm);obtain ⟨q1,q2,q3,q4,q5,q6,q7⟩:=aj.aY wW;have hmr:=jv.more (((HP2.out.keep (bD (bR W2))).keep bM).keep (bA (bR _) _)) wV jD (Own.alloc (Vq.jG (by simp;omega)) _);have EK:=Lib.hid (hmr.far wW (by decide) (by decide) (by decide) (by decide) 1 (.slice A7 (k+1) c7));have GZ:=Lib.hid (wW.fC 1 (.slice A7 (k+1) c7));have rP:=Lib.hid (bS (p:=⟨g2,1,none⟩) (bG (bA (bT (bT HB2.out (bD (bR W2))) bM) _) jD (fun q hq=>(HP2.out.jq.lt q hq).1)) aa1 (.slice A7 (k+1) c7));have hS:qU w.heap.size g4 W2 w7:=kG aA.out jD (fun q hq=>(HP2.out.jq.lt q hq).1) n4 (by omega) (by omega);clear hmr wW wV jD BG;clear aA;refine hK.out _ _ hS (fun _=>?_);clear hK K
    try simp only [pu]
    apply MW;exact au;exact rfl;exact hS;exact rfl
    · intro _ hqc QG;go_simp;try rfl
    try simp only [pu]
    refine aW (i:=15) (aH au rfl) (fun K hK=>?_);have aA:=Lib.hid hS;clear hS;refine aN (aV rfl) ?_;go_simp;refine hK.out _ _ (kS aA.out (by first | omega | (simp;omega)) (by first | omega | (simp;omega)) _) (fun hS=>?_);clear hK K aA
    try simp only [pu]
    refine bQ ?_;refine aC.down _ _ ?_;have hBk:=hS.2;have hB:Below (w.heap.size) W2 _:=hS.1;clear hS aC au;go_wp2_with fail;go_roundw
    case rel => exact ⟨k+1,_,A7,c7,by omega,by go_num,fD.out _,by rw [HXt.out A7 c7];exact EK.out,by simpa using GZ.out,rP.out⟩
    case measure => simp [intOf];omega
   ·have aA:=Lib.hid hS;clear hS;refine aN (aV rfl) ?_;go_simp;refine (Nb.out _ (bT HB2.out (bD (bR W2)))).mono ?_;rintro e bC ⟨A9,c9,rfl,bM,Vq⟩;have hS:qU (w.heap.size) (g4) W2 bC:=kC aA.out bM (by omega) (by omega);clear aA
    try replace XL:=XL.keep bM
    try replace X5:=X5.keep bM
    refine hK.out _ _ hS (fun _=>?_);clear hK K
    try simp only [pu]
    apply MW;exact au;exact rfl;exact hS;exact rfl
    · intro _ hqc QG;go_simp;try rfl
    try simp only [pu]
    refine xG (i:=1) (j:=12) (aH au rfl) (aH au rfl) (fun K hK=>?_) (fun K hK=>?_)
    ·have aA:=Lib.hid hS;clear hS;refine aN (aV rfl) ?_;obtain ⟨z1,z2,z3,z4,-⟩:=aj.aY X5;go_simp;refine hK.out _ _ aA.out (fun hS=>?_);clear hK K aA
     try simp only [pu]
     refine aW (i:=12) (aH au rfl) (fun K hK=>?_);have aA:=Lib.hid hS;clear hS;refine aN (aV rfl) ?_;go_simp;have XLy:Below (w.heap.size) W2 (bC):=aA.out.1;have QH:w.heap.size<=(bC).heap.size:=Nat.le_trans (by omega) (show Below (w.heap.size) W2 (bC) from aA.out.1).size;refine hK.out _ _ (kA aA.out (by omega) (by omega) _) (fun hS=>?_);clear hK K aA
     try replace X5:=X5.alloc (.cells #[.int .i64 id,.int .i64 fr,.int .i64 dst,.slice A9 via.length c9,.int .i64 0,.int .i64 0] 50)
     try replace XL:=XL.alloc (.cells #[.int .i64 id,.int .i64 fr,.int .i64 dst,.slice A9 via.length c9,.int .i64 0,.int .i64 0] 50)
     have XL:=aj.new (bC) 50 #[.int .i64 id,.int .i64 fr,.int .i64 dst,.slice A9 via.length c9,.int .i64 0,.int .i64 0]
     try simp only [World.size_drew,World.size_alloc] at XL QH
     try simp only [World.alloc_drew] at X5
     try simp only [World.alloc_drew] at XL
     try simp only [pu]
     refine aW (i:=13) (aH au rfl) (fun K hK=>?_);have aA:=Lib.hid hS;clear hS;refine aN (aV rfl) ?_;refine BP (.tmp 17) (.tmp 28) _ rfl (base:=w.heap.size) Sv Ew UH rfl (((HP2.out.jq.keep (bD (bR W2))).keep bM).alloc _) rfl (l2:=[((⟨id,fr,dst,via,0,0⟩:Ar),(⟨A9,via.length,c9⟩:SV))]) (Sl.lit (n:=1) (aj.made rfl _ _) rfl (fQ (by omega))) (by simp only [List.length_cons,List.length_nil];omega) (by simp only [List.length_cons,List.length_nil];omega) (by have:=bM.size;simp at this;simp;omega) ?_;intro v7 w7 wV jD BG;obtain ⟨A7,c7,hv7,-⟩:=Own.qM wV;rw [fD.out] at hv7;subst hv7;have wW:=aj.grown X5 jD (fun e=>n5 e.symm);obtain ⟨q1,q2,q3,q4,q5,q6,q7⟩:=aj.aY wW;have hmr:=jv.more (((HP2.out.keep (bD (bR W2))).keep bM).keep (bA (bR _) _)) wV jD (Own.alloc (Vq.jG (by simp;omega)) _);have EK:=Lib.hid (hmr.far wW (by decide) (by decide) (by decide) (by decide) 1 (.slice A7 (k+1) c7));have GZ:=Lib.hid (wW.fC 1 (.slice A7 (k+1) c7));have rP:=Lib.hid (bS (p:=⟨g2,1,none⟩) (bG (bA (bT (bT HB2.out (bD (bR W2))) bM) _) jD (fun q hq=>(HP2.out.jq.lt q hq).1)) aa1 (.slice A7 (k+1) c7));have hS:qU w.heap.size g4 W2 w7:=kG aA.out jD (fun q hq=>(HP2.out.jq.lt q hq).1) n4 (by omega) (by omega);clear hmr wW wV jD BG;clear aA;refine hK.out _ _ hS (fun _=>?_);clear hK K
     try simp only [pu]
     apply MW;exact au;exact rfl;exact hS;exact rfl
     · intro _ hqc QG;go_simp;try rfl
     try simp only [pu]
     refine aW (i:=15) (aH au rfl) (fun K hK=>?_);have aA:=Lib.hid hS;clear hS;refine aN (aV rfl) ?_;go_simp;refine hK.out _ _ (kS aA.out (by first | omega | (simp;omega)) (by first | omega | (simp;omega)) _) (fun hS=>?_);clear hK K aA
     try simp only [pu]
     refine bQ ?_;refine aC.down _ _ ?_;have hBk:=hS.2;have hB:Below (w.heap.size) W2 _:=hS.1;clear hS aC au;go_wp2_with fail;go_roundw
     case rel => exact ⟨k+1,_,A7,c7,by omega,by go_num,fD.out _,by rw [HXt.out A7 c7];exact EK.out,by simpa using GZ.out,rP.out⟩
     case measure => simp [intOf];omega
    ·have aA:=Lib.hid hS;clear hS;refine aN (aV rfl) ?_;go_simp;have XLy:Below (w.heap.size) W2 (bC):=aA.out.1;have QH:w.heap.size<=(bC).heap.size:=Nat.le_trans (by omega) (show Below (w.heap.size) W2 (bC) from aA.out.1).size;refine hK.out _ _ (kA aA.out (by omega) (by omega) _) (fun hS=>?_);clear hK K aA
     try replace X5:=X5.alloc (.cells #[.int .i64 id,.int .i64 fr,.int .i64 dst,.slice A9 via.length c9,.int .i64 0,.int .i64 0] 50)
     try replace XL:=XL.alloc (.cells #[.int .i64 id,.int .i64 fr,.int .i64 dst,.slice A9 via.length c9,.int .i64 0,.int .i64 0] 50)
     have XL:=aj.new (bC) 50 #[.int .i64 id,.int .i64 fr,.int .i64 dst,.slice A9 via.length c9,.int .i64 0,.int .i64 0]
     try simp only [World.size_drew,World.size_alloc] at XL QH
     try simp only [World.alloc_drew] at X5
     try simp only [World.alloc_drew] at XL
     try simp only [pu]
     refine aW (i:=1) (aH au rfl) (fun K hK=>?_);have aA:=Lib.hid hS;clear hS;refine aN (aV rfl) ?_;obtain ⟨z1,z2,z3,z4,-⟩:=aj.aY X5;go_simp;refine hK.out _ _ aA.out (fun hS=>?_);clear hK K aA
     try simp only [pu]
     refine aW (i:=13) (aH au rfl) (fun K hK=>?_);have aA:=Lib.hid hS;clear hS;refine aN (aV rfl) ?_;refine BP (.tmp 17) (.tmp 28) _ rfl (base:=w.heap.size) Sv Ew UH rfl (((HP2.out.jq.keep (bD (bR W2))).keep bM).alloc _) rfl (l2:=[((⟨id,fr,dst,via,0,0⟩:Ar),(⟨A9,via.length,c9⟩:SV))]) (Sl.lit (n:=1) (aj.made rfl _ _) rfl (fQ (by omega))) (by simp only [List.length_cons,List.length_nil];omega) (by simp only [List.length_cons,List.length_nil];omega) (by have:=bM.size;simp at this;simp;omega) ?_;intro v7 w7 wV jD BG;obtain ⟨A7,c7,hv7,-⟩:=Own.qM wV;rw [fD.out] at hv7;subst hv7;have wW:=aj.grown X5 jD (fun e=>n5 e.symm);obtain ⟨q1,q2,q3,q4,q5,q6,q7⟩:=aj.aY wW;have hmr:=jv.more (((HP2.out.keep (bD (bR W2))).keep bM).keep (bA (bR _) _)) wV jD (Own.alloc (Vq.jG (by simp;omega)) _);have EK:=Lib.hid (hmr.far wW (by decide) (by decide) (by decide) (by decide) 1 (.slice A7 (k+1) c7));have GZ:=Lib.hid (wW.fC 1 (.slice A7 (k+1) c7));have rP:=Lib.hid (bS (p:=⟨g2,1,none⟩) (bG (bA (bT (bT HB2.out (bD (bR W2))) bM) _) jD (fun q hq=>(HP2.out.jq.lt q hq).1)) aa1 (.slice A7 (k+1) c7));have hS:qU w.heap.size g4 W2 w7:=kG aA.out jD (fun q hq=>(HP2.out.jq.lt q hq).1) n4 (by omega) (by omega);clear hmr wW wV jD BG;clear aA;refine hK.out _ _ hS (fun _=>?_);clear hK K
     try simp only [pu]
     apply MW;exact au;exact rfl;exact hS;exact rfl
     · intro _ hqc QG;go_simp;try rfl
     try simp only [pu]
     refine aW (i:=15) (aH au rfl) (fun K hK=>?_);have aA:=Lib.hid hS;clear hS;refine aN (aV rfl) ?_;go_simp;refine hK.out _ _ (kS aA.out (by first | omega | (simp;omega)) (by first | omega | (simp;omega)) _) (fun hS=>?_);clear hK K aA
     try simp only [pu]
     refine bQ ?_;refine aC.down _ _ ?_;have hBk:=hS.2;have hB:Below (w.heap.size) W2 _:=hS.1;clear hS aC au;go_wp2_with fail;go_roundw
     case rel => exact ⟨k+1,_,A7,c7,by omega,by go_num,fD.out _,by rw [HXt.out A7 c7];exact EK.out,by simpa using GZ.out,rP.out⟩
     case measure => simp [intOf];omega
  ·obtain rfl:k=bl.length:=by omega
   have hlen:p.ah.length=bl.length:=by rw [MX.out,List.length_map]
   have hpe:(⟨p.nodes,(bl.take bl.length).map (fun x=>wU x.1),[]⟩:Pl)=dK p:=by
    unfold dK;rw [List.take_length,MX.out,List.map_map];rfl
   have hpo:=HP.out;rw [hpe] at hpo;have EK:=Lib.hid (((hpo.far dI.out (by decide) (by decide) (by decide) (by decide) 0 (.slice nH p.nodes.length nI)).far (dI.out.fC 0 _) (by decide) (by decide) (by decide) (by decide) 1 (.slice A bl.length c)).far ((dI.out.fC 0 _).fC 1 _) (by decide) (by decide) (by decide) (by decide) 2 (.slice none 0 0));have rP:=Lib.hid (bS (p:=⟨g2,2,none⟩) (bS (p:=⟨g2,1,none⟩) (bS (p:=⟨g2,0,none⟩) HB.out hgw (.slice nH p.nodes.length nI)) hgw (.slice A bl.length c)) hgw (.slice none 0 0));have HLn:=Lib.hid hlen;clear hpo hpe hlen HP
   try clear dF
   try clear dG
   try clear fG
   try clear jP
   try clear fH
   try clear jw
   try clear lX
   obtain ⟨dF,dG,fG,jP,fH,jw,lX⟩:=X4.aY;go_wp2_with fail;refine Oi (g:=g2) (cs:=#[.slice nH p.nodes.length nI,.slice A bl.length c,.slice none 0 0]) rfl SA rfl rfl (aj.Oh dI.out) ?_;have hl1:(dK p).ah.length=bl.length:=by unfold dK;rw [List.length_map];exact HLn.out
   refine ⟨nH,nI,A,c,ol,by rw [hl1];rfl,rP.out,?_⟩;rw [hl1];exact EK.out
end Go.Proofs.YtialfdomhoojiaaGreat
