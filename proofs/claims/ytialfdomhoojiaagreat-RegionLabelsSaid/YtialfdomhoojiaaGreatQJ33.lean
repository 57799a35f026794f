import Derived.Test.YtialfdomhoojiaaGreatQJ32
set_option linter.unusedSimpArgs false
set_option linter.unusedVariables false
set_option maxRecDepth 100000
set_option maxHeartbeats 8000000
namespace Go.Proofs.YtialfdomhoojiaaGreat
open Go.RowKit
theorem aln (l:List Rn):(Pz l).length<=l.length:=by
 have h:=aeY (jZ l) (jZ l).length;unfold Nw at h;rw [I4] at h;unfold Pz jc;have e:(jZ l).length=l.length:=(qC l).1.length_eq;omega
def sliceLen:Value->Nat
 | .slice _ n _=>n
 | _=>0
def yP (A:Option Addr) (N:List Rn) (s:Value) (j:Nat):Prop :=
 ∃ A' c,s=.slice A' (N.length-j) c/\N.length-j<=c/\c<=9223372036854775807/\∀ g,A=some ⟨g,0,none⟩->j<N.length->A'=some ⟨g,j*2,none⟩
theorem yP.next {A:Option Addr} {N:List Rn} {gb j c:Nat} (hA:A=some ⟨gb,0,none⟩) (hj:j<N.length) (hc:N.length-j<=c) (hc2:c<=9223372036854775807) :
  yP A N (.slice (if c=1 then some ⟨gb,j*2,none⟩ else some ⟨gb,j*2+2,none⟩) (N.length-j-1) (c-1)) (j+1):=by
 refine ⟨_,c-1,by rw [Nat.sub_sub],AB,AB,fun g hg hlt=>?_⟩;rw [AX AB];rw [hA] at hg;injection hg with hg;injection hg with hg _ _;subst hg;rw [Nat.add_mul,Nat.one_mul]
theorem drop_step {N:List Rn} {j:Nat} {lo:Int} (hj:j<N.length) (h:N[j].hi<=lo):NT lo (N.drop j)=NT lo (N.drop (j+1)):=by
 rw [Ql hj];unfold NT;rw [sF,AZ (by simpa using h)]
theorem awi {N:List Rn} {j:Nat} {lo:Int} (hj:j<N.length) (h:¬ N[j].hi<=lo):NT lo (N.drop j)=N.drop j:=by
 rw [Ql hj];unfold NT;rw [sF,AX (by simpa using h)]
theorem awj {N:List Rn} {lo:Int} {j:Nat} (h:N.length<=j):NT lo (N.drop j)=N.drop j:=by
 rw [abQ h];rfl
theorem alo {N:List Rn} {j:Nat} {lo hi:Int} (hj:j<N.length) (h:N[j].lo<hi):P7 hi lo (N.drop j)=JJ lo N[j].lo++P7 hi N[j].hi (N.drop (j+1)):=by
 rw [Ql hj,P7,AZ h]
theorem alp {N:List Rn} {j:Nat} {lo hi:Int} (hj:j<N.length) (h:¬ N[j].lo<hi):P7 hi lo (N.drop j)=JJ lo hi:=by
 rw [Ql hj];unfold P7;rw [AX h]
theorem awk {N:List Rn} {lo hi:Int} {j:Nat} (h:N.length<=j):P7 hi lo (N.drop j)=JJ lo hi:=by
 rw [abQ h];rfl
theorem alq {wA wB:World} {B g4 g7 Ba Bb:Nat} {L M N:List Rn} {v v2 Va Vb:Value} {t:TypeId} {cs:Array Value} (hx:YD wA B g4 L v) (hk:XF wA wB g4 v.ownBlock) (hat:NewAt wA v v2) (h7:v.ownBlock≠some g7) (X7:AO wA g7 t cs) (hne:g7≠g4)
  (hm:Own wA Ba 121 2 GZ Va M) (hmk:∀ q,Va.ownBlock=some q->q<B) (hn:Own wA Bb 121 2 GZ Vb N) (hnk:∀ q,Vb.ownBlock=some q->q<B) :
  AO wB g7 t cs/\v2.ownBlock≠some g7/\Own wB Ba 121 2 GZ Va M/\Own wB Bb 121 2 GZ Vb N:=by
 have key:∀ {V:Value},(∀ q,V.ownBlock=some q->q<B)->∀ k,V.ownBlock=some k->v.ownBlock≠some k:=fun hV k e e2=>by
  have h1:=hV k e;have h2:=(hx.own.lt k e2).1;omega
 refine ⟨hk.keep X7 hne h7,fun e=>?_,hk.own hm (Own.Dz hm hx.box Aw) (key hmk),hk.own hn (Own.Dz hn hx.box Aw) (key hnk)⟩;rcases hat with h | ⟨k,h,h2⟩
 · exact h7 (h.symm.trans e)
 ·rw [h] at e;injection e with e;have:=X7.lt
  omega
theorem alr (lo hi:Int):(JJ lo hi).length<=1:=by unfold JJ;split<;>simp
theorem awl {M N:List Rn} {k j j':Nat} (hk:k<M.length) (h:NT M[k].lo (N.drop j)=N.drop j'):Ob (M.drop k) (N.drop j)=P7 M[k].hi M[k].lo (N.drop j')++Ob (M.drop (k+1)) (N.drop j'):=by
 rw [Ql hk,Ob,h]
theorem awm:∀ w,(isAgg 124).run Tryz.prog w=.ok false w:=fun _=>by kernel_rfl
theorem awn (va vb:Value) (a b:List Rn) (w:World) (ha:lK w va a) (hb:lK w vb b) (hla:a.length<=50000) (hlb:b.length<=50000):Calls Tryz.prog 204 #[va,vb] w (aeX w (Ob (Pz a) (Pz b))):=by
 have Xx:=AA (fun W (hW:AU w W)=>alf va a W (ha.mono hW) AB);have Zh:=AA (fun W (hW:AU w W)=>alf vb b W (hb.mono hW) AB);have Ll:=AA (@awZ);have hlm:=aln a;have hln:=aln b;obtain ⟨M,hM⟩:=BN (Pz a);obtain ⟨N,hN⟩:=BN (Pz b);rw [hM] at Xx hlm ⊢;rw [hN] at Zh hln ⊢;have hml:M.length<=50000:=by omega
 have hnl:N.length<=50000:=by omega
 clear ha hb hlm hln hM hN hla hlb;go_enter Tryz.func204,Tryz.ntmps204;go_upto_region 1 with fail;obtain ⟨W1,hW⟩:=BR (w.alloc (.cells #[.slice none 0 0] 124));have X1:AO W1 w.heap.size 124 #[.slice none 0 0]:=by rw [hW];exact AO.made rfl _ _
 have HB1:=AA (show AU w W1 by rw [hW];exact bA (bR w) _);rw [<- hW];clear hW;have Dt:=AA X1;go_wp2_with fail;refine (Zh.out _ HB1.out).mono ?_;rintro e w2 ⟨Ab,cb,rfl,hob,hb2⟩;have CG:=AA (Dt.out.keep hb2);have HB2:=AA (bT HB1.out hb2);have HOb:=AA hob;clear hob hb2 Dt X1 HB1 Zh;go_wp2_with fail;refine (Xx.out _ HB2.out).mono ?_;rintro e w3 ⟨Aa,ca,rfl,hoa,hb3⟩;have Ej:=AA (CG.out.keep hb3);have HB3:=AA (bT HB2.out hb3);have HOa:=AA hoa;have afR:=AA (HOb.out.keep hb3);obtain ⟨g4,hg4⟩:=BN w.heap.size;have hx3:=Ej.out.lt;clear hoa hb3 CG HB2 HOb Xx;go_upto_block 0 with fail;go_wp2_with fail;have hg0:g4<w3.heap.size:=by omega
 rw [hg4] at Ej;have TI:=AA (fun q hq=>(afR.out.lt q hq).2);have SQ:=AA (fun q hq=>(HOa.out.lt q hq).2);go_loopw [1,16] (fun s i wr=>∃ (k j:Nat) (L:List Rn) (v:Value),k<=M.length/\i=.int .i64 k/\j<=N.length/\yP Ab N s j/\Ob M N=L++Ob (M.drop k) (N.drop j)/\L.length<=50002*k/\YD wr w3.heap.size g4 L v/\Own wr w2.heap.size 121 2 GZ (.slice Aa M.length ca) M/\Own wr W1.heap.size 121 2 GZ (.slice Ab N.length cb) N/\AU w wr/\w3.heap.size<=wr.heap.size) (fun _ i _=>M.length-(intOf i).toNat)
 case atStart =>
  refine ⟨0,0,[],.slice none 0 0,Bv _,rfl,Bv _,?_,rfl,Bv _,⟨Ej.out,Own.nil _ _ _ _ _⟩,HOa.out,afR.out,HB3.out,Dc _⟩;obtain ⟨A',c',he,h1,h2,-⟩:=afR.out.sl;injection he with q1 q2 q3;subst q1 q3;unfold maxLen at h2;exact ⟨Ab,cb,rfl,AB,AB,fun g hg _=>by rw [hg,sU]⟩
 case round =>
  obtain ⟨k,j,L,v,hk,rfl,hj,⟨A1,c1,rfl,hc1,hc2,hA1⟩,hdf,hLl,hbx,Y0,hon,hb,hz⟩:=hrel;obtain ⟨wo,rfl⟩:=BR wr;have jg:=AA hdf;have LG:=AA hbx;have VB:=AA Y0;have JI:=AA hon;have Hb:=AA hb;have HA1:=AA hA1;clear hdf hbx Y0 hon hb hA1;by_cases hlt:k<M.length
  ·obtain ⟨ga,VG,-,awo,-,hce⟩:=Own.lM VB.out AB;subst VG;obtain ⟨c0,d0⟩:=hce k hlt;have qx:=AA (fun j' (h:NT M[k].lo (N.drop j)=N.drop j')=>awl hlt h);generalize M[k]=r at *;obtain ⟨V6,Oe⟩:=r;simp only at c0 d0;have yt:(k:Int)<M.length:=by omega
   have yu:0<=(k:Int):=by omega
   clear hce;go_upto_block 2 with fail;obtain ⟨W5,hW⟩:∃ W:World,W=wo.alloc (.cells #[.int .i64 V6,.int .i64 Oe] 121):=⟨_,rfl⟩;obtain ⟨g7,G9⟩:=BN wo.heap.size;have X7:AO W5 g7 121 #[.int .i64 V6,.int .i64 Oe]:=by rw [hW];exact AO.made G9.symm _ _
   have hA:AU wo W5:=by rw [hW];exact bA (bR wo) _
   have als:=AA (LG.out.keep hA);have alu:=AA (VB.out.keep hA);have afS:=AA (JI.out.keep hA);have Hb5:=AA (bT Hb.out hA);have hv7:=AA (show v.ownBlock≠some g7 from fun e=>by have:=(LG.out.own.lt g7 e).2;omega);have Ip:=AA X7;have Tc:wo.heap.size<=W5.heap.size:=hA.size;rw [<- hW]
   try rw [G9]
   clear hW hA c0 d0 awo LG VB JI Hb X7;go_wp2_with fail;go_loopw [1] (fun s wr=>∃ j':Nat,j'<=N.length/\yP Ab N s j'/\NT V6 (N.drop j)=NT V6 (N.drop j')/\AU W5 wr) (fun s _=>sliceLen s)
   case atStart => exact ⟨j,hj,⟨A1,c1,rfl,hc1,hc2,HA1.out⟩,rfl,bR W5⟩
   case round =>
    clear HA1 hj;obtain ⟨j',hj',⟨A2,c2,rfl,hc3,hc4,hA2⟩,hdr,hb5⟩:=hrel;obtain ⟨wm,rfl⟩:=BR wr;have Ux:=AA hdr;have HA2:=AA hA2;have UA:=AA hb5;clear hdr hA2 hb5;rcases rU j' N.length with hjt | hjt;obtain ⟨gb,TR,-,alv,-,hce⟩:=Own.lM (afS.out.keep UA.out) AB;have hA3:=HA2.out gb TR hjt;subst hA3;obtain ⟨c0,d0⟩:=hce j' hjt;have DU:=AA (fun h=>drop_step (lo:=V6) hjt h);have LD:=AA (fun h=>awi (lo:=V6) hjt h);have hX:=Ip.out.keep UA.out;have hx7:=hX.lt;have aa7:0<N.length-j':=by omega
    generalize N[j']=n at *;obtain ⟨nlo,nhi⟩:=n;simp only at c0 d0;clear hce;obtain ⟨hXl,hXa,hXb,-,-⟩:=hX.BQ;by_cases hle:nhi<=V6
    ·have HE:=AA (Ux.out.trans (DU.out hle));have UE:=AA (yP.next (A:=Ab) TR hjt hc3 hc4);clear DU LD Ux qx;go_upto_region 6 with fail;refine DJ (wm) (.run 12 0 0 (.done)) fun CU QR Ae Ah hS=>?_
     iterate 4 refine Aj ?_
     iterate 7 refine Du ?_
     refine Aj ?_;refine DF ?_;clear hS Ah Ae;intro hB;go_wp2;go_roundw
     case rel => exact ⟨j'+1,AB,UE.out,HE.out,bT UA.out hB⟩
     case measure => simp [sliceLen];omega
    have HE:=AA (Ux.out.trans (LD.out hle));clear DU LD Ux TR;go_upto_region 6 with fail;refine DJ (wm) (.run 12 0 0 (.done)) fun CU QR Ae Ah hS=>?_
    iterate 4 refine Aj ?_
    iterate 7 refine Du ?_
    refine Aj ?_;refine DF ?_;clear hS Ah Ae;intro hB;go_wp2_with fail;obtain ⟨A2,hAg⟩:∃ A2:Option Addr,(some ⟨gb,j'*2,none⟩:Option Addr)=A2:=⟨_,rfl⟩;rw [hAg] at HA2 ⊢;clear hAg c0 d0 hX hXl hXa hXb;have yw:j'<=N.length:=hj'
    rotate_left
    have hX:=Ip.out.keep UA.out;have hx7:=hX.lt;have HE:=AA (show NT V6 (N.drop j)=N.drop j' from Ux.out.trans (awj hjt));have aa7:¬ 0<N.length-j':=by omega
    have kk9:¬ j'<N.length:=by omega
    clear Ux
    try clear hXl hXa hXb
    obtain ⟨hXl,hXa,hXb,-,-⟩:=hX.BQ;go_upto_region 6 with fail;refine DJ (wm) (.run 12 0 0 (.done)) fun CU QR Ae Ah hS=>?_
    iterate 4 refine Aj ?_
    iterate 7 refine Jh ?_
    refine Aj ?_;refine DF ?_;clear hS Ah Ae;intro hB;go_wp2_with fail;clear hX hXl hXa hXb;have yw:j'<=N.length:=hj'
    all_goals
     have alx:=AA ((als.out.keep UA.out).keep hB);have aly:=AA ((alu.out.keep UA.out).keep hB);have alz:=AA ((afS.out.keep UA.out).keep hB);have Hb6:=AA (bT (bT Hb5.out UA.out) hB);have afT:=AA ((Ip.out.keep UA.out).keep hB);have oK:w3.heap.size<=wm.drew.heap.size:=by
      have h1:=hB.size;have h2:=UA.out.size;omega
     have h76:=afT.out.lt;have HCu:=AA (qx.out j' HE.out);have am0:g7≠g4:=by omega
     clear HE qx als alu afS Hb5 Ip hB UA aa7 hjt hx7;generalize wm.drew=wn at *;go_loopw [8,9] (fun z i wr=>∃ (n:Nat) (lo:Int) (acc:List Rn) (v2:Value),j'+n<=N.length/\i=.int .i64 n/\z=.int .i64 lo/\P7 Oe V6 (N.drop j')=acc++P7 Oe lo (N.drop (j'+n))/\acc.length<=n/\YD wr w3.heap.size g4 (L++acc) v2/\v2.ownBlock≠some g7/\AO wr g7 121 #[.int .i64 V6,.int .i64 Oe]/\Own wr w2.heap.size 121 2 GZ (.slice (some ⟨ga,0,none⟩) M.length ca) M/\Own wr W1.heap.size 121 2 GZ (.slice Ab N.length cb) N/\AU w wr/\wn.heap.size<=wr.heap.size) (fun _ i _=>N.length+1-(intOf i).toNat)
     case atStart => exact ⟨0,V6,[],v,yw,rfl,rfl,rfl,Bv _,by rw [JA];exact alx.out,hv7.out,afT.out,aly.out,alz.out,Hb6.out,Dc _⟩
     case round =>
      clear alx aly alz Hb6 afT hv7;obtain ⟨n,lo,acc,v2,hn,rfl,rfl,hcu,hal,hbx,h27,X7,Y0,hon,hb,hz⟩:=hrel;obtain ⟨wp,rfl⟩:=BR wr;have HCt:=AA hcu;have LG:=AA hbx;have H27:=AA h27;have Ip:=AA X7;have VB:=AA Y0;have JI:=AA hon;have Hb:=AA hb;have hzp:w3.heap.size<=wp.heap.size:=by omega
      have hll:(L++acc).length<=2600000000:=by
       rw [ER]
       have:50002*k<=50002*50000:=Nat.mul_le_mul_left _ AB
       omega
      clear hcu hbx h27 Y0 hon hb;rcases (show ((∃ hnt:j'+n<N.length,N[j'+n].lo<Oe)\/∃ hnt:j'+n<N.length,¬ N[j'+n].lo<Oe)\/N.length<=j'+n from by
       by_cases h1:j'+n<N.length
       ·by_cases h2:N[j'+n].lo<Oe
        · exact .inl (.inl ⟨h1,h2⟩)
        · exact .inl (.inr ⟨h1,h2⟩)
       · exact .inr AB) with (⟨hnt,hle⟩ | ⟨hnt,hle⟩) | hnt
      · first
      | exfalso;omega
      | skip
        obtain ⟨gb,TR,-,alv,-,hce⟩:=Own.lM JI.out AB;have hA3:=HA2.out gb TR AB;subst hA3;have lV:=AA TR;clear TR;obtain ⟨c0,d0⟩:=hce (j'+n) hnt;have DU:=AA (fun h=>alo (lo:=lo) (hi:=Oe) hnt h);have LD:=AA (fun h=>alp (lo:=lo) (hi:=Oe) hnt h);have ke:(j'+n)*2=j'*2+n*2:=by omega
        rw [ke] at c0 d0;have kk5:(n:Int)<(N.length-j':Nat):=by omega
        have kk6:n<N.length-j':=by omega
        have kk7:0<=(n:Int):=by omega
        obtain ⟨m,hm⟩:=BN (N[j'+n]);rw [hm] at c0 d0 DU LD hle;have Qb:=AA hm;clear hm;obtain ⟨nlo,nhi⟩:=m;simp only at c0 d0 hle;clear hce ke;obtain ⟨Eb,Ec,Fe,-,-⟩:=X7.BQ;have HE:=AA (DU.out hle);clear DU LD;go_upto_region 10 with fail;refine DJ (wp) (.run 14 0 0 (.done)) fun CU QR Ae Ah hS=>?_
        iterate 5 refine Aj ?_
        iterate 8 refine Du ?_
        refine Aj ?_;refine DF ?_;clear hS Ah Ae;intro hB;go_wp2_with fail;have hx6:=LG.out.keep hB;have yQ:=VB.out.keep hB;have yR:=JI.out.keep hB;have yS:=Ip.out.keep hB;have hb6:=bT Hb.out hB;have awp:=hB.size;refine (Ll.out lo nlo w3.heap.size g4 (L++acc) v2 _ hx6 AB AB).mono ?_;rintro e w7 ⟨rfl,⟨v7,hx7,Tj⟩,lW,hb7⟩;obtain ⟨q1,q2,q3,q4⟩:=alq hx6 lW Tj H27.out yS am0 yQ SQ.out yR TI.out;have Hx7:=AA hx7;have awq:=AA q1;have HV7:=AA q2;have afU:=AA q3;have ab9:=AA q4;have Hb7:=AA (hb7 w hb6 AB AB);have hz7:=lW.size;clear hx6 yQ yR yS hb6 hx7 Tj lW hb7 q2 q3 q4 c0 d0 X7 Eb Ec Fe hB LG VB JI Ip Hb;obtain ⟨gb',pI,-,azy,-,alO⟩:=Own.lM ab9.out AB;rw [lV.out] at pI;injection pI with pI;injection pI with pI _ _;subst pI;obtain ⟨-,d1⟩:=alO (j'+n) hnt;rw [Qb.out,show (j'+n)*2=j'*2+n*2 by omega] at d1;simp only at d1;have HC7:=AA (show P7 Oe V6 (N.drop j')=(acc++JJ lo nlo)++P7 Oe nhi (N.drop (j'+(n+1))) by rw [HCt.out,HE.out,KW];rfl);have hl7:=alr lo nlo;clear alO HE HCt lV;go_wp2;go_roundw
        case rel => exact ⟨n+1,nhi,acc++JJ lo nlo,v7,AB,BJ,rfl,HC7.out,by rw [ER];omega,by rw [<- KW];exact Hx7.out,HV7.out,awq.out,afU.out,ab9.out,Hb7.out,AB⟩
        case measure => exact BL
      case' inl.inr =>
       first
      | exfalso;omega
      | skip
        obtain ⟨gb,TR,-,alv,-,hce⟩:=Own.lM JI.out AB;have hA3:=HA2.out gb TR AB;subst hA3;obtain ⟨c0,d0⟩:=hce (j'+n) hnt;have DU:=AA (fun h=>alo (lo:=lo) (hi:=Oe) hnt h);have LD:=AA (fun h=>alp (lo:=lo) (hi:=Oe) hnt h);have ke:(j'+n)*2=j'*2+n*2:=by omega
        rw [ke] at c0 d0;have kk5:(n:Int)<(N.length-j':Nat):=by omega
        have kk6:n<N.length-j':=by omega
        have kk7:0<=(n:Int):=by omega
        obtain ⟨m,hm⟩:=BN (N[j'+n]);rw [hm] at c0 d0 DU LD hle;have Qb:=AA hm;clear hm;obtain ⟨nlo,nhi⟩:=m;simp only at c0 d0 hle;clear hce ke
        try clear Eb Ec Fe
        obtain ⟨Eb,Ec,Fe,-,-⟩:=X7.BQ;have HE:=AA (HCt.out.trans (by rw [LD.out hle]));clear DU LD Qb TR;go_upto_region 10 with fail;refine DJ (wp) (.run 14 0 0 (.done)) fun CU QR Ae Ah hS=>?_
        iterate 5 refine Aj ?_
        iterate 8 refine Du ?_
        refine Aj ?_;refine DF ?_;clear hS Ah Ae;intro hB;go_wp2_with fail
      rotate_left
      have HE:=AA (HCt.out.trans (by rw [awk (lo:=lo) (hi:=Oe) hnt]));have kk6:¬ n<N.length-j':=by omega
      have kk8:¬ (n:Int)<(N.length-j':Nat):=by omega
      try clear Eb Ec Fe
      obtain ⟨Eb,Ec,Fe,-,-⟩:=X7.BQ;go_upto_region 10 with fail;refine DJ (wp) (.run 14 0 0 (.done)) fun CU QR Ae Ah hS=>?_
      iterate 5 refine Aj ?_
      iterate 8 refine Jh ?_
      refine Aj ?_;refine DF ?_;clear hS Ah Ae;intro hB;go_wp2_with fail
      all_goals
       have hx6:=LG.out.keep hB;have yQ:=VB.out.keep hB;have yR:=JI.out.keep hB;have yS:=Ip.out.keep hB;have hb6:=bT Hb.out hB;have awp:=hB.size;refine (Ll.out lo Oe w3.heap.size g4 (L++acc) v2 _ hx6 AB AB).mono ?_;rintro e w7 ⟨rfl,⟨v7,hx7,Tj⟩,lW,hb7⟩;obtain ⟨-,-,q3,q4⟩:=alq hx6 lW Tj H27.out yS am0 yQ SQ.out yR TI.out;have Hx7:=AA hx7;have afU:=AA q3;have ab9:=AA q4;have Hb7:=AA (hb7 w hb6 AB AB);have hz7:=lW.size;have awH:=AA (show Ob M N=(L++acc++JJ lo Oe)++Ob (M.drop (k+1)) (N.drop j') by
        have e1:=HCu.out
        try simp only at e1
        rw [jg.out,e1,HE.out];simp only [KW])
       have hl7:=alr lo Oe;clear hx6 yQ yR yS hb6 hx7 Tj lW hb7 q3 q4 X7 hB LG VB JI Ip Hb jg HCu HE;go_wp2;go_roundw
       case rel => exact ⟨k+1,j',L++acc++JJ lo Oe,v7,AB,BJ,yw,⟨_,c2,rfl,hc3,hc4,HA2.out⟩,awH.out,by rw [ER,ER];omega,Hx7.out,afU.out,ab9.out,Hb7.out,AB⟩
       case measure => exact BL
  ·obtain rfl:k=M.length:=by omega
   have hd:=jg.out;rw [aaq] at hd;have he:Ob M N=L:=by rw [hd];simp [Ob]
   clear hd;obtain ⟨A,c,rfl,-⟩:=Own.sl LG.out.own;have X4:=LG.out.box;have HE:=AA he;clear he;obtain ⟨BZ,Bl,EG⟩:=X4.Fb;go_wp2_with fail;refine aeH (g:=g4) (v:=.slice A L.length c) rfl awm rfl rfl (AO.aAZ X4) ?_;rw [HE.out];refine ⟨A,c,rfl,?_,bS (p:=⟨g4,0,none⟩) Hb.out (show w.heap.size<=g4 by omega) _⟩;have ho:=LG.out.own.far (p:=⟨g4,0,none⟩) (Own.Dz LG.out.own LG.out.box Aw) (.slice A L.length c);exact ho.ES AB
set_option linter.unusedSectionVars false
theorem alP {α β:Type} (f:α->List β) {l:List α} {a:α} (h:a∈l):(f a).length<=(l.flatMap f).length:=by
 obtain ⟨s,t,rfl⟩:=List.append_of_mem h;simp only [LC,KI,ER];omega
theorem lX {α β:Type} (f:α->List β) (h:∀ a,(f a).length<=1) (l:List α):(l.flatMap f).length<=l.length:=by
 have:=aBJ l f 1 (fun a _=>h a)
 omega
theorem afV (y:Int) (q:Pt×Pt):(Q5 y q).length<=1:=by
 unfold Q5
 repeat' split
 all_goals simp
theorem alQ (y:Int) (q:Pt×Pt):(Ic y q).length<=1:=by
 unfold Ic;split<;>simp
theorem alR (ns:List Nd) (y:Int) (i:Int):(Q7 ns y i).length<=1:=by
 unfold Q7;split
 · split<;>simp
 · simp
section
variable {p:Pl} (h:Valid p)
include h
theorem Valid.awI {b:Option (List Int)} (hb:b∈Jp p):(GR p b).flatten.length<=512:=by
 have hp:=h.avd.length_eq;have h1:=alP zG (Gh (f:=SY p) hb);have h2:zG (SY p b)=(GR p b).flatten:=by
  unfold zG GR;rw [List.flatten_cons];rfl
 rw [h2] at h1;have h3:(Bh p).length=2*p.AP.length:=by unfold Bh;simp;omega
 have h4:=(ug h.lim).2.2.1;omega
theorem Valid.awJ {X:List Int} (hX:∀ d∈X,d∈Bh p):(DV p X).length<=X.length*65:=by
 unfold DV;refine aBJ X _ 65 fun d hd=>?_;obtain ⟨a,ha,-,e⟩:=h.TY (hX d hd);have h1:=Ey p a;have h2:=h.Tv ha;rw [e];unfold Es;rw [Cj,PO];omega
omit h in
theorem awK (b:Option (List Int)):Hy p b=DV p (GR p b).flatten:=by
 unfold Hy DV;rw [ab5,abe];rfl
theorem Valid.alS {b:Option (List Int)} (hb:b∈Jp p) {c:List Int} (hc:c∈GR p b):∀ d∈c,d∈Bh p:=fun d hd=>by
 unfold GR at hc;rcases EW.1 hc with e | hc
 ·unfold Jp at hb;rcases EW.1 hb with rfl | hb
  · rw [e] at hd;cases hd
  ·obtain ⟨X,hX,rfl⟩:=ED.1 hb;have e':c=X:=e;subst e';exact (h.Gq (Ku.1 hX).1).2 d hd
 · exact (h.Gq (Vt.1 (QE.1 hc).1).1).2 d hd
theorem Valid.alT {b:Option (List Int)} (hb:b∈Jp p):(Hy p b).length<=33280:=by
 rw [awK];have h1:=h.awI hb;have h2:=h.awJ (X:=(GR p b).flatten) (fun d hd=>by
  obtain ⟨c,hc,hd⟩:=aAP.1 hd;exact h.alS hb hc d hd)
 omega
theorem Valid.awL (b:Option (List Int)):(aN p b).length<=256:=by
 unfold aN;rw [Cj];have:=OA (fun n=>decide (Na p.AP n.id=0/\Ie p n.pt=b)) p.nodes
 have:=h.jU
 omega
end
def XG (p:Pl) (C:List (List Int)) (k:Nat):List (Pt×Pt):=(C.take k).flatMap (DV p)
theorem awM (p:Pl) {C:List (List Int)} {k:Nat} (hk:k<C.length):XG p C (k+1)=XG p C k++DV p C[k]:=by
 unfold XG;rw [F7 hk,LC];simp
theorem awN (p:Pl) (C:List (List Int)) (k:Nat):(XG p C k).length<=(C.flatMap (DV p)).length:=by
 have e:C.flatMap (DV p)=XG p C k++(C.drop k).flatMap (DV p):=by
  unfold XG;rw [<- LC,Zo]
 rw [e,ER];omega
theorem foldl_snoc {α:Type}:∀ (l s:List α),l.foldl (fun s q=>s++[q]) s=s++l
 | [],s=>(JA s).symm
 | q::l,s=>by rw [UD,foldl_snoc l];simp
theorem alU:∀ (m:Nat) (l:List Int) (h:2*m+1<l.length),Jr (l.take (2*(m+1)))=Jr (l.take (2*m))++JJ (l[2*m]'(by omega)) l[2*m+1]
 | 0,a::b::l,_=>by
  show Jr [a,b]=Jr []++JJ a b
  unfold Jr Jr;simp
 | m+1,a::b::l,h=>by
  simp only [IU] at h;have ih:=alU m l AB;have e1:(a::b::l).take (2*(m+1+1))=a::b::l.take (2*(m+1)):=by rw [show 2*(m+1+1)=2*(m+1)+1+1 by omega];rfl
  have e2:(a::b::l).take (2*(m+1))=a::b::l.take (2*m):=by rw [show 2*(m+1)=2*m+1+1 by omega];rfl
  rw [e1,e2,Jr,Jr,ih,KW];rfl
theorem alV:∀ (m:Nat) (l:List Int),2*m<=l.length->l.length<=2*m+1->Jr (l.take (2*m))=Jr l
 | 0,l,_,h=>by
  match l,h with
  | [],_=>rfl
  | [a],_=>rfl
 | m+1,[],h,_=>by simp at h
 | m+1,[a],h,_=>by simp at h;omega
 | m+1,a::b::l,h1,h2=>by
  simp only [IU] at h1 h2;have e2:(a::b::l).take (2*(m+1))=a::b::l.take (2*m):=by rw [show 2*(m+1)=2*m+1+1 by omega];rfl
  rw [e2,Jr,Jr,alV m l AB AB]
theorem alW:∀ (n:Nat) (l:List Int),l.length<=n->(Jr l).length<=l.length
 | _,[],_=>by unfold Jr;simp
 | _,[a],_=>by unfold Jr;simp
 | n+1,a::b::l,h=>by
  simp only [IU] at h;have ih:=alW n l AB;rw [Jr,ER];have:(JJ a b).length<=1:=by unfold JJ;split<;>simp
  simp only [IU];omega
 | 0,a::b::l,h=>by simp at h
theorem awO (bs:List Rn):Ob (Pz []) bs=[]:=rfl
theorem awP {l:List Rn} {k:Nat} (hk:k<l.length):fQ (l.take (k+1))=aeh (fQ (l.take k)) l[k]:=by
 unfold fQ;rw [F7 hk,Oi];rfl
theorem axr {α:Type} {g:Nat->Option α} {N D:Nat} {v:α} (h:∀ i,i<D->g i=none) (hv:g D=some v) (hD:D<N):(List.range N).findSome? g=some v:=by
 have e:List.range N=List.range D++D::(List.range N).drop (D+1):=by
  have h1:D<(List.range N).length:=by rw [PO];exact hD
  have h2:(List.range N).take D=List.range D:=by rw [List.take_range];congr 1;omega
  have h3:(List.range N)[D]=D:=List.getElem_range _;have:=(Zo D (List.range N)).symm
  rw [Ql h1,h2,h3] at this;exact this
 rw [e,List.findSome?_append,List.findSome?_cons,hv];have:(List.range D).findSome? g=none:=List.findSome?_eq_none_iff.2 fun i hi=>h i (Et.1 hi)
 rw [this];rfl
theorem axt {α:Type} {g:Nat->Option α} {N:Nat} (h:∀ i,i<N->g i=none):(List.range N).findSome? g=none:=List.findSome?_eq_none_iff.2 fun i hi=>h i (Et.1 hi)
theorem yT (p:Pl) (b:Option (List Int)) {y0 y1 y:Int} (h:y<y0\/y1<y):midRow p b y0 y1 y=none:=by unfold midRow;rw [AZ h]
theorem axu (p:Pl) (b:Option (List Int)) {y0 y1 y:Int} (h:¬ (y<y0\/y1<y)):midRow p b y0 y1 y=((fQ (VI p b y)).2).map fun x=>⟨x,y⟩:=by unfold midRow;rw [AX h]
theorem axv (p:Pl) (b:Option (List Int)) {y0 y1:Int} {D:Nat} (h:∀ i,i<D->midD p b y0 y1 ((y0+y1) / 2) i=none) (h1:y1<(y0+y1) / 2+D) (h2:(y0+y1) / 2-D<y0):aaB p b y0 y1=none:=by
 refine axt fun i hi=>?_;by_cases c:i<D
 · exact h i c
 ·unfold midD;rw [yT p b (.inr AB),yT p b (.inl AB)];rfl
theorem axw (p:Pl) (b:Option (List Int)) {y0 y1:Int} {D:Nat} {v:Pt} (h:∀ i,i<D->midD p b y0 y1 ((y0+y1) / 2) i=none) (hv:midD p b y0 y1 ((y0+y1) / 2) D=some v):aaB p b y0 y1=some v:=by
 refine axr h hv ?_;have:¬ (y1<(y0+y1) / 2+D/\(y0+y1) / 2-D<y0):=fun c=>by
  unfold midD at hv;rw [yT p b (.inr c.1),yT p b (.inl c.2)] at hv
  cases hv
 omega
open Go.RowKit Go.Sort
structure XH (w:World) (B g1 g2 g3:Nat) (y:Int) (S:List (Pt×Pt)) (T:List Rn) (w2 W:World):Prop where
 st:∃ vt vc,Sr W B g1 g2 g3 y (S.flatMap (Q5 y)++T) (S.flatMap (Ic y)) vt vc
 kept:J9 B g2 g3 w2 W
 below:AU w W
theorem XH.drew {w:World} {B g1 g2 g3:Nat} {y:Int} {S:List (Pt×Pt)} {T:List Rn} {w2 W:World} (h:XH w B g1 g2 g3 y S T w2 W):XH w B g1 g2 g3 y S T w2 W.drew:=by
 obtain ⟨⟨vt,vc,hs⟩,hk,hb⟩:=h;exact ⟨⟨vt,vc,hs.keep (bD (bR W))⟩,hk.trans ⟨fun w0 k _ _ _=>bD k,Dc _,fun _ _ _ _=>rfl⟩,bD hb⟩
theorem J9.base {B g2 g3:Nat} {w W W':World} (h:J9 B g2 g3 W W') (hb:AU w W) (k1:w.heap.size<=B) (k2:w.heap.size<=g2) (k3:w.heap.size<=g3):Below w.heap.size W W':=by
 have b:=h.below w hb k1 k2 k3;exact ⟨b.os.trans hb.os.symm,b.tape.trans hb.tape.symm,b.output.trans hb.output.symm,h.size,fun k hk=>h.blk k (LW hk k1) AB AB⟩
theorem axx (w w2:World) (gm:Nat) (p:Pl) (f:Int->SV) (hpm:Qe w gm p f) (hv:Valid p) (vc:Value) (X:List Int) (hX:Ints w vc X) (hd:∀ d∈X,d∈Bh p) (B g1 g2 g3:Nat) (y:Int) (S:List (Pt×Pt))
  (hl:S.length+(DV p X).length<=40000) (hB:B<=w2.heap.size) (hg1:g1<B) (k1:w.heap.size<=B) (k2:w.heap.size<=g2) (k3:w.heap.size<=g3) (W:World) (h0:XH w B g1 g2 g3 y S [] w2 W) :
  Calls Tryz.prog 79 #[.map (some gm),vc,.func (.func 202) #[] #[.pointer (some ⟨g1,0,none⟩),.pointer (some ⟨g2,0,none⟩),.pointer (some ⟨g3,0,none⟩)]] W fun e W'=>e=.returned (.tuple #[])/\XH w B g1 g2 g3 y (S++DV p X) [] w2 W':=by
 refine (axE w gm p f hpm hv vc X hX hd g1 g2 g3 (fun s W=>XH w B g1 g2 g3 y (S++s) [] w2 W) (fun s q=>s++[q]) (fun s W h=>h.below) (fun s W h=>h.drew) [] (fun S0 W q r hs h=>?_) W (by simpa using h0)).mono ?_
 ·rw [foldl_snoc,Qj] at h ⊢;obtain ⟨⟨vt,vc,hst⟩,hk,hb⟩:=h;rw [JA] at hst;have hq:q∈DV p X:=by rw [hs];simp
  have hlen:(S++S0).length<=40000:=by
   have:=congrArg List.length hs
   simp only [ER,IU] at this ⊢;omega
  have l1:=lX (Q5 y) (afV y) (S++S0);have l2:=lX (Ic y) (alQ y) (S++S0);obtain ⟨a,ha,-,k,hk',rfl⟩:=hv.aCj hd hq;refine (awg _ _ (hv.aaC ha AB) (hv.aaC ha hk') y B g1 g2 g3 _ _ vt vc W hst (EH hB hk.size) hg1 AB AB).mono ?_;rintro e W' ⟨rfl,⟨vt',vc',hst'⟩,hk2⟩;refine ⟨rfl,⟨⟨vt',vc',?_⟩,hk.trans hk2,hk2.below w hb k1 k2 k3⟩,hk2.base hb k1 k2 k3⟩;rw [JA,<- KW,LC,LC];simpa using hst'
 ·rintro e W' ⟨rfl,h,-⟩;rw [foldl_snoc,Qj] at h;exact ⟨rfl,h⟩
theorem J9.own {B g2 g3:Nat} {W W':World} (h:J9 B g2 g3 W W') {α:Type} {B0:Nat} {e:TypeId} {n:Nat} {f:α->List Value} {v:Value} {l:List α} (ho:Own W B0 e n f v l) (hB:W.heap.size<=B) (h1:v.ownBlock≠some g2) (h2:v.ownBlock≠some g3):Own W' B0 e n f v l:=by
 obtain ⟨h0,h3⟩:=ho;refine ⟨h0,?_⟩;rcases h3 with h3 | ⟨q,cap,cur,rfl,a1,a2,a3⟩
 · exact .inl h3
 · exact .inr ⟨q,cap,cur,rfl,a1,J9.keep h (cs:=cur) a2 (LW (AO.lt a2) hB) (fun e=>h1 (by rw [e];rfl)) (fun e=>h2 (by rw [e];rfl)),a3⟩
theorem XH.step {w:World} {B g1 g2 g3:Nat} {y:Int} {S:List (Pt×Pt)} {T:List Rn} {w2 W W':World} (h:XH w B g1 g2 g3 y S T w2 W) (hB:B<=w2.heap.size) (hb:AU W W'):XH w B g1 g2 g3 y S T w2 W':=by
 obtain ⟨⟨vt,vc,hs⟩,hk,hw⟩:=h;exact ⟨⟨vt,vc,hs.keep hb⟩,hk.trans (J9.of (EH hB hk.size) hb),bT hw hb⟩
theorem axy (v:Value) (p:Pl) (w:World) (h:Ci w v p) (hv:Valid p) (gm:Nat) (f:Int->SV) (hpm:Qe w gm p f) (x:AD) (b:Option (List Int)) (hb:b∈Jp p)
  (ho:Ints w (BK x.ov) x.out) (hi:Sl w (BK x.iv) x.inn.length (x.inn.flatMap Ia)) (hc:∀ c∈x.inn,Ints w (BK c.2) c.1) (ha:Ints w (BK x.av) x.DC) (hcy:(MB x).map (·.1)=GR p b) (hal:x.DC=aN p b) (y:Int) :
  Calls Tryz.prog 140 #[.map (some gm),v,.agg #[.int .i64 x.tw,BK x.ov,BK x.iv,BK x.av],.int .i64 y] w (aeX w (VI p b y)):=by
 have hnl:=hv.jU;have hli:x.inn.length<=512:=by
  have e1:=congrArg List.length hcy;have h2:=OA (fun c=>decide (Ie p (RG p c)=b)) (Js p);have h3:(Js p).length<=(Ce p).length:=OA _ _;have h4:=hv.U5;unfold MB GR Vu at e1;simp only [FM,IU,Cj] at e1;omega
 have hsl:=hv.alT hb;have hal2:x.DC.length<=256:=by rw [hal];exact hv.awL b
 have MX:=AA (fun W (hW:AU w W)=>adp x W (hi.mono hW) AB);have fH:=AA (fun id W (hW:AU w W)=>abw v p id W (h.mono hW));have Jo:=AA (show ∀ c∈MB x,Ints w (BK c.2) c.1 from fun c hc'=>by
  unfold MB at hc';rcases EW.1 hc' with rfl | hc'
  · exact ho
  · exact hc c hc')
 have PY:=AA (@aiv);have Zh:=AA (fun id n (e:J3 p.nodes id=some n)=>hv.akp (VO e));have Po:=AA hsl;have OX:=AA (@awn);have WG:=AA (fun w2 vc X hX hd B g1 g2 g3 S hl hB hg1 k1 k2 k3 W h0=>axx w w2 gm p f hpm hv vc X hX hd B g1 g2 g3 y S hl hB hg1 k1 k2 k3 W h0);obtain ⟨CL,hCL⟩:=BN (MB x);obtain ⟨C,hC⟩:=BN (GR p b);have hll:CL.length<=513:=by rw [<- hCL];unfold MB;rw [IU];omega
 rw [hCL] at MX Jo hcy;rw [hC] at hcy;have hcd:∀ c∈C,∀ d∈c,d∈Bh p:=fun c hc=>by rw [<- hC] at hc;exact hv.alS hb hc
 have HCd:=AA hcd;have HMp:=AA hcy;have hlc:C.length=CL.length:=by rw [<- hcy,Cj]
 have HSB:=AA (show Hy p b=XG p C C.length by unfold Hy XG;rw [hC,I4]);have hle:∀ k,(XG p C k).length<=33280:=fun k=>by
  have:=awN p C k
  have e:C.flatMap (DV p)=Hy p b:=by unfold Hy;rw [hC]
  rw [e] at this;omega
 have zk:=AA hle;have zl:=AA hlc;obtain ⟨R,hR⟩:=BN (VI p b y);have HR:=AA (show R=Ob (Pz (Jr (fD ((Hy p b).flatMap (Ic y))))) (Pz ((Hy p b).flatMap (Q5 y)++fE p b y)) from hR.symm);rw [hR];have Xt:=AA (show ∀ k,(x.DC.take k).flatMap (Q7 p.nodes y)=((aN p b).take k).flatMap (Q7 p.nodes y) from fun k=>by rw [hal]);have lV:=AA (show fE p b y=x.DC.flatMap (Q7 p.nodes y) by unfold fE;rw [hal]);have HAi:=AA ha;clear hCL hC hcy hcd hlc hle hR hal ho hi hc hpm hb hli hsl;obtain ⟨_,_,_,al,rfl,-,⟨An,cn,rfl,-⟩,⟨⟨Aa,ca,rfl,-⟩,-⟩,⟨Af,cf,rfl,-⟩⟩:=h;obtain ⟨tw,out,⟨oa,on,oc⟩,inn,⟨ia,II,ic⟩,DC,⟨aa,an,ac⟩⟩:=x;unfold BK at MX ha ⊢;simp only at MX ha hal2 Xt lV HAi ⊢;obtain ⟨Ax,cx,he,-⟩:=ha;injection he with q1 q2 q3;subst q1 q2 q3;generalize hnn:p.nodes.length=nn at *;generalize al.length=na at *;generalize p.faces.length=nf at *;clear hv;go_enter Tryz.func140,Tryz.ntmps140;go_upto_region 4 with fail;obtain ⟨W1,hW⟩:∃ W:World,W=((((w.alloc (.cells #[.slice An nn cn,.slice Aa na ca,.slice Af nf cf] 26)).alloc (.cells #[.int .i64 tw,.slice oa on oc,.slice ia II ic,.slice aa DC.length ac] 82)).alloc (.cells #[.int .i64 y] 3)).alloc (.cells #[.slice none 0 0] 24)).alloc (.cells #[.slice none 0 0] 124):=⟨_,rfl⟩;have X5:AO W1 w.heap.size 26 #[.slice An nn cn,.slice Aa na ca,.slice Af nf cf]:=by rw [hW];exact ((((AO.made rfl _ _).alloc _).alloc _).alloc _).alloc _
 have X6:AO W1 (w.heap.size+1) 82 #[.int .i64 tw,.slice oa on oc,.slice ia II ic,.slice aa DC.length ac]:=by rw [hW];exact (((AO.made Ak _ _).alloc _).alloc _).alloc _
 have X7:AO W1 (w.heap.size+1+1) 3 #[.int .i64 y]:=by rw [hW];exact ((AO.made Ak _ _).alloc _).alloc _
 have X9:AO W1 (w.heap.size+1+1+1) 24 #[.slice none 0 0]:=by rw [hW];exact (AO.made Ak _ _).alloc _
 have LH:AO W1 (w.heap.size+1+1+1+1) 124 #[.slice none 0 0]:=by rw [hW];exact AO.made Ak _ _
 have hA:AU w W1:=by rw [hW];exact bA (bA (bA (bA (bA (bR w) _) _) _) _) _
 have hsz:W1.heap.size=w.heap.size+5:=by rw [hW];simp
 have HA:=AA hA;have DI:=AA X5;have IX:=AA X6;have Ip:=AA X7;have MR:=AA X9;have U2:=AA LH;rw [<- hW];clear hW hA;obtain ⟨g5,h5⟩:∃ g,w.heap.size=g:=⟨_,rfl⟩;obtain ⟨g6,h6⟩:∃ g,w.heap.size+1=g:=⟨_,rfl⟩;obtain ⟨g7,h7⟩:∃ g,w.heap.size+1+1=g:=⟨_,rfl⟩;obtain ⟨g9,h9⟩:∃ g,w.heap.size+1+1+1=g:=⟨_,rfl⟩;obtain ⟨g11,h11⟩:∃ g,w.heap.size+1+1+1+1=g:=⟨_,rfl⟩;have hn:w.heap.size<=g5/\g5<g6/\g6<g7/\g7<g9/\g9<g11/\g11<W1.heap.size:=by omega
 rw [h11] at LH U2 ⊢;rw [h9] at X9 MR ⊢;rw [h7] at X7 Ip ⊢;rw [h6] at X6 IX ⊢;rw [h5] at X5 DI ⊢;clear h5 h6 h7 h9 h11;obtain ⟨EK,EL,EM,ML,QM,-,-,-,-⟩:=X6.N7;go_wp2_with fail;refine (MX.out _ HA.out).mono ?_;rintro e w2 ⟨⟨Ac,cc,rfl,hown⟩,hb2⟩;have HO:=AA hown;have HB2:=AA (bT HA.out hb2);have HS0:=AA (show Sr w2 w2.heap.size g7 g11 g9 y [] [] (.slice none 0 0) (.slice none 0 0) from ⟨Ip.out.keep hb2,⟨U2.out.keep hb2,Own.nil _ _ _ _ _⟩,⟨MR.out.keep hb2,Own.nil _ _ _ _ _⟩⟩);have hs2:=hb2.size;replace DI:=AA (DI.out.keep hb2);replace IX:=AA (IX.out.keep hb2);have hw2:w.heap.size<=w2.heap.size:=by omega
 clear hb2 hown MX HA Ip MR U2 X5 X6 EK EL EM ML QM X7 X9 LH;go_upto_block 0 with fail;go_wp2_with fail;go_loopw [24] (fun i wr=>∃ k:Nat,k<=CL.length/\i=.int .i64 k/\XH w w2.heap.size g7 g11 g9 y (XG p C k) [] w2 wr) (fun i _=>CL.length-(intOf i).toNat)
 case atStart => exact ⟨0,Bv _,rfl,⟨⟨_,_,HS0.out⟩,J9.refl _ _ _ _,HB2.out⟩⟩
 case round =>
  obtain ⟨k,hk,rfl,hr⟩:=hrel;obtain ⟨wo,rfl⟩:=BR wr;have Ny:=AA hr;clear hr HS0;by_cases hlt:k<CL.length
  ·have hOr:=Ny.out.kept.own HO.out (Dc _) (fun e=>by have:=(HO.out.lt g11 e).1;omega) (fun e=>by have:=(HO.out.lt g9 e).1;omega);obtain ⟨A',c',he,-,-,Jb⟩:=hOr.sl;injection he with q1 q2 q3;subst q1 q3;clear q2;obtain ⟨b',o',rfl,hlb,c0⟩:=Jb.cy hlt;have hkC:k<C.length:=by rw [zl.out];exact hlt
   have hCk:=jd HMp.out hlt hkC;have hcs:=awM p hkC;have hl1:=zk.out (k+1);have hii:=Jo.out _ (BO hlt);have hdd:=HCd.out _ (BO hkC);rw [hCk] at hcs hdd;rw [hcs,ER] at hl1;have HC:=AA (fun W h0=>WG.out w2 _ _ hii hdd w2.heap.size g7 g11 g9 (XG p C k) AB (Dc _) AB hw2 AB AB W h0);generalize CL[k]=X at *;obtain ⟨X,⟨sa,sn,sc⟩⟩:=X;unfold BK at HC;simp only at c0 HC hcs;have HCs:=AA hcs;clear hOr Jb hii hdd hCk hkC hcs hl1;go_wp2_with fail;refine (HC.out _ Ny.out).mono ?_;rintro e w4 ⟨rfl,hr2⟩;have HR2:=AA hr2;clear hr2;go_wp2;go_roundw
   case rel => exact ⟨k+1,AB,BJ,by rw [HCs.out];exact HR2.out⟩
   case measure => exact BL
  ·obtain rfl:k=CL.length:=by omega
   have pJ:=Ny.out;rw [<- zl.out,<- HSB.out] at pJ;have HR1:=AA pJ;clear pJ Ny;have hw3:=HR1.out.kept.size;have X6:=HR1.out.kept.keep IX.out AB AB AB;obtain ⟨wA,rfl⟩:=BR wo;clear WG Jo HCd HMp zk HO HSB HB2 IX
   try clear EK EL EM ML QM
   obtain ⟨EK,EL,EM,ML,QM,-,-,-,-⟩:=X6.N7;go_upto_block 2 with fail;clear X6 EK EL EM ML QM;go_wp2_with fail;go_loopw [36] (fun i wr=>∃ k:Nat,k<=DC.length/\i=.int .i64 k/\XH w w2.heap.size g7 g11 g9 y (Hy p b) ((DC.take k).flatMap (Q7 p.nodes y)) w2 wr) (fun i _=>DC.length-(intOf i).toNat)
   case atStart => exact ⟨0,Bv _,rfl,HR1.out⟩
   case round =>
    obtain ⟨k,hk,rfl,hr⟩:=hrel;obtain ⟨wo,rfl⟩:=BR wr;have Ny:=AA hr;clear hr HR1;by_cases hlt:k<DC.length
    ·obtain ⟨A',c',he,-,-,Jb⟩:=HAi.out.mono Ny.out.below;injection he with q1 q2 q3;subst q1 q3;clear q2;obtain ⟨b',o',rfl,hlb,c0⟩:=Jb.int hlt;have hts:(DC.take (k+1)).flatMap (Q7 p.nodes y)=(DC.take k).flatMap (Q7 p.nodes y)++Q7 p.nodes y DC[k]:=by
      rw [F7 hlt,LC];simp
     obtain ⟨F,hF⟩:=BN (Q7 p.nodes y DC[k]);rw [hF] at hts;have HTs:=AA hts;have hlen:((DC.take k).flatMap (Q7 p.nodes y)).length<=256:=by
      have:=lX (Q7 p.nodes y) (alR p.nodes y) (DC.take k)
      rw [Iw] at this;omega
     clear hts Jb;unfold Q7 at hF;generalize DC[k]=id at *;have hs3:=Ny.out.kept.size;have X5:=Ny.out.kept.keep DI.out AB AB AB;have HN:=AA (fun W (hW:AU wo W)=>fH.out id W (bT Ny.out.below hW));unfold iP at HN;obtain ⟨fn,hfn⟩:=BN (J3 p.nodes id);rw [hfn] at HN hF;have HF:=AA hF;have HBg:=AA (fun n (e:fn=some n)=>Zh.out id n (hfn.trans e));clear hfn hF;obtain ⟨CJ,CO,CS,F8,-,-,-⟩:=X5.Az
     cases fn with
     | none =>
      replace HN:=AA (show ∀ W,AU wo W->Calls Tryz.prog 74 #[.agg #[.slice An nn cn,.slice Aa na ca,.slice Af nf cf],.int .i64 id] W fun e w'=>e=.returned (.tuple #[.agg #[.int .i64 0,.int .i64 0,.int .i64 0],.bool false])/\AU W w' from HN.out);go_wp2_with fail;refine (HN.out _ (bR wo)).mono ?_;rintro e w4 ⟨rfl,hb4⟩;have HB4:=AA hb4;clear hb4 X5 CJ CO CS F8 HN;go_wp2;go_roundw
      case rel =>
       have hf:F=[]:=HF.out.symm;exact ⟨k+1,AB,BJ,by rw [HTs.out,hf,JA];exact Ny.out.step (Dc _) (bA HB4.out _)⟩
      case measure => exact BL
     | some n =>
      have hbg:=(HBg.out n rfl).1;obtain ⟨ni,⟨nx,ny⟩⟩:=n;simp only at hbg;replace HN:=AA (show ∀ W,AU wo W->Calls Tryz.prog 74 #[.agg #[.slice An nn cn,.slice Aa na ca,.slice Af nf cf],.int .i64 id] W fun e w'=>e=.returned (.tuple #[.agg #[.int .i64 ni,.int .i64 nx,.int .i64 ny],.bool true])/\AU W w' from HN.out);have hf:F=if ny=y then [⟨nx,nx+1⟩] else []:=HF.out.symm;have HF2:=AA hf;clear hf HF;go_wp2_with fail;refine (HN.out _ (bR wo)).mono ?_;rintro e w4 ⟨rfl,hb4⟩;have HB4:=AA hb4;clear hb4 X5 CJ CO CS F8 HN;go_upto_region 13 with fail;obtain ⟨W5,hW⟩:∃ W:World,W=w4.alloc (.cells #[.int .i64 ni,.int .i64 nx,.int .i64 ny] 45):=⟨_,rfl⟩;have X17:AO W5 w4.heap.size 45 #[.int .i64 ni,.int .i64 nx,.int .i64 ny]:=by rw [hW];exact AO.made rfl _ _
      have HRv:=AA (Ny.out.step (Dc _) (show AU wo W5 by rw [hW];exact bA HB4.out _));obtain ⟨g17,h17⟩:∃ g,w4.heap.size=g:=⟨_,rfl⟩;rw [<- hW]
      try rw [h17]
      rw [h17] at X17;clear hW h17 Ny HB4;obtain ⟨⟨vt,vc,hst⟩,hkp,hbw⟩:=HRv.out;have DU:=AA hst;have U3:=AA hkp;have Ep:=AA hbw;have XR:=hst.row;clear hst hkp hbw HRv;obtain ⟨azz,azE,azF,azG,-,-,-⟩:=X17.Az;obtain ⟨zN,zO,-⟩:=XR.Fb;by_cases hy:ny=y
      ·have hf:=HF2.out;rw [AZ hy] at hf;subst hf;subst hy;have hll:((Hy p b).flatMap (Q5 ny)++(DC.take k).flatMap (Q7 p.nodes ny)).length<=40000:=by
        have:=lX (Q5 ny) (afV ny) (Hy p b)
        have:=Po.out
        rw [ER];omega
       obtain ⟨L,hL⟩:=BN ((Hy p b).flatMap (Q5 ny)++(DC.take k).flatMap (Q7 p.nodes ny));rw [hL] at DU hll;have HL:=AA hL;obtain ⟨At,ct,hvt,-⟩:=DU.out.tkn.own.sl;subst hvt;have hB5:w2.heap.size<=W5.heap.size:=U3.out.size;have LH:=DU.out.tkn.box;have U2:=AA LH;have kw:IntKind.i64.wrap (nx+1)=nx+1:=D6 _ AB;have hsh:(L++[(⟨nx,nx+1⟩:Rn)]).length=L.length+1:=by simp
       have DW:=AA hsh;clear hL hsh HF2;obtain ⟨WZ,Wh,alX⟩:=LH.Fb;go_wp2_with
        (at_builtin
         refine FK _ rfl (.tmp 54) (.tmp 63) _ rfl (base:=w2.heap.size) ZR YC ZQ rfl (Own.alloc DU.out.tkn.own _) rfl (l2:=[(⟨nx,nx+1⟩:Rn)]) (Sl.lit (n:=1) (AO.made rfl _ _) rfl (DN AB)) DZ DZ DT ?_;intro v3 w3 ho3 hg3 LK;obtain ⟨A3,c3,hv3,-⟩:=ho3.sl;rw [DW.out] at hv3;subst hv3;have HG:=AA (DU.out.afQ U3.out.size hg3 ho3);have Q8:=AO.grown (U2.out.alloc _) hg3 (fun e=>Own.Dz DU.out.tkn.own U2.out Aw e.symm);clear ho3 hg3 LK LH WZ Wh alX;obtain ⟨gG,gI,gJ⟩:=Q8.Fb
         )
       go_roundw
       case rel => exact ⟨k+1,AB,BJ,⟨⟨_,_,by rw [HTs.out,<- KW,HL.out];exact HG.out.1⟩,U3.out.trans HG.out.2,HG.out.2.below w Ep.out hw2 AB AB⟩⟩
       case measure => exact BL
      ·have hf:=HF2.out;rw [AX hy] at hf;have HFn:=AA hf;clear hf HF2;go_wp2;go_roundw
       case rel => exact ⟨k+1,AB,BJ,by rw [HTs.out,HFn.out,JA];exact ⟨⟨_,_,DU.out⟩,U3.out,Ep.out⟩⟩
       case measure => exact BL
    ·obtain rfl:k=DC.length:=by omega
     have pJ:=Ny.out;rw [I4,<- lV.out] at pJ;obtain ⟨⟨vt,vc,hst⟩,hkp,hbw⟩:=pJ;have hlt1:((Hy p b).flatMap (Q5 y)++fE p b y).length<=40000:=by
      have h1:=lX (Q5 y) (afV y) (Hy p b);have h2:=lX (Q7 p.nodes y) (alR p.nodes y) DC;have h3:=Po.out;rw [lV.out,ER];omega
     have amc:((Hy p b).flatMap (Ic y)).length<=33280:=EH (lX (Ic y) (alQ y) (Hy p b)) Po.out;have hr0:=HR.out;obtain ⟨L,hL⟩:=BN ((Hy p b).flatMap (Q5 y)++fE p b y);obtain ⟨M,hM⟩:=BN ((Hy p b).flatMap (Ic y));rw [hL] at hst hlt1 hr0;rw [hM] at hst amc hr0;have HR2:=AA hr0;have DU:=AA hst;have U3:=AA hkp;have Ep:=AA hbw;obtain ⟨wB,rfl⟩:=BR wo;clear hL hM hr0 hst hkp hbw HR Ny fH Zh Po Xt lV HAi DI;obtain ⟨Am,cm,tY,hm1,hm2,-⟩:=DU.out.Kz.own.sl;subst tY;have X9:=DU.out.Kz.box;obtain ⟨Gv,Gw,-⟩:=X9.Fb;have pK:=DU.out.Kz.own;go_wp2_with fail;refine (PY.out w2.heap.size _ M _ pK AB).mono ?_;rintro e w3 ⟨rfl,hq,hg3⟩;have amd:=Own.Dz pK DU.out.Kz.box Aw;have hB3:AU w w3:=bG Ep.out hg3 (fun k hk=>EH hw2 (pK.lt k hk).1);have HQo:=AA hq;have MR:=AA (AO.grown DU.out.Kz.box hg3 (fun e=>amd e.symm));have bJ:=AA (AO.grown DU.out.tkn.box hg3 (fun e=>Own.Dz pK DU.out.tkn.box Aw e.symm));have HTo:=AA (Own.grown DU.out.tkn.own hg3 (fun g hg=>Own.apart DU.out.tkn.own pK Aw g hg));have HB3:=AA hB3;have hq2:=aum M;have Uw:=ait M;obtain ⟨Q,hQ⟩:=BN (Pn M);rw [hQ] at HQo hq2 Uw;rw [<- hq2] at HR2;rw [<- Uw] at amc MR HQo ⊢;obtain ⟨wC,rfl⟩:=BR w3;clear hQ hq2 Uw hq hg3 pK amd hB3 DU U3 Ep X9 Gv Gw PY;go_upto_block 4 with fail;go_wp2_with fail;go_loopw [19,10] (fun i s wr=>∃ (j:Nat) (O:List Rn),j<=Q.length/\i=.int .i64 ((j:Int)+1)/\(∃ A c,s=.slice A O.length c)/\Own wr wC.heap.size 121 2 GZ s O/\(∃ m,j=2*m/\O=Jr (Q.take j))/\AU wC wr) (fun i _ _=>Q.length-(intOf i).toNat)
     case atStart => exact ⟨0,[],Bv _,rfl,⟨_,_,rfl⟩,Own.nil _ _ _ _ _,⟨0,rfl,rfl⟩,bR wC⟩
     case round =>
      obtain ⟨j,O,hj,rfl,⟨Ao,co,rfl⟩,Xz,hjm,Eo⟩:=hrel;obtain ⟨wo,rfl⟩:=BR wr;have Nk:=AA Xz;have HJm:=AA hjm;have FP:=AA Eo;have X9:=MR.out.keep Eo;have abA:=Eo.size;have hOl:O.length<=40000:=by
       obtain ⟨m,-,rfl⟩:=hjm;have:=alW _ (Q.take j) (Dc _)
       have:=aao j Q
       omega
      clear Xz hjm Eo;by_cases hlt:j+1<Q.length
      ·obtain ⟨Aq,cq,he,-,-,hRq⟩:=HQo.out.sl;injection he with q1 q2 q3;subst q1 q3;clear q2;obtain ⟨b',o',rfl,hlb,c0⟩:=Row.int hRq (k:=j) AB;obtain ⟨b'',o'',he,-,c1⟩:=Row.int hRq hlt;injection he with he;injection he with q1 q2 _;subst q1 q2;replace c0:=Eh FP.out c0;replace c1:=Eh FP.out c1;have Je:=MR.out.lt;have hlo:b'<wo.heap.size:=LW hlb abA;have hgt:∀ m,j=2*m->Jr (Q.take (j+2))=Jr (Q.take j)++JJ (Q[j]'(by omega)) Q[j+1]:=fun m hm=>by
        subst hm;exact alU m Q hlt
       have HGt:=AA hgt;clear hgt hRq;generalize Q[j+1]=x2 at *;generalize Q[j]=x1 at *;have k2:IntKind.i64.wrap ((j:Int)+1-1)=j:=by rw [show (j:Int)+1-1=j by omega];exact D6 _ AB
       have k3:(j:Int)<Q.length:=by omega
       have k8:IntKind.i64.wrap (j:Int)=j:=D6 _ AB;have k4:0<=(j:Int):=by omega
       have k5:(j:Int)+1-1=j:=by omega
       have k6:(j:Int)+1<Q.length:=by omega
       have k7:0<=(j:Int)+1:=by omega
       try clear Gv Gw
       obtain ⟨Gv,Gw,-⟩:=X9.Fb;go_upto_region 20 with fail;refine DJ (wo) (.run 10 0 0 (.done)) fun CU QR Ae Ah hS=>?_
       iterate 10 refine Aj ?_
       refine DF ?_;clear hS Ah Ae;intro hB;skip;obtain ⟨wd,hwd⟩:=BR wo.drew;have ame:=AA (X9.keep hB);have V8:=AA (Nk.out.keep hB);have MQ:=AA (bT FP.out hB);have d0:=Eh hB c0;have d1:=Eh hB c1;have hld:b'<wd.heap.size:=by rw [hwd];exact LW (LW hlb abA) hB.size
       have apB:wC.heap.size<=wd.heap.size:=by rw [hwd];exact EH abA hB.size
       rw [<- hwd] at ame V8 MQ d0 d1 ⊢;clear hwd hB X9 Gv Gw c0 c1 Nk FP abA hlo;have X9:=ame.out;by_cases hx:x1<x2
       ·have hsh:(O++[(⟨x1,x2⟩:Rn)]).length=O.length+1:=by simp
        have DW:=AA hsh;clear hsh
        try clear Gv Gw
        obtain ⟨Gv,Gw,-⟩:=X9.Fb;go_upto_region 21 with fail;refine Rz (wC.heap.size) (wd) (.run 11 0 0 (.call 11 4095 (.call 12 8191 (.take 13 16383 (.done))))) fun CU QR Ae Ah hS=>?_
        iterate 11 refine Aj ?_
        refine Bj ?_;clear hS;intro K hK AQ;go_simp;refine hK.out _ _ (IB AB AQ.out _) (fun hS=>?_);clear hK K AQ
        try simp only [pu]
        refine Bj ?_;clear hS;intro K hK AQ;refine JV (.tmp 84) (.tmp 95) _ rfl (base:=wC.heap.size) (l:=O) (l2:=[⟨x1,x2⟩]) ZR YC ZQ rfl (Own.alloc (V8.out.keep (bD (bR wd))) _) rfl (Sl.lit (n:=1) (AO.made rfl _ _) rfl (DN AB)) DZ DZ DT ?_;intro v9 wn nY hgn aeP;obtain ⟨A9,c9,xI,-⟩:=Own.Ig nY;rw [DW.out] at xI;subst xI;have aeQ:=AA nY;have hS:GK wC.heap.size wd wn:=Below.grown (Below.alloc (Below.drew (Below.refl _ _)) DT _) hgn DT (fun g hg=>(V8.out.lt g hg).1);clear nY hgn aeP;clear AQ;refine hK.out _ _ hS (fun _=>?_);clear hK K
        try simp only [pu]
        refine Aj ?_;refine LY ?_;clear hS Ah Ae;intro hB;go_wp2;go_roundw
        case rel => exact ⟨j+2,O++[⟨x1,x2⟩],AB,BJ,⟨A9,c9,by rw [DW.out]⟩,aeQ.out,(by obtain ⟨m,h1,h2⟩:=HJm.out;exact ⟨m+1,AB,by rw [HGt.out m h1,<- h2];unfold JJ;rw [AZ hx]⟩),Below.trans MQ.out hB⟩
        case measure => exact BL
       ·go_wp2;go_roundw
        case rel => exact ⟨j+2,O,AB,BJ,⟨_,_,rfl⟩,V8.out,(by obtain ⟨m,h1,h2⟩:=HJm.out;exact ⟨m+1,AB,by rw [HGt.out m h1,<- h2];unfold JJ;rw [AX hx,JA]⟩),MQ.out⟩
        case measure => exact BL
      ·obtain ⟨m,h1,h2⟩:=HJm.out;have hOe:O=Jr Q:=by
        rw [h2,h1];exact alV m Q AB AB
       have hr:=HR2.out;rw [<- hOe] at hr;have Wy:=AA hr;have LU:=AA (bT HB3.out FP.out);obtain ⟨At,ct,hvt,-⟩:=HTo.out.sl;subst hvt;have LH:=bJ.out.keep FP.out;have HTf:=AA (HTo.out.keep FP.out);clear hr hOe h2 HJm MR HQo bJ HTo HB3 HR2
       try clear Gv Gw
       obtain ⟨Gv,Gw,-⟩:=X9.Fb
       try clear WZ Wh
       try clear alX
       obtain ⟨WZ,Wh,-⟩:=LH.Fb;by_cases h0:O.length=0
       ·have hO:O=[]:=List.length_eq_zero_iff.1 h0;have hz:((O.length:Nat):Int)=0:=by omega
        have hr:=Wy.out;rw [hO,awO] at hr;have HR0:=AA hr;clear hr hO;go_wp2;go_ret;exact ⟨none,0,by rw [HR0.out];rfl,by rw [HR0.out];exact Own.nil _ _ _ _ _,LU.out⟩
       ·have hz:¬ ((O.length:Nat):Int)=0:=by omega
        go_wp2_with fail;refine (OX.out _ _ O L wo Nk.out.sl HTf.out.sl AB AB).mono ?_;rintro e w5 ⟨A,c,rfl,Di,hb5⟩;rw [<- Wy.out] at Di ⊢;have Fh:=AA Di;have Cm:=AA (bT LU.out hb5);have hsz5:=LU.out.size;clear Di hb5;go_wp2;go_ret;exact ⟨A,c,rfl,Fh.out.ES hsz5,Cm.out⟩
