import Derived.Test.YtpempeioeiaijaaGreatJ23
set_option linter.unusedSimpArgs false
set_option linter.unusedVariables false
set_option maxRecDepth 100000
set_option maxHeartbeats 8000000
namespace Go.Proofs.YtpempeioeiaijaaGreat
open Go.RowKit Go.Sort Tryz
def anZ (w:World) (P:List (List Pt)) (e:Ending) (w':World):Prop :=
 ∃ A c ys,e=.returned (.slice A ys.length c)/\AU w w'/\FY w' (.slice A ys.length c) ys/\ys.map (·.2)=P
theorem awq {x:SV×List Pt} {l:List (SV×List Pt)} {m:Nat} (hx:x.2.length<=m) (h:∀ y∈l,y.2.length<=m):∀ y∈Kv QJ x l,y.2.length<=m:=fun y hy=>by
 rcases (akB QJ x l).1 hy with rfl | hy
 · exact hx
 · exact h y hy
theorem awr (v:Value) (xs:List (SV×List Pt)) (w:World) (h:FY w v xs) (hg:UN (xs.map (·.2))) :
  Calls prog 41 #[v] w (anZ w (MP (xs.map (·.2)))):=by
 have hn:xs.length<=256:=by have:=hg.num;simpa using this
 have hmem:∀ k (hk:k<xs.length),xs[k].2∈xs.map (·.2):=fun k hk=>FZ (BO hk);have h4:∀ k (hk:k<xs.length),2<=xs[k].2.length/\xs[k].2.length<=4096:=fun k hk=>⟨hg.two _ (hmem k hk),hg.len _ (hmem k hk)⟩;have wZ:=AB (fun p W (hW:AU w W)=>amW v xs p W (h.mono hW) hn (fun k hk=>(h4 k hk).2) (fun k hk=>(h4 k hk).1));have hLk:∀ k (hk:k<xs.length),(xs.map (·.2)).take (k+1)=(xs.map (·.2)).take k++[xs[k].2]:=fun k hk=>by
  rw [Em Uc];simp
 have hLn:(xs.map (·.2)).length=xs.length:=by simp
 have hfin:WX ((xs.map (·.2)).flatMap (L8 (QI (xs.map (·.2)))))=MP (xs.map (·.2)):=by
  have e:QI (xs.map (·.2))=meets (xs.map (·.2)):=funext fun p=>amK (fun l hl e=>by have:=hg.two l hl;rw [e] at this;simp at this) p;rw [e];rfl
 obtain ⟨M,OT⟩:=BI (QI (xs.map (·.2)));rw [OT] at hfin;rw [OT] at wZ;have HPc:=AB (@awi);generalize xs.map (·.2)=L at *;obtain ⟨P,hP2⟩:=BI (MP L);rw [hP2] at hfin ⊢;have HFin:=AB hfin;obtain ⟨⟨A,c,rfl,hc1,hc2,hR⟩,hP⟩:=h;unfold maxLen at hc2;obtain ⟨HR,HP,H4,jS,HLn⟩:=I4 hR hP h4 hLk hLn;clear hR hP h4 hLk hmem hLn OT hg hfin hP2;go_enter func41,ntmps41;go_upto_block 0 with fail;go_wp2_with fail;go_loopw [3,4] (fun z u wr=>∃ (k:Nat) (ys:List (SV×List Pt)),k<=xs.length/\u=.int .i64 k/\FY wr z ys/\AU w wr/\ys.map (·.2)=WW EU ((L.take k).flatMap (L8 M))/\ys.length<=k*4096/\∀ y∈ys,y.2.length<=4096) (fun _ u _=>xs.length-(intOf u).toNat)
 case atStart => exact ⟨0,[],BX _,rfl,⟨Sl.SK (Own.nil w w.heap.size 25 1 Kw),fun k hk=>by simp at hk⟩,bR w,rfl,Cj _,fun y h=>(by cases h)⟩
 case round =>
  obtain ⟨k,ys,hk,rfl,ho,hb,hys,hyl,hym⟩:=hrel;obtain ⟨w2,rfl⟩:=BR wr;obtain ⟨HO,Hb,O5,yx⟩:=DW ho hb hys hym;clear ho hb hys hym;by_cases hlt:k<xs.length
  ·obtain ⟨b,o,rfl,hlb0,hc0⟩:=HR.1.oK hlt;obtain ⟨A1,c1,hv1,hc3,hc4,hR1⟩:=HP.1 k hlt;obtain ⟨hl2,hl4⟩:=H4.1 k hlt;have hT:=jS.1 k hlt;rw [hv1] at hc0;have UZ:=AB (show Sl w (.slice A1 xs[k].2.length c1) xs[k].2.length (xs[k].2.flatMap DK) from ⟨A1,c1,rfl,hc3,hc4,hR1⟩);unfold maxLen at hc4;clear hv1;generalize xs[k].2=l at *;have HT:=AB (show (L.take (k+1)).flatMap (L8 M)=(L.take k).flatMap (L8 M)++L8 M l by rw [hT,O7];simp);obtain ⟨R0,hR0⟩:=BI ((L.take k).flatMap (L8 M));rw [hR0] at HT O5;have HR1:=AB hR1;have Kz:=AB hc0;clear hR1 hT hc0 hR0;go_upto_block 2 with fail;go_wp2_with fail;go_loopw [3,5,6] (fun z t u wr=>∃ (i s:Nat) (zs:List (SV×List Pt)) (Q:List (List Pt)),i<=l.length/\s<=i/\1<=i/\u=.int .i64 i/\t=.int .i64 s/\FY wr z zs/\AU w wr/\zs.map (·.2)=WW EU (R0++Q)/\Q++KJ M ((l.drop s).take (i-s)) (l.drop i)=L8 M l/\zs.length<=k*4096+i/\∀ y∈zs,y.2.length<=4096) (fun _ _ u _=>l.length-(intOf u).toNat)
   case atStart => exact ⟨1,0,ys,[],AA,AA,Cj _,rfl,rfl,HO.1,Hb.1,by rw [MC];exact O5.1,by rw [OW];exact amI M AA,AA,yx.1⟩
   case round =>
    obtain ⟨i,s,zs,Q,hi,hsi,hi1,rfl,rfl,ho,hb,hzs,hQ,hzl,hzm⟩:=hrel;obtain ⟨w3,rfl⟩:=BR wr;replace HO:=AB ho;replace Hb:=AB hb;obtain ⟨jW,HQ,acM⟩:=CG hzs hQ hzm;obtain ⟨⟨A2,c2,rfl,-⟩,-⟩:=ho;clear hb hzs hQ hzm;have c0:=Kz.1 _ Hb.1;have hlb:b<w3.heap.size:=QS hlb0 Hb.1.size;by_cases J7:i<l.length
    ·obtain ⟨b1,o1,rfl,NK,d0,d1⟩:=(HR1.1.mono Hb.1).pt J7;have agE:=AB (fun hM:M l[i]=true=>show (Q++[(l.drop s).take (i+1-s)])++KJ M ((l.drop i).take (i+1-i)) (l.drop (i+1))=L8 M l by rw [LJ,kT,<- amG hsi J7 hM];exact HQ.1);have agF:=AB (fun hM:M l[i]=false=>show Q++KJ M ((l.drop s).take (i+1-s)) (l.drop (i+1))=L8 M l by rw [<- amH hsi J7 hM];exact HQ.1);generalize l[i]=p at *;have YJ:=AB (wZ.1 p);go_wp2_with fail;refine (YJ.1 _ Hb.1).mono ?_;rintro e w4 ⟨rfl,hb4⟩;have HB4:=AB (bT Hb.1 hb4);have Jc:=AB (HO.1.mono hb4);replace c0:=Kz.1 _ HB4.1;have alP:b<w4.heap.size:=QS hlb0 HB4.1.size;clear hb4 d0 d1 hlb
     cases acN:M p
     ·have Pm:=AB (agF.1 acN);clear acN agE agF;go_wp2;go_roundw
      case rel => exact ⟨i+1,s,zs,Q,AA,AA,AA,BG,rfl,Jc.1,HB4.1,jW.1,Pm.1,AA,acM.1⟩
      case measure => exact BH
     ·have Pm:=AB (agE.1 acN);clear acN agE agF;have hmid:=Sl.aaG I7 UZ.1 s (i+1) AA AA;have hpl:((l.drop s).take (i+1-s)).length=i+1-s:=by rw [GH,Ue];omega
      obtain ⟨Ac,hAc⟩:=BI (QW (some ⟨b1,o1,none⟩) c1 s 2);have hcut:=fun W=>aaF (P:=prog) Tryz.underlying25 (e:=42) (size:=2) (fun _=>by kernel_rfl) (some ⟨b1,o1,none⟩) l.length c1 s (i+1) AA AA hc3 (s:Int) ((i:Int)+1) rfl AA W;rw [hAc] at hmid hcut;obtain ⟨pc,hpc⟩:=BI ((l.drop s).take (i+1-s));rw [hpc] at hmid hpl Pm;obtain ⟨N1,hN1⟩:=BI (i+1-s);obtain ⟨C1,wV⟩:=BI (c1-s);rw [hN1,wV] at hcut hmid;rw [hN1] at hpl;have hNb:N1<=4096:=AA
      have wW:=AB (show CZ w (.slice Ac N1 C1) pc from hmid);have hwr:=EL ((i:Int)+1);have hb3:=HB4.1.size;have Hpl:=AB hpl;clear hmid hpc hN1 wV hAc hpl;go_wp2_with
       (at_builtin
        refine FK _ rfl (.tmp 32) (.tmp 40) _ rfl (base:=w.heap.size) JI I7 JD rfl (Own.lit _ _ _ _ DK [] _ 0 _ rfl rfl hb3 (D7 AA) rfl rfl) rfl (l2:=pc) (wW.1.mono (bA HB4.1 _)) (by have:=Hpl.1;simp only [LH];omega) (by have:=Hpl.1;simp only [LH];omega) DR ?_;intro v5 w5 Dj hg5 G5;rw [OW] at Dj;obtain ⟨A5,c5,hv5,-⟩:=Own.shape Dj;rw [Hpl.1] at hv5;subst hv5;have Ep:=AB Dj;have agG:AU w4 w5:=bG (bA (bR w4) _) hg5 (fun g hg=>by have h:=DV hg;simp at h;omega);have Ce:=AB (show AU w w5 from bT HB4.1 agG);have xP:=AB (Jc.1.mono agG);clear Dj hg5 G5 agG)
      have ana:CZ w5 (.slice A5 N1 c5) pc:=Own.sl Ep.1;obtain ⟨ML,NW,Po,NZ⟩:=DW (show Calls prog 52 #[.slice A2 zs.length c2,.slice A5 N1 c5] w5 (anT w5 (Kv QJ (⟨A5,N1,c5⟩,pc) zs)) from HPc.1 _ zs (⟨A5,N1,c5⟩,pc) w5 xP.1 ana AA (fun k hk=>by have:=acM.1 _ (BO hk);omega) (by have:=Hpl.1;simp only;omega)) (awq (x:=((⟨A5,N1,c5⟩:SV),pc)) (m:=4096) (by have:=Hpl.1;simp only;omega) acM.1) (show (Kv QJ ((⟨A5,N1,c5⟩:SV),pc) zs).map (·.2)=WW EU (R0++(Q++[pc])) by rw [anS,jW.1,<- LJ,awh]) (anR QJ ((⟨A5,N1,c5⟩:SV),pc) zs);generalize Kv QJ ((⟨A5,N1,c5⟩:SV),pc) zs=q at *;refine ML.1.mono ?_;rintro e w6 ⟨A6,c6,rfl,hb6,hl6⟩;have Ew:=AB (bT Ce.1 hb6);have abL:=AB hl6;clear hb6 hl6 c0 hcut ana;go_wp2;go_roundw
      case rel => exact ⟨i+1,i,q,Q++[pc],AA,AA,AA,BG,rfl,abL.1,Ew.1,Po.1,Pm.1,by rw [NZ.1];omega,NW.1⟩
      case measure => exact BH
    ·have hil:i=l.length:=AA
     subst hil;have Pm:=AB (show Q=L8 M l by
      have h9:=HQ.1;rw [ZK] at h9;simpa [KJ] using h9)
     go_wp2;go_roundw
     case rel => exact ⟨k+1,zs,AA,BG,HO.1,Hb.1,by rw [HT.1,jW.1,Pm.1],AA,acM.1⟩
     case measure => exact BH
  ·have hkn:k=xs.length:=AA
   have jX:=O5.1;rw [hkn,IE (by rw [HLn.1];exact Cj _)] at jX;have acK:=AB (show ys.map (·.2)=P from jX.trans HFin.1);obtain ⟨⟨A2,c2,rfl,-⟩,-⟩:=HO.1;clear jX O5;go_wp2;go_ret;exact ⟨A2,c2,ys,rfl,Hb.1,HO.1,acK.1⟩
open Go.RowKit Go.Sort
theorem awI (x:SV×List Pt) (w:World) (h:CZ w (BF x.1) x.2) (hl:x.2.length<=1000000):Calls prog 36 #[BF x.1] w fun e w'=>e=.returned (.bool (decide (66<x.2.length)))/\AU w w':=by
 obtain ⟨A,c,hv,-⟩:=h;rw [hv];generalize x.2.length=n at *;have hwr:=EL ((n:Int)-2);clear hv;go_enter func36,ntmps36;go_wp2;go_ret;refine ⟨CP (by rw [Jh];simp only [Dq];omega),bR w⟩
theorem awJ (v:Value) (xs:List (SV×List Pt)) (w:World) (h:FY w v xs) (hn:xs.length<=1000000) (hl:∀ k (hk:k<xs.length),xs[k].2.length<=1000000) :
  Calls prog 68 #[v,.func (.func 36) #[] #[]] w (aaH w (xs.any fun x=>decide (66<x.2.length))):=by
 obtain ⟨⟨A,c,rfl,hc1,hc2,hR⟩,hP⟩:=h;unfold maxLen at hc2;have HR:=AB hR;have HG:=AB (fun k (hk:k<xs.length) W (hW:AU w W)=>awI xs[k] W ((hP k hk).mono hW) (hl k hk));clear hR hP hl;go_enter func68,ntmps68;go_wp2_with fail;go_loopw [8] (fun i wr=>∃ k:Nat,k<=xs.length/\i=.int .i64 k/\AU w wr/\∀ j (hj:j<xs.length),j<k->decide (66<xs[j].2.length)=false) (fun i _=>xs.length-(intOf i).toNat)
 case atStart => exact ⟨0,BX _,rfl,bR w,fun j _ h=>AA⟩
 case round =>
  obtain ⟨k,hk,rfl,hb,hno⟩:=hrel;obtain ⟨w2,rfl⟩:=BR wr;have Hb:=AB hb;have Hno:=AB hno;clear hb hno;by_cases hlt:k<xs.length
  ·obtain ⟨b,o,rfl,hlb,c0⟩:=(HR.1.mono Hb.1).ln hlt;have VJ:=HG.1 k hlt;unfold BF at c0 VJ;have awK:=AB VJ;clear VJ;go_wp2_with fail;refine (awK.1 _ Hb.1).mono ?_;rintro e w1 ⟨rfl,hb1⟩;have Bw:AU w w1:=bT Hb.1 hb1;clear hb1 c0 hlb
   cases he:decide (66<xs[k].2.length)
   ·have He:=AB he;clear he;go_wp2;go_roundw
    case rel => exact ⟨k+1,AA,BG,Bw,all_succ (p:=fun y:SV×List Pt=>decide (66<y.2.length)=false) Hno.1 hlt He.1⟩
    case measure => exact BH
   ·have hf:=AB (QX xs (fun x=>decide (66<x.2.length)) k hlt he);clear he;go_wp2;go_ret;exact ⟨k,rfl,dN,Bw⟩
  ·have hf:=AB (SS xs (fun x=>decide (66<x.2.length)) (fun j hj=>Hno.1 j hj AA));go_wp2;go_ret;exact ⟨-1,rfl,dN,Hb.1⟩
theorem awL (v:Value) (xs:List (SV×List Pt)) (w:World) (h:FY w v xs) (hn:xs.length<=1000000) (hl:∀ k (hk:k<xs.length),xs[k].2.length<=1000000) :
  Calls prog 37 #[v,.func (.func 36) #[] #[]] w fun e w'=>e=.returned (.bool (xs.any fun x=>decide (66<x.2.length)))/\AU w w':=by
 have HT:=AB (awJ v xs w h hn hl);generalize (xs.any fun x=>decide (66<x.2.length))=q at *;clear h hn hl;go_enter func37,ntmps37;go_wp2_with fail;refine HT.1.mono ?_;rintro e w1 ⟨r,rfl,hr,hb1⟩;have Hr:=AB hr;clear hr;go_wp2;go_ret;exact ⟨CP Hr.1,hb1⟩
theorem agH {l:List Pt} {q:Pt} (h:q∉l):Ig l q=0:=by
 induction l with
 | nil=>rfl
 | cons a l ih =>
  have h1:¬ a=q:=fun e=>h (by rw [e];exact JC);unfold Ig;rw [AX h1,ih (fun h'=>h (LM _ h'))];rfl
theorem awM {l:List Pt} {p:Pt} (h:p∉l):(fun q=>if q=p then (l.length:Int)+1 else Ig l q)=Ig (l++[p]):=by
 funext q
 induction l with
 | nil =>
  by_cases e:q=p
  · subst e;simp [Ig]
  ·have e':¬ p=q:=fun h'=>e h'.symm;simp [Ig,e,e']
 | cons a l ih =>
  have hp:p∉l:=fun h'=>h (LM _ h');have ha:¬ a=p:=fun e=>h (by rw [e];exact JC);have:=ih hp
  rw [qc];unfold Ig;rw [<- this];by_cases e:q=p
  ·subst e;rw [AZ rfl,AZ rfl,AX ha];have h9:¬ ((l.length:Int)+1=0):=AA
   simp only [JA,h9,if_false];omega
  · rw [AX e,AX e]
theorem awN {l:List Pt} {q:Pt}:Ig l q≠0↔q∈l:=by
 constructor
 ·intro h;exact Decidable.byContradiction fun h'=>h (agH h')
 ·intro h;obtain ⟨k,-,h1,-⟩:=an5 h;omega
theorem anb (l:List Pt) (q:Pt):0<=Ig l q/\Ig l q<=l.length:=by
 by_cases h:q∈l
 ·obtain ⟨k,hk,h1,-⟩:=an5 h;omega
 · rw [agH h];omega
open Go.RowKit Go.Sort
theorem awO {p:Pt} {l:List Pt} {k:Nat} (hk:k<l.length) (h:∀ j (hj:j<l.length),j<k->¬ l[j]=p) (he:l[k]=p):Ig l p=(k:Int)+1:=by
 induction l generalizing k with
 | nil=>exact absurd hk Ah
 | cons a l ih =>
  cases k with
  | zero =>
   simp only [List.getElem_cons_zero] at he;unfold Ig;rw [AZ he];rfl
  | succ k =>
   have ha:¬ a=p:=h 0 Ah AA;have:=ih (k:=k) Uc (fun j hj hjk=>h (j+1) ZE AA) (by simpa using he)
   unfold Ig;rw [AX ha,this];simp only;rw [AX AA];omega
theorem awP {p:Pt} {l:List Pt} (h:∀ j (hj:j<l.length),¬ l[j]=p):Ig l p=0:=agH fun hm=>by
 obtain ⟨j,hj,e⟩:=EF.1 hm;exact h j hj e
theorem anc (v:Value) (l:List Pt) (p:Pt) (w:World) (h:CZ w v l) (hl:l.length<=2000000) :
  Calls prog 42 #[v,.agg #[.int .i64 p.x,.int .i64 p.y]] w fun e w'=>e=.returned (.int .i64 (Ig l p))/\AU w w':=by
 obtain ⟨A,c,rfl,hn,hc,hR⟩:=h;unfold maxLen at hc;have HR:=AB hR;clear hR;obtain ⟨q,hq⟩:=BI (Ig l p);rw [hq];have Hq:=AB hq;clear hq;go_enter func42,ntmps42;go_upto_block 0 with fail;obtain ⟨W1,hW⟩:=BR (w.alloc (.cells #[.int .i64 p.x,.int .i64 p.y] 42));have Dt:=AB (show AO W1 w.heap.size 42 #[.int .i64 p.x,.int .i64 p.y] by rw [hW];exact AO.made rfl _ _);have HB1:=AB (show AU w W1 by rw [hW];exact bA (bR w) _);rw [<- hW];clear hW;go_wp2_with fail;go_loopw [5] (fun u wr=>∃ k:Nat,k<=l.length/\u=.int .i64 k/\AU W1 wr/\∀ j (hj:j<l.length),j<k->¬ l[j]=p) (fun u _=>l.length-(intOf u).toNat)
 case atStart => exact ⟨0,BX _,rfl,bR W1,fun _ _ h=>AA⟩
 case round =>
  obtain ⟨k,hk,rfl,hb,hno⟩:=hrel;obtain ⟨wo,rfl⟩:=BR wr;have Hb:=AB hb;have MJ:=AB hno;have X1:=Dt.1.keep hb;clear hb hno;have q1:(0:Int)<=k:=AA
  obtain ⟨BJ,BK,BL,-⟩:=X1.Bl;by_cases hlt:k<l.length
  ·have q2:(k:Int)<l.length:=AA
   obtain ⟨b,o,rfl,hlb,d0,d1⟩:=(HR.1.mono (bT HB1.1 Hb.1)).pt hlt;have iD:=AB (fun e:l[k]=p=>show (k:Int)+1=q by rw [<- Hq.1];exact (awO hlt MJ.1 e).symm);have Ju:=AB (fun e:¬ l[k]=p=>all_succ (p:=fun y=>¬ y=p) MJ.1 hlt e);obtain ⟨r,hr⟩:=BI (l[k]);rw [hr] at d0 d1 iD Ju;clear hr;by_cases Lp:r=p
   ·have heq:∀ W,(binOp .eql 42 (.agg #[.int .i64 r.x,.int .i64 r.y]) (.agg #[.int .i64 p.x,.int .i64 p.y])).run prog W=.ok (.bool true) W:=fun W=>by rw [KP];simp [Lp]
    have H9:=AB (iD.1 Lp);clear Lp iD Ju;go_upto_region 4 with fail;refine D9 (wo) (.run 6 0 0 (.done)) fun CQ QR Ae Aj hS=>?_
    iterate 6 refine Ak ?_
    refine D5 ?_;clear hS Aj Ae;intro hB;have Hb2:=AB (bT Hb.1 hB);clear BJ BK BL d0 d1 hB hlb heq;go_wp2;go_ret;exact ⟨by rw [<- H9.1];rfl,bT HB1.1 Hb2.1⟩
   ·have heq:∀ W,(binOp .eql 42 (.agg #[.int .i64 r.x,.int .i64 r.y]) (.agg #[.int .i64 p.x,.int .i64 p.y])).run prog W=.ok (.bool false) W:=fun W=>by rw [KP];simp [Lp]
    have H9:=AB (Ju.1 Lp);clear Lp iD Ju;go_upto_region 4 with fail;refine D9 (wo) (.run 6 0 0 (.done)) fun CQ QR Ae Aj hS=>?_
    iterate 6 refine Ak ?_
    refine D5 ?_;clear hS Aj Ae;intro hB;have Hb2:=AB (bT Hb.1 hB);clear BJ BK BL d0 d1 hB hlb heq;go_wp2;go_roundw
    case rel => exact ⟨k+1,AA,BG,Hb2.1,H9.1⟩
    case measure => exact BH
  ·have H9:=AB (show (0:Int)=q by rw [<- Hq.1];exact (awP fun j hj=>MJ.1 j hj AA).symm);go_wp2;go_ret;exact ⟨by rw [<- H9.1];rfl,bT HB1.1 Hb.1⟩
open Go.RowKit Go.Sort
theorem D6.zeroE (w:World):D6 w oh plE:=by
 refine ⟨_,_,_,[],rfl,rfl,Sl.nil w,⟨Sl.nil w,fun k hk=>by simp at hk⟩,Sl.nil w⟩
def Lu (w:World) (L:List (List Pt)) (e:Ending) (w':World):Prop:=∃ v,e=.returned (.tuple #[v,.int .i64 (O1 L)])/\AU w w'/\D6 w' v (L9 L)
theorem Lu.bad {w w':World} {L:List (List Pt)} {z:Int} (hz:O1 L=z) (h0:z≠0) (hb:AU w w'):Lu w L (.returned (.tuple #[oh,.int .i64 z])) w' :=
 ⟨oh,by rw [hz],hb,by unfold L9;rw [AX (by rw [hz];exact h0)];exact D6.zeroE _⟩
theorem awQ (v:Value) (xs:List (SV×List Pt)) (w:World) (h:FY w v xs) (hn:xs.length<=1000000) (hs:∀ k (hk:k<xs.length),xs[k].2.length<=1000000) (hz:GZ (xs.map (·.2))≠0) :
  Calls prog 18 #[v] w (Lu w (xs.map (·.2))):=by
 have HC:=AB (fun W (hW:AU w W)=>awU v xs W (h.mono hW) hn hs hz);have hb:O1 (xs.map (·.2))=GZ (xs.map (·.2)):=by unfold O1;rw [AZ hz]
 have HZ:=AB hb;obtain ⟨⟨A,c,rfl,-⟩,-⟩:=h;generalize xs.map (·.2)=L at *;generalize GZ L=z at *;have hz':(z != 0)=true:=by simpa using hz
 have Hz:=AB hz;clear hz hb;go_enter func18,ntmps18;go_upto_region 1 with fail;obtain ⟨W1,hW⟩:∃ W:World,W=w.alloc (.cells #[.slice none 0 0,.slice none 0 0,.slice none 0 0] 34):=⟨_,rfl⟩;have X2:AO W1 w.heap.size 34 #[.slice none 0 0,.slice none 0 0,.slice none 0 0]:=by rw [hW];exact AO.made rfl _ _
 have HB1:=AB (show AU w W1 by rw [hW];exact bA (bR w) _);have DC:=AB X2;rw [<- hW];clear hW X2;go_wp2_with fail;refine (HC.1 _ HB1.1).mono ?_;rintro e w2 ⟨rfl,hb2⟩;have HB2:=AB (bT HB1.1 hb2);have EY:=AB (DC.1.keep hb2);have X3:=EY.1;clear hb2;obtain ⟨Dk,EI,EN,Gv,iC,aaY,axc⟩:=X3.Az;go_wp2_with fail;refine Iz (g:=w.heap.size) (cs:=#[.slice none 0 0,.slice none 0 0,.slice none 0 0]) rfl Na rfl rfl (AO.LG EY.1) ?_;exact Lu.bad HZ.1 Hz.1 (bS (p:=⟨w.heap.size,2,none⟩) (bS (p:=⟨w.heap.size,1,none⟩) (bS (p:=⟨w.heap.size,0,none⟩) HB2.1 (Cj _) _) (Cj _) _) (Cj _) _)
open Go.RowKit Go.Sort
theorem qH {L:List (List Pt)} (hg:UN L) (h:aZ L=true):O1 L=3:=by
 unfold O1;rw [AX (by rw [Ve.2 hg];simp),AZ h]
theorem ane {L:List (List Pt)} (hg:UN L) (h:aZ L=false) (hc:Gn (IK L)≠0):O1 L=11:=by
 unfold O1;rw [AX (by rw [Ve.2 hg];simp),AX (by rw [h];simp),AZ hc]
theorem anf {L:List (List Pt)} (hg:UN L) (h:aZ L=false) (hc:Gn (IK L)=0):O1 L=Om (IK L):=by
 unfold O1;rw [AX (by rw [Ve.2 hg];simp),AX (by rw [h];simp),AX (by rw [hc];simp)]
theorem agI (M:Pt->Bool):∀ r cur:List Pt,(KJ M cur r).length<=r.length
 | [],_=>Cj _
 | p::r,cur=>by
  unfold KJ;split
  · have:=agI M r [p];simp only [JA];omega
  · have:=agI M r (cur++[p]);simp only [JA];omega
theorem ang (M:Pt->Bool) (l:List Pt):(L8 M l).length<=l.length:=by
 match l with
 | []=>exact Cj _
 | x::r=>exact Nat.le_succ_of_le (agI M r [x])
theorem axd:Ig []=fun _=>0:=rfl
theorem acO (v:Value) (xs:List (SV×List Pt)) (w:World) (h:FY w v xs) (hg:UN (xs.map (·.2))) :
  Calls prog 18 #[v] w (Lu w (xs.map (·.2))):=by
 have HC:=AB (fun W (hW:AU w W)=>ami v xs W (h.mono hW) hg);have HD:=AB (fun gm n f W (hW:AU w W) (hm:IU W gm n f)=>awf v xs gm n f W (h.mono hW) hg hm);obtain ⟨⟨A,c,rfl,-⟩,-⟩:=h;generalize xs.map (·.2)=L at *;have HG:=AB hg;have hM:(fun p=>decide (Ig (KW L) p≠0))=meets L:=by
  funext p
  rw [Jh,Dq,awN,pO]
 obtain ⟨HM,NW,LY⟩:=CG hM (show WX (L.flatMap (L8 (meets L)))=MP L from rfl) (show aZ L=(decide (256<(KW L).length) || (decide (256<(MP L).length) || (MP L).any (fun q=>decide (66<q.length)))) from rfl);have qI:=akH L;have hTw:∀ p∈KW L,L6 p:=fun p hp=>by
  obtain ⟨l,hl,hpl⟩:=kF.1 (iO (pO.1 hp));have:=hg.pts l hl p hpl
  unfold GL at this;simp only [ER,Dq] at this;exact ⟨KC AA AA,KC AA AA⟩
 have hTl:(KW L).length<=1048576:=by
  have h1:=acG qI (m:=L.flatten) (fun x hx=>iO (pO.1 hx));have h3:L.flatten.length<=L.length*4096:=by
   have:=aA L id 4096 (fun l hl=>hg.len l hl)
   simpa [List.flatMap_id] using this
  have h4:=hg.num;omega
 have I9:=AB (show ∀ q∈MP L,agq (KW L) q from fun q hq=>an8 hg hq);have hPl:(∀ q∈MP L,q.length<=4096)/\(MP L).length<=1048576:=by
  refine ⟨fun q hq=>?_,?_⟩
  ·obtain ⟨l,hl,x,r,-,-,-,hi,-⟩:=agp hg ((mM _).mem_iff.1 hq);exact EG hi.length_le (hg.len l hl)
  ·show (WX (Wp L)).length<=_
   rw [(mM (Wp L)).length_eq];have h3:(Wp L).length<=L.length*4096:=aA L _ 4096 (fun l hl=>EG (ang _ l) (hg.len l hl));have h4:=hg.num;omega
 have jf:=AB (show IK L=yB (KW L) (MP L) from rfl);generalize KW L=T at *;generalize MP L=P at *;obtain ⟨HTn,QE,NZ⟩:=CG qI hTw hPl;have hmm:=@run_makeMap prog;clear hM qI hTw hg hPl;go_enter func18,ntmps18;go_upto_region 1 with fail;obtain ⟨W1,hW⟩:∃ W:World,W=w.alloc (.cells #[.slice none 0 0,.slice none 0 0,.slice none 0 0] 34):=⟨_,rfl⟩;have X2:AO W1 w.heap.size 34 #[.slice none 0 0,.slice none 0 0,.slice none 0 0]:=by rw [hW];exact AO.made rfl _ _
 have HB1:=AB (show AU w W1 by rw [hW];exact bA (bR w) _);have DC:=AB X2;rw [<- hW];clear hW X2;go_wp2_with fail;refine (HC.1 _ HB1.1).mono ?_;rintro e w2 ⟨At,ct,rfl,hb2,ho2⟩;obtain ⟨HB2,EY,Fq⟩:=CG (bT HB1.1 hb2) (DC.1.keep hb2) (ho2.EM (b':=w.heap.size) HB1.1.size);clear hb2 ho2 HC;go_upto_region 5 with fail;obtain ⟨gm,hgm⟩:=BR w2.heap.size;obtain ⟨W3,hW⟩:∃ W:World,W=w2.alloc (.map #[] 0):=⟨_,rfl⟩;have Nq:=AB (show IU W3 gm 0 (Ig (T.take 0)) by
  rw [hW,hgm,OD,axd];exact IU.made w2)
 obtain ⟨HB3,DL,G7⟩:=CG (show AU w W3 by rw [hW];exact bA HB2.1 _) (show AO W3 w.heap.size 34 #[.slice none 0 0,.slice none 0 0,.slice none 0 0] by rw [hW];exact EY.1.alloc _) (show Own W3 w.heap.size 42 2 DK (.slice At T.length ct) T by rw [hW];exact Fq.1.alloc _);have hgl:w.heap.size<=gm:=by rw [hgm];exact HB2.1.size
 rw [<- hW,<- hgm];clear hW hgm hmm HB2 EY Fq;go_upto_block 0 with fail;go_wp2_with fail;go_loopw [28] (fun u wr=>∃ k:Nat,k<=T.length/\u=.int .i64 k/\IU wr gm k (Ig (T.take k))/\AU w wr/\AO wr w.heap.size 34 #[.slice none 0 0,.slice none 0 0,.slice none 0 0]/\Own wr w.heap.size 42 2 DK (.slice At T.length ct) T) (fun u _=>T.length-(intOf u).toNat)
 case atStart => exact ⟨0,BX _,rfl,Nq.1,HB3.1,DL.1,G7.1⟩
 case round =>
  obtain ⟨k,hk,rfl,mp,hb,hx,ho⟩:=hrel;obtain ⟨w4,rfl⟩:=BR wr;obtain ⟨YJ,Hb,HX,HO⟩:=DW mp hb hx ho;clear mp hb hx ho Nq HB3 DL G7;by_cases hlt:k<T.length
  ·obtain ⟨b,o,rfl,hlb,d0,d1⟩:=Row.pt (Row.SK HO.1) hlt;have hwp:=QE.1 _ (BO hlt);have bH:T.take (k+1)=T.take k++[T[k]]:=Em hlt;have hnk:T[k]∉T.take k:=fun hm=>by
    have h1:=HTn.1;rw [<- yM k T,ach] at h1;exact h1.2.2 _ hm _ (by rw [TB T hlt];exact JC) rfl
   have hnum:=awM hnk;rw [<- bH] at hnum;have hlen:(T.take k).length=k:=by rw [GH];omega
   rw [hlen] at hnum;generalize T[k]=p at *;go_upto_region 8 with fail;obtain ⟨W5,hW⟩:∃ W:World,W=w4.alloc (.cells #[.int .i64 p.x,.int .i64 p.y] 42):=⟨_,rfl⟩;have X7:AO W5 w4.heap.size 42 #[.int .i64 p.x,.int .i64 p.y]:=by rw [hW];exact AO.made rfl _ _
   obtain ⟨Pn,DX,Ep,Ce⟩:=DW (show IU W5 gm k (Ig (T.take k)) by rw [hW];exact YJ.1.kept (World.grownBy_alloc _ _ none) Ah) (show AO W5 w.heap.size 34 #[.slice none 0 0,.slice none 0 0,.slice none 0 0] by rw [hW];exact HX.1.alloc _) (show Own W5 w.heap.size 42 2 DK (.slice (some ⟨b,o,none⟩) T.length ct) T by rw [hW];exact HO.1.alloc _) (show AU w W5 by rw [hW];exact bA Hb.1 _);obtain ⟨w6,r1,Rj,FN⟩:=Pn.1.upd AA p hwp ((k:Int)+1) AA;rw [hnum] at Rj;obtain ⟨RV,JM,JQ,Ew⟩:=DW Rj (DX.1.grown FN (fun e=>Pn.1.ax1 DX.1 (DV e))) (Ep.1.grown FN (fun q hq e=>Pn.1.own_ne Ep.1 (by rw [hq,DV e]))) (show AU w w6 from bG (w:=w) Ce.1 FN (fun q hq=>by have:=DV hq;omega));have hwr:=EL ((k:Int)+1);rw [<- hW];clear hW d0 d1 hlb Rj FN hnum bH hnk;obtain ⟨EJ,EK,F7,-⟩:=X7.Bl;go_wp2;go_roundw
   case rel => exact ⟨k+1,AA,BG,RV.1,Ew.1,JM.1,JQ.1⟩
   case measure => exact BH
  ·have hkn:k=T.length:=AA
   subst hkn;rw [I5] at YJ;go_wp2_with fail;refine (HD.1 gm _ _ _ Hb.1 YJ.1).mono ?_;rintro e w7 ⟨Ay,cy,ys,rfl,hb7,Dv,anh,VK⟩;rw [HM.1,NW.1] at VK;obtain ⟨Gx,Il,NU,YZ,HY7,qF,O5,TI⟩:=yU (bT Hb.1 hb7) (HX.1.keep hb7) (HO.1.keep hb7) (YJ.1.keep hb7) (Dv.EM (b':=w.heap.size) Hb.1.size) (fun k (hk:k<ys.length)=>(anh _ (BO hk)).mono hb7) VK (show ys.length=P.length by rw [<- VK,CV]);have hyb:∀ k (hk:k<ys.length),ys[k].2.length<=4096:=fun k hk=>NZ.1.1 _ (by rw [<- VK];exact FZ (BO hk));have hyn:ys.length<=1048576:=by rw [TI.1];exact NZ.1.2
   obtain ⟨HLn,WU,wu⟩:=CG (show FY w7 (.slice Ay ys.length cy) ys from ⟨Sl.SK HY7.1,qF.1⟩) (show (ys.any fun x=>decide (66<x.2.length))=P.any (fun q=>decide (66<q.length)) from by rw [<- VK,XW];rfl) hyb;clear hb7 Dv anh VK hyb Hb HX HO YJ HD;by_cases hT:256<T.length
   ·have HZ:=AB (qH HG.1 (by rw [LY.1];simp [hT]));have X7:=Il.1
    try clear EJ EK F7 SQ
    obtain ⟨EJ,EK,F7,SQ,Ob,Oc,Un⟩:=X7.Az;go_wp2_with fail;refine Iz (g:=w.heap.size) (cs:=#[.slice none 0 0,.slice none 0 0,.slice none 0 0]) rfl Na rfl rfl (AO.LG Il.1) ?_;exact Lu.bad HZ.1 Aw (bS (p:=⟨w.heap.size,2,none⟩) (bS (p:=⟨w.heap.size,1,none⟩) (bS (p:=⟨w.heap.size,0,none⟩) Gx.1 (Cj _) _) (Cj _) _) (Cj _) _)
   by_cases hY:256<ys.length
   ·have HZ:=AB (qH HG.1 (by rw [LY.1];rw [TI.1] at hY;simp [hY]));have X7:=Il.1
    try clear EJ EK F7 SQ
    try clear Ob Oc Un
    obtain ⟨EJ,EK,F7,SQ,Ob,Oc,Un⟩:=X7.Az;go_wp2_with fail;refine Iz (g:=w.heap.size) (cs:=#[.slice none 0 0,.slice none 0 0,.slice none 0 0]) rfl Na rfl rfl (AO.LG Il.1) ?_;exact Lu.bad HZ.1 Aw (bS (p:=⟨w.heap.size,2,none⟩) (bS (p:=⟨w.heap.size,1,none⟩) (bS (p:=⟨w.heap.size,0,none⟩) Gx.1 (Cj _) _) (Cj _) _) (Cj _) _)
   have Oa:=AB (fun W (hW:AU w7 W)=>awL _ ys W (HLn.1.mono hW) AA (fun k hk=>by have:=wu.1 k hk;omega));go_wp2_with fail;refine (Oa.1 _ (bR w7)).mono ?_;rintro e w8 ⟨rfl,hb8⟩;rw [WU.1];obtain ⟨Jb,TR,KH,aV,HY8,qE⟩:=Jz (bT Gx.1 hb8) (Il.1.keep hb8) (NU.1.keep hb8) (YZ.1.keep hb8) (HY7.1.keep hb8) (fun k (hk:k<ys.length)=>(qF.1 k hk).mono hb8);clear Gx Il NU YZ HY7 qF hb8 Oa HLn WU
   cases hA:P.any (fun q=>decide (66<q.length))
   case true =>
    have HZ:=AB (qH HG.1 (by rw [LY.1,hA];simp));have X7:=TR.1
    try clear EJ EK F7 SQ
    try clear Ob Oc Un
    obtain ⟨EJ,EK,F7,SQ,Ob,Oc,Un⟩:=X7.Az;go_wp2_with fail;refine Iz (g:=w.heap.size) (cs:=#[.slice none 0 0,.slice none 0 0,.slice none 0 0]) rfl Na rfl rfl (AO.LG TR.1) ?_;exact Lu.bad HZ.1 Aw (bS (p:=⟨w.heap.size,2,none⟩) (bS (p:=⟨w.heap.size,1,none⟩) (bS (p:=⟨w.heap.size,0,none⟩) Jb.1 (Cj _) _) (Cj _) _) (Cj _) _)
   case false =>
    have Fv:=AB (show aZ L=false by rw [LY.1,hA];rw [TI.1] at hY;simp [hT,hY]);have iP:=AB (show ∀ k (hk:k<ys.length),ys[k].2.length<=66 from fun k hk=>by
     have h1:ys[k].2∈P:=by rw [<- O5.1];exact FZ (BO hk)
     have h2:=MB.1 hA _ h1;simp at h2;omega)
    clear hA LY;go_upto_region 15 with fail;obtain ⟨g10,JL⟩:=BR w8.heap.size;obtain ⟨W9,hW⟩:∃ W:World,W=w8.alloc (.cells #[.slice none 0 0,.slice none 0 0,.slice none 0 0] 34):=⟨_,rfl⟩;have Ls:=AB (show AO W9 g10 34 #[.slice none 0 0,.slice none 0 0,.slice none 0 0] by rw [hW,JL];exact AO.made rfl _ _);have GX:=AB (show AU w8 W9 by rw [hW];exact bA (bR w8) _);have hgg:w8.heap.size<=g10:=AA
    rw [<- hW,<- JL];clear hW JL;go_upto_block 2 with fail;go_wp2_with fail;go_loopw [57] (fun u wr=>∃ (k:Nat) (An:Option Addr) (cn:Nat),k<=T.length/\u=.int .i64 k/\Own wr w8.heap.size 47 3 PD (.slice An k cn) (Nz (T.take k))/\AO wr g10 34 #[.slice An k cn,.slice none 0 0,.slice none 0 0]/\AU w8 wr) (fun u _=>T.length-(intOf u).toNat)
    case atStart => exact ⟨0,none,0,BX _,rfl,Own.nil _ _ _ _ _,Ls.1,GX.1⟩
    case round =>
     obtain ⟨k,An,cn,hk,rfl,ho,hx,hb⟩:=hrel;obtain ⟨w10,rfl⟩:=BR wr;obtain ⟨HO,HX,Hb⟩:=CG ho hx hb;clear ho hx hb Ls GX;by_cases hlt:k<T.length
     ·obtain ⟨b,o,rfl,hlb,d0,d1⟩:=Row.pt (Row.mono (Row.SK KH.1) Hb.1) hlt;have bH:=an6 hlt;have hlk:(Nz (T.take k)).length=k:=by unfold Nz;rw [CV,P9,GH];omega
      generalize T[k]=p at *;have Ei:=AB bH;have hwr:=EL ((k:Int)+1);go_upto_region 18 with fail;obtain ⟨W5,hW⟩:∃ W:World,W=w10.alloc (.cells #[.int .i64 p.x,.int .i64 p.y] 42):=⟨_,rfl⟩;have x9:AO W5 w10.heap.size 42 #[.int .i64 p.x,.int .i64 p.y]:=by rw [hW];exact AO.made rfl _ _
      obtain ⟨DX,Ep,Ce⟩:=CG (show AO W5 g10 34 #[.slice An k cn,.slice none 0 0,.slice none 0 0] by rw [hW];exact HX.1.alloc _) (show Own W5 w8.heap.size 47 3 PD (.slice An k cn) (Nz (T.take k)) by rw [hW];exact HO.1.alloc _) (show AU w8 W5 by rw [hW];exact bA Hb.1 _);have hb5:=Ce.1.size;rw [<- hW];clear hW d0 d1 hlb HO HX Hb bH;have CB:=DX.1;obtain ⟨agJ,agK,agL,-⟩:=x9.Bl;obtain ⟨Gz,Hg,Hu,ND,-⟩:=CB.Az;have abw:=Own.EX Ep.1 DX.1 Aw;have e1:=AB (fun x:Nd=>show (Nz (T.take k)++[x]).length=k+1 from by rw [Es,hlk];rfl);go_wp2_with
       (at_builtin
        go_loud (refine FK _ rfl (.tmp 63) (.tmp 68) _ rfl (base:=w8.heap.size) sV sW sZ rfl (Ep.1.alloc _) rfl (l2:=[(⟨(k:Int)+1,p⟩:Nd)]) (Sl.lit (n:=1) (AO.made Ah _ _) rfl (D7 AA)) qU qU DR ?_);intro v1 w1 ho1 hg1 MH;obtain ⟨A1,c1,hv1,-⟩:=Own.shape ho1;rw [e1.1] at hv1;subst hv1;rw [<- Ei.1] at ho1;have hx1:=(DX.1.alloc _).grown hg1 (fun e=>abw e.symm);obtain ⟨OZ,Rf,Fv⟩:=CG (show AO (w1.setCell ⟨g10,0,none⟩ (.slice A1 (k+1) c1)) g10 34 #[.slice A1 (k+1) c1,.slice none 0 0,.slice none 0 0] by simpa using hx1.EH 0 (.slice A1 (k+1) c1)) (Own.far ho1 (p:=⟨g10,0,none⟩) (Own.EX ho1 hx1 Aw) (.slice A1 (k+1) c1)) (show AU w8 (w1.setCell ⟨g10,0,none⟩ (.slice A1 (k+1) c1)) from bS (p:=⟨g10,0,none⟩) (bG (w:=w8) (bA Ce.1 _) hg1 (fun q hq=>(Ep.1.lt q hq).1)) hgg _);obtain ⟨zl,za,zb,zc,zfa,-⟩:=AO.Az hx1;clear ho1 hg1 MH hx1)
      go_roundw
      case rel => exact ⟨k+1,A1,c1,AA,BG,Rf.1,OZ.1,Fv.1⟩
      case measure => exact BH
     ·have hkn:k=T.length:=AA
      subst hkn;rw [I5] at HO;have OJ:=AB (show FP w10 w8.heap.size (.slice An T.length cn) (.slice none 0 0) (.slice none 0 0) ⟨Nz T,[],[]⟩ [] from ⟨HO.1,Own.nil _ _ _ _ _,(fun x hx=>by cases hx),rfl,Own.nil _ _ _ _ _⟩);go_upto_block 4 with fail;go_wp2_with fail;go_loopw [74] (fun u wr=>∃ (k:Nat) (ol:List (Ar×SV)) (Aa:Option Addr) (ca:Nat),k<=ys.length/\u=.int .i64 k/\ol.length=k/\FP wr w8.heap.size (.slice An T.length cn) (.slice Aa k ca) (.slice none 0 0) ⟨Nz T,OQ T (P.take k),[]⟩ ol/\AO wr g10 34 #[.slice An T.length cn,.slice Aa k ca,.slice none 0 0]/\AU w8 wr) (fun u _=>ys.length-(intOf u).toNat)
      case atStart => exact ⟨0,[],none,0,BX _,rfl,rfl,OJ.1,HX.1,Hb.1⟩
      case round =>
       obtain ⟨k,ol,Aa,ca,hk,rfl,hol,hpo,hx,hb⟩:=hrel;obtain ⟨Df,rfl⟩:=BR wr;have Qs:=AB hpo;replace HX:=AB hx;replace Hb:=AB hb;have Oz:=AB hol;clear hpo hx hb OJ HO hol;by_cases hlt:k<ys.length
       ·obtain ⟨b,o,rfl,hlb,c0⟩:=(Row.mono (Row.SK HY8.1) Hb.1).ln hlt;have wU:=qE.1 k hlt;have ani:=iP.1 k hlt;have Yz:P[k]? = some ys[k].2:=by rw [<- O5.1,List.getElem?_map,Di hlt];rfl
        have hpart:=I9.1 ys[k].2 (kQ Yz);obtain ⟨Aq,cq,hvq,hq1,hq2,xA⟩:=wU;rw [hvq] at c0;unfold maxLen at hq2;clear hvq;generalize ys[k].2=q at *;have harr:OQ T (P.take (k+1))=OQ T (P.take k)++[Wq T k q]:=by
         obtain ⟨h1,h2⟩:=List.getElem?_eq_some_iff.1 Yz;rw [an7 T h1,h2]
        obtain ⟨x,mid,y,hqe,hxT,hyT⟩:=hpart.ex;have hlast:q.getLastD ⟨0,0⟩=y:=by rw [hqe,List.getLastD_eq_getLast?,<- qc,an2];rfl
        have xB:Wq T k q=⟨(k:Int)+1,Ig T x,Ig T y,mid,0,0⟩:=by
         unfold Wq;rw [hlast,hqe,List.headD_cons,yt,List.dropLast_concat]
        rw [xB] at harr;have YT:q.length=mid.length+2:=by rw [hqe];simp
        obtain ⟨Z5,jg,qp⟩:=CG xA hqe harr;have hwx:=QE.1 x hxT;have hwy:=QE.1 y hyT;have HLx:=AB (fun W (hW:AU w8 W)=>(aV.1.keep hW).look x hwx);have HLy:=AB (fun W (hW:AU w8 W)=>(aV.1.keep hW).look y hwy);have hnx:=anb T x;have hny:=anb T y;obtain ⟨N,hN⟩:=BI (mid.length+1);have hqN:q.length=N+1:=AA
        obtain ⟨b1,o1,hAq,NK,-⟩:=Z5.1.pt (k:=0) (show 0<q.length by omega);subst hAq;obtain ⟨b2,o2,hA2,-,d0,d1⟩:=(Row.mono Z5.1 Hb.1).pt (k:=0) (show 0<q.length by omega);simp only [Gt,Addr.mk.injEq,and_true] at hA2;obtain ⟨rfl,rfl⟩:=hA2;obtain ⟨b2,o2,hA2,-,f0,f1⟩:=(Row.mono Z5.1 Hb.1).pt (k:=N) (show N<q.length by omega);simp only [Gt,Addr.mk.injEq,and_true] at hA2;obtain ⟨rfl,rfl⟩:=hA2;have e0:q[0]'(show 0<q.length by omega)=x:=by simp only [jg.1];rfl
        have e1:q[N]'(show N<q.length by omega)=y:=by
         simp only [jg.1,<- hN,List.getElem_cons_succ];rw [List.getElem_append_right (Cj _)];simp
        rw [e0] at d0 d1;rw [e1] at f0 f1;simp only [kP,RF] at d0 d1;obtain ⟨Am,hAm⟩:=BI (QW (some ⟨b1,o1,none⟩) cq 1 2);obtain ⟨Cm,jh⟩:=BI (cq-1);have hmid:=Sl.aaG I7 (show Sl w8 (.slice (some ⟨b1,o1,none⟩) q.length cq) q.length (q.flatMap DK) from ⟨_,_,rfl,hq1,hq2,Z5.1⟩) 1 N AA AA;have xC:(q.drop 1).take (N-1)=mid:=by
         rw [jg.1,List.drop_one,yt,show N-1=mid.length by omega,List.take_left]
        have hn1:N-1=mid.length:=AA
        rw [xC,hAm,jh,hn1] at hmid;have hcut:=fun W=>aaF (P:=prog) Tryz.underlying25 (e:=42) (size:=2) (fun _=>by kernel_rfl) (some ⟨b1,o1,none⟩) q.length cq 1 N AA AA hq1 (1:Int) (N:Int) rfl rfl W;rw [hAm,jh,hn1] at hcut;have ML:=AB (fun W (hW:AU w8 W)=>adI (.slice Am mid.length Cm) mid W (show CZ W (.slice Am mid.length Cm) mid from Sl.mono hmid hW) AA);have hwN:IntKind.i64.wrap ((q.length:Int)-1)=N:=by rw [show ((q.length:Int)-1)=N by omega];exact Jw _ AA
        have hwr:=EL ((k:Int)+1);have z1:(N:Int)<q.length:=AA
        have z2:(0:Int)<=N:=AA
        have z3:0<q.length:=AA
        have z4:N<q.length:=AA
        have hml:mid.length<=64:=AA
        have CB:=HX.1;have n5:=Own.EX Qs.1.Ec CB Aw;have ED:=AB (fun (y:Ar×SV)=>show (ol++[y]).length=k+1 from by rw [Es,Oz.1];rfl);have ag2:ol.length<=1000000:=by rw [Oz.1];omega
        have hb8:=Hb.1.size;clear xA hqe harr xB hlast hpart Yz hwx hwy YT hqN hN e0 e1 xC hAm jh hn1 hmid;generalize Ig T x=nx at *;generalize Ig T y=ny at *;go_upto_region 24 with fail;clear c0 hlb hwN;refine PE (w8.heap.size) (Df) (.take 0 1 (.run 16 2 1 (.two 1 262143 (.call 18 524287 (.take 19 1048575 (.call 20 2097151 (.call 21 4194303 (.take 22 8388607 (.call 23 16777215 (.done))))))) 18 524285 (.take 19 1048573 (.two 1 1048575 (.call 20 2097151 (.call 21 4194303 (.take 22 8388607 (.call 23 16777215 (.done))))) 20 2097149 (.call 1 2097151 (.call 21 4194303 (.take 22 8388607 (.call 23 16777215 (.done)))))))))) fun CQ QR Ae Aj hS=>?_;replace CB:=CB.drew
        iterate 7 refine Ak ?_
        refine eu (v:=.int .i64 nx) Ae rfl hS rfl (fun wq hq=>by have lk:=HLx.1 _ (Hb.1.trans hq);go_simp) ?_
        try simp only [pu]
        iterate 5 refine Ak ?_
        refine eu (v:=.int .i64 ny) Ae rfl hS rfl (fun wq hq=>by have lk:=HLy.1 _ (Hb.1.trans hq);go_simp) ?_
        try simp only [pu]
        iterate 3 refine Ak ?_
        refine MQ (i:=1) (j:=18) (ET Ae rfl) (ET Ae rfl) (fun K hK=>?_) (fun K hK=>?_)
        ·have AP:=AB hS;clear hS;refine En (Eh rfl) ?_;obtain ⟨q1,q2,q3,q4,-⟩:=AO.Az CB;go_simp;refine hK.out _ _ AP.out (fun hS=>?_);clear hK K AP
         try simp only [pu]
         refine BN ?_;clear hS;intro K hK AP;go_simp;refine (ML.1 _ (Hb.1.trans AP.out)).mono ?_;rintro e BZ ⟨A9,c9,rfl,BU,Gy⟩;have hS:E8 (w8.heap.size) Df BZ:=(show Below (w8.heap.size) Df _ from AP.out).trans (BU.mono (EG AA (show Below (w8.heap.size) Df _ from AP.out).size));clear AP
         try replace XL:=XL.keep BU
         try replace CB:=CB.keep BU
         refine hK.out _ _ hS (fun _=>?_);clear hK K
         try simp only [pu]
         refine Ak ?_;refine BN ?_;clear hS;intro K hK AP;go_simp;have VR:Below (w8.heap.size) Df (BZ):=AP.out;have Le:w8.heap.size<=(BZ).heap.size:=EG AA (show Below (w8.heap.size) Df (BZ) from AP.out).size;refine hK.out _ _ (Ej AA AP.out _) (fun hS=>?_);clear hK K AP
         try replace CB:=CB.alloc (.cells #[.int .i64 ((k:Int)+1),.int .i64 nx,.int .i64 ny,.slice A9 mid.length c9,.int .i64 0,.int .i64 0] 50)
         try replace XL:=XL.alloc (.cells #[.int .i64 ((k:Int)+1),.int .i64 nx,.int .i64 ny,.slice A9 mid.length c9,.int .i64 0,.int .i64 0] 50)
         have XL:=AO.new (BZ) 50 #[.int .i64 ((k:Int)+1),.int .i64 nx,.int .i64 ny,.slice A9 mid.length c9,.int .i64 0,.int .i64 0]
         try simp only [World.size_drew,World.size_alloc] at XL Le
         try simp only [World.alloc_drew] at CB
         try simp only [World.alloc_drew] at XL
         try simp only [pu]
         refine BN ?_;clear hS;intro K hK AP;refine GK (.tmp 83) (.tmp 102) _ rfl (base:=w8.heap.size) Uw Ql Vw rfl (((Qs.1.Ec.keep (bD (bR Df))).keep BU).alloc _) rfl (l2:=[((⟨(k:Int)+1,nx,ny,mid,0,0⟩:Ar),(⟨A9,mid.length,c9⟩:SV))]) (Sl.lit (n:=1) (AO.made rfl _ _) rfl (D7 AA)) Dl Dl ZF ?_;intro v7 w7 Dv DN Jd;obtain ⟨A7,c7,hv7,-⟩:=Own.GU Dv;rw [ED.1] at hv7;subst hv7;have EW:=AO.grown CB DN (fun e=>n5 e.symm);obtain ⟨q1,q2,q3,q4,q5,q6,q7⟩:=AO.Az EW;have hmr:=FP.more (((Qs.1.keep (bD (bR Df))).keep BU).keep (bA (bR _) _)) Dv DN (Own.alloc (Gy.EM DR) _);obtain ⟨Lh,OZ,Fv⟩:=CG (hmr.far EW Aw Aw Aw Aw 1 (.slice A7 (k+1) c7)) (EW.EH 1 (.slice A7 (k+1) c7)) (bS (p:=⟨g10,1,none⟩) (bG (bA (bT (bT Hb.1 (bD (bR Df))) BU) _) DN (fun q hq=>(Qs.1.Ec.lt q hq).1)) hgg (.slice A7 (k+1) c7));have hS:E8 w8.heap.size Df w7:=Below.grown (show Below w8.heap.size Df _ from AP.out) DN ZF (fun q hq=>(Qs.1.Ec.lt q hq).1);clear hmr EW Dv DN Jd;clear AP;refine hK.out _ _ hS (fun _=>?_);clear hK K
         try simp only [pu]
         refine Ak ?_;refine BN ?_;clear hS;intro K hK AP;go_simp;refine hK.out _ _ (by unfold E8;have h:Below _ _ _:=AP.out;repeat (first | with_reducible assumption | with_reducible exact Below.refl _ _ | with_reducible refine JG ?_ Jv _ | with_reducible refine Below.drew ?_ | with_reducible refine Ej AA ?_ _ | exact h)) ?_;intro hS;clear hK K AP
         try simp only [pu]
         refine J3 ?_;clear hS Aj Ae;intro hB;go_wp2;go_roundw
         case rel => exact ⟨k+1,_,A7,c7,AA,BG,ED.1 _,by rw [qp.1];exact Lh.1,Rz,Fv.1⟩
         case measure => exact BH
        ·have AP:=AB hS;clear hS;refine En (Eh rfl) ?_;go_simp;refine (ML.1 _ (Hb.1.trans AP.out)).mono ?_;rintro e BZ ⟨A9,c9,rfl,BU,Gy⟩;have hS:E8 (w8.heap.size) Df BZ:=(show Below (w8.heap.size) Df _ from AP.out).trans (BU.mono (EG AA (show Below (w8.heap.size) Df _ from AP.out).size));clear AP
         try replace XL:=XL.keep BU
         try replace CB:=CB.keep BU
         refine hK.out _ _ hS (fun _=>?_);clear hK K
         try simp only [pu]
         refine Ak ?_;refine MQ (i:=1) (j:=20) (ET Ae rfl) (ET Ae rfl) (fun K hK=>?_) (fun K hK=>?_)
         ·have AP:=AB hS;clear hS;refine En (Eh rfl) ?_;obtain ⟨q1,q2,q3,q4,-⟩:=AO.Az CB;go_simp;refine hK.out _ _ AP.out (fun hS=>?_);clear hK K AP
          try simp only [pu]
          refine BN ?_;clear hS;intro K hK AP;go_simp;have VR:Below (w8.heap.size) Df (BZ):=AP.out;have Le:w8.heap.size<=(BZ).heap.size:=EG AA (show Below (w8.heap.size) Df (BZ) from AP.out).size;refine hK.out _ _ (Ej AA AP.out _) (fun hS=>?_);clear hK K AP
          try replace CB:=CB.alloc (.cells #[.int .i64 ((k:Int)+1),.int .i64 nx,.int .i64 ny,.slice A9 mid.length c9,.int .i64 0,.int .i64 0] 50)
          try replace XL:=XL.alloc (.cells #[.int .i64 ((k:Int)+1),.int .i64 nx,.int .i64 ny,.slice A9 mid.length c9,.int .i64 0,.int .i64 0] 50)
          have XL:=AO.new (BZ) 50 #[.int .i64 ((k:Int)+1),.int .i64 nx,.int .i64 ny,.slice A9 mid.length c9,.int .i64 0,.int .i64 0]
          try simp only [World.size_drew,World.size_alloc] at XL Le
          try simp only [World.alloc_drew] at CB
          try simp only [World.alloc_drew] at XL
          try simp only [pu]
          refine BN ?_;clear hS;intro K hK AP;refine GK (.tmp 83) (.tmp 102) _ rfl (base:=w8.heap.size) Uw Ql Vw rfl (((Qs.1.Ec.keep (bD (bR Df))).keep BU).alloc _) rfl (l2:=[((⟨(k:Int)+1,nx,ny,mid,0,0⟩:Ar),(⟨A9,mid.length,c9⟩:SV))]) (Sl.lit (n:=1) (AO.made rfl _ _) rfl (D7 AA)) Dl Dl ZF ?_;intro v7 w7 Dv DN Jd;obtain ⟨A7,c7,hv7,-⟩:=Own.GU Dv;rw [ED.1] at hv7;subst hv7;have EW:=AO.grown CB DN (fun e=>n5 e.symm);obtain ⟨q1,q2,q3,q4,q5,q6,q7⟩:=AO.Az EW;have hmr:=FP.more (((Qs.1.keep (bD (bR Df))).keep BU).keep (bA (bR _) _)) Dv DN (Own.alloc (Gy.EM DR) _);obtain ⟨Lh,OZ,Fv⟩:=CG (hmr.far EW Aw Aw Aw Aw 1 (.slice A7 (k+1) c7)) (EW.EH 1 (.slice A7 (k+1) c7)) (bS (p:=⟨g10,1,none⟩) (bG (bA (bT (bT Hb.1 (bD (bR Df))) BU) _) DN (fun q hq=>(Qs.1.Ec.lt q hq).1)) hgg (.slice A7 (k+1) c7));have hS:E8 w8.heap.size Df w7:=Below.grown (show Below w8.heap.size Df _ from AP.out) DN ZF (fun q hq=>(Qs.1.Ec.lt q hq).1);clear hmr EW Dv DN Jd;clear AP;refine hK.out _ _ hS (fun _=>?_);clear hK K
          try simp only [pu]
          refine Ak ?_;refine BN ?_;clear hS;intro K hK AP;go_simp;refine hK.out _ _ (by unfold E8;have h:Below _ _ _:=AP.out;repeat (first | with_reducible assumption | with_reducible exact Below.refl _ _ | with_reducible refine JG ?_ Jv _ | with_reducible refine Below.drew ?_ | with_reducible refine Ej AA ?_ _ | exact h)) ?_;intro hS;clear hK K AP
          try simp only [pu]
          refine J3 ?_;clear hS Aj Ae;intro hB;go_wp2;go_roundw
          case rel => exact ⟨k+1,_,A7,c7,AA,BG,ED.1 _,by rw [qp.1];exact Lh.1,Rz,Fv.1⟩
          case measure => exact BH
         ·have AP:=AB hS;clear hS;refine En (Eh rfl) ?_;go_simp;have VR:Below (w8.heap.size) Df (BZ):=AP.out;have Le:w8.heap.size<=(BZ).heap.size:=EG AA (show Below (w8.heap.size) Df (BZ) from AP.out).size;refine hK.out _ _ (Ej AA AP.out _) (fun hS=>?_);clear hK K AP
          try replace CB:=CB.alloc (.cells #[.int .i64 ((k:Int)+1),.int .i64 nx,.int .i64 ny,.slice A9 mid.length c9,.int .i64 0,.int .i64 0] 50)
          try replace XL:=XL.alloc (.cells #[.int .i64 ((k:Int)+1),.int .i64 nx,.int .i64 ny,.slice A9 mid.length c9,.int .i64 0,.int .i64 0] 50)
          have XL:=AO.new (BZ) 50 #[.int .i64 ((k:Int)+1),.int .i64 nx,.int .i64 ny,.slice A9 mid.length c9,.int .i64 0,.int .i64 0]
          try simp only [World.size_drew,World.size_alloc] at XL Le
          try simp only [World.alloc_drew] at CB
          try simp only [World.alloc_drew] at XL
          try simp only [pu]
          refine BN ?_;clear hS;intro K hK AP;obtain ⟨q1,q2,q3,q4,-⟩:=AO.Az CB;go_simp;refine hK.out _ _ AP.out (fun hS=>?_);clear hK K AP
          try simp only [pu]
          refine BN ?_;clear hS;intro K hK AP;refine GK (.tmp 83) (.tmp 102) _ rfl (base:=w8.heap.size) Uw Ql Vw rfl (((Qs.1.Ec.keep (bD (bR Df))).keep BU).alloc _) rfl (l2:=[((⟨(k:Int)+1,nx,ny,mid,0,0⟩:Ar),(⟨A9,mid.length,c9⟩:SV))]) (Sl.lit (n:=1) (AO.made rfl _ _) rfl (D7 AA)) Dl Dl ZF ?_;intro v7 w7 Dv DN Jd;obtain ⟨A7,c7,hv7,-⟩:=Own.GU Dv;rw [ED.1] at hv7;subst hv7;have EW:=AO.grown CB DN (fun e=>n5 e.symm);obtain ⟨q1,q2,q3,q4,q5,q6,q7⟩:=AO.Az EW;have hmr:=FP.more (((Qs.1.keep (bD (bR Df))).keep BU).keep (bA (bR _) _)) Dv DN (Own.alloc (Gy.EM DR) _);obtain ⟨Lh,OZ,Fv⟩:=CG (hmr.far EW Aw Aw Aw Aw 1 (.slice A7 (k+1) c7)) (EW.EH 1 (.slice A7 (k+1) c7)) (bS (p:=⟨g10,1,none⟩) (bG (bA (bT (bT Hb.1 (bD (bR Df))) BU) _) DN (fun q hq=>(Qs.1.Ec.lt q hq).1)) hgg (.slice A7 (k+1) c7));have hS:E8 w8.heap.size Df w7:=Below.grown (show Below w8.heap.size Df _ from AP.out) DN ZF (fun q hq=>(Qs.1.Ec.lt q hq).1);clear hmr EW Dv DN Jd;clear AP;refine hK.out _ _ hS (fun _=>?_);clear hK K
          try simp only [pu]
          refine Ak ?_;refine BN ?_;clear hS;intro K hK AP;go_simp;refine hK.out _ _ (by unfold E8;have h:Below _ _ _:=AP.out;repeat (first | with_reducible assumption | with_reducible exact Below.refl _ _ | with_reducible refine JG ?_ Jv _ | with_reducible refine Below.drew ?_ | with_reducible refine Ej AA ?_ _ | exact h)) ?_;intro hS;clear hK K AP
          try simp only [pu]
          refine J3 ?_;clear hS Aj Ae;intro hB;go_wp2;go_roundw
          case rel => exact ⟨k+1,_,A7,c7,AA,BG,ED.1 _,by rw [qp.1];exact Lh.1,Rz,Fv.1⟩
          case measure => exact BH
       ·have hkn:k=ys.length:=AA
        subst hkn;have xG:P.take ys.length=P:=IE (by rw [TI.1];exact Cj _);have pz:=AB (show FP Df w8.heap.size (.slice An T.length cn) (.slice Aa ys.length ca) (.slice none 0 0) (IK L) ol by
         have h9:=Qs.1;rw [xG] at h9;rw [jf.1];exact h9)
        have ji:=AB pz.1.Yr;have hmod:Mod (IK L):=by
         rw [jf.1];refine ⟨?_,?_,fun a ha=>?_⟩
         ·show (Nz T).length<=_
          unfold Nz;rw [CV,P9];omega
         ·show (OQ T P).length<=_
          unfold OQ;rw [CV,P9,<- TI.1];omega
         ·have ha':a∈OQ T P:=ha;unfold OQ at ha';obtain ⟨i,hi,rfl⟩:=Ez.1 ha';have hi:=FQ.1 hi;have h1:=NZ.1.1 (P.getD i []) (by rw [Gm,Di hi];exact BO hi);unfold Wq;simp only [List.length_dropLast,ah2];omega
        have hbare:C9 (IK L)=IK L:=by
         rw [jf.1];unfold C9 yB;simp only [Pl.mk.injEq,and_true,true_and];unfold OQ;rw [IW];rfl
        obtain ⟨Fe,aQ,xH,HBc,Vd,Ws,jk⟩:=WI (adL _ (IK L) _ ji.1) (fun W (hW:AU Df W) (hz:Gn (IK L)=0)=>awG _ (IK L) W (ji.1.mono hW) hmod (by rw [hbare];exact hz)) (show Om (IK L)=if Gn (IK L)≠0 then Gn (IK L) else if 64<(Ci (C9 (IK L))).length then 3 else 0 by unfold Om;rw [hbare]) (fun hc=>ane HG.1 Fv.1 hc) (fun hc=>anf HG.1 Fv.1 hc) (TR.1.keep Hb.1) (bT Jb.1 Hb.1);have CB:=HX.1;clear xG Qs NZ wu iP I9 QE HTn KH aV HY8 qE TR Jb Hb hmod hbare Fv ji O5 TI hyn hTl;generalize Gn (IK L)=z at *
        try clear Gz Hg Hu ND
        obtain ⟨Gz,Hg,Hu,ND,-⟩:=CB.Az;go_wp2_with fail;refine Fe.1.mono ?_;rintro e w12 ⟨rfl,VL⟩;obtain ⟨VN,Z8,UA,agM⟩:=DW (Ws.1.keep VL) (bT jk.1 VL) (HX.1.keep VL) VL;clear VL Ws jk CB Gz Hg Hu ND HX Fe pz;by_cases hz:z=0
        ·subst hz;have CB:=UA.1
         try clear Gz Hg Hu ND
         obtain ⟨Gz,Hg,Hu,ND,-⟩:=CB.Az;go_wp2_with fail;refine (aQ.1 _ agM.1 (by trivial)).mono ?_;have hB0:=Vd.1 (by trivial);rw [xH.1,AX Ah] at hB0;rintro e w13 (⟨h64,rfl,VO⟩ | ⟨h64,A1,c1,A2,c2,A3,c3,bl,rfl,VO,hpo⟩)
         ·rw [AZ h64] at hB0;obtain ⟨HB0,QG,jl⟩:=CG hB0 (VN.1.keep VO) (bT Z8.1 VO);have Xm:=QG.1;clear hB0 VO h64 CB Gz Hg Hu ND UA;obtain ⟨aa8,aa9,aaA,aaB,agN,agO,agP⟩:=Xm.Az;unfold oh;go_wp2_with fail;refine Iz (g:=w.heap.size) (cs:=#[.slice none 0 0,.slice none 0 0,.slice none 0 0]) rfl Na rfl rfl (AO.LG QG.1) ?_;exact Lu.bad HB0.1 Aw (bS (p:=⟨w.heap.size,2,none⟩) (bS (p:=⟨w.heap.size,1,none⟩) (bS (p:=⟨w.heap.size,0,none⟩) jl.1 (Cj _) _) (Cj _) _) (Cj _) _)
         ·rw [AX h64] at hB0;obtain ⟨HB0,QG,jl,OJ⟩:=DW hB0 (VN.1.keep VO) (bT Z8.1 VO) hpo;have Xm:=QG.1;have jR:=AB (show L9 L=J6 (IK L) by unfold L9;rw [AZ HB0.1]);clear hB0 VO h64 CB Gz Hg Hu ND UA hpo;generalize (J6 (IK L)).nodes.length=m1 at *;generalize (J6 (IK L)).AQ.length=m2 at *;generalize (J6 (IK L)).faces.length=m3 at *
          try clear aa8 aa9 aaA aaB
          try clear agN agO agP
          obtain ⟨aa8,aa9,aaA,aaB,agN,agO,agP⟩:=Xm.Az;go_wp2_with fail;refine Iz (g:=w.heap.size) (cs:=#[.slice A1 m1 c1,.slice A2 m2 c2,.slice A3 m3 c3]) rfl Na rfl rfl (AO.LG QG.1) ?_;have h1:=QG.1.EH 0 (.slice A1 m1 c1);have h2:=h1.EH 1 (.slice A2 m2 c2);have hp1:=OJ.1.far QG.1 Aw Aw Aw Aw 0 (.slice A1 m1 c1);have hp2:=hp1.far h1 Aw Aw Aw Aw 1 (.slice A2 m2 c2);have hp3:=hp2.far h2 Aw Aw Aw Aw 2 (.slice A3 m3 c3);exact ⟨_,by rw [HB0.1];rfl,bS (p:=⟨w.heap.size,2,none⟩) (bS (p:=⟨w.heap.size,1,none⟩) (bS (p:=⟨w.heap.size,0,none⟩) jl.1 (Cj _) _) (Cj _) _) (Cj _) _,by rw [jR.1];exact hp3.Yr⟩
        ·have hz':(z != 0)=true:=by simpa using hz
         have HZ:=AB (HBc.1 hz);have x9:=VN.1;clear hz HBc Vd xH aQ UA
         try clear agJ agK agL anj
         obtain ⟨agJ,agK,agL,anj,axe,axf,axg⟩:=x9.Az;go_wp2_with fail;refine Iz (g:=w.heap.size) (cs:=#[.slice none 0 0,.slice none 0 0,.slice none 0 0]) rfl Na rfl rfl (AO.LG VN.1) ?_;exact Lu.bad HZ.1 Aw (bS (p:=⟨w.heap.size,2,none⟩) (bS (p:=⟨w.heap.size,1,none⟩) (bS (p:=⟨w.heap.size,0,none⟩) Z8.1 (Cj _) _) (Cj _) _) (Cj _) _)
def Gs (F:Int->Int) (bl:List (Ar×SV)):List (Ar×SV):=bl.map fun x=>(Ny F x.1,x.2)
theorem ank (F:Int->Int) (bl:List (Ar×SV)):(Gs F bl).length=bl.length:=by unfold Gs;rw [CV]
theorem axh {F:Int->Int} {bl:List (Ar×SV)} {k:Nat} (h:k<(Gs F bl).length) (hk:k<bl.length):(Gs F bl)[k]=(Ny F bl[k].1,bl[k].2):=by simp only [Gs,Iu]
theorem axi (F G:Int->Int) (bl:List (Ar×SV)):Gs G (Gs F bl)=Gs G bl:=by
 unfold Gs;rw [IW];rfl
theorem axj (F G:Int->Int) (bl:List (Ar×SV)):JF G (Gs F bl) bl.length=Gs G bl:=by
 have h:=alD G (Gs F bl);rw [ank] at h;exact h.trans (axi F G bl)
section
variable {w:World} {B g n c k:Nat} {M:List (Ar×SV)} {a:Ar} {s:SV}
theorem Own.left (h:Own w B 50 6 Ja (.slice (some ⟨g,0,none⟩) n c) (M.set k (a,s))) (hk:k<M.length) (v:Int):Own (w.setCell ⟨g,k*6+4,none⟩ (.int .i64 v)) B 50 6 Ja (.slice (some ⟨g,0,none⟩) n c) (M.set k (⟨a.id,a.fr,a.dst,a.via,v,a.right⟩,s)):=by
 have h1:=Own.jC Ql h (i:=k) (by rw [P7];exact hk) (j:=4) AA (⟨a.id,a.fr,a.dst,a.via,v,a.right⟩,s) (.int .i64 v) (by rw [List.getElem_set_self];rfl);rw [List.set_set] at h1;exact h1
theorem Own.right (h:Own w B 50 6 Ja (.slice (some ⟨g,0,none⟩) n c) (M.set k (a,s))) (hk:k<M.length) (v:Int):Own (w.setCell ⟨g,k*6+5,none⟩ (.int .i64 v)) B 50 6 Ja (.slice (some ⟨g,0,none⟩) n c) (M.set k (⟨a.id,a.fr,a.dst,a.via,a.left,v⟩,s)):=by
 have h1:=Own.jC Ql h (i:=k) (by rw [P7];exact hk) (j:=5) AA (⟨a.id,a.fr,a.dst,a.via,a.left,v⟩,s) (.int .i64 v) (by rw [List.getElem_set_self];rfl);rw [List.set_set] at h1;exact h1
end
theorem axk (A:Option Addr) (c B:Nat) (vx:Value) (X:List Int) (v:Int) (F:Int->Int) (bl:List (Ar×SV)) (w:World) (ho:Own w B 50 6 Ja (.slice A bl.length c) (Gs F bl)) (hX:∀ W,w.grownBy W (Value.slice A bl.length c).ownBlock->Ints W vx X) (hb:∀ d∈X,-1073741824<=d/\d<=1073741824) (hxl:X.length<=100000) (hbl:bl.length<=100000) :
  Calls prog 87 #[.slice A bl.length c,vx,.int .i64 v] w fun e w'=>e=.returned (.tuple #[])/\Own w' B 50 6 Ja (.slice A bl.length c) (Gs (GV F v [X]) bl)/\w.grownBy w' (Value.slice A bl.length c).ownBlock:=by
 obtain ⟨Ax,cx,rfl,hx1,hx2,-⟩:=hX w (gR w _);unfold maxLen at hx2;obtain ⟨HX,HO,Y8⟩:=CG hX ho hb;clear hX ho hb;go_enter func87,ntmps87;go_upto_block 0 with fail;go_wp2_with fail;go_loopw [6] (fun u wr=>∃ i:Nat,i<=X.length/\u=.int .i64 i/\Own wr B 50 6 Ja (.slice A bl.length c) (Gs (GV F v [X.take i]) bl)/\w.grownBy wr (Value.slice A bl.length c).ownBlock) (fun u _=>X.length-(intOf u).toNat)
 case atStart => exact ⟨0,BX _,rfl,by rw [OD,show GV F v [[]]=F from (alH F v []).trans (alG F v)];exact HO.1,gR w _⟩
 case round =>
  obtain ⟨i,hi,rfl,ho,hg⟩:=hrel;obtain ⟨wo,rfl⟩:=BR wr;have QB:=AB ho;have HG:=AB hg;clear ho hg;by_cases hlt:i<X.length
  ·have kk1:(i:Int)<X.length:=AA
   have kk2:0<=(i:Int):=AA
   have hd:=Y8.1 _ (BO hlt);have hst:=amk F v [] X hlt;rw [OW,OW] at hst;have Gg:=AB hst;clear hst;go_upto_block 2 with fail;go_wp2_with fail;go_loopw [7] (fun u wr=>∃ k:Nat,k<=bl.length/\u=.int .i64 k/\Own wr B 50 6 Ja (.slice A bl.length c) (JF (GV F v [X.take (i+1)]) (Gs (GV F v [X.take i]) bl) k)/\w.grownBy wr (Value.slice A bl.length c).ownBlock) (fun u _=>bl.length-(intOf u).toNat)
   case atStart => exact ⟨0,BX _,rfl,by rw [afI];exact QB.1,HG.1⟩
   case round =>
    obtain ⟨k,hk,rfl,ho,hg⟩:=hrel;obtain ⟨wq,rfl⟩:=BR wr;have qJ:=AB hg;by_cases hkl:k<bl.length
    ·have hkl2:k<(Gs (GV F v [X.take i]) bl).length:=by rw [ank];exact hkl
     have hkM:k<(JF (GV F v [X.take (i+1)]) (Gs (GV F v [X.take i]) bl) k).length:=by rw [alC];exact hkl2
     have hat:=alE (f:=GV F v [X.take (i+1)]) hkl2 hkM;have hset:=alF (f:=GV F v [X.take (i+1)]) hkl2;have hel:=axh (F:=GV F v [X.take i]) hkl2 hkl;rw [hel] at hat hset;obtain ⟨M,hM⟩:=BI (JF (GV F v [X.take (i+1)]) (Gs (GV F v [X.take i]) bl) k);rw [hM] at ho hset;have agQ:k<M.length:=by rw [<- hM];exact hkM
     have hat':M[k]=(Ny (GV F v [X.take i]) bl[k].1,bl[k].2):=by rw [<- hat];congr 1;exact hM.symm
     have hself:M.set k (Ny (GV F v [X.take i]) bl[k].1,bl[k].2)=M:=by rw [<- hat',List.set_getElem_self]
     rw [<- hself] at ho;have hsf:=congrFun Gg.1;have Sv:=AB hset;have jm:=AB hsf;obtain ⟨g,hgA,hBg,hgl,hfz,c0,-,-,-,c4,c5⟩:=ho.xq (k:=k) (by rw [P7];exact agQ);subst hgA;rw [List.getElem_set_self] at c0 c4 c5;unfold Ny at ho c0 c4 c5;simp only at c0 c4 c5;have hxw:=HX.1 wq qJ.1;obtain ⟨A',c',he,-,-,Sz⟩:=hxw;injection he with y1 y2 y3;subst y1 y3;clear y2;obtain ⟨bx,ox,rfl,hlx,d0⟩:=Sz.int hlt;have Fp:=AB ho;have HK:=AB agQ;obtain ⟨l0,hl0⟩:=BI (GV F v [X.take i] bl[k].1.id);obtain ⟨r0,hr0⟩:=BI (GV F v [X.take i] (-bl[k].1.id));rw [hl0] at c4;rw [hr0] at c5;rw [hl0,hr0] at Fp;have abx:=AB hl0;have HR0:=AB hr0;generalize hid:bl[k].1.id=id at *;have cO:=AB hid;have anl:=hfz (k*6+4);have G8:=hfz (k*6+5);have kk3:(k:Int)<bl.length:=AA
     have kk4:0<=(k:Int):=AA
     have kw:=EL (-X[i]);clear ho hg hel hat hat' hself hset hsf hM hkM agQ hkl2 Sz hl0 hr0 hid;generalize hxi:X[i]=d at *;have qK:=AB hxi;clear hxi;by_cases e1:id=d
     ·have b1:(id == d)=true:=by simpa using e1
      go_upto_region 6 with fail;refine D9 (wq) (.run 10 0 0 (.done)) fun CQ QR Ae Aj hS=>?_
      iterate 10 refine Ak ?_
      refine D5 ?_;clear hS Aj Ae;intro hB;clear hB;go_upto_region 8 with fail;obtain ⟨W5,hW⟩:∃ W:World,W=(wq.setCell ⟨g,k*6+4,none⟩ (.int .i64 v)).drew:=⟨_,rfl⟩;have Ep:=AB (show Own W5 B 50 6 Ja _ _ by rw [hW];exact (Own.left Fp.1 HK.1 v).keep (bD (bR _)));have Rl:=AB (show w.grownBy W5 _ by rw [hW];exact gD (gS qJ.1 (k*6+4) (.int .i64 v)));rw [<- hW];clear hW c0 c4 c5 d0 hlx hgl hfz anl G8 Fp qJ b1;obtain ⟨g',hgA,-,hgl,hfz,c0,-,-,-,c4,c5⟩:=Ep.1.xq (k:=k) (by rw [P7];exact HK.1);injection hgA with hgA;injection hgA with y1 _ _;subst y1;rw [List.getElem_set_self] at c0 c4 c5;simp only at c0 c4 c5;have hxw:=HX.1 W5 Rl.1;obtain ⟨A',c',he,-,-,Sz⟩:=hxw;injection he with y1 y2 y3;subst y1 y3;clear y2;obtain ⟨bx',ox',he,hlx,d0⟩:=Sz.int hlt;injection he with he;injection he with y1 y2 _;subst y1 y2;rw [qK.1] at d0;clear Sz;have G8:=hfz (k*6+5);by_cases e2:id=-d
      ·have b2:(id == -d)=true:=by simpa using e2
       refine D9 (W5) (.run 11 0 0 (.done)) fun CQ QR Ae Aj hS=>?_
       iterate 11 refine Ak ?_
       refine D5 ?_;clear hS Aj Ae;intro hB;have Jb:=AB hB;clear hB;have KH:=AB ((Own.right Ep.1 HK.1 v).keep (bD (bR _)));have Wj:=AB (gD (gS Rl.1 (k*6+5) (.int .i64 v)));have HF:=AB (show Own (W5.setCell ⟨g,k*6+5,none⟩ (.int .i64 v)).drew B 50 6 Ja (.slice (some ⟨g,0,none⟩) bl.length c) (JF (GV F v [X.take (i+1)]) (Gs (GV F v [X.take i]) bl) (k+1)) by
        rw [<- Sv.1];have h:=KH.1;simp only [Ny,jm.1,cO.1,abx.1,HR0.1,qK.1]
        first
        | (rw [AZ e1,AZ AA];exact h)
        | (rw [AX e1,AZ AA];exact h))
       go_wp2;go_roundw
       case rel => exact ⟨k+1,AA,BG,HF.1,Wj.1⟩
       case measure => exact BH
      ·have b2:(id == -d)=false:=by simpa using e2
       refine D9 (W5) (.run 11 0 0 (.done)) fun CQ QR Ae Aj hS=>?_
       iterate 11 refine Ak ?_
       refine D5 ?_;clear hS Aj Ae;intro hB;have Jb:=AB hB;clear hB;have KH:=AB (Ep.1.keep Jb.1);have Wj:=AB (gB Rl.1 Jb.1);have HF:=AB (show Own W5.drew B 50 6 Ja (.slice (some ⟨g,0,none⟩) bl.length c) (JF (GV F v [X.take (i+1)]) (Gs (GV F v [X.take i]) bl) (k+1)) by
        rw [<- Sv.1];have h:=KH.1;simp only [Ny,jm.1,cO.1,abx.1,HR0.1,qK.1]
        first
        | (rw [AZ e1,AX AA];exact h)
        | (rw [AX e1,AX AA];exact h))
       go_wp2;go_roundw
       case rel => exact ⟨k+1,AA,BG,HF.1,Wj.1⟩
       case measure => exact BH
     ·have b1:(id == d)=false:=by simpa using e1
      go_upto_region 6 with fail;refine D9 (wq) (.run 10 0 0 (.done)) fun CQ QR Ae Aj hS=>?_
      iterate 10 refine Ak ?_
      refine D5 ?_;clear hS Aj Ae;intro hB;clear hB;obtain ⟨W5,hW⟩:∃ W:World,W=wq.drew:=⟨_,rfl⟩;have Ep:=AB (show Own W5 B 50 6 Ja _ _ by rw [hW];exact Fp.1.keep (bD (bR wq)));have Rl:=AB (show w.grownBy W5 _ by rw [hW];exact gD qJ.1);rw [<- hW];clear hW c0 c4 c5 d0 hlx hgl hfz anl G8 Fp qJ;go_upto_region 8 with fail;clear b1;obtain ⟨g',hgA,-,hgl,hfz,c0,-,-,-,c4,c5⟩:=Ep.1.xq (k:=k) (by rw [P7];exact HK.1);injection hgA with hgA;injection hgA with y1 _ _;subst y1;rw [List.getElem_set_self] at c0 c4 c5;simp only at c0 c4 c5;have hxw:=HX.1 W5 Rl.1;obtain ⟨A',c',he,-,-,Sz⟩:=hxw;injection he with y1 y2 y3;subst y1 y3;clear y2;obtain ⟨bx',ox',he,hlx,d0⟩:=Sz.int hlt;injection he with he;injection he with y1 y2 _;subst y1 y2;rw [qK.1] at d0;clear Sz;have G8:=hfz (k*6+5);by_cases e2:id=-d
      ·have b2:(id == -d)=true:=by simpa using e2
       refine D9 (W5) (.run 11 0 0 (.done)) fun CQ QR Ae Aj hS=>?_
       iterate 11 refine Ak ?_
       refine D5 ?_;clear hS Aj Ae;intro hB;have Jb:=AB hB;clear hB;have KH:=AB ((Own.right Ep.1 HK.1 v).keep (bD (bR _)));have Wj:=AB (gD (gS Rl.1 (k*6+5) (.int .i64 v)));have HF:=AB (show Own (W5.setCell ⟨g,k*6+5,none⟩ (.int .i64 v)).drew B 50 6 Ja (.slice (some ⟨g,0,none⟩) bl.length c) (JF (GV F v [X.take (i+1)]) (Gs (GV F v [X.take i]) bl) (k+1)) by
        rw [<- Sv.1];have h:=KH.1;simp only [Ny,jm.1,cO.1,abx.1,HR0.1,qK.1]
        first
        | (rw [AZ e1,AZ AA];exact h)
        | (rw [AX e1,AZ AA];exact h))
       go_wp2;go_roundw
       case rel => exact ⟨k+1,AA,BG,HF.1,Wj.1⟩
       case measure => exact BH
      ·have b2:(id == -d)=false:=by simpa using e2
       refine D9 (W5) (.run 11 0 0 (.done)) fun CQ QR Ae Aj hS=>?_
       iterate 11 refine Ak ?_
       refine D5 ?_;clear hS Aj Ae;intro hB;have Jb:=AB hB;clear hB;have KH:=AB (Ep.1.keep Jb.1);have Wj:=AB (gB Rl.1 Jb.1);have HF:=AB (show Own W5.drew B 50 6 Ja (.slice (some ⟨g,0,none⟩) bl.length c) (JF (GV F v [X.take (i+1)]) (Gs (GV F v [X.take i]) bl) (k+1)) by
        rw [<- Sv.1];have h:=KH.1;simp only [Ny,jm.1,cO.1,abx.1,HR0.1,qK.1]
        first
        | (rw [AZ e1,AX AA];exact h)
        | (rw [AX e1,AX AA];exact h))
       go_wp2;go_roundw
       case rel => exact ⟨k+1,AA,BG,HF.1,Wj.1⟩
       case measure => exact BH
    ·obtain rfl:k=bl.length:=AA
     rw [axj] at ho;have Fp:=AB ho;clear ho hg;go_wp2;go_roundw
     case rel => exact ⟨i+1,AA,BG,Fp.1,qJ.1⟩
     case measure => exact BH
  ·obtain rfl:i=X.length:=AA
   have ho:=QB.1;rw [I5] at ho;have Fp:=AB ho;clear ho;go_wp2_with fail;exact bodyPost_end (v:=.tuple #[]) (results_none rfl _ _ _) rfl ⟨rfl,Fp.1,HG.1⟩
section
variable {G:Nat->Prop} {w w0 w' W:World}
def Skip (G:Nat->Prop) (w w':World):Prop:=w.heap.size<=w'.heap.size/\∀ k,k<w.heap.size->¬ G k->w'.heap[k]? = w.heap[k]?
theorem Skip.refl:Skip G w w:=⟨Cj _,fun _ _ _=>rfl⟩
theorem Skip.trans (h:Skip G w w') (k:Skip G w' W):Skip G w W:=⟨EG h.1 k.1,fun i hi hg=>(k.2 i (QS hi h.1) hg).trans (h.2 i hi hg)⟩
theorem Skip.of (h:AU w w'):Skip G w w':=⟨h.size,fun k hk _=>h.block k hk⟩
theorem Skip.EH (h:Skip G w w') {p:Addr} (hp:G p.block) (u:Value):Skip G w (w'.setCell p u) :=
 ⟨by simpa using h.1,fun k hk hg=>(Below.heap_setCell _ _ _ _ (fun e=>hg (by rw [e];exact hp))).trans (h.2 k hk hg)⟩
theorem Own.skip {α:Type} {base:Nat} {e:TypeId} {size:Nat} {f:α->List Value} {v:Value} {l:List α} (h:Own w base e size f v l) (hG:∀ g,G g->g<base) (hs:Skip G w W):Own W base e size f v l:=by
 obtain ⟨h1,h2⟩:=h;refine ⟨h1,?_⟩;rcases h2 with h2 | ⟨g,cap,cur,hv,hg,hh,r⟩
 · exact .inl h2
 · exact .inr ⟨g,cap,cur,hv,hg,(hs.2 g (AO.lt hh) (fun k=>by have:=hG g k;omega)).trans hh,r⟩
theorem D6.form {v:Value} {p:Pl} (h:D6 w v p):∃ An cn Aa ca Af cf,v=.agg #[.slice An p.nodes.length cn,.slice Aa p.AQ.length ca,.slice Af p.faces.length cf]:=by
 obtain ⟨_,_,_,al,rfl,hpa,⟨An,cn,rfl,-⟩,⟨⟨Aa,ca,rfl,-⟩,-⟩,⟨Af,cf,rfl,-⟩⟩:=h;exact ⟨An,cn,Aa,ca,Af,cf,by rw [hpa,CV]⟩
end
