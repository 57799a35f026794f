import Derived.Test.YtialfdomhoojiaaGreatJ04
import Derived.Lib.AppendZerosOnto
set_option linter.unusedSimpArgs false
set_option linter.unusedVariables false
set_option maxRecDepth 100000
set_option maxHeartbeats 4000000
namespace Go.Proofs.YtialfdomhoojiaaGreat
open Go.RowKit
def Qw (p:Pl):Bool:=PI (p.nodes.map (·.id)) && PI (p.AU.map (·.id)) && PI p.faces
def Ue (p:Pl):Bool:=p.AU.all fun a=>FI p.faces a.left && FI p.faces a.right
def Ig (p:Pl):Int :=
 if JX p=true then 3 else if Qw p=false then 10 else if OE p=false then 2 else if UC (p.nodes.map (·.pt))=true then 8
 else if p.AU.all (KY p)=false then 7 else if Ue p=false then 12 else if Og p=false then 11 else 0
theorem aAl {α β:Type} (l:List α) (f:α->List β) (n:Nat) (h:∀ a∈l,(f a).length<=n):(l.flatMap f).length<=l.length*n:=by
 induction l with
 | nil=>simp
 | cons a l ih =>
  simp only [Ju,EC,I9,Nat.succ_mul];have:=h a Aw
  have:=ih fun b hb=>h b (by simp [hb])
  omega
theorem lu {p:Pl} (h:JX p=false):(∀ a∈p.AU,a.via.length<=64)/\p.nodes.length<=256/\p.AU.length<=256/\p.faces.length<=64/\(p.AU.flatMap (·.via)).length<=16384:=by
 unfold JX at h;simp only [Rq,J3,Xu,E8] at h;obtain ⟨h1,⟨h2,h3⟩,h4⟩:=h;have h5:∀ a∈p.AU,a.via.length<=64:=fun a ha=>by have:=h1 a ha;omega
 have h6:=aAl p.AU (·.via) 64 h5;refine ⟨h5,AB,AB,AB,AB⟩
theorem ahK (v:Value) (p:Pl) (w:World) (h:Cb w v p) :
  Calls Tryz.prog 65 #[v] w fun e w'=>e=.returned (.int .i64 (Ig p))/\AP w w':=by
 have HP:=AA h;obtain ⟨vn,_,vf,al,rfl,hpa,-,⟨⟨Aa,ca,rfl,ha1,ha2,FU⟩,hV⟩,hF⟩:=h;unfold maxLen at ha2;have HF:=AA hF;clear hF;have HV:=AA hV;clear hV;have Gu:=AA FU;clear FU;have Zn:=AA hpa;clear hpa;obtain ⟨q,hq⟩:=BL (Ig p);rw [hq];unfold Ig at hq;have Hq:=AA hq;clear hq;go_enter Tryz.func65,Tryz.ntmps65;go_wp2_with fail;refine (aoT _ p _ (HP.out.mono (bA (bR w) _))).mono ?_;rintro e w1 ⟨rfl,hb1⟩;have Bw:AP w w1:=by
  exact Dk
 have X2:AO _ (w.heap.size) 26 #[vn,.slice Aa al.length ca,vf]:=AO.keep (by repeat (first | exact AO.made Aw _ _ | refine AO.alloc ?_ _)) hb1;clear hb1;obtain ⟨BQ,BR,BX,CZ,-,-,-⟩:=X2.BF
 cases hl:JX p
 case true =>
  have hf:=AA (show 3=q by rw [<- Hq.out,AZ hl]);clear hl;go_wp2;go_ret;exact ⟨DU hf.out,Bw⟩
 have Hl:=AA (lu hl);rw [hl] at Hq;replace Hq:=AA Hq.out;clear hl;have hsh:Short p:=fun a ha=>by have:=Hl.out.1 a ha;omega
 have DL:=AA hsh;clear hsh;go_wp2_with fail;refine (agU _ p _ (HP.out.mono Bw) gJ).mono ?_;rintro e w2 ⟨v2,rfl,hb2,ho2⟩;replace Bw:=bT Bw hb2;replace X2:=X2.keep hb2;clear hb2
 try clear BQ BR BX CZ
 obtain ⟨BQ,BR,BX,CZ,-,-,-⟩:=X2.BF;have hi2:=Own.sl ho2;go_wp2_with fail;refine (acH _ _ _ hi2).mono ?_;rintro e w3 ⟨rfl,hb3⟩;replace Bw:=bT Bw hb3;replace X2:=X2.keep hb3;clear hb3
 try clear BQ BR BX CZ
 try clear BQ BR BX CZ
 obtain ⟨BQ,BR,BX,CZ,-,-,-⟩:=X2.BF
 cases h1:PI (p.nodes.map (·.id))
 case false =>
  have hf:=AA (show 10=q by rw [<- Hq.out];simp [Qw,h1]);clear h1;go_wp2;go_ret;exact ⟨DU hf.out,Bw⟩
 have H1:=AA h1;clear h1 hi2 ho2;go_wp2_with fail;refine (agV _ p _ (HP.out.mono Bw) gJ).mono ?_;rintro e w4 ⟨v4,rfl,hb4,JY⟩;replace Bw:=bT Bw hb4;replace X2:=X2.keep hb4;clear hb4
 try clear BQ BR BX CZ
 obtain ⟨BQ,BR,BX,CZ,-,-,-⟩:=X2.BF;have hi4:=Own.sl JY;go_wp2_with fail;refine (acH _ _ _ hi4).mono ?_;rintro e w5 ⟨rfl,hb5⟩;replace Bw:=bT Bw hb5;replace X2:=X2.keep hb5;clear hb5
 try clear BQ BR BX CZ
 try clear BQ BR BX CZ
 obtain ⟨BQ,BR,BX,CZ,-,-,-⟩:=X2.BF
 cases h1:PI (p.AU.map (·.id))
 case false =>
  have hf:=AA (show 10=q by rw [<- Hq.out];simp [Qw,h1]);clear h1;go_wp2;go_ret;exact ⟨DU hf.out,Bw⟩
 have H2:=AA h1;clear h1 hi4 JY;go_wp2_with fail;refine (acH _ _ _ (HF.out.mono Bw)).mono ?_;rintro e w6 ⟨rfl,hb6⟩;replace Bw:=bT Bw hb6;replace X2:=X2.keep hb6;clear hb6
 try clear BQ BR BX CZ
 try clear BQ BR BX CZ
 obtain ⟨BQ,BR,BX,CZ,-,-,-⟩:=X2.BF
 cases h1:PI p.faces
 case false =>
  have hf:=AA (show 10=q by rw [<- Hq.out];simp [Qw,h1]);clear h1;go_wp2;go_ret;exact ⟨DU hf.out,Bw⟩
 have ho:=Hq.out;rw [show Qw p=true by simp [Qw,H1.out,H2.out,h1]] at ho;replace Hq:=AA ho;clear h1 ho H1 H2;go_wp2_with fail;refine (anw _ p _ (HP.out.mono Bw) gJ gJ gJ gJ).mono ?_;rintro e w7 ⟨rfl,hb7⟩;replace Bw:=bT Bw hb7;replace X2:=X2.keep hb7;clear hb7
 try clear BQ BR BX CZ
 try clear BQ BR BX CZ
 obtain ⟨BQ,BR,BX,CZ,-,-,-⟩:=X2.BF
 cases h1:OE p
 case false =>
  have hf:=AA (show 2=q by rw [<- Hq.out];simp [h1]);clear h1;go_wp2;go_ret;exact ⟨DU hf.out,Bw⟩
 rw [h1] at Hq;replace Hq:=AA Hq.out;clear h1;go_wp2_with fail;refine (anv _ p _ (HP.out.mono Bw)).mono ?_;rintro e w8 ⟨rfl,hb8⟩;replace Bw:=bT Bw hb8;replace X2:=X2.keep hb8;clear hb8
 try clear BQ BR BX CZ
 try clear BQ BR BX CZ
 obtain ⟨BQ,BR,BX,CZ,-,-,-⟩:=X2.BF
 cases h1:UC (p.nodes.map (·.pt))
 case true =>
  have hf:=AA (show 8=q by rw [<- Hq.out];simp [h1]);clear h1;go_wp2;go_ret;exact ⟨DU hf.out,Bw⟩
 rw [h1] at Hq;replace Hq:=AA Hq.out;clear h1;have CG:=AA X2;have HB:=AA Bw;clear X2 BQ BR BX CZ Bw;simp only [Bool.not_true];go_wp2_with fail;go_loopw [3] (fun i wr=>∃ k:Nat,k<=al.length/\i=.int .i64 k/\AP w8 wr/\∀ j (hj:j<al.length),j<k->KY p al[j].1=true) (fun i _=>al.length-(intOf i).toNat)
 case atStart => exact ⟨0,BZ _,rfl,bR w8,fun j _ h=>by omega⟩
 case round =>
  obtain ⟨k,hk,rfl,hb,hno⟩:=hrel;have Hb:=AA hb;have Hno:=AA hno;have X1:=CG.out.keep hb;clear hb hno;obtain ⟨Ak,Au,Az,BA,-,-,-⟩:=X1.BF;by_cases hlt:k<al.length
  case neg =>
   have hg:=AA (show p.AU.all (KY p)=true by
    rw [Zn.out,Xr];exact nY al (fun a=>KY p a.1) (fun j hj=>Hno.out j hj AB))
   have ho:=Hq.out;rw [hg.out] at ho;replace Hq:=AA ho;clear ho;go_wp2_with fail;obtain ⟨wo,rfl⟩:=BO wr;have D9:=AA X1;have F7:=AA (bT HB.out Hb.out);clear X1 Ak Au Az BA;go_loopw [6] (fun i wr=>∃ k:Nat,k<=al.length/\i=.int .i64 k/\AP wo wr/\∀ j (hj:j<al.length),j<k->(FI p.faces al[j].1.left && FI p.faces al[j].1.right)=true) (fun i _=>al.length-(intOf i).toNat)
   case atStart => exact ⟨0,BZ _,rfl,bR wo,fun j _ h=>by omega⟩
   case round =>
    obtain ⟨k,hk,rfl,hb,hno⟩:=hrel;have Hb2:=AA hb;have Rj:=AA hno;have X1:=D9.out.keep hb;clear hb hno
    try clear Ak Au Az BA
    obtain ⟨Ak,Au,Az,BA,-,-,-⟩:=X1.BF;by_cases hlt:k<al.length
    case neg =>
     have hg:=AA (show Ue p=true by
      unfold Ue;rw [Zn.out,Xr];exact nY al (fun a=>FI p.faces a.1.left && FI p.faces a.1.right) (fun j hj=>Rj.out j hj AB))
     have ho:=Hq.out;rw [hg.out] at ho;replace Hq:=AA ho;clear ho;go_wp2_with fail;refine (apD _ p _ (HP.out.mono (bT F7.out Hb2.out)) gJ gJ).mono ?_;rintro e w9 ⟨rfl,Vj⟩;have B9:=bT (bT F7.out Hb2.out) Vj
     cases h1:Og p
     case false =>
      have hf:=AA (show 11=q by rw [<- Hq.out];simp [h1]);clear h1;go_wp2;go_ret;exact ⟨DU hf.out,B9⟩
     case true =>
      have hf:=AA (show 0=q by rw [<- Hq.out];simp [h1]);clear h1;go_wp2;go_ret;exact ⟨DU hf.out,B9⟩
    obtain ⟨b,o,rfl,hlb,c0,c1,c2,c3,c4,c5⟩:=(Gu.out.mono (bT F7.out Hb2.out)).ar hlt;have q1:0<=(k:Int):=by omega
    have q2:(k:Int)<al.length:=by omega
    have TF:∀ (n:Int) W,AP w W->Calls Tryz.prog 129 #[.agg #[vn,.slice (some ⟨b,o,none⟩) al.length ca,vf],.int .i64 n] W (fun e w'=>e=.returned (.bool (FI p.faces n))/\AP W w'):=fun n W hW=>aoS _ p n W (HP.out.mono hW)
    cases h1:FI p.faces al[k].1.left
    case false =>
     have TL:=TF al[k].1.left;rw [h1] at TL;have HT:=AA TL;have hg:=AA (show Ue p=false by
      unfold Ue;rw [Zn.out,Xr];exact Yo al (fun a=>FI p.faces a.1.left && FI p.faces a.1.right) k hlt (by simp [h1]))
     have hf:=AA (show 12=q by rw [<- Hq.out];simp [hg.out]);clear h1 TF TL;go_upto_region 18 with fail;refine Cj (wr) (.run 7 0 0 (.call 7 255 (.run 12 8 255 (.done)))) fun Bv QR Ae Ah hS=>?_
     iterate 7 refine Aj ?_
     refine FD (HT.out _ (bT (bT F7.out Hb2.out) hS)) ?_;clear hS;intro Bq Bf hS
     iterate 2 refine Aj ?_
     iterate 9 refine JU ?_
     refine Aj ?_;refine Ce ?_;clear hS Ah Ae;intro hB;go_wp2;go_ret;exact ⟨DU hf.out,bT (bT F7.out Hb2.out) hB⟩
    case true =>
     have TL:=TF al[k].1.left;rw [h1] at TL;have HT:=AA TL;have HU:=AA (TF al[k].1.right);have H1:=AA h1;clear h1 TF TL;go_upto_region 18 with fail;refine Cj (wr) (.run 7 0 0 (.call 7 255 (.run 9 8 255 (.call 17 262143 (.take 18 524287 (.take 19 1048575 (.done))))))) fun Bv QR Ae Ah hS=>?_
     iterate 7 refine Aj ?_
     refine FD (HT.out _ (bT (bT F7.out Hb2.out) hS)) ?_;clear hS;intro Bq Bf hS
     iterate 2 refine Aj ?_
     iterate 7 refine Dh ?_
     refine FD (HU.out _ (bT (bT F7.out Hb2.out) hS)) ?_;clear hS;intro wr2 FT hS;refine Dh ?_;refine Aj ?_;refine Ce ?_;clear hS Ah Ae;intro hB;have B3:=bT Hb2.out hB
     cases h2:FI p.faces al[k].1.right
     case false =>
      have hg:=AA (show Ue p=false by
       unfold Ue;rw [Zn.out,Xr];exact Yo al (fun a=>FI p.faces a.1.left && FI p.faces a.1.right) k hlt (by simp [h2]))
      have hf:=AA (show 12=q by rw [<- Hq.out];simp [hg.out]);clear h2;go_wp2;go_ret;exact ⟨DU hf.out,bT F7.out B3⟩
     case true =>
      have hg:=AA (show (FI p.faces al[k].1.left && FI p.faces al[k].1.right)=true by rw [H1.out,h2];rfl);clear h2;go_wp2;go_roundw
      case rel => exact ⟨k+1,AB,BI,B3,all_succ (p:=fun x=>(FI p.faces x.1.left && FI p.faces x.1.right)=true) Rj.out hlt hg.out⟩
      case measure => exact BK
  obtain ⟨b,o,rfl,hlb,c0,c1,c2,c3,c4,c5⟩:=(Gu.out.mono (bT HB.out Hb.out)).ar hlt;have hvk:=(HV.out k hlt);obtain ⟨Av,cv,hv,-⟩:=hvk;have hvk:=(HV.out k hlt);rw [hv] at c3 hvk;generalize hvl:al[k].1.via.length=vl at c3;have uX:=AA hvl;have Qp:=AA hvk;have q1:0<=(k:Int):=by omega
  have q2:(k:Int)<al.length:=by omega
  clear hvk hv hvl;have TL:∀ W,AP w W->Calls Tryz.prog 128 #[.agg #[vn,.slice (some ⟨b,o,none⟩) al.length ca,vf],.agg #[.int .i64 al[k].1.id,.int .i64 al[k].1.fr,.int .i64 al[k].1.dst,.slice Av vl cv,.int .i64 al[k].1.left,.int .i64 al[k].1.right]] W (acI W (AV p al[k].1) (KY p al[k].1)):=fun W hW=>by
   have:=acJ _ _ p al[k].1 _ (HP.out.mono hW) (Qp.out.mono hW) (DL.out _ (by rw [Zn.out];exact Gs (BH hlt)))
   rw [uX.out] at this;exact this
  have HT:=AA TL;clear TL;go_upto_region 12 with fail;refine Cj (wr) (.run 6 0 0 (.call 6 127 (.run 5 7 127 (.done)))) fun Bv QR Ae Ah hS=>?_
  iterate 6 refine Aj ?_
  refine BP ?_;clear hS;intro K hK AQ;go_simp;refine (HT.out _ (bT (bT HB.out Hb.out) AQ.out)).mono ?_;rintro e Bq ⟨v1,rfl,Bf,ho1⟩;have hS:Since wr Bq:=bT (w:=wr) AQ.out Bf;clear AQ;refine hK.out _ _ hS (fun _=>?_);clear hK K
  try simp only [pu]
  iterate 5 refine Aj ?_
  refine Ce ?_;clear hS Ah Ae;intro hB;have B3:=bT Hb.out hB
  cases h2:KY p al[k].1
  case false =>
   have hg:=AA (show p.AU.all (KY p)=false by
    rw [Zn.out,Xr];exact Yo al (fun a=>KY p a.1) k hlt h2)
   have hf:=AA (show 7=q by rw [<- Hq.out];simp [hg.out]);clear h2;go_wp2;go_ret;exact ⟨DU hf.out,bT HB.out B3⟩
  case true =>
   have hg:=AA h2;clear h2;go_wp2;go_roundw
   case rel => exact ⟨k+1,AB,BI,B3,all_succ (p:=fun x=>KY p x.1=true) Hno.out hlt hg.out⟩
   case measure => exact BK
def hasB (l:List Int) (a:Ar):Bool:=l.any (fun y=>y == a.fr) && l.any (fun y=>y == a.dst)
def Uf (p:Pl) (l:List Int):Int :=
 if UC (p.nodes.map (·.pt))=true then 8 else if p.AU.all (hasB l)=false then 7 else if Ue p=false then 12 else 0
theorem apF (v u:Value) (p:Pl) (l:List Int) (w:World) (h:Cb w v p) (hu:Ints w u l) :
  Calls Tryz.prog 172 #[v,u] w fun e w'=>e=.returned (.int .i64 (Uf p l))/\AP w w':=by
 obtain ⟨_,_,vf,al,rfl,hpa,⟨An,cn,rfl,hn1,hn2,hR⟩,⟨⟨Aa,ca,rfl,ha1,ha2,FU⟩,hV⟩,hF⟩:=h;unfold maxLen at hn2 ha2;have HF:=AA hF;clear hF;have HU:=AA hu;clear hu;have HV:=AA hV;clear hV;have HR:=AA hR;clear hR;have Gu:=AA FU;clear FU;have hc:Uf p l=if UC (p.nodes.map (·.pt))=true then 8 else if al.all (fun a=>hasB l a.1)=false then 7 else if al.all (fun a=>FI p.faces a.1.left && FI p.faces a.1.right)=false then 12 else 0:=by
  unfold Uf Ue;rw [hpa,Xr,Xr];rfl
 obtain ⟨q,hq⟩:=BL (Uf p l);rw [hq];rw [hc] at hq;have Hq:=AA hq;clear hq hc hpa;generalize p.nodes=nl at *;generalize p.faces=fl at *;go_enter Tryz.func172,Tryz.ntmps172;go_wp2_with fail;obtain ⟨W0,hW0⟩:=BO (w.alloc (.cells #[.slice An nl.length cn,.slice Aa al.length ca,vf] 26));have X1:AO W0 w.heap.size 26 #[.slice An nl.length cn,.slice Aa al.length ca,vf]:=by rw [hW0];exact AO.made rfl _ _
 have F6:AP w W0:=by rw [hW0];exact bA (bR w) _
 rw [<- hW0];have HX0:=AA X1;have HB0:=AA F6;clear hW0 X1 F6;go_loopw [18] (fun s wr=>∃ i:Nat,i<=nl.length/\s=.int .i64 i/\AP W0 wr/\∀ j k (hk:k<j) (hj:j<nl.length),j<i->¬ nl[j].pt=nl[k].pt) (fun s _=>nl.length-(intOf s).toNat)
 case atStart => exact ⟨0,BZ _,rfl,bR W0,fun _ _ _ _ h=>by omega⟩
 case round =>
  obtain ⟨i,hi,rfl,hb,hno⟩:=hrel;have Hb:=AA hb;have Hno:=AA hno;have X1:=HX0.out.keep hb;clear hb hno;obtain ⟨Ak,Au,Az,BA,-,-,-⟩:=X1.BF;by_cases hlt:i<nl.length
  case pos =>
   obtain ⟨b,o,rfl,hlb,c0,c1,c2⟩:=(HR.out.mono (bT HB0.out Hb.out)).nd hlt;go_wp2_with fail;obtain ⟨W1,hW1⟩:=BO (wr.alloc (.cells #[.int .i64 nl[i].id,.int .i64 nl[i].pt.x,.int .i64 nl[i].pt.y] 45));have B1:AP W0 W1:=by rw [hW1];exact bA Hb.out _
   have X6:AO W1 wr.heap.size 45 #[.int .i64 nl[i].id,.int .i64 nl[i].pt.x,.int .i64 nl[i].pt.y]:=by rw [hW1];exact AO.made rfl _ _
   rw [<- hW1];have IV:=AA X6;have HB1:=AA B1;clear c0 c1 c2 hlb hW1 X1 Ak Au Az BA X6 B1;obtain ⟨wo,rfl⟩:=BO wr;go_loopw [28] (fun s wx=>∃ k:Nat,k<=i/\s=.int .i64 k/\AP W1 wx/\∀ m (hm:m<nl.length),m<k->¬ nl[i].pt=nl[m].pt) (fun s _=>i-(intOf s).toNat)
   case atStart => exact ⟨0,BZ _,rfl,bR W1,fun _ _ h=>by omega⟩
   case round =>
    obtain ⟨k,hk,rfl,hb,VX⟩:=hrel;have Hb2:=AA hb;have Rj:=AA VX;have X6:=IV.out.keep hb;clear hb VX;by_cases hlk:k<i
    case neg =>
     have HN:=AA (show ∀ j m (hm:m<j) (hj:j<nl.length),j<i+1->¬ nl[j].pt=nl[m].pt from fun j m hm hj hji=>by
      by_cases e:j<i
      · exact Hno.out j m hm hj e
      ·have:j=i:=by omega
       subst this;exact Rj.out m AB AB)
     go_wp2;go_roundw
     case rel => exact ⟨i+1,AB,BI,bT HB1.out Hb2.out,HN.out⟩
     case measure => exact BK
    have hkl:k<nl.length:=by omega
    obtain ⟨b',o',Ec,hlb,c0,c1,c2⟩:=(HR.out.mono (bT HB0.out (bT HB1.out Hb2.out))).nd hkl;simp only [JD,Addr.mk.injEq,and_true] at Ec;obtain ⟨rfl,rfl⟩:=Ec;obtain ⟨EF,EG,EH,Nb,-,-,-⟩:=X6.BF;have hE:=U8 nl[i].pt nl[k].pt;by_cases he:nl[i].pt=nl[k].pt
    ·have hd:decide (nl[i].pt=nl[k].pt)=true:=JE he;have hf:=AA (show 8=q by rw [<- Hq.out,AZ (acF (nl.map (·.pt)) i k hlk (by simpa using hlt) (by simpa using he))]);clear he;go_wp2;go_ret;exact ⟨DU hf.out,bT HB0.out (bT HB1.out (bA Hb2.out _))⟩
    ·have hd:decide (nl[i].pt=nl[k].pt)=false:=G8 he;have He:=AA he;clear he;go_wp2;go_roundw
     case rel => exact ⟨k+1,AB,BI,bA Hb2.out _,fun m hm hmk=>if e:m<k then Rj.out m hm e else by
       have:m=k:=by omega
       subst this;exact He.out⟩
     case measure => exact BK
  case neg =>
  have hd:=AA (acG (nl.map (·.pt)) (fun j m hm hj=>by
    have:=Hno.out j m hm (by simpa using hj) (by rw [Cm] at hj;omega)
    simpa using this))
  have ho:=Hq.out;rw [hd.out] at ho;simp only [Rt,if_false] at ho;replace Hq:=AA ho;clear ho hd;go_wp2_with fail;obtain ⟨wo,rfl⟩:=BO wr;have D9:=AA X1;have F7:=AA (bT HB0.out Hb.out);clear X1 Ak Au Az BA Hno;go_loopw [42] (fun s wr=>∃ k:Nat,k<=al.length/\s=.int .i64 k/\AP wo wr/\∀ j (hj:j<al.length),j<k->hasB l al[j].1=true) (fun s _=>al.length-(intOf s).toNat)
  case atStart => exact ⟨0,BZ _,rfl,bR wo,fun _ _ h=>by omega⟩
  case round =>
   obtain ⟨k,hk,rfl,hb,hno⟩:=hrel;have Hb2:=AA hb;have Hno:=AA hno;have X1:=D9.out.keep hb;clear hb hno
   try clear Ak Au Az BA
   obtain ⟨Ak,Au,Az,BA,-,-,-⟩:=X1.BF;by_cases hlt:k<al.length
   case pos =>
    obtain ⟨b,o,rfl,hlb,c0,c1,c2,c3,c4,c5⟩:=(Gu.out.mono (bT F7.out Hb2.out)).ar hlt;obtain ⟨Av,cv,hv,-⟩:=HV.out k hlt;rw [hv] at c3;clear hv;go_wp2_with fail;refine (aAc _ l _ _ (HU.out.mono (bA (bT F7.out Hb2.out) _))).mono ?_;rintro e w2 ⟨rfl,hb2⟩;have B2:=bT (bA Hb2.out _) hb2;have EP:AO w2 wr.heap.size 50 _:=(AO.made rfl _ _).keep hb2;clear hb2 c0 c1 c2 c3 c4 c5 hlb;obtain ⟨J5,J6,J7,Zo,ig,iq,iw,-,-,-,-,-,-⟩:=EP.IU
    cases h1:l.any (fun y=>y == al[k].1.fr)
    case false =>
     have hg:=AA (Yo al (fun a=>hasB l a.1) k hlt (by simp [hasB,h1]));have hf:=AA (show 7=q by rw [<- Hq.out,AZ hg.out]);clear h1;go_wp2;go_ret;exact ⟨DU hf.out,bT F7.out B2⟩
    have H1:=AA h1;clear h1;go_wp2_with fail;refine (aAc _ l _ _ (HU.out.mono (bT F7.out B2))).mono ?_;rintro e w3 ⟨rfl,hb3⟩;have B3:=bT B2 hb3;clear hb3 EP J5 J6 J7 Zo ig iq iw
    cases h1:l.any (fun y=>y == al[k].1.dst)
    case false =>
     have hg:=AA (Yo al (fun a=>hasB l a.1) k hlt (by simp [hasB,h1]));have hf:=AA (show 7=q by rw [<- Hq.out,AZ hg.out]);clear h1;go_wp2;go_ret;exact ⟨DU hf.out,bT F7.out B3⟩
    have hg:=AA (show hasB l al[k].1=true by simp only [hasB,H1.out,h1];rfl);clear h1;go_wp2;go_roundw
    case rel => exact ⟨k+1,AB,BI,B3,all_succ (p:=fun x=>hasB l x.1=true) Hno.out hlt hg.out⟩
    case measure => exact BK
   case neg =>
   have hd:=AA (nY al (fun a=>hasB l a.1) (fun j hj=>Hno.out j hj AB));have ho:=Hq.out;rw [hd.out] at ho;simp only [Bool.true_eq_false,if_false] at ho;replace Hq:=AA ho;clear ho hd;go_wp2_with fail;obtain ⟨wq,rfl⟩:=BO wr;replace D9:=AA X1;replace F7:=AA (bT F7.out Hb2.out);clear X1 Ak Au Az BA Hno Hb2;go_loopw [62] (fun s wr=>∃ k:Nat,k<=al.length/\s=.int .i64 k/\AP wq wr/\∀ j (hj:j<al.length),j<k->(FI fl al[j].1.left && FI fl al[j].1.right)=true) (fun s _=>al.length-(intOf s).toNat)
   case atStart => exact ⟨0,BZ _,rfl,bR wq,fun _ _ h=>by omega⟩
   case round =>
    obtain ⟨k,hk,rfl,hb,hno⟩:=hrel;have Hb2:=AA hb;have Hno:=AA hno;have X1:=D9.out.keep hb;clear hb hno
    try clear Ak Au Az BA
    obtain ⟨Ak,Au,Az,BA,-,-,-⟩:=X1.BF;by_cases hlt:k<al.length
    case neg =>
     have hd:=AA (nY al (fun a=>FI fl a.1.left && FI fl a.1.right) (fun j hj=>Hno.out j hj AB));have hf:=AA (show 0=q by rw [<- Hq.out,hd.out];rfl);go_wp2;go_ret;exact ⟨DU hf.out,bT F7.out Hb2.out⟩
    obtain ⟨b,o,rfl,hlb,c0,c1,c2,c3,c4,c5⟩:=(Gu.out.mono (bT F7.out Hb2.out)).ar hlt;obtain ⟨Av,cv,hv,-⟩:=HV.out k hlt;rw [hv] at c3;clear hv;go_wp2_with fail;obtain ⟨W5,GU⟩:=BO (wr.alloc (.cells #[.int .i64 al[k].1.id,.int .i64 al[k].1.fr,.int .i64 al[k].1.dst,.slice Av al[k].1.via.length cv,.int .i64 al[k].1.left,.int .i64 al[k].1.right] 50));have Vk:AP wr W5:=by rw [GU];exact bA (bR wr) _
    have CW:=AA (bT Hb2.out Vk);have D8:=AA (X1.keep Vk);rw [<- GU];clear c0 c1 c2 c3 c4 c5 hlb GU Vk X1 Ak Au Az BA;obtain ⟨wp,rfl⟩:=BO wr;go_loopw [71] (fun s wx=>∃ j:Int,(j=0\/j=1\/j=2)/\s=.int .i64 j/\AP W5 wx/\(1<=j->FI fl al[k].1.left=true)/\(2<=j->FI fl al[k].1.right=true)) (fun s _=>2-(intOf s).toNat)
    case atStart => exact ⟨0,AB,rfl,bR W5,fun h=>by omega,fun h=>by omega⟩
    case round =>
     obtain ⟨j,hj,rfl,hb,hl,hr⟩:=hrel;have Hb3:=AA hb;have Hl:=AA hl;have Hr:=AA hr;clear hb hl hr;rcases hj with rfl | rfl | rfl
     ·have hI:∀ w,(Instr.index 116 (.agg #[.int .i64 al[k].1.left,.int .i64 al[k].1.right]) (.int .i64 0)).run Tryz.prog w=.ok (.int .i64 al[k].1.left) w:=fun _=>by kernel_rfl
      cases hz:(al[k].1.left != 0)
      case false =>
       have hg:=AA (show FI fl al[k].1.left=true by
        have:al[k].1.left=0:=by simpa [bne_eq_false_iff_eq] using hz
        simp [FI,this])
       go_wp2;go_roundw
       case rel => exact ⟨1,AB,rfl,Hb3.out,fun h=>by first | exact hg.out | exact Hl.out AB,fun h=>by first | omega | exact hg.out⟩
       case measure => simp [intOf]
      have X1:=D8.out.keep Hb3.out
      try clear Ak Au Az BA
      obtain ⟨Ak,Au,Az,BA,-,-,-⟩:=X1.BF;go_wp2_with fail;refine (aAc _ fl _ _ (HF.out.mono (bT F7.out (bT CW.out Hb3.out)))).mono ?_;rintro e w6 ⟨rfl,hb6⟩;have B6:=bT Hb3.out hb6;clear hb6 X1 Ak Au Az BA
      cases h1:fl.any (fun y=>y == al[k].1.left)
      case false =>
       have hfc:=AA (show FI fl al[k].1.left=false by
        have:¬ al[k].1.left=0:=by simpa using hz
        simp only [FI,h1];simpa using this)
       have hg:=AA (Yo al (fun a=>FI fl a.1.left && FI fl a.1.right) k hlt (by simp [hfc.out]));have hf:=AA (show 12=q by rw [<- Hq.out,AZ hg.out]);clear h1;go_wp2;go_ret;exact ⟨DU hf.out,bT F7.out (bT CW.out B6)⟩
      have hg:=AA (show FI fl al[k].1.left=true by simp [FI,h1]);clear h1;go_wp2;go_roundw
      case rel => exact ⟨1,AB,rfl,B6,fun h=>by first | exact hg.out | exact Hl.out AB,fun h=>by first | omega | exact hg.out⟩
      case measure => simp [intOf]
     ·have hI:∀ w,(Instr.index 116 (.agg #[.int .i64 al[k].1.left,.int .i64 al[k].1.right]) (.int .i64 1)).run Tryz.prog w=.ok (.int .i64 al[k].1.right) w:=fun _=>by kernel_rfl
      cases hz:(al[k].1.right != 0)
      case false =>
       have hg:=AA (show FI fl al[k].1.right=true by
        have:al[k].1.right=0:=by simpa [bne_eq_false_iff_eq] using hz
        simp [FI,this])
       go_wp2;go_roundw
       case rel => exact ⟨2,AB,rfl,Hb3.out,fun h=>by first | exact hg.out | exact Hl.out AB,fun h=>by first | omega | exact hg.out⟩
       case measure => simp [intOf]
      have X1:=D8.out.keep Hb3.out
      try clear Ak Au Az BA
      obtain ⟨Ak,Au,Az,BA,-,-,-⟩:=X1.BF;go_wp2_with fail;refine (aAc _ fl _ _ (HF.out.mono (bT F7.out (bT CW.out Hb3.out)))).mono ?_;rintro e w6 ⟨rfl,hb6⟩;have B6:=bT Hb3.out hb6;clear hb6 X1 Ak Au Az BA
      cases h1:fl.any (fun y=>y == al[k].1.right)
      case false =>
       have hfc:=AA (show FI fl al[k].1.right=false by
        have:¬ al[k].1.right=0:=by simpa using hz
        simp only [FI,h1];simpa using this)
       have hg:=AA (Yo al (fun a=>FI fl a.1.left && FI fl a.1.right) k hlt (by simp [hfc.out]));have hf:=AA (show 12=q by rw [<- Hq.out,AZ hg.out]);clear h1;go_wp2;go_ret;exact ⟨DU hf.out,bT F7.out (bT CW.out B6)⟩
      have hg:=AA (show FI fl al[k].1.right=true by simp [FI,h1]);clear h1;go_wp2;go_roundw
      case rel => exact ⟨2,AB,rfl,B6,fun h=>by first | exact hg.out | exact Hl.out AB,fun h=>by first | omega | exact hg.out⟩
      case measure => simp [intOf]
     ·have hg:=AA (show (FI fl al[k].1.left && FI fl al[k].1.right)=true by rw [Hl.out AB,Hr.out AB];rfl);go_wp2;go_roundw
      case rel => exact ⟨k+1,AB,BI,bT CW.out Hb3.out,all_succ (p:=fun x=>(FI fl x.1.left && FI fl x.1.right)=true) Hno.out hlt hg.out⟩
      case measure => exact BK
theorem apG:∃ i,Tryz.prog.info? 39=some i/\i.zero=some (.agg #[.int .i64 0,.int .i64 0])/\i.size=2/\i.bytes=16:=info_parts FC
theorem apH (n:Nat) (w:World) (h1:1<=n) (h2:n<=2097152) :
  Calls Tryz.prog 139 #[.slice none 0 0,.int .i64 n] w fun e w'=>∃ c,e=.returned (.slice (some ⟨w.heap.size,0,none⟩) 0 c)/\AP w w'/\Own w' w.heap.size 39 2 EX (.slice (some ⟨w.heap.size,0,none⟩) 0 c) []:=by
 obtain ⟨i,hi,hz,hs,hb⟩:=apG;have hr:∀ ty,(Builtin.append_ #[46,3] ty #[.slice none 0 0,.int .i64 n]).run Tryz.prog w=_:=fun ty =>
  Lib.run_append_grow_zeros w 46 3 ty 39 i _ .i64 .i64 Tryz.underlying46 Tryz.underlying3 hi hz none 0 0 [] (by simpa using run_firstCells_none (P:=Tryz.prog) (w:=w.drew) i.size 0 0 0) n AB AB AB AB (by rw [hb];omega)
   (by rw [hb];exact growslice_fits AB AB)
 have hge:=grownCap_ge w (0+n) 0 39;have hle:=grownCap_le_maxLen w (0+n) 0 39 tC;have hle':=hle;unfold maxLen at hle';generalize hG:grownCap w (0+n) 0 39=G at *;have HR:=AA hr;have Hle:=AA hle;clear hr hG hle hi hz hs hb;simp only [QC] at HR;have q1:¬ ((n:Int)<0):=by omega
 have q2:0<(n:Int):=by omega
 go_enter Tryz.func139,Tryz.ntmps139;go_wp2_with (at_builtin;refine Lib.wpList_append_run _ rfl _ _ _ _ rfl _ _ rfl rfl _ _ (HR.out _) ?_);go_ret;refine ⟨_,rfl,bA (bD (bR w)) _,?_⟩;refine ⟨rfl,.inr ⟨w.heap.size,_,_,rfl,DT _,heap_alloc_new _ _,BZ _,Hle.out,?_,Aw⟩⟩;simp only [Array.size_append,List.size_toArray,Md,size_zeroCells];simp only [Value.cells,List.size_toArray,I9,Md];omega
structure PS where
 l:List Pt
 a:Option Addr
 c:Nat
def psC (x:PS):List Value:=[.slice x.a x.l.length x.c]
theorem Row.ps {w:World} {A:Option Addr} {l:List PS} (h:Row w A (l.flatMap psC)) {k:Nat} (hk:k<l.length) :
  ∃ b o,A=some ⟨b,o,none⟩/\b<w.heap.size/\w.cell? ⟨b,o+k,none⟩=some (.slice l[k].a l[k].l.length l[k].c):=by
 obtain ⟨b,o,hA,hb,hc⟩:=h.at_ (n:=1) (fun _=>rfl) hk AB;exact ⟨b,o,hA,hb,by simpa using hc 0 _ rfl⟩
def Zp (L:List PS) (k:Nat):Nat:=((L.take k).flatMap (·.l)).length
theorem ahL (L:List PS) (k:Nat) (hk:k<L.length):Zp L (k+1)=Zp L k+L[k].l.length:=by
 unfold Zp;rw [En hk,KO,EC];simp
theorem apI (v:Value) (L:List PS) (w:World) (hv:Sl w v L.length (L.flatMap psC)) (hp:∀ k (hk:k<L.length),Dq w (.slice L[k].a L[k].l.length L[k].c) L[k].l)
  (hL:L.length<=1048576) (h1:1<=(L.flatMap (·.l)).length) (h2:(L.flatMap (·.l)).length<=2097152) :
  Calls Tryz.prog 75 #[v] w (agS w (L.flatMap (·.l))):=by
 obtain ⟨A,c,rfl,hn,hc,hR⟩:=hv;unfold maxLen at hc;have HP:=AA hp;clear hp;have HR:=AA hR;clear hR;have hb:∀ k,Zp L k<=2097152:=fun k=>Dn (tY L (·.l) k) h2;have Nj:=AA hb;clear hb;have H1:=AA h1;have H2:=AA h2;clear h1 h2;go_enter Tryz.func75,Tryz.ntmps75;go_wp2_with fail;go_loopw [3,11] (fun s i wr=>∃ k:Nat,k<=L.length/\i=.int .i64 k/\s=.int .i64 (Zp L k:Nat)/\wr=w) (fun _ i _=>L.length-(intOf i).toNat)
 case atStart => exact ⟨0,BZ _,rfl,rfl,rfl⟩
 case round =>
  obtain ⟨k,hk,rfl,rfl,rfl⟩:=hrel;by_cases hlt:k<L.length
  case pos =>
   obtain ⟨b,o,rfl,hlb,c0⟩:=HR.out.ps hlt;have ht:=ahL L k hlt;have hb:=Nj.out (k+1);have Ht:=AA ht;rw [ht] at hb;clear ht;go_wp2;go_roundw
   case rel => exact ⟨k+1,AB,BI,by rw [Ht.out];go_num,trivial⟩
   case measure => exact BK
  have hE:L.take k=L:=Hw AB;have hN0:Zp L k=(L.flatMap (·.l)).length:=by unfold Zp;rw [hE]
  rw [hN0];have h1:=H1.out;have h2:=H2.out;clear hE hN0;generalize hN:(L.flatMap (·.l)).length=N at *;have HN:=AA hN;clear hN;go_wp2_with fail;refine (apH N _ h1 h2).mono ?_;rintro e w1 ⟨c1,rfl,hb1,hown⟩;have Ef:=AA hown;have Hb1:=AA hb1;clear hown hb1 h1 h2;obtain ⟨wo,rfl⟩:=BO wr;go_wp2_with fail;go_loopw [6,27] (fun s i wr=>∃ k:Nat,k<=L.length/\i=.int .i64 k/\Own wr wo.heap.size 39 2 EX s ((L.take k).flatMap (·.l))/\AP wo wr) (fun _ i _=>L.length-(intOf i).toNat)
  case atStart => exact ⟨0,BZ _,rfl,Ef.out,Hb1.out⟩
  case round =>
   obtain ⟨k,hk,rfl,hown,hb⟩:=hrel;have Hb:=AA hb;replace Ef:=AA hown;have hsz:=hb.size;clear hb hown;by_cases hlt:k<L.length
   case neg =>
    have hE:L.take k=L:=Hw AB;have ho:=Ef.out;rw [hE] at ho;replace Ef:=AA ho;clear ho hE;go_wp2;go_ret;exact ⟨_,rfl,Hb.out,Ef.out⟩
   obtain ⟨b,o,rfl,hlb,c0⟩:=(HR.out.mono Hb.out).ps hlt;have hlen:=AA (show ((L.take k).flatMap (·.l)).length+L[k].l.length<=2097152 by
    have ht:=ahL L k hlt;have:=Nj.out (k+1)
    show Zp L k+L[k].l.length<=2097152
    omega)
   go_wp2_with
    (at_builtin
     refine Ew _ rfl (.tmp 31) (.tmp 32) _ rfl (base:=wo.heap.size) KR Jv KT rfl Ef.out rfl (l2:=L[k].l) ((HP.out k hlt).mono Hb.out) (by have:=hlen.out;omega) (by have:=hlen.out;omega) hsz ?_;intro v1 w1 hown1 hg hat;have MF:=AA (show AP wo w1 from bG Hb.out hg (fun g hk=>(Ef.out.lt g hk).1));clear hg hat;have Wu:=AA hown1;clear hown1)
   go_roundw
   case rel => exact ⟨k+1,AB,BI,by rw [En hlt,KO];simpa using Wu.out,MF.out⟩
   case measure => exact BK
theorem aAm (v:Value) (p:Pl) (id:Int) (w:World) (h:Cb w v p) (hsh:Short p) :
  Calls Tryz.prog 27 #[v,.int .i64 id] w (iW w (pathOf p id)):=by
 have HP:=AA h;have DL:=AA hsh;clear hsh;obtain ⟨vn,vr,vf,al,rfl,-⟩:=h;have TN:∀ id W,AP w W->Calls Tryz.prog 74 #[.agg #[vn,vr,vf],.int .i64 id] W _:=fun id W hW=>ac4 _ p id W (HP.out.mono hW);simp only [iU,uM] at TN;have HN:=AA TN;clear TN;obtain ⟨q,hq⟩:=BL (pathOf p id);rw [hq];have Hq:=AA hq;clear hq;go_enter Tryz.func27,Tryz.ntmps27;go_wp2_with fail;refine (aoN _ p id _ (HP.out.mono (bA (bR w) _)) DL.out).mono ?_;rintro e w1 ⟨v1,rfl,hb1,hp1⟩;have Bw:AP w w1:=by
  exact Dk
 have X2:AO _ (w.heap.size) 26 #[vn,vr,vf]:=AO.keep (by repeat (first | exact AO.made Aw _ _ | refine AO.alloc ?_ _)) hb1;clear hb1;have Zz:=AA hp1;obtain ⟨A1,c1,rfl,-⟩:=hp1;generalize hr:findAr p.AU id=r at *;have Hr:=AA hr;clear hr;obtain ⟨a,ha⟩:=BL (r.getD Jh);rw [ha] at Zz ⊢;obtain ⟨s,hs⟩:=BL r.isSome;rw [hs];have Ha:=AA ha;have Hs:=AA hs;clear ha hs;simp only [YF];obtain ⟨BQ,BR,BX,CZ,-,-,-⟩:=X2.BF;go_wp2_with fail;refine (HN.out _ _ (bA Bw _)).mono ?_;rintro e w2 ⟨rfl,hb2⟩;have X6:AO w2 w1.heap.size 50 #[.int .i64 a.id,.int .i64 a.fr,.int .i64 a.dst,.slice A1 a.via.length c1,.int .i64 a.left,.int .i64 a.right]:=(AO.made rfl _ _).keep hb2;replace X2:=(X2.alloc _).keep hb2;have HP2:=AA ((Zz.out.mono (bA (bR w1) _)).mono hb2);replace Bw:=bT (bA Bw _) hb2;clear hb2;obtain ⟨n1,hn1⟩:=BL ((JK p.nodes a.fr).getD nd0);rw [hn1];obtain ⟨s1,hs1⟩:=BL ((JK p.nodes a.fr).isSome);rw [hs1];have nS:=AA hn1;have Zx:=AA hs1;clear hn1 hs1
 try clear BQ BR BX CZ
 obtain ⟨BQ,BR,BX,CZ,-,-,-⟩:=X2.BF;obtain ⟨EF,EG,EH,Nb,Sj,mD,mF,-,-,-,-,-,-⟩:=X6.IU;go_wp2_with fail;refine (HN.out _ _ (bA Bw _)).mono ?_;rintro e w3 ⟨rfl,hb3⟩;have X8:AO w3 w2.heap.size 45 #[.int .i64 n1.id,.int .i64 n1.pt.x,.int .i64 n1.pt.y]:=(AO.made rfl _ _).keep hb3;replace X2:=(X2.alloc _).keep hb3;replace X6:=(X6.alloc _).keep hb3;have bY:=AA ((HP2.out.mono (bA (bR w2) _)).mono hb3);replace Bw:=bT (bA Bw _) hb3;clear hb3;obtain ⟨n2,hn2⟩:=BL ((JK p.nodes a.dst).getD nd0);rw [hn2];obtain ⟨s2,hs2⟩:=BL ((JK p.nodes a.dst).isSome);rw [hs2];have nT:=AA hn2;have Zy:=AA hs2;clear hn2 hs2
 try clear BQ BR BX CZ
 obtain ⟨BQ,BR,BX,CZ,-,-,-⟩:=X2.BF
 try clear EF EG EH Nb Sj mD mF
 obtain ⟨EF,EG,EH,Nb,Sj,mD,mF,-,-,-,-,-,-⟩:=X6.IU;obtain ⟨Nc,Nh,O1,uD,-,-,-⟩:=X8.BF;go_upto_region 4 with fail;obtain ⟨W4,aAn⟩:=BO (w3.alloc (.cells #[.int .i64 n2.id,.int .i64 n2.pt.x,.int .i64 n2.pt.y] 45));have EP:AO W4 w3.heap.size 45 #[.int .i64 n2.id,.int .i64 n2.pt.x,.int .i64 n2.pt.y]:=by rw [aAn];exact AO.made rfl _ _
 have hb4:AP w3 W4:=by rw [aAn];exact bA (bR w3) _
 rw [<- aAn];clear aAn;replace X2:=X2.keep hb4;replace X6:=X6.keep hb4;replace X8:=X8.keep hb4;have HP4:=AA (bY.out.mono hb4);replace Bw:=bT Bw hb4;clear hb4
 try clear BQ BR BX CZ
 obtain ⟨BQ,BR,BX,CZ,-,-,-⟩:=X2.BF
 try clear EF EG EH Nb Sj mD mF
 obtain ⟨EF,EG,EH,Nb,Sj,mD,mF,-,-,-,-,-,-⟩:=X6.IU
 try clear Nc Nh O1 uD
 obtain ⟨Nc,Nh,O1,uD,-,-,-⟩:=X8.BF;obtain ⟨J5,J6,J7,Zo,-,-,-⟩:=EP.BF;go_cut [41] (fun u wx=>u=.bool (!(s && (s1 && s2)))/\wx=W4)
 case first =>
  cases s<;>cases s1<;>cases s2
  all_goals
   go_wp2;go_meet
   case rel => exact ⟨rfl,rfl⟩
 case rest =>
  obtain ⟨rfl,rfl⟩:=hcut
  cases hsb:(s && (s1 && s2))
  case false =>
   have hf:=AA (show q=none by
    rw [<- Hq.out,pathOf,Hr.out]
    cases r with
    | none=>rfl
    | some a0 =>
     have h1:=Hs.out;have h2:=Ha.out;simp only [VH,Gp] at h1 h2;subst h1 h2;simp only [KY,Zx.out,Zy.out];simpa using hsb)
   clear hsb;go_wp2_with fail;go_ret2;exact ⟨none,0,by rw [hf.out];rfl,Bw,by rw [hf.out];exact Own.nil _ _ _ _ _⟩
  case true =>
   have aBG:s=true/\s1=true/\s2=true:=by simpa using hsb
   have hf:=AA (show q=some (n1.pt::(a.via++[n2.pt]))/\a.via.length<=1048576 by
    rw [<- Hq.out,pathOf,Hr.out]
    cases r with
    | none=>have h1:=Hs.out;rw [aBG.1] at h1;cases h1
    | some a0 =>
     have h2:=Ha.out;simp only [Gp] at h2;subst h2;refine ⟨?_,DL.out _ (aAf Hr.out)⟩;simp only [KY,Zx.out,Zy.out,aBG.2.1,aBG.2.2,Bool.and_self,if_true,AV,nodeAt,nS.out,nT.out])
   clear hsb aBG;go_wp2_with fail;have hlen:=AA hf.out.2;have hBa:AP w (((wc.alloc (.cells #[.int .i64 n1.pt.x,.int .i64 n1.pt.y] 39)).alloc (.cells #[.int .i64 n2.pt.x,.int .i64 n2.pt.y] 39)).alloc (.cells #[.slice (some ⟨wc.heap.size,0,none⟩) 1 1,.slice A1 a.via.length c1,.slice (some ⟨wc.heap.size+1,0,none⟩) 1 1] 46)):=bA (bA (bA Bw _) _) _;refine (apI _ [⟨[n1.pt],some ⟨wc.heap.size,0,none⟩,1⟩,⟨a.via,A1,c1⟩,⟨[n2.pt],some ⟨wc.heap.size+1,0,none⟩,1⟩] _ (Sl.lit (n:=3) (AO.made Aw _ _) rfl (D6 AB)) ?_ Aw Aw ?_).mono ?_
   ·intro k hk;have hk:k<3:=hk;rcases k with _ | _ | _ | k
    · exact Dq.one (((AO.made rfl _ _).alloc _).alloc _)
    · exact HP4.out.mono (bA (bA (bA (bR wc) _) _) _)
    · exact Dq.one ((AO.made Aw _ _).alloc _)
    · omega
   ·have:=hlen.out
    simp only [Ju,aan,EC,I9,Md];omega
   rintro e w5 ⟨v5,rfl,hb5,hown⟩;have Bz:=hBa.size;have ho:=hown.Du (b':=w.heap.size) Bz;have B5:=bT hBa hb5;simp only [Ju,aan,IQ,aao,QD] at ho;have hf1:=hf.out.1;generalize n1.pt::(a.via++[n2.pt])=PL at ho hf1;have Hf1:=AA hf1;obtain ⟨A5,c5,rfl,-⟩:=Own.sl ho;have Ho:=AA ho;have CW:=AA B5;clear hown ho B5 Bz hb5 hBa hf1;go_wp2_with fail;go_ret2;exact ⟨A5,c5,by rw [Hf1.out];rfl,CW.out,by rw [Hf1.out];exact Ho.out⟩
structure Ln where
 arc:Ar
 path:List Pt
 g:Nat
 via:SV
 pa:Option Addr
 pc:Nat
def lnC (x:Ln):Array Value:=#[.int .i64 x.arc.id,.int .i64 x.arc.fr,.int .i64 x.arc.dst,.slice x.via.a x.via.n x.via.c,.int .i64 x.arc.left,.int .i64 x.arc.right,.slice x.pa x.path.length x.pc]
def XH (w:World) (x:Ln):Prop:=AO w x.g 237 (lnC x)/\Own w 0 39 2 EX (.slice x.pa x.path.length x.pc) x.path
theorem XH.keep {w w':World} {x:Ln} (h:XH w x) (hb:AP w w'):XH w' x:=⟨h.1.keep hb,h.2.keep hb⟩
structure DN where
 ln:Ln
 k:Nat
def IW (s:DN):List Value:=[.pointer (some ⟨s.ln.g,0,none⟩),.int .i64 s.k]
def H9 (s:DN):Value:=.agg #[.pointer (some ⟨s.ln.g,0,none⟩),.int .i64 s.k]
def DN.fst (s:DN):Pt:=s.ln.path.getD s.k AY
def DN.snd (s:DN):Pt:=s.ln.path.getD (s.k+1) AY
def FV (w:World) (s:DN):Prop:=XH w s.ln/\s.k+1<s.ln.path.length/\s.ln.path.length<=2097152
theorem FV.keep {w w':World} {s:DN} (h:FV w s) (hb:AP w w'):FV w' s:=⟨h.1.keep hb,h.2⟩
theorem AO.bZ {w:World} {g:Nat} {t:TypeId} {v0 v1 v2 v3 v4 v5 v6:Value} (h:AO w g t #[v0,v1,v2,v3,v4,v5,v6]):g<w.heap.size/\w.cell? ⟨g,0,none⟩=some v0/\w.cell? ⟨g,1,none⟩=some v1/\w.cell? ⟨g,2,none⟩=some v2/\w.cell? ⟨g,3,none⟩=some v3/\w.cell? ⟨g,4,none⟩=some v4/\w.cell? ⟨g,5,none⟩=some v5/\w.cell? ⟨g,6,none⟩=some v6/\w.frozen? ⟨g,0,none⟩=false/\w.frozen? ⟨g,1,none⟩=false/\w.frozen? ⟨g,2,none⟩=false/\w.frozen? ⟨g,3,none⟩=false/\w.frozen? ⟨g,4,none⟩=false/\w.frozen? ⟨g,5,none⟩=false/\w.frozen? ⟨g,6,none⟩=false :=
 ⟨h.lt,h.cell 0,h.cell 1,h.cell 2,h.cell 3,h.cell 4,h.cell 5,h.cell 6,h.frozen 0,h.frozen 1,h.frozen 2,h.frozen 3,h.frozen 4,h.frozen 5,h.frozen 6⟩
theorem vP (s:DN) (w:World) (h:FV w s) :
  Calls Tryz.prog 231 #[H9 s] w fun e w'=>e=.returned (.tuple #[BD s.fst,BD s.snd])/\NZ w w':=by
 obtain ⟨⟨hL,hP⟩,hk,hm⟩:=h;obtain ⟨A,c,he,hn,hc,hR⟩:=Own.sl hP;clear hP;injection he with he1 _ he3;subst he1 he3;unfold lnC at hL;obtain ⟨b,o,hA,hlb,c0,c1⟩:=hR.pt (k:=s.k) AB;obtain ⟨b',o',hA',-,d0,d1⟩:=hR.pt (k:=s.k+1) hk;rw [hA] at hA' hL;simp only [JD,Addr.mk.injEq,and_true] at hA';obtain ⟨rfl,rfl⟩:=hA';have hf:s.fst=s.ln.path[s.k]:=by unfold DN.fst;simp [List.getD,DK (show s.k<s.ln.path.length by omega)]
 have hs:s.snd=s.ln.path[s.k+1]:=by unfold DN.snd;simp [List.getD,DK hk]
 rw [<- hf] at c0 c1;rw [<- hs] at d0 d1;unfold H9 BD;unfold maxLen at hc;clear hf hs hR hA;generalize s.fst=P0 at *;generalize s.snd=P1 at *;generalize s.ln.path.length=N at *;generalize s.k=k at *;generalize s.ln.g=g at *;have HL:=AA hL;clear hL;go_enter Tryz.func231,Tryz.ntmps231;go_upto_region 1 with fail;obtain ⟨W,hW⟩:=BO (((w.alloc (.cells #[.pointer (some ⟨g,0,none⟩),.int .i64 k] 230)).alloc (.cells #[.int .i64 0,.int .i64 0] 39)).alloc (.cells #[.int .i64 0,.int .i64 0] 39));have Bw:AP w W:=by rw [hW];exact bA (bA (bA (bR w) _) _) _
 have Dw:w.drawn<=W.drawn:=by rw [hW];exact dA (dA (dA (dR w) _) _) _
 have X1:AO W w.heap.size 230 #[.pointer (some ⟨g,0,none⟩),.int .i64 k]:=by rw [hW];exact ((AO.made rfl _ _).alloc _).alloc _
 have X2:AO W (w.heap.size+1) 39 #[.int .i64 0,.int .i64 0]:=by rw [hW];exact (AO.made Aw _ _).alloc _
 have X3:AO W (w.heap.size+1+1) 39 #[.int .i64 0,.int .i64 0]:=by rw [hW];exact AO.made Aw _ _
 rw [<- hW];clear hW;have X9:=HL.out.keep Bw;have hgl:=HL.out.lt;obtain ⟨bc,-⟩:=Vm Bw;replace c0:=(bc b _ hlb).trans c0;replace c1:=(bc b _ hlb).trans c1;replace d0:=(bc b _ hlb).trans d0;replace d1:=(bc b _ hlb).trans d1;clear bc;obtain ⟨Ak,Au,Az,-,-⟩:=X1.BN;obtain ⟨Gv,Gw,JL,X9c,X9d,X9e,X9f,X9g,-,-,-,-,-,-,-⟩:=X9.bZ;obtain ⟨BQ,BR,BX,XI,iy⟩:=X2.BN;obtain ⟨E5,Eo,F9,bg,vU⟩:=X3.BN;have q1:0<=(k:Int):=by omega
 have q2:(k:Int)<N:=by omega
 have q3:0<=(k:Int)+1:=by omega
 have q4:(k:Int)+1<N:=by omega
 have q5:((k:Int)+1).toNat=k+1:=by omega
 have q6:IntKind.i64.wrap ((k:Int)+1)=(k:Int)+1:=Ci _ AB;have q7:w.heap.size<w.heap.size+1:=by omega
 have q8:g<w.heap.size+1:=by omega
 have q9:b<w.heap.size+1:=by omega
 refine QK (w.heap.size+1) (W) (.run 19 0 0 (.call 19 1048575 (.call 20 2097151 (.done)))) fun Bv QR Ae Ah hS=>?_
 iterate 19 refine Aj ?_
 refine BP ?_;clear hS;intro K hK AQ;go_simp;have hS:Fb (w.heap.size+1) W _:=(Below.setCell (Below.setCell AQ.out (p:=⟨w.heap.size+1,0,none⟩) (DT _) (.int .i64 P0.x)) (p:=⟨w.heap.size+1,1,none⟩) (DT _) (.int .i64 P0.y));clear AQ;refine hK.out _ _ hS (fun _=>?_);clear hK K
 try simp only [pu]
 refine BP ?_;clear hS;intro K hK AQ;go_simp;have hS:Fb (w.heap.size+1) W _:=(Below.setCell (Below.setCell AQ.out (p:=⟨w.heap.size+1+1,0,none⟩) (aak _) (.int .i64 P1.x)) (p:=⟨w.heap.size+1+1,1,none⟩) (aak _) (.int .i64 P1.y));clear AQ;refine hK.out _ _ hS (fun _=>?_);clear hK K
 try simp only [pu]
 refine KW ?_;clear hS Ah Ae;intro hB;go_wp2_with fail;refine anF (g:=w.heap.size+1) (g':=w.heap.size+1+1) (cs:=#[.int .i64 P0.x,.int .i64 P0.y]) (cs':=#[.int .i64 P1.x,.int .i64 P1.y]) rfl XB XB rfl rfl rfl ?_ ?_ ⟨rfl,?_,?_⟩
 · exact ((AO.QI X2).far (p:=⟨w.heap.size+1+1,0,none⟩) Aw _).far (p:=⟨w.heap.size+1+1,1,none⟩) Aw _
 · exact AO.QI ((X3.far (p:=⟨w.heap.size+1,0,none⟩) Aw _).far (p:=⟨w.heap.size+1,1,none⟩) Aw _)
 · exact Bw.trans (hB.mono AB)
 · exact Nat.le_succ_of_le Dw
def Ih (s:DN):Int:=min s.fst.x s.snd.x
def Oh (s:DN):Int:=max s.fst.x s.snd.x
theorem abt (s:DN) (w:World) (h:FV w s) :
  Calls Tryz.prog 228 #[H9 s] w fun e w'=>e=.returned (.int .i64 (Ih s))/\NZ w w':=by
 have TE:∀ W,AP w W->Calls Tryz.prog 231 #[H9 s] W _:=fun W hW=>vP s W (h.keep hW);unfold Ih;unfold H9 BD at TE;unfold H9;have HE:=AA TE;clear TE h;generalize s.fst=P0 at *;generalize s.snd=P1 at *;generalize s.k=k at *;generalize s.ln.g=g at *;go_enter Tryz.func228,Tryz.ntmps228;go_wp2_with fail;refine (HE.out _ (bA (bR w) _)).mono ?_;rintro e w1 ⟨rfl,hb1,hd1⟩;have Bw:AP w w1:=bT (bA (bR w) _) hb1;have Dw:w.drawn<=w1.drawn:=dT (dA (dR w) _) hd1;clear hb1 hd1;go_wp2_with fail
 all_goals
  go_ret;refine ⟨DU ?_,?_,?_⟩
  · first | rfl | omega
  · exact bA (bA Bw _) _
  · exact Dw
theorem apJ (s:DN) (w:World) (h:FV w s) :
  Calls Tryz.prog 229 #[H9 s] w fun e w'=>e=.returned (.int .i64 (Oh s))/\NZ w w':=by
 have TE:∀ W,AP w W->Calls Tryz.prog 231 #[H9 s] W _:=fun W hW=>vP s W (h.keep hW);unfold Oh;unfold H9 BD at TE;unfold H9;have HE:=AA TE;clear TE h;generalize s.fst=P0 at *;generalize s.snd=P1 at *;generalize s.k=k at *;generalize s.ln.g=g at *;go_enter Tryz.func229,Tryz.ntmps229;go_wp2_with fail;refine (HE.out _ (bA (bR w) _)).mono ?_;rintro e w1 ⟨rfl,hb1,hd1⟩;have Bw:AP w w1:=bT (bA (bR w) _) hb1;have Dw:w.drawn<=w1.drawn:=dT (dA (dR w) _) hd1;clear hb1 hd1;go_wp2_with fail
 all_goals
  go_ret;refine ⟨DU ?_,?_,?_⟩
  · first | rfl | omega
  · exact bA (bA Bw _) _
  · exact Dw
theorem ahM (s:DN) (w:World) :
  Calls Tryz.prog 232 #[H9 s] w fun e w'=>e=.returned (.bool ((s.k:Int) == 0))/\AP w w':=by
 unfold H9;generalize s.k=k;generalize s.ln.g=g;go_enter Tryz.func232,Tryz.ntmps232;go_wp2;go_ret;exact ⟨rfl,bA (bR w) _⟩
theorem ahN (s:DN) (w:World) (h:FV w s) :
  Calls Tryz.prog 233 #[H9 s] w fun e w'=>e=.returned (.bool ((s.k:Int) == (s.ln.path.length:Int)-2))/\AP w w':=by
 obtain ⟨⟨hL,hP⟩,hk,hm⟩:=h;unfold lnC at hL;clear hP;unfold H9;generalize s.ln.path.length=N at *;generalize s.k=k at *;generalize s.ln.g=g at *;have HL:=AA hL;clear hL;go_enter Tryz.func233,Tryz.ntmps233;go_upto_region 1 with fail;obtain ⟨W,hW⟩:=BO (w.alloc (.cells #[.pointer (some ⟨g,0,none⟩),.int .i64 k] 230));have Bw:AP w W:=by rw [hW];exact bA (bR w) _
 have X1:AO W w.heap.size 230 #[.pointer (some ⟨g,0,none⟩),.int .i64 k]:=by rw [hW];exact AO.made rfl _ _
 rw [<- hW];clear hW;have X9:=HL.out.keep Bw;obtain ⟨Ak,Au,Az,-,-⟩:=X1.BN;obtain ⟨Gv,Gw,JL,X9c,X9d,X9e,X9f,X9g,-,-,-,-,-,-,-⟩:=X9.bZ;have q6:IntKind.i64.wrap ((N:Int)-2)=(N:Int)-2:=Ci _ AB;refine Cj (W) (.run 11 0 0 (.done)) fun Bv QR Ae Ah hS=>?_
 iterate 11 refine Aj ?_
 refine Ce ?_;clear hS Ah Ae;intro hB;go_wp2;go_ret;exact ⟨rfl,bT Bw hB⟩
