import Derived.Test.YtpempeioeiaijaaGreatGC
set_option linter.unusedSimpArgs false
set_option linter.unusedVariables false
set_option maxRecDepth 100000
set_option maxHeartbeats 1000000
namespace Go.Proofs.YtpempeioeiaijaaGreat
open Go.RowKit Tryz
def SX (l:List Pt):Bool:=(List.range l.length).any fun i=>(l.take i).any fun p=>decide (l[i]? = some p)
theorem adl (l:List Pt) (i k:Nat) (hk:k<i) (hi:i<l.length) (h:l[i]=l[k]'(by omega)):SX l=true:=by
 unfold SX;refine OA.2 ⟨i,FQ.2 hi,OA.2 ⟨l[k]'(by omega),?_,?_⟩⟩
 ·rw [EF];exact ⟨k,jw,Ah⟩
 · rw [Di hi,h];simp
theorem adn (l:List Pt) (h:∀ i k (hk:k<i) (hi:i<l.length),¬ l[i]=l[k]'(by omega)):SX l=false:=by
 unfold SX;rw [MB];intro i hi;have hi:=FQ.1 hi;simp only [IL];rw [MB];intro p hp;obtain ⟨k,hk,rfl⟩:=EF.1 hp;rw [GH] at hk;have:=h i k AA hi
 rw [Di hi];simpa using this
theorem ap9 (v:Value) (p:Pl) (w:World) (h:D6 w v p) :
  Calls prog 83 #[v] w fun e w'=>e=.returned (.bool (SX (p.nodes.map (·.pt))))/\AU w w':=by
 obtain ⟨_,va,vf,al,rfl,hpa,⟨An,cn,rfl,hn1,hn2,hR⟩,-⟩:=h;unfold maxLen at hn2;generalize p.nodes=l at *;clear hpa;obtain ⟨q,hq⟩:=BI (SX (l.map (·.pt)));rw [hq];have Hq:=AB hq;clear hq;have HR:=AB hR;clear hR;go_enter func83,ntmps83;go_wp2_with fail;obtain ⟨W0,hW0⟩:=BR (w.alloc (.cells #[.slice An l.length cn,va,vf] 34));have X1:AO W0 w.heap.size 34 #[.slice An l.length cn,va,vf]:=by rw [hW0];exact AO.made rfl _ _
 have Fj:AU w W0:=by rw [hW0];exact bA (bR w) _
 rw [<- hW0];have HX0:=AB X1;clear hW0 X1;go_loopw [3] (fun s wr=>∃ i:Nat,i<=l.length/\s=.int .i64 i/\AU W0 wr/\∀ j k (hk:k<j) (hj:j<l.length),j<i->¬ l[j].pt=l[k].pt) (fun s _=>l.length-(intOf s).toNat)
 case atStart => exact ⟨0,BX _,rfl,bR W0,fun _ _ _ _ h=>AA⟩
 case round =>
  obtain ⟨i,hi,rfl,hb,hno⟩:=hrel;have Hb:=AB hb;have Hno:=AB hno;have X1:=HX0.1.keep hb;clear hb hno;obtain ⟨BJ,BK,BL,BQ,-⟩:=X1.Az;by_cases hlt:i<l.length
  ·go_wp2_with fail;obtain ⟨wo,rfl⟩:=BR wr;clear X1 BJ BK BL BQ;go_loopw [4] (fun s wr=>∃ k:Nat,k<=i/\s=.int .i64 k/\AU W0 wr/\∀ m (hm:m<l.length),m<k->¬ l[i].pt=l[m].pt) (fun s _=>i-(intOf s).toNat)
   case atStart => exact ⟨0,BX _,rfl,Hb.1,fun _ _ h=>AA⟩
   case round =>
    obtain ⟨k,hk,rfl,hb,LP⟩:=hrel;have Hb2:=AB hb;have QY:=AB LP;have X1:=HX0.1.keep hb;clear hb LP;by_cases hlk:k<i
    ·have hkl:k<l.length:=AA
     obtain ⟨b,o,rfl,hlb,c0,c1,c2⟩:=(HR.1.mono (bT Fj Hb2.1)).nd hlt;obtain ⟨b',o',e,VF,d0,d1,d2⟩:=(HR.1.mono (bT Fj Hb2.1)).nd hkl;simp only [Gt,Addr.mk.injEq,and_true] at e;obtain ⟨rfl,rfl⟩:=e
     try clear BJ BK BL BQ
     obtain ⟨BJ,BK,BL,BQ,-⟩:=X1.Az;have q1:0<=(k:Int):=AA
     have q2:(k:Int)<l.length:=AA
     have q3:0<=(i:Int):=AA
     have q4:(i:Int)<l.length:=AA
     have hE:=KP l[i].pt l[k].pt;by_cases he:l[i].pt=l[k].pt
     ·have hd:decide (l[i].pt=l[k].pt)=true:=JB he;have hf:=AB (adl (l.map (·.pt)) i k hlk (by simpa using hlt) (by simpa using he));clear he;go_upto_region 7 with fail;refine D9 (wr) (.run 13 0 0 (.done)) fun CQ QR Ae Aj hS=>?_
      iterate 13 refine Ak ?_
      refine D5 ?_;clear hS Aj Ae;intro hB;have Bw:AU W0 wr.drew:=bT Hb2.1 hB;clear hB;go_wp2;go_ret;exact ⟨CP (hf.1.symm.trans Hq.1),bT Fj Bw⟩
     ·have hd:decide (l[i].pt=l[k].pt)=false:=Fg he;have He:=AB he;clear he;go_upto_region 7 with fail;refine D9 (wr) (.run 13 0 0 (.done)) fun CQ QR Ae Aj hS=>?_
      iterate 13 refine Ak ?_
      refine D5 ?_;clear hS Aj Ae;intro hB;have Bw:AU W0 wr.drew:=bT Hb2.1 hB;clear hB;go_wp2;go_roundw
      case rel => exact ⟨k+1,AA,BG,Bw,fun m hm hmk=>if e:m<k then QY.1 m hm e else by
        have:m=k:=AA
        subst this;exact He.1⟩
      case measure => exact BH
    ·go_wp2;go_roundw
     case rel => exact ⟨i+1,AA,BG,Hb2.1,fun j m hm hj hji=>if e:j<i then Hno.1 j m hm hj e else by
       have:j=i:=AA
       subst this;exact QY.1 m AA AA⟩
     case measure => exact BH
  ·have hf:=AB (adn (l.map (·.pt)) (fun j m hm hj=>by
    have:=Hno.1 j m hm ZE (by rw [CV] at hj;omega)
    simpa using this))
   go_wp2;go_ret;exact ⟨CP (hf.1.symm.trans Hq.1),bT Fj Hb.1⟩
theorem ado (v:Value) (l:List Int) (w:World) (h:Ints w v l) :
  Calls prog 80 #[v] w fun e w'=>e=.returned (.bool (OE l))/\AU w w':=by
 obtain ⟨A,c,rfl,hn,hc,hR⟩:=h;unfold maxLen at hc;go_enter func80,ntmps80;go_wp2_with fail;go_loopw [3] (fun i wr=>∃ m:Nat,i=.int .i64 ((m:Int)+1)/\(m=0\/m+1<=l.length)/\AU w wr/\∀ j (hj:j+1<l.length),j<m->l[j]<l[j+1]) (fun i _=>l.length+1-(intOf i).toNat)
 case atStart => exact ⟨0,rfl,.inl rfl,bR w,fun j _ h=>AA⟩
 case round =>
  obtain ⟨m,rfl,hm,hb,hno⟩:=hrel;have Hb:=AB hb;have Hno:=AB hno;clear hb hno;by_cases hlt:m+1<l.length
  ·obtain ⟨b,o,rfl,hlb,c1⟩:=(hR.mono Hb.1).int hlt;obtain ⟨b',o',e,VF,c0⟩:=(hR.mono Hb.1).int (show m<l.length by omega);simp only [Gt,Addr.mk.injEq,and_true] at e;obtain ⟨rfl,rfl⟩:=e;clear hR hm;have q1:IntKind.i64.wrap (m:Int)=m:=Jw _ AA;have q2:0<=(m:Int):=AA
   have q3:(m:Int)<l.length:=AA
   have q4:(m:Int)+1<l.length:=AA
   have q5:0<=(m:Int)+1:=AA
   have q6:((m:Int)+1).toNat=m+1:=AA
   go_upto_region 4 with fail;refine D9 (wr) (.run 10 0 0 (.done)) fun CQ QR Ae Aj hS=>?_
   iterate 10 refine Ak ?_
   refine D5 ?_;clear hS Aj Ae;intro hB;have Bw:AU w wr.drew:=bT Hb.1 hB;clear hB;by_cases hlt2:l[m]<l[m+1]
   ·go_wp2;go_roundw
    case rel => exact ⟨m+1,BG,.inr AA,Bw,fun j hj hjm=>if e:j<m then Hno.1 j hj e else by
      have:j=m:=AA
      subst this;exact hlt2⟩
    case measure => exact BH
   ·have hf:=AB (ahz l m hlt hlt2);go_wp2;go_ret;exact ⟨CP hf.1.symm,Bw⟩
  ·have hf:=AB (ad6 l fun j hj=>Hno.1 j hj AA);go_wp2;go_ret;exact ⟨CP hf.1.symm,Hb.1⟩
def OG (p:Pl):Bool:=!((p.nodes.map (·.id)++p.AQ.map (·.id)++p.faces).any Jp) && (VH p).all GL
theorem apA (v:Value) (p:Pl) (w:World) (h:D6 w v p) (hl1:p.nodes.length<=4096) (hl2:p.AQ.length<=4096) (hl3:p.faces.length<=4096) (hl4:(p.AQ.flatMap (·.via)).length<=1048576) :
  Calls prog 82 #[v] w fun e w'=>e=.returned (.bool (OG p))/\AU w w':=by
 have HP:=AB h;obtain ⟨vn,va,vf,al,rfl,hpa,-,-,hF⟩:=h;have HF:=AB hF;clear hF hpa;obtain ⟨q,hq⟩:=BI (OG p);rw [hq];have Hq:=AB hq;clear hq;go_enter func82,ntmps82;go_upto_region 1 with fail;obtain ⟨W0,hW0⟩:=BR (w.alloc (.cells #[vn,va,vf] 34));have X1:AO W0 w.heap.size 34 #[vn,va,vf]:=by rw [hW0];exact AO.made rfl _ _
 have Fj:AU w W0:=by rw [hW0];exact bA (bR w) _
 rw [<- hW0];clear hW0;obtain ⟨BJ,BK,BL,BQ,-⟩:=X1.Az;have HL:=AB (show (p.nodes.map (·.id)).length=p.nodes.length/\(p.AQ.map (·.id)).length=p.AQ.length from ⟨CV _,CV _⟩);go_cut [3] (fun s wx=>Own wx w.heap.size 3 1 DY s (p.nodes.map (·.id)++p.AQ.map (·.id)++p.faces)/\AU W0 wx)
 case first =>
  refine D9 (W0) (.take 0 1 (.take 2 5 (.take 5 37 (.take 6 101 (.call 1 103 (.call 3 111 (.call 4 127 (.call 7 255 (.take 8 511 (.done)))))))))) fun CQ QR Ae Aj hS=>?_
  iterate 4 refine Ak ?_
  refine BN ?_;clear hS;intro K hK AP;go_simp;refine (ai3 _ p _ (HP.1.mono (bT Fj AP.out)) AA).mono ?_;rintro e BZ ⟨v1,rfl,BU,ho1⟩;have hS:Since W0 BZ:=bT (w:=W0) AP.out BU;clear AP;refine hK.out _ _ hS (fun _=>?_);clear hK K
  try simp only [pu]
  refine BN ?_;clear hS;intro K hK AP;go_simp;refine (ai4 _ p _ (HP.1.mono (bT Fj AP.out)) AA).mono ?_;rintro e wr2 ⟨v2,rfl,Du,ho2⟩;have hS:Since W0 wr2:=bT (w:=W0) AP.out Du;clear AP;refine hK.out _ _ hS (fun _=>?_);clear hK K
  try simp only [pu]
  refine BN ?_;clear hS;intro K hK AP;refine GK (.tmp 8) (.tmp 10) _ rfl (base:=W0.heap.size) Jk JV Jl rfl ((ho1.keep Du).EM Ah) rfl (Own.sl ho2) (by have:=HL.1;omega) (by have:=HL.1;omega) (Below.size AP.out) ?_;intro v3 wr3 ho3 hg hat;have hS:Since W0 wr3:=bG (w:=W0) AP.out hg (fun g hk=>((ho1.EM (b':=W0.heap.size) Ah).lt g hk).1);clear AP;refine hK.out _ _ hS (fun _=>?_);clear hK K
  try simp only [pu]
  refine BN ?_;clear hS;intro K hK AP;refine GK (.tmp 11) (.tmp 13) _ rfl (base:=W0.heap.size) Jk JV Jl rfl ho3 rfl (HF.1.mono (bT Fj AP.out)) (by have:=HL.1;simp only [Es];omega) (by have:=HL.1;simp only [Es];omega) (Below.size AP.out) ?_;intro v4 wr4 Nc hg4 aaM;have hS:Since W0 wr4:=bG (w:=W0) AP.out hg4 (fun g hk=>(ho3.lt g hk).1);clear AP;refine hK.out _ _ hS (fun _=>?_);clear hK K
  try simp only [pu]
  refine Ak ?_;refine D5 ?_;clear hS Aj Ae;intro hB;go_wp2;go_meet
  case rel => exact ⟨Nc.EM Fj.size,hB⟩
 case rest =>
  obtain ⟨hown,adp⟩:=hcut;have X0:=X1.keep adp;have HX0:=AB X0;have l9:=bT Fj adp;have hsl:=Own.sl hown;generalize hLL:p.nodes.map (·.id)++p.AQ.map (·.id)++p.faces=LL at *;have adq:=AB hLL;obtain ⟨A,c,rfl,hn,hc,hR⟩:=hsl;unfold maxLen at hc;have HR:=AB hR;clear hR hown X1 BJ BK BL BQ hLL adp X0;go_wp2_with fail;go_loopw [4] (fun i wr=>∃ k:Nat,k<=LL.length/\i=.int .i64 k/\AU wc wr/\∀ j (hj:j<LL.length),j<k->Jp LL[j]=false) (fun i _=>LL.length-(intOf i).toNat)
  case atStart => exact ⟨0,BX _,rfl,bR wc,fun j _ h=>AA⟩
  case round =>
   obtain ⟨k,hk,rfl,hb,hno⟩:=hrel;have Hb:=AB hb;have Hno:=AB hno;clear hb hno;by_cases hlt:k<LL.length
   ·obtain ⟨b,o,rfl,hlb,c0⟩:=(HR.1.mono Hb.1).int hlt;by_cases h1:LL[k]<1
    ·have hf:=AB (QX LL Jp k hlt (by simp [Jp,h1]));go_wp2;go_ret;exact ⟨CP (by rw [<- Hq.1,OG,adq.1,hf.1];rfl),bT l9 Hb.1⟩
    ·by_cases h2:1073741824<LL[k]
     ·have hf:=AB (QX LL Jp k hlt (by simp [Jp,h2]));go_wp2;go_ret;exact ⟨CP (by rw [<- Hq.1,OG,adq.1,hf.1];rfl),bT l9 Hb.1⟩
     ·have hg:=AB (show Jp LL[k]=false by simp [Jp,h1,h2]);go_wp2;go_roundw
      case rel => exact ⟨k+1,AA,BG,Hb.1,all_succ (p:=fun y=>Jp y=false) Hno.1 hlt hg.1⟩
      case measure => exact BH
   ·have hf:=AB (SS LL Jp (fun j hj=>Hno.1 j hj AA));have X1:=HX0.1.keep Hb.1
    try clear BJ BK BL BQ
    obtain ⟨BJ,BK,BL,BQ,-⟩:=X1.Az;go_wp2_with fail;refine (ap8 _ p _ (HP.1.mono (bT l9 Hb.1)) AA hl4).mono ?_;rintro e w1 ⟨v1,rfl,hb1,hown⟩;have MW:=bT (bT l9 Hb.1) hb1;obtain ⟨A1,N8,rfl,hn1,hc1,hR1⟩:=Own.sl hown;unfold maxLen at hc1;have HR1:=AB hR1;generalize rM:VH p=PP at *;have rO:=AB rM;clear hR1 hown hb1 BJ BK BL BQ hlt rM;go_wp2_with fail;go_loopw [6] (fun i wr=>∃ k:Nat,k<=PP.length/\i=.int .i64 k/\AU w1 wr/\∀ j (hj:j<PP.length),j<k->GL PP[j]=true) (fun i _=>PP.length-(intOf i).toNat)
    case atStart => exact ⟨0,BX _,rfl,bR w1,fun j _ h=>AA⟩
    case round =>
     obtain ⟨k,hk,rfl,hb,hno⟩:=hrel;have Hb2:=AB hb;have QY:=AB hno;clear hb hno;by_cases hlt:k<PP.length
     ·obtain ⟨b,o,rfl,hlb,c0,c1⟩:=(HR1.1.mono Hb2.1).pt hlt;go_wp2_with fail;refine (ap0 PP[k] _).mono ?_;rintro e w2 ⟨rfl,hb2⟩;have Bw2:AU w1 w2:=bT Hb2.1 hb2;clear hb2 c0 c1
      cases hv:GL PP[k]
      ·have hf2:PP.all GL=false:=dU.2 ⟨PP[k],BO hlt,by simp [hv]⟩;have adr:=AB hf2;clear hf2;go_wp2;go_ret;exact ⟨CP (by rw [<- Hq.1,OG,rO.1,adr.1,Bool.and_false]),bT MW Bw2⟩
      ·go_wp2;go_roundw
       case rel => exact ⟨k+1,AA,BG,Bw2,all_succ (p:=fun y=>GL y=true) QY.1 hlt hv⟩
       case measure => exact BH
     ·have hf2:PP.all GL=true:=LK.2 fun x hx=>by
       obtain ⟨i,hi,rfl⟩:=EF.1 hx;exact QY.1 i hi AA
      have adr:=AB hf2;clear hf2;go_wp2;go_ret;exact ⟨CP (by rw [<- Hq.1,OG,rO.1,adr.1,adq.1,hf.1];rfl),bT MW Hb2.1⟩
