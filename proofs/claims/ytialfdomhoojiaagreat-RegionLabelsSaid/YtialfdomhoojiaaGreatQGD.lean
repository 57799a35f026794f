import Derived.Test.YtialfdomhoojiaaGreatQGC
set_option linter.unusedSimpArgs false
set_option linter.unusedVariables false
set_option maxRecDepth 100000
set_option maxHeartbeats 1000000
namespace Go.Proofs.YtialfdomhoojiaaGreat
open Go.RowKit
def ac5 (p:Pl) (M:Nat):Bool:=decide (p.nodes.length<=M/\p.AP.length<=M/\p.faces.length<=M/\(p.AP.flatMap (·.via)).length<=M)
theorem ayl (v:Value) (p:Pl) (M:Nat) (w:World) (h:Ci w v p) (hM:M<=1000000) :
  Calls Tryz.prog 36 #[v,.int .i64 M] w fun e w'=>e=.returned (.bool (ac5 p M))/\AU w w':=by
 obtain ⟨_,_,_,al,rfl,hpa,⟨An,cn,rfl,hn1,hn2,-⟩,⟨⟨Aa,ca,rfl,ha1,ha2,FD⟩,hV⟩,⟨Af,cf,rfl,hf1,hf2,-⟩⟩:=h;unfold maxLen at hn2 ha2 hf2;have hS:ac5 p M=decide (p.nodes.length<=M/\al.length<=M/\p.faces.length<=M/\(al.flatMap (fun a=>a.1.via)).length<=M):=by
  rw [ac5,hpa,Og,Cj]
 rw [hS];clear hS hpa;generalize p.nodes.length=nn at *;generalize p.faces.length=nf at *;have HV:=AA hV;clear hV;have GN:=AA FD;clear FD;obtain ⟨q,hq⟩:=BN (decide (nn<=M/\al.length<=M/\nf<=M/\(al.flatMap (fun a=>a.1.via)).length<=M));rw [hq];have Hq:=AA hq;clear hq;by_cases hc:nn<=M/\al.length<=M/\nf<=M
 case neg =>
  have hf:=AA (Gg (fun e:nn<=M/\al.length<=M/\nf<=M/\(al.flatMap (fun a=>a.1.via)).length<=M=>hc ⟨e.1,e.2.1,e.2.2.1⟩));have Hc:=AA hc;clear hc;by_cases h1:M<nn
  ·go_enter Tryz.func36,Tryz.ntmps36;go_wp2;go_ret;exact ⟨CW (hf.out.symm.trans Hq.out),bA (bR w) _⟩
  ·by_cases h2:M<al.length
   ·go_enter Tryz.func36,Tryz.ntmps36;go_wp2;go_ret;exact ⟨CW (hf.out.symm.trans Hq.out),bA (bR w) _⟩
   ·have h3:M<nf:=by
     rcases rU M nf with h | h
     · exact h
     · exact absurd ⟨AB,AB,h⟩ Hc.out
    go_enter Tryz.func36,Tryz.ntmps36;go_wp2;go_ret;exact ⟨CW (hf.out.symm.trans Hq.out),bA (bR w) _⟩
 case pos =>
  obtain ⟨h1,h2,h3⟩:=hc;go_enter Tryz.func36,Tryz.ntmps36;go_wp2_with fail;obtain ⟨W0,hW0⟩:=BR (w.alloc (.cells #[.slice An nn cn,.slice Aa al.length ca,.slice Af nf cf] 26));have X1:AO W0 w.heap.size 26 #[.slice An nn cn,.slice Aa al.length ca,.slice Af nf cf]:=by rw [hW0];exact AO.made rfl _ _
  have FN:AU w W0:=by rw [hW0];exact bA (bR w) _
  rw [<- hW0];have HX0:=AA X1;clear hW0 X1;go_loopw [5,6] (fun s i wr=>∃ (k:Nat) (n:Int),k<=al.length/\i=.int .i64 k/\s=.int .i64 n/\0<=n/\n<=2*M+1/\AU W0 wr/\((n<=M/\(((al.take k).flatMap (fun a=>a.1.via)).length:Int)=n)\/((M:Int)<n/\(M:Int)<((al.take k).flatMap (fun a=>a.1.via)).length))) (fun _ i _=>al.length-(intOf i).toNat)
  case atStart => exact ⟨0,0,Bv _,rfl,rfl,AB,AB,bR W0,.inl ⟨AB,Ak⟩⟩
  case round =>
   obtain ⟨k,n,hk,rfl,rfl,hn0,hnm,hb,hinv⟩:=hrel;have Hb:=AA hb;have mg:=AA hinv;have X1:AO wr w.heap.size 26 #[.slice An nn cn,.slice Aa al.length ca,.slice Af nf cf]:=HX0.out.keep hb;clear hb hinv;obtain ⟨BF,BG,BH,BI,-,-,-⟩:=X1.Az;by_cases hlt:k<al.length
   ·by_cases hnM:n<=M
    ·obtain ⟨b,o,rfl,hlb,c0,c1,c2,c3,c4,c5⟩:=(GN.out.mono (bT FN Hb.out)).ar hlt;obtain ⟨Av,cv,hv,tY,hvm,-⟩:=HV.out k hlt;rw [hv] at c3;clear hv;unfold maxLen at hvm;have ht:((al.take (k+1)).flatMap (fun a=>a.1.via)).length=((al.take k).flatMap (fun a=>a.1.via)).length+al[k].1.via.length:=by
      rw [F7 hlt,LC,ER];simp
     have Ht:=AA ht;clear ht;go_wp2_with fail
     all_goals
      go_roundw
      case rel =>
       have ht:=Ht.out;have hi:=mg.out;refine ⟨k+1,_,AB,BJ,rfl,AB,AB,Hb.out,?_⟩;rw [ht];omega
      case measure => exact BL
    ·have hf:=AA (Gg (fun e:nn<=M/\al.length<=M/\nf<=M/\(al.flatMap (fun a=>a.1.via)).length<=M=>by
      have h4:=e.2.2.2;have h5:=uG al (fun a=>a.1.via) k;have:=mg.out
      omega))
     go_wp2;go_ret;exact ⟨CW (hf.out.symm.trans Hq.out),bT FN Hb.out⟩
   ·have hE:al.take k=al:=IQ AB;have hi:=mg.out;rw [hE] at hi;replace mg:=AA hi;clear hi hE;by_cases hnM:n<=M
    ·have hf:=AA (JO (show nn<=M/\al.length<=M/\nf<=M/\(al.flatMap (fun a=>a.1.via)).length<=M from ⟨h1,h2,h3,by have:=mg.out;omega⟩));go_wp2;go_ret;exact ⟨CW (hf.out.symm.trans Hq.out),bT FN Hb.out⟩
    ·have hf:=AA (Gg (fun e:nn<=M/\al.length<=M/\nf<=M/\(al.flatMap (fun a=>a.1.via)).length<=M=>by
      have h4:=e.2.2.2;have:=mg.out
      omega))
     go_wp2;go_ret;exact ⟨CW (hf.out.symm.trans Hq.out),bT FN Hb.out⟩
def UJ (l:List Pt):Bool:=(List.range l.length).any fun i=>(l.take i).any fun p=>decide (l[i]? = some p)
theorem ac6 (l:List Pt) (i k:Nat) (hk:k<i) (hi:i<l.length) (h:l[i]=l[k]'(by omega)):UJ l=true:=by
 unfold UJ;refine OC.2 ⟨i,Et.2 hi,OC.2 ⟨l[k]'(by omega),?_,?_⟩⟩
 ·rw [EF];exact ⟨k,su,Ak⟩
 · rw [Dh hi,h];simp
theorem ac7 (l:List Pt) (h:∀ i k (hk:k<i) (hi:i<l.length),¬ l[i]=l[k]'(by omega)):UJ l=false:=by
 unfold UJ;rw [XO];intro i hi;have hi:=Et.1 hi;simp only [JK];rw [XO];intro p hp;obtain ⟨k,hk,rfl⟩:=EF.1 hp;rw [Iw] at hk;have:=h i k AB hi
 rw [Dh hi];simpa using this
theorem anf (v:Value) (p:Pl) (w:World) (h:Ci w v p) :
  Calls Tryz.prog 127 #[v] w fun e w'=>e=.returned (.bool (UJ (p.nodes.map (·.pt))))/\AU w w':=by
 obtain ⟨_,va,vf,al,rfl,hpa,⟨An,cn,rfl,hn1,hn2,hR⟩,-,-⟩:=h;unfold maxLen at hn2;generalize p.nodes=l at *;clear hpa;obtain ⟨q,hq⟩:=BN (UJ (l.map (·.pt)));rw [hq];have Hq:=AA hq;clear hq;have HR:=AA hR;clear hR;go_enter Tryz.func127,Tryz.ntmps127;go_wp2_with fail;obtain ⟨W0,hW0⟩:=BR (w.alloc (.cells #[.slice An l.length cn,va,vf] 26));have X1:AO W0 w.heap.size 26 #[.slice An l.length cn,va,vf]:=by rw [hW0];exact AO.made rfl _ _
 have FN:AU w W0:=by rw [hW0];exact bA (bR w) _
 rw [<- hW0];have HX0:=AA X1;clear hW0 X1;go_loopw [3] (fun s wr=>∃ i:Nat,i<=l.length/\s=.int .i64 i/\AU W0 wr/\∀ j k (hk:k<j) (hj:j<l.length),j<i->¬ l[j].pt=l[k].pt) (fun s _=>l.length-(intOf s).toNat)
 case atStart => exact ⟨0,Bv _,rfl,bR W0,fun _ _ _ _ h=>by omega⟩
 case round =>
  obtain ⟨i,hi,rfl,hb,hno⟩:=hrel;have Hb:=AA hb;have Hno:=AA hno;have X1:=HX0.out.keep hb;clear hb hno;obtain ⟨BF,BG,BH,BI,-,-,-⟩:=X1.Az;by_cases hlt:i<l.length
  ·go_wp2_with fail;obtain ⟨wo,rfl⟩:=BR wr;clear X1 BF BG BH BI;go_loopw [4] (fun s wr=>∃ k:Nat,k<=i/\s=.int .i64 k/\AU W0 wr/\∀ m (hm:m<l.length),m<k->¬ l[i].pt=l[m].pt) (fun s _=>i-(intOf s).toNat)
   case atStart => exact ⟨0,Bv _,rfl,Hb.out,fun _ _ h=>by omega⟩
   case round =>
    obtain ⟨k,hk,rfl,hb,Vl⟩:=hrel;have Hb2:=AA hb;have Qw:=AA Vl;have X1:=HX0.out.keep hb;clear hb Vl;by_cases hlk:k<i
    ·have hkl:k<l.length:=by omega
     obtain ⟨b,o,rfl,hlb,c0,c1,c2⟩:=(HR.out.mono (bT FN Hb2.out)).nd hlt;obtain ⟨b',o',e,QJ,d0,d1,d2⟩:=(HR.out.mono (bT FN Hb2.out)).nd hkl;simp only [JM,Addr.mk.injEq,and_true] at e;obtain ⟨rfl,rfl⟩:=e
     try clear BF BG BH BI
     obtain ⟨BF,BG,BH,BI,-,-,-⟩:=X1.Az;have q1:0<=(k:Int):=by omega
     have q2:(k:Int)<l.length:=by omega
     have q3:0<=(i:Int):=by omega
     have q4:(i:Int)<l.length:=by omega
     have hE:=UF l[i].pt l[k].pt;by_cases he:l[i].pt=l[k].pt
     ·have hd:decide (l[i].pt=l[k].pt)=true:=JO he;have hf:=AA (ac6 (l.map (·.pt)) i k hlk (by simpa using hlt) (by simpa using he));clear he;go_upto_region 7 with fail;refine DJ (wr) (.run 13 0 0 (.done)) fun CU QR Ae Ah hS=>?_
      iterate 13 refine Aj ?_
      refine DF ?_;clear hS Ah Ae;intro hB;have Bw:AU W0 wr.drew:=bT Hb2.out hB;clear hB;go_wp2;go_ret;exact ⟨CW (hf.out.symm.trans Hq.out),bT FN Bw⟩
     ·have hd:decide (l[i].pt=l[k].pt)=false:=Gg he;have He:=AA he;clear he;go_upto_region 7 with fail;refine DJ (wr) (.run 13 0 0 (.done)) fun CU QR Ae Ah hS=>?_
      iterate 13 refine Aj ?_
      refine DF ?_;clear hS Ah Ae;intro hB;have Bw:AU W0 wr.drew:=bT Hb2.out hB;clear hB;go_wp2;go_roundw
      case rel => exact ⟨k+1,AB,BJ,Bw,fun m hm hmk=>if e:m<k then Qw.out m hm e else by
        have:m=k:=by omega
        subst this;exact He.out⟩
      case measure => exact BL
    ·go_wp2;go_roundw
     case rel => exact ⟨i+1,AB,BJ,Hb2.out,fun j m hm hj hji=>if e:j<i then Hno.out j m hm hj e else by
       have:j=i:=by omega
       subst this;exact Qw.out m AB AB⟩
     case measure => exact BL
  ·have hf:=AA (ac7 (l.map (·.pt)) (fun j m hm hj=>by
    have:=Hno.out j m hm (by simpa using hj) (by rw [Cj] at hj;omega)
    simpa using this))
   go_wp2;go_ret;exact ⟨CW (hf.out.symm.trans Hq.out),bT FN Hb.out⟩
theorem ac8 (v:Value) (l:List Int) (w:World) (h:Ints w v l) :
  Calls Tryz.prog 124 #[v] w fun e w'=>e=.returned (.bool (OH l))/\AU w w':=by
 obtain ⟨A,c,rfl,hn,hc,hR⟩:=h;unfold maxLen at hc;go_enter Tryz.func124,Tryz.ntmps124;go_wp2_with fail;go_loopw [3] (fun i wr=>∃ m:Nat,i=.int .i64 ((m:Int)+1)/\(m=0\/m+1<=l.length)/\AU w wr/\∀ j (hj:j+1<l.length),j<m->l[j]<l[j+1]) (fun i _=>l.length+1-(intOf i).toNat)
 case atStart => exact ⟨0,rfl,.inl rfl,bR w,fun j _ h=>by omega⟩
 case round =>
  obtain ⟨m,rfl,hm,hb,hno⟩:=hrel;have Hb:=AA hb;have Hno:=AA hno;clear hb hno;by_cases hlt:m+1<l.length
  ·obtain ⟨b,o,rfl,hlb,c1⟩:=(hR.mono Hb.out).int hlt;obtain ⟨b',o',e,QJ,c0⟩:=(hR.mono Hb.out).int (show m<l.length by omega);simp only [JM,Addr.mk.injEq,and_true] at e;obtain ⟨rfl,rfl⟩:=e;have HR:=AA hR;clear hR hm;have q1:IntKind.i64.wrap (m:Int)=m:=D6 _ AB;have q2:0<=(m:Int):=by omega
   have q3:(m:Int)<l.length:=by omega
   have q4:(m:Int)+1<l.length:=by omega
   have q5:0<=(m:Int)+1:=by omega
   have q6:((m:Int)+1).toNat=m+1:=by omega
   go_upto_region 4 with fail;refine DJ (wr) (.run 10 0 0 (.done)) fun CU QR Ae Ah hS=>?_
   iterate 10 refine Aj ?_
   refine DF ?_;clear hS Ah Ae;intro hB;have Bw:AU w wr.drew:=bT Hb.out hB;clear hB;by_cases hlt2:l[m]<l[m+1]
   ·go_wp2;go_roundw
    case rel => exact ⟨m+1,BJ,.inr AB,Bw,fun j hj hjm=>if e:j<m then Hno.out j hj e else by
      have:j=m:=by omega
      subst this;exact hlt2⟩
    case measure => exact BL
   ·have hf:=AA (agE l m hlt hlt2);go_wp2;go_ret;exact ⟨CW hf.out.symm,Bw⟩
  ·have hf:=AA (abz l fun j hj=>Hno.out j hj AB);go_wp2;go_ret;exact ⟨CW hf.out.symm,Hb.out⟩
def Nb (p:Pl):Bool:=!((p.nodes.map (·.id)++p.AP.map (·.id)++p.faces).any Jj) && (Vk p).all KY
theorem ang (v:Value) (p:Pl) (w:World) (h:Ci w v p) (hl1:p.nodes.length<=4096) (hl2:p.AP.length<=4096) (hl3:p.faces.length<=4096) (hl4:(p.AP.flatMap (·.via)).length<=1048576) :
  Calls Tryz.prog 126 #[v] w fun e w'=>e=.returned (.bool (Nb p))/\AU w w':=by
 have HP:=AA h;obtain ⟨vn,va,vf,al,rfl,hpa,-,-,hF⟩:=h;have HF:=AA hF;clear hF hpa;obtain ⟨q,hq⟩:=BN (Nb p);rw [hq];have Hq:=AA hq;clear hq;go_enter Tryz.func126,Tryz.ntmps126;go_upto_region 1 with fail;obtain ⟨W0,hW0⟩:=BR (w.alloc (.cells #[vn,va,vf] 26));have X1:AO W0 w.heap.size 26 #[vn,va,vf]:=by rw [hW0];exact AO.made rfl _ _
 have FN:AU w W0:=by rw [hW0];exact bA (bR w) _
 rw [<- hW0];clear hW0;obtain ⟨BF,BG,BH,BI,-,-,-⟩:=X1.Az;have HL:=AA (show (p.nodes.map (·.id)).length=p.nodes.length/\(p.AP.map (·.id)).length=p.AP.length from ⟨Cj _,Cj _⟩);go_cut [3] (fun s wx=>Own wx w.heap.size 3 1 DR s (p.nodes.map (·.id)++p.AP.map (·.id)++p.faces)/\AU W0 wx)
 case first =>
  refine DJ (W0) (.take 0 1 (.take 2 5 (.take 5 37 (.take 6 101 (.call 1 103 (.call 3 111 (.call 4 127 (.call 7 255 (.take 8 511 (.done)))))))))) fun CU QR Ae Ah hS=>?_
  iterate 4 refine Aj ?_
  refine Bj ?_;clear hS;intro K hK AQ;go_simp;refine (agK _ p _ (HP.out.mono (bT FN AQ.out)) AB).mono ?_;rintro e CX ⟨v1,rfl,CV,ho1⟩;have hS:Since W0 CX:=bT (w:=W0) AQ.out CV;clear AQ;refine hK.out _ _ hS (fun _=>?_);clear hK K
  try simp only [pu]
  refine Bj ?_;clear hS;intro K hK AQ;go_simp;refine (agL _ p _ (HP.out.mono (bT FN AQ.out)) AB).mono ?_;rintro e wr2 ⟨v2,rfl,Fp,ho2⟩;have hS:Since W0 wr2:=bT (w:=W0) AQ.out Fp;clear AQ;refine hK.out _ _ hS (fun _=>?_);clear hK K
  try simp only [pu]
  refine Bj ?_;clear hS;intro K hK AQ;refine JV (.tmp 8) (.tmp 10) _ rfl (base:=W0.heap.size) JW Iz JR rfl ((ho1.keep Fp).ES Ak) rfl (Own.sl ho2) (by have:=HL.out;omega) (by have:=HL.out;omega) (Below.size AQ.out) ?_;intro v3 wr3 ho3 hg hat;have hS:Since W0 wr3:=bG (w:=W0) AQ.out hg (fun g hk=>((ho1.ES (b':=W0.heap.size) Ak).lt g hk).1);clear AQ;refine hK.out _ _ hS (fun _=>?_);clear hK K
  try simp only [pu]
  refine Bj ?_;clear hS;intro K hK AQ;refine JV (.tmp 11) (.tmp 13) _ rfl (base:=W0.heap.size) JW Iz JR rfl ho3 rfl (HF.out.mono (bT FN AQ.out)) (by have:=HL.out;simp only [ER];omega) (by have:=HL.out;simp only [ER];omega) (Below.size AQ.out) ?_;intro v4 wr4 Jk hg4 bV;have hS:Since W0 wr4:=bG (w:=W0) AQ.out hg4 (fun g hk=>(ho3.lt g hk).1);clear AQ;refine hK.out _ _ hS (fun _=>?_);clear hK K
  try simp only [pu]
  refine Aj ?_;refine DF ?_;clear hS Ah Ae;intro hB;go_wp2;go_meet
  case rel => exact ⟨Jk.ES FN.size,hB⟩
 case rest =>
  obtain ⟨hown,hBo⟩:=hcut;have X0:=X1.keep hBo;have HX0:=AA X0;have nC:=bT FN hBo;have hsl:=Own.sl hown;generalize hLL:p.nodes.map (·.id)++p.AP.map (·.id)++p.faces=LL at *;have HLL:=AA hLL;obtain ⟨A,c,rfl,hn,hc,hR⟩:=hsl;unfold maxLen at hc;have HR:=AA hR;clear hR hown X1 BF BG BH BI hLL hBo X0;go_wp2_with fail;go_loopw [4] (fun i wr=>∃ k:Nat,k<=LL.length/\i=.int .i64 k/\AU wc wr/\∀ j (hj:j<LL.length),j<k->Jj LL[j]=false) (fun i _=>LL.length-(intOf i).toNat)
  case atStart => exact ⟨0,Bv _,rfl,bR wc,fun j _ h=>by omega⟩
  case round =>
   obtain ⟨k,hk,rfl,hb,hno⟩:=hrel;have Hb:=AA hb;have Hno:=AA hno;clear hb hno;by_cases hlt:k<LL.length
   ·obtain ⟨b,o,rfl,hlb,c0⟩:=(HR.out.mono Hb.out).int hlt;by_cases h1:LL[k]<1
    ·have hf:=AA (SB LL Jj k hlt (by simp [Jj,h1]));go_wp2;go_ret;exact ⟨CW (by rw [<- Hq.out,Nb,HLL.out,hf.out];rfl),bT nC Hb.out⟩
    ·by_cases h2:1073741824<LL[k]
     ·have hf:=AA (SB LL Jj k hlt (by simp [Jj,h2]));go_wp2;go_ret;exact ⟨CW (by rw [<- Hq.out,Nb,HLL.out,hf.out];rfl),bT nC Hb.out⟩
     ·have hg:=AA (show Jj LL[k]=false by simp [Jj,h1,h2]);go_wp2;go_roundw
      case rel => exact ⟨k+1,AB,BJ,Hb.out,all_succ (p:=fun y=>Jj y=false) Hno.out hlt hg.out⟩
      case measure => exact BL
   ·have hf:=AA (Ue LL Jj (fun j hj=>Hno.out j hj AB));have X1:=HX0.out.keep Hb.out
    try clear BF BG BH BI
    obtain ⟨BF,BG,BH,BI,-,-,-⟩:=X1.Az;go_wp2_with fail;refine (ane _ p _ (HP.out.mono (bT nC Hb.out)) AB hl4).mono ?_;rintro e w1 ⟨v1,rfl,hb1,hown⟩;have N9:=bT (bT nC Hb.out) hb1;obtain ⟨A1,NC,rfl,hn1,hc1,hR1⟩:=Own.sl hown;unfold maxLen at hc1;have HR1:=AA hR1;generalize uI:Vk p=PP at *;have uJ:=AA uI;clear hR1 hown hb1 BF BG BH BI hlt uI;go_wp2_with fail;go_loopw [6] (fun i wr=>∃ k:Nat,k<=PP.length/\i=.int .i64 k/\AU w1 wr/\∀ j (hj:j<PP.length),j<k->KY PP[j]=true) (fun i _=>PP.length-(intOf i).toNat)
    case atStart => exact ⟨0,Bv _,rfl,bR w1,fun j _ h=>by omega⟩
    case round =>
     obtain ⟨k,hk,rfl,hb,hno⟩:=hrel;have Hb2:=AA hb;have Qw:=AA hno;clear hb hno;by_cases hlt:k<PP.length
     ·obtain ⟨b,o,rfl,hlb,c0,c1⟩:=(HR1.out.mono Hb2.out).pt hlt;go_wp2_with fail;refine (aoM PP[k] _).mono ?_;rintro e w2 ⟨rfl,hb2⟩;have Bw2:AU w1 w2:=bT Hb2.out hb2;clear hb2 c0 c1
      cases hv:KY PP[k]
      ·have hf2:PP.all KY=false:=gY.2 ⟨PP[k],BO hlt,by simp [hv]⟩;have Hf2:=AA hf2;clear hf2;go_wp2;go_ret;exact ⟨CW (by rw [<- Hq.out,Nb,uJ.out,Hf2.out,Bool.and_false]),bT N9 Bw2⟩
      ·go_wp2;go_roundw
       case rel => exact ⟨k+1,AB,BJ,Bw2,all_succ (p:=fun y=>KY y=true) Qw.out hlt hv⟩
       case measure => exact BL
     ·have hf2:PP.all KY=true:=KU.2 fun x hx=>by
       obtain ⟨i,hi,rfl⟩:=EF.1 hx;exact Qw.out i hi AB
      have Hf2:=AA hf2;clear hf2;go_wp2;go_ret;exact ⟨CW (by rw [<- Hq.out,Nb,uJ.out,Hf2.out,HLL.out,hf.out];rfl),bT N9 Hb2.out⟩
