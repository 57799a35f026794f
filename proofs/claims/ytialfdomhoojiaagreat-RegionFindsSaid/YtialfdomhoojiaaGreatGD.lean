import Derived.Test.YtialfdomhoojiaaGreatGC
set_option linter.unusedSimpArgs false
set_option linter.unusedVariables false
set_option maxRecDepth 100000
set_option maxHeartbeats 1000000
namespace Go.Proofs.YtialfdomhoojiaaGreat
open Go.RowKit
def acE (p:Pl) (M:Nat):Bool:=decide (p.nodes.length<=M/\p.AU.length<=M/\p.faces.length<=M/\(p.AU.flatMap (·.via)).length<=M)
theorem azE (v:Value) (p:Pl) (M:Nat) (w:World) (h:Cb w v p) (hM:M<=1000000) :
  Calls Tryz.prog 36 #[v,.int .i64 M] w fun e w'=>e=.returned (.bool (acE p M))/\AP w w':=by
 obtain ⟨_,_,_,al,rfl,hpa,⟨An,cn,rfl,hn1,hn2,-⟩,⟨⟨Aa,ca,rfl,ha1,ha2,FU⟩,hV⟩,⟨Af,cf,rfl,hf1,hf2,-⟩⟩:=h;unfold maxLen at hn2 ha2 hf2;have hS:acE p M=decide (p.nodes.length<=M/\al.length<=M/\p.faces.length<=M/\(al.flatMap (fun a=>a.1.via)).length<=M):=by
  rw [acE,hpa,P9,Cm]
 rw [hS];clear hS hpa;generalize p.nodes.length=nn at *;generalize p.faces.length=nf at *;have HV:=AA hV;clear hV;have Gu:=AA FU;clear FU;obtain ⟨q,hq⟩:=BL (decide (nn<=M/\al.length<=M/\nf<=M/\(al.flatMap (fun a=>a.1.via)).length<=M));rw [hq];have Hq:=AA hq;clear hq;by_cases hc:nn<=M/\al.length<=M/\nf<=M
 case neg =>
  have hf:=AA (G8 (fun e:nn<=M/\al.length<=M/\nf<=M/\(al.flatMap (fun a=>a.1.via)).length<=M=>hc ⟨e.1,e.2.1,e.2.2.1⟩));have Hc:=AA hc;clear hc;by_cases h1:M<nn
  ·go_enter Tryz.func36,Tryz.ntmps36;go_wp2;go_ret;exact ⟨C9 (hf.out.symm.trans Hq.out),bA (bR w) _⟩
  ·by_cases h2:M<al.length
   ·go_enter Tryz.func36,Tryz.ntmps36;go_wp2;go_ret;exact ⟨C9 (hf.out.symm.trans Hq.out),bA (bR w) _⟩
   ·have h3:M<nf:=by
     rcases rU M nf with h | h
     · exact h
     · exact absurd ⟨AB,AB,h⟩ Hc.out
    go_enter Tryz.func36,Tryz.ntmps36;go_wp2;go_ret;exact ⟨C9 (hf.out.symm.trans Hq.out),bA (bR w) _⟩
 case pos =>
  obtain ⟨h1,h2,h3⟩:=hc;go_enter Tryz.func36,Tryz.ntmps36;go_wp2_with fail;obtain ⟨W0,hW0⟩:=BO (w.alloc (.cells #[.slice An nn cn,.slice Aa al.length ca,.slice Af nf cf] 26));have X1:AO W0 w.heap.size 26 #[.slice An nn cn,.slice Aa al.length ca,.slice Af nf cf]:=by rw [hW0];exact AO.made rfl _ _
  have F6:AP w W0:=by rw [hW0];exact bA (bR w) _
  rw [<- hW0];have HX0:=AA X1;clear hW0 X1;go_loopw [5,6] (fun s i wr=>∃ (k:Nat) (n:Int),k<=al.length/\i=.int .i64 k/\s=.int .i64 n/\0<=n/\n<=2*M+1/\AP W0 wr/\((n<=M/\(((al.take k).flatMap (fun a=>a.1.via)).length:Int)=n)\/((M:Int)<n/\(M:Int)<((al.take k).flatMap (fun a=>a.1.via)).length))) (fun _ i _=>al.length-(intOf i).toNat)
  case atStart => exact ⟨0,0,BZ _,rfl,rfl,AB,AB,bR W0,.inl ⟨AB,Aw⟩⟩
  case round =>
   obtain ⟨k,n,hk,rfl,rfl,hn0,hnm,hb,hinv⟩:=hrel;have Hb:=AA hb;have nP:=AA hinv;have X1:AO wr w.heap.size 26 #[.slice An nn cn,.slice Aa al.length ca,.slice Af nf cf]:=HX0.out.keep hb;clear hb hinv;obtain ⟨Ak,Au,Az,BA,-,-,-⟩:=X1.BF;by_cases hlt:k<al.length
   ·by_cases hnM:n<=M
    ·obtain ⟨b,o,rfl,hlb,c0,c1,c2,c3,c4,c5⟩:=(Gu.out.mono (bT F6 Hb.out)).ar hlt;obtain ⟨Av,cv,hv,uY,hvm,-⟩:=HV.out k hlt;rw [hv] at c3;clear hv;unfold maxLen at hvm;have ht:((al.take (k+1)).flatMap (fun a=>a.1.via)).length=((al.take k).flatMap (fun a=>a.1.via)).length+al[k].1.via.length:=by
      rw [En hlt,KO,EC];simp
     have Ht:=AA ht;clear ht;go_wp2_with fail
     all_goals
      go_roundw
      case rel =>
       have ht:=Ht.out;have hi:=nP.out;refine ⟨k+1,_,AB,BI,rfl,AB,AB,Hb.out,?_⟩;rw [ht];omega
      case measure => exact BK
    ·have hf:=AA (G8 (fun e:nn<=M/\al.length<=M/\nf<=M/\(al.flatMap (fun a=>a.1.via)).length<=M=>by
      have h4:=e.2.2.2;have h5:=tY al (fun a=>a.1.via) k;have:=nP.out
      omega))
     go_wp2;go_ret;exact ⟨C9 (hf.out.symm.trans Hq.out),bT F6 Hb.out⟩
   ·have hE:al.take k=al:=Hw AB;have hi:=nP.out;rw [hE] at hi;replace nP:=AA hi;clear hi hE;by_cases hnM:n<=M
    ·have hf:=AA (JE (show nn<=M/\al.length<=M/\nf<=M/\(al.flatMap (fun a=>a.1.via)).length<=M from ⟨h1,h2,h3,by have:=nP.out;omega⟩));go_wp2;go_ret;exact ⟨C9 (hf.out.symm.trans Hq.out),bT F6 Hb.out⟩
    ·have hf:=AA (G8 (fun e:nn<=M/\al.length<=M/\nf<=M/\(al.flatMap (fun a=>a.1.via)).length<=M=>by
      have h4:=e.2.2.2;have:=nP.out
      omega))
     go_wp2;go_ret;exact ⟨C9 (hf.out.symm.trans Hq.out),bT F6 Hb.out⟩
def UC (l:List Pt):Bool:=(List.range l.length).any fun i=>(l.take i).any fun p=>decide (l[i]? = some p)
theorem acF (l:List Pt) (i k:Nat) (hk:k<i) (hi:i<l.length) (h:l[i]=l[k]'(by omega)):UC l=true:=by
 unfold UC;refine PE.2 ⟨i,F5.2 hi,PE.2 ⟨l[k]'(by omega),?_,?_⟩⟩
 ·rw [Dp];exact ⟨k,fZ,Aw⟩
 · rw [DK hi,h];simp
theorem acG (l:List Pt) (h:∀ i k (hk:k<i) (hi:i<l.length),¬ l[i]=l[k]'(by omega)):UC l=false:=by
 unfold UC;rw [Xu];intro i hi;have hi:=F5.1 hi;simp only [Iz];rw [Xu];intro p hp;obtain ⟨k,hk,rfl⟩:=Dp.1 hp;rw [Ie] at hk;have:=h i k AB hi
 rw [DK hi];simpa using this
theorem anv (v:Value) (p:Pl) (w:World) (h:Cb w v p) :
  Calls Tryz.prog 127 #[v] w fun e w'=>e=.returned (.bool (UC (p.nodes.map (·.pt))))/\AP w w':=by
 obtain ⟨_,va,vf,al,rfl,hpa,⟨An,cn,rfl,hn1,hn2,hR⟩,-,-⟩:=h;unfold maxLen at hn2;generalize p.nodes=l at *;clear hpa;obtain ⟨q,hq⟩:=BL (UC (l.map (·.pt)));rw [hq];have Hq:=AA hq;clear hq;have HR:=AA hR;clear hR;go_enter Tryz.func127,Tryz.ntmps127;go_wp2_with fail;obtain ⟨W0,hW0⟩:=BO (w.alloc (.cells #[.slice An l.length cn,va,vf] 26));have X1:AO W0 w.heap.size 26 #[.slice An l.length cn,va,vf]:=by rw [hW0];exact AO.made rfl _ _
 have F6:AP w W0:=by rw [hW0];exact bA (bR w) _
 rw [<- hW0];have HX0:=AA X1;clear hW0 X1;go_loopw [3] (fun s wr=>∃ i:Nat,i<=l.length/\s=.int .i64 i/\AP W0 wr/\∀ j k (hk:k<j) (hj:j<l.length),j<i->¬ l[j].pt=l[k].pt) (fun s _=>l.length-(intOf s).toNat)
 case atStart => exact ⟨0,BZ _,rfl,bR W0,fun _ _ _ _ h=>by omega⟩
 case round =>
  obtain ⟨i,hi,rfl,hb,hno⟩:=hrel;have Hb:=AA hb;have Hno:=AA hno;have X1:=HX0.out.keep hb;clear hb hno;obtain ⟨Ak,Au,Az,BA,-,-,-⟩:=X1.BF;by_cases hlt:i<l.length
  ·go_wp2_with fail;obtain ⟨wo,rfl⟩:=BO wr;clear X1 Ak Au Az BA;go_loopw [4] (fun s wr=>∃ k:Nat,k<=i/\s=.int .i64 k/\AP W0 wr/\∀ m (hm:m<l.length),m<k->¬ l[i].pt=l[m].pt) (fun s _=>i-(intOf s).toNat)
   case atStart => exact ⟨0,BZ _,rfl,Hb.out,fun _ _ h=>by omega⟩
   case round =>
    obtain ⟨k,hk,rfl,hb,VX⟩:=hrel;have Hb2:=AA hb;have Rj:=AA VX;have X1:=HX0.out.keep hb;clear hb VX;by_cases hlk:k<i
    ·have hkl:k<l.length:=by omega
     obtain ⟨b,o,rfl,hlb,c0,c1,c2⟩:=(HR.out.mono (bT F6 Hb2.out)).nd hlt;obtain ⟨b',o',e,Rz,d0,d1,d2⟩:=(HR.out.mono (bT F6 Hb2.out)).nd hkl;simp only [JD,Addr.mk.injEq,and_true] at e;obtain ⟨rfl,rfl⟩:=e
     try clear Ak Au Az BA
     obtain ⟨Ak,Au,Az,BA,-,-,-⟩:=X1.BF;have q1:0<=(k:Int):=by omega
     have q2:(k:Int)<l.length:=by omega
     have q3:0<=(i:Int):=by omega
     have q4:(i:Int)<l.length:=by omega
     have hE:=U8 l[i].pt l[k].pt;by_cases he:l[i].pt=l[k].pt
     ·have hd:decide (l[i].pt=l[k].pt)=true:=JE he;have hf:=AA (acF (l.map (·.pt)) i k hlk (by simpa using hlt) (by simpa using he));clear he;go_upto_region 7 with fail;refine Cj (wr) (.run 13 0 0 (.done)) fun Bv QR Ae Ah hS=>?_
      iterate 13 refine Aj ?_
      refine Ce ?_;clear hS Ah Ae;intro hB;have Bw:AP W0 wr.drew:=bT Hb2.out hB;clear hB;go_wp2;go_ret;exact ⟨C9 (hf.out.symm.trans Hq.out),bT F6 Bw⟩
     ·have hd:decide (l[i].pt=l[k].pt)=false:=G8 he;have He:=AA he;clear he;go_upto_region 7 with fail;refine Cj (wr) (.run 13 0 0 (.done)) fun Bv QR Ae Ah hS=>?_
      iterate 13 refine Aj ?_
      refine Ce ?_;clear hS Ah Ae;intro hB;have Bw:AP W0 wr.drew:=bT Hb2.out hB;clear hB;go_wp2;go_roundw
      case rel => exact ⟨k+1,AB,BI,Bw,fun m hm hmk=>if e:m<k then Rj.out m hm e else by
        have:m=k:=by omega
        subst this;exact He.out⟩
      case measure => exact BK
    ·go_wp2;go_roundw
     case rel => exact ⟨i+1,AB,BI,Hb2.out,fun j m hm hj hji=>if e:j<i then Hno.out j m hm hj e else by
       have:j=i:=by omega
       subst this;exact Rj.out m AB AB⟩
     case measure => exact BK
  ·have hf:=AA (acG (l.map (·.pt)) (fun j m hm hj=>by
    have:=Hno.out j m hm (by simpa using hj) (by rw [Cm] at hj;omega)
    simpa using this))
   go_wp2;go_ret;exact ⟨C9 (hf.out.symm.trans Hq.out),bT F6 Hb.out⟩
theorem acH (v:Value) (l:List Int) (w:World) (h:Ints w v l) :
  Calls Tryz.prog 124 #[v] w fun e w'=>e=.returned (.bool (PI l))/\AP w w':=by
 obtain ⟨A,c,rfl,hn,hc,hR⟩:=h;unfold maxLen at hc;go_enter Tryz.func124,Tryz.ntmps124;go_wp2_with fail;go_loopw [3] (fun i wr=>∃ m:Nat,i=.int .i64 ((m:Int)+1)/\(m=0\/m+1<=l.length)/\AP w wr/\∀ j (hj:j+1<l.length),j<m->l[j]<l[j+1]) (fun i _=>l.length+1-(intOf i).toNat)
 case atStart => exact ⟨0,rfl,.inl rfl,bR w,fun j _ h=>by omega⟩
 case round =>
  obtain ⟨m,rfl,hm,hb,hno⟩:=hrel;have Hb:=AA hb;have Hno:=AA hno;clear hb hno;by_cases hlt:m+1<l.length
  ·obtain ⟨b,o,rfl,hlb,c1⟩:=(hR.mono Hb.out).int hlt;obtain ⟨b',o',e,Rz,c0⟩:=(hR.mono Hb.out).int (show m<l.length by omega);simp only [JD,Addr.mk.injEq,and_true] at e;obtain ⟨rfl,rfl⟩:=e;have HR:=AA hR;clear hR hm;have q1:IntKind.i64.wrap (m:Int)=m:=Ci _ AB;have q2:0<=(m:Int):=by omega
   have q3:(m:Int)<l.length:=by omega
   have q4:(m:Int)+1<l.length:=by omega
   have q5:0<=(m:Int)+1:=by omega
   have q6:((m:Int)+1).toNat=m+1:=by omega
   go_upto_region 4 with fail;refine Cj (wr) (.run 10 0 0 (.done)) fun Bv QR Ae Ah hS=>?_
   iterate 10 refine Aj ?_
   refine Ce ?_;clear hS Ah Ae;intro hB;have Bw:AP w wr.drew:=bT Hb.out hB;clear hB;by_cases hlt2:l[m]<l[m+1]
   ·go_wp2;go_roundw
    case rel => exact ⟨m+1,BI,.inr AB,Bw,fun j hj hjm=>if e:j<m then Hno.out j hj e else by
      have:j=m:=by omega
      subst this;exact hlt2⟩
    case measure => exact BK
   ·have hf:=AA (agO l m hlt hlt2);go_wp2;go_ret;exact ⟨C9 hf.out.symm,Bw⟩
  ·have hf:=AA (agN l fun j hj=>Hno.out j hj AB);go_wp2;go_ret;exact ⟨C9 hf.out.symm,Hb.out⟩
def OE (p:Pl):Bool:=!((p.nodes.map (·.id)++p.AU.map (·.id)++p.faces).any KA) && (Zv p).all Ik
theorem anw (v:Value) (p:Pl) (w:World) (h:Cb w v p) (hl1:p.nodes.length<=4096) (hl2:p.AU.length<=4096) (hl3:p.faces.length<=4096) (hl4:(p.AU.flatMap (·.via)).length<=1048576) :
  Calls Tryz.prog 126 #[v] w fun e w'=>e=.returned (.bool (OE p))/\AP w w':=by
 have HP:=AA h;obtain ⟨vn,va,vf,al,rfl,hpa,-,-,hF⟩:=h;have HF:=AA hF;clear hF hpa;obtain ⟨q,hq⟩:=BL (OE p);rw [hq];have Hq:=AA hq;clear hq;go_enter Tryz.func126,Tryz.ntmps126;go_upto_region 1 with fail;obtain ⟨W0,hW0⟩:=BO (w.alloc (.cells #[vn,va,vf] 26));have X1:AO W0 w.heap.size 26 #[vn,va,vf]:=by rw [hW0];exact AO.made rfl _ _
 have F6:AP w W0:=by rw [hW0];exact bA (bR w) _
 rw [<- hW0];clear hW0;obtain ⟨Ak,Au,Az,BA,-,-,-⟩:=X1.BF;have HL:=AA (show (p.nodes.map (·.id)).length=p.nodes.length/\(p.AU.map (·.id)).length=p.AU.length from ⟨Cm _,Cm _⟩);go_cut [3] (fun s wx=>Own wx w.heap.size 3 1 D5 s (p.nodes.map (·.id)++p.AU.map (·.id)++p.faces)/\AP W0 wx)
 case first =>
  refine Cj (W0) (.take 0 1 (.take 2 5 (.take 5 37 (.take 6 101 (.call 1 103 (.call 3 111 (.call 4 127 (.call 7 255 (.take 8 511 (.done)))))))))) fun Bv QR Ae Ah hS=>?_
  iterate 4 refine Aj ?_
  refine BP ?_;clear hS;intro K hK AQ;go_simp;refine (agU _ p _ (HP.out.mono (bT F6 AQ.out)) AB).mono ?_;rintro e Bq ⟨v1,rfl,Bf,ho1⟩;have hS:Since W0 Bq:=bT (w:=W0) AQ.out Bf;clear AQ;refine hK.out _ _ hS (fun _=>?_);clear hK K
  try simp only [pu]
  refine BP ?_;clear hS;intro K hK AQ;go_simp;refine (agV _ p _ (HP.out.mono (bT F6 AQ.out)) AB).mono ?_;rintro e wr2 ⟨v2,rfl,FT,ho2⟩;have hS:Since W0 wr2:=bT (w:=W0) AQ.out FT;clear AQ;refine hK.out _ _ hS (fun _=>?_);clear hK K
  try simp only [pu]
  refine BP ?_;clear hS;intro K hK AQ;refine IZ (.tmp 8) (.tmp 10) _ rfl (base:=W0.heap.size) IB Gt IK rfl ((ho1.keep FT).Du Aw) rfl (Own.sl ho2) (by have:=HL.out;omega) (by have:=HL.out;omega) (Below.size AQ.out) ?_;intro v3 wr3 ho3 hg hat;have hS:Since W0 wr3:=bG (w:=W0) AQ.out hg (fun g hk=>((ho1.Du (b':=W0.heap.size) Aw).lt g hk).1);clear AQ;refine hK.out _ _ hS (fun _=>?_);clear hK K
  try simp only [pu]
  refine BP ?_;clear hS;intro K hK AQ;refine IZ (.tmp 11) (.tmp 13) _ rfl (base:=W0.heap.size) IB Gt IK rfl ho3 rfl (HF.out.mono (bT F6 AQ.out)) (by have:=HL.out;simp only [EC];omega) (by have:=HL.out;simp only [EC];omega) (Below.size AQ.out) ?_;intro v4 wr4 JY hg4 Zw;have hS:Since W0 wr4:=bG (w:=W0) AQ.out hg4 (fun g hk=>(ho3.lt g hk).1);clear AQ;refine hK.out _ _ hS (fun _=>?_);clear hK K
  try simp only [pu]
  refine Aj ?_;refine Ce ?_;clear hS Ah Ae;intro hB;go_wp2;go_meet
  case rel => exact ⟨JY.Du F6.size,hB⟩
 case rest =>
  obtain ⟨hown,hBo⟩:=hcut;have X0:=X1.keep hBo;have HX0:=AA X0;have nR:=bT F6 hBo;have hsl:=Own.sl hown;generalize hLL:p.nodes.map (·.id)++p.AU.map (·.id)++p.faces=LL at *;have HLL:=AA hLL;obtain ⟨A,c,rfl,hn,hc,hR⟩:=hsl;unfold maxLen at hc;have HR:=AA hR;clear hR hown X1 Ak Au Az BA hLL hBo X0;go_wp2_with fail;go_loopw [4] (fun i wr=>∃ k:Nat,k<=LL.length/\i=.int .i64 k/\AP wc wr/\∀ j (hj:j<LL.length),j<k->KA LL[j]=false) (fun i _=>LL.length-(intOf i).toNat)
  case atStart => exact ⟨0,BZ _,rfl,bR wc,fun j _ h=>by omega⟩
  case round =>
   obtain ⟨k,hk,rfl,hb,hno⟩:=hrel;have Hb:=AA hb;have Hno:=AA hno;clear hb hno;by_cases hlt:k<LL.length
   ·obtain ⟨b,o,rfl,hlb,c0⟩:=(HR.out.mono Hb.out).int hlt;by_cases h1:LL[k]<1
    ·have hf:=AA (Ri LL KA k hlt (by simp [KA,h1]));go_wp2;go_ret;exact ⟨C9 (by rw [<- Hq.out,OE,HLL.out,hf.out];rfl),bT nR Hb.out⟩
    ·by_cases h2:1073741824<LL[k]
     ·have hf:=AA (Ri LL KA k hlt (by simp [KA,h2]));go_wp2;go_ret;exact ⟨C9 (by rw [<- Hq.out,OE,HLL.out,hf.out];rfl),bT nR Hb.out⟩
     ·have hg:=AA (show KA LL[k]=false by simp [KA,h1,h2]);go_wp2;go_roundw
      case rel => exact ⟨k+1,AB,BI,Hb.out,all_succ (p:=fun y=>KA y=false) Hno.out hlt hg.out⟩
      case measure => exact BK
   ·have hf:=AA (UA LL KA (fun j hj=>Hno.out j hj AB));have X1:=HX0.out.keep Hb.out
    try clear Ak Au Az BA
    obtain ⟨Ak,Au,Az,BA,-,-,-⟩:=X1.BF;go_wp2_with fail;refine (anu _ p _ (HP.out.mono (bT nR Hb.out)) AB hl4).mono ?_;rintro e w1 ⟨v1,rfl,hb1,hown⟩;have MF:=bT (bT nR Hb.out) hb1;obtain ⟨A1,JW,rfl,hn1,hc1,hR1⟩:=Own.sl hown;unfold maxLen at hc1;have HR1:=AA hR1;generalize tq:Zv p=PP at *;have tu:=AA tq;clear hR1 hown hb1 Ak Au Az BA hlt tq;go_wp2_with fail;go_loopw [6] (fun i wr=>∃ k:Nat,k<=PP.length/\i=.int .i64 k/\AP w1 wr/\∀ j (hj:j<PP.length),j<k->Ik PP[j]=true) (fun i _=>PP.length-(intOf i).toNat)
    case atStart => exact ⟨0,BZ _,rfl,bR w1,fun j _ h=>by omega⟩
    case round =>
     obtain ⟨k,hk,rfl,hb,hno⟩:=hrel;have Hb2:=AA hb;have Rj:=AA hno;clear hb hno;by_cases hlt:k<PP.length
     ·obtain ⟨b,o,rfl,hlb,c0,c1⟩:=(HR1.out.mono Hb2.out).pt hlt;go_wp2_with fail;refine (ank PP[k] _).mono ?_;rintro e w2 ⟨rfl,hb2⟩;have Bw2:AP w1 w2:=bT Hb2.out hb2;clear hb2 c0 c1
      cases hv:Ik PP[k]
      ·have hf2:PP.all Ik=false:=Y3.2 ⟨PP[k],BH hlt,by simp [hv]⟩;have Hf2:=AA hf2;clear hf2;go_wp2;go_ret;exact ⟨C9 (by rw [<- Hq.out,OE,tu.out,Hf2.out,Bool.and_false]),bT MF Bw2⟩
      ·go_wp2;go_roundw
       case rel => exact ⟨k+1,AB,BI,Bw2,all_succ (p:=fun y=>Ik y=true) Rj.out hlt hv⟩
       case measure => exact BK
     ·have hf2:PP.all Ik=true:=JF.2 fun x hx=>by
       obtain ⟨i,hi,rfl⟩:=Dp.1 hx;exact Rj.out i hi AB
      have Hf2:=AA hf2;clear hf2;go_wp2;go_ret;exact ⟨C9 (by rw [<- Hq.out,OE,tu.out,Hf2.out,HLL.out,hf.out];rfl),bT MF Hb2.out⟩
