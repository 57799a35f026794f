import Derived.Test.YtialfdomhoojiaaGreatGC
set_option linter.unusedSimpArgs false
set_option linter.unusedVariables false
set_option maxRecDepth 100000
set_option maxHeartbeats 1000000
namespace Go.Proofs.YtialfdomhoojiaaGreat
open Go.RowKit
def Fe (p:Pl) (M:Nat):Bool:=decide (p.nodes.length<=M/\p.aj.length<=M/\p.faces.length<=M/\(p.aj.flatMap (·.via)).length<=M)
theorem adA (v:Value) (p:Pl) (M:Nat) (w:World) (h:bQ w v p) (hM:M<=1000000) :
  Calls Tryz.prog 36 #[v,.int .i64 M] w fun e w'=>e=.returned (.bool (Fe p M))/\Below w.heap.size w w':=by
 obtain ⟨_,_,_,al,rfl,hpa,⟨An,cn,rfl,hn1,hn2,-⟩,⟨⟨Aa,ca,rfl,ha1,ha2,gV⟩,hV⟩,⟨Af,cf,rfl,hf1,hf2,-⟩⟩:=h;unfold maxLen at hn2 ha2 hf2;have hS:Fe p M=decide (p.nodes.length<=M/\al.length<=M/\p.faces.length<=M/\(al.flatMap (fun a=>a.1.via)).length<=M):=by
  rw [Fe,hpa,List.flatMap_map,avM]
 rw [hS];clear hS hpa;generalize p.nodes.length=nn at *;generalize p.faces.length=nf at *;have HV:=avE hV;clear hV;have jr:=avE gV;clear gV;obtain ⟨q,hq⟩:∃ q,decide (nn<=M/\al.length<=M/\nf<=M/\(al.flatMap (fun a=>a.1.via)).length<=M)=q:=⟨_,rfl⟩;rw [hq];have Hq:=avE hq;clear hq;by_cases hc:nn<=M/\al.length<=M/\nf<=M
 case neg =>
  have hf:=avE (avV (fun e:nn<=M/\al.length<=M/\nf<=M/\(al.flatMap (fun a=>a.1.via)).length<=M=>hc ⟨e.1,e.2.1,e.2.2.1⟩));have Hc:=avE hc;clear hc;by_cases h1:M<nn
  ·go_enter Tryz.func36,Tryz.ntmps36;go_wp2;go_ret;exact ⟨aY (hf.out.symm.trans Hq.out),bA (bR w) _⟩
  ·by_cases h2:M<al.length
   ·go_enter Tryz.func36,Tryz.ntmps36;go_wp2;go_ret;exact ⟨aY (hf.out.symm.trans Hq.out),bA (bR w) _⟩
   ·have h3:M<nf:=by
     rcases Nat.lt_or_ge M nf with h | h
     · exact h
     · exact absurd ⟨by omega,by omega,h⟩ Hc.out
    go_enter Tryz.func36,Tryz.ntmps36;go_wp2;go_ret;exact ⟨aY (hf.out.symm.trans Hq.out),bA (bR w) _⟩
 case pos =>
  obtain ⟨h1,h2,h3⟩:=hc;go_enter Tryz.func36,Tryz.ntmps36;go_wp2_with fail;obtain ⟨W0,hW0⟩:∃ W0:World,W0=w.alloc (.cells #[.slice An nn cn,.slice Aa al.length ca,.slice Af nf cf] 26):=⟨_,rfl⟩;have X1:ah W0 w.heap.size 26 #[.slice An nn cn,.slice Aa al.length ca,.slice Af nf cf]:=by rw [hW0];exact ah.made rfl _ _
  have iq:Below w.heap.size w W0:=by rw [hW0];exact bA (bR w) _
  rw [<- hW0];have HX0:=avE X1;clear hW0 X1;go_loopw [5,6] (fun s i wr=>∃ (k:Nat) (n:Int),k<=al.length/\i=.int .i64 k/\s=.int .i64 n/\0<=n/\n<=2*M+1/\Below W0.heap.size W0 wr/\((n<=M/\(((al.take k).flatMap (fun a=>a.1.via)).length:Int)=n)\/((M:Int)<n/\(M:Int)<((al.take k).flatMap (fun a=>a.1.via)).length))) (fun _ i _=>al.length-(intOf i).toNat)
  case atStart => exact ⟨0,0,avK _,rfl,rfl,by omega,by omega,bR W0,.inl ⟨by omega,by simp⟩⟩
  case round =>
   obtain ⟨k,n,hk,rfl,rfl,hn0,hnm,hb,hinv⟩:=hrel;have Hb:=avE hb;have Nl:=avE hinv;have X1:ah wr w.heap.size 26 #[.slice An nn cn,.slice Aa al.length ca,.slice Af nf cf]:=HX0.out.keep hb;clear hb hinv;obtain ⟨aS,aT,aU,aW,-,-,-⟩:=X1.aF;by_cases hlt:k<al.length
   ·by_cases hnM:n<=M
    ·obtain ⟨b,o,rfl,hlb,c0,c1,c2,c3,c4,c5⟩:=(jr.out.mono (bT iq Hb.out)).ar hlt;obtain ⟨Av,cv,hv,UC,hvm,-⟩:=HV.out k hlt;rw [hv] at c3;clear hv;unfold maxLen at hvm;have ht:((al.take (k+1)).flatMap (fun a=>a.1.via)).length=((al.take k).flatMap (fun a=>a.1.via)).length+al[k].1.via.length:=by
      rw [avH hlt,List.flatMap_append,avL];simp
     have Ht:=avE ht;clear ht;go_wp2_with fail
     all_goals
      go_roundw
      case rel =>
       have ht:=Ht.out;have hi:=Nl.out;refine ⟨k+1,_,by omega,by go_num,rfl,by omega,by omega,Hb.out,?_⟩;rw [ht];omega
      case measure => simp [intOf];omega
    ·have hf:=avE (avV (fun e:nn<=M/\al.length<=M/\nf<=M/\(al.flatMap (fun a=>a.1.via)).length<=M=>by
      have h4:=e.2.2.2;have h5:=PN al (fun a=>a.1.via) k;have:=Nl.out
      omega))
     go_wp2;go_ret;exact ⟨aY (hf.out.symm.trans Hq.out),bT iq Hb.out⟩
   ·have hE:al.take k=al:=List.take_of_length_le Pe;have hi:=Nl.out;rw [hE] at hi;replace Nl:=avE hi;clear hi hE;by_cases hnM:n<=M
    ·have hf:=avE (avW (show nn<=M/\al.length<=M/\nf<=M/\(al.flatMap (fun a=>a.1.via)).length<=M from ⟨h1,h2,h3,by have:=Nl.out;omega⟩));go_wp2;go_ret;exact ⟨aY (hf.out.symm.trans Hq.out),bT iq Hb.out⟩
    ·have hf:=avE (avV (fun e:nn<=M/\al.length<=M/\nf<=M/\(al.flatMap (fun a=>a.1.via)).length<=M=>by
      have h4:=e.2.2.2;have:=Nl.out
      omega))
     go_wp2;go_ret;exact ⟨aY (hf.out.symm.trans Hq.out),bT iq Hb.out⟩
def y8 (l:List Pt):Bool:=(List.range l.length).any fun i=>(l.take i).any fun p=>decide (l[i]? = some p)
theorem Zl (l:List Pt) (i k:Nat) (hk:k<i) (hi:i<l.length) (h:l[i]=l[k]'(by omega)):y8 l=true:=by
 unfold y8;refine awg.2 ⟨i,List.mem_range.2 hi,awg.2 ⟨l[k]'(by omega),?_,?_⟩⟩
 ·rw [avI];exact ⟨k,by rw [awk];omega,by simp⟩
 · rw [avG hi,h];simp
theorem Zm (l:List Pt) (h:∀ i k (hk:k<i) (hi:i<l.length),¬ l[i]=l[k]'(by omega)):y8 l=false:=by
 unfold y8;rw [List.any_eq_false];intro i hi;have hi:=List.mem_range.1 hi;simp only [Bool.not_eq_true];rw [List.any_eq_false];intro p hp;obtain ⟨k,hk,rfl⟩:=avI.1 hp;rw [awk] at hk;have:=h i k Pe hi
 rw [avG hi];simpa using this
theorem aj9 (v:Value) (p:Pl) (w:World) (h:bQ w v p) :
  Calls Tryz.prog 127 #[v] w fun e w'=>e=.returned (.bool (y8 (p.nodes.map (·.pt))))/\Below w.heap.size w w':=by
 obtain ⟨_,va,vf,al,rfl,hpa,⟨An,cn,rfl,hn1,hn2,hR⟩,-,-⟩:=h;unfold maxLen at hn2;generalize p.nodes=l at *;clear hpa;obtain ⟨q,hq⟩:∃ q,y8 (l.map (·.pt))=q:=⟨_,rfl⟩;rw [hq];have Hq:=avE hq;clear hq;have HR:=avE hR;clear hR;go_enter Tryz.func127,Tryz.ntmps127;go_wp2_with fail;obtain ⟨W0,hW0⟩:∃ W0:World,W0=w.alloc (.cells #[.slice An l.length cn,va,vf] 26):=⟨_,rfl⟩;have X1:ah W0 w.heap.size 26 #[.slice An l.length cn,va,vf]:=by rw [hW0];exact ah.made rfl _ _
 have iq:Below w.heap.size w W0:=by rw [hW0];exact bA (bR w) _
 rw [<- hW0];have HX0:=avE X1;clear hW0 X1;go_loopw [3] (fun s wr=>∃ i:Nat,i<=l.length/\s=.int .i64 i/\Below W0.heap.size W0 wr/\∀ j k (hk:k<j) (hj:j<l.length),j<i->¬ l[j].pt=l[k].pt) (fun s _=>l.length-(intOf s).toNat)
 case atStart => exact ⟨0,avK _,rfl,bR W0,fun _ _ _ _ h=>by omega⟩
 case round =>
  obtain ⟨i,hi,rfl,hb,hno⟩:=hrel;have Hb:=avE hb;have Hno:=avE hno;have X1:=HX0.out.keep hb;clear hb hno;obtain ⟨aS,aT,aU,aW,-,-,-⟩:=X1.aF;by_cases hlt:i<l.length
  ·go_wp2_with fail;obtain ⟨wo,rfl⟩:∃ wo:World,wo=wr:=⟨_,rfl⟩;clear X1 aS aT aU aW;go_loopw [4] (fun s wr=>∃ k:Nat,k<=i/\s=.int .i64 k/\Below W0.heap.size W0 wr/\∀ m (hm:m<l.length),m<k->¬ l[i].pt=l[m].pt) (fun s _=>i-(intOf s).toNat)
   case atStart => exact ⟨0,avK _,rfl,Hb.out,fun _ _ h=>by omega⟩
   case round =>
    obtain ⟨k,hk,rfl,hb,CS⟩:=hrel;have Hb2:=avE hb;have vV:=avE CS;have X1:=HX0.out.keep hb;clear hb CS;by_cases hlk:k<i
    ·have hkl:k<l.length:=by omega
     obtain ⟨b,o,rfl,hlb,c0,c1,c2⟩:=(HR.out.mono (bT iq Hb2.out)).nd hlt;obtain ⟨b',o',e,yZ,d0,d1,d2⟩:=(HR.out.mono (bT iq Hb2.out)).nd hkl;simp only [Option.some.injEq,Addr.mk.injEq,and_true] at e;obtain ⟨rfl,rfl⟩:=e
     try clear aS
     try clear aT
     try clear aU
     try clear aW
     obtain ⟨aS,aT,aU,aW,-,-,-⟩:=X1.aF;have q1:0<=(k:Int):=by omega
     have q2:(k:Int)<l.length:=by omega
     have q3:0<=(i:Int):=by omega
     have q4:(i:Int)<l.length:=by omega
     have hE:=yT l[i].pt l[k].pt;by_cases he:l[i].pt=l[k].pt
     ·have hd:decide (l[i].pt=l[k].pt)=true:=avW he;have hf:=avE (Zl (l.map (·.pt)) i k hlk (by simpa using hlt) (by simpa using he));clear he;go_upto_region 7 with fail;refine dH (wr) (.run 13 0 0 (.done)) fun bZ QR aB aH hS=>?_
      iterate 13 refine aC ?_
      refine dB ?_;clear hS aH aB;intro hB;have Bw:Below W0.heap.size W0 wr.drew:=bT Hb2.out hB;clear hB;go_wp2;go_ret;exact ⟨aY (hf.out.symm.trans Hq.out),bT iq Bw⟩
     ·have hd:decide (l[i].pt=l[k].pt)=false:=avV he;have He:=avE he;clear he;go_upto_region 7 with fail;refine dH (wr) (.run 13 0 0 (.done)) fun bZ QR aB aH hS=>?_
      iterate 13 refine aC ?_
      refine dB ?_;clear hS aH aB;intro hB;have Bw:Below W0.heap.size W0 wr.drew:=bT Hb2.out hB;clear hB;go_wp2;go_roundw
      case rel => exact ⟨k+1,by omega,by go_num,Bw,fun m hm hmk=>if e:m<k then vV.out m hm e else by
        have:m=k:=by omega
        subst this;exact He.out⟩
      case measure => simp [intOf];omega
    ·go_wp2;go_roundw
     case rel => exact ⟨i+1,by omega,by go_num,Hb2.out,fun j m hm hj hji=>if e:j<i then Hno.out j m hm hj e else by
       have:j=i:=by omega
       subst this;exact vV.out m Pe Pe⟩
     case measure => simp [intOf];omega
  ·have hf:=avE (Zm (l.map (·.pt)) (fun j m hm hj=>by
    have:=Hno.out j m hm (by simpa using hj) (by rw [avM] at hj;omega)
    simpa using this))
   go_wp2;go_ret;exact ⟨aY (hf.out.symm.trans Hq.out),bT iq Hb.out⟩
theorem Zn (v:Value) (l:List Int) (w:World) (h:Ints w v l) :
  Calls Tryz.prog 124 #[v] w fun e w'=>e=.returned (.bool (sV l))/\Below w.heap.size w w':=by
 obtain ⟨A,c,rfl,hn,hc,hR⟩:=h;unfold maxLen at hc;go_enter Tryz.func124,Tryz.ntmps124;go_wp2_with fail;go_loopw [3] (fun i wr=>∃ m:Nat,i=.int .i64 ((m:Int)+1)/\(m=0\/m+1<=l.length)/\Below w.heap.size w wr/\∀ j (hj:j+1<l.length),j<m->l[j]<l[j+1]) (fun i _=>l.length+1-(intOf i).toNat)
 case atStart => exact ⟨0,rfl,.inl rfl,bR w,fun j _ h=>by omega⟩
 case round =>
  obtain ⟨m,rfl,hm,hb,hno⟩:=hrel;have Hb:=avE hb;have Hno:=avE hno;clear hb hno;by_cases hlt:m+1<l.length
  ·obtain ⟨b,o,rfl,hlb,c1⟩:=(hR.mono Hb.out).int hlt;obtain ⟨b',o',e,yZ,c0⟩:=(hR.mono Hb.out).int (show m<l.length by omega);simp only [Option.some.injEq,Addr.mk.injEq,and_true] at e;obtain ⟨rfl,rfl⟩:=e;have HR:=avE hR;clear hR hm;have q1:IntKind.i64.wrap (m:Int)=m:=avS _ Pe;have q2:0<=(m:Int):=by omega
   have q3:(m:Int)<l.length:=by omega
   have q4:(m:Int)+1<l.length:=by omega
   have q5:0<=(m:Int)+1:=by omega
   have q6:((m:Int)+1).toNat=m+1:=by omega
   go_upto_region 4 with fail;refine dH (wr) (.run 10 0 0 (.done)) fun bZ QR aB aH hS=>?_
   iterate 10 refine aC ?_
   refine dB ?_;clear hS aH aB;intro hB;have Bw:Below w.heap.size w wr.drew:=bT Hb.out hB;clear hB;by_cases hlt2:l[m]<l[m+1]
   ·go_wp2;go_roundw
    case rel => exact ⟨m+1,by go_num,.inr Pe,Bw,fun j hj hjm=>if e:j<m then Hno.out j hj e else by
      have:j=m:=by omega
      subst this;exact hlt2⟩
    case measure => simp [intOf];omega
   ·have hf:=avE (adr l m hlt hlt2);go_wp2;go_ret;exact ⟨aY hf.out.symm,Bw⟩
  ·have hf:=avE (adq l fun j hj=>Hno.out j hj Pe);go_wp2;go_ret;exact ⟨aY hf.out.symm,Hb.out⟩
def qZ (p:Pl):Bool:=!((p.nodes.map (·.id)++p.aj.map (·.id)++p.faces).any mX) && (vU p).all iP
theorem akb (v:Value) (p:Pl) (w:World) (h:bQ w v p) (hl1:p.nodes.length<=4096) (hl2:p.aj.length<=4096) (hl3:p.faces.length<=4096) (hl4:(p.aj.flatMap (·.via)).length<=1048576) :
  Calls Tryz.prog 126 #[v] w fun e w'=>e=.returned (.bool (qZ p))/\Below w.heap.size w w':=by
 have HP:=avE h;obtain ⟨vn,va,vf,al,rfl,hpa,-,-,hF⟩:=h;have HF:=avE hF;clear hF hpa;obtain ⟨q,hq⟩:∃ q,qZ p=q:=⟨_,rfl⟩;rw [hq];have Hq:=avE hq;clear hq;go_enter Tryz.func126,Tryz.ntmps126;go_upto_region 1 with fail;obtain ⟨W0,hW0⟩:∃ W0:World,W0=w.alloc (.cells #[vn,va,vf] 26):=⟨_,rfl⟩;have X1:ah W0 w.heap.size 26 #[vn,va,vf]:=by rw [hW0];exact ah.made rfl _ _
 have iq:Below w.heap.size w W0:=by rw [hW0];exact bA (bR w) _
 rw [<- hW0];clear hW0;obtain ⟨aS,aT,aU,aW,-,-,-⟩:=X1.aF;have HL:=avE (show (p.nodes.map (·.id)).length=p.nodes.length/\(p.aj.map (·.id)).length=p.aj.length from ⟨avM _,avM _⟩);go_cut [3] (fun s wx=>Own wx w.heap.size 3 1 dw s (p.nodes.map (·.id)++p.aj.map (·.id)++p.faces)/\Below W0.heap.size W0 wx)
 case first =>
  refine dH (W0) (.take 0 1 (.take 2 5 (.take 5 37 (.take 6 101 (.call 1 103 (.call 3 111 (.call 4 127 (.call 7 255 (.take 8 511 (.done)))))))))) fun bZ QR aB aH hS=>?_
  iterate 4 refine aC ?_
  refine bK ?_;clear hS;intro K hK ak;go_simp;refine (ady _ p _ (HP.out.mono (bT iq ak.out)) Pe).mono ?_;rintro e cZ ⟨v1,rfl,bW,ho1⟩;have hS:Since W0 cZ:=bT (w:=W0) ak.out bW;clear ak;refine hK.out _ _ hS (fun _=>?_);clear hK K
  try simp only [pu]
  refine bK ?_;clear hS;intro K hK ak;go_simp;refine (adz _ p _ (HP.out.mono (bT iq ak.out)) Pe).mono ?_;rintro e wr2 ⟨v2,rfl,iW,ho2⟩;have hS:Since W0 wr2:=bT (w:=W0) ak.out iW;clear ak;refine hK.out _ _ hS (fun _=>?_);clear hK K
  try simp only [pu]
  refine bK ?_;clear hS;intro K hK ak;refine kW (.tmp 8) (.tmp 10) _ rfl (base:=W0.heap.size) jR jB jT rfl ((ho1.keep iW).fG ars) rfl (Own.sl ho2) (by have:=HL.out;omega) (by have:=HL.out;omega) (Below.size ak.out) ?_;intro v3 wr3 ho3 hg hat;have hS:Since W0 wr3:=bG (w:=W0) ak.out hg (fun g hk=>((ho1.fG (b':=W0.heap.size) ars).lt g hk).1);clear ak;refine hK.out _ _ hS (fun _=>?_);clear hK K
  try simp only [pu]
  refine bK ?_;clear hS;intro K hK ak;refine kW (.tmp 11) (.tmp 13) _ rfl (base:=W0.heap.size) jR jB jT rfl ho3 rfl (HF.out.mono (bT iq ak.out)) (by have:=HL.out;simp only [avL];omega) (by have:=HL.out;simp only [avL];omega) (Below.size ak.out) ?_;intro v4 wr4 jI hg4 UH;have hS:Since W0 wr4:=bG (w:=W0) ak.out hg4 (fun g hk=>(ho3.lt g hk).1);clear ak;refine hK.out _ _ hS (fun _=>?_);clear hK K
  try simp only [pu]
  refine aC ?_;refine dB ?_;clear hS aH aB;intro hB;go_wp2;go_meet
  case rel => exact ⟨jI.fG iq.size,hB⟩
 case rest =>
  obtain ⟨hown,Zo⟩:=hcut;have X0:=X1.keep Zo;have HX0:=avE X0;have Np:=bT iq Zo;have hsl:=Own.sl hown;generalize hLL:p.nodes.map (·.id)++p.aj.map (·.id)++p.faces=LL at *;have Zp:=avE hLL;obtain ⟨A,c,rfl,hn,hc,hR⟩:=hsl;unfold maxLen at hc;have HR:=avE hR;clear hR hown X1 aS aT aU aW hLL Zo X0;go_wp2_with fail;go_loopw [4] (fun i wr=>∃ k:Nat,k<=LL.length/\i=.int .i64 k/\Below wc.heap.size wc wr/\∀ j (hj:j<LL.length),j<k->mX LL[j]=false) (fun i _=>LL.length-(intOf i).toNat)
  case atStart => exact ⟨0,avK _,rfl,bR wc,fun j _ h=>by omega⟩
  case round =>
   obtain ⟨k,hk,rfl,hb,hno⟩:=hrel;have Hb:=avE hb;have Hno:=avE hno;clear hb hno;by_cases hlt:k<LL.length
   ·obtain ⟨b,o,rfl,hlb,c0⟩:=(HR.out.mono Hb.out).int hlt;by_cases h1:LL[k]<1
    ·have hf:=avE (vO LL mX k hlt (by simp [mX,h1]));go_wp2;go_ret;exact ⟨aY (by rw [<- Hq.out,qZ,Zp.out,hf.out];rfl),bT Np Hb.out⟩
    ·by_cases h2:1073741824<LL[k]
     ·have hf:=avE (vO LL mX k hlt (by simp [mX,h2]));go_wp2;go_ret;exact ⟨aY (by rw [<- Hq.out,qZ,Zp.out,hf.out];rfl),bT Np Hb.out⟩
     ·have hg:=avE (show mX LL[k]=false by simp [mX,h1,h2]);go_wp2;go_roundw
      case rel => exact ⟨k+1,by omega,by go_num,Hb.out,all_succ (p:=fun y=>mX y=false) Hno.out hlt hg.out⟩
      case measure => simp [intOf];omega
   ·have hf:=avE (y7 LL mX (fun j hj=>Hno.out j hj Pe));have X1:=HX0.out.keep Hb.out
    try clear aS
    try clear aT
    try clear aU
    try clear aW
    obtain ⟨aS,aT,aU,aW,-,-,-⟩:=X1.aF;go_wp2_with fail;refine (adx _ p _ (HP.out.mono (bT Np Hb.out)) Pe hl4).mono ?_;rintro e w1 ⟨v1,rfl,hb1,hown⟩;have oL:=bT (bT Np Hb.out) hb1;obtain ⟨A1,lQ,rfl,hn1,hc1,hR1⟩:=Own.sl hown;unfold maxLen at hc1;have HR1:=avE hR1;generalize PU:vU p=PP at *;have PV:=avE PU;clear hR1 hown hb1 aS aT aU aW hlt PU;go_wp2_with fail;go_loopw [6] (fun i wr=>∃ k:Nat,k<=PP.length/\i=.int .i64 k/\Below w1.heap.size w1 wr/\∀ j (hj:j<PP.length),j<k->iP PP[j]=true) (fun i _=>PP.length-(intOf i).toNat)
    case atStart => exact ⟨0,avK _,rfl,bR w1,fun j _ h=>by omega⟩
    case round =>
     obtain ⟨k,hk,rfl,hb,hno⟩:=hrel;have Hb2:=avE hb;have vV:=avE hno;clear hb hno;by_cases hlt:k<PP.length
     ·obtain ⟨b,o,rfl,hlb,c0,c1⟩:=(HR1.out.mono Hb2.out).pt hlt;go_wp2_with fail;refine (UE PP[k] _).mono ?_;rintro e w2 ⟨rfl,hb2⟩;have Bw2:Below w1.heap.size w1 w2:=bT Hb2.out hb2;clear hb2 c0 c1
      cases hv:iP PP[k]
      ·have hf2:PP.all iP=false:=List.all_eq_false.2 ⟨PP[k],avF hlt,by simp [hv]⟩;have Zq:=avE hf2;clear hf2;go_wp2;go_ret;exact ⟨aY (by rw [<- Hq.out,qZ,PV.out,Zq.out,Bool.and_false]),bT oL Bw2⟩
      ·go_wp2;go_roundw
       case rel => exact ⟨k+1,by omega,by go_num,Bw2,all_succ (p:=fun y=>iP y=true) vV.out hlt hv⟩
       case measure => simp [intOf];omega
     ·have hf2:PP.all iP=true:=awh.2 fun x hx=>by
       obtain ⟨i,hi,rfl⟩:=avI.1 hx;exact vV.out i hi Pe
      have Zq:=avE hf2;clear hf2;go_wp2;go_ret;exact ⟨aY (by rw [<- Hq.out,qZ,PV.out,Zq.out,Zp.out,hf.out];rfl),bT oL Hb2.out⟩
end Go.Proofs.YtialfdomhoojiaaGreat
