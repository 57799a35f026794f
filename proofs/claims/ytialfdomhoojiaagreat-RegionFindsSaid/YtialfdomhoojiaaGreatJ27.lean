import Derived.Test.YtialfdomhoojiaaGreatJ26
import Derived.Maps.OwnSet
import Derived.Test.YtialfdomhoojiaaGreatRegRF
set_option linter.unusedSimpArgs false
set_option linter.unusedVariables false
set_option maxRecDepth 100000
set_option maxHeartbeats 8000000
namespace Go.Proofs.YtialfdomhoojiaaGreat
open Go.RowKit
theorem alX:∀ w,(Go.sizeOf 3).run Tryz.prog w=.ok 1 w:=fun _=>by kernel_rfl
theorem auq (l:List Int) (n:Int):(MR l n).length<=l.length+1:=by
 unfold MR;split
 · omega
 ·rw [EC,I9];have:=congrArg List.length (aAK (p:=fun y=>decide (y<n)) (l:=l))
  rw [EC] at this;omega
def aki (w:World) (l:List Int) (e:Ending) (w':World):Prop :=
 ∃ A c,e=.returned (.slice A l.length c)/\AP w w'/\Ints w' (.slice A l.length c) l
theorem aur (v:Value) (l:List Int) (n:Int) (w:World) (h:Ints w v l) (hl:l.length<=1000000):Calls Tryz.prog 91 #[v,.int .i64 n] w (aki w (MR l n)):=by
 have aai:=AA (fun W (hW:AP w W)=>ak5 v l n W (h.mono hW));obtain ⟨A,c,rfl,hn,hc,hR⟩:=h;have HC:=AA (show Ints w (.slice A l.length c) l from ⟨A,c,rfl,hn,hc,hR⟩);unfold maxLen at hc;have HR:=AA hR;clear hR
 cases hany:l.any (fun y=>decide (y=n))
 case true =>
  have hw:MR l n=l:=by unfold MR;rw [AZ hany]
  rw [hw];rw [hany] at aai;clear hw hany;go_enter Tryz.func91,Tryz.ntmps91;go_wp2_with fail;refine (aai.out _ (bR w)).mono ?_;rintro e w1 ⟨rfl,hb1⟩;go_wp2;go_ret;exact ⟨A,c,rfl,hb1,HC.out.mono hb1⟩
 have hw:MR l n=l.takeWhile (fun y=>decide (y<n))++n::l.dropWhile (fun y=>decide (y<n)):=by unfold MR;rw [AX (by rw [hany];simp)]
 obtain ⟨q,hq⟩:=BL (MR l n);rw [hq] at hw ⊢;rw [hany] at aai;have Hq:=AA hw;clear hq hw hany;go_enter Tryz.func91,Tryz.ntmps91;go_wp2_with fail;refine (aai.out _ (bR w)).mono ?_;rintro e W0 ⟨rfl,hb0⟩;have HB0:=AA hb0;clear hb0;go_wp2_with fail;go_loopw [5] (fun u wr=>∃ k:Nat,k<=l.length/\u=.int .i64 k/\AP W0 wr/\∀ j (hj:j<l.length),j<k->decide (l[j]<n)=true) (fun u _=>l.length-(intOf u).toNat)
 case atStart => exact ⟨0,BZ _,rfl,bR W0,fun _ _ h=>by omega⟩
 case round =>
  obtain ⟨k,hk,rfl,hb,hno⟩:=hrel;have Hb:=AA hb;have Hno:=AA hno;clear hb hno;have q1:0<=(k:Int):=by omega
  by_cases hgo:∃ hlt:k<l.length,l[k]<n
  case pos =>
   obtain ⟨hlt,hz⟩:=hgo;have q2:(k:Int)<l.length:=by omega
   obtain ⟨b,o,rfl,hlb,c0⟩:=(HR.out.mono (bT HB0.out Hb.out)).int hlt;have Hz:=AA (JE hz);go_wp2;go_roundw
   case rel => exact ⟨k+1,AB,BI,Hb.out,all_succ (p:=fun y=>decide (y<n)=true) Hno.out hlt Hz.out⟩
   case measure => exact BK
  case neg =>
  have he:k=l.length\/∃ hk:k<l.length,decide (l[k]<n)=false:=by
   by_cases h1:k<l.length
   ·right;exact ⟨h1,G8 fun h2=>hgo ⟨h1,h2⟩⟩
   · left;omega
  obtain ⟨ht,hd⟩:=auY (q:=fun y=>decide (y<n)) (fun j hj hjk=>Hno.out j hj hjk) he;have hins:=Hq.out;rw [ht,hd] at hins;have akj:=AA hins;clear hins hgo ht hd;have hrun1:=anI Tryz.underlying24 alX A l.length c k hk hn;have hrun2:=agB Tryz.underlying24 alX A l.length c k hk (k:Int) rfl;have Et:=AA (show Sl w (.slice A k c) (l.take k).length ((l.take k).flatMap D5) from Sl.anJ HC.out k hk);have RH:=AA (show Sl w (.slice (gq A c k 1) (l.length-k) (c-k)) (l.drop k).length ((l.drop k).flatMap D5) from Sl.from_ Gt HC.out k hk);have htl:(l.take k).length<=1000000:=by rw [Ie];omega
  have hdl:(l.drop k).length<=1000000:=by rw [gI];omega
  have Qn:=AA htl;have aAR:=AA hdl;clear htl hdl;have rE:=AA (bT HB0.out Hb.out);have rF:=AA rE.out.size;rcases he with hke | ⟨hkl,hz⟩
  case inl =>
   have q2:¬ (k:Int)<l.length:=by omega
   clear hke;go_upto_region 7 with
    (at_builtin
     refine Ew _ rfl (.tmp 25) (.tmp 28) _ rfl (base:=w.heap.size) IB Gt IK rfl (Own.lit _ _ _ _ D5 [] _ 0 _ rfl rfl rF.out (D6 AB) rfl rfl) rfl (l2:=l.take k) (Et.out.mono (bA rE.out _)) abX abX (by have:=rF.out;simp;omega) ?_;intro v1 w1 ho1 hg1 SI;rw [QD] at ho1;have JZ:=AA ho1;have B1:=AA (show AP w w1 from bG (bA rE.out _) hg1 (fun g hg=>by have h:=Dc hg;have:=rF.out;simp at h;omega));have hz1:w.heap.size<=w1.heap.size:=B1.out.size;clear ho1 hg1 SI)
   refine QK (w.heap.size) (w1) (.take 0 1 (.take 1 3 (.run 3 4 3 (.call 2 119 (.call 3 127 (.call 7 255 (.take 8 511 (.done)))))))) fun Bv QR Ae Ah hS=>?_
   iterate 5 refine Aj ?_
   refine BP ?_;clear hS;intro K hK AQ;go_simp;refine hK.out _ _ (Gj AB AQ.out _) (fun hS=>?_);clear hK K AQ
   try simp only [pu]
   refine BP ?_;clear hS;intro K hK AQ;refine IZ (.tmp 30) (.tmp 32) _ rfl (base:=w.heap.size) IB Gt IK rfl (Own.alloc (JZ.out.keep (bD (bR w1))) _) rfl (l2:=[n]) (Sl.lit (n:=1) (AO.made rfl _ _) rfl (D6 AB)) sW sW DC ?_;intro v2 wr2 ho2 hg2 Tz;have hB2:Below w.heap.size w1 wr2:=Below.grown (Below.alloc (Below.drew (Below.refl _ _)) DC _) hg2 DC (fun g hg=>(JZ.out.lt g hg).1);have hS:Fb (w.heap.size) w1 wr2:=hB2;have HB2:=AA hB2;have EU:=AA ho2;have hz2:w.heap.size<=wr2.heap.size:=Dn hz1 hB2.size;clear ho2 hg2 Tz hB2;clear AQ;refine hK.out _ _ hS (fun _=>?_);clear hK K
   try simp only [pu]
   refine BP ?_;clear hS;intro K hK AQ;refine IZ (.tmp 33) (.tmp 36) _ rfl (base:=w.heap.size) IB Gt IK rfl EU.out rfl (l2:=l.drop k) (RH.out.mono (B1.out.trans HB2.out)) abS abS hz2 ?_;intro v3 wr3 ho3 hg3 Jc;rw [JR,List.singleton_append,<- akj.out] at ho3;have hS:Fb (w.heap.size) w1 wr3:=Below.grown HB2.out hg3 hz2 (fun g hg=>(EU.out.lt g hg).1);obtain ⟨A3,c3,hv3,-,-⟩:=Own.IE ho3;subst hv3;have EI:=AA ho3;clear ho3 hg3 Jc;clear AQ;refine hK.out _ _ hS (fun _=>?_);clear hK K
   try simp only [pu]
   refine Aj ?_;refine KW ?_;clear hS Ah Ae;intro hB;go_wp2;go_ret;exact ⟨A3,c3,rfl,B1.out.trans hB,EI.out.sl⟩
  case inr =>
   have q2:(k:Int)<l.length:=by omega
   obtain ⟨b,o,rfl,hlb,c0⟩:=(HR.out.mono rE.out).int hkl;have q3:¬ l[k]<n:=by simpa using hz
   clear hz;go_upto_region 7 with
    (at_builtin
     refine Ew _ rfl (.tmp 25) (.tmp 28) _ rfl (base:=w.heap.size) IB Gt IK rfl (Own.lit _ _ _ _ D5 [] _ 0 _ rfl rfl rF.out (D6 AB) rfl rfl) rfl (l2:=l.take k) (Et.out.mono (bA rE.out _)) abX abX (by have:=rF.out;simp;omega) ?_;intro v1 w1 ho1 hg1 SI;rw [QD] at ho1;have JZ:=AA ho1;have B1:=AA (show AP w w1 from bG (bA rE.out _) hg1 (fun g hg=>by have h:=Dc hg;have:=rF.out;simp at h;omega));have hz1:w.heap.size<=w1.heap.size:=B1.out.size;clear ho1 hg1 SI)
   refine QK (w.heap.size) (w1) (.take 0 1 (.take 1 3 (.run 3 4 3 (.call 2 119 (.call 3 127 (.call 7 255 (.take 8 511 (.done)))))))) fun Bv QR Ae Ah hS=>?_
   iterate 5 refine Aj ?_
   refine BP ?_;clear hS;intro K hK AQ;go_simp;refine hK.out _ _ (Gj AB AQ.out _) (fun hS=>?_);clear hK K AQ
   try simp only [pu]
   refine BP ?_;clear hS;intro K hK AQ;refine IZ (.tmp 30) (.tmp 32) _ rfl (base:=w.heap.size) IB Gt IK rfl (Own.alloc (JZ.out.keep (bD (bR w1))) _) rfl (l2:=[n]) (Sl.lit (n:=1) (AO.made rfl _ _) rfl (D6 AB)) sW sW DC ?_;intro v2 wr2 ho2 hg2 Tz;have hB2:Below w.heap.size w1 wr2:=Below.grown (Below.alloc (Below.drew (Below.refl _ _)) DC _) hg2 DC (fun g hg=>(JZ.out.lt g hg).1);have hS:Fb (w.heap.size) w1 wr2:=hB2;have HB2:=AA hB2;have EU:=AA ho2;have hz2:w.heap.size<=wr2.heap.size:=Dn hz1 hB2.size;clear ho2 hg2 Tz hB2;clear AQ;refine hK.out _ _ hS (fun _=>?_);clear hK K
   try simp only [pu]
   refine BP ?_;clear hS;intro K hK AQ;refine IZ (.tmp 33) (.tmp 36) _ rfl (base:=w.heap.size) IB Gt IK rfl EU.out rfl (l2:=l.drop k) (RH.out.mono (B1.out.trans HB2.out)) abS abS hz2 ?_;intro v3 wr3 ho3 hg3 Jc;rw [JR,List.singleton_append,<- akj.out] at ho3;have hS:Fb (w.heap.size) w1 wr3:=Below.grown HB2.out hg3 hz2 (fun g hg=>(EU.out.lt g hg).1);obtain ⟨A3,c3,hv3,-,-⟩:=Own.IE ho3;subst hv3;have EI:=AA ho3;clear ho3 hg3 Jc;clear AQ;refine hK.out _ _ hS (fun _=>?_);clear hK K
   try simp only [pu]
   refine Aj ?_;refine KW ?_;clear hS Ah Ae;intro hB;go_wp2;go_ret;exact ⟨A3,c3,rfl,B1.out.trans hB,EI.out.sl⟩
theorem aus (v:Value) (l:List Int) (w:World) (h:Ints w v l) (hl:l.length<=100000):Calls Tryz.prog 34 #[v] w (aki w (Oz l)):=by
 have HW:=AA (@aur);obtain ⟨A,c,rfl,hn,hc,hR⟩:=h;unfold maxLen at hc;have HR:=AA hR;clear hR;go_enter Tryz.func34,Tryz.ntmps34;go_wp2_with fail;go_loopw [3,4] (fun s u wr=>∃ (k:Nat) (m:List Int),k<=l.length/\u=.int .i64 k/\AP w wr/\Oz (l.take k)=m/\m.length<=k/\Ints wr s m) (fun _ u _=>l.length-(intOf u).toNat)
 case atStart => exact ⟨0,[],BZ _,rfl,bA (bR w) _,rfl,DT _,Sl.lit (n:=0) (AO.made rfl _ _) rfl (D6 AB)⟩
 case round =>
  obtain ⟨k,m,hk,rfl,hb,hm,hml,hs⟩:=hrel;have Hb:=AA hb;have Hm:=AA hm;have Hs:=AA hs;obtain ⟨As,cs,rfl,-⟩:=hs;clear hb hm;by_cases hlt:k<l.length
  case neg =>
   have hf:=Hm.out;rw [Hw AB] at hf;have HF:=AA hf;clear hf;go_wp2;go_ret;rw [HF.out];exact ⟨As,cs,rfl,Hb.out,Hs.out⟩
  obtain ⟨b,o,rfl,hlb,c0⟩:=(HR.out.mono Hb.out).int hlt;have TW:=HW.out (.slice As m.length cs) m l[k] wr Hs.out AB;have hst:Oz (l.take (k+1))=MR m l[k]:=by
   rw [En hlt,auZ,Hm.out];rfl
  have DI:=AA hst;have Tc:=AA TW;have hwl:(MR m l[k]).length<=k+1:=by
   have:=auq m l[k]
   omega
  have HWl:=AA hwl;clear TW hst hwl;go_wp2_with fail;refine Tc.out.mono ?_;rintro e w1 ⟨A1,c1,rfl,hb1,hs1⟩;have B1:=AA (bT Hb.out hb1);have S1:=AA hs1;clear hb1 hs1;go_wp2;go_roundw
  case rel => exact ⟨k+1,_,AB,BI,B1.out,DI.out,HWl.out,S1.out⟩
  case measure => exact BK
theorem akk (v u:Value) (l m:List Int) (w:World) (h:Ints w v l) (h':Ints w u m) :
  Calls Tryz.prog 55 #[v,u] w fun e w'=>e=.returned (.bool (decide (l=m)))/\AP w w':=by
 obtain ⟨A,c,rfl,hn,hc,hR⟩:=h;obtain ⟨A',c',rfl,hn',hc',hR'⟩:=h';unfold maxLen at hc hc';by_cases hlen:l.length=m.length
 case neg =>
  have hf:=AA (G8 (fun e:l=m=>hlen (congrArg List.length e)));have hl1:((l.length:Int) != (m.length:Int))=true:=by rw [bne_iff_ne];omega
  have hl2:(l.length != m.length)=true:=by rw [bne_iff_ne];omega
  clear hlen;go_enter Tryz.func55,Tryz.ntmps55;go_wp2;go_ret;exact ⟨C9 hf.out.symm,bR w⟩
 case pos =>
 have hl1:((l.length:Int) != (m.length:Int))=false:=by simp [hlen]
 have hl2:(l.length != m.length)=false:=by simp [hlen]
 have Hlen:=AA hlen;clear hlen;go_enter Tryz.func55,Tryz.ntmps55;go_wp2_with fail;go_loopw [5] (fun i wr=>∃ k:Nat,k<=l.length/\i=.int .i64 k/\AP w wr/\∀ j (hj:j<l.length) (hj':j<m.length),j<k->l[j]=m[j]) (fun i _=>l.length-(intOf i).toNat)
 case atStart => exact ⟨0,BZ _,rfl,bR w,fun j _ _ h=>by omega⟩
 case round =>
  obtain ⟨k,hk,rfl,hb,hno⟩:=hrel;have Hb:=AA hb;have Hno:=AA hno;clear hb hno hl1 hl2;by_cases hlt:k<l.length
  ·have hlt':k<m.length:=by have:=Hlen.out;omega
   obtain ⟨b,o,rfl,hlb,c0⟩:=(hR.mono Hb.out).int hlt;obtain ⟨b',o',rfl,Rz,c0q⟩:=(hR'.mono Hb.out).int hlt';have HR:=AA hR;have HR':=AA hR';clear hR hR';have q1:0<=(k:Int):=by omega
   have q2:(k:Int)<l.length:=by omega
   have q3:(k:Int)<m.length:=by omega
   by_cases he:l[k]=m[k]
   ·have hd:(l[k] != m[k])=false:=by simpa using he
    have He:=AA he;clear he;go_upto_region 6 with fail;refine Cj (wr) (.run 9 0 0 (.done)) fun Bv QR Ae Ah hS=>?_
    iterate 9 refine Aj ?_
    refine Ce ?_;clear hS Ah Ae;intro hB;have Bw:AP w wr.drew:=bT Hb.out hB;clear hB;go_wp2;go_roundw
    case rel => exact ⟨k+1,AB,BI,Bw,fun j hj hj' hjk=>if e:j<k then Hno.out j hj hj' e else by
      have:j=k:=by omega
      subst this;exact He.out⟩
    case measure => exact BK
   ·have hd:(l[k] != m[k])=true:=by simpa using he
    have He:=AA he;clear he;go_upto_region 6 with fail;refine Cj (wr) (.run 9 0 0 (.done)) fun Bv QR Ae Ah hS=>?_
    iterate 9 refine Aj ?_
    refine Ce ?_;clear hS Ah Ae;intro hB;have Bw:AP w wr.drew:=bT Hb.out hB;clear hB;go_wp2;go_ret;exact ⟨C9 (G8 (agQ k hlt hlt' He.out)).symm,Bw⟩
  ·have hf:=AA (JE (agP Hlen.out fun j hj=>Hno.out j hj (by have:=Hlen.out;omega) AB));go_wp2;go_ret;exact ⟨C9 hf.out.symm,Hb.out⟩
def Ls (w:World) (b:Nat) (S:List Int):Prop :=
 ∃ D:DataW Unit,w.ownsMap Tryz.prog 3 aAZ b S.length D/\Maps.size D=S.length/\(∀ id,D.atKey (.int .i64 id) (UR false)=UR (decide (id∈S)))/\∀ id,Maps.has D (.int .i64 id)=decide (id∈S)
theorem Ls.kept {w w':World} {b:Nat} {S:List Int} (h:Ls w b S) {row:Option Nat} (hg:w.grownBy w' row) (hr:some b≠row):Ls w' b S:=by
 obtain ⟨D,h1,h2⟩:=h;exact ⟨D,h1.kept hg hr,h2⟩
theorem Ls.keep {w w':World} {b:Nat} {S:List Int} (h:Ls w b S) (hb:AP w w'):Ls w' b S :=
 h.kept (row:=none) ⟨hb.os,hb.tape,hb.output,hb.size,fun i hi _=>hb.block i hi⟩ Aw
theorem Ls.lt {w:World} {b:Nat} {S:List Int} (h:Ls w b S):b<w.heap.size:=by
 obtain ⟨D,h1,h2⟩:=h;exact h1.lt
theorem Ls.made (w:World):Ls (w.alloc (.map #[] 0)) w.heap.size [] :=
 ⟨.map [],World.ownsMap_made _ _ _ _,rfl,fun _=>rfl,fun _=>rfl⟩
theorem Ls.look {w:World} {b:Nat} {S:List Int} (h:Ls w b S) (id:Int) (hid:ES id) :
  (Instr.lookup 139 (.map (some b)) (.int .i64 id) false).run Tryz.prog w=.ok (.bool (decide (id∈S))) w:=by
 obtain ⟨D,h1,-,h2,-⟩:=h;obtain ⟨v,ps,hr,hv⟩:=h1.lookup Vo Tryz.underlying139 (agI w) (zd:=UR false) (zp:=[]) rfl (Maps.keyOf_int_mk Tryz.underlying3 hid);rw [h2] at hv;rw [hr,agH hv]
theorem Ls.len {w:World} {b:Nat} {S:List Int} (h:Ls w b S) (ty:TypeId) :
  (Builtin.len_ #[139] ty #[.map (some b)]).run Tryz.prog w=.ok (.int .i64 S.length) w:=by
 obtain ⟨D,h1,h2,-⟩:=h;rw [h1.len Tryz.underlying139 ty,h2]
theorem Ls.upd {w:World} {b:Nat} {S:List Int} (h:Ls w b S) (hn:S.length<4294967296) (id:Int) (hid:ES id) (hx:id∉S) :
  ∃ w',(Instr.mapUpdate 139 (.map (some b)) (.int .i64 id) (.bool true)).run Tryz.prog w=.ok () w'/\Ls w' b (S++[id])/\w.grownBy w' (some b):=by
 obtain ⟨D,h1,h2,h3,h4⟩:=h;have ht:=h1.tidy Vo;obtain ⟨w',hr,ho,hg⟩:=h1.update Vo Tryz.underlying139 tC (Maps.keyOf_int_mk Tryz.underlying3 hid) (val:=.bool true) (d:=UR true) (ps:=[]) rfl;refine ⟨w',hr,⟨_,by rw [EC];exact ho,?_,fun i=>?_,fun i=>?_⟩,hg⟩
 · rw [Maps.size_put ht,h4,G8 hx,h2,EC];rfl
 ·by_cases e:i=id
  ·subst e;rw [Maps.atKey_put_same ht.isMap (by trivial),JE Aw]
  ·rw [Maps.atKey_put_other (fun h=>e (by injection h)),h3];congr 1;simp [e]
 ·by_cases e:i=id
  ·subst e;rw [Maps.has_put_same ht.isMap (by trivial),JE Aw]
  ·rw [Maps.has_put_other (fun h=>e (by injection h)),h4];simp [e]
theorem aen {w:World} {gm:Nat} {S:List Int} (h:Ls w gm S) {g:Nat} {t:TypeId} {cs:Array Value} (hg:AO w g t cs):g≠gm:=by
 rintro rfl;obtain ⟨D,h1,-⟩:=h;obtain ⟨es,clock,h2,-⟩:=h1;unfold AO at hg;rw [hg] at h2
 cases h2
theorem akl {w:World} {gm:Nat} {S:List Int} (h:Ls w gm S) {base:Nat} {e:TypeId} {size:Nat} {α:Type} {fe:α->List Value} {v:Value} {l:List α} (ho:Own w base e size fe v l):v.ownBlock≠some gm:=by
 rcases ho.2 with ⟨rfl,_⟩ | ⟨g,cap,cur,rfl,_,hh,_⟩
 · simp [Value.ownBlock]
 ·intro e';exact aen h (cs:=cur) (g:=g) hh sV
def Nz (p:Pl) (O:List (List Int)) (k:Nat):List Int:=(List.range k).map (GI p O)
theorem U1 (p:Pl) (O:List (List Int)) (k:Nat):(Nz p O k).length=k:=by unfold Nz;simp
theorem aut (p:Pl) (O:List (List Int)) (k:Nat):Nz p O (k+1)=Nz p O k++[GI p O k]:=by unfold Nz;rw [Zf,GL];rfl
theorem FX.aaj {p:Pl} {L:List AD} {O:List (List Int)} {N:List Nd} (h:FX p L O (J8 p) N) {i:Nat} (hi:i<L.length):(MQ L[i]).map (·.1)=MP p O i:=by
 have hl:=h.len;unfold MQ MP Jq aj;rw [Ez,h.inn i hi];congr 1;by_cases e:i=0
 · subst e;exact h.akX hi
 ·show L[i].out=_
  rw [h.aP hi AB,Ut AB AB];rfl
section
variable {p:Pl} (h:Valid p)
include h
theorem Valid.aeo {O:List (List Int)} (hO:∀ X∈O,X∈Bj p) {i:Nat} {c:List Int} (hc:c∈MP p O i) {d:Int} (hd:d∈c):d∈BU p:=by
 unfold MP Jq at hc;rcases EJ.1 hc with rfl | hc
 ·unfold Lp at hd;split at hd
  · cases hd
  · cases e:O[i-1]? with
   | none=>rw [e] at hd;cases hd
   | some X =>
    rw [e] at hd;exact (h.Gy (Nl.1 (hO X (abC e))).1).2 d hd
 ·have:=QF.1 hc
  exact (h.Gy (iD.1 this.1).1).2 d hd
end
def auu (w:World) (p:Pl) (O:List (List Int)) (e:Ending) (w':World):Prop :=
 ∃ A n c,e=.returned (.tuple #[.slice A n c,.bool (NP p)])/\AP w w'/\(NP p=true->Own w' w.heap.size 3 1 D5 (.slice A n c) (Nz p O (O.length+1)))
theorem akm {p:Pl} {O:List (List Int)} (hO:O.Perm (Bj p)) {k:Nat} (hk:k<=O.length) (h:(1<=k/\GI p O k=0)\/(1<=k/\GI p O k∈GK p O k)\/∃ c∈MP p O k,∃ d∈c,Es p d≠GI p O k):NP p=false:=by
 rw [<- Iz,aeG hO];rintro ⟨hu,-⟩;rcases h with ⟨h1,h⟩ | ⟨h1,h⟩ | ⟨c,hc,d,hd,h⟩
 · exact hu.some k h1 AB h
 ·obtain ⟨i,h2,h3,h4⟩:=aeE.1 h;exact hu.differ i k h2 h3 AB h4
 · exact h (hu.sides k AB c hc d hd)
theorem auv (v vl:Value) (p:Pl) (L:List AD) (O:List (List Int)) (N:List Nd) (w:World) (h:Cb w v p) (hv:Valid p) (hl:Nw w vl L) (hd:FX p L O (J8 p) N) (hO:O.Perm (Bj p)) :
  Calls Tryz.prog 108 #[v,vl] w (auu w p O):=by
 have Ux:=AA (fun d (hd:ES d) W (hW:AP w W)=>apm v p d W (h.mono hW) hv.short.long hd);have HV:=AA hv;have HL:=AA hl;have HD:=AA hd;have akn:=hd.len;have hol:O.length<=512:=by
  rw [hO.length_eq];exact Dn (LY _ _) hv.QY
 have HSub:=AA hO.subset;have wQ:1<=L.length/\L.length<=513:=by omega
 have JG:=AA akn;have aA8:=AA (fun i c (hc:c∈MP p O i) d (hd:d∈c)=>hv.aeo (fun X hX=>hO.subset hX) hc hd);have aac:=AA (fun d (hd:d∈BU p)=>show ES d from KU su su);have Lr:=AA (fun i (hi:i<L.length)=>hd.aaj hi);have Hg:=AA (fun k (hk:k<=O.length)=>akm hO (k:=k) hk);have ako:=AA (aeG hO);have Ny:=AA (fun i (hi:i<L.length)=>show L[i].inn.length<=512 from by
  have:=congrArg List.length (hd.inn i hi)
  rw [Cm] at this;rw [this];refine Dn (LY _ _) ?_;exact Dn (LY _ _) hv.QY)
 have HSb:=AA (fun d=>hv.atL d);obtain ⟨Al,cl,rfl,hl1,hl2,hRl⟩:=hl.sl;obtain ⟨_,_,_,al,rfl,hpa,⟨An,cn,rfl,-⟩,⟨⟨Aa,ca,rfl,-⟩,-⟩,⟨Af,cf,rfl,-⟩⟩:=h;unfold maxLen at hl2;have hff:p.faces.length<=64:=(lu hv.lim).2.2.2.1;have HRl:=AA hRl;generalize p.nodes.length=nn at *;generalize al.length=na at *;obtain ⟨nf,hnf⟩:=BL p.faces.length;rw [hnf] at hff ako Ux ⊢;have HNf:=AA hnf;clear hpa hRl hv hl hd hnf akn;have hmm:=@run_makeMap Tryz.prog;go_enter Tryz.func108,Tryz.ntmps108;go_upto_region 2 with fail;obtain ⟨gm,hgm⟩:=BO (w.heap.size+1);obtain ⟨W1,hW⟩:∃ W:World,W=(w.alloc (.cells #[.slice An nn cn,.slice Aa na ca,.slice Af nf cf] 26)).alloc (.map #[] 0):=⟨_,rfl⟩;have X1:AO W1 w.heap.size 26 #[.slice An nn cn,.slice Aa na ca,.slice Af nf cf]:=by rw [hW];exact (AO.made rfl _ _).alloc _
 have OM:=AA (show Ls W1 gm [] by
  have:=Ls.made (w.alloc (.cells #[.slice An nn cn,.slice Aa na ca,.slice Af nf cf] 26))
  rw [hW,hgm];simpa using this)
 have HB1:=AA (show AP w W1 by rw [hW];exact bA (bA (bR w) _) _);have hgl:w.heap.size<gm:=by omega
 rw [<- hW,<- hgm];clear hW hgm hmm;have D9:=AA X1;clear X1;go_upto_block 0 with fail;go_wp2_with fail;go_loopw [4,17] (fun s i wr=>∃ k:Nat,k<=L.length/\i=.int .i64 k/\(∃ A c,s=.slice A k c)/\Own wr w.heap.size 3 1 D5 s (Nz p O k)/\Ls wr gm (GK p O k)/\Oy p O k/\AO wr w.heap.size 26 #[.slice An nn cn,.slice Aa na ca,.slice Af nf cf]/\AP w wr) (fun _ i _=>L.length-(intOf i).toNat)
 case atStart => exact ⟨0,BZ _,rfl,⟨_,_,rfl⟩,Own.nil _ _ _ _ _,OM.out,Oy.zero p O,D9.out,HB1.out⟩
 case round =>
  clear D9 OM HB1;obtain ⟨k,hk,rfl,⟨A,c,rfl⟩,ho,hm,hu,X1,hb⟩:=hrel;obtain ⟨wo,rfl⟩:=BO wr;have HO:=AA ho;have HM:=AA hm;have HU:=AA hu;have HX:=AA X1;have Hb:=AA hb;have hfl:=U1 p O k;have hsl:=aCv p O k;have auw:=hm.lt;clear ho hm hu hb;by_cases hlt:k<L.length
  ·have hko:k<=O.length:=by have:=JG.out;omega
   obtain ⟨b,o,rfl,hlb,c0,c1,c2,c3⟩:=(HRl.out.mono Hb.out).ad hlt;have hcy:=Lr.out k hlt;have hcl:=Ny.out k hlt;have hout:=HL.out.out _ (BH hlt);have Iu:=HL.out.inn _ (BH hlt);have P5:=HL.out.Gi _ (BH hlt);have hfc:1<=k->L[k].out≠[]/\GI p O k=Es p (L[k].out.headD 0):=fun h1=>by
    have e1:=HD.out.aP hlt h1;have hX:O[k-1]'(by omega)∈O:=BH _;rw [e1];exact ⟨HV.out.Wh (Nl.1 (HSub.out hX)).1,ZH h1 hko⟩
   generalize L[k]=x at *;obtain ⟨tw,out,⟨oa,on,oc⟩,inn,⟨ia,FY,ic⟩,CU,⟨aa,an,ac⟩⟩:=x;unfold BJ at c1 c2 c3 hout Iu;simp only at c0 c1 c2 c3 hout Iu hcy P5 hcl hfc;obtain ⟨fc,ZU⟩:=BL (GI p O k);have ql:=AA (aut p O k);have rG:=AA (fun h=>ajn p O (k:=k) h);rw [ZU] at hfc ql rG;have SX:=AA ZU;have yj:=AA hcy;have aep:=AA hout;have G7:=AA Iu;have dY:=AA P5;have HFh:=AA hfc;clear hcy hout Iu P5 hfc ZU;have hfb:0<=fc/\fc<=1073741824:=by
    rw [<- SX.out];unfold GI KH;split
    · omega
    · exact HSb.out _
   have hf0:k=0->fc=0:=fun e=>by rw [<- SX.out,e];rfl
   have hwf:ES fc:=KU AB AB;have lT:=AA hwf;clear hwf;go_upto_region 5 with fail;obtain ⟨W2,hW⟩:∃ W:World,W=wo.alloc (.cells #[.int .i64 tw,.slice oa on oc,.slice ia FY ic,.slice aa an ac] 82):=⟨_,rfl⟩;have hA:AP wo W2:=by rw [hW];exact bA (bR wo) _
   have X5:AO W2 wo.heap.size 82 #[.int .i64 tw,.slice oa on oc,.slice ia FY ic,.slice aa an ac]:=by rw [hW];exact AO.made rfl _ _
   replace X1:=X1.keep hA;have EU:=AA (HO.out.keep hA);have CG:=AA X1;have D8:=AA X5;have QN:=AA (HM.out.keep hA);have HB2:=AA (bT Hb.out hA);have akp:=AA (aep.out.mono (bT Hb.out hA));have hz2:=Hb.out.size;rw [<- hW];clear hW hA HO HM HX Hb c0 c1 c2 c3 hlb;obtain ⟨g5,hg5⟩:=BL wo.heap.size;rw [hg5] at D8 X5 hz2 auw ⊢;clear hg5;have hS0:k=0->GK p O (k+1)=GK p O k:=fun e=>by subst e;rfl
   have Ui:=AA hS0;clear hS0;have hkn:O.length<=512:=hol;go_upto_if 23 with fail;go_cut [9,4,5] (fun f s q wx=>f=.int .i64 fc/\s=.slice A k c/\Ls wx gm (GK p O (k+1))/\Own wx w.heap.size 3 1 D5 (.slice A k c) (Nz p O k)/\AO wx w.heap.size 26 #[.slice An nn cn,.slice Aa na ca,.slice Af nf cf]/\AO wx g5 82 #[.int .i64 tw,.slice oa on oc,.slice ia FY ic,.slice aa an ac]/\AP w wx/\(1<=k->fc≠0/\fc∉GK p O k))
   case first =>
    rcases VF k with h0 | h0
    ·have e1:=hf0 h0;have hk0:¬ (0:Int)<(k:Int):=by omega
     have PW:=QN.out;rw [<- Ui.out h0] at PW;have Px:=AA PW;have HE:=AA e1;clear PW e1 hf0 h0 X1 X5;go_wp2;go_meet
     case rel => exact ⟨by rw [HE.out],rfl,Px.out,EU.out,CG.out,D8.out,HB2.out,fun h=>by omega⟩
    ·have hk0:(0:Int)<(k:Int):=by omega
     obtain ⟨hne,hfe⟩:=HFh.out h0;have hkl:0<out.length:=fV.2 hne;have hhd:out.headD 0=out[0]:=by
      cases out with
      | nil=>exact absurd rfl hne
      | cons d l'=>rfl
     rw [hhd] at hfe;obtain ⟨Ao,co,hel,-,-,aCy⟩:=akp.out;injection hel with y1 y2 y3;subst y1 y2 y3;obtain ⟨bl,ol,jl,jm,d0⟩:=(aCy).int hkl;subst jl;simp only [VJ] at d0;have kz:(0:Int)<out.length:=by omega
     have kn:¬ out=[]:=hne;have hmem:out[0]∈BU p:=aA8.out k out (by rw [<- yj.out];exact Ea) _ (BH hkl);have OI:=AA (fun W (hW:AP w W)=>Ux.out out[0] (aac.out _ hmem) W hW);generalize out[0]=dd at *;rw [<- hfe] at OI;have KI:=AA (Hg.out k hko);rw [SX.out] at KI;have HSk:=AA (rG.out h0);clear hhd hfe hmem aCy hf0;obtain ⟨Ak,Au,Az,BA,-,-,-⟩:=X1.BF;obtain ⟨CJ,CO,CS,G6,UF,-,-,-,-⟩:=X5.MC;go_upto_region 7 with fail;refine Cj (W2) (.run 5 0 0 (.call 5 63 (.take 6 127 (.done)))) fun Bv QR Ae Ah hS=>?_
     iterate 5 refine Aj ?_
     refine FD (OI.out _ (bT HB2.out hS)) ?_;clear hS;intro Bq Bf hS;refine Aj ?_;refine Ce ?_;clear hS Ah Ae;intro hB;have HB3:=AA (bT HB2.out hB);have EI:=AA (EU.out.keep hB);have Ep:=AA (CG.out.keep hB);have ZN:=AA (D8.out.keep hB);have Px:=AA (QN.out.keep hB);clear hB X1 Ak Au Az BA X5 CJ CO CS G6 UF d0 Bf QN EU CG D8 HB2 jm kz kn OI;by_cases z:fc=0
     ·have z1:(fc == 0)=true:=by simpa using z
      have hf:=KI.out (.inl ⟨h0,z⟩);have HF:=AA hf;clear z hf;go_wp2_with fail;go_ret2;exact ⟨none,0,0,by rw [HF.out];rfl,HB3.out,fun e=>by rw [HF.out] at e;cases e⟩
     ·have z1:(fc == 0)=false:=by simpa using z
      have hlk:=Px.out.look fc lT.out;by_cases z2:fc∈GK p O k
      ·have hf:=KI.out (.inr (.inl ⟨h0,z2⟩));have HF:=AA hf;rw [JE z2] at hlk;clear z hf z2;go_wp2_with fail;go_ret2;exact ⟨none,0,0,by rw [HF.out];rfl,HB3.out,fun e=>by rw [HF.out] at e;cases e⟩
      ·rw [G8 z2] at hlk;obtain ⟨w6,hr6,Xa,JB⟩:=Px.out.upd AB fc lT.out z2;rw [<- HSk.out] at Xa;have Ul:=AA Xa;have HZ:=AA (show fc≠0/\fc∉GK p O k from ⟨z,z2⟩);have ML:=AA (Own.grown EI.out JB (fun g hg e=>akl Px.out EI.out (by rw [hg,e])));have IV:=AA (AO.grown Ep.out JB (fun e=>aen Px.out Ep.out (Dc e)));have afR:=AA (AO.grown ZN.out JB (fun e=>aen Px.out ZN.out (Dc e)));have Eb:=AA (bG HB3.out JB (fun g hg=>by have:=Dc hg;omega));clear Xa JB z z2;go_wp2;go_meet
       case rel => exact ⟨rfl,rfl,Ul.out,ML.out,IV.out,afR.out,Eb.out,fun _=>HZ.out⟩
   case rest =>
    obtain ⟨rfl,rfl,PW,ho3,X1,X5,hb3,hzz⟩:=hcut;have Px:=AA PW;have EI:=AA ho3;have Ep:=AA X1;have ZN:=AA X5;have HB3:=AA hb3;have HZ:=AA hzz;have Sr:=aeK ⟨tw,out,⟨oa,on,oc⟩,inn,⟨ia,FY,ic⟩,CU,⟨aa,an,ac⟩⟩ wc (G7.out.mono hb3) (by show inn.length<=100000;omega);have zl:(MQ ⟨tw,out,⟨oa,on,oc⟩,inn,⟨ia,FY,ic⟩,CU,⟨aa,an,ac⟩⟩).length<=513:=by show inn.length+1<=513;omega
    have hcr:∀ y∈MQ ⟨tw,out,⟨oa,on,oc⟩,inn,⟨ia,FY,ic⟩,CU,⟨aa,an,ac⟩⟩,Ints w (BJ y.2) y.1:=fun y hy=>by
     rcases EJ.1 hy with rfl | hy
     · exact aep.out
     · exact dY.out y hy
    have hck:=yj.out;unfold BJ at Sr;simp only at Sr;generalize MQ ⟨tw,out,⟨oa,on,oc⟩,inn,⟨ia,FY,ic⟩,CU,⟨aa,an,ac⟩⟩=CY at *;have dL:=AA Sr;have SS:=AA hcr;have HDy:=AA (fun q (hq:q<CY.length) d (hd:d∈CY[q].1)=>aA8.out k CY[q].1 (by rw [<- hck];exact Gs (BH hq)) d hd);have HMy:=AA (fun q (hq:q<CY.length)=>show CY[q].1∈MP p O k from by rw [<- hck];exact Gs (BH hq));have afG:=AA (fun (h:∀ q (hq:q<CY.length),∀ d∈CY[q].1,Es p d=fc)=>show ∀ c∈MP p O k,∀ d∈c,Es p d=GI p O k from fun c hc d hd=>by
     rw [<- hck] at hc;obtain ⟨y,hy,rfl⟩:=EM.1 hc;obtain ⟨q,hq,rfl⟩:=Dp.1 hy;rw [SX.out];exact h q hq d hd)
    have KI:=AA (Hg.out k hko);rw [SX.out] at KI;clear PW ho3 hb3 hzz QN EU CG D8 HB2 Sr hcr hck akp yj aep G7 dY HFh hf0 Ui rG
    try clear CJ CO CS G6 UF
    obtain ⟨CJ,CO,CS,G6,UF,-,-,-,-⟩:=X5.MC;go_wp2_with fail;refine dL.out.mono ?_;rintro e w3 ⟨⟨A2,c2,rfl,ho2⟩,hb4⟩;have HB4:=AA (bT HB3.out hb4);have JA:=AA (EI.out.keep hb4);have DJ:=AA (Ep.out.keep hb4);have jC:=AA (Px.out.keep hb4);have HR4:=AA ho2.row_of;have ji:=hb4.size;clear ho2 hb4 HB3 EI Ep ZN Px X1 X5 CJ CO CS G6 UF dL;go_upto_block 2 with fail;go_wp2_with fail;go_loopw [4,42] (fun s i wr=>s=.slice A k c/\∃ j:Nat,j<=CY.length/\i=.int .i64 j/\(∀ q (hq:q<CY.length),q<j->∀ d∈CY[q].1,Es p d=fc)/\AP w3 wr) (fun _ i _=>CY.length-(intOf i).toNat)
    case atStart => exact ⟨rfl,0,BZ _,rfl,(fun q _ h=>by omega),bR w3⟩
    case round =>
     obtain ⟨rfl,j,hj,rfl,hall,hb5⟩:=hrel;have OJ:=AA hall;have CW:=AA hb5;clear hall hb5;by_cases hlj:j<CY.length
     ·obtain ⟨b,o,rfl,hlb,c0⟩:=(HR4.out.mono CW.out).cy hlj;have hin:=(SS.out CY[j] (BH hlj)).mono (bT HB4.out CW.out);have hdy:=HDy.out j hlj;have Vs:=AA (HMy.out j hlj);have KD:=AA (fun (h:∀ d∈CY[j].1,Es p d=fc)=>all_succ (p:=fun y:List Int×SV=>∀ d∈y.1,Es p d=fc) OJ.out hlj h);generalize CY[j]=x at *;obtain ⟨X,xa,xn,xc⟩:=x;unfold BJ at hin;simp only at hin c0 hdy Vs KD;obtain ⟨Ax,cx,he,hx1,hx2,kD⟩:=hin;injection he with y1 y2 y3;subst y1 y2 y3;unfold maxLen at hx2;have hxl:X.length<=9223372036854775807:=by omega
      have HRx:=AA kD;have HDx:=AA hdy;clear kD hdy;obtain ⟨wq,rfl⟩:=BO wr;go_upto_block 4 with fail;clear c0 hlb;go_wp2_with fail;go_loopw [4,48] (fun s i wr=>s=.slice A k c/\∃ m:Nat,m<=X.length/\i=.int .i64 m/\(∀ q (hq:q<X.length),q<m->Es p X[q]=fc)/\AP wq wr) (fun _ i _=>X.length-(intOf i).toNat)
      case atStart => exact ⟨rfl,0,BZ _,rfl,(fun q _ h=>by omega),bR wq⟩
      case round =>
       obtain ⟨rfl,m,hmm,rfl,hall,hb6⟩:=hrel;have akq:=AA hall;have Eb:=AA hb6;have EY:=AA (bT HB4.out (bT CW.out hb6));clear hall hb6;by_cases hlm:m<X.length
       ·obtain ⟨b2,o2,rfl,aBi,e0⟩:=(HRx.out.mono Eb.out).int hlm;have hdm:=HDx.out X[m] (BH hlm);have OI:=AA (fun W (hW:AP w W)=>Ux.out X[m] (aac.out _ hdm) W hW);have NK:=AA (fun (h:Es p X[m]≠fc)=>KI.out (.inr (.inr ⟨X,Vs.out,X[m],BH hlm,h⟩)));have HYm:=AA (fun (h:Es p X[m]=fc)=>all_succ (p:=fun d=>Es p d=fc) akq.out hlm h);generalize X[m]=dd at *;obtain ⟨sd,hsd⟩:=BL (Es p dd);rw [hsd] at OI NK HYm;have X1:=DJ.out.keep (bT CW.out Eb.out);clear hsd hdm
        try clear Ak Au Az BA
        obtain ⟨Ak,Au,Az,BA,-,-,-⟩:=X1.BF;go_wp2_with fail;refine (OI.out _ EY.out).mono ?_;rintro e w7 ⟨rfl,hb7⟩;have Jf:=AA (bT Eb.out hb7);have auy:=AA (bT EY.out hb7);clear hb7 X1 Ak Au Az BA e0 aBi OI;by_cases z:sd=fc
        ·have z1:(sd != fc)=false:=by simpa using z
         have HYz:=AA (HYm.out z);clear z;go_wp2;go_roundw
         case rel => exact ⟨rfl,m+1,AB,BI,HYz.out,Jf.out⟩
         case measure => exact BK
        ·have z1:(sd != fc)=true:=by simpa using z
         have HF:=AA (NK.out z);clear z;go_wp2_with fail;go_ret2;exact ⟨none,0,0,by rw [HF.out];rfl,auy.out,fun e=>by rw [HF.out] at e;cases e⟩
       ·have hmx:m=X.length:=by omega
        have HNz:=AA (KD.out fun d hd=>by
         obtain ⟨q,hq,rfl⟩:=Dp.1 hd;exact akq.out q hq AB)
        clear hmx;go_wp2;go_roundw
        case rel => exact ⟨rfl,j+1,AB,BI,HNz.out,bT CW.out Eb.out⟩
        case measure => exact BK
     ·have hjx:j=CY.length:=by omega
      have HUk:=AA (HU.out.succ (fun h=>by rw [SX.out];exact (HZ.out h).1) (fun h=>by rw [SX.out];exact (HZ.out h).2) (afG.out fun q hq=>OJ.out q hq AB));have D8:=AA (DJ.out.keep CW.out);have Fh:=AA (JA.out.keep CW.out);have TV:=AA (jC.out.keep CW.out);have akr:=AA (bT HB4.out CW.out);have n1:=Own.Dz Fh.out D8.out BG;have n2:=akl TV.out Fh.out;have aks:=U1 p O (k+1);clear hjx DJ JA jC HB4 HR4;go_upto_region 22 with
       (at_builtin
        refine Ew _ rfl (.tmp 59) (.tmp 61) _ rfl (base:=w.heap.size) IB Gt IK rfl (Own.alloc Fh.out _) rfl (l2:=[fc]) (Sl.lit (n:=1) (AO.made rfl _ _) rfl (D6 AB)) DR DR (by have:=akr.out.size;simp;omega) ?_;intro v8 w8 XU Nv xX;rw [<- ql.out] at XU;obtain ⟨A8,c8,hv8,-⟩:=Own.IE XU;rw [aks] at hv8;subst hv8;have jW:=AA XU;have aa0:=AA ((TV.out.keep (bA (bR wr) _)).kept Nv (fun e=>n2 e.symm));have Yr:=AA (AO.grown (D8.out.alloc _) Nv (fun e=>n1 e.symm));have RS:=AA (bG (bA akr.out _) Nv (fun g hg=>(Fh.out.lt g hg).1));clear XU Nv xX
        )
      clear n1 n2 aks;go_wp2;go_roundw
      case rel => exact ⟨k+1,AB,BI,⟨A8,c8,rfl⟩,jW.out,aa0.out,HUk.out,Yr.out,RS.out⟩
      case measure => exact BK
  ·have hkk:k=L.length:=by omega
   have aer:O.length+1=k:=by have:=JG.out;omega
   have hlen:=fun ty=>(HM.out.keep (bD (bR wo))).len ty;have hres:NP p=(((GK p O k).length:Int) == (nf:Int)):=by
    have hy:=ako.out;rw [aer] at hy;rw [LX,hy,hsl];constructor
    · rintro ⟨-,e⟩;simp;omega
    · intro e;simp at e;exact ⟨HU.out,AB⟩
   have ho:=HO.out;have RJ:=AA (show Own wo w.heap.size 3 1 D5 (.slice A k c) (Nz p O (O.length+1)) by rw [aer];exact ho);have rH:=AA hres;generalize GK p O k=S at *;clear hres ho hkk aer hsl
   try clear Ak Au Az BA
   obtain ⟨Ak,Au,Az,BA,-,-,-⟩:=X1.BF;go_upto_region 23 with fail;refine Cj (wo) (.take 0 1 (.take 1 3 (.run 3 3 3 (.call 2 63 (.run 3 6 63 (.done)))))) fun Bv QR Ae Ah hS=>?_
   iterate 5 refine Aj ?_
   refine BP ?_;clear hS;intro K hK AQ;go_simp;refine hK.out _ _ AQ.out (fun hS=>?_);clear hK K AQ
   try simp only [pu]
   iterate 3 refine Aj ?_
   refine Ce ?_;clear hS Ah Ae;intro hB;have MV:=AA (bT Hb.out hB);have auz:=AA (RJ.out.keep hB);clear hB;go_wp2_with fail;go_ret2;exact ⟨A,k,c,by rw [rH.out];rfl,MV.out,fun _=>auz.out⟩
theorem aes {l:List Int} (h:l.Pairwise (· < ·)) (n:Int):(MR l n).Pairwise (· < ·)/\∀ x,x∈MR l n↔x∈l\/x=n:=by
 unfold MR;split
 ·rename_i hc;rw [PE] at hc;obtain ⟨y,hy,e⟩:=hc;simp only [E8] at e;subst e;refine ⟨h,fun x=>⟨.inl,fun h=>?_⟩⟩;rcases h with h | rfl
  · exact h
  · exact hy
 ·rename_i hc;have hn:n∉l:=fun hm=>hc (PE.2 ⟨n,hm,Aw⟩);have hall:l.takeWhile (fun y=>decide (y<n))++l.dropWhile (fun y=>decide (y<n))=l:=aAK;have h1:∀ y∈l.takeWhile (fun y=>decide (y<n)),y<n:=fun y hy=>by
   have:=JF.1 (List.all_takeWhile (p:=fun y=>decide (y<n)) (l:=l)) y hy
   simpa using this
  have hp:=h;rw [<- hall,Ql] at hp;have h2:∀ y∈l.dropWhile (fun y=>decide (y<n)),n<y:=by
   intro y hy
   cases hd:l.dropWhile (fun y=>decide (y<n)) with
   | nil=>rw [hd] at hy;cases hy
   | cons z m =>
    have hz:¬ z<n:=by
     have:=List.head_dropWhile_not (fun y=>decide (y<n)) (l:=l) (by rw [hd];simp)
     simp only [hd,List.head_cons] at this;simpa using this
    have hzl:z∈l:=by rw [<- hall];exact Xv _ (by rw [hd];exact Ea)
    have hzn:z≠n:=fun e=>hn (e ▸ hzl);rw [hd] at hy;rcases EJ.1 hy with rfl | hy
    · omega
    ·have hp2:=hp.2.1;rw [hd] at hp2;have:=(JC.1 hp2).1 y hy
     omega
  refine ⟨?_,fun x=>?_⟩
  ·rw [Ql,JC];refine ⟨hp.1,⟨h2,hp.2.1⟩,fun a ha b hb=>?_⟩;rcases EJ.1 hb with rfl | hb
   · exact h1 a ha
   · exact hp.2.2 a ha b hb
  ·have:x∈l↔x∈l.takeWhile (fun y=>decide (y<n))\/x∈l.dropWhile (fun y=>decide (y<n)):=by
    rw [<- FZ,hall]
   rw [this,FZ,EJ];constructor
   ·rintro (h | h | h)
    · exact .inl (.inl h)
    · exact .inr h
    · exact .inl (.inr h)
   ·rintro ((h | h) | h)
    · exact .inl h
    · exact .inr (.inr h)
    · exact .inr (.inl h)
theorem akt (l:List Int):(Oz l).Pairwise (· < ·)/\∀ x,x∈Oz l↔x∈l:=by
 have:∀ (l acc:List Int),acc.Pairwise (· < ·)->(l.foldl MR acc).Pairwise (· < ·)/\∀ x,x∈l.foldl MR acc↔x∈acc\/x∈l:=by
  intro l
  induction l with
  | nil=>intro acc h;exact ⟨h,fun x=>by simp⟩
  | cons a l ih =>
   intro acc h;rw [U5];obtain ⟨h1,h2⟩:=aes h a;obtain ⟨h3,h4⟩:=ih _ h1;refine ⟨h3,fun x=>?_⟩;rw [h4,h2,EJ,or_assoc]
 obtain ⟨h1,h2⟩:=this l [] List.Pairwise.nil;exact ⟨h1,fun x=>by rw [show Oz l=l.foldl MR [] from rfl,h2];simp⟩
theorem av1 {l m:List Int} (hl:l.Pairwise (· < ·)) (hm:m.Pairwise (· < ·)) (h:∀ x,x∈l↔x∈m):l=m:=by
 have n1:l.Nodup:=hl.imp (fun h=>by omega);have n2:m.Nodup:=hm.imp (fun h=>by omega);have hp:l.Perm m:=(sO n1 n2).2 h;refine iF (lt:=fun a b=>decide (a<b)) hp (hl.imp (fun h=>by simp;omega)) (hm.imp (fun h=>by simp;omega)) (fun a _ b _ h1 h2=>?_);simp only [J3] at h1 h2;omega
theorem aua {F l:List Int} (hF:F.Nodup) (hl:l.Pairwise (· < ·)) (hs:∀ x∈F,x∈l):Oz F=l↔F.length=l.length:=by
 obtain ⟨h1,h2⟩:=akt F;have n1:(Oz F).Nodup:=h1.imp (fun h=>by omega);have hp:(Oz F).Perm F:=(sO n1 hF).2 h2;constructor
 ·intro e;rw [<- e,hp.length_eq]
 ·intro e;have n2:l.Nodup:=hl.imp (fun h=>by omega);refine av1 h1 hl fun x=>?_;rw [h2];refine ⟨hs x,fun hx=>MZ fun hc=>?_⟩;have:=Uy (l:=x::F) (m:=l) (sN.2 ⟨hc,hF⟩) (fun y hy=>by
   rcases EJ.1 hy with rfl | hy
   · exact hx
   · exact hs y hy)
  rw [I9] at this;omega
theorem aub (v vc:Value) (p:Pl) (X:List Int) (fc:Int) (w:World) (h:Cb w v p) (hv:Valid p) (hX:Ints w vc X) (hd:∀ d∈X,d∈BU p) (hl:X.length<=1000) :
  Calls Tryz.prog 112 #[v,vc,.int .i64 fc] w fun e w'=>e=.returned (.bool (X.all fun d=>Es p d == fc))/\AP w w':=by
 have Ux:=AA (fun d (hd:d∈BU p) W (hW:AP w W)=>adb v p d W (h.mono hW) hv.short.long (KU su su));have WU:=AA hd;obtain ⟨Ac,cc,rfl,hc1,hc2,IC⟩:=hX;unfold maxLen at hc2;obtain ⟨_,_,_,al,rfl,hpa,⟨An,cn,rfl,-⟩,⟨⟨Aa,ca,rfl,-⟩,-⟩,⟨Af,cf,rfl,-⟩⟩:=h;have NH:=AA IC;obtain ⟨R,hR⟩:=BL ((X.all fun d=>Es p d == fc));rw [hR];have HR:=AA hR;clear hpa IC hR;generalize p.nodes.length=nn at *;generalize al.length=na at *;generalize p.faces.length=nf at *;go_enter Tryz.func112,Tryz.ntmps112;go_upto_region 1 with fail;obtain ⟨W1,hW⟩:∃ W:World,W=w.alloc (.cells #[.slice An nn cn,.slice Aa na ca,.slice Af nf cf] 26):=⟨_,rfl⟩;have D9:=AA (show AO W1 w.heap.size 26 #[.slice An nn cn,.slice Aa na ca,.slice Af nf cf] by rw [hW];exact AO.made rfl _ _);have HB1:=AA (show AP w W1 by rw [hW];exact bA (bR w) _);rw [<- hW];clear hW;go_wp2_with fail;go_loopw [7] (fun i wr=>∃ k:Nat,k<=X.length/\i=.int .i64 k/\(∀ j (hj:j<X.length),j<k->Es p X[j]=fc)/\AP W1 wr) (fun i _=>X.length-(intOf i).toNat)
 case atStart => exact ⟨0,BZ _,rfl,(fun j _ h=>by omega),bR W1⟩
 case round =>
  obtain ⟨k,hk,rfl,hall,hb⟩:=hrel;have OJ:=AA hall;have HB:=AA hb;have X1:=D9.out.keep hb;clear hall hb;by_cases hlt:k<X.length
  ·obtain ⟨b,o,rfl,hlb,c0⟩:=(NH.out.mono (bT HB1.out HB.out)).int hlt;have hdm:=WU.out X[k] (BH hlt);have OI:=AA (fun W (hW:AP w W)=>Ux.out X[k] hdm W hW);have Hg:=AA (fun (h:Es p X[k]≠fc)=>show R=false from by
    rw [<- HR.out,<- Iz,JF];intro hc;exact h (eq_of_beq (hc _ (BH hlt))))
   have HYe:=AA (fun (h:Es p X[k]=fc)=>all_succ (p:=fun d=>Es p d=fc) OJ.out hlt h);generalize X[k]=dd at *;obtain ⟨sd,hsd⟩:=BL (Es p dd);rw [hsd] at OI Hg HYe;have k1:(k:Int)<X.length:=by omega
   have k2:0<=(k:Int):=by omega
   clear hsd hdm;obtain ⟨Ak,Au,Az,BA,-,-,-⟩:=X1.BF;go_upto_region 4 with fail;refine Cj (wr) (.run 5 0 0 (.take 6 95 (.call 5 127 (.take 7 255 (.done))))) fun Bv QR Ae Ah hS=>?_
   iterate 6 refine Aj ?_
   refine FD (OI.out _ (bT (bT HB1.out HB.out) hS)) ?_;clear hS;intro Bq Bf hS;refine Aj ?_;refine Ce ?_;clear hS Ah Ae;intro hB;have CW:=AA (bT HB.out hB);clear hB Bf X1 Ak Au Az BA c0 hlb;by_cases z:sd=fc
   ·have z1:(sd != fc)=false:=by simpa using z
    have HYz:=AA (HYe.out z);clear z;go_wp2;go_roundw
    case rel => exact ⟨k+1,AB,BI,HYz.out,CW.out⟩
    case measure => exact BK
   ·have z1:(sd != fc)=true:=by simpa using z
    have HF:=AA (Hg.out z);clear z;go_wp2;go_ret;exact ⟨C9 HF.out.symm,bT HB1.out CW.out⟩
  ·have HF:=AA (show R=true from by
    rw [<- HR.out,JF];intro d hd;obtain ⟨j,hj,rfl⟩:=Dp.1 hd;rw [OJ.out j hj AB];exact beq_self_eq_true _)
   clear X1;go_wp2;go_ret;exact ⟨C9 HF.out.symm,bT HB1.out HB.out⟩
