import Derived.Test.YtialfdomhoojiaaGreatQJ24
import Derived.Maps.OwnSet
import Derived.Test.YtialfdomhoojiaaGreatQRegRF
set_option linter.unusedSimpArgs false
set_option linter.unusedVariables false
set_option maxRecDepth 100000
set_option maxHeartbeats 8000000
namespace Go.Proofs.YtialfdomhoojiaaGreat
open Go.RowKit
structure Facing (g k:Ed):Prop where
 up:k.ada=g.ada
 line:k.line=g.line
 lo:k.lo=g.lo
 hi:k.hi=g.hi
 pos:adb k = !adb g
section
variable {g k:Ed} (h:Facing g k)
include h
end
def Vq (l:List Int) (n:Int):List Int:=if l.any (fun y=>decide (y=n)) then l else l.takeWhile (fun y=>decide (y<n))++n::l.dropWhile (fun y=>decide (y<n))
def aaZ (l:List Int):List Int:=l.foldl Vq []
theorem atc (v u:Value) (l m:List Int) (w:World) (h:Ints w v l) (h':Ints w u m) :
  Calls Tryz.prog 55 #[v,u] w fun e w'=>e=.returned (.bool (decide (l=m)))/\AU w w':=by
 obtain ⟨A,c,rfl,hn,hc,hR⟩:=h;obtain ⟨A',c',rfl,hn',hc',hR'⟩:=h';unfold maxLen at hc hc';by_cases hlen:l.length=m.length
 case neg =>
  have hf:=AA (Gg (fun e:l=m=>hlen (congrArg List.length e)));have hl1:((l.length:Int) != (m.length:Int))=true:=by rw [bne_iff_ne];omega
  have hl2:(l.length != m.length)=true:=by rw [bne_iff_ne];omega
  clear hlen;go_enter Tryz.func55,Tryz.ntmps55;go_wp2;go_ret;exact ⟨CW hf.out.symm,bR w⟩
 case pos =>
 have hl1:((l.length:Int) != (m.length:Int))=false:=by simp [hlen]
 have hl2:(l.length != m.length)=false:=by simp [hlen]
 have Hlen:=AA hlen;clear hlen;go_enter Tryz.func55,Tryz.ntmps55;go_wp2_with fail;go_loopw [5] (fun i wr=>∃ k:Nat,k<=l.length/\i=.int .i64 k/\AU w wr/\∀ j (hj:j<l.length) (hj':j<m.length),j<k->l[j]=m[j]) (fun i _=>l.length-(intOf i).toNat)
 case atStart => exact ⟨0,Bv _,rfl,bR w,fun j _ _ h=>by omega⟩
 case round =>
  obtain ⟨k,hk,rfl,hb,hno⟩:=hrel;have Hb:=AA hb;have Hno:=AA hno;clear hb hno hl1 hl2;by_cases hlt:k<l.length
  ·have hlt':k<m.length:=by have:=Hlen.out;omega
   obtain ⟨b,o,rfl,hlb,c0⟩:=(hR.mono Hb.out).int hlt;obtain ⟨b',o',rfl,QJ,c0q⟩:=(hR'.mono Hb.out).int hlt';have HR:=AA hR;have HR':=AA hR';clear hR hR';have q1:0<=(k:Int):=by omega
   have q2:(k:Int)<l.length:=by omega
   have q3:(k:Int)<m.length:=by omega
   by_cases he:l[k]=m[k]
   ·have hd:(l[k] != m[k])=false:=by simpa using he
    have He:=AA he;clear he;go_upto_region 6 with fail;refine DJ (wr) (.run 9 0 0 (.done)) fun CU QR Ae Ah hS=>?_
    iterate 9 refine Aj ?_
    refine DF ?_;clear hS Ah Ae;intro hB;have Bw:AU w wr.drew:=bT Hb.out hB;clear hB;go_wp2;go_roundw
    case rel => exact ⟨k+1,AB,BJ,Bw,fun j hj hj' hjk=>if e:j<k then Hno.out j hj hj' e else by
      have:j=k:=by omega
      subst this;exact He.out⟩
    case measure => exact BL
   ·have hd:(l[k] != m[k])=true:=by simpa using he
    have He:=AA he;clear he;go_upto_region 6 with fail;refine DJ (wr) (.run 9 0 0 (.done)) fun CU QR Ae Ah hS=>?_
    iterate 9 refine Aj ?_
    refine DF ?_;clear hS Ah Ae;intro hB;have Bw:AU w wr.drew:=bT Hb.out hB;clear hB;go_wp2;go_ret;exact ⟨CW (Gg (agG k hlt hlt' He.out)).symm,Bw⟩
  ·have hf:=AA (JO (agF Hlen.out fun j hj=>Hno.out j hj (by have:=Hlen.out;omega) AB));go_wp2;go_ret;exact ⟨CW hf.out.symm,Hb.out⟩
def MF (w:World) (b:Nat) (S:List Int):Prop :=
 ∃ D:DataW Unit,w.ownsMap Tryz.prog 3 aAw b S.length D/\Maps.size D=S.length/\(∀ id,D.atKey (.int .i64 id) (Ul false)=Ul (decide (id∈S)))/\∀ id,Maps.has D (.int .i64 id)=decide (id∈S)
theorem MF.kept {w w':World} {b:Nat} {S:List Int} (h:MF w b S) {row:Option Nat} (hg:w.grownBy w' row) (hr:some b≠row):MF w' b S:=by
 obtain ⟨D,h1,h2⟩:=h;exact ⟨D,h1.kept hg hr,h2⟩
theorem MF.keep {w w':World} {b:Nat} {S:List Int} (h:MF w b S) (hb:AU w w'):MF w' b S :=
 h.kept (row:=none) ⟨hb.os,hb.tape,hb.output,hb.size,fun i hi _=>hb.block i hi⟩ Ak
theorem MF.lt {w:World} {b:Nat} {S:List Int} (h:MF w b S):b<w.heap.size:=by
 obtain ⟨D,h1,h2⟩:=h;exact h1.lt
theorem MF.made (w:World):MF (w.alloc (.map #[] 0)) w.heap.size [] :=
 ⟨.map [],World.ownsMap_made _ _ _ _,rfl,fun _=>rfl,fun _=>rfl⟩
theorem MF.look {w:World} {b:Nat} {S:List Int} (h:MF w b S) (id:Int) (hid:En id) :
  (Instr.lookup 139 (.map (some b)) (.int .i64 id) false).run Tryz.prog w=.ok (.bool (decide (id∈S))) w:=by
 obtain ⟨D,h1,-,h2,-⟩:=h;obtain ⟨v,ps,hr,hv⟩:=h1.lookup VZ Tryz.underlying139 (ai9 w) (zd:=Ul false) (zp:=[]) rfl (Maps.keyOf_int_mk Tryz.underlying3 hid);rw [h2] at hv;rw [hr,ai8 hv]
theorem MF.len {w:World} {b:Nat} {S:List Int} (h:MF w b S) (ty:TypeId) :
  (Builtin.len_ #[139] ty #[.map (some b)]).run Tryz.prog w=.ok (.int .i64 S.length) w:=by
 obtain ⟨D,h1,h2,-⟩:=h;rw [h1.len Tryz.underlying139 ty,h2]
theorem MF.upd {w:World} {b:Nat} {S:List Int} (h:MF w b S) (hn:S.length<4294967296) (id:Int) (hid:En id) (hx:id∉S) :
  ∃ w',(Instr.mapUpdate 139 (.map (some b)) (.int .i64 id) (.bool true)).run Tryz.prog w=.ok () w'/\MF w' b (S++[id])/\w.grownBy w' (some b):=by
 obtain ⟨D,h1,h2,h3,h4⟩:=h;have ht:=h1.tidy VZ;obtain ⟨w',hr,ho,hg⟩:=h1.update VZ Tryz.underlying139 tC (Maps.keyOf_int_mk Tryz.underlying3 hid) (val:=.bool true) (d:=Ul true) (ps:=[]) rfl;refine ⟨w',hr,⟨_,by rw [ER];exact ho,?_,fun i=>?_,fun i=>?_⟩,hg⟩
 · rw [Maps.size_put ht,h4,Gg hx,h2,ER];rfl
 ·by_cases e:i=id
  ·subst e;rw [Maps.atKey_put_same ht.isMap (by trivial),JO Ak]
  ·rw [Maps.atKey_put_other (fun h=>e (by injection h)),h3];congr 1;simp [e]
 ·by_cases e:i=id
  ·subst e;rw [Maps.has_put_same ht.isMap (by trivial),JO Ak]
  ·rw [Maps.has_put_other (fun h=>e (by injection h)),h4];simp [e]
theorem adh {w:World} {gm:Nat} {S:List Int} (h:MF w gm S) {g:Nat} {t:TypeId} {cs:Array Value} (hg:AO w g t cs):g≠gm:=by
 rintro rfl;obtain ⟨D,h1,-⟩:=h;obtain ⟨es,clock,h2,-⟩:=h1;unfold AO at hg;rw [hg] at h2
 cases h2
theorem ajX {w:World} {gm:Nat} {S:List Int} (h:MF w gm S) {base:Nat} {e:TypeId} {size:Nat} {α:Type} {fe:α->List Value} {v:Value} {l:List α} (ho:Own w base e size fe v l):v.ownBlock≠some gm:=by
 rcases ho.2 with ⟨rfl,_⟩ | ⟨g,cap,cur,rfl,_,hh,_⟩
 · simp [Value.ownBlock]
 ·intro e';exact adh h (cs:=cur) (g:=g) hh sZ
def Ns (p:Pl) (O:List (List Int)) (k:Nat):List Int:=(List.range k).map (Ih p O)
theorem U6 (p:Pl) (O:List (List Int)) (k:Nat):(Ns p O k).length=k:=by unfold Ns;simp
theorem atd (p:Pl) (O:List (List Int)) (k:Nat):Ns p O (k+1)=Ns p O k++[Ih p O k]:=by unfold Ns;rw [Zr,GI];rfl
theorem Gz.aac {p:Pl} {L:List AD} {O:List (List Int)} {N:List Nd} (h:Gz p L O (Js p) N) {i:Nat} (hi:i<L.length):(MB L[i]).map (·.1)=J7 p O i:=by
 have hl:=h.len;unfold MB J7 GR Vu;rw [FM,h.inn i hi];congr 1;by_cases e:i=0
 · subst e;exact h.akG hi
 ·show L[i].out=_
  rw [h.kU hi AB,Tn AB AB];rfl
section
variable {p:Pl} (h:Valid p)
include h
theorem Valid.adi {O:List (List Int)} (hO:∀ X∈O,X∈BP p) {i:Nat} {c:List Int} (hc:c∈J7 p O i) {d:Int} (hd:d∈c):d∈Bh p:=by
 unfold J7 GR at hc;rcases EW.1 hc with rfl | hc
 ·unfold KO at hd;split at hd
  · cases hd
  · cases e:O[i-1]? with
   | none=>rw [e] at hd;cases hd
   | some X =>
    rw [e] at hd;exact (h.Gq (Ku.1 (hO X (abX e))).1).2 d hd
 ·have:=QE.1 hc
  exact (h.Gq (Vt.1 this.1).1).2 d hd
end
def ate (w:World) (p:Pl) (O:List (List Int)) (e:Ending) (w':World):Prop :=
 ∃ A n c,e=.returned (.tuple #[.slice A n c,.bool (SL p)])/\AU w w'/\(SL p=true->Own w' w.heap.size 3 1 DR (.slice A n c) (Ns p O (O.length+1)))
theorem aup {p:Pl} {O:List (List Int)} (hO:O.Perm (BP p)) {k:Nat} (hk:k<=O.length) (h:(1<=k/\Ih p O k=0)\/(1<=k/\Ih p O k∈Oz p O k)\/∃ c∈J7 p O k,∃ d∈c,IK p d≠Ih p O k):SL p=false:=by
 rw [<- JK,akL hO];rintro ⟨hu,-⟩;rcases h with ⟨h1,h⟩ | ⟨h1,h⟩ | ⟨c,hc,d,hd,h⟩
 · exact hu.some k h1 AB h
 ·obtain ⟨i,h2,h3,h4⟩:=akK.1 h;exact hu.differ i k h2 h3 AB h4
 · exact h (hu.sides k AB c hc d hd)
theorem auq (v vl:Value) (p:Pl) (L:List AD) (O:List (List Int)) (N:List Nd) (w:World) (h:Ci w v p) (hv:Valid p) (hl:SN w vl L) (hd:Gz p L O (Js p) N) (hO:O.Perm (BP p)) :
  Calls Tryz.prog 108 #[v,vl] w (ate w p O):=by
 have ak:=AA (fun d (hd:En d) W (hW:AU w W)=>apZ v p d W (h.mono hW) hv.short.long hd);have HV:=AA hv;have HL:=AA hl;have HD:=AA hd;have ajY:=hd.len;have hol:O.length<=512:=by
  rw [hO.length_eq];exact EH (OA _ _) hv.U5
 have HSub:=AA hO.subset;have vP:1<=L.length/\L.length<=513:=by omega
 have JQ:=AA ajY;have HDa:=AA (fun i c (hc:c∈J7 p O i) d (hd:d∈c)=>hv.adi (fun X hX=>hO.subset hX) hc hd);have aaQ:=AA (fun d (hd:d∈Bh p)=>show En d from N8 (by have:=hv.Qh hd;omega) (by have:=hv.Qh hd;omega));have MX:=AA (fun i (hi:i<L.length)=>hd.aac hi);have OQ:=AA (fun k (hk:k<=O.length)=>aup hO (k:=k) hk);have ajZ:=AA (akL hO);have OW:=AA (fun i (hi:i<L.length)=>show L[i].inn.length<=512 from by
  have:=congrArg List.length (hd.inn i hi)
  rw [Cj] at this;rw [this];refine EH (OA _ _) ?_;exact EH (OA _ _) hv.U5)
 have HSb:=AA (fun d=>hv.asw d);obtain ⟨Al,cl,rfl,hl1,hl2,hRl⟩:=hl.sl;obtain ⟨_,_,_,al,rfl,hpa,⟨An,cn,rfl,-⟩,⟨⟨Aa,ca,rfl,-⟩,-⟩,⟨Af,cf,rfl,-⟩⟩:=h;unfold maxLen at hl2;have hff:p.faces.length<=64:=(ug hv.lim).2.2.2.1;have HRl:=AA hRl;generalize p.nodes.length=nn at *;generalize al.length=na at *;obtain ⟨nf,hnf⟩:=BN p.faces.length;rw [hnf] at hff ajZ ak ⊢;have HNf:=AA hnf;clear hpa hRl hv hl hd hnf ajY;have hmm:=@run_makeMap Tryz.prog;go_enter Tryz.func108,Tryz.ntmps108;go_upto_region 2 with fail;obtain ⟨gm,hgm⟩:=BR (w.heap.size+1);obtain ⟨W1,hW⟩:∃ W:World,W=(w.alloc (.cells #[.slice An nn cn,.slice Aa na ca,.slice Af nf cf] 26)).alloc (.map #[] 0):=⟨_,rfl⟩;have X1:AO W1 w.heap.size 26 #[.slice An nn cn,.slice Aa na ca,.slice Af nf cf]:=by rw [hW];exact (AO.made rfl _ _).alloc _
 have Jz:=AA (show MF W1 gm [] by
  have:=MF.made (w.alloc (.cells #[.slice An nn cn,.slice Aa na ca,.slice Af nf cf] 26))
  rw [hW,hgm];simpa using this)
 have HB1:=AA (show AU w W1 by rw [hW];exact bA (bA (bR w) _) _);have hgl:w.heap.size<gm:=by omega
 rw [<- hW,<- hgm];clear hW hgm hmm;have Dt:=AA X1;clear X1;go_upto_block 0 with fail;go_wp2_with fail;go_loopw [4,17] (fun s i wr=>∃ k:Nat,k<=L.length/\i=.int .i64 k/\(∃ A c,s=.slice A k c)/\Own wr w.heap.size 3 1 DR s (Ns p O k)/\MF wr gm (Oz p O k)/\Ui p O k/\AO wr w.heap.size 26 #[.slice An nn cn,.slice Aa na ca,.slice Af nf cf]/\AU w wr) (fun _ i _=>L.length-(intOf i).toNat)
 case atStart => exact ⟨0,Bv _,rfl,⟨_,_,rfl⟩,Own.nil _ _ _ _ _,Jz.out,Ui.zero p O,Dt.out,HB1.out⟩
 case round =>
  clear Dt Jz HB1;obtain ⟨k,hk,rfl,⟨A,c,rfl⟩,ho,hm,hu,X1,hb⟩:=hrel;obtain ⟨wo,rfl⟩:=BR wr;have HO:=AA ho;have HM:=AA hm;have HU:=AA hu;have HX:=AA X1;have Hb:=AA hb;have hfl:=U6 p O k;have hsl:=asy p O k;have aur:=hm.lt;clear ho hm hu hb;by_cases hlt:k<L.length
  ·have hko:k<=O.length:=by have:=JQ.out;omega
   obtain ⟨b,o,rfl,hlb,c0,c1,c2,c3⟩:=(HRl.out.mono Hb.out).ad hlt;have hcy:=MX.out k hlt;have hcl:=OW.out k hlt;have hout:=HL.out.out _ (BO hlt);have LV:=HL.out.inn _ (BO hlt);have V9:=HL.out.Ja _ (BO hlt);have hfc:1<=k->L[k].out≠[]/\Ih p O k=IK p (L[k].out.headD 0):=fun h1=>by
    have e1:=HD.out.kU hlt h1;have hX:O[k-1]'(by omega)∈O:=BO _;rw [e1];exact ⟨HV.out.Xc (Ku.1 (HSub.out hX)).1,Zf h1 hko⟩
   generalize L[k]=x at *;obtain ⟨tw,out,⟨oa,on,oc⟩,inn,⟨ia,II,ic⟩,DC,⟨aa,an,ac⟩⟩:=x;unfold BK at c1 c2 c3 hout LV;simp only at c0 c1 c2 c3 hout LV hcy V9 hcl hfc;obtain ⟨fc,af4⟩:=BN (Ih p O k);have eP:=AA (atd p O k);have HSs:=AA (fun h=>asx p O (k:=k) h);rw [af4] at hfc eP HSs;have jq:=AA af4;have zu:=AA hcy;have af5:=AA hout;have Gm:=AA LV;have qo:=AA V9;have HFh:=AA hfc;clear hcy hout LV V9 hfc af4;have hfb:0<=fc/\fc<=1073741824:=by
    rw [<- jq.out];unfold Ih NR;split
    · omega
    · exact HSb.out _
   have hf0:k=0->fc=0:=fun e=>by rw [<- jq.out,e];rfl
   have hwf:En fc:=N8 AB AB;have oW:=AA hwf;clear hwf;go_upto_region 5 with fail;obtain ⟨W2,hW⟩:∃ W:World,W=wo.alloc (.cells #[.int .i64 tw,.slice oa on oc,.slice ia II ic,.slice aa an ac] 82):=⟨_,rfl⟩;have hA:AU wo W2:=by rw [hW];exact bA (bR wo) _
   have X5:AO W2 wo.heap.size 82 #[.int .i64 tw,.slice oa on oc,.slice ia II ic,.slice aa an ac]:=by rw [hW];exact AO.made rfl _ _
   replace X1:=X1.keep hA;have F9:=AA (HO.out.keep hA);have CG:=AA X1;have DI:=AA X5;have QO:=AA (HM.out.keep hA);have HB2:=AA (bT Hb.out hA);have aja:=AA (af5.out.mono (bT Hb.out hA));have hz2:=Hb.out.size;rw [<- hW];clear hW hA HO HM HX Hb c0 c1 c2 c3 hlb;obtain ⟨g5,hg5⟩:=BN wo.heap.size;rw [hg5] at DI X5 hz2 aur ⊢;clear hg5;have hS0:k=0->Oz p O (k+1)=Oz p O k:=fun e=>by subst e;rfl
   have Un:=AA hS0;clear hS0;have hkn:O.length<=512:=hol;go_upto_if 23 with fail;go_cut [9,4,5] (fun f s q wx=>f=.int .i64 fc/\s=.slice A k c/\MF wx gm (Oz p O (k+1))/\Own wx w.heap.size 3 1 DR (.slice A k c) (Ns p O k)/\AO wx w.heap.size 26 #[.slice An nn cn,.slice Aa na ca,.slice Af nf cf]/\AO wx g5 82 #[.int .i64 tw,.slice oa on oc,.slice ia II ic,.slice aa an ac]/\AU w wx/\(1<=k->fc≠0/\fc∉Oz p O k))
   case first =>
    rcases YG k with h0 | h0
    ·have e1:=hf0 h0;have hk0:¬ (0:Int)<(k:Int):=by omega
     have Q9:=QO.out;rw [<- Un.out h0] at Q9;have Pm:=AA Q9;have HE:=AA e1;clear Q9 e1 hf0 h0 X1 X5;go_wp2;go_meet
     case rel => exact ⟨by rw [HE.out],rfl,Pm.out,F9.out,CG.out,DI.out,HB2.out,fun h=>by omega⟩
    ·have hk0:(0:Int)<(k:Int):=by omega
     obtain ⟨hne,hfe⟩:=HFh.out h0;have hkl:0<out.length:=iD.2 hne;have hhd:out.headD 0=out[0]:=by
      cases out with
      | nil=>exact absurd rfl hne
      | cons d l'=>rfl
     rw [hhd] at hfe;obtain ⟨Ao,co,hel,-,-,hRo⟩:=aja.out;injection hel with y1 y2 y3;subst y1 y2 y3;obtain ⟨bl,ol,wW,wZ,d0⟩:=(hRo).int hkl;subst wW;simp only [YJ] at d0;have kz:(0:Int)<out.length:=by omega
     have kn:¬ out=[]:=hne;have hmem:out[0]∈Bh p:=HDa.out k out (by rw [<- zu.out];exact Eu) _ (BO hkl);have Wn:=AA (fun W (hW:AU w W)=>ak.out out[0] (aaQ.out _ hmem) W hW);generalize out[0]=dd at *;rw [<- hfe] at Wn;have TI:=AA (OQ.out k hko);rw [jq.out] at TI;have WL:=AA (HSs.out h0);clear hhd hfe hmem hRo hf0;obtain ⟨BF,BG,BH,BI,-,-,-⟩:=X1.Az;obtain ⟨CJ,CO,CS,F8,UN,-,-,-,-⟩:=X5.N7;go_upto_region 7 with fail;refine DJ (W2) (.run 5 0 0 (.call 5 63 (.take 6 127 (.done)))) fun CU QR Ae Ah hS=>?_
     iterate 5 refine Aj ?_
     refine GL (Wn.out _ (bT HB2.out hS)) ?_;clear hS;intro CX CV hS;refine Aj ?_;refine DF ?_;clear hS Ah Ae;intro hB;have HB3:=AA (bT HB2.out hB);have F5:=AA (F9.out.keep hB);have Ej:=AA (CG.out.keep hB);have Zk:=AA (DI.out.keep hB);have Pm:=AA (QO.out.keep hB);clear hB X1 BF BG BH BI X5 CJ CO CS F8 UN d0 CV QO F9 CG DI HB2 wZ kz kn Wn;by_cases z:fc=0
     ·have z1:(fc == 0)=true:=by simpa using z
      have hf:=TI.out (.inl ⟨h0,z⟩);have HF:=AA hf;clear z hf;go_wp2_with fail;go_ret2;exact ⟨none,0,0,by rw [HF.out];rfl,HB3.out,fun e=>by rw [HF.out] at e;cases e⟩
     ·have z1:(fc == 0)=false:=by simpa using z
      have hlk:=Pm.out.look fc oW.out;by_cases z2:fc∈Oz p O k
      ·have hf:=TI.out (.inr (.inl ⟨h0,z2⟩));have HF:=AA hf;rw [JO z2] at hlk;clear z hf z2;go_wp2_with fail;go_ret2;exact ⟨none,0,0,by rw [HF.out];rfl,HB3.out,fun e=>by rw [HF.out] at e;cases e⟩
      ·rw [Gg z2] at hlk;obtain ⟨w6,hr6,Xy,Ir⟩:=Pm.out.upd AB fc oW.out z2;rw [<- WL.out] at Xy;have Ut:=AA Xy;have HZ:=AA (show fc≠0/\fc∉Oz p O k from ⟨z,z2⟩);have RH:=AA (Own.grown F5.out Ir (fun g hg e=>ajX Pm.out F5.out (by rw [hg,e])));have IX:=AA (AO.grown Ej.out Ir (fun e=>adh Pm.out Ej.out (Dq e)));have ae6:=AA (AO.grown Zk.out Ir (fun e=>adh Pm.out Zk.out (Dq e)));have GU:=AA (bG HB3.out Ir (fun g hg=>by have:=Dq hg;omega));clear Xy Ir z z2;go_wp2;go_meet
       case rel => exact ⟨rfl,rfl,Ut.out,RH.out,IX.out,ae6.out,GU.out,fun _=>HZ.out⟩
   case rest =>
    obtain ⟨rfl,rfl,Q9,ho3,X1,X5,hb3,hzz⟩:=hcut;have Pm:=AA Q9;have F5:=AA ho3;have Ej:=AA X1;have Zk:=AA X5;have HB3:=AA hb3;have HZ:=AA hzz;have Rx:=adp ⟨tw,out,⟨oa,on,oc⟩,inn,⟨ia,II,ic⟩,DC,⟨aa,an,ac⟩⟩ wc (Gm.out.mono hb3) (by show inn.length<=100000;omega);have wu:(MB ⟨tw,out,⟨oa,on,oc⟩,inn,⟨ia,II,ic⟩,DC,⟨aa,an,ac⟩⟩).length<=513:=by show inn.length+1<=513;omega
    have hcr:∀ y∈MB ⟨tw,out,⟨oa,on,oc⟩,inn,⟨ia,II,ic⟩,DC,⟨aa,an,ac⟩⟩,Ints w (BK y.2) y.1:=fun y hy=>by
     rcases EW.1 hy with rfl | hy
     · exact af5.out
     · exact qo.out y hy
    have hck:=zu.out;unfold BK at Rx;simp only at Rx;generalize MB ⟨tw,out,⟨oa,on,oc⟩,inn,⟨ia,II,ic⟩,DC,⟨aa,an,ac⟩⟩=CY at *;have ah:=AA Rx;have SX:=AA hcr;have HDy:=AA (fun q (hq:q<CY.length) d (hd:d∈CY[q].1)=>HDa.out k CY[q].1 (by rw [<- hck];exact Gh (BO hq)) d hd);have HMy:=AA (fun q (hq:q<CY.length)=>show CY[q].1∈J7 p O k from by rw [<- hck];exact Gh (BO hq));have adx:=AA (fun (h:∀ q (hq:q<CY.length),∀ d∈CY[q].1,IK p d=fc)=>show ∀ c∈J7 p O k,∀ d∈c,IK p d=Ih p O k from fun c hc d hd=>by
     rw [<- hck] at hc;obtain ⟨y,hy,rfl⟩:=ED.1 hc;obtain ⟨q,hq,rfl⟩:=EF.1 hy;rw [jq.out];exact h q hq d hd)
    have TI:=AA (OQ.out k hko);rw [jq.out] at TI;clear Q9 ho3 hb3 hzz QO F9 CG DI HB2 Rx hcr hck aja zu af5 Gm qo HFh hf0 Un HSs
    try clear CJ CO CS F8 UN
    obtain ⟨CJ,CO,CS,F8,UN,-,-,-,-⟩:=X5.N7;go_wp2_with fail;refine ah.out.mono ?_;rintro e w3 ⟨⟨A2,c2,rfl,ho2⟩,hb4⟩;have HB4:=AA (bT HB3.out hb4);have JH:=AA (F5.out.keep hb4);have D8:=AA (Ej.out.keep hb4);have iw:=AA (Pm.out.keep hb4);have HR4:=AA ho2.row_of;have dh:=hb4.size;clear ho2 hb4 HB3 F5 Ej Zk Pm X1 X5 CJ CO CS F8 UN ah;go_upto_block 2 with fail;go_wp2_with fail;go_loopw [4,42] (fun s i wr=>s=.slice A k c/\∃ j:Nat,j<=CY.length/\i=.int .i64 j/\(∀ q (hq:q<CY.length),q<j->∀ d∈CY[q].1,IK p d=fc)/\AU w3 wr) (fun _ i _=>CY.length-(intOf i).toNat)
    case atStart => exact ⟨rfl,0,Bv _,rfl,(fun q _ h=>by omega),bR w3⟩
    case round =>
     obtain ⟨rfl,j,hj,rfl,hall,hb5⟩:=hrel;have Xt:=AA hall;have Cm:=AA hb5;clear hall hb5;by_cases hlj:j<CY.length
     ·obtain ⟨b,o,rfl,hlb,c0⟩:=(HR4.out.mono Cm.out).cy hlj;have hin:=(SX.out CY[j] (BO hlj)).mono (bT HB4.out Cm.out);have hdy:=HDy.out j hlj;have SQ:=AA (HMy.out j hlj);have PZ:=AA (fun (h:∀ d∈CY[j].1,IK p d=fc)=>all_succ (p:=fun y:List Int×SV=>∀ d∈y.1,IK p d=fc) Xt.out hlj h);generalize CY[j]=x at *;obtain ⟨X,xa,xn,xc⟩:=x;unfold BK at hin;simp only at hin c0 hdy SQ PZ;obtain ⟨Ax,cx,he,hx1,hx2,U7⟩:=hin;injection he with y1 y2 y3;subst y1 y2 y3;unfold maxLen at hx2;have hxl:X.length<=9223372036854775807:=by omega
      have HRx:=AA U7;have HDx:=AA hdy;clear U7 hdy;obtain ⟨wq,rfl⟩:=BR wr;go_upto_block 4 with fail;clear c0 hlb;go_wp2_with fail;go_loopw [4,48] (fun s i wr=>s=.slice A k c/\∃ m:Nat,m<=X.length/\i=.int .i64 m/\(∀ q (hq:q<X.length),q<m->IK p X[q]=fc)/\AU wq wr) (fun _ i _=>X.length-(intOf i).toNat)
      case atStart => exact ⟨rfl,0,Bv _,rfl,(fun q _ h=>by omega),bR wq⟩
      case round =>
       obtain ⟨rfl,m,hmm,rfl,hall,hb6⟩:=hrel;have ajb:=AA hall;have GU:=AA hb6;have Ep:=AA (bT HB4.out (bT Cm.out hb6));clear hall hb6;by_cases hlm:m<X.length
       ·obtain ⟨b2,o2,rfl,aCA,e0⟩:=(HRx.out.mono GU.out).int hlm;have hdm:=HDx.out X[m] (BO hlm);have Wn:=AA (fun W (hW:AU w W)=>ak.out X[m] (aaQ.out _ hdm) W hW);have RJ:=AA (fun (h:IK p X[m]≠fc)=>TI.out (.inr (.inr ⟨X,SQ.out,X[m],BO hlm,h⟩)));have HYm:=AA (fun (h:IK p X[m]=fc)=>all_succ (p:=fun d=>IK p d=fc) ajb.out hlm h);generalize X[m]=dd at *;obtain ⟨sd,hsd⟩:=BN (IK p dd);rw [hsd] at Wn RJ HYm;have X1:=D8.out.keep (bT Cm.out GU.out);clear hsd hdm
        try clear BF BG BH BI
        obtain ⟨BF,BG,BH,BI,-,-,-⟩:=X1.Az;go_wp2_with fail;refine (Wn.out _ Ep.out).mono ?_;rintro e w7 ⟨rfl,hb7⟩;have MW:=AA (bT GU.out hb7);have aus:=AA (bT Ep.out hb7);clear hb7 X1 BF BG BH BI e0 aCA Wn;by_cases z:sd=fc
        ·have z1:(sd != fc)=false:=by simpa using z
         have HYz:=AA (HYm.out z);clear z;go_wp2;go_roundw
         case rel => exact ⟨rfl,m+1,AB,BJ,HYz.out,MW.out⟩
         case measure => exact BL
        ·have z1:(sd != fc)=true:=by simpa using z
         have HF:=AA (RJ.out z);clear z;go_wp2_with fail;go_ret2;exact ⟨none,0,0,by rw [HF.out];rfl,aus.out,fun e=>by rw [HF.out] at e;cases e⟩
       ·have hmx:m=X.length:=by omega
        have HNz:=AA (PZ.out fun d hd=>by
         obtain ⟨q,hq,rfl⟩:=EF.1 hd;exact ajb.out q hq AB)
        clear hmx;go_wp2;go_roundw
        case rel => exact ⟨rfl,j+1,AB,BJ,HNz.out,bT Cm.out GU.out⟩
        case measure => exact BL
     ·have hjx:j=CY.length:=by omega
      have HUk:=AA (HU.out.succ (fun h=>by rw [jq.out];exact (HZ.out h).1) (fun h=>by rw [jq.out];exact (HZ.out h).2) (adx.out fun q hq=>Xt.out q hq AB));have DI:=AA (D8.out.keep Cm.out);have Fh:=AA (JH.out.keep Cm.out);have Tf:=AA (iw.out.keep Cm.out);have ajc:=AA (bT HB4.out Cm.out);have n1:=Own.Dz Fh.out DI.out Aw;have n2:=ajX Tf.out Fh.out;have aky:=U6 p O (k+1);clear hjx D8 JH iw HB4 HR4;go_upto_region 22 with
       (at_builtin
        refine FK _ rfl (.tmp 59) (.tmp 61) _ rfl (base:=w.heap.size) JW Iz JR rfl (Own.alloc Fh.out _) rfl (l2:=[fc]) (Sl.lit (n:=1) (AO.made rfl _ _) rfl (DN AB)) DZ DZ (by have:=ajc.out.size;simp;omega) ?_;intro v8 w8 Qa Lr kK;rw [<- eP.out] at Qa;obtain ⟨A8,c8,hv8,-⟩:=Own.Ig Qa;rw [aky] at hv8;subst hv8;have OT:=AA Qa;have aad:=AA ((Tf.out.keep (bA (bR wr) _)).kept Lr (fun e=>n2 e.symm));have UO:=AA (AO.grown (DI.out.alloc _) Lr (fun e=>n1 e.symm));have Ls:=AA (bG (bA ajc.out _) Lr (fun g hg=>(Fh.out.lt g hg).1));clear Qa Lr kK
        )
      clear n1 n2 aky;go_wp2;go_roundw
      case rel => exact ⟨k+1,AB,BJ,⟨A8,c8,rfl⟩,OT.out,aad.out,HUk.out,UO.out,Ls.out⟩
      case measure => exact BL
  ·have hkk:k=L.length:=by omega
   have af6:O.length+1=k:=by have:=JQ.out;omega
   have hlen:=fun ty=>(HM.out.keep (bD (bR wo))).len ty;have hres:SL p=(((Oz p O k).length:Int) == (nf:Int)):=by
    have hy:=ajZ.out;rw [af6] at hy;rw [MH,hy,hsl];constructor
    · rintro ⟨-,e⟩;simp;omega
    · intro e;simp at e;exact ⟨HU.out,AB⟩
   have ho:=HO.out;have RV:=AA (show Own wo w.heap.size 3 1 DR (.slice A k c) (Ns p O (O.length+1)) by rw [af6];exact ho);have HRe:=AA hres;generalize Oz p O k=S at *;clear hres ho hkk af6 hsl
   try clear BF BG BH BI
   obtain ⟨BF,BG,BH,BI,-,-,-⟩:=X1.Az;go_upto_region 23 with fail;refine DJ (wo) (.take 0 1 (.take 1 3 (.run 3 3 3 (.call 2 63 (.run 3 6 63 (.done)))))) fun CU QR Ae Ah hS=>?_
   iterate 5 refine Aj ?_
   refine Bj ?_;clear hS;intro K hK AQ;go_simp;refine hK.out _ _ AQ.out (fun hS=>?_);clear hK K AQ
   try simp only [pu]
   iterate 3 refine Aj ?_
   refine DF ?_;clear hS Ah Ae;intro hB;have LU:=AA (bT Hb.out hB);have aut:=AA (RV.out.keep hB);clear hB;go_wp2_with fail;go_ret2;exact ⟨A,k,c,by rw [HRe.out];rfl,LU.out,fun _=>aut.out⟩
theorem af7 {l:List Int} (h:l.Pairwise (· < ·)) (n:Int):(Vq l n).Pairwise (· < ·)/\∀ x,x∈Vq l n↔x∈l\/x=n:=by
 unfold Vq;split
 ·rename_i hc;rw [OC] at hc;obtain ⟨y,hy,e⟩:=hc;simp only [EO] at e;subst e;refine ⟨h,fun x=>⟨.inl,fun h=>?_⟩⟩;rcases h with h | rfl
  · exact h
  · exact hy
 ·rename_i hc;have hn:n∉l:=fun hm=>hc (OC.2 ⟨n,hm,Ak⟩);have hall:l.takeWhile (fun y=>decide (y<n))++l.dropWhile (fun y=>decide (y<n))=l:=aap;have h1:∀ y∈l.takeWhile (fun y=>decide (y<n)),y<n:=fun y hy=>by
   have:=KU.1 (List.all_takeWhile (p:=fun y=>decide (y<n)) (l:=l)) y hy
   simpa using this
  have hp:=h;rw [<- hall,Qn] at hp;have h2:∀ y∈l.dropWhile (fun y=>decide (y<n)),n<y:=by
   intro y hy
   cases hd:l.dropWhile (fun y=>decide (y<n)) with
   | nil=>rw [hd] at hy;cases hy
   | cons z m =>
    have hz:¬ z<n:=by
     have:=List.head_dropWhile_not (fun y=>decide (y<n)) (l:=l) (by rw [hd];simp)
     simp only [hd,List.head_cons] at this;simpa using this
    have hzl:z∈l:=by rw [<- hall];exact YI _ (by rw [hd];exact Eu)
    have hzn:z≠n:=fun e=>hn (e ▸ hzl);rw [hd] at hy;rcases EW.1 hy with rfl | hy
    · omega
    ·have hp2:=hp.2.1;rw [hd] at hp2;have:=(JL.1 hp2).1 y hy
     omega
  refine ⟨?_,fun x=>?_⟩
  ·rw [Qn,JL];refine ⟨hp.1,⟨h2,hp.2.1⟩,fun a ha b hb=>?_⟩;rcases EW.1 hb with rfl | hb
   · exact h1 a ha
   · exact hp.2.2 a ha b hb
  ·have:x∈l↔x∈l.takeWhile (fun y=>decide (y<n))\/x∈l.dropWhile (fun y=>decide (y<n)):=by
    rw [<- FX,hall]
   rw [this,FX,EW];constructor
   ·rintro (h | h | h)
    · exact .inl (.inl h)
    · exact .inr h
    · exact .inl (.inr h)
   ·rintro ((h | h) | h)
    · exact .inl h
    · exact .inr (.inr h)
    · exact .inr (.inl h)
theorem auu (l:List Int):(aaZ l).Pairwise (· < ·)/\∀ x,x∈aaZ l↔x∈l:=by
 have:∀ (l acc:List Int),acc.Pairwise (· < ·)->(l.foldl Vq acc).Pairwise (· < ·)/\∀ x,x∈l.foldl Vq acc↔x∈acc\/x∈l:=by
  intro l
  induction l with
  | nil=>intro acc h;exact ⟨h,fun x=>by simp⟩
  | cons a l ih =>
   intro acc h;rw [UD];obtain ⟨h1,h2⟩:=af7 h a;obtain ⟨h3,h4⟩:=ih _ h1;refine ⟨h3,fun x=>?_⟩;rw [h4,h2,EW,or_assoc]
 obtain ⟨h1,h2⟩:=this l [] List.Pairwise.nil;exact ⟨h1,fun x=>by rw [show aaZ l=l.foldl Vq [] from rfl,h2];simp⟩
theorem Own.auv {e:TypeId} {w:World} {B g n c:Nat} {L:List AD} (h:Own w B e 4 E8 (.slice (some ⟨g,0,none⟩) n c) L) {k:Nat} (hk:k<L.length):g<w.heap.size/\(∀ j,w.frozen? ⟨g,j,none⟩=false) /\
  w.cell? ⟨g,k*4,none⟩=some (.int .i64 L[k].tw)/\w.cell? ⟨g,k*4+1,none⟩=some (BK L[k].ov)/\w.cell? ⟨g,k*4+2,none⟩=some (BK L[k].iv)/\w.cell? ⟨g,k*4+3,none⟩=some (BK L[k].av):=by
 obtain ⟨g',hg,-,h1,h2,h3⟩:=Own.P5 h AB;injection hg with hg;injection hg with hg _ _;subst hg;exact ⟨h1,h2,h3 k hk⟩
def VD (p:Pl) (O:List (List Int)) (L:List AD) (k:Nat):List AD:=(List.range L.length).map fun i=>{L.getD i ad0 with tw:=if i<k then Ih p O i else 0}
theorem jr (p:Pl) (O:List (List Int)) (L:List AD) (k:Nat):(VD p O L k).length=L.length:=by unfold VD;simp
theorem rG {p:Pl} {O:List (List Int)} {L:List AD} {k i:Nat} (hi:i<(VD p O L k).length) (hl:i<L.length):(VD p O L k)[i] = {L[i] with tw:=if i<k then Ih p O i else 0}:=by
 simp only [VD,Gp,List.getElem_range,Fj,Dh hl,H9]
theorem auw {p:Pl} {O:List (List Int)} {L:List AD} {k:Nat} {x:AD} (hx:x∈VD p O L k):∃ y∈L,∃ t,x = {y with tw:=t}:=by
 obtain ⟨i,hi,rfl⟩:=EF.1 hx;have hl:i<L.length:=by rw [jr] at hi;exact hi
 exact ⟨L[i],BO hl,_,rG hi hl⟩
theorem auy {p:Pl} {O:List (List Int)} {L:List AD} {R:List (List Int)} {N:List Nd} (h:Gz p L O R N) (k:Nat):Gz p (VD p O L k) O R N:=by
 refine ⟨?_,fun i hi=>?_,fun i hi=>?_⟩
 ·rw [<- h.out];apply Zq (by simp [jr]);intro i h1 h2;have h3:i<L.length:=by simpa using h2
  rw [Gp,Gp,rG _ h3]
 ·have h3:i<L.length:=by rw [jr] at hi;exact hi
  rw [rG hi h3];exact h.inn i h3
 ·have h3:i<L.length:=by rw [jr] at hi;exact hi
  rw [rG hi h3];exact h.DC i h3
