import Derived.Maps.OwnSet
import Derived.Test.YtialfdomhoojiaaGreatJ01
import Derived.Test.YtialfdomhoojiaaGreatJ16
import Derived.Test.YtialfdomhoojiaaGreatJ23
import Derived.Test.YtialfdomhoojiaaGreatJ25
import Derived.Test.YtialfdomhoojiaaGreatJ26
import Derived.Test.YtialfdomhoojiaaGreatJ15
import Derived.Test.YtialfdomhoojiaaGreatJ03
set_option linter.unusedSimpArgs false
set_option linter.unusedVariables false
namespace Go.Proofs.YtialfdomhoojiaaGreat
open Go.RowKit
def oh (w:World) (b:Nat) (S:List Int):Prop :=
 ∃ D:DataW Unit,w.ownsMap Tryz.prog 3 SL b S.length D/\Maps.size D=S.length/\(∀ id,D.atKey (.int .i64 id) (yK false)=yK (decide (id∈S)))/\∀ id,Maps.has D (.int .i64 id)=decide (id∈S)
theorem oh.kept {w w':World} {b:Nat} {S:List Int} (h:oh w b S) {row:Option Nat} (hg:w.grownBy w' row) (hr:some b≠row):oh w' b S:=by
 obtain ⟨D,h1,h2⟩:=h;exact ⟨D,h1.kept hg hr,h2⟩
theorem oh.keep {w w':World} {b:Nat} {S:List Int} (h:oh w b S) (hb:Below w.heap.size w w'):oh w' b S :=
 h.kept (row:=none) ⟨hb.os,hb.tape,hb.output,hb.size,fun i hi _=>hb.block i hi⟩ (by simp)
theorem oh.lt {w:World} {b:Nat} {S:List Int} (h:oh w b S):b<w.heap.size:=by
 obtain ⟨D,h1,h2⟩:=h;exact h1.lt
theorem oh.made (w:World):oh (w.alloc (.map #[] 0)) w.heap.size [] :=
 ⟨.map [],World.ownsMap_made _ _ _ _,rfl,fun _=>rfl,fun _=>rfl⟩
theorem oh.look {w:World} {b:Nat} {S:List Int} (h:oh w b S) (id:Int) (hid:eG id) :
  (Instr.lookup 139 (.map (some b)) (.int .i64 id) false).run Tryz.prog w=.ok (.bool (decide (id∈S))) w:=by
 obtain ⟨D,h1,-,h2,-⟩:=h;obtain ⟨v,ps,hr,hv⟩:=h1.lookup zT Tryz.underlying139 (acR w) (zd:=yK false) (zp:=[]) rfl (Maps.keyOf_int_mk Tryz.underlying3 hid);rw [h2] at hv;rw [hr,acQ hv]
theorem oh.len {w:World} {b:Nat} {S:List Int} (h:oh w b S) (ty:TypeId) :
  (Builtin.len_ #[139] ty #[.map (some b)]).run Tryz.prog w=.ok (.int .i64 S.length) w:=by
 obtain ⟨D,h1,h2,-⟩:=h;rw [h1.len Tryz.underlying139 ty,h2]
set_option maxRecDepth 100000 in
theorem oh.upd {w:World} {b:Nat} {S:List Int} (h:oh w b S) (hn:S.length<4294967296) (id:Int) (hid:eG id) (hx:id∉S) :
  ∃ w',(Instr.mapUpdate 139 (.map (some b)) (.int .i64 id) (.bool true)).run Tryz.prog w=.ok () w'/\oh w' b (S++[id])/\w.grownBy w' (some b):=by
 obtain ⟨D,h1,h2,h3,h4⟩:=h;have ht:=h1.tidy zT;obtain ⟨w',hr,ho,hg⟩:=h1.update zT Tryz.underlying139 (by unfold maxLen;omega) (Maps.keyOf_int_mk Tryz.underlying3 hid) (val:=.bool true) (d:=yK true) (ps:=[]) rfl;refine ⟨w',hr,⟨_,by rw [List.length_append];exact ho,?_,fun i=>?_,fun i=>?_⟩,hg⟩
 · rw [Maps.size_put ht,h4,decide_eq_false hx,h2,List.length_append];rfl
 ·by_cases e:i=id
  ·subst e;rw [Maps.atKey_put_same ht.isMap (by trivial),decide_eq_true (by simp)]
  ·rw [Maps.atKey_put_other (fun h=>e (by injection h)),h3];congr 1;simp [e]
 ·by_cases e:i=id
  ·subst e;rw [Maps.has_put_same ht.isMap (by trivial),decide_eq_true (by simp)]
  ·rw [Maps.has_put_other (fun h=>e (by injection h)),h4];simp [e]
theorem abt {w:World} {gm:Nat} {S:List Int} (h:oh w gm S) {g:Nat} {t:TypeId} {cs:Array Value} (hg:aj w g t cs):g≠gm:=by
 rintro rfl;obtain ⟨D,h1,-⟩:=h;obtain ⟨es,clock,h2,-⟩:=h1;unfold aj at hg;rw [hg] at h2
 cases h2
theorem ahu {w:World} {gm:Nat} {S:List Int} (h:oh w gm S) {base:Nat} {e:TypeId} {size:Nat} {α:Type} {fe:α->List Value} {v:Value} {l:List α} (ho:Own w base e size fe v l):v.ownBlock≠some gm:=by
 rcases ho.2 with ⟨rfl,_⟩ | ⟨g,cap,cur,rfl,_,hh,_⟩
 · simp [Value.ownBlock]
 ·intro e';exact abt h (cs:=cur) (g:=g) hh (by simpa [Value.ownBlock] using e')
def qo (p:Pl) (O:List (List Int)) (k:Nat):List Int:=(List.range k).map (jT p O)
theorem yE (p:Pl) (O:List (List Int)) (k:Nat):(qo p O k).length=k:=by unfold qo;simp
theorem aqB (p:Pl) (O:List (List Int)) (k:Nat):qo p O (k+1)=qo p O k++[jT p O k]:=by unfold qo;rw [List.range_succ,List.map_append];rfl
theorem jE.VZ {p:Pl} {L:List AD} {O:List (List Int)} {N:List Nd} (h:jE p L O (iM p) N) {i:Nat} (hi:i<L.length):(qm L[i]).map (·.1)=tX p O i:=by
 have hl:=h.len;unfold qm tX gY lS;rw [List.map_cons,h.inn i hi];congr 1;by_cases e:i=0
 · subst e;exact h.ao5 hi
 ·show L[i].out=_
  rw [h.MQ hi (by omega),EH (by omega) (by omega)];rfl
section
variable {p:Pl} (h:Valid p)
include h
theorem Valid.ahv {O:List (List Int)} (hO:∀ X∈O,X∈aI p) {i:Nat} {c:List Int} (hc:c∈tX p O i) {d:Int} (hd:d∈c):d∈aQ p:=by
 unfold tX gY at hc;rcases List.mem_cons.1 hc with rfl | hc
 ·unfold qO at hd;split at hd
  · cases hd
  · cases e:O[i-1]? with
   | none=>rw [e] at hd;cases hd
   | some X =>
    rw [e] at hd;exact (h.iE (fF.1 (hO X (List.mem_of_getElem? e))).1).2 d hd
 ·have:=List.mem_filter.1 hc
  exact (h.iE (tH.1 this.1).1).2 d hd
end
def aqC (w:World) (p:Pl) (O:List (List Int)) (e:Ending) (w':World):Prop :=
 ∃ A n c,e=.returned (.tuple #[.slice A n c,.bool (wM p)])/\Below w.heap.size w w'/\(wM p=true->Own w' w.heap.size 3 1 eU (.slice A n c) (qo p O (O.length+1)))
theorem aqD {p:Pl} {O:List (List Int)} (hO:O.Perm (aI p)) {k:Nat} (hk:k<=O.length) (h:(1<=k/\jT p O k=0)\/(1<=k/\jT p O k∈ql p O k)\/∃ c∈tX p O k,∃ d∈c,iw p d≠jT p O k):wM p=false:=by
 rw [<- Bool.not_eq_true,agy hO];rintro ⟨hu,-⟩;rcases h with ⟨h1,h⟩ | ⟨h1,h⟩ | ⟨c,hc,d,hd,h⟩
 · exact hu.some k h1 (by omega) h
 ·obtain ⟨i,h2,h3,h4⟩:=agx.1 h;exact hu.differ i k h2 h3 (by omega) h4
 · exact h (hu.sides k (by omega) c hc d hd)
set_option maxRecDepth 100000 in
set_option maxHeartbeats 8000000 in
theorem aqE (v vl:Value) (p:Pl) (L:List AD) (O:List (List Int)) (N:List Nd) (w:World) (h:dS w v p) (hv:Valid p) (hl:vM w vl L) (hd:jE p L O (iM p) N) (hO:O.Perm (aI p)) :
  Calls Tryz.prog 108 #[v,vl] w (aqC w p O):=by
 have Gf:=Lib.hid (fun d (hd:eG d) W (hW:Below w.heap.size w W)=>amq v p d W (h.mono hW) hv.short.long hd);have HV:=Lib.hid hv;have HL:=Lib.hid hl;have HD:=Lib.hid hd;have ahw:=hd.len;have hol:O.length<=512:=by
  rw [hO.length_eq];exact Nat.le_trans (List.length_filter_le _ _) hv.GU
 have HSub:=Lib.hid hO.subset;have aeH:1<=L.length/\L.length<=513:=by omega
 have EL:=Lib.hid ahw;have HDa:=Lib.hid (fun i c (hc:c∈tX p O i) d (hd:d∈c)=>hv.ahv (fun X hX=>hO.subset hX) hc hd);have VG:=Lib.hid (fun d (hd:d∈aQ p)=>show eG d from oV (by have:=hv.GR hd;omega) (by have:=hv.GR hd;omega));have ug:=Lib.hid (fun i (hi:i<L.length)=>hd.VZ hi);have qN:=Lib.hid (fun k (hk:k<=O.length)=>aqD hO (k:=k) hk);have ahx:=Lib.hid (agy hO);have DC:=Lib.hid (fun i (hi:i<L.length)=>show L[i].inn.length<=512 from by
  have:=congrArg List.length (hd.inn i hi)
  rw [List.length_map] at this;rw [this];refine Nat.le_trans (List.length_filter_le _ _) ?_;exact Nat.le_trans (List.length_filter_le _ _) hv.GU)
 have HSb:=Lib.hid (fun d=>hv.ao6 d);obtain ⟨Al,cl,rfl,hl1,hl2,hRl⟩:=hl.sl;obtain ⟨_,_,_,al,rfl,hpa,⟨An,cn,rfl,-⟩,⟨⟨Aa,ca,rfl,-⟩,-⟩,⟨Af,cf,rfl,-⟩⟩:=h;unfold maxLen at hl2;have hff:p.faces.length<=64:=(Tm hv.lim).2.2.2.1;have HRl:=Lib.hid hRl;generalize p.nodes.length=nn at *;generalize al.length=na at *;obtain ⟨nf,hnf⟩:∃ nf,p.faces.length=nf:=⟨_,rfl⟩;rw [hnf] at hff ahx Gf ⊢;have Hu:=Lib.hid hnf;clear hpa hRl hv hl hd hnf ahw;have hmm:=@run_makeMap Tryz.prog;go_enter Tryz.func108,Tryz.ntmps108;go_upto_region 2 with fail;obtain ⟨gm,hgm⟩:∃ gm,gm=w.heap.size+1:=⟨_,rfl⟩;obtain ⟨W1,hW⟩:∃ W:World,W=(w.alloc (.cells #[.slice An nn cn,.slice Aa na ca,.slice Af nf cf] 26)).alloc (.map #[] 0):=⟨_,rfl⟩;have X1:aj W1 w.heap.size 26 #[.slice An nn cn,.slice Aa na ca,.slice Af nf cf]:=by rw [hW];exact (aj.made rfl _ _).alloc _
 have mZ:=Lib.hid (show oh W1 gm [] by
  have:=oh.made (w.alloc (.cells #[.slice An nn cn,.slice Aa na ca,.slice Af nf cf] 26))
  rw [hW,hgm];simpa using this)
 have HB1:=Lib.hid (show Below w.heap.size w W1 by rw [hW];exact bA (bA (bR w) _) _);have hgl:w.heap.size<gm:=by omega
 rw [<- hW,<- hgm];clear hW hgm hmm;have fK:=Lib.hid X1;clear X1;go_upto_block 0 with fail;go_wp2_with fail;go_loopw [4,17] (fun s i wr=>∃ k:Nat,k<=L.length/\i=.int .i64 k/\(∃ A c,s=.slice A k c)/\Own wr w.heap.size 3 1 eU s (qo p O k)/\oh wr gm (ql p O k)/\yB p O k/\aj wr w.heap.size 26 #[.slice An nn cn,.slice Aa na ca,.slice Af nf cf]/\Below w.heap.size w wr) (fun _ i _=>L.length-(intOf i).toNat)
 case atStart => exact ⟨0,Nat.zero_le _,rfl,⟨_,_,rfl⟩,Own.nil _ _ _ _ _,mZ.out,yB.zero p O,fK.out,HB1.out⟩
 case round =>
  clear fK mZ HB1;obtain ⟨k,hk,rfl,⟨A,c,rfl⟩,ho,hm,hu,X1,hb⟩:=hrel;obtain ⟨wo,rfl⟩:∃ wo:World,wo=wr:=⟨_,rfl⟩;have HO:=Lib.hid ho;have HM:=Lib.hid hm;have HU:=Lib.hid hu;have HX:=Lib.hid X1;have Hb:=Lib.hid hb;have hfl:=yE p O k;have hsl:=ao8 p O k;have aqF:=hm.lt;clear ho hm hu hb;by_cases hlt:k<L.length
  ·have hko:k<=O.length:=by have:=EL.out;omega
   obtain ⟨b,o,rfl,hlb,c0,c1,c2,c3⟩:=(HRl.out.mono Hb.out).ad hlt;have hcy:=ug.out k hlt;have hcl:=DC.out k hlt;have hout:=HL.out.out _ (List.getElem_mem hlt);have xg:=HL.out.inn _ (List.getElem_mem hlt);have JU:=HL.out.jk _ (List.getElem_mem hlt);have hfc:1<=k->L[k].out≠[]/\jT p O k=iw p (L[k].out.headD 0):=fun h1=>by
    have e1:=HD.out.MQ hlt h1;have hX:O[k-1]'(by omega)∈O:=List.getElem_mem _;rw [e1];exact ⟨HV.out.Ql (fF.1 (HSub.out hX)).1,GV h1 hko⟩
   generalize L[k]=x at *;obtain ⟨tw,out,⟨oa,on,oc⟩,inn,⟨ia,jM,ic⟩,bK,⟨aa,an,ac⟩⟩:=x;unfold aJ at c1 c2 c3 hout xg;simp only at c0 c1 c2 c3 hout xg hcy JU hcl hfc;obtain ⟨fc,abu⟩:∃ fc,jT p O k=fc:=⟨_,rfl⟩;have V3:=Lib.hid (aqB p O k);have HSs:=Lib.hid (fun h=>ao7 p O (k:=k) h);rw [abu] at hfc V3 HSs;have yF:=Lib.hid abu;have abv:=Lib.hid hcy;have abw:=Lib.hid hout;have nJ:=Lib.hid xg;have Nq:=Lib.hid JU;have HFh:=Lib.hid hfc;clear hcy hout xg JU hfc abu;have hfb:0<=fc/\fc<=1073741824:=by
    rw [<- yF.out];unfold jT ku;split
    · omega
    · exact HSb.out _
   have hf0:k=0->fc=0:=fun e=>by rw [<- yF.out,e];rfl
   have hwf:eG fc:=oV (by omega) (by omega);have Lc:=Lib.hid hwf;clear hwf;go_upto_region 5 with fail;obtain ⟨W2,hW⟩:∃ W:World,W=wo.alloc (.cells #[.int .i64 tw,.slice oa on oc,.slice ia jM ic,.slice aa an ac] 82):=⟨_,rfl⟩;have hA:Below wo.heap.size wo W2:=by rw [hW];exact bA (bR wo) _
   have X5:aj W2 wo.heap.size 82 #[.int .i64 tw,.slice oa on oc,.slice ia jM ic,.slice aa an ac]:=by rw [hW];exact aj.made rfl _ _
   replace X1:=X1.keep hA;have iK:=Lib.hid (HO.out.keep hA);have bU:=Lib.hid X1;have bV:=Lib.hid X5;have pX:=Lib.hid (HM.out.keep hA);have HB2:=Lib.hid (bT Hb.out hA);have ahy:=Lib.hid (abw.out.mono (bT Hb.out hA));have hz2:=Hb.out.size;rw [<- hW];clear hW hA HO HM HX Hb c0 c1 c2 c3 hlb;obtain ⟨g5,hg5⟩:∃ g5,wo.heap.size=g5:=⟨_,rfl⟩;rw [hg5] at bV X5 hz2 aqF ⊢;clear hg5;have hS0:k=0->ql p O (k+1)=ql p O k:=fun e=>by subst e;rfl
   have LJ:=Lib.hid hS0;clear hS0;have hkn:O.length<=512:=hol;go_upto_if 23 with fail;go_cut [9,4,5] (fun f s q wx=>f=.int .i64 fc/\s=.slice A k c/\oh wx gm (ql p O (k+1))/\Own wx w.heap.size 3 1 eU (.slice A k c) (qo p O k)/\aj wx w.heap.size 26 #[.slice An nn cn,.slice Aa na ca,.slice Af nf cf]/\aj wx g5 82 #[.int .i64 tw,.slice oa on oc,.slice ia jM ic,.slice aa an ac]/\Below w.heap.size w wx/\(1<=k->fc≠0/\fc∉ql p O k))
   case first =>
    rcases Nat.eq_zero_or_pos k with h0 | h0
    ·have e1:=hf0 h0;have hk0:¬ (0:Int)<(k:Int):=by omega
     have sJ:=pX.out;rw [<- LJ.out h0] at sJ;have pI:=Lib.hid sJ;have HE:=Lib.hid e1;clear sJ e1 hf0 h0 X1 X5;go_wp2_with fail;go_meet
     case rel => exact ⟨by rw [HE.out],rfl,pI.out,iK.out,bU.out,bV.out,HB2.out,fun h=>by omega⟩
    ·have hk0:(0:Int)<(k:Int):=by omega
     obtain ⟨hne,hfe⟩:=HFh.out h0;have hkl:0<out.length:=List.length_pos_iff.2 hne;have hhd:out.headD 0=out[0]:=by
      cases out with
      | nil=>exact absurd rfl hne
      | cons d l'=>rfl
     rw [hhd] at hfe;obtain ⟨Ao,co,hel,-,-,hRo⟩:=ahy.out;injection hel with y1 y2 y3;subst y1 y2 y3;obtain ⟨bl,ol,abg,abh,d0⟩:=(hRo).int hkl;subst abg;simp only [Nat.add_zero] at d0;have kz:(0:Int)<out.length:=by omega
     have kn:¬ out=[]:=hne;have hmem:out[0]∈aQ p:=HDa.out k out (by rw [<- abv.out];exact List.mem_cons_self) _ (List.getElem_mem hkl);have D9:=Lib.hid (fun W (hW:Below w.heap.size w W)=>Gf.out out[0] (VG.out _ hmem) W hW);generalize out[0]=dd at *;rw [<- hfe] at D9;have wJ:=Lib.hid (qN.out k hko);rw [yF.out] at wJ;have HSk:=Lib.hid (HSs.out h0);clear hhd hfe hmem hRo hf0;obtain ⟨aO,aP,aS,aT,-,-,-⟩:=X1.aY;obtain ⟨dw,dB,dL,jK,yT,-,-,-,-⟩:=X5.oD;go_upto_region 7 with fail;refine cZ (Since W2) (.run 5 0 0 (.call 5 63 (.take 6 127 (.done)))) (by kernel_rfl) (bD (bR _)) (by kernel_rfl) (by kernel_rfl) (Nat.le_of_ble_eq_true (by kernel_rfl)) ?_;intro dn QR au aC hS
     iterate 5
      apply bn;exact au;exact rfl;exact hS;exact rfl
      · intro _ hqc;go_simp;try rfl
      try simp only [pu]
     refine aW (i:=5) (aH au rfl) (fun K hK=>?_);have aA:=Lib.hid hS;clear hS;refine aN (aV rfl) ?_;go_simp;refine (D9.out _ (bT HB2.out aA.out)).mono ?_;rintro e bC ⟨rfl,bM⟩;have hS:Since W2 bC:=bT (w:=W2) aA.out bM;clear aA;refine hK.out _ _ hS (fun _=>?_);clear hK K
     try simp only [pu]
     apply bn;exact au;exact rfl;exact hS;exact rfl
     · intro _ hqc;go_simp;try rfl
     try simp only [pu]
     refine bQ ?_;refine aC.down _ _ ?_;have hB:Below W2.heap.size W2 bC:=hS;clear hS aC au;have HB3:=Lib.hid (bT HB2.out hB);have iU:=Lib.hid (iK.out.keep hB);have iR:=Lib.hid (bU.out.keep hB);have EN:=Lib.hid (bV.out.keep hB);have pI:=Lib.hid (pX.out.keep hB);clear hB X1 aO aP aS aT X5 dw dB dL jK yT d0 bM pX iK bU bV HB2 abh kz kn D9;by_cases z:fc=0
     ·have z1:(fc == 0)=true:=by simpa using z
      have hf:=wJ.out (.inl ⟨h0,z⟩);have HF:=Lib.hid hf;clear z hf;go_wp2_with fail;go_ret2;exact ⟨none,0,0,by rw [HF.out];rfl,HB3.out,fun e=>by rw [HF.out] at e;cases e⟩
     ·have z1:(fc == 0)=false:=by simpa using z
      have hlk:=pI.out.look fc Lc.out;by_cases z2:fc∈ql p O k
      ·have hf:=wJ.out (.inr (.inl ⟨h0,z2⟩));have HF:=Lib.hid hf;rw [decide_eq_true z2] at hlk;clear z hf z2;go_wp2_with fail;go_ret2;exact ⟨none,0,0,by rw [HF.out];rfl,HB3.out,fun e=>by rw [HF.out] at e;cases e⟩
      ·rw [decide_eq_false z2] at hlk;obtain ⟨w6,hr6,DF,qQ⟩:=pI.out.upd (by omega) fc Lc.out z2;rw [<- HSk.out] at DF;have zk:=Lib.hid DF;have HZ:=Lib.hid (show fc≠0/\fc∉ql p O k from ⟨z,z2⟩);have Bj:=Lib.hid (Own.grown iU.out qQ (fun g hg e=>ahu pI.out iU.out (by rw [hg,e])));have jI:=Lib.hid (aj.grown iR.out qQ (fun e=>abt pI.out iR.out (Option.some.inj e)));have abl:=Lib.hid (aj.grown EN.out qQ (fun e=>abt pI.out EN.out (Option.some.inj e)));have gZ:=Lib.hid (bG HB3.out qQ (fun g hg=>by have:=Option.some.inj hg;omega));clear DF qQ z z2;go_wp2_with fail;go_meet
       case rel => exact ⟨rfl,rfl,zk.out,Bj.out,jI.out,abl.out,gZ.out,fun _=>HZ.out⟩
   case rest =>
    obtain ⟨rfl,rfl,sJ,ho3,X1,X5,hb3,hzz⟩:=hcut;have pI:=Lib.hid sJ;have iU:=Lib.hid ho3;have iR:=Lib.hid X1;have EN:=Lib.hid X5;have HB3:=Lib.hid hb3;have HZ:=Lib.hid hzz;have vY:=aaW ⟨tw,out,⟨oa,on,oc⟩,inn,⟨ia,jM,ic⟩,bK,⟨aa,an,ac⟩⟩ wc (nJ.out.mono hb3) (by show inn.length<=100000;omega);have ahz:(qm ⟨tw,out,⟨oa,on,oc⟩,inn,⟨ia,jM,ic⟩,bK,⟨aa,an,ac⟩⟩).length<=513:=by show inn.length+1<=513;omega
    have hcr:∀ y∈qm ⟨tw,out,⟨oa,on,oc⟩,inn,⟨ia,jM,ic⟩,bK,⟨aa,an,ac⟩⟩,Ints w (aJ y.2) y.1:=fun y hy=>by
     rcases List.mem_cons.1 hy with rfl | hy
     · exact abw.out
     · exact Nq.out y hy
    have hck:=abv.out;unfold aJ at vY;simp only at vY;generalize qm ⟨tw,out,⟨oa,on,oc⟩,inn,⟨ia,jM,ic⟩,bK,⟨aa,an,ac⟩⟩=CY at *;have F9:=Lib.hid vY;have EU:=Lib.hid hcr;have HDy:=Lib.hid (fun q (hq:q<CY.length) d (hd:d∈CY[q].1)=>HDa.out k CY[q].1 (by rw [<- hck];exact List.mem_map_of_mem (List.getElem_mem hq)) d hd);have HMy:=Lib.hid (fun q (hq:q<CY.length)=>show CY[q].1∈tX p O k from by rw [<- hck];exact List.mem_map_of_mem (List.getElem_mem hq));have aqG:=Lib.hid (fun (h:∀ q (hq:q<CY.length),∀ d∈CY[q].1,iw p d=fc)=>show ∀ c∈tX p O k,∀ d∈c,iw p d=jT p O k from fun c hc d hd=>by
     rw [<- hck] at hc;obtain ⟨y,hy,rfl⟩:=List.mem_map.1 hc;obtain ⟨q,hq,rfl⟩:=List.mem_iff_getElem.1 hy;rw [yF.out];exact h q hq d hd)
    have wJ:=Lib.hid (qN.out k hko);rw [yF.out] at wJ;clear sJ ho3 hb3 hzz pX iK bU bV HB2 vY hcr hck ahy abv abw nJ Nq HFh hf0 LJ HSs
    try clear dw
    try clear dB
    try clear dL
    try clear jK
    try clear yT
    obtain ⟨dw,dB,dL,jK,yT,-,-,-,-⟩:=X5.oD;go_wp2_with fail;refine F9.out.mono ?_;rintro e w3 ⟨⟨A2,c2,rfl,ho2⟩,hb4⟩;have HB4:=Lib.hid (bT HB3.out hb4);have uK:=Lib.hid (iU.out.keep hb4);have dI:=Lib.hid (iR.out.keep hb4);have IQ:=Lib.hid (pI.out.keep hb4);have HR4:=Lib.hid ho2.row_of;have hz4:=hb4.size;clear ho2 hb4 HB3 iU iR EN pI X1 X5 dw dB dL jK yT F9;go_upto_block 2 with fail;go_wp2_with fail;go_loopw [4,42] (fun s i wr=>s=.slice A k c/\∃ j:Nat,j<=CY.length/\i=.int .i64 j/\(∀ q (hq:q<CY.length),q<j->∀ d∈CY[q].1,iw p d=fc)/\Below w3.heap.size w3 wr) (fun _ i _=>CY.length-(intOf i).toNat)
    case atStart => exact ⟨rfl,0,Nat.zero_le _,rfl,(fun q _ h=>by omega),bR w3⟩
    case round =>
     obtain ⟨rfl,j,hj,rfl,hall,hb5⟩:=hrel;have wI:=Lib.hid hall;have dM:=Lib.hid hb5;clear hall hb5;by_cases hlj:j<CY.length
     ·obtain ⟨b,o,rfl,hlb,c0⟩:=(HR4.out.mono dM.out).cy hlj;have hin:=(EU.out CY[j] (List.getElem_mem hlj)).mono (bT HB4.out dM.out);have hdy:=HDy.out j hlj;have EJ:=Lib.hid (HMy.out j hlj);have CX:=Lib.hid (fun (h:∀ d∈CY[j].1,iw p d=fc)=>all_succ (p:=fun y:List Int×SV=>∀ d∈y.1,iw p d=fc) wI.out hlj h);generalize CY[j]=x at *;obtain ⟨X,xa,xn,xc⟩:=x;unfold aJ at hin;simp only at hin c0 hdy EJ CX;obtain ⟨Ax,cx,he,hx1,hx2,V4⟩:=hin;injection he with y1 y2 y3;subst y1 y2 y3;unfold maxLen at hx2;have hxl:X.length<=9223372036854775807:=by omega
      have HRx:=Lib.hid V4;have HDx:=Lib.hid hdy;clear V4 hdy;obtain ⟨wq,rfl⟩:∃ wq:World,wq=wr:=⟨_,rfl⟩;go_upto_block 4 with fail;clear c0 hlb;go_wp2_with fail;go_loopw [4,48] (fun s i wr=>s=.slice A k c/\∃ m:Nat,m<=X.length/\i=.int .i64 m/\(∀ q (hq:q<X.length),q<m->iw p X[q]=fc)/\Below wq.heap.size wq wr) (fun _ i _=>X.length-(intOf i).toNat)
      case atStart => exact ⟨rfl,0,Nat.zero_le _,rfl,(fun q _ h=>by omega),bR wq⟩
      case round =>
       obtain ⟨rfl,m,hmm,rfl,hall,hb6⟩:=hrel;have ahA:=Lib.hid hall;have gZ:=Lib.hid hb6;have iQ:=Lib.hid (bT HB4.out (bT dM.out hb6));clear hall hb6;by_cases hlm:m<X.length
       ·obtain ⟨b2,o2,rfl,V5,e0⟩:=(HRx.out.mono gZ.out).int hlm;have hdm:=HDx.out X[m] (List.getElem_mem hlm);have D9:=Lib.hid (fun W (hW:Below w.heap.size w W)=>Gf.out X[m] (VG.out _ hdm) W hW);have yx:=Lib.hid (fun (h:iw p X[m]≠fc)=>wJ.out (.inr (.inr ⟨X,EJ.out,X[m],List.getElem_mem hlm,h⟩)));have HYm:=Lib.hid (fun (h:iw p X[m]=fc)=>all_succ (p:=fun d=>iw p d=fc) ahA.out hlm h);generalize X[m]=dd at *;obtain ⟨sd,hsd⟩:∃ sd,iw p dd=sd:=⟨_,rfl⟩;rw [hsd] at D9 yx HYm;have X1:=dI.out.keep (bT dM.out gZ.out);clear hsd hdm
        try clear aO
        try clear aP
        try clear aS
        try clear aT
        obtain ⟨aO,aP,aS,aT,-,-,-⟩:=X1.aY;go_wp2_with fail;refine (D9.out _ iQ.out).mono ?_;rintro e w7 ⟨rfl,hb7⟩;have tJ:=Lib.hid (bT gZ.out hb7);have aqH:=Lib.hid (bT iQ.out hb7);clear hb7 X1 aO aP aS aT e0 V5 D9;by_cases z:sd=fc
        ·have z1:(sd != fc)=false:=by simpa using z
         have HYz:=Lib.hid (HYm.out z);clear z;go_wp2_with fail;go_roundw
         case rel => exact ⟨rfl,m+1,by omega,by go_num,HYz.out,tJ.out⟩
         case measure => simp [intOf];omega
        ·have z1:(sd != fc)=true:=by simpa using z
         have HF:=Lib.hid (yx.out z);clear z;go_wp2_with fail;go_ret2;exact ⟨none,0,0,by rw [HF.out];rfl,aqH.out,fun e=>by rw [HF.out] at e;cases e⟩
       ·have hmx:m=X.length:=by omega
        have HNz:=Lib.hid (CX.out fun d hd=>by
         obtain ⟨q,hq,rfl⟩:=List.mem_iff_getElem.1 hd;exact ahA.out q hq (by omega))
        clear hmx;go_wp2_with fail;go_roundw
        case rel => exact ⟨rfl,j+1,by omega,by go_num,HNz.out,bT dM.out gZ.out⟩
        case measure => simp [intOf];omega
     ·have hjx:j=CY.length:=by omega
      have HUk:=Lib.hid (HU.out.succ (fun h=>by rw [yF.out];exact (HZ.out h).1) (fun h=>by rw [yF.out];exact (HZ.out h).2) (aqG.out fun q hq=>wI.out q hq (by omega)));have bV:=Lib.hid (dI.out.keep dM.out);have uf:=Lib.hid (uK.out.keep dM.out);have yA:=Lib.hid (IQ.out.keep dM.out);have ahB:=Lib.hid (bT HB4.out dM.out);have n1:=Own.dU uf.out bV.out (by decide);have n2:=ahu yA.out uf.out;have ahC:=yE p O (k+1);clear hjx dI uK IQ HB4 HR4;go_upto_region 22 with
       (at_builtin
        refine lq _ rfl (.tmp 59) (.tmp 61) _ rfl (base:=w.heap.size) zQ xC zS rfl (Own.alloc uf.out _) rfl (l2:=[fc]) (Sl.lit (n:=1) (aj.made rfl _ _) rfl (fQ (by omega))) (by simp only [List.length_cons,List.length_nil];omega) (by simp only [List.length_cons,List.length_nil];omega) (by have:=ahB.out.size;simp;omega) ?_;intro v8 w8 V6 xu aqI;rw [<- V3.out] at V6;obtain ⟨A8,c8,hv8,-⟩:=Own.qM V6;rw [ahC] at hv8;subst hv8;have HO8:=Lib.hid V6;have V7:=Lib.hid ((yA.out.keep (bA (bR wr) _)).kept xu (fun e=>n2 e.symm));have D8:=Lib.hid (aj.grown (bV.out.alloc _) xu (fun e=>n1 e.symm));have yG:=Lib.hid (bG (bA ahB.out _) xu (fun g hg=>(uf.out.lt g hg).1));clear V6 xu aqI
        )
      clear n1 n2 ahC;go_wp2_with fail;go_roundw
      case rel => exact ⟨k+1,by omega,by go_num,⟨A8,c8,rfl⟩,HO8.out,V7.out,HUk.out,D8.out,yG.out⟩
      case measure => simp [intOf];omega
  ·have hkk:k=L.length:=by omega
   have abx:O.length+1=k:=by have:=EL.out;omega
   have hlen:=fun ty=>(HM.out.keep (bD (bR wo))).len ty;have hres:wM p=(((ql p O k).length:Int) == (nf:Int)):=by
    have hy:=ahx.out;rw [abx] at hy;rw [Bool.eq_iff_iff,hy,hsl];constructor
    · rintro ⟨-,e⟩;simp;omega
    · intro e;simp at e;exact ⟨HU.out,by omega⟩
   have ho:=HO.out;have MC:=Lib.hid (show Own wo w.heap.size 3 1 eU (.slice A k c) (qo p O (O.length+1)) by rw [abx];exact ho);have HRe:=Lib.hid hres;generalize ql p O k=S at *;clear hres ho hkk abx hsl
   try clear aO
   try clear aP
   try clear aS
   try clear aT
   obtain ⟨aO,aP,aS,aT,-,-,-⟩:=X1.aY;go_upto_region 23 with fail;refine cZ (Since wo) (.take 0 1 (.take 1 3 (.run 3 3 3 (.call 2 63 (.run 3 6 63 (.done)))))) (by kernel_rfl) (bD (bR _)) (by kernel_rfl) (by kernel_rfl) (Nat.le_of_ble_eq_true (by kernel_rfl)) ?_;intro dn QR au aC hS
   iterate 5
    apply bn;exact au;exact rfl;exact hS;exact rfl
    · intro _ hqc;go_simp;try rfl
    try simp only [pu]
   refine aW (i:=2) (aH au rfl) (fun K hK=>?_);have aA:=Lib.hid hS;clear hS;refine aN (aV rfl) ?_;go_simp;refine hK.out _ _ aA.out (fun hS=>?_);clear hK K aA
   try simp only [pu]
   iterate 3
    apply bn;exact au;exact rfl;exact hS;exact rfl
    · intro _ hqc;go_simp;try rfl
    try simp only [pu]
   refine bQ ?_;refine aC.down _ _ ?_;have hB:Below wo.heap.size wo _:=hS;clear hS aC au;have rP:=Lib.hid (bT Hb.out hB);have aqJ:=Lib.hid (MC.out.keep hB);clear hB;go_wp2_with fail;go_ret2;exact ⟨A,k,c,by rw [HRe.out];rfl,rP.out,fun _=>aqJ.out⟩
theorem aby {l:List Int} (h:l.Pairwise (· < ·)) (n:Int):(BK l n).Pairwise (· < ·)/\∀ x,x∈BK l n↔x∈l\/x=n:=by
 unfold BK;split
 ·rename_i hc;rw [List.any_eq_true] at hc;obtain ⟨y,hy,e⟩:=hc;simp only [decide_eq_true_eq] at e;subst e;refine ⟨h,fun x=>⟨.inl,fun h=>?_⟩⟩;rcases h with h | rfl
  · exact h
  · exact hy
 ·rename_i hc;have hn:n∉l:=fun hm=>hc (List.any_eq_true.2 ⟨n,hm,by simp⟩);have hall:l.takeWhile (fun y=>decide (y<n))++l.dropWhile (fun y=>decide (y<n))=l:=List.takeWhile_append_dropWhile;have h1:∀ y∈l.takeWhile (fun y=>decide (y<n)),y<n:=fun y hy=>by
   have:=List.all_eq_true.1 (List.all_takeWhile (p:=fun y=>decide (y<n)) (l:=l)) y hy
   simpa using this
  have hp:=h;rw [<- hall,List.pairwise_append] at hp;have h2:∀ y∈l.dropWhile (fun y=>decide (y<n)),n<y:=by
   intro y hy
   cases hd:l.dropWhile (fun y=>decide (y<n)) with
   | nil=>rw [hd] at hy;cases hy
   | cons z m =>
    have hz:¬ z<n:=by
     have:=List.head_dropWhile_not (fun y=>decide (y<n)) (l:=l) (by rw [hd];simp)
     simp only [hd,List.head_cons] at this;simpa using this
    have hzl:z∈l:=by rw [<- hall];exact List.mem_append_right _ (by rw [hd];exact List.mem_cons_self)
    have hzn:z≠n:=fun e=>hn (e ▸ hzl);rw [hd] at hy;rcases List.mem_cons.1 hy with rfl | hy
    · omega
    ·have hp2:=hp.2.1;rw [hd] at hp2;have:=(List.pairwise_cons.1 hp2).1 y hy
     omega
  refine ⟨?_,fun x=>?_⟩
  ·rw [List.pairwise_append,List.pairwise_cons];refine ⟨hp.1,⟨h2,hp.2.1⟩,fun a ha b hb=>?_⟩;rcases List.mem_cons.1 hb with rfl | hb
   · exact h1 a ha
   · exact hp.2.2 a ha b hb
  ·have:x∈l↔x∈l.takeWhile (fun y=>decide (y<n))\/x∈l.dropWhile (fun y=>decide (y<n)):=by
    rw [<- List.mem_append,hall]
   rw [this,List.mem_append,List.mem_cons];constructor
   ·rintro (h | h | h)
    · exact .inl (.inl h)
    · exact .inr h
    · exact .inl (.inr h)
   ·rintro ((h | h) | h)
    · exact .inl h
    · exact .inr (.inr h)
    · exact .inr (.inl h)
theorem aqK (l:List Int):(VY l).Pairwise (· < ·)/\∀ x,x∈VY l↔x∈l:=by
 have:∀ (l acc:List Int),acc.Pairwise (· < ·)->(l.foldl BK acc).Pairwise (· < ·)/\∀ x,x∈l.foldl BK acc↔x∈acc\/x∈l:=by
  intro l
  induction l with
  | nil=>intro acc h;exact ⟨h,fun x=>by simp⟩
  | cons a l ih =>
   intro acc h;rw [List.foldl_cons];obtain ⟨h1,h2⟩:=aby h a;obtain ⟨h3,h4⟩:=ih _ h1;refine ⟨h3,fun x=>?_⟩;rw [h4,h2,List.mem_cons,or_assoc]
 obtain ⟨h1,h2⟩:=this l [] List.Pairwise.nil;exact ⟨h1,fun x=>by rw [show VY l=l.foldl BK [] from rfl,h2];simp⟩
theorem xq.jG {w:World} {B B':Nat} {v:Value} {L:List AD} (h:xq w B v L) (hb:B'<=B):xq w B' v L :=
 ⟨h.own.jG hb,fun x hx=>(h.out x hx).jG hb,fun x hx=>(h.inn x hx).jG hb,fun x hx c hc=>(h.jk x hx c hc).jG hb,fun x hx=>(h.bK x hx).jG hb⟩
theorem Own.aqL {e:TypeId} {w:World} {B g n c:Nat} {L:List AD} (h:Own w B e 4 dP (.slice (some ⟨g,0,none⟩) n c) L) {k:Nat} (hk:k<L.length):g<w.heap.size/\(∀ j,w.frozen? ⟨g,j,none⟩=false) /\
  w.cell? ⟨g,k*4,none⟩=some (.int .i64 L[k].tw)/\w.cell? ⟨g,k*4+1,none⟩=some (aJ L[k].ov)/\w.cell? ⟨g,k*4+2,none⟩=some (aJ L[k].iv)/\w.cell? ⟨g,k*4+3,none⟩=some (aJ L[k].av):=by
 obtain ⟨g',hg,-,h1,h2,h3⟩:=Own.G5 h (by omega);injection hg with hg;injection hg with hg _ _;subst hg;exact ⟨h1,h2,h3 k hk⟩
theorem xq.face {w:World} {B g n c:Nat} {L:List AD} (h:xq w B (.slice (some ⟨g,0,none⟩) n c) L) {i:Nat} (hi:i<L.length) (f:Int) :
  xq (w.setCell ⟨g,i*4,none⟩ (.int .i64 f)) B (.slice (some ⟨g,0,none⟩) n c) (L.set i {L[i] with tw:=f}):=by
 have hm:=List.getElem_mem hi;refine ⟨?_,fun x hx=>?_,fun x hx=>?_,fun x hx=>?_,fun x hx=>?_⟩
 ·have:=Own.Mc vJ h.own hi (j:=0) (by omega) {L[i] with tw:=f} (.int .i64 f) rfl
  simpa using this
 ·rcases wZ hx with ⟨rfl,_⟩ | ⟨j,hj,_,rfl⟩
  · exact Own.G8 (h.out L[i] hm) h.own (by decide) _ _
  · exact Own.G8 (h.out _ (List.getElem_mem hj)) h.own (by decide) _ _
 ·rcases wZ hx with ⟨rfl,_⟩ | ⟨j,hj,_,rfl⟩
  · exact Own.G8 (h.inn L[i] hm) h.own (by decide) _ _
  · exact Own.G8 (h.inn _ (List.getElem_mem hj)) h.own (by decide) _ _
 ·rcases wZ hx with ⟨rfl,_⟩ | ⟨j,hj,_,rfl⟩
  · exact fun c hc=>Own.G8 (h.jk L[i] hm c hc) h.own (by decide) _ _
  · exact fun c hc=>Own.G8 (h.jk _ (List.getElem_mem hj) c hc) h.own (by decide) _ _
 ·rcases wZ hx with ⟨rfl,_⟩ | ⟨j,hj,_,rfl⟩
  · exact Own.G8 (h.bK L[i] hm) h.own (by decide) _ _
  · exact Own.G8 (h.bK _ (List.getElem_mem hj)) h.own (by decide) _ _
structure V8 (n:Nat) (v:Value) (L:List AD):Prop where
 own:∀ q,v.ownBlock=some q->q<n
 out:∀ x∈L,∀ q,(aJ x.ov).ownBlock=some q->q<n
 inn:∀ x∈L,∀ q,(aJ x.iv).ownBlock=some q->q<n
 jk:∀ x∈L,∀ c∈x.inn,∀ q,(aJ c.2).ownBlock=some q->q<n
 bK:∀ x∈L,∀ q,(aJ x.av).ownBlock=some q->q<n
theorem V8.face {n:Nat} {v:Value} {L L':List AD} (h:V8 n v L) (hl:∀ x∈L',∃ y∈L,∃ t,x = {y with tw:=t}):V8 n v L' :=
 ⟨h.own,fun x hx=>by obtain ⟨y,hy,t,rfl⟩:=hl x hx;exact h.out y hy,fun x hx=>by obtain ⟨y,hy,t,rfl⟩:=hl x hx;exact h.inn y hy,fun x hx=>by obtain ⟨y,hy,t,rfl⟩:=hl x hx;exact h.jk y hy,fun x hx=>by obtain ⟨y,hy,t,rfl⟩:=hl x hx;exact h.bK y hy⟩
theorem xq.grown {w w':World} {B n:Nat} {v:Value} {L:List AD} {row:Option Nat} (h:xq w B v L) (hl:V8 n v L) (hg:w.grownBy w' row) (hr:∀ q,row=some q->n<=q):xq w' B v L:=by
 have ne:∀ g,g<n->some g≠row:=fun g hgn e=>by have:=hr g e.symm;omega
 exact ⟨Own.grown h.own hg (fun g hg=>ne g (hl.own g hg)),fun x hx=>Own.grown (h.out x hx) hg (fun g hg=>ne g (hl.out x hx g hg)),fun x hx=>Own.grown (h.inn x hx) hg (fun g hg=>ne g (hl.inn x hx g hg)),fun x hx c hc=>Own.grown (h.jk x hx c hc) hg (fun g hg=>ne g (hl.jk x hx c hc g hg)),fun x hx=>Own.grown (h.bK x hx) hg (fun g hg=>ne g (hl.bK x hx g hg))⟩
def zK (p:Pl) (O:List (List Int)) (L:List AD) (k:Nat):List AD:=(List.range L.length).map fun i=>{L.getD i ad0 with tw:=if i<k then jT p O i else 0}
theorem JX (p:Pl) (O:List (List Int)) (L:List AD) (k:Nat):(zK p O L k).length=L.length:=by unfold zK;simp
theorem Nu {p:Pl} {O:List (List Int)} {L:List AD} {k i:Nat} (hi:i<(zK p O L k).length) (hl:i<L.length):(zK p O L k)[i] = {L[i] with tw:=if i<k then jT p O i else 0}:=by
 simp only [zK,List.getElem_map,List.getElem_range,List.getD_eq_getElem?_getD,List.getElem?_eq_getElem hl,Option.getD_some]
theorem aqM {p:Pl} {O:List (List Int)} {L:List AD} {k:Nat} {x:AD} (hx:x∈zK p O L k):∃ y∈L,∃ t,x = {y with tw:=t}:=by
 obtain ⟨i,hi,rfl⟩:=List.mem_iff_getElem.1 hx;have hl:i<L.length:=by rw [JX] at hi;exact hi
 exact ⟨L[i],List.getElem_mem hl,_,Nu hi hl⟩
theorem yB.nodup {p:Pl} {O:List (List Int)} {k:Nat} (h:yB p O k):(ql p O k).Nodup:=by
 unfold ql List.Nodup;rw [List.pairwise_map,List.pairwise_iff_getElem];intro i j hi hj hij;simp only [List.length_range] at hi hj;simp only [List.getElem_range];exact h.differ (i+1) (j+1) (by omega) (by omega) (by omega)
theorem aqN {p:Pl} {O:List (List Int)} {L:List AD} {R:List (List Int)} {N:List Nd} (h:jE p L O R N) (k:Nat):jE p (zK p O L k) O R N:=by
 refine ⟨?_,fun i hi=>?_,fun i hi=>?_⟩
 ·rw [<- h.out];apply List.ext_getElem (by simp [JX]);intro i h1 h2;have h3:i<L.length:=by simpa using h2
  rw [List.getElem_map,List.getElem_map,Nu _ h3]
 ·have h3:i<L.length:=by rw [JX] at hi;exact hi
  rw [Nu hi h3];exact h.inn i h3
 ·have h3:i<L.length:=by rw [JX] at hi;exact hi
  rw [Nu hi h3];exact h.bK i h3
end Go.Proofs.YtialfdomhoojiaaGreat
