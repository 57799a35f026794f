import Derived.Maps.OwnSet
import Derived.Test.YtialfdomhoojiaaGreatJ01
import Derived.Test.YtialfdomhoojiaaGreatJ15
import Derived.Test.YtialfdomhoojiaaGreatJ22
import Derived.Test.YtialfdomhoojiaaGreatJ24
import Derived.Test.YtialfdomhoojiaaGreatJ25
import Derived.Test.YtialfdomhoojiaaGreatJ03
import Derived.Test.YtialfdomhoojiaaGreatJ17
import Derived.Test.YtialfdomhoojiaaGreatJ09
import Derived.Test.YtialfdomhoojiaaGreatJ23
set_option linter.unusedSimpArgs false
set_option linter.unusedVariables false
namespace Go.Proofs.YtialfdomhoojiaaGreat
open Go.RowKit
def ng (w:World) (b:Nat) (S:List Int):Prop :=
 ∃ D:DataW Unit,w.ownsMap Tryz.prog 3 QK b S.length D/\Maps.size D=S.length/\(∀ id,D.atKey (.int .i64 id) (x9 false)=x9 (decide (id∈S)))/\∀ id,Maps.has D (.int .i64 id)=decide (id∈S)
theorem ng.kept {w w':World} {b:Nat} {S:List Int} (h:ng w b S) {row:Option Nat} (hg:w.grownBy w' row) (hr:some b≠row):ng w' b S:=by
 obtain ⟨D,h1,h2⟩:=h;exact ⟨D,h1.kept hg hr,h2⟩
theorem ng.keep {w w':World} {b:Nat} {S:List Int} (h:ng w b S) (hb:Below w.heap.size w w'):ng w' b S :=
 h.kept (row:=none) ⟨hb.os,hb.tape,hb.output,hb.size,fun i hi _=>hb.block i hi⟩ (by simp)
theorem ng.lt {w:World} {b:Nat} {S:List Int} (h:ng w b S):b<w.heap.size:=by
 obtain ⟨D,h1,h2⟩:=h;exact h1.lt
theorem ng.made (w:World):ng (w.alloc (.map #[] 0)) w.heap.size [] :=
 ⟨.map [],World.ownsMap_made _ _ _ _,rfl,fun _=>rfl,fun _=>rfl⟩
theorem ng.look {w:World} {b:Nat} {S:List Int} (h:ng w b S) (id:Int) (hid:dP id) :
  (Instr.lookup 139 (.map (some b)) (.int .i64 id) false).run Tryz.prog w=.ok (.bool (decide (id∈S))) w:=by
 obtain ⟨D,h1,-,h2,-⟩:=h;obtain ⟨v,ps,hr,hv⟩:=h1.lookup yS Tryz.underlying139 (abX w) (zd:=x9 false) (zp:=[]) rfl (Maps.keyOf_int_mk Tryz.underlying3 hid);rw [h2] at hv;rw [hr,abW hv]
theorem ng.len {w:World} {b:Nat} {S:List Int} (h:ng w b S) (ty:TypeId) :
  (Builtin.len_ #[139] ty #[.map (some b)]).run Tryz.prog w=.ok (.int .i64 S.length) w:=by
 obtain ⟨D,h1,h2,-⟩:=h;rw [h1.len Tryz.underlying139 ty,h2]
set_option maxRecDepth 100000 in
theorem ng.upd {w:World} {b:Nat} {S:List Int} (h:ng w b S) (hn:S.length<4294967296) (id:Int) (hid:dP id) (hx:id∉S) :
  ∃ w',(Instr.mapUpdate 139 (.map (some b)) (.int .i64 id) (.bool true)).run Tryz.prog w=.ok () w'/\ng w' b (S++[id])/\w.grownBy w' (some b):=by
 obtain ⟨D,h1,h2,h3,h4⟩:=h;have ht:=h1.tidy yS;obtain ⟨w',hr,ho,hg⟩:=h1.update yS Tryz.underlying139 (by unfold maxLen;omega) (Maps.keyOf_int_mk Tryz.underlying3 hid) (val:=.bool true) (d:=x9 true) (ps:=[]) rfl;refine ⟨w',hr,⟨_,by rw [List.length_append];exact ho,?_,fun i=>?_,fun i=>?_⟩,hg⟩
 · rw [Maps.size_put ht,h4,decide_eq_false hx,h2,List.length_append];rfl
 ·by_cases e:i=id
  ·subst e;rw [Maps.atKey_put_same ht.isMap (by trivial),decide_eq_true (by simp)]
  ·rw [Maps.atKey_put_other (fun h=>e (by injection h)),h3];congr 1;simp [e]
 ·by_cases e:i=id
  ·subst e;rw [Maps.has_put_same ht.isMap (by trivial),decide_eq_true (by simp)]
  ·rw [Maps.has_put_other (fun h=>e (by injection h)),h4];simp [e]
theorem aax {w:World} {gm:Nat} {S:List Int} (h:ng w gm S) {g:Nat} {t:TypeId} {cs:Array Value} (hg:aj w g t cs):g≠gm:=by
 rintro rfl;obtain ⟨D,h1,-⟩:=h;obtain ⟨es,clock,h2,-⟩:=h1;unfold aj at hg;rw [hg] at h2
 cases h2
theorem agB {w:World} {gm:Nat} {S:List Int} (h:ng w gm S) {base:Nat} {e:TypeId} {size:Nat} {α:Type} {fe:α->List Value} {v:Value} {l:List α} (ho:Own w base e size fe v l):v.ownBlock≠some gm:=by
 rcases ho.2 with ⟨rfl,_⟩ | ⟨g,cap,cur,rfl,_,hh,_⟩
 · simp [Value.ownBlock]
 ·intro e';exact aax h (cs:=cur) (g:=g) hh (by simpa [Value.ownBlock] using e')
def pI (p:Pl) (O:List (List Int)) (k:Nat):List Int:=(List.range k).map (jF p O)
theorem xK (p:Pl) (O:List (List Int)) (k:Nat):(pI p O k).length=k:=by unfold pI;simp
theorem apu (p:Pl) (O:List (List Int)) (k:Nat):pI p O (k+1)=pI p O k++[jF p O k]:=by unfold pI;rw [List.range_succ,List.map_append];rfl
theorem jf.UN {p:Pl} {L:List AD} {O:List (List Int)} {N:List Nd} (h:jf p L O (iP p) N) {i:Nat} (hi:i<L.length):(kN L[i]).map (·.1)=rQ p O i:=by
 have hl:=h.len;unfold kN rQ jq lW;rw [List.map_cons,h.inn i hi];congr 1;by_cases e:i=0
 · subst e;exact h.anW hi
 ·show L[i].out=_
  rw [h.KY hi (by omega),DC (by omega) (by omega)];rfl
section
variable {p:Pl} (h:Valid p)
include h
theorem Valid.agC {O:List (List Int)} (hO:∀ X∈O,X∈aN p) {i:Nat} {c:List Int} (hc:c∈rQ p O i) {d:Int} (hd:d∈c):d∈aQ p:=by
 unfold rQ jq at hc;rcases List.mem_cons.1 hc with rfl | hc
 ·unfold qA at hd;split at hd
  · cases hd
  · cases e:O[i-1]? with
   | none=>rw [e] at hd;cases hd
   | some X =>
    rw [e] at hd;exact (h.kK (kH.1 (hO X (List.mem_of_getElem? e))).1).2 d hd
 ·have:=List.mem_filter.1 hc
  exact (h.kK (zC.1 this.1).1).2 d hd
end
def apv (w:World) (p:Pl) (O:List (List Int)) (e:Ending) (w':World):Prop :=
 ∃ A n c,e=.returned (.tuple #[.slice A n c,.bool (vJ p)])/\Below w.heap.size w w'/\(vJ p=true->Own w' w.heap.size 3 1 dO (.slice A n c) (pI p O (O.length+1)))
theorem apw {p:Pl} {O:List (List Int)} (hO:O.Perm (aN p)) {k:Nat} (hk:k<=O.length) (h:(1<=k/\jF p O k=0)\/(1<=k/\jF p O k∈pF p O k)\/∃ c∈rQ p O k,∃ d∈c,jd p d≠jF p O k):vJ p=false:=by
 rw [<- Bool.not_eq_true,aft hO];rintro ⟨hu,-⟩;rcases h with ⟨h1,h⟩ | ⟨h1,h⟩ | ⟨c,hc,d,hd,h⟩
 · exact hu.some k h1 (by omega) h
 ·obtain ⟨i,h2,h3,h4⟩:=afs.1 h;exact hu.differ i k h2 h3 (by omega) h4
 · exact h (hu.sides k (by omega) c hc d hd)
set_option maxRecDepth 100000 in
set_option maxHeartbeats 8000000 in
theorem apx (v vl:Value) (p:Pl) (L:List AD) (O:List (List Int)) (N:List Nd) (w:World) (h:dS w v p) (hv:Valid p) (hl:uK w vl L) (hd:jf p L O (iP p) N) (hO:O.Perm (aN p)) :
  Calls Tryz.prog 108 #[v,vl] w (apv w p O):=by
 have EJ:=Lib.hid (fun d (hd:dP d) W (hW:Below w.heap.size w W)=>adJ v p d W (h.mono hW) hv.short.long hd);have HV:=Lib.hid hv;have HL:=Lib.hid hl;have HD:=Lib.hid hd;have agD:=hd.len;have hol:O.length<=512:=by
  rw [hO.length_eq];exact Nat.le_trans (List.length_filter_le _ _) hv.DF
 have HSub:=Lib.hid hO.subset;have adN:1<=L.length/\L.length<=513:=by omega
 have DR:=Lib.hid agD;have HDa:=Lib.hid (fun i c (hc:c∈rQ p O i) d (hd:d∈c)=>hv.agC (fun X hX=>hO.subset hX) hc hd);have Uw:=Lib.hid (fun d (hd:d∈aQ p)=>show dP d from kQ (by have:=hv.Dv hd;omega) (by have:=hv.Dv hd;omega));have qU:=Lib.hid (fun i (hi:i<L.length)=>hd.UN hi);have qy:=Lib.hid (fun k (hk:k<=O.length)=>apw hO (k:=k) hk);have agE:=Lib.hid (aft hO);have xJ:=Lib.hid (fun i (hi:i<L.length)=>show L[i].inn.length<=512 from by
  have:=congrArg List.length (hd.inn i hi)
  rw [List.length_map] at this;rw [this];refine Nat.le_trans (List.length_filter_le _ _) ?_;exact Nat.le_trans (List.length_filter_le _ _) hv.DF)
 have HSb:=Lib.hid (fun d=>hv.anX d);obtain ⟨Al,cl,rfl,hl1,hl2,hRl⟩:=hl.sl;obtain ⟨_,_,_,al,rfl,hpa,⟨An,cn,rfl,-⟩,⟨⟨Aa,ca,rfl,-⟩,-⟩,⟨Af,cf,rfl,-⟩⟩:=h;unfold maxLen at hl2;have hff:p.faces.length<=64:=(QY hv.lim).2.2.2.1;have HRl:=Lib.hid hRl;generalize p.nodes.length=nn at *;generalize al.length=na at *;obtain ⟨nf,hnf⟩:∃ nf,p.faces.length=nf:=⟨_,rfl⟩;rw [hnf] at hff agE EJ ⊢;have PK:=Lib.hid hnf;clear hpa hRl hv hl hd hnf agD;have hmm:=@run_makeMap Tryz.prog;go_enter Tryz.func108,Tryz.ntmps108;go_upto_region 2 with fail;obtain ⟨gm,hgm⟩:∃ gm,gm=w.heap.size+1:=⟨_,rfl⟩;obtain ⟨W1,hW⟩:∃ W:World,W=(w.alloc (.cells #[.slice An nn cn,.slice Aa na ca,.slice Af nf cf] 26)).alloc (.map #[] 0):=⟨_,rfl⟩;have X1:aj W1 w.heap.size 26 #[.slice An nn cn,.slice Aa na ca,.slice Af nf cf]:=by rw [hW];exact (aj.made rfl _ _).alloc _
 have qw:=Lib.hid (show ng W1 gm [] by
  have:=ng.made (w.alloc (.cells #[.slice An nn cn,.slice Aa na ca,.slice Af nf cf] 26))
  rw [hW,hgm];simpa using this)
 have HB1:=Lib.hid (show Below w.heap.size w W1 by rw [hW];exact bA (bA (bR w) _) _);have hgl:w.heap.size<gm:=by omega
 rw [<- hW,<- hgm];clear hW hgm hmm;have eH:=Lib.hid X1;clear X1;go_upto_block 0 with fail;go_wp2_with fail;go_loopw [4,17] (fun s i wr=>∃ k:Nat,k<=L.length/\i=.int .i64 k/\(∃ A c,s=.slice A k c)/\Own wr w.heap.size 3 1 dO s (pI p O k)/\ng wr gm (pF p O k)/\xH p O k/\aj wr w.heap.size 26 #[.slice An nn cn,.slice Aa na ca,.slice Af nf cf]/\Below w.heap.size w wr) (fun _ i _=>L.length-(intOf i).toNat)
 case atStart => exact ⟨0,Nat.zero_le _,rfl,⟨_,_,rfl⟩,Own.nil _ _ _ _ _,qw.out,xH.zero p O,eH.out,HB1.out⟩
 case round =>
  clear eH qw HB1;obtain ⟨k,hk,rfl,⟨A,c,rfl⟩,ho,hm,hu,X1,hb⟩:=hrel;obtain ⟨wo,rfl⟩:∃ wo:World,wo=wr:=⟨_,rfl⟩;have HO:=Lib.hid ho;have HM:=Lib.hid hm;have HU:=Lib.hid hu;have HX:=Lib.hid X1;have Hb:=Lib.hid hb;have hfl:=xK p O k;have hsl:=anZ p O k;have apy:=hm.lt;clear ho hm hu hb;by_cases hlt:k<L.length
  ·have hko:k<=O.length:=by have:=DR.out;omega
   obtain ⟨b,o,rfl,hlb,c0,c1,c2,c3⟩:=(HRl.out.mono Hb.out).ad hlt;have hcy:=qU.out k hlt;have hcl:=xJ.out k hlt;have hout:=HL.out.out _ (List.getElem_mem hlt);have vX:=HL.out.inn _ (List.getElem_mem hlt);have I9:=HL.out.iJ _ (List.getElem_mem hlt);have hfc:1<=k->L[k].out≠[]/\jF p O k=jd p (L[k].out.headD 0):=fun h1=>by
    have e1:=HD.out.KY hlt h1;have hX:O[k-1]'(by omega)∈O:=List.getElem_mem _;rw [e1];exact ⟨HV.out.OV (kH.1 (HSub.out hX)).1,FB h1 hko⟩
   generalize L[k]=x at *;obtain ⟨tw,out,⟨oa,on,oc⟩,inn,⟨ia,iT,ic⟩,bn,⟨aa,an,ac⟩⟩:=x;unfold aH at c1 c2 c3 hout vX;simp only at c0 c1 c2 c3 hout vX hcy I9 hcl hfc;obtain ⟨fc,aay⟩:∃ fc,jF p O k=fc:=⟨_,rfl⟩;have UO:=Lib.hid (apu p O k);have HSs:=Lib.hid (fun h=>anY p O (k:=k) h);rw [aay] at hfc UO HSs;have Jc:=Lib.hid aay;have aaz:=Lib.hid hcy;have aaA:=Lib.hid hout;have mg:=Lib.hid vX;have LC:=Lib.hid I9;have HFh:=Lib.hid hfc;clear hcy hout vX I9 hfc aay;have hfb:0<=fc/\fc<=1073741824:=by
    rw [<- Jc.out];unfold jF oP;split
    · omega
    · exact HSb.out _
   have hf0:k=0->fc=0:=fun e=>by rw [<- Jc.out,e];rfl
   have hwf:dP fc:=kQ (by omega) (by omega);have JV:=Lib.hid hwf;clear hwf;go_upto_region 5 with fail;obtain ⟨W2,hW⟩:∃ W:World,W=wo.alloc (.cells #[.int .i64 tw,.slice oa on oc,.slice ia iT ic,.slice aa an ac] 82):=⟨_,rfl⟩;have hA:Below wo.heap.size wo W2:=by rw [hW];exact bA (bR wo) _
   have X5:aj W2 wo.heap.size 82 #[.int .i64 tw,.slice oa on oc,.slice ia iT ic,.slice aa an ac]:=by rw [hW];exact aj.made rfl _ _
   replace X1:=X1.keep hA;have fM:=Lib.hid (HO.out.keep hA);have bY:=Lib.hid X1;have bK:=Lib.hid X5;have sO:=Lib.hid (HM.out.keep hA);have HB2:=Lib.hid (bT Hb.out hA);have agF:=Lib.hid (aaA.out.mono (bT Hb.out hA));have hz2:=Hb.out.size;rw [<- hW];clear hW hA HO HM HX Hb c0 c1 c2 c3 hlb;obtain ⟨g5,hg5⟩:∃ g5,wo.heap.size=g5:=⟨_,rfl⟩;rw [hg5] at bK X5 hz2 apy ⊢;clear hg5;have hS0:k=0->pF p O (k+1)=pF p O k:=fun e=>by subst e;rfl
   have J8:=Lib.hid hS0;clear hS0;have hkn:O.length<=512:=hol;go_upto_if 23 with fail;go_cut [9,4,5] (fun f s q wx=>f=.int .i64 fc/\s=.slice A k c/\ng wx gm (pF p O (k+1))/\Own wx w.heap.size 3 1 dO (.slice A k c) (pI p O k)/\aj wx w.heap.size 26 #[.slice An nn cn,.slice Aa na ca,.slice Af nf cf]/\aj wx g5 82 #[.int .i64 tw,.slice oa on oc,.slice ia iT ic,.slice aa an ac]/\Below w.heap.size w wx/\(1<=k->fc≠0/\fc∉pF p O k))
   case first =>
    rcases Nat.eq_zero_or_pos k with h0 | h0
    ·have e1:=hf0 h0;have hk0:¬ (0:Int)<(k:Int):=by omega
     have oI:=sO.out;rw [<- J8.out h0] at oI;have lG:=Lib.hid oI;have HE:=Lib.hid e1;clear oI e1 hf0 h0 X1 X5;go_wp2_with fail;go_meet
     case rel => exact ⟨by rw [HE.out],rfl,lG.out,fM.out,bY.out,bK.out,HB2.out,fun h=>by omega⟩
    ·have hk0:(0:Int)<(k:Int):=by omega
     obtain ⟨hne,hfe⟩:=HFh.out h0;have hkl:0<out.length:=List.length_pos_iff.2 hne;have hhd:out.headD 0=out[0]:=by
      cases out with
      | nil=>exact absurd rfl hne
      | cons d l'=>rfl
     rw [hhd] at hfe;obtain ⟨Ao,co,hel,-,-,hRo⟩:=agF.out;injection hel with y1 y2 y3;subst y1 y2 y3;obtain ⟨bl,ol,aaj,aak,d0⟩:=(hRo).int hkl;subst aaj;simp only [Nat.add_zero] at d0;have kz:(0:Int)<out.length:=by omega
     have kn:¬ out=[]:=hne;have hmem:out[0]∈aQ p:=HDa.out k out (by rw [<- aaz.out];exact List.mem_cons_self) _ (List.getElem_mem hkl);have zq:=Lib.hid (fun W (hW:Below w.heap.size w W)=>EJ.out out[0] (Uw.out _ hmem) W hW);generalize out[0]=dd at *;rw [<- hfe] at zq;have vF:=Lib.hid (qy.out k hko);rw [Jc.out] at vF;have HSk:=Lib.hid (HSs.out h0);clear hhd hfe hmem hRo hf0;obtain ⟨aI,aJ,aK,aP,-,-,-⟩:=X1.bC;obtain ⟨dF,dG,dI,jo,yt,-,-,-,-⟩:=X5.nG;go_upto_region 7 with fail;refine bZ (Since W2) (.run 5 0 0 (.call 5 63 (.take 6 127 (.done)))) (by kernel_rfl) (bD (bR _)) (by kernel_rfl) (by kernel_rfl) (Nat.le_of_ble_eq_true (by kernel_rfl)) ?_;intro cO QR ak aC hS
     iterate 5
      apply bg;exact ak;exact rfl;exact hS;exact rfl
      · intro _ hqc;go_simp;try rfl
      try simp only [pu]
     refine aT (i:=5) (aG ak rfl) (fun K hK=>?_);have aA:=Lib.hid hS;clear hS;refine aO (aV rfl) ?_;go_simp;refine (zq.out _ (bT HB2.out aA.out)).mono ?_;rintro e bH ⟨rfl,bJ⟩;have hS:Since W2 bH:=bT (w:=W2) aA.out bJ;clear aA;refine hK.out _ _ hS (fun _=>?_);clear hK K
     try simp only [pu]
     apply bg;exact ak;exact rfl;exact hS;exact rfl
     · intro _ hqc;go_simp;try rfl
     try simp only [pu]
     refine bM ?_;refine aC.down _ _ ?_;have hB:Below W2.heap.size W2 bH:=hS;clear hS aC ak;have HB3:=Lib.hid (bT HB2.out hB);have fE:=Lib.hid (fM.out.keep hB);have iE:=Lib.hid (bY.out.keep hB);have uN:=Lib.hid (bK.out.keep hB);have lG:=Lib.hid (sO.out.keep hB);clear hB X1 aI aJ aK aP X5 dF dG dI jo yt d0 bJ sO fM bY bK HB2 aak kz kn zq;by_cases z:fc=0
     ·have z1:(fc == 0)=true:=by simpa using z
      have hf:=vF.out (.inl ⟨h0,z⟩);have HF:=Lib.hid hf;clear z hf;go_wp2_with fail;go_ret2;exact ⟨none,0,0,by rw [HF.out];rfl,HB3.out,fun e=>by rw [HF.out] at e;cases e⟩
     ·have z1:(fc == 0)=false:=by simpa using z
      have hlk:=lG.out.look fc JV.out;by_cases z2:fc∈pF p O k
      ·have hf:=vF.out (.inr (.inl ⟨h0,z2⟩));have HF:=Lib.hid hf;rw [decide_eq_true z2] at hlk;clear z hf z2;go_wp2_with fail;go_ret2;exact ⟨none,0,0,by rw [HF.out];rfl,HB3.out,fun e=>by rw [HF.out] at e;cases e⟩
      ·rw [decide_eq_false z2] at hlk;obtain ⟨w6,hr6,BO,vM⟩:=lG.out.upd (by omega) fc JV.out z2;rw [<- HSk.out] at BO;have yD:=Lib.hid BO;have HZ:=Lib.hid (show fc≠0/\fc∉pF p O k from ⟨z,z2⟩);have Ig:=Lib.hid (Own.grown fE.out vM (fun g hg e=>agB lG.out fE.out (by rw [hg,e])));have jL:=Lib.hid (aj.grown iE.out vM (fun e=>aax lG.out iE.out (Option.some.inj e)));have aao:=Lib.hid (aj.grown uN.out vM (fun e=>aax lG.out uN.out (Option.some.inj e)));have iL:=Lib.hid (bG HB3.out vM (fun g hg=>by have:=Option.some.inj hg;omega));clear BO vM z z2;go_wp2_with fail;go_meet
       case rel => exact ⟨rfl,rfl,yD.out,Ig.out,jL.out,aao.out,iL.out,fun _=>HZ.out⟩
   case rest =>
    obtain ⟨rfl,rfl,oI,ho3,X1,X5,hb3,hzz⟩:=hcut;have lG:=Lib.hid oI;have fE:=Lib.hid ho3;have iE:=Lib.hid X1;have uN:=Lib.hid X5;have HB3:=Lib.hid hb3;have HZ:=Lib.hid hzz;have vg:=ZF ⟨tw,out,⟨oa,on,oc⟩,inn,⟨ia,iT,ic⟩,bn,⟨aa,an,ac⟩⟩ wc (mg.out.mono hb3) (by show inn.length<=100000;omega);have agG:(kN ⟨tw,out,⟨oa,on,oc⟩,inn,⟨ia,iT,ic⟩,bn,⟨aa,an,ac⟩⟩).length<=513:=by show inn.length+1<=513;omega
    have hcr:∀ y∈kN ⟨tw,out,⟨oa,on,oc⟩,inn,⟨ia,iT,ic⟩,bn,⟨aa,an,ac⟩⟩,Ints w (aH y.2) y.1:=fun y hy=>by
     rcases List.mem_cons.1 hy with rfl | hy
     · exact aaA.out
     · exact LC.out y hy
    have hck:=aaz.out;unfold aH at vg;simp only at vg;generalize kN ⟨tw,out,⟨oa,on,oc⟩,inn,⟨ia,iT,ic⟩,bn,⟨aa,an,ac⟩⟩=CY at *;have EI:=Lib.hid vg;have DZ:=Lib.hid hcr;have HDy:=Lib.hid (fun q (hq:q<CY.length) d (hd:d∈CY[q].1)=>HDa.out k CY[q].1 (by rw [<- hck];exact List.mem_map_of_mem (List.getElem_mem hq)) d hd);have HMy:=Lib.hid (fun q (hq:q<CY.length)=>show CY[q].1∈rQ p O k from by rw [<- hck];exact List.mem_map_of_mem (List.getElem_mem hq));have apz:=Lib.hid (fun (h:∀ q (hq:q<CY.length),∀ d∈CY[q].1,jd p d=fc)=>show ∀ c∈rQ p O k,∀ d∈c,jd p d=jF p O k from fun c hc d hd=>by
     rw [<- hck] at hc;obtain ⟨y,hy,rfl⟩:=List.mem_map.1 hc;obtain ⟨q,hq,rfl⟩:=List.mem_iff_getElem.1 hy;rw [Jc.out];exact h q hq d hd)
    have vF:=Lib.hid (qy.out k hko);rw [Jc.out] at vF;clear oI ho3 hb3 hzz sO fM bY bK HB2 vg hcr hck agF aaz aaA mg LC HFh hf0 J8 HSs
    try clear dF
    try clear dG
    try clear dI
    try clear jo
    try clear yt
    obtain ⟨dF,dG,dI,jo,yt,-,-,-,-⟩:=X5.nG;go_wp2_with fail;refine EI.out.mono ?_;rintro e w3 ⟨⟨A2,c2,rfl,ho2⟩,hb4⟩;have HB4:=Lib.hid (bT HB3.out hb4);have sZ:=Lib.hid (fE.out.keep hb4);have dn:=Lib.hid (iE.out.keep hb4);have GY:=Lib.hid (lG.out.keep hb4);have HR4:=Lib.hid ho2.row_of;have hz4:=hb4.size;clear ho2 hb4 HB3 fE iE uN lG X1 X5 dF dG dI jo yt EI;go_upto_block 2 with fail;go_wp2_with fail;go_loopw [4,42] (fun s i wr=>s=.slice A k c/\∃ j:Nat,j<=CY.length/\i=.int .i64 j/\(∀ q (hq:q<CY.length),q<j->∀ d∈CY[q].1,jd p d=fc)/\Below w3.heap.size w3 wr) (fun _ i _=>CY.length-(intOf i).toNat)
    case atStart => exact ⟨rfl,0,Nat.zero_le _,rfl,(fun q _ h=>by omega),bR w3⟩
    case round =>
     obtain ⟨rfl,j,hj,rfl,hall,hb5⟩:=hrel;have rM:=Lib.hid hall;have dK:=Lib.hid hb5;clear hall hb5;by_cases hlj:j<CY.length
     ·obtain ⟨b,o,rfl,hlb,c0⟩:=(HR4.out.mono dK.out).cy hlj;have hin:=(DZ.out CY[j] (List.getElem_mem hlj)).mono (bT HB4.out dK.out);have hdy:=HDy.out j hlj;have DK:=Lib.hid (HMy.out j hlj);have Bj:=Lib.hid (fun (h:∀ d∈CY[j].1,jd p d=fc)=>all_succ (p:=fun y:List Int×SV=>∀ d∈y.1,jd p d=fc) rM.out hlj h);generalize CY[j]=x at *;obtain ⟨X,xa,xn,xc⟩:=x;unfold aH at hin;simp only at hin c0 hdy DK Bj;obtain ⟨Ax,cx,he,hx1,hx2,UQ⟩:=hin;injection he with y1 y2 y3;subst y1 y2 y3;unfold maxLen at hx2;have hxl:X.length<=9223372036854775807:=by omega
      have HRx:=Lib.hid UQ;have HDx:=Lib.hid hdy;clear UQ hdy;obtain ⟨wq,rfl⟩:∃ wq:World,wq=wr:=⟨_,rfl⟩;go_upto_block 4 with fail;clear c0 hlb;go_wp2_with fail;go_loopw [4,48] (fun s i wr=>s=.slice A k c/\∃ m:Nat,m<=X.length/\i=.int .i64 m/\(∀ q (hq:q<X.length),q<m->jd p X[q]=fc)/\Below wq.heap.size wq wr) (fun _ i _=>X.length-(intOf i).toNat)
      case atStart => exact ⟨rfl,0,Nat.zero_le _,rfl,(fun q _ h=>by omega),bR wq⟩
      case round =>
       obtain ⟨rfl,m,hmm,rfl,hall,hb6⟩:=hrel;have agH:=Lib.hid hall;have iL:=Lib.hid hb6;have iD:=Lib.hid (bT HB4.out (bT dK.out hb6));clear hall hb6;by_cases hlm:m<X.length
       ·obtain ⟨b2,o2,rfl,aaB,e0⟩:=(HRx.out.mono iL.out).int hlm;have hdm:=HDx.out X[m] (List.getElem_mem hlm);have zq:=Lib.hid (fun W (hW:Below w.heap.size w W)=>EJ.out X[m] (Uw.out _ hdm) W hW);have xG:=Lib.hid (fun (h:jd p X[m]≠fc)=>vF.out (.inr (.inr ⟨X,DK.out,X[m],List.getElem_mem hlm,h⟩)));have YW:=Lib.hid (fun (h:jd p X[m]=fc)=>all_succ (p:=fun d=>jd p d=fc) agH.out hlm h);generalize X[m]=dd at *;obtain ⟨sd,hsd⟩:∃ sd,jd p dd=sd:=⟨_,rfl⟩;rw [hsd] at zq xG YW;have X1:=dn.out.keep (bT dK.out iL.out);clear hsd hdm
        try clear aI
        try clear aJ
        try clear aK
        try clear aP
        obtain ⟨aI,aJ,aK,aP,-,-,-⟩:=X1.bC;go_wp2_with fail;refine (zq.out _ iD.out).mono ?_;rintro e w7 ⟨rfl,hb7⟩;have zG:=Lib.hid (bT iL.out hb7);have apA:=Lib.hid (bT iD.out hb7);clear hb7 X1 aI aJ aK aP e0 aaB zq;by_cases z:sd=fc
        ·have z1:(sd != fc)=false:=by simpa using z
         have HYz:=Lib.hid (YW.out z);clear z;go_wp2_with fail;go_roundw
         case rel => exact ⟨rfl,m+1,by omega,by go_num,HYz.out,zG.out⟩
         case measure => simp [intOf];omega
        ·have z1:(sd != fc)=true:=by simpa using z
         have HF:=Lib.hid (xG.out z);clear z;go_wp2_with fail;go_ret2;exact ⟨none,0,0,by rw [HF.out];rfl,apA.out,fun e=>by rw [HF.out] at e;cases e⟩
       ·have hmx:m=X.length:=by omega
        have HNz:=Lib.hid (Bj.out fun d hd=>by
         obtain ⟨q,hq,rfl⟩:=List.mem_iff_getElem.1 hd;exact agH.out q hq (by omega))
        clear hmx;go_wp2_with fail;go_roundw
        case rel => exact ⟨rfl,j+1,by omega,by go_num,HNz.out,bT dK.out iL.out⟩
        case measure => simp [intOf];omega
     ·have hjx:j=CY.length:=by omega
      have HUk:=Lib.hid (HU.out.succ (fun h=>by rw [Jc.out];exact (HZ.out h).1) (fun h=>by rw [Jc.out];exact (HZ.out h).2) (apz.out fun q hq=>rM.out q hq (by omega)));have bK:=Lib.hid (dn.out.keep dK.out);have rX:=Lib.hid (sZ.out.keep dK.out);have tq:=Lib.hid (GY.out.keep dK.out);have agI:=Lib.hid (bT HB4.out dK.out);have n1:=Own.dM rX.out bK.out (by decide);have n2:=agB tq.out rX.out;have agJ:=xK p O (k+1);clear hjx dn sZ GY HB4 HR4;go_upto_region 22 with
       (at_builtin
        refine jH _ rfl (.tmp 59) (.tmp 61) _ rfl (base:=w.heap.size) pV nH pW rfl (Own.alloc rX.out _) rfl (l2:=[fc]) (Sl.lit (n:=1) (aj.made rfl _ _) rfl (dW (by omega))) (by simp only [List.length_cons,List.length_nil];omega) (by simp only [List.length_cons,List.length_nil];omega) (by have:=agI.out.size;simp;omega) ?_;intro v8 w8 UR wu apB;rw [<- UO.out] at UR;obtain ⟨A8,c8,hv8,-⟩:=Own.mY UR;rw [agJ] at hv8;subst hv8;have HO8:=Lib.hid UR;have FV:=Lib.hid ((tq.out.keep (bA (bR wr) _)).kept wu (fun e=>n2 e.symm));have CG:=Lib.hid (aj.grown (bK.out.alloc _) wu (fun e=>n1 e.symm));have HB8:=Lib.hid (bG (bA agI.out _) wu (fun g hg=>(rX.out.lt g hg).1));clear UR wu apB
        )
      clear n1 n2 agJ;go_wp2_with fail;go_roundw
      case rel => exact ⟨k+1,by omega,by go_num,⟨A8,c8,rfl⟩,HO8.out,FV.out,HUk.out,CG.out,HB8.out⟩
      case measure => simp [intOf];omega
  ·have hkk:k=L.length:=by omega
   have aaC:O.length+1=k:=by have:=DR.out;omega
   have hlen:=fun ty=>(HM.out.keep (bD (bR wo))).len ty;have hres:vJ p=(((pF p O k).length:Int) == (nf:Int)):=by
    have hy:=agE.out;rw [aaC] at hy;rw [Bool.eq_iff_iff,hy,hsl];constructor
    · rintro ⟨-,e⟩;simp;omega
    · intro e;simp at e;exact ⟨HU.out,by omega⟩
   have ho:=HO.out;have KL:=Lib.hid (show Own wo w.heap.size 3 1 dO (.slice A k c) (pI p O (O.length+1)) by rw [aaC];exact ho);have HRe:=Lib.hid hres;generalize pF p O k=S at *;clear hres ho hkk aaC hsl
   try clear aI
   try clear aJ
   try clear aK
   try clear aP
   obtain ⟨aI,aJ,aK,aP,-,-,-⟩:=X1.bC;go_upto_region 23 with fail;refine bZ (Since wo) (.take 0 1 (.take 1 3 (.run 3 3 3 (.call 2 63 (.run 3 6 63 (.done)))))) (by kernel_rfl) (bD (bR _)) (by kernel_rfl) (by kernel_rfl) (Nat.le_of_ble_eq_true (by kernel_rfl)) ?_;intro cO QR ak aC hS
   iterate 5
    apply bg;exact ak;exact rfl;exact hS;exact rfl
    · intro _ hqc;go_simp;try rfl
    try simp only [pu]
   refine aT (i:=2) (aG ak rfl) (fun K hK=>?_);have aA:=Lib.hid hS;clear hS;refine aO (aV rfl) ?_;go_simp;refine hK.out _ _ aA.out (fun hS=>?_);clear hK K aA
   try simp only [pu]
   iterate 3
    apply bg;exact ak;exact rfl;exact hS;exact rfl
    · intro _ hqc;go_simp;try rfl
    try simp only [pu]
   refine bM ?_;refine aC.down _ _ ?_;have hB:Below wo.heap.size wo _:=hS;clear hS aC ak;have qR:=Lib.hid (bT Hb.out hB);have apC:=Lib.hid (KL.out.keep hB);clear hB;go_wp2_with fail;go_ret2;exact ⟨A,k,c,by rw [HRe.out];rfl,qR.out,fun _=>apC.out⟩
theorem aaD {l:List Int} (h:l.Pairwise (· < ·)) (n:Int):(oC l n).Pairwise (· < ·)/\∀ x,x∈oC l n↔x∈l\/x=n:=by
 unfold oC;split
 ·rename_i hc;rw [List.any_eq_true] at hc;obtain ⟨y,hy,e⟩:=hc;simp only [decide_eq_true_eq] at e;subst e;refine ⟨h,fun x=>⟨.inl,fun h=>?_⟩⟩;rcases h with h | rfl
  · exact h
  · exact hy
 ·rename_i hc;have hn:n∉l:=fun hm=>hc (List.any_eq_true.2 ⟨n,hm,by simp⟩);have hall:l.takeWhile (fun y=>decide (y<n))++l.dropWhile (fun y=>decide (y<n))=l:=List.takeWhile_append_dropWhile;have h1:∀ y∈l.takeWhile (fun y=>decide (y<n)),y<n:=fun y hy=>by
   have:=List.all_eq_true.1 (List.all_takeWhile (p:=fun y=>decide (y<n)) (l:=l)) y hy
   simpa using this
  have hp:=h;rw [<- hall,List.pairwise_append] at hp;have h2:∀ y∈l.dropWhile (fun y=>decide (y<n)),n<y:=by
   intro y hy
   cases hd:l.dropWhile (fun y=>decide (y<n)) with
   | nil=>rw [hd] at hy;cases hy
   | cons z m =>
    have hz:¬ z<n:=by
     have:=List.head_dropWhile_not (fun y=>decide (y<n)) (l:=l) (by rw [hd];simp)
     simp only [hd,List.head_cons] at this;simpa using this
    have hzl:z∈l:=by rw [<- hall];exact List.mem_append_right _ (by rw [hd];exact List.mem_cons_self)
    have hzn:z≠n:=fun e=>hn (e ▸ hzl);rw [hd] at hy;rcases List.mem_cons.1 hy with rfl | hy
    · omega
    ·have hp2:=hp.2.1;rw [hd] at hp2;have:=(List.pairwise_cons.1 hp2).1 y hy
     omega
  refine ⟨?_,fun x=>?_⟩
  ·rw [List.pairwise_append,List.pairwise_cons];refine ⟨hp.1,⟨h2,hp.2.1⟩,fun a ha b hb=>?_⟩;rcases List.mem_cons.1 hb with rfl | hb
   · exact h1 a ha
   · exact hp.2.2 a ha b hb
  ·have:x∈l↔x∈l.takeWhile (fun y=>decide (y<n))\/x∈l.dropWhile (fun y=>decide (y<n)):=by
    rw [<- List.mem_append,hall]
   rw [this,List.mem_append,List.mem_cons];constructor
   ·rintro (h | h | h)
    · exact .inl (.inl h)
    · exact .inr h
    · exact .inl (.inr h)
   ·rintro ((h | h) | h)
    · exact .inl h
    · exact .inr (.inr h)
    · exact .inr (.inl h)
theorem agK (l:List Int):(tH l).Pairwise (· < ·)/\∀ x,x∈tH l↔x∈l:=by
 have:∀ (l acc:List Int),acc.Pairwise (· < ·)->(l.foldl oC acc).Pairwise (· < ·)/\∀ x,x∈l.foldl oC acc↔x∈acc\/x∈l:=by
  intro l
  induction l with
  | nil=>intro acc h;exact ⟨h,fun x=>by simp⟩
  | cons a l ih =>
   intro acc h;rw [List.foldl_cons];obtain ⟨h1,h2⟩:=aaD h a;obtain ⟨h3,h4⟩:=ih _ h1;refine ⟨h3,fun x=>?_⟩;rw [h4,h2,List.mem_cons,or_assoc]
 obtain ⟨h1,h2⟩:=this l [] List.Pairwise.nil;exact ⟨h1,fun x=>by rw [show tH l=l.foldl oC [] from rfl,h2];simp⟩
theorem vZ.iW {w:World} {B B':Nat} {v:Value} {L:List AD} (h:vZ w B v L) (hb:B'<=B):vZ w B' v L :=
 ⟨h.own.iW hb,fun x hx=>(h.out x hx).iW hb,fun x hx=>(h.inn x hx).iW hb,fun x hx c hc=>(h.iJ x hx c hc).iW hb,fun x hx=>(h.bn x hx).iW hb⟩
theorem Own.apD {e:TypeId} {w:World} {B g n c:Nat} {L:List AD} (h:Own w B e 4 dH (.slice (some ⟨g,0,none⟩) n c) L) {k:Nat} (hk:k<L.length):g<w.heap.size/\(∀ j,w.frozen? ⟨g,j,none⟩=false) /\
  w.cell? ⟨g,k*4,none⟩=some (.int .i64 L[k].tw)/\w.cell? ⟨g,k*4+1,none⟩=some (aH L[k].ov)/\w.cell? ⟨g,k*4+2,none⟩=some (aH L[k].iv)/\w.cell? ⟨g,k*4+3,none⟩=some (aH L[k].av):=by
 obtain ⟨g',hg,-,h1,h2,h3⟩:=Own.FN h (by omega);injection hg with hg;injection hg with hg _ _;subst hg;exact ⟨h1,h2,h3 k hk⟩
theorem vZ.face {w:World} {B g n c:Nat} {L:List AD} (h:vZ w B (.slice (some ⟨g,0,none⟩) n c) L) {i:Nat} (hi:i<L.length) (f:Int) :
  vZ (w.setCell ⟨g,i*4,none⟩ (.int .i64 f)) B (.slice (some ⟨g,0,none⟩) n c) (L.set i {L[i] with tw:=f}):=by
 have hm:=List.getElem_mem hi;refine ⟨?_,fun x hx=>?_,fun x hx=>?_,fun x hx=>?_,fun x hx=>?_⟩
 ·have:=Own.KH uI h.own hi (j:=0) (by omega) {L[i] with tw:=f} (.int .i64 f) rfl
  simpa using this
 ·rcases vW hx with ⟨rfl,_⟩ | ⟨j,hj,_,rfl⟩
  · exact Own.FP (h.out L[i] hm) h.own (by decide) _ _
  · exact Own.FP (h.out _ (List.getElem_mem hj)) h.own (by decide) _ _
 ·rcases vW hx with ⟨rfl,_⟩ | ⟨j,hj,_,rfl⟩
  · exact Own.FP (h.inn L[i] hm) h.own (by decide) _ _
  · exact Own.FP (h.inn _ (List.getElem_mem hj)) h.own (by decide) _ _
 ·rcases vW hx with ⟨rfl,_⟩ | ⟨j,hj,_,rfl⟩
  · exact fun c hc=>Own.FP (h.iJ L[i] hm c hc) h.own (by decide) _ _
  · exact fun c hc=>Own.FP (h.iJ _ (List.getElem_mem hj) c hc) h.own (by decide) _ _
 ·rcases vW hx with ⟨rfl,_⟩ | ⟨j,hj,_,rfl⟩
  · exact Own.FP (h.bn L[i] hm) h.own (by decide) _ _
  · exact Own.FP (h.bn _ (List.getElem_mem hj)) h.own (by decide) _ _
structure UU (n:Nat) (v:Value) (L:List AD):Prop where
 own:∀ q,v.ownBlock=some q->q<n
 out:∀ x∈L,∀ q,(aH x.ov).ownBlock=some q->q<n
 inn:∀ x∈L,∀ q,(aH x.iv).ownBlock=some q->q<n
 iJ:∀ x∈L,∀ c∈x.inn,∀ q,(aH c.2).ownBlock=some q->q<n
 bn:∀ x∈L,∀ q,(aH x.av).ownBlock=some q->q<n
theorem UU.face {n:Nat} {v:Value} {L L':List AD} (h:UU n v L) (hl:∀ x∈L',∃ y∈L,∃ t,x = {y with tw:=t}):UU n v L' :=
 ⟨h.own,fun x hx=>by obtain ⟨y,hy,t,rfl⟩:=hl x hx;exact h.out y hy,fun x hx=>by obtain ⟨y,hy,t,rfl⟩:=hl x hx;exact h.inn y hy,fun x hx=>by obtain ⟨y,hy,t,rfl⟩:=hl x hx;exact h.iJ y hy,fun x hx=>by obtain ⟨y,hy,t,rfl⟩:=hl x hx;exact h.bn y hy⟩
theorem vZ.grown {w w':World} {B n:Nat} {v:Value} {L:List AD} {row:Option Nat} (h:vZ w B v L) (hl:UU n v L) (hg:w.grownBy w' row) (hr:∀ q,row=some q->n<=q):vZ w' B v L:=by
 have ne:∀ g,g<n->some g≠row:=fun g hgn e=>by have:=hr g e.symm;omega
 exact ⟨Own.grown h.own hg (fun g hg=>ne g (hl.own g hg)),fun x hx=>Own.grown (h.out x hx) hg (fun g hg=>ne g (hl.out x hx g hg)),fun x hx=>Own.grown (h.inn x hx) hg (fun g hg=>ne g (hl.inn x hx g hg)),fun x hx c hc=>Own.grown (h.iJ x hx c hc) hg (fun g hg=>ne g (hl.iJ x hx c hc g hg)),fun x hx=>Own.grown (h.bn x hx) hg (fun g hg=>ne g (hl.bn x hx g hg))⟩
def yP (p:Pl) (O:List (List Int)) (L:List AD) (k:Nat):List AD:=(List.range L.length).map fun i=>{L.getD i ad0 with tw:=if i<k then jF p O i else 0}
theorem Jd (p:Pl) (O:List (List Int)) (L:List AD) (k:Nat):(yP p O L k).length=L.length:=by unfold yP;simp
theorem LK {p:Pl} {O:List (List Int)} {L:List AD} {k i:Nat} (hi:i<(yP p O L k).length) (hl:i<L.length):(yP p O L k)[i] = {L[i] with tw:=if i<k then jF p O i else 0}:=by
 simp only [yP,List.getElem_map,List.getElem_range,List.getD_eq_getElem?_getD,List.getElem?_eq_getElem hl,Option.getD_some]
theorem apE {p:Pl} {O:List (List Int)} {L:List AD} {k:Nat} {x:AD} (hx:x∈yP p O L k):∃ y∈L,∃ t,x = {y with tw:=t}:=by
 obtain ⟨i,hi,rfl⟩:=List.mem_iff_getElem.1 hx;have hl:i<L.length:=by rw [Jd] at hi;exact hi
 exact ⟨L[i],List.getElem_mem hl,_,LK hi hl⟩
theorem xH.nodup {p:Pl} {O:List (List Int)} {k:Nat} (h:xH p O k):(pF p O k).Nodup:=by
 unfold pF List.Nodup;rw [List.pairwise_map,List.pairwise_iff_getElem];intro i j hi hj hij;simp only [List.length_range] at hi hj;simp only [List.getElem_range];exact h.differ (i+1) (j+1) (by omega) (by omega) (by omega)
theorem apF {p:Pl} {O:List (List Int)} {L:List AD} {R:List (List Int)} {N:List Nd} (h:jf p L O R N) (k:Nat):jf p (yP p O L k) O R N:=by
 refine ⟨?_,fun i hi=>?_,fun i hi=>?_⟩
 ·rw [<- h.out];apply List.ext_getElem (by simp [Jd]);intro i h1 h2;have h3:i<L.length:=by simpa using h2
  rw [List.getElem_map,List.getElem_map,LK _ h3]
 ·have h3:i<L.length:=by rw [Jd] at hi;exact hi
  rw [LK hi h3];exact h.inn i h3
 ·have h3:i<L.length:=by rw [Jd] at hi;exact hi
  rw [LK hi h3];exact h.bn i h3
set_option maxRecDepth 100000 in
set_option maxHeartbeats 4000000 in
theorem apG (F:Int->Int) (K:Nat) (hF:Bl F K) (hb:∀ x,-1073741824<=F x/\F x<=1073741824) (d:Int) (hd:dP d) (g gm n:Nat) (w:World) (h1:aj w g 96 #[.map (some gm)]) (hm:fQ w gm n F) :
  Calls Tryz.prog 89 #[.int .i64 d,.pointer (some ⟨g,0,none⟩)] w fun e w'=>e=.returned (.int .i64 (pw F d K))/\Below w.heap.size w w':=by
 have HF:=Lib.hid hF;have HM:=Lib.hid hm;have HW:=Lib.hid (show ∀ j,dP (pw F d j) from fun j=>by
  cases j with
  | zero=>exact hd
  | succ j=>have:=hb (pw F d j);exact kQ (by show _<=F _;omega) (by show F _<=_;omega))
 obtain ⟨q,hq⟩:∃ q,pw F d K=q:=⟨_,rfl⟩;rw [hq];have Hq:=Lib.hid hq;clear hF hm hb hd hq;have X1:=h1;clear h1;obtain ⟨aI,aJ,-⟩:=X1.fB;go_enter Tryz.func89,Tryz.ntmps89;go_wp2_with fail;go_loop [0] (fun x=>∃ j:Nat,x=.int .i64 (pw F d j)) (fun x=>xg F K (intOf x))
 case atStart => exact ⟨0,rfl⟩
 case round =>
  obtain ⟨j,rfl⟩:=hrel;obtain ⟨y,hy⟩:∃ y,pw F d j=y:=⟨_,rfl⟩;have hs:F y=pw F d (j+1):=by rw [<- hy];rfl
  have hlk:=HM.out.look y (hy ▸ HW.out j);rw [hs] at hlk;rw [hy];have HY:=Lib.hid hy;have HS:=Lib.hid hs;clear hy hs;by_cases he:pw F d (j+1)=y
  ·have hfix:q=y:=by
    rw [<- Hq.out,<- HY.out];refine XB (HF.out d) ?_;rw [HY.out,HS.out,he]
   rw [he] at hlk;have hn:(y != y)=false:=by simp
   subst hfix;clear he;go_wp2_with fail;go_ret;exact ⟨rfl,bR w⟩
  ·have hn:(pw F d (j+1) != y)=true:=by simpa using he
   have hdl:xg F K (pw F d (j+1))<xg F K y:=by
    rw [<- HS.out];refine alk (HF.out y) (by rw [HS.out];exact he)
   clear he;go_wp2_with fail;go_round
   case rel => exact ⟨j+1,rfl⟩
   case measure => simp only [intOf];exact hdl
theorem apH {P:Program} {fn:Func} {p q r s t:Tmp} (h:fn.results=#[.tmp p,.tmp q,.tmp r,.tmp s,.tmp t]) (a:Array Value) (w:World) :
  (results fn a).run P w=.ok (.tuple #[a.getD p undef,a.getD q undef,a.getD r undef,a.getD s undef,a.getD t undef]) w:=by
 simp only [results,h];simp [Sem.run_bind,Sem.run_pure,Result.andThen]
def apI (w:World) (a b c d z:Int) (e:Ending) (w':World):Prop :=
 e=.returned (.tuple #[.int .i64 a,.int .i64 b,.int .i64 c,.int .i64 d,.int .i64 z])/\Below w.heap.size w w'
set_option maxRecDepth 100000 in
set_option maxHeartbeats 8000000 in
theorem apJ (v:Value) (p:Pl) (w:World) (h:dS w v p) (hv:Valid p) :
  Calls Tryz.prog 32 #[v] w (apI w p.nodes.length p.ah.length (aY p).length (EN p) 0):=by
 have jr:=Lib.hid (fun W (hW:Below w.heap.size w W)=>aal v p W (h.mono hW) hv);obtain ⟨_,_,_,al,rfl,hpa,⟨An,cn,rfl,hn1,hn2,hR⟩,⟨⟨Aa,ca,rfl,hm1,hm2,jV⟩,vC⟩,⟨Af,cf,rfl,-⟩⟩:=h;unfold maxLen at hn2 hm2;have HR:=Lib.hid hR;have HV:=Lib.hid hv;have mM:=Lib.hid jV;have Dj:=Lib.hid vC;have hnl:=hv.KU;have hall:al.length<=256:=by
  have hl:=hv.lim;unfold nN at hl;simp only [Bool.or_eq_false_iff,decide_eq_false_iff_not] at hl;have h2:=hl.2;rw [hpa,List.length_map] at h2;omega
 have hpl:p.ah.length=al.length:=by rw [hpa,List.length_map]
 have ND:=Lib.hid (fun k hk=>adS hv k hk);have dQ:=Lib.hid (fun k hk=>RU p k hk);have HId:=Lib.hid (fun k (hk:k<p.nodes.length)=>hv.RH (List.getElem_mem hk));have Dz:=Lib.hid (fun k (hk:k<al.length)=>show (-1073741824<=al[k].1.fr/\al[k].1.fr<=1073741824)/\(-1073741824<=al[k].1.dst/\al[k].1.dst<=1073741824) from by
  have ham:al[k].1∈p.ah:=by rw [hpa];exact List.mem_map_of_mem (List.getElem_mem hk)
  obtain ⟨n1,h1,e1,-⟩:=hv.sound.yw ham;obtain ⟨n2,h2,e2,-⟩:=hv.sound.zu ham;have g1:=hv.RH h1;have g2:=hv.RH h2;omega)
 generalize p.faces.length=nf at *;obtain ⟨cy,hcy⟩:∃ cy,aY p=cy:=⟨_,rfl⟩;obtain ⟨pn,hpn⟩:∃ pn,EN p=pn:=⟨_,rfl⟩;obtain ⟨nn,hnn⟩:∃ nn,p.nodes.length=nn:=⟨_,rfl⟩;rw [hcy] at jr;rw [hnn] at hn1 hnl jr;rw [hcy,hpn,hnn,hpl];have qU:=Lib.hid hcy;have HPn:=Lib.hid hpn;have I8:=Lib.hid hnn;have uz:=Lib.hid hpa;have yI:=Lib.hid hpl;clear hpa hR hv jV vC hpl hcy hpn hnn;go_enter Tryz.func32,Tryz.ntmps32;go_wp2_with fail;refine (jr.out _ (bA (bR w) _)).mono ?_;rintro e w1 ⟨Ac,cc,cl,rfl,hb1,hcl,hco⟩;have X1:aj w1 w.heap.size 26 #[.slice An nn cn,.slice Aa al.length ca,.slice Af nf cf]:=(aj.made rfl _ _).keep hb1;have B1:=Lib.hid (bT (bA (bR w) _) hb1);clear hb1 jr hcl hco;have hmm:=@run_makeMap Tryz.prog;go_upto_region 5 with fail;obtain ⟨gk,hgk⟩:∃ gk,w1.heap.size=gk:=⟨_,rfl⟩;obtain ⟨W5,hW⟩:∃ W:World,W=(w1.alloc (.map #[] 0)).alloc (.cells #[.map (some w1.heap.size)] 96):=⟨_,rfl⟩;have hA:Below w1.heap.size w1 W5:=by rw [hW];exact bA (bA (bR w1) _) _
 have bK:=Lib.hid (show aj W5 (w1.heap.size+1) 96 #[.map (some w1.heap.size)] by rw [hW];exact aj.made (by simp) _ _);have tq:=Lib.hid (show fQ W5 w1.heap.size 0 (fun _=>0) by rw [hW];exact (fQ.made w1).keep (bA (bR _) _));have eH:=Lib.hid (X1.keep hA);have B5:=Lib.hid (bT B1.out hA);have hz1:w.heap.size+1<=w1.heap.size:=X1.lt;rw [<- hW];clear hW hA X1 hmm;rw [hgk] at bK tq hz1 ⊢;clear hgk;have EZ:gk+1<W5.heap.size:=bK.out.lt;have X1:=eH.out;obtain ⟨aI,aJ,aK,aP,-,-,-⟩:=X1.bC;go_upto_block 0 with fail;go_wp2_with fail;go_loopw [28] (fun i wr=>∃ k:Nat,k<=nn/\i=.int .i64 k/\fQ wr gk k (oZ (p.nodes.take k))/\aj wr w.heap.size 26 #[.slice An nn cn,.slice Aa al.length ca,.slice Af nf cf]/\aj wr (gk+1) 96 #[.map (some gk)]/\Below w.heap.size w wr) (fun i _=>nn-(intOf i).toNat)
 case atStart => exact ⟨0,Nat.zero_le _,rfl,by rw [List.take_zero,aln];exact tq.out,X1,bK.out,B5.out⟩
 case round =>
  obtain ⟨k,hk,rfl,mp,X1,X5,hb⟩:=hrel;obtain ⟨wo,rfl⟩:∃ wo:World,wo=wr:=⟨_,rfl⟩;have HM:=Lib.hid mp;have eH:=Lib.hid X1;have bK:=Lib.hid X5;have Hb:=Lib.hid hb;clear mp hb aI aJ aK aP;by_cases hlt:k<nn
  ·have hkn:k<p.nodes.length:=by have:=I8.out;omega
   obtain ⟨b,o,rfl,hlb,c0,c1,c2⟩:=(HR.out.mono Hb.out).nd hkn;have hid:=HId.out k hkn;have htk:p.nodes.take (k+1)=p.nodes.take k++[p.nodes[k]]:=List.take_succ_eq_append_getElem hkn;generalize p.nodes[k]=nd at *;obtain ⟨w3,hr3,oI,hg3⟩:=(HM.out.keep (bA (bR wo) (.cells #[.int .i64 nd.id,.int .i64 nd.pt.x,.int .i64 nd.pt.y] 45))).upd (by omega) nd.id (kQ (by omega) (by omega)) nd.id;rw [alm,<- htk] at oI;have m1:=Du HM.out X1;have m5:=Du HM.out X5;have lG:=Lib.hid oI;have uO:=Lib.hid (aj.grow (X1.alloc _) hg3 (fun e=>m1 (Option.some.inj e)));have uN:=Lib.hid (aj.grow (X5.alloc _) hg3 (fun e=>m5 (Option.some.inj e)));have HB3:=Lib.hid (bG (bA Hb.out _) hg3 (fun g hg=>by have:=Option.some.inj hg;omega));clear oI hg3 htk;obtain ⟨dF,dG,-⟩:=X5.fB;go_wp2_with fail;go_roundw
   case rel => exact ⟨k+1,by omega,by go_num,lG.out,uO.out,uN.out,HB3.out⟩
   case measure => simp [intOf];omega
  ·obtain rfl:nn=k:=by omega
   have hst:p.nodes.take nn=p.nodes:=List.take_of_length_le (by rw [I8.out];omega);rw [hst] at HM;have hs0:(mQ p 0)=(oZ p.nodes,(nn:Int)):=by unfold mQ;rw [List.take_zero,I8.out];rfl
   have PN:=Lib.hid hs0;clear hst hs0;have Oq:gk+1<wo.heap.size:=bK.out.lt
   try clear aI
   try clear aJ
   try clear aK
   try clear aP
   obtain ⟨aI,aJ,aK,aP,-,-,-⟩:=X1.bC;clear hlt;go_upto_block 2 with fail;go_wp2_with fail;go_loopw [5,45] (fun s i wr=>∃ (j cnt:Nat),j<=al.length/\i=.int .i64 j/\s=.int .i64 (mQ p j).2/\cnt<=nn+j/\fQ wr gk cnt (mQ p j).1/\aj wr w.heap.size 26 #[.slice An nn cn,.slice Aa al.length ca,.slice Af nf cf]/\aj wr (gk+1) 96 #[.map (some gk)]/\Below w.heap.size w wr/\gk+1<wr.heap.size) (fun _ i _=>al.length-(intOf i).toNat)
   case atStart => exact ⟨0,nn,Nat.zero_le _,rfl,by rw [PN.out],by omega,by rw [PN.out];exact HM.out,eH.out,bK.out,Hb.out,Oq⟩
   case round =>
    obtain ⟨j,cnt,hj,rfl,rfl,hcnt,mp,X1,X5,hb,hzr⟩:=hrel;have lG:=Lib.hid mp;have uO:=Lib.hid X1;have uN:=Lib.hid X5;have HB3:=Lib.hid hb;clear mp hb aI aJ aK aP X5;have hok:=ND.out j (by have:=yI.out;omega);have hlo:=hok.lo;have hhi:=hok.hi;rw [I8.out] at hlo hhi;have HO:=Lib.hid hok;clear hok;by_cases hlt:j<al.length
    ·obtain ⟨b,o,rfl,hlb,c0,c1,c2,c3,c4,c5⟩:=(mM.out.mono HB3.out).ar hlt;obtain ⟨Av,cv,hv,-⟩:=Dj.out j hlt;rw [hv] at c3;have hen:=Dz.out j hlt;have hst:=dQ.out j (by have:=yI.out;omega);have hpj:p.ah[j]'(by have:=yI.out;omega)=al[j].1:=by simp only [uz.out,List.getElem_map]
     rw [hpj,yI.out] at hst;clear hv hpj;generalize al[j].1.via.length=vn at *;generalize al[j].1=a at *;obtain ⟨st,agL⟩:∃ st,mQ p j=st:=⟨_,rfl⟩;rw [agL] at hst HO hlo hhi lG ⊢;have LM:=Lib.hid hst;clear hst agL;unfold J9 at LM;have hf:=HO.out.flat.more (M:=al.length+1) (by omega);have HT:=Lib.hid (fun d (hd:dP d) W (hW:Below wr.heap.size wr W)=>apG st.1 (al.length+1) hf HO.out.bd d hd (gk+1) gk cnt W (uN.out.keep hW) (lG.out.keep hW));have hbd1:∀ x,-1073741824<=pw st.1 x (al.length+1)/\pw st.1 x (al.length+1)<=1073741824:=fun x=>by rw [<- hf x];exact HO.out.bd _
     obtain ⟨r1,hr1⟩:∃ r1,pw st.1 a.fr (al.length+1)=r1:=⟨_,rfl⟩;obtain ⟨r2,hr2⟩:∃ r2,pw st.1 a.dst (al.length+1)=r2:=⟨_,rfl⟩;have hw1:=hbd1 a.fr;have hw2:=hbd1 a.dst;have HT1:=Lib.hid (HT.out a.fr (kQ (by omega) (by omega)));have HT2:=Lib.hid (HT.out a.dst (kQ (by omega) (by omega)));rw [hr1] at HT1 LM hw1;rw [hr2] at HT2 LM hw2;clear hbd1 hf HT hr1 hr2;obtain ⟨s1,s2⟩:=st;simp only at LM lG hlo hhi ⊢;go_upto_region 15 with fail;clear c0 c1 c2 c3 c4 c5 hlb;obtain ⟨W7,hW⟩:∃ W:World,W=wr.alloc (.cells #[.int .i64 a.id,.int .i64 a.fr,.int .i64 a.dst,.slice Av vn cv,.int .i64 a.left,.int .i64 a.right] 50):=⟨_,rfl⟩;have HA:=Lib.hid (show Below wr.heap.size wr W7 by rw [hW];exact bA (bR wr) _);have sU:aj W7 wr.heap.size 50 #[.int .i64 a.id,.int .i64 a.fr,.int .i64 a.dst,.slice Av vn cv,.int .i64 a.left,.int .i64 a.right]:=by rw [hW];exact aj.made rfl _ _
     rw [<- hW];clear hW;obtain ⟨G5,G6,G7,adg,apK,apL,apM,-,-,-,-,-,-⟩:=sU.kZ;refine bZ (Since W7) (.run 3 0 0 (.run 3 4 7 (.call 3 127 (.call 7 255 (.take 8 511 (.take 9 1023 (.done))))))) (by kernel_rfl) (bD (bR _)) (by kernel_rfl) (by kernel_rfl) (Nat.le_of_ble_eq_true (by kernel_rfl)) ?_;intro cO QR ak aC hS
     iterate 6
      apply bg;exact ak;exact rfl;exact hS;exact rfl
      · intro _ hqc;go_simp;try rfl
      try simp only [pu]
     refine aT (i:=3) (aG ak rfl) (fun K hK=>?_);have aA:=Lib.hid hS;clear hS;refine aO (aV rfl) ?_;go_simp;refine (HT1.out _ (bT HA.out (bD (bR W7)))).mono ?_;rintro e bH ⟨rfl,bJ⟩;have hS:Since W7 bH:=bT (w:=W7) aA.out bJ;clear aA;refine hK.out _ _ hS (fun _=>?_);clear hK K
     try simp only [pu]
     refine aT (i:=7) (aG ak rfl) (fun K hK=>?_);have aA:=Lib.hid hS;clear hS;refine aO (aV rfl) ?_;go_simp;refine (HT2.out _ (bT HA.out (bT (bD (bR W7)) bJ))).mono ?_;rintro e wr2 ⟨rfl,gZ⟩;have hS:Since W7 wr2:=bT (w:=W7) aA.out gZ;clear aA;refine hK.out _ _ hS (fun _=>?_);clear hK K
     try simp only [pu]
     iterate 2
      apply bg;exact ak;exact rfl;exact hS;exact rfl
      · intro _ hqc;go_simp;try rfl
      try simp only [pu]
     refine bM ?_;refine aC.down _ _ ?_;have hB:Below W7.heap.size W7 wr2:=hS;clear hS aC ak;have HW:=Lib.hid (bT HA.out hB);obtain ⟨W8,hW8⟩:∃ W8,W8=wr2:=⟨_,rfl⟩;rw [<- hW8] at HW ⊢;clear hB bJ gZ hW8 G5 G6 G7 adg apK apL apM sU HT1 HT2
     cases hne:(r1 != r2)
     ·have he:mQ p (j+1)=(s1,s2):=by rw [LM.out,if_pos (by simpa using hne)]
      have HE:=Lib.hid he;clear he;go_wp2_with fail;go_roundw
      case rel => exact ⟨j+1,cnt,by omega,by go_num,by rw [HE.out],by omega,by rw [HE.out];exact lG.out.keep HW.out,uO.out.keep HW.out,uN.out.keep HW.out,bT HB3.out HW.out,Nat.lt_of_lt_of_le hzr HW.out.size⟩
      case measure => simp [intOf];omega
     ·have he:mQ p (j+1)=(lF s1 r1 r2,s2-1):=by rw [LM.out,if_neg (by simpa using hne)]
      have HE:=Lib.hid he;clear he;have X8:=uN.out.keep HW.out;have X18:=uO.out.keep HW.out;have FV:=Lib.hid (lG.out.keep HW.out);obtain ⟨w9,hr9,hm9,wM⟩:=FV.out.upd (by omega) r1 (kQ (by omega) (by omega)) r2;have m1:=Du FV.out X18;have m8:=Du FV.out X8;have PO:=Lib.hid (show fQ w9 gk (cnt+1) (lF s1 r1 r2) from hm9);have apN:=Lib.hid (aj.grow X18 wM (fun e=>m1 (Option.some.inj e)));have apO:=Lib.hid (aj.grow X8 wM (fun e=>m8 (Option.some.inj e)));have Je:=Lib.hid (bG (bT HB3.out HW.out) wM (fun g hg=>by have:=Option.some.inj hg;omega));have hz9:=Nat.le_trans HW.out.size wM.size;clear hm9 wM X18;have g1:IntKind.i64.wrap (s2-1)=s2-1:=IntWalk.i64_in _ (by omega);obtain ⟨qj,ql,-⟩:=X8.fB;go_wp2_with fail;go_roundw
      case rel => exact ⟨j+1,cnt+1,by omega,by go_num,by rw [HE.out],by omega,by rw [HE.out];exact PO.out,apN.out,apO.out,Je.out,by omega⟩
      case measure => simp [intOf];omega
    ·obtain rfl:j=al.length:=by omega
     have hp:(mQ p al.length).2=pn:=by rw [<- HPn.out];unfold EN;rw [yI.out]
     rw [hp] at hlo hhi ⊢;clear hp dQ Dz HO ND;have X1:=uO.out
     try clear aI
     try clear aJ
     try clear aK
     try clear aP
     obtain ⟨aI,aJ,aK,aP,-,-,-⟩:=X1.bC;go_upto_region 20 with fail;refine bZ (Since wr) (.run 14 0 0 (.done)) (by kernel_rfl) (bD (bR _)) (by kernel_rfl) (by kernel_rfl) (Nat.le_of_ble_eq_true (by kernel_rfl)) ?_;intro cO QR ak aC hS
     iterate 14
      apply bg;exact ak;exact rfl;exact hS;exact rfl
      · intro _ hqc;go_simp;try rfl
      try simp only [pu]
     refine bM ?_;refine aC.down _ _ ?_;have hB:Below wr.heap.size wr wr.drew:=hS;clear hS aC ak;go_wp2_with fail;exact bodyPost_ret (apH rfl _ _) rfl ⟨rfl,bT HB3.out hB⟩
end Go.Proofs.YtialfdomhoojiaaGreat
