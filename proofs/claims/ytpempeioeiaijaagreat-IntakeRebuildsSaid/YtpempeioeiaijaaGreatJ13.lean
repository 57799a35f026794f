import Derived.Test.YtpempeioeiaijaaGreatJ10
import Derived.Test.YtpempeioeiaijaaGreatJ12
import Derived.Test.YtpempeioeiaijaaGreatJ09
import Derived.Test.YtpempeioeiaijaaGreatJ04
set_option linter.unusedSimpArgs false
set_option linter.unusedVariables false
namespace Go.Proofs.YtpempeioeiaijaaGreat
open Go.RowKit

theorem segX_succ (p:Pl) {X:List Int} {k:Nat} (hk:k<X.length):segX p (X.take (k+1))=segX p (X.take k)++segL (pthD p X[k]):=by
 unfold segX
 rw [List.take_succ_eq_append_getElem hk,List.flatMap_append]
 simp
theorem segL_succ {P:List Pt} {m:Nat} (hm:m+1<P.length):(segL P).take (m+1)=(segL P).take m++[(P.getD m pt0,P.getD (m+1) pt0)]:=by
 have h:m<(segL P).length:=by unfold segL;rw [List.length_map,List.length_range];omega
 rw [List.take_succ_eq_append_getElem h]
 simp [segL]

set_option maxRecDepth 100000 in
set_option maxHeartbeats 8000000 in
theorem SegsE_spec {σ:Type} (w:World) (gm:Nat) (p:Pl) (f:Int→SV) (hpm:PathsM w gm p f) (hv:Valid p) (vc:Value) (X:List Int) (hX:Ints w vc X) (hd:∀ d∈X,d∈dartsD p) (g1 g2 g3:Nat)
  (Inv:σ→World→Prop) (upd:σ→Pt×Pt→σ) (hI:∀ s W,Inv s W→Below w.heap.size w W) (hD:∀ s W,Inv s W→Inv s W.drew)
  (hst:∀ s W q,q∈segX p X→Inv s W→Calls Tryz.prog 213 #[ptV q.1,ptV q.2,.pointer (some ⟨g1,0,none⟩),.pointer (some ⟨g2,0,none⟩),.pointer (some ⟨g3,0,none⟩)] W fun e W'=>e=.returned (.tuple #[])∧Inv (upd s q) W'∧Below w.heap.size W W')
  (s:σ) (W:World) (h0:Inv s W) :
  Calls Tryz.prog 212 #[.map (some gm),vc,.func (.func 213) #[] #[.pointer (some ⟨g1,0,none⟩),.pointer (some ⟨g2,0,none⟩),.pointer (some ⟨g3,0,none⟩)]] W fun e W'=>e=.returned (.tuple #[])∧Inv ((segX p X).foldl upd s) W'∧Below w.heap.size W W':=by
 obtain ⟨Ac,cc,rfl,hc1,hc2,hRc⟩:=hX
 unfold maxLen at hc2
 have HRc:=Lib.hid hRc;have HPm:=Lib.hid hpm;have HI:=Lib.hid hI;have HSt:=Lib.hid hst;have HDr:=Lib.hid hD;have HDd:=Lib.hid hd;have HV:=Lib.hid hv
 have H0:=Lib.hid h0
 have HTk:=Lib.hid (fun k (hk:k<X.length)=>segX_succ p hk)
 obtain ⟨R,hR⟩:∃ R,(segX p X).foldl upd s=R:=⟨_,rfl⟩
 rw [hR]
 have HRr:=Lib.hid hR
 have HMem:=Lib.hid (fun k (hk:k<X.length) q (hq:q∈segL (pthD p X[k]))=>show q∈segX p X from List.mem_flatMap.2 ⟨_,List.getElem_mem hk,hq⟩)
 clear hRc hpm hI hst hD hd hv h0 hR
 go_enter Tryz.func212,Tryz.ntmps212
 go_wp2_with fail
 go_loopw [12] (fun i wr=>∃ k:Nat,k≤X.length∧i=.int .i64 k∧Inv ((segX p (X.take k)).foldl upd s) wr∧Below w.heap.size W wr) (fun i _=>X.length-(intOf i).toNat)
 case atStart => exact ⟨0,Nat.zero_le _,rfl,H0.out,Below.refl _ _⟩
 case round =>
  obtain ⟨k,hk,rfl,hinv,hbw⟩:=hrel
  obtain ⟨wo,rfl⟩:∃ wo:World,wo=wr:=⟨_,rfl⟩
  have HIn:=Lib.hid hinv;have HBw:=Lib.hid hbw
  have Hb:=Lib.hid (HI.out _ _ hinv)
  clear hinv hbw
  by_cases hlt:k<X.length
  ·
   obtain ⟨b,o,rfl,hlb,c0⟩:=(HRc.out.mono Hb.out).int hlt
   have hdd:=HDd.out _ (List.getElem_mem hlt)
   have htk:=HTk.out k hlt
   have hmem:=HMem.out k hlt
   generalize X[k]=d at *
   obtain ⟨a,ha,hor,hpt⟩:=HV.out.pth_dart hdd
   have hid:=HV.out.id_pos ha
   rw [hpt] at htk hmem
   obtain ⟨n,hmp⟩:=(HPm.out.keep Hb.out).mp
   have hlk:=hmp.look a.id (wfI_of (by omega) (by omega))
   have hpts:=HPm.out.rd a ha
   have hlen:2≤(pathS p a).length:=by have:=pathS_length p a;omega
   have HTk2:=Lib.hid htk
   have HMm:=Lib.hid hmem
   have k1:IntKind.i64.wrap (-d)=-d:=IntWalk.i64_in _ (by omega)
   have km:max d (-d)=a.id:=by omega
   have hvia:=HV.out.via_len ha
   have hpl:(pathS p a).length≤66:=by have:=pathS_length p a;omega
   generalize f a.id=x at *
   obtain ⟨Ap,np,cp⟩:=x
   unfold svV at hlk hpts
   obtain ⟨Ap',cp',he,hp1,hp2,hRp⟩:=hpts
   injection he with e1 e2 e3
   subst e1 e2 e3
   unfold maxLen at hp2
   have HRp:=Lib.hid hRp
   clear hmp hdd htk hmem hpt hor ha hRp hvia
   generalize a.id=ai at *
   generalize pathS p a=P at *
   clear hid
   obtain ⟨s1,hs1⟩:∃ s1,(segX p (X.take k)).foldl upd s=s1:=⟨_,rfl⟩
   rw [hs1] at HIn
   have HS1:=Lib.hid hs1
   clear hs1
   go_upto_block 2 with fail
   go_wp2_with fail
   go_loopw [9] (fun i wr=>∃ j:Nat,1≤j∧j≤P.length∧i=.int .i64 j∧Inv (((segL P).take (j-1)).foldl upd s1) wr∧Below w.heap.size wo wr) (fun i _=>P.length-(intOf i).toNat)
   case atStart => exact ⟨1,Nat.le_refl _,by omega,rfl,HIn.out,Below.refl _ _⟩
   case round =>
    obtain ⟨j,hj1,hj2,rfl,hinv,hbo⟩:=hrel
    have HIn2:=Lib.hid hinv;have HBo:=Lib.hid hbo
    have Hb2:=Lib.hid (HI.out _ _ hinv)
    clear hinv hbo
    by_cases hlj:j<P.length
    ·
     obtain ⟨m,rfl⟩:∃ m,j=m+1:=⟨j-1,by omega⟩
     have hmp:m<P.length:=by omega
     have hq:=HMm.out (P.getD m pt0,P.getD (m+1) pt0) (List.mem_map.2 ⟨m,List.mem_range.2 (by omega),rfl⟩)
     have htk:=segL_succ hlj
     have hst:=HSt.out _ wr.drew _ hq (HDr.out _ _ HIn2.out)
     rw [show m+1-1=m by omega] at hst
     have ea:P.getD m pt0=P[m]:=by simp only [List.getD_eq_getElem?_getD,List.getElem?_eq_getElem hmp,Option.getD_some]
     have eb:P.getD (m+1) pt0=P[m+1]:=by simp only [List.getD_eq_getElem?_getD,List.getElem?_eq_getElem hlj,Option.getD_some]
     rw [ea,eb] at hst htk
     obtain ⟨bp,op,hAp,hlp,e10,e11⟩:=(HRp.out).pt hmp
     obtain ⟨bp',op',hAp',-,e20,e21⟩:=(HRp.out).pt hlj
     rw [hAp] at hAp'
     injection hAp' with hAp'
     injection hAp' with x1 x2 _
     subst x1 x2
     replace e10:=keepc Hb2.out e10
     replace e11:=keepc Hb2.out e11
     replace e20:=keepc Hb2.out e20
     replace e21:=keepc Hb2.out e21
     have HTl:=Lib.hid htk
     generalize P[m]=pa at *
     generalize P[m+1]=pb at *
     unfold ptV at hst
     simp only at hst
     have HC:=Lib.hid hst
     clear hst htk ea eb hq
     subst hAp
     have k2:IntKind.i64.wrap ((m:Int)+1-1)=m:=by rw [show (m:Int)+1-1=m by omega];exact IntWalk.i64_in _ (by omega)
     have k3:(m:Int)<P.length:=by omega
     have k8:IntKind.i64.wrap (m:Int)=m:=IntWalk.i64_in _ (by omega)
     have k4:0≤(m:Int):=by omega
     have k5:(m:Int)+1-1=m:=by omega
     have k6:(m:Int)+1<P.length:=by omega
     have k7:0≤(m:Int)+1:=by omega
     rw [show (((m+1:Nat)):Int)=(m:Int)+1 from by omega]
     go_upto_region 7 with fail
     refine rg_start (SinceB (w.heap.size) wr) (.run 10 0 0 (.call 10 2047 (.done))) (by kernel_rfl) (Below.drew (Below.refl _ _)) (by kernel_rfl) (by kernel_rfl) (Nat.le_of_ble_eq_true (by kernel_rfl)) ?_
     intro opsR QR Hops HQrg hS
     iterate 10
      apply rg_pB;exact Hops;exact rfl;exact hS;exact rfl
      · intro _ hqc;go_simp;try rfl
      try simp only [pu]
     refine rg_call (i:=10) (get_of Hops rfl) (fun K hK=>?_)
     have HSrg:=Lib.hid hS;clear hS
     refine rg_run (wanted_plain rfl) ?_
     go_simp
     refine HC.out.mono ?_
     rintro e w4 ⟨rfl,hin4,hb4⟩
     have hS:SinceB w.heap.size wr w4:=Below.trans HSrg.out hb4
     have HIn4:=Lib.hid hin4
     clear hb4 hin4
     clear HSrg
     refine hK.out _ _ hS (fun _=>?_)
     clear hK K
     try simp only [pu]
     refine rg_done ?_
     refine HQrg.down _ _ ?_
     have hB:Below (w.heap.size) wr _:=hS
     clear hS HQrg Hops
     have HBo2:=Lib.hid (Below.trans HBo.out hB)
     clear hB e10 e11 e20 e21 hlp
     go_wp2_with fail
     go_roundw
     case rel => exact ⟨m+1+1,by omega,by omega,by go_num,by rw [show m+1+1-1=m+1 by omega,HTl.out,List.foldl_append];exact HIn4.out,HBo2.out⟩
     case measure => simp [intOf];omega
    ·
     obtain rfl:j=P.length:=by omega
     have hlS:(segL P).length=P.length-1:=by unfold segL;rw [List.length_map,List.length_range]
     have hfin:=HIn2.out
     rw [List.take_of_length_le (by omega),← HS1.out,← List.foldl_append,← HTk2.out] at hfin
     have HF:=Lib.hid hfin
     clear hfin hlS
     go_wp2_with fail
     go_roundw
     case rel => exact ⟨k+1,by omega,by go_num,HF.out,Below.trans HBw.out HBo.out⟩
     case measure => simp [intOf];omega
  ·
   obtain rfl:k=X.length:=by omega
   have hfin:=HIn.out
   rw [List.take_length,HRr.out] at hfin
   have HF:=Lib.hid hfin
   clear hfin
   go_wp2_with fail
   exact bodyPost_end (v:=.tuple #[]) (results_none rfl _ _ _) rfl ⟨rfl,HF.out,HBw.out⟩

end Go.Proofs.YtpempeioeiaijaaGreat
namespace Go.Proofs.YtpempeioeiaijaaGreat
open Go.RowKit

structure EncI (w0 W:World) (g1 g2 g3:Nat) (v:Pt) (s:Bool×Bool):Prop where
 b:Below w0.heap.size w0 W
 at_:Blk W g1 42 #[.int .i64 v.x,.int .i64 v.y]
 on_:Blk W g2 4 #[.bool s.1]
 odd:Blk W g3 4 #[.bool s.2]
 l2:w0.heap.size≤g2
 l3:w0.heap.size≤g3
 n12:g1≠g2
 n13:g1≠g3
 n23:g2≠g3
theorem EncI.keep {w0 W W':World} {g1 g2 g3:Nat} {v:Pt} {s:Bool×Bool} (h:EncI w0 W g1 g2 g3 v s) (hb:Below W.heap.size W W'):EncI w0 W' g1 g2 g3 v s :=
 ⟨bT h.b hb,h.at_.keep hb,h.on_.keep hb,h.odd.keep hb,h.l2,h.l3,h.n12,h.n13,h.n23⟩
theorem EncI.setOn {w0 W:World} {g1 g2 g3:Nat} {v:Pt} {s:Bool×Bool} (h:EncI w0 W g1 g2 g3 v s) (x:Bool):EncI w0 (W.setCell ⟨g2,0,none⟩ (.bool x)) g1 g2 g3 v (x,s.2) :=
 ⟨bS h.b h.l2 _,h.at_.far h.n12 _,by have:=h.on_.set_ 0 (.bool x);simpa using this,h.odd.far (fun e=>h.n23 e.symm) _,h.l2,h.l3,h.n12,h.n13,h.n23⟩
theorem EncI.setOdd {w0 W:World} {g1 g2 g3:Nat} {v:Pt} {s:Bool×Bool} (h:EncI w0 W g1 g2 g3 v s) (x:Bool):EncI w0 (W.setCell ⟨g3,0,none⟩ (.bool x)) g1 g2 g3 v (s.1,x) :=
 ⟨bS h.b h.l3 _,h.at_.far h.n13 _,h.on_.far h.n23 _,by have:=h.odd.set_ 0 (.bool x);simpa using this,h.l2,h.l3,h.n12,h.n13,h.n23⟩
theorem side_pos {a b c:Pt} (h:nears [a,b,c]=true):(0<sideS a b c↔0<tw a b c)∧(sideS a b c<0↔tw a b c<0):=by
 unfold sideS twS
 rw [if_pos h]
 split
 · omega
 · split<;>omega

set_option maxRecDepth 100000 in
set_option maxHeartbeats 8000000 in
theorem enc1_spec (w0 W:World) (g1 g2 g3:Nat) (v a b:Pt) (s:Bool×Bool) (h:EncI w0 W g1 g2 g3 v s) (na:near1 a=true) (nb:near1 b=true) (nv:near1 v=true) :
  Calls Tryz.prog 213 #[ptV a,ptV b,.pointer (some ⟨g1,0,none⟩),.pointer (some ⟨g2,0,none⟩),.pointer (some ⟨g3,0,none⟩)] W fun e W'=>e=.returned (.tuple #[])∧EncI w0 W' g1 g2 g3 v (encStep v s (a,b))∧Below w0.heap.size W W':=by
 have TO:=fun W=>On_spec a b v W
 have TS:=fun W=>Side_spec a b v W
 obtain ⟨p1,p2⟩:=side_pos (a:=a) (b:=b) (c:=v) (by simp [nears,na,nb,nv])
 have hz0:=h.b.size
 unfold ptV at TO TS ⊢
 have HO:=Lib.hid TO;have HS:=Lib.hid TS;have HI:=Lib.hid h
 clear TO TS na nb nv
 obtain ⟨R,hR⟩:∃ R,encStep v s (a,b)=R:=⟨_,rfl⟩
 rw [hR]
 unfold encStep pasE at hR
 simp only at hR
 have hl1:=h.at_.lt;have hl2:=h.on_.lt;have hl3:=h.odd.lt
 go_enter Tryz.func213,Tryz.ntmps213
 go_upto_block 0 with fail
 obtain ⟨W1,hW⟩:∃ W1:World,W1=(W.alloc (.cells #[.int .i64 a.x,.int .i64 a.y] 42)).alloc (.cells #[.int .i64 b.x,.int .i64 b.y] 42):=⟨_,rfl⟩
 have HB1:=Lib.hid (show Below W.heap.size W W1 by rw [hW];exact bA (bA (bR W) _) _)
 have X5:Blk W1 W.heap.size 42 #[.int .i64 a.x,.int .i64 a.y]:=by rw [hW];exact (Blk.made rfl _ _).alloc _
 have X6:Blk W1 (W.heap.size+1) 42 #[.int .i64 b.x,.int .i64 b.y]:=by rw [hW];exact Blk.made (by simp) _ _
 rw [← hW]
 clear hW h
 have HI1:=Lib.hid (HI.out.keep HB1.out)
 have HX5:=Lib.hid X5;have HX6:=Lib.hid X6
 have X1:=HI1.out.at_
 have HRr:=Lib.hid hR
 clear hR
 obtain ⟨X1l,X1a,X1b,-,-⟩:=X1.facts2
 obtain ⟨X5l,X5a,X5b,-,-⟩:=X5.facts2
 obtain ⟨X6l,X6a,X6b,-,-⟩:=X6.facts2
 go_wp2_with fail
 refine (HO.out _).mono ?_
 rintro e w2 ⟨rfl,hb2⟩
 have HI2:=Lib.hid (HI1.out.keep hb2)
 have HB2:=Lib.hid (Below.trans (HB1.out.mono hz0) (hb2.mono (by have:=HB1.out.size;omega)))
 have HX52:=Lib.hid (HX5.out.keep hb2);have HX62:=Lib.hid (HX6.out.keep hb2)
 have hz2:=hb2.size
 clear hb2 X1 X1l X1a X1b X5 X5l X5a X5b X6 X6l X6a X6b HX5 HX6 HI1 HB1 HO
 have hR:=HRr.out
 clear HRr
 obtain ⟨o,ho⟩:∃ o,onS a b v=o:=⟨_,rfl⟩
 rw [ho] at hR ⊢
 clear ho
 cases o
 case true =>
  rw [if_pos rfl] at hR
  have HF:=Lib.hid (HI2.out.setOn true)
  rw [hR] at HF
  have X2:=HI2.out.on_
  have HBF:=Lib.hid (HB2.out.setCell (p:=⟨g2,0,none⟩) HI2.out.l2 (.bool true))
  clear hR
  obtain ⟨X2l,X2a,X2fa⟩:=X2.facts1
  go_wp2_with fail
  exact bodyPost_end (v:=.tuple #[]) (results_none rfl _ _ _) rfl ⟨rfl,HF.out,HBF.out⟩
 case false =>
  rw [if_neg (by decide)] at hR
  obtain ⟨sd,hsd⟩:∃ sd,sideS a b v=sd:=⟨_,rfl⟩
  rw [hsd] at HS p1 p2
  clear hsd
  have X1:=HI2.out.at_;have X5:=HX52.out;have X6:=HX62.out
  try clear X1l
  try clear X1a
  try clear X1b
  obtain ⟨X1l,X1a,X1b,-,-⟩:=X1.facts2
  try clear X5l
  try clear X5a
  try clear X5b
  obtain ⟨X5l,X5a,X5b,-,-⟩:=X5.facts2
  try clear X6l
  try clear X6a
  try clear X6b
  obtain ⟨X6l,X6a,X6b,-,-⟩:=X6.facts2
  by_cases c:(a.y≤v.y∧v.y<b.y)∨(b.y≤v.y∧v.y<a.y)
  case neg =>
   have hf:s=R:=by
    rw [decide_eq_false (by omega)] at hR
    simpa using hR
   have HF:=Lib.hid hf
   clear hR hf p1 p2
   by_cases c1:a.y≤v.y
   ·
    have c2:¬ v.y<b.y:=by omega
    by_cases d1:b.y≤v.y
    ·
     have d2:¬ v.y<a.y:=by omega
     clear c
     go_wp2_with fail
     exact bodyPost_end (v:=.tuple #[]) (results_none rfl _ _ _) rfl ⟨rfl,by rw [← HF.out];exact HI2.out,HB2.out⟩
    · omega
   ·
    have d2:v.y<a.y:=by omega
    have d1:¬ b.y≤v.y:=by omega
    clear c
    go_wp2_with fail
    exact bodyPost_end (v:=.tuple #[]) (results_none rfl _ _ _) rfl ⟨rfl,by rw [← HF.out];exact HI2.out,HB2.out⟩
  case pos =>
   have HX1':=Lib.hid X1;have HX5':=Lib.hid X5;have HX6':=Lib.hid X6
   rcases c with ⟨c1,c2⟩ | ⟨d1,d2⟩
   ·
    have d1:¬ b.y≤v.y:=by omega
    go_wp2_with fail
    refine (HS.out _).mono ?_
    rintro e w3 ⟨rfl,hb3⟩
    have HI3:=Lib.hid (HI2.out.keep hb3)
    have hz3:=hb3.size
    have HB3:=Lib.hid (Below.trans HB2.out (hb3.mono (by omega)))
    have X1:=HX1'.out.keep hb3;have X5:=HX5'.out.keep hb3;have X6:=HX6'.out.keep hb3
    clear hb3
    try clear X1l
    try clear X1a
    try clear X1b
    obtain ⟨X1l,X1a,X1b,-,-⟩:=X1.facts2
    try clear X5l
    try clear X5a
    try clear X5b
    obtain ⟨X5l,X5a,X5b,-,-⟩:=X5.facts2
    try clear X6l
    try clear X6a
    try clear X6b
    obtain ⟨X6l,X6a,X6b,-,-⟩:=X6.facts2
    by_cases g:0<sd
    ·
     have hf:(s.1,!s.2)=R:=by
      rw [decide_eq_true (by omega)] at hR
      simpa using hR
     have HF:=Lib.hid (HI3.out.setOdd (!s.2))
     rw [hf] at HF
     have HBF:=Lib.hid (HB3.out.setCell (p:=⟨g3,0,none⟩) HI3.out.l3 (.bool (!s.2)))
     have X3:=HI3.out.odd
     obtain ⟨s1,s2⟩:=s
     simp only at X3 HF HBF
     clear hR hf p1 p2
     obtain ⟨X3l,X3a,X3fa⟩:=X3.facts1
     cases s2
     all_goals
      go_wp2_with fail
      exact bodyPost_end (v:=.tuple #[]) (results_none rfl _ _ _) rfl ⟨rfl,HF.out,HBF.out⟩
    ·
     have hf:s=R:=by
      rw [decide_eq_false (by omega)] at hR
      simpa using hR
     have HF:=Lib.hid hf
     clear hR hf p1 p2
     go_wp2_with fail
     exact bodyPost_end (v:=.tuple #[]) (results_none rfl _ _ _) rfl ⟨rfl,by rw [← HF.out];exact HI3.out,HB3.out⟩
   ·
    have c0:¬ (a.y≤v.y):=by omega
    go_wp2_with fail
    refine (HS.out _).mono ?_
    rintro e w3 ⟨rfl,hb3⟩
    have HI3:=Lib.hid (HI2.out.keep hb3)
    have hz3:=hb3.size
    have HB3:=Lib.hid (Below.trans HB2.out (hb3.mono (by omega)))
    clear hb3
    by_cases g:sd<0
    ·
     have hf:(s.1,!s.2)=R:=by
      rw [decide_eq_true (by omega)] at hR
      simpa using hR
     have HF:=Lib.hid (HI3.out.setOdd (!s.2))
     rw [hf] at HF
     have HBF:=Lib.hid (HB3.out.setCell (p:=⟨g3,0,none⟩) HI3.out.l3 (.bool (!s.2)))
     have X3:=HI3.out.odd
     obtain ⟨s1,s2⟩:=s
     simp only at X3 HF HBF
     clear hR hf p1 p2
     try clear X3l
     try clear X3a
     try clear X3fa
     obtain ⟨X3l,X3a,X3fa⟩:=X3.facts1
     cases s2
     all_goals
      go_wp2_with fail
      exact bodyPost_end (v:=.tuple #[]) (results_none rfl _ _ _) rfl ⟨rfl,HF.out,HBF.out⟩
    ·
     have hf:s=R:=by
      rw [decide_eq_false (by omega)] at hR
      simpa using hR
     have HF:=Lib.hid hf
     clear hR hf p1 p2
     go_wp2_with fail
     exact bodyPost_end (v:=.tuple #[]) (results_none rfl _ _ _) rfl ⟨rfl,by rw [← HF.out];exact HI3.out,HB3.out⟩

set_option maxRecDepth 100000 in
set_option maxHeartbeats 8000000 in
theorem Encloses_spec (w:World) (gm:Nat) (p:Pl) (f:Int→SV) (hpm:PathsM w gm p f) (hv:Valid p) (vc:Value) (X:List Int) (hX:Ints w vc X) (hd:∀ d∈X,d∈dartsD p) (v:Pt) (nv:near1 v=true) :
  Calls Tryz.prog 165 #[.map (some gm),vc,ptV v] w fun e w'=>e=.returned (.bool (encS p X v))∧Below w.heap.size w w':=by
 have HSg:=Lib.hid (fun s W (h0:EncI w W w.heap.size (w.heap.size+1) (w.heap.size+1+1) v s)=>SegsE_spec w gm p f hpm hv vc X hX hd w.heap.size (w.heap.size+1) (w.heap.size+1+1) (fun s W=>EncI w W w.heap.size (w.heap.size+1) (w.heap.size+1+1) v s) (encStep v) (fun s W h=>h.b) (fun s W h=>h.keep (bD (bR W)))
  (fun s W q hq h=>by
   obtain ⟨a,ha,-,k,hk,rfl⟩:=hv.seg_mem hd hq
   exact enc1_spec w W _ _ _ v _ _ s h (hv.pt_near ha (by omega)) (hv.pt_near ha hk) nv) s W h0)
 unfold ptV
 obtain ⟨R,hR⟩:∃ R,encS p X v=R:=⟨_,rfl⟩
 rw [hR]
 have HRr:=Lib.hid hR
 clear hR hpm hv hX hd nv
 go_enter Tryz.func165,Tryz.ntmps165
 go_upto_region 2 with fail
 obtain ⟨W1,hW⟩:∃ W1:World,W1=((w.alloc (.cells #[.int .i64 v.x,.int .i64 v.y] 42)).alloc (.cells #[.bool false] 4)).alloc (.cells #[.bool false] 4):=⟨_,rfl⟩
 have HE:=Lib.hid (show EncI w W1 w.heap.size (w.heap.size+1) (w.heap.size+1+1) v (false,false) from by
  rw [hW]
  exact ⟨bA (bA (bA (bR w) _) _) _,((Blk.made rfl _ _).alloc _).alloc _,(Blk.made (by simp) _ _).alloc _,Blk.made (by simp) _ _,by omega,by omega,by omega,by omega,by omega⟩)
 rw [← hW]
 clear hW
 go_wp2_with fail
 refine (HSg.out _ _ HE.out).mono ?_
 rintro e w2 ⟨rfl,he2,-⟩
 have HE2:=Lib.hid he2
 have X7:=he2.on_;have X8:=he2.odd
 clear he2 HE HSg
 have hr:=HRr.out
 unfold encS encF at hr
 obtain ⟨S,hS⟩:∃ S,(segX p X).foldl (encStep v) (false,false)=S:=⟨_,rfl⟩
 rw [hS] at X7 X8 hr HE2
 clear hS HRr
 obtain ⟨on,od⟩:=S
 simp only at X7 X8 hr
 obtain ⟨X7l,X7a,-⟩:=X7.facts1
 obtain ⟨X8l,X8a,-⟩:=X8.facts1
 cases od
 case false =>
  obtain rfl:false=R:=by simpa using hr
  clear hr
  go_wp2_with fail
  go_ret
  exact ⟨rfl,HE2.out.b⟩
 case true =>
  obtain rfl:(!on)=R:=by simpa using hr
  clear hr
  go_wp2_with fail
  go_ret
  exact ⟨rfl,HE2.out.b⟩
end Go.Proofs.YtpempeioeiaijaaGreat
namespace Go.Proofs.YtpempeioeiaijaaGreat
open Go.RowKit

def AdR (w:World) (v:Value) (L:List AD):Prop:=Sl w v L.length (L.flatMap adC)∧∀ x∈L,Ints w (svV x.ov) x.out
theorem Row.ad {w:World} {A:Option Addr} {l:List AD} (h:Row w A (l.flatMap adC)) {k:Nat} (hk:k<l.length) :
  ∃ b o,A=some ⟨b,o,none⟩∧b<w.heap.size∧w.cell? ⟨b,o+k*4,none⟩=some (.int .i64 l[k].tw)∧w.cell? ⟨b,o+k*4+1,none⟩=some (svV l[k].ov)∧w.cell? ⟨b,o+k*4+2,none⟩=some (svV l[k].iv)∧w.cell? ⟨b,o+k*4+3,none⟩=some (svV l[k].av):=by
 obtain ⟨b,o,hA,hb,hc⟩:=h.at_ (n:=4) (fun _=>rfl) hk (by omega)
 exact ⟨b,o,hA,hb,hc 0 _ rfl,hc 1 _ rfl,hc 2 _ rfl,hc 3 _ rfl⟩
def bestIx (p:Pl) (v:Pt) (L:List AD) (k b:Nat):Prop :=
 (b=0∧bestC (fun x:AD=>encS p x.out v) (·.tw) (L.tail.take k)=none)∨∃ hb:b<L.length,1≤b∧b≤k∧bestC (fun x:AD=>encS p x.out v) (·.tw) (L.tail.take k)=some L[b]
theorem tail_get {L:List AD} {k:Nat} (hk:k+1<L.length):L.tail.take (k+1)=L.tail.take k++[L[k+1]]:=by
 cases L with
 | nil=>cases hk
 | cons a L=>simp only [List.tail_cons,List.getElem_cons_succ];exact List.take_succ_eq_append_getElem (by simpa using hk)
theorem bestIx_zero (p:Pl) (v:Pt) (L:List AD):bestIx p v L 0 0:=.inl ⟨rfl,by rw [List.take_zero];rfl⟩
theorem bestIx_take {p:Pl} {v:Pt} {L:List AD} {k b:Nat} (h:bestIx p v L k b) (hk:k+1<L.length) (hE:encS p L[k+1].out v=true) (hlt:b=0∨∃ hb:b<L.length,L[k+1].tw<L[b].tw):bestIx p v L (k+1) (k+1):=by
 refine .inr ⟨hk,by omega,Nat.le_refl _,?_⟩
 rw [tail_get hk,best_snoc]
 unfold bestStep
 rcases h with ⟨rfl,e⟩ | ⟨hb,h1,h2,e⟩
 · rw [e];simp [hE]
 ·
  rw [e]
  rcases hlt with g | ⟨_,g⟩
  · omega
  · simp [hE,g]
theorem bestIx_skip {p:Pl} {v:Pt} {L:List AD} {k b:Nat} (h:bestIx p v L k b) (hk:k+1<L.length) (hno:encS p L[k+1].out v=false∨(b≠0∧∃ hb:b<L.length,¬ L[k+1].tw<L[b].tw)):bestIx p v L (k+1) b:=by
 rcases h with ⟨rfl,e⟩ | ⟨hb,h1,h2,e⟩
 ·
  refine .inl ⟨rfl,?_⟩
  rw [tail_get hk,best_snoc,e]
  rcases hno with g | ⟨g,-⟩
  · unfold bestStep;simp [g]
  · exact absurd rfl g
 ·
  refine .inr ⟨hb,h1,by omega,?_⟩
  rw [tail_get hk,best_snoc,e]
  unfold bestStep
  rcases hno with g | ⟨-,_,g⟩
  · simp [g]
  · simp [g]

set_option maxRecDepth 100000 in
set_option maxHeartbeats 8000000 in
theorem Find_spec (w:World) (gm:Nat) (p:Pl) (f:Int→SV) (hpm:PathsM w gm p f) (hv:Valid p) (vl:Value) (L:List AD) (hL:AdR w vl L) (hd:∀ x∈L,∀ d∈x.out,d∈dartsD p) (hl:L.length≤1000) (v:Pt) (nv:near1 v=true) :
  Calls Tryz.prog 124 #[.map (some gm),vl,ptV v] w fun e w'=>(∃ b:Nat,e=.returned (.int .i64 b)∧bestIx p v L (L.length-1) b)∧Below w.heap.size w w':=by
 have HEn:=Lib.hid (fun k (hk:k<L.length) W (hW:Below w.heap.size w W)=>Encloses_spec W gm p f (hpm.keep hW) hv _ L[k].out ((hL.2 _ (List.getElem_mem hk)).mono hW) (hd _ (List.getElem_mem hk)) v nv)
 obtain ⟨⟨Al,cl,rfl,hc1,hc2,hR⟩,-⟩:=hL
 unfold maxLen at hc2
 have HR:=Lib.hid hR
 unfold ptV at HEn ⊢
 clear hR hpm hv hd nv
 go_enter Tryz.func124,Tryz.ntmps124
 go_upto_block 0 with fail
 obtain ⟨W1,hW⟩:∃ W1:World,W1=w.alloc (.cells #[.int .i64 v.x,.int .i64 v.y] 42):=⟨_,rfl⟩
 have HB1:=Lib.hid (show Below w.heap.size w W1 by rw [hW];exact bA (bR w) _)
 have HX1:=Lib.hid (show Blk W1 w.heap.size 42 #[.int .i64 v.x,.int .i64 v.y] by rw [hW];exact Blk.made rfl _ _)
 rw [← hW]
 clear hW
 go_wp2_with fail
 go_loopw [7,8] (fun s i wr=>∃ k b:Nat,(k+1≤L.length∨k=0)∧i=.int .i64 ((k:Int)+1)∧s=.int .i64 b∧bestIx p v L k b∧Below W1.heap.size W1 wr) (fun _ i _=>L.length-(intOf i).toNat)
 case atStart => exact ⟨0,0,.inr rfl,rfl,rfl,bestIx_zero p v L,bR W1⟩
 case round =>
  obtain ⟨k,b,hk,rfl,rfl,hbx,hb⟩:=hrel
  have HBx:=Lib.hid hbx;have Hb:=Lib.hid (bT HB1.out hb)
  have HBw:=Lib.hid hb
  have X5:=HX1.out.keep hb
  clear hb
  by_cases hlt:k+1<L.length
  ·
   obtain ⟨bq,oq,rfl,hlb,c0,c1,-,-⟩:=(HR.out.mono Hb.out).ad hlt
   have HE:=Lib.hid (HEn.out (k+1) hlt)
   obtain ⟨E,hE⟩:∃ E,encS p L[k+1].out v=E:=⟨_,rfl⟩
   rw [hE] at HE
   have HEe:=Lib.hid hE
   clear hE
   have k1:IntKind.i64.wrap ((k:Int)+1)=(k:Int)+1:=IntWalk.i64_in _ (by omega)
   have k2:(k:Int)+1<L.length:=by omega
   have k3:0≤(k:Int)+1:=by omega
   have HTw:=Lib.hid (show ∀ t,L[k+1].tw=t→∀ b':Nat,b=b'→True from fun _ _ _ _=>trivial)
   clear HTw
   rcases HBx.out with ⟨hb0,-⟩ | ⟨hbl,hb1,hb2,-⟩
   ·
    subst hb0
    have hyes:=Lib.hid (fun h=>bestIx_take HBx.out hlt (HEe.out.trans h) (.inl rfl))
    have hnot:=Lib.hid (fun h=>bestIx_skip HBx.out hlt (.inl (HEe.out.trans h)))
    generalize L[k+1].tw=t at *
    generalize L[k+1].ov=sv at *
    obtain ⟨sa,sn,sc⟩:=sv
    unfold svV at c1 HE
    obtain ⟨X5l,X5a,X5b,-,-⟩:=X5.facts2
    go_upto_region 5 with fail
    refine rg_start (Since wr) (.run 23 0 0 (.call 23 16777215 (.take 24 33554431 (.done)))) (by kernel_rfl) (bD (bR _)) (by kernel_rfl) (by kernel_rfl) (Nat.le_of_ble_eq_true (by kernel_rfl)) ?_
    intro opsR QR Hops HQrg hS
    iterate 3
     apply rg_p;exact Hops;exact rfl;exact hS;exact rfl
     · intro _ hqc;go_simp;try rfl
     try simp only [pu]
    iterate 11
     refine rg_yn Hops rfl hS rfl rfl rfl rfl rfl ?_
     try simp only [pu]
    iterate 2
     apply rg_p;exact Hops;exact rfl;exact hS;exact rfl
     · intro _ hqc;go_simp;try rfl
     try simp only [pu]
    iterate 7
     apply rg_g;exact Hops;exact rfl;exact hS;iterate 4 exact rfl
     · intro _ hqc;go_simp;try rfl
     try simp only [pu]
    refine rg_call (i:=23) (get_of Hops rfl) (fun K hK=>?_)
    have HSrg:=Lib.hid hS;clear hS
    refine rg_run (wanted_yes rfl (get_of Hops rfl) rfl rfl) ?_
    go_simp
    refine (HE.out _ (bT Hb.out HSrg.out)).mono ?_
    rintro e wr1 ⟨rfl,hbr1⟩
    have hS:Since wr wr1:=bT (w:=wr) HSrg.out hbr1
    clear HSrg
    refine hK.out _ _ hS (fun _=>?_)
    clear hK K
    try simp only [pu]
    apply rg_p;exact Hops;exact rfl;exact hS;exact rfl
    · intro _ hqc;go_simp;try rfl
    try simp only [pu]
    refine rg_done ?_
    refine HQrg.down _ _ ?_
    have hB:Below wr.heap.size wr wr1:=hS
    clear hS HQrg Hops
    have HB5:=Lib.hid (bT HBw.out hB)
    clear hB c0 c1 X5 X5l X5a X5b
    cases E
    ·
     go_wp2_with fail
     go_roundw
     case rel => exact ⟨k+1,0,.inl (by omega),by go_num,rfl,hnot.out rfl,HB5.out⟩
     case measure => simp [intOf];omega
    ·
     go_wp2_with fail
     go_roundw
     case rel => exact ⟨k+1,k+1,.inl (by omega),by go_num,by go_num,hyes.out rfl,HB5.out⟩
     case measure => simp [intOf];omega
   ·
    obtain ⟨bq',oq',hA',-,e0,-,-,-⟩:=(HR.out.mono Hb.out).ad hbl
    injection hA' with hA'
    injection hA' with y1 y2 _
    subst y1 y2
    have k4:IntKind.i64.wrap (b:Int)=b:=IntWalk.i64_in _ (by omega)
    have k5:(b:Int)<L.length:=by omega
    have k6:0≤(b:Int):=by omega
    have kb:((b:Int) == 0)=false:=by simp;omega
    have hyes:=Lib.hid (fun h g=>bestIx_take HBx.out hlt (HEe.out.trans h) (.inr ⟨hbl,g⟩))
    have hnot:=Lib.hid (fun h=>bestIx_skip HBx.out hlt (.inl (HEe.out.trans h)))
    have hnot2:=Lib.hid (fun g=>bestIx_skip HBx.out hlt (.inr ⟨by omega,hbl,g⟩))
    generalize L[b].tw=tb at *
    generalize L[k+1].tw=t at *
    generalize L[k+1].ov=sv at *
    obtain ⟨sa,sn,sc⟩:=sv
    unfold svV at c1 HE
    try clear X5l
    try clear X5a
    try clear X5b
    obtain ⟨X5l,X5a,X5b,-,-⟩:=X5.facts2
    by_cases hlt2:t<tb
    ·
     go_upto_region 5 with fail
     refine rg_start (Since wr) (.run 23 0 0 (.call 23 16777215 (.take 24 33554431 (.done)))) (by kernel_rfl) (bD (bR _)) (by kernel_rfl) (by kernel_rfl) (Nat.le_of_ble_eq_true (by kernel_rfl)) ?_
     intro opsR QR Hops HQrg hS
     iterate 3
      apply rg_p;exact Hops;exact rfl;exact hS;exact rfl
      · intro _ hqc;go_simp;try rfl
      try simp only [pu]
     iterate 11
      apply rg_g;exact Hops;exact rfl;exact hS;iterate 4 exact rfl
      · intro _ hqc;go_simp;try rfl
      try simp only [pu]
     iterate 2
      apply rg_p;exact Hops;exact rfl;exact hS;exact rfl
      · intro _ hqc;go_simp;try rfl
      try simp only [pu]
     iterate 7
      apply rg_g;exact Hops;exact rfl;exact hS;iterate 4 exact rfl
      · intro _ hqc;go_simp;try rfl
      try simp only [pu]
     refine rg_call (i:=23) (get_of Hops rfl) (fun K hK=>?_)
     have HSrg:=Lib.hid hS;clear hS
     refine rg_run (wanted_yes rfl (get_of Hops rfl) rfl rfl) ?_
     go_simp
     refine (HE.out _ (bT Hb.out HSrg.out)).mono ?_
     rintro e wr1 ⟨rfl,hbr1⟩
     have hS:Since wr wr1:=bT (w:=wr) HSrg.out hbr1
     clear HSrg
     refine hK.out _ _ hS (fun _=>?_)
     clear hK K
     try simp only [pu]
     apply rg_p;exact Hops;exact rfl;exact hS;exact rfl
     · intro _ hqc;go_simp;try rfl
     try simp only [pu]
     refine rg_done ?_
     refine HQrg.down _ _ ?_
     have hB:Below wr.heap.size wr wr1:=hS
     clear hS HQrg Hops
     have HB5:=Lib.hid (bT HBw.out hB)
     clear hB c0 c1 e0 X5 X5l X5a X5b
     cases E
     ·
      go_wp2_with fail
      go_roundw
      case rel => exact ⟨k+1,b,.inl (by omega),by go_num,rfl,hnot.out rfl,HB5.out⟩
      case measure => simp [intOf];omega
     ·
      go_wp2_with fail
      go_roundw
      case rel => exact ⟨k+1,k+1,.inl (by omega),by go_num,by go_num,hyes.out rfl hlt2,HB5.out⟩
      case measure => simp [intOf];omega
    ·
     go_upto_region 5 with fail
     refine rg_start (Since wr) (.run 25 0 0 (.done)) (by kernel_rfl) (bD (bR _)) (by kernel_rfl) (by kernel_rfl) (Nat.le_of_ble_eq_true (by kernel_rfl)) ?_
     intro opsR QR Hops HQrg hS
     iterate 3
      apply rg_p;exact Hops;exact rfl;exact hS;exact rfl
      · intro _ hqc;go_simp;try rfl
      try simp only [pu]
     iterate 11
      apply rg_g;exact Hops;exact rfl;exact hS;iterate 4 exact rfl
      · intro _ hqc;go_simp;try rfl
      try simp only [pu]
     iterate 2
      apply rg_p;exact Hops;exact rfl;exact hS;exact rfl
      · intro _ hqc;go_simp;try rfl
      try simp only [pu]
     iterate 8
      refine rg_yn Hops rfl hS rfl rfl rfl rfl rfl ?_
      try simp only [pu]
     apply rg_p;exact Hops;exact rfl;exact hS;exact rfl
     · intro _ hqc;go_simp;try rfl
     try simp only [pu]
     refine rg_done ?_
     refine HQrg.down _ _ ?_
     have hB:Below wr.heap.size wr wr.drew:=hS
     clear hS HQrg Hops
     have HB5:=Lib.hid (bT HBw.out hB)
     clear hB c0 c1 e0 X5 X5l X5a X5b
     go_wp2_with fail
     go_roundw
     case rel => exact ⟨k+1,b,.inl (by omega),by go_num,rfl,hnot2.out hlt2,HB5.out⟩
     case measure => simp [intOf];omega
  ·
   have hkl:L.length-1=k:=by omega
   have HF:=Lib.hid hkl
   clear hkl X5
   go_wp2_with fail
   go_ret
   exact ⟨⟨b,rfl,by rw [HF.out];exact HBx.out⟩,Hb.out⟩
end Go.Proofs.YtpempeioeiaijaaGreat
namespace Go.Proofs.YtpempeioeiaijaaGreat
open Go.RowKit

def cysAD (x:AD):List (List Int×SV):=(x.out,x.ov)::x.inn
set_option maxRecDepth 100000 in
set_option maxHeartbeats 4000000 in
theorem AreaCycles_spec (x:AD) (w:World) (hr:Sl w (svV x.iv) x.inn.length (x.inn.flatMap cyC)) (hl:x.inn.length≤100000) :
  Calls Tryz.prog 77 #[.agg #[.int .i64 x.tw,svV x.ov,svV x.iv,svV x.av]] w fun e w'=>(∃ A c,e=.returned (.slice A (cysAD x).length c)∧Own w' w.heap.size 32 1 cyC (.slice A (cysAD x).length c) (cysAD x))∧Below w.heap.size w w':=by
 obtain ⟨tw,out,⟨oa,on,oc⟩,inn,⟨ia,in_,ic⟩,alo,⟨aa,an,ac⟩⟩:=x
 unfold svV cysAD at *
 simp only at hr hl ⊢
 have HS:=Lib.hid hr
 obtain ⟨Ai,ci,he,-⟩:=hr
 injection he with e1 e2 e3
 subst e2
 have HO:=Lib.hid (Own.lit (w.alloc (.cells #[.int .i64 tw,.slice oa on oc,.slice ia inn.length ic,.slice aa an ac] 106)) w.heap.size 32 1 cyC [((out,⟨oa,on,oc⟩):List Int×SV)] #[.slice oa on oc] 1 (w.heap.size+1) (by simp) rfl (by simp) (le_maxLen (by omega)) rfl rfl)
 have hle:((out,⟨oa,on,oc⟩)::inn:List (List Int×SV)).length=inn.length+1:=rfl
 rw [hle]
 clear e1 e3 hle
 go_enter Tryz.func77,Tryz.ntmps77
 go_wp2_with
  (at_builtin
   refine wpList_appl _ rfl (.tmp 5) (.tmp 7) _ rfl (base:=w.heap.size) elem_cy cyC_len cyC_one rfl HO.out rfl (l2:=inn) (HS.out.mono (bA (bA (bR w) _) _)) (by simp only [List.length_cons,List.length_nil];omega) (by simp only [List.length_cons,List.length_nil];omega) (by simp only [World.size_alloc];omega) ?_
   intro v2 w2 ho2 hg2 hat2
   obtain ⟨A2,c2,hv2,-⟩:=Own.shape_ ho2
   rw [show ([((out,⟨oa,on,oc⟩):List Int×SV)]++inn).length=inn.length+1 by rw [List.length_append,List.length_singleton];omega] at hv2
   subst hv2
   have HO2:=Lib.hid ho2
   have HB2:=Lib.hid (bG (bA (bA (bR w) _) _) hg2 (fun g hg=>(HO.out.lt g hg).1))
   clear ho2 hg2 hat2
   )
 go_ret
 exact ⟨⟨A2,c2,rfl,HO2.out⟩,HB2.out⟩
end Go.Proofs.YtpempeioeiaijaaGreat
namespace Go.Proofs.YtpempeioeiaijaaGreat
open Go.RowKit
set_option linter.unusedSectionVars false

def keyLt (a b:Int):Bool:=decide (absI a<absI b) || (decide (absI a=absI b) && decide (b<a))
theorem keyLt_iff {a b:Int}:keyLt a b=true↔absI a<absI b∨(absI a=absI b∧b<a):=by unfold keyLt;simp
theorem keyLt_irr (a:Int):keyLt a a=false:=by rw [← Bool.not_eq_true,keyLt_iff];omega
theorem keyLt_tri {a b:Int} (h1:keyLt a b=false) (h2:keyLt b a=false):a=b:=by
 rw [← Bool.not_eq_true,keyLt_iff] at h1 h2
 unfold absI at *
 split at h1<;>split at h1<;>simp_all<;>omega
theorem keyLt_trans {a b c:Int} (h1:keyLt a b=true) (h2:keyLt b c=true):keyLt a c=true:=by
 rw [keyLt_iff] at *
 omega
theorem keyLt_asym {a b:Int} (h1:keyLt a b=true):keyLt b a=false:=by
 rw [← Bool.not_eq_true]
 intro h2
 rw [keyLt_iff] at h1 h2
 omega
def keyStep (k d:Int):Int:=if keyLt d k then d else k
def keyUp (c:List Int) (n:Nat):Int:=(c.take n).foldl keyStep (c.headD 0)
def keyL (c:List Int):Int:=c.foldl keyStep (c.headD 0)
theorem keyUp_succ {c:List Int} {n:Nat} (hn:n<c.length):keyUp c (n+1)=keyStep (keyUp c n) c[n]:=by
 unfold keyUp
 rw [List.take_succ_eq_append_getElem hn,List.foldl_append]
 rfl
theorem keyUp_all (c:List Int):keyUp c c.length=keyL c:=by unfold keyUp keyL;rw [List.take_length]
theorem keyF_mem:∀ (l:List Int) (k:Int),l.foldl keyStep k=k∨l.foldl keyStep k∈l
 | [],k=>.inl rfl
 | d::l,k=>by
  rw [List.foldl_cons]
  rcases keyF_mem l (keyStep k d) with h | h
  ·
   rw [h]
   unfold keyStep
   split
   · exact .inr List.mem_cons_self
   · exact .inl rfl
  · exact .inr (List.mem_cons_of_mem _ h)
theorem keyL_mem {c:List Int} (h:c≠[]):keyL c∈c:=by
 rcases keyF_mem c (c.headD 0) with e | e
 ·
  unfold keyL
  rw [e]
  cases c with
  | nil=>exact absurd rfl h
  | cons a c=>exact List.mem_cons_self
 · exact e
def insK (X:List Int) (l:List (List Int)):List (List Int):=l.takeWhile (fun Y=>!keyLt (keyL X) (keyL Y))++X::l.dropWhile (fun Y=>!keyLt (keyL X) (keyL Y))
def sortK (l:List (List Int)):List (List Int):=l.foldl (fun acc X=>insK X acc) []
def lessK (X Y:List Int):Bool:=keyLt (keyL X) (keyL Y)
theorem insK_perm (X:List Int) (l:List (List Int)):(insK X l).Perm (X::l):=by
 unfold insK
 refine List.perm_middle.trans ?_
 rw [List.takeWhile_append_dropWhile]
theorem insK_sorted {X:List Int} {l:List (List Int)} (h:l.Pairwise (fun a b=>lessK b a=false)):(insK X l).Pairwise (fun a b=>lessK b a=false):=by
 unfold insK
 have hall:(l.takeWhile (fun Y=>!keyLt (keyL X) (keyL Y))++l.dropWhile (fun Y=>!keyLt (keyL X) (keyL Y)))=l:=List.takeWhile_append_dropWhile
 have h1:∀ Y∈l.takeWhile (fun Y=>!keyLt (keyL X) (keyL Y)),keyLt (keyL X) (keyL Y)=false:=fun Y hY=>by
  have:=List.all_eq_true.1 (List.all_takeWhile (p:=fun Y=>!keyLt (keyL X) (keyL Y)) (l:=l)) Y hY
  simpa using this
 have h2:∀ Y∈l.dropWhile (fun Y=>!keyLt (keyL X) (keyL Y)),keyLt (keyL Y) (keyL X)=false:=by
  intro Y hY
  cases hd:l.dropWhile (fun Y=>!keyLt (keyL X) (keyL Y)) with
  | nil=>rw [hd] at hY;cases hY
  | cons Z m =>
   have hZ:keyLt (keyL X) (keyL Z)=true:=by
    have:=List.head_dropWhile_not (fun Y=>!keyLt (keyL X) (keyL Y)) (l:=l) (by rw [hd];simp)
    simp only [hd,List.head_cons] at this
    simpa using this
   rw [hd] at hY
   rcases List.mem_cons.1 hY with rfl | hY
   · exact keyLt_asym hZ
   ·
    have hp:(Z::m).Pairwise (fun a b=>lessK b a=false):=by
     have:=h
     rw [← hall,List.pairwise_append] at this
     rw [← hd];exact this.2.1
    have:=(List.pairwise_cons.1 hp).1 Y hY
    rw [← Bool.not_eq_true]
    intro hc
    have h3:=keyLt_trans hc hZ
    unfold lessK at this
    rw [h3] at this
    cases this
 have hp:=h
 rw [← hall,List.pairwise_append] at hp
 rw [List.pairwise_append,List.pairwise_cons]
 refine ⟨hp.1,⟨h2,hp.2.1⟩,fun a ha b hb=>?_⟩
 rcases List.mem_cons.1 hb with rfl | hb
 · exact h1 a ha
 · exact hp.2.2 a ha b hb
theorem sortK_facts (l:List (List Int)):(sortK l).Perm l∧(sortK l).Pairwise (fun a b=>lessK b a=false):=by
 have:∀ (l acc:List (List Int)),acc.Pairwise (fun a b=>lessK b a=false)→(l.foldl (fun acc X=>insK X acc) acc).Perm (acc++l)∧(l.foldl (fun acc X=>insK X acc) acc).Pairwise (fun a b=>lessK b a=false):=by
  intro l
  induction l with
  | nil=>intro acc h;exact ⟨by rw [List.append_nil];exact List.Perm.refl _,h⟩
  | cons X l ih =>
   intro acc h
   rw [List.foldl_cons]
   obtain ⟨h1,h2⟩:=ih (insK X acc) (insK_sorted h)
   refine ⟨h1.trans ?_,h2⟩
   exact ((insK_perm X acc).append_right l).trans (List.perm_middle (l₁:=acc) (l₂:=l) (a:=X)).symm
 have h:=this l [] List.Pairwise.nil
 rw [List.nil_append] at h
 exact h
section
variable {p:Pl} (h:Valid p)
include h
theorem Valid.key_uniq {X Y:List Int} (hX:X∈cyclesD p) (hY:Y∈cyclesD p) (h1:lessK X Y=false) (h2:lessK Y X=false):X=Y:=by
 obtain ⟨x,-,-,-,hx⟩:=h.cyc_form hX
 obtain ⟨y,-,-,-,hy⟩:=h.cyc_form hY
 have e:keyL X=keyL Y:=keyLt_tri h1 h2
 refine h.cyc_one hX hY (keyL_mem (fun e=>by rw [e] at hx;cases hx)) ?_
 rw [e]
 exact keyL_mem (fun e=>by rw [e] at hy;cases hy)
theorem Valid.sort_eq {l:List (List Int)} (hl:l.Perm (outX p)) (hs:l.Pairwise (fun a b=>lessK b a=false)):l=sortK (outX p):=by
 obtain ⟨h1,h2⟩:=sortK_facts (outX p)
 refine sorted_uniq (lt:=lessK) (hl.trans h1.symm) hs h2 fun a ha b hb g1 g2=>?_
 have ma:=(mem_outX.1 (hl.subset ha)).1
 have mb:=(mem_outX.1 (hl.subset hb)).1
 exact h.key_uniq ma mb g1 g2
end
end Go.Proofs.YtpempeioeiaijaaGreat
namespace Go.Proofs.YtpempeioeiaijaaGreat
open Go.RowKit

theorem keyStep_yes {k d:Int} (h:max d (-d)<max k (-k)∨(d=-k∧0<d)):keyStep k d=d:=by
 unfold keyStep
 rw [if_pos]
 rw [keyLt_iff]
 unfold absI
 split<;>split<;>omega
theorem keyStep_no {k d:Int} (h:¬ (max d (-d)<max k (-k))) (h2:¬ (d=-k∧0<d)):keyStep k d=k:=by
 unfold keyStep
 rw [if_neg]
 rw [keyLt_iff]
 unfold absI
 split<;>split<;>omega
set_option maxRecDepth 100000 in
set_option maxHeartbeats 4000000 in
theorem Key_spec0 (v:Value) (c:List Int) (w:World) (h:Ints w v c) (hne:0<c.length) (hb:∀ d∈c,-1073741824≤d∧d≤1073741824) :
  Calls Tryz.prog 76 #[v] w fun e w'=>e=.returned (.int .i64 (keyL c))∧w=w':=by
 obtain ⟨A,cp,rfl,hn1,hn2,hR⟩:=h
 unfold maxLen at hn2
 have HR:=Lib.hid hR
 obtain ⟨R,hRr⟩:∃ R,keyL c=R:=⟨_,rfl⟩
 rw [hRr]
 have hR0:=keyUp_all c
 rw [hRr] at hR0
 have HRr:=Lib.hid hR0
 have HUp:=Lib.hid (fun n (hn:n<c.length)=>keyUp_succ (c:=c) hn)
 have HKb:=Lib.hid (show ∀ n,-1073741824≤keyUp c n∧keyUp c n≤1073741824 from fun n=>by
  have h1:c.headD 0∈c:=by
   cases c with
   | nil=>cases hne
   | cons a c=>exact List.mem_cons_self
  rcases keyF_mem (c.take n) (c.headD 0) with e | e
  · unfold keyUp;rw [e];exact hb _ h1
  · exact hb _ (List.mem_of_mem_take e))
 have HDb:=Lib.hid (fun n (hn:n<c.length)=>hb _ (List.getElem_mem hn))
 have hh:c.headD 0=c[0]:=by
  cases c with
  | nil=>cases hne
  | cons a c=>rfl
 have h0:keyUp c 0=c[0]:=by unfold keyUp;rw [List.take_zero];exact hh
 obtain ⟨b0,o0,rfl,hlb0,c0⟩:=(HR.out).int hne
 rw [← h0] at c0
 simp only [Nat.add_zero] at c0
 have kz:(0:Int)<c.length:=by omega
 have kn:¬ c=[]:=fun e=>by have:=congrArg List.length e;simp only [List.length_nil] at this;omega
 clear hb hR hRr hR0 h0 hh
 go_enter Tryz.func76,Tryz.ntmps76
 go_wp2_with fail
 go_loopw [3,11] (fun s i wr=>∃ k:Nat,k≤c.length∧i=.int .i64 k∧s=.int .i64 (keyUp c k)∧wr=w) (fun _ i _=>c.length-(intOf i).toNat)
 case atStart => exact ⟨0,Nat.zero_le _,rfl,rfl,rfl⟩
 case round =>
  obtain ⟨k,hk,rfl,rfl,hw⟩:=hrel
  obtain rfl:=hw.symm
  have hkb:=HKb.out k
  by_cases hlt:k<c.length
  ·
   obtain ⟨b,o,hA,hlb,c1⟩:=(HR.out).int hlt
   injection hA with hA
   injection hA with y1 y2 _
   subst y1 y2
   have hdb:=HDb.out k hlt
   have hup:=HUp.out k hlt
   generalize c[k]=d at *
   generalize keyUp c k=q at *
   have HU:=Lib.hid hup
   clear hup c0
   have k1:IntKind.i64.wrap (-d)=-d:=IntWalk.i64_in _ (by omega)
   have k2:IntKind.i64.wrap (-q)=-q:=IntWalk.i64_in _ (by omega)
   have m1:max d (-d)=(if d<0 then -d else d):=by split<;>omega
   by_cases h1:max d (-d)<max q (-q)
   ·
    have hs:=Lib.hid (keyStep_yes (.inl h1))
    clear m1
    go_wp2_with fail
    go_roundw
    case rel => exact ⟨k+1,by omega,by go_num,by rw [HU.out,hs.out],trivial⟩
    case measure => simp [intOf];omega
   ·
    clear m1
    by_cases h2:d=-q
    ·
     by_cases h3:0<d
     ·
      have hs:=Lib.hid (keyStep_yes (.inr ⟨h2,h3⟩))
      have h2b:(d == -q)=true:=by simpa using h2
      clear h2
      go_wp2_with fail
      go_roundw
      case rel => exact ⟨k+1,by omega,by go_num,by rw [HU.out,hs.out],trivial⟩
      case measure => simp [intOf];omega
     ·
      have hs:=Lib.hid (keyStep_no h1 (fun e=>h3 e.2))
      have h2b:(d == -q)=true:=by simpa using h2
      clear h2
      go_wp2_with fail
      go_roundw
      case rel => exact ⟨k+1,by omega,by go_num,by rw [HU.out,hs.out],trivial⟩
      case measure => simp [intOf];omega
    ·
     have hs:=Lib.hid (keyStep_no h1 (fun e=>h2 e.1))
     have h2b:(d == -q)=false:=by simpa using h2
     clear h2
     go_wp2_with fail
     go_roundw
     case rel => exact ⟨k+1,by omega,by go_num,by rw [HU.out,hs.out],trivial⟩
     case measure => simp [intOf];omega
  ·
   obtain rfl:k=c.length:=by omega
   have hf:=HRr.out
   rw [hf]
   go_wp2_with fail
   go_ret
   exact ⟨rfl,rfl⟩
end Go.Proofs.YtpempeioeiaijaaGreat
namespace Go.Proofs.YtpempeioeiaijaaGreat
open Go.RowKit Go.Sort

def cmpK (a b:Int):Int:=orS [cmpI (max a (-a)) (max b (-b)),cmpI b a]
theorem cmpK_lt (a b:Int):cmpK a b<0↔keyLt a b=true:=by
 rw [keyLt_iff]
 unfold cmpK orS cmpI absI
 have e1:max a (-a)=if a<0 then -a else a:=by split<;>omega
 have e2:max b (-b)=if b<0 then -b else b:=by split<;>omega
 rw [e1,e2]
 generalize (if a<0 then -a else a)=c
 generalize (if b<0 then -b else b)=d
 by_cases h1:c<d
 · simp [h1]
 ·
  by_cases h2:d<c
  · simp [h1,h2];omega
  ·
   by_cases h3:b<a
   · simp [h1,h2,h3];omega
   · by_cases h4:a<b<;>simp [h1,h2,h3,h4]<;>omega
theorem ltOf_cmpK {α:Type} (f:α→Int) (x y:α):ltOf (fun x y=>cmpK (f x) (f y)) x y=keyLt (f x) (f y):=by
 rw [Bool.eq_iff_iff,← cmpK_lt]
 unfold ltOf
 simp only [decide_eq_true_eq]
theorem swo_cmpK {α:Type} (f:α→Int):SWO (ltOf (fun x y:α=>cmpK (f x) (f y))) where
 irrefl x:=by rw [ltOf_cmpK];exact keyLt_irr _
 trans x y z h1 h2:=by rw [ltOf_cmpK] at *;exact keyLt_trans h1 h2
 ntrans x y z h1 h2:=by
  rw [ltOf_cmpK] at *
  rw [← Bool.not_eq_true] at *
  rw [keyLt_iff] at *
  omega
theorem Ints.lit2 {w:World} {g:Nat} {t:TypeId} {a b:Int} (h:Blk w g t #[.int .i64 a,.int .i64 b]):Ints w (.slice (some ⟨g,0,none⟩) 2 2) [a,b] :=
 Sl.lit (n:=2) h rfl (le_maxLen (by omega))

set_option maxRecDepth 100000 in
set_option maxHeartbeats 1000000 in
theorem cmpKeys_spec (a b:Int) (w:World) (ha:-1073741824≤a∧a≤1073741824) (hb:-1073741824≤b∧b≤1073741824) :
  Calls Tryz.prog 75 #[.int .i64 a,.int .i64 b] w fun e w'=>e=.returned (.int .i64 (cmpK a b))∧BelowD w w':=by
 have k1:IntKind.i64.wrap (-a)=-a:=IntWalk.i64_in _ (by omega)
 have k2:IntKind.i64.wrap (-b)=-b:=IntWalk.i64_in _ (by omega)
 unfold cmpK
 have HX:=Lib.hid (fun W=>Compare_int_spec' (max a (-a)) (max b (-b)) W)
 have HY:=Lib.hid (fun W=>Compare_int_spec' b a W)
 generalize cmpI (max a (-a)) (max b (-b))=x at *
 generalize cmpI b a=y at *
 go_enter Tryz.func75,Tryz.ntmps75
 go_wp2_with fail
 refine (HX.out _).mono ?_
 rintro e w1 ⟨rfl,hb1,hd1⟩
 go_wp2_with fail
 refine (HY.out _).mono ?_
 rintro e w2 ⟨rfl,hb2,hd2⟩
 have HB2:=Lib.hid (bA (bT hb1 hb2) (.cells #[.int .i64 x,.int .i64 y] 3))
 have HD2:=Lib.hid (dA (dT hd1 hd2) (.cells #[.int .i64 x,.int .i64 y] 3))
 have hlit:=Ints.lit2 (Blk.made (w:=w2) rfl 3 #[.int .i64 x,.int .i64 y])
 have HO:=Lib.hid (Or_spec' _ _ _ hlit (by simp))
 clear hb1 hb2 hd1 hd2 k1 k2 hlit
 go_wp2_with fail
 refine (HO.out).mono ?_
 rintro e w3 ⟨rfl,hb3,hd3⟩
 have HB3:=Lib.hid (bT HB2.out hb3);have HD3:=Lib.hid (dT HD2.out hd3)
 clear hb3 hd3
 go_wp2_with fail
 go_ret
 exact ⟨rfl,HB3.out,HD3.out⟩

def AdKey (w0:World) (s:AD):Prop:=Ints w0 (svV s.ov) s.out∧0<s.out.length∧∀ d∈s.out,-1073741824≤d∧d≤1073741824
theorem AdKey.mono {w w':World} {s:AD} (h:AdKey w s) (hb:Below w.heap.size w w'):AdKey w' s:=⟨h.1.mono hb,h.2⟩
set_option maxRecDepth 100000 in
set_option maxHeartbeats 1000000 in
theorem cmpAd_spec (s t:AD) (w:World) (hs:AdKey w s) (ht:AdKey w t):Calls Tryz.prog 74 #[.agg #[.int .i64 s.tw,svV s.ov,svV s.iv,svV s.av],.agg #[.int .i64 t.tw,svV t.ov,svV t.iv,svV t.av]] w fun e w'=>e=.returned (.int .i64 (cmpK (keyL s.out) (keyL t.out)))∧BelowD w w':=by
 have HS:=Lib.hid (fun W (hW:Below w.heap.size w W)=>(Key_spec0 (svV s.ov) s.out W (hs.1.mono hW) hs.2.1 hs.2.2).mono (R':=fun e w'=>e=.returned (.int .i64 (keyL s.out))∧BelowD W w') fun e w' g=>⟨g.1,by rw [← g.2];exact ⟨bR W,dR W⟩⟩)
 have HT:=Lib.hid (fun W (hW:Below w.heap.size w W)=>(Key_spec0 (svV t.ov) t.out W (ht.1.mono hW) ht.2.1 ht.2.2).mono (R':=fun e w'=>e=.returned (.int .i64 (keyL t.out))∧BelowD W w') fun e w' g=>⟨g.1,by rw [← g.2];exact ⟨bR W,dR W⟩⟩)
 have HC:=Lib.hid (fun W=>cmpKeys_spec (keyL s.out) (keyL t.out) W (hs.2.2 _ (keyL_mem (fun e=>by have:=hs.2.1;rw [e] at this;cases this))) (ht.2.2 _ (keyL_mem (fun e=>by have:=ht.2.1;rw [e] at this;cases this))))
 unfold svV at *
 generalize keyL s.out=x at *
 generalize keyL t.out=y at *
 clear hs ht
 obtain ⟨tw,so,⟨oa,on,oc⟩,si,⟨ia,in_,ic⟩,sa,⟨aa,an,ac⟩⟩:=s
 obtain ⟨tw',so',⟨oa',on',oc'⟩,si',⟨ia',in_',ic'⟩,sa',⟨aa',an',ac'⟩⟩:=t
 simp only at *
 go_enter Tryz.func74,Tryz.ntmps74
 go_upto_region 1 with fail
 obtain ⟨W,hW⟩:∃ W:World,W=(w.alloc (.cells #[.int .i64 tw,.slice oa on oc,.slice ia in_ ic,.slice aa an ac] 106)).alloc (.cells #[.int .i64 tw',.slice oa' on' oc',.slice ia' in_' ic',.slice aa' an' ac'] 106):=⟨_,rfl⟩
 have Bw:Below w.heap.size w W:=by rw [hW];exact bA (bA (bR w) _) _
 have Dw:=Lib.hid (show w.drawn≤W.drawn by rw [hW];exact dA (dA (dR w) _) _)
 have X1:Blk W w.heap.size 106 #[.int .i64 tw,.slice oa on oc,.slice ia in_ ic,.slice aa an ac]:=by rw [hW];exact (Blk.made rfl _ _).alloc _
 have X2:Blk W (w.heap.size+1) 106 #[.int .i64 tw',.slice oa' on' oc',.slice ia' in_' ic',.slice aa' an' ac']:=by rw [hW];exact Blk.made (by simp) _ _
 rw [← hW]
 clear hW
 obtain ⟨X1l,X1a,X1b,X1c,X1d,-,-,-,-⟩:=X1.facts4
 obtain ⟨X2l,X2a,X2b,X2c,X2d,-,-,-,-⟩:=X2.facts4
 refine rg_start (Since W) (.take 0 1 (.take 1 3 (.take 3 11 (.take 4 27 (.call 2 31 (.call 5 63 (.call 6 127 (.take 7 255 (.done))))))))) (by kernel_rfl) (bD (bR _)) (by kernel_rfl) (by kernel_rfl) (Nat.le_of_ble_eq_true (by kernel_rfl)) ?_
 intro opsR QR Hops HQrg hS
 iterate 4
  apply rg_p;exact Hops;exact rfl;exact hS;exact rfl
  · intro _ hqc;go_simp;try rfl
  try simp only [pu]
 refine rg_call (i:=2) (get_of Hops rfl) (fun K hK=>?_)
 have HSrg:=Lib.hid hS;clear hS
 refine rg_run (wanted_plain rfl) ?_
 go_simp
 refine (HS.out _ (bT Bw HSrg.out)).mono ?_
 rintro e wr1 ⟨rfl,hbr1,hd1⟩
 have hS:Since W wr1:=bT (w:=W) HSrg.out hbr1
 clear HSrg
 refine hK.out _ _ hS (fun _=>?_)
 clear hK K
 try simp only [pu]
 refine rg_call (i:=5) (get_of Hops rfl) (fun K hK=>?_)
 have HSrg:=Lib.hid hS;clear hS
 refine rg_run (wanted_plain rfl) ?_
 go_simp
 refine (HT.out _ (bT Bw HSrg.out)).mono ?_
 rintro e wr2 ⟨rfl,hbr2,hd2⟩
 have hS:Since W wr2:=bT (w:=W) HSrg.out hbr2
 clear HSrg
 refine hK.out _ _ hS (fun _=>?_)
 clear hK K
 try simp only [pu]
 refine rg_call (i:=6) (get_of Hops rfl) (fun K hK=>?_)
 have HSrg:=Lib.hid hS;clear hS
 refine rg_run (wanted_plain rfl) ?_
 go_simp
 refine (HC.out _).mono ?_
 rintro e wr3 ⟨rfl,hbr3,hd3⟩
 have hS:Since W wr3:=bT (w:=W) HSrg.out hbr3
 clear HSrg
 refine hK.out _ _ hS (fun _=>?_)
 clear hK K
 try simp only [pu]
 apply rg_p;exact Hops;exact rfl;exact hS;exact rfl
 · intro _ hqc;go_simp;try rfl
 try simp only [pu]
 refine rg_done ?_
 refine HQrg.down _ _ ?_
 have hB:Below W.heap.size W wr3:=hS
 clear hS HQrg Hops
 have D3:=Lib.hid (dT (dT (dT (dD Dw.out) hd1) hd2) hd3)
 go_wp2_with fail
 go_ret
 exact ⟨rfl,bT Bw hB,D3.out⟩
end Go.Proofs.YtpempeioeiaijaaGreat
