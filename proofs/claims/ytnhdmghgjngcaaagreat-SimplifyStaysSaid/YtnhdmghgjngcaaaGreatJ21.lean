import Derived.Test.YtnhdmghgjngcaaaGreatJ16
import Derived.Test.YtnhdmghgjngcaaaGreatJ20
import Derived.Test.YtnhdmghgjngcaaaGreatJ15
import Derived.Lib.SliceRun
import Derived.Test.YtnhdmghgjngcaaaGreatGB
import Derived.Test.YtnhdmghgjngcaaaGreatJ18
import Derived.Test.YtnhdmghgjngcaaaGreatJ02
import Derived.Deep.RegionLaw
import Derived.Test.YtnhdmghgjngcaaaGreatJ13
set_option linter.unusedSimpArgs false
set_option linter.unusedVariables false
namespace Go.Proofs.YtnhdmghgjngcaaaGreat
open Go.RowKit

def RetInO (w:World) (l:List Int) (e:Ending) (w':World):Prop :=
 ∃ A c,e=.returned (.slice A l.length c)∧Below w.heap.size w w'∧Own w' w.heap.size 3 1 inC (.slice A l.length c) l
set_option maxHeartbeats 400000 in
theorem Clone_in_spec (v:Value) (l:List Int) (w:World) (h:Ints w v l) (hl:l.length≤1048576) :
  Calls Tryz.prog 36 #[v] w (RetInO w l):=by
 have H:=h
 obtain ⟨A,c,rfl,hn,hc,hR⟩:=h
 have hE:=Lib.run_eql_slice_nil (P:=Tryz.prog) (t:=24) (e:=3)
 rcases A with _ | ad
 ·
  have hl0:l=[]:=by
   rcases l with _ | ⟨a,l⟩
   · rfl
   ·
    obtain ⟨b,o,e,_⟩:=hR (by simp [inC])
    cases e
  subst hl0
  clear hR H
  simp only [List.length_nil] at hn ⊢
  have hE1:∀ W:World,(binOp .eql 24 (.slice none 0 c) (.slice none 0 0)).run Tryz.prog W=.ok (.bool true) W:=fun W=>Lib.run_eql_slice_nil W _ 3 none _ c 0 0 Tryz.underlying24
  clear hE
  go_enter Tryz.func36,Tryz.ntmps36
  go_wp2
  go_ret
  exact ⟨_,_,rfl,bR w,Own.nil _ _ _ _ _⟩
 ·
  have hE1:∀ W:World,(binOp .eql 24 (.slice (some ad) l.length c) (.slice none 0 0)).run Tryz.prog W=.ok (.bool false) W:=fun W=>Lib.run_eql_slice_nil W _ 3 (some ad) _ c 0 0 Tryz.underlying24
  clear hE hR
  have HH:=Lib.hid H;clear H
  go_enter Tryz.func36,Tryz.ntmps36
  go_wp2_with
   (at_builtin
    refine wpList_appl _ rfl (.tmp 5) (.tmp 6) _ rfl (base:=w.heap.size) elem_in inC_len inC_one rfl (Own.lit _ _ _ _ inC [] _ 0 _ rfl rfl (Nat.le_refl _) (le_maxLen (by omega)) rfl rfl) rfl (HH.out.mono (bA (bR w) _)) (by simp only [List.length_nil];omega) (by simp only [List.length_nil];omega) (by simp) ?_
    intro v1 w1 hown hg hat)
  go_ret
  obtain ⟨A1,c1,rfl,-⟩:=Own.sl hown
  simp only [List.nil_append] at hown ⊢
  exact ⟨A1,c1,rfl,bG (bA (bR w) _) hg (fun k hk=>by have:w.heap.size=k:=Option.some.inj hk;omega),hown⟩

def SepB (bl:List (Ar×SV)):Prop:=bl.Pairwise (fun x y=>SepV (svV x.2) (svV y.2))
def RetCl (w:World) (p:Pl) (e:Ending) (w':World):Prop :=
 ∃ An cn Aa ca Af cf bl,e=.returned (.agg #[.slice An p.nodes.length cn,.slice Aa p.arcs.length ca,.slice Af p.faces.length cf])∧Below w.heap.size w w'∧PlO w' w.heap.size (.slice An p.nodes.length cn) (.slice Aa p.arcs.length ca) (.slice Af p.faces.length cf) p bl∧SepB bl

set_option maxRecDepth 100000 in
set_option maxHeartbeats 8000000 in
theorem SClone_spec (v:Value) (p:Pl) (w:World) (h:PlV w v p) (hm:Mod34 p) (hf:p.faces.length≤1000000):Calls Tryz.prog 22 #[v] w (RetCl w p):=by
 have ha:=hm.ars;have hn:=hm.nds;have hvl:=hm.via
 obtain ⟨_,_,_,al,rfl,hpa,hN,⟨⟨Aa,ca,rfl,ha1,ha2,hRa⟩,hV⟩,hF⟩:=h
 obtain ⟨bl,rfl⟩:=hV.sv
 have hres:p.arcs=bl.map (·.1):=by rw [hpa,List.map_map];rfl
 have hbl:bl.length≤1000000:=by rw [hres,List.length_map] at ha;exact ha
 rw [List.length_map] at ha1
 rw [arS_flat] at hRa
 have HVk:=Lib.hid (show ∀ k (hk:k<bl.length),Pts w (.slice bl[k].2.a bl[k].2.n bl[k].2.c) bl[k].1.via from fun k hk=>by
  have:=hV k (by simpa using hk)
  simpa [svA] using this)
 have HVl:=Lib.hid (show ∀ k (hk:k<bl.length),bl[k].1.via.length≤1000000 from fun k hk=>hvl _ (by rw [hres];exact List.mem_map_of_mem (List.getElem_mem hk)))
 have HRa:=Lib.hid (show Row w Aa (bl.flatMap arS) from hRa)
 have HCn:=Lib.hid (fun W (hW:Below w.heap.size w W)=>Clone_nd_spec _ p.nodes W (hN.mono hW) (by omega))
 have HCf:=Lib.hid (fun W (hW:Below w.heap.size w W)=>Clone_in_spec _ p.faces W (hF.mono hW) (by omega))
 have HCp:=Lib.hid (fun u l W (hu:Pts W u l) (hl:l.length≤1048576)=>Clone_pt_spec u l W hu hl)
 obtain ⟨An,cn,rfl,hn1,hn2,-⟩:=hN
 obtain ⟨Af,cf,rfl,hf1,hf2,-⟩:=hF
 have Hres:=Lib.hid hres
 rw [List.length_map] at *
 unfold maxLen at ha2 hn2 hf2
 clear hV hRa hpa hres hvl hm ha
 go_enter Tryz.func22,Tryz.ntmps22
 go_upto_region 1 with fail
 obtain ⟨g2,hg2⟩:∃ g2,w.heap.size+1=g2:=⟨_,rfl⟩
 obtain ⟨W1,hW⟩:∃ W:World,W=(w.alloc (.cells #[.slice An p.nodes.length cn,.slice Aa bl.length ca,.slice Af p.faces.length cf] 26)).alloc (.cells #[.slice none 0 0,.slice none 0 0,.slice none 0 0] 26):=⟨_,rfl⟩
 have X1:Blk W1 w.heap.size 26 #[.slice An p.nodes.length cn,.slice Aa bl.length ca,.slice Af p.faces.length cf]:=by rw [hW];exact (Blk.made rfl _ _).alloc _
 have X2:Blk W1 g2 26 #[.slice none 0 0,.slice none 0 0,.slice none 0 0]:=by rw [hW];exact Blk.made (by rw [← hg2];simp) _ _
 have HB1:=Lib.hid (show Below w.heap.size w W1 by rw [hW];exact bA (bA (bR w) _) _)
 rw [← hW]
 try rw [hg2]
 have HX1:=Lib.hid X1;have HX2:=Lib.hid X2
 have n12:¬ g2=w.heap.size:=by omega
 have n21:¬ w.heap.size=g2:=by omega
 have hgw:w.heap.size≤g2:=by omega
 clear hW hg2
 obtain ⟨X1l,X1a,X1b,X1c,-,-,-⟩:=X1.facts3
 obtain ⟨X2l,X2a,X2b,X2c,X2fa,X2fb,X2fc⟩:=X2.facts3
 go_wp2_with fail
 refine (HCn.out _ HB1.out).mono ?_
 rintro e w2 ⟨An',cn',rfl,hb2,hon⟩
 have HB2:=Lib.hid (bT HB1.out hb2)
 have HX3:=Lib.hid (HX1.out.keep hb2);have HX4:=Lib.hid (HX2.out.keep hb2)
 have hon':=hon.mono_base (b':=w.heap.size) HB1.out.size
 have HPo:=Lib.hid (show PlO w2 w.heap.size (.slice An' p.nodes.length cn') (.slice none 0 0) (.slice none 0 0) ⟨p.nodes,[],[]⟩ [] from ⟨hon',Own.nil _ _ _ _ _,(fun x hx=>by cases hx),rfl,Own.nil _ _ _ _ _⟩)
 clear hb2 hon hon' HCn X1 X1l X1a X1b X1c X2 X2l X2a X2b X2c X2fa X2fb X2fc
 have X3:=HX3.out;have X4:=HX4.out
 obtain ⟨X3l,X3a,X3b,X3c,-,-,-⟩:=X3.facts3
 obtain ⟨X4l,X4a,X4b,X4c,X4fa,X4fb,X4fc⟩:=X4.facts3
 go_wp2_with fail
 go_loopw [12] (fun i wr=>∃ (k:Nat) (ol:List (Ar×SV)) (A:Option Addr) (c:Nat),k≤bl.length∧i=.int .i64 k∧ol.length=k∧PlO wr w.heap.size (.slice An' p.nodes.length cn') (.slice A k c) (.slice none 0 0) ⟨p.nodes,(bl.take k).map (·.1),[]⟩ ol∧SepB ol∧Blk wr g2 26 #[.slice An' p.nodes.length cn',.slice A k c,.slice none 0 0]∧Blk wr w.heap.size 26 #[.slice An p.nodes.length cn,.slice Aa bl.length ca,.slice Af p.faces.length cf]∧Below w.heap.size w wr) (fun i _=>bl.length-(intOf i).toNat)
 case atStart => exact ⟨0,[],none,0,Nat.zero_le _,rfl,rfl,HPo.out.far HX4.out (by decide) (by decide) (by decide) (by decide) 0 _,List.Pairwise.nil,by simpa using HX4.out.set_ 0 (.slice An' p.nodes.length cn'),HX3.out.far (by show w.heap.size≠g2;omega) _,bS HB2.out hgw _⟩
 case round =>
  clear HPo HX4 HB2 X3 X3l X3a X3b X3c X4 X4l X4a X4b X4c X4fa X4fb X4fc HX3
  obtain ⟨k,ol,A,c,hk,rfl,hol,hpo,hsep,X4,X3,hb⟩:=hrel
  obtain ⟨wo,rfl⟩:∃ wo:World,wo=wr:=⟨_,rfl⟩
  have HP:=Lib.hid hpo;have HX4:=Lib.hid X4;have HX3:=Lib.hid X3;have HB:=Lib.hid hb;have HOl:=Lib.hid hol;have HSep:=Lib.hid hsep
  have hl4:=X4.lt
  clear hpo hb hsep
  by_cases hlt:k<bl.length
  ·
   obtain ⟨b,o,hAb,hlb,c0,c1,c2,c3,c4,c5⟩:=(Row.mono HRa.out HB.out).at6 hlt
   subst hAb
   have hv:=HVk.out k hlt
   have hvl:=HVl.out k hlt
   have htk:bl.take (k+1)=bl.take k++[bl[k]]:=List.take_succ_eq_append_getElem hlt
   generalize bl[k]=x at *
   obtain ⟨⟨id,fr,dst,via,lf,rt⟩,⟨va,vn,vc⟩⟩:=x
   simp only at c0 c1 c2 c3 c4 c5 hv hvl htk
   have hv0:=hv
   obtain ⟨Av,cv,hev,-,-,-⟩:=hv
   injection hev with y1 y2 y3
   subst y1 y2 y3
   have HVs:=Lib.hid (fun W (hW:Below w.heap.size w W)=>HCp.out (.slice va via.length vc) via W (hv0.mono hW) (by omega))
   clear hv0
   have HTk:=Lib.hid htk
   clear htk X4 X3
   go_upto_region 5 with fail
   obtain ⟨W2,hW⟩:∃ W:World,W=wo.alloc (.cells #[.int .i64 id,.int .i64 fr,.int .i64 dst,.slice va via.length vc,.int .i64 lf,.int .i64 rt] 41):=⟨_,rfl⟩
   have hA:Below wo.heap.size wo W2:=by rw [hW];exact bA (bR wo) _
   obtain ⟨g4,hg4⟩:∃ g4,wo.heap.size=g4:=⟨_,rfl⟩
   have X6:Blk W2 g4 41 #[.int .i64 id,.int .i64 fr,.int .i64 dst,.slice va via.length vc,.int .i64 lf,.int .i64 rt]:=by rw [hW];exact Blk.made hg4.symm _ _
   have HB2:=Lib.hid (bT HB.out hA);have HP2:=Lib.hid (HP.out.keep hA);have HX5:=Lib.hid (HX4.out.keep hA);have HX35:=Lib.hid (HX3.out.keep hA)
   have n4:some g4≠(Value.slice A k c).ownBlock:=fun e=>by have:=(HP.out.ars.lt _ e.symm).2;omega
   have n42:¬ g4=g2:=by omega
   have n43:¬ g4=w.heap.size:=by have:=HX3.out.lt;omega
   have hgw4:w.heap.size≤g4:=by have:=HX3.out.lt;omega
   rw [← hW]
   try rw [hg4]
   clear hW hA c0 c1 c2 c3 c4 c5 hlb HP HB HX4 HX3
   have HX6:=Lib.hid X6
   obtain ⟨X6l,X6a,X6b,X6c,X6d,X6e,X6f,-,-,-,-,-,-⟩:=X6.facts6
   go_wp2_with fail
   refine (HVs.out _ HB2.out).mono ?_
   rintro e w7 ⟨A7,c7,rfl,hb7,ho7⟩
   have hz7:=HB2.out.size
   have X67:=HX6.out.keep hb7
   have hn7:=Own.ne_blk ho7 X67 (by decide)
   have hl6:g4<W2.heap.size:=X6l
   have HX67:=Lib.hid X67
   have HP7:=Lib.hid (HP2.out.keep hb7);have HX57:=Lib.hid (HX5.out.keep hb7);have HX37:=Lib.hid (HX35.out.keep hb7);have HB7:=Lib.hid (bT HB2.out hb7)
   have HO7:=Lib.hid ho7
   have HLt:=Lib.hid (fun y (hy:y∈ol) g (hg:(svV y.2).ownBlock=some g)=>show SepV (svV y.2) (.slice A7 via.length c7) from fun q hq e=>by
    have h1:=((HP2.out.vias y hy).lt q hq).2
    have h2:=(ho7.lt q e).1
    omega)
   clear X6 X6l X6a X6b X6c X6d X6e X6f hb7 ho7 HX6 HP2 HX5 HX35 HB2 X67
   have X67:=HX67.out
   obtain ⟨X67l,X67a,X67b,X67c,X67d,X67e,X67f,X67fa,X67fb,X67fc,X67fd,X67fe,X67ff⟩:=X67.facts6
   go_upto_region 6 with fail
   obtain ⟨W8,hW⟩:∃ W:World,W=w7.setCell ⟨g4,3,none⟩ (.slice A7 via.length c7):=⟨_,rfl⟩
   have X68:Blk W8 g4 41 #[.int .i64 id,.int .i64 fr,.int .i64 dst,.slice A7 via.length c7,.int .i64 lf,.int .i64 rt]:=by rw [hW];have h:=HX67.out.set_ 3 (.slice A7 via.length c7);simpa using h
   have HP8:=Lib.hid (show PlO W8 w.heap.size (.slice An' p.nodes.length cn') (.slice A k c) (.slice none 0 0) ⟨p.nodes,(bl.take k).map (·.1),[]⟩ ol by
    rw [hW]
    exact ⟨HP7.out.nds.far (p:=⟨g4,3,none⟩) (Own.ne_blk HP7.out.nds HX67.out (by decide)) _,HP7.out.ars.far (p:=⟨g4,3,none⟩) (fun e=>n4 e.symm) _,fun y hy=>(HP7.out.vias y hy).far (p:=⟨g4,3,none⟩) (Own.ne_blk (HP7.out.vias y hy) HX67.out (by decide)) _,HP7.out.eq,HP7.out.fcs.far (p:=⟨g4,3,none⟩) (Own.ne_blk HP7.out.fcs HX67.out (by decide)) _⟩)
   have HX58:=Lib.hid (show Blk W8 g2 26 #[.slice An' p.nodes.length cn',.slice A k c,.slice none 0 0] by rw [hW];exact HX57.out.far (by show g2≠g4;omega) _)
   have HX38:=Lib.hid (show Blk W8 w.heap.size 26 #[.slice An p.nodes.length cn,.slice (some ⟨b,o,none⟩) bl.length ca,.slice Af p.faces.length cf] by rw [hW];exact HX37.out.far (by show w.heap.size≠g4;omega) _)
   have HO8:=Lib.hid (show Own W8 w.heap.size 36 2 ptC (.slice A7 via.length c7) via by rw [hW];exact (HO7.out.far (p:=⟨g4,3,none⟩) hn7 _).mono_base hz7)
   have HB8:=Lib.hid (show Below w.heap.size w W8 by rw [hW];exact bS HB7.out (by show w.heap.size≤g4;omega) _)
   have HXt:=Lib.hid (show (bl.take (k+1)).map (·.1)=(bl.take k).map (·.1)++[(⟨id,fr,dst,via,lf,rt⟩:Ar)] by rw [HTk.out,List.map_append];rfl)
   have HSep8:=Lib.hid (show SepB (ol++[((⟨id,fr,dst,via,lf,rt⟩:Ar),(⟨A7,via.length,c7⟩:SV))]) from List.pairwise_append.2 ⟨HSep.out,List.pairwise_singleton _ _,fun y hy z hz=>by
    rw [List.mem_singleton] at hz
    subst hz
    intro g hg
    exact HLt.out y hy g hg g hg⟩)
   rw [← hW]
   clear hW X67 X67l X67a X67b X67c X67d X67e X67f X67fa X67fb X67fc X67fd X67fe X67ff HX67 HP7 HX57 HX37 HO7 HB7 HLt HSep hn7 hl6
   have X5:=HX58.out
   have hlk:ol.length≤1000000:=by omega
   have HSh:=Lib.hid (show (ol++[((⟨id,fr,dst,via,lf,rt⟩:Ar),(⟨A7,via.length,c7⟩:SV))]).length=k+1 by rw [List.length_append,HOl.out];rfl)
   have hl4w:=X5.lt
   obtain ⟨X5l,X5a,X5b,X5c,X5fa,X5fb,X5fc⟩:=X5.facts3
   obtain ⟨X68l,X68a,X68b,X68c,X68d,X68e,X68f,-,-,-,-,-,-⟩:=X68.facts6
   go_wp2_with
    (at_builtin
     refine wpList_appl _ rfl (.tmp 21) (.tmp 23) _ rfl (base:=w.heap.size) elem_ar arS_len arS_one rfl (Own.alloc HP8.out.ars _) rfl (l2:=[((⟨id,fr,dst,via,lf,rt⟩:Ar),(⟨A7,via.length,c7⟩:SV))]) (Sl.lit (n:=1) (Blk.made rfl _ _) rfl (le_maxLen (by omega))) (by simp only [List.length_cons,List.length_nil];omega) (by simp only [List.length_cons,List.length_nil];omega) (by have:=HB8.out.size;simp;omega) ?_
     intro v9 w9 ho9 hg9 hat9
     obtain ⟨A9,c9,hv9,-⟩:=Own.shape_ ho9
     rw [HSh.out] at hv9
     subst hv9
     have n5:=Own.ne_blk (Own.alloc HP8.out.ars (.cells #[.int .i64 id,.int .i64 fr,.int .i64 dst,.slice A7 via.length c7,.int .i64 lf,.int .i64 rt] 41)) (HX58.out.alloc _) (by decide)
     have n6:=Own.ne_blk (Own.alloc HP8.out.ars (.cells #[.int .i64 id,.int .i64 fr,.int .i64 dst,.slice A7 via.length c7,.int .i64 lf,.int .i64 rt] 41)) (HX38.out.alloc _) (by decide)
     have hX9:=Blk.grown (HX58.out.alloc _) hg9 (fun e=>n5 e.symm)
     have HX39:=Lib.hid (Blk.grown (HX38.out.alloc _) hg9 (fun e=>n6 e.symm))
     have hmr:=Lib.hid (PlO.more (HP8.out.keep (bA (bR W8) _)) ho9 hg9 (Own.alloc HO8.out _))
     have HX9:=Lib.hid hX9
     have HB9:=Lib.hid (bG (bA HB8.out _) hg9 (fun g hg=>(HP8.out.ars.lt g hg).1))
     obtain ⟨q1,q2,q3,q4,q5,q6,q7⟩:=Blk.facts3 hX9
     clear hX9 ho9 hg9 hat9 n5 n6)
   go_roundw
   case rel => exact ⟨k+1,_,A9,c9,by omega,by go_num,HSh.out,by rw [HXt.out];exact hmr.out.far HX9.out (by decide) (by decide) (by decide) (by decide) 1 (.slice A9 (k+1) c9),HSep8.out,by have h:=HX9.out.set_ 1 (.slice A9 (k+1) c9);simpa using h,HX39.out.far (by show w.heap.size≠g2;omega) _,bS HB9.out (by show w.heap.size≤g2;omega) _⟩
   case measure => simp [intOf];omega
  ·
   obtain rfl:k=bl.length:=by omega
   have hlen:p.arcs.length=bl.length:=by rw [Hres.out,List.length_map]
   have hpe:(⟨p.nodes,(bl.take bl.length).map (·.1),[]⟩:Pl)=⟨p.nodes,p.arcs,[]⟩:=by rw [List.take_length,Hres.out]
   have hpo:=HP.out
   rw [hpe] at hpo
   have HPf:=Lib.hid hpo;have HLn:=Lib.hid hlen
   clear hpo hpe hlen HP
   try clear X3l
   try clear X3a
   try clear X3b
   try clear X3c
   obtain ⟨X3l,X3a,X3b,X3c,-,-,-⟩:=X3.facts3
   go_wp2_with fail
   refine (HCf.out _ HB.out).mono ?_
   rintro e w3 ⟨A3,c3,rfl,hb3,ho3⟩
   have HO3:=Lib.hid (ho3.mono_base (b':=w.heap.size) HB.out.size)
   have HX5:=Lib.hid (HX4.out.keep hb3);have HP3:=Lib.hid (HPf.out.keep hb3);have HB3:=Lib.hid (bT HB.out hb3)
   clear hb3 ho3 X3 X3l X3a X3b X3c X4 hl4 HX4 HX3 HPf HB
   have X5:=HX5.out
   try clear X5l
   try clear X5a
   try clear X5b
   try clear X5c
   try clear X5fa
   try clear X5fb
   try clear X5fc
   obtain ⟨X5l,X5a,X5b,X5c,X5fa,X5fb,X5fc⟩:=X5.facts3
   have hY:Blk (w3.setCell ⟨g2,2,none⟩ (.slice A3 p.faces.length c3)) g2 26 #[.slice An' p.nodes.length cn',.slice A bl.length c,.slice A3 p.faces.length c3]:=by
    have h:=HX5.out.set_ 2 (.slice A3 p.faces.length c3)
    simpa using h
   have HY:=Lib.hid hY
   have HPq:=Lib.hid (show PlO w3 w.heap.size (.slice An' p.nodes.length cn') (.slice A bl.length c) (.slice A3 p.faces.length c3) p ol from ⟨HP3.out.nds,HP3.out.ars,HP3.out.vias,HP3.out.eq,HO3.out⟩)
   have HPf:=Lib.hid ((((HPq.out.far HX5.out (by decide) (by decide) (by decide) (by decide) 2 (.slice A3 p.faces.length c3)).far HY.out (by decide) (by decide) (by decide) (by decide) 0 (.slice An' p.nodes.length cn')).far (HY.out.set_ 0 _) (by decide) (by decide) (by decide) (by decide) 1 (.slice A bl.length c)).far ((HY.out.set_ 0 _).set_ 1 _) (by decide) (by decide) (by decide) (by decide) 2 (.slice A3 p.faces.length c3))
   have HBf:=Lib.hid (bS (p:=⟨g2,2,none⟩) (bS (p:=⟨g2,1,none⟩) (bS (p:=⟨g2,0,none⟩) (bS (p:=⟨g2,2,none⟩) HB3.out hgw (.slice A3 p.faces.length c3)) hgw (.slice An' p.nodes.length cn')) hgw (.slice A bl.length c)) hgw (.slice A3 p.faces.length c3))
   clear hY
   go_wp2_with fail
   refine res_cell (g:=g2) (cs:=#[.slice An' p.nodes.length cn',.slice A bl.length c,.slice A3 p.faces.length c3]) rfl struct_pl rfl rfl (Blk.put3 HY.out) ?_
   have hl1:=HLn.out
   refine ⟨An',cn',A,c,A3,c3,ol,by rw [hl1],HBf.out,?_,HSep.out⟩
   rw [hl1]
   exact HPf.out
end Go.Proofs.YtnhdmghgjngcaaaGreat
namespace Go.Proofs.YtnhdmghgjngcaaaGreat
open Go.RowKit

def HoldP (w:World) (g c:Nat) (m:List Pt):Prop:=∃ cur,Blk w g 36 cur∧cur.size=c*2∧m.length≤c∧∀ k (hk:k<m.length),cur[k*2]? = some (.int .i64 m[k].x)∧cur[k*2+1]? = some (.int .i64 m[k].y)
section
variable {w w':World} {g c:Nat} {m:List Pt}
theorem HoldP.lt (h:HoldP w g c m):g<w.heap.size:=by obtain ⟨cur,hb,_⟩:=h;exact hb.lt
theorem HoldP.drew (h:HoldP w g c m):HoldP w.drew g c m:=h
theorem HoldP.at_ (h:HoldP w g c m) {k:Nat} (hk:k<m.length):w.cell? ⟨g,k*2,none⟩=some (.int .i64 m[k].x)∧w.cell? ⟨g,k*2+1,none⟩=some (.int .i64 m[k].y):=by
 obtain ⟨cur,h1,_,_,h2⟩:=h
 exact ⟨(h1.cell _).trans (h2 k hk).1,(h1.cell _).trans (h2 k hk).2⟩
theorem HoldP.fz (h:HoldP w g c m) (i:Nat):w.frozen? ⟨g,i,none⟩=false:=by
 obtain ⟨cur,h1,_⟩:=h
 exact h1.frozen i
theorem HoldP.set2 (h:HoldP w g c m) {k:Nat} (hk:k<m.length) (p:Pt):HoldP ((w.setCell ⟨g,k*2,none⟩ (.int .i64 p.x)).setCell ⟨g,k*2+1,none⟩ (.int .i64 p.y)) g c (m.set k p):=by
 obtain ⟨cur,h1,h2,h3,h4⟩:=h
 refine ⟨_,(h1.set_ _ _).set_ _ _,by simp [h2],by simpa using h3,fun j hj=>?_⟩
 have hj':j<m.length:=by simpa using hj
 by_cases e:k=j
 ·
  subst e
  have b1:k*2<cur.size:=by omega
  have b2:k*2+1<cur.size:=by omega
  rw [List.getElem_set_self]
  constructor
  · rw [Array.getElem?_setIfInBounds_ne (by omega),Array.getElem?_setIfInBounds_self_of_lt b1]
  · rw [Array.getElem?_setIfInBounds_self_of_lt (by simpa using b2)]
 ·
  rw [List.getElem_set_ne e]
  obtain ⟨a1,a2⟩:=h4 j hj'
  constructor
  · rw [Array.getElem?_setIfInBounds_ne (by omega),Array.getElem?_setIfInBounds_ne (by omega)];exact a1
  · rw [Array.getElem?_setIfInBounds_ne (by omega),Array.getElem?_setIfInBounds_ne (by omega)];exact a2
theorem HoldP.take (h:HoldP w g c m) (k:Nat):HoldP w g c (m.take k):=by
 obtain ⟨cur,h1,h2,h3,h4⟩:=h
 refine ⟨cur,h1,h2,by rw [List.length_take];omega,fun j hj=>?_⟩
 have hj':j<m.length:=by rw [List.length_take] at hj;omega
 rw [List.getElem_take]
 exact h4 j hj'
theorem HoldP.set1 (h:HoldP w g c m) {i:Nat} (hi:m.length*2≤i) (u:Value):HoldP (w.setCell ⟨g,i,none⟩ u) g c m:=by
 obtain ⟨cur,h1,h2,h3,h4⟩:=h
 refine ⟨_,h1.set_ _ _,by simp [h2],h3,fun j hj=>?_⟩
 obtain ⟨a1,a2⟩:=h4 j hj
 constructor
 · rw [Array.getElem?_setIfInBounds_ne (by omega)];exact a1
 · rw [Array.getElem?_setIfInBounds_ne (by omega)];exact a2
end
theorem HoldP.sets {g c:Nat} {m:List Pt}:∀ (vs:List Value) (o:Nat) {w:World},HoldP w g c m→m.length*2≤o→HoldP (w.setCells g o vs) g c m
 | [],_,_,h,_=>h
 | v::vs,o,_,h,ho=>HoldP.sets vs (o+1) (h.set1 ho v) (by omega)
theorem Own.hold {w:World} {B:Nat} {l:List Pt} {v:Value} (h:Own w B 36 2 ptC v l) (hne:l≠[]):∃ g c,v=.slice (some ⟨g,0,none⟩) l.length c∧B≤g∧c≤maxLen∧HoldP w g c l:=by
 obtain ⟨h1,h2⟩:=h
 rcases h2 with ⟨rfl,h2⟩ | ⟨g,cap,cur,rfl,hg,hh,h3,h4,h5,h6⟩
 · exact absurd (List.eq_nil_of_length_eq_zero h2) hne
 ·
  refine ⟨g,cap,rfl,hg,h4,cur,hh,h5,h3,fun k hk=>?_⟩
  have e0:=flat_get ptC 2 ptC_len l k 0 hk (by omega)
  have e1:=flat_get ptC 2 ptC_len l k 1 hk (by omega)
  rw [← h6,List.getElem?_take] at e0 e1
  rw [if_pos (by omega)] at e0 e1
  exact ⟨by simpa [ptC] using e0,by simpa [ptC] using e1⟩
theorem HoldP.own {w:World} {B g c:Nat} {m:List Pt} (h:HoldP w g c m) (hg:B≤g) (hc:c≤maxLen):Own w B 36 2 ptC (.slice (some ⟨g,0,none⟩) m.length c) m:=by
 obtain ⟨cur,h1,h2,h3,h4⟩:=h
 refine ⟨flat_length ptC 2 ptC_len m,.inr ⟨g,c,cur,rfl,hg,h1,h3,hc,h2,?_⟩⟩
 apply List.ext_getElem?
 intro i
 rw [List.getElem?_take]
 by_cases hi:i<m.length*2
 ·
  rw [if_pos hi]
  obtain ⟨k,j,rfl,hj⟩:∃ k j,i=k*2+j∧j<2:=⟨i / 2,i % 2,by omega,by omega⟩
  have hk:k<m.length:=by omega
  rw [flat_get ptC 2 ptC_len m k j hk hj]
  obtain ⟨a0,a1⟩:=h4 k hk
  rcases (by omega:j=0∨j=1) with rfl | rfl
  · simpa [ptC] using a0
  · simpa [ptC] using a1
 · rw [if_neg hi,List.getElem?_eq_none (by rw [flat_length ptC 2 ptC_len];omega)]
theorem run_clear_pt (w:World) (ty:TypeId) (b o n c:Nat) (hn:0<n)
  (hc:∀ j,j<n*2→(w.cell? ⟨b,o+j,none⟩).isSome=true) (hf:∀ j,j<n*2→w.frozen? ⟨b,o+j,none⟩=false) :
  (Builtin.clear_ #[39] ty #[.slice (some ⟨b,o,none⟩) n c]).run Tryz.prog w=.ok (.tuple #[]) (w.setCells b o (List.replicate (n*2) (.int .i64 0))):=by
 have ht:Tryz.prog.underlying 39=some (.slice 36):=by kernel_rfl
 have hv:∀ w,(zeroValue 36).run Tryz.prog w=.ok (.agg #[.int .i64 0,.int .i64 0]) w:=fun w=>by kernel_rfl
 have hzc:(Builtin.zeroCells (Value.agg #[.int .i64 0,.int .i64 0]).cells n).toList=List.replicate (n*2) (.int .i64 0):=by
  simp [Builtin.zeroCells,Value.cells]
  apply List.ext_getElem
  · simp [Nat.mul_comm]
  ·
   intro i h1 h2
   rcases Nat.mod_two_eq_zero_or_one i with e | e<;>simp [e]
 have hst:=run_storeCells_cells (P:=Tryz.prog) b o (List.replicate (n*2) (.int .i64 0)) 0 w (by simpa using hc) (by simpa using hf) (by intro v hv';rw [List.eq_of_mem_replicate hv'];rfl)
 simp only [Nat.add_zero] at hst
 obtain ⟨m,rfl⟩:∃ m,n=m+1:=⟨n-1,by omega⟩
 simp [Builtin.clear_,run_underlying ht,hv,hzc,hst]

theorem gset {w0 w1:World} {g:Nat} (h:w0.grownBy w1 (some g)) (i:Nat) (u:Value):w0.grownBy (w1.setCell ⟨g,i,none⟩ u) (some g) :=
 ⟨h.os,h.tape,h.output,by simpa using h.size,fun b hb hr=>(Below.heap_setCell w1 _ u b (fun e=>hr (by rw [e]))).trans (h.block b hb hr)⟩
theorem gsets {w0:World} {g:Nat}:∀ (vs:List Value) (o:Nat) {w1:World},w0.grownBy w1 (some g)→w0.grownBy (w1.setCells g o vs) (some g)
 | [],_,_,h=>h
 | v::vs,o,_,h=>gsets vs (o+1) (gset h o v)
end Go.Proofs.YtnhdmghgjngcaaaGreat
namespace Go.Proofs.YtnhdmghgjngcaaaGreat
open Go.RowKit

theorem sizeOfPt:∀ w,(Go.sizeOf 36).run Tryz.prog w=.ok 2 w:=fun _=>by kernel_rfl
theorem setCells_pt (g o:Nat) (q:Pt) (vs:List Value) (w:World):w.setCells g o (ptC q++vs)=((w.setCell ⟨g,o,none⟩ (.int .i64 q.x)).setCell ⟨g,o+1,none⟩ (.int .i64 q.y)).setCells g (o+1+1) vs:=rfl
theorem HoldP.lay {g c:Nat}:∀ (ps:List Pt) (k:Nat) {m:List Pt} {w:World},HoldP w g c m→k+ps.length≤m.length→HoldP (w.setCells g (k*2) (ps.flatMap ptC)) g c (m.take k++ps++m.drop (k+ps.length))
 | [],k,m,w,h,_=>by
  simp only [List.flatMap_nil,List.length_nil,Nat.add_zero,List.append_nil,List.take_append_drop]
  exact h
 | q::ps,k,m,w,h,hk=>by
  simp only [List.length_cons] at hk
  have h1:=h.set2 (k:=k) (by omega) q
  have h2:=HoldP.lay ps (k+1) h1 (by rw [List.length_set];omega)
  rw [List.flatMap_cons,setCells_pt]
  rw [show (k+1)*2=k*2+1+1 by omega] at h2
  have e:m.take k++(q::ps)++m.drop (k+(q::ps).length)=(m.set k q).take (k+1)++ps++(m.set k q).drop (k+1+ps.length):=by
   rw [List.take_succ_eq_append_getElem (by rw [List.length_set];omega),List.getElem_set_self,List.take_set_of_le (Nat.le_refl _),List.drop_set_of_lt (by omega),List.length_cons]
   rw [show k+(ps.length+1)=k+1+ps.length by omega]
   simp
  rw [e]
  exact h2

set_option maxRecDepth 100000 in
set_option maxHeartbeats 8000000 in
theorem DeletePt_spec (l:List Pt) (g c i:Nat) (w:World) (hh:HoldP w g c l) (hc:c≤maxLen) (hi:i<l.length) :
  Calls Tryz.prog 39 #[.slice (some ⟨g,0,none⟩) l.length c,.int .i64 i,.int .i64 ((i:Int)+1)] w fun e w'=>e=.returned (.slice (some ⟨g,0,none⟩) (l.eraseIdx i).length c)∧HoldP w' g c (l.eraseIdx i)∧w.grownBy w' (some g):=by
 obtain ⟨n,hn⟩:∃ n,l.length=n:=⟨_,rfl⟩
 have hnc:n≤c:=by obtain ⟨_,_,_,h,_⟩:=hh;omega
 unfold maxLen at hc
 have hel:(l.eraseIdx i).length=n-1:=by rw [List.length_eraseIdx,if_pos hi,hn]
 have HH:=Lib.hid hh
 rw [hel,hn]
 rw [hn] at hi
 obtain ⟨news,hnews⟩:∃ news,news=(l.drop (i+1)).flatMap ptC:=⟨_,rfl⟩
 have hlen:news.length=(n-(i+1))*2:=by rw [hnews,flat_length ptC 2 ptC_len,List.length_drop,hn]
 have HNw:=Lib.hid hnews;have HLen:=Lib.hid hlen
 have H1:=Lib.hid (show HoldP (w.drew.setCells g (i*2) news) g c (l.eraseIdx i) by
  rw [hnews]
  have h:=HoldP.lay (l.drop (i+1)) i HH.out.drew (by rw [List.length_drop];omega)
  have h':=h.take (n-1)
  have e:(l.take i++l.drop (i+1)++l.drop (i+(l.drop (i+1)).length)).take (n-1)=l.eraseIdx i:=by
   rw [List.eraseIdx_eq_take_drop_succ,List.take_append_of_le_length (by simp;omega),List.take_of_length_le (by simp;omega)]
  rw [e] at h'
  exact h')
 clear hnews hh hlen hel
 go_enter Tryz.func39,Tryz.ntmps39
 go_upto_region 5 with fail
 obtain ⟨Ac,hAc⟩:∃ Ac,cutA (some ⟨g,0,none⟩) c (i+1) 2=Ac:=⟨_,rfl⟩
 have hrun1:=run_pre Tryz.underlying39 sizeOfPt (some ⟨g,0,none⟩) n c i (by omega) hnc
 have hrun2:=run_cut Tryz.underlying39 sizeOfPt (some ⟨g,0,none⟩) n c (i+1) (by omega) ((i:Int)+1) (by omega)
 rw [hAc] at hrun2
 obtain ⟨A',hA',hsrc⟩:∃ A',Ac=some A'∧Hid (∀ t u,news[t]? = some u→w.drew.cell? (A'.add t)=some u):=by
  rw [← hAc]
  unfold cutA
  by_cases e:c=i+1
  ·
   rw [if_pos e]
   refine ⟨_,rfl,Lib.hid fun t u hu=>?_⟩
   have:news=[]:=List.eq_nil_of_length_eq_zero (by rw [HLen.out];omega)
   rw [this] at hu
   simp at hu
  ·
   rw [if_neg e]
   refine ⟨_,rfl,Lib.hid fun t u hu=>?_⟩
   have ht:t<(n-(i+1))*2:=by
    rw [← HLen.out]
    exact (List.getElem?_eq_some_iff.1 hu).1
   obtain ⟨k,j,rfl,hj⟩:∃ k j,t=k*2+j∧j<2:=⟨t / 2,t % 2,by omega,by omega⟩
   have hk:k<(l.drop (i+1)).length:=by rw [List.length_drop,hn];omega
   rw [HNw.out,flat_get ptC 2 ptC_len _ k j hk hj] at hu
   have hk2:i+1+k<l.length:=by rw [hn];omega
   obtain ⟨a0,a1⟩:=HH.out.at_ hk2
   rw [List.getElem_drop] at hu
   have ea:((fun x:Addr=>x.add ((i+1)*2)) ⟨g,0,none⟩).add (k*2+j)=⟨g,(i+1+k)*2+j,none⟩:=by
    simp only [Addr.add_lit]
    rw [show 0+(i+1)*2+(k*2+j)=(i+1+k)*2+j by omega]
   rw [ea]
   show w.cell? _=some u
   rcases (by omega:j=0∨j=1) with rfl | rfl
   ·
    rw [Nat.add_zero,a0]
    simpa [ptC] using hu
   ·
    rw [a1]
    simpa [ptC] using hu
 obtain ⟨-,i0,z0,hi0,-,hz1,-⟩:=elem_pt
 subst hA'
 have HOne:=Lib.hid (show ∀ u∈news,u.oneCell'=true by rw [HNw.out];intro u hu;obtain ⟨q,-,hq⟩:=List.mem_flatMap.1 hu;exact ptC_one q u hq)
 have HSp:=Lib.hid (show ∀ t,t<news.length→(w.drew.cell? ⟨g,0+i*2+t,none⟩).isSome=true∧w.drew.frozen? ⟨g,0+i*2+t,none⟩=false by
  intro t ht
  rw [HLen.out] at ht
  obtain ⟨cur,hb,hcs,-⟩:=HH.out
  refine ⟨?_,hb.frozen _⟩
  show (w.cell? ⟨g,0+i*2+t,none⟩).isSome=true
  rw [hb.cell,Array.getElem?_eq_getElem (by omega)]
  rfl)
 clear hAc
 go_region_law (refine step_append_room rfl (.tmp 22) (.tmp 25) 39 rfl 36 i0 2 Tryz.underlying39 hi0 hz1 g 0 i c (by simp [Act.eval,Act.put]) A' (n-(i+1)) (c-(i+1)) news (by simp [Act.eval,Act.put]) HLen.out hsrc.out HOne.out (by omega) HSp.out ?_)
 obtain ⟨W1,hW⟩:∃ W,W=w.drew.setCells g (i*2) news:=⟨_,rfl⟩
 have hg1:w.grownBy W1 (some g):=by rw [hW];exact gsets news _ (⟨rfl,rfl,rfl,Nat.le_refl _,fun _ _ _=>rfl⟩:w.grownBy w.drew (some g))
 rw [← hW] at H1 ⊢
 have HG1:=Lib.hid hg1
 have hnn:i+(n-(i+1))=n-1:=by omega
 rw [hnn]
 clear hW hg1 hrun1 hrun2 hnn hsrc HSp HOne HLen HNw
 have hlen:(l.eraseIdx i).length=n-1:=by rw [List.length_eraseIdx,if_pos (by omega),hn]
 have HLe:=Lib.hid hlen
 have hcl:∀ ty,(Builtin.clear_ #[39] ty #[.slice (some ⟨g,(n-1)*2,none⟩) 1 (c-(n-1))]).run Tryz.prog W1=.ok (.tuple #[]) (W1.setCells g ((n-1)*2) (List.replicate (1*2) (.int .i64 0))):=fun ty=>by
  refine run_clear_pt W1 ty g ((n-1)*2) 1 (c-(n-1)) (by omega) (fun t ht=>?_) (fun t _=>H1.out.fz _)
  obtain ⟨cur,hb,hcs,-⟩:=H1.out
  rw [hb.cell,Array.getElem?_eq_getElem (by omega)]
  rfl
 have H2:=Lib.hid (H1.out.sets (List.replicate (1*2) (.int .i64 0)) ((n-1)*2) (by rw [hlen];exact Nat.le_refl _))
 have HG2:=Lib.hid (gsets (List.replicate (1*2) (.int .i64 0)) ((n-1)*2) HG1.out)
 have k1:((n-1:Nat):Int)=(n:Int)-1:=by omega
 have k2:n-(n-1)=1:=by omega
 have k3:¬ c=n-1:=by omega
 clear hlen hn HH H1 HG1
 go_wp2
 go_ret
 exact ⟨rfl,H2.out,HG2.out⟩
end Go.Proofs.YtnhdmghgjngcaaaGreat
namespace Go.Proofs.YtnhdmghgjngcaaaGreat
open Go.RowKit

theorem Own.formG {α:Type} {w:World} {base:Nat} {e:TypeId} {size:Nat} {f:α→List Value} {v:Value} {l:List α} (h:Own w base e size f v l) (hl:0<l.length):∃ g c,v=.slice (some ⟨g,0,none⟩) l.length c∧base≤g∧g<w.heap.size∧l.length≤c∧c≤maxLen∧(∃ cur,Blk w g e cur∧cur.size=c*size):=by
 rcases h.2 with ⟨_,h0⟩ | ⟨g,cap,cur,hv,hg,hh,hnc,hcm,hcs,_⟩
 · omega
 · exact ⟨g,cap,hv,hg,Blk.lt hh,hnc,hcm,cur,hh,hcs⟩
def dropA (a:Ar) (i:Nat):Ar:=⟨a.id,a.fr,a.dst,a.via.eraseIdx i,a.left,a.right⟩
theorem dropL_at {arc:Int} {i:Nat}:∀ {l:List Ar} {k:Nat} (hk:k<l.length),(l[k].id == arc)=true→(∀ j (hj:j<l.length),j<k→(l[j].id == arc)=false)→dropL arc i l=l.set k (dropA l[k] i)
 | a::l,0,hk,h,_=>by
  unfold dropL
  rw [if_pos (by simpa using h)]
  rfl
 | a::l,k+1,hk,h,hno=>by
  unfold dropL
  have h0:=hno 0 (by simp) (by omega)
  rw [if_neg (by simpa using h0)]
  have ih:=dropL_at (i:=i) (l:=l) (k:=k) (by simpa using hk) (by simpa using h) (fun j hj hjk=>by
   have:=hno (j+1) (by simpa using hj) (by omega)
   simpa using this)
  rw [ih]
  rfl
theorem find_iff {l:List Ar} {arc:Int} {a:Ar} {k:Nat} (hf:findAr l arc=some a) (hk:k<l.length) (h:(l[k].id == arc)=true) (hno:∀ j (hj:j<l.length),j<k→(l[j].id == arc)=false):l[k]=a:=by
 have:=find_hit l (fun a=>a.id == arc) k hk hno h
 unfold findAr at hf
 rw [this] at hf
 exact Option.some.inj hf

theorem sepB_map {bl:List (Ar×SV)}:SepB bl↔(bl.map (fun x=>(svV x.2).ownBlock)).Pairwise (fun u v=>∀ g,u=some g→v≠some g):=by
 unfold SepB SepV
 rw [List.pairwise_map]
theorem SepB.set {bl:List (Ar×SV)} (h:SepB bl) {k:Nat} (hk:k<bl.length) (x:Ar×SV) (hx:(svV x.2).ownBlock=(svV bl[k].2).ownBlock):SepB (bl.set k x):=by
 rw [sepB_map] at *
 rw [List.map_set,hx]
 have:(bl.map (fun x=>(svV x.2).ownBlock)).set k ((svV bl[k].2).ownBlock)=bl.map (fun x=>(svV x.2).ownBlock):=by
  apply List.ext_getElem (by simp)
  intro i h1 h2
  rw [List.getElem_set]
  split
  · rename_i e;subst e;rw [List.getElem_map]
  · rfl
 rw [this]
 exact h
theorem SepB.at_ {bl:List (Ar×SV)} (h:SepB bl) {j k:Nat} (hj:j<bl.length) (hk:k<bl.length) (hne:j≠k):SepV (svV bl[j].2) (svV bl[k].2):=by
 unfold SepB at h
 rw [List.pairwise_iff_getElem] at h
 rcases Nat.lt_or_gt_of_ne hne with l | l
 · exact h j k hj hk l
 · exact fun g hg e=>h k j hk hj l g e hg
theorem PlO.dropped {w0 w5:World} {B:Nat} {vn vf:Value} {p Q:Pl} {bl:List (Ar×SV)} {gA gv n c cv k ki:Nat} {a:Ar} {cur:Array Value} (h:PlO w0 B vn (.slice (some ⟨gA,0,none⟩) n c) vf p bl) (hs:SepB bl) (hg:w0.grownBy w5 (some gv)) (hk:k<bl.length) (hka:bl[k].1=a) (hQ:Q=⟨p.nodes,p.arcs.set k (dropA a ki),p.faces⟩)
  (hv:svV bl[k].2=.slice (some ⟨gv,0,none⟩) a.via.length cv) (hh:HoldP w5 gv cv (a.via.eraseIdx ki)) (hB:B≤gv) (hc:cv≤maxLen) (hne:gA≠gv) (hA:Blk w5 gA 41 cur) :
  ∃ bl',PlO (w5.setCell ⟨gA,k*6+3,none⟩ (.slice (some ⟨gv,0,none⟩) (a.via.eraseIdx ki).length cv)) B vn (.slice (some ⟨gA,0,none⟩) n c) vf Q bl'∧SepB bl':=by
 subst hQ
 have hvo:=h.vias _ (List.getElem_mem hk)
 have e0:bl[k]=(a,bl[k].2):=by rw [← hka]
 refine ⟨bl.set k (dropA a ki,⟨some ⟨gv,0,none⟩,(a.via.eraseIdx ki).length,cv⟩),⟨?_,?_,?_,?_,?_⟩,hs.set hk _ (by rw [hv];rfl)⟩
 ·
  have h5:=Own.grown h.nds hg (fun g hg'=>by have:=Own.apart h.nds hvo (by decide) g hg';rw [hv] at this;exact this)
  exact h5.far (p:=⟨gA,k*6+3,none⟩) (Own.ne_blk h5 hA (by decide)) _
 ·
  have h5:=Own.grown h.ars hg (fun g hg'=>by have:=Own.apart h.ars hvo (by decide) g hg';rw [hv] at this;exact this)
  exact Own.put_cell arS_len h5 hk (by omega) _ _ (by rw [e0];rfl)
 ·
  intro y hy
  obtain ⟨j,hj,rfl⟩:=List.mem_iff_getElem.1 hy
  have hj':j<bl.length:=by simpa using hj
  rw [List.getElem_set]
  by_cases e:k=j
  ·
   rw [if_pos e]
   have h5:=hh.own hB hc
   exact h5.far (p:=⟨gA,k*6+3,none⟩) (fun e'=>hne (Option.some.inj e').symm) _
  ·
   rw [if_neg e]
   have h5:=Own.grown (h.vias _ (List.getElem_mem hj')) hg (fun g hg' e'=>by
    have hgv:=Option.some.inj e'
    subst hgv
    exact hs.at_ hj' hk (fun e''=>e e''.symm) g hg' (by rw [hv];rfl))
   exact h5.far (p:=⟨gA,k*6+3,none⟩) (Own.ne_blk h5 hA (by decide)) _
 ·
  show (bl.set k _).map (·.1)=p.arcs.set k (dropA a ki)
  rw [List.map_set,h.eq]
 ·
  have h5:=Own.grown h.fcs hg (fun g hg'=>by have:=Own.apart h.fcs hvo (by decide) g hg';rw [hv] at this;exact this)
  exact h5.far (p:=⟨gA,k*6+3,none⟩) (Own.ne_blk h5 hA (by decide)) _

set_option maxRecDepth 100000 in
set_option maxHeartbeats 8000000 in
theorem SStep_spec (p:Pl) (tol:Int) (An Aa Af:Option Addr) (cn ca cf B:Nat) (bl:List (Ar×SV)) (w:World) (h:PlO w B (.slice An p.nodes.length cn) (.slice Aa p.arcs.length ca) (.slice Af p.faces.length cf) p bl) (hs:SepB bl) (hB:B≤w.heap.size) (hm:Mod34 p) (hw:∀ a∈p.arcs,wfI a.id) :
  Calls Tryz.prog 23 #[.agg #[.slice An p.nodes.length cn,.slice Aa p.arcs.length ca,.slice Af p.faces.length cf],.int .i64 tol] w fun e w' =>
   match thinS p tol with
   | none=>e=.returned (.bool false)∧Below w.heap.size w w'
   | some q=>e=.returned (.bool true)∧Below B w w'∧(∀ g cs,Blk w g 26 cs→Blk w' g 26 cs)∧∃ bl',PlO w' B (.slice An p.nodes.length cn) (.slice Aa p.arcs.length ca) (.slice Af p.faces.length cf) q bl'∧SepB bl':=by
 have HLe:=Lib.hid (fun W (hW:Below w.heap.size w W)=>Least_spec _ p tol W (h.plv.mono hW) hm hw)
 have hlb:bl.length=p.arcs.length:=by rw [← h.eq,List.length_map]
 have HIx:=Lib.hid (fun arc g W (hW:Below w.heap.size w W) (hx:Blk W g 3 #[.int .i64 arc])=>IdxStep_spec (.slice Aa p.arcs.length ca) (bl.map svA) arc g W (by
  have h':=h.keep hW
  refine ⟨?_,fun k hk=>?_⟩
  ·
   have:=h'.ars.sl
   rw [List.length_map,arS_flat]
   exact this
  ·
   have hk':k<bl.length:=by simpa using hk
   rw [List.getElem_map]
   exact (h'.vias _ (List.getElem_mem hk')).sl) hx (by rw [List.length_map,hlb];exact hm.ars))
 have hmap:(bl.map svA).map (·.1)=p.arcs:=by rw [List.map_map,← h.eq];rfl
 rw [hmap] at HIx
 have hvl:=hm.via;have harl:=hm.ars
 have HP:=Lib.hid h;have HS:=Lib.hid hs;have HLb:=Lib.hid hlb
 unfold thinS
 cases hls:leastS p tol with
 | none =>
  simp only [Option.map_none]
  have HL:=Lib.hid (show ∀ W,Below w.heap.size w W→Calls Tryz.prog 15 #[.agg #[.slice An p.nodes.length cn,.slice Aa p.arcs.length ca,.slice Af p.faces.length cf],.int .i64 tol] W fun e w'=>e=.returned (.tuple #[.int .i64 0,.int .i64 0,.int .i64 0,.bool false])∧Below W.heap.size W w' from fun W hW=>by
   have h:=HLe.out W hW
   rw [hls] at h
   exact h)
  clear h hs hm hw hls hmap hlb
  generalize p.nodes.length=nn at *
  generalize p.faces.length=nf at *
  generalize p.arcs.length=na at *
  go_enter Tryz.func23,Tryz.ntmps23
  go_upto_region 1 with fail
  obtain ⟨W1,hW⟩:∃ W:World,W=w.alloc (.cells #[.slice An nn cn,.slice Aa na ca,.slice Af nf cf] 26):=⟨_,rfl⟩
  have X2:Blk W1 w.heap.size 26 #[.slice An nn cn,.slice Aa na ca,.slice Af nf cf]:=by rw [hW];exact Blk.made rfl _ _
  have HB1:=Lib.hid (show Below w.heap.size w W1 by rw [hW];exact bA (bR w) _)
  rw [← hW]
  clear hW
  obtain ⟨X2l,X2a,X2b,X2c,-,-,-⟩:=X2.facts3
  go_wp2_with fail
  refine (HL.out _ HB1.out).mono ?_
  rintro e w2 ⟨rfl,hb2⟩
  have HB2:=Lib.hid (bT HB1.out hb2)
  clear hb2
  go_wp2_with fail
  go_ret
  exact ⟨rfl,bA HB2.out _⟩
 | some c =>
  simp only [Option.map_some]
  obtain ⟨a,hfa,haid,-,hck,-⟩:=leastS_some hls
  have HL:=Lib.hid (show ∀ W,Below w.heap.size w W→Calls Tryz.prog 15 #[.agg #[.slice An p.nodes.length cn,.slice Aa p.arcs.length ca,.slice Af p.faces.length cf],.int .i64 tol] W fun e w'=>e=.returned (.tuple #[.int .i64 c.id,.int .i64 c.k,.int .i64 c.n,.bool true])∧Below W.heap.size W w' from fun W hW=>by
   have h:=HLe.out W hW
   rw [hls] at h
   exact h)
  have HFa:=Lib.hid hfa
  obtain ⟨id,ki,n⟩:=c
  simp only at hck HL HFa ⊢
  have HQ:=Lib.hid (show dropV p id ki=⟨p.nodes,dropL id ki p.arcs,p.faces⟩ from rfl)
  clear h hs hm hw hls hmap hfa haid hlb HLe
  obtain ⟨nn,hnn⟩:∃ n,p.nodes.length=n:=⟨_,rfl⟩
  obtain ⟨nf,hnf⟩:∃ n,p.faces.length=n:=⟨_,rfl⟩
  obtain ⟨na,hna⟩:∃ n,p.arcs.length=n:=⟨_,rfl⟩
  rw [hnn,hnf,hna] at HP HL ⊢
  rw [hna] at HIx harl HLb
  have HNa:=Lib.hid hna
  obtain ⟨Q,hQ⟩:∃ Q,dropV p id ki=Q:=⟨_,rfl⟩
  rw [hQ] at HQ ⊢
  clear hnn hnf hna hQ
  go_enter Tryz.func23,Tryz.ntmps23
  go_upto_region 1 with fail
  obtain ⟨W1,hW⟩:∃ W:World,W=w.alloc (.cells #[.slice An nn cn,.slice Aa na ca,.slice Af nf cf] 26):=⟨_,rfl⟩
  have X2:Blk W1 w.heap.size 26 #[.slice An nn cn,.slice Aa na ca,.slice Af nf cf]:=by rw [hW];exact Blk.made rfl _ _
  have HB1:=Lib.hid (show Below w.heap.size w W1 by rw [hW];exact bA (bR w) _)
  rw [← hW]
  clear hW
  have HX2:=Lib.hid X2
  try clear X2l
  try clear X2a
  try clear X2b
  try clear X2c
  obtain ⟨X2l,X2a,X2b,X2c,-,-,-⟩:=X2.facts3
  go_wp2_with fail
  refine (HL.out _ HB1.out).mono ?_
  rintro e w2 ⟨rfl,hb2⟩
  have HB2:=Lib.hid (bT HB1.out hb2)
  have HX22:=Lib.hid (HX2.out.keep hb2)
  clear hb2 HL HX2 HB1 X2 X2l X2a X2b X2c
  go_upto_region 2 with fail
  obtain ⟨g5,hg5⟩:∃ g,w2.heap.size=g:=⟨_,rfl⟩
  obtain ⟨W3,hW⟩:∃ W:World,W=w2.alloc (.cells #[.int .i64 id] 3):=⟨_,rfl⟩
  have HX5:=Lib.hid (show Blk W3 g5 3 #[.int .i64 id] by rw [hW,← hg5];exact Blk.made rfl _ _)
  have hA3:Below w2.heap.size w2 W3:=by rw [hW];exact bA (bR w2) _
  have HX23:=Lib.hid (HX22.out.keep hA3);have HB3:=Lib.hid (bT HB2.out hA3)
  rw [← hW,hg5]
  clear hW hg5 hA3 HX22 HB2
  have X2:=HX23.out
  try clear X2l
  try clear X2a
  try clear X2b
  try clear X2c
  obtain ⟨X2l,X2a,X2b,X2c,-,-,-⟩:=X2.facts3
  go_upto_region 4 with fail
  go_wp2_with fail
  refine (HIx.out id g5 _ HB3.out HX5.out).mono ?_
  rintro e w4 ⟨⟨r,rfl,hr⟩,hb4⟩
  have HB4:=Lib.hid (bT HB3.out hb4)
  have HX24:=Lib.hid (HX23.out.keep hb4)
  clear hb4 X2 X2l X2a X2b X2c HX23 HB3 HIx
  obtain ⟨k,hk,rfl,hkid,hno⟩:∃ (k:Nat) (hk:k<p.arcs.length),r=(k:Int)∧(p.arcs[k].id == id)=true∧∀ j (hj:j<p.arcs.length),j<k→(p.arcs[j].id == id)=false:=by
   rcases hr with ⟨-,hno⟩ | h
   ·
    exfalso
    have:=find_miss p.arcs (fun a=>a.id == id) (fun j hj=>hno j hj)
    have hf:=HFa.out
    unfold findAr at hf
    rw [this] at hf
    cases hf
   · exact h
  have hak:=find_iff HFa.out hk hkid hno
  have hdl:=dropL_at (i:=ki) hk hkid hno
  rw [hak] at hdl
  have hkb:k<bl.length:=by rw [HLb.out,← HNa.out];exact hk
  have hka:bl[k].1=a:=by
   rw [← hak]
   have:p.arcs[k]=(bl.map (·.1))[k]'(by simpa using hkb):=by simp only [HP.out.eq]
   rw [this,List.getElem_map]
  have hkn:k<na:=by rw [← HNa.out];exact hk
  have HDl:=Lib.hid hdl;have HKa:=Lib.hid hka;have HHr:=Lib.hid hno
  clear hr hkid hno hak hdl hk
  have HP4:=Lib.hid (HP.out.keep HB4.out)
  obtain ⟨gA,cA,hAA,hgB,hgl,-⟩:=Own.formG HP4.out.ars (by omega)
  injection hAA with e1 e2 e3
  subst e1
  clear e2 e3
  obtain ⟨A6,c6,he,-,-,hR6⟩:=HP4.out.ars.sl
  injection he with e1 e2 e3
  subst e1
  clear e2 e3
  obtain ⟨b',o',hbo,hlb',k0,k1,k2,k3,k4,k5⟩:=hR6.at6 hkb
  simp only [Option.some.injEq,Addr.mk.injEq,and_true] at hbo
  obtain ⟨rfl,rfl⟩:=hbo
  simp only [Nat.zero_add] at k0 k1 k2 k3 k4 k5
  have hvk:=HP4.out.vias _ (List.getElem_mem hkb)
  rw [HKa.out] at hvk
  obtain ⟨gv,cv,hvv,hvB,hvc,hvh⟩:=Own.hold hvk (fun e=>by rw [e] at hck;simp at hck)
  have hsv:(Value.slice bl[k].2.a bl[k].2.n bl[k].2.c)=.slice (some ⟨gv,0,none⟩) a.via.length cv:=hvv
  rw [hsv] at k3
  have hgv:gv<w4.heap.size:=hvh.lt
  have hng:¬ gA=gv:=fun e=>by
   have:=Own.ne_blk hvk (g:=gA) (t:=41) (cs:=(Classical.choose (show ∃ cs,Blk w4 gA 41 cs from by
    obtain ⟨_,_,hq,-,-,-,-,cur,hcur,-⟩:=Own.formG HP4.out.ars (by omega)
    injection hq with e1 _ _
    injection e1 with e1
    injection e1 with e1 _ _
    subst e1
    exact ⟨cur,hcur⟩))) (Classical.choose_spec _) (by decide)
   rw [hvv] at this
   exact this (by rw [e];rfl)
  have hfzA:w4.frozen? ⟨gA,k*6+3,none⟩=false:=by
   obtain ⟨_,_,hq,-,-,-,-,cur,hcur,-⟩:=Own.formG HP4.out.ars (by omega)
   injection hq with e1 _ _
   injection e1 with e1
   injection e1 with e1 _ _
   subst e1
   exact Blk.frozen hcur _
  have HDe:=Lib.hid (fun W (hh:HoldP W gv cv a.via)=>DeletePt_spec a.via gv cv ki W hh hvc hck)
  have HHv:=Lib.hid hvh
  have X2:=HX24.out
  have r0:0≤(k:Int):=by omega
  have r1:(k:Int)<na:=by omega
  have hkw:IntKind.i64.wrap ((ki:Int)+1)=(ki:Int)+1:=IntWalk.i64_in _ (by have:=hvl a (findAr_mem HFa.out);omega)
  have hw2:w.heap.size<w4.heap.size:=X2.lt
  have n1:¬ w.heap.size=gv:=by
   have:=(HP.out.vias _ (List.getElem_mem hkb)).lt gv (by rw [hvv];rfl)
   omega
  have n2:¬ w.heap.size=gA:=by
   have:=HP.out.ars.lt gA rfl
   omega
  have HVk:=Lib.hid hvk
  have HVv:=Lib.hid hvv
  clear hvk hvv hsv hvh hR6 k0 k1 k2 k4 k5
  try clear X2l
  try clear X2a
  try clear X2b
  try clear X2c
  obtain ⟨X2l,X2a,X2b,X2c,-,-,-⟩:=X2.facts3
  go_upto_region 5 with fail
  obtain ⟨curA,hbA⟩:∃ cur,Blk w4 gA 41 cur:=by
   obtain ⟨_,_,hq,-,-,-,-,cur,hcur,-⟩:=Own.formG HP4.out.ars (by omega)
   injection hq with e1 _ _
   injection e1 with e1
   injection e1 with e1 _ _
   subst e1
   exact ⟨cur,hcur⟩
  have HbA:=Lib.hid hbA
  have hc3:curA[k*6+3]? = some (.slice (some ⟨gv,0,none⟩) a.via.length cv):=by rw [← hbA.cell];exact k3
  have Hc3:=Lib.hid hc3
  clear hbA hc3
  go_region_law (go_simp;go_at_call 39;refine (HDe.out _ HHv.out.drew).mono ?_;rintro e w5 ⟨rfl,hh5,hg5⟩;have hX5:=Blk.grown (HX24.out.drew) hg5 (fun e=>n1 (Option.some.inj e));obtain ⟨q1,q2,q3,q4,-,-,-⟩:=hX5.facts3;have hbA5:=Blk.grown (HbA.out.drew) hg5 (fun e=>hng (Option.some.inj e));have k35:=(hbA5.cell (k*6+3)).trans Hc3.out;have hf5:=hbA5.frozen (k*6+3);have HG5:=Lib.hid hg5;have HH5:=Lib.hid hh5;have HA5:=Lib.hid hbA5;clear hg5 hh5 hX5 hbA5)
  all_goals
   (have hng':gA≠gv:=hng
    have HBf:=Lib.hid (show Below B w (w5.setCell ⟨gA,k*6+3,none⟩ (.slice (some ⟨gv,0,none⟩) (a.via.eraseIdx ki).length cv)) from ((HB4.out.mono hB).trans (Below.grown (Below.drew (Below.refl B w4)) HG5.out (Nat.le_trans hB HB4.out.size) (fun g hg=>by have:=Option.some.inj hg;omega))).setCell (p:=⟨gA,k*6+3,none⟩) hgB _)
    have HKf:=Lib.hid (show ∀ g cs,Blk w g 26 cs→Blk (w5.setCell ⟨gA,k*6+3,none⟩ (.slice (some ⟨gv,0,none⟩) (a.via.eraseIdx ki).length cv)) g 26 cs from fun g cs hb=>by
     have h4:=hb.keep HB4.out
     have n1:g≠gv:=fun e=>by
      obtain ⟨cur,hc,-⟩:=HHv.out
      exact Blk.ne_ h4 hc (by decide) e
     have n2:g≠gA:=Blk.ne_ h4 HbA.out (by decide)
     exact (Blk.grown (h4.drew) HG5.out (fun e=>n1 (Option.some.inj e))).far (p:=⟨gA,k*6+3,none⟩) n2 _)
    have HQf:=Lib.hid ((HP4.out.keep (bD (bR w4))).dropped HS.out HG5.out hkb HKa.out (HQ.out.trans (by rw [HDl.out])) HVv.out HH5.out hvB hvc hng' HA5.out)
    clear q1 q2 q3 q4 k35 hf5
    go_wp2_with fail
    go_ret
    exact ⟨rfl,HBf.out,HKf.out,HQf.out⟩)
end Go.Proofs.YtnhdmghgjngcaaaGreat
namespace Go.Proofs.YtnhdmghgjngcaaaGreat
open Go.RowKit
set_option linter.unusedSectionVars false

def keyLt (a b:Int):Bool:=decide (absI a<absI b) || (decide (absI a=absI b) && decide (b<a))
theorem keyLt_iff {a b:Int}:keyLt a b=true↔absI a<absI b∨(absI a=absI b∧b<a):=by unfold keyLt;simp
theorem keyLt_trans {a b c:Int} (h1:keyLt a b=true) (h2:keyLt b c=true):keyLt a c=true:=by
 rw [keyLt_iff] at *
 omega
theorem keyLt_asym {a b:Int} (h1:keyLt a b=true):keyLt b a=false:=by
 rw [← Bool.not_eq_true]
 intro h2
 rw [keyLt_iff] at h1 h2
 omega
def keyStep (k d:Int):Int:=if keyLt d k then d else k
def keyL (c:List Int):Int:=c.foldl keyStep (c.headD 0)
def insK (X:List Int) (l:List (List Int)):List (List Int):=l.takeWhile (fun Y=>!keyLt (keyL X) (keyL Y))++X::l.dropWhile (fun Y=>!keyLt (keyL X) (keyL Y))
def sortK (l:List (List Int)):List (List Int):=l.foldl (fun acc X=>insK X acc) []
def lessK (X Y:List Int):Bool:=keyLt (keyL X) (keyL Y)
theorem insK_perm (X:List Int) (l:List (List Int)):(insK X l).Perm (X::l):=by
 unfold insK
 refine List.perm_middle.trans ?_
 rw [List.takeWhile_append_dropWhile]
theorem insK_sorted {X:List Int} {l:List (List Int)} (h:l.Pairwise (fun a b=>lessK b a=false)):(insK X l).Pairwise (fun a b=>lessK b a=false):=by
 unfold insK
 have hall:(l.takeWhile (fun Y=>!keyLt (keyL X) (keyL Y))++l.dropWhile (fun Y=>!keyLt (keyL X) (keyL Y)))=l:=List.takeWhile_append_dropWhile
 have h1:∀ Y∈l.takeWhile (fun Y=>!keyLt (keyL X) (keyL Y)),keyLt (keyL X) (keyL Y)=false:=fun Y hY=>by
  have:=List.all_eq_true.1 (List.all_takeWhile (p:=fun Y=>!keyLt (keyL X) (keyL Y)) (l:=l)) Y hY
  simpa using this
 have h2:∀ Y∈l.dropWhile (fun Y=>!keyLt (keyL X) (keyL Y)),keyLt (keyL Y) (keyL X)=false:=by
  intro Y hY
  cases hd:l.dropWhile (fun Y=>!keyLt (keyL X) (keyL Y)) with
  | nil=>rw [hd] at hY;cases hY
  | cons Z m =>
   have hZ:keyLt (keyL X) (keyL Z)=true:=by
    have:=List.head_dropWhile_not (fun Y=>!keyLt (keyL X) (keyL Y)) (l:=l) (by rw [hd];simp)
    simp only [hd,List.head_cons] at this
    simpa using this
   rw [hd] at hY
   rcases List.mem_cons.1 hY with rfl | hY
   · exact keyLt_asym hZ
   ·
    have hp:(Z::m).Pairwise (fun a b=>lessK b a=false):=by
     have:=h
     rw [← hall,List.pairwise_append] at this
     rw [← hd];exact this.2.1
    have:=(List.pairwise_cons.1 hp).1 Y hY
    rw [← Bool.not_eq_true]
    intro hc
    have h3:=keyLt_trans hc hZ
    unfold lessK at this
    rw [h3] at this
    cases this
 have hp:=h
 rw [← hall,List.pairwise_append] at hp
 rw [List.pairwise_append,List.pairwise_cons]
 refine ⟨hp.1,⟨h2,hp.2.1⟩,fun a ha b hb=>?_⟩
 rcases List.mem_cons.1 hb with rfl | hb
 · exact h1 a ha
 · exact hp.2.2 a ha b hb
theorem sortK_facts (l:List (List Int)):(sortK l).Perm l∧(sortK l).Pairwise (fun a b=>lessK b a=false):=by
 have:∀ (l acc:List (List Int)),acc.Pairwise (fun a b=>lessK b a=false)→(l.foldl (fun acc X=>insK X acc) acc).Perm (acc++l)∧(l.foldl (fun acc X=>insK X acc) acc).Pairwise (fun a b=>lessK b a=false):=by
  intro l
  induction l with
  | nil=>intro acc h;exact ⟨by rw [List.append_nil];exact List.Perm.refl _,h⟩
  | cons X l ih =>
   intro acc h
   rw [List.foldl_cons]
   obtain ⟨h1,h2⟩:=ih (insK X acc) (insK_sorted h)
   refine ⟨h1.trans ?_,h2⟩
   exact ((insK_perm X acc).append_right l).trans (List.perm_middle (l₁:=acc) (l₂:=l) (a:=X)).symm
 have h:=this l [] List.Pairwise.nil
 rw [List.nil_append] at h
 exact h
section
variable {p:Pl} (h:Valid p)
include h
end
end Go.Proofs.YtnhdmghgjngcaaaGreat
