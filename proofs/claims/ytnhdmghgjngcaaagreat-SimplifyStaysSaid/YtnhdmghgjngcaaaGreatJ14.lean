import Derived.Test.YtnhdmghgjngcaaaGreatJ13
import Derived.Shelf.SortM.Plain
import Derived.Shelf.SortM.SortNone
import Derived.Test.YtnhdmghgjngcaaaGreatJ07
import Derived.Test.YtnhdmghgjngcaaaGreatLaySortN
set_option linter.unusedSimpArgs false
set_option linter.unusedVariables false
namespace Go.Proofs.YtnhdmghgjngcaaaGreat
open Go.RowKit Go.Sort

theorem res_cell1 {P:Program} {fn:Func} {p:Tmp} {ty t:TypeId} {R:Ending→World→Prop} {a:Act} {w:World} {g:Nat} {v:Value} (h:fn.results=#[.cell p ty])
  (hS:∀ w,(isAgg ty).run P w=.ok false w) (hp:a.tmps.getD p undef=.pointer (some ⟨g,0,none⟩)) (hd:a.defers=[]) (hb:Blk w g t #[v]) (hR:R (.returned v) w):bodyPost P fn R .ret a w:=by
 refine bodyPost_ret ?_ hd hR
 have hp':a.tmps[p]?.getD undef=.pointer (some ⟨g,0,none⟩):=by simpa using hp
 have hc:w.cell? ⟨g,0,none⟩=some v:=by rw [hb.cell];rfl
 simp only [results,h]
 simp [hp',asAddr,loadVar,Sem.run_bind,Sem.run_pure,Result.andThen,hS,hc]
theorem isAgg_ints:∀ w,(isAgg 24).run Tryz.prog w=.ok false w:=fun _=>by kernel_rfl
def RetOwnI (w:World) (l:List Int) (e:Ending) (w':World):Prop :=
 ∃ A c,e=.returned (.slice A l.length c)∧Below w.heap.size w w'∧Own w' w.heap.size 3 1 inC (.slice A l.length c) l
theorem Valid.dart_wf {p:Pl} (h:Valid p) {n d:Int} (hd:d∈dartL p.arcs n):wfI d:=by
 obtain ⟨a,ha,e⟩:=mem_dartL.1 hd
 have:=h.id_pos ha
 rcases e with ⟨rfl,-⟩ | ⟨rfl,-⟩
 · exact wfI_of (by omega) (by omega)
 · exact wfI_of (by omega) (by omega)
theorem dartL_take (l:List Ar) (n:Int) (k:Nat) (hk:k<l.length):dartL (l.take (k+1)) n=dartL (l.take k) n++((if l[k].fr=n then [l[k].id] else [])++(if l[k].dst=n then [-l[k].id] else [])):=by
 unfold dartL
 rw [List.take_succ_eq_append_getElem hk,List.flatMap_append]
 simp
theorem dartL_len (l:List Ar) (n:Int):(dartL l n).length≤2*l.length:=by
 unfold dartL
 induction l with
 | nil=>simp
 | cons a l ih =>
  rw [List.flatMap_cons,List.length_append,List.length_append,List.length_cons]
  have h1:(if a.fr=n then [a.id] else []).length≤1:=by split<;>simp
  have h2:(if a.dst=n then [-a.id] else []).length≤1:=by split<;>simp
  omega

theorem Own.kept_ {α:Type} {w w':World} {base:Nat} {e:TypeId} {size:Nat} {f:α→List Value} {v:Value} {l:List α} (h:Own w base e size f v l) (hk:∀ g t cs,base≤g→Blk w g t cs→Blk w' g t cs):Own w' base e size f v l:=by
 obtain ⟨h1,h2⟩:=h
 refine ⟨h1,?_⟩
 rcases h2 with h2 | ⟨g,cap,cur,hv,hg,hh,r⟩
 · exact .inl h2
 ·
  subst hv
  exact .inr ⟨g,cap,cur,rfl,hg,hk g e cur hg hh,r⟩
theorem map_step {p:Pl} {D:List Int} {f:Int→Pt} (h:∀ d∈D,f d=toD p d) {x:Int} {q:Pt} (hx:toD p x=q):∀ d∈D++[x],(fun i=>if i=x then q else f i) d=toD p d:=by
 intro d hd
 by_cases e:d=x
 · subst e;simp [hx]
 ·
  simp only [List.mem_append,List.mem_singleton,e,or_false] at hd
  simp [e,h d hd]
theorem Own.row_pt {w:World} {base:Nat} {A:Option Addr} {n c:Nat} {l:List Pt} (h:Own w base 36 2 ptC (.slice A n c) l):Row w A (l.flatMap ptC):=by
 obtain ⟨A',c',he,_,_,hr⟩:=h.sl
 injection he with e1 e2 e3
 subst e1
 exact hr
theorem Arnd.keep {w w':World} {B g4 g7 gm n:Nat} {dl:List Int} {f:Int→Pt} {v:Value} (h:Arnd w B g4 g7 gm n dl f v) (hb:Below w.heap.size w w'):Arnd w' B g4 g7 gm n dl f v :=
 ⟨h.x4.keep hb,h.own.keep hb,h.x7.keep hb,h.mp.keep hb,h.b4,h.bm⟩

set_option maxRecDepth 100000 in
set_option maxHeartbeats 8000000 in
theorem Around_spec (v:Value) (p:Pl) (n:Int) (w:World) (h:PlV w v p) (hv:Valid p) :
  Calls Tryz.prog 57 #[v,.int .i64 n] w (RetOwnI w (aroundD p n)):=by
 have HNd:=Lib.hid (fun W (hW:Below w.heap.size w W)=>Node_spec v p n W (h.mono hW))
 have HPth:=Lib.hid (fun id W (hW:Below w.heap.size w W)=>Path_spec v p id W (h.mono hW) hv.short)
 obtain ⟨_,_,_,al,rfl,hpa,⟨An,cn,rfl,-⟩,⟨⟨Aa,ca,rfl,hn1,hn2,hR⟩,hVi⟩,⟨Af,cf,rfl,-⟩⟩:=h
 unfold maxLen at hn2
 have HR:=Lib.hid hR;have HVi:=Lib.hid hVi
 have HV:=Lib.hid hv
 have HPa:=Lib.hid hpa
 generalize hnn:p.nodes.length=nn at *
 generalize p.faces.length=nf at *
 obtain ⟨q,hq⟩:∃ q,aroundD p n=q:=⟨_,rfl⟩
 rw [hq]
 have Hq:=Lib.hid hq
 have hall:al.length≤256:=by
  have hl:=hv.lim
  unfold limS at hl
  simp only [Bool.or_eq_false_iff,decide_eq_false_iff_not] at hl
  have h2:=hl.2
  rw [hpa,List.length_map] at h2
  omega
 clear hpa hR hVi hv hq hnn
 go_enter Tryz.func57,Tryz.ntmps57
 go_wp2_with fail
 refine (HNd.out _ (bA (bA (bR w) _) _)).mono ?_
 rintro e w1 ⟨rfl,hb1⟩
 have X2:Blk w1 w.heap.size 26 #[.slice An nn cn,.slice Aa al.length ca,.slice Af nf cf]:=((Blk.made rfl _ _).alloc _).keep hb1
 have X4:Blk w1 (w.heap.size+1) 24 #[.slice none 0 0]:=(Blk.made (by simp) _ _).keep hb1
 have B1:=Lib.hid (bT (bA (bA (bR w) _) _) hb1)
 clear hb1
 unfold ndRes ndV
 cases hfn:findNd p.nodes n with
 | none =>
  have hf:q=[]:=by rw [← Hq.out];unfold aroundD;rw [hfn]
  subst hf
  clear hfn
  simp only [Option.getD_none,Option.isSome_none]
  obtain ⟨X4l,X4a,X4fa⟩:=X4.facts1
  go_wp2_with fail
  refine res_cell1 (g:=w.heap.size+1) (v:=.slice none 0 0) rfl isAgg_ints rfl rfl ((Blk.put1 X4).alloc _) ⟨none,0,rfl,?_,Own.nil _ _ _ _ _⟩
  have Bw:=B1.out
  repeat (first | with_reducible exact bR _ | with_reducible assumption | with_reducible refine bA ?_ _ | with_reducible refine bD ?_ | with_reducible refine bN ?_ _ | ((with_reducible refine bS ?_ ?_ _);rotate_left;(simp;try omega)) | ((with_reducible refine bT ?_ ?_);rotate_left;with_reducible assumption) | with_reducible refine bT ?_ (by assumption))
 | some nd =>
  have hnd:nd∈p.nodes∧nd.id=n:=⟨List.mem_of_find?_eq_some hfn,by have:=List.find?_some hfn;simpa using this⟩
  obtain ⟨hnm,rfl⟩:=hnd
  have hAr:=HV.out.around_eq hnm
  rw [Hq.out] at hAr
  have HAr:=Lib.hid hAr
  have HNm:=Lib.hid hnm
  clear hfn hAr hnm Hq
  simp only [Option.getD_some,Option.isSome_some]
  obtain ⟨X2l,X2a,X2b,X2c,-,-,-⟩:=X2.facts3
  try clear X4l
  try clear X4a
  try clear X4fa
  obtain ⟨X4l,X4a,X4fa⟩:=X4.facts1
  have HM0:=Lib.hid (MapPts.made (w1.alloc (.cells #[.int .i64 nd.id,.int .i64 nd.pt.x,.int .i64 nd.pt.y] 38)))
  have hmm:=@run_makeMap Tryz.prog
  go_upto_region 5 with fail
  obtain ⟨W5,hW⟩:∃ W:World,W=((w1.alloc (.cells #[.int .i64 nd.id,.int .i64 nd.pt.x,.int .i64 nd.pt.y] 38)).alloc (.map #[] 0)).alloc (.cells #[.map (some (w1.heap.size+1))] 133):=⟨_,rfl⟩
  have hA:Below w1.heap.size w1 W5:=by rw [hW];exact bA (bA (bA (bR w1) _) _) _
  have HX5:=Lib.hid (show Blk W5 w1.heap.size 38 #[.int .i64 nd.id,.int .i64 nd.pt.x,.int .i64 nd.pt.y] by rw [hW];exact ((Blk.made rfl _ _).alloc _).alloc _)
  have HX7:=Lib.hid (show Blk W5 (w1.heap.size+1+1) 133 #[.map (some (w1.heap.size+1))] by rw [hW];exact Blk.made (by simp) _ _)
  have HM5:=Lib.hid (show MapPts W5 (w1.heap.size+1) 0 (fun _=>z0) by
   rw [hW]
   have h1:=HM0.out
   rw [show (w1.alloc (.cells #[.int .i64 nd.id,.int .i64 nd.pt.x,.int .i64 nd.pt.y] 38)).heap.size=w1.heap.size+1 by simp] at h1
   exact h1.keep (bA (bR _) _))
  have HX2:=Lib.hid (X2.keep hA)
  have HX4:=Lib.hid (X4.keep hA)
  have B5:=Lib.hid (bT B1.out hA)
  have hz1:w.heap.size+2≤w1.heap.size:=by have:=X4.lt;omega
  rw [← hW]
  clear hW hA X2 X4 X2l X2a X2b X2c X4l X4a X4fa HM0 hmm
  obtain ⟨g5,hg5⟩:∃ g5,w1.heap.size=g5:=⟨_,rfl⟩
  rw [hg5] at HX5 HX7 HM5 hz1 ⊢
  clear hg5
  have X2:=HX2.out
  try clear X2l
  try clear X2a
  try clear X2b
  try clear X2c
  obtain ⟨X2l,X2a,X2b,X2c,-,-,-⟩:=X2.facts3
  have HAd:=Lib.hid (@addD_spec)
  go_upto_block 0 with fail
  go_wp2_with fail
  go_loopw [26] (fun i wr=>∃ (k:Nat) (f:Int→Pt) (vl:Value) (cnt:Nat),k≤al.length∧i=.int .i64 k∧cnt≤2*k∧Arnd wr (w.heap.size+1) (w.heap.size+1) (g5+1+1) (g5+1) cnt (dartL (p.arcs.take k) nd.id) f vl∧(∀ d∈dartL (p.arcs.take k) nd.id,f d=toD p d)∧Below w.heap.size w wr∧Blk wr w.heap.size 26 #[.slice An nn cn,.slice Aa al.length ca,.slice Af nf cf]∧Blk wr g5 38 #[.int .i64 nd.id,.int .i64 nd.pt.x,.int .i64 nd.pt.y]) (fun i _=>al.length-(intOf i).toNat)
  case atStart => exact ⟨0,fun _=>z0,.slice none 0 0,0,Nat.zero_le _,rfl,by omega,⟨HX4.out,Own.nil _ _ _ _ _,HX7.out,HM5.out,by omega,by omega⟩,(fun d h=>by simp [dartL] at h),B5.out,HX2.out,HX5.out⟩
  case round =>
   obtain ⟨k,f,vl,cnt,hk,rfl,hcnt,harn,hf,hb,X2,X5⟩:=hrel
   have Hb:=Lib.hid hb
   have HArn:=Lib.hid harn
   have Hf:=Lib.hid hf
   have HX2:=Lib.hid X2
   have HX5:=Lib.hid X5
   clear hb harn hf
   try clear X2l
   try clear X2a
   try clear X2b
   try clear X2c
   obtain ⟨X2l,X2a,X2b,X2c,-,-,-⟩:=X2.facts3
   have hzr:=Hb.out.size
   have h5lt:g5+1+1<wr.heap.size:=HArn.out.x7.lt
   by_cases hlt:k<al.length
   case neg =>
    have hkk:k=al.length:=by omega
    have ht:p.arcs.take k=p.arcs:=List.take_of_length_le (by rw [HPa.out,List.length_map];omega)
    rw [ht] at HArn Hf
    have HF:=Hf
    clear ht
    subst hkk
    obtain ⟨x4,own,x7,mp,b4,bm⟩:=HArn.out
    obtain ⟨A,c,rfl,-⟩:=Own.shape own
    have hlen:=dartL_len p.arcs nd.id
    rw [show p.arcs.length=al.length by rw [HPa.out,List.length_map]] at hlen
    have HS:=Lib.hid (Sort_in_spec (w.heap.size+1) _ (dartL p.arcs nd.id) (ltD p nd.pt) 91 #[.pointer (some ⟨g5,0,none⟩),.pointer (some ⟨g5+1+1,0,none⟩)] wr own (HV.out.ordOn HNm.out) (by omega) (enters_of Tryz.func91 (by kernel_rfl) rfl)
     (fun W hW x hx y hy=>by
      have h:=cmpD_spec nd x y g5 (g5+1+1) (g5+1) cnt f W (HX5.out.grown hW (fun e=>Own.ne_blk own HX5.out (by decide) e.symm)) (x7.grown hW (fun e=>Own.ne_blk own x7 (by decide) e.symm)) (mp.kept hW (fun e=>map_own mp own e.symm)) (HV.out.dart_wf hx) (HV.out.dart_wf hy)
      have he:cmpOf (fun a b=>lessS nd.pt (f a) (f b)) x y=cmpOf (ltD p nd.pt) x y:=by
       unfold cmpOf ltD
       simp only [HF.out x hx,HF.out y hy]
      rw [he] at h
      exact h))
    have no4:=Own.ne_blk own x4 (by decide)
    have hown:=Own.lt own
    have HOl:=Lib.hid hown
    have HB4:=Lib.hid b4
    have X4:=x4
    have HX4r:=Lib.hid x4
    have HNo:=Lib.hid no4
    have hpm:(sortB (ltD p nd.pt) (dartL p.arcs nd.id)).length=(dartL p.arcs nd.id).length:=((sortB_facts (HV.out.ordOn HNm.out)).1).length_eq
    rw [← HAr.out] at hpm HS
    have HPm:=Lib.hid hpm
    clear x4 own x7 mp b4 bm no4 hown hpm hlen HF Hf HArn
    generalize dartL p.arcs nd.id=D at *
    try clear X4l
    try clear X4a
    try clear X4fa
    obtain ⟨X4l,X4a,X4fa⟩:=X4.facts1
    go_wp2_with fail
    refine HS.out.mono ?_
    rintro e ws ⟨rfl,hos,hgs⟩
    have Y4:=Blk.grown X4 hgs (fun e=>HNo.out e.symm)
    have HOs:=Lib.hid hos
    have HBs:=Lib.hid (show Below (w.heap.size+1) wr ws from Below.grown (Below.refl _ _) hgs (by omega) (fun g hg=>(HOl.out g hg).1))
    clear hos hgs X4 X4l X4a X4fa X2 X2l X2a X2b X2c
    have X4:=Y4
    clear Y4
    try clear X4l
    try clear X4a
    try clear X4fa
    obtain ⟨X4l,X4a,X4fa⟩:=X4.facts1
    go_wp2_with fail
    have ho:=HOs.out
    rw [← HPm.out] at ho ⊢
    refine res_cell1 (g:=w.heap.size+1) (v:=.slice A q.length c) rfl isAgg_ints rfl rfl (Blk.put1 X4) ⟨A,c,rfl,?_,(ho.far (p:=⟨w.heap.size+1,0,none⟩) (by rw [HPm.out];exact HNo.out) _).mono_base (by omega)⟩
    exact (Below.trans Hb.out (HBs.out.mono (by omega))).setCell (by show w.heap.size≤w.heap.size+1;omega) _
   obtain ⟨b,o,rfl,hlb,c0,c1,c2,c3,c4,c5⟩:=(HR.out.mono Hb.out).ar hlt
   have ham:al[k].1∈p.arcs:=by rw [HPa.out];exact List.mem_map_of_mem (List.getElem_mem hlt)
   have hst:dartL (p.arcs.take (k+1)) nd.id=dartL (p.arcs.take k) nd.id++((if al[k].1.fr=nd.id then [al[k].1.id] else [])++(if al[k].1.dst=nd.id then [-al[k].1.id] else [])):=by
    have h1:k<p.arcs.length:=by rw [HPa.out,List.length_map];exact hlt
    have h2:=dartL_take p.arcs nd.id k h1
    have h3:p.arcs[k]=al[k].1:=by simp only [HPa.out,List.getElem_map]
    rw [h3] at h2;exact h2
   obtain ⟨Av,cv,hv,-⟩:=HVi.out k hlt
   rw [hv] at c3
   have hpo:=HV.out.path_of (HV.out.arcD_pos ham)
   have hid:=HV.out.id_pos ham
   rw [show absI al[k].1.id=al[k].1.id by unfold absI;rw [if_neg (by omega)]] at hpo
   have HPt:=Lib.hid (HPth.out al[k].1.id)
   rw [hpo] at HPt
   unfold RetPathE at HPt
   simp only [Option.getD_some,Option.isSome_some,if_true] at HPt
   have hto1:=HV.out.to_pos ham
   have hto2:=HV.out.to_neg ham
   have hpl:=pathS_length p al[k].1
   have hvl:=HV.out.via_len ham
   have hlen:=dartL_len (p.arcs.take k) nd.id
   have hlen2:(p.arcs.take k).length≤k:=List.length_take_le _ _
   have HSt:=Lib.hid hst
   have HTo1:=Lib.hid hto1
   have HTo2:=Lib.hid hto2
   have HLen:=Lib.hid (show (dartL (p.arcs.take k) nd.id).length≤512 by omega)
   clear hst hto1 hto2 hpo hv ham hlen hlen2
   obtain ⟨D1,hD1⟩:∃ D1,dartL (p.arcs.take (k+1)) nd.id=D1:=⟨_,rfl⟩
   rw [hD1] at HSt
   have HD1:=Lib.hid hD1
   clear hD1
   generalize dartL (p.arcs.take k) nd.id=D0 at *
   generalize hP:pathS p al[k].1=P at *
   generalize al[k].1.via.length=vn at *
   generalize al[k].1=a at *
   have HIdw:=Lib.hid (show wfI a.id from wfI_of (by omega) (by omega))
   have HIdn:=Lib.hid (show wfI (-a.id) from wfI_of (by omega) (by omega))
   have hneg:IntKind.i64.wrap (-a.id)=-a.id:=IntWalk.i64_in _ (by omega)
   clear hP
   cases hb1:(a.fr == nd.id)
   case false =>
    have hn1:(a.fr != nd.id)=true:=by rw [bne,hb1];rfl
    cases hb2:(a.dst == nd.id)
    case false =>
     have hn2:(a.dst != nd.id)=true:=by rw [bne,hb2];rfl
     have hD:D1=D0:=by rw [HSt.out,if_neg (by simpa using hb1),if_neg (by simpa using hb2)];simp
     go_wp2_with fail
     go_roundw
     case rel => exact ⟨k+1,f,vl,cnt,by omega,by go_num,by omega,by rw [show dartL (List.take (k+1) p.arcs) nd.id=D0 from HD1.out.trans hD];exact HArn.out.keep (bA (bR wr) _),by rw [show dartL (List.take (k+1) p.arcs) nd.id=D0 from HD1.out.trans hD];exact Hf.out,bA Hb.out _,HX2.out.alloc _,HX5.out.alloc _⟩
     case measure => simp [intOf];omega
    case true =>
     have hn2:(a.dst != nd.id)=false:=by rw [bne,hb2];rfl
     have HPl:=Lib.hid hpl
     clear hpl
     go_wp2_with fail
     refine (HPt.out _ (bA Hb.out _)).mono ?_
     rintro e w2 ⟨A2,c2',rfl,hb2,ho2⟩
     have HW2:=Lib.hid (show Below wr.heap.size wr w2 from bT (bA (bR wr) _) hb2)
     have HO2:=Lib.hid ho2
     have hz2:=hb2.size
     simp only [World.size_alloc] at hz2
     obtain ⟨Aq,cq,he,hq1,hq2,hRP⟩:=ho2.sl
     injection he with e1 e2 e3
     subst e1 e3
     clear e2
     unfold maxLen at hq2
     have HX10:=Lib.hid (show Blk w2 wr.heap.size 41 #[.int .i64 a.id,.int .i64 a.fr,.int .i64 a.dst,.slice Av vn cv,.int .i64 a.left,.int .i64 a.right] from (Blk.made rfl _ _).keep hb2)
     have X10:=HX10.out
     rw [HPl.out] at hq1 ⊢
     clear hb2 ho2 HPt X2l X2a X2b X2c X2 c0 c1 c2 c3 c4 c5 hlb
     have hD:D1=D0++[-a.id]:=by rw [HSt.out,if_neg (by simpa using hb1),if_pos (by simpa using hb2)];simp
     have HOW:=HO2
     have HArnW:=Lib.hid (HArn.out.keep HW2.out)
     have HX2W:=Lib.hid (HX2.out.keep HW2.out)
     have HX5W:=Lib.hid (HX5.out.keep HW2.out)
     have HBW:=Lib.hid (show Below w.heap.size w w2 from bT Hb.out HW2.out)
     have HN5:=Lib.hid (Own.ne_blk HArn.out.own HX5.out (by decide))
     clear hRP
     obtain ⟨X10l,X10a,X10b,X10c,X10d,X10e,X10f,-,-,-,-,-,-⟩:=X10.facts6
     have hP2:vn<P.length:=by have:=HPl.out;omega
     obtain ⟨bp,op,hAp,hlp,e20,e21⟩:=Row.pt (HOW.out.row_pt) hP2
     have hp2:P.getD vn pt0=P[vn]:=by simp only [List.getD_eq_getElem?_getD,List.getElem?_eq_getElem hP2,Option.getD_some]
     have HTp2:=Lib.hid (HTo2.out.trans hp2)
     clear hp2
     generalize P[vn]=p2 at *
     first | subst hAp | (simp only [Option.some.injEq,Addr.mk.injEq,and_true] at hAp;obtain ⟨rfl,rfl⟩:=hAp)
     have k2:IntKind.i64.wrap ((vn:Int)+2-2)=vn:=by rw [show (vn:Int)+2-2=vn by omega];exact IntWalk.i64_in _ (by omega)
     have k3:IntKind.i64.wrap (vn:Int)=vn:=IntWalk.i64_in _ (by omega)
     have k4:(vn:Int)<(vn:Int)+2:=by omega
     have k5:0≤(vn:Int):=by omega
     have k6:(vn:Int)+2-2=vn:=by omega
     go_upto_region 15 with fail
     refine rg_start (SinceB ((w.heap.size+1)) w2) (.take 0 1 (.take 1 3 (.run 5 4 3 (.two 2 503 (.take 3 511 (.call 9 1023 (.call 10 2047 (.done)))) 9 1011 (.call 2 1015 (.take 3 1023 (.call 10 2047 (.done)))))))) (by kernel_rfl) (Below.drew (Below.refl _ _)) (by kernel_rfl) (by kernel_rfl) (Nat.le_of_ble_eq_true (by kernel_rfl)) ?_
     intro opsR QR Hops HQrg hS
     iterate 7
      apply rg_pB;exact Hops;exact rfl;exact hS;exact rfl
      · intro _ hqc;go_simp;try rfl
      try simp only [pu]
     refine rg_two (i:=2) (j:=9) (get_of Hops rfl) (get_of Hops rfl) (fun K hK=>?_) (fun K hK=>?_)
     ·
      have HSrg:=Lib.hid hS;clear hS
      refine rg_run (wanted_plain rfl) ?_
      go_simp
      refine hK.out _ _ HSrg.out (fun hS=>?_)
      clear hK K HSrg
      try simp only [pu]
      apply rg_pB;exact Hops;exact rfl;exact hS;exact rfl
      · intro _ hqc;go_simp;try rfl
      try simp only [pu]
      refine rg_call (i:=9) (get_of Hops rfl) (fun K hK=>?_)
      have HSrg:=Lib.hid hS;clear hS
      refine rg_run (wanted_plain rfl) ?_
      go_simp
      refine hK.out _ _ HSrg.out (fun hS=>?_)
      clear hK K HSrg
      try simp only [pu]
      refine rg_call (i:=10) (get_of Hops rfl) (fun K hK=>?_)
      have HSrg:=Lib.hid hS;clear hS
      refine rg_run (wanted_plain rfl) ?_
      go_simp
      refine (HAd.out (-a.id) p2 (w.heap.size+1) (w.heap.size+1) (g5+1+1) (g5+1) (cnt) (D0) (f) vl _ (HArnW.out.keep (bD (bR w2))) (by simp;omega) (by omega) (by have:=HLen.out;(try simp only [List.length_append,List.length_singleton]);omega) HIdn.out).mono ?_
      rintro e w4 ⟨rfl,⟨v4,harn4⟩,hb4,hk4⟩
      have hS:SinceB (w.heap.size+1) w2 w4:=Below.trans HSrg.out hb4
      have HArn4:=Lib.hid harn4
      have HX5n:=Lib.hid (hk4 g5 _ _ (HX5W.out.keep (bD (bR w2))) (by omega) (by omega) HN5.out)
      clear hb4 hk4 harn4
      clear HSrg
      refine hK.out _ _ hS (fun _=>?_)
      clear hK K
      try simp only [pu]
      refine rg_done ?_
      refine HQrg.down _ _ ?_
      have hB:Below ((w.heap.size+1)) w2 _:=hS
      clear hS HQrg Hops
      go_wp2_with fail
      go_roundw
      case rel => exact ⟨k+1,_,v4,cnt+1,by omega,by go_num,by omega,by rw [show dartL (List.take (k+1) p.arcs) nd.id=D0++[-a.id] from HD1.out.trans hD];exact HArn4.out,(fun d hd=>by rw [show dartL (List.take (k+1) p.arcs) nd.id=D0++[-a.id] from HD1.out.trans hD] at hd;exact map_step Hf.out HTp2.out d hd),Below.trans HBW.out (hB.mono (by omega)),HX2W.out.below hB (by omega),HX5n.out⟩
      case measure => simp [intOf];omega
     ·
      have HSrg:=Lib.hid hS;clear hS
      refine rg_run (wanted_plain rfl) ?_
      go_simp
      refine hK.out _ _ HSrg.out (fun hS=>?_)
      clear hK K HSrg
      try simp only [pu]
      refine rg_call (i:=2) (get_of Hops rfl) (fun K hK=>?_)
      have HSrg:=Lib.hid hS;clear hS
      refine rg_run (wanted_plain rfl) ?_
      go_simp
      refine hK.out _ _ HSrg.out (fun hS=>?_)
      clear hK K HSrg
      try simp only [pu]
      apply rg_pB;exact Hops;exact rfl;exact hS;exact rfl
      · intro _ hqc;go_simp;try rfl
      try simp only [pu]
      refine rg_call (i:=10) (get_of Hops rfl) (fun K hK=>?_)
      have HSrg:=Lib.hid hS;clear hS
      refine rg_run (wanted_plain rfl) ?_
      go_simp
      refine (HAd.out (-a.id) p2 (w.heap.size+1) (w.heap.size+1) (g5+1+1) (g5+1) (cnt) (D0) (f) vl _ (HArnW.out.keep (bD (bR w2))) (by simp;omega) (by omega) (by have:=HLen.out;(try simp only [List.length_append,List.length_singleton]);omega) HIdn.out).mono ?_
      rintro e w4 ⟨rfl,⟨v4,harn4⟩,hb4,hk4⟩
      have hS:SinceB (w.heap.size+1) w2 w4:=Below.trans HSrg.out hb4
      have HArn4:=Lib.hid harn4
      have HX5n:=Lib.hid (hk4 g5 _ _ (HX5W.out.keep (bD (bR w2))) (by omega) (by omega) HN5.out)
      clear hb4 hk4 harn4
      clear HSrg
      refine hK.out _ _ hS (fun _=>?_)
      clear hK K
      try simp only [pu]
      refine rg_done ?_
      refine HQrg.down _ _ ?_
      have hB:Below ((w.heap.size+1)) w2 _:=hS
      clear hS HQrg Hops
      go_wp2_with fail
      go_roundw
      case rel => exact ⟨k+1,_,v4,cnt+1,by omega,by go_num,by omega,by rw [show dartL (List.take (k+1) p.arcs) nd.id=D0++[-a.id] from HD1.out.trans hD];exact HArn4.out,(fun d hd=>by rw [show dartL (List.take (k+1) p.arcs) nd.id=D0++[-a.id] from HD1.out.trans hD] at hd;exact map_step Hf.out HTp2.out d hd),Below.trans HBW.out (hB.mono (by omega)),HX2W.out.below hB (by omega),HX5n.out⟩
      case measure => simp [intOf];omega
   case true =>
    have hn1:(a.fr != nd.id)=false:=by rw [bne,hb1];rfl
    have HB1:=Lib.hid hb1
    clear hb1
    have HPl:=Lib.hid hpl
    clear hpl
    go_wp2_with fail
    refine (HPt.out _ (bA Hb.out _)).mono ?_
    rintro e w2 ⟨A2,c2',rfl,hb2,ho2⟩
    have HW2:=Lib.hid (show Below wr.heap.size wr w2 from bT (bA (bR wr) _) hb2)
    have HO2:=Lib.hid ho2
    have hz2:=hb2.size
    simp only [World.size_alloc] at hz2
    obtain ⟨Aq,cq,he,hq1,hq2,hRP⟩:=ho2.sl
    injection he with e1 e2 e3
    subst e1 e3
    clear e2
    unfold maxLen at hq2
    have HX10:=Lib.hid (show Blk w2 wr.heap.size 41 #[.int .i64 a.id,.int .i64 a.fr,.int .i64 a.dst,.slice Av vn cv,.int .i64 a.left,.int .i64 a.right] from (Blk.made rfl _ _).keep hb2)
    have X10:=HX10.out
    rw [HPl.out] at hq1 ⊢
    clear hb2 ho2 HPt X2l X2a X2b X2c X2 c0 c1 c2 c3 c4 c5 hlb
    have hP1:1<P.length:=by have:=HPl.out;omega
    obtain ⟨bp,op,hAp,hlp,e10,e11⟩:=Row.pt (hRP) hP1
    have hp1:P.getD 1 pt0=P[1]:=by simp only [List.getD_eq_getElem?_getD,List.getElem?_eq_getElem hP1,Option.getD_some]
    have HTp1:=Lib.hid (HTo1.out.trans hp1)
    clear hp1
    generalize P[1]=p1 at *
    subst hAp
    clear hRP
    simp only [Nat.one_mul] at e10 e11
    have k1:(1:Int)<(vn:Int)+2:=by omega
    try clear X10l
    try clear X10a
    try clear X10b
    try clear X10c
    try clear X10d
    try clear X10e
    try clear X10f
    obtain ⟨X10l,X10a,X10b,X10c,X10d,X10e,X10f,-,-,-,-,-,-⟩:=X10.facts6
    go_upto_if 52 with fail
    go_cut [] (fun w3=>∃ v3,Arnd w3 (w.heap.size+1) (w.heap.size+1) (g5+1+1) (g5+1) (cnt+1) (D0++[a.id]) (fun i=>if i=a.id then p1 else f i) v3∧Below (w.heap.size+1) w2 w3∧(∀ g t cs,Blk w2 g t cs→g≠w.heap.size+1→g≠g5+1→vl.ownBlock≠some g→Blk w3 g t cs))
    case first =>
     have hb1:=HB1.out
     go_upto_region 13 with fail
     refine rg_start (SinceB ((w.heap.size+1)) w2) (.take 0 1 (.take 1 3 (.take 3 11 (.take 4 27 (.two 2 31 (.call 5 63 (.call 6 127 (.done))) 5 59 (.call 2 63 (.call 6 127 (.done)))))))) (by kernel_rfl) (Below.drew (Below.refl _ _)) (by kernel_rfl) (by kernel_rfl) (Nat.le_of_ble_eq_true (by kernel_rfl)) ?_
     intro opsR QR Hops HQrg hS
     iterate 4
      apply rg_pB;exact Hops;exact rfl;exact hS;exact rfl
      · intro _ hqc;go_simp;try rfl
      try simp only [pu]
     refine rg_two (i:=2) (j:=5) (get_of Hops rfl) (get_of Hops rfl) (fun K hK=>?_) (fun K hK=>?_)
     ·
      have HSrg:=Lib.hid hS;clear hS
      refine rg_run (wanted_plain rfl) ?_
      go_simp
      refine hK.out _ _ HSrg.out (fun hS=>?_)
      clear hK K HSrg
      try simp only [pu]
      refine rg_call (i:=5) (get_of Hops rfl) (fun K hK=>?_)
      have HSrg:=Lib.hid hS;clear hS
      refine rg_run (wanted_plain rfl) ?_
      go_simp
      refine hK.out _ _ HSrg.out (fun hS=>?_)
      clear hK K HSrg
      try simp only [pu]
      refine rg_call (i:=6) (get_of Hops rfl) (fun K hK=>?_)
      have HSrg:=Lib.hid hS;clear hS
      refine rg_run (wanted_plain rfl) ?_
      go_simp
      refine (HAd.out a.id p1 (w.heap.size+1) (w.heap.size+1) (g5+1+1) (g5+1) cnt D0 f vl _ (HArn.out.keep (bD HW2.out)) (by simp;omega) (by omega) (by have:=HLen.out;omega) HIdw.out).mono ?_
      rintro e w3 ⟨rfl,⟨v3,harn3⟩,hb3,hk3⟩
      have hS:SinceB (w.heap.size+1) w2 w3:=Below.trans HSrg.out hb3
      have HArn3:=Lib.hid harn3
      have HK3:=Lib.hid (show ∀ g t cs,Blk w2 g t cs→g≠w.heap.size+1→g≠g5+1→vl.ownBlock≠some g→Blk w3 g t cs from fun g t cs h=>hk3 g t cs (h.keep (bD (bR w2))))
      clear hb3 hk3 harn3
      clear HSrg
      refine hK.out _ _ hS (fun _=>?_)
      clear hK K
      try simp only [pu]
      refine rg_done ?_
      refine HQrg.down _ _ ?_
      have hB:Below ((w.heap.size+1)) w2 _:=hS
      clear hS HQrg Hops
      go_wp2_with fail
      go_meet
      case rel => exact ⟨v3,HArn3.out,hB,HK3.out⟩
     ·
      have HSrg:=Lib.hid hS;clear hS
      refine rg_run (wanted_plain rfl) ?_
      go_simp
      refine hK.out _ _ HSrg.out (fun hS=>?_)
      clear hK K HSrg
      try simp only [pu]
      refine rg_call (i:=2) (get_of Hops rfl) (fun K hK=>?_)
      have HSrg:=Lib.hid hS;clear hS
      refine rg_run (wanted_plain rfl) ?_
      go_simp
      refine hK.out _ _ HSrg.out (fun hS=>?_)
      clear hK K HSrg
      try simp only [pu]
      refine rg_call (i:=6) (get_of Hops rfl) (fun K hK=>?_)
      have HSrg:=Lib.hid hS;clear hS
      refine rg_run (wanted_plain rfl) ?_
      go_simp
      refine (HAd.out a.id p1 (w.heap.size+1) (w.heap.size+1) (g5+1+1) (g5+1) cnt D0 f vl _ (HArn.out.keep (bD HW2.out)) (by simp;omega) (by omega) (by have:=HLen.out;omega) HIdw.out).mono ?_
      rintro e w3 ⟨rfl,⟨v3,harn3⟩,hb3,hk3⟩
      have hS:SinceB (w.heap.size+1) w2 w3:=Below.trans HSrg.out hb3
      have HArn3:=Lib.hid harn3
      have HK3:=Lib.hid (show ∀ g t cs,Blk w2 g t cs→g≠w.heap.size+1→g≠g5+1→vl.ownBlock≠some g→Blk w3 g t cs from fun g t cs h=>hk3 g t cs (h.keep (bD (bR w2))))
      clear hb3 hk3 harn3
      clear HSrg
      refine hK.out _ _ hS (fun _=>?_)
      clear hK K
      try simp only [pu]
      refine rg_done ?_
      refine HQrg.down _ _ ?_
      have hB:Below ((w.heap.size+1)) w2 _:=hS
      clear hS HQrg Hops
      go_wp2_with fail
      go_meet
      case rel => exact ⟨v3,HArn3.out,hB,HK3.out⟩
    case rest =>
     obtain ⟨v3,harn3,hB3,hk3⟩:=hcut
     have HBW:=Lib.hid (show RowKit.Below w.heap.size w wc from Below.trans (bT Hb.out HW2.out) (hB3.mono (by omega)))
     have HX2W:=Lib.hid ((HX2.out.keep HW2.out).below hB3 (by omega))
     have HX5W:=Lib.hid (hk3 g5 _ _ (HX5.out.keep HW2.out) (by omega) (by omega) (Own.ne_blk HArn.out.own HX5.out (by decide)))
     have X10n:=hk3 wr.heap.size _ _ HX10.out (by omega) (by omega) (fun e=>by have:=(HArn.out.own.lt _ e).2;omega)
     have HOW:=Lib.hid (HO2.out.kept_ (fun g t cs hg hx=>hk3 g t cs hx (by simp only [World.size_alloc] at hg;omega) (by simp only [World.size_alloc] at hg;omega) (fun e=>by have:=(HArn.out.own.lt _ e).2;simp only [World.size_alloc] at hg;omega)))
     have HArnW:=Lib.hid harn3
     have HN5:=Lib.hid (Own.ne_blk harn3.own HX5W.out (by decide))
     have hf3:=map_step Hf.out HTp1.out
     have HF3:=Lib.hid hf3
     have hz3:=hB3.size
     clear harn3 hB3 hk3 hf3 X10 X10l X10a X10b X10c X10d X10e X10f e10 e11
     have X10:=X10n
     clear X10n
     try clear X10l
     try clear X10a
     try clear X10b
     try clear X10c
     try clear X10d
     try clear X10e
     try clear X10f
     obtain ⟨X10l,X10a,X10b,X10c,X10d,X10e,X10f,-,-,-,-,-,-⟩:=X10.facts6
     cases hb2:(a.dst == nd.id)
     case false =>
      have hD:D1=D0++[a.id]:=by rw [HSt.out,if_pos (by simpa using HB1.out),if_neg (by simpa using hb2)];simp
      go_wp2_with fail
      go_roundw
      case rel => exact ⟨k+1,_,v3,cnt+1,by omega,by go_num,by omega,by rw [show dartL (List.take (k+1) p.arcs) nd.id=D0++[a.id] from HD1.out.trans hD];exact HArnW.out,by rw [show dartL (List.take (k+1) p.arcs) nd.id=D0++[a.id] from HD1.out.trans hD];exact HF3.out,HBW.out,HX2W.out,HX5W.out⟩
      case measure => simp [intOf];omega
     case true =>
      have hD:D1=D0++[a.id]++[-a.id]:=by rw [HSt.out,if_pos (by simpa using HB1.out),if_pos (by simpa using hb2)];simp
      have hP2:vn<P.length:=by have:=HPl.out;omega
      obtain ⟨bp,op,hAp,hlp,e20,e21⟩:=Row.pt (HOW.out.row_pt) hP2
      have hp2:P.getD vn pt0=P[vn]:=by simp only [List.getD_eq_getElem?_getD,List.getElem?_eq_getElem hP2,Option.getD_some]
      have HTp2:=Lib.hid (HTo2.out.trans hp2)
      clear hp2
      generalize P[vn]=p2 at *
      first | subst hAp | (simp only [Option.some.injEq,Addr.mk.injEq,and_true] at hAp;obtain ⟨rfl,rfl⟩:=hAp)
      have k2:IntKind.i64.wrap ((vn:Int)+2-2)=vn:=by rw [show (vn:Int)+2-2=vn by omega];exact IntWalk.i64_in _ (by omega)
      have k3:IntKind.i64.wrap (vn:Int)=vn:=IntWalk.i64_in _ (by omega)
      have k4:(vn:Int)<(vn:Int)+2:=by omega
      have k5:0≤(vn:Int):=by omega
      have k6:(vn:Int)+2-2=vn:=by omega
      go_upto_region 15 with fail
      refine rg_start (SinceB ((w.heap.size+1)) wc) (.take 0 1 (.take 1 3 (.run 5 4 3 (.two 2 503 (.take 3 511 (.call 9 1023 (.call 10 2047 (.done)))) 9 1011 (.call 2 1015 (.take 3 1023 (.call 10 2047 (.done)))))))) (by kernel_rfl) (Below.drew (Below.refl _ _)) (by kernel_rfl) (by kernel_rfl) (Nat.le_of_ble_eq_true (by kernel_rfl)) ?_
      intro opsR QR Hops HQrg hS
      iterate 7
       apply rg_pB;exact Hops;exact rfl;exact hS;exact rfl
       · intro _ hqc;go_simp;try rfl
       try simp only [pu]
      refine rg_two (i:=2) (j:=9) (get_of Hops rfl) (get_of Hops rfl) (fun K hK=>?_) (fun K hK=>?_)
      ·
       have HSrg:=Lib.hid hS;clear hS
       refine rg_run (wanted_plain rfl) ?_
       go_simp
       refine hK.out _ _ HSrg.out (fun hS=>?_)
       clear hK K HSrg
       try simp only [pu]
       apply rg_pB;exact Hops;exact rfl;exact hS;exact rfl
       · intro _ hqc;go_simp;try rfl
       try simp only [pu]
       refine rg_call (i:=9) (get_of Hops rfl) (fun K hK=>?_)
       have HSrg:=Lib.hid hS;clear hS
       refine rg_run (wanted_plain rfl) ?_
       go_simp
       refine hK.out _ _ HSrg.out (fun hS=>?_)
       clear hK K HSrg
       try simp only [pu]
       refine rg_call (i:=10) (get_of Hops rfl) (fun K hK=>?_)
       have HSrg:=Lib.hid hS;clear hS
       refine rg_run (wanted_plain rfl) ?_
       go_simp
       refine (HAd.out (-a.id) p2 (w.heap.size+1) (w.heap.size+1) (g5+1+1) (g5+1) (cnt+1) (D0++[a.id]) (fun i=>if i=a.id then p1 else f i) v3 _ (HArnW.out.keep (bD (bR wc))) (by simp;omega) (by omega) (by have:=HLen.out;(try simp only [List.length_append,List.length_singleton]);omega) HIdn.out).mono ?_
       rintro e w4 ⟨rfl,⟨v4,harn4⟩,hb4,hk4⟩
       have hS:SinceB (w.heap.size+1) wc w4:=Below.trans HSrg.out hb4
       have HArn4:=Lib.hid harn4
       have HX5n:=Lib.hid (hk4 g5 _ _ (HX5W.out.keep (bD (bR wc))) (by omega) (by omega) HN5.out)
       clear hb4 hk4 harn4
       clear HSrg
       refine hK.out _ _ hS (fun _=>?_)
       clear hK K
       try simp only [pu]
       refine rg_done ?_
       refine HQrg.down _ _ ?_
       have hB:Below ((w.heap.size+1)) wc _:=hS
       clear hS HQrg Hops
       go_wp2_with fail
       go_roundw
       case rel => exact ⟨k+1,_,v4,cnt+1+1,by omega,by go_num,by omega,by rw [show dartL (List.take (k+1) p.arcs) nd.id=D0++[a.id]++[-a.id] from HD1.out.trans hD];exact HArn4.out,(fun d hd=>by rw [show dartL (List.take (k+1) p.arcs) nd.id=D0++[a.id]++[-a.id] from HD1.out.trans hD] at hd;exact map_step HF3.out HTp2.out d hd),Below.trans HBW.out (hB.mono (by omega)),HX2W.out.below hB (by omega),HX5n.out⟩
       case measure => simp [intOf];omega
      ·
       have HSrg:=Lib.hid hS;clear hS
       refine rg_run (wanted_plain rfl) ?_
       go_simp
       refine hK.out _ _ HSrg.out (fun hS=>?_)
       clear hK K HSrg
       try simp only [pu]
       refine rg_call (i:=2) (get_of Hops rfl) (fun K hK=>?_)
       have HSrg:=Lib.hid hS;clear hS
       refine rg_run (wanted_plain rfl) ?_
       go_simp
       refine hK.out _ _ HSrg.out (fun hS=>?_)
       clear hK K HSrg
       try simp only [pu]
       apply rg_pB;exact Hops;exact rfl;exact hS;exact rfl
       · intro _ hqc;go_simp;try rfl
       try simp only [pu]
       refine rg_call (i:=10) (get_of Hops rfl) (fun K hK=>?_)
       have HSrg:=Lib.hid hS;clear hS
       refine rg_run (wanted_plain rfl) ?_
       go_simp
       refine (HAd.out (-a.id) p2 (w.heap.size+1) (w.heap.size+1) (g5+1+1) (g5+1) (cnt+1) (D0++[a.id]) (fun i=>if i=a.id then p1 else f i) v3 _ (HArnW.out.keep (bD (bR wc))) (by simp;omega) (by omega) (by have:=HLen.out;(try simp only [List.length_append,List.length_singleton]);omega) HIdn.out).mono ?_
       rintro e w4 ⟨rfl,⟨v4,harn4⟩,hb4,hk4⟩
       have hS:SinceB (w.heap.size+1) wc w4:=Below.trans HSrg.out hb4
       have HArn4:=Lib.hid harn4
       have HX5n:=Lib.hid (hk4 g5 _ _ (HX5W.out.keep (bD (bR wc))) (by omega) (by omega) HN5.out)
       clear hb4 hk4 harn4
       clear HSrg
       refine hK.out _ _ hS (fun _=>?_)
       clear hK K
       try simp only [pu]
       refine rg_done ?_
       refine HQrg.down _ _ ?_
       have hB:Below ((w.heap.size+1)) wc _:=hS
       clear hS HQrg Hops
       go_wp2_with fail
       go_roundw
       case rel => exact ⟨k+1,_,v4,cnt+1+1,by omega,by go_num,by omega,by rw [show dartL (List.take (k+1) p.arcs) nd.id=D0++[a.id]++[-a.id] from HD1.out.trans hD];exact HArn4.out,(fun d hd=>by rw [show dartL (List.take (k+1) p.arcs) nd.id=D0++[a.id]++[-a.id] from HD1.out.trans hD] at hd;exact map_step HF3.out HTp2.out d hd),Below.trans HBW.out (hB.mono (by omega)),HX2W.out.below hB (by omega),HX5n.out⟩
       case measure => simp [intOf];omega
end Go.Proofs.YtnhdmghgjngcaaaGreat
namespace Go.Proofs.YtnhdmghgjngcaaaGreat
open Go.RowKit Go.Sort

def idxZ (l:List Int) (x:Int):Int:=match l.findIdx? (fun y=>y == x) with
 | none=>-1
 | some k=>k
theorem idx_hit {l:List Int} {x:Int} {k:Nat} (hk:k<l.length) (hno:∀ j (hj:j<l.length),j<k→(l[j] == x)=false) (he:(l[k] == x)=true):l.findIdx? (fun y=>y == x)=some k:=by
 rw [List.findIdx?_eq_some_iff_getElem]
 exact ⟨hk,he,fun j hj=>by simpa using hno j (by omega) hj⟩
theorem idx_miss {l:List Int} {x:Int} (hno:∀ j (hj:j<l.length),(l[j] == x)=false):l.findIdx? (fun y=>y == x)=none:=by
 rw [List.findIdx?_eq_none_iff]
 intro y hy
 obtain ⟨j,hj,rfl⟩:=List.mem_iff_getElem.1 hy
 exact hno j hj
set_option maxHeartbeats 400000 in
theorem Index_at_spec (v:Value) (l:List Int) (x:Int) (w:World) (h:Ints w v l) :
  Calls Tryz.prog 93 #[v,.int .i64 x] w fun e w'=>e=.returned (.int .i64 (idxZ l x))∧Below w.heap.size w w':=by
 obtain ⟨A,c,rfl,hn,hc,hR⟩:=h
 unfold maxLen at hc
 obtain ⟨q,hq⟩:∃ q,idxZ l x=q:=⟨_,rfl⟩
 rw [hq]
 have Hq:=Lib.hid hq;clear hq
 go_enter Tryz.func93,Tryz.ntmps93
 go_wp2_with fail
 go_loopw [8] (fun i wr=>∃ k:Nat,k≤l.length∧i=.int .i64 k∧Below w.heap.size w wr∧∀ j (hj:j<l.length),j<k→(l[j] == x)=false) (fun i _=>l.length-(intOf i).toNat)
 case atStart => exact ⟨0,Nat.zero_le _,rfl,bR w,fun j _ h=>by omega⟩
 case round =>
  obtain ⟨k,hk,rfl,hb,hno⟩:=hrel
  have Hb:=Lib.hid hb
  have Hno:=Lib.hid hno
  clear hb hno
  by_cases hlt:k<l.length
  ·
   obtain ⟨b,o,rfl,hlb,c0⟩:=(hR.mono Hb.out).int hlt
   have HR:=Lib.hid hR;clear hR
   cases he:(l[k] == x)
   ·
    go_wp2_with fail
    go_roundw
    case rel => exact ⟨k+1,by omega,by go_num,Hb.out,all_succ (p:=fun y=>(y == x)=false) Hno.out hlt he⟩
    case measure => simp [intOf];omega
   ·
    have hf:=Lib.hid (idx_hit hlt Hno.out he)
    have he2:(x == l[k])=true:=by simpa using (beq_iff_eq.1 he).symm
    go_wp2_with fail
    go_ret
    exact ⟨ret_int (by rw [← Hq.out];unfold idxZ;rw [hf.out]),Hb.out⟩
  ·
   have hf:=Lib.hid (idx_miss (fun j hj=>Hno.out j hj (by omega)))
   go_wp2_with fail
   go_ret
   exact ⟨ret_int (by rw [← Hq.out];unfold idxZ;rw [hf.out]),Hb.out⟩

set_option maxHeartbeats 1000000 in
theorem preceding_spec (v:Value) (l:List Int) (d:Int) (w:World) (h:Ints w v l) (hl:l.length≤1000000) :
  Calls Tryz.prog 58 #[v,.int .i64 d] w fun e w'=>e=.returned (.int .i64 (precD l d))∧Below w.heap.size w w':=by
 have HI:=Lib.hid (Index_at_spec v l d w h)
 obtain ⟨A,c,rfl,hn,hc,hR⟩:=h
 unfold maxLen at hc
 obtain ⟨q,hq⟩:∃ q,precD l d=q:=⟨_,rfl⟩
 rw [hq]
 unfold idxZ at HI
 unfold precD at hq
 have HR:=Lib.hid hR;clear hR
 cases hi:l.findIdx? (fun y=>y == d) with
 | none =>
  rw [hi] at HI hq
  simp only at HI hq
  subst hq
  clear hi
  go_enter Tryz.func58,Tryz.ntmps58
  go_wp2_with fail
  refine HI.out.mono ?_
  rintro e w1 ⟨rfl,hb1⟩
  have B1:=Lib.hid hb1;clear hb1
  go_wp2_with fail
  go_ret
  exact ⟨rfl,B1.out⟩
 | some k =>
  rw [hi] at HI hq
  simp only at HI hq
  have hk:k<l.length:=(List.findIdx?_eq_some_iff_getElem.1 hi).1
  clear hi
  have hm:(k+l.length-1) % l.length<l.length:=Nat.mod_lt _ (by omega)
  have hq2:l[(k+l.length-1) % l.length]=q:=by
   rw [← hq];simp only [List.getD_eq_getElem?_getD,List.getElem?_eq_getElem hm,Option.getD_some]
  have htm:Int.tmod ((k:Int)+(l.length:Int)-1) (l.length:Int)=((k+l.length-1) % l.length:Nat):=by
   rw [Int.tmod_eq_emod_of_nonneg (by omega),show (k:Int)+(l.length:Int)-1=((k+l.length-1:Nat):Int) by omega]
   exact (Int.natCast_emod _ _).symm
  clear hq
  generalize hM:(k+l.length-1) % l.length=m at *
  have Hq2:=Lib.hid hq2
  clear hq2 hM
  have h0:¬ (k:Int)<0:=by omega
  have g1:IntKind.i64.wrap ((k:Int)+(l.length:Int))=(k:Int)+(l.length:Int):=IntWalk.i64_in _ (by omega)
  have g2:IntKind.i64.wrap ((k:Int)+(l.length:Int)-1)=(k:Int)+(l.length:Int)-1:=IntWalk.i64_in _ (by omega)
  have g3:¬ (l.length:Int)=0:=by omega
  have g4:IntKind.i64.wrap (m:Int)=m:=IntWalk.i64_in _ (by omega)
  have g5:(m:Int)<l.length:=by omega
  have g6:0≤(m:Int):=by omega
  have hne:l.length≠0:=by omega
  have hne':l≠[]:=by intro e;rw [e] at hne;exact hne rfl
  have Hne:=Lib.hid hne
  clear hne
  go_enter Tryz.func58,Tryz.ntmps58
  go_wp2_with fail
  refine HI.out.mono ?_
  rintro e w1 ⟨rfl,hb1⟩
  have B1:=Lib.hid hb1;clear hb1
  obtain ⟨b,o,rfl,hlb,c0⟩:=(HR.out.mono B1.out).int hm
  rw [Hq2.out] at c0
  go_wp2_with fail
  go_ret
  exact ⟨rfl,B1.out⟩

theorem Valid.around_len {p:Pl} (h:Valid p) (n:Int):(aroundD p n).length≤512:=by
 cases hf:findNd p.nodes n with
 | none=>simp [aroundD,hf]
 | some nd =>
  have hm:nd∈p.nodes:=List.mem_of_find?_eq_some hf
  have hid:nd.id=n:=by have:=List.find?_some hf;simpa using this
  subst hid
  rw [(h.around_perm hm).length_eq]
  have h1:=dartL_len p.arcs nd.id
  have hl:=h.lim
  unfold limS at hl
  simp only [Bool.or_eq_false_iff,decide_eq_false_iff_not] at hl
  omega

end Go.Proofs.YtnhdmghgjngcaaaGreat
namespace Go.Proofs.YtnhdmghgjngcaaaGreat
open Go.RowKit Go.Sort

def ascL (l:List Int):List Int:=l.mergeSort fun x y=>decide (x≤y)
theorem ascL_perm (l:List Int):(ascL l).Perm l:=List.mergeSort_perm _ _
theorem ascL_len (l:List Int):(ascL l).length=l.length:=(ascL_perm l).length_eq
theorem ascL_sorted (l:List Int):(ascL l).Pairwise (·≤·):=by
 have:=List.pairwise_mergeSort (le:=fun (x y:Int)=>decide (x≤y)) (fun a b c h1 h2=>by simp only [decide_eq_true_eq] at *;omega) (fun a b=>by simp only [Bool.or_eq_true,decide_eq_true_eq];omega) l
 exact this.imp (fun h=>by simpa using h)
theorem ascL_of {l m:List Int} (hp:l.Perm m) (hs:m.Pairwise (· < ·)):ascL l=m:=by
 refine sorted_uniq (lt:=fun a b=>decide (a<b)) ((ascL_perm l).trans hp) ?_ ?_ (fun a _ b _ h1 h2=>by simp only [decide_eq_false_iff_not] at *;omega)
 · exact (ascL_sorted l).imp (fun h=>by simpa using h)
 · exact hs.imp (fun h=>by simp only [decide_eq_false_iff_not];omega)
theorem putRow_heap (w:World) (n:Nat) (blk off:Nat) (d:Array Int) (os:Array Obj):(grow (putRow (Value.int .i64) (Sort.ahead w n) blk off d) os).heap=w.heap.modify blk (onCells (putCells (Value.int .i64) off d))++os:=rfl
theorem putRow_grown (w:World) (n:Nat) (blk off:Nat) (d:Array Int) (os:Array Obj):w.grownBy (grow (putRow (Value.int .i64) (Sort.ahead w n) blk off d) os) (some blk):=by
 refine ⟨rfl,rfl,rfl,?_,fun i hi hne=>?_⟩
 · rw [putRow_heap];simp
 ·
  have hne':blk≠i:=fun e=>hne (by rw [e])
  rw [putRow_heap,Array.getElem?_append_left (by simpa using hi),Array.getElem?_modify,if_neg hne']
set_option maxHeartbeats 1000000 in
theorem SortN_spec (base:Nat) (v:Value) (sl:List Int) (w:World) (hown:Own w base 3 1 inC v sl) (hn:sl.length≤4294967296) :
  Calls Tryz.prog 59 #[v] w (RetSortIn w base v (ascL sl)):=by
 rcases sl with _ | ⟨s0,rest⟩
 ·
  have hv:∃ p cap,v=.slice p 0 cap:=by
   rcases hown.2 with ⟨h,_⟩ | ⟨g,cap,cur,h,_⟩
   · exact ⟨_,_,h⟩
   · exact ⟨_,_,h⟩
  obtain ⟨p,cap,rfl⟩:=hv
  refine Calls.mono (AnyM.slices_Sort_int_none Tryz.sortN p cap w) ?_
  rintro e w' ⟨rfl,rfl⟩
  exact ⟨rfl,by rw [show ascL []=[] by simp [ascL]];exact hown,World.grownBy.refl _ _⟩
 generalize hsl:s0::rest=sl at *
 have hpos:0<sl.length:=by rw [← hsl];simp
 obtain ⟨hlen,hown2⟩:=hown
 rcases hown2 with ⟨_,h0⟩ | ⟨g,cap,cur,rfl,hg,hh,hnc,hcm,hcs,hx⟩
 · omega
 have hcur:∀ j,j<sl.length→cur[j]? = (sl[j]?).map (.int .i64 ·):=fun j hj=>by
  rw [← flat_in,← hx,List.getElem?_take,if_pos (by omega)];simp
 have hH:Holds (Value.int .i64) w g 0 sl.toArray:=fun j hj=>by
  have hj':j<sl.length:=by simpa using hj
  refine ⟨?_,Blk.frozen (t:=3) (cs:=cur) hh _⟩
  rw [cell_of_row w g _ cur 3 (0,0) hh,Nat.zero_add,hcur j hj',getElem!_pos sl.toArray j hj,List.getElem?_eq_getElem hj']
  simp
 refine Calls.mono (AnyM.slices_Sort_int Tryz.sortN g 0 cap sl w hH (Blk.lt hh) (by omega)) ?_
 rintro e w' ⟨rfl,n,os,rfl⟩
 have hl':(ascL sl).length=sl.length:=ascL_len sl
 refine ⟨rfl,?_,putRow_grown w n g 0 _ os⟩
 unfold Own
 rw [hl']
 refine ⟨by rw [flat_in_len,hl'];omega,.inr ⟨g,cap,putCells (Value.int .i64) 0 (ascL sl).toArray cur,rfl,hg,?_,hnc,hcm,by simp [putCells,hcs],?_⟩⟩
 ·
  have hgl:g<w.heap.size:=Blk.lt hh
  show (grow (putRow (Value.int .i64) (Sort.ahead w n) g 0 (ascL sl).toArray) os).heap[g]? = _
  rw [putRow_heap,Array.getElem?_append_left (by simpa using hgl),Array.getElem?_modify,if_pos rfl,hh]
  rfl
 ·
  apply List.ext_getElem?
  intro j
  rw [List.getElem?_take]
  by_cases hj:j<sl.length*1
  ·
   rw [if_pos hj]
   have hjc:j<cur.size:=by rw [hcs];omega
   have hjd:j<(ascL sl).length:=by rw [hl'];omega
   rw [flat_in,List.getElem?_eq_getElem hjd]
   have e1:(putCells (Value.int .i64) 0 (ascL sl).toArray cur).toList[j]? = some (.int .i64 (ascL sl).toArray[j]!):=by
    simp [putCells,hjc,hjd]
   rw [e1,getElem!_pos (ascL sl).toArray j (by simpa using hjd)]
   simp
  · rw [if_neg hj,List.getElem?_eq_none (by rw [flat_in_len,hl'];omega)]
end Go.Proofs.YtnhdmghgjngcaaaGreat
namespace Go.Proofs.YtnhdmghgjngcaaaGreat
open Go.RowKit

def cyC (x:List Int×SV):List Value:=[.slice x.2.a x.2.n x.2.c]
theorem cyC_len (x:List Int×SV):(cyC x).length=1:=rfl
theorem cyC_one (x:List Int×SV):∀ u∈cyC x,u.oneCell'=true:=by simp [cyC,Value.oneCell']
theorem elem_cy:Elem Tryz.prog 50 24 1 24:=Elem.mk_ (z:=.slice none 0 0) (by kernel_rfl) (by kernel_rfl) rfl (by omega)
def CysO (w:World) (B:Nat) (v:Value) (L:List (List Int×SV)):Prop :=
 Own w B 24 1 cyC v L∧∀ x∈L,Own w B 3 1 inC (.slice x.2.a x.2.n x.2.c) x.1
def RetCys (w:World) (l:List (List Int)) (z:Int) (e:Ending) (w':World):Prop :=
 ∃ A c L,e=.returned (.tuple #[.slice A l.length c,.int .i64 z])∧Below w.heap.size w w'∧L.map (·.1)=l∧CysO w' w.heap.size (.slice A l.length c) L

theorem mapII_ne {w:World} {gm n:Nat} {f:Int→Int} (h:MapII w gm n f) {g:Nat} {t:TypeId} {cs:Array Value} (hg:Blk w g t cs):g≠gm:=by
 rintro rfl
 obtain ⟨D,h1,-⟩:=h
 obtain ⟨es,clock,h2,-⟩:=h1
 unfold Blk at hg
 rw [hg] at h2
 cases h2
theorem mapII_own {w:World} {gm n:Nat} {f:Int→Int} (h:MapII w gm n f) {base:Nat} {e:TypeId} {size:Nat} {α:Type} {fe:α→List Value} {v:Value} {l:List α} (ho:Own w base e size fe v l):v.ownBlock≠some gm:=by
 rcases ho.2 with ⟨rfl,_⟩ | ⟨g,cap,cur,rfl,_,hh,_⟩
 · simp [Value.ownBlock]
 ·
  intro e'
  exact mapII_ne h (cs:=cur) (g:=g) hh (by simpa [Value.ownBlock] using e')
theorem Own.row_in {w:World} {base:Nat} {A:Option Addr} {n c:Nat} {l:List Int} (h:Own w base 3 1 inC (.slice A n c) l):Row w A (l.flatMap inC):=by
 obtain ⟨A',c',he,_,_,hr⟩:=h.sl
 injection he with e1 e2 e3
 subst e1
 exact hr

def aroundL (p:Pl) (k:Nat):List Int:=(p.nodes.take k).flatMap fun n=>aroundD p n.id
def FolOK (p:Pl) (F:Int→Int) (L:List Int):Prop:=∀ e∈L,F (-e)=nextD p (-e)
theorem aroundL_succ (p:Pl) (k:Nat) (hk:k<p.nodes.length):aroundL p (k+1)=aroundL p k++aroundD p p.nodes[k].id:=by
 unfold aroundL
 rw [List.take_succ_eq_append_getElem hk,List.flatMap_append]
 simp
theorem aroundL_len {p:Pl} (h:Valid p) (k:Nat):(aroundL p k).length≤512*k:=by
 induction k with
 | zero=>simp [aroundL]
 | succ k ih =>
  by_cases hk:k<p.nodes.length
  ·
   rw [aroundL_succ p k hk,List.length_append]
   have:=h.around_len p.nodes[k].id
   omega
  ·
   have:aroundL p (k+1)=aroundL p k:=by
    unfold aroundL
    rw [List.take_of_length_le (by omega),List.take_of_length_le (by omega)]
   rw [this];omega
theorem aroundL_all (p:Pl):aroundL p p.nodes.length=p.nodes.flatMap fun n=>aroundD p n.id:=by
 unfold aroundL;rw [List.take_length]
theorem FolOK.snoc {p:Pl} {F:Int→Int} {L:List Int} (h:FolOK p F L) {d x:Int} (hx:nextD p (-d)=x):FolOK p (fun i=>if i=-d then x else F i) (L++[d]):=by
 intro e he
 by_cases hd:e=d
 · subst hd;simp [hx]
 ·
  have hne:-e≠-d:=by omega
  simp only [List.mem_append,List.mem_singleton,hd,or_false] at he
  simp only [hne,if_false]
  exact h e he
section
variable {p:Pl} (h:Valid p)
include h
theorem Valid.next_around {n:Nd} (hn:n∈p.nodes) {d:Int} (hd:d∈aroundD p n.id):nextD p (-d)=precD (aroundD p n.id) d∧d∈dartsD p:=by
 obtain ⟨h1,h2⟩:=h.dartL_start ((h.around_perm hn).subset hd)
 obtain ⟨n',hn',e,hm,hx⟩:=h.next_eq (neg_dart h1)
 rw [Int.neg_neg] at e hm hx
 exact ⟨by rw [hx,e,h2],h1⟩
theorem Valid.dart_bd {d:Int} (hd:d∈dartsD p):-1073741824≤d∧d≤1073741824:=by
 obtain ⟨a,ha,e⟩:=mem_dartsD.1 hd
 have:=h.id_pos ha
 omega
theorem Valid.asc_all:ascL (aroundL p p.nodes.length)=dartsD p:=by
 rw [aroundL_all]
 exact ascL_of h.all_around h.darts_sorted
theorem Valid.fol_all {F:Int→Int} (hF:FolOK p F (aroundL p p.nodes.length)) {d:Int} (hd:d∈dartsD p):F d=nextD p d:=by
 have h1:-d∈aroundL p p.nodes.length:=by
  rw [aroundL_all]
  exact h.all_around.symm.subset (neg_dart hd)
 have:=hF _ h1
 rwa [Int.neg_neg] at this
theorem Valid.darts_len:(dartsD p).length≤512:=by
 have hl:=h.lim
 unfold limS at hl
 simp only [Bool.or_eq_false_iff,decide_eq_false_iff_not] at hl
 unfold dartsD
 simp only [List.length_append,List.length_reverse,List.length_map]
 omega
theorem Valid.nodes_len:p.nodes.length≤256:=by
 have hl:=h.lim
 unfold limS at hl
 simp only [Bool.or_eq_false_iff,decide_eq_false_iff_not] at hl
 omega
theorem Valid.cyc_k (k:Nat):Cyc (nextD p) (dartsD p) ((dartsD p).take k) (((dartsD p).take k).foldl (cycStep (nextD p) (dartsD p)) []):=by
 have:=cyc_fold (f:=nextD p) (D:=dartsD p) (fun x hx=>(h.next_mem hx).1) (fun x hx y hy=>h.next_inj hx hy) ((dartsD p).take k) [] [] (Cyc.nil _ _) (fun x hx=>List.mem_of_mem_take hx) (by rw [List.nil_append];exact h.darts_sorted.sublist (List.take_sublist _ _))
 rwa [List.nil_append] at this
end
theorem cyc_succ (f:Int→Int) (D:List Int) (k:Nat) (hk:k<D.length):(D.take (k+1)).foldl (cycStep f D) []=cycStep f D ((D.take k).foldl (cycStep f D) []) D[k]:=by
 rw [List.take_succ_eq_append_getElem hk,List.foldl_append]
 rfl
end Go.Proofs.YtnhdmghgjngcaaaGreat
