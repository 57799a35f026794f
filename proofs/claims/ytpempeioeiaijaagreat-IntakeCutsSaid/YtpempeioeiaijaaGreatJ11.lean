import Derived.Test.YtpempeioeiaijaaGreatJ05
import Derived.Test.YtpempeioeiaijaaGreatJ02
import Derived.Test.YtpempeioeiaijaaGreatGB
import Derived.Test.YtpempeioeiaijaaGreatJ10
import Derived.Test.YtpempeioeiaijaaGreatJ07
set_option linter.unusedSimpArgs false
set_option linter.unusedVariables false
namespace Go.Proofs.YtpempeioeiaijaaGreat
open Go.RowKit

set_option maxHeartbeats 400000 in
theorem near_specD (v:Value) (l:List Pt) (w:World) (h:Pts w v l) :
  Calls Tryz.prog 144 #[v] w fun e w'=>e=.returned (.bool (nears l))∧BelowD w w':=by
 obtain ⟨A,c,rfl,hn,hc,hR⟩:=h
 unfold maxLen at hc
 go_enter Tryz.func144,Tryz.ntmps144
 go_wp2_with fail
 go_loopw [7] (fun i wr=>∃ k:Nat,k≤l.length∧i=.int .i64 k∧BelowD w wr∧∀ j (hj:j<l.length),j<k→near1 l[j]=true) (fun i _=>l.length-(intOf i).toNat)
 case atStart => exact ⟨0,Nat.zero_le _,rfl,⟨Below.refl _ _,dR w⟩,fun j _ h=>by omega⟩
 case round =>
  obtain ⟨k,hk,rfl,hb,hno⟩:=hrel
  have Hb:=Lib.hid hb.1
  have Hd:=Lib.hid hb.2
  have Hno:=Lib.hid hno
  have hs:=hb.1.size
  clear hb hno
  by_cases hlt:k<l.length
  ·
   obtain ⟨b,o,rfl,hlb,c0,c1⟩:=(hR.mono Hb.out).pt hlt
   have HR:=Lib.hid hR;clear hR
   by_cases hnr:near1 l[k]=true
   ·
    have Hn:=Lib.hid hnr
    obtain ⟨n1,n2,n3,n4⟩:=(near1_iff _).1 hnr
    clear hnr
    go_wp2
    go_roundw
    case rel => exact ⟨k+1,by omega,by go_num,⟨Hb.out.alloc hs _,dA Hd.out _⟩,all_succ (p:=fun x=>near1 x=true) Hno.out hlt Hn.out⟩
    case measure => simp [intOf];omega
   ·
    have hn':near1 l[k]=false:=by simpa using hnr
    have Hf:=Lib.hid (nears_hit l k hlt hn')
    clear hn'
    have Hnr:=Lib.hid hnr;clear hnr
    go_wp2
    all_goals first
     | (go_ret;exact ⟨ret_bool Hf.out.symm,Hb.out.alloc hs _,dA Hd.out _⟩)
     | (exfalso;exact Hnr.out ((near1_iff _).2 ⟨by omega,by omega,by omega,by omega⟩))
  ·
   go_wp2
   go_ret
   exact ⟨ret_bool (nears_all l fun j hj=>Hno.out j hj (by omega)).symm,Hb.out,Hd.out⟩
set_option maxHeartbeats 400000 in
theorem twice_specD (a b c:Pt) (w:World) (ha:lim a) (hb:lim b) (hc:lim c) :
  Calls Tryz.prog 145 #[ptV a,ptV b,ptV c] w fun e w'=>e=.returned (.int .i64 (tw a b c))∧BelowD w w':=by
 obtain ⟨a1,a2,a3,a4⟩:=ha
 obtain ⟨b1,b2,b3,b4⟩:=hb
 obtain ⟨c1,c2,c3,c4⟩:=hc
 obtain ⟨m1,m2⟩:=mul_bd (b.x-a.x) (c.y-a.y) 4194304 (by omega) (by omega) (by omega) (by omega)
 obtain ⟨m3,m4⟩:=mul_bd (b.y-a.y) (c.x-a.x) 4194304 (by omega) (by omega) (by omega) (by omega)
 simp only [Int.reduceMul,Int.reduceNeg] at m1 m2 m3 m4
 unfold ptV
 go_enter Tryz.func145,Tryz.ntmps145
 go_wp2
 go_ret
 exact ⟨ret_int rfl,(((Below.refl _ _).alloc (Nat.le_refl _) _).alloc (by simp) _).alloc (by simp;omega) _,dA (dA (dA (dR w) _) _) _⟩
set_option maxHeartbeats 1000000 in
theorem lower_spec (o p:Pt) (w:World):Calls Tryz.prog 202 #[ptV o,ptV p] w fun e w'=>e=.returned (.bool (lowS o p))∧BelowD w w':=by
 unfold ptV lowS
 by_cases h1:p.y<o.y
 ·
  go_enter Tryz.func202,Tryz.ntmps202
  go_wp2_with fail
  go_ret
  exact ⟨ret_bool (by simp [h1]),bA (bA (bR w) _) _,dA (dA (dR w) _) _⟩
 ·
  by_cases h2:p.y=o.y
  ·
   have h2':(p.y == o.y)=true:=by simpa using h2
   have H2:=Lib.hid h2
   clear h2
   by_cases h3:p.x<o.x
   ·
    go_enter Tryz.func202,Tryz.ntmps202
    go_wp2_with fail
    go_ret
    exact ⟨ret_bool (by simp [h1,H2.out,h3]),bA (bA (bR w) _) _,dA (dA (dR w) _) _⟩
   ·
    go_enter Tryz.func202,Tryz.ntmps202
    go_wp2_with fail
    go_ret
    exact ⟨ret_bool (by simp [h1,H2.out,h3]),bA (bA (bR w) _) _,dA (dA (dR w) _) _⟩
  ·
   have h2':(p.y == o.y)=false:=by simpa using h2
   have H2:=Lib.hid h2
   clear h2
   go_enter Tryz.func202,Tryz.ntmps202
   go_wp2_with fail
   go_ret
   exact ⟨ret_bool (by simp [h1,H2.out]),bA (bA (bR w) _) _,dA (dA (dR w) _) _⟩
theorem lim_near {p:Pt} (h:near1 p=true):lim p:=(near1_iff p).1 h
theorem nears_lim {a b c:Pt} (h:nears [a,b,c]=true):lim a∧lim b∧lim c:=by
 simp only [nears,List.all_cons,List.all_nil,Bool.and_true,Bool.and_eq_true] at h
 exact ⟨lim_near h.1,lim_near h.2.1,lim_near h.2.2⟩

set_option maxRecDepth 100000 in
set_option maxHeartbeats 4000000 in
theorem Less_spec (o a b:Pt) (w:World):Calls Tryz.prog 162 #[ptV o,ptV a,ptV b] w fun e w'=>e=.returned (.bool (lessS o a b))∧BelowD w w':=by
 have TN:=fun (v:Value) W=>near_specD v [o,a,b] W
 have TL1:=fun W=>lower_spec o a W
 have TL2:=fun W=>lower_spec o b W
 have TT:=fun (h:nears [o,a,b]=true) W=>twice_specD o a b W (nears_lim h).1 (nears_lim h).2.1 (nears_lim h).2.2
 have E1:=run_eql_pt a o
 have E2:=run_eql_pt b o
 obtain ⟨r,hr⟩:∃ r,lessS o a b=r:=⟨_,rfl⟩
 rw [hr]
 unfold lessS at hr
 unfold ptV at TL1 TL2 TT ⊢
 have HN:=Lib.hid TN;have H1:=Lib.hid TL1;have H2:=Lib.hid TL2;have HT:=Lib.hid TT
 clear TN TL1 TL2 TT
 generalize hz:nears [o,a,b]=z at *
 generalize decide (a=o)=z1 at *
 generalize decide (b=o)=z2 at *
 generalize hl1:lowS o a=l1 at *
 generalize hl2:lowS o b=l2 at *
 generalize hq:decide (0<tw o a b)=q at *
 have Hr:=Lib.hid hr;have Hq:=Lib.hid hq;have Hz:=Lib.hid hz
 clear hr hq hz hl1 hl2
 go_enter Tryz.func162,Tryz.ntmps162
 go_wp2_with fail
 have HPts:Hid (Pts ((((w.alloc (.cells #[.int .i64 o.x,.int .i64 o.y] 42)).alloc (.cells #[.int .i64 a.x,.int .i64 a.y] 42)).alloc (.cells #[.int .i64 b.x,.int .i64 b.y] 42)).alloc (.cells #[.int .i64 o.x,.int .i64 o.y,.int .i64 a.x,.int .i64 a.y,.int .i64 b.x,.int .i64 b.y] 42)) (.slice (some ⟨w.heap.size+1+1+1,0,none⟩) 3 3) [o,a,b]):=Lib.hid (Pts.lit3 (Blk.made (by simp) _ _))
 refine (HN.out _ _ HPts.out).mono ?_
 rintro e w1 ⟨rfl,hb1,hd1⟩
 have B1:=Lib.hid (bT (bA (bA (bA (bA (bR w) _) _) _) _) hb1)
 have D1:=Lib.hid (dT (dA (dA (dA (dA (dR w) _) _) _) _) hd1)
 have HX3:=Lib.hid (show Blk w1 w.heap.size 42 #[.int .i64 o.x,.int .i64 o.y] from ((((Blk.made rfl _ _).alloc _).alloc _).alloc _).keep hb1)
 have HX4:=Lib.hid (show Blk w1 (w.heap.size+1) 42 #[.int .i64 a.x,.int .i64 a.y] from (((Blk.made (by simp) _ _).alloc _).alloc _).keep hb1)
 have HX5:=Lib.hid (show Blk w1 (w.heap.size+1+1) 42 #[.int .i64 b.x,.int .i64 b.y] from ((Blk.made (by simp) _ _).alloc _).keep hb1)
 clear hb1 hd1 HPts HN
 have X3:=HX3.out;have X4:=HX4.out;have X5:=HX5.out
 obtain ⟨X3l,X3a,X3b,-,-⟩:=X3.facts2
 obtain ⟨X4l,X4a,X4b,-,-⟩:=X4.facts2
 obtain ⟨X5l,X5a,X5b,-,-⟩:=X5.facts2
 cases z
 case false =>
  go_wp2_with fail
  go_ret
  exact ⟨ret_bool (by rw [← Hr.out];rfl),B1.out,D1.out⟩
 cases z1
 case true =>
  go_wp2_with fail
  go_ret
  exact ⟨ret_bool (by rw [← Hr.out];rfl),B1.out,D1.out⟩
 cases z2
 case true =>
  go_wp2_with fail
  go_ret
  exact ⟨ret_bool (by rw [← Hr.out];rfl),B1.out,D1.out⟩
 have hr:=Hr.out
 simp only [Bool.true_and,Bool.not_false] at hr
 have HT2:=Lib.hid (HT.out rfl)
 clear HT Hr Hz
 go_upto_region 3 with fail
 refine rg_start (Since w1) (.take 0 1 (.take 1 3 (.take 3 11 (.take 4 27 (.call 2 31 (.call 5 63 (.take 6 127 (.done)))))))) (by kernel_rfl) (bD (bR _)) (by kernel_rfl) (by kernel_rfl) (Nat.le_of_ble_eq_true (by kernel_rfl)) ?_
 intro opsR QR Hops HQrg hS
 iterate 4
  apply rg_p;exact Hops;exact rfl;exact hS;exact rfl
  · intro _ hqc;go_simp;try rfl
  try simp only [pu]
 refine rg_call (i:=2) (get_of Hops rfl) (fun K hK=>?_)
 have HSrg:=Lib.hid hS;clear hS
 refine rg_run (wanted_plain rfl) ?_
 go_simp
 refine (H1.out _).mono ?_
 rintro e wr1 ⟨rfl,hbr1,hdr1⟩
 have hS:Since w1 wr1:=bT (w:=w1) HSrg.out hbr1
 clear HSrg
 refine hK.out _ _ hS (fun _=>?_)
 clear hK K
 try simp only [pu]
 refine rg_call (i:=5) (get_of Hops rfl) (fun K hK=>?_)
 have HSrg:=Lib.hid hS;clear hS
 refine rg_run (wanted_plain rfl) ?_
 go_simp
 refine (H2.out _).mono ?_
 rintro e wr2 ⟨rfl,hbr2,hdr2⟩
 have hS:Since w1 wr2:=bT (w:=w1) HSrg.out hbr2
 clear HSrg
 refine hK.out _ _ hS (fun _=>?_)
 clear hK K
 try simp only [pu]
 apply rg_p;exact Hops;exact rfl;exact hS;exact rfl
 · intro _ hqc;go_simp;try rfl
 try simp only [pu]
 refine rg_done ?_
 refine HQrg.down _ _ ?_
 have hB:Below w1.heap.size w1 wr2:=hS
 clear hS HQrg Hops
 have B2:=Lib.hid (bT B1.out hB)
 have D2:=Lib.hid (dT (dT (dD D1.out) hdr1) hdr2)
 replace HX3:=Lib.hid (HX3.out.keep hB)
 replace HX4:=Lib.hid (HX4.out.keep hB)
 replace HX5:=Lib.hid (HX5.out.keep hB)
 clear hB hdr1 hdr2 X3 X4 X5 X3l X3a X3b X4l X4a X4b X5l X5a X5b
 have X3:=HX3.out;have X4:=HX4.out;have X5:=HX5.out
 try clear X3l
 try clear X3a
 try clear X3b
 obtain ⟨X3l,X3a,X3b,-,-⟩:=X3.facts2
 try clear X4l
 try clear X4a
 try clear X4b
 obtain ⟨X4l,X4a,X4b,-,-⟩:=X4.facts2
 try clear X5l
 try clear X5a
 try clear X5b
 obtain ⟨X5l,X5a,X5b,-,-⟩:=X5.facts2
 by_cases hl:l1=l2
 ·
  subst hl
  rw [if_pos rfl] at hr
  have Hr:=Lib.hid hr
  clear hr
  cases l1
  all_goals
   go_wp2_with fail
   refine (HT2.out _).mono ?_
   rintro e w3 ⟨rfl,hb3,hd3⟩
   have B3:=Lib.hid (bT B2.out hb3)
   have D3:=Lib.hid (dT D2.out hd3)
   clear hb3 hd3
   go_wp2_with fail
   go_ret
   exact ⟨ret_bool (by rw [← Hr.out,← Hq.out]),B3.out,D3.out⟩
 ·
  rw [if_neg hl] at hr
  have Hr:=Lib.hid hr
  have hl2:l2 = !l1:=by cases l1<;>cases l2<;>simp_all
  clear hl hr
  subst hl2
  cases l1
  all_goals
   go_wp2_with fail
   refine (H2.out _).mono ?_
   rintro e w3 ⟨rfl,hb3,hd3⟩
   have B3:=Lib.hid (bT B2.out hb3)
   have D3:=Lib.hid (dT D2.out hd3)
   clear hb3 hd3
   go_wp2_with fail
   go_ret
   exact ⟨ret_bool Hr.out,B3.out,D3.out⟩

end Go.Proofs.YtpempeioeiaijaaGreat
namespace Go.Proofs.YtpempeioeiaijaaGreat
open Go.RowKit Go.Sort

theorem Own.shape {α:Type} {w:World} {base:Nat} {e:TypeId} {size:Nat} {f:α→List Value} {v:Value} {l:List α} (h:Own w base e size f v l):∃ A c,v=.slice A l.length c∧l.length≤c∧c≤maxLen:=by
 obtain ⟨A,c,rfl,h1,h2,-⟩:=Own.sl h
 exact ⟨A,c,rfl,h1,h2⟩
structure Arnd (w:World) (B g4 g7 gm n:Nat) (dl:List Int) (f:Int→Pt) (v:Value):Prop where
 x4:Blk w g4 32 #[v]
 own:Own w B 3 1 inC v dl
 x7:Blk w g7 128 #[.map (some gm)]
 mp:MapPts w gm n f
 b4:B≤g4
 bm:B≤gm
theorem map_ne {w:World} {gm n:Nat} {f:Int→Pt} (h:MapPts w gm n f) {g:Nat} {t:TypeId} {cs:Array Value} (hg:Blk w g t cs):g≠gm:=by
 rintro rfl
 obtain ⟨D,h1,-⟩:=h
 obtain ⟨es,clock,h2,-⟩:=h1
 unfold Blk at hg
 rw [hg] at h2
 cases h2
theorem map_own {w:World} {gm n:Nat} {f:Int→Pt} (h:MapPts w gm n f) {base:Nat} {e:TypeId} {size:Nat} {α:Type} {fe:α→List Value} {v:Value} {l:List α} (ho:Own w base e size fe v l):v.ownBlock≠some gm:=by
 rcases ho.2 with ⟨rfl,_⟩ | ⟨g,cap,cur,rfl,_,hh,_⟩
 · simp [Value.ownBlock]
 ·
  intro e'
  exact map_ne h (cs:=cur) (g:=g) hh (by simpa [Value.ownBlock] using e')

set_option maxRecDepth 100000 in
set_option maxHeartbeats 4000000 in
theorem addD_spec (d:Int) (q:Pt) (B g4 g7 gm n:Nat) (dl:List Int) (f:Int→Pt) (v:Value) (w:World) (h:Arnd w B g4 g7 gm n dl f v) (hB:B≤w.heap.size) (hn:n<4294967296) (hl:dl.length≤1000000) (hd:wfI d) :
  Calls Tryz.prog 159 #[.int .i64 d,.agg #[.int .i64 q.x,.int .i64 q.y],.pointer (some ⟨g4,0,none⟩),.pointer (some ⟨g7,0,none⟩)] w fun e w'=>e=.returned (.tuple #[])∧(∃ v',Arnd w' B g4 g7 gm (n+1) (dl++[d]) (fun i=>if i=d then q else f i) v')∧Below B w w'∧∀ g t cs,Blk w g t cs→g≠g4→g≠gm→v.ownBlock≠some g→Blk w' g t cs:=by
 obtain ⟨x4,own,x7,mp,b4,bm⟩:=h
 obtain ⟨A,c,rfl,-⟩:=Own.shape own
 have HX4:=Lib.hid x4;have HO:=Lib.hid own;have HX7:=Lib.hid x7;have HM:=Lib.hid mp
 have n47:g4≠g7:=Blk.ne_ x4 x7 (by decide)
 have n4m:=map_ne mp x4
 have n7m:=map_ne mp x7
 have no4:=Own.ne_blk own x4 (by decide)
 have no7:=Own.ne_blk own x7 (by decide)
 have nom:=map_own mp own
 clear own mp
 have HWf:=Lib.hid hd
 clear hd
 have X4:=x4;have X7:=x7
 clear x4 x7
 obtain ⟨X4l,X4a,X4fa⟩:=X4.facts1
 obtain ⟨X7l,X7a,-⟩:=X7.facts1
 go_enter Tryz.func159,Tryz.ntmps159
 go_upto_region 1 with fail
 obtain ⟨W0,hW⟩:∃ W:World,W=w.alloc (.cells #[.int .i64 q.x,.int .i64 q.y] 42):=⟨_,rfl⟩
 have hA0:Below w.heap.size w W0:=by rw [hW];exact bA (bR w) _
 have X5:Blk W0 w.heap.size 42 #[.int .i64 q.x,.int .i64 q.y]:=by rw [hW];exact Blk.made rfl _ _
 rw [← hW]
 clear hW
 replace X4:=X4.keep hA0
 replace X7:=X7.keep hA0
 have HO0:=Lib.hid (HO.out.keep hA0)
 have HM0:=Lib.hid (HM.out.keep hA0)
 have HA0:=Lib.hid hA0
 have hlt4:g4<w.heap.size:=HX4.out.lt
 have hz0:=hA0.size
 clear hA0 X4l X4a X4fa X7l X7a
 try clear X4l
 try clear X4a
 try clear X4fa
 obtain ⟨X4l,X4a,X4fa⟩:=X4.facts1
 obtain ⟨X5l,X5a,X5b,-,-⟩:=X5.facts2
 try clear X7l
 try clear X7a
 obtain ⟨X7l,X7a,-⟩:=X7.facts1
 have n54:w.heap.size≠g4:=by omega
 have n57:w.heap.size≠g7:=by have:=HX7.out.lt;omega
 have hmlt:=HM.out.lt
 go_upto_region 2 with
  (at_builtin
   refine wpList_appl _ rfl (.tmp 6) (.tmp 8) _ rfl (base:=B) elem_in inC_len inC_one rfl (Own.alloc HO0.out _) rfl (l2:=[d]) (Sl.lit (n:=1) (Blk.made rfl _ _) rfl (le_maxLen (by omega))) (by simp only [List.length_cons,List.length_nil];omega) (by simp only [List.length_cons,List.length_nil];omega) (by simp;omega) ?_
   intro v1 w1 ho1 hg1 hat1
   obtain ⟨A1,c1,hv1,-⟩:=Own.shape ho1
   rw [show (dl++[d]).length=dl.length+1 by simp] at hv1
   subst hv1
   have HO1:=Lib.hid ho1
   have hB1:Below B W0 w1:=Below.grown (Below.alloc (Below.refl _ _) (by omega) _) hg1 (by simp;omega) (fun g hg=>(HO0.out.lt g hg).1)
   have HB1:=Lib.hid hB1
   have no5:some w.heap.size≠(Value.slice A dl.length c).ownBlock:=fun e=>by have:=(HO.out.lt _ e.symm).2;omega
   replace X4:=Blk.grown (X4.alloc _) hg1 (fun e=>no4 e.symm)
   replace X5:=Blk.grown (X5.alloc _) hg1 no5
   replace X7:=Blk.grown (X7.alloc _) hg1 (fun e=>no7 e.symm)
   have HM1:=Lib.hid ((HM0.out.keep (bA (bR W0) _)).kept hg1 (fun e=>nom e.symm))
   have HK1:=Lib.hid (fun g t cs (h:Blk w g t cs) (hne:(Value.slice A dl.length c).ownBlock≠some g)=>Blk.grown ((h.keep HA0.out).alloc (.cells #[.int .i64 d] 3)) hg1 (fun e=>hne e.symm))
   clear ho1 hg1 hat1 hB1 X4l X4a X4fa X5l X5a X5b X7l X7a
   try clear X4l
   try clear X4a
   try clear X4fa
   obtain ⟨X4l,X4a,X4fa⟩:=X4.facts1
   try clear X5l
   try clear X5a
   try clear X5b
   obtain ⟨X5l,X5a,X5b,-,-⟩:=X5.facts2
   try clear X7l
   try clear X7a
   obtain ⟨X7l,X7a,-⟩:=X7.facts1
   )
 obtain ⟨W2,hW2⟩:∃ W:World,W=w1.setCell ⟨g4,0,none⟩ (.slice A1 (dl.length+1) c1):=⟨_,rfl⟩
 have no14:=Own.ne_blk HO1.out X4 (by decide)
 have Y4:Blk W2 g4 32 #[.slice A1 (dl.length+1) c1]:=by rw [hW2];exact Blk.put1 X4
 have Y7:Blk W2 g7 128 #[.map (some gm)]:=by rw [hW2];exact X7.far (fun e=>n47 e.symm) _
 have Y5:Blk W2 w.heap.size 42 #[.int .i64 q.x,.int .i64 q.y]:=by rw [hW2];exact X5.far n54 _
 have YO:Own W2 B 3 1 inC (.slice A1 (dl.length+1) c1) (dl++[d]):=by rw [hW2];exact HO1.out.far no14 _
 have YM:MapPts W2 gm n f:=by
  rw [hW2]
  exact HM1.out.kept (row:=some g4) ⟨rfl,rfl,rfl,by simp,fun i _ hne=>Below.heap_setCell w1 ⟨g4,0,none⟩ _ i (fun e=>hne (by rw [e]))⟩ (fun e=>n4m (Option.some.inj e).symm)
 have YB:Below B w W2:=by rw [hW2];exact (Below.trans (HA0.out.mono hB) HB1.out).setCell b4 _
 rw [← hW2]
 clear X4 X5 X7 X4l X4a X4fa X5l X5a X5b X7l X7a
 obtain ⟨w3,hr3,hm3,hg3⟩:=YM.upd hn d HWf.out q
 have Z4:=Lib.hid (Blk.grown Y4 hg3 (fun e=>n4m (Option.some.inj e)))
 have Z7:=Lib.hid (Blk.grown Y7 hg3 (fun e=>n7m (Option.some.inj e)))
 have ZO:=Lib.hid (Own.grown YO hg3 (fun g' hg' e=>map_own YM YO (by rw [hg',e])))
 have ZM:=Lib.hid hm3
 have ZB:=Lib.hid (YB.grown hg3 (by have:=YB.size;omega) (fun g hg=>by have:=Option.some.inj hg;omega))
 have HK:=Lib.hid (show ∀ g t cs,Blk w g t cs→g≠g4→g≠gm→(Value.slice A dl.length c).ownBlock≠some g→Blk w3 g t cs from fun g t cs h h4 hm' ho=>by
  refine Blk.grown ?_ hg3 (fun e=>hm' (Option.some.inj e))
  rw [hW2]
  exact (HK1.out g t cs h ho).far h4 _)
 unfold ptV at hr3
 clear hm3 hg3 YO YM YB Y4 hW2
 obtain ⟨Y5l,Y5a,Y5b,-,-⟩:=Y5.facts2
 obtain ⟨Y7l,Y7a,-⟩:=Y7.facts1
 go_wp2_with fail
 exact bodyPost_end (v:=.tuple #[]) (results_none rfl _ _ _) rfl ⟨rfl,⟨_,Z4.out,ZO.out,Z7.out,ZM.out,b4,bm⟩,ZB.out,HK.out⟩

def cmpZ (z1 z2:Bool):Int:=if z1 then -1 else if z2 then 1 else 0
set_option maxRecDepth 100000 in
set_option maxHeartbeats 4000000 in
theorem cmpD_spec (nd:Nd) (x y:Int) (g5 g7 gm n:Nat) (f:Int→Pt) (w:World) (h5:Blk w g5 47 #[.int .i64 nd.id,.int .i64 nd.pt.x,.int .i64 nd.pt.y]) (h7:Blk w g7 128 #[.map (some gm)]) (hm:MapPts w gm n f) (hx:wfI x) (hy:wfI y) :
  Calls Tryz.prog 161 #[.int .i64 x,.int .i64 y,.pointer (some ⟨g5,0,none⟩),.pointer (some ⟨g7,0,none⟩)] w fun e w'=>e=.returned (.int .i64 (cmpOf (fun a b=>lessS nd.pt (f a) (f b)) x y))∧BelowD w w':=by
 have T1:=fun W=>Less_spec nd.pt (f x) (f y) W
 have T2:=fun W=>Less_spec nd.pt (f y) (f x) W
 have L1:=hm.look x hx
 have L2:=hm.look y hy
 have HM:=Lib.hid hm
 have H5:=Lib.hid h5;have H7:=Lib.hid h7
 unfold ptV at T1 T2 L1 L2
 have HX:=Lib.hid hx;have HY:=Lib.hid hy
 obtain ⟨r,hr⟩:∃ r,cmpOf (fun a b=>lessS nd.pt (f a) (f b)) x y=r:=⟨_,rfl⟩
 rw [hr]
 replace hr:cmpZ (lessS nd.pt (f x) (f y)) (lessS nd.pt (f y) (f x))=r:=hr
 obtain ⟨z1,hz1⟩:∃ z1,lessS nd.pt (f x) (f y)=z1:=⟨_,rfl⟩
 obtain ⟨z2,hz2⟩:∃ z2,lessS nd.pt (f y) (f x)=z2:=⟨_,rfl⟩
 rw [hz1] at T1 hr
 rw [hz2] at T2 hr
 have Hr:=Lib.hid hr
 have H1:=Lib.hid T1;have H2:=Lib.hid T2
 clear T1 T2 hm hx hy hz1 hz2 hr
 have X5:=h5;have X7:=h7
 clear h5 h7
 obtain ⟨X5l,X5a,X5b,X5c,-,-,-⟩:=X5.facts3
 obtain ⟨X7l,X7a,-⟩:=X7.facts1
 go_enter Tryz.func161,Tryz.ntmps161
 go_wp2_with fail
 refine (H1.out _).mono ?_
 rintro e w1 ⟨rfl,hb1,hd1⟩
 have B1:=Lib.hid hb1;have D1:=Lib.hid hd1
 clear hb1 hd1 X5 X7 X5l X5a X5b X5c X7l X7a L1 L2
 cases z1
 case true =>
  go_wp2_with fail
  go_ret
  exact ⟨ret_int (by rw [← Hr.out];rfl),B1.out,D1.out⟩
 have X5:=H5.out.keep B1.out
 have X7:=H7.out.keep B1.out
 have HM1:=HM.out.keep B1.out
 have L1:=HM1.look x HX.out
 have L2:=HM1.look y HY.out
 unfold ptV at L1 L2
 clear HM1
 try clear X5l
 try clear X5a
 try clear X5b
 try clear X5c
 obtain ⟨X5l,X5a,X5b,X5c,-,-,-⟩:=X5.facts3
 try clear X7l
 try clear X7a
 obtain ⟨X7l,X7a,-⟩:=X7.facts1
 go_wp2_with fail
 refine (H2.out _).mono ?_
 rintro e w2 ⟨rfl,hb2,hd2⟩
 have B2:=Lib.hid (bT B1.out hb2);have D2:=Lib.hid (dT D1.out hd2)
 clear hb2 hd2 X5 X7 X5l X5a X5b X5c X7l X7a L1 L2
 cases z2
 ·
  go_wp2_with fail
  go_ret
  exact ⟨ret_int (by rw [← Hr.out];rfl),B2.out,D2.out⟩
 ·
  go_wp2_with fail
  go_ret
  exact ⟨ret_int (by rw [← Hr.out];rfl),B2.out,D2.out⟩
end Go.Proofs.YtpempeioeiaijaaGreat
namespace Go.Proofs.YtpempeioeiaijaaGreat
open Go.RowKit Go.Sort

theorem res_cell1 {P:Program} {fn:Func} {p:Tmp} {ty t:TypeId} {R:Ending→World→Prop} {a:Act} {w:World} {g:Nat} {v:Value} (h:fn.results=#[.cell p ty])
  (hS:∀ w,(isAgg ty).run P w=.ok false w) (hp:a.tmps.getD p undef=.pointer (some ⟨g,0,none⟩)) (hd:a.defers=[]) (hb:Blk w g t #[v]) (hR:R (.returned v) w):bodyPost P fn R .ret a w:=by
 refine bodyPost_ret ?_ hd hR
 have hp':a.tmps[p]?.getD undef=.pointer (some ⟨g,0,none⟩):=by simpa using hp
 have hc:w.cell? ⟨g,0,none⟩=some v:=by rw [hb.cell];rfl
 simp only [results,h]
 simp [hp',asAddr,loadVar,Sem.run_bind,Sem.run_pure,Result.andThen,hS,hc]
theorem isAgg_ints:∀ w,(isAgg 32).run Tryz.prog w=.ok false w:=fun _=>by kernel_rfl
def RetOwnI (w:World) (l:List Int) (e:Ending) (w':World):Prop :=
 ∃ A c,e=.returned (.slice A l.length c)∧Below w.heap.size w w'∧Own w' w.heap.size 3 1 inC (.slice A l.length c) l
theorem Valid.dart_wf {p:Pl} (h:Valid p) {n d:Int} (hd:d∈dartL p.arcs n):wfI d:=by
 obtain ⟨a,ha,e⟩:=mem_dartL.1 hd
 have:=h.id_pos ha
 rcases e with ⟨rfl,-⟩ | ⟨rfl,-⟩
 · exact wfI_of (by omega) (by omega)
 · exact wfI_of (by omega) (by omega)
theorem dartL_take (l:List Ar) (n:Int) (k:Nat) (hk:k<l.length):dartL (l.take (k+1)) n=dartL (l.take k) n++((if l[k].fr=n then [l[k].id] else [])++(if l[k].dst=n then [-l[k].id] else [])):=by
 unfold dartL
 rw [List.take_succ_eq_append_getElem hk,List.flatMap_append]
 simp
theorem dartL_len (l:List Ar) (n:Int):(dartL l n).length≤2*l.length:=by
 unfold dartL
 induction l with
 | nil=>simp
 | cons a l ih =>
  rw [List.flatMap_cons,List.length_append,List.length_append,List.length_cons]
  have h1:(if a.fr=n then [a.id] else []).length≤1:=by split<;>simp
  have h2:(if a.dst=n then [-a.id] else []).length≤1:=by split<;>simp
  omega

theorem Own.kept_ {α:Type} {w w':World} {base:Nat} {e:TypeId} {size:Nat} {f:α→List Value} {v:Value} {l:List α} (h:Own w base e size f v l) (hk:∀ g t cs,base≤g→Blk w g t cs→Blk w' g t cs):Own w' base e size f v l:=by
 obtain ⟨h1,h2⟩:=h
 refine ⟨h1,?_⟩
 rcases h2 with h2 | ⟨g,cap,cur,hv,hg,hh,r⟩
 · exact .inl h2
 ·
  subst hv
  exact .inr ⟨g,cap,cur,rfl,hg,hk g e cur hg hh,r⟩
theorem map_step {p:Pl} {D:List Int} {f:Int→Pt} (h:∀ d∈D,f d=toD p d) {x:Int} {q:Pt} (hx:toD p x=q):∀ d∈D++[x],(fun i=>if i=x then q else f i) d=toD p d:=by
 intro d hd
 by_cases e:d=x
 · subst e;simp [hx]
 ·
  simp only [List.mem_append,List.mem_singleton,e,or_false] at hd
  simp [e,h d hd]
theorem Own.row_pt {w:World} {base:Nat} {A:Option Addr} {n c:Nat} {l:List Pt} (h:Own w base 42 2 ptC (.slice A n c) l):Row w A (l.flatMap ptC):=by
 obtain ⟨A',c',he,_,_,hr⟩:=h.sl
 injection he with e1 e2 e3
 subst e1
 exact hr
theorem Arnd.keep {w w':World} {B g4 g7 gm n:Nat} {dl:List Int} {f:Int→Pt} {v:Value} (h:Arnd w B g4 g7 gm n dl f v) (hb:Below w.heap.size w w'):Arnd w' B g4 g7 gm n dl f v :=
 ⟨h.x4.keep hb,h.own.keep hb,h.x7.keep hb,h.mp.keep hb,h.b4,h.bm⟩

set_option maxRecDepth 100000 in
set_option maxHeartbeats 8000000 in
theorem Around_spec (v:Value) (p:Pl) (n:Int) (w:World) (h:PlV w v p) (hv:Valid p) :
  Calls Tryz.prog 119 #[v,.int .i64 n] w (RetOwnI w (aroundD p n)):=by
 have HNd:=Lib.hid (fun W (hW:Below w.heap.size w W)=>Node_spec v p n W (h.mono hW))
 have HPth:=Lib.hid (fun id W (hW:Below w.heap.size w W)=>Path_spec v p id W (h.mono hW) hv.short)
 obtain ⟨_,_,_,al,rfl,hpa,⟨An,cn,rfl,-⟩,⟨⟨Aa,ca,rfl,hn1,hn2,hR⟩,hVi⟩,⟨Af,cf,rfl,-⟩⟩:=h
 unfold maxLen at hn2
 have HR:=Lib.hid hR;have HVi:=Lib.hid hVi
 have HV:=Lib.hid hv
 have HPa:=Lib.hid hpa
 generalize hnn:p.nodes.length=nn at *
 generalize p.faces.length=nf at *
 obtain ⟨q,hq⟩:∃ q,aroundD p n=q:=⟨_,rfl⟩
 rw [hq]
 have Hq:=Lib.hid hq
 have hall:al.length≤256:=by
  have hl:=hv.lim
  unfold limS at hl
  simp only [Bool.or_eq_false_iff,decide_eq_false_iff_not] at hl
  have h2:=hl.2
  rw [hpa,List.length_map] at h2
  omega
 clear hpa hR hVi hv hq hnn
 go_enter Tryz.func119,Tryz.ntmps119
 go_wp2_with fail
 refine (HNd.out _ (bA (bA (bR w) _) _)).mono ?_
 rintro e w1 ⟨rfl,hb1⟩
 have X2:Blk w1 w.heap.size 34 #[.slice An nn cn,.slice Aa al.length ca,.slice Af nf cf]:=((Blk.made rfl _ _).alloc _).keep hb1
 have X4:Blk w1 (w.heap.size+1) 32 #[.slice none 0 0]:=(Blk.made (by simp) _ _).keep hb1
 have B1:=Lib.hid (bT (bA (bA (bR w) _) _) hb1)
 clear hb1
 unfold ndRes ndV
 cases hfn:findNd p.nodes n with
 | none =>
  have hf:q=[]:=by rw [← Hq.out];unfold aroundD;rw [hfn]
  subst hf
  clear hfn
  simp only [Option.getD_none,Option.isSome_none]
  obtain ⟨X4l,X4a,X4fa⟩:=X4.facts1
  go_wp2_with fail
  refine res_cell1 (g:=w.heap.size+1) (v:=.slice none 0 0) rfl isAgg_ints rfl rfl ((Blk.put1 X4).alloc _) ⟨none,0,rfl,?_,Own.nil _ _ _ _ _⟩
  have Bw:=B1.out
  repeat (first | with_reducible exact bR _ | with_reducible assumption | with_reducible refine bA ?_ _ | with_reducible refine bD ?_ | with_reducible refine bN ?_ _ | ((with_reducible refine bS ?_ ?_ _);rotate_left;(simp;try omega)) | ((with_reducible refine bT ?_ ?_);rotate_left;with_reducible assumption) | with_reducible refine bT ?_ (by assumption))
 | some nd =>
  have hnd:nd∈p.nodes∧nd.id=n:=⟨List.mem_of_find?_eq_some hfn,by have:=List.find?_some hfn;simpa using this⟩
  obtain ⟨hnm,rfl⟩:=hnd
  have hAr:=HV.out.around_eq hnm
  rw [Hq.out] at hAr
  have HAr:=Lib.hid hAr
  have HNm:=Lib.hid hnm
  clear hfn hAr hnm Hq
  simp only [Option.getD_some,Option.isSome_some]
  obtain ⟨X2l,X2a,X2b,X2c,-,-,-⟩:=X2.facts3
  try clear X4l
  try clear X4a
  try clear X4fa
  obtain ⟨X4l,X4a,X4fa⟩:=X4.facts1
  have HM0:=Lib.hid (MapPts.made (w1.alloc (.cells #[.int .i64 nd.id,.int .i64 nd.pt.x,.int .i64 nd.pt.y] 47)))
  have hmm:=@run_makeMap Tryz.prog
  go_upto_region 5 with fail
  obtain ⟨W5,hW⟩:∃ W:World,W=((w1.alloc (.cells #[.int .i64 nd.id,.int .i64 nd.pt.x,.int .i64 nd.pt.y] 47)).alloc (.map #[] 0)).alloc (.cells #[.map (some (w1.heap.size+1))] 128):=⟨_,rfl⟩
  have hA:Below w1.heap.size w1 W5:=by rw [hW];exact bA (bA (bA (bR w1) _) _) _
  have HX5:=Lib.hid (show Blk W5 w1.heap.size 47 #[.int .i64 nd.id,.int .i64 nd.pt.x,.int .i64 nd.pt.y] by rw [hW];exact ((Blk.made rfl _ _).alloc _).alloc _)
  have HX7:=Lib.hid (show Blk W5 (w1.heap.size+1+1) 128 #[.map (some (w1.heap.size+1))] by rw [hW];exact Blk.made (by simp) _ _)
  have HM5:=Lib.hid (show MapPts W5 (w1.heap.size+1) 0 (fun _=>z0) by
   rw [hW]
   have h1:=HM0.out
   rw [show (w1.alloc (.cells #[.int .i64 nd.id,.int .i64 nd.pt.x,.int .i64 nd.pt.y] 47)).heap.size=w1.heap.size+1 by simp] at h1
   exact h1.keep (bA (bR _) _))
  have HX2:=Lib.hid (X2.keep hA)
  have HX4:=Lib.hid (X4.keep hA)
  have B5:=Lib.hid (bT B1.out hA)
  have hz1:w.heap.size+2≤w1.heap.size:=by have:=X4.lt;omega
  rw [← hW]
  clear hW hA X2 X4 X2l X2a X2b X2c X4l X4a X4fa HM0 hmm
  obtain ⟨g5,hg5⟩:∃ g5,w1.heap.size=g5:=⟨_,rfl⟩
  rw [hg5] at HX5 HX7 HM5 hz1 ⊢
  clear hg5
  have X2:=HX2.out
  try clear X2l
  try clear X2a
  try clear X2b
  try clear X2c
  obtain ⟨X2l,X2a,X2b,X2c,-,-,-⟩:=X2.facts3
  have HAd:=Lib.hid (@addD_spec)
  go_upto_block 0 with fail
  go_wp2_with fail
  go_loopw [26] (fun i wr=>∃ (k:Nat) (f:Int→Pt) (vl:Value) (cnt:Nat),k≤al.length∧i=.int .i64 k∧cnt≤2*k∧Arnd wr (w.heap.size+1) (w.heap.size+1) (g5+1+1) (g5+1) cnt (dartL (p.arcs.take k) nd.id) f vl∧(∀ d∈dartL (p.arcs.take k) nd.id,f d=toD p d)∧Below w.heap.size w wr∧Blk wr w.heap.size 34 #[.slice An nn cn,.slice Aa al.length ca,.slice Af nf cf]∧Blk wr g5 47 #[.int .i64 nd.id,.int .i64 nd.pt.x,.int .i64 nd.pt.y]) (fun i _=>al.length-(intOf i).toNat)
  case atStart => exact ⟨0,fun _=>z0,.slice none 0 0,0,Nat.zero_le _,rfl,by omega,⟨HX4.out,Own.nil _ _ _ _ _,HX7.out,HM5.out,by omega,by omega⟩,(fun d h=>by simp [dartL] at h),B5.out,HX2.out,HX5.out⟩
  case round =>
   obtain ⟨k,f,vl,cnt,hk,rfl,hcnt,harn,hf,hb,X2,X5⟩:=hrel
   have Hb:=Lib.hid hb
   have HArn:=Lib.hid harn
   have Hf:=Lib.hid hf
   have HX2:=Lib.hid X2
   have HX5:=Lib.hid X5
   clear hb harn hf
   try clear X2l
   try clear X2a
   try clear X2b
   try clear X2c
   obtain ⟨X2l,X2a,X2b,X2c,-,-,-⟩:=X2.facts3
   have hzr:=Hb.out.size
   have h5lt:g5+1+1<wr.heap.size:=HArn.out.x7.lt
   by_cases hlt:k<al.length
   case neg =>
    have hkk:k=al.length:=by omega
    have ht:p.arcs.take k=p.arcs:=List.take_of_length_le (by rw [HPa.out,List.length_map];omega)
    rw [ht] at HArn Hf
    have HF:=Hf
    clear ht
    subst hkk
    obtain ⟨x4,own,x7,mp,b4,bm⟩:=HArn.out
    obtain ⟨A,c,rfl,-⟩:=Own.shape own
    have hlen:=dartL_len p.arcs nd.id
    rw [show p.arcs.length=al.length by rw [HPa.out,List.length_map]] at hlen
    have HS:=Lib.hid (Sort_in_spec (w.heap.size+1) _ (dartL p.arcs nd.id) (ltD p nd.pt) 161 #[.pointer (some ⟨g5,0,none⟩),.pointer (some ⟨g5+1+1,0,none⟩)] wr own (HV.out.ordOn HNm.out) (by omega) (enters_of Tryz.func161 (by kernel_rfl) rfl)
     (fun W hW x hx y hy=>by
      have h:=cmpD_spec nd x y g5 (g5+1+1) (g5+1) cnt f W (HX5.out.grown hW (fun e=>Own.ne_blk own HX5.out (by decide) e.symm)) (x7.grown hW (fun e=>Own.ne_blk own x7 (by decide) e.symm)) (mp.kept hW (fun e=>map_own mp own e.symm)) (HV.out.dart_wf hx) (HV.out.dart_wf hy)
      have he:cmpOf (fun a b=>lessS nd.pt (f a) (f b)) x y=cmpOf (ltD p nd.pt) x y:=by
       unfold cmpOf ltD
       simp only [HF.out x hx,HF.out y hy]
      rw [he] at h
      exact h))
    have no4:=Own.ne_blk own x4 (by decide)
    have hown:=Own.lt own
    have HOl:=Lib.hid hown
    have HB4:=Lib.hid b4
    have X4:=x4
    have HX4r:=Lib.hid x4
    have HNo:=Lib.hid no4
    have hpm:(sortB (ltD p nd.pt) (dartL p.arcs nd.id)).length=(dartL p.arcs nd.id).length:=((sortB_facts (HV.out.ordOn HNm.out)).1).length_eq
    rw [← HAr.out] at hpm HS
    have HPm:=Lib.hid hpm
    clear x4 own x7 mp b4 bm no4 hown hpm hlen HF Hf HArn
    generalize dartL p.arcs nd.id=D at *
    try clear X4l
    try clear X4a
    try clear X4fa
    obtain ⟨X4l,X4a,X4fa⟩:=X4.facts1
    go_wp2_with fail
    refine HS.out.mono ?_
    rintro e ws ⟨rfl,hos,hgs⟩
    have Y4:=Blk.grown X4 hgs (fun e=>HNo.out e.symm)
    have HOs:=Lib.hid hos
    have HBs:=Lib.hid (show Below (w.heap.size+1) wr ws from Below.grown (Below.refl _ _) hgs (by omega) (fun g hg=>(HOl.out g hg).1))
    clear hos hgs X4 X4l X4a X4fa X2 X2l X2a X2b X2c
    have X4:=Y4
    clear Y4
    try clear X4l
    try clear X4a
    try clear X4fa
    obtain ⟨X4l,X4a,X4fa⟩:=X4.facts1
    go_wp2_with fail
    have ho:=HOs.out
    rw [← HPm.out] at ho ⊢
    refine res_cell1 (g:=w.heap.size+1) (v:=.slice A q.length c) rfl isAgg_ints rfl rfl (Blk.put1 X4) ⟨A,c,rfl,?_,(ho.far (p:=⟨w.heap.size+1,0,none⟩) (by rw [HPm.out];exact HNo.out) _).mono_base (by omega)⟩
    exact (Below.trans Hb.out (HBs.out.mono (by omega))).setCell (by show w.heap.size≤w.heap.size+1;omega) _
   obtain ⟨b,o,rfl,hlb,c0,c1,c2,c3,c4,c5⟩:=(HR.out.mono Hb.out).ar hlt
   have ham:al[k].1∈p.arcs:=by rw [HPa.out];exact List.mem_map_of_mem (List.getElem_mem hlt)
   have hst:dartL (p.arcs.take (k+1)) nd.id=dartL (p.arcs.take k) nd.id++((if al[k].1.fr=nd.id then [al[k].1.id] else [])++(if al[k].1.dst=nd.id then [-al[k].1.id] else [])):=by
    have h1:k<p.arcs.length:=by rw [HPa.out,List.length_map];exact hlt
    have h2:=dartL_take p.arcs nd.id k h1
    have h3:p.arcs[k]=al[k].1:=by simp only [HPa.out,List.getElem_map]
    rw [h3] at h2;exact h2
   obtain ⟨Av,cv,hv,-⟩:=HVi.out k hlt
   rw [hv] at c3
   have hpo:=HV.out.path_of (HV.out.arcD_pos ham)
   have hid:=HV.out.id_pos ham
   rw [show absI al[k].1.id=al[k].1.id by unfold absI;rw [if_neg (by omega)]] at hpo
   have HPt:=Lib.hid (HPth.out al[k].1.id)
   rw [hpo] at HPt
   unfold RetPathE at HPt
   simp only [Option.getD_some,Option.isSome_some,if_true] at HPt
   have hto1:=HV.out.to_pos ham
   have hto2:=HV.out.to_neg ham
   have hpl:=pathS_length p al[k].1
   have hvl:=HV.out.via_len ham
   have hlen:=dartL_len (p.arcs.take k) nd.id
   have hlen2:(p.arcs.take k).length≤k:=List.length_take_le _ _
   have HSt:=Lib.hid hst
   have HTo1:=Lib.hid hto1
   have HTo2:=Lib.hid hto2
   have HLen:=Lib.hid (show (dartL (p.arcs.take k) nd.id).length≤512 by omega)
   clear hst hto1 hto2 hpo hv ham hlen hlen2
   obtain ⟨D1,hD1⟩:∃ D1,dartL (p.arcs.take (k+1)) nd.id=D1:=⟨_,rfl⟩
   rw [hD1] at HSt
   have HD1:=Lib.hid hD1
   clear hD1
   generalize dartL (p.arcs.take k) nd.id=D0 at *
   generalize hP:pathS p al[k].1=P at *
   generalize al[k].1.via.length=vn at *
   generalize al[k].1=a at *
   have HIdw:=Lib.hid (show wfI a.id from wfI_of (by omega) (by omega))
   have HIdn:=Lib.hid (show wfI (-a.id) from wfI_of (by omega) (by omega))
   have hneg:IntKind.i64.wrap (-a.id)=-a.id:=IntWalk.i64_in _ (by omega)
   clear hP
   cases hb1:(a.fr == nd.id)
   case false =>
    have hn1:(a.fr != nd.id)=true:=by rw [bne,hb1];rfl
    cases hb2:(a.dst == nd.id)
    case false =>
     have hn2:(a.dst != nd.id)=true:=by rw [bne,hb2];rfl
     have hD:D1=D0:=by rw [HSt.out,if_neg (by simpa using hb1),if_neg (by simpa using hb2)];simp
     go_wp2_with fail
     go_roundw
     case rel => exact ⟨k+1,f,vl,cnt,by omega,by go_num,by omega,by rw [show dartL (List.take (k+1) p.arcs) nd.id=D0 from HD1.out.trans hD];exact HArn.out.keep (bA (bR wr) _),by rw [show dartL (List.take (k+1) p.arcs) nd.id=D0 from HD1.out.trans hD];exact Hf.out,bA Hb.out _,HX2.out.alloc _,HX5.out.alloc _⟩
     case measure => simp [intOf];omega
    case true =>
     have hn2:(a.dst != nd.id)=false:=by rw [bne,hb2];rfl
     have HPl:=Lib.hid hpl
     clear hpl
     go_wp2_with fail
     refine (HPt.out _ (bA Hb.out _)).mono ?_
     rintro e w2 ⟨A2,c2',rfl,hb2,ho2⟩
     have HW2:=Lib.hid (show Below wr.heap.size wr w2 from bT (bA (bR wr) _) hb2)
     have HO2:=Lib.hid ho2
     have hz2:=hb2.size
     simp only [World.size_alloc] at hz2
     obtain ⟨Aq,cq,he,hq1,hq2,hRP⟩:=ho2.sl
     injection he with e1 e2 e3
     subst e1 e3
     clear e2
     unfold maxLen at hq2
     have HX10:=Lib.hid (show Blk w2 wr.heap.size 50 #[.int .i64 a.id,.int .i64 a.fr,.int .i64 a.dst,.slice Av vn cv,.int .i64 a.left,.int .i64 a.right] from (Blk.made rfl _ _).keep hb2)
     have X10:=HX10.out
     rw [HPl.out] at hq1 ⊢
     clear hb2 ho2 HPt X2l X2a X2b X2c X2 c0 c1 c2 c3 c4 c5 hlb
     have hD:D1=D0++[-a.id]:=by rw [HSt.out,if_neg (by simpa using hb1),if_pos (by simpa using hb2)];simp
     have HOW:=HO2
     have HArnW:=Lib.hid (HArn.out.keep HW2.out)
     have HX2W:=Lib.hid (HX2.out.keep HW2.out)
     have HX5W:=Lib.hid (HX5.out.keep HW2.out)
     have HBW:=Lib.hid (show Below w.heap.size w w2 from bT Hb.out HW2.out)
     have HN5:=Lib.hid (Own.ne_blk HArn.out.own HX5.out (by decide))
     clear hRP
     obtain ⟨X10l,X10a,X10b,X10c,X10d,X10e,X10f,-,-,-,-,-,-⟩:=X10.facts6
     have hP2:vn<P.length:=by have:=HPl.out;omega
     obtain ⟨bp,op,hAp,hlp,e20,e21⟩:=Row.pt (HOW.out.row_pt) hP2
     have hp2:P.getD vn pt0=P[vn]:=by simp only [List.getD_eq_getElem?_getD,List.getElem?_eq_getElem hP2,Option.getD_some]
     have HTp2:=Lib.hid (HTo2.out.trans hp2)
     clear hp2
     generalize P[vn]=p2 at *
     first | subst hAp | (simp only [Option.some.injEq,Addr.mk.injEq,and_true] at hAp;obtain ⟨rfl,rfl⟩:=hAp)
     have k2:IntKind.i64.wrap ((vn:Int)+2-2)=vn:=by rw [show (vn:Int)+2-2=vn by omega];exact IntWalk.i64_in _ (by omega)
     have k3:IntKind.i64.wrap (vn:Int)=vn:=IntWalk.i64_in _ (by omega)
     have k4:(vn:Int)<(vn:Int)+2:=by omega
     have k5:0≤(vn:Int):=by omega
     have k6:(vn:Int)+2-2=vn:=by omega
     go_upto_region 15 with fail
     refine rg_start (SinceB ((w.heap.size+1)) w2) (.take 0 1 (.take 1 3 (.run 5 4 3 (.two 2 503 (.take 3 511 (.call 9 1023 (.call 10 2047 (.done)))) 9 1011 (.call 2 1015 (.take 3 1023 (.call 10 2047 (.done)))))))) (by kernel_rfl) (Below.drew (Below.refl _ _)) (by kernel_rfl) (by kernel_rfl) (Nat.le_of_ble_eq_true (by kernel_rfl)) ?_
     intro opsR QR Hops HQrg hS
     iterate 7
      apply rg_pB;exact Hops;exact rfl;exact hS;exact rfl
      · intro _ hqc;go_simp;try rfl
      try simp only [pu]
     refine rg_two (i:=2) (j:=9) (get_of Hops rfl) (get_of Hops rfl) (fun K hK=>?_) (fun K hK=>?_)
     ·
      have HSrg:=Lib.hid hS;clear hS
      refine rg_run (wanted_plain rfl) ?_
      go_simp
      refine hK.out _ _ HSrg.out (fun hS=>?_)
      clear hK K HSrg
      try simp only [pu]
      apply rg_pB;exact Hops;exact rfl;exact hS;exact rfl
      · intro _ hqc;go_simp;try rfl
      try simp only [pu]
      refine rg_call (i:=9) (get_of Hops rfl) (fun K hK=>?_)
      have HSrg:=Lib.hid hS;clear hS
      refine rg_run (wanted_plain rfl) ?_
      go_simp
      refine hK.out _ _ HSrg.out (fun hS=>?_)
      clear hK K HSrg
      try simp only [pu]
      refine rg_call (i:=10) (get_of Hops rfl) (fun K hK=>?_)
      have HSrg:=Lib.hid hS;clear hS
      refine rg_run (wanted_plain rfl) ?_
      go_simp
      refine (HAd.out (-a.id) p2 (w.heap.size+1) (w.heap.size+1) (g5+1+1) (g5+1) (cnt) (D0) (f) vl _ (HArnW.out.keep (bD (bR w2))) (by simp;omega) (by omega) (by have:=HLen.out;(try simp only [List.length_append,List.length_singleton]);omega) HIdn.out).mono ?_
      rintro e w4 ⟨rfl,⟨v4,harn4⟩,hb4,hk4⟩
      have hS:SinceB (w.heap.size+1) w2 w4:=Below.trans HSrg.out hb4
      have HArn4:=Lib.hid harn4
      have HX5n:=Lib.hid (hk4 g5 _ _ (HX5W.out.keep (bD (bR w2))) (by omega) (by omega) HN5.out)
      clear hb4 hk4 harn4
      clear HSrg
      refine hK.out _ _ hS (fun _=>?_)
      clear hK K
      try simp only [pu]
      refine rg_done ?_
      refine HQrg.down _ _ ?_
      have hB:Below ((w.heap.size+1)) w2 _:=hS
      clear hS HQrg Hops
      go_wp2_with fail
      go_roundw
      case rel => exact ⟨k+1,_,v4,cnt+1,by omega,by go_num,by omega,by rw [show dartL (List.take (k+1) p.arcs) nd.id=D0++[-a.id] from HD1.out.trans hD];exact HArn4.out,(fun d hd=>by rw [show dartL (List.take (k+1) p.arcs) nd.id=D0++[-a.id] from HD1.out.trans hD] at hd;exact map_step Hf.out HTp2.out d hd),Below.trans HBW.out (hB.mono (by omega)),HX2W.out.below hB (by omega),HX5n.out⟩
      case measure => simp [intOf];omega
     ·
      have HSrg:=Lib.hid hS;clear hS
      refine rg_run (wanted_plain rfl) ?_
      go_simp
      refine hK.out _ _ HSrg.out (fun hS=>?_)
      clear hK K HSrg
      try simp only [pu]
      refine rg_call (i:=2) (get_of Hops rfl) (fun K hK=>?_)
      have HSrg:=Lib.hid hS;clear hS
      refine rg_run (wanted_plain rfl) ?_
      go_simp
      refine hK.out _ _ HSrg.out (fun hS=>?_)
      clear hK K HSrg
      try simp only [pu]
      apply rg_pB;exact Hops;exact rfl;exact hS;exact rfl
      · intro _ hqc;go_simp;try rfl
      try simp only [pu]
      refine rg_call (i:=10) (get_of Hops rfl) (fun K hK=>?_)
      have HSrg:=Lib.hid hS;clear hS
      refine rg_run (wanted_plain rfl) ?_
      go_simp
      refine (HAd.out (-a.id) p2 (w.heap.size+1) (w.heap.size+1) (g5+1+1) (g5+1) (cnt) (D0) (f) vl _ (HArnW.out.keep (bD (bR w2))) (by simp;omega) (by omega) (by have:=HLen.out;(try simp only [List.length_append,List.length_singleton]);omega) HIdn.out).mono ?_
      rintro e w4 ⟨rfl,⟨v4,harn4⟩,hb4,hk4⟩
      have hS:SinceB (w.heap.size+1) w2 w4:=Below.trans HSrg.out hb4
      have HArn4:=Lib.hid harn4
      have HX5n:=Lib.hid (hk4 g5 _ _ (HX5W.out.keep (bD (bR w2))) (by omega) (by omega) HN5.out)
      clear hb4 hk4 harn4
      clear HSrg
      refine hK.out _ _ hS (fun _=>?_)
      clear hK K
      try simp only [pu]
      refine rg_done ?_
      refine HQrg.down _ _ ?_
      have hB:Below ((w.heap.size+1)) w2 _:=hS
      clear hS HQrg Hops
      go_wp2_with fail
      go_roundw
      case rel => exact ⟨k+1,_,v4,cnt+1,by omega,by go_num,by omega,by rw [show dartL (List.take (k+1) p.arcs) nd.id=D0++[-a.id] from HD1.out.trans hD];exact HArn4.out,(fun d hd=>by rw [show dartL (List.take (k+1) p.arcs) nd.id=D0++[-a.id] from HD1.out.trans hD] at hd;exact map_step Hf.out HTp2.out d hd),Below.trans HBW.out (hB.mono (by omega)),HX2W.out.below hB (by omega),HX5n.out⟩
      case measure => simp [intOf];omega
   case true =>
    have hn1:(a.fr != nd.id)=false:=by rw [bne,hb1];rfl
    have HB1:=Lib.hid hb1
    clear hb1
    have HPl:=Lib.hid hpl
    clear hpl
    go_wp2_with fail
    refine (HPt.out _ (bA Hb.out _)).mono ?_
    rintro e w2 ⟨A2,c2',rfl,hb2,ho2⟩
    have HW2:=Lib.hid (show Below wr.heap.size wr w2 from bT (bA (bR wr) _) hb2)
    have HO2:=Lib.hid ho2
    have hz2:=hb2.size
    simp only [World.size_alloc] at hz2
    obtain ⟨Aq,cq,he,hq1,hq2,hRP⟩:=ho2.sl
    injection he with e1 e2 e3
    subst e1 e3
    clear e2
    unfold maxLen at hq2
    have HX10:=Lib.hid (show Blk w2 wr.heap.size 50 #[.int .i64 a.id,.int .i64 a.fr,.int .i64 a.dst,.slice Av vn cv,.int .i64 a.left,.int .i64 a.right] from (Blk.made rfl _ _).keep hb2)
    have X10:=HX10.out
    rw [HPl.out] at hq1 ⊢
    clear hb2 ho2 HPt X2l X2a X2b X2c X2 c0 c1 c2 c3 c4 c5 hlb
    have hP1:1<P.length:=by have:=HPl.out;omega
    obtain ⟨bp,op,hAp,hlp,e10,e11⟩:=Row.pt (hRP) hP1
    have hp1:P.getD 1 pt0=P[1]:=by simp only [List.getD_eq_getElem?_getD,List.getElem?_eq_getElem hP1,Option.getD_some]
    have HTp1:=Lib.hid (HTo1.out.trans hp1)
    clear hp1
    generalize P[1]=p1 at *
    subst hAp
    clear hRP
    simp only [Nat.one_mul] at e10 e11
    have k1:(1:Int)<(vn:Int)+2:=by omega
    try clear X10l
    try clear X10a
    try clear X10b
    try clear X10c
    try clear X10d
    try clear X10e
    try clear X10f
    obtain ⟨X10l,X10a,X10b,X10c,X10d,X10e,X10f,-,-,-,-,-,-⟩:=X10.facts6
    go_upto_if 52 with fail
    go_cut [] (fun w3=>∃ v3,Arnd w3 (w.heap.size+1) (w.heap.size+1) (g5+1+1) (g5+1) (cnt+1) (D0++[a.id]) (fun i=>if i=a.id then p1 else f i) v3∧Below (w.heap.size+1) w2 w3∧(∀ g t cs,Blk w2 g t cs→g≠w.heap.size+1→g≠g5+1→vl.ownBlock≠some g→Blk w3 g t cs))
    case first =>
     have hb1:=HB1.out
     go_upto_region 13 with fail
     refine rg_start (SinceB ((w.heap.size+1)) w2) (.take 0 1 (.take 1 3 (.take 3 11 (.take 4 27 (.two 2 31 (.call 5 63 (.call 6 127 (.done))) 5 59 (.call 2 63 (.call 6 127 (.done)))))))) (by kernel_rfl) (Below.drew (Below.refl _ _)) (by kernel_rfl) (by kernel_rfl) (Nat.le_of_ble_eq_true (by kernel_rfl)) ?_
     intro opsR QR Hops HQrg hS
     iterate 4
      apply rg_pB;exact Hops;exact rfl;exact hS;exact rfl
      · intro _ hqc;go_simp;try rfl
      try simp only [pu]
     refine rg_two (i:=2) (j:=5) (get_of Hops rfl) (get_of Hops rfl) (fun K hK=>?_) (fun K hK=>?_)
     ·
      have HSrg:=Lib.hid hS;clear hS
      refine rg_run (wanted_plain rfl) ?_
      go_simp
      refine hK.out _ _ HSrg.out (fun hS=>?_)
      clear hK K HSrg
      try simp only [pu]
      refine rg_call (i:=5) (get_of Hops rfl) (fun K hK=>?_)
      have HSrg:=Lib.hid hS;clear hS
      refine rg_run (wanted_plain rfl) ?_
      go_simp
      refine hK.out _ _ HSrg.out (fun hS=>?_)
      clear hK K HSrg
      try simp only [pu]
      refine rg_call (i:=6) (get_of Hops rfl) (fun K hK=>?_)
      have HSrg:=Lib.hid hS;clear hS
      refine rg_run (wanted_plain rfl) ?_
      go_simp
      refine (HAd.out a.id p1 (w.heap.size+1) (w.heap.size+1) (g5+1+1) (g5+1) cnt D0 f vl _ (HArn.out.keep (bD HW2.out)) (by simp;omega) (by omega) (by have:=HLen.out;omega) HIdw.out).mono ?_
      rintro e w3 ⟨rfl,⟨v3,harn3⟩,hb3,hk3⟩
      have hS:SinceB (w.heap.size+1) w2 w3:=Below.trans HSrg.out hb3
      have HArn3:=Lib.hid harn3
      have HK3:=Lib.hid (show ∀ g t cs,Blk w2 g t cs→g≠w.heap.size+1→g≠g5+1→vl.ownBlock≠some g→Blk w3 g t cs from fun g t cs h=>hk3 g t cs (h.keep (bD (bR w2))))
      clear hb3 hk3 harn3
      clear HSrg
      refine hK.out _ _ hS (fun _=>?_)
      clear hK K
      try simp only [pu]
      refine rg_done ?_
      refine HQrg.down _ _ ?_
      have hB:Below ((w.heap.size+1)) w2 _:=hS
      clear hS HQrg Hops
      go_wp2_with fail
      go_meet
      case rel => exact ⟨v3,HArn3.out,hB,HK3.out⟩
     ·
      have HSrg:=Lib.hid hS;clear hS
      refine rg_run (wanted_plain rfl) ?_
      go_simp
      refine hK.out _ _ HSrg.out (fun hS=>?_)
      clear hK K HSrg
      try simp only [pu]
      refine rg_call (i:=2) (get_of Hops rfl) (fun K hK=>?_)
      have HSrg:=Lib.hid hS;clear hS
      refine rg_run (wanted_plain rfl) ?_
      go_simp
      refine hK.out _ _ HSrg.out (fun hS=>?_)
      clear hK K HSrg
      try simp only [pu]
      refine rg_call (i:=6) (get_of Hops rfl) (fun K hK=>?_)
      have HSrg:=Lib.hid hS;clear hS
      refine rg_run (wanted_plain rfl) ?_
      go_simp
      refine (HAd.out a.id p1 (w.heap.size+1) (w.heap.size+1) (g5+1+1) (g5+1) cnt D0 f vl _ (HArn.out.keep (bD HW2.out)) (by simp;omega) (by omega) (by have:=HLen.out;omega) HIdw.out).mono ?_
      rintro e w3 ⟨rfl,⟨v3,harn3⟩,hb3,hk3⟩
      have hS:SinceB (w.heap.size+1) w2 w3:=Below.trans HSrg.out hb3
      have HArn3:=Lib.hid harn3
      have HK3:=Lib.hid (show ∀ g t cs,Blk w2 g t cs→g≠w.heap.size+1→g≠g5+1→vl.ownBlock≠some g→Blk w3 g t cs from fun g t cs h=>hk3 g t cs (h.keep (bD (bR w2))))
      clear hb3 hk3 harn3
      clear HSrg
      refine hK.out _ _ hS (fun _=>?_)
      clear hK K
      try simp only [pu]
      refine rg_done ?_
      refine HQrg.down _ _ ?_
      have hB:Below ((w.heap.size+1)) w2 _:=hS
      clear hS HQrg Hops
      go_wp2_with fail
      go_meet
      case rel => exact ⟨v3,HArn3.out,hB,HK3.out⟩
    case rest =>
     obtain ⟨v3,harn3,hB3,hk3⟩:=hcut
     have HBW:=Lib.hid (show RowKit.Below w.heap.size w wc from Below.trans (bT Hb.out HW2.out) (hB3.mono (by omega)))
     have HX2W:=Lib.hid ((HX2.out.keep HW2.out).below hB3 (by omega))
     have HX5W:=Lib.hid (hk3 g5 _ _ (HX5.out.keep HW2.out) (by omega) (by omega) (Own.ne_blk HArn.out.own HX5.out (by decide)))
     have X10n:=hk3 wr.heap.size _ _ HX10.out (by omega) (by omega) (fun e=>by have:=(HArn.out.own.lt _ e).2;omega)
     have HOW:=Lib.hid (HO2.out.kept_ (fun g t cs hg hx=>hk3 g t cs hx (by simp only [World.size_alloc] at hg;omega) (by simp only [World.size_alloc] at hg;omega) (fun e=>by have:=(HArn.out.own.lt _ e).2;simp only [World.size_alloc] at hg;omega)))
     have HArnW:=Lib.hid harn3
     have HN5:=Lib.hid (Own.ne_blk harn3.own HX5W.out (by decide))
     have hf3:=map_step Hf.out HTp1.out
     have HF3:=Lib.hid hf3
     have hz3:=hB3.size
     clear harn3 hB3 hk3 hf3 X10 X10l X10a X10b X10c X10d X10e X10f e10 e11
     have X10:=X10n
     clear X10n
     try clear X10l
     try clear X10a
     try clear X10b
     try clear X10c
     try clear X10d
     try clear X10e
     try clear X10f
     obtain ⟨X10l,X10a,X10b,X10c,X10d,X10e,X10f,-,-,-,-,-,-⟩:=X10.facts6
     cases hb2:(a.dst == nd.id)
     case false =>
      have hD:D1=D0++[a.id]:=by rw [HSt.out,if_pos (by simpa using HB1.out),if_neg (by simpa using hb2)];simp
      go_wp2_with fail
      go_roundw
      case rel => exact ⟨k+1,_,v3,cnt+1,by omega,by go_num,by omega,by rw [show dartL (List.take (k+1) p.arcs) nd.id=D0++[a.id] from HD1.out.trans hD];exact HArnW.out,by rw [show dartL (List.take (k+1) p.arcs) nd.id=D0++[a.id] from HD1.out.trans hD];exact HF3.out,HBW.out,HX2W.out,HX5W.out⟩
      case measure => simp [intOf];omega
     case true =>
      have hD:D1=D0++[a.id]++[-a.id]:=by rw [HSt.out,if_pos (by simpa using HB1.out),if_pos (by simpa using hb2)];simp
      have hP2:vn<P.length:=by have:=HPl.out;omega
      obtain ⟨bp,op,hAp,hlp,e20,e21⟩:=Row.pt (HOW.out.row_pt) hP2
      have hp2:P.getD vn pt0=P[vn]:=by simp only [List.getD_eq_getElem?_getD,List.getElem?_eq_getElem hP2,Option.getD_some]
      have HTp2:=Lib.hid (HTo2.out.trans hp2)
      clear hp2
      generalize P[vn]=p2 at *
      first | subst hAp | (simp only [Option.some.injEq,Addr.mk.injEq,and_true] at hAp;obtain ⟨rfl,rfl⟩:=hAp)
      have k2:IntKind.i64.wrap ((vn:Int)+2-2)=vn:=by rw [show (vn:Int)+2-2=vn by omega];exact IntWalk.i64_in _ (by omega)
      have k3:IntKind.i64.wrap (vn:Int)=vn:=IntWalk.i64_in _ (by omega)
      have k4:(vn:Int)<(vn:Int)+2:=by omega
      have k5:0≤(vn:Int):=by omega
      have k6:(vn:Int)+2-2=vn:=by omega
      go_upto_region 15 with fail
      refine rg_start (SinceB ((w.heap.size+1)) wc) (.take 0 1 (.take 1 3 (.run 5 4 3 (.two 2 503 (.take 3 511 (.call 9 1023 (.call 10 2047 (.done)))) 9 1011 (.call 2 1015 (.take 3 1023 (.call 10 2047 (.done)))))))) (by kernel_rfl) (Below.drew (Below.refl _ _)) (by kernel_rfl) (by kernel_rfl) (Nat.le_of_ble_eq_true (by kernel_rfl)) ?_
      intro opsR QR Hops HQrg hS
      iterate 7
       apply rg_pB;exact Hops;exact rfl;exact hS;exact rfl
       · intro _ hqc;go_simp;try rfl
       try simp only [pu]
      refine rg_two (i:=2) (j:=9) (get_of Hops rfl) (get_of Hops rfl) (fun K hK=>?_) (fun K hK=>?_)
      ·
       have HSrg:=Lib.hid hS;clear hS
       refine rg_run (wanted_plain rfl) ?_
       go_simp
       refine hK.out _ _ HSrg.out (fun hS=>?_)
       clear hK K HSrg
       try simp only [pu]
       apply rg_pB;exact Hops;exact rfl;exact hS;exact rfl
       · intro _ hqc;go_simp;try rfl
       try simp only [pu]
       refine rg_call (i:=9) (get_of Hops rfl) (fun K hK=>?_)
       have HSrg:=Lib.hid hS;clear hS
       refine rg_run (wanted_plain rfl) ?_
       go_simp
       refine hK.out _ _ HSrg.out (fun hS=>?_)
       clear hK K HSrg
       try simp only [pu]
       refine rg_call (i:=10) (get_of Hops rfl) (fun K hK=>?_)
       have HSrg:=Lib.hid hS;clear hS
       refine rg_run (wanted_plain rfl) ?_
       go_simp
       refine (HAd.out (-a.id) p2 (w.heap.size+1) (w.heap.size+1) (g5+1+1) (g5+1) (cnt+1) (D0++[a.id]) (fun i=>if i=a.id then p1 else f i) v3 _ (HArnW.out.keep (bD (bR wc))) (by simp;omega) (by omega) (by have:=HLen.out;(try simp only [List.length_append,List.length_singleton]);omega) HIdn.out).mono ?_
       rintro e w4 ⟨rfl,⟨v4,harn4⟩,hb4,hk4⟩
       have hS:SinceB (w.heap.size+1) wc w4:=Below.trans HSrg.out hb4
       have HArn4:=Lib.hid harn4
       have HX5n:=Lib.hid (hk4 g5 _ _ (HX5W.out.keep (bD (bR wc))) (by omega) (by omega) HN5.out)
       clear hb4 hk4 harn4
       clear HSrg
       refine hK.out _ _ hS (fun _=>?_)
       clear hK K
       try simp only [pu]
       refine rg_done ?_
       refine HQrg.down _ _ ?_
       have hB:Below ((w.heap.size+1)) wc _:=hS
       clear hS HQrg Hops
       go_wp2_with fail
       go_roundw
       case rel => exact ⟨k+1,_,v4,cnt+1+1,by omega,by go_num,by omega,by rw [show dartL (List.take (k+1) p.arcs) nd.id=D0++[a.id]++[-a.id] from HD1.out.trans hD];exact HArn4.out,(fun d hd=>by rw [show dartL (List.take (k+1) p.arcs) nd.id=D0++[a.id]++[-a.id] from HD1.out.trans hD] at hd;exact map_step HF3.out HTp2.out d hd),Below.trans HBW.out (hB.mono (by omega)),HX2W.out.below hB (by omega),HX5n.out⟩
       case measure => simp [intOf];omega
      ·
       have HSrg:=Lib.hid hS;clear hS
       refine rg_run (wanted_plain rfl) ?_
       go_simp
       refine hK.out _ _ HSrg.out (fun hS=>?_)
       clear hK K HSrg
       try simp only [pu]
       refine rg_call (i:=2) (get_of Hops rfl) (fun K hK=>?_)
       have HSrg:=Lib.hid hS;clear hS
       refine rg_run (wanted_plain rfl) ?_
       go_simp
       refine hK.out _ _ HSrg.out (fun hS=>?_)
       clear hK K HSrg
       try simp only [pu]
       apply rg_pB;exact Hops;exact rfl;exact hS;exact rfl
       · intro _ hqc;go_simp;try rfl
       try simp only [pu]
       refine rg_call (i:=10) (get_of Hops rfl) (fun K hK=>?_)
       have HSrg:=Lib.hid hS;clear hS
       refine rg_run (wanted_plain rfl) ?_
       go_simp
       refine (HAd.out (-a.id) p2 (w.heap.size+1) (w.heap.size+1) (g5+1+1) (g5+1) (cnt+1) (D0++[a.id]) (fun i=>if i=a.id then p1 else f i) v3 _ (HArnW.out.keep (bD (bR wc))) (by simp;omega) (by omega) (by have:=HLen.out;(try simp only [List.length_append,List.length_singleton]);omega) HIdn.out).mono ?_
       rintro e w4 ⟨rfl,⟨v4,harn4⟩,hb4,hk4⟩
       have hS:SinceB (w.heap.size+1) wc w4:=Below.trans HSrg.out hb4
       have HArn4:=Lib.hid harn4
       have HX5n:=Lib.hid (hk4 g5 _ _ (HX5W.out.keep (bD (bR wc))) (by omega) (by omega) HN5.out)
       clear hb4 hk4 harn4
       clear HSrg
       refine hK.out _ _ hS (fun _=>?_)
       clear hK K
       try simp only [pu]
       refine rg_done ?_
       refine HQrg.down _ _ ?_
       have hB:Below ((w.heap.size+1)) wc _:=hS
       clear hS HQrg Hops
       go_wp2_with fail
       go_roundw
       case rel => exact ⟨k+1,_,v4,cnt+1+1,by omega,by go_num,by omega,by rw [show dartL (List.take (k+1) p.arcs) nd.id=D0++[a.id]++[-a.id] from HD1.out.trans hD];exact HArn4.out,(fun d hd=>by rw [show dartL (List.take (k+1) p.arcs) nd.id=D0++[a.id]++[-a.id] from HD1.out.trans hD] at hd;exact map_step HF3.out HTp2.out d hd),Below.trans HBW.out (hB.mono (by omega)),HX2W.out.below hB (by omega),HX5n.out⟩
       case measure => simp [intOf];omega
end Go.Proofs.YtpempeioeiaijaaGreat
