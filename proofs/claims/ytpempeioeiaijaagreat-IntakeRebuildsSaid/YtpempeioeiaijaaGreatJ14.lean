import Derived.Test.YtpempeioeiaijaaGreatGB
import Derived.Test.YtpempeioeiaijaaGreatJ06
import Derived.Test.YtpempeioeiaijaaGreatJ04
import Derived.Test.YtpempeioeiaijaaGreatJ13
import Derived.Test.YtpempeioeiaijaaGreatJ12
import Derived.Test.YtpempeioeiaijaaGreatJ07
import Derived.Test.YtpempeioeiaijaaGreatLaySortAd
set_option linter.unusedSimpArgs false
set_option linter.unusedVariables false
namespace Go.Proofs.YtpempeioeiaijaaGreat

theorem bef_trans {a b c:Pt} (h1:bef a b=true) (h2:bef b c=true):bef a c=true:=by
 unfold bef at *
 simp only [Bool.or_eq_true,Bool.and_eq_true,decide_eq_true_eq] at *
 omega
theorem bef_asymm {a b:Pt} (h:bef a b=true):bef b a=false:=by
 unfold bef at *
 simp only [Bool.or_eq_true,Bool.and_eq_true,decide_eq_true_eq,Bool.or_eq_false_iff,Bool.and_eq_false_imp,decide_eq_false_iff_not] at *
 omega
theorem bef_le_trans {a b c:Pt} (h1:bef b a=false) (h2:bef c b=false):bef c a=false:=by
 unfold bef at *
 simp only [Bool.or_eq_false_iff,Bool.and_eq_false_imp,decide_eq_true_eq,decide_eq_false_iff_not] at *
 omega
def cmpB (a b:Pt):Int:=if bef a b then -1 else if bef b a then 1 else 0

def lexL:List Pt→List Pt→Bool
 | [],[]=>false
 | [],_::_=>true
 | _::_,[]=>false
 | a::r,b::s=>if a=b then lexL r s else bef a b
theorem lexL_irr:∀ a:List Pt,lexL a a=false
 | []=>rfl
 | a::r=>by simp [lexL,lexL_irr r]
theorem lexL_tri:∀ {a b:List Pt},lexL a b=false→lexL b a=false→a=b
 | [],[],_,_=>rfl
 | [],_::_,h,_=>by simp [lexL] at h
 | _::_,[],_,h=>by simp [lexL] at h
 | a::r,b::s,h1,h2=>by
  unfold lexL at h1 h2
  by_cases e:a=b
  ·
   subst e
   simp only [if_true] at h1 h2
   rw [lexL_tri h1 h2]
  ·
   rw [if_neg e] at h1
   rw [if_neg (fun h=>e h.symm)] at h2
   exact absurd (bef_tri h1 h2) e
theorem lexL_asymm:∀ {a b:List Pt},lexL a b=true→lexL b a=false
 | [],[],h=>by simp [lexL] at h
 | [],_::_,_=>rfl
 | _::_,[],h=>by simp [lexL] at h
 | a::r,b::s,h=>by
  unfold lexL at h ⊢
  by_cases e:a=b
  ·
   subst e
   simp only [if_true] at h ⊢
   exact lexL_asymm h
  ·
   rw [if_neg e] at h
   rw [if_neg (fun h=>e h.symm)]
   exact bef_asymm h
theorem lexL_trans:∀ {a b c:List Pt},lexL a b=true→lexL b c=true→lexL a c=true
 | [],[],_,h,_=>by simp [lexL] at h
 | [],_::_,[],_,h=>by simp [lexL] at h
 | [],_::_,_::_,_,_=>rfl
 | _::_,[],_,h,_=>by simp [lexL] at h
 | _::_,_::_,[],_,h=>by simp [lexL] at h
 | a::r,b::s,c::cs,h1,h2=>by
  unfold lexL at h1 h2 ⊢
  by_cases e:a=b
  ·
   subst e
   rw [if_pos rfl] at h1
   by_cases e2:a=c
   ·
    subst e2
    rw [if_pos rfl] at h2 ⊢
    exact lexL_trans h1 h2
   ·
    rw [if_neg e2] at h2 ⊢
    exact h2
  ·
   rw [if_neg e] at h1
   by_cases e2:b=c
   ·
    subst e2
    rw [if_neg e]
    exact h1
   ·
    rw [if_neg e2] at h2
    have h3:=bef_trans h1 h2
    have e3:a≠c:=fun h=>by
     subst h
     rw [bef_irr] at h3
     cases h3
    rw [if_neg e3]
    exact h3
theorem lexL_le_trans {a b c:List Pt} (h1:lexL b a=false) (h2:lexL c b=false):lexL c a=false:=by
 cases h:lexL c a
 · rfl
 ·
  exfalso
  by_cases e:a=b
  · subst e;rw [h] at h2;cases h2
  ·
   have hab:lexL a b=true:=by
    cases h':lexL a b
    · exact absurd (lexL_tri h' h1) e
    · rfl
   have:=lexL_trans h hab
   rw [this] at h2
   cases h2
def cmpL (a b:List Pt):Int:=if lexL a b then -1 else if lexL b a then 1 else 0

section
variable {α:Type} (lt:α→α→Bool)
def plc (x:α):List α→List α
 | []=>[x]
 | y::l=>if lt y x then y::plc x l else x::y::l
def plcs (l:List α):List α:=l.foldl (fun o x=>plc lt x o) []
theorem plc_perm (x:α):∀ l:List α,(plc lt x l).Perm (x::l)
 | []=>List.Perm.refl _
 | y::l=>by
  unfold plc
  split
  · exact ((plc_perm x l).cons y).trans (List.Perm.swap x y l)
  · exact List.Perm.refl _
theorem plc_mem (x:α) (l:List α) {z:α}:z∈plc lt x l↔z=x∨z∈l:=by rw [(plc_perm lt x l).mem_iff,List.mem_cons]
theorem plc_sorted (ht:∀ a b c,lt b a=false→lt c b=false→lt c a=false) (ha:∀ a b,lt a b=true→lt b a=false) (x:α):∀ l:List α,l.Pairwise (fun a b=>lt b a=false)→(plc lt x l).Pairwise (fun a b=>lt b a=false)
 | [],_=>List.pairwise_singleton _ _
 | y::l,h=>by
  obtain ⟨h1,h2⟩:=List.pairwise_cons.1 h
  unfold plc
  split
  ·
   rename_i hy
   refine List.pairwise_cons.2 ⟨fun z hz=>?_,plc_sorted ht ha x l h2⟩
   rcases (plc_mem lt x l).1 hz with rfl | hz
   · exact ha _ _ hy
   · exact h1 z hz
  ·
   rename_i hy
   have hy':lt y x=false:=by simpa using hy
   refine List.pairwise_cons.2 ⟨fun z hz=>?_,h⟩
   rcases List.mem_cons.1 hz with rfl | hz
   · exact hy'
   · exact ht _ _ _ hy' (h1 z hz)
theorem plcs_foldl (ht:∀ a b c,lt b a=false→lt c b=false→lt c a=false) (ha:∀ a b,lt a b=true→lt b a=false):∀ (l o:List α),o.Pairwise (fun a b=>lt b a=false)→(l.foldl (fun o x=>plc lt x o) o).Pairwise (fun a b=>lt b a=false)∧(l.foldl (fun o x=>plc lt x o) o).Perm (l++o)
 | [],o,h=>⟨h,List.Perm.refl _⟩
 | x::l,o,h=>by
  obtain ⟨h1,h2⟩:=plcs_foldl ht ha l (plc lt x o) (plc_sorted lt ht ha x o h)
  refine ⟨h1,h2.trans ?_⟩
  have:=((plc_perm lt x o).append_left l)
  exact this.trans (List.perm_middle)
theorem plcs_sorted (ht:∀ a b c,lt b a=false→lt c b=false→lt c a=false) (ha:∀ a b,lt a b=true→lt b a=false) (l:List α):(plcs lt l).Pairwise (fun a b=>lt b a=false):=(plcs_foldl lt ht ha l [] List.Pairwise.nil).1
theorem plcs_perm (ht:∀ a b c,lt b a=false→lt c b=false→lt c a=false) (ha:∀ a b,lt a b=true→lt b a=false) (l:List α):(plcs lt l).Perm l:=by
 have:=(plcs_foldl lt ht ha l [] List.Pairwise.nil).2
 rw [List.append_nil] at this
 exact this
end
def srtL (l:List (List Pt)):List (List Pt):=plcs lexL l
theorem srtL_perm (l:List (List Pt)):(srtL l).Perm l:=plcs_perm lexL (fun _ _ _=>lexL_le_trans) (fun _ _=>lexL_asymm) l
theorem srtL_sorted (l:List (List Pt)):(srtL l).Pairwise (fun a b=>lexL b a=false):=plcs_sorted lexL (fun _ _ _=>lexL_le_trans) (fun _ _=>lexL_asymm) l
theorem srtL_eq {l m:List (List Pt)} (hp:m.Perm l) (hs:m.Pairwise (fun a b=>lexL b a=false)):m=srtL l :=
 sorted_uniq (lt:=lexL) (hp.trans (srtL_perm l).symm) hs (srtL_sorted l) (fun _ _ _ _ h1 h2=>lexL_tri h1 h2)
def srtP (l:List Pt):List Pt:=plcs bef l
theorem srtP_perm (l:List Pt):(srtP l).Perm l:=plcs_perm bef (fun _ _ _=>bef_le_trans) (fun _ _=>bef_asymm) l
theorem srtP_sorted (l:List Pt):(srtP l).Pairwise (fun a b=>bef b a=false):=plcs_sorted bef (fun _ _ _=>bef_le_trans) (fun _ _=>bef_asymm) l
theorem srtP_eq {l m:List Pt} (hp:m.Perm l) (hs:m.Pairwise (fun a b=>bef b a=false)):m=srtP l :=
 sorted_uniq (lt:=bef) (hp.trans (srtP_perm l).symm) hs (srtP_sorted l) (fun _ _ _ _ h1 h2=>bef_tri h1 h2)

def uniqP:List Pt→List Pt
 | []=>[]
 | x::l=>if x∈l then uniqP l else x::uniqP l
theorem mem_uniqP {p:Pt}:∀ {l:List Pt},p∈uniqP l↔p∈l
 | []=>Iff.rfl
 | x::l=>by
  unfold uniqP
  split
  ·
   rename_i hx
   rw [mem_uniqP,List.mem_cons]
   exact ⟨.inr,fun h=>h.elim (fun e=>e ▸ hx) id⟩
  · rw [List.mem_cons,List.mem_cons,mem_uniqP]
theorem uniqP_nodup:∀ l:List Pt,(uniqP l).Nodup
 | []=>List.Pairwise.nil
 | x::l=>by
  unfold uniqP
  split
  · exact uniqP_nodup l
  ·
   rename_i hx
   exact List.nodup_cons.2 ⟨fun h=>hx (mem_uniqP.1 h),uniqP_nodup l⟩
theorem perm_mem {l m:List Pt} (hl:l.Nodup) (hm:m.Nodup) (h:∀ p,p∈l↔p∈m):l.Perm m:=by
 rw [List.perm_iff_count]
 intro a
 rw [hl.count,hm.count]
 by_cases e:a∈l
 · rw [if_pos e,if_pos ((h a).1 e)]
 · rw [if_neg e,if_neg (fun h'=>e ((h a).2 h'))]

def bump (l:List Pt):List Pt:=l++l.head?.toList++l.getLast?.toList
def bumps (L:List (List Pt)):List Pt:=L.flatMap bump
def meets (L:List (List Pt)) (p:Pt):Bool:=decide (2≤(bumps L).count p)
theorem mem_bump {l:List Pt} {p:Pt}:p∈bump l↔p∈l:=by
 unfold bump
 simp only [List.mem_append,Option.mem_toList]
 constructor
 ·
  rintro ((h | h) | h)
  · exact h
  · exact List.mem_of_head? h
  · exact List.mem_of_getLast? h
 · exact fun h=>.inl (.inl h)
theorem mem_bumps {L:List (List Pt)} {p:Pt}:p∈bumps L↔p∈L.flatten:=by
 unfold bumps
 simp only [List.mem_flatMap,List.mem_flatten,mem_bump]
theorem meets_mem {L:List (List Pt)} {p:Pt} (h:meets L p=true):p∈L.flatten:=by
 unfold meets at h
 rw [decide_eq_true_eq] at h
 exact mem_bumps.1 (List.count_pos_iff.1 (by omega))
def meetL (L:List (List Pt)):List Pt:=srtP ((uniqP L.flatten).filter (meets L))
theorem meetL_eq {L:List (List Pt)} {m:List Pt} (hn:m.Nodup) (hm:∀ p,p∈m↔meets L p=true) (hs:m.Pairwise (fun a b=>bef b a=false)):m=meetL L:=by
 refine srtP_eq ?_ hs
 refine perm_mem hn ((uniqP_nodup _).filter _) (fun p=>?_)
 rw [hm,List.mem_filter,mem_uniqP]
 exact ⟨fun h=>⟨meets_mem h,h⟩,fun h=>h.2⟩
theorem meetL_mem {L:List (List Pt)} {p:Pt}:p∈meetL L↔meets L p=true:=by
 unfold meetL
 rw [(srtP_perm _).mem_iff,List.mem_filter,mem_uniqP]
 exact ⟨fun h=>h.2,fun h=>⟨meets_mem h,h⟩⟩
theorem meetL_nodup (L:List (List Pt)):(meetL L).Nodup:=(srtP_perm _).nodup_iff.2 ((uniqP_nodup _).filter _)
end Go.Proofs.YtpempeioeiaijaaGreat
namespace Go.Proofs.YtpempeioeiaijaaGreat
open Go.RowKit Go.Sort

theorem cmpB_or (a b:Pt):orS [cmpI a.x b.x,cmpI a.y b.y]=cmpB a b:=by
 unfold orS cmpI cmpB bef
 by_cases h1:a.x<b.x
 · simp [h1]
 ·
  by_cases h2:b.x<a.x
  ·
   have h3:¬ a.x=b.x:=by omega
   simp [h1,h2,h3]
  ·
   have h3:a.x=b.x:=by omega
   by_cases h4:a.y<b.y
   · simp [h3,h4]
   · by_cases h5:b.y<a.y<;>simp [h3,h4,h5]
theorem ltOf_cmpB {α:Type} (f:α→Pt) (x y:α):ltOf (fun x y=>cmpB (f x) (f y)) x y=bef (f x) (f y):=by
 unfold ltOf cmpB
 cases h1:bef (f x) (f y)<;>cases h2:bef (f y) (f x)<;>simp [h1,h2]
theorem swo_cmpB {α:Type} (f:α→Pt):SWO (ltOf (fun x y:α=>cmpB (f x) (f y))) where
 irrefl x:=by rw [ltOf_cmpB];exact bef_irr _
 trans x y z h1 h2:=by rw [ltOf_cmpB] at *;exact bef_trans h1 h2
 ntrans x y z h1 h2:=by rw [ltOf_cmpB] at *;exact bef_le_trans h2 h1

set_option maxRecDepth 100000 in
set_option maxHeartbeats 1000000 in
theorem Cmp19_spec (a b:Pt) (w:World):Calls Tryz.prog 27 #[.agg #[.int .i64 a.x,.int .i64 a.y],.agg #[.int .i64 b.x,.int .i64 b.y]] w fun e w'=>e=.returned (.int .i64 (cmpB a b))∧BelowD w w':=by
 have HX:=Lib.hid (fun W=>Compare_int_spec' a.x b.x W)
 have HY:=Lib.hid (fun W=>Compare_int_spec' a.y b.y W)
 rw [← cmpB_or]
 generalize cmpI a.x b.x=x at *
 generalize cmpI a.y b.y=y at *
 obtain ⟨ax,ay⟩:=a
 obtain ⟨bx,by_⟩:=b
 simp only at *
 go_enter Tryz.func27,Tryz.ntmps27
 go_upto_region 1 with fail
 obtain ⟨W,hW⟩:∃ W:World,W=(w.alloc (.cells #[.int .i64 ax,.int .i64 ay] 42)).alloc (.cells #[.int .i64 bx,.int .i64 by_] 42):=⟨_,rfl⟩
 have Bw:Below w.heap.size w W:=by rw [hW];exact bA (bA (bR w) _) _
 have Dw:=Lib.hid (show w.drawn≤W.drawn by rw [hW];exact dA (dA (dR w) _) _)
 have X1:Blk W w.heap.size 42 #[.int .i64 ax,.int .i64 ay]:=by rw [hW];exact (Blk.made rfl _ _).alloc _
 have X2:Blk W (w.heap.size+1) 42 #[.int .i64 bx,.int .i64 by_]:=by rw [hW];exact Blk.made (by simp) _ _
 rw [← hW]
 clear hW
 obtain ⟨X1l,X1a,X1b,-,-⟩:=X1.facts2
 obtain ⟨X2l,X2a,X2b,-,-⟩:=X2.facts2
 refine rg_start (Since W) (.run 4 0 0 (.run 4 5 15 (.call 4 511 (.call 9 1023 (.call 10 2047 (.call 11 4095 (.take 12 8191 (.done)))))))) (by kernel_rfl) (bD (bR _)) (by kernel_rfl) (by kernel_rfl) (Nat.le_of_ble_eq_true (by kernel_rfl)) ?_
 intro opsR QR Hops HQrg hS
 iterate 8
  apply rg_p;exact Hops;exact rfl;exact hS;exact rfl
  · intro _ hqc;go_simp;try rfl
  try simp only [pu]
 refine rg_call (i:=4) (get_of Hops rfl) (fun K hK=>?_)
 have HSrg:=Lib.hid hS;clear hS
 refine rg_run (wanted_plain rfl) ?_
 go_simp
 refine (HX.out _).mono ?_
 rintro e wr1 ⟨rfl,hbr1,hd1⟩
 have hS:Since W wr1:=bT (w:=W) HSrg.out hbr1
 clear HSrg
 try replace XQ:=XQ.keep hbr1
 refine hK.out _ _ hS (fun _=>?_)
 clear hK K
 try simp only [pu]
 refine rg_call (i:=9) (get_of Hops rfl) (fun K hK=>?_)
 have HSrg:=Lib.hid hS;clear hS
 refine rg_run (wanted_plain rfl) ?_
 go_simp
 refine (HY.out _).mono ?_
 rintro e wr2 ⟨rfl,hbr2,hd2⟩
 have hS:Since W wr2:=bT (w:=W) HSrg.out hbr2
 clear HSrg
 try replace XQ:=XQ.keep hbr2
 refine hK.out _ _ hS (fun _=>?_)
 clear hK K
 try simp only [pu]
 refine rg_call (i:=10) (get_of Hops rfl) (fun K hK=>?_)
 have HSrg:=Lib.hid hS;clear hS
 refine rg_run (wanted_plain rfl) ?_
 go_simp
 refine hK.out _ _ (bA HSrg.out _) (fun hS=>?_)
 clear hK K HSrg
 try replace XQ:=XQ.alloc (.cells #[.int .i64 x,.int .i64 y] 3)
 have XQ:=Blk.new (wr2) 3 #[.int .i64 x,.int .i64 y]
 try simp only [World.size_drew,World.size_alloc] at XQ XQz
 try simp only [pu]
 refine rg_call (i:=11) (get_of Hops rfl) (fun K hK=>?_)
 have HSrg:=Lib.hid hS;clear hS
 refine rg_run (wanted_plain rfl) ?_
 go_simp
 refine (Or_spec' _ _ _ (Ints.lit2 XQ) (by simp)).mono ?_
 rintro e wr3 ⟨rfl,hbr3,hd3⟩
 have hS:Since W wr3:=bT (w:=W) HSrg.out hbr3
 clear HSrg
 try replace XQ:=XQ.keep hbr3
 refine hK.out _ _ hS (fun _=>?_)
 clear hK K
 try simp only [pu]
 apply rg_p;exact Hops;exact rfl;exact hS;exact rfl
 · intro _ hqc;go_simp;try rfl
 try simp only [pu]
 refine rg_done ?_
 refine HQrg.down _ _ ?_
 have hB:Below W.heap.size W wr3:=hS
 clear hS HQrg Hops
 have D3:=Lib.hid (dT (dA (dT (dT (dD Dw.out) hd1) hd2) _) hd3)
 go_wp2_with fail
 go_ret
 exact ⟨rfl,bT Bw hB,D3.out⟩

set_option maxRecDepth 100000 in
theorem Valid19_spec (p:Pt) (w:World):Calls Tryz.prog 53 #[.agg #[.int .i64 p.x,.int .i64 p.y]] w fun e w'=>e=.returned (.bool (ptOk p))∧Below w.heap.size w w':=by
 go_enter Tryz.func53,Tryz.ntmps53
 go_wp2_with fail
 all_goals
  go_ret
  refine ⟨ret_bool (by rw [ptOk,Bool.eq_iff_iff];simp only [Bool.and_eq_true,decide_eq_true_eq,true_iff,Bool.false_eq_true,false_iff];omega),?_⟩
  repeat (first | with_reducible exact bR _ | with_reducible assumption | with_reducible refine bA ?_ _ | with_reducible refine bD ?_ | with_reducible refine bN ?_ _ | ((with_reducible refine bS ?_ ?_ _);rotate_left;(simp;try omega)) | ((with_reducible refine bT ?_ ?_);rotate_left;with_reducible assumption) | with_reducible refine bT ?_ (by assumption))

def llC (x:SV×List Pt):List Value:=[svV x.1]
def Lns19 (w:World) (v:Value) (xs:List (SV×List Pt)):Prop:=Sl w v xs.length (xs.flatMap llC)∧∀ k (hk:k<xs.length),Pts w (svV xs[k].1) xs[k].2
theorem Lns19.mono {w w':World} {v:Value} {xs:List (SV×List Pt)} (h:Lns19 w v xs) (hb:Below w.heap.size w w'):Lns19 w' v xs:=⟨h.1.mono hb,fun k hk=>(h.2 k hk).mono hb⟩
theorem Row.ln {w:World} {A:Option Addr} {xs:List (SV×List Pt)} (h:Row w A (xs.flatMap llC)) {k:Nat} (hk:k<xs.length) :
  ∃ b o,A=some ⟨b,o,none⟩∧b<w.heap.size∧w.cell? ⟨b,o+k,none⟩=some (svV xs[k].1):=by
 obtain ⟨b,o,hA,hb,hc⟩:=h.at_ (n:=1) (fun _=>rfl) hk (by omega)
 exact ⟨b,o,hA,hb,by simpa using hc 0 _ rfl⟩
end Go.Proofs.YtpempeioeiaijaaGreat
namespace Go.Proofs.YtpempeioeiaijaaGreat
open Go.RowKit

def SinceK (B g:Nat) (w0:World):World→Prop:=fun w=>Below B w0 w∧w.heap[g]? = w0.heap[g]?
section
variable {B g:Nat} {W w w':World}
theorem kcell (h:SinceK B g W w):(∀ b o,b<B→w.cell? ⟨b,o,none⟩=W.cell? ⟨b,o,none⟩)∧(∀ o,w.cell? ⟨g,o,none⟩=W.cell? ⟨g,o,none⟩) :=
 ⟨(bcellB h.1).1,fun o=>by simp only [World.cell?,h.2]⟩
theorem kR (W:World):SinceK B g W W.drew:=⟨Below.drew (Below.refl _ _),rfl⟩
theorem kA (h:SinceK B g W w) (hB:B≤W.heap.size) (hg:g<W.heap.size) (o:Obj):SinceK B g W (w.alloc o) :=
 ⟨h.1.alloc (Nat.le_trans hB h.1.size) o,by rw [Below.heap_alloc w o g (Nat.lt_of_lt_of_le hg h.1.size)];exact h.2⟩
theorem kC (h:SinceK B g W w) (k:Below w.heap.size w w') (hB:B≤W.heap.size) (hg:g<W.heap.size):SinceK B g W w' :=
 ⟨h.1.trans (k.mono (Nat.le_trans hB h.1.size)),(k.block g (Nat.lt_of_lt_of_le hg h.1.size)).trans h.2⟩
theorem kG (h:SinceK B g W w) {row:Option Nat} (k:w.grownBy w' row) (hr:∀ q,row=some q→B≤q) (hn:some g≠row) (hB:B≤W.heap.size) (hg:g<W.heap.size):SinceK B g W w' :=
 ⟨h.1.grown k (Nat.le_trans hB h.1.size) hr,(k.block g (Nat.lt_of_lt_of_le hg h.1.size) hn).trans h.2⟩
theorem kS (h:SinceK B g W w) {p:Addr} (hB:B≤p.block) (hn:g≠p.block) (u:Value):SinceK B g W (w.setCell p u) :=
 ⟨h.1.setCell hB u,(Below.heap_setCell w p u g hn).trans h.2⟩
end
section
variable {P:Program} {ops:Array Oper} {Q:Exit→Act→World→Prop}
theorem rg_pK {l:List Oper} {i m:Nat} {oi:Oper} {r:RPlan} {a:Act} {w W:World} {B g:Nat} {v:Value} (H:PLift (ops=l.toArray)) (hi:l[i]? = some oi) (hS:SinceK B g W w) (hg:oi.guard=none)
  (hy:∀ wq:World,(∀ b o,b<B→wq.cell? ⟨b,o,none⟩=W.cell? ⟨b,o,none⟩)→(∀ o,wq.cell? ⟨g,o,none⟩=W.cell? ⟨g,o,none⟩)→(execOp a.eval oi).run P wq=.ok (.value v) wq) (h:Planned P ops (NoPanic Q) (SinceK B g W) r (a.put oi.dst v) w):Planned P ops (NoPanic Q) (SinceK B g W) (.take i m r) a w :=
 rg_yp H hi hS hg (fun wq hq=>hy wq (kcell hq).1 (kcell hq).2) h
end
end Go.Proofs.YtpempeioeiaijaaGreat
namespace Go.Proofs.YtpempeioeiaijaaGreat
open Go.RowKit

def RetNds (w:World) (l:List Nd) (e:Ending) (w':World):Prop :=
 ∃ A c,e=.returned (.slice A l.length c)∧Below w.heap.size w w'∧Own w' w.heap.size 47 3 ndC (.slice A l.length c) l
set_option maxHeartbeats 400000 in
theorem Clone_nd_spec (v:Value) (l:List Nd) (w:World) (h:Nds w v l) (hl:l.length≤1048576) :
  Calls Tryz.prog 118 #[v] w (RetNds w l):=by
 have H:=h
 obtain ⟨A,c,rfl,hn,hc,hR⟩:=h
 have hE:=Lib.run_eql_slice_nil (P:=Tryz.prog) (t:=30) (e:=47)
 rcases A with _ | ad
 ·
  have hl0:l=[]:=by
   rcases l with _ | ⟨a,l⟩
   · rfl
   ·
    obtain ⟨b,o,e,_⟩:=hR (by simp [ndC])
    cases e
  subst hl0
  clear hR H
  simp only [List.length_nil] at hn ⊢
  have hE1:∀ W:World,(binOp .eql 30 (.slice none 0 c) (.slice none 0 0)).run Tryz.prog W=.ok (.bool true) W:=fun W=>Lib.run_eql_slice_nil W _ 47 none _ c 0 0 Tryz.underlying30
  clear hE
  go_enter Tryz.func118,Tryz.ntmps118
  go_wp2
  go_ret
  exact ⟨_,_,rfl,bR w,Own.nil _ _ _ _ _⟩
 ·
  have hE1:∀ W:World,(binOp .eql 30 (.slice (some ad) l.length c) (.slice none 0 0)).run Tryz.prog W=.ok (.bool false) W:=fun W=>Lib.run_eql_slice_nil W _ 47 (some ad) _ c 0 0 Tryz.underlying30
  clear hE hR
  have HH:=Lib.hid H;clear H
  go_enter Tryz.func118,Tryz.ntmps118
  go_wp2_with
   (at_builtin
    refine wpList_appl _ rfl (.tmp 5) (.tmp 6) _ rfl (base:=w.heap.size) elem_nd ndC_len ndC_one rfl (Own.lit _ _ _ _ ndC [] _ 0 _ rfl rfl (Nat.le_refl _) (le_maxLen (by omega)) rfl rfl) rfl (HH.out.mono (bA (bR w) _)) (by simp only [List.length_nil];omega) (by simp only [List.length_nil];omega) (by simp) ?_
    intro v1 w1 hown hg hat)
  go_ret
  obtain ⟨A1,c1,rfl,-⟩:=Own.sl hown
  simp only [List.nil_append] at hown ⊢
  exact ⟨A1,c1,rfl,bG (bA (bR w) _) hg (fun k hk=>by have:w.heap.size=k:=Option.some.inj hk;omega),hown⟩

def bareA (a:Ar):Ar:=⟨a.id,a.fr,a.dst,a.via,0,0⟩
def bareP (p:Pl):Pl:=⟨p.nodes,p.arcs.map bareA,[]⟩
structure PlO (w:World) (B:Nat) (vn va vf:Value) (p:Pl) (bl:List (Ar×SV)):Prop where
 nds:Own w B 47 3 ndC vn p.nodes
 ars:Own w B 50 6 arS va bl
 vias:∀ x∈bl,Own w B 42 2 ptC (svV x.2) x.1.via
 eq:bl.map (·.1)=p.arcs
 fcs:Own w B 3 1 inC vf p.faces
theorem PlO.keep {w w':World} {B:Nat} {vn va vf:Value} {p:Pl} {bl:List (Ar×SV)} (h:PlO w B vn va vf p bl) (hb:Below w.heap.size w w'):PlO w' B vn va vf p bl :=
 ⟨h.nds.keep hb,h.ars.keep hb,fun x hx=>(h.vias x hx).keep hb,h.eq,h.fcs.keep hb⟩
theorem PlO.plv {w:World} {B:Nat} {vn va vf:Value} {p:Pl} {bl:List (Ar×SV)} (h:PlO w B vn va vf p bl):PlV w (.agg #[vn,va,vf]) p:=by
 refine ⟨vn,va,vf,bl.map svA,rfl,?_,h.nds.sl,⟨?_,fun k hk=>?_⟩,h.fcs.sl⟩
 · rw [List.map_map,← h.eq];rfl
 ·
  have:=h.ars.sl
  rw [List.length_map,arS_flat]
  exact this
 ·
  have hk':k<bl.length:=by simpa using hk
  rw [List.getElem_map]
  exact (h.vias _ (List.getElem_mem hk')).sl
def RetPlO (w:World) (p:Pl) (e:Ending) (w':World):Prop :=
 ∃ An cn Aa ca bl,e=.returned (.agg #[.slice An p.nodes.length cn,.slice Aa p.arcs.length ca,.slice none 0 0])∧Below w.heap.size w w'∧PlO w' w.heap.size (.slice An p.nodes.length cn) (.slice Aa p.arcs.length ca) (.slice none 0 0) p bl
theorem PlO.more {w w1:World} {B:Nat} {vn va va' vf:Value} {p:Pl} {bl:List (Ar×SV)} {x:Ar×SV} (h:PlO w B vn va vf p bl) (ho:Own w1 B 50 6 arS va' (bl++[x])) (hg:w.grownBy w1 va.ownBlock) (hx:Own w B 42 2 ptC (svV x.2) x.1.via) :
  PlO w1 B vn va' vf ⟨p.nodes,p.arcs++[x.1],p.faces⟩ (bl++[x]) :=
 ⟨Own.grown h.nds hg (Own.apart h.nds h.ars (by decide)),ho,fun y hy=>by
  rcases List.mem_append.1 hy with hy | hy
  · exact Own.grown (h.vias y hy) hg (Own.apart (h.vias y hy) h.ars (by decide))
  ·
   rw [List.mem_singleton] at hy
   subst hy
   exact Own.grown hx hg (Own.apart hx h.ars (by decide)),by rw [List.map_append,h.eq];rfl,Own.grown h.fcs hg (Own.apart h.fcs h.ars (by decide))⟩
theorem PlO.far {w:World} {B:Nat} {vn va vf:Value} {p:Pl} {bl:List (Ar×SV)} (h:PlO w B vn va vf p bl) {g:Nat} {t:TypeId} {cs:Array Value} (hb:Blk w g t cs) (h1:47≠t) (h2:50≠t) (h3:42≠t) (h4:3≠t) (j:Nat) (u:Value):PlO (w.setCell ⟨g,j,none⟩ u) B vn va vf p bl :=
 ⟨Own.far h.nds (Own.ne_blk h.nds hb h1) u,Own.far h.ars (Own.ne_blk h.ars hb h2) u,fun x hx=>Own.far (h.vias x hx) (Own.ne_blk (h.vias x hx) hb h3) u,h.eq,Own.far h.fcs (Own.ne_blk h.fcs hb h4) u⟩

theorem Row.at6 {w:World} {A:Option Addr} {l:List (Ar×SV)} (h:Row w A (l.flatMap arS)) {k:Nat} (hk:k<l.length) :
  ∃ b o,A=some ⟨b,o,none⟩∧b<w.heap.size∧w.cell? ⟨b,o+k*6,none⟩=some (.int .i64 l[k].1.id)∧w.cell? ⟨b,o+k*6+1,none⟩=some (.int .i64 l[k].1.fr)∧w.cell? ⟨b,o+k*6+2,none⟩=some (.int .i64 l[k].1.dst) ∧
   w.cell? ⟨b,o+k*6+3,none⟩=some (.slice l[k].2.a l[k].2.n l[k].2.c)∧w.cell? ⟨b,o+k*6+4,none⟩=some (.int .i64 l[k].1.left)∧w.cell? ⟨b,o+k*6+5,none⟩=some (.int .i64 l[k].1.right):=by
 obtain ⟨b,o,hA,hb,hc⟩:=h.at_ (n:=6) (fun _=>rfl) hk (by omega)
 exact ⟨b,o,hA,hb,hc 0 _ rfl,hc 1 _ rfl,hc 2 _ rfl,hc 3 _ rfl,hc 4 _ rfl,hc 5 _ rfl⟩
set_option maxRecDepth 100000 in
set_option maxHeartbeats 8000000 in
theorem Bare_spec (v:Value) (p:Pl) (w:World) (h:PlV w v p) (hn:p.nodes.length≤100000) (ha:p.arcs.length≤100000) (hvl:∀ a∈p.arcs,a.via.length≤100000):Calls Tryz.prog 69 #[v] w (RetPlO w (bareP p)):=by
 obtain ⟨_,_,_,al,rfl,hpa,hN,⟨⟨Aa,ca,rfl,ha1,ha2,hRa⟩,hV⟩,⟨Af,cf,rfl,-⟩⟩:=h
 obtain ⟨bl,rfl⟩:=hV.sv
 have hres:p.arcs=bl.map (·.1):=by rw [hpa,List.map_map];rfl
 have hbl:bl.length≤100000:=by rw [hres,List.length_map] at ha;exact ha
 rw [List.length_map] at ha1
 rw [arS_flat] at hRa
 have HVk:=Lib.hid (show ∀ k (hk:k<bl.length),Pts w (.slice bl[k].2.a bl[k].2.n bl[k].2.c) bl[k].1.via from fun k hk=>by
  have:=hV k (by simpa using hk)
  simpa [svA] using this)
 have HVl:=Lib.hid (show ∀ k (hk:k<bl.length),bl[k].1.via.length≤100000 from fun k hk=>hvl _ (by rw [hres];exact List.mem_map_of_mem (List.getElem_mem hk)))
 have HRa:=Lib.hid (show Row w Aa (bl.flatMap arS) from hRa)
 have HCn:=Lib.hid (fun W (hW:Below w.heap.size w W)=>Clone_nd_spec _ p.nodes W (hN.mono hW) (by omega))
 have HCp:=Lib.hid (fun u l W (hu:Pts W u l) (hl:l.length≤1048576)=>Clone_pt_spec u l W hu hl)
 obtain ⟨An,cn,rfl,hn1,hn2,-⟩:=hN
 have Hres:=Lib.hid hres
 rw [List.length_map] at *
 unfold maxLen at ha2 hn2
 clear hV hRa hpa hres hvl
 generalize p.faces.length=nf at *
 go_enter Tryz.func69,Tryz.ntmps69
 go_upto_region 1 with fail
 obtain ⟨g2,hg2⟩:∃ g2,w.heap.size+1=g2:=⟨_,rfl⟩
 obtain ⟨W1,hW⟩:∃ W:World,W=(w.alloc (.cells #[.slice An p.nodes.length cn,.slice Aa bl.length ca,.slice Af nf cf] 34)).alloc (.cells #[.slice none 0 0,.slice none 0 0,.slice none 0 0] 34):=⟨_,rfl⟩
 have X1:Blk W1 w.heap.size 34 #[.slice An p.nodes.length cn,.slice Aa bl.length ca,.slice Af nf cf]:=by rw [hW];exact (Blk.made rfl _ _).alloc _
 have X2:Blk W1 g2 34 #[.slice none 0 0,.slice none 0 0,.slice none 0 0]:=by rw [hW];exact Blk.made (by rw [← hg2];simp) _ _
 have HB1:=Lib.hid (show Below w.heap.size w W1 by rw [hW];exact bA (bA (bR w) _) _)
 rw [← hW]
 try rw [hg2]
 have HX1:=Lib.hid X1;have HX2:=Lib.hid X2
 have n12:¬ g2=w.heap.size:=by omega
 have hgw:w.heap.size≤g2:=by omega
 clear hW hg2
 obtain ⟨X1l,X1a,X1b,X1c,-,-,-⟩:=X1.facts3
 obtain ⟨X2l,X2a,X2b,X2c,X2fa,X2fb,X2fc⟩:=X2.facts3
 go_wp2_with fail
 refine (HCn.out _ HB1.out).mono ?_
 rintro e w2 ⟨An',cn',rfl,hb2,hon⟩
 have HB2:=Lib.hid (bT HB1.out hb2)
 have HX3:=Lib.hid (HX1.out.keep hb2);have HX4:=Lib.hid (HX2.out.keep hb2)
 have hon':=hon.mono_base (b':=w.heap.size) HB1.out.size
 have HPo:=Lib.hid (show PlO w2 w.heap.size (.slice An' p.nodes.length cn') (.slice none 0 0) (.slice none 0 0) ⟨p.nodes,[],[]⟩ [] from ⟨hon',Own.nil _ _ _ _ _,(fun x hx=>by cases hx),rfl,Own.nil _ _ _ _ _⟩)
 clear hb2 hon hon' HCn X1 X1l X1a X1b X1c X2 X2l X2a X2b X2c X2fa X2fb X2fc
 have X3:=HX3.out;have X4:=HX4.out
 obtain ⟨X3l,X3a,X3b,X3c,-,-,-⟩:=X3.facts3
 obtain ⟨X4l,X4a,X4b,X4c,X4fa,X4fb,X4fc⟩:=X4.facts3
 go_wp2_with fail
 go_loopw [12] (fun i wr=>∃ (k:Nat) (ol:List (Ar×SV)) (A:Option Addr) (c:Nat),k≤bl.length∧i=.int .i64 k∧ol.length=k∧PlO wr w.heap.size (.slice An' p.nodes.length cn') (.slice A k c) (.slice none 0 0) ⟨p.nodes,(bl.take k).map (fun x=>bareA x.1),[]⟩ ol∧Blk wr g2 34 #[.slice An' p.nodes.length cn',.slice A k c,.slice none 0 0]∧Below w.heap.size w wr) (fun i _=>bl.length-(intOf i).toNat)
 case atStart => exact ⟨0,[],none,0,Nat.zero_le _,rfl,rfl,HPo.out.far HX4.out (by decide) (by decide) (by decide) (by decide) 0 _,by simpa using HX4.out.set_ 0 (.slice An' p.nodes.length cn'),bS HB2.out hgw _⟩
 case round =>
  clear HPo HX4 HB2 X3 X3l X3a X3b X3c X4 X4l X4a X4b X4c X4fa X4fb X4fc
  obtain ⟨k,ol,A,c,hk,rfl,hol,hpo,X4,hb⟩:=hrel
  obtain ⟨wo,rfl⟩:∃ wo:World,wo=wr:=⟨_,rfl⟩
  have HP:=Lib.hid hpo;have HX4:=Lib.hid X4;have HB:=Lib.hid hb;have HOl:=Lib.hid hol
  have hl4:=X4.lt
  clear hpo hb
  by_cases hlt:k<bl.length
  ·
   obtain ⟨b,o,hAb,hlb,c0,c1,c2,c3,c4,c5⟩:=(Row.mono HRa.out HB.out).at6 hlt
   subst hAb
   have hv:=HVk.out k hlt
   have hvl:=HVl.out k hlt
   have htk:bl.take (k+1)=bl.take k++[bl[k]]:=List.take_succ_eq_append_getElem hlt
   generalize bl[k]=x at *
   obtain ⟨⟨id,fr,dst,via,lf,rt⟩,⟨va,vn,vc⟩⟩:=x
   simp only at c0 c1 c2 c3 c4 c5 hv hvl htk
   have hv0:=hv
   obtain ⟨Av,cv,hev,-,-,-⟩:=hv
   injection hev with y1 y2 y3
   subst y1 y2 y3
   have HVs:=Lib.hid (fun W (hW:Below w.heap.size w W)=>HCp.out (.slice va via.length vc) via W (hv0.mono hW) (by omega))
   clear hv0
   have HTk:=Lib.hid htk
   clear htk
   go_upto_region 5 with fail
   obtain ⟨W2,hW⟩:∃ W:World,W=wo.alloc (.cells #[.int .i64 id,.int .i64 fr,.int .i64 dst,.slice va via.length vc,.int .i64 lf,.int .i64 rt] 50):=⟨_,rfl⟩
   have hA:Below wo.heap.size wo W2:=by rw [hW];exact bA (bR wo) _
   obtain ⟨g4,hg4⟩:∃ g4,wo.heap.size=g4:=⟨_,rfl⟩
   have X6:Blk W2 g4 50 #[.int .i64 id,.int .i64 fr,.int .i64 dst,.slice va via.length vc,.int .i64 lf,.int .i64 rt]:=by rw [hW];exact Blk.made hg4.symm _ _
   have HB2:=Lib.hid (bT HB.out hA);have HP2:=Lib.hid (HP.out.keep hA);have HX5:=Lib.hid (HX4.out.keep hA)
   have n4:some g4≠(Value.slice A k c).ownBlock:=fun e=>by have:=(HP.out.ars.lt _ e.symm).2;omega
   have n42:¬ g4=g2:=by omega
   have hz2:=HB2.out.size
   have hz2o:=hA.size
   rw [← hW]
   try rw [hg4]
   clear hW hA c0 c1 c2 c3 c4 c5 hlb HP HB HX4
   have X5:=HX5.out
   clear X4
   have HSh:=Lib.hid (fun (y:Ar×SV)=>show (ol++[y]).length=k+1 from by rw [List.length_append,HOl.out];rfl)
   have holk:ol.length≤100000:=by omega
   have hgw2:w.heap.size≤g2:=hgw
   have HXt:=Lib.hid (fun (A7:Option Addr) (c7:Nat)=>show (bl.take (k+1)).map (fun x=>bareA x.1)=(bl.take k).map (fun x=>bareA x.1)++[(⟨id,fr,dst,via,0,0⟩:Ar)] from by rw [HTk.out,List.map_append];rfl)
   obtain ⟨X6l,X6a,X6b,X6c,X6d,X6e,X6f,-,-,-,-,-,-⟩:=X6.facts6
   have hl5:=X5.lt
   have n5:=Own.ne_blk HP2.out.ars HX5.out (by decide)
   refine rg_start (SinceK (w.heap.size) (g4) W2) (.take 0 1 (.run 8 2 1 (.two 1 1023 (.call 10 2047 (.take 11 4095 (.call 12 8191 (.call 13 16383 (.take 14 32767 (.call 15 65535 (.done))))))) 10 2045 (.take 11 4093 (.two 1 4095 (.call 12 8191 (.call 13 16383 (.take 14 32767 (.call 15 65535 (.done))))) 12 8189 (.call 1 8191 (.call 13 16383 (.take 14 32767 (.call 15 65535 (.done)))))))))) (by kernel_rfl) (kR _) (by kernel_rfl) (by kernel_rfl) (Nat.le_of_ble_eq_true (by kernel_rfl)) ?_
   intro opsR QR Hops HQrg hS
   replace X5:=X5.drew
   iterate 9
    apply rg_pK;exact Hops;exact rfl;exact hS;exact rfl
    · intro _ hqc hqd;go_simp;try rfl
    try simp only [pu]
   refine rg_two (i:=1) (j:=10) (get_of Hops rfl) (get_of Hops rfl) (fun K hK=>?_) (fun K hK=>?_)
   ·
    have HSrg:=Lib.hid hS;clear hS
    refine rg_run (wanted_plain rfl) ?_
    obtain ⟨z1,z2,z3,z4,-⟩:=Blk.facts3 X5
    go_simp
    refine hK.out _ _ HSrg.out (fun hS=>?_)
    clear hK K HSrg
    try simp only [pu]
    refine rg_call (i:=10) (get_of Hops rfl) (fun K hK=>?_)
    have HSrg:=Lib.hid hS;clear hS
    refine rg_run (wanted_plain rfl) ?_
    go_simp
    refine (HVs.out _ (bT HB2.out (bD (bR W2)))).mono ?_
    rintro e wr1 ⟨A9,c9,rfl,hbr1,ho9⟩
    have hS:SinceK (w.heap.size) (g4) W2 wr1:=kC HSrg.out hbr1 (by omega) (by omega)
    clear HSrg
    try replace XL:=XL.keep hbr1
    try replace X5:=X5.keep hbr1
    refine hK.out _ _ hS (fun _=>?_)
    clear hK K
    try simp only [pu]
    apply rg_pK;exact Hops;exact rfl;exact hS;exact rfl
    · intro _ hqc hqd;go_simp;try rfl
    try simp only [pu]
    refine rg_call (i:=12) (get_of Hops rfl) (fun K hK=>?_)
    have HSrg:=Lib.hid hS;clear hS
    refine rg_run (wanted_plain rfl) ?_
    go_simp
    have XLy:Below (w.heap.size) W2 (wr1):=HSrg.out.1
    have XLz:w.heap.size≤(wr1).heap.size:=Nat.le_trans (by omega) (show Below (w.heap.size) W2 (wr1) from HSrg.out.1).size
    refine hK.out _ _ (kA HSrg.out (by omega) (by omega) _) (fun hS=>?_)
    clear hK K HSrg
    try replace X5:=X5.alloc (.cells #[.int .i64 id,.int .i64 fr,.int .i64 dst,.slice A9 via.length c9,.int .i64 0,.int .i64 0] 50)
    try replace XL:=XL.alloc (.cells #[.int .i64 id,.int .i64 fr,.int .i64 dst,.slice A9 via.length c9,.int .i64 0,.int .i64 0] 50)
    have XL:=Blk.new (wr1) 50 #[.int .i64 id,.int .i64 fr,.int .i64 dst,.slice A9 via.length c9,.int .i64 0,.int .i64 0]
    try simp only [World.size_drew,World.size_alloc] at XL XLz
    try simp only [World.alloc_drew] at X5
    try simp only [World.alloc_drew] at XL
    try simp only [pu]
    refine rg_call (i:=13) (get_of Hops rfl) (fun K hK=>?_)
    have HSrg:=Lib.hid hS;clear hS
    refine rg_run (wanted_plain rfl) ?_
    refine wp_appl (.tmp 17) (.tmp 28) _ rfl (base:=w.heap.size) elem_ar arS_len arS_one rfl (((HP2.out.ars.keep (bD (bR W2))).keep hbr1).alloc _) rfl (l2:=[((⟨id,fr,dst,via,0,0⟩:Ar),(⟨A9,via.length,c9⟩:SV))]) (Sl.lit (n:=1) (Blk.made rfl _ _) rfl (le_maxLen (by omega))) (by simp only [List.length_cons,List.length_nil];omega) (by simp only [List.length_cons,List.length_nil];omega) (by have:=hbr1.size;simp at this;simp;omega) ?_
    intro v7 w7 ho7 hg7 hat7
    obtain ⟨A7,c7,hv7,-⟩:=Own.shape_ ho7
    rw [HSh.out] at hv7
    subst hv7
    have hX7:=Blk.grown X5 hg7 (fun e=>n5 e.symm)
    obtain ⟨q1,q2,q3,q4,q5,q6,q7⟩:=Blk.facts3 hX7
    have hmr:=PlO.more (((HP2.out.keep (bD (bR W2))).keep hbr1).keep (bA (bR _) _)) ho7 hg7 (Own.alloc (ho9.mono_base (by simp;omega)) _)
    have HPf:=Lib.hid (hmr.far hX7 (by decide) (by decide) (by decide) (by decide) 1 (.slice A7 (k+1) c7))
    have HXf:=Lib.hid (hX7.set_ 1 (.slice A7 (k+1) c7))
    have HBf:=Lib.hid (bS (p:=⟨g2,1,none⟩) (bG (bA (bT (bT HB2.out (bD (bR W2))) hbr1) _) hg7 (fun q hq=>(HP2.out.ars.lt q hq).1)) hgw2 (.slice A7 (k+1) c7))
    have hS:SinceK w.heap.size g4 W2 w7:=kG HSrg.out hg7 (fun q hq=>(HP2.out.ars.lt q hq).1) n4 (by omega) (by omega)
    clear hmr hX7 ho7 hg7 hat7
    clear HSrg
    refine hK.out _ _ hS (fun _=>?_)
    clear hK K
    try simp only [pu]
    apply rg_pK;exact Hops;exact rfl;exact hS;exact rfl
    · intro _ hqc hqd;go_simp;try rfl
    try simp only [pu]
    refine rg_call (i:=15) (get_of Hops rfl) (fun K hK=>?_)
    have HSrg:=Lib.hid hS;clear hS
    refine rg_run (wanted_plain rfl) ?_
    go_simp
    refine hK.out _ _ (kS HSrg.out (by first | omega | (simp;omega)) (by first | omega | (simp;omega)) _) (fun hS=>?_)
    clear hK K HSrg
    try simp only [pu]
    refine rg_done ?_
    refine HQrg.down _ _ ?_
    have hBk:=hS.2
    have hB:Below (w.heap.size) W2 _:=hS.1
    clear hS HQrg Hops
    go_wp2_with fail
    go_roundw
    case rel => exact ⟨k+1,_,A7,c7,by omega,by go_num,HSh.out _,by rw [HXt.out A7 c7];exact HPf.out,by simpa using HXf.out,HBf.out⟩
    case measure => simp [intOf];omega
   ·
    have HSrg:=Lib.hid hS;clear hS
    refine rg_run (wanted_plain rfl) ?_
    go_simp
    refine (HVs.out _ (bT HB2.out (bD (bR W2)))).mono ?_
    rintro e wr1 ⟨A9,c9,rfl,hbr1,ho9⟩
    have hS:SinceK (w.heap.size) (g4) W2 wr1:=kC HSrg.out hbr1 (by omega) (by omega)
    clear HSrg
    try replace XL:=XL.keep hbr1
    try replace X5:=X5.keep hbr1
    refine hK.out _ _ hS (fun _=>?_)
    clear hK K
    try simp only [pu]
    apply rg_pK;exact Hops;exact rfl;exact hS;exact rfl
    · intro _ hqc hqd;go_simp;try rfl
    try simp only [pu]
    refine rg_two (i:=1) (j:=12) (get_of Hops rfl) (get_of Hops rfl) (fun K hK=>?_) (fun K hK=>?_)
    ·
     have HSrg:=Lib.hid hS;clear hS
     refine rg_run (wanted_plain rfl) ?_
     obtain ⟨z1,z2,z3,z4,-⟩:=Blk.facts3 X5
     go_simp
     refine hK.out _ _ HSrg.out (fun hS=>?_)
     clear hK K HSrg
     try simp only [pu]
     refine rg_call (i:=12) (get_of Hops rfl) (fun K hK=>?_)
     have HSrg:=Lib.hid hS;clear hS
     refine rg_run (wanted_plain rfl) ?_
     go_simp
     have XLy:Below (w.heap.size) W2 (wr1):=HSrg.out.1
     have XLz:w.heap.size≤(wr1).heap.size:=Nat.le_trans (by omega) (show Below (w.heap.size) W2 (wr1) from HSrg.out.1).size
     refine hK.out _ _ (kA HSrg.out (by omega) (by omega) _) (fun hS=>?_)
     clear hK K HSrg
     try replace X5:=X5.alloc (.cells #[.int .i64 id,.int .i64 fr,.int .i64 dst,.slice A9 via.length c9,.int .i64 0,.int .i64 0] 50)
     try replace XL:=XL.alloc (.cells #[.int .i64 id,.int .i64 fr,.int .i64 dst,.slice A9 via.length c9,.int .i64 0,.int .i64 0] 50)
     have XL:=Blk.new (wr1) 50 #[.int .i64 id,.int .i64 fr,.int .i64 dst,.slice A9 via.length c9,.int .i64 0,.int .i64 0]
     try simp only [World.size_drew,World.size_alloc] at XL XLz
     try simp only [World.alloc_drew] at X5
     try simp only [World.alloc_drew] at XL
     try simp only [pu]
     refine rg_call (i:=13) (get_of Hops rfl) (fun K hK=>?_)
     have HSrg:=Lib.hid hS;clear hS
     refine rg_run (wanted_plain rfl) ?_
     refine wp_appl (.tmp 17) (.tmp 28) _ rfl (base:=w.heap.size) elem_ar arS_len arS_one rfl (((HP2.out.ars.keep (bD (bR W2))).keep hbr1).alloc _) rfl (l2:=[((⟨id,fr,dst,via,0,0⟩:Ar),(⟨A9,via.length,c9⟩:SV))]) (Sl.lit (n:=1) (Blk.made rfl _ _) rfl (le_maxLen (by omega))) (by simp only [List.length_cons,List.length_nil];omega) (by simp only [List.length_cons,List.length_nil];omega) (by have:=hbr1.size;simp at this;simp;omega) ?_
     intro v7 w7 ho7 hg7 hat7
     obtain ⟨A7,c7,hv7,-⟩:=Own.shape_ ho7
     rw [HSh.out] at hv7
     subst hv7
     have hX7:=Blk.grown X5 hg7 (fun e=>n5 e.symm)
     obtain ⟨q1,q2,q3,q4,q5,q6,q7⟩:=Blk.facts3 hX7
     have hmr:=PlO.more (((HP2.out.keep (bD (bR W2))).keep hbr1).keep (bA (bR _) _)) ho7 hg7 (Own.alloc (ho9.mono_base (by simp;omega)) _)
     have HPf:=Lib.hid (hmr.far hX7 (by decide) (by decide) (by decide) (by decide) 1 (.slice A7 (k+1) c7))
     have HXf:=Lib.hid (hX7.set_ 1 (.slice A7 (k+1) c7))
     have HBf:=Lib.hid (bS (p:=⟨g2,1,none⟩) (bG (bA (bT (bT HB2.out (bD (bR W2))) hbr1) _) hg7 (fun q hq=>(HP2.out.ars.lt q hq).1)) hgw2 (.slice A7 (k+1) c7))
     have hS:SinceK w.heap.size g4 W2 w7:=kG HSrg.out hg7 (fun q hq=>(HP2.out.ars.lt q hq).1) n4 (by omega) (by omega)
     clear hmr hX7 ho7 hg7 hat7
     clear HSrg
     refine hK.out _ _ hS (fun _=>?_)
     clear hK K
     try simp only [pu]
     apply rg_pK;exact Hops;exact rfl;exact hS;exact rfl
     · intro _ hqc hqd;go_simp;try rfl
     try simp only [pu]
     refine rg_call (i:=15) (get_of Hops rfl) (fun K hK=>?_)
     have HSrg:=Lib.hid hS;clear hS
     refine rg_run (wanted_plain rfl) ?_
     go_simp
     refine hK.out _ _ (kS HSrg.out (by first | omega | (simp;omega)) (by first | omega | (simp;omega)) _) (fun hS=>?_)
     clear hK K HSrg
     try simp only [pu]
     refine rg_done ?_
     refine HQrg.down _ _ ?_
     have hBk:=hS.2
     have hB:Below (w.heap.size) W2 _:=hS.1
     clear hS HQrg Hops
     go_wp2_with fail
     go_roundw
     case rel => exact ⟨k+1,_,A7,c7,by omega,by go_num,HSh.out _,by rw [HXt.out A7 c7];exact HPf.out,by simpa using HXf.out,HBf.out⟩
     case measure => simp [intOf];omega
    ·
     have HSrg:=Lib.hid hS;clear hS
     refine rg_run (wanted_plain rfl) ?_
     go_simp
     have XLy:Below (w.heap.size) W2 (wr1):=HSrg.out.1
     have XLz:w.heap.size≤(wr1).heap.size:=Nat.le_trans (by omega) (show Below (w.heap.size) W2 (wr1) from HSrg.out.1).size
     refine hK.out _ _ (kA HSrg.out (by omega) (by omega) _) (fun hS=>?_)
     clear hK K HSrg
     try replace X5:=X5.alloc (.cells #[.int .i64 id,.int .i64 fr,.int .i64 dst,.slice A9 via.length c9,.int .i64 0,.int .i64 0] 50)
     try replace XL:=XL.alloc (.cells #[.int .i64 id,.int .i64 fr,.int .i64 dst,.slice A9 via.length c9,.int .i64 0,.int .i64 0] 50)
     have XL:=Blk.new (wr1) 50 #[.int .i64 id,.int .i64 fr,.int .i64 dst,.slice A9 via.length c9,.int .i64 0,.int .i64 0]
     try simp only [World.size_drew,World.size_alloc] at XL XLz
     try simp only [World.alloc_drew] at X5
     try simp only [World.alloc_drew] at XL
     try simp only [pu]
     refine rg_call (i:=1) (get_of Hops rfl) (fun K hK=>?_)
     have HSrg:=Lib.hid hS;clear hS
     refine rg_run (wanted_plain rfl) ?_
     obtain ⟨z1,z2,z3,z4,-⟩:=Blk.facts3 X5
     go_simp
     refine hK.out _ _ HSrg.out (fun hS=>?_)
     clear hK K HSrg
     try simp only [pu]
     refine rg_call (i:=13) (get_of Hops rfl) (fun K hK=>?_)
     have HSrg:=Lib.hid hS;clear hS
     refine rg_run (wanted_plain rfl) ?_
     refine wp_appl (.tmp 17) (.tmp 28) _ rfl (base:=w.heap.size) elem_ar arS_len arS_one rfl (((HP2.out.ars.keep (bD (bR W2))).keep hbr1).alloc _) rfl (l2:=[((⟨id,fr,dst,via,0,0⟩:Ar),(⟨A9,via.length,c9⟩:SV))]) (Sl.lit (n:=1) (Blk.made rfl _ _) rfl (le_maxLen (by omega))) (by simp only [List.length_cons,List.length_nil];omega) (by simp only [List.length_cons,List.length_nil];omega) (by have:=hbr1.size;simp at this;simp;omega) ?_
     intro v7 w7 ho7 hg7 hat7
     obtain ⟨A7,c7,hv7,-⟩:=Own.shape_ ho7
     rw [HSh.out] at hv7
     subst hv7
     have hX7:=Blk.grown X5 hg7 (fun e=>n5 e.symm)
     obtain ⟨q1,q2,q3,q4,q5,q6,q7⟩:=Blk.facts3 hX7
     have hmr:=PlO.more (((HP2.out.keep (bD (bR W2))).keep hbr1).keep (bA (bR _) _)) ho7 hg7 (Own.alloc (ho9.mono_base (by simp;omega)) _)
     have HPf:=Lib.hid (hmr.far hX7 (by decide) (by decide) (by decide) (by decide) 1 (.slice A7 (k+1) c7))
     have HXf:=Lib.hid (hX7.set_ 1 (.slice A7 (k+1) c7))
     have HBf:=Lib.hid (bS (p:=⟨g2,1,none⟩) (bG (bA (bT (bT HB2.out (bD (bR W2))) hbr1) _) hg7 (fun q hq=>(HP2.out.ars.lt q hq).1)) hgw2 (.slice A7 (k+1) c7))
     have hS:SinceK w.heap.size g4 W2 w7:=kG HSrg.out hg7 (fun q hq=>(HP2.out.ars.lt q hq).1) n4 (by omega) (by omega)
     clear hmr hX7 ho7 hg7 hat7
     clear HSrg
     refine hK.out _ _ hS (fun _=>?_)
     clear hK K
     try simp only [pu]
     apply rg_pK;exact Hops;exact rfl;exact hS;exact rfl
     · intro _ hqc hqd;go_simp;try rfl
     try simp only [pu]
     refine rg_call (i:=15) (get_of Hops rfl) (fun K hK=>?_)
     have HSrg:=Lib.hid hS;clear hS
     refine rg_run (wanted_plain rfl) ?_
     go_simp
     refine hK.out _ _ (kS HSrg.out (by first | omega | (simp;omega)) (by first | omega | (simp;omega)) _) (fun hS=>?_)
     clear hK K HSrg
     try simp only [pu]
     refine rg_done ?_
     refine HQrg.down _ _ ?_
     have hBk:=hS.2
     have hB:Below (w.heap.size) W2 _:=hS.1
     clear hS HQrg Hops
     go_wp2_with fail
     go_roundw
     case rel => exact ⟨k+1,_,A7,c7,by omega,by go_num,HSh.out _,by rw [HXt.out A7 c7];exact HPf.out,by simpa using HXf.out,HBf.out⟩
     case measure => simp [intOf];omega
  ·
   obtain rfl:k=bl.length:=by omega
   have hlen:p.arcs.length=bl.length:=by rw [Hres.out,List.length_map]
   have hpe:(⟨p.nodes,(bl.take bl.length).map (fun x=>bareA x.1),[]⟩:Pl)=bareP p:=by
    unfold bareP
    rw [List.take_length,Hres.out,List.map_map]
    rfl
   have hpo:=HP.out
   rw [hpe] at hpo
   have HPf:=Lib.hid (((hpo.far HX4.out (by decide) (by decide) (by decide) (by decide) 0 (.slice An' p.nodes.length cn')).far (HX4.out.set_ 0 _) (by decide) (by decide) (by decide) (by decide) 1 (.slice A bl.length c)).far ((HX4.out.set_ 0 _).set_ 1 _) (by decide) (by decide) (by decide) (by decide) 2 (.slice none 0 0))
   have HBf:=Lib.hid (bS (p:=⟨g2,2,none⟩) (bS (p:=⟨g2,1,none⟩) (bS (p:=⟨g2,0,none⟩) HB.out hgw (.slice An' p.nodes.length cn')) hgw (.slice A bl.length c)) hgw (.slice none 0 0))
   have HLn:=Lib.hid hlen
   clear hpo hpe hlen HP
   try clear X4l
   try clear X4a
   try clear X4b
   try clear X4c
   try clear X4fa
   try clear X4fb
   try clear X4fc
   obtain ⟨X4l,X4a,X4b,X4c,X4fa,X4fb,X4fc⟩:=X4.facts3
   go_wp2_with fail
   refine res_cell (g:=g2) (cs:=#[.slice An' p.nodes.length cn',.slice A bl.length c,.slice none 0 0]) rfl struct_pl rfl rfl (Blk.put3 HX4.out) ?_
   have hl1:(bareP p).arcs.length=bl.length:=by unfold bareP;rw [List.length_map];exact HLn.out
   refine ⟨An',cn',A,c,ol,by rw [hl1];rfl,HBf.out,?_⟩
   rw [hl1]
   exact HPf.out
end Go.Proofs.YtpempeioeiaijaaGreat
namespace Go.Proofs.YtpempeioeiaijaaGreat
open Go.RowKit Go.Sort

theorem isAgg_Ad:∀ w,(isAgg 106).run Tryz.prog w=.ok true w:=fun _=>by kernel_rfl
theorem sizeOf_Ad:∀ w,(Go.sizeOf 106).run Tryz.prog w=.ok 4 w:=fun _=>by kernel_rfl
end Go.Proofs.YtpempeioeiaijaaGreat
namespace Go.Proofs.YtpempeioeiaijaaGreat
open Go.RowKit Go.Sort

theorem SortAdT_spec (w0:World) (base g c cap:Nat) (z:AD) (sl:List AD) (w:World) (hown:Own w base 106 4 adC (.slice (some ⟨g,0,none⟩) (sl.length+1) c) (z::sl)) (hpos:0<sl.length) (hb0:Below w0.heap.size w0 w) (hbase:w0.heap.size≤base) (hok:∀ s∈sl,AdKey w0 s) (hn:sl.length≤4294967296) :
  Calls Tryz.prog 73 #[.slice (some ⟨g,4,none⟩) sl.length cap,.func (.func 74) #[] #[]] w fun e w'=>e=.returned (.tuple #[])∧∃ sl':List AD,sl'.Perm sl∧sl'.Pairwise (fun a b=>ltOf (fun x y:AD=>cmpK (keyL x.out) (keyL y.out)) b a=false)∧Own w' base 106 4 adC (.slice (some ⟨g,0,none⟩) (sl.length+1) c) (z::sl')∧w.grownBy w' (some g):=by
 have hs0:sl[0]∈sl:=List.getElem_mem hpos
 obtain ⟨hlen,hown2⟩:=hown
 rcases hown2 with ⟨_,h0⟩ | ⟨g',cap',cur,hv,hg,hh,hnc,hcm,hcs,hx⟩
 · cases h0
 injection hv with e1 _ e3
 injection e1 with e1
 injection e1 with e1 _ _
 subst e1 e3
 have hnl:(z::sl).length=sl.length+1:=rfl
 rw [hnl] at hnc hx hlen
 have hfl:(z::sl).flatMap adC=adC z++sl.flatMap adC:=rfl
 have hsl4:(sl.flatMap adC).length=sl.length*4:=flat_length adC 4 adC_len sl
 haveI hI:Inhabited {s:AD // AdKey w0 s}:=⟨⟨sl[0],hok _ hs0⟩⟩
 have hdl:∃ dl:List {s:AD // AdKey w0 s},dl.map (·.1)=sl:=⟨sl.attachWith (fun s=>AdKey w0 s) hok,by simp⟩
 obtain ⟨dl,hdl⟩:=hdl
 have hdn:dl.length=sl.length:=by rw [← hdl];simp
 have hfm:dl.flatMap (fun x=>adC x.1)=sl.flatMap adC:=by rw [← hdl,List.flatMap_map]
 have hcur:∀ j,j<sl.length*4→cur[4+j]? = (sl.flatMap adC)[j]? := fun j hj=>by
  have h9:((z::sl).flatMap adC)[4+j]? = (sl.flatMap adC)[j]? := by
   rw [hfl,List.getElem?_append_right (by rw [adC_len];omega),adC_len,Nat.add_sub_cancel_left]
  rw [← h9,← hx,List.getElem?_take,if_pos (by omega)];simp
 have eg:∀ args w,(callFunc 74 args).run Tryz.prog w=.ok (.enter 74 args) w:=enters_of Tryz.func74 (by kernel_rfl) rfl
 have hkk:∀ x:{s:AD // AdKey w0 s},(adC x.1).length=4:=fun _=>rfl
 have hcmp:CmpLays Tryz.prog 74 #[] (fun x:{s:AD // AdKey w0 s}=>adC x.1) 4 (fun x y=>(fun x y:AD=>cmpK (keyL x.out) (keyL y.out)) x.1 y.1) g 4 dl.toArray.size w:=fun m os dk hdk x y=>by
  have hg':=sort_grown (fun x:{s:AD // AdKey w0 s}=>adC x.1) 4 w g 4 m dk os
  have hb9:Below w0.heap.size w0 _:=bG hb0 hg' (fun q hq=>by have:=Option.some.inj hq;omega)
  exact (cmpAd_spec x.1 y.1 _ (x.2.mono hb9) (y.2.mono hb9)).mono fun e w' h=>⟨h.1,belowD_grow h.2⟩
 have hsz:dl.toArray.size*4=sl.length*4:=by simp [hdn]
 have hH:HoldsK (fun x:{s:AD // AdKey w0 s}=>adC x.1) 4 w g 4 dl.toArray:=fun j hj=>by
  rw [size_flatK,hsz] at hj
  refine ⟨?_,Blk.frozen (t:=106) (cs:=cur) hh _⟩
  rw [cell_of_row w g _ cur 106 (0,0) hh,hcur j hj,flatK_list _ 4 hkk _ j (by rw [hsz];exact hj)]
  simp only [id]
  rw [hfm,List.getElem!_eq_getElem?_getD]
  have:j<(sl.flatMap adC).length:=by rw [hsl4];exact hj
  rw [List.getElem?_eq_getElem this];rfl
 have hcon:=AnyQ.slices_SortFunc Tryz.sortAd 4 isAgg_Ad sizeOf_Ad (fun x:{s:AD // AdKey w0 s}=>adC x.1) hkk (fun x=>adC_one x.1) (fun x y=>(fun x y:AD=>cmpK (keyL x.out) (keyL y.out)) x.1 y.1) (swo_cmpK fun x:{s:AD // AdKey w0 s}=>keyL x.1.out) 74 #[] g 4 cap dl.toArray w eg hcmp hH (Blk.lt hh) (by simp;omega)
 have hns:dl.toArray.size=sl.length:=by simp [hdn]
 rw [hns] at hcon
 refine Calls.mono hcon ?_
 rintro e w' ⟨rfl,d',n,os,hp,hs,rfl⟩
 obtain ⟨p1,-,p3⟩:=hp
 have hd':d'.size=sl.length:=by rw [p1,hns]
 have hperm:d'.toList.Perm dl:=by
  have e1:d'.extract 0 sl.length=d':=by rw [← hd'];simp
  have e2:dl.toArray.extract 0 sl.length=dl.toArray:=by rw [← hns];simp
  rw [e1,e2] at p3
  simpa using p3
 have hg':=sort_grown (fun x:{s:AD // AdKey w0 s}=>adC x.1) 4 w g 4 n d' os
 refine ⟨rfl,d'.toList.map (·.1),by rw [← hdl];exact hperm.map _,?_,?_,hg'⟩
 ·
  rw [List.pairwise_map,List.pairwise_iff_getElem]
  intro i j hi hj hij
  have hj':j<d'.size:=by simpa using hj
  have:=hs i j (Nat.zero_le _) hij (by rw [← hd'];exact hj')
  rw [getElem!_pos d' j hj',getElem!_pos d' i (by omega)] at this
  exact this
 ·
  have hl':(d'.toList.map (·.1)).length=sl.length:=by simp [hd']
  unfold Own
  have hl2:(z::d'.toList.map (·.1)).length=sl.length+1:=by rw [List.length_cons,hl']
  rw [hl2]
  have hfd:(d'.toList.map (·.1)).flatMap adC=d'.toList.flatMap (fun x=>adC x.1):=by rw [List.flatMap_map]
  have hln:((d'.toList.map (·.1)).flatMap adC).length=sl.length*4:=by rw [flat_length adC 4 adC_len,hl']
  have hfl2:(z::d'.toList.map (·.1)).flatMap adC=adC z++(d'.toList.map (·.1)).flatMap adC:=rfl
  have hln2:((z::d'.toList.map (·.1)).flatMap adC).length=(sl.length+1)*4:=by rw [hfl2,List.length_append,adC_len,hln];omega
  refine ⟨hln2,.inr ⟨g,c,putCells id 4 (flatK (fun x:{s:AD // AdKey w0 s}=>adC x.1) 4 d') cur,rfl,hg,?_,hnc,hcm,by simp [putCells,hcs],?_⟩⟩
  ·
   have hgl:g<w.heap.size:=Blk.lt hh
   rw [sort_heap,Array.getElem?_append_left (by simpa using hgl),Array.getElem?_modify,if_pos rfl,hh]
   rfl
  ·
   apply List.ext_getElem?
   intro j
   rw [List.getElem?_take]
   by_cases hj:j<(sl.length+1)*4
   ·
    rw [if_pos hj,hfl2,hfd]
    have hjc:j<cur.size:=by rw [hcs];have:=Nat.mul_le_mul_right 4 hnc;omega
    by_cases h4:j<4
    ·
     have e1:(putCells id 4 (flatK (fun x:{s:AD // AdKey w0 s}=>adC x.1) 4 d') cur).toList[j]? = cur.toList[j]? := by
      simp [putCells,hjc,show ¬ 4≤j by omega]
     rw [e1,List.getElem?_append_left (by rw [adC_len];exact h4)]
     have h9:((z::sl).flatMap adC)[j]? = (adC z)[j]? := by rw [hfl,List.getElem?_append_left (by rw [adC_len];exact h4)]
     rw [← h9,← hx,List.getElem?_take,if_pos (by omega)]
    ·
     obtain ⟨i,rfl⟩:∃ i,j=4+i:=⟨j-4,by omega⟩
     have hjd:i<d'.size*4:=by rw [hd'];omega
     have e1:(putCells id 4 (flatK (fun x:{s:AD // AdKey w0 s}=>adC x.1) 4 d') cur).toList[4+i]? = some (flatK (fun x:{s:AD // AdKey w0 s}=>adC x.1) 4 d')[i]! := by
      simp [putCells,hjc,hjd]
     rw [e1,flatK_list _ 4 hkk _ i hjd,List.getElem!_eq_getElem?_getD,List.getElem?_append_right (by rw [adC_len];omega),adC_len,Nat.add_sub_cancel_left]
     have:i<(d'.toList.flatMap fun x=>adC x.1).length:=by rw [← hfd,hln];omega
     rw [List.getElem?_eq_getElem this];rfl
   · rw [if_neg hj,List.getElem?_eq_none (by rw [hln2];omega)]
end Go.Proofs.YtpempeioeiaijaaGreat
