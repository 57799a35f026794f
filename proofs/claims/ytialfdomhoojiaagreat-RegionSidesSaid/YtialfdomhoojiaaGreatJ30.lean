import Derived.Test.YtialfdomhoojiaaGreatJ14
import Derived.Test.YtialfdomhoojiaaGreatJ19
import Derived.Test.YtialfdomhoojiaaGreatJ29
import Derived.Test.YtialfdomhoojiaaGreatJ26
import Derived.Test.YtialfdomhoojiaaGreatJ28
import Derived.Test.YtialfdomhoojiaaGreatJ01
import Derived.Test.YtialfdomhoojiaaGreatJ25
import Derived.Test.YtialfdomhoojiaaGreatRegLB
import Derived.Test.YtialfdomhoojiaaGreatJ09
set_option linter.unusedSimpArgs false
set_option linter.unusedVariables false
namespace Go.Proofs.YtialfdomhoojiaaGreat
open Go.RowKit
set_option linter.unusedSectionVars false

def flS (n d:Int):Int:=if 0<d then n / d else (-n) / (-d)
def ceS (n d:Int):Int:=-flS (-n) d
def brkS (y:Int) (q:Pt×Pt):List Int :=
 if y<min q.1.y q.2.y∨max q.1.y q.2.y<y then [] else if q.1.y=q.2.y then [q.1.x,q.2.x]
 else [q.1.x+flS ((y-q.1.y)*(q.2.x-q.1.x)) (q.2.y-q.1.y),q.1.x+ceS ((y-q.1.y)*(q.2.x-q.1.x)) (q.2.y-q.1.y)]
def uniS (a b:List Int):List Int:=b.foldl withS (normS a)
def segA (p:Pl):List (Pt×Pt):=p.arcs.flatMap fun a=>segL (pathS p a)
def brkA (y:Int) (S:List (Pt×Pt)):List Int:=S.foldl (fun l q=>uniS l (brkS y q)) []
def brkN (y:Int) (l:List Int) (n:Nd):List Int:=if n.pt.y=y then withS l n.pt.x else l
def brksS (p:Pl) (y:Int):List Int:=p.nodes.foldl (brkN y) (brkA y (segA p))
theorem foldW_facts:∀ (b l:List Int),l.Pairwise (· < ·)→(b.foldl withS l).Pairwise (· < ·)∧∀ x,x∈b.foldl withS l↔x∈l∨x∈b
 | [],l,h=>⟨h,fun x=>by simp⟩
 | n::b,l,h=>by
  obtain ⟨h1,h2⟩:=withS_facts h n
  obtain ⟨h3,h4⟩:=foldW_facts b _ h1
  refine ⟨h3,fun x=>?_⟩
  rw [List.foldl_cons,h4,h2,List.mem_cons,or_assoc]
theorem uniS_facts (a b:List Int):(uniS a b).Pairwise (· < ·)∧∀ x,x∈uniS a b↔x∈a∨x∈b:=by
 obtain ⟨h1,h2⟩:=normS_facts a
 obtain ⟨h3,h4⟩:=foldW_facts b _ h1
 exact ⟨h3,fun x=>by unfold uniS;rw [h4,h2]⟩
theorem brkA_go (y:Int):∀ (S:List (Pt×Pt)) (l:List Int),l.Pairwise (· < ·)→(S.foldl (fun l q=>uniS l (brkS y q)) l).Pairwise (· < ·)∧∀ x,x∈S.foldl (fun l q=>uniS l (brkS y q)) l↔x∈l∨∃ q∈S,x∈brkS y q
 | [],l,h=>⟨h,fun x=>by simp⟩
 | q::S,l,_=>by
  obtain ⟨h1,h2⟩:=uniS_facts l (brkS y q)
  obtain ⟨h3,h4⟩:=brkA_go y S _ h1
  refine ⟨h3,fun x=>?_⟩
  rw [List.foldl_cons,h4,h2]
  simp only [List.mem_cons,exists_eq_or_imp,or_assoc]
theorem brkN_go (y:Int):∀ (ns:List Nd) (l:List Int),l.Pairwise (· < ·)→(ns.foldl (brkN y) l).Pairwise (· < ·)∧∀ x,x∈ns.foldl (brkN y) l↔x∈l∨∃ n∈ns,n.pt.y=y∧n.pt.x=x
 | [],l,h=>⟨h,fun x=>by simp⟩
 | n::ns,l,h=>by
  have h0:(brkN y l n).Pairwise (· < ·)∧∀ x,x∈brkN y l n↔x∈l∨(n.pt.y=y∧n.pt.x=x):=by
   unfold brkN
   split
   ·
    rename_i e
    obtain ⟨h1,h2⟩:=withS_facts h n.pt.x
    refine ⟨h1,fun x=>?_⟩
    rw [h2]
    exact or_congr Iff.rfl ⟨fun g=>⟨e,g.symm⟩,fun g=>g.2.symm⟩
   ·
    rename_i e
    exact ⟨h,fun x=>⟨.inl,fun g=>g.resolve_right fun g=>e g.1⟩⟩
  obtain ⟨h3,h4⟩:=brkN_go y ns _ h0.1
  refine ⟨h3,fun x=>?_⟩
  rw [List.foldl_cons,h4,h0.2]
  simp only [List.mem_cons,exists_eq_or_imp,or_assoc]
theorem brksS_facts (p:Pl) (y:Int):(brksS p y).Pairwise (· < ·)∧∀ x,x∈brksS p y↔(∃ q∈segA p,x∈brkS y q)∨∃ n∈p.nodes,n.pt.y=y∧n.pt.x=x:=by
 obtain ⟨h1,h2⟩:(brkA y (segA p)).Pairwise (· < ·)∧∀ x,x∈brkA y (segA p)↔x∈[]∨∃ q∈segA p,x∈brkS y q:=brkA_go y (segA p) [] List.Pairwise.nil
 obtain ⟨h3,h4⟩:=brkN_go y p.nodes _ h1
 refine ⟨h3,fun x=>?_⟩
 unfold brksS
 rw [h4]
 refine or_congr ?_ Iff.rfl
 rw [h2]
 simp
theorem flo_bd {t H d:Int} (hH:0<H) (h0:0≤t) (h1:t≤H):min 0 d≤t*d / H∧t*d / H≤max 0 d:=by
 rcases Int.le_total 0 d with h | h
 ·
  have a1:0≤t*d:=Int.mul_nonneg h0 h
  have a2:t*d≤H*d:=Int.mul_le_mul_of_nonneg_right h1 h
  have a3:0≤t*d / H:=Int.ediv_nonneg a1 (by omega)
  have a4:t*d / H≤d:=by
   have:=Int.ediv_le_ediv hH a2
   rwa [Int.mul_ediv_cancel_left _ (by omega)] at this
  omega
 ·
  have a1:t*d≤0:=Int.mul_nonpos_of_nonneg_of_nonpos h0 h
  have a2:H*d≤t*d:=by
   have:=Int.mul_le_mul_of_nonpos_right h1 h
   exact this
  have a3:t*d / H≤0:=by
   have:=Int.ediv_le_ediv hH a1
   simpa using this
  have a4:d≤t*d / H:=by
   have:=Int.ediv_le_ediv hH a2
   rwa [Int.mul_ediv_cancel_left _ (by omega)] at this
  omega
theorem brkS_bd {y:Int} {q:Pt×Pt} {x:Int} (h:x∈brkS y q):min q.1.x q.2.x≤x∧x≤max q.1.x q.2.x∧min q.1.y q.2.y≤y∧y≤max q.1.y q.2.y:=by
 obtain ⟨a,b⟩:=q
 unfold brkS at h
 simp only at h ⊢
 split at h
 · cases h
 rename_i c0
 split at h
 ·
  rename_i c
  simp only [List.mem_cons,List.not_mem_nil,or_false] at h
  rcases h with rfl | rfl<;>omega
 ·
  rename_i c
  simp only [List.mem_cons,List.not_mem_nil,or_false] at h
  unfold ceS flS at h
  by_cases e:0<b.y-a.y
  ·
   have f1:=flo_bd (t:=y-a.y) (H:=b.y-a.y) (d:=b.x-a.x) e (by omega) (by omega)
   have f2:=flo_bd (t:=y-a.y) (H:=b.y-a.y) (d:=-(b.x-a.x)) e (by omega) (by omega)
   rw [if_pos e,if_pos e] at h
   rw [Int.mul_neg] at f2
   rcases h with h | h<;>omega
  ·
   have f1:=flo_bd (t:=-(y-a.y)) (H:=-(b.y-a.y)) (d:=b.x-a.x) (by omega) (by omega) (by omega)
   have f2:=flo_bd (t:=-(y-a.y)) (H:=-(b.y-a.y)) (d:=-(b.x-a.x)) (by omega) (by omega) (by omega)
   rw [if_neg e,if_neg e] at h
   rw [Int.neg_mul] at f1
   rw [Int.neg_mul,Int.mul_neg] at f2
   rcases h with h | h<;>omega
theorem flip_div {u H d:Int} (hH:0<H):(u-H*d) / H=u / H-d:=by
 have:u-H*d=u+(-d)*H:=by rw [Int.neg_mul,Int.mul_comm H d];omega
 rw [this,Int.add_mul_ediv_right _ _ (by omega)]
 omega
theorem at_brk {y:Int} {a b:Pt} (h1:(lowP a b).y≤y) (h2:y≤(highP a b).y) (h3:(lowP a b).y≠(highP a b).y):(lowP a b).x+atRow y a b∈brkS y (a,b):=by
 unfold brkS atRow
 unfold lowP highP at *
 by_cases c:b.y<a.y
 ·
  simp only [if_pos c] at h1 h2 h3 ⊢
  rw [if_neg (by omega),if_neg (by omega)]
  simp only [List.mem_cons,List.not_mem_nil,or_false]
  right
  unfold ceS flS ceilQ
  rw [if_neg (by omega)]
  have e:-(-((y-a.y)*(b.x-a.x)))=-((y-b.y)*(a.x-b.x))-(a.y-b.y)*(b.x-a.x):=by grind
  have e2:-(b.y-a.y)=a.y-b.y:=by omega
  rw [e,e2,flip_div (by omega)]
  omega
 ·
  simp only [if_neg c] at h1 h2 h3 ⊢
  rw [if_neg (by omega),if_neg (by omega)]
  simp only [List.mem_cons,List.not_mem_nil,or_false]
  right
  unfold ceS flS ceilQ
  rw [if_pos (by omega)]
theorem crs_brk {y:Int} {q:Pt×Pt} {c:Int} (h:c∈crsS y q):c∈brkS y q:=by
 obtain ⟨a,b⟩:=q
 unfold crsS at h
 simp only at h
 split at h
 ·
  rename_i e
  rw [List.mem_singleton] at h
  rw [h]
  exact at_brk e.1 (by omega) (by omega)
 · cases h
section
variable {p:Pl} (h:Valid p)
include h
theorem Valid.runs_mem {X:List Int} (hX:X∈outX p) {x y:Int}:inR (runsB p (some X) y) x↔((segB p (some X)).flatMap (crsS y)).countP (fun c=>decide (c≤x)) % 2=1∧¬ inR ((segB p (some X)).flatMap (tknS y)) x∧¬ inR (aloB p (some X) y) x:=by
 obtain ⟨o1,o2⟩:=h.runs_odd hX x y
 have hs:=sortZ_facts ((segB p (some X)).flatMap (crsS y))
 have hodd:inR (gapR (sortZ ((segB p (some X)).flatMap (crsS y)))) x↔((segB p (some X)).flatMap (crsS y)).countP (fun c=>decide (c≤x)) % 2=1:=by
  rw [← hs.1.countP_eq]
  exact pair_iff x _ _ rfl hs.2 (by rw [hs.1.length_eq];exact o1)
 have hm:=(diffR_facts _ _ (spnS_facts (gapR (sortZ ((segB p (some X)).flatMap (crsS y))))).1 (spnS_facts ((segB p (some X)).flatMap (tknS y)++aloB p (some X) y)).1).2.2 x
 show inR (diffR _ _) x↔_
 rw [hm,(spnS_facts _).2,(spnS_facts _).2,hodd,inR_append,not_or]
theorem Valid.segB_sub {X:List Int} (hX:X∈outX p) {q:Pt×Pt} (hq:q∈segB p (some X)):q∈segA p:=by
 obtain ⟨a,ha,-,k,hk,rfl⟩:=h.segB_mem hX hq
 refine List.mem_flatMap.2 ⟨a,ha,?_⟩
 unfold segL
 exact List.mem_map.2 ⟨k,List.mem_range.2 (by omega),rfl⟩
theorem Valid.runs_far {X:List Int} (hX:X∈outX p) {x y:Int} (hb:∀ b∈brksS p y,b<x):¬ inR (runsB p (some X) y) x:=fun g=>by
 have hm:=(brksS_facts p y).2
 have g1:=((h.runs_mem hX).1 g).1
 have e1:((segB p (some X)).flatMap (crsS y)).countP (fun c=>decide (c≤x))=((segB p (some X)).flatMap (crsS y)).length:=by
  rw [List.countP_eq_length]
  intro c hc
  obtain ⟨q,hq,g⟩:=List.mem_flatMap.1 hc
  have:=hb c ((hm c).2 (.inl ⟨q,h.segB_sub hX hq,crs_brk g⟩))
  simp only [decide_eq_true_eq]
  omega
 rw [e1,(h.runs_odd hX x y).1] at g1
 cases g1
theorem Valid.runs_near {X:List Int} (hX:X∈outX p) {x y:Int} (hb:∀ b∈brksS p y,x<b):¬ inR (runsB p (some X) y) x:=fun g=>by
 have hm:=(brksS_facts p y).2
 have g1:=((h.runs_mem hX).1 g).1
 have e1:((segB p (some X)).flatMap (crsS y)).countP (fun c=>decide (c≤x))=0:=by
  rw [List.countP_eq_zero]
  intro c hc
  obtain ⟨q,hq,g⟩:=List.mem_flatMap.1 hc
  have:=hb c ((hm c).2 (.inl ⟨q,h.segB_sub hX hq,crs_brk g⟩))
  simp only [decide_eq_true_eq]
  omega
 rw [e1] at g1
 cases g1
theorem Valid.brks_near {x y:Int} (hx:x∈brksS p y):near1 ⟨x,y⟩=true∧big1 ⟨x,y⟩:=by
 have hbig:big1 ⟨x,y⟩:=by
  rcases ((brksS_facts p y).2 x).1 hx with ⟨q,hq,g⟩ | ⟨n,hn,e1,e2⟩
  ·
   obtain ⟨a,ha,hq⟩:=List.mem_flatMap.1 hq
   obtain ⟨k,hk,rfl⟩:=List.mem_map.1 (show q∈(List.range ((pathS p a).length-1)).map _ from hq)
   rw [List.mem_range] at hk
   have b1:=h.path_big ha (k:=k) (by omega)
   have b2:=h.path_big ha (k:=k+1) (by omega)
   have:=brkS_bd g
   unfold big1 at *
   simp only at *
   omega
  ·
   have:=h.node_big hn
   unfold big1 at *
   simp only
   omega
 refine ⟨?_,hbig⟩
 unfold near1 big1 at *
 simp only [Bool.and_eq_true,decide_eq_true_eq]
 simp only at hbig
 omega
theorem Valid.runs_pt {X:List Int} (hX:X∈outX p) {x y:Int} (g:inR (runsB p (some X) y) x):near1 ⟨x,y⟩=true:=by
 have hbx:∃ a∈brksS p y,a≤x:=Classical.byContradiction fun c=>h.runs_near hX (fun b hb=>Int.not_le.1 fun g=>c ⟨b,hb,g⟩) g
 have hby:∃ a∈brksS p y,x≤a:=Classical.byContradiction fun c=>h.runs_far hX (fun b hb=>Int.not_le.1 fun g=>c ⟨b,hb,g⟩) g
 obtain ⟨a,ha,ha'⟩:=hbx
 obtain ⟨b,hb,hb'⟩:=hby
 have g1:=(h.brks_near ha).2
 have g2:=(h.brks_near hb).2
 unfold big1 at g1 g2
 unfold near1
 simp only [Bool.and_eq_true,decide_eq_true_eq]
 simp only at g1 g2
 omega
end
end Go.Proofs.YtialfdomhoojiaaGreat
namespace Go.Proofs.YtialfdomhoojiaaGreat
open Go.RowKit

def onI (PP:List Pt) (v:Pt) (i:Nat):Bool:=match PP[i]?,PP[i+1]? with
 | some a,some b=>onS a b v
 | _,_=>false
def onU (PP:List Pt) (v:Pt) (k:Nat):Bool:=(List.range k).any (onI PP v)
def onA (p:Pl) (v:Pt) (a:Ar):Bool:=onU (pathS p a) v ((pathS p a).length-1)
def locS (p:Pl) (v:Pt):Int×Int×Int :=
 if rchkS p≠0 then (0,0,rchkS p) else if ptOk v=false then (0,0,2) else
 match p.nodes.find? (fun n=>decide (n.pt=v)) with
 | some n=>(1,n.id,0)
 | none=>match p.arcs.find? (onA p v) with
  | some a=>(2,a.id,0)
  | none=>(0,faceX p (homeP p v),0)
def locV (t:Int×Int×Int):Value:=.tuple #[.int .i64 t.1,.int .i64 t.2.1,.int .i64 t.2.2]
theorem onI_at {PP:List Pt} {v:Pt} {i:Nat} (h:i+1<PP.length):onI PP v i=onS (PP[i]'(by omega)) PP[i+1] v:=by
 unfold onI
 rw [List.getElem?_eq_getElem h,List.getElem?_eq_getElem (show i<PP.length by omega)]
theorem onU_succ (PP:List Pt) (v:Pt) (k:Nat):onU PP v (k+1)=(onU PP v k || onI PP v k):=by
 unfold onU
 rw [List.range_succ,List.any_append]
 simp
theorem onU_mono {PP:List Pt} {v:Pt} {k m:Nat} (hk:k≤m) (h:onU PP v k=true):onU PP v m=true:=by
 unfold onU at *
 rw [List.any_eq_true] at *
 obtain ⟨i,hi,e⟩:=h
 exact ⟨i,List.mem_range.2 (Nat.lt_of_lt_of_le (List.mem_range.1 hi) hk),e⟩
theorem find_none_take {α:Type} {P:α→Bool} {l:List α} {k:Nat} (hk:k<l.length) (h:(l.take k).find? P=none) (hn:P l[k]=false):(l.take (k+1)).find? P=none:=by
 rw [List.take_succ_eq_append_getElem hk,List.find?_append,h]
 simp [hn]
theorem find_take_some {α:Type} {P:α→Bool} {l:List α} {k:Nat} (hk:k<l.length) (h:(l.take k).find? P=none) (hn:P l[k]=true):l.find? P=some l[k]:=by
 have e:l.find? P=(l.take k++l[k]::l.drop (k+1)).find? P:=by rw [← List.drop_eq_getElem_cons hk,List.take_append_drop]
 rw [e,List.find?_append,h]
 simp only [Option.none_or,List.find?_cons,hn]
section
variable {p:Pl} {v:Pt} (h0:rchkS p=0) (h1:ptOk v=true)
include h0 h1
theorem locS_node {k:Nat} (hk:k<p.nodes.length) (h:(p.nodes.take k).find? (fun n=>decide (n.pt=v))=none) (he:p.nodes[k].pt=v):locS p v=(1,p.nodes[k].id,0):=by
 unfold locS
 rw [if_neg (by simpa using h0),if_neg (by simp [h1]),find_take_some hk h (by simpa using he)]
theorem locS_arc (hn:p.nodes.find? (fun n=>decide (n.pt=v))=none) {k:Nat} (hk:k<p.arcs.length) (h:(p.arcs.take k).find? (onA p v)=none) (he:onA p v p.arcs[k]=true):locS p v=(2,p.arcs[k].id,0):=by
 unfold locS
 rw [if_neg (by simpa using h0),if_neg (by simp [h1]),hn]
 simp only
 rw [find_take_some hk h he]
theorem locS_face (hn:p.nodes.find? (fun n=>decide (n.pt=v))=none) (ha:p.arcs.find? (onA p v)=none):locS p v=(0,faceX p (homeP p v),0):=by
 unfold locS
 rw [if_neg (by simpa using h0),if_neg (by simp [h1]),hn]
 simp only
 rw [ha]
end

set_option maxHeartbeats 400000 in
theorem RegValid_spec (p:Pt) (w:World):Calls Tryz.prog 69 #[ptV p] w fun e w'=>e=.returned (.bool (ptOk p))∧Below w.heap.size w w':=by
 unfold ptV
 go_enter Tryz.func69,Tryz.ntmps69
 go_wp2_with fail
 all_goals
  go_ret
  refine ⟨ret_bool (by rw [ptOk,Bool.eq_iff_iff];simp only [Bool.and_eq_true,decide_eq_true_eq,true_iff,Bool.false_eq_true,false_iff];omega),?_⟩
  repeat (first | with_reducible exact bR _ | with_reducible assumption | with_reducible refine bA ?_ _ | with_reducible refine bD ?_ | with_reducible refine bN ?_ _ | ((with_reducible refine bS ?_ ?_ _);rotate_left;(simp;try omega)) | ((with_reducible refine bT ?_ ?_);rotate_left;with_reducible assumption) | with_reducible refine bT ?_ (by assumption))

set_option maxRecDepth 100000 in
set_option maxHeartbeats 8000000 in
theorem Locate_err (v:Value) (p:Pl) (at_:Pt) (w:World) (h:PlV w v p) (hv:rchkS p≠0):Calls Tryz.prog 24 #[v,ptV at_] w fun e w'=>e=.returned (locV (0,0,rchkS p))∧Below w.heap.size w w':=by
 have HC:=Lib.hid (fun W (hW:Below w.heap.size w W)=>Read_err v p W (h.mono hW) hv)
 obtain ⟨vn,va,vf,al,rfl,-⟩:=h
 generalize rchkS p=z at *
 have hb:(z != 0)=true:=by simpa using hv
 unfold ptV
 clear hv
 go_enter Tryz.func24,Tryz.ntmps24
 go_wp2_with fail
 refine (HC.out _ (bA (bA (bR w) _) _)).mono ?_
 rintro e w1 ⟨rfl,hb1⟩
 have HB1:=Lib.hid (bT (bA (bA (bR w) _) _) hb1)
 clear hb1 HC
 go_wp2_with fail
 exact bodyPost_ret (results_tmp3 rfl _ _ _) rfl ⟨rfl,HB1.out⟩

set_option maxRecDepth 100000 in
set_option maxHeartbeats 8000000 in
theorem Locate_rng (v:Value) (p:Pl) (at_:Pt) (w:World) (h:PlV w v p) (hv:rchkS p=0) (hk:ptOk at_=false):Calls Tryz.prog 24 #[v,ptV at_] w fun e w'=>e=.returned (locV (0,0,2))∧Below w.heap.size w w':=by
 have HC:=Lib.hid (fun W (hW:Below w.heap.size w W)=>Read_ok v p W (h.mono hW) hv)
 have HVa:=Lib.hid (fun W=>RegValid_spec at_ W)
 rw [hk] at HVa
 obtain ⟨vn,va,vf,al,rfl,-⟩:=h
 unfold ptV at HVa ⊢
 clear hv hk
 go_enter Tryz.func24,Tryz.ntmps24
 go_upto_region 1 with fail
 obtain ⟨W1,hW⟩:∃ W1:World,W1=(w.alloc (.cells #[vn,va,vf] 26)).alloc (.cells #[.int .i64 at_.x,.int .i64 at_.y] 39):=⟨_,rfl⟩
 have X1:Blk W1 w.heap.size 26 #[vn,va,vf]:=by rw [hW];exact (Blk.made rfl _ _).alloc _
 have X2:Blk W1 (w.heap.size+1) 39 #[.int .i64 at_.x,.int .i64 at_.y]:=by rw [hW];exact Blk.made (by simp) _ _
 have HB1:=Lib.hid (show Below w.heap.size w W1 by rw [hW];exact bA (bA (bR w) _) _)
 rw [← hW]
 clear hW
 have HX1:=Lib.hid X1;have HX2:=Lib.hid X2
 obtain ⟨X1l,X1a,X1b,X1c,-,-,-⟩:=X1.facts3
 go_wp2_with fail
 refine (HC.out _ HB1.out).mono ?_
 rintro e w1 ⟨A,c,L,A',c',gm,f,rfl,hb1,-⟩
 have HB2:=Lib.hid (bT HB1.out hb1)
 have X3:=HX2.out.keep hb1
 clear hb1 HC X1 X1l X1a X1b X1c HX1 HX2 X2 HB1
 obtain ⟨X3l,X3a,X3b,-,-⟩:=X3.facts2
 go_wp2_with fail
 refine (HVa.out _).mono ?_
 rintro e w3 ⟨rfl,hb3⟩
 have HB3:=Lib.hid (bT HB2.out hb3)
 clear hb3
 go_wp2_with fail
 exact bodyPost_ret (results_tmp3 rfl _ _ _) rfl ⟨rfl,HB3.out⟩

set_option maxRecDepth 100000 in
set_option maxHeartbeats 8000000 in
theorem Locate_ok (v:Value) (p:Pl) (at_:Pt) (w:World) (h:PlV w v p) (hv:rchkS p=0) (hk:ptOk at_=true):Calls Tryz.prog 24 #[v,ptV at_] w fun e w'=>e=.returned (locV (locS p at_))∧Below w.heap.size w w':=by
 obtain ⟨hvv,hfb⟩:=rchk_ok hv
 have HV:=Lib.hid hvv
 have nv:=ptOk_near hk
 have HLn:=Lib.hid (fun k (hl:k<p.nodes.length) hf he=>locS_node (v:=at_) hv hk hl hf he)
 have HLa:=Lib.hid (fun hn k (hl:k<p.arcs.length) hf he=>locS_arc (v:=at_) hv hk hn hl hf he)
 have HLf:=Lib.hid (fun hn ha=>locS_face (v:=at_) hv hk hn ha)
 have HC:=Lib.hid (fun W (hW:Below w.heap.size w W)=>Read_ok v p W (h.mono hW) hv)
 have HVa:=Lib.hid (fun W=>RegValid_spec at_ W)
 have HOn:=Lib.hid (fun a b W=>On_spec a b at_ W)
 have HFi:=Lib.hid (fun W gm f (hpm:PathsM W gm p f) vl L (hL:AdR W vl L) hd hl=>Find_spec W gm p f hpm hvv vl L hL hd hl at_ nv)
 have hol:(outX p).length≤512:=Nat.le_trans (List.length_filter_le _ _) hvv.cycs_len
 rw [hk] at HVa
 obtain ⟨_,_,_,al,rfl,hpa,⟨An,cn,rfl,hn1,hn2,hRn⟩,⟨⟨Aa,ca,rfl,ha1,ha2,hRa⟩,hVi⟩,⟨Af,cf,rfl,-⟩⟩:=h
 unfold maxLen at hn2 ha2
 generalize p.faces.length=nf at *
 have hal:al.length=p.arcs.length:=by rw [hpa,List.length_map]
 have hqn:p.nodes.length≤256:=hvv.nodes_len
 have hqa:p.arcs.length≤256:=by
  have hl:=hvv.lim
  unfold limS at hl
  simp at hl
  omega
 have HRn:=Lib.hid hRn;have HRa:=Lib.hid hRa;have HVi:=Lib.hid hVi;have HPa:=Lib.hid hpa;have HAl:=Lib.hid hal
 have hqa2:al.length≤256:=by omega
 unfold ptV at HVa HOn HFi ⊢
 clear hv hk hvv hfb hRn hRa hVi hpa nv hal
 go_enter Tryz.func24,Tryz.ntmps24
 go_upto_region 1 with fail
 obtain ⟨W1,hW⟩:∃ W1:World,W1=(w.alloc (.cells #[.slice An p.nodes.length cn,.slice Aa al.length ca,.slice Af nf cf] 26)).alloc (.cells #[.int .i64 at_.x,.int .i64 at_.y] 39):=⟨_,rfl⟩
 have X1:Blk W1 w.heap.size 26 #[.slice An p.nodes.length cn,.slice Aa al.length ca,.slice Af nf cf]:=by rw [hW];exact (Blk.made rfl _ _).alloc _
 have X2:Blk W1 (w.heap.size+1) 39 #[.int .i64 at_.x,.int .i64 at_.y]:=by rw [hW];exact Blk.made (by simp) _ _
 have HB1:=Lib.hid (show Below w.heap.size w W1 by rw [hW];exact bA (bA (bR w) _) _)
 rw [← hW]
 clear hW
 have HX1:=Lib.hid X1;have HX2:=Lib.hid X2
 obtain ⟨X1l,X1a,X1b,X1c,-,-,-⟩:=X1.facts3
 go_wp2_with fail
 refine (HC.out _ HB1.out).mono ?_
 rintro e w1 ⟨A,c,L,A',c',gm,f,rfl,hb1,haf,hfi,hdv,htw,hpm,hgm,-⟩
 have HB2:=Lib.hid (bT HB1.out hb1)
 have HX12:=Lib.hid (HX1.out.keep hb1)
 have HX22:=Lib.hid (HX2.out.keep hb1)
 have X3:=HX22.out
 have HA:=Lib.hid haf;have HD:=Lib.hid hdv;have HT:=Lib.hid htw;have HPm:=Lib.hid hpm
 have hll:L.length=(outX p).length+1:=hdv.len
 have hfl:=facF_len p (outX p) L.length
 obtain ⟨Al,cl,hel,hl2,hl3,hRl⟩:=haf.sl
 injection hel with y1 y2 y3
 subst y1 y3
 clear y2
 unfold Ints at hfi
 rw [hfl] at hfi
 obtain ⟨Af',cf',hef,hf2,hf3,hRf⟩:=hfi
 injection hef with y1 y2 y3
 subst y1 y3
 clear y2
 have HRf:=Lib.hid hRf
 clear hb1 HC X1 X1l X1a X1b X1c HX1 HX2 X2 HB1 haf hdv htw hpm hRl hRf hl2 hl3 hf2 hf3 hfl
 obtain ⟨X3l,X3a,X3b,-,-⟩:=X3.facts2
 go_wp2_with fail
 refine (HVa.out _).mono ?_
 rintro e w3 ⟨rfl,hb3⟩
 have HB3:=Lib.hid (bT HB2.out hb3)
 have HX1:=Lib.hid (HX12.out.keep hb3);have HX2:=Lib.hid (HX22.out.keep hb3)
 have HA3:=Lib.hid (HA.out.mono hb3);have HPm3:=Lib.hid (HPm.out.keep hb3);have HRf3:=Lib.hid (HRf.out.mono hb3)
 clear hb3 X3 X3l X3a X3b HX12 HX22 HA HPm HRf HB2 HVa
 have X1:=HX1.out
 try clear X1l
 try clear X1a
 try clear X1b
 try clear X1c
 obtain ⟨X1l,X1a,X1b,X1c,-,-,-⟩:=X1.facts3
 go_upto_block 0 with fail
 clear X1 X1l X1a X1b X1c
 go_wp2_with fail
 go_loopw [32] (fun u wr=>∃ k:Nat,k≤p.nodes.length∧u=.int .i64 k∧(p.nodes.take k).find? (fun n=>decide (n.pt=at_))=none∧Below w3.heap.size w3 wr) (fun u _=>p.nodes.length-(intOf u).toNat)
 case atStart => exact ⟨0,Nat.zero_le _,rfl,rfl,bR w3⟩
 case round =>
  obtain ⟨k,hk,rfl,hno,hb⟩:=hrel
  obtain ⟨wo,rfl⟩:∃ wo:World,wo=wr:=⟨_,rfl⟩
  have HNo:=Lib.hid hno;have Hb:=Lib.hid hb
  clear hno hb
  by_cases hlt:k<p.nodes.length
  ·
   obtain ⟨b,o,hA',hlb,c0,c1,c2⟩:=(HRn.out.mono (bT HB3.out Hb.out)).nd hlt
   subst hA'
   have X2:=HX2.out.keep Hb.out
   have hx2:=X2.lt
   have HNk:=Lib.hid (fun he=>HLn.out k hlt HNo.out he)
   have HNx:=Lib.hid (fun hne=>find_none_take hlt HNo.out hne)
   generalize p.nodes[k]=x at *
   obtain ⟨id,x0,y0⟩:=x
   simp only at c0 c1 c2
   have kk1:(k:Int)<p.nodes.length:=by omega
   have kk2:0≤(k:Int):=by omega
   obtain ⟨X2l,X2a,X2b,-,-⟩:=X2.facts2
   go_upto_region 9 with fail
   obtain ⟨W5,hW⟩:∃ W:World,W=wo.alloc (.cells #[.int .i64 id,.int .i64 x0,.int .i64 y0] 45):=⟨_,rfl⟩
   obtain ⟨g11,hg11⟩:∃ g11,wo.heap.size=g11:=⟨_,rfl⟩
   have X5:Blk W5 g11 45 #[.int .i64 id,.int .i64 x0,.int .i64 y0]:=by rw [hW];exact Blk.made hg11.symm _ _
   have X6:Blk W5 (w.heap.size+1) 39 #[.int .i64 at_.x,.int .i64 at_.y]:=by rw [hW];exact X2.alloc _
   have HBf:=Lib.hid (show Below w.heap.size w W5 by rw [hW];exact bA (bT HB3.out Hb.out) _)
   have HBg:=Lib.hid (show Below w3.heap.size w3 W5 by rw [hW];exact bA Hb.out _)
   rw [← hW]
   try rw [hg11]
   clear hW c0 c1 c2 hlb X2 X2l X2a X2b Hb
   obtain ⟨X5l,X5a,X5b,X5c,-,-,-⟩:=X5.facts3
   obtain ⟨X6l,X6a,X6b,-,-⟩:=X6.facts2
   by_cases he:(⟨x0,y0⟩:Pt)=at_
   ·
    have hr:=Lib.hid (HNk.out he)
    have he1:x0=at_.x:=by rw [← he]
    have he2:y0=at_.y:=by rw [← he]
    subst he1 he2
    go_upto_region 10 with fail
    refine rg_start (Since W5) (.run 5 0 0 (.done)) (by kernel_rfl) (bD (bR _)) (by kernel_rfl) (by kernel_rfl) (Nat.le_of_ble_eq_true (by kernel_rfl)) ?_
    intro opsR QR Hops HQrg hS
    iterate 5
     apply rg_p;exact Hops;exact rfl;exact hS;exact rfl
     · intro _ hqc;go_simp;try rfl
     try simp only [pu]
    refine rg_done ?_
    refine HQrg.down _ _ ?_
    have hB:Below W5.heap.size W5 W5.drew:=hS
    clear hS HQrg Hops
    go_wp2_with fail
    exact bodyPost_ret (results_tmp3 rfl _ _ _) rfl ⟨by rw [hr.out];rfl,bT HBf.out hB⟩
   ·
    have hne:¬ (x0=at_.x∧y0=at_.y):=fun e=>he (by rw [e.1,e.2])
    have hr:=Lib.hid (HNx.out (by simpa using he))
    go_wp2_with fail
    all_goals
     refine ⟨⟨k+1,by omega,rfl,hr.out,HBg.out⟩,?_⟩
     simp [intOf];omega
  ·
   obtain rfl:k=p.nodes.length:=by omega
   have hnn:=HNo.out
   rw [List.take_length] at hnn
   have HNn:=Lib.hid hnn
   have HB4:=Lib.hid (bT HB3.out Hb.out)
   have X1:=HX1.out.keep Hb.out
   have HX4:=Lib.hid (HX2.out.keep Hb.out)
   have HA4:=Lib.hid (HA3.out.mono Hb.out);have HPm4:=Lib.hid (HPm3.out.keep Hb.out);have HRf4:=Lib.hid (HRf3.out.mono Hb.out)
   clear hnn HNo Hb HB3 HX1 HX2 HA3 HPm3 HRf3 HLn
   try clear X1l
   try clear X1a
   try clear X1b
   try clear X1c
   obtain ⟨X1l,X1a,X1b,X1c,-,-,-⟩:=X1.facts3
   go_upto_block 2 with fail
   clear X1 X1l X1a X1b X1c
   go_wp2_with fail
   go_loopw [46] (fun u wr=>∃ k:Nat,k≤al.length∧u=.int .i64 k∧(p.arcs.take k).find? (onA p at_)=none∧Below wo.heap.size wo wr) (fun u _=>al.length-(intOf u).toNat)
   case atStart => exact ⟨0,Nat.zero_le _,rfl,rfl,bR wo⟩
   case round =>
    obtain ⟨k,hk,rfl,hno,hb⟩:=hrel
    obtain ⟨wq,rfl⟩:∃ wq:World,wq=wr:=⟨_,rfl⟩
    have HNo:=Lib.hid hno;have Hb:=Lib.hid hb
    clear hno hb
    by_cases hlt:k<al.length
    ·
     have hkp:k<p.arcs.length:=by rw [← HAl.out];exact hlt
     have hax:p.arcs[k]=al[k].1:=by
      have e:p.arcs[k]? = some al[k].1:=by rw [HPa.out,List.getElem?_map,List.getElem?_eq_getElem hlt];rfl
      rw [List.getElem?_eq_getElem hkp] at e
      exact Option.some.inj e
     have ham:p.arcs[k]∈p.arcs:=List.getElem_mem hkp
     have hid:=HV.out.id_pos ham
     have hlen:=pathS_length p p.arcs[k]
     have hvia:=HV.out.via_len ham
     obtain ⟨b,o,hA',hlb,c0,c1,c2,c3,c4,c5⟩:=(HRa.out.mono (bT HB4.out Hb.out)).ar hlt
     subst hA'
     have HAr:=Lib.hid (fun he=>HLa.out HNn.out k hkp HNo.out he)
     have HAn:=Lib.hid (fun hne=>find_none_take hkp HNo.out hne)
     obtain ⟨nm,hmp⟩:=(HPm4.out.keep Hb.out).mp
     have hpts:=(HPm4.out.keep Hb.out).rd _ ham
     have hax':=hax
     have hlk:∀ W,Below wq.heap.size wq W→_:=fun W hW=>(hmp.keep hW).look p.arcs[k].id (wfI_of (by omega) (by omega))
     have HLk:=Lib.hid hlk
     rw [← hax] at c0 c1 c2 c4 c5
     unfold onA at HAr HAn
     generalize f p.arcs[k].id=y at *
     generalize pathS p p.arcs[k]=PP at *
     generalize p.arcs[k]=ax at *
     obtain ⟨Av,cv,hva,-⟩:=HVi.out k hlt
     rw [hva] at c3
     generalize al[k].1.via.length=nv' at *
     clear hva
     obtain ⟨ai,af,ad,av,af1,af2⟩:=ax
     obtain ⟨Ap,np,cp⟩:=y
     unfold svV at hlk HLk hpts
     have HPts:=Lib.hid hpts
     obtain ⟨Ap',cp',he,hp1,hp2,-⟩:=hpts
     injection he with y1 y2 y3
     subst y1 y2 y3
     unfold maxLen at hp2
     simp only at hid hlen hvia c0 c1 c2 c3 c4 c5
     have hpl1:2≤PP.length:=by omega
     have hpl2:PP.length≤66:=by omega
     clear hax hax' ham hmp hlk hlen hvia
     have kk1:(k:Int)<al.length:=by omega
     have kk2:0≤(k:Int):=by omega
     go_upto_region 15 with fail
     obtain ⟨W5,hW⟩:∃ W:World,W=wq.alloc (.cells #[.int .i64 ai,.int .i64 af,.int .i64 ad,.slice Av nv' cv,.int .i64 af1,.int .i64 af2] 50):=⟨_,rfl⟩
     obtain ⟨g13,hg13⟩:∃ g13,wq.heap.size=g13:=⟨_,rfl⟩
     have X5:Blk W5 g13 50 #[.int .i64 ai,.int .i64 af,.int .i64 ad,.slice Av nv' cv,.int .i64 af1,.int .i64 af2]:=by rw [hW];exact Blk.made hg13.symm _ _
     have hA:Below wq.heap.size wq W5:=by rw [hW];exact bA (bR wq) _
     have HB5:=Lib.hid (bT (bT HB4.out Hb.out) hA)
     have HBq:=Lib.hid (bT Hb.out hA)
     have HX45:=Lib.hid (HX4.out.keep (bT Hb.out hA))
     have HX55:=Lib.hid X5
     have hlk:=HLk.out W5 hA
     have HP5:=Lib.hid (HPts.out.mono hA)
     rw [← hW]
     try rw [hg13]
     clear hW hA c0 c1 c2 c3 c4 c5 hlb HLk HPts Hb
     try clear X5l
     try clear X5a
     try clear X5b
     try clear X5c
     obtain ⟨X5l,X5a,X5b,X5c,X5d,X5e,X5f,-,-,-,-,-,-⟩:=X5.facts6
     go_upto_block 4 with fail
     clear X5 X5l X5a X5b X5c X5d X5e X5f hlk
     go_wp2_with fail
     go_loopw [15] (fun u wr=>∃ m:Nat,m+1≤PP.length∧u=.int .i64 ((m:Int)+1)∧onU PP at_ m=false∧Below W5.heap.size W5 wr) (fun u _=>PP.length-(intOf u).toNat)
     case atStart => exact ⟨0,by omega,rfl,rfl,bR W5⟩
     case round =>
      obtain ⟨m,hm,rfl,hnm,hb⟩:=hrel
      obtain ⟨wm,rfl⟩:∃ wm:World,wm=wr:=⟨_,rfl⟩
      have HNm:=Lib.hid hnm;have Hbm:=Lib.hid hb
      clear hnm hb
      by_cases hmt:m+1<PP.length
      ·
       obtain ⟨Ap',cp',he,-,-,hRp⟩:=HP5.out.mono Hbm.out
       injection he with y1 y2 y3
       subst y1 y3
       clear y2
       obtain ⟨bp,op,hAp,hlp,d0,d1⟩:=hRp.pt (show m<PP.length by omega)
       obtain ⟨bp',op',hAp',-,d2,d3⟩:=hRp.pt hmt
       rw [hAp] at hAp'
       injection hAp' with hAp'
       injection hAp' with q1 q2 _
       subst q1 q2 hAp
       have hoi:=onI_at (v:=at_) hmt
       generalize PP[m+1]=pb at *
       generalize PP[m]=pa at *
       obtain ⟨xa,ya⟩:=pa
       obtain ⟨xb,yb⟩:=pb
       simp only at d0 d1 d2 d3
       have X6:=HX45.out.keep Hbm.out
       have X7:=HX55.out.keep Hbm.out
       have HX7:=Lib.hid X7
       have hx6:=X6.lt
       have hx7:=X7.lt
       have kk3:((m:Int)+1)<PP.length:=by omega
       have kk4:0≤(m:Int):=by omega
       have kk5:(m:Int)<PP.length:=by omega
       have kw:IntKind.i64.wrap (m:Int)=m:=IntWalk.i64_in _ (by omega)
       try clear X6l
       try clear X6a
       try clear X6b
       obtain ⟨X6l,X6a,X6b,-,-⟩:=X6.facts2
       cases hon:onS ⟨xa,ya⟩ ⟨xb,yb⟩ at_ with
       | true =>
        have HO:=Lib.hid (fun W=>HOn.out ⟨xa,ya⟩ ⟨xb,yb⟩ W)
        rw [hon] at HO
        have hua:onU PP at_ (PP.length-1)=true:=onU_mono (k:=m+1) (by omega) (by rw [onU_succ,hoi,hon,Bool.or_true])
        have hr:=Lib.hid (HAr.out hua)
        clear hon hoi hua HAr HAn
        go_upto_region 19 with fail
        refine rg_start (Since wm) (.run 10 0 0 (.call 10 2047 (.done))) (by kernel_rfl) (bD (bR _)) (by kernel_rfl) (by kernel_rfl) (Nat.le_of_ble_eq_true (by kernel_rfl)) ?_
        intro opsR QR Hops HQrg hS
        iterate 10
         apply rg_p;exact Hops;exact rfl;exact hS;exact rfl
         · intro _ hqc;go_simp;try rfl
         try simp only [pu]
        refine rg_call (i:=10) (get_of Hops rfl) (fun K hK=>?_)
        have HSrg:=Lib.hid hS;clear hS
        refine rg_run (wanted_plain rfl) ?_
        go_simp
        refine (HO.out _).mono ?_
        rintro e wr1 ⟨rfl,hbr1⟩
        have hS:Since wm wr1:=bT (w:=wm) HSrg.out hbr1
        clear HSrg
        refine hK.out _ _ hS (fun _=>?_)
        clear hK K
        try simp only [pu]
        refine rg_done ?_
        refine HQrg.down _ _ ?_
        have hB:Below wm.heap.size wm wr1:=hS
        clear hS HQrg Hops
        have HB6:=Lib.hid (bT (bT HB5.out Hbm.out) hB)
        have X8:=HX7.out.keep hB
        clear X6 X6l X6a X6b d0 d1 d2 d3 hlp hB HO X7
        obtain ⟨X8l,X8a,X8b,X8c,X8d,X8e,X8f,-,-,-,-,-,-⟩:=X8.facts6
        go_upto_region 20 with fail
        refine rg_start (Since wr1) (.run 5 0 0 (.done)) (by kernel_rfl) (bD (bR _)) (by kernel_rfl) (by kernel_rfl) (Nat.le_of_ble_eq_true (by kernel_rfl)) ?_
        intro opsR QR Hops HQrg hS
        iterate 5
         apply rg_p;exact Hops;exact rfl;exact hS;exact rfl
         · intro _ hqc;go_simp;try rfl
         try simp only [pu]
        refine rg_done ?_
        refine HQrg.down _ _ ?_
        have hB:Below wr1.heap.size wr1 wr1.drew:=hS
        clear hS HQrg Hops
        go_wp2_with fail
        exact bodyPost_ret (results_tmp3 rfl _ _ _) rfl ⟨by rw [hr.out];rfl,bT HB6.out hB⟩
       | false =>
        have HO:=Lib.hid (fun W=>HOn.out ⟨xa,ya⟩ ⟨xb,yb⟩ W)
        rw [hon] at HO
        have hr:=Lib.hid (show onU PP at_ (m+1)=false by rw [onU_succ,hoi,hon,HNm.out];rfl)
        clear hon hoi HAr HAn
        go_upto_region 19 with fail
        refine rg_start (Since wm) (.run 10 0 0 (.call 10 2047 (.done))) (by kernel_rfl) (bD (bR _)) (by kernel_rfl) (by kernel_rfl) (Nat.le_of_ble_eq_true (by kernel_rfl)) ?_
        intro opsR QR Hops HQrg hS
        iterate 10
         apply rg_p;exact Hops;exact rfl;exact hS;exact rfl
         · intro _ hqc;go_simp;try rfl
         try simp only [pu]
        refine rg_call (i:=10) (get_of Hops rfl) (fun K hK=>?_)
        have HSrg:=Lib.hid hS;clear hS
        refine rg_run (wanted_plain rfl) ?_
        go_simp
        refine (HO.out _).mono ?_
        rintro e wr1 ⟨rfl,hbr1⟩
        have hS:Since wm wr1:=bT (w:=wm) HSrg.out hbr1
        clear HSrg
        refine hK.out _ _ hS (fun _=>?_)
        clear hK K
        try simp only [pu]
        refine rg_done ?_
        refine HQrg.down _ _ ?_
        have hB:Below wm.heap.size wm wr1:=hS
        clear hS HQrg Hops
        have HBm:=Lib.hid (bT Hbm.out hB)
        clear X6 X6l X6a X6b d0 d1 d2 d3 hlp hB HO X7
        go_wp2_with fail
        go_roundw
        case rel => exact ⟨m+1,by omega,by go_num,hr.out,HBm.out⟩
        case measure => simp [intOf];omega
      ·
       obtain rfl:m=PP.length-1:=by omega
       have hr:=Lib.hid (HAn.out HNm.out)
       have HBk:=Lib.hid (bT HBq.out Hbm.out)
       clear HAr HAn HNm HOn Hbm
       go_wp2_with fail
       go_roundw
       case rel => exact ⟨k+1,by omega,by go_num,hr.out,HBk.out⟩
       case measure => simp [intOf];omega
    ·
     obtain rfl:k=al.length:=by omega
     have haa:=HNo.out
     rw [HAl.out,List.take_length] at haa
     have hr:=Lib.hid (HLf.out HNn.out haa)
     have HBq:=Lib.hid (bT HB4.out Hb.out)
     have X6:=HX4.out.keep Hb.out
     have hA:=HA4.out.mono Hb.out
     have hP:=HPm4.out.keep Hb.out
     have hR:=HRf4.out.mono Hb.out
     have hll':=HD.out.len
     obtain ⟨bb,oo,hA9,hl9,-⟩:=hR.int (k:=0) (by rw [facF_len];omega)
     subst hA9
     have hF:∀ W,Below wq.heap.size wq W→Calls Tryz.prog 70 #[.map (some gm),.slice A ((outX p).length+1) c,.agg #[.int .i64 at_.x,.int .i64 at_.y]] W fun e w'=>(∃ i:Nat,e=.returned (.int .i64 i)∧(i:Int)<((outX p).length:Int)+1∧0≤(i:Int)∧wq.cell? ⟨bb,oo+i,none⟩=some (.int .i64 (faceX p (homeP p at_))))∧Below W.heap.size W w':=fun W hW=>by
      have hA':=hA.mono hW
      rw [← hll'] at *
      refine (HFi.out W gm f (hP.keep hW) _ L hA'.read (fun x hx d hd=>by
       rcases HD.out.out_mem hx with e | e
       · rw [e] at hd;cases hd
       · exact (HV.out.cyc_nodup (mem_outX.1 e).1).2 d hd) (by omega)).mono ?_
      rintro e w' ⟨⟨i,rfl,hbx⟩,hb'⟩
      obtain ⟨hi,hh⟩:=HD.out.home rfl HT.out hbx
      obtain ⟨bb',oo',hA9,hl9,hc9⟩:=hR.int (k:=i) (by rw [facF_len];exact hi)
      injection hA9 with hA9
      injection hA9 with q1 q2 _
      subst q1 q2
      refine ⟨⟨i,rfl,by omega,by omega,?_⟩,hb'⟩
      rw [hc9]
      congr 2
      unfold facF
      rw [List.getElem_map,List.getElem_range]
      unfold fcI
      rw [hh]
     have HF:=Lib.hid hF
     clear haa hA hP hR hF hll' HA4 HPm4 HRf4 HNo HNn HLf HLa HOn HFi HX4 Hb
     try clear X6l
     try clear X6a
     try clear X6b
     obtain ⟨X6l,X6a,X6b,-,-⟩:=X6.facts2
     go_upto_region 22 with fail
     refine rg_start (Since wq) (.run 4 0 0 (.call 4 31 (.run 5 5 31 (.done)))) (by kernel_rfl) (bD (bR _)) (by kernel_rfl) (by kernel_rfl) (Nat.le_of_ble_eq_true (by kernel_rfl)) ?_
     intro opsR QR Hops HQrg hS
     iterate 4
      apply rg_p;exact Hops;exact rfl;exact hS;exact rfl
      · intro _ hqc;go_simp;try rfl
      try simp only [pu]
     refine rg_call (i:=4) (get_of Hops rfl) (fun K hK=>?_)
     have HSrg:=Lib.hid hS;clear hS
     refine rg_run (wanted_plain rfl) ?_
     go_simp
     refine (HF.out _ HSrg.out).mono ?_
     rintro e wr1 ⟨⟨ii,rfl,hi8,hi9,hc9⟩,hbr1⟩
     have hS:Since wq wr1:=bT (w:=wq) HSrg.out hbr1
     clear HSrg
     refine hK.out _ _ hS (fun _=>?_)
     clear hK K
     try simp only [pu]
     iterate 5
      apply rg_p;exact Hops;exact rfl;exact hS;exact rfl
      · intro _ hqc;go_simp;try rfl
      try simp only [pu]
     refine rg_done ?_
     refine HQrg.down _ _ ?_
     have hB:Below wq.heap.size wq wr1:=hS
     clear hS HQrg Hops
     go_wp2_with fail
     exact bodyPost_ret (results_tmp3 rfl _ _ _) rfl ⟨by rw [hr.out];rfl,bT HBq.out hB⟩
theorem Locate_spec (v:Value) (p:Pl) (at_:Pt) (w:World) (h:PlV w v p):Calls Tryz.prog 24 #[v,ptV at_] w fun e w'=>e=.returned (locV (locS p at_))∧Below w.heap.size w w':=by
 by_cases hv:rchkS p=0
 · cases hk:ptOk at_ with
  | true=>exact Locate_ok v p at_ w h hv hk
  | false =>
   have e:locS p at_=(0,0,2):=by
    unfold locS
    rw [if_neg (by simpa using hv),if_pos hk]
   rw [e]
   exact Locate_rng v p at_ w h hv hk
 ·
  have e:locS p at_=(0,0,rchkS p):=by
   unfold locS
   rw [if_pos hv]
  rw [e]
  exact Locate_err v p at_ w h hv
end Go.Proofs.YtialfdomhoojiaaGreat
namespace Go.Proofs.YtialfdomhoojiaaGreat
open Go.RowKit
set_option linter.unusedSectionVars false

theorem box_go:∀ (l:List Pt) (x:Bx),let b:=l.foldl boxGrow x;
  (b.x0≤x.x0∧b.y0≤x.y0∧x.x1≤b.x1∧x.y1≤b.y1)∧(∀ v∈l,b.x0≤v.x∧b.y0≤v.y∧v.x≤b.x1∧v.y≤b.y1) ∧
  (b.x0=x.x0∨∃ v∈l,b.x0=v.x)∧(b.y0=x.y0∨∃ v∈l,b.y0=v.y)∧(b.x1=x.x1∨∃ v∈l,b.x1=v.x)∧(b.y1=x.y1∨∃ v∈l,b.y1=v.y)
 | [],x=>⟨⟨Int.le_refl _,Int.le_refl _,Int.le_refl _,Int.le_refl _⟩,fun v hv=>(by cases hv),.inl rfl,.inl rfl,.inl rfl,.inl rfl⟩
 | v::l,x=>by
  have ih:=box_go l (boxGrow x v)
  simp only [List.foldl_cons]
  generalize l.foldl boxGrow (boxGrow x v)=b at *
  obtain ⟨i1,i2,i3,i4,i5,i6⟩:=ih
  unfold boxGrow at i1 i3 i4 i5 i6
  simp only at i1 i3 i4 i5 i6
  have j1:b.x0≤x.x0∧b.x0≤v.x:=by clear i2 i3 i4 i5 i6;omega
  have j2:b.y0≤x.y0∧b.y0≤v.y:=by clear i2 i3 i4 i5 i6;omega
  have j3:x.x1≤b.x1∧v.x≤b.x1:=by clear i2 i3 i4 i5 i6;omega
  have j4:x.y1≤b.y1∧v.y≤b.y1:=by clear i2 i3 i4 i5 i6;omega
  refine ⟨⟨j1.1,j2.1,j3.1,j4.1⟩,fun u hu=>?_,?_,?_,?_,?_⟩
  ·
   rcases List.mem_cons.1 hu with rfl | hu
   · exact ⟨j1.2,j2.2,j3.2,j4.2⟩
   · exact i2 u hu
  ·
   clear i2 i4 i5 i6
   rcases i3 with e | ⟨u,hu,e⟩
   ·
    rcases Int.le_total x.x0 v.x with c | c
    · exact .inl (by omega)
    · exact .inr ⟨v,List.mem_cons_self,by omega⟩
   · exact .inr ⟨u,List.mem_cons_of_mem _ hu,e⟩
  ·
   clear i2 i3 i5 i6
   rcases i4 with e | ⟨u,hu,e⟩
   ·
    rcases Int.le_total x.y0 v.y with c | c
    · exact .inl (by omega)
    · exact .inr ⟨v,List.mem_cons_self,by omega⟩
   · exact .inr ⟨u,List.mem_cons_of_mem _ hu,e⟩
  ·
   clear i2 i3 i4 i6
   rcases i5 with e | ⟨u,hu,e⟩
   ·
    rcases Int.le_total x.x1 v.x with c | c
    · exact .inr ⟨v,List.mem_cons_self,by omega⟩
    · exact .inl (by omega)
   · exact .inr ⟨u,List.mem_cons_of_mem _ hu,e⟩
  ·
   clear i2 i3 i4 i5
   rcases i6 with e | ⟨u,hu,e⟩
   ·
    rcases Int.le_total x.y1 v.y with c | c
    · exact .inr ⟨v,List.mem_cons_self,by omega⟩
    · exact .inl (by omega)
   · exact .inr ⟨u,List.mem_cons_of_mem _ hu,e⟩
structure BoxOf (b:Bx) (l:List Pt):Prop where
 all:∀ v∈l,b.x0≤v.x∧b.y0≤v.y∧v.x≤b.x1∧v.y≤b.y1
 x0:∃ v∈l,b.x0=v.x
 y0:∃ v∈l,b.y0=v.y
 x1:∃ v∈l,b.x1=v.x
 y1:∃ v∈l,b.y1=v.y
theorem boxL_of {l:List Pt} (h:l≠[]):BoxOf (boxL l) l:=by
 cases l with
 | nil=>exact absurd rfl h
 | cons u l =>
  obtain ⟨-,i2,i3,i4,i5,i6⟩:=box_go (u::l) ⟨u.x,u.y,u.x,u.y⟩
  exact ⟨i2,i3.elim (fun e=>⟨u,List.mem_cons_self,e⟩) id,i4.elim (fun e=>⟨u,List.mem_cons_self,e⟩) id,i5.elim (fun e=>⟨u,List.mem_cons_self,e⟩) id,i6.elim (fun e=>⟨u,List.mem_cons_self,e⟩) id⟩
theorem BoxOf.le {b:Bx} {l:List Pt} (h:BoxOf b l):b.x0≤b.x1∧b.y0≤b.y1:=by
 obtain ⟨h0,⟨u,hu,e⟩,-⟩:=h
 have:=h0 u hu
 omega
theorem endsL_segL {P:List Pt} (h:2≤P.length) (v:Pt):v∈endsL (segL P)↔v∈P:=by
 unfold endsL
 rw [List.mem_flatMap]
 constructor
 ·
  rintro ⟨q,hq,hv⟩
  unfold segL at hq
  obtain ⟨k,hk,rfl⟩:=List.mem_map.1 hq
  rw [List.mem_range] at hk
  have g:∀ j,j<P.length→P.getD j pt0∈P:=fun j hj=>by
   rw [List.getD_eq_getElem?_getD,List.getElem?_eq_getElem hj]
   exact List.getElem_mem hj
  simp only [List.mem_cons,List.not_mem_nil,or_false] at hv
  rcases hv with rfl | rfl
  · exact g k (by omega)
  · exact g (k+1) (by omega)
 ·
  intro hv
  obtain ⟨j,hj,rfl⟩:=List.mem_iff_getElem.1 hv
  have g:∀ j (hj:j<P.length),P.getD j pt0=P[j]:=fun j hj=>by rw [List.getD_eq_getElem?_getD,List.getElem?_eq_getElem hj];rfl
  by_cases e:j+1<P.length
  ·
   refine ⟨(P.getD j pt0,P.getD (j+1) pt0),?_,by show P[j]∈[P.getD j pt0,P.getD (j+1) pt0];rw [g j hj];exact List.mem_cons_self⟩
   unfold segL
   exact List.mem_map.2 ⟨j,List.mem_range.2 (by omega),rfl⟩
  ·
   refine ⟨(P.getD (j-1) pt0,P.getD (j-1+1) pt0),?_,?_⟩
   ·
    unfold segL
    exact List.mem_map.2 ⟨j-1,List.mem_range.2 (by omega),rfl⟩
   ·
    have:j-1+1=j:=by omega
    show P[j]∈[P.getD (j-1) pt0,P.getD (j-1+1) pt0]
    rw [this,g j hj]
    exact List.mem_cons_of_mem _ List.mem_cons_self
theorem mem_rpth (p:Pl) (d:Int) (v:Pt):v∈rpth p d↔v∈pthD p d:=by
 unfold rpth
 split
 · exact Iff.rfl
 · exact List.mem_reverse
section
variable {p:Pl} (h:Valid p)
include h
theorem Valid.ends_pts {X:List Int} (hX:∀ d∈X,d∈dartsD p) (v:Pt):v∈endsL (segX p X)↔v∈X.flatMap (rpth p):=by
 have e:v∈endsL (segX p X)↔∃ d∈X,v∈endsL (segL (pthD p d)):=by
  unfold endsL segX
  rw [List.flatMap_assoc,List.mem_flatMap]
 rw [e,List.mem_flatMap]
 refine exists_congr fun d=>and_congr_right fun hd=>?_
 obtain ⟨a,ha,-,hp⟩:=h.pth_dart (hX d hd)
 have hl:=pathS_length p a
 rw [endsL_segL (by rw [hp];omega),mem_rpth]
omit h in
theorem home_mem {v:Pt} {X:List Int} (e:homeP p v=some X):X∈outX p:=(best_some _ _ e).1
omit h in
theorem regOf_some {f:Int} {X:List Int} (e:regOf p f=some X):X∈outX p∧faceX p (some X)=f:=⟨List.mem_of_find?_eq_some e,eq_of_beq (show (faceX p (some X) == f)=true from List.find?_some (p:=fun X=>faceX p (some X) == f) e)⟩
theorem Valid.regOf_mem (hf:FaceOK p) {f:Int}:f∈p.faces↔∃ X,regOf p f=some X:=by
 have hsub:∀ y∈(outX p).map (fun X=>sideD p (X.headD 0)),y∈p.faces:=fun y hy=>by
  obtain ⟨X,hX,rfl⟩:=List.mem_map.1 hy
  rcases h.side_face (X.headD 0) with e | e
  · exact absurd e (hf.some X hX)
  · exact e
 constructor
 ·
  intro hm
  have:f∈(outX p).map (fun X=>sideD p (X.headD 0)):=Classical.byContradiction fun c=>by
   have:=nodup_le (l:=f::(outX p).map (fun X=>sideD p (X.headD 0))) (m:=p.faces) (List.nodup_cons.2 ⟨c,hf.differ⟩) (fun x hx=>by
    rcases List.mem_cons.1 hx with rfl | hx
    · exact hm
    · exact hsub x hx)
   rw [List.length_cons,List.length_map,hf.all] at this
   omega
  obtain ⟨X,hX,e⟩:=List.mem_map.1 this
  cases c:regOf p f with
  | some Y=>exact ⟨Y,rfl⟩
  | none=>exact absurd (beq_iff_eq.2 (show faceX p (some X)=f from e)) (List.find?_eq_none.1 c X hX)
 ·
  rintro ⟨X,e⟩
  obtain ⟨hX,rfl⟩:=regOf_some e
  exact hsub _ (List.mem_map.2 ⟨X,hX,rfl⟩)
end
section
variable {p:Pl} (h:Valid p)
include h
end
end Go.Proofs.YtialfdomhoojiaaGreat
namespace Go.Proofs.YtialfdomhoojiaaGreat
open Go.RowKit
set_option linter.unusedSectionVars false

section
variable (p:Pl)
theorem findAr_bare (i:Int):findAr (bareP p).arcs i=(findAr p.arcs i).map bareA:=by
 unfold findAr bareP
 rw [List.find?_map]
 rfl
theorem arcD_bare (d:Int):arcD (bareP p) d=(arcD p d).map bareA:=by
 unfold arcD
 split
 · rfl
 · exact findAr_bare p _
theorem startD_bare (d:Int):startD (bareP p) d=startD p d:=by
 unfold startD
 rw [arcD_bare]
 cases arcD p d<;>rfl
theorem dartT_bare (d:Int):dartT (bareP p) d=dartT p d:=by
 unfold dartT
 rw [arcD_bare]
 cases arcD p d<;>rfl
theorem toD_bare (d:Int):toD (bareP p) d=toD p d:=by
 unfold toD
 rw [findAr_bare]
 cases findAr p.arcs (absI d)<;>rfl
theorem pthD_bare (d:Int):pthD (bareP p) d=pthD p d:=by
 unfold pthD
 rw [findAr_bare]
 cases findAr p.arcs (absI d)<;>rfl
theorem dartL_bare (n:Int):dartL (bareP p).arcs n=dartL p.arcs n:=by
 unfold dartL bareP
 rw [List.flatMap_map]
 rfl
theorem dartsD_bare:dartsD (bareP p)=dartsD p:=by
 unfold dartsD bareP
 simp only [List.map_map]
 rfl
theorem aroundD_bare (n:Int):aroundD (bareP p) n=aroundD p n:=by
 unfold aroundD
 rw [dartL_bare]
 have e:∀ o,ltD (bareP p) o=ltD p o:=fun o=>by funext d e;unfold ltD;rw [toD_bare,toD_bare]
 show (match findNd p.nodes n with | none=>_ | some x=>_)=_
 cases findNd p.nodes n with
 | none=>rfl
 | some x=>simp only [e]
theorem nextD_bare:nextD (bareP p)=nextD p:=by
 funext d
 unfold nextD
 rw [arcD_bare,startD_bare,aroundD_bare,Option.isSome_map]
theorem cyclesD_bare:cyclesD (bareP p)=cyclesD p:=by unfold cyclesD;rw [nextD_bare,dartsD_bare]
theorem arX_bare:arX (bareP p)=arX p:=by
 funext X
 unfold arX
 have e:dartT (bareP p)=dartT p:=funext (dartT_bare p)
 rw [e]
theorem segX_bare:segX (bareP p)=segX p:=by
 funext X
 unfold segX
 have e:pthD (bareP p)=pthD p:=funext (pthD_bare p)
 rw [e]
theorem encS_bare:encS (bareP p)=encS p:=by funext X v;unfold encS;rw [segX_bare]
theorem outX_bare:outX (bareP p)=outX p:=by unfold outX;rw [cyclesD_bare,arX_bare]
theorem resX_bare:resX (bareP p)=resX p:=by unfold resX;rw [cyclesD_bare,arX_bare]
theorem homeP_bare:homeP (bareP p)=homeP p:=by funext v;unfold homeP;rw [outX_bare,arX_bare,encS_bare]
theorem cycPt_bare:cycPt (bareP p)=cycPt p:=by funext c;unfold cycPt;rw [pthD_bare]
theorem innX_bare:innX (bareP p)=innX p:=by funext b;unfold innX;rw [resX_bare,homeP_bare,cycPt_bare]
theorem degS_bare (i:Int):degS (bareP p).arcs i=degS p.arcs i:=by unfold degS bareP;rw [List.map_map];rfl
theorem aloX_bare:aloX (bareP p)=aloX p:=by
 funext b
 unfold aloX
 rw [homeP_bare]
 simp only [degS_bare]
 rfl
theorem cysX_bare:cysX (bareP p)=cysX p:=by funext b;unfold cysX;rw [innX_bare]
theorem good_bare (a:Ar):ArcGood (bareP p) (bareA a)↔ArcGood p a:=Iff.rfl
end
def SameG (p q:Pl):Prop:=bareP p=bareP q
theorem SameG.nodes {p q:Pl} (h:SameG p q):p.nodes=q.nodes:=by
 have e:bareP p=bareP q:=h
 exact show (bareP p).nodes=(bareP q).nodes by rw [e]
theorem SameG.arcs {p q:Pl} (h:SameG p q):p.arcs.map bareA=q.arcs.map bareA:=by
 have e:bareP p=bareP q:=h
 exact show (bareP p).arcs=(bareP q).arcs by rw [e]
theorem SameG.map {p q:Pl} (h:SameG p q) {α:Type} (f:Ar→α) (hf:∀ a,f (bareA a)=f a):p.arcs.map f=q.arcs.map f:=by
 have:=congrArg (List.map f) h.arcs
 rw [List.map_map,List.map_map] at this
 have e:f ∘ bareA=f:=funext hf
 rwa [e] at this
section
variable {p q:Pl} (h:SameG p q)
include h
theorem SameG.dartsD:dartsD p=dartsD q:=by rw [← dartsD_bare p,← dartsD_bare q,h]
theorem SameG.cyclesD:cyclesD p=cyclesD q:=by rw [← cyclesD_bare p,← cyclesD_bare q,h]
theorem SameG.arX:arX p=arX q:=by rw [← arX_bare p,← arX_bare q,h]
theorem SameG.outX:outX p=outX q:=by rw [← outX_bare p,← outX_bare q,h]
theorem SameG.resX:resX p=resX q:=by rw [← resX_bare p,← resX_bare q,h]
theorem SameG.homeP:homeP p=homeP q:=by rw [← homeP_bare p,← homeP_bare q,h]
theorem SameG.cysX:cysX p=cysX q:=by rw [← cysX_bare p,← cysX_bare q,h]
theorem SameG.innX:innX p=innX q:=by rw [← innX_bare p,← innX_bare q,h]
theorem SameG.aloX:aloX p=aloX q:=by rw [← aloX_bare p,← aloX_bare q,h]
theorem SameG.valid (hv:Valid p) (h1:q.faces.length≤64) (h2:asc q.faces=true) (h3:∀ f∈q.faces,idBad f=false) (h4:sidesS q=true):Valid q where
 lim:=by
  have hl:=hv.lim
  unfold limS at hl ⊢
  simp only [Bool.or_eq_false_iff,decide_eq_false_iff_not] at hl ⊢
  obtain ⟨a1,⟨a2,a3⟩,-⟩:=hl
  rw [← h.nodes]
  have e1:q.arcs.any (fun a=>decide (64<a.via.length))=p.arcs.any (fun a=>decide (64<a.via.length)):=by
   rw [any_map' q.arcs,any_map' p.arcs,h.map (fun a=>decide (64<a.via.length)) (fun a=>rfl)]
  have e2:p.arcs.length=q.arcs.length:=by simpa using congrArg List.length h.arcs
  rw [e1,← e2]
  exact ⟨a1,⟨a2,a3⟩,by omega⟩
 ord:=by
  have ho:=hv.ord
  unfold orderedS at ho ⊢
  rw [Bool.and_eq_true,Bool.and_eq_true] at ho ⊢
  rw [← h.nodes,← h.map (·.id) (fun a=>rfl)]
  exact ⟨ho.1,h2⟩
 rng:=by
  have hr:=hv.rng
  unfold rangesS at hr ⊢
  rw [Bool.and_eq_true] at hr ⊢
  have ep:pointsS q=pointsS p:=by
   unfold pointsS
   rw [← h.nodes,List.flatMap_def,List.flatMap_def,h.map (·.via) (fun a=>rfl)]
  rw [ep]
  refine ⟨?_,hr.2⟩
  have h0:=hr.1
  rw [Bool.not_eq_true',List.any_eq_false] at h0 ⊢
  rw [← h.nodes,← h.map (·.id) (fun a=>rfl)]
  intro x hx
  rcases List.mem_append.1 hx with hx | hx
  · exact h0 x (List.mem_append_left _ hx)
  · rw [h3 x hx];simp
 dup:=by have:=hv.dup;rwa [h.nodes] at this
 ends:=by
  have:=hv.ends
  rw [all_map'] at this ⊢
  rw [← this]
  congr 1
  have e:hasEnds q=hasEnds p:=by funext a;unfold hasEnds;rw [h.nodes]
  rw [e]
  exact (h.map (hasEnds p) (fun a=>rfl)).symm
 sides:=h4
 planar:=by
  have hs:(p.arcs.map (·.id)).Pairwise (· < ·):=hv.sound.arcs
  have hs':(q.arcs.map (·.id)).Pairwise (· < ·):=by rw [← h.map (·.id) (fun a=>rfl)];exact hs
  have hb:(bareP p).arcs.map (·.id)=p.arcs.map (·.id):=by unfold bareP;simp only [List.map_map];rfl
  have hb':(bareP q).arcs.map (·.id)=q.arcs.map (·.id):=by unfold bareP;simp only [List.map_map];rfl
  have key:∀ r:Pl,(r.arcs.map (·.id)).Pairwise (· < ·)→(planarR (bareP r)=true↔planarR r=true):=fun r hr=>by
   have hbr:(bareP r).arcs.map (·.id)=r.arcs.map (·.id):=by unfold bareP;simp only [List.map_map];rfl
   rw [planar_iff r hr,planar_iff (bareP r) (by rw [hbr];exact hr)]
   refine and_congr ?_ ?_
   ·
    show (∀ a∈r.arcs.map bareA,ArcGood (bareP r) a)↔_
    constructor
    · exact fun g a ha=>(good_bare r a).1 (g _ (List.mem_map_of_mem ha))
    ·
     rintro g a ha
     obtain ⟨b,hb,rfl⟩:=List.mem_map.1 ha
     exact (good_bare r b).2 (g b hb)
   ·
    show List.Pairwise (ArcPair (bareP r)) (r.arcs.map bareA)↔_
    rw [List.pairwise_map]
    exact Iff.rfl
  have h5:=(key p hs).2 hv.planar
  have h6:bareP p=bareP q:=h
  rw [h6] at h5
  exact (key q hs').1 h5
end
end Go.Proofs.YtialfdomhoojiaaGreat
