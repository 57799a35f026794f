import Derived.Test.YtnhdmghgjngcaaaGreatJ17
import Derived.Test.YtnhdmghgjngcaaaGreatGE
import Derived.Test.YtnhdmghgjngcaaaGreatJ04
import Derived.Test.YtnhdmghgjngcaaaGreatJ01
import Derived.Test.YtnhdmghgjngcaaaGreatGB
set_option linter.unusedSimpArgs false
set_option linter.unusedVariables false
namespace Go.Proofs.YtnhdmghgjngcaaaGreat
open Go.RowKit

def blkS (a b c q:Pt):Bool:=decide (q≠a) && (decide (q≠b) && (decide (q≠c) && triS a b c q))
def paraS (p:Pl) (a:Ar):Bool:=p.arcs.any fun b=>decide (b.id≠a.id) && (decide (b.via.length=0) && (decide (b.fr=a.fr) && decide (b.dst=a.dst) || decide (b.fr=a.dst) && decide (b.dst=a.fr)))
def freeU (p:Pl) (a:Ar) (P:List Pt) (i:Nat):Bool :=
 ptOk (P.getD i pt0) && (ptOk (P.getD (i+1) pt0) && (ptOk (P.getD (i+2) pt0) && (!(decide (a.fr=a.dst) && decide (a.via.length<3)) && (!(decide (a.via.length=1) && paraS p a) &&
  (!(p.nodes.any fun n=>blkS (P.getD i pt0) (P.getD (i+1) pt0) (P.getD (i+2) pt0) n.pt) && !(p.arcs.any fun b=>b.via.any (blkS (P.getD i pt0) (P.getD (i+1) pt0) (P.getD (i+2) pt0))))))))
def freeI (p:Pl) (arc i:Int):Bool :=
 match findAr p.arcs arc with
 | none=>false
 | some a=>if i<0∨(a.via.length:Int)≤i then false else if hasEnds p a=true then freeU p a (pathS p a) i.toNat else false
structure Cd where
 id:Int
 k:Nat
 n:Int
def sizeS (P:List Pt) (k:Nat):Int:=let t:=twS (P.getD k pt0) (P.getD (k+1) pt0) (P.getD (k+2) pt0);if t<0 then -t else t
def cdU (p:Pl) (tol:Int) (a:Ar) (P:List Pt) (m:Nat):List Cd :=
 ((List.range m).filter fun k=>decide (sizeS P k<tol) && freeU p a P k).map fun k=>⟨a.id,k,sizeS P k⟩
def cdA (p:Pl) (tol:Int) (id:Int):List Cd :=
 match findAr p.arcs id with
 | none=>[]
 | some a=>if hasEnds p a=true then cdU p tol a (pathS p a) a.via.length else []
def upP (s:Option Cd) (c:Cd):Option Cd :=
 match s with
 | none=>some c
 | some b=>if (if c.n≠b.n then decide (c.n<b.n) else decide (c.id<b.id) || decide (c.id=b.id) && decide (c.k<b.k))=true then some c else some b
def upR (s:Option Cd) (c:Cd):Option Cd :=
 match s with
 | none=>some c
 | some b=>if c.n<b.n∨c.n=b.n∧c.id<b.id then some c else some b
theorem cdU_succ (p:Pl) (tol:Int) (a:Ar) (P:List Pt) (m:Nat):cdU p tol a P (m+1)=cdU p tol a P m++if (decide (sizeS P m<tol) && freeU p a P m)=true then [⟨a.id,m,sizeS P m⟩] else []:=by
 unfold cdU
 rw [List.range_succ,List.filter_append,List.map_append]
 congr 1
 simp only [List.filter_cons,List.filter_nil]
 split<;>rfl
theorem cdU_mem {p:Pl} {tol:Int} {a:Ar} {P:List Pt} {m:Nat} {c:Cd} (h:c∈cdU p tol a P m):c.id=a.id∧c.k<m∧c.n=sizeS P c.k∧c.n<tol∧freeU p a P c.k=true:=by
 unfold cdU at h
 obtain ⟨k,hk,rfl⟩:=List.mem_map.1 h
 rw [List.mem_filter,List.mem_range,Bool.and_eq_true,decide_eq_true_eq] at hk
 exact ⟨rfl,hk.1,rfl,hk.2.1,hk.2.2⟩
theorem cdA_id {p:Pl} {tol id:Int} {c:Cd} (h:c∈cdA p tol id):c.id=id:=by
 unfold cdA at h
 cases e:findAr p.arcs id with
 | none=>rw [e] at h;cases h
 | some a =>
  rw [e] at h
  simp only at h
  split at h
  ·
   have:=(cdU_mem h).1
   have hf:=List.find?_some e
   rw [this]
   simpa using hf
  · cases h
def lstF (p:Pl) (tol:Int) (st:List Int×Option Cd) (a:Ar):List Int×Option Cd:=if decide (a.id∈st.1)=true then st else (st.1++[a.id],(cdA p tol a.id).foldl upP st.2)
def leastR (p:Pl) (tol:Int) (l:List Ar) (s:Option Cd):Option Cd:=l.foldl (fun s a=>(cdA p tol a.id).foldl upR s) s
def leastS (p:Pl) (tol:Int):Option Cd:=(p.arcs.foldl (lstF p tol) ([],none)).2
def NoB (b c:Cd):Prop:=¬ (c.n<b.n∨c.n=b.n∧c.id<b.id)
theorem upR_facts (s:Option Cd) (c:Cd):∃ b,upR s c=some b∧NoB b c∧(∀ d,s=some d→NoB b d)∧(b=c∨s=some b):=by
 unfold upR NoB
 cases s with
 | none=>exact ⟨c,rfl,by omega,(fun d h=>by cases h),.inl rfl⟩
 | some b =>
  simp only
  split
  · exact ⟨c,rfl,by omega,(fun d h=>by injection h with h;subst h;omega),.inl rfl⟩
  ·
   rename_i h
   exact ⟨b,rfl,h,(fun d h=>by injection h with h;subst h;omega),.inr rfl⟩
theorem NoB.trans {a b c:Cd} (h1:NoB a b) (h2:NoB b c):NoB a c:=by unfold NoB at *;omega
theorem foldR_facts:∀ (l:List Cd) (s:Option Cd),(∀ d,s=some d→∃ b,l.foldl upR s=some b∧NoB b d)∧(∀ c∈l,∃ b,l.foldl upR s=some b∧NoB b c)∧(∀ b,l.foldl upR s=some b→b∈l∨s=some b)
 | [],s=>⟨fun d h=>⟨d,h,by unfold NoB;omega⟩,(fun c h=>by cases h),fun b h=>.inr h⟩
 | c::l,s=>by
  obtain ⟨b,e,n1,n2,ho⟩:=upR_facts s c
  obtain ⟨f1,f2,f3⟩:=foldR_facts l (upR s c)
  obtain ⟨z,ez,nz⟩:=f1 b e
  refine ⟨fun d hd=>⟨z,ez,nz.trans (n2 d hd)⟩,fun x hx=>?_,fun y hy=>?_⟩
  ·
   rcases List.mem_cons.1 hx with rfl | hx
   · exact ⟨z,ez,nz.trans n1⟩
   · exact f2 x hx
  ·
   rcases f3 y hy with h | h
   · exact .inl (List.mem_cons_of_mem _ h)
   ·
    rw [e] at h
    injection h with h
    subst h
    rcases ho with rfl | ho
    · exact .inl List.mem_cons_self
    · exact .inr ho
theorem foldR_keep:∀ (l:List Cd) (b:Cd),(∀ c∈l,NoB b c)→l.foldl upR (some b)=some b
 | [],_,_=>rfl
 | c::l,b,h=>by
  have e:upR (some b) c=some b:=by unfold upR;exact if_neg (h c List.mem_cons_self)
  rw [List.foldl_cons,e]
  exact foldR_keep l b fun x hx=>h x (List.mem_cons_of_mem _ hx)
theorem upP_eq {s:Option Cd} {c:Cd} (h:∀ b,s=some b→c.id=b.id→b.k≤c.k):upP s c=upR s c:=by
 unfold upP upR
 cases s with
 | none=>rfl
 | some b =>
  have:=h b rfl
  simp only
  by_cases e:c.n≠b.n
  ·
   rw [if_pos e]
   simp only [decide_eq_true_eq]
   by_cases g:c.n<b.n
   · rw [if_pos g,if_pos (.inl g)]
   · rw [if_neg g,if_neg (by omega)]
  ·
   rw [if_neg e]
   simp only [Bool.or_eq_true,Bool.and_eq_true,decide_eq_true_eq]
   by_cases g:c.id<b.id
   · rw [if_pos (.inl g),if_pos (by omega)]
   · rw [if_neg (by omega),if_neg (by omega)]
theorem foldP_U (p:Pl) (tol:Int) (a:Ar) (P:List Pt) (s:Option Cd) (hs:∀ b,s=some b→b.id≠a.id):∀ m,(cdU p tol a P m).foldl upP s=(cdU p tol a P m).foldl upR s
 | 0=>rfl
 | m+1=>by
  rw [cdU_succ,List.foldl_append,List.foldl_append,foldP_U p tol a P s hs m]
  split
  ·
   show upP _ _=upR _ _
   refine upP_eq fun b hb hid=>?_
   rcases (foldR_facts _ _).2.2 b hb with h | h
   ·
    have:=(cdU_mem h).2.1
    show b.k≤m
    omega
   · exact absurd hid.symm (hs b h)
  · rfl
theorem foldP_A (p:Pl) (tol id:Int) (s:Option Cd) (hs:∀ b,s=some b→b.id≠id):(cdA p tol id).foldl upP s=(cdA p tol id).foldl upR s:=by
 unfold cdA
 cases e:findAr p.arcs id with
 | none=>rfl
 | some a =>
  have hf:a.id=id:=by simpa using List.find?_some e
  simp only
  split
  · exact foldP_U p tol a _ s (by rw [hf];exact hs) _
  · rfl
theorem least_eq (p:Pl) (tol:Int):∀ (l:List Ar) (st:List Int×Option Cd),(∀ b,st.2=some b→b.id∈st.1)→(∀ id∈st.1,∀ c∈cdA p tol id,∃ b,st.2=some b∧NoB b c)→(l.foldl (lstF p tol) st).2=leastR p tol l st.2
 | [],_,_,_=>rfl
 | a::l,(seen,s),h1,h2=>by
  rw [List.foldl_cons]
  show _=leastR p tol l ((cdA p tol a.id).foldl upR s)
  simp only at h1 h2
  have hst:lstF p tol (seen,s) a=if decide (a.id∈seen)=true then (seen,s) else (seen++[a.id],(cdA p tol a.id).foldl upP s):=rfl
  rw [hst]
  by_cases e:a.id∈seen
  ·
   rw [if_pos (by simpa using e),least_eq p tol l (seen,s) h1 h2]
   congr 1
   symm
   have h3:=h2 _ e
   cases s with
   | none =>
    cases hc:cdA p tol a.id with
    | nil=>rfl
    | cons c t =>
     obtain ⟨b,hb,-⟩:=h3 c (by rw [hc];exact List.mem_cons_self)
     cases hb
   | some b =>
    refine foldR_keep _ _ fun c hc=>?_
    obtain ⟨b',hb,hn⟩:=h3 c hc
    injection hb with hb
    subst hb
    exact hn
  ·
   rw [if_neg (by simpa using e),foldP_A p tol a.id s (fun b hb hid=>e (hid ▸ h1 b hb))]
   obtain ⟨f1,f2,f3⟩:=foldR_facts (cdA p tol a.id) s
   refine least_eq p tol l _ (fun b hb=>?_) (fun id hid c hc=>?_)
   ·
    rcases f3 b hb with h | h
    · rw [cdA_id h];exact List.mem_append_right _ (List.mem_singleton.2 rfl)
    · exact List.mem_append_left _ (h1 b h)
   ·
    rcases List.mem_append.1 hid with hid | hid
    ·
     obtain ⟨b,hb,hn⟩:=h2 id hid c hc
     obtain ⟨z,hz,hz2⟩:=f1 b hb
     exact ⟨z,hz,hz2.trans hn⟩
    ·
     rw [List.mem_singleton] at hid
     subst hid
     exact f2 c hc
theorem leastS_eq (p:Pl) (tol:Int):leastS p tol=leastR p tol p.arcs none:=least_eq p tol p.arcs ([],none) (fun b h=>by cases h) (fun id h=>by cases h)
def dropL (arc:Int) (i:Nat):List Ar→List Ar
 | []=>[]
 | a::l=>if a.id=arc then ⟨a.id,a.fr,a.dst,a.via.eraseIdx i,a.left,a.right⟩::l else a::dropL arc i l
def dropV (p:Pl) (arc:Int) (i:Nat):Pl:=⟨p.nodes,dropL arc i p.arcs,p.faces⟩
def thinS (p:Pl) (tol:Int):Option Pl:=(leastS p tol).map fun c=>dropV p c.id c.k
def totV (l:List Ar):Nat:=(l.map (·.via.length)).sum
def simpU (tol:Int):Nat→Pl→Pl
 | 0,p=>p
 | n+1,p=>match thinS p tol with
  | none=>p
  | some q=>simpU tol n q
def simpS (p:Pl) (tol:Int):Pl:=simpU tol (totV p.arcs) p
theorem drop_tot {arc:Int} {i:Nat}:∀ {l:List Ar} {a:Ar},findAr l arc=some a→i<a.via.length→totV (dropL arc i l)+1=totV l
 | [],a,h,_=>by cases h
 | b::l,a,h,hi=>by
  unfold findAr at h
  rw [List.find?_cons] at h
  unfold dropL
  by_cases e:b.id=arc
  ·
   rw [show (b.id == arc)=true by simpa using e] at h
   injection h with h
   subst h
   rw [if_pos e]
   unfold totV
   simp only [List.map_cons,List.sum_cons,List.length_eraseIdx]
   rw [if_pos hi]
   omega
  ·
   rw [show (b.id == arc)=false by simpa using e] at h
   rw [if_neg e]
   have ih:=drop_tot (l:=l) h hi
   unfold totV at *
   simp only [List.map_cons,List.sum_cons]
   omega
theorem drop_len (arc:Int) (i:Nat):∀ l:List Ar,(dropL arc i l).length=l.length
 | []=>rfl
 | b::l=>by
  unfold dropL
  split
  · rfl
  · rw [List.length_cons,List.length_cons,drop_len arc i l]
theorem leastS_some {p:Pl} {tol:Int} {c:Cd} (h:leastS p tol=some c):∃ a,findAr p.arcs c.id=some a∧a.id=c.id∧hasEnds p a=true∧c.k<a.via.length∧c.n=sizeS (pathS p a) c.k∧c.n<tol∧freeU p a (pathS p a) c.k=true:=by
 rw [leastS_eq] at h
 unfold leastR at h
 have key:∀ (l:List Ar) (s:Option Cd),l.foldl (fun s a=>(cdA p tol a.id).foldl upR s) s=some c→s=some c∨∃ id,c∈cdA p tol id:=by
  intro l
  induction l with
  | nil=>exact fun s h=>.inl h
  | cons a l ih =>
   intro s h
   rw [List.foldl_cons] at h
   rcases ih _ h with e | e
   ·
    rcases (foldR_facts _ _).2.2 c e with g | g
    · exact .inr ⟨_,g⟩
    · exact .inl g
   · exact .inr e
 rcases key _ _ h with e | ⟨id,e⟩
 · cases e
 have hid:=cdA_id e
 unfold cdA at e
 cases hf:findAr p.arcs id with
 | none=>rw [hf] at e;cases e
 | some a =>
  rw [hf] at e
  simp only at e
  split at e
  ·
   rename_i he
   obtain ⟨h1,h2,h3,h4,h5⟩:=cdU_mem e
   exact ⟨a,by rw [hid,hf],h1.symm,he,h2,h3,h4,h5⟩
  · cases e
theorem thinS_tot {p q:Pl} {tol:Int} (h:thinS p tol=some q):totV q.arcs+1=totV p.arcs:=by
 unfold thinS at h
 cases e:leastS p tol with
 | none=>rw [e] at h;cases h
 | some c =>
  rw [e] at h
  injection h with h
  subst h
  obtain ⟨a,hf,-,-,hk,-⟩:=leastS_some e
  exact drop_tot hf hk
theorem simpU_done (tol:Int):∀ (n:Nat) (p:Pl),totV p.arcs≤n→thinS (simpU tol n p) tol=none∧(∀ m,n≤m→simpU tol m p=simpU tol n p)
 | 0,p,h=>by
  have hn:thinS p tol=none:=by
   cases e:thinS p tol with
   | none=>rfl
   | some q=>have:=thinS_tot e;omega
  refine ⟨hn,fun m _=>?_⟩
  cases m with
  | zero=>rfl
  | succ m=>unfold simpU;rw [hn]
 | n+1,p,h=>by
  cases e:thinS p tol with
  | none =>
   have h1:∀ m,simpU tol m p=p:=fun m=>by
    cases m with
    | zero=>rfl
    | succ m=>unfold simpU;rw [e]
   rw [h1]
   exact ⟨e,fun m _=>h1 m⟩
  | some q =>
   have ht:=thinS_tot e
   obtain ⟨i1,i2⟩:=simpU_done tol n q (by omega)
   have h1:∀ m,simpU tol (m+1) p=simpU tol m q:=fun m=>by
    show (match thinS p tol with | none=>p | some q=>simpU tol m q)=_
    rw [e]
   rw [h1]
   refine ⟨i1,fun m hm=>?_⟩
   obtain ⟨k,rfl⟩:∃ k,m=k+1:=⟨m-1,by omega⟩
   rw [h1]
   exact i2 k (by omega)
theorem simpS_end (p:Pl) (tol:Int):thinS (simpS p tol) tol=none:=(simpU_done tol _ p (Nat.le_refl _)).1
theorem simpS_next {p q:Pl} {tol:Int} (h:thinS p tol=some q):simpS p tol=simpS q tol:=by
 have ht:=thinS_tot h
 unfold simpS
 rw [← ht]
 generalize totV q.arcs=n
 unfold simpU
 rw [h]
 cases n<;>rfl
theorem simpS_stop {p:Pl} {tol:Int} (h:thinS p tol=none):simpS p tol=p:=by
 unfold simpS
 cases totV p.arcs with
 | zero=>rfl
 | succ n=>unfold simpU;rw [h]
end Go.Proofs.YtnhdmghgjngcaaaGreat
namespace Go.Proofs.YtnhdmghgjngcaaaGreat
open Go.RowKit

def parF (a b:Ar):Bool:=decide (b.id≠a.id) && (decide (b.via.length=0) && (decide (b.fr=a.fr) && decide (b.dst=a.dst) || decide (b.fr=a.dst) && decide (b.dst=a.fr)))
theorem paraS_any (p:Pl) (a:Ar):paraS p a=p.arcs.any (parF a):=rfl
def IdxR (f:Ar→Bool) (l:List Ar) (r:Int):Prop:=(r=-1∧∀ j (hj:j<l.length),f l[j]=false)∨∃ (k:Nat) (hk:k<l.length),r=(k:Int)∧f l[k]=true∧∀ j (hj:j<l.length),j<k→f l[j]=false
theorem IdxR.any {f:Ar→Bool} {l:List Ar} {r:Int} (h:IdxR f l r):decide (0≤r)=l.any f:=by
 rcases h with ⟨rfl,h⟩ | ⟨k,hk,rfl,h,-⟩
 ·
  symm
  rw [show decide ((0:Int)≤-1)=false by decide,← Bool.not_eq_true,List.any_eq_true]
  rintro ⟨x,hx,e⟩
  obtain ⟨j,hj,rfl⟩:=List.mem_iff_getElem.1 hx
  rw [h j hj] at e
  cases e
 ·
  rw [decide_eq_true (by omega)]
  exact (List.any_eq_true.2 ⟨_,List.getElem_mem hk,h⟩).symm

set_option maxRecDepth 100000 in
set_option maxHeartbeats 4000000 in
theorem par1_spec (a b:Ar) (va:Value) (A:Option Addr) (c:Nat) (g:Nat) (w:World) (h:Blk w g 41 #[.int .i64 a.id,.int .i64 a.fr,.int .i64 a.dst,va,.int .i64 a.left,.int .i64 a.right]) :
  Calls Tryz.prog 69 #[arV b (.slice A b.via.length c),.pointer (some ⟨g,0,none⟩)] w fun e w'=>e=.returned (.bool (parF a b))∧Below w.heap.size w w':=by
 obtain ⟨R,hR⟩:∃ R,parF a b=R:=⟨_,rfl⟩
 rw [hR]
 obtain ⟨y,hy⟩:∃ y,((b.fr == a.fr) && (b.dst == a.dst) || (b.fr == a.dst) && (b.dst == a.fr))=y:=⟨_,rfl⟩
 have e0:parF a b=((b.id != a.id) && (decide (b.via.length=0) && ((b.fr == a.fr) && (b.dst == a.dst) || (b.fr == a.dst) && (b.dst == a.fr)))):=by
  unfold parF
  congr 1
  simp [bne]
  rfl
 rw [e0,hy] at hR
 clear e0
 have HX:=Lib.hid h
 unfold arV
 generalize b.via.length=n at *
 obtain ⟨id,fr,dst,via,lf,rt⟩:=a
 obtain ⟨id',fr',dst',via',lf',rt'⟩:=b
 simp only at *
 have HR:=Lib.hid hR;have HY:=Lib.hid hy
 clear hR hy h
 go_enter Tryz.func69,Tryz.ntmps69
 go_upto_region 1 with fail
 obtain ⟨W1,hW⟩:∃ W:World,W=w.alloc (.cells #[.int .i64 id',.int .i64 fr',.int .i64 dst',.slice A n c,.int .i64 lf',.int .i64 rt'] 41):=⟨_,rfl⟩
 have X2:Blk W1 w.heap.size 41 #[.int .i64 id',.int .i64 fr',.int .i64 dst',.slice A n c,.int .i64 lf',.int .i64 rt']:=by rw [hW];exact Blk.made rfl _ _
 have HB1:=Lib.hid (show Below w.heap.size w W1 by rw [hW];exact bA (bR w) _)
 have X1:=HX.out.keep HB1.out
 rw [← hW]
 clear hW
 obtain ⟨X1l,X1a,X1b,X1c,X1d,X1e,X1f,-,-,-,-,-,-⟩:=X1.facts6
 obtain ⟨X2l,X2a,X2b,X2c,X2d,X2e,X2f,-,-,-,-,-,-⟩:=X2.facts6
 go_cut [4] (fun u wx=>u=.bool y∧wx=W1)
 case first =>
  have hy:=HY.out
  cases e1:(fr' == fr)<;>cases e2:(dst' == dst)<;>cases e3:(fr' == dst)<;>cases e4:(dst' == fr) <;>
   (rw [e1,e2,e3,e4] at hy
    have Hy:=Lib.hid hy
    clear hy
    go_wp2_with fail
    go_meet
    case rel => exact ⟨by rw [← Hy.out];rfl,rfl⟩)
 case rest =>
 obtain ⟨rfl,hw⟩:=hcut
 subst hw
 have hR:=HR.out
 cases e5:(id' != id)<;>cases e6:((n:Int) == 0) <;>
  (have q6:=e6
   simp only [beq_iff_eq,beq_eq_false_iff_ne,ne_eq,Int.natCast_eq_zero,Int.ofNat_eq_zero] at q6
   simp only [q6,decide_true,decide_false] at hR
   rw [e5] at hR
   have Hr:=Lib.hid hR
   clear hR q6
   go_wp2_with fail
   go_ret
   exact ⟨by rw [← Hr.out];simp,HB1.out⟩)
set_option maxRecDepth 100000 in
set_option maxHeartbeats 4000000 in
theorem IdxPar_spec (va:Value) (al:List (Ar×Value)) (a:Ar) (v:Value) (g:Nat) (w:World) (h:Ars w va al) (hx:Blk w g 41 #[.int .i64 a.id,.int .i64 a.fr,.int .i64 a.dst,v,.int .i64 a.left,.int .i64 a.right]) (hlen:al.length≤1000000) :
  Calls Tryz.prog 37 #[va,.func (.func 69) #[] #[.pointer (some ⟨g,0,none⟩)]] w fun e w'=>(∃ r,e=.returned (.int .i64 r)∧IdxR (parF a) (al.map (·.1)) r)∧Below w.heap.size w w':=by
 obtain ⟨⟨A,c,rfl,hn,hc,hR⟩,hV⟩:=h
 have HR:=Lib.hid hR;have HV:=Lib.hid hV;have HX:=Lib.hid hx
 obtain ⟨L,hL⟩:∃ L:List Ar,al.map (·.1)=L:=⟨_,rfl⟩
 obtain ⟨f,hf⟩:∃ f:Ar→Bool,parF a=f:=⟨_,rfl⟩
 have HLl:=Lib.hid (show L.length=al.length by rw [← hL,List.length_map])
 have HLa:=Lib.hid (fun k (hk:k<L.length) (hk':k<al.length)=>show L[k]=al[k].1 from by subst hL;rw [List.getElem_map])
 have HF:=Lib.hid (fun x=>congrFun hf x)
 rw [hL,hf]
 clear hR hV hx hL hf
 go_enter Tryz.func37,Tryz.ntmps37
 go_wp2_with fail
 go_loopw [8] (fun u wr=>∃ k:Nat,k≤al.length∧u=.int .i64 k∧(∀ j (hj:j<L.length),j<k→f L[j]=false)∧Below w.heap.size w wr) (fun u _=>al.length-(intOf u).toNat)
 case atStart => exact ⟨0,Nat.zero_le _,rfl,fun j _ h=>by omega,bR w⟩
 case round =>
  obtain ⟨k,hk,rfl,hno,hb⟩:=hrel
  obtain ⟨wo,rfl⟩:∃ wo:World,wo=wr:=⟨_,rfl⟩
  have Hb:=Lib.hid hb;have HNo:=Lib.hid hno
  clear hb hno
  by_cases hlt:k<al.length
  ·
   obtain ⟨b,o,rfl,hlb,c0,c1,c2,c3,c4,c5⟩:=(HR.out.mono Hb.out).ar hlt
   obtain ⟨Av,cv,hva,-⟩:=HV.out k hlt
   have hkm:k<L.length:=by rw [HLl.out];exact hlt
   have he:=Lib.hid (HLa.out k hkm hlt)
   rw [hva] at c3
   have HP:=Lib.hid (fun W (hW:Below w.heap.size w W)=>show Calls Tryz.prog 69 #[arV al[k].1 (.slice Av al[k].1.via.length cv),.pointer (some ⟨g,0,none⟩)] W fun e w'=>e=.returned (.bool (f al[k].1))∧Below W.heap.size W w' from by rw [← HF.out];exact par1_spec a al[k].1 v Av cv g W (HX.out.keep hW))
   obtain ⟨z,hz⟩:∃ z,f al[k].1=z:=⟨_,rfl⟩
   have HZ:=Lib.hid hz
   rw [hz] at HP
   unfold arV at HP
   clear hz hva
   have k1:(k:Int)<al.length:=by omega
   have k2:0≤(k:Int):=by omega
   go_wp2_with fail
   refine (HP.out _ Hb.out).mono ?_
   rintro e w2 ⟨rfl,hb2⟩
   have HB2:=Lib.hid (bT Hb.out hb2)
   clear hb2 c0 c1 c2 c3 c4 c5
   cases z
   case true =>
    go_wp2_with fail
    go_ret
    exact ⟨⟨_,rfl,.inr ⟨k,hkm,rfl,by rw [he.out];exact HZ.out,HNo.out⟩⟩,HB2.out⟩
   case false =>
    go_wp2_with fail
    go_roundw
    case rel => exact ⟨k+1,by omega,by go_num,fun j hj hjk=>if e:j<k then HNo.out j hj e else by
     have:j=k:=by omega
     subst this
     rw [he.out]
     exact HZ.out,HB2.out⟩
    case measure => simp [intOf];omega
  ·
   obtain rfl:k=al.length:=by omega
   go_wp2_with fail
   go_ret
   exact ⟨⟨_,rfl,.inl ⟨rfl,fun j hj=>HNo.out j hj (by rw [HLl.out] at hj;exact hj)⟩⟩,Hb.out⟩

set_option maxRecDepth 100000 in
set_option maxHeartbeats 4000000 in
theorem step1_spec (b:Ar) (arc:Int) (va:Value) (g:Nat) (w:World) (h:Blk w g 3 #[.int .i64 arc]) :
  Calls Tryz.prog 38 #[arV b va,.pointer (some ⟨g,0,none⟩)] w fun e w'=>e=.returned (.bool (b.id == arc))∧Below w.heap.size w w':=by
 have hA:=h.alloc (.cells #[.int .i64 b.id,.int .i64 b.fr,.int .i64 b.dst,va,.int .i64 b.left,.int .i64 b.right] 41)
 have hB:=Blk.made (w:=w) rfl 41 #[.int .i64 b.id,.int .i64 b.fr,.int .i64 b.dst,va,.int .i64 b.left,.int .i64 b.right]
 unfold arV
 go_enter Tryz.func38,Tryz.ntmps38
 go_upto_region 1 with fail
 obtain ⟨W1,hW⟩:∃ W:World,W=w.alloc (.cells #[.int .i64 b.id,.int .i64 b.fr,.int .i64 b.dst,va,.int .i64 b.left,.int .i64 b.right] 41):=⟨_,rfl⟩
 rw [← hW] at hA hB ⊢
 have HB1:=Lib.hid (show Below w.heap.size w W1 by rw [hW];exact bA (bR w) _)
 clear hW h
 obtain ⟨hAl,hAa,-⟩:=hA.facts1
 obtain ⟨hBl,hBa,hBb,hBc,hBd,hBe,hBf,-,-,-,-,-,-⟩:=hB.facts6
 go_wp2_with fail
 go_ret
 exact ⟨rfl,HB1.out⟩

set_option maxRecDepth 100000 in
set_option maxHeartbeats 4000000 in
theorem IdxStep_spec (va:Value) (al:List (Ar×Value)) (arc:Int) (g:Nat) (w:World) (h:Ars w va al) (hx:Blk w g 3 #[.int .i64 arc]) (hlen:al.length≤1000000) :
  Calls Tryz.prog 37 #[va,.func (.func 38) #[] #[.pointer (some ⟨g,0,none⟩)]] w fun e w'=>(∃ r,e=.returned (.int .i64 r)∧IdxR (fun x:Ar=>x.id == arc) (al.map (·.1)) r)∧Below w.heap.size w w':=by
 obtain ⟨⟨A,c,rfl,hn,hc,hR⟩,hV⟩:=h
 have HR:=Lib.hid hR;have HV:=Lib.hid hV;have HX:=Lib.hid hx
 obtain ⟨L,hL⟩:∃ L:List Ar,al.map (·.1)=L:=⟨_,rfl⟩
 obtain ⟨f,hf⟩:∃ f:Ar→Bool,(fun x:Ar=>x.id == arc)=f:=⟨_,rfl⟩
 have HLl:=Lib.hid (show L.length=al.length by rw [← hL,List.length_map])
 have HLa:=Lib.hid (fun k (hk:k<L.length) (hk':k<al.length)=>show L[k]=al[k].1 from by subst hL;rw [List.getElem_map])
 have HF:=Lib.hid (fun x=>congrFun hf x)
 rw [hL,hf]
 clear hR hV hx hL hf
 go_enter Tryz.func37,Tryz.ntmps37
 go_wp2_with fail
 go_loopw [8] (fun u wr=>∃ k:Nat,k≤al.length∧u=.int .i64 k∧(∀ j (hj:j<L.length),j<k→f L[j]=false)∧Below w.heap.size w wr) (fun u _=>al.length-(intOf u).toNat)
 case atStart => exact ⟨0,Nat.zero_le _,rfl,fun j _ h=>by omega,bR w⟩
 case round =>
  obtain ⟨k,hk,rfl,hno,hb⟩:=hrel
  obtain ⟨wo,rfl⟩:∃ wo:World,wo=wr:=⟨_,rfl⟩
  have Hb:=Lib.hid hb;have HNo:=Lib.hid hno
  clear hb hno
  by_cases hlt:k<al.length
  ·
   obtain ⟨b,o,rfl,hlb,c0,c1,c2,c3,c4,c5⟩:=(HR.out.mono Hb.out).ar hlt
   obtain ⟨Av,cv,hva,-⟩:=HV.out k hlt
   have hkm:k<L.length:=by rw [HLl.out];exact hlt
   have he:=Lib.hid (HLa.out k hkm hlt)
   rw [hva] at c3
   have HP:=Lib.hid (fun W (hW:Below w.heap.size w W)=>show Calls Tryz.prog 38 #[arV al[k].1 (.slice Av al[k].1.via.length cv),.pointer (some ⟨g,0,none⟩)] W fun e w'=>e=.returned (.bool (f al[k].1))∧Below W.heap.size W w' from by rw [← HF.out];exact step1_spec al[k].1 arc (.slice Av al[k].1.via.length cv) g W (HX.out.keep hW))
   obtain ⟨z,hz⟩:∃ z,f al[k].1=z:=⟨_,rfl⟩
   have HZ:=Lib.hid hz
   rw [hz] at HP
   unfold arV at HP
   clear hz hva
   have k1:(k:Int)<al.length:=by omega
   have k2:0≤(k:Int):=by omega
   go_wp2_with fail
   refine (HP.out _ Hb.out).mono ?_
   rintro e w2 ⟨rfl,hb2⟩
   have HB2:=Lib.hid (bT Hb.out hb2)
   clear hb2 c0 c1 c2 c3 c4 c5
   cases z
   case true =>
    go_wp2_with fail
    go_ret
    exact ⟨⟨_,rfl,.inr ⟨k,hkm,rfl,by rw [he.out];exact HZ.out,HNo.out⟩⟩,HB2.out⟩
   case false =>
    go_wp2_with fail
    go_roundw
    case rel => exact ⟨k+1,by omega,by go_num,fun j hj hjk=>if e:j<k then HNo.out j hj e else by
     have:j=k:=by omega
     subst this
     rw [he.out]
     exact HZ.out,HB2.out⟩
    case measure => simp [intOf];omega
  ·
   obtain rfl:k=al.length:=by omega
   go_wp2_with fail
   go_ret
   exact ⟨⟨_,rfl,.inl ⟨rfl,fun j hj=>HNo.out j hj (by rw [HLl.out] at hj;exact hj)⟩⟩,Hb.out⟩

set_option maxRecDepth 100000 in
set_option maxHeartbeats 4000000 in
theorem Cont_spec (va:Value) (al:List (Ar×Value)) (a:Ar) (v:Value) (g:Nat) (w:World) (h:Ars w va al) (hx:Blk w g 41 #[.int .i64 a.id,.int .i64 a.fr,.int .i64 a.dst,v,.int .i64 a.left,.int .i64 a.right]) (hlen:al.length≤1000000) :
  Calls Tryz.prog 68 #[va,.func (.func 69) #[] #[.pointer (some ⟨g,0,none⟩)]] w fun e w'=>e=.returned (.bool ((al.map (·.1)).any (parF a)))∧Below w.heap.size w w':=by
 have HI:=Lib.hid (IdxPar_spec va al a v g w h hx hlen)
 obtain ⟨⟨A,c,rfl,-⟩,-⟩:=h
 clear hx
 go_enter Tryz.func68,Tryz.ntmps68
 go_wp2_with fail
 refine HI.out.mono ?_
 rintro e w1 ⟨⟨r,rfl,hr⟩,hb1⟩
 have HB1:=Lib.hid hb1;have HRr:=Lib.hid hr.any
 clear hb1 hr
 go_wp2_with fail
 go_ret
 exact ⟨ret_bool (by rw [← HRr.out]),HB1.out⟩

set_option maxRecDepth 100000 in
set_option maxHeartbeats 4000000 in
theorem Parallel_spec (v vv:Value) (p:Pl) (a:Ar) (w:World) (h:PlV w v p) (hlen:p.arcs.length≤1000000) :
  Calls Tryz.prog 49 #[v,arV a vv] w fun e w'=>e=.returned (.bool (paraS p a))∧Below w.heap.size w w':=by
 obtain ⟨vn,va,vf,al,rfl,hpa,hN,hA,hF⟩:=h
 rw [paraS_any,hpa]
 rw [hpa,List.length_map] at hlen
 obtain ⟨z,hz⟩:∃ z,(al.map (·.1)).any (parF a)=z:=⟨_,rfl⟩
 have HC:=Lib.hid (fun g W (hW:Below w.heap.size w W) hx=>Cont_spec va al a vv g W (hA.mono hW) hx hlen)
 rw [hz] at HC ⊢
 clear hz
 obtain ⟨⟨Aa,ca,rfl,-⟩,-⟩:=hA
 obtain ⟨An,cn,rfl,-⟩:=hN
 obtain ⟨Af,cf,rfl,-⟩:=hF
 unfold arV
 generalize hnn:p.nodes.length=nn at *
 generalize hnf:p.faces.length=nf at *
 generalize hal:al.length=na at *
 clear hpa
 go_enter Tryz.func49,Tryz.ntmps49
 go_upto_region 1 with fail
 obtain ⟨W1,hW⟩:∃ W:World,W=(w.alloc (.cells #[.slice An nn cn,.slice Aa na ca,.slice Af nf cf] 26)).alloc (.cells #[.int .i64 a.id,.int .i64 a.fr,.int .i64 a.dst,vv,.int .i64 a.left,.int .i64 a.right] 41):=⟨_,rfl⟩
 have X2:Blk W1 w.heap.size 26 #[.slice An nn cn,.slice Aa na ca,.slice Af nf cf]:=by rw [hW];exact (Blk.made rfl _ _).alloc _
 have HX3:=Lib.hid (show Blk W1 (w.heap.size+1) 41 #[.int .i64 a.id,.int .i64 a.fr,.int .i64 a.dst,vv,.int .i64 a.left,.int .i64 a.right] by rw [hW];exact Blk.made (by simp) _ _)
 have HB1:=Lib.hid (show Below w.heap.size w W1 by rw [hW];exact bA (bA (bR w) _) _)
 rw [← hW]
 clear hW hnn hnf hal
 obtain ⟨X2l,X2a,X2b,X2c,-,-,-⟩:=X2.facts3
 go_wp2_with fail
 refine (HC.out _ _ HB1.out HX3.out).mono ?_
 rintro e w2 ⟨rfl,hb2⟩
 have HB2:=Lib.hid (bT HB1.out hb2)
 clear hb2
 go_wp2_with fail
 go_ret
 exact ⟨rfl,HB2.out⟩
end Go.Proofs.YtnhdmghgjngcaaaGreat
namespace Go.Proofs.YtnhdmghgjngcaaaGreat
open Go.RowKit

inductive RPlanT where
 | done
 | take (i m:Nat) (r:RPlanT)
 | call (i m:Nat) (r:RPlanT)
 | two (i m:Nat) (r:RPlanT) (j m':Nat) (s:RPlanT)
 | three (i m:Nat) (r:RPlanT) (j m':Nat) (s:RPlanT) (k m'':Nat) (u:RPlanT)
 | four (i m:Nat) (r:RPlanT) (j m':Nat) (s:RPlanT) (k m'':Nat) (u:RPlanT) (n m3:Nat) (v:RPlanT)
def RPlanT.run:Nat→Nat→Nat→RPlanT→RPlanT
 | 0,_,_,r=>r
 | n+1,i,m,r=>.take i (m ||| (1 <<< i)) (RPlanT.run n (i+1) (m ||| (1 <<< i)) r)
def RPlanT.depth:RPlanT→Nat
 | .done=>0
 | .take _ _ r=>r.depth+1
 | .call _ _ r=>r.depth+1
 | .two _ _ r _ _ s=>Nat.max r.depth s.depth+1
 | .three _ _ r _ _ s _ _ u=>Nat.max r.depth (Nat.max s.depth u.depth)+1
 | .four _ _ r _ _ s _ _ u _ _ v=>Nat.max r.depth (Nat.max s.depth (Nat.max u.depth v.depth))+1
def planOkT (ops:Array Oper):RPlanT→Array Bool→Prop
 | .done,l=>Region.ready .any ops l=[]
 | .take i _ r,l=>Region.free .any ops l i=true∧(Region.ready .any ops l).contains i=true∧planOkT ops r (l.setIfInBounds i true)
 | .call i _ r,l=>Region.ready .any ops l=[i]∧planOkT ops r (l.setIfInBounds i true)
 | .two i _ r j _ s,l=>Region.ready .any ops l=[i,j]∧planOkT ops r (l.setIfInBounds i true)∧planOkT ops s (l.setIfInBounds j true)
 | .three i _ r j _ s k _ u,l=>Region.ready .any ops l=[i,j,k]∧planOkT ops r (l.setIfInBounds i true)∧planOkT ops s (l.setIfInBounds j true)∧planOkT ops u (l.setIfInBounds k true)
 | .four i _ r j _ s k _ u n _ v,l=>Region.ready .any ops l=[i,j,k,n]∧planOkT ops r (l.setIfInBounds i true)∧planOkT ops s (l.setIfInBounds j true)∧planOkT ops u (l.setIfInBounds k true)∧planOkT ops v (l.setIfInBounds n true)
def planMT (ops:Array Oper):RPlanT→Nat→Bool
 | .done,m=>(readyM ops m).isEmpty
 | .take i m' r,m=>Nat.beq m' (m ||| (1 <<< i)) && (freeM ops m i && (upM ops m i && planMT ops r m'))
 | .call i m' r,m=>Nat.beq m' (m ||| (1 <<< i)) && (decide (readyM ops m=[i]) && planMT ops r m')
 | .two i m' r j m'' s,m=>Nat.beq m' (m ||| (1 <<< i)) && (Nat.beq m'' (m ||| (1 <<< j)) && (decide (readyM ops m=[i,j]) && (planMT ops r m' && planMT ops s m'')))
 | .three i m' r j m'' s k m3 u,m=>Nat.beq m' (m ||| (1 <<< i)) && (Nat.beq m'' (m ||| (1 <<< j)) && (Nat.beq m3 (m ||| (1 <<< k)) && (decide (readyM ops m=[i,j,k]) && (planMT ops r m' && (planMT ops s m'' && planMT ops u m3)))))
 | .four i m' r j m'' s k m3 u n m4 v,m=>Nat.beq m' (m ||| (1 <<< i)) && (Nat.beq m'' (m ||| (1 <<< j)) && (Nat.beq m3 (m ||| (1 <<< k)) && (Nat.beq m4 (m ||| (1 <<< n)) && (decide (readyM ops m=[i,j,k,n]) && (planMT ops r m' && (planMT ops s m'' && (planMT ops u m3 && planMT ops v m4)))))))
theorem planMT_ok (ops:Array Oper):∀ (p:RPlanT) (m:Nat),m<2 ^ ops.size→planMT ops p m=true→planOkT ops p (maskArr ops.size m)
 | .done,m,hm,h=>by
  simp only [planMT,List.isEmpty_iff] at h
  show Region.ready .any ops _=[]
  rw [ready_mask _ _ hm,h]
 | .take i m' r,m,hm,h=>by
  simp only [planMT,Bool.and_eq_true,Nat.beq_eq] at h
  obtain ⟨h1,h2,h3,h4⟩:=h
  have hi:=upM_lt h3
  refine ⟨by rw [free_mask];exact h2,?_,?_⟩
  ·
   rw [ready_mask _ _ hm,List.contains_iff_mem]
   exact List.mem_filter.2 ⟨List.mem_range.2 hi,h3⟩
  ·
   rw [maskArr_set _ _ _ hi,← h1]
   exact planMT_ok ops r m' (by rw [h1];exact mask_lt hm hi) h4
 | .call i m' r,m,hm,h=>by
  simp only [planMT,Bool.and_eq_true,Nat.beq_eq,decide_eq_true_eq] at h
  obtain ⟨h1,h2,h3⟩:=h
  have hi:i<ops.size:=readyM_lt (m:=m) (by rw [h2];simp)
  refine ⟨by rw [ready_mask _ _ hm,h2],?_⟩
  rw [maskArr_set _ _ _ hi,← h1]
  exact planMT_ok ops r m' (by rw [h1];exact mask_lt hm hi) h3
 | .two i m' r j m'' s,m,hm,h=>by
  simp only [planMT,Bool.and_eq_true,Nat.beq_eq,decide_eq_true_eq] at h
  obtain ⟨h1,h2,h3,h4,h5⟩:=h
  have hi:i<ops.size:=readyM_lt (m:=m) (by rw [h3];simp)
  have hj:j<ops.size:=readyM_lt (m:=m) (by rw [h3];simp)
  refine ⟨by rw [ready_mask _ _ hm,h3],?_,?_⟩
  ·
   rw [maskArr_set _ _ _ hi,← h1]
   exact planMT_ok ops r m' (by rw [h1];exact mask_lt hm hi) h4
  ·
   rw [maskArr_set _ _ _ hj,← h2]
   exact planMT_ok ops s m'' (by rw [h2];exact mask_lt hm hj) h5
 | .three i m' r j m'' s k m3 u,m,hm,h=>by
  simp only [planMT,Bool.and_eq_true,Nat.beq_eq,decide_eq_true_eq] at h
  obtain ⟨h1,h2,h6,h3,h4,h5,h7⟩:=h
  have hi:i<ops.size:=readyM_lt (m:=m) (by rw [h3];simp)
  have hj:j<ops.size:=readyM_lt (m:=m) (by rw [h3];simp)
  have hk:k<ops.size:=readyM_lt (m:=m) (by rw [h3];simp)
  refine ⟨by rw [ready_mask _ _ hm,h3],?_,?_,?_⟩
  ·
   rw [maskArr_set _ _ _ hi,← h1]
   exact planMT_ok ops r m' (by rw [h1];exact mask_lt hm hi) h4
  ·
   rw [maskArr_set _ _ _ hj,← h2]
   exact planMT_ok ops s m'' (by rw [h2];exact mask_lt hm hj) h5
  ·
   rw [maskArr_set _ _ _ hk,← h6]
   exact planMT_ok ops u m3 (by rw [h6];exact mask_lt hm hk) h7
 | .four i m' r j m'' s k m3 u n m4 v,m,hm,h=>by
  simp only [planMT,Bool.and_eq_true,Nat.beq_eq,decide_eq_true_eq] at h
  obtain ⟨h1,h2,h6,h8,h3,h4,h5,h7,h9⟩:=h
  have hi:i<ops.size:=readyM_lt (m:=m) (by rw [h3];simp)
  have hj:j<ops.size:=readyM_lt (m:=m) (by rw [h3];simp)
  have hk:k<ops.size:=readyM_lt (m:=m) (by rw [h3];simp)
  have hn:n<ops.size:=readyM_lt (m:=m) (by rw [h3];simp)
  refine ⟨by rw [ready_mask _ _ hm,h3],?_,?_,?_,?_⟩
  ·
   rw [maskArr_set _ _ _ hi,← h1]
   exact planMT_ok ops r m' (by rw [h1];exact mask_lt hm hi) h4
  ·
   rw [maskArr_set _ _ _ hj,← h2]
   exact planMT_ok ops s m'' (by rw [h2];exact mask_lt hm hj) h5
  ·
   rw [maskArr_set _ _ _ hk,← h6]
   exact planMT_ok ops u m3 (by rw [h6];exact mask_lt hm hk) h7
  ·
   rw [maskArr_set _ _ _ hn,← h8]
   exact planMT_ok ops v m4 (by rw [h8];exact mask_lt hm hn) h9

section
variable {P:Program} {ops:Array Oper} {Q:Exit→Act→World→Prop} {S:World→Prop}
def PlannedT (P:Program) (ops:Array Oper) (Q:Exit→Act→World→Prop) (S:World→Prop) (p:RPlanT) (a:Act) (w:World):Prop :=
 ∀ (l:Array Bool) (f:Nat),Region.noSelect ops=true→planOkT ops p l→p.depth≤f→wpAnyH P .any ops Q S f l a w

theorem rt_start {id:Nat} {a:Act} {w:World} (S:World→Prop) (p:RPlanT) (hm:P.follows .mixedOrders=true) (hS:S w.drew)
  (hsel:Region.noSelect ops=true) (hp:planMT ops p 0=true) (hd:p.depth≤ops.size)
  (h:∀ ops' Q',PLift (ops'=ops)→PLift (∀ a w,Q .normal a w→Q' .normal a w)→S w.drew→PlannedT P ops' (NoPanic Q') S p a w.drew):(Code.region id ops true).wp P Q a w :=
 wp_region_noPanic (wp_region_held_drew hm hS fun hS=>h ops Q ⟨rfl⟩ ⟨fun _ _ h=>h⟩ hS _ _ hsel (by have:=planMT_ok ops p 0 (Nat.pow_pos (by omega)) hp;rwa [maskArr_zero] at this) hd)

theorem rt_take {i m:Nat} {oi:Oper} {r:RPlanT} {a:Act} {w:World} (hi:ops[i]? = some oi) (hS:S w)
  (h:∃ v:Value,YieldsIf P ops S oi v a∧PlannedT P ops (NoPanic Q) S r (a.put oi.dst v) w):PlannedT P ops (NoPanic Q) S (.take i m r) a w:=by
 obtain ⟨v,hy,h⟩:=h
 intro l f hsel hp hd
 simp only [planOkT] at hp
 cases f with
 | zero=>simp [RPlanT.depth] at hd
 | succ f=>exact wpAnyH_take hi hsel hp.1 hp.2.1 (fun _ _ _ h=>h) hy hS (h _ _ hsel hp.2.2 (by simpa [RPlanT.depth] using hd))

theorem rt_call {i m:Nat} {oi:Oper} {r:RPlanT} {a:Act} {w:World} (hi:ops[i]? = some oi)
  (h:∀ K':Act→World→Prop,Shut (∀ a w,S w→(S w→PlannedT P ops (NoPanic Q) S r a w)→K' a w)→if Region.wanted oi (yielded ops a.tmps)=true then Oper.wp P oi a w K' (NoPanic Q) else K' (a.put oi.dst undef) w) :
  PlannedT P ops (NoPanic Q) S (.call i m r) a w:=by
 intro l f hsel hp hd
 simp only [planOkT] at hp
 cases f with
 | zero=>simp [RPlanT.depth] at hd
 | succ f=>exact wpAnyH_ready hp.1 (by simp) (AllReadyH.cons hi (fun K' hK=>h K' (fun a w hS hW=>hK.out a w hS fun hS=>hW hS _ _ hsel hp.2 (by simpa [RPlanT.depth] using hd))) AllReadyH.nil)

theorem rt_two {i j m m':Nat} {oi oj:Oper} {r s:RPlanT} {a:Act} {w:World} (hi:ops[i]? = some oi) (hj:ops[j]? = some oj)
  (h:∀ K':Act→World→Prop,Shut (∀ a w,S w→(S w→PlannedT P ops (NoPanic Q) S r a w)→K' a w)→if Region.wanted oi (yielded ops a.tmps)=true then Oper.wp P oi a w K' (NoPanic Q) else K' (a.put oi.dst undef) w)
  (h':∀ K':Act→World→Prop,Shut (∀ a w,S w→(S w→PlannedT P ops (NoPanic Q) S s a w)→K' a w)→if Region.wanted oj (yielded ops a.tmps)=true then Oper.wp P oj a w K' (NoPanic Q) else K' (a.put oj.dst undef) w) :
  PlannedT P ops (NoPanic Q) S (.two i m r j m' s) a w:=by
 intro l f hsel hp hd
 simp only [planOkT] at hp
 cases f with
 | zero=>simp [RPlanT.depth] at hd
 | succ f =>
  simp only [RPlanT.depth,Nat.add_le_add_iff_right,Nat.max_le] at hd
  exact wpAnyH_ready hp.1 (by simp) (AllReadyH.cons hi (fun K' hK=>h K' (fun a w hS hW=>hK.out a w hS fun hS=>hW hS _ _ hsel hp.2.1 hd.1))
   (AllReadyH.cons hj (fun K' hK=>h' K' (fun a w hS hW=>hK.out a w hS fun hS=>hW hS _ _ hsel hp.2.2 hd.2)) AllReadyH.nil))

theorem rt_three {i j k m m' m'':Nat} {oi oj ok:Oper} {r s u:RPlanT} {a:Act} {w:World} (hi:ops[i]? = some oi) (hj:ops[j]? = some oj) (hk:ops[k]? = some ok)
  (h:∀ K':Act→World→Prop,Shut (∀ a w,S w→(S w→PlannedT P ops (NoPanic Q) S r a w)→K' a w)→if Region.wanted oi (yielded ops a.tmps)=true then Oper.wp P oi a w K' (NoPanic Q) else K' (a.put oi.dst undef) w)
  (h':∀ K':Act→World→Prop,Shut (∀ a w,S w→(S w→PlannedT P ops (NoPanic Q) S s a w)→K' a w)→if Region.wanted oj (yielded ops a.tmps)=true then Oper.wp P oj a w K' (NoPanic Q) else K' (a.put oj.dst undef) w)
  (h'':∀ K':Act→World→Prop,Shut (∀ a w,S w→(S w→PlannedT P ops (NoPanic Q) S u a w)→K' a w)→if Region.wanted ok (yielded ops a.tmps)=true then Oper.wp P ok a w K' (NoPanic Q) else K' (a.put ok.dst undef) w) :
  PlannedT P ops (NoPanic Q) S (.three i m r j m' s k m'' u) a w:=by
 intro l f hsel hp hd
 simp only [planOkT] at hp
 cases f with
 | zero=>simp [RPlanT.depth] at hd
 | succ f =>
  simp only [RPlanT.depth,Nat.add_le_add_iff_right,Nat.max_le] at hd
  exact wpAnyH_ready hp.1 (by simp) (AllReadyH.cons hi (fun K' hK=>h K' (fun a w hS hW=>hK.out a w hS fun hS=>hW hS _ _ hsel hp.2.1 hd.1))
   (AllReadyH.cons hj (fun K' hK=>h' K' (fun a w hS hW=>hK.out a w hS fun hS=>hW hS _ _ hsel hp.2.2.1 hd.2.1))
   (AllReadyH.cons hk (fun K' hK=>h'' K' (fun a w hS hW=>hK.out a w hS fun hS=>hW hS _ _ hsel hp.2.2.2 hd.2.2)) AllReadyH.nil)))

theorem rt_done {a:Act} {w:World} (h:Q .normal a w):PlannedT P ops (NoPanic Q) S .done a w:=by
 intro l f _ hp _
 exact wpAnyH_done hp (NoPanic.normal h) f

theorem rt_yp {l:List Oper} {i m:Nat} {oi:Oper} {r:RPlanT} {a:Act} {w:World} {v:Value} (H:PLift (ops=l.toArray)) (hi:l[i]? = some oi) (hS:S w) (hg:oi.guard=none)
  (hy:∀ wq,S wq→(execOp a.eval oi).run P wq=.ok (.value v) wq) (h:PlannedT P ops (NoPanic Q) S r (a.put oi.dst v) w):PlannedT P ops (NoPanic Q) S (.take i m r) a w :=
 rt_take (get_of H hi) hS ⟨v,.inl ⟨wanted_plain hg,hy⟩,h⟩
end
section
variable {P:Program} {ops:Array Oper} {Q:Exit→Act→World→Prop}
theorem rt_pB {l:List Oper} {i m:Nat} {oi:Oper} {r:RPlanT} {a:Act} {w W:World} {B:Nat} {v:Value} (H:PLift (ops=l.toArray)) (hi:l[i]? = some oi) (hS:SinceB B W w) (hg:oi.guard=none)
  (hy:∀ wq:World,(∀ b o,b<B→wq.cell? ⟨b,o,none⟩=W.cell? ⟨b,o,none⟩)→(execOp a.eval oi).run P wq=.ok (.value v) wq) (h:PlannedT P ops (NoPanic Q) (SinceB B W) r (a.put oi.dst v) w):PlannedT P ops (NoPanic Q) (SinceB B W) (.take i m r) a w :=
 rt_yp H hi hS hg (fun wq hq=>hy wq (bcellB hq).1) h
end
end Go.Proofs.YtnhdmghgjngcaaaGreat
