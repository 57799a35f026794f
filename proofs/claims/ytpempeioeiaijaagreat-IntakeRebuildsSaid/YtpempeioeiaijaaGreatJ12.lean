import Derived.Test.YtpempeioeiaijaaGreatJ03
import Derived.Test.YtpempeioeiaijaaGreatJ01
import Derived.Test.YtpempeioeiaijaaGreatJ10
import Derived.Test.YtpempeioeiaijaaGreatJ11
import Derived.Test.YtpempeioeiaijaaGreatJ07
set_option linter.unusedSimpArgs false
set_option linter.unusedVariables false
namespace Go.Proofs.YtpempeioeiaijaaGreat
open Go.RowKit

def arS (x:Ar×SV):List Value:=[.int .i64 x.1.id,.int .i64 x.1.fr,.int .i64 x.1.dst,.slice x.2.a x.2.n x.2.c,.int .i64 x.1.left,.int .i64 x.1.right]
theorem arS_len (x:Ar×SV):(arS x).length=6:=rfl
theorem arS_one (x:Ar×SV):∀ u∈arS x,u.oneCell'=true:=by simp [arS,Value.oneCell']
def svA (x:Ar×SV):Ar×Value:=(x.1,.slice x.2.a x.2.n x.2.c)
def svOf:Value→SV
 | .slice a n c=>⟨a,n,c⟩
 | _=>⟨none,0,0⟩
theorem arS_flat (l:List (Ar×SV)):(l.map svA).flatMap arC=l.flatMap arS:=by rw [List.flatMap_map];rfl
theorem Vias.sv {w:World} {al:List (Ar×Value)} (h:Vias w al):∃ bl:List (Ar×SV),al=bl.map svA:=by
 refine ⟨al.map fun x=>(x.1,svOf x.2),?_⟩
 rw [List.map_map]
 have:∀ x∈al,(svA ∘ fun x:Ar×Value=>(x.1,svOf x.2)) x=x:=fun x hx=>by
  obtain ⟨k,hk,rfl⟩:=List.mem_iff_getElem.1 hx
  obtain ⟨A,c,hv,-⟩:=h k hk
  show (al[k].1,Value.slice (svOf al[k].2).a (svOf al[k].2).n (svOf al[k].2).c)=al[k]
  rw [Prod.ext_iff]
  exact ⟨rfl,by rw [hv];rfl⟩
 exact (List.map_id al).symm.trans (List.map_congr_left fun x hx=>(this x hx).symm)
theorem flat_set {α:Type} (f:α→List Value) (n:Nat) (hn:∀ a,(f a).length=n) (l:List α) (i:Nat) (hi:i<l.length) (y:α) (m:Nat) (hm:m<l.length*n) :
  ((l.set i y).flatMap f)[m]? = if m / n=i then (f y)[m % n]? else (l.flatMap f)[m]? := by
 have hn0:0<n:=by
  rcases Nat.eq_zero_or_pos n with h0 | h0
  · subst h0;omega
  · exact h0
 have h1:m / n<l.length:=Nat.div_lt_of_lt_mul (by rw [Nat.mul_comm];exact hm)
 have h2:m % n<n:=Nat.mod_lt _ hn0
 have e1:=flat_get f n hn (l.set i y) (m / n) (m % n) (by simpa using h1) h2
 have e2:=flat_get f n hn l (m / n) (m % n) h1 h2
 rw [Nat.div_add_mod'] at e1 e2
 rw [e1,e2,List.getElem_set]
 by_cases e:i=m / n
 · rw [if_pos e,if_pos e.symm]
 · rw [if_neg e,if_neg (fun h=>e h.symm)]
end Go.Proofs.YtpempeioeiaijaaGreat
namespace Go.Proofs.YtpempeioeiaijaaGreat
open Go.RowKit

theorem Own.put_cell {α:Type} {w:World} {base g n c i j:Nat} {e:TypeId} {size:Nat} {f:α→List Value} (hf:∀ a,(f a).length=size) {l:List α} (h:Own w base e size f (.slice (some ⟨g,0,none⟩) n c) l) (hi:i<l.length) (hj:j<size) (y:α) (u:Value) (hy:f y=(f l[i]).set j u) :
  Own (w.setCell ⟨g,i*size+j,none⟩ u) base e size f (.slice (some ⟨g,0,none⟩) n c) (l.set i y):=by
 obtain ⟨h1,h2⟩:=h
 rcases h2 with ⟨hv,h0⟩ | ⟨g',cap,cur,hv,hg,hh,hnc,hcm,hcs,hx⟩
 · cases hv
 ·
  injection hv with e1 e2 e3
  injection e1 with e1
  injection e1 with e1 _ _
  subst e1 e3
  have hl:(l.set i y).length=l.length:=by simp
  have hs0:0<size:=by omega
  refine ⟨by rw [flat_length f size hf],.inr ⟨g,c,_,by rw [hl,e2],hg,Blk.set_ hh (i*size+j) u,by rw [hl];exact hnc,hcm,by simpa using hcs,?_⟩⟩
  apply List.ext_getElem?
  intro m
  rw [List.getElem?_take,hl]
  by_cases hm:m<l.length*size
  ·
   rw [if_pos hm,flat_set f size hf l i hi y m hm]
   have hcur:(l.flatMap f)[m]? = cur[m]? := by
    rw [← hx,List.getElem?_take,if_pos hm];simp
   have hmc:m<cur.size:=by rw [hcs];have:=Nat.mul_le_mul_right size hnc;omega
   have hdm:=Nat.div_add_mod m size
   have hml:=Nat.mod_lt m hs0
   rw [hcur]
   simp only [Array.getElem?_toList,Array.getElem?_setIfInBounds,Array.size_setIfInBounds]
   by_cases hmi:m / size=i
   ·
    rw [if_pos hmi,hy,List.getElem?_set]
    have hm2:m=i*size+m % size:=by rw [← hmi,Nat.mul_comm];omega
    by_cases hmj:j=m % size
    ·
     rw [if_pos hmj,if_pos (show j<(f l[i]).length by rw [hf];exact hj),if_pos (show i*size+j=m by omega)]
     first | rw [if_pos hmc] | rw [if_pos (show i*size+j<cur.size by omega)]
    ·
     rw [if_neg hmj,if_neg (by omega)]
     have e2:=flat_get f size hf l i (m % size) hi hml
     rw [← hm2] at e2
     rw [← e2,hcur]
   · rw [if_neg hmi,if_neg (fun e=>hmi (by rw [← e,Nat.mul_comm,Nat.mul_add_div hs0,Nat.div_eq_of_lt hj];rfl))]
  · rw [if_neg hm,List.getElem?_eq_none (by rw [flat_length f size hf,hl];omega)]
end Go.Proofs.YtpempeioeiaijaaGreat
namespace Go.Proofs.YtpempeioeiaijaaGreat
open Go.RowKit

def SepV (u v:Value):Prop:=∀ g,u.ownBlock=some g→v.ownBlock≠some g

end Go.Proofs.YtpempeioeiaijaaGreat
namespace Go.Proofs.YtpempeioeiaijaaGreat
open Go.RowKit

structure AD where
 tw:Int
 out:List Int
 ov:SV
 inn:List (List Int×SV)
 iv:SV
 alo:List Int
 av:SV
def adC (x:AD):List Value:=[.int .i64 x.tw,svV x.ov,svV x.iv,svV x.av]
theorem adC_len (x:AD):(adC x).length=4:=rfl
theorem adC_one (x:AD):∀ u∈adC x,u.oneCell'=true:=by simp [adC,svV,Value.oneCell']
theorem elem_ad:Elem Tryz.prog 69 106 4 80:=Elem.mk_ (z:=.agg #[.int .i64 0,.slice none 0 0,.slice none 0 0,.slice none 0 0]) (by kernel_rfl) (by kernel_rfl) rfl (by omega)
structure AdT (e:TypeId) (w0 w:World) (B:Nat) (v:Value) (L:List AD):Prop where
 own:Own w B e 4 adC v L
 out:∀ x∈L,Ints w0 (svV x.ov) x.out
 inn:∀ x∈L,Own w B 32 1 cyC (svV x.iv) x.inn
 cyc:∀ x∈L,∀ c∈x.inn,Ints w0 (svV c.2) c.1
 alo:∀ x∈L,Own w B 3 1 inC (svV x.av) x.alo
 sepI:L.Pairwise (fun x y=>SepV (svV x.iv) (svV y.iv))
 sepA:L.Pairwise (fun x y=>SepV (svV x.av) (svV y.av))
theorem AdT.keep {e:TypeId} {w0 w w':World} {B:Nat} {v:Value} {L:List AD} (h:AdT e w0 w B v L) (hb:Below w.heap.size w w'):AdT e w0 w' B v L :=
 ⟨h.own.keep hb,h.out,fun x hx=>(h.inn x hx).keep hb,h.cyc,fun x hx=>(h.alo x hx).keep hb,h.sepI,h.sepA⟩
end Go.Proofs.YtpempeioeiaijaaGreat
