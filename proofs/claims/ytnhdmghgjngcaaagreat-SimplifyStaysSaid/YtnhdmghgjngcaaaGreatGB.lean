import Derived.WalkKit
import Derived.WalkSpells
import Derived.WalkLawsBesides
import Derived.Lib.Hide
import Derived.Deep.QuietTactic
import Derived.BigQuiet
import Derived.Maps.AppendAt
import Derived.OwnWalk
import Derived.KernelRfl
import Derived.Test.YtnhdmghgjngcaaaGreatProg
import Derived.Deep.RegionHeld3
import Derived.Deep.DeepCutAuto
import Derived.Maps.Own
import Derived.Maps.Views
set_option linter.unusedSimpArgs false
set_option linter.unusedVariables false
namespace Go.Proofs.YtnhdmghgjngcaaaGreat
open Go.RowKit

def Blk (w:World) (g:Nat) (t:TypeId) (cs:Array Value):Prop:=w.heap[g]? = some (.cells cs t (0,0))

section
variable {w w':World} {g:Nat} {t:TypeId} {cs:Array Value}
theorem Blk.lt (h:Blk w g t cs):g<w.heap.size:=by
 rcases Nat.lt_or_ge g w.heap.size with hlt | hge
 · exact hlt
 · unfold Blk at h;rw [Array.getElem?_eq_none hge] at h;cases h
theorem Blk.cell (h:Blk w g t cs) (i:Nat):w.cell? ⟨g,i,none⟩=cs[i]? := cell_of_row w g i cs t (0,0) h
theorem Blk.frozen (h:Blk w g t cs) (i:Nat):w.frozen? ⟨g,i,none⟩=false:=by
 unfold Blk at h
 simp [World.frozen?,h]
theorem Blk.new (w:World) (t:TypeId) (cs:Array Value):Blk (w.alloc (.cells cs t)) w.heap.size t cs:=heap_alloc_new w _
theorem Blk.made {o:Nat} (h:o=w.heap.size) (t:TypeId) (cs:Array Value):Blk (w.alloc (.cells cs t)) o t cs:=by subst h;exact Blk.new w t cs
theorem Blk.drew (h:Blk w g t cs):Blk w.drew g t cs:=h
theorem Blk.alloc (h:Blk w g t cs) (o:Obj):Blk (w.alloc o) g t cs:=(Below.heap_alloc w o g h.lt).trans h
theorem Blk.set_ (h:Blk w g t cs) (i:Nat) (u:Value):Blk (w.setCell ⟨g,i,none⟩ u) g t (cs.setIfInBounds i u):=by
 unfold Blk at h ⊢
 simp [World.setCell,Array.getElem?_modify,h]
theorem Blk.far (h:Blk w g t cs) {p:Addr} (hp:g≠p.block) (u:Value):Blk (w.setCell p u) g t cs:=(Below.heap_setCell w p u g hp).trans h
theorem Blk.below {B:Nat} (h:Blk w g t cs) (hb:Below B w w') (hg:g<B):Blk w' g t cs:=(hb.block g hg).trans h
theorem Blk.keep (h:Blk w g t cs) (hb:Below w.heap.size w w'):Blk w' g t cs:=(hb.block g h.lt).trans h
theorem Blk.grown {row:Option Nat} (h:Blk w g t cs) (hb:w.grownBy w' row) (hg:some g≠row):Blk w' g t cs:=(hb.block g h.lt hg).trans h
theorem Blk.ne_ {g':Nat} {t':TypeId} {cs':Array Value} (h:Blk w g t cs) (h':Blk w g' t' cs') (hne:t≠t'):g≠g':=by
 rintro rfl
 unfold Blk at h h'
 rw [h] at h'
 injection h' with h'
 injection h' with _ ht
 exact hne ht
theorem own_blk_ne {base:Nat} {e:TypeId} {size n:Nat} {v:Value} {xs:List Value} (h:w.ownsRow base e size v n xs) (hg:Blk w g t cs) (hne:e≠t):v.ownBlock≠some g:=by
 rcases h.2 with ⟨rfl,_⟩ | ⟨g',cap,cur,rfl,_,hh,_⟩
 · simp [Value.ownBlock]
 ·
  intro he
  have:g'=g:=by simpa [Value.ownBlock] using he
  subst this
  exact Blk.ne_ (t:=e) hh hg hne rfl
end

theorem bcell {W w1:World} (hb:Below W.heap.size W w1):(∀ b o,b<W.heap.size→w1.cell? ⟨b,o,none⟩=W.cell? ⟨b,o,none⟩)∧(∀ b o,b<W.heap.size→w1.frozen? ⟨b,o,none⟩=W.frozen? ⟨b,o,none⟩) :=
 ⟨fun b o h=>hb.cell (p:=⟨b,o,none⟩) h,fun b o h=>hb.frozen (p:=⟨b,o,none⟩) h⟩

section
variable {w:World} {g:Nat} {t:TypeId}
theorem Blk.facts1 {v0:Value} (h:Blk w g t #[v0]):g<w.heap.size∧w.cell? ⟨g,0,none⟩=some v0∧w.frozen? ⟨g,0,none⟩=false :=
 ⟨h.lt,h.cell 0,h.frozen 0⟩
theorem Blk.facts2 {v0 v1:Value} (h:Blk w g t #[v0,v1]):g<w.heap.size∧w.cell? ⟨g,0,none⟩=some v0∧w.cell? ⟨g,1,none⟩=some v1∧w.frozen? ⟨g,0,none⟩=false∧w.frozen? ⟨g,1,none⟩=false :=
 ⟨h.lt,h.cell 0,h.cell 1,h.frozen 0,h.frozen 1⟩
theorem Blk.facts3 {v0 v1 v2:Value} (h:Blk w g t #[v0,v1,v2]):g<w.heap.size∧w.cell? ⟨g,0,none⟩=some v0∧w.cell? ⟨g,1,none⟩=some v1∧w.cell? ⟨g,2,none⟩=some v2∧w.frozen? ⟨g,0,none⟩=false∧w.frozen? ⟨g,1,none⟩=false∧w.frozen? ⟨g,2,none⟩=false :=
 ⟨h.lt,h.cell 0,h.cell 1,h.cell 2,h.frozen 0,h.frozen 1,h.frozen 2⟩
theorem Blk.facts4 {v0 v1 v2 v3:Value} (h:Blk w g t #[v0,v1,v2,v3]):g<w.heap.size∧w.cell? ⟨g,0,none⟩=some v0∧w.cell? ⟨g,1,none⟩=some v1∧w.cell? ⟨g,2,none⟩=some v2∧w.cell? ⟨g,3,none⟩=some v3∧w.frozen? ⟨g,0,none⟩=false∧w.frozen? ⟨g,1,none⟩=false∧w.frozen? ⟨g,2,none⟩=false∧w.frozen? ⟨g,3,none⟩=false :=
 ⟨h.lt,h.cell 0,h.cell 1,h.cell 2,h.cell 3,h.frozen 0,h.frozen 1,h.frozen 2,h.frozen 3⟩
theorem Blk.facts6 {v0 v1 v2 v3 v4 v5:Value} (h:Blk w g t #[v0,v1,v2,v3,v4,v5]):g<w.heap.size∧w.cell? ⟨g,0,none⟩=some v0∧w.cell? ⟨g,1,none⟩=some v1∧w.cell? ⟨g,2,none⟩=some v2∧w.cell? ⟨g,3,none⟩=some v3∧w.cell? ⟨g,4,none⟩=some v4∧w.cell? ⟨g,5,none⟩=some v5∧w.frozen? ⟨g,0,none⟩=false∧w.frozen? ⟨g,1,none⟩=false∧w.frozen? ⟨g,2,none⟩=false∧w.frozen? ⟨g,3,none⟩=false∧w.frozen? ⟨g,4,none⟩=false∧w.frozen? ⟨g,5,none⟩=false :=
 ⟨h.lt,h.cell 0,h.cell 1,h.cell 2,h.cell 3,h.cell 4,h.cell 5,h.frozen 0,h.frozen 1,h.frozen 2,h.frozen 3,h.frozen 4,h.frozen 5⟩
end

section
variable {w w1 w2:World}
theorem bR (w:World):Below w.heap.size w w:=Below.refl _ _
theorem bA (h:Below w.heap.size w w1) (o:Obj):Below w.heap.size w (w1.alloc o):=h.alloc h.size o
theorem bD (h:Below w.heap.size w w1):Below w.heap.size w w1.drew:=h.drew
theorem bN (h:Below w.heap.size w w1) (n:Nat):Below w.heap.size w (w1.drewN n):=⟨h.os,h.tape,h.output,h.size,h.block⟩
theorem bT (h:Below w.heap.size w w1) (k:Below w1.heap.size w1 w2):Below w.heap.size w w2:=h.trans (k.mono h.size)
theorem bS (h:Below w.heap.size w w1) {p:Addr} (hp:w.heap.size≤p.block) (u:Value):Below w.heap.size w (w1.setCell p u):=h.setCell hp u
theorem bG (h:Below w.heap.size w w1) {row:Option Nat} (hg:w1.grownBy w2 row) (hr:∀ k,row=some k→w.heap.size≤k):Below w.heap.size w w2:=h.grown hg h.size hr
end

theorem keepc {W w':World} (hb:Below W.heap.size W w') {p:Addr} {v:Value} (h:W.cell? p=some v):w'.cell? p=some v:=by
 rw [hb.cell (World.block_lt_of_cell? W p h)];exact h

def Row (w:World) (A:Option Addr) (xs:List Value):Prop :=
 xs≠[]→∃ b o,A=some ⟨b,o,none⟩∧b<w.heap.size∧∀ j v,xs[j]? = some v→w.cell? ⟨b,o+j,none⟩=some v

theorem Row.mono {w w':World} {A:Option Addr} {xs:List Value} (h:Row w A xs) (hb:Below w.heap.size w w'):Row w' A xs:=by
 intro hne
 obtain ⟨b,o,rfl,hlt,hc⟩:=h hne
 exact ⟨b,o,rfl,Nat.lt_of_lt_of_le hlt hb.size,fun j v hj=>by rw [hb.cell (p:=⟨b,_,none⟩) hlt];exact hc j v hj⟩

theorem Row.nil {w:World} {A:Option Addr}:Row w A []:=fun h=>absurd rfl h

theorem Row.of_own {w:World} {base:Nat} {e:TypeId} {size n:Nat} {A:Option Addr} {c:Nat} {xs:List Value} (h:w.ownsRow base e size (.slice A n c) n xs):Row w A xs:=by
 intro hne
 rcases h.2 with ⟨hv,hn⟩ | ⟨g,cap,cur,hv,_,hh,_,_,hsz,hx⟩
 · exact absurd (List.eq_nil_of_length_eq_zero (by rw [h.1,hn];simp)) hne
 ·
  injection hv with hA _ _
  subst hA
  refine ⟨g,0,rfl,?_,fun j v hj=>?_⟩
  · exact Blk.lt hh
  ·
   rw [cell_of_row w g _ cur e (0,0) hh]
   subst hx
   rw [List.getElem?_take] at hj
   split at hj
   · simpa using hj
   · cases hj

def Sl (w:World) (v:Value) (n:Nat) (xs:List Value):Prop :=
 ∃ A c,v=.slice A n c∧n≤c∧c≤maxLen∧Row w A xs

theorem Sl.mono {w w':World} {v:Value} {n:Nat} {xs:List Value} (h:Sl w v n xs) (hb:Below w.heap.size w w'):Sl w' v n xs:=by
 obtain ⟨A,c,hv,h1,h2,h3⟩:=h
 exact ⟨A,c,hv,h1,h2,h3.mono hb⟩

theorem Sl.of_own {w:World} {base:Nat} {e:TypeId} {size n:Nat} {v:Value} {xs:List Value} (h:w.ownsRow base e size v n xs):Sl w v n xs:=by
 rcases h.2 with ⟨hv,hn⟩ | ⟨g,cap,cur,hv,hg,hh,h1,h2,hsz,hx⟩
 ·
  subst hv;subst hn
  exact ⟨none,0,rfl,Nat.le_refl _,by simp [maxLen],Row.of_own h⟩
 ·
  subst hv
  exact ⟨_,cap,rfl,h1,h2,Row.of_own h⟩

theorem own_below {w w':World} {base:Nat} {e:TypeId} {size n:Nat} {v:Value} {xs:List Value} (h:w.ownsRow base e size v n xs) (hb:Below w.heap.size w w'):w'.ownsRow base e size v n xs:=by
 obtain ⟨h1,h2⟩:=h
 refine ⟨h1,?_⟩
 rcases h2 with h2 | ⟨g,cap,cur,hv,hg,hh,r⟩
 · exact .inl h2
 · exact .inr ⟨g,cap,cur,hv,hg,(hb.block g (Blk.lt hh)).trans hh,r⟩

theorem flat_get {α:Type} (f:α→List Value) (n:Nat) (hn:∀ a,(f a).length=n) (l:List α) (k j:Nat) (hk:k<l.length) (hj:j<n) :
  (l.flatMap f)[k*n+j]? = (f l[k])[j]? := by
 induction l generalizing k with
 | nil=>simp at hk
 | cons a l ih =>
  cases k with
  | zero=>simp [List.flatMap_cons,List.getElem?_append_left,hn,hj]
  | succ k =>
   have hk':k<l.length:=by simpa using hk
   rw [List.flatMap_cons,List.getElem?_append_right (by rw [hn,Nat.succ_mul];omega),hn]
   rw [show (k+1)*n+j-n=k*n+j by rw [Nat.succ_mul];omega,ih k hk']
   simp

theorem flat_length {α:Type} (f:α→List Value) (n:Nat) (hn:∀ a,(f a).length=n) (l:List α):(l.flatMap f).length=l.length*n:=by
 induction l with
 | nil=>simp
 | cons a l ih=>simp [List.flatMap_cons,hn,ih,Nat.succ_mul];omega

theorem Row.at_ {w:World} {A:Option Addr} {α:Type} {f:α→List Value} {n:Nat} (hn:∀ a,(f a).length=n) {l:List α} (h:Row w A (l.flatMap f)) {k:Nat} (hk:k<l.length) (hpos:0<n) :
  ∃ b o,A=some ⟨b,o,none⟩∧b<w.heap.size∧∀ j u,(f l[k])[j]? = some u→w.cell? ⟨b,o+k*n+j,none⟩=some u:=by
 have hne:l.flatMap f≠[]:=by
  intro h0
  have:=flat_length f n hn l
  rw [h0] at this
  have:0<l.length*n:=Nat.mul_pos (by omega) hpos
  simp at *;omega
 obtain ⟨b,o,rfl,hlt,hc⟩:=h hne
 refine ⟨b,o,rfl,hlt,fun j u hj=>?_⟩
 have hj':j<n:=by
  rcases Nat.lt_or_ge j n with h' | h'
  · exact h'
  · rw [List.getElem?_eq_none (by rw [hn];exact h')] at hj;cases hj
 have:=hc (k*n+j) u (by rw [flat_get f n hn l k j hk hj'];exact hj)
 rwa [← Nat.add_assoc] at this

structure Pt where
 x:Int
 y:Int
structure Nd where
 id:Int
 pt:Pt
structure Ar where
 id:Int
 fr:Int
 dst:Int
 via:List Pt
 left:Int
 right:Int
structure Pl where
 nodes:List Nd
 arcs:List Ar
 faces:List Int
structure Bx where
 x0:Int
 y0:Int
 x1:Int
 y1:Int

instance:DecidableEq Pt:=fun a b =>
 if h:a.x=b.x∧a.y=b.y then isTrue (by cases a;cases b;simp_all) else isFalse (by rintro rfl;simp at h)
instance:DecidableEq Nd:=fun a b =>
 if h:a.id=b.id∧a.pt=b.pt then isTrue (by cases a;cases b;simp_all) else isFalse (by rintro rfl;simp at h)
instance:DecidableEq Ar:=fun a b =>
 if h:a.id=b.id∧a.fr=b.fr∧a.dst=b.dst∧a.via=b.via∧a.left=b.left∧a.right=b.right then isTrue (by cases a;cases b;simp_all) else isFalse (by rintro rfl;simp at h)
instance:DecidableEq Bx:=fun a b =>
 if h:a.x0=b.x0∧a.y0=b.y0∧a.x1=b.x1∧a.y1=b.y1 then isTrue (by cases a;cases b;simp_all) else isFalse (by rintro rfl;simp at h)

theorem Pt.ext_iff' {a b:Pt}:a=b↔a.x=b.x∧a.y=b.y:=by cases a;cases b;simp

def inC (n:Int):List Value:=[.int .i64 n]
def ptC (p:Pt):List Value:=[.int .i64 p.x,.int .i64 p.y]
def ndC (n:Nd):List Value:=[.int .i64 n.id,.int .i64 n.pt.x,.int .i64 n.pt.y]
def arC (p:Ar×Value):List Value:=[.int .i64 p.1.id,.int .i64 p.1.fr,.int .i64 p.1.dst,p.2,.int .i64 p.1.left,.int .i64 p.1.right]

def ptV (p:Pt):Value:=.agg #[.int .i64 p.x,.int .i64 p.y]
def ndV (n:Nd):Value:=.agg #[.int .i64 n.id,.int .i64 n.pt.x,.int .i64 n.pt.y]
def arV (a:Ar) (v:Value):Value:=.agg #[.int .i64 a.id,.int .i64 a.fr,.int .i64 a.dst,v,.int .i64 a.left,.int .i64 a.right]
def bxV (x:Bx):Value:=.agg #[.int .i64 x.x0,.int .i64 x.y0,.int .i64 x.x1,.int .i64 x.y1]

def Ints (w:World) (v:Value) (l:List Int):Prop:=Sl w v l.length (l.flatMap inC)
def Pts (w:World) (v:Value) (l:List Pt):Prop:=Sl w v l.length (l.flatMap ptC)
def Nds (w:World) (v:Value) (l:List Nd):Prop:=Sl w v l.length (l.flatMap ndC)
def Vias (w:World) (l:List (Ar×Value)):Prop:=∀ k (hk:k<l.length),Pts w l[k].2 l[k].1.via
def Ars (w:World) (v:Value) (l:List (Ar×Value)):Prop:=Sl w v l.length (l.flatMap arC)∧Vias w l
def PlV (w:World) (v:Value) (p:Pl):Prop :=
 ∃ vn va vf al,v=.agg #[vn,va,vf]∧p.arcs=al.map (·.1)∧Nds w vn p.nodes∧Ars w va al∧Ints w vf p.faces

section
variable {w w':World} {v:Value}
theorem Ints.mono {l:List Int} (h:Ints w v l) (hb:Below w.heap.size w w'):Ints w' v l:=Sl.mono h hb
theorem Pts.mono {l:List Pt} (h:Pts w v l) (hb:Below w.heap.size w w'):Pts w' v l:=Sl.mono h hb
theorem Nds.mono {l:List Nd} (h:Nds w v l) (hb:Below w.heap.size w w'):Nds w' v l:=Sl.mono h hb
theorem Vias.mono {l:List (Ar×Value)} (h:Vias w l) (hb:Below w.heap.size w w'):Vias w' l:=fun k hk=>(h k hk).mono hb
theorem Ars.mono {l:List (Ar×Value)} (h:Ars w v l) (hb:Below w.heap.size w w'):Ars w' v l:=⟨Sl.mono h.1 hb,h.2.mono hb⟩
theorem PlV.mono {p:Pl} (h:PlV w v p) (hb:Below w.heap.size w w'):PlV w' v p:=by
 obtain ⟨vn,va,vf,al,hv,hp,h1,h2,h3⟩:=h
 exact ⟨vn,va,vf,al,hv,hp,h1.mono hb,h2.mono hb,h3.mono hb⟩
end

section
variable {w:World} {A:Option Addr}
theorem Row.int {l:List Int} (h:Row w A (l.flatMap inC)) {k:Nat} (hk:k<l.length) :
  ∃ b o,A=some ⟨b,o,none⟩∧b<w.heap.size∧w.cell? ⟨b,o+k,none⟩=some (.int .i64 l[k]):=by
 obtain ⟨b,o,hA,hb,hc⟩:=h.at_ (n:=1) (fun _=>rfl) hk (by omega)
 exact ⟨b,o,hA,hb,by simpa using hc 0 _ rfl⟩
theorem Row.pt {l:List Pt} (h:Row w A (l.flatMap ptC)) {k:Nat} (hk:k<l.length) :
  ∃ b o,A=some ⟨b,o,none⟩∧b<w.heap.size∧w.cell? ⟨b,o+k*2,none⟩=some (.int .i64 l[k].x)∧w.cell? ⟨b,o+k*2+1,none⟩=some (.int .i64 l[k].y):=by
 obtain ⟨b,o,hA,hb,hc⟩:=h.at_ (n:=2) (fun _=>rfl) hk (by omega)
 exact ⟨b,o,hA,hb,hc 0 _ rfl,hc 1 _ rfl⟩
theorem Row.nd {l:List Nd} (h:Row w A (l.flatMap ndC)) {k:Nat} (hk:k<l.length) :
  ∃ b o,A=some ⟨b,o,none⟩∧b<w.heap.size∧w.cell? ⟨b,o+k*3,none⟩=some (.int .i64 l[k].id)∧w.cell? ⟨b,o+k*3+1,none⟩=some (.int .i64 l[k].pt.x)∧w.cell? ⟨b,o+k*3+2,none⟩=some (.int .i64 l[k].pt.y):=by
 obtain ⟨b,o,hA,hb,hc⟩:=h.at_ (n:=3) (fun _=>rfl) hk (by omega)
 exact ⟨b,o,hA,hb,hc 0 _ rfl,hc 1 _ rfl,hc 2 _ rfl⟩
theorem Row.ar {l:List (Ar×Value)} (h:Row w A (l.flatMap arC)) {k:Nat} (hk:k<l.length) :
  ∃ b o,A=some ⟨b,o,none⟩∧b<w.heap.size∧w.cell? ⟨b,o+k*6,none⟩=some (.int .i64 l[k].1.id)∧w.cell? ⟨b,o+k*6+1,none⟩=some (.int .i64 l[k].1.fr)∧w.cell? ⟨b,o+k*6+2,none⟩=some (.int .i64 l[k].1.dst) ∧
   w.cell? ⟨b,o+k*6+3,none⟩=some l[k].2∧w.cell? ⟨b,o+k*6+4,none⟩=some (.int .i64 l[k].1.left)∧w.cell? ⟨b,o+k*6+5,none⟩=some (.int .i64 l[k].1.right):=by
 obtain ⟨b,o,hA,hb,hc⟩:=h.at_ (n:=6) (fun _=>rfl) hk (by omega)
 exact ⟨b,o,hA,hb,hc 0 _ rfl,hc 1 _ rfl,hc 2 _ rfl,hc 3 _ rfl,hc 4 _ rfl,hc 5 _ rfl⟩
end

theorem le_maxLen {n:Nat} (h:n≤4294967296):n≤maxLen:=by
 have:maxLen=9223372036854775807:=rfl
 omega
theorem Sl.lit {w:World} {g n:Nat} {t:TypeId} {cs:Array Value} {xs:List Value} (h:Blk w g t cs) (hx:cs.toList=xs) (hn:n≤maxLen):Sl w (.slice (some ⟨g,0,none⟩) n n) n xs :=
 ⟨_,n,rfl,Nat.le_refl _,hn,fun _=>⟨g,0,rfl,h.lt,fun j v hj=>by rw [h.cell,← hj,← hx];simp⟩⟩

theorem Pts.lit3 {w:World} {g:Nat} {t:TypeId} {a b c:Pt} (h:Blk w g t #[.int .i64 a.x,.int .i64 a.y,.int .i64 b.x,.int .i64 b.y,.int .i64 c.x,.int .i64 c.y]):Pts w (.slice (some ⟨g,0,none⟩) 3 3) [a,b,c] :=
 Sl.lit (n:=3) h rfl (le_maxLen (by omega))
theorem Pts.lit4 {w:World} {g:Nat} {t:TypeId} {a b c d:Pt} (h:Blk w g t #[.int .i64 a.x,.int .i64 a.y,.int .i64 b.x,.int .i64 b.y,.int .i64 c.x,.int .i64 c.y,.int .i64 d.x,.int .i64 d.y]):Pts w (.slice (some ⟨g,0,none⟩) 4 4) [a,b,c,d] :=
 Sl.lit (n:=4) h rfl (le_maxLen (by omega))

theorem all_succ {α:Type} {l:List α} {p:α→Prop} {k:Nat} (h:∀ j (hj:j<l.length),j<k→p l[j]) (hk:k<l.length) (hp:p l[k]):∀ j (hj:j<l.length),j<k+1→p l[j]:=by
 intro j hj hjk
 by_cases e:j<k
 · exact h j hj e
 ·
  have:j=k:=by omega
  subst this
  exact hp

theorem ret_int {k:IntKind} {a b:Int} (h:a=b):Ending.returned (.int k a)=.returned (.int k b):=by rw [h]
theorem ret_bool {a b:Bool} (h:a=b):Ending.returned (.bool a)=.returned (.bool b):=by rw [h]
end Go.Proofs.YtnhdmghgjngcaaaGreat
namespace Go.Proofs.YtnhdmghgjngcaaaGreat
open Go.RowKit

section
variable {P:Program} (w:World)

theorem Row.at0 {w:World} {ad:Addr} {xs:List Value} (h:Row w (some ad) xs) (j:Nat) (u:Value) (hu:xs[j]? = some u):w.cell? (ad.add j)=some u:=by
 have hne:xs≠[]:=by rintro rfl;simp at hu
 obtain ⟨b,o,e,_,hc⟩:=h hne
 injection e with e
 subst e
 have:=hc j u hu
 unfold Addr.add
 split
 · rename_i h0;subst h0;simpa using this
 · exact this

theorem run_app (base:Nat) (t ty e:TypeId) (i:TypeInfo) (z:Value) (size bytes:Nat) (ht:P.underlying t=some (.slice e)) (hi:P.info? e=some i) (hz:i.zero=some z)
  (hsize:i.size=size) (hby:i.bytes=bytes) (hzs:z.cells.size=size) (hsz:0<size)
  (v:Value) (n:Nat) (xs:List Value) (hown:w.ownsRow base e size v n xs)
  (s:Value) (m:Nat) (news:List Value) (hs:Sl w s m news) (hl:news.length=m*size) (h1:∀ u∈news,u.oneCell'=true)
  (h63:n+m≤maxLen) (hbytes:(n+m)*bytes≤140737488355328) (hbase:base≤w.heap.size) :
  ∃ v' w',(Builtin.append_ #[t,t] ty #[v,s]).run P w=.ok v' w'∧w'.ownsRow base e size v' (n+m) (xs++news)∧w.grownBy w' v.ownBlock ∧
   (v'.ownBlock=v.ownBlock∨v'.ownBlock=some w.heap.size):=by
 obtain ⟨A,c,rfl,_,_,hr⟩:=hs
 rcases A with _ | ad
 ·
  have hn:news=[]:=by
   rcases news with _ | ⟨u,us⟩
   · rfl
   ·
    obtain ⟨b,o,e,_⟩:=hr (by simp)
    cases e
  subst hn
  have hm:m=0:=by
   rcases Nat.eq_zero_or_pos m with h0 | h0
   · exact h0
   ·
    have:=Nat.mul_pos h0 hsz
    simp at hl
    omega
  subst hm
  refine ⟨v,w,?_,by simpa using hown,World.grownBy.refl w _,.inl rfl⟩
  rcases hown.2 with ⟨rfl,rfl⟩ | ⟨g,cap,cur,rfl,_,_,hnc,_⟩
  · simp [Builtin.append_,run_underlying ht,sizeOf,typeInfo,hi,Builtin.lenOf,Builtin.firstCells]
  · simp [Builtin.append_,run_underlying ht,sizeOf,typeInfo,hi,Builtin.lenOf,Builtin.firstCells,hnc,storeCells]
 ·
  obtain ⟨v',w',hrun,h2,h3,_,h5⟩:=run_append_own_at (P:=P) w base t ty e i z size bytes ht hi hz hsize hby hzs hsz v n xs hown ad m c news hl (fun j u hu=>hr.at0 j u hu) h1 h63 hbytes hbase
  exact ⟨v',w',hrun,h2,h3,h5⟩

theorem wp_app {o:Oper} {a:Act} {K:Act→World→Prop} {Q:Exit→Act→World→Prop} (s x:Operand) (t:TypeId)
  (ho:o.op=.call {callee:=.builtin .append,args:=#[s,x],argTypes:=#[t,t]})
  (base:Nat) (e:TypeId) (i:TypeInfo) (z:Value) (size bytes:Nat) (ht:P.underlying t=some (.slice e)) (hi:P.info? e=some i) (hz:i.zero=some z)
  (hsize:i.size=size) (hby:i.bytes=bytes) (hzs:z.cells.size=size) (hsz:0<size)
  (v:Value) (n:Nat) (xs:List Value) (hs:a.eval s=v) (hown:w.ownsRow base e size v n xs)
  (src:Value) (m:Nat) (news:List Value) (hx:a.eval x=src) (hr:Sl w src m news) (hl:news.length=m*size) (h1:∀ u∈news,u.oneCell'=true)
  (h63:n+m≤maxLen) (hbytes:(n+m)*bytes≤140737488355328) (hbase:base≤w.heap.size)
  (h:∀ v' w',w'.ownsRow base e size v' (n+m) (xs++news)→w.grownBy w' v.ownBlock→(v'.ownBlock=v.ownBlock∨v'.ownBlock=some w.heap.size)→K (a.put o.dst v') w'):o.wp P a w K Q:=by
 obtain ⟨v',w',hrun,h2,h3,h4⟩:=run_app (P:=P) w base t o.type e i z size bytes ht hi hz hsize hby hzs hsz v n xs hown src m news hr hl h1 h63 hbytes hbase
 unfold Oper.wp execOp
 simp only [ho,resolve,invoke,builtin,Sem.run_bind,Sem.run_pure,Result.andThen_ok,List.map_toArray,List.map_cons,List.map_nil,hs,hx,hrun]
 exact h v' w' h2 h3 h4

theorem wpList_app {ops:Array Oper} {rest:List Oper} {o:Oper} {a:Act} {Q:Exit→Act→World→Prop} (hgd:o.guard=none) (s x:Operand) (t:TypeId)
  (ho:o.op=.call {callee:=.builtin .append,args:=#[s,x],argTypes:=#[t,t]})
  (base:Nat) (e:TypeId) (i:TypeInfo) (z:Value) (size bytes:Nat) (ht:P.underlying t=some (.slice e)) (hi:P.info? e=some i) (hz:i.zero=some z)
  (hsize:i.size=size) (hby:i.bytes=bytes) (hzs:z.cells.size=size) (hsz:0<size)
  (v:Value) (n:Nat) (xs:List Value) (hs:a.eval s=v) (hown:w.ownsRow base e size v n xs)
  (src:Value) (m:Nat) (news:List Value) (hx:a.eval x=src) (hr:Sl w src m news) (hl:news.length=m*size) (h1:∀ u∈news,u.oneCell'=true)
  (h63:n+m≤maxLen) (hbytes:(n+m)*bytes≤140737488355328) (hbase:base≤w.heap.size)
  (h:∀ v' w',w'.ownsRow base e size v' (n+m) (xs++news)→w.grownBy w' v.ownBlock→(v'.ownBlock=v.ownBlock∨v'.ownBlock=some w.heap.size)→wpList P ops Q rest (a.put o.dst v') w'):wpList P ops Q (o::rest) a w :=
 wpList_plain hgd fun _ hK=>wp_app w s x t ho base e i z size bytes ht hi hz hsize hby hzs hsz v n xs hs hown src m news hx hr hl h1 h63 hbytes hbase fun v' w' h2 h3 h4=>hK _ _ (h v' w' h2 h3 h4)
end

def Elem (P:Program) (t e:TypeId) (size bytes:Nat):Prop :=
 P.underlying t=some (.slice e)∧∃ i z,P.info? e=some i∧i.zero=some z∧i.size=size∧i.bytes=bytes∧z.cells.size=size∧0<size
theorem Elem.mk_ {P:Program} {t e:TypeId} {size bytes:Nat} {z:Value} (h:P.underlying t=some (.slice e)) (h':(P.info? e).map (fun i=>(i.zero,i.size,i.bytes))=some (some z,size,bytes)) (hz:z.cells.size=size) (hp:0<size):Elem P t e size bytes:=by
 obtain ⟨i0,hi,hz0,hz1,hz2⟩:=info_parts h'
 exact ⟨h,i0,z,hi,hz0,hz1,hz2,hz,hp⟩

def Own {α:Type} (w:World) (base:Nat) (e:TypeId) (size:Nat) (f:α→List Value) (v:Value) (l:List α):Prop:=w.ownsRow base e size v l.length (l.flatMap f)

section
variable {α:Type} {w w':World} {base:Nat} {e:TypeId} {size:Nat} {f:α→List Value} {v:Value} {l:List α}
theorem Own.sl (h:Own w base e size f v l):Sl w v l.length (l.flatMap f):=Sl.of_own h
theorem Own.keep (h:Own w base e size f v l) (hb:Below w.heap.size w w'):Own w' base e size f v l:=own_below h hb
theorem Own.alloc (h:Own w base e size f v l) (o:Obj):Own (w.alloc o) base e size f v l:=World.ownsRow.alloc h o
theorem Own.lt (h:Own w base e size f v l):∀ k,v.ownBlock=some k→base≤k∧k<w.heap.size:=World.ownsRow.lt h
theorem Own.nil (w:World) (base:Nat) (e:TypeId) (size:Nat) (f:α→List Value):Own w base e size f (.slice none 0 0) []:=World.ownsRow_nil w base e size
theorem Own.far (h:Own w base e size f v l) {p:Addr} (hp:v.ownBlock≠some p.block) (u:Value):Own (w.setCell p u) base e size f v l:=by
 obtain ⟨h1,h2⟩:=h
 refine ⟨h1,?_⟩
 rcases h2 with h2 | ⟨g,cap,cur,hv,hg,hh,r⟩
 · exact .inl h2
 ·
  subst hv
  refine .inr ⟨g,cap,cur,rfl,hg,(Below.heap_setCell w p u g (fun e=>hp (by rw [← e];rfl))).trans hh,r⟩
theorem Own.ne_blk (h:Own w base e size f v l) {g:Nat} {t:TypeId} {cs:Array Value} (hg:Blk w g t cs) (hne:e≠t):v.ownBlock≠some g:=own_blk_ne h hg hne
theorem Own.mono_base (h:Own w base e size f v l) {b':Nat} (hb:b'≤base):Own w b' e size f v l:=by
 obtain ⟨h1,h2⟩:=h
 refine ⟨h1,?_⟩
 rcases h2 with h2 | ⟨g,cap,cur,hv,hg,r⟩
 · exact .inl h2
 · exact .inr ⟨g,cap,cur,hv,Nat.le_trans hb hg,r⟩
end

theorem Own.lit {α:Type} (w:World) (base:Nat) (e:TypeId) (size:Nat) (f:α→List Value) (l:List α) (cs:Array Value) (n:Nat) (g:Nat) (hg:g=w.heap.size) (hn:n=l.length) (hb:base≤w.heap.size) (hm:n≤maxLen) (hs:cs.size=n*size) (hx:cs.toList=l.flatMap f) :
  Own (w.alloc (.cells cs e)) base e size f (.slice (some ⟨g,0,none⟩) n n) l:=by
 subst hg;subst hn
 have:=World.ownsRow_lit (base:=base) (e:=e) (size:=size) w cs l.length hb hm hs
 unfold Own
 rw [← hx]
 simpa [← hs] using this

theorem wp_appl {P:Program} {w:World} {o:Oper} {a:Act} {K:Act→World→Prop} {Q:Exit→Act→World→Prop} (s x:Operand) (t:TypeId)
  (ho:o.op=.call {callee:=.builtin .append,args:=#[s,x],argTypes:=#[t,t]})
  {α:Type} {f:α→List Value} {base:Nat} {e:TypeId} {size bytes:Nat} (hE:Elem P t e size bytes) (hf:∀ a,(f a).length=size) (hone:∀ a,∀ u∈f a,u.oneCell'=true)
  {v:Value} {l:List α} (hs:a.eval s=v) (hown:Own w base e size f v l)
  {src:Value} {l2:List α} (hx:a.eval x=src) (hr:Sl w src l2.length (l2.flatMap f))
  (hbytes:(l.length+l2.length)*bytes≤140737488355328) (h32:l.length+l2.length≤4294967296) (hbase:base≤w.heap.size)
  (h:∀ v' w',Own w' base e size f v' (l++l2)→w.grownBy w' v.ownBlock→(v'.ownBlock=v.ownBlock∨v'.ownBlock=some w.heap.size)→K (a.put o.dst v') w'):o.wp P a w K Q:=by
 obtain ⟨ht,i,z,hi,hz,hsize,hby,hzs,hsz⟩:=hE
 refine wp_app w s x t ho base e i z size bytes ht hi hz hsize hby hzs hsz v l.length (l.flatMap f) hs hown src l2.length (l2.flatMap f) hx hr (flat_length f size hf l2)
  (fun u hu=>?_) (le_maxLen h32) hbytes hbase (fun v' w' h1 h2 h3=>h v' w' ?_ h2 h3)
 ·
  obtain ⟨a,_,hu⟩:=List.mem_flatMap.1 hu
  exact hone a u hu
 ·
  unfold Own
  rw [List.length_append,List.flatMap_append]
  exact h1

theorem wpList_appl {P:Program} (w:World) {ops:Array Oper} {rest:List Oper} {o:Oper} {a:Act} {Q:Exit→Act→World→Prop} (hgd:o.guard=none) (s x:Operand) (t:TypeId)
  (ho:o.op=.call {callee:=.builtin .append,args:=#[s,x],argTypes:=#[t,t]})
  {α:Type} {f:α→List Value} {base:Nat} {e:TypeId} {size bytes:Nat} (hE:Elem P t e size bytes) (hf:∀ a,(f a).length=size) (hone:∀ a,∀ u∈f a,u.oneCell'=true)
  {v:Value} {l:List α} (hs:a.eval s=v) (hown:Own w base e size f v l)
  {src:Value} {l2:List α} (hx:a.eval x=src) (hr:Sl w src l2.length (l2.flatMap f))
  (hbytes:(l.length+l2.length)*bytes≤140737488355328) (h32:l.length+l2.length≤4294967296) (hbase:base≤w.heap.size)
  (h:∀ v' w',Own w' base e size f v' (l++l2)→w.grownBy w' v.ownBlock→(v'.ownBlock=v.ownBlock∨v'.ownBlock=some w.heap.size)→wpList P ops Q rest (a.put o.dst v') w'):wpList P ops Q (o::rest) a w:=by
 obtain ⟨ht,i,z,hi,hz,hsize,hby,hzs,hsz⟩:=hE
 refine wpList_app w hgd s x t ho base e i z size bytes ht hi hz hsize hby hzs hsz v l.length (l.flatMap f) hs hown src l2.length (l2.flatMap f) hx hr (flat_length f size hf l2)
  (fun u hu=>?_) (le_maxLen h32) hbytes hbase (fun v' w' h1 h2 h3=>h v' w' ?_ h2 h3)
 ·
  obtain ⟨a,_,hu⟩:=List.mem_flatMap.1 hu
  exact hone a u hu
 ·
  unfold Own
  rw [List.length_append,List.flatMap_append]
  exact h1

theorem find_hit {α:Type} (l:List α) (q:α→Bool) (k:Nat) (hk:k<l.length) (h:∀ j (hj:j<l.length),j<k→q l[j]=false) (he:q l[k]=true):l.find? q=some l[k]:=by
 induction l generalizing k with
 | nil=>simp at hk
 | cons a l ih =>
  cases k with
  | zero=>simp only [List.getElem_cons_zero] at he ⊢;rw [List.find?_cons_of_pos he]
  | succ k =>
   have h0:=h 0 (by simp) (by omega)
   simp only [List.getElem_cons_zero] at h0
   rw [List.find?_cons_of_neg (by simp [h0])]
   simp only [List.getElem_cons_succ] at he ⊢
   exact ih k (by simpa using hk) (fun j hj hjk=>by have h1:=h (j+1) (by simpa using hj) (by omega);simpa only [List.getElem_cons_succ] using h1) he
theorem find_miss {α:Type} (l:List α) (q:α→Bool) (h:∀ j (hj:j<l.length),q l[j]=false):l.find? q=none:=by
 rw [List.find?_eq_none]
 intro x hx
 obtain ⟨i,hi,rfl⟩:=List.mem_iff_getElem.1 hx
 simp [h i hi]
end Go.Proofs.YtnhdmghgjngcaaaGreat
namespace Go.Proofs.YtnhdmghgjngcaaaGreat
open Go.RowKit

theorem elem_pt:Elem Tryz.prog 39 36 2 16:=Elem.mk_ (z:=.agg #[.int .i64 0,.int .i64 0]) (by kernel_rfl) (by kernel_rfl) rfl (by omega)
theorem elem_nd:Elem Tryz.prog 22 38 3 24:=Elem.mk_ (z:=.agg #[.int .i64 0,.int .i64 0,.int .i64 0]) (by kernel_rfl) (by kernel_rfl) rfl (by omega)
theorem elem_ar:Elem Tryz.prog 23 41 6 64:=Elem.mk_ (z:=.agg #[.int .i64 0,.int .i64 0,.int .i64 0,.slice none 0 0,.int .i64 0,.int .i64 0]) (by kernel_rfl) (by kernel_rfl) rfl (by omega)
theorem elem_in:Elem Tryz.prog 24 3 1 8:=Elem.mk_ (z:=.int .i64 0) (by kernel_rfl) (by kernel_rfl) rfl (by omega)
theorem ptC_len (p:Pt):(ptC p).length=2:=rfl
theorem ndC_len (p:Nd):(ndC p).length=3:=rfl
theorem arC_len (p:Ar×Value):(arC p).length=6:=rfl
theorem inC_len (p:Int):(inC p).length=1:=rfl
theorem ptC_one (p:Pt):∀ u∈ptC p,u.oneCell'=true:=by simp [ptC,Value.oneCell']
theorem ndC_one (p:Nd):∀ u∈ndC p,u.oneCell'=true:=by simp [ndC,Value.oneCell']
theorem inC_one (p:Int):∀ u∈inC p,u.oneCell'=true:=by simp [inC,Value.oneCell']
theorem Blk.put1 {w:World} {g:Nat} {t:TypeId} {v0 x0:Value} (h:Blk w g t #[v0]):Blk (w.setCell ⟨g,0,none⟩ x0) g t #[x0]:=by
 have:=(Blk.set_ h 0 x0)
 simpa using this
theorem Blk.put2 {w:World} {g:Nat} {t:TypeId} {v0 v1 x0 x1:Value} (h:Blk w g t #[v0,v1]):Blk ((w.setCell ⟨g,0,none⟩ x0).setCell ⟨g,1,none⟩ x1) g t #[x0,x1]:=by
 have:=(Blk.set_ (Blk.set_ h 0 x0) 1 x1)
 simpa using this
theorem Blk.put3 {w:World} {g:Nat} {t:TypeId} {v0 v1 v2 x0 x1 x2:Value} (h:Blk w g t #[v0,v1,v2]):Blk (((w.setCell ⟨g,0,none⟩ x0).setCell ⟨g,1,none⟩ x1).setCell ⟨g,2,none⟩ x2) g t #[x0,x1,x2]:=by
 have:=(Blk.set_ (Blk.set_ (Blk.set_ h 0 x0) 1 x1) 2 x2)
 simpa using this
theorem Blk.put6 {w:World} {g:Nat} {t:TypeId} {v0 v1 v2 v3 v4 v5 x0 x1 x2 x3 x4 x5:Value} (h:Blk w g t #[v0,v1,v2,v3,v4,v5]):Blk ((((((w.setCell ⟨g,0,none⟩ x0).setCell ⟨g,1,none⟩ x1).setCell ⟨g,2,none⟩ x2).setCell ⟨g,3,none⟩ x3).setCell ⟨g,4,none⟩ x4).setCell ⟨g,5,none⟩ x5) g t #[x0,x1,x2,x3,x4,x5]:=by
 have:=(Blk.set_ (Blk.set_ (Blk.set_ (Blk.set_ (Blk.set_ (Blk.set_ h 0 x0) 1 x1) 2 x2) 3 x3) 4 x4) 5 x5)
 simpa using this

def StructOf (P:Program) (ty:TypeId) (n:Nat):Prop :=
 ∃ fs,P.underlying ty=some (.struct fs)∧(P.info? ty).map (·.size)=some n
theorem StructOf.mk_ {P:Program} {ty:TypeId} {n:Nat} {fs:Array Field} (h:P.underlying ty=some (.struct fs)) (h':(P.info? ty).map (·.size)=some n):StructOf P ty n:=⟨_,h,h'⟩
theorem res_cell_tmp {P:Program} {fn:Func} {p u:Tmp} {ty t:TypeId} {R:Ending→World→Prop} {a:Act} {w:World} {g:Nat} {cs:Array Value} (h:fn.results=#[.cell p ty,.tmp u])
  (hS:StructOf P ty cs.size) (hp:a.tmps.getD p undef=.pointer (some ⟨g,0,none⟩)) (hd:a.defers=[]) (hb:Blk w g t cs) (hR:R (.returned (.tuple #[.agg cs,a.tmps.getD u undef])) w):bodyPost P fn R .ret a w:=by
 obtain ⟨fs,h1,h3⟩:=hS
 refine bodyPost_ret ?_ hd hR
 rw [results_cell_tmp h,hp]
 have:=run_loadVar_row (P:=P) w g t ty cs (0,0) (.struct fs) hb h1 rfl h3
 simp [asAddr,Sem.run_pure,Result.andThen,this]
theorem res_cell {P:Program} {fn:Func} {p:Tmp} {ty t:TypeId} {R:Ending→World→Prop} {a:Act} {w:World} {g:Nat} {cs:Array Value} (h:fn.results=#[.cell p ty])
  (hS:StructOf P ty cs.size) (hp:a.tmps.getD p undef=.pointer (some ⟨g,0,none⟩)) (hd:a.defers=[]) (hb:Blk w g t cs) (hR:R (.returned (.agg cs)) w):bodyPost P fn R .ret a w:=by
 obtain ⟨fs,h1,h3⟩:=hS
 refine bodyPost_ret ?_ hd hR
 have:=run_loadVar_row (P:=P) w g t ty cs (0,0) (.struct fs) hb h1 rfl h3
 have hp':a.tmps[p]?.getD undef=.pointer (some ⟨g,0,none⟩):=by simpa using hp
 simp only [results,h]
 simp [hp',asAddr,Sem.run_bind,Sem.run_pure,Result.andThen,this]
theorem struct_pt:StructOf Tryz.prog 36 2:=.mk_ Tryz.underlying36 (by kernel_rfl)
theorem struct_nd:StructOf Tryz.prog 38 3:=.mk_ Tryz.underlying38 (by kernel_rfl)
theorem struct_ar:StructOf Tryz.prog 41 6:=.mk_ Tryz.underlying41 (by kernel_rfl)
theorem struct_pl:StructOf Tryz.prog 26 3:=.mk_ Tryz.underlying26 (by kernel_rfl)
end Go.Proofs.YtnhdmghgjngcaaaGreat
namespace Go.Proofs.YtnhdmghgjngcaaaGreat
open Go.RowKit

def Boxed (w:World) (g:Nat) (p:Pt):Prop:=Blk w g 36 #[.int .i64 p.x,.int .i64 p.y]
theorem Boxed.facts {w:World} {g:Nat} {p:Pt} (h:Boxed w g p):g<w.heap.size∧w.cell? ⟨g,0,none⟩=some (.int .i64 p.x)∧w.cell? ⟨g,1,none⟩=some (.int .i64 p.y)∧w.frozen? ⟨g,0,none⟩=false∧w.frozen? ⟨g,1,none⟩=false :=
 ⟨h.lt,h.cell 0,h.cell 1,h.frozen 0,h.frozen 1⟩
theorem Boxed.keep {w w':World} {g:Nat} {p:Pt} (h:Boxed w g p) (hb:Below w.heap.size w w'):Boxed w' g p:=Blk.keep h hb
theorem Boxed.set_ {w:World} {g:Nat} {p q:Pt} (h:Boxed w g p):Boxed ((w.setCell ⟨g,0,none⟩ (.int .i64 q.x)).setCell ⟨g,1,none⟩ (.int .i64 q.y)) g q:=by
 have:=(Blk.set_ h 0 (.int .i64 q.x)).set_ 1 (.int .i64 q.y)
 unfold Boxed
 simpa using this
theorem Boxed.far {w:World} {g:Nat} {p:Pt} (h:Boxed w g p) {q:Addr} (hq:g≠q.block) (u:Value):Boxed (w.setCell q u) g p:=Blk.far h hq u
theorem Boxed.new (w:World) (p:Pt) {g:Nat} (h:g=w.heap.size):Boxed (w.alloc (.cells #[.int .i64 p.x,.int .i64 p.y] 36)) g p:=Blk.made h _ _
theorem Boxed.alloc {w:World} {g:Nat} {p:Pt} (h:Boxed w g p) (o:Obj):Boxed (w.alloc o) g p:=Blk.alloc h o
theorem Boxed.drew {w:World} {g:Nat} {p:Pt} (h:Boxed w g p):Boxed w.drew g p:=h

def bef (a b:Pt):Bool:=decide (a.x<b.x) || (decide (a.x=b.x) && decide (a.y<b.y))

theorem run_eql_pt (a b:Pt) (W:World):(binOp .eql 36 (.agg #[.int .i64 a.x,.int .i64 a.y]) (.agg #[.int .i64 b.x,.int .i64 b.y])).run Tryz.prog W=.ok (.bool (decide (a=b))) W:=by
 by_cases h:a=b
 ·
  subst h
  go_simp
 ·
  have h':¬ (a.x=b.x∧a.y=b.y):=fun e=>h (Pt.ext_iff'.2 e)
  by_cases hx:(a.x == b.x)=true
  ·
   have hy:(a.y == b.y)=false:=by
    have:a.x=b.x:=by simpa using hx
    simpa [this] using h'
   go_simp
  ·
   have hx':(a.x == b.x)=false:=by simpa using hx
   clear hx
   go_simp

theorem run_neq_pt (a b:Pt) (W:World):(binOp .neq 36 (.agg #[.int .i64 a.x,.int .i64 a.y]) (.agg #[.int .i64 b.x,.int .i64 b.y])).run Tryz.prog W=.ok (.bool (!decide (a=b))) W:=by
 by_cases h:a=b
 ·
  subst h
  go_simp
 ·
  have h':¬ (a.x=b.x∧a.y=b.y):=fun e=>h (Pt.ext_iff'.2 e)
  by_cases hx:(a.x == b.x)=true
  ·
   have hy:(a.y == b.y)=false:=by
    have:a.x=b.x:=by simpa using hx
    simpa [this] using h'
   go_simp
  ·
   have hx':(a.x == b.x)=false:=by simpa using hx
   clear hx
   go_simp


theorem Nd.ext_iff' {a b:Nd}:a=b↔a.id=b.id∧a.pt.x=b.pt.x∧a.pt.y=b.pt.y:=by
 rcases a with ⟨i,⟨x,y⟩⟩;rcases b with ⟨i',⟨x',y'⟩⟩;simp
theorem run_neq_nd (a b:Nd) (W:World):(binOp .neq 38 (.agg #[.int .i64 a.id,.int .i64 a.pt.x,.int .i64 a.pt.y]) (.agg #[.int .i64 b.id,.int .i64 b.pt.x,.int .i64 b.pt.y])).run Tryz.prog W=.ok (.bool (!decide (a=b))) W:=by
 by_cases h:a=b
 ·
  subst h
  go_simp
 ·
  have h':¬ (a.id=b.id∧a.pt.x=b.pt.x∧a.pt.y=b.pt.y):=fun e=>h (Nd.ext_iff'.2 e)
  by_cases hi:(a.id == b.id)=true
  ·
   have hi':a.id=b.id:=by simpa using hi
   by_cases hx:(a.pt.x == b.pt.x)=true
   ·
    have hx':a.pt.x=b.pt.x:=by simpa using hx
    have hy:(a.pt.y == b.pt.y)=false:=by simpa [hi',hx'] using h'
    clear hi' hx'
    go_simp
   ·
    have hx':(a.pt.x == b.pt.x)=false:=by simpa using hx
    clear hx hi'
    go_simp
  ·
   have hi':(a.id == b.id)=false:=by simpa using hi
   clear hi
   go_simp
end Go.Proofs.YtnhdmghgjngcaaaGreat
namespace Go.Proofs.YtnhdmghgjngcaaaGreat
open Go.RowKit

section
variable {P:Program} {ops:Array Oper} {Q:Exit→Act→World→Prop} {w0:World}
def Since (w0:World):World→Prop:=fun w=>Below w0.heap.size w0 w

end
end Go.Proofs.YtnhdmghgjngcaaaGreat
namespace Go.Proofs.YtnhdmghgjngcaaaGreat
open Go.RowKit

section
variable {P:Program} {ops:Array Oper} {Q:Exit→Act→World→Prop} {w0 w1 w2:World} {row:Option Nat}
def SinceX (w0:World) (row:Option Nat):World→Prop:=fun w=>w0.grownBy w row

theorem gR (w:World) (row:Option Nat):w.grownBy w row:=World.grownBy.refl w row
theorem gT (h:w0.grownBy w1 row) (k:w1.grownBy w2 row):w0.grownBy w2 row :=
 ⟨k.os.trans h.os,k.tape.trans h.tape,k.output.trans h.output,Nat.le_trans h.size k.size,fun i hi hr=>(k.block i (Nat.lt_of_lt_of_le hi h.size) hr).trans (h.block i hi hr)⟩
theorem gB (h:w0.grownBy w1 row) (k:Below w1.heap.size w1 w2):w0.grownBy w2 row :=
 gT h ⟨k.os,k.tape,k.output,k.size,fun i hi _=>k.block i hi⟩
theorem gA (h:w0.grownBy w1 row) (o:Obj):w0.grownBy (w1.alloc o) row:=gB h (bA (bR w1) o)
theorem gD (h:w0.grownBy w1 row):w0.grownBy w1.drew row:=gB h (bD (bR w1))
theorem xcell {wq:World} (hq:w0.grownBy wq row):(∀ b o,b<w0.heap.size→some b≠row→wq.cell? ⟨b,o,none⟩=w0.cell? ⟨b,o,none⟩)∧(∀ b o,b<w0.heap.size→some b≠row→wq.frozen? ⟨b,o,none⟩=w0.frozen? ⟨b,o,none⟩):=by
 refine ⟨fun b o h hr=>?_,fun b o h hr=>?_⟩
 ·
  have:=hq.block b h hr
  simp only [World.cell?,this]
 ·
  have:=hq.block b h hr
  simp only [World.frozen?,this]
theorem gBelow {W:World} {B:Nat} (h:Below B W w0) (hB:B≤w0.heap.size) (g:w0.grownBy w1 row) (hr:∀ k,row=some k→B≤k):Below B W w1:=h.grown g hB hr
theorem Blk.grow {g:Nat} {t:TypeId} {cs:Array Value} (h:Blk w0 g t cs) (hb:w0.grownBy w1 row) (hg:some g≠row):Blk w1 g t cs:=(hb.block g h.lt hg).trans h
end
end Go.Proofs.YtnhdmghgjngcaaaGreat
namespace Go.Proofs.YtnhdmghgjngcaaaGreat
open Go.RowKit

inductive RPlan where
 | done
 | take (i m:Nat) (r:RPlan)
 | call (i m:Nat) (r:RPlan)
 | two (i m:Nat) (r:RPlan) (j m':Nat) (s:RPlan)
def RPlan.run:Nat→Nat→Nat→RPlan→RPlan
 | 0,_,_,r=>r
 | n+1,i,m,r=>.take i (m ||| (1 <<< i)) (RPlan.run n (i+1) (m ||| (1 <<< i)) r)
def RPlan.depth:RPlan→Nat
 | .done=>0
 | .take _ _ r=>r.depth+1
 | .call _ _ r=>r.depth+1
 | .two _ _ r _ _ s=>Nat.max r.depth s.depth+1
def planOk (ops:Array Oper):RPlan→Array Bool→Prop
 | .done,l=>Region.ready .any ops l=[]
 | .take i _ r,l=>Region.free .any ops l i=true∧(Region.ready .any ops l).contains i=true∧planOk ops r (l.setIfInBounds i true)
 | .call i _ r,l=>Region.ready .any ops l=[i]∧planOk ops r (l.setIfInBounds i true)
 | .two i _ r j _ s,l=>Region.ready .any ops l=[i,j]∧planOk ops r (l.setIfInBounds i true)∧planOk ops s (l.setIfInBounds j true)

def bitM (m i:Nat):Bool:=m.testBit i
def upM (ops:Array Oper) (m i:Nat):Bool:=!bitM m i && match ops[i]? with
 | some o=>o.after.all fun e=>!Region.binds .any e || bitM m e.on
 | none=>false
def readyM (ops:Array Oper) (m:Nat):List Nat:=(List.range ops.size).filter (upM ops m)
def freeM (ops:Array Oper) (m i:Nat):Bool:=match ops[i]? with
 | none=>false
 | some oi=>(List.range ops.size).all fun j=>Nat.beq j i || bitM m j || match ops[j]? with
   | some oj=>oj.after.any (fun e=>Region.binds .any e && Nat.beq e.on i) || oi.apart ops oj
   | none=>true
def planM (ops:Array Oper):RPlan→Nat→Bool
 | .done,m=>(readyM ops m).isEmpty
 | .take i m' r,m=>Nat.beq m' (m ||| (1 <<< i)) && (freeM ops m i && (upM ops m i && planM ops r m'))
 | .call i m' r,m=>Nat.beq m' (m ||| (1 <<< i)) && (decide (readyM ops m=[i]) && planM ops r m')
 | .two i m' r j m'' s,m=>Nat.beq m' (m ||| (1 <<< i)) && (Nat.beq m'' (m ||| (1 <<< j)) && (decide (readyM ops m=[i,j]) && (planM ops r m' && planM ops s m'')))

def maskArr (n m:Nat):Array Bool:=Array.ofFn (n:=n) fun i=>m.testBit i
theorem maskArr_get (n m i:Nat) (h:i<n) (d:Bool):(maskArr n m).getD i d=m.testBit i:=by simp [maskArr,h]
theorem maskArr_get_ge (n m i:Nat) (h:¬ i<n):(maskArr n m).getD i false=false:=by simp [maskArr,h]
theorem maskArr_set (n m i:Nat) (hi:i<n):(maskArr n m).setIfInBounds i true=maskArr n (m ||| (1 <<< i)):=by
 apply Array.ext
 · simp [maskArr]
 ·
  intro j h1 h2
  have hj:j<n:=by simpa [maskArr] using h2
  simp only [maskArr,Array.getElem_setIfInBounds,Array.getElem_ofFn,Nat.testBit_or,Nat.one_shiftLeft,Nat.testBit_two_pow]
  by_cases e:i=j
  · subst e;simp
  ·
   have h3:j<(Array.ofFn (n:=n) fun i=>m.testBit i).size:=by simpa using hj
   have h4:((Array.ofFn (n:=n) fun i=>m.testBit i).setIfInBounds i true)[j]'(by simpa using hj)=(Array.ofFn (n:=n) fun i=>m.testBit i)[j]:=Array.getElem_setIfInBounds_ne h3 e
   rw [h4,Array.getElem_ofFn]
   simp [e]
theorem maskArr_zero (n:Nat):maskArr n 0=Array.replicate n false:=by
 apply Array.ext
 · simp [maskArr]
 · intro j h1 h2;simp [maskArr]
theorem ready_mask (ops:Array Oper) (m:Nat) (hm:m<2 ^ ops.size):Region.ready .any ops (maskArr ops.size m)=readyM ops m:=by
 unfold Region.ready readyM
 apply List.filter_congr
 intro i hi
 have hi:=List.mem_range.1 hi
 rw [maskArr_get _ _ _ hi]
 unfold upM bitM
 cases h:ops[i]? with
 | none=>simp
 | some o =>
  simp only [Option.map_some,Option.getD_some]
  congr 1
  have:∀ e:Edge,(!Region.binds .any e || (maskArr ops.size m).getD e.on false)=(!Region.binds .any e || m.testBit e.on):=fun e=>by
   by_cases he:e.on<ops.size
   · rw [maskArr_get _ _ _ he]
   · rw [maskArr_get_ge _ _ _ he,Nat.testBit_lt_two_pow (Nat.lt_of_lt_of_le hm (Nat.pow_le_pow_right (by omega) (by omega)))]
  simp only [this]
theorem beq_nat (a b:Nat):Nat.beq a b=(a == b):=by rw [Bool.eq_iff_iff];simp [Nat.beq_eq]
theorem free_mask (ops:Array Oper) (m i:Nat):Region.free .any ops (maskArr ops.size m) i=freeM ops m i:=by
 unfold Region.free freeM
 cases ops[i]? with
 | none=>rfl
 | some oi =>
  simp only []
  rw [Bool.eq_iff_iff,List.all_eq_true,List.all_eq_true]
  constructor
  ·
   intro h j hj
   have:=h j hj
   rw [maskArr_get _ _ _ (List.mem_range.1 hj)] at this
   simp only [beq_nat]
   exact this
  ·
   intro h j hj
   rw [maskArr_get _ _ _ (List.mem_range.1 hj)]
   have:=h j hj
   simp only [beq_nat] at this
   exact this
theorem mask_lt {n m i:Nat} (hm:m<2 ^ n) (hi:i<n):m ||| (1 <<< i)<2 ^ n:=by
 apply Nat.or_lt_two_pow hm
 rw [Nat.shiftLeft_eq,Nat.one_mul]
 exact Nat.pow_lt_pow_right (by omega) hi
theorem upM_lt {ops:Array Oper} {m i:Nat} (h:upM ops m i=true):i<ops.size:=by
 unfold upM at h
 cases ho:ops[i]? with
 | none=>simp [ho] at h
 | some o=>exact (Array.getElem?_eq_some_iff.1 ho).1
theorem readyM_lt {ops:Array Oper} {m i:Nat} (h:i∈readyM ops m):i<ops.size:=List.mem_range.1 (List.mem_filter.1 h).1
theorem planM_ok (ops:Array Oper):∀ (p:RPlan) (m:Nat),m<2 ^ ops.size→planM ops p m=true→planOk ops p (maskArr ops.size m)
 | .done,m,hm,h=>by
  simp only [planM,List.isEmpty_iff] at h
  show Region.ready .any ops _=[]
  rw [ready_mask _ _ hm,h]
 | .take i m' r,m,hm,h=>by
  simp only [planM,Bool.and_eq_true,Nat.beq_eq] at h
  obtain ⟨h1,h2,h3,h4⟩:=h
  have hi:=upM_lt h3
  refine ⟨by rw [free_mask];exact h2,?_,?_⟩
  ·
   rw [ready_mask _ _ hm,List.contains_iff_mem]
   exact List.mem_filter.2 ⟨List.mem_range.2 hi,h3⟩
  ·
   rw [maskArr_set _ _ _ hi,← h1]
   exact planM_ok ops r m' (by rw [h1];exact mask_lt hm hi) h4
 | .call i m' r,m,hm,h=>by
  simp only [planM,Bool.and_eq_true,Nat.beq_eq,decide_eq_true_eq] at h
  obtain ⟨h1,h2,h3⟩:=h
  have hi:i<ops.size:=readyM_lt (m:=m) (by rw [h2];simp)
  refine ⟨by rw [ready_mask _ _ hm,h2],?_⟩
  rw [maskArr_set _ _ _ hi,← h1]
  exact planM_ok ops r m' (by rw [h1];exact mask_lt hm hi) h3
 | .two i m' r j m'' s,m,hm,h=>by
  simp only [planM,Bool.and_eq_true,Nat.beq_eq,decide_eq_true_eq] at h
  obtain ⟨h1,h2,h3,h4,h5⟩:=h
  have hi:i<ops.size:=readyM_lt (m:=m) (by rw [h3];simp)
  have hj:j<ops.size:=readyM_lt (m:=m) (by rw [h3];simp)
  refine ⟨by rw [ready_mask _ _ hm,h3],?_,?_⟩
  ·
   rw [maskArr_set _ _ _ hi,← h1]
   exact planM_ok ops r m' (by rw [h1];exact mask_lt hm hi) h4
  ·
   rw [maskArr_set _ _ _ hj,← h2]
   exact planM_ok ops s m'' (by rw [h2];exact mask_lt hm hj) h5

section
variable {P:Program} {ops:Array Oper} {Q:Exit→Act→World→Prop} {S:World→Prop}
def Planned (P:Program) (ops:Array Oper) (Q:Exit→Act→World→Prop) (S:World→Prop) (p:RPlan) (a:Act) (w:World):Prop :=
 ∀ (l:Array Bool) (f:Nat),Region.noSelect ops=true→planOk ops p l→p.depth≤f→wpAnyH P .any ops Q S f l a w

theorem rg_start {id:Nat} {a:Act} {w:World} (S:World→Prop) (p:RPlan) (hm:P.follows .mixedOrders=true) (hS:S w.drew)
  (hsel:Region.noSelect ops=true) (hp:planM ops p 0=true) (hd:p.depth≤ops.size)
  (h:∀ ops' Q',PLift (ops'=ops)→PLift (∀ a w,Q .normal a w→Q' .normal a w)→S w.drew→Planned P ops' (NoPanic Q') S p a w.drew):(Code.region id ops true).wp P Q a w :=
 wp_region_noPanic (wp_region_held_drew hm hS fun hS=>h ops Q ⟨rfl⟩ ⟨fun _ _ h=>h⟩ hS _ _ hsel (by have:=planM_ok ops p 0 (Nat.pow_pos (by omega)) hp;rwa [maskArr_zero] at this) hd)

theorem get_of {ops':Array Oper} {l:List Oper} (h:PLift (ops'=l.toArray)) {i:Nat} {o:Oper} (hi:l[i]? = some o):ops'[i]? = some o:=by rw [h.down];simpa using hi

theorem rg_take {i m:Nat} {oi:Oper} {r:RPlan} {a:Act} {w:World} (hi:ops[i]? = some oi) (hS:S w)
  (h:∃ v:Value,YieldsIf P ops S oi v a∧Planned P ops (NoPanic Q) S r (a.put oi.dst v) w):Planned P ops (NoPanic Q) S (.take i m r) a w:=by
 obtain ⟨v,hy,h⟩:=h
 intro l f hsel hp hd
 simp only [planOk] at hp
 cases f with
 | zero=>simp [RPlan.depth] at hd
 | succ f=>exact wpAnyH_take hi hsel hp.1 hp.2.1 (fun _ _ _ h=>h) hy hS (h _ _ hsel hp.2.2 (by simpa [RPlan.depth] using hd))

theorem rg_call {i m:Nat} {oi:Oper} {r:RPlan} {a:Act} {w:World} (hi:ops[i]? = some oi)
  (h:∀ K':Act→World→Prop,Shut (∀ a w,S w→(S w→Planned P ops (NoPanic Q) S r a w)→K' a w)→if Region.wanted oi (yielded ops a.tmps)=true then Oper.wp P oi a w K' (NoPanic Q) else K' (a.put oi.dst undef) w) :
  Planned P ops (NoPanic Q) S (.call i m r) a w:=by
 intro l f hsel hp hd
 simp only [planOk] at hp
 cases f with
 | zero=>simp [RPlan.depth] at hd
 | succ f=>exact wpAnyH_ready hp.1 (by simp) (AllReadyH.cons hi (fun K' hK=>h K' (fun a w hS hW=>hK.out a w hS fun hS=>hW hS _ _ hsel hp.2 (by simpa [RPlan.depth] using hd))) AllReadyH.nil)

theorem rg_two {i j m m':Nat} {oi oj:Oper} {r s:RPlan} {a:Act} {w:World} (hi:ops[i]? = some oi) (hj:ops[j]? = some oj)
  (h:∀ K':Act→World→Prop,Shut (∀ a w,S w→(S w→Planned P ops (NoPanic Q) S r a w)→K' a w)→if Region.wanted oi (yielded ops a.tmps)=true then Oper.wp P oi a w K' (NoPanic Q) else K' (a.put oi.dst undef) w)
  (h':∀ K':Act→World→Prop,Shut (∀ a w,S w→(S w→Planned P ops (NoPanic Q) S s a w)→K' a w)→if Region.wanted oj (yielded ops a.tmps)=true then Oper.wp P oj a w K' (NoPanic Q) else K' (a.put oj.dst undef) w) :
  Planned P ops (NoPanic Q) S (.two i m r j m' s) a w:=by
 intro l f hsel hp hd
 simp only [planOk] at hp
 cases f with
 | zero=>simp [RPlan.depth] at hd
 | succ f =>
  simp only [RPlan.depth,Nat.add_le_add_iff_right,Nat.max_le] at hd
  exact wpAnyH_ready hp.1 (by simp) (AllReadyH.cons hi (fun K' hK=>h K' (fun a w hS hW=>hK.out a w hS fun hS=>hW hS _ _ hsel hp.2.1 hd.1))
   (AllReadyH.cons hj (fun K' hK=>h' K' (fun a w hS hW=>hK.out a w hS fun hS=>hW hS _ _ hsel hp.2.2 hd.2)) AllReadyH.nil))

theorem rg_done {a:Act} {w:World} (h:Q .normal a w):Planned P ops (NoPanic Q) S .done a w:=by
 intro l f _ hp _
 exact wpAnyH_done hp (NoPanic.normal h) f

theorem wanted_plain {o:Oper} {f:Nat→Option Bool} (h:o.guard=none):Region.wanted o f=true:=by unfold Region.wanted;rw [h]
theorem wanted_yes {o og:Oper} {tmps:Array Value} {g d:Nat} {b:Bool} (h:o.guard=some (g,b)) (hg:ops[g]? = some og) (hd:og.dst=some d) (hv:tmps[d]? = some (.bool b)):Region.wanted o (yielded ops tmps)=true:=by
 unfold Region.wanted yielded
 rw [h]
 simp only [hg,Option.bind_some,hd,hv]
 simp
theorem wanted_no {o og:Oper} {tmps:Array Value} {g d:Nat} {b:Bool} (h:o.guard=some (g,b)) (hg:ops[g]? = some og) (hd:og.dst=some d) {v:Value} (hv:tmps[d]? = some v) (hb:(match v with | .bool x=>x != b | _=>true)=true):Region.wanted o (yielded ops tmps)=false:=by
 unfold Region.wanted yielded
 rw [h]
 simp only [hg,Option.bind_some,hd,hv]
 cases v<;>simp_all
def notB (v:Value) (b:Bool):Bool:=match v with | .bool x=>x != b | _=>true
theorem wanted_no2 {o og:Oper} {tmps:Array Value} {g d:Nat} {b:Bool} {v:Value} (h:o.guard=some (g,b)) (hg:ops[g]? = some og) (hd:og.dst=some d) (hv:tmps[d]? = some v) (hb:notB v b=true):Region.wanted o (yielded ops tmps)=false:=by
 unfold Region.wanted yielded
 rw [h]
 simp only [hg,Option.bind_some,hd,hv]
 cases v<;>simp_all [notB]
theorem rg_yp {l:List Oper} {i m:Nat} {oi:Oper} {r:RPlan} {a:Act} {w:World} {v:Value} (H:PLift (ops=l.toArray)) (hi:l[i]? = some oi) (hS:S w) (hg:oi.guard=none)
  (hy:∀ wq,S wq→(execOp a.eval oi).run P wq=.ok (.value v) wq) (h:Planned P ops (NoPanic Q) S r (a.put oi.dst v) w):Planned P ops (NoPanic Q) S (.take i m r) a w :=
 rg_take (get_of H hi) hS ⟨v,.inl ⟨wanted_plain hg,hy⟩,h⟩
theorem rg_yg {l:List Oper} {i m g d:Nat} {b:Bool} {oi og:Oper} {r:RPlan} {a:Act} {w:World} {v:Value} (H:PLift (ops=l.toArray)) (hi:l[i]? = some oi) (hS:S w) (hg:oi.guard=some (g,b)) (ho:l[g]? = some og) (hd:og.dst=some d) (hv:a.tmps[d]? = some (.bool b))
  (hy:∀ wq,S wq→(execOp a.eval oi).run P wq=.ok (.value v) wq) (h:Planned P ops (NoPanic Q) S r (a.put oi.dst v) w):Planned P ops (NoPanic Q) S (.take i m r) a w :=
 rg_take (get_of H hi) hS ⟨v,.inl ⟨wanted_yes hg (get_of H ho) hd hv,hy⟩,h⟩
theorem rg_yn {l:List Oper} {i m g d:Nat} {b:Bool} {oi og:Oper} {r:RPlan} {a:Act} {w:World} {v:Value} (H:PLift (ops=l.toArray)) (hi:l[i]? = some oi) (hS:S w) (hg:oi.guard=some (g,b)) (ho:l[g]? = some og) (hd:og.dst=some d) (hv:a.tmps[d]? = some v) (hb:notB v b=true)
  (h:Planned P ops (NoPanic Q) S r (a.put oi.dst undef) w):Planned P ops (NoPanic Q) S (.take i m r) a w :=
 rg_take (get_of H hi) hS ⟨undef,.inr ⟨wanted_no2 hg (get_of H ho) hd hv hb,rfl⟩,h⟩
theorem pu1 {α:Type} (l:List α) (i:Nat) (x:α):l.toArray.setIfInBounds i x=(l.set i x).toArray:=by simp
theorem pu2 {α:Type} (l:List α) (y x:α):(y::l).set 0 x=x::l:=rfl
theorem pu3 {α:Type} (l:List α) (y x:α) (n:Nat):(y::l).set (n+1) x=y::l.set n x:=rfl
theorem pu:(∀ (a:Act) (t:Tmp) (v:Value),a.put (some t) v = {a with tmps:=a.tmps.setIfInBounds t v})∧(∀ (a:Act) (v:Value),a.put none v=a)∧(∀ (l:List Value) (i:Nat) (x:Value),l.toArray.setIfInBounds i x=(l.set i x).toArray)∧(∀ (l:List Value) (y x:Value),(y::l).set 0 x=x::l)∧(∀ (l:List Value) (y x:Value) (n:Nat),(y::l).set (n+1) x=y::l.set n x) :=
 ⟨fun _ _ _=>rfl,fun _ _=>rfl,pu1,pu2,pu3⟩
theorem rg_p {l:List Oper} {i m:Nat} {oi:Oper} {r:RPlan} {a:Act} {w W:World} {v:Value} (H:PLift (ops=l.toArray)) (hi:l[i]? = some oi) (hS:Since W w) (hg:oi.guard=none)
  (hy:∀ wq:World,(∀ b o,b<W.heap.size→wq.cell? ⟨b,o,none⟩=W.cell? ⟨b,o,none⟩)→(execOp a.eval oi).run P wq=.ok (.value v) wq) (h:Planned P ops (NoPanic Q) (Since W) r (a.put oi.dst v) w):Planned P ops (NoPanic Q) (Since W) (.take i m r) a w :=
 rg_yp H hi hS hg (fun wq hq=>hy wq (bcell hq).1) h
theorem rg_g {l:List Oper} {i m g d:Nat} {b:Bool} {oi og:Oper} {r:RPlan} {a:Act} {w W:World} {v:Value} (H:PLift (ops=l.toArray)) (hi:l[i]? = some oi) (hS:Since W w) (hg:oi.guard=some (g,b)) (ho:l[g]? = some og) (hd:og.dst=some d) (hv:a.tmps[d]? = some (.bool b))
  (hy:∀ wq:World,(∀ b o,b<W.heap.size→wq.cell? ⟨b,o,none⟩=W.cell? ⟨b,o,none⟩)→(execOp a.eval oi).run P wq=.ok (.value v) wq) (h:Planned P ops (NoPanic Q) (Since W) r (a.put oi.dst v) w):Planned P ops (NoPanic Q) (Since W) (.take i m r) a w :=
 rg_yg H hi hS hg ho hd hv (fun wq hq=>hy wq (bcell hq).1) h
theorem rg_pX {l:List Oper} {i m:Nat} {oi:Oper} {r:RPlan} {a:Act} {w W:World} {row:Option Nat} {v:Value} (H:PLift (ops=l.toArray)) (hi:l[i]? = some oi) (hS:SinceX W row w) (hg:oi.guard=none)
  (hy:∀ wq:World,(∀ b o,b<W.heap.size→some b≠row→wq.cell? ⟨b,o,none⟩=W.cell? ⟨b,o,none⟩)→(execOp a.eval oi).run P wq=.ok (.value v) wq) (h:Planned P ops (NoPanic Q) (SinceX W row) r (a.put oi.dst v) w):Planned P ops (NoPanic Q) (SinceX W row) (.take i m r) a w :=
 rg_yp H hi hS hg (fun wq hq=>hy wq (xcell hq).1) h
theorem rg_run {C:Prop} [Decidable C] {A B:Prop} (hc:C) (h:A):if C then A else B:=by rw [if_pos hc];exact h
end
end Go.Proofs.YtnhdmghgjngcaaaGreat
namespace Go.Proofs.YtnhdmghgjngcaaaGreat
open Go.RowKit

def SinceB (B:Nat) (w0:World):World→Prop:=fun w=>Below B w0 w
theorem bcellB {B:Nat} {W w1:World} (hb:Below B W w1):(∀ b o,b<B→w1.cell? ⟨b,o,none⟩=W.cell? ⟨b,o,none⟩)∧(∀ b o,b<B→w1.frozen? ⟨b,o,none⟩=W.frozen? ⟨b,o,none⟩) :=
 ⟨fun b o h=>hb.cell (p:=⟨b,o,none⟩) h,fun b o h=>hb.frozen (p:=⟨b,o,none⟩) h⟩

def BelowD (w w':World):Prop:=Below w.heap.size w w'∧w.drawn≤w'.drawn
theorem dR (w:World):w.drawn≤w.drawn:=Nat.le_refl _
section
variable {n:Nat} {w w':World}
theorem dA (h:n≤w.drawn) (o:Obj):n≤(w.alloc o).drawn:=h
theorem dD (h:n≤w.drawn):n≤w.drew.drawn:=Nat.le_succ_of_le h
theorem dT (h:n≤w.drawn) (k:w.drawn≤w'.drawn):n≤w'.drawn:=Nat.le_trans h k
end

theorem res_cell2 {P:Program} {fn:Func} {p q:Tmp} {ty ty':TypeId} {R:Ending→World→Prop} {a:Act} {w:World} {g g':Nat} {cs cs':Array Value} (h:fn.results=#[.cell p ty,.cell q ty'])
  (hS:StructOf P ty cs.size) (hS':StructOf P ty' cs'.size) (hp:a.tmps.getD p undef=.pointer (some ⟨g,0,none⟩)) (hq:a.tmps.getD q undef=.pointer (some ⟨g',0,none⟩)) (hd:a.defers=[]) (hb:Blk w g ty cs) (hb':Blk w g' ty' cs') (hR:R (.returned (.tuple #[.agg cs,.agg cs'])) w):bodyPost P fn R .ret a w:=by
 obtain ⟨fs,h1,h3⟩:=hS
 obtain ⟨fs',h1',h3'⟩:=hS'
 refine bodyPost_ret ?_ hd hR
 have e1:=run_loadVar_row (P:=P) w g ty ty cs (0,0) (.struct fs) hb h1 rfl h3
 have e2:=run_loadVar_row (P:=P) w g' ty' ty' cs' (0,0) (.struct fs') hb' h1' rfl h3'
 have hp':a.tmps[p]?.getD undef=.pointer (some ⟨g,0,none⟩):=by simpa using hp
 have hq':a.tmps[q]?.getD undef=.pointer (some ⟨g',0,none⟩):=by simpa using hq
 simp only [results,h]
 simp [hp',hq',asAddr,Sem.run_bind,Sem.run_pure,Result.andThen,e1,e2]
section
variable {P:Program} {ops:Array Oper} {Q:Exit→Act→World→Prop}
theorem rg_pB {l:List Oper} {i m:Nat} {oi:Oper} {r:RPlan} {a:Act} {w W:World} {B:Nat} {v:Value} (H:PLift (ops=l.toArray)) (hi:l[i]? = some oi) (hS:SinceB B W w) (hg:oi.guard=none)
  (hy:∀ wq:World,(∀ b o,b<B→wq.cell? ⟨b,o,none⟩=W.cell? ⟨b,o,none⟩)→(execOp a.eval oi).run P wq=.ok (.value v) wq) (h:Planned P ops (NoPanic Q) (SinceB B W) r (a.put oi.dst v) w):Planned P ops (NoPanic Q) (SinceB B W) (.take i m r) a w :=
 rg_yp H hi hS hg (fun wq hq=>hy wq (bcellB hq).1) h
end
end Go.Proofs.YtnhdmghgjngcaaaGreat
namespace Go.Proofs.YtnhdmghgjngcaaaGreat
open Go.RowKit

def ptD (p:Pt):DataW Unit:=.agg [.lit (.int .i64 p.x),.lit (.int .i64 p.y)]
def ptR:Value→Option (DataW Unit×List MemPlace)
 | .agg cs=>match cs.toList with
  | [.int .i64 x,.int .i64 y]=>some (ptD ⟨x,y⟩,[])
  | _=>none
 | _=>none
theorem ptR_pt (p:Pt):ptR (ptV p)=some (ptD p,[]):=rfl
theorem ptR_inv {v:Value} {p:Pt} {ps:List MemPlace} (h:ptR v=some (ptD p,ps)):v=ptV p:=by
 unfold ptR at h
 split at h
 ·
  rename_i cs
  split at h
  ·
   rename_i x y hc
   simp only [Option.some.injEq,Prod.mk.injEq,ptD,DataW.agg.injEq,List.cons.injEq,DataW.lit.injEq,Lit.int.injEq,and_true,true_and] at h
   obtain ⟨⟨rfl,rfl⟩,-⟩:=h
   have:cs=#[.int .i64 p.x,.int .i64 p.y]:=by rw [← Array.toList_inj];exact hc
   rw [this];rfl
  · cases h
 · cases h

def z0:Pt:=⟨0,0⟩
def wfI (id:Int):Prop:=(Lit.int .i64 id).wf=true
theorem wfI_of {id:Int} (h1:-9223372036854775808≤id) (h2:id≤9223372036854775807):wfI id:=WalkArith.wf_i64 ⟨h1,h2⟩

def MapPts (w:World) (b n:Nat) (f:Int→Pt):Prop :=
 ∃ D:DataW Unit,w.ownsMap Tryz.prog 3 ptR b n D∧Maps.IsMap D∧∀ id,D.atKey (.int .i64 id) (ptD z0)=ptD (f id)
theorem MapPts.kept {w w':World} {b n:Nat} {f:Int→Pt} (h:MapPts w b n f) {row:Option Nat} (hg:w.grownBy w' row) (hr:some b≠row):MapPts w' b n f:=by
 obtain ⟨D,h1,h2⟩:=h
 exact ⟨D,h1.kept hg hr,h2⟩
theorem MapPts.keep {w w':World} {b n:Nat} {f:Int→Pt} (h:MapPts w b n f) (hb:Below w.heap.size w w'):MapPts w' b n f :=
 h.kept (row:=none) ⟨hb.os,hb.tape,hb.output,hb.size,fun i hi _=>hb.block i hi⟩ (by simp)
theorem MapPts.lt {w:World} {b n:Nat} {f:Int→Pt} (h:MapPts w b n f):b<w.heap.size:=by
 obtain ⟨D,h1,h2⟩:=h
 exact h1.lt
theorem MapPts.made (w:World):MapPts (w.alloc (.map #[] 0)) w.heap.size 0 (fun _=>z0) :=
 ⟨.map [],World.ownsMap_made _ _ _ _,⟨_,rfl⟩,fun _=>rfl⟩
theorem keyed_int:Maps.Keyed Tryz.prog 3:=Maps.int_keyed Tryz.underlying3
theorem zero_pt (w:World):(zeroValue 36).run Tryz.prog w=.ok (ptV z0) w:=by kernel_rfl
theorem MapPts.look {w:World} {b n:Nat} {f:Int→Pt} (h:MapPts w b n f) (id:Int) (hid:wfI id) :
  (Instr.lookup 133 (.map (some b)) (.int .i64 id) false).run Tryz.prog w=.ok (ptV (f id)) w:=by
 obtain ⟨D,h1,-,h2⟩:=h
 obtain ⟨v,ps,hr,hv⟩:=h1.lookup keyed_int Tryz.underlying133 (zero_pt w) (ptR_pt z0) (Maps.keyOf_int_mk Tryz.underlying3 hid)
 rw [h2] at hv
 rw [hr,ptR_inv hv]
theorem MapPts.upd {w:World} {b n:Nat} {f:Int→Pt} (h:MapPts w b n f) (hn:n<4294967296) (id:Int) (hid:wfI id) (p:Pt) :
  ∃ w',(Instr.mapUpdate 133 (.map (some b)) (.int .i64 id) (ptV p)).run Tryz.prog w=.ok () w'∧MapPts w' b (n+1) (fun i=>if i=id then p else f i)∧w.grownBy w' (some b):=by
 obtain ⟨D,h1,hm,h2⟩:=h
 obtain ⟨w',hr,ho,hg⟩:=h1.update keyed_int Tryz.underlying133 (by unfold maxLen;omega) (Maps.keyOf_int_mk Tryz.underlying3 hid) (ptR_pt p)
 refine ⟨w',hr,⟨_,ho,?_,fun i=>?_⟩,hg⟩
 · obtain ⟨es,rfl⟩:=hm;exact ⟨_,rfl⟩
 ·
  show _=ptD (if i=id then p else f i)
  by_cases e:i=id
  ·
   subst e
   rw [if_pos rfl]
   exact Maps.atKey_put_same hm (by trivial) _ _
  · rw [if_neg e,Maps.atKey_put_other (fun h=>e (by injection h)),h2]
end Go.Proofs.YtnhdmghgjngcaaaGreat
namespace Go.Proofs.YtnhdmghgjngcaaaGreat
open Go.RowKit

def cutA (A:Option Addr) (c k size:Nat):Option Addr:=if c=k then A else A.map (·.add (k*size))
theorem Row.cut {w:World} {A:Option Addr} {xs:List Value} (h:Row w A xs) {k size c:Nat} (hx:xs.length≤c*size):Row w (cutA A c k size) (xs.drop (k*size)):=by
 intro hne
 unfold cutA
 have hlt:k*size<xs.length:=by
  rcases Nat.lt_or_ge (k*size) xs.length with h' | h'
  · exact h'
  · exact absurd (List.drop_of_length_le h') hne
 have hck:¬ c=k:=fun e=>by subst e;omega
 rw [if_neg hck]
 obtain ⟨b,o,rfl,hb,hc⟩:=h (by rintro rfl;simp at hlt)
 refine ⟨b,o+k*size,?_,hb,fun j v hj=>?_⟩
 ·
  simp only [Option.map_some,Addr.add]
  split
  · rename_i h0;simp [h0]
  · rfl
 ·
  rw [List.getElem?_drop] at hj
  have:=hc _ v hj
  rwa [← Nat.add_assoc] at this
theorem run_cut {P:Program} {t e:TypeId} {size:Nat} (ht:P.underlying t=some (.slice e)) (hsz:∀ w,(sizeOf e).run P w=.ok size w) (A:Option Addr) (n c k:Nat) (hk:k≤n) (i:Int) (hi:i=k) (w:World) :
  (Instr.slice t (.slice A n c) (some (.int .i64 i)) none none).run P w=.ok (.slice (cutA A c k size) (n-k) (c-k)) w:=by
 subst hi
 have he:P.elem t=e:=by simp [Program.elem,ht]
 have ht':P.underlying t=some (.slice (P.elem t)):=by rw [he];exact ht
 rw [run_slice_l w t A n c ht' .i64 (k:Int) (by omega) (by omega),he,hsz]
 simp [Result.andThen,sliced,cutA]
theorem flat_drop {α:Type} (f:α→List Value) (n:Nat) (hn:∀ a,(f a).length=n) (l:List α) (k:Nat):(l.flatMap f).drop (k*n)=(l.drop k).flatMap f:=by
 induction k generalizing l with
 | zero=>simp
 | succ k ih =>
  cases l with
  | nil=>simp
  | cons a l =>
   rw [List.flatMap_cons,List.drop_succ_cons,← ih,Nat.succ_mul,Nat.add_comm,← List.drop_drop,List.drop_left' (hn a)]
theorem run_pre {P:Program} {t e:TypeId} {size:Nat} (ht:P.underlying t=some (.slice e)) (hsz:∀ w,(sizeOf e).run P w=.ok size w) (A:Option Addr) (n c k:Nat) (hk:k≤n) (hc:n≤c) (w:World) :
  (Instr.slice t (.slice A n c) none (some (.int .i64 (k:Int))) none).run P w=.ok (.slice A k c) w:=by
 have he:P.elem t=e:=by simp [Program.elem,ht]
 have ht':P.underlying t=some (.slice (P.elem t)):=by rw [he];exact ht
 rw [run_slice_h w t A n c ht' .i64 (k:Int) (by omega) (by omega),he,hsz]
 have:A.map (fun x=>x.add 0)=A:=by cases A<;>simp [Addr.add]
 simp [Result.andThen,sliced,this]
theorem Sl.suf_ {α:Type} {w:World} {A:Option Addr} {c size:Nat} {f:α→List Value} (hf:∀ a,(f a).length=size) {l:List α} (h:Sl w (.slice A l.length c) l.length (l.flatMap f)) (i:Nat) (hi:i<l.length):Sl w (.slice (cutA A c (i+1) size) (l.length-(i+1)) (c-(i+1))) (l.drop (i+1)).length ((l.drop (i+1)).flatMap f):=by
 obtain ⟨A',c',he,h1,h2,hR⟩:=h
 injection he with e1 e2 e3
 subst e1 e3
 rw [List.length_drop]
 refine ⟨_,_,rfl,by omega,by omega,?_⟩
 rw [← flat_drop f size hf]
 exact hR.cut (by rw [flat_length f size hf];exact Nat.mul_le_mul_right _ h1)
end Go.Proofs.YtnhdmghgjngcaaaGreat
