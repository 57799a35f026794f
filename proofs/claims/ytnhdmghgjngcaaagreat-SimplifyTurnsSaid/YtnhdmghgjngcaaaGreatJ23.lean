import Derived.Test.YtnhdmghgjngcaaaGreatJ16
set_option linter.unusedSimpArgs false
set_option linter.unusedVariables false
namespace Go.Proofs.YtnhdmghgjngcaaaGreat
open Go.RowKit

theorem SepV.symm {u v:Value} (h:SepV u v):SepV v u:=fun g hg e=>h g e hg
theorem pair_at {α:Type} {R:α→α→Prop} (hs:∀ a b,R a b→R b a) {l:List α} (h:l.Pairwise R) {i j:Nat} (hi:i<l.length) (hj:j<l.length) (hne:i≠j):R l[i] l[j]:=by
 rw [List.pairwise_iff_getElem] at h
 by_cases c:i<j
 · exact h i j hi hj c
 · exact hs _ _ (h j i hj hi (by omega))
theorem mem_set_at {α:Type} {l:List α} {i:Nat} {y x:α} (h:x∈l.set i y):(x=y∧i<l.length)∨∃ j,∃ hj:j<l.length,j≠i∧x=l[j]:=by
 obtain ⟨j,hj,rfl⟩:=List.mem_iff_getElem.1 h
 have hj':j<l.length:=by simpa using hj
 rw [List.getElem_set]
 by_cases e:i=j
 · subst e;rw [if_pos rfl];exact .inl ⟨rfl,hj'⟩
 · rw [if_neg e];exact .inr ⟨j,hj',fun h=>e h.symm,rfl⟩
theorem AdT.read {e:TypeId} {w0 w:World} {B:Nat} {v:Value} {L:List AD} (h:AdT e w0 w B v L) (hb:Below w0.heap.size w0 w):AdR w v L:=⟨h.own.sl,fun x hx=>(h.out x hx).mono hb⟩
theorem Own.row_of {α:Type} {f:α→List Value} {w:World} {base:Nat} {e:TypeId} {size:Nat} {A:Option Addr} {n c:Nat} {l:List α} (h:Own w base e size f (.slice A n c) l):Row w A (l.flatMap f):=by
 obtain ⟨A',c',he,-,-,hr⟩:=h.sl
 injection he with e1 e2 e3
 subst e1
 exact hr
theorem Own.ad_cell {e:TypeId} {w:World} {B:Nat} {A:Option Addr} {n c:Nat} {L:List AD} (h:Own w B e 4 adC (.slice A n c) L) (hl:0<L.length):∃ g,A=some ⟨g,0,none⟩∧B≤g∧g<w.heap.size∧(∀ j,w.frozen? ⟨g,j,none⟩=false) ∧
  ∀ k (hk:k<L.length),w.cell? ⟨g,k*4,none⟩=some (.int .i64 L[k].tw)∧w.cell? ⟨g,k*4+1,none⟩=some (svV L[k].ov)∧w.cell? ⟨g,k*4+2,none⟩=some (svV L[k].iv)∧w.cell? ⟨g,k*4+3,none⟩=some (svV L[k].av):=by
 have hr:=h.row_of
 rcases h.2 with ⟨_,h0⟩ | ⟨g,cap,cur,hv,hg,hh,-⟩
 · omega
 ·
  injection hv with e1 e2 e3
  subst e1
  refine ⟨g,rfl,hg,Blk.lt hh,fun j=>Blk.frozen hh j,fun k hk=>?_⟩
  obtain ⟨b,o,hbo,-,c0,c1,c2,c3⟩:=hr.ad hk
  injection hbo with hbo
  injection hbo with y1 y2 _
  subst y1 y2
  simp only [Nat.zero_add] at c0 c1 c2 c3
  exact ⟨c0,c1,c2,c3⟩
structure AdF (w:World) (v:Value) (L:List AD):Prop where
 sl:Sl w v L.length (L.flatMap adC)
 out:∀ x∈L,Ints w (svV x.ov) x.out
 inn:∀ x∈L,Sl w (svV x.iv) x.inn.length (x.inn.flatMap cyC)
 cyc:∀ x∈L,∀ c∈x.inn,Ints w (svV c.2) c.1
 alo:∀ x∈L,Ints w (svV x.av) x.alo
theorem AdF.mono {w w':World} {v:Value} {L:List AD} (h:AdF w v L) (hb:Below w.heap.size w w'):AdF w' v L :=
 ⟨h.sl.mono hb,fun x hx=>(h.out x hx).mono hb,fun x hx=>(h.inn x hx).mono hb,fun x hx c hc=>(h.cyc x hx c hc).mono hb,fun x hx=>(h.alo x hx).mono hb⟩
theorem AdT.full {e:TypeId} {w0 w:World} {B:Nat} {v:Value} {L:List AD} (h:AdT e w0 w B v L) (hb:Below w0.heap.size w0 w):AdF w v L :=
 ⟨h.own.sl,fun x hx=>(h.out x hx).mono hb,fun x hx=>(h.inn x hx).sl,fun x hx c hc=>(h.cyc x hx c hc).mono hb,fun x hx=>(h.alo x hx).sl⟩
theorem AdT.more {e:TypeId} (he:e≠24∧e≠3) {w0 w w1:World} {B:Nat} {v v':Value} {L:List AD} (h:AdT e w0 w B v L) {x:AD} (ho:Own w1 B e 4 adC v' (L++[x])) (hg:w.grownBy w1 v.ownBlock)
  (hx:Ints w0 (svV x.ov) x.out) (h1:x.inn=[]) (h2:x.iv=sv0) (h3:x.alo=[]) (h4:x.av=sv0):AdT e w0 w1 B v' (L++[x]):=by
 have s0:∀ u,SepV u (svV sv0):=fun u g _ e=>by cases e
 refine ⟨ho,fun y hy=>?_,fun y hy=>?_,fun y hy=>?_,fun y hy=>?_,?_,?_⟩
 ·
  rcases List.mem_append.1 hy with hy | hy
  · exact h.out y hy
  · rw [List.mem_singleton] at hy;subst hy;exact hx
 ·
  rcases List.mem_append.1 hy with hy | hy
  · exact Own.grown (h.inn y hy) hg (fun g hg'=>Own.apart (h.inn y hy) h.own he.1.symm g hg')
  ·
   rw [List.mem_singleton] at hy;subst hy
   rw [h1,h2];exact Own.nil _ _ _ _ _
 ·
  rcases List.mem_append.1 hy with hy | hy
  · exact h.cyc y hy
  ·
   rw [List.mem_singleton] at hy;subst hy
   rw [h1];intro c hc;cases hc
 ·
  rcases List.mem_append.1 hy with hy | hy
  · exact Own.grown (h.alo y hy) hg (fun g hg'=>Own.apart (h.alo y hy) h.own he.2.symm g hg')
  ·
   rw [List.mem_singleton] at hy;subst hy
   rw [h3,h4];exact Own.nil _ _ _ _ _
 ·
  rw [List.pairwise_append]
  refine ⟨h.sepI,List.pairwise_singleton _ _,fun a _ b hb=>?_⟩
  rw [List.mem_singleton] at hb;subst hb
  rw [h2];exact s0 _
 ·
  rw [List.pairwise_append]
  refine ⟨h.sepA,List.pairwise_singleton _ _,fun a _ b hb=>?_⟩
  rw [List.mem_singleton] at hb;subst hb
  rw [h4];exact s0 _
theorem AdT.grownZ {e:TypeId} (he:e≠24∧e≠3) {w0 w w1:World} {B B':Nat} {v u:Value} {L:List AD} {R:List (List Int×SV)} (h:AdT e w0 w B v L) (hg:w.grownBy w1 u.ownBlock) (hu:Own w B' 24 1 cyC u R) (hz:∀ x∈L,x.iv=sv0):AdT e w0 w1 B v L:=by
 refine ⟨Own.grown h.own hg (fun g hg'=>Own.apart h.own hu he.1 g hg'),h.out,fun x hx=>?_,h.cyc,fun x hx=>Own.grown (h.alo x hx) hg (fun g hg'=>Own.apart (h.alo x hx) hu (by decide) g hg'),h.sepI,h.sepA⟩
 refine Own.grown (h.inn x hx) hg (fun g hg'=>?_)
 rw [hz x hx] at hg'
 cases hg'
theorem AdT.setInn {e:TypeId} (he:e≠24∧e≠3) {w0 w w1:World} {B g n cc:Nat} {L:List AD} (h:AdT e w0 w B (.slice (some ⟨g,0,none⟩) n cc) L) {i:Nat} (hi:i<L.length) {iv':SV} {c:List Int×SV}
  (ho:Own w1 B 24 1 cyC (svV iv') (L[i].inn++[c])) (hg:w.grownBy w1 (svV L[i].iv).ownBlock) (hat:(svV iv').ownBlock=(svV L[i].iv).ownBlock∨(svV iv').ownBlock=some w.heap.size) (hc:Ints w0 (svV c.2) c.1) :
  AdT e w0 (w1.setCell ⟨g,i*4+2,none⟩ (svV iv')) B (.slice (some ⟨g,0,none⟩) n cc) (L.set i {L[i] with inn:=L[i].inn++[c],iv:=iv'}):=by
 have hgv:(Value.slice (some ⟨g,0,none⟩) n cc).ownBlock=some g:=rfl
 have hm:=List.getElem_mem hi
 have own1:Own w1 B e 4 adC (.slice (some ⟨g,0,none⟩) n cc) L:=Own.grown h.own hg (fun g' hg'=>Own.apart h.own (h.inn _ hm) he.1 g' hg')
 have far1:∀ {b:Nat} {e9:TypeId} {s:Nat} {α:Type} {f:α→List Value} {v:Value} {l:List α},Own w1 b e9 s f v l→e9≠e→Own (w1.setCell ⟨g,i*4+2,none⟩ (svV iv')) b e9 s f v l:=fun h9 hne=>Own.far h9 (fun e8=>Own.apart h9 own1 hne g e8 hgv.symm) _
 have sep1:∀ j (hj:j<L.length),j≠i→SepV (svV L[j].iv) (svV iv'):=fun j hj hji g' hg' e=>by
  rcases hat with h9 | h9
  ·
   rw [h9] at e
   exact pair_at (fun a b=>SepV.symm) h.sepI hj hi hji g' hg' e
  ·
   rw [h9] at e
   have:=((h.inn _ (List.getElem_mem hj)).lt g' hg').2
   have:=Option.some.inj e
   omega
 refine ⟨Own.put_cell adC_len own1 hi (by omega) _ _ rfl,fun x hx=>?_,fun x hx=>?_,fun x hx=>?_,fun x hx=>?_,?_,?_⟩
 ·
  rcases mem_set_at hx with ⟨rfl,_⟩ | ⟨j,hj,_,rfl⟩
  · exact h.out L[i] hm
  · exact h.out _ (List.getElem_mem hj)
 ·
  rcases mem_set_at hx with ⟨rfl,_⟩ | ⟨j,hj,hji,rfl⟩
  · exact far1 ho he.1.symm
  · exact far1 (Own.grown (h.inn _ (List.getElem_mem hj)) hg (fun g' hg' e=>pair_at (fun a b=>SepV.symm) h.sepI hj hi hji g' hg' e.symm)) he.1.symm
 ·
  rcases mem_set_at hx with ⟨rfl,_⟩ | ⟨j,hj,_,rfl⟩
  ·
   intro d hd
   rcases List.mem_append.1 hd with hd | hd
   · exact h.cyc L[i] hm d hd
   · rw [List.mem_singleton] at hd;subst hd;exact hc
  · exact h.cyc _ (List.getElem_mem hj)
 ·
  have:∀ y∈L,Own (w1.setCell ⟨g,i*4+2,none⟩ (svV iv')) B 3 1 inC (svV y.av) y.alo:=fun y hy=>far1 (Own.grown (h.alo y hy) hg (fun g' hg'=>Own.apart (h.alo y hy) (h.inn _ hm) (by decide) g' hg')) he.2.symm
  rcases mem_set_at hx with ⟨rfl,_⟩ | ⟨j,hj,_,rfl⟩
  · exact this L[i] hm
  · exact this _ (List.getElem_mem hj)
 ·
  rw [List.pairwise_iff_getElem]
  intro a b ha hb hab
  simp only [List.length_set] at ha hb
  rw [List.getElem_set,List.getElem_set]
  by_cases e1:i=a
  ·
   subst e1
   rw [if_pos rfl,if_neg (by omega)]
   exact (sep1 b hb (by omega)).symm
  ·
   rw [if_neg e1]
   by_cases e2:i=b
   ·
    subst e2
    rw [if_pos rfl]
    exact sep1 a ha (by omega)
   ·
    rw [if_neg e2]
    exact pair_at (fun a b=>SepV.symm) h.sepI ha hb (by omega)
 ·
  have e:(L.set i {L[i] with inn:=L[i].inn++[c],iv:=iv'}).map (·.av)=L.map (·.av):=by
   apply List.ext_getElem (by simp)
   intro j h1 h2
   rw [List.getElem_map,List.getElem_map,List.getElem_set]
   split
   · rename_i e;subst e;rfl
   · rfl
  have hp:(L.map (·.av)).Pairwise (fun x y=>SepV (svV x) (svV y)):=List.pairwise_map.2 h.sepA
  rw [← e] at hp
  exact (List.pairwise_map (f:=fun x:AD=>x.av) (R:=fun x y=>SepV (svV x) (svV y))).1 hp
theorem AdT.setAlo {e:TypeId} (he:e≠24∧e≠3) {w0 w w1:World} {B g n cc:Nat} {L:List AD} (h:AdT e w0 w B (.slice (some ⟨g,0,none⟩) n cc) L) {i:Nat} (hi:i<L.length) {av':SV} {c:Int}
  (ho:Own w1 B 3 1 inC (svV av') (L[i].alo++[c])) (hg:w.grownBy w1 (svV L[i].av).ownBlock) (hat:(svV av').ownBlock=(svV L[i].av).ownBlock∨(svV av').ownBlock=some w.heap.size) :
  AdT e w0 (w1.setCell ⟨g,i*4+3,none⟩ (svV av')) B (.slice (some ⟨g,0,none⟩) n cc) (L.set i {L[i] with alo:=L[i].alo++[c],av:=av'}):=by
 have hgv:(Value.slice (some ⟨g,0,none⟩) n cc).ownBlock=some g:=rfl
 have hm:=List.getElem_mem hi
 have own1:Own w1 B e 4 adC (.slice (some ⟨g,0,none⟩) n cc) L:=Own.grown h.own hg (fun g' hg'=>Own.apart h.own (h.alo _ hm) he.2 g' hg')
 have far1:∀ {b:Nat} {e9:TypeId} {s:Nat} {α:Type} {f:α→List Value} {v:Value} {l:List α},Own w1 b e9 s f v l→e9≠e→Own (w1.setCell ⟨g,i*4+3,none⟩ (svV av')) b e9 s f v l:=fun h9 hne=>Own.far h9 (fun e8=>Own.apart h9 own1 hne g e8 hgv.symm) _
 have sep1:∀ j (hj:j<L.length),j≠i→SepV (svV L[j].av) (svV av'):=fun j hj hji g' hg' e=>by
  rcases hat with h9 | h9
  ·
   rw [h9] at e
   exact pair_at (fun a b=>SepV.symm) h.sepA hj hi hji g' hg' e
  ·
   rw [h9] at e
   have:=((h.alo _ (List.getElem_mem hj)).lt g' hg').2
   have:=Option.some.inj e
   omega
 refine ⟨Own.put_cell adC_len own1 hi (by omega) _ _ rfl,fun x hx=>?_,fun x hx=>?_,fun x hx=>?_,fun x hx=>?_,?_,?_⟩
 ·
  rcases mem_set_at hx with ⟨rfl,_⟩ | ⟨j,hj,_,rfl⟩
  · exact h.out L[i] hm
  · exact h.out _ (List.getElem_mem hj)
 ·
  have:∀ y∈L,Own (w1.setCell ⟨g,i*4+3,none⟩ (svV av')) B 24 1 cyC (svV y.iv) y.inn:=fun y hy=>far1 (Own.grown (h.inn y hy) hg (fun g' hg'=>Own.apart (h.inn y hy) (h.alo _ hm) (by decide) g' hg')) he.1.symm
  rcases mem_set_at hx with ⟨rfl,_⟩ | ⟨j,hj,hji,rfl⟩
  · exact this L[i] hm
  · exact this _ (List.getElem_mem hj)
 ·
  rcases mem_set_at hx with ⟨rfl,_⟩ | ⟨j,hj,_,rfl⟩
  · exact h.cyc L[i] hm
  · exact h.cyc _ (List.getElem_mem hj)
 ·
  rcases mem_set_at hx with ⟨rfl,_⟩ | ⟨j,hj,hji,rfl⟩
  · exact far1 ho he.2.symm
  · exact far1 (Own.grown (h.alo _ (List.getElem_mem hj)) hg (fun g' hg' e=>pair_at (fun a b=>SepV.symm) h.sepA hj hi hji g' hg' e.symm)) he.2.symm
 ·
  have e:(L.set i {L[i] with alo:=L[i].alo++[c],av:=av'}).map (·.iv)=L.map (·.iv):=by
   apply List.ext_getElem (by simp)
   intro j h1 h2
   rw [List.getElem_map,List.getElem_map,List.getElem_set]
   split
   · rename_i e;subst e;rfl
   · rfl
  have hp:(L.map (·.iv)).Pairwise (fun x y=>SepV (svV x) (svV y)):=List.pairwise_map.2 h.sepI
  rw [← e] at hp
  exact (List.pairwise_map (f:=fun x:AD=>x.iv) (R:=fun x y=>SepV (svV x) (svV y))).1 hp
 ·
  rw [List.pairwise_iff_getElem]
  intro a b ha hb hab
  simp only [List.length_set] at ha hb
  rw [List.getElem_set,List.getElem_set]
  by_cases e1:i=a
  ·
   subst e1
   rw [if_pos rfl,if_neg (by omega)]
   exact (sep1 b hb (by omega)).symm
  ·
   rw [if_neg e1]
   by_cases e2:i=b
   ·
    subst e2
    rw [if_pos rfl]
    exact sep1 a ha (by omega)
   ·
    rw [if_neg e2]
    exact pair_at (fun a b=>SepV.symm) h.sepA ha hb (by omega)
end Go.Proofs.YtnhdmghgjngcaaaGreat
