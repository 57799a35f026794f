import Derived.SizedLaws
import Derived.Test.YtpempeioeiaijaaGreatJ19
import Derived.Test.YtpempeioeiaijaaGreatJ05
set_option linter.unusedSimpArgs false
set_option linter.unusedVariables false
namespace Go.Proofs.YtpempeioeiaijaaGreat
open Go.RowKit Go.ChangeShapes Go.WideShapes Go.Deep Go.Joins

def BdW {H:Type} (P:Program) (t:TypeId) (d:DataW H):Prop:=∀ n∈d.weights P t,n≤reachBytes
section
variable {H:Type} {P:Program}
theorem weightsAll_mem_ {e:TypeId}:∀ {l:List (DataW H)} {d:DataW H},d∈l→∀ n∈d.weights P e,n∈DataW.weightsAll P e l
 | d::l,d',h,n,hn=>by
  unfold DataW.weightsAll
  rcases List.mem_cons.1 h with rfl | h
  · exact List.mem_append_left _ hn
  · exact List.mem_append_right _ (weightsAll_mem_ h n hn)
theorem bd_slice {t e:TypeId} {elems spare:List (DataW H)} (ht:P.underlying t=some (.slice e)) (h:BdW P t (.slice elems spare)):(∀ d∈elems,BdW P e d)∧elems.length*P.bytesOf e≤reachBytes:=by
 unfold BdW DataW.weights at h
 rw [ht] at h
 refine ⟨fun d hd n hn=>h n (List.mem_cons_of_mem _ (List.mem_append_left _ (weightsAll_mem_ hd n hn))),?_⟩
 have:=h _ List.mem_cons_self
 exact Nat.le_trans (Nat.mul_le_mul_right _ (by omega)) this
theorem bd_part {t u:TypeId} {fs:Array Field} {parts:List (DataW H)} {d:DataW H} {j:Nat} (ht:P.underlying t=some (.struct fs)) (h:BdW P t (.agg parts)) (hj:(fs.toList.map (·.type))[j]? = some u) (hd:parts[j]? = some d):BdW P u d:=by
 unfold BdW DataW.weights at h
 rw [ht] at h
 exact fun n hn=>h n (DataW.weights_mem_each hj hd n hn)
end
section
variable {H:Type} {enc:TypeId×Value→H} {w:World} {base:Nat} {spare:Nat→Bool} {held:Bool}
theorem sl_of_sz {P:Program} {α:Type} [Inhabited α] {t e:TypeId} {n:Nat} (f:α→List Value) (Q:α→Prop) (ht:P.underlying t=some (.slice e)) (hc:P.cellsOf e=n) (hn:∀ a,(f a).length=n)
  (hel:∀ m cs x,DataW.trod enc P w base spare held m e cs=some x→BdW P e x.1→∃ a,cs=f a∧Q a) {fuel:Nat} {cs:List Value} {x:DataW H×List MemPlace} (h:DataW.trod enc P w base spare held fuel t cs=some x) (hbd:BdW P t x.1) :
  ∃ l:List α,(∃ v,cs=[v]∧Sl w v l.length (l.flatMap f))∧(∀ a∈l,Q a)∧l.length*P.bytesOf e≤reachBytes:=by
 rcases open_slice ht h with ⟨rfl,_⟩ | ⟨a,len,cap,m,k,D,Pl,rfl,hb,hl,hm,hmm,hx,hi⟩
 · exact ⟨[],⟨_,rfl,none,0,rfl,Nat.le_refl _,by simp [maxLen],Row.nil⟩,(fun _ h=>by cases h),by simp⟩
 ·
  have hlm:len≤m:=by rw [hmm];split<;>omega
  have hbs:=bd_slice ht (hx ▸ hbd)
  obtain ⟨F,hF⟩:=choose_lt (α:=α) (p:=fun i y=>w.cells? base (a.add (i*n)) n=some (f y)∧Q y) (n:=len) (fun i hil=>by
   obtain ⟨cs',h1,h2⟩:=hi i (by omega)
   obtain ⟨y,rfl,hq⟩:=hel _ _ _ h2 (hbs.1 _ (List.mem_map.2 ⟨i,List.mem_range.2 hil,rfl⟩))
   rw [hc] at h1
   exact ⟨y,h1,hq⟩)
  have hlen:((List.range len).map F).length=len:=by simp
  refine ⟨(List.range len).map F,⟨_,rfl,some a,cap,by rw [hlen],by rw [hlen];exact hl,hm,?_⟩,fun y hy=>?_,?_⟩
  ·
   intro hne
   have hfl:=flat_length f n hn ((List.range len).map F)
   rw [hlen] at hfl
   have hpos:0<len*n:=by
    rcases Nat.eq_zero_or_pos (len*n) with h0 | h0
    · exact absurd (List.eq_nil_of_length_eq_zero (by omega)) hne
    · exact h0
   have hn0:0<n:=Nat.pos_of_mul_pos_left hpos
   have key:∀ j,j<len*n→w.cell? (a.add j)=(((List.range len).map F).flatMap f)[j]? := fun j hj=>by
    have h1:j / n<len:=Nat.div_lt_of_lt_mul (by rw [Nat.mul_comm];exact hj)
    have h2:j % n<n:=Nat.mod_lt _ hn0
    have h3:=flat_get f n hn ((List.range len).map F) (j / n) (j % n) (by rw [hlen];exact h1) h2
    rw [Nat.div_add_mod'] at h3
    have h4:=(World.cells?_some (hF (j / n) h1).1).2.2 (j % n) h2
    rw [Go.Deep.add_add,Nat.div_add_mod'] at h4
    rw [h4,h3]
    simp
   have h00:=key 0 hpos
   obtain ⟨b,o,spot⟩:=a
   have hex:∃ v,w.cell? (Addr.add ⟨b,o,spot⟩ 0)=some v:=by
    rw [h00,List.getElem?_eq_getElem (by omega)]
    exact ⟨_,rfl⟩
   obtain ⟨v0,hv0⟩:=hex
   have hspot:spot=none:=by simpa [Addr.add] using World.cell?_spot hv0
   subst hspot
   refine ⟨b,o,rfl,?_,fun j v hj=>?_⟩
   ·
    have:=World.block_lt_of_cell? w _ hv0
    simpa [Addr.add] using this
   ·
    have hjl:j<len*n:=by
     rcases Nat.lt_or_ge j (len*n) with h' | h'
     · exact h'
     · rw [List.getElem?_eq_none (by omega)] at hj;cases hj
    rw [← Go.WideShapes.add_plain,key j hjl]
    exact hj
  ·
   obtain ⟨i,hi',rfl⟩:=List.mem_map.1 hy
   exact (hF i (List.mem_range.1 hi')).2
  ·
   rw [hlen]
   have h2:=hbs.2
   rw [List.length_map,List.length_range] at h2
   exact h2

theorem trod_struct6x {P:Program} {t:TypeId} {f0 f1 f2 f3 f4 f5:Field} {fuel:Nat} {cs:List Value} {x:DataW H×List MemPlace} (ht:P.underlying t=some (.struct #[f0,f1,f2,f3,f4,f5])) (h:DataW.trod enc P w base spare held fuel t cs=some x) :
  ∃ (y0 y1 y2 y3 y4 y5:DataW H×List MemPlace) (n:Nat),x.1=.agg [y0.1,y1.1,y2.1,y3.1,y4.1,y5.1]∧cs.length=P.cellsOf t∧DataW.trod enc P w base spare held n f0.type ((cs.drop f0.offset).take (P.cellsOf f0.type))=some y0∧DataW.trod enc P w base spare held n f1.type ((cs.drop f1.offset).take (P.cellsOf f1.type))=some y1∧DataW.trod enc P w base spare held n f2.type ((cs.drop f2.offset).take (P.cellsOf f2.type))=some y2∧DataW.trod enc P w base spare held n f3.type ((cs.drop f3.offset).take (P.cellsOf f3.type))=some y3∧DataW.trod enc P w base spare held n f4.type ((cs.drop f4.offset).take (P.cellsOf f4.type))=some y4∧DataW.trod enc P w base spare held n f5.type ((cs.drop f5.offset).take (P.cellsOf f5.type))=some y5:=by
 obtain ⟨xs,n,_,hx,hl,hlen,hf⟩:=DataW.trod_struct ht h
 match xs,hlen with
 | [y0,y1,y2,y3,y4,y5],_=>exact ⟨y0,y1,y2,y3,y4,y5,n,by rw [hx];rfl,hl,by simpa using hf 0 f0 rfl,by simpa using hf 1 f1 rfl,by simpa using hf 2 f2 rfl,by simpa using hf 3 f3 rfl,by simpa using hf 4 f4 rfl,by simpa using hf 5 f5 rfl⟩
theorem trod_pts_sz {fuel:Nat} {cs:List Value} {x:DataW H×List MemPlace} (h:DataW.trod enc Tryz.prog w base spare held fuel 25 cs=some x) (hb:BdW Tryz.prog 25 x.1):∃ l:List Pt,(∃ v,cs=[v]∧Pts w v l)∧(∀ p∈l,wfPt p)∧l.length≤8796093022208:=by
 obtain ⟨l,h1,h2,h3⟩:=sl_of_sz ptC wfPt Tryz.underlying25 c_pt ptC_len (fun _ _ _ h _=>trod_pt h) h hb
 rw [show Tryz.prog.bytesOf 42=16 by kernel_rfl] at h3
 have h4:reachBytes<140737488355328:=by have:=reachBytes_lt;omega
 exact ⟨l,h1,h2,by omega⟩
def wfArS (a:Ar):Prop:=wfAr a∧a.via.length≤8796093022208
set_option maxRecDepth 100000 in
theorem trod_ar_sz {fuel:Nat} {cs:List Value} {x:DataW H×List MemPlace} (h:DataW.trod enc Tryz.prog w base spare held fuel 50 cs=some x) (hb:BdW Tryz.prog 50 x.1):∃ p:Ar×Value,cs=arC p∧Pts w p.2 p.1.via∧wfArS p.1:=by
 obtain ⟨y0,y1,y2,y3,y4,y5,n,hx,hl,h0,h1,h2,h3,h4,h5⟩:=trod_struct6x Tryz.underlying50 h
 rw [hx] at hb
 have hb3:=bd_part (j:=3) Tryz.underlying50 hb rfl rfl
 rw [c_ar] at hl
 obtain ⟨c0,c1,c2,c3,c4,c5,rfl⟩:=lst6 hl
 simp only [c_int,c_pts,List.drop_zero,List.drop_succ_cons,List.take_succ_cons,List.take_zero] at h0 h1 h2 h3 h4 h5
 obtain ⟨a0,e0,k0⟩:=trod_in h0
 obtain ⟨a1,e1,k1⟩:=trod_in h1
 obtain ⟨a2,e2,k2⟩:=trod_in h2
 obtain ⟨l,⟨v,e3,hv⟩,k3,k6⟩:=trod_pts_sz h3 hb3
 obtain ⟨a4,e4,k4⟩:=trod_in h4
 obtain ⟨a5,e5,k5⟩:=trod_in h5
 simp only [inC,List.cons.injEq,and_true] at e0 e1 e2 e3 e4 e5
 subst e0 e1 e2 e3 e4 e5
 exact ⟨(⟨a0,a1,a2,l,a4,a5⟩,c3),rfl,hv,⟨k0,k1,k2,k4,k5,k3⟩,k6⟩
set_option maxRecDepth 100000 in
theorem PlV.of_trod_sz {r:Reach} {b0:Nat} {v:Value} {d:DataW H} {ps:List MemPlace} (hv:Value.okWide Tryz.prog w r b0 34 v) (h:DataW.Trod enc Tryz.prog w base spare held 34 v d ps) (hb:BdW Tryz.prog 34 d):∃ p,PlV w v p∧wfPl p∧ShortL p:=by
 obtain ⟨v0,v1,v2,y0,y1,y2,n,rfl,rfl,-,h0,h1,h2⟩:=open_agg3 Tryz.underlying34 (by kernel_rfl) c_pl hv h
 have hb1:=bd_part (j:=1) Tryz.underlying34 hb rfl rfl
 obtain ⟨nl,⟨u0,e0,hn⟩,wn⟩:=sl_of ndC wfNd Tryz.underlying30 c_nd ndC_len (fun _ _ _ h=>trod_nd h) h0
 obtain ⟨al,⟨u1,e1,ha⟩,wa,-⟩:=sl_of_sz arC (fun x=>Pts w x.2 x.1.via∧wfArS x.1) Tryz.underlying31 c_ar arC_len (fun _ _ _ h hb=>trod_ar_sz h hb) h1 hb1
 obtain ⟨fl,⟨u2,e2,hf⟩,wf⟩:=sl_of inC wfI Tryz.underlying32 c_int inC_len (fun _ _ _ h=>trod_in h) h2
 simp only [List.cons.injEq,and_true] at e0 e1 e2
 subst e0 e1 e2
 refine ⟨⟨nl,al.map (·.1),fl⟩,⟨v0,v1,v2,al,rfl,rfl,hn,⟨ha,fun k hk=>(wa _ (List.getElem_mem hk)).1⟩,hf⟩,⟨wn,fun a ha=>?_,wf⟩,fun a ha=>?_⟩
 ·
  obtain ⟨x,hx,rfl⟩:=List.mem_map.1 ha
  exact (wa x hx).2.1
 ·
  obtain ⟨x,hx,rfl⟩:=List.mem_map.1 ha
  exact (wa x hx).2.2
end
end Go.Proofs.YtpempeioeiaijaaGreat
