import Derived.SizedLaws
import Derived.Test.YtialfdomhoojiaaGreatQJ24
import Derived.Test.YtialfdomhoojiaaGreatQJ10
import Derived.ProofKit
import Derived.Test.YtialfdomhoojiaaGreatChecked
set_option linter.unusedSimpArgs false
set_option linter.unusedVariables false
set_option maxRecDepth 100000
namespace Go.Proofs.YtialfdomhoojiaaGreat
open Go.RowKit Go.ChangeShapes Go.WideShapes Go.Deep Go.Joins
def XI {H:Type} (P:Program) (t:TypeId) (d:DataW H):Prop:=∀ n∈d.weights P t,n<=reachBytes
section
variable {H:Type} {P:Program}
theorem amY {e:TypeId}:∀ {l:List (DataW H)} {d:DataW H},d∈l->∀ n∈d.weights P e,n∈DataW.weightsAll P e l
 | d::l,d',h,n,hn=>by
  unfold DataW.weightsAll;rcases EW.1 h with rfl | h
  · exact O9 _ hn
  · exact YI _ (amY h n hn)
theorem ayH {t e:TypeId} {elems spare:List (DataW H)} (ht:P.underlying t=some (.slice e)) (h:XI P t (.slice elems spare)):(∀ d∈elems,XI P e d)/\elems.length*P.bytesOf e<=reachBytes:=by
 unfold XI DataW.weights at h;rw [ht] at h;refine ⟨fun d hd n hn=>h n (I7 _ (O9 _ (amY hd n hn))),?_⟩;have:=h _ Eu
 exact EH (lq _ AB) this
theorem amZ {t u:TypeId} {fs:Array Field} {parts:List (DataW H)} {d:DataW H} {j:Nat} (ht:P.underlying t=some (.struct fs)) (h:XI P t (.agg parts)) (hj:(fs.toList.map (·.type))[j]? = some u) (hd:parts[j]? = some d):XI P u d:=by
 unfold XI DataW.weights at h;rw [ht] at h;exact fun n hn=>h n (DataW.weights_mem_each hj hd n hn)
end
section
variable {H:Type} {enc:TypeId×Value->H} {w:World} {base:Nat} {spare:Nat->Bool} {held:Bool}
theorem ama {P:Program} {α:Type} [Inhabited α] {t e:TypeId} {n:Nat} (f:α->List Value) (Q:α->Prop) (ht:P.underlying t=some (.slice e)) (hc:P.cellsOf e=n) (hn:∀ a,(f a).length=n)
  (hel:∀ m cs x,DataW.trod enc P w base spare held m e cs=some x->XI P e x.1->∃ a,cs=f a/\Q a) {fuel:Nat} {cs:List Value} {x:DataW H×List MemPlace} (h:DataW.trod enc P w base spare held fuel t cs=some x) (hbd:XI P t x.1) :
  ∃ l:List α,(∃ v,cs=[v]/\Sl w v l.length (l.flatMap f))/\(∀ a∈l,Q a)/\l.length*P.bytesOf e<=reachBytes:=by
 rcases open_slice ht h with ⟨rfl,_⟩ | ⟨a,len,cap,m,k,D,Pl,rfl,hb,hl,hm,hmm,hx,hi⟩
 · exact ⟨[],⟨_,rfl,none,0,rfl,Dc _,by simp [maxLen],Row.nil⟩,(fun _ h=>by cases h),Ak⟩
 ·have hlm:len<=m:=by rw [hmm];split<;>omega
  have hbs:=ayH ht (hx ▸ hbd);obtain ⟨F,hF⟩:=choose_lt (α:=α) (p:=fun i y=>w.cells? base (a.add (i*n)) n=some (f y)/\Q y) (n:=len) (fun i hil=>by
   obtain ⟨cs',h1,h2⟩:=hi i AB;obtain ⟨y,rfl,hq⟩:=hel _ _ _ h2 (hbs.1 _ (ED.2 ⟨i,Et.2 hil,rfl⟩));rw [hc] at h1;exact ⟨y,h1,hq⟩)
  have hlen:((List.range len).map F).length=len:=by simp
  refine ⟨(List.range len).map F,⟨_,rfl,some a,cap,by rw [hlen],by rw [hlen];exact hl,hm,?_⟩,fun y hy=>?_,?_⟩
  ·intro hne;have hfl:=flat_length f n hn ((List.range len).map F);rw [hlen] at hfl;have hpos:0<len*n:=by
    rcases YG (len*n) with h0 | h0
    · exact absurd (lu AB) hne
    · exact h0
   have hn0:0<n:=Nat.pos_of_mul_pos_left hpos;have key:∀ j,j<len*n->w.cell? (a.add j)=(((List.range len).map F).flatMap f)[j]? := fun j hj=>by
    have h1:j / n<len:=aaj (by rw [rX];exact hj);have h2:j % n<n:=UC _ hn0;have h3:=flat_get f n hn ((List.range len).map F) (j / n) (j % n) (by rw [hlen];exact h1) h2;rw [rY] at h3;have h4:=(World.cells?_some (hF (j / n) h1).1).2.2 (j % n) h2;rw [Go.Deep.add_add,rY] at h4;rw [h4,h3];simp
   have h00:=key 0 hpos;obtain ⟨b,o,spot⟩:=a;have hex:∃ v,w.cell? (Addr.add ⟨b,o,spot⟩ 0)=some v:=by
    rw [h00,Dh AB];exact ⟨_,rfl⟩
   obtain ⟨v0,hv0⟩:=hex;have hspot:spot=none:=by simpa [Addr.add] using World.cell?_spot hv0
   subst hspot;refine ⟨b,o,rfl,?_,fun j v hj=>?_⟩
   ·have:=World.block_lt_of_cell? w _ hv0
    simpa [Addr.add] using this
   ·have hjl:j<len*n:=by
     rcases rU j (len*n) with h' | h'
     · exact h'
     · rw [YN AB] at hj;cases hj
    rw [<- Go.WideShapes.add_plain,key j hjl];exact hj
  ·obtain ⟨i,hi',rfl⟩:=ED.1 hy;exact (hF i (Et.1 hi')).2
  ·rw [hlen];have h2:=hbs.2;rw [Cj,PO] at h2;exact h2
theorem ayI {P:Program} {t:TypeId} {f0 f1 f2 f3 f4 f5:Field} {fuel:Nat} {cs:List Value} {x:DataW H×List MemPlace} (ht:P.underlying t=some (.struct #[f0,f1,f2,f3,f4,f5])) (h:DataW.trod enc P w base spare held fuel t cs=some x) :
  ∃ (y0 y1 y2 y3 y4 y5:DataW H×List MemPlace) (n:Nat),x.1=.agg [y0.1,y1.1,y2.1,y3.1,y4.1,y5.1]/\cs.length=P.cellsOf t/\DataW.trod enc P w base spare held n f0.type ((cs.drop f0.offset).take (P.cellsOf f0.type))=some y0/\DataW.trod enc P w base spare held n f1.type ((cs.drop f1.offset).take (P.cellsOf f1.type))=some y1/\DataW.trod enc P w base spare held n f2.type ((cs.drop f2.offset).take (P.cellsOf f2.type))=some y2/\DataW.trod enc P w base spare held n f3.type ((cs.drop f3.offset).take (P.cellsOf f3.type))=some y3/\DataW.trod enc P w base spare held n f4.type ((cs.drop f4.offset).take (P.cellsOf f4.type))=some y4/\DataW.trod enc P w base spare held n f5.type ((cs.drop f5.offset).take (P.cellsOf f5.type))=some y5:=by
 obtain ⟨xs,n,_,hx,hl,hlen,hf⟩:=DataW.trod_struct ht h
 match xs,hlen with
 | [y0,y1,y2,y3,y4,y5],_=>exact ⟨y0,y1,y2,y3,y4,y5,n,by rw [hx];rfl,hl,by simpa using hf 0 f0 rfl,by simpa using hf 1 f1 rfl,by simpa using hf 2 f2 rfl,by simpa using hf 3 f3 rfl,by simpa using hf 4 f4 rfl,by simpa using hf 5 f5 rfl⟩
theorem ayJ {fuel:Nat} {cs:List Value} {x:DataW H×List MemPlace} (h:DataW.trod enc Tryz.prog w base spare held fuel 46 cs=some x) (hb:XI Tryz.prog 46 x.1):∃ l:List Pt,(∃ v,cs=[v]/\Dv w v l)/\(∀ p∈l,zh p)/\l.length<=8796093022208:=by
 obtain ⟨l,h1,h2,h3⟩:=ama Ee zh Tryz.underlying46 adf KJ (fun _ _ _ h _=>ajT h) h hb;rw [show Tryz.prog.bytesOf 39=16 by kernel_rfl] at h3;have h4:reachBytes<140737488355328:=by have:=reachBytes_lt;omega
 exact ⟨l,h1,h2,AB⟩
def amb (a:Ar):Prop:=ajz a/\a.via.length<=8796093022208
theorem ayK {fuel:Nat} {cs:List Value} {x:DataW H×List MemPlace} (h:DataW.trod enc Tryz.prog w base spare held fuel 50 cs=some x) (hb:XI Tryz.prog 50 x.1):∃ p:Ar×Value,cs=iy p/\Dv w p.2 p.1.via/\amb p.1:=by
 obtain ⟨y0,y1,y2,y3,y4,y5,n,hx,hl,h0,h1,h2,h3,h4,h5⟩:=ayI Tryz.underlying50 h;rw [hx] at hb;have hb3:=amZ (j:=3) Tryz.underlying50 hb rfl rfl;rw [ak2] at hl;obtain ⟨c0,c1,c2,c3,c4,c5,rfl⟩:=au2 hl;simp only [aaY,au4,sG,abV,abW,O8] at h0 h1 h2 h3 h4 h5;obtain ⟨a0,e0,k0⟩:=Zn h0;obtain ⟨a1,e1,k1⟩:=Zn h1;obtain ⟨a2,e2,k2⟩:=Zn h2;obtain ⟨l,⟨v,e3,hv⟩,k3,k6⟩:=ayJ h3 hb3;obtain ⟨a4,e4,k4⟩:=Zn h4;obtain ⟨a5,e5,k5⟩:=Zn h5;simp only [DR,List.cons.injEq,and_true] at e0 e1 e2 e3 e4 e5;subst e0 e1 e2 e3 e4 e5;exact ⟨(⟨a0,a1,a2,l,a4,a5⟩,c3),rfl,hv,⟨k0,k1,k2,k4,k5,k3⟩,k6⟩
theorem Ci.ayL {r:Reach} {b0:Nat} {v:Value} {d:DataW H} {ps:List MemPlace} (hv:Value.okWide Tryz.prog w r b0 26 v) (h:DataW.Trod enc Tryz.prog w base spare held 26 v d ps) (hb:XI Tryz.prog 26 d):∃ p,Ci w v p/\atz p/\jX p:=by
 obtain ⟨v0,v1,v2,y0,y1,y2,n,rfl,rfl,-,h0,h1,h2⟩:=open_agg3 Tryz.underlying26 I8 au3 hv h;have hb1:=amZ (j:=1) Tryz.underlying26 hb rfl rfl;obtain ⟨nl,⟨u0,e0,hn⟩,wn⟩:=ak0 QY ade Tryz.underlying22 ak1 aAY (fun _ _ _ h=>au5 h) h0;obtain ⟨al,⟨u1,e1,ha⟩,wa,-⟩:=ama iy (fun x=>Dv w x.2 x.1.via/\amb x.1) Tryz.underlying23 ak2 anD (fun _ _ _ h hb=>ayK h hb) h1 hb1;obtain ⟨fl,⟨u2,e2,hf⟩,wf⟩:=ak0 DR En Tryz.underlying24 aaY Iz (fun _ _ _ h=>Zn h) h2;simp only [List.cons.injEq,and_true] at e0 e1 e2;subst e0 e1 e2;refine ⟨⟨nl,al.map (·.1),fl⟩,⟨v0,v1,v2,al,rfl,rfl,hn,⟨ha,fun k hk=>(wa _ (BO hk)).1⟩,hf⟩,⟨wn,fun a ha=>?_,wf⟩,fun a ha=>?_⟩
 ·obtain ⟨x,hx,rfl⟩:=ED.1 ha;exact (wa x hx).2.1
 ·obtain ⟨x,hx,rfl⟩:=ED.1 ha;exact (wa x hx).2.2
end
open Go.ChangeShapes Go.WideShapes Go.RowKit
theorem ayM:ownKnob Tryz.prog.godebug=none:=by kernel_rfl
theorem ayN:laidOutB Tryz.prog=true:=by kernel_rfl
section
variable {H:Type} {enc:TypeId×Value->H} {P:Program}
theorem ayO {t:TypeId} (hl:laidOutB P=true) (hr:P.readableRec t=true) (hrow:t<P.types.size) {W W':World} {v:Value} {d:DataW H} {ps:List MemPlace} {sp:Nat->Bool}
  (h:DataW.Trod enc P W 0 (fun _=>true) true t v d ps) (hb:AU W W') (hlt:∀ x∈ps,x.block<W.heap.size) (hs:∀ x∈ps,sp x.block=true):DataW.Trod enc P W' 0 sp true t v d ps :=
 WideElems.Trod_stays hl hr hrow h (fun x hx=>hb.same (hlt x hx)) hs
theorem ayP {f:Func} {s:ChangeSpec} {W W':World} {args:Array Value} {v:Value} {ds gs:List (DataW H)} {before:List MemPlace}
  (hW:DataW.Whole enc P f.params.toList s.vars false W args.toList ds gs before) (hv:s.vars=[]) (hb:AU W W')
  (hres:∀ (b:Nat) (sp:Nat->Bool) (hd:Bool),DataW.TrodAll enc P W' b sp hd f.resultTypes.toList (v.resultList f.resultTypes.size) (s.fn H (ds++gs)).results [])
  (hargs:∀ sp:Nat->Bool,(∀ p∈before,sp p.block=true)->DataW.TrodAll enc P W' 0 sp true f.params.toList args.toList (s.fn H (ds++gs)).args before)
  (hvars:(s.fn H (ds++gs)).vars=[])
  (hok:∀ (j:Nat) (t:TypeId) (r:Value),f.resultTypes[j]? = some t->(v.resultList f.resultTypes.size)[j]? = some r->Value.okWide P W' .any 0 t r) :
  s.post enc P f false true false false W args v W':=by
 have hlow:∀ p∈before,p.block<W.heap.size:=fun p hp=>hW.lt p hp;have hno:∀ sp:Nat->Bool,DataW.TrodVars enc P W' sp s.vars (s.fn H (ds++gs)).vars []:=fun sp=>by rw [hv,hvars];rfl
 have ayQ:∀ p∈before,(fun b=>decide (b<W.heap.size)) p.block=true:=fun p hp=>JO (hlow p hp);refine ⟨ds,gs,before,[],before,[],hW,hres _ _ _,hargs _ ayQ,hno _,?_,fun hc=>by cases hc⟩;exact World.keptBut_mono (fun p hp=>⟨hp,Or.inr (Or.inl hp)⟩) (hb.frame (·∈before))
end
