import Derived.Test.YtpempeioeiaijaaGreatGB
set_option linter.unusedSimpArgs false
set_option linter.unusedVariables false
namespace Go.Proofs.YtpempeioeiaijaaGreat
open Go.RowKit
theorem Dy {p:Prop} (h:p:=by repeat (first | with_reducible exact bR _ | with_reducible assumption | with_reducible refine bA ?_ _ | with_reducible refine bD ?_ | with_reducible refine bN ?_ _ | ((with_reducible refine bS ?_ ?_ _);rotate_left;(simp;try omega)) | ((with_reducible refine bT ?_ ?_);rotate_left;with_reducible assumption) | with_reducible refine bT ?_ KX)):p:=h
section
variable {P:Program} {ops:Array Oper} {Q Q0:Exit->Act->World->Prop} {S:World->Prop} {l:List Oper} {i m g d:Nat} {b:Bool} {oi og:Oper} {r:IG} {a a1 a':Act} {w W:World} {v u:Value} {B:Nat} {row:Option Nat}
theorem D9 {id:Nat} (W:World) (p:IG) (h:∀ ops' Q',PLift (ops'=ops)->PLift (∀ a w,Q .normal a w->Q' .normal a w)->Since W W.drew->Gf P ops' (NoPanic Q') (Since W) p a W.drew)
  (hm:P.follows .mixedOrders=true:=by kernel_rfl) (hsel:Region.noSelect ops=true:=by kernel_rfl) (hp:SL ops p 0=true:=by kernel_rfl) (hd:Nat.ble p.depth ops.size=true:=by kernel_rfl):(Code.region id ops true).wp P Q a W :=
 zL (Since W) p hm (bD (bR _)) hsel hp (acW hd) h
theorem PE {id:Nat} (B:Nat) (W:World) (p:IG) (h:∀ ops' Q',PLift (ops'=ops)->PLift (∀ a w,Q .normal a w->Q' .normal a w)->E8 B W W.drew->Gf P ops' (NoPanic Q') (E8 B W) p a W.drew)
  (hm:P.follows .mixedOrders=true:=by kernel_rfl) (hsel:Region.noSelect ops=true:=by kernel_rfl) (hp:SL ops p 0=true:=by kernel_rfl) (hd:Nat.ble p.depth ops.size=true:=by kernel_rfl):(Code.region id ops true).wp P Q a W :=
 zL (E8 B W) p hm (Below.drew (Below.refl _ _)) hsel hp (acW hd) h
theorem tH {id:Nat} (W:World) (row:Option Nat) (p:IG) (h:∀ ops' Q',PLift (ops'=ops)->PLift (∀ a w,Q .normal a w->Q' .normal a w)->SE W row W.drew->Gf P ops' (NoPanic Q') (SE W row) p a W.drew)
  (hm:P.follows .mixedOrders=true:=by kernel_rfl) (hsel:Region.noSelect ops=true:=by kernel_rfl) (hp:SL ops p 0=true:=by kernel_rfl) (hd:Nat.ble p.depth ops.size=true:=by kernel_rfl):(Code.region id ops true).wp P Q a W :=
 zL (SE W row) p hm (gD (gR _ _)) hsel hp (acW hd) h
theorem Ak (h:Gf P ops (NoPanic Q) S r a' w) (H:PLift (ops=l.toArray):=by exact Ae) (hi:l[i]? = some oi:=by exact rfl) (hS:S w:=by exact hS) (hg:oi.guard=none:=by exact rfl)
  (hy:∀ wq,S wq->(execOp a.eval oi).run P wq=.ok (.value v) wq:=by intro _ hqc;(first | replace hqc:=(Uu hqc).1 | replace hqc:=(aaD hqc).1 | replace hqc:=(adB hqc).1);go_simp;try rfl) (he:a.put oi.dst v=a':=by simp only [pu];rfl):Gf P ops (NoPanic Q) S (.take i m r) a w:=by
 subst he;exact eu H hi hS hg hy h
theorem E5 (h:Gf P ops (NoPanic Q) S r a' w) (H:PLift (ops=l.toArray):=by exact Ae) (hi:l[i]? = some oi:=by exact rfl) (hS:S w:=by exact hS) (hg:oi.guard=some (g,b):=by exact rfl) (ho:l[g]? = some og:=by exact rfl) (hd:og.dst=some d:=by exact rfl) (hv:a.tmps[d]? = some (.bool b):=by exact rfl)
  (hy:∀ wq,S wq->(execOp a.eval oi).run P wq=.ok (.value v) wq:=by intro _ hqc;(first | replace hqc:=(Uu hqc).1 | replace hqc:=(aaD hqc).1 | replace hqc:=(adB hqc).1);go_simp;try rfl) (he:a.put oi.dst v=a':=by simp only [pu];rfl):Gf P ops (NoPanic Q) S (.take i m r) a w:=by
 subst he;exact aho H hi hS hg ho hd hv hy h
theorem JW (h:Gf P ops (NoPanic Q) S r a' w) (H:PLift (ops=l.toArray):=by exact Ae) (hi:l[i]? = some oi:=by exact rfl) (hS:S w:=by exact hS) (hg:oi.guard=some (g,b):=by exact rfl) (ho:l[g]? = some og:=by exact rfl) (hd:og.dst=some d:=by exact rfl) (hv:a.tmps[d]? = some u:=by exact rfl) (hb:zM u b=true:=by exact rfl)
  (he:a.put oi.dst undef=a':=by simp only [pu];rfl):Gf P ops (NoPanic Q) S (.take i m r) a w:=by
 subst he;exact anx H hi hS hg ho hd hv hb h
theorem BN (h:∀ K':Act->World->Prop,Shut (∀ a w,S w->(S w->Gf P ops (NoPanic Q) S r a w)->K' a w)->Hid (S w)->Oper.wp P oi a w K' (NoPanic Q))
  (H:PLift (ops=l.toArray):=by exact Ae) (hi:l[i]? = some oi:=by exact rfl) (hS:S w:=by exact hS) (hw:Region.wanted oi (yielded ops a.tmps)=true:=by first | exact Eh rfl | exact adF rfl (ET Ae rfl) rfl rfl):Gf P ops (NoPanic Q) S (.call i m r) a w :=
 Um (ET H hi) fun K hK=>En hw (h K hK hS)
theorem II {fn:FuncId} {args:Array Value} (C:Calls P fn args w fun e w'=>e=.returned v/\AU w w') (h:∀ wr,AU w wr->S wr->Gf P ops (NoPanic Q) S r a' wr)
  (H:PLift (ops=l.toArray):=by exact Ae) (hi:l[i]? = some oi:=by exact rfl) (hS:S w:=by exact hS) (hw:Region.wanted oi (yielded ops a.tmps)=true:=by first | exact Eh rfl | exact adF rfl (ET Ae rfl) rfl rfl)
  (hb:∀ wr,AU w wr->S wr:=by intro wr hb;first | exact bT hS hb | exact gB hS hb | exact Below.trans hS (hb.mono (EG AA (Below.size hS))))
  (hx:Hid (Calls P fn args w fun e w'=>e=.returned v/\AU w w')->∀ K:Act->World->Prop,Hid (∀ wr,AU w wr->K a1 wr)->Oper.wp P oi a w K (NoPanic Q):=by intro C K hK;go_simp;refine C.out.mono ?_;rintro e w' ⟨rfl,hb⟩;exact hK.out _ hb)
  (he:a1=a':=by first | (simp only [pu];rfl) | rfl):Gf P ops (NoPanic Q) S (.call i m r) a w:=by
 subst he;exact Um (ET H hi) fun K hK=>En hw (hx C K fun wr hbr=>hK.out _ _ (hb wr hbr) fun hS=>h wr hbr hS)
theorem D5 (h:AU W w->Q0 .normal a w) (HQ:PLift (∀ a w,Q0 .normal a w->Q .normal a w):=by exact Aj) (hS:Since W w:=by exact hS):Gf P ops (NoPanic Q) (Since W) .done a w:=lZ (HQ.down _ _ (h hS))
theorem J3 (h:Below B W w->Q0 .normal a w) (HQ:PLift (∀ a w,Q0 .normal a w->Q .normal a w):=by exact Aj) (hS:E8 B W w:=by exact hS):Gf P ops (NoPanic Q) (E8 B W) .done a w:=lZ (HQ.down _ _ (h hS))
theorem ku (h:W.grownBy w row->Q0 .normal a w) (HQ:PLift (∀ a w,Q0 .normal a w->Q .normal a w):=by exact Aj) (hS:SE W row w:=by exact hS):Gf P ops (NoPanic Q) (SE W row) .done a w:=lZ (HQ.down _ _ (h hS))
end
