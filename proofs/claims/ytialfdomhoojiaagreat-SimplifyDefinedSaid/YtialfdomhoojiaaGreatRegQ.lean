import Derived.Test.YtialfdomhoojiaaGreatGB
set_option linter.unusedSimpArgs false
set_option linter.unusedVariables false
namespace Go.Proofs.YtialfdomhoojiaaGreat
open Go.RowKit
theorem eF {p:Prop} (h:p:=by repeat (first | with_reducible exact bR _ | with_reducible assumption | with_reducible refine bA ?_ _ | with_reducible refine bD ?_ | with_reducible refine bN ?_ _ | ((with_reducible refine bS ?_ ?_ _);rotate_left;(simp;try omega)) | ((with_reducible refine bT ?_ ?_);rotate_left;with_reducible assumption) | with_reducible refine bT ?_ avD)):p:=h
section
variable {P:Program} {ops:Array Oper} {Q Q0:Exit->Act->World->Prop} {S:World->Prop} {l:List Oper} {i m g d:Nat} {b:Bool} {oi og:Oper} {r:jH} {a a1 a':Act} {w W:World} {v u:Value} {B:Nat} {row:Option Nat}
theorem dH {id:Nat} (W:World) (p:jH) (h:∀ ops' Q',PLift (ops'=ops)->PLift (∀ a w,Q .normal a w->Q' .normal a w)->Since W W.drew->ji P ops' (NoPanic Q') (Since W) p a W.drew)
  (hm:P.follows .mixedOrders=true:=by kernel_rfl) (hsel:Region.noSelect ops=true:=by kernel_rfl) (hp:yU ops p 0=true:=by kernel_rfl) (hd:Nat.ble p.depth ops.size=true:=by kernel_rfl):(Code.region id ops true).wp P Q a W :=
 Ur (Since W) p hm (bD (bR _)) hsel hp (Nat.le_of_ble_eq_true hd) h
theorem Ah {id:Nat} (B:Nat) (W:World) (p:jH) (h:∀ ops' Q',PLift (ops'=ops)->PLift (∀ a w,Q .normal a w->Q' .normal a w)->fM B W W.drew->ji P ops' (NoPanic Q') (fM B W) p a W.drew)
  (hm:P.follows .mixedOrders=true:=by kernel_rfl) (hsel:Region.noSelect ops=true:=by kernel_rfl) (hp:yU ops p 0=true:=by kernel_rfl) (hd:Nat.ble p.depth ops.size=true:=by kernel_rfl):(Code.region id ops true).wp P Q a W :=
 Ur (fM B W) p hm (Below.drew (Below.refl _ _)) hsel hp (Nat.le_of_ble_eq_true hd) h
theorem YS {id:Nat} (W:World) (row:Option Nat) (p:jH) (h:∀ ops' Q',PLift (ops'=ops)->PLift (∀ a w,Q .normal a w->Q' .normal a w)->Ae W row W.drew->ji P ops' (NoPanic Q') (Ae W row) p a W.drew)
  (hm:P.follows .mixedOrders=true:=by kernel_rfl) (hsel:Region.noSelect ops=true:=by kernel_rfl) (hp:yU ops p 0=true:=by kernel_rfl) (hd:Nat.ble p.depth ops.size=true:=by kernel_rfl):(Code.region id ops true).wp P Q a W :=
 Ur (Ae W row) p hm (gD (gR _ _)) hsel hp (Nat.le_of_ble_eq_true hd) h
theorem aC (h:ji P ops (NoPanic Q) S r a' w) (H:PLift (ops=l.toArray):=by exact aB) (hi:l[i]? = some oi:=by exact rfl) (hS:S w:=by exact hS) (hg:oi.guard=none:=by exact rfl)
  (hy:∀ wq,S wq->(execOp a.eval oi).run P wq=.ok (.value v) wq:=by intro _ hqc;(first | replace hqc:=(Cj hqc).1 | replace hqc:=(Px hqc).1 | replace hqc:=(YK hqc).1);go_simp;try rfl) (he:a.put oi.dst v=a':=by simp only [pu];rfl):ji P ops (NoPanic Q) S (.take i m r) a w:=by
 subst he;exact Pv H hi hS hg hy h
theorem dN (h:ji P ops (NoPanic Q) S r a' w) (H:PLift (ops=l.toArray):=by exact aB) (hi:l[i]? = some oi:=by exact rfl) (hS:S w:=by exact hS) (hg:oi.guard=some (g,b):=by exact rfl) (ho:l[g]? = some og:=by exact rfl) (hd:og.dst=some d:=by exact rfl) (hv:a.tmps[d]? = some (.bool b):=by exact rfl)
  (hy:∀ wq,S wq->(execOp a.eval oi).run P wq=.ok (.value v) wq:=by intro _ hqc;(first | replace hqc:=(Cj hqc).1 | replace hqc:=(Px hqc).1 | replace hqc:=(YK hqc).1);go_simp;try rfl) (he:a.put oi.dst v=a':=by simp only [pu];rfl):ji P ops (NoPanic Q) S (.take i m r) a w:=by
 subst he;exact ac9 H hi hS hg ho hd hv hy h
theorem jC (h:ji P ops (NoPanic Q) S r a' w) (H:PLift (ops=l.toArray):=by exact aB) (hi:l[i]? = some oi:=by exact rfl) (hS:S w:=by exact hS) (hg:oi.guard=some (g,b):=by exact rfl) (ho:l[g]? = some og:=by exact rfl) (hd:og.dst=some d:=by exact rfl) (hv:a.tmps[d]? = some u:=by exact rfl) (hb:Ut u b=true:=by exact rfl)
  (he:a.put oi.dst undef=a':=by simp only [pu];rfl):ji P ops (NoPanic Q) S (.take i m r) a w:=by
 subst he;exact ajw H hi hS hg ho hd hv hb h
theorem bK (h:∀ K':Act->World->Prop,Shut (∀ a w,S w->(S w->ji P ops (NoPanic Q) S r a w)->K' a w)->Hid (S w)->Oper.wp P oi a w K' (NoPanic Q))
  (H:PLift (ops=l.toArray):=by exact aB) (hi:l[i]? = some oi:=by exact rfl) (hS:S w:=by exact hS) (hw:Region.wanted oi (yielded ops a.tmps)=true:=by first | exact fJ rfl | exact YN rfl (eP aB rfl) rfl rfl):ji P ops (NoPanic Q) S (.call i m r) a w :=
 MZ (eP H hi) fun K hK=>fK hw (h K hK hS)
theorem fV {fn:FuncId} {args:Array Value} (C:Calls P fn args w fun e w'=>e=.returned v/\Below w.heap.size w w') (h:∀ wr,Below w.heap.size w wr->S wr->ji P ops (NoPanic Q) S r a' wr)
  (H:PLift (ops=l.toArray):=by exact aB) (hi:l[i]? = some oi:=by exact rfl) (hS:S w:=by exact hS) (hw:Region.wanted oi (yielded ops a.tmps)=true:=by first | exact fJ rfl | exact YN rfl (eP aB rfl) rfl rfl)
  (hb:∀ wr,Below w.heap.size w wr->S wr:=by intro wr hb;first | exact bT hS hb | exact gB hS hb | exact Below.trans hS (hb.mono (avZ Pe (Below.size hS))))
  (hx:Hid (Calls P fn args w fun e w'=>e=.returned v/\Below w.heap.size w w')->∀ K:Act->World->Prop,Hid (∀ wr,Below w.heap.size w wr->K a1 wr)->Oper.wp P oi a w K (NoPanic Q):=by intro C K hK;go_simp;refine C.out.mono ?_;rintro e w' ⟨rfl,hb⟩;exact hK.out _ hb)
  (he:a1=a':=by first | (simp only [pu];rfl) | rfl):ji P ops (NoPanic Q) S (.call i m r) a w:=by
 subst he;exact MZ (eP H hi) fun K hK=>fK hw (hx C K fun wr hbr=>hK.out _ _ (hb wr hbr) fun hS=>h wr hbr hS)
theorem dB (h:Below W.heap.size W w->Q0 .normal a w) (HQ:PLift (∀ a w,Q0 .normal a w->Q .normal a w):=by exact aH) (hS:Since W w:=by exact hS):ji P ops (NoPanic Q) (Since W) .done a w:=Us (HQ.down _ _ (h hS))
theorem o8 (h:Below B W w->Q0 .normal a w) (HQ:PLift (∀ a w,Q0 .normal a w->Q .normal a w):=by exact aH) (hS:fM B W w:=by exact hS):ji P ops (NoPanic Q) (fM B W) .done a w:=Us (HQ.down _ _ (h hS))
theorem YT (h:W.grownBy w row->Q0 .normal a w) (HQ:PLift (∀ a w,Q0 .normal a w->Q .normal a w):=by exact aH) (hS:Ae W row w:=by exact hS):ji P ops (NoPanic Q) (Ae W row) .done a w:=Us (HQ.down _ _ (h hS))
end
end Go.Proofs.YtialfdomhoojiaaGreat
