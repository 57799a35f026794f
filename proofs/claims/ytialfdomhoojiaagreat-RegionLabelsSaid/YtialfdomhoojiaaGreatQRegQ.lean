import Derived.Test.YtialfdomhoojiaaGreatQGB
set_option linter.unusedSimpArgs false
set_option linter.unusedVariables false
namespace Go.Proofs.YtialfdomhoojiaaGreat
open Go.RowKit
theorem EC {p:Prop} (h:p:=by repeat (first | with_reducible exact bR _ | with_reducible assumption | with_reducible refine bA ?_ _ | with_reducible refine bD ?_ | with_reducible refine bN ?_ _ | ((with_reducible refine bS ?_ ?_ _);rotate_left;(simp;try omega)) | ((with_reducible refine bT ?_ ?_);rotate_left;with_reducible assumption) | with_reducible refine bT ?_ KT)):p:=h
section
variable {P:Program} {ops:Array Oper} {Q Q0:Exit->Act->World->Prop} {S:World->Prop} {l:List Oper} {i m g d:Nat} {b:Bool} {oi og:Oper} {r:IE} {a a1 a':Act} {w W:World} {v u:Value} {B:Nat} {row:Option Nat}
theorem DJ {id:Nat} (W:World) (p:IE) (h:∀ ops' Q',PLift (ops'=ops)->PLift (∀ a w,Q .normal a w->Q' .normal a w)->Since W W.drew->Gj P ops' (NoPanic Q') (Since W) p a W.drew)
  (hm:P.follows .mixedOrders=true:=by kernel_rfl) (hsel:Region.noSelect ops=true:=by kernel_rfl) (hp:UG ops p 0=true:=by kernel_rfl) (hd:Nat.ble p.depth ops.size=true:=by kernel_rfl):(Code.region id ops true).wp P Q a W :=
 aAh (Since W) p hm (bD (bR _)) hsel hp (aak hd) h
theorem Rz {id:Nat} (B:Nat) (W:World) (p:IE) (h:∀ ops' Q',PLift (ops'=ops)->PLift (∀ a w,Q .normal a w->Q' .normal a w)->GK B W W.drew->Gj P ops' (NoPanic Q') (GK B W) p a W.drew)
  (hm:P.follows .mixedOrders=true:=by kernel_rfl) (hsel:Region.noSelect ops=true:=by kernel_rfl) (hp:UG ops p 0=true:=by kernel_rfl) (hd:Nat.ble p.depth ops.size=true:=by kernel_rfl):(Code.region id ops true).wp P Q a W :=
 aAh (GK B W) p hm (Below.drew (Below.refl _ _)) hsel hp (aak hd) h
theorem UY {id:Nat} (W:World) (row:Option Nat) (p:IE) (h:∀ ops' Q',PLift (ops'=ops)->PLift (∀ a w,Q .normal a w->Q' .normal a w)->JU W row W.drew->Gj P ops' (NoPanic Q') (JU W row) p a W.drew)
  (hm:P.follows .mixedOrders=true:=by kernel_rfl) (hsel:Region.noSelect ops=true:=by kernel_rfl) (hp:UG ops p 0=true:=by kernel_rfl) (hd:Nat.ble p.depth ops.size=true:=by kernel_rfl):(Code.region id ops true).wp P Q a W :=
 aAh (JU W row) p hm (gD (gR _ _)) hsel hp (aak hd) h
theorem Aj (h:Gj P ops (NoPanic Q) S r a' w) (H:PLift (ops=l.toArray):=by exact Ae) (hi:l[i]? = some oi:=by exact rfl) (hS:S w:=by exact hS) (hg:oi.guard=none:=by exact rfl)
  (hy:∀ wq,S wq->(execOp a.eval oi).run P wq=.ok (.value v) wq:=by intro _ hqc;(first | replace hqc:=(VX hqc).1 | replace hqc:=(aAj hqc).1 | replace hqc:=(acJ hqc).1);go_simp;try rfl) (he:a.put oi.dst v=a':=by simp only [pu];rfl):Gj P ops (NoPanic Q) S (.take i m r) a w:=by
 subst he;exact uQ H hi hS hg hy h
theorem Du (h:Gj P ops (NoPanic Q) S r a' w) (H:PLift (ops=l.toArray):=by exact Ae) (hi:l[i]? = some oi:=by exact rfl) (hS:S w:=by exact hS) (hg:oi.guard=some (g,b):=by exact rfl) (ho:l[g]? = some og:=by exact rfl) (hd:og.dst=some d:=by exact rfl) (hv:a.tmps[d]? = some (.bool b):=by exact rfl)
  (hy:∀ wq,S wq->(execOp a.eval oi).run P wq=.ok (.value v) wq:=by intro _ hqc;(first | replace hqc:=(VX hqc).1 | replace hqc:=(aAj hqc).1 | replace hqc:=(acJ hqc).1);go_simp;try rfl) (he:a.put oi.dst v=a':=by simp only [pu];rfl):Gj P ops (NoPanic Q) S (.take i m r) a w:=by
 subst he;exact afz H hi hS hg ho hd hv hy h
theorem Jh (h:Gj P ops (NoPanic Q) S r a' w) (H:PLift (ops=l.toArray):=by exact Ae) (hi:l[i]? = some oi:=by exact rfl) (hS:S w:=by exact hS) (hg:oi.guard=some (g,b):=by exact rfl) (ho:l[g]? = some og:=by exact rfl) (hd:og.dst=some d:=by exact rfl) (hv:a.tmps[d]? = some u:=by exact rfl) (hb:aAi u b=true:=by exact rfl)
  (he:a.put oi.dst undef=a':=by simp only [pu];rfl):Gj P ops (NoPanic Q) S (.take i m r) a w:=by
 subst he;exact anL H hi hS hg ho hd hv hb h
theorem Bj (h:∀ K':Act->World->Prop,Shut (∀ a w,S w->(S w->Gj P ops (NoPanic Q) S r a w)->K' a w)->Hid (S w)->Oper.wp P oi a w K' (NoPanic Q))
  (H:PLift (ops=l.toArray):=by exact Ae) (hi:l[i]? = some oi:=by exact rfl) (hS:S w:=by exact hS) (hw:Region.wanted oi (yielded ops a.tmps)=true:=by first | exact FV rfl | exact acN rfl (Ew Ae rfl) rfl rfl):Gj P ops (NoPanic Q) S (.call i m r) a w :=
 UW (Ew H hi) fun K hK=>FY hw (h K hK hS)
theorem GL {fn:FuncId} {args:Array Value} (C:Calls P fn args w fun e w'=>e=.returned v/\AU w w') (h:∀ wr,AU w wr->S wr->Gj P ops (NoPanic Q) S r a' wr)
  (H:PLift (ops=l.toArray):=by exact Ae) (hi:l[i]? = some oi:=by exact rfl) (hS:S w:=by exact hS) (hw:Region.wanted oi (yielded ops a.tmps)=true:=by first | exact FV rfl | exact acN rfl (Ew Ae rfl) rfl rfl)
  (hb:∀ wr,AU w wr->S wr:=by intro wr hb;first | exact bT hS hb | exact gB hS hb | exact Below.trans hS (hb.mono (EH AB (Below.size hS))))
  (hx:Hid (Calls P fn args w fun e w'=>e=.returned v/\AU w w')->∀ K:Act->World->Prop,Hid (∀ wr,AU w wr->K a1 wr)->Oper.wp P oi a w K (NoPanic Q):=by intro C K hK;go_simp;refine C.out.mono ?_;rintro e w' ⟨rfl,hb⟩;exact hK.out _ hb)
  (he:a1=a':=by first | (simp only [pu];rfl) | rfl):Gj P ops (NoPanic Q) S (.call i m r) a w:=by
 subst he;exact UW (Ew H hi) fun K hK=>FY hw (hx C K fun wr hbr=>hK.out _ _ (hb wr hbr) fun hS=>h wr hbr hS)
theorem DF (h:AU W w->Q0 .normal a w) (HQ:PLift (∀ a w,Q0 .normal a w->Q .normal a w):=by exact Ah) (hS:Since W w:=by exact hS):Gj P ops (NoPanic Q) (Since W) .done a w:=mX (HQ.down _ _ (h hS))
theorem LY (h:Below B W w->Q0 .normal a w) (HQ:PLift (∀ a w,Q0 .normal a w->Q .normal a w):=by exact Ah) (hS:GK B W w:=by exact hS):Gj P ops (NoPanic Q) (GK B W) .done a w:=mX (HQ.down _ _ (h hS))
theorem Qq (h:W.grownBy w row->Q0 .normal a w) (HQ:PLift (∀ a w,Q0 .normal a w->Q .normal a w):=by exact Ah) (hS:JU W row w:=by exact hS):Gj P ops (NoPanic Q) (JU W row) .done a w:=mX (HQ.down _ _ (h hS))
end
