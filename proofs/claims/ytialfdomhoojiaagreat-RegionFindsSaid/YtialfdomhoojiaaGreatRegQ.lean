import Derived.Test.YtialfdomhoojiaaGreatGB
set_option linter.unusedSimpArgs false
set_option linter.unusedVariables false
namespace Go.Proofs.YtialfdomhoojiaaGreat
open Go.RowKit
theorem Dk {p:Prop} (h:p:=by repeat (first | with_reducible exact bR _ | with_reducible assumption | with_reducible refine bA ?_ _ | with_reducible refine bD ?_ | with_reducible refine bN ?_ _ | ((with_reducible refine bS ?_ ?_ _);rotate_left;(simp;try omega)) | ((with_reducible refine bT ?_ ?_);rotate_left;with_reducible assumption) | with_reducible refine bT ?_ KP)):p:=h
section
variable {P:Program} {ops:Array Oper} {Q Q0:Exit->Act->World->Prop} {S:World->Prop} {l:List Oper} {i m g d:Nat} {b:Bool} {oi og:Oper} {r:Hy} {a a1 a':Act} {w W:World} {v u:Value} {B:Nat} {row:Option Nat}
theorem Cj {id:Nat} (W:World) (p:Hy) (h:∀ ops' Q',PLift (ops'=ops)->PLift (∀ a w,Q .normal a w->Q' .normal a w)->Since W W.drew->GR P ops' (NoPanic Q') (Since W) p a W.drew)
  (hm:P.follows .mixedOrders=true:=by kernel_rfl) (hsel:Region.noSelect ops=true:=by kernel_rfl) (hp:U9 ops p 0=true:=by kernel_rfl) (hd:Nat.ble p.depth ops.size=true:=by kernel_rfl):(Code.region id ops true).wp P Q a W :=
 aAT (Since W) p hm (bD (bR _)) hsel hp (abW hd) h
theorem QK {id:Nat} (B:Nat) (W:World) (p:Hy) (h:∀ ops' Q',PLift (ops'=ops)->PLift (∀ a w,Q .normal a w->Q' .normal a w)->Fb B W W.drew->GR P ops' (NoPanic Q') (Fb B W) p a W.drew)
  (hm:P.follows .mixedOrders=true:=by kernel_rfl) (hsel:Region.noSelect ops=true:=by kernel_rfl) (hp:U9 ops p 0=true:=by kernel_rfl) (hd:Nat.ble p.depth ops.size=true:=by kernel_rfl):(Code.region id ops true).wp P Q a W :=
 aAT (Fb B W) p hm (Below.drew (Below.refl _ _)) hsel hp (abW hd) h
theorem Vp {id:Nat} (W:World) (row:Option Nat) (p:Hy) (h:∀ ops' Q',PLift (ops'=ops)->PLift (∀ a w,Q .normal a w->Q' .normal a w)->JI W row W.drew->GR P ops' (NoPanic Q') (JI W row) p a W.drew)
  (hm:P.follows .mixedOrders=true:=by kernel_rfl) (hsel:Region.noSelect ops=true:=by kernel_rfl) (hp:U9 ops p 0=true:=by kernel_rfl) (hd:Nat.ble p.depth ops.size=true:=by kernel_rfl):(Code.region id ops true).wp P Q a W :=
 aAT (JI W row) p hm (gD (gR _ _)) hsel hp (abW hd) h
theorem Aj (h:GR P ops (NoPanic Q) S r a' w) (H:PLift (ops=l.toArray):=by exact Ae) (hi:l[i]? = some oi:=by exact rfl) (hS:S w:=by exact hS) (hg:oi.guard=none:=by exact rfl)
  (hy:∀ wq,S wq->(execOp a.eval oi).run P wq=.ok (.value v) wq:=by intro _ hqc;(first | replace hqc:=(Vm hqc).1 | replace hqc:=(aAV hqc).1 | replace hqc:=(acS hqc).1);go_simp;try rfl) (he:a.put oi.dst v=a':=by simp only [pu];rfl):GR P ops (NoPanic Q) S (.take i m r) a w:=by
 subst he;exact uS H hi hS hg hy h
theorem Dh (h:GR P ops (NoPanic Q) S r a' w) (H:PLift (ops=l.toArray):=by exact Ae) (hi:l[i]? = some oi:=by exact rfl) (hS:S w:=by exact hS) (hg:oi.guard=some (g,b):=by exact rfl) (ho:l[g]? = some og:=by exact rfl) (hd:og.dst=some d:=by exact rfl) (hv:a.tmps[d]? = some (.bool b):=by exact rfl)
  (hy:∀ wq,S wq->(execOp a.eval oi).run P wq=.ok (.value v) wq:=by intro _ hqc;(first | replace hqc:=(Vm hqc).1 | replace hqc:=(aAV hqc).1 | replace hqc:=(acS hqc).1);go_simp;try rfl) (he:a.put oi.dst v=a':=by simp only [pu];rfl):GR P ops (NoPanic Q) S (.take i m r) a w:=by
 subst he;exact ag9 H hi hS hg ho hd hv hy h
theorem JU (h:GR P ops (NoPanic Q) S r a' w) (H:PLift (ops=l.toArray):=by exact Ae) (hi:l[i]? = some oi:=by exact rfl) (hS:S w:=by exact hS) (hg:oi.guard=some (g,b):=by exact rfl) (ho:l[g]? = some og:=by exact rfl) (hd:og.dst=some d:=by exact rfl) (hv:a.tmps[d]? = some u:=by exact rfl) (hb:aAU u b=true:=by exact rfl)
  (he:a.put oi.dst undef=a':=by simp only [pu];rfl):GR P ops (NoPanic Q) S (.take i m r) a w:=by
 subst he;exact anY H hi hS hg ho hd hv hb h
theorem BP (h:∀ K':Act->World->Prop,Shut (∀ a w,S w->(S w->GR P ops (NoPanic Q) S r a w)->K' a w)->Hid (S w)->Oper.wp P oi a w K' (NoPanic Q))
  (H:PLift (ops=l.toArray):=by exact Ae) (hi:l[i]? = some oi:=by exact rfl) (hS:S w:=by exact hS) (hw:Region.wanted oi (yielded ops a.tmps)=true:=by first | exact FM rfl | exact acW rfl (Ej Ae rfl) rfl rfl):GR P ops (NoPanic Q) S (.call i m r) a w :=
 UK (Ej H hi) fun K hK=>FQ hw (h K hK hS)
theorem FD {fn:FuncId} {args:Array Value} (C:Calls P fn args w fun e w'=>e=.returned v/\AP w w') (h:∀ wr,AP w wr->S wr->GR P ops (NoPanic Q) S r a' wr)
  (H:PLift (ops=l.toArray):=by exact Ae) (hi:l[i]? = some oi:=by exact rfl) (hS:S w:=by exact hS) (hw:Region.wanted oi (yielded ops a.tmps)=true:=by first | exact FM rfl | exact acW rfl (Ej Ae rfl) rfl rfl)
  (hb:∀ wr,AP w wr->S wr:=by intro wr hb;first | exact bT hS hb | exact gB hS hb | exact Below.trans hS (hb.mono (Dn AB (Below.size hS))))
  (hx:Hid (Calls P fn args w fun e w'=>e=.returned v/\AP w w')->∀ K:Act->World->Prop,Hid (∀ wr,AP w wr->K a1 wr)->Oper.wp P oi a w K (NoPanic Q):=by intro C K hK;go_simp;refine C.out.mono ?_;rintro e w' ⟨rfl,hb⟩;exact hK.out _ hb)
  (he:a1=a':=by first | (simp only [pu];rfl) | rfl):GR P ops (NoPanic Q) S (.call i m r) a w:=by
 subst he;exact UK (Ej H hi) fun K hK=>FQ hw (hx C K fun wr hbr=>hK.out _ _ (hb wr hbr) fun hS=>h wr hbr hS)
theorem Ce (h:AP W w->Q0 .normal a w) (HQ:PLift (∀ a w,Q0 .normal a w->Q .normal a w):=by exact Ah) (hS:Since W w:=by exact hS):GR P ops (NoPanic Q) (Since W) .done a w:=nI (HQ.down _ _ (h hS))
theorem KW (h:Below B W w->Q0 .normal a w) (HQ:PLift (∀ a w,Q0 .normal a w->Q .normal a w):=by exact Ah) (hS:Fb B W w:=by exact hS):GR P ops (NoPanic Q) (Fb B W) .done a w:=nI (HQ.down _ _ (h hS))
theorem Ry (h:W.grownBy w row->Q0 .normal a w) (HQ:PLift (∀ a w,Q0 .normal a w->Q .normal a w):=by exact Ah) (hS:JI W row w:=by exact hS):GR P ops (NoPanic Q) (JI W row) .done a w:=nI (HQ.down _ _ (h hS))
end
