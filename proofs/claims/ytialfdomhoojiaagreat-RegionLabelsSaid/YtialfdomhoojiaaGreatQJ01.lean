import Derived.Test.YtialfdomhoojiaaGreatQRegQ
set_option linter.unusedSimpArgs false
set_option linter.unusedVariables false
set_option maxHeartbeats 4000000
namespace Go.Proofs.YtialfdomhoojiaaGreat
open Go.RowKit
def OG (B g:Nat) (w0:World):World->Prop:=fun w=>Below B w0 w/\w.heap[g]? = w0.heap[g]?
section
variable {B g:Nat} {W w w':World}
theorem ag5 (h:OG B g W w):(∀ b o,b<B->w.cell? ⟨b,o,none⟩=W.cell? ⟨b,o,none⟩)/\(∀ o,w.cell? ⟨g,o,none⟩=W.cell? ⟨g,o,none⟩) :=
 ⟨(aAj h.1).1,fun o=>by simp only [World.cell?,h.2]⟩
theorem kR (W:World):OG B g W W.drew:=⟨Below.drew (Below.refl _ _),rfl⟩
theorem kA (h:OG B g W w) (hB:B<=W.heap.size) (hg:g<W.heap.size) (o:Obj):OG B g W (w.alloc o) :=
 ⟨h.1.alloc (EH hB h.1.size) o,by rw [Below.heap_alloc w o g (LW hg h.1.size)];exact h.2⟩
theorem kC (h:OG B g W w) (k:AU w w') (hB:B<=W.heap.size) (hg:g<W.heap.size):OG B g W w' :=
 ⟨h.1.trans (k.mono (EH hB h.1.size)),(k.block g (LW hg h.1.size)).trans h.2⟩
theorem kG (h:OG B g W w) {row:Option Nat} (k:w.grownBy w' row) (hr:∀ q,row=some q->B<=q) (hn:some g≠row) (hB:B<=W.heap.size) (hg:g<W.heap.size):OG B g W w' :=
 ⟨h.1.grown k (EH hB h.1.size) hr,(k.block g (LW hg h.1.size) hn).trans h.2⟩
theorem kS (h:OG B g W w) {p:Addr} (hB:B<=p.block) (hn:g≠p.block) (u:Value):OG B g W (w.setCell p u) :=
 ⟨h.1.setCell hB u,(Below.heap_setCell w p u g hn).trans h.2⟩
end
section
variable {P:Program} {ops:Array Oper} {Q:Exit->Act->World->Prop}
theorem mZ {l:List Oper} {i m:Nat} {oi:Oper} {r:IE} {a:Act} {w W:World} {B g:Nat} {v:Value} (H:PLift (ops=l.toArray)) (hi:l[i]? = some oi) (hS:OG B g W w) (hg:oi.guard=none)
  (hy:∀ wq:World,(∀ b o,b<B->wq.cell? ⟨b,o,none⟩=W.cell? ⟨b,o,none⟩)->(∀ o,wq.cell? ⟨g,o,none⟩=W.cell? ⟨g,o,none⟩)->(execOp a.eval oi).run P wq=.ok (.value v) wq) (h:Gj P ops (NoPanic Q) (OG B g W) r (a.put oi.dst v) w):Gj P ops (NoPanic Q) (OG B g W) (.take i m r) a w :=
 uQ H hi hS hg (fun wq hq=>hy wq (ag5 hq).1 (ag5 hq).2) h
end
def J3 (l:List Nd) (id:Int):Option Nd:=l.find? (fun n=>n.id == id)
def nd0:Nd:=⟨0,⟨0,0⟩⟩
def iP (r:Option Nd):Value:=.tuple #[uM (r.getD nd0),.bool r.isSome]
theorem abw (v:Value) (p:Pl) (id:Int) (w:World) (h:Ci w v p) :
  Calls Tryz.prog 74 #[v,.int .i64 id] w fun e w'=>e=.returned (iP (J3 p.nodes id))/\AU w w':=by
 obtain ⟨_,va,vf,al,rfl,hpa,⟨An,cn,rfl,hn1,hn2,hR⟩,-,-⟩:=h;unfold maxLen at hn2;generalize p.nodes=l at *;clear hpa;go_enter Tryz.func74,Tryz.ntmps74;go_wp2_with fail;go_loopw [11] (fun i wr=>∃ k:Nat,k<=l.length/\i=.int .i64 k/\AU w wr/\AO wr (w.heap.size+1) 45 #[.int .i64 0,.int .i64 0,.int .i64 0]/\∀ j (hj:j<l.length),j<k->(l[j].id == id)=false) (fun i _=>l.length-(intOf i).toNat)
 case atStart => exact ⟨0,Bv _,rfl,bA (bA (bR w) _) _,AO.made Ak _ _,fun j _ h=>by omega⟩
 case round =>
  obtain ⟨k,hk,rfl,hb,X4,hno⟩:=hrel;have Hb:=AA hb;have Hno:=AA hno;clear hb hno;obtain ⟨BZ,Bl,CQ,EU,EG,FW,JC⟩:=X4.Az;by_cases hlt:k<l.length
  ·obtain ⟨b,o,rfl,hlb,c0,c1,c2⟩:=(hR.mono Hb.out).nd hlt;have HR:=AA hR;clear hR
   cases he:(l[k].id == id)
   ·go_wp2;go_roundw
    case rel => exact ⟨k+1,AB,BJ,bA Hb.out _,X4.alloc _,all_succ (p:=fun x=>(x.id == id)=false) Hno.out hlt he⟩
    case measure => exact BL
   ·have hf:=uN l (fun n=>n.id == id) k hlt Hno.out he;have Hf:=AA hf;clear hf;go_wp2;have Bw:=Hb.out;refine L9 (g:=w.heap.size+1) (cs:=#[.int .i64 l[k].id,.int .i64 l[k].pt.x,.int .i64 l[k].pt.y]) rfl aAa rfl rfl (AO.VY X4 |>.alloc _) ⟨by rw [J3,Hf.out];rfl,?_⟩;exact EC
  ·have hf:=aAv l (fun n=>n.id == id) (fun j hj=>Hno.out j hj AB);have Hf:=AA hf;clear hf;go_wp2;have Bw:=Hb.out;refine L9 (g:=w.heap.size+1) (cs:=#[.int .i64 0,.int .i64 0,.int .i64 0]) rfl aAa rfl rfl (AO.VY X4) ⟨by rw [J3,Hf.out];rfl,?_⟩;exact EC
theorem ag6 (v:Value) (p:Pl) (id:Int) (w:World) (h:Ci w v p) :
  Calls Tryz.prog 187 #[v,.int .i64 id] w fun e w'=>e=.returned (iP (J3 p.nodes id))/\AU w w':=by
 obtain ⟨_,va,vf,al,rfl,hpa,⟨An,cn,rfl,hn1,hn2,hR⟩,-,-⟩:=h;unfold maxLen at hn2;generalize p.nodes=l at *;clear hpa;go_enter Tryz.func187,Tryz.ntmps187;go_wp2_with fail;go_loopw [6] (fun i wr=>∃ k:Nat,k<=l.length/\i=.int .i64 k/\AU w wr/\AO wr w.heap.size 26 #[.slice An l.length cn,va,vf]/\AO wr (w.heap.size+1) 45 #[.int .i64 0,.int .i64 0,.int .i64 0]/\∀ j (hj:j<l.length),j<k->(l[j].id == id)=false) (fun i _=>l.length-(intOf i).toNat)
 case atStart => exact ⟨0,Bv _,rfl,bA (bA (bR w) _) _,(AO.made rfl _ _).alloc _,AO.made Ak _ _,fun j _ h=>by omega⟩
 case round =>
  obtain ⟨k,hk,rfl,hb,X2,X4,hno⟩:=hrel;have Hb:=AA hb;have Hno:=AA hno;clear hb hno;obtain ⟨BU,BX,Bg,CB,-,-,-⟩:=X2.Az;obtain ⟨BZ,Bl,CQ,EU,EG,FW,JC⟩:=X4.Az;by_cases hlt:k<l.length
  ·obtain ⟨b,o,rfl,hlb,c0,c1,c2⟩:=(hR.mono Hb.out).nd hlt;have HR:=AA hR;clear hR
   cases he:(l[k].id == id)
   ·go_wp2;go_roundw
    case rel => exact ⟨k+1,AB,BJ,Hb.out,X2,X4,all_succ (p:=fun x=>(x.id == id)=false) Hno.out hlt he⟩
    case measure => exact BL
   ·have hf:=uN l (fun n=>n.id == id) k hlt Hno.out he;have Hf:=AA hf;clear hf;go_wp2;have Bw:=Hb.out;refine L9 (g:=w.heap.size+1) (cs:=#[.int .i64 l[k].id,.int .i64 l[k].pt.x,.int .i64 l[k].pt.y]) rfl aAa rfl rfl (AO.VY X4) ⟨by rw [J3,Hf.out];rfl,?_⟩;exact EC
  ·have hf:=aAv l (fun n=>n.id == id) (fun j hj=>Hno.out j hj AB);have Hf:=AA hf;clear hf;go_wp2;have Bw:=Hb.out;refine L9 (g:=w.heap.size+1) (cs:=#[.int .i64 0,.int .i64 0,.int .i64 0]) rfl aAa rfl rfl (AO.VY X4) ⟨by rw [J3,Hf.out];rfl,?_⟩;exact EC
def bU (w:World) (l:List Pt) (e:Ending) (w':World):Prop :=
 ∃ A c,e=.returned (.slice A l.length c)/\AU w w'/\Own w' w.heap.size 39 2 Ee (.slice A l.length c) l
theorem ag7 (v:Value) (l:List Pt) (w:World) (h:Dv w v l) (hl:l.length<=1048576) :
  Calls Tryz.prog 114 #[v] w (bU w l):=by
 have H:=h;obtain ⟨A,c,rfl,hn,hc,hR⟩:=h;have hE:=Lib.run_eql_slice_nil (P:=Tryz.prog) (t:=46) (e:=39);rcases A with _ | ad
 ·have hl0:l=[]:=by
   rcases l with _ | ⟨a,l⟩
   · rfl
   ·obtain ⟨b,o,e,_⟩:=hR (by simp [Ee])
    cases e
  subst hl0;clear hR H;simp only [LX] at hn ⊢;have hE1:∀ W:World,(binOp .eql 46 (.slice none 0 c) (.slice none 0 0)).run Tryz.prog W=.ok (.bool true) W:=fun W=>Lib.run_eql_slice_nil W _ 39 none _ c 0 0 Tryz.underlying46;clear hE;go_enter Tryz.func114,Tryz.ntmps114;go_wp2;go_ret;exact ⟨_,_,rfl,bR w,Own.nil _ _ _ _ _⟩
 ·have hE1:∀ W:World,(binOp .eql 46 (.slice (some ad) l.length c) (.slice none 0 0)).run Tryz.prog W=.ok (.bool false) W:=fun W=>Lib.run_eql_slice_nil W _ 39 (some ad) _ c 0 0 Tryz.underlying46;clear hE hR;have HH:=AA H;clear H;go_enter Tryz.func114,Tryz.ntmps114;go_wp2_with
   (at_builtin
    refine FK _ rfl (.tmp 5) (.tmp 6) _ rfl (base:=w.heap.size) L6 KJ L8 rfl (Own.lit _ _ _ _ Ee [] _ 0 _ rfl rfl (Dc _) (DN AB) rfl rfl) rfl (HH.out.mono (bA (bR w) _)) VT VT Ak ?_;intro v1 w1 hown hg hat)
  go_ret;obtain ⟨A1,c1,rfl,-⟩:=Own.sl hown;simp only [Qj] at hown ⊢;exact ⟨A1,c1,rfl,bG (bA (bR w) _) hg (fun k hk=>by have:w.heap.size=k:=Dq hk;omega),hown⟩
def findAr (l:List Ar) (id:Int):Option Ar:=l.find? (fun a=>a.id == id)
def MJ:Ar:=⟨0,0,0,[],0,0⟩
def tN (w:World) (r:Option Ar) (e:Ending) (w':World):Prop :=
 ∃ v',e=.returned (.tuple #[UQ (r.getD MJ) v',.bool r.isSome])/\AU w w'/\Dv w' v' (r.getD MJ).via
def Short (p:Pl):Prop:=∀ a∈p.AP,a.via.length<=1048576
theorem Sl.nil (w:World):Sl w (.slice none 0 0) 0 []:=⟨none,0,rfl,Dc _,DN AB,Row.nil⟩
theorem abx (al:List (Ar×Value)) (id:Int) (k:Nat) (hk:k<al.length) (h:∀ j (hj:j<al.length),j<k->(al[j].1.id == id)=false) (he:(al[k].1.id == id)=true) :
  findAr (al.map (·.1)) id=some al[k].1:=by
 have:=uN al (fun a=>a.1.id == id) k hk h he
 rw [findAr,List.find?_map]
 show (al.find? (fun a=>a.1.id == id)).map _=_
 rw [this];rfl
theorem aby (al:List (Ar×Value)) (id:Int) (h:∀ j (hj:j<al.length),(al[j].1.id == id)=false):findAr (al.map (·.1)) id=none:=by
 have:=aAv al (fun a=>a.1.id == id) h
 rw [findAr,List.find?_map]
 show (al.find? (fun a=>a.1.id == id)).map _=_
 rw [this];rfl
theorem ao8 (v:Value) (p:Pl) (id:Int) (w:World) (h:Ci w v p) (hsh:Short p) :
  Calls Tryz.prog 73 #[v,.int .i64 id] w (tN w (findAr p.AP id)):=by
 obtain ⟨vn,_,vf,al,rfl,hpa,-,⟨⟨An,cn,rfl,hn1,hn2,hR⟩,hV⟩,-⟩:=h;unfold maxLen at hn2;unfold Short at hsh;rw [hpa] at hsh ⊢;clear hpa;have hsh':∀ k (hk:k<al.length),al[k].1.via.length<=1048576:=fun k hk=>hsh _ (Gh (BO hk));have HV:=AA hV;clear hV hsh;have DW:=AA hsh';clear hsh';go_enter Tryz.func73,Tryz.ntmps73;go_wp2_with fail;go_loopw [11] (fun i wr=>∃ k:Nat,k<=al.length/\i=.int .i64 k/\AU w wr/\AO wr (w.heap.size+1) 50 #[.int .i64 0,.int .i64 0,.int .i64 0,.slice none 0 0,.int .i64 0,.int .i64 0]/\∀ j (hj:j<al.length),j<k->(al[j].1.id == id)=false) (fun i _=>al.length-(intOf i).toNat)
 case atStart => exact ⟨0,Bv _,rfl,bA (bA (bR w) _) _,AO.made Ak _ _,fun j _ h=>by omega⟩
 case round =>
  obtain ⟨k,hk,rfl,hb,X4,hno⟩:=hrel;have Hb:=AA hb;have Hno:=AA hno;clear hb hno;obtain ⟨BZ,Bl,CQ,EU,KX,La,Lc,EG,FW,JC,QI,S9,SA⟩:=X4.IW;by_cases hlt:k<al.length
  ·obtain ⟨b,o,rfl,hlb,c0,c1,c2,c3,c4,c5⟩:=(hR.mono Hb.out).ar hlt;have HR:=AA hR;clear hR;have hvk:=(HV.out k hlt);obtain ⟨Av,cv,hv,-⟩:=hvk;have hvk:=(HV.out k hlt);rw [hv] at c3 hvk;generalize hvl:al[k].1.via.length=vl at *;have tV:=AA hvl;have UH:=AA hvk;clear hvk hv hvl
   cases he:(al[k].1.id == id)
   ·go_wp2;go_roundw
    case rel => exact ⟨k+1,AB,BJ,bA Hb.out _,X4.alloc _,all_succ (p:=fun x=>(x.1.id == id)=false) Hno.out hlt he⟩
    case measure => exact BL
   ·have hf:=abx al id k hlt Hno.out he;have Hf:=AA hf;clear hf;go_wp2_with fail;refine (ag7 _ _ _ (UH.out.mono (bA Hb.out _)) (DW.out k hlt)).mono ?_;rintro e w1 ⟨A1,NC,rfl,hb1,hown⟩;have Bw:AU w w1:=bT (bA Hb.out _) hb1;have X7:AO w1 wr.heap.size 50 #[.int .i64 al[k].1.id,.int .i64 al[k].1.fr,.int .i64 al[k].1.dst,.slice Av vl cv,.int .i64 al[k].1.left,.int .i64 al[k].1.right]:=(AO.made rfl _ _).keep hb1;have hw8:w.heap.size+1<wr.heap.size:=by omega
    have hw7:w.heap.size+1≠wr.heap.size:=by omega
    replace X4:=(X4.alloc _).keep hb1;have hown':=hown.ES (b':=wr.heap.size+1) Ak;have hP:=Own.sl hown;have FC:=AA hown';clear hb1 c0 c1 c2 c3 c4 c5 hlb hown hown' hP
    try clear BZ Bl CQ EU KX La Lc
    try clear EG FW JC QI S9 SA
    obtain ⟨BZ,Bl,CQ,EU,KX,La,Lc,EG,FW,JC,QI,S9,SA⟩:=X4.IW;obtain ⟨Eb,Ec,Fe,aAn,X7d,X7e,X7f,aF,bQ,ag8,ag9,agA,agB⟩:=X7.IW;go_wp2_with fail;have tX:=Hb.out.size;have Xe:(Value.slice A1 al[k].1.via.length NC).ownBlock≠some wr.heap.size:=fun e=>by have:=(FC.out.lt _ e).1;omega
    have NZ:(Value.slice A1 al[k].1.via.length NC).ownBlock≠some (w.heap.size+1):=fun e=>by have:=(FC.out.lt _ e).1;omega
    have HP:=Own.sl (((((((FC.out.far (p:=⟨wr.heap.size,3,none⟩) Xe (.slice A1 al[k].1.via.length NC)).far (p:=⟨w.heap.size+1,0,none⟩) NZ (.int .i64 al[k].1.id)).far (p:=⟨w.heap.size+1,1,none⟩) NZ (.int .i64 al[k].1.fr)).far (p:=⟨w.heap.size+1,2,none⟩) NZ (.int .i64 al[k].1.dst)).far (p:=⟨w.heap.size+1,3,none⟩) NZ (.slice A1 al[k].1.via.length NC)).far (p:=⟨w.heap.size+1,4,none⟩) NZ (.int .i64 al[k].1.left)).far (p:=⟨w.heap.size+1,5,none⟩) NZ (.int .i64 al[k].1.right));refine L9 (g:=w.heap.size+1) (cs:=#[.int .i64 al[k].1.id,.int .i64 al[k].1.fr,.int .i64 al[k].1.dst,.slice A1 al[k].1.via.length NC,.int .i64 al[k].1.left,.int .i64 al[k].1.right]) rfl UU rfl rfl (AO.UR (X4.far (p:=⟨wr.heap.size,3,none⟩) hw7 _)) ⟨.slice A1 al[k].1.via.length NC,Zy,?_,by rw [Hf.out];exact HP⟩;exact EC
  ·have hf:=aby al id (fun j hj=>Hno.out j hj AB);have Hf:=AA hf;clear hf;go_wp2;have Bw:=Hb.out;refine L9 (g:=w.heap.size+1) (cs:=#[.int .i64 0,.int .i64 0,.int .i64 0,.slice none 0 0,.int .i64 0,.int .i64 0]) rfl UU rfl rfl (AO.UR X4) ⟨.slice none 0 0,Zy,?_,by rw [Hf.out];exact Sl.nil _⟩;exact EC
theorem ao9 (v:Value) (p:Pl) (id:Int) (w:World) (h:Ci w v p) (hsh:Short p) :
  Calls Tryz.prog 99 #[v,.int .i64 id] w (tN w (findAr p.AP id)):=by
 obtain ⟨vn,_,vf,al,rfl,hpa,-,⟨⟨An,cn,rfl,hn1,hn2,hR⟩,hV⟩,-⟩:=h;unfold maxLen at hn2;unfold Short at hsh;rw [hpa] at hsh ⊢;clear hpa;have hsh':∀ k (hk:k<al.length),al[k].1.via.length<=1048576:=fun k hk=>hsh _ (Gh (BO hk));have HV:=AA hV;clear hV hsh;have DW:=AA hsh';clear hsh';go_enter Tryz.func99,Tryz.ntmps99;go_wp2_with fail;go_loopw [6] (fun i wr=>∃ k:Nat,k<=al.length/\i=.int .i64 k/\AU w wr/\AO wr w.heap.size 26 #[vn,.slice An al.length cn,vf]/\AO wr (w.heap.size+1) 50 #[.int .i64 0,.int .i64 0,.int .i64 0,.slice none 0 0,.int .i64 0,.int .i64 0]/\∀ j (hj:j<al.length),j<k->(al[j].1.id == id)=false) (fun i _=>al.length-(intOf i).toNat)
 case atStart => exact ⟨0,Bv _,rfl,bA (bA (bR w) _) _,(AO.made rfl _ _).alloc _,AO.made Ak _ _,fun j _ h=>by omega⟩
 case round =>
  obtain ⟨k,hk,rfl,hb,X2,X4,hno⟩:=hrel;have Hb:=AA hb;have Hno:=AA hno;clear hb hno;obtain ⟨BU,BX,Bg,CB,-,-,-⟩:=X2.Az;obtain ⟨BZ,Bl,CQ,EU,KX,La,Lc,EG,FW,JC,QI,S9,SA⟩:=X4.IW;by_cases hlt:k<al.length
  ·obtain ⟨b,o,rfl,hlb,c0,c1,c2,c3,c4,c5⟩:=(hR.mono Hb.out).ar hlt;have HR:=AA hR;clear hR;have hvk:=(HV.out k hlt);obtain ⟨Av,cv,hv,-⟩:=hvk;have hvk:=(HV.out k hlt);rw [hv] at c3 hvk;have UH:=AA hvk;clear hvk hv
   cases he:(al[k].1.id == id)
   ·go_wp2;go_roundw
    case rel => exact ⟨k+1,AB,BJ,Hb.out,X2,X4,all_succ (p:=fun x=>(x.1.id == id)=false) Hno.out hlt he⟩
    case measure => exact BL
   ·have hf:=abx al id k hlt Hno.out he;have Hf:=AA hf;clear hf;have hsv:=DW.out k hlt;go_wp2_with
     (at_builtin
      refine FK _ rfl (.tmp 28) (.tmp 30) _ rfl (base:=wr.heap.size+1) L6 KJ L8 rfl (Own.lit _ _ _ _ Ee [] _ 0 _ Ak rfl Ak (DN AB) rfl rfl) rfl (UH.out.mono (bA (bA Hb.out _) _)) VT VT Ak ?_;intro v1 w1 hown hg hat;have hb1:Below (wr.alloc (.cells #[.int .i64 al[k].1.id,.int .i64 al[k].1.fr,.int .i64 al[k].1.dst,.slice Av al[k].1.via.length cv,.int .i64 al[k].1.left,.int .i64 al[k].1.right] 50)).heap.size (wr.alloc (.cells #[.int .i64 al[k].1.id,.int .i64 al[k].1.fr,.int .i64 al[k].1.dst,.slice Av al[k].1.via.length cv,.int .i64 al[k].1.left,.int .i64 al[k].1.right] 50)) w1:=bG (bA (bR _) _) hg (fun g hk=>by have:wr.heap.size+1=g:=Dq hk;simp;omega);simp only [Qj] at hown;obtain ⟨A1,NC,rfl,-⟩:=Own.sl hown;have FC:=AA hown;have Bw:AU w w1:=bT (bA Hb.out _) hb1;have X7:AO w1 wr.heap.size 50 #[.int .i64 al[k].1.id,.int .i64 al[k].1.fr,.int .i64 al[k].1.dst,.slice Av al[k].1.via.length cv,.int .i64 al[k].1.left,.int .i64 al[k].1.right]:=(AO.made rfl _ _).keep hb1;have hw8:w.heap.size+1<wr.heap.size:=by omega
      have hw7:w.heap.size+1≠wr.heap.size:=by omega
      replace X4:=(X4.alloc _).keep hb1;clear hb1 c0 c1 c2 c3 c4 c5 hlb hown hg hat
      try clear BZ Bl CQ EU KX La Lc
      try clear EG FW JC QI S9 SA
      obtain ⟨BZ,Bl,CQ,EU,KX,La,Lc,EG,FW,JC,QI,S9,SA⟩:=X4.IW;obtain ⟨Eb,Ec,Fe,aAn,X7d,X7e,X7f,aF,bQ,ag8,ag9,agA,agB⟩:=X7.IW
      )
    have tX:=Hb.out.size;have Xe:(Value.slice A1 al[k].1.via.length NC).ownBlock≠some wr.heap.size:=fun e=>by have:=(FC.out.lt _ e).1;omega
    have NZ:(Value.slice A1 al[k].1.via.length NC).ownBlock≠some (w.heap.size+1):=fun e=>by have:=(FC.out.lt _ e).1;omega
    have HP:=Own.sl (((((((FC.out.far (p:=⟨wr.heap.size,3,none⟩) Xe (.slice A1 al[k].1.via.length NC)).far (p:=⟨w.heap.size+1,0,none⟩) NZ (.int .i64 al[k].1.id)).far (p:=⟨w.heap.size+1,1,none⟩) NZ (.int .i64 al[k].1.fr)).far (p:=⟨w.heap.size+1,2,none⟩) NZ (.int .i64 al[k].1.dst)).far (p:=⟨w.heap.size+1,3,none⟩) NZ (.slice A1 al[k].1.via.length NC)).far (p:=⟨w.heap.size+1,4,none⟩) NZ (.int .i64 al[k].1.left)).far (p:=⟨w.heap.size+1,5,none⟩) NZ (.int .i64 al[k].1.right));refine L9 (g:=w.heap.size+1) (cs:=#[.int .i64 al[k].1.id,.int .i64 al[k].1.fr,.int .i64 al[k].1.dst,.slice A1 al[k].1.via.length NC,.int .i64 al[k].1.left,.int .i64 al[k].1.right]) rfl UU rfl rfl (AO.UR (X4.far (p:=⟨wr.heap.size,3,none⟩) hw7 _)) ⟨.slice A1 al[k].1.via.length NC,Zy,?_,by rw [Hf.out];exact HP⟩;exact EC
  ·have hf:=aby al id (fun j hj=>Hno.out j hj AB);have Hf:=AA hf;clear hf;go_wp2;have Bw:=Hb.out;refine L9 (g:=w.heap.size+1) (cs:=#[.int .i64 0,.int .i64 0,.int .i64 0,.slice none 0 0,.int .i64 0,.int .i64 0]) rfl UU rfl rfl (AO.UR X4) ⟨.slice none 0 0,Zy,?_,by rw [Hf.out];exact Sl.nil _⟩;exact EC
def Na (l:List Ar) (id:Int):Int:=(l.map fun a=>(if a.fr=id then (1:Int) else 0)+(if a.dst=id then 1 else 0)).sum
theorem agC (l:List Ar) (id:Int):0<=Na l id/\Na l id<=2*l.length:=by
 unfold Na
 induction l with
 | nil=>simp
 | cons a l ih =>
  simp only [FM,IJ,IU];split<;>split<;>omega
theorem agD (al:List (Ar×Value)) (id:Int) (k:Nat) (hk:k<al.length) :
  Na ((al.take (k+1)).map (·.1)) id=Na ((al.take k).map (·.1)) id+((if al[k].1.fr=id then (1:Int) else 0)+(if al[k].1.dst=id then 1 else 0)):=by
 unfold Na;rw [F7 hk];simp only [GI,O7,FM,QD,IJ,YH];omega
theorem aoA (v:Value) (p:Pl) (id:Int) (w:World) (h:Ci w v p) (hl:p.AP.length<=1099511627776) :
  Calls Tryz.prog 35 #[v,.int .i64 id] w fun e w'=>e=.returned (.int .i64 (Na p.AP id))/\AU w w':=by
 obtain ⟨vn,_,vf,al,rfl,hpa,-,⟨⟨An,cn,rfl,hn1,hn2,hR⟩,hV⟩,-⟩:=h;unfold maxLen at hn2;rw [hpa] at hl ⊢;rw [Cj] at hl;clear hpa;have HV:=AA hV;clear hV;go_enter Tryz.func35,Tryz.ntmps35;go_wp2_with fail;go_loopw [4,10] (fun n i wr=>∃ k:Nat,k<=al.length/\i=.int .i64 k/\n=.int .i64 (Na ((al.take k).map (·.1)) id)/\AU w wr) (fun _ i _=>al.length-(intOf i).toNat)
 case atStart => exact ⟨0,Bv _,rfl,rfl,bA (bR w) _⟩
 case round =>
  obtain ⟨k,hk,rfl,rfl,hb⟩:=hrel;have Hb:=AA hb;clear hb;have hd:=agC ((al.take k).map (·.1)) id;have hl2:((al.take k).map (·.1)).length<=al.length:=by simp;omega
  by_cases hlt:k<al.length
  ·obtain ⟨b,o,rfl,hlb,c0,c1,c2,c3,c4,c5⟩:=(hR.mono Hb.out).ar hlt;have HR:=AA hR;clear hR;obtain ⟨Av,cv,hv,-⟩:=(HV.out k hlt);rw [hv] at c3;clear hv;have Hs:=AA (agD al id k hlt);generalize Na ((al.take k).map (·.1)) id=d at *;go_wp2
   all_goals
    go_roundw
    case rel => exact ⟨k+1,AB,BJ,by rw [Hs.out];simp_all<;>go_num,bA Hb.out _⟩
    case measure => exact BL
  ·have hE:(al.take k).map (·.1)=al.map (·.1):=by rw [IQ AB]
   rw [hE];go_wp2;go_ret;exact ⟨Df rfl,Hb.out⟩
theorem aoB (v:Value) (p:Pl) (id:Int) (w:World) (h:Ci w v p) (hl:p.AP.length<=1099511627776) :
  Calls Tryz.prog 134 #[v,.int .i64 id] w fun e w'=>e=.returned (.int .i64 (Na p.AP id))/\AU w w':=by
 obtain ⟨vn,_,vf,al,rfl,hpa,-,⟨⟨An,cn,rfl,hn1,hn2,hR⟩,hV⟩,-⟩:=h;unfold maxLen at hn2;rw [hpa] at hl ⊢;rw [Cj] at hl;clear hpa hV;go_enter Tryz.func134,Tryz.ntmps134;go_wp2_with fail;go_loopw [5,6] (fun n i wr=>∃ k:Nat,k<=al.length/\i=.int .i64 k/\n=.int .i64 (Na ((al.take k).map (·.1)) id)/\AU w wr/\AO wr w.heap.size 26 #[vn,.slice An al.length cn,vf]) (fun _ i _=>al.length-(intOf i).toNat)
 case atStart => exact ⟨0,Bv _,rfl,rfl,bA (bR w) _,AO.made rfl _ _⟩
 case round =>
  obtain ⟨k,hk,rfl,rfl,hb,X2⟩:=hrel;have Hb:=AA hb;clear hb;obtain ⟨BU,BX,Bg,CB,-,-,-⟩:=X2.Az;have hd:=agC ((al.take k).map (·.1)) id;have hl2:((al.take k).map (·.1)).length<=al.length:=by simp;omega
  by_cases hlt:k<al.length
  ·obtain ⟨b,o,rfl,hlb,c0,c1,c2,-,c4,c5⟩:=(hR.mono Hb.out).ar hlt;have HR:=AA hR;clear hR;have Hs:=AA (agD al id k hlt);generalize Na ((al.take k).map (·.1)) id=d at *;go_wp2
   all_goals
    go_roundw
    case rel => exact ⟨k+1,AB,BJ,by rw [Hs.out];simp_all<;>go_num,Hb.out,X2⟩
    case measure => exact BL
  ·have hE:(al.take k).map (·.1)=al.map (·.1):=by rw [IQ AB]
   rw [hE];go_wp2;go_ret;exact ⟨Df rfl,Hb.out⟩
def OH (l:List Int):Bool:=(List.range (l.length-1)).all fun j=>decide (l.getD j 0<l.getD (j+1) 0)
theorem abz (l:List Int) (h:∀ j (hj:j+1<l.length),l[j]<l[j+1]):OH l=true:=by
 unfold OH;rw [KU];intro j hj;have hj':j+1<l.length:=by have:=Et.1 hj;omega
 have:=h j hj'
 simp [List.getD,Dh hj',Dh (show j<l.length by omega),this]
theorem agE (l:List Int) (j:Nat) (hj:j+1<l.length) (h:¬ l[j]<l[j+1]):OH l=false:=by
 unfold OH;rw [gY];refine ⟨j,Et.2 AB,?_⟩;simp [List.getD,Dh hj,Dh (show j<l.length by omega)];omega
theorem ac0 (v:Value) (l:List Int) (w:World) (h:Ints w v l) :
  Calls Tryz.prog 169 #[v] w fun e w'=>e=.returned (.bool (OH l))/\AU w w':=by
 obtain ⟨A,c,rfl,hn,hc,hR⟩:=h;unfold maxLen at hc;go_enter Tryz.func169,Tryz.ntmps169;go_wp2_with fail;go_loopw [3] (fun i wr=>∃ m:Nat,i=.int .i64 ((m:Int)+1)/\(m=0\/m+1<=l.length)/\AU w wr/\∀ j (hj:j+1<l.length),j<m->l[j]<l[j+1]) (fun i _=>l.length+1-(intOf i).toNat)
 case atStart => exact ⟨0,rfl,.inl rfl,bR w,fun j _ h=>by omega⟩
 case round =>
  obtain ⟨m,rfl,hm,hb,hno⟩:=hrel;have Hb:=AA hb;have Hno:=AA hno;clear hb hno;by_cases hlt:m+1<l.length
  ·obtain ⟨b,o,rfl,hlb,c1⟩:=(hR.mono Hb.out).int hlt;obtain ⟨b',o',e,QJ,c0⟩:=(hR.mono Hb.out).int (show m<l.length by omega);simp only [JM,Addr.mk.injEq,and_true] at e;obtain ⟨rfl,rfl⟩:=e;have HR:=AA hR;clear hR hm;have q1:IntKind.i64.wrap (m:Int)=m:=D6 _ AB;have q2:0<=(m:Int):=by omega
   have q3:(m:Int)<l.length:=by omega
   have q4:(m:Int)+1<l.length:=by omega
   have q5:0<=(m:Int)+1:=by omega
   have q6:((m:Int)+1).toNat=m+1:=by omega
   go_upto_region 4 with fail;refine DJ (wr) (.run 10 0 0 (.done)) fun CU QR Ae Ah hS=>?_
   iterate 10 refine Aj ?_
   refine DF ?_;clear hS Ah Ae;intro hB;have Bw:AU w wr.drew:=bT Hb.out hB;clear hB;by_cases hlt2:l[m]<l[m+1]
   ·go_wp2;go_roundw
    case rel => exact ⟨m+1,BJ,.inr AB,Bw,fun j hj hjm=>if e:j<m then Hno.out j hj e else by
      have:j=m:=by omega
      subst this;exact hlt2⟩
    case measure => exact BL
   ·have hf:=AA (agE l m hlt hlt2);go_wp2;go_ret;exact ⟨CW hf.out.symm,Bw⟩
  ·have hf:=AA (abz l fun j hj=>Hno.out j hj AB);go_wp2;go_ret;exact ⟨CW hf.out.symm,Hb.out⟩
theorem agF {α:Type} {a b:List α} (hl:a.length=b.length) (h:∀ j (hj:j<a.length),a[j]=b[j]):a=b :=
 Zq hl fun j h1 _=>h j h1
theorem agG {α:Type} {a b:List α} (j:Nat) (hj:j<a.length) (hj':j<b.length) (h:¬ a[j]=b[j]):¬ a=b:=by
 rintro rfl;exact h rfl
theorem aoC (v u:Value) (l m:List Pt) (w:World) (h:Dv w v l) (h':Dv w u m) :
  Calls Tryz.prog 93 #[v,u] w fun e w'=>e=.returned (.bool (decide (l=m)))/\AU w w':=by
 obtain ⟨A,c,rfl,hn,hc,hR⟩:=h;obtain ⟨A',c',rfl,hn',hc',hR'⟩:=h';unfold maxLen at hc hc';by_cases hlen:l.length=m.length
 case neg =>
  have hf:=AA (Gg (fun e:l=m=>hlen (congrArg List.length e)));have hl1:((l.length:Int) != (m.length:Int))=true:=by rw [bne_iff_ne];omega
  have hl2:(l.length != m.length)=true:=by rw [bne_iff_ne];omega
  clear hlen;go_enter Tryz.func93,Tryz.ntmps93;go_wp2;go_ret;exact ⟨CW hf.out.symm,bR w⟩
 case pos =>
 have hl1:((l.length:Int) != (m.length:Int))=false:=by simp [hlen]
 have hl2:(l.length != m.length)=false:=by simp [hlen]
 have Hlen:=AA hlen;clear hlen;go_enter Tryz.func93,Tryz.ntmps93;go_wp2_with fail;go_loopw [5] (fun i wr=>∃ k:Nat,k<=l.length/\i=.int .i64 k/\AU w wr/\∀ j (hj:j<l.length) (hj':j<m.length),j<k->l[j]=m[j]) (fun i _=>l.length-(intOf i).toNat)
 case atStart => exact ⟨0,Bv _,rfl,bR w,fun j _ _ h=>by omega⟩
 case round =>
  obtain ⟨k,hk,rfl,hb,hno⟩:=hrel;have Hb:=AA hb;have Hno:=AA hno;clear hb hno hl1 hl2;by_cases hlt:k<l.length
  ·have hlt':k<m.length:=by have:=Hlen.out;omega
   obtain ⟨b,o,rfl,hlb,c0,c1⟩:=(hR.mono Hb.out).pt hlt;obtain ⟨b',o',rfl,QJ,c0q,c1q⟩:=(hR'.mono Hb.out).pt hlt';have HR:=AA hR;have HR':=AA hR';clear hR hR';have q1:0<=(k:Int):=by omega
   have q2:(k:Int)<l.length:=by omega
   have q3:(k:Int)<m.length:=by omega
   by_cases he:l[k]=m[k]
   ·have hd:decide (l[k]=m[k])=true:=by simpa using he
    have He:=AA he;clear he;have hE:=aAb l[k] m[k];go_upto_region 6 with fail;refine DJ (wr) (.run 9 0 0 (.done)) fun CU QR Ae Ah hS=>?_
    iterate 9 refine Aj ?_
    refine DF ?_;clear hS Ah Ae;intro hB;have Bw:AU w wr.drew:=bT Hb.out hB;clear hB;go_wp2;go_roundw
    case rel => exact ⟨k+1,AB,BJ,Bw,fun j hj hj' hjk=>if e:j<k then Hno.out j hj hj' e else by
      have:j=k:=by omega
      subst this;exact He.out⟩
    case measure => exact BL
   ·have hd:decide (l[k]=m[k])=false:=by simpa using he
    have He:=AA he;clear he;have hE:=aAb l[k] m[k];go_upto_region 6 with fail;refine DJ (wr) (.run 9 0 0 (.done)) fun CU QR Ae Ah hS=>?_
    iterate 9 refine Aj ?_
    refine DF ?_;clear hS Ah Ae;intro hB;have Bw:AU w wr.drew:=bT Hb.out hB;clear hB;go_wp2;go_ret;exact ⟨CW (Gg (agG k hlt hlt' He.out)).symm,Bw⟩
  ·have hf:=AA (JO (agF Hlen.out fun j hj=>Hno.out j hj (by have:=Hlen.out;omega) AB));go_wp2;go_ret;exact ⟨CW hf.out.symm,Hb.out⟩
theorem Ar.ext_iff' {a b:Ar}:a=b↔a.id=b.id/\a.fr=b.fr/\a.dst=b.dst/\a.left=b.left/\a.right=b.right/\a.via=b.via:=by
 cases a;cases b;simp;intros;constructor<;>(rintro ⟨h1,h2,h3⟩;exact ⟨KT,KT,KT⟩)
theorem aoD (a b:Ar) (va vb:Value) (w:World) (ha:Dv w va a.via) (hb:Dv w vb b.via) :
  Calls Tryz.prog 68 #[UQ a va,UQ b vb] w fun e w'=>e=.returned (.bool (decide (a=b)))/\AU w w':=by
 have TP:∀ W,AU w W->Calls Tryz.prog 93 #[va,vb] W _:=fun W hW=>aoC va vb a.via b.via W (ha.mono hW) (hb.mono hW);obtain ⟨A,c,rfl,-⟩:=ha;obtain ⟨A',c',rfl,-⟩:=hb;have HP:=AA TP;clear TP;generalize hl:a.via.length=l at *;generalize hl':b.via.length=l' at *;have hx:=@Ar.ext_iff' a b;have Hx:=AA hx;clear hx hl hl';unfold UQ
 cases hid:(a.id == b.id)
 case false =>
  have hf:=AA (Gg (fun e:a=b=>by have:=(Hx.out.1 e);simp_all):decide (a=b)=false);go_enter Tryz.func68,Tryz.ntmps68;go_wp2;go_ret;refine ⟨CW hf.out.symm,?_⟩;exact EC
 case true =>
 cases hfr:(a.fr == b.fr)
 case false =>
  have hf:=AA (Gg (fun e:a=b=>by have:=(Hx.out.1 e);simp_all):decide (a=b)=false);go_enter Tryz.func68,Tryz.ntmps68;go_wp2;go_ret;refine ⟨CW hf.out.symm,?_⟩;exact EC
 case true =>
 cases hto:(a.dst == b.dst)
 case false =>
  have hf:=AA (Gg (fun e:a=b=>by have:=(Hx.out.1 e);simp_all):decide (a=b)=false);go_enter Tryz.func68,Tryz.ntmps68;go_wp2;go_ret;refine ⟨CW hf.out.symm,?_⟩;exact EC
 case true =>
 cases hleft:(a.left == b.left)
 case false =>
  have hf:=AA (Gg (fun e:a=b=>by have:=(Hx.out.1 e);simp_all):decide (a=b)=false);go_enter Tryz.func68,Tryz.ntmps68;go_wp2;go_ret;refine ⟨CW hf.out.symm,?_⟩;exact EC
 case true =>
 cases hright:(a.right == b.right)
 case false =>
  have hf:=AA (Gg (fun e:a=b=>by have:=(Hx.out.1 e);simp_all):decide (a=b)=false);go_enter Tryz.func68,Tryz.ntmps68;go_wp2;go_ret;refine ⟨CW hf.out.symm,?_⟩;exact EC
 case true =>
 cases hv:decide (a.via=b.via)
 all_goals
  have hf:decide (a=b)=decide (a.via=b.via):=by
   rw [MH,decide_eq_true_iff,decide_eq_true_iff,Hx.out];simp only [beq_iff_eq] at *;constructor
   · intro h;exact h.2.2.2.2.2
   · intro h;exact ⟨KT,KT,KT,KT,KT,h⟩
  rw [hv] at hf;have Hf:=AA hf;clear hf;go_enter Tryz.func68,Tryz.ntmps68;go_wp2_with fail;refine (HP.out _ (bA (bA (bR w) _) _)).mono ?_;rintro e w1 ⟨rfl,hb1⟩;rw [hv];go_wp2;go_ret;exact ⟨CW Hf.out.symm,bT (bA (bA (bR w) _) _) hb1⟩
theorem SB {α:Type} (l:List α) (q:α->Bool) (k:Nat) (hk:k<l.length) (h:q l[k]=true):l.any q=true:=OC.2 ⟨l[k],BO hk,h⟩
theorem Ue {α:Type} (l:List α) (q:α->Bool) (h:∀ j (hj:j<l.length),q l[j]=false):l.any q=false:=by
 rw [XO];intro x hx;obtain ⟨i,hi,rfl⟩:=EF.1 hx;simp [h i hi]
def F6 (l:List Int) (n:Int):Bool:=l.any (fun x=>x == n) || n == 0
theorem aoE (v:Value) (p:Pl) (n:Int) (w:World) (h:Ci w v p) :
  Calls Tryz.prog 129 #[v,.int .i64 n] w fun e w'=>e=.returned (.bool (F6 p.faces n))/\AU w w':=by
 obtain ⟨vn,va,_,al,rfl,hpa,-,-,⟨Af,cf,rfl,hn1,hn2,hR⟩⟩:=h;unfold maxLen at hn2;generalize p.faces=l at *;clear hpa;go_enter Tryz.func129,Tryz.ntmps129;go_wp2_with fail;go_loopw [5] (fun i wr=>∃ k:Nat,k<=l.length/\i=.int .i64 k/\AU w wr/\AO wr w.heap.size 26 #[vn,va,.slice Af l.length cf]/\∀ j (hj:j<l.length),j<k->(l[j] == n)=false) (fun i _=>l.length-(intOf i).toNat)
 case atStart => exact ⟨0,Bv _,rfl,bA (bR w) _,AO.made rfl _ _,fun j _ h=>by omega⟩
 case round =>
  obtain ⟨k,hk,rfl,hb,X2,hno⟩:=hrel;have Hb:=AA hb;have Hno:=AA hno;clear hb hno;obtain ⟨BU,BX,Bg,CB,-,-,-⟩:=X2.Az;by_cases hlt:k<l.length
  ·obtain ⟨b,o,rfl,hlb,c0⟩:=(hR.mono Hb.out).int hlt;have HR:=AA hR;clear hR
   cases he:(l[k] == n)
   ·go_wp2;go_roundw
    case rel => exact ⟨k+1,AB,BJ,Hb.out,X2,all_succ (p:=fun x=>(x == n)=false) Hno.out hlt he⟩
    case measure => exact BL
   ·have hf:=AA (SB l (fun x=>x == n) k hlt he);go_wp2;go_ret;exact ⟨CW (by rw [F6,hf.out];rfl),Hb.out⟩
  ·have hf:=AA (Ue l (fun x=>x == n) (fun j hj=>Hno.out j hj AB));go_wp2;go_ret;exact ⟨CW (by rw [F6,hf.out];simp),Hb.out⟩
def Ji (p:Pl):Bool:=p.AP.any (fun a=>decide (64<a.via.length)) || (decide (256<p.nodes.length) || decide (256<p.AP.length) || decide (64<p.faces.length))
theorem aoF (v:Value) (p:Pl) (w:World) (h:Ci w v p) :
  Calls Tryz.prog 123 #[v] w fun e w'=>e=.returned (.bool (Ji p))/\AU w w':=by
 obtain ⟨_,_,_,al,rfl,hpa,⟨An,cn,rfl,hn1,hn2,-⟩,⟨⟨Aa,ca,rfl,ha1,ha2,hR⟩,hV⟩,⟨Af,cf,rfl,hf1,hf2,-⟩⟩:=h;unfold maxLen at hn2 ha2 hf2;have hS:Ji p=(al.any (fun a=>decide (64<a.1.via.length)) || (decide (256<p.nodes.length) || decide (256<al.length) || decide (64<p.faces.length))):=by
  rw [Ji,hpa,gZ,Cj];rfl
 rw [hS];clear hS hpa;generalize p.nodes.length=nn at *;generalize p.faces.length=nf at *;have HV:=AA hV;clear hV;go_enter Tryz.func123,Tryz.ntmps123;go_wp2_with fail;go_loopw [3] (fun i wr=>∃ k:Nat,k<=al.length/\i=.int .i64 k/\AU w wr/\AO wr w.heap.size 26 #[.slice An nn cn,.slice Aa al.length ca,.slice Af nf cf]/\∀ j (hj:j<al.length),j<k->decide (64<al[j].1.via.length)=false) (fun i _=>al.length-(intOf i).toNat)
 case atStart => exact ⟨0,Bv _,rfl,bA (bR w) _,AO.made rfl _ _,fun j _ h=>by omega⟩
 case round =>
  obtain ⟨k,hk,rfl,hb,X2,hno⟩:=hrel;have Hb:=AA hb;have Hno:=AA hno;clear hb hno;obtain ⟨BU,BX,Bg,CB,-,-,-⟩:=X2.Az;by_cases hlt:k<al.length
  ·obtain ⟨b,o,rfl,hlb,c0,c1,c2,c3,c4,c5⟩:=(hR.mono Hb.out).ar hlt;have HR:=AA hR;clear hR;obtain ⟨Av,cv,hv,tY,hvm,-⟩:=HV.out k hlt;rw [hv] at c3;clear hv;unfold maxLen at hvm;by_cases he:64<al[k].1.via.length
   ·have hf:=AA (SB al (fun a=>decide (64<a.1.via.length)) k hlt (JO he));go_wp2;go_ret;exact ⟨CW (by rw [hf.out];rfl),Hb.out⟩
   ·have he':=AA (Gg he);go_wp2;go_roundw
    case rel => exact ⟨k+1,AB,BJ,Hb.out,X2,all_succ (p:=fun x=>decide (64<x.1.via.length)=false) Hno.out hlt he'.out⟩
    case measure => exact BL
  ·have hf:=AA (Ue al (fun a=>decide (64<a.1.via.length)) (fun j hj=>Hno.out j hj AB));go_wp2_with fail
   all_goals
    go_ret;refine ⟨CW (by rw [hf.out,MH];simp only [Bool.false_or,KD,EO,true_iff,Rq,false_iff];omega),Hb.out⟩
def ac1 (w:World) (b:Bool) (e:Ending) (w':World):Prop:=∃ r:Int,e=.returned (.int .i64 r)/\decide (0<=r)=b/\AU w w'
theorem aoG (v:Value) (l:List Int) (x:Int) (w:World) (h:Ints w v l) :
  Calls Tryz.prog 78 #[v,.int .i64 x] w (ac1 w (l.any fun y=>y == x)):=by
 obtain ⟨A,c,rfl,hn,hc,hR⟩:=h;unfold maxLen at hc;go_enter Tryz.func78,Tryz.ntmps78;go_wp2_with fail;go_loopw [8] (fun i wr=>∃ k:Nat,k<=l.length/\i=.int .i64 k/\AU w wr/\∀ j (hj:j<l.length),j<k->(fun y=>y == x) l[j]=false) (fun i _=>l.length-(intOf i).toNat)
 case atStart => exact ⟨0,Bv _,rfl,bR w,fun j _ h=>by omega⟩
 case round =>
  obtain ⟨k,hk,rfl,hb,hno⟩:=hrel;have Hb:=AA hb;have Hno:=AA hno;clear hb hno;by_cases hlt:k<l.length
  ·obtain ⟨b,o,rfl,hlb,c0⟩:=(hR.mono Hb.out).int hlt;have HR:=AA hR;clear hR
   cases he:(l[k] == x)
   ·go_wp2;go_roundw
    case rel => exact ⟨k+1,AB,BJ,Hb.out,all_succ (p:=fun y=>(fun y=>y == x) y=false) Hno.out hlt he⟩
    case measure => exact BL
   ·have hf:=AA (SB l (fun y=>y == x) k hlt he);have he2:(x == l[k])=true:=by simpa using (beq_iff_eq.1 he).symm
    go_wp2;go_ret;exact ⟨k,rfl,by rw [hf.out];simp,Hb.out⟩
  ·have hf:=AA (Ue l (fun y=>y == x) (fun j hj=>Hno.out j hj AB));go_wp2;go_ret;exact ⟨-1,rfl,by rw [hf.out];simp,Hb.out⟩
theorem aoH (v:Value) (l:List Int) (p:Int->Bool) (w:World) (h:Ints w v l)
  (hg:∀ y W,Calls Tryz.prog 221 #[(.int .i64 y)] W fun e w'=>e=.returned (.bool (p y))/\AU W w') :
  Calls Tryz.prog 257 #[v,.func (.func 221) #[] #[]] w (ac1 w (l.any p)):=by
 obtain ⟨A,c,rfl,hn,hc,hR⟩:=h;unfold maxLen at hc;have HG:=AA hg;clear hg;go_enter Tryz.func257,Tryz.ntmps257;go_wp2_with fail;go_loopw [8] (fun i wr=>∃ k:Nat,k<=l.length/\i=.int .i64 k/\AU w wr/\∀ j (hj:j<l.length),j<k->(p) l[j]=false) (fun i _=>l.length-(intOf i).toNat)
 case atStart => exact ⟨0,Bv _,rfl,bR w,fun j _ h=>by omega⟩
 case round =>
  obtain ⟨k,hk,rfl,hb,hno⟩:=hrel;have Hb:=AA hb;have Hno:=AA hno;clear hb hno;by_cases hlt:k<l.length
  ·obtain ⟨b,o,rfl,hlb,c0⟩:=(hR.mono Hb.out).int hlt;have HR:=AA hR;clear hR;go_wp2_with fail;refine (HG.out l[k] _).mono ?_;rintro e w1 ⟨rfl,hb1⟩;have Bw:AU w w1:=bT Hb.out hb1;clear hb1
   cases he:p l[k]
   ·go_wp2;go_roundw
    case rel => exact ⟨k+1,AB,BJ,Bw,all_succ (p:=fun y=>(p) y=false) Hno.out hlt he⟩
    case measure => exact BL
   ·have hf:=AA (SB l (p) k hlt he);go_wp2;go_ret;exact ⟨k,rfl,by rw [hf.out];simp,Bw⟩
  ·have hf:=AA (Ue l (p) (fun j hj=>Hno.out j hj AB));go_wp2;go_ret;exact ⟨-1,rfl,by rw [hf.out];simp,Hb.out⟩
theorem aoI (v:Value) (l:List Int) (p:Int->Bool) (w:World) (h:Ints w v l)
  (hg:∀ y W,Calls Tryz.prog 221 #[(.int .i64 y)] W fun e w'=>e=.returned (.bool (p y))/\AU W w') :
  Calls Tryz.prog 220 #[v,.func (.func 221) #[] #[]] w fun e w'=>e=.returned (.bool (l.any p))/\AU w w':=by
 have T:=aoH v l p w h hg;have HT:=AA T;clear T hg h;go_enter Tryz.func220,Tryz.ntmps220;go_wp2_with fail;refine HT.out.mono ?_;rintro e w1 ⟨r,rfl,hr,hb1⟩;have Hr:=AA hr;clear hr;go_wp2;go_ret;exact ⟨CW Hr.out,hb1⟩
theorem aoJ (v:Value) (l:List Pt) (p:Pt->Bool) (w:World) (h:Dv w v l)
  (hg:∀ y W,Calls Tryz.prog 222 #[(.agg #[.int .i64 y.x,.int .i64 y.y])] W fun e w'=>e=.returned (.bool (p y))/\AU W w') :
  Calls Tryz.prog 258 #[v,.func (.func 222) #[] #[]] w (ac1 w (l.any p)):=by
 obtain ⟨A,c,rfl,hn,hc,hR⟩:=h;unfold maxLen at hc;have HG:=AA hg;clear hg;go_enter Tryz.func258,Tryz.ntmps258;go_wp2_with fail;go_loopw [8] (fun i wr=>∃ k:Nat,k<=l.length/\i=.int .i64 k/\AU w wr/\∀ j (hj:j<l.length),j<k->(p) l[j]=false) (fun i _=>l.length-(intOf i).toNat)
 case atStart => exact ⟨0,Bv _,rfl,bR w,fun j _ h=>by omega⟩
 case round =>
  obtain ⟨k,hk,rfl,hb,hno⟩:=hrel;have Hb:=AA hb;have Hno:=AA hno;clear hb hno;by_cases hlt:k<l.length
  ·obtain ⟨b,o,rfl,hlb,c0,c1⟩:=(hR.mono Hb.out).pt hlt;have HR:=AA hR;clear hR;go_wp2_with fail;refine (HG.out l[k] _).mono ?_;rintro e w1 ⟨rfl,hb1⟩;have Bw:AU w w1:=bT Hb.out hb1;clear hb1
   cases he:p l[k]
   ·go_wp2;go_roundw
    case rel => exact ⟨k+1,AB,BJ,Bw,all_succ (p:=fun y=>(p) y=false) Hno.out hlt he⟩
    case measure => exact BL
   ·have hf:=AA (SB l (p) k hlt he);go_wp2;go_ret;exact ⟨k,rfl,by rw [hf.out];simp,Bw⟩
  ·have hf:=AA (Ue l (p) (fun j hj=>Hno.out j hj AB));go_wp2;go_ret;exact ⟨-1,rfl,by rw [hf.out];simp,Hb.out⟩
theorem aoK (v:Value) (l:List Pt) (p:Pt->Bool) (w:World) (h:Dv w v l)
  (hg:∀ y W,Calls Tryz.prog 222 #[(.agg #[.int .i64 y.x,.int .i64 y.y])] W fun e w'=>e=.returned (.bool (p y))/\AU W w') :
  Calls Tryz.prog 223 #[v,.func (.func 222) #[] #[]] w fun e w'=>e=.returned (.bool (l.any p))/\AU w w':=by
 have T:=aoJ v l p w h hg;have HT:=AA T;clear T hg h;go_enter Tryz.func223,Tryz.ntmps223;go_wp2_with fail;refine HT.out.mono ?_;rintro e w1 ⟨r,rfl,hr,hb1⟩;have Hr:=AA hr;clear hr;go_wp2;go_ret;exact ⟨CW Hr.out,hb1⟩
theorem aAo (v:Value) (l:List Int) (x:Int) (w:World) (h:Ints w v l) :
  Calls Tryz.prog 224 #[v,.int .i64 x] w fun e w'=>e=.returned (.bool (l.any (fun y=>y == x)))/\AU w w':=by
 have T:=aoG v l x w h;have HT:=AA T;clear T h;go_enter Tryz.func224,Tryz.ntmps224;go_wp2_with fail;refine HT.out.mono ?_;rintro e w1 ⟨r,rfl,hr,hb1⟩;have Hr:=AA hr;clear hr;go_wp2;go_ret;exact ⟨CW Hr.out,hb1⟩
def Jj (n:Int):Bool:=decide (n<1) || decide (1073741824<n)
theorem aoL (n:Int) (w:World):Calls Tryz.prog 221 #[.int .i64 n] w fun e w'=>e=.returned (.bool (Jj n))/\AU w w':=by
 by_cases h:n<1
 ·go_enter Tryz.func221,Tryz.ntmps221;go_wp2;go_ret;exact ⟨CW (by simp [Jj,h]),bR w⟩
 ·have h':decide (n<1)=false:=by simpa using h
  go_enter Tryz.func221,Tryz.ntmps221;go_wp2;go_ret;exact ⟨CW (by simp only [Jj,h',Bool.false_or]),bR w⟩
theorem ac2 (v:Value) (l:List Int) (w:World) (h:Ints w v l) :
  Calls Tryz.prog 170 #[v] w fun e w'=>e=.returned (.bool (!l.any Jj))/\AU w w':=by
 have T:=aoI v l Jj w h (fun y W=>aoL y W);have HT:=AA T;clear T h;go_enter Tryz.func170,Tryz.ntmps170;go_wp2_with fail;refine HT.out.mono ?_;rintro e w1 ⟨rfl,hb1⟩;go_wp2;go_ret;exact ⟨CW rfl,hb1⟩
def KY (p:Pt):Bool:=decide (-1048576<=p.x) && decide (p.x<=1048576) && decide (-1048576<=p.y) && decide (p.y<=1048576)
theorem aoM (p:Pt) (w:World):Calls Tryz.prog 96 #[BA p] w fun e w'=>e=.returned (.bool (KY p))/\AU w w':=by
 unfold BA;go_enter Tryz.func96,Tryz.ntmps96;go_wp2_with fail
 all_goals
  go_ret;refine ⟨CW (by rw [KY,MH];simp only [Ei,EO,true_iff,Rq,false_iff];omega),?_⟩;exact EC
