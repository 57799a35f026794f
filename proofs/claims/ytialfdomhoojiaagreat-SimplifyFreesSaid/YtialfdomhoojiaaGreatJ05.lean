import Derived.Test.YtialfdomhoojiaaGreatJ04
import Derived.Test.YtialfdomhoojiaaGreatGB
set_option linter.unusedSimpArgs false
set_option linter.unusedVariables false
namespace Go.Proofs.YtialfdomhoojiaaGreat
open Go.RowKit
structure Ln where
 arc:Ar
 path:List Pt
 g:Nat
 via:SV
 pa:Option Addr
 pc:Nat
def Oq (x:Ln):Array Value:=#[.int .i64 x.arc.id,.int .i64 x.arc.fr,.int .i64 x.arc.dst,.slice x.via.a x.via.n x.via.c,.int .i64 x.arc.left,.int .i64 x.arc.right,.slice x.pa x.path.length x.pc]
def uY (w:World) (x:Ln):Prop:=ah w x.g 237 (Oq x)/\Own w 0 39 2 dG (.slice x.pa x.path.length x.pc) x.path
theorem uY.keep {w w':World} {x:Ln} (h:uY w x) (hb:Below w.heap.size w w'):uY w' x:=⟨h.1.keep hb,h.2.keep hb⟩
structure bJ where
 ln:Ln
 k:Nat
def gU (s:bJ):List Value:=[.pointer (some ⟨s.ln.g,0,none⟩),.int .i64 s.k]
def fZ (s:bJ):Value:=.agg #[.pointer (some ⟨s.ln.g,0,none⟩),.int .i64 s.k]
def bJ.fst (s:bJ):Pt:=s.ln.path.getD s.k aQ
def bJ.snd (s:bJ):Pt:=s.ln.path.getD (s.k+1) aQ
def eU (w:World) (s:bJ):Prop:=uY w s.ln/\s.k+1<s.ln.path.length/\s.ln.path.length<=2097152
theorem eU.keep {w w':World} {s:bJ} (h:eU w s) (hb:Below w.heap.size w w'):eU w' s:=⟨h.1.keep hb,h.2⟩
theorem ah.yI {w:World} {g:Nat} {t:TypeId} {v0 v1 v2 v3 v4 v5 v6:Value} (h:ah w g t #[v0,v1,v2,v3,v4,v5,v6]):g<w.heap.size/\w.cell? ⟨g,0,none⟩=some v0/\w.cell? ⟨g,1,none⟩=some v1/\w.cell? ⟨g,2,none⟩=some v2/\w.cell? ⟨g,3,none⟩=some v3/\w.cell? ⟨g,4,none⟩=some v4/\w.cell? ⟨g,5,none⟩=some v5/\w.cell? ⟨g,6,none⟩=some v6/\w.frozen? ⟨g,0,none⟩=false/\w.frozen? ⟨g,1,none⟩=false/\w.frozen? ⟨g,2,none⟩=false/\w.frozen? ⟨g,3,none⟩=false/\w.frozen? ⟨g,4,none⟩=false/\w.frozen? ⟨g,5,none⟩=false/\w.frozen? ⟨g,6,none⟩=false :=
 ⟨h.lt,h.cell 0,h.cell 1,h.cell 2,h.cell 3,h.cell 4,h.cell 5,h.cell 6,h.frozen 0,h.frozen 1,h.frozen 2,h.frozen 3,h.frozen 4,h.frozen 5,h.frozen 6⟩
set_option maxRecDepth 100000 in
set_option maxHeartbeats 1000000 in
theorem F7 (s:bJ) (w:World) (h:eU w s) :
  Calls Tryz.prog 231 #[fZ s] w fun e w'=>e=.returned (.tuple #[aF s.fst,aF s.snd])/\nP w w':=by
 obtain ⟨⟨hL,hP⟩,hk,hm⟩:=h;obtain ⟨A,c,he,hn,hc,hR⟩:=Own.sl hP;clear hP;injection he with he1 _ he3;subst he1 he3;unfold Oq at hL;obtain ⟨b,o,hA,hlb,c0,c1⟩:=hR.pt (k:=s.k) (by omega);obtain ⟨b',o',hA',-,d0,d1⟩:=hR.pt (k:=s.k+1) hk;rw [hA] at hA' hL;simp only [Option.some.injEq,Addr.mk.injEq,and_true] at hA';obtain ⟨rfl,rfl⟩:=hA';have hf:s.fst=s.ln.path[s.k]:=by unfold bJ.fst;simp [List.getD,List.getElem?_eq_getElem (show s.k<s.ln.path.length by omega)]
 have hs:s.snd=s.ln.path[s.k+1]:=by unfold bJ.snd;simp [List.getD,List.getElem?_eq_getElem hk]
 rw [<- hf] at c0 c1;rw [<- hs] at d0 d1;unfold fZ aF;unfold maxLen at hc;clear hf hs hR hA;generalize s.fst=P0 at *;generalize s.snd=P1 at *;generalize s.ln.path.length=N at *;generalize s.k=k at *;generalize s.ln.g=g at *;have HL:=Lib.hid hL;clear hL;go_enter Tryz.func231,Tryz.ntmps231;go_upto_region 1 with fail;obtain ⟨W,hW⟩:∃ W:World,W=((w.alloc (.cells #[.pointer (some ⟨g,0,none⟩),.int .i64 k] 230)).alloc (.cells #[.int .i64 0,.int .i64 0] 39)).alloc (.cells #[.int .i64 0,.int .i64 0] 39):=⟨_,rfl⟩;have Bw:Below w.heap.size w W:=by rw [hW];exact bA (bA (bA (bR w) _) _) _
 have Dw:w.drawn<=W.drawn:=by rw [hW];exact dA (dA (dA (dR w) _) _) _
 have X1:ah W w.heap.size 230 #[.pointer (some ⟨g,0,none⟩),.int .i64 k]:=by rw [hW];exact ((ah.made rfl _ _).alloc _).alloc _
 have X2:ah W (w.heap.size+1) 39 #[.int .i64 0,.int .i64 0]:=by rw [hW];exact (ah.made (by simp) _ _).alloc _
 have X3:ah W (w.heap.size+1+1) 39 #[.int .i64 0,.int .i64 0]:=by rw [hW];exact ah.made (by simp) _ _
 rw [<- hW];clear hW;have X9:=HL.out.keep Bw;have hgl:=HL.out.lt;obtain ⟨bc,-⟩:=xX Bw;replace c0:=(bc b _ hlb).trans c0;replace c1:=(bc b _ hlb).trans c1;replace d0:=(bc b _ hlb).trans d0;replace d1:=(bc b _ hlb).trans d1;clear bc;obtain ⟨aZ,bf,bg,-,-⟩:=X1.aO;obtain ⟨iW,iY,iZ,X9c,X9d,X9e,X9f,X9g,-,-,-,-,-,-,-⟩:=X9.yI;obtain ⟨bF,bH,bI,Jy,Ot⟩:=X2.aO;obtain ⟨aW,aX,aY,F8,Vd⟩:=X3.aO;have q1:0<=(k:Int):=by omega
 have q2:(k:Int)<N:=by omega
 have q3:0<=(k:Int)+1:=by omega
 have q4:(k:Int)+1<N:=by omega
 have q5:((k:Int)+1).toNat=k+1:=by omega
 have q6:IntKind.i64.wrap ((k:Int)+1)=(k:Int)+1:=IntWalk.i64_in _ (by omega);have q7:w.heap.size<w.heap.size+1:=by omega
 have q8:g<w.heap.size+1:=by omega
 have q9:b<w.heap.size+1:=by omega
 refine dN (fA (w.heap.size+1) W) (.run 19 0 0 (.call 19 1048575 (.call 20 2097151 (.done)))) (by kernel_rfl) (Below.drew (Below.refl _ _)) (by kernel_rfl) (by kernel_rfl) (Nat.le_of_ble_eq_true (by kernel_rfl)) ?_;intro dO QR aj aA hS
 iterate 19
  apply qh;exact aj;exact rfl;exact hS;exact rfl
  · intro _ hqc;go_simp;try rfl
  try simp only [pu]
 refine aS (i:=19) (aB aj rfl) (fun K hK=>?_);have ak:=Lib.hid hS;clear hS;refine aG (aN rfl) ?_;go_simp;have hS:fA (w.heap.size+1) W _:=(Below.setCell (Below.setCell ak.out (p:=⟨w.heap.size+1,0,none⟩) (Nat.le_refl _) (.int .i64 P0.x)) (p:=⟨w.heap.size+1,1,none⟩) (Nat.le_refl _) (.int .i64 P0.y));clear ak;refine hK.out _ _ hS (fun _=>?_);clear hK K
 try simp only [pu]
 refine aS (i:=20) (aB aj rfl) (fun K hK=>?_);have ak:=Lib.hid hS;clear hS;refine aG (aN rfl) ?_;go_simp;have hS:fA (w.heap.size+1) W _:=(Below.setCell (Below.setCell ak.out (p:=⟨w.heap.size+1+1,0,none⟩) (Nat.le_succ _) (.int .i64 P1.x)) (p:=⟨w.heap.size+1+1,1,none⟩) (Nat.le_succ _) (.int .i64 P1.y));clear ak;refine hK.out _ _ hS (fun _=>?_);clear hK K
 try simp only [pu]
 refine dF ?_;refine aA.down _ _ ?_;have hB:Below (w.heap.size+1) W _:=hS;clear hS aA aj;go_wp2_with fail;refine abt (g:=w.heap.size+1) (g':=w.heap.size+1+1) (cs:=#[.int .i64 P0.x,.int .i64 P0.y]) (cs':=#[.int .i64 P1.x,.int .i64 P1.y]) rfl Uj Uj rfl rfl rfl ?_ ?_ ⟨rfl,?_,?_⟩
 · exact ((ah.Jc X2).far (p:=⟨w.heap.size+1+1,0,none⟩) (by simp) _).far (p:=⟨w.heap.size+1+1,1,none⟩) (by simp) _
 · exact ah.Jc ((X3.far (p:=⟨w.heap.size+1,0,none⟩) (by simp) _).far (p:=⟨w.heap.size+1,1,none⟩) (by simp) _)
 · exact Bw.trans (hB.mono (by omega))
 · exact Nat.le_succ_of_le Dw
def iw (s:bJ):Int:=min s.fst.x s.snd.x
def lI (s:bJ):Int:=max s.fst.x s.snd.x
set_option maxHeartbeats 1000000 in
theorem Ou (s:bJ) (w:World) (h:eU w s) :
  Calls Tryz.prog 228 #[fZ s] w fun e w'=>e=.returned (.int .i64 (iw s))/\nP w w':=by
 have TE:∀ W,Below w.heap.size w W->Calls Tryz.prog 231 #[fZ s] W _:=fun W hW=>F7 s W (h.keep hW);unfold iw;unfold fZ aF at TE;unfold fZ;have HE:=Lib.hid TE;clear TE h;generalize s.fst=P0 at *;generalize s.snd=P1 at *;generalize s.k=k at *;generalize s.ln.g=g at *;go_enter Tryz.func228,Tryz.ntmps228;go_wp2_with fail;refine (HE.out _ (bA (bR w) _)).mono ?_;rintro e w1 ⟨rfl,hb1,hd1⟩;have Bw:Below w.heap.size w w1:=bT (bA (bR w) _) hb1;have Dw:w.drawn<=w1.drawn:=dT (dA (dR w) _) hd1;clear hb1 hd1;go_wp2_with fail
 all_goals
  go_ret;refine ⟨dY ?_,?_,?_⟩
  · first | rfl | omega
  · exact bA (bA Bw _) _
  · exact Dw
set_option maxHeartbeats 1000000 in
theorem acB (s:bJ) (w:World) (h:eU w s) :
  Calls Tryz.prog 229 #[fZ s] w fun e w'=>e=.returned (.int .i64 (lI s))/\nP w w':=by
 have TE:∀ W,Below w.heap.size w W->Calls Tryz.prog 231 #[fZ s] W _:=fun W hW=>F7 s W (h.keep hW);unfold lI;unfold fZ aF at TE;unfold fZ;have HE:=Lib.hid TE;clear TE h;generalize s.fst=P0 at *;generalize s.snd=P1 at *;generalize s.k=k at *;generalize s.ln.g=g at *;go_enter Tryz.func229,Tryz.ntmps229;go_wp2_with fail;refine (HE.out _ (bA (bR w) _)).mono ?_;rintro e w1 ⟨rfl,hb1,hd1⟩;have Bw:Below w.heap.size w w1:=bT (bA (bR w) _) hb1;have Dw:w.drawn<=w1.drawn:=dT (dA (dR w) _) hd1;clear hb1 hd1;go_wp2_with fail
 all_goals
  go_ret;refine ⟨dY ?_,?_,?_⟩
  · first | rfl | omega
  · exact bA (bA Bw _) _
  · exact Dw
set_option maxHeartbeats 1000000 in
theorem Ve (s:bJ) (w:World) :
  Calls Tryz.prog 232 #[fZ s] w fun e w'=>e=.returned (.bool ((s.k:Int) == 0))/\Below w.heap.size w w':=by
 unfold fZ;generalize s.k=k;generalize s.ln.g=g;go_enter Tryz.func232,Tryz.ntmps232;go_wp2_with fail;go_ret;exact ⟨rfl,bA (bR w) _⟩
set_option maxRecDepth 100000 in
set_option maxHeartbeats 1000000 in
theorem Vf (s:bJ) (w:World) (h:eU w s) :
  Calls Tryz.prog 233 #[fZ s] w fun e w'=>e=.returned (.bool ((s.k:Int) == (s.ln.path.length:Int)-2))/\Below w.heap.size w w':=by
 obtain ⟨⟨hL,hP⟩,hk,hm⟩:=h;unfold Oq at hL;clear hP;unfold fZ;generalize s.ln.path.length=N at *;generalize s.k=k at *;generalize s.ln.g=g at *;have HL:=Lib.hid hL;clear hL;go_enter Tryz.func233,Tryz.ntmps233;go_upto_region 1 with fail;obtain ⟨W,hW⟩:∃ W:World,W=w.alloc (.cells #[.pointer (some ⟨g,0,none⟩),.int .i64 k] 230):=⟨_,rfl⟩;have Bw:Below w.heap.size w W:=by rw [hW];exact bA (bR w) _
 have X1:ah W w.heap.size 230 #[.pointer (some ⟨g,0,none⟩),.int .i64 k]:=by rw [hW];exact ah.made rfl _ _
 rw [<- hW];clear hW;have X9:=HL.out.keep Bw;obtain ⟨aZ,bf,bg,-,-⟩:=X1.aO;obtain ⟨iW,iY,iZ,X9c,X9d,X9e,X9f,X9g,-,-,-,-,-,-,-⟩:=X9.yI;have q6:IntKind.i64.wrap ((N:Int)-2)=(N:Int)-2:=IntWalk.i64_in _ (by omega);refine dN (Since W) (.run 11 0 0 (.done)) (by kernel_rfl) (bD (bR _)) (by kernel_rfl) (by kernel_rfl) (Nat.le_of_ble_eq_true (by kernel_rfl)) ?_;intro dO QR aj aA hS
 iterate 11
  apply aH;exact aj;exact rfl;exact hS;exact rfl
  · intro _ hqc;go_simp;try rfl
  try simp only [pu]
 refine dF ?_;refine aA.down _ _ ?_;have hB:Below W.heap.size W W.drew:=hS;clear hS aA aj;go_wp2_with fail;go_ret;exact ⟨rfl,bT Bw hB⟩
theorem uY.grow {w w':World} {x:Ln} {row:Option Nat} {e:TypeId} (h:uY w x) (hg:w.grownBy w' row) (hr:∀ g,row=some g->∃ cs,ah w g e cs) (h1:e≠237) (h2:e≠39):uY w' x:=by
 refine ⟨h.1.grow hg (fun e'=>?_),Own.grown h.2 hg (fun g hg' e'=>?_)⟩
 ·obtain ⟨cs,hb⟩:=hr _ e'.symm;exact ah.vW hb h.1 h1 rfl
 ·obtain ⟨cs,hb⟩:=hr _ e'.symm;obtain ⟨cs',hb'⟩:=h.2.blk hg';exact ah.vW hb hb' h2 rfl
theorem eU.grow {w w':World} {s:bJ} {row:Option Nat} {e:TypeId} (h:eU w s) (hg:w.grownBy w' row) (hr:∀ g,row=some g->∃ cs,ah w g e cs) (h1:e≠237) (h2:e≠39):eU w' s:=⟨h.1.grow hg hr h1 h2,h.2⟩
theorem acC:Elem Tryz.prog 224 230 2 16:=Elem.rH (z:=.agg #[.pointer none,.int .i64 0]) (by kernel_rfl) (by kernel_rfl) rfl (by omega)
theorem Jz (s:bJ):(gU s).length=2:=rfl
theorem Vg (s:bJ):∀ u∈gU s,u.oneCell'=true:=by simp [gU,Value.oneCell']
theorem Sl.acD {w:World} {g:Nat} {t:TypeId} {s:bJ} (h:ah w g t #[.pointer (some ⟨s.ln.g,0,none⟩),.int .i64 s.k]) :
  Sl w (.slice (some ⟨g,0,none⟩) 1 1) ([s] : List bJ).length (([s] : List bJ).flatMap gU):=Sl.lit (n:=1) h rfl (eG (by omega))
def wJ (l:List Pt):Bool:=(List.range (l.length-1)).all fun k=>!decide (l.getD k aQ=l.getD (k+1) aQ)
theorem acE (l:List Pt) (k:Nat) (hk:k+1<l.length) (h:l[k]=l[k+1]):wJ l=false:=by
 unfold wJ;rw [List.all_eq_false];exact ⟨k,List.mem_range.2 (by omega),by simp [List.getD,List.getElem?_eq_getElem hk,List.getElem?_eq_getElem (show k<l.length by omega),h]⟩
theorem acF (l:List Pt) (h:∀ k (hk:k+1<l.length),¬ l[k]=l[k+1]):wJ l=true:=by
 unfold wJ;rw [List.all_eq_true];intro k hk;have hk:k+1<l.length:=by have:=List.mem_range.1 hk;omega
 have:=h k hk
 simpa [List.getD,List.getElem?_eq_getElem hk,List.getElem?_eq_getElem (show k<l.length by omega)] using this
def jr (p:Pl) (a:Ar):Bool:=match pathOf p a.id with
 | none=>false
 | some l=>!(a.fr == a.dst && decide ((l.length:Int)<4)) && wJ l
structure fE where
 arc:Ar
 path:List Pt
 k:Nat
def bJ.abs (s:bJ):fE:=⟨s.ln.arc,s.ln.path,s.k⟩
def eH (p:Pl) (a:Ar):List fE:=(List.range (((pathOf p a.id).getD []).length-1)).map fun k=>⟨a,(pathOf p a.id).getD [],k⟩
theorem acG (p:Pl) (a:Ar) (k:Nat) (hk:k+1<((pathOf p a.id).getD []).length):(eH p a).take (k+1)=(eH p a).take k++[⟨a,(pathOf p a.id).getD [],k⟩]:=by
 have h:k<(eH p a).length:=by simp only [eH,List.length_map,List.length_range];omega
 rw [List.take_succ_eq_append_getElem h];simp [eH]
theorem acH {p:Pl} {id:Int} {l:List Pt} (h:pathOf p id=some l) (hsh:Short p):2<=l.length/\l.length<=1048578:=by
 unfold pathOf at h
 cases ha:findAr p.au id with
 | none=>rw [ha] at h;cases h
 | some a =>
  rw [ha] at h;simp only [] at h;split at h
  ·injection h with h;subst h;rw [jQ];have:=hsh a (yw ha)
   omega
  · cases h
def Vh (w:World) (p:Pl) (e:Ending) (w':World):Prop :=
 Below w.heap.size w w'/\if p.au.all (jr p)=true then
  ∃ (sl:List bJ) (v:Value),e=.returned (.tuple #[v,.bool true])/\sl.map bJ.abs=p.au.flatMap (eH p)/\(∀ s∈sl,eU w' s)/\Own w' w.heap.size 230 2 gU v sl
 else e=.returned (.tuple #[.slice none 0 0,.bool false])
set_option maxRecDepth 100000 in
set_option maxHeartbeats 4000000 in
theorem acI (v:Value) (p:Pl) (w:World) (h:dh w v p) (hsh:Short p) (hl:(p.au.flatMap (eH p)).length<=2097152) :
  Calls Tryz.prog 225 #[v] w (Vh w p):=by
 have HP:=Lib.hid h;have ji:=Lib.hid hsh;clear hsh;obtain ⟨vn,_,vf,al,rfl,hpa,-,⟨⟨Aa,ca,rfl,ha1,ha2,fO⟩,hV⟩,-⟩:=h;unfold maxLen at ha2;have HV:=Lib.hid hV;clear hV;have iV:=Lib.hid fO;clear fO;have hL:∀ k,((al.take k).flatMap fun a=>eH p a.1).length<=2097152:=fun k=>by
  have h1:=Jm al (fun a=>eH p a.1) k;rw [hpa,List.flatMap_map] at hl;exact Nat.le_trans h1 hl
 have HL:=Lib.hid hL;have Ov:p.au.all (jr p)=al.all (fun a=>jr p a.1):=by rw [hpa,List.all_map];rfl
 have Vj:p.au.flatMap (eH p)=al.flatMap (fun a=>eH p a.1):=by rw [hpa,List.flatMap_map]
 obtain ⟨Q,hQ⟩:∃ Q,Q=Vh w p:=⟨_,rfl⟩;have hbad:∀ k (hk:k<al.length),jr p al[k].1=false->∀ w',Below w.heap.size w w'->Q (.returned (.tuple #[.slice none 0 0,.bool false])) w':=fun k hk hb w' hw=>by
  rw [hQ];refine ⟨hw,?_⟩;rw [Ov,FY al (fun a=>jr p a.1) k hk hb];rfl
 have hgood:(∀ k (hk:k<al.length),jr p al[k].1=true)->∀ (sl:List bJ) (v:Value) w',Below w.heap.size w w'->sl.map bJ.abs=al.flatMap (fun a=>eH p a.1)->(∀ s∈sl,eU w' s)->Own w' w.heap.size 230 2 gU v sl->Q (.returned (.tuple #[v,.bool true])) w':=fun h1 sl v w' hw h2 h3 h4=>by
  rw [hQ];refine ⟨hw,?_⟩;rw [Ov,Om al (fun a=>jr p a.1) h1,if_pos rfl,Vj];exact ⟨sl,v,rfl,h2,h3,h4⟩
 have Ox:=Lib.hid hbad;have acJ:=Lib.hid hgood;rw [<- hQ];clear hpa hl hL Ov Vj hbad hgood hQ;go_enter Tryz.func225,Tryz.ntmps225;go_wp2_with fail;obtain ⟨W0,hW0⟩:∃ W0:World,W0=w.alloc (.cells #[vn,.slice Aa al.length ca,vf] 26):=⟨_,rfl⟩;have X1:ah W0 w.heap.size 26 #[vn,.slice Aa al.length ca,vf]:=by rw [hW0];exact ah.made rfl _ _
 have jf:Below w.heap.size w W0:=by rw [hW0];exact bA (bR w) _
 have HX0:=Lib.hid X1;rw [<- hW0];clear hW0 X1;go_loopw [2,13] (fun s i wr=>∃ (k:Nat) (sl:List bJ),k<=al.length/\i=.int .i64 k/\sl.map bJ.abs=((al.take k).flatMap fun a=>eH p a.1)/\(∀ s∈sl,eU wr s)/\Own wr W0.heap.size 230 2 gU s sl/\Below W0.heap.size W0 wr/\∀ j (hj:j<al.length),j<k->jr p al[j].1=true) (fun _ i _=>al.length-(intOf i).toNat)
 case atStart => exact ⟨0,[],Nat.zero_le _,rfl,rfl,(fun _ h=>by cases h),Own.nil _ _ _ _ _,bR W0,fun _ _ h=>by omega⟩
 case round =>
  obtain ⟨k,sl,hk,rfl,hsl,hok,hown,hb,hno⟩:=hrel;have Hb:=Lib.hid hb;have fH:=Lib.hid hown;have F9:=Lib.hid hsl;have Vk:=Lib.hid hok;have Hno:=Lib.hid hno;have X1:=HX0.out.keep hb;have hsz:=hb.size;clear hb hown hsl hok hno;obtain ⟨aZ,bf,bg,bK,-,-,-⟩:=X1.aJ;by_cases hlt:k<al.length
  case neg =>
   have hE:al.take k=al:=List.take_of_length_le (by omega);have hs:=F9.out;rw [hE] at hs;have Hs:=Lib.hid hs;clear hE hs;go_wp2_with fail;exact acJ.out (fun j hj=>Hno.out j hj (by omega)) sl _ _ (bT jf Hb.out) Hs.out Vk.out (fH.out.fM jf.size)
  obtain ⟨b,o,rfl,hlb,c0,c1,c2,c3,c4,c5⟩:=(iV.out.mono (bT jf Hb.out)).ar hlt;obtain ⟨Av,cv,hv,-⟩:=HV.out k hlt;rw [hv] at c3;clear hv;go_wp2_with fail;refine (DU _ p _ _ (HP.out.mono (bT jf (bA Hb.out _))) ji.out).mono ?_;rintro e w2 ⟨Ap,cp,rfl,hb2,hop⟩;have hA1:Below wr.heap.size wr w2:=bT (bA (bR wr) _) hb2;have X5:ah w2 wr.heap.size 50 #[.int .i64 al[k].1.id,.int .i64 al[k].1.fr,.int .i64 al[k].1.dst,.slice Av al[k].1.via.length cv,.int .i64 al[k].1.left,.int .i64 al[k].1.right]:=(ah.made rfl _ _).keep hb2;have hown2:=fH.out.keep hA1;have hok2:∀ s∈sl,eU w2 s:=fun s hs=>(Vk.out s hs).keep hA1;have B2:=bT Hb.out hA1;have hsz2:=B2.size;replace X1:=X1.keep hA1;have iE:=Lib.hid X1;have acK:=Lib.hid hown2;have acL:=Lib.hid hok2;have HB2:=Lib.hid B2;clear hb2 hA1 hown2 hok2 B2 c0 c1 c2 c3 c4 c5 hlb X1 aZ bf bg bK;obtain ⟨bV,bW,dH,iR,qG,yJ,yK,-,-,-,-,-,-⟩:=X5.eY
  cases hpo:pathOf p al[k].1.id with
  | none =>
   have hf:=Lib.hid (show jr p al[k].1=false by unfold jr;rw [hpo]);clear hop;simp only [Option.isSome_none,Bool.false_eq_true,if_false,Option.getD_none,List.length_nil];go_wp2_with fail;exact Ox.out k hlt hf.out _ (bT jf HB2.out)
  | some l =>
  rw [hpo] at hop;simp only [Option.isSome_some,if_true,Option.getD_some] at hop ⊢;have Gf:=Lib.hid hpo;have hll:=acH hpo ji.out;have Hop:=Lib.hid hop;clear hpo hop;have Vl:jr p al[k].1=(!(al[k].1.fr == al[k].1.dst && decide ((l.length:Int)<4)) && wJ l):=by unfold jr;rw [Gf.out]
  have Vm:=Lib.hid Vl;clear Vl;by_cases hloop:al[k].1.fr=al[k].1.dst/\(l.length:Int)<4
  ·obtain ⟨he1,he2⟩:=hloop;have hf:=Lib.hid (show jr p al[k].1=false by rw [Vm.out,beq_iff_eq.2 he1,decide_eq_true he2];rfl);have hz:=beq_iff_eq.2 he1;clear he1;go_wp2_with fail;exact Ox.out k hlt hf.out _ (bT jf HB2.out)
  have hz:(al[k].1.fr == al[k].1.dst && decide ((l.length:Int)<4))=false:=by
   rw [Bool.and_eq_false_iff];by_cases e:al[k].1.fr=al[k].1.dst
   · right;exact decide_eq_false (fun h=>hloop ⟨e,h⟩)
   · left;exact beq_eq_false_iff_ne.2 e
  have Vo:=Lib.hid (show jr p al[k].1=wJ l by rw [Vm.out,hz];rfl);go_upto_region 5 with fail;go_cut [37] (fun u wx=>u=.bool false/\wx=w2)
  case first =>
   cases e1:(al[k].1.fr == al[k].1.dst)
   ·go_wp2_with fail;go_meet
    case rel => exact ⟨rfl,rfl⟩
   ·have e2:¬ (l.length:Int)<4:=fun h=>hloop ⟨eq_of_beq e1,h⟩;clear hloop hz;go_wp2_with fail;go_meet
    case rel => exact ⟨rfl,rfl⟩
  case rest =>
  obtain ⟨rfl,rfl⟩:=hcut;clear hloop hz;go_wp2_with fail;obtain ⟨ln,hln⟩:∃ ln:Ln,ln=⟨al[k].1,l,wc.heap.size,⟨Av,al[k].1.via.length,cv⟩,Ap,cp⟩:=⟨_,rfl⟩;obtain ⟨W5,qF⟩:∃ W5:World,W5=wc.alloc (.cells #[.int .i64 al[k].1.id,.int .i64 al[k].1.fr,.int .i64 al[k].1.dst,.slice Av al[k].1.via.length cv,.int .i64 al[k].1.left,.int .i64 al[k].1.right,.slice Ap l.length cp] 237):=⟨_,rfl⟩;have wI:Below wc.heap.size wc W5:=by rw [qF];exact bA (bR wc) _
  have hlo:uY W5 ln:=by
   rw [hln];refine ⟨?_,(Hop.out.keep wI).fM (Nat.zero_le _)⟩;rw [qF];exact ah.made rfl _ _
  rw [<- qF];have Hlo:=Lib.hid hlo;have JA:=Lib.hid hln;have acM:=Lib.hid (acK.out.keep wI);have acN:=Lib.hid (fun s hs=>(acL.out s hs).keep wI);have cO:=Lib.hid (bT HB2.out wI);clear wI qF hlo hln X5 bV bW dH iR qG yJ yK;obtain ⟨M,hM⟩:∃ M,l.length=M+1:=⟨l.length-1,by omega⟩;have HM:=Lib.hid hM;clear hM;obtain ⟨wo,rfl⟩:∃ wo:World,wo=wr:=⟨_,rfl⟩;go_loopw [2,45] (fun s i wx=>∃ (j:Nat) (sx:List bJ),j+1<=l.length/\i=.int .i64 j/\sx.map bJ.abs=((al.take k).flatMap fun a=>eH p a.1)++(eH p al[k].1).take j/\(∀ s∈sx,eU wx s)/\uY wx ln/\Own wx W0.heap.size 230 2 gU s sx/\Below W0.heap.size W0 wx/\∀ m (hm:m+1<l.length),m<j->¬ l[m]=l[m+1]) (fun _ i _=>l.length-(intOf i).toNat)
  case atStart => exact ⟨0,sl,by omega,rfl,by rw [F9.out];simp,acN.out,Hlo.out,acM.out,cO.out,fun _ _ h=>by omega⟩
  case round =>
   obtain ⟨j,sx,hj,rfl,hsx,Vp,Vq,Vr,hbx,hnx⟩:=hrel;have gy:=Lib.hid hbx;have Vs:=Lib.hid Vr;have Oy:=Lib.hid hsx;have Vt:=Lib.hid Vp;have Oz:=Lib.hid Vq;have rZ:=Lib.hid hnx;have acO:=hbx.size;clear hbx Vr hsx Vp Vq hnx;by_cases hlj:j+1<l.length
   case neg =>
    have hdist:=Lib.hid (show jr p al[k].1=true by rw [Vo.out];exact acF l (fun m hm=>rZ.out m hm (by omega)));have DF:=Lib.hid (show sx.map bJ.abs=((al.take (k+1)).flatMap fun a=>eH p a.1) by
     rw [Oy.out,List.take_succ_eq_append_getElem hlt,List.flatMap_append,List.take_of_length_le (l:=eH p al[k].1) (by simp only [eH,Gf.out,List.length_map,List.length_range,Option.getD_some];omega)];simp)
    go_wp2_with fail;go_roundw
    case rel => exact ⟨k+1,sx,by omega,by go_num,DF.out,Vt.out,Vs.out,gy.out,all_succ (p:=fun x=>jr p x.1=true) Hno.out hlt hdist.out⟩
    case measure => simp [intOf];omega
   have hrow:=Own.sl Oz.out.2;rw [JA.out] at hrow;obtain ⟨A1',ajt,he1,-,-,hrow⟩:=hrow;injection he1 with he1 _ he3;subst he1;subst he3;obtain ⟨pb,po,acP,hlp,f0,f1⟩:=hrow.pt (k:=j) (by simp only [];omega);subst acP;obtain ⟨pb',po',Vu,acQ,f2,f3⟩:=hrow.pt (k:=j+1) (by simp only [];omega);simp only [Option.some.injEq,Addr.mk.injEq,and_true] at Vu;obtain ⟨rfl,rfl⟩:=Vu;simp only [] at f0 f1 f2 f3;clear hrow acQ;have JB:IntKind.i64.wrap ((j:Int)+1)=(j:Int)+1:=IntWalk.i64_in _ (by omega);have r1:0<=(j:Int):=by omega
   have r2:(j:Int)<l.length:=by omega
   have r3:0<=(j:Int)+1:=by omega
   have r4:(j:Int)+1<l.length:=by omega
   have r5:((j:Int)+1).toNat=j+1:=by omega
   have hE:=zV l[j] l[j+1];by_cases he:l[j]=l[j+1]
   ·have hd:decide (l[j]=l[j+1])=true:=decide_eq_true he;have hf:=Lib.hid (show jr p al[k].1=false by rw [Vo.out];exact acE l j hlj he);clear he;go_upto_region 11 with fail;refine dN (Since wr) (.run 10 0 0 (.done)) (by kernel_rfl) (bD (bR _)) (by kernel_rfl) (by kernel_rfl) (Nat.le_of_ble_eq_true (by kernel_rfl)) ?_;intro dO QR aj aA hS
    iterate 10
     apply aH;exact aj;exact rfl;exact hS;exact rfl
     · intro _ hqc;go_simp;try rfl
     try simp only [pu]
    refine dF ?_;refine aA.down _ _ ?_;have hB:Below wr.heap.size wr wr.drew:=hS;clear hS aA aj;go_wp2_with fail;exact Ox.out k hlt hf.out _ (bT jf (bT gy.out hB))
   have hd:decide (l[j]=l[j+1])=false:=decide_eq_false he;have He:=Lib.hid he;clear he;go_upto_region 11 with fail;refine dN (Since wr) (.run 10 0 0 (.done)) (by kernel_rfl) (bD (bR _)) (by kernel_rfl) (by kernel_rfl) (Nat.le_of_ble_eq_true (by kernel_rfl)) ?_;intro dO QR aj aA hS
   iterate 10
    apply aH;exact aj;exact rfl;exact hS;exact rfl
    · intro _ hqc;go_simp;try rfl
    try simp only [pu]
   refine dF ?_;refine aA.down _ _ ?_;have hB:Below wr.heap.size wr wr.drew:=hS;clear hS aA aj;clear f0 f1 f2 f3 JB r3 r4 r5 hE;have hlen:=Lib.hid (show sx.length+1<=2097152 by
    have h2:=congrArg List.length Oy.out;rw [List.length_map,List.length_append,List.length_take] at h2;have h3:=HL.out (k+1);rw [List.take_succ_eq_append_getElem hlt,List.flatMap_append,List.length_append] at h3;simp only [List.flatMap_cons,List.flatMap_nil,List.append_nil] at h3;have h4:(eH p al[k].1).length=l.length-1:=by simp only [eH,Gf.out,List.length_map,List.length_range,Option.getD_some]
    omega)
   have hnew:Hid (eU wr.drew ⟨ln,j⟩):=Lib.hid ⟨Oz.out.keep hB,by rw [JA.out];exact ⟨hlj,by simp only [];omega⟩⟩;have hgl:ln.g=wc.heap.size:=by rw [JA.out]
   have Hgl:=Lib.hid hgl;have OA:Hid (Own wr.drew W0.heap.size 230 2 gU u2 sx):=Lib.hid Vs.out;have acR:Hid (∀ s∈sx,eU wr.drew s):=Lib.hid fun s hs=>(Vt.out s hs).keep hB;have acS:Hid (uY wr.drew ln):=Lib.hid (Oz.out.keep hB);have aju:W0.heap.size<=wr.drew.heap.size:=acO;clear hB hgl;go_wp2_with
    (at_builtin
     refine jX _ rfl (.tmp 58) (.tmp 62) _ rfl (base:=W0.heap.size) acC Jz Vg rfl (OA.out.alloc _) rfl (l2:=[(⟨ln,j⟩:bJ)]) (Sl.acD (by rw [Hgl.out];exact ah.made (by simp) _ _)) (by have:=hlen.out;simp only [List.length_cons,List.length_nil];omega) (by have:=hlen.out;simp only [List.length_cons,List.length_nil];omega) (by simp;omega) ?_;intro v1 w1 hown1 hg hat;have nS:=Lib.hid (show Below W0.heap.size W0 w1 from bG (bA (bD gy.out) _) hg (fun g hk=>(OA.out.lt g hk).1));have hrow:∀ g,(u2:Value).ownBlock=some g->∃ cs,ah (wr.drew.alloc (.cells #[.pointer (some ⟨wc.heap.size,0,none⟩),.int .i64 j] 230)) g 230 cs:=fun g hg=>(OA.out.alloc _).blk hg;have acT:=Lib.hid (show ∀ s∈sx++[(⟨ln,j⟩:bJ)],eU w1 s from fun s hs=>by
      rcases List.mem_append.1 hs with h | h
      · exact ((acR.out s h).keep (bA (bR wr.drew) _)).grow hg hrow (by decide) (by decide)
      ·rw [List.mem_singleton.1 h];exact (hnew.out.keep (bA (bR wr.drew) _)).grow hg hrow (by decide) (by decide))
     have acU:=Lib.hid ((acS.out.keep (bA (bR wr.drew) _)).grow hg hrow (by decide) (by decide));clear hg hat hrow;have tV:=Lib.hid hown1;clear hown1)
   have DC:=Lib.hid (show (sx++[(⟨ln,j⟩:bJ)]).map bJ.abs=((al.take k).flatMap fun a=>eH p a.1)++(eH p al[k].1).take (j+1) by
    rw [List.map_append,Oy.out,acG p al[k].1 j (by rw [Gf.out];exact hlj),List.append_assoc];simp only [List.map_cons,List.map_nil,bJ.abs,Gf.out,Option.getD_some,JA.out])
   go_roundw
   case rel => exact ⟨j+1,_,by omega,by go_num,DC.out,acT.out,acU.out,tV.out,nS.out,fun m hm hmj=>if e:m<j then rZ.out m hm e else by
     have:m=j:=by omega
     subst this;exact He.out⟩
   case measure => simp [intOf];omega
set_option maxHeartbeats 400000 in
theorem acV (x:Int) (w:World):Calls Tryz.prog 111 #[.int .i64 x] w fun e w'=>e=.returned (.bool false)/\w=w':=by
 have hx:(x != x)=false:=by simp
 go_enter Tryz.func111,Tryz.ntmps111;go_wp2_with fail;go_ret;exact ⟨by simp,rfl⟩
def uZ (x y:Int):Int:=if x<y then -1 else if y<x then 1 else 0
set_option maxHeartbeats 400000 in
theorem acW (x y:Int) (w:World):Calls Tryz.prog 52 #[.int .i64 x,.int .i64 y] w fun e w'=>e=.returned (.int .i64 (uZ x y))/\w=w':=by
 have HN:=Lib.hid (fun (z:Int) (W:World)=>acV z W);obtain ⟨q,hq⟩:∃ q,uZ x y=q:=⟨_,rfl⟩;rw [hq];have Hq:=Lib.hid hq;clear hq;go_enter Tryz.func52,Tryz.ntmps52;go_wp2_with fail;refine (HN.out _ _).mono ?_;rintro e w' ⟨rfl,rfl⟩;go_wp2_with fail;refine (HN.out _ _).mono ?_;rintro e w' ⟨rfl,rfl⟩;go_wp2_with fail
 all_goals
  go_ret;refine ⟨dY ?_,rfl⟩;rw [<- Hq.out];unfold uZ
  first | rw [if_pos (by assumption)] | (rw [if_neg (by assumption),if_pos (by assumption)]) | (rw [if_neg (by assumption),if_neg (by assumption)]) | (split<;>(try split)<;>omega)
theorem acX (x y:Int) (w:World):Calls Tryz.prog 52 #[.int .i64 x,.int .i64 y] w fun e w'=>e=.returned (.int .i64 (uZ x y))/\nP w w' :=
 (acW x y w).mono fun e w' h=>⟨h.1,by rw [<- h.2];exact ⟨bR w,dR w⟩⟩
set_option maxRecDepth 100000 in
set_option maxHeartbeats 1000000 in
theorem acY (s t:bJ) (w:World) (hs:eU w s) (ht:eU w t) :
  Calls Tryz.prog 227 #[fZ s,fZ t] w fun e w'=>e=.returned (.int .i64 (uZ (iw s) (iw t)))/\nP w w':=by
 have TS:∀ W,Below w.heap.size w W->Calls Tryz.prog 228 #[fZ s] W _:=fun W hW=>Ou s W (hs.keep hW);have TT:∀ W,Below w.heap.size w W->Calls Tryz.prog 228 #[fZ t] W _:=fun W hW=>Ou t W (ht.keep hW);unfold fZ at TS TT ⊢;have HS:=Lib.hid TS;have HT:=Lib.hid TT;clear TS TT hs ht;generalize iw s=x at *;generalize iw t=y at *;generalize s.k=k at *;generalize t.k=m at *;generalize s.ln.g=g at *;generalize t.ln.g=h at *;go_enter Tryz.func227,Tryz.ntmps227;go_upto_region 1 with fail;obtain ⟨W,hW⟩:∃ W:World,W=(w.alloc (.cells #[.pointer (some ⟨g,0,none⟩),.int .i64 k] 230)).alloc (.cells #[.pointer (some ⟨h,0,none⟩),.int .i64 m] 230):=⟨_,rfl⟩;have Bw:Below w.heap.size w W:=by rw [hW];exact bA (bA (bR w) _) _
 have Dw:=Lib.hid (show w.drawn<=W.drawn by rw [hW];exact dA (dA (dR w) _) _);have X1:ah W w.heap.size 230 #[.pointer (some ⟨g,0,none⟩),.int .i64 k]:=by rw [hW];exact (ah.made rfl _ _).alloc _
 have X2:ah W (w.heap.size+1) 230 #[.pointer (some ⟨h,0,none⟩),.int .i64 m]:=by rw [hW];exact ah.made (by simp) _ _
 rw [<- hW];clear hW;obtain ⟨aZ,bf,bg,-,-⟩:=X1.aO;obtain ⟨bF,bH,bI,-,-⟩:=X2.aO;refine dN (Since W) (.take 0 1 (.take 2 5 (.call 1 7 (.call 3 15 (.call 4 31 (.take 5 63 (.done))))))) (by kernel_rfl) (bD (bR _)) (by kernel_rfl) (by kernel_rfl) (Nat.le_of_ble_eq_true (by kernel_rfl)) ?_;intro dO QR aj aA hS
 iterate 2
  apply aH;exact aj;exact rfl;exact hS;exact rfl
  · intro _ hqc;go_simp;try rfl
  try simp only [pu]
 refine aS (i:=1) (aB aj rfl) (fun K hK=>?_);have ak:=Lib.hid hS;clear hS;refine aG (aN rfl) ?_;go_simp;refine (HS.out _ (bT Bw ak.out)).mono ?_;rintro e bY ⟨rfl,dB,hd1⟩;have hS:Since W bY:=bT (w:=W) ak.out dB;clear ak;refine hK.out _ _ hS (fun _=>?_);clear hK K
 try simp only [pu]
 refine aS (i:=3) (aB aj rfl) (fun K hK=>?_);have ak:=Lib.hid hS;clear hS;refine aG (aN rfl) ?_;go_simp;refine (HT.out _ (bT Bw ak.out)).mono ?_;rintro e wr2 ⟨rfl,fG,hd2⟩;have hS:Since W wr2:=bT (w:=W) ak.out fG;clear ak;refine hK.out _ _ hS (fun _=>?_);clear hK K
 try simp only [pu]
 refine aS (i:=4) (aB aj rfl) (fun K hK=>?_);have ak:=Lib.hid hS;clear hS;refine aG (aN rfl) ?_;go_simp;refine (acX x y _).mono ?_;rintro e wr3 ⟨rfl,jG,hd3⟩;have hS:Since W wr3:=bT (w:=W) ak.out jG;clear ak;refine hK.out _ _ hS (fun _=>?_);clear hK K
 try simp only [pu]
 apply aH;exact aj;exact rfl;exact hS;exact rfl
 · intro _ hqc;go_simp;try rfl
 try simp only [pu]
 refine dF ?_;refine aA.down _ _ ?_;have hB:Below W.heap.size W wr3:=hS;clear hS aA aj;have D3:=Lib.hid (dT (dT (dT (dD Dw.out) hd1) hd2) hd3);go_wp2_with fail;go_ret;exact ⟨rfl,bT Bw hB,D3.out⟩
end Go.Proofs.YtialfdomhoojiaaGreat
