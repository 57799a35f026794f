import Derived.Test.YtialfdomhoojiaaGreatQJ05
set_option linter.unusedSimpArgs false
set_option linter.unusedVariables false
set_option maxRecDepth 100000
set_option maxHeartbeats 4000000
namespace Go.Proofs.YtialfdomhoojiaaGreat
open Go.RowKit
structure Ln where
 arc:Ar
 path:List Pt
 g:Nat
 via:SV
 pa:Option Addr
 pc:Nat
def lnC (x:Ln):Array Value:=#[.int .i64 x.arc.id,.int .i64 x.arc.fr,.int .i64 x.arc.dst,.slice x.via.a x.via.n x.via.c,.int .i64 x.arc.left,.int .i64 x.arc.right,.slice x.pa x.path.length x.pc]
def Xh (w:World) (x:Ln):Prop:=AO w x.g 237 (lnC x)/\Own w 0 39 2 Ee (.slice x.pa x.path.length x.pc) x.path
theorem Xh.keep {w w':World} {x:Ln} (h:Xh w x) (hb:AU w w'):Xh w' x:=⟨h.1.keep hb,h.2.keep hb⟩
structure DX where
 ln:Ln
 k:Nat
def IZ (s:DX):List Value:=[.pointer (some ⟨s.ln.g,0,none⟩),.int .i64 s.k]
def IC (s:DX):Value:=.agg #[.pointer (some ⟨s.ln.g,0,none⟩),.int .i64 s.k]
def DX.fst (s:DX):Pt:=s.ln.path.getD s.k AY
def DX.snd (s:DX):Pt:=s.ln.path.getD (s.k+1) AY
def FZ (w:World) (s:DX):Prop:=Xh w s.ln/\s.k+1<s.ln.path.length/\s.ln.path.length<=2097152
theorem FZ.keep {w w':World} {s:DX} (h:FZ w s) (hb:AU w w'):FZ w' s:=⟨h.1.keep hb,h.2⟩
theorem AO.dP {w:World} {g:Nat} {t:TypeId} {v0 v1 v2 v3 v4 v5 v6:Value} (h:AO w g t #[v0,v1,v2,v3,v4,v5,v6]):g<w.heap.size/\w.cell? ⟨g,0,none⟩=some v0/\w.cell? ⟨g,1,none⟩=some v1/\w.cell? ⟨g,2,none⟩=some v2/\w.cell? ⟨g,3,none⟩=some v3/\w.cell? ⟨g,4,none⟩=some v4/\w.cell? ⟨g,5,none⟩=some v5/\w.cell? ⟨g,6,none⟩=some v6/\w.frozen? ⟨g,0,none⟩=false/\w.frozen? ⟨g,1,none⟩=false/\w.frozen? ⟨g,2,none⟩=false/\w.frozen? ⟨g,3,none⟩=false/\w.frozen? ⟨g,4,none⟩=false/\w.frozen? ⟨g,5,none⟩=false/\w.frozen? ⟨g,6,none⟩=false :=
 ⟨h.lt,h.cell 0,h.cell 1,h.cell 2,h.cell 3,h.cell 4,h.cell 5,h.cell 6,h.frozen 0,h.frozen 1,h.frozen 2,h.frozen 3,h.frozen 4,h.frozen 5,h.frozen 6⟩
theorem uh (s:DX) (w:World) (h:FZ w s) :
  Calls Tryz.prog 231 #[IC s] w fun e w'=>e=.returned (.tuple #[BA s.fst,BA s.snd])/\NY w w':=by
 obtain ⟨⟨hL,hP⟩,hk,hm⟩:=h;obtain ⟨A,c,he,hn,hc,hR⟩:=Own.sl hP;clear hP;injection he with he1 _ he3;subst he1 he3;unfold lnC at hL;obtain ⟨b,o,hA,hlb,c0,c1⟩:=hR.pt (k:=s.k) AB;obtain ⟨b',o',hA',-,d0,d1⟩:=hR.pt (k:=s.k+1) hk;rw [hA] at hA' hL;simp only [JM,Addr.mk.injEq,and_true] at hA';obtain ⟨rfl,rfl⟩:=hA';have hf:s.fst=s.ln.path[s.k]:=by unfold DX.fst;simp [List.getD,Dh (show s.k<s.ln.path.length by omega)]
 have hs:s.snd=s.ln.path[s.k+1]:=by unfold DX.snd;simp [List.getD,Dh hk]
 rw [<- hf] at c0 c1;rw [<- hs] at d0 d1;unfold IC BA;unfold maxLen at hc;clear hf hs hR hA;generalize s.fst=P0 at *;generalize s.snd=P1 at *;generalize s.ln.path.length=N at *;generalize s.k=k at *;generalize s.ln.g=g at *;have HL:=AA hL;clear hL;go_enter Tryz.func231,Tryz.ntmps231;go_upto_region 1 with fail;obtain ⟨W,hW⟩:=BR (((w.alloc (.cells #[.pointer (some ⟨g,0,none⟩),.int .i64 k] 230)).alloc (.cells #[.int .i64 0,.int .i64 0] 39)).alloc (.cells #[.int .i64 0,.int .i64 0] 39));have Bw:AU w W:=by rw [hW];exact bA (bA (bA (bR w) _) _) _
 have Dw:w.drawn<=W.drawn:=by rw [hW];exact dA (dA (dA (dR w) _) _) _
 have X1:AO W w.heap.size 230 #[.pointer (some ⟨g,0,none⟩),.int .i64 k]:=by rw [hW];exact ((AO.made rfl _ _).alloc _).alloc _
 have X2:AO W (w.heap.size+1) 39 #[.int .i64 0,.int .i64 0]:=by rw [hW];exact (AO.made Ak _ _).alloc _
 have X3:AO W (w.heap.size+1+1) 39 #[.int .i64 0,.int .i64 0]:=by rw [hW];exact AO.made Ak _ _
 rw [<- hW];clear hW;have X9:=HL.out.keep Bw;have hgl:=HL.out.lt;obtain ⟨bc,-⟩:=VX Bw;replace c0:=(bc b _ hlb).trans c0;replace c1:=(bc b _ hlb).trans c1;replace d0:=(bc b _ hlb).trans d0;replace d1:=(bc b _ hlb).trans d1;clear bc;obtain ⟨BF,BG,BH,-,-⟩:=X1.BQ;obtain ⟨Gv,Gw,JG,aBN,X9d,X9e,X9f,X9g,-,-,-,-,-,-,-⟩:=X9.dP;obtain ⟨BU,BX,Bg,Qp,V5⟩:=X2.BQ;obtain ⟨Dk,EJ,ET,dQ,uj⟩:=X3.BQ;have q1:0<=(k:Int):=by omega
 have q2:(k:Int)<N:=by omega
 have q3:0<=(k:Int)+1:=by omega
 have q4:(k:Int)+1<N:=by omega
 have q5:((k:Int)+1).toNat=k+1:=by omega
 have q6:IntKind.i64.wrap ((k:Int)+1)=(k:Int)+1:=D6 _ AB;have q7:w.heap.size<w.heap.size+1:=by omega
 have q8:g<w.heap.size+1:=by omega
 have q9:b<w.heap.size+1:=by omega
 refine Rz (w.heap.size+1) (W) (.run 19 0 0 (.call 19 1048575 (.call 20 2097151 (.done)))) fun CU QR Ae Ah hS=>?_
 iterate 19 refine Aj ?_
 refine Bj ?_;clear hS;intro K hK AQ;go_simp;have hS:GK (w.heap.size+1) W _:=(Below.setCell (Below.setCell AQ.out (p:=⟨w.heap.size+1,0,none⟩) (Dc _) (.int .i64 P0.x)) (p:=⟨w.heap.size+1,1,none⟩) (Dc _) (.int .i64 P0.y));clear AQ;refine hK.out _ _ hS (fun _=>?_);clear hK K
 try simp only [pu]
 refine Bj ?_;clear hS;intro K hK AQ;go_simp;have hS:GK (w.heap.size+1) W _:=(Below.setCell (Below.setCell AQ.out (p:=⟨w.heap.size+1+1,0,none⟩) (aav _) (.int .i64 P1.x)) (p:=⟨w.heap.size+1+1,1,none⟩) (aav _) (.int .i64 P1.y));clear AQ;refine hK.out _ _ hS (fun _=>?_);clear hK K
 try simp only [pu]
 refine LY ?_;clear hS Ah Ae;intro hB;go_wp2_with fail;refine anM (g:=w.heap.size+1) (g':=w.heap.size+1+1) (cs:=#[.int .i64 P0.x,.int .i64 P0.y]) (cs':=#[.int .i64 P1.x,.int .i64 P1.y]) rfl Xv Xv rfl rfl rfl ?_ ?_ ⟨rfl,?_,?_⟩
 · exact ((AO.QF X2).far (p:=⟨w.heap.size+1+1,0,none⟩) Ak _).far (p:=⟨w.heap.size+1+1,1,none⟩) Ak _
 · exact AO.QF ((X3.far (p:=⟨w.heap.size+1,0,none⟩) Ak _).far (p:=⟨w.heap.size+1,1,none⟩) Ak _)
 · exact Bw.trans (hB.mono AB)
 · exact Nat.le_succ_of_le Dw
def Il (s:DX):Int:=min s.fst.x s.snd.x
def PI (s:DX):Int:=max s.fst.x s.snd.x
theorem abk (s:DX) (w:World) (h:FZ w s) :
  Calls Tryz.prog 228 #[IC s] w fun e w'=>e=.returned (.int .i64 (Il s))/\NY w w':=by
 have TE:∀ W,AU w W->Calls Tryz.prog 231 #[IC s] W _:=fun W hW=>uh s W (h.keep hW);unfold Il;unfold IC BA at TE;unfold IC;have HE:=AA TE;clear TE h;generalize s.fst=P0 at *;generalize s.snd=P1 at *;generalize s.k=k at *;generalize s.ln.g=g at *;go_enter Tryz.func228,Tryz.ntmps228;go_wp2_with fail;refine (HE.out _ (bA (bR w) _)).mono ?_;rintro e w1 ⟨rfl,hb1,hd1⟩;have Bw:AU w w1:=bT (bA (bR w) _) hb1;have Dw:w.drawn<=w1.drawn:=dT (dA (dR w) _) hd1;clear hb1 hd1;go_wp2_with fail
 all_goals
  go_ret;refine ⟨Df ?_,?_,?_⟩
  · first | rfl | omega
  · exact bA (bA Bw _) _
  · exact Dw
theorem anY (s:DX) (w:World) (h:FZ w s) :
  Calls Tryz.prog 229 #[IC s] w fun e w'=>e=.returned (.int .i64 (PI s))/\NY w w':=by
 have TE:∀ W,AU w W->Calls Tryz.prog 231 #[IC s] W _:=fun W hW=>uh s W (h.keep hW);unfold PI;unfold IC BA at TE;unfold IC;have HE:=AA TE;clear TE h;generalize s.fst=P0 at *;generalize s.snd=P1 at *;generalize s.k=k at *;generalize s.ln.g=g at *;go_enter Tryz.func229,Tryz.ntmps229;go_wp2_with fail;refine (HE.out _ (bA (bR w) _)).mono ?_;rintro e w1 ⟨rfl,hb1,hd1⟩;have Bw:AU w w1:=bT (bA (bR w) _) hb1;have Dw:w.drawn<=w1.drawn:=dT (dA (dR w) _) hd1;clear hb1 hd1;go_wp2_with fail
 all_goals
  go_ret;refine ⟨Df ?_,?_,?_⟩
  · first | rfl | omega
  · exact bA (bA Bw _) _
  · exact Dw
theorem ahA (s:DX) (w:World) :
  Calls Tryz.prog 232 #[IC s] w fun e w'=>e=.returned (.bool ((s.k:Int) == 0))/\AU w w':=by
 unfold IC;generalize s.k=k;generalize s.ln.g=g;go_enter Tryz.func232,Tryz.ntmps232;go_wp2;go_ret;exact ⟨rfl,bA (bR w) _⟩
theorem ahB (s:DX) (w:World) (h:FZ w s) :
  Calls Tryz.prog 233 #[IC s] w fun e w'=>e=.returned (.bool ((s.k:Int) == (s.ln.path.length:Int)-2))/\AU w w':=by
 obtain ⟨⟨hL,hP⟩,hk,hm⟩:=h;unfold lnC at hL;clear hP;unfold IC;generalize s.ln.path.length=N at *;generalize s.k=k at *;generalize s.ln.g=g at *;have HL:=AA hL;clear hL;go_enter Tryz.func233,Tryz.ntmps233;go_upto_region 1 with fail;obtain ⟨W,hW⟩:=BR (w.alloc (.cells #[.pointer (some ⟨g,0,none⟩),.int .i64 k] 230));have Bw:AU w W:=by rw [hW];exact bA (bR w) _
 have X1:AO W w.heap.size 230 #[.pointer (some ⟨g,0,none⟩),.int .i64 k]:=by rw [hW];exact AO.made rfl _ _
 rw [<- hW];clear hW;have X9:=HL.out.keep Bw;obtain ⟨BF,BG,BH,-,-⟩:=X1.BQ;obtain ⟨Gv,Gw,JG,aBN,X9d,X9e,X9f,X9g,-,-,-,-,-,-,-⟩:=X9.dP;have q6:IntKind.i64.wrap ((N:Int)-2)=(N:Int)-2:=D6 _ AB;refine DJ (W) (.run 11 0 0 (.done)) fun CU QR Ae Ah hS=>?_
 iterate 11 refine Aj ?_
 refine DF ?_;clear hS Ah Ae;intro hB;go_wp2;go_ret;exact ⟨rfl,bT Bw hB⟩
theorem Xh.grow {w w':World} {x:Ln} {row:Option Nat} {e:TypeId} (h:Xh w x) (hg:w.grownBy w' row) (hr:∀ g,row=some g->∃ cs,AO w g e cs) (h1:e≠237) (h2:e≠39):Xh w' x:=by
 refine ⟨h.1.grow hg (fun e'=>?_),Own.grown h.2 hg (fun g hg' e'=>?_)⟩
 ·obtain ⟨cs,hb⟩:=hr _ e'.symm;exact AO.Me hb h.1 h1 rfl
 ·obtain ⟨cs,hb⟩:=hr _ e'.symm;obtain ⟨cs',hb'⟩:=h.2.blk hg';exact AO.Me hb hb' h2 rfl
theorem FZ.grow {w w':World} {s:DX} {row:Option Nat} {e:TypeId} (h:FZ w s) (hg:w.grownBy w' row) (hr:∀ g,row=some g->∃ cs,AO w g e cs) (h1:e≠237) (h2:e≠39):FZ w' s:=⟨h.1.grow hg hr h1 h2,h.2⟩
theorem ap0:Elem Tryz.prog 224 230 2 16:=Elem.PU (z:=.agg #[.pointer none,.int .i64 0]) I8 I8 rfl AB
theorem aBO (s:DX):(IZ s).length=2:=rfl
theorem ahC (s:DX):∀ u∈IZ s,u.oneCell'=true:=by simp [IZ,Value.oneCell']
theorem Sl.ap1 {w:World} {g:Nat} {t:TypeId} {s:DX} (h:AO w g t #[.pointer (some ⟨s.ln.g,0,none⟩),.int .i64 s.k]) :
  Sl w (.slice (some ⟨g,0,none⟩) 1 1) ([s] : List DX).length (([s] : List DX).flatMap IZ):=Sl.lit (n:=1) h rfl (DN AB)
def YZ (l:List Pt):Bool:=(List.range (l.length-1)).all fun k=>!decide (l.getD k AY=l.getD (k+1) AY)
theorem ap2 (l:List Pt) (k:Nat) (hk:k+1<l.length) (h:l[k]=l[k+1]):YZ l=false:=by
 unfold YZ;rw [gY];exact ⟨k,Et.2 AB,by simp [List.getD,Dh hk,Dh (show k<l.length by omega),h]⟩
theorem ap3 (l:List Pt) (h:∀ k (hk:k+1<l.length),¬ l[k]=l[k+1]):YZ l=true:=by
 unfold YZ;rw [KU];intro k hk;have hk:k+1<l.length:=by have:=Et.1 hk;omega
 have:=h k hk
 simpa [List.getD,Dh hk,Dh (show k<l.length by omega)] using this
def Ko (p:Pl) (a:Ar):Bool:=match pathOf p a.id with
 | none=>false
 | some l=>!(a.fr == a.dst && decide ((l.length:Int)<4)) && YZ l
structure G8 where
 arc:Ar
 path:List Pt
 k:Nat
def DX.abs (s:DX):G8:=⟨s.ln.arc,s.ln.path,s.k⟩
def FT (p:Pl) (a:Ar):List G8:=(List.range (((pathOf p a.id).getD []).length-1)).map fun k=>⟨a,(pathOf p a.id).getD [],k⟩
theorem ap4 (p:Pl) (a:Ar) (k:Nat) (hk:k+1<((pathOf p a.id).getD []).length):(FT p a).take (k+1)=(FT p a).take k++[⟨a,(pathOf p a.id).getD [],k⟩]:=by
 have h:k<(FT p a).length:=by simp only [FT,Cj,PO];omega
 rw [F7 h];simp [FT]
theorem ahD {p:Pl} {id:Int} {l:List Pt} (h:pathOf p id=some l) (hsh:Short p):2<=l.length/\l.length<=1048578:=by
 unfold pathOf at h
 cases ha:findAr p.AP id with
 | none=>rw [ha] at h;cases h
 | some a =>
  rw [ha] at h;simp only [] at h;split at h
  ·injection h with h;subst h;rw [Ey];have:=hsh a (aBD ha)
   omega
  · cases h
def ahE (w:World) (p:Pl) (e:Ending) (w':World):Prop :=
 AU w w'/\if p.AP.all (Ko p)=true then
  ∃ (sl:List DX) (v:Value),e=.returned (.tuple #[v,.bool true])/\sl.map DX.abs=p.AP.flatMap (FT p)/\(∀ s∈sl,FZ w' s)/\Own w' w.heap.size 230 2 IZ v sl
 else e=.returned (.tuple #[.slice none 0 0,.bool false])
theorem ap5 (v:Value) (p:Pl) (w:World) (h:Ci w v p) (hsh:Short p) (hl:(p.AP.flatMap (FT p)).length<=2097152) :
  Calls Tryz.prog 225 #[v] w (ahE w p):=by
 have HP:=AA h;have DW:=AA hsh;clear hsh;obtain ⟨vn,_,vf,al,rfl,hpa,-,⟨⟨Aa,ca,rfl,ha1,ha2,FD⟩,hV⟩,-⟩:=h;unfold maxLen at ha2;have HV:=AA hV;clear hV;have GN:=AA FD;clear FD;have hL:∀ k,((al.take k).flatMap fun a=>FT p a.1).length<=2097152:=fun k=>by
  have h1:=uG al (fun a=>FT p a.1) k;rw [hpa,Og] at hl;exact EH h1 hl
 have HL:=AA hL;have abl:p.AP.all (Ko p)=al.all (fun a=>Ko p a.1):=by rw [hpa,XJ];rfl
 have hFl:p.AP.flatMap (FT p)=al.flatMap (fun a=>FT p a.1):=by rw [hpa,Og]
 obtain ⟨Q,hQ⟩:=BR (ahE w p);have hbad:∀ k (hk:k<al.length),Ko p al[k].1=false->∀ w',AU w w'->Q (.returned (.tuple #[.slice none 0 0,.bool false])) w':=fun k hk hb w' hw=>by
  rw [hQ];refine ⟨hw,?_⟩;rw [abl,YX al (fun a=>Ko p a.1) k hk hb];rfl
 have hgood:(∀ k (hk:k<al.length),Ko p al[k].1=true)->∀ (sl:List DX) (v:Value) w',AU w w'->sl.map DX.abs=al.flatMap (fun a=>FT p a.1)->(∀ s∈sl,FZ w' s)->Own w' w.heap.size 230 2 IZ v sl->Q (.returned (.tuple #[v,.bool true])) w':=fun h1 sl v w' hw h2 h3 h4=>by
  rw [hQ];refine ⟨hw,?_⟩;rw [abl,nK al (fun a=>Ko p a.1) h1,AZ rfl,hFl];exact ⟨sl,v,rfl,h2,h3,h4⟩
 have abm:=AA hbad;have ap6:=AA hgood;rw [<- hQ];clear hpa hl hL abl hFl hbad hgood hQ;go_enter Tryz.func225,Tryz.ntmps225;go_wp2_with fail;obtain ⟨W0,hW0⟩:=BR (w.alloc (.cells #[vn,.slice Aa al.length ca,vf] 26));have X1:AO W0 w.heap.size 26 #[vn,.slice Aa al.length ca,vf]:=by rw [hW0];exact AO.made rfl _ _
 have FN:AU w W0:=by rw [hW0];exact bA (bR w) _
 have HX0:=AA X1;rw [<- hW0];clear hW0 X1;go_loopw [2,13] (fun s i wr=>∃ (k:Nat) (sl:List DX),k<=al.length/\i=.int .i64 k/\sl.map DX.abs=((al.take k).flatMap fun a=>FT p a.1)/\(∀ s∈sl,FZ wr s)/\Own wr W0.heap.size 230 2 IZ s sl/\AU W0 wr/\∀ j (hj:j<al.length),j<k->Ko p al[j].1=true) (fun _ i _=>al.length-(intOf i).toNat)
 case atStart => exact ⟨0,[],Bv _,rfl,rfl,(fun _ h=>by cases h),Own.nil _ _ _ _ _,bR W0,fun _ _ h=>by omega⟩
 case round =>
  obtain ⟨k,sl,hk,rfl,hsl,hok,hown,hb,hno⟩:=hrel;have Hb:=AA hb;have FC:=AA hown;have UL:=AA hsl;have Hok:=AA hok;have Hno:=AA hno;have X1:=HX0.out.keep hb;have hsz:=hb.size;clear hb hown hsl hok hno;obtain ⟨BF,BG,BH,BI,-,-,-⟩:=X1.Az;by_cases hlt:k<al.length
  case neg =>
   have hE:al.take k=al:=IQ AB;have hs:=UL.out;rw [hE] at hs;have Hs:=AA hs;clear hE hs;go_wp2_with fail;exact ap6.out (fun j hj=>Hno.out j hj AB) sl _ _ (bT FN Hb.out) Hs.out Hok.out (FC.out.ES FN.size)
  obtain ⟨b,o,rfl,hlb,c0,c1,c2,c3,c4,c5⟩:=(GN.out.mono (bT FN Hb.out)).ar hlt;obtain ⟨Av,cv,hv,-⟩:=HV.out k hlt;rw [hv] at c3;clear hv;go_wp2_with fail;refine (aBK _ p _ _ (HP.out.mono (bT FN (bA Hb.out _))) DW.out).mono ?_;rintro e w2 ⟨Ap,cp,rfl,hb2,hop⟩;have hA1:AU wr w2:=bT (bA (bR wr) _) hb2;have X5:AO w2 wr.heap.size 50 #[.int .i64 al[k].1.id,.int .i64 al[k].1.fr,.int .i64 al[k].1.dst,.slice Av al[k].1.via.length cv,.int .i64 al[k].1.left,.int .i64 al[k].1.right]:=(AO.made rfl _ _).keep hb2;have hown2:=FC.out.keep hA1;have hok2:∀ s∈sl,FZ w2 s:=fun s hs=>(Hok.out s hs).keep hA1;have B2:=bT Hb.out hA1;have hsz2:=B2.size;replace X1:=X1.keep hA1;have Dt:=AA X1;have uH:=AA hown2;have ap7:=AA hok2;have HB2:=AA B2;clear hb2 hA1 hown2 hok2 B2 c0 c1 c2 c3 c4 c5 hlb X1 BF BG BH BI;obtain ⟨CJ,CO,CS,F8,UN,nN,nP,-,-,-,-,-,-⟩:=X5.IW
  cases hpo:pathOf p al[k].1.id with
  | none =>
   have hf:=AA (show Ko p al[k].1=false by unfold Ko;rw [hpo]);clear hop;simp only [gX,Rq,if_false,rV,LX];go_wp2_with fail;exact abm.out k hlt hf.out _ (bT FN HB2.out)
  | some l =>
  rw [hpo] at hop;simp only [VP,if_true,H9] at hop ⊢;have um:=AA hpo;have hll:=ahD hpo DW.out;have Hop:=AA hop;clear hpo hop;have ahF:Ko p al[k].1=(!(al[k].1.fr == al[k].1.dst && decide ((l.length:Int)<4)) && YZ l):=by unfold Ko;rw [um.out]
  have ahG:=AA ahF;clear ahF;by_cases hloop:al[k].1.fr=al[k].1.dst/\(l.length:Int)<4
  ·obtain ⟨he1,he2⟩:=hloop;have hf:=AA (show Ko p al[k].1=false by rw [ahG.out,beq_iff_eq.2 he1,JO he2];rfl);have hz:=beq_iff_eq.2 he1;clear he1;go_wp2_with fail;exact abm.out k hlt hf.out _ (bT FN HB2.out)
  have hz:(al[k].1.fr == al[k].1.dst && decide ((l.length:Int)<4))=false:=by
   rw [aai];by_cases e:al[k].1.fr=al[k].1.dst
   · right;exact Gg (fun h=>hloop ⟨e,h⟩)
   · left;exact beq_eq_false_iff_ne.2 e
  have ahH:=AA (show Ko p al[k].1=YZ l by rw [ahG.out,hz];rfl);go_upto_region 5 with fail;go_cut [37] (fun u wx=>u=.bool false/\wx=w2)
  case first =>
   cases e1:(al[k].1.fr == al[k].1.dst)
   ·go_wp2;go_meet
    case rel => exact ⟨rfl,rfl⟩
   ·have e2:¬ (l.length:Int)<4:=fun h=>hloop ⟨eq_of_beq e1,h⟩;clear hloop hz;go_wp2;go_meet
    case rel => exact ⟨rfl,rfl⟩
  case rest =>
  obtain ⟨rfl,rfl⟩:=hcut;clear hloop hz;go_wp2_with fail;obtain ⟨ln,hln⟩:=BR (⟨al[k].1,l,wc.heap.size,⟨Av,al[k].1.via.length,cv⟩,Ap,cp⟩:Ln);obtain ⟨W5,IY⟩:=BR (wc.alloc (.cells #[.int .i64 al[k].1.id,.int .i64 al[k].1.fr,.int .i64 al[k].1.dst,.slice Av al[k].1.via.length cv,.int .i64 al[k].1.left,.int .i64 al[k].1.right,.slice Ap l.length cp] 237));have WT:AU wc W5:=by rw [IY];exact bA (bR wc) _
  have hlo:Xh W5 ln:=by
   rw [hln];refine ⟨?_,(Hop.out.keep WT).ES (Bv _)⟩;rw [IY];exact AO.made rfl _ _
  rw [<- IY];have Hlo:=AA hlo;have aBP:=AA hln;have ac4:=AA (uH.out.keep WT);have ap8:=AA (fun s hs=>(ap7.out s hs).keep WT);have Cm:=AA (bT HB2.out WT);clear WT IY hlo hln X5 CJ CO CS F8 UN nN nP;obtain ⟨M,hM⟩:∃ M,l.length=M+1:=⟨l.length-1,AB⟩;have HM:=AA hM;clear hM;obtain ⟨wo,rfl⟩:=BR wr;go_loopw [2,45] (fun s i wx=>∃ (j:Nat) (sx:List DX),j+1<=l.length/\i=.int .i64 j/\sx.map DX.abs=((al.take k).flatMap fun a=>FT p a.1)++(FT p al[k].1).take j/\(∀ s∈sx,FZ wx s)/\Xh wx ln/\Own wx W0.heap.size 230 2 IZ s sx/\AU W0 wx/\∀ m (hm:m+1<l.length),m<j->¬ l[m]=l[m+1]) (fun _ i _=>l.length-(intOf i).toNat)
  case atStart => exact ⟨0,sl,AB,rfl,by rw [UL.out];simp,ap8.out,Hlo.out,ac4.out,Cm.out,fun _ _ h=>by omega⟩
  case round =>
   obtain ⟨j,sx,hj,rfl,hsx,ahI,ahJ,vK,hbx,hnx⟩:=hrel;have Fv:=AA hbx;have Xg:=AA vK;have iU:=AA hsx;have ahK:=AA ahI;have abn:=AA ahJ;have Uj:=AA hnx;have abh:=hbx.size;clear hbx vK hsx ahI ahJ hnx;by_cases hlj:j+1<l.length
   case neg =>
    have hdist:=AA (show Ko p al[k].1=true by rw [ahH.out];exact ap3 l (fun m hm=>Uj.out m hm AB));have bY:=AA (show sx.map DX.abs=((al.take (k+1)).flatMap fun a=>FT p a.1) by
     rw [iU.out,F7 hlt,LC,IQ (l:=FT p al[k].1) (by simp only [FT,um.out,Cj,PO,H9];omega)];simp)
    go_wp2;go_roundw
    case rel => exact ⟨k+1,sx,AB,BJ,bY.out,ahK.out,Xg.out,Fv.out,all_succ (p:=fun x=>Ko p x.1=true) Hno.out hlt hdist.out⟩
    case measure => exact BL
   have hrow:=Own.sl abn.out.2;rw [aBP.out] at hrow;obtain ⟨A1',anQ,he1,-,-,hrow⟩:=hrow;injection he1 with he1 _ he3;subst he1;subst he3;obtain ⟨pb,po,abj,hlp,f0,f1⟩:=hrow.pt (k:=j) (by simp only [];omega);subst abj;obtain ⟨pb',po',uV,ah3,f2,f3⟩:=hrow.pt (k:=j+1) (by simp only [];omega);simp only [JM,Addr.mk.injEq,and_true] at uV;obtain ⟨rfl,rfl⟩:=uV;simp only [] at f0 f1 f2 f3;clear hrow ah3;have nM:IntKind.i64.wrap ((j:Int)+1)=(j:Int)+1:=D6 _ AB;have r1:0<=(j:Int):=by omega
   have r2:(j:Int)<l.length:=by omega
   have r3:0<=(j:Int)+1:=by omega
   have r4:(j:Int)+1<l.length:=by omega
   have r5:((j:Int)+1).toNat=j+1:=by omega
   have hE:=UF l[j] l[j+1];by_cases he:l[j]=l[j+1]
   ·have hd:decide (l[j]=l[j+1])=true:=JO he;have hf:=AA (show Ko p al[k].1=false by rw [ahH.out];exact ap2 l j hlj he);clear he;go_upto_region 11 with fail;refine DJ (wr) (.run 10 0 0 (.done)) fun CU QR Ae Ah hS=>?_
    iterate 10 refine Aj ?_
    refine DF ?_;clear hS Ah Ae;intro hB;go_wp2_with fail;exact abm.out k hlt hf.out _ (bT FN (bT Fv.out hB))
   have hd:decide (l[j]=l[j+1])=false:=Gg he;have He:=AA he;clear he;go_upto_region 11 with fail;refine DJ (wr) (.run 10 0 0 (.done)) fun CU QR Ae Ah hS=>?_
   iterate 10 refine Aj ?_
   refine DF ?_;clear hS Ah Ae;intro hB;clear f0 f1 f2 f3 nM r3 r4 r5 hE;have hlen:=AA (show sx.length+1<=2097152 by
    have h2:=congrArg List.length iU.out;rw [Cj,ER,Iw] at h2;have h3:=HL.out (k+1);rw [F7 hlt,LC,ER] at h3;simp only [KI,aah,JA] at h3;have h4:(FT p al[k].1).length=l.length-1:=by simp only [FT,um.out,Cj,PO,H9]
    omega)
   have hnew:Hid (FZ wr.drew ⟨ln,j⟩):=AA ⟨abn.out.keep hB,by rw [aBP.out];exact ⟨hlj,by simp only [];omega⟩⟩;have hgl:ln.g=wc.heap.size:=by rw [aBP.out]
   have Hgl:=AA hgl;have abo:Hid (Own wr.drew W0.heap.size 230 2 IZ u2 sx):=AA Xg.out;have ap9:Hid (∀ s∈sx,FZ wr.drew s):=AA fun s hs=>(ahK.out s hs).keep hB;have apA:Hid (Xh wr.drew ln):=AA (abn.out.keep hB);have apB:W0.heap.size<=wr.drew.heap.size:=abh;clear hB hgl;go_wp2_with
    (at_builtin
     refine FK _ rfl (.tmp 58) (.tmp 62) _ rfl (base:=W0.heap.size) ap0 aBO ahC rfl (abo.out.alloc _) rfl (l2:=[(⟨ln,j⟩:DX)]) (Sl.ap1 (by rw [Hgl.out];exact AO.made Ak _ _)) (by have:=hlen.out;simp only [IU,LX];omega) (by have:=hlen.out;simp only [IU,LX];omega) DT ?_;intro v1 w1 hown1 hg hat;have N9:=AA (show AU W0 w1 from bG (bA (bD Fv.out) _) hg (fun g hk=>(abo.out.lt g hk).1));have hrow:∀ g,(u2:Value).ownBlock=some g->∃ cs,AO (wr.drew.alloc (.cells #[.pointer (some ⟨wc.heap.size,0,none⟩),.int .i64 j] 230)) g 230 cs:=fun g hg=>(abo.out.alloc _).blk hg;have apC:=AA (show ∀ s∈sx++[(⟨ln,j⟩:DX)],FZ w1 s from fun s hs=>by
      rcases FX.1 hs with h | h
      · exact ((ap9.out s h).keep (bA (bR wr.drew) _)).grow hg hrow Aw Aw
      ·rw [EP.1 h];exact (hnew.out.keep (bA (bR wr.drew) _)).grow hg hrow Aw Aw)
     have apD:=AA ((apA.out.keep (bA (bR wr.drew) _)).grow hg hrow Aw Aw);clear hg hat hrow;have XV:=AA hown1;clear hown1)
   have bW:=AA (show (sx++[(⟨ln,j⟩:DX)]).map DX.abs=((al.take k).flatMap fun a=>FT p a.1)++(FT p al[k].1).take (j+1) by
    rw [GI,iU.out,ap4 p al[k].1 j (by rw [um.out];exact hlj),KW];simp only [FM,QD,DX.abs,um.out,H9,aBP.out])
   go_roundw
   case rel => exact ⟨j+1,_,AB,BJ,bW.out,apC.out,apD.out,XV.out,N9.out,fun m hm hmj=>if e:m<j then Uj.out m hm e else by
     have:m=j:=by omega
     subst this;exact He.out⟩
   case measure => exact BL
theorem apE (x:Int) (w:World):Calls Tryz.prog 111 #[.int .i64 x] w fun e w'=>e=.returned (.bool false)/\w=w':=by
 have hx:(x != x)=false:=by simp
 go_enter Tryz.func111,Tryz.ntmps111;go_wp2;go_ret;exact ⟨Ak,rfl⟩
def KN (x y:Int):Int:=if x<y then -1 else if y<x then 1 else 0
theorem apF (x y:Int) (w:World):Calls Tryz.prog 52 #[.int .i64 x,.int .i64 y] w fun e w'=>e=.returned (.int .i64 (KN x y))/\w=w':=by
 have HN:=AA (fun (z:Int) (W:World)=>apE z W);obtain ⟨q,hq⟩:=BN (KN x y);rw [hq];have Hq:=AA hq;clear hq;go_enter Tryz.func52,Tryz.ntmps52;go_wp2_with fail;refine (HN.out _ _).mono ?_;rintro e w' ⟨rfl,rfl⟩;go_wp2_with fail;refine (HN.out _ _).mono ?_;rintro e w' ⟨rfl,rfl⟩;go_wp2_with fail
 all_goals
  go_ret;refine ⟨Df ?_,rfl⟩;rw [<- Hq.out];unfold KN
  first | rw [AZ KT] | (rw [AX KT,AZ KT]) | (rw [AX KT,AX KT]) | (split<;>(try split)<;>omega)
theorem uo (x y:Int) (w:World):Calls Tryz.prog 52 #[.int .i64 x,.int .i64 y] w fun e w'=>e=.returned (.int .i64 (KN x y))/\NY w w' :=
 (apF x y w).mono fun e w' h=>⟨h.1,by rw [<- h.2];exact ⟨bR w,dR w⟩⟩
theorem apG (s t:DX) (w:World) (hs:FZ w s) (ht:FZ w t) :
  Calls Tryz.prog 227 #[IC s,IC t] w fun e w'=>e=.returned (.int .i64 (KN (Il s) (Il t)))/\NY w w':=by
 have TS:∀ W,AU w W->Calls Tryz.prog 228 #[IC s] W _:=fun W hW=>abk s W (hs.keep hW);have TT:∀ W,AU w W->Calls Tryz.prog 228 #[IC t] W _:=fun W hW=>abk t W (ht.keep hW);unfold IC at TS TT ⊢;have HS:=AA TS;have HT:=AA TT;clear TS TT hs ht;generalize Il s=x at *;generalize Il t=y at *;generalize s.k=k at *;generalize t.k=m at *;generalize s.ln.g=g at *;generalize t.ln.g=h at *;go_enter Tryz.func227,Tryz.ntmps227;go_upto_region 1 with fail;obtain ⟨W,hW⟩:=BR ((w.alloc (.cells #[.pointer (some ⟨g,0,none⟩),.int .i64 k] 230)).alloc (.cells #[.pointer (some ⟨h,0,none⟩),.int .i64 m] 230));have Bw:AU w W:=by rw [hW];exact bA (bA (bR w) _) _
 have Dw:=AA (show w.drawn<=W.drawn by rw [hW];exact dA (dA (dR w) _) _);have X1:AO W w.heap.size 230 #[.pointer (some ⟨g,0,none⟩),.int .i64 k]:=by rw [hW];exact (AO.made rfl _ _).alloc _
 have X2:AO W (w.heap.size+1) 230 #[.pointer (some ⟨h,0,none⟩),.int .i64 m]:=by rw [hW];exact AO.made Ak _ _
 rw [<- hW];clear hW;obtain ⟨BF,BG,BH,-,-⟩:=X1.BQ;obtain ⟨BU,BX,Bg,-,-⟩:=X2.BQ;refine DJ (W) (.take 0 1 (.take 2 5 (.call 1 7 (.call 3 15 (.call 4 31 (.take 5 63 (.done))))))) fun CU QR Ae Ah hS=>?_
 iterate 2 refine Aj ?_
 refine Bj ?_;clear hS;intro K hK AQ;go_simp;refine (HS.out _ (bT Bw AQ.out)).mono ?_;rintro e CX ⟨rfl,CV,hd1⟩;have hS:Since W CX:=bT (w:=W) AQ.out CV;clear AQ;refine hK.out _ _ hS (fun _=>?_);clear hK K
 try simp only [pu]
 refine Bj ?_;clear hS;intro K hK AQ;go_simp;refine (HT.out _ (bT Bw AQ.out)).mono ?_;rintro e wr2 ⟨rfl,Fp,hd2⟩;have hS:Since W wr2:=bT (w:=W) AQ.out Fp;clear AQ;refine hK.out _ _ hS (fun _=>?_);clear hK K
 try simp only [pu]
 refine Bj ?_;clear hS;intro K hK AQ;go_simp;refine (uo x y _).mono ?_;rintro e wr3 ⟨rfl,PK,hd3⟩;have hS:Since W wr3:=bT (w:=W) AQ.out PK;clear AQ;refine hK.out _ _ hS (fun _=>?_);clear hK K
 try simp only [pu]
 refine Aj ?_;refine DF ?_;clear hS Ah Ae;intro hB;have D3:=AA (dT (dT (dT (dD Dw.out) hd1) hd2) hd3);go_wp2;go_ret;exact ⟨rfl,bT Bw hB,D3.out⟩
def nR (a b:DX):Bool:=decide (a.k+1=b.k) || ((a.ln.arc.fr == a.ln.arc.dst) && decide (a.k=0) && decide ((b.k:Int)=(b.ln.path.length:Int)-2))
def Xi (m:Int) (a b:DX):Bool:=if nR a b then m == 1 else m == 0
def Io (f:Int->Pt) (s t:DX) (id:Int):Bool:=(id == t.ln.arc.fr || id == t.ln.arc.dst) && Ea s.fst s.snd (f id) && Ea t.fst t.snd (f id)
def Ol (f:Int->Pt) (s t:DX):Bool :=
 if s.ln.arc.id=t.ln.arc.id then (if t.k<s.k then Xi (JX s.fst s.snd t.fst t.snd) t s else Xi (JX s.fst s.snd t.fst t.snd) s t)
 else if JX s.fst s.snd t.fst t.snd=1 then Io f s t s.ln.arc.fr || Io f s t s.ln.arc.dst
 else JX s.fst s.snd t.fst t.snd == 0
theorem FZ.line {w:World} {s:DX} (h:FZ w s):AO w s.ln.g 237 #[.int .i64 s.ln.arc.id,.int .i64 s.ln.arc.fr,.int .i64 s.ln.arc.dst,.slice s.ln.via.a s.ln.via.n s.ln.via.c,.int .i64 s.ln.arc.left,.int .i64 s.ln.arc.right,.slice s.ln.pa s.ln.path.length s.ln.pc]:=h.1.1
theorem apH (f:Int->Pt) (mb n:Nat) (s t:DX) (w:World) (hs:FZ w s) (ht:FZ w t) (hm:JB w mb n f)
  (hw1:En s.ln.arc.fr) (hw2:En s.ln.arc.dst) :
  Calls Tryz.prog 230 #[IC s,IC t,.map (some mb)] w fun e w'=>e=.returned (.bool (Ol f s t))/\AU w w':=by
 have TS:∀ W,AU w W->Calls Tryz.prog 231 #[IC s] W _:=fun W hW=>uh s W (hs.keep hW);have TT:∀ W,AU w W->Calls Tryz.prog 231 #[IC t] W _:=fun W hW=>uh t W (ht.keep hW);have TM:∀ W,Calls Tryz.prog 260 #[BA s.fst,BA s.snd,BA t.fst,BA t.snd] W _:=fun W=>ao4 s.fst s.snd t.fst t.snd W;have TO:∀ p q r:Pt,∀ W,Calls Tryz.prog 28 #[BA p,BA q,BA r] W _:=fun p q r W=>tJ p q r W;unfold IC BA at TS TT;unfold BA at TM TO;unfold IC;have HS:=AA TS;have HT:=AA TT;have HM:=AA TM;have HO:=AA TO;have Ks:=AA hs;have Kt:=AA ht;have Km:=AA hm;have hsk:s.k<=2097152:=by have:=hs.2;omega
 have htk:t.k<=2097152:=by have:=ht.2;omega
 clear TS TT TM TO hs ht hm;obtain ⟨q,hq⟩:=BN (Ol f s t);rw [hq];unfold Ol at hq;have Hq:=AA hq;clear hq;go_enter Tryz.func230,Tryz.ntmps230;go_wp2_with fail;refine (HS.out _ (bA (bA (bR w) _) _)).mono ?_;rintro e w1 ⟨rfl,hb1,-⟩;have Bw:AU w w1:=by
  exact EC
 have X3:AO _ (w.heap.size) 230 #[.pointer (some ⟨s.ln.g,0,none⟩),.int .i64 s.k]:=AO.keep (by repeat (first | exact AO.made Ak _ _ | refine AO.alloc ?_ _)) hb1;have X4:AO _ (w.heap.size+1) 230 #[.pointer (some ⟨t.ln.g,0,none⟩),.int .i64 t.k]:=AO.keep (by repeat (first | exact AO.made Ak _ _ | refine AO.alloc ?_ _)) hb1;clear hb1;obtain ⟨Dk,EJ,ET,-,-⟩:=X3.BQ;obtain ⟨BZ,Bl,CQ,-,-⟩:=X4.BQ;go_wp2_with fail;refine (HT.out _ (bA (bA Bw _) _)).mono ?_;rintro e w2 ⟨rfl,hb2,-⟩;have X7:AO w2 w1.heap.size 39 #[.int .i64 s.fst.x,.int .i64 s.fst.y]:=((AO.made rfl _ _).alloc _).keep hb2;have X8:AO w2 (w1.heap.size+1) 39 #[.int .i64 s.snd.x,.int .i64 s.snd.y]:=(AO.made Ak _ _).keep hb2;replace X3:=((X3.alloc _).alloc _).keep hb2;replace X4:=((X4.alloc _).alloc _).keep hb2;replace Bw:=bT (bA (bA Bw _) _) hb2;clear hb2
 try clear Dk EJ ET
 obtain ⟨Dk,EJ,ET,-,-⟩:=X3.BQ
 try clear BZ Bl CQ
 obtain ⟨BZ,Bl,CQ,-,-⟩:=X4.BQ;obtain ⟨Eb,Ec,Fe,-,-⟩:=X7.BQ;obtain ⟨OI,OY,OZ,-,-⟩:=X8.BQ;go_wp2_with fail;refine (HM.out _).mono ?_;rintro e w3 ⟨rfl,hb3⟩;have X9:AO w3 w2.heap.size 39 #[.int .i64 t.fst.x,.int .i64 t.fst.y]:=((AO.made rfl _ _).alloc _).keep hb3;have EY:AO w3 (w2.heap.size+1) 39 #[.int .i64 t.snd.x,.int .i64 t.snd.y]:=(AO.made Ak _ _).keep hb3;replace X3:=((X3.alloc _).alloc _).keep hb3;replace X4:=((X4.alloc _).alloc _).keep hb3;replace X7:=((X7.alloc _).alloc _).keep hb3;replace X8:=((X8.alloc _).alloc _).keep hb3;replace Bw:=bT (bA (bA Bw _) _) hb3;clear hb3;generalize JX s.fst s.snd t.fst t.snd=m at *;have Y1:=(Ks.out.keep Bw).line;have Y2:=(Kt.out.keep Bw).line
 try clear Dk EJ ET
 obtain ⟨Dk,EJ,ET,dQ,uj⟩:=X3.BQ
 try clear BZ Bl CQ
 obtain ⟨BZ,Bl,CQ,EG,FW⟩:=X4.BQ;obtain ⟨nS,mG,mJ,mM,mO,mP,mQ,mV,-,-,-,-,-,-,-⟩:=Y1.dP;obtain ⟨dS,aP,aQ,aS,aT,aU,aV,aW,-,-,-,-,-,-,-⟩:=Y2.dP;go_upto_region 4 with fail;refine DJ (w3) (.run 13 0 0 (.done)) fun CU QR Ae Ah hS=>?_
 iterate 13 refine Aj ?_
 refine DF ?_;clear hS Ah Ae;intro hB;have Bd:AU w w3.drew:=bD Bw;clear hB;by_cases hid:s.ln.arc.id=t.ln.arc.id
 case neg =>
  have ahL:(s.ln.arc.id == t.ln.arc.id)=false:=beq_eq_false_iff_ne.2 hid;have hq:=Hq.out;rw [AX hid] at hq;replace Hq:=AA hq;rw [ahL];clear hid hq;by_cases hm1:m=1
  case neg =>
   have hm':(m != 1)=true:=by simpa using hm1
   have hf:=AA (show (m == 0)=q by rw [<- Hq.out,AX hm1]);clear hm1;go_wp2;go_ret;exact ⟨CW hf.out,Bd⟩
  subst hm1;have hq:=Hq.out;rw [AZ rfl] at hq;replace Hq:=AA hq;clear hq;go_upto_region 12 with fail;obtain ⟨w4,hw4⟩:=BR w3.drew;have Yh:AU w3 w4:=by rw [hw4];exact bD (bR w3)
  rw [<- hw4];rw [<- hw4] at Bd;clear hw4;replace X3:=X3.keep Yh;replace X4:=X4.keep Yh;replace X7:=X7.keep Yh;replace X8:=X8.keep Yh;replace X9:=X9.keep Yh;replace EY:=EY.keep Yh;replace Y1:=Y1.keep Yh;replace Y2:=Y2.keep Yh
  try clear Dk EJ ET
  try clear dQ uj
  obtain ⟨Dk,EJ,ET,-,-⟩:=X3.BQ
  try clear nS mG mJ mM mO mP mQ mV
  obtain ⟨nS,mG,mJ,mM,mO,mP,mQ,mV,-,-,-,-,-,-,-⟩:=Y1.dP;refine DJ (w4) (.run 14 0 0 (.done)) fun CU QR Ae Ah hS=>?_
  iterate 14 refine Aj ?_
  refine DF ?_;clear hS Ah Ae;intro hB;have hB4:AU w4 w4.drew:=bD (bR w4);obtain ⟨W,hW⟩:=BR w4.drew;rw [<- hW];rw [<- hW] at hB4;have Rw:=AA (bT Bd hB4);have D8:=AA (X4.keep hB4);have Ip:=AA (X7.keep hB4);have UO:=AA (X8.keep hB4);have MR:=AA (X9.keep hB4);have Nc:=AA (EY.keep hB4);have HY2:=AA (Y2.keep hB4);clear hB hB4 hW Yh Bw Bd X3 Dk EJ ET X4 BZ Bl CQ X7 Eb Ec Fe X8 OI OY OZ X9 EY Y1 nS mG mJ mM mO mP mQ mV Y2 dS aP aQ aS aT aU aV aW;go_wp2_with fail;go_loopw [100] (fun u wx=>∃ j:Int,(j=0\/j=1\/j=2)/\u=.int .i64 j/\AU W wx/\(1<=j->Io f s t s.ln.arc.fr=false)/\(2<=j->Io f s t s.ln.arc.dst=false)) (fun u _=>2-(intOf u).toNat)
  case atStart => exact ⟨0,AB,rfl,bR W,fun h=>by omega,fun h=>by omega⟩
  case round =>
   obtain ⟨j,hj,rfl,hb,hl,hr⟩:=hrel;have Hb:=AA hb;have Hl:=AA hl;have Hr:=AA hr;have X4:=D8.out.keep hb;have X7:=Ip.out.keep hb;have X8:=UO.out.keep hb;have X9:=MR.out.keep hb;have EY:=Nc.out.keep hb;have Y2:=HY2.out.keep hb;clear hb hl hr
   try clear BZ Bl CQ
   try clear EG FW
   obtain ⟨BZ,Bl,CQ,-,-⟩:=X4.BQ
   try clear Eb Ec Fe
   obtain ⟨Eb,Ec,Fe,-,-⟩:=X7.BQ
   try clear OI OY OZ
   obtain ⟨OI,OY,OZ,-,-⟩:=X8.BQ;obtain ⟨Gv,Gw,JG,-,-⟩:=X9.BQ;obtain ⟨JD,JE,JF,-,-⟩:=EY.BQ
   try clear dS aP aQ aS aT aU aV aW
   obtain ⟨dS,aP,aQ,aS,aT,aU,aV,aW,-,-,-,-,-,-,-⟩:=Y2.dP;rcases hj with rfl | rfl | rfl
   ·have hI:∀ w,(Instr.index 116 (.agg #[.int .i64 s.ln.arc.fr,.int .i64 s.ln.arc.dst]) (.int .i64 0)).run Tryz.prog w=.ok (.int .i64 s.ln.arc.fr) w:=fun _=>by kernel_rfl
    have hlk:=(Km.out.keep (bT Rw.out Hb.out)).look s.ln.arc.fr hw1;unfold BA at hlk
    cases h1:(s.ln.arc.fr == t.ln.arc.fr)
    case false =>
     cases h2:(s.ln.arc.fr == t.ln.arc.dst)
     case false =>
      have hy:=AA (show Io f s t s.ln.arc.fr=false by simp [Io,h1,h2]);go_wp2;go_roundw
      case rel => exact ⟨1,AB,rfl,bA Hb.out _,fun h=>by first | exact hy.out | exact Hl.out AB,fun h=>by first | omega | exact hy.out⟩
      case measure => simp [intOf]
     case true =>
      have hc:=AA (show (s.ln.arc.fr == t.ln.arc.fr || s.ln.arc.fr == t.ln.arc.dst)=true by rw [h2];simp);go_wp2_with fail;refine (HO.out s.fst s.snd (f s.ln.arc.fr) _).mono ?_;rintro e w5 ⟨rfl,hb5⟩;have B5:AU W w5:=bT (bA Hb.out _) hb5;have Tq:AO w5 wr.heap.size 39 #[.int .i64 (f s.ln.arc.fr).x,.int .i64 (f s.ln.arc.fr).y]:=(AO.made rfl _ _).keep hb5;clear hb5 X4 BZ Bl CQ Y2 dS aP aQ aS aT aU aV aW X7 Eb Ec Fe X8 OI OY OZ X9 Gv Gw JG EY JD JE JF hlk
      cases e3:Ea s.fst s.snd (f s.ln.arc.fr)
      case false =>
       have hy:=AA (show Io f s t s.ln.arc.fr=false by simp [Io,e3]);clear e3;go_wp2;go_roundw
       case rel => exact ⟨1,AB,rfl,B5,fun h=>by first | exact hy.out | exact Hl.out AB,fun h=>by first | omega | exact hy.out⟩
       case measure => simp [intOf]
      have E3:=AA e3;clear e3;have X9:=MR.out.keep B5;have EY:=Nc.out.keep B5
      try clear Gv Gw JG
      obtain ⟨Gv,Gw,JG,-,-⟩:=X9.BQ
      try clear JD JE JF
      obtain ⟨JD,JE,JF,-,-⟩:=EY.BQ;obtain ⟨WU,WV,WW,-,-⟩:=Tq.BQ;go_wp2_with fail;refine (HO.out t.fst t.snd (f s.ln.arc.fr) _).mono ?_;rintro e w6 ⟨rfl,hb6⟩;have B6:AU W w6:=bT B5 hb6;clear hb6 Tq WU WV WW X9 Gv Gw JG EY JD JE JF
      cases e4:Ea t.fst t.snd (f s.ln.arc.fr)
      case false =>
       have hy:=AA (show Io f s t s.ln.arc.fr=false by simp [Io,e4]);clear e4;go_wp2;go_roundw
       case rel => exact ⟨1,AB,rfl,B6,fun h=>by first | exact hy.out | exact Hl.out AB,fun h=>by first | omega | exact hy.out⟩
       case measure => simp [intOf]
      have hy:=AA (show Io f s t s.ln.arc.fr=true by simp only [Io,hc.out,E3.out,e4];rfl);have hf:=AA (show true=q by rw [<- Hq.out,hy.out];simp);clear e4;go_wp2;go_ret;exact ⟨CW hf.out,bT Rw.out B6⟩
    case true =>
     have hc:=AA (show (s.ln.arc.fr == t.ln.arc.fr || s.ln.arc.fr == t.ln.arc.dst)=true by rw [h1];simp);go_wp2_with fail;refine (HO.out s.fst s.snd (f s.ln.arc.fr) _).mono ?_;rintro e w5 ⟨rfl,hb5⟩;have B5:AU W w5:=bT (bA Hb.out _) hb5;have Tq:AO w5 wr.heap.size 39 #[.int .i64 (f s.ln.arc.fr).x,.int .i64 (f s.ln.arc.fr).y]:=(AO.made rfl _ _).keep hb5;clear hb5 X4 BZ Bl CQ Y2 dS aP aQ aS aT aU aV aW X7 Eb Ec Fe X8 OI OY OZ X9 Gv Gw JG EY JD JE JF hlk
     cases e3:Ea s.fst s.snd (f s.ln.arc.fr)
     case false =>
      have hy:=AA (show Io f s t s.ln.arc.fr=false by simp [Io,e3]);clear e3;go_wp2;go_roundw
      case rel => exact ⟨1,AB,rfl,B5,fun h=>by first | exact hy.out | exact Hl.out AB,fun h=>by first | omega | exact hy.out⟩
      case measure => simp [intOf]
     have E3:=AA e3;clear e3;have X9:=MR.out.keep B5;have EY:=Nc.out.keep B5
     try clear Gv Gw JG
     obtain ⟨Gv,Gw,JG,-,-⟩:=X9.BQ
     try clear JD JE JF
     obtain ⟨JD,JE,JF,-,-⟩:=EY.BQ
     try clear WU WV WW
     obtain ⟨WU,WV,WW,-,-⟩:=Tq.BQ;go_wp2_with fail;refine (HO.out t.fst t.snd (f s.ln.arc.fr) _).mono ?_;rintro e w6 ⟨rfl,hb6⟩;have B6:AU W w6:=bT B5 hb6;clear hb6 Tq WU WV WW X9 Gv Gw JG EY JD JE JF
     cases e4:Ea t.fst t.snd (f s.ln.arc.fr)
     case false =>
      have hy:=AA (show Io f s t s.ln.arc.fr=false by simp [Io,e4]);clear e4;go_wp2;go_roundw
      case rel => exact ⟨1,AB,rfl,B6,fun h=>by first | exact hy.out | exact Hl.out AB,fun h=>by first | omega | exact hy.out⟩
      case measure => simp [intOf]
     have hy:=AA (show Io f s t s.ln.arc.fr=true by simp only [Io,hc.out,E3.out,e4];rfl);have hf:=AA (show true=q by rw [<- Hq.out,hy.out];simp);clear e4;go_wp2;go_ret;exact ⟨CW hf.out,bT Rw.out B6⟩
   ·have hI:∀ w,(Instr.index 116 (.agg #[.int .i64 s.ln.arc.fr,.int .i64 s.ln.arc.dst]) (.int .i64 1)).run Tryz.prog w=.ok (.int .i64 s.ln.arc.dst) w:=fun _=>by kernel_rfl
    have hlk:=(Km.out.keep (bT Rw.out Hb.out)).look s.ln.arc.dst hw2;unfold BA at hlk
    cases h1:(s.ln.arc.dst == t.ln.arc.fr)
    case false =>
     cases h2:(s.ln.arc.dst == t.ln.arc.dst)
     case false =>
      have hy:=AA (show Io f s t s.ln.arc.dst=false by simp [Io,h1,h2]);go_wp2;go_roundw
      case rel => exact ⟨2,AB,rfl,bA Hb.out _,fun h=>by first | exact hy.out | exact Hl.out AB,fun h=>by first | omega | exact hy.out⟩
      case measure => simp [intOf]
     case true =>
      have hc:=AA (show (s.ln.arc.dst == t.ln.arc.fr || s.ln.arc.dst == t.ln.arc.dst)=true by rw [h2];simp);go_wp2_with fail;refine (HO.out s.fst s.snd (f s.ln.arc.dst) _).mono ?_;rintro e w5 ⟨rfl,hb5⟩;have B5:AU W w5:=bT (bA Hb.out _) hb5;have Tq:AO w5 wr.heap.size 39 #[.int .i64 (f s.ln.arc.dst).x,.int .i64 (f s.ln.arc.dst).y]:=(AO.made rfl _ _).keep hb5;clear hb5 X4 BZ Bl CQ Y2 dS aP aQ aS aT aU aV aW X7 Eb Ec Fe X8 OI OY OZ X9 Gv Gw JG EY JD JE JF hlk
      cases e3:Ea s.fst s.snd (f s.ln.arc.dst)
      case false =>
       have hy:=AA (show Io f s t s.ln.arc.dst=false by simp [Io,e3]);clear e3;go_wp2;go_roundw
       case rel => exact ⟨2,AB,rfl,B5,fun h=>by first | exact hy.out | exact Hl.out AB,fun h=>by first | omega | exact hy.out⟩
       case measure => simp [intOf]
      have E3:=AA e3;clear e3;have X9:=MR.out.keep B5;have EY:=Nc.out.keep B5
      try clear Gv Gw JG
      obtain ⟨Gv,Gw,JG,-,-⟩:=X9.BQ
      try clear JD JE JF
      obtain ⟨JD,JE,JF,-,-⟩:=EY.BQ
      try clear WU WV WW
      obtain ⟨WU,WV,WW,-,-⟩:=Tq.BQ;go_wp2_with fail;refine (HO.out t.fst t.snd (f s.ln.arc.dst) _).mono ?_;rintro e w6 ⟨rfl,hb6⟩;have B6:AU W w6:=bT B5 hb6;clear hb6 Tq WU WV WW X9 Gv Gw JG EY JD JE JF
      cases e4:Ea t.fst t.snd (f s.ln.arc.dst)
      case false =>
       have hy:=AA (show Io f s t s.ln.arc.dst=false by simp [Io,e4]);clear e4;go_wp2;go_roundw
       case rel => exact ⟨2,AB,rfl,B6,fun h=>by first | exact hy.out | exact Hl.out AB,fun h=>by first | omega | exact hy.out⟩
       case measure => simp [intOf]
      have hy:=AA (show Io f s t s.ln.arc.dst=true by simp only [Io,hc.out,E3.out,e4];rfl);have hf:=AA (show true=q by rw [<- Hq.out,hy.out];simp);clear e4;go_wp2;go_ret;exact ⟨CW hf.out,bT Rw.out B6⟩
    case true =>
     have hc:=AA (show (s.ln.arc.dst == t.ln.arc.fr || s.ln.arc.dst == t.ln.arc.dst)=true by rw [h1];simp);go_wp2_with fail;refine (HO.out s.fst s.snd (f s.ln.arc.dst) _).mono ?_;rintro e w5 ⟨rfl,hb5⟩;have B5:AU W w5:=bT (bA Hb.out _) hb5;have Tq:AO w5 wr.heap.size 39 #[.int .i64 (f s.ln.arc.dst).x,.int .i64 (f s.ln.arc.dst).y]:=(AO.made rfl _ _).keep hb5;clear hb5 X4 BZ Bl CQ Y2 dS aP aQ aS aT aU aV aW X7 Eb Ec Fe X8 OI OY OZ X9 Gv Gw JG EY JD JE JF hlk
     cases e3:Ea s.fst s.snd (f s.ln.arc.dst)
     case false =>
      have hy:=AA (show Io f s t s.ln.arc.dst=false by simp [Io,e3]);clear e3;go_wp2;go_roundw
      case rel => exact ⟨2,AB,rfl,B5,fun h=>by first | exact hy.out | exact Hl.out AB,fun h=>by first | omega | exact hy.out⟩
      case measure => simp [intOf]
     have E3:=AA e3;clear e3;have X9:=MR.out.keep B5;have EY:=Nc.out.keep B5
     try clear Gv Gw JG
     obtain ⟨Gv,Gw,JG,-,-⟩:=X9.BQ
     try clear JD JE JF
     obtain ⟨JD,JE,JF,-,-⟩:=EY.BQ
     try clear WU WV WW
     obtain ⟨WU,WV,WW,-,-⟩:=Tq.BQ;go_wp2_with fail;refine (HO.out t.fst t.snd (f s.ln.arc.dst) _).mono ?_;rintro e w6 ⟨rfl,hb6⟩;have B6:AU W w6:=bT B5 hb6;clear hb6 Tq WU WV WW X9 Gv Gw JG EY JD JE JF
     cases e4:Ea t.fst t.snd (f s.ln.arc.dst)
     case false =>
      have hy:=AA (show Io f s t s.ln.arc.dst=false by simp [Io,e4]);clear e4;go_wp2;go_roundw
      case rel => exact ⟨2,AB,rfl,B6,fun h=>by first | exact hy.out | exact Hl.out AB,fun h=>by first | omega | exact hy.out⟩
      case measure => simp [intOf]
     have hy:=AA (show Io f s t s.ln.arc.dst=true by simp only [Io,hc.out,E3.out,e4];rfl);have hf:=AA (show true=q by rw [<- Hq.out,hy.out];simp);clear e4;go_wp2;go_ret;exact ⟨CW hf.out,bT Rw.out B6⟩
   ·have hf:=AA (show false=q by rw [<- Hq.out,Hl.out AB,Hr.out AB];rfl);go_wp2;go_ret;exact ⟨CW hf.out,bT Rw.out Hb.out⟩
 case pos =>
  have ahL:(s.ln.arc.id == t.ln.arc.id)=true:=beq_iff_eq.2 hid;have hq:=Hq.out;rw [AZ hid] at hq;replace Hq:=AA hq;clear hid hq;clear X7 Eb Ec Fe X8 OI OY OZ X9 EY;go_upto_if 47 with fail;go_cut [48] (fun u wx=>∃ a b:DX,FZ w a/\FZ w b/\AO wx w.heap.size 230 #[.pointer (some ⟨a.ln.g,0,none⟩),.int .i64 a.k]/\AO wx (w.heap.size+1) 230 #[.pointer (some ⟨b.ln.g,0,none⟩),.int .i64 b.k]/\Xi m a b=q/\a.k<=2097152/\b.k<=2097152/\AU w wx)
  case first =>
   by_cases hsw:t.k<s.k
   ·have hf:=AA (show Xi m t s=q by rw [<- Hq.out,AZ hsw]);go_wp2;go_meet
    case rel =>
     refine ⟨t,s,Kt.out,Ks.out,?_,?_,hf.out,htk,hsk,?_⟩
     · exact ((AO.QF (AO.drew X3)).far (p:=⟨w.heap.size+1,0,none⟩) Ak _).far (p:=⟨w.heap.size+1,1,none⟩) Ak _
     · exact AO.QF (((AO.drew X4).far (p:=⟨w.heap.size,0,none⟩) Ak _).far (p:=⟨w.heap.size,1,none⟩) Ak _)
     · exact bS (bS (bS (bS Bd (p:=⟨w.heap.size,0,none⟩) (Dc _) _) (p:=⟨w.heap.size,1,none⟩) (Dc _) _) (p:=⟨w.heap.size+1,0,none⟩) (aav _) _) (p:=⟨w.heap.size+1,1,none⟩) (aav _) _
   ·have hf:=AA (show Xi m s t=q by rw [<- Hq.out,AX hsw]);go_wp2;go_meet
    case rel => exact ⟨s,t,Ks.out,Kt.out,AO.drew X3,AO.drew X4,hf.out,hsk,htk,Bd⟩
  case rest =>
  obtain ⟨a,b,Ka,Kb,X3',X4',hf,ha,hb,Bc⟩:=hcut;have Hf:=AA hf;replace Ka:=AA Ka;replace Kb:=AA Kb;clear X3 X4 Dk EJ ET BZ Bl CQ Y1 Y2 nS mG mJ mM mO mP mQ mV dS aP aQ aS aT aU aV aW hf Bd Bw;have Y1:=(Ka.out.keep Bc).line
  try clear apI apJ apK
  try clear ayo ayp
  obtain ⟨apI,apJ,apK,-,-⟩:=X3'.BQ
  try clear apL aoa aob
  try clear ayq ayr
  obtain ⟨apL,aoa,aob,-,-⟩:=X4'.BQ
  try clear nS mG mJ mM mO mP mQ mV
  obtain ⟨nS,mG,mJ,mM,mO,mP,mQ,mV,-,-,-,-,-,-,-⟩:=Y1.dP;have nM:IntKind.i64.wrap ((a.k:Int)+1)=(a.k:Int)+1:=D6 _ AB;have TF:∀ W,Calls Tryz.prog 232 #[IC a] W _:=fun W=>ahA a W;have TL:∀ W,AU w W->Calls Tryz.prog 233 #[IC b] W _:=fun W hW=>ahB b W (Kb.out.keep hW);unfold IC at TF TL;have uq:=TF;have uw:=TL;have q1:0<=(a.k:Int):=by omega
  cases h1:((a.k:Int)+1 == (b.k:Int))
  case true =>
   have hf:=AA (show (m == 1)=q by
    rw [<- Hf.out,Xi,AZ];have:=eq_of_beq h1
    simp only [nR,KD,EO];left;omega)
   clear TF TL uq uw;go_upto_region 7 with fail;refine DJ (wc) (.run 29 0 0 (.done)) fun CU QR Ae Ah hS=>?_
   iterate 7 refine Aj ?_
   iterate 21 refine Jh ?_
   refine Aj ?_;refine DF ?_;clear hS Ah Ae;intro hB;go_wp2;go_ret;exact ⟨CW hf.out,bT Bc hB⟩
  case false =>
  have hk:¬ a.k+1=b.k:=by have:=ne_of_beq_false h1;omega
  cases h2:(a.ln.arc.fr == a.ln.arc.dst)
  case false =>
   have hf:=AA (show (m == 0)=q by
    rw [<- Hf.out,Xi,AX];simp only [nR,h2,Gg hk];simp)
   clear TF TL uq uw;go_upto_region 7 with fail;refine DJ (wc) (.run 29 0 0 (.done)) fun CU QR Ae Ah hS=>?_
   iterate 7 refine Aj ?_
   iterate 14 refine Du ?_
   iterate 2 refine Jh ?_
   iterate 2 refine Du ?_
   iterate 2 refine Jh ?_
   refine Du ?_;refine Aj ?_;refine DF ?_;clear hS Ah Ae;intro hB;go_wp2;go_ret;exact ⟨CW hf.out,bT Bc hB⟩
  case true =>
  cases h3:((a.k:Int) == 0)
  case false =>
   rw [h3] at TF;have HF:=AA TF;have hf:=AA (show (m == 0)=q by
    have h3':¬ a.k=0:=by have:=ne_of_beq_false h3;omega
    rw [<- Hf.out,Xi,AX];simp only [nR,h2,Gg hk,Gg h3'];simp)
   clear TF TL uq uw h3;go_upto_region 7 with fail;refine DJ (wc) (.run 22 0 0 (.call 22 8388607 (.run 6 23 8388607 (.done)))) fun CU QR Ae Ah hS=>?_
   iterate 7 refine Aj ?_
   iterate 15 refine Du ?_
   refine GL (HF.out _) ?_;clear hS;intro CX CV hS
   iterate 2 refine Du ?_
   iterate 2 refine Jh ?_
   refine Du ?_;refine Aj ?_;refine DF ?_;clear hS Ah Ae;intro hB;go_wp2;go_ret;exact ⟨CW hf.out,bT Bc hB⟩
  case true =>
  rw [h3] at TF;have HF:=AA TF
  cases h4:((b.k:Int) == (b.ln.path.length:Int)-2)
  case false =>
   rw [h4] at TL;have HL:=AA TL;have hf:=AA (show (m == 0)=q by
    have h4':=ne_of_beq_false h4;rw [<- Hf.out,Xi,AX];simp only [nR,Gg hk,Gg h4'];simp)
   clear TF TL uq uw h3 h4;go_upto_region 7 with fail;refine DJ (wc) (.run 22 0 0 (.call 22 8388607 (.run 3 23 8388607 (.call 26 134217727 (.take 27 268435455 (.take 28 536870911 (.done))))))) fun CU QR Ae Ah hS=>?_
   iterate 7 refine Aj ?_
   iterate 15 refine Du ?_
   refine GL (HF.out _) ?_;clear hS;intro CX CV hS
   iterate 3 refine Du ?_
   refine GL (HL.out _ (bT Bc hS)) ?_;clear hS;intro wr2 Fp hS;refine Du ?_;refine Aj ?_;refine DF ?_;clear hS Ah Ae;intro hB;go_wp2;go_ret;exact ⟨CW hf.out,bT Bc hB⟩
  case true =>
   rw [h4] at TL;have HL:=AA TL;have hf:=AA (show (m == 1)=q by
    have h3':a.k=0:=by have:=eq_of_beq h3;omega
    have h4':=eq_of_beq h4;rw [<- Hf.out,Xi,AZ];simp only [nR,h2,JO h3',JO h4'];simp)
   clear TF TL uq uw h3 h4;go_upto_region 7 with fail;refine DJ (wc) (.run 22 0 0 (.call 22 8388607 (.run 3 23 8388607 (.call 26 134217727 (.take 27 268435455 (.take 28 536870911 (.done))))))) fun CU QR Ae Ah hS=>?_
   iterate 7 refine Aj ?_
   iterate 15 refine Du ?_
   refine GL (HF.out _) ?_;clear hS;intro CX CV hS
   iterate 3 refine Du ?_
   refine GL (HL.out _ (bT Bc hS)) ?_;clear hS;intro wr2 Fp hS;refine Du ?_;refine Aj ?_;refine DF ?_;clear hS Ah Ae;intro hB;go_wp2;go_ret;exact ⟨CW hf.out,bT Bc hB⟩
