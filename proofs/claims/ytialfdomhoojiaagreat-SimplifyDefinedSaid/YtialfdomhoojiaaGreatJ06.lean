import Derived.Test.YtialfdomhoojiaaGreatJ05
set_option linter.unusedSimpArgs false
set_option linter.unusedVariables false
set_option maxRecDepth 100000
set_option maxHeartbeats 4000000
namespace Go.Proofs.YtialfdomhoojiaaGreat
open Go.RowKit
structure Ln where
 arc:Ar
 path:List Pt
 g:Nat
 via:SV
 pa:Option Addr
 pc:Nat
def ZH (x:Ln):Array Value:=#[.int .i64 x.arc.id,.int .i64 x.arc.fr,.int .i64 x.arc.dst,.slice x.via.a x.via.n x.via.c,.int .i64 x.arc.left,.int .i64 x.arc.right,.slice x.pa x.path.length x.pc]
def Ea (w:World) (x:Ln):Prop:=ah w x.g 237 (ZH x)/\Own w 0 39 2 dU (.slice x.pa x.path.length x.pc) x.path
theorem Ea.keep {w w':World} {x:Ln} (h:Ea w x) (hb:Below w.heap.size w w'):Ea w' x:=⟨h.1.keep hb,h.2.keep hb⟩
structure dO where
 ln:Ln
 k:Nat
def jV (s:dO):List Value:=[.pointer (some ⟨s.ln.g,0,none⟩),.int .i64 s.k]
def jE (s:dO):Value:=.agg #[.pointer (some ⟨s.ln.g,0,none⟩),.int .i64 s.k]
def dO.fst (s:dO):Pt:=s.ln.path.getD s.k aA
def dO.snd (s:dO):Pt:=s.ln.path.getD (s.k+1) aA
def iI (w:World) (s:dO):Prop:=Ea w s.ln/\s.k+1<s.ln.path.length/\s.ln.path.length<=2097152
theorem iI.keep {w w':World} {s:dO} (h:iI w s) (hb:Below w.heap.size w w'):iI w' s:=⟨h.1.keep hb,h.2⟩
theorem ah.IL {w:World} {g:Nat} {t:TypeId} {v0 v1 v2 v3 v4 v5 v6:Value} (h:ah w g t #[v0,v1,v2,v3,v4,v5,v6]):g<w.heap.size/\w.cell? ⟨g,0,none⟩=some v0/\w.cell? ⟨g,1,none⟩=some v1/\w.cell? ⟨g,2,none⟩=some v2/\w.cell? ⟨g,3,none⟩=some v3/\w.cell? ⟨g,4,none⟩=some v4/\w.cell? ⟨g,5,none⟩=some v5/\w.cell? ⟨g,6,none⟩=some v6/\w.frozen? ⟨g,0,none⟩=false/\w.frozen? ⟨g,1,none⟩=false/\w.frozen? ⟨g,2,none⟩=false/\w.frozen? ⟨g,3,none⟩=false/\w.frozen? ⟨g,4,none⟩=false/\w.frozen? ⟨g,5,none⟩=false/\w.frozen? ⟨g,6,none⟩=false :=
 ⟨h.lt,h.cell 0,h.cell 1,h.cell 2,h.cell 3,h.cell 4,h.cell 5,h.cell 6,h.frozen 0,h.frozen 1,h.frozen 2,h.frozen 3,h.frozen 4,h.frozen 5,h.frozen 6⟩
theorem Qd (s:dO) (w:World) (h:iI w s) :
  Calls Tryz.prog 231 #[jE s] w fun e w'=>e=.returned (.tuple #[aK s.fst,aK s.snd])/\yY w w':=by
 obtain ⟨⟨hL,hP⟩,hk,hm⟩:=h;obtain ⟨A,c,he,hn,hc,hR⟩:=Own.sl hP;clear hP;injection he with he1 _ he3;subst he1 he3;unfold ZH at hL;obtain ⟨b,o,hA,hlb,c0,c1⟩:=hR.pt (k:=s.k) Pe;obtain ⟨b',o',hA',-,d0,d1⟩:=hR.pt (k:=s.k+1) hk;rw [hA] at hA' hL;simp only [Option.some.injEq,Addr.mk.injEq,and_true] at hA';obtain ⟨rfl,rfl⟩:=hA';have hf:s.fst=s.ln.path[s.k]:=by unfold dO.fst;simp [List.getD,avG (show s.k<s.ln.path.length by omega)]
 have hs:s.snd=s.ln.path[s.k+1]:=by unfold dO.snd;simp [List.getD,avG hk]
 rw [<- hf] at c0 c1;rw [<- hs] at d0 d1;unfold jE aK;unfold maxLen at hc;clear hf hs hR hA;generalize s.fst=P0 at *;generalize s.snd=P1 at *;generalize s.ln.path.length=N at *;generalize s.k=k at *;generalize s.ln.g=g at *;have HL:=avE hL;clear hL;go_enter Tryz.func231,Tryz.ntmps231;go_upto_region 1 with fail;obtain ⟨W,hW⟩:∃ W:World,W=((w.alloc (.cells #[.pointer (some ⟨g,0,none⟩),.int .i64 k] 230)).alloc (.cells #[.int .i64 0,.int .i64 0] 39)).alloc (.cells #[.int .i64 0,.int .i64 0] 39):=⟨_,rfl⟩;have Bw:Below w.heap.size w W:=by rw [hW];exact bA (bA (bA (bR w) _) _) _
 have Dw:w.drawn<=W.drawn:=by rw [hW];exact dA (dA (dA (dR w) _) _) _
 have X1:ah W w.heap.size 230 #[.pointer (some ⟨g,0,none⟩),.int .i64 k]:=by rw [hW];exact ((ah.made rfl _ _).alloc _).alloc _
 have X2:ah W (w.heap.size+1) 39 #[.int .i64 0,.int .i64 0]:=by rw [hW];exact (ah.made ars _ _).alloc _
 have X3:ah W (w.heap.size+1+1) 39 #[.int .i64 0,.int .i64 0]:=by rw [hW];exact ah.made ars _ _
 rw [<- hW];clear hW;have X9:=HL.out.keep Bw;have hgl:=HL.out.lt;obtain ⟨bc,-⟩:=Cj Bw;replace c0:=(bc b _ hlb).trans c0;replace c1:=(bc b _ hlb).trans c1;replace d0:=(bc b _ hlb).trans d0;replace d1:=(bc b _ hlb).trans d1;clear bc;obtain ⟨aS,aT,aU,-,-⟩:=X1.aQ;obtain ⟨lu,lC,lD,ZI,ZJ,ZK,ZL,X9g,-,-,-,-,-,-,-⟩:=X9.IL;obtain ⟨aG,aI,aJ,Eb,FB⟩:=X2.aQ;obtain ⟨bH,bU,bY,Qe,adY⟩:=X3.aQ;have q1:0<=(k:Int):=by omega
 have q2:(k:Int)<N:=by omega
 have q3:0<=(k:Int)+1:=by omega
 have q4:(k:Int)+1<N:=by omega
 have q5:((k:Int)+1).toNat=k+1:=by omega
 have q6:IntKind.i64.wrap ((k:Int)+1)=(k:Int)+1:=avS _ Pe;have q7:w.heap.size<w.heap.size+1:=by omega
 have q8:g<w.heap.size+1:=by omega
 have q9:b<w.heap.size+1:=by omega
 refine Ah (w.heap.size+1) (W) (.run 19 0 0 (.call 19 1048575 (.call 20 2097151 (.done)))) fun bZ QR aB aH hS=>?_
 iterate 19 refine aC ?_
 refine bK ?_;clear hS;intro K hK ak;go_simp;have hS:fM (w.heap.size+1) W _:=(Below.setCell (Below.setCell ak.out (p:=⟨w.heap.size+1,0,none⟩) (awe _) (.int .i64 P0.x)) (p:=⟨w.heap.size+1,1,none⟩) (awe _) (.int .i64 P0.y));clear ak;refine hK.out _ _ hS (fun _=>?_);clear hK K
 try simp only [pu]
 refine bK ?_;clear hS;intro K hK ak;go_simp;have hS:fM (w.heap.size+1) W _:=(Below.setCell (Below.setCell ak.out (p:=⟨w.heap.size+1+1,0,none⟩) (Nat.le_succ _) (.int .i64 P1.x)) (p:=⟨w.heap.size+1+1,1,none⟩) (Nat.le_succ _) (.int .i64 P1.y));clear ak;refine hK.out _ _ hS (fun _=>?_);clear hK K
 try simp only [pu]
 refine o8 ?_;clear hS aH aB;intro hB;go_wp2_with fail;refine ajx (g:=w.heap.size+1) (g':=w.heap.size+1+1) (cs:=#[.int .i64 P0.x,.int .i64 P0.y]) (cs':=#[.int .i64 P1.x,.int .i64 P1.y]) rfl Uk Uk rfl rfl rfl ?_ ?_ ⟨rfl,?_,?_⟩
 · exact ((ah.MW X2).far (p:=⟨w.heap.size+1+1,0,none⟩) ars _).far (p:=⟨w.heap.size+1+1,1,none⟩) ars _
 · exact ah.MW ((X3.far (p:=⟨w.heap.size+1,0,none⟩) ars _).far (p:=⟨w.heap.size+1,1,none⟩) ars _)
 · exact Bw.trans (hB.mono Pe)
 · exact Nat.le_succ_of_le Dw
def kK (s:dO):Int:=min s.fst.x s.snd.x
def rE (s:dO):Int:=max s.fst.x s.snd.x
theorem ZN (s:dO) (w:World) (h:iI w s) :
  Calls Tryz.prog 228 #[jE s] w fun e w'=>e=.returned (.int .i64 (kK s))/\yY w w':=by
 have TE:∀ W,Below w.heap.size w W->Calls Tryz.prog 231 #[jE s] W _:=fun W hW=>Qd s W (h.keep hW);unfold kK;unfold jE aK at TE;unfold jE;have HE:=avE TE;clear TE h;generalize s.fst=P0 at *;generalize s.snd=P1 at *;generalize s.k=k at *;generalize s.ln.g=g at *;go_enter Tryz.func228,Tryz.ntmps228;go_wp2_with fail;refine (HE.out _ (bA (bR w) _)).mono ?_;rintro e w1 ⟨rfl,hb1,hd1⟩;have Bw:Below w.heap.size w w1:=bT (bA (bR w) _) hb1;have Dw:w.drawn<=w1.drawn:=dT (dA (dR w) _) hd1;clear hb1 hd1;go_wp2_with fail
 all_goals
  go_ret;refine ⟨dL ?_,?_,?_⟩
  · first | rfl | omega
  · exact bA (bA Bw _) _
  · exact Dw
theorem akF (s:dO) (w:World) (h:iI w s) :
  Calls Tryz.prog 229 #[jE s] w fun e w'=>e=.returned (.int .i64 (rE s))/\yY w w':=by
 have TE:∀ W,Below w.heap.size w W->Calls Tryz.prog 231 #[jE s] W _:=fun W hW=>Qd s W (h.keep hW);unfold rE;unfold jE aK at TE;unfold jE;have HE:=avE TE;clear TE h;generalize s.fst=P0 at *;generalize s.snd=P1 at *;generalize s.k=k at *;generalize s.ln.g=g at *;go_enter Tryz.func229,Tryz.ntmps229;go_wp2_with fail;refine (HE.out _ (bA (bR w) _)).mono ?_;rintro e w1 ⟨rfl,hb1,hd1⟩;have Bw:Below w.heap.size w w1:=bT (bA (bR w) _) hb1;have Dw:w.drawn<=w1.drawn:=dT (dA (dR w) _) hd1;clear hb1 hd1;go_wp2_with fail
 all_goals
  go_ret;refine ⟨dL ?_,?_,?_⟩
  · first | rfl | omega
  · exact bA (bA Bw _) _
  · exact Dw
theorem adZ (s:dO) (w:World) :
  Calls Tryz.prog 232 #[jE s] w fun e w'=>e=.returned (.bool ((s.k:Int) == 0))/\Below w.heap.size w w':=by
 unfold jE;generalize s.k=k;generalize s.ln.g=g;go_enter Tryz.func232,Tryz.ntmps232;go_wp2;go_ret;exact ⟨rfl,bA (bR w) _⟩
theorem ad1 (s:dO) (w:World) (h:iI w s) :
  Calls Tryz.prog 233 #[jE s] w fun e w'=>e=.returned (.bool ((s.k:Int) == (s.ln.path.length:Int)-2))/\Below w.heap.size w w':=by
 obtain ⟨⟨hL,hP⟩,hk,hm⟩:=h;unfold ZH at hL;clear hP;unfold jE;generalize s.ln.path.length=N at *;generalize s.k=k at *;generalize s.ln.g=g at *;have HL:=avE hL;clear hL;go_enter Tryz.func233,Tryz.ntmps233;go_upto_region 1 with fail;obtain ⟨W,hW⟩:∃ W:World,W=w.alloc (.cells #[.pointer (some ⟨g,0,none⟩),.int .i64 k] 230):=⟨_,rfl⟩;have Bw:Below w.heap.size w W:=by rw [hW];exact bA (bR w) _
 have X1:ah W w.heap.size 230 #[.pointer (some ⟨g,0,none⟩),.int .i64 k]:=by rw [hW];exact ah.made rfl _ _
 rw [<- hW];clear hW;have X9:=HL.out.keep Bw;obtain ⟨aS,aT,aU,-,-⟩:=X1.aQ;obtain ⟨lu,lC,lD,ZI,ZJ,ZK,ZL,X9g,-,-,-,-,-,-,-⟩:=X9.IL;have q6:IntKind.i64.wrap ((N:Int)-2)=(N:Int)-2:=avS _ Pe;refine dH (W) (.run 11 0 0 (.done)) fun bZ QR aB aH hS=>?_
 iterate 11 refine aC ?_
 refine dB ?_;clear hS aH aB;intro hB;go_wp2;go_ret;exact ⟨rfl,bT Bw hB⟩
theorem Ea.grow {w w':World} {x:Ln} {row:Option Nat} {e:TypeId} (h:Ea w x) (hg:w.grownBy w' row) (hr:∀ g,row=some g->∃ cs,ah w g e cs) (h1:e≠237) (h2:e≠39):Ea w' x:=by
 refine ⟨h.1.grow hg (fun e'=>?_),Own.grown h.2 hg (fun g hg' e'=>?_)⟩
 ·obtain ⟨cs,hb⟩:=hr _ e'.symm;exact ah.J3 hb h.1 h1 rfl
 ·obtain ⟨cs,hb⟩:=hr _ e'.symm;obtain ⟨cs',hb'⟩:=h.2.blk hg';exact ah.J3 hb hb' h2 rfl
theorem iI.grow {w w':World} {s:dO} {row:Option Nat} {e:TypeId} (h:iI w s) (hg:w.grownBy w' row) (hr:∀ g,row=some g->∃ cs,ah w g e cs) (h1:e≠237) (h2:e≠39):iI w' s:=⟨h.1.grow hg hr h1 h2,h.2⟩
theorem akG:Elem Tryz.prog 224 230 2 16:=Elem.xK (z:=.agg #[.pointer none,.int .i64 0]) atF atF rfl Pe
theorem UW (s:dO):(jV s).length=2:=rfl
theorem ad2 (s:dO):∀ u∈jV s,u.oneCell'=true:=by simp [jV,Value.oneCell']
theorem Sl.akH {w:World} {g:Nat} {t:TypeId} {s:dO} (h:ah w g t #[.pointer (some ⟨s.ln.g,0,none⟩),.int .i64 s.k]) :
  Sl w (.slice (some ⟨g,0,none⟩) 1 1) ([s] : List dO).length (([s] : List dO).flatMap jV):=Sl.lit (n:=1) h rfl (dP Pe)
def FC (l:List Pt):Bool:=(List.range (l.length-1)).all fun k=>!decide (l.getD k aA=l.getD (k+1) aA)
theorem akI (l:List Pt) (k:Nat) (hk:k+1<l.length) (h:l[k]=l[k+1]):FC l=false:=by
 unfold FC;rw [List.all_eq_false];exact ⟨k,List.mem_range.2 Pe,by simp [List.getD,avG hk,avG (show k<l.length by omega),h]⟩
theorem akJ (l:List Pt) (h:∀ k (hk:k+1<l.length),¬ l[k]=l[k+1]):FC l=true:=by
 unfold FC;rw [awh];intro k hk;have hk:k+1<l.length:=by have:=List.mem_range.1 hk;omega
 have:=h k hk
 simpa [List.getD,avG hk,avG (show k<l.length by omega)] using this
def nI (p:Pl) (a:Ar):Bool:=match pathOf p a.id with
 | none=>false
 | some l=>!(a.fr == a.dst && decide ((l.length:Int)<4)) && FC l
structure iY where
 arc:Ar
 path:List Pt
 k:Nat
def dO.abs (s:dO):iY:=⟨s.ln.arc,s.ln.path,s.k⟩
def iC (p:Pl) (a:Ar):List iY:=(List.range (((pathOf p a.id).getD []).length-1)).map fun k=>⟨a,(pathOf p a.id).getD [],k⟩
theorem akK (p:Pl) (a:Ar) (k:Nat) (hk:k+1<((pathOf p a.id).getD []).length):(iC p a).take (k+1)=(iC p a).take k++[⟨a,(pathOf p a.id).getD [],k⟩]:=by
 have h:k<(iC p a).length:=by simp only [iC,avM,List.length_range];omega
 rw [avH h];simp [iC]
theorem ad3 {p:Pl} {id:Int} {l:List Pt} (h:pathOf p id=some l) (hsh:Short p):2<=l.length/\l.length<=1048578:=by
 unfold pathOf at h
 cases ha:findAr p.aj id with
 | none=>rw [ha] at h;cases h
 | some a =>
  rw [ha] at h;simp only [] at h;split at h
  ·injection h with h;subst h;rw [ig];have:=hsh a (CW ha)
   omega
  · cases h
def ad4 (w:World) (p:Pl) (e:Ending) (w':World):Prop :=
 Below w.heap.size w w'/\if p.aj.all (nI p)=true then
  ∃ (sl:List dO) (v:Value),e=.returned (.tuple #[v,.bool true])/\sl.map dO.abs=p.aj.flatMap (iC p)/\(∀ s∈sl,iI w' s)/\Own w' w.heap.size 230 2 jV v sl
 else e=.returned (.tuple #[.slice none 0 0,.bool false])
theorem akL (v:Value) (p:Pl) (w:World) (h:bQ w v p) (hsh:Short p) (hl:(p.aj.flatMap (iC p)).length<=2097152) :
  Calls Tryz.prog 225 #[v] w (ad4 w p):=by
 have HP:=avE h;have iL:=avE hsh;clear hsh;obtain ⟨vn,_,vf,al,rfl,hpa,-,⟨⟨Aa,ca,rfl,ha1,ha2,gV⟩,hV⟩,-⟩:=h;unfold maxLen at ha2;have HV:=avE hV;clear hV;have jr:=avE gV;clear gV;have hL:∀ k,((al.take k).flatMap fun a=>iC p a.1).length<=2097152:=fun k=>by
  have h1:=PN al (fun a=>iC p a.1) k;rw [hpa,List.flatMap_map] at hl;exact avZ h1 hl
 have HL:=avE hL;have ZP:p.aj.all (nI p)=al.all (fun a=>nI p a.1):=by rw [hpa,List.all_map];rfl
 have hFl:p.aj.flatMap (iC p)=al.flatMap (fun a=>iC p a.1):=by rw [hpa,List.flatMap_map]
 obtain ⟨Q,hQ⟩:∃ Q,Q=ad4 w p:=⟨_,rfl⟩;have hbad:∀ k (hk:k<al.length),nI p al[k].1=false->∀ w',Below w.heap.size w w'->Q (.returned (.tuple #[.slice none 0 0,.bool false])) w':=fun k hk hb w' hw=>by
  rw [hQ];refine ⟨hw,?_⟩;rw [ZP,Fz al (fun a=>nI p a.1) k hk hb];rfl
 have hgood:(∀ k (hk:k<al.length),nI p al[k].1=true)->∀ (sl:List dO) (v:Value) w',Below w.heap.size w w'->sl.map dO.abs=al.flatMap (fun a=>iC p a.1)->(∀ s∈sl,iI w' s)->Own w' w.heap.size 230 2 jV v sl->Q (.returned (.tuple #[v,.bool true])) w':=fun h1 sl v w' hw h2 h3 h4=>by
  rw [hQ];refine ⟨hw,?_⟩;rw [ZP,Nw al (fun a=>nI p a.1) h1,if_pos rfl,hFl];exact ⟨sl,v,rfl,h2,h3,h4⟩
 have ZQ:=avE hbad;have akM:=avE hgood;rw [<- hQ];clear hpa hl hL ZP hFl hbad hgood hQ;go_enter Tryz.func225,Tryz.ntmps225;go_wp2_with fail;obtain ⟨W0,hW0⟩:∃ W0:World,W0=w.alloc (.cells #[vn,.slice Aa al.length ca,vf] 26):=⟨_,rfl⟩;have X1:ah W0 w.heap.size 26 #[vn,.slice Aa al.length ca,vf]:=by rw [hW0];exact ah.made rfl _ _
 have iq:Below w.heap.size w W0:=by rw [hW0];exact bA (bR w) _
 have HX0:=avE X1;rw [<- hW0];clear hW0 X1;go_loopw [2,13] (fun s i wr=>∃ (k:Nat) (sl:List dO),k<=al.length/\i=.int .i64 k/\sl.map dO.abs=((al.take k).flatMap fun a=>iC p a.1)/\(∀ s∈sl,iI wr s)/\Own wr W0.heap.size 230 2 jV s sl/\Below W0.heap.size W0 wr/\∀ j (hj:j<al.length),j<k->nI p al[j].1=true) (fun _ i _=>al.length-(intOf i).toNat)
 case atStart => exact ⟨0,[],avK _,rfl,rfl,(fun _ h=>by cases h),Own.nil _ _ _ _ _,bR W0,fun _ _ h=>by omega⟩
 case round =>
  obtain ⟨k,sl,hk,rfl,hsl,hok,hown,hb,hno⟩:=hrel;have Hb:=avE hb;have gU:=avE hown;have zu:=avE hsl;have Hok:=avE hok;have Hno:=avE hno;have X1:=HX0.out.keep hb;have hsz:=hb.size;clear hb hown hsl hok hno;obtain ⟨aS,aT,aU,aW,-,-,-⟩:=X1.aF;by_cases hlt:k<al.length
  case neg =>
   have hE:al.take k=al:=List.take_of_length_le Pe;have hs:=zu.out;rw [hE] at hs;have Hs:=avE hs;clear hE hs;go_wp2_with fail;exact akM.out (fun j hj=>Hno.out j hj Pe) sl _ _ (bT iq Hb.out) Hs.out Hok.out (gU.out.fG iq.size)
  obtain ⟨b,o,rfl,hlb,c0,c1,c2,c3,c4,c5⟩:=(jr.out.mono (bT iq Hb.out)).ar hlt;obtain ⟨Av,cv,hv,-⟩:=HV.out k hlt;rw [hv] at c3;clear hv;go_wp2_with fail;refine (Nz _ p _ _ (HP.out.mono (bT iq (bA Hb.out _))) iL.out).mono ?_;rintro e w2 ⟨Ap,cp,rfl,hb2,hop⟩;have hA1:Below wr.heap.size wr w2:=bT (bA (bR wr) _) hb2;have X5:ah w2 wr.heap.size 50 #[.int .i64 al[k].1.id,.int .i64 al[k].1.fr,.int .i64 al[k].1.dst,.slice Av al[k].1.via.length cv,.int .i64 al[k].1.left,.int .i64 al[k].1.right]:=(ah.made rfl _ _).keep hb2;have hown2:=gU.out.keep hA1;have hok2:∀ s∈sl,iI w2 s:=fun s hs=>(Hok.out s hs).keep hA1;have B2:=bT Hb.out hA1;have hsz2:=B2.size;replace X1:=X1.keep hA1;have gq:=avE X1;have PO:=avE hown2;have akN:=avE hok2;have HB2:=avE B2;clear hb2 hA1 hown2 hok2 B2 c0 c1 c2 c3 c4 c5 hlb X1 aS aT aU aW;obtain ⟨bI,bJ,bV,jk,zx,IQ,IU,-,-,-,-,-,-⟩:=X5.gX
  cases hpo:pathOf p al[k].1.id with
  | none =>
   have hf:=avE (show nI p al[k].1=false by unfold nI;rw [hpo]);clear hop;simp only [Option.isSome_none,Bool.false_eq_true,if_false,Option.getD_none,avN];go_wp2_with fail;exact ZQ.out k hlt hf.out _ (bT iq HB2.out)
  | some l =>
  rw [hpo] at hop;simp only [Option.isSome_some,if_true,avU] at hop ⊢;have Qg:=avE hpo;have hll:=ad3 hpo iL.out;have Hop:=avE hop;clear hpo hop;have ad5:nI p al[k].1=(!(al[k].1.fr == al[k].1.dst && decide ((l.length:Int)<4)) && FC l):=by unfold nI;rw [Qg.out]
  have ad6:=avE ad5;clear ad5;by_cases hloop:al[k].1.fr=al[k].1.dst/\(l.length:Int)<4
  ·obtain ⟨he1,he2⟩:=hloop;have hf:=avE (show nI p al[k].1=false by rw [ad6.out,beq_iff_eq.2 he1,avW he2];rfl);have hz:=beq_iff_eq.2 he1;clear he1;go_wp2_with fail;exact ZQ.out k hlt hf.out _ (bT iq HB2.out)
  have hz:(al[k].1.fr == al[k].1.dst && decide ((l.length:Int)<4))=false:=by
   rw [Bool.and_eq_false_iff];by_cases e:al[k].1.fr=al[k].1.dst
   · right;exact avV (fun h=>hloop ⟨e,h⟩)
   · left;exact beq_eq_false_iff_ne.2 e
  have ad7:=avE (show nI p al[k].1=FC l by rw [ad6.out,hz];rfl);go_upto_region 5 with fail;go_cut [37] (fun u wx=>u=.bool false/\wx=w2)
  case first =>
   cases e1:(al[k].1.fr == al[k].1.dst)
   ·go_wp2;go_meet
    case rel => exact ⟨rfl,rfl⟩
   ·have e2:¬ (l.length:Int)<4:=fun h=>hloop ⟨eq_of_beq e1,h⟩;clear hloop hz;go_wp2;go_meet
    case rel => exact ⟨rfl,rfl⟩
  case rest =>
  obtain ⟨rfl,rfl⟩:=hcut;clear hloop hz;go_wp2_with fail;obtain ⟨ln,hln⟩:∃ ln:Ln,ln=⟨al[k].1,l,wc.heap.size,⟨Av,al[k].1.via.length,cv⟩,Ap,cp⟩:=⟨_,rfl⟩;obtain ⟨W5,kJ⟩:∃ W5:World,W5=wc.alloc (.cells #[.int .i64 al[k].1.id,.int .i64 al[k].1.fr,.int .i64 al[k].1.dst,.slice Av al[k].1.via.length cv,.int .i64 al[k].1.left,.int .i64 al[k].1.right,.slice Ap l.length cp] 237):=⟨_,rfl⟩;have Dc:Below wc.heap.size wc W5:=by rw [kJ];exact bA (bR wc) _
  have hlo:Ea W5 ln:=by
   rw [hln];refine ⟨?_,(Hop.out.keep Dc).fG (avK _)⟩;rw [kJ];exact ah.made rfl _ _
  rw [<- kJ];have Hlo:=avE hlo;have UY:=avE hln;have Zk:=avE (PO.out.keep Dc);have akO:=avE (fun s hs=>(akN.out s hs).keep Dc);have bC:=avE (bT HB2.out Dc);clear Dc kJ hlo hln X5 bI bJ bV jk zx IQ IU;obtain ⟨M,hM⟩:∃ M,l.length=M+1:=⟨l.length-1,by omega⟩;have HM:=avE hM;clear hM;obtain ⟨wo,rfl⟩:∃ wo:World,wo=wr:=⟨_,rfl⟩;go_loopw [2,45] (fun s i wx=>∃ (j:Nat) (sx:List dO),j+1<=l.length/\i=.int .i64 j/\sx.map dO.abs=((al.take k).flatMap fun a=>iC p a.1)++(iC p al[k].1).take j/\(∀ s∈sx,iI wx s)/\Ea wx ln/\Own wx W0.heap.size 230 2 jV s sx/\Below W0.heap.size W0 wx/\∀ m (hm:m+1<l.length),m<j->¬ l[m]=l[m+1]) (fun _ i _=>l.length-(intOf i).toNat)
  case atStart => exact ⟨0,sl,by omega,rfl,by rw [zu.out];simp,akO.out,Hlo.out,Zk.out,bC.out,fun _ _ h=>by omega⟩
  case round =>
   obtain ⟨j,sx,hj,rfl,hsx,ad8,ad9,P6,hbx,hnx⟩:=hrel;have iR:=avE hbx;have D9:=avE P6;have Ku:=avE hsx;have aea:=avE ad8;have ZR:=avE ad9;have Bq:=avE hnx;have ZE:=hbx.size;clear hbx P6 hsx ad8 ad9 hnx;by_cases hlj:j+1<l.length
   case neg =>
    have hdist:=avE (show nI p al[k].1=true by rw [ad7.out];exact akJ l (fun m hm=>Bq.out m hm Pe));have Il:=avE (show sx.map dO.abs=((al.take (k+1)).flatMap fun a=>iC p a.1) by
     rw [Ku.out,avH hlt,List.flatMap_append,List.take_of_length_le (l:=iC p al[k].1) (by simp only [iC,Qg.out,avM,List.length_range,avU];omega)];simp)
    go_wp2;go_roundw
    case rel => exact ⟨k+1,sx,by omega,by go_num,Il.out,aea.out,D9.out,iR.out,all_succ (p:=fun x=>nI p x.1=true) Hno.out hlt hdist.out⟩
    case measure => simp [intOf];omega
   have hrow:=Own.sl ZR.out.2;rw [UY.out] at hrow;obtain ⟨A1',akx,he1,-,-,hrow⟩:=hrow;injection he1 with he1 _ he3;subst he1;subst he3;obtain ⟨pb,po,ZF,hlp,f0,f1⟩:=hrow.pt (k:=j) (by simp only [];omega);subst ZF;obtain ⟨pb',po',P7,adQ,f2,f3⟩:=hrow.pt (k:=j+1) (by simp only [];omega);simp only [Option.some.injEq,Addr.mk.injEq,and_true] at P7;obtain ⟨rfl,rfl⟩:=P7;simp only [] at f0 f1 f2 f3;clear hrow adQ;have Ny:IntKind.i64.wrap ((j:Int)+1)=(j:Int)+1:=avS _ Pe;have r1:0<=(j:Int):=by omega
   have r2:(j:Int)<l.length:=by omega
   have r3:0<=(j:Int)+1:=by omega
   have r4:(j:Int)+1<l.length:=by omega
   have r5:((j:Int)+1).toNat=j+1:=by omega
   have hE:=yT l[j] l[j+1];by_cases he:l[j]=l[j+1]
   ·have hd:decide (l[j]=l[j+1])=true:=avW he;have hf:=avE (show nI p al[k].1=false by rw [ad7.out];exact akI l j hlj he);clear he;go_upto_region 11 with fail;refine dH (wr) (.run 10 0 0 (.done)) fun bZ QR aB aH hS=>?_
    iterate 10 refine aC ?_
    refine dB ?_;clear hS aH aB;intro hB;go_wp2_with fail;exact ZQ.out k hlt hf.out _ (bT iq (bT iR.out hB))
   have hd:decide (l[j]=l[j+1])=false:=avV he;have He:=avE he;clear he;go_upto_region 11 with fail;refine dH (wr) (.run 10 0 0 (.done)) fun bZ QR aB aH hS=>?_
   iterate 10 refine aC ?_
   refine dB ?_;clear hS aH aB;intro hB;clear f0 f1 f2 f3 Ny r3 r4 r5 hE;have hlen:=avE (show sx.length+1<=2097152 by
    have h2:=congrArg List.length Ku.out;rw [avM,avL,awk] at h2;have h3:=HL.out (k+1);rw [avH hlt,List.flatMap_append,avL] at h3;simp only [av5,List.flatMap_nil,List.append_nil] at h3;have h4:(iC p al[k].1).length=l.length-1:=by simp only [iC,Qg.out,avM,List.length_range,avU]
    omega)
   have hnew:Hid (iI wr.drew ⟨ln,j⟩):=avE ⟨ZR.out.keep hB,by rw [UY.out];exact ⟨hlj,by simp only [];omega⟩⟩;have hgl:ln.g=wc.heap.size:=by rw [UY.out]
   have Hgl:=avE hgl;have ZT:Hid (Own wr.drew W0.heap.size 230 2 jV u2 sx):=avE D9.out;have akP:Hid (∀ s∈sx,iI wr.drew s):=avE fun s hs=>(aea.out s hs).keep hB;have akQ:Hid (Ea wr.drew ln):=avE (ZR.out.keep hB);have auc:W0.heap.size<=wr.drew.heap.size:=ZE;clear hB hgl;go_wp2_with
    (at_builtin
     refine iZ _ rfl (.tmp 58) (.tmp 62) _ rfl (base:=W0.heap.size) akG UW ad2 rfl (ZT.out.alloc _) rfl (l2:=[(⟨ln,j⟩:dO)]) (Sl.akH (by rw [Hgl.out];exact ah.made ars _ _)) (by have:=hlen.out;simp only [avO,avN];omega) (by have:=hlen.out;simp only [avO,avN];omega) arV ?_;intro v1 w1 hown1 hg hat;have oL:=avE (show Below W0.heap.size W0 w1 from bG (bA (bD iR.out) _) hg (fun g hk=>(ZT.out.lt g hk).1));have hrow:∀ g,(u2:Value).ownBlock=some g->∃ cs,ah (wr.drew.alloc (.cells #[.pointer (some ⟨wc.heap.size,0,none⟩),.int .i64 j] 230)) g 230 cs:=fun g hg=>(ZT.out.alloc _).blk hg;have akR:=avE (show ∀ s∈sx++[(⟨ln,j⟩:dO)],iI w1 s from fun s hs=>by
      rcases av1.1 hs with h | h
      · exact ((akP.out s h).keep (bA (bR wr.drew) _)).grow hg hrow arC arC
      ·rw [avY.1 h];exact (hnew.out.keep (bA (bR wr.drew) _)).grow hg hrow arC arC)
     have akS:=avE ((akQ.out.keep (bA (bR wr.drew) _)).grow hg hrow arC arC);clear hg hat hrow;have vP:=avE hown1;clear hown1)
   have Ik:=avE (show (sx++[(⟨ln,j⟩:dO)]).map dO.abs=((al.take k).flatMap fun a=>iC p a.1)++(iC p al[k].1).take (j+1) by
    rw [List.map_append,Ku.out,akK p al[k].1 j (by rw [Qg.out];exact hlj),awm];simp only [List.map_cons,List.map_nil,dO.abs,Qg.out,avU,UY.out])
   go_roundw
   case rel => exact ⟨j+1,_,by omega,by go_num,Ik.out,akR.out,akS.out,vP.out,oL.out,fun m hm hmj=>if e:m<j then Bq.out m hm e else by
     have:m=j:=by omega
     subst this;exact He.out⟩
   case measure => simp [intOf];omega
theorem akT (x:Int) (w:World):Calls Tryz.prog 111 #[.int .i64 x] w fun e w'=>e=.returned (.bool false)/\w=w':=by
 have hx:(x != x)=false:=by simp
 go_enter Tryz.func111,Tryz.ntmps111;go_wp2;go_ret;exact ⟨by simp,rfl⟩
def Bv (x y:Int):Int:=if x<y then -1 else if y<x then 1 else 0
theorem akU (x y:Int) (w:World):Calls Tryz.prog 52 #[.int .i64 x,.int .i64 y] w fun e w'=>e=.returned (.int .i64 (Bv x y))/\w=w':=by
 have HN:=avE (fun (z:Int) (W:World)=>akT z W);obtain ⟨q,hq⟩:∃ q,Bv x y=q:=⟨_,rfl⟩;rw [hq];have Hq:=avE hq;clear hq;go_enter Tryz.func52,Tryz.ntmps52;go_wp2_with fail;refine (HN.out _ _).mono ?_;rintro e w' ⟨rfl,rfl⟩;go_wp2_with fail;refine (HN.out _ _).mono ?_;rintro e w' ⟨rfl,rfl⟩;go_wp2_with fail
 all_goals
  go_ret;refine ⟨dL ?_,rfl⟩;rw [<- Hq.out];unfold Bv
  first | rw [if_pos avD] | (rw [if_neg avD,if_pos avD]) | (rw [if_neg avD,if_neg avD]) | (split<;>(try split)<;>omega)
theorem akV (x y:Int) (w:World):Calls Tryz.prog 52 #[.int .i64 x,.int .i64 y] w fun e w'=>e=.returned (.int .i64 (Bv x y))/\yY w w' :=
 (akU x y w).mono fun e w' h=>⟨h.1,by rw [<- h.2];exact ⟨bR w,dR w⟩⟩
theorem akW (s t:dO) (w:World) (hs:iI w s) (ht:iI w t) :
  Calls Tryz.prog 227 #[jE s,jE t] w fun e w'=>e=.returned (.int .i64 (Bv (kK s) (kK t)))/\yY w w':=by
 have TS:∀ W,Below w.heap.size w W->Calls Tryz.prog 228 #[jE s] W _:=fun W hW=>ZN s W (hs.keep hW);have TT:∀ W,Below w.heap.size w W->Calls Tryz.prog 228 #[jE t] W _:=fun W hW=>ZN t W (ht.keep hW);unfold jE at TS TT ⊢;have HS:=avE TS;have HT:=avE TT;clear TS TT hs ht;generalize kK s=x at *;generalize kK t=y at *;generalize s.k=k at *;generalize t.k=m at *;generalize s.ln.g=g at *;generalize t.ln.g=h at *;go_enter Tryz.func227,Tryz.ntmps227;go_upto_region 1 with fail;obtain ⟨W,hW⟩:∃ W:World,W=(w.alloc (.cells #[.pointer (some ⟨g,0,none⟩),.int .i64 k] 230)).alloc (.cells #[.pointer (some ⟨h,0,none⟩),.int .i64 m] 230):=⟨_,rfl⟩;have Bw:Below w.heap.size w W:=by rw [hW];exact bA (bA (bR w) _) _
 have Dw:=avE (show w.drawn<=W.drawn by rw [hW];exact dA (dA (dR w) _) _);have X1:ah W w.heap.size 230 #[.pointer (some ⟨g,0,none⟩),.int .i64 k]:=by rw [hW];exact (ah.made rfl _ _).alloc _
 have X2:ah W (w.heap.size+1) 230 #[.pointer (some ⟨h,0,none⟩),.int .i64 m]:=by rw [hW];exact ah.made ars _ _
 rw [<- hW];clear hW;obtain ⟨aS,aT,aU,-,-⟩:=X1.aQ;obtain ⟨aG,aI,aJ,-,-⟩:=X2.aQ;refine dH (W) (.take 0 1 (.take 2 5 (.call 1 7 (.call 3 15 (.call 4 31 (.take 5 63 (.done))))))) fun bZ QR aB aH hS=>?_
 iterate 2 refine aC ?_
 refine bK ?_;clear hS;intro K hK ak;go_simp;refine (HS.out _ (bT Bw ak.out)).mono ?_;rintro e cZ ⟨rfl,bW,hd1⟩;have hS:Since W cZ:=bT (w:=W) ak.out bW;clear ak;refine hK.out _ _ hS (fun _=>?_);clear hK K
 try simp only [pu]
 refine bK ?_;clear hS;intro K hK ak;go_simp;refine (HT.out _ (bT Bw ak.out)).mono ?_;rintro e wr2 ⟨rfl,iW,hd2⟩;have hS:Since W wr2:=bT (w:=W) ak.out iW;clear ak;refine hK.out _ _ hS (fun _=>?_);clear hK K
 try simp only [pu]
 refine bK ?_;clear hS;intro K hK ak;go_simp;refine (akV x y _).mono ?_;rintro e wr3 ⟨rfl,qj,hd3⟩;have hS:Since W wr3:=bT (w:=W) ak.out qj;clear ak;refine hK.out _ _ hS (fun _=>?_);clear hK K
 try simp only [pu]
 refine aC ?_;refine dB ?_;clear hS aH aB;intro hB;have D3:=avE (dT (dT (dT (dD Dw.out) hd1) hd2) hd3);go_wp2;go_ret;exact ⟨rfl,bT Bw hB,D3.out⟩
def NC (a b:dO):Bool:=decide (a.k+1=b.k) || ((a.ln.arc.fr == a.ln.arc.dst) && decide (a.k=0) && decide ((b.k:Int)=(b.ln.path.length:Int)-2))
def Ec (m:Int) (a b:dO):Bool:=if NC a b then m == 1 else m == 0
def kL (f:Int->Pt) (s t:dO) (id:Int):Bool:=(id == t.ln.arc.fr || id == t.ln.arc.dst) && dQ s.fst s.snd (f id) && dQ t.fst t.snd (f id)
def rF (f:Int->Pt) (s t:dO):Bool :=
 if s.ln.arc.id=t.ln.arc.id then (if t.k<s.k then Ec (lq s.fst s.snd t.fst t.snd) t s else Ec (lq s.fst s.snd t.fst t.snd) s t)
 else if lq s.fst s.snd t.fst t.snd=1 then kL f s t s.ln.arc.fr || kL f s t s.ln.arc.dst
 else lq s.fst s.snd t.fst t.snd == 0
theorem iI.line {w:World} {s:dO} (h:iI w s):ah w s.ln.g 237 #[.int .i64 s.ln.arc.id,.int .i64 s.ln.arc.fr,.int .i64 s.ln.arc.dst,.slice s.ln.via.a s.ln.via.n s.ln.via.c,.int .i64 s.ln.arc.left,.int .i64 s.ln.arc.right,.slice s.ln.pa s.ln.path.length s.ln.pc]:=h.1.1
theorem akX (f:Int->Pt) (mb n:Nat) (s t:dO) (w:World) (hs:iI w s) (ht:iI w t) (hm:kX w mb n f)
  (hw1:eU s.ln.arc.fr) (hw2:eU s.ln.arc.dst) :
  Calls Tryz.prog 230 #[jE s,jE t,.map (some mb)] w fun e w'=>e=.returned (.bool (rF f s t))/\Below w.heap.size w w':=by
 have TS:∀ W,Below w.heap.size w W->Calls Tryz.prog 231 #[jE s] W _:=fun W hW=>Qd s W (hs.keep hW);have TT:∀ W,Below w.heap.size w W->Calls Tryz.prog 231 #[jE t] W _:=fun W hW=>Qd t W (ht.keep hW);have TM:∀ W,Calls Tryz.prog 260 #[aK s.fst,aK s.snd,aK t.fst,aK t.snd] W _:=fun W=>ajL s.fst s.snd t.fst t.snd W;have TO:∀ p q r:Pt,∀ W,Calls Tryz.prog 28 #[aK p,aK q,aK r] W _:=fun p q r W=>J8 p q r W;unfold jE aK at TS TT;unfold aK at TM TO;unfold jE;have HS:=avE TS;have HT:=avE TT;have HM:=avE TM;have HO:=avE TO;have Ks:=avE hs;have Kt:=avE ht;have Km:=avE hm;have hsk:s.k<=2097152:=by have:=hs.2;omega
 have htk:t.k<=2097152:=by have:=ht.2;omega
 clear TS TT TM TO hs ht hm;obtain ⟨q,hq⟩:∃ q,rF f s t=q:=⟨_,rfl⟩;rw [hq];unfold rF at hq;have Hq:=avE hq;clear hq;go_enter Tryz.func230,Tryz.ntmps230;go_wp2_with fail;refine (HS.out _ (bA (bA (bR w) _) _)).mono ?_;rintro e w1 ⟨rfl,hb1,-⟩;have Bw:Below w.heap.size w w1:=by
  exact eF
 have X3:ah _ (w.heap.size) 230 #[.pointer (some ⟨s.ln.g,0,none⟩),.int .i64 s.k]:=ah.keep (by repeat (first | exact ah.made ars _ _ | refine ah.alloc ?_ _)) hb1;have X4:ah _ (w.heap.size+1) 230 #[.pointer (some ⟨t.ln.g,0,none⟩),.int .i64 t.k]:=ah.keep (by repeat (first | exact ah.made ars _ _ | refine ah.alloc ?_ _)) hb1;clear hb1;obtain ⟨bH,bU,bY,-,-⟩:=X3.aQ;obtain ⟨aV,aX,bn,-,-⟩:=X4.aQ;go_wp2_with fail;refine (HT.out _ (bA (bA Bw _) _)).mono ?_;rintro e w2 ⟨rfl,hb2,-⟩;have X7:ah w2 w1.heap.size 39 #[.int .i64 s.fst.x,.int .i64 s.fst.y]:=((ah.made rfl _ _).alloc _).keep hb2;have X8:ah w2 (w1.heap.size+1) 39 #[.int .i64 s.snd.x,.int .i64 s.snd.y]:=(ah.made ars _ _).keep hb2;replace X3:=((X3.alloc _).alloc _).keep hb2;replace X4:=((X4.alloc _).alloc _).keep hb2;replace Bw:=bT (bA (bA Bw _) _) hb2;clear hb2
 try clear bH
 try clear bU
 try clear bY
 obtain ⟨bH,bU,bY,-,-⟩:=X3.aQ
 try clear aV
 try clear aX
 try clear bn
 obtain ⟨aV,aX,bn,-,-⟩:=X4.aQ;obtain ⟨dY,dZ,gI,-,-⟩:=X7.aQ;obtain ⟨y9,zf,AO,-,-⟩:=X8.aQ;go_wp2_with fail;refine (HM.out _).mono ?_;rintro e w3 ⟨rfl,hb3⟩;have X9:ah w3 w2.heap.size 39 #[.int .i64 t.fst.x,.int .i64 t.fst.y]:=((ah.made rfl _ _).alloc _).keep hb3;have gZ:ah w3 (w2.heap.size+1) 39 #[.int .i64 t.snd.x,.int .i64 t.snd.y]:=(ah.made ars _ _).keep hb3;replace X3:=((X3.alloc _).alloc _).keep hb3;replace X4:=((X4.alloc _).alloc _).keep hb3;replace X7:=((X7.alloc _).alloc _).keep hb3;replace X8:=((X8.alloc _).alloc _).keep hb3;replace Bw:=bT (bA (bA Bw _) _) hb3;clear hb3;generalize lq s.fst s.snd t.fst t.snd=m at *;have Y1:=(Ks.out.keep Bw).line;have Y2:=(Kt.out.keep Bw).line
 try clear bH
 try clear bU
 try clear bY
 obtain ⟨bH,bU,bY,Qe,adY⟩:=X3.aQ
 try clear aV
 try clear aX
 try clear bn
 obtain ⟨aV,aX,bn,dV,gy⟩:=X4.aQ;obtain ⟨ND,NG,NH,NI,NJ,NK,NP,NQ,-,-,-,-,-,-,-⟩:=Y1.IL;obtain ⟨IV,IW,IX,IY,IZ,I4,I5,I7,-,-,-,-,-,-,-⟩:=Y2.IL;go_upto_region 4 with fail;refine dH (w3) (.run 13 0 0 (.done)) fun bZ QR aB aH hS=>?_
 iterate 13 refine aC ?_
 refine dB ?_;clear hS aH aB;intro hB;have Bd:Below w.heap.size w w3.drew:=bD Bw;clear hB;by_cases hid:s.ln.arc.id=t.ln.arc.id
 case neg =>
  have aeb:(s.ln.arc.id == t.ln.arc.id)=false:=beq_eq_false_iff_ne.2 hid;have hq:=Hq.out;rw [if_neg hid] at hq;replace Hq:=avE hq;rw [aeb];clear hid hq;by_cases hm1:m=1
  case neg =>
   have hm':(m != 1)=true:=by simpa using hm1
   have hf:=avE (show (m == 0)=q by rw [<- Hq.out,if_neg hm1]);clear hm1;go_wp2;go_ret;exact ⟨aY hf.out,Bd⟩
  subst hm1;have hq:=Hq.out;rw [if_pos rfl] at hq;replace Hq:=avE hq;clear hq;go_upto_region 12 with fail;obtain ⟨w4,hw4⟩:∃ w4:World,w4=w3.drew:=⟨_,rfl⟩;have FD:Below w3.heap.size w3 w4:=by rw [hw4];exact bD (bR w3)
  rw [<- hw4];rw [<- hw4] at Bd;clear hw4;replace X3:=X3.keep FD;replace X4:=X4.keep FD;replace X7:=X7.keep FD;replace X8:=X8.keep FD;replace X9:=X9.keep FD;replace gZ:=gZ.keep FD;replace Y1:=Y1.keep FD;replace Y2:=Y2.keep FD
  try clear bH
  try clear bU
  try clear bY
  try clear Qe
  try clear adY
  obtain ⟨bH,bU,bY,-,-⟩:=X3.aQ
  try clear ND
  try clear NG
  try clear NH
  try clear NI
  try clear NJ
  try clear NK
  try clear NP
  try clear NQ
  obtain ⟨ND,NG,NH,NI,NJ,NK,NP,NQ,-,-,-,-,-,-,-⟩:=Y1.IL;refine dH (w4) (.run 14 0 0 (.done)) fun bZ QR aB aH hS=>?_
  iterate 14 refine aC ?_
  refine dB ?_;clear hS aH aB;intro hB;have hB4:Below w4.heap.size w4 w4.drew:=bD (bR w4);obtain ⟨W,hW⟩:∃ W:World,W=w4.drew:=⟨_,rfl⟩;rw [<- hW];rw [<- hW] at hB4;have xY:=avE (bT Bd hB4);have dI:=avE (X4.keep hB4);have lS:=avE (X7.keep hB4);have ZU:=avE (X8.keep hB4);have oh:=avE (X9.keep hB4);have wC:=avE (gZ.keep hB4);have HY2:=avE (Y2.keep hB4);clear hB hB4 hW FD Bw Bd X3 bH bU bY X4 aV aX bn X7 dY dZ gI X8 y9 zf AO X9 gZ Y1 ND NG NH NI NJ NK NP NQ Y2 IV IW IX IY IZ I4 I5 I7;go_wp2_with fail;go_loopw [100] (fun u wx=>∃ j:Int,(j=0\/j=1\/j=2)/\u=.int .i64 j/\Below W.heap.size W wx/\(1<=j->kL f s t s.ln.arc.fr=false)/\(2<=j->kL f s t s.ln.arc.dst=false)) (fun u _=>2-(intOf u).toNat)
  case atStart => exact ⟨0,by omega,rfl,bR W,fun h=>by omega,fun h=>by omega⟩
  case round =>
   obtain ⟨j,hj,rfl,hb,hl,hr⟩:=hrel;have Hb:=avE hb;have Hl:=avE hl;have Hr:=avE hr;have X4:=dI.out.keep hb;have X7:=lS.out.keep hb;have X8:=ZU.out.keep hb;have X9:=oh.out.keep hb;have gZ:=wC.out.keep hb;have Y2:=HY2.out.keep hb;clear hb hl hr
   try clear aV
   try clear aX
   try clear bn
   try clear dV
   try clear gy
   obtain ⟨aV,aX,bn,-,-⟩:=X4.aQ
   try clear dY
   try clear dZ
   try clear gI
   obtain ⟨dY,dZ,gI,-,-⟩:=X7.aQ
   try clear y9
   try clear zf
   try clear AO
   obtain ⟨y9,zf,AO,-,-⟩:=X8.aQ;obtain ⟨lu,lC,lD,-,-⟩:=X9.aQ;obtain ⟨nD,nG,nH,-,-⟩:=gZ.aQ
   try clear IV
   try clear IW
   try clear IX
   try clear IY
   try clear IZ
   try clear I4
   try clear I5
   try clear I7
   obtain ⟨IV,IW,IX,IY,IZ,I4,I5,I7,-,-,-,-,-,-,-⟩:=Y2.IL;rcases hj with rfl | rfl | rfl
   ·have hI:∀ w,(Instr.index 116 (.agg #[.int .i64 s.ln.arc.fr,.int .i64 s.ln.arc.dst]) (.int .i64 0)).run Tryz.prog w=.ok (.int .i64 s.ln.arc.fr) w:=fun _=>by kernel_rfl
    have hlk:=(Km.out.keep (bT xY.out Hb.out)).look s.ln.arc.fr hw1;unfold aK at hlk
    cases h1:(s.ln.arc.fr == t.ln.arc.fr)
    case false =>
     cases h2:(s.ln.arc.fr == t.ln.arc.dst)
     case false =>
      have hy:=avE (show kL f s t s.ln.arc.fr=false by simp [kL,h1,h2]);go_wp2;go_roundw
      case rel => exact ⟨1,by omega,rfl,bA Hb.out _,fun h=>by first | exact hy.out | exact Hl.out Pe,fun h=>by first | omega | exact hy.out⟩
      case measure => simp [intOf]
     case true =>
      have hc:=avE (show (s.ln.arc.fr == t.ln.arc.fr || s.ln.arc.fr == t.ln.arc.dst)=true by rw [h2];simp);go_wp2_with fail;refine (HO.out s.fst s.snd (f s.ln.arc.fr) _).mono ?_;rintro e w5 ⟨rfl,hb5⟩;have B5:Below W.heap.size W w5:=bT (bA Hb.out _) hb5;have ql:ah w5 wr.heap.size 39 #[.int .i64 (f s.ln.arc.fr).x,.int .i64 (f s.ln.arc.fr).y]:=(ah.made rfl _ _).keep hb5;clear hb5 X4 aV aX bn Y2 IV IW IX IY IZ I4 I5 I7 X7 dY dZ gI X8 y9 zf AO X9 lu lC lD gZ nD nG nH hlk
      cases e3:dQ s.fst s.snd (f s.ln.arc.fr)
      case false =>
       have hy:=avE (show kL f s t s.ln.arc.fr=false by simp [kL,e3]);clear e3;go_wp2;go_roundw
       case rel => exact ⟨1,by omega,rfl,B5,fun h=>by first | exact hy.out | exact Hl.out Pe,fun h=>by first | omega | exact hy.out⟩
       case measure => simp [intOf]
      have E3:=avE e3;clear e3;have X9:=oh.out.keep B5;have gZ:=wC.out.keep B5
      try clear lu
      try clear lC
      try clear lD
      obtain ⟨lu,lC,lD,-,-⟩:=X9.aQ
      try clear nD
      try clear nG
      try clear nH
      obtain ⟨nD,nG,nH,-,-⟩:=gZ.aQ;obtain ⟨wE,wF,wG,-,-⟩:=ql.aQ;go_wp2_with fail;refine (HO.out t.fst t.snd (f s.ln.arc.fr) _).mono ?_;rintro e w6 ⟨rfl,hb6⟩;have B6:Below W.heap.size W w6:=bT B5 hb6;clear hb6 ql wE wF wG X9 lu lC lD gZ nD nG nH
      cases e4:dQ t.fst t.snd (f s.ln.arc.fr)
      case false =>
       have hy:=avE (show kL f s t s.ln.arc.fr=false by simp [kL,e4]);clear e4;go_wp2;go_roundw
       case rel => exact ⟨1,by omega,rfl,B6,fun h=>by first | exact hy.out | exact Hl.out Pe,fun h=>by first | omega | exact hy.out⟩
       case measure => simp [intOf]
      have hy:=avE (show kL f s t s.ln.arc.fr=true by simp only [kL,hc.out,E3.out,e4];rfl);have hf:=avE (show true=q by rw [<- Hq.out,hy.out];simp);clear e4;go_wp2;go_ret;exact ⟨aY hf.out,bT xY.out B6⟩
    case true =>
     have hc:=avE (show (s.ln.arc.fr == t.ln.arc.fr || s.ln.arc.fr == t.ln.arc.dst)=true by rw [h1];simp);go_wp2_with fail;refine (HO.out s.fst s.snd (f s.ln.arc.fr) _).mono ?_;rintro e w5 ⟨rfl,hb5⟩;have B5:Below W.heap.size W w5:=bT (bA Hb.out _) hb5;have ql:ah w5 wr.heap.size 39 #[.int .i64 (f s.ln.arc.fr).x,.int .i64 (f s.ln.arc.fr).y]:=(ah.made rfl _ _).keep hb5;clear hb5 X4 aV aX bn Y2 IV IW IX IY IZ I4 I5 I7 X7 dY dZ gI X8 y9 zf AO X9 lu lC lD gZ nD nG nH hlk
     cases e3:dQ s.fst s.snd (f s.ln.arc.fr)
     case false =>
      have hy:=avE (show kL f s t s.ln.arc.fr=false by simp [kL,e3]);clear e3;go_wp2;go_roundw
      case rel => exact ⟨1,by omega,rfl,B5,fun h=>by first | exact hy.out | exact Hl.out Pe,fun h=>by first | omega | exact hy.out⟩
      case measure => simp [intOf]
     have E3:=avE e3;clear e3;have X9:=oh.out.keep B5;have gZ:=wC.out.keep B5
     try clear lu
     try clear lC
     try clear lD
     obtain ⟨lu,lC,lD,-,-⟩:=X9.aQ
     try clear nD
     try clear nG
     try clear nH
     obtain ⟨nD,nG,nH,-,-⟩:=gZ.aQ
     try clear wE
     try clear wF
     try clear wG
     obtain ⟨wE,wF,wG,-,-⟩:=ql.aQ;go_wp2_with fail;refine (HO.out t.fst t.snd (f s.ln.arc.fr) _).mono ?_;rintro e w6 ⟨rfl,hb6⟩;have B6:Below W.heap.size W w6:=bT B5 hb6;clear hb6 ql wE wF wG X9 lu lC lD gZ nD nG nH
     cases e4:dQ t.fst t.snd (f s.ln.arc.fr)
     case false =>
      have hy:=avE (show kL f s t s.ln.arc.fr=false by simp [kL,e4]);clear e4;go_wp2;go_roundw
      case rel => exact ⟨1,by omega,rfl,B6,fun h=>by first | exact hy.out | exact Hl.out Pe,fun h=>by first | omega | exact hy.out⟩
      case measure => simp [intOf]
     have hy:=avE (show kL f s t s.ln.arc.fr=true by simp only [kL,hc.out,E3.out,e4];rfl);have hf:=avE (show true=q by rw [<- Hq.out,hy.out];simp);clear e4;go_wp2;go_ret;exact ⟨aY hf.out,bT xY.out B6⟩
   ·have hI:∀ w,(Instr.index 116 (.agg #[.int .i64 s.ln.arc.fr,.int .i64 s.ln.arc.dst]) (.int .i64 1)).run Tryz.prog w=.ok (.int .i64 s.ln.arc.dst) w:=fun _=>by kernel_rfl
    have hlk:=(Km.out.keep (bT xY.out Hb.out)).look s.ln.arc.dst hw2;unfold aK at hlk
    cases h1:(s.ln.arc.dst == t.ln.arc.fr)
    case false =>
     cases h2:(s.ln.arc.dst == t.ln.arc.dst)
     case false =>
      have hy:=avE (show kL f s t s.ln.arc.dst=false by simp [kL,h1,h2]);go_wp2;go_roundw
      case rel => exact ⟨2,by omega,rfl,bA Hb.out _,fun h=>by first | exact hy.out | exact Hl.out Pe,fun h=>by first | omega | exact hy.out⟩
      case measure => simp [intOf]
     case true =>
      have hc:=avE (show (s.ln.arc.dst == t.ln.arc.fr || s.ln.arc.dst == t.ln.arc.dst)=true by rw [h2];simp);go_wp2_with fail;refine (HO.out s.fst s.snd (f s.ln.arc.dst) _).mono ?_;rintro e w5 ⟨rfl,hb5⟩;have B5:Below W.heap.size W w5:=bT (bA Hb.out _) hb5;have ql:ah w5 wr.heap.size 39 #[.int .i64 (f s.ln.arc.dst).x,.int .i64 (f s.ln.arc.dst).y]:=(ah.made rfl _ _).keep hb5;clear hb5 X4 aV aX bn Y2 IV IW IX IY IZ I4 I5 I7 X7 dY dZ gI X8 y9 zf AO X9 lu lC lD gZ nD nG nH hlk
      cases e3:dQ s.fst s.snd (f s.ln.arc.dst)
      case false =>
       have hy:=avE (show kL f s t s.ln.arc.dst=false by simp [kL,e3]);clear e3;go_wp2;go_roundw
       case rel => exact ⟨2,by omega,rfl,B5,fun h=>by first | exact hy.out | exact Hl.out Pe,fun h=>by first | omega | exact hy.out⟩
       case measure => simp [intOf]
      have E3:=avE e3;clear e3;have X9:=oh.out.keep B5;have gZ:=wC.out.keep B5
      try clear lu
      try clear lC
      try clear lD
      obtain ⟨lu,lC,lD,-,-⟩:=X9.aQ
      try clear nD
      try clear nG
      try clear nH
      obtain ⟨nD,nG,nH,-,-⟩:=gZ.aQ
      try clear wE
      try clear wF
      try clear wG
      obtain ⟨wE,wF,wG,-,-⟩:=ql.aQ;go_wp2_with fail;refine (HO.out t.fst t.snd (f s.ln.arc.dst) _).mono ?_;rintro e w6 ⟨rfl,hb6⟩;have B6:Below W.heap.size W w6:=bT B5 hb6;clear hb6 ql wE wF wG X9 lu lC lD gZ nD nG nH
      cases e4:dQ t.fst t.snd (f s.ln.arc.dst)
      case false =>
       have hy:=avE (show kL f s t s.ln.arc.dst=false by simp [kL,e4]);clear e4;go_wp2;go_roundw
       case rel => exact ⟨2,by omega,rfl,B6,fun h=>by first | exact hy.out | exact Hl.out Pe,fun h=>by first | omega | exact hy.out⟩
       case measure => simp [intOf]
      have hy:=avE (show kL f s t s.ln.arc.dst=true by simp only [kL,hc.out,E3.out,e4];rfl);have hf:=avE (show true=q by rw [<- Hq.out,hy.out];simp);clear e4;go_wp2;go_ret;exact ⟨aY hf.out,bT xY.out B6⟩
    case true =>
     have hc:=avE (show (s.ln.arc.dst == t.ln.arc.fr || s.ln.arc.dst == t.ln.arc.dst)=true by rw [h1];simp);go_wp2_with fail;refine (HO.out s.fst s.snd (f s.ln.arc.dst) _).mono ?_;rintro e w5 ⟨rfl,hb5⟩;have B5:Below W.heap.size W w5:=bT (bA Hb.out _) hb5;have ql:ah w5 wr.heap.size 39 #[.int .i64 (f s.ln.arc.dst).x,.int .i64 (f s.ln.arc.dst).y]:=(ah.made rfl _ _).keep hb5;clear hb5 X4 aV aX bn Y2 IV IW IX IY IZ I4 I5 I7 X7 dY dZ gI X8 y9 zf AO X9 lu lC lD gZ nD nG nH hlk
     cases e3:dQ s.fst s.snd (f s.ln.arc.dst)
     case false =>
      have hy:=avE (show kL f s t s.ln.arc.dst=false by simp [kL,e3]);clear e3;go_wp2;go_roundw
      case rel => exact ⟨2,by omega,rfl,B5,fun h=>by first | exact hy.out | exact Hl.out Pe,fun h=>by first | omega | exact hy.out⟩
      case measure => simp [intOf]
     have E3:=avE e3;clear e3;have X9:=oh.out.keep B5;have gZ:=wC.out.keep B5
     try clear lu
     try clear lC
     try clear lD
     obtain ⟨lu,lC,lD,-,-⟩:=X9.aQ
     try clear nD
     try clear nG
     try clear nH
     obtain ⟨nD,nG,nH,-,-⟩:=gZ.aQ
     try clear wE
     try clear wF
     try clear wG
     obtain ⟨wE,wF,wG,-,-⟩:=ql.aQ;go_wp2_with fail;refine (HO.out t.fst t.snd (f s.ln.arc.dst) _).mono ?_;rintro e w6 ⟨rfl,hb6⟩;have B6:Below W.heap.size W w6:=bT B5 hb6;clear hb6 ql wE wF wG X9 lu lC lD gZ nD nG nH
     cases e4:dQ t.fst t.snd (f s.ln.arc.dst)
     case false =>
      have hy:=avE (show kL f s t s.ln.arc.dst=false by simp [kL,e4]);clear e4;go_wp2;go_roundw
      case rel => exact ⟨2,by omega,rfl,B6,fun h=>by first | exact hy.out | exact Hl.out Pe,fun h=>by first | omega | exact hy.out⟩
      case measure => simp [intOf]
     have hy:=avE (show kL f s t s.ln.arc.dst=true by simp only [kL,hc.out,E3.out,e4];rfl);have hf:=avE (show true=q by rw [<- Hq.out,hy.out];simp);clear e4;go_wp2;go_ret;exact ⟨aY hf.out,bT xY.out B6⟩
   ·have hf:=avE (show false=q by rw [<- Hq.out,Hl.out Pe,Hr.out Pe];rfl);go_wp2;go_ret;exact ⟨aY hf.out,bT xY.out Hb.out⟩
 case pos =>
  have aeb:(s.ln.arc.id == t.ln.arc.id)=true:=beq_iff_eq.2 hid;have hq:=Hq.out;rw [if_pos hid] at hq;replace Hq:=avE hq;clear hid hq;clear X7 dY dZ gI X8 y9 zf AO X9 gZ;go_upto_if 47 with fail;go_cut [48] (fun u wx=>∃ a b:dO,iI w a/\iI w b/\ah wx w.heap.size 230 #[.pointer (some ⟨a.ln.g,0,none⟩),.int .i64 a.k]/\ah wx (w.heap.size+1) 230 #[.pointer (some ⟨b.ln.g,0,none⟩),.int .i64 b.k]/\Ec m a b=q/\a.k<=2097152/\b.k<=2097152/\Below w.heap.size w wx)
  case first =>
   by_cases hsw:t.k<s.k
   ·have hf:=avE (show Ec m t s=q by rw [<- Hq.out,if_pos hsw]);go_wp2;go_meet
    case rel =>
     refine ⟨t,s,Kt.out,Ks.out,?_,?_,hf.out,htk,hsk,?_⟩
     · exact ((ah.MW (ah.drew X3)).far (p:=⟨w.heap.size+1,0,none⟩) ars _).far (p:=⟨w.heap.size+1,1,none⟩) ars _
     · exact ah.MW (((ah.drew X4).far (p:=⟨w.heap.size,0,none⟩) ars _).far (p:=⟨w.heap.size,1,none⟩) ars _)
     · exact bS (bS (bS (bS Bd (p:=⟨w.heap.size,0,none⟩) (awe _) _) (p:=⟨w.heap.size,1,none⟩) (awe _) _) (p:=⟨w.heap.size+1,0,none⟩) (Nat.le_succ _) _) (p:=⟨w.heap.size+1,1,none⟩) (Nat.le_succ _) _
   ·have hf:=avE (show Ec m s t=q by rw [<- Hq.out,if_neg hsw]);go_wp2;go_meet
    case rel => exact ⟨s,t,Ks.out,Kt.out,ah.drew X3,ah.drew X4,hf.out,hsk,htk,Bd⟩
  case rest =>
  obtain ⟨a,b,Ka,Kb,X3',X4',hf,ha,hb,Bc⟩:=hcut;have Hf:=avE hf;replace Ka:=avE Ka;replace Kb:=avE Kb;clear X3 X4 bH bU bY aV aX bn Y1 Y2 ND NG NH NI NJ NK NP NQ IV IW IX IY IZ I4 I5 I7 hf Bd Bw;have Y1:=(Ka.out.keep Bc).line
  try clear akY
  try clear akZ
  try clear ak0
  try clear aud
  try clear aue
  obtain ⟨akY,akZ,ak0,-,-⟩:=X3'.aQ
  try clear ak1
  try clear ak2
  try clear ak3
  try clear auf
  try clear aug
  obtain ⟨ak1,ak2,ak3,-,-⟩:=X4'.aQ
  try clear ND
  try clear NG
  try clear NH
  try clear NI
  try clear NJ
  try clear NK
  try clear NP
  try clear NQ
  obtain ⟨ND,NG,NH,NI,NJ,NK,NP,NQ,-,-,-,-,-,-,-⟩:=Y1.IL;have Ny:IntKind.i64.wrap ((a.k:Int)+1)=(a.k:Int)+1:=avS _ Pe;have TF:∀ W,Calls Tryz.prog 232 #[jE a] W _:=fun W=>adZ a W;have TL:∀ W,Below w.heap.size w W->Calls Tryz.prog 233 #[jE b] W _:=fun W hW=>ad1 b W (Kb.out.keep hW);unfold jE at TF TL;have Qh:=TF;have Qi:=TL;have q1:0<=(a.k:Int):=by omega
  cases h1:((a.k:Int)+1 == (b.k:Int))
  case true =>
   have hf:=avE (show (m == 1)=q by
    rw [<- Hf.out,Ec,if_pos];have:=eq_of_beq h1
    simp only [NC,Bool.or_eq_true,avQ];left;omega)
   clear TF TL Qh Qi;go_upto_region 7 with fail;refine dH (wc) (.run 29 0 0 (.done)) fun bZ QR aB aH hS=>?_
   iterate 7 refine aC ?_
   iterate 21 refine jC ?_
   refine aC ?_;refine dB ?_;clear hS aH aB;intro hB;go_wp2;go_ret;exact ⟨aY hf.out,bT Bc hB⟩
  case false =>
  have hk:¬ a.k+1=b.k:=by have:=ne_of_beq_false h1;omega
  cases h2:(a.ln.arc.fr == a.ln.arc.dst)
  case false =>
   have hf:=avE (show (m == 0)=q by
    rw [<- Hf.out,Ec,if_neg];simp only [NC,h2,avV hk];simp)
   clear TF TL Qh Qi;go_upto_region 7 with fail;refine dH (wc) (.run 29 0 0 (.done)) fun bZ QR aB aH hS=>?_
   iterate 7 refine aC ?_
   iterate 14 refine dN ?_
   iterate 2 refine jC ?_
   iterate 2 refine dN ?_
   iterate 2 refine jC ?_
   refine dN ?_;refine aC ?_;refine dB ?_;clear hS aH aB;intro hB;go_wp2;go_ret;exact ⟨aY hf.out,bT Bc hB⟩
  case true =>
  cases h3:((a.k:Int) == 0)
  case false =>
   rw [h3] at TF;have HF:=avE TF;have hf:=avE (show (m == 0)=q by
    have h3':¬ a.k=0:=by have:=ne_of_beq_false h3;omega
    rw [<- Hf.out,Ec,if_neg];simp only [NC,h2,avV hk,avV h3'];simp)
   clear TF TL Qh Qi h3;go_upto_region 7 with fail;refine dH (wc) (.run 22 0 0 (.call 22 8388607 (.run 6 23 8388607 (.done)))) fun bZ QR aB aH hS=>?_
   iterate 7 refine aC ?_
   iterate 15 refine dN ?_
   refine fV (HF.out _) ?_;clear hS;intro cZ bW hS
   iterate 2 refine dN ?_
   iterate 2 refine jC ?_
   refine dN ?_;refine aC ?_;refine dB ?_;clear hS aH aB;intro hB;go_wp2;go_ret;exact ⟨aY hf.out,bT Bc hB⟩
  case true =>
  rw [h3] at TF;have HF:=avE TF
  cases h4:((b.k:Int) == (b.ln.path.length:Int)-2)
  case false =>
   rw [h4] at TL;have HL:=avE TL;have hf:=avE (show (m == 0)=q by
    have h4':=ne_of_beq_false h4;rw [<- Hf.out,Ec,if_neg];simp only [NC,avV hk,avV h4'];simp)
   clear TF TL Qh Qi h3 h4;go_upto_region 7 with fail;refine dH (wc) (.run 22 0 0 (.call 22 8388607 (.run 3 23 8388607 (.call 26 134217727 (.take 27 268435455 (.take 28 536870911 (.done))))))) fun bZ QR aB aH hS=>?_
   iterate 7 refine aC ?_
   iterate 15 refine dN ?_
   refine fV (HF.out _) ?_;clear hS;intro cZ bW hS
   iterate 3 refine dN ?_
   refine fV (HL.out _ (bT Bc hS)) ?_;clear hS;intro wr2 iW hS;refine dN ?_;refine aC ?_;refine dB ?_;clear hS aH aB;intro hB;go_wp2;go_ret;exact ⟨aY hf.out,bT Bc hB⟩
  case true =>
   rw [h4] at TL;have HL:=avE TL;have hf:=avE (show (m == 1)=q by
    have h3':a.k=0:=by have:=eq_of_beq h3;omega
    have h4':=eq_of_beq h4;rw [<- Hf.out,Ec,if_pos];simp only [NC,h2,avW h3',avW h4'];simp)
   clear TF TL Qh Qi h3 h4;go_upto_region 7 with fail;refine dH (wc) (.run 22 0 0 (.call 22 8388607 (.run 3 23 8388607 (.call 26 134217727 (.take 27 268435455 (.take 28 536870911 (.done))))))) fun bZ QR aB aH hS=>?_
   iterate 7 refine aC ?_
   iterate 15 refine dN ?_
   refine fV (HF.out _) ?_;clear hS;intro cZ bW hS
   iterate 3 refine dN ?_
   refine fV (HL.out _ (bT Bc hS)) ?_;clear hS;intro wr2 iW hS;refine dN ?_;refine aC ?_;refine dB ?_;clear hS aH aB;intro hB;go_wp2;go_ret;exact ⟨aY hf.out,bT Bc hB⟩
end Go.Proofs.YtialfdomhoojiaaGreat
