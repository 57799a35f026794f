import Derived.Lib.AppendZerosOnto
import Derived.Test.YtpempeioeiaijaaGreatJ03
import Derived.Shelf.SlSortCmp.NoneTotal
import Derived.Test.YtpempeioeiaijaaGreatLaySort
set_option linter.unusedSimpArgs false
set_option linter.unusedVariables false
set_option maxRecDepth 100000
set_option maxHeartbeats 4000000
namespace Go.Proofs.YtpempeioeiaijaaGreat
open Go.RowKit Tryz
theorem aoG:∃ i,prog.info? 42=some i/\i.zero=some (.agg #[.int .i64 0,.int .i64 0])/\i.size=2/\i.bytes=16:=info_parts Gl
theorem aoH (n:Nat) (w:World) (h1:1<=n) (h2:n<=2097152) :
  Calls prog 115 #[.slice none 0 0,.int .i64 n] w fun e w'=>∃ c,e=.returned (.slice (some ⟨w.heap.size,0,none⟩) 0 c)/\AU w w'/\Own w' w.heap.size 42 2 DK (.slice (some ⟨w.heap.size,0,none⟩) 0 c) []:=by
 obtain ⟨i,hi,hz,hs,hb⟩:=aoG;have hr:∀ ty,(Builtin.append_ #[25,3] ty #[.slice none 0 0,.int .i64 n]).run prog w=_:=fun ty =>
  Lib.run_append_grow_zeros w 25 3 ty 42 i _ .i64 .i64 Tryz.underlying25 Tryz.underlying3 hi hz none 0 0 [] (by simpa using run_firstCells_none (P:=prog) (w:=w.drew) i.size 0 0 0) n AA AA AA AA (by rw [hb];omega)
   (by rw [hb];exact growslice_fits AA AA)
 have hge:=grownCap_ge w (0+n) 0 42;have hle:=grownCap_le_maxLen w (0+n) 0 42 jy;have hle':=hle;unfold maxLen at hle';generalize hG:grownCap w (0+n) 0 42=G at *;have HR:=AB hr;have Hle:=AB hle;clear hr hG hle hi hz hs hb;simp only [Ug] at HR;have q1:¬ ((n:Int)<0):=AA
 have q2:0<(n:Int):=AA
 go_enter func115,ntmps115;go_wp2_with (at_builtin;refine Lib.wpList_append_run _ rfl _ _ _ _ rfl _ _ rfl rfl _ _ (HR.1 _) ?_);go_ret;refine ⟨_,rfl,bA (bD (bR w)) _,?_⟩;refine ⟨rfl,.inr ⟨w.heap.size,_,_,rfl,Cj _,heap_alloc_new _ _,BX _,Hle.1,?_,Ah⟩⟩;simp only [Array.size_append,List.size_toArray,LH,size_zeroCells];simp only [Value.cells,List.size_toArray,JA,LH];omega
structure PS where
 l:List Pt
 a:Option Addr
 c:Nat
def psC (x:PS):List Value:=[.slice x.a x.l.length x.c]
theorem Row.ps {w:World} {A:Option Addr} {l:List PS} (h:Row w A (l.flatMap psC)) {k:Nat} (hk:k<l.length) :
  ∃ b o,A=some ⟨b,o,none⟩/\b<w.heap.size/\w.cell? ⟨b,o+k,none⟩=some (.slice l[k].a l[k].l.length l[k].c):=by
 obtain ⟨b,o,hA,hb,hc⟩:=h.at_ (n:=1) (fun _=>rfl) hk AA;exact ⟨b,o,hA,hb,by simpa using hc 0 _ rfl⟩
def aC (L:List PS) (k:Nat):Nat:=((L.take k).flatMap (·.l)).length
theorem ahc (L:List PS) (k:Nat) (hk:k<L.length):aC L (k+1)=aC L k+L[k].l.length:=by
 unfold aC;rw [Em hk,O7,Es];simp
theorem aoI (v:Value) (L:List PS) (w:World) (hv:Sl w v L.length (L.flatMap psC)) (hp:∀ k (hk:k<L.length),CZ w (.slice L[k].a L[k].l.length L[k].c) L[k].l)
  (hL:L.length<=1048576) (h1:1<=(L.flatMap (·.l)).length) (h2:(L.flatMap (·.l)).length<=2097152) :
  Calls prog 62 #[v] w (ai1 w (L.flatMap (·.l))):=by
 obtain ⟨A,c,rfl,hn,hc,hR⟩:=hv;unfold maxLen at hc;have HP:=AB hp;clear hp;have HR:=AB hR;clear hR;have hb:∀ k,aC L k<=2097152:=fun k=>EG (aaL L (·.l) k) h2;have Y8:=AB hb;clear hb;have H1:=AB h1;have H2:=AB h2;clear h1 h2;go_enter func62,ntmps62;go_wp2_with fail;go_loopw [3,11] (fun s i wr=>∃ k:Nat,k<=L.length/\i=.int .i64 k/\s=.int .i64 (aC L k:Nat)/\wr=w) (fun _ i _=>L.length-(intOf i).toNat)
 case atStart => exact ⟨0,BX _,rfl,rfl,rfl⟩
 case round =>
  obtain ⟨k,hk,rfl,rfl,rfl⟩:=hrel;by_cases hlt:k<L.length
  case pos =>
   obtain ⟨b,o,rfl,hlb,c0⟩:=HR.1.ps hlt;have ht:=ahc L k hlt;have hb:=Y8.1 (k+1);have Ht:=AB ht;rw [ht] at hb;clear ht;go_wp2;go_roundw
   case rel => exact ⟨k+1,AA,BG,by rw [Ht.1];go_num,trivial⟩
   case measure => exact BH
  have hE:L.take k=L:=IE AA;have hN0:aC L k=(L.flatMap (·.l)).length:=by unfold aC;rw [hE]
  rw [hN0];have h1:=H1.1;have h2:=H2.1;clear hE hN0;generalize hN:(L.flatMap (·.l)).length=N at *;clear hN;go_wp2_with fail;refine (aoH N _ h1 h2).mono ?_;rintro e w1 ⟨c1,rfl,hb1,hown⟩;have FB:=AB hown;have Hb1:=AB hb1;clear hown hb1 h1 h2;obtain ⟨wo,rfl⟩:=BR wr;go_wp2_with fail;go_loopw [6,27] (fun s i wr=>∃ k:Nat,k<=L.length/\i=.int .i64 k/\Own wr wo.heap.size 42 2 DK s ((L.take k).flatMap (·.l))/\AU wo wr) (fun _ i _=>L.length-(intOf i).toNat)
  case atStart => exact ⟨0,BX _,rfl,FB.1,Hb1.1⟩
  case round =>
   obtain ⟨k,hk,rfl,hown,hb⟩:=hrel;have Hb:=AB hb;replace FB:=AB hown;have hsz:=hb.size;clear hb hown;by_cases hlt:k<L.length
   case neg =>
    have hE:L.take k=L:=IE AA;have ho:=FB.1;rw [hE] at ho;replace FB:=AB ho;clear ho hE;go_wp2;go_ret;exact ⟨_,rfl,Hb.1,FB.1⟩
   obtain ⟨b,o,rfl,hlb,c0⟩:=(HR.1.mono Hb.1).ps hlt;have hlen:=AB (show ((L.take k).flatMap (·.l)).length+L[k].l.length<=2097152 by
    have ht:=ahc L k hlt;have:=Y8.1 (k+1)
    show aC L k+L[k].l.length<=2097152
    omega)
   go_wp2_with
    (at_builtin
     refine FK _ rfl (.tmp 31) (.tmp 32) _ rfl (base:=wo.heap.size) JI I7 JD rfl FB.1 rfl (l2:=L[k].l) ((HP.1 k hlt).mono Hb.1) (by have:=hlen.1;omega) (by have:=hlen.1;omega) hsz ?_;intro v1 w1 hown1 hg hat;have MW:=AB (show AU wo w1 from bG Hb.1 hg (fun g hk=>(FB.1.lt g hk).1));clear hg hat;have WJ:=AB hown1;clear hown1)
   go_roundw
   case rel => exact ⟨k+1,AA,BG,by rw [Em hlt,O7];simpa using WJ.1,MW.1⟩
   case measure => exact BH
theorem sF (v:Value) (p:Pl) (id:Int) (w:World) (h:D6 w v p) (hsh:Short p) :
  Calls prog 33 #[v,.int .i64 id] w (gX w (pathOf p id)):=by
 have HP:=AB h;have ED:=AB hsh;clear hsh;obtain ⟨vn,vr,vf,al,rfl,-⟩:=h;have TN:∀ id W,AU w W->Calls prog 61 #[.agg #[vn,vr,vf],.int .i64 id] W _:=fun id W hW=>ahs _ p id W (HP.1.mono hW);simp only [l7,sQ] at TN;have HN:=AB TN;clear TN;obtain ⟨q,hq⟩:=BI (pathOf p id);rw [hq];have Hq:=AB hq;clear hq;go_enter func33,ntmps33;go_wp2_with fail;refine (ao2 _ p id _ (HP.1.mono (bA (bR w) _)) ED.1).mono ?_;rintro e w1 ⟨v1,rfl,hb1,hp1⟩;have Bw:AU w w1:=by
  exact Dy
 have X2:AO _ (w.heap.size) 34 #[vn,vr,vf]:=AO.keep (by repeat (first | exact AO.made Ah _ _ | refine AO.alloc ?_ _)) hb1;clear hb1;have rP:=AB hp1;obtain ⟨A1,c1,rfl,-⟩:=hp1;generalize hr:findAr p.AQ id=r at *;have Hr:=AB hr;clear hr;obtain ⟨a,ha⟩:=BI (r.getD MS);rw [ha] at rP ⊢;obtain ⟨s,hs⟩:=BI r.isSome;rw [hs];have Ha:=AB ha;have Hs:=AB hs;clear ha hs;simp only [Uj];obtain ⟨Bh,Bq,Bv,CS,-⟩:=X2.Az;go_wp2_with fail;refine (HN.1 _ _ (bA Bw _)).mono ?_;rintro e w2 ⟨rfl,hb2⟩;have X6:AO w2 w1.heap.size 50 #[.int .i64 a.id,.int .i64 a.fr,.int .i64 a.dst,.slice A1 a.via.length c1,.int .i64 a.left,.int .i64 a.right]:=(AO.made rfl _ _).keep hb2;replace X2:=(X2.alloc _).keep hb2;have HP2:=AB ((rP.1.mono (bA (bR w1) _)).mono hb2);replace Bw:=bT (bA Bw _) hb2;clear hb2;obtain ⟨n1,hn1⟩:=BI ((Jm p.nodes a.fr).getD nd0);rw [hn1];obtain ⟨s1,hs1⟩:=BI ((Jm p.nodes a.fr).isSome);rw [hs1];have lC:=AB hn1;have Zn:=AB hs1;clear hn1 hs1
 try clear Bh Bq Bv CS
 obtain ⟨Bh,Bq,Bv,CS,-⟩:=X2.Az;obtain ⟨FU,FV,FW,QZ,aF,ZV,ZW,-⟩:=X6.Iy;go_wp2_with fail;refine (HN.1 _ _ (bA Bw _)).mono ?_;rintro e w3 ⟨rfl,hb3⟩;have X8:AO w3 w2.heap.size 47 #[.int .i64 n1.id,.int .i64 n1.pt.x,.int .i64 n1.pt.y]:=(AO.made rfl _ _).keep hb3;replace X2:=(X2.alloc _).keep hb3;replace X6:=(X6.alloc _).keep hb3;have OH:=AB ((HP2.1.mono (bA (bR w2) _)).mono hb3);replace Bw:=bT (bA Bw _) hb3;clear hb3;obtain ⟨n2,hn2⟩:=BI ((Jm p.nodes a.dst).getD nd0);rw [hn2];obtain ⟨s2,hs2⟩:=BI ((Jm p.nodes a.dst).isSome);rw [hs2];have lD:=AB hn2;have Zo:=AB hs2;clear hn2 hs2
 try clear Bh Bq Bv CS
 obtain ⟨Bh,Bq,Bv,CS,-⟩:=X2.Az
 try clear FU FV FW QZ aF ZV ZW
 obtain ⟨FU,FV,FW,QZ,aF,ZV,ZW,-⟩:=X6.Iy;obtain ⟨Rq,Rt,SG,adu,-⟩:=X8.Az;go_upto_region 4 with fail;obtain ⟨W4,aaW⟩:=BR (w3.alloc (.cells #[.int .i64 n2.id,.int .i64 n2.pt.x,.int .i64 n2.pt.y] 47));have CB:AO W4 w3.heap.size 47 #[.int .i64 n2.id,.int .i64 n2.pt.x,.int .i64 n2.pt.y]:=by rw [aaW];exact AO.made rfl _ _
 have hb4:AU w3 W4:=by rw [aaW];exact bA (bR w3) _
 rw [<- aaW];clear aaW;replace X2:=X2.keep hb4;replace X6:=X6.keep hb4;replace X8:=X8.keep hb4;have XA:=AB (OH.1.mono hb4);replace Bw:=bT Bw hb4;clear hb4
 try clear Bh Bq Bv CS
 obtain ⟨Bh,Bq,Bv,CS,-⟩:=X2.Az
 try clear FU FV FW QZ aF ZV ZW
 obtain ⟨FU,FV,FW,QZ,aF,ZV,ZW,-⟩:=X6.Iy
 try clear Rq Rt SG adu
 obtain ⟨Rq,Rt,SG,adu,-⟩:=X8.Az;obtain ⟨Gz,Hg,Hu,ND,-⟩:=CB.Az;go_cut [41] (fun u wx=>u=.bool (!(s && (s1 && s2)))/\wx=W4)
 case first =>
  cases s<;>cases s1<;>cases s2
  all_goals
   go_wp2;go_meet
   case rel => exact ⟨rfl,rfl⟩
 case rest =>
  obtain ⟨rfl,rfl⟩:=hcut
  cases hsb:(s && (s1 && s2))
  case false =>
   have hf:=AB (show q=none by
    rw [<- Hq.1,pathOf,Hr.1]
    cases r with
    | none=>rfl
    | some a0 =>
     have h1:=Hs.1;have h2:=Ha.1;simp only [Ud,Ih] at h1 h2;subst h1 h2;simp only [JX,Zn.1,Zo.1];simpa using hsb)
   clear hsb;go_wp2_with fail;go_ret2;exact ⟨none,0,by rw [hf.1];rfl,Bw,by rw [hf.1];exact Own.nil _ _ _ _ _⟩
  case true =>
   have aaX:s=true/\s1=true/\s2=true:=by simpa using hsb
   have hf:=AB (show q=some (n1.pt::(a.via++[n2.pt]))/\a.via.length<=1048576 by
    rw [<- Hq.1,pathOf,Hr.1]
    cases r with
    | none=>have h1:=Hs.1;rw [aaX.1] at h1;cases h1
    | some a0 =>
     have h2:=Ha.1;simp only [Ih] at h2;subst h2;refine ⟨?_,ED.1 _ (aaN Hr.1)⟩;simp only [JX,Zn.1,Zo.1,aaX.2.1,aaX.2.2,Bool.and_self,if_true,AV,nodeAt,lC.1,lD.1])
   clear hsb aaX;go_wp2_with fail;have hlen:=AB hf.1.2;have hBa:AU w (((wc.alloc (.cells #[.int .i64 n1.pt.x,.int .i64 n1.pt.y] 42)).alloc (.cells #[.int .i64 n2.pt.x,.int .i64 n2.pt.y] 42)).alloc (.cells #[.slice (some ⟨wc.heap.size,0,none⟩) 1 1,.slice A1 a.via.length c1,.slice (some ⟨wc.heap.size+1,0,none⟩) 1 1] 25)):=bA (bA (bA Bw _) _) _;refine (aoI _ [⟨[n1.pt],some ⟨wc.heap.size,0,none⟩,1⟩,⟨a.via,A1,c1⟩,⟨[n2.pt],some ⟨wc.heap.size+1,0,none⟩,1⟩] _ (Sl.lit (n:=3) (AO.made Ah _ _) rfl (D7 AA)) ?_ Ah Ah ?_).mono ?_
   ·intro k hk;have hk:k<3:=hk;rcases k with _ | _ | _ | k
    · exact CZ.one (((AO.made rfl _ _).alloc _).alloc _)
    · exact XA.1.mono (bA (bA (bA (bR wc) _) _) _)
    · exact CZ.one ((AO.made Ah _ _).alloc _)
    · omega
   ·have:=hlen.1
    simp only [N7,yS,Es,JA,LH];omega
   rintro e w5 ⟨v5,rfl,hb5,hown⟩;have Bz:=hBa.size;have ho:=hown.EM (b':=w.heap.size) Bz;have B5:=bT hBa hb5;simp only [N7,yS,MC,qc,OW] at ho;have hf1:=hf.1.1;generalize n1.pt::(a.via++[n2.pt])=PL at ho hf1;have Hf1:=AB hf1;obtain ⟨A5,c5,rfl,-⟩:=Own.sl ho;have Ho:=AB ho;have Ce:=AB B5;clear hown ho B5 Bz hb5 hBa hf1;go_wp2_with fail;go_ret2;exact ⟨A5,c5,by rw [Hf1.1];rfl,Ce.1,by rw [Hf1.1];exact Ho.1⟩
structure Ln where
 arc:Ar
 path:List Pt
 g:Nat
 via:SV
 pa:Option Addr
 pc:Nat
def adT (x:Ln):Array Value:=#[.int .i64 x.arc.id,.int .i64 x.arc.fr,.int .i64 x.arc.dst,.slice x.via.a x.via.n x.via.c,.int .i64 x.arc.left,.int .i64 x.arc.right,.slice x.pa x.path.length x.pc]
def XB (w:World) (x:Ln):Prop:=AO w x.g 140 (adT x)/\Own w 0 42 2 DK (.slice x.pa x.path.length x.pc) x.path
theorem XB.keep {w w':World} {x:Ln} (h:XB w x) (hb:AU w w'):XB w' x:=⟨h.1.keep hb,h.2.keep hb⟩
structure DZ where
 ln:Ln
 k:Nat
def Ia (s:DZ):List Value:=[.pointer (some ⟨s.ln.g,0,none⟩),.int .i64 s.k]
def I8 (s:DZ):Value:=.agg #[.pointer (some ⟨s.ln.g,0,none⟩),.int .i64 s.k]
def DZ.fst (s:DZ):Pt:=s.ln.path.getD s.k AY
def DZ.snd (s:DZ):Pt:=s.ln.path.getD (s.k+1) AY
def FX (w:World) (s:DZ):Prop:=XB w s.ln/\s.k+1<s.ln.path.length/\s.ln.path.length<=2097152
theorem FX.keep {w w':World} {s:DZ} (h:FX w s) (hb:AU w w'):FX w' s:=⟨h.1.keep hb,h.2⟩
theorem AO.ZX {w:World} {g:Nat} {t:TypeId} {v0 v1 v2 v3 v4 v5 v6:Value} (h:AO w g t #[v0,v1,v2,v3,v4,v5,v6]):g<w.heap.size/\w.cell? ⟨g,0,none⟩=some v0/\w.cell? ⟨g,1,none⟩=some v1/\w.cell? ⟨g,2,none⟩=some v2/\w.cell? ⟨g,3,none⟩=some v3/\w.cell? ⟨g,4,none⟩=some v4/\w.cell? ⟨g,5,none⟩=some v5/\w.cell? ⟨g,6,none⟩=some v6/\w.frozen? ⟨g,0,none⟩=false/\w.frozen? ⟨g,1,none⟩=false/\w.frozen? ⟨g,2,none⟩=false/\w.frozen? ⟨g,3,none⟩=false/\w.frozen? ⟨g,4,none⟩=false/\w.frozen? ⟨g,5,none⟩=false/\w.frozen? ⟨g,6,none⟩=false :=
 ⟨h.lt,h.cell 0,h.cell 1,h.cell 2,h.cell 3,h.cell 4,h.cell 5,h.cell 6,h.frozen 0,h.frozen 1,h.frozen 2,h.frozen 3,h.frozen 4,h.frozen 5,h.frozen 6⟩
theorem sG (s:DZ) (w:World) (h:FX w s) :
  Calls prog 100 #[I8 s] w fun e w'=>e=.returned (.tuple #[BA s.fst,BA s.snd])/\MR w w':=by
 obtain ⟨⟨hL,hP⟩,hk,hm⟩:=h;obtain ⟨A,c,he,hn,hc,hR⟩:=Own.sl hP;clear hP;injection he with he1 _ he3;subst he1 he3;unfold adT at hL;obtain ⟨b,o,hA,hlb,c0,c1⟩:=hR.pt (k:=s.k) AA;obtain ⟨b',o',hA',-,d0,d1⟩:=hR.pt (k:=s.k+1) hk;rw [hA] at hA' hL;simp only [Gt,Addr.mk.injEq,and_true] at hA';obtain ⟨rfl,rfl⟩:=hA';have hf:s.fst=s.ln.path[s.k]:=by unfold DZ.fst;simp [List.getD,Di (show s.k<s.ln.path.length by omega)]
 have hs:s.snd=s.ln.path[s.k+1]:=by unfold DZ.snd;simp [List.getD,Di hk]
 rw [<- hf] at c0 c1;rw [<- hs] at d0 d1;unfold I8 BA;unfold maxLen at hc;clear hf hs hR hA;generalize s.fst=P0 at *;generalize s.snd=P1 at *;generalize s.ln.path.length=N at *;generalize s.k=k at *;generalize s.ln.g=g at *;have HL:=AB hL;clear hL;go_enter func100,ntmps100;go_upto_region 1 with fail;obtain ⟨W,hW⟩:=BR (((w.alloc (.cells #[.pointer (some ⟨g,0,none⟩),.int .i64 k] 132)).alloc (.cells #[.int .i64 0,.int .i64 0] 42)).alloc (.cells #[.int .i64 0,.int .i64 0] 42));have Bw:AU w W:=by rw [hW];exact bA (bA (bA (bR w) _) _) _
 have Dw:w.drawn<=W.drawn:=by rw [hW];exact dA (dA (dA (dR w) _) _) _
 have X1:AO W w.heap.size 132 #[.pointer (some ⟨g,0,none⟩),.int .i64 k]:=by rw [hW];exact ((AO.made rfl _ _).alloc _).alloc _
 have X2:AO W (w.heap.size+1) 42 #[.int .i64 0,.int .i64 0]:=by rw [hW];exact (AO.made Ah _ _).alloc _
 have X3:AO W (w.heap.size+1+1) 42 #[.int .i64 0,.int .i64 0]:=by rw [hW];exact AO.made Ah _ _
 rw [<- hW];clear hW;have X9:=HL.1.keep Bw;have hgl:=HL.1.lt;obtain ⟨bc,-⟩:=Uu Bw;replace c0:=(bc b _ hlb).trans c0;replace c1:=(bc b _ hlb).trans c1;replace d0:=(bc b _ hlb).trans d0;replace d1:=(bc b _ hlb).trans d1;clear bc;obtain ⟨BJ,BK,BL,-⟩:=X1.Bl;obtain ⟨JU,Jg,JY,adU,adV,X9e,X9f,X9g,-⟩:=X9.ZX;obtain ⟨Bh,Bq,Bv,Y9,ZY⟩:=X2.Bl;obtain ⟨Dk,EI,EN,iC,aaY⟩:=X3.Bl;have q1:0<=(k:Int):=AA
 have q2:(k:Int)<N:=AA
 have q3:0<=(k:Int)+1:=AA
 have q4:(k:Int)+1<N:=AA
 have q5:((k:Int)+1).toNat=k+1:=AA
 have q6:=EL ((k:Int)+1);have q7:w.heap.size<w.heap.size+1:=AA
 have q8:g<w.heap.size+1:=AA
 have q9:b<w.heap.size+1:=AA
 refine PE (w.heap.size+1) (W) (.run 19 0 0 (.call 19 1048575 (.call 20 2097151 (.done)))) fun CQ QR Ae Aj hS=>?_
 iterate 19 refine Ak ?_
 refine BN ?_;clear hS;intro K hK AP;go_simp;have hS:E8 (w.heap.size+1) W _:=(Below.setCell (Below.setCell AP.out (p:=⟨w.heap.size+1,0,none⟩) (Cj _) (.int .i64 P0.x)) (p:=⟨w.heap.size+1,1,none⟩) (Cj _) (.int .i64 P0.y));clear AP;refine hK.out _ _ hS (fun _=>?_);clear hK K
 try simp only [pu]
 refine BN ?_;clear hS;intro K hK AP;go_simp;have hS:E8 (w.heap.size+1) W _:=(Below.setCell (Below.setCell AP.out (p:=⟨w.heap.size+1+1,0,none⟩) (acr _) (.int .i64 P1.x)) (p:=⟨w.heap.size+1+1,1,none⟩) (acr _) (.int .i64 P1.y));clear AP;refine hK.out _ _ hS (fun _=>?_);clear hK K
 try simp only [pu]
 refine J3 ?_;clear hS Aj Ae;intro hB;go_wp2_with fail;refine anz (g:=w.heap.size+1) (g':=w.heap.size+1+1) (cs:=#[.int .i64 P0.x,.int .i64 P0.y]) (cs':=#[.int .i64 P1.x,.int .i64 P1.y]) rfl zC zC rfl rfl rfl ?_ ?_ ⟨rfl,?_,?_⟩
 · exact ((AO.lW X2).far (p:=⟨w.heap.size+1+1,0,none⟩) Ah _).far (p:=⟨w.heap.size+1+1,1,none⟩) Ah _
 · exact AO.lW ((X3.far (p:=⟨w.heap.size+1,0,none⟩) Ah _).far (p:=⟨w.heap.size+1,1,none⟩) Ah _)
 · exact Bw.trans (hB.mono AA)
 · exact Nat.le_succ_of_le Dw
def J4 (s:DZ):Int:=min s.fst.x s.snd.x
def Oq (s:DZ):Int:=max s.fst.x s.snd.x
theorem adW (s:DZ) (w:World) (h:FX w s) :
  Calls prog 97 #[I8 s] w fun e w'=>e=.returned (.int .i64 (J4 s))/\MR w w':=by
 have TE:∀ W,AU w W->Calls prog 100 #[I8 s] W _:=fun W hW=>sG s W (h.keep hW);unfold J4;unfold I8 BA at TE;unfold I8;have HE:=AB TE;clear TE h;generalize s.fst=P0 at *;generalize s.snd=P1 at *;generalize s.k=k at *;generalize s.ln.g=g at *;go_enter func97,ntmps97;go_wp2_with fail;refine (HE.1 _ (bA (bR w) _)).mono ?_;rintro e w1 ⟨rfl,hb1,hd1⟩;have Bw:AU w w1:=bT (bA (bR w) _) hb1;have Dw:w.drawn<=w1.drawn:=dT (dA (dR w) _) hd1;clear hb1 hd1;go_wp2_with fail
 all_goals
  go_ret;refine ⟨D8 ?_,?_,?_⟩
  · first | rfl | omega
  · exact bA (bA Bw _) _
  · exact Dw
theorem aoJ (s:DZ) (w:World) (h:FX w s) :
  Calls prog 98 #[I8 s] w fun e w'=>e=.returned (.int .i64 (Oq s))/\MR w w':=by
 have TE:∀ W,AU w W->Calls prog 100 #[I8 s] W _:=fun W hW=>sG s W (h.keep hW);unfold Oq;unfold I8 BA at TE;unfold I8;have HE:=AB TE;clear TE h;generalize s.fst=P0 at *;generalize s.snd=P1 at *;generalize s.k=k at *;generalize s.ln.g=g at *;go_enter func98,ntmps98;go_wp2_with fail;refine (HE.1 _ (bA (bR w) _)).mono ?_;rintro e w1 ⟨rfl,hb1,hd1⟩;have Bw:AU w w1:=bT (bA (bR w) _) hb1;have Dw:w.drawn<=w1.drawn:=dT (dA (dR w) _) hd1;clear hb1 hd1;go_wp2_with fail
 all_goals
  go_ret;refine ⟨D8 ?_,?_,?_⟩
  · first | rfl | omega
  · exact bA (bA Bw _) _
  · exact Dw
theorem ahd (s:DZ) (w:World) :
  Calls prog 102 #[I8 s] w fun e w'=>e=.returned (.bool ((s.k:Int) == 0))/\AU w w':=by
 unfold I8;generalize s.k=k;generalize s.ln.g=g;go_enter func102,ntmps102;go_wp2;go_ret;exact ⟨rfl,bA (bR w) _⟩
theorem ahe (s:DZ) (w:World) (h:FX w s) :
  Calls prog 103 #[I8 s] w fun e w'=>e=.returned (.bool ((s.k:Int) == (s.ln.path.length:Int)-2))/\AU w w':=by
 obtain ⟨⟨hL,hP⟩,hk,hm⟩:=h;unfold adT at hL;clear hP;unfold I8;generalize s.ln.path.length=N at *;generalize s.k=k at *;generalize s.ln.g=g at *;have HL:=AB hL;clear hL;go_enter func103,ntmps103;go_upto_region 1 with fail;obtain ⟨W,hW⟩:=BR (w.alloc (.cells #[.pointer (some ⟨g,0,none⟩),.int .i64 k] 132));have Bw:AU w W:=by rw [hW];exact bA (bR w) _
 have X1:AO W w.heap.size 132 #[.pointer (some ⟨g,0,none⟩),.int .i64 k]:=by rw [hW];exact AO.made rfl _ _
 rw [<- hW];clear hW;have X9:=HL.1.keep Bw;obtain ⟨BJ,BK,BL,-⟩:=X1.Bl;obtain ⟨JU,Jg,JY,adU,adV,X9e,X9f,X9g,-⟩:=X9.ZX;have q6:=EL ((N:Int)-2);refine D9 (W) (.run 11 0 0 (.done)) fun CQ QR Ae Aj hS=>?_
 iterate 11 refine Ak ?_
 refine D5 ?_;clear hS Aj Ae;intro hB;go_wp2;go_ret;exact ⟨rfl,bT Bw hB⟩
theorem XB.grow {w w':World} {x:Ln} {row:Option Nat} {e:TypeId} (h:XB w x) (hg:w.grownBy w' row) (hr:∀ g,row=some g->∃ cs,AO w g e cs) (h1:e≠140) (h2:e≠42):XB w' x:=by
 refine ⟨h.1.grow hg (fun e'=>?_),Own.grown h.2 hg (fun g hg' e'=>?_)⟩
 ·obtain ⟨cs,hb⟩:=hr _ e'.symm;exact AO.sN hb h.1 h1 rfl
 ·obtain ⟨cs,hb⟩:=hr _ e'.symm;obtain ⟨cs',hb'⟩:=h.2.blk hg';exact AO.sN hb hb' h2 rfl
theorem FX.grow {w w':World} {s:DZ} {row:Option Nat} {e:TypeId} (h:FX w s) (hg:w.grownBy w' row) (hr:∀ g,row=some g->∃ cs,AO w g e cs) (h1:e≠140) (h2:e≠42):FX w' s:=⟨h.1.grow hg hr h1 h2,h.2⟩
theorem aoK:Elem prog 125 132 2 16:=Elem.QV (z:=.agg #[.pointer none,.int .i64 0]) Gl Gl rfl AA
theorem zi (s:DZ):(Ia s).length=2:=rfl
theorem ahf (s:DZ):∀ u∈Ia s,u.oneCell'=true:=by simp [Ia,Value.oneCell']
theorem Sl.aoL {w:World} {g:Nat} {t:TypeId} {s:DZ} (h:AO w g t #[.pointer (some ⟨s.ln.g,0,none⟩),.int .i64 s.k]) :
  Sl w (.slice (some ⟨g,0,none⟩) 1 1) ([s] : List DZ).length (([s] : List DZ).flatMap Ia):=Sl.lit (n:=1) h rfl (D7 AA)
def YA (l:List Pt):Bool:=(List.range (l.length-1)).all fun k=>!decide (l.getD k AY=l.getD (k+1) AY)
theorem aoM (l:List Pt) (k:Nat) (hk:k+1<l.length) (h:l[k]=l[k+1]):YA l=false:=by
 unfold YA;rw [dU];exact ⟨k,FQ.2 AA,by simp [List.getD,Di hk,Di (show k<l.length by omega),h]⟩
theorem apn (l:List Pt) (h:∀ k (hk:k+1<l.length),¬ l[k]=l[k+1]):YA l=true:=by
 unfold YA;rw [LK];intro k hk;have hk:k+1<l.length:=by have:=FQ.1 hk;omega
 have:=h k hk
 simpa [List.getD,Di hk,Di (show k<l.length by omega)] using this
def KQ (p:Pl) (a:Ar):Bool:=match pathOf p a.id with
 | none=>false
 | some l=>!(a.fr == a.dst && decide ((l.length:Int)<4)) && YA l
structure GN where
 arc:Ar
 path:List Pt
 k:Nat
def DZ.abs (s:DZ):GN:=⟨s.ln.arc,s.ln.path,s.k⟩
def FM (p:Pl) (a:Ar):List GN:=(List.range (((pathOf p a.id).getD []).length-1)).map fun k=>⟨a,(pathOf p a.id).getD [],k⟩
theorem apo (p:Pl) (a:Ar) (k:Nat) (hk:k+1<((pathOf p a.id).getD []).length):(FM p a).take (k+1)=(FM p a).take k++[⟨a,(pathOf p a.id).getD [],k⟩]:=by
 have h:k<(FM p a).length:=by simp only [FM,CV,P9];omega
 rw [Em h];simp [FM]
theorem ahg {p:Pl} {id:Int} {l:List Pt} (h:pathOf p id=some l) (hsh:Short p):2<=l.length/\l.length<=1048578:=by
 unfold pathOf at h
 cases ha:findAr p.AQ id with
 | none=>rw [ha] at h;cases h
 | some a =>
  rw [ha] at h;simp only [] at h;split at h
  ·injection h with h;subst h;rw [Fa];have:=hsh a (aaN ha)
   omega
  · cases h
def ahh (w:World) (p:Pl) (e:Ending) (w':World):Prop :=
 AU w w'/\if p.AQ.all (KQ p)=true then
  ∃ (sl:List DZ) (v:Value),e=.returned (.tuple #[v,.bool true])/\sl.map DZ.abs=p.AQ.flatMap (FM p)/\(∀ s∈sl,FX w' s)/\Own w' w.heap.size 132 2 Ia v sl
 else e=.returned (.tuple #[.slice none 0 0,.bool false])
theorem apq (v:Value) (p:Pl) (w:World) (h:D6 w v p) (hsh:Short p) (hl:(p.AQ.flatMap (FM p)).length<=2097152) :
  Calls prog 94 #[v] w (ahh w p):=by
 have HP:=AB h;have ED:=AB hsh;clear hsh;obtain ⟨vn,_,vf,al,rfl,hpa,-,⟨⟨Aa,ca,rfl,ha1,ha2,FT⟩,hV⟩,-⟩:=h;unfold maxLen at ha2;have HV:=AB hV;clear hV;have Ij:=AB FT;clear FT;have hL:∀ k,((al.take k).flatMap fun a=>FM p a.1).length<=2097152:=fun k=>by
  have h1:=aaL al (fun a=>FM p a.1) k;rw [hpa,S9] at hl;exact EG h1 hl
 have HL:=AB hL;have adX:p.AQ.all (KQ p)=al.all (fun a=>KQ p a.1):=by rw [hpa,WH];rfl
 have hFl:p.AQ.flatMap (FM p)=al.flatMap (fun a=>FM p a.1):=by rw [hpa,S9]
 obtain ⟨Q,hQ⟩:=BR (ahh w p);have hbad:∀ k (hk:k<al.length),KQ p al[k].1=false->∀ w',AU w w'->Q (.returned (.tuple #[.slice none 0 0,.bool false])) w':=fun k hk hb w' hw=>by
  rw [hQ];refine ⟨hw,?_⟩;rw [adX,Y3 al (fun a=>KQ p a.1) k hk hb];rfl
 have hgood:(∀ k (hk:k<al.length),KQ p al[k].1=true)->∀ (sl:List DZ) (v:Value) w',AU w w'->sl.map DZ.abs=al.flatMap (fun a=>FM p a.1)->(∀ s∈sl,FX w' s)->Own w' w.heap.size 132 2 Ia v sl->Q (.returned (.tuple #[v,.bool true])) w':=fun h1 sl v w' hw h2 h3 h4=>by
  rw [hQ];refine ⟨hw,?_⟩;rw [adX,lJ al (fun a=>KQ p a.1) h1,AZ rfl,hFl];exact ⟨sl,v,rfl,h2,h3,h4⟩
 have adY:=AB hbad;have apr:=AB hgood;rw [<- hQ];clear hpa hl hL adX hFl hbad hgood hQ;go_enter func94,ntmps94;go_wp2_with fail;obtain ⟨W0,hW0⟩:=BR (w.alloc (.cells #[vn,.slice Aa al.length ca,vf] 34));have X1:AO W0 w.heap.size 34 #[vn,.slice Aa al.length ca,vf]:=by rw [hW0];exact AO.made rfl _ _
 have Fj:AU w W0:=by rw [hW0];exact bA (bR w) _
 have HX0:=AB X1;rw [<- hW0];clear hW0 X1;go_loopw [2,13] (fun s i wr=>∃ (k:Nat) (sl:List DZ),k<=al.length/\i=.int .i64 k/\sl.map DZ.abs=((al.take k).flatMap fun a=>FM p a.1)/\(∀ s∈sl,FX wr s)/\Own wr W0.heap.size 132 2 Ia s sl/\AU W0 wr/\∀ j (hj:j<al.length),j<k->KQ p al[j].1=true) (fun _ i _=>al.length-(intOf i).toNat)
 case atStart => exact ⟨0,[],BX _,rfl,rfl,(fun _ h=>by cases h),Own.nil _ _ _ _ _,bR W0,fun _ _ h=>AA⟩
 case round =>
  obtain ⟨k,sl,hk,rfl,hsl,hok,hown,hb,hno⟩:=hrel;obtain ⟨Hb,FB,TQ,Hok,Hno⟩:=I4 hb hown hsl hok hno;have X1:=HX0.1.keep hb;have hsz:=hb.size;clear hb hown hsl hok hno;obtain ⟨BJ,BK,BL,BQ,-⟩:=X1.Az;by_cases hlt:k<al.length
  case neg =>
   have hE:al.take k=al:=IE AA;have hs:=TQ.1;rw [hE] at hs;have Hs:=AB hs;clear hE hs;go_wp2_with fail;exact apr.1 (fun j hj=>Hno.1 j hj AA) sl _ _ (bT Fj Hb.1) Hs.1 Hok.1 (FB.1.EM Fj.size)
  obtain ⟨b,o,rfl,hlb,c0,c1,c2,c3,c4,c5⟩:=(Ij.1.mono (bT Fj Hb.1)).ar hlt;obtain ⟨Av,cv,hv,-⟩:=HV.1 k hlt;rw [hv] at c3;clear hv;go_wp2_with fail;refine (sF _ p _ _ (HP.1.mono (bT Fj (bA Hb.1 _))) ED.1).mono ?_;rintro e w2 ⟨Ap,cp,rfl,hb2,hop⟩;have hA1:AU wr w2:=bT (bA (bR wr) _) hb2;have X5:AO w2 wr.heap.size 50 #[.int .i64 al[k].1.id,.int .i64 al[k].1.fr,.int .i64 al[k].1.dst,.slice Av al[k].1.via.length cv,.int .i64 al[k].1.left,.int .i64 al[k].1.right]:=(AO.made rfl _ _).keep hb2;have hown2:=FB.1.keep hA1;have hok2:∀ s∈sl,FX w2 s:=fun s hs=>(Hok.1 s hs).keep hA1;have B2:=bT Hb.1 hA1;have hsz2:=B2.size;replace X1:=X1.keep hA1;obtain ⟨rJ,aps,HB2⟩:=CG hown2 hok2 B2;clear hb2 hA1 hown2 hok2 B2 c0 c1 c2 c3 c4 c5 hlb X1 BJ BK BL BQ;obtain ⟨DI,DJ,DU,IJ,XC,sH,sJ,-⟩:=X5.Iy
  cases hpo:pathOf p al[k].1.id with
  | none =>
   have hf:=AB (show KQ p al[k].1=false by unfold KQ;rw [hpo]);clear hop;simp only [kE,QL,if_false,qW,LH];go_wp2_with fail;exact adY.1 k hlt hf.1 _ (bT Fj HB2.1)
  | some l =>
  rw [hpo] at hop;simp only [Ud,if_true,Ih] at hop ⊢;have YC:=AB hpo;have hll:=ahg hpo ED.1;have Hop:=AB hop;clear hpo hop;have YD:KQ p al[k].1=(!(al[k].1.fr == al[k].1.dst && decide ((l.length:Int)<4)) && YA l):=by unfold KQ;rw [YC.1]
  have ahi:=AB YD;clear YD;by_cases hloop:al[k].1.fr=al[k].1.dst/\(l.length:Int)<4
  ·obtain ⟨he1,he2⟩:=hloop;have hf:=AB (show KQ p al[k].1=false by rw [ahi.1,beq_iff_eq.2 he1,JB he2];rfl);have hz:=beq_iff_eq.2 he1;clear he1;go_wp2_with fail;exact adY.1 k hlt hf.1 _ (bT Fj HB2.1)
  have hz:(al[k].1.fr == al[k].1.dst && decide ((l.length:Int)<4))=false:=by
   rw [acX];by_cases e:al[k].1.fr=al[k].1.dst
   · right;exact Fg (fun h=>hloop ⟨e,h⟩)
   · left;exact beq_eq_false_iff_ne.2 e
  have ahj:=AB (show KQ p al[k].1=YA l by rw [ahi.1,hz];rfl);go_upto_region 5 with fail;go_cut [37] (fun u wx=>u=.bool false/\wx=w2)
  case first =>
   cases e1:(al[k].1.fr == al[k].1.dst)
   ·go_wp2;go_meet
    case rel => exact ⟨rfl,rfl⟩
   ·have e2:¬ (l.length:Int)<4:=fun h=>hloop ⟨eq_of_beq e1,h⟩;clear hloop hz;go_wp2;go_meet
    case rel => exact ⟨rfl,rfl⟩
  case rest =>
  obtain ⟨rfl,rfl⟩:=hcut;clear hloop hz;go_wp2_with fail;obtain ⟨ln,hln⟩:=BR (⟨al[k].1,l,wc.heap.size,⟨Av,al[k].1.via.length,cv⟩,Ap,cp⟩:Ln);obtain ⟨W5,IZ⟩:=BR (wc.alloc (.cells #[.int .i64 al[k].1.id,.int .i64 al[k].1.fr,.int .i64 al[k].1.dst,.slice Av al[k].1.via.length cv,.int .i64 al[k].1.left,.int .i64 al[k].1.right,.slice Ap l.length cp] 140));have PO:AU wc W5:=by rw [IZ];exact bA (bR wc) _
  have hlo:XB W5 ln:=by
   rw [hln];refine ⟨?_,(Hop.1.keep PO).EM (BX _)⟩;rw [IZ];exact AO.made rfl _ _
  rw [<- IZ];obtain ⟨Hlo,zk,adk,apt,Ce⟩:=I4 hlo hln (rJ.1.keep PO) (fun s hs=>(aps.1 s hs).keep PO) (bT HB2.1 PO);clear PO IZ hlo hln X5 DI DJ DU IJ XC sH sJ;obtain ⟨M,hM⟩:∃ M,l.length=M+1:=⟨l.length-1,AA⟩;clear hM;obtain ⟨wo,rfl⟩:=BR wr;go_loopw [2,45] (fun s i wx=>∃ (j:Nat) (sx:List DZ),j+1<=l.length/\i=.int .i64 j/\sx.map DZ.abs=((al.take k).flatMap fun a=>FM p a.1)++(FM p al[k].1).take j/\(∀ s∈sx,FX wx s)/\XB wx ln/\Own wx W0.heap.size 132 2 Ia s sx/\AU W0 wx/\∀ m (hm:m+1<l.length),m<j->¬ l[m]=l[m+1]) (fun _ i _=>l.length-(intOf i).toNat)
  case atStart => exact ⟨0,sl,AA,rfl,by rw [TQ.1];simp,apt.1,Hlo.1,adk.1,Ce.1,fun _ _ h=>AA⟩
  case round =>
   obtain ⟨j,sx,hj,rfl,hsx,ahk,ahl,rX,hbx,hnx⟩:=hrel;obtain ⟨G6,Wy,gZ,ahm,adZ,Tt⟩:=Jz hbx rX hsx ahk ahl hnx;have adP:=hbx.size;clear hbx rX hsx ahk ahl hnx;by_cases hlj:j+1<l.length
   case neg =>
    have hdist:=AB (show KQ p al[k].1=true by rw [ahj.1];exact apn l (fun m hm=>Tt.1 m hm AA));have Zo:=AB (show sx.map DZ.abs=((al.take (k+1)).flatMap fun a=>FM p a.1) by
     rw [gZ.1,Em hlt,O7,IE (l:=FM p al[k].1) (by simp only [FM,YC.1,CV,P9,Ih];omega)];simp)
    go_wp2;go_roundw
    case rel => exact ⟨k+1,sx,AA,BG,Zo.1,ahm.1,Wy.1,G6.1,all_succ (p:=fun x=>KQ p x.1=true) Hno.1 hlt hdist.1⟩
    case measure => exact BH
   have hrow:=Own.sl adZ.1.2;rw [zk.1] at hrow;obtain ⟨A1',aol,he1,-,-,hrow⟩:=hrow;injection he1 with he1 _ he3;subst he1;subst he3;obtain ⟨pb,po,adQ,hlp,f0,f1⟩:=hrow.pt (k:=j) (by simp only [];omega);subst adQ;obtain ⟨pb',po',rY,ahX,f2,f3⟩:=hrow.pt (k:=j+1) (by simp only [];omega);simp only [Gt,Addr.mk.injEq,and_true] at rY;obtain ⟨rfl,rfl⟩:=rY;simp only [] at f0 f1 f2 f3;clear hrow ahX;have lK:=EL ((j:Int)+1);have r1:0<=(j:Int):=AA
   have r2:(j:Int)<l.length:=AA
   have r3:0<=(j:Int)+1:=AA
   have r4:(j:Int)+1<l.length:=AA
   have r5:((j:Int)+1).toNat=j+1:=AA
   have hE:=KP l[j] l[j+1];by_cases he:l[j]=l[j+1]
   ·have hd:decide (l[j]=l[j+1])=true:=JB he;have hf:=AB (show KQ p al[k].1=false by rw [ahj.1];exact aoM l j hlj he);clear he;go_upto_region 11 with fail;refine D9 (wr) (.run 10 0 0 (.done)) fun CQ QR Ae Aj hS=>?_
    iterate 10 refine Ak ?_
    refine D5 ?_;clear hS Aj Ae;intro hB;go_wp2_with fail;exact adY.1 k hlt hf.1 _ (bT Fj (bT G6.1 hB))
   have hd:decide (l[j]=l[j+1])=false:=Fg he;have He:=AB he;clear he;go_upto_region 11 with fail;refine D9 (wr) (.run 10 0 0 (.done)) fun CQ QR Ae Aj hS=>?_
   iterate 10 refine Ak ?_
   refine D5 ?_;clear hS Aj Ae;intro hB;clear f0 f1 f2 f3 lK r3 r4 r5 hE;have hlen:=AB (show sx.length+1<=2097152 by
    have h2:=congrArg List.length gZ.1;rw [CV,Es,GH] at h2;have h3:=HL.1 (k+1);rw [Em hlt,O7,Es] at h3;simp only [N7,yS,MC] at h3;have h4:(FM p al[k].1).length=l.length-1:=by simp only [FM,YC.1,CV,P9,Ih]
    omega)
   have hnew:Et (FX wr.drew ⟨ln,j⟩):=AB ⟨adZ.1.keep hB,by rw [zk.1];exact ⟨hlj,by simp only [];omega⟩⟩;have hgl:ln.g=wc.heap.size:=by rw [zk.1]
   have Hgl:=AB hgl;have ada:Et (Own wr.drew W0.heap.size 132 2 Ia u2 sx):=AB Wy.1;have apu:Et (∀ s∈sx,FX wr.drew s):=AB fun s hs=>(ahm.1 s hs).keep hB;have apv:Et (XB wr.drew ln):=AB (adZ.1.keep hB);have az1:W0.heap.size<=wr.drew.heap.size:=adP;clear hB hgl;go_wp2_with
    (at_builtin
     refine FK _ rfl (.tmp 58) (.tmp 62) _ rfl (base:=W0.heap.size) aoK zi ahf rfl (ada.out.alloc _) rfl (l2:=[(⟨ln,j⟩:DZ)]) (Sl.aoL (by rw [Hgl.1];exact AO.made Ah _ _)) (by have:=hlen.1;simp only [JA,LH];omega) (by have:=hlen.1;simp only [JA,LH];omega) DR ?_;intro v1 w1 hown1 hg hat;have MW:=AB (show AU W0 w1 from bG (bA (bD G6.1) _) hg (fun g hk=>(ada.out.lt g hk).1));have hrow:∀ g,(u2:Value).ownBlock=some g->∃ cs,AO (wr.drew.alloc (.cells #[.pointer (some ⟨wc.heap.size,0,none⟩),.int .i64 j] 132)) g 132 cs:=fun g hg=>(ada.out.alloc _).blk hg;have apw:=AB (show ∀ s∈sx++[(⟨ln,j⟩:DZ)],FX w1 s from fun s hs=>by
      rcases GI.1 hs with h | h
      · exact ((apu.out s h).keep (bA (bR wr.drew) _)).grow hg hrow Aw Aw
      ·rw [Eb.1 h];exact (hnew.out.keep (bA (bR wr.drew) _)).grow hg hrow Aw Aw)
     have apx:=AB ((apv.out.keep (bA (bR wr.drew) _)).grow hg hrow Aw Aw);clear hg hat hrow;have WJ:=AB hown1;clear hown1)
   have Zn:=AB (show (sx++[(⟨ln,j⟩:DZ)]).map DZ.abs=((al.take k).flatMap fun a=>FM p a.1)++(FM p al[k].1).take (j+1) by
    rw [FH,gZ.1,apo p al[k].1 j (by rw [YC.1];exact hlj),LJ];simp only [Ey,O9,DZ.abs,YC.1,Ih,zk.1])
   go_roundw
   case rel => exact ⟨j+1,_,AA,BG,Zn.1,apw.1,apx.1,WJ.1,MW.1,fun m hm hmj=>if e:m<j then Tt.1 m hm e else by
     have:m=j:=AA
     subst this;exact He.1⟩
   case measure => exact BH
theorem apy (x:Int) (w:World):Calls prog 114 #[.int .i64 x] w fun e w'=>e=.returned (.bool false)/\w=w':=by
 have hx:(x != x)=false:=by simp
 go_enter func114,ntmps114;go_wp2;go_ret;exact ⟨Ah,rfl⟩
def Mc (x y:Int):Int:=if x<y then -1 else if y<x then 1 else 0
theorem apz (x y:Int) (w:World):Calls prog 57 #[.int .i64 x,.int .i64 y] w fun e w'=>e=.returned (.int .i64 (Mc x y))/\w=w':=by
 have HN:=AB (fun (z:Int) (W:World)=>apy z W);obtain ⟨q,hq⟩:=BI (Mc x y);rw [hq];have Hq:=AB hq;clear hq;go_enter func57,ntmps57;go_wp2_with fail;refine (HN.1 _ _).mono ?_;rintro e w' ⟨rfl,rfl⟩;go_wp2_with fail;refine (HN.1 _ _).mono ?_;rintro e w' ⟨rfl,rfl⟩;go_wp2_with fail
 all_goals
  go_ret;refine ⟨D8 ?_,rfl⟩;rw [<- Hq.1];unfold Mc
  first | rw [AZ KX] | (rw [AX KX,AZ KX]) | (rw [AX KX,AX KX]) | (split<;>(try split)<;>omega)
theorem sK (x y:Int) (w:World):Calls prog 57 #[.int .i64 x,.int .i64 y] w fun e w'=>e=.returned (.int .i64 (Mc x y))/\MR w w' :=
 (apz x y w).mono fun e w' h=>⟨h.1,by rw [<- h.2];exact ⟨bR w,dR w⟩⟩
theorem aq0 (s t:DZ) (w:World) (hs:FX w s) (ht:FX w t) :
  Calls prog 96 #[I8 s,I8 t] w fun e w'=>e=.returned (.int .i64 (Mc (J4 s) (J4 t)))/\MR w w':=by
 have TS:∀ W,AU w W->Calls prog 97 #[I8 s] W _:=fun W hW=>adW s W (hs.keep hW);have TT:∀ W,AU w W->Calls prog 97 #[I8 t] W _:=fun W hW=>adW t W (ht.keep hW);unfold I8 at TS TT ⊢;have HS:=AB TS;have HT:=AB TT;clear TS TT hs ht;generalize J4 s=x at *;generalize J4 t=y at *;generalize s.k=k at *;generalize t.k=m at *;generalize s.ln.g=g at *;generalize t.ln.g=h at *;go_enter func96,ntmps96;go_upto_region 1 with fail;obtain ⟨W,hW⟩:=BR ((w.alloc (.cells #[.pointer (some ⟨g,0,none⟩),.int .i64 k] 132)).alloc (.cells #[.pointer (some ⟨h,0,none⟩),.int .i64 m] 132));have Bw:AU w W:=by rw [hW];exact bA (bA (bR w) _) _
 have Dw:=AB (show w.drawn<=W.drawn by rw [hW];exact dA (dA (dR w) _) _);have X1:AO W w.heap.size 132 #[.pointer (some ⟨g,0,none⟩),.int .i64 k]:=by rw [hW];exact (AO.made rfl _ _).alloc _
 have X2:AO W (w.heap.size+1) 132 #[.pointer (some ⟨h,0,none⟩),.int .i64 m]:=by rw [hW];exact AO.made Ah _ _
 rw [<- hW];clear hW;obtain ⟨BJ,BK,BL,-⟩:=X1.Bl;obtain ⟨Bh,Bq,Bv,-⟩:=X2.Bl;refine D9 (W) (.take 0 1 (.take 2 5 (.call 1 7 (.call 3 15 (.call 4 31 (.take 5 63 (.done))))))) fun CQ QR Ae Aj hS=>?_
 iterate 2 refine Ak ?_
 refine BN ?_;clear hS;intro K hK AP;go_simp;refine (HS.1 _ (bT Bw AP.out)).mono ?_;rintro e BZ ⟨rfl,BU,hd1⟩;have hS:Since W BZ:=bT (w:=W) AP.out BU;clear AP;refine hK.out _ _ hS (fun _=>?_);clear hK K
 try simp only [pu]
 refine BN ?_;clear hS;intro K hK AP;go_simp;refine (HT.1 _ (bT Bw AP.out)).mono ?_;rintro e wr2 ⟨rfl,Du,hd2⟩;have hS:Since W wr2:=bT (w:=W) AP.out Du;clear AP;refine hK.out _ _ hS (fun _=>?_);clear hK K
 try simp only [pu]
 refine BN ?_;clear hS;intro K hK AP;go_simp;refine (sK x y _).mono ?_;rintro e wr3 ⟨rfl,NG,hd3⟩;have hS:Since W wr3:=bT (w:=W) AP.out NG;clear AP;refine hK.out _ _ hS (fun _=>?_);clear hK K
 try simp only [pu]
 refine Ak ?_;refine D5 ?_;clear hS Aj Ae;intro hB;have D3:=AB (dT (dT (dT (dD Dw.1) hd1) hd2) hd3);go_wp2;go_ret;exact ⟨rfl,bT Bw hB,D3.1⟩
def YE (l:List Int):Int:=(l.find? (fun x=>decide (x≠0))).getD 0
theorem aq1 (v:Value) (l:List Int) (w:World) (h:Ints w v l) (hs:l.length<=1000):Calls prog 56 #[v] w fun e w'=>e=.returned (.int .i64 (YE l))/\w=w':=by
 obtain ⟨A,c,rfl,hn,hc,hR⟩:=h;unfold maxLen at hc;have HR:=AB hR;clear hR;obtain ⟨q,hq⟩:=BI (YE l);rw [hq];have Hq:=AB hq;clear hq;go_enter func56,ntmps56;go_wp2_with fail;go_loopw [8] (fun u wr=>∃ k:Nat,k<=l.length/\u=.int .i64 k/\wr=w/\∀ j (hj:j<l.length),j<k->l[j]=0) (fun u _=>l.length-(intOf u).toNat)
 case atStart => exact ⟨0,BX _,rfl,rfl,fun _ _ h=>AA⟩
 case round =>
  obtain ⟨k,hk,rfl,rfl,hno⟩:=hrel;have Hno:=AB hno;clear hno;by_cases hlt:k<l.length
  ·obtain ⟨b,o,rfl,hlb,c0⟩:=HR.1.int hlt;by_cases hz:l[k]=0
   ·have hz':(l[k] != 0)=false:=by simp [hz]
    have Hz:=AB hz;clear hz;go_wp2;go_roundw
    case rel => exact ⟨k+1,AA,BG,trivial,fun j hj hjk=>if e:j<k then Hno.1 j hj e else by
      have:j=k:=AA
      subst this;exact Hz.1⟩
    case measure => exact BH
   ·have hz':(l[k] != 0)=true:=by simp [hz]
    have hf:=sU l (fun x=>decide (x≠0)) k hlt (fun j hj hjk=>by simp [Hno.1 j hj hjk]) (by simp [hz]);have Hf:=AB hf;clear hz hf;go_wp2;go_ret;exact ⟨D8 (by rw [<- Hq.1,YE,Hf.1];rfl),rfl⟩
  ·have hf:=zB l (fun x=>decide (x≠0)) (fun j hj=>by simp [Hno.1 j hj AA]);have Hf:=AB hf;clear hf;go_wp2;go_ret;exact ⟨D8 (by rw [<- Hq.1,YE,Hf.1];rfl),rfl⟩
theorem ahn (v:Value) (l:List Int) (w:World) (h:Ints w v l) (hs:l.length<=1000):Calls prog 56 #[v] w fun e w'=>e=.returned (.int .i64 (YE l))/\MR w w' :=
 (aq1 v l w h hs).mono fun e w' h=>⟨h.1,by rw [<- h.2];exact ⟨bR w,dR w⟩⟩
def PU (n:Int):DataW Unit:=.lit (.int .i64 n)
def XD:Value->Option (DataW Unit×List MemPlace)
 | .int .i64 n=>some (PU n,[])
 | _=>none
theorem zn {v:Value} {n:Int} {ps:List MemPlace} (h:XD v=some (PU n,ps)):v=.int .i64 n:=by
 unfold XD at h;split at h
 ·simp only [PU,Gt,Prod.mk.injEq,DataW.lit.injEq,Lit.int.injEq,true_and] at h;rw [h.1]
 · cases h
def Gw (w:World) (b n:Nat) (f:Int->Int):Prop :=
 ∃ D:DataW Unit,w.ownsMap prog 3 XD b n D/\Maps.IsMap D/\∀ id,D.atKey (.int .i64 id) (PU 0)=PU (f id)
theorem Gw.kept {w w':World} {b n:Nat} {f:Int->Int} (h:Gw w b n f) {row:Option Nat} (hg:w.grownBy w' row) (hr:some b≠row):Gw w' b n f:=by
 obtain ⟨D,h1,h2⟩:=h;exact ⟨D,h1.kept hg hr,h2⟩
theorem Gw.keep {w w':World} {b n:Nat} {f:Int->Int} (h:Gw w b n f) (hb:AU w w'):Gw w' b n f :=
 h.kept (row:=none) ⟨hb.os,hb.tape,hb.output,hb.size,fun i hi _=>hb.block i hi⟩ Ah
theorem Gw.lt {w:World} {b n:Nat} {f:Int->Int} (h:Gw w b n f):b<w.heap.size:=by
 obtain ⟨D,h1,h2⟩:=h;exact h1.lt
theorem Gw.made (w:World):Gw (w.alloc (.map #[] 0)) w.heap.size 0 (fun _=>0) :=
 ⟨.map [],World.ownsMap_made _ _ _ _,⟨_,rfl⟩,fun _=>rfl⟩
theorem lM (w:World):(zeroValue 3).run prog w=.ok (.int .i64 0) w:=by kernel_rfl
theorem Gw.look {w:World} {b n:Nat} {f:Int->Int} (h:Gw w b n f) (id:Int) (hid:F6 id) :
  (Instr.lookup 109 (.map (some b)) (.int .i64 id) false).run prog w=.ok (.int .i64 (f id)) w:=by
 obtain ⟨D,h1,-,h2⟩:=h;obtain ⟨v,ps,hr,hv⟩:=h1.lookup Ux Tryz.underlying109 (lM w) (zd:=PU 0) (zp:=[]) rfl (Maps.keyOf_int_mk Tryz.underlying3 hid);rw [h2] at hv;rw [hr,zn hv]
theorem Gw.upd {w:World} {b n:Nat} {f:Int->Int} (h:Gw w b n f) (hn:n<4294967296) (id:Int) (hid:F6 id) (x:Int) :
  ∃ w',(Instr.mapUpdate 109 (.map (some b)) (.int .i64 id) (.int .i64 x)).run prog w=.ok () w'/\Gw w' b (n+1) (fun i=>if i=id then x else f i)/\w.grownBy w' (some b):=by
 obtain ⟨D,h1,hm,h2⟩:=h;obtain ⟨w',hr,ho,hg⟩:=h1.update Ux Tryz.underlying109 jy (Maps.keyOf_int_mk Tryz.underlying3 hid) (val:=.int .i64 x) (d:=PU x) (ps:=[]) rfl;refine ⟨w',hr,⟨_,ho,?_,fun i=>?_⟩,hg⟩
 · obtain ⟨es,rfl⟩:=hm;exact ⟨_,rfl⟩
 ·show _=PU (if i=id then x else f i)
  by_cases e:i=id
  ·subst e;rw [AZ rfl];exact Maps.atKey_put_same hm (by trivial) _ _
  · rw [AX e,Maps.atKey_put_other (fun h=>e (by injection h)),h2]
def Tv (b:Bool):DataW Unit:=.lit (.bool b)
def zo:Value->Option (DataW Unit×List MemPlace)
 | .bool b=>some (Tv b,[])
 | _=>none
theorem ahG {v:Value} {b:Bool} {ps:List MemPlace} (h:zo v=some (Tv b,ps)):v=.bool b:=by
 unfold zo at h;split at h
 ·simp only [Tv,Gt,Prod.mk.injEq,DataW.lit.injEq,Lit.bool.injEq] at h;rw [h.1]
 · cases h
def Lr (w:World) (b n:Nat) (f:Int->Bool):Prop :=
 ∃ D:DataW Unit,w.ownsMap prog 3 zo b n D/\Maps.IsMap D/\∀ id,D.atKey (.int .i64 id) (Tv false)=Tv (f id)
theorem Lr.kept {w w':World} {b n:Nat} {f:Int->Bool} (h:Lr w b n f) {row:Option Nat} (hg:w.grownBy w' row) (hr:some b≠row):Lr w' b n f:=by
 obtain ⟨D,h1,h2⟩:=h;exact ⟨D,h1.kept hg hr,h2⟩
theorem Lr.keep {w w':World} {b n:Nat} {f:Int->Bool} (h:Lr w b n f) (hb:AU w w'):Lr w' b n f :=
 h.kept (row:=none) ⟨hb.os,hb.tape,hb.output,hb.size,fun i hi _=>hb.block i hi⟩ Ah
theorem Lr.lt {w:World} {b n:Nat} {f:Int->Bool} (h:Lr w b n f):b<w.heap.size:=by
 obtain ⟨D,h1,h2⟩:=h;exact h1.lt
theorem Lr.made (w:World):Lr (w.alloc (.map #[] 0)) w.heap.size 0 (fun _=>false) :=
 ⟨.map [],World.ownsMap_made _ _ _ _,⟨_,rfl⟩,fun _=>rfl⟩
theorem ahH (w:World):(zeroValue 4).run prog w=.ok (.bool false) w:=by kernel_rfl
theorem Lr.look {w:World} {b n:Nat} {f:Int->Bool} (h:Lr w b n f) (id:Int) (hid:F6 id) :
  (Instr.lookup 158 (.map (some b)) (.int .i64 id) false).run prog w=.ok (.bool (f id)) w:=by
 obtain ⟨D,h1,-,h2⟩:=h;obtain ⟨v,ps,hr,hv⟩:=h1.lookup Ux Tryz.underlying158 (ahH w) (zd:=Tv false) (zp:=[]) rfl (Maps.keyOf_int_mk Tryz.underlying3 hid);rw [h2] at hv;rw [hr,ahG hv]
theorem Lr.upd {w:World} {b n:Nat} {f:Int->Bool} (h:Lr w b n f) (hn:n<4294967296) (id:Int) (hid:F6 id) (x:Bool) :
  ∃ w',(Instr.mapUpdate 158 (.map (some b)) (.int .i64 id) (.bool x)).run prog w=.ok () w'/\Lr w' b (n+1) (fun i=>if i=id then x else f i)/\w.grownBy w' (some b):=by
 obtain ⟨D,h1,hm,h2⟩:=h;obtain ⟨w',hr,ho,hg⟩:=h1.update Ux Tryz.underlying158 jy (Maps.keyOf_int_mk Tryz.underlying3 hid) (val:=.bool x) (d:=Tv x) (ps:=[]) rfl;refine ⟨w',hr,⟨_,ho,?_,fun i=>?_⟩,hg⟩
 · obtain ⟨es,rfl⟩:=hm;exact ⟨_,rfl⟩
 ·show _=Tv (if i=id then x else f i)
  by_cases e:i=id
  ·subst e;rw [AZ rfl];exact Maps.atKey_put_same hm (by trivial) _ _
  · rw [AX e,Maps.atKey_put_other (fun h=>e (by injection h)),h2]
def BF (x:SV):Value:=.slice x.a x.n x.c
def Ry (n:Nat):DataW Unit:=.lit (.int .i64 (n:Int))
def Xh (x:SV):DataW Unit:=match x.a with
 | none=>.agg [Ry x.n,Ry x.c]
 | some ⟨b,o,none⟩=>.agg [Ry b,Ry o,Ry x.n,Ry x.c]
 | some ⟨_,_,some _⟩=>.agg []
def zq:Value->Option (DataW Unit×List MemPlace)
 | .slice none n c=>some (.agg [Ry n,Ry c],[])
 | .slice (some ⟨b,o,none⟩) n c=>some (.agg [Ry b,Ry o,Ry n,Ry c],[])
 | _=>none
theorem aq2 {v:Value} {x:SV} {ps:List MemPlace} (h:zq v=some (Xh x,ps)):v=BF x:=by
 obtain ⟨a,n,c⟩:=x;unfold zq at h;split at h
 ·rename_i n' c';unfold Xh at h;rcases a with _ | ⟨b,o,_ | q⟩
  ·simp only [Gt,Prod.mk.injEq,DataW.agg.injEq,List.cons.injEq,Ry,DataW.lit.injEq,Lit.int.injEq,and_true,true_and] at h;have h1:n'=n:=AA
   have h2:c'=c:=AA
   subst h1 h2;rfl
  · simp at h
  · simp at h
 ·rename_i b' o' n' c';unfold Xh at h;rcases a with _ | ⟨b,o,_ | q⟩
  · simp at h
  ·simp only [Gt,Prod.mk.injEq,DataW.agg.injEq,List.cons.injEq,Ry,DataW.lit.injEq,Lit.int.injEq,and_true,true_and] at h;have h1:b'=b:=AA
   have h2:o'=o:=AA
   have h3:n'=n:=AA
   have h4:c'=c:=AA
   subst h1 h2 h3 h4;rfl
  · simp at h
 · cases h
def SV.ok (x:SV):Prop:=x.a=none\/∃ b o,x.a=some ⟨b,o,none⟩
theorem aq3 {x:SV} (h:x.ok):zq (BF x)=some (Xh x,[]):=by
 obtain ⟨a,n,c⟩:=x;rcases h with h | ⟨b,o,h⟩
 · simp only at h;subst h;rfl
 · simp only at h;subst h;rfl
def sv0:SV:=⟨none,0,0⟩
def NH (w:World) (b n:Nat) (f:Int->SV):Prop :=
 ∃ D:DataW Unit,w.ownsMap prog 3 zq b n D/\Maps.IsMap D/\∀ id,D.atKey (.int .i64 id) (Xh sv0)=Xh (f id)
theorem NH.kept {w w':World} {b n:Nat} {f:Int->SV} (h:NH w b n f) {row:Option Nat} (hg:w.grownBy w' row) (hr:some b≠row):NH w' b n f:=by
 obtain ⟨D,h1,h2⟩:=h;exact ⟨D,h1.kept hg hr,h2⟩
theorem NH.keep {w w':World} {b n:Nat} {f:Int->SV} (h:NH w b n f) (hb:AU w w'):NH w' b n f :=
 h.kept (row:=none) ⟨hb.os,hb.tape,hb.output,hb.size,fun i hi _=>hb.block i hi⟩ Ah
theorem NH.lt {w:World} {b n:Nat} {f:Int->SV} (h:NH w b n f):b<w.heap.size:=by
 obtain ⟨D,h1,h2⟩:=h;exact h1.lt
theorem NH.made (w:World):NH (w.alloc (.map #[] 0)) w.heap.size 0 (fun _=>sv0) :=
 ⟨.map [],World.ownsMap_made _ _ _ _,⟨_,rfl⟩,fun _=>rfl⟩
theorem aq4 (w:World):(zeroValue 25).run prog w=.ok (.slice none 0 0) w:=by kernel_rfl
theorem NH.look {w:World} {b n:Nat} {f:Int->SV} (h:NH w b n f) (id:Int) (hid:F6 id) :
  (Instr.lookup 71 (.map (some b)) (.int .i64 id) false).run prog w=.ok (BF (f id)) w:=by
 obtain ⟨D,h1,-,h2⟩:=h;obtain ⟨v,ps,hr,hv⟩:=h1.lookup Ux Tryz.underlying71 (aq4 w) (zd:=Xh sv0) (zp:=[]) rfl (Maps.keyOf_int_mk Tryz.underlying3 hid);rw [h2] at hv;rw [hr,aq2 hv]
theorem NH.upd {w:World} {b n:Nat} {f:Int->SV} (h:NH w b n f) (hn:n<4294967296) (id:Int) (hid:F6 id) (x:SV) (hx:x.ok) :
  ∃ w',(Instr.mapUpdate 71 (.map (some b)) (.int .i64 id) (BF x)).run prog w=.ok () w'/\NH w' b (n+1) (fun i=>if i=id then x else f i)/\w.grownBy w' (some b):=by
 obtain ⟨D,h1,hm,h2⟩:=h;obtain ⟨w',hr,ho,hg⟩:=h1.update Ux Tryz.underlying71 jy (Maps.keyOf_int_mk Tryz.underlying3 hid) (val:=BF x) (d:=Xh x) (ps:=[]) (aq3 hx);refine ⟨w',hr,⟨_,ho,?_,fun i=>?_⟩,hg⟩
 · obtain ⟨es,rfl⟩:=hm;exact ⟨_,rfl⟩
 ·show _=Xh (if i=id then x else f i)
  by_cases e:i=id
  ·subst e;rw [AZ rfl];exact Maps.atKey_put_same hm (by trivial) _ _
  · rw [AX e,Maps.atKey_put_other (fun h=>e (by injection h)),h2]
open Go.RowKit Go.Sort
theorem qw {w w':World} (h:MR w w'):∃ q os',w'=grow (w.drewN q) os':=by
 obtain ⟨hb,hd⟩:=h;refine ⟨w'.drawn-w.drawn,w'.heap.extract w.heap.size w'.heap.size,?_⟩;have hh:w'.heap=w.heap++w'.heap.extract w.heap.size w'.heap.size:=by
  apply Array.ext
  · have:=hb.size;simp;omega
  ·intro i h1 h2;by_cases hi:i<w.heap.size
   ·rw [Array.getElem_append_left hi];have:=hb.block i hi
    rw [Array.getElem?_eq_getElem h1,Array.getElem?_eq_getElem hi] at this;injection this
   ·rw [Array.getElem_append_right AA,Array.getElem_extract];congr 1;omega
 have h1:=hb.os;have h2:=hb.tape;have h3:=hb.output
 cases w;cases w';simp only [grow,World.drewN,World.mk.injEq] at *;exact ⟨hh,h2,AA,h1,h3⟩
section
variable {α:Type} [Inhabited α] (enc:α->List Value) (k:Nat) (w:World)
theorem qx (blk off m:Nat) (dk:Array α) (os:Array Obj):(sortWorldK enc k w blk off m dk os).heap=w.heap.modify blk (onCells (putCells id off (flatK enc k dk)))++os:=rfl
theorem lN (blk off m:Nat) (dk:Array α) (os:Array Obj):w.grownBy (sortWorldK enc k w blk off m dk os) (some blk):=by
 refine ⟨rfl,rfl,rfl,?_,fun i hi hne=>?_⟩
 · rw [qx];simp
 ·have hne':blk≠i:=fun e=>hne RD;rw [qx,Array.getElem?_append_left kD,Array.getElem?_modify,AX hne']
end
theorem zu {α:Type} (f:α->Int) (x y:α):ltOf (fun x y=>Mc (f x) (f y)) x y=decide (f x<f y):=by
 unfold ltOf Mc;by_cases h:f x<f y
 · simp [h]
 · by_cases h':f y<f x<;>simp [h,h']
theorem aq5 {α:Type} (f:α->Int):SWO (ltOf (fun x y:α=>Mc (f x) (f y))) where
 irrefl x:=by rw [zu];simp
 trans x y z h1 h2:=by rw [zu] at *;simp at *;omega
 ntrans x y z h1 h2:=by rw [zu] at *;simp at *;omega
def aq6 (w:World) (base:Nat) (v:Value) (sl:List DZ) (e:Ending) (w':World):Prop :=
 e=.returned (.tuple #[])/\∃ sl':List DZ,sl'.Perm sl/\(∀ i j (hij:i<j) (hj:j<sl'.length),J4 (sl'[i]'(by omega))<=J4 sl'[j])/\Own w' base 132 2 Ia v sl'/\(∀ s∈sl',FX w' s)/\w.grownBy w' v.ownBlock
theorem aq7:∀ w,(isAgg 132).run prog w=.ok true w:=fun _=>by kernel_rfl
theorem ahI:∀ w,(Go.sizeOf 132).run prog w=.ok 2 w:=fun _=>by kernel_rfl
theorem lQ {α:Type} [Inhabited α] (enc:α->List Value) (k:Nat) (hk:∀ x,(enc x).length=k) (d:Array α) (j:Nat) (hj:j<d.size*k) :
  (flatK enc k d)[j]! = (d.toList.flatMap enc)[j]! := by
 rw [get_flatK _ _ _ _ hj];have hk0:0<k:=by
  rcases kL k with h | h
  · subst h;simp at hj
  · exact h
 have h1:j / k<d.size:=agy (by rw [yT];exact hj);have h2:j % k<k:=Uh _ hk0;have e:=flat_get enc k hk d.toList (j / k) (j % k) (by simpa using h1) h2;rw [acs] at e;rw [List.getElem!_eq_getElem?_getD,List.getElem!_eq_getElem?_getD,e];congr 2;rw [getElem!_pos d _ h1];simp
theorem aq8 (base:Nat) (v:Value) (sl:List DZ) (w:World) (hown:Own w base 132 2 Ia v sl) (hok:∀ s∈sl,FX w s) (hn:sl.length<=4294967296) :
  Calls prog 95 #[v,.func (.func 96) #[] #[]] w (aq6 w base v sl):=by
 rcases sl with _ | ⟨s0,rest⟩
 ·have hv:∃ p cap,v=.slice p 0 cap:=by
   rcases hown.2 with ⟨h,_⟩ | ⟨g,cap,cur,h,_⟩
   · exact ⟨_,_,h⟩
   · exact ⟨_,_,h⟩
  obtain ⟨p,cap,rfl⟩:=hv;refine Calls.mono (AnyF.slices_SortFunc_none Tryz.sortSeg p cap (.func (.func 96) #[] #[]) w) ?_;rintro e w' ⟨rfl,rfl⟩;exact ⟨rfl,[],List.Perm.refl _,fun i j _ hj=>by simp at hj,hown,(fun s hs=>by cases hs),World.grownBy.refl _ _⟩
 generalize hsl:s0::rest=sl at *;have hs0:s0∈sl:=by rw [<- hsl];simp
 have hpos:0<sl.length:=by rw [<- hsl];simp
 obtain ⟨hlen,hown2⟩:=hown;rcases hown2 with ⟨_,h0⟩ | ⟨g,cap,cur,rfl,hg,hh,hnc,hcm,hcs,hx⟩
 · omega
 haveI hI:Inhabited {s:DZ // FX w s}:=⟨⟨s0,hok s0 hs0⟩⟩
 have hdl:∃ dl:List {s:DZ // FX w s},dl.map (·.1)=sl:=⟨sl.attachWith (FX w) hok,Ah⟩;obtain ⟨dl,hdl⟩:=hdl;have hdn:dl.length=sl.length:=by rw [<- hdl];simp
 have hfm:dl.flatMap (fun x=>Ia x.1)=sl.flatMap Ia:=by rw [<- hdl,S9]
 have hrow:∀ g',(some g:Option Nat)=some g'->∃ cs,AO w g' 132 cs:=fun g' e=>by injection e with e;subst e;exact ⟨cur,hh⟩
 have hcur:∀ j,j<sl.length*2->cur[j]? = (sl.flatMap Ia)[j]? := fun j hj=>by
  rw [<- hx,List.getElem?_take,AZ hj];simp
 have eg:∀ args w,(callFunc 96 args).run prog w=.ok (.enter 96 args) w:=enters_of func96 Gl rfl;have hkk:∀ x:{s:DZ // FX w s},(Ia x.1).length=2:=fun _=>rfl;have hcmp:CmpLays prog 96 #[] (fun x:{s:DZ // FX w s}=>Ia x.1) 2 (fun x y=>Mc (J4 x.1) (J4 y.1)) g 0 dl.toArray.size w:=fun m os dk hdk x y=>by
  have hg':=lN (fun x:{s:DZ // FX w s}=>Ia x.1) 2 w g 0 m dk os;have hx:=x.2.grow hg' hrow Aw Aw;have hy:=y.2.grow hg' hrow Aw Aw;exact (aq0 x.1 y.1 _ hx hy).mono fun e w' h=>⟨h.1,qw h.2⟩
 have hsz:dl.toArray.size*2=sl.length*2:=by simp [hdn]
 have hH:HoldsK (fun x:{s:DZ // FX w s}=>Ia x.1) 2 w g 0 dl.toArray:=fun j hj=>by
  rw [size_flatK,hsz] at hj;refine ⟨?_,AO.frozen (t:=132) (cs:=cur) hh _⟩;rw [cell_of_row w g _ cur 132 (0,0) hh,Ug,hcur j hj,lQ _ 2 hkk _ j (by rw [hsz];exact hj)];simp only [id];rw [hfm,List.getElem!_eq_getElem?_getD]
  have:j<(sl.flatMap Ia).length:=by rw [hlen];exact hj
  rw [Di this];rfl
 have hcon:=AnyQ.slices_SortFunc Tryz.sortSeg 2 aq7 ahI (fun x:{s:DZ // FX w s}=>Ia x.1) hkk (fun x=>ahf x.1) (fun x y=>Mc (J4 x.1) (J4 y.1)) (aq5 fun x:{s:DZ // FX w s}=>J4 x.1) 96 #[] g 0 cap dl.toArray w eg hcmp hH (AO.lt hh) DR;have hns:dl.toArray.size=sl.length:=by simp [hdn]
 rw [hns] at hcon;refine Calls.mono hcon ?_;rintro e w' ⟨rfl,d',n,os,hp,hs,rfl⟩;obtain ⟨p1,-,p3⟩:=hp;have hd':d'.size=sl.length:=by rw [p1,hns]
 have hperm:d'.toList.Perm dl:=by
  have e1:d'.extract 0 sl.length=d':=by rw [<- hd'];simp
  have e2:dl.toArray.extract 0 sl.length=dl.toArray:=by rw [<- hns];simp
  rw [e1,e2] at p3;simpa using p3
 have hg':=lN (fun x:{s:DZ // FX w s}=>Ia x.1) 2 w g 0 n d' os;refine ⟨rfl,d'.toList.map (·.1),by rw [<- hdl];exact hperm.map _,?_,?_,?_,hg'⟩
 ·intro i j hij hj;have hj':j<d'.size:=by simpa using hj
  have:=hs i j (BX _) hij (by rw [<- hd'];exact hj')
  rw [zu (fun x:{s:DZ // FX w s}=>J4 x.1),JH,getElem!_pos d' j hj',getElem!_pos d' i AA] at this;simp only [Iu,Array.getElem_toList];omega
 ·have hl':(d'.toList.map (·.1)).length=sl.length:=by simp [hd']
  unfold Own;rw [hl'];have hfd:(d'.toList.map (·.1)).flatMap Ia=d'.toList.flatMap (fun x=>Ia x.1):=by rw [S9]
  have hln:((d'.toList.map (·.1)).flatMap Ia).length=sl.length*2:=by rw [flat_length Ia 2 zi,hl']
  refine ⟨hln,.inr ⟨g,cap,putCells id 0 (flatK (fun x:{s:DZ // FX w s}=>Ia x.1) 2 d') cur,rfl,hg,?_,hnc,hcm,qQ,?_⟩⟩
  ·have hgl:g<w.heap.size:=AO.lt hh;rw [qx,Array.getElem?_append_left (by simpa using hgl),Array.getElem?_modify,AZ rfl,hh];rfl
  ·apply kM;intro j;rw [List.getElem?_take];by_cases hj:j<sl.length*2
   ·rw [AZ hj,hfd];have hjc:j<cur.size:=by rw [hcs];have:=qX 2 hnc;omega
    have hjd:j<d'.size*2:=by rw [hd'];exact hj
    have e1:(putCells id 0 (flatK (fun x:{s:DZ // FX w s}=>Ia x.1) 2 d') cur).toList[j]? = some (flatK (fun x:{s:DZ // FX w s}=>Ia x.1) 2 d')[j]! := by
     simp [putCells,hjc,hjd]
    rw [e1,lQ _ 2 hkk _ j hjd,List.getElem!_eq_getElem?_getD]
    have:j<(d'.toList.flatMap fun x=>Ia x.1).length:=by rw [<- hfd,hln];exact hj
    rw [Di this];rfl
   · rw [AX hj,ZJ (by rw [hln];omega)]
 ·intro s hs;obtain ⟨x,-,rfl⟩:=Ez.1 hs;exact x.2.grow hg' hrow Aw Aw
theorem aq9 {n:Nat} (h:n<=8796093022208):n<=maxLen:=by
 have:maxLen=9223372036854775807:=rfl
 omega
def qy (p:Pl):Prop:=∀ a∈p.AQ,a.via.length<=8796093022208
theorem apM {P:Program} (w:World) {ops:Array Oper} {rest:List Oper} {o:Oper} {a:Act} {Q:Exit->Act->World->Prop} (hgd:o.guard=none) (s x:Operand) (t:TypeId)
  (ho:o.op=.call {callee:=.builtin .append,args:=#[s,x],argTypes:=#[t,t]})
  {α:Type} {f:α->List Value} {base:Nat} {e:TypeId} {size bytes:Nat} (hE:Elem P t e size bytes) (hf:∀ a,(f a).length=size) (hone:∀ a,∀ u∈f a,u.oneCell'=true)
  {v:Value} {l:List α} (hs:a.eval s=v) (hown:Own w base e size f v l)
  {src:Value} {l2:List α} (hx:a.eval x=src) (hr:Sl w src l2.length (l2.flatMap f))
  (hbytes:(l.length+l2.length)*bytes<=140737488355328) (h32:l.length+l2.length<=8796093022208) (hbase:base<=w.heap.size)
  (h:∀ v' w',Own w' base e size f v' (l++l2)->w.grownBy w' v.ownBlock->(v'.ownBlock=v.ownBlock\/v'.ownBlock=some w.heap.size)->wpList P ops Q rest (a.put o.dst v') w'):wpList P ops Q (o::rest) a w:=by
 obtain ⟨ht,i,z,hi,hz,hsize,hby,hzs,hsz⟩:=hE;refine ahE w hgd s x t ho base e i z size bytes ht hi hz hsize hby hzs hsz v l.length (l.flatMap f) hs hown src l2.length (l2.flatMap f) hx hr (flat_length f size hf l2)
  (fun u hu=>?_) (aq9 h32) hbytes hbase (fun v' w' h1 h2 h3=>h v' w' ?_ h2 h3)
 ·obtain ⟨a,_,hu⟩:=Ii.1 hu;exact hone a u hu
 ·unfold Own;rw [Es,O7];exact h1
theorem apN (v:Value) (l:List Pt) (w:World) (h:CZ w v l) (hl:l.length<=8796093022208) :
  Calls prog 38 #[v] w (Zm w l):=by
 have H:=h;obtain ⟨A,c,rfl,hn,hc,hR⟩:=h;have hE:=Lib.run_eql_slice_nil (P:=prog) (t:=25) (e:=42);rcases A with _ | ad
 ·have hl0:l=[]:=by
   rcases l with _ | ⟨a,l⟩
   · rfl
   ·obtain ⟨b,o,e,_⟩:=hR (by simp [DK])
    cases e
  subst hl0;clear hR H;simp only [LH] at hn ⊢;have hE1:∀ W:World,(binOp .eql 25 (.slice none 0 c) (.slice none 0 0)).run prog W=.ok (.bool true) W:=fun W=>Lib.run_eql_slice_nil W _ 42 none _ c 0 0 Tryz.underlying25;clear hE;go_enter func38,ntmps38;go_wp2;go_ret;exact ⟨_,_,rfl,bR w,Own.nil _ _ _ _ _⟩
 ·have hE1:∀ W:World,(binOp .eql 25 (.slice (some ad) l.length c) (.slice none 0 0)).run prog W=.ok (.bool false) W:=fun W=>Lib.run_eql_slice_nil W _ 42 (some ad) _ c 0 0 Tryz.underlying25;clear hE hR;have HH:=AB H;clear H;go_enter func38,ntmps38;go_wp2_with
   (at_builtin
    refine apM _ rfl (.tmp 5) (.tmp 6) _ rfl (base:=w.heap.size) JI I7 JD rfl (Own.lit _ _ _ _ DK [] _ 0 _ rfl rfl (Cj _) (D7 AA) rfl rfl) rfl (HH.1.mono (bA (bR w) _)) Ua Ua Ah ?_;intro v1 w1 hown hg hat)
  go_ret;obtain ⟨A1,c1,rfl,-⟩:=Own.sl hown;simp only [OW] at hown ⊢;exact ⟨A1,c1,rfl,bG (bA (bR w) _) hg (fun k hk=>by have:w.heap.size=k:=DV hk;omega),hown⟩
theorem apO (v:Value) (p:Pl) (id:Int) (w:World) (h:D6 w v p) (hsh:qy p) :
  Calls prog 60 #[v,.int .i64 id] w (tJ w (findAr p.AQ id)):=by
 obtain ⟨vn,_,vf,al,rfl,hpa,-,⟨⟨An,cn,rfl,hn1,hn2,hR⟩,hV⟩,-⟩:=h;unfold maxLen at hn2;unfold qy at hsh;rw [hpa] at hsh ⊢;clear hpa;have hsh':∀ k (hk:k<al.length),al[k].1.via.length<=8796093022208:=fun k hk=>hsh _ (FZ (BO hk));have HV:=AB hV;clear hV hsh;have ED:=AB hsh';clear hsh';go_enter func60,ntmps60;go_wp2_with fail;go_loopw [11] (fun i wr=>∃ k:Nat,k<=al.length/\i=.int .i64 k/\AU w wr/\AO wr (w.heap.size+1) 50 #[.int .i64 0,.int .i64 0,.int .i64 0,.slice none 0 0,.int .i64 0,.int .i64 0]/\∀ j (hj:j<al.length),j<k->(al[j].1.id == id)=false) (fun i _=>al.length-(intOf i).toNat)
 case atStart => exact ⟨0,BX _,rfl,bA (bA (bR w) _) _,AO.made Ah _ _,fun j _ h=>AA⟩
 case round =>
  obtain ⟨k,hk,rfl,hb,X4,hno⟩:=hrel;have Hb:=AB hb;have Hno:=AB hno;clear hb hno;obtain ⟨Bg,CO,CU,ES,LU,LV,LW,Eo,Gu,Jo,RH,RI,RG⟩:=X4.Iy;by_cases hlt:k<al.length
  ·obtain ⟨b,o,rfl,hlb,c0,c1,c2,c3,c4,c5⟩:=(hR.mono Hb.1).ar hlt;clear hR;have hvk:=(HV.1 k hlt);obtain ⟨Av,cv,hv,-⟩:=hvk;have hvk:=(HV.1 k hlt);rw [hv] at c3 hvk;generalize hvl:al[k].1.via.length=vl at *;have SN:=AB hvk;clear hvk hv hvl
   cases he:(al[k].1.id == id)
   ·go_wp2;go_roundw
    case rel => exact ⟨k+1,AA,BG,bA Hb.1 _,X4.alloc _,all_succ (p:=fun x=>(x.1.id == id)=false) Hno.1 hlt he⟩
    case measure => exact BH
   ·have hf:=ad4 al id k hlt Hno.1 he;have Hf:=AB hf;clear hf;go_wp2_with fail;refine (apN _ _ _ (SN.1.mono (bA Hb.1 _)) (ED.1 k hlt)).mono ?_;rintro e w1 ⟨A1,N8,rfl,hb1,hown⟩;have Bw:AU w w1:=bT (bA Hb.1 _) hb1;have X7:AO w1 wr.heap.size 50 #[.int .i64 al[k].1.id,.int .i64 al[k].1.fr,.int .i64 al[k].1.dst,.slice Av vl cv,.int .i64 al[k].1.left,.int .i64 al[k].1.right]:=(AO.made rfl _ _).keep hb1;have hw8:w.heap.size+1<wr.heap.size:=AA
    have hw7:w.heap.size+1≠wr.heap.size:=AA
    replace X4:=(X4.alloc _).keep hb1;have hown':=hown.EM (b':=wr.heap.size+1) Ah;have hP:=Own.sl hown;have FB:=AB hown';clear hb1 c0 c1 c2 c3 c4 c5 hlb hown hown' hP
    try clear Bg CO CU ES LU LV LW
    try clear Eo Gu Jo RH RI RG
    obtain ⟨Bg,CO,CU,ES,LU,LV,LW,Eo,Gu,Jo,RH,RI,RG⟩:=X4.Iy;obtain ⟨EJ,EK,F7,SQ,X7d,X7e,X7f,Ob,Oc,Un,ahu,ahv,ahw⟩:=X7.Iy;go_wp2_with fail;have tK:=Hb.1.size;have Wu:(Value.slice A1 al[k].1.via.length N8).ownBlock≠some wr.heap.size:=fun e=>by have:=(FB.1.lt _ e).1;omega
    have Nb:(Value.slice A1 al[k].1.via.length N8).ownBlock≠some (w.heap.size+1):=fun e=>by have:=(FB.1.lt _ e).1;omega
    have HP:=Own.sl (((((((FB.1.far (p:=⟨wr.heap.size,3,none⟩) Wu (.slice A1 al[k].1.via.length N8)).far (p:=⟨w.heap.size+1,0,none⟩) Nb (.int .i64 al[k].1.id)).far (p:=⟨w.heap.size+1,1,none⟩) Nb (.int .i64 al[k].1.fr)).far (p:=⟨w.heap.size+1,2,none⟩) Nb (.int .i64 al[k].1.dst)).far (p:=⟨w.heap.size+1,3,none⟩) Nb (.slice A1 al[k].1.via.length N8)).far (p:=⟨w.heap.size+1,4,none⟩) Nb (.int .i64 al[k].1.left)).far (p:=⟨w.heap.size+1,5,none⟩) Nb (.int .i64 al[k].1.right));refine Iz (g:=w.heap.size+1) (cs:=#[.int .i64 al[k].1.id,.int .i64 al[k].1.fr,.int .i64 al[k].1.dst,.slice A1 al[k].1.via.length N8,.int .i64 al[k].1.left,.int .i64 al[k].1.right]) rfl Ul rfl rfl (AO.Uk (X4.far (p:=⟨wr.heap.size,3,none⟩) hw7 _)) ⟨.slice A1 al[k].1.via.length N8,ZC,?_,by rw [Hf.1];exact HP⟩;exact Dy
  ·have hf:=ad5 al id (fun j hj=>Hno.1 j hj AA);have Hf:=AB hf;clear hf;go_wp2;have Bw:=Hb.1;refine Iz (g:=w.heap.size+1) (cs:=#[.int .i64 0,.int .i64 0,.int .i64 0,.slice none 0 0,.int .i64 0,.int .i64 0]) rfl Ul rfl rfl (AO.Uk X4) ⟨.slice none 0 0,ZC,?_,by rw [Hf.1];exact Sl.nil _⟩;exact Dy
def V9 (o p:Pt):Bool:=decide (p.y<o.y) || (decide (p.y=o.y) && decide (p.x<o.x))
def RJ (o a b:Pt):Bool:=EO [o,a,b] && (!decide (a=o) && (!decide (b=o) && (if V9 o a=V9 o b then decide (0<tw o a b) else V9 o b)))
def Xi (o a:Pt):Int:=if 0<a.x-o.x/\0<=a.y-o.y then 0 else if a.x-o.x<=0/\0<a.y-o.y then 1 else if a.x-o.x<0 then 2 else 3
def Xj (o a b:Pt):Bool:=EO [o,a,b] && (!decide (a=o) && (!decide (b=o) && (decide (Xi o a<Xi o b) || (decide (Xi o a=Xi o b) && decide (0<BM o a o b)))))
def EZ (x y:Int):Prop:=y<0\/(y=0/\x<0)
def OI (ux uy vx vy:Int):Prop:=(¬ EZ ux uy/\EZ vx vy)\/((EZ ux uy↔EZ vx vy)/\0<ux*vy-uy*vx)
theorem apP (ux uy:Int):¬ OI ux uy ux uy:=by
 rintro (⟨h1,h2⟩ | ⟨-,h⟩)
 · exact h1 h2
 · rw [OB uy ux] at h;omega
theorem three (ux uy vx vy wx wy:Int):vy*(ux*wy-uy*wx)=uy*(vx*wy-vy*wx)+wy*(ux*vy-uy*vx):=by grind
theorem ahJ {v A:Int} (hv:0<v) (h:0<v*A):0<A:=by
 rcases acd 0 A with h1 | h1
 · exact h1
 · have:=acp (dW hv) h1;omega
theorem apQ {v A:Int} (hv:0<v) (h:0<=v*A):0<=A:=by
 rcases acd A 0 with h1 | h1
 · have:=WE hv h1;omega
 · exact h1
def Za (x y:Int):Prop:=0<y\/(y=0/\0<x)
theorem ahK {ux uy vx vy wx wy:Int} (hu:Za ux uy) (hv:Za vx vy) (hw:Za wx wy) (h1:0<=ux*vy-uy*vx) (h2:0<=vx*wy-vy*wx) :
  0<=ux*wy-uy*wx/\(0<ux*vy-uy*vx\/0<vx*wy-vy*wx->0<ux*wy-uy*wx):=by
 have e:=three ux uy vx vy wx wy;unfold Za at *;rcases hv with hv | ⟨rfl,hv⟩
 ·have hw':0<wy:=by
   rcases hw with hw | ⟨rfl,hw⟩
   · exact hw
   ·have:=Ji hv hw
    rw [KO] at h2;omega
  have a1:0<=uy*(vx*wy-vy*wx):=KY AA h2;have a2:0<=wy*(ux*vy-uy*vx):=KY AA h1;refine ⟨apQ hv AA,fun h=>ahJ hv ?_⟩;rcases h with h | h
  · have:=Ji hw' h;omega
  ·rcases hu with hu | ⟨rfl,hu⟩
   · have:=Ji hu h;omega
   ·have h3:=Ji hu hv;have:=Ji hw' (show 0<ux*vy-0*vx by rw [Jy];omega)
    omega
 ·have hu':uy=0:=by
   rcases hu with hu | ⟨hu,-⟩
   ·have:=Ji hu hv
    rw [KO] at h1;omega
   · exact hu
  subst hu';have hu2:0<ux:=AA
  rw [Jy] at h2 ⊢;rw [Jy,KO];have hwy:0<=wy:=AA
  have a1:=KY (dW hu2) hwy;refine ⟨AA,fun h=>?_⟩;rcases h with h | h
  · omega
  ·have:0<wy:=ahJ hv AA
   have:=Ji hu2 this
   omega
theorem adb {x y:Int} (h0:¬ (x=0/\y=0)):¬ EZ x y↔Za x y:=by
 unfold EZ Za;omega
theorem ade {x y:Int}:EZ x y↔Za (-x) (-y):=by
 unfold EZ Za;omega
theorem ahL {ux uy vx vy wx wy:Int} (hu:¬ (ux=0/\uy=0)) (hv:¬ (vx=0/\vy=0)) (hw:¬ (wx=0/\wy=0)) (huv:EZ ux uy↔EZ vx vy) (hvw:EZ vx vy↔EZ wx wy) (h1:0<=ux*vy-uy*vx) (h2:0<=vx*wy-vy*wx) :
  0<=ux*wy-uy*wx/\(0<ux*vy-uy*vx\/0<vx*wy-vy*wx->0<ux*wy-uy*wx):=by
 by_cases hl:EZ vx vy
 ·have:=ahK (ade.1 (huv.2 hl)) (ade.1 hl) (ade.1 (hvw.1 hl))
  simp only [Int.neg_mul_neg] at this;exact this h1 h2
 · exact ahK ((adb hu).1 (fun h=>hl (huv.1 h))) ((adb hv).1 hl) ((adb hw).1 (fun h=>hl (hvw.2 h))) h1 h2
theorem apR {ux uy vx vy wx wy:Int} (hu:¬ (ux=0/\uy=0)) (hv:¬ (vx=0/\vy=0)) (hw:¬ (wx=0/\wy=0)) (h1:OI ux uy vx vy) (h2:OI vx vy wx wy):OI ux uy wx wy:=by
 unfold OI at *;rcases h1 with ⟨a1,a2⟩ | ⟨a1,a2⟩
 ·rcases h2 with ⟨b1,b2⟩ | ⟨b1,b2⟩
  · exact absurd a2 b1
  · exact .inl ⟨a1,b1.1 a2⟩
 ·rcases h2 with ⟨b1,b2⟩ | ⟨b1,b2⟩
  · exact .inl ⟨fun h=>b1 (a1.1 h),b2⟩
  · exact .inr ⟨a1.trans b1,(ahL hu hv hw a1 b1 AA AA).2 (.inl a2)⟩
theorem apS {ux uy vx vy wx wy:Int} (hu:¬ (ux=0/\uy=0)) (hv:¬ (vx=0/\vy=0)) (hw:¬ (wx=0/\wy=0)) (h1:¬ OI ux uy vx vy) (h2:¬ OI vx vy wx wy):¬ OI ux uy wx wy:=by
 have key:∀ {ax ay bx b:Int},¬ OI ax ay bx b->(EZ ax ay/\¬ EZ bx b)\/((EZ bx b↔EZ ax ay)/\0<=bx*ay-b*ax):=by
  intro ax ay bx b h;unfold OI at h;by_cases l1:EZ ax ay
  ·by_cases l2:EZ bx b
   ·refine .inr ⟨by simp [l1,l2],?_⟩;rw [OB bx,OB b];rcases acd (ay*bx-ax*b) 0 with h3 | h3
    · exact absurd (.inr ⟨by simp [l1,l2],AA⟩) h
    · exact h3
   · exact .inl ⟨l1,l2⟩
  ·by_cases l2:EZ bx b
   · exact absurd (.inl ⟨l1,l2⟩) h
   ·refine .inr ⟨by simp [l1,l2],?_⟩;rw [OB bx,OB b];rcases acd (ay*bx-ax*b) 0 with h3 | h3
    · exact absurd (.inr ⟨by simp [l1,l2],AA⟩) h
    · exact h3
 intro h3;rcases key h1 with ⟨a1,a2⟩ | ⟨a1,a2⟩
 ·rcases key h2 with ⟨b1,b2⟩ | ⟨b1,b2⟩
  · exact a2 b1
  ·rcases h3 with ⟨c1,c2⟩ | ⟨c1,c2⟩
   · exact c1 a1
   · exact a2 (b1.1 (c1.1 a1))
 ·rcases key h2 with ⟨b1,b2⟩ | ⟨b1,b2⟩
  ·rcases h3 with ⟨c1,c2⟩ | ⟨c1,c2⟩
   · exact c1 (a1.1 b1)
   · exact b2 (c1.1 (a1.1 b1))
  ·rcases h3 with ⟨c1,c2⟩ | ⟨c1,c2⟩
   · exact c1 (a1.1 (b1.1 c2))
   ·have:=(ahL hw hv hu b1 a1 b2 a2).1
    rw [OB wx,OB wy] at this;omega
def Xk (x y:Int):Int:=if 0<x/\0<=y then 0 else if x<=0/\0<y then 1 else if x<0 then 2 else 3
theorem ahM {x y:Int} (h:¬ (x=0/\y=0)):(Xk x y=0/\0<x/\0<=y)\/(Xk x y=1/\x<=0/\0<y)\/(Xk x y=2/\x<0/\y<=0)\/(Xk x y=3/\0<=x/\y<0):=by
 unfold Xk;split
 · omega
 ·split
  · omega
  ·split
   · omega
   · omega
theorem apT {ux uy vx vy:Int} (hu:¬ (ux=0/\uy=0)) (hv:¬ (vx=0/\vy=0)):(Xk ux uy<Xk vx vy\/(Xk ux uy=Xk vx vy/\0<ux*vy-uy*vx))↔OI ux uy vx vy:=by
 unfold OI;have np:∀ {a b:Int},0<=a->b<=0->a*b<=0:=fun h1 h2=>acp h1 h2;have pn:∀ {a b:Int},a<=0->0<=b->a*b<=0:=fun h1 h2=>yR h1 h2;rcases ahM hu with ⟨e1,a1,a2⟩ | ⟨e1,a1,a2⟩ | ⟨e1,a1,a2⟩ | ⟨e1,a1,a2⟩<;>rcases ahM hv with ⟨e2,b1,b2⟩ | ⟨e2,b1,b2⟩ | ⟨e2,b1,b2⟩ | ⟨e2,b1,b2⟩<;>rw [e1,e2]
 case inl.inr.inl =>
  have h1:=Ji a1 b2;have h2:=np a2 b1;have l1:¬ EZ ux uy:=by unfold EZ;omega
  have l2:¬ EZ vx vy:=by unfold EZ;omega
  simp only [l1,l2,iff_self,true_and,not_false_eq_true,and_false,false_or,not_true_eq_false,false_and];omega
 case inr.inl.inl =>
  have h1:=pn a1 b2;have h2:=Ji a2 b1;have l1:¬ EZ ux uy:=by unfold EZ;omega
  have l2:¬ EZ vx vy:=by unfold EZ;omega
  simp only [l1,l2,iff_self,true_and,not_false_eq_true,and_false,false_or,not_true_eq_false,false_and];omega
 case inr.inr.inl.inr.inr.inr =>
  have h1:=qZ a1 b2;have h2:=pn a2 b1;have l1:EZ ux uy:=by unfold EZ;omega
  have l2:EZ vx vy:=by unfold EZ;omega
  simp only [l1,l2,iff_self,true_and,not_false_eq_true,and_false,false_or,not_true_eq_false,false_and];omega
 case inr.inr.inr.inr.inr.inl =>
  have h1:=np a1 b2;have h2:=qZ a2 b1;have l1:EZ ux uy:=by unfold EZ;omega
  have l2:EZ vx vy:=by unfold EZ;omega
  simp only [l1,l2,iff_self,true_and,not_false_eq_true,and_false,false_or,not_true_eq_false,false_and];omega
 all_goals
  first
  | ((have l1:¬ EZ ux uy:=by unfold EZ;omega);(have l2:¬ EZ vx vy:=by unfold EZ;omega);(simp only [l1,l2,iff_self,true_and,not_false_eq_true,and_false,false_or,not_true_eq_false,false_and];omega))
  | ((have l1:EZ ux uy:=by unfold EZ;omega);(have l2:EZ vx vy:=by unfold EZ;omega);(simp only [l1,l2,iff_self,true_and,not_false_eq_true,and_false,false_or,not_true_eq_false,false_and];omega))
  | ((have l1:¬ EZ ux uy:=by unfold EZ;omega);(have l2:EZ vx vy:=by unfold EZ;omega);simp [l1,l2])
  | ((have l1:EZ ux uy:=by unfold EZ;omega);(have l2:¬ EZ vx vy:=by unfold EZ;omega);simp [l1,l2])
theorem ahN (o p:Pt):V9 o p=true↔EZ (p.x-o.x) (p.y-o.y):=by
 unfold V9 EZ;simp only [Ir,ER,Dq];omega
theorem rC {a o:Pt}:a≠o↔¬ (a.x-o.x=0/\a.y-o.y=0):=by
 rw [Ne,Pt.ext_iff'];omega
def Ea (o a b:Pt):Prop:=OI (a.x-o.x) (a.y-o.y) (b.x-o.x) (b.y-o.y)
theorem adf (o a b:Pt):RJ o a b=true↔EO [o,a,b]=true/\a≠o/\b≠o/\Ea o a b:=by
 unfold RJ;simp only [ER,QM,JH];refine and_congr_right fun _=>and_congr_right fun _=>and_congr_right fun _=>?_;unfold Ea OI;rw [<- ahN,<- ahN]
 show _↔_\/(_/\0<tw o a b)
 cases V9 o a<;>cases V9 o b<;>simp
theorem apU (o a b:Pt):Xj o a b=true↔EO [o,a,b]=true/\a≠o/\b≠o/\Ea o a b:=by
 unfold Xj;simp only [ER,QM,JH];refine and_congr_right fun _=>and_congr_right fun h1=>and_congr_right fun h2=>?_;rw [Ir,ER,Dq,Dq,Dq];exact apT (rC.1 h1) (rC.1 h2)
theorem apV (o a b:Pt):RJ o a b=Xj o a b:=by
 rw [Jh,adf,apU]
