import Derived.Test.YtialfdomhoojiaaGreatJ19
set_option linter.unusedSimpArgs false
set_option linter.unusedVariables false
set_option maxRecDepth 100000
set_option maxHeartbeats 4000000
namespace Go.Proofs.YtialfdomhoojiaaGreat
structure Cr where
 pos:Int
 arc:Int
 out:Int
instance:DecidableEq Cr:=fun a b =>
 if h:a.pos=b.pos/\a.arc=b.arc/\a.out=b.out then isTrue (by cases a;cases b;simp_all) else isFalse (by rintro rfl;simp at h)
open Go.RowKit
structure Pc where
 arc:Int
 path:List Pt
 enter:Int
 leave:Int
structure Prt where
 auA:Int
 pieces:List Pc
 nodes:List Nd
section
variable {w w':World} {v:Value}
end
section
variable {w:World} {A:Option Addr}
end
structure Ed where
 side:Int
 abp:Bool
 line:Int
 lo:Int
 hi:Int
def abq (g:Ed):Bool:=decide (g.side=1) || decide (g.side=2)
def aha (g:Ed) (p:Pt):Int:=if g.abp then p.x else p.y
def af0 (g:Ed) (p:Pt):Int:=if abq g then Bv (aha g p) g.line else Bv g.line (aha g p)
theorem ahb (b:Bx) (p:Pt) (w:World):Calls Tryz.prog 208 #[Ui b,aK p] w fun e w'=>e=.returned (.bool (inB b p))/\Below w.heap.size w w':=by
 unfold Ui aK;obtain ⟨q,hq⟩:∃ q,inB b p=q:=⟨_,rfl⟩;rw [hq];unfold inB at hq;have Hq:=avE hq;clear hq;go_enter Tryz.func208,Tryz.ntmps208;by_cases h1:b.x0<=p.x
 case neg =>
  go_wp2;go_ret;exact ⟨aY (by rw [<- Hq.out];exact (avV Pe).symm),bA (bA (bR w) _) _⟩
 by_cases h2:p.x<=b.x1
 case neg =>
  go_wp2;go_ret;exact ⟨aY (by rw [<- Hq.out];exact (avV Pe).symm),bA (bA (bR w) _) _⟩
 by_cases h3:b.y0<=p.y
 case neg =>
  go_wp2;go_ret;exact ⟨aY (by rw [<- Hq.out];exact (avV Pe).symm),bA (bA (bR w) _) _⟩
 by_cases h4:p.y<=b.y1
 case neg =>
  go_wp2;go_ret;exact ⟨aY (by rw [<- Hq.out];exact (avV Pe).symm),bA (bA (bR w) _) _⟩
 go_wp2;go_ret;exact ⟨aY (by rw [<- Hq.out];exact (avW Pe).symm),bA (bA (bR w) _) _⟩
theorem abr (q:Pt) (w:World):Calls Tryz.prog 146 #[aK q] w fun e w'=>e=.returned (.bool (iP q))/\Below w.heap.size w w':=by
 have HI:=avE (fun W=>ahb ⟨-1048576,-1048576,1048576,1048576⟩ q W);have he:=avE (show inB ⟨-1048576,-1048576,1048576,1048576⟩ q=iP q from by
  unfold inB iP;rw [Bool.eq_iff_iff];simp only [avR,avQ,and_assoc])
 unfold Ui aK at HI;unfold aK;go_enter Tryz.func146,Tryz.ntmps146;go_wp2_with fail;refine (HI.out _).mono ?_;rintro e w1 ⟨rfl,hb1⟩;have HB1:=avE (bT (bA (bR w) _) hb1);clear hb1;go_wp2;go_ret;exact ⟨aY he.out,HB1.out⟩
structure Oz (W:World) (g7 g8 g3 g4 g5:Nat) (a b c:Pt):Prop where
 bx:ah W g7 73 #[.int .i64 (rV a b c).x0,.int .i64 (rV a b c).y0,.int .i64 (rV a b c).x1,.int .i64 (rV a b c).y1]
 tn:ah W g8 3 #[.int .i64 (dK a b c)]
 pa:ah W g3 39 #[.int .i64 a.x,.int .i64 a.y]
 pb:ah W g4 39 #[.int .i64 b.x,.int .i64 b.y]
 pc:ah W g5 39 #[.int .i64 c.x,.int .i64 c.y]
theorem Oz.keep {W W':World} {g7 g8 g3 g4 g5:Nat} {a b c:Pt} (h:Oz W g7 g8 g3 g4 g5 a b c) (hb:Below W.heap.size W W'):Oz W' g7 g8 g3 g4 g5 a b c :=
 ⟨h.bx.keep hb,h.tn.keep hb,h.pa.keep hb,h.pb.keep hb,h.pc.keep hb⟩
theorem apl (a b c q:Pt) (g7 g8 g3 g4 g5:Nat) (w:World) (h:Oz w g7 g8 g3 g4 g5 a b c) :
  Calls Tryz.prog 211 #[aK q,.pointer (some ⟨g7,0,none⟩),.pointer (some ⟨g8,0,none⟩),.pointer (some ⟨g3,0,none⟩),.pointer (some ⟨g4,0,none⟩),.pointer (some ⟨g5,0,none⟩)] w fun e w'=>e=.returned (.bool (zM a b c q))/\Below w.heap.size w w':=by
 have HI:=avE (fun W=>ahb (rV a b c) q W);have ku:=avE (fun W=>J8 a b q W);have iU:=avE (fun W=>J8 b c q W);have gY:=avE (fun W=>J8 c a q W);have nM:=avE (fun W=>Nb a b q W);have HS2:=avE (fun W=>Nb b c q W);have DK:=avE (fun W=>Nb c a q W);have b0:=Ic a b c;have b1:=Ic a b q;have b2:=Ic b c q;have b3:=Ic c a q;have HT:=avE h;obtain ⟨R,hR⟩:∃ R,zM a b c q=R:=⟨_,rfl⟩;rw [hR];unfold zM at hR;have HT1:=h;obtain ⟨hbx,htn,hpa,hpb,hpc⟩:=HT1;have Gs:=avE hbx;have HTn:=avE htn;clear h hbx htn hpa hpb hpc;unfold Ui aK at HI;unfold aK at ku iU gY nM HS2 DK ⊢;generalize inB (rV a b c) q=z0 at *;generalize dQ a b q=o1 at *;generalize dQ b c q=o2 at *;generalize dQ c a q=o3 at *;generalize dK a b q=s1 at *;generalize dK b c q=s2 at *;generalize dK c a q=s3 at *;have fH:=avE hR;clear hR;go_enter Tryz.func211,Tryz.ntmps211;go_upto_region 1 with fail;obtain ⟨W1,hW⟩:∃ W:World,W=w.alloc (.cells #[.int .i64 q.x,.int .i64 q.y] 39):=⟨_,rfl⟩;have X6:ah W1 w.heap.size 39 #[.int .i64 q.x,.int .i64 q.y]:=by rw [hW];exact ah.made rfl _ _
 have HB1:=avE (show Below w.heap.size w W1 by rw [hW];exact bA (bR w) _);rw [<- hW];clear hW;have pI:=avE X6;have XB:=Gs.out.keep HB1.out;obtain ⟨fO,fQ,gK,-,-⟩:=X6.aQ;obtain ⟨LJ,LK,LM,LP,LQ,-,-,-,-⟩:=XB.YH;go_wp2_with fail;refine (HI.out _).mono ?_;rintro e w2 ⟨rfl,hb2⟩;have HB2:=avE (bT HB1.out hb2);have VX:=avE (pI.out.keep hb2);clear hb2 X6 fO fQ gK XB LJ LK LM LP LQ pI HB1
 cases z0
 case false =>
  go_wp2;go_ret;exact ⟨aY (by rw [<- fH.out];rfl),HB2.out⟩
 have hR:=fH.out;rw [Bool.true_and] at hR;clear fH;have XT:=HTn.out.keep HB2.out;have X3:=HT.out.pa.keep HB2.out;have X4:=HT.out.pb.keep HB2.out;have X5:=HT.out.pc.keep HB2.out;have X6:=VX.out;by_cases ht:dK a b c=0
 ·rw [if_pos ht] at hR;have fH:=avE hR;rw [ht] at XT;clear hR ht;obtain ⟨bH,bU,bY,-,-⟩:=X3.aQ;obtain ⟨aV,aX,bn,-,-⟩:=X4.aQ;obtain ⟨bI,bJ,bV,-,-⟩:=X5.aQ
  try clear fO
  try clear fQ
  try clear gK
  obtain ⟨fO,fQ,gK,-,-⟩:=X6.aQ;obtain ⟨XTl,XTa,-⟩:=XT.iV;go_wp2_with fail;refine (ku.out _).mono ?_;rintro e w3 ⟨rfl,hb3⟩;have HB3:=avE (bT HB2.out hb3);have X6':=VX.out.keep hb3;clear hb3 X3 bH bU bY X4 aV aX bn X5 bI bJ bV X6 fO fQ gK XT XTl XTa
  cases o1
  case true =>
   go_wp2;go_ret;exact ⟨aY (by rw [<- fH.out];rfl),HB3.out⟩
  have X3:=HT.out.pa.keep HB3.out;have X4:=HT.out.pb.keep HB3.out;have X5:=HT.out.pc.keep HB3.out;have apm:=avE X6'
  try clear bH
  try clear bU
  try clear bY
  obtain ⟨bH,bU,bY,-,-⟩:=X3.aQ
  try clear aV
  try clear aX
  try clear bn
  obtain ⟨aV,aX,bn,-,-⟩:=X4.aQ
  try clear bI
  try clear bJ
  try clear bV
  obtain ⟨bI,bJ,bV,-,-⟩:=X5.aQ
  try clear ahc
  try clear ahd
  try clear ahe
  try clear auB
  try clear auC
  obtain ⟨ahc,ahd,ahe,-,-⟩:=X6'.aQ;go_wp2_with fail;refine (iU.out _).mono ?_;rintro e w4 ⟨rfl,hb4⟩;have HB4:=avE (bT HB3.out hb4);have X6:=apm.out.keep hb4;clear hb4 X3 bH bU bY X4 aV aX bn X5 bI bJ bV X6' ahc ahd ahe
  cases o2
  case true =>
   go_wp2;go_ret;exact ⟨aY (by rw [<- fH.out];rfl),HB4.out⟩
  have X3:=HT.out.pa.keep HB4.out;have X5:=HT.out.pc.keep HB4.out
  try clear bH
  try clear bU
  try clear bY
  obtain ⟨bH,bU,bY,-,-⟩:=X3.aQ
  try clear bI
  try clear bJ
  try clear bV
  obtain ⟨bI,bJ,bV,-,-⟩:=X5.aQ
  try clear fO
  try clear fQ
  try clear gK
  obtain ⟨fO,fQ,gK,-,-⟩:=X6.aQ;go_wp2_with fail;refine (gY.out _).mono ?_;rintro e w5 ⟨rfl,hb5⟩;have bC:=avE (bT HB4.out hb5);clear hb5 X3 bH bU bY X5 bI bJ bV X6 fO fQ gK;go_wp2;go_ret;exact ⟨aY (by rw [<- fH.out];simp),bC.out⟩
 ·rw [if_neg ht] at hR;obtain ⟨T,hT⟩:∃ T,dK a b c=T:=⟨_,rfl⟩;rw [hT] at hR ht b0 XT;obtain ⟨P1,hP1⟩:∃ P,T*s1=P:=⟨_,rfl⟩;obtain ⟨P2,hP2⟩:∃ P,T*s2=P:=⟨_,rfl⟩;obtain ⟨P3,hP3⟩:∃ P,T*s3=P:=⟨_,rfl⟩;rw [hP1,hP2,hP3] at hR;have fH:=avE hR;have V7:T=1\/T=-1:=by omega
  have kw1:IntKind.i64.wrap (T*s1)=P1:=by rw [hP1];exact avS _ (by rcases V7 with rfl | rfl<;>omega)
  have V8:IntKind.i64.wrap (T*s2)=P2:=by rw [hP2];exact avS _ (by rcases V7 with rfl | rfl<;>omega)
  have kw3:IntKind.i64.wrap (T*s3)=P3:=by rw [hP3];exact avS _ (by rcases V7 with rfl | rfl<;>omega)
  have ht0:(T == 0)=false:=beq_eq_false_iff_ne.2 ht;clear hR hT hP1 hP2 hP3 V7 b0 b1 b2 b3
  try clear bH
  try clear bU
  try clear bY
  obtain ⟨bH,bU,bY,-,-⟩:=X3.aQ
  try clear aV
  try clear aX
  try clear bn
  obtain ⟨aV,aX,bn,-,-⟩:=X4.aQ
  try clear bI
  try clear bJ
  try clear bV
  obtain ⟨bI,bJ,bV,-,-⟩:=X5.aQ
  try clear fO
  try clear fQ
  try clear gK
  obtain ⟨fO,fQ,gK,-,-⟩:=X6.aQ
  try clear XTl
  try clear XTa
  obtain ⟨XTl,XTa,-⟩:=XT.iV;go_upto_region 5 with fail;by_cases c1:0<=P1
  case neg =>
   refine dH (w2) (.run 4 0 0 (.call 4 31 (.run 21 5 31 (.done)))) fun bZ QR aB aH hS=>?_
   iterate 4 refine aC ?_
   refine fV (nM.out _) ?_;clear hS;intro cZ bW hS
   iterate 3 refine aC ?_
   iterate 7 refine jC ?_
   iterate 2 refine aC ?_
   iterate 7 refine jC ?_
   iterate 2 refine aC ?_
   refine dB ?_;clear hS aH aB;intro hB;go_wp2;go_ret;exact ⟨aY (by rw [<- fH.out];simp [c1]<;>omega),bT HB2.out hB⟩
  by_cases c2:0<=P2
  case neg =>
   refine dH (w2) (.run 4 0 0 (.call 4 31 (.run 7 5 31 (.call 12 8191 (.run 13 13 8191 (.done)))))) fun bZ QR aB aH hS=>?_
   iterate 4 refine aC ?_
   refine fV (nM.out _) ?_;clear hS;intro cZ bW hS
   iterate 3 refine aC ?_
   iterate 4 refine dN ?_
   refine fV (HS2.out _) ?_;clear hS;intro wr2 iW hS
   iterate 2 refine dN ?_
   iterate 2 refine aC ?_
   iterate 7 refine jC ?_
   iterate 2 refine aC ?_
   refine dB ?_;clear hS aH aB;intro hB;go_wp2;go_ret;exact ⟨aY (by rw [<- fH.out];simp [c1,c2]<;>omega),bT HB2.out hB⟩
  refine dH (w2) (.run 4 0 0 (.call 4 31 (.run 7 5 31 (.call 12 8191 (.run 8 13 8191 (.call 21 4194303 (.run 4 22 4194303 (.done)))))))) fun bZ QR aB aH hS=>?_
  iterate 4 refine aC ?_
  refine fV (nM.out _) ?_;clear hS;intro cZ bW hS
  iterate 3 refine aC ?_
  iterate 4 refine dN ?_
  refine fV (HS2.out _) ?_;clear hS;intro wr2 iW hS
  iterate 2 refine dN ?_
  iterate 2 refine aC ?_
  iterate 4 refine dN ?_
  refine fV (DK.out _) ?_;clear hS;intro wr3 qj hS
  iterate 2 refine dN ?_
  iterate 2 refine aC ?_
  refine dB ?_;clear hS aH aB;intro hB;go_wp2;go_ret;exact ⟨aY (by rw [<- fH.out];simp [c1,c2]<;>omega),bT HB2.out hB⟩
theorem apn (a b c:Pt) (w:World) :
  Calls Tryz.prog 148 #[aK a,aK b,aK c] w fun e w'=>(∃ g7 g8 g3 g4 g5,e=.returned (.func (.func 211) #[] #[.pointer (some ⟨g7,0,none⟩),.pointer (some ⟨g8,0,none⟩),.pointer (some ⟨g3,0,none⟩),.pointer (some ⟨g4,0,none⟩),.pointer (some ⟨g5,0,none⟩)])/\Oz w' g7 g8 g3 g4 g5 a b c)/\Below w.heap.size w w':=by
 have HS:=avE (fun W=>Nb a b c W);unfold aK at HS ⊢;go_enter Tryz.func148,Tryz.ntmps148;go_upto_region 2 with fail;obtain ⟨B,hB⟩:∃ B,rV a b c=B:=⟨_,rfl⟩;obtain ⟨W1,hW⟩:∃ W:World,W=((((w.alloc (.cells #[.int .i64 a.x,.int .i64 a.y] 39)).alloc (.cells #[.int .i64 b.x,.int .i64 b.y] 39)).alloc (.cells #[.int .i64 c.x,.int .i64 c.y] 39)).alloc (.cells #[.int .i64 B.x0,.int .i64 B.y0,.int .i64 B.x1,.int .i64 B.y1] 73)):=⟨_,rfl⟩;have m1:(if c.x<if b.x<a.x then b.x else a.x then c.x else if b.x<a.x then b.x else a.x)=B.x0:=by rw [<- hB];show _=min (min a.x b.x) c.x;split<;>split<;>omega
 have m2:(if c.y<if b.y<a.y then b.y else a.y then c.y else if b.y<a.y then b.y else a.y)=B.y0:=by rw [<- hB];show _=min (min a.y b.y) c.y;split<;>split<;>omega
 have m3:(if (if a.x<b.x then b.x else a.x)<c.x then c.x else if a.x<b.x then b.x else a.x)=B.x1:=by rw [<- hB];show _=max (max a.x b.x) c.x;split<;>split<;>omega
 have m4:(if (if a.y<b.y then b.y else a.y)<c.y then c.y else if a.y<b.y then b.y else a.y)=B.y1:=by rw [<- hB];show _=max (max a.y b.y) c.y;split<;>split<;>omega
 simp only [m1,m2,m3,m4];clear m1 m2 m3 m4;rw [<- hW];have X3:ah W1 w.heap.size 39 #[.int .i64 a.x,.int .i64 a.y]:=by rw [hW];exact (((ah.made rfl _ _).alloc _).alloc _).alloc _
 have X4:ah W1 (w.heap.size+1) 39 #[.int .i64 b.x,.int .i64 b.y]:=by rw [hW];exact ((ah.made ars _ _).alloc _).alloc _
 have X5:ah W1 (w.heap.size+2) 39 #[.int .i64 c.x,.int .i64 c.y]:=by rw [hW];exact (ah.made ars _ _).alloc _
 have X7:ah W1 (w.heap.size+3) 73 #[.int .i64 B.x0,.int .i64 B.y0,.int .i64 B.x1,.int .i64 B.y1]:=by rw [hW];exact ah.made ars _ _
 have HB1:=avE (show Below w.heap.size w W1 by rw [hW];exact bA (bA (bA (bA (bR w) _) _) _) _);have HB:=avE hB;clear hW hB;have dW:=avE X3;have dI:=avE X4;have dF:=avE X5;have lS:=avE X7;obtain ⟨bH,bU,bY,-,-⟩:=X3.aQ;obtain ⟨aV,aX,bn,-,-⟩:=X4.aQ;obtain ⟨bI,bJ,bV,-,-⟩:=X5.aQ;go_wp2_with fail;refine (HS.out _).mono ?_;rintro e w2 ⟨rfl,hb2⟩;have HB2:=avE hb2;have hsz:=HB1.out.size;clear hb2 X3 bH bU bY X4 aV aX bn X5 bI bJ bV;go_wp2;go_ret;have hA:=bA HB2.out (.cells #[.int .i64 (dK a b c)] 3);refine ⟨⟨_,_,_,_,_,rfl,⟨?_,ah.made rfl _ _,dW.out.keep hA,dI.out.keep hA,dF.out.keep hA⟩⟩,bT HB1.out hA⟩;rw [HB.out];exact lS.out.keep hA
end Go.Proofs.YtialfdomhoojiaaGreat
