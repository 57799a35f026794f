import Derived.RegionTactic
import Derived.Test.YtpempeioeiaijaaGreatGE
set_option linter.unusedSimpArgs false
set_option linter.unusedVariables false
set_option maxRecDepth 100000
set_option maxHeartbeats 4000000
namespace Go.Proofs.YtpempeioeiaijaaGreat
open Go.RowKit Tryz
def CJ (p:Pt):Bool:=decide (-2097152<=p.x) && decide (p.x<=2097152) && decide (-2097152<=p.y) && decide (p.y<=2097152)
def EO (l:List Pt):Bool:=l.all CJ
def tw (a b c:Pt):Int:=(b.x-a.x)*(c.y-a.y)-(b.y-a.y)*(c.x-a.x)
theorem SH (p:Pt):CJ p=true↔-2097152<=p.x/\p.x<=2097152/\-2097152<=p.y/\p.y<=2097152:=by
 simp [CJ,and_assoc]
theorem adv (l:List Pt) (k:Nat) (hk:k<l.length) (h:CJ l[k]=false):EO l=false:=by
 unfold EO;rw [dU];exact ⟨l[k],BO hk,by simp [h]⟩
theorem adw (l:List Pt) (h:∀ j (hj:j<l.length),CJ l[j]=true):EO l=true:=by
 unfold EO;rw [LK];intro x hx;obtain ⟨i,hi,rfl⟩:=EF.1 hx;exact h i hi
theorem lF (v:Value) (l:List Pt) (w:World) (h:CZ w v l) :
  Calls prog 144 #[v] w fun e w'=>e=.returned (.bool (EO l))/\AU w w':=by
 obtain ⟨A,c,rfl,hn,hc,hR⟩:=h;unfold maxLen at hc;go_enter func144,ntmps144;go_wp2_with fail;go_loopw [7] (fun i wr=>∃ k:Nat,k<=l.length/\i=.int .i64 k/\AU w wr/\∀ j (hj:j<l.length),j<k->CJ l[j]=true) (fun i _=>l.length-(intOf i).toNat)
 case atStart => exact ⟨0,BX _,rfl,Below.refl _ _,fun j _ h=>AA⟩
 case round =>
  obtain ⟨k,hk,rfl,hb,hno⟩:=hrel;have Hb:=AB hb;have Hno:=AB hno;have hs:=hb.size;clear hb hno;by_cases hlt:k<l.length
  ·obtain ⟨b,o,rfl,hlb,c0,c1⟩:=(hR.mono Hb.1).pt hlt;clear hR;by_cases hnr:CJ l[k]=true
   ·have Hn:=AB hnr;obtain ⟨n1,n2,n3,n4⟩:=(SH _).1 hnr;clear hnr;go_wp2;go_roundw
    case rel => exact ⟨k+1,AA,BG,Hb.1.alloc hs _,all_succ (p:=fun x=>CJ x=true) Hno.1 hlt Hn.1⟩
    case measure => exact BH
   ·have hn':CJ l[k]=false:=by simpa using hnr
    have Hf:=AB (adv l k hlt hn');clear hn';have rQ:=AB hnr;clear hnr;go_wp2
    all_goals first
     | (go_ret;exact ⟨CP Hf.1.symm,Hb.1.alloc hs _⟩)
     | (exfalso;exact rQ.1 ((SH _).2 ⟨AA,AA,AA,AA⟩))
  ·go_wp2;go_ret;exact ⟨CP (adw l fun j hj=>Hno.1 j hj AA).symm,Hb.1⟩
def lim (p:Pt):Prop:=-2097152<=p.x/\p.x<=2097152/\-2097152<=p.y/\p.y<=2097152
theorem Qa (a b m:Int) (h1:-m<=a) (h2:a<=m) (h3:-m<=b) (h4:b<=m):-(m*m)<=a*b/\a*b<=m*m:=by
 have hm:0<=m:=AA
 rcases Int.le_total 0 a with ha | ha<;>rcases Int.le_total 0 b with hb | hb
 · exact ⟨by have:=KY ha hb;have:=KY hm hm;omega,acV h2 h4 hb hm⟩
 ·have e:a*b=-(a * -b):=by rw [Int.mul_neg];omega
  have h:=acV h2 (show -b<=m by omega) AA hm;have h':=KY ha (show 0<=-b by omega);have:=KY hm hm
  omega
 ·have e:a*b=-(-a*b):=by rw [SA];omega
  have h:=acV (show -a<=m by omega) h4 hb hm;have h':=KY (show 0<=-a by omega) hb;have:=KY hm hm
  omega
 ·have e:a*b=-a * -b:=by rw [Int.neg_mul_neg]
  have h:=acV (show -a<=m by omega) (show -b<=m by omega) AA hm;have h':=KY (show 0<=-a by omega) (show 0<=-b by omega);have:=KY hm hm
  omega
theorem ai6 (a b c:Pt) (w:World) (ha:lim a) (hb:lim b) (hc:lim c) :
  Calls prog 145 #[BA a,BA b,BA c] w fun e w'=>e=.returned (.int .i64 (tw a b c))/\AU w w':=by
 obtain ⟨a1,a2,a3,a4⟩:=ha;obtain ⟨b1,b2,b3,b4⟩:=hb;obtain ⟨c1,c2,c3,c4⟩:=hc;obtain ⟨m1,m2⟩:=Qa (b.x-a.x) (c.y-a.y) 4194304 AA AA AA AA;obtain ⟨m3,m4⟩:=Qa (b.y-a.y) (c.x-a.x) 4194304 AA AA AA AA;simp only [Int.reduceMul,Int.reduceNeg] at m1 m2 m3 m4;unfold BA;go_enter func145,ntmps145;go_wp2;go_ret;exact ⟨D8 rfl,(((Below.refl _ _).alloc (Cj _) _).alloc Ah _).alloc DR _⟩
theorem Uo {p:Pt} (h:CJ p=true):lim p:=(SH p).1 h
theorem aaO {a b c:Pt} (h:EO [a,b,c]=true):lim a/\lim b/\lim c:=by
 simp only [EO,yQ,acn,aco,ER] at h;exact ⟨Uo h.1,Uo h.2.1,Uo h.2.2⟩
theorem apB {a b c d:Pt} (h:EO [a,b,c,d]=true):lim a/\lim b/\lim c/\lim d:=by
 simp only [EO,yQ,acn,aco,ER] at h;exact ⟨Uo h.1,Uo h.2.1,Uo h.2.2.1,Uo h.2.2.2⟩
def XZ (a b c:Pt):Int:=if EO [a,b,c]=true then tw a b c else 0
theorem aoN (a b c:Pt) (w:World) :
  Calls prog 228 #[BA a,BA b,BA c] w fun e w'=>e=.returned (.int .i64 (XZ a b c))/\AU w w':=by
 unfold BA;by_cases hn:EO [a,b,c]=true
 ·obtain ⟨ha,hb,hc⟩:=aaO hn;obtain ⟨Ha,Hb,Hc⟩:=CG ha hb hc;clear ha hb hc;go_enter func228,ntmps228;go_wp2_with fail;refine (lF _ [a,b,c] _ (CZ.Zl (AO.made Ah _ _))).mono ?_;rintro e w1 ⟨rfl,hb1⟩;obtain ⟨adx,ady⟩:=Uu hb1;have gY:=hb1.size
  try simp only [World.size_alloc,World.size_setCell,World.size_drew] at gY
  have adz:w.heap.size<w1.heap.size:=AA
  have ae0:w.heap.size+1<w1.heap.size:=AA
  have ae1:w.heap.size+1+1<w1.heap.size:=AA
  go_wp2_with fail;refine (ai6 a b c _ Ha.1 Hb.1 Hc.1).mono ?_;rintro e w2 ⟨rfl,hb2⟩;go_wp2;go_ret;refine ⟨D8 (by simp [XZ,hn]),?_⟩;exact Dy
 ·have hn':EO [a,b,c]=false:=by simpa using hn
  clear hn;go_enter func228,ntmps228;go_wp2_with fail;refine (lF _ [a,b,c] _ (CZ.Zl (AO.made Ah _ _))).mono ?_;rintro e w1 ⟨rfl,hb1⟩;obtain ⟨adx,ady⟩:=Uu hb1;have gY:=hb1.size
  try simp only [World.size_alloc,World.size_setCell,World.size_drew] at gY
  have adz:w.heap.size<w1.heap.size:=AA
  have ae0:w.heap.size+1<w1.heap.size:=AA
  have ae1:w.heap.size+1+1<w1.heap.size:=AA
  go_wp2;go_ret;refine ⟨D8 (by simp [XZ,hn']),?_⟩;exact Dy
def Fh (a b c:Pt):Int:=if 0<XZ a b c then 1 else if XZ a b c<0 then -1 else 0
theorem ai7 (a b c:Pt) (w:World) :
  Calls prog 195 #[BA a,BA b,BA c] w fun e w'=>e=.returned (.int .i64 (Fh a b c))/\AU w w':=by
 have T:∀ W,Calls prog 228 #[BA a,BA b,BA c] W _:=fun W=>aoN a b c W;unfold BA at T ⊢;unfold Fh;generalize XZ a b c=t at *;have HT:=AB T;clear T;go_enter func195,ntmps195;go_wp2_with fail;refine (HT.1 _).mono ?_;rintro e w1 ⟨rfl,hb1⟩;go_wp2_with fail
 all_goals
  go_ret;refine ⟨D8 rfl,?_⟩;exact Dy
def Ee (a b p:Pt):Bool:=EO [a,b,p] && decide (tw a b p=0) && decide (min a.x b.x<=p.x) && decide (p.x<=max a.x b.x) && decide (min a.y b.y<=p.y) && decide (p.y<=max a.y b.y)
theorem aaP (a b p:Pt) (w:World) :
  Calls prog 101 #[BA a,BA b,BA p] w fun e w'=>e=.returned (.bool (Ee a b p))/\AU w w':=by
 unfold BA;by_cases hn:EO [a,b,p]=true
 ·obtain ⟨ha,hb,hc⟩:=aaO hn;have T:∀ W,Calls prog 145 #[BA a,BA b,BA p] W _:=fun W=>ai6 a b p W ha hb hc;unfold BA at T;have hS:Ee a b p=(decide (tw a b p=0) && decide (min a.x b.x<=p.x) && decide (p.x<=max a.x b.x) && decide (min a.y b.y<=p.y) && decide (p.y<=max a.y b.y)):=by simp [Ee,hn]
  rw [hS];generalize tw a b p=t at *;have HT:=AB T;clear T ha hb hc hS;go_enter func101,ntmps101;go_wp2_with fail;refine (lF _ [a,b,p] _ (CZ.Zl (AO.made Ah _ _))).mono ?_;rintro e w1 ⟨rfl,hb1⟩;obtain ⟨adx,ady⟩:=Uu hb1;have gY:=hb1.size
  try simp only [World.size_alloc,World.size_setCell,World.size_drew] at gY
  have adz:w.heap.size<w1.heap.size:=AA
  have ae0:w.heap.size+1<w1.heap.size:=AA
  have ae1:w.heap.size+1+1<w1.heap.size:=AA
  go_wp2_with fail;refine (HT.1 _).mono ?_;rintro e w2 ⟨rfl,hb2⟩;obtain ⟨aoO,aoP⟩:=Uu hb2;have ae2:=hb2.size
  try simp only [World.size_alloc,World.size_setCell,World.size_drew] at ae2
  have aoQ:w.heap.size<w2.heap.size:=AA
  have aoR:w.heap.size+1<w2.heap.size:=AA
  have aoS:w.heap.size+1+1<w2.heap.size:=AA
  by_cases ht:t=0
  ·subst ht;go_wp2_with fail
   all_goals
    go_ret;refine ⟨CP (by rw [Jh];simp only [ER,Dq,QL,false_iff,true_iff];omega),?_⟩;exact Dy
  ·have ht':(t == 0)=false:=by simpa using ht
   go_wp2;go_ret;refine ⟨CP (by simp [ht]),?_⟩;exact Dy
 ·have hn':EO [a,b,p]=false:=by simpa using hn
  clear hn;go_enter func101,ntmps101;go_wp2_with fail;refine (lF _ [a,b,p] _ (CZ.Zl (AO.made Ah _ _))).mono ?_;rintro e w1 ⟨rfl,hb1⟩;obtain ⟨adx,ady⟩:=Uu hb1;have gY:=hb1.size
  try simp only [World.size_alloc,World.size_setCell,World.size_drew] at gY
  have adz:w.heap.size<w1.heap.size:=AA
  have ae0:w.heap.size+1<w1.heap.size:=AA
  have ae1:w.heap.size+1+1<w1.heap.size:=AA
  go_wp2;go_ret;refine ⟨CP (by simp [Ee,hn']),?_⟩;exact Dy
theorem aoT (a b:Pt) (w:World) :
  Calls prog 229 #[BA a,BA b] w fun e w'=>e=.returned (.bool (BP a b))/\AU w w':=by
 unfold BA;by_cases h1:a.x<b.x
 ·go_enter func229,ntmps229;go_wp2;go_ret;refine ⟨CP (by simp [BP,h1]),?_⟩;exact Dy
 ·by_cases h2:(a.x == b.x)=true
  ·go_enter func229,ntmps229;go_wp2;go_ret;refine ⟨CP qP,?_⟩;exact Dy
  ·have h2':(a.x == b.x)=false:=by simpa using h2
   clear h2;go_enter func229,ntmps229;go_wp2;go_ret;refine ⟨CP qP,?_⟩;exact Dy
def KN (a b c d:Pt):Int :=
 let a':=if BP b a then b else a
 let b':=if BP b a then a else b
 let c':=if BP d c then d else c
 let d':=if BP d c then c else d
 let f:=if BP a' c' then c' else a'
 let l:=if BP d' b' then d' else b'
 if f=l then 1 else if BP f l then 2 else 0
theorem aoU (a b c d:Pt) (w:World) :
  Calls prog 196 #[BA a,BA b,BA c,BA d] w fun e w'=>e=.returned (.int .i64 (KN a b c d))/\AU w w':=by
 have T:∀ p q:Pt,∀ W,Calls prog 229 #[BA p,BA q] W _:=fun p q W=>aoT p q W;unfold BA at T ⊢;have HT:=AB T;clear T;go_enter func196,ntmps196;go_wp2_with fail;refine (HT.1 b a _).mono ?_;rintro e w1 ⟨rfl,hb1⟩;have MW:AU w w1:=by
  exact Dy
 have X4:Boxed w1 w.heap.size a:=((((Boxed.new _ a rfl).alloc _).alloc _).alloc _).keep hb1;have X5:Boxed w1 (w.heap.size+1) b:=(((Boxed.new _ b Ah).alloc _).alloc _).keep hb1;have X6:Boxed w1 (w.heap.size+1+1) c:=((Boxed.new _ c Ah).alloc _).keep hb1;have X7:Boxed w1 (w.heap.size+1+1+1) d:=(Boxed.new _ d Ah).keep hb1;clear hb1;go_upto_if 13 with fail;go_cut [] (fun wx=>Boxed wx w.heap.size (if BP b a then b else a)/\Boxed wx (w.heap.size+1) (if BP b a then a else b)/\Boxed wx (w.heap.size+1+1) c/\Boxed wx (w.heap.size+1+1+1) d/\AU w wx)
 case first =>
  obtain ⟨Ur,x40,x41,x4f,x4g⟩:=X4.facts;obtain ⟨Us,Ut,U3,x5f,x5g⟩:=X5.facts
  cases h:BP b a
  ·go_wp2;go_meet
   case rel =>
   rw [h];exact ⟨X4,X5,X6,X7,MW⟩
  ·go_wp2;go_meet
   case rel =>
   rw [h];exact ⟨(X4.EH.far DF _).far DF _,(X5.far DF _ |>.far DF _).EH,(((X6.far DF _).far DF _).far DF _).far DF _,(((X7.far DF _).far DF _).far DF _).far DF _,bS (bS (bS (bS MW DF _) DF _) DF _) DF _⟩
 case rest =>
  clear MW X4 X5 X6 X7;obtain ⟨X4,X5,X6,X7,Bw⟩:=hcut;obtain ⟨a1,ha1⟩:=BR ((if BP b a then b else a));obtain ⟨b1,hb1⟩:=BR ((if BP b a then a else b));rw [<- ha1] at X4;rw [<- hb1] at X5;have Ha:=AB ha1;clear ha1;have Hb:=AB hb1;clear hb1;obtain ⟨V4,V5,V6,-⟩:=X6.facts;obtain ⟨Pv,Qb,Qc,-⟩:=X7.facts;go_wp2_with fail;refine (HT.1 d c _).mono ?_;rintro e w2 ⟨rfl,hb2⟩;clear V4 V5 V6 Pv Qb Qc;replace Bw:AU w w2:=bT Bw hb2;replace X4:=X4.keep hb2;replace X5:=X5.keep hb2;replace X6:=X6.keep hb2;replace X7:=X7.keep hb2;clear hb2;go_upto_if 18 with fail;go_cut [] (fun wx=>Boxed wx w.heap.size a1/\Boxed wx (w.heap.size+1) b1/\Boxed wx (w.heap.size+1+1) (if BP d c then d else c)/\Boxed wx (w.heap.size+1+1+1) (if BP d c then c else d)/\AU w wx)
  case first =>
   obtain ⟨V4,V5,V6,x6f,x6g⟩:=X6.facts;obtain ⟨Pv,Qb,Qc,x7f,x7g⟩:=X7.facts
   cases h:BP d c
   ·go_wp2;go_meet
    case rel =>
    rw [h];exact ⟨X4,X5,X6,X7,Bw⟩
   ·go_wp2;go_meet
    case rel =>
    rw [h];exact ⟨(((X4.far DF _).far DF _).far DF _).far DF _,(((X5.far DF _).far DF _).far DF _).far DF _,(X6.EH.far DF _).far DF _,(X7.far DF _ |>.far DF _).EH,bS (bS (bS (bS Bw DF _) DF _) DF _) DF _⟩
  case rest =>
   clear Bw X4 X5 X6 X7;obtain ⟨X4,X5,X6,X7,Bw⟩:=hcut;obtain ⟨c1,hc1⟩:=BR ((if BP d c then d else c));obtain ⟨d1,hd1⟩:=BR ((if BP d c then c else d));rw [<- hc1] at X6;rw [<- hd1] at X7;have Hc:=AB hc1;clear hc1;have Hd:=AB hd1;clear hd1;obtain ⟨Ur,x40,x41,x4f,x4g⟩:=X4.facts;obtain ⟨Us,Ut,U3,x5f,x5g⟩:=X5.facts;go_upto_region 5 with fail;go_cut [9,10] (fun s9 s10 wx=>∃ g9 g10:Nat,s9=.pointer (some ⟨g9,0,none⟩)/\s10=.pointer (some ⟨g10,0,none⟩)/\Boxed wx g9 a1/\Boxed wx g10 b1/\g9≠g10/\w.heap.size+1+1+1<g9/\w.heap.size+1+1+1<g10/\Boxed wx (w.heap.size+1+1) c1/\Boxed wx (w.heap.size+1+1+1) d1/\AU w wx)
   case first =>
    have Pv:=X7.lt;go_region
    ·go_wp2;go_meet
     case rel => exact ⟨_,_,rfl,rfl,((Boxed.new _ a1 rfl).alloc _).drew,(Boxed.new _ b1 Ah).drew,DF,DF,DF,((X6.alloc _).alloc _).drew,((X7.alloc _).alloc _).drew,bD (bA (bA Bw _) _)⟩
    ·go_wp2;go_meet
     case rel => exact ⟨_,_,rfl,rfl,(Boxed.new _ a1 Ah).drew,((Boxed.new _ b1 rfl).alloc _).drew,DF,DF,DF,((X6.alloc _).alloc _).drew,((X7.alloc _).alloc _).drew,bD (bA (bA Bw _) _)⟩
   case rest =>
    clear Bw X4 X5 X6 X7 Ur x40 x41 x4f x4g Us Ut U3 x5f x5g;obtain ⟨g9,g10,rfl,rfl,X9,CB,hne,JK,JL,X6,X7,Bw⟩:=hcut;obtain ⟨ae3,x90,x91,-⟩:=X9.facts;obtain ⟨V4,V5,V6,-⟩:=X6.facts;go_wp2_with fail;refine (HT.1 a1 c1 _).mono ?_;rintro e w3 ⟨rfl,hb3⟩;replace Bw:AU w w3:=bT Bw hb3;replace X9:=X9.keep hb3;replace CB:=CB.keep hb3;replace X6:=X6.keep hb3;replace X7:=X7.keep hb3;clear hb3 ae3 x90 x91 V4 V5 V6;go_upto_if 25 with fail;go_cut [] (fun wx=>Boxed wx g9 (if BP a1 c1 then c1 else a1)/\Boxed wx g10 b1/\Boxed wx (w.heap.size+1+1+1) d1/\AU w wx)
    case first =>
     obtain ⟨ae3,x90,x91,x9f,x9g⟩:=X9.facts;obtain ⟨V4,V5,V6,x6f,x6g⟩:=X6.facts
     cases h:BP a1 c1
     ·go_wp2;go_meet
      case rel =>
      rw [h];exact ⟨X9,CB,X7,Bw⟩
     ·go_wp2;go_meet
      case rel =>
      rw [h];exact ⟨X9.EH,(CB.far DF _).far DF _,(X7.far DF _).far DF _,bS (bS Bw DF _) DF _⟩
    case rest =>
     clear Bw X9 CB X6 X7;obtain ⟨X9,CB,X7,Bw⟩:=hcut;obtain ⟨f1,hf1⟩:=BR ((if BP a1 c1 then c1 else a1));rw [<- hf1] at X9;have Hf:=AB hf1;clear hf1;obtain ⟨ae4,x100,x101,-⟩:=CB.facts;obtain ⟨Pv,Qb,Qc,-⟩:=X7.facts;go_wp2_with fail;refine (HT.1 d1 b1 _).mono ?_;rintro e w4 ⟨rfl,hb4⟩;replace Bw:AU w w4:=bT Bw hb4;replace X9:=X9.keep hb4;replace CB:=CB.keep hb4;replace X7:=X7.keep hb4;clear hb4 ae4 x100 x101 Pv Qb Qc;go_upto_if 29 with fail;go_cut [] (fun wx=>Boxed wx g9 f1/\Boxed wx g10 (if BP d1 b1 then d1 else b1)/\AU w wx)
     case first =>
      obtain ⟨ae4,x100,x101,x10f,ayx⟩:=CB.facts;obtain ⟨Pv,Qb,Qc,x7f,x7g⟩:=X7.facts
      cases h:BP d1 b1
      ·go_wp2;go_meet
       case rel =>
       rw [h];exact ⟨X9,CB,Bw⟩
      ·go_wp2;go_meet
       case rel =>
       rw [h];exact ⟨(X9.far DF _).far DF _,CB.EH,bS (bS Bw DF _) DF _⟩
     case rest =>
      clear Bw X9 CB X7;obtain ⟨X9,CB,Bw⟩:=hcut;obtain ⟨l1,hl1⟩:=BR ((if BP d1 b1 then d1 else b1));rw [<- hl1] at CB;have Hl:=AB hl1;clear hl1;have HS:KN a b c d=if f1=l1 then 1 else if BP f1 l1 then 2 else 0:=by
       rw [Hf.1,Hl.1,Ha.1,Hb.1,Hc.1,Hd.1];rfl
      replace HS:=AB HS;obtain ⟨ae4,x100,x101,-⟩:=CB.facts;obtain ⟨ae3,x90,x91,-⟩:=X9.facts;have hE:=KP f1 l1;go_wp2_with fail
      ·go_ret;refine ⟨D8 ?_,Bw⟩;rw [HS.1,AZ KX]
      ·refine (HT.1 f1 l1 _).mono ?_;rintro e w5 ⟨rfl,hb5⟩;have hfl:¬ f1=l1:=by assumption
       cases h:BP f1 l1
       ·go_wp2;go_ret;refine ⟨D8 ?_,bT Bw hb5⟩;rw [HS.1,AX hfl,h];rfl
       ·go_wp2;go_ret;refine ⟨D8 ?_,bT Bw hb5⟩;rw [HS.1,AX hfl,h];rfl
def JR (a b c d:Pt):Int :=
 if EO [a,b,c,d]=true then
  if a=b then (if Ee c d a then 1 else 0)
  else if c=d then (if Ee a b c then 1 else 0)
  else if Fh a b c=0/\Fh a b d=0 then KN a b c d
  else if Fh a b c*Fh a b d<=0/\Fh c d a*Fh c d b<=0 then 1 else 0
 else 0
theorem aaQ (a b c:Pt):-1<=Fh a b c/\Fh a b c<=1:=by
 unfold Fh;split
 · omega
 · split<;>omega
theorem aoV (a b c d:Pt) (w:World) :
  Calls prog 143 #[BA a,BA b,BA c,BA d] w fun e w'=>e=.returned (.int .i64 (JR a b c d))/\AU w w':=by
 have TS:∀ p q r:Pt,∀ W,Calls prog 195 #[BA p,BA q,BA r] W _:=fun p q r W=>ai7 p q r W;have TO:∀ p q r:Pt,∀ W,Calls prog 101 #[BA p,BA q,BA r] W _:=fun p q r W=>aaP p q r W;have TH:∀ p q r s:Pt,∀ W,Calls prog 196 #[BA p,BA q,BA r,BA s] W _:=fun p q r s W=>aoU p q r s W;unfold BA at TS TO TH ⊢;have HS:=AB TS;clear TS;have HO:=AB TO;clear TO;have HH:=AB TH;clear TH;by_cases hn:EO [a,b,c,d]=true
 case neg =>
  have hn':EO [a,b,c,d]=false:=by simpa using hn
  have hm:JR a b c d=0:=by simp [JR,hn']
  have Hm:=AB hm;clear hn hm;go_enter func143,ntmps143;go_wp2_with fail;refine (lF _ [a,b,c,d] _ (CZ.zQ (AO.made Ah _ _))).mono ?_;rintro e w1 ⟨rfl,hb1⟩;go_wp2;go_ret;refine ⟨D8 Hm.1.symm,?_⟩;exact Dy
 case pos =>
 have Hn:=AB hn;go_enter func143,ntmps143;go_wp2_with fail;refine (lF _ [a,b,c,d] _ (CZ.zQ (AO.made Ah _ _))).mono ?_;rintro e w1 ⟨rfl,hb1⟩;have Bw:AU w w1:=by
  exact Dy
 have X4:Boxed w1 w.heap.size a:=(((((Boxed.new _ a rfl).alloc _).alloc _).alloc _).alloc _).keep hb1;have X5:Boxed w1 (w.heap.size+1) b:=((((Boxed.new _ b Ah).alloc _).alloc _).alloc _).keep hb1;have X6:Boxed w1 (w.heap.size+1+1) c:=(((Boxed.new _ c Ah).alloc _).alloc _).keep hb1;have X7:Boxed w1 (w.heap.size+1+1+1) d:=((Boxed.new _ d Ah).alloc _).keep hb1;clear hb1;obtain ⟨Ur,x40,x41,-⟩:=X4.facts;obtain ⟨Us,Ut,U3,-⟩:=X5.facts;obtain ⟨V4,V5,V6,-⟩:=X6.facts;obtain ⟨Pv,Qb,Qc,-⟩:=X7.facts;have hE1:=KP a b;have hE2:=KP c d;have hs1:=aaQ a b c;have hs2:=aaQ a b d;have hs3:=aaQ c d a;have hs4:=aaQ c d b;by_cases hab:a=b
 ·have hm:JR a b c d=if Ee c d a then 1 else 0:=by rw [JR,AZ Hn.1,AZ hab]
  have Hm:=AB hm;clear hm;have hab':decide (a=b)=true:=by simpa using hab
  clear hab;go_wp2_with fail;refine (HO.1 c d a _).mono ?_;rintro e w2 ⟨rfl,hb2⟩
  cases h:Ee c d a
  ·rw [h] at Hm;go_wp2;go_ret;refine ⟨D8 Hm.1.symm,?_⟩;exact Dy
  ·rw [h] at Hm;go_wp2;go_ret;refine ⟨D8 Hm.1.symm,?_⟩;exact Dy
 by_cases hcd:c=d
 ·have hm:JR a b c d=if Ee a b c then 1 else 0:=by rw [JR,AZ Hn.1,AX hab,AZ hcd]
  have Hm:=AB hm;clear hm;have hab':decide (a=b)=false:=by simpa using hab
  have ai8:decide (c=d)=true:=by simpa using hcd
  clear hab hcd;go_wp2_with fail;refine (HO.1 a b c _).mono ?_;rintro e w2 ⟨rfl,hb2⟩
  cases h:Ee a b c
  ·rw [h] at Hm;go_wp2;go_ret;refine ⟨D8 Hm.1.symm,?_⟩;exact Dy
  ·rw [h] at Hm;go_wp2;go_ret;refine ⟨D8 Hm.1.symm,?_⟩;exact Dy
 by_cases hl:Fh a b c=0/\Fh a b d=0
 ·have hm:JR a b c d=KN a b c d:=by rw [JR,AZ Hn.1,AX hab,AX hcd,AZ hl]
  have Hm:=AB hm;clear hm;have hab':decide (a=b)=false:=by simpa using hab
  have ai8:decide (c=d)=false:=by simpa using hcd
  obtain ⟨l1,l2⟩:=hl;have L1:=AB l1;have L2:=AB l2;clear hab hcd l1 l2;go_wp2_with fail;refine (HS.1 a b c _).mono ?_;rintro e w2 ⟨rfl,hb2⟩;rw [L1.1];replace Bw:AU w w2:=bT Bw hb2;replace X4:=X4.keep hb2;replace X5:=X5.keep hb2;replace X6:=X6.keep hb2;replace X7:=X7.keep hb2;clear hb2 Ur x40 x41 Us Ut U3 V4 V5 V6 Pv Qb Qc;obtain ⟨Ur,x40,x41,-⟩:=X4.facts;obtain ⟨Us,Ut,U3,-⟩:=X5.facts;obtain ⟨Pv,Qb,Qc,-⟩:=X7.facts;go_wp2_with fail;refine (HS.1 a b d _).mono ?_;rintro e w3 ⟨rfl,hb3⟩;rw [L2.1];replace Bw:AU w w3:=bT Bw hb3;replace X4:=X4.keep hb3;replace X5:=X5.keep hb3;replace X6:=X6.keep hb3;replace X7:=X7.keep hb3;clear hb3 Ur x40 x41 Us Ut U3 Pv Qb Qc;obtain ⟨Ur,x40,x41,-⟩:=X4.facts;obtain ⟨Us,Ut,U3,-⟩:=X5.facts;obtain ⟨V4,V5,V6,-⟩:=X6.facts;obtain ⟨Pv,Qb,Qc,-⟩:=X7.facts;go_wp2_with fail;refine (HH.1 a b c d _).mono ?_;rintro e w4 ⟨rfl,hb4⟩;go_wp2;go_ret;refine ⟨D8 Hm.1.symm,?_⟩;exact Dy
 have hm:JR a b c d=if Fh a b c*Fh a b d<=0/\Fh c d a*Fh c d b<=0 then 1 else 0:=by rw [JR,AZ Hn.1,AX hab,AX hcd,AX hl]
 have Hm:=AB hm;clear hm;have hab':decide (a=b)=false:=by simpa using hab
 have ai8:decide (c=d)=false:=by simpa using hcd
 have Hl:=AB hl;clear hab hcd hl;go_upto_region 9 with fail;go_cut [55] (fun s55 wx=>s55=.bool false/\Boxed wx w.heap.size a/\Boxed wx (w.heap.size+1) b/\Boxed wx (w.heap.size+1+1) c/\Boxed wx (w.heap.size+1+1+1) d/\AU w wx)
 case first =>
  go_wp2_with fail;refine (HS.1 a b c _).mono ?_;rintro e w2 ⟨rfl,hb2⟩;replace Bw:AU w w2:=bT Bw hb2;replace X4:=X4.keep hb2;replace X5:=X5.keep hb2;replace X6:=X6.keep hb2;replace X7:=X7.keep hb2;clear hb2 Ur x40 x41 Us Ut U3 V4 V5 V6 Pv Qb Qc;by_cases hz:Fh a b c=0
  ·have hz2:¬ Fh a b d=0:=fun h=>Hl.1 ⟨hz,h⟩;have hz2':(Fh a b d == 0)=false:=by simpa using hz2
   clear hz2;rw [hz];clear hz;obtain ⟨Ur,x40,x41,-⟩:=X4.facts;obtain ⟨Us,Ut,U3,-⟩:=X5.facts;obtain ⟨Pv,Qb,Qc,-⟩:=X7.facts;go_wp2_with fail;refine (HS.1 a b d _).mono ?_;rintro e w3 ⟨rfl,hb3⟩;replace Bw:AU w w3:=bT Bw hb3;replace X4:=X4.keep hb3;replace X5:=X5.keep hb3;replace X6:=X6.keep hb3;replace X7:=X7.keep hb3;clear hb3 Ur x40 x41 Us Ut U3 Pv Qb Qc;go_wp2;go_meet
   case rel => exact ⟨rfl,X4,X5,X6,X7,Bw⟩
  ·have hz':(Fh a b c == 0)=false:=by simpa using hz
   clear hz;go_wp2;go_meet
   case rel => exact ⟨rfl,X4,X5,X6,X7,Bw⟩
 case rest =>
  clear X4 X5 X6 X7 Bw Ur x40 x41 Us Ut U3 V4 V5 V6 Pv Qb Qc Hl;obtain ⟨rfl,X4,X5,X6,X7,Bw⟩:=hcut;obtain ⟨Ur,x40,x41,-⟩:=X4.facts;obtain ⟨Us,Ut,U3,-⟩:=X5.facts;obtain ⟨V4,V5,V6,-⟩:=X6.facts;obtain ⟨Pv,Qb,Qc,-⟩:=X7.facts;go_upto_region 4 with fail;obtain ⟨p1,p2⟩:=Qa (Fh a b c) (Fh a b d) 1 AA AA AA AA;obtain ⟨p3,p4⟩:=Qa (Fh c d a) (Fh c d b) 1 AA AA AA AA;simp only [Int.reduceMul,Int.reduceNeg] at p1 p2 p3 p4;have hw1:=EL (Fh a b c*Fh a b d);have hw2:=EL (Fh c d a*Fh c d b);by_cases hg:Fh a b c*Fh a b d<=0
  ·have hg':decide (Fh a b c*Fh a b d<=0)=true:=by simpa using hg
   clear hs1 hs2 hs3 hs4;go_region_held3 (fun W=>W.cell? ⟨w.heap.size,0,none⟩=some (.int .i64 a.x)/\W.cell? ⟨w.heap.size,1,none⟩=some (.int .i64 a.y)/\W.cell? ⟨w.heap.size+1,0,none⟩=some (.int .i64 b.x)/\W.cell? ⟨w.heap.size+1,1,none⟩=some (.int .i64 b.y)/\W.cell? ⟨w.heap.size+1+1,0,none⟩=some (.int .i64 c.x)/\W.cell? ⟨w.heap.size+1+1,1,none⟩=some (.int .i64 c.y)/\W.cell? ⟨w.heap.size+1+1+1,0,none⟩=some (.int .i64 d.x)/\W.cell? ⟨w.heap.size+1+1+1,1,none⟩=some (.int .i64 d.y)) ((repeat' apply And.intro)<;>(repeat (refine KL KX ?_))<;>(first | assumption | simp [*]))
     (first | (go_at_call 195;refine (HS.1 _ _ _ _).mono ?_;rintro e w' ⟨rfl,hb'⟩))
   by_cases hg2:Fh c d a*Fh c d b<=0
   ·have hq:JR a b c d=1:=by rw [Hm.1,AZ ⟨hg,hg2⟩]
    have Hq:=AB hq;clear hq Hm;go_wp2;go_ret;refine ⟨D8 Hq.1.symm,?_⟩;exact Dy
   ·have hq:JR a b c d=0:=by rw [Hm.1,AX (fun h=>hg2 h.2)]
    have Hq:=AB hq;clear hq Hm;go_wp2;go_ret;refine ⟨D8 Hq.1.symm,?_⟩;exact Dy
  ·have hg':decide (Fh a b c*Fh a b d<=0)=false:=by simpa using hg
   have hq:JR a b c d=0:=by rw [Hm.1,AX (fun h=>hg h.1)]
   have Hq:=AB hq;clear hq Hm;clear hs1 hs2 hs3 hs4;refine D9 (wc) (.run 3 0 0 (.run 3 4 7 (.call 3 127 (.call 7 255 (.run 15 8 255 (.done)))))) fun CQ QR Ae Aj hS=>?_
   iterate 6 refine Ak ?_
   refine II (HS.1 a b c _) ?_;clear hS;intro BZ BU hS;refine II (HS.1 a b d _) ?_;clear hS;intro wr2 Du hS
   iterate 3 refine Ak ?_
   iterate 10 refine JW ?_
   iterate 2 refine Ak ?_
   refine D5 ?_;clear hS Aj Ae;intro hB;go_wp2;go_ret;refine ⟨D8 Hq.1.symm,?_⟩;exact Dy
theorem rU (v:Value) (l:List Pt) (w:World) (h:CZ w v l) :
  Calls prog 217 #[v] w fun e w'=>e=.returned (.bool (EO l))/\AU w w':=by
 obtain ⟨A,c,rfl,hn,hc,hR⟩:=h;unfold maxLen at hc;go_enter func217,ntmps217;go_wp2_with fail;go_loopw [3] (fun i wr=>∃ k:Nat,k<=l.length/\i=.int .i64 k/\AU w wr/\∀ j (hj:j<l.length),j<k->CJ l[j]=true) (fun i _=>l.length-(intOf i).toNat)
 case atStart => exact ⟨0,BX _,rfl,Below.refl _ _,fun j _ h=>AA⟩
 case round =>
  obtain ⟨k,hk,rfl,hb,hno⟩:=hrel;have Hb:=AB hb;have Hno:=AB hno;have hs:=hb.size;clear hb hno;by_cases hlt:k<l.length
  ·obtain ⟨b,o,rfl,hlb,c0,c1⟩:=(hR.mono Hb.1).pt hlt;clear hR;by_cases hnr:CJ l[k]=true
   ·have Hn:=AB hnr;obtain ⟨n1,n2,n3,n4⟩:=(SH _).1 hnr;clear hnr;go_wp2;go_roundw
    case rel => exact ⟨k+1,AA,BG,Hb.1,all_succ (p:=fun x=>CJ x=true) Hno.1 hlt Hn.1⟩
    case measure => exact BH
   ·have hn':CJ l[k]=false:=by simpa using hnr
    have Hf:=AB (adv l k hlt hn');clear hn';have rQ:=AB hnr;clear hnr;go_wp2
    all_goals first
     | (go_ret;exact ⟨CP Hf.1.symm,Hb.1⟩)
     | (exfalso;exact rQ.1 ((SH _).2 ⟨AA,AA,AA,AA⟩))
  ·go_wp2;go_ret;exact ⟨CP (adw l fun j hj=>Hno.1 j hj AA).symm,Hb.1⟩
def BM (a b c d:Pt):Int:=(b.x-a.x)*(d.y-c.y)-(b.y-a.y)*(d.x-c.x)
def Xa (a b c d:Pt):Int:=(b.x-a.x)*(d.x-c.x)+(b.y-a.y)*(d.y-c.y)
theorem ae5 (a b c d:Pt) (w:World) (ha:lim a) (hb:lim b) (hc:lim c) (hd:lim d) :
  Calls prog 218 #[BA a,BA b,BA c,BA d] w fun e w'=>e=.returned (.int .i64 (BM a b c d))/\AU w w':=by
 obtain ⟨a1,a2,a3,a4⟩:=ha;obtain ⟨b1,b2,b3,b4⟩:=hb;obtain ⟨c1,c2,c3,c4⟩:=hc;obtain ⟨d1,d2,d3,d4⟩:=hd;obtain ⟨m1,m2⟩:=Qa (b.x-a.x) (d.y-c.y) 4194304 AA AA AA AA;obtain ⟨m3,m4⟩:=Qa (b.y-a.y) (d.x-c.x) 4194304 AA AA AA AA;simp only [Int.reduceMul,Int.reduceNeg] at m1 m2 m3 m4;unfold BA;go_enter func218,ntmps218;go_wp2;go_ret;refine ⟨D8 rfl,?_⟩;exact Dy
theorem aoW (a b c d:Pt) (w:World) (ha:lim a) (hb:lim b) (hc:lim c) (hd:lim d) :
  Calls prog 219 #[BA a,BA b,BA c,BA d] w fun e w'=>e=.returned (.int .i64 (Xa a b c d))/\AU w w':=by
 obtain ⟨a1,a2,a3,a4⟩:=ha;obtain ⟨b1,b2,b3,b4⟩:=hb;obtain ⟨c1,c2,c3,c4⟩:=hc;obtain ⟨d1,d2,d3,d4⟩:=hd;obtain ⟨m1,m2⟩:=Qa (b.x-a.x) (d.x-c.x) 4194304 AA AA AA AA;obtain ⟨m3,m4⟩:=Qa (b.y-a.y) (d.y-c.y) 4194304 AA AA AA AA;simp only [Int.reduceMul,Int.reduceNeg] at m1 m2 m3 m4;unfold BA;go_enter func219,ntmps219;go_wp2;go_ret;refine ⟨D8 rfl,?_⟩;exact Dy
theorem aoX (a b:Pt) (w:World) :
  Calls prog 243 #[BA a,BA b] w fun e w'=>e=.returned (.bool (BP a b))/\AU w w':=by
 unfold BA;by_cases h1:a.x<b.x
 ·go_enter func243,ntmps243;go_wp2;go_ret;refine ⟨CP (by simp [BP,h1]),?_⟩;exact Dy
 ·by_cases h2:(a.x == b.x)=true
  ·go_enter func243,ntmps243;go_wp2;go_ret;refine ⟨CP qP,?_⟩;exact Dy
  ·have h2':(a.x == b.x)=false:=by simpa using h2
   clear h2;go_enter func243,ntmps243;go_wp2;go_ret;refine ⟨CP qP,?_⟩;exact Dy
def LQ (a b p:Pt):Bool:=EO [a,b,p] && decide (BM a b a p=0) && decide (Xa a p b p<=0)
theorem ai9 (a b p:Pt) (w:World) :
  Calls prog 174 #[BA a,BA b,BA p] w fun e w'=>e=.returned (.bool (LQ a b p))/\AU w w':=by
 have hn0:∀ q,EO [a,b,p]=q->LQ a b p=(q && decide (BM a b a p=0) && decide (Xa a p b p<=0)):=fun q h=>by rw [LQ,h]
 have ahC:=AB hn0;clear hn0
 cases hn:EO [a,b,p]
 ·have Hs:=AB (ahC.1 _ hn);unfold BA;go_enter func174,ntmps174;go_wp2_with fail;refine (rU _ [a,b,p] _ (CZ.Zl (AO.made Ah _ _))).mono ?_;rintro e w1 ⟨rfl,hb1⟩;rw [hn];go_wp2;go_ret;refine ⟨CP Hs.1.symm,?_⟩;exact Dy
 ·obtain ⟨ha,hb,hc⟩:=aaO hn;have TC:∀ W,Calls prog 218 #[BA a,BA b,BA a,BA p] W _:=fun W=>ae5 a b a p W ha hb ha hc;have TD:∀ W,Calls prog 219 #[BA a,BA p,BA b,BA p] W _:=fun W=>aoW a p b p W ha hc hb hc;have Hs:=AB (ahC.1 _ hn);generalize BM a b a p=cr at *;generalize Xa a p b p=dt at *;unfold BA at TC TD ⊢;have HC:=AB TC;clear TC;have HD:=AB TD;clear TD;clear ha hb hc;go_enter func174,ntmps174;go_wp2_with fail;refine (rU _ [a,b,p] _ (CZ.Zl (AO.made Ah _ _))).mono ?_;rintro e w1 ⟨rfl,hb1⟩;rw [hn];have Bw:AU w w1:=by
   exact Dy
  have X3:AO _ (w.heap.size) 42 #[.int .i64 a.x,.int .i64 a.y]:=AO.keep (by repeat (first | exact AO.made Ah _ _ | refine AO.alloc ?_ _)) hb1;have X4:AO _ (w.heap.size+1) 42 #[.int .i64 b.x,.int .i64 b.y]:=AO.keep (by repeat (first | exact AO.made Ah _ _ | refine AO.alloc ?_ _)) hb1;have X5:AO _ (w.heap.size+1+1) 42 #[.int .i64 p.x,.int .i64 p.y]:=AO.keep (by repeat (first | exact AO.made Ah _ _ | refine AO.alloc ?_ _)) hb1;clear hb1;obtain ⟨Dk,EI,EN,-⟩:=X3.Bl;obtain ⟨Bg,CO,CU,-⟩:=X4.Bl;obtain ⟨DI,DJ,DU,-⟩:=X5.Bl;go_wp2_with fail;refine (HC.1 _).mono ?_;rintro e w2 ⟨rfl,hb2⟩;replace Bw:=bT Bw hb2;replace X3:=X3.keep hb2;replace X4:=X4.keep hb2;replace X5:=X5.keep hb2;clear hb2
  try clear Dk EI EN
  try clear Bg CO CU
  try clear DI DJ DU
  try clear Dk EI EN
  obtain ⟨Dk,EI,EN,-⟩:=X3.Bl
  try clear Bg CO CU
  obtain ⟨Bg,CO,CU,-⟩:=X4.Bl
  try clear DI DJ DU
  obtain ⟨DI,DJ,DU,-⟩:=X5.Bl;by_cases hcr:cr=0
  ·subst hcr;go_wp2_with fail;refine (HD.1 _).mono ?_;rintro e w3 ⟨rfl,hb3⟩;go_wp2;go_ret;refine ⟨CP (by rw [Hs.1];simp),?_⟩;exact Dy
  ·have ayy:(cr == 0)=false:=by simpa using hcr
   have Hcr:=AB hcr;clear hcr;go_wp2;go_ret;refine ⟨CP (by rw [Hs.1];simp [Hcr.1]),?_⟩;exact Dy
theorem aoY (a b c d:Pt) (w:World) :
  Calls prog 220 #[BA a,BA b,BA c,BA d] w fun e w'=>e=.returned (.int .i64 (KN a b c d))/\AU w w':=by
 have T:∀ p q:Pt,∀ W,Calls prog 243 #[BA p,BA q] W _:=fun p q W=>aoX p q W;unfold BA at T ⊢;have HT:=AB T;clear T;go_enter func220,ntmps220;go_wp2_with fail;refine (HT.1 b a _).mono ?_;rintro e w1 ⟨rfl,hb1⟩;have Bw:AU w w1:=by
  exact Dy
 have X4:Boxed w1 w.heap.size a:=((((Boxed.new _ a rfl).alloc _).alloc _).alloc _).keep hb1;have X5:Boxed w1 (w.heap.size+1) b:=(((Boxed.new _ b Ah).alloc _).alloc _).keep hb1;have X6:Boxed w1 (w.heap.size+1+1) c:=((Boxed.new _ c Ah).alloc _).keep hb1;have X7:Boxed w1 (w.heap.size+1+1+1) d:=(Boxed.new _ d Ah).keep hb1;clear hb1;go_upto_if 11 with fail;go_cut [] (fun wx=>Boxed wx (w.heap.size) (if BP b a then b else a)/\Boxed wx (w.heap.size+1) (if BP b a then a else b)/\Boxed wx (w.heap.size+1+1) c/\Boxed wx (w.heap.size+1+1+1) d/\AU w wx)
 case first =>
  obtain ⟨Bg,CO,CU,Eo,Gu⟩:=X4.Bl;obtain ⟨DI,DJ,DU,Zp,Zq⟩:=X5.Bl
  cases h:BP b a
  ·go_wp2;go_meet
   case rel =>
   rw [h];exact ⟨X4,X5,X6,X7,Bw⟩
  ·go_wp2;go_meet
   case rel =>
   rw [h];exact ⟨(((X4).EH).far DF _).far DF _,(((X5).far DF _).far DF _).EH,((((X6).far DF _).far DF _).far DF _).far DF _,((((X7).far DF _).far DF _).far DF _).far DF _,bS (bS (bS (bS (Bw) DF _) DF _) DF _) DF _⟩
 case rest =>
  clear X4 X5 X6 X7 Bw;obtain ⟨X4,X5,X6,X7,Bw⟩:=hcut;obtain ⟨a1,ha1⟩:=BR ((if BP b a then b else a));rw [<- ha1] at X4;have Ha1:=AB ha1;clear ha1;obtain ⟨b1,hb1⟩:=BR ((if BP b a then a else b));rw [<- hb1] at X5;have Hb1:=AB hb1;clear hb1;obtain ⟨FU,FV,FW,-⟩:=X6.Bl;obtain ⟨EJ,EK,F7,-⟩:=X7.Bl;go_wp2_with fail;refine (HT.1 d c _).mono ?_;rintro e w2 ⟨rfl,hb2⟩;replace Bw:=bT Bw hb2;replace X4:=X4.keep hb2;replace X5:=X5.keep hb2;replace X6:=X6.keep hb2;replace X7:=X7.keep hb2;clear hb2
  try clear Bg CO CU
  try clear Eo Gu
  try clear DI DJ DU
  try clear Zp Zq
  try clear FU FV FW
  try clear EJ EK F7
  go_upto_if 16 with fail;go_cut [] (fun wx=>Boxed wx (w.heap.size) a1/\Boxed wx (w.heap.size+1) b1/\Boxed wx (w.heap.size+1+1) (if BP d c then d else c)/\Boxed wx (w.heap.size+1+1+1) (if BP d c then c else d)/\AU w wx)
  case first =>
   try clear FU FV FW
   obtain ⟨FU,FV,FW,lG,lH⟩:=X6.Bl
   try clear EJ EK F7
   obtain ⟨EJ,EK,F7,Ob,Oc⟩:=X7.Bl
   cases h:BP d c
   ·go_wp2;go_meet
    case rel =>
    rw [h];exact ⟨X4,X5,X6,X7,Bw⟩
   ·go_wp2;go_meet
    case rel =>
    rw [h];exact ⟨((((X4).far DF _).far DF _).far DF _).far DF _,((((X5).far DF _).far DF _).far DF _).far DF _,(((X6).EH).far DF _).far DF _,(((X7).far DF _).far DF _).EH,bS (bS (bS (bS (Bw) DF _) DF _) DF _) DF _⟩
  case rest =>
   clear X4 X5 X6 X7 Bw;obtain ⟨X4,X5,X6,X7,Bw⟩:=hcut;obtain ⟨c1,hc1⟩:=BR ((if BP d c then d else c));rw [<- hc1] at X6;have Hc1:=AB hc1;clear hc1;obtain ⟨d1,hd1⟩:=BR ((if BP d c then c else d));rw [<- hd1] at X7;have Hd1:=AB hd1;clear hd1
   try clear Bg CO CU
   try clear Eo Gu
   obtain ⟨Bg,CO,CU,-⟩:=X4.Bl
   try clear FU FV FW
   try clear lG lH
   obtain ⟨FU,FV,FW,-⟩:=X6.Bl;go_wp2_with fail;refine (HT.1 a1 c1 _).mono ?_;rintro e w3 ⟨rfl,hb3⟩;replace Bw:=bT Bw hb3;replace X4:=X4.keep hb3;replace X5:=X5.keep hb3;replace X6:=X6.keep hb3;replace X7:=X7.keep hb3;clear hb3
   try clear Bg CO CU
   try clear Eo Gu
   try clear DI DJ DU
   try clear Zp Zq
   try clear FU FV FW
   try clear lG lH
   try clear EJ EK F7
   try clear Ob Oc
   go_upto_if 21 with fail;go_cut [] (fun wx=>Boxed wx (w.heap.size) (if BP a1 c1 then c1 else a1)/\Boxed wx (w.heap.size+1) b1/\Boxed wx (w.heap.size+1+1) c1/\Boxed wx (w.heap.size+1+1+1) d1/\AU w wx)
   case first =>
    try clear Bg CO CU
    try clear Eo Gu
    obtain ⟨Bg,CO,CU,Eo,Gu⟩:=X4.Bl
    try clear FU FV FW
    try clear lG lH
    obtain ⟨FU,FV,FW,lG,lH⟩:=X6.Bl
    cases h:BP a1 c1
    ·go_wp2;go_meet
     case rel =>
     rw [h];exact ⟨X4,X5,X6,X7,Bw⟩
    ·go_wp2;go_meet
     case rel =>
     rw [h];exact ⟨(X4).EH,((X5).far DF _).far DF _,((X6).far DF _).far DF _,((X7).far DF _).far DF _,bS (bS (Bw) DF _) DF _⟩
   case rest =>
    clear X4 X5 X6 X7 Bw;obtain ⟨X4,X5,X6,X7,Bw⟩:=hcut;obtain ⟨a2,ha2⟩:=BR ((if BP a1 c1 then c1 else a1));rw [<- ha2] at X4;have Ha2:=AB ha2;clear ha2
    try clear DI DJ DU
    try clear Zp Zq
    obtain ⟨DI,DJ,DU,-⟩:=X5.Bl
    try clear EJ EK F7
    try clear Ob Oc
    obtain ⟨EJ,EK,F7,-⟩:=X7.Bl;go_wp2_with fail;refine (HT.1 d1 b1 _).mono ?_;rintro e w4 ⟨rfl,hb4⟩;replace Bw:=bT Bw hb4;replace X4:=X4.keep hb4;replace X5:=X5.keep hb4;replace X6:=X6.keep hb4;replace X7:=X7.keep hb4;clear hb4
    try clear Bg CO CU
    try clear Eo Gu
    try clear DI DJ DU
    try clear Zp Zq
    try clear FU FV FW
    try clear lG lH
    try clear EJ EK F7
    try clear Ob Oc
    go_upto_if 25 with fail;go_cut [] (fun wx=>Boxed wx (w.heap.size) a2/\Boxed wx (w.heap.size+1) (if BP d1 b1 then d1 else b1)/\Boxed wx (w.heap.size+1+1) c1/\Boxed wx (w.heap.size+1+1+1) d1/\AU w wx)
    case first =>
     try clear DI DJ DU
     try clear Zp Zq
     obtain ⟨DI,DJ,DU,Zp,Zq⟩:=X5.Bl
     try clear EJ EK F7
     try clear Ob Oc
     obtain ⟨EJ,EK,F7,Ob,Oc⟩:=X7.Bl
     cases h:BP d1 b1
     ·go_wp2;go_meet
      case rel =>
      rw [h];exact ⟨X4,X5,X6,X7,Bw⟩
     ·go_wp2;go_meet
      case rel =>
      rw [h];exact ⟨((X4).far DF _).far DF _,(X5).EH,((X6).far DF _).far DF _,((X7).far DF _).far DF _,bS (bS (Bw) DF _) DF _⟩
    case rest =>
     clear X4 X5 X6 X7 Bw;obtain ⟨X4,X5,X6,X7,Bw⟩:=hcut;obtain ⟨b2,hb2⟩:=BR ((if BP d1 b1 then d1 else b1));rw [<- hb2] at X5;have Hb2:=AB hb2;clear hb2;have HS:KN a b c d=if a2=b2 then 1 else if BP a2 b2 then 2 else 0:=by
      rw [Ha2.1,Hb2.1,Ha1.1,Hb1.1,Hc1.1,Hd1.1];rfl
     replace HS:=AB HS
     try clear Bg CO CU
     try clear Eo Gu
     obtain ⟨Bg,CO,CU,-⟩:=X4.Bl
     try clear DI DJ DU
     try clear Zp Zq
     obtain ⟨DI,DJ,DU,-⟩:=X5.Bl;have hE:=KP a2 b2;go_wp2_with fail
     ·go_ret;refine ⟨D8 ?_,Bw⟩;rw [HS.1,AZ KX]
     ·refine (HT.1 a2 b2 _).mono ?_;rintro e w5 ⟨rfl,hb5⟩;have hfl:¬ a2=b2:=by assumption
      cases h:BP a2 b2
      ·go_wp2;go_ret;refine ⟨D8 ?_,bT Bw hb5⟩;rw [HS.1,AX hfl,h];rfl
      ·go_wp2;go_ret;refine ⟨D8 ?_,bT Bw hb5⟩;rw [HS.1,AX hfl,h];rfl
theorem ae6 (a b c d:Pt) (ha:lim a) (hb:lim b) (hc:lim c) (hd:lim d):-35184372088832<=BM a b c d/\BM a b c d<=35184372088832:=by
 obtain ⟨a1,a2,a3,a4⟩:=ha;obtain ⟨b1,b2,b3,b4⟩:=hb;obtain ⟨c1,c2,c3,c4⟩:=hc;obtain ⟨d1,d2,d3,d4⟩:=hd;obtain ⟨m1,m2⟩:=Qa (b.x-a.x) (d.y-c.y) 4194304 AA AA AA AA;obtain ⟨m3,m4⟩:=Qa (b.y-a.y) (d.x-c.x) 4194304 AA AA AA AA;simp only [Int.reduceMul,Int.reduceNeg] at m1 m2 m3 m4;unfold BM;omega
def N9 (a b c d:Pt):Int :=
 if a=b/\c=d/\¬ a=c then 0
 else if BM a b c d=0 then
  if BM a b a c=0/\BM a b a d=0/\BM c d c a=0/\BM c d c b=0 then KN a b c d else 0
 else if BM a b c d<0 then
  if 0<=-BM a c c d/\-BM a c c d<=-BM a b c d/\0<=-BM a c a b/\-BM a c a b<=-BM a b c d then 1 else 0
 else if 0<=BM a c c d/\BM a c c d<=BM a b c d/\0<=BM a c a b/\BM a c a b<=BM a b c d then 1 else 0
def Fz (a b c d:Pt):Int:=if EO [a,b,c,d]=true then N9 a b c d else 0
theorem ahP (a b c d:Pt) (w:World) :
  Calls prog 175 #[BA a,BA b,BA c,BA d] w fun e w'=>e=.returned (.int .i64 (Fz a b c d))/\AU w w':=by
 have TS:∀ W,Calls prog 220 #[BA a,BA b,BA c,BA d] W _:=fun W=>aoY a b c d W;have TC:∀ p q r s:Pt,lim p->lim q->lim r->lim s->∀ W,Calls prog 218 #[BA p,BA q,BA r,BA s] W _:=fun p q r s hp hq hr hs W=>ae5 p q r s W hp hq hr hs;unfold BA at TS TC ⊢;have HS:=AB TS;clear TS;have HC:=AB TC;clear TC
 cases hn:EO [a,b,c,d]
 ·have hm:Fz a b c d=0:=by rw [Fz,hn];rfl
  have Hm:=AB hm;clear hm;go_enter func175,ntmps175;go_wp2_with fail;refine (rU _ [a,b,c,d] _ (CZ.zQ (AO.made Ah _ _))).mono ?_;rintro e w1 ⟨rfl,hb1⟩;rw [hn];go_wp2;go_ret;refine ⟨D8 Hm.1.symm,?_⟩;exact Dy
 obtain ⟨la,lb,lc,ld⟩:=apB hn;have hm:Fz a b c d=N9 a b c d:=by rw [Fz,AZ hn]
 unfold N9 at hm;have Hm:=AB hm;clear hm;obtain ⟨Ha,Hb,Hc,Hd⟩:=DW la lb lc ld;clear la lb lc ld;go_enter func175,ntmps175;go_wp2_with fail;refine (rU _ [a,b,c,d] _ (CZ.zQ (AO.made Ah _ _))).mono ?_;rintro e w1 ⟨rfl,hb1⟩;rw [hn];clear hn;have Bw:AU w w1:=by
  exact Dy
 have X4:AO _ (w.heap.size) 42 #[.int .i64 a.x,.int .i64 a.y]:=AO.keep (by repeat (first | exact AO.made Ah _ _ | refine AO.alloc ?_ _)) hb1;have X5:AO _ (w.heap.size+1) 42 #[.int .i64 b.x,.int .i64 b.y]:=AO.keep (by repeat (first | exact AO.made Ah _ _ | refine AO.alloc ?_ _)) hb1;have X6:AO _ (w.heap.size+1+1) 42 #[.int .i64 c.x,.int .i64 c.y]:=AO.keep (by repeat (first | exact AO.made Ah _ _ | refine AO.alloc ?_ _)) hb1;have X7:AO _ (w.heap.size+1+1+1) 42 #[.int .i64 d.x,.int .i64 d.y]:=AO.keep (by repeat (first | exact AO.made Ah _ _ | refine AO.alloc ?_ _)) hb1;clear hb1;obtain ⟨Bg,CO,CU,-⟩:=X4.Bl;obtain ⟨DI,DJ,DU,-⟩:=X5.Bl;obtain ⟨FU,FV,FW,-⟩:=X6.Bl;obtain ⟨EJ,EK,F7,-⟩:=X7.Bl;go_upto_region 3 with fail;go_cut [31] (fun s wx=>s=.bool (decide (a=b/\c=d/\¬ a=c))/\wx=w1)
 case first =>
  have e1:=KP a b;have e2:=KP c d;have e3:=lX a c;by_cases h1:a=b
  ·have h1':decide (a=b)=true:=by simpa using h1
   have H1:=AB h1;clear h1;by_cases h2:c=d
   ·have h2':decide (c=d)=true:=by simpa using h2
    have H2:=AB h2;clear h2;go_wp2;go_meet
    case rel => exact ⟨by simp [H1.1,H2.1],rfl⟩
   ·have h2':decide (c=d)=false:=by simpa using h2
    have H2:=AB h2;clear h2;go_wp2;go_meet
    case rel => exact ⟨by simp [H2.1],rfl⟩
  ·have h1':decide (a=b)=false:=by simpa using h1
   have H1:=AB h1;clear h1;go_wp2;go_meet
   case rel => exact ⟨by simp [H1.1],rfl⟩
 case rest =>
 obtain ⟨rfl,rfl⟩:=hcut;by_cases hz:a=b/\c=d/\¬ a=c
 ·have hm:=Hm.1;rw [AZ hz] at hm;replace Hm:=AB hm;clear hm;have hz':decide (a=b/\c=d/\¬ a=c)=true:=JB hz;rw [hz'];clear hz hz';go_wp2;go_ret;exact ⟨D8 Hm.1.symm,Bw⟩
 have hm:=Hm.1;rw [AX hz] at hm;replace Hm:=AB hm;clear hm;have hz':decide (a=b/\c=d/\¬ a=c)=false:=Fg hz;rw [hz'];clear hz hz';go_wp2_with fail;refine (HC.1 a b c d Ha.1 Hb.1 Hc.1 Hd.1 _).mono ?_;rintro e w2 ⟨rfl,hb2⟩;replace Bw:=bT Bw hb2;replace X4:=X4.keep hb2;replace X5:=X5.keep hb2;replace X6:=X6.keep hb2;replace X7:=X7.keep hb2;clear hb2
 try clear Bg CO CU
 try clear DI DJ DU
 try clear FU FV FW
 try clear EJ EK F7
 try clear Bg CO CU
 obtain ⟨Bg,CO,CU,-⟩:=X4.Bl
 try clear DI DJ DU
 obtain ⟨DI,DJ,DU,-⟩:=X5.Bl
 try clear FU FV FW
 obtain ⟨FU,FV,FW,-⟩:=X6.Bl
 try clear EJ EK F7
 obtain ⟨EJ,EK,F7,-⟩:=X7.Bl;obtain ⟨nb1,nb2⟩:=ae6 a b c d Ha.1 Hb.1 Hc.1 Hd.1;generalize BM a b c d=n at *;by_cases hn0:n=0
 ·subst hn0;have hm:=Hm.1;rw [AZ rfl] at hm;replace Hm:=AB hm;clear hm;go_wp2_with fail;refine (HC.1 a b a c Ha.1 Hb.1 Ha.1 Hc.1 _).mono ?_;rintro e w3 ⟨rfl,hb3⟩;replace Bw:=bT Bw hb3;replace X4:=X4.keep hb3;replace X5:=X5.keep hb3;replace X6:=X6.keep hb3;replace X7:=X7.keep hb3;clear hb3
  try clear Bg CO CU
  try clear DI DJ DU
  try clear FU FV FW
  try clear EJ EK F7
  try clear Bg CO CU
  obtain ⟨Bg,CO,CU,-⟩:=X4.Bl
  try clear DI DJ DU
  obtain ⟨DI,DJ,DU,-⟩:=X5.Bl
  try clear FU FV FW
  obtain ⟨FU,FV,FW,-⟩:=X6.Bl
  try clear EJ EK F7
  obtain ⟨EJ,EK,F7,-⟩:=X7.Bl;generalize BM a b a c=c1 at *;by_cases hc1:c1=0
  case neg =>
   have hm:=Hm.1;rw [AX (fun h=>hc1 h.1)] at hm;replace Hm:=AB hm;clear hm;have hc':(c1 != 0)=true:=by simpa using hc1
   clear hc1;go_wp2;go_ret;exact ⟨D8 Hm.1.symm,Bw⟩
  case pos =>
  subst hc1;go_wp2_with fail;refine (HC.1 a b a d Ha.1 Hb.1 Ha.1 Hd.1 _).mono ?_;rintro e w4 ⟨rfl,hb4⟩;replace Bw:=bT Bw hb4;replace X4:=X4.keep hb4;replace X5:=X5.keep hb4;replace X6:=X6.keep hb4;replace X7:=X7.keep hb4;clear hb4
  try clear Bg CO CU
  try clear DI DJ DU
  try clear FU FV FW
  try clear EJ EK F7
  try clear Bg CO CU
  obtain ⟨Bg,CO,CU,-⟩:=X4.Bl
  try clear DI DJ DU
  obtain ⟨DI,DJ,DU,-⟩:=X5.Bl
  try clear FU FV FW
  obtain ⟨FU,FV,FW,-⟩:=X6.Bl
  try clear EJ EK F7
  obtain ⟨EJ,EK,F7,-⟩:=X7.Bl;generalize BM a b a d=c2 at *;by_cases hc2:c2=0
  case neg =>
   have hm:=Hm.1;rw [AX (fun h=>hc2 h.2.1)] at hm;replace Hm:=AB hm;clear hm;have hc':(c2 != 0)=true:=by simpa using hc2
   clear hc2;go_wp2;go_ret;exact ⟨D8 Hm.1.symm,Bw⟩
  case pos =>
  subst hc2;go_wp2_with fail;refine (HC.1 c d c a Hc.1 Hd.1 Hc.1 Ha.1 _).mono ?_;rintro e w5 ⟨rfl,hb5⟩;replace Bw:=bT Bw hb5;replace X4:=X4.keep hb5;replace X5:=X5.keep hb5;replace X6:=X6.keep hb5;replace X7:=X7.keep hb5;clear hb5
  try clear Bg CO CU
  try clear DI DJ DU
  try clear FU FV FW
  try clear EJ EK F7
  try clear Bg CO CU
  obtain ⟨Bg,CO,CU,-⟩:=X4.Bl
  try clear DI DJ DU
  obtain ⟨DI,DJ,DU,-⟩:=X5.Bl
  try clear FU FV FW
  obtain ⟨FU,FV,FW,-⟩:=X6.Bl
  try clear EJ EK F7
  obtain ⟨EJ,EK,F7,-⟩:=X7.Bl;generalize BM c d c a=c3 at *;by_cases hc3:c3=0
  case neg =>
   have hm:=Hm.1;rw [AX (fun h=>hc3 h.2.2.1)] at hm;replace Hm:=AB hm;clear hm;have hc':(c3 != 0)=true:=by simpa using hc3
   clear hc3;go_wp2;go_ret;exact ⟨D8 Hm.1.symm,Bw⟩
  case pos =>
  subst hc3;go_wp2_with fail;refine (HC.1 c d c b Hc.1 Hd.1 Hc.1 Hb.1 _).mono ?_;rintro e w6 ⟨rfl,hb6⟩;replace Bw:=bT Bw hb6;replace X4:=X4.keep hb6;replace X5:=X5.keep hb6;replace X6:=X6.keep hb6;replace X7:=X7.keep hb6;clear hb6
  try clear Bg CO CU
  try clear DI DJ DU
  try clear FU FV FW
  try clear EJ EK F7
  try clear Bg CO CU
  obtain ⟨Bg,CO,CU,-⟩:=X4.Bl
  try clear DI DJ DU
  obtain ⟨DI,DJ,DU,-⟩:=X5.Bl
  try clear FU FV FW
  obtain ⟨FU,FV,FW,-⟩:=X6.Bl
  try clear EJ EK F7
  obtain ⟨EJ,EK,F7,-⟩:=X7.Bl;generalize BM c d c b=c4 at *;by_cases hc4:c4=0
  case neg =>
   have hm:=Hm.1;rw [AX (fun h=>hc4 h.2.2.2)] at hm;replace Hm:=AB hm;clear hm;have hc':(c4 != 0)=true:=by simpa using hc4
   clear hc4;go_wp2;go_ret;exact ⟨D8 Hm.1.symm,Bw⟩
  case pos =>
  subst hc4;have hm:=Hm.1;simp only [and_self,if_true] at hm;replace Hm:=AB hm;clear hm;go_wp2_with fail;refine (HS.1 _).mono ?_;rintro e w8 ⟨rfl,hb8⟩;go_wp2;go_ret;exact ⟨D8 Hm.1.symm,bT Bw hb8⟩
 have ayz:(n == 0)=false:=by simpa using hn0
 have hm:=Hm.1;rw [AX hn0] at hm;replace Hm:=AB hm;clear hm;obtain ⟨sb1,sb2⟩:=ae6 a c c d Ha.1 Hc.1 Hc.1 Hd.1;obtain ⟨tb1,tb2⟩:=ae6 a c a b Ha.1 Hc.1 Ha.1 Hb.1;clear hn0;go_upto_region 10 with fail;go_cut [10,11] (fun s t wx=>s=.int .i64 (BM a c c d)/\t=.int .i64 (BM a c a b)/\AU w wx)
 case first =>
  go_region_held3 (fun W=>W.cell? ⟨w.heap.size,0,none⟩=some (.int .i64 a.x)/\W.cell? ⟨w.heap.size,1,none⟩=some (.int .i64 a.y)/\W.cell? ⟨w.heap.size+1,0,none⟩=some (.int .i64 b.x)/\W.cell? ⟨w.heap.size+1,1,none⟩=some (.int .i64 b.y)/\W.cell? ⟨w.heap.size+1+1,0,none⟩=some (.int .i64 c.x)/\W.cell? ⟨w.heap.size+1+1,1,none⟩=some (.int .i64 c.y)/\W.cell? ⟨w.heap.size+1+1+1,0,none⟩=some (.int .i64 d.x)/\W.cell? ⟨w.heap.size+1+1+1,1,none⟩=some (.int .i64 d.y)) ((repeat' apply And.intro)<;>(repeat (refine KL KX ?_))<;>(first | assumption | simp [*]))
   (first | (go_at_call 218;refine (HC.1 _ _ _ _ (by first | exact Ha.1 | exact Hc.1) (by first | exact Hc.1) (by first | exact Hc.1 | exact Ha.1) (by first | exact Hd.1 | exact Hb.1) _).mono ?_;rintro e w' ⟨rfl,hb'⟩))
  go_wp2;go_meet
  case rel =>
  refine ⟨rfl,rfl,?_⟩;exact Dy
 case rest =>
 clear X4 X5 X6 X7 Bw;clear Bg CO CU;clear DI DJ DU;clear FU FV FW;clear EJ EK F7;obtain ⟨rfl,rfl,Bw⟩:=hcut;generalize BM a c c d=s at *;generalize BM a c a b=t at *;by_cases hneg:n<0
 ·have hm:=Hm.1;rw [AZ hneg] at hm;replace Hm:=AB hm;clear hm;go_wp2_with fail
  all_goals (first | (go_ret;refine ⟨D8 ?_,Bw⟩;rw [Hm.1];first | rw [AZ AA] | rw [AX AA]) | (exfalso;omega))
 ·have hm:=Hm.1;rw [AX hneg] at hm;replace Hm:=AB hm;clear hm;go_wp2_with fail
  all_goals (first | (go_ret;refine ⟨D8 ?_,Bw⟩;rw [Hm.1];first | rw [AZ AA] | rw [AX AA]) | (exfalso;omega))
theorem ahQ (a:Int):0<=a*a:=by
 rcases Int.le_total 0 a with h | h
 · exact KY h h
 · exact Int.mul_nonneg_of_nonpos_of_nonpos h h
theorem aoZ {a b:Int}:a*b<=0↔(0<=a/\b<=0)\/(a<=0/\0<=b):=by
 constructor
 ·intro h;by_cases ha:a=0
  · omega
  by_cases hp:0<a
  ·left;refine ⟨AA,?_⟩;by_cases hb:0<b
   · have:=Ji hp hb;omega
   · omega
  ·right;refine ⟨AA,?_⟩;by_cases hb:b<0
   · have:=qZ (show a<0 by omega) hb;omega
   · omega
 ·rintro (⟨ha,hb⟩ | ⟨ha,hb⟩)
  · exact acp ha hb
  · exact yR ha hb
theorem aaR {p a b:Int}:(p-a)*(p-b)<=0↔min a b<=p/\p<=max a b:=by
 rw [aoZ];omega
theorem aoa {ux uy vx vy:Int} (hc:ux*vy=uy*vx):ux*vx+uy*vy<=0↔ux*vx<=0/\uy*vy<=0:=by
 constructor
 ·intro h;have hp:0<=(ux*vx)*(uy*vy):=by
   have e:(ux*vx)*(uy*vy)=(ux*vy)*(ux*vy):=by grind
   rw [e];exact ahQ _
  by_cases h1:0<ux*vx
  · have:=WE h1 (show uy*vy<0 by omega);omega
  ·by_cases h2:0<uy*vy
   · have:=Uf (show ux*vx<0 by omega) h2;omega
   · omega
 · omega
theorem parallel {ux uy vx vy wx wy:Int} (h:¬ (ux=0/\uy=0)) (h1:ux*vy-uy*vx=0) (h2:ux*wy-uy*wx=0):vx*wy-vy*wx=0:=by
 have e1:ux*(vx*wy-vy*wx)=0:=by grind
 have e2:uy*(vx*wy-vy*wx)=0:=by grind
 rcases WG.1 e1 with h3 | h3
 ·rcases WG.1 e2 with h4 | h4
  · exact absurd ⟨h3,h4⟩ h
  · exact h4
 · exact h3
theorem ae7 (a b p:Pt):Ee a b p=LQ a b p:=by
 unfold Ee LQ
 cases EO [a,b,p]
 · rfl
 have hc:BM a b a p=tw a b p:=rfl;rw [hc];by_cases h:tw a b p=0
 ·simp only [h,decide_true,kK,Bool.and_assoc];rw [Jh];simp only [ER,Dq];unfold Xa;rw [aoa (by unfold tw at h;grind),aaR,aaR];omega
 · simp [h]
theorem MX (a b:Pt):BP a b=true↔a.x<b.x\/(a.x=b.x/\a.y<b.y):=by simp [BP]
theorem U4 (a:Pt):BP a a=false:=by rw [<- IL,MX];omega
theorem PN {a b:Pt} (h:BP a b=true):BP b a=false:=by
 rw [<- IL,MX];rw [MX] at h;omega
theorem Wv {a b:Pt} (h:BP a b=false) (h':BP b a=false):a=b:=by
 rw [<- IL,MX] at h h';rw [Pt.ext_iff'];omega
def lo (a b:Pt):Pt:=if BP b a then b else a
def hi (a b:Pt):Pt:=if BP b a then a else b
theorem adM (a b:Pt):lo a b=lo b a:=by
 unfold lo
 cases h:BP b a<;>cases h':BP a b<;>simp
 · exact Wv h' h
 · exact absurd (PN h) (by simp [h'])
theorem aaS (a b:Pt):hi a b=hi b a:=by
 unfold hi
 cases h:BP b a<;>cases h':BP a b<;>simp
 · exact (Wv h' h).symm
 · exact absurd (PN h) (by simp [h'])
theorem V7 (a b c d:Pt):KN a b c d=if hi (lo a b) (lo c d)=lo (hi a b) (hi c d) then 1 else if BP (hi (lo a b) (lo c d)) (lo (hi a b) (hi c d)) then 2 else 0:=by
 have e1:∀ p q:Pt,(if BP p q then q else p)=hi p q:=fun p q=>by
  unfold hi;cases h:BP q p<;>cases h':BP p q<;>simp
  · exact Wv h' h
  · exact absurd (PN h) (by simp [h'])
 have e2:∀ p q:Pt,(if BP q p then q else p)=lo p q:=fun p q=>rfl;have e3:∀ p q:Pt,(if BP q p then p else q)=hi p q:=fun p q=>rfl;unfold KN;simp only [e2,e3,e1];rw [aaS (lo c d) (lo a b)]
theorem Wx (a b c d:Pt):KN a b c d=KN c d a b:=by
 rw [V7 a b c d,aaS (lo a b) (lo c d),adM (hi a b) (hi c d),<- V7]
theorem lI (a b c d:Pt):KN a b c d=KN b a c d:=by
 rw [V7,V7,adM a b,aaS a b]
theorem Xz (c d:Pt):(lo c d=c/\hi c d=d/\BP d c=false)\/(lo c d=d/\hi c d=c/\BP d c=true):=by
 unfold lo hi
 cases h:BP d c<;>simp
theorem adN (c d a:Pt) (hcd:c≠d) (h:tw c d a=0) :
  (min c.x d.x<=a.x/\a.x<=max c.x d.x/\min c.y d.y<=a.y/\a.y<=max c.y d.y)↔(BP a (lo c d)=false/\BP (hi c d) a=false):=by
 have hne:¬ (c.x=d.x/\c.y=d.y):=fun e=>hcd (Pt.ext_iff'.2 e);unfold tw at h;have hp:(a.x-c.x)*(a.y-d.y)=(a.y-c.y)*(a.x-d.x):=by grind
 have hs:0<=((a.x-c.x)*(a.x-d.x))*((a.y-c.y)*(a.y-d.y)):=by
  have e:((a.x-c.x)*(a.x-d.x))*((a.y-c.y)*(a.y-d.y))=((a.x-c.x)*(a.y-d.y))*((a.x-c.x)*(a.y-d.y)):=by grind
  rw [e];exact ahQ _
 have b1:(a.x-c.x)*(a.x-d.x)<=0↔min c.x d.x<=a.x/\a.x<=max c.x d.x:=aaR;have b2:(a.y-c.y)*(a.y-d.y)<=0↔min c.y d.y<=a.y/\a.y<=max c.y d.y:=aaR;have k1:a.x=c.x->(d.x-c.x)*(a.y-c.y)=0:=fun e=>by rw [e] at h;grind
 have k2:a.x=d.x->(d.x-c.x)*(a.y-d.y)=0:=fun e=>by rw [e] at h;grind
 have k3:(a.x-c.x)*(a.x-d.x)<0->(a.y-c.y)*(a.y-d.y)<=0:=fun e=>by
  by_cases hy:0<(a.y-c.y)*(a.y-d.y)
  · have:=Uf e hy;omega
  · omega
 rw [<- IL,<- IL,MX,MX];by_cases hx:c.x=d.x
 ·have hax:a.x=c.x\/¬ a.x=c.x:=Classical.em _;have hz:a.x=c.x:=by
   have:(d.y-c.y)*(a.x-c.x)=0:=by rw [hx] at h ⊢;grind
   rcases WG.1 this with e | e
   · exact absurd ⟨hx,AA⟩ hne
   · omega
  have hl:=Xz c d;rcases hl with ⟨e1,e2,e3⟩ | ⟨e1,e2,e3⟩<;>rw [e1,e2]
  · rw [<- IL,MX] at e3;omega
  · rw [MX] at e3;omega
 ·have k1':a.x=c.x->a.y=c.y:=fun e=>by
   rcases WG.1 (k1 e) with f | f<;>omega
  have k2':a.x=d.x->a.y=d.y:=fun e=>by
   rcases WG.1 (k2 e) with f | f<;>omega
  have k3':(min c.x d.x<a.x/\a.x<max c.x d.x)->min c.y d.y<=a.y/\a.y<=max c.y d.y:=fun e=>by
   refine b2.1 (k3 ?_);rcases Int.lt_or_gt_of_ne hx with f | f
   · exact WE AA AA
   · exact Uf AA AA
  have hl:=Xz c d;clear h hp hs b1 b2 k1 k2 k3;rcases hl with ⟨e1,e2,e3⟩ | ⟨e1,e2,e3⟩<;>rw [e1,e2]
  · rw [<- IL,MX] at e3;omega
  · rw [MX] at e3;omega
theorem ahR (c d a:Pt) (hcd:c≠d) (h:tw c d a=0):KN a a c d=if (min c.x d.x<=a.x/\a.x<=max c.x d.x/\min c.y d.y<=a.y/\a.y<=max c.y d.y) then 1 else 0:=by
 have hl:lo a a=a:=by simp [lo]
 have hh:hi a a=a:=by simp [hi]
 have hb:=adN c d a hcd h;rw [V7,hl,hh];generalize hC:lo c d=C at *;generalize hD:hi c d=D at *;have hCD:BP D C=false:=by
  rcases Xz c d with ⟨e1,e2,e3⟩ | ⟨e1,e2,e3⟩<;>rw [<- hC,<- hD,e1,e2]
  · exact e3
  · exact PN e3
 by_cases hin:BP a C=false/\BP D a=false
 ·rw [AZ (hb.2 hin)];have e1:hi a C=a:=by
   unfold hi;cases h':BP C a<;>simp;exact (Wv hin.1 h').symm
  have e2:lo a D=a:=by unfold lo;rw [hin.2];rfl
  rw [e1,e2];simp
 ·rw [AX (fun e=>hin (hb.1 e))]
  cases h1:BP a C
  ·have h2:BP D a=true:=by simpa [h1] using hin
   have e2:lo a D=D:=by unfold lo;rw [h2];rfl
   have e1:hi a C=a:=by
    unfold hi;cases h':BP C a<;>simp;exact (Wv h1 h').symm
   rw [e1,e2,AX (fun e=>by rw [e,U4] at h2;cases h2),PN h2];rfl
  ·have e1:hi a C=C:=by unfold hi;rw [PN h1];rfl
   have h2:BP D a=false:=by
    rw [<- IL,MX] at hCD ⊢;rw [MX] at h1;omega
   have e2:lo a D=a:=by unfold lo;rw [h2];rfl
   rw [e1,e2,AX (fun e=>by rw [e,U4] at h1;cases h1),PN h1];rfl
theorem Pt.aaT {a b:Pt} (h:a≠b):¬ (b.x-a.x=0/\b.y-a.y=0):=fun e=>h (Pt.ext_iff'.2 ⟨AA,AA⟩)
theorem ahS {a b c:Pt} (h:EO [a,b,c]=true):Fh a b c=0↔tw a b c=0:=by
 unfold Fh XZ;rw [AZ h];split
 · omega
 · split<;>omega
theorem ahT {a b c d e f:Pt} (h1:EO [a,b,c]=true) (h2:EO [d,e,f]=true):Fh a b c*Fh d e f<=0↔(0<=tw a b c/\tw d e f<=0)\/(tw a b c<=0/\0<=tw d e f):=by
 unfold Fh XZ;rw [AZ h1,AZ h2];generalize tw a b c=p;generalize tw d e f=q;split<;>split<;>(try split)<;>(try split)<;>simp<;>omega
theorem rV (a b c d:Pt):JR a b c d=Fz a b c d:=by
 unfold JR Fz;by_cases hn:EO [a,b,c,d]=true
 case neg => rw [AX hn,AX hn]
 rw [AZ hn,AZ hn];have hn':CJ a=true/\CJ b=true/\CJ c=true/\CJ d=true:=by simpa [EO] using hn
 obtain ⟨na,nb,nc,nd⟩:=hn';have nn:∀ p q r:Pt,CJ p=true->CJ q=true->CJ r=true->EO [p,q,r]=true:=fun p q r h1 h2 h3=>by simp [EO,h1,h2,h3]
 unfold N9;by_cases hab:a=b
 ·subst hab;rw [AZ rfl];have c0:BM a a c d=0:=by unfold BM;grind
  have c1:BM a a a c=0:=by unfold BM;grind
  have c2:BM a a a d=0:=by unfold BM;grind
  by_cases hcd:c=d
  ·subst hcd;have hon:Ee c c a=decide (a=c):=by
    unfold Ee tw;rw [nn c c a nc nc na,Jh];simp only [ER,Dq,kK,Pt.ext_iff']
    grind
   rw [hon];by_cases hac:a=c
   ·subst hac;have hl:lo a a=a:=by simp [lo]
    have hh:hi a a=a:=by simp [hi]
    have:KN a a a a=1:=by rw [V7,hl,hh,hl];simp
    simp [c0,this]
   · simp [hac]
  ·rw [AX (show ¬ (a=a/\c=d/\¬ a=c) from fun e=>hcd e.2.1),AZ c0];have ct:BM c d c a=tw c d a:=rfl;unfold Ee;rw [nn c d a nc nd na];by_cases ht:tw c d a=0
   ·rw [AZ (show BM a a a c=0/\BM a a a d=0/\BM c d c a=0/\BM c d c a=0 from ⟨c1,c2,ht,ht⟩),ahR c d a hcd ht];simp only [ht,decide_true,kK,ER,Dq,and_assoc]
   ·rw [AX (show ¬ (BM a a a c=0/\BM a a a d=0/\BM c d c a=0/\BM c d c a=0) from fun e=>ht e.2.2.1)];simp [ht]
 rw [AX hab];by_cases hcd:c=d
 ·subst hcd;rw [AZ rfl];have c0:BM a b c c=0:=by unfold BM;grind
  have c1:BM c c c a=0:=by unfold BM;grind
  have c2:BM c c c b=0:=by unfold BM;grind
  rw [AX (show ¬ (a=b/\c=c/\¬ a=c) from fun e=>hab e.1),AZ c0];unfold Ee;rw [nn a b c na nb nc];have ct:BM a b a c=tw a b c:=rfl;by_cases ht:tw a b c=0
  ·rw [AZ (show BM a b a c=0/\BM a b a c=0/\BM c c c a=0/\BM c c c b=0 from ⟨ht,ht,c1,c2⟩),Wx,ahR a b c hab ht];simp only [ht,decide_true,kK,ER,Dq,and_assoc]
  ·rw [AX (show ¬ (BM a b a c=0/\BM a b a c=0/\BM c c c a=0/\BM c c c b=0) from fun e=>ht e.1)];simp [ht]
 rw [AX hcd,AX (show ¬ (a=b/\c=d/\¬ a=c) from fun e=>hab e.1)];have e1:BM a b a c=tw a b c:=rfl;have e2:BM a b a d=tw a b d:=rfl;have e0:BM a b c d=tw a b d-tw a b c:=by unfold BM tw;grind
 have es:BM a c c d=tw c d a:=by unfold BM tw;grind
 have es2:tw c d b=tw c d a-BM a b c d:=by unfold BM tw;grind
 have et:BM a c a b=- tw a b c:=by unfold BM tw;grind
 simp only [ahS (nn a b c na nb nc),ahS (nn a b d na nb nd)];by_cases hz:tw a b c=0/\tw a b d=0
 ·obtain ⟨z1,z2⟩:=hz;have p1:BM c d c a=0:=by
   unfold BM;refine parallel (Pt.aaT hab) ?_ ?_
   · unfold tw at z1 z2;grind
   · unfold tw at z1 z2;grind
  have p2:BM c d c b=0:=by
   unfold BM;refine parallel (Pt.aaT hab) ?_ ?_
   · unfold tw at z1 z2;grind
   · unfold tw at z1 z2;grind
  rw [AZ (show tw a b c=0/\tw a b d=0 from ⟨z1,z2⟩),AZ (show BM a b c d=0 by rw [e0,z1,z2];rfl),AZ (show BM a b a c=0/\BM a b a d=0/\BM c d c a=0/\BM c d c b=0 from ⟨z1,z2,p1,p2⟩)]
 ·rw [AX hz];simp only [ahT (nn a b c na nb nc) (nn a b d na nb nd),ahT (nn c d a nc nd na) (nn c d b nc nd nb),es2,et,es];generalize BM a b c d=n at *;generalize tw c d a=s at *;by_cases hn0:n=0
  ·rw [AZ hn0,AX (show ¬ (BM a b a c=0/\BM a b a d=0/\BM c d c a=0/\BM c d c b=0) from fun e=>hz ⟨e.1,e.2.1⟩),AX];omega
  ·rw [AX hn0];by_cases hneg:n<0
   ·rw [AZ hneg];have:(((0<=tw a b c/\tw a b d<=0\/tw a b c<=0/\0<=tw a b d)/\(0<=s/\s-n<=0\/s<=0/\0<=s-n))↔(0<=-s/\-s<=-n/\0<=- -tw a b c/\- -tw a b c<=-n)):=AA
    simp only [this]
   ·rw [AX hneg];have:(((0<=tw a b c/\tw a b d<=0\/tw a b c<=0/\0<=tw a b d)/\(0<=s/\s-n<=0\/s<=0/\0<=s-n))↔(0<=s/\s<=n/\0<=-tw a b c/\-tw a b c<=n)):=AA
    simp only [this]
structure Sg where
 arc:Ar
 i:Nat
 n:Nat
 a:Pt
 b:Pt
structure SV where
 a:Option Addr
 n:Nat
 c:Nat
def Y0 (s:Sg×SV):List Value:=[.int .i64 s.1.arc.id,.int .i64 s.1.arc.fr,.int .i64 s.1.arc.dst,.slice s.2.a s.2.n s.2.c,.int .i64 s.1.arc.left,.int .i64 s.1.arc.right,.int .i64 s.1.i,.int .i64 s.1.n,.int .i64 s.1.a.x,.int .i64 s.1.a.y,.int .i64 s.1.b.x,.int .i64 s.1.b.y]
def Qv (s:Sg) (v:Value):Value:=.agg #[.int .i64 s.arc.id,.int .i64 s.arc.fr,.int .i64 s.arc.dst,v,.int .i64 s.arc.left,.int .i64 s.arc.right,.int .i64 s.i,.int .i64 s.n,.int .i64 s.a.x,.int .i64 s.a.y,.int .i64 s.b.x,.int .i64 s.b.y]
theorem AO.Ru {w:World} {g:Nat} {t:TypeId} {v0 v1 v2 v3 v4 v5 v6 v7 v8 v9 v10 v11:Value} (h:AO w g t #[v0,v1,v2,v3,v4,v5,v6,v7,v8,v9,v10,v11]) :
  g<w.heap.size/\w.cell? ⟨g,0,none⟩=some v0/\w.cell? ⟨g,1,none⟩=some v1/\w.cell? ⟨g,2,none⟩=some v2/\w.cell? ⟨g,3,none⟩=some v3/\w.cell? ⟨g,4,none⟩=some v4/\w.cell? ⟨g,5,none⟩=some v5/\w.cell? ⟨g,6,none⟩=some v6/\w.cell? ⟨g,7,none⟩=some v7/\w.cell? ⟨g,8,none⟩=some v8/\w.cell? ⟨g,9,none⟩=some v9/\w.cell? ⟨g,10,none⟩=some v10/\w.cell? ⟨g,11,none⟩=some v11 /\
  w.frozen? ⟨g,0,none⟩=false/\w.frozen? ⟨g,1,none⟩=false/\w.frozen? ⟨g,2,none⟩=false/\w.frozen? ⟨g,3,none⟩=false/\w.frozen? ⟨g,4,none⟩=false/\w.frozen? ⟨g,5,none⟩=false/\w.frozen? ⟨g,6,none⟩=false/\w.frozen? ⟨g,7,none⟩=false/\w.frozen? ⟨g,8,none⟩=false/\w.frozen? ⟨g,9,none⟩=false/\w.frozen? ⟨g,10,none⟩=false/\w.frozen? ⟨g,11,none⟩=false :=
 ⟨h.lt,h.cell 0,h.cell 1,h.cell 2,h.cell 3,h.cell 4,h.cell 5,h.cell 6,h.cell 7,h.cell 8,h.cell 9,h.cell 10,h.cell 11,h.frozen 0,h.frozen 1,h.frozen 2,h.frozen 3,h.frozen 4,h.frozen 5,h.frozen 6,h.frozen 7,h.frozen 8,h.frozen 9,h.frozen 10,h.frozen 11⟩
def V8 (a:Ar) (id:Int):Bool:=a.fr == id || a.dst == id
theorem aob (a:Ar) (A:Option Addr) (n c:Nat) (id:Int) (w:World) :
  Calls prog 176 #[.agg #[.int .i64 a.id,.int .i64 a.fr,.int .i64 a.dst,.slice A n c,.int .i64 a.left,.int .i64 a.right],.int .i64 id] w fun e w'=>e=.returned (.bool (V8 a id))/\AU w w':=by
 unfold V8
 cases h1:(a.fr == id)
 ·cases h2:(a.dst == id)
  all_goals
   go_enter func176,ntmps176;go_wp2;go_ret;exact ⟨rfl,bA (bR w) _⟩
 ·go_enter func176,ntmps176;go_wp2;go_ret;exact ⟨rfl,bA (bR w) _⟩
def Rw (s t:Sg):Bool:=if t.i=s.i+1\/(s.i=0/\t.i+1=t.n/\s.arc.fr=s.arc.dst) then Fz s.a s.b t.a t.b == 1 else Fz s.a s.b t.a t.b == 0
theorem apart_spec (s t:Sg) (A A':Option Addr) (n n' c c':Nat) (w:World) (hs:s.i<=2097152) (ht:t.n<=2097152) (ht':1<=t.n) :
  Calls prog 130 #[Qv s (.slice A n c),Qv t (.slice A' n' c')] w fun e w'=>e=.returned (.bool (Rw s t))/\AU w w':=by
 have TM:∀ W,Calls prog 175 #[BA s.a,BA s.b,BA t.a,BA t.b] W _:=fun W=>ahP s.a s.b t.a t.b W;unfold BA at TM;have HM:=AB TM;clear TM;unfold Qv;obtain ⟨q,hq⟩:=BI (Rw s t);rw [hq];unfold Rw at hq;have Hq:=AB hq;clear hq;go_enter func130,ntmps130;go_wp2_with fail;refine (HM.1 _).mono ?_;rintro e w1 ⟨rfl,hb1⟩;have Bw:AU w w1:=by
  exact Dy
 have X2:AO _ (w.heap.size) 168 #[.int .i64 s.arc.id,.int .i64 s.arc.fr,.int .i64 s.arc.dst,.slice A n c,.int .i64 s.arc.left,.int .i64 s.arc.right,.int .i64 s.i,.int .i64 s.n,.int .i64 s.a.x,.int .i64 s.a.y,.int .i64 s.b.x,.int .i64 s.b.y]:=AO.keep (by repeat (first | exact AO.made Ah _ _ | refine AO.alloc ?_ _)) hb1;have X3:AO _ (w.heap.size+1) 168 #[.int .i64 t.arc.id,.int .i64 t.arc.fr,.int .i64 t.arc.dst,.slice A' n' c',.int .i64 t.arc.left,.int .i64 t.arc.right,.int .i64 t.i,.int .i64 t.n,.int .i64 t.a.x,.int .i64 t.a.y,.int .i64 t.b.x,.int .i64 t.b.y]:=AO.keep (by repeat (first | exact AO.made Ah _ _ | refine AO.alloc ?_ _)) hb1;clear hb1;generalize Fz s.a s.b t.a t.b=m at *;obtain ⟨Bh,Bq,Bv,CS,X2d,X2e,X2f,X2g,X2h,X2i,X2j,X2k,Bh,-⟩:=X2.Ru;obtain ⟨Dk,EI,EN,Gv,PG,PI,PK,U5,U6,U7,U8,Tm,Dk,-⟩:=X3.Ru
 cases h1:((t.i:Int) == (s.i:Int)+1)
 case true =>
  have hf:=AB (show (m == 1)=q by rw [<- Hq.1,AZ];left;have:=eq_of_beq h1;omega);go_wp2;go_ret;exact ⟨CP hf.1,Bw⟩
 case false =>
  cases h2:((s.i:Int) == 0)
  case false =>
   have hf:=AB (show (m == 0)=q by rw [<- Hq.1,AX];simp only [beq_eq_false_iff_ne] at h1 h2;omega);go_wp2;go_ret;exact ⟨CP hf.1,Bw⟩
  case true =>
   cases h3:((t.i:Int) == (t.n:Int)-1)
   case false =>
    have hf:=AB (show (m == 0)=q by rw [<- Hq.1,AX];simp only [beq_eq_false_iff_ne,beq_iff_eq] at h1 h2 h3;omega);go_wp2;go_ret;exact ⟨CP hf.1,Bw⟩
   case true =>
    cases h4:(s.arc.fr == s.arc.dst)
    case false =>
     have hf:=AB (show (m == 0)=q by rw [<- Hq.1,AX];simp only [beq_eq_false_iff_ne,beq_iff_eq] at h1 h2 h3 h4;omega);go_wp2;go_ret;exact ⟨CP hf.1,Bw⟩
    case true =>
     have hf:=AB (show (m == 1)=q by rw [<- Hq.1,AZ];simp only [beq_eq_false_iff_ne,beq_iff_eq] at h1 h2 h3 h4;omega);go_wp2;go_ret;exact ⟨CP hf.1,Bw⟩
