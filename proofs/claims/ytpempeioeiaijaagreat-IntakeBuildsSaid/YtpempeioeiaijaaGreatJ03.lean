import Derived.Test.YtpempeioeiaijaaGreatJ02
set_option linter.unusedSimpArgs false
set_option linter.unusedVariables false
set_option maxRecDepth 100000
set_option maxHeartbeats 8000000
namespace Go.Proofs.YtpempeioeiaijaaGreat
open Go.RowKit Tryz
def Og (s t:Sg) (x:Nd):Bool:=V8 s.arc x.id && V8 t.arc x.id && LQ s.a s.b x.pt && LQ t.a t.b x.pt
def Oh (p:Pl) (s t:Sg):Bool:=if Fz s.a s.b t.a t.b=1 then p.nodes.any (Og s t) else Fz s.a s.b t.a t.b == 0
theorem aoc (v:Value) (p:Pl) (s t:Sg) (A A':Option Addr) (n n' c c':Nat) (w:World) (h:D6 w v p) :
  Calls prog 131 #[v,Qv s (.slice A n c),Qv t (.slice A' n' c')] w fun e w'=>e=.returned (.bool (Oh p s t))/\AU w w':=by
 have TM:∀ W,Calls prog 175 #[BA s.a,BA s.b,BA t.a,BA t.b] W _:=fun W=>ahP s.a s.b t.a t.b W;have TE:∀ (a:Ar) (A:Option Addr) (n c:Nat) (id:Int) W,Calls prog 176 #[.agg #[.int .i64 a.id,.int .i64 a.fr,.int .i64 a.dst,.slice A n c,.int .i64 a.left,.int .i64 a.right],.int .i64 id] W _:=fun a A n c id W=>aob a A n c id W;have TO:∀ p q r:Pt,∀ W,Calls prog 174 #[BA p,BA q,BA r] W _:=fun p q r W=>ai9 p q r W;unfold BA at TM TO;have HM:=AB TM;clear TM;have HE:=AB TE;clear TE;have HO:=AB TO;clear TO;obtain ⟨_,va,vf,al,rfl,-,⟨An,cn,rfl,hn1,hn2,hR⟩,-⟩:=h;unfold maxLen at hn2;have HR:=AB hR;clear hR;unfold Qv;obtain ⟨q,hq⟩:=BI (Oh p s t);rw [hq];unfold Oh at hq;generalize p.nodes=l at *;have Hq:=AB hq;clear hq;go_enter func131,ntmps131;go_wp2_with fail;refine (HM.1 _).mono ?_;rintro e w1 ⟨rfl,hb1⟩;have Bw:AU w w1:=by
  exact Dy
 have X2:AO _ (w.heap.size) 34 #[.slice An l.length cn,va,vf]:=AO.keep (by repeat (first | exact AO.made Ah _ _ | refine AO.alloc ?_ _)) hb1;have X3:AO _ (w.heap.size+1) 168 #[.int .i64 s.arc.id,.int .i64 s.arc.fr,.int .i64 s.arc.dst,.slice A n c,.int .i64 s.arc.left,.int .i64 s.arc.right,.int .i64 s.i,.int .i64 s.n,.int .i64 s.a.x,.int .i64 s.a.y,.int .i64 s.b.x,.int .i64 s.b.y]:=AO.keep (by repeat (first | exact AO.made Ah _ _ | refine AO.alloc ?_ _)) hb1;have X4:AO _ (w.heap.size+1+1) 168 #[.int .i64 t.arc.id,.int .i64 t.arc.fr,.int .i64 t.arc.dst,.slice A' n' c',.int .i64 t.arc.left,.int .i64 t.arc.right,.int .i64 t.i,.int .i64 t.n,.int .i64 t.a.x,.int .i64 t.a.y,.int .i64 t.b.x,.int .i64 t.b.y]:=AO.keep (by repeat (first | exact AO.made Ah _ _ | refine AO.alloc ?_ _)) hb1;clear hb1;generalize Fz s.a s.b t.a t.b=m at *;by_cases h1:m=1
 case neg =>
  have hf:=AB (show (m == 0)=q by rw [<- Hq.1,AX h1]);have h1':(m != 1)=true:=by simpa using h1
  clear h1;go_wp2;go_ret;exact ⟨CP hf.1,Bw⟩
 subst h1;have hf:=AB (show l.any (Og s t)=q by rw [<- Hq.1,AZ rfl]);clear Hq;obtain ⟨DC,EY,DL,HB⟩:=DW X2 X3 X4 Bw;clear X2 X3 X4 Bw;go_wp2_with fail;go_loopw [8] (fun i wr=>∃ k:Nat,k<=l.length/\i=.int .i64 k/\AU w1 wr/\∀ j (hj:j<l.length),j<k->Og s t l[j]=false) (fun i _=>l.length-(intOf i).toNat)
 case atStart => exact ⟨0,BX _,rfl,bR w1,fun j _ h=>AA⟩
 case round =>
  obtain ⟨k,hk,rfl,hb,hno⟩:=hrel;have Hb:=AB hb;have Hno:=AB hno;have X2:=DC.1.keep hb;have X3:=EY.1.keep hb;have X4:=DL.1.keep hb;clear hb hno;obtain ⟨Bh,Bq,Bv,CS,-⟩:=X2.Az;obtain ⟨Dk,EI,EN,Gv,PG,PI,PK,U5,U6,U7,U8,Tm,Dk,-⟩:=X3.Ru;obtain ⟨Bg,CO,CU,ES,LU,LV,LW,Zr,Zt,Zu,Zv,Zw,Bg,-⟩:=X4.Ru;by_cases hlt:k<l.length
  case neg =>
   have hg:=AB (SS l (Og s t) (fun j hj=>Hno.1 j hj AA));go_wp2;go_ret;exact ⟨CP (by rw [<- hf.1,hg.1]),bT HB.1 Hb.1⟩
  obtain ⟨b,o,rfl,hlb,c0,c1,c2⟩:=(HR.1.mono (bT HB.1 Hb.1)).nd hlt;have hx:=AB (show Og s t l[k]=(V8 s.arc l[k].id && V8 t.arc l[k].id && LQ s.a s.b l[k].pt && LQ t.a t.b l[k].pt) from rfl);go_wp2_with fail;refine (HE.1 _ _ _ _ _ _).mono ?_;rintro e w2 ⟨rfl,hb2⟩;have B2:AU w1 w2:=bT (bA Hb.1 _) hb2;have X5:AO w2 wr.heap.size 47 #[.int .i64 l[k].id,.int .i64 l[k].pt.x,.int .i64 l[k].pt.y]:=(AO.made rfl _ _).keep hb2;replace X2:=(X2.alloc _).keep hb2;replace X3:=(X3.alloc _).keep hb2;replace X4:=(X4.alloc _).keep hb2;clear hb2 c0 c1 c2 hlb
  try clear Bh Bq Bv CS
  obtain ⟨Bh,Bq,Bv,CS,-⟩:=X2.Az
  try clear Dk EI EN Gv PG PI PK U5 U6 U7 U8 Tm Dk
  obtain ⟨Dk,EI,EN,Gv,PG,PI,PK,U5,U6,U7,U8,Tm,Dk,-⟩:=X3.Ru
  try clear Bg CO CU ES LU LV LW Zr Zt Zu Zv Zw Bg
  obtain ⟨Bg,CO,CU,ES,LU,LV,LW,Zr,Zt,Zu,Zv,Zw,Bg,-⟩:=X4.Ru;obtain ⟨DI,DJ,DU,IJ,-⟩:=X5.Az
  cases e1:V8 s.arc l[k].id
  case false =>
   have hy:=AB (show Og s t l[k]=false by rw [hx.1,e1];rfl);clear e1;go_wp2;go_roundw
   case rel => exact ⟨k+1,AA,BG,B2,all_succ (p:=fun x=>Og s t x=false) Hno.1 hlt hy.1⟩
   case measure => exact BH
  have H1:=AB e1;clear e1;go_wp2_with fail;refine (HE.1 _ _ _ _ _ _).mono ?_;rintro e w3 ⟨rfl,hb3⟩;replace B2:AU w1 w3:=bT B2 hb3;replace X2:=X2.keep hb3;replace X3:=X3.keep hb3;replace X4:=X4.keep hb3;replace X5:=X5.keep hb3;clear hb3
  try clear Bh Bq Bv CS
  obtain ⟨Bh,Bq,Bv,CS,-⟩:=X2.Az
  try clear Dk EI EN Gv PG PI PK U5 U6 U7 U8 Tm Dk
  obtain ⟨Dk,EI,EN,Gv,PG,PI,PK,U5,U6,U7,U8,Tm,Dk,-⟩:=X3.Ru
  try clear Bg CO CU ES LU LV LW Zr Zt Zu Zv Zw Bg
  obtain ⟨Bg,CO,CU,ES,LU,LV,LW,Zr,Zt,Zu,Zv,Zw,Bg,-⟩:=X4.Ru
  try clear DI DJ DU IJ
  obtain ⟨DI,DJ,DU,IJ,-⟩:=X5.Az
  cases e2:V8 t.arc l[k].id
  case false =>
   have hy:=AB (show Og s t l[k]=false by rw [hx.1,e2];simp);clear e2;go_wp2;go_roundw
   case rel => exact ⟨k+1,AA,BG,B2,all_succ (p:=fun x=>Og s t x=false) Hno.1 hlt hy.1⟩
   case measure => exact BH
  have H2:=AB e2;clear e2;go_wp2_with fail;refine (HO.1 s.a s.b l[k].pt _).mono ?_;rintro e w4 ⟨rfl,hb4⟩;replace B2:AU w1 w4:=bT B2 hb4;replace X2:=X2.keep hb4;replace X3:=X3.keep hb4;replace X4:=X4.keep hb4;replace X5:=X5.keep hb4;clear hb4
  try clear Bh Bq Bv CS
  obtain ⟨Bh,Bq,Bv,CS,-⟩:=X2.Az
  try clear Dk EI EN Gv PG PI PK U5 U6 U7 U8 Tm Dk
  obtain ⟨Dk,EI,EN,Gv,PG,PI,PK,U5,U6,U7,U8,Tm,Dk,-⟩:=X3.Ru
  try clear Bg CO CU ES LU LV LW Zr Zt Zu Zv Zw Bg
  obtain ⟨Bg,CO,CU,ES,LU,LV,LW,Zr,Zt,Zu,Zv,Zw,Bg,-⟩:=X4.Ru
  try clear DI DJ DU IJ
  obtain ⟨DI,DJ,DU,IJ,-⟩:=X5.Az
  cases e3:LQ s.a s.b l[k].pt
  case false =>
   have hy:=AB (show Og s t l[k]=false by rw [hx.1,e3];simp);clear e3;go_wp2;go_roundw
   case rel => exact ⟨k+1,AA,BG,B2,all_succ (p:=fun x=>Og s t x=false) Hno.1 hlt hy.1⟩
   case measure => exact BH
  have H3:=AB e3;clear e3;go_wp2_with fail;refine (HO.1 t.a t.b l[k].pt _).mono ?_;rintro e w5 ⟨rfl,hb5⟩;replace B2:AU w1 w5:=bT B2 hb5;replace X2:=X2.keep hb5;replace X3:=X3.keep hb5;replace X4:=X4.keep hb5;replace X5:=X5.keep hb5;clear hb5
  try clear Bh Bq Bv CS
  obtain ⟨Bh,Bq,Bv,CS,-⟩:=X2.Az
  try clear Dk EI EN Gv PG PI PK U5 U6 U7 U8 Tm Dk
  obtain ⟨Dk,EI,EN,Gv,PG,PI,PK,U5,U6,U7,U8,Tm,Dk,-⟩:=X3.Ru
  try clear Bg CO CU ES LU LV LW Zr Zt Zu Zv Zw Bg
  obtain ⟨Bg,CO,CU,ES,LU,LV,LW,Zr,Zt,Zu,Zv,Zw,Bg,-⟩:=X4.Ru
  try clear DI DJ DU IJ
  obtain ⟨DI,DJ,DU,IJ,-⟩:=X5.Az
  cases e4:LQ t.a t.b l[k].pt
  case false =>
   have hy:=AB (show Og s t l[k]=false by rw [hx.1,e4];simp);clear e4;go_wp2;go_roundw
   case rel => exact ⟨k+1,AA,BG,B2,all_succ (p:=fun x=>Og s t x=false) Hno.1 hlt hy.1⟩
   case measure => exact BH
  have hg:=AB (QX l (Og s t) k hlt (by rw [hx.1,H1.1,H2.1,H3.1,e4];rfl));clear e4;go_wp2;go_ret;exact ⟨CP (by rw [<- hf.1,hg.1]),bT HB.1 B2⟩
def Qw (s:Sg) (x:Nd):Bool:=(((s.i:Int) == 0) && (s.arc.fr == x.id)) || (((s.i:Int) == (s.n:Int)-1) && (s.arc.dst == x.id))
def Qx (s:Sg) (x:Nd):Bool:=Qw s x || !LQ s.a s.b x.pt
def Tn (s:Sg):Bool:=!decide (s.a=s.b) && (s.arc.fr != s.arc.dst || decide (3<=(s.n:Int)))
def Px (p:Pl) (s:Sg):Bool:=p.nodes.all (Qx s) && Tn s
theorem Y3 {α:Type} (l:List α) (q:α->Bool) (k:Nat) (hk:k<l.length) (h:q l[k]=false):l.all q=false:=dU.2 ⟨l[k],BO hk,by simp [h]⟩
theorem lJ {α:Type} (l:List α) (q:α->Bool) (h:∀ j (hj:j<l.length),q l[j]=true):l.all q=true:=LK.2 fun x hx=>by
 obtain ⟨i,hi,rfl⟩:=EF.1 hx;exact h i hi
theorem aod (v:Value) (p:Pl) (s:Sg) (A:Option Addr) (n c:Nat) (w:World) (h:D6 w v p) (hs1:s.i<=2097152) (hs2:s.n<=2097152) :
  Calls prog 129 #[v,Qv s (.slice A n c)] w fun e w'=>e=.returned (.bool (Px p s))/\AU w w':=by
 have TO:∀ p q r:Pt,∀ W,Calls prog 174 #[BA p,BA q,BA r] W _:=fun p q r W=>ai9 p q r W;unfold BA at TO;have HO:=AB TO;clear TO;obtain ⟨_,va,vf,al,rfl,-,⟨An,cn,rfl,hn1,hn2,hR⟩,-⟩:=h;unfold maxLen at hn2;have HR:=AB hR;clear hR;unfold Qv;obtain ⟨q,hq⟩:=BI (Px p s);rw [hq];unfold Px at hq;generalize p.nodes=l at *;have Hq:=AB hq;clear hq;go_enter func129,ntmps129;go_wp2_with fail;obtain ⟨W0,hW0⟩:=BR ((w.alloc (.cells #[.slice An l.length cn,va,vf] 34)).alloc (.cells #[.int .i64 s.arc.id,.int .i64 s.arc.fr,.int .i64 s.arc.dst,.slice A n c,.int .i64 s.arc.left,.int .i64 s.arc.right,.int .i64 s.i,.int .i64 s.n,.int .i64 s.a.x,.int .i64 s.a.y,.int .i64 s.b.x,.int .i64 s.b.y] 168));have Bw:AU w W0:=by rw [hW0];exact bA (bA (bR w) _) _
 have X2:AO W0 w.heap.size 34 #[.slice An l.length cn,va,vf]:=by rw [hW0];exact (AO.made rfl _ _).alloc _
 have X3:AO W0 (w.heap.size+1) 168 #[.int .i64 s.arc.id,.int .i64 s.arc.fr,.int .i64 s.arc.dst,.slice A n c,.int .i64 s.arc.left,.int .i64 s.arc.right,.int .i64 s.i,.int .i64 s.n,.int .i64 s.a.x,.int .i64 s.a.y,.int .i64 s.b.x,.int .i64 s.b.y]:=by rw [hW0];exact AO.made Ah _ _
 rw [<- hW0];obtain ⟨DC,EY,HB⟩:=CG X2 X3 Bw;clear X2 X3 Bw hW0;go_loopw [5] (fun i wr=>∃ k:Nat,k<=l.length/\i=.int .i64 k/\AU W0 wr/\∀ j (hj:j<l.length),j<k->Qx s l[j]=true) (fun i _=>l.length-(intOf i).toNat)
 case atStart => exact ⟨0,BX _,rfl,bR W0,fun j _ h=>AA⟩
 case round =>
  obtain ⟨k,hk,rfl,hb,hno⟩:=hrel;have Hb:=AB hb;have Hno:=AB hno;have X2:=DC.1.keep hb;have X3:=EY.1.keep hb;clear hb hno;obtain ⟨Bh,Bq,Bv,CS,-⟩:=X2.Az;obtain ⟨Dk,EI,EN,Gv,PG,PI,PK,U5,U6,U7,U8,Tm,Dk,-⟩:=X3.Ru;by_cases hlt:k<l.length
  case neg =>
   have hg:=AB (lJ l (Qx s) (fun j hj=>Hno.1 j hj AA));have hf:=AB (show Tn s=q by rw [<- Hq.1,hg.1];rfl);have hE:=lX s.a s.b;by_cases h1:s.a=s.b
   ·have h1':decide (s.a=s.b)=true:=JB h1;have hz:=AB (show false=Tn s by rw [Tn,h1'];rfl);have H1:=AB h1;clear h1;go_wp2;go_ret;exact ⟨CP (hz.1.trans hf.1),bT HB.1 Hb.1⟩
   ·have h1':decide (s.a=s.b)=false:=Fg h1;have H1:=AB h1;clear h1
    cases h2:(s.arc.fr != s.arc.dst)
    ·have hz:=AB (show decide (3<=(s.n:Int))=Tn s by rw [Tn,h1',h2];rfl);go_wp2;go_ret;exact ⟨CP (hz.1.trans hf.1),bT HB.1 Hb.1⟩
    ·have hz:=AB (show true=Tn s by rw [Tn,h1',h2];rfl);go_wp2;go_ret;exact ⟨CP (hz.1.trans hf.1),bT HB.1 Hb.1⟩
  obtain ⟨b,o,rfl,hlb,c0,c1,c2⟩:=(HR.1.mono (bT HB.1 Hb.1)).nd hlt;go_upto_region 5 with fail;obtain ⟨W1,hW1⟩:=BR (wr.alloc (.cells #[.int .i64 l[k].id,.int .i64 l[k].pt.x,.int .i64 l[k].pt.y] 47));have B1:AU W0 W1:=by rw [hW1];exact bA Hb.1 _
  have X6:AO W1 wr.heap.size 47 #[.int .i64 l[k].id,.int .i64 l[k].pt.x,.int .i64 l[k].pt.y]:=by rw [hW1];exact AO.made rfl _ _
  have hA1:AU wr W1:=by rw [hW1];exact bA (bR wr) _
  replace X2:=X2.keep hA1;replace X3:=X3.keep hA1;rw [<- hW1];clear c0 c1 c2 hlb hW1 hA1
  try clear Bh Bq Bv CS
  obtain ⟨Bh,Bq,Bv,CS,-⟩:=X2.Az
  try clear Dk EI EN Gv PG PI PK U5 U6 U7 U8 Tm Dk
  obtain ⟨Dk,EI,EN,Gv,PG,PI,PK,U5,U6,U7,U8,Tm,Dk,-⟩:=X3.Ru;obtain ⟨FU,FV,FW,QZ,-⟩:=X6.Az;go_cut [7] (fun u wx=>u=.bool (Qw s l[k])/\wx=W1)
  case first =>
   cases h1:((s.i:Int) == 0)
   case true =>
    cases h2:(s.arc.fr == l[k].id)
    case true =>
     have hz:=AB (show true=Qw s l[k] by rw [Qw,h1,h2];rfl);go_wp2;go_meet
     case rel => exact ⟨congrArg Value.bool hz.1,rfl⟩
    case false =>
     cases h3:((s.i:Int) == (s.n:Int)-1)
     case false =>
      have hz:=AB (show false=Qw s l[k] by rw [Qw,h1,h2,h3];rfl);go_wp2;go_meet
      case rel => exact ⟨congrArg Value.bool hz.1,rfl⟩
     case true =>
      have hz:=AB (show (s.arc.dst == l[k].id)=Qw s l[k] by rw [Qw,h1,h2,h3];rfl);go_wp2;go_meet
      case rel => exact ⟨congrArg Value.bool hz.1,rfl⟩
   case false =>
    cases h3:((s.i:Int) == (s.n:Int)-1)
    case false =>
     have hz:=AB (show false=Qw s l[k] by rw [Qw,h1,h3];rfl);go_wp2;go_meet
     case rel => exact ⟨congrArg Value.bool hz.1,rfl⟩
    case true =>
     have hz:=AB (show (s.arc.dst == l[k].id)=Qw s l[k] by rw [Qw,h1,h3];rfl);go_wp2;go_meet
     case rel => exact ⟨congrArg Value.bool hz.1,rfl⟩
  case rest =>
   obtain ⟨rfl,rfl⟩:=hcut
   cases e1:Qw s l[k]
   case true =>
    have hy:=AB (show Qx s l[k]=true by rw [Qx,e1];rfl);clear e1;go_wp2;go_roundw
    case rel => exact ⟨k+1,AA,BG,B1,all_succ (p:=fun x=>Qx s x=true) Hno.1 hlt hy.1⟩
    case measure => exact BH
   case false =>
   have E1:=AB e1;clear e1;go_wp2_with fail;refine (HO.1 s.a s.b l[k].pt _).mono ?_;rintro e w4 ⟨rfl,hb4⟩;have B4:=bT B1 hb4
   cases e3:LQ s.a s.b l[k].pt
   case false =>
    have hy:=AB (show Qx s l[k]=true by rw [Qx,e3];simp);clear e3;go_wp2;go_roundw
    case rel => exact ⟨k+1,AA,BG,B4,all_succ (p:=fun x=>Qx s x=true) Hno.1 hlt hy.1⟩
    case measure => exact BH
   case true =>
    have hg:=AB (Y3 l (Qx s) k hlt (by rw [Qx,E1.1,e3];rfl));clear e3;go_wp2;go_ret;exact ⟨CP (by rw [<- Hq.1,hg.1];rfl),bT HB.1 B4⟩
section
variable {α β:Type} {w w':World} {base base':Nat} {e e':TypeId} {size size':Nat} {f:α->List Value} {f':β->List Value} {v v':Value} {l:List α} {l':List β}
theorem Own.grown (h:Own w base e size f v l) {row:Option Nat} (hg:w.grownBy w' row) (hne:∀ g,v.ownBlock=some g->some g≠row):Own w' base e size f v l:=by
 obtain ⟨h1,h2⟩:=h;refine ⟨h1,?_⟩;rcases h2 with h2 | ⟨g,cap,cur,hv,hg',hh,r⟩
 · exact .inl h2
 ·subst hv;refine .inr ⟨g,cap,cur,rfl,hg',?_,r⟩;exact AO.grown (t:=e) (cs:=cur) hh hg (hne g rfl)
theorem Own.blk (h:Own w base e size f v l) {g:Nat} (hg:v.ownBlock=some g):∃ cs,AO w g e cs:=by
 rcases h.2 with ⟨rfl,_⟩ | ⟨g',cap,cur,rfl,_,hh,_⟩
 · simp [Value.ownBlock] at hg
 ·have:g'=g:=by simpa [Value.ownBlock] using hg
  subst this;exact ⟨_,hh⟩
theorem Own.apart (h:Own w base e size f v l) (h':Own w base' e' size' f' v' l') (hne:e≠e'):∀ g,v.ownBlock=some g->some g≠v'.ownBlock:=by
 intro g hg hg';obtain ⟨cs,h1⟩:=h.blk hg;obtain ⟨cs',h2⟩:=h'.blk hg'.symm;exact AO.sN h1 h2 hne rfl
end
def AY:Pt:=⟨0,0⟩
def KE (a:Ar) (l:List Pt):List Sg:=(List.range (l.length-1)).map fun k=>⟨a,k,l.length-1,l.getD k AY,l.getD (k+1) AY⟩
def SI (p:Pl):List Sg:=p.AQ.flatMap fun a=>KE a (AV p a)
theorem rW (a:Ar) (l:List Pt):(KE a l).length=l.length-1:=by simp [KE]
theorem aoe (a:Ar) (l:List Pt) (k:Nat) (hk:k+1<l.length):(KE a l).take (k+1)=(KE a l).take k++[⟨a,k,l.length-1,l[k],l[k+1]⟩]:=by
 have h:k<(KE a l).length:=by rw [rW];omega
 rw [Em h];simp [KE,List.getD,Di hk,Di (show k<l.length by omega)]
theorem Fa (p:Pl) (a:Ar):(AV p a).length=a.via.length+2:=by simp [AV]
theorem ahU (p:Pl) (l:List Ar):(l.flatMap fun a=>KE a (AV p a)).length=(l.flatMap (·.via)).length+l.length:=by
 induction l with
 | nil=>rfl
 | cons a l ih=>simp only [N7,Es,ih,rW,Fa,JA];omega
def aof (w:World) (l:List Sg) (e:Ending) (w':World):Prop :=
 ∃ sl v,sl.map (·.1)=l/\e=.returned v/\AU w w'/\Own w' w.heap.size 168 12 Y0 v sl
theorem aog:Elem prog 164 168 12 112:=Elem.QV (z:=.agg #[.int .i64 0,.int .i64 0,.int .i64 0,.slice none 0 0,.int .i64 0,.int .i64 0,.int .i64 0,.int .i64 0,.int .i64 0,.int .i64 0,.int .i64 0,.int .i64 0]) Gl Gl rfl AA
theorem aoh (s:Sg×SV):(Y0 s).length=12:=rfl
theorem aoi (s:Sg×SV):∀ u∈Y0 s,u.oneCell'=true:=by simp [Y0,Value.oneCell']
theorem Sl.aoj {w:World} {g:Nat} {t:TypeId} {s:Sg} {u:SV} {n:Int} (hn:n=s.n) (h:AO w g t #[.int .i64 s.arc.id,.int .i64 s.arc.fr,.int .i64 s.arc.dst,.slice u.a u.n u.c,.int .i64 s.arc.left,.int .i64 s.arc.right,.int .i64 s.i,.int .i64 n,.int .i64 s.a.x,.int .i64 s.a.y,.int .i64 s.b.x,.int .i64 s.b.y]) :
  Sl w (.slice (some ⟨g,0,none⟩) 1 1) ([(s,u)] : List (Sg×SV)).length (([(s,u)] : List (Sg×SV)).flatMap Y0):=by
 subst hn;exact Sl.lit (n:=1) h rfl (D7 AA)
theorem aok (v:Value) (p:Pl) (w:World) (h:D6 w v p) (hl1:p.AQ.length<=4096) (hl2:(p.AQ.flatMap (·.via)).length<=1048576) :
  Calls prog 128 #[v] w (aof w (SI p)):=by
 have HP:=AB h;obtain ⟨vn,_,vf,al,rfl,hpa,-,⟨⟨Aa,ca,rfl,ha1,ha2,FT⟩,hV⟩,-⟩:=h;unfold maxLen at ha2;have hS:SI p=al.flatMap fun a=>KE a.1 (AV p a.1):=by unfold SI;rw [hpa,S9]
 have hL:∀ k,((al.take k).flatMap fun a=>KE a.1 (AV p a.1)).length<=1052672:=fun k=>by
  have h1:=aaL al (fun a=>KE a.1 (AV p a.1)) k;rw [<- hS] at h1;unfold SI at h1;rw [ahU] at h1;omega
 have hsh:∀ k (hk:k<al.length),al[k].1.via.length<=1048576:=fun k hk=>by
  have h1:=adi al (fun a=>a.1.via) k hk;rw [hpa,S9] at hl2;omega
 have hl:al.length<=4096:=by rw [hpa,CV] at hl1;exact hl1
 rw [hS];obtain ⟨HL,ED,HV⟩:=CG hL hsh hV;clear hV;have Ij:=AB FT;clear FT;clear hS hpa hl1 hl2 hL hsh;go_enter func128,ntmps128;go_wp2_with fail;obtain ⟨W0,hW0⟩:=BR (w.alloc (.cells #[vn,.slice Aa al.length ca,vf] 34));have X1:AO W0 w.heap.size 34 #[vn,.slice Aa al.length ca,vf]:=by rw [hW0];exact AO.made rfl _ _
 have Fj:AU w W0:=by rw [hW0];exact bA (bR w) _
 have HX0:=AB X1;have hwz:=X1.lt;rw [<- hW0];clear hW0 X1;go_loopw [3,4] (fun s i wr=>∃ (k:Nat) (sl:List (Sg×SV)),k<=al.length/\i=.int .i64 k/\sl.map (·.1)=((al.take k).flatMap fun a=>KE a.1 (AV p a.1))/\Own wr W0.heap.size 168 12 Y0 s sl/\AU W0 wr) (fun _ i _=>al.length-(intOf i).toNat)
 case atStart => exact ⟨0,[],BX _,rfl,rfl,Own.nil _ _ _ _ _,bR W0⟩
 case round =>
  obtain ⟨k,sl,hk,rfl,hsl,hown,hb⟩:=hrel;obtain ⟨Hb,FB,TQ⟩:=CG hb hown hsl;have X1:=HX0.1.keep hb;have hsz:=hb.size;clear hb hown hsl;obtain ⟨BJ,BK,BL,BQ,-⟩:=X1.Az;by_cases hlt:k<al.length
  case neg =>
   have hE:al.take k=al:=IE AA;have Hf:=AB (show sl.map (·.1)=al.flatMap fun a=>KE a.1 (AV p a.1) by rw [TQ.1,hE]);clear hE;go_wp2;go_ret;exact ⟨sl,_,Hf.1,rfl,bT Fj Hb.1,FB.1.EM Fj.size⟩
  obtain ⟨b,o,rfl,hlb,c0,c1,c2,c3,c4,c5⟩:=(Ij.1.mono (bT Fj Hb.1)).ar hlt;have hvk:=(HV.1 k hlt);obtain ⟨Av,cv,hv,-⟩:=hvk;have hvk:=(HV.1 k hlt);rw [hv] at c3 hvk;generalize hvl:al[k].1.via.length=vl at c3;obtain ⟨ad1,SN,ahV⟩:=CG hvl hvk (ED.1 k hlt);have q1:0<=(k:Int):=AA
  have q2:(k:Int)<al.length:=AA
  have adO:=AB (HL.1 (k+1));clear hvk hv hvl;have TL:∀ W,AU w W->Calls prog 64 #[.agg #[vn,.slice (some ⟨b,o,none⟩) al.length ca,vf],.agg #[.int .i64 al[k].1.id,.int .i64 al[k].1.fr,.int .i64 al[k].1.dst,.slice Av vl cv,.int .i64 al[k].1.left,.int .i64 al[k].1.right]] W (ads W (AV p al[k].1) (JX p al[k].1)):=fun W hW=>by
   have:=adt _ _ p al[k].1 _ (HP.1.mono hW) (SN.1.mono hW) ahV.1
   rw [ad1.1] at this;exact this
  have HT:=AB TL;clear TL;go_upto_region 5 with fail;go_cut [5] (fun s wx=>∃ A1 n1 c1,s=.slice A1 n1 c1/\n1=(AV p al[k].1).length/\Own wx wr.heap.size 42 2 DK (.slice A1 n1 c1) (AV p al[k].1)/\AU wr wx)
  case first =>
   refine D9 (wr) (.run 6 0 0 (.call 6 127 (.run 5 7 127 (.done)))) fun CQ QR Ae Aj hS=>?_
   iterate 6 refine Ak ?_
   refine BN ?_;clear hS;intro K hK AP;go_simp;refine (HT.1 _ (bT (bT Fj Hb.1) AP.out)).mono ?_;rintro e BZ ⟨v1,rfl,BU,ho1⟩;have hS:Since wr BZ:=bT (w:=wr) AP.out BU;clear AP;refine hK.out _ _ hS (fun _=>?_);clear hK K
   try simp only [pu]
   iterate 5 refine Ak ?_
   refine D5 ?_;clear hS Aj Ae;intro hB;obtain ⟨A1,c1',rfl,-⟩:=Own.sl ho1;go_wp2;go_meet
   case rel => exact ⟨A1,_,c1',rfl,rfl,ho1.EM Ah,hB⟩
  case rest =>
   obtain ⟨A1,n1,c1',rfl,rfl,ahW,hBc⟩:=hcut;have hown1:Own wc W0.heap.size 168 12 Y0 _ sl:=FB.1.keep hBc;have Bc:=bT Hb.1 hBc;have az0:=hBc.size;have hmx:(AV p al[k].1).length<=maxLen:=by rw [Fa];have:=ahV.1;exact D7 AA
   unfold maxLen at hmx;have hpl2:2<=(AV p al[k].1).length:=by rw [Fa];omega
   generalize rM:AV p al[k].1=PP at *;have rO:=AB rM;obtain ⟨M,hM⟩:∃ M,PP.length=M+1:=⟨PP.length-1,AA⟩;have HM:=AB hM;have hM1:M<PP.length:=AA
   obtain ⟨Hp0,Hs0,HBc⟩:=CG ahW hown1 Bc;clear ahW hown1 Bc hBc rM hM HT X1 BJ BK BL BQ c0 c1 c2 c3 c4 c5;obtain ⟨wo,rfl⟩:=BR wr;go_wp2_with fail;go_loopw [3,7] (fun s i wx=>∃ (j:Nat) (sx:List (Sg×SV)),j+1<=PP.length/\i=.int .i64 j/\sx.map (·.1)=((al.take k).flatMap fun a=>KE a.1 (AV p a.1))++(KE al[k].1 PP).take j/\Own wx W0.heap.size 168 12 Y0 s sx/\Own wx wo.heap.size 42 2 DK (.slice A1 PP.length c1') PP/\AU W0 wx) (fun _ i _=>PP.length-(intOf i).toNat)
   case atStart => exact ⟨0,sl,AA,rfl,by rw [TQ.1];simp,Hs0.1,Hp0.1,HBc.1⟩
   case round =>
    obtain ⟨j,sx,hj,rfl,hsx,rX,hpx,hbx⟩:=hrel;obtain ⟨G6,Wy,aaU,gZ⟩:=DW hbx rX hpx hsx;have adP:=hbx.size;have X1:=HX0.1.keep hbx;clear hbx rX hpx hsx
    try clear BJ BK BL BQ
    obtain ⟨BJ,BK,BL,BQ,-⟩:=X1.Az;by_cases hlj:j+1<PP.length
    case neg =>
     have hjm:j=M:=by have:=HM.1;omega
     have Hf:=AB (show sx.map (·.1)=((al.take (k+1)).flatMap fun a=>KE a.1 (AV p a.1)) by
      rw [gZ.1,Em hlt,O7,IE (l:=KE al[k].1 PP) (by rw [rW];omega)];simp [rO.1])
     clear hjm;go_wp2;go_roundw
     case rel => exact ⟨k+1,sx,AA,BG,Hf.1,Wy.1,G6.1⟩
     case measure => exact BH
    obtain ⟨b',o',Ik,VF,d0,d1,d2,d3,d4,d5⟩:=(Ij.1.mono (bT Fj G6.1)).ar hlt;simp only [Gt,Addr.mk.injEq,and_true] at Ik;obtain ⟨rfl,rfl⟩:=Ik;have hvk:=(HV.1 k hlt);obtain ⟨Av',cv',hv,-⟩:=hvk;have hrow:=Own.sl aaU.1;obtain ⟨A1',aol,he1,-,-,hrow⟩:=hrow;injection he1 with he1 _ he3;subst he1;subst he3;obtain ⟨pb,po,adQ,hlp,f0,f1⟩:=hrow.pt (k:=j) AA;subst adQ;obtain ⟨pb',po',rY,ahX,f2,f3⟩:=hrow.pt (k:=j+1) hlj;simp only [Gt,Addr.mk.injEq,and_true] at rY;obtain ⟨rfl,rfl⟩:=rY;rw [hv] at d3;clear hrow hv;have lK:=EL ((j:Int)+1);have w2e:IntKind.i64.wrap ((PP.length:Int)-1)=(M:Int):=by have:=HM.1;rw [Jw _ AA];omega
    have r1:0<=(j:Int):=AA
    have r2:(j:Int)<PP.length:=AA
    have r3:0<=(j:Int)+1:=AA
    have r4:(j:Int)+1<PP.length:=AA
    have r5:((j:Int)+1).toNat=j+1:=AA
    have r6:0<=(k:Int):=AA
    have r7:(k:Int)<al.length:=AA
    have hb0:b<w.heap.size:=by
     obtain ⟨b2,o2,e2,h2,-⟩:=Ij.1.ar hlt;simp only [Gt,Addr.mk.injEq,and_true] at e2;omega
    have n1:some w.heap.size≠(u3:Value).ownBlock:=fun e=>by have:=(Wy.1.lt _ e.symm).1;omega
    have n2:some b≠(u3:Value).ownBlock:=fun e=>by have:=(Wy.1.lt _ e.symm).1;omega
    have n3:some pb≠(u3:Value).ownBlock:=Own.apart aaU.1 Wy.1 Aw pb rfl;have ahY:=AB (show sx.length+1<=1052673 by
     have h1:=adO;have h2:=congrArg List.length gZ.1;rw [CV,Es,GH,rW] at h2;have h3:=HL.1 (k+1);rw [Em hlt,O7,Es] at h3;simp only [N7,yS,MC,rW,rO.1] at h3;omega)
    clear hb0;go_upto_region 9 with fail;refine tH (wr) ((u3:Value).ownBlock) (.run 20 0 0 (.call 20 2097151 (.call 21 4194303 (.take 22 8388607 (.done))))) fun CQ QR Ae Aj hS=>?_
    iterate 20 refine Ak ?_
    refine BN ?_;clear hS;intro K hK AP;go_simp;refine hK.out _ _ (gA AP.out _) (fun hS=>?_);clear hK K AP
    try simp only [pu]
    refine BN ?_;clear hS;intro K hK AP;refine GK (.tmp 32) (.tmp 52) _ rfl (base:=W0.heap.size) aog aoh aoi rfl ((Wy.1.drew).alloc _) rfl (l2:=[((⟨al[k].1,j,PP.length-1,PP[j],PP[j+1]⟩:Sg),(⟨Av',al[k].1.via.length,cv'⟩:SV))]) (Sl.aoj (n:=(M:Int)) (by have:=HM.1;simp only [];omega) (AO.made Ah _ _)) (by have:=ahY.1;simp only [JA,LH];omega) (by have:=ahY.1;simp only [JA,LH];omega) DR ?_;intro v3 wr3 ho3 hg hat;have hS:SE wr (u3:Value).ownBlock wr3:=gT AP.out hg;clear AP;refine hK.out _ _ hS (fun _=>?_);clear hK K
    try simp only [pu]
    refine Ak ?_;refine ku ?_;clear hS Aj Ae;intro hB;obtain ⟨rZ,Hpy,Hby⟩:=CG ho3 (aaU.1.grown hB (fun g hg=>Own.apart aaU.1 Wy.1 Aw g hg)) (ao8 G6.1 adP hB (fun g hg=>(Wy.1.lt g hg).1));have Hsy:=AB (show (sx++[((⟨al[k].1,j,PP.length-1,PP[j],PP[j+1]⟩:Sg),(⟨Av',al[k].1.via.length,cv'⟩:SV))]).map (·.1)=((al.take k).flatMap fun a=>KE a.1 (AV p a.1))++(KE al[k].1 PP).take (j+1) by
     rw [FH,gZ.1,aoe _ _ _ hlj,LJ];rfl)
    clear ho3 hg hat hB d0 d1 d2 d3 d4 d5 f0 f1 f2 f3 lK w2e r1 r2 r3 r4 r5 r6 r7 n1 n2 n3 X1 BJ BK BL BQ;go_wp2;go_roundw
    case rel => exact ⟨j+1,sx++[((⟨al[k].1,j,PP.length-1,PP[j],PP[j+1]⟩:Sg),(⟨Av',al[k].1.via.length,cv'⟩:SV))],AA,BG,Hsy.1,rZ.1,Hpy.1,Hby.1⟩
    case measure => exact BH
def Zx {α:Type} (l:List α) (f:α->Bool) (g:α->α->Bool):Bool:=(List.range l.length).all fun i=>match l[i]? with
 | none=>true
 | some t=>f t && (l.take i).all fun s=>g s t
theorem ahZ {α:Type} (l:List α) (f:α->Bool) (g:α->α->Bool) (i:Nat) (hi:i<l.length) (h:f l[i]=false):Zx l f g=false:=by
 unfold Zx;rw [dU];exact ⟨i,FQ.2 hi,by simp [Di hi,h]⟩
theorem aha {α:Type} (l:List α) (f:α->Bool) (g:α->α->Bool) (i k:Nat) (hk:k<i) (hi:i<l.length) (h:g (l[k]'(by omega)) l[i]=false):Zx l f g=false:=by
 unfold Zx;rw [dU];refine ⟨i,FQ.2 hi,?_⟩;have:(l.take i).all (fun s=>g s l[i])=false:=by
  rw [dU];refine ⟨l[k]'(by omega),?_,by simp [h]⟩;rw [EF];exact ⟨k,jw,Ah⟩
 simp [Di hi,this]
theorem ahb {α:Type} (l:List α) (f:α->Bool) (g:α->α->Bool) (h1:∀ i (hi:i<l.length),f l[i]=true) (h2:∀ i k (hk:k<i) (hi:i<l.length),g (l[k]'(by omega)) l[i]=true):Zx l f g=true:=by
 unfold Zx;rw [LK];intro i hi;have hi:=FQ.1 hi;rw [Di hi];simp only [ER];refine ⟨h1 i hi,LK.2 fun s hs=>?_⟩;obtain ⟨k,hk,rfl⟩:=EF.1 hs;rw [GH] at hk;have:=h2 i k AA hi
 simpa using this
def NC (p:Pl) (s t:Sg):Bool:=if s.arc.id=t.arc.id then Rw s t else Oh p s t
def MZ (p:Pl):Bool:=Zx (SI p) (Px p) (NC p)
theorem aom (p:Pl) (hl:(p.AQ.flatMap (·.via)).length<=1048576) (s:Sg) (hs:s∈SI p):s.i<=2097152/\1<=s.n/\s.n<=2097152:=by
 unfold SI at hs;obtain ⟨a,ha,hs⟩:=Ii.1 hs;unfold KE at hs;obtain ⟨k,hk,rfl⟩:=Ez.1 hs;have hk:=FQ.1 hk;rw [Fa] at hk ⊢;obtain ⟨i,hi,rfl⟩:=EF.1 ha;have:=adi p.AQ (·.via) i hi
 simp only [];omega
theorem Row.sg {w:World} {A:Option Addr} {l:List (Sg×SV)} (h:Row w A (l.flatMap Y0)) {k:Nat} (hk:k<l.length) :
  ∃ b o,A=some ⟨b,o,none⟩/\b<w.heap.size/\w.cell? ⟨b,o+k*12,none⟩=some (.int .i64 l[k].1.arc.id)/\w.cell? ⟨b,o+k*12+1,none⟩=some (.int .i64 l[k].1.arc.fr)/\w.cell? ⟨b,o+k*12+2,none⟩=some (.int .i64 l[k].1.arc.dst)/\w.cell? ⟨b,o+k*12+3,none⟩=some (.slice l[k].2.a l[k].2.n l[k].2.c)/\w.cell? ⟨b,o+k*12+4,none⟩=some (.int .i64 l[k].1.arc.left)/\w.cell? ⟨b,o+k*12+5,none⟩=some (.int .i64 l[k].1.arc.right)/\w.cell? ⟨b,o+k*12+6,none⟩=some (.int .i64 l[k].1.i)/\w.cell? ⟨b,o+k*12+7,none⟩=some (.int .i64 l[k].1.n)/\w.cell? ⟨b,o+k*12+8,none⟩=some (.int .i64 l[k].1.a.x)/\w.cell? ⟨b,o+k*12+9,none⟩=some (.int .i64 l[k].1.a.y)/\w.cell? ⟨b,o+k*12+10,none⟩=some (.int .i64 l[k].1.b.x)/\w.cell? ⟨b,o+k*12+11,none⟩=some (.int .i64 l[k].1.b.y):=by
 obtain ⟨b,o,hA,hb,hc⟩:=h.at_ (n:=12) (fun _=>rfl) hk AA;exact ⟨b,o,hA,hb,hc 0 _ rfl,hc 1 _ rfl,hc 2 _ rfl,hc 3 _ rfl,hc 4 _ rfl,hc 5 _ rfl,hc 6 _ rfl,hc 7 _ rfl,hc 8 _ rfl,hc 9 _ rfl,hc 10 _ rfl,hc 11 _ rfl⟩
theorem aoD (v:Value) (p:Pl) (w:World) (h:D6 w v p) (hl1:p.AQ.length<=4096) (hl2:(p.AQ.flatMap (·.via)).length<=1048576) :
  Calls prog 85 #[v] w fun e w'=>e=.returned (.bool (MZ p))/\AU w w':=by
 have HP:=AB h;obtain ⟨vn,va,vf,al,rfl,-⟩:=h;have hok:=aom p hl2;have Zy:=AB hok;clear hok;obtain ⟨q,hq⟩:=BI (MZ p);rw [hq];have Hq:=AB hq;clear hq;obtain ⟨Zz,HL2,Hbd⟩:=CG hl1 hl2 (show (SI p).length<=1052672 by unfold SI;rw [ahU];omega);clear hl1 hl2;go_enter func85,ntmps85;go_wp2_with fail;refine (aok _ p _ (HP.1.mono (bA (bR w) _)) Zz.1 HL2.1).mono ?_;rintro e w1 ⟨sl,v1,hsl,rfl,hb1,hown⟩;have Bw:AU w w1:=by
  exact Dy
 have X2:AO _ (w.heap.size) 34 #[vn,va,vf]:=AO.keep (by repeat (first | exact AO.made Ah _ _ | refine AO.alloc ?_ _)) hb1;clear hb1;have hsl2:=Own.sl hown;obtain ⟨A,c,rfl,hn1,hn2,hR⟩:=hsl2;unfold maxLen at hn2;have HR:=AB hR;have TQ:=AB hsl;have hlen:sl.length<=1052672:=by have:=congrArg List.length hsl;rw [CV] at this;have:=Hbd.1;omega
 have DC:=AB X2;have HB:=AB Bw;clear X2 Bw hown hR hsl;have hin:∀ k (hk:k<sl.length),sl[k].1.i<=2097152/\1<=sl[k].1.n/\sl[k].1.n<=2097152:=fun k hk=>Zy.1 _ (by rw [<- TQ.1];exact FZ (BO hk));have ru:=AB hin;clear hin;have hF:∀ i (hi:i<sl.length),Px p sl[i].1=false->q=false:=fun i hi h=>by
  rw [<- Hq.1,MZ,<- TQ.1];exact ahZ _ _ _ i kD (by simpa using h)
 have hG:∀ i k (hk:k<i) (hi:i<sl.length),NC p (sl[k]'(by omega)).1 sl[i].1=false->q=false:=fun i k hk hi h=>by
  rw [<- Hq.1,MZ,<- TQ.1];exact aha _ _ _ i k hk kD (by simpa using h)
 have hY:(∀ i (hi:i<sl.length),Px p sl[i].1=true)->(∀ i k (hk:k<i) (hi:i<sl.length),NC p (sl[k]'(by omega)).1 sl[i].1=true)->q=true:=fun h1 h2=>by
  rw [<- Hq.1,MZ,<- TQ.1];refine ahb _ _ _ (fun i hi=>?_) (fun i k hk hi=>?_)
  · have:=h1 i kD;simpa using this
  · have:=h2 i k hk kD;simpa using this
 obtain ⟨HF,HG,HY⟩:=CG hF hG hY;clear hF hG hY;go_wp2_with fail;go_loopw [4] (fun u wr=>∃ i:Nat,i<=sl.length/\u=.int .i64 i/\AU w1 wr/\(∀ j (hj:j<sl.length),j<i->Px p sl[j].1=true)/\(∀ j k (hk:k<j) (hj:j<sl.length),j<i->NC p (sl[k]'(by omega)).1 sl[j].1=true)) (fun u _=>sl.length-(intOf u).toNat)
 case atStart => exact ⟨0,BX _,rfl,bR w1,fun _ _ h=>AA,fun _ _ _ _ h=>AA⟩
 case round =>
  obtain ⟨i,hi,rfl,hb,sD,LP⟩:=hrel;obtain ⟨Hb,lC,lD⟩:=CG hb sD LP;have X2:=DC.1.keep hb;clear hb sD LP;obtain ⟨Bh,Bq,Bv,CS,-⟩:=X2.Az;by_cases hlt:i<sl.length
  case neg =>
   have hf:=AB (HY.1 (fun j hj=>lC.1 j hj AA) (fun j k hk hj=>lD.1 j k hk hj AA));go_wp2;go_ret;exact ⟨CP hf.1.symm,bT HB.1 Hb.1⟩
  obtain ⟨b,o,rfl,hlb,c0,c1,c2,c3,c4,c5,c6,c7,c8,c9,c10,c11⟩:=(HR.1.mono Hb.1).sg hlt;have q1:0<=(i:Int):=AA
  have q2:(i:Int)<sl.length:=AA
  have TA:∀ W,AU w W->Calls prog 129 #[.agg #[vn,va,vf],Qv sl[i].1 (.slice sl[i].2.a sl[i].2.n sl[i].2.c)] W _:=fun W hW=>aod _ p sl[i].1 sl[i].2.a sl[i].2.n sl[i].2.c W (HP.1.mono hW) (ru.1 i hlt).1 (ru.1 i hlt).2.2;unfold Qv at TA;have HA:=AB TA;clear TA;go_upto_region 5 with fail;refine D9 (wr) (.run 5 0 0 (.call 5 63 (.take 6 127 (.done)))) fun CQ QR Ae Aj hS=>?_
  iterate 5 refine Ak ?_
  refine II (HA.1 _ (bT (bT HB.1 Hb.1) hS)) ?_;clear hS;intro BZ BU hS;refine Ak ?_;refine D5 ?_;clear hS Aj Ae;intro hB;have Bi:AU w1 BZ:=bT Hb.1 hB
  cases ha:Px p sl[i].1
  case false =>
   have hf:=AB (HF.1 i hlt ha);clear ha;go_wp2;go_ret;exact ⟨CP hf.1.symm,bT HB.1 Bi⟩
  have Ha:=AB ha;have HBi:=AB Bi;clear ha Bi hB c0 c1 c2 c3 c4 c5 c6 c7 c8 c9 c10 c11 hlb X2 Bh Bq Bv CS HA;simp only [Bool.not_true];go_wp2_with fail;obtain ⟨wo,rfl⟩:=BR wr;go_loopw [5] (fun u wr=>∃ k:Nat,k<=i/\u=.int .i64 k/\AU w1 wr/\∀ j (hj:j<sl.length),j<k->NC p sl[j].1 sl[i].1=true) (fun u _=>i-(intOf u).toNat)
  case atStart => exact ⟨0,BX _,rfl,HBi.1,fun _ _ h=>AA⟩
  case round =>
   obtain ⟨k,hk,rfl,hb,hno⟩:=hrel;have Hb2:=AB hb;have adR:=AB hno;have X2:=DC.1.keep hb;clear hb hno
   try clear Bh Bq Bv CS
   obtain ⟨Bh,Bq,Bv,CS,-⟩:=X2.Az;by_cases hki:k<i
   case neg =>
    have Zn:=AB (all_succ (p:=fun x=>Px p x.1=true) lC.1 hlt Ha.1);have Zo:Et (∀ j m (hm:m<j) (hj:j<sl.length),j<i+1->NC p (sl[m]'(by omega)).1 sl[j].1=true):=AB fun j m hm hj hji=>by
     by_cases e:j<i
     · exact lD.1 j m hm hj e
     ·have:j=i:=AA
      subst this;exact adR.1 m AA AA
    go_wp2;go_roundw
    case rel => exact ⟨i+1,AA,BG,Hb2.1,Zn.1,Zo.out⟩
    case measure => exact BH
   have hkl:k<sl.length:=AA
   obtain ⟨b',o',Ik,hlb,c0,c1,c2,c3,c4,c5,c6,c7,c8,c9,c10,c11⟩:=(HR.1.mono Hb2.1).sg hlt;simp only [Gt,Addr.mk.injEq,and_true] at Ik;obtain ⟨rfl,rfl⟩:=Ik;obtain ⟨b',o',Ik,-,d0,d1,d2,d3,d4,d5,d6,d7,d8,d9,d10,d11⟩:=(HR.1.mono Hb2.1).sg hkl;simp only [Gt,Addr.mk.injEq,and_true] at Ik;obtain ⟨rfl,rfl⟩:=Ik;have r1:0<=(k:Int):=AA
   have r2:(k:Int)<sl.length:=AA
   have TA:∀ W,Calls prog 130 #[Qv sl[k].1 (.slice sl[k].2.a sl[k].2.n sl[k].2.c),Qv sl[i].1 (.slice sl[i].2.a sl[i].2.n sl[i].2.c)] W _:=fun W=>apart_spec sl[k].1 sl[i].1 sl[k].2.a sl[i].2.a sl[k].2.n sl[i].2.n sl[k].2.c sl[i].2.c W (ru.1 k hkl).1 (ru.1 i hlt).2.2 (ru.1 i hlt).2.1;have TJ:∀ W,AU w W->Calls prog 131 #[.agg #[vn,va,vf],Qv sl[k].1 (.slice sl[k].2.a sl[k].2.n sl[k].2.c),Qv sl[i].1 (.slice sl[i].2.a sl[i].2.n sl[i].2.c)] W _:=fun W hW=>aoc _ p sl[k].1 sl[i].1 sl[k].2.a sl[i].2.a sl[k].2.n sl[i].2.n sl[k].2.c sl[i].2.c W (HP.1.mono hW);unfold Qv at TA TJ;have HJ:=AB TJ;clear TJ
   cases hid:(sl[k].1.arc.id == sl[i].1.arc.id)
   case true =>
    have hpr:NC p sl[k].1 sl[i].1=Rw sl[k].1 sl[i].1:=by unfold NC;rw [AZ (eq_of_beq hid)]
    have aoE:(sl[k].1.arc.id != sl[i].1.arc.id)=false:=by simp [bne,hid]
    have Y6:=AB hpr;clear hpr
    cases ha:Rw sl[k].1 sl[i].1
    case false =>
     rw [ha] at TA;have HA:=AB TA;have hf:=AB (HG.1 i k hki hlt (Y6.1.trans ha));clear TA ha;go_upto_region 10 with fail;refine D9 (wr) (.run 22 0 0 (.call 22 8388607 (.run 30 23 8388607 (.done)))) fun CQ QR Ae Aj hS=>?_
     iterate 14 refine Ak ?_
     iterate 8 refine E5 ?_
     refine II (HA.1 _) ?_;clear hS;intro BZ BU hS;refine E5 ?_
     iterate 2 refine Ak ?_
     iterate 26 refine JW ?_
     refine Ak ?_;refine D5 ?_;clear hS Aj Ae;intro hB;have B3:AU w1 BZ:=bT Hb2.1 hB;go_wp2;go_ret;exact ⟨CP hf.1.symm,bT HB.1 B3⟩
    case true =>
     rw [ha] at TA;have HA:=AB TA;have hg:=AB (Y6.1.trans ha);clear TA ha;go_upto_region 10 with fail;refine D9 (wr) (.run 22 0 0 (.call 22 8388607 (.run 30 23 8388607 (.done)))) fun CQ QR Ae Aj hS=>?_
     iterate 14 refine Ak ?_
     iterate 8 refine E5 ?_
     refine II (HA.1 _) ?_;clear hS;intro BZ BU hS;refine E5 ?_
     iterate 2 refine Ak ?_
     iterate 14 refine E5 ?_
     iterate 11 refine JW ?_
     refine E5 ?_;refine Ak ?_;refine D5 ?_;clear hS Aj Ae;intro hB;have B3:AU w1 BZ:=bT Hb2.1 hB;go_wp2;go_roundw
     case rel => exact ⟨k+1,AA,BG,B3,all_succ (p:=fun x=>NC p x.1 sl[i].1=true) adR.1 hkl hg.1⟩
     case measure => exact BH
   case false =>
    have hpr:NC p sl[k].1 sl[i].1=Oh p sl[k].1 sl[i].1:=by unfold NC;rw [AX (ne_of_beq_false hid)]
    have aoE:(sl[k].1.arc.id != sl[i].1.arc.id)=true:=by simp [bne,hid]
    have Y6:=AB hpr;clear hpr TA;go_upto_region 10 with fail;refine D9 (wr) (.run 49 0 0 (.call 49 1125899906842623 (.run 3 50 1125899906842623 (.done)))) fun CQ QR Ae Aj hS=>?_
    iterate 14 refine Ak ?_
    iterate 10 refine JW ?_
    iterate 2 refine Ak ?_
    iterate 23 refine E5 ?_
    refine II (HJ.1 _ (bT (bT HB.1 Hb2.1) hS)) ?_;clear hS;intro BZ BU hS
    iterate 2 refine E5 ?_
    refine Ak ?_;refine D5 ?_;clear hS Aj Ae;intro hB;have B3:AU w1 BZ:=bT Hb2.1 hB
    cases ha:Oh p sl[k].1 sl[i].1
    case false =>
     have hf:=AB (HG.1 i k hki hlt (Y6.1.trans ha));clear ha;go_wp2;go_ret;exact ⟨CP hf.1.symm,bT HB.1 B3⟩
    case true =>
     have hg:=AB (Y6.1.trans ha);clear ha;go_wp2;go_roundw
     case rel => exact ⟨k+1,AA,BG,B3,all_succ (p:=fun x=>NC p x.1 sl[i].1=true) adR.1 hkl hg.1⟩
     case measure => exact BH
def Qy (p:Pl):Bool:=OE (p.nodes.map (·.id)) && OE (p.AQ.map (·.id)) && OE p.faces
def Rx (p:Pl):Bool:=p.AQ.all fun a=>Eu p.faces a.left && Eu p.faces a.right
def Gn (p:Pl):Int :=
 if KD p=true then 3 else if Qy p=false then 10 else if OG p=false then 2 else if SX (p.nodes.map (·.pt))=true then 8
 else if p.AQ.all (JX p)=false then 7 else if Rx p=false then 12 else if MZ p=false then 11 else 0
theorem aA {α β:Type} (l:List α) (f:α->List β) (n:Nat) (h:∀ a∈l,(f a).length<=n):(l.flatMap f).length<=l.length*n:=by
 induction l with
 | nil=>simp
 | cons a l ih =>
  simp only [N7,Es,JA,Nat.succ_mul];have:=h a Ah
  have:=ih fun b hb=>h b (by simp [hb])
  omega
theorem aaV {p:Pl} (h:KD p=false):(∀ a∈p.AQ,a.via.length<=64)/\p.nodes.length<=256/\p.AQ.length<=256/\p.faces.length<=64/\(p.AQ.flatMap (·.via)).length<=16384:=by
 unfold KD at h;simp only [OC,JH,MB,Dq] at h;obtain ⟨h1,⟨h2,h3⟩,h4⟩:=h;have h5:∀ a∈p.AQ,a.via.length<=64:=fun a ha=>by have:=h1 a ha;omega
 have h6:=aA p.AQ (·.via) 64 h5;refine ⟨h5,AA,AA,AA,AA⟩
theorem adS (v:Value) (p:Pl) (w:World) (h:D6 w v p) :
  Calls prog 43 #[v] w fun e w'=>e=.returned (.int .i64 (Gn p))/\AU w w':=by
 have HP:=AB h;obtain ⟨vn,_,vf,al,rfl,hpa,-,⟨⟨Aa,ca,rfl,ha1,ha2,FT⟩,hV⟩,hF⟩:=h;unfold maxLen at ha2;have HF:=AB hF;clear hF;have HV:=AB hV;clear hV;have Ij:=AB FT;clear FT;have aB:=AB hpa;clear hpa;obtain ⟨q,hq⟩:=BI (Gn p);rw [hq];unfold Gn at hq;have Hq:=AB hq;clear hq;go_enter func43,ntmps43;go_wp2_with fail;refine (aot _ p _ (HP.1.mono (bA (bR w) _))).mono ?_;rintro e w1 ⟨rfl,hb1⟩;have Bw:AU w w1:=by
  exact Dy
 have X2:AO _ (w.heap.size) 34 #[vn,.slice Aa al.length ca,vf]:=AO.keep (by repeat (first | exact AO.made Ah _ _ | refine AO.alloc ?_ _)) hb1;clear hb1;obtain ⟨Bh,Bq,Bv,CS,-⟩:=X2.Az
 cases hl:KD p
 case true =>
  have hf:=AB (show 3=q by rw [<- Hq.1,AZ hl]);clear hl;go_wp2;go_ret;exact ⟨D8 hf.1,Bw⟩
 have Hl:=AB (aaV hl);rw [hl] at Hq;replace Hq:=AB Hq.1;clear hl;have hsh:Short p:=fun a ha=>by have:=Hl.1.1 a ha;omega
 have ED:=AB hsh;clear hsh;go_wp2_with fail;refine (ai3 _ p _ (HP.1.mono Bw) dM).mono ?_;rintro e w2 ⟨v2,rfl,hb2,ho2⟩;replace Bw:=bT Bw hb2;replace X2:=X2.keep hb2;clear hb2
 try clear Bh Bq Bv CS
 obtain ⟨Bh,Bq,Bv,CS,-⟩:=X2.Az;have hi2:=Own.sl ho2;go_wp2_with fail;refine (ado _ _ _ hi2).mono ?_;rintro e w3 ⟨rfl,hb3⟩;replace Bw:=bT Bw hb3;replace X2:=X2.keep hb3;clear hb3
 try clear Bh Bq Bv CS
 try clear Bh Bq Bv CS
 obtain ⟨Bh,Bq,Bv,CS,-⟩:=X2.Az
 cases h1:OE (p.nodes.map (·.id))
 case false =>
  have hf:=AB (show 10=q by rw [<- Hq.1];simp [Qy,h1]);clear h1;go_wp2;go_ret;exact ⟨D8 hf.1,Bw⟩
 have H1:=AB h1;clear h1 hi2 ho2;go_wp2_with fail;refine (ai4 _ p _ (HP.1.mono Bw) dM).mono ?_;rintro e w4 ⟨v4,rfl,hb4,Nc⟩;replace Bw:=bT Bw hb4;replace X2:=X2.keep hb4;clear hb4
 try clear Bh Bq Bv CS
 obtain ⟨Bh,Bq,Bv,CS,-⟩:=X2.Az;have hi4:=Own.sl Nc;go_wp2_with fail;refine (ado _ _ _ hi4).mono ?_;rintro e w5 ⟨rfl,hb5⟩;replace Bw:=bT Bw hb5;replace X2:=X2.keep hb5;clear hb5
 try clear Bh Bq Bv CS
 try clear Bh Bq Bv CS
 obtain ⟨Bh,Bq,Bv,CS,-⟩:=X2.Az
 cases h1:OE (p.AQ.map (·.id))
 case false =>
  have hf:=AB (show 10=q by rw [<- Hq.1];simp [Qy,h1]);clear h1;go_wp2;go_ret;exact ⟨D8 hf.1,Bw⟩
 have H2:=AB h1;clear h1 hi4 Nc;go_wp2_with fail;refine (ado _ _ _ (HF.1.mono Bw)).mono ?_;rintro e w6 ⟨rfl,hb6⟩;replace Bw:=bT Bw hb6;replace X2:=X2.keep hb6;clear hb6
 try clear Bh Bq Bv CS
 try clear Bh Bq Bv CS
 obtain ⟨Bh,Bq,Bv,CS,-⟩:=X2.Az
 cases h1:OE p.faces
 case false =>
  have hf:=AB (show 10=q by rw [<- Hq.1];simp [Qy,h1]);clear h1;go_wp2;go_ret;exact ⟨D8 hf.1,Bw⟩
 have ho:=Hq.1;rw [show Qy p=true by simp [Qy,H1.1,H2.1,h1]] at ho;replace Hq:=AB ho;clear h1 ho H1 H2;go_wp2_with fail;refine (apA _ p _ (HP.1.mono Bw) dM dM dM dM).mono ?_;rintro e w7 ⟨rfl,hb7⟩;replace Bw:=bT Bw hb7;replace X2:=X2.keep hb7;clear hb7
 try clear Bh Bq Bv CS
 try clear Bh Bq Bv CS
 obtain ⟨Bh,Bq,Bv,CS,-⟩:=X2.Az
 cases h1:OG p
 case false =>
  have hf:=AB (show 2=q by rw [<- Hq.1];simp [h1]);clear h1;go_wp2;go_ret;exact ⟨D8 hf.1,Bw⟩
 rw [h1] at Hq;replace Hq:=AB Hq.1;clear h1;go_wp2_with fail;refine (ap9 _ p _ (HP.1.mono Bw)).mono ?_;rintro e w8 ⟨rfl,hb8⟩;replace Bw:=bT Bw hb8;replace X2:=X2.keep hb8;clear hb8
 try clear Bh Bq Bv CS
 try clear Bh Bq Bv CS
 obtain ⟨Bh,Bq,Bv,CS,-⟩:=X2.Az
 cases h1:SX (p.nodes.map (·.pt))
 case true =>
  have hf:=AB (show 8=q by rw [<- Hq.1];simp [h1]);clear h1;go_wp2;go_ret;exact ⟨D8 hf.1,Bw⟩
 rw [h1] at Hq;replace Hq:=AB Hq.1;clear h1;have DC:=AB X2;have HB:=AB Bw;clear X2 Bh Bq Bv CS Bw;simp only [Bool.not_true];go_wp2_with fail;go_loopw [3] (fun i wr=>∃ k:Nat,k<=al.length/\i=.int .i64 k/\AU w8 wr/\∀ j (hj:j<al.length),j<k->JX p al[j].1=true) (fun i _=>al.length-(intOf i).toNat)
 case atStart => exact ⟨0,BX _,rfl,bR w8,fun j _ h=>AA⟩
 case round =>
  obtain ⟨k,hk,rfl,hb,hno⟩:=hrel;have Hb:=AB hb;have Hno:=AB hno;have X1:=DC.1.keep hb;clear hb hno;obtain ⟨BJ,BK,BL,BQ,-⟩:=X1.Az;by_cases hlt:k<al.length
  case neg =>
   have hg:=AB (show p.AQ.all (JX p)=true by
    rw [aB.1,WH];exact lJ al (fun a=>JX p a.1) (fun j hj=>Hno.1 j hj AA))
   have ho:=Hq.1;rw [hg.1] at ho;replace Hq:=AB ho;clear ho;go_wp2_with fail;obtain ⟨wo,rfl⟩:=BR wr;have Dt:=AB X1;have IY:=AB (bT HB.1 Hb.1);clear X1 BJ BK BL BQ;go_loopw [6] (fun i wr=>∃ k:Nat,k<=al.length/\i=.int .i64 k/\AU wo wr/\∀ j (hj:j<al.length),j<k->(Eu p.faces al[j].1.left && Eu p.faces al[j].1.right)=true) (fun i _=>al.length-(intOf i).toNat)
   case atStart => exact ⟨0,BX _,rfl,bR wo,fun j _ h=>AA⟩
   case round =>
    obtain ⟨k,hk,rfl,hb,hno⟩:=hrel;have Hb2:=AB hb;have QY:=AB hno;have X1:=Dt.1.keep hb;clear hb hno
    try clear BJ BK BL BQ
    obtain ⟨BJ,BK,BL,BQ,-⟩:=X1.Az;by_cases hlt:k<al.length
    case neg =>
     have hg:=AB (show Rx p=true by
      unfold Rx;rw [aB.1,WH];exact lJ al (fun a=>Eu p.faces a.1.left && Eu p.faces a.1.right) (fun j hj=>QY.1 j hj AA))
     have ho:=Hq.1;rw [hg.1] at ho;replace Hq:=AB ho;clear ho;go_wp2_with fail;refine (aoD _ p _ (HP.1.mono (bT IY.1 Hb2.1)) dM dM).mono ?_;rintro e w9 ⟨rfl,Nh⟩;have B9:=bT (bT IY.1 Hb2.1) Nh
     cases h1:MZ p
     case false =>
      have hf:=AB (show 11=q by rw [<- Hq.1];simp [h1]);clear h1;go_wp2;go_ret;exact ⟨D8 hf.1,B9⟩
     case true =>
      have hf:=AB (show 0=q by rw [<- Hq.1];simp [h1]);clear h1;go_wp2;go_ret;exact ⟨D8 hf.1,B9⟩
    obtain ⟨b,o,rfl,hlb,c0,c1,c2,c3,c4,c5⟩:=(Ij.1.mono (bT IY.1 Hb2.1)).ar hlt;have q1:0<=(k:Int):=AA
    have q2:(k:Int)<al.length:=AA
    have TF:∀ (n:Int) W,AU w W->Calls prog 84 #[.agg #[vn,.slice (some ⟨b,o,none⟩) al.length ca,vf],.int .i64 n] W (fun e w'=>e=.returned (.bool (Eu p.faces n))/\AU W w'):=fun n W hW=>aos _ p n W (HP.1.mono hW)
    cases h1:Eu p.faces al[k].1.left
    case false =>
     have TL:=TF al[k].1.left;rw [h1] at TL;have HT:=AB TL;have hg:=AB (show Rx p=false by
      unfold Rx;rw [aB.1,WH];exact Y3 al (fun a=>Eu p.faces a.1.left && Eu p.faces a.1.right) k hlt (by simp [h1]))
     have hf:=AB (show 12=q by rw [<- Hq.1];simp [hg.1]);clear h1 TF TL;go_upto_region 18 with fail;refine D9 (wr) (.run 7 0 0 (.call 7 255 (.run 12 8 255 (.done)))) fun CQ QR Ae Aj hS=>?_
     iterate 7 refine Ak ?_
     refine II (HT.1 _ (bT (bT IY.1 Hb2.1) hS)) ?_;clear hS;intro BZ BU hS
     iterate 2 refine Ak ?_
     iterate 9 refine JW ?_
     refine Ak ?_;refine D5 ?_;clear hS Aj Ae;intro hB;go_wp2;go_ret;exact ⟨D8 hf.1,bT (bT IY.1 Hb2.1) hB⟩
    case true =>
     have TL:=TF al[k].1.left;rw [h1] at TL;obtain ⟨HT,HU,H1⟩:=CG TL (TF al[k].1.right) h1;clear h1 TF TL;go_upto_region 18 with fail;refine D9 (wr) (.run 7 0 0 (.call 7 255 (.run 9 8 255 (.call 17 262143 (.take 18 524287 (.take 19 1048575 (.done))))))) fun CQ QR Ae Aj hS=>?_
     iterate 7 refine Ak ?_
     refine II (HT.1 _ (bT (bT IY.1 Hb2.1) hS)) ?_;clear hS;intro BZ BU hS
     iterate 2 refine Ak ?_
     iterate 7 refine E5 ?_
     refine II (HU.1 _ (bT (bT IY.1 Hb2.1) hS)) ?_;clear hS;intro wr2 Du hS;refine E5 ?_;refine Ak ?_;refine D5 ?_;clear hS Aj Ae;intro hB;have B3:=bT Hb2.1 hB
     cases h2:Eu p.faces al[k].1.right
     case false =>
      have hg:=AB (show Rx p=false by
       unfold Rx;rw [aB.1,WH];exact Y3 al (fun a=>Eu p.faces a.1.left && Eu p.faces a.1.right) k hlt (by simp [h2]))
      have hf:=AB (show 12=q by rw [<- Hq.1];simp [hg.1]);clear h2;go_wp2;go_ret;exact ⟨D8 hf.1,bT IY.1 B3⟩
     case true =>
      have hg:=AB (show (Eu p.faces al[k].1.left && Eu p.faces al[k].1.right)=true by rw [H1.1,h2];rfl);clear h2;go_wp2;go_roundw
      case rel => exact ⟨k+1,AA,BG,B3,all_succ (p:=fun x=>(Eu p.faces x.1.left && Eu p.faces x.1.right)=true) QY.1 hlt hg.1⟩
      case measure => exact BH
  obtain ⟨b,o,rfl,hlb,c0,c1,c2,c3,c4,c5⟩:=(Ij.1.mono (bT HB.1 Hb.1)).ar hlt;have hvk:=(HV.1 k hlt);obtain ⟨Av,cv,hv,-⟩:=hvk;have hvk:=(HV.1 k hlt);rw [hv] at c3 hvk;generalize hvl:al[k].1.via.length=vl at c3;have ad1:=AB hvl;have SN:=AB hvk;have q1:0<=(k:Int):=AA
  have q2:(k:Int)<al.length:=AA
  clear hvk hv hvl;have TL:∀ W,AU w W->Calls prog 64 #[.agg #[vn,.slice (some ⟨b,o,none⟩) al.length ca,vf],.agg #[.int .i64 al[k].1.id,.int .i64 al[k].1.fr,.int .i64 al[k].1.dst,.slice Av vl cv,.int .i64 al[k].1.left,.int .i64 al[k].1.right]] W (ads W (AV p al[k].1) (JX p al[k].1)):=fun W hW=>by
   have:=adt _ _ p al[k].1 _ (HP.1.mono hW) (SN.1.mono hW) (ED.1 _ (by rw [aB.1];exact FZ (BO hlt)))
   rw [ad1.1] at this;exact this
  have HT:=AB TL;clear TL;go_upto_region 12 with fail;refine D9 (wr) (.run 6 0 0 (.call 6 127 (.run 5 7 127 (.done)))) fun CQ QR Ae Aj hS=>?_
  iterate 6 refine Ak ?_
  refine BN ?_;clear hS;intro K hK AP;go_simp;refine (HT.1 _ (bT (bT HB.1 Hb.1) AP.out)).mono ?_;rintro e BZ ⟨v1,rfl,BU,ho1⟩;have hS:Since wr BZ:=bT (w:=wr) AP.out BU;clear AP;refine hK.out _ _ hS (fun _=>?_);clear hK K
  try simp only [pu]
  iterate 5 refine Ak ?_
  refine D5 ?_;clear hS Aj Ae;intro hB;have B3:=bT Hb.1 hB
  cases h2:JX p al[k].1
  case false =>
   have hg:=AB (show p.AQ.all (JX p)=false by
    rw [aB.1,WH];exact Y3 al (fun a=>JX p a.1) k hlt h2)
   have hf:=AB (show 7=q by rw [<- Hq.1];simp [hg.1]);clear h2;go_wp2;go_ret;exact ⟨D8 hf.1,bT HB.1 B3⟩
  case true =>
   have hg:=AB h2;clear h2;go_wp2;go_roundw
   case rel => exact ⟨k+1,AA,BG,B3,all_succ (p:=fun x=>JX p x.1=true) Hno.1 hlt hg.1⟩
   case measure => exact BH
def hasB (l:List Int) (a:Ar):Bool:=l.any (fun y=>y == a.fr) && l.any (fun y=>y == a.dst)
def Tq (p:Pl) (l:List Int):Int :=
 if SX (p.nodes.map (·.pt))=true then 8 else if p.AQ.all (hasB l)=false then 7 else if Rx p=false then 12 else 0
theorem aoF (v u:Value) (p:Pl) (l:List Int) (w:World) (h:D6 w v p) (hu:Ints w u l) :
  Calls prog 50 #[v,u] w fun e w'=>e=.returned (.int .i64 (Tq p l))/\AU w w':=by
 obtain ⟨_,_,vf,al,rfl,hpa,⟨An,cn,rfl,hn1,hn2,hR⟩,⟨⟨Aa,ca,rfl,ha1,ha2,FT⟩,hV⟩,hF⟩:=h;unfold maxLen at hn2 ha2;have HF:=AB hF;clear hF;have HU:=AB hu;clear hu;have HV:=AB hV;clear hV;have HR:=AB hR;clear hR;have Ij:=AB FT;clear FT;have hc:Tq p l=if SX (p.nodes.map (·.pt))=true then 8 else if al.all (fun a=>hasB l a.1)=false then 7 else if al.all (fun a=>Eu p.faces a.1.left && Eu p.faces a.1.right)=false then 12 else 0:=by
  unfold Tq Rx;rw [hpa,WH,WH];rfl
 obtain ⟨q,hq⟩:=BI (Tq p l);rw [hq];rw [hc] at hq;have Hq:=AB hq;clear hq hc hpa;generalize p.nodes=nl at *;generalize p.faces=fl at *;go_enter func50,ntmps50;go_wp2_with fail;obtain ⟨W0,hW0⟩:=BR (w.alloc (.cells #[.slice An nl.length cn,.slice Aa al.length ca,vf] 34));have X1:AO W0 w.heap.size 34 #[.slice An nl.length cn,.slice Aa al.length ca,vf]:=by rw [hW0];exact AO.made rfl _ _
 have Fj:AU w W0:=by rw [hW0];exact bA (bR w) _
 rw [<- hW0];have HX0:=AB X1;have HB0:=AB Fj;clear hW0 X1 Fj;go_loopw [18] (fun s wr=>∃ i:Nat,i<=nl.length/\s=.int .i64 i/\AU W0 wr/\∀ j k (hk:k<j) (hj:j<nl.length),j<i->¬ nl[j].pt=nl[k].pt) (fun s _=>nl.length-(intOf s).toNat)
 case atStart => exact ⟨0,BX _,rfl,bR W0,fun _ _ _ _ h=>AA⟩
 case round =>
  obtain ⟨i,hi,rfl,hb,hno⟩:=hrel;have Hb:=AB hb;have Hno:=AB hno;have X1:=HX0.1.keep hb;clear hb hno;obtain ⟨BJ,BK,BL,BQ,-⟩:=X1.Az;by_cases hlt:i<nl.length
  case pos =>
   obtain ⟨b,o,rfl,hlb,c0,c1,c2⟩:=(HR.1.mono (bT HB0.1 Hb.1)).nd hlt;go_wp2_with fail;obtain ⟨W1,hW1⟩:=BR (wr.alloc (.cells #[.int .i64 nl[i].id,.int .i64 nl[i].pt.x,.int .i64 nl[i].pt.y] 47));have B1:AU W0 W1:=by rw [hW1];exact bA Hb.1 _
   have X6:AO W1 wr.heap.size 47 #[.int .i64 nl[i].id,.int .i64 nl[i].pt.x,.int .i64 nl[i].pt.y]:=by rw [hW1];exact AO.made rfl _ _
   rw [<- hW1];have JM:=AB X6;have HB1:=AB B1;clear c0 c1 c2 hlb hW1 X1 BJ BK BL BQ X6 B1;obtain ⟨wo,rfl⟩:=BR wr;go_loopw [28] (fun s wx=>∃ k:Nat,k<=i/\s=.int .i64 k/\AU W1 wx/\∀ m (hm:m<nl.length),m<k->¬ nl[i].pt=nl[m].pt) (fun s _=>i-(intOf s).toNat)
   case atStart => exact ⟨0,BX _,rfl,bR W1,fun _ _ h=>AA⟩
   case round =>
    obtain ⟨k,hk,rfl,hb,LP⟩:=hrel;have Hb2:=AB hb;have QY:=AB LP;have X6:=JM.1.keep hb;clear hb LP;by_cases hlk:k<i
    case neg =>
     have HN:=AB (show ∀ j m (hm:m<j) (hj:j<nl.length),j<i+1->¬ nl[j].pt=nl[m].pt from fun j m hm hj hji=>by
      by_cases e:j<i
      · exact Hno.1 j m hm hj e
      ·have:j=i:=AA
       subst this;exact QY.1 m AA AA)
     go_wp2;go_roundw
     case rel => exact ⟨i+1,AA,BG,bT HB1.1 Hb2.1,HN.1⟩
     case measure => exact BH
    have hkl:k<nl.length:=AA
    obtain ⟨b',o',Ik,hlb,c0,c1,c2⟩:=(HR.1.mono (bT HB0.1 (bT HB1.1 Hb2.1))).nd hkl;simp only [Gt,Addr.mk.injEq,and_true] at Ik;obtain ⟨rfl,rfl⟩:=Ik;obtain ⟨FU,FV,FW,QZ,-⟩:=X6.Az;have hE:=KP nl[i].pt nl[k].pt;by_cases he:nl[i].pt=nl[k].pt
    ·have hd:decide (nl[i].pt=nl[k].pt)=true:=JB he;have hf:=AB (show 8=q by rw [<- Hq.1,AZ (adl (nl.map (·.pt)) i k hlk (by simpa using hlt) (by simpa using he))]);clear he;go_wp2;go_ret;exact ⟨D8 hf.1,bT HB0.1 (bT HB1.1 (bA Hb2.1 _))⟩
    ·have hd:decide (nl[i].pt=nl[k].pt)=false:=Fg he;have He:=AB he;clear he;go_wp2;go_roundw
     case rel => exact ⟨k+1,AA,BG,bA Hb2.1 _,fun m hm hmk=>if e:m<k then QY.1 m hm e else by
       have:m=k:=AA
       subst this;exact He.1⟩
     case measure => exact BH
  case neg =>
  have hd:=AB (adn (nl.map (·.pt)) (fun j m hm hj=>by
    have:=Hno.1 j m hm ZE (by rw [CV] at hj;omega)
    simpa using this))
  have ho:=Hq.1;rw [hd.1] at ho;simp only [QL,if_false] at ho;replace Hq:=AB ho;clear ho hd;go_wp2_with fail;obtain ⟨wo,rfl⟩:=BR wr;have Dt:=AB X1;have IY:=AB (bT HB0.1 Hb.1);clear X1 BJ BK BL BQ Hno;go_loopw [42] (fun s wr=>∃ k:Nat,k<=al.length/\s=.int .i64 k/\AU wo wr/\∀ j (hj:j<al.length),j<k->hasB l al[j].1=true) (fun s _=>al.length-(intOf s).toNat)
  case atStart => exact ⟨0,BX _,rfl,bR wo,fun _ _ h=>AA⟩
  case round =>
   obtain ⟨k,hk,rfl,hb,hno⟩:=hrel;have Hb2:=AB hb;have Hno:=AB hno;have X1:=Dt.1.keep hb;clear hb hno
   try clear BJ BK BL BQ
   obtain ⟨BJ,BK,BL,BQ,-⟩:=X1.Az;by_cases hlt:k<al.length
   case pos =>
    obtain ⟨b,o,rfl,hlb,c0,c1,c2,c3,c4,c5⟩:=(Ij.1.mono (bT IY.1 Hb2.1)).ar hlt;obtain ⟨Av,cv,hv,-⟩:=HV.1 k hlt;rw [hv] at c3;clear hv;go_wp2_with fail;refine (aaI _ l _ _ (HU.1.mono (bA (bT IY.1 Hb2.1) _))).mono ?_;rintro e w2 ⟨rfl,hb2⟩;have B2:=bT (bA Hb2.1 _) hb2;have CB:AO w2 wr.heap.size 50 _:=(AO.made rfl _ _).keep hb2;clear hb2 c0 c1 c2 c3 c4 c5 hlb;obtain ⟨Gz,Hg,Hu,ND,gq,gu,gy,-⟩:=CB.Iy
    cases h1:l.any (fun y=>y == al[k].1.fr)
    case false =>
     have hg:=AB (Y3 al (fun a=>hasB l a.1) k hlt (by simp [hasB,h1]));have hf:=AB (show 7=q by rw [<- Hq.1,AZ hg.1]);clear h1;go_wp2;go_ret;exact ⟨D8 hf.1,bT IY.1 B2⟩
    have H1:=AB h1;clear h1;go_wp2_with fail;refine (aaI _ l _ _ (HU.1.mono (bT IY.1 B2))).mono ?_;rintro e w3 ⟨rfl,hb3⟩;have B3:=bT B2 hb3;clear hb3 CB Gz Hg Hu ND gq gu gy
    cases h1:l.any (fun y=>y == al[k].1.dst)
    case false =>
     have hg:=AB (Y3 al (fun a=>hasB l a.1) k hlt (by simp [hasB,h1]));have hf:=AB (show 7=q by rw [<- Hq.1,AZ hg.1]);clear h1;go_wp2;go_ret;exact ⟨D8 hf.1,bT IY.1 B3⟩
    have hg:=AB (show hasB l al[k].1=true by simp only [hasB,H1.1,h1];rfl);clear h1;go_wp2;go_roundw
    case rel => exact ⟨k+1,AA,BG,B3,all_succ (p:=fun x=>hasB l x.1=true) Hno.1 hlt hg.1⟩
    case measure => exact BH
   case neg =>
   have hd:=AB (lJ al (fun a=>hasB l a.1) (fun j hj=>Hno.1 j hj AA));have ho:=Hq.1;rw [hd.1] at ho;simp only [Bool.true_eq_false,if_false] at ho;replace Hq:=AB ho;clear ho hd;go_wp2_with fail;obtain ⟨wq,rfl⟩:=BR wr;replace Dt:=AB X1;replace IY:=AB (bT IY.1 Hb2.1);clear X1 BJ BK BL BQ Hno Hb2;go_loopw [62] (fun s wr=>∃ k:Nat,k<=al.length/\s=.int .i64 k/\AU wq wr/\∀ j (hj:j<al.length),j<k->(Eu fl al[j].1.left && Eu fl al[j].1.right)=true) (fun s _=>al.length-(intOf s).toNat)
   case atStart => exact ⟨0,BX _,rfl,bR wq,fun _ _ h=>AA⟩
   case round =>
    obtain ⟨k,hk,rfl,hb,hno⟩:=hrel;have Hb2:=AB hb;have Hno:=AB hno;have X1:=Dt.1.keep hb;clear hb hno
    try clear BJ BK BL BQ
    obtain ⟨BJ,BK,BL,BQ,-⟩:=X1.Az;by_cases hlt:k<al.length
    case neg =>
     have hd:=AB (lJ al (fun a=>Eu fl a.1.left && Eu fl a.1.right) (fun j hj=>Hno.1 j hj AA));have hf:=AB (show 0=q by rw [<- Hq.1,hd.1];rfl);go_wp2;go_ret;exact ⟨D8 hf.1,bT IY.1 Hb2.1⟩
    obtain ⟨b,o,rfl,hlb,c0,c1,c2,c3,c4,c5⟩:=(Ij.1.mono (bT IY.1 Hb2.1)).ar hlt;obtain ⟨Av,cv,hv,-⟩:=HV.1 k hlt;rw [hv] at c3;clear hv;go_wp2_with fail;obtain ⟨W5,IZ⟩:=BR (wr.alloc (.cells #[.int .i64 al[k].1.id,.int .i64 al[k].1.fr,.int .i64 al[k].1.dst,.slice Av al[k].1.via.length cv,.int .i64 al[k].1.left,.int .i64 al[k].1.right] 50));have PO:AU wr W5:=by rw [IZ];exact bA (bR wr) _
    have Ce:=AB (bT Hb2.1 PO);have DX:=AB (X1.keep PO);rw [<- IZ];clear c0 c1 c2 c3 c4 c5 hlb IZ PO X1 BJ BK BL BQ;obtain ⟨wp,rfl⟩:=BR wr;go_loopw [71] (fun s wx=>∃ j:Int,(j=0\/j=1\/j=2)/\s=.int .i64 j/\AU W5 wx/\(1<=j->Eu fl al[k].1.left=true)/\(2<=j->Eu fl al[k].1.right=true)) (fun s _=>2-(intOf s).toNat)
    case atStart => exact ⟨0,AA,rfl,bR W5,fun h=>AA,fun h=>AA⟩
    case round =>
     obtain ⟨j,hj,rfl,hb,hl,hr⟩:=hrel;obtain ⟨Hb3,Hl,Hr⟩:=CG hb hl hr;clear hb hl hr;rcases hj with rfl | rfl | rfl
     ·have hI:∀ w,(Instr.index 124 (.agg #[.int .i64 al[k].1.left,.int .i64 al[k].1.right]) (.int .i64 0)).run prog w=.ok (.int .i64 al[k].1.left) w:=fun _=>by kernel_rfl
      cases hz:(al[k].1.left != 0)
      case false =>
       have hg:=AB (show Eu fl al[k].1.left=true by
        have:al[k].1.left=0:=by simpa [bne_eq_false_iff_eq] using hz
        simp [Eu,this])
       go_wp2;go_roundw
       case rel => exact ⟨1,AA,rfl,Hb3.1,fun h=>by first | exact hg.1 | exact Hl.1 AA,fun h=>by first | omega | exact hg.1⟩
       case measure => simp [intOf]
      have X1:=DX.1.keep Hb3.1
      try clear BJ BK BL BQ
      obtain ⟨BJ,BK,BL,BQ,-⟩:=X1.Az;go_wp2_with fail;refine (aaI _ fl _ _ (HF.1.mono (bT IY.1 (bT Ce.1 Hb3.1)))).mono ?_;rintro e w6 ⟨rfl,hb6⟩;have B6:=bT Hb3.1 hb6;clear hb6 X1 BJ BK BL BQ
      cases h1:fl.any (fun y=>y == al[k].1.left)
      case false =>
       have hfc:=AB (show Eu fl al[k].1.left=false by
        have:¬ al[k].1.left=0:=by simpa using hz
        simp only [Eu,h1];simpa using this)
       have hg:=AB (Y3 al (fun a=>Eu fl a.1.left && Eu fl a.1.right) k hlt (by simp [hfc.1]));have hf:=AB (show 12=q by rw [<- Hq.1,AZ hg.1]);clear h1;go_wp2;go_ret;exact ⟨D8 hf.1,bT IY.1 (bT Ce.1 B6)⟩
      have hg:=AB (show Eu fl al[k].1.left=true by simp [Eu,h1]);clear h1;go_wp2;go_roundw
      case rel => exact ⟨1,AA,rfl,B6,fun h=>by first | exact hg.1 | exact Hl.1 AA,fun h=>by first | omega | exact hg.1⟩
      case measure => simp [intOf]
     ·have hI:∀ w,(Instr.index 124 (.agg #[.int .i64 al[k].1.left,.int .i64 al[k].1.right]) (.int .i64 1)).run prog w=.ok (.int .i64 al[k].1.right) w:=fun _=>by kernel_rfl
      cases hz:(al[k].1.right != 0)
      case false =>
       have hg:=AB (show Eu fl al[k].1.right=true by
        have:al[k].1.right=0:=by simpa [bne_eq_false_iff_eq] using hz
        simp [Eu,this])
       go_wp2;go_roundw
       case rel => exact ⟨2,AA,rfl,Hb3.1,fun h=>by first | exact hg.1 | exact Hl.1 AA,fun h=>by first | omega | exact hg.1⟩
       case measure => simp [intOf]
      have X1:=DX.1.keep Hb3.1
      try clear BJ BK BL BQ
      obtain ⟨BJ,BK,BL,BQ,-⟩:=X1.Az;go_wp2_with fail;refine (aaI _ fl _ _ (HF.1.mono (bT IY.1 (bT Ce.1 Hb3.1)))).mono ?_;rintro e w6 ⟨rfl,hb6⟩;have B6:=bT Hb3.1 hb6;clear hb6 X1 BJ BK BL BQ
      cases h1:fl.any (fun y=>y == al[k].1.right)
      case false =>
       have hfc:=AB (show Eu fl al[k].1.right=false by
        have:¬ al[k].1.right=0:=by simpa using hz
        simp only [Eu,h1];simpa using this)
       have hg:=AB (Y3 al (fun a=>Eu fl a.1.left && Eu fl a.1.right) k hlt (by simp [hfc.1]));have hf:=AB (show 12=q by rw [<- Hq.1,AZ hg.1]);clear h1;go_wp2;go_ret;exact ⟨D8 hf.1,bT IY.1 (bT Ce.1 B6)⟩
      have hg:=AB (show Eu fl al[k].1.right=true by simp [Eu,h1]);clear h1;go_wp2;go_roundw
      case rel => exact ⟨2,AA,rfl,B6,fun h=>by first | exact hg.1 | exact Hl.1 AA,fun h=>by first | omega | exact hg.1⟩
      case measure => simp [intOf]
     ·have hg:=AB (show (Eu fl al[k].1.left && Eu fl al[k].1.right)=true by rw [Hl.1 AA,Hr.1 AA];rfl);go_wp2;go_roundw
      case rel => exact ⟨k+1,AA,BG,bT Ce.1 Hb3.1,all_succ (p:=fun x=>(Eu fl x.1.left && Eu fl x.1.right)=true) Hno.1 hlt hg.1⟩
      case measure => exact BH
