import Derived.Test.YtialfdomhoojiaaGreatJ03
set_option linter.unusedSimpArgs false
set_option linter.unusedVariables false
set_option maxRecDepth 100000
set_option maxHeartbeats 8000000
namespace Go.Proofs.YtialfdomhoojiaaGreat
open Go.RowKit
def Vh (o p:Pt):Bool:=decide (p.y<o.y) || (decide (p.y=o.y) && decide (p.x<o.x))
def Si (o a b:Pt):Bool:=Dy [o,a,b] && (!decide (a=o) && (!decide (b=o) && (if Vh o a=Vh o b then decide (0<tw o a b) else Vh o b)))
def Yk (o a:Pt):Int:=if 0<a.x-o.x/\0<=a.y-o.y then 0 else if a.x-o.x<=0/\0<a.y-o.y then 1 else if a.x-o.x<0 then 2 else 3
def Ym (o a b:Pt):Bool:=Dy [o,a,b] && (!decide (a=o) && (!decide (b=o) && (decide (Yk o a<Yk o b) || (decide (Yk o a=Yk o b) && decide (0<BM o a o b)))))
def ER (x y:Int):Prop:=y<0\/(y=0/\x<0)
def OG (ux uy vx vy:Int):Prop:=(¬ ER ux uy/\ER vx vy)\/((ER ux uy↔ER vx vy)/\0<ux*vy-uy*vx)
theorem ao8 (ux uy:Int):¬ OG ux uy ux uy:=by
 rintro (⟨h1,h2⟩ | ⟨-,h⟩)
 · exact h1 h2
 · rw [KL uy ux] at h;omega
theorem three (ux uy vx vy wx wy:Int):vy*(ux*wy-uy*wx)=uy*(vx*wy-vy*wx)+wy*(ux*vy-uy*vx):=by grind
theorem ag3 {v A:Int} (hv:0<v) (h:0<v*A):0<A:=by
 rcases aam 0 A with h1 | h1
 · exact h1
 · have:=aAA (fM hv) h1;omega
theorem ao9 {v A:Int} (hv:0<v) (h:0<=v*A):0<=A:=by
 rcases aam A 0 with h1 | h1
 · have:=Wj hv h1;omega
 · exact h1
def aA (x y:Int):Prop:=0<y\/(y=0/\0<x)
theorem ag4 {ux uy vx vy wx wy:Int} (hu:aA ux uy) (hv:aA vx vy) (hw:aA wx wy) (h1:0<=ux*vy-uy*vx) (h2:0<=vx*wy-vy*wx) :
  0<=ux*wy-uy*wx/\(0<ux*vy-uy*vx\/0<vx*wy-vy*wx->0<ux*wy-uy*wx):=by
 have e:=three ux uy vx vy wx wy;unfold aA at *;rcases hv with hv | ⟨rfl,hv⟩
 ·have hw':0<wy:=by
   rcases hw with hw | ⟨rfl,hw⟩
   · exact hw
   ·have:=JO hv hw
    rw [KN] at h2;omega
  have a1:0<=uy*(vx*wy-vy*wx):=KQ AB h2;have a2:0<=wy*(ux*vy-uy*vx):=KQ AB h1;refine ⟨ao9 hv AB,fun h=>ag3 hv ?_⟩;rcases h with h | h
  · have:=JO hw' h;omega
  ·rcases hu with hu | ⟨rfl,hu⟩
   · have:=JO hu h;omega
   ·have h3:=JO hu hv;have:=JO hw' (show 0<ux*vy-0*vx by rw [JQ];omega)
    omega
 ·have hu':uy=0:=by
   rcases hu with hu | ⟨hu,-⟩
   ·have:=JO hu hv
    rw [KN] at h1;omega
   · exact hu
  subst hu';have hu2:0<ux:=by omega
  rw [JQ] at h2 ⊢;rw [JQ,KN];have hwy:0<=wy:=by omega
  have a1:=KQ (fM hu2) hwy;refine ⟨AB,fun h=>?_⟩;rcases h with h | h
  · omega
  ·have:0<wy:=ag3 hv AB
   have:=JO hu2 this
   omega
theorem acO {x y:Int} (h0:¬ (x=0/\y=0)):¬ ER x y↔aA x y:=by
 unfold ER aA;omega
theorem acP {x y:Int}:ER x y↔aA (-x) (-y):=by
 unfold ER aA;omega
theorem ag5 {ux uy vx vy wx wy:Int} (hu:¬ (ux=0/\uy=0)) (hv:¬ (vx=0/\vy=0)) (hw:¬ (wx=0/\wy=0)) (huv:ER ux uy↔ER vx vy) (hvw:ER vx vy↔ER wx wy) (h1:0<=ux*vy-uy*vx) (h2:0<=vx*wy-vy*wx) :
  0<=ux*wy-uy*wx/\(0<ux*vy-uy*vx\/0<vx*wy-vy*wx->0<ux*wy-uy*wx):=by
 by_cases hl:ER vx vy
 ·have:=ag4 (acP.1 (huv.2 hl)) (acP.1 hl) (acP.1 (hvw.1 hl))
  simp only [Int.neg_mul_neg] at this;exact this h1 h2
 · exact ag4 ((acO hu).1 (fun h=>hl (huv.1 h))) ((acO hv).1 hl) ((acO hw).1 (fun h=>hl (hvw.2 h))) h1 h2
theorem aoA {ux uy vx vy wx wy:Int} (hu:¬ (ux=0/\uy=0)) (hv:¬ (vx=0/\vy=0)) (hw:¬ (wx=0/\wy=0)) (h1:OG ux uy vx vy) (h2:OG vx vy wx wy):OG ux uy wx wy:=by
 unfold OG at *;rcases h1 with ⟨a1,a2⟩ | ⟨a1,a2⟩
 ·rcases h2 with ⟨b1,b2⟩ | ⟨b1,b2⟩
  · exact absurd a2 b1
  · exact .inl ⟨a1,b1.1 a2⟩
 ·rcases h2 with ⟨b1,b2⟩ | ⟨b1,b2⟩
  · exact .inl ⟨fun h=>b1 (a1.1 h),b2⟩
  · exact .inr ⟨a1.trans b1,(ag5 hu hv hw a1 b1 AB AB).2 (.inl a2)⟩
theorem aoB {ux uy vx vy wx wy:Int} (hu:¬ (ux=0/\uy=0)) (hv:¬ (vx=0/\vy=0)) (hw:¬ (wx=0/\wy=0)) (h1:¬ OG ux uy vx vy) (h2:¬ OG vx vy wx wy):¬ OG ux uy wx wy:=by
 have key:∀ {ax ay bx b:Int},¬ OG ax ay bx b->(ER ax ay/\¬ ER bx b)\/((ER bx b↔ER ax ay)/\0<=bx*ay-b*ax):=by
  intro ax ay bx b h;unfold OG at h;by_cases l1:ER ax ay
  ·by_cases l2:ER bx b
   ·refine .inr ⟨by simp [l1,l2],?_⟩;rw [KL bx,KL b];rcases aam (ay*bx-ax*b) 0 with h3 | h3
    · exact absurd (.inr ⟨by simp [l1,l2],AB⟩) h
    · exact h3
   · exact .inl ⟨l1,l2⟩
  ·by_cases l2:ER bx b
   · exact absurd (.inl ⟨l1,l2⟩) h
   ·refine .inr ⟨by simp [l1,l2],?_⟩;rw [KL bx,KL b];rcases aam (ay*bx-ax*b) 0 with h3 | h3
    · exact absurd (.inr ⟨by simp [l1,l2],AB⟩) h
    · exact h3
 intro h3;rcases key h1 with ⟨a1,a2⟩ | ⟨a1,a2⟩
 ·rcases key h2 with ⟨b1,b2⟩ | ⟨b1,b2⟩
  · exact a2 b1
  ·rcases h3 with ⟨c1,c2⟩ | ⟨c1,c2⟩
   · exact c1 a1
   · exact a2 (b1.1 (c1.1 a1))
 ·rcases key h2 with ⟨b1,b2⟩ | ⟨b1,b2⟩
  ·rcases h3 with ⟨c1,c2⟩ | ⟨c1,c2⟩
   · exact c1 (a1.1 b1)
   · exact b2 (c1.1 (a1.1 b1))
  ·rcases h3 with ⟨c1,c2⟩ | ⟨c1,c2⟩
   · exact c1 (a1.1 (b1.1 c2))
   ·have:=(ag5 hw hv hu b1 a1 b2 a2).1
    rw [KL wx,KL wy] at this;omega
def Yn (x y:Int):Int:=if 0<x/\0<=y then 0 else if x<=0/\0<y then 1 else if x<0 then 2 else 3
theorem ag6 {x y:Int} (h:¬ (x=0/\y=0)):(Yn x y=0/\0<x/\0<=y)\/(Yn x y=1/\x<=0/\0<y)\/(Yn x y=2/\x<0/\y<=0)\/(Yn x y=3/\0<=x/\y<0):=by
 unfold Yn;split
 · omega
 ·split
  · omega
  ·split
   · omega
   · omega
theorem aoC {ux uy vx vy:Int} (hu:¬ (ux=0/\uy=0)) (hv:¬ (vx=0/\vy=0)):(Yn ux uy<Yn vx vy\/(Yn ux uy=Yn vx vy/\0<ux*vy-uy*vx))↔OG ux uy vx vy:=by
 unfold OG;have np:∀ {a b:Int},0<=a->b<=0->a*b<=0:=fun h1 h2=>aAA h1 h2;have pn:∀ {a b:Int},a<=0->0<=b->a*b<=0:=fun h1 h2=>aAB h1 h2;rcases ag6 hu with ⟨e1,a1,a2⟩ | ⟨e1,a1,a2⟩ | ⟨e1,a1,a2⟩ | ⟨e1,a1,a2⟩<;>rcases ag6 hv with ⟨e2,b1,b2⟩ | ⟨e2,b1,b2⟩ | ⟨e2,b1,b2⟩ | ⟨e2,b1,b2⟩<;>rw [e1,e2]
 case inl.inr.inl =>
  have h1:=JO a1 b2;have h2:=np a2 b1;have l1:¬ ER ux uy:=by unfold ER;omega
  have l2:¬ ER vx vy:=by unfold ER;omega
  simp only [l1,l2,iff_self,true_and,not_false_eq_true,and_false,false_or,not_true_eq_false,false_and];omega
 case inr.inl.inl =>
  have h1:=pn a1 b2;have h2:=JO a2 b1;have l1:¬ ER ux uy:=by unfold ER;omega
  have l2:¬ ER vx vy:=by unfold ER;omega
  simp only [l1,l2,iff_self,true_and,not_false_eq_true,and_false,false_or,not_true_eq_false,false_and];omega
 case inr.inr.inl.inr.inr.inr =>
  have h1:=rW a1 b2;have h2:=pn a2 b1;have l1:ER ux uy:=by unfold ER;omega
  have l2:ER vx vy:=by unfold ER;omega
  simp only [l1,l2,iff_self,true_and,not_false_eq_true,and_false,false_or,not_true_eq_false,false_and];omega
 case inr.inr.inr.inr.inr.inl =>
  have h1:=np a1 b2;have h2:=rW a2 b1;have l1:ER ux uy:=by unfold ER;omega
  have l2:ER vx vy:=by unfold ER;omega
  simp only [l1,l2,iff_self,true_and,not_false_eq_true,and_false,false_or,not_true_eq_false,false_and];omega
 all_goals
  first
  | ((have l1:¬ ER ux uy:=by unfold ER;omega);(have l2:¬ ER vx vy:=by unfold ER;omega);(simp only [l1,l2,iff_self,true_and,not_false_eq_true,and_false,false_or,not_true_eq_false,false_and];omega))
  | ((have l1:ER ux uy:=by unfold ER;omega);(have l2:ER vx vy:=by unfold ER;omega);(simp only [l1,l2,iff_self,true_and,not_false_eq_true,and_false,false_or,not_true_eq_false,false_and];omega))
  | ((have l1:¬ ER ux uy:=by unfold ER;omega);(have l2:ER vx vy:=by unfold ER;omega);simp [l1,l2])
  | ((have l1:ER ux uy:=by unfold ER;omega);(have l2:¬ ER vx vy:=by unfold ER;omega);simp [l1,l2])
theorem ahB (o p:Pt):Vh o p=true↔ER (p.x-o.x) (p.y-o.y):=by
 unfold Vh ER;simp only [L6,Em,E8];omega
theorem uH {a o:Pt}:a≠o↔¬ (a.x-o.x=0/\a.y-o.y=0):=by
 rw [Ne,Pt.ext_iff'];omega
def ET (o a b:Pt):Prop:=OG (a.x-o.x) (a.y-o.y) (b.x-o.x) (b.y-o.y)
theorem abp (o a b:Pt):Si o a b=true↔Dy [o,a,b]=true/\a≠o/\b≠o/\ET o a b:=by
 unfold Si;simp only [Em,Ru,J3];refine and_congr_right fun _=>and_congr_right fun _=>and_congr_right fun _=>?_;unfold ET OG;rw [<- ahB,<- ahB]
 show _↔_\/(_/\0<tw o a b)
 cases Vh o a<;>cases Vh o b<;>simp
theorem anZ (o a b:Pt):Ym o a b=true↔Dy [o,a,b]=true/\a≠o/\b≠o/\ET o a b:=by
 unfold Ym;simp only [Em,Ru,J3];refine and_congr_right fun _=>and_congr_right fun h1=>and_congr_right fun h2=>?_;rw [L6,Em,E8,E8,E8];exact aoC (uH.1 h1) (uH.1 h2)
theorem ana (o a b:Pt):Si o a b=Ym o a b:=by
 rw [LX,abp,anZ]
def Oe (s t:Sg) (x:Nd):Bool:=Vf s.arc x.id && Vf t.arc x.id && LZ s.a s.b x.pt && LZ t.a t.b x.pt
def PU (p:Pl) (s t:Sg):Bool:=if Fp s.a s.b t.a t.b=1 then p.nodes.any (Oe s t) else Fp s.a s.b t.a t.b == 0
theorem anb (v:Value) (p:Pl) (s t:Sg) (A A':Option Addr) (n n' c c':Nat) (w:World) (h:Cb w v p) :
  Calls Tryz.prog 191 #[v,Rk s (.slice A n c),Rk t (.slice A' n' c')] w fun e w'=>e=.returned (.bool (PU p s t))/\AP w w':=by
 have TM:∀ W,Calls Tryz.prog 248 #[BD s.a,BD s.b,BD t.a,BD t.b] W _:=fun W=>afx s.a s.b t.a t.b W;have TE:∀ (a:Ar) (A:Option Addr) (n c:Nat) (id:Int) W,Calls Tryz.prog 249 #[.agg #[.int .i64 a.id,.int .i64 a.fr,.int .i64 a.dst,.slice A n c,.int .i64 a.left,.int .i64 a.right],.int .i64 id] W _:=fun a A n c id W=>ao0 a A n c id W;have TO:∀ p q r:Pt,∀ W,Calls Tryz.prog 150 #[BD p,BD q,BD r] W _:=fun p q r W=>agG p q r W;unfold BD at TM TO;have HM:=AA TM;clear TM;have HE:=AA TE;clear TE;have HO:=AA TO;clear TO;obtain ⟨_,va,vf,al,rfl,-,⟨An,cn,rfl,hn1,hn2,hR⟩,-,-⟩:=h;unfold maxLen at hn2;have HR:=AA hR;clear hR;unfold Rk;obtain ⟨q,hq⟩:=BL (PU p s t);rw [hq];unfold PU at hq;generalize p.nodes=l at *;have Hq:=AA hq;clear hq;go_enter Tryz.func191,Tryz.ntmps191;go_wp2_with fail;refine (HM.out _).mono ?_;rintro e w1 ⟨rfl,hb1⟩;have Bw:AP w w1:=by
  exact Dk
 have X2:AO _ (w.heap.size) 26 #[.slice An l.length cn,va,vf]:=AO.keep (by repeat (first | exact AO.made Aw _ _ | refine AO.alloc ?_ _)) hb1;have X3:AO _ (w.heap.size+1) 202 #[.int .i64 s.arc.id,.int .i64 s.arc.fr,.int .i64 s.arc.dst,.slice A n c,.int .i64 s.arc.left,.int .i64 s.arc.right,.int .i64 s.i,.int .i64 s.n,.int .i64 s.a.x,.int .i64 s.a.y,.int .i64 s.b.x,.int .i64 s.b.y]:=AO.keep (by repeat (first | exact AO.made Aw _ _ | refine AO.alloc ?_ _)) hb1;have X4:AO _ (w.heap.size+1+1) 202 #[.int .i64 t.arc.id,.int .i64 t.arc.fr,.int .i64 t.arc.dst,.slice A' n' c',.int .i64 t.arc.left,.int .i64 t.arc.right,.int .i64 t.i,.int .i64 t.n,.int .i64 t.a.x,.int .i64 t.a.y,.int .i64 t.b.x,.int .i64 t.b.y]:=AO.keep (by repeat (first | exact AO.made Aw _ _ | refine AO.alloc ?_ _)) hb1;clear hb1;generalize Fp s.a s.b t.a t.b=m at *;by_cases h1:m=1
 case neg =>
  have hf:=AA (show (m == 0)=q by rw [<- Hq.out,AX h1]);have h1':(m != 1)=true:=by simpa using h1
  clear h1;go_wp2;go_ret;exact ⟨C9 hf.out,Bw⟩
 subst h1;have hf:=AA (show l.any (Oe s t)=q by rw [<- Hq.out,AZ rfl]);clear Hq;have CG:=AA X2;have Ep:=AA X3;have DJ:=AA X4;have HB:=AA Bw;clear X2 X3 X4 Bw;go_wp2_with fail;go_loopw [8] (fun i wr=>∃ k:Nat,k<=l.length/\i=.int .i64 k/\AP w1 wr/\∀ j (hj:j<l.length),j<k->Oe s t l[j]=false) (fun i _=>l.length-(intOf i).toNat)
 case atStart => exact ⟨0,BZ _,rfl,bR w1,fun j _ h=>by omega⟩
 case round =>
  obtain ⟨k,hk,rfl,hb,hno⟩:=hrel;have Hb:=AA hb;have Hno:=AA hno;have X2:=CG.out.keep hb;have X3:=Ep.out.keep hb;have X4:=DJ.out.keep hb;clear hb hno;obtain ⟨BQ,BR,BX,CZ,-,-,-⟩:=X2.BF;obtain ⟨E5,Eo,F9,LC,KZ,PK,PN,UW,UY,UZ,Ua,Ub,E5,-,-,-,-,-,-,-,-,-,-,-,-⟩:=X3.S9;obtain ⟨Bh,Bl,CV,FB,JV,Jy,Jz,aB,aC,aF,aG,aH,Bh,-,-,-,-,-,-,-,-,-,-,-,-⟩:=X4.S9;by_cases hlt:k<l.length
  case neg =>
   have hg:=AA (UA l (Oe s t) (fun j hj=>Hno.out j hj AB));go_wp2;go_ret;exact ⟨C9 (by rw [<- hf.out,hg.out]),bT HB.out Hb.out⟩
  obtain ⟨b,o,rfl,hlb,c0,c1,c2⟩:=(HR.out.mono (bT HB.out Hb.out)).nd hlt;have hx:=AA (show Oe s t l[k]=(Vf s.arc l[k].id && Vf t.arc l[k].id && LZ s.a s.b l[k].pt && LZ t.a t.b l[k].pt) from rfl);go_wp2_with fail;refine (HE.out _ _ _ _ _ _).mono ?_;rintro e w2 ⟨rfl,hb2⟩;have B2:AP w1 w2:=bT (bA Hb.out _) hb2;have X5:AO w2 wr.heap.size 45 #[.int .i64 l[k].id,.int .i64 l[k].pt.x,.int .i64 l[k].pt.y]:=(AO.made rfl _ _).keep hb2;replace X2:=(X2.alloc _).keep hb2;replace X3:=(X3.alloc _).keep hb2;replace X4:=(X4.alloc _).keep hb2;clear hb2 c0 c1 c2 hlb
  try clear BQ BR BX CZ
  obtain ⟨BQ,BR,BX,CZ,-,-,-⟩:=X2.BF
  try clear E5 Eo F9 LC KZ PK PN UW UY UZ Ua Ub E5
  obtain ⟨E5,Eo,F9,LC,KZ,PK,PN,UW,UY,UZ,Ua,Ub,E5,-,-,-,-,-,-,-,-,-,-,-,-⟩:=X3.S9
  try clear Bh Bl CV FB JV Jy Jz aB aC aF aG aH Bh
  obtain ⟨Bh,Bl,CV,FB,JV,Jy,Jz,aB,aC,aF,aG,aH,Bh,-,-,-,-,-,-,-,-,-,-,-,-⟩:=X4.S9;obtain ⟨CJ,CO,CS,G6,-,-,-⟩:=X5.BF
  cases e1:Vf s.arc l[k].id
  case false =>
   have hy:=AA (show Oe s t l[k]=false by rw [hx.out,e1];rfl);clear e1;go_wp2;go_roundw
   case rel => exact ⟨k+1,AB,BI,B2,all_succ (p:=fun x=>Oe s t x=false) Hno.out hlt hy.out⟩
   case measure => exact BK
  have H1:=AA e1;clear e1;go_wp2_with fail;refine (HE.out _ _ _ _ _ _).mono ?_;rintro e w3 ⟨rfl,hb3⟩;replace B2:AP w1 w3:=bT B2 hb3;replace X2:=X2.keep hb3;replace X3:=X3.keep hb3;replace X4:=X4.keep hb3;replace X5:=X5.keep hb3;clear hb3
  try clear BQ BR BX CZ
  obtain ⟨BQ,BR,BX,CZ,-,-,-⟩:=X2.BF
  try clear E5 Eo F9 LC KZ PK PN UW UY UZ Ua Ub E5
  obtain ⟨E5,Eo,F9,LC,KZ,PK,PN,UW,UY,UZ,Ua,Ub,E5,-,-,-,-,-,-,-,-,-,-,-,-⟩:=X3.S9
  try clear Bh Bl CV FB JV Jy Jz aB aC aF aG aH Bh
  obtain ⟨Bh,Bl,CV,FB,JV,Jy,Jz,aB,aC,aF,aG,aH,Bh,-,-,-,-,-,-,-,-,-,-,-,-⟩:=X4.S9
  try clear CJ CO CS G6
  obtain ⟨CJ,CO,CS,G6,-,-,-⟩:=X5.BF
  cases e2:Vf t.arc l[k].id
  case false =>
   have hy:=AA (show Oe s t l[k]=false by rw [hx.out,e2];simp);clear e2;go_wp2;go_roundw
   case rel => exact ⟨k+1,AB,BI,B2,all_succ (p:=fun x=>Oe s t x=false) Hno.out hlt hy.out⟩
   case measure => exact BK
  have H2:=AA e2;clear e2;go_wp2_with fail;refine (HO.out s.a s.b l[k].pt _).mono ?_;rintro e w4 ⟨rfl,hb4⟩;replace B2:AP w1 w4:=bT B2 hb4;replace X2:=X2.keep hb4;replace X3:=X3.keep hb4;replace X4:=X4.keep hb4;replace X5:=X5.keep hb4;clear hb4
  try clear BQ BR BX CZ
  obtain ⟨BQ,BR,BX,CZ,-,-,-⟩:=X2.BF
  try clear E5 Eo F9 LC KZ PK PN UW UY UZ Ua Ub E5
  obtain ⟨E5,Eo,F9,LC,KZ,PK,PN,UW,UY,UZ,Ua,Ub,E5,-,-,-,-,-,-,-,-,-,-,-,-⟩:=X3.S9
  try clear Bh Bl CV FB JV Jy Jz aB aC aF aG aH Bh
  obtain ⟨Bh,Bl,CV,FB,JV,Jy,Jz,aB,aC,aF,aG,aH,Bh,-,-,-,-,-,-,-,-,-,-,-,-⟩:=X4.S9
  try clear CJ CO CS G6
  obtain ⟨CJ,CO,CS,G6,-,-,-⟩:=X5.BF
  cases e3:LZ s.a s.b l[k].pt
  case false =>
   have hy:=AA (show Oe s t l[k]=false by rw [hx.out,e3];simp);clear e3;go_wp2;go_roundw
   case rel => exact ⟨k+1,AB,BI,B2,all_succ (p:=fun x=>Oe s t x=false) Hno.out hlt hy.out⟩
   case measure => exact BK
  have H3:=AA e3;clear e3;go_wp2_with fail;refine (HO.out t.a t.b l[k].pt _).mono ?_;rintro e w5 ⟨rfl,hb5⟩;replace B2:AP w1 w5:=bT B2 hb5;replace X2:=X2.keep hb5;replace X3:=X3.keep hb5;replace X4:=X4.keep hb5;replace X5:=X5.keep hb5;clear hb5
  try clear BQ BR BX CZ
  obtain ⟨BQ,BR,BX,CZ,-,-,-⟩:=X2.BF
  try clear E5 Eo F9 LC KZ PK PN UW UY UZ Ua Ub E5
  obtain ⟨E5,Eo,F9,LC,KZ,PK,PN,UW,UY,UZ,Ua,Ub,E5,-,-,-,-,-,-,-,-,-,-,-,-⟩:=X3.S9
  try clear Bh Bl CV FB JV Jy Jz aB aC aF aG aH Bh
  obtain ⟨Bh,Bl,CV,FB,JV,Jy,Jz,aB,aC,aF,aG,aH,Bh,-,-,-,-,-,-,-,-,-,-,-,-⟩:=X4.S9
  try clear CJ CO CS G6
  obtain ⟨CJ,CO,CS,G6,-,-,-⟩:=X5.BF
  cases e4:LZ t.a t.b l[k].pt
  case false =>
   have hy:=AA (show Oe s t l[k]=false by rw [hx.out,e4];simp);clear e4;go_wp2;go_roundw
   case rel => exact ⟨k+1,AB,BI,B2,all_succ (p:=fun x=>Oe s t x=false) Hno.out hlt hy.out⟩
   case measure => exact BK
  have hg:=AA (Ri l (Oe s t) k hlt (by rw [hx.out,H1.out,H2.out,H3.out,e4];rfl));clear e4;go_wp2;go_ret;exact ⟨C9 (by rw [<- hf.out,hg.out]),bT HB.out B2⟩
def Rl (s:Sg) (x:Nd):Bool:=(((s.i:Int) == 0) && (s.arc.fr == x.id)) || (((s.i:Int) == (s.n:Int)-1) && (s.arc.dst == x.id))
def Ro (s:Sg) (x:Nd):Bool:=Rl s x || !LZ s.a s.b x.pt
def Uc (s:Sg):Bool:=!decide (s.a=s.b) && (s.arc.fr != s.arc.dst || decide (3<=(s.n:Int)))
def Qv (p:Pl) (s:Sg):Bool:=p.nodes.all (Ro s) && Uc s
theorem Yo {α:Type} (l:List α) (q:α->Bool) (k:Nat) (hk:k<l.length) (h:q l[k]=false):l.all q=false:=Y3.2 ⟨l[k],BH hk,by simp [h]⟩
theorem nY {α:Type} (l:List α) (q:α->Bool) (h:∀ j (hj:j<l.length),q l[j]=true):l.all q=true:=JF.2 fun x hx=>by
 obtain ⟨i,hi,rfl⟩:=Dp.1 hx;exact h i hi
theorem anc (v:Value) (p:Pl) (s:Sg) (A:Option Addr) (n c:Nat) (w:World) (h:Cb w v p) (hs1:s.i<=2097152) (hs2:s.n<=2097152) :
  Calls Tryz.prog 189 #[v,Rk s (.slice A n c)] w fun e w'=>e=.returned (.bool (Qv p s))/\AP w w':=by
 have TO:∀ p q r:Pt,∀ W,Calls Tryz.prog 150 #[BD p,BD q,BD r] W _:=fun p q r W=>agG p q r W;unfold BD at TO;have HO:=AA TO;clear TO;obtain ⟨_,va,vf,al,rfl,-,⟨An,cn,rfl,hn1,hn2,hR⟩,-,-⟩:=h;unfold maxLen at hn2;have HR:=AA hR;clear hR;unfold Rk;obtain ⟨q,hq⟩:=BL (Qv p s);rw [hq];unfold Qv at hq;generalize p.nodes=l at *;have Hq:=AA hq;clear hq;go_enter Tryz.func189,Tryz.ntmps189;go_wp2_with fail;obtain ⟨W0,hW0⟩:=BO ((w.alloc (.cells #[.slice An l.length cn,va,vf] 26)).alloc (.cells #[.int .i64 s.arc.id,.int .i64 s.arc.fr,.int .i64 s.arc.dst,.slice A n c,.int .i64 s.arc.left,.int .i64 s.arc.right,.int .i64 s.i,.int .i64 s.n,.int .i64 s.a.x,.int .i64 s.a.y,.int .i64 s.b.x,.int .i64 s.b.y] 202));have Bw:AP w W0:=by rw [hW0];exact bA (bA (bR w) _) _
 have X2:AO W0 w.heap.size 26 #[.slice An l.length cn,va,vf]:=by rw [hW0];exact (AO.made rfl _ _).alloc _
 have X3:AO W0 (w.heap.size+1) 202 #[.int .i64 s.arc.id,.int .i64 s.arc.fr,.int .i64 s.arc.dst,.slice A n c,.int .i64 s.arc.left,.int .i64 s.arc.right,.int .i64 s.i,.int .i64 s.n,.int .i64 s.a.x,.int .i64 s.a.y,.int .i64 s.b.x,.int .i64 s.b.y]:=by rw [hW0];exact AO.made Aw _ _
 rw [<- hW0];have CG:=AA X2;have Ep:=AA X3;have HB:=AA Bw;clear X2 X3 Bw hW0;go_loopw [5] (fun i wr=>∃ k:Nat,k<=l.length/\i=.int .i64 k/\AP W0 wr/\∀ j (hj:j<l.length),j<k->Ro s l[j]=true) (fun i _=>l.length-(intOf i).toNat)
 case atStart => exact ⟨0,BZ _,rfl,bR W0,fun j _ h=>by omega⟩
 case round =>
  obtain ⟨k,hk,rfl,hb,hno⟩:=hrel;have Hb:=AA hb;have Hno:=AA hno;have X2:=CG.out.keep hb;have X3:=Ep.out.keep hb;clear hb hno;obtain ⟨BQ,BR,BX,CZ,-,-,-⟩:=X2.BF;obtain ⟨E5,Eo,F9,LC,KZ,PK,PN,UW,UY,UZ,Ua,Ub,E5,-,-,-,-,-,-,-,-,-,-,-,-⟩:=X3.S9;by_cases hlt:k<l.length
  case neg =>
   have hg:=AA (nY l (Ro s) (fun j hj=>Hno.out j hj AB));have hf:=AA (show Uc s=q by rw [<- Hq.out,hg.out];rfl);have hE:=aAt s.a s.b;by_cases h1:s.a=s.b
   ·have h1':decide (s.a=s.b)=true:=JE h1;have hz:=AA (show false=Uc s by rw [Uc,h1'];rfl);have H1:=AA h1;clear h1;go_wp2;go_ret;exact ⟨C9 (hz.out.trans hf.out),bT HB.out Hb.out⟩
   ·have h1':decide (s.a=s.b)=false:=G8 h1;have H1:=AA h1;clear h1
    cases h2:(s.arc.fr != s.arc.dst)
    ·have hz:=AA (show decide (3<=(s.n:Int))=Uc s by rw [Uc,h1',h2];rfl);go_wp2;go_ret;exact ⟨C9 (hz.out.trans hf.out),bT HB.out Hb.out⟩
    ·have hz:=AA (show true=Uc s by rw [Uc,h1',h2];rfl);go_wp2;go_ret;exact ⟨C9 (hz.out.trans hf.out),bT HB.out Hb.out⟩
  obtain ⟨b,o,rfl,hlb,c0,c1,c2⟩:=(HR.out.mono (bT HB.out Hb.out)).nd hlt;go_upto_region 5 with fail;obtain ⟨W1,hW1⟩:=BO (wr.alloc (.cells #[.int .i64 l[k].id,.int .i64 l[k].pt.x,.int .i64 l[k].pt.y] 45));have B1:AP W0 W1:=by rw [hW1];exact bA Hb.out _
  have X6:AO W1 wr.heap.size 45 #[.int .i64 l[k].id,.int .i64 l[k].pt.x,.int .i64 l[k].pt.y]:=by rw [hW1];exact AO.made rfl _ _
  have hA1:AP wr W1:=by rw [hW1];exact bA (bR wr) _
  replace X2:=X2.keep hA1;replace X3:=X3.keep hA1;rw [<- hW1];clear c0 c1 c2 hlb hW1 hA1
  try clear BQ BR BX CZ
  obtain ⟨BQ,BR,BX,CZ,-,-,-⟩:=X2.BF
  try clear E5 Eo F9 LC KZ PK PN UW UY UZ Ua Ub E5
  obtain ⟨E5,Eo,F9,LC,KZ,PK,PN,UW,UY,UZ,Ua,Ub,E5,-,-,-,-,-,-,-,-,-,-,-,-⟩:=X3.S9;obtain ⟨EF,EG,EH,Nb,-,-,-⟩:=X6.BF;go_cut [7] (fun u wx=>u=.bool (Rl s l[k])/\wx=W1)
  case first =>
   cases h1:((s.i:Int) == 0)
   case true =>
    cases h2:(s.arc.fr == l[k].id)
    case true =>
     have hz:=AA (show true=Rl s l[k] by rw [Rl,h1,h2];rfl);go_wp2;go_meet
     case rel => exact ⟨congrArg Value.bool hz.out,rfl⟩
    case false =>
     cases h3:((s.i:Int) == (s.n:Int)-1)
     case false =>
      have hz:=AA (show false=Rl s l[k] by rw [Rl,h1,h2,h3];rfl);go_wp2;go_meet
      case rel => exact ⟨congrArg Value.bool hz.out,rfl⟩
     case true =>
      have hz:=AA (show (s.arc.dst == l[k].id)=Rl s l[k] by rw [Rl,h1,h2,h3];rfl);go_wp2;go_meet
      case rel => exact ⟨congrArg Value.bool hz.out,rfl⟩
   case false =>
    cases h3:((s.i:Int) == (s.n:Int)-1)
    case false =>
     have hz:=AA (show false=Rl s l[k] by rw [Rl,h1,h3];rfl);go_wp2;go_meet
     case rel => exact ⟨congrArg Value.bool hz.out,rfl⟩
    case true =>
     have hz:=AA (show (s.arc.dst == l[k].id)=Rl s l[k] by rw [Rl,h1,h3];rfl);go_wp2;go_meet
     case rel => exact ⟨congrArg Value.bool hz.out,rfl⟩
  case rest =>
   obtain ⟨rfl,rfl⟩:=hcut
   cases e1:Rl s l[k]
   case true =>
    have hy:=AA (show Ro s l[k]=true by rw [Ro,e1];rfl);clear e1;go_wp2;go_roundw
    case rel => exact ⟨k+1,AB,BI,B1,all_succ (p:=fun x=>Ro s x=true) Hno.out hlt hy.out⟩
    case measure => exact BK
   case false =>
   have E1:=AA e1;clear e1;go_wp2_with fail;refine (HO.out s.a s.b l[k].pt _).mono ?_;rintro e w4 ⟨rfl,hb4⟩;have B4:=bT B1 hb4
   cases e3:LZ s.a s.b l[k].pt
   case false =>
    have hy:=AA (show Ro s l[k]=true by rw [Ro,e3];simp);clear e3;go_wp2;go_roundw
    case rel => exact ⟨k+1,AB,BI,B4,all_succ (p:=fun x=>Ro s x=true) Hno.out hlt hy.out⟩
    case measure => exact BK
   case true =>
    have hg:=AA (Yo l (Ro s) k hlt (by rw [Ro,E1.out,e3];rfl));clear e3;go_wp2;go_ret;exact ⟨C9 (by rw [<- Hq.out,hg.out];rfl),bT HB.out B4⟩
section
variable {α β:Type} {w w':World} {base base':Nat} {e e':TypeId} {size size':Nat} {f:α->List Value} {f':β->List Value} {v v':Value} {l:List α} {l':List β}
theorem Own.grown (h:Own w base e size f v l) {row:Option Nat} (hg:w.grownBy w' row) (hne:∀ g,v.ownBlock=some g->some g≠row):Own w' base e size f v l:=by
 obtain ⟨h1,h2⟩:=h;refine ⟨h1,?_⟩;rcases h2 with h2 | ⟨g,cap,cur,hv,hg',hh,r⟩
 · exact .inl h2
 ·subst hv;refine .inr ⟨g,cap,cur,rfl,hg',?_,r⟩;exact AO.grown (t:=e) (cs:=cur) hh hg (hne g rfl)
theorem Own.blk (h:Own w base e size f v l) {g:Nat} (hg:v.ownBlock=some g):∃ cs,AO w g e cs:=by
 rcases h.2 with ⟨rfl,_⟩ | ⟨g',cap,cur,rfl,_,hh,_⟩
 · simp [Value.ownBlock] at hg
 ·have:g'=g:=by simpa [Value.ownBlock] using hg
  subst this;exact ⟨_,hh⟩
theorem Own.apart (h:Own w base e size f v l) (h':Own w base' e' size' f' v' l') (hne:e≠e'):∀ g,v.ownBlock=some g->some g≠v'.ownBlock:=by
 intro g hg hg';obtain ⟨cs,h1⟩:=h.blk hg;obtain ⟨cs',h2⟩:=h'.blk hg'.symm;exact AO.MX h1 h2 hne rfl
end
def AY:Pt:=⟨0,0⟩
def Lc (a:Ar) (l:List Pt):List Sg:=(List.range (l.length-1)).map fun k=>⟨a,k,l.length-1,l.getD k AY,l.getD (k+1) AY⟩
def Ud (p:Pl):List Sg:=p.AU.flatMap fun a=>Lc a (AV p a)
theorem uI (a:Ar) (l:List Pt):(Lc a l).length=l.length-1:=by simp [Lc]
theorem ane (a:Ar) (l:List Pt) (k:Nat) (hk:k+1<l.length):(Lc a l).take (k+1)=(Lc a l).take k++[⟨a,k,l.length-1,l[k],l[k+1]⟩]:=by
 have h:k<(Lc a l).length:=by rw [uI];omega
 rw [En h];simp [Lc,List.getD,DK hk,DK (show k<l.length by omega)]
theorem Eh (p:Pl) (a:Ar):(AV p a).length=a.via.length+2:=by simp [AV]
theorem ahC (p:Pl) (l:List Ar):(l.flatMap fun a=>Lc a (AV p a)).length=(l.flatMap (·.via)).length+l.length:=by
 induction l with
 | nil=>rfl
 | cons a l ih=>simp only [Ju,EC,ih,uI,Eh,I9];omega
def anf (w:World) (l:List Sg) (e:Ending) (w':World):Prop :=
 ∃ sl v,sl.map (·.1)=l/\e=.returned v/\AP w w'/\Own w' w.heap.size 202 12 Yi v sl
theorem ang:Elem Tryz.prog 198 202 12 112:=Elem.Po (z:=.agg #[.int .i64 0,.int .i64 0,.int .i64 0,.slice none 0 0,.int .i64 0,.int .i64 0,.int .i64 0,.int .i64 0,.int .i64 0,.int .i64 0,.int .i64 0,.int .i64 0]) FC FC rfl AB
theorem anh (s:Sg×SV):(Yi s).length=12:=rfl
theorem ani (s:Sg×SV):∀ u∈Yi s,u.oneCell'=true:=by simp [Yi,Value.oneCell']
theorem Sl.anj {w:World} {g:Nat} {t:TypeId} {s:Sg} {u:SV} {n:Int} (hn:n=s.n) (h:AO w g t #[.int .i64 s.arc.id,.int .i64 s.arc.fr,.int .i64 s.arc.dst,.slice u.a u.n u.c,.int .i64 s.arc.left,.int .i64 s.arc.right,.int .i64 s.i,.int .i64 n,.int .i64 s.a.x,.int .i64 s.a.y,.int .i64 s.b.x,.int .i64 s.b.y]) :
  Sl w (.slice (some ⟨g,0,none⟩) 1 1) ([(s,u)] : List (Sg×SV)).length (([(s,u)] : List (Sg×SV)).flatMap Yi):=by
 subst hn;exact Sl.lit (n:=1) h rfl (D6 AB)
theorem apA (v:Value) (p:Pl) (w:World) (h:Cb w v p) (hl1:p.AU.length<=4096) (hl2:(p.AU.flatMap (·.via)).length<=1048576) :
  Calls Tryz.prog 188 #[v] w (anf w (Ud p)):=by
 have HP:=AA h;obtain ⟨vn,_,vf,al,rfl,hpa,-,⟨⟨Aa,ca,rfl,ha1,ha2,FU⟩,hV⟩,-⟩:=h;unfold maxLen at ha2;have hS:Ud p=al.flatMap fun a=>Lc a.1 (AV p a.1):=by unfold Ud;rw [hpa,P9]
 have hL:∀ k,((al.take k).flatMap fun a=>Lc a.1 (AV p a.1)).length<=1052672:=fun k=>by
  have h1:=tY al (fun a=>Lc a.1 (AV p a.1)) k;rw [<- hS] at h1;unfold Ud at h1;rw [ahC] at h1;omega
 have hsh:∀ k (hk:k<al.length),al[k].1.via.length<=1048576:=fun k hk=>by
  have h1:=acC al (fun a=>a.1.via) k hk;rw [hpa,P9] at hl2;omega
 have hl:al.length<=4096:=by rw [hpa,Cm] at hl1;exact hl1
 rw [hS];have HL:=AA hL;have DL:=AA hsh;have HV:=AA hV;clear hV;have Gu:=AA FU;clear FU;clear hS hpa hl1 hl2 hL hsh;go_enter Tryz.func188,Tryz.ntmps188;go_wp2_with fail;obtain ⟨W0,hW0⟩:=BO (w.alloc (.cells #[vn,.slice Aa al.length ca,vf] 26));have X1:AO W0 w.heap.size 26 #[vn,.slice Aa al.length ca,vf]:=by rw [hW0];exact AO.made rfl _ _
 have F6:AP w W0:=by rw [hW0];exact bA (bR w) _
 have HX0:=AA X1;have hwz:=X1.lt;rw [<- hW0];clear hW0 X1;go_loopw [3,4] (fun s i wr=>∃ (k:Nat) (sl:List (Sg×SV)),k<=al.length/\i=.int .i64 k/\sl.map (·.1)=((al.take k).flatMap fun a=>Lc a.1 (AV p a.1))/\Own wr W0.heap.size 202 12 Yi s sl/\AP W0 wr) (fun _ i _=>al.length-(intOf i).toNat)
 case atStart => exact ⟨0,[],BZ _,rfl,rfl,Own.nil _ _ _ _ _,bR W0⟩
 case round =>
  obtain ⟨k,sl,hk,rfl,hsl,hown,hb⟩:=hrel;have Hb:=AA hb;have Ef:=AA hown;have UE:=AA hsl;have X1:=HX0.out.keep hb;have hsz:=hb.size;clear hb hown hsl;obtain ⟨Ak,Au,Az,BA,-,-,-⟩:=X1.BF;by_cases hlt:k<al.length
  case neg =>
   have hE:al.take k=al:=Hw AB;have Hf:=AA (show sl.map (·.1)=al.flatMap fun a=>Lc a.1 (AV p a.1) by rw [UE.out,hE]);clear hE;go_wp2;go_ret;exact ⟨sl,_,Hf.out,rfl,bT F6 Hb.out,Ef.out.Du F6.size⟩
  obtain ⟨b,o,rfl,hlb,c0,c1,c2,c3,c4,c5⟩:=(Gu.out.mono (bT F6 Hb.out)).ar hlt;have hvk:=(HV.out k hlt);obtain ⟨Av,cv,hv,-⟩:=hvk;have hvk:=(HV.out k hlt);rw [hv] at c3 hvk;generalize hvl:al[k].1.via.length=vl at c3;have uX:=AA hvl;have Qp:=AA hvk;have ahD:=AA (DL.out k hlt);have q1:0<=(k:Int):=by omega
  have q2:(k:Int)<al.length:=by omega
  have Hlk:=AA (HL.out (k+1));clear hvk hv hvl;have TL:∀ W,AP w W->Calls Tryz.prog 128 #[.agg #[vn,.slice (some ⟨b,o,none⟩) al.length ca,vf],.agg #[.int .i64 al[k].1.id,.int .i64 al[k].1.fr,.int .i64 al[k].1.dst,.slice Av vl cv,.int .i64 al[k].1.left,.int .i64 al[k].1.right]] W (acI W (AV p al[k].1) (KY p al[k].1)):=fun W hW=>by
   have:=acJ _ _ p al[k].1 _ (HP.out.mono hW) (Qp.out.mono hW) ahD.out
   rw [uX.out] at this;exact this
  have HT:=AA TL;clear TL;go_upto_region 5 with fail;go_cut [5] (fun s wx=>∃ A1 n1 c1,s=.slice A1 n1 c1/\n1=(AV p al[k].1).length/\Own wx wr.heap.size 39 2 EX (.slice A1 n1 c1) (AV p al[k].1)/\AP wr wx)
  case first =>
   refine Cj (wr) (.run 6 0 0 (.call 6 127 (.run 5 7 127 (.done)))) fun Bv QR Ae Ah hS=>?_
   iterate 6 refine Aj ?_
   refine BP ?_;clear hS;intro K hK AQ;go_simp;refine (HT.out _ (bT (bT F6 Hb.out) AQ.out)).mono ?_;rintro e Bq ⟨v1,rfl,Bf,ho1⟩;have hS:Since wr Bq:=bT (w:=wr) AQ.out Bf;clear AQ;refine hK.out _ _ hS (fun _=>?_);clear hK K
   try simp only [pu]
   iterate 5 refine Aj ?_
   refine Ce ?_;clear hS Ah Ae;intro hB;obtain ⟨A1,c1',rfl,-⟩:=Own.sl ho1;go_wp2;go_meet
   case rel => exact ⟨A1,_,c1',rfl,rfl,ho1.Du Aw,hB⟩
  case rest =>
   obtain ⟨A1,n1,c1',rfl,rfl,ahE,hBc⟩:=hcut;have hown1:Own wc W0.heap.size 202 12 Yi _ sl:=Ef.out.keep hBc;have Bc:=bT Hb.out hBc;have azG:=hBc.size;have hmx:(AV p al[k].1).length<=maxLen:=by rw [Eh];have:=ahD.out;exact D6 AB
   unfold maxLen at hmx;have hpl2:2<=(AV p al[k].1).length:=by rw [Eh];omega
   generalize tq:AV p al[k].1=PP at *;have tu:=AA tq;obtain ⟨M,hM⟩:∃ M,PP.length=M+1:=⟨PP.length-1,AB⟩;have HM:=AA hM;have hM1:M<PP.length:=by omega
   have Hp0:=AA ahE;have Hs0:=AA hown1;have HBc:=AA Bc;clear ahE hown1 Bc hBc tq hM HT X1 Ak Au Az BA c0 c1 c2 c3 c4 c5;obtain ⟨wo,rfl⟩:=BO wr;go_wp2_with fail;go_loopw [3,7] (fun s i wx=>∃ (j:Nat) (sx:List (Sg×SV)),j+1<=PP.length/\i=.int .i64 j/\sx.map (·.1)=((al.take k).flatMap fun a=>Lc a.1 (AV p a.1))++(Lc al[k].1 PP).take j/\Own wx W0.heap.size 202 12 Yi s sx/\Own wx wo.heap.size 39 2 EX (.slice A1 PP.length c1') PP/\AP W0 wx) (fun _ i _=>PP.length-(intOf i).toNat)
   case atStart => exact ⟨0,sl,AB,rfl,by rw [UE.out];simp,Hs0.out,Hp0.out,HBc.out⟩
   case round =>
    obtain ⟨j,sx,hj,rfl,hsx,uJ,hpx,hbx⟩:=hrel;have Fq:=AA hbx;have XG:=AA uJ;have aAk:=AA hpx;have iZ:=AA hsx;have abq:=hbx.size;have X1:=HX0.out.keep hbx;clear hbx uJ hpx hsx
    try clear Ak Au Az BA
    obtain ⟨Ak,Au,Az,BA,-,-,-⟩:=X1.BF;by_cases hlj:j+1<PP.length
    case neg =>
     have hjm:j=M:=by have:=HM.out;omega
     have Hf:=AA (show sx.map (·.1)=((al.take (k+1)).flatMap fun a=>Lc a.1 (AV p a.1)) by
      rw [iZ.out,En hlt,KO,Hw (l:=Lc al[k].1 PP) (by rw [uI];omega)];simp [tu.out])
     clear hjm;go_wp2;go_roundw
     case rel => exact ⟨k+1,sx,AB,BI,Hf.out,XG.out,Fq.out⟩
     case measure => exact BK
    obtain ⟨b',o',Ec,Rz,d0,d1,d2,d3,d4,d5⟩:=(Gu.out.mono (bT F6 Fq.out)).ar hlt;simp only [JD,Addr.mk.injEq,and_true] at Ec;obtain ⟨rfl,rfl⟩:=Ec;have hvk:=(HV.out k hlt);obtain ⟨Av',cv',hv,-⟩:=hvk;have hrow:=Own.sl aAk.out;obtain ⟨A1',apB,he1,-,-,hrow⟩:=hrow;injection he1 with he1 _ he3;subst he1;subst he3;obtain ⟨pb,po,abr,hlp,f0,f1⟩:=hrow.pt (k:=j) AB;subst abr;obtain ⟨pb',po',uK,ahF,f2,f3⟩:=hrow.pt (k:=j+1) hlj;simp only [JD,Addr.mk.injEq,and_true] at uK;obtain ⟨rfl,rfl⟩:=uK;rw [hv] at d3;have Hvv:=AA hv;clear hrow hv;have lq:IntKind.i64.wrap ((j:Int)+1)=(j:Int)+1:=Ci _ AB;have w2e:IntKind.i64.wrap ((PP.length:Int)-1)=(M:Int):=by have:=HM.out;rw [Ci _ AB];omega
    have r1:0<=(j:Int):=by omega
    have r2:(j:Int)<PP.length:=by omega
    have r3:0<=(j:Int)+1:=by omega
    have r4:(j:Int)+1<PP.length:=by omega
    have r5:((j:Int)+1).toNat=j+1:=by omega
    have r6:0<=(k:Int):=by omega
    have r7:(k:Int)<al.length:=by omega
    have hb0:b<w.heap.size:=by
     obtain ⟨b2,o2,e2,h2,-⟩:=Gu.out.ar hlt;simp only [JD,Addr.mk.injEq,and_true] at e2;omega
    have n1:some w.heap.size≠(u3:Value).ownBlock:=fun e=>by have:=(XG.out.lt _ e.symm).1;omega
    have n2:some b≠(u3:Value).ownBlock:=fun e=>by have:=(XG.out.lt _ e.symm).1;omega
    have n3:some pb≠(u3:Value).ownBlock:=Own.apart aAk.out XG.out BG pb rfl;have Hb0:=AA hb0;have ahG:=AA (show sx.length+1<=1052673 by
     have h1:=Hlk;have h2:=congrArg List.length iZ.out;rw [Cm,EC,Ie,uI] at h2;have h3:=HL.out (k+1);rw [En hlt,KO,EC] at h3;simp only [Ju,aan,IQ,uI,tu.out] at h3;omega)
    clear hb0;go_upto_region 9 with fail;refine Vp (wr) ((u3:Value).ownBlock) (.run 20 0 0 (.call 20 2097151 (.call 21 4194303 (.take 22 8388607 (.done))))) fun Bv QR Ae Ah hS=>?_
    iterate 20 refine Aj ?_
    refine BP ?_;clear hS;intro K hK AQ;go_simp;refine hK.out _ _ (gA AQ.out _) (fun hS=>?_);clear hK K AQ
    try simp only [pu]
    refine BP ?_;clear hS;intro K hK AQ;refine IZ (.tmp 32) (.tmp 52) _ rfl (base:=W0.heap.size) ang anh ani rfl ((XG.out.drew).alloc _) rfl (l2:=[((⟨al[k].1,j,PP.length-1,PP[j],PP[j+1]⟩:Sg),(⟨Av',al[k].1.via.length,cv'⟩:SV))]) (Sl.anj (n:=(M:Int)) (by have:=HM.out;simp only [];omega) (AO.made Aw _ _)) (by have:=ahG.out;simp only [I9,Md];omega) (by have:=ahG.out;simp only [I9,Md];omega) DC ?_;intro v3 wr3 ho3 hg hat;have hS:JI wr (u3:Value).ownBlock wr3:=gT AQ.out hg;clear AQ;refine hK.out _ _ hS (fun _=>?_);clear hK K
    try simp only [pu]
    refine Aj ?_;refine Ry ?_;clear hS Ah Ae;intro hB;have vK:=AA ho3;have Hpy:=AA (aAk.out.grown hB (fun g hg=>Own.apart aAk.out XG.out BG g hg));have Hby:=AA (ag7 Fq.out abq hB (fun g hg=>(XG.out.lt g hg).1));have Hsy:=AA (show (sx++[((⟨al[k].1,j,PP.length-1,PP[j],PP[j+1]⟩:Sg),(⟨Av',al[k].1.via.length,cv'⟩:SV))]).map (·.1)=((al.take k).flatMap fun a=>Lc a.1 (AV p a.1))++(Lc al[k].1 PP).take (j+1) by
     rw [GL,iZ.out,ane _ _ _ hlj,JR];rfl)
    clear ho3 hg hat hB d0 d1 d2 d3 d4 d5 f0 f1 f2 f3 lq w2e r1 r2 r3 r4 r5 r6 r7 n1 n2 n3 X1 Ak Au Az BA;go_wp2;go_roundw
    case rel => exact ⟨j+1,sx++[((⟨al[k].1,j,PP.length-1,PP[j],PP[j+1]⟩:Sg),(⟨Av',al[k].1.via.length,cv'⟩:SV))],AB,BI,Hsy.out,vK.out,Hpy.out,Hby.out⟩
    case measure => exact BK
def Zl {α:Type} (l:List α) (f:α->Bool) (g:α->α->Bool):Bool:=(List.range l.length).all fun i=>match l[i]? with
 | none=>true
 | some t=>f t && (l.take i).all fun s=>g s t
theorem ahH {α:Type} (l:List α) (f:α->Bool) (g:α->α->Bool) (i:Nat) (hi:i<l.length) (h:f l[i]=false):Zl l f g=false:=by
 unfold Zl;rw [Y3];exact ⟨i,F5.2 hi,by simp [DK hi,h]⟩
theorem ahI {α:Type} (l:List α) (f:α->Bool) (g:α->α->Bool) (i k:Nat) (hk:k<i) (hi:i<l.length) (h:g (l[k]'(by omega)) l[i]=false):Zl l f g=false:=by
 unfold Zl;rw [Y3];refine ⟨i,F5.2 hi,?_⟩;have:(l.take i).all (fun s=>g s l[i])=false:=by
  rw [Y3];refine ⟨l[k]'(by omega),?_,by simp [h]⟩;rw [Dp];exact ⟨k,fZ,Aw⟩
 simp [DK hi,this]
theorem ahJ {α:Type} (l:List α) (f:α->Bool) (g:α->α->Bool) (h1:∀ i (hi:i<l.length),f l[i]=true) (h2:∀ i k (hk:k<i) (hi:i<l.length),g (l[k]'(by omega)) l[i]=true):Zl l f g=true:=by
 unfold Zl;rw [JF];intro i hi;have hi:=F5.1 hi;rw [DK hi];simp only [Em];refine ⟨h1 i hi,JF.2 fun s hs=>?_⟩;obtain ⟨k,hk,rfl⟩:=Dp.1 hs;rw [Ie] at hk;have:=h2 i k AB hi
 simpa using this
def PV (p:Pl) (s t:Sg):Bool:=if s.arc.id=t.arc.id then UD s t else PU p s t
def Og (p:Pl):Bool:=Zl (Ud p) (Qv p) (PV p)
theorem apC (p:Pl) (hl:(p.AU.flatMap (·.via)).length<=1048576) (s:Sg) (hs:s∈Ud p):s.i<=2097152/\1<=s.n/\s.n<=2097152:=by
 unfold Ud at hs;obtain ⟨a,ha,hs⟩:=GY.1 hs;unfold Lc at hs;obtain ⟨k,hk,rfl⟩:=EM.1 hs;have hk:=F5.1 hk;rw [Eh] at hk ⊢;obtain ⟨i,hi,rfl⟩:=Dp.1 ha;have:=acC p.AU (·.via) i hi
 simp only [];omega
theorem Row.sg {w:World} {A:Option Addr} {l:List (Sg×SV)} (h:Row w A (l.flatMap Yi)) {k:Nat} (hk:k<l.length) :
  ∃ b o,A=some ⟨b,o,none⟩/\b<w.heap.size/\w.cell? ⟨b,o+k*12,none⟩=some (.int .i64 l[k].1.arc.id)/\w.cell? ⟨b,o+k*12+1,none⟩=some (.int .i64 l[k].1.arc.fr)/\w.cell? ⟨b,o+k*12+2,none⟩=some (.int .i64 l[k].1.arc.dst)/\w.cell? ⟨b,o+k*12+3,none⟩=some (.slice l[k].2.a l[k].2.n l[k].2.c)/\w.cell? ⟨b,o+k*12+4,none⟩=some (.int .i64 l[k].1.arc.left)/\w.cell? ⟨b,o+k*12+5,none⟩=some (.int .i64 l[k].1.arc.right)/\w.cell? ⟨b,o+k*12+6,none⟩=some (.int .i64 l[k].1.i)/\w.cell? ⟨b,o+k*12+7,none⟩=some (.int .i64 l[k].1.n)/\w.cell? ⟨b,o+k*12+8,none⟩=some (.int .i64 l[k].1.a.x)/\w.cell? ⟨b,o+k*12+9,none⟩=some (.int .i64 l[k].1.a.y)/\w.cell? ⟨b,o+k*12+10,none⟩=some (.int .i64 l[k].1.b.x)/\w.cell? ⟨b,o+k*12+11,none⟩=some (.int .i64 l[k].1.b.y):=by
 obtain ⟨b,o,hA,hb,hc⟩:=h.at_ (n:=12) (fun _=>rfl) hk AB;exact ⟨b,o,hA,hb,hc 0 _ rfl,hc 1 _ rfl,hc 2 _ rfl,hc 3 _ rfl,hc 4 _ rfl,hc 5 _ rfl,hc 6 _ rfl,hc 7 _ rfl,hc 8 _ rfl,hc 9 _ rfl,hc 10 _ rfl,hc 11 _ rfl⟩
theorem apD (v:Value) (p:Pl) (w:World) (h:Cb w v p) (hl1:p.AU.length<=4096) (hl2:(p.AU.flatMap (·.via)).length<=1048576) :
  Calls Tryz.prog 130 #[v] w fun e w'=>e=.returned (.bool (Og p))/\AP w w':=by
 have HP:=AA h;obtain ⟨vn,va,vf,al,rfl,-⟩:=h;have hok:=apC p hl2;have Zm:=AA hok;clear hok;obtain ⟨q,hq⟩:=BL (Og p);rw [hq];have Hq:=AA hq;clear hq;have OH:=AA hl1;have HL2:=AA hl2;have Hbd:=AA (show (Ud p).length<=1052672 by unfold Ud;rw [ahC];omega);clear hl1 hl2;go_enter Tryz.func130,Tryz.ntmps130;go_wp2_with fail;refine (apA _ p _ (HP.out.mono (bA (bR w) _)) OH.out HL2.out).mono ?_;rintro e w1 ⟨sl,v1,hsl,rfl,hb1,hown⟩;have Bw:AP w w1:=by
  exact Dk
 have X2:AO _ (w.heap.size) 26 #[vn,va,vf]:=AO.keep (by repeat (first | exact AO.made Aw _ _ | refine AO.alloc ?_ _)) hb1;clear hb1;have hsl2:=Own.sl hown;obtain ⟨A,c,rfl,hn1,hn2,hR⟩:=hsl2;unfold maxLen at hn2;have HR:=AA hR;have UE:=AA hsl;have hlen:sl.length<=1052672:=by have:=congrArg List.length hsl;rw [Cm] at this;have:=Hbd.out;omega
 have CG:=AA X2;have HB:=AA Bw;clear X2 Bw hown hR hsl;have hin:∀ k (hk:k<sl.length),sl[k].1.i<=2097152/\1<=sl[k].1.n/\sl[k].1.n<=2097152:=fun k hk=>Zm.out _ (by rw [<- UE.out];exact Gs (BH hk));have vM:=AA hin;clear hin;have hF:∀ i (hi:i<sl.length),Qv p sl[i].1=false->q=false:=fun i hi h=>by
  rw [<- Hq.out,Og,<- UE.out];exact ahH _ _ _ i lS (by simpa using h)
 have hG:∀ i k (hk:k<i) (hi:i<sl.length),PV p (sl[k]'(by omega)).1 sl[i].1=false->q=false:=fun i k hk hi h=>by
  rw [<- Hq.out,Og,<- UE.out];exact ahI _ _ _ i k hk lS (by simpa using h)
 have hY:(∀ i (hi:i<sl.length),Qv p sl[i].1=true)->(∀ i k (hk:k<i) (hi:i<sl.length),PV p (sl[k]'(by omega)).1 sl[i].1=true)->q=true:=fun h1 h2=>by
  rw [<- Hq.out,Og,<- UE.out];refine ahJ _ _ _ (fun i hi=>?_) (fun i k hk hi=>?_)
  · have:=h1 i lS;simpa using this
  · have:=h2 i k hk lS;simpa using this
 have HF:=AA hF;have HG:=AA hG;have HY:=AA hY;clear hF hG hY;go_wp2_with fail;go_loopw [4] (fun u wr=>∃ i:Nat,i<=sl.length/\u=.int .i64 i/\AP w1 wr/\(∀ j (hj:j<sl.length),j<i->Qv p sl[j].1=true)/\(∀ j k (hk:k<j) (hj:j<sl.length),j<i->PV p (sl[k]'(by omega)).1 sl[j].1=true)) (fun u _=>sl.length-(intOf u).toNat)
 case atStart => exact ⟨0,BZ _,rfl,bR w1,fun _ _ h=>by omega,fun _ _ _ _ h=>by omega⟩
 case round =>
  obtain ⟨i,hi,rfl,hb,vN,VX⟩:=hrel;have Hb:=AA hb;have nS:=AA vN;have nT:=AA VX;have X2:=CG.out.keep hb;clear hb vN VX;obtain ⟨BQ,BR,BX,CZ,-,-,-⟩:=X2.BF;by_cases hlt:i<sl.length
  case neg =>
   have hf:=AA (HY.out (fun j hj=>nS.out j hj AB) (fun j k hk hj=>nT.out j k hk hj AB));go_wp2;go_ret;exact ⟨C9 hf.out.symm,bT HB.out Hb.out⟩
  obtain ⟨b,o,rfl,hlb,c0,c1,c2,c3,c4,c5,c6,c7,c8,c9,c10,c11⟩:=(HR.out.mono Hb.out).sg hlt;have q1:0<=(i:Int):=by omega
  have q2:(i:Int)<sl.length:=by omega
  have TA:∀ W,AP w W->Calls Tryz.prog 189 #[.agg #[vn,va,vf],Rk sl[i].1 (.slice sl[i].2.a sl[i].2.n sl[i].2.c)] W _:=fun W hW=>anc _ p sl[i].1 sl[i].2.a sl[i].2.n sl[i].2.c W (HP.out.mono hW) (vM.out i hlt).1 (vM.out i hlt).2.2;unfold Rk at TA;have HA:=AA TA;clear TA;go_upto_region 5 with fail;refine Cj (wr) (.run 5 0 0 (.call 5 63 (.take 6 127 (.done)))) fun Bv QR Ae Ah hS=>?_
  iterate 5 refine Aj ?_
  refine FD (HA.out _ (bT (bT HB.out Hb.out) hS)) ?_;clear hS;intro Bq Bf hS;refine Aj ?_;refine Ce ?_;clear hS Ah Ae;intro hB;have Bi:AP w1 Bq:=bT Hb.out hB
  cases ha:Qv p sl[i].1
  case false =>
   have hf:=AA (HF.out i hlt ha);clear ha;go_wp2;go_ret;exact ⟨C9 hf.out.symm,bT HB.out Bi⟩
  have Ha:=AA ha;have HBi:=AA Bi;clear ha Bi hB c0 c1 c2 c3 c4 c5 c6 c7 c8 c9 c10 c11 hlb X2 BQ BR BX CZ HA;simp only [Bool.not_true];go_wp2_with fail;obtain ⟨wo,rfl⟩:=BO wr;go_loopw [5] (fun u wr=>∃ k:Nat,k<=i/\u=.int .i64 k/\AP w1 wr/\∀ j (hj:j<sl.length),j<k->PV p sl[j].1 sl[i].1=true) (fun u _=>i-(intOf u).toNat)
  case atStart => exact ⟨0,BZ _,rfl,HBi.out,fun _ _ h=>by omega⟩
  case round =>
   obtain ⟨k,hk,rfl,hb,hno⟩:=hrel;have Hb2:=AA hb;have Hn3:=AA hno;have X2:=CG.out.keep hb;clear hb hno
   try clear BQ BR BX CZ
   obtain ⟨BQ,BR,BX,CZ,-,-,-⟩:=X2.BF;by_cases hki:k<i
   case neg =>
    have Zx:=AA (all_succ (p:=fun x=>Qv p x.1=true) nS.out hlt Ha.out);have Zy:Hid (∀ j m (hm:m<j) (hj:j<sl.length),j<i+1->PV p (sl[m]'(by omega)).1 sl[j].1=true):=AA fun j m hm hj hji=>by
     by_cases e:j<i
     · exact nT.out j m hm hj e
     ·have:j=i:=by omega
      subst this;exact Hn3.out m AB AB
    go_wp2;go_roundw
    case rel => exact ⟨i+1,AB,BI,Hb2.out,Zx.out,Zy.out⟩
    case measure => exact BK
   have hkl:k<sl.length:=by omega
   obtain ⟨b',o',Ec,hlb,c0,c1,c2,c3,c4,c5,c6,c7,c8,c9,c10,c11⟩:=(HR.out.mono Hb2.out).sg hlt;simp only [JD,Addr.mk.injEq,and_true] at Ec;obtain ⟨rfl,rfl⟩:=Ec;obtain ⟨b',o',Ec,-,d0,d1,d2,d3,d4,d5,d6,d7,d8,d9,d10,d11⟩:=(HR.out.mono Hb2.out).sg hkl;simp only [JD,Addr.mk.injEq,and_true] at Ec;obtain ⟨rfl,rfl⟩:=Ec;have r1:0<=(k:Int):=by omega
   have r2:(k:Int)<sl.length:=by omega
   have TA:∀ W,Calls Tryz.prog 190 #[Rk sl[k].1 (.slice sl[k].2.a sl[k].2.n sl[k].2.c),Rk sl[i].1 (.slice sl[i].2.a sl[i].2.n sl[i].2.c)] W _:=fun W=>apart_spec sl[k].1 sl[i].1 sl[k].2.a sl[i].2.a sl[k].2.n sl[i].2.n sl[k].2.c sl[i].2.c W (vM.out k hkl).1 (vM.out i hlt).2.2 (vM.out i hlt).2.1;have TJ:∀ W,AP w W->Calls Tryz.prog 191 #[.agg #[vn,va,vf],Rk sl[k].1 (.slice sl[k].2.a sl[k].2.n sl[k].2.c),Rk sl[i].1 (.slice sl[i].2.a sl[i].2.n sl[i].2.c)] W _:=fun W hW=>anb _ p sl[k].1 sl[i].1 sl[k].2.a sl[i].2.a sl[k].2.n sl[i].2.n sl[k].2.c sl[i].2.c W (HP.out.mono hW);unfold Rk at TA TJ;have HJ:=AA TJ;clear TJ
   cases hid:(sl[k].1.arc.id == sl[i].1.arc.id)
   case true =>
    have hpr:PV p sl[k].1 sl[i].1=UD sl[k].1 sl[i].1:=by unfold PV;rw [AZ (eq_of_beq hid)]
    have apE:(sl[k].1.arc.id != sl[i].1.arc.id)=false:=by simp [bne,hid]
    have vO:=AA hpr;clear hpr
    cases ha:UD sl[k].1 sl[i].1
    case false =>
     rw [ha] at TA;have HA:=AA TA;have hf:=AA (HG.out i k hki hlt (vO.out.trans ha));clear TA ha;go_upto_region 10 with fail;refine Cj (wr) (.run 22 0 0 (.call 22 8388607 (.run 30 23 8388607 (.done)))) fun Bv QR Ae Ah hS=>?_
     iterate 14 refine Aj ?_
     iterate 8 refine Dh ?_
     refine FD (HA.out _) ?_;clear hS;intro Bq Bf hS;refine Dh ?_
     iterate 2 refine Aj ?_
     iterate 26 refine JU ?_
     refine Aj ?_;refine Ce ?_;clear hS Ah Ae;intro hB;have B3:AP w1 Bq:=bT Hb2.out hB;go_wp2;go_ret;exact ⟨C9 hf.out.symm,bT HB.out B3⟩
    case true =>
     rw [ha] at TA;have HA:=AA TA;have hg:=AA (vO.out.trans ha);clear TA ha;go_upto_region 10 with fail;refine Cj (wr) (.run 22 0 0 (.call 22 8388607 (.run 30 23 8388607 (.done)))) fun Bv QR Ae Ah hS=>?_
     iterate 14 refine Aj ?_
     iterate 8 refine Dh ?_
     refine FD (HA.out _) ?_;clear hS;intro Bq Bf hS;refine Dh ?_
     iterate 2 refine Aj ?_
     iterate 14 refine Dh ?_
     iterate 11 refine JU ?_
     refine Dh ?_;refine Aj ?_;refine Ce ?_;clear hS Ah Ae;intro hB;have B3:AP w1 Bq:=bT Hb2.out hB;go_wp2;go_roundw
     case rel => exact ⟨k+1,AB,BI,B3,all_succ (p:=fun x=>PV p x.1 sl[i].1=true) Hn3.out hkl hg.out⟩
     case measure => exact BK
   case false =>
    have hpr:PV p sl[k].1 sl[i].1=PU p sl[k].1 sl[i].1:=by unfold PV;rw [AX (ne_of_beq_false hid)]
    have apE:(sl[k].1.arc.id != sl[i].1.arc.id)=true:=by simp [bne,hid]
    have vO:=AA hpr;clear hpr TA;go_upto_region 10 with fail;refine Cj (wr) (.run 49 0 0 (.call 49 1125899906842623 (.run 3 50 1125899906842623 (.done)))) fun Bv QR Ae Ah hS=>?_
    iterate 14 refine Aj ?_
    iterate 10 refine JU ?_
    iterate 2 refine Aj ?_
    iterate 23 refine Dh ?_
    refine FD (HJ.out _ (bT (bT HB.out Hb2.out) hS)) ?_;clear hS;intro Bq Bf hS
    iterate 2 refine Dh ?_
    refine Aj ?_;refine Ce ?_;clear hS Ah Ae;intro hB;have B3:AP w1 Bq:=bT Hb2.out hB
    cases ha:PU p sl[k].1 sl[i].1
    case false =>
     have hf:=AA (HG.out i k hki hlt (vO.out.trans ha));clear ha;go_wp2;go_ret;exact ⟨C9 hf.out.symm,bT HB.out B3⟩
    case true =>
     have hg:=AA (vO.out.trans ha);clear ha;go_wp2;go_roundw
     case rel => exact ⟨k+1,AB,BI,B3,all_succ (p:=fun x=>PV p x.1 sl[i].1=true) Hn3.out hkl hg.out⟩
     case measure => exact BK
