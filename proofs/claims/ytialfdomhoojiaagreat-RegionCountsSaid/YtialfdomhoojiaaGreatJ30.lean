import Derived.Test.YtialfdomhoojiaaGreatJ14
import Derived.Test.YtialfdomhoojiaaGreatJ19
import Derived.Test.YtialfdomhoojiaaGreatJ29
import Derived.Test.YtialfdomhoojiaaGreatJ26
import Derived.Test.YtialfdomhoojiaaGreatJ28
import Derived.Test.YtialfdomhoojiaaGreatJ01
import Derived.Test.YtialfdomhoojiaaGreatJ25
import Derived.Test.YtialfdomhoojiaaGreatRegLB
import Derived.Test.YtialfdomhoojiaaGreatJ09
set_option linter.unusedSimpArgs false
set_option linter.unusedVariables false
namespace Go.Proofs.YtialfdomhoojiaaGreat
open Go.RowKit
set_option linter.unusedSectionVars false
def P8 (n d:Int):Int:=if 0<d then n / d else (-n) / (-d)
def Vd (n d:Int):Int:=-P8 (-n) d
def yR (y:Int) (q:Pt×Pt):List Int :=
 if y<min q.1.y q.2.y\/max q.1.y q.2.y<y then [] else if q.1.y=q.2.y then [q.1.x,q.2.x]
 else [q.1.x+P8 ((y-q.1.y)*(q.2.x-q.1.x)) (q.2.y-q.1.y),q.1.x+Vd ((y-q.1.y)*(q.2.x-q.1.x)) (q.2.y-q.1.y)]
def LZ (a b:List Int):List Int:=b.foldl oC (tH a)
def Ji (p:Pl):List (Pt×Pt):=p.ah.flatMap fun a=>gX (au p a)
def aaW (y:Int) (S:List (Pt×Pt)):List Int:=S.foldl (fun l q=>LZ l (yR y q)) []
def L6 (y:Int) (l:List Int) (n:Nd):List Int:=if n.pt.y=y then oC l n.pt.x else l
def FX (p:Pl) (y:Int):List Int:=p.nodes.foldl (L6 y) (aaW y (Ji p))
theorem ahf:∀ (b l:List Int),l.Pairwise (· < ·)->(b.foldl oC l).Pairwise (· < ·)/\∀ x,x∈b.foldl oC l↔x∈l\/x∈b
 | [],l,h=>⟨h,fun x=>by simp⟩
 | n::b,l,h=>by
  obtain ⟨h1,h2⟩:=aaD h n;obtain ⟨h3,h4⟩:=ahf b _ h1;refine ⟨h3,fun x=>?_⟩;rw [List.foldl_cons,h4,h2,List.mem_cons,or_assoc]
theorem aqu (a b:List Int):(LZ a b).Pairwise (· < ·)/\∀ x,x∈LZ a b↔x∈a\/x∈b:=by
 obtain ⟨h1,h2⟩:=agK a;obtain ⟨h3,h4⟩:=ahf b _ h1;exact ⟨h3,fun x=>by unfold LZ;rw [h4,h2]⟩
theorem ahg (y:Int):∀ (S:List (Pt×Pt)) (l:List Int),l.Pairwise (· < ·)->(S.foldl (fun l q=>LZ l (yR y q)) l).Pairwise (· < ·)/\∀ x,x∈S.foldl (fun l q=>LZ l (yR y q)) l↔x∈l\/∃ q∈S,x∈yR y q
 | [],l,h=>⟨h,fun x=>by simp⟩
 | q::S,l,_=>by
  obtain ⟨h1,h2⟩:=aqu l (yR y q);obtain ⟨h3,h4⟩:=ahg y S _ h1;refine ⟨h3,fun x=>?_⟩;rw [List.foldl_cons,h4,h2];simp only [List.mem_cons,exists_eq_or_imp,or_assoc]
theorem ahh (y:Int):∀ (ns:List Nd) (l:List Int),l.Pairwise (· < ·)->(ns.foldl (L6 y) l).Pairwise (· < ·)/\∀ x,x∈ns.foldl (L6 y) l↔x∈l\/∃ n∈ns,n.pt.y=y/\n.pt.x=x
 | [],l,h=>⟨h,fun x=>by simp⟩
 | n::ns,l,h=>by
  have h0:(L6 y l n).Pairwise (· < ·)/\∀ x,x∈L6 y l n↔x∈l\/(n.pt.y=y/\n.pt.x=x):=by
   unfold L6;split
   ·rename_i e;obtain ⟨h1,h2⟩:=aaD h n.pt.x;refine ⟨h1,fun x=>?_⟩;rw [h2];exact or_congr Iff.rfl ⟨fun g=>⟨e,g.symm⟩,fun g=>g.2.symm⟩
   ·rename_i e;exact ⟨h,fun x=>⟨.inl,fun g=>g.resolve_right fun g=>e g.1⟩⟩
  obtain ⟨h3,h4⟩:=ahh y ns _ h0.1;refine ⟨h3,fun x=>?_⟩;rw [List.foldl_cons,h4,h0.2];simp only [List.mem_cons,exists_eq_or_imp,or_assoc]
theorem aaX (p:Pl) (y:Int):(FX p y).Pairwise (· < ·)/\∀ x,x∈FX p y↔(∃ q∈Ji p,x∈yR y q)\/∃ n∈p.nodes,n.pt.y=y/\n.pt.x=x:=by
 obtain ⟨h1,h2⟩:(aaW y (Ji p)).Pairwise (· < ·)/\∀ x,x∈aaW y (Ji p)↔x∈[]\/∃ q∈Ji p,x∈yR y q:=ahg y (Ji p) [] List.Pairwise.nil;obtain ⟨h3,h4⟩:=ahh y p.nodes _ h1;refine ⟨h3,fun x=>?_⟩;unfold FX;rw [h4];refine or_congr ?_ Iff.rfl;rw [h2];simp
theorem Ve {t H d:Int} (hH:0<H) (h0:0<=t) (h1:t<=H):min 0 d<=t*d / H/\t*d / H<=max 0 d:=by
 rcases Int.le_total 0 d with h | h
 ·have a1:0<=t*d:=Int.mul_nonneg h0 h;have a2:t*d<=H*d:=Int.mul_le_mul_of_nonneg_right h1 h;have a3:0<=t*d / H:=Int.ediv_nonneg a1 (by omega);have a4:t*d / H<=d:=by
   have:=Int.ediv_le_ediv hH a2
   rwa [Int.mul_ediv_cancel_left _ (by omega)] at this
  omega
 ·have a1:t*d<=0:=Int.mul_nonpos_of_nonneg_of_nonpos h0 h;have a2:H*d<=t*d:=by
   have:=Int.mul_le_mul_of_nonpos_right h1 h
   exact this
  have a3:t*d / H<=0:=by
   have:=Int.ediv_le_ediv hH a1
   simpa using this
  have a4:d<=t*d / H:=by
   have:=Int.ediv_le_ediv hH a2
   rwa [Int.mul_ediv_cancel_left _ (by omega)] at this
  omega
theorem aqv {y:Int} {q:Pt×Pt} {x:Int} (h:x∈yR y q):min q.1.x q.2.x<=x/\x<=max q.1.x q.2.x/\min q.1.y q.2.y<=y/\y<=max q.1.y q.2.y:=by
 obtain ⟨a,b⟩:=q;unfold yR at h;simp only at h ⊢;split at h
 · cases h
 rename_i c0;split at h
 ·rename_i c;simp only [List.mem_cons,List.not_mem_nil,or_false] at h;rcases h with rfl | rfl<;>omega
 ·rename_i c;simp only [List.mem_cons,List.not_mem_nil,or_false] at h;unfold Vd P8 at h;by_cases e:0<b.y-a.y
  ·have f1:=Ve (t:=y-a.y) (H:=b.y-a.y) (d:=b.x-a.x) e (by omega) (by omega);have f2:=Ve (t:=y-a.y) (H:=b.y-a.y) (d:=-(b.x-a.x)) e (by omega) (by omega);rw [if_pos e,if_pos e] at h;rw [Int.mul_neg] at f2;rcases h with h | h<;>omega
  ·have f1:=Ve (t:=-(y-a.y)) (H:=-(b.y-a.y)) (d:=b.x-a.x) (by omega) (by omega) (by omega);have f2:=Ve (t:=-(y-a.y)) (H:=-(b.y-a.y)) (d:=-(b.x-a.x)) (by omega) (by omega) (by omega);rw [if_neg e,if_neg e] at h;rw [Int.neg_mul] at f1;rw [Int.neg_mul,Int.mul_neg] at f2;rcases h with h | h<;>omega
theorem aqw {u H d:Int} (hH:0<H):(u-H*d) / H=u / H-d:=by
 have:u-H*d=u+(-d)*H:=by rw [Int.neg_mul,Int.mul_comm H d];omega
 rw [this,Int.add_mul_ediv_right _ _ (by omega)];omega
theorem aqx {y:Int} {a b:Pt} (h1:(gY a b).y<=y) (h2:y<=(kJ a b).y) (h3:(gY a b).y≠(kJ a b).y):(gY a b).x+zN y a b∈yR y (a,b):=by
 unfold yR zN;unfold gY kJ at *;by_cases c:b.y<a.y
 ·simp only [if_pos c] at h1 h2 h3 ⊢;rw [if_neg (by omega),if_neg (by omega)];simp only [List.mem_cons,List.not_mem_nil,or_false]
  right;unfold Vd P8 uT;rw [if_neg (by omega)];have e:-(-((y-a.y)*(b.x-a.x)))=-((y-b.y)*(a.x-b.x))-(a.y-b.y)*(b.x-a.x):=by grind
  have e2:-(b.y-a.y)=a.y-b.y:=by omega
  rw [e,e2,aqw (by omega)];omega
 ·simp only [if_neg c] at h1 h2 h3 ⊢;rw [if_neg (by omega),if_neg (by omega)];simp only [List.mem_cons,List.not_mem_nil,or_false]
  right;unfold Vd P8 uT;rw [if_pos (by omega)]
theorem ahi {y:Int} {q:Pt×Pt} {c:Int} (h:c∈jg y q):c∈yR y q:=by
 obtain ⟨a,b⟩:=q;unfold jg at h;simp only at h;split at h
 ·rename_i e;rw [List.mem_singleton] at h;rw [h];exact aqx e.1 (by omega) (by omega)
 · cases h
section
variable {p:Pl} (h:Valid p)
include h
theorem Valid.ahj {X:List Int} (hX:X∈aN p) {x y:Int}:fP (yK p (some X) y) x↔((iF p (some X)).flatMap (jg y)).countP (fun c=>decide (c<=x)) % 2=1/\¬ fP ((iF p (some X)).flatMap (rU y)) x/\¬ fP (FD p (some X) y) x:=by
 obtain ⟨o1,o2⟩:=h.afJ hX x y;have hs:=Tv ((iF p (some X)).flatMap (jg y));have hodd:fP (kM (FC ((iF p (some X)).flatMap (jg y)))) x↔((iF p (some X)).flatMap (jg y)).countP (fun c=>decide (c<=x)) % 2=1:=by
  rw [<- hs.1.countP_eq];exact afG x _ _ rfl hs.2 (by rw [hs.1.length_eq];exact o1)
 have hm:=(V6 _ _ (Jv (kM (FC ((iF p (some X)).flatMap (jg y))))).1 (Jv ((iF p (some X)).flatMap (rU y)++FD p (some X) y)).1).2.2 x
 show fP (pY _ _) x↔_
 rw [hm,(Jv _).2,(Jv _).2,hodd,xU,not_or]
theorem Valid.ahk {X:List Int} (hX:X∈aN p) {q:Pt×Pt} (hq:q∈iF p (some X)):q∈Ji p:=by
 obtain ⟨a,ha,-,k,hk,rfl⟩:=h.aol hX hq;refine List.mem_flatMap.2 ⟨a,ha,?_⟩;unfold gX;exact List.mem_map.2 ⟨k,List.mem_range.2 (by omega),rfl⟩
theorem Valid.aqy {X:List Int} (hX:X∈aN p) {x y:Int} (hb:∀ b∈FX p y,b<x):¬ fP (yK p (some X) y) x:=fun g=>by
 have hm:=(aaX p y).2;have g1:=((h.ahj hX).1 g).1;have e1:((iF p (some X)).flatMap (jg y)).countP (fun c=>decide (c<=x))=((iF p (some X)).flatMap (jg y)).length:=by
  rw [List.countP_eq_length];intro c hc;obtain ⟨q,hq,g⟩:=List.mem_flatMap.1 hc;have:=hb c ((hm c).2 (.inl ⟨q,h.ahk hX hq,ahi g⟩))
  simp only [decide_eq_true_eq];omega
 rw [e1,(h.afJ hX x y).1] at g1
 cases g1
theorem Valid.aqz {X:List Int} (hX:X∈aN p) {x y:Int} (hb:∀ b∈FX p y,x<b):¬ fP (yK p (some X) y) x:=fun g=>by
 have hm:=(aaX p y).2;have g1:=((h.ahj hX).1 g).1;have e1:((iF p (some X)).flatMap (jg y)).countP (fun c=>decide (c<=x))=0:=by
  rw [List.countP_eq_zero];intro c hc;obtain ⟨q,hq,g⟩:=List.mem_flatMap.1 hc;have:=hb c ((hm c).2 (.inl ⟨q,h.ahk hX hq,ahi g⟩))
  simp only [decide_eq_true_eq];omega
 rw [e1] at g1
 cases g1
theorem Valid.ahl {x y:Int} (hx:x∈FX p y):aW ⟨x,y⟩=true/\oW ⟨x,y⟩:=by
 have hbig:oW ⟨x,y⟩:=by
  rcases ((aaX p y).2 x).1 hx with ⟨q,hq,g⟩ | ⟨n,hn,e1,e2⟩
  ·obtain ⟨a,ha,hq⟩:=List.mem_flatMap.1 hq;obtain ⟨k,hk,rfl⟩:=List.mem_map.1 (show q∈(List.range ((au p a).length-1)).map _ from hq);rw [List.mem_range] at hk;have b1:=h.TY ha (k:=k) (by omega);have b2:=h.TY ha (k:=k+1) (by omega);have:=aqv g
   unfold oW at *;simp only at *;omega
  ·have:=h.afz hn
   unfold oW at *;simp only;omega
 refine ⟨?_,hbig⟩;unfold aW oW at *;simp only [Bool.and_eq_true,decide_eq_true_eq];simp only at hbig;omega
theorem Valid.ahm {X:List Int} (hX:X∈aN p) {x y:Int} (g:fP (yK p (some X) y) x):aW ⟨x,y⟩=true:=by
 have hbx:∃ a∈FX p y,a<=x:=Classical.byContradiction fun c=>h.aqz hX (fun b hb=>Int.not_le.1 fun g=>c ⟨b,hb,g⟩) g;have hby:∃ a∈FX p y,x<=a:=Classical.byContradiction fun c=>h.aqy hX (fun b hb=>Int.not_le.1 fun g=>c ⟨b,hb,g⟩) g;obtain ⟨a,ha,ha'⟩:=hbx;obtain ⟨b,hb,hb'⟩:=hby;have g1:=(h.ahl ha).2;have g2:=(h.ahl hb).2;unfold oW at g1 g2;unfold aW;simp only [Bool.and_eq_true,decide_eq_true_eq];simp only at g1 g2;omega
end
def Vf (PP:List Pt) (v:Pt) (i:Nat):Bool:=match PP[i]?,PP[i+1]? with
 | some a,some b=>fO a b v
 | _,_=>false
def BU (PP:List Pt) (v:Pt) (k:Nat):Bool:=(List.range k).any (Vf PP v)
def L8 (p:Pl) (v:Pt) (a:Ar):Bool:=BU (au p a) v ((au p a).length-1)
def wF (p:Pl) (v:Pt):Int×Int×Int :=
 if jG p≠0 then (0,0,jG p) else if qL v=false then (0,0,2) else
 match p.nodes.find? (fun n=>decide (n.pt=v)) with
 | some n=>(1,n.id,0)
 | none=>match p.ah.find? (L8 p v) with
  | some a=>(2,a.id,0)
  | none=>(0,oP p (iK p v),0)
def Vg (t:Int×Int×Int):Value:=.tuple #[.int .i64 t.1,.int .i64 t.2.1,.int .i64 t.2.2]
theorem aqA {PP:List Pt} {v:Pt} {i:Nat} (h:i+1<PP.length):Vf PP v i=fO (PP[i]'(by omega)) PP[i+1] v:=by
 unfold Vf;rw [List.getElem?_eq_getElem h,List.getElem?_eq_getElem (show i<PP.length by omega)]
theorem ahn (PP:List Pt) (v:Pt) (k:Nat):BU PP v (k+1)=(BU PP v k || Vf PP v k):=by
 unfold BU;rw [List.range_succ,List.any_append];simp
theorem aqB {PP:List Pt} {v:Pt} {k m:Nat} (hk:k<=m) (h:BU PP v k=true):BU PP v m=true:=by
 unfold BU at *;rw [List.any_eq_true] at *;obtain ⟨i,hi,e⟩:=h;exact ⟨i,List.mem_range.2 (Nat.lt_of_lt_of_le (List.mem_range.1 hi) hk),e⟩
theorem aho {α:Type} {P:α->Bool} {l:List α} {k:Nat} (hk:k<l.length) (h:(l.take k).find? P=none) (hn:P l[k]=false):(l.take (k+1)).find? P=none:=by
 rw [List.take_succ_eq_append_getElem hk,List.find?_append,h];simp [hn]
theorem ahp {α:Type} {P:α->Bool} {l:List α} {k:Nat} (hk:k<l.length) (h:(l.take k).find? P=none) (hn:P l[k]=true):l.find? P=some l[k]:=by
 have e:l.find? P=(l.take k++l[k]::l.drop (k+1)).find? P:=by rw [<- List.drop_eq_getElem_cons hk,List.take_append_drop]
 rw [e,List.find?_append,h];simp only [Option.none_or,List.find?_cons,hn]
section
variable {p:Pl} {v:Pt} (h0:jG p=0) (h1:qL v=true)
include h0 h1
theorem aqC {k:Nat} (hk:k<p.nodes.length) (h:(p.nodes.take k).find? (fun n=>decide (n.pt=v))=none) (he:p.nodes[k].pt=v):wF p v=(1,p.nodes[k].id,0):=by
 unfold wF;rw [if_neg (by simpa using h0),if_neg (by simp [h1]),ahp hk h (by simpa using he)]
theorem aqD (hn:p.nodes.find? (fun n=>decide (n.pt=v))=none) {k:Nat} (hk:k<p.ah.length) (h:(p.ah.take k).find? (L8 p v)=none) (he:L8 p v p.ah[k]=true):wF p v=(2,p.ah[k].id,0):=by
 unfold wF;rw [if_neg (by simpa using h0),if_neg (by simp [h1]),hn];simp only;rw [ahp hk h he]
theorem aqE (hn:p.nodes.find? (fun n=>decide (n.pt=v))=none) (ha:p.ah.find? (L8 p v)=none):wF p v=(0,oP p (iK p v),0):=by
 unfold wF;rw [if_neg (by simpa using h0),if_neg (by simp [h1]),hn];simp only;rw [ha]
end
set_option maxHeartbeats 400000 in
theorem ahq (p:Pt) (w:World):Calls Tryz.prog 69 #[aZ p] w fun e w'=>e=.returned (.bool (qL p))/\Below w.heap.size w w':=by
 unfold aZ;go_enter Tryz.func69,Tryz.ntmps69;go_wp2_with fail
 all_goals
  go_ret;refine ⟨eP (by rw [qL,Bool.eq_iff_iff];simp only [Bool.and_eq_true,decide_eq_true_eq,true_iff,Bool.false_eq_true,false_iff];omega),?_⟩
  repeat (first | with_reducible exact bR _ | with_reducible assumption | with_reducible refine bA ?_ _ | with_reducible refine bD ?_ | with_reducible refine bN ?_ _ | ((with_reducible refine bS ?_ ?_ _);rotate_left;(simp;try omega)) | ((with_reducible refine bT ?_ ?_);rotate_left;with_reducible assumption) | with_reducible refine bT ?_ (by assumption))
set_option maxRecDepth 100000 in
set_option maxHeartbeats 8000000 in
theorem aqF (v:Value) (p:Pl) (at_:Pt) (w:World) (h:dS w v p) (hv:jG p≠0):Calls Tryz.prog 24 #[v,aZ at_] w fun e w'=>e=.returned (Vg (0,0,jG p))/\Below w.heap.size w w':=by
 have HC:=Lib.hid (fun W (hW:Below w.heap.size w W)=>apV v p W (h.mono hW) hv);obtain ⟨vn,va,vf,al,rfl,-⟩:=h;generalize jG p=z at *;have hb:(z != 0)=true:=by simpa using hv
 unfold aZ;clear hv;go_enter Tryz.func24,Tryz.ntmps24;go_wp2_with fail;refine (HC.out _ (bA (bA (bR w) _) _)).mono ?_;rintro e w1 ⟨rfl,hb1⟩;have HB1:=Lib.hid (bT (bA (bA (bR w) _) _) hb1);clear hb1 HC;go_wp2_with fail;exact bodyPost_ret (results_tmp3 rfl _ _ _) rfl ⟨rfl,HB1.out⟩
set_option maxRecDepth 100000 in
set_option maxHeartbeats 8000000 in
theorem aqG (v:Value) (p:Pl) (at_:Pt) (w:World) (h:dS w v p) (hv:jG p=0) (hk:qL at_=false):Calls Tryz.prog 24 #[v,aZ at_] w fun e w'=>e=.returned (Vg (0,0,2))/\Below w.heap.size w w':=by
 have HC:=Lib.hid (fun W (hW:Below w.heap.size w W)=>UZ v p W (h.mono hW) hv);have FY:=Lib.hid (fun W=>ahq at_ W);rw [hk] at FY;obtain ⟨vn,va,vf,al,rfl,-⟩:=h;unfold aZ at FY ⊢;clear hv hk;go_enter Tryz.func24,Tryz.ntmps24;go_upto_region 1 with fail;obtain ⟨W1,hW⟩:∃ W1:World,W1=(w.alloc (.cells #[vn,va,vf] 26)).alloc (.cells #[.int .i64 at_.x,.int .i64 at_.y] 39):=⟨_,rfl⟩;have X1:aj W1 w.heap.size 26 #[vn,va,vf]:=by rw [hW];exact (aj.made rfl _ _).alloc _
 have X2:aj W1 (w.heap.size+1) 39 #[.int .i64 at_.x,.int .i64 at_.y]:=by rw [hW];exact aj.made (by simp) _ _
 have HB1:=Lib.hid (show Below w.heap.size w W1 by rw [hW];exact bA (bA (bR w) _) _);rw [<- hW];clear hW;have eH:=Lib.hid X1;have bY:=Lib.hid X2;obtain ⟨aI,aJ,aK,aP,-,-,-⟩:=X1.bC;go_wp2_with fail;refine (HC.out _ HB1.out).mono ?_;rintro e w1 ⟨A,c,L,A',c',gm,f,rfl,hb1,-⟩;have HB2:=Lib.hid (bT HB1.out hb1);have X3:=bY.out.keep hb1;clear hb1 HC X1 aI aJ aK aP eH bY X2 HB1;obtain ⟨kU,kV,mO,-,-⟩:=X3.bI;go_wp2_with fail;refine (FY.out _).mono ?_;rintro e w3 ⟨rfl,hb3⟩;have HB3:=Lib.hid (bT HB2.out hb3);clear hb3;go_wp2_with fail;exact bodyPost_ret (results_tmp3 rfl _ _ _) rfl ⟨rfl,HB3.out⟩
set_option maxRecDepth 100000 in
set_option maxHeartbeats 8000000 in
theorem aqH (v:Value) (p:Pl) (at_:Pt) (w:World) (h:dS w v p) (hv:jG p=0) (hk:qL at_=true):Calls Tryz.prog 24 #[v,aZ at_] w fun e w'=>e=.returned (Vg (wF p at_))/\Below w.heap.size w w':=by
 obtain ⟨hvv,hfb⟩:=PW hv;have HV:=Lib.hid hvv;have nv:=adn hk;have HLn:=Lib.hid (fun k (hl:k<p.nodes.length) hf he=>aqC (v:=at_) hv hk hl hf he);have HLa:=Lib.hid (fun hn k (hl:k<p.ah.length) hf he=>aqD (v:=at_) hv hk hn hl hf he);have HLf:=Lib.hid (fun hn ha=>aqE (v:=at_) hv hk hn ha);have HC:=Lib.hid (fun W (hW:Below w.heap.size w W)=>UZ v p W (h.mono hW) hv);have FY:=Lib.hid (fun W=>ahq at_ W);have pG:=Lib.hid (fun a b W=>MS a b at_ W);have Ls:=Lib.hid (fun W gm f (hpm:qQ W gm p f) vl L (hL:IG W vl L) hd hl=>afl W gm p f hpm hvv vl L hL hd hl at_ nv);have hol:(aN p).length<=512:=Nat.le_trans (List.length_filter_le _ _) hvv.DF;rw [hk] at FY;obtain ⟨_,_,_,al,rfl,hpa,⟨An,cn,rfl,hn1,hn2,P9⟩,⟨⟨Aa,ca,rfl,ha1,ha2,jV⟩,vC⟩,⟨Af,cf,rfl,-⟩⟩:=h;unfold maxLen at hn2 ha2;generalize p.faces.length=nf at *;have hal:al.length=p.ah.length:=by rw [hpa,List.length_map]
 have hqn:p.nodes.length<=256:=hvv.KU;have hqa:p.ah.length<=256:=by
  have hl:=hvv.lim;unfold nN at hl;simp at hl;omega
 have HRn:=Lib.hid P9;have mM:=Lib.hid jV;have Dj:=Lib.hid vC;have uz:=Lib.hid hpa;have rM:=Lib.hid hal;have atJ:al.length<=256:=by omega
 unfold aZ at FY pG Ls ⊢;clear hv hk hvv hfb P9 jV vC hpa nv hal;go_enter Tryz.func24,Tryz.ntmps24;go_upto_region 1 with fail;obtain ⟨W1,hW⟩:∃ W1:World,W1=(w.alloc (.cells #[.slice An p.nodes.length cn,.slice Aa al.length ca,.slice Af nf cf] 26)).alloc (.cells #[.int .i64 at_.x,.int .i64 at_.y] 39):=⟨_,rfl⟩;have X1:aj W1 w.heap.size 26 #[.slice An p.nodes.length cn,.slice Aa al.length ca,.slice Af nf cf]:=by rw [hW];exact (aj.made rfl _ _).alloc _
 have X2:aj W1 (w.heap.size+1) 39 #[.int .i64 at_.x,.int .i64 at_.y]:=by rw [hW];exact aj.made (by simp) _ _
 have HB1:=Lib.hid (show Below w.heap.size w W1 by rw [hW];exact bA (bA (bR w) _) _);rw [<- hW];clear hW;have eH:=Lib.hid X1;have bY:=Lib.hid X2;obtain ⟨aI,aJ,aK,aP,-,-,-⟩:=X1.bC;go_wp2_with fail;refine (HC.out _ HB1.out).mono ?_;rintro e w1 ⟨A,c,L,A',c',gm,f,rfl,hb1,wE,hfi,hdv,htw,hpm,hgm,-⟩;have HB2:=Lib.hid (bT HB1.out hb1);have BX:=Lib.hid (eH.out.keep hb1);have aaY:=Lib.hid (bY.out.keep hb1);have X3:=aaY.out;have HA:=Lib.hid wE;have HD:=Lib.hid hdv;have HT:=Lib.hid htw;have lX:=Lib.hid hpm;have hll:L.length=(aN p).length+1:=hdv.len;have hfl:=xK p (aN p) L.length;obtain ⟨Al,cl,hel,hl2,hl3,hRl⟩:=wE.sl;injection hel with y1 y2 y3;subst y1 y3;clear y2;unfold Ints at hfi;rw [hfl] at hfi;obtain ⟨Af',cf',hef,hf2,hf3,PX⟩:=hfi;injection hef with y1 y2 y3;subst y1 y3;clear y2;have FW:=Lib.hid PX;clear hb1 HC X1 aI aJ aK aP eH bY X2 HB1 wE hdv htw hpm hRl PX hl2 hl3 hf2 hf3 hfl;obtain ⟨kU,kV,mO,-,-⟩:=X3.bI;go_wp2_with fail;refine (FY.out _).mono ?_;rintro e w3 ⟨rfl,hb3⟩;have HB3:=Lib.hid (bT HB2.out hb3);have eH:=Lib.hid (BX.out.keep hb3);have bY:=Lib.hid (aaY.out.keep hb3);have ou:=Lib.hid (HA.out.mono hb3);have PU:=Lib.hid (lX.out.keep hb3);have ahr:=Lib.hid (FW.out.mono hb3);clear hb3 X3 kU kV mO BX aaY HA lX FW HB2 FY;have X1:=eH.out
 try clear aI
 try clear aJ
 try clear aK
 try clear aP
 obtain ⟨aI,aJ,aK,aP,-,-,-⟩:=X1.bC;go_upto_block 0 with fail;clear X1 aI aJ aK aP;go_wp2_with fail;go_loopw [32] (fun u wr=>∃ k:Nat,k<=p.nodes.length/\u=.int .i64 k/\(p.nodes.take k).find? (fun n=>decide (n.pt=at_))=none/\Below w3.heap.size w3 wr) (fun u _=>p.nodes.length-(intOf u).toNat)
 case atStart => exact ⟨0,Nat.zero_le _,rfl,rfl,bR w3⟩
 case round =>
  obtain ⟨k,hk,rfl,hno,hb⟩:=hrel;obtain ⟨wo,rfl⟩:∃ wo:World,wo=wr:=⟨_,rfl⟩;have qy:=Lib.hid hno;have Hb:=Lib.hid hb;clear hno hb;by_cases hlt:k<p.nodes.length
  ·obtain ⟨b,o,hA',hlb,c0,c1,c2⟩:=(HRn.out.mono (bT HB3.out Hb.out)).nd hlt;subst hA';have X2:=bY.out.keep Hb.out;have hx2:=X2.lt;have vF:=Lib.hid (fun he=>HLn.out k hlt qy.out he);have Bj:=Lib.hid (fun hne=>aho hlt qy.out hne);generalize p.nodes[k]=x at *;obtain ⟨id,x0,y0⟩:=x;simp only at c0 c1 c2;have ZI:(k:Int)<p.nodes.length:=by omega
   have ZJ:0<=(k:Int):=by omega
   obtain ⟨gI,gJ,iq,-,-⟩:=X2.bI;go_upto_region 9 with fail;obtain ⟨W5,hW⟩:∃ W:World,W=wo.alloc (.cells #[.int .i64 id,.int .i64 x0,.int .i64 y0] 45):=⟨_,rfl⟩;obtain ⟨g11,Vh⟩:∃ g11,wo.heap.size=g11:=⟨_,rfl⟩;have X5:aj W5 g11 45 #[.int .i64 id,.int .i64 x0,.int .i64 y0]:=by rw [hW];exact aj.made Vh.symm _ _
   have X6:aj W5 (w.heap.size+1) 39 #[.int .i64 at_.x,.int .i64 at_.y]:=by rw [hW];exact X2.alloc _
   have qR:=Lib.hid (show Below w.heap.size w W5 by rw [hW];exact bA (bT HB3.out Hb.out) _);have HBg:=Lib.hid (show Below w3.heap.size w3 W5 by rw [hW];exact bA Hb.out _);rw [<- hW]
   try rw [Vh]
   clear hW c0 c1 c2 hlb X2 gI gJ iq Hb;obtain ⟨dF,dG,dI,jo,-,-,-⟩:=X5.bC;obtain ⟨jk,jl,jm,-,-⟩:=X6.bI;by_cases he:(⟨x0,y0⟩:Pt)=at_
   ·have hr:=Lib.hid (vF.out he);have he1:x0=at_.x:=by rw [<- he]
    have he2:y0=at_.y:=by rw [<- he]
    subst he1 he2;go_upto_region 10 with fail;refine bZ (Since W5) (.run 5 0 0 (.done)) (by kernel_rfl) (bD (bR _)) (by kernel_rfl) (by kernel_rfl) (Nat.le_of_ble_eq_true (by kernel_rfl)) ?_;intro cO QR ak aC hS
    iterate 5
     apply bg;exact ak;exact rfl;exact hS;exact rfl
     · intro _ hqc;go_simp;try rfl
     try simp only [pu]
    refine bM ?_;refine aC.down _ _ ?_;have hB:Below W5.heap.size W5 W5.drew:=hS;clear hS aC ak;go_wp2_with fail;exact bodyPost_ret (results_tmp3 rfl _ _ _) rfl ⟨by rw [hr.out];rfl,bT qR.out hB⟩
   ·have hne:¬ (x0=at_.x/\y0=at_.y):=fun e=>he (by rw [e.1,e.2]);have hr:=Lib.hid (Bj.out (by simpa using he));go_wp2_with fail
    all_goals
     refine ⟨⟨k+1,by omega,rfl,hr.out,HBg.out⟩,?_⟩;simp [intOf];omega
  ·obtain rfl:k=p.nodes.length:=by omega
   have hnn:=qy.out;rw [List.take_length] at hnn;have xP:=Lib.hid hnn;have HB4:=Lib.hid (bT HB3.out Hb.out);have X1:=eH.out.keep Hb.out;have dn:=Lib.hid (bY.out.keep Hb.out);have kP:=Lib.hid (ou.out.mono Hb.out);have LP:=Lib.hid (PU.out.keep Hb.out);have ahs:=Lib.hid (ahr.out.mono Hb.out);clear hnn qy Hb HB3 eH bY ou PU ahr HLn
   try clear aI
   try clear aJ
   try clear aK
   try clear aP
   obtain ⟨aI,aJ,aK,aP,-,-,-⟩:=X1.bC;go_upto_block 2 with fail;clear X1 aI aJ aK aP;go_wp2_with fail;go_loopw [46] (fun u wr=>∃ k:Nat,k<=al.length/\u=.int .i64 k/\(p.ah.take k).find? (L8 p at_)=none/\Below wo.heap.size wo wr) (fun u _=>al.length-(intOf u).toNat)
   case atStart => exact ⟨0,Nat.zero_le _,rfl,rfl,bR wo⟩
   case round =>
    obtain ⟨k,hk,rfl,hno,hb⟩:=hrel;obtain ⟨wq,rfl⟩:∃ wq:World,wq=wr:=⟨_,rfl⟩;have qy:=Lib.hid hno;have Hb:=Lib.hid hb;clear hno hb;by_cases hlt:k<al.length
    ·have hkp:k<p.ah.length:=by rw [<- rM.out];exact hlt
     have hax:p.ah[k]=al[k].1:=by
      have e:p.ah[k]? = some al[k].1:=by rw [uz.out,List.getElem?_map,List.getElem?_eq_getElem hlt];rfl
      rw [List.getElem?_eq_getElem hkp] at e;exact Option.some.inj e
     have ham:p.ah[k]∈p.ah:=List.getElem_mem hkp;have hid:=HV.out.jC ham;have hlen:=fJ p p.ah[k];have wW:=HV.out.Bh ham;obtain ⟨b,o,hA',hlb,c0,c1,c2,c3,c4,c5⟩:=(mM.out.mono (bT HB4.out Hb.out)).ar hlt;subst hA';have rF:=Lib.hid (fun he=>HLa.out xP.out k hkp qy.out he);have vN:=Lib.hid (fun hne=>aho hkp qy.out hne);obtain ⟨nm,hmp⟩:=(LP.out.keep Hb.out).mp;have pq:=(LP.out.keep Hb.out).rd _ ham;have hax':=hax;have hlk:∀ W,Below wq.heap.size wq W->_:=fun W hW=>(hmp.keep hW).look p.ah[k].id (kQ (by omega) (by omega));have L9:=Lib.hid hlk;rw [<- hax] at c0 c1 c2 c4 c5;unfold L8 at rF vN;generalize f p.ah[k].id=y at *;generalize au p p.ah[k]=PP at *;generalize p.ah[k]=ax at *;obtain ⟨Av,cv,hva,-⟩:=Dj.out k hlt;rw [hva] at c3;generalize al[k].1.via.length=nv' at *;clear hva;obtain ⟨ai,af,ad,av,af1,af2⟩:=ax;obtain ⟨Ap,np,cp⟩:=y;unfold aH at hlk L9 pq;have Fv:=Lib.hid pq;obtain ⟨KD,cp',he,hp1,hp2,-⟩:=pq;injection he with y1 y2 y3;subst y1 y2 y3;unfold maxLen at hp2;simp only at hid hlen wW c0 c1 c2 c3 c4 c5;have atK:2<=PP.length:=by omega
     have hpl2:PP.length<=66:=by omega
     clear hax hax' ham hmp hlk hlen wW;have ZI:(k:Int)<al.length:=by omega
     have ZJ:0<=(k:Int):=by omega
     go_upto_region 15 with fail;obtain ⟨W5,hW⟩:∃ W:World,W=wq.alloc (.cells #[.int .i64 ai,.int .i64 af,.int .i64 ad,.slice Av nv' cv,.int .i64 af1,.int .i64 af2] 50):=⟨_,rfl⟩;obtain ⟨g13,aht⟩:∃ g13,wq.heap.size=g13:=⟨_,rfl⟩;have X5:aj W5 g13 50 #[.int .i64 ai,.int .i64 af,.int .i64 ad,.slice Av nv' cv,.int .i64 af1,.int .i64 af2]:=by rw [hW];exact aj.made aht.symm _ _
     have hA:Below wq.heap.size wq W5:=by rw [hW];exact bA (bR wq) _
     have dK:=Lib.hid (bT (bT HB4.out Hb.out) hA);have HBq:=Lib.hid (bT Hb.out hA);have aqI:=Lib.hid (dn.out.keep (bT Hb.out hA));have aap:=Lib.hid X5;have hlk:=L9.out W5 hA;have BQ:=Lib.hid (Fv.out.mono hA);rw [<- hW]
     try rw [aht]
     clear hW hA c0 c1 c2 c3 c4 c5 hlb L9 Fv Hb
     try clear dF
     try clear dG
     try clear dI
     try clear jo
     obtain ⟨dF,dG,dI,jo,yt,Nr,Ns,-,-,-,-,-,-⟩:=X5.kZ;go_upto_block 4 with fail;clear X5 dF dG dI jo yt Nr Ns hlk;go_wp2_with fail;go_loopw [15] (fun u wr=>∃ m:Nat,m+1<=PP.length/\u=.int .i64 ((m:Int)+1)/\BU PP at_ m=false/\Below W5.heap.size W5 wr) (fun u _=>PP.length-(intOf u).toNat)
     case atStart => exact ⟨0,by omega,rfl,rfl,bR W5⟩
     case round =>
      obtain ⟨m,hm,rfl,hnm,hb⟩:=hrel;obtain ⟨wm,rfl⟩:∃ wm:World,wm=wr:=⟨_,rfl⟩;have xG:=Lib.hid hnm;have tK:=Lib.hid hb;clear hnm hb;by_cases hmt:m+1<PP.length
      ·obtain ⟨KD,cp',he,-,-,vG⟩:=BQ.out.mono tK.out;injection he with y1 y2 y3;subst y1 y3;clear y2;obtain ⟨bp,op,mX,hlp,d0,d1⟩:=vG.pt (show m<PP.length by omega);obtain ⟨bp',op',qx,-,d2,d3⟩:=vG.pt hmt;rw [mX] at qx;injection qx with qx;injection qx with q1 q2 _;subst q1 q2 mX;have hoi:=aqA (v:=at_) hmt;generalize PP[m+1]=pb at *;generalize PP[m]=pa at *;obtain ⟨xa,ya⟩:=pa;obtain ⟨xb,yb⟩:=pb;simp only at d0 d1 d2 d3;have X6:=aqI.out.keep tK.out;have X7:=aap.out.keep tK.out;have kF:=Lib.hid X7;have hx6:=X6.lt;have hx7:=X7.lt;have ZL:((m:Int)+1)<PP.length:=by omega
       have Uh:0<=(m:Int):=by omega
       have kk5:(m:Int)<PP.length:=by omega
       have kw:IntKind.i64.wrap (m:Int)=m:=IntWalk.i64_in _ (by omega)
       try clear jk
       try clear jl
       try clear jm
       obtain ⟨jk,jl,jm,-,-⟩:=X6.bI
       cases hon:fO ⟨xa,ya⟩ ⟨xb,yb⟩ at_ with
       | true =>
        have HO:=Lib.hid (fun W=>pG.out ⟨xa,ya⟩ ⟨xb,yb⟩ W);rw [hon] at HO;have hua:BU PP at_ (PP.length-1)=true:=aqB (k:=m+1) (by omega) (by rw [ahn,hoi,hon,Bool.or_true]);have hr:=Lib.hid (rF.out hua);clear hon hoi hua rF vN;go_upto_region 19 with fail;refine bZ (Since wm) (.run 10 0 0 (.call 10 2047 (.done))) (by kernel_rfl) (bD (bR _)) (by kernel_rfl) (by kernel_rfl) (Nat.le_of_ble_eq_true (by kernel_rfl)) ?_;intro cO QR ak aC hS
        iterate 10
         apply bg;exact ak;exact rfl;exact hS;exact rfl
         · intro _ hqc;go_simp;try rfl
         try simp only [pu]
        refine aT (i:=10) (aG ak rfl) (fun K hK=>?_);have aA:=Lib.hid hS;clear hS;refine aO (aV rfl) ?_;go_simp;refine (HO.out _).mono ?_;rintro e bH ⟨rfl,bJ⟩;have hS:Since wm bH:=bT (w:=wm) aA.out bJ;clear aA;refine hK.out _ _ hS (fun _=>?_);clear hK K
        try simp only [pu]
        refine bM ?_;refine aC.down _ _ ?_;have hB:Below wm.heap.size wm bH:=hS;clear hS aC ak;have iL:=Lib.hid (bT (bT dK.out tK.out) hB);have X8:=kF.out.keep hB;clear X6 jk jl jm d0 d1 d2 d3 hlp hB HO X7;obtain ⟨qj,ql,qm,WR,X8d,X8e,X8f,-,-,-,-,-,-⟩:=X8.kZ;go_upto_region 20 with fail;refine bZ (Since bH) (.run 5 0 0 (.done)) (by kernel_rfl) (bD (bR _)) (by kernel_rfl) (by kernel_rfl) (Nat.le_of_ble_eq_true (by kernel_rfl)) ?_;intro cO QR ak aC hS
        iterate 5
         apply bg;exact ak;exact rfl;exact hS;exact rfl
         · intro _ hqc;go_simp;try rfl
         try simp only [pu]
        refine bM ?_;refine aC.down _ _ ?_;have hB:Below bH.heap.size bH bH.drew:=hS;clear hS aC ak;go_wp2_with fail;exact bodyPost_ret (results_tmp3 rfl _ _ _) rfl ⟨by rw [hr.out];rfl,bT iL.out hB⟩
       | false =>
        have HO:=Lib.hid (fun W=>pG.out ⟨xa,ya⟩ ⟨xb,yb⟩ W);rw [hon] at HO;have hr:=Lib.hid (show BU PP at_ (m+1)=false by rw [ahn,hoi,hon,xG.out];rfl);clear hon hoi rF vN;go_upto_region 19 with fail;refine bZ (Since wm) (.run 10 0 0 (.call 10 2047 (.done))) (by kernel_rfl) (bD (bR _)) (by kernel_rfl) (by kernel_rfl) (Nat.le_of_ble_eq_true (by kernel_rfl)) ?_;intro cO QR ak aC hS
        iterate 10
         apply bg;exact ak;exact rfl;exact hS;exact rfl
         · intro _ hqc;go_simp;try rfl
         try simp only [pu]
        refine aT (i:=10) (aG ak rfl) (fun K hK=>?_);have aA:=Lib.hid hS;clear hS;refine aO (aV rfl) ?_;go_simp;refine (HO.out _).mono ?_;rintro e bH ⟨rfl,bJ⟩;have hS:Since wm bH:=bT (w:=wm) aA.out bJ;clear aA;refine hK.out _ _ hS (fun _=>?_);clear hK K
        try simp only [pu]
        refine bM ?_;refine aC.down _ _ ?_;have hB:Below wm.heap.size wm bH:=hS;clear hS aC ak;have oh:=Lib.hid (bT tK.out hB);clear X6 jk jl jm d0 d1 d2 d3 hlp hB HO X7;go_wp2_with fail;go_roundw
        case rel => exact ⟨m+1,by omega,by go_num,hr.out,oh.out⟩
        case measure => simp [intOf];omega
      ·obtain rfl:m=PP.length-1:=by omega
       have hr:=Lib.hid (vN.out xG.out);have HBk:=Lib.hid (bT HBq.out tK.out);clear rF vN xG pG tK;go_wp2_with fail;go_roundw
       case rel => exact ⟨k+1,by omega,by go_num,hr.out,HBk.out⟩
       case measure => simp [intOf];omega
    ·obtain rfl:k=al.length:=by omega
     have haa:=qy.out;rw [rM.out,List.take_length] at haa;have hr:=Lib.hid (HLf.out xP.out haa);have HBq:=Lib.hid (bT HB4.out Hb.out);have X6:=dn.out.keep Hb.out;have hA:=kP.out.mono Hb.out;have hP:=LP.out.keep Hb.out;have hR:=ahs.out.mono Hb.out;have ahu:=HD.out.len;obtain ⟨bb,oo,Qa,hl9,-⟩:=hR.int (k:=0) (by rw [xK];omega);subst Qa;have hF:∀ W,Below wq.heap.size wq W->Calls Tryz.prog 70 #[.map (some gm),.slice A ((aN p).length+1) c,.agg #[.int .i64 at_.x,.int .i64 at_.y]] W fun e w'=>(∃ i:Nat,e=.returned (.int .i64 i)/\(i:Int)<((aN p).length:Int)+1/\0<=(i:Int)/\wq.cell? ⟨bb,oo+i,none⟩=some (.int .i64 (oP p (iK p at_))))/\Below W.heap.size W w':=fun W hW=>by
      have hA':=hA.mono hW;rw [<- ahu] at *;refine (Ls.out W gm f (hP.keep hW) _ L hA'.read (fun x hx d hd=>by
       rcases HD.out.Zp hx with e | e
       · rw [e] at hd;cases hd
       · exact (HV.out.kK (kH.1 e).1).2 d hd) (by omega)).mono ?_
      rintro e w' ⟨⟨i,rfl,hbx⟩,hb'⟩;obtain ⟨hi,hh⟩:=HD.out.home rfl HT.out hbx;obtain ⟨bb',oo',Qa,hl9,hc9⟩:=hR.int (k:=i) (by rw [xK];exact hi);injection Qa with Qa;injection Qa with q1 q2 _;subst q1 q2;refine ⟨⟨i,rfl,by omega,by omega,?_⟩,hb'⟩;rw [hc9];congr 2;unfold pI;rw [List.getElem_map,List.getElem_range];unfold jF;rw [hh]
     have HF:=Lib.hid hF;clear haa hA hP hR hF ahu kP LP ahs qy xP HLf HLa pG Ls dn Hb
     try clear jk
     try clear jl
     try clear jm
     obtain ⟨jk,jl,jm,-,-⟩:=X6.bI;go_upto_region 22 with fail;refine bZ (Since wq) (.run 4 0 0 (.call 4 31 (.run 5 5 31 (.done)))) (by kernel_rfl) (bD (bR _)) (by kernel_rfl) (by kernel_rfl) (Nat.le_of_ble_eq_true (by kernel_rfl)) ?_;intro cO QR ak aC hS
     iterate 4
      apply bg;exact ak;exact rfl;exact hS;exact rfl
      · intro _ hqc;go_simp;try rfl
      try simp only [pu]
     refine aT (i:=4) (aG ak rfl) (fun K hK=>?_);have aA:=Lib.hid hS;clear hS;refine aO (aV rfl) ?_;go_simp;refine (HF.out _ aA.out).mono ?_;rintro e bH ⟨⟨ii,rfl,hi8,hi9,hc9⟩,bJ⟩;have hS:Since wq bH:=bT (w:=wq) aA.out bJ;clear aA;refine hK.out _ _ hS (fun _=>?_);clear hK K
     try simp only [pu]
     iterate 5
      apply bg;exact ak;exact rfl;exact hS;exact rfl
      · intro _ hqc;go_simp;try rfl
      try simp only [pu]
     refine bM ?_;refine aC.down _ _ ?_;have hB:Below wq.heap.size wq bH:=hS;clear hS aC ak;go_wp2_with fail;exact bodyPost_ret (results_tmp3 rfl _ _ _) rfl ⟨by rw [hr.out];rfl,bT HBq.out hB⟩
theorem aqJ (v:Value) (p:Pl) (at_:Pt) (w:World) (h:dS w v p):Calls Tryz.prog 24 #[v,aZ at_] w fun e w'=>e=.returned (Vg (wF p at_))/\Below w.heap.size w w':=by
 by_cases hv:jG p=0
 · cases hk:qL at_ with
  | true=>exact aqH v p at_ w h hv hk
  | false =>
   have e:wF p at_=(0,0,2):=by
    unfold wF;rw [if_neg (by simpa using hv),if_pos hk]
   rw [e];exact aqG v p at_ w h hv hk
 ·have e:wF p at_=(0,0,jG p):=by
   unfold wF;rw [if_pos hv]
  rw [e];exact aqF v p at_ w h hv
set_option linter.unusedSectionVars false
theorem ahv:∀ (l:List Pt) (x:Bx),let b:=l.foldl qc x;
  (b.x0<=x.x0/\b.y0<=x.y0/\x.x1<=b.x1/\x.y1<=b.y1)/\(∀ v∈l,b.x0<=v.x/\b.y0<=v.y/\v.x<=b.x1/\v.y<=b.y1) /\
  (b.x0=x.x0\/∃ v∈l,b.x0=v.x)/\(b.y0=x.y0\/∃ v∈l,b.y0=v.y)/\(b.x1=x.x1\/∃ v∈l,b.x1=v.x)/\(b.y1=x.y1\/∃ v∈l,b.y1=v.y)
 | [],x=>⟨⟨Int.le_refl _,Int.le_refl _,Int.le_refl _,Int.le_refl _⟩,fun v hv=>(by cases hv),.inl rfl,.inl rfl,.inl rfl,.inl rfl⟩
 | v::l,x=>by
  have ih:=ahv l (qc x v);simp only [List.foldl_cons];generalize l.foldl qc (qc x v)=b at *;obtain ⟨i1,i2,i3,i4,i5,i6⟩:=ih;unfold qc at i1 i3 i4 i5 i6;simp only at i1 i3 i4 i5 i6;have j1:b.x0<=x.x0/\b.x0<=v.x:=by clear i2 i3 i4 i5 i6;omega
  have j2:b.y0<=x.y0/\b.y0<=v.y:=by clear i2 i3 i4 i5 i6;omega
  have j3:x.x1<=b.x1/\v.x<=b.x1:=by clear i2 i3 i4 i5 i6;omega
  have j4:x.y1<=b.y1/\v.y<=b.y1:=by clear i2 i3 i4 i5 i6;omega
  refine ⟨⟨j1.1,j2.1,j3.1,j4.1⟩,fun u hu=>?_,?_,?_,?_,?_⟩
  ·rcases List.mem_cons.1 hu with rfl | hu
   · exact ⟨j1.2,j2.2,j3.2,j4.2⟩
   · exact i2 u hu
  ·clear i2 i4 i5 i6;rcases i3 with e | ⟨u,hu,e⟩
   ·rcases Int.le_total x.x0 v.x with c | c
    · exact .inl (by omega)
    · exact .inr ⟨v,List.mem_cons_self,by omega⟩
   · exact .inr ⟨u,List.mem_cons_of_mem _ hu,e⟩
  ·clear i2 i3 i5 i6;rcases i4 with e | ⟨u,hu,e⟩
   ·rcases Int.le_total x.y0 v.y with c | c
    · exact .inl (by omega)
    · exact .inr ⟨v,List.mem_cons_self,by omega⟩
   · exact .inr ⟨u,List.mem_cons_of_mem _ hu,e⟩
  ·clear i2 i3 i4 i6;rcases i5 with e | ⟨u,hu,e⟩
   ·rcases Int.le_total x.x1 v.x with c | c
    · exact .inr ⟨v,List.mem_cons_self,by omega⟩
    · exact .inl (by omega)
   · exact .inr ⟨u,List.mem_cons_of_mem _ hu,e⟩
  ·clear i2 i3 i4 i5;rcases i6 with e | ⟨u,hu,e⟩
   ·rcases Int.le_total x.y1 v.y with c | c
    · exact .inr ⟨v,List.mem_cons_self,by omega⟩
    · exact .inl (by omega)
   · exact .inr ⟨u,List.mem_cons_of_mem _ hu,e⟩
structure aaZ (b:Bx) (l:List Pt):Prop where
 all:∀ v∈l,b.x0<=v.x/\b.y0<=v.y/\v.x<=b.x1/\v.y<=b.y1
 x0:∃ v∈l,b.x0=v.x
 y0:∃ v∈l,b.y0=v.y
 x1:∃ v∈l,b.x1=v.x
 y1:∃ v∈l,b.y1=v.y
theorem aqK {l:List Pt} (h:l≠[]):aaZ (qJ l) l:=by
 cases l with
 | nil=>exact absurd rfl h
 | cons u l =>
  obtain ⟨-,i2,i3,i4,i5,i6⟩:=ahv (u::l) ⟨u.x,u.y,u.x,u.y⟩;exact ⟨i2,i3.elim (fun e=>⟨u,List.mem_cons_self,e⟩) id,i4.elim (fun e=>⟨u,List.mem_cons_self,e⟩) id,i5.elim (fun e=>⟨u,List.mem_cons_self,e⟩) id,i6.elim (fun e=>⟨u,List.mem_cons_self,e⟩) id⟩
theorem aaZ.le {b:Bx} {l:List Pt} (h:aaZ b l):b.x0<=b.x1/\b.y0<=b.y1:=by
 obtain ⟨h0,⟨u,hu,e⟩,-⟩:=h;have:=h0 u hu
 omega
theorem aqL {P:List Pt} (h:2<=P.length) (v:Pt):v∈lI (gX P)↔v∈P:=by
 unfold lI;rw [List.mem_flatMap];constructor
 ·rintro ⟨q,hq,hv⟩;unfold gX at hq;obtain ⟨k,hk,rfl⟩:=List.mem_map.1 hq;rw [List.mem_range] at hk;have g:∀ j,j<P.length->P.getD j aB∈P:=fun j hj=>by
   rw [List.getD_eq_getElem?_getD,List.getElem?_eq_getElem hj];exact List.getElem_mem hj
  simp only [List.mem_cons,List.not_mem_nil,or_false] at hv;rcases hv with rfl | rfl
  · exact g k (by omega)
  · exact g (k+1) (by omega)
 ·intro hv;obtain ⟨j,hj,rfl⟩:=List.mem_iff_getElem.1 hv;have g:∀ j (hj:j<P.length),P.getD j aB=P[j]:=fun j hj=>by rw [List.getD_eq_getElem?_getD,List.getElem?_eq_getElem hj];rfl
  by_cases e:j+1<P.length
  ·refine ⟨(P.getD j aB,P.getD (j+1) aB),?_,by show P[j]∈[P.getD j aB,P.getD (j+1) aB];rw [g j hj];exact List.mem_cons_self⟩;unfold gX;exact List.mem_map.2 ⟨j,List.mem_range.2 (by omega),rfl⟩
  ·refine ⟨(P.getD (j-1) aB,P.getD (j-1+1) aB),?_,?_⟩
   ·unfold gX;exact List.mem_map.2 ⟨j-1,List.mem_range.2 (by omega),rfl⟩
   ·have:j-1+1=j:=by omega
    show P[j]∈[P.getD (j-1) aB,P.getD (j-1+1) aB]
    rw [this,g j hj];exact List.mem_cons_of_mem _ List.mem_cons_self
theorem aa0 (p:Pl) (d:Int) (v:Pt):v∈aad p d↔v∈gu p d:=by
 unfold aad;split
 · exact Iff.rfl
 · exact List.mem_reverse
section
variable {p:Pl} (h:Valid p)
include h
theorem Valid.ahw {X:List Int} (hX:∀ d∈X,d∈aQ p) (v:Pt):v∈lI (bU p X)↔v∈X.flatMap (aad p):=by
 have e:v∈lI (bU p X)↔∃ d∈X,v∈lI (gX (gu p d)):=by
  unfold lI bU;rw [List.flatMap_assoc,List.mem_flatMap]
 rw [e,List.mem_flatMap];refine exists_congr fun d=>and_congr_right fun hd=>?_;obtain ⟨a,ha,-,hp⟩:=h.BA (hX d hd);have hl:=fJ p a;rw [aqL (by rw [hp];omega),aa0]
omit h in
theorem aqM {v:Pt} {X:List Int} (e:iK p v=some X):X∈aN p:=(Ie _ _ e).1
omit h in
theorem aa1 {f:Int} {X:List Int} (e:IJ p f=some X):X∈aN p/\oP p (some X)=f:=⟨List.mem_of_find?_eq_some e,eq_of_beq (show (oP p (some X) == f)=true from List.find?_some (p:=fun X=>oP p (some X) == f) e)⟩
end
section
variable {p:Pl} (h:Valid p)
include h
end
set_option linter.unusedSectionVars false
section
variable (p:Pl)
theorem aa2 (i:Int):findAr (dw p).ah i=(findAr p.ah i).map vP:=by
 unfold findAr dw;rw [List.find?_map];rfl
theorem aa3 (d:Int):iC (dw p) d=(iC p d).map vP:=by
 unfold iC;split
 · rfl
 · exact aa2 p _
theorem aqN (d:Int):lD (dw p) d=lD p d:=by
 unfold lD;rw [aa3]
 cases iC p d<;>rfl
theorem aqO (d:Int):uh (dw p) d=uh p d:=by
 unfold uh;rw [aa3]
 cases iC p d<;>rfl
theorem ahx (d:Int):dJ (dw p) d=dJ p d:=by
 unfold dJ;rw [aa2]
 cases findAr p.ah (gV d)<;>rfl
theorem ahy (d:Int):gu (dw p) d=gu p d:=by
 unfold gu;rw [aa2]
 cases findAr p.ah (gV d)<;>rfl
theorem aqP (n:Int):dL (dw p).ah n=dL p.ah n:=by
 unfold dL dw;rw [List.flatMap_map];rfl
theorem aa4:aQ (dw p)=aQ p:=by
 unfold aQ dw;simp only [List.map_map];rfl
theorem aqQ (n:Int):dB (dw p) n=dB p n:=by
 unfold dB;rw [aqP];have e:∀ o,ltD (dw p) o=ltD p o:=fun o=>by funext d e;unfold ltD;rw [ahx,ahx]
 show (match mJ p.nodes n with | none=>_ | some x=>_)=_
 cases mJ p.nodes n with
 | none=>rfl
 | some x=>simp only [e]
theorem aqR:fU (dw p)=fU p:=by
 funext d
 unfold fU;rw [aa3,aqN,aqQ,Option.isSome_map]
theorem Vj:aY (dw p)=aY p:=by unfold aY;rw [aqR,aa4]
theorem Qb:eY (dw p)=eY p:=by
 funext X
 unfold eY;have e:uh (dw p)=uh p:=funext (aqO p);rw [e]
theorem aqS:bU (dw p)=bU p:=by
 funext X
 unfold bU;have e:gu (dw p)=gu p:=funext (ahy p);rw [e]
theorem aqT:encS (dw p)=encS p:=by funext X v;unfold encS;rw [aqS]
theorem aa5:aN (dw p)=aN p:=by unfold aN;rw [Vj,Qb]
theorem aa6:iP (dw p)=iP p:=by unfold iP;rw [Vj,Qb]
theorem Vk:iK (dw p)=iK p:=by funext v;unfold iK;rw [aa5,Qb,aqT]
theorem aqU:oO (dw p)=oO p:=by funext c;unfold oO;rw [ahy]
theorem aa7:lW (dw p)=lW p:=by funext b;unfold lW;rw [aa6,Vk,aqU]
theorem aqV (i:Int):iM (dw p).ah i=iM p.ah i:=by unfold iM dw;rw [List.map_map];rfl
theorem ahz:sW (dw p)=sW p:=by
 funext b
 unfold sW;rw [Vk];simp only [aqV];rfl
theorem ahA:jq (dw p)=jq p:=by funext b;unfold jq;rw [aa7]
theorem ahB (a:Ar):RV (dw p) (vP a)↔RV p a:=Iff.rfl
end
def rY (p q:Pl):Prop:=dw p=dw q
theorem rY.nodes {p q:Pl} (h:rY p q):p.nodes=q.nodes:=by
 have e:dw p=dw q:=h;exact show (dw p).nodes=(dw q).nodes by rw [e]
theorem rY.ah {p q:Pl} (h:rY p q):p.ah.map vP=q.ah.map vP:=by
 have e:dw p=dw q:=h;exact show (dw p).ah=(dw q).ah by rw [e]
theorem rY.map {p q:Pl} (h:rY p q) {α:Type} (f:Ar->α) (hf:∀ a,f (vP a)=f a):p.ah.map f=q.ah.map f:=by
 have:=congrArg (List.map f) h.ah
 rw [List.map_map,List.map_map] at this;have e:f ∘ vP=f:=funext hf
 rwa [e] at this
section
variable {p q:Pl} (h:rY p q)
include h
theorem rY.aQ:aQ p=aQ q:=by rw [<- aa4 p,<- aa4 q,h]
theorem rY.aY:aY p=aY q:=by rw [<- Vj p,<- Vj q,h]
theorem rY.eY:eY p=eY q:=by rw [<- Qb p,<- Qb q,h]
theorem rY.aN:aN p=aN q:=by rw [<- aa5 p,<- aa5 q,h]
theorem rY.iP:iP p=iP q:=by rw [<- aa6 p,<- aa6 q,h]
theorem rY.iK:iK p=iK q:=by rw [<- Vk p,<- Vk q,h]
theorem rY.jq:jq p=jq q:=by rw [<- ahA p,<- ahA q,h]
theorem rY.lW:lW p=lW q:=by rw [<- aa7 p,<- aa7 q,h]
theorem rY.sW:sW p=sW q:=by rw [<- ahz p,<- ahz q,h]
theorem rY.valid (hv:Valid p) (h1:q.faces.length<=64) (h2:uU q.faces=true) (h3:∀ f∈q.faces,qK f=false) (h4:GK q=true):Valid q where
 lim:=by
  have hl:=hv.lim;unfold nN at hl ⊢;simp only [Bool.or_eq_false_iff,decide_eq_false_iff_not] at hl ⊢;obtain ⟨a1,⟨a2,a3⟩,-⟩:=hl;rw [<- h.nodes];have e1:q.ah.any (fun a=>decide (64<a.via.length))=p.ah.any (fun a=>decide (64<a.via.length)):=by
   rw [any_map' q.ah,any_map' p.ah,h.map (fun a=>decide (64<a.via.length)) (fun a=>rfl)]
  have e2:p.ah.length=q.ah.length:=by simpa using congrArg List.length h.ah
  rw [e1,<- e2];exact ⟨a1,⟨a2,a3⟩,by omega⟩
 ord:=by
  have ho:=hv.ord;unfold y7 at ho ⊢;rw [Bool.and_eq_true,Bool.and_eq_true] at ho ⊢;rw [<- h.nodes,<- h.map (·.id) (fun a=>rfl)];exact ⟨ho.1,h2⟩
 rng:=by
  have hr:=hv.rng;unfold wQ at hr ⊢;rw [Bool.and_eq_true] at hr ⊢;have ep:Az q=Az p:=by
   unfold Az;rw [<- h.nodes,List.flatMap_def,List.flatMap_def,h.map (·.via) (fun a=>rfl)]
  rw [ep];refine ⟨?_,hr.2⟩;have h0:=hr.1;rw [Bool.not_eq_true',List.any_eq_false] at h0 ⊢;rw [<- h.nodes,<- h.map (·.id) (fun a=>rfl)];intro x hx;rcases List.mem_append.1 hx with hx | hx
  · exact h0 x (List.mem_append_left _ hx)
  · rw [h3 x hx];simp
 dup:=by have:=hv.dup;rwa [h.nodes] at this
 ends:=by
  have:=hv.ends
  rw [all_map'] at this ⊢;rw [<- this];congr 1;have e:qZ q=qZ p:=by funext a;unfold qZ;rw [h.nodes]
  rw [e];exact (h.map (qZ p) (fun a=>rfl)).symm
 sides:=h4
 Xf:=by
  have hs:(p.ah.map (·.id)).Pairwise (· < ·):=hv.sound.ah;have hs':(q.ah.map (·.id)).Pairwise (· < ·):=by rw [<- h.map (·.id) (fun a=>rfl)];exact hs
  have hb:(dw p).ah.map (·.id)=p.ah.map (·.id):=by unfold dw;simp only [List.map_map];rfl
  have hb':(dw q).ah.map (·.id)=q.ah.map (·.id):=by unfold dw;simp only [List.map_map];rfl
  have key:∀ r:Pl,(r.ah.map (·.id)).Pairwise (· < ·)->(sJ (dw r)=true↔sJ r=true):=fun r hr=>by
   have hbr:(dw r).ah.map (·.id)=r.ah.map (·.id):=by unfold dw;simp only [List.map_map];rfl
   rw [ad4 r hr,ad4 (dw r) (by rw [hbr];exact hr)];refine and_congr ?_ ?_
   ·show (∀ a∈r.ah.map vP,RV (dw r) a)↔_
    constructor
    · exact fun g a ha=>(ahB r a).1 (g _ (List.mem_map_of_mem ha))
    ·rintro g a ha;obtain ⟨b,hb,rfl⟩:=List.mem_map.1 ha;exact (ahB r b).2 (g b hb)
   ·show List.Pairwise (NZ (dw r)) (r.ah.map vP)↔_
    rw [List.pairwise_map];exact Iff.rfl
  have h5:=(key p hs).2 hv.Xf;have h6:dw p=dw q:=h;rw [h6] at h5;exact (key q hs').1 h5
end
end Go.Proofs.YtialfdomhoojiaaGreat
