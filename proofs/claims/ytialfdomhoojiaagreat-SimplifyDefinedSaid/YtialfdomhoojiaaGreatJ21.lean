import Derived.Test.YtialfdomhoojiaaGreatJ19
set_option linter.unusedSimpArgs false
set_option linter.unusedVariables false
set_option maxRecDepth 100000
set_option maxHeartbeats 4000000
namespace Go.Proofs.YtialfdomhoojiaaGreat
open Go.RowKit
def BP (a b c q:Pt):Bool:=decide (q≠a) && (decide (q≠b) && (decide (q≠c) && zM a b c q))
def Gt (p:Pl) (a:Ar):Bool:=p.aj.any fun b=>decide (b.id≠a.id) && (decide (b.via.length=0) && (decide (b.fr=a.fr) && decide (b.dst=a.dst) || decide (b.fr=a.dst) && decide (b.dst=a.fr)))
def yE (p:Pl) (a:Ar) (P:List Pt) (i:Nat):Bool :=
 iP (P.getD i aA) && (iP (P.getD (i+1) aA) && (iP (P.getD (i+2) aA) && (!(decide (a.fr=a.dst) && decide (a.via.length<3)) && (!(decide (a.via.length=1) && Gt p a) &&
  (!(p.nodes.any fun n=>BP (P.getD i aA) (P.getD (i+1) aA) (P.getD (i+2) aA) n.pt) && !(p.aj.any fun b=>b.via.any (BP (P.getD i aA) (P.getD (i+1) aA) (P.getD (i+2) aA))))))))
def rW (p:Pl) (arc i:Int):Bool :=
 match findAr p.aj arc with
 | none=>false
 | some a=>if i<0\/(a.via.length:Int)<=i then false else if jD p a=true then yE p a (au p a) i.toNat else false
structure Cd where
 id:Int
 k:Nat
 n:Int
def ug (P:List Pt) (k:Nat):Int:=let t:=kY (P.getD k aA) (P.getD (k+1) aA) (P.getD (k+2) aA);if t<0 then -t else t
def uX (p:Pl) (aN:Int) (a:Ar) (P:List Pt) (m:Nat):List Cd :=
 ((List.range m).filter fun k=>decide (ug P k<aN) && yE p a P k).map fun k=>⟨a.id,k,ug P k⟩
def pX (p:Pl) (aN:Int) (id:Int):List Cd :=
 match findAr p.aj id with
 | none=>[]
 | some a=>if jD p a=true then uX p aN a (au p a) a.via.length else []
def uh (s:Option Cd) (c:Cd):Option Cd :=
 match s with
 | none=>some c
 | some b=>if (if c.n≠b.n then decide (c.n<b.n) else decide (c.id<b.id) || decide (c.id=b.id) && decide (c.k<b.k))=true then some c else some b
def kQ (s:Option Cd) (c:Cd):Option Cd :=
 match s with
 | none=>some c
 | some b=>if c.n<b.n\/c.n=b.n/\c.id<b.id then some c else some b
theorem V9 (p:Pl) (aN:Int) (a:Ar) (P:List Pt) (m:Nat):uX p aN a P (m+1)=uX p aN a P m++if (decide (ug P m<aN) && yE p a P m)=true then [⟨a.id,m,ug P m⟩] else []:=by
 unfold uX;rw [List.range_succ,List.filter_append,List.map_append];congr 1;simp only [List.filter_cons,List.filter_nil];split<;>rfl
theorem abt {p:Pl} {aN:Int} {a:Ar} {P:List Pt} {m:Nat} {c:Cd} (h:c∈uX p aN a P m):c.id=a.id/\c.k<m/\c.n=ug P c.k/\c.n<aN/\yE p a P c.k=true:=by
 unfold uX at h;obtain ⟨k,hk,rfl⟩:=av6.1 h;rw [av7,List.mem_range,avR,avQ] at hk;exact ⟨rfl,hk.1,rfl,hk.2.1,hk.2.2⟩
theorem ahf {p:Pl} {aN id:Int} {c:Cd} (h:c∈pX p aN id):c.id=id:=by
 unfold pX at h
 cases e:findAr p.aj id with
 | none=>rw [e] at h;cases h
 | some a =>
  rw [e] at h;simp only at h;split at h
  ·have:=(abt h).1
   have hf:=List.find?_some e;rw [this];simpa using hf
  · cases h
def nS (p:Pl) (aN:Int) (st:List Int×Option Cd) (a:Ar):List Int×Option Cd:=if decide (a.id∈st.1)=true then st else (st.1++[a.id],(pX p aN a.id).foldl uh st.2)
def DL (p:Pl) (aN:Int) (l:List Ar) (s:Option Cd):Option Cd:=l.foldl (fun s a=>(pX p aN a.id).foldl kQ s) s
def lY (p:Pl) (aN:Int):Option Cd:=(p.aj.foldl (nS p aN) ([],none)).2
def zN (b c:Cd):Prop:=¬ (c.n<b.n\/c.n=b.n/\c.id<b.id)
theorem apo (s:Option Cd) (c:Cd):∃ b,kQ s c=some b/\zN b c/\(∀ d,s=some d->zN b d)/\(b=c\/s=some b):=by
 unfold kQ zN
 cases s with
 | none=>exact ⟨c,rfl,by omega,(fun d h=>by cases h),.inl rfl⟩
 | some b =>
  simp only;split
  · exact ⟨c,rfl,by omega,(fun d h=>by injection h with h;subst h;omega),.inl rfl⟩
  ·rename_i h;exact ⟨b,rfl,h,(fun d h=>by injection h with h;subst h;omega),.inr rfl⟩
theorem zN.trans {a b c:Cd} (h1:zN a b) (h2:zN b c):zN a c:=by unfold zN at *;omega
theorem Wh:∀ (l:List Cd) (s:Option Cd),(∀ d,s=some d->∃ b,l.foldl kQ s=some b/\zN b d)/\(∀ c∈l,∃ b,l.foldl kQ s=some b/\zN b c)/\(∀ b,l.foldl kQ s=some b->b∈l\/s=some b)
 | [],s=>⟨fun d h=>⟨d,h,by unfold zN;omega⟩,(fun c h=>by cases h),fun b h=>.inr h⟩
 | c::l,s=>by
  obtain ⟨b,e,n1,n2,ho⟩:=apo s c;obtain ⟨f1,f2,f3⟩:=Wh l (kQ s c);obtain ⟨z,ez,nz⟩:=f1 b e;refine ⟨fun d hd=>⟨z,ez,nz.trans (n2 d hd)⟩,fun x hx=>?_,fun y hy=>?_⟩
  ·rcases av2.1 hx with rfl | hx
   · exact ⟨z,ez,nz.trans n1⟩
   · exact f2 x hx
  ·rcases f3 y hy with h | h
   · exact .inl (List.mem_cons_of_mem _ h)
   ·rw [e] at h;injection h with h;subst h;rcases ho with rfl | ho
    · exact .inl av3
    · exact .inr ho
theorem ahg:∀ (l:List Cd) (b:Cd),(∀ c∈l,zN b c)->l.foldl kQ (some b)=some b
 | [],_,_=>rfl
 | c::l,b,h=>by
  have e:kQ (some b) c=some b:=by unfold kQ;exact if_neg (h c av3)
  rw [List.foldl_cons,e];exact ahg l b fun x hx=>h x (List.mem_cons_of_mem _ hx)
theorem apq {s:Option Cd} {c:Cd} (h:∀ b,s=some b->c.id=b.id->b.k<=c.k):uh s c=kQ s c:=by
 unfold uh kQ
 cases s with
 | none=>rfl
 | some b =>
  have:=h b rfl
  simp only;by_cases e:c.n≠b.n
  ·rw [if_pos e];simp only [avQ];by_cases g:c.n<b.n
   · rw [if_pos g,if_pos (.inl g)]
   · rw [if_neg g,if_neg Pe]
  ·rw [if_neg e];simp only [Bool.or_eq_true,avR,avQ];by_cases g:c.id<b.id
   · rw [if_pos (.inl g),if_pos Pe]
   · rw [if_neg Pe,if_neg Pe]
theorem ahh (p:Pl) (aN:Int) (a:Ar) (P:List Pt) (s:Option Cd) (hs:∀ b,s=some b->b.id≠a.id):∀ m,(uX p aN a P m).foldl uh s=(uX p aN a P m).foldl kQ s
 | 0=>rfl
 | m+1=>by
  rw [V9,List.foldl_append,List.foldl_append,ahh p aN a P s hs m];split
  ·show uh _ _=kQ _ _
   refine apq fun b hb hid=>?_;rcases (Wh _ _).2.2 b hb with h | h
   ·have:=(abt h).2.1
    show b.k<=m
    omega
   · exact absurd hid.symm (hs b h)
  · rfl
theorem apr (p:Pl) (aN id:Int) (s:Option Cd) (hs:∀ b,s=some b->b.id≠id):(pX p aN id).foldl uh s=(pX p aN id).foldl kQ s:=by
 unfold pX
 cases e:findAr p.aj id with
 | none=>rfl
 | some a =>
  have hf:a.id=id:=by simpa using List.find?_some e
  simp only;split
  · exact ahh p aN a _ s (by rw [hf];exact hs) _
  · rfl
theorem abu (p:Pl) (aN:Int):∀ (l:List Ar) (st:List Int×Option Cd),(∀ b,st.2=some b->b.id∈st.1)->(∀ id∈st.1,∀ c∈pX p aN id,∃ b,st.2=some b/\zN b c)->(l.foldl (nS p aN) st).2=DL p aN l st.2
 | [],_,_,_=>rfl
 | a::l,(seen,s),h1,h2=>by
  rw [List.foldl_cons]
  show _=DL p aN l ((pX p aN a.id).foldl kQ s)
  simp only at h1 h2;have hst:nS p aN (seen,s) a=if decide (a.id∈seen)=true then (seen,s) else (seen++[a.id],(pX p aN a.id).foldl uh s):=rfl;rw [hst];by_cases e:a.id∈seen
  ·rw [if_pos (by simpa using e),abu p aN l (seen,s) h1 h2];congr 1;symm;have h3:=h2 _ e
   cases s with
   | none =>
    cases hc:pX p aN a.id with
    | nil=>rfl
    | cons c t =>
     obtain ⟨b,hb,-⟩:=h3 c (by rw [hc];exact av3)
     cases hb
   | some b =>
    refine ahg _ _ fun c hc=>?_;obtain ⟨b',hb,hn⟩:=h3 c hc;injection hb with hb;subst hb;exact hn
  ·rw [if_neg (by simpa using e),apr p aN a.id s (fun b hb hid=>e (hid ▸ h1 b hb))];obtain ⟨f1,f2,f3⟩:=Wh (pX p aN a.id) s;refine abu p aN l _ (fun b hb=>?_) (fun id hid c hc=>?_)
   ·rcases f3 b hb with h | h
    · rw [ahf h];exact List.mem_append_right _ (avY.2 rfl)
    · exact List.mem_append_left _ (h1 b h)
   ·rcases av1.1 hid with hid | hid
    ·obtain ⟨b,hb,hn⟩:=h2 id hid c hc;obtain ⟨z,hz,hz2⟩:=f1 b hb;exact ⟨z,hz,hz2.trans hn⟩
    ·rw [avY] at hid;subst hid;exact f2 c hc
theorem RH (p:Pl) (aN:Int):lY p aN=DL p aN p.aj none:=abu p aN p.aj ([],none) (fun b h=>by cases h) (fun id h=>by cases h)
def uj (arc:Int) (i:Nat):List Ar->List Ar
 | []=>[]
 | a::l=>if a.id=arc then ⟨a.id,a.fr,a.dst,a.via.eraseIdx i,a.left,a.right⟩::l else a::uj arc i l
def EH (p:Pl) (arc:Int) (i:Nat):Pl:=⟨p.nodes,uj arc i p.aj,p.faces⟩
def uY (p:Pl) (aN:Int):Option Pl:=(lY p aN).map fun c=>EH p c.id c.k
def qB (l:List Ar):Nat:=(l.map (·.via.length)).sum
def Wi (aN:Int):Nat->Pl->Pl
 | 0,p=>p
 | n+1,p=>match uY p aN with
  | none=>p
  | some q=>Wi aN n q
def BQ (p:Pl) (aN:Int):Pl:=Wi aN (qB p.aj) p
theorem ahi {arc:Int} {i:Nat}:∀ {l:List Ar} {a:Ar},findAr l arc=some a->i<a.via.length->qB (uj arc i l)+1=qB l
 | [],a,h,_=>by cases h
 | b::l,a,h,hi=>by
  unfold findAr at h;rw [List.find?_cons] at h;unfold uj;by_cases e:b.id=arc
  ·rw [show (b.id == arc)=true by simpa using e] at h;injection h with h;subst h;rw [if_pos e];unfold qB;simp only [List.map_cons,List.sum_cons,List.length_eraseIdx];rw [if_pos hi];omega
  ·rw [show (b.id == arc)=false by simpa using e] at h;rw [if_neg e];have ih:=ahi (l:=l) h hi;unfold qB at *;simp only [List.map_cons,List.sum_cons];omega
theorem abv (arc:Int) (i:Nat):∀ l:List Ar,(uj arc i l).length=l.length
 | []=>rfl
 | b::l=>by
  unfold uj;split
  · rfl
  · rw [avO,avO,abv arc i l]
theorem Wj {p:Pl} {aN:Int} {c:Cd} (h:lY p aN=some c):∃ a,findAr p.aj c.id=some a/\a.id=c.id/\jD p a=true/\c.k<a.via.length/\c.n=ug (au p a) c.k/\c.n<aN/\yE p a (au p a) c.k=true:=by
 rw [RH] at h;unfold DL at h;have key:∀ (l:List Ar) (s:Option Cd),l.foldl (fun s a=>(pX p aN a.id).foldl kQ s) s=some c->s=some c\/∃ id,c∈pX p aN id:=by
  intro l
  induction l with
  | nil=>exact fun s h=>.inl h
  | cons a l ih =>
   intro s h;rw [List.foldl_cons] at h;rcases ih _ h with e | e
   ·rcases (Wh _ _).2.2 c e with g | g
    · exact .inr ⟨_,g⟩
    · exact .inl g
   · exact .inr e
 rcases key _ _ h with e | ⟨id,e⟩
 · cases e
 have hid:=ahf e;unfold pX at e
 cases hf:findAr p.aj id with
 | none=>rw [hf] at e;cases e
 | some a =>
  rw [hf] at e;simp only at e;split at e
  ·rename_i he;obtain ⟨h1,h2,h3,h4,h5⟩:=abt e;exact ⟨a,by rw [hid,hf],h1.symm,he,h2,h3,h4,h5⟩
  · cases e
theorem abw {p q:Pl} {aN:Int} (h:uY p aN=some q):qB q.aj+1=qB p.aj:=by
 unfold uY at h
 cases e:lY p aN with
 | none=>rw [e] at h;cases h
 | some c =>
  rw [e] at h;injection h with h;subst h;obtain ⟨a,hf,-,-,hk,-⟩:=Wj e;exact ahi hf hk
theorem ahj {p q:Pl} {aN:Int} (h:uY p aN=some q):BQ p aN=BQ q aN:=by
 have ht:=abw h;unfold BQ;rw [<- ht];generalize qB q.aj=n;unfold Wi;rw [h]
 cases n<;>rfl
theorem ahk {p:Pl} {aN:Int} (h:uY p aN=none):BQ p aN=p:=by
 unfold BQ
 cases qB p.aj with
 | zero=>rfl
 | succ n=>unfold Wi;rw [h]
def BR (a b:Ar):Bool:=decide (b.id≠a.id) && (decide (b.via.length=0) && (decide (b.fr=a.fr) && decide (b.dst=a.dst) || decide (b.fr=a.dst) && decide (b.dst=a.fr)))
theorem ahl (p:Pl) (a:Ar):Gt p a=p.aj.any (BR a):=rfl
def Wn (f:Ar->Bool) (l:List Ar) (r:Int):Prop:=(r=-1/\∀ j (hj:j<l.length),f l[j]=false)\/∃ (k:Nat) (hk:k<l.length),r=(k:Int)/\f l[k]=true/\∀ j (hj:j<l.length),j<k->f l[j]=false
theorem Wn.any {f:Ar->Bool} {l:List Ar} {r:Int} (h:Wn f l r):decide (0<=r)=l.any f:=by
 rcases h with ⟨rfl,h⟩ | ⟨k,hk,rfl,h,-⟩
 ·symm;rw [show decide ((0:Int)<=-1)=false by decide,<- Bool.not_eq_true,awg];rintro ⟨x,hx,e⟩;obtain ⟨j,hj,rfl⟩:=avI.1 hx;rw [h j hj] at e
  cases e
 ·rw [avW Pe];exact (awg.2 ⟨_,avF hk,h⟩).symm
theorem aps (a b:Ar) (va:Value) (A:Option Addr) (c:Nat) (g:Nat) (w:World) (h:ah w g 50 #[.int .i64 a.id,.int .i64 a.fr,.int .i64 a.dst,va,.int .i64 a.left,.int .i64 a.right]) :
  Calls Tryz.prog 210 #[jZ b (.slice A b.via.length c),.pointer (some ⟨g,0,none⟩)] w fun e w'=>e=.returned (.bool (BR a b))/\Below w.heap.size w w':=by
 obtain ⟨R,hR⟩:∃ R,BR a b=R:=⟨_,rfl⟩;rw [hR];obtain ⟨y,hy⟩:∃ y,((b.fr == a.fr) && (b.dst == a.dst) || (b.fr == a.dst) && (b.dst == a.fr))=y:=⟨_,rfl⟩;have e0:BR a b=((b.id != a.id) && (decide (b.via.length=0) && ((b.fr == a.fr) && (b.dst == a.dst) || (b.fr == a.dst) && (b.dst == a.fr)))):=by
  unfold BR;congr 1;simp [bne];rfl
 rw [e0,hy] at hR;clear e0;have HX:=avE h;unfold jZ;generalize b.via.length=n at *;obtain ⟨id,fr,dst,via,lf,rt⟩:=a;obtain ⟨id',fr',dst',auD,lf',rt'⟩:=b;simp only at *;have HR:=avE hR;have HY:=avE hy;clear hR hy h;go_enter Tryz.func210,Tryz.ntmps210;go_upto_region 1 with fail;obtain ⟨W1,hW⟩:∃ W:World,W=w.alloc (.cells #[.int .i64 id',.int .i64 fr',.int .i64 dst',.slice A n c,.int .i64 lf',.int .i64 rt'] 50):=⟨_,rfl⟩;have X2:ah W1 w.heap.size 50 #[.int .i64 id',.int .i64 fr',.int .i64 dst',.slice A n c,.int .i64 lf',.int .i64 rt']:=by rw [hW];exact ah.made rfl _ _
 have HB1:=avE (show Below w.heap.size w W1 by rw [hW];exact bA (bR w) _);have X1:=HX.out.keep HB1.out;rw [<- hW];clear hW;obtain ⟨aS,aT,aU,aW,X1d,X1e,X1f,-,-,-,-,-,-⟩:=X1.gX;obtain ⟨aG,aI,aJ,aO,X2d,X2e,X2f,-,-,-,-,-,-⟩:=X2.gX;go_cut [4] (fun u wx=>u=.bool y/\wx=W1)
 case first =>
  have hy:=HY.out
  cases e1:(fr' == fr)<;>cases e2:(dst' == dst)<;>cases e3:(fr' == dst)<;>cases e4:(dst' == fr) <;>
   (rw [e1,e2,e3,e4] at hy
    have Hy:=avE hy;clear hy;go_wp2;go_meet
    case rel => exact ⟨by rw [<- Hy.out];rfl,rfl⟩)
 case rest =>
 obtain ⟨rfl,hw⟩:=hcut;subst hw;have hR:=HR.out
 cases e5:(id' != id)<;>cases e6:((n:Int) == 0) <;>
  (have q6:=e6
   simp only [beq_iff_eq,beq_eq_false_iff_ne,ne_eq,Int.natCast_eq_zero,Int.ofNat_eq_zero] at q6;simp only [q6,decide_true,decide_false] at hR;rw [e5] at hR;have Hr:=avE hR;clear hR q6;go_wp2;go_ret;exact ⟨by rw [<- Hr.out];simp,HB1.out⟩)
theorem apt (va:Value) (al:List (Ar×Value)) (a:Ar) (v:Value) (g:Nat) (w:World) (h:Ia w va al) (hx:ah w g 50 #[.int .i64 a.id,.int .i64 a.fr,.int .i64 a.dst,v,.int .i64 a.left,.int .i64 a.right]) (hlen:al.length<=1000000) :
  Calls Tryz.prog 154 #[va,.func (.func 210) #[] #[.pointer (some ⟨g,0,none⟩)]] w fun e w'=>(∃ r,e=.returned (.int .i64 r)/\Wn (BR a) (al.map (·.1)) r)/\Below w.heap.size w w':=by
 obtain ⟨⟨A,c,rfl,hn,hc,hR⟩,hV⟩:=h;have HR:=avE hR;have HV:=avE hV;have HX:=avE hx;obtain ⟨L,hL⟩:∃ L:List Ar,al.map (·.1)=L:=⟨_,rfl⟩;obtain ⟨f,hf⟩:∃ f:Ar->Bool,BR a=f:=⟨_,rfl⟩;have iM:=avE (show L.length=al.length by rw [<- hL,avM]);have RI:=avE (fun k (hk:k<L.length) (hk':k<al.length)=>show L[k]=al[k].1 from by subst hL;rw [av4]);have HF:=avE (fun x=>congrFun hf x);rw [hL,hf];clear hR hV hx hL hf;go_enter Tryz.func154,Tryz.ntmps154;go_wp2_with fail;go_loopw [8] (fun u wr=>∃ k:Nat,k<=al.length/\u=.int .i64 k/\(∀ j (hj:j<L.length),j<k->f L[j]=false)/\Below w.heap.size w wr) (fun u _=>al.length-(intOf u).toNat)
 case atStart => exact ⟨0,avK _,rfl,fun j _ h=>by omega,bR w⟩
 case round =>
  obtain ⟨k,hk,rfl,hno,hb⟩:=hrel;obtain ⟨wo,rfl⟩:∃ wo:World,wo=wr:=⟨_,rfl⟩;have Hb:=avE hb;have jL:=avE hno;clear hb hno;by_cases hlt:k<al.length
  ·obtain ⟨b,o,rfl,hlb,c0,c1,c2,c3,c4,c5⟩:=(HR.out.mono Hb.out).ar hlt;obtain ⟨Av,cv,hva,-⟩:=HV.out k hlt;have hkm:k<L.length:=by rw [iM.out];exact hlt
   have he:=avE (RI.out k hkm hlt);rw [hva] at c3;have HP:=avE (fun W (hW:Below w.heap.size w W)=>show Calls Tryz.prog 210 #[jZ al[k].1 (.slice Av al[k].1.via.length cv),.pointer (some ⟨g,0,none⟩)] W fun e w'=>e=.returned (.bool (f al[k].1))/\Below W.heap.size W w' from by rw [<- HF.out];exact aps a al[k].1 v Av cv g W (HX.out.keep hW));obtain ⟨z,hz⟩:∃ z,f al[k].1=z:=⟨_,rfl⟩;have HZ:=avE hz;rw [hz] at HP;unfold jZ at HP;clear hz hva;have k1:(k:Int)<al.length:=by omega
   have k2:0<=(k:Int):=by omega
   go_wp2_with fail;refine (HP.out _ Hb.out).mono ?_;rintro e w2 ⟨rfl,hb2⟩;have HB2:=avE (bT Hb.out hb2);clear hb2 c0 c1 c2 c3 c4 c5
   cases z
   case true =>
    go_wp2;go_ret;exact ⟨⟨_,rfl,.inr ⟨k,hkm,rfl,by rw [he.out];exact HZ.out,jL.out⟩⟩,HB2.out⟩
   case false =>
    go_wp2;go_roundw
    case rel => exact ⟨k+1,by omega,by go_num,fun j hj hjk=>if e:j<k then jL.out j hj e else by
     have:j=k:=by omega
     subst this;rw [he.out];exact HZ.out,HB2.out⟩
    case measure => simp [intOf];omega
  ·obtain rfl:k=al.length:=by omega
   go_wp2;go_ret;exact ⟨⟨_,rfl,.inl ⟨rfl,fun j hj=>jL.out j hj (by rw [iM.out] at hj;exact hj)⟩⟩,Hb.out⟩
theorem apu (b:Ar) (arc:Int) (va:Value) (g:Nat) (w:World) (h:ah w g 3 #[.int .i64 arc]) :
  Calls Tryz.prog 155 #[jZ b va,.pointer (some ⟨g,0,none⟩)] w fun e w'=>e=.returned (.bool (b.id == arc))/\Below w.heap.size w w':=by
 have hA:=h.alloc (.cells #[.int .i64 b.id,.int .i64 b.fr,.int .i64 b.dst,va,.int .i64 b.left,.int .i64 b.right] 50);have hB:=ah.made (w:=w) rfl 50 #[.int .i64 b.id,.int .i64 b.fr,.int .i64 b.dst,va,.int .i64 b.left,.int .i64 b.right];unfold jZ;go_enter Tryz.func155,Tryz.ntmps155;go_upto_region 1 with fail;obtain ⟨W1,hW⟩:∃ W:World,W=w.alloc (.cells #[.int .i64 b.id,.int .i64 b.fr,.int .i64 b.dst,va,.int .i64 b.left,.int .i64 b.right] 50):=⟨_,rfl⟩;rw [<- hW] at hA hB ⊢;have HB1:=avE (show Below w.heap.size w W1 by rw [hW];exact bA (bR w) _);clear hW h;obtain ⟨hAl,hAa,-⟩:=hA.iV;obtain ⟨hBl,hBa,hBb,hBc,hBd,hBe,hBf,-,-,-,-,-,-⟩:=hB.gX;go_wp2;go_ret;exact ⟨rfl,HB1.out⟩
theorem apv (va:Value) (al:List (Ar×Value)) (arc:Int) (g:Nat) (w:World) (h:Ia w va al) (hx:ah w g 3 #[.int .i64 arc]) (hlen:al.length<=1000000) :
  Calls Tryz.prog 154 #[va,.func (.func 155) #[] #[.pointer (some ⟨g,0,none⟩)]] w fun e w'=>(∃ r,e=.returned (.int .i64 r)/\Wn (fun x:Ar=>x.id == arc) (al.map (·.1)) r)/\Below w.heap.size w w':=by
 obtain ⟨⟨A,c,rfl,hn,hc,hR⟩,hV⟩:=h;have HR:=avE hR;have HV:=avE hV;have HX:=avE hx;obtain ⟨L,hL⟩:∃ L:List Ar,al.map (·.1)=L:=⟨_,rfl⟩;obtain ⟨f,hf⟩:∃ f:Ar->Bool,(fun x:Ar=>x.id == arc)=f:=⟨_,rfl⟩;have iM:=avE (show L.length=al.length by rw [<- hL,avM]);have RI:=avE (fun k (hk:k<L.length) (hk':k<al.length)=>show L[k]=al[k].1 from by subst hL;rw [av4]);have HF:=avE (fun x=>congrFun hf x);rw [hL,hf];clear hR hV hx hL hf;go_enter Tryz.func154,Tryz.ntmps154;go_wp2_with fail;go_loopw [8] (fun u wr=>∃ k:Nat,k<=al.length/\u=.int .i64 k/\(∀ j (hj:j<L.length),j<k->f L[j]=false)/\Below w.heap.size w wr) (fun u _=>al.length-(intOf u).toNat)
 case atStart => exact ⟨0,avK _,rfl,fun j _ h=>by omega,bR w⟩
 case round =>
  obtain ⟨k,hk,rfl,hno,hb⟩:=hrel;obtain ⟨wo,rfl⟩:∃ wo:World,wo=wr:=⟨_,rfl⟩;have Hb:=avE hb;have jL:=avE hno;clear hb hno;by_cases hlt:k<al.length
  ·obtain ⟨b,o,rfl,hlb,c0,c1,c2,c3,c4,c5⟩:=(HR.out.mono Hb.out).ar hlt;obtain ⟨Av,cv,hva,-⟩:=HV.out k hlt;have hkm:k<L.length:=by rw [iM.out];exact hlt
   have he:=avE (RI.out k hkm hlt);rw [hva] at c3;have HP:=avE (fun W (hW:Below w.heap.size w W)=>show Calls Tryz.prog 155 #[jZ al[k].1 (.slice Av al[k].1.via.length cv),.pointer (some ⟨g,0,none⟩)] W fun e w'=>e=.returned (.bool (f al[k].1))/\Below W.heap.size W w' from by rw [<- HF.out];exact apu al[k].1 arc (.slice Av al[k].1.via.length cv) g W (HX.out.keep hW));obtain ⟨z,hz⟩:∃ z,f al[k].1=z:=⟨_,rfl⟩;have HZ:=avE hz;rw [hz] at HP;unfold jZ at HP;clear hz hva;have k1:(k:Int)<al.length:=by omega
   have k2:0<=(k:Int):=by omega
   go_wp2_with fail;refine (HP.out _ Hb.out).mono ?_;rintro e w2 ⟨rfl,hb2⟩;have HB2:=avE (bT Hb.out hb2);clear hb2 c0 c1 c2 c3 c4 c5
   cases z
   case true =>
    go_wp2;go_ret;exact ⟨⟨_,rfl,.inr ⟨k,hkm,rfl,by rw [he.out];exact HZ.out,jL.out⟩⟩,HB2.out⟩
   case false =>
    go_wp2;go_roundw
    case rel => exact ⟨k+1,by omega,by go_num,fun j hj hjk=>if e:j<k then jL.out j hj e else by
     have:j=k:=by omega
     subst this;rw [he.out];exact HZ.out,HB2.out⟩
    case measure => simp [intOf];omega
  ·obtain rfl:k=al.length:=by omega
   go_wp2;go_ret;exact ⟨⟨_,rfl,.inl ⟨rfl,fun j hj=>jL.out j hj (by rw [iM.out] at hj;exact hj)⟩⟩,Hb.out⟩
theorem apw (va:Value) (al:List (Ar×Value)) (a:Ar) (v:Value) (g:Nat) (w:World) (h:Ia w va al) (hx:ah w g 50 #[.int .i64 a.id,.int .i64 a.fr,.int .i64 a.dst,v,.int .i64 a.left,.int .i64 a.right]) (hlen:al.length<=1000000) :
  Calls Tryz.prog 209 #[va,.func (.func 210) #[] #[.pointer (some ⟨g,0,none⟩)]] w fun e w'=>e=.returned (.bool ((al.map (·.1)).any (BR a)))/\Below w.heap.size w w':=by
 have HI:=avE (apt va al a v g w h hx hlen);obtain ⟨⟨A,c,rfl,-⟩,-⟩:=h;clear hx;go_enter Tryz.func209,Tryz.ntmps209;go_wp2_with fail;refine HI.out.mono ?_;rintro e w1 ⟨⟨r,rfl,hr⟩,hb1⟩;have HB1:=avE hb1;have fH:=avE hr.any;clear hb1 hr;go_wp2;go_ret;exact ⟨aY (by rw [<- fH.out]),HB1.out⟩
theorem apx (v vv:Value) (p:Pl) (a:Ar) (w:World) (h:bQ w v p) (hlen:p.aj.length<=1000000) :
  Calls Tryz.prog 147 #[v,jZ a vv] w fun e w'=>e=.returned (.bool (Gt p a))/\Below w.heap.size w w':=by
 obtain ⟨vn,va,vf,al,rfl,hpa,hN,hA,hF⟩:=h;rw [ahl,hpa];rw [hpa,avM] at hlen;obtain ⟨z,hz⟩:∃ z,(al.map (·.1)).any (BR a)=z:=⟨_,rfl⟩;have HC:=avE (fun g W (hW:Below w.heap.size w W) hx=>apw va al a vv g W (hA.mono hW) hx hlen);rw [hz] at HC ⊢;clear hz;obtain ⟨⟨Aa,ca,rfl,-⟩,-⟩:=hA;obtain ⟨An,cn,rfl,-⟩:=hN;obtain ⟨Af,cf,rfl,-⟩:=hF;unfold jZ;generalize hnn:p.nodes.length=nn at *;generalize hnf:p.faces.length=nf at *;generalize hal:al.length=na at *;clear hpa;go_enter Tryz.func147,Tryz.ntmps147;go_upto_region 1 with fail;obtain ⟨W1,hW⟩:∃ W:World,W=(w.alloc (.cells #[.slice An nn cn,.slice Aa na ca,.slice Af nf cf] 26)).alloc (.cells #[.int .i64 a.id,.int .i64 a.fr,.int .i64 a.dst,vv,.int .i64 a.left,.int .i64 a.right] 50):=⟨_,rfl⟩;have X2:ah W1 w.heap.size 26 #[.slice An nn cn,.slice Aa na ca,.slice Af nf cf]:=by rw [hW];exact (ah.made rfl _ _).alloc _
 have dW:=avE (show ah W1 (w.heap.size+1) 50 #[.int .i64 a.id,.int .i64 a.fr,.int .i64 a.dst,vv,.int .i64 a.left,.int .i64 a.right] by rw [hW];exact ah.made ars _ _);have HB1:=avE (show Below w.heap.size w W1 by rw [hW];exact bA (bA (bR w) _) _);rw [<- hW];clear hW hnn hnf hal;obtain ⟨aG,aI,aJ,aO,-,-,-⟩:=X2.aF;go_wp2_with fail;refine (HC.out _ _ HB1.out dW.out).mono ?_;rintro e w2 ⟨rfl,hb2⟩;have HB2:=avE (bT HB1.out hb2);clear hb2;go_wp2;go_ret;exact ⟨rfl,HB2.out⟩
inductive jJ where
 | done
 | take (i m:Nat) (r:jJ)
 | call (i m:Nat) (r:jJ)
 | two (i m:Nat) (r:jJ) (j m':Nat) (s:jJ)
 | three (i m:Nat) (r:jJ) (j m':Nat) (s:jJ) (k m'':Nat) (u:jJ)
 | four (i m:Nat) (r:jJ) (j m':Nat) (s:jJ) (k m'':Nat) (u:jJ) (n m3:Nat) (v:jJ)
def jJ.run:Nat->Nat->Nat->jJ->jJ
 | 0,_,_,r=>r
 | n+1,i,m,r=>.take i (m ||| (1 <<< i)) (jJ.run n (i+1) (m ||| (1 <<< i)) r)
def jJ.depth:jJ->Nat
 | .done=>0
 | .take _ _ r=>r.depth+1
 | .call _ _ r=>r.depth+1
 | .two _ _ r _ _ s=>Nat.max r.depth s.depth+1
 | .three _ _ r _ _ s _ _ u=>Nat.max r.depth (Nat.max s.depth u.depth)+1
 | .four _ _ r _ _ s _ _ u _ _ v=>Nat.max r.depth (Nat.max s.depth (Nat.max u.depth v.depth))+1
def um (ops:Array Oper):jJ->Array Bool->Prop
 | .done,l=>Region.ready .any ops l=[]
 | .take i _ r,l=>Region.free .any ops l i=true/\(Region.ready .any ops l).contains i=true/\um ops r (l.setIfInBounds i true)
 | .call i _ r,l=>Region.ready .any ops l=[i]/\um ops r (l.setIfInBounds i true)
 | .two i _ r j _ s,l=>Region.ready .any ops l=[i,j]/\um ops r (l.setIfInBounds i true)/\um ops s (l.setIfInBounds j true)
 | .three i _ r j _ s k _ u,l=>Region.ready .any ops l=[i,j,k]/\um ops r (l.setIfInBounds i true)/\um ops s (l.setIfInBounds j true)/\um ops u (l.setIfInBounds k true)
 | .four i _ r j _ s k _ u n _ v,l=>Region.ready .any ops l=[i,j,k,n]/\um ops r (l.setIfInBounds i true)/\um ops s (l.setIfInBounds j true)/\um ops u (l.setIfInBounds k true)/\um ops v (l.setIfInBounds n true)
def qN (ops:Array Oper):jJ->Nat->Bool
 | .done,m=>(Cm ops m).isEmpty
 | .take i m' r,m=>Nat.beq m' (m ||| (1 <<< i)) && (Un ops m i && (MX ops m i && qN ops r m'))
 | .call i m' r,m=>Nat.beq m' (m ||| (1 <<< i)) && (decide (Cm ops m=[i]) && qN ops r m')
 | .two i m' r j m'' s,m=>Nat.beq m' (m ||| (1 <<< i)) && (Nat.beq m'' (m ||| (1 <<< j)) && (decide (Cm ops m=[i,j]) && (qN ops r m' && qN ops s m'')))
 | .three i m' r j m'' s k m3 u,m=>Nat.beq m' (m ||| (1 <<< i)) && (Nat.beq m'' (m ||| (1 <<< j)) && (Nat.beq m3 (m ||| (1 <<< k)) && (decide (Cm ops m=[i,j,k]) && (qN ops r m' && (qN ops s m'' && qN ops u m3)))))
 | .four i m' r j m'' s k m3 u n m4 v,m=>Nat.beq m' (m ||| (1 <<< i)) && (Nat.beq m'' (m ||| (1 <<< j)) && (Nat.beq m3 (m ||| (1 <<< k)) && (Nat.beq m4 (m ||| (1 <<< n)) && (decide (Cm ops m=[i,j,k,n]) && (qN ops r m' && (qN ops s m'' && (qN ops u m3 && qN ops v m4)))))))
theorem BU (ops:Array Oper):∀ (p:jJ) (m:Nat),m<2 ^ ops.size->qN ops p m=true->um ops p (sH ops.size m)
 | .done,m,hm,h=>by
  simp only [qN,List.isEmpty_iff] at h
  show Region.ready .any ops _=[]
  rw [DY _ _ hm,h]
 | .take i m' r,m,hm,h=>by
  simp only [qN,avR,Nat.beq_eq] at h;obtain ⟨h1,h2,h3,h4⟩:=h;have hi:=ac8 h3;refine ⟨by rw [ac7];exact h2,?_,?_⟩
  ·rw [DY _ _ hm,List.contains_iff_mem];exact av7.2 ⟨List.mem_range.2 hi,h3⟩
  ·rw [vG _ _ _ hi,<- h1];exact BU ops r m' (by rw [h1];exact vH hm hi) h4
 | .call i m' r,m,hm,h=>by
  simp only [qN,avR,Nat.beq_eq,avQ] at h;obtain ⟨h1,h2,h3⟩:=h;have hi:i<ops.size:=yV (m:=m) (by rw [h2];simp);refine ⟨by rw [DY _ _ hm,h2],?_⟩;rw [vG _ _ _ hi,<- h1];exact BU ops r m' (by rw [h1];exact vH hm hi) h3
 | .two i m' r j m'' s,m,hm,h=>by
  simp only [qN,avR,Nat.beq_eq,avQ] at h;obtain ⟨h1,h2,h3,h4,h5⟩:=h;have hi:i<ops.size:=yV (m:=m) avz;have hj:j<ops.size:=yV (m:=m) avz;refine ⟨by rw [DY _ _ hm,h3],?_,?_⟩
  ·rw [vG _ _ _ hi,<- h1];exact BU ops r m' (by rw [h1];exact vH hm hi) h4
  ·rw [vG _ _ _ hj,<- h2];exact BU ops s m'' (by rw [h2];exact vH hm hj) h5
 | .three i m' r j m'' s k m3 u,m,hm,h=>by
  simp only [qN,avR,Nat.beq_eq,avQ] at h;obtain ⟨h1,h2,h6,h3,h4,h5,h7⟩:=h;have hi:i<ops.size:=yV (m:=m) avz;have hj:j<ops.size:=yV (m:=m) avz;have hk:k<ops.size:=yV (m:=m) avz;refine ⟨by rw [DY _ _ hm,h3],?_,?_,?_⟩
  ·rw [vG _ _ _ hi,<- h1];exact BU ops r m' (by rw [h1];exact vH hm hi) h4
  ·rw [vG _ _ _ hj,<- h2];exact BU ops s m'' (by rw [h2];exact vH hm hj) h5
  ·rw [vG _ _ _ hk,<- h6];exact BU ops u m3 (by rw [h6];exact vH hm hk) h7
 | .four i m' r j m'' s k m3 u n m4 v,m,hm,h=>by
  simp only [qN,avR,Nat.beq_eq,avQ] at h;obtain ⟨h1,h2,h6,h8,h3,h4,h5,h7,h9⟩:=h;have hi:i<ops.size:=yV (m:=m) avz;have hj:j<ops.size:=yV (m:=m) avz;have hk:k<ops.size:=yV (m:=m) avz;have hn:n<ops.size:=yV (m:=m) avz;refine ⟨by rw [DY _ _ hm,h3],?_,?_,?_,?_⟩
  ·rw [vG _ _ _ hi,<- h1];exact BU ops r m' (by rw [h1];exact vH hm hi) h4
  ·rw [vG _ _ _ hj,<- h2];exact BU ops s m'' (by rw [h2];exact vH hm hj) h5
  ·rw [vG _ _ _ hk,<- h6];exact BU ops u m3 (by rw [h6];exact vH hm hk) h7
  ·rw [vG _ _ _ hn,<- h8];exact BU ops v m4 (by rw [h8];exact vH hm hn) h9
section
variable {P:Program} {ops:Array Oper} {Q:Exit->Act->World->Prop} {S:World->Prop}
def uo (P:Program) (ops:Array Oper) (Q:Exit->Act->World->Prop) (S:World->Prop) (p:jJ) (a:Act) (w:World):Prop :=
 ∀ (l:Array Bool) (f:Nat),Region.noSelect ops=true->um ops p l->p.depth<=f->wpAnyH P .any ops Q S f l a w
theorem apy {id:Nat} {a:Act} {w:World} (S:World->Prop) (p:jJ) (hm:P.follows .mixedOrders=true) (hS:S w.drew)
  (hsel:Region.noSelect ops=true) (hp:qN ops p 0=true) (hd:p.depth<=ops.size)
  (h:∀ ops' Q',PLift (ops'=ops)->PLift (∀ a w,Q .normal a w->Q' .normal a w)->S w.drew->uo P ops' (NoPanic Q') S p a w.drew):(Code.region id ops true).wp P Q a w :=
 wp_region_noPanic (wp_region_held_drew hm hS fun hS=>h ops Q ⟨rfl⟩ ⟨fun _ _ h=>h⟩ hS _ _ hsel (by have:=BU ops p 0 (Nat.pow_pos Pe) hp;rwa [ac5] at this) hd)
theorem apz {i m:Nat} {oi:Oper} {r:jJ} {a:Act} {w:World} (hi:ops[i]? = some oi) (hS:S w)
  (h:∃ v:Value,YieldsIf P ops S oi v a/\uo P ops (NoPanic Q) S r (a.put oi.dst v) w):uo P ops (NoPanic Q) S (.take i m r) a w:=by
 obtain ⟨v,hy,h⟩:=h;intro l f hsel hp hd;simp only [um] at hp
 cases f with
 | zero=>simp [jJ.depth] at hd
 | succ f=>exact wpAnyH_take hi hsel hp.1 hp.2.1 (fun _ _ _ h=>h) hy hS (h _ _ hsel hp.2.2 (by simpa [jJ.depth] using hd))
theorem nT {i m:Nat} {oi:Oper} {r:jJ} {a:Act} {w:World} (hi:ops[i]? = some oi)
  (h:∀ K':Act->World->Prop,Shut (∀ a w,S w->(S w->uo P ops (NoPanic Q) S r a w)->K' a w)->if Region.wanted oi (yielded ops a.tmps)=true then Oper.wp P oi a w K' (NoPanic Q) else K' (a.put oi.dst undef) w) :
  uo P ops (NoPanic Q) S (.call i m r) a w:=by
 intro l f hsel hp hd;simp only [um] at hp
 cases f with
 | zero=>simp [jJ.depth] at hd
 | succ f=>exact wpAnyH_ready hp.1 ars (AllReadyH.cons hi (fun K' hK=>h K' (fun a w hS hW=>hK.out a w hS fun hS=>hW hS _ _ hsel hp.2 (by simpa [jJ.depth] using hd))) AllReadyH.nil)
theorem abx {i j m m':Nat} {oi oj:Oper} {r s:jJ} {a:Act} {w:World} (hi:ops[i]? = some oi) (hj:ops[j]? = some oj)
  (h:∀ K':Act->World->Prop,Shut (∀ a w,S w->(S w->uo P ops (NoPanic Q) S r a w)->K' a w)->if Region.wanted oi (yielded ops a.tmps)=true then Oper.wp P oi a w K' (NoPanic Q) else K' (a.put oi.dst undef) w)
  (h':∀ K':Act->World->Prop,Shut (∀ a w,S w->(S w->uo P ops (NoPanic Q) S s a w)->K' a w)->if Region.wanted oj (yielded ops a.tmps)=true then Oper.wp P oj a w K' (NoPanic Q) else K' (a.put oj.dst undef) w) :
  uo P ops (NoPanic Q) S (.two i m r j m' s) a w:=by
 intro l f hsel hp hd;simp only [um] at hp
 cases f with
 | zero=>simp [jJ.depth] at hd
 | succ f =>
  simp only [jJ.depth,Nat.add_le_add_iff_right,Nat.max_le] at hd;exact wpAnyH_ready hp.1 ars (AllReadyH.cons hi (fun K' hK=>h K' (fun a w hS hW=>hK.out a w hS fun hS=>hW hS _ _ hsel hp.2.1 hd.1))
   (AllReadyH.cons hj (fun K' hK=>h' K' (fun a w hS hW=>hK.out a w hS fun hS=>hW hS _ _ hsel hp.2.2 hd.2)) AllReadyH.nil))
theorem apA {i j k m m' m'':Nat} {oi oj ok:Oper} {r s u:jJ} {a:Act} {w:World} (hi:ops[i]? = some oi) (hj:ops[j]? = some oj) (hk:ops[k]? = some ok)
  (h:∀ K':Act->World->Prop,Shut (∀ a w,S w->(S w->uo P ops (NoPanic Q) S r a w)->K' a w)->if Region.wanted oi (yielded ops a.tmps)=true then Oper.wp P oi a w K' (NoPanic Q) else K' (a.put oi.dst undef) w)
  (h':∀ K':Act->World->Prop,Shut (∀ a w,S w->(S w->uo P ops (NoPanic Q) S s a w)->K' a w)->if Region.wanted oj (yielded ops a.tmps)=true then Oper.wp P oj a w K' (NoPanic Q) else K' (a.put oj.dst undef) w)
  (h'':∀ K':Act->World->Prop,Shut (∀ a w,S w->(S w->uo P ops (NoPanic Q) S u a w)->K' a w)->if Region.wanted ok (yielded ops a.tmps)=true then Oper.wp P ok a w K' (NoPanic Q) else K' (a.put ok.dst undef) w) :
  uo P ops (NoPanic Q) S (.three i m r j m' s k m'' u) a w:=by
 intro l f hsel hp hd;simp only [um] at hp
 cases f with
 | zero=>simp [jJ.depth] at hd
 | succ f =>
  simp only [jJ.depth,Nat.add_le_add_iff_right,Nat.max_le] at hd;exact wpAnyH_ready hp.1 ars (AllReadyH.cons hi (fun K' hK=>h K' (fun a w hS hW=>hK.out a w hS fun hS=>hW hS _ _ hsel hp.2.1 hd.1))
   (AllReadyH.cons hj (fun K' hK=>h' K' (fun a w hS hW=>hK.out a w hS fun hS=>hW hS _ _ hsel hp.2.2.1 hd.2.1))
   (AllReadyH.cons hk (fun K' hK=>h'' K' (fun a w hS hW=>hK.out a w hS fun hS=>hW hS _ _ hsel hp.2.2.2 hd.2.2)) AllReadyH.nil)))
theorem OA {a:Act} {w:World} (h:Q .normal a w):uo P ops (NoPanic Q) S .done a w:=by
 intro l f _ hp _;exact wpAnyH_done hp (NoPanic.normal h) f
theorem apB {l:List Oper} {i m:Nat} {oi:Oper} {r:jJ} {a:Act} {w:World} {v:Value} (H:PLift (ops=l.toArray)) (hi:l[i]? = some oi) (hS:S w) (hg:oi.guard=none)
  (hy:∀ wq,S wq->(execOp a.eval oi).run P wq=.ok (.value v) wq) (h:uo P ops (NoPanic Q) S r (a.put oi.dst v) w):uo P ops (NoPanic Q) S (.take i m r) a w :=
 apz (eP H hi) hS ⟨v,.inl ⟨fJ hg,hy⟩,h⟩
end
section
variable {P:Program} {ops:Array Oper} {Q:Exit->Act->World->Prop}
theorem apC {l:List Oper} {i m:Nat} {oi:Oper} {r:jJ} {a:Act} {w W:World} {B:Nat} {v:Value} (H:PLift (ops=l.toArray)) (hi:l[i]? = some oi) (hS:fM B W w) (hg:oi.guard=none)
  (hy:∀ wq:World,(∀ b o,b<B->wq.cell? ⟨b,o,none⟩=W.cell? ⟨b,o,none⟩)->(execOp a.eval oi).run P wq=.ok (.value v) wq) (h:uo P ops (NoPanic Q) (fM B W) r (a.put oi.dst v) w):uo P ops (NoPanic Q) (fM B W) (.take i m r) a w :=
 apB H hi hS hg (fun wq hq=>hy wq (Px hq).1) h
end
end Go.Proofs.YtialfdomhoojiaaGreat
