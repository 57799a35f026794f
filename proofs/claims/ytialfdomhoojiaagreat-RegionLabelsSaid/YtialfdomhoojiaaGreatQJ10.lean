import Derived.Test.YtialfdomhoojiaaGreatQJ09
set_option linter.unusedSimpArgs false
set_option linter.unusedVariables false
set_option maxRecDepth 100000
set_option maxHeartbeats 4000000
namespace Go.Proofs.YtialfdomhoojiaaGreat
open Go.RowKit
theorem aqE {n:Nat} (h:n<=8796093022208):n<=maxLen:=by
 have:maxLen=9223372036854775807:=rfl
 omega
def jX (p:Pl):Prop:=∀ a∈p.AP,a.via.length<=8796093022208
theorem aqF {P:Program} (w:World) {ops:Array Oper} {rest:List Oper} {o:Oper} {a:Act} {Q:Exit->Act->World->Prop} (hgd:o.guard=none) (s x:Operand) (t:TypeId)
  (ho:o.op=.call {callee:=.builtin .append,args:=#[s,x],argTypes:=#[t,t]})
  {α:Type} {f:α->List Value} {base:Nat} {e:TypeId} {size bytes:Nat} (hE:Elem P t e size bytes) (hf:∀ a,(f a).length=size) (hone:∀ a,∀ u∈f a,u.oneCell'=true)
  {v:Value} {l:List α} (hs:a.eval s=v) (hown:Own w base e size f v l)
  {src:Value} {l2:List α} (hx:a.eval x=src) (hr:Sl w src l2.length (l2.flatMap f))
  (hbytes:(l.length+l2.length)*bytes<=140737488355328) (h32:l.length+l2.length<=8796093022208) (hbase:base<=w.heap.size)
  (h:∀ v' w',Own w' base e size f v' (l++l2)->w.grownBy w' v.ownBlock->(v'.ownBlock=v.ownBlock\/v'.ownBlock=some w.heap.size)->wpList P ops Q rest (a.put o.dst v') w'):wpList P ops Q (o::rest) a w:=by
 obtain ⟨ht,i,z,hi,hz,hsize,hby,hzs,hsz⟩:=hE;refine agP w hgd s x t ho base e i z size bytes ht hi hz hsize hby hzs hsz v l.length (l.flatMap f) hs hown src l2.length (l2.flatMap f) hx hr (flat_length f size hf l2)
  (fun u hu=>?_) (aqE h32) hbytes hbase (fun v' w' h1 h2 h3=>h v' w' ?_ h2 h3)
 ·obtain ⟨a,_,hu⟩:=Gf.1 hu;exact hone a u hu
 ·unfold Own;rw [ER,LC];exact h1
theorem aqG (v:Value) (l:List Pt) (w:World) (h:Dv w v l) (hl:l.length<=8796093022208) :
  Calls Tryz.prog 114 #[v] w (bU w l):=by
 have H:=h;obtain ⟨A,c,rfl,hn,hc,hR⟩:=h;have hE:=Lib.run_eql_slice_nil (P:=Tryz.prog) (t:=46) (e:=39);rcases A with _ | ad
 ·have hl0:l=[]:=by
   rcases l with _ | ⟨a,l⟩
   · rfl
   ·obtain ⟨b,o,e,_⟩:=hR (by simp [Ee])
    cases e
  subst hl0;clear hR H;simp only [LX] at hn ⊢;have hE1:∀ W:World,(binOp .eql 46 (.slice none 0 c) (.slice none 0 0)).run Tryz.prog W=.ok (.bool true) W:=fun W=>Lib.run_eql_slice_nil W _ 39 none _ c 0 0 Tryz.underlying46;clear hE;go_enter Tryz.func114,Tryz.ntmps114;go_wp2;go_ret;exact ⟨_,_,rfl,bR w,Own.nil _ _ _ _ _⟩
 ·have hE1:∀ W:World,(binOp .eql 46 (.slice (some ad) l.length c) (.slice none 0 0)).run Tryz.prog W=.ok (.bool false) W:=fun W=>Lib.run_eql_slice_nil W _ 39 (some ad) _ c 0 0 Tryz.underlying46;clear hE hR;have HH:=AA H;clear H;go_enter Tryz.func114,Tryz.ntmps114;go_wp2_with
   (at_builtin
    refine aqF _ rfl (.tmp 5) (.tmp 6) _ rfl (base:=w.heap.size) L6 KJ L8 rfl (Own.lit _ _ _ _ Ee [] _ 0 _ rfl rfl (Dc _) (DN AB) rfl rfl) rfl (HH.out.mono (bA (bR w) _)) VT VT Ak ?_;intro v1 w1 hown hg hat)
  go_ret;obtain ⟨A1,c1,rfl,-⟩:=Own.sl hown;simp only [Qj] at hown ⊢;exact ⟨A1,c1,rfl,bG (bA (bR w) _) hg (fun k hk=>by have:w.heap.size=k:=Dq hk;omega),hown⟩
theorem aqH (v:Value) (p:Pl) (id:Int) (w:World) (h:Ci w v p) (hsh:jX p) :
  Calls Tryz.prog 73 #[v,.int .i64 id] w (tN w (findAr p.AP id)):=by
 obtain ⟨vn,_,vf,al,rfl,hpa,-,⟨⟨An,cn,rfl,hn1,hn2,hR⟩,hV⟩,-⟩:=h;unfold maxLen at hn2;unfold jX at hsh;rw [hpa] at hsh ⊢;clear hpa;have hsh':∀ k (hk:k<al.length),al[k].1.via.length<=8796093022208:=fun k hk=>hsh _ (Gh (BO hk));have HV:=AA hV;clear hV hsh;have DW:=AA hsh';clear hsh';go_enter Tryz.func73,Tryz.ntmps73;go_wp2_with fail;go_loopw [11] (fun i wr=>∃ k:Nat,k<=al.length/\i=.int .i64 k/\AU w wr/\AO wr (w.heap.size+1) 50 #[.int .i64 0,.int .i64 0,.int .i64 0,.slice none 0 0,.int .i64 0,.int .i64 0]/\∀ j (hj:j<al.length),j<k->(al[j].1.id == id)=false) (fun i _=>al.length-(intOf i).toNat)
 case atStart => exact ⟨0,Bv _,rfl,bA (bA (bR w) _) _,AO.made Ak _ _,fun j _ h=>by omega⟩
 case round =>
  obtain ⟨k,hk,rfl,hb,X4,hno⟩:=hrel;have Hb:=AA hb;have Hno:=AA hno;clear hb hno;obtain ⟨BZ,Bl,CQ,EU,KX,La,Lc,EG,FW,JC,QI,S9,SA⟩:=X4.IW;by_cases hlt:k<al.length
  ·obtain ⟨b,o,rfl,hlb,c0,c1,c2,c3,c4,c5⟩:=(hR.mono Hb.out).ar hlt;have HR:=AA hR;clear hR;have hvk:=(HV.out k hlt);obtain ⟨Av,cv,hv,-⟩:=hvk;have hvk:=(HV.out k hlt);rw [hv] at c3 hvk;generalize hvl:al[k].1.via.length=vl at *;have tV:=AA hvl;have UH:=AA hvk;clear hvk hv hvl
   cases he:(al[k].1.id == id)
   ·go_wp2;go_roundw
    case rel => exact ⟨k+1,AB,BJ,bA Hb.out _,X4.alloc _,all_succ (p:=fun x=>(x.1.id == id)=false) Hno.out hlt he⟩
    case measure => exact BL
   ·have hf:=abx al id k hlt Hno.out he;have Hf:=AA hf;clear hf;go_wp2_with fail;refine (aqG _ _ _ (UH.out.mono (bA Hb.out _)) (DW.out k hlt)).mono ?_;rintro e w1 ⟨A1,NC,rfl,hb1,hown⟩;have Bw:AU w w1:=bT (bA Hb.out _) hb1;have X7:AO w1 wr.heap.size 50 #[.int .i64 al[k].1.id,.int .i64 al[k].1.fr,.int .i64 al[k].1.dst,.slice Av vl cv,.int .i64 al[k].1.left,.int .i64 al[k].1.right]:=(AO.made rfl _ _).keep hb1;have hw8:w.heap.size+1<wr.heap.size:=by omega
    have hw7:w.heap.size+1≠wr.heap.size:=by omega
    replace X4:=(X4.alloc _).keep hb1;have hown':=hown.ES (b':=wr.heap.size+1) Ak;have hP:=Own.sl hown;have FC:=AA hown';clear hb1 c0 c1 c2 c3 c4 c5 hlb hown hown' hP
    try clear BZ Bl CQ EU KX La Lc
    try clear EG FW JC QI S9 SA
    obtain ⟨BZ,Bl,CQ,EU,KX,La,Lc,EG,FW,JC,QI,S9,SA⟩:=X4.IW;obtain ⟨Eb,Ec,Fe,aAn,X7d,X7e,X7f,aF,bQ,ag8,ag9,agA,agB⟩:=X7.IW;go_wp2_with fail;have tX:=Hb.out.size;have Xe:(Value.slice A1 al[k].1.via.length NC).ownBlock≠some wr.heap.size:=fun e=>by have:=(FC.out.lt _ e).1;omega
    have NZ:(Value.slice A1 al[k].1.via.length NC).ownBlock≠some (w.heap.size+1):=fun e=>by have:=(FC.out.lt _ e).1;omega
    have HP:=Own.sl (((((((FC.out.far (p:=⟨wr.heap.size,3,none⟩) Xe (.slice A1 al[k].1.via.length NC)).far (p:=⟨w.heap.size+1,0,none⟩) NZ (.int .i64 al[k].1.id)).far (p:=⟨w.heap.size+1,1,none⟩) NZ (.int .i64 al[k].1.fr)).far (p:=⟨w.heap.size+1,2,none⟩) NZ (.int .i64 al[k].1.dst)).far (p:=⟨w.heap.size+1,3,none⟩) NZ (.slice A1 al[k].1.via.length NC)).far (p:=⟨w.heap.size+1,4,none⟩) NZ (.int .i64 al[k].1.left)).far (p:=⟨w.heap.size+1,5,none⟩) NZ (.int .i64 al[k].1.right));refine L9 (g:=w.heap.size+1) (cs:=#[.int .i64 al[k].1.id,.int .i64 al[k].1.fr,.int .i64 al[k].1.dst,.slice A1 al[k].1.via.length NC,.int .i64 al[k].1.left,.int .i64 al[k].1.right]) rfl UU rfl rfl (AO.UR (X4.far (p:=⟨wr.heap.size,3,none⟩) hw7 _)) ⟨.slice A1 al[k].1.via.length NC,Zy,?_,by rw [Hf.out];exact HP⟩;exact EC
  ·have hf:=aby al id (fun j hj=>Hno.out j hj AB);have Hf:=AA hf;clear hf;go_wp2;have Bw:=Hb.out;refine L9 (g:=w.heap.size+1) (cs:=#[.int .i64 0,.int .i64 0,.int .i64 0,.slice none 0 0,.int .i64 0,.int .i64 0]) rfl UU rfl rfl (AO.UR X4) ⟨.slice none 0 0,Zy,?_,by rw [Hf.out];exact Sl.nil _⟩;exact EC
def Xm (lt:Int->Int->Bool) (l:List Int) (c:Int):List Int:=l.takeWhile (fun x=>!lt c x)++c::l.dropWhile (fun x=>!lt c x)
def sortB (lt:Int->Int->Bool) (l:List Int):List Int:=l.foldl (Xm lt) []
theorem adN (lt:Int->Int->Bool) (l:List Int) (c:Int):(Xm lt l c).Perm (c::l):=by
 unfold Xm;refine List.perm_middle.trans ?_;rw [aap]
structure Yn (lt:Int->Int->Bool) (D:List Int):Prop where
 asym:∀ x∈D,∀ y∈D,lt x y=true->lt y x=false
 ntr:∀ x∈D,∀ y∈D,∀ z∈D,lt x y=false->lt y z=false->lt x z=false
 tri:∀ x∈D,∀ y∈D,lt x y=false->lt y x=false->x=y
theorem aqI {lt:Int->Int->Bool} {D:List Int} (ho:Yn lt D) {l:List Int} (h:l.Pairwise (fun a b=>lt b a=false)) (hl:∀ x∈l,x∈D) {c:Int} (hc:c∈D):(Xm lt l c).Pairwise (fun a b=>lt b a=false):=by
 induction l with
 | nil=>simp [Xm]
 | cons a l ih =>
  have h':=JL.1 h;have ha:=hl a Eu;unfold Xm
  cases hca:lt c a
  ·have e1:(a::l).takeWhile (fun x=>!lt c x)=a::l.takeWhile (fun x=>!lt c x):=by rw [List.takeWhile_cons];simp [hca]
   have e2:(a::l).dropWhile (fun x=>!lt c x)=l.dropWhile (fun x=>!lt c x):=by rw [sF];simp [hca]
   rw [e1,e2]
   show List.Pairwise _ (a::Xm lt l c)
   refine JL.2 ⟨fun x hx=>?_,ih h'.2 (fun x hx=>hl x (I7 _ hx))⟩;rcases EW.1 ((adN lt l c).subset hx) with rfl | hx
   · exact hca
   · exact h'.1 x hx
  ·have e1:(a::l).takeWhile (fun x=>!lt c x)=[]:=by rw [List.takeWhile_cons];simp [hca]
   have e2:(a::l).dropWhile (fun x=>!lt c x)=a::l:=by rw [sF];simp [hca]
   rw [e1,e2,Qj];refine JL.2 ⟨fun x hx=>?_,h⟩;have h1:=ho.asym c hc a ha hca;rcases EW.1 hx with rfl | hx'
   · exact h1
   · exact ho.ntr x (hl x hx) a ha c hc (h'.1 x hx') h1
theorem aiA {lt:Int->Int->Bool} {D:List Int} (ho:Yn lt D):∀ (l acc:List Int),acc.Pairwise (fun a b=>lt b a=false)->(∀ x∈l,x∈D)->(∀ x∈acc,x∈D)->(l.foldl (Xm lt) acc).Perm (acc++l)/\(l.foldl (Xm lt) acc).Pairwise (fun a b=>lt b a=false)
 | [],acc,h,_,_=>by simpa using h
 | c::l,acc,h,hl,ha=>by
  have hc:=hl c Eu;have:=aiA ho l (Xm lt acc c) (aqI ho h ha hc) (fun x hx=>hl x (I7 _ hx)) (fun x hx=>by
   rcases EW.1 ((adN lt acc c).subset hx) with rfl | hx
   · exact hc
   · exact ha x hx)
  refine ⟨this.1.trans ?_,this.2⟩;refine ((adN lt acc c).append_right l).trans ?_;rw [aau];exact List.perm_middle.symm
theorem jB {lt:Int->Int->Bool} {D:List Int} (ho:Yn lt D):(sortB lt D).Perm D/\(sortB lt D).Pairwise (fun a b=>lt b a=false):=by
 have:=aiA ho D [] List.Pairwise.nil (fun x hx=>hx) (fun x hx=>by cases hx)
 simpa [sortB] using this
theorem aqJ {lt:Int->Int->Bool} {D m:List Int} (ho:Yn lt D) (hp:m.Perm D) (hs:m.Pairwise (fun a b=>lt b a=false)):m=sortB lt D:=by
 obtain ⟨h1,h2⟩:=jB ho;exact ou (hp.trans h1.symm) hs h2 (fun a ha b hb=>ho.tri a (hp.subset ha) b (hp.subset hb))
def ltD (p:Pl) (o:Pt) (d e:Int):Bool:=SH o (Dy p d) (Dy p e)
def DL (p:Pl) (n:Int):List Int:=match J3 p.nodes n with
 | none=>[]
 | some x=>sortB (ltD p x.pt) (Dl p.AP n)
def precD (l:List Int) (d:Int):Int:=match l.findIdx? (fun x=>x == d) with
 | none=>0
 | some i=>l.getD ((i+l.length-1) % l.length) 0
def FH (p:Pl) (d:Int):Int:=if (Fg p d).isSome then precD (DL p (Kq p (-d))) (-d) else 0
def Ce (p:Pl):List (List Int):=aBZ (FH p) (Bh p) (Bh p)
section
variable {p:Pl} (h:Valid p)
include h
theorem Valid.wK {n:Nd} (hn:n∈p.nodes):Yn (ltD p n.pt) (Dl p.AP n.id):=by
 have key:∀ d∈Dl p.AP n.id,∀ e∈Dl p.AP n.id,(ltD p n.pt d e=true↔Ef n.pt (Dy p d) (Dy p e)):=fun d hd e he=>by
  obtain ⟨n0,n1,x1⟩:=h.jW hn hd;obtain ⟨-,n2,x2⟩:=h.jW hn he;unfold ltD;rw [abg];exact ⟨fun h=>h.2.2.2,fun h=>⟨by simp [EN,n0,n1,n2],x1,x2,h⟩⟩
 have pG:∀ d∈Dl p.AP n.id,∀ e∈Dl p.AP n.id,(ltD p n.pt d e=false↔¬ Ef n.pt (Dy p d) (Dy p e)):=fun d hd e he=>by
  rw [<- key d hd e he,JK]
 have nz:∀ d∈Dl p.AP n.id,¬ ((Dy p d).x-n.pt.x=0/\(Dy p d).y-n.pt.y=0):=fun d hd=>vI.1 (h.jW hn hd).2.2;refine ⟨fun x hx y hy h1=>?_,fun x hx y hy z hz h1 h2=>?_,fun x hx y hy h1 h2=>?_⟩
 ·rw [pG y hy x hx];rw [key x hx y hy] at h1;exact fun h2=>anl _ _ (ano (nz x hx) (nz y hy) (nz x hx) h1 h2)
 ·rw [pG x hx y hy] at h1;rw [pG y hy z hz] at h2;rw [pG x hx z hz];exact anp (nz x hx) (nz y hy) (nz z hz) h1 h2
 ·rw [pG x hx y hy] at h1;rw [pG y hy x hx] at h2;rcases Decidable.em (x=y) with e | e
  · exact e
  ·rcases h.dirs hn hx hy e with h3 | h3
   · exact absurd h3 h1
   · exact absurd h3 h2
theorem Valid.aqK {n:Nd} (hn:n∈p.nodes):J3 p.nodes n.id=some n:=aBT (fun x:Nd=>x.id) p.nodes h.sound.nodes n hn
theorem Valid.aAy {n:Nd} (hn:n∈p.nodes):DL p n.id=sortB (ltD p n.pt) (Dl p.AP n.id):=by
 unfold DL;rw [h.aqK hn]
theorem Valid.NI {n:Nd} (hn:n∈p.nodes):(DL p n.id).Perm (Dl p.AP n.id):=by
 rw [h.aAy hn];exact (jB (h.wK hn)).1
theorem Valid.adO {n:Int}:(Dl p.AP n).Nodup:=by
 have hs:=h.sound.AP;rw [I5] at hs;have hpos:∀ a∈p.AP,1<=a.id:=fun a ha=>(h.Gx ha).1;unfold Dl List.Nodup;rw [sO];refine ⟨fun a ha=>?_,?_⟩
 ·have:=hpos a ha
  split<;>split<;>simp<;>omega
 ·have hs2:p.AP.Pairwise (fun a b=>1<=a.id/\1<=b.id/\a.id<b.id):=by
   rw [Fa] at hs ⊢;exact fun i j hi hj hij=>⟨hpos _ (BO hi),hpos _ (BO hj),hs i j hi hj hij⟩
  refine hs2.imp ?_;rintro a b ⟨h1,h2,h3⟩ x hx y hy;have hx':x=a.id\/x=-a.id:=by
   rcases FX.1 hx with hx | hx
   ·split at hx
    · exact .inl (EP.1 hx)
    · cases hx
   ·split at hx
    · exact .inr (EP.1 hx)
    · cases hx
  have hy':y=b.id\/y=-b.id:=by
   rcases FX.1 hy with hy | hy
   ·split at hy
    · exact .inl (EP.1 hy)
    · cases hy
   ·split at hy
    · exact .inr (EP.1 hy)
    · cases hy
  omega
theorem Valid.aAz:(Bh p).Pairwise (· < ·):=by
 have hs:=h.sound.AP;have hpos:∀ a∈p.AP,1<=a.id:=fun a ha=>(h.Gx ha).1;unfold Bh;rw [Qn];refine ⟨?_,hs,fun x hx y hy=>?_⟩
 ·rw [List.pairwise_reverse,I5];rw [I5] at hs;exact hs.imp (fun h=>by omega)
 ·rw [aAI,ED] at hx;obtain ⟨a,ha,rfl⟩:=hx;obtain ⟨b,hb,rfl⟩:=ED.1 hy;have:=hpos a ha;have:=hpos b hb
  omega
end
theorem aqL {l:List Int} (hl:l.Nodup) {i:Nat} (hi:i<l.length):l.findIdx? (fun x=>x == l[i])=some i:=by
 rw [List.findIdx?_eq_some_iff_getElem];refine ⟨hi,Ak,fun j hj=>?_⟩;rw [List.Nodup,Fa] at hl;have:=hl j i AB hi hj
 simpa using this
theorem jC {l:List Int} (hl:l.Nodup) {i:Nat} (hi:i<l.length):precD l l[i]=l[(i+l.length-1) % l.length]'(UC _ AB):=by
 unfold precD;rw [aqL hl hi];simp only [];rw [Fj,Dh (UC _ AB)];rfl
theorem aqM {l:List Int} (hl:l.Nodup) {d:Int} (hd:d∈l):precD l d∈l:=by
 obtain ⟨i,hi,rfl⟩:=EF.1 hd;rw [jC hl hi];exact BO _
theorem aqN {i j n:Nat} (hi:i<n) (hj:j<n) (h:(i+n-1) % n=(j+n-1) % n):i=j:=by
 have key:∀ k,k<n->(k+n-1) % n=if k=0 then n-1 else k-1:=fun k hk=>by
  split
  · subst k;rw [XP AB];omega
  · rw [show k+n-1=(k-1)+n by omega,aAJ,XP AB]
 rw [key i hi,key j hj] at h;split at h<;>split at h<;>omega
theorem apW {l:List Int} (hl:l.Nodup) {d e:Int} (hd:d∈l) (he:e∈l) (h:precD l d=precD l e):d=e:=by
 obtain ⟨i,hi,rfl⟩:=EF.1 hd;obtain ⟨j,hj,rfl⟩:=EF.1 he;rw [jC hl hi,jC hl hj] at h;have hl':=hl;rw [List.Nodup,Fa] at hl';have e:(i+l.length-1) % l.length=(j+l.length-1) % l.length:=by
  rcases PN ((i+l.length-1) % l.length) ((j+l.length-1) % l.length) with h1 | h1 | h1
  · exact absurd h (hl' _ _ _ _ h1)
  · exact h1
  · exact absurd h.symm (hl' _ _ _ _ h1)
 have:=aqN hi hj e
 subst this;rfl
theorem Wu {p:Pl} {d:Int} (hd:d∈Bh p):-d∈Bh p:=by
 obtain ⟨a,ha,e⟩:=Iq.1 hd;refine Iq.2 ⟨a,ha,?_⟩;rcases e with rfl | rfl
 · exact .inr rfl
 · exact .inl (Oj _)
section
variable {p:Pl} (h:Valid p)
include h
theorem Valid.aiB {d:Int} (hd:d∈Bh p):(Fg p d).isSome=true:=by
 obtain ⟨a,ha,e⟩:=Iq.1 hd;rcases e with rfl | rfl
 · rw [h.iK ha];rfl
 · rw [h.pF ha];rfl
theorem Valid.adP {d:Int} (hd:d∈Bh p):∃ n∈p.nodes,n.id=Kq p d/\d∈Dl p.AP n.id:=by
 obtain ⟨a,ha,e⟩:=Iq.1 hd;rcases e with rfl | rfl
 ·obtain ⟨n,hn,e,-⟩:=h.sound.Xk ha;exact ⟨n,hn,by rw [h.aBb ha,e],Rl.2 ⟨a,ha,.inl ⟨rfl,e.symm⟩⟩⟩
 ·obtain ⟨n,hn,e,-⟩:=h.sound.Yj ha;exact ⟨n,hn,by rw [h.wJ ha,e],Rl.2 ⟨a,ha,.inr ⟨rfl,e.symm⟩⟩⟩
theorem Valid.jD {n d:Int} (hd:d∈Dl p.AP n):d∈Bh p/\Kq p d=n:=by
 obtain ⟨a,ha,e⟩:=Rl.1 hd;rcases e with ⟨rfl,e⟩ | ⟨rfl,e⟩
 · exact ⟨Iq.2 ⟨a,ha,.inl rfl⟩,by rw [h.aBb ha,e]⟩
 · exact ⟨Iq.2 ⟨a,ha,.inr rfl⟩,by rw [h.wJ ha,e]⟩
theorem Valid.bI {n:Nd} (hn:n∈p.nodes):(DL p n.id).Nodup:=(h.NI hn).nodup_iff.2 h.adO
theorem Valid.ng {d:Int} (hd:d∈Bh p):∃ n∈p.nodes,n.id=Kq p (-d)/\-d∈DL p n.id/\FH p d=precD (DL p n.id) (-d):=by
 obtain ⟨n,hn,e,hm⟩:=h.adP (Wu hd);refine ⟨n,hn,e,(h.NI hn).symm.subset hm,?_⟩;unfold FH;rw [AZ (h.aiB hd),e]
theorem Valid.QT {d:Int} (hd:d∈Bh p):FH p d∈Bh p/\Kq p (FH p d)=Kq p (-d):=by
 obtain ⟨n,hn,e,hm,hx⟩:=h.ng hd;rw [hx];have h1:=aqM (h.bI hn) hm;have h2:=h.jD ((h.NI hn).subset h1);exact ⟨h2.1,by rw [h2.2,e]⟩
theorem Valid.Xn {d e:Int} (hd:d∈Bh p) (he:e∈Bh p) (hx:FH p d=FH p e):d=e:=by
 obtain ⟨n,hn,e1,m1,x1⟩:=h.ng hd;obtain ⟨m,hm,e2,m2,x2⟩:=h.ng he;have hs:=(h.QT hd).2;rw [hx,(h.QT he).2,<- e2,<- e1] at hs;rw [x1,x2,hs] at hx;rw [hs] at m2;have:=apW (h.bI hn) m1 m2 hx
 omega
theorem Valid.vM:(Bh p).Nodup:=h.aAz.imp (fun h=>by omega)
theorem Valid.Ja:Oo (FH p) (Bh p) (Bh p) (Ce p) :=
 aq7 (fun x hx=>(h.QT hx).1) (fun x hx y hy=>h.Xn hx hy) h.aAz
theorem Valid.adQ:(Ce p).flatten.Perm (Bh p):=h.Ja.perm (fun x hx=>(h.QT hx).1) h.vM
theorem Valid.aB0:(p.nodes.flatMap fun n=>DL p n.id).Perm (Bh p):=by
 refine (aay ?_ h.vM).2 fun d=>?_
 ·unfold List.Nodup;rw [sO];refine ⟨fun n hn=>h.bI hn,?_⟩;have hs:=h.sound.nodes;rw [I5] at hs;rw [Fa] at hs ⊢;intro i j hi hj hij x hx y hy e;subst e;have h1:=(h.jD ((h.NI (BO hi)).subset hx)).2;have h2:=(h.jD ((h.NI (BO hj)).subset hy)).2;have:=hs i j hi hj hij
  omega
 ·rw [Gf];constructor
  ·rintro ⟨n,hn,hd⟩;exact (h.jD ((h.NI hn).subset hd)).1
  ·intro hd;obtain ⟨n,hn,-,hm⟩:=h.adP hd;exact ⟨n,hn,(h.NI hn).symm.subset hm⟩
end
theorem tN.form {w:World} {r:Option Ar} {e:Ending} {w':World} (h:tN w r e w'):∃ A c,e=.returned (.tuple #[.agg #[.int .i64 (r.getD MJ).id,.int .i64 (r.getD MJ).fr,.int .i64 (r.getD MJ).dst,.slice A (r.getD MJ).via.length c,.int .i64 (r.getD MJ).left,.int .i64 (r.getD MJ).right],.bool r.isSome])/\AU w w'/\Dv w' (.slice A (r.getD MJ).via.length c) (r.getD MJ).via:=by
 obtain ⟨v',rfl,hb,hp⟩:=h;obtain ⟨A,c,rfl,h1,h2,h3⟩:=hp;exact ⟨A,c,rfl,hb,A,c,rfl,h1,h2,h3⟩
theorem aB1 {n:Int} (h:En n):-9223372036854775808<=n/\n<=9223372036854775807:=by
 unfold En Lit.wf at h;simp only [Ei,EO] at h;have h1:IntKind.i64.min=-9223372036854775808:=by decide
 have h2:IntKind.i64.max=9223372036854775807:=by decide
 rw [h1,h2] at h;exact h
theorem apX {p:Pl} {d:Int} (h0:d≠0) (h1:d≠-9223372036854775808):findAr p.AP (max d (-d))=Fg p d:=by
 unfold Fg aBa Ez;rw [AX AB];congr 1;split<;>omega
def apY (w:World) (r:Option Ar) (e:Ending) (w':World):Prop :=
 ∃ A n c,e=.returned (.tuple #[.agg #[.int .i64 (r.getD MJ).id,.int .i64 (r.getD MJ).fr,.int .i64 (r.getD MJ).dst,.slice A n c,.int .i64 (r.getD MJ).left,.int .i64 (r.getD MJ).right],.bool r.isSome])/\AU w w'
theorem aiC (v:Value) (p:Pl) (d:Int) (w:World) (h:Ci w v p) (hs:jX p) (hd:En d):Calls Tryz.prog 90 #[v,.int .i64 d] w (apY w (Fg p d)):=by
 have TA:=fun W (hW:AU w W)=>aqH v p (max d (-d)) W (h.mono hW) hs;obtain ⟨_,_,_,al,rfl,hpa,⟨An,cn,rfl,-⟩,⟨⟨Aa,ca,rfl,-⟩,-⟩,⟨Af,cf,rfl,-⟩⟩:=h;generalize al.length=na at *;generalize p.nodes.length=nn at *;generalize p.faces.length=nf at *;clear hpa;by_cases h0:d=0
 ·subst h0;have hz:Fg p 0=none:=by unfold Fg;rw [AZ (.inl rfl)]
  rw [hz];clear TA hz;go_enter Tryz.func90,Tryz.ntmps90;go_upto_region 1 with fail;obtain ⟨W,hW⟩:=BR ((w.alloc (.cells #[.slice An nn cn,.slice Aa na ca,.slice Af nf cf] 26)).alloc (.cells #[.int .i64 0,.int .i64 0,.int .i64 0,.slice none 0 0,.int .i64 0,.int .i64 0] 50));have Bw:AU w W:=by rw [hW];exact bA (bA (bR w) _) _
  have X4:AO W (w.heap.size+1) 50 #[.int .i64 0,.int .i64 0,.int .i64 0,.slice none 0 0,.int .i64 0,.int .i64 0]:=by rw [hW];exact AO.made Ak _ _
  rw [<- hW];clear hW;obtain ⟨BZ,Bl,CQ,EU,KX,La,Lc,EG,FW,JC,QI,S9,SA⟩:=X4.IW;go_wp2_with fail;refine L9 (g:=w.heap.size+1) (cs:=#[.int .i64 0,.int .i64 0,.int .i64 0,.slice none 0 0,.int .i64 0,.int .i64 0]) rfl UU rfl rfl (AO.UR X4) ⟨none,0,0,rfl,?_⟩;exact EC
 by_cases h1:d=-9223372036854775808
 ·subst h1;have hz:Fg p (-9223372036854775808)=none:=by unfold Fg;rw [AZ (.inr rfl)]
  rw [hz];clear TA hz h0;go_enter Tryz.func90,Tryz.ntmps90;go_upto_region 1 with fail;obtain ⟨W,hW⟩:=BR ((w.alloc (.cells #[.slice An nn cn,.slice Aa na ca,.slice Af nf cf] 26)).alloc (.cells #[.int .i64 0,.int .i64 0,.int .i64 0,.slice none 0 0,.int .i64 0,.int .i64 0] 50));have Bw:AU w W:=by rw [hW];exact bA (bA (bR w) _) _
  have X4:AO W (w.heap.size+1) 50 #[.int .i64 0,.int .i64 0,.int .i64 0,.slice none 0 0,.int .i64 0,.int .i64 0]:=by rw [hW];exact AO.made Ak _ _
  rw [<- hW];clear hW
  try clear BZ Bl CQ EU KX La Lc
  try clear EG FW JC QI S9 SA
  obtain ⟨BZ,Bl,CQ,EU,KX,La,Lc,EG,FW,JC,QI,S9,SA⟩:=X4.IW;go_wp2_with fail;refine L9 (g:=w.heap.size+1) (cs:=#[.int .i64 0,.int .i64 0,.int .i64 0,.slice none 0 0,.int .i64 0,.int .i64 0]) rfl UU rfl rfl (AO.UR X4) ⟨none,0,0,rfl,?_⟩;exact EC
 rw [apX h0 h1] at TA;have hb:=aB1 hd;have k1:IntKind.i64.wrap (-d)=-d:=D6 _ AB;have e0:(d == 0)=false:=by simpa using h0
 have e1:(d == -9223372036854775808)=false:=by simpa using h1
 have HA:=AA TA;clear TA h0 h1 hd hb;generalize Fg p d=r at *;go_enter Tryz.func90,Tryz.ntmps90;go_upto_region 1 with fail;obtain ⟨W,hW⟩:=BR ((w.alloc (.cells #[.slice An nn cn,.slice Aa na ca,.slice Af nf cf] 26)).alloc (.cells #[.int .i64 0,.int .i64 0,.int .i64 0,.slice none 0 0,.int .i64 0,.int .i64 0] 50));have Bw:AU w W:=by rw [hW];exact bA (bA (bR w) _) _
 have X4:AO W (w.heap.size+1) 50 #[.int .i64 0,.int .i64 0,.int .i64 0,.slice none 0 0,.int .i64 0,.int .i64 0]:=by rw [hW];exact AO.made Ak _ _
 have X2:AO W w.heap.size 26 #[.slice An nn cn,.slice Aa na ca,.slice Af nf cf]:=by rw [hW];exact (AO.made rfl _ _).alloc _
 rw [<- hW];clear hW;obtain ⟨BU,BX,Bg,CB,-,-,-⟩:=X2.Az;go_wp2_with fail;refine (HA.out _ Bw).mono ?_;intro e w1 har;obtain ⟨A1,c1,rfl,hb1,-⟩:=har.form;have Bw:=bT Bw hb1;replace X4:=X4.keep hb1;clear har hb1 X2 BU BX Bg CB
 try clear BZ Bl CQ EU KX La Lc
 try clear EG FW JC QI S9 SA
 obtain ⟨BZ,Bl,CQ,EU,KX,La,Lc,EG,FW,JC,QI,S9,SA⟩:=X4.IW;generalize hvl:(r.getD MJ).via.length=vl at *;go_wp2_with fail;refine L9 (g:=w.heap.size+1) (cs:=#[.int .i64 (r.getD MJ).id,.int .i64 (r.getD MJ).fr,.int .i64 (r.getD MJ).dst,.slice A1 vl c1,.int .i64 (r.getD MJ).left,.int .i64 (r.getD MJ).right]) rfl UU rfl rfl (AO.UR X4) ⟨A1,vl,c1,rfl,?_⟩;exact EC
theorem apZ (v:Value) (p:Pl) (d:Int) (w:World) (h:Ci w v p) (hs:jX p) (hd:En d):Calls Tryz.prog 33 #[v,.int .i64 d] w fun e w'=>e=.returned (.int .i64 (IK p d))/\AU w w':=by
 have HA:=AA (fun W (hW:AU w W)=>aiC v p d W (h.mono hW) hs hd);obtain ⟨_,_,_,al,rfl,hpa,⟨An,cn,rfl,-⟩,⟨⟨Aa,ca,rfl,-⟩,-⟩,⟨Af,cf,rfl,-⟩⟩:=h;unfold IK;generalize Fg p d=r at *;generalize al.length=na at *;generalize p.nodes.length=nn at *;generalize p.faces.length=nf at *;clear hpa hd hs;go_enter Tryz.func33,Tryz.ntmps33;go_wp2_with fail;refine (HA.out _ (bA (bR w) _)).mono ?_;rintro e w1 ⟨A1,n1,c1,rfl,hb1⟩;have B1:=AA (bT (bA (bR w) _) hb1);clear hb1 HA
 cases r with
 | none =>
  simp only [gX];go_wp2;go_ret;exact ⟨rfl,bA B1.out _⟩
 | some a =>
  simp only [VP,H9];by_cases hp:0<d
  ·go_wp2;go_ret;exact ⟨Df (by first | rfl | simp [hp]),bA B1.out _⟩
  ·go_wp2;go_ret;exact ⟨Df (by first | rfl | simp [hp]),bA B1.out _⟩
theorem adR {P:Program} {fn:Func} {p u v:Tmp} {ty t:TypeId} {R:Ending->World->Prop} {a:Act} {w:World} {g:Nat} {cs:Array Value} (h:fn.results=#[.cell p ty,.tmp u,.tmp v])
  (hS:StructOf P ty cs.size) (hp:a.tmps.getD p undef=.pointer (some ⟨g,0,none⟩)) (hd:a.defers=[]) (hb:AO w g t cs) (hR:R (.returned (.tuple #[.agg cs,a.tmps.getD u undef,a.tmps.getD v undef])) w):bodyPost P fn R .ret a w:=by
 obtain ⟨fs,h1,h3⟩:=hS;refine bodyPost_ret ?_ hd hR;have e1:=run_loadVar_row (P:=P) w g t ty cs (0,0) (.struct fs) hb h1 rfl h3;have hp':a.tmps[p]?.getD undef=.pointer (some ⟨g,0,none⟩):=by simpa using hp
 simp only [results,h];simp [hp',asAddr,Sem.run_bind,Sem.run_pure,Result.andThen,e1]
def o7 (p:Pl) (d:Int):Bool:=p.AP.any fun a=>decide (a.id=d) || decide (a.id=IntKind.i64.wrap (-d))
def apa (w:World) (b:Bool) (e:Ending) (w':World):Prop :=
 ∃ (A:Option Addr) (n c:Nat) (i0 i1 i2 i4 i5:Int) (back:Bool),e=.returned (.tuple #[.agg #[.int .i64 i0,.int .i64 i1,.int .i64 i2,.slice A n c,.int .i64 i4,.int .i64 i5],.bool back,.bool b])/\AU w w'
theorem apb (v:Value) (p:Pl) (d:Int) (w:World) (h:Ci w v p):Calls Tryz.prog 251 #[v,.int .i64 d] w (apa w (o7 p d)):=by
 obtain ⟨_,_,_,al,rfl,hpa,⟨An,cn,rfl,-⟩,⟨⟨Aa,ca,rfl,hn1,hn2,hR⟩,hV⟩,⟨Af,cf,rfl,-⟩⟩:=h;unfold maxLen at hn2;have HR:=AA hR;have HV:=AA hV;obtain ⟨r,hr⟩:=BN (o7 p d);rw [hr];unfold o7 at hr;rw [hpa] at hr;have Hr:=AA hr;generalize p.nodes.length=nn at *;generalize p.faces.length=nf at *;clear hpa hr hR hV;obtain ⟨nd,hnd⟩:=BN (IntKind.i64.wrap (-d));rw [hnd] at Hr;go_enter Tryz.func251,Tryz.ntmps251;go_wp2_with fail;go_loopw [7] (fun u wr=>∃ k:Nat,k<=al.length/\u=.int .i64 k/\AU w wr/\AO wr w.heap.size 26 #[.slice An nn cn,.slice Aa al.length ca,.slice Af nf cf]/\AO wr (w.heap.size+1) 50 #[.int .i64 0,.int .i64 0,.int .i64 0,.slice none 0 0,.int .i64 0,.int .i64 0]/\∀ j (hj:j<al.length),j<k->(decide (al[j].1.id=d) || decide (al[j].1.id=nd))=false) (fun u _=>al.length-(intOf u).toNat)
 case atStart => exact ⟨0,Bv _,rfl,bA (bA (bR w) _) _,(AO.made rfl _ _).alloc _,AO.made Ak _ _,fun j _ h=>by omega⟩
 case round =>
  obtain ⟨k,hk,rfl,hb,X2,X4,hno⟩:=hrel;have Hb:=AA hb;have Hno:=AA hno;clear hb hno;obtain ⟨BU,BX,Bg,CB,-,-,-⟩:=X2.Az;obtain ⟨BZ,Bl,CQ,EU,KX,La,Lc,EG,FW,JC,QI,S9,SA⟩:=X4.IW;have Bw:=Hb.out;by_cases hlt:k<al.length
  case neg =>
   have hf:=Ue (al.map (·.1)) (fun a=>decide (a.id=d) || decide (a.id=nd)) (fun j hj=>by
    rw [Cj] at hj;simp only [Gp];exact Hno.out j hj AB)
   have Hf:=AA (Hr.out.symm.trans hf);clear hf;go_wp2_with fail;refine adR (g:=w.heap.size+1) (cs:=#[.int .i64 0,.int .i64 0,.int .i64 0,.slice none 0 0,.int .i64 0,.int .i64 0]) rfl UU rfl rfl (AO.UR X4) ⟨none,0,0,0,0,0,0,0,false,Zy,?_⟩;exact EC
  obtain ⟨b,o,rfl,hlb,c0,c1,c2,c3,c4,c5⟩:=(HR.out.mono Hb.out).ar hlt;obtain ⟨Av,cv,hv,-⟩:=HV.out k hlt;rw [hv] at c3;clear hv;generalize hvl:al[k].1.via.length=vl at *;by_cases e1:al[k].1.id=d
  case pos =>
   have hf:=SB (al.map (·.1)) (fun a=>decide (a.id=d) || decide (a.id=nd)) k (by simpa using hlt) (by simp [e1]);have Hf:=AA (Hr.out.symm.trans hf);have e1':(al[k].1.id == d)=true:=by simpa using e1
   clear hf e1;go_wp2_with fail;refine adR (g:=w.heap.size+1) (cs:=#[.int .i64 al[k].1.id,.int .i64 al[k].1.fr,.int .i64 al[k].1.dst,.slice Av vl cv,.int .i64 al[k].1.left,.int .i64 al[k].1.right]) rfl UU rfl rfl (AO.UR X4) ⟨Av,vl,cv,_,_,_,_,_,_,Zy,?_⟩;exact EC
  case neg =>
  have e1':(al[k].1.id == d)=false:=by simpa using e1
  by_cases e2:al[k].1.id=nd
  case pos =>
   have hf:=SB (al.map (·.1)) (fun a=>decide (a.id=d) || decide (a.id=nd)) k (by simpa using hlt) (by simp [e2]);have Hf:=AA (Hr.out.symm.trans hf);have e2':(al[k].1.id == nd)=true:=by simpa using e2
   clear hf e1 e2;go_wp2_with fail;refine adR (g:=w.heap.size+1) (cs:=#[.int .i64 al[k].1.id,.int .i64 al[k].1.fr,.int .i64 al[k].1.dst,.slice Av vl cv,.int .i64 al[k].1.left,.int .i64 al[k].1.right]) rfl UU rfl rfl (AO.UR X4) ⟨Av,vl,cv,_,_,_,_,_,_,Zy,?_⟩;exact EC
  case neg =>
  have e2':(al[k].1.id == nd)=false:=by simpa using e2
  have HN:=AA (show (decide (al[k].1.id=d) || decide (al[k].1.id=nd))=false by simp [e1,e2]);clear e1 e2;go_wp2;go_roundw
  case rel => exact ⟨k+1,AB,BJ,Hb.out,X2,X4,all_succ (p:=fun x:Ar×Value=>(decide (x.1.id=d) || decide (x.1.id=nd))=false) Hno.out hlt HN.out⟩
  case measure => exact BL
theorem apc (v:Value) (p:Pl) (d:Int) (w:World) (h:Ci w v p):Calls Tryz.prog 196 #[v,.int .i64 d] w fun e w'=>e=.returned (.bool (o7 p d && !decide (d=0)))/\AU w w':=by
 have HA:=AA (fun W (hW:AU w W)=>apb v p d W (h.mono hW));obtain ⟨_,_,_,al,rfl,hpa,⟨An,cn,rfl,-⟩,⟨⟨Aa,ca,rfl,-⟩,-⟩,⟨Af,cf,rfl,-⟩⟩:=h;generalize o7 p d=r at *;generalize al.length=na at *;generalize p.nodes.length=nn at *;generalize p.faces.length=nf at *;clear hpa;go_enter Tryz.func196,Tryz.ntmps196;go_wp2_with fail;refine (HA.out _ (bA (bR w) _)).mono ?_;rintro e w1 ⟨A1,n1,c1,i0,i1,i2,i4,i5,back,rfl,hb1⟩;have B1:=AA (bT (bA (bR w) _) hb1);clear hb1 HA
 cases r
 ·go_wp2;go_ret;exact ⟨rfl,bA B1.out _⟩
 ·by_cases h0:d=0
  ·subst h0;go_wp2;go_ret;exact ⟨rfl,bA B1.out _⟩
  ·have h0':(d != 0)=true:=by simpa using h0
   have H0:=AA h0;clear h0;go_wp2;go_ret;exact ⟨CW (by simp [H0.out]),bA B1.out _⟩
def Oq (a b:Pt):Int:=a.x*b.y-b.x*a.y
def Jl (P:List Pt):Nat->Int
 | 0=>0
 | k+1=>Jl P k+Oq (P.getD k AY) (P.getD (k+1) AY)
def QU (P:List Pt):Int:=Jl P (P.length-1)
def QB (p:Pl) (d:Int):Int:=match Fg p d with
 | none=>0
 | some a=>if 0<d then QU (AV p a) else -QU (AV p a)
def Nj (p:Pl) (l:List Int):Nat->Int
 | 0=>0
 | k+1=>Nj p l k+QB p (l.getD k 0)
def Um (p:Pl) (l:List Int):Int:=if l.length<=512/\(∀ d∈l,(Fg p d).isSome=true) then Nj p l l.length else 0
theorem apd (P:List Pt) (k:Nat) (hk:k+1<=P.length):Jl P.reverse k=Jl P (P.length-1-k)-Jl P (P.length-1):=by
 induction k with
 | zero=>simp [Jl]
 | succ k ih =>
  rw [Jl,ih AB];obtain ⟨m,hm⟩:∃ m,P.length=m+k+2:=⟨P.length-k-2,AB⟩;have e1:P.reverse.getD k AY=P.getD (m+1) AY:=by
   rw [Fj,List.getElem?_reverse AB,Fj];congr 2;omega
  have e2:P.reverse.getD (k+1) AY=P.getD m AY:=by
   rw [Fj,List.getElem?_reverse AB,Fj];congr 2;omega
  rw [e1,e2,show P.length-1-k=m+1 by omega,show P.length-1-(k+1)=m by omega,Jl];unfold Oq;omega
theorem ape (P:List Pt) (h:1<=P.length):QU P.reverse=-QU P:=by
 unfold QU;rw [XU,apd P _ AB];rw [show P.length-1-(P.length-1)=0 by omega];simp [Jl]
def NJ (p:Pt):Prop:=(-1048576<=p.x/\p.x<=1048576)/\(-1048576<=p.y/\p.y<=1048576)
theorem o8 {u v:Int} (hu:-1048576<=u/\u<=1048576) (hv:-1048576<=v/\v<=1048576):-1099511627776<=u*v/\u*v<=1099511627776:=by
 have:=Qs u v 1048576 hu.1 hu.2 hv.1 hv.2
 simpa using this
theorem apf {a b:Pt} (ha:NJ a) (hb:NJ b):-2199023255552<=Oq a b/\Oq a b<=2199023255552:=by
 have h1:=o8 ha.1 hb.2;have h2:=o8 hb.1 ha.2;unfold Oq;omega
theorem aiD {P:List Pt} (h:∀ q∈P,NJ q) (k:Nat) (hk:k+1<=P.length\/k=0):-(2199023255552*(k:Int))<=Jl P k/\Jl P k<=2199023255552*(k:Int):=by
 induction k with
 | zero=>simp [Jl]
 | succ k ih =>
  have ih:=ih AB;have g:∀ j,j<P.length->NJ (P.getD j AY):=fun j hj=>by
   rw [Fj,Dh hj];exact h _ (BO hj)
  have:=apf (g k AB) (g (k+1) AB)
  rw [Jl];omega
theorem aiE {q:Pt} (h:KY q=true):NJ q:=by
 unfold KY at h;simp only [Ei,EO] at h;unfold NJ;omega
theorem vN {p:Pl} {d:Int} {a:Ar} (e:Fg p d=some a):a∈p.AP/\Ez d=a.id:=by
 unfold Fg at e;split at e
 · cases e
 · exact ⟨VO e,by have:=List.find?_some e;exact (show a.id=Ez d by simpa using this).symm⟩
section
variable {p:Pl} (h:Valid p)
include h
theorem Valid.vO {a:Ar} (ha:a∈p.AP) {q:Pt} (hq:q∈AV p a):NJ q:=by
 have hr:=h.rng;unfold Nb at hr;simp only [Ei,KU] at hr;have key:∀ q∈Vk p,NJ q:=fun q hq=>aiE (hr.2 q hq);unfold AV at hq;rcases EW.1 hq with rfl | hq
 ·obtain ⟨n,hn,-,e⟩:=h.sound.Xk ha;rw [e];exact key _ (O9 _ (Gh hn))
 ·rcases FX.1 hq with hq | hq
  · exact key _ (YI _ (Gf.2 ⟨a,ha,hq⟩))
  ·rw [EP] at hq;subst hq;obtain ⟨n,hn,-,e⟩:=h.sound.Yj ha;rw [e];exact key _ (O9 _ (Gh hn))
theorem Valid.Tv {a:Ar} (ha:a∈p.AP):a.via.length<=64:=by
 have hl:=h.lim;unfold Ji at hl;rw [QC,XO] at hl;have:=hl.1 a ha
 simpa using this
theorem Valid.aiF {a:Ar} (ha:a∈p.AP) (k:Nat) (hk:k+1<=(AV p a).length):-142936511610880<=Jl (AV p a) k/\Jl (AV p a) k<=142936511610880:=by
 have h1:=aiD (P:=AV p a) (fun q hq=>h.vO ha hq) k (.inl hk);have h2:=h.Tv ha;have h3:=Ey p a;omega
theorem Valid.apg (d:Int):-142936511610880<=QB p d/\QB p d<=142936511610880:=by
 unfold QB
 cases e:Fg p d with
 | none=>simp
 | some a =>
  have ha:=(vN e).1;have h3:=Ey p a;have:=h.aiF ha ((AV p a).length-1) AB
  unfold QU;simp only [];split<;>omega
theorem Valid.aiG (l:List Int) (k:Nat):-(142936511610880*(k:Int))<=Nj p l k/\Nj p l k<=142936511610880*(k:Int):=by
 induction k with
 | zero=>simp [Nj]
 | succ k ih =>
  have:=h.apg (l.getD k 0)
  rw [Nj];omega
theorem Valid.aph {d:Int} (hd:-9223372036854775808<=d/\d<=9223372036854775807):((p.AP.any fun a=>decide (a.id=d) || decide (a.id=IntKind.i64.wrap (-d))) && !decide (d=0))=(Fg p d).isSome:=by
 rw [MH,Ei,OC];constructor
 ·rintro ⟨⟨a,ha,h1⟩,h0⟩;have hp:=h.Gx ha;rw [KD,EO,EO] at h1;rcases h1 with h1 | h1
  · rw [<- h1,h.iK ha];rfl
  ·by_cases hm:d=-9223372036854775808
   ·subst hm
    have:IntKind.i64.wrap (-(-9223372036854775808))=-9223372036854775808:=by decide
    rw [this] at h1;omega
   ·rw [D6 _ AB] at h1;rw [show d=-a.id by omega,h.pF ha];rfl
 ·intro h1
  cases e:Fg p d with
  | none=>rw [e] at h1;cases h1
  | some a =>
   obtain ⟨ha,hi⟩:=vN e;have hp:=h.Gx ha;unfold Ez at hi;refine ⟨⟨a,ha,?_⟩,?_⟩
   ·rw [KD,EO,EO];split at hi
    ·right;rw [D6 _ AB];omega
    · left;omega
   ·simp only [Qk,Iy];rintro rfl;simp at hi;omega
end
def Tz (p:Pl) (d:Int):List Pt:=if 0<d then (pathOf p d).getD [] else ((pathOf p (-d)).getD []).reverse
theorem apj {p:Pl} (hs:Short p) (id:Int):((pathOf p id).getD []).length<=1048578:=by
 cases e:pathOf p id with
 | none=>simp
 | some l=>exact (ahD e hs).2
theorem aiH (v:Value) (p:Pl) (d:Int) (w:World) (h:Ci w v p) (hs:Short p) (hd:-9223372036854775808<d/\d<=9223372036854775807):Calls Tryz.prog 197 #[v,.int .i64 d] w (bU w (Tz p d)):=by
 have HA:=AA (fun id W (hW:AU w W)=>agM v p id W (h.mono hW) hs);have HLn:=AA (apj hs);obtain ⟨_,_,_,al,rfl,hpa,⟨An,cn,rfl,-⟩,⟨⟨Aa,ca,rfl,-⟩,-⟩,⟨Af,cf,rfl,-⟩⟩:=h;unfold Tz;generalize al.length=na at *;generalize p.nodes.length=nn at *;generalize p.faces.length=nf at *;clear hpa hs;by_cases h1:0<d
 ·rw [AZ h1];have HB:=AA (HA.out d);clear HA hd HLn;unfold iR at HB;generalize (pathOf p d).getD []=L at *;generalize (if (pathOf p d).isSome then (0:Int) else 7)=z at *;go_enter Tryz.func197,Tryz.ntmps197;go_wp2_with fail;refine (HB.out _ (bA (bR w) _)).mono ?_;rintro e w1 ⟨A1,c1,rfl,hb1,ho1⟩;have B1:=AA (bT (bA (bR w) _) hb1);have HO:=AA (Own.ES ho1 (b':=w.heap.size) Ak);clear hb1 ho1 HB;go_wp2;go_ret;exact ⟨A1,c1,rfl,B1.out,HO.out⟩
 rw [AX h1];have k1:IntKind.i64.wrap (-d)=-d:=D6 _ AB;have HB:=AA (HA.out (-d));have hln:=HLn.out (-d);clear HA hd HLn;unfold iR at HB;generalize (pathOf p (-d)).getD []=L at *;generalize (if (pathOf p (-d)).isSome then (0:Int) else 7)=z at *;obtain ⟨q,hq⟩:=BN L.reverse;rw [hq];have Hq:=AA hq;clear hq;go_enter Tryz.func197,Tryz.ntmps197;go_wp2_with fail;refine (HB.out _ (bA (bR w) _)).mono ?_;rintro e w1 ⟨A1,c1,rfl,hb1,ho1⟩;have B1:=AA (bT (bA (bR w) _) hb1);have HO:=AA ho1.sl;clear hb1 ho1 HB k1;have k2:IntKind.i64.wrap ((L.length:Int)-1)=(L.length:Int)-1:=D6 _ AB;have hR:=HO.out;obtain ⟨Aq,cq,he,hq1,hq2,hR⟩:=hR;injection he with e1 e2 e3;subst e1 e3;clear e2;unfold maxLen at hq2;have HR:=AA hR;clear hR;go_wp2_with fail;go_loopw [9,10] (fun s i wr=>∃ m:Nat,m<=L.length/\i=.int .i64 ((m:Int)-1)/\Own wr w1.heap.size 39 2 Ee s (L.drop m).reverse/\AU w1 wr) (fun _ i _=>(intOf i+1).toNat)
 case atStart => exact ⟨L.length,Dc _,rfl,by rw [aaq];exact Own.nil _ _ _ _ _,bR w1⟩
 case round =>
  obtain ⟨m,hm,rfl,ho,hb⟩:=hrel;have Hb:=AA hb;have Ho:=AA ho;obtain ⟨As,cs,rfl,-⟩:=Own.sl ho;clear hb ho
  cases m with
  | zero =>
   have ho:=Ho.out;rw [sG,Hq.out] at ho;have F9:=AA ho;rw [sG,Hq.out];clear ho;have k3:¬ (0:Int)<=((0:Nat):Int)-1:=by omega
   go_wp2;go_ret;exact ⟨As,cs,rfl,bT B1.out Hb.out,Own.ES F9.out B1.out.size⟩
  | succ m =>
   have hml:m<L.length:=by omega
   obtain ⟨b,o,hA,hlb,c0,c1⟩:=(HR.out.mono Hb.out).pt hml;subst hA;have k3:(((m+1:Nat):Int)-1)=(m:Int):=by omega
   rw [k3];clear k3;have hst:(L.drop m).reverse=(L.drop (m+1)).reverse++[L[m]]:=by rw [<- List.reverse_cons,Ql hml]
   have DU:=AA hst;have hdl:(L.drop (m+1)).reverse.length<=1048578:=by rw [XU,mD];omega
   have HDl:=AA hdl;clear hst hdl;have q1:0<=(m:Int):=by omega
   have q2:(m:Int)<L.length:=by omega
   have hz:=Hb.out.size;have hz1:=B1.out.size;go_wp2_with
    (at_builtin
     refine FK _ rfl (.tmp 34) (.tmp 39) _ rfl (base:=w1.heap.size) L6 KJ L8 rfl (Own.alloc Ho.out _) rfl (l2:=[L[m]]) (Sl.lit (n:=1) (AO.made rfl _ _) rfl (DN AB)) (by have:=HDl.out;simp only [IU,LX];omega) (by have:=HDl.out;simp only [IU,LX];omega) DT ?_;intro v3 w3 ho3 hg3 LK;have F5:=AA ho3;have B3:=AA (show AU w1 w3 from bG (bA Hb.out _) hg3 (fun g hg=>(Ho.out.lt g hg).1));clear ho3 hg3 LK)
   go_roundw
   case rel => exact ⟨m,AB,BJ,by rw [DU.out];exact F5.out,B3.out⟩
   case measure => simp [intOf]
