import Derived.Test.YtialfdomhoojiaaGreatJ09
set_option linter.unusedSimpArgs false
set_option linter.unusedVariables false
set_option maxRecDepth 100000
set_option maxHeartbeats 4000000
namespace Go.Proofs.YtialfdomhoojiaaGreat
open Go.RowKit
theorem al0 {n:Nat} (h:n<=8796093022208):n<=maxLen:=by
 have:maxLen=9223372036854775807:=rfl
 omega
def Jh (p:Pl):Prop:=∀ a∈p.aj,a.via.length<=8796093022208
theorem ae3 {P:Program} (w:World) {ops:Array Oper} {rest:List Oper} {o:Oper} {a:Act} {Q:Exit->Act->World->Prop} (hgd:o.guard=none) (s x:Operand) (t:TypeId)
  (ho:o.op=.call {callee:=.builtin .append,args:=#[s,x],argTypes:=#[t,t]})
  {α:Type} {f:α->List Value} {base:Nat} {e:TypeId} {size bytes:Nat} (hE:Elem P t e size bytes) (hf:∀ a,(f a).length=size) (hone:∀ a,∀ u∈f a,u.oneCell'=true)
  {v:Value} {l:List α} (hs:a.eval s=v) (hown:Own w base e size f v l)
  {src:Value} {l2:List α} (hx:a.eval x=src) (hr:Sl w src l2.length (l2.flatMap f))
  (hbytes:(l.length+l2.length)*bytes<=140737488355328) (h32:l.length+l2.length<=8796093022208) (hbase:base<=w.heap.size)
  (h:∀ v' w',Own w' base e size f v' (l++l2)->w.grownBy w' v.ownBlock->(v'.ownBlock=v.ownBlock\/v'.ownBlock=some w.heap.size)->wpList P ops Q rest (a.put o.dst v') w'):wpList P ops Q (o::rest) a w:=by
 obtain ⟨ht,i,z,hi,hz,hsize,hby,hzs,hsz⟩:=hE;refine ac1 w hgd s x t ho base e i z size bytes ht hi hz hsize hby hzs hsz v l.length (l.flatMap f) hs hown src l2.length (l2.flatMap f) hx hr (flat_length f size hf l2)
  (fun u hu=>?_) (al0 h32) hbytes hbase (fun v' w' h1 h2 h3=>h v' w' ?_ h2 h3)
 ·obtain ⟨a,_,hu⟩:=List.mem_flatMap.1 hu;exact hone a u hu
 ·unfold Own;rw [avL,List.flatMap_append];exact h1
theorem al1 (v:Value) (l:List Pt) (w:World) (h:dM w v l) (hl:l.length<=8796093022208) :
  Calls Tryz.prog 114 #[v] w (Ie w l):=by
 have H:=h;obtain ⟨A,c,rfl,hn,hc,hR⟩:=h;have hE:=Lib.run_eql_slice_nil (P:=Tryz.prog) (t:=46) (e:=39);rcases A with _ | ad
 ·have hl0:l=[]:=by
   rcases l with _ | ⟨a,l⟩
   · rfl
   ·obtain ⟨b,o,e,_⟩:=hR (by simp [dU])
    cases e
  subst hl0;clear hR H;simp only [avN] at hn ⊢;have hE1:∀ W:World,(binOp .eql 46 (.slice none 0 c) (.slice none 0 0)).run Tryz.prog W=.ok (.bool true) W:=fun W=>Lib.run_eql_slice_nil W _ 39 none _ c 0 0 Tryz.underlying46;clear hE;go_enter Tryz.func114,Tryz.ntmps114;go_wp2;go_ret;exact ⟨_,_,rfl,bR w,Own.nil _ _ _ _ _⟩
 ·have hE1:∀ W:World,(binOp .eql 46 (.slice (some ad) l.length c) (.slice none 0 0)).run Tryz.prog W=.ok (.bool false) W:=fun W=>Lib.run_eql_slice_nil W _ 39 (some ad) _ c 0 0 Tryz.underlying46;clear hE hR;have HH:=avE H;clear H;go_enter Tryz.func114,Tryz.ntmps114;go_wp2_with
   (at_builtin
    refine ae3 _ rfl (.tmp 5) (.tmp 6) _ rfl (base:=w.heap.size) ng jS ni rfl (Own.lit _ _ _ _ dU [] _ 0 _ rfl rfl (awe _) (dP Pe) rfl rfl) rfl (HH.out.mono (bA (bR w) _)) at6 at6 ars ?_;intro v1 w1 hown hg hat)
  go_ret;obtain ⟨A1,c1,rfl,-⟩:=Own.sl hown;simp only [List.nil_append] at hown ⊢;exact ⟨A1,c1,rfl,bG (bA (bR w) _) hg (fun k hk=>by have:w.heap.size=k:=avP hk;omega),hown⟩
theorem al2 (v:Value) (p:Pl) (id:Int) (w:World) (h:bQ w v p) (hsh:Jh p) :
  Calls Tryz.prog 73 #[v,.int .i64 id] w (Nj w (findAr p.aj id)):=by
 obtain ⟨vn,_,vf,al,rfl,hpa,-,⟨⟨An,cn,rfl,hn1,hn2,hR⟩,hV⟩,-⟩:=h;unfold maxLen at hn2;unfold Jh at hsh;rw [hpa] at hsh ⊢;clear hpa;have hsh':∀ k (hk:k<al.length),al[k].1.via.length<=8796093022208:=fun k hk=>hsh _ (awd (avF hk));have HV:=avE hV;clear hV hsh;have iL:=avE hsh';clear hsh';go_enter Tryz.func73,Tryz.ntmps73;go_wp2_with fail;go_loopw [11] (fun i wr=>∃ k:Nat,k<=al.length/\i=.int .i64 k/\Below w.heap.size w wr/\ah wr (w.heap.size+1) 50 #[.int .i64 0,.int .i64 0,.int .i64 0,.slice none 0 0,.int .i64 0,.int .i64 0]/\∀ j (hj:j<al.length),j<k->(al[j].1.id == id)=false) (fun i _=>al.length-(intOf i).toNat)
 case atStart => exact ⟨0,avK _,rfl,bA (bA (bR w) _) _,ah.made ars _ _,fun j _ h=>by omega⟩
 case round =>
  obtain ⟨k,hk,rfl,hb,X4,hno⟩:=hrel;have Hb:=avE hb;have Hno:=avE hno;clear hb hno;obtain ⟨aV,aX,bn,fA,mQ,mV,mW,dV,gy,iF,sJ,sO,sQ⟩:=X4.gX;by_cases hlt:k<al.length
  ·obtain ⟨b,o,rfl,hlb,c0,c1,c2,c3,c4,c5⟩:=(hR.mono Hb.out).ar hlt;have HR:=avE hR;clear hR;have hvk:=(HV.out k hlt);obtain ⟨Av,cv,hv,-⟩:=hvk;have hvk:=(HV.out k hlt);rw [hv] at c3 hvk;generalize hvl:al[k].1.via.length=vl at *;have Pz:=avE hvl;have vN:=avE hvk;clear hvk hv hvl
   cases he:(al[k].1.id == id)
   ·go_wp2;go_roundw
    case rel => exact ⟨k+1,by omega,by go_num,bA Hb.out _,X4.alloc _,all_succ (p:=fun x=>(x.1.id == id)=false) Hno.out hlt he⟩
    case measure => simp [intOf];omega
   ·have hf:=Uy al id k hlt Hno.out he;have Hf:=avE hf;clear hf;go_wp2_with fail;refine (al1 _ _ _ (vN.out.mono (bA Hb.out _)) (iL.out k hlt)).mono ?_;rintro e w1 ⟨A1,lQ,rfl,hb1,hown⟩;have Bw:Below w.heap.size w w1:=bT (bA Hb.out _) hb1;have X7:ah w1 wr.heap.size 50 #[.int .i64 al[k].1.id,.int .i64 al[k].1.fr,.int .i64 al[k].1.dst,.slice Av vl cv,.int .i64 al[k].1.left,.int .i64 al[k].1.right]:=(ah.made rfl _ _).keep hb1;have hw8:w.heap.size+1<wr.heap.size:=by omega
    have hw7:w.heap.size+1≠wr.heap.size:=by omega
    replace X4:=(X4.alloc _).keep hb1;have hown':=hown.fG (b':=wr.heap.size+1) ars;have hP:=Own.sl hown;have gU:=avE hown';clear hb1 c0 c1 c2 c3 c4 c5 hlb hown hown' hP
    try clear aV
    try clear aX
    try clear bn
    try clear fA
    try clear mQ
    try clear mV
    try clear mW
    try clear dV
    try clear gy
    try clear iF
    try clear sJ
    try clear sO
    try clear sQ
    obtain ⟨aV,aX,bn,fA,mQ,mV,mW,dV,gy,iF,sJ,sO,sQ⟩:=X4.gX;obtain ⟨dY,dZ,gI,oM,Ig,Ih,Ii,qY,xQ,Ij,Zc,Zd,Ze⟩:=X7.gX;go_wp2_with fail;have Nk:=Hb.out.size;have AB:(Value.slice A1 al[k].1.via.length lQ).ownBlock≠some wr.heap.size:=fun e=>by have:=(gU.out.lt _ e).1;omega
    have mg:(Value.slice A1 al[k].1.via.length lQ).ownBlock≠some (w.heap.size+1):=fun e=>by have:=(gU.out.lt _ e).1;omega
    have HP:=Own.sl (((((((gU.out.far (p:=⟨wr.heap.size,3,none⟩) AB (.slice A1 al[k].1.via.length lQ)).far (p:=⟨w.heap.size+1,0,none⟩) mg (.int .i64 al[k].1.id)).far (p:=⟨w.heap.size+1,1,none⟩) mg (.int .i64 al[k].1.fr)).far (p:=⟨w.heap.size+1,2,none⟩) mg (.int .i64 al[k].1.dst)).far (p:=⟨w.heap.size+1,3,none⟩) mg (.slice A1 al[k].1.via.length lQ)).far (p:=⟨w.heap.size+1,4,none⟩) mg (.int .i64 al[k].1.left)).far (p:=⟨w.heap.size+1,5,none⟩) mg (.int .i64 al[k].1.right));refine qG (g:=w.heap.size+1) (cs:=#[.int .i64 al[k].1.id,.int .i64 al[k].1.fr,.int .i64 al[k].1.dst,.slice A1 al[k].1.via.length lQ,.int .i64 al[k].1.left,.int .i64 al[k].1.right]) rfl xO rfl rfl (ah.xM (X4.far (p:=⟨wr.heap.size,3,none⟩) hw7 _)) ⟨.slice A1 al[k].1.via.length lQ,by rw [Hf.out];rfl,?_,by rw [Hf.out];exact HP⟩;exact eF
  ·have hf:=Uz al id (fun j hj=>Hno.out j hj Pe);have Hf:=avE hf;clear hf;go_wp2;have Bw:=Hb.out;refine qG (g:=w.heap.size+1) (cs:=#[.int .i64 0,.int .i64 0,.int .i64 0,.slice none 0 0,.int .i64 0,.int .i64 0]) rfl xO rfl rfl (ah.xM X4) ⟨.slice none 0 0,by rw [Hf.out];rfl,?_,by rw [Hf.out];exact Sl.nil _⟩;exact eF
theorem al3 (v:Value) (p:Pl) (id:Int) (w:World) (h:bQ w v p) (hsh:Jh p) :
  Calls Tryz.prog 99 #[v,.int .i64 id] w (Nj w (findAr p.aj id)):=by
 obtain ⟨vn,_,vf,al,rfl,hpa,-,⟨⟨An,cn,rfl,hn1,hn2,hR⟩,hV⟩,-⟩:=h;unfold maxLen at hn2;unfold Jh at hsh;rw [hpa] at hsh ⊢;clear hpa;have hsh':∀ k (hk:k<al.length),al[k].1.via.length<=8796093022208:=fun k hk=>hsh _ (awd (avF hk));have HV:=avE hV;clear hV hsh;have iL:=avE hsh';clear hsh';go_enter Tryz.func99,Tryz.ntmps99;go_wp2_with fail;go_loopw [6] (fun i wr=>∃ k:Nat,k<=al.length/\i=.int .i64 k/\Below w.heap.size w wr/\ah wr w.heap.size 26 #[vn,.slice An al.length cn,vf]/\ah wr (w.heap.size+1) 50 #[.int .i64 0,.int .i64 0,.int .i64 0,.slice none 0 0,.int .i64 0,.int .i64 0]/\∀ j (hj:j<al.length),j<k->(al[j].1.id == id)=false) (fun i _=>al.length-(intOf i).toNat)
 case atStart => exact ⟨0,avK _,rfl,bA (bA (bR w) _) _,(ah.made rfl _ _).alloc _,ah.made ars _ _,fun j _ h=>by omega⟩
 case round =>
  obtain ⟨k,hk,rfl,hb,X2,X4,hno⟩:=hrel;have Hb:=avE hb;have Hno:=avE hno;clear hb hno;obtain ⟨aG,aI,aJ,aO,-,-,-⟩:=X2.aF;obtain ⟨aV,aX,bn,fA,mQ,mV,mW,dV,gy,iF,sJ,sO,sQ⟩:=X4.gX;by_cases hlt:k<al.length
  ·obtain ⟨b,o,rfl,hlb,c0,c1,c2,c3,c4,c5⟩:=(hR.mono Hb.out).ar hlt;have HR:=avE hR;clear hR;have hvk:=(HV.out k hlt);obtain ⟨Av,cv,hv,-⟩:=hvk;have hvk:=(HV.out k hlt);rw [hv] at c3 hvk;have vN:=avE hvk;clear hvk hv
   cases he:(al[k].1.id == id)
   ·go_wp2;go_roundw
    case rel => exact ⟨k+1,by omega,by go_num,Hb.out,X2,X4,all_succ (p:=fun x=>(x.1.id == id)=false) Hno.out hlt he⟩
    case measure => simp [intOf];omega
   ·have hf:=Uy al id k hlt Hno.out he;have Hf:=avE hf;clear hf;have hsv:=iL.out k hlt;go_wp2_with
     (at_builtin
      refine ae3 _ rfl (.tmp 28) (.tmp 30) _ rfl (base:=wr.heap.size+1) ng jS ni rfl (Own.lit _ _ _ _ dU [] _ 0 _ ars rfl ars (dP Pe) rfl rfl) rfl (vN.out.mono (bA (bA Hb.out _) _)) at6 at6 ars ?_;intro v1 w1 hown hg hat;have hb1:Below (wr.alloc (.cells #[.int .i64 al[k].1.id,.int .i64 al[k].1.fr,.int .i64 al[k].1.dst,.slice Av al[k].1.via.length cv,.int .i64 al[k].1.left,.int .i64 al[k].1.right] 50)).heap.size (wr.alloc (.cells #[.int .i64 al[k].1.id,.int .i64 al[k].1.fr,.int .i64 al[k].1.dst,.slice Av al[k].1.via.length cv,.int .i64 al[k].1.left,.int .i64 al[k].1.right] 50)) w1:=bG (bA (bR _) _) hg (fun g hk=>by have:wr.heap.size+1=g:=avP hk;simp;omega);simp only [List.nil_append] at hown;obtain ⟨A1,lQ,rfl,-⟩:=Own.sl hown;have gU:=avE hown;have Bw:Below w.heap.size w w1:=bT (bA Hb.out _) hb1;have X7:ah w1 wr.heap.size 50 #[.int .i64 al[k].1.id,.int .i64 al[k].1.fr,.int .i64 al[k].1.dst,.slice Av al[k].1.via.length cv,.int .i64 al[k].1.left,.int .i64 al[k].1.right]:=(ah.made rfl _ _).keep hb1;have hw8:w.heap.size+1<wr.heap.size:=by omega
      have hw7:w.heap.size+1≠wr.heap.size:=by omega
      replace X4:=(X4.alloc _).keep hb1;clear hb1 c0 c1 c2 c3 c4 c5 hlb hown hg hat
      try clear aV
      try clear aX
      try clear bn
      try clear fA
      try clear mQ
      try clear mV
      try clear mW
      try clear dV
      try clear gy
      try clear iF
      try clear sJ
      try clear sO
      try clear sQ
      obtain ⟨aV,aX,bn,fA,mQ,mV,mW,dV,gy,iF,sJ,sO,sQ⟩:=X4.gX;obtain ⟨dY,dZ,gI,oM,Ig,Ih,Ii,qY,xQ,Ij,Zc,Zd,Ze⟩:=X7.gX
      )
    have Nk:=Hb.out.size;have AB:(Value.slice A1 al[k].1.via.length lQ).ownBlock≠some wr.heap.size:=fun e=>by have:=(gU.out.lt _ e).1;omega
    have mg:(Value.slice A1 al[k].1.via.length lQ).ownBlock≠some (w.heap.size+1):=fun e=>by have:=(gU.out.lt _ e).1;omega
    have HP:=Own.sl (((((((gU.out.far (p:=⟨wr.heap.size,3,none⟩) AB (.slice A1 al[k].1.via.length lQ)).far (p:=⟨w.heap.size+1,0,none⟩) mg (.int .i64 al[k].1.id)).far (p:=⟨w.heap.size+1,1,none⟩) mg (.int .i64 al[k].1.fr)).far (p:=⟨w.heap.size+1,2,none⟩) mg (.int .i64 al[k].1.dst)).far (p:=⟨w.heap.size+1,3,none⟩) mg (.slice A1 al[k].1.via.length lQ)).far (p:=⟨w.heap.size+1,4,none⟩) mg (.int .i64 al[k].1.left)).far (p:=⟨w.heap.size+1,5,none⟩) mg (.int .i64 al[k].1.right));refine qG (g:=w.heap.size+1) (cs:=#[.int .i64 al[k].1.id,.int .i64 al[k].1.fr,.int .i64 al[k].1.dst,.slice A1 al[k].1.via.length lQ,.int .i64 al[k].1.left,.int .i64 al[k].1.right]) rfl xO rfl rfl (ah.xM (X4.far (p:=⟨wr.heap.size,3,none⟩) hw7 _)) ⟨.slice A1 al[k].1.via.length lQ,by rw [Hf.out];rfl,?_,by rw [Hf.out];exact HP⟩;exact eF
  ·have hf:=Uz al id (fun j hj=>Hno.out j hj Pe);have Hf:=avE hf;clear hf;go_wp2;have Bw:=Hb.out;refine qG (g:=w.heap.size+1) (cs:=#[.int .i64 0,.int .i64 0,.int .i64 0,.slice none 0 0,.int .i64 0,.int .i64 0]) rfl xO rfl rfl (ah.xM X4) ⟨.slice none 0 0,by rw [Hf.out];rfl,?_,by rw [Hf.out];exact Sl.nil _⟩;exact eF
def Ei (lt:Int->Int->Bool) (l:List Int) (c:Int):List Int:=l.takeWhile (fun x=>!lt c x)++c::l.dropWhile (fun x=>!lt c x)
def sortB (lt:Int->Int->Bool) (l:List Int):List Int:=l.foldl (Ei lt) []
theorem aai (lt:Int->Int->Bool) (l:List Int) (c:Int):(Ei lt l c).Perm (c::l):=by
 unfold Ei;refine List.perm_middle.trans ?_;rw [List.takeWhile_append_dropWhile]
structure FN (lt:Int->Int->Bool) (D:List Int):Prop where
 asym:∀ x∈D,∀ y∈D,lt x y=true->lt y x=false
 ntr:∀ x∈D,∀ y∈D,∀ z∈D,lt x y=false->lt y z=false->lt x z=false
 tri:∀ x∈D,∀ y∈D,lt x y=false->lt y x=false->x=y
theorem al4 {lt:Int->Int->Bool} {D:List Int} (ho:FN lt D) {l:List Int} (h:l.Pairwise (fun a b=>lt b a=false)) (hl:∀ x∈l,x∈D) {c:Int} (hc:c∈D):(Ei lt l c).Pairwise (fun a b=>lt b a=false):=by
 induction l with
 | nil=>simp [Ei]
 | cons a l ih =>
  have h':=List.pairwise_cons.1 h;have ha:=hl a av3;unfold Ei
  cases hca:lt c a
  ·have e1:(a::l).takeWhile (fun x=>!lt c x)=a::l.takeWhile (fun x=>!lt c x):=by rw [List.takeWhile_cons];simp [hca]
   have e2:(a::l).dropWhile (fun x=>!lt c x)=l.dropWhile (fun x=>!lt c x):=by rw [List.dropWhile_cons];simp [hca]
   rw [e1,e2]
   show List.Pairwise _ (a::Ei lt l c)
   refine List.pairwise_cons.2 ⟨fun x hx=>?_,ih h'.2 (fun x hx=>hl x (List.mem_cons_of_mem _ hx))⟩;rcases av2.1 ((aai lt l c).subset hx) with rfl | hx
   · exact hca
   · exact h'.1 x hx
  ·have e1:(a::l).takeWhile (fun x=>!lt c x)=[]:=by rw [List.takeWhile_cons];simp [hca]
   have e2:(a::l).dropWhile (fun x=>!lt c x)=a::l:=by rw [List.dropWhile_cons];simp [hca]
   rw [e1,e2,List.nil_append];refine List.pairwise_cons.2 ⟨fun x hx=>?_,h⟩;have h1:=ho.asym c hc a ha hca;rcases av2.1 hx with rfl | hx'
   · exact h1
   · exact ho.ntr x (hl x hx) a ha c hc (h'.1 x hx') h1
theorem ae4 {lt:Int->Int->Bool} {D:List Int} (ho:FN lt D):∀ (l acc:List Int),acc.Pairwise (fun a b=>lt b a=false)->(∀ x∈l,x∈D)->(∀ x∈acc,x∈D)->(l.foldl (Ei lt) acc).Perm (acc++l)/\(l.foldl (Ei lt) acc).Pairwise (fun a b=>lt b a=false)
 | [],acc,h,_,_=>by simpa using h
 | c::l,acc,h,hl,ha=>by
  have hc:=hl c av3;have:=ae4 ho l (Ei lt acc c) (al4 ho h ha hc) (fun x hx=>hl x (List.mem_cons_of_mem _ hx)) (fun x hx=>by
   rcases av2.1 ((aai lt acc c).subset hx) with rfl | hx
   · exact hc
   · exact ha x hx)
  refine ⟨this.1.trans ?_,this.2⟩;refine ((aai lt acc c).append_right l).trans ?_;rw [List.cons_append];exact List.perm_middle.symm
theorem KI {lt:Int->Int->Bool} {D:List Int} (ho:FN lt D):(sortB lt D).Perm D/\(sortB lt D).Pairwise (fun a b=>lt b a=false):=by
 have:=ae4 ho D [] List.Pairwise.nil (fun x hx=>hx) (fun x hx=>by cases hx)
 simpa [sortB] using this
theorem al5 {lt:Int->Int->Bool} {D m:List Int} (ho:FN lt D) (hp:m.Perm D) (hs:m.Pairwise (fun a b=>lt b a=false)):m=sortB lt D:=by
 obtain ⟨h1,h2⟩:=KI ho;exact Qp (hp.trans h1.symm) hs h2 (fun a ha b hb=>ho.tri a (hp.subset ha) b (hp.subset hb))
def ltD (p:Pl) (o:Pt) (d e:Int):Bool:=xX o (fC p d) (fC p e)
def dJ (p:Pl) (n:Int):List Int:=match mP p.nodes n with
 | none=>[]
 | some x=>sortB (ltD p x.pt) (eG p.aj n)
def precD (l:List Int) (d:Int):Int:=match l.findIdx? (fun x=>x == d) with
 | none=>0
 | some i=>l.getD ((i+l.length-1) % l.length) 0
def iH (p:Pl) (d:Int):Int:=if (iK p d).isSome then precD (dJ p (lT p (-d))) (-d) else 0
def cO (p:Pl):List (List Int):=Va (iH p) (bf p) (bf p)
section
variable {p:Pl} (h:Valid p)
include h
theorem Valid.Qu {n:Nd} (hn:n∈p.nodes):FN (ltD p n.pt) (eG p.aj n.id):=by
 have key:∀ d∈eG p.aj n.id,∀ e∈eG p.aj n.id,(ltD p n.pt d e=true↔gG n.pt (fC p d) (fC p e)):=fun d hd e he=>by
  obtain ⟨n0,n1,x1⟩:=h.KH hn hd;obtain ⟨-,n2,x2⟩:=h.KH hn he;unfold ltD;rw [ZC];exact ⟨fun h=>h.2.2.2,fun h=>⟨by simp [eu,n0,n1,n2],x1,x2,h⟩⟩
 have NY:∀ d∈eG p.aj n.id,∀ e∈eG p.aj n.id,(ltD p n.pt d e=false↔¬ gG n.pt (fC p d) (fC p e)):=fun d hd e he=>by
  rw [<- key d hd e he,Bool.not_eq_true]
 have nz:∀ d∈eG p.aj n.id,¬ ((fC p d).x-n.pt.x=0/\(fC p d).y-n.pt.y=0):=fun d hd=>PZ.1 (h.KH hn hd).2.2;refine ⟨fun x hx y hy h1=>?_,fun x hx y hy z hz h1 h2=>?_,fun x hx y hy h1 h2=>?_⟩
 ·rw [NY y hy x hx];rw [key x hx y hy] at h1;exact fun h2=>akh _ _ (akj (nz x hx) (nz y hy) (nz x hx) h1 h2)
 ·rw [NY x hx y hy] at h1;rw [NY y hy z hz] at h2;rw [NY x hx z hz];exact akk (nz x hx) (nz y hy) (nz z hz) h1 h2
 ·rw [NY x hx y hy] at h1;rw [NY y hy x hx] at h2;rcases Decidable.em (x=y) with e | e
  · exact e
  ·rcases h.dirs hn hx hy e with h3 | h3
   · exact absurd h3 h1
   · exact absurd h3 h2
theorem Valid.al6 {n:Nd} (hn:n∈p.nodes):mP p.nodes n.id=some n:=U1 (fun x:Nd=>x.id) p.nodes h.sound.nodes n hn
theorem Valid.Vf {n:Nd} (hn:n∈p.nodes):dJ p n.id=sortB (ltD p n.pt) (eG p.aj n.id):=by
 unfold dJ;rw [h.al6 hn]
theorem Valid.pK {n:Nd} (hn:n∈p.nodes):(dJ p n.id).Perm (eG p.aj n.id):=by
 rw [h.Vf hn];exact (KI (h.Qu hn)).1
theorem Valid.aaj {n:Int}:(eG p.aj n).Nodup:=by
 have hs:=h.sound.aj;rw [List.pairwise_map] at hs;have hpos:∀ a∈p.aj,1<=a.id:=fun a ha=>(h.kC ha).1;unfold eG List.Nodup;rw [List.pairwise_flatMap];refine ⟨fun a ha=>?_,?_⟩
 ·have:=hpos a ha
  split<;>split<;>simp<;>omega
 ·have hs2:p.aj.Pairwise (fun a b=>1<=a.id/\1<=b.id/\a.id<b.id):=by
   rw [avJ] at hs ⊢;exact fun i j hi hj hij=>⟨hpos _ (avF hi),hpos _ (avF hj),hs i j hi hj hij⟩
  refine hs2.imp ?_;rintro a b ⟨h1,h2,h3⟩ x hx y hy;have hx':x=a.id\/x=-a.id:=by
   rcases av1.1 hx with hx | hx
   ·split at hx
    · exact .inl (avY.1 hx)
    · cases hx
   ·split at hx
    · exact .inr (avY.1 hx)
    · cases hx
  have hy':y=b.id\/y=-b.id:=by
   rcases av1.1 hy with hy | hy
   ·split at hy
    · exact .inl (avY.1 hy)
    · cases hy
   ·split at hy
    · exact .inr (avY.1 hy)
    · cases hy
  omega
theorem Valid.Vg:(bf p).Pairwise (· < ·):=by
 have hs:=h.sound.aj;have hpos:∀ a∈p.aj,1<=a.id:=fun a ha=>(h.kC ha).1;unfold bf;rw [List.pairwise_append];refine ⟨?_,hs,fun x hx y hy=>?_⟩
 ·rw [List.pairwise_reverse,List.pairwise_map];rw [List.pairwise_map] at hs;exact hs.imp (fun h=>by omega)
 ·rw [List.mem_reverse,av6] at hx;obtain ⟨a,ha,rfl⟩:=hx;obtain ⟨b,hb,rfl⟩:=av6.1 hy;have:=hpos a ha;have:=hpos b hb
  omega
end
theorem al7 {l:List Int} (hl:l.Nodup) {i:Nat} (hi:i<l.length):l.findIdx? (fun x=>x == l[i])=some i:=by
 rw [List.findIdx?_eq_some_iff_getElem];refine ⟨hi,by simp,fun j hj=>?_⟩;rw [List.Nodup,avJ] at hl;have:=hl j i Pe hi hj
 simpa using this
theorem KJ {l:List Int} (hl:l.Nodup) {i:Nat} (hi:i<l.length):precD l l[i]=l[(i+l.length-1) % l.length]'(Nat.mod_lt _ Pe):=by
 unfold precD;rw [al7 hl hi];simp only [];rw [avT,avG (Nat.mod_lt _ Pe)];rfl
theorem al8 {l:List Int} (hl:l.Nodup) {d:Int} (hd:d∈l):precD l d∈l:=by
 obtain ⟨i,hi,rfl⟩:=avI.1 hd;rw [KJ hl hi];exact avF _
theorem al9 {i j n:Nat} (hi:i<n) (hj:j<n) (h:(i+n-1) % n=(j+n-1) % n):i=j:=by
 have key:∀ k,k<n->(k+n-1) % n=if k=0 then n-1 else k-1:=fun k hk=>by
  split
  · subst k;rw [Nat.mod_eq_of_lt Pe];omega
  · rw [show k+n-1=(k-1)+n by omega,Nat.add_mod_right,Nat.mod_eq_of_lt Pe]
 rw [key i hi,key j hj] at h;split at h<;>split at h<;>omega
theorem ama {l:List Int} (hl:l.Nodup) {d e:Int} (hd:d∈l) (he:e∈l) (h:precD l d=precD l e):d=e:=by
 obtain ⟨i,hi,rfl⟩:=avI.1 hd;obtain ⟨j,hj,rfl⟩:=avI.1 he;rw [KJ hl hi,KJ hl hj] at h;have hl':=hl;rw [List.Nodup,avJ] at hl';have e:(i+l.length-1) % l.length=(j+l.length-1) % l.length:=by
  rcases Nat.lt_trichotomy ((i+l.length-1) % l.length) ((j+l.length-1) % l.length) with h1 | h1 | h1
  · exact absurd h (hl' _ _ _ _ h1)
  · exact h1
  · exact absurd h.symm (hl' _ _ _ _ h1)
 have:=al9 hi hj e
 subst this;rfl
theorem Dn {p:Pl} {d:Int} (hd:d∈bf p):-d∈bf p:=by
 obtain ⟨a,ha,e⟩:=kZ.1 hd;refine kZ.2 ⟨a,ha,?_⟩;rcases e with rfl | rfl
 · exact .inr rfl
 · exact .inl (Int.neg_neg _)
section
variable {p:Pl} (h:Valid p)
include h
theorem Valid.ae5 {d:Int} (hd:d∈bf p):(iK p d).isSome=true:=by
 obtain ⟨a,ha,e⟩:=kZ.1 hd;rcases e with rfl | rfl
 · rw [h.NW ha];rfl
 · rw [h.Qr ha];rfl
theorem Valid.aak {d:Int} (hd:d∈bf p):∃ n∈p.nodes,n.id=lT p d/\d∈eG p.aj n.id:=by
 obtain ⟨a,ha,e⟩:=kZ.1 hd;rcases e with rfl | rfl
 ·obtain ⟨n,hn,e,-⟩:=h.sound.Ef ha;exact ⟨n,hn,by rw [h.Vb ha,e],wJ.2 ⟨a,ha,.inl ⟨rfl,e.symm⟩⟩⟩
 ·obtain ⟨n,hn,e,-⟩:=h.sound.FI ha;exact ⟨n,hn,by rw [h.Qs ha,e],wJ.2 ⟨a,ha,.inr ⟨rfl,e.symm⟩⟩⟩
theorem Valid.KL {n d:Int} (hd:d∈eG p.aj n):d∈bf p/\lT p d=n:=by
 obtain ⟨a,ha,e⟩:=wJ.1 hd;rcases e with ⟨rfl,e⟩ | ⟨rfl,e⟩
 · exact ⟨kZ.2 ⟨a,ha,.inl rfl⟩,by rw [h.Vb ha,e]⟩
 · exact ⟨kZ.2 ⟨a,ha,.inr rfl⟩,by rw [h.Qs ha,e]⟩
theorem Valid.Ji {n:Nd} (hn:n∈p.nodes):(dJ p n.id).Nodup:=(h.pK hn).nodup_iff.2 h.aaj
theorem Valid.NZ {d:Int} (hd:d∈bf p):∃ n∈p.nodes,n.id=lT p (-d)/\-d∈dJ p n.id/\iH p d=precD (dJ p n.id) (-d):=by
 obtain ⟨n,hn,e,hm⟩:=h.aak (Dn hd);refine ⟨n,hn,e,(h.pK hn).symm.subset hm,?_⟩;unfold iH;rw [if_pos (h.ae5 hd),e]
theorem Valid.uK {d:Int} (hd:d∈bf p):iH p d∈bf p/\lT p (iH p d)=lT p (-d):=by
 obtain ⟨n,hn,e,hm,hx⟩:=h.NZ hd;rw [hx];have h1:=al8 (h.Ji hn) hm;have h2:=h.KL ((h.pK hn).subset h1);exact ⟨h2.1,by rw [h2.2,e]⟩
theorem Valid.Ej {d e:Int} (hd:d∈bf p) (he:e∈bf p) (hx:iH p d=iH p e):d=e:=by
 obtain ⟨n,hn,e1,m1,x1⟩:=h.NZ hd;obtain ⟨m,hm,e2,m2,x2⟩:=h.NZ he;have hs:=(h.uK hd).2;rw [hx,(h.uK he).2,<- e2,<- e1] at hs;rw [x1,x2,hs] at hx;rw [hs] at m2;have:=ama (h.Ji hn) m1 m2 hx
 omega
theorem Valid.Qv:(bf p).Nodup:=h.Vg.imp (fun h=>by omega)
theorem Valid.lH:rH (iH p) (bf p) (bf p) (cO p) :=
 alT (fun x hx=>(h.uK hx).1) (fun x hx y hy=>h.Ej hx hy) h.Vg
theorem Valid.ae6:(cO p).flatten.Perm (bf p):=h.lH.perm (fun x hx=>(h.uK hx).1) h.Qv
theorem Valid.Vh:(p.nodes.flatMap fun n=>dJ p n.id).Perm (bf p):=by
 refine (List.perm_ext_iff_of_nodup ?_ h.Qv).2 fun d=>?_
 ·unfold List.Nodup;rw [List.pairwise_flatMap];refine ⟨fun n hn=>h.Ji hn,?_⟩;have hs:=h.sound.nodes;rw [List.pairwise_map] at hs;rw [avJ] at hs ⊢;intro i j hi hj hij x hx y hy e;subst e;have h1:=(h.KL ((h.pK (avF hi)).subset hx)).2;have h2:=(h.KL ((h.pK (avF hj)).subset hy)).2;have:=hs i j hi hj hij
  omega
 ·rw [List.mem_flatMap];constructor
  ·rintro ⟨n,hn,hd⟩;exact (h.KL ((h.pK hn).subset hd)).1
  ·intro hd;obtain ⟨n,hn,-,hm⟩:=h.aak hd;exact ⟨n,hn,(h.pK hn).symm.subset hm⟩
end
theorem Nj.form {w:World} {r:Option Ar} {e:Ending} {w':World} (h:Nj w r e w'):∃ A c,e=.returned (.tuple #[.agg #[.int .i64 (r.getD jU).id,.int .i64 (r.getD jU).fr,.int .i64 (r.getD jU).dst,.slice A (r.getD jU).via.length c,.int .i64 (r.getD jU).left,.int .i64 (r.getD jU).right],.bool r.isSome])/\Below w.heap.size w w'/\dM w' (.slice A (r.getD jU).via.length c) (r.getD jU).via:=by
 obtain ⟨v',rfl,hb,hp⟩:=h;obtain ⟨A,c,rfl,h1,h2,h3⟩:=hp;exact ⟨A,c,rfl,hb,A,c,rfl,h1,h2,h3⟩
theorem Qw {n:Int} (h:eU n):-9223372036854775808<=n/\n<=9223372036854775807:=by
 unfold eU Lit.wf at h;simp only [avR,avQ] at h;have h1:IntKind.i64.min=-9223372036854775808:=by decide
 have h2:IntKind.i64.max=9223372036854775807:=by decide
 rw [h1,h2] at h;exact h
theorem amb {p:Pl} {d:Int} (h0:d≠0) (h1:d≠-9223372036854775808):findAr p.aj (max d (-d))=iK p d:=by
 unfold iK KF iJ;rw [if_neg Pe];congr 1;split<;>omega
def amc (w:World) (r:Option Ar) (e:Ending) (w':World):Prop :=
 ∃ A n c,e=.returned (.tuple #[.agg #[.int .i64 (r.getD jU).id,.int .i64 (r.getD jU).fr,.int .i64 (r.getD jU).dst,.slice A n c,.int .i64 (r.getD jU).left,.int .i64 (r.getD jU).right],.bool r.isSome])/\Below w.heap.size w w'
theorem ae7 (v:Value) (p:Pl) (d:Int) (w:World) (h:bQ w v p) (hs:Jh p) (hd:eU d):Calls Tryz.prog 90 #[v,.int .i64 d] w (amc w (iK p d)):=by
 have TA:=fun W (hW:Below w.heap.size w W)=>al2 v p (max d (-d)) W (h.mono hW) hs;obtain ⟨_,_,_,al,rfl,hpa,⟨An,cn,rfl,-⟩,⟨⟨Aa,ca,rfl,-⟩,-⟩,⟨Af,cf,rfl,-⟩⟩:=h;generalize al.length=na at *;generalize p.nodes.length=nn at *;generalize p.faces.length=nf at *;clear hpa;by_cases h0:d=0
 ·subst h0;have hz:iK p 0=none:=by unfold iK;rw [if_pos (.inl rfl)]
  rw [hz];clear TA hz;go_enter Tryz.func90,Tryz.ntmps90;go_upto_region 1 with fail;obtain ⟨W,hW⟩:∃ W:World,W=(w.alloc (.cells #[.slice An nn cn,.slice Aa na ca,.slice Af nf cf] 26)).alloc (.cells #[.int .i64 0,.int .i64 0,.int .i64 0,.slice none 0 0,.int .i64 0,.int .i64 0] 50):=⟨_,rfl⟩;have Bw:Below w.heap.size w W:=by rw [hW];exact bA (bA (bR w) _) _
  have X4:ah W (w.heap.size+1) 50 #[.int .i64 0,.int .i64 0,.int .i64 0,.slice none 0 0,.int .i64 0,.int .i64 0]:=by rw [hW];exact ah.made ars _ _
  rw [<- hW];clear hW;obtain ⟨aV,aX,bn,fA,mQ,mV,mW,dV,gy,iF,sJ,sO,sQ⟩:=X4.gX;go_wp2_with fail;refine qG (g:=w.heap.size+1) (cs:=#[.int .i64 0,.int .i64 0,.int .i64 0,.slice none 0 0,.int .i64 0,.int .i64 0]) rfl xO rfl rfl (ah.xM X4) ⟨none,0,0,rfl,?_⟩;exact eF
 by_cases h1:d=-9223372036854775808
 ·subst h1;have hz:iK p (-9223372036854775808)=none:=by unfold iK;rw [if_pos (.inr rfl)]
  rw [hz];clear TA hz h0;go_enter Tryz.func90,Tryz.ntmps90;go_upto_region 1 with fail;obtain ⟨W,hW⟩:∃ W:World,W=(w.alloc (.cells #[.slice An nn cn,.slice Aa na ca,.slice Af nf cf] 26)).alloc (.cells #[.int .i64 0,.int .i64 0,.int .i64 0,.slice none 0 0,.int .i64 0,.int .i64 0] 50):=⟨_,rfl⟩;have Bw:Below w.heap.size w W:=by rw [hW];exact bA (bA (bR w) _) _
  have X4:ah W (w.heap.size+1) 50 #[.int .i64 0,.int .i64 0,.int .i64 0,.slice none 0 0,.int .i64 0,.int .i64 0]:=by rw [hW];exact ah.made ars _ _
  rw [<- hW];clear hW
  try clear aV
  try clear aX
  try clear bn
  try clear fA
  try clear mQ
  try clear mV
  try clear mW
  try clear dV
  try clear gy
  try clear iF
  try clear sJ
  try clear sO
  try clear sQ
  obtain ⟨aV,aX,bn,fA,mQ,mV,mW,dV,gy,iF,sJ,sO,sQ⟩:=X4.gX;go_wp2_with fail;refine qG (g:=w.heap.size+1) (cs:=#[.int .i64 0,.int .i64 0,.int .i64 0,.slice none 0 0,.int .i64 0,.int .i64 0]) rfl xO rfl rfl (ah.xM X4) ⟨none,0,0,rfl,?_⟩;exact eF
 rw [amb h0 h1] at TA;have hb:=Qw hd;have k1:IntKind.i64.wrap (-d)=-d:=avS _ Pe;have e0:(d == 0)=false:=by simpa using h0
 have e1:(d == -9223372036854775808)=false:=by simpa using h1
 have HA:=avE TA;clear TA h0 h1 hd hb;generalize iK p d=r at *;go_enter Tryz.func90,Tryz.ntmps90;go_upto_region 1 with fail;obtain ⟨W,hW⟩:∃ W:World,W=(w.alloc (.cells #[.slice An nn cn,.slice Aa na ca,.slice Af nf cf] 26)).alloc (.cells #[.int .i64 0,.int .i64 0,.int .i64 0,.slice none 0 0,.int .i64 0,.int .i64 0] 50):=⟨_,rfl⟩;have Bw:Below w.heap.size w W:=by rw [hW];exact bA (bA (bR w) _) _
 have X4:ah W (w.heap.size+1) 50 #[.int .i64 0,.int .i64 0,.int .i64 0,.slice none 0 0,.int .i64 0,.int .i64 0]:=by rw [hW];exact ah.made ars _ _
 have X2:ah W w.heap.size 26 #[.slice An nn cn,.slice Aa na ca,.slice Af nf cf]:=by rw [hW];exact (ah.made rfl _ _).alloc _
 rw [<- hW];clear hW;obtain ⟨aG,aI,aJ,aO,-,-,-⟩:=X2.aF;go_wp2_with fail;refine (HA.out _ Bw).mono ?_;intro e w1 har;obtain ⟨A1,c1,rfl,hb1,-⟩:=har.form;have Bw:=bT Bw hb1;replace X4:=X4.keep hb1;clear har hb1 X2 aG aI aJ aO
 try clear aV
 try clear aX
 try clear bn
 try clear fA
 try clear mQ
 try clear mV
 try clear mW
 try clear dV
 try clear gy
 try clear iF
 try clear sJ
 try clear sO
 try clear sQ
 obtain ⟨aV,aX,bn,fA,mQ,mV,mW,dV,gy,iF,sJ,sO,sQ⟩:=X4.gX;generalize hvl:(r.getD jU).via.length=vl at *;go_wp2_with fail;refine qG (g:=w.heap.size+1) (cs:=#[.int .i64 (r.getD jU).id,.int .i64 (r.getD jU).fr,.int .i64 (r.getD jU).dst,.slice A1 vl c1,.int .i64 (r.getD jU).left,.int .i64 (r.getD jU).right]) rfl xO rfl rfl (ah.xM X4) ⟨A1,vl,c1,rfl,?_⟩;exact eF
theorem amd (v:Value) (p:Pl) (d:Int) (w:World) (h:bQ w v p) (hs:Jh p) (hd:eU d):Calls Tryz.prog 33 #[v,.int .i64 d] w fun e w'=>e=.returned (.int .i64 (iw p d))/\Below w.heap.size w w':=by
 have HA:=avE (fun W (hW:Below w.heap.size w W)=>ae7 v p d W (h.mono hW) hs hd);obtain ⟨_,_,_,al,rfl,hpa,⟨An,cn,rfl,-⟩,⟨⟨Aa,ca,rfl,-⟩,-⟩,⟨Af,cf,rfl,-⟩⟩:=h;unfold iw;generalize iK p d=r at *;generalize al.length=na at *;generalize p.nodes.length=nn at *;generalize p.faces.length=nf at *;clear hpa hd hs;go_enter Tryz.func33,Tryz.ntmps33;go_wp2_with fail;refine (HA.out _ (bA (bR w) _)).mono ?_;rintro e w1 ⟨A1,n1,c1,rfl,hb1⟩;have B1:=avE (bT (bA (bR w) _) hb1);clear hb1 HA
 cases r with
 | none =>
  simp only [Option.isSome_none];go_wp2;go_ret;exact ⟨rfl,bA B1.out _⟩
 | some a =>
  simp only [Option.isSome_some,avU];by_cases hp:0<d
  ·go_wp2;go_ret;exact ⟨dL (by first | rfl | simp [hp]),bA B1.out _⟩
  ·go_wp2;go_ret;exact ⟨dL (by first | rfl | simp [hp]),bA B1.out _⟩
theorem ame (p:Pl) {d:Int} (h:0<d):lT p d=((findAr p.aj d).getD jU).fr/\iw p d=((findAr p.aj d).getD jU).left:=by
 have e:iK p d=findAr p.aj d:=by unfold iK KF iJ;rw [if_neg Pe,if_neg Pe]
 unfold lT iw;rw [e]
 cases findAr p.aj d
 · exact ⟨rfl,rfl⟩
 · exact ⟨if_pos h,if_pos h⟩
theorem amf (p:Pl) {d:Int} (h:d<0) (h1:d≠-9223372036854775808):lT p d=((findAr p.aj (-d)).getD jU).dst/\iw p d=((findAr p.aj (-d)).getD jU).right:=by
 have e:iK p d=findAr p.aj (-d):=by unfold iK KF iJ;rw [if_neg Pe,if_pos h]
 unfold lT iw;rw [e]
 cases findAr p.aj (-d)
 · exact ⟨rfl,rfl⟩
 · exact ⟨if_neg Pe,if_neg Pe⟩
theorem amg (p:Pl) {d:Int} (h:d=0\/d=-9223372036854775808):lT p d=0/\iw p d=0:=by
 have e:iK p d=none:=by unfold iK KF;rw [if_pos h]
 unfold lT iw;rw [e];exact ⟨rfl,rfl⟩
theorem ae8 (v:Value) (p:Pl) (d:Int) (w:World) (h:bQ w v p) (hs:Jh p) (hd:eU d):Calls Tryz.prog 83 #[v,.int .i64 d] w fun e w'=>e=.returned (.int .i64 (iw p d))/\Below w.heap.size w w':=by
 have HA:=avE (fun id W (hW:Below w.heap.size w W)=>al3 v p id W (h.mono hW) hs);obtain ⟨_,_,_,al,rfl,hpa,⟨An,cn,rfl,-⟩,⟨⟨Aa,ca,rfl,-⟩,-⟩,⟨Af,cf,rfl,-⟩⟩:=h;have hb:=Qw hd;generalize al.length=na at *;generalize p.nodes.length=nn at *;generalize p.faces.length=nf at *;clear hpa hd hs;by_cases h1:0<d
 ·rw [(ame p h1).2];have HB:=avE (HA.out d);clear HA hb;generalize findAr p.aj d=r at *;go_enter Tryz.func83,Tryz.ntmps83;go_wp2_with fail;refine (HB.out _ (bA (bR w) _)).mono ?_;intro e w1 har;obtain ⟨A1,c1,rfl,hb1,-⟩:=har.form;have B1:=avE (bT (bA (bR w) _) hb1);clear har hb1 HB;generalize (r.getD jU).via.length=vl at *;go_wp2;go_ret;exact ⟨rfl,bA B1.out _⟩
 by_cases h2:d=0\/d=-9223372036854775808
 ·rw [(amg p h2).2];clear HA hb;have k1:IntKind.i64.wrap 9223372036854775808=-9223372036854775808:=by decide
  rcases h2 with rfl | rfl
  all_goals
   go_enter Tryz.func83,Tryz.ntmps83;go_wp2;go_ret;exact ⟨rfl,bA (bR w) _⟩
 have k1:IntKind.i64.wrap (-d)=-d:=avS _ Pe;have k2:0 < -d:=by omega
 rw [(amf p Pe Pe).2];have HB:=avE (HA.out (-d));clear HA hb h2;generalize findAr p.aj (-d)=r at *;go_enter Tryz.func83,Tryz.ntmps83;go_wp2_with fail;refine (HB.out _ (bA (bR w) _)).mono ?_;intro e w1 har;obtain ⟨A1,c1,rfl,hb1,-⟩:=har.form;have B1:=avE (bT (bA (bR w) _) hb1);clear har hb1 HB;generalize (r.getD jU).via.length=vl at *;go_wp2;go_ret;exact ⟨rfl,bA B1.out _⟩
theorem FP {P:Program} {fn:Func} {p u v:Tmp} {ty t:TypeId} {R:Ending->World->Prop} {a:Act} {w:World} {g:Nat} {cs:Array Value} (h:fn.results=#[.cell p ty,.tmp u,.tmp v])
  (hS:StructOf P ty cs.size) (hp:a.tmps.getD p undef=.pointer (some ⟨g,0,none⟩)) (hd:a.defers=[]) (hb:ah w g t cs) (hR:R (.returned (.tuple #[.agg cs,a.tmps.getD u undef,a.tmps.getD v undef])) w):bodyPost P fn R .ret a w:=by
 obtain ⟨fs,h1,h3⟩:=hS;refine bodyPost_ret ?_ hd hR;have e1:=run_loadVar_row (P:=P) w g t ty cs (0,0) (.struct fs) hb h1 rfl h3;have hp':a.tmps[p]?.getD undef=.pointer (some ⟨g,0,none⟩):=by simpa using hp
 simp only [results,h];simp [hp',asAddr,Sem.run_bind,Sem.run_pure,Result.andThen,e1]
def N7 (p:Pl) (d:Int):Bool:=p.aj.any fun a=>decide (a.id=d) || decide (a.id=IntKind.i64.wrap (-d))
def amh (w:World) (b:Bool) (e:Ending) (w':World):Prop :=
 ∃ (A:Option Addr) (n c:Nat) (i0 i1 i2 i4 i5:Int) (back:Bool),e=.returned (.tuple #[.agg #[.int .i64 i0,.int .i64 i1,.int .i64 i2,.slice A n c,.int .i64 i4,.int .i64 i5],.bool back,.bool b])/\Below w.heap.size w w'
theorem ami (v:Value) (p:Pl) (d:Int) (w:World) (h:bQ w v p):Calls Tryz.prog 251 #[v,.int .i64 d] w (amh w (N7 p d)):=by
 obtain ⟨_,_,_,al,rfl,hpa,⟨An,cn,rfl,-⟩,⟨⟨Aa,ca,rfl,hn1,hn2,hR⟩,hV⟩,⟨Af,cf,rfl,-⟩⟩:=h;unfold maxLen at hn2;have HR:=avE hR;have HV:=avE hV;obtain ⟨r,hr⟩:∃ r,N7 p d=r:=⟨_,rfl⟩;rw [hr];unfold N7 at hr;rw [hpa] at hr;have Hr:=avE hr;generalize p.nodes.length=nn at *;generalize p.faces.length=nf at *;clear hpa hr hR hV;obtain ⟨nd,hnd⟩:∃ nd,IntKind.i64.wrap (-d)=nd:=⟨_,rfl⟩;rw [hnd] at Hr;go_enter Tryz.func251,Tryz.ntmps251;go_wp2_with fail;go_loopw [7] (fun u wr=>∃ k:Nat,k<=al.length/\u=.int .i64 k/\Below w.heap.size w wr/\ah wr w.heap.size 26 #[.slice An nn cn,.slice Aa al.length ca,.slice Af nf cf]/\ah wr (w.heap.size+1) 50 #[.int .i64 0,.int .i64 0,.int .i64 0,.slice none 0 0,.int .i64 0,.int .i64 0]/\∀ j (hj:j<al.length),j<k->(decide (al[j].1.id=d) || decide (al[j].1.id=nd))=false) (fun u _=>al.length-(intOf u).toNat)
 case atStart => exact ⟨0,avK _,rfl,bA (bA (bR w) _) _,(ah.made rfl _ _).alloc _,ah.made ars _ _,fun j _ h=>by omega⟩
 case round =>
  obtain ⟨k,hk,rfl,hb,X2,X4,hno⟩:=hrel;have Hb:=avE hb;have Hno:=avE hno;clear hb hno;obtain ⟨aG,aI,aJ,aO,-,-,-⟩:=X2.aF;obtain ⟨aV,aX,bn,fA,mQ,mV,mW,dV,gy,iF,sJ,sO,sQ⟩:=X4.gX;have Bw:=Hb.out;by_cases hlt:k<al.length
  case neg =>
   have hf:=y7 (al.map (·.1)) (fun a=>decide (a.id=d) || decide (a.id=nd)) (fun j hj=>by
    rw [avM] at hj;simp only [av4];exact Hno.out j hj Pe)
   have Hf:=avE (Hr.out.symm.trans hf);clear hf;go_wp2_with fail;refine FP (g:=w.heap.size+1) (cs:=#[.int .i64 0,.int .i64 0,.int .i64 0,.slice none 0 0,.int .i64 0,.int .i64 0]) rfl xO rfl rfl (ah.xM X4) ⟨none,0,0,0,0,0,0,0,false,by rw [Hf.out];rfl,?_⟩;exact eF
  obtain ⟨b,o,rfl,hlb,c0,c1,c2,c3,c4,c5⟩:=(HR.out.mono Hb.out).ar hlt;obtain ⟨Av,cv,hv,-⟩:=HV.out k hlt;rw [hv] at c3;clear hv;generalize hvl:al[k].1.via.length=vl at *;by_cases e1:al[k].1.id=d
  case pos =>
   have hf:=vO (al.map (·.1)) (fun a=>decide (a.id=d) || decide (a.id=nd)) k (by simpa using hlt) (by simp [e1]);have Hf:=avE (Hr.out.symm.trans hf);have e1':(al[k].1.id == d)=true:=by simpa using e1
   clear hf e1;go_wp2_with fail;refine FP (g:=w.heap.size+1) (cs:=#[.int .i64 al[k].1.id,.int .i64 al[k].1.fr,.int .i64 al[k].1.dst,.slice Av vl cv,.int .i64 al[k].1.left,.int .i64 al[k].1.right]) rfl xO rfl rfl (ah.xM X4) ⟨Av,vl,cv,_,_,_,_,_,_,by rw [Hf.out];rfl,?_⟩;exact eF
  case neg =>
  have e1':(al[k].1.id == d)=false:=by simpa using e1
  by_cases e2:al[k].1.id=nd
  case pos =>
   have hf:=vO (al.map (·.1)) (fun a=>decide (a.id=d) || decide (a.id=nd)) k (by simpa using hlt) (by simp [e2]);have Hf:=avE (Hr.out.symm.trans hf);have e2':(al[k].1.id == nd)=true:=by simpa using e2
   clear hf e1 e2;go_wp2_with fail;refine FP (g:=w.heap.size+1) (cs:=#[.int .i64 al[k].1.id,.int .i64 al[k].1.fr,.int .i64 al[k].1.dst,.slice Av vl cv,.int .i64 al[k].1.left,.int .i64 al[k].1.right]) rfl xO rfl rfl (ah.xM X4) ⟨Av,vl,cv,_,_,_,_,_,_,by rw [Hf.out];rfl,?_⟩;exact eF
  case neg =>
  have e2':(al[k].1.id == nd)=false:=by simpa using e2
  have HN:=avE (show (decide (al[k].1.id=d) || decide (al[k].1.id=nd))=false by simp [e1,e2]);clear e1 e2;go_wp2;go_roundw
  case rel => exact ⟨k+1,by omega,by go_num,Hb.out,X2,X4,all_succ (p:=fun x:Ar×Value=>(decide (x.1.id=d) || decide (x.1.id=nd))=false) Hno.out hlt HN.out⟩
  case measure => simp [intOf];omega
theorem amj (v:Value) (p:Pl) (d:Int) (w:World) (h:bQ w v p):Calls Tryz.prog 196 #[v,.int .i64 d] w fun e w'=>e=.returned (.bool (N7 p d && !decide (d=0)))/\Below w.heap.size w w':=by
 have HA:=avE (fun W (hW:Below w.heap.size w W)=>ami v p d W (h.mono hW));obtain ⟨_,_,_,al,rfl,hpa,⟨An,cn,rfl,-⟩,⟨⟨Aa,ca,rfl,-⟩,-⟩,⟨Af,cf,rfl,-⟩⟩:=h;generalize N7 p d=r at *;generalize al.length=na at *;generalize p.nodes.length=nn at *;generalize p.faces.length=nf at *;clear hpa;go_enter Tryz.func196,Tryz.ntmps196;go_wp2_with fail;refine (HA.out _ (bA (bR w) _)).mono ?_;rintro e w1 ⟨A1,n1,c1,i0,i1,i2,i4,i5,back,rfl,hb1⟩;have B1:=avE (bT (bA (bR w) _) hb1);clear hb1 HA
 cases r
 ·go_wp2;go_ret;exact ⟨rfl,bA B1.out _⟩
 ·by_cases h0:d=0
  ·subst h0;go_wp2;go_ret;exact ⟨rfl,bA B1.out _⟩
  ·have h0':(d != 0)=true:=by simpa using h0
   have H0:=avE h0;clear h0;go_wp2;go_ret;exact ⟨aY (by simp [H0.out]),bA B1.out _⟩
def rJ (a b:Pt):Int:=a.x*b.y-b.x*a.y
def lU (P:List Pt):Nat->Int
 | 0=>0
 | k+1=>lU P k+rJ (P.getD k aA) (P.getD (k+1) aA)
def uM (P:List Pt):Int:=lU P (P.length-1)
def BF (p:Pl) (d:Int):Int:=match iK p d with
 | none=>0
 | some a=>if 0<d then uM (au p a) else -uM (au p a)
def qo (p:Pl) (l:List Int):Nat->Int
 | 0=>0
 | k+1=>qo p l k+BF p (l.getD k 0)
def BG (p:Pl) (l:List Int):Int:=if l.length<=512/\(∀ d∈l,(iK p d).isSome=true) then qo p l l.length else 0
theorem amk (P:List Pt) (k:Nat) (hk:k+1<=P.length):lU P.reverse k=lU P (P.length-1-k)-lU P (P.length-1):=by
 induction k with
 | zero=>simp [lU]
 | succ k ih =>
  rw [lU,ih Pe];obtain ⟨m,hm⟩:∃ m,P.length=m+k+2:=⟨P.length-k-2,by omega⟩;have e1:P.reverse.getD k aA=P.getD (m+1) aA:=by
   rw [avT,List.getElem?_reverse Pe,avT];congr 2;omega
  have e2:P.reverse.getD (k+1) aA=P.getD m aA:=by
   rw [avT,List.getElem?_reverse Pe,avT];congr 2;omega
  rw [e1,e2,show P.length-1-k=m+1 by omega,show P.length-1-(k+1)=m by omega,lU];unfold rJ;omega
theorem aml (P:List Pt) (h:1<=P.length):uM P.reverse=-uM P:=by
 unfold uM;rw [List.length_reverse,amk P _ Pe];rw [show P.length-1-(P.length-1)=0 by omega];simp [lU]
def FQ (p:Pt):Prop:=(-1048576<=p.x/\p.x<=1048576)/\(-1048576<=p.y/\p.y<=1048576)
theorem N8 {u v:Int} (hu:-1048576<=u/\u<=1048576) (hv:-1048576<=v/\v<=1048576):-1099511627776<=u*v/\u*v<=1099511627776:=by
 have:=qH u v 1048576 hu.1 hu.2 hv.1 hv.2
 simpa using this
theorem amm {a b:Pt} (ha:FQ a) (hb:FQ b):-2199023255552<=rJ a b/\rJ a b<=2199023255552:=by
 have h1:=N8 ha.1 hb.2;have h2:=N8 hb.1 ha.2;unfold rJ;omega
theorem ae9 {P:List Pt} (h:∀ q∈P,FQ q) (k:Nat) (hk:k+1<=P.length\/k=0):-(2199023255552*(k:Int))<=lU P k/\lU P k<=2199023255552*(k:Int):=by
 induction k with
 | zero=>simp [lU]
 | succ k ih =>
  have ih:=ih Pe;have g:∀ j,j<P.length->FQ (P.getD j aA):=fun j hj=>by
   rw [avT,avG hj];exact h _ (avF hj)
  have:=amm (g k Pe) (g (k+1) Pe)
  rw [lU];omega
theorem amn {q:Pt} (h:iP q=true):FQ q:=by
 unfold iP at h;simp only [avR,avQ] at h;unfold FQ;omega
theorem Qx {p:Pl} {d:Int} {a:Ar} (e:iK p d=some a):a∈p.aj/\iJ d=a.id:=by
 unfold iK at e;split at e
 · cases e
 · exact ⟨List.mem_of_find?_eq_some e,by have:=List.find?_some e;exact (show a.id=iJ d by simpa using this).symm⟩
section
variable {p:Pl} (h:Valid p)
include h
theorem Valid.Vj {a:Ar} (ha:a∈p.aj) {q:Pt} (hq:q∈au p a):FQ q:=by
 have hr:=h.rng;unfold qZ at hr;simp only [avR,awh] at hr;have key:∀ q∈vU p,FQ q:=fun q hq=>amn (hr.2 q hq);unfold au at hq;rcases av2.1 hq with rfl | hq
 ·obtain ⟨n,hn,-,e⟩:=h.sound.Ef ha;rw [e];exact key _ (List.mem_append_left _ (awd hn))
 ·rcases av1.1 hq with hq | hq
  · exact key _ (List.mem_append_right _ (List.mem_flatMap.2 ⟨a,ha,hq⟩))
  ·rw [avY] at hq;subst hq;obtain ⟨n,hn,-,e⟩:=h.sound.FI ha;rw [e];exact key _ (List.mem_append_left _ (awd hn))
theorem Valid.FT {a:Ar} (ha:a∈p.aj):a.via.length<=64:=by
 have hl:=h.lim;unfold nC at hl;rw [Bool.or_eq_false_iff,List.any_eq_false] at hl;have:=hl.1 a ha
 simpa using this
theorem Valid.afa {a:Ar} (ha:a∈p.aj) (k:Nat) (hk:k+1<=(au p a).length):-142936511610880<=lU (au p a) k/\lU (au p a) k<=142936511610880:=by
 have h1:=ae9 (P:=au p a) (fun q hq=>h.Vj ha hq) k (.inl hk);have h2:=h.FT ha;have h3:=ig p a;omega
theorem Valid.amo (d:Int):-142936511610880<=BF p d/\BF p d<=142936511610880:=by
 unfold BF
 cases e:iK p d with
 | none=>simp
 | some a =>
  have ha:=(Qx e).1;have h3:=ig p a;have:=h.afa ha ((au p a).length-1) Pe
  unfold uM;simp only [];split<;>omega
theorem Valid.afb (l:List Int) (k:Nat):-(142936511610880*(k:Int))<=qo p l k/\qo p l k<=142936511610880*(k:Int):=by
 induction k with
 | zero=>simp [qo]
 | succ k ih =>
  have:=h.amo (l.getD k 0)
  rw [qo];omega
theorem Valid.amq {d:Int} (hd:-9223372036854775808<=d/\d<=9223372036854775807):((p.aj.any fun a=>decide (a.id=d) || decide (a.id=IntKind.i64.wrap (-d))) && !decide (d=0))=(iK p d).isSome:=by
 rw [Bool.eq_iff_iff,avR,awg];constructor
 ·rintro ⟨⟨a,ha,h1⟩,h0⟩;have hp:=h.kC ha;rw [Bool.or_eq_true,avQ,avQ] at h1;rcases h1 with h1 | h1
  · rw [<- h1,h.NW ha];rfl
  ·by_cases hm:d=-9223372036854775808
   ·subst hm
    have:IntKind.i64.wrap (-(-9223372036854775808))=-9223372036854775808:=by decide
    rw [this] at h1;omega
   ·rw [avS _ Pe] at h1;rw [show d=-a.id by omega,h.Qr ha];rfl
 ·intro h1
  cases e:iK p d with
  | none=>rw [e] at h1;cases h1
  | some a =>
   obtain ⟨ha,hi⟩:=Qx e;have hp:=h.kC ha;unfold iJ at hi;refine ⟨⟨a,ha,?_⟩,?_⟩
   ·rw [Bool.or_eq_true,avQ,avQ];split at hi
    ·right;rw [avS _ Pe];omega
    · left;omega
   ·simp only [Bool.not_eq_true',avX];rintro rfl;simp at hi;omega
end
def zy (p:Pl) (d:Int):List Pt:=if 0<d then (pathOf p d).getD [] else ((pathOf p (-d)).getD []).reverse
theorem amr {p:Pl} (hs:Short p) (id:Int):((pathOf p id).getD []).length<=1048578:=by
 cases e:pathOf p id with
 | none=>simp
 | some l=>exact (ad3 e hs).2
theorem afc (v:Value) (p:Pl) (d:Int) (w:World) (h:bQ w v p) (hs:Short p) (hd:-9223372036854775808<d/\d<=9223372036854775807):Calls Tryz.prog 197 #[v,.int .i64 d] w (Ie w (zy p d)):=by
 have HA:=avE (fun id W (hW:Below w.heap.size w W)=>Zv v p id W (h.mono hW) hs);have HLn:=avE (amr hs);obtain ⟨_,_,_,al,rfl,hpa,⟨An,cn,rfl,-⟩,⟨⟨Aa,ca,rfl,-⟩,-⟩,⟨Af,cf,rfl,-⟩⟩:=h;unfold zy;generalize al.length=na at *;generalize p.nodes.length=nn at *;generalize p.faces.length=nf at *;clear hpa hs;by_cases h1:0<d
 ·rw [if_pos h1];have HB:=avE (HA.out d);clear HA hd HLn;unfold Kq at HB;generalize (pathOf p d).getD []=L at *;generalize (if (pathOf p d).isSome then (0:Int) else 7)=z at *;go_enter Tryz.func197,Tryz.ntmps197;go_wp2_with fail;refine (HB.out _ (bA (bR w) _)).mono ?_;rintro e w1 ⟨A1,c1,rfl,hb1,ho1⟩;have B1:=avE (bT (bA (bR w) _) hb1);have HO:=avE (Own.fG ho1 (b':=w.heap.size) ars);clear hb1 ho1 HB;go_wp2;go_ret;exact ⟨A1,c1,rfl,B1.out,HO.out⟩
 rw [if_neg h1];have k1:IntKind.i64.wrap (-d)=-d:=avS _ Pe;have HB:=avE (HA.out (-d));have hln:=HLn.out (-d);clear HA hd HLn;unfold Kq at HB;generalize (pathOf p (-d)).getD []=L at *;generalize (if (pathOf p (-d)).isSome then (0:Int) else 7)=z at *;obtain ⟨q,hq⟩:∃ q,L.reverse=q:=⟨_,rfl⟩;rw [hq];have Hq:=avE hq;clear hq;go_enter Tryz.func197,Tryz.ntmps197;go_wp2_with fail;refine (HB.out _ (bA (bR w) _)).mono ?_;rintro e w1 ⟨A1,c1,rfl,hb1,ho1⟩;have B1:=avE (bT (bA (bR w) _) hb1);have HO:=avE ho1.sl;clear hb1 ho1 HB k1;have k2:IntKind.i64.wrap ((L.length:Int)-1)=(L.length:Int)-1:=avS _ Pe;have hR:=HO.out;obtain ⟨Aq,cq,he,hq1,hq2,hR⟩:=hR;injection he with e1 e2 e3;subst e1 e3;clear e2;unfold maxLen at hq2;have HR:=avE hR;clear hR;go_wp2_with fail;go_loopw [9,10] (fun s i wr=>∃ m:Nat,m<=L.length/\i=.int .i64 ((m:Int)-1)/\Own wr w1.heap.size 39 2 dU s (L.drop m).reverse/\Below w1.heap.size w1 wr) (fun _ i _=>(intOf i+1).toNat)
 case atStart => exact ⟨L.length,awe _,rfl,by rw [List.drop_length];exact Own.nil _ _ _ _ _,bR w1⟩
 case round =>
  obtain ⟨m,hm,rfl,ho,hb⟩:=hrel;have Hb:=avE hb;have Ho:=avE ho;obtain ⟨As,cs,rfl,-⟩:=Own.sl ho;clear hb ho
  cases m with
  | zero =>
   have ho:=Ho.out;rw [List.drop_zero,Hq.out] at ho;have iU:=avE ho;rw [List.drop_zero,Hq.out];clear ho;have k3:¬ (0:Int)<=((0:Nat):Int)-1:=by omega
   go_wp2;go_ret;exact ⟨As,cs,rfl,bT B1.out Hb.out,Own.fG iU.out B1.out.size⟩
  | succ m =>
   have hml:m<L.length:=by omega
   obtain ⟨b,o,hA,hlb,c0,c1⟩:=(HR.out.mono Hb.out).pt hml;subst hA;have k3:(((m+1:Nat):Int)-1)=(m:Int):=by omega
   rw [k3];clear k3;have hst:(L.drop m).reverse=(L.drop (m+1)).reverse++[L[m]]:=by rw [<- List.reverse_cons,List.drop_eq_getElem_cons hml]
   have fU:=avE hst;have hdl:(L.drop (m+1)).reverse.length<=1048578:=by rw [List.length_reverse,awl];omega
   have Dp:=avE hdl;clear hst hdl;have q1:0<=(m:Int):=by omega
   have q2:(m:Int)<L.length:=by omega
   have hz:=Hb.out.size;have hz1:=B1.out.size;go_wp2_with
    (at_builtin
     refine iZ _ rfl (.tmp 34) (.tmp 39) _ rfl (base:=w1.heap.size) ng jS ni rfl (Own.alloc Ho.out _) rfl (l2:=[L[m]]) (Sl.lit (n:=1) (ah.made rfl _ _) rfl (dP Pe)) (by have:=Dp.out;simp only [avO,avN];omega) (by have:=Dp.out;simp only [avO,avN];omega) arV ?_;intro v3 w3 ho3 hg3 Dq;have gY:=avE ho3;have B3:=avE (show Below w1.heap.size w1 w3 from bG (bA Hb.out _) hg3 (fun g hg=>(Ho.out.lt g hg).1));clear ho3 hg3 Dq)
   go_roundw
   case rel => exact ⟨m,by omega,by go_num,by rw [fU.out];exact gY.out,B3.out⟩
   case measure => simp [intOf]
end Go.Proofs.YtialfdomhoojiaaGreat
