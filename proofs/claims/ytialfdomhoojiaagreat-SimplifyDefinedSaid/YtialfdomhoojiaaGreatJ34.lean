import Derived.Test.YtialfdomhoojiaaGreatJ33
set_option linter.unusedSimpArgs false
set_option linter.unusedVariables false
set_option maxRecDepth 100000
set_option maxHeartbeats 8000000
namespace Go.Proofs.YtialfdomhoojiaaGreat
open Go.RowKit
theorem asX (v:Value) (p:Pl) (a:Ar) (va:Value) (w:World) (h:bQ w v p) :
  Calls Tryz.prog 100 #[v,jZ a va] w fun e w'=>e=.returned (.bool (Gt p a))/\Below w.heap.size w w':=by
 rw [ahl];obtain ⟨vn,_,vf,al,rfl,hpa,-,⟨⟨A,c,rfl,hn,hc,hR⟩,hV⟩,-⟩:=h;rw [hpa];unfold maxLen at hc;have HR:=avE hR;have HV:=avE hV;obtain ⟨L,hL⟩:∃ L:List Ar,al.map (·.1)=L:=⟨_,rfl⟩;obtain ⟨f,hf⟩:∃ f:Ar->Bool,BR a=f:=⟨_,rfl⟩;have iM:=avE (show L.length=al.length by rw [<- hL,avM]);have RI:=avE (fun k (hk:k<L.length) (hk':k<al.length)=>show L[k]=al[k].1 from by subst hL;rw [av4]);have HF:=avE (fun x=>congrFun hf x);rw [hL,hf];clear hR hV hL hf hpa;obtain ⟨id,fr,dst,via,lf,rt⟩:=a;unfold jZ;simp only;go_enter Tryz.func100,Tryz.ntmps100;go_upto_region 1 with fail;obtain ⟨W1,hW⟩:∃ W:World,W=(w.alloc (.cells #[vn,.slice A al.length c,vf] 26)).alloc (.cells #[.int .i64 id,.int .i64 fr,.int .i64 dst,va,.int .i64 lf,.int .i64 rt] 50):=⟨_,rfl⟩;have X2:ah W1 w.heap.size 26 #[vn,.slice A al.length c,vf]:=by rw [hW];exact (ah.made rfl _ _).alloc _
 have X3:ah W1 (w.heap.size+1) 50 #[.int .i64 id,.int .i64 fr,.int .i64 dst,va,.int .i64 lf,.int .i64 rt]:=by rw [hW];exact ah.made ars _ _
 have hB1:Below w.heap.size w W1:=by rw [hW];exact bA (bA (bR w) _) _
 have HB1:=avE hB1;rw [<- hW];clear hW hB1;have dh:=avE X2;have dW:=avE X3;clear X2 X3;go_wp2_with fail;go_loopw [5] (fun u wr=>∃ k:Nat,k<=al.length/\u=.int .i64 k/\(∀ j (hj:j<L.length),j<k->f L[j]=false)/\Below W1.heap.size W1 wr) (fun u _=>al.length-(intOf u).toNat)
 case atStart => exact ⟨0,avK _,rfl,fun j _ h=>by omega,bR W1⟩
 case round =>
  obtain ⟨k,hk,rfl,hno,hb⟩:=hrel;obtain ⟨wo,rfl⟩:∃ wo:World,wo=wr:=⟨_,rfl⟩;have Hb:=avE hb;have jL:=avE hno;clear hb hno;have X2:=dh.out.keep Hb.out;have X3:=dW.out.keep Hb.out;by_cases hlt:k<al.length
  ·obtain ⟨b,o,rfl,hlb,c0,c1,c2,c3,c4,c5⟩:=(HR.out.mono (bT HB1.out Hb.out)).ar hlt;obtain ⟨Av,cv,hva,hv1,hv2,-⟩:=HV.out k hlt;unfold maxLen at hv2;have hv3:=avZ hv1 hv2;clear hv1 hv2;have hkm:k<L.length:=by rw [iM.out];exact hlt
   have he:=avE (RI.out k hkm hlt);rw [hva] at c3;have hfe:f al[k].1=BR ⟨id,fr,dst,via,lf,rt⟩ al[k].1:=(HF.out _).symm;unfold BR at hfe;have Yv:=avE hfe;clear hva hfe;obtain ⟨z,hz⟩:∃ z,f al[k].1=z:=⟨_,rfl⟩;have HZ:=avE hz;rw [hz] at Yv;clear hz;generalize al[k].1=x at *;obtain ⟨xi,xf,xd,xv,xl,xr⟩:=x;simp only at *;obtain ⟨n,hn'⟩:∃ n,xv.length=n:=⟨_,rfl⟩;rw [hn'] at Yv c3 hv3;clear hn';have k1:(k:Int)<al.length:=by omega
   have k2:0<=(k:Int):=by omega
   obtain ⟨aG,aI,aJ,aO,-,-,-⟩:=X2.aF;obtain ⟨bH,bU,bY,fP,pq,pz,pF,-,-,-,-,-,-⟩:=X3.gX;go_upto_region 5 with fail;obtain ⟨W4,hW⟩:∃ W:World,W=wo.alloc (.cells #[.int .i64 xi,.int .i64 xf,.int .i64 xd,.slice Av n cv,.int .i64 xl,.int .i64 xr] 50):=⟨_,rfl⟩;have X6:ah W4 wo.heap.size 50 #[.int .i64 xi,.int .i64 xf,.int .i64 xd,.slice Av n cv,.int .i64 xl,.int .i64 xr]:=by rw [hW];exact ah.made rfl _ _
   have hB4:Below wo.heap.size wo W4:=by rw [hW];exact bA (bR wo) _
   have HB4:=avE (bT Hb.out hB4);rw [<- hW];clear hW X2 aG aI aJ aO bH bU bY fP pq pz pF c0 c1 c2 c3 c4 c5 hlb;replace X3:=X3.keep hB4;clear hB4
   try clear bH
   try clear bU
   try clear bY
   try clear fP
   try clear pq
   try clear pz
   try clear pF
   obtain ⟨bH,bU,bY,fP,pq,pz,pF,-,-,-,-,-,-⟩:=X3.gX;obtain ⟨fO,fQ,gK,xU,II,IJ,IK,-,-,-,-,-,-⟩:=X6.gX;have yG:=avE (show z=((xi != id) && (((n:Int) == 0) && ((xf == fr) && (xd == dst) || (xf == dst) && (xd == fr)))) from by
    rw [Yv.out];congr 1
    ·simp [bne];rfl
    ·congr 1;rw [Bool.eq_iff_iff];simp)
   clear Yv
   cases e1:(xi != id)<;>cases e2:((n:Int) == 0)<;>cases e3:(xf == fr)<;>cases e4:(xd == dst)<;>cases e5:(xf == dst)<;>cases e6:(xd == fr) <;>
    (have hh:=yG.out
     rw [e1,e2,e3,e4,e5,e6] at hh;simp only [Bool.and_true,Bool.and_false,Bool.true_and,Bool.false_and,Bool.or_true,Bool.or_false,Bool.false_or,Bool.true_or] at hh;have HH:=avE hh;clear hh yG;go_wp2_with fail
     first
     | (go_ret;exact ⟨aY (awg.2 ⟨_,avF hkm,by rw [he.out,HZ.out,HH.out]⟩).symm,bT HB1.out HB4.out⟩)
     | (go_roundw;(case rel=>exact ⟨k+1,by omega,by go_num,fun j hj hjk=>if e:j<k then jL.out j hj e else (by have:j=k:=Pe;subst this;rw [he.out,HZ.out,HH.out]),HB4.out⟩);(case measure=>simp [intOf];omega)))
  ·obtain rfl:k=al.length:=by omega
   try clear aG
   try clear aI
   try clear aJ
   try clear aO
   obtain ⟨aG,aI,aJ,aO,-,-,-⟩:=X2.aF;go_wp2;go_ret;exact ⟨aY (by
    symm;rw [<- Bool.not_eq_true,awg];rintro ⟨x,hx,e⟩;obtain ⟨j,hj,rfl⟩:=avI.1 hx;rw [jL.out j hj (by rw [iM.out] at hj;exact hj)] at e
    cases e),bT HB1.out Hb.out⟩
def EY (p:Pl) (arc i:Int):Option (List Pt) :=
 match findAr p.aj arc with
 | none=>none
 | some a=>if i<0\/(a.via.length:Int)<=i then none else if jD p a=true then some (((au p a).drop i.toNat).take 3) else none
def asY (w:World) (r:Option (List Pt)) (e:Ending) (w':World):Prop :=
 ∃ v,e=.returned (.tuple #[v,.bool r.isSome])/\Below w.heap.size w w'/\dM w' v (r.getD [])
theorem aiY (v:Value) (p:Pl) (arc i:Int) (w:World) (h:bQ w v p) (hm:mF p) :
  Calls Tryz.prog 95 #[v,.int .i64 arc,.int .i64 i] w (asY w (EY p arc i)):=by
 have HA:=avE (fun W (hW:Below w.heap.size w W)=>UA v p arc W (h.mono hW) hm.short);have HP:=avE (fun W (hW:Below w.heap.size w W)=>Zv v p arc W (h.mono hW) hm.short);have hvl:=hm.via;obtain ⟨R,hR⟩:∃ R,EY p arc i=R:=⟨_,rfl⟩;rw [hR];unfold EY at hR;have HR:=avE hR;obtain ⟨_,_,_,al,rfl,-,⟨An,cn,rfl,-⟩,⟨⟨Aa,ca,rfl,-⟩,-⟩,⟨Af,cf,rfl,-⟩⟩:=h;generalize p.nodes.length=nn at *;generalize p.faces.length=nf at *;generalize al.length=na at *;clear hR hm;have hpo:=fun a (h:findAr p.aj arc=some a)=>abB h;have hpn:findAr p.aj arc=none->pathOf p arc=none:=fun h=>by unfold pathOf;rw [h]
 have rP:=avE hpo;have HPn:=avE hpn;clear hpo hpn;go_enter Tryz.func95,Tryz.ntmps95;go_upto_region 1 with fail;obtain ⟨W1,hW⟩:∃ W:World,W=w.alloc (.cells #[.slice An nn cn,.slice Aa na ca,.slice Af nf cf] 26):=⟨_,rfl⟩;have X3:ah W1 w.heap.size 26 #[.slice An nn cn,.slice Aa na ca,.slice Af nf cf]:=by rw [hW];exact ah.made rfl _ _
 have HB1:=avE (show Below w.heap.size w W1 by rw [hW];exact bA (bR w) _);rw [<- hW];clear hW;have dW:=avE X3;obtain ⟨bH,bU,bY,fP,-,-,-⟩:=X3.aF;go_wp2_with fail;refine (HA.out _ HB1.out).mono ?_;rintro e w2 ⟨va,rfl,hb2,hpv⟩;have HB2:=avE (bT HB1.out hb2);have yF:=avE (dW.out.keep hb2);clear hb2 X3 bH bU bY fP dW HB1 HA;obtain ⟨Av,cv,rfl,hv1,hv2,-⟩:=hpv;unfold maxLen at hv2;obtain ⟨r,hr⟩:∃ r,findAr p.aj arc=r:=⟨_,rfl⟩;rw [hr] at hv1 ⊢;have fH:=HR.out;rw [hr] at fH;have Hr:=avE hr;clear hr HR
 cases r with
 | none =>
  have hf:=avE (show none=R from fH);rw [HPn.out Hr.out] at HP;clear fH HPn rP;unfold jZ;simp only [Option.getD_none];simp only [Option.getD_none] at hv1;go_upto_region 2 with fail;obtain ⟨W3,hW⟩:∃ W:World,W=w2.alloc (.cells #[.int .i64 jU.id,.int .i64 jU.fr,.int .i64 jU.dst,.slice Av jU.via.length cv,.int .i64 jU.left,.int .i64 jU.right] 50):=⟨_,rfl⟩;have hA3:Below w2.heap.size w2 W3:=by rw [hW];exact bA (bR w2) _
  have HB3:=avE (bT HB2.out hA3);have X3:=yF.out.keep hA3
  try rw [<- hW]
  clear hW hA3 hv1 hv2
  try clear bH
  try clear bU
  try clear bY
  try clear fP
  obtain ⟨bH,bU,bY,fP,-,-,-⟩:=X3.aF;go_wp2_with fail;refine (HP.out _ HB3.out).mono ?_;rintro e w4 ⟨A4,c4,rfl,hb4,-⟩;have HB4:=avE (bT HB3.out hb4);clear hb4 yF HB2 HB3 X3 bH bU bY fP;simp only [Option.getD_none,avN,Option.isSome_none,Bool.false_eq_true,if_false];go_wp2_with fail;go_ret2;exact ⟨_,by rw [<- hf.out];rfl,HB4.out,by rw [<- hf.out];exact Sl.nil _⟩
 | some a =>
  have hav:=hvl a (CW Hr.out);simp only [avU] at hv1 ⊢;simp only at fH;have Sr:=rP.out a Hr.out;rw [Sr] at HP;unfold jZ;obtain ⟨vn,hvn⟩:∃ n,a.via.length=n:=⟨_,rfl⟩;rw [hvn] at hv1 hav fH ⊢;have WG:=avE hvn;clear hvn rP HPn Sr hvl;go_upto_region 2 with fail;obtain ⟨W3,hW⟩:∃ W:World,W=w2.alloc (.cells #[.int .i64 a.id,.int .i64 a.fr,.int .i64 a.dst,.slice Av vn cv,.int .i64 a.left,.int .i64 a.right] 50):=⟨_,rfl⟩;have X7:ah W3 w2.heap.size 50 #[.int .i64 a.id,.int .i64 a.fr,.int .i64 a.dst,.slice Av vn cv,.int .i64 a.left,.int .i64 a.right]:=by rw [hW];exact ah.made rfl _ _
  have hA3:Below w2.heap.size w2 W3:=by rw [hW];exact bA (bR w2) _
  have HB3:=avE (bT HB2.out hA3);have X3:=yF.out.keep hA3;have lS:=avE X7;rw [<- hW];clear hW hA3 yF HB2 X7
  try clear bH
  try clear bU
  try clear bY
  try clear fP
  obtain ⟨bH,bU,bY,fP,-,-,-⟩:=X3.aF;by_cases he:jD p a=true
  case neg =>
   rw [if_neg he] at HP;have hf:=avE (show none=R by rw [<- fH,if_neg he,ite_self]);clear he fH;go_wp2_with fail;refine (HP.out _ HB3.out).mono ?_;rintro e w4 ⟨A4,c4,rfl,hb4,-⟩;have HB4:=avE (bT HB3.out hb4);clear hb4 X3 bH bU bY fP;simp only [Option.getD_none,avN,Option.isSome_none,Bool.false_eq_true,if_false];go_wp2_with fail;go_ret2;exact ⟨_,by rw [<- hf.out];rfl,HB4.out,by rw [<- hf.out];exact Sl.nil _⟩
  rw [if_pos he] at HP fH;have fH:=avE fH;clear he;go_wp2_with fail;refine (HP.out _ HB3.out).mono ?_;rintro e w4 ⟨A4,c4,rfl,hb4,jI⟩;have hpl:(au p a).length=a.via.length+2:=ig p a;simp only [avU,Option.isSome_some,if_true] at jI ⊢;have kM:=avE (show dM w4 (.slice A4 (au p a).length c4) (au p a) from jI.sl);have HB4:=avE (bT HB3.out hb4);have X7:=lS.out.keep hb4;clear hb4 jI X3 bH bU bY fP lS HB3;rw [WG.out] at hpl;generalize au p a=PP at *;rw [hpl];rw [hpl] at kM;have qM:=avE hpl;clear hpl;have hc4:vn+2<=c4/\c4<=9223372036854775807:=by
   obtain ⟨_,_,e,h1,h2,-⟩:=kM.out;injection e with e1 e2 e3;subst e3;unfold maxLen at h2;rw [qM.out] at h1;exact ⟨h1,h2⟩
  by_cases hi0:i<0
  ·have hf:=avE (show none=R by rw [<- fH.out,if_pos (.inl hi0)]);clear fH;go_wp2_with fail;go_ret2;exact ⟨_,by rw [<- hf.out];rfl,HB4.out,by rw [<- hf.out];exact Sl.nil _⟩
  obtain ⟨dY,dZ,gI,oM,Ig,Ih,Ii,-,-,-,-,-,-⟩:=X7.gX;by_cases hi1:(vn:Int)<=i
  ·have hf:=avE (show none=R by rw [<- fH.out,if_pos (.inr hi1)]);clear fH;go_wp2_with fail;go_ret2;exact ⟨_,by rw [<- hf.out];rfl,HB4.out,by rw [<- hf.out];exact Sl.nil _⟩
  have hf:=fH.out;rw [if_neg Pe] at hf;obtain ⟨m,rfl⟩:∃ m:Nat,i=m:=⟨i.toNat,by omega⟩;have hmn:m<vn:=by omega
  rw [Int.toNat_natCast] at hf;have XV:=avE hf;have hrun:=ajB Tryz.underlying46 SC A4 (vn+2) c4 m (m+3) Pe Pe hc4.1 (m:Int) ((m:Int)+3) rfl Pe;have HM:=avE (fun W (hW:Below w4.heap.size w4 W)=>Sl.ajC (l:=PP) (A:=A4) (c:=c4) (w:=W) jS (by have t:=kM.out.mono hW;rw [<- qM.out] at t;exact t) m (m+3) Pe (by rw [qM.out];omega));clear hf fH;obtain ⟨cA,hcA⟩:∃ a,vI A4 c4 m 2=a:=⟨_,rfl⟩;rw [hcA] at hrun HM;clear hcA;have h3:m+3-m=3:=by omega
  rw [h3] at hrun HM;clear h3;go_wp2_with fail;go_ret2;exact ⟨.slice cA 3 (c4-m),by rw [<- XV.out];rfl,HB4.out,by rw [<- XV.out];exact HM.out w4 (bR w4)⟩
def EZ (a b c q:Pt):Bool:=!decide (q=a) && (!decide (q=b) && (!decide (q=c) && xu a b c q))
theorem asZ {a b c:Pt} (ha:iP a=true) (hb:iP b=true) (hc:iP c=true) (q:Pt):EZ a b c q=BP a b c q:=by
 unfold EZ BP;rw [apk ha hb hc];simp
theorem as1 {p:Pl} {arc i:Int} (h:EY p arc i=none):rW p arc i=false:=by
 unfold EY at h;unfold rW
 cases e:findAr p.aj arc with
 | none=>rfl
 | some a =>
  rw [e] at h;simp only at h ⊢;split
  · rfl
  ·rename_i h1;rw [if_neg h1] at h;split
   ·rename_i h2;rw [if_pos h2] at h
    cases h
   · rfl
theorem aiZ {l:List Pt} {m:Nat} (h:m+2<l.length):(l.drop m).take 3=[l.getD m aA,l.getD (m+1) aA,l.getD (m+2) aA]:=by
 rw [List.drop_eq_getElem_cons (by omega:m<l.length),List.drop_eq_getElem_cons (by omega:m+1<l.length),List.drop_eq_getElem_cons (by omega:m+1+1<l.length)];simp only [List.take_succ_cons,List.take_zero,avT];rw [avG (by omega:m<l.length),avG (by omega:m+1<l.length),avG (by omega:m+2<l.length)];rfl
theorem as2 {p:Pl} {arc i:Int} {L:List Pt} (h:EY p arc i=some L):∃ a x y z,findAr p.aj arc=some a/\L=[x,y,z] /\
  rW p arc i=(iP x && (iP y && (iP z && (!((vU p).any (EZ x y z)) && ((!decide (a.fr=a.dst) || decide (3<=a.via.length)) && (!decide (a.via.length=1) || !Gt p a)))))):=by
 unfold EY at h;unfold rW
 cases e:findAr p.aj arc with
 | none=>rw [e] at h;cases h
 | some a =>
  rw [e] at h;simp only at h ⊢;split at h
  · cases h
  rename_i h1;rw [if_neg h1];split at h
  case isFalse => cases h
  rename_i h2;rw [if_pos h2];obtain ⟨m,rfl⟩:∃ m:Nat,i=m:=⟨i.toNat,by omega⟩;rw [Int.toNat_natCast] at h ⊢;have hl:=ig p a;rw [aiZ Pe] at h;injection h with h;refine ⟨a,_,_,_,rfl,h.symm,?_⟩;unfold yE;generalize (au p a).getD m aA=x;generalize (au p a).getD (m+1) aA=y;generalize (au p a).getD (m+2) aA=z
  cases hx:iP x
  · rfl
  cases hy:iP y
  · rfl
  cases hz:iP z
  · rfl
  have e1:(vU p).any (EZ x y z)=((p.nodes.any fun n=>BP x y z n.pt) || p.aj.any fun b=>b.via.any (BP x y z)):=by
   rw [show EZ x y z=BP x y z from funext (asZ hx hy hz)];unfold vU;rw [List.any_append,List.any_map,List.any_flatMap];rfl
  rw [e1];have e2:decide (3<=a.via.length) = !decide (a.via.length<3):=by
   rw [Bool.eq_iff_iff];simp
  rw [e2]
  cases (p.nodes.any fun n=>BP x y z n.pt)<;>cases (p.aj.any fun b=>b.via.any (BP x y z))<;>cases decide (a.fr=a.dst)<;>cases decide (a.via.length<3)<;>cases decide (a.via.length=1)<;>cases Gt p a<;>rfl
theorem as3 (v:Value) (p:Pl) (arc i:Int) (w:World) (h:bQ w v p) (hm:mF p) (hfl:(p.aj.flatMap (·.via)).length<=1048576) :
  Calls Tryz.prog 39 #[v,.int .i64 arc,.int .i64 i] w fun e w'=>e=.returned (.bool (rW p arc i))/\Below w.heap.size w w':=by
 have H3:=avE (fun W (hW:Below w.heap.size w W)=>aiY v p arc i W (h.mono hW) hm);have Ce:=avE (fun W (hW:Below w.heap.size w W)=>adx v p W (h.mono hW) (avZ hm.rU Pe) hfl);have HA:=avE (fun W (hW:Below w.heap.size w W)=>UA v p arc W (h.mono hW) hm.short);have fU:=avE (fun a va W (hW:Below w.heap.size w W)=>asX v p a va W (h.mono hW));have hpl:(vU p).length<=2097152:=by have:=hm.rU;unfold vU;rw [avL,avM];omega
 have hvl:=hm.via;obtain ⟨R,hR⟩:∃ R,rW p arc i=R:=⟨_,rfl⟩;rw [hR];obtain ⟨_,_,_,al,rfl,-,⟨An,cn,rfl,-⟩,⟨⟨Aa,ca,rfl,-⟩,-⟩,⟨Af,cf,rfl,-⟩⟩:=h;obtain ⟨r,hr⟩:∃ r,EY p arc i=r:=⟨_,rfl⟩;rw [hr] at H3;have HR:=avE hR;have Hr:=avE hr;have Sz:=avE hvl;have qM:=avE hpl;clear hR hr hvl hpl hm hfl;generalize p.nodes.length=nn at *;generalize p.faces.length=nf at *;generalize al.length=na at *;go_enter Tryz.func39,Tryz.ntmps39;go_upto_region 1 with fail;obtain ⟨W1,hW⟩:∃ W:World,W=w.alloc (.cells #[.slice An nn cn,.slice Aa na ca,.slice Af nf cf] 26):=⟨_,rfl⟩;have X3:ah W1 w.heap.size 26 #[.slice An nn cn,.slice Aa na ca,.slice Af nf cf]:=by rw [hW];exact ah.made rfl _ _
 have HB1:=avE (show Below w.heap.size w W1 by rw [hW];exact bA (bR w) _);rw [<- hW];clear hW;have dW:=avE X3;obtain ⟨bH,bU,bY,fP,-,-,-⟩:=X3.aF;go_wp2_with fail;refine (H3.out _ HB1.out).mono ?_;rintro e w2 ⟨v3,rfl,hb2,hp3⟩;have HB2:=avE (bT HB1.out hb2);have yF:=avE (dW.out.keep hb2);clear hb2 X3 bH bU bY fP dW HB1 H3
 cases r with
 | none =>
  have hf:=avE (show false=R by rw [<- HR.out,as1 Hr.out]);simp only [Option.getD_none,Option.isSome_none] at hp3 ⊢;go_wp2;go_ret;exact ⟨aY hf.out,HB2.out⟩
 | some L =>
  obtain ⟨a,x,y,z,hfa,rfl,hfr⟩:=as2 Hr.out;rw [HR.out] at hfr;simp only [avU,Option.isSome_some] at hp3 ⊢;have wB:=avE hp3;obtain ⟨A3,c3,rfl,hn3,hc3,yQ⟩:=hp3;obtain ⟨g,o,rfl,hlb,a0,a1⟩:=yQ.pt (k:=0) ars;obtain ⟨g',o',he,-,b0,b1⟩:=yQ.pt (k:=1) ars;simp only [Option.some.injEq,Addr.mk.injEq,and_true] at he;obtain ⟨rfl,rfl⟩:=he;obtain ⟨g',o',he,-,c0,c1⟩:=yQ.pt (k:=2) ars;simp only [Option.some.injEq,Addr.mk.injEq,and_true] at he;obtain ⟨rfl,rfl⟩:=he;simp only [List.getElem_cons_zero,List.getElem_cons_succ,Nat.zero_mul,Nat.add_zero,Nat.one_mul,Nat.reduceMul,Nat.add_assoc,Nat.reduceAdd] at a0 a1 b0 b1 c0 c1;simp only [avO,avN,Nat.zero_add,Nat.reduceAdd] at hn3 hc3 wB ⊢;have Hg:=avE (show ∀ W,Below w2.heap.size w2 W->g<W.heap.size/\W.cell? ⟨g,o,none⟩=some (.int .i64 x.x)/\W.cell? ⟨g,o+1,none⟩=some (.int .i64 x.y)/\W.cell? ⟨g,o+2,none⟩=some (.int .i64 y.x)/\W.cell? ⟨g,o+3,none⟩=some (.int .i64 y.y)/\W.cell? ⟨g,o+4,none⟩=some (.int .i64 z.x)/\W.cell? ⟨g,o+5,none⟩=some (.int .i64 z.y) from by
   intro W hb;exact ⟨awf hlb hb.size,(hb.cell hlb).trans a0,(hb.cell hlb).trans a1,(hb.cell hlb).trans b0,(hb.cell hlb).trans b1,(hb.cell hlb).trans c0,(hb.cell hlb).trans c1⟩)
  have lZ:=avE hfa;clear yQ hn3 hfa hlb a0 a1 b0 b1 c0 c1;have JD:=avE (fun W=>UE x W);have JE:=avE (fun W=>UE y W);have JF:=avE (fun W=>UE z W);have HWi:=avE (fun q W (hW:Below w2.heap.size w2 W)=>asW (.slice (some ⟨g,o,none⟩) 3 c3) x y z q W (wB.out.mono hW));have hE1:=fun q=>DX q x;have hE2:=fun q=>DX q y;have RJ:=fun q=>DX q z;have EW:=avE hE1;have HE2:=avE hE2;have HE3:=avE RJ;clear hE1 hE2 RJ hc3;unfold aK at JD JE JF HWi;generalize iP x=x1 at *;generalize iP y=y1 at *;generalize iP z=z1 at *;obtain ⟨hg1,a0,a1,b0,b1,c0,c1⟩:=Hg.out w2 (bR w2);go_wp2_with fail;refine (JD.out _).mono ?_;rintro e w3 ⟨rfl,hb3⟩;clear hg1 a0 a1 b0 b1 c0 c1;have HB3:=avE hb3;clear hb3
  cases x1
  case false =>
   have hf:=avE (show R=false from hfr);go_wp2;go_ret;exact ⟨aY hf.out.symm,bT HB2.out HB3.out⟩
  obtain ⟨hg1,a0,a1,b0,b1,c0,c1⟩:=Hg.out w3 HB3.out;go_wp2_with fail;refine (JE.out _).mono ?_;rintro e w4 ⟨rfl,hb4⟩;clear hg1 a0 a1 b0 b1 c0 c1;have HB4:=avE (bT HB3.out hb4);clear hb4 HB3
  cases y1
  case false =>
   have hf:=avE (show R=false from hfr);go_wp2;go_ret;exact ⟨aY hf.out.symm,bT HB2.out HB4.out⟩
  obtain ⟨hg1,a0,a1,b0,b1,c0,c1⟩:=Hg.out w4 HB4.out;go_wp2_with fail;refine (JF.out _).mono ?_;rintro e w5 ⟨rfl,hb5⟩;clear hg1 a0 a1 b0 b1 c0 c1;have bC:=avE (bT HB4.out hb5);clear hb5 HB4
  cases z1
  case false =>
   have hf:=avE (show R=false from hfr);go_wp2;go_ret;exact ⟨aY hf.out.symm,bT HB2.out bC.out⟩
  simp only [Bool.true_and] at hfr;have X3:=yF.out.keep bC.out;have zO:=avE hfr;clear hfr JD JE JF
  try clear bH
  try clear bU
  try clear bY
  try clear fP
  obtain ⟨bH,bU,bY,fP,-,-,-⟩:=X3.aF;go_upto_region 4 with fail;go_wp2_with fail;refine (Ce.out _ (bT HB2.out bC.out)).mono ?_;rintro e w6 ⟨v6,rfl,hb6,wO⟩;have jq:=avE (bT bC.out hb6);clear hb6 X3 bH bU bY fP Ce bC;have kM:=avE (show dM w6 v6 (vU p) from wO.sl);obtain ⟨Q,hQ⟩:∃ Q,vU p=Q:=⟨_,rfl⟩;rw [hQ] at kM zO qM;clear wO hQ;obtain ⟨A6,c6,rfl,hn6,hc6,SH⟩:=kM.out;have HR6:=avE SH;unfold maxLen at hc6;have Lp:=qM.out;clear SH hn6 hc6;go_wp2_with fail;go_loopw [10] (fun u wr=>∃ k:Nat,k<=Q.length/\u=.int .i64 k/\(∀ j (hj:j<Q.length),j<k->EZ x y z Q[j]=false)/\Below w6.heap.size w6 wr) (fun u _=>Q.length-(intOf u).toNat)
  case atStart => exact ⟨0,avK _,rfl,fun j _ h=>by omega,bR w6⟩
  case round =>
   obtain ⟨k,hk,rfl,hno,hb⟩:=hrel;obtain ⟨wo,rfl⟩:∃ wo:World,wo=wr:=⟨_,rfl⟩;have Hb:=avE hb;have jL:=avE hno;clear hb hno;have iT:=avE (bT jq.out Hb.out);by_cases hlt:k<Q.length
   ·obtain ⟨b,o6,rfl,hlb,d0,d1⟩:=(HR6.out.mono Hb.out).pt hlt;obtain ⟨q,hq⟩:∃ q,Q[k]=q:=⟨_,rfl⟩;rw [hq] at d0 d1;have Hq:=avE hq;have Ph:=avE (show EZ x y z q=(!decide (q=x) && (!decide (q=y) && (!decide (q=z) && xu x y z q))) from rfl);have hE1:=EW.out q;have hE2:=HE2.out q;have RJ:=HE3.out q;have HW:=avE (fun W (hW:Below w2.heap.size w2 W)=>HWi.out q W hW);obtain ⟨d,hd⟩:∃ d,EZ x y z q=d:=⟨_,rfl⟩;rw [hd] at Ph;have HD:=avE hd;clear hq hd;generalize decide (q=x)=e1 at *;generalize decide (q=y)=e2 at *;generalize decide (q=z)=e3 at *;generalize xu x y z q=wi at *;have k1:(k:Int)<Q.length:=by omega
    have k2:0<=(k:Int):=by omega
    obtain ⟨hg1,a0,a1,b0,b1,c0,c1⟩:=Hg.out wo iT.out;go_upto_region 8 with fail
    cases e1
    case true =>
     refine dH (wo) (.run 36 0 0 (.done)) fun bZ QR aB aH hS=>?_
     iterate 9 refine aC ?_
     iterate 8 refine jC ?_
     iterate 2 refine aC ?_
     iterate 8 refine jC ?_
     iterate 2 refine aC ?_
     iterate 6 refine jC ?_
     refine aC ?_;refine dB ?_;clear hS aH aB;intro hB;have je:=avE (bT Hb.out hB);clear hB hg1 a0 a1 b0 b1 c0 c1 d0 d1 hlb;have hz:=Ph.out;simp only [Bool.not_true,Bool.not_false,Bool.true_and,Bool.false_and] at hz;go_wp2;go_roundw
     case rel => exact ⟨k+1,by omega,by go_num,fun j hj hjk=>if e:j<k then jL.out j hj e else by
      have:j=k:=by omega
      subst this;rw [Hq.out,HD.out,hz],je.out⟩
     case measure => simp [intOf];omega
    cases e2
    case true =>
     refine dH (wo) (.run 36 0 0 (.done)) fun bZ QR aB aH hS=>?_
     iterate 9 refine aC ?_
     iterate 8 refine dN ?_
     iterate 2 refine aC ?_
     iterate 8 refine jC ?_
     iterate 2 refine aC ?_
     iterate 6 refine jC ?_
     refine aC ?_;refine dB ?_;clear hS aH aB;intro hB;have je:=avE (bT Hb.out hB);clear hB hg1 a0 a1 b0 b1 c0 c1 d0 d1 hlb;have hz:=Ph.out;simp only [Bool.not_true,Bool.not_false,Bool.true_and,Bool.false_and] at hz;go_wp2;go_roundw
     case rel => exact ⟨k+1,by omega,by go_num,fun j hj hjk=>if e:j<k then jL.out j hj e else by
      have:j=k:=by omega
      subst this;rw [Hq.out,HD.out,hz],je.out⟩
     case measure => simp [intOf];omega
    cases e3
    case true =>
     refine dH (wo) (.run 36 0 0 (.done)) fun bZ QR aB aH hS=>?_
     iterate 9 refine aC ?_
     iterate 8 refine dN ?_
     iterate 2 refine aC ?_
     iterate 8 refine dN ?_
     iterate 2 refine aC ?_
     iterate 6 refine jC ?_
     refine aC ?_;refine dB ?_;clear hS aH aB;intro hB;have je:=avE (bT Hb.out hB);clear hB hg1 a0 a1 b0 b1 c0 c1 d0 d1 hlb;have hz:=Ph.out;simp only [Bool.not_true,Bool.not_false,Bool.true_and,Bool.false_and] at hz;go_wp2;go_roundw
     case rel => exact ⟨k+1,by omega,by go_num,fun j hj hjk=>if e:j<k then jL.out j hj e else by
      have:j=k:=by omega
      subst this;rw [Hq.out,HD.out,hz],je.out⟩
     case measure => simp [intOf];omega
    cases wi
    case false =>
     refine dH (wo) (.run 34 0 0 (.call 34 34359738367 (.take 35 68719476735 (.done)))) fun bZ QR aB aH hS=>?_
     iterate 9 refine aC ?_
     iterate 8 refine dN ?_
     iterate 2 refine aC ?_
     iterate 8 refine dN ?_
     iterate 2 refine aC ?_
     iterate 5 refine dN ?_
     refine fV (HW.out _ (bT iT.out (bD (bR wo)))) ?_;clear hS;intro cZ bW hS;refine aC ?_;refine dB ?_;clear hS aH aB;intro hB;have je:=avE (bT Hb.out hB);clear hB hg1 a0 a1 b0 b1 c0 c1 d0 d1 hlb;have hz:=Ph.out;simp only [Bool.not_true,Bool.not_false,Bool.true_and,Bool.false_and] at hz;go_wp2;go_roundw
     case rel => exact ⟨k+1,by omega,by go_num,fun j hj hjk=>if e:j<k then jL.out j hj e else by
      have:j=k:=by omega
      subst this;rw [Hq.out,HD.out,hz],je.out⟩
     case measure => simp [intOf];omega
    case true =>
     refine dH (wo) (.run 34 0 0 (.call 34 34359738367 (.take 35 68719476735 (.done)))) fun bZ QR aB aH hS=>?_
     iterate 9 refine aC ?_
     iterate 8 refine dN ?_
     iterate 2 refine aC ?_
     iterate 8 refine dN ?_
     iterate 2 refine aC ?_
     iterate 5 refine dN ?_
     refine fV (HW.out _ (bT iT.out (bD (bR wo)))) ?_;clear hS;intro cZ bW hS;refine aC ?_;refine dB ?_;clear hS aH aB;intro hB;have je:=avE (bT Hb.out hB);clear hB hg1 a0 a1 b0 b1 c0 c1 d0 d1 hlb;have hz:=Ph.out;simp only [Bool.not_true,Bool.not_false,Bool.true_and,Bool.false_and] at hz;have hf:=avE (show R=false by
      have ha:Q.any (EZ x y z)=true:=awg.2 ⟨_,avF hlt,by rw [Hq.out,HD.out,hz]⟩;rw [zO.out,ha];rfl)
     go_wp2;go_ret;exact ⟨aY hf.out.symm,bT HB2.out (bT jq.out je.out)⟩
   ·have hna:Q.any (EZ x y z)=false:=by
     rw [<- Bool.not_eq_true,awg];rintro ⟨s,hs,e⟩;obtain ⟨j,hj,rfl⟩:=avI.1 hs;rw [jL.out j hj Pe] at e
     cases e
    have hfr:=zO.out;rw [hna] at hfr;simp only [Bool.not_false,Bool.true_and] at hfr;have acL:=avE hfr;clear hna hfr HWi EW HE2 HE3 zO;have k1:¬ (k:Int)<Q.length:=by omega
    have X3:=yF.out.keep iT.out;have jW:=avE (bT HB2.out iT.out)
    try clear bH
    try clear bU
    try clear bY
    try clear fP
    obtain ⟨bH,bU,bY,fP,-,-,-⟩:=X3.aF;go_wp2_with fail;refine (HA.out _ jW.out).mono ?_;rintro e w7 ⟨v7,rfl,hb7,hpv⟩;rw [lZ.out] at hpv ⊢;simp only [avU,Option.isSome_some] at hpv ⊢;obtain ⟨Av,cv,rfl,hv1,hv2,-⟩:=hpv;have hav:=Sz.out a (CW lZ.out);have HS:=avE (fun W (hW:Below w.heap.size w W)=>fU.out a (.slice Av a.via.length cv) W hW);obtain ⟨par,hpar⟩:∃ par,Gt p a=par:=⟨_,rfl⟩;rw [hpar] at HS acL;unfold jZ at HS ⊢;obtain ⟨vn,hvn⟩:∃ n,a.via.length=n:=⟨_,rfl⟩;rw [hvn] at hv1 hav acL HS ⊢;clear hvn hpar fU;have gW:=avE (bT jW.out hb7);have WW:=avE (X3.keep hb7);clear hb7 X3 bH bU bY fP;go_upto_region 11 with fail;obtain ⟨W8,hW⟩:∃ W:World,W=w7.alloc (.cells #[.int .i64 a.id,.int .i64 a.fr,.int .i64 a.dst,.slice Av vn cv,.int .i64 a.left,.int .i64 a.right] 50):=⟨_,rfl⟩;have lF:ah W8 w7.heap.size 50 #[.int .i64 a.id,.int .i64 a.fr,.int .i64 a.dst,.slice Av vn cv,.int .i64 a.left,.int .i64 a.right]:=by rw [hW];exact ah.made rfl _ _
    have H6:Below w7.heap.size w7 W8:=by rw [hW];exact bA (bR w7) _
    have jl:=avE (bT gW.out H6);have X3:=WW.out.keep H6;rw [<- hW];clear hW H6
    try clear bH
    try clear bU
    try clear bY
    try clear fP
    obtain ⟨bH,bU,bY,fP,-,-,-⟩:=X3.aF;obtain ⟨qJ,qK,tC,zQ,zS,zT,zU,-,-,-,-,-,-⟩:=lF.gX;have hfr:=acL.out;generalize a.fr=fr at *;generalize a.dst=dst at *;generalize a.id=aid at *;generalize a.left=lf at *;generalize a.right=rt at *;by_cases c1:fr=dst
    ·have f1:(fr != dst)=false:=by simpa using c1
     by_cases c2:3<=vn
     ·have f2:(3:Int)<=vn:=by omega
      have f3:((vn:Int) != 1)=true:=by simp;omega
      have hf:=avE (show true=R by rw [hfr];simp [c1,c2];omega);clear hfr c1;go_wp2;go_ret;exact ⟨aY hf.out,jl.out⟩
     ·have f2:¬ (3:Int)<=vn:=by omega
      have hf:=avE (show false=R by rw [hfr];simp [c1,c2]);clear hfr c1;go_wp2;go_ret;exact ⟨aY hf.out,jl.out⟩
    ·have f1:(fr != dst)=true:=by simpa using c1
     by_cases c3:vn=1
     ·have f3:((vn:Int) != 1)=false:=by simp;omega
      have hf:=avE (show (!par)=R by rw [hfr];simp [c1,c3]);clear hfr c1 c3;go_wp2_with fail;refine (HS.out _ jl.out).mono ?_;rintro e w9 ⟨rfl,qh⟩;have je:=avE (bT jl.out qh);clear qh;go_wp2;go_ret;exact ⟨aY hf.out,je.out⟩
     ·have f3:((vn:Int) != 1)=true:=by simp;omega
      have hf:=avE (show true=R by rw [hfr];simp [c1,c3]);clear hfr c1 c3;go_wp2;go_ret;exact ⟨aY hf.out,jl.out⟩
def sizeT (a b c:Pt):Int:=if kY a b c<0 then -kY a b c else kY a b c
theorem as4 (a b c:Pt):-70368744177664<=kY a b c/\kY a b c<=70368744177664:=by
 unfold kY;split
 ·rename_i h;obtain ⟨⟨a1,a2,a3,a4⟩,⟨b1,b2,b3,b4⟩,⟨c1,c2,c3,c4⟩⟩:=J6 h;obtain ⟨m1,m2⟩:=qH (b.x-a.x) (c.y-a.y) 4194304 Pe Pe Pe Pe;obtain ⟨m3,m4⟩:=qH (b.y-a.y) (c.x-a.x) 4194304 Pe Pe Pe Pe;simp only [Int.reduceMul,Int.reduceNeg] at m1 m2 m3 m4;unfold tw;omega
 · omega
theorem as5 (v:Value) (a b c:Pt) (w:World) (h:dM w v [a,b,c]) :
  Calls Tryz.prog 103 #[v] w fun e w'=>e=.returned (.int .i64 (sizeT a b c))/\Below w.heap.size w w':=by
 have HT:=avE (fun W=>aiX a b c W);have hbd:=as4 a b c;obtain ⟨R,hR⟩:∃ R,sizeT a b c=R:=⟨_,rfl⟩;rw [hR];unfold sizeT at hR;obtain ⟨A,cc,rfl,hn,hc,yQ⟩:=h;obtain ⟨g,o,rfl,hlb,a0,a1⟩:=yQ.pt (k:=0) ars;obtain ⟨g',o',he,-,b0,b1⟩:=yQ.pt (k:=1) ars;simp only [Option.some.injEq,Addr.mk.injEq,and_true] at he;obtain ⟨rfl,rfl⟩:=he;obtain ⟨g',o',he,-,c0,c1⟩:=yQ.pt (k:=2) ars;simp only [Option.some.injEq,Addr.mk.injEq,and_true] at he;obtain ⟨rfl,rfl⟩:=he;simp only [List.getElem_cons_zero,List.getElem_cons_succ,Nat.zero_mul,Nat.add_zero,Nat.one_mul,Nat.reduceMul,Nat.add_assoc,Nat.reduceAdd] at a0 a1 b0 b1 c0 c1;simp only [avO,avN] at hn hc ⊢;clear yQ hn hc;unfold aK at HT;generalize kY a b c=t at *;have HR:=avE hR;clear hR;go_enter Tryz.func103,Tryz.ntmps103;go_upto_region 1 with fail;refine dH (w) (.run 9 0 0 (.call 9 1023 (.take 10 2047 (.done)))) fun bZ QR aB aH hS=>?_
 iterate 9 refine aC ?_
 refine fV (HT.out _) ?_;clear hS;intro cZ bW hS;refine aC ?_;refine dB ?_;clear hS aH aB;intro hB;have HB:=avE hB;clear hB a0 a1 b0 b1 c0 c1 hlb;by_cases ht:t<0
 ·have hf:=avE (show -t=R by rw [<- HR.out,if_pos ht]);go_wp2;go_ret;exact ⟨dL hf.out,HB.out⟩
 ·have hf:=avE (show t=R by rw [<- HR.out,if_neg ht]);go_wp2;go_ret;exact ⟨dL hf.out,HB.out⟩
def sA (s:Option Cd):Int:=s.elim 0 (·.id)
def sK (s:Option Cd):Int:=s.elim 0 fun c=>(c.k:Int)
def sN (s:Option Cd):Int:=s.elim 0 (·.n)
def qQ (p:Pl) (aN:Int) (a:Ar) (j:Nat):List Cd:=if jD p a=true then uX p aN a (au p a) j else []
theorem as6 {p:Pl} {aN:Int} {a:Ar} {id:Int} (h:findAr p.aj id=some a):qQ p aN a a.via.length=pX p aN id:=by
 unfold qQ pX;rw [h]
theorem as7 {p:Pl} {aN:Int} {a:Ar} {id:Int} (h:findAr p.aj id=some a) {j:Nat} (hj:j<a.via.length) (hf:rW p id j=false):qQ p aN a (j+1)=qQ p aN a j:=by
 unfold rW at hf;rw [h] at hf;simp only at hf;rw [if_neg Pe,Int.toNat_natCast] at hf;unfold qQ;by_cases he:jD p a=true
 ·rw [if_pos he] at hf ⊢;rw [if_pos he,V9,hf];simp
 · rw [if_neg he,if_neg he]
theorem as8 {p:Pl} {aN:Int} {a:Ar} {id:Int} (h:findAr p.aj id=some a) {j:Nat} (hj:j<a.via.length) (hf:rW p id j=true) :
  ∃ x y z n,EY p id j=some [x,y,z]/\sizeT x y z=n/\qQ p aN a (j+1)=qQ p aN a j++if decide (n<aN)=true then [⟨id,j,n⟩] else []:=by
 have hid:=akc h;unfold rW at hf;rw [h] at hf;simp only at hf;rw [if_neg Pe,Int.toNat_natCast] at hf;by_cases he:jD p a=true
 ·rw [if_pos he] at hf;have hl:=ig p a;refine ⟨_,_,_,ug (au p a) j,?_,rfl,?_⟩
  ·unfold EY;rw [h];simp only;rw [if_neg Pe,if_pos he,Int.toNat_natCast,aiZ Pe]
  ·unfold qQ;rw [if_pos he,if_pos he,V9,hf,Bool.and_true,hid]
 ·rw [if_neg he] at hf
  cases hf
theorem as9 (p:Pl) (aN:Int) (l:List Ar) (k:Nat) (hk:k<l.length) (s:Option Cd):DL p aN (l.drop k) s=DL p aN (l.drop (k+1)) ((pX p aN l[k].id).foldl kQ s):=by
 unfold DL;rw [List.drop_eq_getElem_cons hk,List.foldl_cons]
theorem ata {l:List Ar} {k:Nat} (hk:k<l.length):∃ a,findAr l l[k].id=some a:=by
 cases h:findAr l l[k].id with
 | some a=>exact ⟨a,rfl⟩
 | none =>
  unfold findAr at h;rw [List.find?_eq_none] at h;exact absurd ars (h _ (avF hk))
theorem atb {P:Program} {fn:Func} {p q r s:Tmp} (h:fn.results=#[.tmp p,.tmp q,.tmp r,.tmp s]) (a:Array Value) (w:World) :
  (results fn a).run P w=.ok (.tuple #[a.getD p undef,a.getD q undef,a.getD r undef,a.getD s undef]) w:=by
 simp only [results,h];simp [Sem.run_bind,Sem.run_pure,Result.andThen]
theorem Yw (v:Value) (p:Pl) (aN:Int) (w:World) (h:bQ w v p) (hm:mF p) (hfl:(p.aj.flatMap (·.via)).length<=1048576) :
  Calls Tryz.prog 41 #[v,.int .i64 aN] w fun e w'=>e=.returned (OD (DL p aN p.aj none))/\Below w.heap.size w w':=by
 have HA:=avE (fun id W (hW:Below w.heap.size w W)=>UA v p id W (h.mono hW) hm.short);have HF:=avE (fun id j W (hW:Below w.heap.size w W)=>as3 v p id j W (h.mono hW) hm hfl);have H3:=avE (fun id j W (hW:Below w.heap.size w W)=>aiY v p id j W (h.mono hW) hm);have Sz:=avE hm.via;obtain ⟨R,hR⟩:∃ R,DL p aN p.aj none=R:=⟨_,rfl⟩;rw [hR];have HR:=avE hR;obtain ⟨_,_,_,al,rfl,hpa,⟨An,cn,rfl,-⟩,⟨⟨Aa,ca,rfl,ha1,ha2,gV⟩,hV⟩,⟨Af,cf,rfl,-⟩⟩:=h;have jr:=avE gV;have qL:=avE (show p.aj.length=al.length by rw [hpa,avM]);have Rq:=avE (fun k (h1:k<p.aj.length) (h2:k<al.length)=>show p.aj[k].id=al[k].1.id from by
  have e2:(al.map (·.1))[k]'(by simpa using h2)=al[k].1:=by rw [av4]
  rw [<- e2];congr 1;congr 1)
 unfold maxLen at ha2;generalize p.nodes.length=nn at *;generalize p.faces.length=nf at *;clear hR gV hV hpa hm hfl;go_enter Tryz.func41,Tryz.ntmps41;go_upto_region 1 with fail;obtain ⟨W1,hW⟩:∃ W:World,W=w.alloc (.cells #[.slice An nn cn,.slice Aa al.length ca,.slice Af nf cf] 26):=⟨_,rfl⟩;have X2:ah W1 w.heap.size 26 #[.slice An nn cn,.slice Aa al.length ca,.slice Af nf cf]:=by rw [hW];exact ah.made rfl _ _
 have HB1:=avE (show Below w.heap.size w W1 by rw [hW];exact bA (bR w) _);rw [<- hW];clear hW;have dh:=avE X2;clear X2;go_wp2_with fail;go_loopw [8,9,10,11,12] (fun u8 u9 u10 u11 u12 wr=>∃ (k:Nat) (s:Option Cd),k<=al.length/\u12=.int .i64 k/\u8=.int .i64 (sA s)/\u9=.int .i64 (sK s)/\u10=.int .i64 (sN s)/\u11=.bool s.isSome/\DL p aN (p.aj.drop k) s=R/\Below W1.heap.size W1 wr) (fun _ _ _ _ u _=>al.length-(intOf u).toNat)
 case atStart => exact ⟨0,none,avK _,rfl,rfl,rfl,rfl,rfl,HR.out,bR W1⟩
 case round =>
  obtain ⟨k,s,hk,rfl,rfl,rfl,rfl,rfl,Ub,hb⟩:=hrel;obtain ⟨wo,rfl⟩:∃ wo:World,wo=wr:=⟨_,rfl⟩;have Hb:=avE hb;have ai0:=avE Ub;clear hb Ub;have X2:=dh.out.keep Hb.out;by_cases hlt:k<al.length
  ·have hlt':k<p.aj.length:=by rw [qL.out];exact hlt
   obtain ⟨b,o,rfl,hlb,c0,-⟩:=(jr.out.mono (bT HB1.out Hb.out)).ar hlt;obtain ⟨a,hfa⟩:=ata hlt';have hid:=Rq.out k hlt' hlt;have hnx:=ai0.out;rw [as9 p aN _ k hlt' s] at hnx;rw [hid] at hfa hnx;rw [<- as6 (aN:=aN) hfa] at hnx;have oD:=avE hnx;have Ee:=Sz.out a (CW hfa);clear hid hnx;generalize al[k].1.id=id at *;have lZ:=avE hfa;clear hfa;have k1:(k:Int)<al.length:=by omega
   have k2:0<=(k:Int):=by omega
   have iT:=avE (bT HB1.out Hb.out);obtain ⟨aG,aI,aJ,aO,-,-,-⟩:=X2.aF;go_wp2_with fail;refine (HA.out id _ iT.out).mono ?_;rintro e w3 ⟨v3,rfl,hb3,hpv⟩;rw [lZ.out] at hpv ⊢;simp only [avU,Option.isSome_some] at hpv ⊢;obtain ⟨Av,cv,rfl,hv1,hv2,-⟩:=hpv;unfold maxLen at hv2;unfold jZ;obtain ⟨n,hn⟩:∃ n,a.via.length=n:=⟨_,rfl⟩;rw [hn] at hv1 Ee oD ⊢;have HN:=avE hn;clear hn;have dW:=avE (dh.out.keep (bT Hb.out hb3));have HB3:=avE (bT Hb.out hb3);clear hb3 X2 aG aI aJ aO c0 hlb;go_upto_region 7 with fail;obtain ⟨W4,hW⟩:∃ W:World,W=w3.alloc (.cells #[.int .i64 a.id,.int .i64 a.fr,.int .i64 a.dst,.slice Av n cv,.int .i64 a.left,.int .i64 a.right] 50):=⟨_,rfl⟩;have ql:ah W4 w3.heap.size 50 #[.int .i64 a.id,.int .i64 a.fr,.int .i64 a.dst,.slice Av n cv,.int .i64 a.left,.int .i64 a.right]:=by rw [hW];exact ah.made rfl _ _
   have hA:Below w3.heap.size w3 W4:=by rw [hW];exact bA (bR w3) _
   have HB4:=avE (bT HB3.out hA);have dI:=avE (dW.out.keep hA);have atc:=avE ql;rw [<- hW];have hz:(qQ p aN a 0).foldl kQ s=s:=by
    have:qQ p aN a 0=[]:=by unfold qQ;split<;>rfl
    rw [this];rfl
   have HZ:=avE hz;clear hW hA ql dW HB3 hz;generalize a.id=aid at *;generalize a.fr=Vz at *;generalize a.dst=VA at *;generalize a.left=alf at *;generalize a.right=art at *;go_wp2_with fail;go_loopw [8,9,10,11,16] (fun u8 u9 u10 u11 u16 wr=>∃ (j:Nat) (s':Option Cd),j<=n/\u16=.int .i64 j/\u8=.int .i64 (sA s')/\u9=.int .i64 (sK s')/\u10=.int .i64 (sN s')/\u11=.bool s'.isSome/\(qQ p aN a j).foldl kQ s=s'/\Below W4.heap.size W4 wr) (fun _ _ _ _ u _=>n-(intOf u).toNat)
   case atStart => exact ⟨0,s,avK _,rfl,rfl,rfl,rfl,rfl,HZ.out,bR W4⟩
   case round =>
    obtain ⟨j,s',hj,rfl,rfl,rfl,rfl,rfl,Ub,hb⟩:=hrel;obtain ⟨wi,rfl⟩:∃ wi:World,wi=wr:=⟨_,rfl⟩;have Uc:=avE hb;have JQ:=avE Ub;clear hb Ub;have ql:=atc.out.keep Uc.out;have X2:=dI.out.keep Uc.out;have jW:=avE (bT HB1.out (bT HB4.out Uc.out));by_cases hjl:j<n
    ·have j1:(j:Int)<n:=by omega
     have hjv:j<a.via.length:=by rw [HN.out];exact hjl
     try clear aG
     try clear aI
     try clear aJ
     try clear aO
     obtain ⟨aG,aI,aJ,aO,-,-,-⟩:=X2.aF;obtain ⟨wE,wF,wG,acM,acN,acO,acP,-,-,-,-,-,-⟩:=ql.gX;go_wp2_with fail;refine (HF.out id j _ jW.out).mono ?_;rintro e w5 ⟨rfl,hb5⟩;clear X2 aG aI aJ aO ql wE wF wG acM acN acO acP;have bC:=avE (bT Uc.out hb5);clear hb5;obtain ⟨f,hf⟩:∃ f,rW p id j=f:=⟨_,rfl⟩;rw [hf]
     cases f
     case false =>
      have hnx:=JQ.out;rw [<- as7 lZ.out hjv hf] at hnx;have L6:=avE hnx;clear hnx hf;go_wp2_with fail;exact ⟨⟨j+1,s',by omega,by go_num,rfl,rfl,rfl,rfl,L6.out,bC.out⟩,by simp [intOf];omega⟩
     case true =>
      obtain ⟨x,y,z,sz,h3,hsz,hnx⟩:=as8 (aN:=aN) lZ.out hjv hf;have hfo:=congrArg (fun l=>l.foldl kQ s) hnx;simp only [List.foldl_append] at hfo;rw [JQ.out] at hfo;have L6:=avE hfo;have HT3:=avE (H3.out id j);rw [h3] at HT3;clear hnx hfo hf h3;have X2:=dI.out.keep bC.out;have ai1:=avE (bT HB1.out (bT HB4.out bC.out))
      try clear aG
      try clear aI
      try clear aJ
      try clear aO
      obtain ⟨aG,aI,aJ,aO,-,-,-⟩:=X2.aF;go_wp2_with fail;refine (HT3.out _ ai1.out).mono ?_;rintro e w6 ⟨v6,rfl,hb6,hp6⟩;simp only [avU,Option.isSome_some] at hp6 ⊢;have jq:=avE (bT bC.out hb6);have yj:=avE (as5 v6 x y z w6 hp6);rw [hsz] at yj;obtain ⟨A6,c6,rfl,-⟩:=hp6;clear X2 aG aI aJ aO hb6 hsz;go_wp2_with fail;refine yj.out.mono ?_;rintro e w7 ⟨rfl,hb7⟩;have gW:=avE (bT jq.out hb7);clear hb7 yj jq ai1 bC;obtain ⟨A0,hA0⟩:∃ x,sA s'=x:=⟨_,rfl⟩;obtain ⟨K0,hK0⟩:∃ x,sK s'=x:=⟨_,rfl⟩;obtain ⟨N0,hN0⟩:∃ x,sN s'=x:=⟨_,rfl⟩;obtain ⟨F0,OG⟩:∃ x,s'.isSome=x:=⟨_,rfl⟩;rw [hA0,hK0,hN0,OG];have zI:=avE hA0;have Pj:=avE hK0;have ML:=avE hN0;have EN:=avE OG;clear hA0 hK0 hN0 OG;by_cases ht:sz<aN
      case neg =>
       have HE:=avE (show (qQ p aN a (j+1)).foldl kQ s=s' by rw [L6.out,if_neg (by simpa using ht)];rfl);go_wp2_with fail
       first
       | exact ⟨⟨j+1,s',by omega,by go_num,by rw [zI.out],by rw [Pj.out],by rw [ML.out],by rw [EN.out],HE.out,gW.out⟩,by simp [intOf];omega⟩
       | (go_roundw;case rel=>exact ⟨j+1,s',by omega,by go_num,by rw [zI.out],by rw [Pj.out],by rw [ML.out],by rw [EN.out],HE.out,gW.out⟩;case measure=>(simp [intOf];omega))
      case pos =>
       have hE:(qQ p aN a (j+1)).foldl kQ s=kQ s' ⟨id,j,sz⟩:=by rw [L6.out,if_pos (by simpa using ht)];rfl
       cases F0
       case false =>
        have hs:s'=none:=by have:=EN.out;cases s' with
         | none=>rfl
         | some _=>cases this
        have HE:=avE (show (qQ p aN a (j+1)).foldl kQ s=some ⟨id,j,sz⟩ by rw [hE,hs];rfl);clear hs hE;go_wp2_with fail
        first
        | exact ⟨⟨j+1,some ⟨id,j,sz⟩,by omega,by go_num,rfl,rfl,rfl,rfl,HE.out,gW.out⟩,by simp [intOf];omega⟩
        | (go_roundw;case rel=>exact ⟨j+1,some ⟨id,j,sz⟩,by omega,by go_num,rfl,rfl,rfl,rfl,HE.out,gW.out⟩;case measure=>(simp [intOf];omega))
       case true =>
        obtain ⟨bb,hs⟩:∃ bb,s'=some bb:=by have:=EN.out;cases s' with
         | none=>cases this
         | some x=>exact ⟨x,rfl⟩
        have hbn:bb.n=N0:=by rw [<- ML.out,hs];rfl
        have hbi:bb.id=A0:=by rw [<- zI.out,hs];rfl
        have hu:kQ s' ⟨id,j,sz⟩=if sz<N0\/sz=N0/\id<A0 then some ⟨id,j,sz⟩ else s':=by
         rw [hs];unfold kQ;simp only [hbn,hbi]
        have HU:=avE (hE.trans hu);clear hs hbn hbi hu hE;by_cases q1:sz<N0
        ·have HE:=avE (show (qQ p aN a (j+1)).foldl kQ s=some ⟨id,j,sz⟩ by rw [HU.out,if_pos (.inl q1)]);go_wp2_with fail
         first
         | exact ⟨⟨j+1,some ⟨id,j,sz⟩,by omega,by go_num,rfl,rfl,rfl,rfl,HE.out,gW.out⟩,by simp [intOf];omega⟩
         | (go_roundw;case rel=>exact ⟨j+1,some ⟨id,j,sz⟩,by omega,by go_num,rfl,rfl,rfl,rfl,HE.out,gW.out⟩;case measure=>(simp [intOf];omega))
        ·by_cases q2:sz=N0
         ·have f2:(sz == N0)=true:=by simpa using q2
          by_cases q3:id<A0
          ·have HE:=avE (show (qQ p aN a (j+1)).foldl kQ s=some ⟨id,j,sz⟩ by rw [HU.out,if_pos (.inr ⟨q2,q3⟩)]);clear q2;go_wp2_with fail
           first
           | exact ⟨⟨j+1,some ⟨id,j,sz⟩,by omega,by go_num,rfl,rfl,rfl,rfl,HE.out,gW.out⟩,by simp [intOf];omega⟩
           | (go_roundw;case rel=>exact ⟨j+1,some ⟨id,j,sz⟩,by omega,by go_num,rfl,rfl,rfl,rfl,HE.out,gW.out⟩;case measure=>(simp [intOf];omega))
          ·have HE:=avE (show (qQ p aN a (j+1)).foldl kQ s=s' by rw [HU.out,if_neg Pe]);clear q2;go_wp2_with fail
           first
           | exact ⟨⟨j+1,s',by omega,by go_num,by rw [zI.out],by rw [Pj.out],by rw [ML.out],by rw [EN.out],HE.out,gW.out⟩,by simp [intOf];omega⟩
           | (go_roundw;case rel=>exact ⟨j+1,s',by omega,by go_num,by rw [zI.out],by rw [Pj.out],by rw [ML.out],by rw [EN.out],HE.out,gW.out⟩;case measure=>(simp [intOf];omega))
         ·have f2:(sz == N0)=false:=by simpa using q2
          have HE:=avE (show (qQ p aN a (j+1)).foldl kQ s=s' by rw [HU.out,if_neg Pe]);clear q2;go_wp2_with fail
          first
          | exact ⟨⟨j+1,s',by omega,by go_num,by rw [zI.out],by rw [Pj.out],by rw [ML.out],by rw [EN.out],HE.out,gW.out⟩,by simp [intOf];omega⟩
          | (go_roundw;case rel=>exact ⟨j+1,s',by omega,by go_num,by rw [zI.out],by rw [Pj.out],by rw [ML.out],by rw [EN.out],HE.out,gW.out⟩;case measure=>(simp [intOf];omega))
    ·obtain rfl:j=n:=by omega
     have HE:=avE (show DL p aN (p.aj.drop (k+1)) s'=R by rw [<- JQ.out];exact oD.out);have j1:¬ (j:Int)<j:=by omega
     try clear wE
     try clear wF
     try clear wG
     try clear acM
     try clear acN
     try clear acO
     try clear acP
     obtain ⟨wE,wF,wG,acM,acN,acO,acP,-,-,-,-,-,-⟩:=ql.gX;go_wp2;go_roundw
     case rel => exact ⟨k+1,s',by omega,by go_num,rfl,rfl,rfl,rfl,HE.out,bT HB4.out Uc.out⟩
     case measure => simp [intOf];omega
  ·obtain rfl:k=al.length:=by omega
   have HE:=avE (show s=R by
    have t:=ai0.out;rw [List.drop_of_length_le (by rw [qL.out];exact awe _)] at t;exact t)
   have k1:¬ (al.length:Int)<al.length:=by omega
   try clear aG
   try clear aI
   try clear aJ
   try clear aO
   obtain ⟨aG,aI,aJ,aO,-,-,-⟩:=X2.aF;go_wp2_with fail;exact bodyPost_ret (atb rfl _ _) rfl ⟨by rw [<- HE.out];rfl,bT HB1.out Hb.out⟩
end Go.Proofs.YtialfdomhoojiaaGreat
