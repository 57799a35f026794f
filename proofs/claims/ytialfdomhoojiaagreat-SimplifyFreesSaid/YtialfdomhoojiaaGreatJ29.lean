import Derived.Test.YtialfdomhoojiaaGreatJ16
import Derived.Test.YtialfdomhoojiaaGreatGE
import Derived.Test.YtialfdomhoojiaaGreatJ17
import Derived.Test.YtialfdomhoojiaaGreatJ18
import Derived.Test.YtialfdomhoojiaaGreatJ28
import Derived.Test.YtialfdomhoojiaaGreatGC
import Derived.Test.YtialfdomhoojiaaGreatJ01
import Derived.Test.YtialfdomhoojiaaGreatGB
set_option linter.unusedSimpArgs false
set_option linter.unusedVariables false
namespace Go.Proofs.YtialfdomhoojiaaGreat
open Go.RowKit
set_option maxRecDepth 100000 in
set_option maxHeartbeats 4000000 in
theorem aiR (v:Value) (p:Pl) (a:Ar) (va:Value) (w:World) (h:dh w v p) :
  Calls Tryz.prog 100 #[v,gZ a va] w fun e w'=>e=.returned (.bool (xA p a))/\Below w.heap.size w w':=by
 rw [Zu];obtain ⟨vn,_,vf,al,rfl,hpa,-,⟨⟨A,c,rfl,hn,hc,hR⟩,hV⟩,-⟩:=h;rw [hpa];unfold maxLen at hc;have HR:=Lib.hid hR;have HV:=Lib.hid hV;obtain ⟨L,hL⟩:∃ L:List Ar,al.map (·.1)=L:=⟨_,rfl⟩;obtain ⟨f,hf⟩:∃ f:Ar->Bool,sN a=f:=⟨_,rfl⟩;have mX:=Lib.hid (show L.length=al.length by rw [<- hL,List.length_map]);have H8:=Lib.hid (fun k (hk:k<L.length) (hk':k<al.length)=>show L[k]=al[k].1 from by subst hL;rw [List.getElem_map]);have HF:=Lib.hid (fun x=>congrFun hf x);rw [hL,hf];clear hR hV hL hf hpa;obtain ⟨id,fr,dst,via,lf,rt⟩:=a;unfold gZ;simp only;go_enter Tryz.func100,Tryz.ntmps100;go_upto_region 1 with fail;obtain ⟨W1,hW⟩:∃ W:World,W=(w.alloc (.cells #[vn,.slice A al.length c,vf] 26)).alloc (.cells #[.int .i64 id,.int .i64 fr,.int .i64 dst,va,.int .i64 lf,.int .i64 rt] 50):=⟨_,rfl⟩;have X2:ah W1 w.heap.size 26 #[vn,.slice A al.length c,vf]:=by rw [hW];exact (ah.made rfl _ _).alloc _
 have X3:ah W1 (w.heap.size+1) 50 #[.int .i64 id,.int .i64 fr,.int .i64 dst,va,.int .i64 lf,.int .i64 rt]:=by rw [hW];exact ah.made (by simp) _ _
 have hB1:Below w.heap.size w W1:=by rw [hW];exact bA (bA (bR w) _) _
 have HB1:=Lib.hid hB1;rw [<- hW];clear hW hB1;have eF:=Lib.hid X2;have dP:=Lib.hid X3;clear X2 X3;go_wp2_with fail;go_loopw [5] (fun u wr=>∃ k:Nat,k<=al.length/\u=.int .i64 k/\(∀ j (hj:j<L.length),j<k->f L[j]=false)/\Below W1.heap.size W1 wr) (fun u _=>al.length-(intOf u).toNat)
 case atStart => exact ⟨0,Nat.zero_le _,rfl,fun j _ h=>by omega,bR W1⟩
 case round =>
  obtain ⟨k,hk,rfl,hno,hb⟩:=hrel;obtain ⟨wo,rfl⟩:∃ wo:World,wo=wr:=⟨_,rfl⟩;have Hb:=Lib.hid hb;have jg:=Lib.hid hno;clear hb hno;have X2:=eF.out.keep Hb.out;have X3:=dP.out.keep Hb.out;by_cases hlt:k<al.length
  ·obtain ⟨b,o,rfl,hlb,c0,c1,c2,c3,c4,c5⟩:=(HR.out.mono (bT HB1.out Hb.out)).ar hlt;obtain ⟨Av,cv,hva,hv1,hv2,-⟩:=HV.out k hlt;unfold maxLen at hv2;have hv3:=Nat.le_trans hv1 hv2;clear hv1 hv2;have hkm:k<L.length:=by rw [mX.out];exact hlt
   have he:=Lib.hid (H8.out k hkm hlt);rw [hva] at c3;have hfe:f al[k].1=sN ⟨id,fr,dst,via,lf,rt⟩ al[k].1:=(HF.out _).symm;unfold sN at hfe;have Nk:=Lib.hid hfe;clear hva hfe;obtain ⟨z,hz⟩:∃ z,f al[k].1=z:=⟨_,rfl⟩;have HZ:=Lib.hid hz;rw [hz] at Nk;clear hz;generalize al[k].1=x at *;obtain ⟨xi,xf,xd,xv,xl,xr⟩:=x;simp only at *;obtain ⟨n,hn'⟩:∃ n,xv.length=n:=⟨_,rfl⟩;rw [hn'] at Nk c3 hv3;clear hn';have k1:(k:Int)<al.length:=by omega
   have k2:0<=(k:Int):=by omega
   obtain ⟨bF,bH,bI,bM,-,-,-⟩:=X2.aJ;obtain ⟨aW,aX,aY,dK,yj,yt,yu,-,-,-,-,-,-⟩:=X3.eY;go_upto_region 5 with fail;obtain ⟨W4,hW⟩:∃ W:World,W=wo.alloc (.cells #[.int .i64 xi,.int .i64 xf,.int .i64 xd,.slice Av n cv,.int .i64 xl,.int .i64 xr] 50):=⟨_,rfl⟩;have X6:ah W4 wo.heap.size 50 #[.int .i64 xi,.int .i64 xf,.int .i64 xd,.slice Av n cv,.int .i64 xl,.int .i64 xr]:=by rw [hW];exact ah.made rfl _ _
   have hB4:Below wo.heap.size wo W4:=by rw [hW];exact bA (bR wo) _
   have HB4:=Lib.hid (bT Hb.out hB4);rw [<- hW];clear hW X2 bF bH bI bM aW aX aY dK yj yt yu c0 c1 c2 c3 c4 c5 hlb;replace X3:=X3.keep hB4;clear hB4
   try clear aW
   try clear aX
   try clear aY
   try clear dK
   try clear yj
   try clear yt
   try clear yu
   obtain ⟨aW,aX,aY,dK,yj,yt,yu,-,-,-,-,-,-⟩:=X3.eY;obtain ⟨gu,gI,iP,rU,yF,yG,yH,-,-,-,-,-,-⟩:=X6.eY;have ER:=Lib.hid (show z=((xi != id) && (((n:Int) == 0) && ((xf == fr) && (xd == dst) || (xf == dst) && (xd == fr)))) from by
    rw [Nk.out];congr 1
    ·simp [bne];rfl
    ·congr 1;rw [Bool.eq_iff_iff];simp)
   clear Nk
   cases e1:(xi != id)<;>cases e2:((n:Int) == 0)<;>cases e3:(xf == fr)<;>cases e4:(xd == dst)<;>cases e5:(xf == dst)<;>cases e6:(xd == fr) <;>
    (have hh:=ER.out
     rw [e1,e2,e3,e4,e5,e6] at hh;simp only [Bool.and_true,Bool.and_false,Bool.true_and,Bool.false_and,Bool.or_true,Bool.or_false,Bool.false_or,Bool.true_or] at hh;have HH:=Lib.hid hh;clear hh ER;go_wp2_with fail
     first
    | (go_ret; exact ⟨aT (List.any_eq_true.2 ⟨_,List.getElem_mem hkm,by rw [he.out,HZ.out,HH.out]⟩).symm,bT HB1.out HB4.out⟩)
    | (go_roundw; (case rel => exact ⟨k+1,by omega,by go_num,fun j hj hjk=>if e:j<k then jg.out j hj e else (by have:j=k:=(by omega);subst this;rw [he.out,HZ.out,HH.out]),HB4.out⟩); (case measure => simp [intOf];omega)))
  ·obtain rfl:k=al.length:=by omega
   try clear bF
   try clear bH
   try clear bI
   try clear bM
   obtain ⟨bF,bH,bI,bM,-,-,-⟩:=X2.aJ;go_wp2_with fail;go_ret;exact ⟨aT (by
    symm;rw [<- Bool.not_eq_true,List.any_eq_true];rintro ⟨x,hx,e⟩;obtain ⟨j,hj,rfl⟩:=List.mem_iff_getElem.1 hx;rw [jg.out j hj (by rw [mX.out] at hj;exact hj)] at e
    cases e),bT HB1.out Hb.out⟩
def zO (p:Pl) (arc i:Int):Option (List Pt) :=
 match findAr p.au arc with
 | none=>none
 | some a=>if i<0\/(a.via.length:Int)<=i then none else if jk p a=true then some (((aK p a).drop i.toNat).take 3) else none
def aiS (w:World) (r:Option (List Pt)) (e:Ending) (w':World):Prop :=
 ∃ v,e=.returned (.tuple #[v,.bool r.isSome])/\Below w.heap.size w w'/\bU w' v (r.getD [])
set_option maxRecDepth 100000 in
set_option maxHeartbeats 4000000 in
theorem aiT (v:Value) (p:Pl) (arc i:Int) (w:World) (h:dh w v p) (hm:jV p) :
  Calls Tryz.prog 95 #[v,.int .i64 arc,.int .i64 i] w (aiS w (zO p arc i)):=by
 have HA:=Lib.hid (fun W (hW:Below w.heap.size w W)=>NT v p arc W (h.mono hW) hm.short);have HP:=Lib.hid (fun W (hW:Below w.heap.size w W)=>acd v p arc W (h.mono hW) hm.short);have hvl:=hm.via;obtain ⟨R,hR⟩:∃ R,zO p arc i=R:=⟨_,rfl⟩;rw [hR];unfold zO at hR;have HR:=Lib.hid hR;obtain ⟨_,_,_,al,rfl,-,⟨An,cn,rfl,-⟩,⟨⟨Aa,ca,rfl,-⟩,-⟩,⟨Af,cf,rfl,-⟩⟩:=h;generalize p.nodes.length=nn at *;generalize p.faces.length=nf at *;generalize al.length=na at *;clear hR hm;have hpo:=fun a (h:findAr p.au arc=some a)=>QH h;have hpn:findAr p.au arc=none->pathOf p arc=none:=fun h=>by unfold pathOf;rw [h]
 have lN:=Lib.hid hpo;have Tt:=Lib.hid hpn;clear hpo hpn;go_enter Tryz.func95,Tryz.ntmps95;go_upto_region 1 with fail;obtain ⟨W1,hW⟩:∃ W:World,W=w.alloc (.cells #[.slice An nn cn,.slice Aa na ca,.slice Af nf cf] 26):=⟨_,rfl⟩;have X3:ah W1 w.heap.size 26 #[.slice An nn cn,.slice Aa na ca,.slice Af nf cf]:=by rw [hW];exact ah.made rfl _ _
 have HB1:=Lib.hid (show Below w.heap.size w W1 by rw [hW];exact bA (bR w) _);rw [<- hW];clear hW;have dP:=Lib.hid X3;obtain ⟨aW,aX,aY,dK,-,-,-⟩:=X3.aJ;go_wp2_with fail;refine (HA.out _ HB1.out).mono ?_;rintro e w2 ⟨va,rfl,hb2,hpv⟩;have HB2:=Lib.hid (bT HB1.out hb2);have qX:=Lib.hid (dP.out.keep hb2);clear hb2 X3 aW aX aY dK dP HB1 HA;obtain ⟨Av,cv,rfl,hv1,hv2,-⟩:=hpv;unfold maxLen at hv2;obtain ⟨r,hr⟩:∃ r,findAr p.au arc=r:=⟨_,rfl⟩;rw [hr] at hv1 ⊢;have dL:=HR.out;rw [hr] at dL;have Hr:=Lib.hid hr;clear hr HR
 cases r with
 | none =>
  have hf:=Lib.hid (show none=R from dL);rw [Tt.out Hr.out] at HP;clear dL Tt lN;unfold gZ;simp only [Option.getD_none];simp only [Option.getD_none] at hv1;go_upto_region 2 with fail;obtain ⟨W3,hW⟩:∃ W:World,W=w2.alloc (.cells #[.int .i64 iO.id,.int .i64 iO.fr,.int .i64 iO.dst,.slice Av iO.via.length cv,.int .i64 iO.left,.int .i64 iO.right] 50):=⟨_,rfl⟩;have hA3:Below w2.heap.size w2 W3:=by rw [hW];exact bA (bR w2) _
  have HB3:=Lib.hid (bT HB2.out hA3);have X3:=qX.out.keep hA3
  try rw [<- hW]
  clear hW hA3 hv1 hv2
  try clear aW
  try clear aX
  try clear aY
  try clear dK
  obtain ⟨aW,aX,aY,dK,-,-,-⟩:=X3.aJ;go_wp2_with fail;refine (HP.out _ HB3.out).mono ?_;rintro e w4 ⟨A4,c4,rfl,hb4,-⟩;have HB4:=Lib.hid (bT HB3.out hb4);clear hb4 qX HB2 HB3 X3 aW aX aY dK;simp only [Option.getD_none,List.length_nil,Option.isSome_none,Bool.false_eq_true,if_false];go_wp2_with fail;go_ret2;exact ⟨_,by rw [<- hf.out];rfl,HB4.out,by rw [<- hf.out];exact Sl.nil _⟩
 | some a =>
  have hav:=hvl a (yw Hr.out);simp only [Option.getD_some] at hv1 ⊢;simp only at dL;have Ir:=lN.out a Hr.out;rw [Ir] at HP;unfold gZ;obtain ⟨vn,hvn⟩:∃ n,a.via.length=n:=⟨_,rfl⟩;rw [hvn] at hv1 hav dL ⊢;have LC:=Lib.hid hvn;clear hvn lN Tt Ir hvl;go_upto_region 2 with fail;obtain ⟨W3,hW⟩:∃ W:World,W=w2.alloc (.cells #[.int .i64 a.id,.int .i64 a.fr,.int .i64 a.dst,.slice Av vn cv,.int .i64 a.left,.int .i64 a.right] 50):=⟨_,rfl⟩;have X7:ah W3 w2.heap.size 50 #[.int .i64 a.id,.int .i64 a.fr,.int .i64 a.dst,.slice Av vn cv,.int .i64 a.left,.int .i64 a.right]:=by rw [hW];exact ah.made rfl _ _
  have hA3:Below w2.heap.size w2 W3:=by rw [hW];exact bA (bR w2) _
  have HB3:=Lib.hid (bT HB2.out hA3);have X3:=qX.out.keep hA3;have lK:=Lib.hid X7;rw [<- hW];clear hW hA3 qX HB2 X7
  try clear aW
  try clear aX
  try clear aY
  try clear dK
  obtain ⟨aW,aX,aY,dK,-,-,-⟩:=X3.aJ;by_cases he:jk p a=true
  case neg =>
   rw [if_neg he] at HP;have hf:=Lib.hid (show none=R by rw [<- dL,if_neg he,ite_self]);clear he dL;go_wp2_with fail;refine (HP.out _ HB3.out).mono ?_;rintro e w4 ⟨A4,c4,rfl,hb4,-⟩;have HB4:=Lib.hid (bT HB3.out hb4);clear hb4 X3 aW aX aY dK;simp only [Option.getD_none,List.length_nil,Option.isSome_none,Bool.false_eq_true,if_false];go_wp2_with fail;go_ret2;exact ⟨_,by rw [<- hf.out];rfl,HB4.out,by rw [<- hf.out];exact Sl.nil _⟩
  rw [if_pos he] at HP dL;have dL:=Lib.hid dL;clear he;go_wp2_with fail;refine (HP.out _ HB3.out).mono ?_;rintro e w4 ⟨A4,c4,rfl,hb4,lW⟩;have hpl:(aK p a).length=a.via.length+2:=jQ p a;simp only [Option.getD_some,Option.isSome_some,if_true] at lW ⊢;have jR:=Lib.hid (show bU w4 (.slice A4 (aK p a).length c4) (aK p a) from lW.sl);have HB4:=Lib.hid (bT HB3.out hb4);have X7:=lK.out.keep hb4;clear hb4 lW X3 aW aX aY dK lK HB3;rw [LC.out] at hpl;generalize aK p a=PP at *;rw [hpl];rw [hpl] at jR;have lS:=Lib.hid hpl;clear hpl;have hc4:vn+2<=c4/\c4<=9223372036854775807:=by
   obtain ⟨_,_,e,h1,h2,-⟩:=jR.out;injection e with e1 e2 e3;subst e3;unfold maxLen at h2;rw [lS.out] at h1;exact ⟨h1,h2⟩
  by_cases hi0:i<0
  ·have hf:=Lib.hid (show none=R by rw [<- dL.out,if_pos (.inl hi0)]);clear dL;go_wp2_with fail;go_ret2;exact ⟨_,by rw [<- hf.out];rfl,HB4.out,by rw [<- hf.out];exact Sl.nil _⟩
  obtain ⟨fU,fV,nC,zZ,Ad,Ae,Ag,-,-,-,-,-,-⟩:=X7.eY;by_cases hi1:(vn:Int)<=i
  ·have hf:=Lib.hid (show none=R by rw [<- dL.out,if_pos (.inr hi1)]);clear dL;go_wp2_with fail;go_ret2;exact ⟨_,by rw [<- hf.out];rfl,HB4.out,by rw [<- hf.out];exact Sl.nil _⟩
  have hf:=dL.out;rw [if_neg (by omega)] at hf;obtain ⟨m,rfl⟩:∃ m:Nat,i=m:=⟨i.toNat,by omega⟩;have hmn:m<vn:=by omega
  rw [Int.toNat_natCast] at hf;have MZ:=Lib.hid hf;have hrun:=aby Tryz.underlying46 Rw A4 (vn+2) c4 m (m+3) (by omega) (by omega) hc4.1 (m:Int) ((m:Int)+3) rfl (by omega);have HM:=Lib.hid (fun W (hW:Below w4.heap.size w4 W)=>Sl.abz (l:=PP) (A:=A4) (c:=c4) (w:=W) iU (by have t:=jR.out.mono hW;rw [<- lS.out] at t;exact t) m (m+3) (by omega) (by rw [lS.out];omega));clear hf dL;obtain ⟨cA,hcA⟩:∃ a,rJ A4 c4 m 2=a:=⟨_,rfl⟩;rw [hcA] at hrun HM;clear hcA;have h3:m+3-m=3:=by omega
  rw [h3] at hrun HM;clear h3;go_wp2_with fail;go_ret2;exact ⟨.slice cA 3 (c4-m),by rw [<- MZ.out];rfl,HB4.out,by rw [<- MZ.out];exact HM.out w4 (bR w4)⟩
def vU (a b c q:Pt):Bool:=!decide (q=a) && (!decide (q=b) && (!decide (q=c) && oK a b c q))
theorem aiU {a b c:Pt} (ha:fK a=true) (hb:fK b=true) (hc:fK c=true) (q:Pt):vU a b c q=sJ a b c q:=by
 unfold vU sJ;rw [af8 ha hb hc];simp
theorem aiV {p:Pl} {arc i:Int} (h:zO p arc i=none):oM p arc i=false:=by
 unfold zO at h;unfold oM
 cases e:findAr p.au arc with
 | none=>rfl
 | some a =>
  rw [e] at h;simp only at h ⊢;split
  · rfl
  ·rename_i h1;rw [if_neg h1] at h;split
   ·rename_i h2;rw [if_pos h2] at h
    cases h
   · rfl
theorem aiW {l:List Pt} {m:Nat} (h:m+2<l.length):(l.drop m).take 3=[l.getD m aQ,l.getD (m+1) aQ,l.getD (m+2) aQ]:=by
 rw [List.drop_eq_getElem_cons (by omega:m<l.length),List.drop_eq_getElem_cons (by omega:m+1<l.length),List.drop_eq_getElem_cons (by omega:m+1+1<l.length)];simp only [List.take_succ_cons,List.take_zero,List.getD_eq_getElem?_getD];rw [List.getElem?_eq_getElem (by omega:m<l.length),List.getElem?_eq_getElem (by omega:m+1<l.length),List.getElem?_eq_getElem (by omega:m+2<l.length)];rfl
theorem aiX {p:Pl} {arc i:Int} {L:List Pt} (h:zO p arc i=some L):∃ a x y z,findAr p.au arc=some a/\L=[x,y,z] /\
  oM p arc i=(fK x && (fK y && (fK z && (!((oU p).any (vU x y z)) && ((!decide (a.fr=a.dst) || decide (3<=a.via.length)) && (!decide (a.via.length=1) || !xA p a)))))):=by
 unfold zO at h;unfold oM
 cases e:findAr p.au arc with
 | none=>rw [e] at h;cases h
 | some a =>
  rw [e] at h;simp only at h ⊢;split at h
  · cases h
  rename_i h1;rw [if_neg h1];split at h
  case isFalse => cases h
  rename_i h2;rw [if_pos h2];obtain ⟨m,rfl⟩:∃ m:Nat,i=m:=⟨i.toNat,by omega⟩;rw [Int.toNat_natCast] at h ⊢;have hl:=jQ p a;rw [aiW (by omega)] at h;injection h with h;refine ⟨a,_,_,_,rfl,h.symm,?_⟩;unfold pz;generalize (aK p a).getD m aQ=x;generalize (aK p a).getD (m+1) aQ=y;generalize (aK p a).getD (m+2) aQ=z
  cases hx:fK x
  · rfl
  cases hy:fK y
  · rfl
  cases hz:fK z
  · rfl
  have e1:(oU p).any (vU x y z)=((p.nodes.any fun n=>sJ x y z n.pt) || p.au.any fun b=>b.via.any (sJ x y z)):=by
   rw [show vU x y z=sJ x y z from funext (aiU hx hy hz)];unfold oU;rw [List.any_append,List.any_map,List.any_flatMap];rfl
  rw [e1];have e2:decide (3<=a.via.length) = !decide (a.via.length<3):=by
   rw [Bool.eq_iff_iff];simp
  rw [e2]
  cases (p.nodes.any fun n=>sJ x y z n.pt)<;>cases (p.au.any fun b=>b.via.any (sJ x y z))<;>cases decide (a.fr=a.dst)<;>cases decide (a.via.length<3)<;>cases decide (a.via.length=1)<;>cases xA p a<;>rfl
set_option maxRecDepth 100000 in
set_option maxHeartbeats 8000000 in
theorem aiY (v:Value) (p:Pl) (arc i:Int) (w:World) (h:dh w v p) (hm:jV p) (hfl:(p.au.flatMap (·.via)).length<=1048576) :
  Calls Tryz.prog 39 #[v,.int .i64 arc,.int .i64 i] w fun e w'=>e=.returned (.bool (oM p arc i))/\Below w.heap.size w w':=by
 have H3:=Lib.hid (fun W (hW:Below w.heap.size w W)=>aiT v p arc i W (h.mono hW) hm);have CV:=Lib.hid (fun W (hW:Below w.heap.size w W)=>ab4 v p W (h.mono hW) (Nat.le_trans hm.lT (by omega)) hfl);have HA:=Lib.hid (fun W (hW:Below w.heap.size w W)=>NT v p arc W (h.mono hW) hm.short);have iG:=Lib.hid (fun a va W (hW:Below w.heap.size w W)=>aiR v p a va W (h.mono hW));have hpl:(oU p).length<=2097152:=by have:=hm.lT;unfold oU;rw [List.length_append,List.length_map];omega
 have hvl:=hm.via;obtain ⟨R,hR⟩:∃ R,oM p arc i=R:=⟨_,rfl⟩;rw [hR];obtain ⟨_,_,_,al,rfl,-,⟨An,cn,rfl,-⟩,⟨⟨Aa,ca,rfl,-⟩,-⟩,⟨Af,cf,rfl,-⟩⟩:=h;obtain ⟨r,hr⟩:∃ r,zO p arc i=r:=⟨_,rfl⟩;rw [hr] at H3;have HR:=Lib.hid hR;have Hr:=Lib.hid hr;have Rk:=Lib.hid hvl;have lS:=Lib.hid hpl;clear hR hr hvl hpl hm hfl;generalize p.nodes.length=nn at *;generalize p.faces.length=nf at *;generalize al.length=na at *;go_enter Tryz.func39,Tryz.ntmps39;go_upto_region 1 with fail;obtain ⟨W1,hW⟩:∃ W:World,W=w.alloc (.cells #[.slice An nn cn,.slice Aa na ca,.slice Af nf cf] 26):=⟨_,rfl⟩;have X3:ah W1 w.heap.size 26 #[.slice An nn cn,.slice Aa na ca,.slice Af nf cf]:=by rw [hW];exact ah.made rfl _ _
 have HB1:=Lib.hid (show Below w.heap.size w W1 by rw [hW];exact bA (bR w) _);rw [<- hW];clear hW;have dP:=Lib.hid X3;obtain ⟨aW,aX,aY,dK,-,-,-⟩:=X3.aJ;go_wp2_with fail;refine (H3.out _ HB1.out).mono ?_;rintro e w2 ⟨v3,rfl,hb2,hp3⟩;have HB2:=Lib.hid (bT HB1.out hb2);have qX:=Lib.hid (dP.out.keep hb2);clear hb2 X3 aW aX aY dK dP HB1 H3
 cases r with
 | none =>
  have hf:=Lib.hid (show false=R by rw [<- HR.out,aiV Hr.out]);simp only [Option.getD_none,Option.isSome_none] at hp3 ⊢;go_wp2_with fail;go_ret;exact ⟨aT hf.out,HB2.out⟩
 | some L =>
  obtain ⟨a,x,y,z,hfa,rfl,hfr⟩:=aiX Hr.out;rw [HR.out] at hfr;simp only [Option.getD_some,Option.isSome_some] at hp3 ⊢;have oh:=Lib.hid hp3;obtain ⟨A3,c3,rfl,hn3,hc3,xW⟩:=hp3;obtain ⟨g,o,rfl,hlb,a0,a1⟩:=xW.pt (k:=0) (by simp);obtain ⟨g',o',he,-,b0,b1⟩:=xW.pt (k:=1) (by simp);simp only [Option.some.injEq,Addr.mk.injEq,and_true] at he;obtain ⟨rfl,rfl⟩:=he;obtain ⟨g',o',he,-,c0,c1⟩:=xW.pt (k:=2) (by simp);simp only [Option.some.injEq,Addr.mk.injEq,and_true] at he;obtain ⟨rfl,rfl⟩:=he;simp only [List.getElem_cons_zero,List.getElem_cons_succ,Nat.zero_mul,Nat.add_zero,Nat.one_mul,Nat.reduceMul,Nat.add_assoc,Nat.reduceAdd] at a0 a1 b0 b1 c0 c1;simp only [List.length_cons,List.length_nil,Nat.zero_add,Nat.reduceAdd] at hn3 hc3 oh ⊢;have Hg:=Lib.hid (show ∀ W,Below w2.heap.size w2 W->g<W.heap.size/\W.cell? ⟨g,o,none⟩=some (.int .i64 x.x)/\W.cell? ⟨g,o+1,none⟩=some (.int .i64 x.y)/\W.cell? ⟨g,o+2,none⟩=some (.int .i64 y.x)/\W.cell? ⟨g,o+3,none⟩=some (.int .i64 y.y)/\W.cell? ⟨g,o+4,none⟩=some (.int .i64 z.x)/\W.cell? ⟨g,o+5,none⟩=some (.int .i64 z.y) from by
   intro W hb;exact ⟨Nat.lt_of_lt_of_le hlb hb.size,(hb.cell hlb).trans a0,(hb.cell hlb).trans a1,(hb.cell hlb).trans b0,(hb.cell hlb).trans b1,(hb.cell hlb).trans c0,(hb.cell hlb).trans c1⟩)
  have sU:=Lib.hid hfa;clear xW hn3 hfa hlb a0 a1 b0 b1 c0 c1;have zF:=Lib.hid (fun W=>NZ x W);have zG:=Lib.hid (fun W=>NZ y W);have zH:=Lib.hid (fun W=>NZ z W);have Tv:=Lib.hid (fun q W (hW:Below w2.heap.size w2 W)=>aiQ (.slice (some ⟨g,o,none⟩) 3 c3) x y z q W (oh.out.mono hW));have hE1:=fun q=>xZ q x;have hE2:=fun q=>xZ q y;have H9:=fun q=>xZ q z;have HE1:=Lib.hid hE1;have HE2:=Lib.hid hE2;have HE3:=Lib.hid H9;clear hE1 hE2 H9 hc3;unfold aF at zF zG zH Tv;generalize fK x=x1 at *;generalize fK y=y1 at *;generalize fK z=z1 at *;obtain ⟨hg1,a0,a1,b0,b1,c0,c1⟩:=Hg.out w2 (bR w2);go_wp2_with fail;refine (zF.out _).mono ?_;rintro e w3 ⟨rfl,hb3⟩;clear hg1 a0 a1 b0 b1 c0 c1;have HB3:=Lib.hid hb3;clear hb3
  cases x1
  case false =>
   have hf:=Lib.hid (show R=false from hfr);go_wp2_with fail;go_ret;exact ⟨aT hf.out.symm,bT HB2.out HB3.out⟩
  obtain ⟨hg1,a0,a1,b0,b1,c0,c1⟩:=Hg.out w3 HB3.out;go_wp2_with fail;refine (zG.out _).mono ?_;rintro e w4 ⟨rfl,hb4⟩;clear hg1 a0 a1 b0 b1 c0 c1;have HB4:=Lib.hid (bT HB3.out hb4);clear hb4 HB3
  cases y1
  case false =>
   have hf:=Lib.hid (show R=false from hfr);go_wp2_with fail;go_ret;exact ⟨aT hf.out.symm,bT HB2.out HB4.out⟩
  obtain ⟨hg1,a0,a1,b0,b1,c0,c1⟩:=Hg.out w4 HB4.out;go_wp2_with fail;refine (zH.out _).mono ?_;rintro e w5 ⟨rfl,hb5⟩;clear hg1 a0 a1 b0 b1 c0 c1;have cO:=Lib.hid (bT HB4.out hb5);clear hb5 HB4
  cases z1
  case false =>
   have hf:=Lib.hid (show R=false from hfr);go_wp2_with fail;go_ret;exact ⟨aT hf.out.symm,bT HB2.out cO.out⟩
  simp only [Bool.true_and] at hfr;have X3:=qX.out.keep cO.out;have qW:=Lib.hid hfr;clear hfr zF zG zH
  try clear aW
  try clear aX
  try clear aY
  try clear dK
  obtain ⟨aW,aX,aY,dK,-,-,-⟩:=X3.aJ;go_upto_region 4 with fail;go_wp2_with fail;refine (CV.out _ (bT HB2.out cO.out)).mono ?_;rintro e w6 ⟨v6,rfl,hb6,Es⟩;have lQ:=Lib.hid (bT cO.out hb6);clear hb6 X3 aW aX aY dK CV cO;have jR:=Lib.hid (show bU w6 v6 (oU p) from Es.sl);obtain ⟨Q,hQ⟩:∃ Q,oU p=Q:=⟨_,rfl⟩;rw [hQ] at jR qW lS;clear Es hQ;obtain ⟨A6,c6,rfl,hn6,hc6,Iz⟩:=jR.out;have HR6:=Lib.hid Iz;unfold maxLen at hc6;have hql:=lS.out;clear Iz hn6 hc6;go_wp2_with fail;go_loopw [10] (fun u wr=>∃ k:Nat,k<=Q.length/\u=.int .i64 k/\(∀ j (hj:j<Q.length),j<k->vU x y z Q[j]=false)/\Below w6.heap.size w6 wr) (fun u _=>Q.length-(intOf u).toNat)
  case atStart => exact ⟨0,Nat.zero_le _,rfl,fun j _ h=>by omega,bR w6⟩
  case round =>
   obtain ⟨k,hk,rfl,hno,hb⟩:=hrel;obtain ⟨wo,rfl⟩:∃ wo:World,wo=wr:=⟨_,rfl⟩;have Hb:=Lib.hid hb;have jg:=Lib.hid hno;clear hb hno;have jl:=Lib.hid (bT lQ.out Hb.out);by_cases hlt:k<Q.length
   ·obtain ⟨b,o6,rfl,hlb,d0,d1⟩:=(HR6.out.mono Hb.out).pt hlt;obtain ⟨q,hq⟩:∃ q,Q[k]=q:=⟨_,rfl⟩;rw [hq] at d0 d1;have Hq:=Lib.hid hq;have Fg:=Lib.hid (show vU x y z q=(!decide (q=x) && (!decide (q=y) && (!decide (q=z) && oK x y z q))) from rfl);have hE1:=HE1.out q;have hE2:=HE2.out q;have H9:=HE3.out q;have HW:=Lib.hid (fun W (hW:Below w2.heap.size w2 W)=>Tv.out q W hW);obtain ⟨d,hd⟩:∃ d,vU x y z q=d:=⟨_,rfl⟩;rw [hd] at Fg;have HD:=Lib.hid hd;clear hq hd;generalize decide (q=x)=e1 at *;generalize decide (q=y)=e2 at *;generalize decide (q=z)=e3 at *;generalize oK x y z q=wi at *;have k1:(k:Int)<Q.length:=by omega
    have k2:0<=(k:Int):=by omega
    obtain ⟨hg1,a0,a1,b0,b1,c0,c1⟩:=Hg.out wo jl.out;go_upto_region 8 with fail
    cases e1
    case true =>
     refine dN (Since wo) (.run 36 0 0 (.done)) (by kernel_rfl) (bD (bR _)) (by kernel_rfl) (by kernel_rfl) (Nat.le_of_ble_eq_true (by kernel_rfl)) ?_;intro dO QR aj aA hS
     iterate 9
      apply aH;exact aj;exact rfl;exact hS;exact rfl
      · intro _ hqc;go_simp;try rfl
      try simp only [pu]
     iterate 8
      refine iH aj rfl hS rfl rfl rfl rfl rfl ?_
      try simp only [pu]
     iterate 2
      apply aH;exact aj;exact rfl;exact hS;exact rfl
      · intro _ hqc;go_simp;try rfl
      try simp only [pu]
     iterate 8
      refine iH aj rfl hS rfl rfl rfl rfl rfl ?_
      try simp only [pu]
     iterate 2
      apply aH;exact aj;exact rfl;exact hS;exact rfl
      · intro _ hqc;go_simp;try rfl
      try simp only [pu]
     iterate 6
      refine iH aj rfl hS rfl rfl rfl rfl rfl ?_
      try simp only [pu]
     apply aH;exact aj;exact rfl;exact hS;exact rfl
     · intro _ hqc;go_simp;try rfl
     try simp only [pu]
     refine dF ?_;refine aA.down _ _ ?_;have hB:Below wo.heap.size wo wo.drew:=hS;clear hS aA aj;have kM:=Lib.hid (bT Hb.out hB);clear hB hg1 a0 a1 b0 b1 c0 c1 d0 d1 hlb;have hz:=Fg.out;simp only [Bool.not_true,Bool.not_false,Bool.true_and,Bool.false_and] at hz;go_wp2_with fail;go_roundw
     case rel => exact ⟨k+1,by omega,by go_num,fun j hj hjk=>if e:j<k then jg.out j hj e else by
      have:j=k:=by omega
      subst this;rw [Hq.out,HD.out,hz],kM.out⟩
     case measure => simp [intOf];omega
    cases e2
    case true =>
     refine dN (Since wo) (.run 36 0 0 (.done)) (by kernel_rfl) (bD (bR _)) (by kernel_rfl) (by kernel_rfl) (Nat.le_of_ble_eq_true (by kernel_rfl)) ?_;intro dO QR aj aA hS
     iterate 9
      apply aH;exact aj;exact rfl;exact hS;exact rfl
      · intro _ hqc;go_simp;try rfl
      try simp only [pu]
     iterate 8
      apply dw;exact aj;exact rfl;exact hS;iterate 4 exact rfl
      · intro _ hqc;go_simp;try rfl
      try simp only [pu]
     iterate 2
      apply aH;exact aj;exact rfl;exact hS;exact rfl
      · intro _ hqc;go_simp;try rfl
      try simp only [pu]
     iterate 8
      refine iH aj rfl hS rfl rfl rfl rfl rfl ?_
      try simp only [pu]
     iterate 2
      apply aH;exact aj;exact rfl;exact hS;exact rfl
      · intro _ hqc;go_simp;try rfl
      try simp only [pu]
     iterate 6
      refine iH aj rfl hS rfl rfl rfl rfl rfl ?_
      try simp only [pu]
     apply aH;exact aj;exact rfl;exact hS;exact rfl
     · intro _ hqc;go_simp;try rfl
     try simp only [pu]
     refine dF ?_;refine aA.down _ _ ?_;have hB:Below wo.heap.size wo wo.drew:=hS;clear hS aA aj;have kM:=Lib.hid (bT Hb.out hB);clear hB hg1 a0 a1 b0 b1 c0 c1 d0 d1 hlb;have hz:=Fg.out;simp only [Bool.not_true,Bool.not_false,Bool.true_and,Bool.false_and] at hz;go_wp2_with fail;go_roundw
     case rel => exact ⟨k+1,by omega,by go_num,fun j hj hjk=>if e:j<k then jg.out j hj e else by
      have:j=k:=by omega
      subst this;rw [Hq.out,HD.out,hz],kM.out⟩
     case measure => simp [intOf];omega
    cases e3
    case true =>
     refine dN (Since wo) (.run 36 0 0 (.done)) (by kernel_rfl) (bD (bR _)) (by kernel_rfl) (by kernel_rfl) (Nat.le_of_ble_eq_true (by kernel_rfl)) ?_;intro dO QR aj aA hS
     iterate 9
      apply aH;exact aj;exact rfl;exact hS;exact rfl
      · intro _ hqc;go_simp;try rfl
      try simp only [pu]
     iterate 8
      apply dw;exact aj;exact rfl;exact hS;iterate 4 exact rfl
      · intro _ hqc;go_simp;try rfl
      try simp only [pu]
     iterate 2
      apply aH;exact aj;exact rfl;exact hS;exact rfl
      · intro _ hqc;go_simp;try rfl
      try simp only [pu]
     iterate 8
      apply dw;exact aj;exact rfl;exact hS;iterate 4 exact rfl
      · intro _ hqc;go_simp;try rfl
      try simp only [pu]
     iterate 2
      apply aH;exact aj;exact rfl;exact hS;exact rfl
      · intro _ hqc;go_simp;try rfl
      try simp only [pu]
     iterate 6
      refine iH aj rfl hS rfl rfl rfl rfl rfl ?_
      try simp only [pu]
     apply aH;exact aj;exact rfl;exact hS;exact rfl
     · intro _ hqc;go_simp;try rfl
     try simp only [pu]
     refine dF ?_;refine aA.down _ _ ?_;have hB:Below wo.heap.size wo wo.drew:=hS;clear hS aA aj;have kM:=Lib.hid (bT Hb.out hB);clear hB hg1 a0 a1 b0 b1 c0 c1 d0 d1 hlb;have hz:=Fg.out;simp only [Bool.not_true,Bool.not_false,Bool.true_and,Bool.false_and] at hz;go_wp2_with fail;go_roundw
     case rel => exact ⟨k+1,by omega,by go_num,fun j hj hjk=>if e:j<k then jg.out j hj e else by
      have:j=k:=by omega
      subst this;rw [Hq.out,HD.out,hz],kM.out⟩
     case measure => simp [intOf];omega
    cases wi
    case false =>
     refine dN (Since wo) (.run 34 0 0 (.call 34 34359738367 (.take 35 68719476735 (.done)))) (by kernel_rfl) (bD (bR _)) (by kernel_rfl) (by kernel_rfl) (Nat.le_of_ble_eq_true (by kernel_rfl)) ?_;intro dO QR aj aA hS
     iterate 9
      apply aH;exact aj;exact rfl;exact hS;exact rfl
      · intro _ hqc;go_simp;try rfl
      try simp only [pu]
     iterate 8
      apply dw;exact aj;exact rfl;exact hS;iterate 4 exact rfl
      · intro _ hqc;go_simp;try rfl
      try simp only [pu]
     iterate 2
      apply aH;exact aj;exact rfl;exact hS;exact rfl
      · intro _ hqc;go_simp;try rfl
      try simp only [pu]
     iterate 8
      apply dw;exact aj;exact rfl;exact hS;iterate 4 exact rfl
      · intro _ hqc;go_simp;try rfl
      try simp only [pu]
     iterate 2
      apply aH;exact aj;exact rfl;exact hS;exact rfl
      · intro _ hqc;go_simp;try rfl
      try simp only [pu]
     iterate 5
      apply dw;exact aj;exact rfl;exact hS;iterate 4 exact rfl
      · intro _ hqc;go_simp;try rfl
      try simp only [pu]
     refine aS (i:=34) (aB aj rfl) (fun K hK=>?_);have ak:=Lib.hid hS;clear hS;refine aG (ig rfl (aB aj rfl) rfl rfl) ?_;go_simp;refine (HW.out _ (bT jl.out (bD (bR wo)))).mono ?_;rintro e bY ⟨rfl,dB⟩;have hS:Since wo bY:=bT (w:=wo) ak.out dB;clear ak;refine hK.out _ _ hS (fun _=>?_);clear hK K
     try simp only [pu]
     apply aH;exact aj;exact rfl;exact hS;exact rfl
     · intro _ hqc;go_simp;try rfl
     try simp only [pu]
     refine dF ?_;refine aA.down _ _ ?_;have hB:Below wo.heap.size wo bY:=hS;clear hS aA aj;have kM:=Lib.hid (bT Hb.out hB);clear hB hg1 a0 a1 b0 b1 c0 c1 d0 d1 hlb;have hz:=Fg.out;simp only [Bool.not_true,Bool.not_false,Bool.true_and,Bool.false_and] at hz;go_wp2_with fail;go_roundw
     case rel => exact ⟨k+1,by omega,by go_num,fun j hj hjk=>if e:j<k then jg.out j hj e else by
      have:j=k:=by omega
      subst this;rw [Hq.out,HD.out,hz],kM.out⟩
     case measure => simp [intOf];omega
    case true =>
     refine dN (Since wo) (.run 34 0 0 (.call 34 34359738367 (.take 35 68719476735 (.done)))) (by kernel_rfl) (bD (bR _)) (by kernel_rfl) (by kernel_rfl) (Nat.le_of_ble_eq_true (by kernel_rfl)) ?_;intro dO QR aj aA hS
     iterate 9
      apply aH;exact aj;exact rfl;exact hS;exact rfl
      · intro _ hqc;go_simp;try rfl
      try simp only [pu]
     iterate 8
      apply dw;exact aj;exact rfl;exact hS;iterate 4 exact rfl
      · intro _ hqc;go_simp;try rfl
      try simp only [pu]
     iterate 2
      apply aH;exact aj;exact rfl;exact hS;exact rfl
      · intro _ hqc;go_simp;try rfl
      try simp only [pu]
     iterate 8
      apply dw;exact aj;exact rfl;exact hS;iterate 4 exact rfl
      · intro _ hqc;go_simp;try rfl
      try simp only [pu]
     iterate 2
      apply aH;exact aj;exact rfl;exact hS;exact rfl
      · intro _ hqc;go_simp;try rfl
      try simp only [pu]
     iterate 5
      apply dw;exact aj;exact rfl;exact hS;iterate 4 exact rfl
      · intro _ hqc;go_simp;try rfl
      try simp only [pu]
     refine aS (i:=34) (aB aj rfl) (fun K hK=>?_);have ak:=Lib.hid hS;clear hS;refine aG (ig rfl (aB aj rfl) rfl rfl) ?_;go_simp;refine (HW.out _ (bT jl.out (bD (bR wo)))).mono ?_;rintro e bY ⟨rfl,dB⟩;have hS:Since wo bY:=bT (w:=wo) ak.out dB;clear ak;refine hK.out _ _ hS (fun _=>?_);clear hK K
     try simp only [pu]
     apply aH;exact aj;exact rfl;exact hS;exact rfl
     · intro _ hqc;go_simp;try rfl
     try simp only [pu]
     refine dF ?_;refine aA.down _ _ ?_;have hB:Below wo.heap.size wo bY:=hS;clear hS aA aj;have kM:=Lib.hid (bT Hb.out hB);clear hB hg1 a0 a1 b0 b1 c0 c1 d0 d1 hlb;have hz:=Fg.out;simp only [Bool.not_true,Bool.not_false,Bool.true_and,Bool.false_and] at hz;have hf:=Lib.hid (show R=false by
      have ha:Q.any (vU x y z)=true:=List.any_eq_true.2 ⟨_,List.getElem_mem hlt,by rw [Hq.out,HD.out,hz]⟩;rw [qW.out,ha];rfl)
     go_wp2_with fail;go_ret;exact ⟨aT hf.out.symm,bT HB2.out (bT lQ.out kM.out)⟩
   ·have hna:Q.any (vU x y z)=false:=by
     rw [<- Bool.not_eq_true,List.any_eq_true];rintro ⟨s,hs,e⟩;obtain ⟨j,hj,rfl⟩:=List.mem_iff_getElem.1 hs;rw [jg.out j hj (by omega)] at e
     cases e
    have hfr:=qW.out;rw [hna] at hfr;simp only [Bool.not_false,Bool.true_and] at hfr;have Tz:=Lib.hid hfr;clear hna hfr Tv HE1 HE2 HE3 qW;have k1:¬ (k:Int)<Q.length:=by omega
    have X3:=qX.out.keep jl.out;have kX:=Lib.hid (bT HB2.out jl.out)
    try clear aW
    try clear aX
    try clear aY
    try clear dK
    obtain ⟨aW,aX,aY,dK,-,-,-⟩:=X3.aJ;go_wp2_with fail;refine (HA.out _ kX.out).mono ?_;rintro e w7 ⟨v7,rfl,hb7,hpv⟩;rw [sU.out] at hpv ⊢;simp only [Option.getD_some,Option.isSome_some] at hpv ⊢;obtain ⟨Av,cv,rfl,hv1,hv2,-⟩:=hpv;have hav:=Rk.out a (yw sU.out);have HS:=Lib.hid (fun W (hW:Below w.heap.size w W)=>iG.out a (.slice Av a.via.length cv) W hW);obtain ⟨par,hpar⟩:∃ par,xA p a=par:=⟨_,rfl⟩;rw [hpar] at HS Tz;unfold gZ at HS ⊢;obtain ⟨vn,hvn⟩:∃ n,a.via.length=n:=⟨_,rfl⟩;rw [hvn] at hv1 hav Tz HS ⊢;clear hvn hpar iG;have jT:=Lib.hid (bT kX.out hb7);have LY:=Lib.hid (X3.keep hb7);clear hb7 X3 aW aX aY dK;go_upto_region 11 with fail;obtain ⟨W8,hW⟩:∃ W:World,W=w7.alloc (.cells #[.int .i64 a.id,.int .i64 a.fr,.int .i64 a.dst,.slice Av vn cv,.int .i64 a.left,.int .i64 a.right] 50):=⟨_,rfl⟩;have iL:ah W8 w7.heap.size 50 #[.int .i64 a.id,.int .i64 a.fr,.int .i64 a.dst,.slice Av vn cv,.int .i64 a.left,.int .i64 a.right]:=by rw [hW];exact ah.made rfl _ _
    have TB:Below w7.heap.size w7 W8:=by rw [hW];exact bA (bR w7) _
    have ku:=Lib.hid (bT jT.out TB);have X3:=LY.out.keep TB;rw [<- hW];clear hW TB
    try clear aW
    try clear aX
    try clear aY
    try clear dK
    obtain ⟨aW,aX,aY,dK,-,-,-⟩:=X3.aJ;obtain ⟨kU,kV,mG,qY,qZ,ru,rC,-,-,-,-,-,-⟩:=iL.eY;have hfr:=Tz.out;generalize a.fr=fr at *;generalize a.dst=dst at *;generalize a.id=aid at *;generalize a.left=lf at *;generalize a.right=rt at *;by_cases c1:fr=dst
    ·have f1:(fr != dst)=false:=by simpa using c1
     by_cases c2:3<=vn
     ·have f2:(3:Int)<=vn:=by omega
      have f3:((vn:Int) != 1)=true:=by simp;omega
      have hf:=Lib.hid (show true=R by rw [hfr];simp [c1,c2];omega);clear hfr c1;go_wp2_with fail;go_ret;exact ⟨aT hf.out,ku.out⟩
     ·have f2:¬ (3:Int)<=vn:=by omega
      have hf:=Lib.hid (show false=R by rw [hfr];simp [c1,c2]);clear hfr c1;go_wp2_with fail;go_ret;exact ⟨aT hf.out,ku.out⟩
    ·have f1:(fr != dst)=true:=by simpa using c1
     by_cases c3:vn=1
     ·have f3:((vn:Int) != 1)=false:=by simp;omega
      have hf:=Lib.hid (show (!par)=R by rw [hfr];simp [c1,c3]);clear hfr c1 c3;go_wp2_with fail;refine (HS.out _ ku.out).mono ?_;rintro e w9 ⟨rfl,su⟩;have kM:=Lib.hid (bT ku.out su);clear su;go_wp2_with fail;go_ret;exact ⟨aT hf.out,kM.out⟩
     ·have f3:((vn:Int) != 1)=true:=by simp;omega
      have hf:=Lib.hid (show true=R by rw [hfr];simp [c1,c3]);clear hfr c1 c3;go_wp2_with fail;go_ret;exact ⟨aT hf.out,ku.out⟩
end Go.Proofs.YtialfdomhoojiaaGreat
