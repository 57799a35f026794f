import Derived.Test.YtnhdmghgjngcaaaGreatJ18
import Derived.Test.YtnhdmghgjngcaaaGreatJ01
import Derived.Test.YtnhdmghgjngcaaaGreatGB
set_option linter.unusedSimpArgs false
set_option linter.unusedVariables false
namespace Go.Proofs.YtnhdmghgjngcaaaGreat
open Go.RowKit

def parF (a b:Ar):Bool:=decide (b.id≠a.id) && (decide (b.via.length=0) && (decide (b.fr=a.fr) && decide (b.dst=a.dst) || decide (b.fr=a.dst) && decide (b.dst=a.fr)))
theorem paraS_any (p:Pl) (a:Ar):paraS p a=p.arcs.any (parF a):=rfl
def IdxR (f:Ar→Bool) (l:List Ar) (r:Int):Prop:=(r=-1∧∀ j (hj:j<l.length),f l[j]=false)∨∃ (k:Nat) (hk:k<l.length),r=(k:Int)∧f l[k]=true∧∀ j (hj:j<l.length),j<k→f l[j]=false
theorem IdxR.any {f:Ar→Bool} {l:List Ar} {r:Int} (h:IdxR f l r):decide (0≤r)=l.any f:=by
 rcases h with ⟨rfl,h⟩ | ⟨k,hk,rfl,h,-⟩
 ·
  symm
  rw [show decide ((0:Int)≤-1)=false by decide,← Bool.not_eq_true,List.any_eq_true]
  rintro ⟨x,hx,e⟩
  obtain ⟨j,hj,rfl⟩:=List.mem_iff_getElem.1 hx
  rw [h j hj] at e
  cases e
 ·
  rw [decide_eq_true (by omega)]
  exact (List.any_eq_true.2 ⟨_,List.getElem_mem hk,h⟩).symm

set_option maxRecDepth 100000 in
set_option maxHeartbeats 4000000 in
theorem par1_spec (a b:Ar) (va:Value) (A:Option Addr) (c:Nat) (g:Nat) (w:World) (h:Blk w g 41 #[.int .i64 a.id,.int .i64 a.fr,.int .i64 a.dst,va,.int .i64 a.left,.int .i64 a.right]) :
  Calls Tryz.prog 69 #[arV b (.slice A b.via.length c),.pointer (some ⟨g,0,none⟩)] w fun e w'=>e=.returned (.bool (parF a b))∧Below w.heap.size w w':=by
 obtain ⟨R,hR⟩:∃ R,parF a b=R:=⟨_,rfl⟩
 rw [hR]
 obtain ⟨y,hy⟩:∃ y,((b.fr == a.fr) && (b.dst == a.dst) || (b.fr == a.dst) && (b.dst == a.fr))=y:=⟨_,rfl⟩
 have e0:parF a b=((b.id != a.id) && (decide (b.via.length=0) && ((b.fr == a.fr) && (b.dst == a.dst) || (b.fr == a.dst) && (b.dst == a.fr)))):=by
  unfold parF
  congr 1
  simp [bne]
  rfl
 rw [e0,hy] at hR
 clear e0
 have HX:=Lib.hid h
 unfold arV
 generalize b.via.length=n at *
 obtain ⟨id,fr,dst,via,lf,rt⟩:=a
 obtain ⟨id',fr',dst',via',lf',rt'⟩:=b
 simp only at *
 have HR:=Lib.hid hR;have HY:=Lib.hid hy
 clear hR hy h
 go_enter Tryz.func69,Tryz.ntmps69
 go_upto_region 1 with fail
 obtain ⟨W1,hW⟩:∃ W:World,W=w.alloc (.cells #[.int .i64 id',.int .i64 fr',.int .i64 dst',.slice A n c,.int .i64 lf',.int .i64 rt'] 41):=⟨_,rfl⟩
 have X2:Blk W1 w.heap.size 41 #[.int .i64 id',.int .i64 fr',.int .i64 dst',.slice A n c,.int .i64 lf',.int .i64 rt']:=by rw [hW];exact Blk.made rfl _ _
 have HB1:=Lib.hid (show Below w.heap.size w W1 by rw [hW];exact bA (bR w) _)
 have X1:=HX.out.keep HB1.out
 rw [← hW]
 clear hW
 obtain ⟨X1l,X1a,X1b,X1c,X1d,X1e,X1f,-,-,-,-,-,-⟩:=X1.facts6
 obtain ⟨X2l,X2a,X2b,X2c,X2d,X2e,X2f,-,-,-,-,-,-⟩:=X2.facts6
 go_cut [4] (fun u wx=>u=.bool y∧wx=W1)
 case first =>
  have hy:=HY.out
  cases e1:(fr' == fr)<;>cases e2:(dst' == dst)<;>cases e3:(fr' == dst)<;>cases e4:(dst' == fr) <;>
   (rw [e1,e2,e3,e4] at hy
    have Hy:=Lib.hid hy
    clear hy
    go_wp2_with fail
    go_meet
    case rel => exact ⟨by rw [← Hy.out];rfl,rfl⟩)
 case rest =>
 obtain ⟨rfl,hw⟩:=hcut
 subst hw
 have hR:=HR.out
 cases e5:(id' != id)<;>cases e6:((n:Int) == 0) <;>
  (have q6:=e6
   simp only [beq_iff_eq,beq_eq_false_iff_ne,ne_eq,Int.natCast_eq_zero,Int.ofNat_eq_zero] at q6
   simp only [q6,decide_true,decide_false] at hR
   rw [e5] at hR
   have Hr:=Lib.hid hR
   clear hR q6
   go_wp2_with fail
   go_ret
   exact ⟨by rw [← Hr.out];simp,HB1.out⟩)
set_option maxRecDepth 100000 in
set_option maxHeartbeats 4000000 in
theorem IdxPar_spec (va:Value) (al:List (Ar×Value)) (a:Ar) (v:Value) (g:Nat) (w:World) (h:Ars w va al) (hx:Blk w g 41 #[.int .i64 a.id,.int .i64 a.fr,.int .i64 a.dst,v,.int .i64 a.left,.int .i64 a.right]) (hlen:al.length≤1000000) :
  Calls Tryz.prog 37 #[va,.func (.func 69) #[] #[.pointer (some ⟨g,0,none⟩)]] w fun e w'=>(∃ r,e=.returned (.int .i64 r)∧IdxR (parF a) (al.map (·.1)) r)∧Below w.heap.size w w':=by
 obtain ⟨⟨A,c,rfl,hn,hc,hR⟩,hV⟩:=h
 have HR:=Lib.hid hR;have HV:=Lib.hid hV;have HX:=Lib.hid hx
 obtain ⟨L,hL⟩:∃ L:List Ar,al.map (·.1)=L:=⟨_,rfl⟩
 obtain ⟨f,hf⟩:∃ f:Ar→Bool,parF a=f:=⟨_,rfl⟩
 have HLl:=Lib.hid (show L.length=al.length by rw [← hL,List.length_map])
 have HLa:=Lib.hid (fun k (hk:k<L.length) (hk':k<al.length)=>show L[k]=al[k].1 from by subst hL;rw [List.getElem_map])
 have HF:=Lib.hid (fun x=>congrFun hf x)
 rw [hL,hf]
 clear hR hV hx hL hf
 go_enter Tryz.func37,Tryz.ntmps37
 go_wp2_with fail
 go_loopw [8] (fun u wr=>∃ k:Nat,k≤al.length∧u=.int .i64 k∧(∀ j (hj:j<L.length),j<k→f L[j]=false)∧Below w.heap.size w wr) (fun u _=>al.length-(intOf u).toNat)
 case atStart => exact ⟨0,Nat.zero_le _,rfl,fun j _ h=>by omega,bR w⟩
 case round =>
  obtain ⟨k,hk,rfl,hno,hb⟩:=hrel
  obtain ⟨wo,rfl⟩:∃ wo:World,wo=wr:=⟨_,rfl⟩
  have Hb:=Lib.hid hb;have HNo:=Lib.hid hno
  clear hb hno
  by_cases hlt:k<al.length
  ·
   obtain ⟨b,o,rfl,hlb,c0,c1,c2,c3,c4,c5⟩:=(HR.out.mono Hb.out).ar hlt
   obtain ⟨Av,cv,hva,-⟩:=HV.out k hlt
   have hkm:k<L.length:=by rw [HLl.out];exact hlt
   have he:=Lib.hid (HLa.out k hkm hlt)
   rw [hva] at c3
   have HP:=Lib.hid (fun W (hW:Below w.heap.size w W)=>show Calls Tryz.prog 69 #[arV al[k].1 (.slice Av al[k].1.via.length cv),.pointer (some ⟨g,0,none⟩)] W fun e w'=>e=.returned (.bool (f al[k].1))∧Below W.heap.size W w' from by rw [← HF.out];exact par1_spec a al[k].1 v Av cv g W (HX.out.keep hW))
   obtain ⟨z,hz⟩:∃ z,f al[k].1=z:=⟨_,rfl⟩
   have HZ:=Lib.hid hz
   rw [hz] at HP
   unfold arV at HP
   clear hz hva
   have k1:(k:Int)<al.length:=by omega
   have k2:0≤(k:Int):=by omega
   go_wp2_with fail
   refine (HP.out _ Hb.out).mono ?_
   rintro e w2 ⟨rfl,hb2⟩
   have HB2:=Lib.hid (bT Hb.out hb2)
   clear hb2 c0 c1 c2 c3 c4 c5
   cases z
   case true =>
    go_wp2_with fail
    go_ret
    exact ⟨⟨_,rfl,.inr ⟨k,hkm,rfl,by rw [he.out];exact HZ.out,HNo.out⟩⟩,HB2.out⟩
   case false =>
    go_wp2_with fail
    go_roundw
    case rel => exact ⟨k+1,by omega,by go_num,fun j hj hjk=>if e:j<k then HNo.out j hj e else by
     have:j=k:=by omega
     subst this
     rw [he.out]
     exact HZ.out,HB2.out⟩
    case measure => simp [intOf];omega
  ·
   obtain rfl:k=al.length:=by omega
   go_wp2_with fail
   go_ret
   exact ⟨⟨_,rfl,.inl ⟨rfl,fun j hj=>HNo.out j hj (by rw [HLl.out] at hj;exact hj)⟩⟩,Hb.out⟩

set_option maxRecDepth 100000 in
set_option maxHeartbeats 4000000 in
theorem step1_spec (b:Ar) (arc:Int) (va:Value) (g:Nat) (w:World) (h:Blk w g 3 #[.int .i64 arc]) :
  Calls Tryz.prog 38 #[arV b va,.pointer (some ⟨g,0,none⟩)] w fun e w'=>e=.returned (.bool (b.id == arc))∧Below w.heap.size w w':=by
 have hA:=h.alloc (.cells #[.int .i64 b.id,.int .i64 b.fr,.int .i64 b.dst,va,.int .i64 b.left,.int .i64 b.right] 41)
 have hB:=Blk.made (w:=w) rfl 41 #[.int .i64 b.id,.int .i64 b.fr,.int .i64 b.dst,va,.int .i64 b.left,.int .i64 b.right]
 unfold arV
 go_enter Tryz.func38,Tryz.ntmps38
 go_upto_region 1 with fail
 obtain ⟨W1,hW⟩:∃ W:World,W=w.alloc (.cells #[.int .i64 b.id,.int .i64 b.fr,.int .i64 b.dst,va,.int .i64 b.left,.int .i64 b.right] 41):=⟨_,rfl⟩
 rw [← hW] at hA hB ⊢
 have HB1:=Lib.hid (show Below w.heap.size w W1 by rw [hW];exact bA (bR w) _)
 clear hW h
 obtain ⟨hAl,hAa,-⟩:=hA.facts1
 obtain ⟨hBl,hBa,hBb,hBc,hBd,hBe,hBf,-,-,-,-,-,-⟩:=hB.facts6
 go_wp2_with fail
 go_ret
 exact ⟨rfl,HB1.out⟩

set_option maxRecDepth 100000 in
set_option maxHeartbeats 4000000 in
theorem IdxStep_spec (va:Value) (al:List (Ar×Value)) (arc:Int) (g:Nat) (w:World) (h:Ars w va al) (hx:Blk w g 3 #[.int .i64 arc]) (hlen:al.length≤1000000) :
  Calls Tryz.prog 37 #[va,.func (.func 38) #[] #[.pointer (some ⟨g,0,none⟩)]] w fun e w'=>(∃ r,e=.returned (.int .i64 r)∧IdxR (fun x:Ar=>x.id == arc) (al.map (·.1)) r)∧Below w.heap.size w w':=by
 obtain ⟨⟨A,c,rfl,hn,hc,hR⟩,hV⟩:=h
 have HR:=Lib.hid hR;have HV:=Lib.hid hV;have HX:=Lib.hid hx
 obtain ⟨L,hL⟩:∃ L:List Ar,al.map (·.1)=L:=⟨_,rfl⟩
 obtain ⟨f,hf⟩:∃ f:Ar→Bool,(fun x:Ar=>x.id == arc)=f:=⟨_,rfl⟩
 have HLl:=Lib.hid (show L.length=al.length by rw [← hL,List.length_map])
 have HLa:=Lib.hid (fun k (hk:k<L.length) (hk':k<al.length)=>show L[k]=al[k].1 from by subst hL;rw [List.getElem_map])
 have HF:=Lib.hid (fun x=>congrFun hf x)
 rw [hL,hf]
 clear hR hV hx hL hf
 go_enter Tryz.func37,Tryz.ntmps37
 go_wp2_with fail
 go_loopw [8] (fun u wr=>∃ k:Nat,k≤al.length∧u=.int .i64 k∧(∀ j (hj:j<L.length),j<k→f L[j]=false)∧Below w.heap.size w wr) (fun u _=>al.length-(intOf u).toNat)
 case atStart => exact ⟨0,Nat.zero_le _,rfl,fun j _ h=>by omega,bR w⟩
 case round =>
  obtain ⟨k,hk,rfl,hno,hb⟩:=hrel
  obtain ⟨wo,rfl⟩:∃ wo:World,wo=wr:=⟨_,rfl⟩
  have Hb:=Lib.hid hb;have HNo:=Lib.hid hno
  clear hb hno
  by_cases hlt:k<al.length
  ·
   obtain ⟨b,o,rfl,hlb,c0,c1,c2,c3,c4,c5⟩:=(HR.out.mono Hb.out).ar hlt
   obtain ⟨Av,cv,hva,-⟩:=HV.out k hlt
   have hkm:k<L.length:=by rw [HLl.out];exact hlt
   have he:=Lib.hid (HLa.out k hkm hlt)
   rw [hva] at c3
   have HP:=Lib.hid (fun W (hW:Below w.heap.size w W)=>show Calls Tryz.prog 38 #[arV al[k].1 (.slice Av al[k].1.via.length cv),.pointer (some ⟨g,0,none⟩)] W fun e w'=>e=.returned (.bool (f al[k].1))∧Below W.heap.size W w' from by rw [← HF.out];exact step1_spec al[k].1 arc (.slice Av al[k].1.via.length cv) g W (HX.out.keep hW))
   obtain ⟨z,hz⟩:∃ z,f al[k].1=z:=⟨_,rfl⟩
   have HZ:=Lib.hid hz
   rw [hz] at HP
   unfold arV at HP
   clear hz hva
   have k1:(k:Int)<al.length:=by omega
   have k2:0≤(k:Int):=by omega
   go_wp2_with fail
   refine (HP.out _ Hb.out).mono ?_
   rintro e w2 ⟨rfl,hb2⟩
   have HB2:=Lib.hid (bT Hb.out hb2)
   clear hb2 c0 c1 c2 c3 c4 c5
   cases z
   case true =>
    go_wp2_with fail
    go_ret
    exact ⟨⟨_,rfl,.inr ⟨k,hkm,rfl,by rw [he.out];exact HZ.out,HNo.out⟩⟩,HB2.out⟩
   case false =>
    go_wp2_with fail
    go_roundw
    case rel => exact ⟨k+1,by omega,by go_num,fun j hj hjk=>if e:j<k then HNo.out j hj e else by
     have:j=k:=by omega
     subst this
     rw [he.out]
     exact HZ.out,HB2.out⟩
    case measure => simp [intOf];omega
  ·
   obtain rfl:k=al.length:=by omega
   go_wp2_with fail
   go_ret
   exact ⟨⟨_,rfl,.inl ⟨rfl,fun j hj=>HNo.out j hj (by rw [HLl.out] at hj;exact hj)⟩⟩,Hb.out⟩

set_option maxRecDepth 100000 in
set_option maxHeartbeats 4000000 in
theorem Cont_spec (va:Value) (al:List (Ar×Value)) (a:Ar) (v:Value) (g:Nat) (w:World) (h:Ars w va al) (hx:Blk w g 41 #[.int .i64 a.id,.int .i64 a.fr,.int .i64 a.dst,v,.int .i64 a.left,.int .i64 a.right]) (hlen:al.length≤1000000) :
  Calls Tryz.prog 68 #[va,.func (.func 69) #[] #[.pointer (some ⟨g,0,none⟩)]] w fun e w'=>e=.returned (.bool ((al.map (·.1)).any (parF a)))∧Below w.heap.size w w':=by
 have HI:=Lib.hid (IdxPar_spec va al a v g w h hx hlen)
 obtain ⟨⟨A,c,rfl,-⟩,-⟩:=h
 clear hx
 go_enter Tryz.func68,Tryz.ntmps68
 go_wp2_with fail
 refine HI.out.mono ?_
 rintro e w1 ⟨⟨r,rfl,hr⟩,hb1⟩
 have HB1:=Lib.hid hb1;have HRr:=Lib.hid hr.any
 clear hb1 hr
 go_wp2_with fail
 go_ret
 exact ⟨ret_bool (by rw [← HRr.out]),HB1.out⟩

set_option maxRecDepth 100000 in
set_option maxHeartbeats 4000000 in
theorem Parallel_spec (v vv:Value) (p:Pl) (a:Ar) (w:World) (h:PlV w v p) (hlen:p.arcs.length≤1000000) :
  Calls Tryz.prog 49 #[v,arV a vv] w fun e w'=>e=.returned (.bool (paraS p a))∧Below w.heap.size w w':=by
 obtain ⟨vn,va,vf,al,rfl,hpa,hN,hA,hF⟩:=h
 rw [paraS_any,hpa]
 rw [hpa,List.length_map] at hlen
 obtain ⟨z,hz⟩:∃ z,(al.map (·.1)).any (parF a)=z:=⟨_,rfl⟩
 have HC:=Lib.hid (fun g W (hW:Below w.heap.size w W) hx=>Cont_spec va al a vv g W (hA.mono hW) hx hlen)
 rw [hz] at HC ⊢
 clear hz
 obtain ⟨⟨Aa,ca,rfl,-⟩,-⟩:=hA
 obtain ⟨An,cn,rfl,-⟩:=hN
 obtain ⟨Af,cf,rfl,-⟩:=hF
 unfold arV
 generalize hnn:p.nodes.length=nn at *
 generalize hnf:p.faces.length=nf at *
 generalize hal:al.length=na at *
 clear hpa
 go_enter Tryz.func49,Tryz.ntmps49
 go_upto_region 1 with fail
 obtain ⟨W1,hW⟩:∃ W:World,W=(w.alloc (.cells #[.slice An nn cn,.slice Aa na ca,.slice Af nf cf] 26)).alloc (.cells #[.int .i64 a.id,.int .i64 a.fr,.int .i64 a.dst,vv,.int .i64 a.left,.int .i64 a.right] 41):=⟨_,rfl⟩
 have X2:Blk W1 w.heap.size 26 #[.slice An nn cn,.slice Aa na ca,.slice Af nf cf]:=by rw [hW];exact (Blk.made rfl _ _).alloc _
 have HX3:=Lib.hid (show Blk W1 (w.heap.size+1) 41 #[.int .i64 a.id,.int .i64 a.fr,.int .i64 a.dst,vv,.int .i64 a.left,.int .i64 a.right] by rw [hW];exact Blk.made (by simp) _ _)
 have HB1:=Lib.hid (show Below w.heap.size w W1 by rw [hW];exact bA (bA (bR w) _) _)
 rw [← hW]
 clear hW hnn hnf hal
 obtain ⟨X2l,X2a,X2b,X2c,-,-,-⟩:=X2.facts3
 go_wp2_with fail
 refine (HC.out _ _ HB1.out HX3.out).mono ?_
 rintro e w2 ⟨rfl,hb2⟩
 have HB2:=Lib.hid (bT HB1.out hb2)
 clear hb2
 go_wp2_with fail
 go_ret
 exact ⟨rfl,HB2.out⟩
end Go.Proofs.YtnhdmghgjngcaaaGreat
namespace Go.Proofs.YtnhdmghgjngcaaaGreat
open Go.RowKit

inductive RPlanT where
 | done
 | take (i m:Nat) (r:RPlanT)
 | call (i m:Nat) (r:RPlanT)
 | two (i m:Nat) (r:RPlanT) (j m':Nat) (s:RPlanT)
 | three (i m:Nat) (r:RPlanT) (j m':Nat) (s:RPlanT) (k m'':Nat) (u:RPlanT)
 | four (i m:Nat) (r:RPlanT) (j m':Nat) (s:RPlanT) (k m'':Nat) (u:RPlanT) (n m3:Nat) (v:RPlanT)
def RPlanT.run:Nat→Nat→Nat→RPlanT→RPlanT
 | 0,_,_,r=>r
 | n+1,i,m,r=>.take i (m ||| (1 <<< i)) (RPlanT.run n (i+1) (m ||| (1 <<< i)) r)
def RPlanT.depth:RPlanT→Nat
 | .done=>0
 | .take _ _ r=>r.depth+1
 | .call _ _ r=>r.depth+1
 | .two _ _ r _ _ s=>Nat.max r.depth s.depth+1
 | .three _ _ r _ _ s _ _ u=>Nat.max r.depth (Nat.max s.depth u.depth)+1
 | .four _ _ r _ _ s _ _ u _ _ v=>Nat.max r.depth (Nat.max s.depth (Nat.max u.depth v.depth))+1
def planOkT (ops:Array Oper):RPlanT→Array Bool→Prop
 | .done,l=>Region.ready .any ops l=[]
 | .take i _ r,l=>Region.free .any ops l i=true∧(Region.ready .any ops l).contains i=true∧planOkT ops r (l.setIfInBounds i true)
 | .call i _ r,l=>Region.ready .any ops l=[i]∧planOkT ops r (l.setIfInBounds i true)
 | .two i _ r j _ s,l=>Region.ready .any ops l=[i,j]∧planOkT ops r (l.setIfInBounds i true)∧planOkT ops s (l.setIfInBounds j true)
 | .three i _ r j _ s k _ u,l=>Region.ready .any ops l=[i,j,k]∧planOkT ops r (l.setIfInBounds i true)∧planOkT ops s (l.setIfInBounds j true)∧planOkT ops u (l.setIfInBounds k true)
 | .four i _ r j _ s k _ u n _ v,l=>Region.ready .any ops l=[i,j,k,n]∧planOkT ops r (l.setIfInBounds i true)∧planOkT ops s (l.setIfInBounds j true)∧planOkT ops u (l.setIfInBounds k true)∧planOkT ops v (l.setIfInBounds n true)
def planMT (ops:Array Oper):RPlanT→Nat→Bool
 | .done,m=>(readyM ops m).isEmpty
 | .take i m' r,m=>Nat.beq m' (m ||| (1 <<< i)) && (freeM ops m i && (upM ops m i && planMT ops r m'))
 | .call i m' r,m=>Nat.beq m' (m ||| (1 <<< i)) && (decide (readyM ops m=[i]) && planMT ops r m')
 | .two i m' r j m'' s,m=>Nat.beq m' (m ||| (1 <<< i)) && (Nat.beq m'' (m ||| (1 <<< j)) && (decide (readyM ops m=[i,j]) && (planMT ops r m' && planMT ops s m'')))
 | .three i m' r j m'' s k m3 u,m=>Nat.beq m' (m ||| (1 <<< i)) && (Nat.beq m'' (m ||| (1 <<< j)) && (Nat.beq m3 (m ||| (1 <<< k)) && (decide (readyM ops m=[i,j,k]) && (planMT ops r m' && (planMT ops s m'' && planMT ops u m3)))))
 | .four i m' r j m'' s k m3 u n m4 v,m=>Nat.beq m' (m ||| (1 <<< i)) && (Nat.beq m'' (m ||| (1 <<< j)) && (Nat.beq m3 (m ||| (1 <<< k)) && (Nat.beq m4 (m ||| (1 <<< n)) && (decide (readyM ops m=[i,j,k,n]) && (planMT ops r m' && (planMT ops s m'' && (planMT ops u m3 && planMT ops v m4)))))))
theorem planMT_ok (ops:Array Oper):∀ (p:RPlanT) (m:Nat),m<2 ^ ops.size→planMT ops p m=true→planOkT ops p (maskArr ops.size m)
 | .done,m,hm,h=>by
  simp only [planMT,List.isEmpty_iff] at h
  show Region.ready .any ops _=[]
  rw [ready_mask _ _ hm,h]
 | .take i m' r,m,hm,h=>by
  simp only [planMT,Bool.and_eq_true,Nat.beq_eq] at h
  obtain ⟨h1,h2,h3,h4⟩:=h
  have hi:=upM_lt h3
  refine ⟨by rw [free_mask];exact h2,?_,?_⟩
  ·
   rw [ready_mask _ _ hm,List.contains_iff_mem]
   exact List.mem_filter.2 ⟨List.mem_range.2 hi,h3⟩
  ·
   rw [maskArr_set _ _ _ hi,← h1]
   exact planMT_ok ops r m' (by rw [h1];exact mask_lt hm hi) h4
 | .call i m' r,m,hm,h=>by
  simp only [planMT,Bool.and_eq_true,Nat.beq_eq,decide_eq_true_eq] at h
  obtain ⟨h1,h2,h3⟩:=h
  have hi:i<ops.size:=readyM_lt (m:=m) (by rw [h2];simp)
  refine ⟨by rw [ready_mask _ _ hm,h2],?_⟩
  rw [maskArr_set _ _ _ hi,← h1]
  exact planMT_ok ops r m' (by rw [h1];exact mask_lt hm hi) h3
 | .two i m' r j m'' s,m,hm,h=>by
  simp only [planMT,Bool.and_eq_true,Nat.beq_eq,decide_eq_true_eq] at h
  obtain ⟨h1,h2,h3,h4,h5⟩:=h
  have hi:i<ops.size:=readyM_lt (m:=m) (by rw [h3];simp)
  have hj:j<ops.size:=readyM_lt (m:=m) (by rw [h3];simp)
  refine ⟨by rw [ready_mask _ _ hm,h3],?_,?_⟩
  ·
   rw [maskArr_set _ _ _ hi,← h1]
   exact planMT_ok ops r m' (by rw [h1];exact mask_lt hm hi) h4
  ·
   rw [maskArr_set _ _ _ hj,← h2]
   exact planMT_ok ops s m'' (by rw [h2];exact mask_lt hm hj) h5
 | .three i m' r j m'' s k m3 u,m,hm,h=>by
  simp only [planMT,Bool.and_eq_true,Nat.beq_eq,decide_eq_true_eq] at h
  obtain ⟨h1,h2,h6,h3,h4,h5,h7⟩:=h
  have hi:i<ops.size:=readyM_lt (m:=m) (by rw [h3];simp)
  have hj:j<ops.size:=readyM_lt (m:=m) (by rw [h3];simp)
  have hk:k<ops.size:=readyM_lt (m:=m) (by rw [h3];simp)
  refine ⟨by rw [ready_mask _ _ hm,h3],?_,?_,?_⟩
  ·
   rw [maskArr_set _ _ _ hi,← h1]
   exact planMT_ok ops r m' (by rw [h1];exact mask_lt hm hi) h4
  ·
   rw [maskArr_set _ _ _ hj,← h2]
   exact planMT_ok ops s m'' (by rw [h2];exact mask_lt hm hj) h5
  ·
   rw [maskArr_set _ _ _ hk,← h6]
   exact planMT_ok ops u m3 (by rw [h6];exact mask_lt hm hk) h7
 | .four i m' r j m'' s k m3 u n m4 v,m,hm,h=>by
  simp only [planMT,Bool.and_eq_true,Nat.beq_eq,decide_eq_true_eq] at h
  obtain ⟨h1,h2,h6,h8,h3,h4,h5,h7,h9⟩:=h
  have hi:i<ops.size:=readyM_lt (m:=m) (by rw [h3];simp)
  have hj:j<ops.size:=readyM_lt (m:=m) (by rw [h3];simp)
  have hk:k<ops.size:=readyM_lt (m:=m) (by rw [h3];simp)
  have hn:n<ops.size:=readyM_lt (m:=m) (by rw [h3];simp)
  refine ⟨by rw [ready_mask _ _ hm,h3],?_,?_,?_,?_⟩
  ·
   rw [maskArr_set _ _ _ hi,← h1]
   exact planMT_ok ops r m' (by rw [h1];exact mask_lt hm hi) h4
  ·
   rw [maskArr_set _ _ _ hj,← h2]
   exact planMT_ok ops s m'' (by rw [h2];exact mask_lt hm hj) h5
  ·
   rw [maskArr_set _ _ _ hk,← h6]
   exact planMT_ok ops u m3 (by rw [h6];exact mask_lt hm hk) h7
  ·
   rw [maskArr_set _ _ _ hn,← h8]
   exact planMT_ok ops v m4 (by rw [h8];exact mask_lt hm hn) h9

section
variable {P:Program} {ops:Array Oper} {Q:Exit→Act→World→Prop} {S:World→Prop}
def PlannedT (P:Program) (ops:Array Oper) (Q:Exit→Act→World→Prop) (S:World→Prop) (p:RPlanT) (a:Act) (w:World):Prop :=
 ∀ (l:Array Bool) (f:Nat),Region.noSelect ops=true→planOkT ops p l→p.depth≤f→wpAnyH P .any ops Q S f l a w

theorem rt_start {id:Nat} {a:Act} {w:World} (S:World→Prop) (p:RPlanT) (hm:P.follows .mixedOrders=true) (hS:S w.drew)
  (hsel:Region.noSelect ops=true) (hp:planMT ops p 0=true) (hd:p.depth≤ops.size)
  (h:∀ ops' Q',PLift (ops'=ops)→PLift (∀ a w,Q .normal a w→Q' .normal a w)→S w.drew→PlannedT P ops' (NoPanic Q') S p a w.drew):(Code.region id ops true).wp P Q a w :=
 wp_region_noPanic (wp_region_held_drew hm hS fun hS=>h ops Q ⟨rfl⟩ ⟨fun _ _ h=>h⟩ hS _ _ hsel (by have:=planMT_ok ops p 0 (Nat.pow_pos (by omega)) hp;rwa [maskArr_zero] at this) hd)

theorem rt_take {i m:Nat} {oi:Oper} {r:RPlanT} {a:Act} {w:World} (hi:ops[i]? = some oi) (hS:S w)
  (h:∃ v:Value,YieldsIf P ops S oi v a∧PlannedT P ops (NoPanic Q) S r (a.put oi.dst v) w):PlannedT P ops (NoPanic Q) S (.take i m r) a w:=by
 obtain ⟨v,hy,h⟩:=h
 intro l f hsel hp hd
 simp only [planOkT] at hp
 cases f with
 | zero=>simp [RPlanT.depth] at hd
 | succ f=>exact wpAnyH_take hi hsel hp.1 hp.2.1 (fun _ _ _ h=>h) hy hS (h _ _ hsel hp.2.2 (by simpa [RPlanT.depth] using hd))

theorem rt_call {i m:Nat} {oi:Oper} {r:RPlanT} {a:Act} {w:World} (hi:ops[i]? = some oi)
  (h:∀ K':Act→World→Prop,Shut (∀ a w,S w→(S w→PlannedT P ops (NoPanic Q) S r a w)→K' a w)→if Region.wanted oi (yielded ops a.tmps)=true then Oper.wp P oi a w K' (NoPanic Q) else K' (a.put oi.dst undef) w) :
  PlannedT P ops (NoPanic Q) S (.call i m r) a w:=by
 intro l f hsel hp hd
 simp only [planOkT] at hp
 cases f with
 | zero=>simp [RPlanT.depth] at hd
 | succ f=>exact wpAnyH_ready hp.1 (by simp) (AllReadyH.cons hi (fun K' hK=>h K' (fun a w hS hW=>hK.out a w hS fun hS=>hW hS _ _ hsel hp.2 (by simpa [RPlanT.depth] using hd))) AllReadyH.nil)

theorem rt_two {i j m m':Nat} {oi oj:Oper} {r s:RPlanT} {a:Act} {w:World} (hi:ops[i]? = some oi) (hj:ops[j]? = some oj)
  (h:∀ K':Act→World→Prop,Shut (∀ a w,S w→(S w→PlannedT P ops (NoPanic Q) S r a w)→K' a w)→if Region.wanted oi (yielded ops a.tmps)=true then Oper.wp P oi a w K' (NoPanic Q) else K' (a.put oi.dst undef) w)
  (h':∀ K':Act→World→Prop,Shut (∀ a w,S w→(S w→PlannedT P ops (NoPanic Q) S s a w)→K' a w)→if Region.wanted oj (yielded ops a.tmps)=true then Oper.wp P oj a w K' (NoPanic Q) else K' (a.put oj.dst undef) w) :
  PlannedT P ops (NoPanic Q) S (.two i m r j m' s) a w:=by
 intro l f hsel hp hd
 simp only [planOkT] at hp
 cases f with
 | zero=>simp [RPlanT.depth] at hd
 | succ f =>
  simp only [RPlanT.depth,Nat.add_le_add_iff_right,Nat.max_le] at hd
  exact wpAnyH_ready hp.1 (by simp) (AllReadyH.cons hi (fun K' hK=>h K' (fun a w hS hW=>hK.out a w hS fun hS=>hW hS _ _ hsel hp.2.1 hd.1))
   (AllReadyH.cons hj (fun K' hK=>h' K' (fun a w hS hW=>hK.out a w hS fun hS=>hW hS _ _ hsel hp.2.2 hd.2)) AllReadyH.nil))

theorem rt_three {i j k m m' m'':Nat} {oi oj ok:Oper} {r s u:RPlanT} {a:Act} {w:World} (hi:ops[i]? = some oi) (hj:ops[j]? = some oj) (hk:ops[k]? = some ok)
  (h:∀ K':Act→World→Prop,Shut (∀ a w,S w→(S w→PlannedT P ops (NoPanic Q) S r a w)→K' a w)→if Region.wanted oi (yielded ops a.tmps)=true then Oper.wp P oi a w K' (NoPanic Q) else K' (a.put oi.dst undef) w)
  (h':∀ K':Act→World→Prop,Shut (∀ a w,S w→(S w→PlannedT P ops (NoPanic Q) S s a w)→K' a w)→if Region.wanted oj (yielded ops a.tmps)=true then Oper.wp P oj a w K' (NoPanic Q) else K' (a.put oj.dst undef) w)
  (h'':∀ K':Act→World→Prop,Shut (∀ a w,S w→(S w→PlannedT P ops (NoPanic Q) S u a w)→K' a w)→if Region.wanted ok (yielded ops a.tmps)=true then Oper.wp P ok a w K' (NoPanic Q) else K' (a.put ok.dst undef) w) :
  PlannedT P ops (NoPanic Q) S (.three i m r j m' s k m'' u) a w:=by
 intro l f hsel hp hd
 simp only [planOkT] at hp
 cases f with
 | zero=>simp [RPlanT.depth] at hd
 | succ f =>
  simp only [RPlanT.depth,Nat.add_le_add_iff_right,Nat.max_le] at hd
  exact wpAnyH_ready hp.1 (by simp) (AllReadyH.cons hi (fun K' hK=>h K' (fun a w hS hW=>hK.out a w hS fun hS=>hW hS _ _ hsel hp.2.1 hd.1))
   (AllReadyH.cons hj (fun K' hK=>h' K' (fun a w hS hW=>hK.out a w hS fun hS=>hW hS _ _ hsel hp.2.2.1 hd.2.1))
   (AllReadyH.cons hk (fun K' hK=>h'' K' (fun a w hS hW=>hK.out a w hS fun hS=>hW hS _ _ hsel hp.2.2.2 hd.2.2)) AllReadyH.nil)))

theorem rt_done {a:Act} {w:World} (h:Q .normal a w):PlannedT P ops (NoPanic Q) S .done a w:=by
 intro l f _ hp _
 exact wpAnyH_done hp (NoPanic.normal h) f

theorem rt_yp {l:List Oper} {i m:Nat} {oi:Oper} {r:RPlanT} {a:Act} {w:World} {v:Value} (H:PLift (ops=l.toArray)) (hi:l[i]? = some oi) (hS:S w) (hg:oi.guard=none)
  (hy:∀ wq,S wq→(execOp a.eval oi).run P wq=.ok (.value v) wq) (h:PlannedT P ops (NoPanic Q) S r (a.put oi.dst v) w):PlannedT P ops (NoPanic Q) S (.take i m r) a w :=
 rt_take (get_of H hi) hS ⟨v,.inl ⟨wanted_plain hg,hy⟩,h⟩
end
section
variable {P:Program} {ops:Array Oper} {Q:Exit→Act→World→Prop}
theorem rt_pB {l:List Oper} {i m:Nat} {oi:Oper} {r:RPlanT} {a:Act} {w W:World} {B:Nat} {v:Value} (H:PLift (ops=l.toArray)) (hi:l[i]? = some oi) (hS:SinceB B W w) (hg:oi.guard=none)
  (hy:∀ wq:World,(∀ b o,b<B→wq.cell? ⟨b,o,none⟩=W.cell? ⟨b,o,none⟩)→(execOp a.eval oi).run P wq=.ok (.value v) wq) (h:PlannedT P ops (NoPanic Q) (SinceB B W) r (a.put oi.dst v) w):PlannedT P ops (NoPanic Q) (SinceB B W) (.take i m r) a w :=
 rt_yp H hi hS hg (fun wq hq=>hy wq (bcellB hq).1) h
end
end Go.Proofs.YtnhdmghgjngcaaaGreat
