import Derived.Test.YtpempeioeiaijaaGreatJ11
set_option linter.unusedSimpArgs false
set_option linter.unusedVariables false
set_option maxRecDepth 100000
set_option maxHeartbeats 8000000
namespace Go.Proofs.YtpempeioeiaijaaGreat
open Go.RowKit Tryz
def Ja (x:Ar×SV):List Value:=[.int .i64 x.1.id,.int .i64 x.1.fr,.int .i64 x.1.dst,.slice x.2.a x.2.n x.2.c,.int .i64 x.1.left,.int .i64 x.1.right]
theorem Ql (x:Ar×SV):(Ja x).length=6:=rfl
theorem Vw (x:Ar×SV):∀ u∈Ja x,u.oneCell'=true:=by simp [Ja,Value.oneCell']
def jB (x:Ar×SV):Ar×Value:=(x.1,.slice x.2.a x.2.n x.2.c)
def vM:Value->SV
 | .slice a n c=>⟨a,n,c⟩
 | _=>⟨none,0,0⟩
theorem aau (l:List (Ar×SV)):(l.map jB).flatMap zN=l.flatMap Ja:=by rw [S9];rfl
theorem eU.sv {w:World} {al:List (Ar×Value)} (h:eU w al):∃ bl:List (Ar×SV),al=bl.map jB:=by
 refine ⟨al.map fun x=>(x.1,vM x.2),?_⟩;rw [IW];have:∀ x∈al,(jB ∘ fun x:Ar×Value=>(x.1,vM x.2)) x=x:=fun x hx=>by
  obtain ⟨k,hk,rfl⟩:=EF.1 hx;obtain ⟨A,c,hv,-⟩:=h k hk
  show (al[k].1,Value.slice (vM al[k].2).a (vM al[k].2).n (vM al[k].2).c)=al[k]
  rw [Prod.ext_iff];exact ⟨rfl,by rw [hv];rfl⟩
 exact (List.map_id al).symm.trans (kV fun x hx=>(this x hx).symm)
theorem asa {α:Type} (f:α->List Value) (n:Nat) (hn:∀ a,(f a).length=n) (l:List α) (i:Nat) (hi:i<l.length) (y:α) (m:Nat) (hm:m<l.length*n) :
  ((l.set i y).flatMap f)[m]? = if m / n=i then (f y)[m % n]? else (l.flatMap f)[m]? := by
 have hn0:0<n:=by
  rcases kL n with h0 | h0
  · subst h0;omega
  · exact h0
 have h1:m / n<l.length:=agy (by rw [yT];exact hm);have h2:m % n<n:=Uh _ hn0;have e1:=flat_get f n hn (l.set i y) (m / n) (m % n) (by simpa using h1) h2;have e2:=flat_get f n hn l (m / n) (m % n) h1 h2;rw [acs] at e1 e2;rw [e1,e2,QO];by_cases e:i=m / n
 · rw [AZ e,AZ e.symm]
 · rw [AX e,AX (fun h=>e h.symm)]
theorem Own.jC {α:Type} {w:World} {base g n c i j:Nat} {e:TypeId} {size:Nat} {f:α->List Value} (hf:∀ a,(f a).length=size) {l:List α} (h:Own w base e size f (.slice (some ⟨g,0,none⟩) n c) l) (hi:i<l.length) (hj:j<size) (y:α) (u:Value) (hy:f y=(f l[i]).set j u) :
  Own (w.setCell ⟨g,i*size+j,none⟩ u) base e size f (.slice (some ⟨g,0,none⟩) n c) (l.set i y):=by
 obtain ⟨h1,h2⟩:=h;rcases h2 with ⟨hv,h0⟩ | ⟨g',cap,cur,hv,hg,hh,hnc,hcm,hcs,hx⟩
 · cases hv
 ·injection hv with e1 e2 e3;injection e1 with e1;injection e1 with e1 _ _;subst e1 e3;have hl:(l.set i y).length=l.length:=by simp
  have hs0:0<size:=AA
  refine ⟨by rw [flat_length f size hf],.inr ⟨g,c,_,by rw [hl,e2],hg,AO.EH hh (i*size+j) u,by rw [hl];exact hnc,hcm,by simpa using hcs,?_⟩⟩;apply kM;intro m;rw [List.getElem?_take,hl];by_cases hm:m<l.length*size
  ·rw [AZ hm,asa f size hf l i hi y m hm];have hcur:(l.flatMap f)[m]? = cur[m]? := by
    rw [<- hx,List.getElem?_take,AZ hm];simp
   have hmc:m<cur.size:=by rw [hcs];have:=qX size hnc;omega
   have hdm:=Nat.div_add_mod m size;have hml:=Uh m hs0;rw [hcur];simp only [Array.getElem?_toList,Array.getElem?_setIfInBounds,Array.size_setIfInBounds];by_cases bn:m / size=i
   ·rw [AZ bn,hy,List.getElem?_set];have hm2:m=i*size+m % size:=by rw [<- bn,yT];omega
    by_cases hmj:j=m % size
    ·rw [AZ hmj,AZ (show j<(f l[i]).length by rw [hf];exact hj),AZ (show i*size+j=m by omega)]
     first | rw [AZ hmc] | rw [AZ (show i*size+j<cur.size by omega)]
    ·rw [AX hmj,AX AA];have e2:=flat_get f size hf l i (m % size) hi hml;rw [<- hm2] at e2;rw [<- e2,hcur]
   · rw [AX bn,AX (fun e=>bn (by rw [<- e,yT,Nat.mul_add_div hs0,Nat.div_eq_of_lt hj];rfl))]
  · rw [AX hm,ZJ (by rw [flat_length f size hf,hl];omega)]
def Ns (Q:List Int):List (Int×Int):=(List.range Q.length).map fun j=>(-(Q.getD ((j+1) % Q.length) 0),Q.getD j 0)
def Nu (p:Pl) (k:Nat):List (Int×Int):=(p.nodes.take k).flatMap fun n=>Ns (DT p n.id)
theorem nJ (Q:List Int):(Ns Q).length=Q.length:=by simp [Ns]
theorem asb (p:Pl) (k:Nat) (hk:k<p.nodes.length):Nu p (k+1)=Nu p k++Ns (DT p p.nodes[k].id):=by
 unfold Nu;rw [Em hk,O7];simp
theorem akL (p:Pl) (k:Nat):(Nu p k).length=(Ku p k).length:=by
 unfold Nu Ku;rw [List.length_flatMap,List.length_flatMap];congr 1;exact kV fun n _=>nJ _
theorem asc (Q:List Int) (j:Nat) (hj:j<Q.length) (hm:(j+1) % Q.length<Q.length):(Ns Q).take (j+1)=(Ns Q).take j++[(-Q[(j+1) % Q.length],Q[j])]:=by
 have h:j<(Ns Q).length:=by rw [nJ];exact hj
 rw [Em h];congr 2;simp only [Ns,Iu,List.getElem_range,Gm,Di hm,Di hj,Ih]
theorem ase (Q:List Int):(Ns Q).take Q.length=Ns Q:=IE (by rw [nJ];exact Cj _)
theorem asf {Q:List Int} {x:Int×Int} (h:x∈Ns Q):∃ j,∃ hj:j<Q.length,∃ hm:(j+1) % Q.length<Q.length,x=(-Q[(j+1) % Q.length],Q[j]):=by
 unfold Ns at h;obtain ⟨j,hj,rfl⟩:=Ez.1 h;rw [FQ] at hj;have hm:(j+1) % Q.length<Q.length:=Uh _ AA;exact ⟨j,hj,hm,by simp only [Gm,Di hm,Di hj,Ih]⟩
theorem asg {j N:Nat} (hj:j<N):j=((j+1) % N+N-1) % N:=by
 by_cases e:j+1=N
 ·subst e;rw [Nat.mod_self];have:(0+(j+1)-1) % (j+1)=j:=by rw [show 0+(j+1)-1=j by omega];exact WA AA
  exact this.symm
 · rw [WA (show j+1<N by omega),show j+1+N-1=j+N by omega,yN,WA hj]
section
variable {p:Pl} (h:Valid p)
include h
theorem Valid.ash {x:Int×Int} (hx:x∈Nu p p.nodes.length):x.1∈Bj p/\x.2=FC p x.1:=by
 unfold Nu at hx;rw [I5] at hx;obtain ⟨n,hn,hx⟩:=Ii.1 hx;obtain ⟨j,hj,hm,rfl⟩:=asf hx;have hnd:=h.bJ hn;have h1:=h.afm hn (BO hm);refine ⟨Vm h1.2,?_⟩
 show (DT p n.id)[j]=FC p (-(DT p n.id)[(j+1) % (DT p n.id).length])
 rw [h1.1,fQ hnd hm];congr 1;exact asg hj
theorem Valid.asi {d:Int} (hd:d∈Bj p):d∈(Nu p p.nodes.length).map (·.1):=by
 obtain ⟨n,hn,-,hm⟩:=h.aeu (Vm hd);have hq:=(h.NI hn).symm.subset hm;obtain ⟨i,hi,e⟩:=EF.1 hq;rw [Ez];have key:∃ j,j<(DT p n.id).length/\(j+1) % (DT p n.id).length=i:=by
  by_cases e0:i=0
  ·subst e0;exact ⟨(DT p n.id).length-1,AA,by rw [aci AA,Nat.mod_self]⟩
  · exact ⟨i-1,AA,by rw [aci AA,WA hi]⟩
 obtain ⟨j,hj,hji⟩:=key;refine ⟨(-((DT p n.id).getD ((j+1) % (DT p n.id).length) 0),(DT p n.id).getD j 0),?_,?_⟩
 ·unfold Nu;rw [I5,Ii];exact ⟨n,hn,Ez.2 ⟨j,FQ.2 hj,rfl⟩⟩
 ·show -((DT p n.id).getD ((j+1) % (DT p n.id).length) 0)=d
  rw [hji,Gm,Di hi,Ih,e];omega
theorem Valid.asj:(Nu p p.nodes.length).length=(Bj p).length:=by
 rw [akL,aas];exact h.zZ.length_eq
end
open Go.RowKit Go.Sort
theorem asl (v:Value) (l:List Int) (x:Int) (w:World) (h:Ints w v l) :
  Calls prog 181 #[v,.int .i64 x] w fun e w'=>e=.returned (.bool (l.any fun y=>y == x))/\AU w w':=by
 obtain ⟨A,c,rfl,hn,hc,hR⟩:=h;unfold maxLen at hc;obtain ⟨q,hq⟩:=BI ((l.any fun y=>y == x));rw [hq];have Hq:=AB hq;clear hq;go_enter func181,ntmps181;go_wp2_with fail;go_loopw [5] (fun i wr=>∃ k:Nat,k<=l.length/\i=.int .i64 k/\AU w wr/\∀ j (hj:j<l.length),j<k->(fun y=>y == x) l[j]=false) (fun i _=>l.length-(intOf i).toNat)
 case atStart => exact ⟨0,BX _,rfl,bR w,fun j _ h=>AA⟩
 case round =>
  obtain ⟨k,hk,rfl,hb,hno⟩:=hrel;have Hb:=AB hb;have Hno:=AB hno;clear hb hno;by_cases hlt:k<l.length
  ·obtain ⟨b,o,rfl,hlb,c0⟩:=(hR.mono Hb.1).int hlt;clear hR
   cases he:(l[k] == x)
   ·go_wp2;go_roundw
    case rel => exact ⟨k+1,AA,BG,Hb.1,all_succ (p:=fun y=>(fun y=>y == x) y=false) Hno.1 hlt he⟩
    case measure => exact BH
   ·have hf:=QX l (fun y=>y == x) k hlt he;rw [Hq.1] at hf;subst hf;go_wp2;go_ret;exact ⟨rfl,Hb.1⟩
  ·have hf:=SS l (fun y=>y == x) (fun j hj=>Hno.1 j hj AA);rw [Hq.1] at hf;subst hf;go_wp2;go_ret;exact ⟨rfl,Hb.1⟩
theorem asn (v:Value) (p:Pl) (w:World) (h:D6 w v p) (hv:Valid p) :
  Calls prog 180 #[v] w (aap w (Bj p)):=by
 obtain ⟨_,_,_,al,rfl,hpa,⟨An,cn,rfl,-⟩,⟨⟨Aa,ca,rfl,hn1,hn2,hR⟩,-⟩,⟨Af,cf,rfl,-⟩⟩:=h;unfold maxLen at hn2;have hall:al.length<=256:=by
  have hl:=hv.lim;unfold KD at hl;simp only [OC,JH] at hl;have h2:=hl.2;rw [hpa,CV] at h2;omega
 have cO:=AB (show ∀ k (hk:k<al.length),1<=al[k].1.id/\al[k].1.id<=1073741824 from fun k hk=>hv.IQ (by rw [hpa];exact FZ (BO hk)));obtain ⟨q,hq⟩:=BI (Bj p);rw [hq];have hq2:(al.map fun x=>-x.1.id).reverse++al.map (fun x=>x.1.id)=q:=by rw [<- hq];unfold Bj;rw [hpa,IW,IW];rfl
 have Hq:=AB hq2;have HR:=AB hR;generalize p.nodes.length=nn at *;generalize p.faces.length=nf at *;have k0:=EL ((al.length:Int)-1);clear hpa hR hv hq hq2;go_enter func180,ntmps180;go_wp2_with fail;obtain ⟨W0,hW⟩:=BR (w.alloc (.cells #[.slice An nn cn,.slice Aa al.length ca,.slice Af nf cf] 34));have HB0:=AB (show AU w W0 by rw [hW];exact bA (bR w) _);have Dt:=AB (show AO W0 w.heap.size 34 #[.slice An nn cn,.slice Aa al.length ca,.slice Af nf cf] by rw [hW];exact AO.made rfl _ _);rw [<- hW];clear hW;have hz0:=Dt.1.lt;go_loopw [3,4] (fun s i wr=>∃ m:Nat,m<=al.length/\i=.int .i64 ((m:Int)-1)/\Own wr W0.heap.size 3 1 DY s ((al.drop m).map fun x=>-x.1.id).reverse/\AU W0 wr) (fun _ i _=>((intOf i)+1).toNat)
 case atStart => exact ⟨al.length,Cj _,rfl,by rw [ZK];exact Own.nil _ _ _ _ _,bR W0⟩
 case round =>
  obtain ⟨m,hm,rfl,ho,hb⟩:=hrel;have Ho:=AB ho;have Hb:=AB hb;have X1:=Dt.1.keep hb;have hzr:=hb.size;clear ho hb;obtain ⟨BJ,BK,BL,BQ,-⟩:=X1.Az;by_cases hlt:0<m
  case pos =>
   obtain ⟨j,rfl⟩:∃ j,m=j+1:=⟨m-1,AA⟩;have hj:j<al.length:=AA
   obtain ⟨b,o,rfl,hlb,c0,-⟩:=(HR.1.mono (bT HB0.1 Hb.1)).ar hj;have hid:=cO.1 j hj;have hst:((al.drop j).map fun x=>-x.1.id).reverse=((al.drop (j+1)).map fun x=>-x.1.id).reverse++[-al[j].1.id]:=by
    rw [kU hj,Ey,List.reverse_cons]
   have Gg:=AB hst;have hll:(((al.drop (j+1)).map fun x=>-x.1.id).reverse).length<=256:=by simp;omega
   have Jj:=AB hll;clear hst hll;generalize ((al.drop (j+1)).map fun x=>-x.1.id).reverse=L at *;generalize al[j].1.id=d at *;have k1:=EL (-d);have k2:((j+1:Nat):Int)-1=(j:Int):=AA
   have k3:(0:Int)<=(j:Int):=AA
   have k4:(j:Int)<al.length:=AA
   have k5:=EL ((j:Int)-1);rw [k2];obtain ⟨s,rfl⟩:=BR u3;clear hid;go_wp2_with
    (at_builtin
     refine FK _ rfl (.tmp 14) (.tmp 22) _ rfl (base:=W0.heap.size) Jk JV Jl rfl (Own.alloc Ho.1 _) rfl (l2:=[-d]) (Sl.lit (n:=1) (AO.made rfl _ _) rfl (D7 AA)) qR qR DR ?_;intro v1 w1 ho1 hg1 MH;have Fp:=AB ho1;have HB1:=AB (Below.grown (Below.alloc Hb.1 AA _) hg1 DR (fun g hg=>(Ho.1.lt g hg).1));clear ho1 hg1 MH)
   go_roundw
   case rel => exact ⟨j,AA,rfl,by rw [Gg.1];exact Fp.1,HB1.1⟩
   case measure => simp [intOf]
  case neg =>
   have h0:m=0:=AA
   subst h0;have k3:¬ (0:Int)<=((0:Nat):Int)-1:=AA
   rw [acZ] at Ho;generalize hL1:(al.map fun x=>-x.1.id).reverse=L1 at *;have hl1:L1.length<=256:=by rw [<- hL1];simp;omega
   have Zz:=AB hl1;clear hL1 hl1;have Pm:=AB Hq.1;clear Hq;go_wp2_with fail;obtain ⟨wo,rfl⟩:=BR wr;obtain ⟨s0,rfl⟩:∃ s:Value,s=u3:=⟨_,rfl⟩;go_loopw [3,5] (fun s i wr=>∃ k:Nat,k<=al.length/\i=.int .i64 k/\Own wr W0.heap.size 3 1 DY s (L1++(al.take k).map fun x=>x.1.id)/\AU W0 wr) (fun _ i _=>al.length-(intOf i).toNat)
   case atStart => exact ⟨0,BX _,rfl,by simpa using Ho.1,Hb.1⟩
   case round =>
    obtain ⟨k,hk,rfl,ho,hb⟩:=hrel;have Ym:=AB ho;have Hb2:=AB hb;replace X1:=Dt.1.keep hb;have aso:=hb.size;clear ho hb BJ BK BL BQ
    try clear BJ BK BL BQ
    obtain ⟨BJ,BK,BL,BQ,-⟩:=X1.Az;by_cases hlt2:k<al.length
    case pos =>
     obtain ⟨b,o,rfl,hlb,c0,-⟩:=(HR.1.mono (bT HB0.1 Hb2.1)).ar hlt2;have hst:L1++(al.take (k+1)).map (fun x=>x.1.id)=(L1++(al.take k).map fun x=>x.1.id)++[al[k].1.id]:=by
      rw [Em hlt2,FH,LJ];rfl
     have Gg:=AB hst;have hll:(L1++(al.take k).map fun x=>x.1.id).length<=512:=by
      have:=Zz.1
      simp only [Es,CV,GH];omega
     have Jj:=AB hll;clear hst hll;generalize L1++(al.take k).map (fun x=>x.1.id)=L at *;generalize al[k].1.id=d at *;have k4:(k:Int)<al.length:=AA
     obtain ⟨s,rfl⟩:=BR u3;go_wp2_with
      (at_builtin
       refine FK _ rfl (.tmp 31) (.tmp 38) _ rfl (base:=W0.heap.size) Jk JV Jl rfl (Own.alloc Ym.1 _) rfl (l2:=[d]) (Sl.lit (n:=1) (AO.made rfl _ _) rfl (D7 AA)) qR qR DR ?_;intro v1 w1 ho1 hg1 MH;have Fp:=AB ho1;have HB1:=AB (Below.grown (Below.alloc Hb2.1 AA _) hg1 DR (fun g hg=>(Ym.1.lt g hg).1));clear ho1 hg1 MH)
     go_roundw
     case rel => exact ⟨k+1,AA,BG,by rw [Gg.1];exact Fp.1,HB1.1⟩
     case measure => exact BH
    case neg =>
     have hkk:k=al.length:=AA
     subst hkk;have ho2:=Ym.1;rw [I5,Pm.1] at ho2;obtain ⟨A,c,rfl,-⟩:=Own.shape ho2;have Fq:=AB ho2;clear ho2 Ym;go_wp2;go_ret;exact ⟨A,c,rfl,bT HB0.1 Hb2.1,Fq.1.EM AA⟩
open Go.RowKit Go.Sort
def Lc (p:Pl) (d:Int):Pt:=(Td p d).getD 1 AY
theorem Valid.asq {p:Pl} (h:Valid p) {n d:Int} (hd:d∈Dn p.AQ n):Lc p d=Dz p d:=by
 obtain ⟨a,ha,e⟩:=Qg.1 hd;have hid:=h.IQ ha;unfold Lc;rcases e with ⟨rfl,-⟩ | ⟨rfl,-⟩
 · rw [uh h (h.fK ha),AZ AA,h.fM ha]
 ·rw [uh h (h.ni ha),AX AA,h.bI ha];have hl:=Fa p a;simp only [Gm];rw [List.getElem?_reverse AA];congr 2;omega
theorem asr (v:Value) (p:Pl) (d:Int) (w:World) (h:D6 w v p) (hs:Short p) (hd:-9223372036854775808<d/\d<=9223372036854775807) :
  Calls prog 244 #[v,.int .i64 d] w fun e w'=>e=.returned (.agg #[.int .i64 (Lc p d).x,.int .i64 (Lc p d).y])/\AU w w':=by
 have HA:=AB (fun W (hW:AU w W)=>aiA v p d W (h.mono hW) hs hd);obtain ⟨_,_,_,al,rfl,hpa,⟨An,cn,rfl,-⟩,⟨⟨Aa,ca,rfl,-⟩,-⟩,⟨Af,cf,rfl,-⟩⟩:=h;unfold Lc;generalize al.length=na at *;generalize p.nodes.length=nn at *;generalize p.faces.length=nf at *;clear hpa hs;generalize Td p d=P at *;obtain ⟨q,hq⟩:=BI (P.getD 1 AY);rw [hq];have Hq:=AB hq;clear hq;unfold Zm at HA;go_enter func244,ntmps244;go_wp2_with fail;refine (HA.1 _ (bA (bA (bR w) _) _)).mono ?_;rintro e w1 ⟨A1,c1,rfl,hb1,ho1⟩;have B1:=AB (bT (bA (bA (bR w) _) _) hb1);have X4:AO w1 (w.heap.size+1) 42 #[.int .i64 0,.int .i64 0]:=(AO.made Ah _ _).keep hb1;obtain ⟨Aq,cq,he,hq1,hq2,Tf⟩:=ho1.sl;injection he with e1 e2 e3;subst e1 e3;clear e2;unfold maxLen at hq2;have bK:=AB Tf;clear hb1 ho1 Tf HA hd;obtain ⟨Bg,CO,CU,Eo,Gu⟩:=X4.Bl;by_cases hl:P.length<2
 case pos =>
  have hg:P.getD 1 AY=AY:=by
   simp only [Gm,ZJ (show P.length<=1 by omega),qW]
  rw [Hq.1] at hg;subst hg;have hl':(P.length:Int)<2:=AA
  clear Hq;generalize P.length=n at *;go_wp2_with fail;refine adA (t:=42) (g:=w.heap.size+1) (cs:=#[.int .i64 0,.int .i64 0]) rfl zC rfl rfl (AO.lW X4) ⟨rfl,?_⟩;have Bw:=B1.1;exact Dy
 case neg =>
  have hP1:1<P.length:=AA
  obtain ⟨b1,o1,rfl,hlb,e0,e1⟩:=bK.1.pt hP1;have hg:P.getD 1 AY=P[1]:=by simp only [Gm,Di hP1,Ih]
  rw [Hq.1] at hg;rw [<- hg] at e0 e1;clear hg bK Hq;simp only [Nat.one_mul] at e0 e1;have hl':¬ (P.length:Int)<2:=AA
  have hl2:(1:Int)<(P.length:Int):=AA
  generalize P.length=n at *;go_wp2_with fail;refine adA (t:=42) (g:=w.heap.size+1) (cs:=#[.int .i64 q.x,.int .i64 q.y]) rfl zC rfl rfl (AO.lW X4) ⟨rfl,?_⟩;have Bw:=B1.1;exact Dy
def WT (lt:Int->Int->Bool) (D:List Int) (x:Int):Nat:=D.countP (fun y=>lt y x)
def vN (lt:Int->Int->Bool) (D:List Int) (k:Nat):Option Int:=D.find? (fun x=>WT lt D x == k)
theorem asD {lt:Int->Int->Bool} {S:List Int} (hs:S.Pairwise (fun a b=>lt a b=true/\lt b a=false)) (hir:∀ x∈S,lt x x=false) {k:Nat} (hk:k<S.length):WT lt S S[k]=k:=by
 have hP:=G9.1 hs;obtain ⟨c,hc⟩:=BI (S[k]);have e:S=S.take k++S[k]::S.drop (k+1):=by rw [<- kU hk,yM]
 have h1:(S.take k).countP (fun y=>lt y S[k])=k:=by
  have h2:(S.take k).countP (fun y=>lt y S[k])=(S.take k).length:=List.countP_eq_length.2 (fun a ha=>by
   obtain ⟨j,hj,rfl⟩:=EF.1 ha;rw [GH] at hj;rw [List.getElem_take];exact (hP j k AA hk AA).1)
  rw [h2,GH];omega
 have h3:(S.drop (k+1)).countP (fun y=>lt y S[k])=0:=List.countP_eq_zero.2 (fun a ha=>by
  obtain ⟨j,hj,rfl⟩:=EF.1 ha;rw [Ue] at hj;rw [List.getElem_drop];have:=(hP k (k+1+j) hk AA AA).2
  rw [this];decide)
 unfold WT;rw [hc] at h1 h3 e ⊢;have hcc:=hir c (hc ▸ BO hk)
 conv=>lhs;rw [e]
 rw [List.countP_append,List.countP_cons,h1,h3,hcc];simp
theorem asE {lt:Int->Int->Bool} {D:List Int} (ho:Xp lt D) (hn:D.Nodup):(sortB lt D).Pairwise (fun a b=>lt a b=true/\lt b a=false):=by
 obtain ⟨hp,hs⟩:=fP ho;have hn2:(sortB lt D).Nodup:=hp.nodup_iff.2 hn;rw [G9] at hs ⊢;intro i j hi hj hij;have h1:=hs i j hi hj hij;refine ⟨?_,h1⟩
 cases h:lt (sortB lt D)[i] (sortB lt D)[j]
 ·have e:=ho.tri _ (hp.mem_iff.1 (BO hi)) _ (hp.mem_iff.1 (BO hj)) h h1;have:=(G9.1 hn2) i j hi hj hij
  exact absurd e this
 · rfl
theorem asF {lt:Int->Int->Bool} {D:List Int} (ho:Xp lt D) (hn:D.Nodup) {k:Nat} (hk:k<D.length):vN lt D k=(sortB lt D)[k]? := by
 obtain ⟨hp,-⟩:=fP ho;have hs:=asE ho hn;have hir:∀ x∈sortB lt D,lt x x=false:=fun x hx=>by
  have hx2:=hp.mem_iff.1 hx
  cases h:lt x x
  · rfl
  · have:=ho.asym x hx2 x hx2 h;rw [h] at this;cases this
 have hkl:k<(sortB lt D).length:=by rw [hp.length_eq];exact hk
 have hr:∀ j (hj:j<(sortB lt D).length),WT lt D (sortB lt D)[j]=j:=fun j hj=>by
  have:=asD hs hir hj
  unfold WT at this ⊢;rw [<- hp.countP_eq];exact this
 rw [Di hkl];unfold vN
 cases h:D.find? (fun x=>WT lt D x == k) with
 | none =>
  have:=List.find?_eq_none.1 h _ (hp.mem_iff.1 (BO hkl))
  rw [hr k hkl] at this;simp at this
 | some x =>
  have h1:=List.find?_some h;have h2:=XV h;obtain ⟨j,hj,rfl⟩:=EF.1 (hp.mem_iff.2 h2);rw [hr j hj] at h1
  have:j=k:=by simpa using h1
  subst this;rfl
theorem asG (p:Pl) (o:Pt) (d e:Int):ltD p o d e=Xj o (Dz p d) (Dz p e):=apV _ _ _
open Go.RowKit Go.Sort
theorem asH (v:Value) (p:Pl) (n:Int) (w:World) (h:D6 w v p) (hv:Valid p) :
  Calls prog 221 #[v,.int .i64 n] w (aap w (DT p n)):=by
 have MI:=AB (fun W (hW:AU w W)=>aht v p n W (h.mono hW));have HSc:=AB (fun d (hd:-9223372036854775808<d/\d<=9223372036854775807) W (hW:AU w W)=>asr v p d W (h.mono hW) hv.short hd);obtain ⟨_,_,_,al,rfl,hpa,⟨An,cn,rfl,-⟩,⟨⟨Aa,ca,rfl,hn1,hn2,hR⟩,-⟩,⟨Af,cf,rfl,-⟩⟩:=h;unfold maxLen at hn2;obtain ⟨HR,HV,NW⟩:=CG hR hv hpa;have hall:al.length<=256:=by
  have hl:=hv.lim;unfold KD at hl;simp only [OC,JH] at hl;have h2:=hl.2;rw [hpa,CV] at h2;omega
 have cO:=AB (show ∀ k (hk:k<al.length),1<=al[k].1.id/\al[k].1.id<=1073741824 from fun k hk=>hv.IQ (by rw [hpa];exact FZ (BO hk)));generalize hnn:p.nodes.length=nn at *;generalize p.faces.length=nf at *;obtain ⟨q,hq⟩:=BI (DT p n);rw [hq];have Hq:=AB hq;clear hpa hR hv hq hnn;go_enter func221,ntmps221;go_wp2_with fail;refine (MI.1 _ (bA (bR w) _)).mono ?_;rintro e w1 ⟨rfl,hb1⟩;have X2:AO w1 w.heap.size 34 #[.slice An nn cn,.slice Aa al.length ca,.slice Af nf cf]:=(AO.made rfl _ _).keep hb1;have B1:=AB (bT (bA (bR w) _) hb1);clear hb1;unfold l7 sQ
 cases hfn:Jm p.nodes n with
 | none =>
  have hf:q=[]:=by rw [<- Hq.1];unfold DT;rw [hfn]
  subst hf;clear hfn;simp only [qW,kE];go_wp2;go_ret;exact ⟨none,0,rfl,bA B1.1 _,Own.nil _ _ _ _ _⟩
 | some nd =>
  have hnd:nd∈p.nodes/\nd.id=n:=⟨XV hfn,by have:=List.find?_some hfn;simpa using this⟩;obtain ⟨hnm,rfl⟩:=hnd;have hAr:=HV.1.zV hnm;rw [Hq.1] at hAr;have NJ:=AB hAr;have Vt:=AB hnm;clear hfn hAr hnm Hq;simp only [Ih,Ud];go_upto_region 4 with fail;obtain ⟨W5,hW⟩:∃ W:World,W=w1.alloc (.cells #[.int .i64 nd.id,.int .i64 nd.pt.x,.int .i64 nd.pt.y] 47):=⟨_,rfl⟩;obtain ⟨B5,DX,DC⟩:=CG (show AU w W5 by rw [hW];exact bA B1.1 _) (show AO W5 w1.heap.size 47 #[.int .i64 nd.id,.int .i64 nd.pt.x,.int .i64 nd.pt.y] by rw [hW];exact AO.made rfl _ _) (show AO W5 w.heap.size 34 #[.slice An nn cn,.slice Aa al.length ca,.slice Af nf cf] by rw [hW];exact X2.alloc _);rw [<- hW];clear hW X2;obtain ⟨g5,hg5⟩:=BI w1.heap.size;rw [hg5] at DX ⊢;clear hg5 B1;go_wp2_with fail;go_loopw [7,8] (fun s i wr=>∃ k:Nat,k<=al.length/\i=.int .i64 k/\Own wr W5.heap.size 3 1 DY s (Dn (p.AQ.take k) nd.id)/\AU W5 wr) (fun _ i _=>al.length-(intOf i).toNat)
  case atStart => exact ⟨0,BX _,rfl,by simpa [Dn] using Own.nil W5 W5.heap.size 3 1 DY,bR W5⟩
  case round =>
   obtain ⟨k,hk,rfl,ho,hb⟩:=hrel;have Ho:=AB ho;have Hb:=AB hb;have X2:=DC.1.keep hb;have hzr:=hb.size;clear ho hb;obtain ⟨Bh,Bq,Bv,CS,-⟩:=X2.Az;by_cases hlt:k<al.length
   case neg =>
    have hkk:k=al.length:=AA
    subst hkk;have ho:=Ho.1;rw [show p.AQ.take al.length=p.AQ from IE (by rw [NW.1,CV];omega)] at ho;obtain ⟨A7,c7,rfl,h71,h72⟩:=Own.shape ho;unfold maxLen at h72;have NU:=AB ho;clear ho Ho;go_wp2_with fail;have hol:=vF p.AQ nd.id;rw [show p.AQ.length=al.length by rw [NW.1,CV]] at hol;obtain ⟨Oz,akM,asI,akN⟩:=DW (show (Dn p.AQ nd.id).length<=512 by omega) (HV.1.uY Vt.1) (HV.1.aes (n:=nd.id)) (show ∀ d∈Dn p.AQ nd.id,Lc p d=Dz p d from fun d hd=>HV.1.asq hd);have jD:=AB (show ∀ d∈Dn p.AQ nd.id,-9223372036854775808<d/\d<=9223372036854775807 from fun d hd=>by
     obtain ⟨a,ha,e⟩:=Qg.1 hd;have:=HV.1.IQ ha
     rcases e with ⟨rfl,-⟩ | ⟨rfl,-⟩<;>omega)
    obtain ⟨asJ,akO,Bo⟩:=CG (DX.1.keep Hb.1) X2 (bT B5.1 Hb.1);have afn:=AB (show Row wr A7 ((Dn p.AQ nd.id).flatMap DY) by
     obtain ⟨A',c',he,_,_,hr⟩:=NU.1.sl;injection he with e1 e2 e3;subst e1;exact hr)
    clear hol X2 Bh Bq Bv CS hlt NU;generalize Dn p.AQ nd.id=D at *;obtain ⟨wo,rfl⟩:=BR wr;go_loopw [9,10] (fun s i wr=>∃ k:Nat,k<=D.length/\i=.int .i64 k/\Own wr wo.heap.size 42 2 DK s ((D.take k).map (Lc p))/\AU wo wr) (fun _ i _=>D.length-(intOf i).toNat)
    case atStart => exact ⟨0,BX _,rfl,Own.nil _ _ _ _ _,bR wo⟩
    case round =>
     obtain ⟨k,hk2,rfl,ho,hb⟩:=hrel;have Ym:=AB ho;have Hb2:=AB hb;have X2:=akO.1.keep hb;have aso:=hb.size;clear ho hb
     try clear Bh Bq Bv CS
     obtain ⟨Bh,Bq,Bv,CS,-⟩:=X2.Az;by_cases hlt:k<D.length
     case neg =>
      have hkk:k=D.length:=AA
      subst hkk;have ho:=Ym.1;rw [I5] at ho;obtain ⟨A9,c9,rfl,h91,h92⟩:=Own.shape ho;unfold maxLen at h92;rw [CV] at h91;rw [show (List.map (Lc p) D).length=D.length from CV _];have Vx:=AB ho;clear ho Ym;clear X2 Bh Bq Bv CS hlt;go_wp2_with fail;obtain ⟨ws,rfl⟩:=BR wr;have akP:=AB (show Row ws A9 ((D.map (Lc p)).flatMap DK) by
       obtain ⟨A',c',he,_,_,hr⟩:=Vx.1.sl;injection he with e1 e2 e3;subst e1;exact hr)
      obtain ⟨asK,asL,Bs⟩:=CG (afn.1.mono Hb2.1) (asJ.1.keep Hb2.1) (bT Bo.1 Hb2.1);obtain ⟨lt,hlt'⟩:∃ lt,ltD p nd.pt=lt:=⟨_,rfl⟩;have HLt:=AB (show ∀ d∈D,∀ e∈D,Xj nd.pt (Lc p d) (Lc p e)=lt d e from fun d hd e he=>by rw [<- hlt',asG,akN.1 d hd,akN.1 e he]);have mY:=AB (show ∀ m,m<D.length->vN lt D m=(sortB lt D)[m]? from fun m hm=>by rw [<- hlt'];exact asF akM.1 asI.1 hm);have hsl:(sortB lt D).length=D.length:=by rw [<- hlt'];exact (fP akM.1).1.length_eq
      have har:=NJ.1;rw [hlt'] at har;have Vy:=AB (fun a b W=>atJ nd.pt a b W);unfold BA at Vy;generalize sortB lt D=S at *;subst har;have UZ:=AB hsl;clear hlt' hsl NJ;go_loopw [11] (fun s wr=>∃ m:Nat,m<=D.length/\(∃ A c,s=.slice A m c)/\Own wr ws.heap.size 3 1 DY s (q.take m)/\AU ws wr) (fun s _=>D.length-lenV s)
      case atStart => exact ⟨0,BX _,⟨none,0,rfl⟩,Own.nil _ _ _ _ _,bR ws⟩
      case round =>
       obtain ⟨m,hm,⟨A,c,rfl⟩,ho,hb⟩:=hrel;have rZ:=AB ho;have Hb3:=AB hb;have azh:=hb.size;clear ho hb;by_cases hlt:m<D.length
       case neg =>
        have hmm:m=D.length:=AA
        subst hmm;have ho:=rZ.1;rw [IE (by have:=UZ.1;omega)] at ho;have HO:=AB ho;clear ho rZ;go_wp2;go_ret;exact ⟨A,c,by rw [UZ.1];rfl,bT Bs.1 Hb3.1,by rw [UZ.1];exact HO.1.EM (by have:=Bs.1.size;omega)⟩
       have km:(m:Int)<D.length:=AA
       have Po:=AB (mY.1 m hlt);have nK:m<q.length:=by have:=UZ.1;omega
       have akQ:Et (¬ ∀ j (hj:j<D.length),(WT lt D D[j] == m)=false):=AB fun h=>by
        have h1:vN lt D m=none:=List.find?_eq_none.2 (fun x hx=>by
         obtain ⟨j,hj,rfl⟩:=EF.1 hx;rw [h j hj];decide)
        rw [Po.1,Di nK] at h1
        cases h1
       go_wp2_with fail;go_loopw [11,12] (fun s i wx=>∃ i':Nat,i'<=D.length/\i=.int .i64 i'/\s=.slice A m c/\Own wx ws.heap.size 3 1 DY (.slice A m c) (q.take m)/\AU ws wx/\∀ j (hj:j<D.length),j<i'->(WT lt D D[j] == m)=false) (fun _ i _=>D.length-(intOf i).toNat)
       case atStart => exact ⟨0,BX _,rfl,rfl,rZ.1,Hb3.1,fun _ _ h=>AA⟩
       case round =>
        obtain ⟨i',hi,rfl,rfl,ho,hb,hno⟩:=hrel;obtain ⟨Ho4,Hb4,Hno⟩:=CG ho hb hno;have azi:=hb.size;clear ho hb hno;by_cases hil:i'<D.length
        case neg => exact absurd (fun j hj=>Hno.1 j hj AA) akQ.out
        have ki:(i':Int)<D.length:=AA
        go_wp2_with fail;obtain ⟨di,hdi⟩:=BI (D[i']);have QK:=AB hdi;clear hdi;obtain ⟨wx,rfl⟩:=BR wr;go_loopw [13,14] (fun t u wy=>∃ j:Nat,j<=D.length/\u=.int .i64 j/\t=.int .i64 ((D.take j).countP (fun y=>lt y di):Nat)/\AU wx wy) (fun _ u _=>D.length-(intOf u).toNat)
        case atStart => exact ⟨0,BX _,rfl,rfl,bR wx⟩
        case round =>
         obtain ⟨j,hj,rfl,rfl,hb⟩:=hrel;have Hb5:=AB hb;clear hb;by_cases hjl:j<D.length
         case neg =>
          have hjj:j=D.length:=AA
          subst hjj;rw [I5];obtain ⟨rk,hrk⟩:=BI (D.countP (fun y=>lt y di));rw [hrk];have akR:WT lt D D[i']=rk:=by rw [QK.1];exact hrk
          have HRk:=AB akR;have hrl:rk<=D.length:=by rw [<- hrk];exact List.countP_le_length
          clear hrk akR;have hdl:=Oz.1;by_cases hrm:rk=m
          ·subst hrm;have hqm:q.take (rk+1)=q.take rk++[di]:=by
            have hg:q[rk]? = some di:=by
             rw [<- Po.1];unfold vN;rw [sU D _ i' hil (fun j hj hji=>Hno.1 j hj hji) (by simpa using HRk.1),QK.1]
            rw [List.take_add_one,hg];rfl
           have HQm:=AB hqm;have htl:(q.take rk).length=rk:=by rw [GH];omega
           have Ui:=AB htl;clear hqm htl;obtain ⟨bd,od,hAd,hld,c0⟩:=(asK.1.mono (bT Hb4.1 Hb5.1)).int hil;subst hAd;rw [QK.1] at c0;have Ep:=AB (Ho4.1.keep Hb5.1);have QA:=Hb5.1.size;go_wp2_with
            (at_builtin
             refine FK _ rfl (.tmp 114) (.tmp 119) _ rfl (base:=ws.heap.size) Jk JV Jl rfl (Own.alloc Ep.1 _) rfl (l2:=[di]) (Sl.lit (n:=1) (AO.made rfl _ _) rfl (D7 AA)) XT XT DR ?_;intro v9 w9 Gy JK V3;rw [<- HQm.1] at Gy;obtain ⟨A0,c9',cZ,-⟩:=Own.shape Gy;rw [show (q.take (rk+1)).length=rk+1 by rw [HQm.1,Es,Ui.1];rfl] at cZ;subst cZ;have asM:=AB Gy;have au5:=AB (bG (bA (bT Hb4.1 Hb5.1) _) JK (fun g hg=>(Ep.1.lt g hg).1));clear Gy JK V3)
           exact ⟨⟨rk+1,AA,⟨A0,c9',rfl⟩,asM.1,au5.1⟩,by simp only [lenV];omega⟩
          ·have hne:((rk:Int) == (m:Int))=false:=by simpa using (show ¬ (rk:Int)=m by omega)
           have hsucc:∀ j (hj:j<D.length),j<i'+1->(WT lt D D[j] == m)=false:=fun j hj hji=>by
            by_cases e:j=i'
            · subst e;rw [HRk.1];simpa using hrm
            · exact Hno.1 j hj AA
           have U9:=AB hsucc;clear hsucc hrm;by_cases hlast:i'+1=D.length
           · exact absurd (fun j hj=>U9.1 j hj AA) akQ.out
           have hl2:((i':Int) == (D.length:Int)-1)=false:=by simpa using (show ¬ (i':Int)=(D.length:Int)-1 by omega)
           go_wp2;go_roundw
           case rel => exact ⟨i'+1,AA,BG,rfl,Ho4.1.keep Hb5.1,bT Hb4.1 Hb5.1,U9.1⟩
           case measure => exact BH
         obtain ⟨b5,o5,PO,jE,e0,e1⟩:=(akP.1.mono (bT Hb4.1 Hb5.1)).pt (k:=j) (by rw [CV];exact hjl);subst PO;obtain ⟨b6,o6,he6,-,f0,f1⟩:=(akP.1.mono (bT Hb4.1 Hb5.1)).pt (k:=i') (by rw [CV];exact hil);simp only [Gt,Addr.mk.injEq,and_true] at he6;obtain ⟨rfl,rfl⟩:=he6;rw [Iu] at e0 e1 f0 f1;have hl:Xj nd.pt (Lc p D[j]) (Lc p D[i'])=lt D[j] di:=by rw [HLt.1 D[j] (BO hjl) D[i'] (BO hil),QK.1]
         have Zz:=AB (Vy.1 (Lc p D[j]) (Lc p D[i']));rw [hl] at Zz;have hst:(D.take (j+1)).countP (fun y=>lt y di)=(D.take j).countP (fun y=>lt y di)+(if lt D[j] di=true then 1 else 0):=by
          rw [Em hjl,List.countP_append,List.countP_singleton]
         have hcl:(D.take j).countP (fun y=>lt y di)<=j:=EG List.countP_le_length (ahB _ _);have hdl:=Oz.1;have Gg:=AB hst;clear hst hl;generalize (D.take j).countP (fun y=>lt y di)=ct at *;generalize lt D[j] di=z at *;generalize Lc p D[j]=pj at *;generalize Lc p D[i']=pi at *;have kj:(j:Int)<D.length:=AA
         have X5:=asL.1.keep (bT Hb4.1 Hb5.1);obtain ⟨DI,DJ,DU,IJ,-⟩:=X5.Az;go_upto_region 26 with fail;refine D9 (wr) (.run 10 0 0 (.call 10 2047 (.done))) fun CQ QR Ae Aj hS=>?_
         iterate 10 refine Ak ?_
         refine II (Zz.1 _) ?_;clear hS;intro BZ BU hS;refine D5 ?_;clear hS Aj Ae;intro hB;clear X5 DI DJ DU IJ e0 e1 f0 f1 kj jE
         cases z
         ·go_wp2;go_roundw
          case rel => exact ⟨j+1,AA,BG,by rw [Gg.1];rfl,bT Hb5.1 hB⟩
          case measure => exact BH
         ·go_wp2;go_roundw
          case rel => exact ⟨j+1,AA,BG,by rw [Gg.1,AZ rfl];go_num,bT Hb5.1 hB⟩
          case measure => exact BH
     obtain ⟨bd,od,rfl,hld,-⟩:=afn.1.int hlt;obtain ⟨b_,o_,O6,-,c0⟩:=(afn.1.mono Hb2.1).int hlt;simp only [Gt,Addr.mk.injEq,and_true] at O6;obtain ⟨rfl,rfl⟩:=O6;have hwo:w.heap.size<wo.heap.size:=akO.1.lt;have Vh:=AB (HSc.1 D[k] (jD.1 _ (BO hlt)));have hst:(D.take (k+1)).map (Lc p)=(D.take k).map (Lc p)++[Lc p D[k]]:=by rw [Em hlt,FH];rfl
     have Gg:=AB hst;have Jj:=AB (show ((D.take k).map (Lc p)).length<=512 by have:=Oz.1;rw [CV,GH];omega);clear hst;generalize (D.take k).map (Lc p)=L at *;generalize Lc p D[k]=p2 at *;generalize D[k]=d at *;have k4:(k:Int)<D.length:=AA
     obtain ⟨s,rfl⟩:=BR u9;go_upto_region 16 with fail;refine PE (wo.heap.size) (wr) (.run 6 0 0 (.call 6 127 (.call 7 255 (.call 8 511 (.take 9 1023 (.done)))))) fun CQ QR Ae Aj hS=>?_
     iterate 6 refine Ak ?_
     refine BN ?_;clear hS;intro K hK AP;go_simp;refine (Vh.1 _ (bT (bT Bo.1 Hb2.1) (bD (bR wr)))).mono ?_;rintro e wy ⟨rfl,hby⟩;have hS:E8 wo.heap.size wr wy:=Below.trans AP.out (hby.mono (by have:=(Below.size AP.out);omega));have hzy:=hby.size;simp only [World.size_drew] at hzy;have nM:=AB (show AU wr wy from bT (bD (bR wr)) hby);clear hby;clear AP;refine hK.out _ _ hS (fun _=>?_);clear hK K
     try simp only [pu]
     refine BN ?_;clear hS;intro K hK AP;go_simp;refine hK.out _ _ (Ej AA AP.out _) (fun hS=>?_);clear hK K AP
     try simp only [pu]
     refine BN ?_;clear hS;intro K hK AP;refine GK (.tmp 71) (.tmp 78) _ rfl (base:=wo.heap.size) (l:=L) (l2:=[p2]) JI I7 JD rfl (Own.alloc (Ym.1.keep nM.1) _) rfl (CZ.one (x:=p2) (AO.made rfl _ _)) qR qR DR ?_;intro v9 wn akS hgn au6;have au7:=AB akS;have hS:E8 wo.heap.size wr wn:=Below.grown (Below.alloc (nM.1.mono AA) AA _) hgn DR (fun g hg=>(Ym.1.lt g hg).1);clear akS hgn au6;clear AP;refine hK.out _ _ hS (fun _=>?_);clear hK K
     try simp only [pu]
     refine Ak ?_;refine J3 ?_;clear hS Aj Ae;intro hB;go_wp2;go_roundw
     case rel => exact ⟨k+1,AA,BG,by rw [Gg.1];exact au7.1,Below.trans Hb2.1 hB⟩
     case measure => exact BH
   have hst:Dn (p.AQ.take (k+1)) nd.id=Dn (p.AQ.take k) nd.id++((if al[k].1.fr=nd.id then [al[k].1.id] else [])++(if al[k].1.dst=nd.id then [-al[k].1.id] else [])):=by
    have h1:k<p.AQ.length:=by rw [NW.1,CV];exact hlt
    have h2:=akv p.AQ nd.id k h1;have h3:p.AQ[k]=al[k].1:=by simp only [NW.1,Iu]
    rw [h3] at h2;exact h2
   have hid:=cO.1 k hlt;have hlen:=vF (p.AQ.take k) nd.id;have hlen2:(p.AQ.take k).length<=k:=ahB _ _;obtain ⟨b,o,rfl,hlb,c0,c1,c2,-⟩:=(HR.1.mono (bT B5.1 Hb.1)).ar hlt;have Gg:=AB hst;have Jj:=AB (show (Dn (p.AQ.take k) nd.id).length<=512 by omega);obtain ⟨D1,hD1⟩:=BI (Dn (p.AQ.take (k+1)) nd.id);rw [hD1] at Gg;have HD1:=AB hD1;clear hst hlen hlen2 hD1;generalize Dn (p.AQ.take k) nd.id=D0 at *;obtain ⟨a,ha⟩:=BI (al[k].1);rw [ha] at hid Gg c0 c1 c2;have jF:=AB ha;clear ha;have hneg:=EL (-a.id);have k4:(k:Int)<al.length:=AA
   clear hid;obtain ⟨s,rfl⟩:=BR u7
   cases hb1:(a.fr == nd.id)
   case false =>
    cases hb2:(a.dst == nd.id)
    case false =>
     have hD:D1=D0:=by rw [Gg.1,AX (by simpa using hb1),AX dO];simp
     go_wp2;go_roundw
     case rel => exact ⟨k+1,AA,BG,by rw [HD1.1.trans hD];exact Ho.1,Hb.1⟩
     case measure => exact BH
    case true =>
     have hD:D1=D0++[-a.id]:=by rw [Gg.1,AX (by simpa using hb1),AZ dO];simp
     go_wp2_with
      (at_builtin
       refine FK _ rfl (.tmp 55) (.tmp 63) _ rfl (base:=W5.heap.size) (l:=D0) Jk JV Jl rfl (Own.alloc Ho.1 _) rfl (l2:=[-a.id]) (Sl.lit (n:=1) (AO.made rfl _ _) rfl (D7 AA)) dP dP DR ?_;intro v9 w9 Gy JK V3;have Vx:=AB Gy;have GX:=AB (Below.grown (Below.alloc Hb.1 AA _) JK DR (fun g hg=>(Ho.1.lt g hg).1));have hz9:=GX.1.size;replace X2:=DC.1.keep GX.1;have HC9:=AB (HR.1.mono (bT B5.1 GX.1));obtain ⟨b_,o_,O6,-,d0,d1,d2,-⟩:=HC9.1.ar hlt;simp only [Gt,Addr.mk.injEq,and_true] at O6;obtain ⟨rfl,rfl⟩:=O6;rw [jF.1] at d0 d1 d2;clear Gy JK V3 Bh Bq Bv CS
       try clear Bh Bq Bv CS
       obtain ⟨Bh,Bq,Bv,CS,-⟩:=X2.Az
       )
     go_roundw
     case rel => exact ⟨k+1,AA,BG,by rw [HD1.1.trans hD];exact Vx.1,GX.1⟩
     case measure => exact BH
   case true =>
    cases hb2:(a.dst == nd.id)
    case false =>
     have hD:D1=D0++[a.id]:=by rw [Gg.1,AZ (by simpa using hb1),AX dO];simp
     go_wp2_with
      (at_builtin
       refine FK _ rfl (.tmp 38) (.tmp 45) _ rfl (base:=W5.heap.size) (l:=D0) Jk JV Jl rfl (Own.alloc Ho.1 _) rfl (l2:=[a.id]) (Sl.lit (n:=1) (AO.made rfl _ _) rfl (D7 AA)) dP dP DR ?_;intro v8 w8 QD Pg iG;have KH:=AB QD;have Jb:=AB (Below.grown (Below.alloc Hb.1 AA _) Pg DR (fun g hg=>(Ho.1.lt g hg).1));have hz8:=Jb.1.size;replace X2:=DC.1.keep Jb.1;have HC8:=AB (HR.1.mono (bT B5.1 Jb.1));obtain ⟨b_,o_,O6,-,d0,d1,d2,-⟩:=HC8.1.ar hlt;simp only [Gt,Addr.mk.injEq,and_true] at O6;obtain ⟨rfl,rfl⟩:=O6;rw [jF.1] at d0 d1 d2;clear QD Pg iG Bh Bq Bv CS
       try clear Bh Bq Bv CS
       obtain ⟨Bh,Bq,Bv,CS,-⟩:=X2.Az
       )
     go_roundw
     case rel => exact ⟨k+1,AA,BG,by rw [HD1.1.trans hD];exact KH.1,Jb.1⟩
     case measure => exact BH
    case true =>
     have hD:D1=D0++[a.id]++[-a.id]:=by rw [Gg.1,AZ (by simpa using hb1),AZ dO];simp
     go_upto_region 10 with
      (at_builtin
       refine FK _ rfl (.tmp 38) (.tmp 45) _ rfl (base:=W5.heap.size) (l:=D0) Jk JV Jl rfl (Own.alloc Ho.1 _) rfl (l2:=[a.id]) (Sl.lit (n:=1) (AO.made rfl _ _) rfl (D7 AA)) dP dP DR ?_;intro v8 w8 QD Pg iG;have KH:=AB QD;have Jb:=AB (Below.grown (Below.alloc Hb.1 AA _) Pg DR (fun g hg=>(Ho.1.lt g hg).1));have hz8:=Jb.1.size;replace X2:=DC.1.keep Jb.1;have HC8:=AB (HR.1.mono (bT B5.1 Jb.1));obtain ⟨b_,o_,O6,-,d0,d1,d2,-⟩:=HC8.1.ar hlt;simp only [Gt,Addr.mk.injEq,and_true] at O6;obtain ⟨rfl,rfl⟩:=O6;rw [jF.1] at d0 d1 d2;clear QD Pg iG Bh Bq Bv CS
       try clear Bh Bq Bv CS
       obtain ⟨Bh,Bq,Bv,CS,-⟩:=X2.Az
       )
     have azj:=KH.1;go_wp2_with
      (at_builtin
       refine FK _ rfl (.tmp 55) (.tmp 63) _ rfl (base:=W5.heap.size) (l:=D0++[a.id]) Jk JV Jl rfl (Own.alloc KH.1 _) rfl (l2:=[-a.id]) (Sl.lit (n:=1) (AO.made rfl _ _) rfl (D7 AA)) dP dP DR ?_;intro v9 w9 Gy JK V3;have Vx:=AB Gy;have GX:=AB (Below.grown (Below.alloc Jb.1 AA _) JK DR (fun g hg=>(KH.1.lt g hg).1));have hz9:=GX.1.size;replace X2:=DC.1.keep GX.1;have HC9:=AB (HR.1.mono (bT B5.1 GX.1));obtain ⟨b_,o_,O6,-,d0,d1,d2,-⟩:=HC9.1.ar hlt;simp only [Gt,Addr.mk.injEq,and_true] at O6;obtain ⟨rfl,rfl⟩:=O6;rw [jF.1] at d0 d1 d2;clear Gy JK V3 Bh Bq Bv CS
       try clear Bh Bq Bv CS
       obtain ⟨Bh,Bq,Bv,CS,-⟩:=X2.Az
       )
     go_roundw
     case rel => exact ⟨k+1,AA,BG,by rw [HD1.1.trans hD];exact Vx.1,GX.1⟩
     case measure => exact BH
def au8 (w:World) (l:List (Int×Int)) (e:Ending) (w':World):Prop :=
 ∃ A c A' c',e=.returned (.tuple #[.slice A l.length c,.slice A' l.length c'])/\AU w w'/\Own w' w.heap.size 3 1 DY (.slice A l.length c) (l.map (·.1))/\Own w' w.heap.size 3 1 DY (.slice A' l.length c') (l.map (·.2))
def IV (u v:Value):Prop:=∀ g,u.ownBlock=some g->v.ownBlock≠some g
theorem au9 (v:Value) (p:Pl) (w:World) (h:D6 w v p) (hv:Valid p) :
  Calls prog 179 #[v] w (au8 w (Nu p p.nodes.length)):=by
 have NJ:=AB (fun n W (hW:AU w W)=>asH v p n W (h.mono hW) hv);obtain ⟨_,_,_,al,rfl,hpa,⟨An,cn,rfl,hn1,hn2,hR⟩,⟨⟨Aa,ca,rfl,-⟩,-⟩,⟨Af,cf,rfl,-⟩⟩:=h;unfold maxLen at hn2;have HR:=AB hR;have HV:=AB hv;have hnl:=hv.aat;generalize al.length=na at *;generalize p.faces.length=nf at *;obtain ⟨nn,hnn⟩:=BI p.nodes.length;rw [hnn] at hn1 hnl NJ ⊢;have aav:=AB hnn;obtain ⟨q,hq⟩:=BI (Nu p nn);rw [hq];have Hq:=AB hq;clear hpa hR hv hnn hq;go_enter func179,ntmps179;go_upto_region 1 with fail;obtain ⟨W1,hW⟩:∃ W:World,W=w.alloc (.cells #[.slice An nn cn,.slice Aa na ca,.slice Af nf cf] 34):=⟨_,rfl⟩;have B1:=AB (show AU w W1 by rw [hW];exact bA (bR w) _);have X1:AO W1 w.heap.size 34 #[.slice An nn cn,.slice Aa na ca,.slice Af nf cf]:=by rw [hW];exact AO.made rfl _ _
 rw [<- hW];clear hW;have Dt:=AB X1;obtain ⟨BJ,BK,BL,BQ,-⟩:=X1.Az;go_upto_block 0 with fail;go_wp2_with fail;go_loopw [4,5,6] (fun s t i wr=>∃ k:Nat,k<=nn/\i=.int .i64 k/\(∃ A c,s=.slice A (Nu p k).length c)/\(∃ A c,t=.slice A (Nu p k).length c)/\Own wr W1.heap.size 3 1 DY s ((Nu p k).map (·.1))/\Own wr W1.heap.size 3 1 DY t ((Nu p k).map (·.2))/\IV s t/\AU W1 wr) (fun _ _ i _=>nn-(intOf i).toNat)
 case atStart => exact ⟨0,BX _,rfl,⟨none,0,rfl⟩,⟨none,0,rfl⟩,Own.nil _ _ _ _ _,Own.nil _ _ _ _ _,(fun g hg=>by simp [Value.ownBlock] at hg),bR W1⟩
 case round =>
  obtain ⟨k,hk,rfl,⟨A,c,rfl⟩,⟨A',c',rfl⟩,own,own',sep,hb⟩:=hrel;obtain ⟨wo,rfl⟩:=BR wr;have hlk:=al5 HV.1 k;rw [<- akL] at hlk;obtain ⟨HO,vO,Sm,Hb⟩:=DW own own' sep hb;have hzo:=hb.size;have X2:=Dt.1.keep hb;clear own own' sep hb X1 BJ BK BL BQ;by_cases hlt:k<nn
  ·have hkn:k<p.nodes.length:=by have:=aav.1;omega
   obtain ⟨b,o,rfl,hlb,c0,c1,c2⟩:=(HR.1.mono (bT B1.1 Hb.1)).nd hkn;have um:=asb p k hkn;have nK:=HV.1.afj p.nodes[k].id;have Y8:=AB (fun d (hd:d∈DT p p.nodes[k].id)=>HV.1.QC (HV.1.afm (BO hkn) hd).2);have WU:=AB (NJ.1 p.nodes[k].id);generalize p.nodes[k]=nd at *;have Yn:=AB um;clear um;obtain ⟨L,hL⟩:=BI (Nu p k);obtain ⟨Q,hQ⟩:=BI (DT p nd.id);rw [hL] at hlk Yn HO vO Sm ⊢;rw [hQ] at Yn nK WU Y8;clear hL hQ;obtain ⟨Bh,Bq,Bv,CS,-⟩:=X2.Az;go_upto_region 5 with fail;refine D9 (wo) (.run 7 0 0 (.call 7 255 (.take 8 511 (.done)))) fun CQ QR Ae Aj hS=>?_
   iterate 7 refine Ak ?_
   refine BN ?_;clear hS;intro K hK AP;go_simp;refine (WU.1 _ (bT B1.1 (bT Hb.1 (bD (bR wo))))).mono ?_;rintro e BZ ⟨Aq,cq,rfl,BU,hoq⟩;have hS:Since wo BZ:=bT (w:=wo) AP.out BU;clear AP;refine hK.out _ _ hS (fun _=>?_);clear hK K
   try simp only [pu]
   refine Ak ?_;refine D5 ?_;clear hS Aj Ae;intro hB;obtain ⟨W5,IZ⟩:∃ W:World,W=BZ:=⟨_,rfl⟩;rw [<- IZ] at hB hoq ⊢;have Ce:=AB hB;have WV:=AB (Own.EM hoq (b':=wo.heap.size) Ah);have nN:=AB (show IV (.slice A L.length c) (.slice Aq Q.length cq) from fun g hg e=>by
    have h1:=(HO.1.lt g hg).2;have h2:=(WV.1.lt g e).1;omega)
   have auA:=AB (show IV (.slice A' L.length c') (.slice Aq Q.length cq) from fun g hg e=>by
    have h1:=(vO.1.lt g hg).2;have h2:=(WV.1.lt g e).1;omega)
   have QA:=Ce.1.size;clear hB hoq BU IZ c0 c1 c2 hlb X2 Bh Bq Bv CS WU;go_upto_block 2 with fail;go_wp2_with fail;go_loopw [4,5,8] (fun s t i wr=>∃ j:Nat,j<=Q.length/\i=.int .i64 j/\(∃ A c,s=.slice A (L.length+j) c)/\(∃ A c,t=.slice A (L.length+j) c)/\Own wr W1.heap.size 3 1 DY s ((L++(Ns Q).take j).map (·.1))/\Own wr W1.heap.size 3 1 DY t ((L++(Ns Q).take j).map (·.2))/\IV s t/\IV s (.slice Aq Q.length cq)/\IV t (.slice Aq Q.length cq)/\Own wr wo.heap.size 3 1 DY (.slice Aq Q.length cq) Q/\AU W1 wr/\W5.heap.size<=wr.heap.size) (fun _ _ i _=>Q.length-(intOf i).toNat)
   case atStart => exact ⟨0,BX _,rfl,⟨A,c,rfl⟩,⟨A',c',rfl⟩,by rw [OD,MC];exact HO.1.keep Ce.1,by rw [OD,MC];exact vO.1.keep Ce.1,Sm.1,nN.1,auA.1,WV.1,bT Hb.1 Ce.1,Cj _⟩
   case round =>
    obtain ⟨j,hj,rfl,⟨A3,c3,rfl⟩,⟨A4,c4,rfl⟩,wG,own4,s34,s3q,s4q,oq,hb3,hz3⟩:=hrel;obtain ⟨G7,Jc,H34,H3q,H4q,HQ,HB3⟩:=WI wG own4 s34 s3q s4q oq hb3;clear wG own4 s34 s3q s4q oq hb3;by_cases hlj:j<Q.length
    ·have hm:(j+1) % Q.length<Q.length:=Uh _ AA;have htk:=asc Q j hlj hm;have f1:=(HQ.1.row_in).int hlj;have f2:=(HQ.1.row_in).int hm;obtain ⟨bq,iH,rfl,iI,e1⟩:=f1;obtain ⟨b_,o_,O6,-,e2⟩:=f2;simp only [Gt,Addr.mk.injEq,and_true] at O6;obtain ⟨rfl,rfl⟩:=O6;have htm:Int.tmod ((j:Int)+1) (Q.length:Int)=((j+1) % Q.length:Nat):=by
      rw [Int.tmod_eq_emod_of_nonneg AA,show (j:Int)+1=((j+1:Nat):Int) by omega];exact (Int.natCast_emod _ _).symm
     have hbd:-1073741824<=Q[(j+1) % Q.length]/\Q[(j+1) % Q.length]<=1073741824:=Y8.1 _ (BO hm);have Ei:=AB htk;obtain ⟨f,hf⟩:=BI (Q[j]);rw [hf] at Ei;have HF:=AB hf;clear htk hf e1;generalize Q[(j+1) % Q.length]=d at *;generalize (j+1) % Q.length=m at *;have HLn:=AB (show (L++(Ns Q).take (j+1)).length=L.length+(j+1) by rw [Es,GH,nJ];omega);have HLj:=AB (show (L++(Ns Q).take j).length=L.length+j by rw [Es,GH,nJ];omega);have k1:=EL (-d);have g1:=EL ((j:Int)+1);have g3:¬ (Q.length:Int)=0:=AA
     have g11:¬ Q=[]:=fun e=>by have:=congrArg List.length e;simp only [LH] at this;omega
     have g4:IntKind.i64.wrap (m:Int)=m:=Jw _ AA;have g5:(m:Int)<Q.length:=AA
     have g6:0<=(m:Int):=AA
     go_upto_region 10 with
      (at_builtin
       refine FK _ rfl (.tmp 30) (.tmp 40) _ rfl (base:=W1.heap.size) Jk JV Jl rfl (Own.alloc G7.1 _) rfl (l2:=[-d]) (Sl.lit (n:=1) (AO.made rfl _ _) rfl (D7 AA)) acT acT (by have:=HB3.1.size;simp;omega) ?_;intro v5 w5 Dj hg5 G5;rw [show (L++(Ns Q).take j).map (·.1)++[-d]=(L++(Ns Q).take (j+1)).map (·.1) by rw [Ei.1];simp only [FH,Ey,O9,LJ]] at Dj;obtain ⟨A5,c5,hv5,-⟩:=Own.GU Dj;rw [CV,HLn.1] at hv5;subst hv5;obtain ⟨Ep,afo,akT⟩:=CG Dj (Own.grown (Own.alloc HQ.1 _) hg5 (fun g hg e=>H3q.1 g e.symm hg)) (Own.grown (Own.alloc Jc.1 _) hg5 (fun g hg e=>H34.1 g e.symm hg));have afp:∀ g,(Value.slice A5 (L.length+(j+1)) c5).ownBlock=some g->(Value.slice A3 (L.length+j) c3).ownBlock=some g\/g=wr.heap.size+1:=fun g hg=>by
        rcases G5 with h | h
        · exact .inl (h.symm.trans hg)
        · rw [hg] at h;have:=DV h;simp at this;exact .inr this
       have H54:=AB (show IV (.slice A5 (L.length+(j+1)) c5) (.slice A4 (L.length+j) c4) from fun g hg e=>by
        rcases afp g hg with h | h
        · exact H34.1 g h e
        · have:=(Jc.1.lt g e).2;omega)
       have H5q:=AB (show IV (.slice A5 (L.length+(j+1)) c5) (.slice (some ⟨bq,iH,none⟩) Q.length cq) from fun g hg e=>by
        rcases afp g hg with h | h
        · exact H3q.1 g h e
        · have:=(HQ.1.lt g e).2;omega)
       have akU:=AB (bG (bA HB3.1 _) hg5 (fun g hg=>(G7.1.lt g hg).1));have azk:wr.heap.size<w5.heap.size:=by have:=hg5.size;simp at this;omega
       clear Dj hg5 G5 afp
       )
     clear e2 htm g1 g3 g4 g5 g6 g11 k1 hbd;obtain ⟨b_,o_,O6,jE,e1⟩:=(afo.1.row_in).int hlj;simp only [Gt,Addr.mk.injEq,and_true] at O6;obtain ⟨rfl,rfl⟩:=O6;rw [HF.1] at e1;go_upto_region 8 with
      (at_builtin
       refine FK _ rfl (.tmp 42) (.tmp 47) _ rfl (base:=W1.heap.size) Jk JV Jl rfl (Own.alloc akT.1 _) rfl (l2:=[f]) (Sl.lit (n:=1) (AO.made rfl _ _) rfl (D7 AA)) acT acT (by have:=akU.1.size;simp;omega) ?_;intro v6 w6 NT FN Yo;rw [show (L++(Ns Q).take j).map (·.2)++[f]=(L++(Ns Q).take (j+1)).map (·.2) by rw [Ei.1];simp only [FH,Ey,O9,LJ]] at NT;obtain ⟨A6,c6,hv6,-⟩:=Own.GU NT;rw [CV,HLn.1] at hv6;subst hv6;obtain ⟨JQ,HQ6,auB⟩:=CG NT (Own.grown (Own.alloc afo.1 _) FN (fun g hg e=>H4q.1 g e.symm hg)) (Own.grown (Own.alloc Ep.1 _) FN (fun g hg e=>H54.1 g hg e.symm));have iJ:∀ g,(Value.slice A6 (L.length+(j+1)) c6).ownBlock=some g->(Value.slice A4 (L.length+j) c4).ownBlock=some g\/g=w5.heap.size+1:=fun g hg=>by
        rcases Yo with h | h
        · exact .inl (h.symm.trans hg)
        · rw [hg] at h;have:=DV h;simp at this;exact .inr this
       have H56:=AB (show IV (.slice A5 (L.length+(j+1)) c5) (.slice A6 (L.length+(j+1)) c6) from fun g hg e=>by
        rcases iJ g e with h | h
        · exact H54.1 g hg h
        · have:=(Ep.1.lt g hg).2;omega)
       have H6q:=AB (show IV (.slice A6 (L.length+(j+1)) c6) (.slice (some ⟨bq,iH,none⟩) Q.length cq) from fun g hg e=>by
        rcases iJ g hg with h | h
        · exact H4q.1 g h e
        · have:=(afo.1.lt g e).2;omega)
       have Ew:=AB (bG (bA akU.1 _) FN (fun g hg=>(akT.1.lt g hg).1));have UW:w5.heap.size<w6.heap.size:=by have:=FN.size;simp at this;omega
       clear NT FN Yo iJ
       )
     clear e1 jE;go_wp2;go_roundw
     case rel => exact ⟨j+1,AA,BG,⟨A5,c5,rfl⟩,⟨A6,c6,rfl⟩,auB.1,JQ.1,H56.1,H5q.1,H6q.1,HQ6.1,Ew.1,AA⟩
     case measure => exact BH
    ·obtain rfl:j=Q.length:=AA
     have ho3:=G7.1;have Nc:=Jc.1;rw [ase] at ho3 Nc;obtain ⟨Vy,auC,auD⟩:=CG (show (Nu p (k+1)).length=L.length+Q.length by rw [Yn.1,Es,nJ]) ho3 Nc;clear ho3 Nc;go_wp2;go_roundw
     case rel => exact ⟨k+1,AA,BG,⟨A3,c3,by rw [Vy.1]⟩,⟨A4,c4,by rw [Vy.1]⟩,by rw [Yn.1];exact auC.1,by rw [Yn.1];exact auD.1,H34.1,HB3.1⟩
     case measure => exact BH
  ·obtain rfl:k=nn:=AA
   rw [Hq.1] at HO vO ⊢
   try clear Bh Bq Bv CS
   obtain ⟨Bh,Bq,Bv,CS,-⟩:=X2.Az;go_wp2_with fail;go_ret2;exact ⟨A,c,A',c',rfl,bT B1.1 Hb.1,HO.1.EM B1.1.size,vO.1.EM B1.1.size⟩
structure AD where
 tw:Int
 out:List Int
 ov:SV
 inn:List (List Int×SV)
 iv:SV
 EP:List Int
 av:SV
def F9 (x:AD):List Value:=[.int .i64 x.tw,BF x.ov,BF x.iv,BF x.av]
theorem Sr (x:AD):(F9 x).length=4:=rfl
theorem afq (x:AD):∀ u∈F9 x,u.oneCell'=true:=by simp [F9,BF,Value.oneCell']
theorem auE:Elem prog 69 106 4 80:=Elem.QV (z:=.agg #[.int .i64 0,.slice none 0 0,.slice none 0 0,.slice none 0 0]) Gl Gl rfl AA
structure GY (e:TypeId) (w0 w:World) (B:Nat) (v:Value) (L:List AD):Prop where
 own:Own w B e 4 F9 v L
 out:∀ x∈L,Ints w0 (BF x.ov) x.out
 inn:∀ x∈L,Own w B 32 1 J5 (BF x.iv) x.inn
 KT:∀ x∈L,∀ c∈x.inn,Ints w0 (BF c.2) c.1
 EP:∀ x∈L,Own w B 3 1 DY (BF x.av) x.EP
 dB:L.Pairwise (fun x y=>IV (BF x.iv) (BF y.iv))
 dF:L.Pairwise (fun x y=>IV (BF x.av) (BF y.av))
theorem GY.keep {e:TypeId} {w0 w w':World} {B:Nat} {v:Value} {L:List AD} (h:GY e w0 w B v L) (hb:AU w w'):GY e w0 w' B v L :=
 ⟨h.own.keep hb,h.out,fun x hx=>(h.inn x hx).keep hb,h.KT,fun x hx=>(h.EP x hx).keep hb,h.dB,h.dF⟩
theorem auF (p:Pl) {X:List Int} {k:Nat} (hk:k<X.length):Jr p (X.take (k+1))=Jr p (X.take k)++Jq (MF p X[k]):=by
 unfold Jr;rw [Em hk,O7];simp
theorem akV {P:List Pt} {m:Nat} (hm:m+1<P.length):(Jq P).take (m+1)=(Jq P).take m++[(P.getD m AY,P.getD (m+1) AY)]:=by
 have h:m<(Jq P).length:=by unfold Jq;rw [CV,P9];omega
 rw [Em h];simp [Jq]
theorem auG {σ:Type} (w:World) (gm:Nat) (p:Pl) (f:Int->SV) (hpm:YX w gm p f) (hv:Valid p) (vc:Value) (X:List Int) (hX:Ints w vc X) (hd:∀ d∈X,d∈Bj p) (g1 g2 g3:Nat)
  (Inv:σ->World->Prop) (upd:σ->Pt×Pt->σ) (hI:∀ s W,Inv s W->AU w W) (hD:∀ s W,Inv s W->Inv s W.drew)
  (hst:∀ s W q,q∈Jr p X->Inv s W->Calls prog 213 #[BA q.1,BA q.2,.pointer (some ⟨g1,0,none⟩),.pointer (some ⟨g2,0,none⟩),.pointer (some ⟨g3,0,none⟩)] W fun e W'=>e=.returned (.tuple #[])/\Inv (upd s q) W'/\Below w.heap.size W W')
  (s:σ) (W:World) (h0:Inv s W) :
  Calls prog 212 #[.map (some gm),vc,.func (.func 213) #[] #[.pointer (some ⟨g1,0,none⟩),.pointer (some ⟨g2,0,none⟩),.pointer (some ⟨g3,0,none⟩)]] W fun e W'=>e=.returned (.tuple #[])/\Inv ((Jr p X).foldl upd s) W'/\Below w.heap.size W W':=by
 obtain ⟨Ac,cc,rfl,hc1,hc2,RY⟩:=hX;unfold maxLen at hc2;obtain ⟨VP,Po,HI,Gg,iK,wH,HV,H0,Ei⟩:=yV RY hpm hI hst hD hd hv h0 (fun k (hk:k<X.length)=>auF p hk);obtain ⟨R,hR⟩:=BI ((Jr p X).foldl upd s);rw [hR];have Yp:=AB hR;have gV:=AB (fun k (hk:k<X.length) q (hq:q∈Jq (MF p X[k]))=>show q∈Jr p X from Ii.2 ⟨_,BO hk,hq⟩);clear RY hpm hI hst hD hd hv h0 hR;go_enter func212,ntmps212;go_wp2_with fail;go_loopw [12] (fun i wr=>∃ k:Nat,k<=X.length/\i=.int .i64 k/\Inv ((Jr p (X.take k)).foldl upd s) wr/\Below w.heap.size W wr) (fun i _=>X.length-(intOf i).toNat)
 case atStart => exact ⟨0,BX _,rfl,H0.1,Below.refl _ _⟩
 case round =>
  obtain ⟨k,hk,rfl,hinv,hbw⟩:=hrel;obtain ⟨wo,rfl⟩:=BR wr;obtain ⟨QU,KF,Hb⟩:=CG hinv hbw (HI.1 _ _ hinv);clear hinv hbw;by_cases hlt:k<X.length
  ·obtain ⟨b,o,rfl,hlb,c0⟩:=(VP.1.mono Hb.1).int hlt;have hdd:=wH.1 _ (BO hlt);have htk:=Ei.1 k hlt;have hmem:=gV.1 k hlt;generalize X[k]=d at *;obtain ⟨a,ha,hor,hpt⟩:=HV.1.gQ hdd;have hid:=HV.1.IQ ha;rw [hpt] at htk hmem;obtain ⟨n,hmp⟩:=(Po.1.keep Hb.1).mp;have hlk:=hmp.look a.id (KC AA AA);have nO:=Po.1.rd a ha;have hlen:2<=(AV p a).length:=by have:=Fa p a;omega
   have auH:=AB htk;have dG:=AB hmem;have k1:=EL (-d);have km:max d (-d)=a.id:=AA
   have ZT:=HV.1.Xr ha;have hpl:(AV p a).length<=66:=by have:=Fa p a;omega
   generalize f a.id=x at *;obtain ⟨Ap,np,cp⟩:=x;unfold BF at hlk nO;obtain ⟨Ap',cp',he,hp1,hp2,wI⟩:=nO;injection he with e1 e2 e3;subst e1 e2 e3;unfold maxLen at hp2;have wJ:=AB wI;clear hmp hdd htk hmem hpt hor ha wI ZT;generalize a.id=ai at *;generalize AV p a=P at *;clear hid;obtain ⟨s1,hs1⟩:=BI ((Jr p (X.take k)).foldl upd s);rw [hs1] at QU;have lq:=AB hs1;clear hs1;go_upto_block 2 with fail;go_wp2_with fail;go_loopw [9] (fun i wr=>∃ j:Nat,1<=j/\j<=P.length/\i=.int .i64 j/\Inv (((Jq P).take (j-1)).foldl upd s1) wr/\Below w.heap.size wo wr) (fun i _=>P.length-(intOf i).toNat)
   case atStart => exact ⟨1,Cj _,AA,rfl,QU.1,Below.refl _ _⟩
   case round =>
    obtain ⟨j,hj1,hj2,rfl,hinv,Ik⟩:=hrel;obtain ⟨akW,IY,Hb2⟩:=CG hinv Ik (HI.1 _ _ hinv);clear hinv Ik;by_cases hlj:j<P.length
    ·obtain ⟨m,rfl⟩:∃ m,j=m+1:=⟨j-1,AA⟩;have hmp:m<P.length:=AA
     have hq:=dG.1 (P.getD m AY,P.getD (m+1) AY) (Ez.2 ⟨m,FQ.2 AA,rfl⟩);have htk:=akV hlj;have hst:=Gg.1 _ wr.drew _ hq (iK.1 _ _ akW.1);rw [show m+1-1=m by omega] at hst;have ea:P.getD m AY=P[m]:=by simp only [Gm,Di hmp,Ih]
     have eb:P.getD (m+1) AY=P[m+1]:=by simp only [Gm,Di hlj,Ih]
     rw [ea,eb] at hst htk;obtain ⟨bp,op,RX,hlp,e10,e11⟩:=(wJ.1).pt hmp;obtain ⟨bp',op',dH,-,e20,e21⟩:=(wJ.1).pt hlj;rw [RX] at dH;injection dH with dH;injection dH with x1 x2 _;subst x1 x2;replace e10:=KL Hb2.1 e10;replace e11:=KL Hb2.1 e11;replace e20:=KL Hb2.1 e20;replace e21:=KL Hb2.1 e21;have Ui:=AB htk;generalize P[m]=pa at *;generalize P[m+1]=pb at *;unfold BA at hst;simp only at hst;have HC:=AB hst;clear hst htk ea eb hq;subst RX;have k2:IntKind.i64.wrap ((m:Int)+1-1)=m:=by rw [show (m:Int)+1-1=m by omega];exact Jw _ AA
     have k3:(m:Int)<P.length:=AA
     have k8:IntKind.i64.wrap (m:Int)=m:=Jw _ AA;have k4:0<=(m:Int):=AA
     have k5:(m:Int)+1-1=m:=AA
     have k6:(m:Int)+1<P.length:=AA
     have k7:0<=(m:Int)+1:=AA
     rw [show (((m+1:Nat)):Int)=(m:Int)+1 from by omega];go_upto_region 7 with fail;refine PE (w.heap.size) (wr) (.run 10 0 0 (.call 10 2047 (.done))) fun CQ QR Ae Aj hS=>?_
     iterate 10 refine Ak ?_
     refine BN ?_;clear hS;intro K hK AP;go_simp;refine HC.1.mono ?_;rintro e w4 ⟨rfl,akX,hb4⟩;have hS:E8 w.heap.size wr w4:=Below.trans AP.out hb4;have auI:=AB akX;clear hb4 akX;clear AP;refine hK.out _ _ hS (fun _=>?_);clear hK K
     try simp only [pu]
     refine J3 ?_;clear hS Aj Ae;intro hB;have auJ:=AB (Below.trans IY.1 hB);clear hB e10 e11 e20 e21 hlp;go_wp2;go_roundw
     case rel => exact ⟨m+1+1,AA,AA,BG,by rw [show m+1+1-1=m+1 by omega,Ui.1,WC];exact auI.1,auJ.1⟩
     case measure => exact BH
    ·obtain rfl:j=P.length:=AA
     have hlS:(Jq P).length=P.length-1:=by unfold Jq;rw [CV,P9]
     have hfin:=akW.1;rw [IE AA,<- lq.1,<- WC,<- auH.1] at hfin;have HF:=AB hfin;clear hfin hlS;go_wp2;go_roundw
     case rel => exact ⟨k+1,AA,BG,HF.1,Below.trans KF.1 IY.1⟩
     case measure => exact BH
  ·obtain rfl:k=X.length:=AA
   have hfin:=QU.1;rw [I5,Yp.1] at hfin;have HF:=AB hfin;clear hfin;go_wp2_with fail;exact bodyPost_end (v:=.tuple #[]) (results_none rfl _ _ _) rfl ⟨rfl,HF.1,KF.1⟩
structure RZ (w0 W:World) (g1 g2 g3:Nat) (v:Pt) (s:Bool×Bool):Prop where
 b:AU w0 W
 at_:AO W g1 42 #[.int .i64 v.x,.int .i64 v.y]
 lu:AO W g2 4 #[.bool s.1]
 odd:AO W g3 4 #[.bool s.2]
 l2:w0.heap.size<=g2
 l3:w0.heap.size<=g3
 n12:g1≠g2
 n13:g1≠g3
 n23:g2≠g3
theorem RZ.keep {w0 W W':World} {g1 g2 g3:Nat} {v:Pt} {s:Bool×Bool} (h:RZ w0 W g1 g2 g3 v s) (hb:AU W W'):RZ w0 W' g1 g2 g3 v s :=
 ⟨bT h.b hb,h.at_.keep hb,h.lu.keep hb,h.odd.keep hb,h.l2,h.l3,h.n12,h.n13,h.n23⟩
theorem RZ.auK {w0 W:World} {g1 g2 g3:Nat} {v:Pt} {s:Bool×Bool} (h:RZ w0 W g1 g2 g3 v s) (x:Bool):RZ w0 (W.setCell ⟨g2,0,none⟩ (.bool x)) g1 g2 g3 v (x,s.2) :=
 ⟨bS h.b h.l2 _,h.at_.far h.n12 _,by have:=h.lu.EH 0 (.bool x);simpa using this,h.odd.far (fun e=>h.n23 e.symm) _,h.l2,h.l3,h.n12,h.n13,h.n23⟩
theorem RZ.akY {w0 W:World} {g1 g2 g3:Nat} {v:Pt} {s:Bool×Bool} (h:RZ w0 W g1 g2 g3 v s) (x:Bool):RZ w0 (W.setCell ⟨g3,0,none⟩ (.bool x)) g1 g2 g3 v (s.1,x) :=
 ⟨bS h.b h.l3 _,h.at_.far h.n13 _,h.lu.far h.n23 _,by have:=h.odd.EH 0 (.bool x);simpa using this,h.l2,h.l3,h.n12,h.n13,h.n23⟩
theorem auL {a b c:Pt} (h:EO [a,b,c]=true):(0<Fh a b c↔0<tw a b c)/\(Fh a b c<0↔tw a b c<0):=by
 unfold Fh XZ;rw [AZ h];split
 · omega
 · split<;>omega
theorem auM (w0 W:World) (g1 g2 g3:Nat) (v a b:Pt) (s:Bool×Bool) (h:RZ w0 W g1 g2 g3 v s) (na:CJ a=true) (nb:CJ b=true) (nv:CJ v=true) :
  Calls prog 213 #[BA a,BA b,.pointer (some ⟨g1,0,none⟩),.pointer (some ⟨g2,0,none⟩),.pointer (some ⟨g3,0,none⟩)] W fun e W'=>e=.returned (.tuple #[])/\RZ w0 W' g1 g2 g3 v (Q9 v s (a,b))/\Below w0.heap.size W W':=by
 have TO:=fun W=>aaP a b v W;have TS:=fun W=>ai7 a b v W;obtain ⟨p1,p2⟩:=auL (a:=a) (b:=b) (c:=v) (by simp [EO,na,nb,nv]);have hz0:=h.b.size;unfold BA at TO TS ⊢;obtain ⟨HO,HS,HI⟩:=CG TO TS h;clear TO TS na nb nv;obtain ⟨R,hR⟩:=BI (Q9 v s (a,b));rw [hR];unfold Q9 KU at hR;simp only at hR;have hl1:=h.at_.lt;have hl2:=h.lu.lt;have hl3:=h.odd.lt;go_enter func213,ntmps213;go_upto_block 0 with fail;obtain ⟨W1,hW⟩:=BR ((W.alloc (.cells #[.int .i64 a.x,.int .i64 a.y] 42)).alloc (.cells #[.int .i64 b.x,.int .i64 b.y] 42));have HB1:=AB (show AU W W1 by rw [hW];exact bA (bA (bR W) _) _);have X5:AO W1 W.heap.size 42 #[.int .i64 a.x,.int .i64 a.y]:=by rw [hW];exact (AO.made rfl _ _).alloc _
 have X6:AO W1 (W.heap.size+1) 42 #[.int .i64 b.x,.int .i64 b.y]:=by rw [hW];exact AO.made Ah _ _
 rw [<- hW];clear hW h;obtain ⟨HI1,DX,JM⟩:=CG (HI.1.keep HB1.1) X5 X6;have X1:=HI1.1.at_;have Yp:=AB hR;clear hR;obtain ⟨BJ,BK,BL,-⟩:=X1.Bl;obtain ⟨DI,DJ,DU,-⟩:=X5.Bl;obtain ⟨FU,FV,FW,-⟩:=X6.Bl;go_wp2_with fail;refine (HO.1 _).mono ?_;rintro e w2 ⟨rfl,hb2⟩;obtain ⟨HI2,HB2,afr,auN⟩:=DW (HI1.1.keep hb2) (Below.trans (HB1.1.mono hz0) (hb2.mono (by have:=HB1.1.size;omega))) (DX.1.keep hb2) (JM.1.keep hb2);have hz2:=hb2.size;clear hb2 X1 BJ BK BL X5 DI DJ DU X6 FU FV FW DX JM HI1 HB1 HO;have hR:=Yp.1;clear Yp;obtain ⟨o,ho⟩:=BI (Ee a b v);rw [ho] at hR ⊢;clear ho
 cases o
 case true =>
  rw [AZ rfl] at hR;have HF:=AB (HI2.1.auK true);rw [hR] at HF;have X2:=HI2.1.lu;have iL:=AB (HB2.1.setCell (p:=⟨g2,0,none⟩) HI2.1.l2 (.bool true));clear hR;obtain ⟨Bh,Bq,Y9⟩:=X2.LD;go_wp2_with fail;exact bodyPost_end (v:=.tuple #[]) (results_none rfl _ _ _) rfl ⟨rfl,HF.1,iL.1⟩
 case false =>
  rw [AX Aw] at hR;obtain ⟨sd,hsd⟩:=BI (Fh a b v);rw [hsd] at HS p1 p2;clear hsd;have X1:=HI2.1.at_;have X5:=afr.1;have X6:=auN.1
  try clear BJ BK BL
  obtain ⟨BJ,BK,BL,-⟩:=X1.Bl
  try clear DI DJ DU
  obtain ⟨DI,DJ,DU,-⟩:=X5.Bl
  try clear FU FV FW
  obtain ⟨FU,FV,FW,-⟩:=X6.Bl;by_cases c:(a.y<=v.y/\v.y<b.y)\/(b.y<=v.y/\v.y<a.y)
  case neg =>
   have hf:s=R:=by
    rw [Fg AA] at hR;simpa using hR
   have HF:=AB hf;clear hR hf p1 p2;by_cases c1:a.y<=v.y
   ·have c2:¬ v.y<b.y:=AA
    by_cases d1:b.y<=v.y
    ·have d2:¬ v.y<a.y:=AA
     clear c;go_wp2_with fail;exact bodyPost_end (v:=.tuple #[]) (results_none rfl _ _ _) rfl ⟨rfl,by rw [<- HF.1];exact HI2.1,HB2.1⟩
    · omega
   ·have d2:v.y<a.y:=AA
    have d1:¬ b.y<=v.y:=AA
    clear c;go_wp2_with fail;exact bodyPost_end (v:=.tuple #[]) (results_none rfl _ _ _) rfl ⟨rfl,by rw [<- HF.1];exact HI2.1,HB2.1⟩
  case pos =>
   obtain ⟨auO,auP,abT⟩:=CG X1 X5 X6;rcases c with ⟨c1,c2⟩ | ⟨d1,d2⟩
   ·have d1:¬ b.y<=v.y:=AA
    go_wp2_with fail;refine (HS.1 _).mono ?_;rintro e w3 ⟨rfl,hb3⟩;have HI3:=AB (HI2.1.keep hb3);have hz3:=hb3.size;have HB3:=AB (Below.trans HB2.1 (hb3.mono AA));have X1:=auO.1.keep hb3;have X5:=auP.1.keep hb3;have X6:=abT.1.keep hb3;clear hb3
    try clear BJ BK BL
    obtain ⟨BJ,BK,BL,-⟩:=X1.Bl
    try clear DI DJ DU
    obtain ⟨DI,DJ,DU,-⟩:=X5.Bl
    try clear FU FV FW
    obtain ⟨FU,FV,FW,-⟩:=X6.Bl;by_cases g:0<sd
    ·have hf:(s.1,!s.2)=R:=by
      rw [JB AA] at hR;simpa using hR
     have HF:=AB (HI3.1.akY (!s.2));rw [hf] at HF;have iL:=AB (HB3.1.setCell (p:=⟨g3,0,none⟩) HI3.1.l3 (.bool (!s.2)));have X3:=HI3.1.odd;obtain ⟨s1,s2⟩:=s;simp only at X3 HF iL;clear hR hf p1 p2;obtain ⟨Dk,EI,iC⟩:=X3.LD
     cases s2
     all_goals
      go_wp2_with fail;exact bodyPost_end (v:=.tuple #[]) (results_none rfl _ _ _) rfl ⟨rfl,HF.1,iL.1⟩
    ·have hf:s=R:=by
      rw [Fg AA] at hR;simpa using hR
     have HF:=AB hf;clear hR hf p1 p2;go_wp2_with fail;exact bodyPost_end (v:=.tuple #[]) (results_none rfl _ _ _) rfl ⟨rfl,by rw [<- HF.1];exact HI3.1,HB3.1⟩
   ·have c0:¬ (a.y<=v.y):=AA
    go_wp2_with fail;refine (HS.1 _).mono ?_;rintro e w3 ⟨rfl,hb3⟩;have HI3:=AB (HI2.1.keep hb3);have hz3:=hb3.size;have HB3:=AB (Below.trans HB2.1 (hb3.mono AA));clear hb3;by_cases g:sd<0
    ·have hf:(s.1,!s.2)=R:=by
      rw [JB AA] at hR;simpa using hR
     have HF:=AB (HI3.1.akY (!s.2));rw [hf] at HF;have iL:=AB (HB3.1.setCell (p:=⟨g3,0,none⟩) HI3.1.l3 (.bool (!s.2)));have X3:=HI3.1.odd;obtain ⟨s1,s2⟩:=s;simp only at X3 HF iL;clear hR hf p1 p2
     try clear Dk EI
     try clear iC
     obtain ⟨Dk,EI,iC⟩:=X3.LD
     cases s2
     all_goals
      go_wp2_with fail;exact bodyPost_end (v:=.tuple #[]) (results_none rfl _ _ _) rfl ⟨rfl,HF.1,iL.1⟩
    ·have hf:s=R:=by
      rw [Fg AA] at hR;simpa using hR
     have HF:=AB hf;clear hR hf p1 p2;go_wp2_with fail;exact bodyPost_end (v:=.tuple #[]) (results_none rfl _ _ _) rfl ⟨rfl,by rw [<- HF.1];exact HI3.1,HB3.1⟩
theorem auQ (w:World) (gm:Nat) (p:Pl) (f:Int->SV) (hpm:YX w gm p f) (hv:Valid p) (vc:Value) (X:List Int) (hX:Ints w vc X) (hd:∀ d∈X,d∈Bj p) (v:Pt) (nv:CJ v=true) :
  Calls prog 165 #[.map (some gm),vc,BA v] w fun e w'=>e=.returned (.bool (encS p X v))/\AU w w':=by
 have mD:=AB (fun s W (h0:RZ w W w.heap.size (w.heap.size+1) (w.heap.size+1+1) v s)=>auG w gm p f hpm hv vc X hX hd w.heap.size (w.heap.size+1) (w.heap.size+1+1) (fun s W=>RZ w W w.heap.size (w.heap.size+1) (w.heap.size+1+1) v s) (Q9 v) (fun s W h=>h.b) (fun s W h=>h.keep (bD (bR W)))
  (fun s W q hq h=>by
   obtain ⟨a,ha,-,k,hk,rfl⟩:=hv.ajg hd hq;exact auM w W _ _ _ v _ _ s h (hv.Dh ha AA) (hv.Dh ha hk) nv) s W h0)
 unfold BA;obtain ⟨R,hR⟩:=BI (encS p X v);rw [hR];have Yp:=AB hR;clear hR hpm hv hX hd nv;go_enter func165,ntmps165;go_upto_region 2 with fail;obtain ⟨W1,hW⟩:=BR (((w.alloc (.cells #[.int .i64 v.x,.int .i64 v.y] 42)).alloc (.cells #[.bool false] 4)).alloc (.cells #[.bool false] 4));have HE:=AB (show RZ w W1 w.heap.size (w.heap.size+1) (w.heap.size+1+1) v (false,false) from by
  rw [hW];exact ⟨bA (bA (bA (bR w) _) _) _,((AO.made rfl _ _).alloc _).alloc _,(AO.made Ah _ _).alloc _,AO.made Ah _ _,AA,AA,AA,AA,AA⟩)
 rw [<- hW];clear hW;go_wp2_with fail;refine (mD.1 _ _ HE.1).mono ?_;rintro e w2 ⟨rfl,he2,-⟩;have HE2:=AB he2;have X7:=he2.lu;have X8:=he2.odd;clear he2 HE mD;have hr:=Yp.1;unfold encS RU at hr;obtain ⟨S,hS⟩:=BI ((Jr p X).foldl (Q9 v) (false,false));rw [hS] at X7 X8 hr HE2;clear hS Yp;obtain ⟨on,od⟩:=S;simp only at X7 X8 hr;obtain ⟨EJ,EK,-⟩:=X7.LD;obtain ⟨Rq,Rt,-⟩:=X8.LD
 cases od
 case false =>
  obtain rfl:false=R:=by simpa using hr
  clear hr;go_wp2;go_ret;exact ⟨rfl,HE2.1.b⟩
 case true =>
  obtain rfl:(!on)=R:=by simpa using hr
  clear hr;go_wp2;go_ret;exact ⟨rfl,HE2.1.b⟩
