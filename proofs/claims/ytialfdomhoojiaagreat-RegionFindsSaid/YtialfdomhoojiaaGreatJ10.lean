import Derived.Test.YtialfdomhoojiaaGreatJ09
set_option linter.unusedSimpArgs false
set_option linter.unusedVariables false
set_option maxRecDepth 100000
set_option maxHeartbeats 8000000
namespace Go.Proofs.YtialfdomhoojiaaGreat
open Go.RowKit
theorem aqX {l:List Int} (hl:l.Nodup) {i:Nat} (hi:i<l.length):l.findIdx? (fun x=>x == l[i])=some i:=by
 rw [List.findIdx?_eq_some_iff_getElem];refine ⟨hi,Aw,fun j hj=>?_⟩;rw [List.Nodup,Fe] at hl;have:=hl j i AB hi hj
 simpa using this
theorem iL {l:List Int} (hl:l.Nodup) {i:Nat} (hi:i<l.length):precD l l[i]=l[(i+l.length-1) % l.length]'(U7 _ AB):=by
 unfold precD;rw [aqX hl hi];simp only [];rw [Fj,DK (U7 _ AB)];rfl
theorem apg {l:List Int} (hl:l.Nodup) {d:Int} (hd:d∈l):precD l d∈l:=by
 obtain ⟨i,hi,rfl⟩:=Dp.1 hd;rw [iL hl hi];exact BH _
theorem aph {i j n:Nat} (hi:i<n) (hj:j<n) (h:(i+n-1) % n=(j+n-1) % n):i=j:=by
 have key:∀ k,k<n->(k+n-1) % n=if k=0 then n-1 else k-1:=fun k hk=>by
  split
  · subst k;rw [Wq AB];omega
  · rw [show k+n-1=(k-1)+n by omega,aAG,Wq AB]
 rw [key i hi,key j hj] at h;split at h<;>split at h<;>omega
theorem apj {l:List Int} (hl:l.Nodup) {d e:Int} (hd:d∈l) (he:e∈l) (h:precD l d=precD l e):d=e:=by
 obtain ⟨i,hi,rfl⟩:=Dp.1 hd;obtain ⟨j,hj,rfl⟩:=Dp.1 he;rw [iL hl hi,iL hl hj] at h;have hl':=hl;rw [List.Nodup,Fe] at hl';have e:(i+l.length-1) % l.length=(j+l.length-1) % l.length:=by
  rcases PD ((i+l.length-1) % l.length) ((j+l.length-1) % l.length) with h1 | h1 | h1
  · exact absurd h (hl' _ _ _ _ h1)
  · exact h1
  · exact absurd h.symm (hl' _ _ _ _ h1)
 have:=aph hi hj e
 subst this;rfl
theorem WM {p:Pl} {d:Int} (hd:d∈BU p):-d∈BU p:=by
 obtain ⟨a,ha,e⟩:=Iy.1 hd;refine Iy.2 ⟨a,ha,?_⟩;rcases e with rfl | rfl
 · exact .inr rfl
 · exact .inl (Ob _)
section
variable {p:Pl} (h:Valid p)
include h
theorem Valid.aiL {d:Int} (hd:d∈BU p):(FW p d).isSome=true:=by
 obtain ⟨a,ha,e⟩:=Iy.1 hd;rcases e with rfl | rfl
 · rw [h.lW ha];rfl
 · rw [h.wH ha];rfl
theorem Valid.adZ {d:Int} (hd:d∈BU p):∃ n∈p.nodes,n.id=Ja p d/\d∈Df p.AU n.id:=by
 obtain ⟨a,ha,e⟩:=Iy.1 hd;rcases e with rfl | rfl
 ·obtain ⟨n,hn,e,-⟩:=h.sound.XK ha;exact ⟨n,hn,by rw [h.aBT ha,e],Qz.2 ⟨a,ha,.inl ⟨rfl,e.symm⟩⟩⟩
 ·obtain ⟨n,hn,e,-⟩:=h.sound.Yt ha;exact ⟨n,hn,by rw [h.wI ha,e],Qz.2 ⟨a,ha,.inr ⟨rfl,e.symm⟩⟩⟩
theorem Valid.iM {n d:Int} (hd:d∈Df p.AU n):d∈BU p/\Ja p d=n:=by
 obtain ⟨a,ha,e⟩:=Qz.1 hd;rcases e with ⟨rfl,e⟩ | ⟨rfl,e⟩
 · exact ⟨Iy.2 ⟨a,ha,.inl rfl⟩,by rw [h.aBT ha,e]⟩
 · exact ⟨Iy.2 ⟨a,ha,.inr rfl⟩,by rw [h.wI ha,e]⟩
theorem Valid.dU {n:Nd} (hn:n∈p.nodes):(DF p n.id).Nodup:=(h.N8 hn).nodup_iff.2 h.adY
theorem Valid.lY {d:Int} (hd:d∈BU p):∃ n∈p.nodes,n.id=Ja p (-d)/\-d∈DF p n.id/\FP p d=precD (DF p n.id) (-d):=by
 obtain ⟨n,hn,e,hm⟩:=h.adZ (WM hd);refine ⟨n,hn,e,(h.N8 hn).symm.subset hm,?_⟩;unfold FP;rw [AZ (h.aiL hd),e]
theorem Valid.Qe {d:Int} (hd:d∈BU p):FP p d∈BU p/\Ja p (FP p d)=Ja p (-d):=by
 obtain ⟨n,hn,e,hm,hx⟩:=h.lY hd;rw [hx];have h1:=apg (h.dU hn) hm;have h2:=h.iM ((h.N8 hn).subset h1);exact ⟨h2.1,by rw [h2.2,e]⟩
theorem Valid.Xg {d e:Int} (hd:d∈BU p) (he:e∈BU p) (hx:FP p d=FP p e):d=e:=by
 obtain ⟨n,hn,e1,m1,x1⟩:=h.lY hd;obtain ⟨m,hm,e2,m2,x2⟩:=h.lY he;have hs:=(h.Qe hd).2;rw [hx,(h.Qe he).2,<- e2,<- e1] at hs;rw [x1,x2,hs] at hx;rw [hs] at m2;have:=apj (h.dU hn) m1 m2 hx
 omega
theorem Valid.wK:(BU p).Nodup:=h.aBV.imp (fun h=>by omega)
theorem Valid.Gi:Om (FP p) (BU p) (BU p) (CX p) :=
 aqS (fun x hx=>(h.Qe hx).1) (fun x hx y hy=>h.Xg hx hy) h.aBV
theorem Valid.ada:(CX p).flatten.Perm (BU p):=h.Gi.perm (fun x hx=>(h.Qe hx).1) h.wK
theorem Valid.aBW:(p.nodes.flatMap fun n=>DF p n.id).Perm (BU p):=by
 refine (sO ?_ h.wK).2 fun d=>?_
 ·unfold List.Nodup;rw [aA9];refine ⟨fun n hn=>h.dU hn,?_⟩;have hs:=h.sound.nodes;rw [IL] at hs;rw [Fe] at hs ⊢;intro i j hi hj hij x hx y hy e;subst e;have h1:=(h.iM ((h.N8 (BH hi)).subset hx)).2;have h2:=(h.iM ((h.N8 (BH hj)).subset hy)).2;have:=hs i j hi hj hij
  omega
 ·rw [GY];constructor
  ·rintro ⟨n,hn,hd⟩;exact (h.iM ((h.N8 hn).subset hd)).1
  ·intro hd;obtain ⟨n,hn,-,hm⟩:=h.adZ hd;exact ⟨n,hn,(h.N8 hn).symm.subset hm⟩
end
theorem nK.form {w:World} {r:Option Ar} {e:Ending} {w':World} (h:nK w r e w'):∃ A c,e=.returned (.tuple #[.agg #[.int .i64 (r.getD Jh).id,.int .i64 (r.getD Jh).fr,.int .i64 (r.getD Jh).dst,.slice A (r.getD Jh).via.length c,.int .i64 (r.getD Jh).left,.int .i64 (r.getD Jh).right],.bool r.isSome])/\AP w w'/\Dq w' (.slice A (r.getD Jh).via.length c) (r.getD Jh).via:=by
 obtain ⟨v',rfl,hb,hp⟩:=h;obtain ⟨A,c,rfl,h1,h2,h3⟩:=hp;exact ⟨A,c,rfl,hb,A,c,rfl,h1,h2,h3⟩
theorem wL {n:Int} (h:ES n):-9223372036854775808<=n/\n<=9223372036854775807:=by
 unfold ES Lit.wf at h;simp only [Em,E8] at h;have h1:IntKind.i64.min=-9223372036854775808:=by decide
 have h2:IntKind.i64.max=9223372036854775807:=by decide
 rw [h1,h2] at h;exact h
theorem apk {p:Pl} {d:Int} (h0:d≠0) (h1:d≠-9223372036854775808):findAr p.AU (max d (-d))=FW p d:=by
 unfold FW iH Ee;rw [AX AB];congr 1;split<;>omega
def apl (w:World) (r:Option Ar) (e:Ending) (w':World):Prop :=
 ∃ A n c,e=.returned (.tuple #[.agg #[.int .i64 (r.getD Jh).id,.int .i64 (r.getD Jh).fr,.int .i64 (r.getD Jh).dst,.slice A n c,.int .i64 (r.getD Jh).left,.int .i64 (r.getD Jh).right],.bool r.isSome])/\AP w w'
theorem aiM (v:Value) (p:Pl) (d:Int) (w:World) (h:Cb w v p) (hs:Vg p) (hd:ES d):Calls Tryz.prog 90 #[v,.int .i64 d] w (apl w (FW p d)):=by
 have TA:=fun W (hW:AP w W)=>ao6 v p (max d (-d)) W (h.mono hW) hs;obtain ⟨_,_,_,al,rfl,hpa,⟨An,cn,rfl,-⟩,⟨⟨Aa,ca,rfl,-⟩,-⟩,⟨Af,cf,rfl,-⟩⟩:=h;generalize al.length=na at *;generalize p.nodes.length=nn at *;generalize p.faces.length=nf at *;clear hpa;by_cases h0:d=0
 ·subst h0;have hz:FW p 0=none:=by unfold FW;rw [AZ (.inl rfl)]
  rw [hz];clear TA hz;go_enter Tryz.func90,Tryz.ntmps90;go_upto_region 1 with fail;obtain ⟨W,hW⟩:=BO ((w.alloc (.cells #[.slice An nn cn,.slice Aa na ca,.slice Af nf cf] 26)).alloc (.cells #[.int .i64 0,.int .i64 0,.int .i64 0,.slice none 0 0,.int .i64 0,.int .i64 0] 50));have Bw:AP w W:=by rw [hW];exact bA (bA (bR w) _) _
  have X4:AO W (w.heap.size+1) 50 #[.int .i64 0,.int .i64 0,.int .i64 0,.slice none 0 0,.int .i64 0,.int .i64 0]:=by rw [hW];exact AO.made Aw _ _
  rw [<- hW];clear hW;obtain ⟨Bh,Bl,CV,FB,JV,Jy,Jz,Dl,Ey,Ia,OD,Pq,PG⟩:=X4.IU;go_wp2_with fail;refine LG (g:=w.heap.size+1) (cs:=#[.int .i64 0,.int .i64 0,.int .i64 0,.slice none 0 0,.int .i64 0,.int .i64 0]) rfl SC rfl rfl (AO.SB X4) ⟨none,0,0,rfl,?_⟩;exact Dk
 by_cases h1:d=-9223372036854775808
 ·subst h1;have hz:FW p (-9223372036854775808)=none:=by unfold FW;rw [AZ (.inr rfl)]
  rw [hz];clear TA hz h0;go_enter Tryz.func90,Tryz.ntmps90;go_upto_region 1 with fail;obtain ⟨W,hW⟩:=BO ((w.alloc (.cells #[.slice An nn cn,.slice Aa na ca,.slice Af nf cf] 26)).alloc (.cells #[.int .i64 0,.int .i64 0,.int .i64 0,.slice none 0 0,.int .i64 0,.int .i64 0] 50));have Bw:AP w W:=by rw [hW];exact bA (bA (bR w) _) _
  have X4:AO W (w.heap.size+1) 50 #[.int .i64 0,.int .i64 0,.int .i64 0,.slice none 0 0,.int .i64 0,.int .i64 0]:=by rw [hW];exact AO.made Aw _ _
  rw [<- hW];clear hW
  try clear Bh Bl CV FB JV Jy Jz
  try clear Dl Ey Ia OD Pq PG
  obtain ⟨Bh,Bl,CV,FB,JV,Jy,Jz,Dl,Ey,Ia,OD,Pq,PG⟩:=X4.IU;go_wp2_with fail;refine LG (g:=w.heap.size+1) (cs:=#[.int .i64 0,.int .i64 0,.int .i64 0,.slice none 0 0,.int .i64 0,.int .i64 0]) rfl SC rfl rfl (AO.SB X4) ⟨none,0,0,rfl,?_⟩;exact Dk
 rw [apk h0 h1] at TA;have hb:=wL hd;have k1:IntKind.i64.wrap (-d)=-d:=Ci _ AB;have e0:(d == 0)=false:=by simpa using h0
 have e1:(d == -9223372036854775808)=false:=by simpa using h1
 have HA:=AA TA;clear TA h0 h1 hd hb;generalize FW p d=r at *;go_enter Tryz.func90,Tryz.ntmps90;go_upto_region 1 with fail;obtain ⟨W,hW⟩:=BO ((w.alloc (.cells #[.slice An nn cn,.slice Aa na ca,.slice Af nf cf] 26)).alloc (.cells #[.int .i64 0,.int .i64 0,.int .i64 0,.slice none 0 0,.int .i64 0,.int .i64 0] 50));have Bw:AP w W:=by rw [hW];exact bA (bA (bR w) _) _
 have X4:AO W (w.heap.size+1) 50 #[.int .i64 0,.int .i64 0,.int .i64 0,.slice none 0 0,.int .i64 0,.int .i64 0]:=by rw [hW];exact AO.made Aw _ _
 have X2:AO W w.heap.size 26 #[.slice An nn cn,.slice Aa na ca,.slice Af nf cf]:=by rw [hW];exact (AO.made rfl _ _).alloc _
 rw [<- hW];clear hW;obtain ⟨BQ,BR,BX,CZ,-,-,-⟩:=X2.BF;go_wp2_with fail;refine (HA.out _ Bw).mono ?_;intro e w1 har;obtain ⟨A1,c1,rfl,hb1,-⟩:=har.form;have Bw:=bT Bw hb1;replace X4:=X4.keep hb1;clear har hb1 X2 BQ BR BX CZ
 try clear Bh Bl CV FB JV Jy Jz
 try clear Dl Ey Ia OD Pq PG
 obtain ⟨Bh,Bl,CV,FB,JV,Jy,Jz,Dl,Ey,Ia,OD,Pq,PG⟩:=X4.IU;generalize hvl:(r.getD Jh).via.length=vl at *;go_wp2_with fail;refine LG (g:=w.heap.size+1) (cs:=#[.int .i64 (r.getD Jh).id,.int .i64 (r.getD Jh).fr,.int .i64 (r.getD Jh).dst,.slice A1 vl c1,.int .i64 (r.getD Jh).left,.int .i64 (r.getD Jh).right]) rfl SC rfl rfl (AO.SB X4) ⟨A1,vl,c1,rfl,?_⟩;exact Dk
theorem apm (v:Value) (p:Pl) (d:Int) (w:World) (h:Cb w v p) (hs:Vg p) (hd:ES d):Calls Tryz.prog 33 #[v,.int .i64 d] w fun e w'=>e=.returned (.int .i64 (Es p d))/\AP w w':=by
 have HA:=AA (fun W (hW:AP w W)=>aiM v p d W (h.mono hW) hs hd);obtain ⟨_,_,_,al,rfl,hpa,⟨An,cn,rfl,-⟩,⟨⟨Aa,ca,rfl,-⟩,-⟩,⟨Af,cf,rfl,-⟩⟩:=h;unfold Es;generalize FW p d=r at *;generalize al.length=na at *;generalize p.nodes.length=nn at *;generalize p.faces.length=nf at *;clear hpa hd hs;go_enter Tryz.func33,Tryz.ntmps33;go_wp2_with fail;refine (HA.out _ (bA (bR w) _)).mono ?_;rintro e w1 ⟨A1,n1,c1,rfl,hb1⟩;have B1:=AA (bT (bA (bR w) _) hb1);clear hb1 HA
 cases r with
 | none =>
  simp only [fK];go_wp2;go_ret;exact ⟨rfl,bA B1.out _⟩
 | some a =>
  simp only [VH,Gp];by_cases hp:0<d
  ·go_wp2;go_ret;exact ⟨DU (by first | rfl | simp [hp]),bA B1.out _⟩
  ·go_wp2;go_ret;exact ⟨DU (by first | rfl | simp [hp]),bA B1.out _⟩
theorem apn (p:Pl) {d:Int} (h:0<d):Ja p d=((findAr p.AU d).getD Jh).fr/\Es p d=((findAr p.AU d).getD Jh).left:=by
 have e:FW p d=findAr p.AU d:=by unfold FW iH Ee;rw [AX AB,AX AB]
 unfold Ja Es;rw [e]
 cases findAr p.AU d
 · exact ⟨rfl,rfl⟩
 · exact ⟨AZ h,AZ h⟩
theorem apo (p:Pl) {d:Int} (h:d<0) (h1:d≠-9223372036854775808):Ja p d=((findAr p.AU (-d)).getD Jh).dst/\Es p d=((findAr p.AU (-d)).getD Jh).right:=by
 have e:FW p d=findAr p.AU (-d):=by unfold FW iH Ee;rw [AX AB,AZ h]
 unfold Ja Es;rw [e]
 cases findAr p.AU (-d)
 · exact ⟨rfl,rfl⟩
 · exact ⟨AX AB,AX AB⟩
theorem apq (p:Pl) {d:Int} (h:d=0\/d=-9223372036854775808):Ja p d=0/\Es p d=0:=by
 have e:FW p d=none:=by unfold FW iH;rw [AZ h]
 unfold Ja Es;rw [e];exact ⟨rfl,rfl⟩
theorem adb (v:Value) (p:Pl) (d:Int) (w:World) (h:Cb w v p) (hs:Vg p) (hd:ES d):Calls Tryz.prog 83 #[v,.int .i64 d] w fun e w'=>e=.returned (.int .i64 (Es p d))/\AP w w':=by
 have HA:=AA (fun id W (hW:AP w W)=>ao7 v p id W (h.mono hW) hs);obtain ⟨_,_,_,al,rfl,hpa,⟨An,cn,rfl,-⟩,⟨⟨Aa,ca,rfl,-⟩,-⟩,⟨Af,cf,rfl,-⟩⟩:=h;have hb:=wL hd;generalize al.length=na at *;generalize p.nodes.length=nn at *;generalize p.faces.length=nf at *;clear hpa hd hs;by_cases h1:0<d
 ·rw [(apn p h1).2];have HB:=AA (HA.out d);clear HA hb;generalize findAr p.AU d=r at *;go_enter Tryz.func83,Tryz.ntmps83;go_wp2_with fail;refine (HB.out _ (bA (bR w) _)).mono ?_;intro e w1 har;obtain ⟨A1,c1,rfl,hb1,-⟩:=har.form;have B1:=AA (bT (bA (bR w) _) hb1);clear har hb1 HB;generalize (r.getD Jh).via.length=vl at *;go_wp2;go_ret;exact ⟨rfl,bA B1.out _⟩
 by_cases h2:d=0\/d=-9223372036854775808
 ·rw [(apq p h2).2];clear HA hb;have k1:IntKind.i64.wrap 9223372036854775808=-9223372036854775808:=by decide
  rcases h2 with rfl | rfl
  all_goals
   go_enter Tryz.func83,Tryz.ntmps83;go_wp2;go_ret;exact ⟨rfl,bA (bR w) _⟩
 have k1:IntKind.i64.wrap (-d)=-d:=Ci _ AB;have k2:0 < -d:=by omega
 rw [(apo p AB AB).2];have HB:=AA (HA.out (-d));clear HA hb h2;generalize findAr p.AU (-d)=r at *;go_enter Tryz.func83,Tryz.ntmps83;go_wp2_with fail;refine (HB.out _ (bA (bR w) _)).mono ?_;intro e w1 har;obtain ⟨A1,c1,rfl,hb1,-⟩:=har.form;have B1:=AA (bT (bA (bR w) _) hb1);clear har hb1 HB;generalize (r.getD Jh).via.length=vl at *;go_wp2;go_ret;exact ⟨rfl,bA B1.out _⟩
theorem ade {P:Program} {fn:Func} {p u v:Tmp} {ty t:TypeId} {R:Ending->World->Prop} {a:Act} {w:World} {g:Nat} {cs:Array Value} (h:fn.results=#[.cell p ty,.tmp u,.tmp v])
  (hS:StructOf P ty cs.size) (hp:a.tmps.getD p undef=.pointer (some ⟨g,0,none⟩)) (hd:a.defers=[]) (hb:AO w g t cs) (hR:R (.returned (.tuple #[.agg cs,a.tmps.getD u undef,a.tmps.getD v undef])) w):bodyPost P fn R .ret a w:=by
 obtain ⟨fs,h1,h3⟩:=hS;refine bodyPost_ret ?_ hd hR;have e1:=run_loadVar_row (P:=P) w g t ty cs (0,0) (.struct fs) hb h1 rfl h3;have hp':a.tmps[p]?.getD undef=.pointer (some ⟨g,0,none⟩):=by simpa using hp
 simp only [results,h];simp [hp',asAddr,Sem.run_bind,Sem.run_pure,Result.andThen,e1]
def lZ (p:Pl) (d:Int):Bool:=p.AU.any fun a=>decide (a.id=d) || decide (a.id=IntKind.i64.wrap (-d))
def apr (w:World) (b:Bool) (e:Ending) (w':World):Prop :=
 ∃ (A:Option Addr) (n c:Nat) (i0 i1 i2 i4 i5:Int) (back:Bool),e=.returned (.tuple #[.agg #[.int .i64 i0,.int .i64 i1,.int .i64 i2,.slice A n c,.int .i64 i4,.int .i64 i5],.bool back,.bool b])/\AP w w'
theorem aps (v:Value) (p:Pl) (d:Int) (w:World) (h:Cb w v p):Calls Tryz.prog 251 #[v,.int .i64 d] w (apr w (lZ p d)):=by
 obtain ⟨_,_,_,al,rfl,hpa,⟨An,cn,rfl,-⟩,⟨⟨Aa,ca,rfl,hn1,hn2,hR⟩,hV⟩,⟨Af,cf,rfl,-⟩⟩:=h;unfold maxLen at hn2;have HR:=AA hR;have HV:=AA hV;obtain ⟨r,hr⟩:=BL (lZ p d);rw [hr];unfold lZ at hr;rw [hpa] at hr;have Hr:=AA hr;generalize p.nodes.length=nn at *;generalize p.faces.length=nf at *;clear hpa hr hR hV;obtain ⟨nd,hnd⟩:=BL (IntKind.i64.wrap (-d));rw [hnd] at Hr;go_enter Tryz.func251,Tryz.ntmps251;go_wp2_with fail;go_loopw [7] (fun u wr=>∃ k:Nat,k<=al.length/\u=.int .i64 k/\AP w wr/\AO wr w.heap.size 26 #[.slice An nn cn,.slice Aa al.length ca,.slice Af nf cf]/\AO wr (w.heap.size+1) 50 #[.int .i64 0,.int .i64 0,.int .i64 0,.slice none 0 0,.int .i64 0,.int .i64 0]/\∀ j (hj:j<al.length),j<k->(decide (al[j].1.id=d) || decide (al[j].1.id=nd))=false) (fun u _=>al.length-(intOf u).toNat)
 case atStart => exact ⟨0,BZ _,rfl,bA (bA (bR w) _) _,(AO.made rfl _ _).alloc _,AO.made Aw _ _,fun j _ h=>by omega⟩
 case round =>
  obtain ⟨k,hk,rfl,hb,X2,X4,hno⟩:=hrel;have Hb:=AA hb;have Hno:=AA hno;clear hb hno;obtain ⟨BQ,BR,BX,CZ,-,-,-⟩:=X2.BF;obtain ⟨Bh,Bl,CV,FB,JV,Jy,Jz,Dl,Ey,Ia,OD,Pq,PG⟩:=X4.IU;have Bw:=Hb.out;by_cases hlt:k<al.length
  case neg =>
   have hf:=UA (al.map (·.1)) (fun a=>decide (a.id=d) || decide (a.id=nd)) (fun j hj=>by
    rw [Cm] at hj;simp only [Gq];exact Hno.out j hj AB)
   have Hf:=AA (Hr.out.symm.trans hf);clear hf;go_wp2_with fail;refine ade (g:=w.heap.size+1) (cs:=#[.int .i64 0,.int .i64 0,.int .i64 0,.slice none 0 0,.int .i64 0,.int .i64 0]) rfl SC rfl rfl (AO.SB X4) ⟨none,0,0,0,0,0,0,0,false,Ws,?_⟩;exact Dk
  obtain ⟨b,o,rfl,hlb,c0,c1,c2,c3,c4,c5⟩:=(HR.out.mono Hb.out).ar hlt;obtain ⟨Av,cv,hv,-⟩:=HV.out k hlt;rw [hv] at c3;clear hv;generalize hvl:al[k].1.via.length=vl at *;by_cases e1:al[k].1.id=d
  case pos =>
   have hf:=Ri (al.map (·.1)) (fun a=>decide (a.id=d) || decide (a.id=nd)) k (by simpa using hlt) (by simp [e1]);have Hf:=AA (Hr.out.symm.trans hf);have e1':(al[k].1.id == d)=true:=by simpa using e1
   clear hf e1;go_wp2_with fail;refine ade (g:=w.heap.size+1) (cs:=#[.int .i64 al[k].1.id,.int .i64 al[k].1.fr,.int .i64 al[k].1.dst,.slice Av vl cv,.int .i64 al[k].1.left,.int .i64 al[k].1.right]) rfl SC rfl rfl (AO.SB X4) ⟨Av,vl,cv,_,_,_,_,_,_,Ws,?_⟩;exact Dk
  case neg =>
  have e1':(al[k].1.id == d)=false:=by simpa using e1
  by_cases e2:al[k].1.id=nd
  case pos =>
   have hf:=Ri (al.map (·.1)) (fun a=>decide (a.id=d) || decide (a.id=nd)) k (by simpa using hlt) (by simp [e2]);have Hf:=AA (Hr.out.symm.trans hf);have e2':(al[k].1.id == nd)=true:=by simpa using e2
   clear hf e1 e2;go_wp2_with fail;refine ade (g:=w.heap.size+1) (cs:=#[.int .i64 al[k].1.id,.int .i64 al[k].1.fr,.int .i64 al[k].1.dst,.slice Av vl cv,.int .i64 al[k].1.left,.int .i64 al[k].1.right]) rfl SC rfl rfl (AO.SB X4) ⟨Av,vl,cv,_,_,_,_,_,_,Ws,?_⟩;exact Dk
  case neg =>
  have e2':(al[k].1.id == nd)=false:=by simpa using e2
  have HN:=AA (show (decide (al[k].1.id=d) || decide (al[k].1.id=nd))=false by simp [e1,e2]);clear e1 e2;go_wp2;go_roundw
  case rel => exact ⟨k+1,AB,BI,Hb.out,X2,X4,all_succ (p:=fun x:Ar×Value=>(decide (x.1.id=d) || decide (x.1.id=nd))=false) Hno.out hlt HN.out⟩
  case measure => exact BK
theorem apt (v:Value) (p:Pl) (d:Int) (w:World) (h:Cb w v p):Calls Tryz.prog 196 #[v,.int .i64 d] w fun e w'=>e=.returned (.bool (lZ p d && !decide (d=0)))/\AP w w':=by
 have HA:=AA (fun W (hW:AP w W)=>aps v p d W (h.mono hW));obtain ⟨_,_,_,al,rfl,hpa,⟨An,cn,rfl,-⟩,⟨⟨Aa,ca,rfl,-⟩,-⟩,⟨Af,cf,rfl,-⟩⟩:=h;generalize lZ p d=r at *;generalize al.length=na at *;generalize p.nodes.length=nn at *;generalize p.faces.length=nf at *;clear hpa;go_enter Tryz.func196,Tryz.ntmps196;go_wp2_with fail;refine (HA.out _ (bA (bR w) _)).mono ?_;rintro e w1 ⟨A1,n1,c1,i0,i1,i2,i4,i5,back,rfl,hb1⟩;have B1:=AA (bT (bA (bR w) _) hb1);clear hb1 HA
 cases r
 ·go_wp2;go_ret;exact ⟨rfl,bA B1.out _⟩
 ·by_cases h0:d=0
  ·subst h0;go_wp2;go_ret;exact ⟨rfl,bA B1.out _⟩
  ·have h0':(d != 0)=true:=by simpa using h0
   have H0:=AA h0;clear h0;go_wp2;go_ret;exact ⟨C9 (by simp [H0.out]),bA B1.out _⟩
def Oo (a b:Pt):Int:=a.x*b.y-b.x*a.y
def Jb (P:List Pt):Nat->Int
 | 0=>0
 | k+1=>Jb P k+Oo (P.getD k AY) (P.getD (k+1) AY)
def Qg (P:List Pt):Int:=Jb P (P.length-1)
def V3 (p:Pl) (d:Int):Int:=match FW p d with
 | none=>0
 | some a=>if 0<d then Qg (AV p a) else -Qg (AV p a)
def Nk (p:Pl) (l:List Int):Nat->Int
 | 0=>0
 | k+1=>Nk p l k+V3 p (l.getD k 0)
def Uh (p:Pl) (l:List Int):Int:=if l.length<=512/\(∀ d∈l,(FW p d).isSome=true) then Nk p l l.length else 0
theorem apu (P:List Pt) (k:Nat) (hk:k+1<=P.length):Jb P.reverse k=Jb P (P.length-1-k)-Jb P (P.length-1):=by
 induction k with
 | zero=>simp [Jb]
 | succ k ih =>
  rw [Jb,ih AB];obtain ⟨m,hm⟩:∃ m,P.length=m+k+2:=⟨P.length-k-2,AB⟩;have e1:P.reverse.getD k AY=P.getD (m+1) AY:=by
   rw [Fj,List.getElem?_reverse AB,Fj];congr 2;omega
  have e2:P.reverse.getD (k+1) AY=P.getD m AY:=by
   rw [Fj,List.getElem?_reverse AB,Fj];congr 2;omega
  rw [e1,e2,show P.length-1-k=m+1 by omega,show P.length-1-(k+1)=m by omega,Jb];unfold Oo;omega
theorem apv (P:List Pt) (h:1<=P.length):Qg P.reverse=-Qg P:=by
 unfold Qg;rw [Wp,apu P _ AB];rw [show P.length-1-(P.length-1)=0 by omega];simp [Jb]
def N9 (p:Pt):Prop:=(-1048576<=p.x/\p.x<=1048576)/\(-1048576<=p.y/\p.y<=1048576)
theorem oW {u v:Int} (hu:-1048576<=u/\u<=1048576) (hv:-1048576<=v/\v<=1048576):-1099511627776<=u*v/\u*v<=1099511627776:=by
 have:=Qr u v 1048576 hu.1 hu.2 hv.1 hv.2
 simpa using this
theorem apw {a b:Pt} (ha:N9 a) (hb:N9 b):-2199023255552<=Oo a b/\Oo a b<=2199023255552:=by
 have h1:=oW ha.1 hb.2;have h2:=oW hb.1 ha.2;unfold Oo;omega
theorem aiN {P:List Pt} (h:∀ q∈P,N9 q) (k:Nat) (hk:k+1<=P.length\/k=0):-(2199023255552*(k:Int))<=Jb P k/\Jb P k<=2199023255552*(k:Int):=by
 induction k with
 | zero=>simp [Jb]
 | succ k ih =>
  have ih:=ih AB;have g:∀ j,j<P.length->N9 (P.getD j AY):=fun j hj=>by
   rw [Fj,DK hj];exact h _ (BH hj)
  have:=apw (g k AB) (g (k+1) AB)
  rw [Jb];omega
theorem aiO {q:Pt} (h:Ik q=true):N9 q:=by
 unfold Ik at h;simp only [Em,E8] at h;unfold N9;omega
theorem wM {p:Pl} {d:Int} {a:Ar} (e:FW p d=some a):a∈p.AU/\Ee d=a.id:=by
 unfold FW at e;split at e
 · cases e
 · exact ⟨VG e,by have:=List.find?_some e;exact (show a.id=Ee d by simpa using this).symm⟩
section
variable {p:Pl} (h:Valid p)
include h
theorem Valid.wO {a:Ar} (ha:a∈p.AU) {q:Pt} (hq:q∈AV p a):N9 q:=by
 have hr:=h.rng;unfold OE at hr;simp only [Em,JF] at hr;have key:∀ q∈Zv p,N9 q:=fun q hq=>aiO (hr.2 q hq);unfold AV at hq;rcases EJ.1 hq with rfl | hq
 ·obtain ⟨n,hn,-,e⟩:=h.sound.XK ha;rw [e];exact key _ (Oa _ (Gs hn))
 ·rcases FZ.1 hq with hq | hq
  · exact key _ (Xv _ (GY.2 ⟨a,ha,hq⟩))
  ·rw [ED] at hq;subst hq;obtain ⟨n,hn,-,e⟩:=h.sound.Yt ha;rw [e];exact key _ (Oa _ (Gs hn))
theorem Valid.Sv {a:Ar} (ha:a∈p.AU):a.via.length<=64:=by
 have hl:=h.lim;unfold JX at hl;rw [Rq,Xu] at hl;have:=hl.1 a ha
 simpa using this
theorem Valid.aiP {a:Ar} (ha:a∈p.AU) (k:Nat) (hk:k+1<=(AV p a).length):-142936511610880<=Jb (AV p a) k/\Jb (AV p a) k<=142936511610880:=by
 have h1:=aiN (P:=AV p a) (fun q hq=>h.wO ha hq) k (.inl hk);have h2:=h.Sv ha;have h3:=Eh p a;omega
theorem Valid.apx (d:Int):-142936511610880<=V3 p d/\V3 p d<=142936511610880:=by
 unfold V3
 cases e:FW p d with
 | none=>simp
 | some a =>
  have ha:=(wM e).1;have h3:=Eh p a;have:=h.aiP ha ((AV p a).length-1) AB
  unfold Qg;simp only [];split<;>omega
theorem Valid.aiQ (l:List Int) (k:Nat):-(142936511610880*(k:Int))<=Nk p l k/\Nk p l k<=142936511610880*(k:Int):=by
 induction k with
 | zero=>simp [Nk]
 | succ k ih =>
  have:=h.apx (l.getD k 0)
  rw [Nk];omega
theorem Valid.apy {d:Int} (hd:-9223372036854775808<=d/\d<=9223372036854775807):((p.AU.any fun a=>decide (a.id=d) || decide (a.id=IntKind.i64.wrap (-d))) && !decide (d=0))=(FW p d).isSome:=by
 rw [LX,Em,PE];constructor
 ·rintro ⟨⟨a,ha,h1⟩,h0⟩;have hp:=h.Gh ha;rw [L6,E8,E8] at h1;rcases h1 with h1 | h1
  · rw [<- h1,h.lW ha];rfl
  ·by_cases hm:d=-9223372036854775808
   ·subst hm
    have:IntKind.i64.wrap (-(-9223372036854775808))=-9223372036854775808:=by decide
    rw [this] at h1;omega
   ·rw [Ci _ AB] at h1;rw [show d=-a.id by omega,h.wH ha];rfl
 ·intro h1
  cases e:FW p d with
  | none=>rw [e] at h1;cases h1
  | some a =>
   obtain ⟨ha,hi⟩:=wM e;have hp:=h.Gh ha;unfold Ee at hi;refine ⟨⟨a,ha,?_⟩,?_⟩
   ·rw [L6,E8,E8];split at hi
    ·right;rw [Ci _ AB];omega
    · left;omega
   ·simp only [Ru,J3];rintro rfl;simp at hi;omega
end
def Tf (p:Pl) (d:Int):List Pt:=if 0<d then (pathOf p d).getD [] else ((pathOf p (-d)).getD []).reverse
theorem apz {p:Pl} (hs:Short p) (id:Int):((pathOf p id).getD []).length<=1048578:=by
 cases e:pathOf p id with
 | none=>simp
 | some l=>exact (ahP e hs).2
theorem aiR (v:Value) (p:Pl) (d:Int) (w:World) (h:Cb w v p) (hs:Short p) (hd:-9223372036854775808<d/\d<=9223372036854775807):Calls Tryz.prog 197 #[v,.int .i64 d] w (YD w (Tf p d)):=by
 have HA:=AA (fun id W (hW:AP w W)=>agW v p id W (h.mono hW) hs);have HLn:=AA (apz hs);obtain ⟨_,_,_,al,rfl,hpa,⟨An,cn,rfl,-⟩,⟨⟨Aa,ca,rfl,-⟩,-⟩,⟨Af,cf,rfl,-⟩⟩:=h;unfold Tf;generalize al.length=na at *;generalize p.nodes.length=nn at *;generalize p.faces.length=nf at *;clear hpa hs;by_cases h1:0<d
 ·rw [AZ h1];have HB:=AA (HA.out d);clear HA hd HLn;unfold iW at HB;generalize (pathOf p d).getD []=L at *;generalize (if (pathOf p d).isSome then (0:Int) else 7)=z at *;go_enter Tryz.func197,Tryz.ntmps197;go_wp2_with fail;refine (HB.out _ (bA (bR w) _)).mono ?_;rintro e w1 ⟨A1,c1,rfl,hb1,ho1⟩;have B1:=AA (bT (bA (bR w) _) hb1);have HO:=AA (Own.Du ho1 (b':=w.heap.size) Aw);clear hb1 ho1 HB;go_wp2;go_ret;exact ⟨A1,c1,rfl,B1.out,HO.out⟩
 rw [AX h1];have k1:IntKind.i64.wrap (-d)=-d:=Ci _ AB;have HB:=AA (HA.out (-d));have hln:=HLn.out (-d);clear HA hd HLn;unfold iW at HB;generalize (pathOf p (-d)).getD []=L at *;generalize (if (pathOf p (-d)).isSome then (0:Int) else 7)=z at *;obtain ⟨q,hq⟩:=BL L.reverse;rw [hq];have Hq:=AA hq;clear hq;go_enter Tryz.func197,Tryz.ntmps197;go_wp2_with fail;refine (HB.out _ (bA (bR w) _)).mono ?_;rintro e w1 ⟨A1,c1,rfl,hb1,ho1⟩;have B1:=AA (bT (bA (bR w) _) hb1);have HO:=AA ho1.sl;clear hb1 ho1 HB k1;have k2:IntKind.i64.wrap ((L.length:Int)-1)=(L.length:Int)-1:=Ci _ AB;have hR:=HO.out;obtain ⟨Aq,cq,he,hq1,hq2,hR⟩:=hR;injection he with e1 e2 e3;subst e1 e3;clear e2;unfold maxLen at hq2;have HR:=AA hR;clear hR;go_wp2_with fail;go_loopw [9,10] (fun s i wr=>∃ m:Nat,m<=L.length/\i=.int .i64 ((m:Int)-1)/\Own wr w1.heap.size 39 2 EX s (L.drop m).reverse/\AP w1 wr) (fun _ i _=>(intOf i+1).toNat)
 case atStart => exact ⟨L.length,DT _,rfl,by rw [aax];exact Own.nil _ _ _ _ _,bR w1⟩
 case round =>
  obtain ⟨m,hm,rfl,ho,hb⟩:=hrel;have Hb:=AA hb;have Ho:=AA ho;obtain ⟨As,cs,rfl,-⟩:=Own.sl ho;clear hb ho
  cases m with
  | zero =>
   have ho:=Ho.out;rw [rY,Hq.out] at ho;have EU:=AA ho;rw [rY,Hq.out];clear ho;have k3:¬ (0:Int)<=((0:Nat):Int)-1:=by omega
   go_wp2;go_ret;exact ⟨As,cs,rfl,bT B1.out Hb.out,Own.Du EU.out B1.out.size⟩
  | succ m =>
   have hml:m<L.length:=by omega
   obtain ⟨b,o,hA,hlb,c0,c1⟩:=(HR.out.mono Hb.out).pt hml;subst hA;have k3:(((m+1:Nat):Int)-1)=(m:Int):=by omega
   rw [k3];clear k3;have hst:(L.drop m).reverse=(L.drop (m+1)).reverse++[L[m]]:=by rw [<- List.reverse_cons,Qk hml]
   have DI:=AA hst;have hdl:(L.drop (m+1)).reverse.length<=1048578:=by rw [Wp,gI];omega
   have aAR:=AA hdl;clear hst hdl;have q1:0<=(m:Int):=by omega
   have q2:(m:Int)<L.length:=by omega
   have hz:=Hb.out.size;have hz1:=B1.out.size;go_wp2_with
    (at_builtin
     refine Ew _ rfl (.tmp 34) (.tmp 39) _ rfl (base:=w1.heap.size) KR Jv KT rfl (Own.alloc Ho.out _) rfl (l2:=[L[m]]) (Sl.lit (n:=1) (AO.made rfl _ _) rfl (D6 AB)) (by have:=aAR.out;simp only [I9,Md];omega) (by have:=aAR.out;simp only [I9,Md];omega) DC ?_;intro v3 w3 ho3 hg3 Jc;have EI:=AA ho3;have B3:=AA (show AP w1 w3 from bG (bA Hb.out _) hg3 (fun g hg=>(Ho.out.lt g hg).1));clear ho3 hg3 Jc)
   go_roundw
   case rel => exact ⟨m,AB,BI,by rw [DI.out];exact EI.out,B3.out⟩
   case measure => simp [intOf]
theorem Valid.short {p:Pl} (h:Valid p):Short p:=fun a ha=>by have:=h.Sv ha;omega
theorem Short.long {p:Pl} (h:Short p):Vg p:=fun a ha=>by have:=h a ha;omega
theorem Valid.adf {p:Pl} (h:Valid p) {d:Int} {a:Ar} (e:FW p d=some a):pathOf p (Ee d)=some (AV p a):=by
 obtain ⟨ha,hi⟩:=wM e;rw [hi];exact h.sound.path ha
theorem aq0 (d:Int):max d (-d)=Ee d:=by unfold Ee;split<;>omega
theorem aq1 {p:Pl} {l:List Int} {k:Nat} (hk:k<l.length) {a:Ar} (e:FW p l[k]=some a):Nk p l (k+1)=Nk p l k+(if 0<l[k] then Qg (AV p a) else -Qg (AV p a)):=by
 have:l.getD k 0=l[k]:=by rw [Fj,DK hk];rfl
 rw [Nk,this];unfold V3;rw [e]
theorem aiS {p:Pl} {l:List Int} {k:Nat} (hk:k<l.length) (e:FW p l[k]=none):Uh p l=0:=by
 unfold Uh;rw [AX];rintro ⟨-,h⟩;have:=h _ (BH hk)
 rw [e] at this;cases this
theorem aiT {p:Pl} {l:List Int} (hl:l.length<=512) (h:∀ j (hj:j<l.length),j<l.length->(FW p l[j]).isSome=true):Uh p l=Nk p l l.length:=by
 unfold Uh;rw [AZ];refine ⟨hl,fun d hd=>?_⟩;obtain ⟨j,hj,rfl⟩:=Dp.1 hd;exact h j hj hj
theorem aq2 (v u:Value) (p:Pl) (l:List Int) (w:World) (h:Cb w v p) (hu:Ints w u l) (hv:Valid p) (hw:∀ d∈l,ES d) :
  Calls Tryz.prog 120 #[v,u] w fun e w'=>e=.returned (.int .i64 (Uh p l))/\AP w w':=by
 have HA:=AA (fun d (hd:ES d) W (hW:AP w W)=>aiM v p d W (h.mono hW) hv.short.long hd);have HP:=AA (fun id W (hW:AP w W)=>aAm v p id W (h.mono hW) hv.short);obtain ⟨_,_,_,al,rfl,hpa,⟨An,cn,rfl,-⟩,⟨⟨Aa,ca,rfl,-⟩,-⟩,⟨Af,cf,rfl,-⟩⟩:=h;obtain ⟨Al,cl,rfl,hl1,hl2,hR⟩:=hu;unfold maxLen at hl2;have HR:=AA hR;have HV:=AA hv;have HW:=AA hw;generalize al.length=na at *;generalize p.nodes.length=nn at *;generalize p.faces.length=nf at *;obtain ⟨q,hq⟩:=BL (Uh p l);rw [hq];have Hq:=AA hq;clear hpa hR hv hw hq;go_enter Tryz.func120,Tryz.ntmps120;by_cases hbig:512<l.length
 case pos =>
  have hbig':512<(l.length:Int):=by omega
  have hf:q=0:=by rw [<- Hq.out];unfold Uh;rw [AX AB]
  subst hf;go_wp2;go_ret;exact ⟨rfl,bA (bR w) _⟩
 have hbig':¬ 512<(l.length:Int):=by omega
 go_wp2_with fail;obtain ⟨W0,hW⟩:=BO (w.alloc (.cells #[.slice An nn cn,.slice Aa na ca,.slice Af nf cf] 26));have HB0:=AA (show AP w W0 by rw [hW];exact bA (bR w) _);have CG:=AA (show AO W0 w.heap.size 26 #[.slice An nn cn,.slice Aa na ca,.slice Af nf cf] by rw [hW];exact AO.made rfl _ _);rw [<- hW];clear hW;go_loopw [4,18] (fun n i wr=>∃ k:Nat,k<=l.length/\i=.int .i64 k/\n=.int .i64 (Nk p l k)/\AP W0 wr/\∀ j (hj:j<l.length),j<k->(FW p l[j]).isSome=true) (fun _ i _=>l.length-(intOf i).toNat)
 case atStart => exact ⟨0,BZ _,rfl,rfl,bR W0,fun _ _ h=>by omega⟩
 case round =>
  obtain ⟨k,hk,rfl,rfl,hb,hno⟩:=hrel;have Hb:=AA hb;have Hno:=AA hno;have X2:=CG.out.keep hb;clear hb hno;obtain ⟨BQ,BR,BX,CZ,-,-,-⟩:=X2.BF;by_cases hlt:k<l.length
  case neg =>
   have hkk:k=l.length:=by omega
   subst hkk;have hf:=aiT (p:=p) (l:=l) AB Hno.out;rw [Hq.out] at hf;have HF:=AA hf;clear hf;go_wp2;go_ret;exact ⟨DU HF.out.symm,bT HB0.out Hb.out⟩
  obtain ⟨b,o,rfl,hlb,c0⟩:=(HR.out.mono (bT HB0.out Hb.out)).int hlt;have hwd:=HW.out _ (BH hlt);have Il:=AA (HA.out l[k] hwd)
  cases har:FW p l[k] with
  | none =>
   rw [har] at Il;have hf:=aiS hlt har;rw [Hq.out] at hf;subst hf;clear har hwd;go_wp2_with fail;refine (Il.out _ (bT HB0.out Hb.out)).mono ?_;rintro e w1 ⟨A1,n1,c1,rfl,hb1⟩;have B1:=AA (bT Hb.out hb1);clear hb1;simp only [fK];go_wp2;go_ret;exact ⟨rfl,bT HB0.out (bA B1.out _)⟩
  | some a =>
  rw [har] at Il;have hst:=aq1 hlt har;have hpo:=HV.out.adf har;have ha:=(wM har).1;have hpl:=Eh p a;have hvl:=HV.out.Sv ha;have dV:=AA (fun k hk=>HV.out.aiP ha k hk);have hub:=HV.out.aiQ l k;have hne:l[k]≠-9223372036854775808/\l[k]≠0:=by
   constructor
   · intro e;rw [e] at har;unfold FW at har;rw [AZ (.inr rfl)] at har;cases har
   · intro e;rw [e] at har;unfold FW at har;rw [AZ (.inl rfl)] at har;cases har
  have hbd:=wL hwd;have Jd:=AA (HP.out (max l[k] (-l[k])));have hpm:pathOf p (max l[k] (-l[k]))=some (AV p a):=by rw [aq0];exact hpo
  rw [hpm] at Jd;unfold iW at Jd;simp only [Gp,VH,if_true] at Jd;have DI:=AA hst;have PZ:=AA (show (FW p l[k]).isSome=true by rw [har];rfl);have KD:=AA (all_succ (p:=fun d=>(FW p d).isSome=true) Hno.out hlt PZ.out);have hk1:IntKind.i64.wrap (-l[k])=-l[k]:=Ci _ AB;have WI:=AA (fun q (hq:q∈AV p a)=>HV.out.wO ha hq);have Qn:=AA (dV.out ((AV p a).length-1) AB);have wP:=AA hne;have Ui:=AA (show k+1<=512 by omega);clear hst hpo har hwd hpm hne hbd;unfold Qg at DI;generalize Nk p l k=n at *;generalize hP:AV p a=P at *;generalize l[k]=d at *;generalize a.via.length=vl at *;go_wp2_with fail;refine (Il.out _ (bT HB0.out Hb.out)).mono ?_;rintro e w1 ⟨A1,n1,c1,rfl,hb1⟩;replace X2:=X2.keep hb1;have B1:=AA (bT Hb.out hb1);clear hb1 BQ BR BX CZ Il c0 hlb;simp only [VH,Gp]
  try clear BQ BR BX CZ
  obtain ⟨BQ,BR,BX,CZ,-,-,-⟩:=X2.BF;go_wp2_with fail;refine (Jd.out _ (bT HB0.out (bA B1.out _))).mono ?_;rintro e w2 ⟨A2,c2,rfl,hb2,ho2⟩;have B2:=AA (bT (bA B1.out _) hb2);obtain ⟨Aq,cq,he,hq1,hq2,Ti⟩:=ho2.sl;injection he with e1 e2 e3;subst e1 e3;clear e2;unfold maxLen at hq2;have dW:=AA Ti;clear hb2 ho2 Ti Jd X2 BQ BR BX CZ;obtain ⟨N,hN⟩:∃ N,P.length=N+1:=⟨P.length-1,AB⟩;have HN:=AA hN;have hNs:N<=65:=by omega
  rw [hN] at Qn DI;simp only [Ze] at Qn DI;have k2:IntKind.i64.wrap (N:Int)=(N:Int):=Ci _ AB;rw [hN] at hq1 ⊢;clear hN hpl hvl;go_wp2_with fail;obtain ⟨W2,rfl⟩:=BO w2;go_loopw [11,44] (fun s i wx=>∃ j:Nat,j<=N/\i=.int .i64 j/\s=.int .i64 (Jb P j)/\AP W2 wx) (fun _ i _=>N-(intOf i).toNat)
  case atStart => exact ⟨0,BZ _,rfl,rfl,bR W2⟩
  case round =>
   obtain ⟨j,hj,rfl,rfl,hbx⟩:=hrel;have Fq:=AA hbx;clear hbx;by_cases hjl:j<N
   case pos =>
    have hP1:j<P.length:=by have:=HN.out;omega
    have hP2:j+1<P.length:=by have:=HN.out;omega
    obtain ⟨b1,o1,hA1,wQ,c0,c1'⟩:=(dW.out.mono Fq.out).pt hP1;subst hA1;obtain ⟨b2,o2,hA2,-,d0,d1⟩:=(dW.out.mono Fq.out).pt hP2;simp only [JD,Addr.mk.injEq,and_true] at hA2;obtain ⟨rfl,rfl⟩:=hA2;have g1:=WI.out _ (BH hP1);have g2:=WI.out _ (BH hP2);have x1:=oW g1.1 g2.2;have x2:=oW g2.1 g1.2;have tb:=dV.out j (by have:=HN.out;omega);have tb2:=dV.out (j+1) (by have:=HN.out;omega);have hstep:Jb P (j+1)=Jb P j+(P[j].x*P[j+1].y-P[j+1].x*P[j].y):=by
     rw [Jb];unfold Oo;simp only [Fj,DK hP1,DK hP2,Gp]
    rw [hstep] at tb2;have adg:=AA hstep;clear hstep g1 g2;generalize P[j]=p1 at *;generalize P[j+1]=p2 at *;generalize hT:Jb P j=T at *;have q1:0<=(j:Int):=by omega
    have q2:(j:Int)<(N:Int)+1:=by omega
    have q3:0<=(j:Int)+1:=by omega
    have q4:(j:Int)+1<(N:Int)+1:=by omega
    have q5:((j:Int)+1).toNat=j+1:=by omega
    have m0:IntKind.i64.wrap ((j:Int)+1)=(j:Int)+1:=Ci _ AB;have m1:IntKind.i64.wrap (p1.x*p2.y)=p1.x*p2.y:=Ci _ AB;have m2:IntKind.i64.wrap (p2.x*p1.y)=p2.x*p1.y:=Ci _ AB;have m3:IntKind.i64.wrap (p1.x*p2.y-p2.x*p1.y)=p1.x*p2.y-p2.x*p1.y:=Ci _ AB;have m4:IntKind.i64.wrap (T+(p1.x*p2.y-p2.x*p1.y))=T+(p1.x*p2.y-p2.x*p1.y):=Ci _ AB;clear x1 x2 tb tb2 hT hub;go_upto_region 16 with fail;refine Cj (wr) (.run 28 0 0 (.done)) fun Bv QR Ae Ah hS=>?_
    iterate 28 refine Aj ?_
    refine Ce ?_;clear hS Ah Ae;intro hB;have Bx:=AA (bT Fq.out hB);clear hB m0 m1 m2 m3 m4;go_wp2;go_roundw
    case rel => exact ⟨j+1,AB,BI,by rw [adg.out],Bx.out⟩
    case measure => exact BK
   case neg =>
   have hjj:j=N:=by omega
   subst hjj;have htl:=Qn.out;have hsz:=Ui.out;have Bx:=AA (bT B2.out Fq.out);generalize hT:Jb P j=T at *;clear hT;by_cases hneg:d<0
   ·have hst:=DI.out;rw [AX AB] at hst;have adh:=AA hst;have m1:IntKind.i64.wrap (-T)=-T:=Ci _ AB;have m2:IntKind.i64.wrap (n + -T)=n + -T:=Ci _ AB;clear hst htl hub hsz;go_wp2;go_roundw
    case rel => exact ⟨k+1,AB,BI,by rw [adh.out],Bx.out,KD.out⟩
    case measure => exact BK
   ·have hst:=DI.out;rw [AZ (by have:=wP.out.2;omega)] at hst;have adh:=AA hst;have m2:IntKind.i64.wrap (n+T)=n+T:=Ci _ AB;clear hst htl hub hsz;go_wp2;go_roundw
    case rel => exact ⟨k+1,AB,BI,by rw [adh.out],Bx.out,KD.out⟩
    case measure => exact BK
theorem vV {p:Pl} (h:Valid p) {d:Int} {a:Ar} (e:FW p d=some a):Tf p d=if 0<d then AV p a else (AV p a).reverse:=by
 have hpo:=h.adf e;unfold Ee at hpo;unfold Tf;by_cases h1:0<d
 ·rw [AX AB] at hpo;rw [AZ h1,AZ h1,hpo];rfl
 ·have hne:d≠0:=by
   intro e0;rw [e0] at e;unfold FW at e;rw [AZ (.inl rfl)] at e;cases e
  rw [AZ AB] at hpo;rw [AX h1,AX h1,hpo];rfl
theorem aq3 {p:Pl} (h:Valid p) {d:Int} {a:Ar} (e:FW p d=some a):V3 p d=Qg (Tf p d):=by
 rw [vV h e];unfold V3;rw [e];simp only [];have hl:=Eh p a;split
 · rfl
 · rw [apv _ AB]
theorem adi (v u:Value) (p:Pl) (l:List Int) (w:World) (h:Cb w v p) (hu:Ints w u l) (hv:Valid p) (hw:∀ d∈l,ES d) :
  Calls Tryz.prog 132 #[v,u] w fun e w'=>e=.returned (.int .i64 (Uh p l))/\AP w w':=by
 have HO:=AA (fun d W (hW:AP w W)=>apt v p d W (h.mono hW));have HP:=AA (fun d (hd:-9223372036854775808<d/\d<=9223372036854775807) W (hW:AP w W)=>aiR v p d W (h.mono hW) hv.short hd);obtain ⟨_,_,_,al,rfl,hpa,⟨An,cn,rfl,-⟩,⟨⟨Aa,ca,rfl,-⟩,-⟩,⟨Af,cf,rfl,-⟩⟩:=h;obtain ⟨Al,cl,rfl,hl1,hl2,hR⟩:=hu;unfold maxLen at hl2;have HR:=AA hR;have HV:=AA hv;have HW:=AA hw;generalize al.length=na at *;generalize p.nodes.length=nn at *;generalize p.faces.length=nf at *;obtain ⟨q,hq⟩:=BL (Uh p l);rw [hq];have Hq:=AA hq;clear hpa hR hv hw hq;go_enter Tryz.func132,Tryz.ntmps132;by_cases hbig:512<l.length
 case pos =>
  have hbig':512<(l.length:Int):=by omega
  have hf:q=0:=by rw [<- Hq.out];unfold Uh;rw [AX AB]
  subst hf;go_wp2;go_ret;exact ⟨rfl,bA (bR w) _⟩
 have hbig':¬ 512<(l.length:Int):=by omega
 go_wp2_with fail;obtain ⟨W0,hW⟩:=BO (w.alloc (.cells #[.slice An nn cn,.slice Aa na ca,.slice Af nf cf] 26));have HB0:=AA (show AP w W0 by rw [hW];exact bA (bR w) _);have CG:=AA (show AO W0 w.heap.size 26 #[.slice An nn cn,.slice Aa na ca,.slice Af nf cf] by rw [hW];exact AO.made rfl _ _);rw [<- hW];clear hW;go_loopw [5,6] (fun n i wr=>∃ k:Nat,k<=l.length/\i=.int .i64 k/\n=.int .i64 (Nk p l k)/\AP W0 wr/\∀ j (hj:j<l.length),j<k->(FW p l[j]).isSome=true) (fun _ i _=>l.length-(intOf i).toNat)
 case atStart => exact ⟨0,BZ _,rfl,rfl,bR W0,fun _ _ h=>by omega⟩
 case round =>
  obtain ⟨k,hk,rfl,rfl,hb,hno⟩:=hrel;have Hb:=AA hb;have Hno:=AA hno;have aiU:=AA (CG.out.keep hb);have X2:=aiU.out;clear hb hno;obtain ⟨BQ,BR,BX,CZ,-,-,-⟩:=X2.BF;by_cases hlt:k<l.length
  case neg =>
   have hkk:k=l.length:=by omega
   subst hkk;have hf:=aiT (p:=p) (l:=l) AB Hno.out;rw [Hq.out] at hf;have HF:=AA hf;clear hf;go_wp2;go_ret;exact ⟨DU HF.out.symm,bT HB0.out Hb.out⟩
  have EY:=AA (bT HB0.out Hb.out);obtain ⟨b,o,rfl,hlb,c0⟩:=(HR.out.mono EY.out).int hlt;have hwd:=HW.out _ (BH hlt);have hok:=HV.out.apy (wL hwd);have aU:=HO.out l[k];unfold lZ at aU;rw [hok] at aU;have q1:0<=(k:Int):=by omega
  have q2:(k:Int)<l.length:=by omega
  clear hok
  cases har:FW p l[k] with
  | none =>
   rw [har] at aU;have Zm:=AA aU;have hf:=aiS hlt har;rw [Hq.out] at hf;subst hf;clear har hwd aU;go_upto_region 7 with fail;refine Cj (wr) (.run 5 0 0 (.call 5 63 (.take 6 127 (.done)))) fun Bv QR Ae Ah hS=>?_
   iterate 5 refine Aj ?_
   refine FD (Zm.out _ (bT EY.out hS)) ?_;clear hS;intro Bq Bf hS;refine Aj ?_;refine Ce ?_;clear hS Ah Ae;intro hB;go_wp2;go_ret;exact ⟨rfl,bT EY.out hB⟩
  | some a =>
  rw [har] at aU;have Zm:=AA aU;have hst:Nk p l (k+1)=Nk p l k+Qg (Tf p l[k]):=by
   have e0:l.getD k 0=l[k]:=by rw [Fj,DK hlt];rfl
   rw [Nk,e0,aq3 HV.out har]
  have ha:=(wM har).1;have hpl:=Eh p a;have hvl:=HV.out.Sv ha;have hub:=HV.out.aiQ l k;have hne:l[k]≠-9223372036854775808:=by
   intro e;rw [e] at har;unfold FW at har;rw [AZ (.inr rfl)] at har;cases har
  have hbd:=wL hwd;have Jd:=AA (HP.out l[k] AB);have WI:=AA (show ∀ q∈Tf p l[k],N9 q from fun q hq=>by
   rw [vV HV.out har] at hq;split at hq
   · exact HV.out.wO ha hq
   · exact HV.out.wO ha (aAJ.1 hq))
  have hPl:(Tf p l[k]).length=a.via.length+2:=by
   rw [vV HV.out har];split
   · exact hpl
   · rw [Wp];exact hpl
  have KD:=AA (all_succ (p:=fun d=>(FW p d).isSome=true) Hno.out hlt (by rw [har];rfl));obtain ⟨N,hN⟩:∃ N,(Tf p l[k]).length=N+1:=⟨(Tf p l[k]).length-1,AB⟩;have HN:=AA hN;have hNs:N<=65:=by omega
  clear hN hPl hvl;have DI:=AA hst;have Ui:=AA (show k+1<=512 by omega);clear hst har hwd hne hbd aU hpl;unfold Qg at DI;unfold YD at Jd;generalize Nk p l k=n at *;generalize hP:Tf p l[k]=P at *;have hPd:=hP;clear hP;generalize hd:l[k]=d at *;have Hd:=AA hd;clear hPd hd;go_upto_region 7 with fail;refine Cj (wr) (.run 5 0 0 (.call 5 63 (.take 6 127 (.done)))) fun Bv QR Ae Ah hS=>?_
  iterate 5 refine Aj ?_
  refine FD (Zm.out _ (bT EY.out hS)) ?_;clear hS;intro Bq Bf hS;refine Aj ?_;refine Ce ?_;clear hS Ah Ae;intro hB;have B1:=AA (bT Hb.out hB);have aq4:=AA (aiU.out.keep hB);clear hB X2 BQ BR BX CZ c0 hlb;obtain ⟨w1,hw1⟩:=BO Bq;subst hw1;obtain ⟨b',o',hA,hlb,c0⟩:=(HR.out.mono (bT HB0.out B1.out)).int hlt;simp only [JD,Addr.mk.injEq,and_true] at hA;obtain ⟨rfl,rfl⟩:=hA;rw [Hd.out] at c0;have X2:=aq4.out
  try clear BQ BR BX CZ
  obtain ⟨BQ,BR,BX,CZ,-,-,-⟩:=X2.BF;go_upto_region 9 with fail;refine Cj (w1) (.run 5 0 0 (.call 5 63 (.take 6 127 (.done)))) fun Bv QR Ae Ah hS=>?_
  iterate 5 refine Aj ?_
  refine BP ?_;clear hS;intro K hK AQ;go_simp;refine (Jd.out _ (bT (bT HB0.out B1.out) AQ.out)).mono ?_;rintro e Bq ⟨A2,c2,rfl,Bf,ho2⟩;have hS:Since w1 Bq:=bT (w:=w1) AQ.out Bf;clear AQ;refine hK.out _ _ hS (fun _=>?_);clear hK K
  try simp only [pu]
  refine Aj ?_;refine Ce ?_;clear hS Ah Ae;intro hB;have B2:=AA (bT B1.out hB);obtain ⟨Aq,cq,he,hq1,hq2,Ti⟩:=ho2.sl;injection he with e1 e2 e3;subst e1 e3;clear e2;unfold maxLen at hq2;have dW:=AA Ti;clear hB ho2 Ti Jd X2 BQ BR BX CZ c0 hlb;obtain ⟨W2,hw2⟩:=BO Bq;subst hw2;have hst2:=DI.out;rw [HN.out,Ze] at hst2;replace DI:=AA hst2;rw [HN.out] at hq1 ⊢;clear hst2;have dV:=AA (fun j (hj:j+1<=P.length)=>aiN WI.out j (.inl hj));go_wp2_with fail;go_loopw [5,8] (fun s i wx=>∃ j:Nat,j<=N/\i=.int .i64 ((j:Int)+1)/\s=.int .i64 (n+Jb P j)/\AP W2 wx) (fun _ i _=>N+1-(intOf i).toNat)
  case atStart => exact ⟨0,BZ _,rfl,by simp [Jb],bR W2⟩
  case round =>
   obtain ⟨j,hj,rfl,rfl,hbx⟩:=hrel;have Fq:=AA hbx;clear hbx;by_cases hjl:j<N
   case pos =>
    have hP1:j<P.length:=by have:=HN.out;omega
    have hP2:j+1<P.length:=by have:=HN.out;omega
    obtain ⟨b1,o1,hA1,wQ,c0,c1'⟩:=(dW.out.mono Fq.out).pt hP1;subst hA1;obtain ⟨b2,o2,hA2,-,d0,d1⟩:=(dW.out.mono Fq.out).pt hP2;simp only [JD,Addr.mk.injEq,and_true] at hA2;obtain ⟨rfl,rfl⟩:=hA2;have g1:=WI.out _ (BH hP1);have g2:=WI.out _ (BH hP2);have x1:=oW g1.1 g2.2;have x2:=oW g2.1 g1.2;have tb:=dV.out j (by have:=HN.out;omega);have hstep:n+Jb P (j+1)=n+Jb P j+P[j].x*P[j+1].y-P[j+1].x*P[j].y:=by
     rw [Jb];unfold Oo;simp only [Fj,DK hP1,DK hP2,Gp];omega
    have adg:=AA hstep;have hsz:=Ui.out;clear hstep g1 g2;generalize P[j]=p1 at *;generalize P[j+1]=p2 at *;generalize hT:Jb P j=T at *;have q1:0<=(j:Int):=by omega
    have q2:(j:Int)<(N:Int)+1:=by omega
    have q3:0<=(j:Int)+1:=by omega
    have q4:(j:Int)+1<(N:Int)+1:=by omega
    have q5:((j:Int)+1).toNat=j+1:=by omega
    have m0:IntKind.i64.wrap (j:Int)=(j:Int):=Ci _ AB;have m1:IntKind.i64.wrap (p1.x*p2.y)=p1.x*p2.y:=Ci _ AB;have m2:IntKind.i64.wrap (p2.x*p1.y)=p2.x*p1.y:=Ci _ AB;have m3:IntKind.i64.wrap (n+T+p1.x*p2.y)=n+T+p1.x*p2.y:=Ci _ AB;have m4:IntKind.i64.wrap (n+T+p1.x*p2.y-p2.x*p1.y)=n+T+p1.x*p2.y-p2.x*p1.y:=Ci _ AB;clear x1 x2 tb hT hub hsz;go_upto_region 13 with fail;refine Cj (wr) (.run 28 0 0 (.done)) fun Bv QR Ae Ah hS=>?_
    iterate 28 refine Aj ?_
    refine Ce ?_;clear hS Ah Ae;intro hB;have Bx:=AA (bT Fq.out hB);clear hB m0 m1 m2 m3 m4;go_wp2;go_roundw
    case rel => exact ⟨j+1,AB,BI,by rw [adg.out],Bx.out⟩
    case measure => exact BK
   case neg =>
   have hjj:j=N:=by omega
   subst hjj;have Bx:=AA (bT B2.out Fq.out);clear hub;go_wp2;go_roundw
   case rel => exact ⟨k+1,AB,BI,by rw [DI.out],Bx.out,KD.out⟩
   case measure => exact BK
