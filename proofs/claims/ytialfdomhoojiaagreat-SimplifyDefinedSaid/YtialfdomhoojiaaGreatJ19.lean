import Derived.Test.YtialfdomhoojiaaGreatJ18
set_option linter.unusedSimpArgs false
set_option linter.unusedVariables false
set_option maxRecDepth 100000
set_option maxHeartbeats 8000000
namespace Go.Proofs.YtialfdomhoojiaaGreat
open Go.RowKit
structure yD (w0 W:World) (g1 g2 g3:Nat) (v:Pt) (s:Bool×Bool):Prop where
 b:Below w0.heap.size w0 W
 at_:ah W g1 39 #[.int .i64 v.x,.int .i64 v.y]
 Ov:ah W g2 4 #[.bool s.1]
 odd:ah W g3 4 #[.bool s.2]
 l2:w0.heap.size<=g2
 l3:w0.heap.size<=g3
 n12:g1≠g2
 n13:g1≠g3
 n23:g2≠g3
theorem yD.keep {w0 W W':World} {g1 g2 g3:Nat} {v:Pt} {s:Bool×Bool} (h:yD w0 W g1 g2 g3 v s) (hb:Below W.heap.size W W'):yD w0 W' g1 g2 g3 v s :=
 ⟨bT h.b hb,h.at_.keep hb,h.Ov.keep hb,h.odd.keep hb,h.l2,h.l3,h.n12,h.n13,h.n23⟩
theorem yD.aoY {w0 W:World} {g1 g2 g3:Nat} {v:Pt} {s:Bool×Bool} (h:yD w0 W g1 g2 g3 v s) (x:Bool):yD w0 (W.setCell ⟨g2,0,none⟩ (.bool x)) g1 g2 g3 v (x,s.2) :=
 ⟨bS h.b h.l2 _,h.at_.far h.n12 _,by have:=h.Ov.fF 0 (.bool x);simpa using this,h.odd.far (fun e=>h.n23 e.symm) _,h.l2,h.l3,h.n12,h.n13,h.n23⟩
theorem yD.ag0 {w0 W:World} {g1 g2 g3:Nat} {v:Pt} {s:Bool×Bool} (h:yD w0 W g1 g2 g3 v s) (x:Bool):yD w0 (W.setCell ⟨g3,0,none⟩ (.bool x)) g1 g2 g3 v (s.1,x) :=
 ⟨bS h.b h.l3 _,h.at_.far h.n13 _,h.Ov.far h.n23 _,by have:=h.odd.fF 0 (.bool x);simpa using this,h.l2,h.l3,h.n12,h.n13,h.n23⟩
theorem aoZ {a b c:Pt} (h:eu [a,b,c]=true):(0<dK a b c↔0<tw a b c)/\(dK a b c<0↔tw a b c<0):=by
 unfold dK kY;rw [if_pos h];split
 · omega
 · split<;>omega
theorem ao0 (w0 W:World) (g1 g2 g3:Nat) (v a b:Pt) (s:Bool×Bool) (h:yD w0 W g1 g2 g3 v s) (na:aZ a=true) (nb:aZ b=true) (nv:aZ v=true) :
  Calls Tryz.prog 199 #[aK a,aK b,.pointer (some ⟨g1,0,none⟩),.pointer (some ⟨g2,0,none⟩),.pointer (some ⟨g3,0,none⟩)] W fun e W'=>e=.returned (.tuple #[])/\yD w0 W' g1 g2 g3 v (uP v s (a,b))/\Below w0.heap.size W W':=by
 have TO:=fun W=>J8 a b v W;have TS:=fun W=>Nb a b v W;obtain ⟨p1,p2⟩:=aoZ (a:=a) (b:=b) (c:=v) (by simp [eu,na,nb,nv]);have hz0:=h.b.size;unfold aK at TO TS ⊢;have HO:=avE TO;have HS:=avE TS;have HI:=avE h;clear TO TS na nb nv;obtain ⟨R,hR⟩:∃ R,uP v s (a,b)=R:=⟨_,rfl⟩;rw [hR];unfold uP nK at hR;simp only at hR;have hl1:=h.at_.lt;have hl2:=h.Ov.lt;have hl3:=h.odd.lt;go_enter Tryz.func199,Tryz.ntmps199;go_upto_block 0 with fail;obtain ⟨W1,hW⟩:∃ W1:World,W1=(W.alloc (.cells #[.int .i64 a.x,.int .i64 a.y] 39)).alloc (.cells #[.int .i64 b.x,.int .i64 b.y] 39):=⟨_,rfl⟩;have HB1:=avE (show Below W.heap.size W W1 by rw [hW];exact bA (bA (bR W) _) _);have X5:ah W1 W.heap.size 39 #[.int .i64 a.x,.int .i64 a.y]:=by rw [hW];exact (ah.made rfl _ _).alloc _
 have X6:ah W1 (W.heap.size+1) 39 #[.int .i64 b.x,.int .i64 b.y]:=by rw [hW];exact ah.made ars _ _
 rw [<- hW];clear hW h;have HI1:=avE (HI.out.keep HB1.out);have dF:=avE X5;have pI:=avE X6;have X1:=HI1.out.at_;have fH:=avE hR;clear hR;obtain ⟨aS,aT,aU,-,-⟩:=X1.aQ;obtain ⟨bI,bJ,bV,-,-⟩:=X5.aQ;obtain ⟨fO,fQ,gK,-,-⟩:=X6.aQ;go_wp2_with fail;refine (HO.out _).mono ?_;rintro e w2 ⟨rfl,hb2⟩;have HI2:=avE (HI1.out.keep hb2);have HB2:=avE (Below.trans (HB1.out.mono hz0) (hb2.mono (by have:=HB1.out.size;omega)));have ED:=avE (dF.out.keep hb2);have VX:=avE (pI.out.keep hb2);have hz2:=hb2.size;clear hb2 X1 aS aT aU X5 bI bJ bV X6 fO fQ gK dF pI HI1 HB1 HO;have hR:=fH.out;clear fH;obtain ⟨o,ho⟩:∃ o,dQ a b v=o:=⟨_,rfl⟩;rw [ho] at hR ⊢;clear ho
 cases o
 case true =>
  rw [if_pos rfl] at hR;have HF:=avE (HI2.out.aoY true);rw [hR] at HF;have X2:=HI2.out.Ov;have LG:=avE (HB2.out.setCell (p:=⟨g2,0,none⟩) HI2.out.l2 (.bool true));clear hR;obtain ⟨aG,aI,Eb⟩:=X2.iV;go_wp2_with fail;exact bodyPost_end (v:=.tuple #[]) (results_none rfl _ _ _) rfl ⟨rfl,HF.out,LG.out⟩
 case false =>
  rw [if_neg arC] at hR;obtain ⟨sd,hsd⟩:∃ sd,dK a b v=sd:=⟨_,rfl⟩;rw [hsd] at HS p1 p2;clear hsd;have X1:=HI2.out.at_;have X5:=ED.out;have X6:=VX.out
  try clear aS
  try clear aT
  try clear aU
  obtain ⟨aS,aT,aU,-,-⟩:=X1.aQ
  try clear bI
  try clear bJ
  try clear bV
  obtain ⟨bI,bJ,bV,-,-⟩:=X5.aQ
  try clear fO
  try clear fQ
  try clear gK
  obtain ⟨fO,fQ,gK,-,-⟩:=X6.aQ;by_cases c:(a.y<=v.y/\v.y<b.y)\/(b.y<=v.y/\v.y<a.y)
  case neg =>
   have hf:s=R:=by
    rw [avV Pe] at hR;simpa using hR
   have HF:=avE hf;clear hR hf p1 p2;by_cases c1:a.y<=v.y
   ·have c2:¬ v.y<b.y:=by omega
    by_cases d1:b.y<=v.y
    ·have d2:¬ v.y<a.y:=by omega
     clear c;go_wp2_with fail;exact bodyPost_end (v:=.tuple #[]) (results_none rfl _ _ _) rfl ⟨rfl,by rw [<- HF.out];exact HI2.out,HB2.out⟩
    · omega
   ·have d2:v.y<a.y:=by omega
    have d1:¬ b.y<=v.y:=by omega
    clear c;go_wp2_with fail;exact bodyPost_end (v:=.tuple #[]) (results_none rfl _ _ _) rfl ⟨rfl,by rw [<- HF.out];exact HI2.out,HB2.out⟩
  case pos =>
   have ao1:=avE X1;have ao2:=avE X5;have ao3:=avE X6;rcases c with ⟨c1,c2⟩ | ⟨d1,d2⟩
   ·have d1:¬ b.y<=v.y:=by omega
    go_wp2_with fail;refine (HS.out _).mono ?_;rintro e w3 ⟨rfl,hb3⟩;have HI3:=avE (HI2.out.keep hb3);have hz3:=hb3.size;have HB3:=avE (Below.trans HB2.out (hb3.mono Pe));have X1:=ao1.out.keep hb3;have X5:=ao2.out.keep hb3;have X6:=ao3.out.keep hb3;clear hb3
    try clear aS
    try clear aT
    try clear aU
    obtain ⟨aS,aT,aU,-,-⟩:=X1.aQ
    try clear bI
    try clear bJ
    try clear bV
    obtain ⟨bI,bJ,bV,-,-⟩:=X5.aQ
    try clear fO
    try clear fQ
    try clear gK
    obtain ⟨fO,fQ,gK,-,-⟩:=X6.aQ;by_cases g:0<sd
    ·have hf:(s.1,!s.2)=R:=by
      rw [avW Pe] at hR;simpa using hR
     have HF:=avE (HI3.out.ag0 (!s.2));rw [hf] at HF;have LG:=avE (HB3.out.setCell (p:=⟨g3,0,none⟩) HI3.out.l3 (.bool (!s.2)));have X3:=HI3.out.odd;obtain ⟨s1,s2⟩:=s;simp only at X3 HF LG;clear hR hf p1 p2;obtain ⟨bH,bU,Qe⟩:=X3.iV
     cases s2
     all_goals
      go_wp2_with fail;exact bodyPost_end (v:=.tuple #[]) (results_none rfl _ _ _) rfl ⟨rfl,HF.out,LG.out⟩
    ·have hf:s=R:=by
      rw [avV Pe] at hR;simpa using hR
     have HF:=avE hf;clear hR hf p1 p2;go_wp2_with fail;exact bodyPost_end (v:=.tuple #[]) (results_none rfl _ _ _) rfl ⟨rfl,by rw [<- HF.out];exact HI3.out,HB3.out⟩
   ·have c0:¬ (a.y<=v.y):=by omega
    go_wp2_with fail;refine (HS.out _).mono ?_;rintro e w3 ⟨rfl,hb3⟩;have HI3:=avE (HI2.out.keep hb3);have hz3:=hb3.size;have HB3:=avE (Below.trans HB2.out (hb3.mono Pe));clear hb3;by_cases g:sd<0
    ·have hf:(s.1,!s.2)=R:=by
      rw [avW Pe] at hR;simpa using hR
     have HF:=avE (HI3.out.ag0 (!s.2));rw [hf] at HF;have LG:=avE (HB3.out.setCell (p:=⟨g3,0,none⟩) HI3.out.l3 (.bool (!s.2)));have X3:=HI3.out.odd;obtain ⟨s1,s2⟩:=s;simp only at X3 HF LG;clear hR hf p1 p2
     try clear bH
     try clear bU
     try clear Qe
     obtain ⟨bH,bU,Qe⟩:=X3.iV
     cases s2
     all_goals
      go_wp2_with fail;exact bodyPost_end (v:=.tuple #[]) (results_none rfl _ _ _) rfl ⟨rfl,HF.out,LG.out⟩
    ·have hf:s=R:=by
      rw [avV Pe] at hR;simpa using hR
     have HF:=avE hf;clear hR hf p1 p2;go_wp2_with fail;exact bodyPost_end (v:=.tuple #[]) (results_none rfl _ _ _) rfl ⟨rfl,by rw [<- HF.out];exact HI3.out,HB3.out⟩
theorem ao4 (w:World) (gm:Nat) (p:Pl) (f:Int->SV) (hpm:Gg w gm p f) (hv:Valid p) (vc:Value) (X:List Int) (hX:Ints w vc X) (hd:∀ d∈X,d∈bf p) (v:Pt) (nv:aZ v=true) :
  Calls Tryz.prog 135 #[.map (some gm),vc,aK v] w fun e w'=>e=.returned (.bool (encS p X v))/\Below w.heap.size w w':=by
 have HSg:=avE (fun s W (h0:yD w W w.heap.size (w.heap.size+1) (w.heap.size+1+1) v s)=>aoU w gm p f hpm hv vc X hX hd w.heap.size (w.heap.size+1) (w.heap.size+1+1) (fun s W=>yD w W w.heap.size (w.heap.size+1) (w.heap.size+1+1) v s) (uP v) (fun s W h=>h.b) (fun s W h=>h.keep (bD (bR W)))
  (fun s W q hq h=>by
   obtain ⟨a,ha,-,k,hk,rfl⟩:=hv.af7 hd hq;exact ao0 w W _ _ _ v _ _ s h (hv.dS ha Pe) (hv.dS ha hk) nv) s W h0)
 unfold aK;obtain ⟨R,hR⟩:∃ R,encS p X v=R:=⟨_,rfl⟩;rw [hR];have fH:=avE hR;clear hR hpm hv hX hd nv;go_enter Tryz.func135,Tryz.ntmps135;go_upto_region 2 with fail;obtain ⟨W1,hW⟩:∃ W1:World,W1=((w.alloc (.cells #[.int .i64 v.x,.int .i64 v.y] 39)).alloc (.cells #[.bool false] 4)).alloc (.cells #[.bool false] 4):=⟨_,rfl⟩;have HE:=avE (show yD w W1 w.heap.size (w.heap.size+1) (w.heap.size+1+1) v (false,false) from by
  rw [hW];exact ⟨bA (bA (bA (bR w) _) _) _,((ah.made rfl _ _).alloc _).alloc _,(ah.made ars _ _).alloc _,ah.made ars _ _,by omega,by omega,by omega,by omega,by omega⟩)
 rw [<- hW];clear hW;go_wp2_with fail;refine (HSg.out _ _ HE.out).mono ?_;rintro e w2 ⟨rfl,he2,-⟩;have HE2:=avE he2;have X7:=he2.Ov;have X8:=he2.odd;clear he2 HE HSg;have hr:=fH.out;unfold encS yw at hr;obtain ⟨S,hS⟩:∃ S,(nJ p X).foldl (uP v) (false,false)=S:=⟨_,rfl⟩;rw [hS] at X7 X8 hr HE2;clear hS fH;obtain ⟨on,od⟩:=S;simp only at X7 X8 hr;obtain ⟨dY,dZ,-⟩:=X7.iV;obtain ⟨y9,zf,-⟩:=X8.iV
 cases od
 case false =>
  obtain rfl:false=R:=by simpa using hr
  clear hr;go_wp2;go_ret;exact ⟨rfl,HE2.out.b⟩
 case true =>
  obtain rfl:(!on)=R:=by simpa using hr
  clear hr;go_wp2;go_ret;exact ⟨rfl,HE2.out.b⟩
def AdR (w:World) (v:Value) (L:List AD):Prop:=Sl w v L.length (L.flatMap wZ)/\∀ x∈L,Ints w (bg x.ov) x.out
theorem Row.ad {w:World} {A:Option Addr} {l:List AD} (h:Row w A (l.flatMap wZ)) {k:Nat} (hk:k<l.length) :
  ∃ b o,A=some ⟨b,o,none⟩/\b<w.heap.size/\w.cell? ⟨b,o+k*4,none⟩=some (.int .i64 l[k].tw)/\w.cell? ⟨b,o+k*4+1,none⟩=some (bg l[k].ov)/\w.cell? ⟨b,o+k*4+2,none⟩=some (bg l[k].iv)/\w.cell? ⟨b,o+k*4+3,none⟩=some (bg l[k].av):=by
 obtain ⟨b,o,hA,hb,hc⟩:=h.at_ (n:=4) (fun _=>rfl) hk Pe;exact ⟨b,o,hA,hb,hc 0 _ rfl,hc 1 _ rfl,hc 2 _ rfl,hc 3 _ rfl⟩
def Gq (p:Pl) (v:Pt) (L:List AD) (k b:Nat):Prop :=
 (b=0/\lX (fun x:AD=>encS p x.out v) (·.tw) (L.tail.take k)=none)\/∃ hb:b<L.length,1<=b/\b<=k/\lX (fun x:AD=>encS p x.out v) (·.tw) (L.tail.take k)=some L[b]
theorem abh {L:List AD} {k:Nat} (hk:k+1<L.length):L.tail.take (k+1)=L.tail.take k++[L[k+1]]:=by
 cases L with
 | nil=>cases hk
 | cons a L=>simp only [List.tail_cons,List.getElem_cons_succ];exact avH (by simpa using hk)
theorem ao5 (p:Pl) (v:Pt) (L:List AD):Gq p v L 0 0:=.inl ⟨rfl,by rw [List.take_zero];rfl⟩
theorem ag1 {p:Pl} {v:Pt} {L:List AD} {k b:Nat} (h:Gq p v L k b) (hk:k+1<L.length) (hE:encS p L[k+1].out v=true) (hlt:b=0\/∃ hb:b<L.length,L[k+1].tw<L[b].tw):Gq p v L (k+1) (k+1):=by
 refine .inr ⟨hk,by omega,awe _,?_⟩;rw [abh hk,Gf];unfold wL;rcases h with ⟨rfl,e⟩ | ⟨hb,h1,h2,e⟩
 · rw [e];simp [hE]
 ·rw [e];rcases hlt with g | ⟨_,g⟩
  · omega
  · simp [hE,g]
theorem abj {p:Pl} {v:Pt} {L:List AD} {k b:Nat} (h:Gq p v L k b) (hk:k+1<L.length) (hno:encS p L[k+1].out v=false\/(b≠0/\∃ hb:b<L.length,¬ L[k+1].tw<L[b].tw)):Gq p v L (k+1) b:=by
 rcases h with ⟨rfl,e⟩ | ⟨hb,h1,h2,e⟩
 ·refine .inl ⟨rfl,?_⟩;rw [abh hk,Gf,e];rcases hno with g | ⟨g,-⟩
  · unfold wL;simp [g]
  · exact absurd rfl g
 ·refine .inr ⟨hb,h1,by omega,?_⟩;rw [abh hk,Gf,e];unfold wL;rcases hno with g | ⟨-,_,g⟩
  · simp [g]
  · simp [g]
theorem ao6 (w:World) (gm:Nat) (p:Pl) (f:Int->SV) (hpm:Gg w gm p f) (hv:Valid p) (vl:Value) (L:List AD) (hL:AdR w vl L) (hd:∀ x∈L,∀ d∈x.out,d∈bf p) (hl:L.length<=1000) (v:Pt) (nv:aZ v=true) :
  Calls Tryz.prog 70 #[.map (some gm),vl,aK v] w fun e w'=>(∃ b:Nat,e=.returned (.int .i64 b)/\Gq p v L (L.length-1) b)/\Below w.heap.size w w':=by
 have HEn:=avE (fun k (hk:k<L.length) W (hW:Below w.heap.size w W)=>ao4 W gm p f (hpm.keep hW) hv _ L[k].out ((hL.2 _ (avF hk)).mono hW) (hd _ (avF hk)) v nv);obtain ⟨⟨Al,cl,rfl,hc1,hc2,hR⟩,-⟩:=hL;unfold maxLen at hc2;have HR:=avE hR;unfold aK at HEn ⊢;clear hR hpm hv hd nv;go_enter Tryz.func70,Tryz.ntmps70;go_upto_block 0 with fail;obtain ⟨W1,hW⟩:∃ W1:World,W1=w.alloc (.cells #[.int .i64 v.x,.int .i64 v.y] 39):=⟨_,rfl⟩;have HB1:=avE (show Below w.heap.size w W1 by rw [hW];exact bA (bR w) _);have gq:=avE (show ah W1 w.heap.size 39 #[.int .i64 v.x,.int .i64 v.y] by rw [hW];exact ah.made rfl _ _);rw [<- hW];clear hW;go_wp2_with fail;go_loopw [7,8] (fun s i wr=>∃ k b:Nat,(k+1<=L.length\/k=0)/\i=.int .i64 ((k:Int)+1)/\s=.int .i64 b/\Gq p v L k b/\Below W1.heap.size W1 wr) (fun _ i _=>L.length-(intOf i).toNat)
 case atStart => exact ⟨0,0,.inr rfl,rfl,rfl,ao5 p v L,bR W1⟩
 case round =>
  obtain ⟨k,b,hk,rfl,rfl,hbx,hb⟩:=hrel;have Gs:=avE hbx;have Hb:=avE (bT HB1.out hb);have jW:=avE hb;have X5:=gq.out.keep hb;clear hb;by_cases hlt:k+1<L.length
  ·obtain ⟨bq,oq,rfl,hlb,c0,c1,-,-⟩:=(HR.out.mono Hb.out).ad hlt;have HE:=avE (HEn.out (k+1) hlt);obtain ⟨E,hE⟩:∃ E,encS p L[k+1].out v=E:=⟨_,rfl⟩;rw [hE] at HE;have Ox:=avE hE;clear hE;have k1:IntKind.i64.wrap ((k:Int)+1)=(k:Int)+1:=avS _ Pe;have k2:(k:Int)+1<L.length:=by omega
   have k3:0<=(k:Int)+1:=by omega
   have xk:=avE (show ∀ t,L[k+1].tw=t->∀ b':Nat,b=b'->True from fun _ _ _ _=>trivial);clear xk;rcases Gs.out with ⟨hb0,-⟩ | ⟨hbl,hb1,hb2,-⟩
   ·subst hb0;have hyes:=avE (fun h=>ag1 Gs.out hlt (Ox.out.trans h) (.inl rfl));have hnot:=avE (fun h=>abj Gs.out hlt (.inl (Ox.out.trans h)));generalize L[k+1].tw=t at *;generalize L[k+1].ov=sv at *;obtain ⟨sa,sn,sc⟩:=sv;unfold bg at c1 HE;obtain ⟨bI,bJ,bV,-,-⟩:=X5.aQ;go_upto_region 5 with fail;refine dH (wr) (.run 23 0 0 (.call 23 16777215 (.take 24 33554431 (.done)))) fun bZ QR aB aH hS=>?_
    iterate 3 refine aC ?_
    iterate 11 refine jC ?_
    iterate 2 refine aC ?_
    iterate 7 refine dN ?_
    refine fV (HE.out _ (bT Hb.out hS)) ?_;clear hS;intro cZ bW hS;refine aC ?_;refine dB ?_;clear hS aH aB;intro hB;have bC:=avE (bT jW.out hB);clear hB c0 c1 X5 bI bJ bV
    cases E
    ·go_wp2;go_roundw
     case rel => exact ⟨k+1,0,.inl Pe,by go_num,rfl,hnot.out rfl,bC.out⟩
     case measure => simp [intOf];omega
    ·go_wp2;go_roundw
     case rel => exact ⟨k+1,k+1,.inl Pe,by go_num,by go_num,hyes.out rfl,bC.out⟩
     case measure => simp [intOf];omega
   ·obtain ⟨bq',Lu,hA',-,e0,-,-,-⟩:=(HR.out.mono Hb.out).ad hbl;injection hA' with hA';injection hA' with y1 y2 _;subst y1 y2;have k4:IntKind.i64.wrap (b:Int)=b:=avS _ Pe;have k5:(b:Int)<L.length:=by omega
    have k6:0<=(b:Int):=by omega
    have kb:((b:Int) == 0)=false:=by simp;omega
    have hyes:=avE (fun h g=>ag1 Gs.out hlt (Ox.out.trans h) (.inr ⟨hbl,g⟩));have hnot:=avE (fun h=>abj Gs.out hlt (.inl (Ox.out.trans h)));have Oy:=avE (fun g=>abj Gs.out hlt (.inr ⟨by omega,hbl,g⟩));generalize L[b].tw=tb at *;generalize L[k+1].tw=t at *;generalize L[k+1].ov=sv at *;obtain ⟨sa,sn,sc⟩:=sv;unfold bg at c1 HE
    try clear bI
    try clear bJ
    try clear bV
    obtain ⟨bI,bJ,bV,-,-⟩:=X5.aQ;by_cases hlt2:t<tb
    ·go_upto_region 5 with fail;refine dH (wr) (.run 23 0 0 (.call 23 16777215 (.take 24 33554431 (.done)))) fun bZ QR aB aH hS=>?_
     iterate 3 refine aC ?_
     iterate 11 refine dN ?_
     iterate 2 refine aC ?_
     iterate 7 refine dN ?_
     refine fV (HE.out _ (bT Hb.out hS)) ?_;clear hS;intro cZ bW hS;refine aC ?_;refine dB ?_;clear hS aH aB;intro hB;have bC:=avE (bT jW.out hB);clear hB c0 c1 e0 X5 bI bJ bV
     cases E
     ·go_wp2;go_roundw
      case rel => exact ⟨k+1,b,.inl Pe,by go_num,rfl,hnot.out rfl,bC.out⟩
      case measure => simp [intOf];omega
     ·go_wp2;go_roundw
      case rel => exact ⟨k+1,k+1,.inl Pe,by go_num,by go_num,hyes.out rfl hlt2,bC.out⟩
      case measure => simp [intOf];omega
    ·go_upto_region 5 with fail;refine dH (wr) (.run 25 0 0 (.done)) fun bZ QR aB aH hS=>?_
     iterate 3 refine aC ?_
     iterate 11 refine dN ?_
     iterate 2 refine aC ?_
     iterate 8 refine jC ?_
     refine aC ?_;refine dB ?_;clear hS aH aB;intro hB;have bC:=avE (bT jW.out hB);clear hB c0 c1 e0 X5 bI bJ bV;go_wp2;go_roundw
     case rel => exact ⟨k+1,b,.inl Pe,by go_num,rfl,Oy.out hlt2,bC.out⟩
     case measure => simp [intOf];omega
  ·have hkl:L.length-1=k:=by omega
   have HF:=avE hkl;clear hkl X5;go_wp2;go_ret;exact ⟨⟨b,rfl,by rw [HF.out];exact Gs.out⟩,Hb.out⟩
def DI (x:AD):List (List Int×SV):=(x.out,x.ov)::x.inn
theorem ao7 (x:AD) (w:World) (hr:Sl w (bg x.iv) x.inn.length (x.inn.flatMap lJ)) (hl:x.inn.length<=100000) :
  Calls Tryz.prog 64 #[.agg #[.int .i64 x.tw,bg x.ov,bg x.iv,bg x.av]] w fun e w'=>(∃ A c,e=.returned (.slice A (DI x).length c)/\Own w' w.heap.size 24 1 lJ (.slice A (DI x).length c) (DI x))/\Below w.heap.size w w':=by
 obtain ⟨tw,out,⟨oa,on,oc⟩,inn,⟨ia,xq,ic⟩,fD,⟨aa,an,ac⟩⟩:=x;unfold bg DI at *;simp only at hr hl ⊢;have HS:=avE hr;obtain ⟨Ai,ci,he,-⟩:=hr;injection he with e1 e2 e3;subst e2;have HO:=avE (Own.lit (w.alloc (.cells #[.int .i64 tw,.slice oa on oc,.slice ia inn.length ic,.slice aa an ac] 82)) w.heap.size 24 1 lJ [((out,⟨oa,on,oc⟩):List Int×SV)] #[.slice oa on oc] 1 (w.heap.size+1) ars rfl ars (dP Pe) rfl rfl);have hle:((out,⟨oa,on,oc⟩)::inn:List (List Int×SV)).length=inn.length+1:=rfl;rw [hle];clear e1 e3 hle;go_enter Tryz.func64,Tryz.ntmps64;go_wp2_with
  (at_builtin
   refine iZ _ rfl (.tmp 5) (.tmp 7) _ rfl (base:=w.heap.size) Gm Ew Gl rfl HO.out rfl (l2:=inn) (HS.out.mono (bA (bA (bR w) _) _)) afr afr (by simp only [World.size_alloc];omega) ?_;intro v2 w2 ho2 hg2 zL;obtain ⟨A2,c2,hv2,-⟩:=Own.lI ho2;rw [show ([((out,⟨oa,on,oc⟩):List Int×SV)]++inn).length=inn.length+1 by rw [avL,List.length_singleton];omega] at hv2;subst hv2;have iU:=avE ho2;have HB2:=avE (bG (bA (bA (bR w) _) _) hg2 (fun g hg=>(HO.out.lt g hg).1));clear ho2 hg2 zL
   )
 go_ret;exact ⟨⟨A2,c2,rfl,iU.out⟩,HB2.out⟩
def ao8 (w:World) (l:List Nd) (e:Ending) (w':World):Prop :=
 ∃ A c,e=.returned (.slice A l.length c)/\Below w.heap.size w w'/\Own w' w.heap.size 45 3 yR (.slice A l.length c) l
theorem ao9 (v:Value) (l:List Nd) (w:World) (h:DV w v l) (hl:l.length<=1048576) :
  Calls Tryz.prog 113 #[v] w (ao8 w l):=by
 have H:=h;obtain ⟨A,c,rfl,hn,hc,hR⟩:=h;have hE:=Lib.run_eql_slice_nil (P:=Tryz.prog) (t:=22) (e:=45);rcases A with _ | ad
 ·have hl0:l=[]:=by
   rcases l with _ | ⟨a,l⟩
   · rfl
   ·obtain ⟨b,o,e,_⟩:=hR (by simp [yR])
    cases e
  subst hl0;clear hR H;simp only [avN] at hn ⊢;have hE1:∀ W:World,(binOp .eql 22 (.slice none 0 c) (.slice none 0 0)).run Tryz.prog W=.ok (.bool true) W:=fun W=>Lib.run_eql_slice_nil W _ 45 none _ c 0 0 Tryz.underlying22;clear hE;go_enter Tryz.func113,Tryz.ntmps113;go_wp2;go_ret;exact ⟨_,_,rfl,bR w,Own.nil _ _ _ _ _⟩
 ·have hE1:∀ W:World,(binOp .eql 22 (.slice (some ad) l.length c) (.slice none 0 0)).run Tryz.prog W=.ok (.bool false) W:=fun W=>Lib.run_eql_slice_nil W _ 45 (some ad) _ c 0 0 Tryz.underlying22;clear hE hR;have HH:=avE H;clear H;go_enter Tryz.func113,Tryz.ntmps113;go_wp2_with
   (at_builtin
    refine iZ _ rfl (.tmp 5) (.tmp 6) _ rfl (base:=w.heap.size) ac2 YI ac4 rfl (Own.lit _ _ _ _ yR [] _ 0 _ rfl rfl (awe _) (dP Pe) rfl rfl) rfl (HH.out.mono (bA (bR w) _)) at6 at6 ars ?_;intro v1 w1 hown hg hat)
  go_ret;obtain ⟨A1,c1,rfl,-⟩:=Own.sl hown;simp only [List.nil_append] at hown ⊢;exact ⟨A1,c1,rfl,bG (bA (bR w) _) hg (fun k hk=>by have:w.heap.size=k:=avP hk;omega),hown⟩
structure kE (w:World) (B:Nat) (vn va vf:Value) (p:Pl) (bl:List (Ar×SV)):Prop where
 rU:Own w B 45 3 yR vn p.nodes
 jX:Own w B 50 6 AZ va bl
 uV:∀ x∈bl,Own w B 39 2 dU (bg x.2) x.1.via
 eq:bl.map (·.1)=p.aj
 DJ:Own w B 3 1 dw vf p.faces
theorem kE.keep {w w':World} {B:Nat} {vn va vf:Value} {p:Pl} {bl:List (Ar×SV)} (h:kE w B vn va vf p bl) (hb:Below w.heap.size w w'):kE w' B vn va vf p bl :=
 ⟨h.rU.keep hb,h.jX.keep hb,fun x hx=>(h.uV x hx).keep hb,h.eq,h.DJ.keep hb⟩
theorem kE.EF {w:World} {B:Nat} {vn va vf:Value} {p:Pl} {bl:List (Ar×SV)} (h:kE w B vn va vf p bl):bQ w (.agg #[vn,va,vf]) p:=by
 refine ⟨vn,va,vf,bl.map Fj,rfl,?_,h.rU.sl,⟨?_,fun k hk=>?_⟩,h.DJ.sl⟩
 · rw [awc,<- h.eq];rfl
 ·have:=h.jX.sl
  rw [avM,PY];exact this
 ·have hk':k<bl.length:=by simpa using hk
  rw [av4];exact (h.uV _ (avF hk')).sl
theorem kE.more {w w1:World} {B:Nat} {vn va va' vf:Value} {p:Pl} {bl:List (Ar×SV)} {x:Ar×SV} (h:kE w B vn va vf p bl) (ho:Own w1 B 50 6 AZ va' (bl++[x])) (hg:w.grownBy w1 va.ownBlock) (hx:Own w B 39 2 dU (bg x.2) x.1.via) :
  kE w1 B vn va' vf ⟨p.nodes,p.aj++[x.1],p.faces⟩ (bl++[x]) :=
 ⟨Own.grown h.rU hg (Own.apart h.rU h.jX arC),ho,fun y hy=>by
  rcases av1.1 hy with hy | hy
  · exact Own.grown (h.uV y hy) hg (Own.apart (h.uV y hy) h.jX arC)
  ·rw [avY] at hy;subst hy;exact Own.grown hx hg (Own.apart hx h.jX arC),by rw [List.map_append,h.eq];rfl,Own.grown h.DJ hg (Own.apart h.DJ h.jX arC)⟩
theorem kE.far {w:World} {B:Nat} {vn va vf:Value} {p:Pl} {bl:List (Ar×SV)} (h:kE w B vn va vf p bl) {g:Nat} {t:TypeId} {cs:Array Value} (hb:ah w g t cs) (h1:45≠t) (h2:50≠t) (h3:39≠t) (h4:3≠t) (j:Nat) (u:Value):kE (w.setCell ⟨g,j,none⟩ u) B vn va vf p bl :=
 ⟨Own.far h.rU (Own.iO h.rU hb h1) u,Own.far h.jX (Own.iO h.jX hb h2) u,fun x hx=>Own.far (h.uV x hx) (Own.iO (h.uV x hx) hb h3) u,h.eq,Own.far h.DJ (Own.iO h.DJ hb h4) u⟩
theorem Row.VY {w:World} {A:Option Addr} {l:List (Ar×SV)} (h:Row w A (l.flatMap AZ)) {k:Nat} (hk:k<l.length) :
  ∃ b o,A=some ⟨b,o,none⟩/\b<w.heap.size/\w.cell? ⟨b,o+k*6,none⟩=some (.int .i64 l[k].1.id)/\w.cell? ⟨b,o+k*6+1,none⟩=some (.int .i64 l[k].1.fr)/\w.cell? ⟨b,o+k*6+2,none⟩=some (.int .i64 l[k].1.dst) /\
   w.cell? ⟨b,o+k*6+3,none⟩=some (.slice l[k].2.a l[k].2.n l[k].2.c)/\w.cell? ⟨b,o+k*6+4,none⟩=some (.int .i64 l[k].1.left)/\w.cell? ⟨b,o+k*6+5,none⟩=some (.int .i64 l[k].1.right):=by
 obtain ⟨b,o,hA,hb,hc⟩:=h.at_ (n:=6) (fun _=>rfl) hk Pe;exact ⟨b,o,hA,hb,hc 0 _ rfl,hc 1 _ rfl,hc 2 _ rfl,hc 3 _ rfl,hc 4 _ rfl,hc 5 _ rfl⟩
def inB (b:Bx) (p:Pt):Bool:=decide (b.x0<=p.x/\p.x<=b.x1/\b.y0<=p.y/\p.y<=b.y1)
def rV (a b c:Pt):Bx:=⟨min (min a.x b.x) c.x,min (min a.y b.y) c.y,max (max a.x b.x) c.x,max (max a.y b.y) c.y⟩
def zM (a b c q:Pt):Bool:=inB (rV a b c) q && (if dK a b c=0 then dQ a b q || (dQ b c q || dQ c a q)
 else decide (0<=dK a b c*dK a b q) && decide (0<=dK a b c*dK b c q) && decide (0<=dK a b c*dK c a q))
def xu (a b c q:Pt):Bool:=(dQ a b q || dQ b c q || dQ c a q) || (decide (dK a b q≠0) && decide (dK a b q=dK b c q) && decide (dK b c q=dK c a q))
theorem VZ (a b c q:Pt):tw a b q+tw b c q+tw c a q=tw a b c:=by unfold tw;grind
theorem EG {a b c:Pt} (h:eu [a,b,c]=true):dK a b c=if 0<tw a b c then 1 else if tw a b c<0 then -1 else 0:=by
 unfold dK kY;rw [if_pos h]
theorem ag2 {a b c:Pt} (h:eu [a,b,c]=false):dK a b c=0:=by
 unfold dK kY;simp [h]
theorem xA {a b c:Pt}:eu [a,b,c]=true↔aZ a=true/\aZ b=true/\aZ c=true:=by
 simp [eu]
theorem abk {a b q:Pt} (h:eu [a,b,q]=true):dQ a b q=true↔tw a b q=0/\min a.x b.x<=q.x/\q.x<=max a.x b.x/\min a.y b.y<=q.y/\q.y<=max a.y b.y:=by
 unfold dQ;rw [h];simp [and_assoc]
theorem ag3 {d e t v:Int} (ht:0<t) (h:d*v=e*t) (h0:0<=v) (h1:v<=t):min 0 d<=e/\e<=max 0 d:=by
 by_cases hd:0<=d
 ·have p1:0<=d*v:=Int.mul_nonneg hd h0;have p2:d*v<=d*t:=Int.mul_le_mul_of_nonneg_left h1 hd;have q1:0<=e:=by
   by_cases c:0<=e
   · exact c
   · have:=Int.mul_neg_of_neg_of_pos (show e<0 by omega) ht;omega
  have q2:e<=d:=by
   by_cases c:e<=d
   · exact c
   · have:=Int.mul_lt_mul_of_pos_right (show d<e by omega) ht;omega
  omega
 ·have p1:d*v<=0:=Int.mul_nonpos_of_nonpos_of_nonneg Pe h0;have p2:d*t<=d*v:=by
   have:=Int.mul_le_mul_of_nonpos_left (show d<=0 by omega) h1
   omega
  have q1:e<=0:=by
   by_cases c:e<=0
   · exact c
   · have:=Int.mul_pos (show 0<e by omega) ht;omega
  have q2:d<=e:=by
   by_cases c:d<=e
   · exact c
   · have:=Int.mul_lt_mul_of_pos_right (show e<d by omega) ht;omega
  omega
theorem ag4 {d e t v:Int} (ht:0<t) (hd:d≠0) (h:d*v=e*t) (h0:min 0 d<=e) (h1:e<=max 0 d):0<=v/\v<=t:=by
 by_cases hp:0<d
 ·have p1:0<=e*t:=Int.mul_nonneg Pe Pe;have p2:e*t<=d*t:=Int.mul_le_mul_of_nonneg_right Pe Pe;rw [<- h] at p1 p2;exact ⟨Int.nonneg_of_mul_nonneg_right p1 hp,Int.le_of_mul_le_mul_left p2 hp⟩
 ·have hn:d<0:=by omega
  have p1:e*t<=0:=Int.mul_nonpos_of_nonpos_of_nonneg Pe Pe;have p2:d*t<=e*t:=Int.mul_le_mul_of_nonneg_right Pe Pe;rw [<- h] at p1 p2;constructor
  ·by_cases c:0<=v
   · exact c
   · have:=Int.mul_pos_of_neg_of_neg hn (show v<0 by omega);omega
  ·by_cases c:v<=t
   · exact c
   · have:=Int.mul_lt_mul_of_neg_left (show t<v by omega) hn;omega
theorem apa (a b c q:Pt) (h:tw a b q=0):(b.x-a.x)*tw b c q=(b.x-q.x)*tw a b c:=by unfold tw at *;grind
theorem apb (a b c q:Pt) (h:tw a b q=0):(b.y-a.y)*tw b c q=(b.y-q.y)*tw a b c:=by unfold tw at *;grind
theorem abl {a b c q:Pt} (ht:0<tw a b c) (h:tw a b q=0):(min a.x b.x<=q.x/\q.x<=max a.x b.x/\min a.y b.y<=q.y/\q.y<=max a.y b.y)↔0<=tw b c q/\0<=tw c a q:=by
 have hs:=VZ a b c q;have ex:=apa a b c q h;have ey:=apb a b c q h;constructor
 ·rintro ⟨h1,h2,h3,h4⟩
  have:0<=tw b c q/\tw b c q<=tw a b c:=by
   by_cases hx:b.x-a.x=0
   ·by_cases hy:b.y-a.y=0
    ·exfalso
     have:tw a b c=0:=by unfold tw;rw [hx,hy];simp
     omega
    · exact ag4 ht hy ey Pe Pe
   · exact ag4 ht hx ex Pe Pe
  omega
 ·rintro ⟨h1,h2⟩;have b1:=ag3 ht ex h1 Pe;have b2:=ag3 ht ey h1 Pe;omega
theorem ag5 (a b c q:Pt):tw a b c*q.x=tw b c q*a.x+tw c a q*b.x+tw a b q*c.x:=by unfold tw;grind
theorem ag6 (a b c q:Pt):tw a b c*q.y=tw b c q*a.y+tw c a q*b.y+tw a b q*c.y:=by unfold tw;grind
theorem ag7 {t u v z a b c q m:Int} (ht:0<t) (hs:u+v+z=t) (hu:0<=u) (hv:0<=v) (hz:0<=z) (h:t*q=v*a+z*b+u*c) (ha:a<=m) (hb:b<=m) (hc:c<=m):q<=m:=by
 have h1:=Int.mul_le_mul_of_nonneg_left ha hv;have h2:=Int.mul_le_mul_of_nonneg_left hb hz;have h3:=Int.mul_le_mul_of_nonneg_left hc hu;have e:v*m+z*m+u*m=t*m:=by rw [<- hs];grind
 exact Int.le_of_mul_le_mul_left (show t*q<=t*m by omega) ht
theorem ag8 {t u v z a b c q m:Int} (ht:0<t) (hs:u+v+z=t) (hu:0<=u) (hv:0<=v) (hz:0<=z) (h:t*q=v*a+z*b+u*c) (ha:m<=a) (hb:m<=b) (hc:m<=c):m<=q:=by
 have h1:=Int.mul_le_mul_of_nonneg_left ha hv;have h2:=Int.mul_le_mul_of_nonneg_left hb hz;have h3:=Int.mul_le_mul_of_nonneg_left hc hu;have e:v*m+z*m+u*m=t*m:=by rw [<- hs];grind
 exact Int.le_of_mul_le_mul_left (show t*m<=t*q by omega) ht
theorem apc {a b c q:Pt} (ht:0<tw a b c) (hu:0<=tw a b q) (hv:0<=tw b c q) (hz:0<=tw c a q):inB (rV a b c) q=true:=by
 have hs:=VZ a b c q;unfold inB rV;simp only [avR,avQ];refine ⟨?_,?_,?_,?_⟩
 · exact ag8 ht hs hu hv hz (ag5 a b c q) Pe Pe Pe
 · exact ag7 ht hs hu hv hz (ag5 a b c q) Pe Pe Pe
 · exact ag8 ht hs hu hv hz (ag6 a b c q) Pe Pe Pe
 · exact ag7 ht hs hu hv hz (ag6 a b c q) Pe Pe Pe
theorem apd {a b c q:Pt} (na:aZ a=true) (nb:aZ b=true) (nc:aZ c=true) (nq:aZ q=true) (ht:0<tw a b c) :
  (xu a b c q=true↔0<=tw a b q/\0<=tw b c q/\0<=tw c a q):=by
 have hs:=VZ a b c q;have o1:=abk (xA.2 ⟨na,nb,nq⟩);have o2:=abk (xA.2 ⟨nb,nc,nq⟩);have o3:=abk (xA.2 ⟨nc,na,nq⟩);have r1:tw b c a=tw a b c:=by unfold tw;grind
 have r2:tw c a b=tw a b c:=by unfold tw;grind
 have s1:tw a b q=0->_:=fun h=>abl ht h;have s2:tw b c q=0->_:=fun h=>abl (a:=b) (b:=c) (c:=a) Pe h;have s3:tw c a q=0->_:=fun h=>abl (a:=c) (b:=a) (c:=b) Pe h;unfold xu;rw [Bool.or_eq_true,Bool.or_eq_true,Bool.or_eq_true,o1,o2,o3,EG (xA.2 ⟨na,nb,nq⟩),EG (xA.2 ⟨nb,nc,nq⟩),EG (xA.2 ⟨nc,na,nq⟩)];simp only [avR,avQ];clear o1 o2 o3 r1 r2 na nb nc nq;generalize tw a b c=t at *;generalize tw a b q=u at *;generalize tw b c q=v at *;generalize tw c a q=z at *;constructor
 ·rintro (((⟨h,hb⟩ | ⟨h,hb⟩) | ⟨h,hb⟩) | h)
  · have:=(s1 h).1 hb;omega
  · have:=(s2 h).1 hb;omega
  · have:=(s3 h).1 hb;omega
  ·obtain ⟨⟨h1,h2⟩,h3⟩:=h
   repeat' split at h1
   all_goals repeat' split at h2
   all_goals repeat' split at h3
   all_goals omega
 ·rintro ⟨h1,h2,h3⟩;by_cases c1:u=0
  · exact .inl (.inl (.inl ⟨c1,(s1 c1).2 ⟨h2,h3⟩⟩))
  by_cases c2:v=0
  · exact .inl (.inl (.inr ⟨c2,(s2 c2).2 ⟨h3,h1⟩⟩))
  by_cases c3:z=0
  · exact .inl (.inr ⟨c3,(s3 c3).2 ⟨h1,h2⟩⟩)
  refine .inr ?_;rw [if_pos Pe,if_pos Pe,if_pos Pe];simp
theorem abm (a b q:Pt):dQ b a q=dQ a b q:=by
 unfold dQ;rw [Bool.eq_iff_iff];have e:tw b a q=-tw a b q:=by unfold tw;grind
 rw [e];simp only [eu,List.all_cons,List.all_nil,avR,avQ]
 grind
theorem LH (a b q:Pt):dK b a q=-dK a b q:=by
 unfold dK kY;have e:tw b a q=-tw a b q:=by unfold tw;grind
 have n:eu [b,a,q]=eu [a,b,q]:=by simp only [eu,List.all_cons,List.all_nil];grind
 rw [e,n];split<;>(repeat' split)<;>omega
theorem ape (a b c q:Pt):xu b a c q=xu a b c q:=by
 unfold xu;rw [abm a b q,abm c a q,abm b c q,LH a b q,LH c a q,LH b c q];rw [Bool.eq_iff_iff];simp only [Bool.or_eq_true,avR,avQ];constructor
 ·rintro (((h | h) | h) | h)
  · exact .inl (.inl (.inl h))
  · exact .inl (.inr h)
  · exact .inl (.inl (.inr h))
  · exact .inr Pe
 ·rintro (((h | h) | h) | h)
  · exact .inl (.inl (.inl h))
  · exact .inl (.inr h)
  · exact .inl (.inl (.inr h))
  · exact .inr Pe
theorem apf (a b c q:Pt):inB (rV b a c) q=inB (rV a b c) q:=by
 unfold inB rV;rw [Bool.eq_iff_iff];simp only [avR,avQ];omega
theorem apg {a b c:Pt} (h:eu [a,b,c]=true) (ht:0<tw a b c):dK a b c=1:=by rw [EG h,if_pos ht]
theorem abn {a b c:Pt} (h:eu [a,b,c]=true):0<=1*dK a b c↔0<=tw a b c:=by
 rw [EG h];split
 · omega
 · split<;>omega
theorem ag9 {a b c q:Pt} (na:aZ a=true) (nb:aZ b=true) (nc:aZ c=true) (nq:aZ q=true) (ht:0<tw a b c):zM a b c q=xu a b c q:=by
 have hn:=xA.2 ⟨na,nb,nc⟩;rw [Bool.eq_iff_iff,apd na nb nc nq ht];unfold zM;rw [apg hn ht,if_neg Pe];simp only [avR,avQ];rw [abn (xA.2 ⟨na,nb,nq⟩),abn (xA.2 ⟨nb,nc,nq⟩),abn (xA.2 ⟨nc,na,nq⟩)];constructor
 · rintro ⟨-,⟨h1,h2⟩,h3⟩;exact ⟨h1,h2,h3⟩
 · rintro ⟨h1,h2,h3⟩;exact ⟨apc ht h1 h2 h3,⟨h1,h2⟩,h3⟩
theorem aph {a b c q:Pt} (h:dK a b c≠0):zM b a c q=zM a b c q:=by
 unfold zM;rw [apf,LH a b c,if_neg Pe,if_neg h,LH a b q,LH c a q,LH b c q];simp only [Int.neg_mul_neg];congr 1;rw [Bool.and_assoc,Bool.and_assoc];congr 1;exact Bool.and_comm _ _
theorem abo {p:Pt} (h:iP p=true):aZ p=true:=by
 unfold iP at h;rw [vJ];simp only [avR,avQ] at h;omega
theorem apj {a b c q:Pt} (h:dQ a b q=true\/dQ b c q=true\/dQ c a q=true):inB (rV a b c) q=true:=by
 unfold dQ at h;unfold inB rV;simp only [avR,avQ] at h ⊢;omega
theorem apk {a b c:Pt} (ha:iP a=true) (hb:iP b=true) (hc:iP c=true) (q:Pt):zM a b c q=xu a b c q:=by
 have na:=abo ha;have nb:=abo hb;have nc:=abo hc;have hn:=xA.2 ⟨na,nb,nc⟩;by_cases nq:aZ q=true
 ·rcases Int.lt_trichotomy (tw a b c) 0 with h | h | h
  ·have e:tw b a c=-tw a b c:=by unfold tw;grind
   rw [<- ape,<- aph (by rw [EG hn,if_neg Pe,if_pos h];omega)];exact ag9 nb na nc nq Pe
  ·have hs:=VZ a b c q;have h0:dK a b c=0:=by rw [EG hn,h];rfl
   have k:(decide (dK a b q≠0) && decide (dK a b q=dK b c q) && decide (dK b c q=dK c a q))=false:=by
    rw [EG (xA.2 ⟨na,nb,nq⟩),EG (xA.2 ⟨nb,nc,nq⟩),EG (xA.2 ⟨nc,na,nq⟩)];rw [<- Bool.not_eq_true];simp only [avR,avQ];rintro ⟨⟨h1,h2⟩,h3⟩
    repeat' split at h1
    all_goals repeat' split at h2
    all_goals repeat' split at h3
    all_goals omega
   unfold zM xu;rw [h0,if_pos rfl,k,Bool.or_false,Bool.or_assoc]
   cases hb:inB (rV a b c) q with
   | true=>rfl
   | false =>
    rw [Bool.false_and];symm;rw [<- Bool.not_eq_true,Bool.or_eq_true,Bool.or_eq_true];intro h;rw [apj h] at hb
    cases hb
  · exact ag9 na nb nc nq h
 ·have far:∀ u v,eu [u,v,q]=false:=fun u v=>by
   rw [<- Bool.not_eq_true,xA];exact fun h=>nq h.2.2
  have hf:∀ u v,dQ u v q=false:=fun u v=>by unfold dQ;rw [far];rfl
  unfold zM xu;rw [hf,hf,hf,ag2 (far a b),ag2 (far b c)]
  have:inB (rV a b c) q=false:=by
   rw [<- Bool.not_eq_true];intro h;apply nq;rw [vJ];unfold inB rV at h;unfold iP at ha hb hc;simp only [avR,avQ] at h ha hb hc;omega
  rw [this];rfl
end Go.Proofs.YtialfdomhoojiaaGreat
