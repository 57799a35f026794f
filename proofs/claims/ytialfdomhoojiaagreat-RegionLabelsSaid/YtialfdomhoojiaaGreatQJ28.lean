import Derived.Test.YtialfdomhoojiaaGreatQRegLB
set_option linter.unusedSimpArgs false
set_option linter.unusedVariables false
set_option maxRecDepth 100000
set_option maxHeartbeats 8000000
namespace Go.Proofs.YtialfdomhoojiaaGreat
open Go.RowKit
def Gu (F:Int->Int) (bl:List (Ar×SV)):List (Ar×SV):=bl.map fun x=>(Nv F x.1,x.2)
theorem akh (F:Int->Int) (bl:List (Ar×SV)):(Gu F bl).length=bl.length:=by unfold Gu;rw [Cj]
theorem aud {F:Int->Int} {bl:List (Ar×SV)} {k:Nat} (h:k<(Gu F bl).length) (hk:k<bl.length):(Gu F bl)[k]=(Nv F bl[k].1,bl[k].2):=by simp only [Gu,Gp]
theorem aue (F G:Int->Int) (bl:List (Ar×SV)):Gu G (Gu F bl)=Gu G bl:=by
 unfold Gu;rw [IV];rfl
theorem auf (F G:Int->Int) (bl:List (Ar×SV)):J8 G (Gu F bl) bl.length=Gu G bl:=by
 have h:=alC G (Gu F bl);rw [akh] at h;exact h.trans (aue F G bl)
section
variable {w:World} {B g n c k:Nat} {M:List (Ar×SV)} {a:Ar} {s:SV}
theorem Own.left (h:Own w B 50 6 Ju (.slice (some ⟨g,0,none⟩) n c) (M.set k (a,s))) (hk:k<M.length) (v:Int):Own (w.setCell ⟨g,k*6+4,none⟩ (.int .i64 v)) B 50 6 Ju (.slice (some ⟨g,0,none⟩) n c) (M.set k (⟨a.id,a.fr,a.dst,a.via,v,a.right⟩,s)):=by
 have h1:=Own.bn bg h (i:=k) (by rw [OD];exact hk) (j:=4) AB (⟨a.id,a.fr,a.dst,a.via,v,a.right⟩,s) (.int .i64 v) (by rw [List.getElem_set_self];rfl);rw [List.set_set] at h1;exact h1
theorem Own.right (h:Own w B 50 6 Ju (.slice (some ⟨g,0,none⟩) n c) (M.set k (a,s))) (hk:k<M.length) (v:Int):Own (w.setCell ⟨g,k*6+5,none⟩ (.int .i64 v)) B 50 6 Ju (.slice (some ⟨g,0,none⟩) n c) (M.set k (⟨a.id,a.fr,a.dst,a.via,a.left,v⟩,s)):=by
 have h1:=Own.bn bg h (i:=k) (by rw [OD];exact hk) (j:=5) AB (⟨a.id,a.fr,a.dst,a.via,a.left,v⟩,s) (.int .i64 v) (by rw [List.getElem_set_self];rfl);rw [List.set_set] at h1;exact h1
end
theorem aug (A:Option Addr) (c B:Nat) (vx:Value) (X:List Int) (v:Int) (F:Int->Int) (bl:List (Ar×SV)) (w:World) (ho:Own w B 50 6 Ju (.slice A bl.length c) (Gu F bl)) (hX:∀ W,w.grownBy W (Value.slice A bl.length c).ownBlock->Ints W vx X) (hb:∀ d∈X,-1073741824<=d/\d<=1073741824) (hxl:X.length<=100000) (hbl:bl.length<=100000) :
  Calls Tryz.prog 67 #[.slice A bl.length c,vx,.int .i64 v] w fun e w'=>e=.returned (.tuple #[])/\Own w' B 50 6 Ju (.slice A bl.length c) (Gu (GX F v [X]) bl)/\w.grownBy w' (Value.slice A bl.length c).ownBlock:=by
 obtain ⟨Ax,cx,rfl,hx1,hx2,-⟩:=hX w (gR w _);unfold maxLen at hx2;have HX:=AA hX;have HO:=AA ho;have MQ:=AA hb;clear hX ho hb;go_enter Tryz.func67,Tryz.ntmps67;go_upto_block 0 with fail;go_wp2_with fail;go_loopw [6] (fun u wr=>∃ i:Nat,i<=X.length/\u=.int .i64 i/\Own wr B 50 6 Ju (.slice A bl.length c) (Gu (GX F v [X.take i]) bl)/\w.grownBy wr (Value.slice A bl.length c).ownBlock) (fun u _=>X.length-(intOf u).toNat)
 case atStart => exact ⟨0,Bv _,rfl,by rw [O8,show GX F v [[]]=F from (alG F v []).trans (alF F v)];exact HO.out,gR w _⟩
 case round =>
  obtain ⟨i,hi,rfl,ho,hg⟩:=hrel;obtain ⟨wo,rfl⟩:=BR wr;have Nk:=AA ho;have HG:=AA hg;clear ho hg;by_cases hlt:i<X.length
  ·have yt:(i:Int)<X.length:=by omega
   have yu:0<=(i:Int):=by omega
   have hd:=MQ.out _ (BO hlt);have hst:=alH F v [] X hlt;rw [Qj,Qj] at hst;have DU:=AA hst;clear hst;go_upto_block 2 with fail;go_wp2_with fail;go_loopw [7] (fun u wr=>∃ k:Nat,k<=bl.length/\u=.int .i64 k/\Own wr B 50 6 Ju (.slice A bl.length c) (J8 (GX F v [X.take (i+1)]) (Gu (GX F v [X.take i]) bl) k)/\w.grownBy wr (Value.slice A bl.length c).ownBlock) (fun u _=>bl.length-(intOf u).toNat)
   case atStart => exact ⟨0,Bv _,rfl,by rw [afF];exact Nk.out,HG.out⟩
   case round =>
    obtain ⟨k,hk,rfl,ho,hg⟩:=hrel;obtain ⟨wq,rfl⟩:=BR wr;have pz:=AA hg;by_cases hkl:k<bl.length
    ·have hkl2:k<(Gu (GX F v [X.take i]) bl).length:=by rw [akh];exact hkl
     have hkM:k<(J8 (GX F v [X.take (i+1)]) (Gu (GX F v [X.take i]) bl) k).length:=by rw [alB];exact hkl2
     have hat:=alD (f:=GX F v [X.take (i+1)]) hkl2 hkM;have hset:=alE (f:=GX F v [X.take (i+1)]) hkl2;have hel:=aud (F:=GX F v [X.take i]) hkl2 hkl;rw [hel] at hat hset;obtain ⟨M,hM⟩:=BN (J8 (GX F v [X.take (i+1)]) (Gu (GX F v [X.take i]) bl) k);rw [hM] at ho hset;have aeb:k<M.length:=by rw [<- hM];exact hkM
     have hat':M[k]=(Nv (GX F v [X.take i]) bl[k].1,bl[k].2):=by rw [<- hat];congr 1;exact hM.symm
     have hself:M.set k (Nv (GX F v [X.take i]) bl[k].1,bl[k].2)=M:=by rw [<- hat',List.set_getElem_self]
     rw [<- hself] at ho;have hsf:=congrFun DU.out;have RZ:=AA hset;have kE:=AA hsf;obtain ⟨g,hgA,hBg,hgl,hfz,c0,-,-,-,c4,c5⟩:=ho.aA2 (k:=k) (by rw [OD];exact aeb);subst hgA;rw [List.getElem_set_self] at c0 c4 c5;unfold Nv at ho c0 c4 c5;simp only at c0 c4 c5;have hxw:=HX.out wq pz.out;obtain ⟨A',c',he,-,-,U7⟩:=hxw;injection he with y1 y2 y3;subst y1 y3;clear y2;obtain ⟨bx,ox,rfl,hlx,d0⟩:=U7.int hlt;have Hg:=AA ho;have HK:=AA aeb;obtain ⟨l0,hl0⟩:=BN (GX F v [X.take i] bl[k].1.id);obtain ⟨r0,hr0⟩:=BN (GX F v [X.take i] (-bl[k].1.id));rw [hl0] at c4;rw [hr0] at c5;rw [hl0,hr0] at Hg;have aa6:=AA hl0;have HR0:=AA hr0;generalize hid:bl[k].1.id=id at *;have fJ:=AA hid;have aki:=hfz (k*6+4);have G6:=hfz (k*6+5);have aa7:(k:Int)<bl.length:=by omega
     have yw:0<=(k:Int):=by omega
     have kw:IntKind.i64.wrap (-X[i])=-X[i]:=D6 _ AB;clear ho hg hel hat hat' hself hset hsf hM hkM aeb hkl2 U7 hl0 hr0 hid;generalize hxi:X[i]=d at *;have qA:=AA hxi;clear hxi;by_cases e1:id=d
     ·have b1:(id == d)=true:=by simpa using e1
      go_upto_region 6 with fail;refine DJ (wq) (.run 10 0 0 (.done)) fun CU QR Ae Ah hS=>?_
      iterate 10 refine Aj ?_
      refine DF ?_;clear hS Ah Ae;intro hB;clear hB;go_upto_region 8 with fail;obtain ⟨W5,hW⟩:∃ W:World,W=(wq.setCell ⟨g,k*6+4,none⟩ (.int .i64 v)).drew:=⟨_,rfl⟩;have Fh:=AA (show Own W5 B 50 6 Ju _ _ by rw [hW];exact (Own.left Hg.out HK.out v).keep (bD (bR _)));have Oa:=AA (show w.grownBy W5 _ by rw [hW];exact gD (gS pz.out (k*6+4) (.int .i64 v)));rw [<- hW];clear hW c0 c4 c5 d0 hlx hgl hfz aki G6 Hg pz b1;obtain ⟨g',hgA,-,hgl,hfz,c0,-,-,-,c4,c5⟩:=Fh.out.aA2 (k:=k) (by rw [OD];exact HK.out);injection hgA with hgA;injection hgA with y1 _ _;subst y1;rw [List.getElem_set_self] at c0 c4 c5;simp only at c0 c4 c5;have hxw:=HX.out W5 Oa.out;obtain ⟨A',c',he,-,-,U7⟩:=hxw;injection he with y1 y2 y3;subst y1 y3;clear y2;obtain ⟨bx',ox',he,hlx,d0⟩:=U7.int hlt;injection he with he;injection he with y1 y2 _;subst y1 y2;rw [qA.out] at d0;clear U7;have G6:=hfz (k*6+5);by_cases e2:id=-d
      ·have b2:(id == -d)=true:=by simpa using e2
       refine DJ (W5) (.run 11 0 0 (.done)) fun CU QR Ae Ah hS=>?_
       iterate 11 refine Aj ?_
       refine DF ?_;clear hS Ah Ae;intro hB;have Ls:=AA hB;clear hB;have OT:=AA ((Own.right Fh.out HK.out v).keep (bD (bR _)));have Y3:=AA (gD (gS Oa.out (k*6+5) (.int .i64 v)));have HF:=AA (show Own (W5.setCell ⟨g,k*6+5,none⟩ (.int .i64 v)).drew B 50 6 Ju (.slice (some ⟨g,0,none⟩) bl.length c) (J8 (GX F v [X.take (i+1)]) (Gu (GX F v [X.take i]) bl) (k+1)) by
        rw [<- RZ.out];have h:=OT.out;simp only [Nv,kE.out,fJ.out,aa6.out,HR0.out,qA.out]
        first
        | (rw [AZ e1,AZ AB];exact h)
        | (rw [AX e1,AZ AB];exact h))
       go_wp2;go_roundw
       case rel => exact ⟨k+1,AB,BJ,HF.out,Y3.out⟩
       case measure => exact BL
      ·have b2:(id == -d)=false:=by simpa using e2
       refine DJ (W5) (.run 11 0 0 (.done)) fun CU QR Ae Ah hS=>?_
       iterate 11 refine Aj ?_
       refine DF ?_;clear hS Ah Ae;intro hB;have Ls:=AA hB;clear hB;have OT:=AA (Fh.out.keep Ls.out);have Y3:=AA (gB Oa.out Ls.out);have HF:=AA (show Own W5.drew B 50 6 Ju (.slice (some ⟨g,0,none⟩) bl.length c) (J8 (GX F v [X.take (i+1)]) (Gu (GX F v [X.take i]) bl) (k+1)) by
        rw [<- RZ.out];have h:=OT.out;simp only [Nv,kE.out,fJ.out,aa6.out,HR0.out,qA.out]
        first
        | (rw [AZ e1,AX AB];exact h)
        | (rw [AX e1,AX AB];exact h))
       go_wp2;go_roundw
       case rel => exact ⟨k+1,AB,BJ,HF.out,Y3.out⟩
       case measure => exact BL
     ·have b1:(id == d)=false:=by simpa using e1
      go_upto_region 6 with fail;refine DJ (wq) (.run 10 0 0 (.done)) fun CU QR Ae Ah hS=>?_
      iterate 10 refine Aj ?_
      refine DF ?_;clear hS Ah Ae;intro hB;clear hB;obtain ⟨W5,hW⟩:∃ W:World,W=wq.drew:=⟨_,rfl⟩;have Fh:=AA (show Own W5 B 50 6 Ju _ _ by rw [hW];exact Hg.out.keep (bD (bR wq)));have Oa:=AA (show w.grownBy W5 _ by rw [hW];exact gD pz.out);rw [<- hW];clear hW c0 c4 c5 d0 hlx hgl hfz aki G6 Hg pz;go_upto_region 8 with fail;clear b1;obtain ⟨g',hgA,-,hgl,hfz,c0,-,-,-,c4,c5⟩:=Fh.out.aA2 (k:=k) (by rw [OD];exact HK.out);injection hgA with hgA;injection hgA with y1 _ _;subst y1;rw [List.getElem_set_self] at c0 c4 c5;simp only at c0 c4 c5;have hxw:=HX.out W5 Oa.out;obtain ⟨A',c',he,-,-,U7⟩:=hxw;injection he with y1 y2 y3;subst y1 y3;clear y2;obtain ⟨bx',ox',he,hlx,d0⟩:=U7.int hlt;injection he with he;injection he with y1 y2 _;subst y1 y2;rw [qA.out] at d0;clear U7;have G6:=hfz (k*6+5);by_cases e2:id=-d
      ·have b2:(id == -d)=true:=by simpa using e2
       refine DJ (W5) (.run 11 0 0 (.done)) fun CU QR Ae Ah hS=>?_
       iterate 11 refine Aj ?_
       refine DF ?_;clear hS Ah Ae;intro hB;have Ls:=AA hB;clear hB;have OT:=AA ((Own.right Fh.out HK.out v).keep (bD (bR _)));have Y3:=AA (gD (gS Oa.out (k*6+5) (.int .i64 v)));have HF:=AA (show Own (W5.setCell ⟨g,k*6+5,none⟩ (.int .i64 v)).drew B 50 6 Ju (.slice (some ⟨g,0,none⟩) bl.length c) (J8 (GX F v [X.take (i+1)]) (Gu (GX F v [X.take i]) bl) (k+1)) by
        rw [<- RZ.out];have h:=OT.out;simp only [Nv,kE.out,fJ.out,aa6.out,HR0.out,qA.out]
        first
        | (rw [AZ e1,AZ AB];exact h)
        | (rw [AX e1,AZ AB];exact h))
       go_wp2;go_roundw
       case rel => exact ⟨k+1,AB,BJ,HF.out,Y3.out⟩
       case measure => exact BL
      ·have b2:(id == -d)=false:=by simpa using e2
       refine DJ (W5) (.run 11 0 0 (.done)) fun CU QR Ae Ah hS=>?_
       iterate 11 refine Aj ?_
       refine DF ?_;clear hS Ah Ae;intro hB;have Ls:=AA hB;clear hB;have OT:=AA (Fh.out.keep Ls.out);have Y3:=AA (gB Oa.out Ls.out);have HF:=AA (show Own W5.drew B 50 6 Ju (.slice (some ⟨g,0,none⟩) bl.length c) (J8 (GX F v [X.take (i+1)]) (Gu (GX F v [X.take i]) bl) (k+1)) by
        rw [<- RZ.out];have h:=OT.out;simp only [Nv,kE.out,fJ.out,aa6.out,HR0.out,qA.out]
        first
        | (rw [AZ e1,AX AB];exact h)
        | (rw [AX e1,AX AB];exact h))
       go_wp2;go_roundw
       case rel => exact ⟨k+1,AB,BJ,HF.out,Y3.out⟩
       case measure => exact BL
    ·obtain rfl:k=bl.length:=by omega
     rw [auf] at ho;have Hg:=AA ho;clear ho hg;go_wp2;go_roundw
     case rel => exact ⟨i+1,AB,BJ,Hg.out,pz.out⟩
     case measure => exact BL
  ·obtain rfl:i=X.length:=by omega
   have ho:=Nk.out;rw [I4] at ho;have Hg:=AA ho;clear ho;go_wp2_with fail;exact bodyPost_end (v:=.tuple #[]) (results_none rfl _ _ _) rfl ⟨rfl,Hg.out,HG.out⟩
section
variable {G:Nat->Prop} {w w0 w' W:World}
def Skip (G:Nat->Prop) (w w':World):Prop:=w.heap.size<=w'.heap.size/\∀ k,k<w.heap.size->¬ G k->w'.heap[k]? = w.heap[k]?
theorem Skip.refl:Skip G w w:=⟨Dc _,fun _ _ _=>rfl⟩
theorem Skip.trans (h:Skip G w w') (k:Skip G w' W):Skip G w W:=⟨EH h.1 k.1,fun i hi hg=>(k.2 i (LW hi h.1) hg).trans (h.2 i hi hg)⟩
theorem Skip.of (h:AU w w'):Skip G w w':=⟨h.size,fun k hk _=>h.block k hk⟩
theorem Skip.EI (h:Skip G w w') {p:Addr} (hp:G p.block) (u:Value):Skip G w (w'.setCell p u) :=
 ⟨by simpa using h.1,fun k hk hg=>(Below.heap_setCell _ _ _ _ (fun e=>hg (by rw [e];exact hp))).trans (h.2 k hk hg)⟩
theorem Own.skip {α:Type} {base:Nat} {e:TypeId} {size:Nat} {f:α->List Value} {v:Value} {l:List α} (h:Own w base e size f v l) (hG:∀ g,G g->g<base) (hs:Skip G w W):Own W base e size f v l:=by
 obtain ⟨h1,h2⟩:=h;refine ⟨h1,?_⟩;rcases h2 with h2 | ⟨g,cap,cur,hv,hg,hh,r⟩
 · exact .inl h2
 · exact .inr ⟨g,cap,cur,hv,hg,(hs.2 g (AO.lt hh) (fun k=>by have:=hG g k;omega)).trans hh,r⟩
theorem Ci.form {v:Value} {p:Pl} (h:Ci w v p):∃ An cn Aa ca Af cf,v=.agg #[.slice An p.nodes.length cn,.slice Aa p.AP.length ca,.slice Af p.faces.length cf]:=by
 obtain ⟨_,_,_,al,rfl,hpa,⟨An,cn,rfl,-⟩,⟨⟨Aa,ca,rfl,-⟩,-⟩,⟨Af,cf,rfl,-⟩⟩:=h;exact ⟨An,cn,Aa,ca,Af,cf,by rw [hpa,Cj]⟩
end
structure Rn where
 lo:Int
 hi:Int
def G7 (l:List Rn) (n:Int):Prop:=∃ r∈l,r.lo<=n/\n<r.hi
def Mc (l:List Rn):Prop:=(∀ r∈l,r.lo<r.hi)/\l.Pairwise (fun a b=>a.hi<b.lo)
theorem Y8 (n:Int):¬ G7 [] n:=fun ⟨r,h,_⟩=>by cases h
theorem Md {r:Rn} {l:List Rn} {n:Int}:G7 (r::l) n↔(r.lo<=n/\n<r.hi)\/G7 l n:=by
 unfold G7;constructor
 ·rintro ⟨x,hx,h⟩;rcases EW.1 hx with rfl | hx
  · exact .inl h
  · exact .inr ⟨x,hx,h⟩
 ·rintro (h | ⟨x,hx,h⟩)
  · exact ⟨r,Eu,h⟩
  · exact ⟨x,I7 _ hx,h⟩
theorem VH {l m:List Rn} {n:Int}:G7 (l++m) n↔G7 l n\/G7 m n:=by
 unfold G7;constructor
 ·rintro ⟨x,hx,h⟩;rcases FX.1 hx with hx | hx
  · exact .inl ⟨x,hx,h⟩
  · exact .inr ⟨x,hx,h⟩
 ·rintro (⟨x,hx,h⟩ | ⟨x,hx,h⟩)
  · exact ⟨x,O9 _ hx,h⟩
  · exact ⟨x,YI _ hx,h⟩
theorem Mc.tail {r:Rn} {l:List Rn} (h:Mc (r::l)):Mc l:=⟨fun x hx=>h.1 x (I7 _ hx),(JL.1 h.2).2⟩
theorem Mc.Y9 {r:Rn} {l:List Rn} (h:Mc (r::l)) {n:Int} (hn:G7 l n):r.hi<n:=by
 obtain ⟨x,hx,h1,_⟩:=hn;have:=(JL.1 h.2).1 x hx
 omega
theorem akj:∀ {l m:List Rn},Mc l->Mc m->(∀ n,G7 l n↔G7 m n)->l=m
 | [],[],_,_,_=>rfl
 | [],b::m,_,hm,h=>by
  have:=(h b.lo).2 (Md.2 (.inl ⟨KH _,hm.1 b Eu⟩))
  exact absurd this (Y8 _)
 | a::l,[],hl,_,h=>by
  have:=(h a.lo).1 (Md.2 (.inl ⟨KH _,hl.1 a Eu⟩))
  exact absurd this (Y8 _)
 | a::l,b::m,hl,hm,h=>by
  have ha:=hl.1 a Eu;have hb:=hm.1 b Eu;have h1:=(h a.lo).1 (Md.2 (.inl ⟨KH _,ha⟩));have h2:=(h b.lo).2 (Md.2 (.inl ⟨KH _,hb⟩));have e1:b.lo<=a.lo:=by
   rcases Md.1 h1 with h1 | h1
   · exact h1.1
   · have:=hm.Y9 h1;omega
  have e2:a.lo<=b.lo:=by
   rcases Md.1 h2 with h2 | h2
   · exact h2.1
   · have:=hl.Y9 h2;omega
  have g1:¬ G7 (a::l) a.hi:=fun g=>by
   rcases Md.1 g with g | g
   · omega
   · have:=hl.Y9 g;omega
  have g2:¬ G7 (b::m) b.hi:=fun g=>by
   rcases Md.1 g with g | g
   · omega
   · have:=hm.Y9 g;omega
  have e3:¬ a.hi<b.hi:=fun g=>g1 ((h a.hi).2 (Md.2 (.inl ⟨AB,g⟩)));have e4:¬ b.hi<a.hi:=fun g=>g2 ((h b.hi).1 (Md.2 (.inl ⟨AB,g⟩)));have eab:a=b:=by
   cases a;cases b;simp only [Rn.mk.injEq];simp only at e1 e2 e3 e4;omega
  subst eab;rw [akj hl.tail hm.tail fun n=>?_];constructor
  ·intro g;have:=hl.Y9 g
   rcases Md.1 ((h n).1 (Md.2 (.inr g))) with g | g
   · omega
   · exact g
  ·intro g;have:=hm.Y9 g
   rcases Md.1 ((h n).2 (Md.2 (.inr g))) with g | g
   · omega
   · exact g
def aa8:Rn:=⟨0,0⟩
def U9 (out:List Rn) (r:Rn):List Rn :=
 if r.hi<=r.lo then out
 else if 0<out.length/\r.lo<=(out.getD (out.length-1) aa8).hi then out.set (out.length-1) ⟨(out.getD (out.length-1) aa8).lo,max (out.getD (out.length-1) aa8).hi r.hi⟩
 else out++[r]
theorem auh {α:Type} (l:List α) (z d:α):(l++[z]).getD ((l++[z]).length-1) d=z:=by
 simp [Fj]
theorem aui {α:Type} (l:List α) (z y:α):(l++[z]).set ((l++[z]).length-1) y=l++[y]:=by
 rw [ER,sD,gu,ab2 _ _ (Dc _),ab3];rfl
structure qB (out pre:List Rn) (m:Int):Prop where
 val:Mc out
 same:∀ n,G7 out n↔G7 pre n
 le:∀ z∈out,z.lo<=m
theorem qB.step {out pre:List Rn} {r:Rn} (h:qB out pre r.lo):qB (U9 out r) (pre++[r]) r.lo:=by
 unfold U9;have h1:∀ n,G7 [r] n↔r.lo<=n/\n<r.hi:=fun n=>by rw [Md];exact ⟨fun g=>g.resolve_right (Y8 n),.inl⟩
 by_cases e:r.hi<=r.lo
 ·rw [AZ e];refine ⟨h.val,fun n=>?_,h.le⟩;rw [VH,h.same,h1];exact ⟨.inl,fun g=>g.resolve_right AB⟩
 rw [AX e];rcases List.eq_nil_or_concat out with rfl | ⟨l,z,rfl⟩
 ·rw [AX Ak];refine ⟨⟨fun x hx=>?_,Ak⟩,fun n=>?_,fun x hx=>?_⟩
  · simp at hx;subst hx;omega
  · rw [VH,VH,h.same]
  · simp at hx;subst hx;exact KH _
 ·simp only [List.concat_eq_append] at h ⊢;rw [auh,aui];have hp:=Qn.1 h.val.2;have hz:=h.le z Ak;have hzv:=h.val.1 z Ak;by_cases e2:r.lo<=z.hi
  ·rw [AZ ⟨Ak,e2⟩];refine ⟨⟨fun x hx=>?_,?_⟩,fun n=>?_,fun x hx=>?_⟩
   ·rcases FX.1 hx with hx | hx
    · exact h.val.1 x (O9 _ hx)
    ·rw [EP] at hx;subst hx
     show z.lo<max z.hi r.hi
     omega
   ·rw [Qn];refine ⟨hp.1,Ak,fun a ha b hb=>?_⟩;rw [EP] at hb;subst hb;exact hp.2.2 a ha z Ak
   ·rw [VH,VH,<- h.same,VH,h1,Md,Md];have:=Y8 n
    constructor
    ·rintro (g | (g | g))
     · exact .inl (.inl g)
     ·simp only at g;by_cases e3:n<z.hi
      · exact .inl (.inr (.inl ⟨g.1,e3⟩))
      · exact .inr AB
     · exact absurd g this
    ·rintro ((g | (g | g)) | g)
     · exact .inl g
     · exact .inr (.inl (by simp only;omega))
     · exact absurd g this
     · exact .inr (.inl (by simp only;omega))
   ·rcases FX.1 hx with hx | hx
    · exact h.le x (O9 _ hx)
    · rw [EP] at hx;subst hx;exact hz
  ·rw [AX (fun g=>e2 g.2)];refine ⟨⟨fun x hx=>?_,?_⟩,fun n=>?_,fun x hx=>?_⟩
   ·rcases FX.1 hx with hx | hx
    · exact h.val.1 x hx
    · rw [EP] at hx;subst hx;omega
   ·rw [Qn];refine ⟨h.val.2,Ak,fun a ha b hb=>?_⟩;rw [EP] at hb;subst hb;rcases FX.1 ha with ha | ha
    ·have:=hp.2.2 a ha z Ak
     omega
    · rw [EP] at ha;subst ha;omega
   · rw [VH (m:=[r]),VH (m:=[r]),h.same]
   ·rcases FX.1 hx with hx | hx
    · exact h.le x hx
    · rw [EP] at hx;subst hx;exact KH _
def jY (r:Rn):List Rn->List Rn
 | []=>[r]
 | x::l=>if r.lo<=x.lo then r::x::l else x::jY r l
def jZ (l:List Rn):List Rn:=l.foldr jY []
def jc (l:List Rn):List Rn:=l.foldl U9 []
def Pz (l:List Rn):List Rn:=jc (jZ l)
theorem aec (r:Rn):∀ l,(jY r l).Perm (r::l)
 | []=>List.Perm.refl _
 | x::l=>by
  unfold jY;split
  · exact List.Perm.refl _
  · exact ((aec r l).cons x).trans (List.Perm.swap _ _ _)
theorem akk (r:Rn):∀ l,l.Pairwise (fun a b=>a.lo<=b.lo)->(jY r l).Pairwise (fun a b=>a.lo<=b.lo)
 | [],_=>by unfold jY;simp
 | x::l,h=>by
  have h':=JL.1 h;unfold jY;split
  ·rename_i e;rw [JL];refine ⟨fun y hy=>?_,h⟩;rcases EW.1 hy with rfl | hy
   · exact e
   · have:=h'.1 y hy;omega
  ·rename_i e;rw [JL];refine ⟨fun y hy=>?_,akk r l h'.2⟩;rcases EW.1 ((aec r l).subset hy) with rfl | hy
   · omega
   · exact h'.1 y hy
theorem qC:∀ l,(jZ l).Perm l/\(jZ l).Pairwise (fun a b=>a.lo<=b.lo)
 | []=>⟨List.Perm.refl _,List.Pairwise.nil⟩
 | x::l=>by
  obtain ⟨h1,h2⟩:=qC l;exact ⟨(aec x _).trans (h1.cons x),akk x _ h2⟩
theorem akl:∀ (l out pre:List Rn) (m:Int),qB out pre m->(∀ r∈l,m<=r.lo)->l.Pairwise (fun a b=>a.lo<=b.lo)->Mc (l.foldl U9 out)/\∀ n,G7 (l.foldl U9 out) n↔G7 (pre++l) n
 | [],out,pre,m,h,_,_=>⟨h.val,fun n=>by rw [JA];exact h.same n⟩
 | r::l,out,pre,m,h,hm,hs=>by
  have hs':=JL.1 hs;have h0:qB out pre r.lo:=⟨h.val,h.same,fun z hz=>Int.le_trans (h.le z hz) (hm r Eu)⟩;have:=akl l (U9 out r) (pre++[r]) r.lo h0.step hs'.1 hs'.2
  rw [KW] at this;exact this
theorem aed {l:List Rn} (hs:l.Pairwise (fun a b=>a.lo<=b.lo)):Mc (jc l)/\∀ n,G7 (jc l) n↔G7 l n:=by
 rcases l with _ | ⟨r,l⟩
 · exact ⟨⟨fun x hx=>(by cases hx),List.Pairwise.nil⟩,fun n=>Iff.rfl⟩
 ·have h0:qB [] [] r.lo:=⟨⟨fun x hx=>(by cases hx),List.Pairwise.nil⟩,fun n=>Iff.rfl,fun x hx=>by cases hx⟩;have hs':=JL.1 hs;exact akl (r::l) [] [] r.lo h0 (fun x hx=>by
   rcases EW.1 hx with rfl | hx
   · exact KH _
   · exact hs'.1 x hx) hs
theorem aee {l m:List Rn} (h:l.Perm m) (n:Int):G7 l n↔G7 m n :=
 ⟨fun ⟨x,hx,g⟩=>⟨x,h.subset hx,g⟩,fun ⟨x,hx,g⟩=>⟨x,h.symm.subset hx,g⟩⟩
theorem auj {l m:List Rn} (hp:m.Perm l) (hs:m.Pairwise (fun a b=>a.lo<=b.lo)):jc m=Pz l:=by
 obtain ⟨h1,h2⟩:=aed hs;obtain ⟨h3,h4⟩:=aed (qC l).2;exact akj h1 h3 fun n=>by rw [h2,show G7 (Pz l) n↔_ from h4 n,aee hp,aee (qC l).1]
theorem qE (l:List Rn):Mc (Pz l)/\∀ n,G7 (Pz l) n↔G7 l n:=by
 obtain ⟨h3,h4⟩:=aed (qC l).2;exact ⟨h3,fun n=>by show G7 (jc (jZ l)) n↔_;rw [h4,aee (qC l).1]⟩
def JJ (lo hi:Int):List Rn:=if lo<hi then [⟨lo,hi⟩] else []
theorem aa9 {lo hi n:Int}:G7 (JJ lo hi) n↔lo<=n/\n<hi:=by
 unfold JJ;split
 · rw [Md];exact ⟨fun g=>g.resolve_right (Y8 n),.inl⟩
 · exact ⟨fun g=>absurd g (Y8 n),fun g=>by omega⟩
def P7 (hi:Int):Int->List Rn->List Rn
 | lo,[]=>JJ lo hi
 | lo,b::bs=>if b.lo<hi then JJ lo b.lo++P7 hi b.hi bs else JJ lo hi
def NT (lo:Int) (bs:List Rn):List Rn:=bs.dropWhile (fun b=>decide (b.hi<=lo))
def Ob:List Rn->List Rn->List Rn
 | [],_=>[]
 | r::xs,bs=>P7 r.hi r.lo (NT r.lo bs)++Ob xs (NT r.lo bs)
theorem Mc.drop {l:List Rn} (h:Mc l) (lo:Int):Mc (NT lo l):=by
 have hs:=List.dropWhile_sublist (fun b:Rn=>decide (b.hi<=lo)) (l:=l);exact ⟨fun x hx=>h.1 x (hs.subset hx),h.2.sublist hs⟩
theorem yx (lo:Int):∀ {l:List Rn},Mc l->∀ {n:Int},lo<=n->(G7 (NT lo l) n↔G7 l n)
 | [],_,_,_=>Iff.rfl
 | b::l,h,n,hn=>by
  unfold NT;rw [sF];by_cases e:b.hi<=lo
  ·rw [AZ (by simpa using e),Md];have:=yx lo h.tail hn
   unfold NT at this;rw [this];exact ⟨.inr,fun g=>g.resolve_left AB⟩
  · rw [AX (by simpa using e)]
theorem akm (hi:Int):∀ (bs:List Rn) (lo:Int),Mc bs->(∀ x∈bs,lo<x.hi) ->
  Mc (P7 hi lo bs)/\(∀ r∈P7 hi lo bs,lo<=r.lo/\r.hi<=hi)/\∀ n,G7 (P7 hi lo bs) n↔(lo<=n/\n<hi)/\¬ (G7 bs n)
 | [],lo,_,_=>by
  unfold P7;refine ⟨?_,fun r hr=>?_,fun n=>?_⟩
  ·unfold JJ;split
   · exact ⟨fun x hx=>by rw [EP] at hx;subst hx;assumption,Ak⟩
   · exact ⟨fun x hx=>(by cases hx),List.Pairwise.nil⟩
  ·unfold JJ at hr;split at hr
   · rw [EP] at hr;subst hr;exact ⟨KH _,KH _⟩
   · cases hr
  ·rw [aa9];exact ⟨fun g=>⟨g,Y8 n⟩,fun g=>g.1⟩
 | b::bs,lo,h,hlo=>by
  have hb:=h.1 b Eu;have hl:=hlo b Eu;obtain ⟨h1,h2,h3⟩:=akm hi bs b.hi h.tail (fun x hx=>by
   have:=(JL.1 h.2).1 x hx
   have:=h.1 x (I7 _ hx)
   omega)
  have hA:∀ l m,∀ r∈JJ l m,r=⟨l,m⟩/\l<m:=fun l m r hr=>by
   unfold JJ at hr;split at hr
   · rw [EP] at hr;exact ⟨hr,KT⟩
   · cases hr
  have hP:∀ l m,(JJ l m).Pairwise (fun a b=>a.hi<b.lo):=fun l m=>by unfold JJ;split<;>simp
  unfold P7;by_cases e:b.lo<hi
  ·rw [AZ e];refine ⟨⟨fun r hr=>?_,?_⟩,fun r hr=>?_,fun n=>?_⟩
   ·rcases FX.1 hr with hr | hr
    · obtain ⟨rfl,g⟩:=hA _ _ r hr;exact g
    · exact h1.1 r hr
   ·rw [Qn];refine ⟨hP _ _,h1.2,fun x hx y hy=>?_⟩;obtain ⟨rfl,g⟩:=hA _ _ x hx;have:=(h2 y hy).1
    show b.lo<y.lo
    omega
   ·rcases FX.1 hr with hr | hr
    ·obtain ⟨rfl,g⟩:=hA _ _ r hr;exact ⟨KH _,by show b.lo<=hi;omega⟩
    ·have:=h2 r hr
     exact ⟨AB,this.2⟩
   ·rw [VH,aa9,h3,Md];have ht:G7 bs n->b.hi<n:=fun g=>h.Y9 g;constructor
    ·rintro (g | ⟨g,g2⟩)
     · exact ⟨AB,fun g2=>by
       rcases g2 with g2 | g2
       · omega
       · have:=ht g2;omega⟩
     · exact ⟨AB,fun g3=>by
       rcases g3 with g3 | g3
       · omega
       · exact g2 g3⟩
    ·rintro ⟨g,g2⟩;by_cases g4:n<b.lo
     · exact .inl ⟨g.1,g4⟩
     ·refine .inr ⟨⟨?_,g.2⟩,fun g3=>g2 (.inr g3)⟩;have:¬ (b.lo<=n/\n<b.hi):=fun g3=>g2 (.inl g3)
      omega
  ·rw [AX e];refine ⟨⟨fun r hr=>?_,hP _ _⟩,fun r hr=>?_,fun n=>?_⟩
   · obtain ⟨rfl,g⟩:=hA _ _ r hr;exact g
   · obtain ⟨rfl,g⟩:=hA _ _ r hr;exact ⟨KH _,KH _⟩
   ·rw [aa9,Md];have ht:G7 bs n->b.hi<n:=fun g=>h.Y9 g;refine ⟨fun g=>⟨g,fun g2=>?_⟩,fun g=>g.1⟩;rcases g2 with g2 | g2
    · omega
    · have:=ht g2;omega
theorem akn (lo:Int):∀ {l:List Rn},Mc l->∀ x∈NT lo l,lo<x.hi
 | [],_,x,hx=>by cases hx
 | b::l,h,x,hx=>by
  unfold NT at hx;rw [sF] at hx;by_cases e:b.hi<=lo
  ·rw [AZ (by simpa using e)] at hx;exact akn lo h.tail x hx
  ·rw [AX (by simpa using e)] at hx;rcases EW.1 hx with rfl | hx
   · omega
   ·have h1:=(JL.1 h.2).1 x hx;have h2:=h.1 x (I7 _ hx);omega
theorem aef:∀ (xs bs:List Rn),Mc xs->Mc bs ->
  Mc (Ob xs bs)/\(∀ r∈Ob xs bs,∃ a∈xs,a.lo<=r.lo)/\∀ n,G7 (Ob xs bs) n↔G7 xs n/\¬ G7 bs n
 | [],bs,_,_=>⟨⟨fun x hx=>(by cases hx),List.Pairwise.nil⟩,fun x hx=>(by cases hx),fun n=>⟨fun g=>absurd g (Y8 n),fun g=>absurd g.1 (Y8 n)⟩⟩
 | r::xs,bs,ha,hb=>by
  obtain ⟨c1,c2,c3⟩:=akm r.hi (NT r.lo bs) r.lo (hb.drop r.lo) (akn r.lo hb);obtain ⟨m1,m2,m3⟩:=aef xs (NT r.lo bs) ha.tail (hb.drop r.lo);unfold Ob;refine ⟨⟨fun x hx=>?_,?_⟩,fun x hx=>?_,fun n=>?_⟩
  ·rcases FX.1 hx with hx | hx
   · exact c1.1 x hx
   · exact m1.1 x hx
  ·rw [Qn];refine ⟨c1.2,m1.2,fun x hx y hy=>?_⟩;obtain ⟨a,ha',hl⟩:=m2 y hy;have:=(JL.1 ha.2).1 a ha'
   have:=(c2 x hx).2
   omega
  ·rcases FX.1 hx with hx | hx
   · exact ⟨r,Eu,(c2 x hx).1⟩
   ·obtain ⟨a,ha',hl⟩:=m2 x hx;exact ⟨a,I7 _ ha',hl⟩
  ·rw [VH,c3,m3,Md];constructor
   ·rintro (⟨g,g2⟩ | ⟨g,g2⟩)
    · exact ⟨.inl g,fun g3=>g2 ((yx r.lo hb g.1).2 g3)⟩
    ·have:=ha.Y9 g
     have:=ha.1 r Eu
     exact ⟨.inr g,fun g3=>g2 ((yx r.lo hb AB).2 g3)⟩
   ·rintro ⟨g | g,g2⟩
    · exact .inl ⟨g,fun g3=>g2 ((yx r.lo hb g.1).1 g3)⟩
    ·have:=ha.Y9 g
     have:=ha.1 r Eu
     exact .inr ⟨g,fun g3=>g2 ((yx r.lo hb AB).1 g3)⟩
def Oc (x:Bx) (v:Pt):Bx:=⟨min x.x0 v.x,min x.y0 v.y,max x.x1 v.x,max x.y1 v.y⟩
def P8 (l:List Pt):Bx:=match l with
 | []=>⟨0,0,-1,-1⟩
 | v::_=>l.foldl Oc ⟨v.x,v.y,v.x,v.y⟩
def Sj (a b:Int):Int:=-((-a) / b)
theorem zA {r H t:Int} (hH:0<H):Sj r H<=t↔r<=t*H:=by
 unfold Sj;have h1:-((-r) / H)<=t↔-t<=(-r) / H:=by omega
 rw [h1,Int.le_ediv_iff_mul_le hH,Oh];omega
theorem auk {x y:Int} (hy:0<y):Sj x y=if x.tmod y≠0/\¬ x.tmod y<0 then x.tdiv y+1 else x.tdiv y:=by
 have e:=Int.mul_tdiv_add_tmod x y;have h1:=Int.tmod_lt_of_pos x hy;have h2:-y<x.tmod y:=by
  have:=Int.tmod_lt_of_pos (-x) hy
  rw [Int.neg_tmod] at this;omega
 generalize x.tdiv y=q at *;generalize x.tmod y=r at *;have key:∀ k,x<=k*y->¬ x<=(k-1)*y->Sj x y=k:=fun k g1 g2=>by
  have:=(zA hy).2 g1
  have:¬ Sj x y<=k-1:=fun g=>g2 ((zA hy).1 g)
  omega
 rw [KP] at e;split
 ·refine key _ ?_ ?_
  · rw [aat];omega
  · rw [show q+1-1=q by omega];omega
 ·refine key _ ?_ ?_
  · omega
  · rw [Int.sub_mul];omega
def H8 (a b:Pt):Pt:=if b.y<a.y then b else a
def Jd (a b:Pt):Pt:=if b.y<a.y then a else b
def XE (y:Int) (a b:Pt):Int:=Sj ((y-(H8 a b).y)*((Jd a b).x-(H8 a b).x)) ((Jd a b).y-(H8 a b).y)
def Ic (y:Int) (q:Pt×Pt):List Int:=if (H8 q.1 q.2).y<=y/\y<(Jd q.1 q.2).y then [(H8 q.1 q.2).x+XE y q.1 q.2] else []
def Q5 (y:Int) (q:Pt×Pt):List Rn :=
 if y<(H8 q.1 q.2).y\/(Jd q.1 q.2).y<y then []
 else if (H8 q.1 q.2).y=(Jd q.1 q.2).y then [⟨min (H8 q.1 q.2).x (Jd q.1 q.2).x,max (H8 q.1 q.2).x (Jd q.1 q.2).x+1⟩]
 else if XE y q.1 q.2*((Jd q.1 q.2).y-(H8 q.1 q.2).y)=(y-(H8 q.1 q.2).y)*((Jd q.1 q.2).x-(H8 q.1 q.2).x) then [⟨(H8 q.1 q.2).x+XE y q.1 q.2,(H8 q.1 q.2).x+XE y q.1 q.2+1⟩]
 else []
def Jr:List Int->List Rn
 | a::b::l=>JJ a b++Jr l
 | _=>[]
def Q7 (ns:List Nd) (y id:Int):List Rn:=match J3 ns id with
 | some n=>if n.pt.y=y then [⟨n.pt.x,n.pt.x+1⟩] else []
 | none=>[]
def l9 (a:Int):List Int->List Int
 | []=>[a]
 | b::l=>if a<=b then a::b::l else b::l9 a l
def fD (l:List Int):List Int:=l.foldr l9 []
theorem aeg (a:Int):∀ l,(l9 a l).Perm (a::l)
 | []=>List.Perm.refl _
 | b::l=>by
  unfold l9;split
  · exact List.Perm.refl _
  · exact ((aeg a l).cons b).trans (List.Perm.swap _ _ _)
theorem ako (a:Int):∀ l,l.Pairwise (·<=·)->(l9 a l).Pairwise (·<=·)
 | [],_=>by unfold l9;simp
 | b::l,h=>by
  have h':=JL.1 h;unfold l9;split
  ·rename_i e;rw [JL];refine ⟨fun y hy=>?_,h⟩;rcases EW.1 hy with rfl | hy
   · exact e
   · have:=h'.1 y hy;omega
  ·rename_i e;rw [JL];refine ⟨fun y hy=>?_,ako a l h'.2⟩;rcases EW.1 ((aeg a l).subset hy) with rfl | hy
   · omega
   · exact h'.1 y hy
theorem aaA:∀ l,(fD l).Perm l/\(fD l).Pairwise (·<=·)
 | []=>⟨List.Perm.refl _,List.Pairwise.nil⟩
 | a::l=>by
  obtain ⟨h1,h2⟩:=aaA l;exact ⟨(aeg a _).trans (h1.cons a),ako a _ h2⟩
theorem aul {l m:List Int} (hp:m.Perm l) (hs:m.Pairwise (·<=·)):m=fD l:=by
 refine ou (lt:=fun a b=>decide (a<b)) (hp.trans (aaA l).1.symm) (hs.imp (fun h=>by simp;omega)) ((aaA l).2.imp (fun h=>by simp;omega)) (fun a _ b _ h1 h2=>?_);simp only [Iy] at h1 h2;omega
theorem aum (l:List Int):Pn l=fD l:=aul (aeK l) (aiu l)
def aun (S:List (Pt×Pt)) (T:List Rn) (y:Int):List Rn:=Ob (Pz (Jr (fD (S.flatMap (Ic y))))) (Pz (S.flatMap (Q5 y)++T))
def Hy (p:Pl) (b:Option (List Int)):List (Pt×Pt):=(GR p b).flatMap (DV p)
def fE (p:Pl) (b:Option (List Int)) (y:Int):List Rn:=(aN p b).flatMap (Q7 p.nodes y)
def VI (p:Pl) (b:Option (List Int)) (y:Int):List Rn:=aun (Hy p b) (fE p b y) y
def aeh (s:Int×Option Int) (x:Rn):Int×Option Int:=if s.1<x.hi-x.lo then (x.hi-x.lo,some ((x.lo+x.hi-1) / 2)) else s
def fQ (l:List Rn):Int×Option Int:=l.foldl aeh (0,none)
def midRow (p:Pl) (b:Option (List Int)) (y0 y1 y:Int):Option Pt:=if y<y0\/y1<y then none else ((fQ (VI p b y)).2).map fun x=>⟨x,y⟩
def midD (p:Pl) (b:Option (List Int)) (y0 y1 m:Int) (d:Nat):Option Pt:=(midRow p b y0 y1 (m+d)).or (midRow p b y0 y1 (m-d))
def aaB (p:Pl) (b:Option (List Int)) (y0 y1:Int):Option Pt:=(List.range (y1-y0+2).toNat).findSome? (midD p b y0 y1 ((y0+y1) / 2))
def lC (p:Pl) (f:Int):Option (List Int):=(BP p).find? fun X=>NR p (some X) == f
def Ky (S:List (Pt×Pt)):List Pt:=S.flatMap fun q=>[q.1,q.2]
def lD (p:Pl) (f:Int):Option Pt:=match lC p f with
 | none=>none
 | some X=>aaB p (some X) (P8 (Ky (DV p X))).y0 (P8 (Ky (DV p X))).y1
section
variable {p:Pl} (h:Valid p)
include h
theorem Valid.aaC {a:Ar} (ha:a∈p.AP) {k:Nat} (hk:k<(AV p a).length):NJ ((AV p a).getD k AY):=by
 rw [Fj,Dh hk];exact h.vO ha (BO hk)
theorem Valid.akp {n:Nd} (hn:n∈p.nodes):NJ n.pt:=by
 have hr:=h.rng;unfold Nb at hr;simp only [Ei,KU] at hr;exact aiE (hr.2 _ (O9 _ (Gh hn)))
end
