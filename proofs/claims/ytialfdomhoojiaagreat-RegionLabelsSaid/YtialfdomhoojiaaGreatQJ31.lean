import Derived.Test.YtialfdomhoojiaaGreatQJ30
set_option linter.unusedSimpArgs false
set_option linter.unusedVariables false
set_option maxRecDepth 100000
set_option maxHeartbeats 8000000
namespace Go.Proofs.YtialfdomhoojiaaGreat
open Go.RowKit
def lI:List Pt:=[⟨10,0⟩,⟨10,10⟩,⟨0,10⟩]
def ZN:Pl:=⟨[⟨1,⟨0,0⟩⟩],[⟨1,1,1,lI,1,0⟩],[1]⟩
def pl0:Pl:=⟨[],[],[]⟩
def exV (gn ga gf:Nat):Value:=.agg #[.slice (some ⟨gn,0,none⟩) 1 1,.slice (some ⟨ga,0,none⟩) 1 1,.slice (some ⟨gf,0,none⟩) 1 1]
def exN:Array Value:=#[.int .i64 1,.int .i64 0,.int .i64 0]
def amI:Array Value:=#[.int .i64 10,.int .i64 0,.int .i64 10,.int .i64 10,.int .i64 0,.int .i64 10]
def ab7 (gv nv cv:Nat) (left:Int):Array Value:=#[.int .i64 1,.int .i64 1,.int .i64 1,.slice (some ⟨gv,0,none⟩) nv cv,.int .i64 left,.int .i64 0]
def avl (w:World) (e:Ending) (w':World):Prop :=
 ∃ gn gv ga gf,e=.returned (exV gn ga gf)/\AU w w'/\(w.heap.size<=gn/\w.heap.size<=gv/\w.heap.size<=ga/\w.heap.size<=gf) /\
  AO w' gn 45 exN/\AO w' gv 39 amI/\AO w' ga 50 (ab7 gv 3 3 1)/\AO w' gf 3 #[.int .i64 1]
theorem Ci.blocks {w:World} {vn va vf:Value} {p:Pl} {al:List (Ar×Value)} (hp:p.AP=al.map (·.1)) (hn:Zz w vn p.nodes) (ha:Sl w va al.length (al.flatMap iy)) (hv:aA w al) (hf:Ints w vf p.faces):Ci w (.agg #[vn,va,vf]) p :=
 ⟨vn,va,vf,al,rfl,hp,hn,⟨ha,hv⟩,hf⟩
theorem Ci.zero (w:World):Ci w (.agg #[.slice none 0 0,.slice none 0 0,.slice none 0 0]) pl0 :=
 Ci.blocks (al:=[]) rfl (Sl.nil w) (Sl.nil w) (fun k hk=>by simp at hk) (Sl.nil w)
theorem avm {w:World} {a:Ar} {u:Value} (h:Dv w u a.via):aA w [(a,u)]:=fun k hk=>by
 have:k=0:=by simpa using hk
 subst this;exact h
theorem Ci.ex {w:World} {vn:Value} {l:List Nd} {a v f n c:Nat} {left:Int} {via:List Pt} (hn:Zz w vn l) (ha:AO w a 50 (ab7 v n c left)) (hv:Dv w (.slice (some ⟨v,0,none⟩) n c) via) (hf:AO w f 3 #[.int .i64 1]) :
  Ci w (.agg #[vn,.slice (some ⟨a,0,none⟩) 1 1,.slice (some ⟨f,0,none⟩) 1 1]) ⟨l,[⟨1,1,1,via,left,0⟩],[1]⟩ :=
 Ci.blocks (al:=[(⟨1,1,1,via,left,0⟩,.slice (some ⟨v,0,none⟩) n c)]) rfl hn (Sl.lit (n:=1) ha rfl (DN AB)) (avm hv) (Sl.lit (n:=1) hf rfl (DN AB))
theorem avn {w:World} {n:Nat} (h:AO w n 45 exN):Zz w (.slice (some ⟨n,0,none⟩) 1 1) [⟨1,⟨0,0⟩⟩]:=Sl.lit (n:=1) h rfl (DN AB)
theorem aev {w:World} {v:Nat} (h:AO w v 39 amI):Dv w (.slice (some ⟨v,0,none⟩) 3 3) lI:=Sl.lit (n:=3) h rfl (DN AB)
theorem Own.amJ {α:Type} {w:World} {g n:Nat} {e:TypeId} {cs:Array Value} {base size:Nat} {f:α->List Value} {l:List α} (h:AO w g e cs) (hb:base<=g) (hn:n=l.length) (hl:(l.flatMap f).length=l.length*size) (hx:cs.toList=l.flatMap f) (hm:n<=maxLen):Own w base e size f (.slice (some ⟨g,0,none⟩) n n) l:=by
 subst hn;unfold Own;have hs:cs.size=l.length*size:=by rw [<- hl,<- hx];simp
 exact ⟨hl,.inr ⟨g,l.length,cs,rfl,hb,h,Dc _,hm,hs,by rw [hx,<- hl];exact I4⟩⟩
def amK (w:World) (p:Pl) (e:Ending) (w':World):Prop:=∃ v q,e=.returned (.tuple #[v,.int .i64 (MG p)])/\AU w w'/\Ci w' v q/\q=(if MG p=0 then H6 p else pl0)
theorem zi.skip {G:Nat->Prop} {w W:World} {B:Nat} {v:Value} {L:List AD} (h:zi w B v L) (hG:∀ g,G g->g<B) (hs:Skip G w W):zi W B v L :=
 ⟨h.own.skip hG hs,fun x hx=>(h.out x hx).skip hG hs,fun x hx=>(h.inn x hx).skip hG hs,fun x hx c hc=>(h.Ja x hx c hc).skip hG hs,fun x hx=>(h.DC x hx).skip hG hs⟩
theorem Skip.grow {G:Nat->Prop} {w0 w W:World} {row:Option Nat} (h:Skip G w0 w) (hg:w.grownBy W row) (hr:∀ k,row=some k->G k\/w0.heap.size<=k):Skip G w0 W :=
 ⟨EH h.1 hg.size,fun k hk hn=>(hg.block k (LW hk h.1) (fun e=>by rcases hr k e.symm with g | g;exact hn g;omega)).trans (h.2 k hk hn)⟩
theorem GH.marked {w w':World} {B:Nat} {vn va vf:Value} {ns:List Nd} {fs:List Int} {F F':Int->Int} {ol:List (Ar×SV)} (h:GH w B vn va vf ⟨ns,(Gu F ol).map (·.1),fs⟩ (Gu F ol)) (ho:Own w' B 50 6 Ju va (Gu F' ol)) (hg:w.grownBy w' va.ownBlock):GH w' B vn va vf ⟨ns,(Gu F' ol).map (·.1),fs⟩ (Gu F' ol) :=
 ⟨Own.grown h.Ov hg (Own.apart h.Ov h.FU Aw),ho,fun y hy=>by
  obtain ⟨x,hx,rfl⟩:=ED.1 hy;have hv:=h.Kw (Nv F x.1,x.2) (Gh (f:=fun x:Ar×SV=>(Nv F x.1,x.2)) hx);exact Own.grown hv hg (Own.apart hv h.FU Aw),rfl,Own.grown h.KC hg (Own.apart h.KC h.FU Aw)⟩
theorem avo (f:Int->Int) (v:Int) (cs:List (List Int)) (c:List Int):GX (GX f v cs) v [c]=GX f v (cs++[c]):=by
 funext d
 unfold GX;simp only [aAN,aAM,List.any_nil,Bool.or_false,KD];by_cases e:decide (d∈c)=true
 · rw [AZ e,AZ (.inr e)]
 ·rw [AX e];by_cases e2:(cs.any fun c=>decide (d∈c))=true
  · rw [AZ e2,AZ (.inl e2)]
  · rw [AX e2,AX (by rintro (g | g);exact e2 g;exact e g)]
theorem avp (v:Value) (p:Pl) (w:World) (h:Ci w v p) (hm:Mod p):Calls Tryz.prog 22 #[v] w (amK w p):=by
 have hn:=hm.nodes;have ha:=hm.AP;have hvl:=hm.Kw;obtain ⟨_,_,_,al,rfl,hpa,hN,⟨⟨Aa,ca,rfl,ha1,ha2,FD⟩,hV⟩,⟨Af,cf,rfl,-⟩⟩:=h;obtain ⟨bl,rfl⟩:=hV.sv;have hres:p.AP=bl.map (·.1):=by rw [hpa,IV];rfl
 have hbl:bl.length<=100000:=by rw [hres,Cj] at ha;exact ha
 rw [Cj] at ha1;rw [acF] at FD;have aBq:=AA (show ∀ k (hk:k<bl.length),Dv w (.slice bl[k].2.a bl[k].2.n bl[k].2.c) bl[k].1.via from fun k hk=>by
  have:=hV k (by simpa using hk)
  simpa [nJ] using this)
 have aBr:=AA (show ∀ k (hk:k<bl.length),bl[k].1.via.length<=100000 from fun k hk=>hvl _ (by rw [hres];exact Gh (BO hk)));have GN:=AA (show Row w Aa (bl.flatMap Ju) from FD);have HN:=AA (show Sl w _ p.nodes.length (p.nodes.flatMap QY) from hN);have GV:=AA (fun u W (hu:Ci W u (Bq p))=>ah8 u (Bq p) W hu);have ZH:=AA (fun u W (hu:Ci W u (Bq p)) (hv:Valid (Bq p))=>atY u (Bq p) W hu hv);obtain ⟨An,cn,rfl,hn1,hn2,-⟩:=hN;have xW:=AA hres;rw [Cj] at *;unfold maxLen at ha2 hn2;clear hV FD hpa hres hvl hm;generalize p.faces.length=nf at *;go_enter Tryz.func22,Tryz.ntmps22;go_upto_region 2 with
  (at_builtin
   refine FK _ rfl (.tmp 11) (.tmp 13) _ rfl (base:=w.heap.size+1+1) acH aAY acI rfl (Own.amJ (l:=[]) (AO.made Ak _ _) (Dc _) rfl rfl rfl (DN AB)) rfl (l2:=p.nodes) (Sl.mono HN.out (bA (bA (bA (bR w) _) _) _)) VT VT Ak ?_;intro v5 w5 Di hg5 Gi;replace Di:Own w5 (w.heap.size+1+1) 45 3 QY v5 p.nodes:=Di;obtain ⟨Gs,Gt,rfl,-⟩:=Own.sl Di;have jk:=AA (show AO w5 w.heap.size 26 #[.slice An p.nodes.length cn,.slice Aa bl.length ca,.slice Af nf cf] from AO.grown (AO.alloc (AO.alloc (AO.made rfl _ _) _) _) hg5 (fun e=>by have h0:w.heap.size=w.heap.size+1+1:=Dq e;omega));have kX:=AA (show AO w5 (w.heap.size+1) 26 #[.slice none 0 0,.slice none 0 0,.slice none 0 0] from AO.grown (AO.alloc (AO.made Ak _ _) _) hg5 (fun e=>by have h0:w.heap.size+1=w.heap.size+1+1:=Dq e;omega));have Cm:=AA (show AU w w5 from bG (bA (bA (bA (bR w) _) _) _) hg5 (fun g hk=>by have h0:w.heap.size+1+1=g:=Dq hk;omega));have Fh:=AA (Di.ES (b':=w.heap.size) AB);clear Di hg5 Gi)
 obtain ⟨g2,hg2⟩:∃ g,w.heap.size+1=g:=⟨_,rfl⟩;obtain ⟨g4,hg4⟩:∃ g,w5.heap.size=g:=⟨_,rfl⟩;obtain ⟨W6,hW⟩:∃ W:World,W=w5.alloc (.cells #[.slice Gs p.nodes.length Gt,.slice none 0 0,.slice none 0 0] 26):=⟨_,rfl⟩;have zH:AU w5 W6:=by rw [hW];exact bA (bR w5) _
 have amL:=AA (show AO W6 g4 26 #[.slice Gs p.nodes.length Gt,.slice none 0 0,.slice none 0 0] by rw [hW,<- hg4];exact AO.made rfl _ _);have amM:=AA (jk.out.keep zH);have amN:=AA (show AO W6 g2 26 #[.slice none 0 0,.slice none 0 0,.slice none 0 0] by rw [<- hg2];exact kX.out.keep zH);have GU:=AA (bT Cm.out zH);have yY:=AA (show GH W6 w.heap.size (.slice Gs p.nodes.length Gt) (.slice none 0 0) (.slice none 0 0) ⟨p.nodes,[],[]⟩ [] from ⟨Fh.out.keep zH,Own.nil _ _ _ _ _,(fun x hx=>by cases hx),rfl,Own.nil _ _ _ _ _⟩);have alK:g2<g4:=by rw [<- hg4,<- hg2];exact kX.out.lt
 have hgw:w.heap.size<g2:=by omega
 rw [<- hW]
 try rw [hg4]
 try rw [hg2]
 clear hW hg2 hg4 zH jk kX Cm Fh;go_wp2_with fail;go_loopw [5] (fun u wr=>∃ (k:Nat) (ol:List (Ar×SV)) (A:Option Addr) (c:Nat),k<=bl.length/\u=.int .i64 k/\ol.length=k/\GH wr w.heap.size (.slice Gs p.nodes.length Gt) (.slice A k c) (.slice none 0 0) ⟨p.nodes,(bl.take k).map (fun x=>Nr x.1),[]⟩ ol/\AO wr g4 26 #[.slice Gs p.nodes.length Gt,.slice A k c,.slice none 0 0]/\AO wr g2 26 #[.slice none 0 0,.slice none 0 0,.slice none 0 0]/\AO wr w.heap.size 26 #[.slice An p.nodes.length cn,.slice Aa bl.length ca,.slice Af nf cf]/\AU w wr) (fun u _=>bl.length-(intOf u).toNat)
 case atStart => exact ⟨0,[],none,0,Bv _,rfl,rfl,yY.out,amL.out,amN.out,amM.out,GU.out⟩
 case round =>
  clear yY amL amN amM GU;obtain ⟨k,ol,A,c,hk,rfl,hol,hpo,X4,X2,X1,hb⟩:=hrel;obtain ⟨wo,rfl⟩:=BR wr;have HP:=AA hpo;have D8:=AA X4;have CG:=AA X2;have Dt:=AA X1;have HB:=AA hb;have WA:=AA hol;have hl4:=X4.lt;have hl2:=X2.lt;have hwo:=hb.size;clear hpo hb X2 X4;by_cases hlt:k<bl.length
  ·obtain ⟨b,o,TR,hlb,c0,c1,c2,c3,c4,c5⟩:=(Row.mono GN.out HB.out).aBp hlt;subst TR;have hv:=aBq.out k hlt;have hvl:=aBr.out k hlt;have htk:bl.take (k+1)=bl.take k++[bl[k]]:=F7 hlt;generalize bl[k]=x at *;obtain ⟨⟨id,fr,dst,via,lf,rt⟩,⟨va,vn,vc⟩⟩:=x;simp only at c0 c1 c2 c3 c4 c5 hv hvl htk;have Rh:=AA hv;obtain ⟨Av,cv,hev,-,-,-⟩:=hv;injection hev with y1 y2 y3;subst y1 y2 y3;have FI:=AA htk;clear htk;have yt:(k:Int)<bl.length:=by omega
   have yu:0<=(k:Int):=by omega
   obtain ⟨BF,BG,BH,BI,-,-,-⟩:=X1.Az;go_upto_region 6 with fail;obtain ⟨g6,Ir⟩:∃ g,wo.heap.size=g:=⟨_,rfl⟩;obtain ⟨W2,hW⟩:∃ W:World,W=wo.alloc (.cells #[.int .i64 id,.int .i64 fr,.int .i64 dst,.slice va via.length vc,.int .i64 lf,.int .i64 rt] 50):=⟨_,rfl⟩;have hA:AU wo W2:=by rw [hW];exact bA (bR wo) _
   have X6:AO W2 g6 50 #[.int .i64 id,.int .i64 fr,.int .i64 dst,.slice va via.length vc,.int .i64 lf,.int .i64 rt]:=by rw [hW];exact AO.made Ir.symm _ _
   have HA:=AA hA;have HB2:=AA (bT HB.out hA);have IX:=AA X6;have HZ2:=AA (show W2.heap.size=g6+1 by rw [hW,<- Ir];simp);rw [<- hW]
   try rw [Ir]
   clear hW hA c0 c1 c2 c3 c4 c5 hlb X1 BF BG BH BI;obtain ⟨EK,EL,EM,ML,QM,dN,dO,-,-,-,-,-,-⟩:=X6.IW;go_upto_region 7 with
    (at_builtin
     refine FK _ rfl (.tmp 28) (.tmp 30) _ rfl (base:=W2.heap.size) L6 KJ L8 rfl (Own.lit _ _ _ _ Ee [] _ 0 _ Ak rfl Ak (DN AB) rfl rfl) rfl (l2:=via) (Rh.out.mono (bA HB2.out _)) VT VT Ak ?_;intro v8 w8 Qa Lr kK;replace Qa:Own w8 W2.heap.size 39 2 Ee v8 via:=Qa;obtain ⟨A8,c8,rfl,-⟩:=Own.sl Qa;have hb8:AU W2 w8:=bG (bA (bR _) _) Lr (fun g hk=>by have:W2.heap.size=g:=Dq hk;omega);have X68:=IX.out.keep hb8;have amO:=AA X68;have Hb8:=AA hb8;have OT:=AA Qa;clear Qa Lr kK hb8 X6 EK EL EM ML QM dN dO;obtain ⟨avG,avH,avI,avJ,avK,avL,avM,avN,avO,avP,awr,awt,awu⟩:=X68.IW
     )
   go_upto_region 8 with fail;obtain ⟨W7,hW⟩:∃ W:World,W=((w8.setCell ⟨g6,3,none⟩ (.slice A8 via.length c8)).setCell ⟨g6,4,none⟩ (.int .i64 0)).setCell ⟨g6,5,none⟩ (.int .i64 0):=⟨_,rfl⟩;have X67:AO W7 g6 50 #[.int .i64 id,.int .i64 fr,.int .i64 dst,.slice A8 via.length c8,.int .i64 0,.int .i64 0]:=by
    rw [hW];have h:=((amO.out.EI 3 (.slice A8 via.length c8)).EI 4 (.int .i64 0)).EI 5 (.int .i64 0);simpa using h
   have ne8:(Value.slice A8 via.length c8).ownBlock≠some g6:=fun e=>by have:=(OT.out.lt _ e).1;have:=HZ2.out;omega
   have fF:=AA (show Own W7 W2.heap.size 39 2 Ee (.slice A8 via.length c8) via by rw [hW];exact ((OT.out.far (p:=⟨g6,3,none⟩) ne8 _).far (p:=⟨g6,4,none⟩) ne8 _).far (p:=⟨g6,5,none⟩) ne8 _);have WY:AU wo W7:=by
    rw [hW];exact bS (p:=⟨g6,5,none⟩) (bS (p:=⟨g6,4,none⟩) (bS (p:=⟨g6,3,none⟩) (bT HA.out Hb8.out) (by show wo.heap.size<=g6;omega) _) (by show wo.heap.size<=g6;omega) _) (by show wo.heap.size<=g6;omega) _
   have VE:=AA (HP.out.keep WY);have aew:=AA (D8.out.keep WY);have amP:=AA (CG.out.keep WY);have alY:=AA (Dt.out.keep WY);have MW:=AA (bT HB.out WY);have hw2:w.heap.size<=W2.heap.size:=HB2.out.size;have hz7:w.heap.size<=W7.heap.size:=MW.out.size;rw [<- hW];clear hW WY ne8 OT Hb8 amO IX HA HB2 HP D8 CG Dt HB X68 avG avH avI avJ avK avL avM avN avO avP awr awt awu Ir HZ2;have X47:=aew.out;have DW:=AA (fun (y:Ar×SV)=>show (ol++[y]).length=k+1 from by rw [ER,WA.out];rfl);have atJ:ol.length<=100000:=by omega
   have n4:=Own.Dz VE.out.FU aew.out Aw;have n2:=Own.Dz VE.out.FU amP.out Aw;have n1:=Own.Dz VE.out.FU alY.out Aw;have aex:g2≠g4:=by omega
   have awv:w.heap.size≠g4:=by omega
   obtain ⟨aww,awx,awy,awz,ax0,ax1,ax2,-,-,-,-,-,-⟩:=X67.IW;obtain ⟨ax3,ax4,ax5,ax6,-,-,-⟩:=X47.Az;go_upto_region 4 with
    (at_builtin
     refine FK _ rfl (.tmp 36) (.tmp 38) _ rfl (base:=w.heap.size) aAX bg aBH rfl (Own.alloc VE.out.FU _) rfl (l2:=[((⟨id,fr,dst,via,0,0⟩:Ar),(⟨A8,via.length,c8⟩:SV))]) (Sl.lit (n:=1) (AO.made rfl _ _) rfl (DN AB)) DZ DZ DT ?_;intro v10 w10 XD MI jv;obtain ⟨Jc,c10,fC,-⟩:=Own.Ig XD;rw [DW.out] at fC;subst fC;have VF:=AO.grown (aew.out.alloc _) MI (fun e=>n4 e.symm);have hmr:=GH.more (VE.out.keep (bA (bR _) _)) XD MI (Own.alloc (fF.out.ES hw2) _);have Tm:=AA (hmr.far VF Aw Aw Aw Aw 1 (.slice Jc (k+1) c10));have Xb:=AA (VF.EI 1 (.slice Jc (k+1) c10));have pY:=AA ((AO.grown (amP.out.alloc _) MI (fun e=>n2 e.symm)).far (p:=⟨g4,1,none⟩) aex (.slice Jc (k+1) c10));have ax7:=AA ((AO.grown (alY.out.alloc _) MI (fun e=>n1 e.symm)).far (p:=⟨g4,1,none⟩) awv (.slice Jc (k+1) c10));have LU:=AA (bS (p:=⟨g4,1,none⟩) (bG (bA MW.out _) MI (fun q hq=>(VE.out.FU.lt q hq).1)) (by show w.heap.size<=g4;omega) (.slice Jc (k+1) c10));clear hmr XD MI jv X47 ax3 ax4 ax5 ax6 X67 aww awx awy awz ax0 ax1 ax2;obtain ⟨aey,aez,af0,aeS,aeT,aeU,aeV⟩:=VF.Az
     )
   go_wp2;go_roundw
   case rel => exact ⟨k+1,_,Jc,c10,AB,BJ,DW.out _,by rw [show (bl.take (k+1)).map (fun x=>Nr x.1)=(bl.take k).map (fun x=>Nr x.1)++[(⟨id,fr,dst,via,0,0⟩:Ar)] by rw [FI.out,GI];rfl];exact Tm.out,by simpa using Xb.out,pY.out,ax7.out,LU.out⟩
   case measure => exact BL
  ·obtain rfl:k=bl.length:=by omega
   have hpe:(⟨p.nodes,(bl.take bl.length).map (fun x=>Nr x.1),[]⟩:Pl)=Bq p:=by
    unfold Bq;rw [I4,xW.out,IV];rfl
   have hpo:=HP.out;rw [hpe] at hpo;obtain ⟨q,hq⟩:=BN (Bq p);rw [hq] at hpo GV ZH;have HQ:=AA hq;have HP:=AA hpo;have pU:p.nodes=q.nodes:=by rw [<- hq];rfl
   have aA3:q.faces=[]:=by rw [<- hq];rfl
   have hqa:q.AP.length=bl.length:=by rw [<- hq];unfold Bq;rw [Cj,xW.out,Cj]
   have ZG:=AA pU;have HQf:=AA aA3;have HQa:=AA hqa;have X4:=D8.out;have hpv:=HP.out.dV;have zI:=AA hpv;clear hpe hpo hq pU aA3 hqa hpv GN aBq aBr HN;obtain ⟨BZ,Bl,CQ,EU,-,-,-⟩:=X4.Az
   try clear BF BG BH BI
   obtain ⟨BF,BG,BH,BI,-,-,-⟩:=X1.Az;go_upto_region 9 with fail;go_wp2_with fail;refine (GV.out _ _ zI.out).mono ?_;rintro e w3 ⟨rfl,hb3⟩;have HB3:=AA (bT HB.out hb3);have UM:=AA (HP.out.keep hb3);have qM:=AA (D8.out.keep hb3);have qN:=AA (CG.out.keep hb3);clear hb3 X4 BZ Bl CQ EU X1 BF BG BH BI HB HP zI D8 CG Dt;by_cases hz:IG q=0
   case neg =>
    have HL:=AA (show MG p=IG q by unfold MG;rw [HQ.out,AZ hz]);generalize IG q=z at *;have hzb:(z != 0)=true:=by simpa using hz
    have HZn:=AA hz;clear hz;have X2:=qN.out;obtain ⟨BU,BX,Bg,CB,Qp,V5,WI⟩:=X2.Az;go_wp2_with fail;exact L9 (g:=g2) (cs:=#[.slice none 0 0,.slice none 0 0,.slice none 0 0]) rfl aC rfl rfl (AO.VY qN.out) ⟨_,pl0,by rw [HL.out];rfl,bS (p:=⟨g2,2,none⟩) (bS (p:=⟨g2,1,none⟩) (bS (p:=⟨g2,0,none⟩) HB3.out Zt _) Zt _) Zt _,Ci.zero _,by rw [HL.out,AX HZn.out]⟩
   have HV:=AA ((Yi _).1 hz);have HLz:=AA (show MG p=if 64<(BP q).length then 3 else 0 by unfold MG;rw [HQ.out,AX (by simpa using hz)]);have HZc:=AA hz;rw [hz];clear hz;have X4:=qM.out
   try clear BZ Bl CQ EU
   obtain ⟨BZ,Bl,CQ,EU,-,-,-⟩:=X4.Az;go_upto_region 12 with fail;go_wp2_with fail;refine (ZH.out _ _ UM.out.dV HV.out).mono ?_;rintro e w4 ⟨AL,cL,L,rfl,hb4,haw,hdv,-⟩;have HB4:=AA (bT HB3.out hb4);have iZ:=AA (UM.out.keep hb4);have yX:=AA (qM.out.keep hb4);have kW:=AA (qN.out.keep hb4);obtain ⟨O,hO⟩:=BN (sortK (BP q));rw [hO] at hdv;have hOp:O.Perm (BP q):=by rw [<- hO];exact (Ze (BP q)).1
   have Xz:O.length=(BP q).length:=hOp.length_eq;have hll:L.length=O.length+1:=hdv.len;have azs:O.length<=512:=by rw [Xz];exact EH (OA _ _) HV.out.U5
   have HO:=AA hO;have HOp:=AA hOp;have Nk:=AA Xz;have JQ:=AA hll;have HA:=AA haw;have HD:=AA hdv;have hBD:=hb4.size;obtain ⟨BD,hbd⟩:∃ B,w3.heap.size=B:=⟨_,rfl⟩;rw [hbd] at haw hBD;have qO:=AA haw;have ax8:g4<BD:=by rw [<- hbd];exact qM.out.lt
   have ax9:=AA (show ∀ k,(Value.slice A bl.length c).ownBlock=some k->k<BD from fun k hk=>by rw [<- hbd];exact (UM.out.FU.lt k hk).2);have zJ:IntKind.i64.wrap ((L.length:Int)-1)=(L.length:Int)-1:=D6 _ AB;clear hO hOp Xz hb4 haw hdv ZH GV HA X4 BZ Bl CQ EU HB3 UM qM qN hbd;by_cases h64:64<O.length
   ·have HL:=AA (show MG p=3 by rw [HLz.out,AZ (by rw [<- Nk.out];exact h64)]);have k64:(64:Int)<(L.length:Int)-1:=by omega
    have X2:=kW.out;clear h64
    try clear BU BX Bg CB
    try clear Qp V5 WI
    obtain ⟨BU,BX,Bg,CB,Qp,V5,WI⟩:=X2.Az;go_wp2_with fail;exact L9 (g:=g2) (cs:=#[.slice none 0 0,.slice none 0 0,.slice none 0 0]) rfl aC rfl rfl (AO.VY kW.out) ⟨_,pl0,by rw [HL.out];rfl,bS (p:=⟨g2,2,none⟩) (bS (p:=⟨g2,1,none⟩) (bS (p:=⟨g2,0,none⟩) HB4.out Zt _) Zt _) Zt _,Ci.zero _,by rw [HL.out,AX Aw]⟩
   have HL:=AA (show MG p=0 by rw [HLz.out,AX (by rw [<- Nk.out];exact h64)]);have k64:¬ (64:Int)<(L.length:Int)-1:=by omega
   have azt:O.length<=64:=by omega
   clear h64;obtain ⟨gL,hgA,atZ,-,-,-⟩:=Own.P5 qO.out.own AB;subst hgA;have zu:=AA (fun i (hi:i<L.length)=>show (MB L[i]).map (·.1)=J7 q O i from by
    have hdv:=HD.out;unfold MB J7 GR Vu;rw [FM,hdv.inn i hi];congr 1;by_cases e:i=0
    · subst e;exact hdv.akG hi
    ·show L[i].out=_
     rw [hdv.kU hi AB,Tn AB AB];rfl)
   have h0:Gu (Ij q O 0) ol=ol:=by
    unfold Gu;refine (aAD (fun x hx=>?_)).trans (List.map_id ol);have hx1:x.1∈q.AP:=by rw [<- iZ.out.eq];exact Gh hx
    rw [<- HQ.out] at hx1;obtain ⟨a,-,e⟩:=ED.1 hx1;obtain ⟨x1,x2⟩:=x;simp only at e;subst e;rfl
   have ZK:=AA (show GH w4 w.heap.size (.slice Gs p.nodes.length Gt) (.slice A bl.length c) (.slice none 0 0) ⟨q.nodes,(Gu (Ij q O 0) ol).map (·.1),Nu 0⟩ (Gu (Ij q O 0) ol) from by
    rw [h0,iZ.out.eq,show Nu 0=q.faces by rw [HQf.out];rfl];exact iZ.out)
   have HEq:=AA iZ.out.eq;have kF:=AA (fun i c (hc:c∈J7 q O i) d (hd:d∈c)=>HV.out.Qh (HV.out.adi (fun X hX=>HOp.out.subset hX) hc hd));have HNp:=AA (fun i (hi:i<O.length)=>show 0<ol.length from by
    have hX:O[i]∈BP q:=HOp.out.subset (BO hi);have hc:=(Ku.1 hX).1;obtain ⟨d,hd⟩:=List.exists_mem_of_length_pos (iD.2 (HV.out.Xc hc));obtain ⟨a,ha,-⟩:=Iq.1 ((HV.out.Gq hc).2 d hd);rw [<- HEq.out] at ha;obtain ⟨x,hx,-⟩:=ED.1 ha;exact abS hx)
   have OW:=AA (fun i c (hc:c∈J7 q O i)=>show c.length<=512 from by
    have hc2:c=[]\/c∈Ce q:=by
     unfold J7 GR at hc;rcases EW.1 hc with e | hc
     ·rw [e];unfold KO;split
      · exact .inl rfl
      · cases e9:O[i-1]? with
       | none=>exact .inl rfl
       | some Y=>exact .inr (Ku.1 (HOp.out.subset (abX e9))).1
     · exact .inr (Vt.1 (QE.1 hc).1).1
    rcases hc2 with e | hc
    · rw [e];simp
    · exact EH (Wq (HV.out.Gq hc).1 (HV.out.Gq hc).2) HV.out.wM)
   clear h0;go_upto_block 2 with fail;go_wp2_with fail;go_loopw [9] (fun u wr=>∃ (i:Nat) (Ag:Option Addr) (cg:Nat),i<=O.length/\u=.int .i64 ((i:Int)+1)/\GH wr w.heap.size (.slice Gs p.nodes.length Gt) (.slice A bl.length c) (.slice Ag i cg) ⟨q.nodes,(Gu (Ij q O i) ol).map (·.1),Nu i⟩ (Gu (Ij q O i) ol)/\AO wr g4 26 #[.slice Gs p.nodes.length Gt,.slice A bl.length c,.slice Ag i cg]/\AO wr g2 26 #[.slice none 0 0,.slice none 0 0,.slice none 0 0]/\AU w wr/\Skip (· < BD) w4 wr/\(∀ k,(Value.slice Ag i cg).ownBlock=some k->w4.heap.size<=k)) (fun u _=>O.length+1-(intOf u).toNat)
   case atStart => exact ⟨0,none,0,Bv _,rfl,ZK.out,yX.out,kW.out,HB4.out,Skip.refl,fun k hk=>by cases hk⟩
   case round =>
    clear ZK yX kW HB4 iZ;obtain ⟨i,Ag,cg,hi,rfl,hpo,X4,X2,hb,hsk,hfg⟩:=hrel;obtain ⟨wi,rfl⟩:=BR wr;have HP:=AA hpo;have D8:=AA X4;have CG:=AA X2;have HB:=AA hb;have WL:=AA hsk;have pV:=AA hfg;have dh:=hsk.1;have hzw:=hb.size;clear hpo X2 hb hsk hfg;by_cases hlt:i<O.length
    ·have hi1:i+1<L.length:=by have:=JQ.out;omega
     have hcy:=zu.out (i+1) hi1;have hnp:=HNp.out i hlt;have hfl:=afD i;have eP:=AA (al9 i);have DW:=AA (show (Nu i++[(i:Int)+1]).length=i+1 by rw [ER,hfl];rfl);have aBu:(Nu i).length<=64:=by omega
     have azu:=X4.lt;have n4:=Own.Dz HP.out.KC D8.out Aw;have n2:=Own.Dz HP.out.KC CG.out Aw;have aex:g2≠g4:=by omega
     have k1:(i:Int)+1<(L.length:Int):=by omega
     have k2:0<=(i:Int)+1:=by omega
     have MX:=AA hcy;clear hcy hfl
     try clear BZ Bl CQ EU
     obtain ⟨BZ,Bl,CQ,EU,-,-,-⟩:=X4.Az;go_upto_region 19 with
      (at_builtin
       refine FK _ rfl (.tmp 61) (.tmp 63) _ rfl (base:=w.heap.size) JW Iz JR rfl (Own.alloc HP.out.KC _) rfl (l2:=[(i:Int)+1]) (Sl.lit (n:=1) (AO.made rfl _ _) rfl (DN AB)) DZ DZ DT ?_;intro v10 w10 XD MI jv;obtain ⟨Jc,c10,fC,-⟩:=Own.Ig XD;rw [DW.out] at fC;subst fC;have VF:=AO.grown (D8.out.alloc _) MI (fun e=>n4 e.symm);have yj:=(HP.out.keep (bA (bR wi) _)).face XD MI;have Py:=AA (yj.far VF Aw Aw Aw Aw 2 (.slice Jc (i+1) c10));have Nc:=AA (VF.EI 2 (.slice Jc (i+1) c10));have ab8:=AA ((AO.grown (CG.out.alloc _) MI (fun e=>n2 e.symm)).far (p:=⟨g4,2,none⟩) aex (.slice Jc (i+1) c10));have ZP:=AA (bS (p:=⟨g4,2,none⟩) (bG (bA HB.out _) MI (fun q hq=>(HP.out.KC.lt q hq).1)) (by show w.heap.size<=g4;omega) (.slice Jc (i+1) c10));have zK:=AA (((WL.out.trans (Skip.of (bA (bR wi) _))).grow MI (fun k hk=>.inr (pV.out k hk))).EI (p:=⟨g4,2,none⟩) ax8 (.slice Jc (i+1) c10));have afO:=AA (show ∀ k,(Value.slice Jc (i+1) c10).ownBlock=some k->w4.heap.size<=k from jo jv pV.out DT);clear XD jv MI yj X4 BZ Bl CQ EU
       try clear aey aez af0 aeS
       try clear aeT aeU aeV
       obtain ⟨aey,aez,af0,aeS,aeT,aeU,aeV⟩:=VF.Az
       )
     obtain ⟨VL,hW⟩:∃ W:World,W=w10.setCell ⟨g4,2,none⟩ (.slice Jc (i+1) c10):=⟨_,rfl⟩;rw [<- hW] at Py Nc ab8 ZP zK ⊢;have U2:=AA (show AO VL g4 26 #[.slice Gs p.nodes.length Gt,.slice A bl.length c,.slice Jc (i+1) c10] by simpa using Nc.out);obtain ⟨row,hrow⟩:∃ r,(Value.slice A bl.length c).ownBlock=r:=⟨_,rfl⟩;have iI:=AA hrow;have n4:¬ some g4=row:=fun e=>Own.Dz Py.out.FU U2.out Aw (hrow.trans e.symm);have n2:¬ some g2=row:=fun e=>Own.Dz Py.out.FU ab8.out Aw (hrow.trans e.symm);have hrB:∀ k,row=some k->k<BD:=by rw [<- hrow];exact ax9.out
     have nL:¬ some gL=row:=fun e=>by have:=hrB gL e.symm;omega
     have HRw:=AA (show ∀ k,row=some k->w.heap.size<=k by rw [<- hrow];exact fun k hk=>(Py.out.FU.lt k hk).1);have eU:=AA (fun W (hs:Skip (· < BD) w4 W)=>show gL<W.heap.size/\W.cell? ⟨gL,(i+1)*4+1,none⟩=some (BK L[i+1].ov)/\W.cell? ⟨gL,(i+1)*4+2,none⟩=some (BK L[i+1].iv)/\Ints W (BK L[i+1].ov) L[i+1].out/\Sl W (BK L[i+1].iv) L[i+1].inn.length (L[i+1].inn.flatMap Ia)/\(∀ c∈L[i+1].inn,Ints W (BK c.2) c.1)/\∀ k,(BK L[i+1].iv).ownBlock=some k->BD<=k from by
      have h:=qO.out.skip (fun g h=>h) hs;obtain ⟨g',Gn,-,hgl,-,hce⟩:=Own.P5 h.own AB;injection Gn with Gn;injection Gn with Gn _ _;subst Gn;obtain ⟨-,e1,e2,-⟩:=hce (i+1) hi1;have hm:L[i+1]∈L:=BO hi1;exact ⟨hgl,e1,e2,(h.out _ hm).sl,(h.inn _ hm).sl,fun c hc=>(h.Ja _ hm c hc).sl,fun k hk=>((h.inn _ hm).lt k hk).1⟩)
     have SQ:=AA (fun F' c' (hc:c'∈J7 q O (i+1)) W vx (ho:Own W w.heap.size 50 6 Ju (.slice A bl.length c) (Gu F' ol)) (hX:∀ W',W.grownBy W' row->Ints W' vx c')=>show Calls Tryz.prog 67 #[.slice A bl.length c,vx,.int .i64 ((i:Int)+1)] W fun e w'=>e=.returned (.tuple #[])/\Own w' w.heap.size 50 6 Ju (.slice A bl.length c) (Gu (GX F' ((i:Int)+1) [c']) ol)/\W.grownBy w' row from by
      have h:=aug A c w.heap.size vx c' ((i:Int)+1) F' ol W (by rw [hol];exact ho) (by rw [hol,iI.out];exact hX) (fun d hd=>kF.out (i+1) c' hc d hd) (EH (OW.out (i+1) c' hc) AB) AB;rw [hol,iI.out] at h;exact h)
     have fZ:=AA hrB;clear hW hrow Nc VF aey aez af0 aeS aeT aeU aeV D8 CG HP HB WL pV hrB;generalize L[i+1]=x at *;obtain ⟨tw,X,⟨oa,on,oc⟩,In,⟨ia,II,ic⟩,DC,⟨aa,an,ac⟩⟩:=x;have hcy:=MX.out;unfold MB at hcy;simp only [FM] at hcy;unfold BK at eU;simp only at eU;have HCx:=AA hcy;obtain ⟨hgl,e1,e2,hxo,hxi,-⟩:=eU.out VL zK.out;have Jz:=AA (SQ.out (Ij q O i) X (by rw [<- hcy];exact Eu) VL.drew (.slice oa on oc) (Py.out.FU.keep (bD (bR VL))) (fun W' hg=>(eU.out W' ((zK.out.trans (Skip.of (bD (bR VL)))).grow hg (fun k hk=>.inl (fZ.out k hk)))).2.2.2.1));have X4:=U2.out;clear hcy hxo hxi MX
     try clear BZ Bl CQ EU
     obtain ⟨BZ,Bl,CQ,EU,-,-,-⟩:=X4.Az;refine UY (VL) (row) (.run 8 0 0 (.call 8 511 (.done))) fun CU QR Ae Ah hS=>?_
     iterate 8 refine Aj ?_
     refine Bj ?_;clear hS;intro K hK AQ;go_simp;refine Jz.out.mono ?_;rintro e CX ⟨rfl,ho1,hg1⟩;have hS:JU VL row CX:=gT AQ.out hg1;have Hg:=AA ho1;clear ho1 hg1;clear AQ;refine hK.out _ _ hS (fun _=>?_);clear hK K
     try simp only [pu]
     refine Qq ?_;clear hS Ah Ae;intro hB;have hgr:VL.grownBy CX (Value.slice A bl.length c).ownBlock:=by rw [iI.out];exact hB
     have zL:=AA (Py.out.marked Hg.out hgr);have ZL:=AA (AO.grown U2.out hB n4);have alZ:=AA (AO.grown ab8.out hB n2);have lJ:=AA (bG ZP.out hB HRw.out);have ala:=AA (zK.out.grow hB (fun k hk=>.inl (fZ.out k hk)));clear hgr hB Jz Hg Py U2 ab8 ZP zK X4 BZ Bl CQ EU hgl e1 e2;go_upto_block 4 with fail;go_wp2_with fail;go_loopw [10] (fun u wr=>∃ j:Nat,j<=In.length/\u=.int .i64 j/\GH wr w.heap.size (.slice Gs p.nodes.length Gt) (.slice A bl.length c) (.slice Jc (i+1) c10) ⟨q.nodes,(Gu (GX (Ij q O i) ((i:Int)+1) (X::(In.take j).map (·.1))) ol).map (·.1),Nu i++[(i:Int)+1]⟩ (Gu (GX (Ij q O i) ((i:Int)+1) (X::(In.take j).map (·.1))) ol)/\AO wr g4 26 #[.slice Gs p.nodes.length Gt,.slice A bl.length c,.slice Jc (i+1) c10]/\AO wr g2 26 #[.slice none 0 0,.slice none 0 0,.slice none 0 0]/\AU w wr/\Skip (· < BD) w4 wr) (fun u _=>In.length-(intOf u).toNat)
     case atStart => exact ⟨0,Bv _,rfl,zL.out,ZL.out,alZ.out,lJ.out,ala.out⟩
     case round =>
      clear zL ZL alZ lJ ala;obtain ⟨j,hj,rfl,hpo,X4,X2,hb,hsk⟩:=hrel;obtain ⟨wj,rfl⟩:=BR wr;have HP:=AA hpo;have D8:=AA X4;have CG:=AA X2;have HB:=AA hb;have WL:=AA hsk;obtain ⟨hgl,-,e2,-,hxi,hxc,hxb⟩:=eU.out wj hsk;obtain ⟨Ai,ci,he,hi9,axA,hRi⟩:=hxi;unfold maxLen at axA;injection he with y1 y2 y3;subst y1 y2 y3;clear hpo X2 hb hsk;by_cases hjl:j<In.length
      ·obtain ⟨bi,oi,hAi,hli,c0⟩:=(show Row wj ia (In.flatMap Ia) from hRi).cy hjl;subst hAi;have htk:(In.take (j+1)).map (·.1)=(In.take j).map (·.1)++[In[j].1]:=by rw [F7 hjl,GI];rfl
       have hbm:BD<=bi:=hxb bi rfl;have hcm:In[j].1∈J7 q O (i+1):=by rw [<- HCx.out];exact I7 _ (Gh (BO hjl))
       have hci:=fun W hs=>(eU.out W hs).2.2.2.2.2.1 In[j] (BO hjl);have Jz:=AA (SQ.out (GX (Ij q O i) ((i:Int)+1) (X::(In.take j).map (·.1))) In[j].1 hcm wj.drew (BK In[j].2) (HP.out.FU.keep (bD (bR wj))) (fun W' hg=>hci W' ((WL.out.trans (Skip.of (bD (bR wj)))).grow hg (fun k hk=>.inl (fZ.out k hk)))));have FI:=AA htk;clear htk hcm hci;generalize In[j]=y at *;obtain ⟨C,xa,xn,xc⟩:=y;unfold BK at Jz;simp only at c0 Jz;have nb:¬ some bi=row:=fun e=>by have:=fZ.out bi e.symm;omega
       have j1:(j:Int)<In.length:=by omega
       have j2:0<=(j:Int):=by omega
       try clear BZ Bl CQ EU
       obtain ⟨BZ,Bl,CQ,EU,-,-,-⟩:=X4.Az;go_upto_region 23 with fail;refine UY (wj) (row) (.run 11 0 0 (.call 11 4095 (.done))) fun CU QR Ae Ah hS=>?_
       iterate 11 refine Aj ?_
       refine Bj ?_;clear hS;intro K hK AQ;go_simp;refine Jz.out.mono ?_;rintro e CX ⟨rfl,ho1,hg1⟩;have hS:JU wj row CX:=gT AQ.out hg1;have Hg:=AA ho1;clear ho1 hg1;clear AQ;refine hK.out _ _ hS (fun _=>?_);clear hK K
       try simp only [pu]
       refine Qq ?_;clear hS Ah Ae;intro hB;have hgr:wj.grownBy CX (Value.slice A bl.length c).ownBlock:=by rw [iI.out];exact hB
       have hap:=avo (Ij q O i) ((i:Int)+1) (X::(In.take j).map (·.1)) C;have alb:=AA (HP.out.marked Hg.out hgr);rw [hap,aau,<- FI.out] at alb;have jh:=AA (AO.grown D8.out hB n4);have axB:=AA (AO.grown CG.out hB n2);have aeW:=AA (bG HB.out hB HRw.out);have axC:=AA (WL.out.grow hB (fun k hk=>.inl (fZ.out k hk)));clear hgr hap hB Jz Hg HP D8 CG HB WL X4 BZ Bl CQ EU hgl e2 c0 hli;go_wp2;go_roundw
       case rel => exact ⟨j+1,AB,BJ,alb.out,jh.out,axB.out,aeW.out,axC.out⟩
       case measure => exact BL
      ·obtain rfl:j=In.length:=by omega
       have hpf:=HP.out;rw [I4,HCx.out,<- alI,<- eP.out] at hpf;have Tm:=AA hpf;clear hpf;go_wp2;go_roundw
       case rel => exact ⟨i+1,Jc,c10,AB,BJ,Tm.out,D8.out,CG.out,HB.out,WL.out,afO.out⟩
       case measure => exact BL
    ·obtain rfl:i=O.length:=by omega
     have k1:¬ (O.length:Int)+1<(L.length:Int):=by have:=JQ.out;omega
     have hlp:(⟨q.nodes,(Gu (Ij q O O.length) ol).map (·.1),Nu O.length⟩:Pl)=H6 p:=by
      unfold H6;rw [HQ.out,HO.out,ZG.out,<- HEq.out,<- Nk.out];unfold Gu Nu;rw [IV,IV];rfl
     have hpo:=HP.out;rw [hlp] at hpo;have Yx:=AA hpo;clear hlp hpo;have X2:=CG.out
     try clear BZ Bl CQ EU
     obtain ⟨BZ,Bl,CQ,EU,-,-,-⟩:=X4.Az
     try clear BU BX Bg CB
     try clear Qp V5 WI
     obtain ⟨BU,BX,Bg,CB,Qp,V5,WI⟩:=X2.Az;go_wp2_with fail;exact L9 (g:=g2) (cs:=#[.slice Gs p.nodes.length Gt,.slice A bl.length c,.slice Ag O.length cg]) rfl aC rfl rfl (AO.VY CG.out) ⟨_,H6 p,by rw [HL.out];rfl,bS (p:=⟨g2,2,none⟩) (bS (p:=⟨g2,1,none⟩) (bS (p:=⟨g2,0,none⟩) HB.out Zt _) Zt _) Zt _,(((Yx.out.far CG.out Aw Aw Aw Aw 0 _).far (CG.out.EI 0 _) Aw Aw Aw Aw 1 _).far ((CG.out.EI 0 _).EI 1 _) Aw Aw Aw Aw 2 _).dV,by rw [HL.out,AZ rfl]⟩
theorem axD (p:Pl) (A:List Int) (d:Int) (B:List Int):DV p (A++d::B)=DV p A++(Es (G5 p d)++DV p B):=by
 unfold DV;rw [LC,KI]
theorem alc (p:Pl) {X:List Int} {k:Nat} (hk:k<X.length):∀ m,m+1<(G5 p X[k]).length->∃ r,DV p X=(DV p (X.take k)++(Es (G5 p X[k])).take m)++((G5 p X[k]).getD m AY,(G5 p X[k]).getD (m+1) AY)::r:=fun m hm=>by
 have hl:m<(Es (G5 p X[k])).length:=by unfold Es;rw [Cj,PO];omega
 have e1:Es (G5 p X[k])=(Es (G5 p X[k])).take m++(Es (G5 p X[k]))[m]::(Es (G5 p X[k])).drop (m+1):=by rw [<- Ql hl,Zo]
 have e2:(Es (G5 p X[k]))[m]=((G5 p X[k]).getD m AY,(G5 p X[k]).getD (m+1) AY):=by simp [Es]
 have e3:X=X.take k++X[k]::X.drop (k+1):=by rw [<- Ql hk,Zo]
 refine ⟨(Es (G5 p X[k])).drop (m+1)++DV p (X.drop (k+1)),?_⟩;have e4:DV p X=DV p (X.take k)++(Es (G5 p X[k])++DV p (X.drop (k+1))):=by
  rw [<- axD p,<- e3]
 rw [e4,KW,<- aau,<- e2,<- KW ((Es (G5 p X[k])).take m),<- e1]
theorem axE {σ:Type} (w:World) (gm:Nat) (p:Pl) (f:Int->SV) (hpm:Qe w gm p f) (hv:Valid p) (vc:Value) (X:List Int) (hX:Ints w vc X) (hd:∀ d∈X,d∈Bh p) (g1 g2 g3:Nat)
  (Inv:σ->World->Prop) (upd:σ->Pt×Pt->σ) (hI:∀ s W,Inv s W->AU w W) (hD:∀ s W,Inv s W->Inv s W.drew)
  (s:σ) (hst:∀ S0 W q r,DV p X=S0++q::r->Inv (S0.foldl upd s) W->Calls Tryz.prog 202 #[BA q.1,BA q.2,.pointer (some ⟨g1,0,none⟩),.pointer (some ⟨g2,0,none⟩),.pointer (some ⟨g3,0,none⟩)] W fun e W'=>e=.returned (.tuple #[])/\Inv (upd (S0.foldl upd s) q) W'/\Below w.heap.size W W')
  (W:World) (h0:Inv s W) :
  Calls Tryz.prog 79 #[.map (some gm),vc,.func (.func 202) #[] #[.pointer (some ⟨g1,0,none⟩),.pointer (some ⟨g2,0,none⟩),.pointer (some ⟨g3,0,none⟩)]] W fun e W'=>e=.returned (.tuple #[])/\Inv ((DV p X).foldl upd s) W'/\Below w.heap.size W W':=by
 obtain ⟨Ac,cc,rfl,hc1,hc2,Jb⟩:=hX;unfold maxLen at hc2;have Pv:=AA Jb;have KA:=AA hpm;have HI:=AA hI;have DU:=AA hst;have Ux:=AA hD;have Zc:=AA hd;have HV:=AA hv;have H0:=AA h0;have FI:=AA (fun k (hk:k<X.length)=>adl p hk);obtain ⟨R,hR⟩:=BN ((DV p X).foldl upd s);rw [hR];have RP:=AA hR;have Qg:=AA (fun k (hk:k<X.length)=>alc p hk);clear Jb hpm hI hst hD hd hv h0 hR;go_enter Tryz.func79,Tryz.ntmps79;go_wp2_with fail;go_loopw [12] (fun i wr=>∃ k:Nat,k<=X.length/\i=.int .i64 k/\Inv ((DV p (X.take k)).foldl upd s) wr/\Below w.heap.size W wr) (fun i _=>X.length-(intOf i).toNat)
 case atStart => exact ⟨0,Bv _,rfl,H0.out,Below.refl _ _⟩
 case round =>
  obtain ⟨k,hk,rfl,hinv,hbw⟩:=hrel;obtain ⟨wo,rfl⟩:=BR wr;have Jo:=AA hinv;have Ep:=AA hbw;have Hb:=AA (HI.out _ _ hinv);clear hinv hbw;by_cases hlt:k<X.length
  ·obtain ⟨b,o,rfl,hlb,c0⟩:=(Pv.out.mono Hb.out).int hlt;have hdd:=Zc.out _ (BO hlt);have htk:=FI.out k hlt;have hmem:=Qg.out k hlt;generalize X[k]=d at *;obtain ⟨a,ha,hor,hpt⟩:=HV.out.TY hdd;have hid:=HV.out.Gx ha;rw [hpt] at htk hmem;obtain ⟨n,hmp⟩:=(KA.out.keep Hb.out).mp;have hlk:=hmp.look a.id (N8 AB AB);have O6:=KA.out.rd a ha;have hlen:2<=(AV p a).length:=by have:=Ey p a;omega
   have xQ:=AA htk;have Qb:=AA hmem;have k1:IntKind.i64.wrap (-d)=-d:=D6 _ AB;have km:max d (-d)=a.id:=by omega
   have Rk:=HV.out.Tv ha;have hpl:(AV p a).length<=66:=by have:=Ey p a;omega
   generalize f a.id=x at *;obtain ⟨Ap,np,cp⟩:=x;unfold BK at hlk O6;obtain ⟨qR,cp',he,hp1,hp2,TK⟩:=O6;injection he with e1 e2 e3;subst e1 e2 e3;unfold maxLen at hp2;have WC:=AA TK;clear hmp hdd htk hmem hpt hor ha TK Rk;generalize a.id=ai at *;generalize AV p a=P at *;clear hid;obtain ⟨s1,hs1⟩:=BN ((DV p (X.take k)).foldl upd s);rw [hs1] at Jo;have WE:=AA hs1;clear hs1;go_upto_block 2 with fail;go_wp2_with fail;go_loopw [9] (fun i wr=>∃ j:Nat,1<=j/\j<=P.length/\i=.int .i64 j/\Inv (((Es P).take (j-1)).foldl upd s1) wr/\Below w.heap.size wo wr) (fun i _=>P.length-(intOf i).toNat)
   case atStart => exact ⟨1,Dc _,AB,rfl,Jo.out,Below.refl _ _⟩
   case round =>
    obtain ⟨j,hj1,hj2,rfl,hinv,Eo⟩:=hrel;have fP:=AA hinv;have FP:=AA Eo;have Hb2:=AA (HI.out _ _ hinv);clear hinv Eo;by_cases hlj:j<P.length
    ·obtain ⟨m,rfl⟩:∃ m,j=m+1:=⟨j-1,AB⟩;have hmp:m<P.length:=by omega
     obtain ⟨r,hq⟩:=Qb.out m hlj;have htk:=aBn hlj;have hin:=fP.out;rw [show m+1-1=m by omega] at hin;have hst:=DU.out _ wr.drew _ r hq (by rw [Oi,WE.out];exact Ux.out _ _ hin);rw [Oi,WE.out] at hst;have ea:P.getD m AY=P[m]:=by simp only [Fj,Dh hmp,H9]
     have eb:P.getD (m+1) AY=P[m+1]:=by simp only [Fj,Dh hlj,H9]
     rw [ea,eb] at hst htk;obtain ⟨bp,op,Lm,hlp,e10,e11⟩:=(WC.out).pt hmp;obtain ⟨bp',op',Lu,-,e20,e21⟩:=(WC.out).pt hlj;rw [Lm] at Lu;injection Lu with Lu;injection Lu with x1 x2 _;subst x1 x2;replace e10:=Eh Hb2.out e10;replace e11:=Eh Hb2.out e11;replace e20:=Eh Hb2.out e20;replace e21:=Eh Hb2.out e21;have UE:=AA htk;generalize P[m]=pa at *;generalize P[m+1]=pb at *;unfold BA at hst;simp only at hst;have HC:=AA hst;clear hst htk ea eb hq hin;subst Lm;have k2:IntKind.i64.wrap ((m:Int)+1-1)=m:=by rw [show (m:Int)+1-1=m by omega];exact D6 _ AB
     have k3:(m:Int)<P.length:=by omega
     have k8:IntKind.i64.wrap (m:Int)=m:=D6 _ AB;have k4:0<=(m:Int):=by omega
     have k5:(m:Int)+1-1=m:=by omega
     have k6:(m:Int)+1<P.length:=by omega
     have k7:0<=(m:Int)+1:=by omega
     rw [show (((m+1:Nat)):Int)=(m:Int)+1 from by omega];go_upto_region 7 with fail;refine Rz (w.heap.size) (wr) (.run 10 0 0 (.call 10 2047 (.done))) fun CU QR Ae Ah hS=>?_
     iterate 10 refine Aj ?_
     refine Bj ?_;clear hS;intro K hK AQ;go_simp;refine HC.out.mono ?_;rintro e w4 ⟨rfl,dU,hb4⟩;have hS:GK w.heap.size wr w4:=Below.trans AQ.out hb4;have abM:=AA dU;clear hb4 dU;clear AQ;refine hK.out _ _ hS (fun _=>?_);clear hK K
     try simp only [pu]
     refine LY ?_;clear hS Ah Ae;intro hB;have xR:=AA (Below.trans FP.out hB);clear hB e10 e11 e20 e21 hlp;go_wp2;go_roundw
     case rel => exact ⟨m+1+1,AB,AB,BJ,afl,xR.out⟩
     case measure => exact BL
    ·obtain rfl:j=P.length:=by omega
     have xU:(Es P).length=P.length-1:=by unfold Es;rw [Cj,PO]
     have hfin:=fP.out;rw [IQ AB,<- WE.out,<- Oi,<- xQ.out] at hfin;have HF:=AA hfin;clear hfin xU;go_wp2;go_roundw
     case rel => exact ⟨k+1,AB,BJ,HF.out,Below.trans Ep.out FP.out⟩
     case measure => exact BL
  ·obtain rfl:k=X.length:=by omega
   have hfin:=Jo.out;rw [I4,RP.out] at hfin;have HF:=AA hfin;clear hfin;go_wp2_with fail;exact bodyPost_end (v:=.tuple #[]) (results_none rfl _ _ _) rfl ⟨rfl,HF.out,Ep.out⟩
theorem axF {σ:Type} (w:World) (gm:Nat) (p:Pl) (f:Int->SV) (hpm:Qe w gm p f) (hv:Valid p) (vc:Value) (X:List Int) (hX:Ints w vc X) (hd:∀ d∈X,d∈Bh p) (g1:Nat)
  (Inv:σ->World->Prop) (upd:σ->Pt×Pt->σ) (hI:∀ s W,Inv s W->AU w W) (hD:∀ s W,Inv s W->Inv s W.drew)
  (s:σ) (hst:∀ S0 W q r,DV p X=S0++q::r->Inv (S0.foldl upd s) W->Calls Tryz.prog 80 #[BA q.1,BA q.2,.pointer (some ⟨g1,0,none⟩)] W fun e W'=>e=.returned (.tuple #[])/\Inv (upd (S0.foldl upd s) q) W'/\Below w.heap.size W W')
  (W:World) (h0:Inv s W) :
  Calls Tryz.prog 79 #[.map (some gm),vc,.func (.func 80) #[] #[.pointer (some ⟨g1,0,none⟩)]] W fun e W'=>e=.returned (.tuple #[])/\Inv ((DV p X).foldl upd s) W'/\Below w.heap.size W W':=by
 obtain ⟨Ac,cc,rfl,hc1,hc2,Jb⟩:=hX;unfold maxLen at hc2;have Pv:=AA Jb;have KA:=AA hpm;have HI:=AA hI;have DU:=AA hst;have Ux:=AA hD;have Zc:=AA hd;have HV:=AA hv;have H0:=AA h0;have FI:=AA (fun k (hk:k<X.length)=>adl p hk);obtain ⟨R,hR⟩:=BN ((DV p X).foldl upd s);rw [hR];have RP:=AA hR;have Qg:=AA (fun k (hk:k<X.length)=>alc p hk);clear Jb hpm hI hst hD hd hv h0 hR;go_enter Tryz.func79,Tryz.ntmps79;go_wp2_with fail;go_loopw [12] (fun i wr=>∃ k:Nat,k<=X.length/\i=.int .i64 k/\Inv ((DV p (X.take k)).foldl upd s) wr/\Below w.heap.size W wr) (fun i _=>X.length-(intOf i).toNat)
 case atStart => exact ⟨0,Bv _,rfl,H0.out,Below.refl _ _⟩
 case round =>
  obtain ⟨k,hk,rfl,hinv,hbw⟩:=hrel;obtain ⟨wo,rfl⟩:=BR wr;have Jo:=AA hinv;have Ep:=AA hbw;have Hb:=AA (HI.out _ _ hinv);clear hinv hbw;by_cases hlt:k<X.length
  ·obtain ⟨b,o,rfl,hlb,c0⟩:=(Pv.out.mono Hb.out).int hlt;have hdd:=Zc.out _ (BO hlt);have htk:=FI.out k hlt;have hmem:=Qg.out k hlt;generalize X[k]=d at *;obtain ⟨a,ha,hor,hpt⟩:=HV.out.TY hdd;have hid:=HV.out.Gx ha;rw [hpt] at htk hmem;obtain ⟨n,hmp⟩:=(KA.out.keep Hb.out).mp;have hlk:=hmp.look a.id (N8 AB AB);have O6:=KA.out.rd a ha;have hlen:2<=(AV p a).length:=by have:=Ey p a;omega
   have xQ:=AA htk;have Qb:=AA hmem;have k1:IntKind.i64.wrap (-d)=-d:=D6 _ AB;have km:max d (-d)=a.id:=by omega
   have Rk:=HV.out.Tv ha;have hpl:(AV p a).length<=66:=by have:=Ey p a;omega
   generalize f a.id=x at *;obtain ⟨Ap,np,cp⟩:=x;unfold BK at hlk O6;obtain ⟨qR,cp',he,hp1,hp2,TK⟩:=O6;injection he with e1 e2 e3;subst e1 e2 e3;unfold maxLen at hp2;have WC:=AA TK;clear hmp hdd htk hmem hpt hor ha TK Rk;generalize a.id=ai at *;generalize AV p a=P at *;clear hid;obtain ⟨s1,hs1⟩:=BN ((DV p (X.take k)).foldl upd s);rw [hs1] at Jo;have WE:=AA hs1;clear hs1;go_upto_block 2 with fail;go_wp2_with fail;go_loopw [9] (fun i wr=>∃ j:Nat,1<=j/\j<=P.length/\i=.int .i64 j/\Inv (((Es P).take (j-1)).foldl upd s1) wr/\Below w.heap.size wo wr) (fun i _=>P.length-(intOf i).toNat)
   case atStart => exact ⟨1,Dc _,AB,rfl,Jo.out,Below.refl _ _⟩
   case round =>
    obtain ⟨j,hj1,hj2,rfl,hinv,Eo⟩:=hrel;have fP:=AA hinv;have FP:=AA Eo;have Hb2:=AA (HI.out _ _ hinv);clear hinv Eo;by_cases hlj:j<P.length
    ·obtain ⟨m,rfl⟩:∃ m,j=m+1:=⟨j-1,AB⟩;have hmp:m<P.length:=by omega
     obtain ⟨r,hq⟩:=Qb.out m hlj;have htk:=aBn hlj;have hin:=fP.out;rw [show m+1-1=m by omega] at hin;have hst:=DU.out _ wr.drew _ r hq (by rw [Oi,WE.out];exact Ux.out _ _ hin);rw [Oi,WE.out] at hst;have ea:P.getD m AY=P[m]:=by simp only [Fj,Dh hmp,H9]
     have eb:P.getD (m+1) AY=P[m+1]:=by simp only [Fj,Dh hlj,H9]
     rw [ea,eb] at hst htk;obtain ⟨bp,op,Lm,hlp,e10,e11⟩:=(WC.out).pt hmp;obtain ⟨bp',op',Lu,-,e20,e21⟩:=(WC.out).pt hlj;rw [Lm] at Lu;injection Lu with Lu;injection Lu with x1 x2 _;subst x1 x2;replace e10:=Eh Hb2.out e10;replace e11:=Eh Hb2.out e11;replace e20:=Eh Hb2.out e20;replace e21:=Eh Hb2.out e21;have UE:=AA htk;generalize P[m]=pa at *;generalize P[m+1]=pb at *;unfold BA at hst;simp only at hst;have HC:=AA hst;clear hst htk ea eb hq hin;subst Lm;have k2:IntKind.i64.wrap ((m:Int)+1-1)=m:=by rw [show (m:Int)+1-1=m by omega];exact D6 _ AB
     have k3:(m:Int)<P.length:=by omega
     have k8:IntKind.i64.wrap (m:Int)=m:=D6 _ AB;have k4:0<=(m:Int):=by omega
     have k5:(m:Int)+1-1=m:=by omega
     have k6:(m:Int)+1<P.length:=by omega
     have k7:0<=(m:Int)+1:=by omega
     rw [show (((m+1:Nat)):Int)=(m:Int)+1 from by omega];go_upto_region 7 with fail;refine Rz (w.heap.size) (wr) (.run 10 0 0 (.call 10 2047 (.done))) fun CU QR Ae Ah hS=>?_
     iterate 10 refine Aj ?_
     refine Bj ?_;clear hS;intro K hK AQ;go_simp;refine HC.out.mono ?_;rintro e w4 ⟨rfl,dU,hb4⟩;have hS:GK w.heap.size wr w4:=Below.trans AQ.out hb4;have abM:=AA dU;clear hb4 dU;clear AQ;refine hK.out _ _ hS (fun _=>?_);clear hK K
     try simp only [pu]
     refine LY ?_;clear hS Ah Ae;intro hB;have xR:=AA (Below.trans FP.out hB);clear hB e10 e11 e20 e21 hlp;go_wp2;go_roundw
     case rel => exact ⟨m+1+1,AB,AB,BJ,afl,xR.out⟩
     case measure => exact BL
    ·obtain rfl:j=P.length:=by omega
     have xU:(Es P).length=P.length-1:=by unfold Es;rw [Cj,PO]
     have hfin:=fP.out;rw [IQ AB,<- WE.out,<- Oi,<- xQ.out] at hfin;have HF:=AA hfin;clear hfin xU;go_wp2;go_roundw
     case rel => exact ⟨k+1,AB,BJ,HF.out,Below.trans Ep.out FP.out⟩
     case measure => exact BL
  ·obtain rfl:k=X.length:=by omega
   have hfin:=Jo.out;rw [I4,RP.out] at hfin;have HF:=AA hfin;clear hfin;go_wp2_with fail;exact bodyPost_end (v:=.tuple #[]) (results_none rfl _ _ _) rfl ⟨rfl,HF.out,Ep.out⟩
