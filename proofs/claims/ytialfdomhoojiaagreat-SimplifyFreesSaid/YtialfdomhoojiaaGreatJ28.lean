import Derived.Test.YtialfdomhoojiaaGreatJ07
import Derived.Test.YtialfdomhoojiaaGreatGB
import Derived.Test.YtialfdomhoojiaaGreatJ05
import Derived.Test.YtialfdomhoojiaaGreatJ01
import Derived.Deep.LoopGhost
import Derived.Test.YtialfdomhoojiaaGreatJ18
import Derived.Test.YtialfdomhoojiaaGreatJ19
import Derived.Test.YtialfdomhoojiaaGreatSortB
import Derived.Test.YtialfdomhoojiaaGreatLaySortRg
import Derived.Test.YtialfdomhoojiaaGreatJ25
import Derived.Test.YtialfdomhoojiaaGreatJ27
import Derived.Test.YtialfdomhoojiaaGreatJ14
import Derived.Test.YtialfdomhoojiaaGreatJ02
set_option linter.unusedSimpArgs false
set_option linter.unusedVariables false
namespace Go.Proofs.YtialfdomhoojiaaGreat
open Go.RowKit
def Dc:List Pt:=[⟨10,0⟩,⟨10,10⟩,⟨0,10⟩]
def pl0:Pl:=⟨[],[],[]⟩
def aaQ:Array Value:=#[.int .i64 10,.int .i64 0,.int .i64 10,.int .i64 10,.int .i64 0,.int .i64 10]
def aaR (gv nv cv:Nat) (left:Int):Array Value:=#[.int .i64 1,.int .i64 1,.int .i64 1,.slice (some ⟨gv,0,none⟩) nv cv,.int .i64 left,.int .i64 0]
theorem dh.blocks {w:World} {vn va vf:Value} {p:Pl} {al:List (Ar×Value)} (hp:p.au=al.map (·.1)) (hn:sZ w vn p.nodes) (ha:Sl w va al.length (al.flatMap zS)) (hv:xY w al) (hf:Ints w vf p.faces):dh w (.agg #[vn,va,vf]) p :=
 ⟨vn,va,vf,al,rfl,hp,hn,⟨ha,hv⟩,hf⟩
theorem dh.zero (w:World):dh w (.agg #[.slice none 0 0,.slice none 0 0,.slice none 0 0]) pl0 :=
 dh.blocks (al:=[]) rfl (Sl.nil w) (Sl.nil w) (fun k hk=>by simp at hk) (Sl.nil w)
theorem aaS {w:World} {a:Ar} {u:Value} (h:bU w u a.via):xY w [(a,u)]:=fun k hk=>by
 have:k=0:=by simpa using hk
 subst this;exact h
theorem dh.ex {w:World} {vn:Value} {l:List Nd} {a v f n c:Nat} {left:Int} {via:List Pt} (hn:sZ w vn l) (ha:ah w a 50 (aaR v n c left)) (hv:bU w (.slice (some ⟨v,0,none⟩) n c) via) (hf:ah w f 3 #[.int .i64 1]) :
  dh w (.agg #[vn,.slice (some ⟨a,0,none⟩) 1 1,.slice (some ⟨f,0,none⟩) 1 1]) ⟨l,[⟨1,1,1,via,left,0⟩],[1]⟩ :=
 dh.blocks (al:=[(⟨1,1,1,via,left,0⟩,.slice (some ⟨v,0,none⟩) n c)]) rfl hn (Sl.lit (n:=1) ha rfl (eG (by omega))) (aaS hv) (Sl.lit (n:=1) hf rfl (eG (by omega)))
theorem aix {w:World} {v:Nat} (h:ah w v 39 aaQ):bU w (.slice (some ⟨v,0,none⟩) 3 3) Dc:=Sl.lit (n:=3) h rfl (eG (by omega))
theorem aaT (arc:Int) (i:Nat):∀ l:List Ar,(nI arc i l).map (·.id)=l.map (·.id)
 | []=>rfl
 | a::l=>by
  unfold nI;split
  · rfl
  · rw [List.map_cons,List.map_cons,aaT arc i l]
theorem aaU (arc:Int) (i:Nat) (M:Nat):∀ l:List Ar,(∀ a∈l,a.via.length<=M)->∀ a∈nI arc i l,a.via.length<=M
 | [],_,a,h=>by cases h
 | b::l,hl,a,h=>by
  unfold nI at h;split at h
  ·rcases List.mem_cons.1 h with rfl | h
   ·have:=hl b List.mem_cons_self
    show (b.via.eraseIdx i).length<=M
    rw [List.length_eraseIdx];split<;>omega
   · exact hl a (List.mem_cons_of_mem _ h)
  ·rcases List.mem_cons.1 h with rfl | h
   · exact hl _ List.mem_cons_self
   · exact aaU arc i M l (fun x hx=>hl x (List.mem_cons_of_mem _ hx)) a h
theorem aiy {p q:Pl} {aI:Int} (h:sK p aI=some q) (hm:jV p) (hw:∀ a∈p.au,cZ a.id):jV q/\(∀ a∈q.au,cZ a.id)/\q.nodes=p.nodes/\q.au.length=p.au.length/\q.faces=p.faces:=by
 unfold sK at h
 cases e:pF p aI with
 | none=>rw [e] at h;cases h
 | some c =>
  rw [e] at h;injection h with h;subst h;refine ⟨⟨hm.lT,by show (nI _ _ _).length<=_;rw [Qz];exact hm.gY,aaU _ _ _ _ hm.via⟩,fun a ha=>?_,rfl,Qz _ _ _,rfl⟩;have h1:a.id∈(nI c.id c.k p.au).map (·.id):=List.mem_map_of_mem ha;rw [aaT] at h1;obtain ⟨b,hb,e⟩:=List.mem_map.1 h1;rw [<- e];exact hw b hb
theorem gX.fM {w:World} {B B':Nat} {vn va vf:Value} {p:Pl} {bl:List (Ar×SV)} (h:gX w B vn va vf p bl) (hb:B'<=B):gX w B' vn va vf p bl :=
 ⟨h.lT.fM hb,h.gY.fM hb,fun x hx=>(h.mM x hx).fM hb,h.eq,h.uH.fM hb⟩
theorem gX.lF {w:World} {B g:Nat} {vn va vf u0 u1 u2:Value} {cs:Array Value} {p:Pl} {bl:List (Ar×SV)} (h:gX w B vn va vf p bl) (hb:ah w g 26 cs):gX (((w.setCell ⟨g,0,none⟩ u0).setCell ⟨g,1,none⟩ u1).setCell ⟨g,2,none⟩ u2) B vn va vf p bl :=
 ((h.far hb (by decide) (by decide) (by decide) (by decide) 0 _).far (hb.fB 0 _) (by decide) (by decide) (by decide) (by decide) 1 _).far ((hb.fB 0 _).fB 1 _) (by decide) (by decide) (by decide) (by decide) 2 _
theorem IZ {w W:World} (h:Below w.heap.size w W) {g:Nat} (hg:w.heap.size<=g) (u0 u1 u2:Value):Below w.heap.size w (((W.setCell ⟨g,0,none⟩ u0).setCell ⟨g,1,none⟩ u1).setCell ⟨g,2,none⟩ u2) :=
 bS (p:=⟨g,2,none⟩) (bS (p:=⟨g,1,none⟩) (bS (p:=⟨g,0,none⟩) h hg _) hg _) hg _
def stT (p:Pl):Option Pl->Pl×Bool×Int
 | none=>(p,false,0)
 | some q=>(q,true,0)
def Tc (p:Pl) (aI:Int):Pl×Bool×Int:=if rG p≠0 then (pl0,false,rG p) else stT p (sK p aI)
def aaV (w:World) (r:Pl×Bool×Int) (e:Ending) (w':World):Prop:=∃ v,e=.returned (.tuple #[v,.bool r.2.1,.int .i64 r.2.2])/\Below w.heap.size w w'/\dh w' v r.1
def I4 (p:Pl) (aI:Int):Pl×Int:=if rG p≠0 then (pl0,rG p) else (xB p aI,0)
def aaW (w:World) (r:Pl×Int) (e:Ending) (w':World):Prop:=∃ v,e=.returned (.tuple #[v,.int .i64 r.2])/\Below w.heap.size w w'/\dh w' v r.1
set_option maxRecDepth 100000 in
set_option maxHeartbeats 8000000 in
theorem aiz (v:Value) (p:Pl) (aI:Int) (w:World) (h:dh w v p) (hm:jV p) (hf:p.faces.length<=1000000) (hw:∀ a∈p.au,cZ a.id):Calls Tryz.prog 42 #[v,.int .i64 aI] w (aaV w (Tc p aI)):=by
 have HC:=Lib.hid (fun W (hW:Below w.heap.size w W)=>aaP v p W (h.mono hW));have pO:=Lib.hid (fun W (hW:Below w.heap.size w W)=>Z5 v p W (h.mono hW) hm hf);obtain ⟨_,_,_,al,rfl,hpa,⟨An,cn,rfl,-⟩,⟨⟨Aa,ca,rfl,-⟩,-⟩,⟨Af,cf,rfl,-⟩⟩:=h;have hal:al.length=p.au.length:=by rw [hpa,List.length_map]
 unfold Tc;by_cases hz:rG p=0
 case neg =>
  rw [if_pos hz];unfold aaV;generalize rG p=z at *;have hzb:(z != 0)=true:=by simpa using hz
  generalize p.nodes.length=nn at *;generalize p.faces.length=nf at *;generalize al.length=na at *;clear hz hpa hal hm hw pO;go_enter Tryz.func42,Tryz.ntmps42;go_upto_region 1 with fail;obtain ⟨g4,hg4⟩:∃ g,w.heap.size+1=g:=⟨_,rfl⟩;obtain ⟨W1,hW⟩:∃ W:World,W=(w.alloc (.cells #[.slice An nn cn,.slice Aa na ca,.slice Af nf cf] 26)).alloc (.cells #[.slice none 0 0,.slice none 0 0,.slice none 0 0] 26):=⟨_,rfl⟩;have X2:ah W1 w.heap.size 26 #[.slice An nn cn,.slice Aa na ca,.slice Af nf cf]:=by rw [hW];exact (ah.made rfl _ _).alloc _
  have dJ:=Lib.hid (show ah W1 g4 26 #[.slice none 0 0,.slice none 0 0,.slice none 0 0] by rw [hW];exact ah.made (by rw [<- hg4];simp) _ _);have HB1:=Lib.hid (show Below w.heap.size w W1 by rw [hW];exact bA (bA (bR w) _) _);have hgw:w.heap.size<=g4:=by omega
  rw [<- hW]
  try rw [hg4]
  clear hW hg4;obtain ⟨bF,bH,bI,bM,-,-,-⟩:=X2.aJ;go_wp2_with fail;refine (HC.out _ HB1.out).mono ?_;rintro e w2 ⟨rfl,hb2⟩;have X4:=dJ.out.keep hb2;have HB2:=Lib.hid (bT HB1.out hb2);clear hb2 X2 bF bH bI bM;have pG:=Lib.hid X4;obtain ⟨aU,aV,bQ,eP,dW,gq,gQ⟩:=X4.aJ;go_wp2_with fail;exact Pg (g:=g4) (cs:=#[.slice none 0 0,.slice none 0 0,.slice none 0 0]) rfl zU rfl rfl (ah.lF pG.out) ⟨_,rfl,bS (p:=⟨g4,2,none⟩) (bS (p:=⟨g4,1,none⟩) (bS (p:=⟨g4,0,none⟩) HB2.out hgw _) hgw _) hgw _,dh.zero _⟩
 rw [if_neg (by simpa using hz)];have hres:=fun B (bl:List (Ar×SV)) (An Aa Af:Option Addr) (cn ca cf:Nat) W (h:gX W B (.slice An p.nodes.length cn) (.slice Aa p.au.length ca) (.slice Af p.faces.length cf) p bl) (hs:lX bl) (hB:B<=W.heap.size)=>aam p aI An Aa Af cn ca cf B bl W h hs hB hm hw;have iG:=Lib.hid hres;rw [hz] at HC;rw [hal] at HC pO ⊢;clear hres hz hpa hm hw;generalize hnn:p.nodes.length=nn at *;generalize hnf:p.faces.length=nf at *;generalize hna:p.au.length=na at *;have Ce:=Lib.hid hnn;have IY:=Lib.hid hnf;have CQ:=Lib.hid hna;obtain ⟨T,hT⟩:∃ T,sK p aI=T:=⟨_,rfl⟩;rw [hT] at iG ⊢;obtain ⟨r,hr⟩:∃ r:Pl×Bool×Int,stT p T=r:=⟨_,rfl⟩;rw [hr];have HR:=Lib.hid hr;clear hnn hnf hna hT hr hal hf;go_enter Tryz.func42,Tryz.ntmps42;go_upto_region 1 with fail;obtain ⟨g4,hg4⟩:∃ g,w.heap.size+1=g:=⟨_,rfl⟩;obtain ⟨W1,hW⟩:∃ W:World,W=(w.alloc (.cells #[.slice An nn cn,.slice Aa na ca,.slice Af nf cf] 26)).alloc (.cells #[.slice none 0 0,.slice none 0 0,.slice none 0 0] 26):=⟨_,rfl⟩;have X2:ah W1 w.heap.size 26 #[.slice An nn cn,.slice Aa na ca,.slice Af nf cf]:=by rw [hW];exact (ah.made rfl _ _).alloc _
 have dJ:=Lib.hid (show ah W1 g4 26 #[.slice none 0 0,.slice none 0 0,.slice none 0 0] by rw [hW];exact ah.made (by rw [<- hg4];simp) _ _);have HB1:=Lib.hid (show Below w.heap.size w W1 by rw [hW];exact bA (bA (bR w) _) _);have hgw:w.heap.size<=g4:=by omega
 rw [<- hW]
 try rw [hg4]
 have eF:=Lib.hid X2;clear hW hg4
 try clear bF
 try clear bH
 try clear bI
 try clear bM
 obtain ⟨bF,bH,bI,bM,-,-,-⟩:=X2.aJ;go_wp2_with fail;refine (HC.out _ HB1.out).mono ?_;rintro e w2 ⟨rfl,hb2⟩;have pG:=Lib.hid (dJ.out.keep hb2);have ng:=Lib.hid (eF.out.keep hb2);have HB2:=Lib.hid (bT HB1.out hb2);clear hb2 X2 bF bH bI bM dJ eF HB1;have X2:=ng.out
 try clear bF
 try clear bH
 try clear bI
 try clear bM
 obtain ⟨bF,bH,bI,bM,-,-,-⟩:=X2.aJ;go_upto_region 4 with fail;go_wp2_with fail;refine (pO.out _ HB2.out).mono ?_;rintro e w3 ⟨jd,je,pV,ca',pW,cf',bl,rfl,hb3,hpo,hsp⟩;rw [Ce.out,CQ.out,IY.out] at hpo ⊢;have X4:=pG.out.keep hb3;have xR:=Lib.hid X4;have HB3:=Lib.hid (bT HB2.out hb3);have oh:=Lib.hid (hpo.fM (B':=w.heap.size) HB2.out.size);have HS:=Lib.hid hsp;have aj9:g4<w2.heap.size:=pG.out.lt;clear hb3 hpo hsp X2 bF bH bI bM pG ng HB2
 try clear aU
 try clear aV
 try clear bQ
 try clear eP
 try clear dW
 try clear gq
 try clear gQ
 obtain ⟨aU,aV,bQ,eP,dW,gq,gQ⟩:=X4.aJ;go_upto_region 5 with fail;obtain ⟨W4,hW⟩:∃ W:World,W=((w3.setCell ⟨g4,0,none⟩ (.slice jd nn je)).setCell ⟨g4,1,none⟩ (.slice pV na ca')).setCell ⟨g4,2,none⟩ (.slice pW nf cf'):=⟨_,rfl⟩;have zN:=Lib.hid (show ah W4 g4 26 #[.slice jd nn je,.slice pV na ca',.slice pW nf cf'] by rw [hW];exact ah.lF xR.out);have mD:=Lib.hid (show gX W4 w.heap.size (.slice jd nn je) (.slice pV na ca') (.slice pW nf cf') p bl by
  rw [hW];exact ((oh.out.far xR.out (by decide) (by decide) (by decide) (by decide) 0 _).far (xR.out.fB 0 _) (by decide) (by decide) (by decide) (by decide) 1 _).far ((xR.out.fB 0 _).fB 1 _) (by decide) (by decide) (by decide) (by decide) 2 _)
 have HB4:=Lib.hid (show Below w.heap.size w W4 by rw [hW];exact bS (p:=⟨g4,2,none⟩) (bS (p:=⟨g4,1,none⟩) (bS (p:=⟨g4,0,none⟩) HB3.out hgw _) hgw _) hgw _);rw [<- hW];clear hW X4 aU aV bQ eP dW gq gQ xR HB3 oh;have X4:=zN.out;have xU:=Lib.hid (iG.out w.heap.size bl jd pV pW je ca' cf' W4 mD.out HS.out HB4.out.size)
 try clear aU
 try clear aV
 try clear bQ
 try clear eP
 try clear dW
 try clear gq
 try clear gQ
 obtain ⟨aU,aV,bQ,eP,-,-,-⟩:=X4.aJ;go_wp2_with fail;refine xU.out.mono ?_
 cases T with
 | none =>
  rintro e w5 ⟨rfl,hb5⟩;have hr:=HR.out;subst hr;have Df:=Lib.hid (zN.out.keep hb5);have Dh:=Lib.hid (mD.out.keep hb5);have cO:=Lib.hid (bT HB4.out hb5);clear hb5 X4 aU aV bQ eP zN mD HB4 xU;have X4:=Df.out
  try clear aU
  try clear aV
  try clear bQ
  try clear eP
  try clear dW
  try clear gq
  try clear gQ
  obtain ⟨aU,aV,bQ,eP,dW,gq,gQ⟩:=X4.aJ;go_wp2_with fail;exact Pg (g:=g4) (cs:=#[.slice jd nn je,.slice pV na ca',.slice pW nf cf']) rfl zU rfl rfl (ah.lF Df.out) ⟨_,rfl,IZ cO.out hgw _ _ _,(Dh.out.lF Df.out).KO⟩
 | some q =>
  rintro e w5 ⟨rfl,hb5,hk5,bl5,I5,-⟩;have hr:=HR.out;subst hr;have Df:=Lib.hid (hk5 _ _ zN.out);have Dh:=Lib.hid I5;have cO:=Lib.hid (HB4.out.trans hb5);clear hb5 hk5 I5 X4 aU aV bQ eP zN mD HB4 xU;have X4:=Df.out
  try clear aU
  try clear aV
  try clear bQ
  try clear eP
  try clear dW
  try clear gq
  try clear gQ
  obtain ⟨aU,aV,bQ,eP,dW,gq,gQ⟩:=X4.aJ;go_wp2_with fail;exact Pg (g:=g4) (cs:=#[.slice jd nn je,.slice pV na ca',.slice pW nf cf']) rfl zU rfl rfl (ah.lF Df.out) ⟨_,rfl,IZ cO.out hgw _ _ _,(Dh.out.lF Df.out).KO⟩
set_option maxRecDepth 100000 in
set_option maxHeartbeats 8000000 in
theorem Td (v:Value) (p:Pl) (aI:Int) (w:World) (h:dh w v p) (hm:jV p) (hf:p.faces.length<=1000000) (hw:∀ a∈p.au,cZ a.id):Calls Tryz.prog 44 #[v,.int .i64 aI] w (aaW w (I4 p aI)):=by
 have HC:=Lib.hid (fun W (hW:Below w.heap.size w W)=>aaP v p W (h.mono hW));have pO:=Lib.hid (fun W (hW:Below w.heap.size w W)=>Z5 v p W (h.mono hW) hm hf);obtain ⟨_,_,_,al,rfl,hpa,⟨An,cn,rfl,-⟩,⟨⟨Aa,ca,rfl,-⟩,-⟩,⟨Af,cf,rfl,-⟩⟩:=h;have hal:al.length=p.au.length:=by rw [hpa,List.length_map]
 unfold I4;by_cases hz:rG p=0
 case neg =>
  rw [if_pos hz];unfold aaW;generalize rG p=z at *;have hzb:(z != 0)=true:=by simpa using hz
  generalize p.nodes.length=nn at *;generalize p.faces.length=nf at *;generalize al.length=na at *;clear hz hpa hal hm hw pO;go_enter Tryz.func44,Tryz.ntmps44;go_upto_region 1 with fail;obtain ⟨g4,hg4⟩:∃ g,w.heap.size+1=g:=⟨_,rfl⟩;obtain ⟨W1,hW⟩:∃ W:World,W=(w.alloc (.cells #[.slice An nn cn,.slice Aa na ca,.slice Af nf cf] 26)).alloc (.cells #[.slice none 0 0,.slice none 0 0,.slice none 0 0] 26):=⟨_,rfl⟩;have X2:ah W1 w.heap.size 26 #[.slice An nn cn,.slice Aa na ca,.slice Af nf cf]:=by rw [hW];exact (ah.made rfl _ _).alloc _
  have dJ:=Lib.hid (show ah W1 g4 26 #[.slice none 0 0,.slice none 0 0,.slice none 0 0] by rw [hW];exact ah.made (by rw [<- hg4];simp) _ _);have HB1:=Lib.hid (show Below w.heap.size w W1 by rw [hW];exact bA (bA (bR w) _) _);have hgw:w.heap.size<=g4:=by omega
  rw [<- hW]
  try rw [hg4]
  clear hW hg4;obtain ⟨bF,bH,bI,bM,-,-,-⟩:=X2.aJ;go_wp2_with fail;refine (HC.out _ HB1.out).mono ?_;rintro e w2 ⟨rfl,hb2⟩;have X4:=dJ.out.keep hb2;have HB2:=Lib.hid (bT HB1.out hb2);clear hb2 X2 bF bH bI bM;have pG:=Lib.hid X4;obtain ⟨aU,aV,bQ,eP,dW,gq,gQ⟩:=X4.aJ;go_wp2_with fail;exact nM (g:=g4) (cs:=#[.slice none 0 0,.slice none 0 0,.slice none 0 0]) rfl zU rfl rfl (ah.lF pG.out) ⟨_,rfl,IZ HB2.out hgw _ _ _,dh.zero _⟩
 rw [if_neg (by simpa using hz)];have hres:=fun (q:Pl) (hq:jV q) (hqw:∀ a∈q.au,cZ a.id) B (bl:List (Ar×SV)) (An Aa Af:Option Addr) (cn ca cf:Nat) W (h:gX W B (.slice An q.nodes.length cn) (.slice Aa q.au.length ca) (.slice Af q.faces.length cf) q bl) (hs:lX bl) (hB:B<=W.heap.size)=>aam q aI An Aa Af cn ca cf B bl W h hs hB hq hqw;have iG:=Lib.hid hres;rw [hz] at HC;rw [hal] at HC pO ⊢;have HM:=Lib.hid hm;have HW:=Lib.hid hw;clear hres hz hpa hm hw;generalize hnn:p.nodes.length=nn at *;generalize hnf:p.faces.length=nf at *;generalize hna:p.au.length=na at *;have Ce:=Lib.hid hnn;have IY:=Lib.hid hnf;have CQ:=Lib.hid hna;obtain ⟨R,hR⟩:∃ R,xB p aI=R:=⟨_,rfl⟩;rw [hR];have HR:=Lib.hid hR;clear hnn hnf hna hR hal hf;go_enter Tryz.func44,Tryz.ntmps44;go_upto_region 1 with fail;obtain ⟨g4,hg4⟩:∃ g,w.heap.size+1=g:=⟨_,rfl⟩;obtain ⟨W1,hW⟩:∃ W:World,W=(w.alloc (.cells #[.slice An nn cn,.slice Aa na ca,.slice Af nf cf] 26)).alloc (.cells #[.slice none 0 0,.slice none 0 0,.slice none 0 0] 26):=⟨_,rfl⟩;have X2:ah W1 w.heap.size 26 #[.slice An nn cn,.slice Aa na ca,.slice Af nf cf]:=by rw [hW];exact (ah.made rfl _ _).alloc _
 have dJ:=Lib.hid (show ah W1 g4 26 #[.slice none 0 0,.slice none 0 0,.slice none 0 0] by rw [hW];exact ah.made (by rw [<- hg4];simp) _ _);have HB1:=Lib.hid (show Below w.heap.size w W1 by rw [hW];exact bA (bA (bR w) _) _);have hgw:w.heap.size<=g4:=by omega
 rw [<- hW]
 try rw [hg4]
 have eF:=Lib.hid X2;clear hW hg4
 try clear bF
 try clear bH
 try clear bI
 try clear bM
 obtain ⟨bF,bH,bI,bM,-,-,-⟩:=X2.aJ;go_wp2_with fail;refine (HC.out _ HB1.out).mono ?_;rintro e w2 ⟨rfl,hb2⟩;have pG:=Lib.hid (dJ.out.keep hb2);have ng:=Lib.hid (eF.out.keep hb2);have HB2:=Lib.hid (bT HB1.out hb2);clear hb2 X2 bF bH bI bM dJ eF HB1;have X2:=ng.out
 try clear bF
 try clear bH
 try clear bI
 try clear bM
 obtain ⟨bF,bH,bI,bM,-,-,-⟩:=X2.aJ;go_upto_region 4 with fail;go_wp2_with fail;refine (pO.out _ HB2.out).mono ?_;rintro e w3 ⟨jd,je,pV,ca',pW,cf',bl,rfl,hb3,hpo,hsp⟩;rw [Ce.out,CQ.out,IY.out] at hpo ⊢;have X4:=pG.out.keep hb3;have xR:=Lib.hid X4;have HB3:=Lib.hid (bT HB2.out hb3);have oh:=Lib.hid (hpo.fM (B':=w.heap.size) HB2.out.size);have HS:=Lib.hid hsp;clear hb3 hpo hsp X2 bF bH bI bM pG ng HB2
 try clear aU
 try clear aV
 try clear bQ
 try clear eP
 try clear dW
 try clear gq
 try clear gQ
 obtain ⟨aU,aV,bQ,eP,dW,gq,gQ⟩:=X4.aJ;go_upto_block 0 with fail;obtain ⟨W4,hW⟩:∃ W:World,W=((w3.setCell ⟨g4,0,none⟩ (.slice jd nn je)).setCell ⟨g4,1,none⟩ (.slice pV na ca')).setCell ⟨g4,2,none⟩ (.slice pW nf cf'):=⟨_,rfl⟩;have zN:=Lib.hid (show ah W4 g4 26 #[.slice jd nn je,.slice pV na ca',.slice pW nf cf'] by rw [hW];exact ah.lF xR.out);have mD:=Lib.hid (show gX W4 w.heap.size (.slice jd nn je) (.slice pV na ca') (.slice pW nf cf') p bl by rw [hW];exact oh.out.lF xR.out);have HB4:=Lib.hid (show Below w.heap.size w W4 by rw [hW];exact IZ HB3.out hgw _ _ _);rw [<- hW];clear hW X4 aU aV bQ eP dW gq gQ xR HB3 oh;go_wp2_with fail;go_loopg [] (qV p.au) (fun k wr=>∃ (q:Pl) (bl:List (Ar×SV)),qV q.au=k/\xB q aI=R/\jV q/\(∀ a∈q.au,cZ a.id)/\q.nodes.length=nn/\q.au.length=na/\q.faces.length=nf/\gX wr w.heap.size (.slice jd nn je) (.slice pV na ca') (.slice pW nf cf') q bl/\lX bl/\ah wr g4 26 #[.slice jd nn je,.slice pV na ca',.slice pW nf cf']/\Below w.heap.size w wr)
 case atStart => exact ⟨p,bl,rfl,HR.out,HM.out,HW.out,Ce.out,CQ.out,IY.out,mD.out,HS.out,zN.out,HB4.out⟩
 case round =>
  obtain ⟨q,bq,htot,aaX,Tf,hwq,e1,e2,e3,hpo,hsp,X4,hb⟩:=hrel;obtain ⟨wo,rfl⟩:∃ wo:World,wo=wr:=⟨_,rfl⟩;have hca:=iG.out q Tf hwq w.heap.size bq jd pV pW je ca' cf' wo (by rw [e1,e2,e3];exact hpo) hsp hb.size;rw [e1,e2,e3] at hca;have HE:=Lib.hid (⟨e1,e2,e3⟩:q.nodes.length=nn/\q.au.length=na/\q.faces.length=nf);have lN:=Lib.hid hpo;have HX:=Lib.hid X4;have Hb:=Lib.hid hb;have aaY:=Lib.hid aaX;have HTt:=Lib.hid htot;have HMq:=Lib.hid Tf;have HWq:=Lib.hid hwq;clear htot aaX Tf hwq e1 e2 e3 hpo hsp hb zN mD HB4
  cases hT:sK q aI with
  | none =>
   rw [hT] at hca;have xU:=Lib.hid hca;have HQ:=Lib.hid (show q=R from (agl hT).symm.trans aaY.out);clear hca hT
   try clear aU
   try clear aV
   try clear bQ
   try clear eP
   try clear dW
   try clear gq
   try clear gQ
   obtain ⟨aU,aV,bQ,eP,-,-,-⟩:=X4.aJ;go_wp2_with fail;refine xU.out.mono ?_;rintro e w5 ⟨rfl,hb5⟩;have bP:=Lib.hid (HX.out.keep hb5);have Dh:=Lib.hid (lN.out.keep hb5);have cO:=Lib.hid (bT Hb.out hb5);clear hb5 X4 aU aV bQ eP HX lN Hb xU;have X4:=bP.out
   try clear aU
   try clear aV
   try clear bQ
   try clear eP
   try clear dW
   try clear gq
   try clear gQ
   obtain ⟨aU,aV,bQ,eP,dW,gq,gQ⟩:=X4.aJ;go_wp2_with fail;exact nM (g:=g4) (cs:=#[.slice jd nn je,.slice pV na ca',.slice pW nf cf']) rfl zU rfl rfl (ah.lF bP.out) ⟨_,rfl,IZ cO.out hgw _ _ _,by rw [<- HQ.out];exact (Dh.out.lF bP.out).KO⟩
  | some q' =>
   rw [hT] at hca;have xU:=Lib.hid hca;have hke:=aiy hT HMq.out HWq.out;have htt:=Zt hT;have HQ:=Lib.hid (show xB q' aI=R from (agk hT).symm.trans aaY.out);have I7:=Lib.hid hke;have HTq:=Lib.hid (show qV q'.au<gk by have:=HTt.out;omega);clear hca hT hke htt
   try clear aU
   try clear aV
   try clear bQ
   try clear eP
   try clear dW
   try clear gq
   try clear gQ
   obtain ⟨aU,aV,bQ,eP,-,-,-⟩:=X4.aJ;go_wp2_with fail;refine xU.out.mono ?_;rintro e w5 ⟨rfl,hb5,hk5,bl5,I5,hs5⟩;have bP:=Lib.hid (hk5 _ _ HX.out);have Dh:=Lib.hid I5;have vO:=Lib.hid hs5;have cO:=Lib.hid (Hb.out.trans hb5);clear hb5 hk5 I5 hs5 X4 aU aV bQ eP HX lN Hb xU;go_wp2_with fail;go_roundg (qV q'.au)
   case measure => exact HTq.out
   case rel => exact ⟨q',bl5,rfl,HQ.out,I7.out.1,I7.out.2.1,by rw [I7.out.2.2.1];exact HE.out.1,I7.out.2.2.2.1.trans HE.out.2.1,by rw [I7.out.2.2.2.2];exact HE.out.2.2,Dh.out,vO.out,bP.out,cO.out⟩
theorem Own.aiA {α:Type} {w:World} {g n:Nat} {e:TypeId} {cs:Array Value} {base size:Nat} {f:α->List Value} {l:List α} (h:ah w g e cs) (hb:base<=g) (hn:n=l.length) (hl:(l.flatMap f).length=l.length*size) (hx:cs.toList=l.flatMap f) (hm:n<=maxLen):Own w base e size f (.slice (some ⟨g,0,none⟩) n n) l:=by
 subst hn;unfold Own;have hs:cs.size=l.length*size:=by rw [<- hl,<- hx];simp
 exact ⟨hl,.inr ⟨g,l.length,cs,rfl,hb,h,Nat.le_refl _,hm,hs,by rw [hx,<- hl];exact List.take_length⟩⟩
def kC (ns:List Nd):Pl:=⟨⟨1,⟨0,0⟩⟩::ns,[⟨1,1,1,Dc,1,0⟩],[1]⟩
def aiB:Pl:=⟨[⟨1,⟨0,0⟩⟩],[⟨1,1,1,[⟨10,10⟩,⟨0,10⟩],1,0⟩],[1]⟩
def Ti:Pl:=⟨[⟨1,⟨0,0⟩⟩,⟨2,⟨12,0⟩⟩],[⟨3,1,2,[⟨4,1⟩,⟨8,0⟩],0,0⟩],[]⟩
def Nh:Pl:=⟨[⟨1,⟨0,0⟩⟩,⟨2,⟨12,0⟩⟩],[⟨3,1,2,[⟨4,1⟩],0,0⟩],[]⟩
theorem aiC:I4 (kC []) 100=(kC [],0):=by kernel_rfl
theorem aiD:I4 (kC []) 101=(aiB,0):=by kernel_rfl
theorem aiE:pF (kC []) 101=some ⟨1,0,100⟩:=by kernel_rfl
theorem aiF:pF (kC []) 100=none:=by kernel_rfl
theorem aiG:I4 Ti 9=(Nh,0):=by kernel_rfl
theorem aiH:Tc Nh 9=(Nh,false,0):=by kernel_rfl
theorem aiI:oM (kC []) 1 2=true:=by kernel_rfl
theorem aiJ:oM (kC []) 1 3=false:=by kernel_rfl
theorem aiK:oM (kC [⟨2,⟨7,2⟩⟩]) 1 0=false:=by kernel_rfl
theorem aiL:oM (kC [⟨2,⟨7,2⟩⟩]) 1 2=true:=by kernel_rfl
def aiM (w:World) (ns:List Nd) (e:Ending) (w':World):Prop:=∃ v,e=.returned v/\Below w.heap.size w w'/\dh w' v (kC ns)
set_option maxRecDepth 100000 in
set_option maxHeartbeats 4000000 in
theorem aiN (v:Value) (ns:List Nd) (w:World) (h:sZ w v ns) (hl:ns.length<=1000):Calls Tryz.prog 92 #[v] w (aiM w ns):=by
 obtain ⟨A,c,rfl,h1,h2,h3⟩:=id h;have HN:=Lib.hid h;clear h h1 h2 h3;go_enter Tryz.func92,Tryz.ntmps92;go_wp2_with
  (at_builtin
   go_loud (refine jX _ rfl (.tmp 4) (.tmp 5) _ rfl (base:=w.heap.size+1) Ug Nw Uh rfl (Own.aiA (l:=[(⟨1,⟨0,0⟩⟩:Nd)]) (ah.made (by simp) _ _) (by omega) rfl rfl rfl (eG (by omega))) rfl (l2:=ns) (HN.out.mono (bA (bA (bR w) _) _)) (by simp only [List.length_cons,List.length_nil];omega) (by simp only [List.length_cons,List.length_nil];omega) (by simp) ?_);intro v5 w5 eX hg5 jP
   (have hs5:sZ w5 v5 (⟨1,⟨0,0⟩⟩::ns):=Own.sl eX)
   go_loud (obtain ⟨A5,c5,rfl,-,-,-⟩:=id hs5)
   (have vO:=Lib.hid hs5)
   (have eF:=Lib.hid (ah.grown (((ah.made rfl _ _:ah (w.alloc (.cells #[.slice none 0 0,.slice none 0 0,.slice none 0 0] 26)) w.heap.size 26 #[.slice none 0 0,.slice none 0 0,.slice none 0 0])).alloc (.cells #[.int .i64 1,.int .i64 0,.int .i64 0] 45)) hg5 (fun e=>by have h0:w.heap.size=w.heap.size+1:=Option.some.inj e;omega)))
   (have cO:=Lib.hid (show Below w.heap.size w w5 from bG (bA (bA (bR w) _) _) hg5 (fun g hk=>by have h0:w.heap.size+1=g:=Option.some.inj hk;omega)))
   have vP:=Lib.hid (show Own w5 (w.heap.size+1) 45 3 pY (.slice A5 (ns.length+1) c5) (⟨1,⟨0,0⟩⟩::ns) from eX);clear eX hg5 jP hs5;have X2:=((eF.out.alloc (.cells #[.int .i64 10,.int .i64 0,.int .i64 10,.int .i64 10,.int .i64 0,.int .i64 10] 39)).alloc (.cells #[.int .i64 1,.int .i64 1,.int .i64 1,.slice (some ⟨w5.heap.size,0,none⟩) 3 3,.int .i64 1,.int .i64 0] 50)).alloc (.cells #[.int .i64 1] 3);obtain ⟨bF,bH,bI,bM,Jy,Ot,aad⟩:=X2.aJ;clear X2)
 obtain ⟨W8,hW⟩:∃ W:World,W=((w5.alloc (.cells #[.int .i64 10,.int .i64 0,.int .i64 10,.int .i64 10,.int .i64 0,.int .i64 10] 39)).alloc (.cells #[.int .i64 1,.int .i64 1,.int .i64 1,.slice (some ⟨w5.heap.size,0,none⟩) 3 3,.int .i64 1,.int .i64 0] 50)).alloc (.cells #[.int .i64 1] 3):=⟨_,rfl⟩;have hx:=eF.out.lt;have Y2:ah W8 w.heap.size 26 #[.slice none 0 0,.slice none 0 0,.slice none 0 0]:=by rw [hW];exact ((eF.out.alloc _).alloc _).alloc _
 have YV:ah W8 w5.heap.size 39 aaQ:=by rw [hW];exact ((ah.made rfl _ _).alloc _).alloc _
 have YA:ah W8 (w5.heap.size+1) 50 (aaR w5.heap.size 3 3 1):=by rw [hW];exact (ah.made (by simp) _ _).alloc _
 have YF:ah W8 (w5.heap.size+1+1) 3 #[.int .i64 1]:=by rw [hW];exact ah.made (by simp) _ _
 have YO:Own W8 (w.heap.size+1) 45 3 pY (.slice A5 (ns.length+1) c5) (⟨1,⟨0,0⟩⟩::ns):=by rw [hW];exact ((vP.out.alloc _).alloc _).alloc _
 have YB:Below w.heap.size w W8:=by rw [hW];exact bA (bA (bA cO.out _) _) _
 rw [<- hW];clear hW;have Tj:(Value.slice A5 (ns.length+1) c5).ownBlock≠some w.heap.size:=fun e=>by have:=(YO.lt _ e).1;omega
 have n1:w5.heap.size≠w.heap.size:=by omega
 have n2:w5.heap.size+1≠w.heap.size:=by omega
 have n3:w5.heap.size+1+1≠w.heap.size:=by omega
 refine Ui (g:=w.heap.size) (cs:=#[.slice A5 (ns.length+1) c5,.slice (some ⟨w5.heap.size+1,0,none⟩) 1 1,.slice (some ⟨w5.heap.size+1+1,0,none⟩) 1 1]) rfl zU rfl rfl (ah.lF Y2) ⟨_,rfl,?_,?_⟩
 · exact bS (bS (bS YB (p:=⟨w.heap.size,0,none⟩) (Nat.le_refl _) _) (p:=⟨w.heap.size,1,none⟩) (Nat.le_refl _) _) (p:=⟨w.heap.size,2,none⟩) (Nat.le_refl _) _
 · exact dh.ex (v:=w5.heap.size) (n:=3) (c:=3) (Own.sl (((YO.far (p:=⟨w.heap.size,0,none⟩) Tj _).far (p:=⟨w.heap.size,1,none⟩) Tj _).far (p:=⟨w.heap.size,2,none⟩) Tj _)) (((YA.far (p:=⟨w.heap.size,0,none⟩) n2 _).far (p:=⟨w.heap.size,1,none⟩) n2 _).far (p:=⟨w.heap.size,2,none⟩) n2 _) (aix (((YV.far (p:=⟨w.heap.size,0,none⟩) n1 _).far (p:=⟨w.heap.size,1,none⟩) n1 _).far (p:=⟨w.heap.size,2,none⟩) n1 _)) (((YF.far (p:=⟨w.heap.size,0,none⟩) n3 _).far (p:=⟨w.heap.size,1,none⟩) n3 _).far (p:=⟨w.heap.size,2,none⟩) n3 _)
set_option maxRecDepth 100000 in
set_option maxHeartbeats 8000000 in
theorem aiO (v u:Value) (p:Pl) (w:World) (h:dh w v p) (h':dh w u p):Calls Tryz.prog 23 #[v,u] w fun e w'=>e=.returned (.bool true)/\Below w.heap.size w w':=by
 obtain ⟨_,_,_,al,rfl,hpa,⟨An,cn,rfl,hn1,hn2,Ia⟩,⟨⟨Aa,ca,rfl,ha1,ha2,fO⟩,hV⟩,⟨Af,cf,rfl,hf1,hf2,hRf⟩⟩:=h;obtain ⟨_,_,_,bl,rfl,hpb,⟨Bn,dn,rfl,-,-,hSn⟩,⟨⟨Ba,da,rfl,-,-,hSa⟩,hU⟩,⟨Bf,df,rfl,-,-,hSf⟩⟩:=h';have hll:bl.length=al.length:=by have:=congrArg List.length (hpa.symm.trans hpb);simpa using this.symm
 have HAt:=Lib.hid (fun k (h1:k<al.length) (h2:k<bl.length)=>show al[k].1=bl[k].1 from by
  have e1:(al.map (·.1))[k]'(by simpa using h1)=al[k].1:=by rw [List.getElem_map]
  have e2:(bl.map (·.1))[k]'(by simpa using h2)=bl[k].1:=by rw [List.getElem_map]
  rw [<- e1,<- e2];congr 1;exact hpa.symm.trans hpb)
 have HRn:=Lib.hid Ia;have iV:=Lib.hid fO;have HRf:=Lib.hid hRf;have Kr:=Lib.hid hSn;have Nj:=Lib.hid hSa;have HSf:=Lib.hid hSf;have HV:=Lib.hid hV;have HU:=Lib.hid hU;have mX:=Lib.hid hll;unfold maxLen at hn2 ha2 hf2;rw [hll];obtain ⟨L,hL⟩:∃ L,p.nodes=L:=⟨_,rfl⟩;obtain ⟨F,hF⟩:∃ F,p.faces=F:=⟨_,rfl⟩;rw [hL] at hn1 HRn Kr ⊢;rw [hF] at hf1 HRf HSf ⊢;have hb1:L.length<=9223372036854775807:=by omega
 have hb2:al.length<=9223372036854775807:=by omega
 have hb3:F.length<=9223372036854775807:=by omega
 clear Ia fO hRf hSn hSa hSf hV hU hpa hpb hll hL hF hn1 hn2 ha1 ha2 hf1 hf2;go_enter Tryz.func23,Tryz.ntmps23;go_upto_region 1 with fail;obtain ⟨W1,hW⟩:∃ W:World,W=(w.alloc (.cells #[.slice An L.length cn,.slice Aa al.length ca,.slice Af F.length cf] 26)).alloc (.cells #[.slice Bn L.length dn,.slice Ba al.length da,.slice Bf F.length df] 26):=⟨_,rfl⟩;have X2:ah W1 w.heap.size 26 #[.slice An L.length cn,.slice Aa al.length ca,.slice Af F.length cf]:=by rw [hW];exact (ah.made rfl _ _).alloc _
 have X3:ah W1 (w.heap.size+1) 26 #[.slice Bn L.length dn,.slice Ba al.length da,.slice Bf F.length df]:=by rw [hW];exact ah.made (by simp) _ _
 have HB1:=Lib.hid (show Below w.heap.size w W1 by rw [hW];exact bA (bA (bR w) _) _);rw [<- hW];clear hW;have eF:=Lib.hid X2;have dP:=Lib.hid X3;obtain ⟨bF,bH,bI,bM,-,-,-⟩:=X2.aJ;obtain ⟨aW,aX,aY,dK,-,-,-⟩:=X3.aJ;go_wp2_with fail;go_loopw [5] (fun u wr=>∃ k:Nat,k<=L.length/\u=.int .i64 k/\Below W1.heap.size W1 wr) (fun u _=>L.length-(intOf u).toNat)
 case atStart => exact ⟨0,Nat.zero_le _,rfl,bR W1⟩
 case round =>
  obtain ⟨k,hk,rfl,hb⟩:=hrel;obtain ⟨wo,rfl⟩:∃ wo:World,wo=wr:=⟨_,rfl⟩;have Hb:=Lib.hid hb;clear hb X2 bF bH bI bM X3 aW aX aY dK;have X2:=eF.out.keep Hb.out;have X3:=dP.out.keep Hb.out
  try clear bF
  try clear bH
  try clear bI
  try clear bM
  obtain ⟨bF,bH,bI,bM,-,-,-⟩:=X2.aJ
  try clear aW
  try clear aX
  try clear aY
  try clear dK
  obtain ⟨aW,aX,aY,dK,-,-,-⟩:=X3.aJ;by_cases hlt:k<L.length
  ·obtain ⟨b,o,rfl,hlb,c0,c1,c2⟩:=(HRn.out.mono (bT HB1.out Hb.out)).nd hlt;obtain ⟨b',o',rfl,Ah,d0,d1,d2⟩:=(Kr.out.mono (bT HB1.out Hb.out)).nd hlt;generalize L[k]=n at *;have hE:=abn n n;have ht:(!decide (n=n))=false:=by simp
   rw [ht] at hE;clear ht;have k1:(k:Int)<L.length:=by omega
   have k2:0<=(k:Int):=by omega
   go_upto_region 6 with fail;refine dN (Since wo) (.run 11 0 0 (.done)) (by kernel_rfl) (bD (bR _)) (by kernel_rfl) (by kernel_rfl) (Nat.le_of_ble_eq_true (by kernel_rfl)) ?_;intro dO QR aj aA hS
   iterate 11
    apply aH;exact aj;exact rfl;exact hS;exact rfl
    · intro _ hqc;go_simp;try rfl
    try simp only [pu]
   refine dF ?_;refine aA.down _ _ ?_;have hB:Below wo.heap.size wo wo.drew:=hS;clear hS aA aj;have HB4:=Lib.hid (bT Hb.out hB);clear hB X2 bF bH bI bM X3 aW aX aY dK c0 c1 c2 d0 d1 d2 hE;go_wp2_with fail;go_roundw
   case rel => exact ⟨k+1,by omega,by go_num,HB4.out⟩
   case measure => simp [intOf];omega
  ·have k1:¬ (k:Int)<L.length:=by omega
   clear hlt;go_wp2_with fail;go_loopw [6] (fun u wr=>∃ k:Nat,k<=al.length/\u=.int .i64 k/\Below W1.heap.size W1 wr) (fun u _=>al.length-(intOf u).toNat)
   case atStart => exact ⟨0,Nat.zero_le _,rfl,Hb.out⟩
   case round =>
    obtain ⟨j,hj,rfl,hb⟩:=hrel;obtain ⟨wi,rfl⟩:∃ wi:World,wi=wr:=⟨_,rfl⟩;have Hb2:=Lib.hid hb;clear hb X2 bF bH bI bM X3 aW aX aY dK;have X2:=eF.out.keep Hb2.out;have X3:=dP.out.keep Hb2.out
    try clear bF
    try clear bH
    try clear bI
    try clear bM
    obtain ⟨bF,bH,bI,bM,-,-,-⟩:=X2.aJ
    try clear aW
    try clear aX
    try clear aY
    try clear dK
    obtain ⟨aW,aX,aY,dK,-,-,-⟩:=X3.aJ;by_cases hlt:j<al.length
    ·have hlt':j<bl.length:=by rw [mX.out];exact hlt
     obtain ⟨b,o,rfl,hlb,c0,c1,c2,c3,c4,c5⟩:=(iV.out.mono (bT HB1.out Hb2.out)).ar hlt;obtain ⟨b',o',rfl,Ah,d0,d1,d2,d3,d4,d5⟩:=(Nj.out.mono (bT HB1.out Hb2.out)).ar hlt';have v1:=HV.out j hlt;have v2:=HU.out j hlt';obtain ⟨Av,cv,hva,-⟩:=id v1;obtain ⟨Au,cu,Tm,-⟩:=id v2;have hh:=HAt.out j hlt hlt';rw [<- hh] at d0 d1 d2 d4 d5 Tm v2;rw [hva] at c3 v1;rw [Tm] at d3 v2;generalize al[j].1=a at *;have HS:=Lib.hid (fun W (hW:Below w.heap.size w W)=>show Calls Tryz.prog 68 #[gZ a (.slice Av a.via.length cv),gZ a (.slice Au a.via.length cu)] W fun e w'=>e=.returned (.bool true)/\Below W.heap.size W w' from by
      have t:=abO a a _ _ W (v1.mono hW) (v2.mono hW);rw [decide_eq_true rfl] at t;exact t)
     unfold gZ at HS;have k1:(j:Int)<al.length:=by omega
     have k2:0<=(j:Int):=by omega
     clear v1 v2 hva Tm hh;go_upto_region 11 with fail;refine dN (Since wi) (.run 10 0 0 (.call 10 2047 (.take 11 4095 (.done)))) (by kernel_rfl) (bD (bR _)) (by kernel_rfl) (by kernel_rfl) (Nat.le_of_ble_eq_true (by kernel_rfl)) ?_;intro dO QR aj aA hS
     iterate 10
      apply aH;exact aj;exact rfl;exact hS;exact rfl
      · intro _ hqc;go_simp;try rfl
      try simp only [pu]
     refine aS (i:=10) (aB aj rfl) (fun K hK=>?_);have ak:=Lib.hid hS;clear hS;refine aG (aN rfl) ?_;go_simp;refine (HS.out _ (bT (bT HB1.out Hb2.out) (bD (bR wi)))).mono ?_;rintro e bY ⟨rfl,dB⟩;have hS:Since wi bY:=bT (w:=wi) ak.out dB;clear ak;refine hK.out _ _ hS (fun _=>?_);clear hK K
     try simp only [pu]
     apply aH;exact aj;exact rfl;exact hS;exact rfl
     · intro _ hqc;go_simp;try rfl
     try simp only [pu]
     refine dF ?_;refine aA.down _ _ ?_;have hB:Below wi.heap.size wi bY:=hS;clear hS aA aj;have HB4:=Lib.hid (bT Hb2.out hB);clear hB X2 bF bH bI bM X3 aW aX aY dK c0 c1 c2 c3 c4 c5 d0 d1 d2 d3 d4 d5;go_wp2_with fail;go_roundw
     case rel => exact ⟨j+1,by omega,by go_num,HB4.out⟩
     case measure => simp [intOf];omega
    ·have k3:¬ (j:Int)<al.length:=by omega
     clear hlt;go_wp2_with fail;go_loopw [7] (fun u wr=>∃ k:Nat,k<=F.length/\u=.int .i64 k/\Below W1.heap.size W1 wr) (fun u _=>F.length-(intOf u).toNat)
     case atStart => exact ⟨0,Nat.zero_le _,rfl,Hb2.out⟩
     case round =>
      obtain ⟨i,hi,rfl,hb⟩:=hrel;obtain ⟨wf,rfl⟩:∃ wf:World,wf=wr:=⟨_,rfl⟩;have Hb3:=Lib.hid hb;clear hb X2 bF bH bI bM X3 aW aX aY dK;have X2:=eF.out.keep Hb3.out;have X3:=dP.out.keep Hb3.out
      try clear bF
      try clear bH
      try clear bI
      try clear bM
      obtain ⟨bF,bH,bI,bM,-,-,-⟩:=X2.aJ
      try clear aW
      try clear aX
      try clear aY
      try clear dK
      obtain ⟨aW,aX,aY,dK,-,-,-⟩:=X3.aJ;by_cases hlt:i<F.length
      ·obtain ⟨b,o,rfl,hlb,c0⟩:=(HRf.out.mono (bT HB1.out Hb3.out)).int hlt;obtain ⟨b',o',rfl,Ah,d0⟩:=(HSf.out.mono (bT HB1.out Hb3.out)).int hlt;generalize F[i]=x at *;have k4:(i:Int)<F.length:=by omega
       have k5:0<=(i:Int):=by omega
       go_upto_region 16 with fail;refine dN (Since wf) (.run 11 0 0 (.done)) (by kernel_rfl) (bD (bR _)) (by kernel_rfl) (by kernel_rfl) (Nat.le_of_ble_eq_true (by kernel_rfl)) ?_;intro dO QR aj aA hS
       iterate 11
        apply aH;exact aj;exact rfl;exact hS;exact rfl
        · intro _ hqc;go_simp;try rfl
        try simp only [pu]
       refine dF ?_;refine aA.down _ _ ?_;have hB:Below wf.heap.size wf wf.drew:=hS;clear hS aA aj;have HB4:=Lib.hid (bT Hb3.out hB);clear hB X2 bF bH bI bM X3 aW aX aY dK c0 d0;go_wp2_with fail;go_roundw
       case rel => exact ⟨i+1,by omega,by go_num,HB4.out⟩
       case measure => simp [intOf];omega
      ·have k4:¬ (i:Int)<F.length:=by omega
       go_wp2_with fail;go_ret;exact ⟨rfl,bT HB1.out Hb3.out⟩
set_option maxHeartbeats 1000000 in
theorem aiP (a b c:Pt) (w:World) :
  Calls Tryz.prog 152 #[aF a,aF b,aF c] w fun e w'=>e=.returned (.int .i64 (jF a b c))/\Below w.heap.size w w':=by
 cases hn:dU [a,b,c]
 ·unfold aF;go_enter Tryz.func152,Tryz.ntmps152;go_wp2_with fail;refine (Ji _ [a,b,c] _ (bU.vX (ah.made (by simp) _ _))).mono ?_;rintro e w1 ⟨rfl,hb1⟩;rw [hn];go_wp2_with fail;go_ret;refine ⟨dY (by simp [jF,hn]),?_⟩
  repeat (first | with_reducible exact bR _ | with_reducible assumption | with_reducible refine bA ?_ _ | with_reducible refine bD ?_ | with_reducible refine bN ?_ _ | ((with_reducible refine bS ?_ ?_ _);rotate_left;(simp;try omega)) | ((with_reducible refine bT ?_ ?_);rotate_left;with_reducible assumption) | with_reducible refine bT ?_ (by assumption))
 ·obtain ⟨ha,hb,hc⟩:=Fv hn;have TC:∀ W,Calls Tryz.prog 213 #[aF a,aF b,aF a,aF c] W _:=fun W=>UE a b a c W ha hb ha hc;have Hs:=Lib.hid (show aC a b a c=jF a b c by unfold jF;rw [if_pos hn];rfl);generalize aC a b a c=cr at *;unfold aF at TC ⊢;have HC:=Lib.hid TC;clear TC;clear ha hb hc;go_enter Tryz.func152,Tryz.ntmps152;go_wp2_with fail;refine (Ji _ [a,b,c] _ (bU.vX (ah.made (by simp) _ _))).mono ?_;rintro e w1 ⟨rfl,hb1⟩;rw [hn];have Bw:Below w.heap.size w w1:=by
   repeat (first | with_reducible exact bR _ | with_reducible assumption | with_reducible refine bA ?_ _ | with_reducible refine bD ?_ | with_reducible refine bN ?_ _ | ((with_reducible refine bS ?_ ?_ _);rotate_left;(simp;try omega)) | ((with_reducible refine bT ?_ ?_);rotate_left;with_reducible assumption) | with_reducible refine bT ?_ (by assumption))
  have X3:ah _ (w.heap.size) 39 #[.int .i64 a.x,.int .i64 a.y]:=ah.keep (by repeat (first | exact ah.made (by simp) _ _ | refine ah.alloc ?_ _)) hb1;have X4:ah _ (w.heap.size+1) 39 #[.int .i64 b.x,.int .i64 b.y]:=ah.keep (by repeat (first | exact ah.made (by simp) _ _ | refine ah.alloc ?_ _)) hb1;have X5:ah _ (w.heap.size+1+1) 39 #[.int .i64 c.x,.int .i64 c.y]:=ah.keep (by repeat (first | exact ah.made (by simp) _ _ | refine ah.alloc ?_ _)) hb1;clear hb1;obtain ⟨aW,aX,aY,-,-⟩:=X3.aO;obtain ⟨aU,aV,bQ,-,-⟩:=X4.aO;obtain ⟨bV,bW,dH,-,-⟩:=X5.aO;go_wp2_with fail;refine (HC.out _).mono ?_;rintro e w2 ⟨rfl,hb2⟩;go_wp2_with fail;go_ret;refine ⟨dY Hs.out,?_⟩
  repeat (first | with_reducible exact bR _ | with_reducible assumption | with_reducible refine bA ?_ _ | with_reducible refine bD ?_ | with_reducible refine bN ?_ _ | ((with_reducible refine bS ?_ ?_ _);rotate_left;(simp;try omega)) | ((with_reducible refine bT ?_ ?_);rotate_left;with_reducible assumption) | with_reducible refine bT ?_ (by assumption))
set_option maxHeartbeats 400000 in
theorem Tn (a b c:Pt) (w:World) :
  Calls Tryz.prog 151 #[aF a,aF b,aF c] w fun e w'=>e=.returned (.int .i64 (bC a b c))/\Below w.heap.size w w':=by
 have T:∀ W,Calls Tryz.prog 152 #[aF a,aF b,aF c] W _:=fun W=>aiP a b c W;unfold aF at T ⊢;unfold bC;generalize jF a b c=t at *;have HT:=Lib.hid T;clear T;go_enter Tryz.func151,Tryz.ntmps151;go_wp2_with fail;refine (HT.out _).mono ?_;rintro e w1 ⟨rfl,hb1⟩;go_wp2_with fail
 all_goals
  go_ret;refine ⟨dY rfl,?_⟩
  repeat (first | with_reducible exact bR _ | with_reducible assumption | with_reducible refine bA ?_ _ | with_reducible refine bD ?_ | with_reducible refine bN ?_ _ | ((with_reducible refine bS ?_ ?_ _);rotate_left;(simp;try omega)) | ((with_reducible refine bT ?_ ?_);rotate_left;with_reducible assumption) | with_reducible refine bT ?_ (by assumption))
theorem Tq (a b q:Pt) (w:World) :
  Calls Tryz.prog 150 #[aF a,aF b,aF q] w fun e w'=>e=.returned (.bool (dV a b q))/\Below w.heap.size w w':=by
 rw [Ob];exact abG a b q w
set_option maxRecDepth 100000 in
set_option maxHeartbeats 4000000 in
theorem aiQ (v:Value) (a b c q:Pt) (w:World) (h:bU w v [a,b,c]) :
  Calls Tryz.prog 98 #[v,aF q] w fun e w'=>e=.returned (.bool (oK a b c q))/\Below w.heap.size w w':=by
 have jI:=Lib.hid (fun W=>Tq a b q W);have iT:=Lib.hid (fun W=>Tq b c q W);have iC:=Lib.hid (fun W=>Tq c a q W);have oJ:=Lib.hid (fun W=>Tn a b q W);have HS2:=Lib.hid (fun W=>Tn b c q W);have uJ:=Lib.hid (fun W=>Tn c a q W);obtain ⟨R,hR⟩:∃ R,oK a b c q=R:=⟨_,rfl⟩;rw [hR];unfold oK at hR;obtain ⟨A,cc,rfl,hn,hc,xW⟩:=h;obtain ⟨g,o,rfl,hlb,a0,a1⟩:=xW.pt (k:=0) (by simp);obtain ⟨g',o',he,-,b0,b1⟩:=xW.pt (k:=1) (by simp);simp only [Option.some.injEq,Addr.mk.injEq,and_true] at he;obtain ⟨rfl,rfl⟩:=he;obtain ⟨g',o',he,-,c0,c1⟩:=xW.pt (k:=2) (by simp);simp only [Option.some.injEq,Addr.mk.injEq,and_true] at he;obtain ⟨rfl,rfl⟩:=he;simp only [List.getElem_cons_zero,List.getElem_cons_succ,Nat.zero_mul,Nat.add_zero,Nat.one_mul,Nat.reduceMul,Nat.add_assoc,Nat.reduceAdd] at a0 a1 b0 b1 c0 c1;simp only [List.length_cons,List.length_nil] at hn hc ⊢;clear xW hn hc;unfold aF at jI iT iC oJ HS2 uJ ⊢;generalize dV a b q=o1 at *;generalize dV b c q=o2 at *;generalize dV c a q=o3 at *;generalize bC a b q=s1 at *;generalize bC b c q=s2 at *;generalize bC c a q=s3 at *;have HR:=Lib.hid hR;clear hR;go_enter Tryz.func98,Tryz.ntmps98;go_upto_region 1 with fail;obtain ⟨W1,hW⟩:∃ W:World,W=w.alloc (.cells #[.int .i64 q.x,.int .i64 q.y] 39):=⟨_,rfl⟩;have X3:ah W1 w.heap.size 39 #[.int .i64 q.x,.int .i64 q.y]:=by rw [hW];exact ah.made rfl _ _
 have hB1:Below w.heap.size w W1:=by rw [hW];exact bA (bR w) _
 have HB1:=Lib.hid hB1;rw [<- hW];clear hW;have Hg:=Lib.hid (show ∀ W,Below W1.heap.size W1 W->g<W.heap.size/\W.cell? ⟨g,o,none⟩=some (.int .i64 a.x)/\W.cell? ⟨g,o+1,none⟩=some (.int .i64 a.y)/\W.cell? ⟨g,o+2,none⟩=some (.int .i64 b.x)/\W.cell? ⟨g,o+3,none⟩=some (.int .i64 b.y)/\W.cell? ⟨g,o+4,none⟩=some (.int .i64 c.x)/\W.cell? ⟨g,o+5,none⟩=some (.int .i64 c.y) from by
  intro W hW;have hb:=bT hB1 hW;exact ⟨Nat.lt_of_lt_of_le hlb hb.size,(hb.cell hlb).trans a0,(hb.cell hlb).trans a1,(hb.cell hlb).trans b0,(hb.cell hlb).trans b1,(hb.cell hlb).trans c0,(hb.cell hlb).trans c1⟩)
 clear a0 a1 b0 b1 c0 c1 hB1;obtain ⟨hg1,a0,a1,b0,b1,c0,c1⟩:=Hg.out W1 (bR W1);clear hlb;have dP:=Lib.hid X3;obtain ⟨aW,aX,aY,-,-⟩:=X3.aO
 cases o1
 case true =>
  refine dN (Since W1) (.run 7 0 0 (.call 7 255 (.run 20 8 255 (.done)))) (by kernel_rfl) (bD (bR _)) (by kernel_rfl) (by kernel_rfl) (Nat.le_of_ble_eq_true (by kernel_rfl)) ?_;intro dO QR aj aA hS
  iterate 7
   apply aH;exact aj;exact rfl;exact hS;exact rfl
   · intro _ hqc;go_simp;try rfl
   try simp only [pu]
  refine aS (i:=7) (aB aj rfl) (fun K hK=>?_);have ak:=Lib.hid hS;clear hS;refine aG (aN rfl) ?_;go_simp;refine (jI.out _).mono ?_;rintro e bY ⟨rfl,dB⟩;have hS:Since W1 bY:=bT (w:=W1) ak.out dB;clear ak;refine hK.out _ _ hS (fun _=>?_);clear hK K
  try simp only [pu]
  apply aH;exact aj;exact rfl;exact hS;exact rfl
  · intro _ hqc;go_simp;try rfl
  try simp only [pu]
  iterate 8
   refine iH aj rfl hS rfl rfl rfl rfl rfl ?_
   try simp only [pu]
  iterate 2
   apply aH;exact aj;exact rfl;exact hS;exact rfl
   · intro _ hqc;go_simp;try rfl
   try simp only [pu]
  iterate 8
   refine iH aj rfl hS rfl rfl rfl rfl rfl ?_
   try simp only [pu]
  apply aH;exact aj;exact rfl;exact hS;exact rfl
  · intro _ hqc;go_simp;try rfl
  try simp only [pu]
  refine dF ?_;refine aA.down _ _ ?_;have hB:Below W1.heap.size W1 bY:=hS;clear hS aA aj;have HB:=Lib.hid (bT HB1.out hB);clear hB;go_wp2_with fail;go_ret;exact ⟨aT (by rw [<- HR.out];rfl),HB.out⟩
 cases o2
 case true =>
  refine dN (Since W1) (.run 7 0 0 (.call 7 255 (.run 8 8 255 (.call 16 131071 (.run 11 17 131071 (.done)))))) (by kernel_rfl) (bD (bR _)) (by kernel_rfl) (by kernel_rfl) (Nat.le_of_ble_eq_true (by kernel_rfl)) ?_;intro dO QR aj aA hS
  iterate 7
   apply aH;exact aj;exact rfl;exact hS;exact rfl
   · intro _ hqc;go_simp;try rfl
   try simp only [pu]
  refine aS (i:=7) (aB aj rfl) (fun K hK=>?_);have ak:=Lib.hid hS;clear hS;refine aG (aN rfl) ?_;go_simp;refine (jI.out _).mono ?_;rintro e bY ⟨rfl,dB⟩;have hS:Since W1 bY:=bT (w:=W1) ak.out dB;clear ak;refine hK.out _ _ hS (fun _=>?_);clear hK K
  try simp only [pu]
  apply aH;exact aj;exact rfl;exact hS;exact rfl
  · intro _ hqc;go_simp;try rfl
  try simp only [pu]
  iterate 7
   apply dw;exact aj;exact rfl;exact hS;iterate 4 exact rfl
   · intro _ hqc;go_simp;try rfl
   try simp only [pu]
  refine aS (i:=16) (aB aj rfl) (fun K hK=>?_);have ak:=Lib.hid hS;clear hS;refine aG (ig rfl (aB aj rfl) rfl rfl) ?_;go_simp;refine (iT.out _).mono ?_;rintro e wr2 ⟨rfl,fG⟩;have hS:Since W1 wr2:=bT (w:=W1) ak.out fG;clear ak;refine hK.out _ _ hS (fun _=>?_);clear hK K
  try simp only [pu]
  iterate 2
   apply aH;exact aj;exact rfl;exact hS;exact rfl
   · intro _ hqc;go_simp;try rfl
   try simp only [pu]
  iterate 8
   refine iH aj rfl hS rfl rfl rfl rfl rfl ?_
   try simp only [pu]
  apply aH;exact aj;exact rfl;exact hS;exact rfl
  · intro _ hqc;go_simp;try rfl
  try simp only [pu]
  refine dF ?_;refine aA.down _ _ ?_;have hB:Below W1.heap.size W1 wr2:=hS;clear hS aA aj;have HB:=Lib.hid (bT HB1.out hB);clear hB;go_wp2_with fail;go_ret;exact ⟨aT (by rw [<- HR.out];rfl),HB.out⟩
 cases o3
 case true =>
  refine dN (Since W1) (.run 7 0 0 (.call 7 255 (.run 8 8 255 (.call 16 131071 (.run 9 17 131071 (.call 26 134217727 (.take 27 268435455 (.done)))))))) (by kernel_rfl) (bD (bR _)) (by kernel_rfl) (by kernel_rfl) (Nat.le_of_ble_eq_true (by kernel_rfl)) ?_;intro dO QR aj aA hS
  iterate 7
   apply aH;exact aj;exact rfl;exact hS;exact rfl
   · intro _ hqc;go_simp;try rfl
   try simp only [pu]
  refine aS (i:=7) (aB aj rfl) (fun K hK=>?_);have ak:=Lib.hid hS;clear hS;refine aG (aN rfl) ?_;go_simp;refine (jI.out _).mono ?_;rintro e bY ⟨rfl,dB⟩;have hS:Since W1 bY:=bT (w:=W1) ak.out dB;clear ak;refine hK.out _ _ hS (fun _=>?_);clear hK K
  try simp only [pu]
  apply aH;exact aj;exact rfl;exact hS;exact rfl
  · intro _ hqc;go_simp;try rfl
  try simp only [pu]
  iterate 7
   apply dw;exact aj;exact rfl;exact hS;iterate 4 exact rfl
   · intro _ hqc;go_simp;try rfl
   try simp only [pu]
  refine aS (i:=16) (aB aj rfl) (fun K hK=>?_);have ak:=Lib.hid hS;clear hS;refine aG (ig rfl (aB aj rfl) rfl rfl) ?_;go_simp;refine (iT.out _).mono ?_;rintro e wr2 ⟨rfl,fG⟩;have hS:Since W1 wr2:=bT (w:=W1) ak.out fG;clear ak;refine hK.out _ _ hS (fun _=>?_);clear hK K
  try simp only [pu]
  iterate 2
   apply aH;exact aj;exact rfl;exact hS;exact rfl
   · intro _ hqc;go_simp;try rfl
   try simp only [pu]
  iterate 7
   apply dw;exact aj;exact rfl;exact hS;iterate 4 exact rfl
   · intro _ hqc;go_simp;try rfl
   try simp only [pu]
  refine aS (i:=26) (aB aj rfl) (fun K hK=>?_);have ak:=Lib.hid hS;clear hS;refine aG (ig rfl (aB aj rfl) rfl rfl) ?_;go_simp;refine (iC.out _).mono ?_;rintro e wr3 ⟨rfl,jG⟩;have hS:Since W1 wr3:=bT (w:=W1) ak.out jG;clear ak;refine hK.out _ _ hS (fun _=>?_);clear hK K
  try simp only [pu]
  apply aH;exact aj;exact rfl;exact hS;exact rfl
  · intro _ hqc;go_simp;try rfl
  try simp only [pu]
  refine dF ?_;refine aA.down _ _ ?_;have hB:Below W1.heap.size W1 wr3:=hS;clear hS aA aj;have HB:=Lib.hid (bT HB1.out hB);clear hB;go_wp2_with fail;go_ret;exact ⟨aT (by rw [<- HR.out];rfl),HB.out⟩
 refine dN (Since W1) (.run 7 0 0 (.call 7 255 (.run 8 8 255 (.call 16 131071 (.run 9 17 131071 (.call 26 134217727 (.take 27 268435455 (.done)))))))) (by kernel_rfl) (bD (bR _)) (by kernel_rfl) (by kernel_rfl) (Nat.le_of_ble_eq_true (by kernel_rfl)) ?_;intro dO QR aj aA hS
 iterate 7
  apply aH;exact aj;exact rfl;exact hS;exact rfl
  · intro _ hqc;go_simp;try rfl
  try simp only [pu]
 refine aS (i:=7) (aB aj rfl) (fun K hK=>?_);have ak:=Lib.hid hS;clear hS;refine aG (aN rfl) ?_;go_simp;refine (jI.out _).mono ?_;rintro e bY ⟨rfl,dB⟩;have hS:Since W1 bY:=bT (w:=W1) ak.out dB;clear ak;refine hK.out _ _ hS (fun _=>?_);clear hK K
 try simp only [pu]
 apply aH;exact aj;exact rfl;exact hS;exact rfl
 · intro _ hqc;go_simp;try rfl
 try simp only [pu]
 iterate 7
  apply dw;exact aj;exact rfl;exact hS;iterate 4 exact rfl
  · intro _ hqc;go_simp;try rfl
  try simp only [pu]
 refine aS (i:=16) (aB aj rfl) (fun K hK=>?_);have ak:=Lib.hid hS;clear hS;refine aG (ig rfl (aB aj rfl) rfl rfl) ?_;go_simp;refine (iT.out _).mono ?_;rintro e wr2 ⟨rfl,fG⟩;have hS:Since W1 wr2:=bT (w:=W1) ak.out fG;clear ak;refine hK.out _ _ hS (fun _=>?_);clear hK K
 try simp only [pu]
 iterate 2
  apply aH;exact aj;exact rfl;exact hS;exact rfl
  · intro _ hqc;go_simp;try rfl
  try simp only [pu]
 iterate 7
  apply dw;exact aj;exact rfl;exact hS;iterate 4 exact rfl
  · intro _ hqc;go_simp;try rfl
  try simp only [pu]
 refine aS (i:=26) (aB aj rfl) (fun K hK=>?_);have ak:=Lib.hid hS;clear hS;refine aG (ig rfl (aB aj rfl) rfl rfl) ?_;go_simp;refine (iC.out _).mono ?_;rintro e wr3 ⟨rfl,jG⟩;have hS:Since W1 wr3:=bT (w:=W1) ak.out jG;clear ak;refine hK.out _ _ hS (fun _=>?_);clear hK K
 try simp only [pu]
 apply aH;exact aj;exact rfl;exact hS;exact rfl
 · intro _ hqc;go_simp;try rfl
 try simp only [pu]
 refine dF ?_;refine aA.down _ _ ?_;have hB:Below W1.heap.size W1 wr3:=hS;clear hS aA aj;obtain ⟨W2,hW2⟩:∃ W:World,W=wr3:=⟨_,rfl⟩;rw [<- hW2] at hB ⊢;clear hW2;have HB:=Lib.hid hB;have HB2:=Lib.hid (bT HB1.out hB);clear hB X3 aW aX aY hg1 a0 a1 b0 b1 c0 c1;obtain ⟨hg1,a0,a1,b0,b1,c0,c1⟩:=Hg.out W2 HB.out;have X3:=dP.out.keep HB.out
 try clear aW
 try clear aX
 try clear aY
 obtain ⟨aW,aX,aY,-,-⟩:=X3.aO;go_upto_region 3 with fail;refine dN (Since W2) (.run 7 0 0 (.run 7 8 127 (.run 7 16 32639 (.call 7 8355839 (.call 15 8388607 (.call 23 16777215 (.run 3 24 16777215 (.done)))))))) (by kernel_rfl) (bD (bR _)) (by kernel_rfl) (by kernel_rfl) (Nat.le_of_ble_eq_true (by kernel_rfl)) ?_;intro dO QR aj aA hS
 iterate 21
  apply aH;exact aj;exact rfl;exact hS;exact rfl
  · intro _ hqc;go_simp;try rfl
  try simp only [pu]
 refine aS (i:=7) (aB aj rfl) (fun K hK=>?_);have ak:=Lib.hid hS;clear hS;refine aG (aN rfl) ?_;go_simp;refine (oJ.out _).mono ?_;rintro e bY ⟨rfl,dB⟩;have hS:Since W2 bY:=bT (w:=W2) ak.out dB;clear ak;refine hK.out _ _ hS (fun _=>?_);clear hK K
 try simp only [pu]
 refine aS (i:=15) (aB aj rfl) (fun K hK=>?_);have ak:=Lib.hid hS;clear hS;refine aG (aN rfl) ?_;go_simp;refine (HS2.out _).mono ?_;rintro e wr2 ⟨rfl,fG⟩;have hS:Since W2 wr2:=bT (w:=W2) ak.out fG;clear ak;refine hK.out _ _ hS (fun _=>?_);clear hK K
 try simp only [pu]
 refine aS (i:=23) (aB aj rfl) (fun K hK=>?_);have ak:=Lib.hid hS;clear hS;refine aG (aN rfl) ?_;go_simp;refine (uJ.out _).mono ?_;rintro e wr3 ⟨rfl,jG⟩;have hS:Since W2 wr3:=bT (w:=W2) ak.out jG;clear ak;refine hK.out _ _ hS (fun _=>?_);clear hK K
 try simp only [pu]
 iterate 3
  apply aH;exact aj;exact rfl;exact hS;exact rfl
  · intro _ hqc;go_simp;try rfl
  try simp only [pu]
 refine dF ?_;refine aA.down _ _ ?_;have hB:Below W2.heap.size W2 wr3:=hS;clear hS aA aj;have HB3:=Lib.hid (bT HB2.out hB);clear hB X3 aW aX aY hg1 a0 a1 b0 b1 c0 c1;have hR:=HR.out;simp only [Bool.false_or] at hR;by_cases e1:s1=0
 ·have f1:(s1 != 0)=false:=by simpa using e1
  have hf:=Lib.hid (show false=R by rw [<- hR];simp [e1]);clear hR e1;go_wp2_with fail;go_ret;exact ⟨aT hf.out,HB3.out⟩
 have f1:(s1 != 0)=true:=by simpa using e1
 by_cases e2:s1=s2
 ·have f2:(s1 == s2)=true:=by simpa using e2
  by_cases e3:s2=s3
  ·have f3:(s2 == s3)=true:=by simpa using e3
   have hf:=Lib.hid (show true=R by rw [<- hR];simp [e1,e2,e3];omega);clear hR e1 e2 e3;go_wp2_with fail;go_ret;exact ⟨aT hf.out,HB3.out⟩
  ·have f3:(s2 == s3)=false:=by simpa using e3
   have hf:=Lib.hid (show false=R by rw [<- hR];simp [e3]);clear hR e1 e2 e3;go_wp2_with fail;go_ret;exact ⟨aT hf.out,HB3.out⟩
 ·have f2:(s1 == s2)=false:=by simpa using e2
  have hf:=Lib.hid (show false=R by rw [<- hR];simp [e2]);clear hR e1 e2;go_wp2_with fail;go_ret;exact ⟨aT hf.out,HB3.out⟩
end Go.Proofs.YtialfdomhoojiaaGreat
