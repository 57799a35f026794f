import Derived.Deep.LoopGhost
import Derived.Test.YtialfdomhoojiaaGreatLaySortRg
import Derived.Test.YtialfdomhoojiaaGreatJ32
set_option linter.unusedSimpArgs false
set_option linter.unusedVariables false
set_option maxRecDepth 100000
set_option maxHeartbeats 8000000
namespace Go.Proofs.YtialfdomhoojiaaGreat
open Go.RowKit
def MK:List Pt:=[⟨10,0⟩,⟨10,10⟩,⟨0,10⟩]
def pl0:Pl:=⟨[],[],[]⟩
def aiH:Array Value:=#[.int .i64 10,.int .i64 0,.int .i64 10,.int .i64 10,.int .i64 0,.int .i64 10]
def aiI (gv nv cv:Nat) (left:Int):Array Value:=#[.int .i64 1,.int .i64 1,.int .i64 1,.slice (some ⟨gv,0,none⟩) nv cv,.int .i64 left,.int .i64 0]
theorem bQ.blocks {w:World} {vn va vf:Value} {p:Pl} {al:List (Ar×Value)} (hp:p.aj=al.map (·.1)) (hn:DV w vn p.nodes) (ha:Sl w va al.length (al.flatMap J4)) (hv:H9 w al) (hf:Ints w vf p.faces):bQ w (.agg #[vn,va,vf]) p :=
 ⟨vn,va,vf,al,rfl,hp,hn,⟨ha,hv⟩,hf⟩
theorem bQ.zero (w:World):bQ w (.agg #[.slice none 0 0,.slice none 0 0,.slice none 0 0]) pl0 :=
 bQ.blocks (al:=[]) rfl (Sl.nil w) (Sl.nil w) (fun k hk=>by simp at hk) (Sl.nil w)
theorem aiJ {w:World} {a:Ar} {u:Value} (h:dM w u a.via):H9 w [(a,u)]:=fun k hk=>by
 have:k=0:=by simpa using hk
 subst this;exact h
theorem bQ.ex {w:World} {vn:Value} {l:List Nd} {a v f n c:Nat} {left:Int} {via:List Pt} (hn:DV w vn l) (ha:ah w a 50 (aiI v n c left)) (hv:dM w (.slice (some ⟨v,0,none⟩) n c) via) (hf:ah w f 3 #[.int .i64 1]) :
  bQ w (.agg #[vn,.slice (some ⟨a,0,none⟩) 1 1,.slice (some ⟨f,0,none⟩) 1 1]) ⟨l,[⟨1,1,1,via,left,0⟩],[1]⟩ :=
 bQ.blocks (al:=[(⟨1,1,1,via,left,0⟩,.slice (some ⟨v,0,none⟩) n c)]) rfl hn (Sl.lit (n:=1) ha rfl (dP Pe)) (aiJ hv) (Sl.lit (n:=1) hf rfl (dP Pe))
theorem asJ {w:World} {v:Nat} (h:ah w v 39 aiH):dM w (.slice (some ⟨v,0,none⟩) 3 3) MK:=Sl.lit (n:=3) h rfl (dP Pe)
theorem aiK (arc:Int) (i:Nat):∀ l:List Ar,(uj arc i l).map (·.id)=l.map (·.id)
 | []=>rfl
 | a::l=>by
  unfold uj;split
  · rfl
  · rw [List.map_cons,List.map_cons,aiK arc i l]
theorem aiL (arc:Int) (i:Nat) (M:Nat):∀ l:List Ar,(∀ a∈l,a.via.length<=M)->∀ a∈uj arc i l,a.via.length<=M
 | [],_,a,h=>by cases h
 | b::l,hl,a,h=>by
  unfold uj at h;split at h
  ·rcases av2.1 h with rfl | h
   ·have:=hl b av3
    show (b.via.eraseIdx i).length<=M
    rw [List.length_eraseIdx];split<;>omega
   · exact hl a (List.mem_cons_of_mem _ h)
  ·rcases av2.1 h with rfl | h
   · exact hl _ av3
   · exact aiL arc i M l (fun x hx=>hl x (List.mem_cons_of_mem _ hx)) a h
theorem aiM {p q:Pl} {aN:Int} (h:uY p aN=some q) (hm:mF p) (hw:∀ a∈p.aj,eU a.id):mF q/\(∀ a∈q.aj,eU a.id)/\q.nodes=p.nodes/\q.aj.length=p.aj.length/\q.faces=p.faces:=by
 unfold uY at h
 cases e:lY p aN with
 | none=>rw [e] at h;cases h
 | some c =>
  rw [e] at h;injection h with h;subst h;refine ⟨⟨hm.rU,by show (uj _ _ _).length<=_;rw [abv];exact hm.jX,aiL _ _ _ _ hm.via⟩,fun a ha=>?_,rfl,abv _ _ _,rfl⟩;have h1:a.id∈(uj c.id c.k p.aj).map (·.id):=awd ha;rw [aiK] at h1;obtain ⟨b,hb,e⟩:=av6.1 h1;rw [<- e];exact hw b hb
theorem kE.fG {w:World} {B B':Nat} {vn va vf:Value} {p:Pl} {bl:List (Ar×SV)} (h:kE w B vn va vf p bl) (hb:B'<=B):kE w B' vn va vf p bl :=
 ⟨h.rU.fG hb,h.jX.fG hb,fun x hx=>(h.uV x hx).fG hb,h.eq,h.DJ.fG hb⟩
theorem kE.ny {w:World} {B g:Nat} {vn va vf u0 u1 u2:Value} {cs:Array Value} {p:Pl} {bl:List (Ar×SV)} (h:kE w B vn va vf p bl) (hb:ah w g 26 cs):kE (((w.setCell ⟨g,0,none⟩ u0).setCell ⟨g,1,none⟩ u1).setCell ⟨g,2,none⟩ u2) B vn va vf p bl :=
 ((h.far hb arC arC arC arC 0 _).far (hb.fF 0 _) arC arC arC arC 1 _).far ((hb.fF 0 _).fF 1 _) arC arC arC arC 2 _
theorem zW {w W:World} (h:Below w.heap.size w W) {g:Nat} (hg:w.heap.size<=g) (u0 u1 u2:Value):Below w.heap.size w (((W.setCell ⟨g,0,none⟩ u0).setCell ⟨g,1,none⟩ u1).setCell ⟨g,2,none⟩ u2) :=
 bS (p:=⟨g,2,none⟩) (bS (p:=⟨g,1,none⟩) (bS (p:=⟨g,0,none⟩) h hg _) hg _) hg _
def stT (p:Pl):Option Pl->Pl×Bool×Int
 | none=>(p,false,0)
 | some q=>(q,true,0)
def Pg (p:Pl) (aN:Int):Pl×Bool×Int:=if qE p≠0 then (pl0,false,qE p) else stT p (uY p aN)
def Yh (w:World) (r:Pl×Bool×Int) (e:Ending) (w':World):Prop:=∃ v,e=.returned (.tuple #[v,.bool r.2.1,.int .i64 r.2.2])/\Below w.heap.size w w'/\bQ w' v r.1
def JW (p:Pl) (aN:Int):Pl×Int:=if qE p≠0 then (pl0,qE p) else (BQ p aN,0)
def Yi (w:World) (r:Pl×Int) (e:Ending) (w':World):Prop:=∃ v,e=.returned (.tuple #[v,.int .i64 r.2])/\Below w.heap.size w w'/\bQ w' v r.1
theorem aiN (v:Value) (p:Pl) (aN:Int) (w:World) (h:bQ w v p) (hm:mF p) (hf:p.faces.length<=1000000) (hw:∀ a∈p.aj,eU a.id):Calls Tryz.prog 42 #[v,.int .i64 aN] w (Yh w (Pg p aN)):=by
 have HC:=avE (fun W (hW:Below w.heap.size w W)=>aiF v p W (h.mono hW));have nU:=avE (fun W (hW:Below w.heap.size w W)=>ahw v p W (h.mono hW) hm hf);obtain ⟨_,_,_,al,rfl,hpa,⟨An,cn,rfl,-⟩,⟨⟨Aa,ca,rfl,-⟩,-⟩,⟨Af,cf,rfl,-⟩⟩:=h;have hal:al.length=p.aj.length:=by rw [hpa,avM]
 unfold Pg;by_cases hz:qE p=0
 case neg =>
  rw [if_pos hz];unfold Yh;generalize qE p=z at *;have hzb:(z != 0)=true:=by simpa using hz
  generalize p.nodes.length=nn at *;generalize p.faces.length=nf at *;generalize al.length=na at *;clear hz hpa hal hm hw nU;go_enter Tryz.func42,Tryz.ntmps42;go_upto_region 1 with fail;obtain ⟨g4,hg4⟩:∃ g,w.heap.size+1=g:=⟨_,rfl⟩;obtain ⟨W1,hW⟩:∃ W:World,W=(w.alloc (.cells #[.slice An nn cn,.slice Aa na ca,.slice Af nf cf] 26)).alloc (.cells #[.slice none 0 0,.slice none 0 0,.slice none 0 0] 26):=⟨_,rfl⟩;have X2:ah W1 w.heap.size 26 #[.slice An nn cn,.slice Aa na ca,.slice Af nf cf]:=by rw [hW];exact (ah.made rfl _ _).alloc _
  have dI:=avE (show ah W1 g4 26 #[.slice none 0 0,.slice none 0 0,.slice none 0 0] by rw [hW];exact ah.made (by rw [<- hg4];simp) _ _);have HB1:=avE (show Below w.heap.size w W1 by rw [hW];exact bA (bA (bR w) _) _);have hgw:w.heap.size<=g4:=by omega
  rw [<- hW]
  try rw [hg4]
  clear hW hg4;obtain ⟨aG,aI,aJ,aO,-,-,-⟩:=X2.aF;go_wp2_with fail;refine (HC.out _ HB1.out).mono ?_;rintro e w2 ⟨rfl,hb2⟩;have X4:=dI.out.keep hb2;have HB2:=avE (bT HB1.out hb2);clear hb2 X2 aG aI aJ aO;have kT:=avE X4;obtain ⟨aV,aX,bn,fA,dV,gy,iF⟩:=X4.aF;go_wp2_with fail;exact FP (g:=g4) (cs:=#[.slice none 0 0,.slice none 0 0,.slice none 0 0]) rfl yS rfl rfl (ah.ny kT.out) ⟨_,rfl,bS (p:=⟨g4,2,none⟩) (bS (p:=⟨g4,1,none⟩) (bS (p:=⟨g4,0,none⟩) HB2.out hgw _) hgw _) hgw _,bQ.zero _⟩
 rw [if_neg (by simpa using hz)];have hres:=fun B (bl:List (Ar×SV)) (An Aa Af:Option Addr) (cn ca cf:Nat) W (h:kE W B (.slice An p.nodes.length cn) (.slice Aa p.aj.length ca) (.slice Af p.faces.length cf) p bl) (hs:rX bl) (hB:B<=W.heap.size)=>ahF p aN An Aa Af cn ca cf B bl W h hs hB hm hw;have fU:=avE hres;rw [hz] at HC;rw [hal] at HC nU ⊢;clear hres hz hpa hm hw;generalize hnn:p.nodes.length=nn at *;generalize hnf:p.faces.length=nf at *;generalize hna:p.aj.length=na at *;have EI:=avE hnn;have yL:=avE hnf;have zV:=avE hna;obtain ⟨T,hT⟩:∃ T,uY p aN=T:=⟨_,rfl⟩;rw [hT] at fU ⊢;obtain ⟨r,hr⟩:∃ r:Pl×Bool×Int,stT p T=r:=⟨_,rfl⟩;rw [hr];have HR:=avE hr;clear hnn hnf hna hT hr hal hf;go_enter Tryz.func42,Tryz.ntmps42;go_upto_region 1 with fail;obtain ⟨g4,hg4⟩:∃ g,w.heap.size+1=g:=⟨_,rfl⟩;obtain ⟨W1,hW⟩:∃ W:World,W=(w.alloc (.cells #[.slice An nn cn,.slice Aa na ca,.slice Af nf cf] 26)).alloc (.cells #[.slice none 0 0,.slice none 0 0,.slice none 0 0] 26):=⟨_,rfl⟩;have X2:ah W1 w.heap.size 26 #[.slice An nn cn,.slice Aa na ca,.slice Af nf cf]:=by rw [hW];exact (ah.made rfl _ _).alloc _
 have dI:=avE (show ah W1 g4 26 #[.slice none 0 0,.slice none 0 0,.slice none 0 0] by rw [hW];exact ah.made (by rw [<- hg4];simp) _ _);have HB1:=avE (show Below w.heap.size w W1 by rw [hW];exact bA (bA (bR w) _) _);have hgw:w.heap.size<=g4:=by omega
 rw [<- hW]
 try rw [hg4]
 have dh:=avE X2;clear hW hg4
 try clear aG
 try clear aI
 try clear aJ
 try clear aO
 obtain ⟨aG,aI,aJ,aO,-,-,-⟩:=X2.aF;go_wp2_with fail;refine (HC.out _ HB1.out).mono ?_;rintro e w2 ⟨rfl,hb2⟩;have kT:=avE (dI.out.keep hb2);have jG:=avE (dh.out.keep hb2);have HB2:=avE (bT HB1.out hb2);clear hb2 X2 aG aI aJ aO dI dh HB1;have X2:=jG.out
 try clear aG
 try clear aI
 try clear aJ
 try clear aO
 obtain ⟨aG,aI,aJ,aO,-,-,-⟩:=X2.aF;go_upto_region 4 with fail;go_wp2_with fail;refine (nU.out _ HB2.out).mono ?_;rintro e w3 ⟨mG,mJ,yO,ca',yP,cf',bl,rfl,hb3,hpo,hsp⟩;rw [EI.out,zV.out,yL.out] at hpo ⊢;have X4:=kT.out.keep hb3;have qc:=avE X4;have HB3:=avE (bT HB2.out hb3);have wB:=avE (hpo.fG (B':=w.heap.size) HB2.out.size);have HS:=avE hsp;have au8:g4<w2.heap.size:=kT.out.lt;clear hb3 hpo hsp X2 aG aI aJ aO kT jG HB2
 try clear aV
 try clear aX
 try clear bn
 try clear fA
 try clear dV
 try clear gy
 try clear iF
 obtain ⟨aV,aX,bn,fA,dV,gy,iF⟩:=X4.aF;go_upto_region 5 with fail;obtain ⟨W4,hW⟩:∃ W:World,W=((w3.setCell ⟨g4,0,none⟩ (.slice mG nn mJ)).setCell ⟨g4,1,none⟩ (.slice yO na ca')).setCell ⟨g4,2,none⟩ (.slice yP nf cf'):=⟨_,rfl⟩;have JX:=avE (show ah W4 g4 26 #[.slice mG nn mJ,.slice yO na ca',.slice yP nf cf'] by rw [hW];exact ah.ny qc.out);have tu:=avE (show kE W4 w.heap.size (.slice mG nn mJ) (.slice yO na ca') (.slice yP nf cf') p bl by
  rw [hW];exact ((wB.out.far qc.out arC arC arC arC 0 _).far (qc.out.fF 0 _) arC arC arC arC 1 _).far ((qc.out.fF 0 _).fF 1 _) arC arC arC arC 2 _)
 have HB4:=avE (show Below w.heap.size w W4 by rw [hW];exact bS (p:=⟨g4,2,none⟩) (bS (p:=⟨g4,1,none⟩) (bS (p:=⟨g4,0,none⟩) HB3.out hgw _) hgw _) hgw _);rw [<- hW];clear hW X4 aV aX bn fA dV gy iF qc HB3 wB;have X4:=JX.out;have Hu:=avE (fU.out w.heap.size bl mG yO yP mJ ca' cf' W4 tu.out HS.out HB4.out.size)
 try clear aV
 try clear aX
 try clear bn
 try clear fA
 try clear dV
 try clear gy
 try clear iF
 obtain ⟨aV,aX,bn,fA,-,-,-⟩:=X4.aF;go_wp2_with fail;refine Hu.out.mono ?_
 cases T with
 | none =>
  rintro e w5 ⟨rfl,hb5⟩;have hr:=HR.out;subst hr;have zZ:=avE (JX.out.keep hb5);have qF:=avE (tu.out.keep hb5);have bC:=avE (bT HB4.out hb5);clear hb5 X4 aV aX bn fA JX tu HB4 Hu;have X4:=zZ.out
  try clear aV
  try clear aX
  try clear bn
  try clear fA
  try clear dV
  try clear gy
  try clear iF
  obtain ⟨aV,aX,bn,fA,dV,gy,iF⟩:=X4.aF;go_wp2_with fail;exact FP (g:=g4) (cs:=#[.slice mG nn mJ,.slice yO na ca',.slice yP nf cf']) rfl yS rfl rfl (ah.ny zZ.out) ⟨_,rfl,zW bC.out hgw _ _ _,(qF.out.ny zZ.out).EF⟩
 | some q =>
  rintro e w5 ⟨rfl,hb5,hk5,bl5,o7,-⟩;have hr:=HR.out;subst hr;have zZ:=avE (hk5 _ _ JX.out);have qF:=avE o7;have bC:=avE (HB4.out.trans hb5);clear hb5 hk5 o7 X4 aV aX bn fA JX tu HB4 Hu;have X4:=zZ.out
  try clear aV
  try clear aX
  try clear bn
  try clear fA
  try clear dV
  try clear gy
  try clear iF
  obtain ⟨aV,aX,bn,fA,dV,gy,iF⟩:=X4.aF;go_wp2_with fail;exact FP (g:=g4) (cs:=#[.slice mG nn mJ,.slice yO na ca',.slice yP nf cf']) rfl yS rfl rfl (ah.ny zZ.out) ⟨_,rfl,zW bC.out hgw _ _ _,(qF.out.ny zZ.out).EF⟩
theorem Yj (v:Value) (p:Pl) (aN:Int) (w:World) (h:bQ w v p) (hm:mF p) (hf:p.faces.length<=1000000) (hw:∀ a∈p.aj,eU a.id):Calls Tryz.prog 44 #[v,.int .i64 aN] w (Yi w (JW p aN)):=by
 have HC:=avE (fun W (hW:Below w.heap.size w W)=>aiF v p W (h.mono hW));have nU:=avE (fun W (hW:Below w.heap.size w W)=>ahw v p W (h.mono hW) hm hf);obtain ⟨_,_,_,al,rfl,hpa,⟨An,cn,rfl,-⟩,⟨⟨Aa,ca,rfl,-⟩,-⟩,⟨Af,cf,rfl,-⟩⟩:=h;have hal:al.length=p.aj.length:=by rw [hpa,avM]
 unfold JW;by_cases hz:qE p=0
 case neg =>
  rw [if_pos hz];unfold Yi;generalize qE p=z at *;have hzb:(z != 0)=true:=by simpa using hz
  generalize p.nodes.length=nn at *;generalize p.faces.length=nf at *;generalize al.length=na at *;clear hz hpa hal hm hw nU;go_enter Tryz.func44,Tryz.ntmps44;go_upto_region 1 with fail;obtain ⟨g4,hg4⟩:∃ g,w.heap.size+1=g:=⟨_,rfl⟩;obtain ⟨W1,hW⟩:∃ W:World,W=(w.alloc (.cells #[.slice An nn cn,.slice Aa na ca,.slice Af nf cf] 26)).alloc (.cells #[.slice none 0 0,.slice none 0 0,.slice none 0 0] 26):=⟨_,rfl⟩;have X2:ah W1 w.heap.size 26 #[.slice An nn cn,.slice Aa na ca,.slice Af nf cf]:=by rw [hW];exact (ah.made rfl _ _).alloc _
  have dI:=avE (show ah W1 g4 26 #[.slice none 0 0,.slice none 0 0,.slice none 0 0] by rw [hW];exact ah.made (by rw [<- hg4];simp) _ _);have HB1:=avE (show Below w.heap.size w W1 by rw [hW];exact bA (bA (bR w) _) _);have hgw:w.heap.size<=g4:=by omega
  rw [<- hW]
  try rw [hg4]
  clear hW hg4;obtain ⟨aG,aI,aJ,aO,-,-,-⟩:=X2.aF;go_wp2_with fail;refine (HC.out _ HB1.out).mono ?_;rintro e w2 ⟨rfl,hb2⟩;have X4:=dI.out.keep hb2;have HB2:=avE (bT HB1.out hb2);clear hb2 X2 aG aI aJ aO;have kT:=avE X4;obtain ⟨aV,aX,bn,fA,dV,gy,iF⟩:=X4.aF;go_wp2_with fail;exact qG (g:=g4) (cs:=#[.slice none 0 0,.slice none 0 0,.slice none 0 0]) rfl yS rfl rfl (ah.ny kT.out) ⟨_,rfl,zW HB2.out hgw _ _ _,bQ.zero _⟩
 rw [if_neg (by simpa using hz)];have hres:=fun (q:Pl) (hq:mF q) (hqw:∀ a∈q.aj,eU a.id) B (bl:List (Ar×SV)) (An Aa Af:Option Addr) (cn ca cf:Nat) W (h:kE W B (.slice An q.nodes.length cn) (.slice Aa q.aj.length ca) (.slice Af q.faces.length cf) q bl) (hs:rX bl) (hB:B<=W.heap.size)=>ahF q aN An Aa Af cn ca cf B bl W h hs hB hq hqw;have fU:=avE hres;rw [hz] at HC;rw [hal] at HC nU ⊢;have HM:=avE hm;have HW:=avE hw;clear hres hz hpa hm hw;generalize hnn:p.nodes.length=nn at *;generalize hnf:p.faces.length=nf at *;generalize hna:p.aj.length=na at *;have EI:=avE hnn;have yL:=avE hnf;have zV:=avE hna;obtain ⟨R,hR⟩:∃ R,BQ p aN=R:=⟨_,rfl⟩;rw [hR];have HR:=avE hR;clear hnn hnf hna hR hal hf;go_enter Tryz.func44,Tryz.ntmps44;go_upto_region 1 with fail;obtain ⟨g4,hg4⟩:∃ g,w.heap.size+1=g:=⟨_,rfl⟩;obtain ⟨W1,hW⟩:∃ W:World,W=(w.alloc (.cells #[.slice An nn cn,.slice Aa na ca,.slice Af nf cf] 26)).alloc (.cells #[.slice none 0 0,.slice none 0 0,.slice none 0 0] 26):=⟨_,rfl⟩;have X2:ah W1 w.heap.size 26 #[.slice An nn cn,.slice Aa na ca,.slice Af nf cf]:=by rw [hW];exact (ah.made rfl _ _).alloc _
 have dI:=avE (show ah W1 g4 26 #[.slice none 0 0,.slice none 0 0,.slice none 0 0] by rw [hW];exact ah.made (by rw [<- hg4];simp) _ _);have HB1:=avE (show Below w.heap.size w W1 by rw [hW];exact bA (bA (bR w) _) _);have hgw:w.heap.size<=g4:=by omega
 rw [<- hW]
 try rw [hg4]
 have dh:=avE X2;clear hW hg4
 try clear aG
 try clear aI
 try clear aJ
 try clear aO
 obtain ⟨aG,aI,aJ,aO,-,-,-⟩:=X2.aF;go_wp2_with fail;refine (HC.out _ HB1.out).mono ?_;rintro e w2 ⟨rfl,hb2⟩;have kT:=avE (dI.out.keep hb2);have jG:=avE (dh.out.keep hb2);have HB2:=avE (bT HB1.out hb2);clear hb2 X2 aG aI aJ aO dI dh HB1;have X2:=jG.out
 try clear aG
 try clear aI
 try clear aJ
 try clear aO
 obtain ⟨aG,aI,aJ,aO,-,-,-⟩:=X2.aF;go_upto_region 4 with fail;go_wp2_with fail;refine (nU.out _ HB2.out).mono ?_;rintro e w3 ⟨mG,mJ,yO,ca',yP,cf',bl,rfl,hb3,hpo,hsp⟩;rw [EI.out,zV.out,yL.out] at hpo ⊢;have X4:=kT.out.keep hb3;have qc:=avE X4;have HB3:=avE (bT HB2.out hb3);have wB:=avE (hpo.fG (B':=w.heap.size) HB2.out.size);have HS:=avE hsp;clear hb3 hpo hsp X2 aG aI aJ aO kT jG HB2
 try clear aV
 try clear aX
 try clear bn
 try clear fA
 try clear dV
 try clear gy
 try clear iF
 obtain ⟨aV,aX,bn,fA,dV,gy,iF⟩:=X4.aF;go_upto_block 0 with fail;obtain ⟨W4,hW⟩:∃ W:World,W=((w3.setCell ⟨g4,0,none⟩ (.slice mG nn mJ)).setCell ⟨g4,1,none⟩ (.slice yO na ca')).setCell ⟨g4,2,none⟩ (.slice yP nf cf'):=⟨_,rfl⟩;have JX:=avE (show ah W4 g4 26 #[.slice mG nn mJ,.slice yO na ca',.slice yP nf cf'] by rw [hW];exact ah.ny qc.out);have tu:=avE (show kE W4 w.heap.size (.slice mG nn mJ) (.slice yO na ca') (.slice yP nf cf') p bl by rw [hW];exact wB.out.ny qc.out);have HB4:=avE (show Below w.heap.size w W4 by rw [hW];exact zW HB3.out hgw _ _ _);rw [<- hW];clear hW X4 aV aX bn fA dV gy iF qc HB3 wB;go_wp2_with fail;go_loopg [] (qB p.aj) (fun k wr=>∃ (q:Pl) (bl:List (Ar×SV)),qB q.aj=k/\BQ q aN=R/\mF q/\(∀ a∈q.aj,eU a.id)/\q.nodes.length=nn/\q.aj.length=na/\q.faces.length=nf/\kE wr w.heap.size (.slice mG nn mJ) (.slice yO na ca') (.slice yP nf cf') q bl/\rX bl/\ah wr g4 26 #[.slice mG nn mJ,.slice yO na ca',.slice yP nf cf']/\Below w.heap.size w wr)
 case atStart => exact ⟨p,bl,rfl,HR.out,HM.out,HW.out,EI.out,zV.out,yL.out,tu.out,HS.out,JX.out,HB4.out⟩
 case round =>
  obtain ⟨q,bq,htot,TU,ET,hwq,e1,e2,e3,hpo,hsp,X4,hb⟩:=hrel;obtain ⟨wo,rfl⟩:∃ wo:World,wo=wr:=⟨_,rfl⟩;have hca:=fU.out q ET hwq w.heap.size bq mG yO yP mJ ca' cf' wo (by rw [e1,e2,e3];exact hpo) hsp hb.size;rw [e1,e2,e3] at hca;have HE:=avE (⟨e1,e2,e3⟩:q.nodes.length=nn/\q.aj.length=na/\q.faces.length=nf);have rP:=avE hpo;have HX:=avE X4;have Hb:=avE hb;have TV:=avE TU;have Yk:=avE htot;have Ym:=avE ET;have HWq:=avE hwq;clear htot TU ET hwq e1 e2 e3 hpo hsp hb JX tu HB4
  cases hT:uY q aN with
  | none =>
   rw [hT] at hca;have Hu:=avE hca;have HQ:=avE (show q=R from (ahk hT).symm.trans TV.out);clear hca hT
   try clear aV
   try clear aX
   try clear bn
   try clear fA
   try clear dV
   try clear gy
   try clear iF
   obtain ⟨aV,aX,bn,fA,-,-,-⟩:=X4.aF;go_wp2_with fail;refine Hu.out.mono ?_;rintro e w5 ⟨rfl,hb5⟩;have dF:=avE (HX.out.keep hb5);have qF:=avE (rP.out.keep hb5);have bC:=avE (bT Hb.out hb5);clear hb5 X4 aV aX bn fA HX rP Hb Hu;have X4:=dF.out
   try clear aV
   try clear aX
   try clear bn
   try clear fA
   try clear dV
   try clear gy
   try clear iF
   obtain ⟨aV,aX,bn,fA,dV,gy,iF⟩:=X4.aF;go_wp2_with fail;exact qG (g:=g4) (cs:=#[.slice mG nn mJ,.slice yO na ca',.slice yP nf cf']) rfl yS rfl rfl (ah.ny dF.out) ⟨_,rfl,zW bC.out hgw _ _ _,by rw [<- HQ.out];exact (qF.out.ny dF.out).EF⟩
  | some q' =>
   rw [hT] at hca;have Hu:=avE hca;have hke:=aiM hT Ym.out HWq.out;have htt:=abw hT;have HQ:=avE (show BQ q' aN=R from (ahj hT).symm.trans TV.out);have uF:=avE hke;have Yn:=avE (show qB q'.aj<gk by have:=Yk.out;omega);clear hca hT hke htt
   try clear aV
   try clear aX
   try clear bn
   try clear fA
   try clear dV
   try clear gy
   try clear iF
   obtain ⟨aV,aX,bn,fA,-,-,-⟩:=X4.aF;go_wp2_with fail;refine Hu.out.mono ?_;rintro e w5 ⟨rfl,hb5,hk5,bl5,o7,hs5⟩;have dF:=avE (hk5 _ _ HX.out);have qF:=avE o7;have wW:=avE hs5;have bC:=avE (Hb.out.trans hb5);clear hb5 hk5 o7 hs5 X4 aV aX bn fA HX rP Hb Hu;go_wp2;go_roundg (qB q'.aj)
   case measure => exact Yn.out
   case rel => exact ⟨q',bl5,rfl,HQ.out,uF.out.1,uF.out.2.1,by rw [uF.out.2.2.1];exact HE.out.1,uF.out.2.2.2.1.trans HE.out.2.1,by rw [uF.out.2.2.2.2];exact HE.out.2.2,qF.out,wW.out,dF.out,bC.out⟩
section
variable {G:Nat->Prop} {w w0 w' W:World}
def Skip (G:Nat->Prop) (w w':World):Prop:=w.heap.size<=w'.heap.size/\∀ k,k<w.heap.size->¬ G k->w'.heap[k]? = w.heap[k]?
theorem Skip.refl:Skip G w w:=⟨awe _,fun _ _ _=>rfl⟩
theorem Skip.trans (h:Skip G w w') (k:Skip G w' W):Skip G w W:=⟨avZ h.1 k.1,fun i hi hg=>(k.2 i (awf hi h.1) hg).trans (h.2 i hi hg)⟩
theorem Skip.of (h:Below w.heap.size w w'):Skip G w w':=⟨h.size,fun k hk _=>h.block k hk⟩
theorem Skip.fF (h:Skip G w w') {p:Addr} (hp:G p.block) (u:Value):Skip G w (w'.setCell p u) :=
 ⟨by simpa using h.1,fun k hk hg=>(Below.heap_setCell _ _ _ _ (fun e=>hg (by rw [e];exact hp))).trans (h.2 k hk hg)⟩
def EX (G:Nat->Prop) (w:World) (v:Value) (p:Pl):Prop :=
 ∃ vn va vf al,v=.agg #[vn,va,vf]/\p.aj=al.map (·.1)/\∀ W,Skip G w W->DV W vn p.nodes/\Ia W va al/\Ints W vf p.faces
theorem EX.EF {v:Value} {p:Pl} (h:EX G w v p):bQ w v p:=by
 obtain ⟨vn,va,vf,al,h1,h2,h3⟩:=h;exact ⟨vn,va,vf,al,h1,h2,h3 w Skip.refl⟩
theorem EX.skip {v:Value} {p:Pl} (h:EX G w v p) (hs:Skip G w w'):EX G w' v p:=by
 obtain ⟨vn,va,vf,al,h1,h2,h3⟩:=h;exact ⟨vn,va,vf,al,h1,h2,fun W hW=>h3 W (hs.trans hW)⟩
theorem bQ.skip {v:Value} {p:Pl} (h:bQ w0 v p) (hb:Below w0.heap.size w0 w) (hG:∀ g,G g->w0.heap.size<=g):EX G w v p:=by
 obtain ⟨vn,va,vf,al,h1,h2,h3,h4,h5⟩:=h;refine ⟨vn,va,vf,al,h1,h2,fun W hs=>?_⟩;have hk:Below w0.heap.size w0 {w0 with heap:=W.heap}:=⟨rfl,rfl,rfl,avZ hb.size hs.1,fun k hk=>(hs.2 k (awf hk hb.size) (fun hg=>by have:=hG k hg;omega)).trans (hb.block k hk)⟩;have h:=And.intro (h3.mono hk) (And.intro (h4.mono hk) (h5.mono hk));exact h
theorem Own.skip {α:Type} {base:Nat} {e:TypeId} {size:Nat} {f:α->List Value} {v:Value} {l:List α} (h:Own w base e size f v l) (hG:∀ g,G g->g<base) (hs:Skip G w W):Own W base e size f v l:=by
 obtain ⟨h1,h2⟩:=h;refine ⟨h1,?_⟩;rcases h2 with h2 | ⟨g,cap,cur,hv,hg,hh,r⟩
 · exact .inl h2
 · exact .inr ⟨g,cap,cur,hv,hg,(hs.2 g (ah.lt hh) (fun k=>by have:=hG g k;omega)).trans hh,r⟩
theorem bQ.form {v:Value} {p:Pl} (h:bQ w v p):∃ An cn Aa ca Af cf,v=.agg #[.slice An p.nodes.length cn,.slice Aa p.aj.length ca,.slice Af p.faces.length cf]:=by
 obtain ⟨_,_,_,al,rfl,hpa,⟨An,cn,rfl,-⟩,⟨⟨Aa,ca,rfl,-⟩,-⟩,⟨Af,cf,rfl,-⟩⟩:=h;exact ⟨An,cn,Aa,ca,Af,cf,by rw [hpa,avM]⟩
end
theorem Own.aiO {α:Type} {w:World} {g n:Nat} {e:TypeId} {cs:Array Value} {base size:Nat} {f:α->List Value} {l:List α} (h:ah w g e cs) (hb:base<=g) (hn:n=l.length) (hl:(l.flatMap f).length=l.length*size) (hx:cs.toList=l.flatMap f) (hm:n<=maxLen):Own w base e size f (.slice (some ⟨g,0,none⟩) n n) l:=by
 subst hn;unfold Own;have hs:cs.size=l.length*size:=by rw [<- hl,<- hx];simp
 exact ⟨hl,.inr ⟨g,l.length,cs,rfl,hb,h,awe _,hm,hs,by rw [hx,<- hl];exact List.take_length⟩⟩
def asK (G:Nat->Prop) (w:World) (p:Pl) (e:Ending) (w':World):Prop:=∃ v,e=.returned v/\Below w.heap.size w w'/\EX G w' v p
theorem aiP (G:Nat->Prop) (v:Value) (p:Pl) (arc:Int) (i:Nat) (a:Ar) (w:World) (h:EX G w v p) (hG:∀ g,G g->g<w.heap.size) (hm:mF p) (hfa:findAr p.aj arc=some a) (hi:i<a.via.length) :
  Calls Tryz.prog 106 #[v,.int .i64 arc,.int .i64 (i:Int)] w (asK G w (EH p arc i)):=by
 have hal:=hm.jX;have hvi:=hm.via a (CW hfa);obtain ⟨vn,_,vf,al,rfl,hpa,hK⟩:=h;obtain ⟨hN,⟨⟨Aa,ca,rfl,ha1,ha2,gV⟩,hV⟩,hF⟩:=hK w Skip.refl;have HG:=avE hG;obtain ⟨bl,rfl⟩:=hV.sv;have hpl:p.aj.length=bl.length:=by rw [hpa,avM,avM]
 rw [avM] at ha1;unfold maxLen at ha2;rw [PY] at gV;have hbl:bl.length<=1000000:=by omega
 have hb0:0<bl.length:=by have:=List.length_pos_of_mem (CW hfa);omega
 have hVk:∀ k (hk:k<bl.length),dM w (.slice bl[k].2.a bl[k].2.n bl[k].2.c) bl[k].1.via:=fun k hk=>by
  have:=hV k (by simpa using hk)
  simpa [Fj] using this
 have e1:p.aj=bl.map (·.1):=by rw [hpa,awc];rfl
 have HK:=avE hK;obtain ⟨An,cn,rfl,-⟩:=hN;obtain ⟨Af,cf,rfl,-⟩:=hF;have WV:=avE hVk;have EW:=avE e1;have lZ:=avE hfa;have jr:Hid (Sl w (.slice Aa bl.length ca) bl.length (bl.flatMap AZ)):=avE ⟨_,_,rfl,ha1,by unfold maxLen;exact ha2,gV⟩;rw [avM];clear hV hVk gV hpa e1 hfa hK hG;go_enter Tryz.func106,Tryz.ntmps106;go_upto_region 3 with
  (at_builtin
   go_loud (refine iZ _ rfl (.tmp 11) (.tmp 13) _ rfl (base:=w.heap.size+1+1+1) ac3 UN adH rfl (Own.aiO (l:=[]) (ah.made ars _ _) (awe _) rfl rfl rfl (dP Pe)) rfl (l2:=bl) (Sl.mono jr.out (bA (bA (bA (bA (bR w) _) _) _) _)) at6 at6 ars ?_);intro v5 w5 dG hg5 iG;replace dG:Own w5 (w.heap.size+1+1+1) 50 6 AZ v5 bl:=dG;go_loud (obtain ⟨g5,c5,rfl,asL,asM,hn5,hm5,au9,asN,asO⟩:=Own.OM dG hb0);go_loud (have lS:=avE (show ah w5 (w.heap.size+1+1) 26 #[.slice An p.nodes.length cn,.slice Aa bl.length ca,.slice Af p.faces.length cf] from ah.grown (ah.alloc (ah.made ars _ _) _) hg5 (fun e=>by have h0:w.heap.size+1+1=w.heap.size+1+1+1:=avP e;omega)));go_loud (have pI:=avE (show ah w5 (w.heap.size+1) 26 #[.slice none 0 0,.slice none 0 0,.slice none 0 0] from ah.grown (ah.alloc (ah.alloc (ah.made ars _ _) _) _) hg5 (fun e=>by have h0:w.heap.size+1=w.heap.size+1+1+1:=avP e;omega)));go_loud (have bC:=avE (show Below w.heap.size w w5 from bG (bA (bA (bA (bA (bR w) _) _) _) _) hg5 (fun g hk=>by have h0:w.heap.size+1+1+1=g:=avP hk;omega)));have jd:=avE (show Own w5 (w.heap.size+1+1+1) 50 6 AZ (.slice (some ⟨g5,0,none⟩) bl.length c5) bl from dG);have X7:=lS.out;obtain ⟨dY,dZ,gI,oM,qY,xQ,Ij⟩:=X7.aF;clear dG hg5 iG X7)
 obtain ⟨W6,hW⟩:∃ W:World,W=w5.setCell ⟨w.heap.size+1+1,1,none⟩ (.slice (some ⟨g5,0,none⟩) bl.length c5):=⟨_,rfl⟩;have Y7:ah W6 (w.heap.size+1+1) 26 #[.slice An p.nodes.length cn,.slice (some ⟨g5,0,none⟩) bl.length c5,.slice Af p.faces.length cf]:=by
  rw [hW];have:=lS.out.fF 1 (.slice (some ⟨g5,0,none⟩) bl.length c5)
  simpa using this
 have Y6:ah W6 (w.heap.size+1) 26 #[.slice none 0 0,.slice none 0 0,.slice none 0 0]:=by rw [hW];exact pI.out.far (p:=⟨w.heap.size+1+1,1,none⟩) ars _
 have YO:Own W6 (w.heap.size+1+1+1) 50 6 AZ (.slice (some ⟨g5,0,none⟩) bl.length c5) bl:=by
  rw [hW];exact jd.out.far (p:=⟨w.heap.size+1+1,1,none⟩) (fun e=>by have:=(jd.out.lt _ e).1;simp at this;omega) _
 have YB:Below w.heap.size w W6:=by rw [hW];exact bS (p:=⟨w.heap.size+1+1,1,none⟩) bC.out arV _
 rw [<- hW];obtain ⟨g7,kD⟩:∃ g,w.heap.size+1+1=g:=⟨_,rfl⟩;have hb3:w.heap.size+1+1+1=g7+1:=by omega
 rw [hb3] at YO asL;rw [kD] at Y7
 try rw [kD]
 obtain ⟨g6,lK⟩:∃ g,w.heap.size+1=g:=⟨_,rfl⟩;rw [lK] at Y6
 try rw [lK]
 have ava:g6<g7:=by omega
 have hgw:w.heap.size<=g6:=by omega
 clear hW kD lK hb3 lS pI jd bC dY dZ gI oM qY xQ Ij asN asO asM hn5;have HY7:=avE Y7;have HY6:=avE Y6;have HYO:=avE YO;have HYB:=avE YB;clear Y7 Y6 YO YB;unfold maxLen at hm5;go_wp2_with fail;go_loopw [8] (fun u wr=>∃ k:Nat,k<=bl.length/\u=.int .i64 k/\(∀ j (hj:j<bl.length),j<k->(bl[j].1.id == arc)=false)/\Below W6.heap.size W6 wr) (fun u _=>bl.length-(intOf u).toNat)
 case atStart => exact ⟨0,avK _,rfl,fun j _ h=>by omega,bR W6⟩
 case round =>
  obtain ⟨k,hk,rfl,hno,hb⟩:=hrel;obtain ⟨wo,rfl⟩:∃ wo:World,wo=wr:=⟨_,rfl⟩;have Hb:=avE hb;have jL:=avE hno;clear hb hno;have X7:=HY7.out.keep Hb.out;have HO:=avE (HYO.out.keep Hb.out);by_cases hlt:k<bl.length
  ·obtain ⟨A5,C5,he5,-,-,hR5⟩:=Own.sl HO.out;injection he5 with e1 e2 e3;subst e1;clear e2 e3;obtain ⟨b,o,jK,hlb,c0,c1,c2,c3,c4,c5'⟩:=hR5.VY hlt;simp only [Option.some.injEq,Addr.mk.injEq,and_true] at jK;obtain ⟨rfl,rfl⟩:=jK;simp only [Nat.zero_add] at c0 c1 c2 c3 c4 c5';have r0:0<=(k:Int):=by omega
   have r1:(k:Int)<bl.length:=by omega
   have aiQ:=avE X7
   try clear dY
   try clear dZ
   try clear gI
   try clear oM
   try clear qY
   try clear xQ
   try clear Ij
   obtain ⟨dY,dZ,gI,oM,-,-,-⟩:=X7.aF
   cases he:(bl[k].1.id == arc)
   ·go_wp2;go_roundw
    case rel => exact ⟨k+1,by omega,by go_num,all_succ (p:=fun x=>(x.1.id == arc)=false) jL.out hlt he,bA Hb.out _⟩
    case measure => simp [intOf];omega
   ·have hk':k<p.aj.length:=by rw [hpl];exact hlt
    have Yo:∀ j (hj:j<p.aj.length) (hj':j<bl.length),p.aj[j]=bl[j].1:=fun j hj hj'=>by simp only [EW.out,av4]
    have hk1:(p.aj[k].id == arc)=true:=by rw [Yo k hk' hlt];exact he
    have hk2:∀ j (hj:j<p.aj.length),j<k->(p.aj[j].id == arc)=false:=fun j hj hjk=>by rw [Yo j hj Pe];exact jL.out j Pe hjk
    have hka:=ahE lZ.out hk' hk1 hk2;have hdl:=abT (i:=i) hk' hk1 hk2;rw [hka] at hdl;rw [Yo k hk' hlt] at hka;have Dp:=avE hdl;have WY:=avE hka;obtain ⟨Av,cv,hv,hcv1,hcv2,hRv⟩:=WV.out k hlt;rw [hv] at c3;rw [hka] at he c0 c1 c2 c3 c4 c5' hcv1 hRv;have HPv:=avE (show Sl w (.slice Av a.via.length cv) a.via.length (a.via.flatMap dU) from ⟨_,_,rfl,hcv1,hcv2,hRv⟩);clear hk' Yo hk1 hk2 hdl hRv;go_upto_region 8 with fail;obtain ⟨g9,kH⟩:∃ g,wo.heap.size=g:=⟨_,rfl⟩;obtain ⟨W8,hW⟩:∃ W:World,W=wo.alloc (.cells #[.int .i64 a.id,.int .i64 a.fr,.int .i64 a.dst,.slice Av a.via.length cv,.int .i64 a.left,.int .i64 a.right] 50):=⟨_,rfl⟩;have X9:ah W8 g9 50 #[.int .i64 a.id,.int .i64 a.fr,.int .i64 a.dst,.slice Av a.via.length cv,.int .i64 a.left,.int .i64 a.right]:=by rw [hW,<- kH];exact ah.made rfl _ _
    have H6:Below wo.heap.size wo W8:=by rw [hW];exact bA (bR wo) _
    have jl:=avE (bT HYB.out (bT Hb.out H6));have DF:=avE (HO.out.keep H6);have acE:=avE (aiQ.out.keep H6);have asP:=avE (HY6.out.keep (bT Hb.out H6));rw [<- hW,kH];have avb:g7<W8.heap.size:=acE.out.lt;have avc:g5<g9:=by rw [<- kH];exact (Own.lt HO.out g5 rfl).2
    have aiR:g9<W8.heap.size:=X9.lt;obtain ⟨gB,hgB⟩:∃ g,g7+1=g:=⟨_,rfl⟩;have hb0:g7<gB:=by omega
    have hb1:gB<=g5:=by omega
    have hb2:gB<=W8.heap.size:=by omega
    have hl1:(a.via.take i).length<=1000000:=by rw [awk];omega
    have hl2:(a.via.drop (i+1)).length<=1000000:=by rw [awl];omega
    have aiS:=avE (HPv.out.mono jl.out);have asQ:=avE (show Sl W8 (.slice Av i cv) (a.via.take i).length ((a.via.take i).flatMap dU) from aiS.out.YR i Pe);obtain ⟨Ac,hAc⟩:∃ Ac,Ac=vI Av cv (i+1) 2:=⟨_,rfl⟩;have asR:=avE (show Sl W8 (.slice Ac (a.via.length-(i+1)) (cv-(i+1))) (a.via.drop (i+1)).length ((a.via.drop (i+1)).flatMap dU) by rw [hAc];exact aiS.out.ajA jS i hi);have hrun1:=YQ Tryz.underlying46 SC Av a.via.length cv i Pe hcv1;have hrun2:=Uw Tryz.underlying46 SC Av a.via.length cv (i+1) Pe ((i:Int)+1) Pe;rw [<- hAc] at hrun2;have q0:0<=(i:Int):=by omega
    have q1:(i:Int)<=a.via.length:=by omega
    have q2:0<=(i:Int)+1:=by omega
    have q3:(i:Int)+1<=a.via.length:=by omega
    have hw1:IntKind.i64.wrap ((i:Int)+1)=(i:Int)+1:=avS _ Pe;clear hW kH hgB H6 hAc dY dZ gI oM X7 aiQ HO HPv c0 c1 c2 c3 c4 c5' hv hka;have X7:=acE.out
    try clear dY
    try clear dZ
    try clear gI
    try clear oM
    try clear qY
    try clear xQ
    try clear Ij
    obtain ⟨dY,dZ,gI,oM,-,-,-⟩:=X7.aF;obtain ⟨lu,lC,lD,ZI,ZJ,ZK,ZL,-,-,-,-,-,-⟩:=X9.gX;refine Ur (xR (gB) (g9) W8) (.run 3 0 0 (.run 4 4 7 (.run 5 9 247 (.call 3 16127 (.call 8 16383 (.call 14 32767 (.take 15 65535 (.take 16 131071 (.call 17 262143 (.done)))))))))) atF (kR _) atF atF (Nat.le_of_ble_eq_true atF) ?_;intro bZ QR aB aH hS
    iterate 12
     apply adh;exact aB;exact rfl;exact hS;exact rfl
     · intro _ hqc hqd;go_simp;try rfl
     try simp only [pu]
    refine MZ (i:=3) (eP aB rfl) (fun K hK=>?_);have ak:=avE hS;clear hS;refine fK (fJ rfl) ?_;go_simp;refine hK.out _ _ (kA ak.out Pe Pe _) (fun hS=>?_);clear hK K ak
    try simp only [pu]
    refine MZ (i:=8) (eP aB rfl) (fun K hK=>?_);have ak:=avE hS;clear hS;refine fK (fJ rfl) ?_;refine kW (.tmp 35) (.tmp 39) _ rfl (base:=W8.heap.size) (l:=([] : List Pt)) (l2:=a.via.take i) ng jS ni rfl (Own.lit _ _ _ _ dU [] _ 0 _ ars rfl adC (dP Pe) rfl rfl) rfl (asQ.out.mono (bA (bD (bR W8)) _)) (by have:=hl1;simp only [avN];omega) (by have:=hl1;simp only [avN];omega) adC ?_;intro v91 w91 TY acF asT;replace TY:Own w91 W8.heap.size 39 2 dU v91 (a.via.take i):=TY;obtain ⟨A91,c91,hv91,-⟩:=Own.sl TY;subst hv91;have acG:Below W8.heap.size W8 w91:=Below.grown (Below.alloc (Below.drew (Below.refl _ _)) adC _) acF adC (fun g hg=>by have h:=avP hg;simp at h;omega);have hS:xR gB g9 W8 w91:=kG ak.out acF (fun q hq=>by have h:=avP hq;simp at h;omega) (fun h=>by have h:=avP h;simp at h;omega) hb2 aiR;have aiT:=avE acG;have Yp:=avE TY;have hz91:=acG.size;clear acG TY acF asT;clear ak;refine hK.out _ _ hS (fun _=>?_);clear hK K
    try simp only [pu]
    refine MZ (i:=14) (eP aB rfl) (fun K hK=>?_);have ak:=avE hS;clear hS;refine fK (fJ rfl) ?_;refine kW (.tmp 40) (.tmp 45) _ rfl (base:=W8.heap.size) (l:=a.via.take i) (l2:=a.via.drop (i+1)) ng jS ni rfl Yp.out rfl (asR.out.mono aiT.out) (by have:=hl1;have:=hl2;omega) (by have:=hl1;have:=hl2;omega) Pe ?_;intro v92 Yq Ua acH asU;replace Ua:Own Yq W8.heap.size 39 2 dU v92 (a.via.eraseIdx i):=by rw [List.eraseIdx_eq_take_drop_succ];exact Ua
    obtain ⟨Yr,Yt,asV,-⟩:=Own.sl Ua;subst asV;have Yu:Below W8.heap.size W8 Yq:=Below.grown aiT.out acH hz91 (fun g hg=>(Yp.out.lt g hg).1);have hS:xR gB g9 W8 Yq:=kG ak.out acH (fun q hq=>avZ hb2 (Yp.out.lt q hq).1) (fun h=>by have:=(Yp.out.lt g9 h.symm).1;omega) hb2 aiR;have HOa:=avE (DF.out.keep Yu);have Xk:=avE (acE.out.keep Yu);obtain ⟨_,_,hq,-,-,-,-,cur,hcur,-⟩:=Own.OM HOa.out Pe;injection hq with e1 e2 e3;clear e2 e3;injection e1 with e1;injection e1 with e1 _ _;subst e1;have hfz:=ah.frozen hcur (k*6+3);obtain ⟨_,_,hq,-,-,hRq⟩:=Own.sl HOa.out;injection hq with e1 e2 e3;clear e2 e3;subst e1;obtain ⟨_,_,hq,-,-,-,-,d3,-,-⟩:=hRq.VY hlt;injection hq with hq;injection hq with hq1 hq2 _;subst hq1;subst hq2;simp only [Nat.zero_add] at d3;clear hcur hRq;have aiU:=avE Yu;have aiV:=avE Ua;clear Ua acH asU Yu;clear ak;refine hK.out _ _ hS (fun _=>?_);clear hK K
    try simp only [pu]
    iterate 2
     apply adh;exact aB;exact rfl;exact hS;exact rfl
     · intro _ hqc hqd;go_simp;try rfl
     try simp only [pu]
    refine MZ (i:=17) (eP aB rfl) (fun K hK=>?_);have ak:=avE hS;clear hS;refine fK (fJ rfl) ?_;go_simp;refine hK.out _ _ (kS ak.out arS arS _) (fun hS=>?_);clear hK K ak
    try simp only [pu]
    refine Us ?_;refine aH.down _ _ ?_;have hBk:=hS.2;have hB:Below (gB) W8 _:=hS.1;clear hS aH aB;obtain ⟨y,hy⟩:∃ y:Ar×SV,y=(SE a i,⟨Yr,(a.via.eraseIdx i).length,Yt⟩):=⟨_,rfl⟩;obtain ⟨Wf,hW⟩:∃ W:World,W=Yq.setCell ⟨g5,k*6+3,none⟩ (.slice Yr (a.via.eraseIdx i).length Yt):=⟨_,rfl⟩;have e0:bl[k]=(a,bl[k].2):=by rw [<- WY.out]
    have hof:=Own.Nv UN HOa.out hlt (by omega:3<6) y (.slice Yr (a.via.eraseIdx i).length Yt) (by rw [e0,hy];rfl);rw [<- hW] at hof;have yI:=avE hof;have acI:∀ q:Nat,q<gB->q≠g5:=fun q h=>by omega
    have HVf:=avE (show Own Wf W8.heap.size 39 2 dU (.slice Yr (a.via.eraseIdx i).length Yt) (a.via.eraseIdx i) by
     rw [hW];exact aiV.out.far (p:=⟨g5,k*6+3,none⟩) (fun e=>by have:=(aiV.out.lt _ e).1;simp at this;omega) _)
    have HXf:=avE (show ah Wf g7 _ _ by rw [hW];exact Xk.out.far (p:=⟨g5,k*6+3,none⟩) (acI g7 hb0) _);have H6f:=avE (show ah Wf g6 _ _ by rw [hW];exact (asP.out.keep aiU.out).far (p:=⟨g5,k*6+3,none⟩) (acI g6 Pe) _);have yH:=avE (show Below w.heap.size w Wf by rw [hW];exact bS (p:=⟨g5,k*6+3,none⟩) (bT jl.out aiU.out) (by show w.heap.size<=g5;omega) _);have hW8:w.heap.size<=W8.heap.size:=jl.out.size;have TQ:=avE hy;rw [<- hW];clear hW hof e0 acI hB hBk hfz d3 X7 dY dZ gI oM X9 lu lC lD ZI ZJ ZK ZL hrun1 hrun2 hw1 hy;have X7:=HXf.out;have X6:=H6f.out
    try clear dY
    try clear dZ
    try clear gI
    try clear oM
    try clear qY
    try clear xQ
    try clear Ij
    obtain ⟨dY,dZ,gI,oM,-,-,-⟩:=X7.aF;obtain ⟨fO,fQ,gK,xU,D6,Nc,avd⟩:=X6.aF;go_wp2_with fail;refine Po (g:=g6) (cs:=#[.slice An p.nodes.length cn,.slice (some ⟨g5,0,none⟩) bl.length _,.slice Af p.faces.length cf]) rfl yS rfl rfl (ah.ny H6f.out) ⟨_,rfl,zW yH.out hgw _ _ _,_,_,_,(bl.set k y).map Fj,rfl,?_,fun W hs=>?_⟩
    ·show uj arc i p.aj=_
     rw [Dp.out,awc,EW.out]
     show _=(bl.set k y).map (·.1)
     rw [List.map_set,TQ.out]
    ·have hs':Skip (fun q=>G q\/q=g6) Wf W:=(((Skip.refl.fF (p:=⟨g6,0,none⟩) (.inr rfl) _).fF (p:=⟨g6,1,none⟩) (.inr rfl) _).fF (p:=⟨g6,2,none⟩) (.inr rfl) _).trans ⟨hs.1,fun q hq hg=>hs.2 q hq (fun h=>hg (.inl h))⟩;have hk:=HK.out W ((Skip.of (zW yH.out hgw _ _ _)).trans hs);have aiW:∀ q,(G q\/q=g6)->q<g7+1:=fun q hq=>by
      rcases hq with h | h
      · have:=HG.out q h;omega
      · omega
     refine ⟨hk.1,⟨?_,fun j hj=>?_⟩,hk.2.2⟩
     ·rw [PY,avM];exact (yI.out.skip aiW hs').sl
     ·have hj':j<bl.length:=by simpa using hj
      have hkj:=hk.2.1.2 j (by simpa using hj');simp only [av4,av8] at hkj ⊢;by_cases e:k=j
      ·rw [if_pos e,TQ.out];exact (HVf.out.skip (fun q hq=>by have:=aiW q hq;omega) hs').sl
      ·rw [if_neg e];exact hkj
  ·exfalso;have hm:=Pn p.aj (fun a=>a.id == arc) (fun j hj=>by
    have h1:p.aj[j]=(bl[j]'(by omega)).1:=by simp only [EW.out,av4]
    rw [h1];exact jL.out j Pe Pe)
   have hf:=lZ.out;unfold findAr at hf;rw [hm] at hf
   cases hf
theorem aiX (a b c:Pt) (w:World) :
  Calls Tryz.prog 152 #[aK a,aK b,aK c] w fun e w'=>e=.returned (.int .i64 (kY a b c))/\Below w.heap.size w w':=by
 cases hn:eu [a,b,c]
 ·unfold aK;go_enter Tryz.func152,Tryz.ntmps152;go_wp2_with fail;refine (J9 _ [a,b,c] _ (dM.DW (ah.made ars _ _))).mono ?_;rintro e w1 ⟨rfl,hb1⟩;rw [hn];go_wp2;go_ret;refine ⟨dL (by simp [kY,hn]),?_⟩;exact eF
 ·obtain ⟨ha,hb,hc⟩:=J6 hn;have TC:∀ W,Calls Tryz.prog 213 #[aK a,aK b,aK a,aK c] W _:=fun W=>Ux a b a c W ha hb ha hc;have Hs:=avE (show aP a b a c=kY a b c by unfold kY;rw [if_pos hn];rfl);generalize aP a b a c=cr at *;unfold aK at TC ⊢;have HC:=avE TC;clear TC;clear ha hb hc;go_enter Tryz.func152,Tryz.ntmps152;go_wp2_with fail;refine (J9 _ [a,b,c] _ (dM.DW (ah.made ars _ _))).mono ?_;rintro e w1 ⟨rfl,hb1⟩;rw [hn];have Bw:Below w.heap.size w w1:=by
   exact eF
  have X3:ah _ (w.heap.size) 39 #[.int .i64 a.x,.int .i64 a.y]:=ah.keep (by repeat (first | exact ah.made ars _ _ | refine ah.alloc ?_ _)) hb1;have X4:ah _ (w.heap.size+1) 39 #[.int .i64 b.x,.int .i64 b.y]:=ah.keep (by repeat (first | exact ah.made ars _ _ | refine ah.alloc ?_ _)) hb1;have X5:ah _ (w.heap.size+1+1) 39 #[.int .i64 c.x,.int .i64 c.y]:=ah.keep (by repeat (first | exact ah.made ars _ _ | refine ah.alloc ?_ _)) hb1;clear hb1;obtain ⟨bH,bU,bY,-,-⟩:=X3.aQ;obtain ⟨aV,aX,bn,-,-⟩:=X4.aQ;obtain ⟨bI,bJ,bV,-,-⟩:=X5.aQ;go_wp2_with fail;refine (HC.out _).mono ?_;rintro e w2 ⟨rfl,hb2⟩;go_wp2;go_ret;refine ⟨dL Hs.out,?_⟩;exact eF
theorem acJ (a b c:Pt) (w:World) :
  Calls Tryz.prog 151 #[aK a,aK b,aK c] w fun e w'=>e=.returned (.int .i64 (dK a b c))/\Below w.heap.size w w':=by
 have T:∀ W,Calls Tryz.prog 152 #[aK a,aK b,aK c] W _:=fun W=>aiX a b c W;unfold aK at T ⊢;unfold dK;generalize kY a b c=t at *;have HT:=avE T;clear T;go_enter Tryz.func151,Tryz.ntmps151;go_wp2_with fail;refine (HT.out _).mono ?_;rintro e w1 ⟨rfl,hb1⟩;go_wp2_with fail
 all_goals
  go_ret;refine ⟨dL rfl,?_⟩;exact eF
theorem acK (a b q:Pt) (w:World) :
  Calls Tryz.prog 150 #[aK a,aK b,aK q] w fun e w'=>e=.returned (.bool (dQ a b q))/\Below w.heap.size w w':=by
 rw [UK];exact Za a b q w
theorem asW (v:Value) (a b c q:Pt) (w:World) (h:dM w v [a,b,c]) :
  Calls Tryz.prog 98 #[v,aK q] w fun e w'=>e=.returned (.bool (xu a b c q))/\Below w.heap.size w w':=by
 have ku:=avE (fun W=>acK a b q W);have iU:=avE (fun W=>acK b c q W);have gY:=avE (fun W=>acK c a q W);have nM:=avE (fun W=>acJ a b q W);have HS2:=avE (fun W=>acJ b c q W);have DK:=avE (fun W=>acJ c a q W);obtain ⟨R,hR⟩:∃ R,xu a b c q=R:=⟨_,rfl⟩;rw [hR];unfold xu at hR;obtain ⟨A,cc,rfl,hn,hc,yQ⟩:=h;obtain ⟨g,o,rfl,hlb,a0,a1⟩:=yQ.pt (k:=0) ars;obtain ⟨g',o',he,-,b0,b1⟩:=yQ.pt (k:=1) ars;simp only [Option.some.injEq,Addr.mk.injEq,and_true] at he;obtain ⟨rfl,rfl⟩:=he;obtain ⟨g',o',he,-,c0,c1⟩:=yQ.pt (k:=2) ars;simp only [Option.some.injEq,Addr.mk.injEq,and_true] at he;obtain ⟨rfl,rfl⟩:=he;simp only [List.getElem_cons_zero,List.getElem_cons_succ,Nat.zero_mul,Nat.add_zero,Nat.one_mul,Nat.reduceMul,Nat.add_assoc,Nat.reduceAdd] at a0 a1 b0 b1 c0 c1;simp only [avO,avN] at hn hc ⊢;clear yQ hn hc;unfold aK at ku iU gY nM HS2 DK ⊢;generalize dQ a b q=o1 at *;generalize dQ b c q=o2 at *;generalize dQ c a q=o3 at *;generalize dK a b q=s1 at *;generalize dK b c q=s2 at *;generalize dK c a q=s3 at *;have HR:=avE hR;clear hR;go_enter Tryz.func98,Tryz.ntmps98;go_upto_region 1 with fail;obtain ⟨W1,hW⟩:∃ W:World,W=w.alloc (.cells #[.int .i64 q.x,.int .i64 q.y] 39):=⟨_,rfl⟩;have X3:ah W1 w.heap.size 39 #[.int .i64 q.x,.int .i64 q.y]:=by rw [hW];exact ah.made rfl _ _
 have hB1:Below w.heap.size w W1:=by rw [hW];exact bA (bR w) _
 have HB1:=avE hB1;rw [<- hW];clear hW;have Hg:=avE (show ∀ W,Below W1.heap.size W1 W->g<W.heap.size/\W.cell? ⟨g,o,none⟩=some (.int .i64 a.x)/\W.cell? ⟨g,o+1,none⟩=some (.int .i64 a.y)/\W.cell? ⟨g,o+2,none⟩=some (.int .i64 b.x)/\W.cell? ⟨g,o+3,none⟩=some (.int .i64 b.y)/\W.cell? ⟨g,o+4,none⟩=some (.int .i64 c.x)/\W.cell? ⟨g,o+5,none⟩=some (.int .i64 c.y) from by
  intro W hW;have hb:=bT hB1 hW;exact ⟨awf hlb hb.size,(hb.cell hlb).trans a0,(hb.cell hlb).trans a1,(hb.cell hlb).trans b0,(hb.cell hlb).trans b1,(hb.cell hlb).trans c0,(hb.cell hlb).trans c1⟩)
 clear a0 a1 b0 b1 c0 c1 hB1;obtain ⟨hg1,a0,a1,b0,b1,c0,c1⟩:=Hg.out W1 (bR W1);clear hlb;have dW:=avE X3;obtain ⟨bH,bU,bY,-,-⟩:=X3.aQ
 cases o1
 case true =>
  refine dH (W1) (.run 7 0 0 (.call 7 255 (.run 20 8 255 (.done)))) fun bZ QR aB aH hS=>?_
  iterate 7 refine aC ?_
  refine fV (ku.out _) ?_;clear hS;intro cZ bW hS;refine aC ?_
  iterate 8 refine jC ?_
  iterate 2 refine aC ?_
  iterate 8 refine jC ?_
  refine aC ?_;refine dB ?_;clear hS aH aB;intro hB;have HB:=avE (bT HB1.out hB);clear hB;go_wp2;go_ret;exact ⟨aY (by rw [<- HR.out];rfl),HB.out⟩
 cases o2
 case true =>
  refine dH (W1) (.run 7 0 0 (.call 7 255 (.run 8 8 255 (.call 16 131071 (.run 11 17 131071 (.done)))))) fun bZ QR aB aH hS=>?_
  iterate 7 refine aC ?_
  refine fV (ku.out _) ?_;clear hS;intro cZ bW hS;refine aC ?_
  iterate 7 refine dN ?_
  refine fV (iU.out _) ?_;clear hS;intro wr2 iW hS
  iterate 2 refine aC ?_
  iterate 8 refine jC ?_
  refine aC ?_;refine dB ?_;clear hS aH aB;intro hB;have HB:=avE (bT HB1.out hB);clear hB;go_wp2;go_ret;exact ⟨aY (by rw [<- HR.out];rfl),HB.out⟩
 cases o3
 case true =>
  refine dH (W1) (.run 7 0 0 (.call 7 255 (.run 8 8 255 (.call 16 131071 (.run 9 17 131071 (.call 26 134217727 (.take 27 268435455 (.done)))))))) fun bZ QR aB aH hS=>?_
  iterate 7 refine aC ?_
  refine fV (ku.out _) ?_;clear hS;intro cZ bW hS;refine aC ?_
  iterate 7 refine dN ?_
  refine fV (iU.out _) ?_;clear hS;intro wr2 iW hS
  iterate 2 refine aC ?_
  iterate 7 refine dN ?_
  refine fV (gY.out _) ?_;clear hS;intro wr3 qj hS;refine aC ?_;refine dB ?_;clear hS aH aB;intro hB;have HB:=avE (bT HB1.out hB);clear hB;go_wp2;go_ret;exact ⟨aY (by rw [<- HR.out];rfl),HB.out⟩
 refine dH (W1) (.run 7 0 0 (.call 7 255 (.run 8 8 255 (.call 16 131071 (.run 9 17 131071 (.call 26 134217727 (.take 27 268435455 (.done)))))))) fun bZ QR aB aH hS=>?_
 iterate 7 refine aC ?_
 refine fV (ku.out _) ?_;clear hS;intro cZ bW hS;refine aC ?_
 iterate 7 refine dN ?_
 refine fV (iU.out _) ?_;clear hS;intro wr2 iW hS
 iterate 2 refine aC ?_
 iterate 7 refine dN ?_
 refine fV (gY.out _) ?_;clear hS;intro wr3 qj hS;refine aC ?_;refine dB ?_;clear hS aH aB;intro hB;obtain ⟨W2,hW2⟩:∃ W:World,W=wr3:=⟨_,rfl⟩;rw [<- hW2] at hB ⊢;clear hW2;have HB:=avE hB;have HB2:=avE (bT HB1.out hB);clear hB X3 bH bU bY hg1 a0 a1 b0 b1 c0 c1;obtain ⟨hg1,a0,a1,b0,b1,c0,c1⟩:=Hg.out W2 HB.out;have X3:=dW.out.keep HB.out
 try clear bH
 try clear bU
 try clear bY
 obtain ⟨bH,bU,bY,-,-⟩:=X3.aQ;go_upto_region 3 with fail;refine dH (W2) (.run 7 0 0 (.run 7 8 127 (.run 7 16 32639 (.call 7 8355839 (.call 15 8388607 (.call 23 16777215 (.run 3 24 16777215 (.done)))))))) fun bZ QR aB aH hS=>?_
 iterate 21 refine aC ?_
 refine fV (nM.out _) ?_;clear hS;intro cZ bW hS;refine fV (HS2.out _) ?_;clear hS;intro wr2 iW hS;refine fV (DK.out _) ?_;clear hS;intro wr3 qj hS
 iterate 3 refine aC ?_
 refine dB ?_;clear hS aH aB;intro hB;have HB3:=avE (bT HB2.out hB);clear hB X3 bH bU bY hg1 a0 a1 b0 b1 c0 c1;have hR:=HR.out;simp only [Bool.false_or] at hR;by_cases e1:s1=0
 ·have f1:(s1 != 0)=false:=by simpa using e1
  have hf:=avE (show false=R by rw [<- hR];simp [e1]);clear hR e1;go_wp2;go_ret;exact ⟨aY hf.out,HB3.out⟩
 have f1:(s1 != 0)=true:=by simpa using e1
 by_cases e2:s1=s2
 ·have f2:(s1 == s2)=true:=by simpa using e2
  by_cases e3:s2=s3
  ·have f3:(s2 == s3)=true:=by simpa using e3
   have hf:=avE (show true=R by rw [<- hR];simp [e1,e2,e3];omega);clear hR e1 e2 e3;go_wp2;go_ret;exact ⟨aY hf.out,HB3.out⟩
  ·have f3:(s2 == s3)=false:=by simpa using e3
   have hf:=avE (show false=R by rw [<- hR];simp [e3]);clear hR e1 e2 e3;go_wp2;go_ret;exact ⟨aY hf.out,HB3.out⟩
 ·have f2:(s1 == s2)=false:=by simpa using e2
  have hf:=avE (show false=R by rw [<- hR];simp [e2]);clear hR e1 e2;go_wp2;go_ret;exact ⟨aY hf.out,HB3.out⟩
end Go.Proofs.YtialfdomhoojiaaGreat
