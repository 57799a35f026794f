import Derived.Test.YtialfdomhoojiaaGreatJ34
set_option linter.unusedSimpArgs false
set_option linter.unusedVariables false
set_option maxRecDepth 100000
set_option maxHeartbeats 8000000
namespace Go.Proofs.YtialfdomhoojiaaGreat
open Go.RowKit
theorem atd (v:Value) (p:Pl) (aN:Int) (w:World) (h:bQ w v p) (hm:mF p) (hfl:(p.aj.flatMap (·.via)).length<=1048576):Calls Tryz.prog 43 #[v,.int .i64 aN] w (Yh w (Pg p aN)):=by
 have HC:=avE (fun W (hW:Below w.heap.size w W)=>aiG v p W (h.mono hW));have qO:=avE (fun W (hW:Below w.heap.size w W)=>RH p aN ▸ Yw v p aN W (h.mono hW) hm hfl);have HV:=avE h;obtain ⟨An,cn,Aa,ca,Af,cf,rfl⟩:=h.form;clear h;unfold Pg;by_cases hz:qE p=0
 case neg =>
  rw [if_pos hz];unfold Yh;generalize qE p=z at *;have hzb:(z != 0)=true:=by simpa using hz
  generalize p.nodes.length=nn at *;generalize p.faces.length=nf at *;generalize p.aj.length=na at *;clear hz qO;go_enter Tryz.func43,Tryz.ntmps43;go_upto_region 1 with fail;obtain ⟨g4,hg4⟩:∃ g,w.heap.size+1=g:=⟨_,rfl⟩;obtain ⟨W1,hW⟩:∃ W:World,W=(w.alloc (.cells #[.slice An nn cn,.slice Aa na ca,.slice Af nf cf] 26)).alloc (.cells #[.slice none 0 0,.slice none 0 0,.slice none 0 0] 26):=⟨_,rfl⟩;have X2:ah W1 w.heap.size 26 #[.slice An nn cn,.slice Aa na ca,.slice Af nf cf]:=by rw [hW];exact (ah.made rfl _ _).alloc _
  have dI:=avE (show ah W1 g4 26 #[.slice none 0 0,.slice none 0 0,.slice none 0 0] by rw [hW];exact ah.made (by rw [<- hg4];simp) _ _);have HB1:=avE (show Below w.heap.size w W1 by rw [hW];exact bA (bA (bR w) _) _);have hgw:w.heap.size<=g4:=by omega
  rw [<- hW]
  try rw [hg4]
  clear hW hg4;obtain ⟨aG,aI,aJ,aO,-,-,-⟩:=X2.aF;go_wp2_with fail;refine (HC.out _ HB1.out).mono ?_;rintro e w2 ⟨rfl,hb2⟩;have X4:=dI.out.keep hb2;have HB2:=avE (bT HB1.out hb2);clear hb2 X2 aG aI aJ aO;have kT:=avE X4;obtain ⟨aV,aX,bn,fA,dV,gy,iF⟩:=X4.aF;go_wp2_with fail;exact FP (g:=g4) (cs:=#[.slice none 0 0,.slice none 0 0,.slice none 0 0]) rfl yS rfl rfl (ah.ny kT.out) ⟨_,rfl,bS (p:=⟨g4,2,none⟩) (bS (p:=⟨g4,1,none⟩) (bS (p:=⟨g4,0,none⟩) HB2.out hgw _) hgw _) hgw _,bQ.zero _⟩
 rw [if_neg (by simpa using hz)];rw [hz] at HC;clear hz;generalize hnn:p.nodes.length=nn at *;generalize hnf:p.faces.length=nf at *;generalize hna:p.aj.length=na at *;have EI:=avE hnn;have yL:=avE hnf;have zV:=avE hna;have HM:=avE hm;have OY:=avE hfl;clear hnn hnf hna hm hfl;unfold uY
 cases hT:lY p aN with
 | none =>
  rw [hT,show OD none=.tuple #[.int .i64 0,.int .i64 0,.int .i64 0,.bool false] from rfl] at qO;simp only [Option.map_none];clear hT;go_enter Tryz.func43,Tryz.ntmps43;go_upto_region 1 with fail;obtain ⟨g2,hg2⟩:∃ g,w.heap.size=g:=⟨_,rfl⟩;obtain ⟨W1,hW⟩:∃ W:World,W=(w.alloc (.cells #[.slice An nn cn,.slice Aa na ca,.slice Af nf cf] 26)).alloc (.cells #[.slice none 0 0,.slice none 0 0,.slice none 0 0] 26):=⟨_,rfl⟩;have X2:ah W1 g2 26 #[.slice An nn cn,.slice Aa na ca,.slice Af nf cf]:=by rw [hW,<- hg2];exact (ah.made rfl _ _).alloc _
  have dI:=avE (show ah W1 (g2+1) 26 #[.slice none 0 0,.slice none 0 0,.slice none 0 0] by rw [hW,<- hg2];exact ah.made ars _ _);have HB1:=avE (show Below w.heap.size w W1 by rw [hW];exact bA (bA (bR w) _) _);rw [<- hW]
  try rw [hg2]
  have dh:=avE X2;have hgw:w.heap.size<=g2:=by omega
  clear hW hg2
  try clear aG
  try clear aI
  try clear aJ
  try clear aO
  obtain ⟨aG,aI,aJ,aO,-,-,-⟩:=X2.aF;go_wp2_with fail;refine (HC.out _ HB1.out).mono ?_;rintro e w2 ⟨rfl,hb2⟩;have kT:=avE (dI.out.keep hb2);have jG:=avE (dh.out.keep hb2);have HB2:=avE (bT HB1.out hb2);clear hb2 X2 aG aI aJ aO dI dh HB1;have X2:=jG.out
  try clear aG
  try clear aI
  try clear aJ
  try clear aO
  obtain ⟨aG,aI,aJ,aO,-,-,-⟩:=X2.aF;go_upto_region 4 with fail;go_wp2_with fail;refine (qO.out _ HB2.out).mono ?_;rintro e w3 ⟨rfl,hb3⟩;have qc:=avE (kT.out.keep hb3);have vg:=avE (jG.out.keep hb3);have HB3:=avE (bT HB2.out hb3);clear hb3 X2 aG aI aJ aO kT jG HB2;have X2:=vg.out;have X4:=qc.out
  try clear aG
  try clear aI
  try clear aJ
  try clear aO
  obtain ⟨aG,aI,aJ,aO,-,-,-⟩:=X2.aF
  try clear aV
  try clear aX
  try clear bn
  try clear fA
  try clear dV
  try clear gy
  try clear iF
  obtain ⟨aV,aX,bn,fA,dV,gy,iF⟩:=X4.aF;go_wp2_with fail;exact FP (g:=g2+1) (cs:=#[.slice An nn cn,.slice Aa na ca,.slice Af nf cf]) rfl yS rfl rfl (ah.ny qc.out) ⟨_,rfl,zW HB3.out Pe _ _ _,HV.out.mono (zW HB3.out Pe _ _ _)⟩
 | some c =>
  rw [hT,show OD (some c)=.tuple #[.int .i64 c.id,.int .i64 c.k,.int .i64 c.n,.bool true] from rfl] at qO;simp only [Option.map_some];obtain ⟨a,hfa,-,-,hck,-⟩:=Wj hT;have lZ:=avE hfa;have mM:=avE hck;obtain ⟨id,ki,n⟩:=c;simp only at lZ mM qO ⊢;clear hfa hck hT;go_enter Tryz.func43,Tryz.ntmps43;go_upto_region 1 with fail;obtain ⟨g2,hg2⟩:∃ g,w.heap.size=g:=⟨_,rfl⟩;obtain ⟨W1,hW⟩:∃ W:World,W=(w.alloc (.cells #[.slice An nn cn,.slice Aa na ca,.slice Af nf cf] 26)).alloc (.cells #[.slice none 0 0,.slice none 0 0,.slice none 0 0] 26):=⟨_,rfl⟩;have X2:ah W1 g2 26 #[.slice An nn cn,.slice Aa na ca,.slice Af nf cf]:=by rw [hW,<- hg2];exact (ah.made rfl _ _).alloc _
  have dI:=avE (show ah W1 (g2+1) 26 #[.slice none 0 0,.slice none 0 0,.slice none 0 0] by rw [hW,<- hg2];exact ah.made ars _ _);have HB1:=avE (show Below w.heap.size w W1 by rw [hW];exact bA (bA (bR w) _) _);rw [<- hW]
  try rw [hg2]
  have dh:=avE X2;have hgw:w.heap.size<=g2:=by omega
  clear hW hg2
  try clear aG
  try clear aI
  try clear aJ
  try clear aO
  obtain ⟨aG,aI,aJ,aO,-,-,-⟩:=X2.aF;go_wp2_with fail;refine (HC.out _ HB1.out).mono ?_;rintro e w2 ⟨rfl,hb2⟩;have kT:=avE (dI.out.keep hb2);have jG:=avE (dh.out.keep hb2);have HB2:=avE (bT HB1.out hb2);clear hb2 X2 aG aI aJ aO dI dh HB1;have X2:=jG.out
  try clear aG
  try clear aI
  try clear aJ
  try clear aO
  obtain ⟨aG,aI,aJ,aO,-,-,-⟩:=X2.aF;go_upto_region 4 with fail;go_wp2_with fail;refine (qO.out _ HB2.out).mono ?_;rintro e w3 ⟨rfl,hb3⟩;have qc:=avE (kT.out.keep hb3);have vg:=avE (jG.out.keep hb3);have HB3:=avE (bT HB2.out hb3);clear hb3 X2 aG aI aJ aO kT jG HB2;have X2:=vg.out;have X4:=qc.out
  try clear aG
  try clear aI
  try clear aJ
  try clear aO
  obtain ⟨aG,aI,aJ,aO,-,-,-⟩:=X2.aF
  try clear aV
  try clear aX
  try clear bn
  try clear fA
  try clear dV
  try clear gy
  try clear iF
  obtain ⟨aV,aX,bn,fA,dV,gy,iF⟩:=X4.aF;go_wp2_with fail;refine (aiP (· = g2+1) _ p id ki a w3 (HV.out.skip HB3.out (fun g e=>by omega)) (fun g e=>by rw [e];exact qc.out.lt) HM.out lZ.out mM.out).mono ?_;rintro e w5 ⟨v5,rfl,hb5,o7⟩;obtain ⟨An5,cn5,Aa5,ca5,Af5,cf5,rfl⟩:=o7.EF.form;have zZ:=avE (qc.out.keep hb5);have qF:=avE o7;have bC:=avE (bT HB3.out hb5);clear hb5 o7 X2 aG aI aJ aO X4 aV aX bn fA dV gy iF qc vg HB3;have X4:=zZ.out
  try clear aV
  try clear aX
  try clear bn
  try clear fA
  try clear dV
  try clear gy
  try clear iF
  obtain ⟨aV,aX,bn,fA,dV,gy,iF⟩:=X4.aF;generalize (EH p id ki).nodes.length=n1 at *;generalize (EH p id ki).aj.length=n2 at *;generalize (EH p id ki).faces.length=n3 at *;go_wp2_with fail;exact FP (g:=g2+1) (cs:=#[.slice An5 n1 cn5,.slice Aa5 n2 ca5,.slice Af5 n3 cf5]) rfl yS rfl rfl (ah.ny zZ.out) ⟨_,rfl,zW bC.out Pe _ _ _,(qF.out.skip ((((Skip.refl (G:=(· = g2+1))).fF (p:=⟨g2+1,0,none⟩) rfl _).fF (p:=⟨g2+1,1,none⟩) rfl _).fF (p:=⟨g2+1,2,none⟩) rfl _)).EF⟩
theorem ate (v:Value) (p:Pl) (aN:Int) (w:World) (h:bQ w v p) (hm:mF p) (hfl:(p.aj.flatMap (·.via)).length<=1048576) (hw:∀ a∈p.aj,eU a.id):Calls Tryz.prog 45 #[v,.int .i64 aN] w (Yi w (JW p aN)):=by
 have HC:=avE (fun W (hW:Below w.heap.size w W)=>aiG v p W (h.mono hW));have qO:=avE (fun W (hW:Below w.heap.size w W)=>RH p aN ▸ Yw v p aN W (h.mono hW) hm hfl);have HV:=avE h;obtain ⟨An,cn,Aa,ca,Af,cf,rfl⟩:=h.form;clear h;unfold JW;by_cases hz:qE p=0
 case neg =>
  rw [if_pos hz];unfold Yi;generalize qE p=z at *;have hzb:(z != 0)=true:=by simpa using hz
  generalize p.nodes.length=nn at *;generalize p.faces.length=nf at *;generalize p.aj.length=na at *;clear hz qO;go_enter Tryz.func45,Tryz.ntmps45;go_upto_region 1 with fail;obtain ⟨g4,hg4⟩:∃ g,w.heap.size+1=g:=⟨_,rfl⟩;obtain ⟨W1,hW⟩:∃ W:World,W=(w.alloc (.cells #[.slice An nn cn,.slice Aa na ca,.slice Af nf cf] 26)).alloc (.cells #[.slice none 0 0,.slice none 0 0,.slice none 0 0] 26):=⟨_,rfl⟩;have X2:ah W1 w.heap.size 26 #[.slice An nn cn,.slice Aa na ca,.slice Af nf cf]:=by rw [hW];exact (ah.made rfl _ _).alloc _
  have dI:=avE (show ah W1 g4 26 #[.slice none 0 0,.slice none 0 0,.slice none 0 0] by rw [hW];exact ah.made (by rw [<- hg4];simp) _ _);have HB1:=avE (show Below w.heap.size w W1 by rw [hW];exact bA (bA (bR w) _) _);have hgw:w.heap.size<=g4:=by omega
  rw [<- hW]
  try rw [hg4]
  clear hW hg4;obtain ⟨aG,aI,aJ,aO,-,-,-⟩:=X2.aF;go_wp2_with fail;refine (HC.out _ HB1.out).mono ?_;rintro e w2 ⟨rfl,hb2⟩;have X4:=dI.out.keep hb2;have HB2:=avE (bT HB1.out hb2);clear hb2 X2 aG aI aJ aO;have kT:=avE X4;obtain ⟨aV,aX,bn,fA,dV,gy,iF⟩:=X4.aF;go_wp2_with fail;exact qG (g:=g4) (cs:=#[.slice none 0 0,.slice none 0 0,.slice none 0 0]) rfl yS rfl rfl (ah.ny kT.out) ⟨_,rfl,zW HB2.out hgw _ _ _,bQ.zero _⟩
 rw [if_neg (by simpa using hz)];rw [hz] at HC;clear hz;generalize hnn:p.nodes.length=nn at *;generalize hnf:p.faces.length=nf at *;generalize hna:p.aj.length=na at *;have EI:=avE hnn;have yL:=avE hnf;have zV:=avE hna;have HM:=avE hm;have HW:=avE hw;have OY:=avE (show qB p.aj<=1048576 by unfold qB;rw [List.length_flatMap] at hfl;exact hfl);clear hnn hnf hna hm hfl hw;have HL:=avE (fun (q:Pl) (hq:mF q) (hf:qB q.aj<=1048576) v W (h:bQ W v q)=>show Calls Tryz.prog 41 #[v,.int .i64 aN] W fun e w'=>e=.returned (.tuple #[.int .i64 ((lY q aN).elim 0 (·.id)),.int .i64 ((lY q aN).elim 0 fun c=>(c.k:Int)),.int .i64 ((lY q aN).elim 0 (·.n)),.bool (lY q aN).isSome])/\Below W.heap.size W w' from RH q aN ▸ Yw v q aN W h hq (by rw [List.length_flatMap];exact hf));obtain ⟨R,hR⟩:∃ R,BQ p aN=R:=⟨_,rfl⟩;rw [hR];have HR:=avE hR;replace qO:=avE (fun W (hW:Below w.heap.size w W)=>HL.out p HM.out OY.out _ W (HV.out.mono hW));have HT:=avE (⟨_,_,_,_,⟨rfl,rfl,rfl,rfl⟩⟩:∃ x y z b,(lY p aN).elim 0 (·.id)=x/\((lY p aN).elim 0 fun c=>(c.k:Int))=y/\(lY p aN).elim 0 (·.n)=z/\(lY p aN).isSome=b);obtain ⟨x,y,z,b,hx,hy,hz,hb⟩:=HT.out;rw [hx,hy,hz,hb] at qO;have HX:=avE hx;have HY:=avE hy;have HB:=avE hb;clear hR HT hx hy hz hb;go_enter Tryz.func45,Tryz.ntmps45;go_upto_region 1 with fail;obtain ⟨g2,hg2⟩:∃ g,w.heap.size=g:=⟨_,rfl⟩;obtain ⟨W1,hW⟩:∃ W:World,W=(w.alloc (.cells #[.slice An nn cn,.slice Aa na ca,.slice Af nf cf] 26)).alloc (.cells #[.slice none 0 0,.slice none 0 0,.slice none 0 0] 26):=⟨_,rfl⟩;have X2:ah W1 g2 26 #[.slice An nn cn,.slice Aa na ca,.slice Af nf cf]:=by rw [hW,<- hg2];exact (ah.made rfl _ _).alloc _
 have dI:=avE (show ah W1 (g2+1) 26 #[.slice none 0 0,.slice none 0 0,.slice none 0 0] by rw [hW,<- hg2];exact ah.made ars _ _);have HB1:=avE (show Below w.heap.size w W1 by rw [hW];exact bA (bA (bR w) _) _);rw [<- hW]
 try rw [hg2]
 have dh:=avE X2;have hgw:w.heap.size<=g2:=by omega
 clear hW hg2
 try clear aG
 try clear aI
 try clear aJ
 try clear aO
 obtain ⟨aG,aI,aJ,aO,-,-,-⟩:=X2.aF;go_wp2_with fail;refine (HC.out _ HB1.out).mono ?_;rintro e w2 ⟨rfl,hb2⟩;have kT:=avE (dI.out.keep hb2);have jG:=avE (dh.out.keep hb2);have HB2:=avE (bT HB1.out hb2);clear hb2 X2 aG aI aJ aO dI dh HB1;have X2:=jG.out
 try clear aG
 try clear aI
 try clear aJ
 try clear aO
 obtain ⟨aG,aI,aJ,aO,-,-,-⟩:=X2.aF;go_upto_region 4 with fail;go_wp2_with fail;refine (qO.out _ HB2.out).mono ?_;rintro e w3 ⟨rfl,hb3⟩;have qc:=avE (kT.out.keep hb3);have vg:=avE (jG.out.keep hb3);have HB3:=avE (bT HB2.out hb3);clear hb3 X2 aG aI aJ aO kT jG HB2;have X2:=vg.out;have X4:=qc.out
 try clear aG
 try clear aI
 try clear aJ
 try clear aO
 obtain ⟨aG,aI,aJ,aO,-,-,-⟩:=X2.aF;go_wp2_with fail;go_loopg [7,8,10] (qB p.aj) (fun k u v r wr=>∃ (q:Pl) (An Aa Af:Option Addr) (cn ca cf:Nat),qB q.aj=k/\k<=1048576/\BQ q aN=R/\mF q/\(∀ a∈q.aj,eU a.id)/\q.nodes.length=nn/\q.aj.length=na/\q.faces.length=nf/\u=.int .i64 ((lY q aN).elim 0 (·.id))/\v=.int .i64 ((lY q aN).elim 0 fun c=>(c.k:Int))/\r=.bool (lY q aN).isSome/\ah wr g2 26 #[.slice An nn cn,.slice Aa na ca,.slice Af nf cf]/\ah wr (g2+1) 26 #[.slice none 0 0,.slice none 0 0,.slice none 0 0]/\EX (fun g=>g=g2\/g=g2+1) wr (.agg #[.slice An nn cn,.slice Aa na ca,.slice Af nf cf]) q/\Below w.heap.size w wr)
 case atStart => exact ⟨p,An,Aa,Af,cn,ca,cf,rfl,OY.out,HR.out,HM.out,HW.out,EI.out,zV.out,yL.out,by rw [HX.out],by rw [HY.out],by rw [HB.out],vg.out,qc.out,HV.out.skip HB3.out (fun g e=>by omega),HB3.out⟩
 case round =>
  obtain ⟨q,Bn,Ba,Bf,dn,da,df,htot,hk,TU,ET,hwq,e1,e2,e3,rfl,rfl,rfl,X2,X4,hpf,hb⟩:=hrel;obtain ⟨wo,rfl⟩:∃ wo:World,wo=wr:=⟨_,rfl⟩;have HE:=avE (⟨e1,e2,e3⟩:q.nodes.length=nn/\q.aj.length=na/\q.faces.length=nf);have dh:=avE X2;have dI:=avE X4;have JH:=avE hpf;have Hb:=avE hb;have TV:=avE TU;have Yk:=avE htot;have Ym:=avE ET;have HWq:=avE hwq;have HK:=avE hk;clear htot hk TU ET hwq e1 e2 e3 hpf hb qc vg HB3
  cases hT:lY q aN with
  | none =>
   have HQ:=avE (show q=R from (ahk (by unfold uY;rw [hT];rfl)).symm.trans TV.out);clear hT;simp only [Option.elim,Option.isSome_none]
   try clear aG
   try clear aI
   try clear aJ
   try clear aO
   obtain ⟨aG,aI,aJ,aO,-,-,-⟩:=X2.aF
   try clear aV
   try clear aX
   try clear bn
   try clear fA
   try clear dV
   try clear gy
   try clear iF
   obtain ⟨aV,aX,bn,fA,dV,gy,iF⟩:=X4.aF;go_wp2_with fail;exact qG (g:=g2+1) (cs:=#[.slice Bn nn dn,.slice Ba na da,.slice Bf nf df]) rfl yS rfl rfl (ah.ny dI.out) ⟨_,rfl,zW Hb.out Pe _ _ _,by
    rw [<- HQ.out];exact (JH.out.skip (((Skip.refl.fF (p:=⟨g2+1,0,none⟩) (.inr rfl) _).fF (p:=⟨g2+1,1,none⟩) (.inr rfl) _).fF (p:=⟨g2+1,2,none⟩) (.inr rfl) _)).EF⟩
  | some c =>
   obtain ⟨a,hfa,-,-,hck,-⟩:=Wj hT;have hth:uY q aN=some (EH q c.id c.k):=by unfold uY;rw [hT];rfl
   have hke:=aiM hth Ym.out HWq.out;have htt:=abw hth;have HQ:=avE (show BQ (EH q c.id c.k) aN=R from (ahj hth).symm.trans TV.out);obtain ⟨q',hq'⟩:∃ q',EH q c.id c.k=q':=⟨_,rfl⟩;have hWo:=aiP (fun g=>g=g2\/g=g2+1) _ q c.id c.k a wo JH.out (fun g e=>by have h1:=X2.lt;have h2:=X4.lt;omega) Ym.out hfa hck;rw [hq'] at hke htt HQ hWo;have HWo:=avE hWo;have uF:=avE hke;have Yn:=avE (show qB q'.aj<gk by have:=Yk.out;omega);have hLe:=fun v W h=>HL.out q' hke.1 (by have:=Yk.out;have:=HK.out;omega) v W h;have rQ:=avE hLe;clear hfa hck hth hke htt hq' hWo hT hLe;obtain ⟨id,ki,n⟩:=c;simp only [Option.elim,Option.isSome_some] at HWo ⊢
   try clear aG
   try clear aI
   try clear aJ
   try clear aO
   obtain ⟨aG,aI,aJ,aO,Eb,FB,JG⟩:=X2.aF;go_wp2_with fail;refine HWo.out.mono ?_;rintro e w5 ⟨v5,rfl,hb5,o7⟩;obtain ⟨Bn',dn',Ba',da',Bf',df',rfl⟩:=o7.EF.form;rw [show q'.nodes.length=nn by rw [uF.out.2.2.1];exact HE.out.1,show q'.aj.length=na from uF.out.2.2.2.1.trans HE.out.2.1,show q'.faces.length=nf by rw [uF.out.2.2.2.2];exact HE.out.2.2] at o7 ⊢;have Gz:=avE (dh.out.keep hb5);have zZ:=avE (dI.out.keep hb5);have qF:=avE o7;have bC:=avE (bT Hb.out hb5);clear hb5 o7 X2 aG aI aJ aO Eb FB JG X4 dh dI HWo Hb JH;have X2:=Gz.out
   try clear aG
   try clear aI
   try clear aJ
   try clear aO
   try clear Eb
   try clear FB
   try clear JG
   obtain ⟨aG,aI,aJ,aO,Eb,FB,JG⟩:=X2.aF;go_upto_region 7 with fail;obtain ⟨W6,hW⟩:∃ W:World,W=((w5.setCell ⟨g2,0,none⟩ (.slice Bn' nn dn')).setCell ⟨g2,1,none⟩ (.slice Ba' na da')).setCell ⟨g2,2,none⟩ (.slice Bf' nf df'):=⟨_,rfl⟩;have acQ:=avE (show ah W6 g2 26 #[.slice Bn' nn dn',.slice Ba' na da',.slice Bf' nf df'] by rw [hW];exact ah.ny Gz.out);have ai2:=avE (show ah W6 (g2+1) 26 #[.slice none 0 0,.slice none 0 0,.slice none 0 0] by rw [hW];exact ((zZ.out.far (p:=⟨g2,0,none⟩) ars _).far (p:=⟨g2,1,none⟩) ars _).far (p:=⟨g2,2,none⟩) ars _);have HP6:=avE (show EX (fun g=>g=g2\/g=g2+1) W6 _ q' by rw [hW];exact qF.out.skip (((Skip.refl.fF (p:=⟨g2,0,none⟩) (.inl rfl) _).fF (p:=⟨g2,1,none⟩) (.inl rfl) _).fF (p:=⟨g2,2,none⟩) (.inl rfl) _));have jq:=avE (show Below w.heap.size w W6 by rw [hW];exact zW bC.out hgw _ _ _);rw [<- hW];clear hW X2 aG aI aJ aO Eb FB JG Gz zZ qF bC;have X2:=acQ.out
   try clear aG
   try clear aI
   try clear aJ
   try clear aO
   try clear Eb
   try clear FB
   try clear JG
   obtain ⟨aG,aI,aJ,aO,-,-,-⟩:=X2.aF;go_wp2_with fail;refine (rQ.out _ _ HP6.out.EF).mono ?_;rintro e w7 ⟨rfl,hb7⟩;have atf:=avE (acQ.out.keep hb7);have atg:=avE (ai2.out.keep hb7);have uw:=avE (HP6.out.skip (Skip.of hb7));have gW:=avE (bT jq.out hb7);clear hb7 X2 aG aI aJ aO acQ ai2 HP6 jq;go_wp2;go_roundg (qB q'.aj)
   case measure => exact Yn.out
   case rel => exact ⟨q',Bn',Ba',Bf',dn',da',df',rfl,by have:=Yn.out;have:=HK.out;omega,HQ.out,uF.out.1,uF.out.2.1,by rw [uF.out.2.2.1];exact HE.out.1,uF.out.2.2.2.1.trans HE.out.2.1,by rw [uF.out.2.2.2.2];exact HE.out.2.2,rfl,rfl,rfl,atf.out,atg.out,uw.out,gW.out⟩
def qg (ns:List Nd):Pl:=⟨⟨1,⟨0,0⟩⟩::ns,[⟨1,1,1,MK,1,0⟩],[1]⟩
def ath:Pl:=⟨[⟨1,⟨0,0⟩⟩],[⟨1,1,1,[⟨10,10⟩,⟨0,10⟩],1,0⟩],[1]⟩
def acR:Pl:=⟨[⟨1,⟨0,0⟩⟩,⟨2,⟨12,0⟩⟩],[⟨3,1,2,[⟨4,1⟩,⟨8,0⟩],0,0⟩],[]⟩
def Yx:Pl:=⟨[⟨1,⟨0,0⟩⟩,⟨2,⟨12,0⟩⟩],[⟨3,1,2,[⟨4,1⟩],0,0⟩],[]⟩
theorem ati:JW (qg []) 100=(qg [],0):=by kernel_rfl
theorem atj:JW (qg []) 101=(ath,0):=by kernel_rfl
theorem atl:lY (qg []) 101=some ⟨1,0,100⟩:=by kernel_rfl
theorem atm:lY (qg []) 100=none:=by kernel_rfl
theorem atn:JW acR 9=(Yx,0):=by kernel_rfl
theorem ato:Pg Yx 9=(Yx,false,0):=by kernel_rfl
theorem atp:rW (qg []) 1 2=true:=by kernel_rfl
theorem atq:rW (qg []) 1 3=false:=by kernel_rfl
theorem atr:rW (qg [⟨2,⟨7,2⟩⟩]) 1 0=false:=by kernel_rfl
theorem att:rW (qg [⟨2,⟨7,2⟩⟩]) 1 2=true:=by kernel_rfl
def atu (w:World) (ns:List Nd) (e:Ending) (w':World):Prop:=∃ v,e=.returned v/\Below w.heap.size w w'/\bQ w' v (qg ns)
theorem atv (v:Value) (ns:List Nd) (w:World) (h:DV w v ns) (hl:ns.length<=1000):Calls Tryz.prog 92 #[v] w (atu w ns):=by
 obtain ⟨A,c,rfl,h1,h2,h3⟩:=id h;have HN:=avE h;clear h h1 h2 h3;go_enter Tryz.func92,Tryz.ntmps92;go_wp2_with
  (at_builtin
   go_loud (refine iZ _ rfl (.tmp 4) (.tmp 5) _ rfl (base:=w.heap.size+1) ac2 YI ac4 rfl (Own.aiO (l:=[(⟨1,⟨0,0⟩⟩:Nd)]) (ah.made ars _ _) Pe rfl rfl rfl (dP Pe)) rfl (l2:=ns) (HN.out.mono (bA (bA (bR w) _) _)) afr afr ars ?_);intro v5 w5 dG hg5 iG
   (have hs5:DV w5 v5 (⟨1,⟨0,0⟩⟩::ns):=Own.sl dG)
   go_loud (obtain ⟨A5,c5,rfl,-,-,-⟩:=id hs5)
   (have wW:=avE hs5)
   (have dh:=avE (ah.grown (((ah.made rfl _ _:ah (w.alloc (.cells #[.slice none 0 0,.slice none 0 0,.slice none 0 0] 26)) w.heap.size 26 #[.slice none 0 0,.slice none 0 0,.slice none 0 0])).alloc (.cells #[.int .i64 1,.int .i64 0,.int .i64 0] 45)) hg5 (fun e=>by have h0:w.heap.size=w.heap.size+1:=avP e;omega)))
   (have bC:=avE (show Below w.heap.size w w5 from bG (bA (bA (bR w) _) _) hg5 (fun g hk=>by have h0:w.heap.size+1=g:=avP hk;omega)))
   have jd:=avE (show Own w5 (w.heap.size+1) 45 3 yR (.slice A5 (ns.length+1) c5) (⟨1,⟨0,0⟩⟩::ns) from dG);clear dG hg5 iG hs5;have X2:=((dh.out.alloc (.cells #[.int .i64 10,.int .i64 0,.int .i64 10,.int .i64 10,.int .i64 0,.int .i64 10] 39)).alloc (.cells #[.int .i64 1,.int .i64 1,.int .i64 1,.slice (some ⟨w5.heap.size,0,none⟩) 3 3,.int .i64 1,.int .i64 0] 50)).alloc (.cells #[.int .i64 1] 3);obtain ⟨aG,aI,aJ,aO,Eb,FB,JG⟩:=X2.aF;clear X2)
 obtain ⟨W8,hW⟩:∃ W:World,W=((w5.alloc (.cells #[.int .i64 10,.int .i64 0,.int .i64 10,.int .i64 10,.int .i64 0,.int .i64 10] 39)).alloc (.cells #[.int .i64 1,.int .i64 1,.int .i64 1,.slice (some ⟨w5.heap.size,0,none⟩) 3 3,.int .i64 1,.int .i64 0] 50)).alloc (.cells #[.int .i64 1] 3):=⟨_,rfl⟩;have hx:=dh.out.lt;have Y2:ah W8 w.heap.size 26 #[.slice none 0 0,.slice none 0 0,.slice none 0 0]:=by rw [hW];exact ((dh.out.alloc _).alloc _).alloc _
 have YV:ah W8 w5.heap.size 39 aiH:=by rw [hW];exact ((ah.made rfl _ _).alloc _).alloc _
 have YA:ah W8 (w5.heap.size+1) 50 (aiI w5.heap.size 3 3 1):=by rw [hW];exact (ah.made ars _ _).alloc _
 have YF:ah W8 (w5.heap.size+1+1) 3 #[.int .i64 1]:=by rw [hW];exact ah.made ars _ _
 have YO:Own W8 (w.heap.size+1) 45 3 yR (.slice A5 (ns.length+1) c5) (⟨1,⟨0,0⟩⟩::ns):=by rw [hW];exact ((jd.out.alloc _).alloc _).alloc _
 have YB:Below w.heap.size w W8:=by rw [hW];exact bA (bA (bA bC.out _) _) _
 rw [<- hW];clear hW;have ne0:(Value.slice A5 (ns.length+1) c5).ownBlock≠some w.heap.size:=fun e=>by have:=(YO.lt _ e).1;omega
 have n1:w5.heap.size≠w.heap.size:=by omega
 have n2:w5.heap.size+1≠w.heap.size:=by omega
 have n3:w5.heap.size+1+1≠w.heap.size:=by omega
 refine Po (g:=w.heap.size) (cs:=#[.slice A5 (ns.length+1) c5,.slice (some ⟨w5.heap.size+1,0,none⟩) 1 1,.slice (some ⟨w5.heap.size+1+1,0,none⟩) 1 1]) rfl yS rfl rfl (ah.ny Y2) ⟨_,rfl,?_,?_⟩
 · exact bS (bS (bS YB (p:=⟨w.heap.size,0,none⟩) (awe _) _) (p:=⟨w.heap.size,1,none⟩) (awe _) _) (p:=⟨w.heap.size,2,none⟩) (awe _) _
 · exact bQ.ex (v:=w5.heap.size) (n:=3) (c:=3) (Own.sl (((YO.far (p:=⟨w.heap.size,0,none⟩) ne0 _).far (p:=⟨w.heap.size,1,none⟩) ne0 _).far (p:=⟨w.heap.size,2,none⟩) ne0 _)) (((YA.far (p:=⟨w.heap.size,0,none⟩) n2 _).far (p:=⟨w.heap.size,1,none⟩) n2 _).far (p:=⟨w.heap.size,2,none⟩) n2 _) (asJ (((YV.far (p:=⟨w.heap.size,0,none⟩) n1 _).far (p:=⟨w.heap.size,1,none⟩) n1 _).far (p:=⟨w.heap.size,2,none⟩) n1 _)) (((YF.far (p:=⟨w.heap.size,0,none⟩) n3 _).far (p:=⟨w.heap.size,1,none⟩) n3 _).far (p:=⟨w.heap.size,2,none⟩) n3 _)
theorem acS (v u:Value) (p:Pl) (w:World) (h:bQ w v p) (h':bQ w u p):Calls Tryz.prog 23 #[v,u] w fun e w'=>e=.returned (.bool true)/\Below w.heap.size w w':=by
 obtain ⟨_,_,_,al,rfl,hpa,⟨An,cn,rfl,hn1,hn2,RN⟩,⟨⟨Aa,ca,rfl,ha1,ha2,gV⟩,hV⟩,⟨Af,cf,rfl,hf1,hf2,hRf⟩⟩:=h;obtain ⟨_,_,_,bl,rfl,hpb,⟨Bn,dn,rfl,-,-,hSn⟩,⟨⟨Ba,da,rfl,-,-,hSa⟩,hU⟩,⟨Bf,df,rfl,-,-,hSf⟩⟩:=h';have hll:bl.length=al.length:=by have:=congrArg List.length (hpa.symm.trans hpb);simpa using this.symm
 have HAt:=avE (fun k (h1:k<al.length) (h2:k<bl.length)=>show al[k].1=bl[k].1 from by
  have e1:(al.map (·.1))[k]'(by simpa using h1)=al[k].1:=by rw [av4]
  have e2:(bl.map (·.1))[k]'(by simpa using h2)=bl[k].1:=by rw [av4]
  rw [<- e1,<- e2];congr 1;exact hpa.symm.trans hpb)
 have HRn:=avE RN;have jr:=avE gV;have HRf:=avE hRf;have Oj:=avE hSn;have JY:=avE hSa;have HSf:=avE hSf;have HV:=avE hV;have HU:=avE hU;have iM:=avE hll;unfold maxLen at hn2 ha2 hf2;rw [hll];obtain ⟨L,hL⟩:∃ L,p.nodes=L:=⟨_,rfl⟩;obtain ⟨F,hF⟩:∃ F,p.faces=F:=⟨_,rfl⟩;rw [hL] at hn1 HRn Oj ⊢;rw [hF] at hf1 HRf HSf ⊢;have hb1:L.length<=9223372036854775807:=by omega
 have hb2:al.length<=9223372036854775807:=by omega
 have hb3:F.length<=9223372036854775807:=by omega
 clear RN gV hRf hSn hSa hSf hV hU hpa hpb hll hL hF hn1 hn2 ha1 ha2 hf1 hf2;go_enter Tryz.func23,Tryz.ntmps23;go_upto_region 1 with fail;obtain ⟨W1,hW⟩:∃ W:World,W=(w.alloc (.cells #[.slice An L.length cn,.slice Aa al.length ca,.slice Af F.length cf] 26)).alloc (.cells #[.slice Bn L.length dn,.slice Ba al.length da,.slice Bf F.length df] 26):=⟨_,rfl⟩;have X2:ah W1 w.heap.size 26 #[.slice An L.length cn,.slice Aa al.length ca,.slice Af F.length cf]:=by rw [hW];exact (ah.made rfl _ _).alloc _
 have X3:ah W1 (w.heap.size+1) 26 #[.slice Bn L.length dn,.slice Ba al.length da,.slice Bf F.length df]:=by rw [hW];exact ah.made ars _ _
 have HB1:=avE (show Below w.heap.size w W1 by rw [hW];exact bA (bA (bR w) _) _);rw [<- hW];clear hW;have dh:=avE X2;have dW:=avE X3;obtain ⟨aG,aI,aJ,aO,-,-,-⟩:=X2.aF;obtain ⟨bH,bU,bY,fP,-,-,-⟩:=X3.aF;go_wp2_with fail;go_loopw [5] (fun u wr=>∃ k:Nat,k<=L.length/\u=.int .i64 k/\Below W1.heap.size W1 wr) (fun u _=>L.length-(intOf u).toNat)
 case atStart => exact ⟨0,avK _,rfl,bR W1⟩
 case round =>
  obtain ⟨k,hk,rfl,hb⟩:=hrel;obtain ⟨wo,rfl⟩:∃ wo:World,wo=wr:=⟨_,rfl⟩;have Hb:=avE hb;clear hb X2 aG aI aJ aO X3 bH bU bY fP;have X2:=dh.out.keep Hb.out;have X3:=dW.out.keep Hb.out
  try clear aG
  try clear aI
  try clear aJ
  try clear aO
  obtain ⟨aG,aI,aJ,aO,-,-,-⟩:=X2.aF
  try clear bH
  try clear bU
  try clear bY
  try clear fP
  obtain ⟨bH,bU,bY,fP,-,-,-⟩:=X3.aF;by_cases hlt:k<L.length
  ·obtain ⟨b,o,rfl,hlb,c0,c1,c2⟩:=(HRn.out.mono (bT HB1.out Hb.out)).nd hlt;obtain ⟨b',o',rfl,yZ,d0,d1,d2⟩:=(Oj.out.mono (bT HB1.out Hb.out)).nd hlt;generalize L[k]=n at *;have hE:=ajs n n;have ht:(!decide (n=n))=false:=by simp
   rw [ht] at hE;clear ht;have k1:(k:Int)<L.length:=by omega
   have k2:0<=(k:Int):=by omega
   go_upto_region 6 with fail;refine dH (wo) (.run 11 0 0 (.done)) fun bZ QR aB aH hS=>?_
   iterate 11 refine aC ?_
   refine dB ?_;clear hS aH aB;intro hB;have HB4:=avE (bT Hb.out hB);clear hB X2 aG aI aJ aO X3 bH bU bY fP c0 c1 c2 d0 d1 d2 hE;go_wp2;go_roundw
   case rel => exact ⟨k+1,by omega,by go_num,HB4.out⟩
   case measure => simp [intOf];omega
  ·have k1:¬ (k:Int)<L.length:=by omega
   clear hlt;go_wp2_with fail;go_loopw [6] (fun u wr=>∃ k:Nat,k<=al.length/\u=.int .i64 k/\Below W1.heap.size W1 wr) (fun u _=>al.length-(intOf u).toNat)
   case atStart => exact ⟨0,avK _,rfl,Hb.out⟩
   case round =>
    obtain ⟨j,hj,rfl,hb⟩:=hrel;obtain ⟨wi,rfl⟩:∃ wi:World,wi=wr:=⟨_,rfl⟩;have Hb2:=avE hb;clear hb X2 aG aI aJ aO X3 bH bU bY fP;have X2:=dh.out.keep Hb2.out;have X3:=dW.out.keep Hb2.out
    try clear aG
    try clear aI
    try clear aJ
    try clear aO
    obtain ⟨aG,aI,aJ,aO,-,-,-⟩:=X2.aF
    try clear bH
    try clear bU
    try clear bY
    try clear fP
    obtain ⟨bH,bU,bY,fP,-,-,-⟩:=X3.aF;by_cases hlt:j<al.length
    ·have hlt':j<bl.length:=by rw [iM.out];exact hlt
     obtain ⟨b,o,rfl,hlb,c0,c1,c2,c3,c4,c5⟩:=(jr.out.mono (bT HB1.out Hb2.out)).ar hlt;obtain ⟨b',o',rfl,yZ,d0,d1,d2,d3,d4,d5⟩:=(JY.out.mono (bT HB1.out Hb2.out)).ar hlt';have v1:=HV.out j hlt;have v2:=HU.out j hlt';obtain ⟨Av,cv,hva,-⟩:=id v1;obtain ⟨Au,cu,hua,-⟩:=id v2;have hh:=HAt.out j hlt hlt';rw [<- hh] at d0 d1 d2 d4 d5 hua v2;rw [hva] at c3 v1;rw [hua] at d3 v2;generalize al[j].1=a at *;have HS:=avE (fun W (hW:Below w.heap.size w W)=>show Calls Tryz.prog 68 #[jZ a (.slice Av a.via.length cv),jZ a (.slice Au a.via.length cu)] W fun e w'=>e=.returned (.bool true)/\Below W.heap.size W w' from by
      have t:=ajR a a _ _ W (v1.mono hW) (v2.mono hW);rw [avW rfl] at t;exact t)
     unfold jZ at HS;have k1:(j:Int)<al.length:=by omega
     have k2:0<=(j:Int):=by omega
     clear v1 v2 hva hua hh;go_upto_region 11 with fail;refine dH (wi) (.run 10 0 0 (.call 10 2047 (.take 11 4095 (.done)))) fun bZ QR aB aH hS=>?_
     iterate 10 refine aC ?_
     refine fV (HS.out _ (bT (bT HB1.out Hb2.out) (bD (bR wi)))) ?_;clear hS;intro cZ bW hS;refine aC ?_;refine dB ?_;clear hS aH aB;intro hB;have HB4:=avE (bT Hb2.out hB);clear hB X2 aG aI aJ aO X3 bH bU bY fP c0 c1 c2 c3 c4 c5 d0 d1 d2 d3 d4 d5;go_wp2;go_roundw
     case rel => exact ⟨j+1,by omega,by go_num,HB4.out⟩
     case measure => simp [intOf];omega
    ·have k3:¬ (j:Int)<al.length:=by omega
     clear hlt;go_wp2_with fail;go_loopw [7] (fun u wr=>∃ k:Nat,k<=F.length/\u=.int .i64 k/\Below W1.heap.size W1 wr) (fun u _=>F.length-(intOf u).toNat)
     case atStart => exact ⟨0,avK _,rfl,Hb2.out⟩
     case round =>
      obtain ⟨i,hi,rfl,hb⟩:=hrel;obtain ⟨wf,rfl⟩:∃ wf:World,wf=wr:=⟨_,rfl⟩;have Hb3:=avE hb;clear hb X2 aG aI aJ aO X3 bH bU bY fP;have X2:=dh.out.keep Hb3.out;have X3:=dW.out.keep Hb3.out
      try clear aG
      try clear aI
      try clear aJ
      try clear aO
      obtain ⟨aG,aI,aJ,aO,-,-,-⟩:=X2.aF
      try clear bH
      try clear bU
      try clear bY
      try clear fP
      obtain ⟨bH,bU,bY,fP,-,-,-⟩:=X3.aF;by_cases hlt:i<F.length
      ·obtain ⟨b,o,rfl,hlb,c0⟩:=(HRf.out.mono (bT HB1.out Hb3.out)).int hlt;obtain ⟨b',o',rfl,yZ,d0⟩:=(HSf.out.mono (bT HB1.out Hb3.out)).int hlt;generalize F[i]=x at *;have k4:(i:Int)<F.length:=by omega
       have k5:0<=(i:Int):=by omega
       go_upto_region 16 with fail;refine dH (wf) (.run 11 0 0 (.done)) fun bZ QR aB aH hS=>?_
       iterate 11 refine aC ?_
       refine dB ?_;clear hS aH aB;intro hB;have HB4:=avE (bT Hb3.out hB);clear hB X2 aG aI aJ aO X3 bH bU bY fP c0 d0;go_wp2;go_roundw
       case rel => exact ⟨i+1,by omega,by go_num,HB4.out⟩
       case measure => simp [intOf];omega
      ·have k4:¬ (i:Int)<F.length:=by omega
       go_wp2;go_ret;exact ⟨rfl,bT HB1.out Hb3.out⟩
end Go.Proofs.YtialfdomhoojiaaGreat
