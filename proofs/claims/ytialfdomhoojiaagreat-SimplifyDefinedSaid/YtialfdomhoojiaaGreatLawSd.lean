import Derived.Test.YtialfdomhoojiaaGreatAwS
set_option linter.unusedSimpArgs false
set_option linter.unusedVariables false
set_option maxRecDepth 100000
set_option maxHeartbeats 8000000
namespace Go.Proofs.YtialfdomhoojiaaGreat
open Go.RowKit
theorem atM (v:Value) (p:Pl) (aN:Int) (w:World) (h:bQ w v p) (hw:∀ a∈p.aj,eU a.id) :
  Calls Tryz.prog 13 #[v,.int .i64 aN] w fun e w'=>e=.returned (.bool true)/\Below w.heap.size w w':=by
 have Ue:=avE ai6;have MR:=avE (fun W (hW:Below w.heap.size w W)=>adA v p 60 W (h.mono hW) Pe);have nM:=avE (fun hm hf W (hW:Below w.heap.size w W)=>Yj v p aN W (h.mono hW) hm hf hw);have HS2:=avE (fun hm hf W (hW:Below w.heap.size w W)=>ate v p aN W (h.mono hW) hm hf hw);obtain ⟨An,cn,Aa,ca,Af,cf,rfl⟩:=h.form;clear h hw;generalize p.nodes.length=nn at *;generalize p.aj.length=na at *;generalize hnf:p.faces.length=nf at *;have yL:=avE hnf;obtain ⟨few,hfew⟩:∃ few,Fe p 60=few:=⟨_,rfl⟩;rw [hfew] at MR;have Uf:=avE hfew;clear hfew hnf;go_enter Tryz.func13,Tryz.ntmps13;go_upto_region 1 with fail;obtain ⟨g2,hg2⟩:∃ g,w.heap.size=g:=⟨_,rfl⟩;obtain ⟨W1,hW⟩:∃ W:World,W=w.alloc (.cells #[.slice An nn cn,.slice Aa na ca,.slice Af nf cf] 26):=⟨_,rfl⟩;have X2:ah W1 g2 26 #[.slice An nn cn,.slice Aa na ca,.slice Af nf cf]:=by rw [hW,<- hg2];exact ah.made rfl _ _
 have HB1:=avE (show Below w.heap.size w W1 by rw [hW];exact bA (bR w) _);rw [<- hW]
 try rw [hg2]
 clear hW hg2;have dh:=avE X2;obtain ⟨aG,aI,aJ,aO,-,-,-⟩:=X2.aF;go_wp2_with fail;refine (MR.out _ HB1.out).mono ?_;rintro e w2 ⟨rfl,hb2⟩;have HB2:=avE (bT HB1.out hb2);have jG:=avE (dh.out.keep hb2);clear hb2 X2 aG aI aJ aO dh HB1 MR
 cases few
 case false =>
  go_wp2_with fail;refine (Ue.out _).mono ?_;rintro e w3 ⟨rfl,hb3⟩;have HB3:=avE (bT HB2.out hb3);clear hb3;go_wp2;go_ret;exact ⟨rfl,HB3.out⟩
 have hm:=mF.ai3 Uf.out;have hfc:nf<=1000000:=by
  rw [<- yL.out];have h:=Uf.out;unfold Fe at h;have h:=of_decide_eq_true h;omega
 clear yL;have BK:=avE (nM.out hm.1 hfc);have HG2:=avE (HS2.out hm.1 hm.2);clear nM HS2 hm hfc;obtain ⟨r,hr⟩:∃ r,JW p aN=r:=⟨_,rfl⟩;rw [hr] at BK HG2;clear hr;obtain ⟨q,z⟩:=r;have X2:=jG.out
 try clear aG
 try clear aI
 try clear aJ
 try clear aO
 obtain ⟨aG,aI,aJ,aO,-,-,-⟩:=X2.aF;go_wp2_with fail;refine (BK.out _ HB2.out).mono ?_;rintro e w5 ⟨v5,rfl,hb5,o7⟩;obtain ⟨A5,c5,D5,d5,E5,e5,rfl⟩:=o7.form;have qF:=avE o7;have bC:=avE (bT HB2.out hb5);have ED:=avE (jG.out.keep hb5);clear hb5 o7 X2 aG aI aJ aO jG HB2;simp only at qF ⊢;generalize hn1:q.nodes.length=n1 at *;generalize hn2:q.aj.length=n2 at *;generalize hn3:q.faces.length=n3 at *;have HN1:=avE hn1;have su:=avE hn2;have HN3:=avE hn3;clear hn1 hn2 hn3;go_upto_region 4 with fail;obtain ⟨g5,hg5⟩:∃ g,w5.heap.size=g:=⟨_,rfl⟩;obtain ⟨W5,hW⟩:∃ W:World,W=w5.alloc (.cells #[.slice A5 n1 c5,.slice D5 n2 d5,.slice E5 n3 e5] 26):=⟨_,rfl⟩;have hb:Below w5.heap.size w5 W5:=by rw [hW];exact bA (bR w5) _
 have dF:=avE (show ah W5 g5 26 #[.slice A5 n1 c5,.slice D5 n2 d5,.slice E5 n3 e5] by rw [hW,<- hg5];exact ah.made rfl _ _);have HQ:=avE (qF.out.mono hb);have MS:=avE (bT bC.out hb);have dW:=avE (ED.out.keep hb);rw [hg5,<- hW];clear hb hW qF bC ED hg5;have X2:=dW.out
 try clear aG
 try clear aI
 try clear aJ
 try clear aO
 obtain ⟨aG,aI,aJ,aO,-,-,-⟩:=X2.aF;go_wp2_with fail;refine (HG2.out _ MS.out).mono ?_;rintro e w7 ⟨v7,rfl,hb7,H8⟩;obtain ⟨A7,c7,D7,d7,E7,e7,rfl⟩:=H8.form;simp only [HN1.out,su.out,HN3.out] at H8 ⊢;have uw:=avE H8;have gW:=avE (bT MS.out hb7);have acY:=avE (dW.out.keep hb7);have Ug:=avE (dF.out.keep hb7);have Gp:=avE (HQ.out.mono hb7);clear hb7 H8 X2 aG aI aJ aO dW MS;go_upto_region 5 with fail;obtain ⟨g7,kD⟩:∃ g,w7.heap.size=g:=⟨_,rfl⟩;obtain ⟨W7,hW⟩:∃ W:World,W=w7.alloc (.cells #[.slice A7 n1 c7,.slice D7 n2 d7,.slice E7 n3 e7] 26):=⟨_,rfl⟩;have hb:Below w7.heap.size w7 W7:=by rw [hW];exact bA (bR w7) _
 have lS:=avE (show ah W7 g7 26 #[.slice A7 n1 c7,.slice D7 n2 d7,.slice E7 n3 e7] by rw [hW,<- kD];exact ah.made rfl _ _);have HQ7:=avE (uw.out.mono hb);have HZ5:=avE (Ug.out.keep hb);have HR5:=avE (Gp.out.mono hb);have HC7:=avE (bT gW.out hb);rw [kD,<- hW];clear hb hW uw gW acY kD dF HQ Ug Gp;have JY:=avE (fun W (hW:Below W7.heap.size W7 W)=>acS _ _ q W (HR5.out.mono hW) (HQ7.out.mono hW));have X5:=HZ5.out;have X7:=lS.out;obtain ⟨bI,bJ,bV,jk,-,-,-⟩:=X5.aF;obtain ⟨dY,dZ,gI,oM,-,-,-⟩:=X7.aF;go_wp2_with fail;refine (JY.out _ (bR W7)).mono ?_;rintro e w8 ⟨rfl,hb8⟩;have jl:=avE (bT HC7.out hb8);clear hb8 X5 bI bJ bV jk X7 dY dZ gI oM;go_wp2_with fail;refine (Ue.out _).mono ?_;rintro e w9 ⟨rfl,qh⟩;have je:=avE (bT jl.out qh);clear qh;go_wp2;go_ret;exact ⟨rfl,je.out⟩
end Go.Proofs.YtialfdomhoojiaaGreat
