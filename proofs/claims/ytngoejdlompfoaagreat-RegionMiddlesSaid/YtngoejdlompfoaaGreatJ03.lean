import Derived.Test.YtngoejdlompfoaaGreatJ02
import Derived.Test.YtngoejdlompfoaaGreatJ01
set_option linter.unusedSimpArgs false
set_option linter.unusedVariables false
set_option maxRecDepth 100000
set_option maxHeartbeats 2000000
namespace Go.Proofs.YtngoejdlompfoaaGreat
open Go.RowKit Tryz
theorem anP(a b c d:Pt)(w:World):Calls prog 273 #[BD a,BD b,BD c,BD d] w λe w'=>e=.returned (.int .i64<|Lc a b c d)/\AU w w':=by
 have T:∀p q:Pt,∀W,Calls prog 291 #[BD p,BD q] W _:=λp q W=>anB p q W;unfold BD at T⊢;have HT:=V T;clear T;go_enter func273,ntmps273;go_wp2_with fail;refine(HT.1 b a _).mono ?_;rintro e w1⟨rfl,M⟩;have C:AU w w1:=by exact ER
 have j:Boxed w1 w.heap.size a:=((((Boxed.new _ a rfl).alloc _).alloc _).alloc _).keep M;have o:Boxed w1 (w.heap.size+1) b:=(((Boxed.new _ b Ak).alloc _).alloc _).keep M;have s:Boxed w1 (w.heap.size+1+1) c:=((Boxed.new _ c Ak).alloc _).keep M;have z:Boxed w1 (w.heap.size+1+1+1) d:=(Boxed.new _ d Ak).keep M;clear M;go_upto_if 11 with fail;go_cut[]λK=>Boxed K w.heap.size (if CU b a then b else a)/\Boxed K (w.heap.size+1) (if CU b a then a else b)/\Boxed K (w.heap.size+1+1) c/\Boxed K (w.heap.size+1+1+1) d/\AU w K;case first=>
  obtain⟨Bg,Bq,CP,DX,EU⟩:=j.BL;obtain⟨CJ,CO,CQ,OB,OQ⟩:=o.BL;cases h:CU b a;.go_wp2;go_meet;rw[h];exact⟨j,o,s,z,C⟩
  go_wp2;go_meet;rw[h];exact⟨(((j).EM).far DJ _).far DJ _,(((o).far DJ _).far DJ _).EM,((((s).far DJ _).far DJ _).far DJ _).far DJ _,((((z).far DJ _).far DJ _).far DJ _).far DJ _,bS (bS (bS (bS C DJ _) DJ _) DJ _) DJ _⟩
 clear j o s z C;obtain⟨j,o,s,z,C⟩:=hcut;obtain⟨a1,ha1⟩:=BR<|if CU b a then b else a;rw[<-ha1]at j;have Ha1:=V ha1;clear ha1;obtain⟨b1,M⟩:=BR<|if CU b a then a else b;rw[<-M]at o;have Hb1:=V M;clear M;obtain⟨EW,EX,EY,-⟩:=s.BL;obtain⟨Ec,Ee,Fg,-⟩:=z.BL;go_wp2_with fail;refine(HT.1 d c _).mono ?_;rintro e w2⟨rfl,hb2⟩;replace C:=J C hb2;replace j:=j.keep hb2;replace o:=o.keep hb2;replace s:=s.keep hb2;replace z:=z.keep hb2;clear hb2;try clear Bg Bq CP
 try clear DX EU
 try clear CJ CO CQ
 try clear OB OQ
 try clear EW EX EY
 try clear Ec Ee Fg
 go_upto_if 16 with fail;go_cut[]λK=>Boxed K w.heap.size a1/\Boxed K (w.heap.size+1) b1/\Boxed K (w.heap.size+1+1) (if CU d c then d else c)/\Boxed K (w.heap.size+1+1+1) (if CU d c then c else d)/\AU w K;case first=>
  try clear EW EX EY
  obtain⟨EW,EX,EY,Zl,Zm⟩:=s.BL;try clear Ec Ee Fg
  obtain⟨Ec,Ee,Fg,dN,dO⟩:=z.BL;cases h:CU d c;.go_wp2;go_meet;rw[h];exact⟨j,o,s,z,C⟩
  go_wp2;go_meet;rw[h];exact⟨((((j).far DJ _).far DJ _).far DJ _).far DJ _,((((o).far DJ _).far DJ _).far DJ _).far DJ _,(((s).EM).far DJ _).far DJ _,(((z).far DJ _).far DJ _).EM,bS (bS (bS (bS C DJ _) DJ _) DJ _) DJ _⟩
 clear j o s z C;obtain⟨j,o,s,z,C⟩:=hcut;obtain⟨c1,hc1⟩:=BR<|if CU d c then d else c;rw[<-hc1]at s;have Hc1:=V hc1;clear hc1;obtain⟨d1,hd1⟩:=BR<|if CU d c then c else d;rw[<-hd1]at z;have Hd1:=V hd1;clear hd1;try clear Bg Bq CP
 try clear DX EU
 obtain⟨Bg,Bq,CP,-⟩:=j.BL;try clear EW EX EY
 try clear Zl Zm
 obtain⟨EW,EX,EY,-⟩:=s.BL;go_wp2_with fail;refine(HT.1 a1 c1 _).mono ?_;rintro e w3⟨rfl,U⟩;replace C:=J C U;replace j:=j.keep U;replace o:=o.keep U;replace s:=s.keep U;replace z:=z.keep U;clear U;try clear Bg Bq CP
 try clear DX EU
 try clear CJ CO CQ
 try clear OB OQ
 try clear EW EX EY
 try clear Zl Zm
 try clear Ec Ee Fg
 try clear dN dO
 go_upto_if 21 with fail;go_cut[]λK=>Boxed K w.heap.size (if CU a1 c1 then c1 else a1)/\Boxed K (w.heap.size+1) b1/\Boxed K (w.heap.size+1+1) c1/\Boxed K (w.heap.size+1+1+1) d1/\AU w K;case first=>
  try clear Bg Bq CP
  try clear DX EU
  obtain⟨Bg,Bq,CP,DX,EU⟩:=j.BL;try clear EW EX EY
  try clear Zl Zm
  obtain⟨EW,EX,EY,Zl,Zm⟩:=s.BL;cases h:CU a1 c1;.go_wp2;go_meet;rw[h];exact⟨j,o,s,z,C⟩
  go_wp2;go_meet;rw[h];exact⟨(j).EM,((o).far DJ _).far DJ _,((s).far DJ _).far DJ _,((z).far DJ _).far DJ _,bS (bS C DJ _) DJ _⟩
 clear j o s z C;obtain⟨j,o,s,z,C⟩:=hcut;obtain⟨a2,ha2⟩:=BR<|if CU a1 c1 then c1 else a1;rw[<-ha2]at j;have Ha2:=V ha2;clear ha2;try clear CJ CO CQ
 try clear OB OQ
 obtain⟨CJ,CO,CQ,-⟩:=o.BL;try clear Ec Ee Fg
 try clear dN dO
 obtain⟨Ec,Ee,Fg,-⟩:=z.BL;go_wp2_with fail;refine(HT.1 d1 b1 _).mono ?_;rintro e w4⟨rfl,hb4⟩;replace C:=J C hb4;replace j:=j.keep hb4;replace o:=o.keep hb4;replace s:=s.keep hb4;replace z:=z.keep hb4;clear hb4;try clear Bg Bq CP
 try clear DX EU
 try clear CJ CO CQ
 try clear OB OQ
 try clear EW EX EY
 try clear Zl Zm
 try clear Ec Ee Fg
 try clear dN dO
 go_upto_if 25 with fail;go_cut[]λK=>Boxed K w.heap.size a2/\Boxed K (w.heap.size+1) (if CU d1 b1 then d1 else b1)/\Boxed K (w.heap.size+1+1) c1/\Boxed K (w.heap.size+1+1+1) d1/\AU w K;case first=>
  try clear CJ CO CQ
  try clear OB OQ
  obtain⟨CJ,CO,CQ,OB,OQ⟩:=o.BL;try clear Ec Ee Fg
  try clear dN dO
  obtain⟨Ec,Ee,Fg,dN,dO⟩:=z.BL;cases h:CU d1 b1;.go_wp2;go_meet;rw[h];exact⟨j,o,s,z,C⟩
  go_wp2;go_meet;rw[h];exact⟨((j).far DJ _).far DJ _,(o).EM,((s).far DJ _).far DJ _,((z).far DJ _).far DJ _,bS (bS C DJ _) DJ _⟩
 clear j o s z C;obtain⟨j,o,s,z,C⟩:=hcut;obtain⟨b2,hb2⟩:=BR<|if CU d1 b1 then d1 else b1;rw[<-hb2]at o;have Hb2:=V hb2;clear hb2;have HS:Lc a b c d=if a2=b2 then 1 else if CU a2 b2 then 2 else 0:=by rw[Ha2.1,Hb2.1,Ha1.1,Hb1.1,Hc1.1,Hd1.1];rfl
 replace HS:=V HS;try clear Bg Bq CP
 try clear DX EU
 obtain⟨Bg,Bq,CP,-⟩:=j.BL;try clear CJ CO CQ
 try clear OB OQ
 obtain⟨CJ,CO,CQ,-⟩:=o.BL;have hE:=Vd a2 b2;go_wp2_with fail;.go_ret;refine⟨DZ ?_,C⟩;rw[HS.1,AZ Ol]
 refine(HT.1 a2 b2 _).mono ?_;rintro e w5⟨rfl,hb5⟩;have hfl:¬a2=b2:=by assumption
 cases h:CU a2 b2;.go_wp2;go_ret;refine⟨DZ ?_,J C hb5⟩;rw[HS.1,AX hfl,h];rfl
 go_wp2;go_ret;refine⟨DZ ?_,J C hb5⟩;rw[HS.1,AX hfl,h];rfl
theorem aaj(a b c d:Pt)(j:lim a)(hb:lim b)(o:lim c)(hd:lim d):-35184372088832<=BQ a b c d/\BQ a b c d<=35184372088832:=by obtain⟨a1,M,T,U⟩:=j;obtain⟨b1,b2,b3,b4⟩:=hb;obtain⟨c1,c2,c3,c4⟩:=o;obtain⟨d1,d2,d3,d4⟩:=hd;obtain⟨s,z⟩:=Rz (b.x-a.x) (d.y-c.y) 4194304 I I I I;obtain⟨C,K⟩:=Rz (b.y-a.y) (d.x-c.x) 4194304 I I I I;simp only[Int.reduceMul,Int.reduceNeg]at s z C K;unfold BQ;omega
def OT(a b c d:Pt):Int:=if a=b/\c=d/\¬a=c then 0 else if BQ a b c d=0 then if BQ a b a c=0/\BQ a b a d=0/\BQ c d c a=0/\BQ c d c b=0 then Lc a b c d else 0 else if BQ a b c d<0 then if 0<=-BQ a c c d/\-BQ a c c d<=-BQ a b c d/\0<=-BQ a c a b/\-BQ a c a b<=-BQ a b c d then 1 else 0 else if 0<=BQ a c c d/\BQ a c c d<=BQ a b c d/\0<=BQ a c a b/\BQ a c a b<=BQ a b c d then 1 else 0
def GU(a b c d:Pt):Int:=if ES [a,b,c,d]=true then OT a b c d else 0
theorem afF(a b c d:Pt)(w:World):Calls prog 248 #[BD a,BD b,BD c,BD d] w λe w'=>e=.returned (.int .i64<|GU a b c d)/\AU w w':=by
 have TS:∀W,Calls prog 273 #[BD a,BD b,BD c,BD d] W _:=λW=>anP a b c d W;have TC:∀p q r s:Pt,lim p->lim q->lim r->lim s->∀W,Calls prog 164 #[BD p,BD q,BD r,BD s] W _:=λp q r s hp hq hr hs W=>abE p q r s W hp hq hr hs;unfold BD at TS TC⊢;have HS:=V TS;clear TS;have HC:=V TC;clear TC;cases hn:ES [a,b,c,d]
 .have hm:GU a b c d=0:=by rw[GU,hn];rfl
  have j:=V hm;clear hm;go_enter func248,ntmps248;go_wp2_with fail;refine(zC _ [a,b,c,d] _<|EL.aD8<|AO.made Ak _ _).mono ?_;rintro e w1⟨rfl,hb1⟩;rw[hn];go_wp2;go_ret;refine⟨DZ j.1.symm,?_⟩;exact ER
 obtain⟨la,lb,lc,ld⟩:=an0 hn;have hm:GU a b c d=OT a b c d:=by rw[GU,AZ hn]
 unfold OT at hm;have j:=V hm;clear hm;obtain⟨Ha,Hb,Hc,Hd⟩:=D9 la lb lc ld;clear la lb lc ld;go_enter func248,ntmps248;go_wp2_with fail;refine(zC _ [a,b,c,d] _<|EL.aD8<|AO.made Ak _ _).mono ?_;rintro e w1⟨rfl,hb1⟩;rw[hn];clear hn;have o:AU w w1:=by exact ER
 have z:AO _ w.heap.size 50 #[.int .i64 a.x,.int .i64 a.y]:=AO.keep (by repeat(first|exact AO.made Ak _ _|refine AO.alloc ?_ _)) hb1;have C:AO _ (w.heap.size+1) 50 #[.int .i64 b.x,.int .i64 b.y]:=AO.keep (by repeat(first|exact AO.made Ak _ _|refine AO.alloc ?_ _)) hb1;have K:AO _ (w.heap.size+1+1) 50 #[.int .i64 c.x,.int .i64 c.y]:=AO.keep (by repeat(first|exact AO.made Ak _ _|refine AO.alloc ?_ _)) hb1;have M:AO _ (w.heap.size+1+1+1) 50 #[.int .i64 d.x,.int .i64 d.y]:=AO.keep (by repeat(first|exact AO.made Ak _ _|refine AO.alloc ?_ _)) hb1;clear hb1;obtain⟨T,U,CP,-⟩:=z.BL;obtain⟨CJ,CO,CQ,-⟩:=C.BL;obtain⟨EW,EX,EY,-⟩:=K.BL;obtain⟨Ec,Ee,Fg,-⟩:=M.BL;go_upto_region 3 with fail;go_cut[31]λs wx=>s=.bool (decide<|a=b/\c=d/\¬a=c)/\wx=w1;case first=>
  have e1:=Vd a b;have e2:=Vd c d;have e3:=afM a c;by_cases h1:a=b
  .have h1':decide (a=b)=true:=by simpa using h1
   have H1:=V h1;clear h1;by_cases h2:c=d
   .have h2':decide (c=d)=true:=by simpa using h2
    have H2:=V h2;clear h2;go_wp2;go_meet;exact⟨by simp[H1.1,H2.1],rfl⟩
   have h2':decide (c=d)=false:=by simpa using h2
   have H2:=V h2;clear h2;go_wp2;go_meet;exact⟨by simp[H2.1],rfl⟩
  have h1':decide (a=b)=false:=by simpa using h1
  have H1:=V h1;clear h1;go_wp2;go_meet;exact⟨by simp[H1.1],rfl⟩
 obtain⟨rfl,rfl⟩:=hcut;by_cases hz:a=b/\c=d/\¬a=c;.have hm:=j.1;rw[AZ hz]at hm;replace j:=V hm;clear hm;have hz':decide (a=b/\c=d/\¬a=c)=true:=Ia hz;rw[hz'];clear hz hz';go_wp2;go_ret;exact⟨DZ j.1.symm,o⟩
 have hm:=j.1;rw[AX hz]at hm;replace j:=V hm;clear hm;have hz':decide (a=b/\c=d/\¬a=c)=false:=GX hz;rw[hz'];clear hz hz';go_wp2_with fail;refine(HC.1 a b c d Ha.1 Hb.1 Hc.1 Hd.1 _).mono ?_;rintro e w2⟨rfl,hb2⟩;replace o:=J o hb2;replace z:=z.keep hb2;replace C:=C.keep hb2;replace K:=K.keep hb2;replace M:=M.keep hb2;clear hb2;try clear T U CP
 try clear CJ CO CQ
 try clear EW EX EY
 try clear Ec Ee Fg
 try clear T U CP
 obtain⟨T,U,CP,-⟩:=z.BL;try clear CJ CO CQ
 obtain⟨CJ,CO,CQ,-⟩:=C.BL;try clear EW EX EY
 obtain⟨EW,EX,EY,-⟩:=K.BL;try clear Ec Ee Fg
 obtain⟨Ec,Ee,Fg,-⟩:=M.BL;obtain⟨nb1,nb2⟩:=aaj a b c d Ha.1 Hb.1 Hc.1 Hd.1;generalize BQ a b c d=n at*;by_cases hn0:n=0
 .subst hn0;have hm:=j.1;rw[AZ rfl]at hm;replace j:=V hm;clear hm;go_wp2_with fail;refine(HC.1 a b a c Ha.1 Hb.1 Ha.1 Hc.1 _).mono ?_;rintro e w3⟨rfl,hb3⟩;replace o:=J o hb3;replace z:=z.keep hb3;replace C:=C.keep hb3;replace K:=K.keep hb3;replace M:=M.keep hb3;clear hb3;try clear T U CP
  try clear CJ CO CQ
  try clear EW EX EY
  try clear Ec Ee Fg
  try clear T U CP
  obtain⟨T,U,CP,-⟩:=z.BL;try clear CJ CO CQ
  obtain⟨CJ,CO,CQ,-⟩:=C.BL;try clear EW EX EY
  obtain⟨EW,EX,EY,-⟩:=K.BL;try clear Ec Ee Fg
  obtain⟨Ec,Ee,Fg,-⟩:=M.BL;generalize BQ a b a c=c1 at*;by_cases hc1:c1=0;case neg=>
   have hm:=j.1;rw[AX λh=>hc1 h.1]at hm;replace j:=V hm;clear hm;have hc':(c1 !=0)=true:=by simpa using hc1
   clear hc1;go_wp2;go_ret;exact⟨DZ j.1.symm,o⟩
  subst hc1;go_wp2_with fail;refine(HC.1 a b a d Ha.1 Hb.1 Ha.1 Hd.1 _).mono ?_;rintro e w4⟨rfl,hb4⟩;replace o:=J o hb4;replace z:=z.keep hb4;replace C:=C.keep hb4;replace K:=K.keep hb4;replace M:=M.keep hb4;clear hb4;try clear T U CP
  try clear CJ CO CQ
  try clear EW EX EY
  try clear Ec Ee Fg
  try clear T U CP
  obtain⟨T,U,CP,-⟩:=z.BL;try clear CJ CO CQ
  obtain⟨CJ,CO,CQ,-⟩:=C.BL;try clear EW EX EY
  obtain⟨EW,EX,EY,-⟩:=K.BL;try clear Ec Ee Fg
  obtain⟨Ec,Ee,Fg,-⟩:=M.BL;generalize BQ a b a d=c2 at*;by_cases hc2:c2=0;case neg=>
   have hm:=j.1;rw[AX λh=>hc2 h.2.1]at hm;replace j:=V hm;clear hm;have hc':(c2 !=0)=true:=by simpa using hc2
   clear hc2;go_wp2;go_ret;exact⟨DZ j.1.symm,o⟩
  subst hc2;go_wp2_with fail;refine(HC.1 c d c a Hc.1 Hd.1 Hc.1 Ha.1 _).mono ?_;rintro e w5⟨rfl,hb5⟩;replace o:=J o hb5;replace z:=z.keep hb5;replace C:=C.keep hb5;replace K:=K.keep hb5;replace M:=M.keep hb5;clear hb5;try clear T U CP
  try clear CJ CO CQ
  try clear EW EX EY
  try clear Ec Ee Fg
  try clear T U CP
  obtain⟨T,U,CP,-⟩:=z.BL;try clear CJ CO CQ
  obtain⟨CJ,CO,CQ,-⟩:=C.BL;try clear EW EX EY
  obtain⟨EW,EX,EY,-⟩:=K.BL;try clear Ec Ee Fg
  obtain⟨Ec,Ee,Fg,-⟩:=M.BL;generalize BQ c d c a=c3 at*;by_cases hc3:c3=0;case neg=>
   have hm:=j.1;rw[AX λh=>hc3 h.2.2.1]at hm;replace j:=V hm;clear hm;have hc':(c3 !=0)=true:=by simpa using hc3
   clear hc3;go_wp2;go_ret;exact⟨DZ j.1.symm,o⟩
  subst hc3;go_wp2_with fail;refine(HC.1 c d c b Hc.1 Hd.1 Hc.1 Hb.1 _).mono ?_;rintro e w6⟨rfl,hb6⟩;replace o:=J o hb6;replace z:=z.keep hb6;replace C:=C.keep hb6;replace K:=K.keep hb6;replace M:=M.keep hb6;clear hb6;try clear T U CP
  try clear CJ CO CQ
  try clear EW EX EY
  try clear Ec Ee Fg
  try clear T U CP
  obtain⟨T,U,CP,-⟩:=z.BL;try clear CJ CO CQ
  obtain⟨CJ,CO,CQ,-⟩:=C.BL;try clear EW EX EY
  obtain⟨EW,EX,EY,-⟩:=K.BL;try clear Ec Ee Fg
  obtain⟨Ec,Ee,Fg,-⟩:=M.BL;generalize BQ c d c b=c4 at*;by_cases hc4:c4=0;case neg=>
   have hm:=j.1;rw[AX λh=>hc4 h.2.2.2]at hm;replace j:=V hm;clear hm;have hc':(c4 !=0)=true:=by simpa using hc4
   clear hc4;go_wp2;go_ret;exact⟨DZ j.1.symm,o⟩
  subst hc4;have hm:=j.1;simp only[and_self,if_true]at hm;replace j:=V hm;clear hm;go_wp2_with fail;refine(HS.1 _).mono ?_;rintro e w8⟨rfl,hb8⟩;go_wp2;go_ret;exact⟨DZ j.1.symm,J o hb8⟩
 have azH:(n==0)=false:=by simpa using hn0
 have hm:=j.1;rw[AX hn0]at hm;replace j:=V hm;clear hm;obtain⟨sb1,sb2⟩:=aaj a c c d Ha.1 Hc.1 Hc.1 Hd.1;obtain⟨tb1,tb2⟩:=aaj a c a b Ha.1 Hc.1 Ha.1 Hb.1;clear hn0;go_upto_region 10 with fail;go_cut[10,11]λs t wx=>s=.int .i64 (BQ a c c d)/\t=.int .i64 (BQ a c a b)/\AU w wx;case first=>go_region_held3(λW=>W.cell? ⟨w.heap.size,0,none⟩=some (.int .i64 a.x)/\W.cell? ⟨w.heap.size,1,none⟩=some (.int .i64 a.y)/\W.cell? ⟨w.heap.size+1,0,none⟩=some (.int .i64 b.x)/\W.cell? ⟨w.heap.size+1,1,none⟩=some (.int .i64 b.y)/\W.cell? ⟨w.heap.size+1+1,0,none⟩=some (.int .i64 c.x)/\W.cell? ⟨w.heap.size+1+1,1,none⟩=some (.int .i64 c.y)/\W.cell? ⟨w.heap.size+1+1+1,0,none⟩=some (.int .i64 d.x)/\W.cell? ⟨w.heap.size+1+1+1,1,none⟩=some (.int .i64 d.y))((repeat' apply And.intro)<;>(repeat(refine Dk Ol ?_))<;>(first|assumption|simp[*]))(first|(go_at_call 164;refine(HC.1 _ _ _ _ (by first|exact Ha.1|exact Hc.1) (by first|exact Hc.1) (by first|exact Hc.1|exact Ha.1) (by first|exact Hd.1|exact Hb.1) _).mono ?_;rintro e w'⟨rfl,hb'⟩));go_wp2;go_meet;refine⟨rfl,rfl,?_⟩;exact ER
 clear z C K M o;clear T U CP;clear CJ CO CQ;clear EW EX EY;clear Ec Ee Fg;obtain⟨rfl,rfl,o⟩:=hcut;generalize BQ a c c d=s at*;generalize BQ a c a b=t at*;by_cases hneg:n<0;.have hm:=j.1;rw[AZ hneg]at hm;replace j:=V hm;clear hm;go_wp2_with fail;all_goals(first|(go_ret;refine⟨DZ ?_,o⟩;rw[j.1];first|rw[AZ I]|rw[AX I])|(exfalso;omega))
 have hm:=j.1;rw[AX hneg]at hm;replace j:=V hm;clear hm;go_wp2_with fail;all_goals(first|(go_ret;refine⟨DZ ?_,o⟩;rw[j.1];first|rw[AZ I]|rw[AX I])|(exfalso;omega))
theorem afG(a:Int):0<=a*a:=by
 rcases gJ 0 a with h|h;.exact LX h h
 exact Int.mul_nonneg_of_nonpos_of_nonpos h h
theorem amn{a b:Int}:a*b<=0↔0<=a/\b<=0\/a<=0/\0<=b:=by
 constructor
 .intro h;by_cases ha:a=0;.omega
  by_cases hp:0<a
  .left;refine⟨I,?_⟩;by_cases hb:0<b;.have:=KR hp hb;omega
   omega
  right;refine⟨I,?_⟩;by_cases hb:b<0;.have:=xg (show a<0 by omega) hb;omega
  omega
 rintro(⟨ha,hb⟩|⟨ha,hb⟩);.exact xk ha hb
 exact aCQ ha hb
theorem rZ{p a b:Int}:(p-a)*(p-b)<=0↔min a b<=p/\p<=max a b:=by rw[amn];omega
theorem amo{c o s j:Int}(z:c*j=o*s):c*s+o*j<=0↔c*s<=0/\o*j<=0:=by
 constructor
 .intro h;have C:0<=c*s*(o*j):=by
   have e:c*s*(o*j)=c*j*(c*j):=by grind
   rw[e];exact afG _
  by_cases h1:0<c*s;.have:=Yy h1 (show o*j<0 by omega);omega
  by_cases h2:0<o*j;.have:=Xd (show c*s<0 by omega) h2;omega
  omega
 omega
theorem parallel{c j o s z C:Int}(h:¬(c=0/\j=0))(h1:c*s-j*o=0)(h2:c*C-j*z=0):o*C-s*z=0:=by
 have M:c*(o*C-s*z)=0:=by grind
 have T:j*(o*C-s*z)=0:=by grind
 rcases Yz.1 M with h3|h3
 .rcases Yz.1 T with K|K;.exact absurd ⟨h3,K⟩ h
  exact K
 exact h3
theorem aak(a b p:Pt):Eh a b p=MG a b p:=by
 unfold Eh MG;cases ES [a,b,p];.rfl
 have c:BQ a b a p=tw a b p:=rfl;rw[c];by_cases h:tw a b p=0;.simp only[h,decide_true,Z8,Bool.and_assoc];rw[KQ];simp only[EC,DI];unfold dL;rw[amo<|by unfold tw at h;grind,rZ,rZ];omega
 simp[h]
theorem Np(a b:Pt):CU a b=true↔a.x<b.x\/a.x=b.x/\a.y<b.y:=by simp[CU]
theorem nY(a:Pt):CU a a=false:=by rw[<-Je,Np];omega
theorem Qs{a b:Pt}(h:CU a b=true):CU b a=false:=by rw[<-Je,Np];rw[Np]at h;omega
theorem ru{a b:Pt}(h:CU a b=false)(c:CU b a=false):a=b:=by rw[<-Je,Np]at h c;rw[Pt.ext_iff'];omega
def lo(a b:Pt):Pt:=if CU b a then b else a
def hi(a b:Pt):Pt:=if CU b a then a else b
theorem aal(a b:Pt):lo a b=lo b a:=by
 unfold lo;cases h:CU b a<;>cases c:CU a b<;>simp;.exact ru c h
 exact absurd (Qs h)<|by simp[c]
theorem aCr(a b:Pt):hi a b=hi b a:=by
 unfold hi;cases h:CU b a<;>cases c:CU a b<;>simp;.exact(ru c h).symm
 exact absurd (Qs h)<|by simp[c]
theorem Xl(a b c d:Pt):Lc a b c d=if hi (lo a b) (lo c d)=lo (hi a b) (hi c d)then 1 else if CU (hi (lo a b)<|lo c d)<|lo (hi a b)<|hi c d then 2 else 0:=by
 have o:∀p q:Pt,(if CU p q then q else p)=hi p q:=λp q=>by
  unfold hi;cases h:CU q p<;>cases j:CU p q<;>simp;.exact ru j h
  exact absurd (Qs h)<|by simp[j]
 have s:∀p q:Pt,(if CU q p then q else p)=lo p q:=λp q=>rfl;have z:∀p q:Pt,(if CU q p then p else q)=hi p q:=λp q=>rfl;unfold Lc;simp only[s,z,o];rw[aCr (lo c d)<|lo a b]
theorem Zn(a b c d:Pt):Lc a b c d=Lc c d a b:=by rw[Xl a b c d,aCr (lo a b)<|lo c d,aal (hi a b)<|hi c d,<-Xl]
theorem sD(a b c d:Pt):Lc a b c d=Lc b a c d:=by rw[Xl,Xl,aal a b,aCr a b]
theorem dP(c d:Pt):lo c d=c/\hi c d=d/\CU d c=false\/lo c d=d/\hi c d=c/\CU d c=true:=by unfold lo hi;cases h:CU d c<;>simp
theorem aam(c d a:Pt)(z:c≠d)(h:tw c d a=0):min c.x d.x<=a.x/\a.x<=max c.x d.x/\min c.y d.y<=a.y/\a.y<=max c.y d.y↔CU a (lo c d)=false/\CU (hi c d) a=false:=by
 have C:¬(c.x=d.x/\c.y=d.y):=λe=>z<|Pt.ext_iff'.2 e;unfold tw at h;have hp:(a.x-c.x)*(a.y-d.y)=(a.y-c.y)*(a.x-d.x):=by grind
 have hs:0<=(a.x-c.x)*(a.x-d.x)*((a.y-c.y)*(a.y-d.y)):=by
  have e:(a.x-c.x)*(a.x-d.x)*((a.y-c.y)*(a.y-d.y))=(a.x-c.x)*(a.y-d.y)*((a.x-c.x)*(a.y-d.y)):=by grind
  rw[e];exact afG _
 have b1:(a.x-c.x)*(a.x-d.x)<=0↔min c.x d.x<=a.x/\a.x<=max c.x d.x:=rZ;have M:(a.y-c.y)*(a.y-d.y)<=0↔min c.y d.y<=a.y/\a.y<=max c.y d.y:=rZ;have T:a.x=c.x->(d.x-c.x)*(a.y-c.y)=0:=λe=>by rw[e]at h;grind
 have U:a.x=d.x->(d.x-c.x)*(a.y-d.y)=0:=λe=>by rw[e]at h;grind
 have k3:(a.x-c.x)*(a.x-d.x)<0->(a.y-c.y)*(a.y-d.y)<=0:=λe=>by
  by_cases hy:0<(a.y-c.y)*(a.y-d.y);.have:=Xd e hy;omega
  omega
 rw[<-Je,<-Je,Np,Np];by_cases hx:c.x=d.x
 .have hax:a.x=c.x\/¬a.x=c.x:=Classical.em _;have hz:a.x=c.x:=by
   have:(d.y-c.y)*(a.x-c.x)=0:=by rw[hx]at h⊢;grind
   rcases Yz.1 this with e|e;.exact absurd ⟨hx,I⟩ C
   omega
  have K:=dP c d;rcases K with⟨o,s,j⟩|⟨o,s,j⟩<;>rw[o,s];.rw[<-Je,Np]at j;omega
  rw[Np]at j;omega
 have k1':a.x=c.x->a.y=c.y:=λe=>by rcases Yz.1<|T e with f|f<;>omega
 have k2':a.x=d.x->a.y=d.y:=λe=>by rcases Yz.1<|U e with f|f<;>omega
 have k3':min c.x d.x<a.x/\a.x<max c.x d.x->min c.y d.y<=a.y/\a.y<=max c.y d.y:=λe=>by
  refine M.1<|k3 ?_;rcases aFx hx with f|f;.exact Yy I I
  exact Xd I I
 have K:=dP c d;clear h hp hs b1 M T U k3;rcases K with⟨o,s,j⟩|⟨o,s,j⟩<;>rw[o,s];.rw[<-Je,Np]at j;omega
 rw[Np]at j;omega
theorem aec(c d a:Pt)(s:c≠d)(h:tw c d a=0):Lc a a c d=if min c.x d.x<=a.x/\a.x<=max c.x d.x/\min c.y d.y<=a.y/\a.y<=max c.y d.y then 1 else 0:=by
 have T:lo a a=a:=by simp[lo]
 have U:hi a a=a:=by simp[hi]
 have hb:=aam c d a s h;rw[Xl,T,U];generalize hC:lo c d=C at*;generalize hD:hi c d=D at*;have z:CU D C=false:=by
  rcases dP c d with⟨j,o,K⟩|⟨j,o,K⟩<;>rw[<-hC,<-hD,j,o];.exact K
  exact Qs K
 by_cases hin:CU a C=false/\CU D a=false
 .rw[AZ<|hb.2 hin];have j:hi a C=a:=by unfold hi;cases M:CU C a<;>simp;exact(ru hin.1 M).symm
  have o:lo a D=a:=by unfold lo;rw[hin.2];rfl
  rw[j,o];simp
 rw[AX λe=>hin<|hb.1 e];cases h1:CU a C
 .have h2:CU D a=true:=by simpa[h1]using hin
  have o:lo a D=D:=by unfold lo;rw[h2];rfl
  have j:hi a C=a:=by unfold hi;cases M:CU C a<;>simp;exact(ru h1 M).symm
  rw[j,o,AX (λe=>by rw[e,nY]at h2;cases h2),Qs h2];rfl
 have j:hi a C=C:=by unfold hi;rw[Qs h1];rfl
 have h2:CU D a=false:=by rw[<-Je,Np]at z⊢;rw[Np]at h1;omega
 have o:lo a D=a:=by unfold lo;rw[h2];rfl
 rw[j,o,AX (λe=>by rw[e,nY]at h1;cases h1),Qs h1];rfl
theorem Pt.aCs{a b:Pt}(h:a≠b):¬(b.x-a.x=0/\b.y-a.y=0):=λe=>h<|Pt.ext_iff'.2 ⟨I,I⟩
theorem aed{a b c:Pt}(h:ES [a,b,c]=true):GH a b c=0↔tw a b c=0:=by
 unfold GH dK;rw[AZ h];split;.omega
 split<;>omega
theorem aee{a b c d e f:Pt}(h1:ES [a,b,c]=true)(h2:ES [d,e,f]=true):GH a b c*GH d e f<=0↔0<=tw a b c/\tw d e f<=0\/tw a b c<=0/\0<=tw d e f:=by unfold GH dK;rw[AZ h1,AZ h2];generalize tw a b c=p;generalize tw d e f=q;split<;>split<;>(try split)<;>(try split)<;>simp<;>omega
theorem yP(a b c d:Pt):KA a b c d=GU a b c d:=by
 unfold KA GU;by_cases hn:ES [a,b,c,d]=true;case neg=>rw[AX hn,AX hn]
 rw[AZ hn,AZ hn];have U:Bl a=true/\Bl b=true/\Bl c=true/\Bl d=true:=by simpa[ES]using hn
 obtain⟨o,M,z,nd⟩:=U;have j:∀p q r:Pt,Bl p=true->Bl q=true->Bl r=true->ES [p,q,r]=true:=λp q r h1 h2 h3=>by simp[ES,h1,h2,h3]
 unfold OT;by_cases hab:a=b
 .subst hab;rw[AZ rfl];have T:BQ a a c d=0:=by unfold BQ;grind
  have c1:BQ a a a c=0:=by unfold BQ;grind
  have c2:BQ a a a d=0:=by unfold BQ;grind
  by_cases hcd:c=d
  .subst hcd;have hon:Eh c c a=decide (a=c):=by unfold Eh tw;rw[j c c a z z o,KQ];simp only[EC,DI,Z8,Pt.ext_iff'];grind
   rw[hon];by_cases hac:a=c
   .subst hac;have hl:lo a a=a:=by simp[lo]
    have hh:hi a a=a:=by simp[hi]
    have:Lc a a a a=1:=by rw[Xl,hl,hh,hl];simp
    simp[T,this]
   simp[hac]
  rw[AX<|show¬(a=a/\c=d/\¬a=c)fromλe=>hcd e.2.1,AZ T];have ct:BQ c d c a=tw c d a:=rfl;unfold Eh;rw[j c d a z nd o];by_cases ht:tw c d a=0;.rw[AZ<|show BQ a a a c=0/\BQ a a a d=0/\BQ c d c a=0/\BQ c d c a=0 from⟨c1,c2,ht,ht⟩,aec c d a hcd ht];simp only[ht,decide_true,Z8,EC,DI,and_assoc]
  rw[AX<|show¬(BQ a a a c=0/\BQ a a a d=0/\BQ c d c a=0/\BQ c d c a=0)fromλe=>ht e.2.2.1];simp[ht]
 rw[AX hab];by_cases hcd:c=d
 .subst hcd;rw[AZ rfl];have T:BQ a b c c=0:=by unfold BQ;grind
  have c1:BQ c c c a=0:=by unfold BQ;grind
  have c2:BQ c c c b=0:=by unfold BQ;grind
  rw[AX<|show¬(a=b/\c=c/\¬a=c)fromλe=>hab e.1,AZ T];unfold Eh;rw[j a b c o M z];have ct:BQ a b a c=tw a b c:=rfl;by_cases ht:tw a b c=0;.rw[AZ<|show BQ a b a c=0/\BQ a b a c=0/\BQ c c c a=0/\BQ c c c b=0 from⟨ht,ht,c1,c2⟩,Zn,aec a b c hab ht];simp only[ht,decide_true,Z8,EC,DI,and_assoc]
  rw[AX<|show¬(BQ a b a c=0/\BQ a b a c=0/\BQ c c c a=0/\BQ c c c b=0)fromλe=>ht e.1];simp[ht]
 rw[AX hcd,AX<|show¬(a=b/\c=d/\¬a=c)fromλe=>hab e.1];have e1:BQ a b a c=tw a b c:=rfl;have e2:BQ a b a d=tw a b d:=rfl;have e0:BQ a b c d=tw a b d-tw a b c:=by unfold BQ tw;grind
 have es:BQ a c c d=tw c d a:=by unfold BQ tw;grind
 have es2:tw c d b=tw c d a-BQ a b c d:=by unfold BQ tw;grind
 have et:BQ a c a b=-tw a b c:=by unfold BQ tw;grind
 simp only[aed<|j a b c o M z,aed<|j a b d o M nd];by_cases hz:tw a b c=0/\tw a b d=0
 .obtain⟨C,K⟩:=hz;have p1:BQ c d c a=0:=by
   unfold BQ;refine parallel (Pt.aCs hab) ?_ ?_;.unfold tw at C K;grind
   unfold tw at C K;grind
  have p2:BQ c d c b=0:=by
   unfold BQ;refine parallel (Pt.aCs hab) ?_ ?_;.unfold tw at C K;grind
   unfold tw at C K;grind
  rw[AZ<|show tw a b c=0/\tw a b d=0 from⟨C,K⟩,AZ<|show BQ a b c d=0 by rw[e0,C,K];rfl,AZ<|show BQ a b a c=0/\BQ a b a d=0/\BQ c d c a=0/\BQ c d c b=0 from⟨C,K,p1,p2⟩]
 rw[AX hz];simp only[aee (j a b c o M z)<|j a b d o M nd,aee (j c d a z nd o)<|j c d b z nd M,es2,et,es];generalize BQ a b c d=n at*;generalize tw c d a=s at*;by_cases hn0:n=0;.rw[AZ hn0,AX<|show¬(BQ a b a c=0/\BQ a b a d=0/\BQ c d c a=0/\BQ c d c b=0)fromλe=>hz ⟨e.1,e.2.1⟩,AX];omega
 rw[AX hn0];by_cases hneg:n<0;.rw[AZ hneg];have:(0<=tw a b c/\tw a b d<=0\/tw a b c<=0/\0<=tw a b d)/\(0<=s/\s-n<=0\/s<=0/\0<=s-n)↔0<=-s/\-s<=-n/\0<=- -tw a b c/\- -tw a b c<=-n:=I;simp only[this]
 rw[AX hneg];have:(0<=tw a b c/\tw a b d<=0\/tw a b c<=0/\0<=tw a b d)/\(0<=s/\s-n<=0\/s<=0/\0<=s-n)↔0<=s/\s<=n/\0<=-tw a b c/\-tw a b c<=n:=I;simp only[this]
def Xm(o p:Pt):Bool:=decide (p.y<o.y)||decide (p.y=o.y)&&decide (p.x<o.x)
def UW(o a b:Pt):Bool:=ES [o,a,b]&&(!decide (a=o)&&(!decide (b=o)&&if Xm o a=Xm o b then decide<|0<tw o a b else Xm o b))
def dQ(o a:Pt):Int:=if 0<a.x-o.x/\0<=a.y-o.y then 0 else if a.x-o.x<=0/\0<a.y-o.y then 1 else if a.x-o.x<0 then 2 else 3
def dS(o a b:Pt):Bool:=ES [o,a,b]&&(!decide (a=o)&&(!decide (b=o)&&(decide (dQ o a<dQ o b)||decide (dQ o a=dQ o b)&&decide (0<BQ o a o b))))
def Ei(x y:Int):Prop:=y<0\/y=0/\x<0
def Pn(ux uy vx vy:Int):Prop:=¬Ei ux uy/\Ei vx vy\/(Ei ux uy↔Ei vx vy)/\0<ux*vy-uy*vx
theorem amq(c j:Int):¬Pn c j c j:=by
 rintro(⟨h1,h2⟩|⟨-,h⟩);.exact h1 h2
 rw[KT j c]at h;omega
theorem three(s c z j C o:Int):j*(s*o-c*C)=c*(z*o-j*C)+o*(s*j-c*z):=by grind
theorem aef{v A:Int}(hv:0<v)(h:0<v*A):0<A:=by
 rcases aCR 0 A with h1|h1;.exact h1
 have:=xk (aS hv) h1;omega
theorem amr{v A:Int}(hv:0<v)(h:0<=v*A):0<=A:=by
 rcases aCR A 0 with h1|h1;.have:=Yy hv h1;omega
 exact h1
def gZ(x y:Int):Prop:=0<y\/y=0/\0<x
theorem aeg{o s z C K c:Int}(j:gZ o s)(hv:gZ z C)(M:gZ K c)(h1:0<=o*C-s*z)(h2:0<=z*c-C*K):0<=o*c-s*K/\(0<o*C-s*z\/0<z*c-C*K->0<o*c-s*K):=by
 have e:=three o s z C K c;unfold gZ at*;rcases hv with hv|⟨rfl,hv⟩
 .have T:0<c:=by
   rcases M with M|⟨rfl,M⟩;.exact M
   have:=KR hv M;rw[LD]at h2;omega
  have a1:0<=s*(z*c-C*K):=LX I h2;have a2:0<=c*(o*C-s*z):=LX I h1;refine⟨amr hv I,λh=>aef hv ?_⟩;rcases h with h|h;.have:=KR T h;omega
  rcases j with j|⟨rfl,j⟩;.have:=KR j h;omega
  have h3:=KR j hv;have:=KR T (show 0<o*C-0*z by rw[JQ];omega);omega
 have hu':s=0:=by
  rcases j with j|⟨j,-⟩;.have:=KR j hv;rw[LD]at h1;omega
  exact j
 subst hu';have U:0<o:=I;rw[JQ]at h2⊢;rw[JQ,LD];have hwy:0<=c:=I;have a1:=LX (aS U) hwy;refine⟨I,λh=>?_⟩;rcases h with h|h;.omega
 have:0<c:=aef hv I;have:=KR U this;omega
theorem aan{x y:Int}(h0:¬(x=0/\y=0)):¬Ei x y↔gZ x y:=by unfold Ei gZ;omega
theorem aao{x y:Int}:Ei x y↔gZ (-x) (-y):=by unfold Ei gZ;omega
theorem aeh{o s c j z C:Int}(T:¬(o=0/\s=0))(hv:¬(c=0/\j=0))(U:¬(z=0/\C=0))(K:Ei o s↔Ei c j)(M:Ei c j↔Ei z C)(h1:0<=o*j-s*c)(h2:0<=c*C-j*z):0<=o*C-s*z/\(0<o*j-s*c\/0<c*C-j*z->0<o*C-s*z):=by
 by_cases hl:Ei c j;.have:=aeg (aao.1<|K.2 hl) (aao.1 hl)<|aao.1<|M.1 hl;simp only[Int.neg_mul_neg]at this;exact this h1 h2
 exact aeg ((aan T).1<|λh=>hl<|K.1 h) ((aan hv).1 hl) ((aan U).1<|λh=>hl<|M.2 h) h1 h2
theorem ams{s z C K M T:Int}(U:¬(s=0/\z=0))(hv:¬(C=0/\K=0))(hw:¬(M=0/\T=0))(h1:Pn s z C K)(h2:Pn C K M T):Pn s z M T:=by
 unfold Pn at*;rcases h1 with⟨a1,j⟩|⟨a1,j⟩
 .rcases h2 with⟨c,o⟩|⟨c,o⟩;.exact absurd j c
  exact .inl ⟨a1,c.1 j⟩
 rcases h2 with⟨c,o⟩|⟨c,o⟩;.exact .inl ⟨λh=>c<|a1.1 h,o⟩
 exact .inr ⟨a1.trans c,(aeh U hv hw a1 c I I).2<|.inl j⟩
theorem amu{U uy vx vy K M:Int}(hu:¬(U=0/\uy=0))(hv:¬(vx=0/\vy=0))(hw:¬(K=0/\M=0))(h1:¬Pn U uy vx vy)(h2:¬Pn vx vy K M):¬Pn U uy K M:=by
 have z:∀{o s c b:Int},¬Pn o s c b->Ei o s/\¬Ei c b\/(Ei c b↔Ei o s)/\0<=c*s-b*o:=by
  intro o s c b h;unfold Pn at h;by_cases l1:Ei o s
  .by_cases l2:Ei c b
   .refine .inr ⟨by simp[l1,l2],?_⟩;rw[KT c,KT b];rcases aCR (s*c-o*b) 0 with h3|h3;.exact absurd (.inr ⟨by simp[l1,l2],I⟩) h
    exact h3
   exact .inl ⟨l1,l2⟩
  by_cases l2:Ei c b;.exact absurd (.inl ⟨l1,l2⟩) h
  refine .inr ⟨by simp[l1,l2],?_⟩;rw[KT c,KT b];rcases aCR (s*c-o*b) 0 with h3|h3;.exact absurd (.inr ⟨by simp[l1,l2],I⟩) h
  exact h3
 intro h3;rcases z h1 with⟨a1,T⟩|⟨a1,T⟩
 .rcases z h2 with⟨j,C⟩|⟨j,C⟩;.exact T j
  rcases h3 with⟨c1,c2⟩|⟨c1,c2⟩;.exact c1 a1
  exact T<|j.1<|c1.1 a1
 rcases z h2 with⟨j,C⟩|⟨j,C⟩
 .rcases h3 with⟨c1,c2⟩|⟨c1,c2⟩;.exact c1<|a1.1 j
  exact C<|c1.1<|a1.1 j
 rcases h3 with⟨c1,c2⟩|⟨c1,c2⟩;.exact c1<|a1.1<|j.1 c2
 have:=(aeh hw hv hu j a1 C T).1;rw[KT K,KT M]at this;omega
def dU(x y:Int):Int:=if 0<x/\0<=y then 0 else if x<=0/\0<y then 1 else if x<0 then 2 else 3
theorem aei{x y:Int}(h:¬(x=0/\y=0)):dU x y=0/\0<x/\0<=y\/dU x y=1/\x<=0/\0<y\/dU x y=2/\x<0/\y<=0\/dU x y=3/\0<=x/\y<0:=by
 unfold dU;split;.omega
 split;.omega
 split;.omega
 omega
theorem amv{j o s z:Int}(hu:¬(j=0/\o=0))(hv:¬(s=0/\z=0)):dU j o<dU s z\/dU j o=dU s z/\0<j*z-o*s↔Pn j o s z:=by
 unfold Pn;have np:∀{a b:Int},0<=a->b<=0->a*b<=0:=λh1 h2=>xk h1 h2;have pn:∀{a b:Int},a<=0->0<=b->a*b<=0:=λh1 h2=>aCQ h1 h2;rcases aei hu with⟨T,a1,C⟩|⟨T,a1,C⟩|⟨T,a1,C⟩|⟨T,a1,C⟩<;>rcases aei hv with⟨U,K,M⟩|⟨U,K,M⟩|⟨U,K,M⟩|⟨U,K,M⟩<;>rw[T,U];case inl.inr.inl=>
  have h1:=KR a1 M;have h2:=np C K;have c:¬Ei j o:=by unfold Ei;omega
  have l2:¬Ei s z:=by unfold Ei;omega
  simp only[c,l2,iff_self,true_and,not_false_eq_true,and_false,false_or,not_true_eq_false,false_and];omega
 case inr.inl.inl=>
  have h1:=pn a1 M;have h2:=KR C K;have c:¬Ei j o:=by unfold Ei;omega
  have l2:¬Ei s z:=by unfold Ei;omega
  simp only[c,l2,iff_self,true_and,not_false_eq_true,and_false,false_or,not_true_eq_false,false_and];omega
 case inr.inr.inl.inr.inr.inr=>
  have h1:=xg a1 M;have h2:=pn C K;have c:Ei j o:=by unfold Ei;omega
  have l2:Ei s z:=by unfold Ei;omega
  simp only[c,l2,iff_self,true_and,not_false_eq_true,and_false,false_or,not_true_eq_false,false_and];omega
 case inr.inr.inr.inr.inr.inl=>
  have h1:=np a1 M;have h2:=xg C K;have c:Ei j o:=by unfold Ei;omega
  have l2:Ei s z:=by unfold Ei;omega
  simp only[c,l2,iff_self,true_and,not_false_eq_true,and_false,false_or,not_true_eq_false,false_and];omega
 all_goals first|((have c:¬Ei j o:=by unfold Ei;omega);(have l2:¬Ei s z:=by unfold Ei;omega);(simp only[c,l2,iff_self,true_and,not_false_eq_true,and_false,false_or,not_true_eq_false,false_and];omega))|((have c:Ei j o:=by unfold Ei;omega);(have l2:Ei s z:=by unfold Ei;omega);(simp only[c,l2,iff_self,true_and,not_false_eq_true,and_false,false_or,not_true_eq_false,false_and];omega))|((have c:¬Ei j o:=by unfold Ei;omega);(have l2:Ei s z:=by unfold Ei;omega);simp[c,l2])|((have c:Ei j o:=by unfold Ei;omega);(have l2:¬Ei s z:=by unfold Ei;omega);simp[c,l2])
theorem aej(o p:Pt):Xm o p=true↔Ei (p.x-o.x) (p.y-o.y):=by unfold Xm Ei;simp only[LW,EC,DI];omega
theorem yQ{a o:Pt}:a≠o↔¬(a.x-o.x=0/\a.y-o.y=0):=by rw[Ne,Pt.ext_iff'];omega
def Es(o a b:Pt):Prop:=Pn (a.x-o.x) (a.y-o.y) (b.x-o.x)<|b.y-o.y
theorem aap(o a b:Pt):UW o a b=true↔ES [o,a,b]=true/\a≠o/\b≠o/\Es o a b:=by unfold UW;simp only[EC,Rh,IL];refine and_congr_right λ_=>and_congr_right λ_=>and_congr_right λ_=>?_;unfold Es Pn;rw[<-aej,<-aej];show _↔_\/_/\0<tw o a b;cases Xm o a<;>cases Xm o b<;>simp
theorem amw(o a b:Pt):dS o a b=true↔ES [o,a,b]=true/\a≠o/\b≠o/\Es o a b:=by unfold dS;simp only[EC,Rh,IL];refine and_congr_right λ_=>and_congr_right λh1=>and_congr_right λh2=>?_;rw[LW,EC,DI,DI,DI];exact amv (yQ.1 h1)<|yQ.1 h2
theorem amx(o a b:Pt):UW o a b=dS o a b:=by rw[KQ,aap,amw]
theorem amy(v:Value)(p:Pl)(id:Int)(w:World)(h:Cj w v p)(z:Short p):Calls prog 55 #[v,.int .i64 id] w<|rV w<|findAr p.AP id:=by
 obtain⟨vn,_,vf,al,rfl,hpa,-,⟨⟨An,cn,rfl,hn1,hn2,hR⟩,hV⟩,-⟩:=h;unfold maxLen at hn2;unfold Short at z;rw[hpa]at z⊢;clear hpa;have K:∀k(hk:k<al.length),al[k].1.via.length<=1048576:=λk hk=>z _<|H6<|BG hk;have HV:=V hV;clear hV z;have DN:=V K;clear K;go_enter func55,ntmps55;go_wp2_with fail;go_loopw[6](λi wr=>∃k:Nat,k<=al.length/\i=.int .i64 k/\AU w wr/\AO wr w.heap.size 26 #[vn,.slice An al.length cn,vf]/\AO wr (w.heap.size+1) 31 #[.int .i64 0,.int .i64 0,.int .i64 0,.slice none 0 0,.int .i64 0,.int .i64 0]/\∀j(hj:j<al.length),j<k->(al[j].1.id==id)=false)λi _=>al.length-(intOf i).toNat;case atStart=>exact⟨0,C9 _,rfl,bA (bA (bR w) _) _,(AO.made rfl _ _).alloc _,AO.made Ak _ _,λj _ h=>I⟩
 obtain⟨k,hk,rfl,hb,X2,M,hno⟩:=hrel;have U:=V hb;have T:=V hno;clear hb hno;obtain⟨BX,Bf,Bh,CS,-⟩:=X2.BF;obtain⟨Bg,Bq,CP,Fe,KW,Le,Lh,DX,EU,JI,Pm,Qq,Qr⟩:=M.J9;by_cases hlt:k<al.length
 .obtain⟨b,o,rfl,hlb,c0,c1,c2,c3,c4,c5⟩:=(hR.mono U.1).ar hlt;clear hR;have s:=HV.1 k hlt;obtain⟨Av,cv,hv,-⟩:=s;have s:=HV.1 k hlt;rw[hv]at c3 s;have UD:=V s;clear s hv;cases he:al[k].1.id==id
  .go_wp2;go_roundw;case rel=>exact⟨k+1,I,BH,U.1,X2,M,all_succ (p:=λx=>(x.1.id==id)=false) T.1 hlt he⟩
   exact BJ
  have hf:=aCp al id k hlt T.1 he;have Hf:=V hf;clear hf;have hsv:=DN.1 k hlt;go_wp2_with
   (at_builtin;refine FV _ rfl (.tmp 28) (.tmp 30) _ rfl (base:=wr.heap.size+1) LZ LK La rfl (Own.lit _ _ _ _ Ep [] _ 0 _ Ak rfl Ak (DC I) rfl rfl) rfl (UD.1.mono<|bA (bA U.1 _) _) aK aK Ak ?_;intro v1 w1 c hg hat;have C:Below (wr.alloc<|.cells #[.int .i64 al[k].1.id,.int .i64 al[k].1.fr,.int .i64 al[k].1.dst,.slice Av al[k].1.via.length cv,.int .i64 al[k].1.left,.int .i64 al[k].1.right] 31).heap.size (wr.alloc<|.cells #[.int .i64 al[k].1.id,.int .i64 al[k].1.fr,.int .i64 al[k].1.dst,.slice Av al[k].1.via.length cv,.int .i64 al[k].1.left,.int .i64 al[k].1.right] 31) w1:=bG (bA (bR _) _) hg (λg hk=>by have:wr.heap.size+1=g:=Dn hk;simp;omega);simp only[Rj]at c;obtain⟨A1,KX,rfl,-⟩:=Own.sl c;have F7:=V c;have Bw:AU w w1:=J (bA U.1 _) C;have X7:AO w1 wr.heap.size 31 #[.int .i64 al[k].1.id,.int .i64 al[k].1.fr,.int .i64 al[k].1.dst,.slice Av al[k].1.via.length cv,.int .i64 al[k].1.left,.int .i64 al[k].1.right]:=(AO.made rfl _ _).keep C;have hw8:w.heap.size+1<wr.heap.size:=I;have hw7:w.heap.size+1≠wr.heap.size:=I;replace M:=(M.alloc _).keep C;clear C c0 c1 c2 c3 c4 c5 hlb c hg hat;try clear Bg Bq CP Fe KW Le Lh
    try clear DX EU JI Pm Qq Qr
    obtain⟨Bg,Bq,CP,Fe,KW,Le,Lh,DX,EU,JI,Pm,Qq,Qr⟩:=M.J9;obtain⟨Ec,Ee,Fg,rW,X7d,X7e,X7f,dN,dO,aae,aaf,aag,aah⟩:=X7.J9);have rX:=U.1.size;have WG:(Value.slice A1 al[k].1.via.length KX).ownBlock≠some wr.heap.size:=λe=>by have:=(F7.1.lt _ e).1;omega
  have LH:(Value.slice A1 al[k].1.via.length KX).ownBlock≠some (w.heap.size+1):=λe=>by have:=(F7.1.lt _ e).1;omega
  have HP:=Own.sl<|((((((F7.1.far (p:=⟨wr.heap.size,3,none⟩) WG<|.slice A1 al[k].1.via.length KX).far (p:=⟨w.heap.size+1,0,none⟩) LH<|.int .i64 al[k].1.id).far (p:=⟨w.heap.size+1,1,none⟩) LH<|.int .i64 al[k].1.fr).far (p:=⟨w.heap.size+1,2,none⟩) LH<|.int .i64 al[k].1.dst).far (p:=⟨w.heap.size+1,3,none⟩) LH<|.slice A1 al[k].1.via.length KX).far (p:=⟨w.heap.size+1,4,none⟩) LH<|.int .i64 al[k].1.left).far (p:=⟨w.heap.size+1,5,none⟩) LH<|.int .i64 al[k].1.right;refine L6 (g:=w.heap.size+1) (cs:=#[.int .i64 al[k].1.id,.int .i64 al[k].1.fr,.int .i64 al[k].1.dst,.slice A1 al[k].1.via.length KX,.int .i64 al[k].1.left,.int .i64 al[k].1.right]) rfl UU rfl rfl (AO.UQ<|M.far (p:=⟨wr.heap.size,3,none⟩) hw7 _) ⟨.slice A1 al[k].1.via.length KX,Yw,?_,by rw[Hf.1];exact HP⟩;exact ER
 have hf:=aCq al id λj hj=>T.1 j hj I;have Hf:=V hf;clear hf;go_wp2;have Bw:=U.1;refine L6 (g:=w.heap.size+1) (cs:=#[.int .i64 0,.int .i64 0,.int .i64 0,.slice none 0 0,.int .i64 0,.int .i64 0]) rfl UU rfl rfl (AO.UQ M) ⟨.slice none 0 0,Yw,?_,by rw[Hf.1];exact Sl.nil _⟩;exact ER
def JJ(l:List Ar)(id:Int):Int:=(l.map λa=>(if a.fr=id then(1:Int)else 0)+if a.dst=id then 1 else 0).sum
theorem aaq(l:List Ar)(id:Int):0<=JJ l id/\JJ l id<=2*l.length:=by unfold JJ;induction l with|nil=>simp|cons a l c=>simp only[FB,H8,Gy];split<;>split<;>omega
theorem aek(al:List<|Ar×Value)(id:Int)(k:Nat)(hk:k<al.length):JJ ((al.take<|k+1).map (·.1)) id=JJ ((al.take k).map (·.1)) id+((if al[k].1.fr=id then(1:Int)else 0)+if al[k].1.dst=id then 1 else 0):=by unfold JJ;rw[Eu hk];simp only[Gt,PX,FB,Ri,H8,aP];omega
theorem aoP(v:Value)(p:Pl)(id:Int)(w:World)(h:Cj w v p)(z:p.AP.length<=1099511627776):Calls prog 46 #[v,.int .i64 id] w λe w'=>e=.returned (.int .i64<|JJ p.AP id)/\AU w w':=by
 obtain⟨vn,_,vf,al,rfl,c,-,⟨⟨An,cn,rfl,M,j,C⟩,K⟩,-⟩:=h;unfold maxLen at j;rw[c]at z⊢;rw[D6]at z;clear c;have T:=V K;clear K;go_enter func46,ntmps46;go_wp2_with fail;go_loopw[4,10](λn i wr=>∃k:Nat,k<=al.length/\i=.int .i64 k/\n=.int .i64 (JJ ((al.take k).map (·.1)) id)/\AU w wr)λ_ i _=>al.length-(intOf i).toNat;case atStart=>exact⟨0,C9 _,rfl,rfl,bA (bR w) _⟩
 obtain⟨k,hk,rfl,rfl,hb⟩:=hrel;have s:=V hb;clear hb;have hd:=aaq ((al.take k).map (·.1)) id;have U:((al.take k).map (·.1)).length<=al.length:=by simp;omega
 by_cases hlt:k<al.length;.obtain⟨b,o,rfl,hlb,c0,c1,c2,c3,c4,c5⟩:=(C.mono s.1).ar hlt;clear C;obtain⟨Av,cv,hv,-⟩:=T.1 k hlt;rw[hv]at c3;clear hv;have Hs:=V<|aek al id k hlt;generalize JJ ((al.take k).map (·.1)) id=d at*;go_wp2;all_goals
   go_roundw;case rel=>exact⟨k+1,I,BH,by rw[Hs.1];simp_all<;>go_num,bA s.1 _⟩
   case measure=>exact BJ
 have hE:(al.take k).map (·.1)=al.map (·.1):=by rw[Ip I]
 rw[hE];go_wp2;go_ret;exact⟨DZ rfl,s.1⟩
theorem aoQ(v:Value)(p:Pl)(id:Int)(w:World)(h:Cj w v p)(z:p.AP.length<=1099511627776):Calls prog 147 #[v,.int .i64 id] w λe w'=>e=.returned (.int .i64<|JJ p.AP id)/\AU w w':=by
 obtain⟨M,_,T,al,rfl,c,-,⟨⟨U,cn,rfl,hn1,j,C⟩,hV⟩,-⟩:=h;unfold maxLen at j;rw[c]at z⊢;rw[D6]at z;clear c hV;go_enter func147,ntmps147;go_wp2_with fail;go_loopw[5,6](λn i wr=>∃k:Nat,k<=al.length/\i=.int .i64 k/\n=.int .i64 (JJ ((al.take k).map (·.1)) id)/\AU w wr/\AO wr w.heap.size 26 #[M,.slice U al.length cn,T])λ_ i _=>al.length-(intOf i).toNat;case atStart=>exact⟨0,C9 _,rfl,rfl,bA (bR w) _,AO.made rfl _ _⟩
 obtain⟨k,hk,rfl,rfl,hb,K⟩:=hrel;have s:=V hb;clear hb;obtain⟨BX,Bf,Bh,CS,-⟩:=K.BF;have hd:=aaq ((al.take k).map (·.1)) id;have hl2:((al.take k).map (·.1)).length<=al.length:=by simp;omega
 by_cases hlt:k<al.length;.obtain⟨b,o,rfl,hlb,c0,c1,c2,-,c4,c5⟩:=(C.mono s.1).ar hlt;clear C;have Hs:=V<|aek al id k hlt;generalize JJ ((al.take k).map (·.1)) id=d at*;go_wp2;all_goals
   go_roundw;case rel=>exact⟨k+1,I,BH,by rw[Hs.1];simp_all<;>go_num,s.1,K⟩
   case measure=>exact BJ
 have hE:(al.take k).map (·.1)=al.map (·.1):=by rw[Ip I]
 rw[hE];go_wp2;go_ret;exact⟨DZ rfl,s.1⟩
def QS(l:List Int):Bool:=(List.range<|l.length-1).all λj=>decide<|l.getD j 0<l.getD (j+1) 0
theorem ael(l:List Int)(h:∀j(o:j+1<l.length),l[j]<l[j+1]):QS l=true:=by
 unfold QS;rw[KO];intro j o;have c:j+1<l.length:=by have:=FC.1 o;omega
 have:=h j c;simp[List.getD,DK c,DK<|show j<l.length by omega,this]
theorem ag4(l:List Int)(j:Nat)(c:j+1<l.length)(h:¬l[j]<l[j+1]):QS l=false:=by unfold QS;rw[aT];refine⟨j,FC.2 I,?_⟩;simp[List.getD,DK c,DK<|show j<l.length by omega];omega
theorem aar(v:Value)(l:List Int)(w:World)(h:Ints w v l):Calls prog 177 #[v] w λe w'=>e=.returned (.bool<|QS l)/\AU w w':=by
 obtain⟨A,c,rfl,hn,hc,M⟩:=h;unfold maxLen at hc;go_enter func177,ntmps177;go_wp2_with fail;go_loopw[3](λi wr=>∃m:Nat,i=.int .i64 ((m:Int)+1)/\(m=0\/m+1<=l.length)/\AU w wr/\∀j(C:j+1<l.length),j<m->l[j]<l[j+1])λi _=>l.length+1-(intOf i).toNat;case atStart=>exact⟨0,rfl,.inl rfl,bR w,λj _ h=>I⟩
 obtain⟨m,rfl,hm,hb,s⟩:=hrel;have K:=V hb;have z:=V s;clear hb s;by_cases hlt:m+1<l.length
 .obtain⟨b,o,rfl,hlb,c1⟩:=(M.mono K.1).int hlt;obtain⟨b',o',e,Po,c0⟩:=(M.mono K.1).int (show m<l.length by omega);simp only[JU,Addr.mk.injEq,and_true]at e;obtain⟨rfl,rfl⟩:=e;clear M hm;have q1:IntKind.i64.wrap (m:Int)=m:=Gz _ I;have q2:0<=(m:Int):=I;have q3:(m:Int)<l.length:=I;have q4:(m:Int)+1<l.length:=I;have q5:0<=(m:Int)+1:=I;have q6:((m:Int)+1).toNat=m+1:=I;go_upto_region 4 with fail;refine CZ wr (.run 10 0 0<|.done) λCG QR Ae Aj hS=>?_;iterate 10 refine Ah ?_
  refine CX ?_;clear hS Aj Ae;intro U;have Bw:AU w wr.drew:=J K.1 U;clear U;by_cases hlt2:l[m]<l[m+1]
  .go_wp2;go_roundw;case rel=>exact⟨m+1,BH,.inr I,Bw,λj C hjm=>if e:j<m then z.1 j C e else by have:j=m:=I;subst this;exact hlt2⟩
   exact BJ
  have T:=V<|ag4 l m hlt hlt2;go_wp2;go_ret;exact⟨Cm T.1.symm,Bw⟩
 have T:=V<|ael l λj C=>z.1 j C I;go_wp2;go_ret;exact⟨Cm T.1.symm,K.1⟩
theorem aoR{α:Type}{a b:List α}(c:a.length=b.length)(h:∀j(o:j<a.length),a[j]=b[j]):a=b:=Xf c λj h1 _=>h j h1
theorem aoS{α:Type}{a b:List α}(j:Nat)(o:j<a.length)(c:j<b.length)(h:¬a[j]=b[j]):¬a=b:=by rintro rfl;exact h rfl
theorem Ar.ext_iff'{a b:Ar}:a=b↔a.id=b.id/\a.fr=b.fr/\a.dst=b.dst/\a.left=b.left/\a.right=b.right/\a.via=b.via:=by cases a;cases b;simp;intros;constructor<;>(rintro⟨h1,h2,h3⟩;exact⟨Ol,Ol,Ol⟩)
theorem UE{α:Type}(l:List α)(q:α->Bool)(k:Nat)(hk:k<l.length)(h:q l[k]=true):l.any q=true:=PW.2 ⟨l[k],BG hk,h⟩
theorem Vf{α:Type}(l:List α)(q:α->Bool)(h:∀j(o:j<l.length),q l[j]=false):l.any q=false:=by rw[Xg];intro x c;obtain⟨i,hi,rfl⟩:=Dy.1 c;simp[h i hi]
def FX(l:List Int)(n:Int):Bool:=l.any (λx=>x==n)||n==0
theorem aoT(v:Value)(p:Pl)(n:Int)(w:World)(h:Cj w v p):Calls prog 142 #[v,.int .i64 n] w λe w'=>e=.returned (.bool<|FX p.faces n)/\AU w w':=by
 obtain⟨vn,va,_,al,rfl,C,-,-,⟨Af,cf,rfl,hn1,K,T⟩⟩:=h;unfold maxLen at K;generalize p.faces=l at*;clear C;go_enter func142,ntmps142;go_wp2_with fail;go_loopw[5](λi wr=>∃k:Nat,k<=l.length/\i=.int .i64 k/\AU w wr/\AO wr w.heap.size 26 #[vn,va,.slice Af l.length cf]/\∀j(U:j<l.length),j<k->(l[j]==n)=false)λi _=>l.length-(intOf i).toNat;case atStart=>exact⟨0,C9 _,rfl,bA (bR w) _,AO.made rfl _ _,λj _ h=>I⟩
 obtain⟨k,hk,rfl,hb,X2,c⟩:=hrel;have z:=V hb;have s:=V c;clear hb c;obtain⟨BX,Bf,Bh,CS,-⟩:=X2.BF;by_cases hlt:k<l.length
 .obtain⟨b,o,rfl,hlb,c0⟩:=(T.mono z.1).int hlt;clear T;cases he:l[k]==n
  .go_wp2;go_roundw;case rel=>exact⟨k+1,I,BH,z.1,X2,all_succ (p:=λx=>(x==n)=false) s.1 hlt he⟩
   exact BJ
  have M:=V<|UE l (λx=>x==n) k hlt he;go_wp2;go_ret;exact⟨Cm<|by rw[FX,M.1];rfl,z.1⟩
 have M:=V<|Vf l (λx=>x==n)<|λj U=>s.1 j U I;go_wp2;go_ret;exact⟨Cm<|by rw[FX,M.1];simp,z.1⟩
def Jr(p:Pl):Bool:=p.AP.any (λa=>decide<|64<a.via.length)||(decide (256<p.nodes.length)||decide (256<p.AP.length)||decide (64<p.faces.length))
theorem aoU(v:Value)(p:Pl)(w:World)(h:Cj w v p):Calls prog 136 #[v] w λe w'=>e=.returned (.bool<|Jr p)/\AU w w':=by
 obtain⟨_,_,_,al,rfl,c,⟨An,cn,rfl,hn1,K,-⟩,⟨⟨Aa,ca,rfl,ha1,M,hR⟩,hV⟩,⟨Af,cf,rfl,hf1,T,-⟩⟩:=h;unfold maxLen at K M T;have hS:Jr p=(al.any (λa=>decide<|64<a.1.via.length)||(decide (256<p.nodes.length)||decide (256<al.length)||decide (64<p.faces.length))):=by rw[Jr,c,lH,D6];rfl
 rw[hS];clear hS c;generalize p.nodes.length=nn at*;generalize p.faces.length=nf at*;have HV:=V hV;clear hV;go_enter func136,ntmps136;go_wp2_with fail;go_loopw[3](λi wr=>∃k:Nat,k<=al.length/\i=.int .i64 k/\AU w wr/\AO wr w.heap.size 26 #[.slice An nn cn,.slice Aa al.length ca,.slice Af nf cf]/\∀j(hj:j<al.length),j<k->decide (64<al[j].1.via.length)=false)λi _=>al.length-(intOf i).toNat;case atStart=>exact⟨0,C9 _,rfl,bA (bR w) _,AO.made rfl _ _,λj _ h=>I⟩
 obtain⟨k,hk,rfl,hb,X2,s⟩:=hrel;have C:=V hb;have z:=V s;clear hb s;obtain⟨BX,Bf,Bh,CS,-⟩:=X2.BF;by_cases hlt:k<al.length
 .obtain⟨b,o,rfl,hlb,c0,c1,c2,c3,c4,c5⟩:=(hR.mono C.1).ar hlt;clear hR;obtain⟨Av,cv,hv,aCt,U,-⟩:=HV.1 k hlt;rw[hv]at c3;clear hv;unfold maxLen at U;by_cases he:64<al[k].1.via.length;.have hf:=V<|UE al (λa=>decide<|64<a.1.via.length) k hlt<|Ia he;go_wp2;go_ret;exact⟨Cm<|by rw[hf.1];rfl,C.1⟩
  have he':=V<|GX he;go_wp2;go_roundw;case rel=>exact⟨k+1,I,BH,C.1,X2,all_succ (p:=λx=>decide (64<x.1.via.length)=false) z.1 hlt he'.1⟩
  exact BJ
 have hf:=V<|Vf al (λa=>decide<|64<a.1.via.length)<|λj hj=>z.1 j hj I;go_wp2_with fail;all_goals go_ret;refine⟨Cm<|by rw[hf.1,KQ];simp only[Bool.false_or,LW,DI,true_iff,O7,false_iff];omega,C.1⟩
def aas(w:World)(b:Bool)(e:Ending)(w':World):Prop:=∃r:Int,e=.returned (.int .i64 r)/\decide (0<=r)=b/\AU w w'
theorem aoV(v:Value)(l:List Int)(x:Int)(w:World)(h:Ints w v l):Calls prog 94 #[v,.int .i64 x] w<|aas w<|l.any λy=>y==x:=by
 obtain⟨A,c,rfl,hn,hc,T⟩:=h;unfold maxLen at hc;go_enter func94,ntmps94;go_wp2_with fail;go_loopw[8](λi wr=>∃k:Nat,k<=l.length/\i=.int .i64 k/\AU w wr/\∀j(U:j<l.length),j<k->(λy=>y==x) l[j]=false)λi _=>l.length-(intOf i).toNat;case atStart=>exact⟨0,C9 _,rfl,bR w,λj _ h=>I⟩
 obtain⟨k,hk,rfl,hb,s⟩:=hrel;have C:=V hb;have z:=V s;clear hb s;by_cases hlt:k<l.length
 .obtain⟨b,o,rfl,hlb,c0⟩:=(T.mono C.1).int hlt;clear T;cases K:l[k]==x
  .go_wp2;go_roundw;case rel=>exact⟨k+1,I,BH,C.1,all_succ (p:=λy=>(λy=>y==x) y=false) z.1 hlt K⟩
   exact BJ
  have M:=V<|UE l (λy=>y==x) k hlt K;have he2:(x==l[k])=true:=by simpa using(beq_iff_eq.1 K).symm
  go_wp2;go_ret;exact⟨k,rfl,by rw[M.1];simp,C.1⟩
 have M:=V<|Vf l (λy=>y==x)<|λj U=>z.1 j U I;go_wp2;go_ret;exact⟨-1,rfl,by rw[M.1];simp,C.1⟩
theorem aoW(v:Value)(l:List Int)(p:Int->Bool)(w:World)(h:Ints w v l)(T:∀y W,Calls prog 221 #[.int .i64 y] W λe w'=>e=.returned (.bool<|p y)/\AU W w'):Calls prog 257 #[v,.func (.func 221) #[] #[]] w<|aas w<|l.any p:=by
 obtain⟨A,c,rfl,hn,hc,U⟩:=h;unfold maxLen at hc;have HG:=V T;clear T;go_enter func257,ntmps257;go_wp2_with fail;go_loopw[8](λi wr=>∃k:Nat,k<=l.length/\i=.int .i64 k/\AU w wr/\∀j(hj:j<l.length),j<k->p l[j]=false)λi _=>l.length-(intOf i).toNat;case atStart=>exact⟨0,C9 _,rfl,bR w,λj _ h=>I⟩
 obtain⟨k,hk,rfl,hb,s⟩:=hrel;have K:=V hb;have z:=V s;clear hb s;by_cases hlt:k<l.length
 .obtain⟨b,o,rfl,hlb,c0⟩:=(U.mono K.1).int hlt;clear U;go_wp2_with fail;refine(HG.1 l[k] _).mono ?_;rintro e w1⟨rfl,C⟩;have Bw:AU w w1:=J K.1 C;clear C;cases he:p l[k]
  .go_wp2;go_roundw;case rel=>exact⟨k+1,I,BH,Bw,all_succ (p:=λy=>p y=false) z.1 hlt he⟩
   exact BJ
  have M:=V<|UE l p k hlt he;go_wp2;go_ret;exact⟨k,rfl,by rw[M.1];simp,Bw⟩
 have M:=V<|Vf l (p)<|λj hj=>z.1 j hj I;go_wp2;go_ret;exact⟨-1,rfl,by rw[M.1];simp,K.1⟩
theorem aoX(v:Value)(l:List Int)(p:Int->Bool)(w:World)(h:Ints w v l)(j:∀y W,Calls prog 221 #[.int .i64 y] W λe w'=>e=.returned (.bool<|p y)/\AU W w'):Calls prog 220 #[v,.func (.func 221) #[] #[]] w λe w'=>e=.returned (.bool<|l.any p)/\AU w w':=by have T:=aoW v l p w h j;have s:=V T;clear T j h;go_enter func220,ntmps220;go_wp2_with fail;refine s.1.mono ?_;rintro e w1⟨r,rfl,o,c⟩;have Hr:=V o;clear o;go_wp2;go_ret;exact⟨Cm Hr.1,c⟩
theorem aoY(v:Value)(l:List Pt)(p:Pt->Bool)(w:World)(h:EL w v l)(T:∀y W,Calls prog 222 #[.agg #[.int .i64 y.x,.int .i64 y.y]] W λe w'=>e=.returned (.bool<|p y)/\AU W w'):Calls prog 258 #[v,.func (.func 222) #[] #[]] w<|aas w<|l.any p:=by
 obtain⟨A,c,rfl,hn,hc,U⟩:=h;unfold maxLen at hc;have HG:=V T;clear T;go_enter func258,ntmps258;go_wp2_with fail;go_loopw[8](λi wr=>∃k:Nat,k<=l.length/\i=.int .i64 k/\AU w wr/\∀j(hj:j<l.length),j<k->p l[j]=false)λi _=>l.length-(intOf i).toNat;case atStart=>exact⟨0,C9 _,rfl,bR w,λj _ h=>I⟩
 obtain⟨k,hk,rfl,hb,s⟩:=hrel;have K:=V hb;have z:=V s;clear hb s;by_cases hlt:k<l.length
 .obtain⟨b,o,rfl,hlb,c0,c1⟩:=(U.mono K.1).pt hlt;clear U;go_wp2_with fail;refine(HG.1 l[k] _).mono ?_;rintro e w1⟨rfl,C⟩;have Bw:AU w w1:=J K.1 C;clear C;cases he:p l[k]
  .go_wp2;go_roundw;case rel=>exact⟨k+1,I,BH,Bw,all_succ (p:=λy=>p y=false) z.1 hlt he⟩
   exact BJ
  have M:=V<|UE l p k hlt he;go_wp2;go_ret;exact⟨k,rfl,by rw[M.1];simp,Bw⟩
 have M:=V<|Vf l (p)<|λj hj=>z.1 j hj I;go_wp2;go_ret;exact⟨-1,rfl,by rw[M.1];simp,K.1⟩
theorem aoZ(v:Value)(l:List Pt)(p:Pt->Bool)(w:World)(h:EL w v l)(j:∀y W,Calls prog 222 #[.agg #[.int .i64 y.x,.int .i64 y.y]] W λe w'=>e=.returned (.bool<|p y)/\AU W w'):Calls prog 223 #[v,.func (.func 222) #[] #[]] w λe w'=>e=.returned (.bool<|l.any p)/\AU w w':=by have T:=aoY v l p w h j;have s:=V T;clear T j h;go_enter func223,ntmps223;go_wp2_with fail;refine s.1.mono ?_;rintro e w1⟨r,rfl,o,c⟩;have Hr:=V o;clear o;go_wp2;go_ret;exact⟨Cm Hr.1,c⟩
theorem aCu(v:Value)(l:List Int)(x:Int)(w:World)(h:Ints w v l):Calls prog 224 #[v,.int .i64 x] w λe w'=>e=.returned (.bool<|l.any<|λy=>y==x)/\AU w w':=by have T:=aoV v l x w h;have o:=V T;clear T h;go_enter func224,ntmps224;go_wp2_with fail;refine o.1.mono ?_;rintro e w1⟨r,rfl,j,c⟩;have Hr:=V j;clear j;go_wp2;go_ret;exact⟨Cm Hr.1,c⟩
def LJ(n:Int):Bool:=decide (n<1)||decide (1073741824<n)
theorem aoa(n:Int)(w:World):Calls prog 221 #[.int .i64 n] w λe w'=>e=.returned (.bool<|LJ n)/\AU w w':=by
 by_cases h:n<1;.go_enter func221,ntmps221;go_wp2;go_ret;exact⟨Cm<|by simp[LJ,h],bR w⟩
 have c:decide (n<1)=false:=by simpa using h
 go_enter func221,ntmps221;go_wp2;go_ret;exact⟨Cm<|by simp only[LJ,c,Bool.false_or],bR w⟩
theorem aat(v:Value)(l:List Int)(w:World)(h:Ints w v l):Calls prog 178 #[v] w λe w'=>e=.returned (.bool<|!l.any LJ)/\AU w w':=by have T:=aoX v l LJ w h λy W=>aoa y W;have j:=V T;clear T h;go_enter func178,ntmps178;go_wp2_with fail;refine j.1.mono ?_;rintro e w1⟨rfl,c⟩;go_wp2;go_ret;exact⟨Cm rfl,c⟩
def KC(p:Pt):Bool:=decide (-1048576<=p.x)&&decide (p.x<=1048576)&&decide (-1048576<=p.y)&&decide (p.y<=1048576)
theorem aob(p:Pt)(w:World):Calls prog 52 #[BD p] w λe w'=>e=.returned (.bool<|KC p)/\AU w w':=by unfold BD;go_enter func52,ntmps52;go_wp2_with fail;all_goals go_ret;refine⟨Cm<|by rw[KC,KQ];simp only[EC,DI,true_iff,O7,false_iff];omega,?_⟩;exact ER
