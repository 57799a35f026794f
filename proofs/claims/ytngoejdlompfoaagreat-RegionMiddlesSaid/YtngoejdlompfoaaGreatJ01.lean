import Derived.Test.YtngoejdlompfoaaGreatRegQ
set_option linter.unusedSimpArgs false
set_option linter.unusedVariables false
set_option maxRecDepth 100000
set_option maxHeartbeats 4000000
namespace Go.Proofs.YtngoejdlompfoaaGreat
def Pj(a b:Int):Int:=if a.tmod b≠0/\decide (a.tmod b<0)≠decide (b<0)then a.tdiv b-1 else a.tdiv b
def Di(a:Int):Int:=if a<0 then-a else a
def abG(a b:Int):Int:=if Di b-Di (a-Pj a b*b)<=Di (a-Pj a b*b)then Pj a b+1 else Pj a b
def Qp(a b:Int):Bool:=decide (a<0)&&decide (0<b)||decide (0<a)&&decide (b<0)
theorem anC{a b:Int}(hb:b≠0):(0<b->Pj a b*b<=a/\a<Pj a b*b+b)/\(b<0->a<=Pj a b*b/\Pj a b*b+b<a):=by
 have h1:=Int.tdiv_mul_add_tmod a b;have h2:(a.tmod b).natAbs<b.natAbs:=by
  have:((a.tmod b).natAbs:Int)<b.natAbs:=by rw[Int.natAbs_tmod];exact_mod_cast V7 _ I
  exact_mod_cast this
 unfold Pj;generalize a.tmod b=r at*;generalize a.tdiv b=q at*;constructor
 .intro c;split;.rename_i h;have e:¬b<0:=I;simp only[e,decide_false,ne_eq,IL,Decidable.not_not]at h;rw[aCT,aDc];omega
  rename_i h;have e:¬b<0:=I;simp only[e,decide_false,ne_eq,IL,Decidable.not_not,not_and]at h;by_cases h0:r=0;.omega
  have:=h h0;omega
 intro hn;split;.rename_i h;simp only[hn,decide_true,ne_eq,DI]at h;rw[aCT,aDc];omega
 rename_i h;simp only[hn,decide_true,ne_eq,DI,not_and,Decidable.not_not]at h;by_cases h0:r=0;.omega
 have:=h h0;omega
open Go.RowKit
theorem dM(n:Int):IntKind.u64.wrap n=n%18446744073709551616:=by unfold IntKind.wrap;simp[IntKind.signed,IntKind.bits]
def JG(n:Int):Prop:=-1152921504606846976<=n/\n<=1152921504606846976
theorem anD{n:Int}(h:JG n)(hn:n<0):IntKind.u64.wrap n=n+18446744073709551616/\n%18446744073709551616=n+18446744073709551616/\IntKind.u64.wrap (-(n+18446744073709551616))=-n/\-(n+18446744073709551616)%18446744073709551616=-n:=by unfold JG at h;rw[dM,dM];omega
theorem anE{n:Int}(h:JG n)(hn:¬n<0):IntKind.u64.wrap n=n/\n%18446744073709551616=n:=by unfold JG at h;rw[dM];omega
theorem nS{n:Int}(h:JG n):0<=Di n/\Di n<=1152921504606846976:=by unfold JG at h;unfold Di;split<;>omega
theorem anF(n:Int)(w:World)(h:JG n):Calls Tryz.prog 214 #[.int .i64 n] w λe w'=>e=.returned (.int .u64<|Di n)/\w=w':=by
 unfold Di;by_cases hn:n<0;.obtain⟨c,j,o,s⟩:=anD h hn;rw[AZ hn];clear h;go_enter Tryz.func214,Tryz.ntmps214;go_wp2;go_ret;exact⟨by first|rfl|(congr 1;done)|(congr 2;omega),rfl⟩
 obtain⟨c,j⟩:=anE h hn;rw[AX hn];clear h;go_enter Tryz.func214,Tryz.ntmps214;go_wp2;go_ret;exact⟨by first|rfl|(congr 1;done)|(congr 2;omega),rfl⟩
theorem anG(x y:Int)(w:World)(h:JG x)(c:y≠0):Calls Tryz.prog 252 #[.int .i64 x,.int .i64 y] w λe w'=>e=.returned (.int .i64 0)/\w=w':=by
 have j:(y==0)=false:=by simpa using c
 have o:(x==-9223372036854775808)=false:=by rw[beq_eq_false_iff_ne];unfold JG at h;omega
 clear h c;go_enter Tryz.func252,Tryz.ntmps252;go_wp2;go_ret;exact⟨rfl,rfl⟩
theorem af6{a b:Int}(h:JG a)(hb:b≠0):JG (a.tdiv b)/\JG (a.tmod b):=by
 have h1:(a.tdiv b).natAbs<=a.natAbs:=by rw[Int.natAbs_tdiv];exact Nat.div_le_self _ _
 have h2:(a.tmod b).natAbs<=a.natAbs:=by rw[Int.natAbs_tmod];exact Nat.mod_le _ _
 unfold JG at*;omega
theorem af7{a b:Int}(h:JG a)(hb:b≠0)(j:JG b):JG (a-Pj a b*b)/\Di (a-Pj a b*b)<=Di b/\-2305843009213693952<=Pj a b*b/\Pj a b*b<=2305843009213693952/\-1152921504606846977<=Pj a b/\Pj a b<=1152921504606846976:=by
 obtain⟨o,s⟩:=anC (a:=a) hb;have c:-1152921504606846977<=Pj a b/\Pj a b<=1152921504606846976:=by have h1:=(af6 h hb).1;unfold JG at h1;unfold Pj;split<;>omega
 unfold JG at*;unfold Di;generalize Pj a b=q at*;generalize q*b=t at*;rcases aFx hb with h1|h1;.have:=s h1;refine⟨I,?_,I,I,c.1,c.2⟩;rw[AZ h1];split<;>omega
 have:=o h1;refine⟨I,?_,I,I,c.1,c.2⟩;rw[AX I];split<;>omega
theorem aDT{j:Func}{t u v:Tmp}(h:j.results=#[.tmp t,.tmp u,.tmp v])(c:Array Value)(P:Program)(w:World):(results j c).run P w=.ok (.tuple #[c.getD t undef,c.getD u undef,c.getD v undef]) w:=by simp[results,h]
theorem af8(n:Int)(w:World)(h:JG n):Calls Tryz.prog 214 #[.int .i64 n] w λe w'=>e=.returned (.int .u64<|Di n)/\AU w w':=(anF n w h).mono λe w' h=>⟨h.1,by rw[<-h.2];exact bR w⟩
theorem aDU{a b:Int}(c:0<=a/\a<=1152921504606846976)(hb:0<b):0<=a/b/\a/b<=a/\0<=a%b/\a%b<b:=⟨aDd c.1<|aS hb,Int.ediv_le_self _ c.1,Int.emod_nonneg _ I,aFy _ hb⟩
theorem abH(x y:Int)(w:World)(h:JG x)(hy:y≠0)(M:JG y):Calls Tryz.prog 156 #[.int .i64 x,.int .i64 y] w λe w'=>e=.returned (.tuple #[.int .u64<|Di x/Di y,.int .u64<|Di x%Di y,.bool<|Qp x y])/\AU w w':=by
 have s:=V λw=>af8 x w h;have z:=V λw=>af8 y w M;have a1:=nS h;have a2:=nS M;have C:0<Di y:=by unfold Di;split<;>omega
 obtain⟨d1,d2,d3,d4⟩:=aDU a1 C;have e1:(Di x).tdiv (Di y)=Di x/Di y:=aDe a1.1;have e2:(Di x).tmod (Di y)=Di x%Di y:=aCO a1.1;obtain⟨m,hm⟩:=BM<|Qp x y;rw[hm];unfold Qp at hm;have Hm:=V hm;clear hm;generalize Di x=u at*;generalize Di y=v at*;rw[<-e1]at d1 d2;rw[<-e2]at d3 d4;rw[<-e1,<-e2];have k1:IntKind.u64.wrap (u.tdiv v)=u.tdiv v:=by rw[dM];omega
 have k2:IntKind.u64.wrap (u.tmod v)=u.tmod v:=by rw[dM];omega
 have k3:¬v=0:=I;clear e1 e2 a1 a2 d1 d2 d3 d4 C h hy M;by_cases h1:x<0
 .go_enter Tryz.func156,Tryz.ntmps156;go_upto_region 1 with fail;by_cases h2:0<y
  .have HF:=V (show m=true by rw[<-Hm.1,Ia h1,Ia h2];rfl);refine CZ w (.take 0 1<|.take 2 5<|.take 5 37<|.take 7 165<|.take 10 1189<|.take 11 3237<|.call 1 3239<|.call 3 3247<|.take 4 3263<|.call 6 3327<|.call 8 3583<|.take 9 4095<|.run 15 12 4095<|.done) λCG QR Ae Aj hS=>?_;iterate 6 refine Ah ?_
   refine BP ?_;clear hS;intro K hK AQ;go_simp;refine(s.1 _).mono ?_;rintro e T⟨rfl,U⟩;have hS:Since w T:=J (w:=w) AQ.out U;clear AQ;refine hK.out _ _ hS λ_=>?_;clear hK K;try simp only[pu]
   refine BP ?_;clear hS;intro K hK AQ;go_simp;refine(z.1 _).mono ?_;rintro e c⟨rfl,F5⟩;have hS:Since w c:=J (w:=w) AQ.out F5;clear AQ;refine hK.out _ _ hS λ_=>?_;clear hK K;try simp only[pu]
   refine Ah ?_;refine BP ?_;clear hS;intro K hK AQ;go_simp;refine(s.1 _).mono ?_;rintro e j⟨rfl,Ld⟩;have hS:Since w j:=J (w:=w) AQ.out Ld;clear AQ;refine hK.out _ _ hS λ_=>?_;clear hK K;try simp only[pu]
   refine BP ?_;clear hS;intro K hK AQ;go_simp;refine(z.1 _).mono ?_;rintro e o⟨rfl,nT⟩;have hS:Since w o:=J (w:=w) AQ.out nT;clear AQ;refine hK.out _ _ hS λ_=>?_;clear hK K;try simp only[pu]
   iterate 2 refine Ah ?_
   iterate 2 refine DT ?_
   iterate 2 refine Ah ?_
   iterate 6 refine Iu ?_
   iterate 4 refine Ah ?_
   refine CX ?_;clear hS Aj Ae;intro hB;go_wp2_with fail;exact bodyPost_ret (aDT rfl _ _ _) rfl ⟨Yx,hB⟩
  have h3:¬0<x:=I;have HF:=V (show m=false by rw[<-Hm.1,GX h2,GX h3,Bool.and_false];rfl);refine CZ w (.take 0 1<|.take 2 5<|.take 5 37<|.take 7 165<|.take 10 1189<|.take 11 3237<|.call 1 3239<|.call 3 3247<|.take 4 3263<|.call 6 3327<|.call 8 3583<|.take 9 4095<|.run 15 12 4095<|.done) λCG QR Ae Aj hS=>?_;iterate 6 refine Ah ?_
  refine BP ?_;clear hS;intro K hK AQ;go_simp;refine(s.1 _).mono ?_;rintro e T⟨rfl,U⟩;have hS:Since w T:=J (w:=w) AQ.out U;clear AQ;refine hK.out _ _ hS λ_=>?_;clear hK K;try simp only[pu]
  refine BP ?_;clear hS;intro K hK AQ;go_simp;refine(z.1 _).mono ?_;rintro e c⟨rfl,F5⟩;have hS:Since w c:=J (w:=w) AQ.out F5;clear AQ;refine hK.out _ _ hS λ_=>?_;clear hK K;try simp only[pu]
  refine Ah ?_;refine BP ?_;clear hS;intro K hK AQ;go_simp;refine(s.1 _).mono ?_;rintro e j⟨rfl,Ld⟩;have hS:Since w j:=J (w:=w) AQ.out Ld;clear AQ;refine hK.out _ _ hS λ_=>?_;clear hK K;try simp only[pu]
  refine BP ?_;clear hS;intro K hK AQ;go_simp;refine(z.1 _).mono ?_;rintro e o⟨rfl,nT⟩;have hS:Since w o:=J (w:=w) AQ.out nT;clear AQ;refine hK.out _ _ hS λ_=>?_;clear hK K;try simp only[pu]
  iterate 2 refine Ah ?_
  iterate 2 refine DT ?_
  iterate 2 refine Ah ?_
  iterate 3 refine DT ?_
  iterate 2 refine Iu ?_
  refine DT ?_;iterate 4 refine Ah ?_
  refine CX ?_;clear hS Aj Ae;intro hB;go_wp2_with fail;exact bodyPost_ret (aDT rfl _ _ _) rfl ⟨Yx,hB⟩
 go_enter Tryz.func156,Tryz.ntmps156;go_upto_region 1 with fail;by_cases h2:0<x
 .have HF:=V (show m=decide (y<0)by rw[<-Hm.1,GX h1,Ia h2];rfl);refine CZ w (.take 0 1<|.take 2 5<|.take 5 37<|.take 7 165<|.take 10 1189<|.take 11 3237<|.call 1 3239<|.call 3 3247<|.take 4 3263<|.call 6 3327<|.call 8 3583<|.take 9 4095<|.run 15 12 4095<|.done) λCG QR Ae Aj hS=>?_;iterate 6 refine Ah ?_
  refine BP ?_;clear hS;intro K hK AQ;go_simp;refine(s.1 _).mono ?_;rintro e T⟨rfl,U⟩;have hS:Since w T:=J (w:=w) AQ.out U;clear AQ;refine hK.out _ _ hS λ_=>?_;clear hK K;try simp only[pu]
  refine BP ?_;clear hS;intro K hK AQ;go_simp;refine(z.1 _).mono ?_;rintro e c⟨rfl,F5⟩;have hS:Since w c:=J (w:=w) AQ.out F5;clear AQ;refine hK.out _ _ hS λ_=>?_;clear hK K;try simp only[pu]
  refine Ah ?_;refine BP ?_;clear hS;intro K hK AQ;go_simp;refine(s.1 _).mono ?_;rintro e j⟨rfl,Ld⟩;have hS:Since w j:=J (w:=w) AQ.out Ld;clear AQ;refine hK.out _ _ hS λ_=>?_;clear hK K;try simp only[pu]
  refine BP ?_;clear hS;intro K hK AQ;go_simp;refine(z.1 _).mono ?_;rintro e o⟨rfl,nT⟩;have hS:Since w o:=J (w:=w) AQ.out nT;clear AQ;refine hK.out _ _ hS λ_=>?_;clear hK K;try simp only[pu]
  iterate 2 refine Ah ?_
  iterate 2 refine Iu ?_
  iterate 2 refine Ah ?_
  iterate 6 refine DT ?_
  iterate 4 refine Ah ?_
  refine CX ?_;clear hS Aj Ae;intro hB;go_wp2_with fail;exact bodyPost_ret (aDT rfl _ _ _) rfl ⟨Yx,hB⟩
 have HF:=V (show m=false by rw[<-Hm.1,GX h1,GX h2];rfl);refine CZ w (.take 0 1<|.take 2 5<|.take 5 37<|.take 7 165<|.take 10 1189<|.take 11 3237<|.call 1 3239<|.call 3 3247<|.take 4 3263<|.call 6 3327<|.call 8 3583<|.take 9 4095<|.run 15 12 4095<|.done) λCG QR Ae Aj hS=>?_;iterate 6 refine Ah ?_
 refine BP ?_;clear hS;intro K hK AQ;go_simp;refine(s.1 _).mono ?_;rintro e T⟨rfl,U⟩;have hS:Since w T:=J (w:=w) AQ.out U;clear AQ;refine hK.out _ _ hS λ_=>?_;clear hK K;try simp only[pu]
 refine BP ?_;clear hS;intro K hK AQ;go_simp;refine(z.1 _).mono ?_;rintro e c⟨rfl,F5⟩;have hS:Since w c:=J (w:=w) AQ.out F5;clear AQ;refine hK.out _ _ hS λ_=>?_;clear hK K;try simp only[pu]
 refine Ah ?_;refine BP ?_;clear hS;intro K hK AQ;go_simp;refine(s.1 _).mono ?_;rintro e j⟨rfl,Ld⟩;have hS:Since w j:=J (w:=w) AQ.out Ld;clear AQ;refine hK.out _ _ hS λ_=>?_;clear hK K;try simp only[pu]
 refine BP ?_;clear hS;intro K hK AQ;go_simp;refine(z.1 _).mono ?_;rintro e o⟨rfl,nT⟩;have hS:Since w o:=J (w:=w) AQ.out nT;clear AQ;refine hK.out _ _ hS λ_=>?_;clear hK K;try simp only[pu]
 iterate 2 refine Ah ?_
 iterate 2 refine Iu ?_
 iterate 2 refine Ah ?_
 iterate 3 refine DT ?_
 iterate 2 refine Iu ?_
 refine DT ?_;iterate 4 refine Ah ?_
 refine CX ?_;clear hS Aj Ae;intro hB;go_wp2_with fail;exact bodyPost_ret (aDT rfl _ _ _) rfl ⟨Yx,hB⟩
theorem anH{n:Int}(h:0<=n/\n<=2305843009213693952):IntKind.i64.wrap n=n:=Gz _ I
theorem anI{n:Int}(h:0<n/\n<=2305843009213693952):IntKind.i64.wrap (-n+18446744073709551616)=-n:=by unfold IntKind.wrap;simp[IntKind.signed,IntKind.bits];omega
theorem abI(m:Bool)(n:Int)(w:World)(h:0<=n/\n<=2305843009213693952):Calls Tryz.prog 157 #[.bool m,.int .u64 n] w λe w'=>e=.returned (.tuple #[.int .i64<|if m then-n else n,.int .i64 0])/\w=w':=by
 have j:¬9223372036854775808<n:=I;have o:(n==9223372036854775808)=false:=by rw[beq_eq_false_iff_ne];omega
 have c:=anH h;cases m;.clear h;go_enter Tryz.func157,Tryz.ntmps157;go_wp2_with fail;go_ret2;exact⟨rfl,rfl⟩
 by_cases h0:n=0;.subst h0;clear h j o c;go_enter Tryz.func157,Tryz.ntmps157;go_wp2_with fail;go_ret2;exact⟨rfl,rfl⟩
 have s:IntKind.u64.wrap (-n)=-n+18446744073709551616:=by rw[dM];omega
 have z:-n%18446744073709551616=-n+18446744073709551616:=I;have C:=anI (n:=n) I;clear h h0 c;go_enter Tryz.func157,Tryz.ntmps157;go_wp2_with fail;go_ret2;exact⟨rfl,rfl⟩
def bdP(p:Pt):Prop:=(-1048576<=p.x/\p.x<=1048576)/\-1048576<=p.y/\p.y<=1048576
def abJ(a b x:Int):Prop:=a<=x/\x<=b\/b<=x/\x<=a
def nU(a b:Pt)(x:Int):Int:=a.y+abG ((b.y-a.y)*(x-a.x)) (b.x-a.x)
def af9(p:Pt):Pt:=⟨p.y,p.x⟩
structure gY(a b:Pt)(x:Int):Prop where
 pa:bdP a
 pb:bdP b
 ne:¬a.x=b.x
 lo:abJ a.x b.x x
theorem anJ{u v m n:Int}(c:-m<=u/\u<=m)(hv:-n<=v/\v<=n):-(m*n)<=u*v/\u*v<=m*n:=by
 have h:(u*v).natAbs=u.natAbs*v.natAbs:=Int.natAbs_mul u v;have h2:u.natAbs*v.natAbs<=m.toNat*n.toNat:=Nat.mul_le_mul I I;have h3:((m.toNat*n.toNat:Nat):Int)=m*n:=by rw[Int.natCast_mul,Int.toNat_of_nonneg I,Int.toNat_of_nonneg I]
 omega
structure Cr where
 pos:Int
 arc:Int
 out:Int
theorem Cr.ext_iff'{a b:Cr}:a=b↔a.pos=b.pos/\a.arc=b.arc/\a.out=b.out:=by cases a;cases b;simp
instance:DecidableEq Cr:=λa b=>if h:a.pos=b.pos/\a.arc=b.arc/\a.out=b.out then isTrue<|by cases a;cases b;simp_all else isFalse<|by rintro rfl;simp at h
def afA(c:Cr):Cr:=⟨c.pos,c.arc,if c.out=0 then 1 else 0⟩
structure Pc where
 arc:Int
 path:List Pt
 enter:Int
 leave:Int
structure zF where
 abK:Int
 pieces:List Pc
 nodes:List Nd
structure Se where
 at_:Pt
 width:Int
 height:Int
 cols:Int
 rows:Int
def crC(c:Cr):List Value:=[.int .i64 c.pos,.int .i64 c.arc,.int .i64 c.out]
def pcC(x:Pc×Value):List Value:=[.int .i64 x.1.arc,x.2,.int .i64 x.1.enter,.int .i64 x.1.leave]
def Crs(w:World)(v:Value)(l:List Cr):Prop:=Sl w v l.length<|l.flatMap crC
def Paths(w:World)(l:List<|Pc×Value):Prop:=∀k(hk:k<l.length),EL w l[k].2 l[k].1.path
def aCn(w:World)(v:Value)(l:List<|Pc×Value):Prop:=Sl w v l.length (l.flatMap pcC)/\Paths w l
def aCo(w:World)(v:Value)(x:zF):Prop:=∃vp vn pl,v=.agg #[.int .i64 x.abK,vp,vn]/\x.pieces=pl.map (·.1)/\aCn w vp pl/\Xq w vn x.nodes
def prC(x:zF×Value×Value):List Value:=[.int .i64 x.1.abK,x.2.1,x.2.2]
def aac(w:World)(v:Value)(l:List<|zF×Value×Value):Prop:=Sl w v l.length (l.flatMap prC)/\∀k(hk:k<l.length),aCo w (.agg #[.int .i64 l[k].1.abK,l[k].2.1,l[k].2.2]) l[k].1
section
variable{w w':World}{v:Value}
theorem Crs.mono{l:List Cr}(h:Crs w v l)(hb:AU w w'):Crs w' v l:=Sl.mono h hb
theorem Paths.mono{l:List<|Pc×Value}(h:Paths w l)(hb:AU w w'):Paths w' l:=λk hk=>(h k hk).mono hb
theorem aCn.mono{l:List<|Pc×Value}(h:aCn w v l)(hb:AU w w'):aCn w' v l:=⟨Sl.mono h.1 hb,h.2.mono hb⟩
theorem aCo.mono{x:zF}(h:aCo w v x)(hb:AU w w'):aCo w' v x:=by obtain⟨c,j,o,hv,s,h1,h2⟩:=h;exact⟨c,j,o,hv,s,h1.mono hb,h2.mono hb⟩
theorem aac.mono{l:List<|zF×Value×Value}(h:aac w v l)(hb:AU w w'):aac w' v l:=⟨Sl.mono h.1 hb,λk hk=>(h.2 k hk).mono hb⟩
end
section
variable{w:World}{A:Option Addr}
theorem Row.cr{l:List Cr}(h:Row w A<|l.flatMap crC){k:Nat}(hk:k<l.length):∃b o,A=some ⟨b,o,none⟩/\b<w.heap.size/\w.cell? ⟨b,o+k*3,none⟩=some (.int .i64 l[k].pos)/\w.cell? ⟨b,o+k*3+1,none⟩=some (.int .i64 l[k].arc)/\w.cell? ⟨b,o+k*3+2,none⟩=some (.int .i64 l[k].out):=by obtain⟨b,o,j,hb,c⟩:=h.at_ (n:=3) (λ_=>rfl) hk I;exact⟨b,o,j,hb,c 0 _ rfl,c 1 _ rfl,c 2 _ rfl⟩
theorem Row.pc{l:List<|Pc×Value}(h:Row w A<|l.flatMap pcC){k:Nat}(hk:k<l.length):∃b o,A=some ⟨b,o,none⟩/\b<w.heap.size/\w.cell? ⟨b,o+k*4,none⟩=some (.int .i64 l[k].1.arc)/\w.cell? ⟨b,o+k*4+1,none⟩=some l[k].2/\w.cell? ⟨b,o+k*4+2,none⟩=some (.int .i64 l[k].1.enter)/\w.cell? ⟨b,o+k*4+3,none⟩=some (.int .i64 l[k].1.leave):=by obtain⟨b,o,j,hb,c⟩:=h.at_ (n:=4) (λ_=>rfl) hk I;exact⟨b,o,j,hb,c 0 _ rfl,c 1 _ rfl,c 2 _ rfl,c 3 _ rfl⟩
end
def JW(l:List Nd)(id:Int):Option Nd:=l.find? λn=>n.id==id
def nd0:Nd:=⟨0,⟨0,0⟩⟩
def nV(r:Option Nd):Value:=.tuple #[yX<|r.getD nd0,.bool r.isSome]
theorem Cj.nodes{w:World}{c j o:Value}{p:Pl}(h:Cj w (.agg #[c,j,o]) p):Xq w c p.nodes:=by obtain⟨_,_,_,_,e,_,h1,_,_⟩:=h;simp only[Value.agg.injEq,Array.mk.injEq,List.cons.injEq,and_true]at e;obtain⟨rfl,rfl,rfl⟩:=e;exact h1
theorem aad(v:Value)(p:Pl)(id:Int)(w:World)(h:Cj w v p):Calls Tryz.prog 90 #[v,.int .i64 id] w λe w'=>e=.returned (nV<|JW p.nodes id)/\AU w w':=by
 obtain⟨_,va,vf,al,rfl,M,⟨An,cn,rfl,hn1,T,U⟩,-⟩:=h;unfold maxLen at T;generalize p.nodes=l at*;clear M;go_enter Tryz.func90,Tryz.ntmps90;go_wp2_with fail;go_loopw[11](λi wr=>∃k:Nat,k<=l.length/\i=.int .i64 k/\AU w wr/\AO wr (w.heap.size+1) 56 #[.int .i64 0,.int .i64 0,.int .i64 0]/\∀j(hj:j<l.length),j<k->(l[j].id==id)=false)λi _=>l.length-(intOf i).toNat;case atStart=>exact⟨0,C9 _,rfl,bA (bA (bR w) _) _,AO.made Ak _ _,λj _ h=>I⟩
 obtain⟨k,hk,rfl,hb,C,s⟩:=hrel;have K:=V hb;have c:=V s;clear hb s;obtain⟨Bg,Bq,CP,Fe,DX,EU,JI⟩:=C.BF;by_cases hlt:k<l.length
 .obtain⟨b,o,rfl,hlb,c0,c1,c2⟩:=(U.mono K.1).nd hlt;clear U;cases he:l[k].id==id
  .go_wp2;go_roundw;case rel=>exact⟨k+1,I,BH,bA K.1 _,C.alloc _,all_succ (p:=λx=>(x.id==id)=false) c.1 hlt he⟩
   exact BJ
  have z:=yZ l (λn=>n.id==id) k hlt c.1 he;have Hf:=V z;clear z;go_wp2;have Bw:=K.1;refine L6 (g:=w.heap.size+1) (cs:=#[.int .i64 l[k].id,.int .i64 l[k].pt.x,.int .i64 l[k].pt.y]) rfl aDB rfl rfl (AO.lM C|>.alloc _) ⟨by rw[JW,Hf.1];rfl,?_⟩;exact ER
 have z:=aD9 l (λn=>n.id==id) λj hj=>c.1 j hj I;have Hf:=V z;clear z;go_wp2;have Bw:=K.1;refine L6 (g:=w.heap.size+1) (cs:=#[.int .i64 0,.int .i64 0,.int .i64 0]) rfl aDB rfl rfl (AO.lM C) ⟨by rw[JW,Hf.1];rfl,?_⟩;exact ER
theorem afB(v:Value)(p:Pl)(id:Int)(w:World)(h:Cj w v p):Calls Tryz.prog 195 #[v,.int .i64 id] w λe w'=>e=.returned (nV<|JW p.nodes id)/\AU w w':=by
 obtain⟨_,va,vf,al,rfl,M,⟨An,cn,rfl,hn1,T,U⟩,-⟩:=h;unfold maxLen at T;generalize p.nodes=l at*;clear M;go_enter Tryz.func195,Tryz.ntmps195;go_wp2_with fail;go_loopw[6](λi wr=>∃k:Nat,k<=l.length/\i=.int .i64 k/\AU w wr/\AO wr w.heap.size 26 #[.slice An l.length cn,va,vf]/\AO wr (w.heap.size+1) 56 #[.int .i64 0,.int .i64 0,.int .i64 0]/\∀j(hj:j<l.length),j<k->(l[j].id==id)=false)λi _=>l.length-(intOf i).toNat;case atStart=>exact⟨0,C9 _,rfl,bA (bA (bR w) _) _,(AO.made rfl _ _).alloc _,AO.made Ak _ _,λj _ h=>I⟩
 obtain⟨k,hk,rfl,hb,X2,C,s⟩:=hrel;have K:=V hb;have c:=V s;clear hb s;obtain⟨BX,Bf,Bh,CS,-⟩:=X2.BF;obtain⟨Bg,Bq,CP,Fe,DX,EU,JI⟩:=C.BF;by_cases hlt:k<l.length
 .obtain⟨b,o,rfl,hlb,c0,c1,c2⟩:=(U.mono K.1).nd hlt;clear U;cases he:l[k].id==id
  .go_wp2;go_roundw;case rel=>exact⟨k+1,I,BH,K.1,X2,C,all_succ (p:=λx=>(x.id==id)=false) c.1 hlt he⟩
   exact BJ
  have z:=yZ l (λn=>n.id==id) k hlt c.1 he;have Hf:=V z;clear z;go_wp2;have Bw:=K.1;refine L6 (g:=w.heap.size+1) (cs:=#[.int .i64 l[k].id,.int .i64 l[k].pt.x,.int .i64 l[k].pt.y]) rfl aDB rfl rfl (AO.lM C) ⟨by rw[JW,Hf.1];rfl,?_⟩;exact ER
 have z:=aD9 l (λn=>n.id==id) λj hj=>c.1 j hj I;have Hf:=V z;clear z;go_wp2;have Bw:=K.1;refine L6 (g:=w.heap.size+1) (cs:=#[.int .i64 0,.int .i64 0,.int .i64 0]) rfl aDB rfl rfl (AO.lM C) ⟨by rw[JW,Hf.1];rfl,?_⟩;exact ER
def Zj(w:World)(l:List Pt)(e:Ending)(w':World):Prop:=∃A c,e=.returned (.slice A l.length c)/\AU w w'/\Own w' w.heap.size 50 2 Ep (.slice A l.length c) l
theorem afC(v:Value)(l:List Pt)(w:World)(h:EL w v l)(hl:l.length<=1048576):Calls Tryz.prog 108 #[v] w<|Zj w l:=by
 have H:=h;obtain⟨A,c,rfl,hn,hc,s⟩:=h;have K:=Lib.run_eql_slice_nil (P:=Tryz.prog) (t:=29) (e:=50);rcases A with _|ad
 .have z:l=[]:=by
   rcases l with _|⟨a,l⟩;.rfl
   obtain⟨b,o,e,_⟩:=s (by simp[Ep]);cases e
  subst z;clear s H;simp only[Nb]at hn⊢;have C:∀W:World,(binOp .eql 29 (.slice none 0 c)<|.slice none 0 0).run Tryz.prog W=.ok (.bool true) W:=λW=>Lib.run_eql_slice_nil W _ 50 none _ c 0 0 Tryz.underlying29;clear K;go_enter Tryz.func108,Tryz.ntmps108;go_wp2;go_ret;exact⟨_,_,rfl,bR w,Own.nil _ _ _ _ _⟩
 have C:∀W:World,(binOp .eql 29 (.slice (some ad) l.length c)<|.slice none 0 0).run Tryz.prog W=.ok (.bool false) W:=λW=>Lib.run_eql_slice_nil W _ 50 (some ad) _ c 0 0 Tryz.underlying29;clear K s;have M:=V H;clear H;go_enter Tryz.func108,Tryz.ntmps108;go_wp2_with(at_builtin;refine FV _ rfl (.tmp 5) (.tmp 6) _ rfl (base:=w.heap.size) LZ LK La rfl (Own.lit _ _ _ _ Ep [] _ 0 _ rfl rfl (Dh _) (DC I) rfl rfl) rfl (M.1.mono<|bA (bR w) _) aK aK Ak ?_;intro v1 w1 j T U);go_ret;obtain⟨A1,c1,rfl,-⟩:=Own.sl j;simp only[Rj]at j⊢;exact⟨A1,c1,rfl,bG (bA (bR w) _) T λk hk=>by have:w.heap.size=k:=Dn hk;omega,j⟩
def findAr(l:List Ar)(id:Int):Option Ar:=l.find? λa=>a.id==id
def KU:Ar:=⟨0,0,0,[],0,0⟩
def rV(w:World)(r:Option Ar)(e:Ending)(w':World):Prop:=∃v',e=.returned (.tuple #[rH (r.getD KU) v',.bool r.isSome])/\AU w w'/\EL w' v' (r.getD KU).via
def Short(p:Pl):Prop:=∀a∈p.AP,a.via.length<=1048576
theorem Sl.nil(w:World):Sl w (.slice none 0 0) 0 []:=⟨none,0,rfl,Dh _,DC I,Row.nil⟩
theorem aCp(al:List<|Ar×Value)(id:Int)(k:Nat)(hk:k<al.length)(h:∀j(o:j<al.length),j<k->(al[j].1.id==id)=false)(c:(al[k].1.id==id)=true):findAr (al.map (·.1)) id=some al[k].1:=by have:=yZ al (λa=>a.1.id==id) k hk h c;rw[findAr,List.find?_map];show(al.find?<|λa=>a.1.id==id).map _=_;rw[this];rfl
theorem aCq(al:List<|Ar×Value)(id:Int)(h:∀j(c:j<al.length),(al[j].1.id==id)=false):findAr (al.map (·.1)) id=none:=by have:=aD9 al (λa=>a.1.id==id) h;rw[findAr,List.find?_map];show(al.find?<|λa=>a.1.id==id).map _=_;rw[this];rfl
theorem anK(v:Value)(p:Pl)(id:Int)(w:World)(h:Cj w v p)(C:Short p):Calls Tryz.prog 49 #[v,.int .i64 id] w<|rV w<|findAr p.AP id:=by
 obtain⟨vn,_,vf,al,rfl,hpa,-,⟨⟨An,cn,rfl,hn1,hn2,hR⟩,hV⟩,-⟩:=h;unfold maxLen at hn2;unfold Short at C;rw[hpa]at C⊢;clear hpa;have M:∀k(hk:k<al.length),al[k].1.via.length<=1048576:=λk hk=>C _<|H6<|BG hk;have HV:=V hV;clear hV C;have DN:=V M;clear M;go_enter Tryz.func49,Tryz.ntmps49;go_wp2_with fail;go_loopw[11](λi wr=>∃k:Nat,k<=al.length/\i=.int .i64 k/\AU w wr/\AO wr (w.heap.size+1) 31 #[.int .i64 0,.int .i64 0,.int .i64 0,.slice none 0 0,.int .i64 0,.int .i64 0]/\∀j(hj:j<al.length),j<k->(al[j].1.id==id)=false)λi _=>al.length-(intOf i).toNat;case atStart=>exact⟨0,C9 _,rfl,bA (bA (bR w) _) _,AO.made Ak _ _,λj _ h=>I⟩
 obtain⟨k,hk,rfl,hb,T,hno⟩:=hrel;have Hb:=V hb;have U:=V hno;clear hb hno;obtain⟨Bg,Bq,CP,Fe,KW,Le,Lh,DX,EU,JI,Pm,Qq,Qr⟩:=T.J9;by_cases hlt:k<al.length
 .obtain⟨b,o,rfl,hlb,c0,c1,c2,c3,c4,c5⟩:=(hR.mono Hb.1).ar hlt;clear hR;have c:=HV.1 k hlt;obtain⟨Av,cv,hv,-⟩:=c;have c:=HV.1 k hlt;rw[hv]at c3 c;generalize hvl:al[k].1.via.length=vl at*;have UD:=V c;clear c hv hvl;cases he:al[k].1.id==id
  .go_wp2;go_roundw;case rel=>exact⟨k+1,I,BH,bA Hb.1 _,T.alloc _,all_succ (p:=λx=>(x.1.id==id)=false) U.1 hlt he⟩
   exact BJ
  have hf:=aCp al id k hlt U.1 he;have Hf:=V hf;clear hf;go_wp2_with fail;refine(afC _ _ _ (UD.1.mono<|bA Hb.1 _)<|DN.1 k hlt).mono ?_;rintro e w1⟨A1,KX,rfl,K,s⟩;have Bw:AU w w1:=J (bA Hb.1 _) K;have X7:AO w1 wr.heap.size 31 #[.int .i64 al[k].1.id,.int .i64 al[k].1.fr,.int .i64 al[k].1.dst,.slice Av vl cv,.int .i64 al[k].1.left,.int .i64 al[k].1.right]:=(AO.made rfl _ _).keep K;have hw8:w.heap.size+1<wr.heap.size:=I;have hw7:w.heap.size+1≠wr.heap.size:=I;replace T:=(T.alloc _).keep K;have z:=s.EN (b':=wr.heap.size+1) Ak;have hP:=Own.sl s;have F7:=V z;clear K c0 c1 c2 c3 c4 c5 hlb s z hP;try clear Bg Bq CP Fe KW Le Lh
  try clear DX EU JI Pm Qq Qr
  obtain⟨Bg,Bq,CP,Fe,KW,Le,Lh,DX,EU,JI,Pm,Qq,Qr⟩:=T.J9;obtain⟨Ec,Ee,Fg,rW,X7d,X7e,X7f,dN,dO,aae,aaf,aag,aah⟩:=X7.J9;go_wp2_with fail;have rX:=Hb.1.size;have WG:(Value.slice A1 al[k].1.via.length KX).ownBlock≠some wr.heap.size:=λe=>by have:=(F7.1.lt _ e).1;omega
  have LH:(Value.slice A1 al[k].1.via.length KX).ownBlock≠some (w.heap.size+1):=λe=>by have:=(F7.1.lt _ e).1;omega
  have HP:=Own.sl<|((((((F7.1.far (p:=⟨wr.heap.size,3,none⟩) WG<|.slice A1 al[k].1.via.length KX).far (p:=⟨w.heap.size+1,0,none⟩) LH<|.int .i64 al[k].1.id).far (p:=⟨w.heap.size+1,1,none⟩) LH<|.int .i64 al[k].1.fr).far (p:=⟨w.heap.size+1,2,none⟩) LH<|.int .i64 al[k].1.dst).far (p:=⟨w.heap.size+1,3,none⟩) LH<|.slice A1 al[k].1.via.length KX).far (p:=⟨w.heap.size+1,4,none⟩) LH<|.int .i64 al[k].1.left).far (p:=⟨w.heap.size+1,5,none⟩) LH<|.int .i64 al[k].1.right;refine L6 (g:=w.heap.size+1) (cs:=#[.int .i64 al[k].1.id,.int .i64 al[k].1.fr,.int .i64 al[k].1.dst,.slice A1 al[k].1.via.length KX,.int .i64 al[k].1.left,.int .i64 al[k].1.right]) rfl UU rfl rfl (AO.UQ<|T.far (p:=⟨wr.heap.size,3,none⟩) hw7 _) ⟨.slice A1 al[k].1.via.length KX,Yw,?_,by rw[Hf.1];exact HP⟩;exact ER
 have hf:=aCq al id λj hj=>U.1 j hj I;have Hf:=V hf;clear hf;go_wp2;have Bw:=Hb.1;refine L6 (g:=w.heap.size+1) (cs:=#[.int .i64 0,.int .i64 0,.int .i64 0,.slice none 0 0,.int .i64 0,.int .i64 0]) rfl UU rfl rfl (AO.UQ T) ⟨.slice none 0 0,Yw,?_,by rw[Hf.1];exact Sl.nil _⟩;exact ER
structure Ed where
 side:Int
 yL:Bool
 line:Int
 lo:Int
 hi:Int
def yM(g:Ed):Bool:=decide (g.side=1)||decide (g.side=2)
def rY(g:Ed)(p:Pt):Int:=if g.yL then p.y else p.x
def Zk(g:Ed)(p:Pt):Int:=if g.yL then p.x else p.y
def onE(g:Ed)(p:Pt):Bool:=decide<|Zk g p=g.line
def innerS(g:Ed)(p:Pt):Bool:=if yM g then decide<|g.line<Zk g p else decide<|Zk g p<g.line
def yN(g:Ed)(ns:List Nd)(p:Pt):Bool:=!ns.any (λn=>decide<|n.pt=p)&&(decide (g.lo<rY g p)&&decide (rY g p<g.hi))
def anL(l:List Pt):Pt:=l.getD 0 ⟨0,0⟩
def afD(l:List Pt):Pt:=l.getD (l.length-1) ⟨0,0⟩
def yO(g:Ed)(ns:List Nd)(run:List Pt):Bool:=decide (0<run.length)&&(yN g ns (anL run)&&yN g ns (afD run))
theorem anM(x:Int)(w:World):Calls Tryz.prog 126 #[.int .i64 x] w λe w'=>e=.returned (.bool false)/\w=w':=by
 have c:(x !=x)=false:=by simp
 go_enter Tryz.func126,Tryz.ntmps126;go_wp2;go_ret;exact⟨Ak,rfl⟩
def Lj(x y:Int):Int:=if x<y then-1 else if y<x then 1 else 0
theorem anN(x y:Int)(w:World):Calls Tryz.prog 71 #[.int .i64 x,.int .i64 y] w λe w'=>e=.returned (.int .i64<|Lj x y)/\w=w':=by have j:=V λ(z:Int)(W:World)=>anM z W;obtain⟨q,c⟩:=BM<|Lj x y;rw[c];have o:=V c;clear c;go_enter Tryz.func71,Tryz.ntmps71;go_wp2_with fail;refine(j.1 _ _).mono ?_;rintro e w'⟨rfl,rfl⟩;go_wp2_with fail;refine(j.1 _ _).mono ?_;rintro e w'⟨rfl,rfl⟩;go_wp2_with fail;all_goals go_ret;refine⟨DZ ?_,rfl⟩;rw[<-o.1];unfold Lj;first|rw[AZ Ol]|(rw[AX Ol,AZ Ol])|(rw[AX Ol,AX Ol])|(split<;>(try split)<;>omega)
def afE(g:Ed)(p:Pt):Int:=if yM g then Lj (Zk g p) g.line else Lj g.line<|Zk g p
theorem aai{x y:Int}(c:0<y):x/y=if Qp x y=true then if 0<Di x%y then-(Di x/y+1)else-(Di x/y)else Di x/y:=by
 unfold Qp Di;by_cases h:x<0
 .have j:(decide (x<0)&&decide (0<y)||decide (0<x)&&decide (y<0))=true:=by simp[h,c]
  rw[j];simp only[if_true,h];have o:=Int.emod_add_mul_ediv (-x) y;have h1:=Int.emod_nonneg (-x) (show y≠0 by omega);have h2:=aFy (-x) c;by_cases h0:0< -x%y;.rw[AZ h0];refine Int.ediv_emod_unique c (r:=y-(-x)%y) (q:=-(-x/y+1)).2 ⟨?_,I,I⟩|>.1;rw[qm,aCP];omega
  rw[AX h0];refine Int.ediv_emod_unique c (r:=0) (q:=-(-x/y)).2 ⟨?_,I,I⟩|>.1;rw[qm];omega
 have j:(decide (x<0)&&decide (0<y)||decide (0<x)&&decide (y<0))=false:=by simp[h];omega
 rw[j,AX Ak,AX h]
theorem anO(x y:Int)(w:World)(h:JG x)(K:0<y)(j:JG y):Calls Tryz.prog 104 #[.int .i64 x,.int .i64 y] w λe w'=>e=.returned (.tuple #[.int .i64<|x/y,.int .i64 0])/\AU w w':=by
 rw[aai K];have s:=V λw=>abH x y w h I j;have z:=V λ(m:Bool)(n:Int)(w:World)h=>abI m n w h;have M:Di y=y:=by unfold Di;rw[AX I]
 rw[M]at s;have a1:=nS h;obtain⟨U,d2,d3,d4⟩:=aDU a1 K;have k0:(y==0)=false:=by rw[beq_eq_false_iff_ne];omega
 generalize Di x/y=q at*;generalize Di x%y=r at*;generalize Qp x y=m at*;have k3:IntKind.u64.wrap (q+1)=q+1:=by rw[dM];omega
 have k4:(q+1)%18446744073709551616=q+1:=I;have o:=V (show 0<=q/\q<=2305843009213693952 by omega);have C:=V (show 0<=q+1/\q+1<=2305843009213693952 by omega);clear a1 U d2 d3 d4 h j M;cases m;.simp only[O7,if_false];go_enter Tryz.func104,Tryz.ntmps104;go_wp2_with fail;refine(s.1 _).mono ?_;rintro e w1⟨rfl,c⟩;go_wp2_with fail;refine(z.1 _ _ _ o.1).mono ?_;rintro e T⟨rfl,rfl⟩;go_wp2_with fail;go_ret2;exact⟨rfl,c⟩
 simp only[if_true];by_cases hr:0<r;.rw[AZ hr];go_enter Tryz.func104,Tryz.ntmps104;go_wp2_with fail;refine(s.1 _).mono ?_;rintro e w1⟨rfl,c⟩;go_wp2_with fail;refine(z.1 _ _ _ C.1).mono ?_;rintro e T⟨rfl,rfl⟩;go_wp2_with fail;go_ret2;exact⟨rfl,c⟩
 rw[AX hr];go_enter Tryz.func104,Tryz.ntmps104;go_wp2_with fail;refine(s.1 _).mono ?_;rintro e w1⟨rfl,c⟩;go_wp2_with fail;refine(z.1 _ _ _ o.1).mono ?_;rintro e T⟨rfl,rfl⟩;go_wp2_with fail;go_ret2;exact⟨rfl,c⟩
