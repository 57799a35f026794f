import Derived.SizedLaws
import Derived.Test.YtngoejdlompfoaaGreatJ18
import Derived.ProofKit
import Derived.Test.YtngoejdlompfoaaGreatChecked
set_option linter.unusedSimpArgs false
set_option linter.unusedVariables false
set_option maxRecDepth 100000
namespace Go.Proofs.YtngoejdlompfoaaGreat
open Go.RowKit Go.ChangeShapes Go.WideShapes Go.Deep Go.Joins Tryz
def Yq{H:Type}(P:Program)(t:TypeId)(d:DataW H):Prop:=∀n∈d.weights P t,n<=reachBytes
section
variable{H:Type}{P:Program}
theorem amP{e:TypeId}:∀{l:List<|DataW H}{d:DataW H},d∈l->∀n∈d.weights P e,n∈DataW.weightsAll P e l
 |d::l,d',h,n,hn=>by
  unfold DataW.weightsAll;rcases Dv.1 h with rfl|h;.exact O8 _ hn
  exact aQ _<|amP h n hn
theorem amU{t e:TypeId}{c spare:List<|DataW H}(j:P.underlying t=some (.slice e))(h:Yq P t<|.slice c spare):(∀d∈c,Yq P e d)/\c.length*P.bytesOf e<=reachBytes:=by unfold Yq DataW.weights at h;rw[j]at h;refine⟨λd hd n hn=>h n<|FW _<|O8 _<|amP hd n hn,?_⟩;have:=h _ ED;exact Du (qx _ I) this
theorem amQ{t u:TypeId}{o:Array Field}{c:List<|DataW H}{d:DataW H}{j:Nat}(s:P.underlying t=some (.struct o))(h:Yq P t<|.agg c)(z:(o.toList.map (·.type))[j]?=some u)(hd:c[j]?=some d):Yq P u d:=by unfold Yq DataW.weights at h;rw[s]at h;exactλn hn=>h n<|DataW.weights_mem_each z hd n hn
end
section
variable{H:Type}{enc:TypeId×Value->H}{w:World}{base:Nat}{spare:Nat->Bool}{held:Bool}
theorem amR{P:Program}{α:Type}[Inhabited α]{t e:TypeId}{n:Nat}(f:α->List Value)(Q:α->Prop)(ht:P.underlying t=some (.slice e))(hc:P.cellsOf e=n)(hn:∀a,(f a).length=n)(hel:∀m cs x,DataW.trod enc P w base spare held m e cs=some x->Yq P e x.1->∃a,cs=f a/\Q a){M:Nat}{cs:List Value}{x:DataW H×List MemPlace}(h:DataW.trod enc P w base spare held M t cs=some x)(hbd:Yq P t x.1):∃l:List α,(∃v,cs=[v]/\Sl w v l.length (l.flatMap f))/\(∀a∈l,Q a)/\l.length*P.bytesOf e<=reachBytes:=by
 rcases open_slice ht h with⟨rfl,_⟩|⟨a,len,cap,m,k,D,Pl,rfl,hb,hl,hm,hmm,hx,hi⟩;.exact⟨[],⟨_,rfl,none,0,rfl,Dh _,by simp[maxLen],Row.nil⟩,(λ_ h=>by cases h),Ak⟩
 have hlm:len<=m:=by rw[hmm];split<;>omega
 have T:=amU ht<|hx▸hbd;obtain⟨c,hF⟩:=choose_lt (α:=α) (p:=λi y=>w.cells? base (a.add<|i*n) n=some (f y)/\Q y) (n:=len) (λi hil=>by obtain⟨cs',h1,h2⟩:=hi i I;obtain⟨y,rfl,hq⟩:=hel _ _ _ h2<|T.1 _<|EP.2 ⟨i,FC.2 hil,rfl⟩;rw[hc]at h1;exact⟨y,h1,hq⟩);have s:((List.range len).map c).length=len:=by simp
 refine⟨(List.range len).map c,⟨_,rfl,some a,cap,by rw[s],by rw[s];exact hl,hm,?_⟩,λy hy=>?_,?_⟩
 .intro hne;have hfl:=flat_length f n hn<|(List.range len).map c;rw[s]at hfl;have z:0<len*n:=by
   rcases Xe<|len*n with h0|h0;.exact absurd (qh I) hne
   exact h0
  have hn0:0<n:=Nat.pos_of_mul_pos_left z;have U:∀j,j<len*n->w.cell? (a.add j)=(((List.range len).map c).flatMap f)[j]?:=λj hj=>by have h1:j/n<len:=aDj (by rw[yA];exact hj);have h2:j%n<n:=V7 _ hn0;have h3:=flat_get f n hn ((List.range len).map c) (j/n) (j%n) (by rw[s];exact h1) h2;rw[yB]at h3;have h4:=(World.cells?_some (hF (j/n) h1).1).2.2 (j%n) h2;rw[Go.Deep.add_add,yB]at h4;rw[h4,h3];simp
  have h00:=U 0 z;obtain⟨b,o,C⟩:=a;have hex:∃v,w.cell? (Addr.add ⟨b,o,C⟩ 0)=some v:=by rw[h00,DK I];exact⟨_,rfl⟩
  obtain⟨v0,hv0⟩:=hex;have K:C=none:=by simpa[Addr.add]using World.cell?_spot hv0
  subst K;refine⟨b,o,rfl,?_,λj v hj=>?_⟩;.have:=World.block_lt_of_cell? w _ hv0;simpa[Addr.add]using this
  have hjl:j<len*n:=by
   rcases aCi j<|len*n with h'|h';.exact h'
   rw[aN I]at hj;cases hj
  rw[<-Go.WideShapes.add_plain,U j hjl];exact hj
 .obtain⟨i,hi',rfl⟩:=EP.1 hy;exact(hF i<|FC.1 hi').2
 rw[s];have h2:=T.2;rw[D6,Oo]at h2;exact h2
theorem amV{P:Program}{t:TypeId}{j o s z C K:Field}{M:Nat}{cs:List Value}{x:DataW H×List MemPlace}(ht:P.underlying t=some (.struct #[j,o,s,z,C,K]))(h:DataW.trod enc P w base spare held M t cs=some x):∃(U y1 y2 y3 y4 y5:DataW H×List MemPlace)(n:Nat),x.1=.agg [U.1,y1.1,y2.1,y3.1,y4.1,y5.1]/\cs.length=P.cellsOf t/\DataW.trod enc P w base spare held n j.type ((cs.drop j.offset).take<|P.cellsOf j.type)=some U/\DataW.trod enc P w base spare held n o.type ((cs.drop o.offset).take<|P.cellsOf o.type)=some y1/\DataW.trod enc P w base spare held n s.type ((cs.drop s.offset).take<|P.cellsOf s.type)=some y2/\DataW.trod enc P w base spare held n z.type ((cs.drop z.offset).take<|P.cellsOf z.type)=some y3/\DataW.trod enc P w base spare held n C.type ((cs.drop C.offset).take<|P.cellsOf C.type)=some y4/\DataW.trod enc P w base spare held n K.type ((cs.drop K.offset).take<|P.cellsOf K.type)=some y5:=by obtain⟨xs,n,_,hx,hl,T,c⟩:=DataW.trod_struct ht h;match xs,T with|[U,y1,y2,y3,y4,y5],_=>exact⟨U,y1,y2,y3,y4,y5,n,by rw[hx];rfl,hl,by simpa using c 0 j rfl,by simpa using c 1 o rfl,by simpa using c 2 s rfl,by simpa using c 3 z rfl,by simpa using c 4 C rfl,by simpa using c 5 K rfl⟩
theorem amW{c:Nat}{cs:List Value}{x:DataW H×List MemPlace}(h:DataW.trod enc prog w base spare held c 29 cs=some x)(hb:Yq prog 29 x.1):∃l:List Pt,(∃v,cs=[v]/\EL w v l)/\(∀p∈l,aB2 p)/\l.length<=8796093022208:=by
 obtain⟨l,h1,h2,h3⟩:=amR Ep aB2 Tryz.underlying29 acN LK (λ_ _ _ h _=>akB h) h hb;rw[show prog.bytesOf 50=16 by kernel_rfl]at h3;have j:reachBytes<140737488355328:=by have:=reachBytes_lt;omega
 exact⟨l,h1,h2,I⟩
def amS(a:Ar):Prop:=ak7 a/\a.via.length<=8796093022208
theorem amX{c:Nat}{cs:List Value}{x:DataW H×List MemPlace}(h:DataW.trod enc prog w base spare held c 31 cs=some x)(hb:Yq prog 31 x.1):∃p:Ar×Value,cs=lK p/\EL w p.2 p.1.via/\amS p.1:=by obtain⟨y0,y1,y2,y3,y4,y5,n,hx,s,h0,h1,h2,h3,z,C⟩:=amV Tryz.underlying31 h;rw[hx]at hb;have o:=amQ (j:=3) Tryz.underlying31 hb rfl rfl;rw[akA]at s;obtain⟨c0,c1,c2,c3,c4,c5,rfl⟩:=atw s;simp only[aFb,aty,yI,aDr,aDs,PZ]at h0 h1 h2 h3 z C;obtain⟨a0,K,k0⟩:=fP h0;obtain⟨a1,M,k1⟩:=fP h1;obtain⟨a2,T,k2⟩:=fP h2;obtain⟨l,⟨v,U,hv⟩,k3,k6⟩:=amW h3 o;obtain⟨a4,e4,k4⟩:=fP z;obtain⟨a5,e5,k5⟩:=fP C;simp only[DF,List.cons.injEq,and_true]at K M T U e4 e5;subst K M T U e4 e5;exact⟨(⟨a0,a1,a2,l,a4,a5⟩,c3),rfl,hv,⟨k0,k1,k2,k4,k5,k3⟩,k6⟩
theorem Cj.amY{r:Reach}{T:Nat}{v:Value}{d:DataW H}{ps:List MemPlace}(hv:Value.okWide prog w r T 26 v)(h:DataW.Trod enc prog w base spare held 26 v d ps)(hb:Yq prog 26 d):∃p,Cj w v p/\att p/\ZU p:=by
 obtain⟨U,v1,v2,y0,y1,y2,n,rfl,rfl,-,h0,h1,h2⟩:=open_agg3 Tryz.underlying26 IK atx hv h;have o:=amQ (j:=1) Tryz.underlying26 hb rfl rfl;obtain⟨nl,⟨u0,C,hn⟩,wn⟩:=ak8 UO acM Tryz.underlying22 ak9 aaN (λ_ _ _ h=>atz h) h0;obtain⟨al,⟨u1,K,c⟩,s,-⟩:=amR lK (λx=>EL w x.2 x.1.via/\amS x.1) Tryz.underlying23 akA anS (λ_ _ _ h hb=>amX h hb) h1 o;obtain⟨fl,⟨u2,M,hf⟩,wf⟩:=ak8 DF Eb Tryz.underlying24 aFb IV (λ_ _ _ h=>fP h) h2;simp only[List.cons.injEq,and_true]at C K M;subst C K M;refine⟨⟨nl,al.map (·.1),fl⟩,⟨U,v1,v2,al,rfl,rfl,hn,⟨c,λk hk=>(s _<|BG hk).1⟩,hf⟩,⟨wn,λa c=>?_,wf⟩,λa c=>?_⟩;.obtain⟨x,z,rfl⟩:=EP.1 c;exact(s x z).2.1
 obtain⟨x,z,rfl⟩:=EP.1 c;exact(s x z).2.2
end
open Go.ChangeShapes Go.WideShapes Go.RowKit
theorem amZ:ownKnob prog.godebug=none:=by kernel_rfl
theorem ama:laidOutB prog=true:=by kernel_rfl
section
variable{H:Type}{enc:TypeId×Value->H}{P:Program}
theorem amb{t:TypeId}(o:laidOutB P=true)(s:P.readableRec t=true)(c:t<P.types.size){W j:World}{v:Value}{d:DataW H}{ps:List MemPlace}{sp:Nat->Bool}(h:DataW.Trod enc P W 0 (λ_=>true) true t v d ps)(hb:AU W j)(hlt:∀x∈ps,x.block<W.heap.size)(z:∀x∈ps,sp x.block=true):DataW.Trod enc P j 0 sp true t v d ps:=WideElems.Trod_stays o s c h (λx C=>hb.same<|hlt x C) z
theorem amc{f:Func}{s:ChangeSpec}{W K:World}{o:Array Value}{v:Value}{M T:List<|DataW H}{c:List MemPlace}(hW:DataW.Whole enc P f.params.toList s.vars false W o.toList M T c)(hv:s.vars=[])(hb:AU W K)(hres:∀(b:Nat)(sp:Nat->Bool)(hd:Bool),DataW.TrodAll enc P K b sp hd f.resultTypes.toList (v.resultList f.resultTypes.size) (s.fn H<|M++T).results [])(z:∀sp:Nat->Bool,(∀p∈c,sp p.block=true)->DataW.TrodAll enc P K 0 sp true f.params.toList o.toList (s.fn H<|M++T).args c)(C:(s.fn H<|M++T).vars=[])(hok:∀(j:Nat)(t:TypeId)(r:Value),f.resultTypes[j]?=some t->(v.resultList f.resultTypes.size)[j]?=some r->Value.okWide P K .any 0 t r):s.post enc P f false true false false W o v K:=by
 have hlow:∀p∈c,p.block<W.heap.size:=λp U=>hW.lt p U;have hno:∀sp:Nat->Bool,DataW.TrodVars enc P K sp s.vars (s.fn H<|M++T).vars []:=λsp=>by rw[hv,C];rfl
 have amd:∀p∈c,(λb=>decide<|b<W.heap.size) p.block=true:=λp U=>Ia<|hlow p U;refine⟨M,T,c,[],c,[],hW,hres _ _ _,z _ amd,hno _,?_,λhc=>by cases hc⟩;exact World.keptBut_mono (λp U=>⟨U,Or.inr<|Or.inl U⟩) (hb.frame (·∈c))
end
