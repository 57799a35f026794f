import Derived.Test.YtngoejdlompfoaaGreatJ03
set_option linter.unusedSimpArgs false
set_option linter.unusedVariables false
set_option maxRecDepth 100000
set_option maxHeartbeats 1000000
namespace Go.Proofs.YtngoejdlompfoaaGreat
open Go.RowKit Tryz
def Nq(p:Pt):Bool:=decide (p.x< -1048576)||decide (1048576<p.x)||decide (p.y< -1048576)||decide (1048576<p.y)
theorem aoc(p:Pt):Nq p=!KC p:=by rw[KQ];simp only[Nq,KC,LW,DI,Rh,yE,IL];omega
theorem ag5(p:Pt)(w:World):Calls prog 222 #[.agg #[.int .i64 p.x,.int .i64 p.y]] w λe w'=>e=.returned (.bool<|Nq p)/\AU w w':=by go_enter func222,ntmps222;go_wp2_with fail;all_goals go_ret;refine⟨Cm<|by unfold Nq;first|rfl|(rw[KQ];simp only[LW,DI,true_iff,O7,false_iff];done)|(rw[KQ];simp only[LW,DI,true_iff,O7,false_iff];omega),?_⟩;exact ER
def nZ(p:Pl):Bool:=!p.nodes.any (λn=>Nq n.pt)&&!p.AP.any λa=>a.via.any Nq
theorem aod(v:Value)(p:Pl)(w:World)(h:Cj w v p):Calls prog 179 #[v] w λe w'=>e=.returned (.bool<|nZ p)/\AU w w':=by
 obtain⟨_,_,vf,al,rfl,T,⟨An,cn,rfl,hn1,hn2,hR⟩,⟨⟨Aa,ca,rfl,ha1,ha2,G6⟩,hV⟩,-⟩:=h;unfold maxLen at hn2 ha2;have hS:nZ p=(!(p.nodes.any<|λn=>Nq n.pt)&&!al.any λa=>a.1.via.any Nq):=by rw[nZ,T,lH];rfl
 rw[hS];clear hS T;generalize p.nodes=l at*;have HV:=V hV;clear hV;have IU:=V G6;clear G6;go_enter func179,ntmps179;go_wp2_with fail;go_loopw[11](λi wr=>∃k:Nat,k<=l.length/\i=.int .i64 k/\AU w wr/\AO wr w.heap.size 26 #[.slice An l.length cn,.slice Aa al.length ca,vf]/\∀j(U:j<l.length),j<k->Nq l[j].pt=false)λi _=>l.length-(intOf i).toNat;case atStart=>exact⟨0,C9 _,rfl,bA (bR w) _,AO.made rfl _ _,λj _ h=>I⟩
 obtain⟨k,hk,rfl,hb,X1,z⟩:=hrel;have K:=V hb;have c:=V z;clear hb z;obtain⟨Au,Aw,Az,BA,-⟩:=X1.BF;by_cases hlt:k<l.length
 .obtain⟨b,o,rfl,hlb,c0,c1,c2⟩:=(hR.mono K.1).nd hlt;clear hR;go_wp2_with fail;refine(ag5 l[k].pt _).mono ?_;rintro e w1⟨rfl,s⟩;have Bw:AU w w1:=J (bA K.1 _) s;replace X1:=(X1.alloc _).keep s;clear s Au Aw Az BA c0 c1 c2;cases he:Nq l[k].pt
  .go_wp2;go_roundw;case rel=>exact⟨k+1,I,BH,Bw,X1,all_succ (p:=λx=>Nq x.pt=false) c.1 hlt he⟩
   exact BJ
  have hf:=V<|UE l (λn=>Nq n.pt) k hlt he;go_wp2;go_ret;exact⟨Cm<|by rw[hf.1];rfl,Bw⟩
 have hf:=V<|Vf l (λn=>Nq n.pt)<|λj U=>c.1 j U I;clear hR c;go_wp2_with fail;obtain⟨wo,rfl⟩:=BR wr;go_loopw[23](λi wr=>∃k:Nat,k<=al.length/\i=.int .i64 k/\AU w wr/\∀j(U:j<al.length),j<k->al[j].1.via.any Nq=false)λi _=>al.length-(intOf i).toNat;case atStart=>exact⟨0,C9 _,rfl,K.1,λj _ h=>I⟩
 clear X1 Au Aw Az BA K;obtain⟨k,hk,rfl,hb,z⟩:=hrel;have K:=V hb;have c:=V z;clear hb z;by_cases hlt:k<al.length
 .obtain⟨b,o,rfl,hlb,c0,c1,c2,c3,c4,c5⟩:=(IU.1.mono K.1).ar hlt;have C:=HV.1 k hlt;obtain⟨Av,cv,hv,-⟩:=C;have C:=HV.1 k hlt;rw[hv]at c3 C;have UD:=V C;clear C hv;go_wp2_with fail;refine(aoZ _ al[k].1.via Nq _ (UD.1.mono<|bA K.1 _) ag5).mono ?_;rintro e w1⟨rfl,s⟩;have Bw:AU w w1:=J (bA K.1 _) s;clear s c0 c1 c2 c3 c4 c5;cases he:al[k].1.via.any Nq
  .go_wp2;go_roundw;case rel=>exact⟨k+1,I,BH,Bw,all_succ (p:=λx=>x.1.via.any Nq=false) c.1 hlt he⟩
   exact BJ
  have M:=V<|UE al (λa=>a.1.via.any Nq) k hlt he;go_wp2;go_ret;exact⟨Cm<|by rw[M.1,hf.1];rfl,Bw⟩
 have M:=V<|Vf al (λa=>a.1.via.any Nq)<|λj U=>c.1 j U I;go_wp2;go_ret;exact⟨Cm<|by rw[M.1,hf.1];rfl,K.1⟩
def aoe(w:World)(l m:List Int)(e:Ending)(w':World):Prop:=∃v u,e=.returned (.tuple #[v,u])/\AU w w'/\Own w' w.heap.size 3 1 DF v l/\Own w' w.heap.size 3 1 DF u m
theorem Sl.aCv{w:World}{g:Nat}{t:TypeId}{x:Int}(h:AO w g t #[.int .i64 x]):Sl w (.slice (some ⟨g,0,none⟩) 1 1) ([x]:List Int).length<|([x]:List Int).flatMap DF:=Sl.lit (n:=1) h rfl<|DC I
theorem aof(v:Value)(p:Pl)(w:World)(h:Cj w v p)(hl1:p.nodes.length<=4096)(hl2:p.AP.length<=4096):Calls prog 176 #[v] w (aoe w (p.nodes.map (·.id)) (p.AP.map (·.id))):=by
 obtain⟨_,_,vf,al,rfl,hpa,⟨An,cn,rfl,hn1,hn2,hR⟩,⟨⟨Aa,ca,rfl,ha1,ha2,G6⟩,hV⟩,-⟩:=h;unfold maxLen at hn2 ha2;rw[hpa]at hl2⊢;rw[D6]at hl2;rw[KP];clear hpa;generalize p.nodes=l at*;have HV:=V hV;clear hV;have IU:=V G6;clear G6;go_enter func176,ntmps176;go_wp2_with fail;obtain⟨T,K⟩:=BR<|w.alloc<|.cells #[.slice An l.length cn,.slice Aa al.length ca,vf] 26;have X1:AO T w.heap.size 26 #[.slice An l.length cn,.slice Aa al.length ca,vf]:=by rw[K];exact AO.made rfl _ _
 have GI:AU w T:=by rw[K];exact bA (bR w) _
 rw[<-K];clear K;go_loopw[2,11](λs i wr=>∃k:Nat,k<=l.length/\i=.int .i64 k/\Own wr T.heap.size 3 1 DF s ((l.take k).map (·.id))/\AU T wr)λ_ i _=>l.length-(intOf i).toNat;case atStart=>exact⟨0,C9 _,rfl,Own.nil _ _ _ _ _,bR T⟩
 obtain⟨k,hk,rfl,z,hb⟩:=hrel;have Hb:=V hb;have F7:=V z;clear z;have hsz:=hb.size;clear hb;by_cases hlt:k<l.length
 .obtain⟨b,o,rfl,hlb,c0,c1,c2⟩:=(hR.mono<|J GI Hb.1).nd hlt;clear hR;have C:((l.take k).map (·.id)).length<=4096:=by rw[D6,JF];omega
  have Hlen:=V C;clear C;go_wp2_with(at_builtin;refine FV _ rfl (.tmp 15) (.tmp 18) _ rfl (base:=T.heap.size) J3 IV J4 rfl ((F7.1.alloc _).alloc _) rfl (l2:=[l[k].id]) (Sl.aCv<|AO.made Ak _ _) aJ aJ D8 ?_;intro v1 w1 j hg U;have Nl:AU T w1:=bG (bA (bA Hb.1 _) _) hg λg hk=>(F7.1.lt g hk).1;clear hg U;have ZH:=V j;clear j);go_roundw;case rel=>exact⟨k+1,I,BH,aCI,Nl⟩
  exact BJ
 have hE:l.take k=l:=Ip I;have c:=F7.1;rw[hE]at c;replace F7:=V c;have yR:=X1.keep Hb.1;have aCw:=J GI Hb.1;clear hR c hE X1;try clear yS yT yU aA5
 try clear aog aoh aoi
 obtain⟨yS,yT,yU,aA5,-⟩:=yR.BF;go_wp2_with fail;obtain⟨wo,rfl⟩:=BR wr;clear yS yT yU aA5;go_loopw[3,24](λs i wr=>∃k:Nat,k<=al.length/\i=.int .i64 k/\Own wr wo.heap.size 3 1 DF s ((al.take k).map (·.1.id))/\AU wo wr)λ_ i _=>al.length-(intOf i).toNat;case atStart=>exact⟨0,C9 _,rfl,Own.nil _ _ _ _ _,bR wo⟩
 obtain⟨k,hk,rfl,z,hb⟩:=hrel;have M:=V hb;have Xn:=V z;clear z;have hsz:=hb.size;clear hb;by_cases hlt:k<al.length
 .obtain⟨b,o,rfl,hlb,c0,c1,c2,c3,c4,c5⟩:=(IU.1.mono<|J aCw M.1).ar hlt;obtain⟨Av,cv,hv,-⟩:=HV.1 k hlt;rw[hv]at c3;clear hv;have C:((al.take k).map (·.1.id)).length<=4096:=by rw[D6,JF];omega
  have Hlen:=V C;clear C;go_wp2_with(at_builtin;refine FV _ rfl (.tmp 28) (.tmp 31) _ rfl (base:=wo.heap.size) J3 IV J4 rfl ((Xn.1.alloc _).alloc _) rfl (l2:=[al[k].1.id]) (Sl.aCv<|AO.made Ak _ _) aJ aJ D8 ?_;intro v1 w1 j hg U;have Nl:AU wo w1:=bG (bA (bA M.1 _) _) hg λg hk=>(Xn.1.lt g hk).1;clear hg U;have ZH:=V j;clear j);go_roundw;case rel=>exact⟨k+1,I,BH,aCI,Nl⟩
  exact BJ
 have hE:al.take k=al:=Ip I;have c:=Xn.1;rw[hE]at c;replace Xn:=V c;clear c hE;go_wp2_with fail;go_ret2;exact⟨_,_,rfl,J aCw M.1,(F7.1.keep M.1).EN GI.size,Xn.1.EN aCw.size⟩
def Vg(p:Pl):List Pt:=p.nodes.map (·.pt)++p.AP.flatMap (·.via)
theorem aCx{α β:Type}(l:List α)(f:α->List β)(k:Nat):((l.take k).flatMap f).length<=(l.flatMap f).length:=by
 conv=>rhs;rw[<-gK k l,LY,EK]
 omega
theorem aau{α β:Type}(l:List α)(f:α->List β)(k:Nat)(hk:k<l.length):((l.take k).flatMap f).length+(f l[k]).length<=(l.flatMap f).length:=by have:=aCx l f<|k+1;rw[Eu hk,LY,EK]at this;simpa using this
theorem EL.one{w:World}{g:Nat}{t:TypeId}{x:Pt}(h:AO w g t #[.int .i64 x.x,.int .i64 x.y]):Sl w (.slice (some ⟨g,0,none⟩) 1 1) ([x]:List Pt).length<|([x]:List Pt).flatMap Ep:=Sl.lit (n:=1) h rfl<|DC I
def ag6(w:World)(l:List Pt)(e:Ending)(w':World):Prop:=∃v,e=.returned v/\AU w w'/\Own w' w.heap.size 50 2 Ep v l
def ag7(w:World)(l:List Int)(e:Ending)(w':World):Prop:=∃v,e=.returned v/\AU w w'/\Own w' w.heap.size 3 1 DF v l
theorem aoj(v:Value)(p:Pl)(w:World)(h:Cj w v p)(hl1:p.nodes.length<=1048576)(hl2:(p.AP.flatMap (·.via)).length<=1048576):Calls prog 53 #[v] w<|ag6 w<|Vg p:=by
 obtain⟨_,_,vf,al,rfl,hpa,⟨An,cn,rfl,hn1,hn2,hR⟩,⟨⟨Aa,ca,rfl,ha1,ha2,G6⟩,hV⟩,-⟩:=h;unfold maxLen at hn2 ha2;unfold Vg;have hfm:p.AP.flatMap (·.via)=al.flatMap λa=>a.1.via:=by rw[hpa,Qm]
 rw[hfm]at hl2⊢;clear hpa hfm;generalize p.nodes=l at*;have HV:=V hV;clear hV;have IU:=V G6;clear G6;go_enter func53,ntmps53;go_wp2_with fail;obtain⟨K,U⟩:=BR<|w.alloc<|.cells #[.slice An l.length cn,.slice Aa al.length ca,vf] 26;have X1:AO K w.heap.size 26 #[.slice An l.length cn,.slice Aa al.length ca,vf]:=by rw[U];exact AO.made rfl _ _
 have GI:AU w K:=by rw[U];exact bA (bR w) _
 have HX0:=V X1;rw[<-U];clear U;go_loopw[3,4](λs i wr=>∃k:Nat,k<=l.length/\i=.int .i64 k/\Own wr K.heap.size 50 2 Ep s ((l.take k).map (·.pt))/\AU K wr)λ_ i _=>l.length-(intOf i).toNat;case atStart=>exact⟨0,C9 _,rfl,Own.nil _ _ _ _ _,bR K⟩
 obtain⟨k,hk,rfl,z,hb⟩:=hrel;have Hb:=V hb;have F7:=V z;have yR:=X1.keep hb;clear z;have hsz:=hb.size;clear hb X1;try clear yS yT yU aA5
 try clear aog aoh aoi
 obtain⟨yS,yT,yU,aA5,-⟩:=yR.BF;by_cases hlt:k<l.length
 .obtain⟨b,o,rfl,hlb,c0,c1,c2⟩:=(hR.mono<|J GI Hb.1).nd hlt;clear hR;have C:((l.take k).map (·.pt)).length<=1048576:=by rw[D6,JF];omega
  have Hlen:=V C;clear C;go_wp2_with(at_builtin;refine FV _ rfl (.tmp 13) (.tmp 20) _ rfl (base:=K.heap.size) LZ LK La rfl (F7.1.alloc _) rfl (l2:=[l[k].pt]) (EL.one<|AO.made Ak _ _) aJ aJ D8 ?_;intro v1 w1 j hg hat;have Nl:AU K w1:=bG (bA Hb.1 _) hg λg hk=>(F7.1.lt g hk).1;clear hg hat;have ZH:=V j;clear j);go_roundw;case rel=>exact⟨k+1,I,BH,aCI,Nl⟩
  exact BJ
 have hE:l.take k=l:=Ip I;have c:=F7.1;rw[hE]at c;replace F7:=V c;have aCw:=J GI Hb.1;have Bo:=V Hb.1;clear hR c hE;go_wp2_with fail;clear yS yT yU aA5;have X1:=yR;clear yR;obtain⟨wo,rfl⟩:=BR wr;go_loopw[3,5](λs i wr=>∃k:Nat,k<=al.length/\i=.int .i64 k/\Own wr K.heap.size 50 2 Ep s (l.map (·.pt)++(al.take k).flatMap λa=>a.1.via)/\AU K wr)λ_ i _=>al.length-(intOf i).toNat;case atStart=>exact⟨0,C9 _,rfl,by simpa using F7.1,Bo.1⟩
 obtain⟨k,hk,rfl,z,hb⟩:=hrel;have Hb3:=V hb;have Xn:=V z;clear z X1;have hsz:=hb.size;have X1:AO wr w.heap.size 26 #[.slice An l.length cn,.slice Aa al.length ca,vf]:=HX0.1.keep hb;clear hb;obtain⟨Au,Aw,Az,BA,-⟩:=X1.BF;by_cases hlt:k<al.length
 .obtain⟨b,o,rfl,hlb,c0,c1,c2,c3,c4,c5⟩:=(IU.1.mono<|J GI Hb3.1).ar hlt;have M:=HV.1 k hlt;obtain⟨Av,cv,hv,-⟩:=M;have M:=HV.1 k hlt;rw[hv]at c3 M;have UD:=V M;clear M hv;have C:=aau al (λa=>a.1.via) k hlt;have T:(l.map (·.pt)++(al.take k).flatMap λa=>a.1.via).length+al[k].1.via.length<=2097152:=by rw[EK,D6];omega
  have Hlen:=V T;clear C T;go_wp2_with(at_builtin;refine FV _ rfl (.tmp 29) (.tmp 35) _ rfl (base:=K.heap.size) LZ LK La rfl Xn.1 rfl (l2:=al[k].1.via) (UD.1.mono<|J GI Hb3.1) (by have:=Hlen.1;omega) (by have:=Hlen.1;omega) hsz ?_;intro v1 w1 j hg hat;have Nl:AU K w1:=bG Hb3.1 hg λg hk=>(Xn.1.lt g hk).1;clear hg hat;have ZH:=V j;clear j);go_roundw;case rel=>exact⟨k+1,I,BH,by rw[Eu hlt,LY,<-Jv];simpa using ZH.1,Nl⟩
  exact BJ
 have hE:al.take k=al:=Ip I;have c:=Xn.1;rw[hE]at c;replace Xn:=V c;clear c hE;go_wp2;go_ret;exact⟨_,rfl,J GI Hb3.1,Xn.1.EN GI.size⟩
theorem ag8(v:Value)(p:Pl)(w:World)(h:Cj w v p)(hl1:p.nodes.length<=1048576):Calls prog 138 #[v,.bool false] w (ag7 w (p.nodes.map (·.id))):=by
 obtain⟨_,_,vf,al,rfl,hpa,⟨An,cn,rfl,hn1,hn2,hR⟩,⟨⟨Aa,ca,rfl,ha1,ha2,G6⟩,hV⟩,-⟩:=h;unfold maxLen at hn2 ha2;clear hpa;generalize p.nodes=l at*;clear hV;clear G6;have HR:=V hR;clear hR;go_enter func138,ntmps138;go_wp2_with fail;obtain⟨C,K⟩:=BR<|w.alloc<|.cells #[.slice An l.length cn,.slice Aa al.length ca,vf] 26;have U:AO C w.heap.size 26 #[.slice An l.length cn,.slice Aa al.length ca,vf]:=by rw[K];exact AO.made rfl _ _
 have GI:AU w C:=by rw[K];exact bA (bR w) _
 have HX0:=V U;rw[<-K];clear K U;go_loopw[5,6](λs i wr=>∃k:Nat,k<=l.length/\i=.int .i64 k/\Own wr C.heap.size 3 1 DF s ((l.take k).map (·.id))/\AU C wr)λ_ i _=>l.length-(intOf i).toNat;case atStart=>exact⟨0,C9 _,rfl,Own.nil _ _ _ _ _,bR C⟩
 obtain⟨k,hk,rfl,M,hb⟩:=hrel;have Hb:=V hb;have F7:=V M;clear M;have hsz:=hb.size;have U:AO wr w.heap.size 26 #[.slice An l.length cn,.slice Aa al.length ca,vf]:=HX0.1.keep hb;clear hb;obtain⟨Au,Aw,Az,BA,-⟩:=U.BF;by_cases hlt:k<l.length
 .obtain⟨b,o,rfl,hlb,c0,c1,c2⟩:=(HR.1.mono<|J GI Hb.1).nd hlt;have T:((l.take k).map (·.id)).length<=1048576:=by rw[D6,JF];omega
  have Hlen:=V T;clear T;go_wp2_with(at_builtin;refine FV _ rfl (.tmp 19) (.tmp 26) _ rfl (base:=C.heap.size) J3 IV J4 rfl (F7.1.alloc _) rfl (l2:=[l[k].id]) (Sl.aCv<|AO.made Ak _ _) aJ aJ D8 ?_;intro v1 w1 j hg hat;have Nl:AU C w1:=bG (bA Hb.1 _) hg λg hk=>(F7.1.lt g hk).1;clear hg hat;have ZH:=V j;clear j);go_roundw;case rel=>exact⟨k+1,I,BH,aCI,Nl⟩
  exact BJ
 have hE:l.take k=l:=Ip I;have c:=F7.1;rw[hE]at c;have aA6:=V c;clear c hE;go_wp2_with fail;obtain⟨wo,rfl⟩:=BR wr;have Bo:=V Hb.1;clear U Au Aw Az BA hlt;go_loopw[5,7](λs i wr=>i=.int .i64 0/\AU C wr/\Own wr C.heap.size 3 1 DF s (l.map (·.id)))λ_ i _=>0;case atStart=>exact⟨rfl,Bo.1,aA6.1⟩
 obtain⟨rfl,hb,z⟩:=hrel;have Hb4:=V hb;have U:AO wr w.heap.size 26 #[.slice An l.length cn,.slice Aa al.length ca,vf]:=HX0.1.keep hb;clear hb;try clear Au Aw Az BA
 obtain⟨Au,Aw,Az,BA,-⟩:=U.BF;by_cases h0:0<al.length;all_goals have aav:=V z;clear z;go_wp2;go_ret;exact⟨_,rfl,J GI Hb4.1,aav.1.EN GI.size⟩
theorem ag9(v:Value)(p:Pl)(w:World)(h:Cj w v p)(hl1:p.AP.length<=1048576):Calls prog 138 #[v,.bool true] w (ag7 w (p.AP.map (·.id))):=by
 obtain⟨_,_,vf,al,rfl,hpa,⟨An,cn,rfl,hn1,hn2,hR⟩,⟨⟨Aa,ca,rfl,ha1,ha2,G6⟩,hV⟩,-⟩:=h;unfold maxLen at hn2 ha2;rw[hpa]at hl1⊢;rw[D6]at hl1;rw[KP];clear hpa;generalize p.nodes=l at*;clear hV;have IU:=V G6;clear G6;clear hR;go_enter func138,ntmps138;go_wp2_with fail;obtain⟨C,z⟩:=BR<|w.alloc<|.cells #[.slice An l.length cn,.slice Aa al.length ca,vf] 26;have T:AO C w.heap.size 26 #[.slice An l.length cn,.slice Aa al.length ca,vf]:=by rw[z];exact AO.made rfl _ _
 have GI:AU w C:=by rw[z];exact bA (bR w) _
 have HX0:=V T;rw[<-z];clear z T;go_loopw[5,6](λs i wr=>i=.int .i64 0/\AU C wr/\s=.slice none 0 0)λ_ i _=>0;case atStart=>exact⟨rfl,bR C,rfl⟩
 obtain⟨rfl,hb,U⟩:=hrel;have Hb4:=V hb;have T:AO wr w.heap.size 26 #[.slice An l.length cn,.slice Aa al.length ca,vf]:=HX0.1.keep hb;clear hb;obtain⟨Au,Aw,Az,BA,-⟩:=T.BF;by_cases h0:0<l.length;all_goals
  subst U;go_wp2_with fail;obtain⟨wo,rfl⟩:=BR wr;clear T Au Aw Az BA h0;go_loopw[5,7](λs i wr=>∃k:Nat,k<=al.length/\i=.int .i64 k/\Own wr C.heap.size 3 1 DF s ((al.take k).map (·.1.id))/\AU C wr)λ_ i _=>al.length-(intOf i).toNat;case atStart=>exact⟨0,C9 _,rfl,Own.nil _ _ _ _ _,Hb4.1⟩
  case round=>
   obtain⟨k,hk,rfl,K,hb⟩:=hrel;have Hb:=V hb;have F7:=V K;clear K;have hsz:=hb.size;have T:AO wr w.heap.size 26 #[.slice An l.length cn,.slice Aa al.length ca,vf]:=HX0.1.keep hb;clear hb;try clear Au Aw Az BA
   obtain⟨Au,Aw,Az,BA,-⟩:=T.BF;by_cases hlt:k<al.length
   .obtain⟨b,o,rfl,hlb,c0,c1,c2,-,c4,c5⟩:=(IU.1.mono<|J GI Hb.1).ar hlt;have M:((al.take k).map (·.1.id)).length<=1048576:=by rw[D6,JF];omega
    have Hlen:=V M;clear M;go_wp2_with(at_builtin;refine FV _ rfl (.tmp 38) (.tmp 45) _ rfl (base:=C.heap.size) J3 IV J4 rfl (F7.1.alloc _) rfl (l2:=[al[k].1.id]) (Sl.aCv<|AO.made Ak _ _) aJ aJ D8 ?_;intro v1 w1 j hg hat;have Nl:AU C w1:=bG (bA Hb.1 _) hg λg hk=>(F7.1.lt g hk).1;clear hg hat;have ZH:=V j;clear j);go_roundw;case rel=>exact⟨k+1,I,BH,aCI,Nl⟩
    exact BJ
   have hE:al.take k=al:=Ip I;have c:=F7.1;rw[hE]at c;have aA6:=V c;clear c hE;go_wp2;go_ret;exact⟨_,rfl,J GI Hb.1,aA6.1.EN GI.size⟩
