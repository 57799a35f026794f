import Derived.Test.YtialfdomhoojiaaGreatJ05
set_option linter.unusedSimpArgs false
set_option linter.unusedVariables false
set_option maxRecDepth 100000
set_option maxHeartbeats 4000000
namespace Go.Proofs.YtialfdomhoojiaaGreat
open Go.RowKit
theorem XH.grow {w w':World} {x:Ln} {row:Option Nat} {e:TypeId} (h:XH w x) (hg:w.grownBy w' row) (hr:∀ g,row=some g->∃ cs,AO w g e cs) (h1:e≠237) (h2:e≠39):XH w' x:=by
 refine ⟨h.1.grow hg (fun e'=>?_),Own.grown h.2 hg (fun g hg' e'=>?_)⟩
 ·obtain ⟨cs,hb⟩:=hr _ e'.symm;exact AO.MX hb h.1 h1 rfl
 ·obtain ⟨cs,hb⟩:=hr _ e'.symm;obtain ⟨cs',hb'⟩:=h.2.blk hg';exact AO.MX hb hb' h2 rfl
theorem FV.grow {w w':World} {s:DN} {row:Option Nat} {e:TypeId} (h:FV w s) (hg:w.grownBy w' row) (hr:∀ g,row=some g->∃ cs,AO w g e cs) (h1:e≠237) (h2:e≠39):FV w' s:=⟨h.1.grow hg hr h1 h2,h.2⟩
theorem apK:Elem Tryz.prog 224 230 2 16:=Elem.Po (z:=.agg #[.pointer none,.int .i64 0]) FC FC rfl AB
theorem aBH (s:DN):(IW s).length=2:=rfl
theorem ahO (s:DN):∀ u∈IW s,u.oneCell'=true:=by simp [IW,Value.oneCell']
theorem Sl.apL {w:World} {g:Nat} {t:TypeId} {s:DN} (h:AO w g t #[.pointer (some ⟨s.ln.g,0,none⟩),.int .i64 s.k]) :
  Sl w (.slice (some ⟨g,0,none⟩) 1 1) ([s] : List DN).length (([s] : List DN).flatMap IW):=Sl.lit (n:=1) h rfl (D6 AB)
def Yp (l:List Pt):Bool:=(List.range (l.length-1)).all fun k=>!decide (l.getD k AY=l.getD (k+1) AY)
theorem apM (l:List Pt) (k:Nat) (hk:k+1<l.length) (h:l[k]=l[k+1]):Yp l=false:=by
 unfold Yp;rw [Y3];exact ⟨k,F5.2 AB,by simp [List.getD,DK hk,DK (show k<l.length by omega),h]⟩
theorem apN (l:List Pt) (h:∀ k (hk:k+1<l.length),¬ l[k]=l[k+1]):Yp l=true:=by
 unfold Yp;rw [JF];intro k hk;have hk:k+1<l.length:=by have:=F5.1 hk;omega
 have:=h k hk
 simpa [List.getD,DK hk,DK (show k<l.length by omega)] using this
def Ko (p:Pl) (a:Ar):Bool:=match pathOf p a.id with
 | none=>false
 | some l=>!(a.fr == a.dst && decide ((l.length:Int)<4)) && Yp l
structure G5 where
 arc:Ar
 path:List Pt
 k:Nat
def DN.abs (s:DN):G5:=⟨s.ln.arc,s.ln.path,s.k⟩
def FK (p:Pl) (a:Ar):List G5:=(List.range (((pathOf p a.id).getD []).length-1)).map fun k=>⟨a,(pathOf p a.id).getD [],k⟩
theorem apO (p:Pl) (a:Ar) (k:Nat) (hk:k+1<((pathOf p a.id).getD []).length):(FK p a).take (k+1)=(FK p a).take k++[⟨a,(pathOf p a.id).getD [],k⟩]:=by
 have h:k<(FK p a).length:=by simp only [FK,Cm,Qj];omega
 rw [En h];simp [FK]
theorem ahP {p:Pl} {id:Int} {l:List Pt} (h:pathOf p id=some l) (hsh:Short p):2<=l.length/\l.length<=1048578:=by
 unfold pathOf at h
 cases ha:findAr p.AU id with
 | none=>rw [ha] at h;cases h
 | some a =>
  rw [ha] at h;simp only [] at h;split at h
  ·injection h with h;subst h;rw [Eh];have:=hsh a (aAf ha)
   omega
  · cases h
def ahQ (w:World) (p:Pl) (e:Ending) (w':World):Prop :=
 AP w w'/\if p.AU.all (Ko p)=true then
  ∃ (sl:List DN) (v:Value),e=.returned (.tuple #[v,.bool true])/\sl.map DN.abs=p.AU.flatMap (FK p)/\(∀ s∈sl,FV w' s)/\Own w' w.heap.size 230 2 IW v sl
 else e=.returned (.tuple #[.slice none 0 0,.bool false])
theorem apP (v:Value) (p:Pl) (w:World) (h:Cb w v p) (hsh:Short p) (hl:(p.AU.flatMap (FK p)).length<=2097152) :
  Calls Tryz.prog 225 #[v] w (ahQ w p):=by
 have HP:=AA h;have DL:=AA hsh;clear hsh;obtain ⟨vn,_,vf,al,rfl,hpa,-,⟨⟨Aa,ca,rfl,ha1,ha2,FU⟩,hV⟩,-⟩:=h;unfold maxLen at ha2;have HV:=AA hV;clear hV;have Gu:=AA FU;clear FU;have hL:∀ k,((al.take k).flatMap fun a=>FK p a.1).length<=2097152:=fun k=>by
  have h1:=tY al (fun a=>FK p a.1) k;rw [hpa,P9] at hl;exact Dn h1 hl
 have HL:=AA hL;have abu:p.AU.all (Ko p)=al.all (fun a=>Ko p a.1):=by rw [hpa,Xr];rfl
 have hFl:p.AU.flatMap (FK p)=al.flatMap (fun a=>FK p a.1):=by rw [hpa,P9]
 obtain ⟨Q,hQ⟩:=BO (ahQ w p);have hbad:∀ k (hk:k<al.length),Ko p al[k].1=false->∀ w',AP w w'->Q (.returned (.tuple #[.slice none 0 0,.bool false])) w':=fun k hk hb w' hw=>by
  rw [hQ];refine ⟨hw,?_⟩;rw [abu,Yo al (fun a=>Ko p a.1) k hk hb];rfl
 have hgood:(∀ k (hk:k<al.length),Ko p al[k].1=true)->∀ (sl:List DN) (v:Value) w',AP w w'->sl.map DN.abs=al.flatMap (fun a=>FK p a.1)->(∀ s∈sl,FV w' s)->Own w' w.heap.size 230 2 IW v sl->Q (.returned (.tuple #[v,.bool true])) w':=fun h1 sl v w' hw h2 h3 h4=>by
  rw [hQ];refine ⟨hw,?_⟩;rw [abu,nY al (fun a=>Ko p a.1) h1,AZ rfl,hFl];exact ⟨sl,v,rfl,h2,h3,h4⟩
 have abv:=AA hbad;have apQ:=AA hgood;rw [<- hQ];clear hpa hl hL abu hFl hbad hgood hQ;go_enter Tryz.func225,Tryz.ntmps225;go_wp2_with fail;obtain ⟨W0,hW0⟩:=BO (w.alloc (.cells #[vn,.slice Aa al.length ca,vf] 26));have X1:AO W0 w.heap.size 26 #[vn,.slice Aa al.length ca,vf]:=by rw [hW0];exact AO.made rfl _ _
 have F6:AP w W0:=by rw [hW0];exact bA (bR w) _
 have HX0:=AA X1;rw [<- hW0];clear hW0 X1;go_loopw [2,13] (fun s i wr=>∃ (k:Nat) (sl:List DN),k<=al.length/\i=.int .i64 k/\sl.map DN.abs=((al.take k).flatMap fun a=>FK p a.1)/\(∀ s∈sl,FV wr s)/\Own wr W0.heap.size 230 2 IW s sl/\AP W0 wr/\∀ j (hj:j<al.length),j<k->Ko p al[j].1=true) (fun _ i _=>al.length-(intOf i).toNat)
 case atStart => exact ⟨0,[],BZ _,rfl,rfl,(fun _ h=>by cases h),Own.nil _ _ _ _ _,bR W0,fun _ _ h=>by omega⟩
 case round =>
  obtain ⟨k,sl,hk,rfl,hsl,hok,hown,hb,hno⟩:=hrel;have Hb:=AA hb;have Ef:=AA hown;have UE:=AA hsl;have Hok:=AA hok;have Hno:=AA hno;have X1:=HX0.out.keep hb;have hsz:=hb.size;clear hb hown hsl hok hno;obtain ⟨Ak,Au,Az,BA,-,-,-⟩:=X1.BF;by_cases hlt:k<al.length
  case neg =>
   have hE:al.take k=al:=Hw AB;have hs:=UE.out;rw [hE] at hs;have Hs:=AA hs;clear hE hs;go_wp2_with fail;exact apQ.out (fun j hj=>Hno.out j hj AB) sl _ _ (bT F6 Hb.out) Hs.out Hok.out (Ef.out.Du F6.size)
  obtain ⟨b,o,rfl,hlb,c0,c1,c2,c3,c4,c5⟩:=(Gu.out.mono (bT F6 Hb.out)).ar hlt;obtain ⟨Av,cv,hv,-⟩:=HV.out k hlt;rw [hv] at c3;clear hv;go_wp2_with fail;refine (aAm _ p _ _ (HP.out.mono (bT F6 (bA Hb.out _))) DL.out).mono ?_;rintro e w2 ⟨Ap,cp,rfl,hb2,hop⟩;have hA1:AP wr w2:=bT (bA (bR wr) _) hb2;have X5:AO w2 wr.heap.size 50 #[.int .i64 al[k].1.id,.int .i64 al[k].1.fr,.int .i64 al[k].1.dst,.slice Av al[k].1.via.length cv,.int .i64 al[k].1.left,.int .i64 al[k].1.right]:=(AO.made rfl _ _).keep hb2;have hown2:=Ef.out.keep hA1;have hok2:∀ s∈sl,FV w2 s:=fun s hs=>(Hok.out s hs).keep hA1;have B2:=bT Hb.out hA1;have hsz2:=B2.size;replace X1:=X1.keep hA1;have D9:=AA X1;have tZ:=AA hown2;have apR:=AA hok2;have HB2:=AA B2;clear hb2 hA1 hown2 hok2 B2 c0 c1 c2 c3 c4 c5 hlb X1 Ak Au Az BA;obtain ⟨CJ,CO,CS,G6,UF,mG,mJ,-,-,-,-,-,-⟩:=X5.IU
  cases hpo:pathOf p al[k].1.id with
  | none =>
   have hf:=AA (show Ko p al[k].1=false by unfold Ko;rw [hpo]);clear hop;simp only [fK,Rt,if_false,rV,Md];go_wp2_with fail;exact abv.out k hlt hf.out _ (bT F6 HB2.out)
  | some l =>
  rw [hpo] at hop;simp only [VH,if_true,Gp] at hop ⊢;have ug:=AA hpo;have hll:=ahP hpo DL.out;have Hop:=AA hop;clear hpo hop;have ahR:Ko p al[k].1=(!(al[k].1.fr == al[k].1.dst && decide ((l.length:Int)<4)) && Yp l):=by unfold Ko;rw [ug.out]
  have ahS:=AA ahR;clear ahR;by_cases hloop:al[k].1.fr=al[k].1.dst/\(l.length:Int)<4
  ·obtain ⟨he1,he2⟩:=hloop;have hf:=AA (show Ko p al[k].1=false by rw [ahS.out,beq_iff_eq.2 he1,JE he2];rfl);have hz:=beq_iff_eq.2 he1;clear he1;go_wp2_with fail;exact abv.out k hlt hf.out _ (bT F6 HB2.out)
  have hz:(al[k].1.fr == al[k].1.dst && decide ((l.length:Int)<4))=false:=by
   rw [aas];by_cases e:al[k].1.fr=al[k].1.dst
   · right;exact G8 (fun h=>hloop ⟨e,h⟩)
   · left;exact beq_eq_false_iff_ne.2 e
  have ahT:=AA (show Ko p al[k].1=Yp l by rw [ahS.out,hz];rfl);go_upto_region 5 with fail;go_cut [37] (fun u wx=>u=.bool false/\wx=w2)
  case first =>
   cases e1:(al[k].1.fr == al[k].1.dst)
   ·go_wp2;go_meet
    case rel => exact ⟨rfl,rfl⟩
   ·have e2:¬ (l.length:Int)<4:=fun h=>hloop ⟨eq_of_beq e1,h⟩;clear hloop hz;go_wp2;go_meet
    case rel => exact ⟨rfl,rfl⟩
  case rest =>
  obtain ⟨rfl,rfl⟩:=hcut;clear hloop hz;go_wp2_with fail;obtain ⟨ln,hln⟩:=BO (⟨al[k].1,l,wc.heap.size,⟨Av,al[k].1.via.length,cv⟩,Ap,cp⟩:Ln);obtain ⟨W5,GU⟩:=BO (wc.alloc (.cells #[.int .i64 al[k].1.id,.int .i64 al[k].1.fr,.int .i64 al[k].1.dst,.slice Av al[k].1.via.length cv,.int .i64 al[k].1.left,.int .i64 al[k].1.right,.slice Ap l.length cp] 237));have Vk:AP wc W5:=by rw [GU];exact bA (bR wc) _
  have hlo:XH W5 ln:=by
   rw [hln];refine ⟨?_,(Hop.out.keep Vk).Du (BZ _)⟩;rw [GU];exact AO.made rfl _ _
  rw [<- GU];have Hlo:=AA hlo;have aBI:=AA hln;have acD:=AA (tZ.out.keep Vk);have apS:=AA (fun s hs=>(apR.out s hs).keep Vk);have CW:=AA (bT HB2.out Vk);clear Vk GU hlo hln X5 CJ CO CS G6 UF mG mJ;obtain ⟨M,hM⟩:∃ M,l.length=M+1:=⟨l.length-1,AB⟩;have HM:=AA hM;clear hM;obtain ⟨wo,rfl⟩:=BO wr;go_loopw [2,45] (fun s i wx=>∃ (j:Nat) (sx:List DN),j+1<=l.length/\i=.int .i64 j/\sx.map DN.abs=((al.take k).flatMap fun a=>FK p a.1)++(FK p al[k].1).take j/\(∀ s∈sx,FV wx s)/\XH wx ln/\Own wx W0.heap.size 230 2 IW s sx/\AP W0 wx/\∀ m (hm:m+1<l.length),m<j->¬ l[m]=l[m+1]) (fun _ i _=>l.length-(intOf i).toNat)
  case atStart => exact ⟨0,sl,AB,rfl,by rw [UE.out];simp,apS.out,Hlo.out,acD.out,CW.out,fun _ _ h=>by omega⟩
  case round =>
   obtain ⟨j,sx,hj,rfl,hsx,ahU,ahV,uJ,hbx,hnx⟩:=hrel;have Fq:=AA hbx;have XG:=AA uJ;have iZ:=AA hsx;have ahW:=AA ahU;have abw:=AA ahV;have Uw:=AA hnx;have abq:=hbx.size;clear hbx uJ hsx ahU ahV hnx;by_cases hlj:j+1<l.length
   case neg =>
    have hdist:=AA (show Ko p al[k].1=true by rw [ahT.out];exact apN l (fun m hm=>Uw.out m hm AB));have Zy:=AA (show sx.map DN.abs=((al.take (k+1)).flatMap fun a=>FK p a.1) by
     rw [iZ.out,En hlt,KO,Hw (l:=FK p al[k].1) (by simp only [FK,ug.out,Cm,Qj,Gp];omega)];simp)
    go_wp2;go_roundw
    case rel => exact ⟨k+1,sx,AB,BI,Zy.out,ahW.out,XG.out,Fq.out,all_succ (p:=fun x=>Ko p x.1=true) Hno.out hlt hdist.out⟩
    case measure => exact BK
   have hrow:=Own.sl abw.out.2;rw [aBI.out] at hrow;obtain ⟨A1',apB,he1,-,-,hrow⟩:=hrow;injection he1 with he1 _ he3;subst he1;subst he3;obtain ⟨pb,po,abr,hlp,f0,f1⟩:=hrow.pt (k:=j) (by simp only [];omega);subst abr;obtain ⟨pb',po',uK,ahF,f2,f3⟩:=hrow.pt (k:=j+1) (by simp only [];omega);simp only [JD,Addr.mk.injEq,and_true] at uK;obtain ⟨rfl,rfl⟩:=uK;simp only [] at f0 f1 f2 f3;clear hrow ahF;have lq:IntKind.i64.wrap ((j:Int)+1)=(j:Int)+1:=Ci _ AB;have r1:0<=(j:Int):=by omega
   have r2:(j:Int)<l.length:=by omega
   have r3:0<=(j:Int)+1:=by omega
   have r4:(j:Int)+1<l.length:=by omega
   have r5:((j:Int)+1).toNat=j+1:=by omega
   have hE:=U8 l[j] l[j+1];by_cases he:l[j]=l[j+1]
   ·have hd:decide (l[j]=l[j+1])=true:=JE he;have hf:=AA (show Ko p al[k].1=false by rw [ahT.out];exact apM l j hlj he);clear he;go_upto_region 11 with fail;refine Cj (wr) (.run 10 0 0 (.done)) fun Bv QR Ae Ah hS=>?_
    iterate 10 refine Aj ?_
    refine Ce ?_;clear hS Ah Ae;intro hB;go_wp2_with fail;exact abv.out k hlt hf.out _ (bT F6 (bT Fq.out hB))
   have hd:decide (l[j]=l[j+1])=false:=G8 he;have He:=AA he;clear he;go_upto_region 11 with fail;refine Cj (wr) (.run 10 0 0 (.done)) fun Bv QR Ae Ah hS=>?_
   iterate 10 refine Aj ?_
   refine Ce ?_;clear hS Ah Ae;intro hB;clear f0 f1 f2 f3 lq r3 r4 r5 hE;have hlen:=AA (show sx.length+1<=2097152 by
    have h2:=congrArg List.length iZ.out;rw [Cm,EC,Ie] at h2;have h3:=HL.out (k+1);rw [En hlt,KO,EC] at h3;simp only [Ju,aan,IQ] at h3;have h4:(FK p al[k].1).length=l.length-1:=by simp only [FK,ug.out,Cm,Qj,Gp]
    omega)
   have hnew:Hid (FV wr.drew ⟨ln,j⟩):=AA ⟨abw.out.keep hB,by rw [aBI.out];exact ⟨hlj,by simp only [];omega⟩⟩;have hgl:ln.g=wc.heap.size:=by rw [aBI.out]
   have Hgl:=AA hgl;have abx:Hid (Own wr.drew W0.heap.size 230 2 IW u2 sx):=AA XG.out;have apT:Hid (∀ s∈sx,FV wr.drew s):=AA fun s hs=>(ahW.out s hs).keep hB;have apU:Hid (XH wr.drew ln):=AA (abw.out.keep hB);have apV:W0.heap.size<=wr.drew.heap.size:=abq;clear hB hgl;go_wp2_with
    (at_builtin
     refine Ew _ rfl (.tmp 58) (.tmp 62) _ rfl (base:=W0.heap.size) apK aBH ahO rfl (abx.out.alloc _) rfl (l2:=[(⟨ln,j⟩:DN)]) (Sl.apL (by rw [Hgl.out];exact AO.made Aw _ _)) (by have:=hlen.out;simp only [I9,Md];omega) (by have:=hlen.out;simp only [I9,Md];omega) DC ?_;intro v1 w1 hown1 hg hat;have MF:=AA (show AP W0 w1 from bG (bA (bD Fq.out) _) hg (fun g hk=>(abx.out.lt g hk).1));have hrow:∀ g,(u2:Value).ownBlock=some g->∃ cs,AO (wr.drew.alloc (.cells #[.pointer (some ⟨wc.heap.size,0,none⟩),.int .i64 j] 230)) g 230 cs:=fun g hg=>(abx.out.alloc _).blk hg;have aok:=AA (show ∀ s∈sx++[(⟨ln,j⟩:DN)],FV w1 s from fun s hs=>by
      rcases FZ.1 hs with h | h
      · exact ((apT.out s h).keep (bA (bR wr.drew) _)).grow hg hrow BG BG
      ·rw [ED.1 h];exact (hnew.out.keep (bA (bR wr.drew) _)).grow hg hrow BG BG)
     have aol:=AA ((apU.out.keep (bA (bR wr.drew) _)).grow hg hrow BG BG);clear hg hat hrow;have Wu:=AA hown1;clear hown1)
   have Zx:=AA (show (sx++[(⟨ln,j⟩:DN)]).map DN.abs=((al.take k).flatMap fun a=>FK p a.1)++(FK p al[k].1).take (j+1) by
    rw [GL,iZ.out,apO p al[k].1 j (by rw [ug.out];exact hlj),JR];simp only [Ez,QE,DN.abs,ug.out,Gp,aBI.out])
   go_roundw
   case rel => exact ⟨j+1,_,AB,BI,Zx.out,aok.out,aol.out,Wu.out,MF.out,fun m hm hmj=>if e:m<j then Uw.out m hm e else by
     have:m=j:=by omega
     subst this;exact He.out⟩
   case measure => exact BK
theorem aom (x:Int) (w:World):Calls Tryz.prog 111 #[.int .i64 x] w fun e w'=>e=.returned (.bool false)/\w=w':=by
 have hx:(x != x)=false:=by simp
 go_enter Tryz.func111,Tryz.ntmps111;go_wp2;go_ret;exact ⟨Aw,rfl⟩
def KC (x y:Int):Int:=if x<y then -1 else if y<x then 1 else 0
theorem aon (x y:Int) (w:World):Calls Tryz.prog 52 #[.int .i64 x,.int .i64 y] w fun e w'=>e=.returned (.int .i64 (KC x y))/\w=w':=by
 have HN:=AA (fun (z:Int) (W:World)=>aom z W);obtain ⟨q,hq⟩:=BL (KC x y);rw [hq];have Hq:=AA hq;clear hq;go_enter Tryz.func52,Tryz.ntmps52;go_wp2_with fail;refine (HN.out _ _).mono ?_;rintro e w' ⟨rfl,rfl⟩;go_wp2_with fail;refine (HN.out _ _).mono ?_;rintro e w' ⟨rfl,rfl⟩;go_wp2_with fail
 all_goals
  go_ret;refine ⟨DU ?_,rfl⟩;rw [<- Hq.out];unfold KC
  first | rw [AZ KP] | (rw [AX KP,AZ KP]) | (rw [AX KP,AX KP]) | (split<;>(try split)<;>omega)
theorem uh (x y:Int) (w:World):Calls Tryz.prog 52 #[.int .i64 x,.int .i64 y] w fun e w'=>e=.returned (.int .i64 (KC x y))/\NZ w w' :=
 (aon x y w).mono fun e w' h=>⟨h.1,by rw [<- h.2];exact ⟨bR w,dR w⟩⟩
theorem aoo (s t:DN) (w:World) (hs:FV w s) (ht:FV w t) :
  Calls Tryz.prog 227 #[H9 s,H9 t] w fun e w'=>e=.returned (.int .i64 (KC (Ih s) (Ih t)))/\NZ w w':=by
 have TS:∀ W,AP w W->Calls Tryz.prog 228 #[H9 s] W _:=fun W hW=>abt s W (hs.keep hW);have TT:∀ W,AP w W->Calls Tryz.prog 228 #[H9 t] W _:=fun W hW=>abt t W (ht.keep hW);unfold H9 at TS TT ⊢;have HS:=AA TS;have HT:=AA TT;clear TS TT hs ht;generalize Ih s=x at *;generalize Ih t=y at *;generalize s.k=k at *;generalize t.k=m at *;generalize s.ln.g=g at *;generalize t.ln.g=h at *;go_enter Tryz.func227,Tryz.ntmps227;go_upto_region 1 with fail;obtain ⟨W,hW⟩:=BO ((w.alloc (.cells #[.pointer (some ⟨g,0,none⟩),.int .i64 k] 230)).alloc (.cells #[.pointer (some ⟨h,0,none⟩),.int .i64 m] 230));have Bw:AP w W:=by rw [hW];exact bA (bA (bR w) _) _
 have Dw:=AA (show w.drawn<=W.drawn by rw [hW];exact dA (dA (dR w) _) _);have X1:AO W w.heap.size 230 #[.pointer (some ⟨g,0,none⟩),.int .i64 k]:=by rw [hW];exact (AO.made rfl _ _).alloc _
 have X2:AO W (w.heap.size+1) 230 #[.pointer (some ⟨h,0,none⟩),.int .i64 m]:=by rw [hW];exact AO.made Aw _ _
 rw [<- hW];clear hW;obtain ⟨Ak,Au,Az,-,-⟩:=X1.BN;obtain ⟨BQ,BR,BX,-,-⟩:=X2.BN;refine Cj (W) (.take 0 1 (.take 2 5 (.call 1 7 (.call 3 15 (.call 4 31 (.take 5 63 (.done))))))) fun Bv QR Ae Ah hS=>?_
 iterate 2 refine Aj ?_
 refine BP ?_;clear hS;intro K hK AQ;go_simp;refine (HS.out _ (bT Bw AQ.out)).mono ?_;rintro e Bq ⟨rfl,Bf,hd1⟩;have hS:Since W Bq:=bT (w:=W) AQ.out Bf;clear AQ;refine hK.out _ _ hS (fun _=>?_);clear hK K
 try simp only [pu]
 refine BP ?_;clear hS;intro K hK AQ;go_simp;refine (HT.out _ (bT Bw AQ.out)).mono ?_;rintro e wr2 ⟨rfl,FT,hd2⟩;have hS:Since W wr2:=bT (w:=W) AQ.out FT;clear AQ;refine hK.out _ _ hS (fun _=>?_);clear hK K
 try simp only [pu]
 refine BP ?_;clear hS;intro K hK AQ;go_simp;refine (uh x y _).mono ?_;rintro e wr3 ⟨rfl,Oi,hd3⟩;have hS:Since W wr3:=bT (w:=W) AQ.out Oi;clear AQ;refine hK.out _ _ hS (fun _=>?_);clear hK K
 try simp only [pu]
 refine Aj ?_;refine Ce ?_;clear hS Ah Ae;intro hB;have D3:=AA (dT (dT (dT (dD Dw.out) hd1) hd2) hd3);go_wp2;go_ret;exact ⟨rfl,bT Bw hB,D3.out⟩
def mM (a b:DN):Bool:=decide (a.k+1=b.k) || ((a.ln.arc.fr == a.ln.arc.dst) && decide (a.k=0) && decide ((b.k:Int)=(b.ln.path.length:Int)-2))
def XJ (m:Int) (a b:DN):Bool:=if mM a b then m == 1 else m == 0
def Ii (f:Int->Pt) (s t:DN) (id:Int):Bool:=(id == t.ln.arc.fr || id == t.ln.arc.dst) && EO s.fst s.snd (f id) && EO t.fst t.snd (f id)
def Oj (f:Int->Pt) (s t:DN):Bool :=
 if s.ln.arc.id=t.ln.arc.id then (if t.k<s.k then XJ (JJ s.fst s.snd t.fst t.snd) t s else XJ (JJ s.fst s.snd t.fst t.snd) s t)
 else if JJ s.fst s.snd t.fst t.snd=1 then Ii f s t s.ln.arc.fr || Ii f s t s.ln.arc.dst
 else JJ s.fst s.snd t.fst t.snd == 0
theorem FV.line {w:World} {s:DN} (h:FV w s):AO w s.ln.g 237 #[.int .i64 s.ln.arc.id,.int .i64 s.ln.arc.fr,.int .i64 s.ln.arc.dst,.slice s.ln.via.a s.ln.via.n s.ln.via.c,.int .i64 s.ln.arc.left,.int .i64 s.ln.arc.right,.slice s.ln.pa s.ln.path.length s.ln.pc]:=h.1.1
theorem aop (f:Int->Pt) (mb n:Nat) (s t:DN) (w:World) (hs:FV w s) (ht:FV w t) (hm:J4 w mb n f)
  (hw1:ES s.ln.arc.fr) (hw2:ES s.ln.arc.dst) :
  Calls Tryz.prog 230 #[H9 s,H9 t,.map (some mb)] w fun e w'=>e=.returned (.bool (Oj f s t))/\AP w w':=by
 have TS:∀ W,AP w W->Calls Tryz.prog 231 #[H9 s] W _:=fun W hW=>vP s W (hs.keep hW);have TT:∀ W,AP w W->Calls Tryz.prog 231 #[H9 t] W _:=fun W hW=>vP t W (ht.keep hW);have TM:∀ W,Calls Tryz.prog 260 #[BD s.fst,BD s.snd,BD t.fst,BD t.snd] W _:=fun W=>aoH s.fst s.snd t.fst t.snd W;have TO:∀ p q r:Pt,∀ W,Calls Tryz.prog 28 #[BD p,BD q,BD r] W _:=fun p q r W=>uU p q r W;unfold H9 BD at TS TT;unfold BD at TM TO;unfold H9;have HS:=AA TS;have HT:=AA TT;have HM:=AA TM;have HO:=AA TO;have Ks:=AA hs;have Kt:=AA ht;have Km:=AA hm;have hsk:s.k<=2097152:=by have:=hs.2;omega
 have htk:t.k<=2097152:=by have:=ht.2;omega
 clear TS TT TM TO hs ht hm;obtain ⟨q,hq⟩:=BL (Oj f s t);rw [hq];unfold Oj at hq;have Hq:=AA hq;clear hq;go_enter Tryz.func230,Tryz.ntmps230;go_wp2_with fail;refine (HS.out _ (bA (bA (bR w) _) _)).mono ?_;rintro e w1 ⟨rfl,hb1,-⟩;have Bw:AP w w1:=by
  exact Dk
 have X3:AO _ (w.heap.size) 230 #[.pointer (some ⟨s.ln.g,0,none⟩),.int .i64 s.k]:=AO.keep (by repeat (first | exact AO.made Aw _ _ | refine AO.alloc ?_ _)) hb1;have X4:AO _ (w.heap.size+1) 230 #[.pointer (some ⟨t.ln.g,0,none⟩),.int .i64 t.k]:=AO.keep (by repeat (first | exact AO.made Aw _ _ | refine AO.alloc ?_ _)) hb1;clear hb1;obtain ⟨E5,Eo,F9,-,-⟩:=X3.BN;obtain ⟨Bh,Bl,CV,-,-⟩:=X4.BN;go_wp2_with fail;refine (HT.out _ (bA (bA Bw _) _)).mono ?_;rintro e w2 ⟨rfl,hb2,-⟩;have X7:AO w2 w1.heap.size 39 #[.int .i64 s.fst.x,.int .i64 s.fst.y]:=((AO.made rfl _ _).alloc _).keep hb2;have X8:AO w2 (w1.heap.size+1) 39 #[.int .i64 s.snd.x,.int .i64 s.snd.y]:=(AO.made Aw _ _).keep hb2;replace X3:=((X3.alloc _).alloc _).keep hb2;replace X4:=((X4.alloc _).alloc _).keep hb2;replace Bw:=bT (bA (bA Bw _) _) hb2;clear hb2
 try clear E5 Eo F9
 obtain ⟨E5,Eo,F9,-,-⟩:=X3.BN
 try clear Bh Bl CV
 obtain ⟨Bh,Bl,CV,-,-⟩:=X4.BN;obtain ⟨EK,EL,FN,-,-⟩:=X7.BN;obtain ⟨Nc,Nh,O1,-,-⟩:=X8.BN;go_wp2_with fail;refine (HM.out _).mono ?_;rintro e w3 ⟨rfl,hb3⟩;have X9:AO w3 w2.heap.size 39 #[.int .i64 t.fst.x,.int .i64 t.fst.y]:=((AO.made rfl _ _).alloc _).keep hb3;have EP:AO w3 (w2.heap.size+1) 39 #[.int .i64 t.snd.x,.int .i64 t.snd.y]:=(AO.made Aw _ _).keep hb3;replace X3:=((X3.alloc _).alloc _).keep hb3;replace X4:=((X4.alloc _).alloc _).keep hb3;replace X7:=((X7.alloc _).alloc _).keep hb3;replace X8:=((X8.alloc _).alloc _).keep hb3;replace Bw:=bT (bA (bA Bw _) _) hb3;clear hb3;generalize JJ s.fst s.snd t.fst t.snd=m at *;have Y1:=(Ks.out.keep Bw).line;have Y2:=(Kt.out.keep Bw).line
 try clear E5 Eo F9
 obtain ⟨E5,Eo,F9,bg,vU⟩:=X3.BN
 try clear Bh Bl CV
 obtain ⟨Bh,Bl,CV,Dl,Ey⟩:=X4.BN;obtain ⟨mO,mP,mQ,mV,mW,mX,mY,mZ,-,-,-,-,-,-,-⟩:=Y1.bZ;obtain ⟨bn,cO,cZ,cu,dB,dF,dG,dH,-,-,-,-,-,-,-⟩:=Y2.bZ;go_upto_region 4 with fail;refine Cj (w3) (.run 13 0 0 (.done)) fun Bv QR Ae Ah hS=>?_
 iterate 13 refine Aj ?_
 refine Ce ?_;clear hS Ah Ae;intro hB;have Bd:AP w w3.drew:=bD Bw;clear hB;by_cases hid:s.ln.arc.id=t.ln.arc.id
 case neg =>
  have ahX:(s.ln.arc.id == t.ln.arc.id)=false:=beq_eq_false_iff_ne.2 hid;have hq:=Hq.out;rw [AX hid] at hq;replace Hq:=AA hq;rw [ahX];clear hid hq;by_cases hm1:m=1
  case neg =>
   have hm':(m != 1)=true:=by simpa using hm1
   have hf:=AA (show (m == 0)=q by rw [<- Hq.out,AX hm1]);clear hm1;go_wp2;go_ret;exact ⟨C9 hf.out,Bd⟩
  subst hm1;have hq:=Hq.out;rw [AZ rfl] at hq;replace Hq:=AA hq;clear hq;go_upto_region 12 with fail;obtain ⟨w4,hw4⟩:=BO w3.drew;have Yq:AP w3 w4:=by rw [hw4];exact bD (bR w3)
  rw [<- hw4];rw [<- hw4] at Bd;clear hw4;replace X3:=X3.keep Yq;replace X4:=X4.keep Yq;replace X7:=X7.keep Yq;replace X8:=X8.keep Yq;replace X9:=X9.keep Yq;replace EP:=EP.keep Yq;replace Y1:=Y1.keep Yq;replace Y2:=Y2.keep Yq
  try clear E5 Eo F9
  try clear bg vU
  obtain ⟨E5,Eo,F9,-,-⟩:=X3.BN
  try clear mO mP mQ mV mW mX mY mZ
  obtain ⟨mO,mP,mQ,mV,mW,mX,mY,mZ,-,-,-,-,-,-,-⟩:=Y1.bZ;refine Cj (w4) (.run 14 0 0 (.done)) fun Bv QR Ae Ah hS=>?_
  iterate 14 refine Aj ?_
  refine Ce ?_;clear hS Ah Ae;intro hB;have hB4:AP w4 w4.drew:=bD (bR w4);obtain ⟨W,hW⟩:=BO w4.drew;rw [<- hW];rw [<- hW] at hB4;have Sm:=AA (bT Bd hB4);have DJ:=AA (X4.keep hB4);have Iw:=AA (X7.keep hB4);have Yr:=AA (X8.keep hB4);have Kq:=AA (X9.keep hB4);have UG:=AA (EP.keep hB4);have HY2:=AA (Y2.keep hB4);clear hB hB4 hW Yq Bw Bd X3 E5 Eo F9 X4 Bh Bl CV X7 EK EL FN X8 Nc Nh O1 X9 EP Y1 mO mP mQ mV mW mX mY mZ Y2 bn cO cZ cu dB dF dG dH;go_wp2_with fail;go_loopw [100] (fun u wx=>∃ j:Int,(j=0\/j=1\/j=2)/\u=.int .i64 j/\AP W wx/\(1<=j->Ii f s t s.ln.arc.fr=false)/\(2<=j->Ii f s t s.ln.arc.dst=false)) (fun u _=>2-(intOf u).toNat)
  case atStart => exact ⟨0,AB,rfl,bR W,fun h=>by omega,fun h=>by omega⟩
  case round =>
   obtain ⟨j,hj,rfl,hb,hl,hr⟩:=hrel;have Hb:=AA hb;have Hl:=AA hl;have Hr:=AA hr;have X4:=DJ.out.keep hb;have X7:=Iw.out.keep hb;have X8:=Yr.out.keep hb;have X9:=Kq.out.keep hb;have EP:=UG.out.keep hb;have Y2:=HY2.out.keep hb;clear hb hl hr
   try clear Bh Bl CV
   try clear Dl Ey
   obtain ⟨Bh,Bl,CV,-,-⟩:=X4.BN
   try clear EK EL FN
   obtain ⟨EK,EL,FN,-,-⟩:=X7.BN
   try clear Nc Nh O1
   obtain ⟨Nc,Nh,O1,-,-⟩:=X8.BN;obtain ⟨Gv,Gw,JL,-,-⟩:=X9.BN;obtain ⟨J5,J6,J7,-,-⟩:=EP.BN
   try clear bn cO cZ cu dB dF dG dH
   obtain ⟨bn,cO,cZ,cu,dB,dF,dG,dH,-,-,-,-,-,-,-⟩:=Y2.bZ;rcases hj with rfl | rfl | rfl
   ·have hI:∀ w,(Instr.index 116 (.agg #[.int .i64 s.ln.arc.fr,.int .i64 s.ln.arc.dst]) (.int .i64 0)).run Tryz.prog w=.ok (.int .i64 s.ln.arc.fr) w:=fun _=>by kernel_rfl
    have hlk:=(Km.out.keep (bT Sm.out Hb.out)).look s.ln.arc.fr hw1;unfold BD at hlk
    cases h1:(s.ln.arc.fr == t.ln.arc.fr)
    case false =>
     cases h2:(s.ln.arc.fr == t.ln.arc.dst)
     case false =>
      have hy:=AA (show Ii f s t s.ln.arc.fr=false by simp [Ii,h1,h2]);go_wp2;go_roundw
      case rel => exact ⟨1,AB,rfl,bA Hb.out _,fun h=>by first | exact hy.out | exact Hl.out AB,fun h=>by first | omega | exact hy.out⟩
      case measure => simp [intOf]
     case true =>
      have hc:=AA (show (s.ln.arc.fr == t.ln.arc.fr || s.ln.arc.fr == t.ln.arc.dst)=true by rw [h2];simp);go_wp2_with fail;refine (HO.out s.fst s.snd (f s.ln.arc.fr) _).mono ?_;rintro e w5 ⟨rfl,hb5⟩;have B5:AP W w5:=bT (bA Hb.out _) hb5;have UH:AO w5 wr.heap.size 39 #[.int .i64 (f s.ln.arc.fr).x,.int .i64 (f s.ln.arc.fr).y]:=(AO.made rfl _ _).keep hb5;clear hb5 X4 Bh Bl CV Y2 bn cO cZ cu dB dF dG dH X7 EK EL FN X8 Nc Nh O1 X9 Gv Gw JL EP J5 J6 J7 hlk
      cases e3:EO s.fst s.snd (f s.ln.arc.fr)
      case false =>
       have hy:=AA (show Ii f s t s.ln.arc.fr=false by simp [Ii,e3]);clear e3;go_wp2;go_roundw
       case rel => exact ⟨1,AB,rfl,B5,fun h=>by first | exact hy.out | exact Hl.out AB,fun h=>by first | omega | exact hy.out⟩
       case measure => simp [intOf]
      have E3:=AA e3;clear e3;have X9:=Kq.out.keep B5;have EP:=UG.out.keep B5
      try clear Gv Gw JL
      obtain ⟨Gv,Gw,JL,-,-⟩:=X9.BN
      try clear J5 J6 J7
      obtain ⟨J5,J6,J7,-,-⟩:=EP.BN;obtain ⟨Vl,VL,VN,-,-⟩:=UH.BN;go_wp2_with fail;refine (HO.out t.fst t.snd (f s.ln.arc.fr) _).mono ?_;rintro e w6 ⟨rfl,hb6⟩;have B6:AP W w6:=bT B5 hb6;clear hb6 UH Vl VL VN X9 Gv Gw JL EP J5 J6 J7
      cases e4:EO t.fst t.snd (f s.ln.arc.fr)
      case false =>
       have hy:=AA (show Ii f s t s.ln.arc.fr=false by simp [Ii,e4]);clear e4;go_wp2;go_roundw
       case rel => exact ⟨1,AB,rfl,B6,fun h=>by first | exact hy.out | exact Hl.out AB,fun h=>by first | omega | exact hy.out⟩
       case measure => simp [intOf]
      have hy:=AA (show Ii f s t s.ln.arc.fr=true by simp only [Ii,hc.out,E3.out,e4];rfl);have hf:=AA (show true=q by rw [<- Hq.out,hy.out];simp);clear e4;go_wp2;go_ret;exact ⟨C9 hf.out,bT Sm.out B6⟩
    case true =>
     have hc:=AA (show (s.ln.arc.fr == t.ln.arc.fr || s.ln.arc.fr == t.ln.arc.dst)=true by rw [h1];simp);go_wp2_with fail;refine (HO.out s.fst s.snd (f s.ln.arc.fr) _).mono ?_;rintro e w5 ⟨rfl,hb5⟩;have B5:AP W w5:=bT (bA Hb.out _) hb5;have UH:AO w5 wr.heap.size 39 #[.int .i64 (f s.ln.arc.fr).x,.int .i64 (f s.ln.arc.fr).y]:=(AO.made rfl _ _).keep hb5;clear hb5 X4 Bh Bl CV Y2 bn cO cZ cu dB dF dG dH X7 EK EL FN X8 Nc Nh O1 X9 Gv Gw JL EP J5 J6 J7 hlk
     cases e3:EO s.fst s.snd (f s.ln.arc.fr)
     case false =>
      have hy:=AA (show Ii f s t s.ln.arc.fr=false by simp [Ii,e3]);clear e3;go_wp2;go_roundw
      case rel => exact ⟨1,AB,rfl,B5,fun h=>by first | exact hy.out | exact Hl.out AB,fun h=>by first | omega | exact hy.out⟩
      case measure => simp [intOf]
     have E3:=AA e3;clear e3;have X9:=Kq.out.keep B5;have EP:=UG.out.keep B5
     try clear Gv Gw JL
     obtain ⟨Gv,Gw,JL,-,-⟩:=X9.BN
     try clear J5 J6 J7
     obtain ⟨J5,J6,J7,-,-⟩:=EP.BN
     try clear Vl VL VN
     obtain ⟨Vl,VL,VN,-,-⟩:=UH.BN;go_wp2_with fail;refine (HO.out t.fst t.snd (f s.ln.arc.fr) _).mono ?_;rintro e w6 ⟨rfl,hb6⟩;have B6:AP W w6:=bT B5 hb6;clear hb6 UH Vl VL VN X9 Gv Gw JL EP J5 J6 J7
     cases e4:EO t.fst t.snd (f s.ln.arc.fr)
     case false =>
      have hy:=AA (show Ii f s t s.ln.arc.fr=false by simp [Ii,e4]);clear e4;go_wp2;go_roundw
      case rel => exact ⟨1,AB,rfl,B6,fun h=>by first | exact hy.out | exact Hl.out AB,fun h=>by first | omega | exact hy.out⟩
      case measure => simp [intOf]
     have hy:=AA (show Ii f s t s.ln.arc.fr=true by simp only [Ii,hc.out,E3.out,e4];rfl);have hf:=AA (show true=q by rw [<- Hq.out,hy.out];simp);clear e4;go_wp2;go_ret;exact ⟨C9 hf.out,bT Sm.out B6⟩
   ·have hI:∀ w,(Instr.index 116 (.agg #[.int .i64 s.ln.arc.fr,.int .i64 s.ln.arc.dst]) (.int .i64 1)).run Tryz.prog w=.ok (.int .i64 s.ln.arc.dst) w:=fun _=>by kernel_rfl
    have hlk:=(Km.out.keep (bT Sm.out Hb.out)).look s.ln.arc.dst hw2;unfold BD at hlk
    cases h1:(s.ln.arc.dst == t.ln.arc.fr)
    case false =>
     cases h2:(s.ln.arc.dst == t.ln.arc.dst)
     case false =>
      have hy:=AA (show Ii f s t s.ln.arc.dst=false by simp [Ii,h1,h2]);go_wp2;go_roundw
      case rel => exact ⟨2,AB,rfl,bA Hb.out _,fun h=>by first | exact hy.out | exact Hl.out AB,fun h=>by first | omega | exact hy.out⟩
      case measure => simp [intOf]
     case true =>
      have hc:=AA (show (s.ln.arc.dst == t.ln.arc.fr || s.ln.arc.dst == t.ln.arc.dst)=true by rw [h2];simp);go_wp2_with fail;refine (HO.out s.fst s.snd (f s.ln.arc.dst) _).mono ?_;rintro e w5 ⟨rfl,hb5⟩;have B5:AP W w5:=bT (bA Hb.out _) hb5;have UH:AO w5 wr.heap.size 39 #[.int .i64 (f s.ln.arc.dst).x,.int .i64 (f s.ln.arc.dst).y]:=(AO.made rfl _ _).keep hb5;clear hb5 X4 Bh Bl CV Y2 bn cO cZ cu dB dF dG dH X7 EK EL FN X8 Nc Nh O1 X9 Gv Gw JL EP J5 J6 J7 hlk
      cases e3:EO s.fst s.snd (f s.ln.arc.dst)
      case false =>
       have hy:=AA (show Ii f s t s.ln.arc.dst=false by simp [Ii,e3]);clear e3;go_wp2;go_roundw
       case rel => exact ⟨2,AB,rfl,B5,fun h=>by first | exact hy.out | exact Hl.out AB,fun h=>by first | omega | exact hy.out⟩
       case measure => simp [intOf]
      have E3:=AA e3;clear e3;have X9:=Kq.out.keep B5;have EP:=UG.out.keep B5
      try clear Gv Gw JL
      obtain ⟨Gv,Gw,JL,-,-⟩:=X9.BN
      try clear J5 J6 J7
      obtain ⟨J5,J6,J7,-,-⟩:=EP.BN
      try clear Vl VL VN
      obtain ⟨Vl,VL,VN,-,-⟩:=UH.BN;go_wp2_with fail;refine (HO.out t.fst t.snd (f s.ln.arc.dst) _).mono ?_;rintro e w6 ⟨rfl,hb6⟩;have B6:AP W w6:=bT B5 hb6;clear hb6 UH Vl VL VN X9 Gv Gw JL EP J5 J6 J7
      cases e4:EO t.fst t.snd (f s.ln.arc.dst)
      case false =>
       have hy:=AA (show Ii f s t s.ln.arc.dst=false by simp [Ii,e4]);clear e4;go_wp2;go_roundw
       case rel => exact ⟨2,AB,rfl,B6,fun h=>by first | exact hy.out | exact Hl.out AB,fun h=>by first | omega | exact hy.out⟩
       case measure => simp [intOf]
      have hy:=AA (show Ii f s t s.ln.arc.dst=true by simp only [Ii,hc.out,E3.out,e4];rfl);have hf:=AA (show true=q by rw [<- Hq.out,hy.out];simp);clear e4;go_wp2;go_ret;exact ⟨C9 hf.out,bT Sm.out B6⟩
    case true =>
     have hc:=AA (show (s.ln.arc.dst == t.ln.arc.fr || s.ln.arc.dst == t.ln.arc.dst)=true by rw [h1];simp);go_wp2_with fail;refine (HO.out s.fst s.snd (f s.ln.arc.dst) _).mono ?_;rintro e w5 ⟨rfl,hb5⟩;have B5:AP W w5:=bT (bA Hb.out _) hb5;have UH:AO w5 wr.heap.size 39 #[.int .i64 (f s.ln.arc.dst).x,.int .i64 (f s.ln.arc.dst).y]:=(AO.made rfl _ _).keep hb5;clear hb5 X4 Bh Bl CV Y2 bn cO cZ cu dB dF dG dH X7 EK EL FN X8 Nc Nh O1 X9 Gv Gw JL EP J5 J6 J7 hlk
     cases e3:EO s.fst s.snd (f s.ln.arc.dst)
     case false =>
      have hy:=AA (show Ii f s t s.ln.arc.dst=false by simp [Ii,e3]);clear e3;go_wp2;go_roundw
      case rel => exact ⟨2,AB,rfl,B5,fun h=>by first | exact hy.out | exact Hl.out AB,fun h=>by first | omega | exact hy.out⟩
      case measure => simp [intOf]
     have E3:=AA e3;clear e3;have X9:=Kq.out.keep B5;have EP:=UG.out.keep B5
     try clear Gv Gw JL
     obtain ⟨Gv,Gw,JL,-,-⟩:=X9.BN
     try clear J5 J6 J7
     obtain ⟨J5,J6,J7,-,-⟩:=EP.BN
     try clear Vl VL VN
     obtain ⟨Vl,VL,VN,-,-⟩:=UH.BN;go_wp2_with fail;refine (HO.out t.fst t.snd (f s.ln.arc.dst) _).mono ?_;rintro e w6 ⟨rfl,hb6⟩;have B6:AP W w6:=bT B5 hb6;clear hb6 UH Vl VL VN X9 Gv Gw JL EP J5 J6 J7
     cases e4:EO t.fst t.snd (f s.ln.arc.dst)
     case false =>
      have hy:=AA (show Ii f s t s.ln.arc.dst=false by simp [Ii,e4]);clear e4;go_wp2;go_roundw
      case rel => exact ⟨2,AB,rfl,B6,fun h=>by first | exact hy.out | exact Hl.out AB,fun h=>by first | omega | exact hy.out⟩
      case measure => simp [intOf]
     have hy:=AA (show Ii f s t s.ln.arc.dst=true by simp only [Ii,hc.out,E3.out,e4];rfl);have hf:=AA (show true=q by rw [<- Hq.out,hy.out];simp);clear e4;go_wp2;go_ret;exact ⟨C9 hf.out,bT Sm.out B6⟩
   ·have hf:=AA (show false=q by rw [<- Hq.out,Hl.out AB,Hr.out AB];rfl);go_wp2;go_ret;exact ⟨C9 hf.out,bT Sm.out Hb.out⟩
 case pos =>
  have ahX:(s.ln.arc.id == t.ln.arc.id)=true:=beq_iff_eq.2 hid;have hq:=Hq.out;rw [AZ hid] at hq;replace Hq:=AA hq;clear hid hq;clear X7 EK EL FN X8 Nc Nh O1 X9 EP;go_upto_if 47 with fail;go_cut [48] (fun u wx=>∃ a b:DN,FV w a/\FV w b/\AO wx w.heap.size 230 #[.pointer (some ⟨a.ln.g,0,none⟩),.int .i64 a.k]/\AO wx (w.heap.size+1) 230 #[.pointer (some ⟨b.ln.g,0,none⟩),.int .i64 b.k]/\XJ m a b=q/\a.k<=2097152/\b.k<=2097152/\AP w wx)
  case first =>
   by_cases hsw:t.k<s.k
   ·have hf:=AA (show XJ m t s=q by rw [<- Hq.out,AZ hsw]);go_wp2;go_meet
    case rel =>
     refine ⟨t,s,Kt.out,Ks.out,?_,?_,hf.out,htk,hsk,?_⟩
     · exact ((AO.QI (AO.drew X3)).far (p:=⟨w.heap.size+1,0,none⟩) Aw _).far (p:=⟨w.heap.size+1,1,none⟩) Aw _
     · exact AO.QI (((AO.drew X4).far (p:=⟨w.heap.size,0,none⟩) Aw _).far (p:=⟨w.heap.size,1,none⟩) Aw _)
     · exact bS (bS (bS (bS Bd (p:=⟨w.heap.size,0,none⟩) (DT _) _) (p:=⟨w.heap.size,1,none⟩) (DT _) _) (p:=⟨w.heap.size+1,0,none⟩) (aak _) _) (p:=⟨w.heap.size+1,1,none⟩) (aak _) _
   ·have hf:=AA (show XJ m s t=q by rw [<- Hq.out,AX hsw]);go_wp2;go_meet
    case rel => exact ⟨s,t,Ks.out,Kt.out,AO.drew X3,AO.drew X4,hf.out,hsk,htk,Bd⟩
  case rest =>
  obtain ⟨a,b,Ka,Kb,X3',X4',hf,ha,hb,Bc⟩:=hcut;have Hf:=AA hf;replace Ka:=AA Ka;replace Kb:=AA Kb;clear X3 X4 E5 Eo F9 Bh Bl CV Y1 Y2 mO mP mQ mV mW mX mY mZ bn cO cZ cu dB dF dG dH hf Bd Bw;have Y1:=(Ka.out.keep Bc).line
  try clear aoq aor aos
  try clear azH azI
  obtain ⟨aoq,aor,aos,-,-⟩:=X3'.BN
  try clear aot aou aov
  try clear azJ azK
  obtain ⟨aot,aou,aov,-,-⟩:=X4'.BN
  try clear mO mP mQ mV mW mX mY mZ
  obtain ⟨mO,mP,mQ,mV,mW,mX,mY,mZ,-,-,-,-,-,-,-⟩:=Y1.bZ;have lq:IntKind.i64.wrap ((a.k:Int)+1)=(a.k:Int)+1:=Ci _ AB;have TF:∀ W,Calls Tryz.prog 232 #[H9 a] W _:=fun W=>ahM a W;have TL:∀ W,AP w W->Calls Tryz.prog 233 #[H9 b] W _:=fun W hW=>ahN b W (Kb.out.keep hW);unfold H9 at TF TL;have uj:=TF;have um:=TL;have q1:0<=(a.k:Int):=by omega
  cases h1:((a.k:Int)+1 == (b.k:Int))
  case true =>
   have hf:=AA (show (m == 1)=q by
    rw [<- Hf.out,XJ,AZ];have:=eq_of_beq h1
    simp only [mM,L6,E8];left;omega)
   clear TF TL uj um;go_upto_region 7 with fail;refine Cj (wc) (.run 29 0 0 (.done)) fun Bv QR Ae Ah hS=>?_
   iterate 7 refine Aj ?_
   iterate 21 refine JU ?_
   refine Aj ?_;refine Ce ?_;clear hS Ah Ae;intro hB;go_wp2;go_ret;exact ⟨C9 hf.out,bT Bc hB⟩
  case false =>
  have hk:¬ a.k+1=b.k:=by have:=ne_of_beq_false h1;omega
  cases h2:(a.ln.arc.fr == a.ln.arc.dst)
  case false =>
   have hf:=AA (show (m == 0)=q by
    rw [<- Hf.out,XJ,AX];simp only [mM,h2,G8 hk];simp)
   clear TF TL uj um;go_upto_region 7 with fail;refine Cj (wc) (.run 29 0 0 (.done)) fun Bv QR Ae Ah hS=>?_
   iterate 7 refine Aj ?_
   iterate 14 refine Dh ?_
   iterate 2 refine JU ?_
   iterate 2 refine Dh ?_
   iterate 2 refine JU ?_
   refine Dh ?_;refine Aj ?_;refine Ce ?_;clear hS Ah Ae;intro hB;go_wp2;go_ret;exact ⟨C9 hf.out,bT Bc hB⟩
  case true =>
  cases h3:((a.k:Int) == 0)
  case false =>
   rw [h3] at TF;have HF:=AA TF;have hf:=AA (show (m == 0)=q by
    have h3':¬ a.k=0:=by have:=ne_of_beq_false h3;omega
    rw [<- Hf.out,XJ,AX];simp only [mM,h2,G8 hk,G8 h3'];simp)
   clear TF TL uj um h3;go_upto_region 7 with fail;refine Cj (wc) (.run 22 0 0 (.call 22 8388607 (.run 6 23 8388607 (.done)))) fun Bv QR Ae Ah hS=>?_
   iterate 7 refine Aj ?_
   iterate 15 refine Dh ?_
   refine FD (HF.out _) ?_;clear hS;intro Bq Bf hS
   iterate 2 refine Dh ?_
   iterate 2 refine JU ?_
   refine Dh ?_;refine Aj ?_;refine Ce ?_;clear hS Ah Ae;intro hB;go_wp2;go_ret;exact ⟨C9 hf.out,bT Bc hB⟩
  case true =>
  rw [h3] at TF;have HF:=AA TF
  cases h4:((b.k:Int) == (b.ln.path.length:Int)-2)
  case false =>
   rw [h4] at TL;have HL:=AA TL;have hf:=AA (show (m == 0)=q by
    have h4':=ne_of_beq_false h4;rw [<- Hf.out,XJ,AX];simp only [mM,G8 hk,G8 h4'];simp)
   clear TF TL uj um h3 h4;go_upto_region 7 with fail;refine Cj (wc) (.run 22 0 0 (.call 22 8388607 (.run 3 23 8388607 (.call 26 134217727 (.take 27 268435455 (.take 28 536870911 (.done))))))) fun Bv QR Ae Ah hS=>?_
   iterate 7 refine Aj ?_
   iterate 15 refine Dh ?_
   refine FD (HF.out _) ?_;clear hS;intro Bq Bf hS
   iterate 3 refine Dh ?_
   refine FD (HL.out _ (bT Bc hS)) ?_;clear hS;intro wr2 FT hS;refine Dh ?_;refine Aj ?_;refine Ce ?_;clear hS Ah Ae;intro hB;go_wp2;go_ret;exact ⟨C9 hf.out,bT Bc hB⟩
  case true =>
   rw [h4] at TL;have HL:=AA TL;have hf:=AA (show (m == 1)=q by
    have h3':a.k=0:=by have:=eq_of_beq h3;omega
    have h4':=eq_of_beq h4;rw [<- Hf.out,XJ,AZ];simp only [mM,h2,JE h3',JE h4'];simp)
   clear TF TL uj um h3 h4;go_upto_region 7 with fail;refine Cj (wc) (.run 22 0 0 (.call 22 8388607 (.run 3 23 8388607 (.call 26 134217727 (.take 27 268435455 (.take 28 536870911 (.done))))))) fun Bv QR Ae Ah hS=>?_
   iterate 7 refine Aj ?_
   iterate 15 refine Dh ?_
   refine FD (HF.out _) ?_;clear hS;intro Bq Bf hS
   iterate 3 refine Dh ?_
   refine FD (HL.out _ (bT Bc hS)) ?_;clear hS;intro wr2 FT hS;refine Dh ?_;refine Aj ?_;refine Ce ?_;clear hS Ah Ae;intro hB;go_wp2;go_ret;exact ⟨C9 hf.out,bT Bc hB⟩
