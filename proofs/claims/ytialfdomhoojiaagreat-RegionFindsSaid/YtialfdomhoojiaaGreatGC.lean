import Derived.Test.YtialfdomhoojiaaGreatJ01
set_option linter.unusedSimpArgs false
set_option linter.unusedVariables false
set_option maxRecDepth 100000
set_option maxHeartbeats 1000000
namespace Go.Proofs.YtialfdomhoojiaaGreat
open Go.RowKit
def MG (p:Pt):Bool:=decide (p.x < -1048576) || decide (1048576<p.x) || decide (p.y < -1048576) || decide (1048576<p.y)
theorem anl (p:Pt):MG p = !Ik p:=by
 rw [LX];simp only [MG,Ik,L6,E8,Ru,aas,J3];omega
theorem agR (p:Pt) (w:World):Calls Tryz.prog 222 #[.agg #[.int .i64 p.x,.int .i64 p.y]] w fun e w'=>e=.returned (.bool (MG p))/\AP w w':=by
 go_enter Tryz.func222,Tryz.ntmps222;go_wp2_with fail
 all_goals
  go_ret;refine ⟨C9 (by unfold MG;first | rfl | (rw [LX];simp only [L6,E8,true_iff,Rt,false_iff];done) | (rw [LX];simp only [L6,E8,true_iff,Rt,false_iff];omega)),?_⟩;exact Dk
def iV (p:Pl):Bool:=!(p.nodes.any (fun n=>MG n.pt)) && !(p.AU.any fun a=>a.via.any MG)
theorem anm (v:Value) (p:Pl) (w:World) (h:Cb w v p) :
  Calls Tryz.prog 171 #[v] w fun e w'=>e=.returned (.bool (iV p))/\AP w w':=by
 obtain ⟨_,_,vf,al,rfl,hpa,⟨An,cn,rfl,hn1,hn2,hR⟩,⟨⟨Aa,ca,rfl,ha1,ha2,FU⟩,hV⟩,-⟩:=h;unfold maxLen at hn2 ha2;have hS:iV p=(!(p.nodes.any (fun n=>MG n.pt)) && !(al.any fun a=>a.1.via.any MG)):=by
  rw [iV,hpa,lI];rfl
 rw [hS];clear hS hpa;generalize p.nodes=l at *;have HV:=AA hV;clear hV;have Gu:=AA FU;clear FU;go_enter Tryz.func171,Tryz.ntmps171;go_wp2_with fail;go_loopw [11] (fun i wr=>∃ k:Nat,k<=l.length/\i=.int .i64 k/\AP w wr/\AO wr w.heap.size 26 #[.slice An l.length cn,.slice Aa al.length ca,vf]/\∀ j (hj:j<l.length),j<k->MG l[j].pt=false) (fun i _=>l.length-(intOf i).toNat)
 case atStart => exact ⟨0,BZ _,rfl,bA (bR w) _,AO.made rfl _ _,fun j _ h=>by omega⟩
 case round =>
  obtain ⟨k,hk,rfl,hb,X1,hno⟩:=hrel;have Hb:=AA hb;have Hno:=AA hno;clear hb hno;obtain ⟨Ak,Au,Az,BA,-,-,-⟩:=X1.BF;by_cases hlt:k<l.length
  ·obtain ⟨b,o,rfl,hlb,c0,c1,c2⟩:=(hR.mono Hb.out).nd hlt;have HR:=AA hR;clear hR;go_wp2_with fail;refine (agR l[k].pt _).mono ?_;rintro e w1 ⟨rfl,hb1⟩;have Bw:AP w w1:=bT (bA Hb.out _) hb1;replace X1:=(X1.alloc _).keep hb1;clear hb1 Ak Au Az BA c0 c1 c2
   cases he:MG l[k].pt
   ·go_wp2;go_roundw
    case rel => exact ⟨k+1,AB,BI,Bw,X1,all_succ (p:=fun x=>MG x.pt=false) Hno.out hlt he⟩
    case measure => exact BK
   ·have hf:=AA (Ri l (fun n=>MG n.pt) k hlt he);go_wp2;go_ret;exact ⟨C9 (by rw [hf.out];rfl),Bw⟩
  ·have hf:=AA (UA l (fun n=>MG n.pt) (fun j hj=>Hno.out j hj AB));clear hR Hno;go_wp2_with fail;obtain ⟨wo,rfl⟩:=BO wr;go_loopw [23] (fun i wr=>∃ k:Nat,k<=al.length/\i=.int .i64 k/\AP w wr/\∀ j (hj:j<al.length),j<k->al[j].1.via.any MG=false) (fun i _=>al.length-(intOf i).toNat)
   case atStart => exact ⟨0,BZ _,rfl,Hb.out,fun j _ h=>by omega⟩
   case round =>
    clear X1 Ak Au Az BA Hb;obtain ⟨k,hk,rfl,hb,hno⟩:=hrel;have Hb:=AA hb;have Hno:=AA hno;clear hb hno;by_cases hlt:k<al.length
    ·obtain ⟨b,o,rfl,hlb,c0,c1,c2,c3,c4,c5⟩:=(Gu.out.mono Hb.out).ar hlt;have hvk:=(HV.out k hlt);obtain ⟨Av,cv,hv,-⟩:=hvk;have hvk:=(HV.out k hlt);rw [hv] at c3 hvk;have Qp:=AA hvk;clear hvk hv;go_wp2_with fail;refine (aoY _ al[k].1.via MG _ (Qp.out.mono (bA Hb.out _)) agR).mono ?_;rintro e w1 ⟨rfl,hb1⟩;have Bw:AP w w1:=bT (bA Hb.out _) hb1;clear hb1 c0 c1 c2 c3 c4 c5
     cases he:al[k].1.via.any MG
     ·go_wp2;go_roundw
      case rel => exact ⟨k+1,AB,BI,Bw,all_succ (p:=fun x=>x.1.via.any MG=false) Hno.out hlt he⟩
      case measure => exact BK
     ·have hf2:=AA (Ri al (fun a=>a.1.via.any MG) k hlt he);go_wp2;go_ret;exact ⟨C9 (by rw [hf2.out,hf.out];rfl),Bw⟩
    ·have hf2:=AA (UA al (fun a=>a.1.via.any MG) (fun j hj=>Hno.out j hj AB));go_wp2;go_ret;exact ⟨C9 (by rw [hf2.out,hf.out];rfl),Hb.out⟩
def ano (w:World) (l m:List Int) (e:Ending) (w':World):Prop :=
 ∃ v u,e=.returned (.tuple #[v,u])/\AP w w'/\Own w' w.heap.size 3 1 D5 v l/\Own w' w.heap.size 3 1 D5 u m
theorem Sl.aAd {w:World} {g:Nat} {t:TypeId} {x:Int} (h:AO w g t #[.int .i64 x]):Sl w (.slice (some ⟨g,0,none⟩) 1 1) ([x] : List Int).length (([x] : List Int).flatMap D5) :=
 Sl.lit (n:=1) h rfl (D6 AB)
theorem anp (v:Value) (p:Pl) (w:World) (h:Cb w v p) (hl1:p.nodes.length<=4096) (hl2:p.AU.length<=4096) :
  Calls Tryz.prog 168 #[v] w (ano w (p.nodes.map (·.id)) (p.AU.map (·.id))):=by
 obtain ⟨_,_,vf,al,rfl,hpa,⟨An,cn,rfl,hn1,hn2,hR⟩,⟨⟨Aa,ca,rfl,ha1,ha2,FU⟩,hV⟩,-⟩:=h;unfold maxLen at hn2 ha2;rw [hpa] at hl2 ⊢;rw [Cm] at hl2;rw [Mc];clear hpa;generalize p.nodes=l at *;have HV:=AA hV;clear hV;have Gu:=AA FU;clear FU;go_enter Tryz.func168,Tryz.ntmps168;go_wp2_with fail;obtain ⟨W0,hW0⟩:=BO (w.alloc (.cells #[.slice An l.length cn,.slice Aa al.length ca,vf] 26));have X1:AO W0 w.heap.size 26 #[.slice An l.length cn,.slice Aa al.length ca,vf]:=by rw [hW0];exact AO.made rfl _ _
 have F6:AP w W0:=by rw [hW0];exact bA (bR w) _
 rw [<- hW0];clear hW0;go_loopw [2,11] (fun s i wr=>∃ k:Nat,k<=l.length/\i=.int .i64 k/\Own wr W0.heap.size 3 1 D5 s ((l.take k).map (·.id))/\AP W0 wr) (fun _ i _=>l.length-(intOf i).toNat)
 case atStart => exact ⟨0,BZ _,rfl,Own.nil _ _ _ _ _,bR W0⟩
 case round =>
  obtain ⟨k,hk,rfl,hown,hb⟩:=hrel;have Hb:=AA hb;have Ef:=AA hown;clear hown;have hsz:=hb.size;clear hb;by_cases hlt:k<l.length
  ·obtain ⟨b,o,rfl,hlb,c0,c1,c2⟩:=(hR.mono (bT F6 Hb.out)).nd hlt;have HR:=AA hR;clear hR;have hlen:((l.take k).map (·.id)).length<=4096:=by rw [Cm,Ie];omega
   have Hlen:=AA hlen;clear hlen;go_wp2_with
    (at_builtin
     refine Ew _ rfl (.tmp 15) (.tmp 18) _ rfl (base:=W0.heap.size) IB Gt IK rfl ((Ef.out.alloc _).alloc _) rfl (l2:=[l[k].id]) (Sl.aAd (AO.made Aw _ _)) Xy Xy DC ?_;intro v1 w1 hown1 hg hat;have MF:AP W0 w1:=bG (bA (bA Hb.out _) _) hg (fun g hk=>(Ef.out.lt g hk).1);clear hg hat;have Wu:=AA hown1;clear hown1)
   go_roundw
   case rel => exact ⟨k+1,AB,BI,aAN,MF⟩
   case measure => exact BK
  ·have hE:l.take k=l:=Hw AB;have hown2:=Ef.out;rw [hE] at hown2;replace Ef:=AA hown2;have uZ:=X1.keep Hb.out;have aAe:=bT F6 Hb.out;clear hR hown2 hE X1
   try clear tK tN tV tX
   try clear anq anr ant
   obtain ⟨tK,tN,tV,tX,-,-,-⟩:=uZ.BF;go_wp2_with fail;obtain ⟨wo,rfl⟩:=BO wr;clear tK tN tV tX;go_loopw [3,24] (fun s i wr=>∃ k:Nat,k<=al.length/\i=.int .i64 k/\Own wr wo.heap.size 3 1 D5 s ((al.take k).map (·.1.id))/\AP wo wr) (fun _ i _=>al.length-(intOf i).toNat)
   case atStart => exact ⟨0,BZ _,rfl,Own.nil _ _ _ _ _,bR wo⟩
   case round =>
    obtain ⟨k,hk,rfl,hown,hb⟩:=hrel;have Hb3:=AA hb;have VW:=AA hown;clear hown;have hsz:=hb.size;clear hb;by_cases hlt:k<al.length
    ·obtain ⟨b,o,rfl,hlb,c0,c1,c2,c3,c4,c5⟩:=(Gu.out.mono (bT aAe Hb3.out)).ar hlt;obtain ⟨Av,cv,hv,-⟩:=HV.out k hlt;rw [hv] at c3;clear hv;have hlen:((al.take k).map (·.1.id)).length<=4096:=by rw [Cm,Ie];omega
     have Hlen:=AA hlen;clear hlen;go_wp2_with
      (at_builtin
       refine Ew _ rfl (.tmp 28) (.tmp 31) _ rfl (base:=wo.heap.size) IB Gt IK rfl ((VW.out.alloc _).alloc _) rfl (l2:=[al[k].1.id]) (Sl.aAd (AO.made Aw _ _)) Xy Xy DC ?_;intro v1 w1 hown1 hg hat;have MF:AP wo w1:=bG (bA (bA Hb3.out _) _) hg (fun g hk=>(VW.out.lt g hk).1);clear hg hat;have Wu:=AA hown1;clear hown1)
     go_roundw
     case rel => exact ⟨k+1,AB,BI,aAN,MF⟩
     case measure => exact BK
    ·have hE:al.take k=al:=Hw AB;have hown2:=VW.out;rw [hE] at hown2;replace VW:=AA hown2;clear hown2 hE;go_wp2_with fail;go_ret2;exact ⟨_,_,rfl,bT aAe Hb3.out,(Ef.out.keep Hb3.out).Du F6.size,VW.out.Du aAe.size⟩
def Zv (p:Pl):List Pt:=p.nodes.map (·.pt)++p.AU.flatMap (·.via)
theorem tY {α β:Type} (l:List α) (f:α->List β) (k:Nat):((l.take k).flatMap f).length<=(l.flatMap f).length:=by
 conv=>rhs;rw [<- Zd k l,KO,EC]
 omega
theorem acC {α β:Type} (l:List α) (f:α->List β) (k:Nat) (hk:k<l.length):((l.take k).flatMap f).length+(f l[k]).length<=(l.flatMap f).length:=by
 have:=tY l f (k+1)
 rw [En hk,KO,EC] at this;simpa using this
theorem Dq.one {w:World} {g:Nat} {t:TypeId} {x:Pt} (h:AO w g t #[.int .i64 x.x,.int .i64 x.y]):Sl w (.slice (some ⟨g,0,none⟩) 1 1) ([x] : List Pt).length (([x] : List Pt).flatMap EX) :=
 Sl.lit (n:=1) h rfl (D6 AB)
def agS (w:World) (l:List Pt) (e:Ending) (w':World):Prop :=
 ∃ v,e=.returned v/\AP w w'/\Own w' w.heap.size 39 2 EX v l
def agT (w:World) (l:List Int) (e:Ending) (w':World):Prop :=
 ∃ v,e=.returned v/\AP w w'/\Own w' w.heap.size 3 1 D5 v l
theorem anu (v:Value) (p:Pl) (w:World) (h:Cb w v p) (hl1:p.nodes.length<=1048576) (hl2:(p.AU.flatMap (·.via)).length<=1048576) :
  Calls Tryz.prog 97 #[v] w (agS w (Zv p)):=by
 obtain ⟨_,_,vf,al,rfl,hpa,⟨An,cn,rfl,hn1,hn2,hR⟩,⟨⟨Aa,ca,rfl,ha1,ha2,FU⟩,hV⟩,-⟩:=h;unfold maxLen at hn2 ha2;unfold Zv;have hfm:p.AU.flatMap (·.via)=al.flatMap (fun a=>a.1.via):=by rw [hpa,P9]
 rw [hfm] at hl2 ⊢;clear hpa hfm;generalize p.nodes=l at *;have HV:=AA hV;clear hV;have Gu:=AA FU;clear FU;go_enter Tryz.func97,Tryz.ntmps97;go_wp2_with fail;obtain ⟨W0,hW0⟩:=BO (w.alloc (.cells #[.slice An l.length cn,.slice Aa al.length ca,vf] 26));have X1:AO W0 w.heap.size 26 #[.slice An l.length cn,.slice Aa al.length ca,vf]:=by rw [hW0];exact AO.made rfl _ _
 have F6:AP w W0:=by rw [hW0];exact bA (bR w) _
 have HX0:=AA X1;rw [<- hW0];clear hW0;go_loopw [3,4] (fun s i wr=>∃ k:Nat,k<=l.length/\i=.int .i64 k/\Own wr W0.heap.size 39 2 EX s ((l.take k).map (·.pt))/\AP W0 wr) (fun _ i _=>l.length-(intOf i).toNat)
 case atStart => exact ⟨0,BZ _,rfl,Own.nil _ _ _ _ _,bR W0⟩
 case round =>
  obtain ⟨k,hk,rfl,hown,hb⟩:=hrel;have Hb:=AA hb;have Ef:=AA hown;have uZ:=X1.keep hb;clear hown;have hsz:=hb.size;clear hb X1
  try clear tK tN tV tX
  try clear anq anr ant
  obtain ⟨tK,tN,tV,tX,-,-,-⟩:=uZ.BF;by_cases hlt:k<l.length
  ·obtain ⟨b,o,rfl,hlb,c0,c1,c2⟩:=(hR.mono (bT F6 Hb.out)).nd hlt;have HR:=AA hR;clear hR;have hlen:((l.take k).map (·.pt)).length<=1048576:=by rw [Cm,Ie];omega
   have Hlen:=AA hlen;clear hlen;go_wp2_with
    (at_builtin
     refine Ew _ rfl (.tmp 13) (.tmp 20) _ rfl (base:=W0.heap.size) KR Jv KT rfl (Ef.out.alloc _) rfl (l2:=[l[k].pt]) (Dq.one (AO.made Aw _ _)) Xy Xy DC ?_;intro v1 w1 hown1 hg hat;have MF:AP W0 w1:=bG (bA Hb.out _) hg (fun g hk=>(Ef.out.lt g hk).1);clear hg hat;have Wu:=AA hown1;clear hown1)
   go_roundw
   case rel => exact ⟨k+1,AB,BI,aAN,MF⟩
   case measure => exact BK
  ·have hE:l.take k=l:=Hw AB;have hown2:=Ef.out;rw [hE] at hown2;replace Ef:=AA hown2;have aAe:=bT F6 Hb.out;have Bo:=AA Hb.out;clear hR hown2 hE;go_wp2_with fail;clear tK tN tV tX;have X1:=uZ;clear uZ;obtain ⟨wo,rfl⟩:=BO wr;go_loopw [3,5] (fun s i wr=>∃ k:Nat,k<=al.length/\i=.int .i64 k/\Own wr W0.heap.size 39 2 EX s (l.map (·.pt)++(al.take k).flatMap (fun a=>a.1.via))/\AP W0 wr) (fun _ i _=>al.length-(intOf i).toNat)
   case atStart => exact ⟨0,BZ _,rfl,by simpa using Ef.out,Bo.out⟩
   case round =>
    obtain ⟨k,hk,rfl,hown,hb⟩:=hrel;have Hb3:=AA hb;have VW:=AA hown;clear hown X1;have hsz:=hb.size;have X1:AO wr w.heap.size 26 #[.slice An l.length cn,.slice Aa al.length ca,vf]:=HX0.out.keep hb;clear hb;obtain ⟨Ak,Au,Az,BA,-,-,-⟩:=X1.BF;by_cases hlt:k<al.length
    ·obtain ⟨b,o,rfl,hlb,c0,c1,c2,c3,c4,c5⟩:=(Gu.out.mono (bT F6 Hb3.out)).ar hlt;have hvk:=(HV.out k hlt);obtain ⟨Av,cv,hv,-⟩:=hvk;have hvk:=(HV.out k hlt);rw [hv] at c3 hvk;have Qp:=AA hvk;clear hvk hv;have hlen:=acC al (fun a=>a.1.via) k hlt;have hlen2:(l.map (·.pt)++(al.take k).flatMap (fun a=>a.1.via)).length+al[k].1.via.length<=2097152:=by rw [EC,Cm];omega
     have Hlen:=AA hlen2;clear hlen hlen2;go_wp2_with
      (at_builtin
       refine Ew _ rfl (.tmp 29) (.tmp 35) _ rfl (base:=W0.heap.size) KR Jv KT rfl VW.out rfl (l2:=al[k].1.via) (Qp.out.mono (bT F6 Hb3.out)) (by have:=Hlen.out;omega) (by have:=Hlen.out;omega) hsz ?_;intro v1 w1 hown1 hg hat;have MF:AP W0 w1:=bG Hb3.out hg (fun g hk=>(VW.out.lt g hk).1);clear hg hat;have Wu:=AA hown1;clear hown1)
     go_roundw
     case rel => exact ⟨k+1,AB,BI,by rw [En hlt,KO,<- JR];simpa using Wu.out,MF⟩
     case measure => exact BK
    ·have hE:al.take k=al:=Hw AB;have hown2:=VW.out;rw [hE] at hown2;replace VW:=AA hown2;clear hown2 hE;go_wp2;go_ret;exact ⟨_,rfl,bT F6 Hb3.out,VW.out.Du F6.size⟩
theorem agU (v:Value) (p:Pl) (w:World) (h:Cb w v p) (hl1:p.nodes.length<=1048576) :
  Calls Tryz.prog 125 #[v,.bool false] w (agT w (p.nodes.map (·.id))):=by
 obtain ⟨_,_,vf,al,rfl,hpa,⟨An,cn,rfl,hn1,hn2,hR⟩,⟨⟨Aa,ca,rfl,ha1,ha2,FU⟩,hV⟩,-⟩:=h;unfold maxLen at hn2 ha2;clear hpa;generalize p.nodes=l at *;have HV:=AA hV;clear hV;have Gu:=AA FU;clear FU;have HR:=AA hR;clear hR;go_enter Tryz.func125,Tryz.ntmps125;go_wp2_with fail;obtain ⟨W0,hW0⟩:=BO (w.alloc (.cells #[.slice An l.length cn,.slice Aa al.length ca,vf] 26));have X1:AO W0 w.heap.size 26 #[.slice An l.length cn,.slice Aa al.length ca,vf]:=by rw [hW0];exact AO.made rfl _ _
 have F6:AP w W0:=by rw [hW0];exact bA (bR w) _
 have HX0:=AA X1;rw [<- hW0];clear hW0 X1;go_loopw [5,6] (fun s i wr=>∃ k:Nat,k<=l.length/\i=.int .i64 k/\Own wr W0.heap.size 3 1 D5 s ((l.take k).map (·.id))/\AP W0 wr) (fun _ i _=>l.length-(intOf i).toNat)
 case atStart => exact ⟨0,BZ _,rfl,Own.nil _ _ _ _ _,bR W0⟩
 case round =>
  obtain ⟨k,hk,rfl,hown,hb⟩:=hrel;have Hb:=AA hb;have Ef:=AA hown;clear hown;have hsz:=hb.size;have X1:AO wr w.heap.size 26 #[.slice An l.length cn,.slice Aa al.length ca,vf]:=HX0.out.keep hb;clear hb;obtain ⟨Ak,Au,Az,BA,-,-,-⟩:=X1.BF;by_cases hlt:k<l.length
  ·obtain ⟨b,o,rfl,hlb,c0,c1,c2⟩:=(HR.out.mono (bT F6 Hb.out)).nd hlt;have hlen:((l.take k).map (·.id)).length<=1048576:=by rw [Cm,Ie];omega
   have Hlen:=AA hlen;clear hlen;go_wp2_with
    (at_builtin
     refine Ew _ rfl (.tmp 19) (.tmp 26) _ rfl (base:=W0.heap.size) IB Gt IK rfl (Ef.out.alloc _) rfl (l2:=[l[k].id]) (Sl.aAd (AO.made Aw _ _)) Xy Xy DC ?_;intro v1 w1 hown1 hg hat;have MF:AP W0 w1:=bG (bA Hb.out _) hg (fun g hk=>(Ef.out.lt g hk).1);clear hg hat;have Wu:=AA hown1;clear hown1)
   go_roundw
   case rel => exact ⟨k+1,AB,BI,aAN,MF⟩
   case measure => exact BK
  ·have hE:l.take k=l:=Hw AB;have hown2:=Ef.out;rw [hE] at hown2;have tZ:=AA hown2;clear hown2 hE;go_wp2_with fail;obtain ⟨wo,rfl⟩:=BO wr;have Bo:=AA Hb.out;clear X1 Ak Au Az BA hlt;go_loopw [5,7] (fun s i wr=>i=.int .i64 0/\AP W0 wr/\Own wr W0.heap.size 3 1 D5 s (l.map (·.id))) (fun _ i _=>0)
   case atStart => exact ⟨rfl,Bo.out,tZ.out⟩
   case round =>
    obtain ⟨rfl,hb,hown5⟩:=hrel;have Hb4:=AA hb;have X1:AO wr w.heap.size 26 #[.slice An l.length cn,.slice Aa al.length ca,vf]:=HX0.out.keep hb;clear hb
    try clear Ak Au Az BA
    obtain ⟨Ak,Au,Az,BA,-,-,-⟩:=X1.BF;by_cases h0:0<al.length
    all_goals
     have acD:=AA hown5;clear hown5;go_wp2;go_ret;exact ⟨_,rfl,bT F6 Hb4.out,acD.out.Du F6.size⟩
theorem agV (v:Value) (p:Pl) (w:World) (h:Cb w v p) (hl1:p.AU.length<=1048576) :
  Calls Tryz.prog 125 #[v,.bool true] w (agT w (p.AU.map (·.id))):=by
 obtain ⟨_,_,vf,al,rfl,hpa,⟨An,cn,rfl,hn1,hn2,hR⟩,⟨⟨Aa,ca,rfl,ha1,ha2,FU⟩,hV⟩,-⟩:=h;unfold maxLen at hn2 ha2;rw [hpa] at hl1 ⊢;rw [Cm] at hl1;rw [Mc];clear hpa;generalize p.nodes=l at *;have HV:=AA hV;clear hV;have Gu:=AA FU;clear FU;have HR:=AA hR;clear hR;go_enter Tryz.func125,Tryz.ntmps125;go_wp2_with fail;obtain ⟨W0,hW0⟩:=BO (w.alloc (.cells #[.slice An l.length cn,.slice Aa al.length ca,vf] 26));have X1:AO W0 w.heap.size 26 #[.slice An l.length cn,.slice Aa al.length ca,vf]:=by rw [hW0];exact AO.made rfl _ _
 have F6:AP w W0:=by rw [hW0];exact bA (bR w) _
 have HX0:=AA X1;rw [<- hW0];clear hW0 X1;go_loopw [5,6] (fun s i wr=>i=.int .i64 0/\AP W0 wr/\s=.slice none 0 0) (fun _ i _=>0)
 case atStart => exact ⟨rfl,bR W0,rfl⟩
 case round =>
  obtain ⟨rfl,hb,hown5⟩:=hrel;have Hb4:=AA hb;have X1:AO wr w.heap.size 26 #[.slice An l.length cn,.slice Aa al.length ca,vf]:=HX0.out.keep hb;clear hb;obtain ⟨Ak,Au,Az,BA,-,-,-⟩:=X1.BF;by_cases h0:0<l.length
  all_goals
   subst hown5;go_wp2_with fail;obtain ⟨wo,rfl⟩:=BO wr;clear X1 Ak Au Az BA h0;go_loopw [5,7] (fun s i wr=>∃ k:Nat,k<=al.length/\i=.int .i64 k/\Own wr W0.heap.size 3 1 D5 s ((al.take k).map (·.1.id))/\AP W0 wr) (fun _ i _=>al.length-(intOf i).toNat)
   case atStart => exact ⟨0,BZ _,rfl,Own.nil _ _ _ _ _,Hb4.out⟩
   case round =>
    obtain ⟨k,hk,rfl,hown,hb⟩:=hrel;have Hb:=AA hb;have Ef:=AA hown;clear hown;have hsz:=hb.size;have X1:AO wr w.heap.size 26 #[.slice An l.length cn,.slice Aa al.length ca,vf]:=HX0.out.keep hb;clear hb
    try clear Ak Au Az BA
    obtain ⟨Ak,Au,Az,BA,-,-,-⟩:=X1.BF;by_cases hlt:k<al.length
    ·obtain ⟨b,o,rfl,hlb,c0,c1,c2,-,c4,c5⟩:=(Gu.out.mono (bT F6 Hb.out)).ar hlt;have hlen:((al.take k).map (·.1.id)).length<=1048576:=by rw [Cm,Ie];omega
     have Hlen:=AA hlen;clear hlen;go_wp2_with
      (at_builtin
       refine Ew _ rfl (.tmp 38) (.tmp 45) _ rfl (base:=W0.heap.size) IB Gt IK rfl (Ef.out.alloc _) rfl (l2:=[al[k].1.id]) (Sl.aAd (AO.made Aw _ _)) Xy Xy DC ?_;intro v1 w1 hown1 hg hat;have MF:AP W0 w1:=bG (bA Hb.out _) hg (fun g hk=>(Ef.out.lt g hk).1);clear hg hat;have Wu:=AA hown1;clear hown1)
     go_roundw
     case rel => exact ⟨k+1,AB,BI,aAN,MF⟩
     case measure => exact BK
    ·have hE:al.take k=al:=Hw AB;have hown2:=Ef.out;rw [hE] at hown2;have tZ:=AA hown2;clear hown2 hE;go_wp2;go_ret;exact ⟨_,rfl,bT F6 Hb.out,tZ.out.Du F6.size⟩
