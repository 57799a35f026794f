import Derived.Test.YtialfdomhoojiaaGreatQJ01
set_option linter.unusedSimpArgs false
set_option linter.unusedVariables false
set_option maxRecDepth 100000
set_option maxHeartbeats 1000000
namespace Go.Proofs.YtialfdomhoojiaaGreat
open Go.RowKit
def MK (p:Pt):Bool:=decide (p.x < -1048576) || decide (1048576<p.x) || decide (p.y < -1048576) || decide (1048576<p.y)
theorem aoN (p:Pt):MK p = !KY p:=by
 rw [MH];simp only [MK,KY,KD,EO,Qk,aai,Iy];omega
theorem agH (p:Pt) (w:World):Calls Tryz.prog 222 #[.agg #[.int .i64 p.x,.int .i64 p.y]] w fun e w'=>e=.returned (.bool (MK p))/\AU w w':=by
 go_enter Tryz.func222,Tryz.ntmps222;go_wp2_with fail
 all_goals
  go_ret;refine ⟨CW (by unfold MK;first | rfl | (rw [MH];simp only [KD,EO,true_iff,Rq,false_iff];done) | (rw [MH];simp only [KD,EO,true_iff,Rq,false_iff];omega)),?_⟩;exact EC
def iQ (p:Pl):Bool:=!(p.nodes.any (fun n=>MK n.pt)) && !(p.AP.any fun a=>a.via.any MK)
theorem aoO (v:Value) (p:Pl) (w:World) (h:Ci w v p) :
  Calls Tryz.prog 171 #[v] w fun e w'=>e=.returned (.bool (iQ p))/\AU w w':=by
 obtain ⟨_,_,vf,al,rfl,hpa,⟨An,cn,rfl,hn1,hn2,hR⟩,⟨⟨Aa,ca,rfl,ha1,ha2,FD⟩,hV⟩,-⟩:=h;unfold maxLen at hn2 ha2;have hS:iQ p=(!(p.nodes.any (fun n=>MK n.pt)) && !(al.any fun a=>a.1.via.any MK)):=by
  rw [iQ,hpa,gZ];rfl
 rw [hS];clear hS hpa;generalize p.nodes=l at *;have HV:=AA hV;clear hV;have GN:=AA FD;clear FD;go_enter Tryz.func171,Tryz.ntmps171;go_wp2_with fail;go_loopw [11] (fun i wr=>∃ k:Nat,k<=l.length/\i=.int .i64 k/\AU w wr/\AO wr w.heap.size 26 #[.slice An l.length cn,.slice Aa al.length ca,vf]/\∀ j (hj:j<l.length),j<k->MK l[j].pt=false) (fun i _=>l.length-(intOf i).toNat)
 case atStart => exact ⟨0,Bv _,rfl,bA (bR w) _,AO.made rfl _ _,fun j _ h=>by omega⟩
 case round =>
  obtain ⟨k,hk,rfl,hb,X1,hno⟩:=hrel;have Hb:=AA hb;have Hno:=AA hno;clear hb hno;obtain ⟨BF,BG,BH,BI,-,-,-⟩:=X1.Az;by_cases hlt:k<l.length
  ·obtain ⟨b,o,rfl,hlb,c0,c1,c2⟩:=(hR.mono Hb.out).nd hlt;have HR:=AA hR;clear hR;go_wp2_with fail;refine (agH l[k].pt _).mono ?_;rintro e w1 ⟨rfl,hb1⟩;have Bw:AU w w1:=bT (bA Hb.out _) hb1;replace X1:=(X1.alloc _).keep hb1;clear hb1 BF BG BH BI c0 c1 c2
   cases he:MK l[k].pt
   ·go_wp2;go_roundw
    case rel => exact ⟨k+1,AB,BJ,Bw,X1,all_succ (p:=fun x=>MK x.pt=false) Hno.out hlt he⟩
    case measure => exact BL
   ·have hf:=AA (SB l (fun n=>MK n.pt) k hlt he);go_wp2;go_ret;exact ⟨CW (by rw [hf.out];rfl),Bw⟩
  ·have hf:=AA (Ue l (fun n=>MK n.pt) (fun j hj=>Hno.out j hj AB));clear hR Hno;go_wp2_with fail;obtain ⟨wo,rfl⟩:=BR wr;go_loopw [23] (fun i wr=>∃ k:Nat,k<=al.length/\i=.int .i64 k/\AU w wr/\∀ j (hj:j<al.length),j<k->al[j].1.via.any MK=false) (fun i _=>al.length-(intOf i).toNat)
   case atStart => exact ⟨0,Bv _,rfl,Hb.out,fun j _ h=>by omega⟩
   case round =>
    clear X1 BF BG BH BI Hb;obtain ⟨k,hk,rfl,hb,hno⟩:=hrel;have Hb:=AA hb;have Hno:=AA hno;clear hb hno;by_cases hlt:k<al.length
    ·obtain ⟨b,o,rfl,hlb,c0,c1,c2,c3,c4,c5⟩:=(GN.out.mono Hb.out).ar hlt;have hvk:=(HV.out k hlt);obtain ⟨Av,cv,hv,-⟩:=hvk;have hvk:=(HV.out k hlt);rw [hv] at c3 hvk;have UH:=AA hvk;clear hvk hv;go_wp2_with fail;refine (aoK _ al[k].1.via MK _ (UH.out.mono (bA Hb.out _)) agH).mono ?_;rintro e w1 ⟨rfl,hb1⟩;have Bw:AU w w1:=bT (bA Hb.out _) hb1;clear hb1 c0 c1 c2 c3 c4 c5
     cases he:al[k].1.via.any MK
     ·go_wp2;go_roundw
      case rel => exact ⟨k+1,AB,BJ,Bw,all_succ (p:=fun x=>x.1.via.any MK=false) Hno.out hlt he⟩
      case measure => exact BL
     ·have hf2:=AA (SB al (fun a=>a.1.via.any MK) k hlt he);go_wp2;go_ret;exact ⟨CW (by rw [hf2.out,hf.out];rfl),Bw⟩
    ·have hf2:=AA (Ue al (fun a=>a.1.via.any MK) (fun j hj=>Hno.out j hj AB));go_wp2;go_ret;exact ⟨CW (by rw [hf2.out,hf.out];rfl),Hb.out⟩
def aoP (w:World) (l m:List Int) (e:Ending) (w':World):Prop :=
 ∃ v u,e=.returned (.tuple #[v,u])/\AU w w'/\Own w' w.heap.size 3 1 DR v l/\Own w' w.heap.size 3 1 DR u m
theorem Sl.aAp {w:World} {g:Nat} {t:TypeId} {x:Int} (h:AO w g t #[.int .i64 x]):Sl w (.slice (some ⟨g,0,none⟩) 1 1) ([x] : List Int).length (([x] : List Int).flatMap DR) :=
 Sl.lit (n:=1) h rfl (DN AB)
theorem anZ (v:Value) (p:Pl) (w:World) (h:Ci w v p) (hl1:p.nodes.length<=4096) (hl2:p.AP.length<=4096) :
  Calls Tryz.prog 168 #[v] w (aoP w (p.nodes.map (·.id)) (p.AP.map (·.id))):=by
 obtain ⟨_,_,vf,al,rfl,hpa,⟨An,cn,rfl,hn1,hn2,hR⟩,⟨⟨Aa,ca,rfl,ha1,ha2,FD⟩,hV⟩,-⟩:=h;unfold maxLen at hn2 ha2;rw [hpa] at hl2 ⊢;rw [Cj] at hl2;rw [IV];clear hpa;generalize p.nodes=l at *;have HV:=AA hV;clear hV;have GN:=AA FD;clear FD;go_enter Tryz.func168,Tryz.ntmps168;go_wp2_with fail;obtain ⟨W0,hW0⟩:=BR (w.alloc (.cells #[.slice An l.length cn,.slice Aa al.length ca,vf] 26));have X1:AO W0 w.heap.size 26 #[.slice An l.length cn,.slice Aa al.length ca,vf]:=by rw [hW0];exact AO.made rfl _ _
 have FN:AU w W0:=by rw [hW0];exact bA (bR w) _
 rw [<- hW0];clear hW0;go_loopw [2,11] (fun s i wr=>∃ k:Nat,k<=l.length/\i=.int .i64 k/\Own wr W0.heap.size 3 1 DR s ((l.take k).map (·.id))/\AU W0 wr) (fun _ i _=>l.length-(intOf i).toNat)
 case atStart => exact ⟨0,Bv _,rfl,Own.nil _ _ _ _ _,bR W0⟩
 case round =>
  obtain ⟨k,hk,rfl,hown,hb⟩:=hrel;have Hb:=AA hb;have FC:=AA hown;clear hown;have hsz:=hb.size;clear hb;by_cases hlt:k<l.length
  ·obtain ⟨b,o,rfl,hlb,c0,c1,c2⟩:=(hR.mono (bT FN Hb.out)).nd hlt;have HR:=AA hR;clear hR;have hlen:((l.take k).map (·.id)).length<=4096:=by rw [Cj,Iw];omega
   have Hlen:=AA hlen;clear hlen;go_wp2_with
    (at_builtin
     refine FK _ rfl (.tmp 15) (.tmp 18) _ rfl (base:=W0.heap.size) JW Iz JR rfl ((FC.out.alloc _).alloc _) rfl (l2:=[l[k].id]) (Sl.aAp (AO.made Ak _ _)) YL YL DT ?_;intro v1 w1 hown1 hg hat;have N9:AU W0 w1:=bG (bA (bA Hb.out _) _) hg (fun g hk=>(FC.out.lt g hk).1);clear hg hat;have XV:=AA hown1;clear hown1)
   go_roundw
   case rel => exact ⟨k+1,AB,BJ,aAS,N9⟩
   case measure => exact BL
  ·have hE:l.take k=l:=IQ AB;have hown2:=FC.out;rw [hE] at hown2;replace FC:=AA hown2;have tZ:=X1.keep Hb.out;have aAq:=bT FN Hb.out;clear hR hown2 hE X1
   try clear tq tu uD uF
   try clear ana anb anc
   obtain ⟨tq,tu,uD,uF,-,-,-⟩:=tZ.Az;go_wp2_with fail;obtain ⟨wo,rfl⟩:=BR wr;clear tq tu uD uF;go_loopw [3,24] (fun s i wr=>∃ k:Nat,k<=al.length/\i=.int .i64 k/\Own wr wo.heap.size 3 1 DR s ((al.take k).map (·.1.id))/\AU wo wr) (fun _ i _=>al.length-(intOf i).toNat)
   case atStart => exact ⟨0,Bv _,rfl,Own.nil _ _ _ _ _,bR wo⟩
   case round =>
    obtain ⟨k,hk,rfl,hown,hb⟩:=hrel;have Hb3:=AA hb;have Vj:=AA hown;clear hown;have hsz:=hb.size;clear hb;by_cases hlt:k<al.length
    ·obtain ⟨b,o,rfl,hlb,c0,c1,c2,c3,c4,c5⟩:=(GN.out.mono (bT aAq Hb3.out)).ar hlt;obtain ⟨Av,cv,hv,-⟩:=HV.out k hlt;rw [hv] at c3;clear hv;have hlen:((al.take k).map (·.1.id)).length<=4096:=by rw [Cj,Iw];omega
     have Hlen:=AA hlen;clear hlen;go_wp2_with
      (at_builtin
       refine FK _ rfl (.tmp 28) (.tmp 31) _ rfl (base:=wo.heap.size) JW Iz JR rfl ((Vj.out.alloc _).alloc _) rfl (l2:=[al[k].1.id]) (Sl.aAp (AO.made Ak _ _)) YL YL DT ?_;intro v1 w1 hown1 hg hat;have N9:AU wo w1:=bG (bA (bA Hb3.out _) _) hg (fun g hk=>(Vj.out.lt g hk).1);clear hg hat;have XV:=AA hown1;clear hown1)
     go_roundw
     case rel => exact ⟨k+1,AB,BJ,aAS,N9⟩
     case measure => exact BL
    ·have hE:al.take k=al:=IQ AB;have hown2:=Vj.out;rw [hE] at hown2;replace Vj:=AA hown2;clear hown2 hE;go_wp2_with fail;go_ret2;exact ⟨_,_,rfl,bT aAq Hb3.out,(FC.out.keep Hb3.out).ES FN.size,Vj.out.ES aAq.size⟩
def Vk (p:Pl):List Pt:=p.nodes.map (·.pt)++p.AP.flatMap (·.via)
theorem uG {α β:Type} (l:List α) (f:α->List β) (k:Nat):((l.take k).flatMap f).length<=(l.flatMap f).length:=by
 conv=>rhs;rw [<- Zo k l,LC,ER]
 omega
theorem ac3 {α β:Type} (l:List α) (f:α->List β) (k:Nat) (hk:k<l.length):((l.take k).flatMap f).length+(f l[k]).length<=(l.flatMap f).length:=by
 have:=uG l f (k+1)
 rw [F7 hk,LC,ER] at this;simpa using this
theorem Dv.one {w:World} {g:Nat} {t:TypeId} {x:Pt} (h:AO w g t #[.int .i64 x.x,.int .i64 x.y]):Sl w (.slice (some ⟨g,0,none⟩) 1 1) ([x] : List Pt).length (([x] : List Pt).flatMap Ee) :=
 Sl.lit (n:=1) h rfl (DN AB)
def agI (w:World) (l:List Pt) (e:Ending) (w':World):Prop :=
 ∃ v,e=.returned v/\AU w w'/\Own w' w.heap.size 39 2 Ee v l
def agJ (w:World) (l:List Int) (e:Ending) (w':World):Prop :=
 ∃ v,e=.returned v/\AU w w'/\Own w' w.heap.size 3 1 DR v l
theorem ane (v:Value) (p:Pl) (w:World) (h:Ci w v p) (hl1:p.nodes.length<=1048576) (hl2:(p.AP.flatMap (·.via)).length<=1048576) :
  Calls Tryz.prog 97 #[v] w (agI w (Vk p)):=by
 obtain ⟨_,_,vf,al,rfl,hpa,⟨An,cn,rfl,hn1,hn2,hR⟩,⟨⟨Aa,ca,rfl,ha1,ha2,FD⟩,hV⟩,-⟩:=h;unfold maxLen at hn2 ha2;unfold Vk;have hfm:p.AP.flatMap (·.via)=al.flatMap (fun a=>a.1.via):=by rw [hpa,Og]
 rw [hfm] at hl2 ⊢;clear hpa hfm;generalize p.nodes=l at *;have HV:=AA hV;clear hV;have GN:=AA FD;clear FD;go_enter Tryz.func97,Tryz.ntmps97;go_wp2_with fail;obtain ⟨W0,hW0⟩:=BR (w.alloc (.cells #[.slice An l.length cn,.slice Aa al.length ca,vf] 26));have X1:AO W0 w.heap.size 26 #[.slice An l.length cn,.slice Aa al.length ca,vf]:=by rw [hW0];exact AO.made rfl _ _
 have FN:AU w W0:=by rw [hW0];exact bA (bR w) _
 have HX0:=AA X1;rw [<- hW0];clear hW0;go_loopw [3,4] (fun s i wr=>∃ k:Nat,k<=l.length/\i=.int .i64 k/\Own wr W0.heap.size 39 2 Ee s ((l.take k).map (·.pt))/\AU W0 wr) (fun _ i _=>l.length-(intOf i).toNat)
 case atStart => exact ⟨0,Bv _,rfl,Own.nil _ _ _ _ _,bR W0⟩
 case round =>
  obtain ⟨k,hk,rfl,hown,hb⟩:=hrel;have Hb:=AA hb;have FC:=AA hown;have tZ:=X1.keep hb;clear hown;have hsz:=hb.size;clear hb X1
  try clear tq tu uD uF
  try clear ana anb anc
  obtain ⟨tq,tu,uD,uF,-,-,-⟩:=tZ.Az;by_cases hlt:k<l.length
  ·obtain ⟨b,o,rfl,hlb,c0,c1,c2⟩:=(hR.mono (bT FN Hb.out)).nd hlt;have HR:=AA hR;clear hR;have hlen:((l.take k).map (·.pt)).length<=1048576:=by rw [Cj,Iw];omega
   have Hlen:=AA hlen;clear hlen;go_wp2_with
    (at_builtin
     refine FK _ rfl (.tmp 13) (.tmp 20) _ rfl (base:=W0.heap.size) L6 KJ L8 rfl (FC.out.alloc _) rfl (l2:=[l[k].pt]) (Dv.one (AO.made Ak _ _)) YL YL DT ?_;intro v1 w1 hown1 hg hat;have N9:AU W0 w1:=bG (bA Hb.out _) hg (fun g hk=>(FC.out.lt g hk).1);clear hg hat;have XV:=AA hown1;clear hown1)
   go_roundw
   case rel => exact ⟨k+1,AB,BJ,aAS,N9⟩
   case measure => exact BL
  ·have hE:l.take k=l:=IQ AB;have hown2:=FC.out;rw [hE] at hown2;replace FC:=AA hown2;have aAq:=bT FN Hb.out;have Bo:=AA Hb.out;clear hR hown2 hE;go_wp2_with fail;clear tq tu uD uF;have X1:=tZ;clear tZ;obtain ⟨wo,rfl⟩:=BR wr;go_loopw [3,5] (fun s i wr=>∃ k:Nat,k<=al.length/\i=.int .i64 k/\Own wr W0.heap.size 39 2 Ee s (l.map (·.pt)++(al.take k).flatMap (fun a=>a.1.via))/\AU W0 wr) (fun _ i _=>al.length-(intOf i).toNat)
   case atStart => exact ⟨0,Bv _,rfl,by simpa using FC.out,Bo.out⟩
   case round =>
    obtain ⟨k,hk,rfl,hown,hb⟩:=hrel;have Hb3:=AA hb;have Vj:=AA hown;clear hown X1;have hsz:=hb.size;have X1:AO wr w.heap.size 26 #[.slice An l.length cn,.slice Aa al.length ca,vf]:=HX0.out.keep hb;clear hb;obtain ⟨BF,BG,BH,BI,-,-,-⟩:=X1.Az;by_cases hlt:k<al.length
    ·obtain ⟨b,o,rfl,hlb,c0,c1,c2,c3,c4,c5⟩:=(GN.out.mono (bT FN Hb3.out)).ar hlt;have hvk:=(HV.out k hlt);obtain ⟨Av,cv,hv,-⟩:=hvk;have hvk:=(HV.out k hlt);rw [hv] at c3 hvk;have UH:=AA hvk;clear hvk hv;have hlen:=ac3 al (fun a=>a.1.via) k hlt;have hlen2:(l.map (·.pt)++(al.take k).flatMap (fun a=>a.1.via)).length+al[k].1.via.length<=2097152:=by rw [ER,Cj];omega
     have Hlen:=AA hlen2;clear hlen hlen2;go_wp2_with
      (at_builtin
       refine FK _ rfl (.tmp 29) (.tmp 35) _ rfl (base:=W0.heap.size) L6 KJ L8 rfl Vj.out rfl (l2:=al[k].1.via) (UH.out.mono (bT FN Hb3.out)) (by have:=Hlen.out;omega) (by have:=Hlen.out;omega) hsz ?_;intro v1 w1 hown1 hg hat;have N9:AU W0 w1:=bG Hb3.out hg (fun g hk=>(Vj.out.lt g hk).1);clear hg hat;have XV:=AA hown1;clear hown1)
     go_roundw
     case rel => exact ⟨k+1,AB,BJ,by rw [F7 hlt,LC,<- KW];simpa using XV.out,N9⟩
     case measure => exact BL
    ·have hE:al.take k=al:=IQ AB;have hown2:=Vj.out;rw [hE] at hown2;replace Vj:=AA hown2;clear hown2 hE;go_wp2;go_ret;exact ⟨_,rfl,bT FN Hb3.out,Vj.out.ES FN.size⟩
theorem agK (v:Value) (p:Pl) (w:World) (h:Ci w v p) (hl1:p.nodes.length<=1048576) :
  Calls Tryz.prog 125 #[v,.bool false] w (agJ w (p.nodes.map (·.id))):=by
 obtain ⟨_,_,vf,al,rfl,hpa,⟨An,cn,rfl,hn1,hn2,hR⟩,⟨⟨Aa,ca,rfl,ha1,ha2,FD⟩,hV⟩,-⟩:=h;unfold maxLen at hn2 ha2;clear hpa;generalize p.nodes=l at *;have HV:=AA hV;clear hV;have GN:=AA FD;clear FD;have HR:=AA hR;clear hR;go_enter Tryz.func125,Tryz.ntmps125;go_wp2_with fail;obtain ⟨W0,hW0⟩:=BR (w.alloc (.cells #[.slice An l.length cn,.slice Aa al.length ca,vf] 26));have X1:AO W0 w.heap.size 26 #[.slice An l.length cn,.slice Aa al.length ca,vf]:=by rw [hW0];exact AO.made rfl _ _
 have FN:AU w W0:=by rw [hW0];exact bA (bR w) _
 have HX0:=AA X1;rw [<- hW0];clear hW0 X1;go_loopw [5,6] (fun s i wr=>∃ k:Nat,k<=l.length/\i=.int .i64 k/\Own wr W0.heap.size 3 1 DR s ((l.take k).map (·.id))/\AU W0 wr) (fun _ i _=>l.length-(intOf i).toNat)
 case atStart => exact ⟨0,Bv _,rfl,Own.nil _ _ _ _ _,bR W0⟩
 case round =>
  obtain ⟨k,hk,rfl,hown,hb⟩:=hrel;have Hb:=AA hb;have FC:=AA hown;clear hown;have hsz:=hb.size;have X1:AO wr w.heap.size 26 #[.slice An l.length cn,.slice Aa al.length ca,vf]:=HX0.out.keep hb;clear hb;obtain ⟨BF,BG,BH,BI,-,-,-⟩:=X1.Az;by_cases hlt:k<l.length
  ·obtain ⟨b,o,rfl,hlb,c0,c1,c2⟩:=(HR.out.mono (bT FN Hb.out)).nd hlt;have hlen:((l.take k).map (·.id)).length<=1048576:=by rw [Cj,Iw];omega
   have Hlen:=AA hlen;clear hlen;go_wp2_with
    (at_builtin
     refine FK _ rfl (.tmp 19) (.tmp 26) _ rfl (base:=W0.heap.size) JW Iz JR rfl (FC.out.alloc _) rfl (l2:=[l[k].id]) (Sl.aAp (AO.made Ak _ _)) YL YL DT ?_;intro v1 w1 hown1 hg hat;have N9:AU W0 w1:=bG (bA Hb.out _) hg (fun g hk=>(FC.out.lt g hk).1);clear hg hat;have XV:=AA hown1;clear hown1)
   go_roundw
   case rel => exact ⟨k+1,AB,BJ,aAS,N9⟩
   case measure => exact BL
  ·have hE:l.take k=l:=IQ AB;have hown2:=FC.out;rw [hE] at hown2;have uH:=AA hown2;clear hown2 hE;go_wp2_with fail;obtain ⟨wo,rfl⟩:=BR wr;have Bo:=AA Hb.out;clear X1 BF BG BH BI hlt;go_loopw [5,7] (fun s i wr=>i=.int .i64 0/\AU W0 wr/\Own wr W0.heap.size 3 1 DR s (l.map (·.id))) (fun _ i _=>0)
   case atStart => exact ⟨rfl,Bo.out,uH.out⟩
   case round =>
    obtain ⟨rfl,hb,hown5⟩:=hrel;have Hb4:=AA hb;have X1:AO wr w.heap.size 26 #[.slice An l.length cn,.slice Aa al.length ca,vf]:=HX0.out.keep hb;clear hb
    try clear BF BG BH BI
    obtain ⟨BF,BG,BH,BI,-,-,-⟩:=X1.Az;by_cases h0:0<al.length
    all_goals
     have ac4:=AA hown5;clear hown5;go_wp2;go_ret;exact ⟨_,rfl,bT FN Hb4.out,ac4.out.ES FN.size⟩
theorem agL (v:Value) (p:Pl) (w:World) (h:Ci w v p) (hl1:p.AP.length<=1048576) :
  Calls Tryz.prog 125 #[v,.bool true] w (agJ w (p.AP.map (·.id))):=by
 obtain ⟨_,_,vf,al,rfl,hpa,⟨An,cn,rfl,hn1,hn2,hR⟩,⟨⟨Aa,ca,rfl,ha1,ha2,FD⟩,hV⟩,-⟩:=h;unfold maxLen at hn2 ha2;rw [hpa] at hl1 ⊢;rw [Cj] at hl1;rw [IV];clear hpa;generalize p.nodes=l at *;have HV:=AA hV;clear hV;have GN:=AA FD;clear FD;have HR:=AA hR;clear hR;go_enter Tryz.func125,Tryz.ntmps125;go_wp2_with fail;obtain ⟨W0,hW0⟩:=BR (w.alloc (.cells #[.slice An l.length cn,.slice Aa al.length ca,vf] 26));have X1:AO W0 w.heap.size 26 #[.slice An l.length cn,.slice Aa al.length ca,vf]:=by rw [hW0];exact AO.made rfl _ _
 have FN:AU w W0:=by rw [hW0];exact bA (bR w) _
 have HX0:=AA X1;rw [<- hW0];clear hW0 X1;go_loopw [5,6] (fun s i wr=>i=.int .i64 0/\AU W0 wr/\s=.slice none 0 0) (fun _ i _=>0)
 case atStart => exact ⟨rfl,bR W0,rfl⟩
 case round =>
  obtain ⟨rfl,hb,hown5⟩:=hrel;have Hb4:=AA hb;have X1:AO wr w.heap.size 26 #[.slice An l.length cn,.slice Aa al.length ca,vf]:=HX0.out.keep hb;clear hb;obtain ⟨BF,BG,BH,BI,-,-,-⟩:=X1.Az;by_cases h0:0<l.length
  all_goals
   subst hown5;go_wp2_with fail;obtain ⟨wo,rfl⟩:=BR wr;clear X1 BF BG BH BI h0;go_loopw [5,7] (fun s i wr=>∃ k:Nat,k<=al.length/\i=.int .i64 k/\Own wr W0.heap.size 3 1 DR s ((al.take k).map (·.1.id))/\AU W0 wr) (fun _ i _=>al.length-(intOf i).toNat)
   case atStart => exact ⟨0,Bv _,rfl,Own.nil _ _ _ _ _,Hb4.out⟩
   case round =>
    obtain ⟨k,hk,rfl,hown,hb⟩:=hrel;have Hb:=AA hb;have FC:=AA hown;clear hown;have hsz:=hb.size;have X1:AO wr w.heap.size 26 #[.slice An l.length cn,.slice Aa al.length ca,vf]:=HX0.out.keep hb;clear hb
    try clear BF BG BH BI
    obtain ⟨BF,BG,BH,BI,-,-,-⟩:=X1.Az;by_cases hlt:k<al.length
    ·obtain ⟨b,o,rfl,hlb,c0,c1,c2,-,c4,c5⟩:=(GN.out.mono (bT FN Hb.out)).ar hlt;have hlen:((al.take k).map (·.1.id)).length<=1048576:=by rw [Cj,Iw];omega
     have Hlen:=AA hlen;clear hlen;go_wp2_with
      (at_builtin
       refine FK _ rfl (.tmp 38) (.tmp 45) _ rfl (base:=W0.heap.size) JW Iz JR rfl (FC.out.alloc _) rfl (l2:=[al[k].1.id]) (Sl.aAp (AO.made Ak _ _)) YL YL DT ?_;intro v1 w1 hown1 hg hat;have N9:AU W0 w1:=bG (bA Hb.out _) hg (fun g hk=>(FC.out.lt g hk).1);clear hg hat;have XV:=AA hown1;clear hown1)
     go_roundw
     case rel => exact ⟨k+1,AB,BJ,aAS,N9⟩
     case measure => exact BL
    ·have hE:al.take k=al:=IQ AB;have hown2:=FC.out;rw [hE] at hown2;have uH:=AA hown2;clear hown2 hE;go_wp2;go_ret;exact ⟨_,rfl,bT FN Hb.out,uH.out.ES FN.size⟩
