import Derived.Test.YtialfdomhoojiaaGreatJ01
set_option linter.unusedSimpArgs false
set_option linter.unusedVariables false
set_option maxRecDepth 100000
set_option maxHeartbeats 1000000
namespace Go.Proofs.YtialfdomhoojiaaGreat
open Go.RowKit
def oO (p:Pt):Bool:=decide (p.x < -1048576) || decide (1048576<p.x) || decide (p.y < -1048576) || decide (1048576<p.y)
theorem aj0 (p:Pt):oO p = !iP p:=by
 rw [Bool.eq_iff_iff];simp only [oO,iP,Bool.or_eq_true,avQ,Bool.not_eq_true',Bool.and_eq_false_iff,avX];omega
theorem adu (p:Pt) (w:World):Calls Tryz.prog 222 #[.agg #[.int .i64 p.x,.int .i64 p.y]] w fun e w'=>e=.returned (.bool (oO p))/\Below w.heap.size w w':=by
 go_enter Tryz.func222,Tryz.ntmps222;go_wp2_with fail
 all_goals
  go_ret;refine ⟨aY (by unfold oO;first | rfl | (rw [Bool.eq_iff_iff];simp only [Bool.or_eq_true,avQ,true_iff,Bool.false_eq_true,false_iff];done) | (rw [Bool.eq_iff_iff];simp only [Bool.or_eq_true,avQ,true_iff,Bool.false_eq_true,false_iff];omega)),?_⟩;exact eF
def Ko (p:Pl):Bool:=!(p.nodes.any (fun n=>oO n.pt)) && !(p.aj.any fun a=>a.via.any oO)
theorem aj1 (v:Value) (p:Pl) (w:World) (h:bQ w v p) :
  Calls Tryz.prog 171 #[v] w fun e w'=>e=.returned (.bool (Ko p))/\Below w.heap.size w w':=by
 obtain ⟨_,_,vf,al,rfl,hpa,⟨An,cn,rfl,hn1,hn2,hR⟩,⟨⟨Aa,ca,rfl,ha1,ha2,gV⟩,hV⟩,-⟩:=h;unfold maxLen at hn2 ha2;have hS:Ko p=(!(p.nodes.any (fun n=>oO n.pt)) && !(al.any fun a=>a.1.via.any oO)):=by
  rw [Ko,hpa,List.any_map];rfl
 rw [hS];clear hS hpa;generalize p.nodes=l at *;have HV:=avE hV;clear hV;have jr:=avE gV;clear gV;go_enter Tryz.func171,Tryz.ntmps171;go_wp2_with fail;go_loopw [11] (fun i wr=>∃ k:Nat,k<=l.length/\i=.int .i64 k/\Below w.heap.size w wr/\ah wr w.heap.size 26 #[.slice An l.length cn,.slice Aa al.length ca,vf]/\∀ j (hj:j<l.length),j<k->oO l[j].pt=false) (fun i _=>l.length-(intOf i).toNat)
 case atStart => exact ⟨0,avK _,rfl,bA (bR w) _,ah.made rfl _ _,fun j _ h=>by omega⟩
 case round =>
  obtain ⟨k,hk,rfl,hb,X1,hno⟩:=hrel;have Hb:=avE hb;have Hno:=avE hno;clear hb hno;obtain ⟨aS,aT,aU,aW,-,-,-⟩:=X1.aF;by_cases hlt:k<l.length
  ·obtain ⟨b,o,rfl,hlb,c0,c1,c2⟩:=(hR.mono Hb.out).nd hlt;have HR:=avE hR;clear hR;go_wp2_with fail;refine (adu l[k].pt _).mono ?_;rintro e w1 ⟨rfl,hb1⟩;have Bw:Below w.heap.size w w1:=bT (bA Hb.out _) hb1;replace X1:=(X1.alloc _).keep hb1;clear hb1 aS aT aU aW c0 c1 c2
   cases he:oO l[k].pt
   ·go_wp2;go_roundw
    case rel => exact ⟨k+1,by omega,by go_num,Bw,X1,all_succ (p:=fun x=>oO x.pt=false) Hno.out hlt he⟩
    case measure => simp [intOf];omega
   ·have hf:=avE (vO l (fun n=>oO n.pt) k hlt he);go_wp2;go_ret;exact ⟨aY (by rw [hf.out];rfl),Bw⟩
  ·have hf:=avE (y7 l (fun n=>oO n.pt) (fun j hj=>Hno.out j hj Pe));clear hR Hno;go_wp2_with fail;obtain ⟨wo,rfl⟩:∃ wo:World,wo=wr:=⟨_,rfl⟩;go_loopw [23] (fun i wr=>∃ k:Nat,k<=al.length/\i=.int .i64 k/\Below w.heap.size w wr/\∀ j (hj:j<al.length),j<k->al[j].1.via.any oO=false) (fun i _=>al.length-(intOf i).toNat)
   case atStart => exact ⟨0,avK _,rfl,Hb.out,fun j _ h=>by omega⟩
   case round =>
    clear X1 aS aT aU aW Hb;obtain ⟨k,hk,rfl,hb,hno⟩:=hrel;have Hb:=avE hb;have Hno:=avE hno;clear hb hno;by_cases hlt:k<al.length
    ·obtain ⟨b,o,rfl,hlb,c0,c1,c2,c3,c4,c5⟩:=(jr.out.mono Hb.out).ar hlt;have hvk:=(HV.out k hlt);obtain ⟨Av,cv,hv,-⟩:=hvk;have hvk:=(HV.out k hlt);rw [hv] at c3 hvk;have vN:=avE hvk;clear hvk hv;go_wp2_with fail;refine (ajY _ al[k].1.via oO _ (vN.out.mono (bA Hb.out _)) adu).mono ?_;rintro e w1 ⟨rfl,hb1⟩;have Bw:Below w.heap.size w w1:=bT (bA Hb.out _) hb1;clear hb1 c0 c1 c2 c3 c4 c5
     cases he:al[k].1.via.any oO
     ·go_wp2;go_roundw
      case rel => exact ⟨k+1,by omega,by go_num,Bw,all_succ (p:=fun x=>x.1.via.any oO=false) Hno.out hlt he⟩
      case measure => simp [intOf];omega
     ·have hf2:=avE (vO al (fun a=>a.1.via.any oO) k hlt he);go_wp2;go_ret;exact ⟨aY (by rw [hf2.out,hf.out];rfl),Bw⟩
    ·have hf2:=avE (y7 al (fun a=>a.1.via.any oO) (fun j hj=>Hno.out j hj Pe));go_wp2;go_ret;exact ⟨aY (by rw [hf2.out,hf.out];rfl),Hb.out⟩
def aj2 (w:World) (l m:List Int) (e:Ending) (w':World):Prop :=
 ∃ v u,e=.returned (.tuple #[v,u])/\Below w.heap.size w w'/\Own w' w.heap.size 3 1 dw v l/\Own w' w.heap.size 3 1 dw u m
theorem Sl.UF {w:World} {g:Nat} {t:TypeId} {x:Int} (h:ah w g t #[.int .i64 x]):Sl w (.slice (some ⟨g,0,none⟩) 1 1) ([x] : List Int).length (([x] : List Int).flatMap dw) :=
 Sl.lit (n:=1) h rfl (dP Pe)
theorem aj3 (v:Value) (p:Pl) (w:World) (h:bQ w v p) (hl1:p.nodes.length<=4096) (hl2:p.aj.length<=4096) :
  Calls Tryz.prog 168 #[v] w (aj2 w (p.nodes.map (·.id)) (p.aj.map (·.id))):=by
 obtain ⟨_,_,vf,al,rfl,hpa,⟨An,cn,rfl,hn1,hn2,hR⟩,⟨⟨Aa,ca,rfl,ha1,ha2,gV⟩,hV⟩,-⟩:=h;unfold maxLen at hn2 ha2;rw [hpa] at hl2 ⊢;rw [avM] at hl2;rw [awc];clear hpa;generalize p.nodes=l at *;have HV:=avE hV;clear hV;have jr:=avE gV;clear gV;go_enter Tryz.func168,Tryz.ntmps168;go_wp2_with fail;obtain ⟨W0,hW0⟩:∃ W0:World,W0=w.alloc (.cells #[.slice An l.length cn,.slice Aa al.length ca,vf] 26):=⟨_,rfl⟩;have X1:ah W0 w.heap.size 26 #[.slice An l.length cn,.slice Aa al.length ca,vf]:=by rw [hW0];exact ah.made rfl _ _
 have iq:Below w.heap.size w W0:=by rw [hW0];exact bA (bR w) _
 rw [<- hW0];clear hW0;go_loopw [2,11] (fun s i wr=>∃ k:Nat,k<=l.length/\i=.int .i64 k/\Own wr W0.heap.size 3 1 dw s ((l.take k).map (·.id))/\Below W0.heap.size W0 wr) (fun _ i _=>l.length-(intOf i).toNat)
 case atStart => exact ⟨0,avK _,rfl,Own.nil _ _ _ _ _,bR W0⟩
 case round =>
  obtain ⟨k,hk,rfl,hown,hb⟩:=hrel;have Hb:=avE hb;have gU:=avE hown;clear hown;have hsz:=hb.size;clear hb;by_cases hlt:k<l.length
  ·obtain ⟨b,o,rfl,hlb,c0,c1,c2⟩:=(hR.mono (bT iq Hb.out)).nd hlt;have HR:=avE hR;clear hR;have hlen:((l.take k).map (·.id)).length<=4096:=by rw [avM,awk];omega
   have Hlen:=avE hlen;clear hlen;go_wp2_with
    (at_builtin
     refine iZ _ rfl (.tmp 15) (.tmp 18) _ rfl (base:=W0.heap.size) jR jB jT rfl ((gU.out.alloc _).alloc _) rfl (l2:=[l[k].id]) (Sl.UF (ah.made ars _ _)) ar0 ar0 arV ?_;intro v1 w1 hown1 hg hat;have oL:Below W0.heap.size W0 w1:=bG (bA (bA Hb.out _) _) hg (fun g hk=>(gU.out.lt g hk).1);clear hg hat;have vP:=avE hown1;clear hown1)
   go_roundw
   case rel => exact ⟨k+1,by omega,by go_num,by rw [avH hlt,List.map_append];exact vP.out,oL⟩
   case measure => simp [intOf];omega
  ·have hE:l.take k=l:=List.take_of_length_le Pe;have hown2:=gU.out;rw [hE] at hown2;replace gU:=avE hown2;have PD:=X1.keep Hb.out;have UG:=bT iq Hb.out;clear hR hown2 hE X1
   try clear PE
   try clear PG
   try clear PI
   try clear PK
   try clear aj6
   try clear aj7
   try clear aj8
   obtain ⟨PE,PG,PI,PK,-,-,-⟩:=PD.aF;go_wp2_with fail;obtain ⟨wo,rfl⟩:∃ wo:World,wo=wr:=⟨_,rfl⟩;clear PE PG PI PK;go_loopw [3,24] (fun s i wr=>∃ k:Nat,k<=al.length/\i=.int .i64 k/\Own wr wo.heap.size 3 1 dw s ((al.take k).map (·.1.id))/\Below wo.heap.size wo wr) (fun _ i _=>al.length-(intOf i).toNat)
   case atStart => exact ⟨0,avK _,rfl,Own.nil _ _ _ _ _,bR wo⟩
   case round =>
    obtain ⟨k,hk,rfl,hown,hb⟩:=hrel;have Hb3:=avE hb;have CQ:=avE hown;clear hown;have hsz:=hb.size;clear hb;by_cases hlt:k<al.length
    ·obtain ⟨b,o,rfl,hlb,c0,c1,c2,c3,c4,c5⟩:=(jr.out.mono (bT UG Hb3.out)).ar hlt;obtain ⟨Av,cv,hv,-⟩:=HV.out k hlt;rw [hv] at c3;clear hv;have hlen:((al.take k).map (·.1.id)).length<=4096:=by rw [avM,awk];omega
     have Hlen:=avE hlen;clear hlen;go_wp2_with
      (at_builtin
       refine iZ _ rfl (.tmp 28) (.tmp 31) _ rfl (base:=wo.heap.size) jR jB jT rfl ((CQ.out.alloc _).alloc _) rfl (l2:=[al[k].1.id]) (Sl.UF (ah.made ars _ _)) ar0 ar0 arV ?_;intro v1 w1 hown1 hg hat;have oL:Below wo.heap.size wo w1:=bG (bA (bA Hb3.out _) _) hg (fun g hk=>(CQ.out.lt g hk).1);clear hg hat;have vP:=avE hown1;clear hown1)
     go_roundw
     case rel => exact ⟨k+1,by omega,by go_num,by rw [avH hlt,List.map_append];exact vP.out,oL⟩
     case measure => simp [intOf];omega
    ·have hE:al.take k=al:=List.take_of_length_le Pe;have hown2:=CQ.out;rw [hE] at hown2;replace CQ:=avE hown2;clear hown2 hE;go_wp2_with fail;go_ret2;exact ⟨_,_,rfl,bT UG Hb3.out,(gU.out.keep Hb3.out).fG iq.size,CQ.out.fG UG.size⟩
def vU (p:Pl):List Pt:=p.nodes.map (·.pt)++p.aj.flatMap (·.via)
theorem PN {α β:Type} (l:List α) (f:α->List β) (k:Nat):((l.take k).flatMap f).length<=(l.flatMap f).length:=by
 conv=>rhs;rw [<- List.take_append_drop k l,List.flatMap_append,avL]
 omega
theorem Zj {α β:Type} (l:List α) (f:α->List β) (k:Nat) (hk:k<l.length):((l.take k).flatMap f).length+(f l[k]).length<=(l.flatMap f).length:=by
 have:=PN l f (k+1)
 rw [avH hk,List.flatMap_append,avL] at this;simpa using this
theorem dM.one {w:World} {g:Nat} {t:TypeId} {x:Pt} (h:ah w g t #[.int .i64 x.x,.int .i64 x.y]):Sl w (.slice (some ⟨g,0,none⟩) 1 1) ([x] : List Pt).length (([x] : List Pt).flatMap dU) :=
 Sl.lit (n:=1) h rfl (dP Pe)
def adv (w:World) (l:List Pt) (e:Ending) (w':World):Prop :=
 ∃ v,e=.returned v/\Below w.heap.size w w'/\Own w' w.heap.size 39 2 dU v l
def adw (w:World) (l:List Int) (e:Ending) (w':World):Prop :=
 ∃ v,e=.returned v/\Below w.heap.size w w'/\Own w' w.heap.size 3 1 dw v l
theorem adx (v:Value) (p:Pl) (w:World) (h:bQ w v p) (hl1:p.nodes.length<=1048576) (hl2:(p.aj.flatMap (·.via)).length<=1048576) :
  Calls Tryz.prog 97 #[v] w (adv w (vU p)):=by
 obtain ⟨_,_,vf,al,rfl,hpa,⟨An,cn,rfl,hn1,hn2,hR⟩,⟨⟨Aa,ca,rfl,ha1,ha2,gV⟩,hV⟩,-⟩:=h;unfold maxLen at hn2 ha2;unfold vU;have hfm:p.aj.flatMap (·.via)=al.flatMap (fun a=>a.1.via):=by rw [hpa,List.flatMap_map]
 rw [hfm] at hl2 ⊢;clear hpa hfm;generalize p.nodes=l at *;have HV:=avE hV;clear hV;have jr:=avE gV;clear gV;go_enter Tryz.func97,Tryz.ntmps97;go_wp2_with fail;obtain ⟨W0,hW0⟩:∃ W0:World,W0=w.alloc (.cells #[.slice An l.length cn,.slice Aa al.length ca,vf] 26):=⟨_,rfl⟩;have X1:ah W0 w.heap.size 26 #[.slice An l.length cn,.slice Aa al.length ca,vf]:=by rw [hW0];exact ah.made rfl _ _
 have iq:Below w.heap.size w W0:=by rw [hW0];exact bA (bR w) _
 have HX0:=avE X1;rw [<- hW0];clear hW0;go_loopw [3,4] (fun s i wr=>∃ k:Nat,k<=l.length/\i=.int .i64 k/\Own wr W0.heap.size 39 2 dU s ((l.take k).map (·.pt))/\Below W0.heap.size W0 wr) (fun _ i _=>l.length-(intOf i).toNat)
 case atStart => exact ⟨0,avK _,rfl,Own.nil _ _ _ _ _,bR W0⟩
 case round =>
  obtain ⟨k,hk,rfl,hown,hb⟩:=hrel;have Hb:=avE hb;have gU:=avE hown;have PD:=X1.keep hb;clear hown;have hsz:=hb.size;clear hb X1
  try clear PE
  try clear PG
  try clear PI
  try clear PK
  try clear aj6
  try clear aj7
  try clear aj8
  obtain ⟨PE,PG,PI,PK,-,-,-⟩:=PD.aF;by_cases hlt:k<l.length
  ·obtain ⟨b,o,rfl,hlb,c0,c1,c2⟩:=(hR.mono (bT iq Hb.out)).nd hlt;have HR:=avE hR;clear hR;have hlen:((l.take k).map (·.pt)).length<=1048576:=by rw [avM,awk];omega
   have Hlen:=avE hlen;clear hlen;go_wp2_with
    (at_builtin
     refine iZ _ rfl (.tmp 13) (.tmp 20) _ rfl (base:=W0.heap.size) ng jS ni rfl (gU.out.alloc _) rfl (l2:=[l[k].pt]) (dM.one (ah.made ars _ _)) ar0 ar0 arV ?_;intro v1 w1 hown1 hg hat;have oL:Below W0.heap.size W0 w1:=bG (bA Hb.out _) hg (fun g hk=>(gU.out.lt g hk).1);clear hg hat;have vP:=avE hown1;clear hown1)
   go_roundw
   case rel => exact ⟨k+1,by omega,by go_num,by rw [avH hlt,List.map_append];exact vP.out,oL⟩
   case measure => simp [intOf];omega
  ·have hE:l.take k=l:=List.take_of_length_le Pe;have hown2:=gU.out;rw [hE] at hown2;replace gU:=avE hown2;have UG:=bT iq Hb.out;have Bo:=avE Hb.out;clear hR hown2 hE;go_wp2_with fail;clear PE PG PI PK;have X1:=PD;clear PD;obtain ⟨wo,rfl⟩:∃ wo:World,wo=wr:=⟨_,rfl⟩;go_loopw [3,5] (fun s i wr=>∃ k:Nat,k<=al.length/\i=.int .i64 k/\Own wr W0.heap.size 39 2 dU s (l.map (·.pt)++(al.take k).flatMap (fun a=>a.1.via))/\Below W0.heap.size W0 wr) (fun _ i _=>al.length-(intOf i).toNat)
   case atStart => exact ⟨0,avK _,rfl,by simpa using gU.out,Bo.out⟩
   case round =>
    obtain ⟨k,hk,rfl,hown,hb⟩:=hrel;have Hb3:=avE hb;have CQ:=avE hown;clear hown X1;have hsz:=hb.size;have X1:ah wr w.heap.size 26 #[.slice An l.length cn,.slice Aa al.length ca,vf]:=HX0.out.keep hb;clear hb;obtain ⟨aS,aT,aU,aW,-,-,-⟩:=X1.aF;by_cases hlt:k<al.length
    ·obtain ⟨b,o,rfl,hlb,c0,c1,c2,c3,c4,c5⟩:=(jr.out.mono (bT iq Hb3.out)).ar hlt;have hvk:=(HV.out k hlt);obtain ⟨Av,cv,hv,-⟩:=hvk;have hvk:=(HV.out k hlt);rw [hv] at c3 hvk;have vN:=avE hvk;clear hvk hv;have hlen:=Zj al (fun a=>a.1.via) k hlt;have hlen2:(l.map (·.pt)++(al.take k).flatMap (fun a=>a.1.via)).length+al[k].1.via.length<=2097152:=by rw [avL,avM];omega
     have Hlen:=avE hlen2;clear hlen hlen2;go_wp2_with
      (at_builtin
       refine iZ _ rfl (.tmp 29) (.tmp 35) _ rfl (base:=W0.heap.size) ng jS ni rfl CQ.out rfl (l2:=al[k].1.via) (vN.out.mono (bT iq Hb3.out)) (by have:=Hlen.out;omega) (by have:=Hlen.out;omega) hsz ?_;intro v1 w1 hown1 hg hat;have oL:Below W0.heap.size W0 w1:=bG Hb3.out hg (fun g hk=>(CQ.out.lt g hk).1);clear hg hat;have vP:=avE hown1;clear hown1)
     go_roundw
     case rel => exact ⟨k+1,by omega,by go_num,by rw [avH hlt,List.flatMap_append,<- awm];simpa using vP.out,oL⟩
     case measure => simp [intOf];omega
    ·have hE:al.take k=al:=List.take_of_length_le Pe;have hown2:=CQ.out;rw [hE] at hown2;replace CQ:=avE hown2;clear hown2 hE;go_wp2;go_ret;exact ⟨_,rfl,bT iq Hb3.out,CQ.out.fG iq.size⟩
theorem ady (v:Value) (p:Pl) (w:World) (h:bQ w v p) (hl1:p.nodes.length<=1048576) :
  Calls Tryz.prog 125 #[v,.bool false] w (adw w (p.nodes.map (·.id))):=by
 obtain ⟨_,_,vf,al,rfl,hpa,⟨An,cn,rfl,hn1,hn2,hR⟩,⟨⟨Aa,ca,rfl,ha1,ha2,gV⟩,hV⟩,-⟩:=h;unfold maxLen at hn2 ha2;clear hpa;generalize p.nodes=l at *;have HV:=avE hV;clear hV;have jr:=avE gV;clear gV;have HR:=avE hR;clear hR;go_enter Tryz.func125,Tryz.ntmps125;go_wp2_with fail;obtain ⟨W0,hW0⟩:∃ W0:World,W0=w.alloc (.cells #[.slice An l.length cn,.slice Aa al.length ca,vf] 26):=⟨_,rfl⟩;have X1:ah W0 w.heap.size 26 #[.slice An l.length cn,.slice Aa al.length ca,vf]:=by rw [hW0];exact ah.made rfl _ _
 have iq:Below w.heap.size w W0:=by rw [hW0];exact bA (bR w) _
 have HX0:=avE X1;rw [<- hW0];clear hW0 X1;go_loopw [5,6] (fun s i wr=>∃ k:Nat,k<=l.length/\i=.int .i64 k/\Own wr W0.heap.size 3 1 dw s ((l.take k).map (·.id))/\Below W0.heap.size W0 wr) (fun _ i _=>l.length-(intOf i).toNat)
 case atStart => exact ⟨0,avK _,rfl,Own.nil _ _ _ _ _,bR W0⟩
 case round =>
  obtain ⟨k,hk,rfl,hown,hb⟩:=hrel;have Hb:=avE hb;have gU:=avE hown;clear hown;have hsz:=hb.size;have X1:ah wr w.heap.size 26 #[.slice An l.length cn,.slice Aa al.length ca,vf]:=HX0.out.keep hb;clear hb;obtain ⟨aS,aT,aU,aW,-,-,-⟩:=X1.aF;by_cases hlt:k<l.length
  ·obtain ⟨b,o,rfl,hlb,c0,c1,c2⟩:=(HR.out.mono (bT iq Hb.out)).nd hlt;have hlen:((l.take k).map (·.id)).length<=1048576:=by rw [avM,awk];omega
   have Hlen:=avE hlen;clear hlen;go_wp2_with
    (at_builtin
     refine iZ _ rfl (.tmp 19) (.tmp 26) _ rfl (base:=W0.heap.size) jR jB jT rfl (gU.out.alloc _) rfl (l2:=[l[k].id]) (Sl.UF (ah.made ars _ _)) ar0 ar0 arV ?_;intro v1 w1 hown1 hg hat;have oL:Below W0.heap.size W0 w1:=bG (bA Hb.out _) hg (fun g hk=>(gU.out.lt g hk).1);clear hg hat;have vP:=avE hown1;clear hown1)
   go_roundw
   case rel => exact ⟨k+1,by omega,by go_num,by rw [avH hlt,List.map_append];exact vP.out,oL⟩
   case measure => simp [intOf];omega
  ·have hE:l.take k=l:=List.take_of_length_le Pe;have hown2:=gU.out;rw [hE] at hown2;have PO:=avE hown2;clear hown2 hE;go_wp2_with fail;obtain ⟨wo,rfl⟩:∃ wo:World,wo=wr:=⟨_,rfl⟩;have Bo:=avE Hb.out;clear X1 aS aT aU aW hlt;go_loopw [5,7] (fun s i wr=>i=.int .i64 0/\Below W0.heap.size W0 wr/\Own wr W0.heap.size 3 1 dw s (l.map (·.id))) (fun _ i _=>0)
   case atStart => exact ⟨rfl,Bo.out,PO.out⟩
   case round =>
    obtain ⟨rfl,hb,hown5⟩:=hrel;have Hb4:=avE hb;have X1:ah wr w.heap.size 26 #[.slice An l.length cn,.slice Aa al.length ca,vf]:=HX0.out.keep hb;clear hb
    try clear aS
    try clear aT
    try clear aU
    try clear aW
    obtain ⟨aS,aT,aU,aW,-,-,-⟩:=X1.aF;by_cases h0:0<al.length
    all_goals
     have Zk:=avE hown5;clear hown5;go_wp2;go_ret;exact ⟨_,rfl,bT iq Hb4.out,Zk.out.fG iq.size⟩
theorem adz (v:Value) (p:Pl) (w:World) (h:bQ w v p) (hl1:p.aj.length<=1048576) :
  Calls Tryz.prog 125 #[v,.bool true] w (adw w (p.aj.map (·.id))):=by
 obtain ⟨_,_,vf,al,rfl,hpa,⟨An,cn,rfl,hn1,hn2,hR⟩,⟨⟨Aa,ca,rfl,ha1,ha2,gV⟩,hV⟩,-⟩:=h;unfold maxLen at hn2 ha2;rw [hpa] at hl1 ⊢;rw [avM] at hl1;rw [awc];clear hpa;generalize p.nodes=l at *;have HV:=avE hV;clear hV;have jr:=avE gV;clear gV;have HR:=avE hR;clear hR;go_enter Tryz.func125,Tryz.ntmps125;go_wp2_with fail;obtain ⟨W0,hW0⟩:∃ W0:World,W0=w.alloc (.cells #[.slice An l.length cn,.slice Aa al.length ca,vf] 26):=⟨_,rfl⟩;have X1:ah W0 w.heap.size 26 #[.slice An l.length cn,.slice Aa al.length ca,vf]:=by rw [hW0];exact ah.made rfl _ _
 have iq:Below w.heap.size w W0:=by rw [hW0];exact bA (bR w) _
 have HX0:=avE X1;rw [<- hW0];clear hW0 X1;go_loopw [5,6] (fun s i wr=>i=.int .i64 0/\Below W0.heap.size W0 wr/\s=.slice none 0 0) (fun _ i _=>0)
 case atStart => exact ⟨rfl,bR W0,rfl⟩
 case round =>
  obtain ⟨rfl,hb,hown5⟩:=hrel;have Hb4:=avE hb;have X1:ah wr w.heap.size 26 #[.slice An l.length cn,.slice Aa al.length ca,vf]:=HX0.out.keep hb;clear hb;obtain ⟨aS,aT,aU,aW,-,-,-⟩:=X1.aF;by_cases h0:0<l.length
  all_goals
   subst hown5;go_wp2_with fail;obtain ⟨wo,rfl⟩:∃ wo:World,wo=wr:=⟨_,rfl⟩;clear X1 aS aT aU aW h0;go_loopw [5,7] (fun s i wr=>∃ k:Nat,k<=al.length/\i=.int .i64 k/\Own wr W0.heap.size 3 1 dw s ((al.take k).map (·.1.id))/\Below W0.heap.size W0 wr) (fun _ i _=>al.length-(intOf i).toNat)
   case atStart => exact ⟨0,avK _,rfl,Own.nil _ _ _ _ _,Hb4.out⟩
   case round =>
    obtain ⟨k,hk,rfl,hown,hb⟩:=hrel;have Hb:=avE hb;have gU:=avE hown;clear hown;have hsz:=hb.size;have X1:ah wr w.heap.size 26 #[.slice An l.length cn,.slice Aa al.length ca,vf]:=HX0.out.keep hb;clear hb
    try clear aS
    try clear aT
    try clear aU
    try clear aW
    obtain ⟨aS,aT,aU,aW,-,-,-⟩:=X1.aF;by_cases hlt:k<al.length
    ·obtain ⟨b,o,rfl,hlb,c0,c1,c2,-,c4,c5⟩:=(jr.out.mono (bT iq Hb.out)).ar hlt;have hlen:((al.take k).map (·.1.id)).length<=1048576:=by rw [avM,awk];omega
     have Hlen:=avE hlen;clear hlen;go_wp2_with
      (at_builtin
       refine iZ _ rfl (.tmp 38) (.tmp 45) _ rfl (base:=W0.heap.size) jR jB jT rfl (gU.out.alloc _) rfl (l2:=[al[k].1.id]) (Sl.UF (ah.made ars _ _)) ar0 ar0 arV ?_;intro v1 w1 hown1 hg hat;have oL:Below W0.heap.size W0 w1:=bG (bA Hb.out _) hg (fun g hk=>(gU.out.lt g hk).1);clear hg hat;have vP:=avE hown1;clear hown1)
     go_roundw
     case rel => exact ⟨k+1,by omega,by go_num,by rw [avH hlt,List.map_append];exact vP.out,oL⟩
     case measure => simp [intOf];omega
    ·have hE:al.take k=al:=List.take_of_length_le Pe;have hown2:=gU.out;rw [hE] at hown2;have PO:=avE hown2;clear hown2 hE;go_wp2;go_ret;exact ⟨_,rfl,bT iq Hb.out,PO.out.fG iq.size⟩
end Go.Proofs.YtialfdomhoojiaaGreat
