import Derived.Test.YtialfdomhoojiaaGreatJ01
set_option linter.unusedSimpArgs false
set_option linter.unusedVariables false
namespace Go.Proofs.YtialfdomhoojiaaGreat
open Go.RowKit
def oI (p:Pt):Bool:=decide (p.x < -1048576) || decide (1048576<p.x) || decide (p.y < -1048576) || decide (1048576<p.y)
theorem akv (p:Pt):oI p = !lZ p:=by
 rw [Bool.eq_iff_iff];simp only [oI,lZ,Bool.or_eq_true,decide_eq_true_eq,Bool.not_eq_true',Bool.and_eq_false_iff,decide_eq_false_iff_not];omega
set_option maxHeartbeats 400000 in
theorem ac2 (p:Pt) (w:World):Calls Tryz.prog 222 #[.agg #[.int .i64 p.x,.int .i64 p.y]] w fun e w'=>e=.returned (.bool (oI p))/\Below w.heap.size w w':=by
 go_enter Tryz.func222,Tryz.ntmps222;go_wp2_with fail
 all_goals
  go_ret;refine ⟨eu (by unfold oI;first | rfl | (rw [Bool.eq_iff_iff];simp only [Bool.or_eq_true,decide_eq_true_eq,true_iff,Bool.false_eq_true,false_iff];done) | (rw [Bool.eq_iff_iff];simp only [Bool.or_eq_true,decide_eq_true_eq,true_iff,Bool.false_eq_true,false_iff];omega)),?_⟩
  repeat (first | with_reducible exact bR _ | with_reducible assumption | with_reducible refine bA ?_ _ | with_reducible refine bD ?_ | with_reducible refine bN ?_ _ | ((with_reducible refine bS ?_ ?_ _);rotate_left;(simp;try omega)) | ((with_reducible refine bT ?_ ?_);rotate_left;with_reducible assumption) | with_reducible refine bT ?_ (by assumption))
def Iy (p:Pl):Bool:=!(p.nodes.any (fun n=>oI n.pt)) && !(p.ah.any fun a=>a.via.any oI)
set_option maxRecDepth 100000 in
set_option maxHeartbeats 1000000 in
theorem akw (v:Value) (p:Pl) (w:World) (h:dS w v p) :
  Calls Tryz.prog 171 #[v] w fun e w'=>e=.returned (.bool (Iy p))/\Below w.heap.size w w':=by
 obtain ⟨_,_,vf,al,rfl,hpa,⟨An,cn,rfl,hn1,hn2,hR⟩,⟨⟨Aa,ca,rfl,ha1,ha2,jy⟩,hV⟩,-⟩:=h;unfold maxLen at hn2 ha2;have hS:Iy p=(!(p.nodes.any (fun n=>oI n.pt)) && !(al.any fun a=>a.1.via.any oI)):=by
  rw [Iy,hpa,List.any_map];rfl
 rw [hS];clear hS hpa;generalize p.nodes=l at *;have HV:=Lib.hid hV;clear hV;have lK:=Lib.hid jy;clear jy;go_enter Tryz.func171,Tryz.ntmps171;go_wp2_with fail;go_loopw [11] (fun i wr=>∃ k:Nat,k<=l.length/\i=.int .i64 k/\Below w.heap.size w wr/\aj wr w.heap.size 26 #[.slice An l.length cn,.slice Aa al.length ca,vf]/\∀ j (hj:j<l.length),j<k->oI l[j].pt=false) (fun i _=>l.length-(intOf i).toNat)
 case atStart => exact ⟨0,Nat.zero_le _,rfl,bA (bR w) _,aj.made rfl _ _,fun j _ h=>by omega⟩
 case round =>
  obtain ⟨k,hk,rfl,hb,X1,hno⟩:=hrel;have Hb:=Lib.hid hb;have Hno:=Lib.hid hno;clear hb hno;obtain ⟨aO,aP,aS,aT,-,-,-⟩:=X1.aY;by_cases hlt:k<l.length
  ·obtain ⟨b,o,rfl,hlb,c0,c1,c2⟩:=(hR.mono Hb.out).nd hlt;have HR:=Lib.hid hR;clear hR;go_wp2_with fail;refine (ac2 l[k].pt _).mono ?_;rintro e w1 ⟨rfl,hb1⟩;have Bw:Below w.heap.size w w1:=bT (bA Hb.out _) hb1;replace X1:=(X1.alloc _).keep hb1;clear hb1 aO aP aS aT c0 c1 c2
   cases he:oI l[k].pt
   ·go_wp2_with fail;go_roundw
    case rel => exact ⟨k+1,by omega,by go_num,Bw,X1,all_succ (p:=fun x=>oI x.pt=false) Hno.out hlt he⟩
    case measure => simp [intOf];omega
   ·have hf:=Lib.hid (Iq l (fun n=>oI n.pt) k hlt he);go_wp2_with fail;go_ret;exact ⟨eu (by rw [hf.out];rfl),Bw⟩
  ·have hf:=Lib.hid (Ir l (fun n=>oI n.pt) (fun j hj=>Hno.out j hj (by omega)));clear hR Hno;go_wp2_with fail;obtain ⟨wo,rfl⟩:∃ wo:World,wo=wr:=⟨_,rfl⟩;go_loopw [23] (fun i wr=>∃ k:Nat,k<=al.length/\i=.int .i64 k/\Below w.heap.size w wr/\∀ j (hj:j<al.length),j<k->al[j].1.via.any oI=false) (fun i _=>al.length-(intOf i).toNat)
   case atStart => exact ⟨0,Nat.zero_le _,rfl,Hb.out,fun j _ h=>by omega⟩
   case round =>
    clear X1 aO aP aS aT Hb;obtain ⟨k,hk,rfl,hb,hno⟩:=hrel;have Hb:=Lib.hid hb;have Hno:=Lib.hid hno;clear hb hno;by_cases hlt:k<al.length
    ·obtain ⟨b,o,rfl,hlb,c0,c1,c2,c3,c4,c5⟩:=(lK.out.mono Hb.out).ar hlt;have hvk:=(HV.out k hlt);obtain ⟨Av,cv,hv,-⟩:=hvk;have hvk:=(HV.out k hlt);rw [hv] at c3 hvk;have Oq:=Lib.hid hvk;clear hvk hv;go_wp2_with fail;refine (ako _ al[k].1.via oI _ (Oq.out.mono (bA Hb.out _)) ac2).mono ?_;rintro e w1 ⟨rfl,hb1⟩;have Bw:Below w.heap.size w w1:=bT (bA Hb.out _) hb1;clear hb1 c0 c1 c2 c3 c4 c5
     cases he:al[k].1.via.any oI
     ·go_wp2_with fail;go_roundw
      case rel => exact ⟨k+1,by omega,by go_num,Bw,all_succ (p:=fun x=>x.1.via.any oI=false) Hno.out hlt he⟩
      case measure => simp [intOf];omega
     ·have hf2:=Lib.hid (Iq al (fun a=>a.1.via.any oI) k hlt he);go_wp2_with fail;go_ret;exact ⟨eu (by rw [hf2.out,hf.out];rfl),Bw⟩
    ·have hf2:=Lib.hid (Ir al (fun a=>a.1.via.any oI) (fun j hj=>Hno.out j hj (by omega)));go_wp2_with fail;go_ret;exact ⟨eu (by rw [hf2.out,hf.out];rfl),Hb.out⟩
def akx (w:World) (l m:List Int) (e:Ending) (w':World):Prop :=
 ∃ v u,e=.returned (.tuple #[v,u])/\Below w.heap.size w w'/\Own w' w.heap.size 3 1 eU v l/\Own w' w.heap.size 3 1 eU u m
theorem Sl.ac3 {w:World} {g:Nat} {t:TypeId} {x:Int} (h:aj w g t #[.int .i64 x]):Sl w (.slice (some ⟨g,0,none⟩) 1 1) ([x] : List Int).length (([x] : List Int).flatMap eU) :=
 Sl.lit (n:=1) h rfl (fQ (by omega))
set_option maxRecDepth 100000 in
set_option maxHeartbeats 1000000 in
theorem aky (v:Value) (p:Pl) (w:World) (h:dS w v p) (hl1:p.nodes.length<=4096) (hl2:p.ah.length<=4096) :
  Calls Tryz.prog 168 #[v] w (akx w (p.nodes.map (·.id)) (p.ah.map (·.id))):=by
 obtain ⟨_,_,vf,al,rfl,hpa,⟨An,cn,rfl,hn1,hn2,hR⟩,⟨⟨Aa,ca,rfl,ha1,ha2,jy⟩,hV⟩,-⟩:=h;unfold maxLen at hn2 ha2;rw [hpa] at hl2 ⊢;rw [List.length_map] at hl2;rw [List.map_map];clear hpa;generalize p.nodes=l at *;have HV:=Lib.hid hV;clear hV;have lK:=Lib.hid jy;clear jy;go_enter Tryz.func168,Tryz.ntmps168;go_wp2_with fail;obtain ⟨W0,hW0⟩:∃ W0:World,W0=w.alloc (.cells #[.slice An l.length cn,.slice Aa al.length ca,vf] 26):=⟨_,rfl⟩;have X1:aj W0 w.heap.size 26 #[.slice An l.length cn,.slice Aa al.length ca,vf]:=by rw [hW0];exact aj.made rfl _ _
 have vV:Below w.heap.size w W0:=by rw [hW0];exact bA (bR w) _
 rw [<- hW0];clear hW0;go_loopw [2,11] (fun s i wr=>∃ k:Nat,k<=l.length/\i=.int .i64 k/\Own wr W0.heap.size 3 1 eU s ((l.take k).map (·.id))/\Below W0.heap.size W0 wr) (fun _ i _=>l.length-(intOf i).toNat)
 case atStart => exact ⟨0,Nat.zero_le _,rfl,Own.nil _ _ _ _ _,bR W0⟩
 case round =>
  obtain ⟨k,hk,rfl,hown,hb⟩:=hrel;have Hb:=Lib.hid hb;have kU:=Lib.hid hown;clear hown;have hsz:=hb.size;clear hb;by_cases hlt:k<l.length
  ·obtain ⟨b,o,rfl,hlb,c0,c1,c2⟩:=(hR.mono (bT vV Hb.out)).nd hlt;have HR:=Lib.hid hR;clear hR;have hlen:((l.take k).map (·.id)).length<=4096:=by rw [List.length_map,List.length_take];omega
   have Hlen:=Lib.hid hlen;clear hlen;go_wp2_with
    (at_builtin
     refine lq _ rfl (.tmp 15) (.tmp 18) _ rfl (base:=W0.heap.size) zQ xC zS rfl ((kU.out.alloc _).alloc _) rfl (l2:=[l[k].id]) (Sl.ac3 (aj.made (by simp) _ _)) (by have:=Hlen.out;simp only [List.length_cons,List.length_nil];omega) (by have:=Hlen.out;simp only [List.length_cons,List.length_nil];omega) (by simp;omega) ?_;intro v1 w1 hown1 hg hat;have zU:Below W0.heap.size W0 w1:=bG (bA (bA Hb.out _) _) hg (fun g hk=>(kU.out.lt g hk).1);clear hg hat;have Iz:=Lib.hid hown1;clear hown1)
   go_roundw
   case rel => exact ⟨k+1,by omega,by go_num,by rw [List.take_succ_eq_append_getElem hlt,List.map_append];exact Iz.out,zU⟩
   case measure => simp [intOf];omega
  ·have hE:l.take k=l:=List.take_of_length_le (by omega);have hown2:=kU.out;rw [hE] at hown2;replace kU:=Lib.hid hown2;have X1':=X1.keep Hb.out;have YE:=bT vV Hb.out;clear hR hown2 hE X1
   try clear ac4
   try clear ac5
   try clear ac6
   try clear ac7
   try clear auO
   try clear auP
   try clear auQ
   obtain ⟨ac4,ac5,ac6,ac7,-,-,-⟩:=X1'.aY;go_wp2_with fail;obtain ⟨wo,rfl⟩:∃ wo:World,wo=wr:=⟨_,rfl⟩;clear ac4 ac5 ac6 ac7;go_loopw [3,24] (fun s i wr=>∃ k:Nat,k<=al.length/\i=.int .i64 k/\Own wr wo.heap.size 3 1 eU s ((al.take k).map (·.1.id))/\Below wo.heap.size wo wr) (fun _ i _=>al.length-(intOf i).toNat)
   case atStart => exact ⟨0,Nat.zero_le _,rfl,Own.nil _ _ _ _ _,bR wo⟩
   case round =>
    obtain ⟨k,hk,rfl,hown,hb⟩:=hrel;have Hb3:=Lib.hid hb;have Ou:=Lib.hid hown;clear hown;have hsz:=hb.size;clear hb;by_cases hlt:k<al.length
    ·obtain ⟨b,o,rfl,hlb,c0,c1,c2,c3,c4,c5⟩:=(lK.out.mono (bT YE Hb3.out)).ar hlt;obtain ⟨Av,cv,hv,-⟩:=HV.out k hlt;rw [hv] at c3;clear hv;have hlen:((al.take k).map (·.1.id)).length<=4096:=by rw [List.length_map,List.length_take];omega
     have Hlen:=Lib.hid hlen;clear hlen;go_wp2_with
      (at_builtin
       refine lq _ rfl (.tmp 28) (.tmp 31) _ rfl (base:=wo.heap.size) zQ xC zS rfl ((Ou.out.alloc _).alloc _) rfl (l2:=[al[k].1.id]) (Sl.ac3 (aj.made (by simp) _ _)) (by have:=Hlen.out;simp only [List.length_cons,List.length_nil];omega) (by have:=Hlen.out;simp only [List.length_cons,List.length_nil];omega) (by simp;omega) ?_;intro v1 w1 hown1 hg hat;have zU:Below wo.heap.size wo w1:=bG (bA (bA Hb3.out _) _) hg (fun g hk=>(Ou.out.lt g hk).1);clear hg hat;have Iz:=Lib.hid hown1;clear hown1)
     go_roundw
     case rel => exact ⟨k+1,by omega,by go_num,by rw [List.take_succ_eq_append_getElem hlt,List.map_append];exact Iz.out,zU⟩
     case measure => simp [intOf];omega
    ·have hE:al.take k=al:=List.take_of_length_le (by omega);have hown2:=Ou.out;rw [hE] at hown2;replace Ou:=Lib.hid hown2;clear hown2 hE;go_wp2_with fail;go_ret2;exact ⟨_,_,rfl,bT YE Hb3.out,(kU.out.keep Hb3.out).jG vV.size,Ou.out.jG YE.size⟩
def Ad (p:Pl):List Pt:=p.nodes.map (·.pt)++p.ah.flatMap (·.via)
theorem ac8 {α β:Type} (l:List α) (f:α->List β) (k:Nat):((l.take k).flatMap f).length<=(l.flatMap f).length:=by
 conv=>rhs;rw [<- List.take_append_drop k l,List.flatMap_append,List.length_append]
 omega
theorem gW.one {w:World} {g:Nat} {t:TypeId} {x:Pt} (h:aj w g t #[.int .i64 x.x,.int .i64 x.y]):Sl w (.slice (some ⟨g,0,none⟩) 1 1) ([x] : List Pt).length (([x] : List Pt).flatMap jm) :=
 Sl.lit (n:=1) h rfl (fQ (by omega))
def akz (w:World) (l:List Pt) (e:Ending) (w':World):Prop :=
 ∃ v,e=.returned v/\Below w.heap.size w w'/\Own w' w.heap.size 39 2 jm v l
end Go.Proofs.YtialfdomhoojiaaGreat
