import Derived.Test.YtialfdomhoojiaaGreatJ01
set_option linter.unusedSimpArgs false
set_option linter.unusedVariables false
namespace Go.Proofs.YtialfdomhoojiaaGreat
open Go.RowKit
def jO (p:Pt):Bool:=decide (p.x < -1048576) || decide (1048576<p.x) || decide (p.y < -1048576) || decide (1048576<p.y)
theorem abV (p:Pt):jO p = !fK p:=by
 rw [Bool.eq_iff_iff];simp only [jO,fK,Bool.or_eq_true,decide_eq_true_eq,Bool.not_eq_true',Bool.and_eq_false_iff,decide_eq_false_iff_not];omega
set_option maxHeartbeats 400000 in
theorem UR (p:Pt) (w:World):Calls Tryz.prog 222 #[.agg #[.int .i64 p.x,.int .i64 p.y]] w fun e w'=>e=.returned (.bool (jO p))/\Below w.heap.size w w':=by
 go_enter Tryz.func222,Tryz.ntmps222;go_wp2_with fail
 all_goals
  go_ret;refine ⟨aT (by unfold jO;first | rfl | (rw [Bool.eq_iff_iff];simp only [Bool.or_eq_true,decide_eq_true_eq,true_iff,Bool.false_eq_true,false_iff];done) | (rw [Bool.eq_iff_iff];simp only [Bool.or_eq_true,decide_eq_true_eq,true_iff,Bool.false_eq_true,false_iff];omega)),?_⟩
  repeat (first | with_reducible exact bR _ | with_reducible assumption | with_reducible refine bA ?_ _ | with_reducible refine bD ?_ | with_reducible refine bN ?_ _ | ((with_reducible refine bS ?_ ?_ _);rotate_left;(simp;try omega)) | ((with_reducible refine bT ?_ ?_);rotate_left;with_reducible assumption) | with_reducible refine bT ?_ (by assumption))
def Aj (p:Pl):Bool:=!(p.nodes.any (fun n=>jO n.pt)) && !(p.au.any fun a=>a.via.any jO)
set_option maxRecDepth 100000 in
set_option maxHeartbeats 1000000 in
theorem abW (v:Value) (p:Pl) (w:World) (h:dh w v p) :
  Calls Tryz.prog 171 #[v] w fun e w'=>e=.returned (.bool (Aj p))/\Below w.heap.size w w':=by
 obtain ⟨_,_,vf,al,rfl,hpa,⟨An,cn,rfl,hn1,hn2,hR⟩,⟨⟨Aa,ca,rfl,ha1,ha2,fO⟩,hV⟩,-⟩:=h;unfold maxLen at hn2 ha2;have hS:Aj p=(!(p.nodes.any (fun n=>jO n.pt)) && !(al.any fun a=>a.1.via.any jO)):=by
  rw [Aj,hpa,List.any_map];rfl
 rw [hS];clear hS hpa;generalize p.nodes=l at *;have HV:=Lib.hid hV;clear hV;have iV:=Lib.hid fO;clear fO;go_enter Tryz.func171,Tryz.ntmps171;go_wp2_with fail;go_loopw [11] (fun i wr=>∃ k:Nat,k<=l.length/\i=.int .i64 k/\Below w.heap.size w wr/\ah wr w.heap.size 26 #[.slice An l.length cn,.slice Aa al.length ca,vf]/\∀ j (hj:j<l.length),j<k->jO l[j].pt=false) (fun i _=>l.length-(intOf i).toNat)
 case atStart => exact ⟨0,Nat.zero_le _,rfl,bA (bR w) _,ah.made rfl _ _,fun j _ h=>by omega⟩
 case round =>
  obtain ⟨k,hk,rfl,hb,X1,hno⟩:=hrel;have Hb:=Lib.hid hb;have Hno:=Lib.hid hno;clear hb hno;obtain ⟨aZ,bf,bg,bK,-,-,-⟩:=X1.aJ;by_cases hlt:k<l.length
  ·obtain ⟨b,o,rfl,hlb,c0,c1,c2⟩:=(hR.mono Hb.out).nd hlt;have HR:=Lib.hid hR;clear hR;go_wp2_with fail;refine (UR l[k].pt _).mono ?_;rintro e w1 ⟨rfl,hb1⟩;have Bw:Below w.heap.size w w1:=bT (bA Hb.out _) hb1;replace X1:=(X1.alloc _).keep hb1;clear hb1 aZ bf bg bK c0 c1 c2
   cases he:jO l[k].pt
   ·go_wp2_with fail;go_roundw
    case rel => exact ⟨k+1,by omega,by go_num,Bw,X1,all_succ (p:=fun x=>jO x.pt=false) Hno.out hlt he⟩
    case measure => simp [intOf];omega
   ·have hf:=Lib.hid (Dv l (fun n=>jO n.pt) k hlt he);go_wp2_with fail;go_ret;exact ⟨aT (by rw [hf.out];rfl),Bw⟩
  ·have hf:=Lib.hid (Dx l (fun n=>jO n.pt) (fun j hj=>Hno.out j hj (by omega)));clear hR Hno;go_wp2_with fail;obtain ⟨wo,rfl⟩:∃ wo:World,wo=wr:=⟨_,rfl⟩;go_loopw [23] (fun i wr=>∃ k:Nat,k<=al.length/\i=.int .i64 k/\Below w.heap.size w wr/\∀ j (hj:j<al.length),j<k->al[j].1.via.any jO=false) (fun i _=>al.length-(intOf i).toNat)
   case atStart => exact ⟨0,Nat.zero_le _,rfl,Hb.out,fun j _ h=>by omega⟩
   case round =>
    clear X1 aZ bf bg bK Hb;obtain ⟨k,hk,rfl,hb,hno⟩:=hrel;have Hb:=Lib.hid hb;have Hno:=Lib.hid hno;clear hb hno;by_cases hlt:k<al.length
    ·obtain ⟨b,o,rfl,hlb,c0,c1,c2,c3,c4,c5⟩:=(iV.out.mono Hb.out).ar hlt;have hvk:=(HV.out k hlt);obtain ⟨Av,cv,hv,-⟩:=hvk;have hvk:=(HV.out k hlt);rw [hv] at c3 hvk;have wC:=Lib.hid hvk;clear hvk hv;go_wp2_with fail;refine (abT _ al[k].1.via jO _ (wC.out.mono (bA Hb.out _)) UR).mono ?_;rintro e w1 ⟨rfl,hb1⟩;have Bw:Below w.heap.size w w1:=bT (bA Hb.out _) hb1;clear hb1 c0 c1 c2 c3 c4 c5
     cases he:al[k].1.via.any jO
     ·go_wp2_with fail;go_roundw
      case rel => exact ⟨k+1,by omega,by go_num,Bw,all_succ (p:=fun x=>x.1.via.any jO=false) Hno.out hlt he⟩
      case measure => simp [intOf];omega
     ·have hf2:=Lib.hid (Dv al (fun a=>a.1.via.any jO) k hlt he);go_wp2_with fail;go_ret;exact ⟨aT (by rw [hf2.out,hf.out];rfl),Bw⟩
    ·have hf2:=Lib.hid (Dx al (fun a=>a.1.via.any jO) (fun j hj=>Hno.out j hj (by omega)));go_wp2_with fail;go_ret;exact ⟨aT (by rw [hf2.out,hf.out];rfl),Hb.out⟩
def abX (w:World) (l m:List Int) (e:Ending) (w':World):Prop :=
 ∃ v u,e=.returned (.tuple #[v,u])/\Below w.heap.size w w'/\Own w' w.heap.size 3 1 dX v l/\Own w' w.heap.size 3 1 dX u m
theorem Sl.UU {w:World} {g:Nat} {t:TypeId} {x:Int} (h:ah w g t #[.int .i64 x]):Sl w (.slice (some ⟨g,0,none⟩) 1 1) ([x] : List Int).length (([x] : List Int).flatMap dX) :=
 Sl.lit (n:=1) h rfl (eG (by omega))
set_option maxRecDepth 100000 in
set_option maxHeartbeats 1000000 in
theorem abY (v:Value) (p:Pl) (w:World) (h:dh w v p) (hl1:p.nodes.length<=4096) (hl2:p.au.length<=4096) :
  Calls Tryz.prog 168 #[v] w (abX w (p.nodes.map (·.id)) (p.au.map (·.id))):=by
 obtain ⟨_,_,vf,al,rfl,hpa,⟨An,cn,rfl,hn1,hn2,hR⟩,⟨⟨Aa,ca,rfl,ha1,ha2,fO⟩,hV⟩,-⟩:=h;unfold maxLen at hn2 ha2;rw [hpa] at hl2 ⊢;rw [List.length_map] at hl2;rw [List.map_map];clear hpa;generalize p.nodes=l at *;have HV:=Lib.hid hV;clear hV;have iV:=Lib.hid fO;clear fO;go_enter Tryz.func168,Tryz.ntmps168;go_wp2_with fail;obtain ⟨W0,hW0⟩:∃ W0:World,W0=w.alloc (.cells #[.slice An l.length cn,.slice Aa al.length ca,vf] 26):=⟨_,rfl⟩;have X1:ah W0 w.heap.size 26 #[.slice An l.length cn,.slice Aa al.length ca,vf]:=by rw [hW0];exact ah.made rfl _ _
 have jf:Below w.heap.size w W0:=by rw [hW0];exact bA (bR w) _
 rw [<- hW0];clear hW0;go_loopw [2,11] (fun s i wr=>∃ k:Nat,k<=l.length/\i=.int .i64 k/\Own wr W0.heap.size 3 1 dX s ((l.take k).map (·.id))/\Below W0.heap.size W0 wr) (fun _ i _=>l.length-(intOf i).toNat)
 case atStart => exact ⟨0,Nat.zero_le _,rfl,Own.nil _ _ _ _ _,bR W0⟩
 case round =>
  obtain ⟨k,hk,rfl,hown,hb⟩:=hrel;have Hb:=Lib.hid hb;have fH:=Lib.hid hown;clear hown;have hsz:=hb.size;clear hb;by_cases hlt:k<l.length
  ·obtain ⟨b,o,rfl,hlb,c0,c1,c2⟩:=(hR.mono (bT jf Hb.out)).nd hlt;have HR:=Lib.hid hR;clear hR;have hlen:((l.take k).map (·.id)).length<=4096:=by rw [List.length_map,List.length_take];omega
   have Hlen:=Lib.hid hlen;clear hlen;go_wp2_with
    (at_builtin
     refine jX _ rfl (.tmp 15) (.tmp 18) _ rfl (base:=W0.heap.size) uQ qc uS rfl ((fH.out.alloc _).alloc _) rfl (l2:=[l[k].id]) (Sl.UU (ah.made (by simp) _ _)) (by have:=Hlen.out;simp only [List.length_cons,List.length_nil];omega) (by have:=Hlen.out;simp only [List.length_cons,List.length_nil];omega) (by simp;omega) ?_;intro v1 w1 hown1 hg hat;have nS:Below W0.heap.size W0 w1:=bG (bA (bA Hb.out _) _) hg (fun g hk=>(fH.out.lt g hk).1);clear hg hat;have tV:=Lib.hid hown1;clear hown1)
   go_roundw
   case rel => exact ⟨k+1,by omega,by go_num,by rw [List.take_succ_eq_append_getElem hlt,List.map_append];exact tV.out,nS⟩
   case measure => simp [intOf];omega
  ·have hE:l.take k=l:=List.take_of_length_le (by omega);have hown2:=fH.out;rw [hE] at hown2;replace fH:=Lib.hid hown2;have FI:=X1.keep Hb.out;have Jl:=bT jf Hb.out;clear hR hown2 hE X1
   try clear FK
   try clear FM
   try clear FN
   try clear FP
   try clear abZ
   try clear ab1
   try clear ab2
   obtain ⟨FK,FM,FN,FP,-,-,-⟩:=FI.aJ;go_wp2_with fail;obtain ⟨wo,rfl⟩:∃ wo:World,wo=wr:=⟨_,rfl⟩;clear FK FM FN FP;go_loopw [3,24] (fun s i wr=>∃ k:Nat,k<=al.length/\i=.int .i64 k/\Own wr wo.heap.size 3 1 dX s ((al.take k).map (·.1.id))/\Below wo.heap.size wo wr) (fun _ i _=>al.length-(intOf i).toNat)
   case atStart => exact ⟨0,Nat.zero_le _,rfl,Own.nil _ _ _ _ _,bR wo⟩
   case round =>
    obtain ⟨k,hk,rfl,hown,hb⟩:=hrel;have Hb3:=Lib.hid hb;have tX:=Lib.hid hown;clear hown;have hsz:=hb.size;clear hb;by_cases hlt:k<al.length
    ·obtain ⟨b,o,rfl,hlb,c0,c1,c2,c3,c4,c5⟩:=(iV.out.mono (bT Jl Hb3.out)).ar hlt;obtain ⟨Av,cv,hv,-⟩:=HV.out k hlt;rw [hv] at c3;clear hv;have hlen:((al.take k).map (·.1.id)).length<=4096:=by rw [List.length_map,List.length_take];omega
     have Hlen:=Lib.hid hlen;clear hlen;go_wp2_with
      (at_builtin
       refine jX _ rfl (.tmp 28) (.tmp 31) _ rfl (base:=wo.heap.size) uQ qc uS rfl ((tX.out.alloc _).alloc _) rfl (l2:=[al[k].1.id]) (Sl.UU (ah.made (by simp) _ _)) (by have:=Hlen.out;simp only [List.length_cons,List.length_nil];omega) (by have:=Hlen.out;simp only [List.length_cons,List.length_nil];omega) (by simp;omega) ?_;intro v1 w1 hown1 hg hat;have nS:Below wo.heap.size wo w1:=bG (bA (bA Hb3.out _) _) hg (fun g hk=>(tX.out.lt g hk).1);clear hg hat;have tV:=Lib.hid hown1;clear hown1)
     go_roundw
     case rel => exact ⟨k+1,by omega,by go_num,by rw [List.take_succ_eq_append_getElem hlt,List.map_append];exact tV.out,nS⟩
     case measure => simp [intOf];omega
    ·have hE:al.take k=al:=List.take_of_length_le (by omega);have hown2:=tX.out;rw [hE] at hown2;replace tX:=Lib.hid hown2;clear hown2 hE;go_wp2_with fail;go_ret2;exact ⟨_,_,rfl,bT Jl Hb3.out,(fH.out.keep Hb3.out).fM jf.size,tX.out.fM Jl.size⟩
def oU (p:Pl):List Pt:=p.nodes.map (·.pt)++p.au.flatMap (·.via)
theorem Jm {α β:Type} (l:List α) (f:α->List β) (k:Nat):((l.take k).flatMap f).length<=(l.flatMap f).length:=by
 conv=>rhs;rw [<- List.take_append_drop k l,List.flatMap_append,List.length_append]
 omega
theorem ab3 {α β:Type} (l:List α) (f:α->List β) (k:Nat) (hk:k<l.length):((l.take k).flatMap f).length+(f l[k]).length<=(l.flatMap f).length:=by
 have:=Jm l f (k+1)
 rw [List.take_succ_eq_append_getElem hk,List.flatMap_append,List.length_append] at this;simpa using this
theorem bU.one {w:World} {g:Nat} {t:TypeId} {x:Pt} (h:ah w g t #[.int .i64 x.x,.int .i64 x.y]):Sl w (.slice (some ⟨g,0,none⟩) 1 1) ([x] : List Pt).length (([x] : List Pt).flatMap dG) :=
 Sl.lit (n:=1) h rfl (eG (by omega))
def UW (w:World) (l:List Pt) (e:Ending) (w':World):Prop :=
 ∃ v,e=.returned v/\Below w.heap.size w w'/\Own w' w.heap.size 39 2 dG v l
set_option maxRecDepth 100000 in
set_option maxHeartbeats 1000000 in
theorem ab4 (v:Value) (p:Pl) (w:World) (h:dh w v p) (hl1:p.nodes.length<=1048576) (hl2:(p.au.flatMap (·.via)).length<=1048576) :
  Calls Tryz.prog 97 #[v] w (UW w (oU p)):=by
 obtain ⟨_,_,vf,al,rfl,hpa,⟨An,cn,rfl,hn1,hn2,hR⟩,⟨⟨Aa,ca,rfl,ha1,ha2,fO⟩,hV⟩,-⟩:=h;unfold maxLen at hn2 ha2;unfold oU;have hfm:p.au.flatMap (·.via)=al.flatMap (fun a=>a.1.via):=by rw [hpa,List.flatMap_map]
 rw [hfm] at hl2 ⊢;clear hpa hfm;generalize p.nodes=l at *;have HV:=Lib.hid hV;clear hV;have iV:=Lib.hid fO;clear fO;go_enter Tryz.func97,Tryz.ntmps97;go_wp2_with fail;obtain ⟨W0,hW0⟩:∃ W0:World,W0=w.alloc (.cells #[.slice An l.length cn,.slice Aa al.length ca,vf] 26):=⟨_,rfl⟩;have X1:ah W0 w.heap.size 26 #[.slice An l.length cn,.slice Aa al.length ca,vf]:=by rw [hW0];exact ah.made rfl _ _
 have jf:Below w.heap.size w W0:=by rw [hW0];exact bA (bR w) _
 have HX0:=Lib.hid X1;rw [<- hW0];clear hW0;go_loopw [3,4] (fun s i wr=>∃ k:Nat,k<=l.length/\i=.int .i64 k/\Own wr W0.heap.size 39 2 dG s ((l.take k).map (·.pt))/\Below W0.heap.size W0 wr) (fun _ i _=>l.length-(intOf i).toNat)
 case atStart => exact ⟨0,Nat.zero_le _,rfl,Own.nil _ _ _ _ _,bR W0⟩
 case round =>
  obtain ⟨k,hk,rfl,hown,hb⟩:=hrel;have Hb:=Lib.hid hb;have fH:=Lib.hid hown;have FI:=X1.keep hb;clear hown;have hsz:=hb.size;clear hb X1
  try clear FK
  try clear FM
  try clear FN
  try clear FP
  try clear abZ
  try clear ab1
  try clear ab2
  obtain ⟨FK,FM,FN,FP,-,-,-⟩:=FI.aJ;by_cases hlt:k<l.length
  ·obtain ⟨b,o,rfl,hlb,c0,c1,c2⟩:=(hR.mono (bT jf Hb.out)).nd hlt;have HR:=Lib.hid hR;clear hR;have hlen:((l.take k).map (·.pt)).length<=1048576:=by rw [List.length_map,List.length_take];omega
   have Hlen:=Lib.hid hlen;clear hlen;go_wp2_with
    (at_builtin
     refine jX _ rfl (.tmp 13) (.tmp 20) _ rfl (base:=W0.heap.size) kP iU kQ rfl (fH.out.alloc _) rfl (l2:=[l[k].pt]) (bU.one (ah.made (by simp) _ _)) (by have:=Hlen.out;simp only [List.length_cons,List.length_nil];omega) (by have:=Hlen.out;simp only [List.length_cons,List.length_nil];omega) (by simp;omega) ?_;intro v1 w1 hown1 hg hat;have nS:Below W0.heap.size W0 w1:=bG (bA Hb.out _) hg (fun g hk=>(fH.out.lt g hk).1);clear hg hat;have tV:=Lib.hid hown1;clear hown1)
   go_roundw
   case rel => exact ⟨k+1,by omega,by go_num,by rw [List.take_succ_eq_append_getElem hlt,List.map_append];exact tV.out,nS⟩
   case measure => simp [intOf];omega
  ·have hE:l.take k=l:=List.take_of_length_le (by omega);have hown2:=fH.out;rw [hE] at hown2;replace fH:=Lib.hid hown2;have Jl:=bT jf Hb.out;have Bo:=Lib.hid Hb.out;clear hR hown2 hE;go_wp2_with fail;clear FK FM FN FP;have X1:=FI;clear FI;obtain ⟨wo,rfl⟩:∃ wo:World,wo=wr:=⟨_,rfl⟩;go_loopw [3,5] (fun s i wr=>∃ k:Nat,k<=al.length/\i=.int .i64 k/\Own wr W0.heap.size 39 2 dG s (l.map (·.pt)++(al.take k).flatMap (fun a=>a.1.via))/\Below W0.heap.size W0 wr) (fun _ i _=>al.length-(intOf i).toNat)
   case atStart => exact ⟨0,Nat.zero_le _,rfl,by simpa using fH.out,Bo.out⟩
   case round =>
    obtain ⟨k,hk,rfl,hown,hb⟩:=hrel;have Hb3:=Lib.hid hb;have tX:=Lib.hid hown;clear hown X1;have hsz:=hb.size;have X1:ah wr w.heap.size 26 #[.slice An l.length cn,.slice Aa al.length ca,vf]:=HX0.out.keep hb;clear hb;obtain ⟨aZ,bf,bg,bK,-,-,-⟩:=X1.aJ;by_cases hlt:k<al.length
    ·obtain ⟨b,o,rfl,hlb,c0,c1,c2,c3,c4,c5⟩:=(iV.out.mono (bT jf Hb3.out)).ar hlt;have hvk:=(HV.out k hlt);obtain ⟨Av,cv,hv,-⟩:=hvk;have hvk:=(HV.out k hlt);rw [hv] at c3 hvk;have wC:=Lib.hid hvk;clear hvk hv;have hlen:=ab3 al (fun a=>a.1.via) k hlt;have hlen2:(l.map (·.pt)++(al.take k).flatMap (fun a=>a.1.via)).length+al[k].1.via.length<=2097152:=by rw [List.length_append,List.length_map];omega
     have Hlen:=Lib.hid hlen2;clear hlen hlen2;go_wp2_with
      (at_builtin
       refine jX _ rfl (.tmp 29) (.tmp 35) _ rfl (base:=W0.heap.size) kP iU kQ rfl tX.out rfl (l2:=al[k].1.via) (wC.out.mono (bT jf Hb3.out)) (by have:=Hlen.out;omega) (by have:=Hlen.out;omega) hsz ?_;intro v1 w1 hown1 hg hat;have nS:Below W0.heap.size W0 w1:=bG Hb3.out hg (fun g hk=>(tX.out.lt g hk).1);clear hg hat;have tV:=Lib.hid hown1;clear hown1)
     go_roundw
     case rel => exact ⟨k+1,by omega,by go_num,by rw [List.take_succ_eq_append_getElem hlt,List.flatMap_append,<- List.append_assoc];simpa using tV.out,nS⟩
     case measure => simp [intOf];omega
    ·have hE:al.take k=al:=List.take_of_length_le (by omega);have hown2:=tX.out;rw [hE] at hown2;replace tX:=Lib.hid hown2;clear hown2 hE;go_wp2_with fail;go_ret;exact ⟨_,rfl,bT jf Hb3.out,tX.out.fM jf.size⟩
end Go.Proofs.YtialfdomhoojiaaGreat
