import Derived.Test.YtpempeioeiaijaaGreatJ01
set_option linter.unusedSimpArgs false
set_option linter.unusedVariables false
set_option maxRecDepth 100000
set_option maxHeartbeats 1000000
namespace Go.Proofs.YtpempeioeiaijaaGreat
open Go.RowKit Tryz
def MV (p:Pt):Bool:=decide (p.x < -1048576) || decide (1048576<p.x) || decide (p.y < -1048576) || decide (1048576<p.y)
theorem ap1 (p:Pt):MV p = !GL p:=by
 rw [Jh];simp only [MV,GL,Ir,Dq,QM,acX,JH];omega
theorem ai0 (p:Pt) (w:World):Calls prog 91 #[.agg #[.int .i64 p.x,.int .i64 p.y]] w fun e w'=>e=.returned (.bool (MV p))/\AU w w':=by
 go_enter func91,ntmps91;go_wp2_with fail
 all_goals
  go_ret;refine ⟨CP (by unfold MV;first | rfl | (rw [Jh];simp only [Ir,Dq,true_iff,QL,false_iff];done) | (rw [Jh];simp only [Ir,Dq,true_iff,QL,false_iff];omega)),?_⟩;exact Dy
def gW (p:Pl):Bool:=!(p.nodes.any (fun n=>MV n.pt)) && !(p.AQ.any fun a=>a.via.any MV)
theorem ap2 (v:Value) (p:Pl) (w:World) (h:D6 w v p) :
  Calls prog 49 #[v] w fun e w'=>e=.returned (.bool (gW p))/\AU w w':=by
 obtain ⟨_,_,vf,al,rfl,hpa,⟨An,cn,rfl,hn1,hn2,hR⟩,⟨⟨Aa,ca,rfl,ha1,ha2,FT⟩,hV⟩,-⟩:=h;unfold maxLen at hn2 ha2;have hS:gW p=(!(p.nodes.any (fun n=>MV n.pt)) && !(al.any fun a=>a.1.via.any MV)):=by
  rw [gW,hpa,XW];rfl
 rw [hS];clear hS hpa;generalize p.nodes=l at *;have HV:=AB hV;clear hV;have Ij:=AB FT;clear FT;go_enter func49,ntmps49;go_wp2_with fail;go_loopw [11] (fun i wr=>∃ k:Nat,k<=l.length/\i=.int .i64 k/\AU w wr/\AO wr w.heap.size 34 #[.slice An l.length cn,.slice Aa al.length ca,vf]/\∀ j (hj:j<l.length),j<k->MV l[j].pt=false) (fun i _=>l.length-(intOf i).toNat)
 case atStart => exact ⟨0,BX _,rfl,bA (bR w) _,AO.made rfl _ _,fun j _ h=>AA⟩
 case round =>
  obtain ⟨k,hk,rfl,hb,X1,hno⟩:=hrel;have Hb:=AB hb;have Hno:=AB hno;clear hb hno;obtain ⟨BJ,BK,BL,BQ,-⟩:=X1.Az;by_cases hlt:k<l.length
  ·obtain ⟨b,o,rfl,hlb,c0,c1,c2⟩:=(hR.mono Hb.1).nd hlt;clear hR;go_wp2_with fail;refine (ai0 l[k].pt _).mono ?_;rintro e w1 ⟨rfl,hb1⟩;have Bw:AU w w1:=bT (bA Hb.1 _) hb1;replace X1:=(X1.alloc _).keep hb1;clear hb1 BJ BK BL BQ c0 c1 c2
   cases he:MV l[k].pt
   ·go_wp2;go_roundw
    case rel => exact ⟨k+1,AA,BG,Bw,X1,all_succ (p:=fun x=>MV x.pt=false) Hno.1 hlt he⟩
    case measure => exact BH
   ·have hf:=AB (QX l (fun n=>MV n.pt) k hlt he);go_wp2;go_ret;exact ⟨CP (by rw [hf.1];rfl),Bw⟩
  ·have hf:=AB (SS l (fun n=>MV n.pt) (fun j hj=>Hno.1 j hj AA));clear hR Hno;go_wp2_with fail;obtain ⟨wo,rfl⟩:=BR wr;go_loopw [23] (fun i wr=>∃ k:Nat,k<=al.length/\i=.int .i64 k/\AU w wr/\∀ j (hj:j<al.length),j<k->al[j].1.via.any MV=false) (fun i _=>al.length-(intOf i).toNat)
   case atStart => exact ⟨0,BX _,rfl,Hb.1,fun j _ h=>AA⟩
   case round =>
    clear X1 BJ BK BL BQ Hb;obtain ⟨k,hk,rfl,hb,hno⟩:=hrel;have Hb:=AB hb;have Hno:=AB hno;clear hb hno;by_cases hlt:k<al.length
    ·obtain ⟨b,o,rfl,hlb,c0,c1,c2,c3,c4,c5⟩:=(Ij.1.mono Hb.1).ar hlt;have hvk:=(HV.1 k hlt);obtain ⟨Av,cv,hv,-⟩:=hvk;have hvk:=(HV.1 k hlt);rw [hv] at c3 hvk;have SN:=AB hvk;clear hvk hv;go_wp2_with fail;refine (aoy _ al[k].1.via MV _ (SN.1.mono (bA Hb.1 _)) ai0).mono ?_;rintro e w1 ⟨rfl,hb1⟩;have Bw:AU w w1:=bT (bA Hb.1 _) hb1;clear hb1 c0 c1 c2 c3 c4 c5
     cases he:al[k].1.via.any MV
     ·go_wp2;go_roundw
      case rel => exact ⟨k+1,AA,BG,Bw,all_succ (p:=fun x=>x.1.via.any MV=false) Hno.1 hlt he⟩
      case measure => exact BH
     ·have hf2:=AB (QX al (fun a=>a.1.via.any MV) k hlt he);go_wp2;go_ret;exact ⟨CP (by rw [hf2.1,hf.1];rfl),Bw⟩
    ·have hf2:=AB (SS al (fun a=>a.1.via.any MV) (fun j hj=>Hno.1 j hj AA));go_wp2;go_ret;exact ⟨CP (by rw [hf2.1,hf.1];rfl),Hb.1⟩
def ap3 (w:World) (l m:List Int) (e:Ending) (w':World):Prop :=
 ∃ v u,e=.returned (.tuple #[v,u])/\AU w w'/\Own w' w.heap.size 3 1 DY v l/\Own w' w.heap.size 3 1 DY u m
theorem Sl.aaJ {w:World} {g:Nat} {t:TypeId} {x:Int} (h:AO w g t #[.int .i64 x]):Sl w (.slice (some ⟨g,0,none⟩) 1 1) ([x] : List Int).length (([x] : List Int).flatMap DY) :=
 Sl.lit (n:=1) h rfl (D7 AA)
theorem ap4 (v:Value) (p:Pl) (w:World) (h:D6 w v p) (hl1:p.nodes.length<=4096) (hl2:p.AQ.length<=4096) :
  Calls prog 46 #[v] w (ap3 w (p.nodes.map (·.id)) (p.AQ.map (·.id))):=by
 obtain ⟨_,_,vf,al,rfl,hpa,⟨An,cn,rfl,hn1,hn2,hR⟩,⟨⟨Aa,ca,rfl,ha1,ha2,FT⟩,hV⟩,-⟩:=h;unfold maxLen at hn2 ha2;rw [hpa] at hl2 ⊢;rw [CV] at hl2;rw [IW];clear hpa;generalize p.nodes=l at *;have HV:=AB hV;clear hV;have Ij:=AB FT;clear FT;go_enter func46,ntmps46;go_wp2_with fail;obtain ⟨W0,hW0⟩:=BR (w.alloc (.cells #[.slice An l.length cn,.slice Aa al.length ca,vf] 34));have X1:AO W0 w.heap.size 34 #[.slice An l.length cn,.slice Aa al.length ca,vf]:=by rw [hW0];exact AO.made rfl _ _
 have Fj:AU w W0:=by rw [hW0];exact bA (bR w) _
 rw [<- hW0];clear hW0;go_loopw [2,11] (fun s i wr=>∃ k:Nat,k<=l.length/\i=.int .i64 k/\Own wr W0.heap.size 3 1 DY s ((l.take k).map (·.id))/\AU W0 wr) (fun _ i _=>l.length-(intOf i).toNat)
 case atStart => exact ⟨0,BX _,rfl,Own.nil _ _ _ _ _,bR W0⟩
 case round =>
  obtain ⟨k,hk,rfl,hown,hb⟩:=hrel;have Hb:=AB hb;have FB:=AB hown;clear hown;have hsz:=hb.size;clear hb;by_cases hlt:k<l.length
  ·obtain ⟨b,o,rfl,hlb,c0,c1,c2⟩:=(hR.mono (bT Fj Hb.1)).nd hlt;clear hR;have hlen:((l.take k).map (·.id)).length<=4096:=by rw [CV,GH];omega
   have Hlen:=AB hlen;clear hlen;go_wp2_with
    (at_builtin
     refine FK _ rfl (.tmp 15) (.tmp 18) _ rfl (base:=W0.heap.size) Jk JV Jl rfl ((FB.1.alloc _).alloc _) rfl (l2:=[l[k].id]) (Sl.aaJ (AO.made Ah _ _)) XR XR DR ?_;intro v1 w1 hown1 hg hat;have MW:AU W0 w1:=bG (bA (bA Hb.1 _) _) hg (fun g hk=>(FB.1.lt g hk).1);clear hg hat;have WJ:=AB hown1;clear hown1)
   go_roundw
   case rel => exact ⟨k+1,AA,BG,yK,MW⟩
   case measure => exact BH
  ·have hE:l.take k=l:=IE AA;have hown2:=FB.1;rw [hE] at hown2;replace FB:=AB hown2;have rD:=X1.keep Hb.1;have aaK:=bT Fj Hb.1;clear hR hown2 hE X1
   try clear rE rF rG rH
   try clear ap5 ap6 ap7
   obtain ⟨rE,rF,rG,rH,-⟩:=rD.Az;go_wp2_with fail;obtain ⟨wo,rfl⟩:=BR wr;clear rE rF rG rH;go_loopw [3,24] (fun s i wr=>∃ k:Nat,k<=al.length/\i=.int .i64 k/\Own wr wo.heap.size 3 1 DY s ((al.take k).map (·.1.id))/\AU wo wr) (fun _ i _=>al.length-(intOf i).toNat)
   case atStart => exact ⟨0,BX _,rfl,Own.nil _ _ _ _ _,bR wo⟩
   case round =>
    obtain ⟨k,hk,rfl,hown,hb⟩:=hrel;have Hb3:=AB hb;have VG:=AB hown;clear hown;have hsz:=hb.size;clear hb;by_cases hlt:k<al.length
    ·obtain ⟨b,o,rfl,hlb,c0,c1,c2,c3,c4,c5⟩:=(Ij.1.mono (bT aaK Hb3.1)).ar hlt;obtain ⟨Av,cv,hv,-⟩:=HV.1 k hlt;rw [hv] at c3;clear hv;have hlen:((al.take k).map (·.1.id)).length<=4096:=by rw [CV,GH];omega
     have Hlen:=AB hlen;clear hlen;go_wp2_with
      (at_builtin
       refine FK _ rfl (.tmp 28) (.tmp 31) _ rfl (base:=wo.heap.size) Jk JV Jl rfl ((VG.1.alloc _).alloc _) rfl (l2:=[al[k].1.id]) (Sl.aaJ (AO.made Ah _ _)) XR XR DR ?_;intro v1 w1 hown1 hg hat;have MW:AU wo w1:=bG (bA (bA Hb3.1 _) _) hg (fun g hk=>(VG.1.lt g hk).1);clear hg hat;have WJ:=AB hown1;clear hown1)
     go_roundw
     case rel => exact ⟨k+1,AA,BG,yK,MW⟩
     case measure => exact BH
    ·have hE:al.take k=al:=IE AA;have hown2:=VG.1;rw [hE] at hown2;replace VG:=AB hown2;clear hown2 hE;go_wp2_with fail;go_ret2;exact ⟨_,_,rfl,bT aaK Hb3.1,(FB.1.keep Hb3.1).EM Fj.size,VG.1.EM aaK.size⟩
def VH (p:Pl):List Pt:=p.nodes.map (·.pt)++p.AQ.flatMap (·.via)
theorem aaL {α β:Type} (l:List α) (f:α->List β) (k:Nat):((l.take k).flatMap f).length<=(l.flatMap f).length:=by
 conv=>rhs;rw [<- yM k l,O7,Es]
 omega
theorem adi {α β:Type} (l:List α) (f:α->List β) (k:Nat) (hk:k<l.length):((l.take k).flatMap f).length+(f l[k]).length<=(l.flatMap f).length:=by
 have:=aaL l f (k+1)
 rw [Em hk,O7,Es] at this;simpa using this
theorem CZ.one {w:World} {g:Nat} {t:TypeId} {x:Pt} (h:AO w g t #[.int .i64 x.x,.int .i64 x.y]):Sl w (.slice (some ⟨g,0,none⟩) 1 1) ([x] : List Pt).length (([x] : List Pt).flatMap DK) :=
 Sl.lit (n:=1) h rfl (D7 AA)
def ai1 (w:World) (l:List Pt) (e:Ending) (w':World):Prop :=
 ∃ v,e=.returned v/\AU w w'/\Own w' w.heap.size 42 2 DK v l
def ai2 (w:World) (l:List Int) (e:Ending) (w':World):Prop :=
 ∃ v,e=.returned v/\AU w w'/\Own w' w.heap.size 3 1 DY v l
theorem ap8 (v:Value) (p:Pl) (w:World) (h:D6 w v p) (hl1:p.nodes.length<=1048576) (hl2:(p.AQ.flatMap (·.via)).length<=1048576) :
  Calls prog 126 #[v] w (ai1 w (VH p)):=by
 obtain ⟨_,_,vf,al,rfl,hpa,⟨An,cn,rfl,hn1,hn2,hR⟩,⟨⟨Aa,ca,rfl,ha1,ha2,FT⟩,hV⟩,-⟩:=h;unfold maxLen at hn2 ha2;unfold VH;have hfm:p.AQ.flatMap (·.via)=al.flatMap (fun a=>a.1.via):=by rw [hpa,S9]
 rw [hfm] at hl2 ⊢;clear hpa hfm;generalize p.nodes=l at *;have HV:=AB hV;clear hV;have Ij:=AB FT;clear FT;go_enter func126,ntmps126;go_wp2_with fail;obtain ⟨W0,hW0⟩:=BR (w.alloc (.cells #[.slice An l.length cn,.slice Aa al.length ca,vf] 34));have X1:AO W0 w.heap.size 34 #[.slice An l.length cn,.slice Aa al.length ca,vf]:=by rw [hW0];exact AO.made rfl _ _
 have Fj:AU w W0:=by rw [hW0];exact bA (bR w) _
 have HX0:=AB X1;rw [<- hW0];clear hW0;go_loopw [3,4] (fun s i wr=>∃ k:Nat,k<=l.length/\i=.int .i64 k/\Own wr W0.heap.size 42 2 DK s ((l.take k).map (·.pt))/\AU W0 wr) (fun _ i _=>l.length-(intOf i).toNat)
 case atStart => exact ⟨0,BX _,rfl,Own.nil _ _ _ _ _,bR W0⟩
 case round =>
  obtain ⟨k,hk,rfl,hown,hb⟩:=hrel;have Hb:=AB hb;have FB:=AB hown;have rD:=X1.keep hb;clear hown;have hsz:=hb.size;clear hb X1
  try clear rE rF rG rH
  try clear ap5 ap6 ap7
  obtain ⟨rE,rF,rG,rH,-⟩:=rD.Az;by_cases hlt:k<l.length
  ·obtain ⟨b,o,rfl,hlb,c0,c1,c2⟩:=(hR.mono (bT Fj Hb.1)).nd hlt;clear hR;have hlen:((l.take k).map (·.pt)).length<=1048576:=by rw [CV,GH];omega
   have Hlen:=AB hlen;clear hlen;go_wp2_with
    (at_builtin
     refine FK _ rfl (.tmp 13) (.tmp 20) _ rfl (base:=W0.heap.size) JI I7 JD rfl (FB.1.alloc _) rfl (l2:=[l[k].pt]) (CZ.one (AO.made Ah _ _)) XR XR DR ?_;intro v1 w1 hown1 hg hat;have MW:AU W0 w1:=bG (bA Hb.1 _) hg (fun g hk=>(FB.1.lt g hk).1);clear hg hat;have WJ:=AB hown1;clear hown1)
   go_roundw
   case rel => exact ⟨k+1,AA,BG,yK,MW⟩
   case measure => exact BH
  ·have hE:l.take k=l:=IE AA;have hown2:=FB.1;rw [hE] at hown2;replace FB:=AB hown2;have aaK:=bT Fj Hb.1;have Bo:=AB Hb.1;clear hR hown2 hE;go_wp2_with fail;clear rE rF rG rH;have X1:=rD;clear rD;obtain ⟨wo,rfl⟩:=BR wr;go_loopw [3,5] (fun s i wr=>∃ k:Nat,k<=al.length/\i=.int .i64 k/\Own wr W0.heap.size 42 2 DK s (l.map (·.pt)++(al.take k).flatMap (fun a=>a.1.via))/\AU W0 wr) (fun _ i _=>al.length-(intOf i).toNat)
   case atStart => exact ⟨0,BX _,rfl,by simpa using FB.1,Bo.1⟩
   case round =>
    obtain ⟨k,hk,rfl,hown,hb⟩:=hrel;have Hb3:=AB hb;have VG:=AB hown;clear hown X1;have hsz:=hb.size;have X1:AO wr w.heap.size 34 #[.slice An l.length cn,.slice Aa al.length ca,vf]:=HX0.1.keep hb;clear hb;obtain ⟨BJ,BK,BL,BQ,-⟩:=X1.Az;by_cases hlt:k<al.length
    ·obtain ⟨b,o,rfl,hlb,c0,c1,c2,c3,c4,c5⟩:=(Ij.1.mono (bT Fj Hb3.1)).ar hlt;have hvk:=(HV.1 k hlt);obtain ⟨Av,cv,hv,-⟩:=hvk;have hvk:=(HV.1 k hlt);rw [hv] at c3 hvk;have SN:=AB hvk;clear hvk hv;have hlen:=adi al (fun a=>a.1.via) k hlt;have hlen2:(l.map (·.pt)++(al.take k).flatMap (fun a=>a.1.via)).length+al[k].1.via.length<=2097152:=by rw [Es,CV];omega
     have Hlen:=AB hlen2;clear hlen hlen2;go_wp2_with
      (at_builtin
       refine FK _ rfl (.tmp 29) (.tmp 35) _ rfl (base:=W0.heap.size) JI I7 JD rfl VG.1 rfl (l2:=al[k].1.via) (SN.1.mono (bT Fj Hb3.1)) (by have:=Hlen.1;omega) (by have:=Hlen.1;omega) hsz ?_;intro v1 w1 hown1 hg hat;have MW:AU W0 w1:=bG Hb3.1 hg (fun g hk=>(VG.1.lt g hk).1);clear hg hat;have WJ:=AB hown1;clear hown1)
     go_roundw
     case rel => exact ⟨k+1,AA,BG,by rw [Em hlt,O7,<- LJ];simpa using WJ.1,MW⟩
     case measure => exact BH
    ·have hE:al.take k=al:=IE AA;have hown2:=VG.1;rw [hE] at hown2;replace VG:=AB hown2;clear hown2 hE;go_wp2;go_ret;exact ⟨_,rfl,bT Fj Hb3.1,VG.1.EM Fj.size⟩
theorem ai3 (v:Value) (p:Pl) (w:World) (h:D6 w v p) (hl1:p.nodes.length<=1048576) :
  Calls prog 81 #[v,.bool false] w (ai2 w (p.nodes.map (·.id))):=by
 obtain ⟨_,_,vf,al,rfl,hpa,⟨An,cn,rfl,hn1,hn2,hR⟩,⟨⟨Aa,ca,rfl,ha1,ha2,FT⟩,hV⟩,-⟩:=h;unfold maxLen at hn2 ha2;clear hpa;generalize p.nodes=l at *;clear hV;clear FT;have HR:=AB hR;clear hR;go_enter func81,ntmps81;go_wp2_with fail;obtain ⟨W0,hW0⟩:=BR (w.alloc (.cells #[.slice An l.length cn,.slice Aa al.length ca,vf] 34));have X1:AO W0 w.heap.size 34 #[.slice An l.length cn,.slice Aa al.length ca,vf]:=by rw [hW0];exact AO.made rfl _ _
 have Fj:AU w W0:=by rw [hW0];exact bA (bR w) _
 have HX0:=AB X1;rw [<- hW0];clear hW0 X1;go_loopw [5,6] (fun s i wr=>∃ k:Nat,k<=l.length/\i=.int .i64 k/\Own wr W0.heap.size 3 1 DY s ((l.take k).map (·.id))/\AU W0 wr) (fun _ i _=>l.length-(intOf i).toNat)
 case atStart => exact ⟨0,BX _,rfl,Own.nil _ _ _ _ _,bR W0⟩
 case round =>
  obtain ⟨k,hk,rfl,hown,hb⟩:=hrel;have Hb:=AB hb;have FB:=AB hown;clear hown;have hsz:=hb.size;have X1:AO wr w.heap.size 34 #[.slice An l.length cn,.slice Aa al.length ca,vf]:=HX0.1.keep hb;clear hb;obtain ⟨BJ,BK,BL,BQ,-⟩:=X1.Az;by_cases hlt:k<l.length
  ·obtain ⟨b,o,rfl,hlb,c0,c1,c2⟩:=(HR.1.mono (bT Fj Hb.1)).nd hlt;have hlen:((l.take k).map (·.id)).length<=1048576:=by rw [CV,GH];omega
   have Hlen:=AB hlen;clear hlen;go_wp2_with
    (at_builtin
     refine FK _ rfl (.tmp 19) (.tmp 26) _ rfl (base:=W0.heap.size) Jk JV Jl rfl (FB.1.alloc _) rfl (l2:=[l[k].id]) (Sl.aaJ (AO.made Ah _ _)) XR XR DR ?_;intro v1 w1 hown1 hg hat;have MW:AU W0 w1:=bG (bA Hb.1 _) hg (fun g hk=>(FB.1.lt g hk).1);clear hg hat;have WJ:=AB hown1;clear hown1)
   go_roundw
   case rel => exact ⟨k+1,AA,BG,yK,MW⟩
   case measure => exact BH
  ·have hE:l.take k=l:=IE AA;have hown2:=FB.1;rw [hE] at hown2;have rJ:=AB hown2;clear hown2 hE;go_wp2_with fail;obtain ⟨wo,rfl⟩:=BR wr;have Bo:=AB Hb.1;clear X1 BJ BK BL BQ hlt;go_loopw [5,7] (fun s i wr=>i=.int .i64 0/\AU W0 wr/\Own wr W0.heap.size 3 1 DY s (l.map (·.id))) (fun _ i _=>0)
   case atStart => exact ⟨rfl,Bo.1,rJ.1⟩
   case round =>
    obtain ⟨rfl,hb,hown5⟩:=hrel;have Hb4:=AB hb;have X1:AO wr w.heap.size 34 #[.slice An l.length cn,.slice Aa al.length ca,vf]:=HX0.1.keep hb;clear hb
    try clear BJ BK BL BQ
    obtain ⟨BJ,BK,BL,BQ,-⟩:=X1.Az;by_cases h0:0<al.length
    all_goals
     have adk:=AB hown5;clear hown5;go_wp2;go_ret;exact ⟨_,rfl,bT Fj Hb4.1,adk.1.EM Fj.size⟩
theorem ai4 (v:Value) (p:Pl) (w:World) (h:D6 w v p) (hl1:p.AQ.length<=1048576) :
  Calls prog 81 #[v,.bool true] w (ai2 w (p.AQ.map (·.id))):=by
 obtain ⟨_,_,vf,al,rfl,hpa,⟨An,cn,rfl,hn1,hn2,hR⟩,⟨⟨Aa,ca,rfl,ha1,ha2,FT⟩,hV⟩,-⟩:=h;unfold maxLen at hn2 ha2;rw [hpa] at hl1 ⊢;rw [CV] at hl1;rw [IW];clear hpa;generalize p.nodes=l at *;clear hV;have Ij:=AB FT;clear FT;clear hR;go_enter func81,ntmps81;go_wp2_with fail;obtain ⟨W0,hW0⟩:=BR (w.alloc (.cells #[.slice An l.length cn,.slice Aa al.length ca,vf] 34));have X1:AO W0 w.heap.size 34 #[.slice An l.length cn,.slice Aa al.length ca,vf]:=by rw [hW0];exact AO.made rfl _ _
 have Fj:AU w W0:=by rw [hW0];exact bA (bR w) _
 have HX0:=AB X1;rw [<- hW0];clear hW0 X1;go_loopw [5,6] (fun s i wr=>i=.int .i64 0/\AU W0 wr/\s=.slice none 0 0) (fun _ i _=>0)
 case atStart => exact ⟨rfl,bR W0,rfl⟩
 case round =>
  obtain ⟨rfl,hb,hown5⟩:=hrel;have Hb4:=AB hb;have X1:AO wr w.heap.size 34 #[.slice An l.length cn,.slice Aa al.length ca,vf]:=HX0.1.keep hb;clear hb;obtain ⟨BJ,BK,BL,BQ,-⟩:=X1.Az;by_cases h0:0<l.length
  all_goals
   subst hown5;go_wp2_with fail;obtain ⟨wo,rfl⟩:=BR wr;clear X1 BJ BK BL BQ h0;go_loopw [5,7] (fun s i wr=>∃ k:Nat,k<=al.length/\i=.int .i64 k/\Own wr W0.heap.size 3 1 DY s ((al.take k).map (·.1.id))/\AU W0 wr) (fun _ i _=>al.length-(intOf i).toNat)
   case atStart => exact ⟨0,BX _,rfl,Own.nil _ _ _ _ _,Hb4.1⟩
   case round =>
    obtain ⟨k,hk,rfl,hown,hb⟩:=hrel;have Hb:=AB hb;have FB:=AB hown;clear hown;have hsz:=hb.size;have X1:AO wr w.heap.size 34 #[.slice An l.length cn,.slice Aa al.length ca,vf]:=HX0.1.keep hb;clear hb
    try clear BJ BK BL BQ
    obtain ⟨BJ,BK,BL,BQ,-⟩:=X1.Az;by_cases hlt:k<al.length
    ·obtain ⟨b,o,rfl,hlb,c0,c1,c2,-,c4,c5⟩:=(Ij.1.mono (bT Fj Hb.1)).ar hlt;have hlen:((al.take k).map (·.1.id)).length<=1048576:=by rw [CV,GH];omega
     have Hlen:=AB hlen;clear hlen;go_wp2_with
      (at_builtin
       refine FK _ rfl (.tmp 38) (.tmp 45) _ rfl (base:=W0.heap.size) Jk JV Jl rfl (FB.1.alloc _) rfl (l2:=[al[k].1.id]) (Sl.aaJ (AO.made Ah _ _)) XR XR DR ?_;intro v1 w1 hown1 hg hat;have MW:AU W0 w1:=bG (bA Hb.1 _) hg (fun g hk=>(FB.1.lt g hk).1);clear hg hat;have WJ:=AB hown1;clear hown1)
     go_roundw
     case rel => exact ⟨k+1,AA,BG,yK,MW⟩
     case measure => exact BH
    ·have hE:al.take k=al:=IE AA;have hown2:=FB.1;rw [hE] at hown2;have rJ:=AB hown2;clear hown2 hE;go_wp2;go_ret;exact ⟨_,rfl,bT Fj Hb.1,rJ.1.EM Fj.size⟩
