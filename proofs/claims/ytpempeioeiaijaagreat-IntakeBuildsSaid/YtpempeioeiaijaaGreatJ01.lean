import Derived.Test.YtpempeioeiaijaaGreatRegQ
set_option linter.unusedSimpArgs false
set_option linter.unusedVariables false
set_option maxHeartbeats 4000000
namespace Go.Proofs.YtpempeioeiaijaaGreat
open Go.RowKit Tryz
def Jm (l:List Nd) (id:Int):Option Nd:=l.find? (fun n=>n.id == id)
def nd0:Nd:=⟨0,⟨0,0⟩⟩
def l7 (r:Option Nd):Value:=.tuple #[sQ (r.getD nd0),.bool r.isSome]
theorem ahs (v:Value) (p:Pl) (id:Int) (w:World) (h:D6 w v p) :
  Calls prog 61 #[v,.int .i64 id] w fun e w'=>e=.returned (l7 (Jm p.nodes id))/\AU w w':=by
 obtain ⟨_,va,vf,al,rfl,hpa,⟨An,cn,rfl,hn1,hn2,hR⟩,-⟩:=h;unfold maxLen at hn2;generalize p.nodes=l at *;clear hpa;go_enter func61,ntmps61;go_wp2_with fail;go_loopw [11] (fun i wr=>∃ k:Nat,k<=l.length/\i=.int .i64 k/\AU w wr/\AO wr (w.heap.size+1) 47 #[.int .i64 0,.int .i64 0,.int .i64 0]/\∀ j (hj:j<l.length),j<k->(l[j].id == id)=false) (fun i _=>l.length-(intOf i).toNat)
 case atStart => exact ⟨0,BX _,rfl,bA (bA (bR w) _) _,AO.made Ah _ _,fun j _ h=>AA⟩
 case round =>
  obtain ⟨k,hk,rfl,hb,X4,hno⟩:=hrel;have Hb:=AB hb;have Hno:=AB hno;clear hb hno;obtain ⟨Bg,CO,CU,ES,Eo,Gu,Jo⟩:=X4.Az;by_cases hlt:k<l.length
  ·obtain ⟨b,o,rfl,hlb,c0,c1,c2⟩:=(hR.mono Hb.1).nd hlt;clear hR
   cases he:(l[k].id == id)
   ·go_wp2;go_roundw
    case rel => exact ⟨k+1,AA,BG,bA Hb.1 _,X4.alloc _,all_succ (p:=fun x=>(x.id == id)=false) Hno.1 hlt he⟩
    case measure => exact BH
   ·have hf:=sU l (fun n=>n.id == id) k hlt Hno.1 he;have Hf:=AB hf;clear hf;go_wp2;have Bw:=Hb.1;refine Iz (g:=w.heap.size+1) (cs:=#[.int .i64 l[k].id,.int .i64 l[k].pt.x,.int .i64 l[k].pt.y]) rfl zF rfl rfl (AO.LG X4 |>.alloc _) ⟨by rw [Jm,Hf.1];rfl,?_⟩;exact Dy
  ·have hf:=zB l (fun n=>n.id == id) (fun j hj=>Hno.1 j hj AA);have Hf:=AB hf;clear hf;go_wp2;have Bw:=Hb.1;refine Iz (g:=w.heap.size+1) (cs:=#[.int .i64 0,.int .i64 0,.int .i64 0]) rfl zF rfl rfl (AO.LG X4) ⟨by rw [Jm,Hf.1];rfl,?_⟩;exact Dy
theorem aht (v:Value) (p:Pl) (id:Int) (w:World) (h:D6 w v p) :
  Calls prog 116 #[v,.int .i64 id] w fun e w'=>e=.returned (l7 (Jm p.nodes id))/\AU w w':=by
 obtain ⟨_,va,vf,al,rfl,hpa,⟨An,cn,rfl,hn1,hn2,hR⟩,-⟩:=h;unfold maxLen at hn2;generalize p.nodes=l at *;clear hpa;go_enter func116,ntmps116;go_wp2_with fail;go_loopw [6] (fun i wr=>∃ k:Nat,k<=l.length/\i=.int .i64 k/\AU w wr/\AO wr w.heap.size 34 #[.slice An l.length cn,va,vf]/\AO wr (w.heap.size+1) 47 #[.int .i64 0,.int .i64 0,.int .i64 0]/\∀ j (hj:j<l.length),j<k->(l[j].id == id)=false) (fun i _=>l.length-(intOf i).toNat)
 case atStart => exact ⟨0,BX _,rfl,bA (bA (bR w) _) _,(AO.made rfl _ _).alloc _,AO.made Ah _ _,fun j _ h=>AA⟩
 case round =>
  obtain ⟨k,hk,rfl,hb,X2,X4,hno⟩:=hrel;have Hb:=AB hb;have Hno:=AB hno;clear hb hno;obtain ⟨Bh,Bq,Bv,CS,-⟩:=X2.Az;obtain ⟨Bg,CO,CU,ES,Eo,Gu,Jo⟩:=X4.Az;by_cases hlt:k<l.length
  ·obtain ⟨b,o,rfl,hlb,c0,c1,c2⟩:=(hR.mono Hb.1).nd hlt;clear hR
   cases he:(l[k].id == id)
   ·go_wp2;go_roundw
    case rel => exact ⟨k+1,AA,BG,Hb.1,X2,X4,all_succ (p:=fun x=>(x.id == id)=false) Hno.1 hlt he⟩
    case measure => exact BH
   ·have hf:=sU l (fun n=>n.id == id) k hlt Hno.1 he;have Hf:=AB hf;clear hf;go_wp2;have Bw:=Hb.1;refine Iz (g:=w.heap.size+1) (cs:=#[.int .i64 l[k].id,.int .i64 l[k].pt.x,.int .i64 l[k].pt.y]) rfl zF rfl rfl (AO.LG X4) ⟨by rw [Jm,Hf.1];rfl,?_⟩;exact Dy
  ·have hf:=zB l (fun n=>n.id == id) (fun j hj=>Hno.1 j hj AA);have Hf:=AB hf;clear hf;go_wp2;have Bw:=Hb.1;refine Iz (g:=w.heap.size+1) (cs:=#[.int .i64 0,.int .i64 0,.int .i64 0]) rfl zF rfl rfl (AO.LG X4) ⟨by rw [Jm,Hf.1];rfl,?_⟩;exact Dy
def Zm (w:World) (l:List Pt) (e:Ending) (w':World):Prop :=
 ∃ A c,e=.returned (.slice A l.length c)/\AU w w'/\Own w' w.heap.size 42 2 DK (.slice A l.length c) l
theorem adI (v:Value) (l:List Pt) (w:World) (h:CZ w v l) (hl:l.length<=1048576) :
  Calls prog 38 #[v] w (Zm w l):=by
 have H:=h;obtain ⟨A,c,rfl,hn,hc,hR⟩:=h;have hE:=Lib.run_eql_slice_nil (P:=prog) (t:=25) (e:=42);rcases A with _ | ad
 ·have hl0:l=[]:=by
   rcases l with _ | ⟨a,l⟩
   · rfl
   ·obtain ⟨b,o,e,_⟩:=hR (by simp [DK])
    cases e
  subst hl0;clear hR H;simp only [LH] at hn ⊢;have hE1:∀ W:World,(binOp .eql 25 (.slice none 0 c) (.slice none 0 0)).run prog W=.ok (.bool true) W:=fun W=>Lib.run_eql_slice_nil W _ 42 none _ c 0 0 Tryz.underlying25;clear hE;go_enter func38,ntmps38;go_wp2;go_ret;exact ⟨_,_,rfl,bR w,Own.nil _ _ _ _ _⟩
 ·have hE1:∀ W:World,(binOp .eql 25 (.slice (some ad) l.length c) (.slice none 0 0)).run prog W=.ok (.bool false) W:=fun W=>Lib.run_eql_slice_nil W _ 42 (some ad) _ c 0 0 Tryz.underlying25;clear hE hR;have HH:=AB H;clear H;go_enter func38,ntmps38;go_wp2_with
   (at_builtin
    refine FK _ rfl (.tmp 5) (.tmp 6) _ rfl (base:=w.heap.size) JI I7 JD rfl (Own.lit _ _ _ _ DK [] _ 0 _ rfl rfl (Cj _) (D7 AA) rfl rfl) rfl (HH.1.mono (bA (bR w) _)) Ua Ua Ah ?_;intro v1 w1 hown hg hat)
  go_ret;obtain ⟨A1,c1,rfl,-⟩:=Own.sl hown;simp only [OW] at hown ⊢;exact ⟨A1,c1,rfl,bG (bA (bR w) _) hg (fun k hk=>by have:w.heap.size=k:=DV hk;omega),hown⟩
def findAr (l:List Ar) (id:Int):Option Ar:=l.find? (fun a=>a.id == id)
def MS:Ar:=⟨0,0,0,[],0,0⟩
def tJ (w:World) (r:Option Ar) (e:Ending) (w':World):Prop :=
 ∃ v',e=.returned (.tuple #[Uj (r.getD MS) v',.bool r.isSome])/\AU w w'/\CZ w' v' (r.getD MS).via
def Short (p:Pl):Prop:=∀ a∈p.AQ,a.via.length<=1048576
theorem Sl.nil (w:World):Sl w (.slice none 0 0) 0 []:=⟨none,0,rfl,Cj _,D7 AA,Row.nil⟩
theorem ad4 (al:List (Ar×Value)) (id:Int) (k:Nat) (hk:k<al.length) (h:∀ j (hj:j<al.length),j<k->(al[j].1.id == id)=false) (he:(al[k].1.id == id)=true) :
  findAr (al.map (·.1)) id=some al[k].1:=by
 have:=sU al (fun a=>a.1.id == id) k hk h he
 rw [findAr,List.find?_map]
 show (al.find? (fun a=>a.1.id == id)).map _=_
 rw [this];rfl
theorem ad5 (al:List (Ar×Value)) (id:Int) (h:∀ j (hj:j<al.length),(al[j].1.id == id)=false):findAr (al.map (·.1)) id=none:=by
 have:=zB al (fun a=>a.1.id == id) h
 rw [findAr,List.find?_map]
 show (al.find? (fun a=>a.1.id == id)).map _=_
 rw [this];rfl
theorem ao2 (v:Value) (p:Pl) (id:Int) (w:World) (h:D6 w v p) (hsh:Short p) :
  Calls prog 60 #[v,.int .i64 id] w (tJ w (findAr p.AQ id)):=by
 obtain ⟨vn,_,vf,al,rfl,hpa,-,⟨⟨An,cn,rfl,hn1,hn2,hR⟩,hV⟩,-⟩:=h;unfold maxLen at hn2;unfold Short at hsh;rw [hpa] at hsh ⊢;clear hpa;have hsh':∀ k (hk:k<al.length),al[k].1.via.length<=1048576:=fun k hk=>hsh _ (FZ (BO hk));have HV:=AB hV;clear hV hsh;have ED:=AB hsh';clear hsh';go_enter func60,ntmps60;go_wp2_with fail;go_loopw [11] (fun i wr=>∃ k:Nat,k<=al.length/\i=.int .i64 k/\AU w wr/\AO wr (w.heap.size+1) 50 #[.int .i64 0,.int .i64 0,.int .i64 0,.slice none 0 0,.int .i64 0,.int .i64 0]/\∀ j (hj:j<al.length),j<k->(al[j].1.id == id)=false) (fun i _=>al.length-(intOf i).toNat)
 case atStart => exact ⟨0,BX _,rfl,bA (bA (bR w) _) _,AO.made Ah _ _,fun j _ h=>AA⟩
 case round =>
  obtain ⟨k,hk,rfl,hb,X4,hno⟩:=hrel;have Hb:=AB hb;have Hno:=AB hno;clear hb hno;obtain ⟨Bg,CO,CU,ES,LU,LV,LW,Eo,Gu,Jo,RH,RI,RG⟩:=X4.Iy;by_cases hlt:k<al.length
  ·obtain ⟨b,o,rfl,hlb,c0,c1,c2,c3,c4,c5⟩:=(hR.mono Hb.1).ar hlt;clear hR;have hvk:=(HV.1 k hlt);obtain ⟨Av,cv,hv,-⟩:=hvk;have hvk:=(HV.1 k hlt);rw [hv] at c3 hvk;generalize hvl:al[k].1.via.length=vl at *;have SN:=AB hvk;clear hvk hv hvl
   cases he:(al[k].1.id == id)
   ·go_wp2;go_roundw
    case rel => exact ⟨k+1,AA,BG,bA Hb.1 _,X4.alloc _,all_succ (p:=fun x=>(x.1.id == id)=false) Hno.1 hlt he⟩
    case measure => exact BH
   ·have hf:=ad4 al id k hlt Hno.1 he;have Hf:=AB hf;clear hf;go_wp2_with fail;refine (adI _ _ _ (SN.1.mono (bA Hb.1 _)) (ED.1 k hlt)).mono ?_;rintro e w1 ⟨A1,N8,rfl,hb1,hown⟩;have Bw:AU w w1:=bT (bA Hb.1 _) hb1;have X7:AO w1 wr.heap.size 50 #[.int .i64 al[k].1.id,.int .i64 al[k].1.fr,.int .i64 al[k].1.dst,.slice Av vl cv,.int .i64 al[k].1.left,.int .i64 al[k].1.right]:=(AO.made rfl _ _).keep hb1;have hw8:w.heap.size+1<wr.heap.size:=AA
    have hw7:w.heap.size+1≠wr.heap.size:=AA
    replace X4:=(X4.alloc _).keep hb1;have hown':=hown.EM (b':=wr.heap.size+1) Ah;have hP:=Own.sl hown;have FB:=AB hown';clear hb1 c0 c1 c2 c3 c4 c5 hlb hown hown' hP
    try clear Bg CO CU ES LU LV LW
    try clear Eo Gu Jo RH RI RG
    obtain ⟨Bg,CO,CU,ES,LU,LV,LW,Eo,Gu,Jo,RH,RI,RG⟩:=X4.Iy;obtain ⟨EJ,EK,F7,SQ,X7d,X7e,X7f,Ob,Oc,Un,ahu,ahv,ahw⟩:=X7.Iy;go_wp2_with fail;have tK:=Hb.1.size;have Wu:(Value.slice A1 al[k].1.via.length N8).ownBlock≠some wr.heap.size:=fun e=>by have:=(FB.1.lt _ e).1;omega
    have Nb:(Value.slice A1 al[k].1.via.length N8).ownBlock≠some (w.heap.size+1):=fun e=>by have:=(FB.1.lt _ e).1;omega
    have HP:=Own.sl (((((((FB.1.far (p:=⟨wr.heap.size,3,none⟩) Wu (.slice A1 al[k].1.via.length N8)).far (p:=⟨w.heap.size+1,0,none⟩) Nb (.int .i64 al[k].1.id)).far (p:=⟨w.heap.size+1,1,none⟩) Nb (.int .i64 al[k].1.fr)).far (p:=⟨w.heap.size+1,2,none⟩) Nb (.int .i64 al[k].1.dst)).far (p:=⟨w.heap.size+1,3,none⟩) Nb (.slice A1 al[k].1.via.length N8)).far (p:=⟨w.heap.size+1,4,none⟩) Nb (.int .i64 al[k].1.left)).far (p:=⟨w.heap.size+1,5,none⟩) Nb (.int .i64 al[k].1.right));refine Iz (g:=w.heap.size+1) (cs:=#[.int .i64 al[k].1.id,.int .i64 al[k].1.fr,.int .i64 al[k].1.dst,.slice A1 al[k].1.via.length N8,.int .i64 al[k].1.left,.int .i64 al[k].1.right]) rfl Ul rfl rfl (AO.Uk (X4.far (p:=⟨wr.heap.size,3,none⟩) hw7 _)) ⟨.slice A1 al[k].1.via.length N8,ZC,?_,by rw [Hf.1];exact HP⟩;exact Dy
  ·have hf:=ad5 al id (fun j hj=>Hno.1 j hj AA);have Hf:=AB hf;clear hf;go_wp2;have Bw:=Hb.1;refine Iz (g:=w.heap.size+1) (cs:=#[.int .i64 0,.int .i64 0,.int .i64 0,.slice none 0 0,.int .i64 0,.int .i64 0]) rfl Ul rfl rfl (AO.Uk X4) ⟨.slice none 0 0,ZC,?_,by rw [Hf.1];exact Sl.nil _⟩;exact Dy
theorem ao3 (v:Value) (p:Pl) (id:Int) (w:World) (h:D6 w v p) (hsh:Short p) :
  Calls prog 63 #[v,.int .i64 id] w (tJ w (findAr p.AQ id)):=by
 obtain ⟨vn,_,vf,al,rfl,hpa,-,⟨⟨An,cn,rfl,hn1,hn2,hR⟩,hV⟩,-⟩:=h;unfold maxLen at hn2;unfold Short at hsh;rw [hpa] at hsh ⊢;clear hpa;have hsh':∀ k (hk:k<al.length),al[k].1.via.length<=1048576:=fun k hk=>hsh _ (FZ (BO hk));have HV:=AB hV;clear hV hsh;have ED:=AB hsh';clear hsh';go_enter func63,ntmps63;go_wp2_with fail;go_loopw [6] (fun i wr=>∃ k:Nat,k<=al.length/\i=.int .i64 k/\AU w wr/\AO wr w.heap.size 34 #[vn,.slice An al.length cn,vf]/\AO wr (w.heap.size+1) 50 #[.int .i64 0,.int .i64 0,.int .i64 0,.slice none 0 0,.int .i64 0,.int .i64 0]/\∀ j (hj:j<al.length),j<k->(al[j].1.id == id)=false) (fun i _=>al.length-(intOf i).toNat)
 case atStart => exact ⟨0,BX _,rfl,bA (bA (bR w) _) _,(AO.made rfl _ _).alloc _,AO.made Ah _ _,fun j _ h=>AA⟩
 case round =>
  obtain ⟨k,hk,rfl,hb,X2,X4,hno⟩:=hrel;have Hb:=AB hb;have Hno:=AB hno;clear hb hno;obtain ⟨Bh,Bq,Bv,CS,-⟩:=X2.Az;obtain ⟨Bg,CO,CU,ES,LU,LV,LW,Eo,Gu,Jo,RH,RI,RG⟩:=X4.Iy;by_cases hlt:k<al.length
  ·obtain ⟨b,o,rfl,hlb,c0,c1,c2,c3,c4,c5⟩:=(hR.mono Hb.1).ar hlt;clear hR;have hvk:=(HV.1 k hlt);obtain ⟨Av,cv,hv,-⟩:=hvk;have hvk:=(HV.1 k hlt);rw [hv] at c3 hvk;have SN:=AB hvk;clear hvk hv
   cases he:(al[k].1.id == id)
   ·go_wp2;go_roundw
    case rel => exact ⟨k+1,AA,BG,Hb.1,X2,X4,all_succ (p:=fun x=>(x.1.id == id)=false) Hno.1 hlt he⟩
    case measure => exact BH
   ·have hf:=ad4 al id k hlt Hno.1 he;have Hf:=AB hf;clear hf;have hsv:=ED.1 k hlt;go_wp2_with
     (at_builtin
      refine FK _ rfl (.tmp 28) (.tmp 30) _ rfl (base:=wr.heap.size+1) JI I7 JD rfl (Own.lit _ _ _ _ DK [] _ 0 _ Ah rfl Ah (D7 AA) rfl rfl) rfl (SN.1.mono (bA (bA Hb.1 _) _)) Ua Ua Ah ?_;intro v1 w1 hown hg hat;have hb1:Below (wr.alloc (.cells #[.int .i64 al[k].1.id,.int .i64 al[k].1.fr,.int .i64 al[k].1.dst,.slice Av al[k].1.via.length cv,.int .i64 al[k].1.left,.int .i64 al[k].1.right] 50)).heap.size (wr.alloc (.cells #[.int .i64 al[k].1.id,.int .i64 al[k].1.fr,.int .i64 al[k].1.dst,.slice Av al[k].1.via.length cv,.int .i64 al[k].1.left,.int .i64 al[k].1.right] 50)) w1:=bG (bA (bR _) _) hg (fun g hk=>by have:wr.heap.size+1=g:=DV hk;simp;omega);simp only [OW] at hown;obtain ⟨A1,N8,rfl,-⟩:=Own.sl hown;have FB:=AB hown;have Bw:AU w w1:=bT (bA Hb.1 _) hb1;have X7:AO w1 wr.heap.size 50 #[.int .i64 al[k].1.id,.int .i64 al[k].1.fr,.int .i64 al[k].1.dst,.slice Av al[k].1.via.length cv,.int .i64 al[k].1.left,.int .i64 al[k].1.right]:=(AO.made rfl _ _).keep hb1;have hw8:w.heap.size+1<wr.heap.size:=AA
      have hw7:w.heap.size+1≠wr.heap.size:=AA
      replace X4:=(X4.alloc _).keep hb1;clear hb1 c0 c1 c2 c3 c4 c5 hlb hown hg hat
      try clear Bg CO CU ES LU LV LW
      try clear Eo Gu Jo RH RI RG
      obtain ⟨Bg,CO,CU,ES,LU,LV,LW,Eo,Gu,Jo,RH,RI,RG⟩:=X4.Iy;obtain ⟨EJ,EK,F7,SQ,X7d,X7e,X7f,Ob,Oc,Un,ahu,ahv,ahw⟩:=X7.Iy
      )
    have tK:=Hb.1.size;have Wu:(Value.slice A1 al[k].1.via.length N8).ownBlock≠some wr.heap.size:=fun e=>by have:=(FB.1.lt _ e).1;omega
    have Nb:(Value.slice A1 al[k].1.via.length N8).ownBlock≠some (w.heap.size+1):=fun e=>by have:=(FB.1.lt _ e).1;omega
    have HP:=Own.sl (((((((FB.1.far (p:=⟨wr.heap.size,3,none⟩) Wu (.slice A1 al[k].1.via.length N8)).far (p:=⟨w.heap.size+1,0,none⟩) Nb (.int .i64 al[k].1.id)).far (p:=⟨w.heap.size+1,1,none⟩) Nb (.int .i64 al[k].1.fr)).far (p:=⟨w.heap.size+1,2,none⟩) Nb (.int .i64 al[k].1.dst)).far (p:=⟨w.heap.size+1,3,none⟩) Nb (.slice A1 al[k].1.via.length N8)).far (p:=⟨w.heap.size+1,4,none⟩) Nb (.int .i64 al[k].1.left)).far (p:=⟨w.heap.size+1,5,none⟩) Nb (.int .i64 al[k].1.right));refine Iz (g:=w.heap.size+1) (cs:=#[.int .i64 al[k].1.id,.int .i64 al[k].1.fr,.int .i64 al[k].1.dst,.slice A1 al[k].1.via.length N8,.int .i64 al[k].1.left,.int .i64 al[k].1.right]) rfl Ul rfl rfl (AO.Uk (X4.far (p:=⟨wr.heap.size,3,none⟩) hw7 _)) ⟨.slice A1 al[k].1.via.length N8,ZC,?_,by rw [Hf.1];exact HP⟩;exact Dy
  ·have hf:=ad5 al id (fun j hj=>Hno.1 j hj AA);have Hf:=AB hf;clear hf;go_wp2;have Bw:=Hb.1;refine Iz (g:=w.heap.size+1) (cs:=#[.int .i64 0,.int .i64 0,.int .i64 0,.slice none 0 0,.int .i64 0,.int .i64 0]) rfl Ul rfl rfl (AO.Uk X4) ⟨.slice none 0 0,ZC,?_,by rw [Hf.1];exact Sl.nil _⟩;exact Dy
def Oe (l:List Ar) (id:Int):Int:=(l.map fun a=>(if a.fr=id then (1:Int) else 0)+(if a.dst=id then 1 else 0)).sum
theorem ahx (l:List Ar) (id:Int):0<=Oe l id/\Oe l id<=2*l.length:=by
 unfold Oe
 induction l with
 | nil=>simp
 | cons a l ih =>
  simp only [Ey,IC,JA];split<;>split<;>omega
theorem ahy (al:List (Ar×Value)) (id:Int) (k:Nat) (hk:k<al.length) :
  Oe ((al.take (k+1)).map (·.1)) id=Oe ((al.take k).map (·.1)) id+((if al[k].1.fr=id then (1:Int) else 0)+(if al[k].1.dst=id then 1 else 0)):=by
 unfold Oe;rw [Em hk];simp only [FH,O8,Ey,O9,IC,Vz];omega
theorem ao4 (v:Value) (p:Pl) (id:Int) (w:World) (h:D6 w v p) (hl:p.AQ.length<=1099511627776) :
  Calls prog 23 #[v,.int .i64 id] w fun e w'=>e=.returned (.int .i64 (Oe p.AQ id))/\AU w w':=by
 obtain ⟨vn,_,vf,al,rfl,hpa,-,⟨⟨An,cn,rfl,hn1,hn2,hR⟩,hV⟩,-⟩:=h;unfold maxLen at hn2;rw [hpa] at hl ⊢;rw [CV] at hl;clear hpa;have HV:=AB hV;clear hV;go_enter func23,ntmps23;go_wp2_with fail;go_loopw [4,10] (fun n i wr=>∃ k:Nat,k<=al.length/\i=.int .i64 k/\n=.int .i64 (Oe ((al.take k).map (·.1)) id)/\AU w wr) (fun _ i _=>al.length-(intOf i).toNat)
 case atStart => exact ⟨0,BX _,rfl,rfl,bA (bR w) _⟩
 case round =>
  obtain ⟨k,hk,rfl,rfl,hb⟩:=hrel;have Hb:=AB hb;clear hb;have hd:=ahx ((al.take k).map (·.1)) id;have hl2:((al.take k).map (·.1)).length<=al.length:=by simp;omega
  by_cases hlt:k<al.length
  ·obtain ⟨b,o,rfl,hlb,c0,c1,c2,c3,c4,c5⟩:=(hR.mono Hb.1).ar hlt;clear hR;obtain ⟨Av,cv,hv,-⟩:=(HV.1 k hlt);rw [hv] at c3;clear hv;have Hs:=AB (ahy al id k hlt);generalize Oe ((al.take k).map (·.1)) id=d at *;go_wp2
   all_goals
    go_roundw
    case rel => exact ⟨k+1,AA,BG,by rw [Hs.1];simp_all<;>go_num,bA Hb.1 _⟩
    case measure => exact BH
  ·have hE:(al.take k).map (·.1)=al.map (·.1):=by rw [IE AA]
   rw [hE];go_wp2;go_ret;exact ⟨D8 rfl,Hb.1⟩
theorem aon (v:Value) (p:Pl) (id:Int) (w:World) (h:D6 w v p) (hl:p.AQ.length<=1099511627776) :
  Calls prog 137 #[v,.int .i64 id] w fun e w'=>e=.returned (.int .i64 (Oe p.AQ id))/\AU w w':=by
 obtain ⟨vn,_,vf,al,rfl,hpa,-,⟨⟨An,cn,rfl,hn1,hn2,hR⟩,hV⟩,-⟩:=h;unfold maxLen at hn2;rw [hpa] at hl ⊢;rw [CV] at hl;clear hpa hV;go_enter func137,ntmps137;go_wp2_with fail;go_loopw [5,6] (fun n i wr=>∃ k:Nat,k<=al.length/\i=.int .i64 k/\n=.int .i64 (Oe ((al.take k).map (·.1)) id)/\AU w wr/\AO wr w.heap.size 34 #[vn,.slice An al.length cn,vf]) (fun _ i _=>al.length-(intOf i).toNat)
 case atStart => exact ⟨0,BX _,rfl,rfl,bA (bR w) _,AO.made rfl _ _⟩
 case round =>
  obtain ⟨k,hk,rfl,rfl,hb,X2⟩:=hrel;have Hb:=AB hb;clear hb;obtain ⟨Bh,Bq,Bv,CS,-⟩:=X2.Az;have hd:=ahx ((al.take k).map (·.1)) id;have hl2:((al.take k).map (·.1)).length<=al.length:=by simp;omega
  by_cases hlt:k<al.length
  ·obtain ⟨b,o,rfl,hlb,c0,c1,c2,-,c4,c5⟩:=(hR.mono Hb.1).ar hlt;clear hR;have Hs:=AB (ahy al id k hlt);generalize Oe ((al.take k).map (·.1)) id=d at *;go_wp2
   all_goals
    go_roundw
    case rel => exact ⟨k+1,AA,BG,by rw [Hs.1];simp_all<;>go_num,Hb.1,X2⟩
    case measure => exact BH
  ·have hE:(al.take k).map (·.1)=al.map (·.1):=by rw [IE AA]
   rw [hE];go_wp2;go_ret;exact ⟨D8 rfl,Hb.1⟩
def OE (l:List Int):Bool:=(List.range (l.length-1)).all fun j=>decide (l.getD j 0<l.getD (j+1) 0)
theorem ad6 (l:List Int) (h:∀ j (hj:j+1<l.length),l[j]<l[j+1]):OE l=true:=by
 unfold OE;rw [LK];intro j hj;have hj':j+1<l.length:=by have:=FQ.1 hj;omega
 have:=h j hj'
 simp [List.getD,Di hj',Di (show j<l.length by omega),this]
theorem ahz (l:List Int) (j:Nat) (hj:j+1<l.length) (h:¬ l[j]<l[j+1]):OE l=false:=by
 unfold OE;rw [dU];refine ⟨j,FQ.2 AA,?_⟩;simp [List.getD,Di hj,Di (show j<l.length by omega)];omega
theorem ad7 (v:Value) (l:List Int) (w:World) (h:Ints w v l) :
  Calls prog 47 #[v] w fun e w'=>e=.returned (.bool (OE l))/\AU w w':=by
 obtain ⟨A,c,rfl,hn,hc,hR⟩:=h;unfold maxLen at hc;go_enter func47,ntmps47;go_wp2_with fail;go_loopw [3] (fun i wr=>∃ m:Nat,i=.int .i64 ((m:Int)+1)/\(m=0\/m+1<=l.length)/\AU w wr/\∀ j (hj:j+1<l.length),j<m->l[j]<l[j+1]) (fun i _=>l.length+1-(intOf i).toNat)
 case atStart => exact ⟨0,rfl,.inl rfl,bR w,fun j _ h=>AA⟩
 case round =>
  obtain ⟨m,rfl,hm,hb,hno⟩:=hrel;have Hb:=AB hb;have Hno:=AB hno;clear hb hno;by_cases hlt:m+1<l.length
  ·obtain ⟨b,o,rfl,hlb,c1⟩:=(hR.mono Hb.1).int hlt;obtain ⟨b',o',e,VF,c0⟩:=(hR.mono Hb.1).int (show m<l.length by omega);simp only [Gt,Addr.mk.injEq,and_true] at e;obtain ⟨rfl,rfl⟩:=e;clear hR hm;have q1:IntKind.i64.wrap (m:Int)=m:=Jw _ AA;have q2:0<=(m:Int):=AA
   have q3:(m:Int)<l.length:=AA
   have q4:(m:Int)+1<l.length:=AA
   have q5:0<=(m:Int)+1:=AA
   have q6:((m:Int)+1).toNat=m+1:=AA
   go_upto_region 4 with fail;refine D9 (wr) (.run 10 0 0 (.done)) fun CQ QR Ae Aj hS=>?_
   iterate 10 refine Ak ?_
   refine D5 ?_;clear hS Aj Ae;intro hB;have Bw:AU w wr.drew:=bT Hb.1 hB;clear hB;by_cases hlt2:l[m]<l[m+1]
   ·go_wp2;go_roundw
    case rel => exact ⟨m+1,BG,.inr AA,Bw,fun j hj hjm=>if e:j<m then Hno.1 j hj e else by
      have:j=m:=AA
      subst this;exact hlt2⟩
    case measure => exact BH
   ·have hf:=AB (ahz l m hlt hlt2);go_wp2;go_ret;exact ⟨CP hf.1.symm,Bw⟩
  ·have hf:=AB (ad6 l fun j hj=>Hno.1 j hj AA);go_wp2;go_ret;exact ⟨CP hf.1.symm,Hb.1⟩
theorem aoo {α:Type} {a b:List α} (hl:a.length=b.length) (h:∀ j (hj:j<a.length),a[j]=b[j]):a=b :=
 dV hl fun j h1 _=>h j h1
theorem aop {α:Type} {a b:List α} (j:Nat) (hj:j<a.length) (hj':j<b.length) (h:¬ a[j]=b[j]):¬ a=b:=by
 rintro rfl;exact h rfl
theorem aoq (v u:Value) (l m:List Pt) (w:World) (h:CZ w v l) (h':CZ w u m) :
  Calls prog 78 #[v,u] w fun e w'=>e=.returned (.bool (decide (l=m)))/\AU w w':=by
 obtain ⟨A,c,rfl,hn,hc,hR⟩:=h;obtain ⟨A',c',rfl,hn',hc',hR'⟩:=h';unfold maxLen at hc hc';by_cases hlen:l.length=m.length
 case neg =>
  have hf:=AB (Fg (fun e:l=m=>hlen (congrArg List.length e)));have hl1:((l.length:Int) != (m.length:Int))=true:=by rw [bne_iff_ne];omega
  have hl2:(l.length != m.length)=true:=by rw [bne_iff_ne];omega
  clear hlen;go_enter func78,ntmps78;go_wp2;go_ret;exact ⟨CP hf.1.symm,bR w⟩
 case pos =>
 have hl1:((l.length:Int) != (m.length:Int))=false:=by simp [hlen]
 have hl2:(l.length != m.length)=false:=by simp [hlen]
 have Hlen:=AB hlen;clear hlen;go_enter func78,ntmps78;go_wp2_with fail;go_loopw [5] (fun i wr=>∃ k:Nat,k<=l.length/\i=.int .i64 k/\AU w wr/\∀ j (hj:j<l.length) (hj':j<m.length),j<k->l[j]=m[j]) (fun i _=>l.length-(intOf i).toNat)
 case atStart => exact ⟨0,BX _,rfl,bR w,fun j _ _ h=>AA⟩
 case round =>
  obtain ⟨k,hk,rfl,hb,hno⟩:=hrel;have Hb:=AB hb;have Hno:=AB hno;clear hb hno hl1 hl2;by_cases hlt:k<l.length
  ·have hlt':k<m.length:=by have:=Hlen.1;omega
   obtain ⟨b,o,rfl,hlb,c0,c1⟩:=(hR.mono Hb.1).pt hlt;obtain ⟨b',o',rfl,VF,c0q,c1q⟩:=(hR'.mono Hb.1).pt hlt';clear hR hR';have q1:0<=(k:Int):=AA
   have q2:(k:Int)<l.length:=AA
   have q3:(k:Int)<m.length:=AA
   by_cases he:l[k]=m[k]
   ·have hd:decide (l[k]=m[k])=true:=by simpa using he
    have He:=AB he;clear he;have hE:=lX l[k] m[k];go_upto_region 6 with fail;refine D9 (wr) (.run 9 0 0 (.done)) fun CQ QR Ae Aj hS=>?_
    iterate 9 refine Ak ?_
    refine D5 ?_;clear hS Aj Ae;intro hB;have Bw:AU w wr.drew:=bT Hb.1 hB;clear hB;go_wp2;go_roundw
    case rel => exact ⟨k+1,AA,BG,Bw,fun j hj hj' hjk=>if e:j<k then Hno.1 j hj hj' e else by
      have:j=k:=AA
      subst this;exact He.1⟩
    case measure => exact BH
   ·have hd:decide (l[k]=m[k])=false:=by simpa using he
    have He:=AB he;clear he;have hE:=lX l[k] m[k];go_upto_region 6 with fail;refine D9 (wr) (.run 9 0 0 (.done)) fun CQ QR Ae Aj hS=>?_
    iterate 9 refine Ak ?_
    refine D5 ?_;clear hS Aj Ae;intro hB;have Bw:AU w wr.drew:=bT Hb.1 hB;clear hB;go_wp2;go_ret;exact ⟨CP (Fg (aop k hlt hlt' He.1)).symm,Bw⟩
  ·have hf:=AB (JB (aoo Hlen.1 fun j hj=>Hno.1 j hj (by have:=Hlen.1;omega) AA));go_wp2;go_ret;exact ⟨CP hf.1.symm,Hb.1⟩
theorem Ar.ext_iff' {a b:Ar}:a=b↔a.id=b.id/\a.fr=b.fr/\a.dst=b.dst/\a.left=b.left/\a.right=b.right/\a.via=b.via:=by
 cases a;cases b;simp;intros;constructor<;>(rintro ⟨h1,h2,h3⟩;exact ⟨KX,KX,KX⟩)
theorem aor (a b:Ar) (va vb:Value) (w:World) (ha:CZ w va a.via) (hb:CZ w vb b.via) :
  Calls prog 40 #[Uj a va,Uj b vb] w fun e w'=>e=.returned (.bool (decide (a=b)))/\AU w w':=by
 have TP:∀ W,AU w W->Calls prog 78 #[va,vb] W _:=fun W hW=>aoq va vb a.via b.via W (ha.mono hW) (hb.mono hW);obtain ⟨A,c,rfl,-⟩:=ha;obtain ⟨A',c',rfl,-⟩:=hb;have HP:=AB TP;clear TP;generalize hl:a.via.length=l at *;generalize hl':b.via.length=l' at *;have hx:=@Ar.ext_iff' a b;have Hx:=AB hx;clear hx hl hl';unfold Uj
 cases hid:(a.id == b.id)
 case false =>
  have hf:=AB (Fg (fun e:a=b=>by have:=(Hx.1.1 e);simp_all):decide (a=b)=false);go_enter func40,ntmps40;go_wp2;go_ret;refine ⟨CP hf.1.symm,?_⟩;exact Dy
 case true =>
 cases hfr:(a.fr == b.fr)
 case false =>
  have hf:=AB (Fg (fun e:a=b=>by have:=(Hx.1.1 e);simp_all):decide (a=b)=false);go_enter func40,ntmps40;go_wp2;go_ret;refine ⟨CP hf.1.symm,?_⟩;exact Dy
 case true =>
 cases hto:(a.dst == b.dst)
 case false =>
  have hf:=AB (Fg (fun e:a=b=>by have:=(Hx.1.1 e);simp_all):decide (a=b)=false);go_enter func40,ntmps40;go_wp2;go_ret;refine ⟨CP hf.1.symm,?_⟩;exact Dy
 case true =>
 cases hleft:(a.left == b.left)
 case false =>
  have hf:=AB (Fg (fun e:a=b=>by have:=(Hx.1.1 e);simp_all):decide (a=b)=false);go_enter func40,ntmps40;go_wp2;go_ret;refine ⟨CP hf.1.symm,?_⟩;exact Dy
 case true =>
 cases hright:(a.right == b.right)
 case false =>
  have hf:=AB (Fg (fun e:a=b=>by have:=(Hx.1.1 e);simp_all):decide (a=b)=false);go_enter func40,ntmps40;go_wp2;go_ret;refine ⟨CP hf.1.symm,?_⟩;exact Dy
 case true =>
 cases hv:decide (a.via=b.via)
 all_goals
  have hf:decide (a=b)=decide (a.via=b.via):=by
   rw [Jh,decide_eq_true_iff,decide_eq_true_iff,Hx.1];simp only [beq_iff_eq] at *;constructor
   · intro h;exact h.2.2.2.2.2
   · intro h;exact ⟨KX,KX,KX,KX,KX,h⟩
  rw [hv] at hf;have Hf:=AB hf;clear hf;go_enter func40,ntmps40;go_wp2_with fail;refine (HP.1 _ (bA (bA (bR w) _) _)).mono ?_;rintro e w1 ⟨rfl,hb1⟩;rw [hv];go_wp2;go_ret;exact ⟨CP Hf.1.symm,bT (bA (bA (bR w) _) _) hb1⟩
theorem QX {α:Type} (l:List α) (q:α->Bool) (k:Nat) (hk:k<l.length) (h:q l[k]=true):l.any q=true:=OA.2 ⟨l[k],BO hk,h⟩
theorem SS {α:Type} (l:List α) (q:α->Bool) (h:∀ j (hj:j<l.length),q l[j]=false):l.any q=false:=by
 rw [MB];intro x hx;obtain ⟨i,hi,rfl⟩:=EF.1 hx;simp [h i hi]
def Eu (l:List Int) (n:Int):Bool:=l.any (fun x=>x == n) || n == 0
theorem aos (v:Value) (p:Pl) (n:Int) (w:World) (h:D6 w v p) :
  Calls prog 84 #[v,.int .i64 n] w fun e w'=>e=.returned (.bool (Eu p.faces n))/\AU w w':=by
 obtain ⟨vn,va,_,al,rfl,hpa,-,-,⟨Af,cf,rfl,hn1,hn2,hR⟩⟩:=h;unfold maxLen at hn2;generalize p.faces=l at *;clear hpa;go_enter func84,ntmps84;go_wp2_with fail;go_loopw [5] (fun i wr=>∃ k:Nat,k<=l.length/\i=.int .i64 k/\AU w wr/\AO wr w.heap.size 34 #[vn,va,.slice Af l.length cf]/\∀ j (hj:j<l.length),j<k->(l[j] == n)=false) (fun i _=>l.length-(intOf i).toNat)
 case atStart => exact ⟨0,BX _,rfl,bA (bR w) _,AO.made rfl _ _,fun j _ h=>AA⟩
 case round =>
  obtain ⟨k,hk,rfl,hb,X2,hno⟩:=hrel;have Hb:=AB hb;have Hno:=AB hno;clear hb hno;obtain ⟨Bh,Bq,Bv,CS,-⟩:=X2.Az;by_cases hlt:k<l.length
  ·obtain ⟨b,o,rfl,hlb,c0⟩:=(hR.mono Hb.1).int hlt;clear hR
   cases he:(l[k] == n)
   ·go_wp2;go_roundw
    case rel => exact ⟨k+1,AA,BG,Hb.1,X2,all_succ (p:=fun x=>(x == n)=false) Hno.1 hlt he⟩
    case measure => exact BH
   ·have hf:=AB (QX l (fun x=>x == n) k hlt he);go_wp2;go_ret;exact ⟨CP (by rw [Eu,hf.1];rfl),Hb.1⟩
  ·have hf:=AB (SS l (fun x=>x == n) (fun j hj=>Hno.1 j hj AA));go_wp2;go_ret;exact ⟨CP (by rw [Eu,hf.1];simp),Hb.1⟩
def KD (p:Pl):Bool:=p.AQ.any (fun a=>decide (64<a.via.length)) || (decide (256<p.nodes.length) || decide (256<p.AQ.length) || decide (64<p.faces.length))
theorem aot (v:Value) (p:Pl) (w:World) (h:D6 w v p) :
  Calls prog 79 #[v] w fun e w'=>e=.returned (.bool (KD p))/\AU w w':=by
 obtain ⟨_,_,_,al,rfl,hpa,⟨An,cn,rfl,hn1,hn2,-⟩,⟨⟨Aa,ca,rfl,ha1,ha2,hR⟩,hV⟩,⟨Af,cf,rfl,hf1,hf2,-⟩⟩:=h;unfold maxLen at hn2 ha2 hf2;have hS:KD p=(al.any (fun a=>decide (64<a.1.via.length)) || (decide (256<p.nodes.length) || decide (256<al.length) || decide (64<p.faces.length))):=by
  rw [KD,hpa,XW,CV];rfl
 rw [hS];clear hS hpa;generalize p.nodes.length=nn at *;generalize p.faces.length=nf at *;have HV:=AB hV;clear hV;go_enter func79,ntmps79;go_wp2_with fail;go_loopw [3] (fun i wr=>∃ k:Nat,k<=al.length/\i=.int .i64 k/\AU w wr/\AO wr w.heap.size 34 #[.slice An nn cn,.slice Aa al.length ca,.slice Af nf cf]/\∀ j (hj:j<al.length),j<k->decide (64<al[j].1.via.length)=false) (fun i _=>al.length-(intOf i).toNat)
 case atStart => exact ⟨0,BX _,rfl,bA (bR w) _,AO.made rfl _ _,fun j _ h=>AA⟩
 case round =>
  obtain ⟨k,hk,rfl,hb,X2,hno⟩:=hrel;have Hb:=AB hb;have Hno:=AB hno;clear hb hno;obtain ⟨Bh,Bq,Bv,CS,-⟩:=X2.Az;by_cases hlt:k<al.length
  ·obtain ⟨b,o,rfl,hlb,c0,c1,c2,c3,c4,c5⟩:=(hR.mono Hb.1).ar hlt;clear hR;obtain ⟨Av,cv,hv,hvc,hvm,-⟩:=HV.1 k hlt;rw [hv] at c3;clear hv;unfold maxLen at hvm;by_cases he:64<al[k].1.via.length
   ·have hf:=AB (QX al (fun a=>decide (64<a.1.via.length)) k hlt (JB he));go_wp2;go_ret;exact ⟨CP (by rw [hf.1];rfl),Hb.1⟩
   ·have he':=AB (Fg he);go_wp2;go_roundw
    case rel => exact ⟨k+1,AA,BG,Hb.1,X2,all_succ (p:=fun x=>decide (64<x.1.via.length)=false) Hno.1 hlt he'.1⟩
    case measure => exact BH
  ·have hf:=AB (SS al (fun a=>decide (64<a.1.via.length)) (fun j hj=>Hno.1 j hj AA));go_wp2_with fail
   all_goals
    go_ret;refine ⟨CP (by rw [hf.1,Jh];simp only [yL,Ir,Dq,true_iff,QL,false_iff];omega),Hb.1⟩
def aaH (w:World) (b:Bool) (e:Ending) (w':World):Prop:=∃ r:Int,e=.returned (.int .i64 r)/\decide (0<=r)=b/\AU w w'
theorem aou (v:Value) (l:List Int) (x:Int) (w:World) (h:Ints w v l) :
  Calls prog 141 #[v,.int .i64 x] w (aaH w (l.any fun y=>y == x)):=by
 obtain ⟨A,c,rfl,hn,hc,hR⟩:=h;unfold maxLen at hc;go_enter func141,ntmps141;go_wp2_with fail;go_loopw [8] (fun i wr=>∃ k:Nat,k<=l.length/\i=.int .i64 k/\AU w wr/\∀ j (hj:j<l.length),j<k->(fun y=>y == x) l[j]=false) (fun i _=>l.length-(intOf i).toNat)
 case atStart => exact ⟨0,BX _,rfl,bR w,fun j _ h=>AA⟩
 case round =>
  obtain ⟨k,hk,rfl,hb,hno⟩:=hrel;have Hb:=AB hb;have Hno:=AB hno;clear hb hno;by_cases hlt:k<l.length
  ·obtain ⟨b,o,rfl,hlb,c0⟩:=(hR.mono Hb.1).int hlt;clear hR
   cases he:(l[k] == x)
   ·go_wp2;go_roundw
    case rel => exact ⟨k+1,AA,BG,Hb.1,all_succ (p:=fun y=>(fun y=>y == x) y=false) Hno.1 hlt he⟩
    case measure => exact BH
   ·have hf:=AB (QX l (fun y=>y == x) k hlt he);have he2:(x == l[k])=true:=by simpa using (beq_iff_eq.1 he).symm
    go_wp2;go_ret;exact ⟨k,rfl,dN,Hb.1⟩
  ·have hf:=AB (SS l (fun y=>y == x) (fun j hj=>Hno.1 j hj AA));go_wp2;go_ret;exact ⟨-1,rfl,dN,Hb.1⟩
theorem aov (v:Value) (l:List Int) (p:Int->Bool) (w:World) (h:Ints w v l)
  (hg:∀ y W,Calls prog 90 #[(.int .i64 y)] W fun e w'=>e=.returned (.bool (p y))/\AU W w') :
  Calls prog 139 #[v,.func (.func 90) #[] #[]] w (aaH w (l.any p)):=by
 obtain ⟨A,c,rfl,hn,hc,hR⟩:=h;unfold maxLen at hc;have HG:=AB hg;clear hg;go_enter func139,ntmps139;go_wp2_with fail;go_loopw [8] (fun i wr=>∃ k:Nat,k<=l.length/\i=.int .i64 k/\AU w wr/\∀ j (hj:j<l.length),j<k->(p) l[j]=false) (fun i _=>l.length-(intOf i).toNat)
 case atStart => exact ⟨0,BX _,rfl,bR w,fun j _ h=>AA⟩
 case round =>
  obtain ⟨k,hk,rfl,hb,hno⟩:=hrel;have Hb:=AB hb;have Hno:=AB hno;clear hb hno;by_cases hlt:k<l.length
  ·obtain ⟨b,o,rfl,hlb,c0⟩:=(hR.mono Hb.1).int hlt;clear hR;go_wp2_with fail;refine (HG.1 l[k] _).mono ?_;rintro e w1 ⟨rfl,hb1⟩;have Bw:AU w w1:=bT Hb.1 hb1;clear hb1
   cases he:p l[k]
   ·go_wp2;go_roundw
    case rel => exact ⟨k+1,AA,BG,Bw,all_succ (p:=fun y=>(p) y=false) Hno.1 hlt he⟩
    case measure => exact BH
   ·have hf:=AB (QX l (p) k hlt he);go_wp2;go_ret;exact ⟨k,rfl,dN,Bw⟩
  ·have hf:=AB (SS l (p) (fun j hj=>Hno.1 j hj AA));go_wp2;go_ret;exact ⟨-1,rfl,dN,Hb.1⟩
theorem aow (v:Value) (l:List Int) (p:Int->Bool) (w:World) (h:Ints w v l)
  (hg:∀ y W,Calls prog 90 #[(.int .i64 y)] W fun e w'=>e=.returned (.bool (p y))/\AU W w') :
  Calls prog 89 #[v,.func (.func 90) #[] #[]] w fun e w'=>e=.returned (.bool (l.any p))/\AU w w':=by
 have T:=aov v l p w h hg;have HT:=AB T;clear T hg h;go_enter func89,ntmps89;go_wp2_with fail;refine HT.1.mono ?_;rintro e w1 ⟨r,rfl,hr,hb1⟩;have Hr:=AB hr;clear hr;go_wp2;go_ret;exact ⟨CP Hr.1,hb1⟩
theorem aox (v:Value) (l:List Pt) (p:Pt->Bool) (w:World) (h:CZ w v l)
  (hg:∀ y W,Calls prog 91 #[(.agg #[.int .i64 y.x,.int .i64 y.y])] W fun e w'=>e=.returned (.bool (p y))/\AU W w') :
  Calls prog 140 #[v,.func (.func 91) #[] #[]] w (aaH w (l.any p)):=by
 obtain ⟨A,c,rfl,hn,hc,hR⟩:=h;unfold maxLen at hc;have HG:=AB hg;clear hg;go_enter func140,ntmps140;go_wp2_with fail;go_loopw [8] (fun i wr=>∃ k:Nat,k<=l.length/\i=.int .i64 k/\AU w wr/\∀ j (hj:j<l.length),j<k->(p) l[j]=false) (fun i _=>l.length-(intOf i).toNat)
 case atStart => exact ⟨0,BX _,rfl,bR w,fun j _ h=>AA⟩
 case round =>
  obtain ⟨k,hk,rfl,hb,hno⟩:=hrel;have Hb:=AB hb;have Hno:=AB hno;clear hb hno;by_cases hlt:k<l.length
  ·obtain ⟨b,o,rfl,hlb,c0,c1⟩:=(hR.mono Hb.1).pt hlt;clear hR;go_wp2_with fail;refine (HG.1 l[k] _).mono ?_;rintro e w1 ⟨rfl,hb1⟩;have Bw:AU w w1:=bT Hb.1 hb1;clear hb1
   cases he:p l[k]
   ·go_wp2;go_roundw
    case rel => exact ⟨k+1,AA,BG,Bw,all_succ (p:=fun y=>(p) y=false) Hno.1 hlt he⟩
    case measure => exact BH
   ·have hf:=AB (QX l (p) k hlt he);go_wp2;go_ret;exact ⟨k,rfl,dN,Bw⟩
  ·have hf:=AB (SS l (p) (fun j hj=>Hno.1 j hj AA));go_wp2;go_ret;exact ⟨-1,rfl,dN,Hb.1⟩
theorem aoy (v:Value) (l:List Pt) (p:Pt->Bool) (w:World) (h:CZ w v l)
  (hg:∀ y W,Calls prog 91 #[(.agg #[.int .i64 y.x,.int .i64 y.y])] W fun e w'=>e=.returned (.bool (p y))/\AU W w') :
  Calls prog 92 #[v,.func (.func 91) #[] #[]] w fun e w'=>e=.returned (.bool (l.any p))/\AU w w':=by
 have T:=aox v l p w h hg;have HT:=AB T;clear T hg h;go_enter func92,ntmps92;go_wp2_with fail;refine HT.1.mono ?_;rintro e w1 ⟨r,rfl,hr,hb1⟩;have Hr:=AB hr;clear hr;go_wp2;go_ret;exact ⟨CP Hr.1,hb1⟩
theorem aaI (v:Value) (l:List Int) (x:Int) (w:World) (h:Ints w v l) :
  Calls prog 93 #[v,.int .i64 x] w fun e w'=>e=.returned (.bool (l.any (fun y=>y == x)))/\AU w w':=by
 have T:=aou v l x w h;have HT:=AB T;clear T h;go_enter func93,ntmps93;go_wp2_with fail;refine HT.1.mono ?_;rintro e w1 ⟨r,rfl,hr,hb1⟩;have Hr:=AB hr;clear hr;go_wp2;go_ret;exact ⟨CP Hr.1,hb1⟩
def Jp (n:Int):Bool:=decide (n<1) || decide (1073741824<n)
theorem aoz (n:Int) (w:World):Calls prog 90 #[.int .i64 n] w fun e w'=>e=.returned (.bool (Jp n))/\AU w w':=by
 by_cases h:n<1
 ·go_enter func90,ntmps90;go_wp2;go_ret;exact ⟨CP (by simp [Jp,h]),bR w⟩
 ·have h':decide (n<1)=false:=by simpa using h
  go_enter func90,ntmps90;go_wp2;go_ret;exact ⟨CP (by simp only [Jp,h',yL]),bR w⟩
theorem ad8 (v:Value) (l:List Int) (w:World) (h:Ints w v l) :
  Calls prog 48 #[v] w fun e w'=>e=.returned (.bool (!l.any Jp))/\AU w w':=by
 have T:=aow v l Jp w h (fun y W=>aoz y W);have HT:=AB T;clear T h;go_enter func48,ntmps48;go_wp2_with fail;refine HT.1.mono ?_;rintro e w1 ⟨rfl,hb1⟩;go_wp2;go_ret;exact ⟨CP rfl,hb1⟩
def GL (p:Pt):Bool:=decide (-1048576<=p.x) && decide (p.x<=1048576) && decide (-1048576<=p.y) && decide (p.y<=1048576)
theorem ap0 (p:Pt) (w:World):Calls prog 127 #[BA p] w fun e w'=>e=.returned (.bool (GL p))/\AU w w':=by
 unfold BA;go_enter func127,ntmps127;go_wp2_with fail
 all_goals
  go_ret;refine ⟨CP (by rw [GL,Jh];simp only [ER,Dq,true_iff,QL,false_iff];omega),?_⟩;exact Dy
