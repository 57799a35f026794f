import Derived.Test.YtpempeioeiaijaaGreatJ25
import Derived.Test.YtpempeioeiaijaaGreatJ15
set_option linter.unusedSimpArgs false
set_option linter.unusedVariables false
namespace Go.Proofs.YtpempeioeiaijaaGreat
open Go.RowKit Go.Sort

section
variable {α:Type} {f:α→List Pt} {xs:List α} {p:Pt}
theorem rm_head {k:Nat} (hk:k<xs.length) {L:List Pt} (hL:f xs[k]=L) (h0:0<L.length) (h:L[0]=p):rmeets (xs.map f) p=true:=by
 subst hL
 unfold rmeets
 rw [Bool.or_eq_true]
 refine .inl (anyk (q:=fun l=>decide (l.head? = some p) || decide (l.getLast? = some p)) hk ?_)
 rw [List.head?_eq_getElem?,List.getElem?_eq_getElem h0,h];simp
theorem rm_last {k:Nat} (hk:k<xs.length) {L:List Pt} (hL:f xs[k]=L) (h0:L.length-1<L.length) (h:L[L.length-1]=p):rmeets (xs.map f) p=true:=by
 subst hL
 unfold rmeets
 rw [Bool.or_eq_true]
 refine .inl (anyk (q:=fun l=>decide (l.head? = some p) || decide (l.getLast? = some p)) hk ?_)
 rw [List.getLast?_eq_getElem?,List.getElem?_eq_getElem h0,h];simp
theorem rm_end (h0:∀ k (hk:k<xs.length),0<(f xs[k]).length) (h1:∀ k (hk:k<xs.length) (h:0<(f xs[k]).length),(f xs[k])[0]≠p)
  (h2:∀ k (hk:k<xs.length) (h:(f xs[k]).length-1<(f xs[k]).length),(f xs[k])[(f xs[k]).length-1]≠p):rmeets (xs.map f) p=decide (2≤(xs.map f).flatten.count p):=by
 unfold rmeets
 rw [anyn (q:=fun l=>decide (l.head? = some p) || decide (l.getLast? = some p)) fun k hk=>?_,Bool.false_or]
 have:=h0 k hk
 rw [List.getLast?_eq_getElem?,List.head?_eq_getElem?,List.getElem?_eq_getElem (show (f xs[k]).length-1<(f xs[k]).length by omega),List.getElem?_eq_getElem this]
 have a1:=h1 k hk this
 have a2:=h2 k hk (by omega)
 simp [a1,a2]
def cntK (f:α→List Pt) (xs:List α) (p:Pt) (k:Nat):Nat:=((xs.take k).map f).flatten.count p
theorem cntK_zero:cntK f xs p 0=0:=by simp [cntK]
theorem cntK_succ {k:Nat} (hk:k<xs.length):cntK f xs p (k+1)=cntK f xs p k+(f xs[k]).count p:=by
 unfold cntK
 rw [List.take_succ_eq_append_getElem hk,List.map_append,List.flatten_append,List.count_append]
 simp
theorem cntK_all:cntK f xs p xs.length=(xs.map f).flatten.count p:=by unfold cntK;rw [List.take_length]
theorem count_take_succ {l:List Pt} {i:Nat} (hi:i<l.length):(l.take (i+1)).count p=(l.take i).count p+if l[i]=p then 1 else 0:=by
 rw [List.take_succ_eq_append_getElem hi,List.count_append]
 by_cases e:l[i]=p
 · rw [if_pos e,e];simp
 ·
  rw [if_neg e]
  have:[l[i]].count p=0:=List.count_eq_zero.2 (by simpa using fun h=>e h.symm)
  omega
end

set_option maxRecDepth 100000 in
set_option maxHeartbeats 8000000 in
theorem RMeets19_spec (v:Value) (xs:List (SV×List Pt)) (p:Pt) (w:World) (h:Lns19 w v xs) (hn:xs.length≤256) (hs:∀ k (hk:k<xs.length),xs[k].2.length≤4096) (h2:∀ k (hk:k<xs.length),2≤xs[k].2.length) :
  Calls Tryz.prog 29 #[v,.agg #[.int .i64 p.x,.int .i64 p.y]] w fun e w'=>e=.returned (.bool (rmeets (xs.map (·.2)) p))∧Below w.heap.size w w':=by
 obtain ⟨⟨A,c,rfl,hc1,hc2,hR⟩,hP⟩:=h
 unfold maxLen at hc2
 have HR:=Lib.hid hR;have HP:=Lib.hid hP;have HS:=Lib.hid hs;have H2:=Lib.hid h2
 have Hhd:=Lib.hid (fun k (hk:k<xs.length) L hL h0 h=>rm_head (f:=fun x:SV×List Pt=>x.2) (p:=p) (k:=k) hk (L:=L) hL h0 h)
 have Hla:=Lib.hid (fun k (hk:k<xs.length) L hL h0 h=>rm_last (f:=fun x:SV×List Pt=>x.2) (p:=p) (k:=k) hk (L:=L) hL h0 h)
 have Hen:=Lib.hid (fun h1 h2'=>rm_end (f:=fun x:SV×List Pt=>x.2) (xs:=xs) (p:=p) (fun k hk=>by have:=h2 k hk;omega) h1 h2')
 obtain ⟨q,hq⟩:∃ q,rmeets (xs.map (·.2)) p=q:=⟨_,rfl⟩
 rw [hq] at Hhd Hla Hen ⊢
 clear hR hP hs hq h2
 go_enter Tryz.func29,Tryz.ntmps29
 go_upto_block 0 with fail
 obtain ⟨W1,hW⟩:∃ W1:World,W1=w.alloc (.cells #[.int .i64 p.x,.int .i64 p.y] 42):=⟨_,rfl⟩
 have HX1:=Lib.hid (show Blk W1 w.heap.size 42 #[.int .i64 p.x,.int .i64 p.y] by rw [hW];exact Blk.made rfl _ _)
 have HB1:=Lib.hid (show Below w.heap.size w W1 by rw [hW];exact bA (bR w) _)
 rw [← hW]
 clear hW
 go_wp2_with fail
 go_loopw [5,6] (fun n u wr=>∃ k:Nat,k≤xs.length∧u=.int .i64 k∧n=.int .i64 (cntK (·.2) xs p k:Nat)∧cntK (·.2) xs p k≤4096*k∧Below W1.heap.size W1 wr
   ∧ (∀ j (hj:j<xs.length),j<k→∀ h:0<xs[j].2.length,xs[j].2[0]≠p)∧(∀ j (hj:j<xs.length),j<k→∀ h:xs[j].2.length-1<xs[j].2.length,xs[j].2[xs[j].2.length-1]≠p)) (fun _ u _=>xs.length-(intOf u).toNat)
 case atStart => exact ⟨0,Nat.zero_le _,rfl,by rw [cntK_zero];rfl,by rw [cntK_zero];omega,bR _,fun _ _ h=>by omega,fun _ _ h=>by omega⟩
 case round =>
  obtain ⟨k,hk,rfl,rfl,hcb,hb,hn1,hn2⟩:=hrel
  obtain ⟨wo,rfl⟩:∃ wo:World,wo=wr:=⟨_,rfl⟩
  have HN1:=Lib.hid hn1;have HN2:=Lib.hid hn2;have Hb:=Lib.hid hb
  have X1:=HX1.out.keep hb
  clear hn1 hn2 hb
  by_cases hlt:k<xs.length
  ·
   have HC:=Lib.hid (cntK_succ (f:=fun x:SV×List Pt=>x.2) (p:=p) hlt)
   obtain ⟨n,hnn⟩:∃ n,cntK (·.2) xs p k=n:=⟨_,rfl⟩
   rw [hnn] at hcb HC ⊢
   clear hnn
   obtain ⟨b,o,rfl,hlb0,hc0⟩:=HR.out.lnK hlt
   obtain ⟨A1,c1,hv1,hc3,hc4,hR1⟩:=HP.out k hlt
   have hk1:=HS.out k hlt;have hk2:=H2.out k hlt
   have HR1:=Lib.hid hR1
   rw [hv1] at hc0
   unfold maxLen at hc4
   clear hv1 hR1
   obtain ⟨L,hL⟩:∃ L,xs[k].2=L:=⟨_,rfl⟩
   simp only [hL] at hc0 HR1 hk1 hk2 hc3 HC
   have HL:=Lib.hid hL
   have Hhk:=Lib.hid (Hhd.out k hlt L HL.out);have Hlk:=Lib.hid (Hla.out k hlt L HL.out)
   have HC0:=Lib.hid (fun W (hW:Below W1.heap.size W1 W)=>hc0 W (bT HB1.out hW))
   have y1:(k:Int)<xs.length:=by omega
   have y2:(0:Int)≤k:=by omega
   have hlb:b<wo.heap.size:=Nat.lt_of_lt_of_le hlb0 (bT HB1.out Hb.out).size
   have c0:=HC0.out _ Hb.out
   clear hL hc0
   have HRo:=Lib.hid (fun W (hW:Below W1.heap.size W1 W)=>HR1.out.mono (bT HB1.out hW))
   obtain ⟨b1,o1,hA1,hlb1,d0,d1⟩:=(HRo.out _ Hb.out).pt (k:=0) (by omega)
   obtain ⟨b2,o2,hA2,-,f0,f1⟩:=(HRo.out _ Hb.out).pt (k:=L.length-1) (by omega)
   rw [hA1] at hA2
   simp only [Option.some.injEq,Addr.mk.injEq,and_true] at hA2
   obtain ⟨rfl,rfl⟩:=hA2
   subst hA1
   simp only [Nat.zero_mul,Nat.add_zero] at d0 d1
   obtain ⟨a,ha⟩:∃ a,L[0]'(by omega)=a:=⟨_,rfl⟩
   obtain ⟨z,hz⟩:∃ z,L[L.length-1]'(by omega)=z:=⟨_,rfl⟩
   obtain ⟨m,hm⟩:∃ m,L.length-1=m:=⟨_,rfl⟩
   rw [ha] at d0 d1
   rw [hz] at f0 f1
   rw [hm] at f0 f1
   have Ha:=Lib.hid ha;have Hz:=Lib.hid hz
   have e0:IntKind.i64.wrap ((L.length:Int)-1)=m:=by rw [IntWalk.i64_in _ (by omega)];omega
   have z1:(m:Int)<L.length:=by omega
   have z2:(0:Int)≤(m:Int):=by omega
   have z3:0<L.length:=by omega
   clear ha hz hm
   have HX1o:=Lib.hid X1
   obtain ⟨X1l,X1a,X1b,-,-⟩:=X1.facts2
   by_cases hap:a=p
   ·
    have H9:=Lib.hid (Hhk.out (by omega) (by rw [Ha.out];exact hap))
    have heq:∀ W,(binOp .eql 42 (.agg #[.int .i64 a.x,.int .i64 a.y]) (.agg #[.int .i64 p.x,.int .i64 p.y])).run Tryz.prog W=.ok (.bool true) W:=fun W=>by rw [run_eql_pt];simp [hap]
    clear hap
    go_upto_region 5 with fail
    refine rg_start (Since wo) (.run 24 0 0 (.done)) (by kernel_rfl) (bD (bR _)) (by kernel_rfl) (by kernel_rfl) (Nat.le_of_ble_eq_true (by kernel_rfl)) ?_
    intro opsR QR Hops HQrg hS
    iterate 9
     apply rg_p;exact Hops;exact rfl;exact hS;exact rfl
     · intro _ hqc;go_simp;try rfl
     try simp only [pu]
    iterate 14
     refine rg_yn Hops rfl hS rfl rfl rfl rfl rfl ?_
     try simp only [pu]
    apply rg_p;exact Hops;exact rfl;exact hS;exact rfl
    · intro _ hqc;go_simp;try rfl
    try simp only [pu]
    refine rg_done ?_
    refine HQrg.down _ _ ?_
    have hB:Below wo.heap.size wo wo.drew:=hS
    clear hS HQrg Hops
    go_wp2_with fail
    go_ret
    exact ⟨ret_bool H9.out.symm,bT HB1.out (bT Hb.out hB)⟩
   ·
    have Hap:=Lib.hid hap
    have heq:∀ W,(binOp .eql 42 (.agg #[.int .i64 a.x,.int .i64 a.y]) (.agg #[.int .i64 p.x,.int .i64 p.y])).run Tryz.prog W=.ok (.bool false) W:=fun W=>by rw [run_eql_pt];simp [hap]
    clear hap
    by_cases hzp:z=p
    ·
     have H9:=Lib.hid (Hlk.out (by omega) (by rw [Hz.out];exact hzp))
     have heq2:∀ W,(binOp .eql 42 (.agg #[.int .i64 z.x,.int .i64 z.y]) (.agg #[.int .i64 p.x,.int .i64 p.y])).run Tryz.prog W=.ok (.bool true) W:=fun W=>by rw [run_eql_pt];simp [hzp]
     clear hzp
     go_upto_region 5 with fail
     refine rg_start (Since wo) (.run 24 0 0 (.done)) (by kernel_rfl) (bD (bR _)) (by kernel_rfl) (by kernel_rfl) (Nat.le_of_ble_eq_true (by kernel_rfl)) ?_
     intro opsR QR Hops HQrg hS
     iterate 9
      apply rg_p;exact Hops;exact rfl;exact hS;exact rfl
      · intro _ hqc;go_simp;try rfl
      try simp only [pu]
     iterate 14
      apply rg_g;exact Hops;exact rfl;exact hS;iterate 4 exact rfl
      · intro _ hqc;go_simp;try rfl
      try simp only [pu]
     apply rg_p;exact Hops;exact rfl;exact hS;exact rfl
     · intro _ hqc;go_simp;try rfl
     try simp only [pu]
     refine rg_done ?_
     refine HQrg.down _ _ ?_
     have hB:Below wo.heap.size wo wo.drew:=hS
     clear hS HQrg Hops
     go_wp2_with fail
     go_ret
     exact ⟨ret_bool H9.out.symm,bT HB1.out (bT Hb.out hB)⟩
    ·
     have Hzp:=Lib.hid hzp
     have heq2:∀ W,(binOp .eql 42 (.agg #[.int .i64 z.x,.int .i64 z.y]) (.agg #[.int .i64 p.x,.int .i64 p.y])).run Tryz.prog W=.ok (.bool false) W:=fun W=>by rw [run_eql_pt];simp [hzp]
     clear hzp
     go_upto_region 5 with fail
     refine rg_start (Since wo) (.run 24 0 0 (.done)) (by kernel_rfl) (bD (bR _)) (by kernel_rfl) (by kernel_rfl) (Nat.le_of_ble_eq_true (by kernel_rfl)) ?_
     intro opsR QR Hops HQrg hS
     iterate 9
      apply rg_p;exact Hops;exact rfl;exact hS;exact rfl
      · intro _ hqc;go_simp;try rfl
      try simp only [pu]
     iterate 14
      apply rg_g;exact Hops;exact rfl;exact hS;iterate 4 exact rfl
      · intro _ hqc;go_simp;try rfl
      try simp only [pu]
     apply rg_p;exact Hops;exact rfl;exact hS;exact rfl
     · intro _ hqc;go_simp;try rfl
     try simp only [pu]
     refine rg_done ?_
     refine HQrg.down _ _ ?_
     have hB:Below wo.heap.size wo wo.drew:=hS
     clear hS HQrg Hops
     obtain ⟨W6,hW6⟩:∃ W:World,W=wo.drew:=⟨_,rfl⟩
     rw [← hW6] at hB ⊢
     have Hb6:=Lib.hid (bT Hb.out hB)
     clear hW6 hB heq heq2 d0 d1 f0 f1 c0 hlb hlb1 e0 X1l X1a X1b
     go_upto_block 2 with fail
     go_wp2_with fail
     go_loopw [5,7] (fun u5 u wr=>∃ i:Nat,i≤L.length∧u=.int .i64 i∧u5=.int .i64 ((n+(L.take i).count p:Nat))∧Below W1.heap.size W1 wr) (fun _ u _=>L.length-(intOf u).toNat)
     case atStart => exact ⟨0,Nat.zero_le _,rfl,by simp,Hb6.out⟩
     case round =>
      obtain ⟨i,hi,rfl,rfl,hb2⟩:=hrel
      obtain ⟨w5,rfl⟩:∃ w5:World,w5=wr:=⟨_,rfl⟩
      have Hb2:=Lib.hid hb2
      have X2:=HX1.out.keep hb2
      clear hb2
      have c0:=HC0.out _ Hb2.out
      have hlb:b<w5.heap.size:=Nat.lt_of_lt_of_le hlb0 (bT HB1.out Hb2.out).size
      by_cases hli:i<L.length
      ·
       obtain ⟨b3,o3,hA3,hlb3,d0,d1⟩:=(HRo.out _ Hb2.out).pt hli
       simp only [Option.some.injEq,Addr.mk.injEq,and_true] at hA3
       obtain ⟨rfl,rfl⟩:=hA3
       have Hct:=Lib.hid (count_take_succ (p:=p) hli)
       have hct:(L.take i).count p≤i:=Nat.le_trans List.count_le_length (by rw [List.length_take];omega)
       obtain ⟨r,hr⟩:∃ r,L[i]=r:=⟨_,rfl⟩
       obtain ⟨cn,hcn⟩:∃ cn,(L.take i).count p=cn:=⟨_,rfl⟩
       rw [hr] at d0 d1 Hct
       rw [hcn] at hct Hct ⊢
       clear hr hcn
       have z4:(i:Int)<L.length:=by omega
       have z5:(0:Int)≤i:=by omega
       obtain ⟨X2l,X2a,X2b,-,-⟩:=X2.facts2
       by_cases hrp:r=p
       ·
        have heq:∀ W,(binOp .eql 42 (.agg #[.int .i64 r.x,.int .i64 r.y]) (.agg #[.int .i64 p.x,.int .i64 p.y])).run Tryz.prog W=.ok (.bool true) W:=fun W=>by rw [run_eql_pt];simp [hrp]
        have Hc9:=Lib.hid (show (L.take (i+1)).count p=cn+1 by rw [Hct.out,if_pos hrp])
        clear hrp
        go_upto_region 10 with fail
        refine rg_start (Since w5) (.run 9 0 0 (.done)) (by kernel_rfl) (bD (bR _)) (by kernel_rfl) (by kernel_rfl) (Nat.le_of_ble_eq_true (by kernel_rfl)) ?_
        intro opsR QR Hops HQrg hS
        iterate 9
         apply rg_p;exact Hops;exact rfl;exact hS;exact rfl
         · intro _ hqc;go_simp;try rfl
         try simp only [pu]
        refine rg_done ?_
        refine HQrg.down _ _ ?_
        have hB:Below w5.heap.size w5 w5.drew:=hS
        clear hS HQrg Hops
        have Hb7:=Lib.hid (bT Hb2.out hB)
        clear hB heq d0 d1 c0 X2l X2a X2b
        go_wp2_with fail
        go_roundw
        case rel => exact ⟨i+1,by omega,by go_num,by rw [Hc9.out];first | done | (congr 1;first | done | omega | (rw [IntWalk.i64_in _ (by omega)];omega)),Hb7.out⟩
        case measure => simp [intOf];omega
       ·
        have heq:∀ W,(binOp .eql 42 (.agg #[.int .i64 r.x,.int .i64 r.y]) (.agg #[.int .i64 p.x,.int .i64 p.y])).run Tryz.prog W=.ok (.bool false) W:=fun W=>by rw [run_eql_pt];simp [hrp]
        have Hc9:=Lib.hid (show (L.take (i+1)).count p=cn by rw [Hct.out,if_neg hrp,Nat.add_zero])
        clear hrp
        go_upto_region 10 with fail
        refine rg_start (Since w5) (.run 9 0 0 (.done)) (by kernel_rfl) (bD (bR _)) (by kernel_rfl) (by kernel_rfl) (Nat.le_of_ble_eq_true (by kernel_rfl)) ?_
        intro opsR QR Hops HQrg hS
        iterate 9
         apply rg_p;exact Hops;exact rfl;exact hS;exact rfl
         · intro _ hqc;go_simp;try rfl
         try simp only [pu]
        refine rg_done ?_
        refine HQrg.down _ _ ?_
        have hB:Below w5.heap.size w5 w5.drew:=hS
        clear hS HQrg Hops
        have Hb7:=Lib.hid (bT Hb2.out hB)
        clear hB heq d0 d1 c0 X2l X2a X2b
        go_wp2_with fail
        go_roundw
        case rel => exact ⟨i+1,by omega,by go_num,by rw [Hc9.out],Hb7.out⟩
        case measure => simp [intOf];omega
      ·
       have hil:i=L.length:=by omega
       have Hc9:=Lib.hid (show (L.take i).count p=L.count p by rw [hil,List.take_length])
       have hcl:L.count p≤L.length:=List.count_le_length
       go_wp2_with fail
       go_roundw
       case rel => exact ⟨k+1,by omega,by go_num,by rw [HC.out,Hc9.out],by rw [HC.out];omega,Hb2.out,fun j hj hjk h0=>if e:j<k then HN1.out j hj e h0 else by
         have:j=k:=by omega
         subst this;simp only [HL.out,Ha.out];exact Hap.out,fun j hj hjk h0=>if e:j<k then HN2.out j hj e h0 else by
         have:j=k:=by omega
         subst this;simp only [HL.out,Hz.out];exact Hzp.out⟩
       case measure => simp [intOf];omega
  ·
   have hkn:k=xs.length:=by omega
   subst hkn
   have H9:=Lib.hid (Hen.out (fun j hj=>HN1.out j hj hj) (fun j hj=>HN2.out j hj hj))
   have H8:=Lib.hid (cntK_all (f:=fun x:SV×List Pt=>x.2) (xs:=xs) (p:=p))
   obtain ⟨n,hnn⟩:∃ n,cntK (·.2) xs p xs.length=n:=⟨_,rfl⟩
   rw [hnn] at hcb H8 ⊢
   clear hnn
   go_wp2_with fail
   go_ret
   refine ⟨ret_bool ?_,bT HB1.out Hb.out⟩
   rw [H9.out,← H8.out]
   first | done | (rw [Bool.eq_iff_iff];simp only [decide_eq_true_eq];omega) | (simp;omega)
end Go.Proofs.YtpempeioeiaijaaGreat
namespace Go.Proofs.YtpempeioeiaijaaGreat
open Go.RowKit Go.Sort

theorem cmpL_nil:cmpL [] []=0:=rfl
theorem cmpL_nil_cons (p:Pt) (l:List Pt):cmpL [] (p::l)=-1:=rfl
theorem cmpL_cons_nil (p:Pt) (l:List Pt):cmpL (p::l) []=1:=rfl
theorem cmpL_same (p:Pt) (a b:List Pt):cmpL (p::a) (p::b)=cmpL a b:=by unfold cmpL;simp [lexL]
theorem cmpL_ne {p q:Pt} (h:p≠q) (a b:List Pt):cmpL (p::a) (q::b)=cmpB p q:=by
 have h':¬ q=p:=fun e=>h e.symm
 unfold cmpL cmpB
 simp [lexL,h,h']
theorem cmpB_zero {p q:Pt}:cmpB p q=0↔p=q:=by
 unfold cmpB
 constructor
 ·
  intro h
  cases h1:bef p q
  ·
   cases h2:bef q p
   · exact bef_tri h1 h2
   · rw [h1,h2] at h;simp at h
  · rw [h1] at h;simp at h
 · rintro rfl;simp [bef_irr]
theorem drop_get {α:Type} (l:List α) {k:Nat} (h:k<l.length):l.drop k=l[k]::l.drop (k+1):=List.drop_eq_getElem_cons h

set_option maxRecDepth 100000 in
set_option maxHeartbeats 4000000 in
theorem CompareFn_spec (x y:SV×List Pt) (w:World) (hx:Pts w (svV x.1) x.2) (hy:Pts w (svV y.1) y.2) (hlx:x.2.length≤1000000000) (hly:y.2.length≤1000000000) :
  Calls Tryz.prog 67 #[svV x.1,svV y.1,.func (.func 27) #[] #[]] w fun e w'=>e=.returned (.int .i64 (cmpL x.2 y.2))∧BelowD w w':=by
 have HC:=Lib.hid (fun a b W=>Cmp19_spec a b W)
 obtain ⟨sx,lx⟩:=x
 obtain ⟨sy,ly⟩:=y
 simp only at *
 obtain ⟨A1,c1,hv1,hc1,hc1',hR1⟩:=hx
 obtain ⟨A2,c2,hv2,hc2,hc2',hR2⟩:=hy
 rw [hv1,hv2]
 have HR1:=Lib.hid hR1;have HR2:=Lib.hid hR2
 obtain ⟨q,hq⟩:∃ q,cmpL lx ly=q:=⟨_,rfl⟩
 rw [hq]
 have Hq:=Lib.hid (show cmpL (lx.drop 0) (ly.drop 0)=q from hq)
 unfold maxLen at hc1' hc2'
 clear hv1 hv2 hR1 hR2 hq
 go_enter Tryz.func67,Tryz.ntmps67
 go_upto_block 0 with fail
 go_wp2_with fail
 go_loopw [13] (fun u wr=>∃ k:Nat,k≤lx.length∧u=.int .i64 k∧BelowD w wr∧cmpL (lx.drop k) (ly.drop k)=q) (fun u _=>lx.length-(intOf u).toNat)
 case atStart => exact ⟨0,Nat.zero_le _,rfl,⟨bR w,dR w⟩,Hq.out⟩
 case round =>
  obtain ⟨k,hk,rfl,hbd,hcm⟩:=hrel
  have HB:=Lib.hid hbd.1;have HD:=Lib.hid hbd.2;have HQ:=Lib.hid hcm
  clear hbd hcm Hq
  by_cases hlt:k<lx.length
  ·
   obtain ⟨b,o,rfl,hlb,d0,d1⟩:=(HR1.out.mono HB.out).pt hlt
   obtain ⟨p,hp⟩:∃ p,lx[k]=p:=⟨_,rfl⟩
   rw [hp] at d0 d1
   have Hx:=Lib.hid (drop_get lx hlt)
   rw [hp] at Hx
   clear hp
   by_cases hlt2:k<ly.length
   ·
    obtain ⟨b2,o2,rfl,hlb2,f0,f1⟩:=(HR2.out.mono HB.out).pt hlt2
    obtain ⟨r,hr⟩:∃ r,ly[k]=r:=⟨_,rfl⟩
    rw [hr] at f0 f1
    have Hy:=Lib.hid (drop_get ly hlt2)
    rw [hr] at Hy
    clear hr
    have HCp:=Lib.hid (HC.out p r)
    go_wp2_with fail
    refine (HCp.out _).mono ?_
    rintro e w1 ⟨rfl,hb1,hd1⟩
    have HB1:=Lib.hid (bT (bA (bA HB.out _) _) hb1);have HD1:=Lib.hid (dT (dA (dA HD.out _) _) hd1)
    clear hb1 hd1 d0 d1 f0 f1 hlb hlb2
    by_cases hz:cmpB p r=0
    ·
     have e9:=cmpB_zero.1 hz
     subst e9
     have H9:=Lib.hid (show cmpL (lx.drop (k+1)) (ly.drop (k+1))=q by rw [← HQ.out,Hx.out,Hy.out,cmpL_same])
     generalize cmpB p p=z at *
     subst hz
     go_wp2_with fail
     go_roundw
     case rel => exact ⟨k+1,by omega,by go_num,⟨HB1.out,HD1.out⟩,H9.out⟩
     case measure => simp [intOf];omega
    ·
     have H9:=Lib.hid (show cmpB p r=q by
      rw [← HQ.out,Hx.out,Hy.out,cmpL_ne (fun e=>hz (cmpB_zero.2 e))])
     generalize cmpB p r=z at *
     have hz':(z != 0)=true:=by simpa using hz
     go_wp2_with fail
     go_ret
     exact ⟨ret_int H9.out,HB1.out,HD1.out⟩
   ·
    have H9:=Lib.hid (show (1:Int)=q by
     rw [← HQ.out,Hx.out,List.drop_eq_nil_of_le (show ly.length≤k by omega),cmpL_cons_nil])
    go_wp2_with fail
    go_ret
    exact ⟨ret_int H9.out,bA HB.out _,dA HD.out _⟩
  ·
   have hkn:k=lx.length:=by omega
   subst hkn
   have Hx:=Lib.hid (List.drop_length (l:=lx))
   by_cases hlt2:lx.length<ly.length
   ·
    have H9:=Lib.hid (show (-1:Int)=q by
     rw [← HQ.out,Hx.out,drop_get ly hlt2,cmpL_nil_cons])
    go_wp2_with fail
    go_ret
    exact ⟨ret_int H9.out,HB.out,HD.out⟩
   ·
    have H9:=Lib.hid (show (0:Int)=q by
     rw [← HQ.out,Hx.out,List.drop_eq_nil_of_le (show ly.length≤lx.length by omega),cmpL_nil])
    go_wp2_with fail
    go_ret
    exact ⟨ret_int H9.out,HB.out,HD.out⟩

set_option maxRecDepth 100000 in
set_option maxHeartbeats 1000000 in
theorem CmpLn_spec (x y:SV×List Pt) (w:World) (hx:Pts w (svV x.1) x.2) (hy:Pts w (svV y.1) y.2) (hlx:x.2.length≤1000000000) (hly:y.2.length≤1000000000) :
  Calls Tryz.prog 66 #[svV x.1,svV y.1] w fun e w'=>e=.returned (.int .i64 (cmpL x.2 y.2))∧BelowD w w':=by
 have HX:=Lib.hid (CompareFn_spec x y w hx hy hlx hly)
 generalize cmpL x.2 y.2=q at *
 clear hx hy hlx hly
 obtain ⟨⟨a1,n1,c1⟩,lx⟩:=x
 obtain ⟨⟨a2,n2,c2⟩,ly⟩:=y
 unfold svV at *
 simp only at *
 go_enter Tryz.func66,Tryz.ntmps66
 go_wp2_with fail
 refine HX.out.mono ?_
 rintro e w1 ⟨rfl,hb1,hd1⟩
 go_wp2_with fail
 go_ret
 exact ⟨rfl,hb1,hd1⟩
end Go.Proofs.YtpempeioeiaijaaGreat
namespace Go.Proofs.YtpempeioeiaijaaGreat
open Go.RowKit Go.Sort

set_option maxHeartbeats 400000 in
theorem Bef19_spec (a b:Pt) (w:World) :
  Calls Tryz.prog 59 #[.agg #[.int .i64 a.x,.int .i64 a.y],.agg #[.int .i64 b.x,.int .i64 b.y]] w fun e w'=>e=.returned (.bool (bef a b))∧Below w.heap.size w w':=by
 by_cases h1:a.x<b.x
 ·
  go_enter Tryz.func59,Tryz.ntmps59
  go_wp2
  go_ret
  refine ⟨ret_bool (by simp [bef,h1]),?_⟩
  repeat (first | with_reducible exact bR _ | with_reducible assumption | with_reducible refine bA ?_ _ | with_reducible refine bD ?_ | with_reducible refine bN ?_ _ | ((with_reducible refine bS ?_ ?_ _);rotate_left;(simp;try omega)) | ((with_reducible refine bT ?_ ?_);rotate_left;with_reducible assumption) | with_reducible refine bT ?_ (by assumption))
 ·
  by_cases h2:(a.x == b.x)=true
  ·
   go_enter Tryz.func59,Tryz.ntmps59
   go_wp2
   go_ret
   refine ⟨ret_bool (by simp only [bef];simp_all),?_⟩
   repeat (first | with_reducible exact bR _ | with_reducible assumption | with_reducible refine bA ?_ _ | with_reducible refine bD ?_ | with_reducible refine bN ?_ _ | ((with_reducible refine bS ?_ ?_ _);rotate_left;(simp;try omega)) | ((with_reducible refine bT ?_ ?_);rotate_left;with_reducible assumption) | with_reducible refine bT ?_ (by assumption))
  ·
   have h2':(a.x == b.x)=false:=by simpa using h2
   clear h2
   go_enter Tryz.func59,Tryz.ntmps59
   go_wp2
   go_ret
   refine ⟨ret_bool (by simp only [bef];simp_all),?_⟩
   repeat (first | with_reducible exact bR _ | with_reducible assumption | with_reducible refine bA ?_ _ | with_reducible refine bD ?_ | with_reducible refine bN ?_ _ | ((with_reducible refine bS ?_ ?_ _);rotate_left;(simp;try omega)) | ((with_reducible refine bT ?_ ?_);rotate_left;with_reducible assumption) | with_reducible refine bT ?_ (by assumption))

theorem lexL_drop_ne {a b:List Pt} {k:Nat} (ha:k<a.length) (hb:k<b.length) (h:a[k]≠b[k]):lexL (a.drop k) (b.drop k)=bef a[k] b[k]:=by
 rw [drop_get a ha,drop_get b hb]
 simp [lexL,h]
theorem lexL_drop_eq {a b:List Pt} {k:Nat} (ha:k<a.length) (hb:k<b.length) (h:a[k]=b[k]):lexL (a.drop k) (b.drop k)=lexL (a.drop (k+1)) (b.drop (k+1)):=by
 rw [drop_get a ha,drop_get b hb]
 simp [lexL,h]
theorem lexL_drop_end {a b:List Pt} {k:Nat} (hka:k≤a.length) (hkb:k≤b.length) (h:¬ (k<a.length∧k<b.length)):lexL (a.drop k) (b.drop k)=decide (a.length<b.length):=by
 by_cases ha:k<a.length
 ·
  have hb:k=b.length:=by omega
  subst hb
  rw [List.drop_length,drop_get a ha,decide_eq_false (by omega)]
  rfl
 ·
  have ha':k=a.length:=by omega
  subst ha'
  rw [List.drop_length]
  by_cases hb:a.length<b.length
  · rw [drop_get b hb,decide_eq_true hb];rfl
  ·
   have:a.length=b.length:=by omega
   rw [this,List.drop_length,decide_eq_false (by omega)];rfl

set_option maxRecDepth 100000 in
set_option maxHeartbeats 4000000 in
theorem Less19_spec (x y:SV×List Pt) (w:World) (hx:Pts w (svV x.1) x.2) (hy:Pts w (svV y.1) y.2) (hlx:x.2.length≤1000000000) (hly:y.2.length≤1000000000) :
  Calls Tryz.prog 31 #[svV x.1,svV y.1] w fun e w'=>e=.returned (.bool (lexL x.2 y.2))∧Below w.heap.size w w':=by
 have HBe:=Lib.hid (fun a b W=>Bef19_spec a b W)
 obtain ⟨sx,lx⟩:=x
 obtain ⟨sy,ly⟩:=y
 simp only at *
 obtain ⟨A1,c1,hv1,hc1,hc1',hR1⟩:=hx
 obtain ⟨A2,c2,hv2,hc2,hc2',hR2⟩:=hy
 rw [hv1,hv2]
 have HR1:=Lib.hid hR1;have HR2:=Lib.hid hR2
 obtain ⟨q,hq⟩:∃ q,lexL lx ly=q:=⟨_,rfl⟩
 rw [hq]
 have Hq:=Lib.hid (show lexL (lx.drop 0) (ly.drop 0)=q from hq)
 unfold maxLen at hc1' hc2'
 clear hv1 hv2 hR1 hR2 hq
 go_enter Tryz.func31,Tryz.ntmps31
 go_upto_block 0 with fail
 go_wp2_with fail
 go_loopw [5] (fun u wr=>∃ k:Nat,k≤lx.length∧k≤ly.length∧u=.int .i64 k∧Below w.heap.size w wr∧lexL (lx.drop k) (ly.drop k)=q) (fun u _=>lx.length-(intOf u).toNat)
 case atStart => exact ⟨0,Nat.zero_le _,Nat.zero_le _,rfl,bR w,Hq.out⟩
 case round =>
  obtain ⟨k,hk,hk2,rfl,hb,hcm⟩:=hrel
  obtain ⟨wo,rfl⟩:∃ wo:World,wo=wr:=⟨_,rfl⟩
  have HB:=Lib.hid hb;have HQ:=Lib.hid hcm
  clear hb hcm Hq
  by_cases hlt:k<lx.length∧k<ly.length
  ·
   obtain ⟨h1,h2⟩:=hlt
   obtain ⟨b,o,rfl,hlb,d0,d1⟩:=(HR1.out.mono HB.out).pt h1
   obtain ⟨b2,o2,rfl,hlb2,f0,f1⟩:=(HR2.out.mono HB.out).pt h2
   have He:=Lib.hid (lexL_drop_eq h1 h2)
   have Hn:=Lib.hid (lexL_drop_ne h1 h2)
   generalize lx[k]=p at *
   generalize ly[k]=r at *
   have z1:(k:Int)<lx.length:=by omega
   have z2:(k:Int)<ly.length:=by omega
   have z3:(0:Int)≤k:=by omega
   by_cases hpr:p=r
   ·
    subst hpr
    have hneq:∀ W,(binOp .neq 42 (.agg #[.int .i64 p.x,.int .i64 p.y]) (.agg #[.int .i64 p.x,.int .i64 p.y])).run Tryz.prog W=.ok (.bool false) W:=fun W=>by rw [run_neq_pt];simp
    go_upto_region 4 with fail
    refine rg_start (Since wo) (.run 9 0 0 (.done)) (by kernel_rfl) (bD (bR _)) (by kernel_rfl) (by kernel_rfl) (Nat.le_of_ble_eq_true (by kernel_rfl)) ?_
    intro opsR QR Hops HQrg hS
    iterate 9
     apply rg_p;exact Hops;exact rfl;exact hS;exact rfl
     · intro _ hqc;go_simp;try rfl
     try simp only [pu]
    refine rg_done ?_
    refine HQrg.down _ _ ?_
    have hB:Below wo.heap.size wo wo.drew:=hS
    clear hS HQrg Hops
    have HB9:=Lib.hid (bT HB.out hB)
    have H9:=Lib.hid (show lexL (lx.drop (k+1)) (ly.drop (k+1))=q by rw [← HQ.out,He.out (by trivial)])
    clear hneq d0 d1 f0 f1
    go_wp2_with fail
    go_roundw
    case rel => exact ⟨k+1,by omega,by omega,by go_num,HB9.out,H9.out⟩
    case measure => simp [intOf];omega
   ·
    have hneq:∀ W,(binOp .neq 42 (.agg #[.int .i64 p.x,.int .i64 p.y]) (.agg #[.int .i64 r.x,.int .i64 r.y])).run Tryz.prog W=.ok (.bool true) W:=fun W=>by rw [run_neq_pt];simp [hpr]
    have H9:=Lib.hid (show bef p r=q by rw [← HQ.out,Hn.out hpr])
    have HBp:=Lib.hid (HBe.out p r)
    clear hpr
    go_upto_region 4 with fail
    refine rg_start (Since wo) (.run 9 0 0 (.done)) (by kernel_rfl) (bD (bR _)) (by kernel_rfl) (by kernel_rfl) (Nat.le_of_ble_eq_true (by kernel_rfl)) ?_
    intro opsR QR Hops HQrg hS
    iterate 9
     apply rg_p;exact Hops;exact rfl;exact hS;exact rfl
     · intro _ hqc;go_simp;try rfl
     try simp only [pu]
    refine rg_done ?_
    refine HQrg.down _ _ ?_
    have hB:Below wo.heap.size wo wo.drew:=hS
    clear hS HQrg Hops
    go_upto_region 5 with fail
    obtain ⟨W9,hW9⟩:∃ W9:World,W9=wo.drew:=⟨_,rfl⟩
    have HB9:=Lib.hid (show Below w.heap.size w W9 by rw [hW9];exact bD HB.out)
    have y0:W9.cell? ⟨b,o+k*2,none⟩=some (.int .i64 p.x):=by rw [hW9];exact d0
    have y1:W9.cell? ⟨b,o+k*2+1,none⟩=some (.int .i64 p.y):=by rw [hW9];exact d1
    have y2:W9.cell? ⟨b2,o2+k*2,none⟩=some (.int .i64 r.x):=by rw [hW9];exact f0
    have y3:W9.cell? ⟨b2,o2+k*2+1,none⟩=some (.int .i64 r.y):=by rw [hW9];exact f1
    have y4:b<W9.heap.size:=by rw [hW9];exact hlb
    have y5:b2<W9.heap.size:=by rw [hW9];exact hlb2
    rw [← hW9]
    clear hW9 d0 d1 f0 f1 hlb hlb2 hneq hB
    refine rg_start (Since W9) (.run 8 0 0 (.call 8 511 (.take 9 1023 (.done)))) (by kernel_rfl) (bD (bR _)) (by kernel_rfl) (by kernel_rfl) (Nat.le_of_ble_eq_true (by kernel_rfl)) ?_
    intro opsR QR Hops HQrg hS
    iterate 8
     apply rg_p;exact Hops;exact rfl;exact hS;exact rfl
     · intro _ hqc;go_simp;try rfl
     try simp only [pu]
    refine rg_call (i:=8) (get_of Hops rfl) (fun K hK=>?_)
    have HSrg:=Lib.hid hS;clear hS
    refine rg_run (wanted_plain rfl) ?_
    go_simp
    refine (HBp.out _).mono ?_
    rintro e wr1 ⟨rfl,hbr1⟩
    have hS:Since W9 wr1:=bT (w:=W9) HSrg.out hbr1
    clear HSrg
    refine hK.out _ _ hS (fun _=>?_)
    clear hK K
    try simp only [pu]
    apply rg_p;exact Hops;exact rfl;exact hS;exact rfl
    · intro _ hqc;go_simp;try rfl
    try simp only [pu]
    refine rg_done ?_
    refine HQrg.down _ _ ?_
    have hB:Below W9.heap.size W9 wr1:=hS
    clear hS HQrg Hops
    go_wp2_with fail
    go_ret
    exact ⟨ret_bool H9.out,bT HB9.out hB⟩
  ·
   have H9:=Lib.hid (lexL_drop_end hk hk2 hlt)
   go_wp2_with fail
   all_goals
    go_ret
    refine ⟨ret_bool ?_,HB.out⟩
    rw [← HQ.out,H9.out]
    first | done | (rw [Bool.eq_iff_iff];simp only [decide_eq_true_eq];omega) | (simp;omega)

set_option maxRecDepth 100000 in
set_option maxHeartbeats 4000000 in
theorem Same19_spec (v u:Value) (xs ys:List (SV×List Pt)) (w:World) (hx:Lns19 w v xs) (hy:Lns19 w u ys) (hnx:xs.length≤1000000) (hny:ys.length≤1000000) (hlx:∀ k (hk:k<xs.length),xs[k].2.length≤1000000000) (hly:∀ k (hk:k<ys.length),ys[k].2.length≤1000000000) :
  Calls Tryz.prog 14 #[v,u] w fun e w'=>e=.returned (.bool (decide (xs.map (·.2)=ys.map (·.2))))∧Below w.heap.size w w':=by
 have HL1:=Lib.hid (fun k (h1:k<xs.length) (h2:k<ys.length) W (hW:Below w.heap.size w W)=>Less19_spec xs[k] ys[k] W ((hx.2 k h1).mono hW) ((hy.2 k h2).mono hW) (hlx k h1) (hly k h2))
 have HL2:=Lib.hid (fun k (h1:k<xs.length) (h2:k<ys.length) W (hW:Below w.heap.size w W)=>Less19_spec ys[k] xs[k] W ((hy.2 k h2).mono hW) ((hx.2 k h1).mono hW) (hly k h2) (hlx k h1))
 obtain ⟨⟨A1,c1,rfl,hc1,hc1',hR1⟩,-⟩:=hx
 obtain ⟨⟨A2,c2,rfl,hc2,hc2',hR2⟩,-⟩:=hy
 obtain ⟨q,hq⟩:∃ q,decide (xs.map (·.2)=ys.map (·.2))=q:=⟨_,rfl⟩
 rw [hq]
 have Hq:=Lib.hid hq
 have HR1:=Lib.hid hR1;have HR2:=Lib.hid hR2
 unfold maxLen at hc1' hc2'
 clear hq hR1 hR2 hlx hly
 by_cases hne:xs.length=ys.length
 case neg =>
  have H9:=Lib.hid (show q=false by
   rw [← Hq.out,decide_eq_false]
   intro e
   have:=congrArg List.length e
   simp only [List.length_map] at this
   exact hne this)
  have hni:¬ (xs.length:Int)=ys.length:=by omega
  have hnb:((xs.length:Int) != ys.length)=true:=by simp;omega
  clear hne
  go_enter Tryz.func14,Tryz.ntmps14
  go_wp2_with fail
  go_ret
  exact ⟨ret_bool H9.out.symm,bR w⟩
 case pos =>
  have Hne:=Lib.hid hne
  have hnb:((xs.length:Int) != ys.length)=false:=by simp [hne]
  clear hne
  go_enter Tryz.func14,Tryz.ntmps14
  go_upto_block 0 with fail
  go_wp2_with fail
  go_loopw [5] (fun z wr=>∃ k:Nat,k≤xs.length∧z=.int .i64 k∧Below w.heap.size w wr∧∀ j (h1:j<xs.length) (h2:j<ys.length),j<k→xs[j].2=ys[j].2) (fun z _=>xs.length-(intOf z).toNat)
  case atStart => exact ⟨0,Nat.zero_le _,rfl,bR w,fun _ _ _ h=>by omega⟩
  case round =>
   obtain ⟨k,hk,rfl,hb,hno⟩:=hrel
   obtain ⟨wo,rfl⟩:∃ wo:World,wo=wr:=⟨_,rfl⟩
   have HB:=Lib.hid hb;have HNo:=Lib.hid hno
   clear hb hno
   by_cases hlt:k<xs.length
   ·
    have hlt2:k<ys.length:=by rw [← Hne.out];exact hlt
    obtain ⟨b,o,rfl,hlb,c0⟩:=(HR1.out.mono HB.out).ln hlt
    obtain ⟨b2,o2,rfl,hlb2,d0⟩:=(HR2.out.mono HB.out).ln hlt2
    have z1:(k:Int)<xs.length:=by omega
    have z2:(k:Int)<ys.length:=by omega
    have z3:(0:Int)≤k:=by omega
    have HLa:=Lib.hid (HL1.out k hlt hlt2)
    have HLb:=Lib.hid (HL2.out k hlt hlt2)
    unfold svV at c0 d0 HLa HLb
    have hoff:∀ (h:xs[k].2≠ys[k].2),q=false:=fun h=>by
     rw [← Hq.out,decide_eq_false]
     intro e
     have h1:(xs.map (·.2))[k]? = (ys.map (·.2))[k]? := by rw [e]
     rw [List.getElem?_map,List.getElem?_map,List.getElem?_eq_getElem hlt,List.getElem?_eq_getElem hlt2] at h1
     exact h (Option.some.inj h1)
    have Hoff:=Lib.hid hoff
    have HNk:=Lib.hid (fun (h9:xs[k].2=ys[k].2)=>show ∀ j (h1:j<xs.length) (h2:j<ys.length),j<k+1→xs[j].2=ys[j].2 from fun j h1 h2 hjk=>if e:j<k then HNo.out j h1 h2 e else by
     have:j=k:=by omega
     subst this;exact h9)
    have HIr:=Lib.hid (lexL_irr xs[k].2)
    have HTr:=Lib.hid (@lexL_tri xs[k].2 ys[k].2)
    clear hoff HNo
    generalize xs[k]=x at *
    generalize ys[k]=y at *
    obtain ⟨⟨xa,xn,xc⟩,lx⟩:=x
    obtain ⟨⟨ya,yn,yc⟩,ly⟩:=y
    simp only at *
    cases hl:lexL lx ly
    ·
     rw [hl] at HLa
     cases hl2:lexL ly lx
     ·
      rw [hl2] at HLb
      have H9:=Lib.hid (HTr.out hl hl2)
      clear hl hl2 Hoff
      go_upto_region 6 with fail
      refine rg_start (Since wo) (.run 8 0 0 (.call 8 511 (.run 9 9 511 (.call 18 524287 (.take 19 1048575 (.done)))))) (by kernel_rfl) (bD (bR _)) (by kernel_rfl) (by kernel_rfl) (Nat.le_of_ble_eq_true (by kernel_rfl)) ?_
      intro opsR QR Hops HQrg hS
      iterate 8
       apply rg_p;exact Hops;exact rfl;exact hS;exact rfl
       · intro _ hqc;go_simp;try rfl
       try simp only [pu]
      refine rg_call (i:=8) (get_of Hops rfl) (fun K hK=>?_)
      have HSrg:=Lib.hid hS;clear hS
      refine rg_run (wanted_plain rfl) ?_
      go_simp
      refine (HLa.out _ (bT HB.out HSrg.out)).mono ?_
      rintro e wr1 ⟨rfl,hbr1⟩
      have hS:Since wo wr1:=bT (w:=wo) HSrg.out hbr1
      clear HSrg
      refine hK.out _ _ hS (fun _=>?_)
      clear hK K
      try simp only [pu]
      apply rg_p;exact Hops;exact rfl;exact hS;exact rfl
      · intro _ hqc;go_simp;try rfl
      try simp only [pu]
      iterate 8
       apply rg_g;exact Hops;exact rfl;exact hS;iterate 4 exact rfl
       · intro _ hqc;go_simp;try rfl
       try simp only [pu]
      refine rg_call (i:=18) (get_of Hops rfl) (fun K hK=>?_)
      have HSrg:=Lib.hid hS;clear hS
      refine rg_run (wanted_yes rfl (get_of Hops rfl) rfl rfl) ?_
      go_simp
      refine (HLb.out _ (bT HB.out HSrg.out)).mono ?_
      rintro e wr2 ⟨rfl,hbr2⟩
      have hS:Since wo wr2:=bT (w:=wo) HSrg.out hbr2
      clear HSrg
      refine hK.out _ _ hS (fun _=>?_)
      clear hK K
      try simp only [pu]
      apply rg_p;exact Hops;exact rfl;exact hS;exact rfl
      · intro _ hqc;go_simp;try rfl
      try simp only [pu]
      refine rg_done ?_
      refine HQrg.down _ _ ?_
      have hB:Below wo.heap.size wo wr2:=hS
      clear hS HQrg Hops
      have HB9:=Lib.hid (bT HB.out hB)
      go_wp2_with fail
      go_roundw
      case rel => exact ⟨k+1,by omega,by go_num,HB9.out,HNk.out H9.out⟩
      case measure => simp [intOf];omega
     ·
      rw [hl2] at HLb
      have H9:=Lib.hid (Hoff.out (fun e=>by rw [e] at hl2;rw [lexL_irr] at hl2;cases hl2))
      clear hl hl2 Hoff
      go_upto_region 6 with fail
      refine rg_start (Since wo) (.run 8 0 0 (.call 8 511 (.run 9 9 511 (.call 18 524287 (.take 19 1048575 (.done)))))) (by kernel_rfl) (bD (bR _)) (by kernel_rfl) (by kernel_rfl) (Nat.le_of_ble_eq_true (by kernel_rfl)) ?_
      intro opsR QR Hops HQrg hS
      iterate 8
       apply rg_p;exact Hops;exact rfl;exact hS;exact rfl
       · intro _ hqc;go_simp;try rfl
       try simp only [pu]
      refine rg_call (i:=8) (get_of Hops rfl) (fun K hK=>?_)
      have HSrg:=Lib.hid hS;clear hS
      refine rg_run (wanted_plain rfl) ?_
      go_simp
      refine (HLa.out _ (bT HB.out HSrg.out)).mono ?_
      rintro e wr1 ⟨rfl,hbr1⟩
      have hS:Since wo wr1:=bT (w:=wo) HSrg.out hbr1
      clear HSrg
      refine hK.out _ _ hS (fun _=>?_)
      clear hK K
      try simp only [pu]
      apply rg_p;exact Hops;exact rfl;exact hS;exact rfl
      · intro _ hqc;go_simp;try rfl
      try simp only [pu]
      iterate 8
       apply rg_g;exact Hops;exact rfl;exact hS;iterate 4 exact rfl
       · intro _ hqc;go_simp;try rfl
       try simp only [pu]
      refine rg_call (i:=18) (get_of Hops rfl) (fun K hK=>?_)
      have HSrg:=Lib.hid hS;clear hS
      refine rg_run (wanted_yes rfl (get_of Hops rfl) rfl rfl) ?_
      go_simp
      refine (HLb.out _ (bT HB.out HSrg.out)).mono ?_
      rintro e wr2 ⟨rfl,hbr2⟩
      have hS:Since wo wr2:=bT (w:=wo) HSrg.out hbr2
      clear HSrg
      refine hK.out _ _ hS (fun _=>?_)
      clear hK K
      try simp only [pu]
      apply rg_p;exact Hops;exact rfl;exact hS;exact rfl
      · intro _ hqc;go_simp;try rfl
      try simp only [pu]
      refine rg_done ?_
      refine HQrg.down _ _ ?_
      have hB:Below wo.heap.size wo wr2:=hS
      clear hS HQrg Hops
      have HB9:=Lib.hid (bT HB.out hB)
      go_wp2_with fail
      go_ret
      exact ⟨ret_bool H9.out.symm,HB9.out⟩
    ·
     rw [hl] at HLa
     have H9:=Lib.hid (Hoff.out (fun e=>by rw [e] at hl;rw [lexL_irr] at hl;cases hl))
     clear hl Hoff
     go_upto_region 6 with fail
     refine rg_start (Since wo) (.run 8 0 0 (.call 8 511 (.run 11 9 511 (.done)))) (by kernel_rfl) (bD (bR _)) (by kernel_rfl) (by kernel_rfl) (Nat.le_of_ble_eq_true (by kernel_rfl)) ?_
     intro opsR QR Hops HQrg hS
     iterate 8
      apply rg_p;exact Hops;exact rfl;exact hS;exact rfl
      · intro _ hqc;go_simp;try rfl
      try simp only [pu]
     refine rg_call (i:=8) (get_of Hops rfl) (fun K hK=>?_)
     have HSrg:=Lib.hid hS;clear hS
     refine rg_run (wanted_plain rfl) ?_
     go_simp
     refine (HLa.out _ (bT HB.out HSrg.out)).mono ?_
     rintro e wr1 ⟨rfl,hbr1⟩
     have hS:Since wo wr1:=bT (w:=wo) HSrg.out hbr1
     clear HSrg
     refine hK.out _ _ hS (fun _=>?_)
     clear hK K
     try simp only [pu]
     apply rg_p;exact Hops;exact rfl;exact hS;exact rfl
     · intro _ hqc;go_simp;try rfl
     try simp only [pu]
     iterate 9
      refine rg_yn Hops rfl hS rfl rfl rfl rfl rfl ?_
      try simp only [pu]
     apply rg_p;exact Hops;exact rfl;exact hS;exact rfl
     · intro _ hqc;go_simp;try rfl
     try simp only [pu]
     refine rg_done ?_
     refine HQrg.down _ _ ?_
     have hB:Below wo.heap.size wo wr1:=hS
     clear hS HQrg Hops
     have HB9:=Lib.hid (bT HB.out hB)
     go_wp2_with fail
     go_ret
     exact ⟨ret_bool H9.out.symm,HB9.out⟩
   ·
    have H9:=Lib.hid (show q=true by
     rw [← Hq.out,decide_eq_true]
     refine List.ext_getElem (by simpa using Hne.out) fun j h1 h2=>?_
     rw [List.getElem_map,List.getElem_map]
     exact HNo.out j _ _ (by simp only [List.length_map] at h1;omega))
    go_wp2_with fail
    go_ret
    exact ⟨ret_bool H9.out.symm,HB.out⟩
end Go.Proofs.YtpempeioeiaijaaGreat
