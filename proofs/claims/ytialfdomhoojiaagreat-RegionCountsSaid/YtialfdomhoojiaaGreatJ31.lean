import Derived.Test.YtialfdomhoojiaaGreatJ30
import Derived.Test.YtialfdomhoojiaaGreatJ28
import Derived.Test.YtialfdomhoojiaaGreatJ19
import Derived.Test.YtialfdomhoojiaaGreatJ13
import Derived.Test.YtialfdomhoojiaaGreatJ20
import Derived.Test.YtialfdomhoojiaaGreatJ01
import Derived.Test.YtialfdomhoojiaaGreatJ29
set_option linter.unusedSimpArgs false
set_option linter.unusedVariables false
namespace Go.Proofs.YtialfdomhoojiaaGreat
open Go.RowKit
set_option linter.unusedSectionVars false
theorem ahC {α β:Type} [DecidableEq β] (g:α->β) (O:List α):∀ {fs:List β},fs.Nodup->(fs.flatMap fun f=>O.filter (fun X=>decide (g X=f))).Perm (O.filter (fun X=>decide (g X∈fs)))
 | [],_=>by simp
 | f::fs,h=>by
  obtain ⟨hf,hn⟩:=List.nodup_cons.1 h;rw [List.flatMap_cons];refine ((ahC g O hn).append_left _).trans ?_;have e1:O.filter (fun X=>decide (g X=f))=(O.filter (fun X=>decide (g X∈f::fs))).filter (fun X=>decide (g X=f)):=by
   rw [List.filter_filter];congr 1
   funext X
   by_cases e:g X=f<;>simp [e]
  have e2:O.filter (fun X=>decide (g X∈fs))=(O.filter (fun X=>decide (g X∈f::fs))).filter (fun X=>!decide (g X=f)):=by
   rw [List.filter_filter];congr 1
   funext X
   by_cases e:g X=f
   · simp [e,hf]
   · simp [e]
  rw [e1,e2];exact List.filter_append_perm _ _
theorem ahD {α β:Type} [DecidableEq β] (g:α->β) (O:List α) {fs:List β} (hn:fs.Nodup) (ha:∀ x∈O,g x∈fs):(fs.flatMap fun f=>O.filter (fun X=>decide (g X=f))).Perm O:=by
 refine (ahC g O hn).trans ?_
 have:O.filter (fun X=>decide (g X∈fs))=O:=by
  rw [List.filter_eq_self];intro x hx;rw [decide_eq_true_eq];exact ha x hx
 rw [this]
theorem ahE {α β:Type} (f g:α->List β):∀ l:List α,(l.flatMap fun a=>f a++g a).Perm (l.flatMap f++l.flatMap g)
 | []=>by simp
 | a::l=>by
  simp only [List.flatMap_cons];refine ((ahE f g l).append_left _).trans ?_;rw [List.append_assoc,List.append_assoc];refine List.Perm.append_left _ ?_;rw [<- List.append_assoc,<- List.append_assoc];exact List.Perm.append_right _ List.perm_append_comm
theorem ahF {F:List Int} (hF:F.Nodup):(tH F).length=F.length:=by
 obtain ⟨h1,h2⟩:=agK F;have n1:(tH F).Nodup:=h1.imp (fun h=>by omega);exact ((List.perm_ext_iff_of_nodup n1 hF).2 h2).length_eq
def qG (r:Rg):List Int:=r.out++r.inn.flatten
section
variable {p:Pl} (h:Valid p)
include h
theorem Valid.ahG:(jQ p).Nodup:=by
 unfold jQ;refine List.nodup_cons.2 ⟨fun hm=>?_,?_⟩
 ·obtain ⟨X,-,e⟩:=List.mem_map.1 hm
  cases e
 ·have hn:=h.Zq;unfold List.Nodup at hn ⊢;rw [List.pairwise_map];exact hn.imp (fun hne e=>hne (by injection e))
omit h in
theorem ahH (v:Pt):iK p v∈jQ p:=by
 unfold jQ
 cases e:iK p v with
 | none=>exact List.mem_cons_self
 | some X=>exact List.mem_cons_of_mem _ (List.mem_map_of_mem (aqM e))
theorem Valid.aa8:(((jQ p).map (uP p)).flatMap qG).Perm (aQ p):=by
 rw [List.flatMap_map];have e1:((jQ p).flatMap fun b=>qG (uP p b)).Perm ((jQ p).flatMap (fun b=>b.getD [])++(jQ p).flatMap fun b=>(lW p b).flatten):=ahE _ _ _;refine e1.trans ?_;have e2:(jQ p).flatMap (fun b=>b.getD [])=(aN p).flatten:=by
  unfold jQ;rw [List.flatMap_cons,List.flatMap_map,List.flatten_eq_flatMap];rfl
 have e3:((jQ p).flatMap fun b=>(lW p b).flatten).Perm (iP p).flatten:=by
  have g:=ahD (fun c=>iK p (oO p c)) (iP p) h.ahG (fun c _=>ahH _);have e4:((jQ p).flatMap fun b=>(lW p b).flatten)=((jQ p).flatMap fun f=>(iP p).filter (fun X=>decide (iK p (oO p X)=f))).flatten:=by
   rw [List.flatten_eq_flatMap (L:=(jQ p).flatMap _),List.flatMap_assoc];congr 1
   funext b
   rw [List.flatten_eq_flatMap];rfl
  rw [e4];exact g.flatten
 rw [e2];refine (e3.append_left _).trans ?_;rw [<- List.flatten_append];refine List.Perm.trans ?_ h.Xu;refine List.Perm.flatten ?_;unfold aN iP;exact List.filter_append_perm _ _
theorem Valid.aqW:(((jQ p).map (uP p)).flatMap (·.bn)).Perm ((p.nodes.filter (fun n=>decide (iM p.ah n.id=0))).map (·.id)):=by
 rw [List.flatMap_map];have g:=ahD (fun n=>iK p n.pt) (p.nodes.filter (fun n=>decide (iM p.ah n.id=0))) h.ahG (fun c _=>ahH _);refine List.Perm.trans ?_ (g.map _);rw [List.map_flatMap];refine List.Perm.of_eq ?_;congr 1
 funext b
 show sW p b=_
 unfold sW;congr 1;rw [List.filter_filter];congr 1
 funext n
 simp only [Bool.decide_and,Bool.and_comm]
structure ahI (p:Pl) (l:List Rg):Prop where
 len:(l.length:Int)=1+p.ah.length-p.nodes.length+EN p
 faces:l.length=1+p.faces.length
 sides:∀ r∈l,∀ c∈r.out::r.inn,∀ d∈c,jd p d=r.face
 aqX:(l.flatMap qG).length=2*p.ah.length
 norm:(tH (l.flatMap qG)).length=(l.flatMap qG).length
 alone:(tH (l.flatMap (·.bn))).length=(l.flatMap (·.bn)).length
 cnt:(p.nodes.filter (fun n=>decide (iM p.ah n.id=0))).length=(l.flatMap (·.bn)).length
theorem Valid.aqY (hf:EY p) {O:List (List Int)} (hO:O.Perm (aN p)):ahI p (xM p O):=by
 have hp:=UY h hf hO;have hd:=(hp.flatMap_right qG).trans h.aa8;have ha:=(hp.flatMap_right (·.bn)).trans h.aqW;have hl:(xM p O).length=1+(aN p).length:=by rw [hp.length_eq,List.length_map];unfold jQ;simp;omega
 have hnd:(p.nodes.map (·.id)).Nodup:=h.sound.nodes.imp (fun h=>by omega);refine ⟨?_,?_,fun r hr c hc d hd=>?_,?_,ahF (hd.nodup_iff.2 h.EM),ahF (ha.nodup_iff.2 ?_),?_⟩
 ·have:=h.amj
  rw [hl];unfold aN;omega
 · rw [hl,hf.all]
 ·obtain ⟨b,hb,rfl⟩:=List.mem_map.1 (hp.subset hr);refine hf.sides b ?_ c hc d hd;unfold jQ at hb;rcases List.mem_cons.1 hb with e | hb
  · exact .inl e
  ·obtain ⟨X,hX,e⟩:=List.mem_map.1 hb;exact .inr ⟨X,hX,e.symm⟩
 ·rw [hd.length_eq];unfold aQ;simp;omega
 · exact hnd.sublist (List.filter_sublist.map _)
 · rw [ha.length_eq,List.length_map]
end
set_option linter.unusedSectionVars false
theorem ahJ {α β:Type} (f:α->List β) {l:List α} {a:α} (h:a∈l):(f a).length<=(l.flatMap f).length:=by
 obtain ⟨s,t,rfl⟩:=List.append_of_mem h;simp only [List.flatMap_append,List.flatMap_cons,List.length_append];omega
theorem Jj {α β:Type} (f:α->List β) (h:∀ a,(f a).length<=1) (l:List α):(l.flatMap f).length<=l.length:=by
 have:=QX l f 1 (fun a _=>h a)
 omega
theorem aa9 (y:Int) (q:Pt×Pt):(rU y q).length<=1:=by
 unfold rU
 repeat' split
 all_goals simp
theorem ahK (y:Int) (q:Pt×Pt):(jg y q).length<=1:=by
 unfold jg;split<;>simp
theorem ahL (ns:List Nd) (y:Int) (i:Int):(rV ns y i).length<=1:=by
 unfold rV;split
 · split<;>simp
 · simp
section
variable {p:Pl} (h:Valid p)
include h
theorem Valid.aqZ {b:Option (List Int)} (hb:b∈jQ p):(jq p b).flatten.length<=512:=by
 have hp:=h.aa8.length_eq;have h1:=ahJ qG (List.mem_map_of_mem (f:=uP p) hb);have h2:qG (uP p b)=(jq p b).flatten:=by
  unfold qG jq;rw [List.flatten_cons];rfl
 rw [h2] at h1;have h3:(aQ p).length=2*p.ah.length:=by unfold aQ;simp;omega
 have h4:=(QY h.lim).2.2.1;omega
theorem Valid.aq0 {X:List Int} (hX:∀ d∈X,d∈aQ p):(bU p X).length<=X.length*65:=by
 unfold bU;refine QX X _ 65 fun d hd=>?_;obtain ⟨a,ha,-,e⟩:=h.BA (hX d hd);have h1:=fJ p a;have h2:=h.Bh ha;rw [e];unfold gX;rw [List.length_map,List.length_range];omega
omit h in
theorem aq1 (b:Option (List Int)):iF p b=bU p (jq p b).flatten:=by
 unfold iF bU;rw [List.flatten_eq_flatMap,List.flatMap_assoc];rfl
theorem Valid.ahM {b:Option (List Int)} (hb:b∈jQ p) {c:List Int} (hc:c∈jq p b):∀ d∈c,d∈aQ p:=fun d hd=>by
 unfold jq at hc;rcases List.mem_cons.1 hc with e | hc
 ·unfold jQ at hb;rcases List.mem_cons.1 hb with rfl | hb
  · rw [e] at hd;cases hd
  ·obtain ⟨X,hX,rfl⟩:=List.mem_map.1 hb;have e':c=X:=e;subst e';exact (h.kK (kH.1 hX).1).2 d hd
 · exact (h.kK (zC.1 (List.mem_filter.1 hc).1).1).2 d hd
theorem Valid.ahN {b:Option (List Int)} (hb:b∈jQ p):(iF p b).length<=33280:=by
 rw [aq1];have h1:=h.aqZ hb;have h2:=h.aq0 (X:=(jq p b).flatten) (fun d hd=>by
  obtain ⟨c,hc,hd⟩:=List.mem_flatten.1 hd;exact h.ahM hb hc d hd)
 omega
theorem Valid.aq2 (b:Option (List Int)):(sW p b).length<=256:=by
 unfold sW;rw [List.length_map];have:=List.length_filter_le (fun n=>decide (iM p.ah n.id=0/\iK p n.pt=b)) p.nodes
 have:=h.KU
 omega
end
def zU (p:Pl) (C:List (List Int)) (k:Nat):List (Pt×Pt):=(C.take k).flatMap (bU p)
theorem aq3 (p:Pl) {C:List (List Int)} {k:Nat} (hk:k<C.length):zU p C (k+1)=zU p C k++bU p C[k]:=by
 unfold zU;rw [List.take_succ_eq_append_getElem hk,List.flatMap_append];simp
theorem aq4 (p:Pl) (C:List (List Int)) (k:Nat):(zU p C k).length<=(C.flatMap (bU p)).length:=by
 have e:C.flatMap (bU p)=zU p C k++(C.drop k).flatMap (bU p):=by
  unfold zU;rw [<- List.flatMap_append,List.take_append_drop]
 rw [e,List.length_append];omega
theorem foldl_snoc {α:Type}:∀ (l s:List α),l.foldl (fun s q=>s++[q]) s=s++l
 | [],s=>(List.append_nil s).symm
 | q::l,s=>by rw [List.foldl_cons,foldl_snoc l];simp
theorem ahO:∀ (m:Nat) (l:List Int) (h:2*m+1<l.length),kM (l.take (2*(m+1)))=kM (l.take (2*m))++jU (l[2*m]'(by omega)) l[2*m+1]
 | 0,a::b::l,_=>by
  show kM [a,b]=kM []++jU a b
  unfold kM kM;simp
 | m+1,a::b::l,h=>by
  simp only [List.length_cons] at h;have ih:=ahO m l (by omega);have e1:(a::b::l).take (2*(m+1+1))=a::b::l.take (2*(m+1)):=by rw [show 2*(m+1+1)=2*(m+1)+1+1 by omega];rfl
  have e2:(a::b::l).take (2*(m+1))=a::b::l.take (2*m):=by rw [show 2*(m+1)=2*m+1+1 by omega];rfl
  rw [e1,e2,kM,kM,ih,List.append_assoc];rfl
theorem ahP:∀ (m:Nat) (l:List Int),2*m<=l.length->l.length<=2*m+1->kM (l.take (2*m))=kM l
 | 0,l,_,h=>by
  match l,h with
  | [],_=>rfl
  | [a],_=>rfl
 | m+1,[],h,_=>by simp at h
 | m+1,[a],h,_=>by simp at h;omega
 | m+1,a::b::l,h1,h2=>by
  simp only [List.length_cons] at h1 h2;have e2:(a::b::l).take (2*(m+1))=a::b::l.take (2*m):=by rw [show 2*(m+1)=2*m+1+1 by omega];rfl
  rw [e2,kM,kM,ahP m l (by omega) (by omega)]
theorem ahQ:∀ (n:Nat) (l:List Int),l.length<=n->(kM l).length<=l.length
 | _,[],_=>by unfold kM;simp
 | _,[a],_=>by unfold kM;simp
 | n+1,a::b::l,h=>by
  simp only [List.length_cons] at h;have ih:=ahQ n l (by omega);rw [kM,List.length_append];have:(jU a b).length<=1:=by unfold jU;split<;>simp
  simp only [List.length_cons];omega
 | 0,a::b::l,h=>by simp at h
theorem aq5 (bs:List Rn):pY (qW []) bs=[]:=rfl
theorem aq6 {l:List Rn} {k:Nat} (hk:k<l.length):FH (l.take (k+1))=Zt (FH (l.take k)) l[k]:=by
 unfold FH;rw [List.take_succ_eq_append_getElem hk,List.foldl_append];rfl
theorem aq7 {α:Type} {g:Nat->Option α} {N D:Nat} {v:α} (h:∀ i,i<D->g i=none) (hv:g D=some v) (hD:D<N):(List.range N).findSome? g=some v:=by
 have e:List.range N=List.range D++D::(List.range N).drop (D+1):=by
  have h1:D<(List.range N).length:=by rw [List.length_range];exact hD
  have h2:(List.range N).take D=List.range D:=by rw [List.take_range];congr 1;omega
  have h3:(List.range N)[D]=D:=List.getElem_range _;have:=(List.take_append_drop D (List.range N)).symm
  rw [List.drop_eq_getElem_cons h1,h2,h3] at this;exact this
 rw [e,List.findSome?_append,List.findSome?_cons,hv];have:(List.range D).findSome? g=none:=List.findSome?_eq_none_iff.2 fun i hi=>h i (List.mem_range.1 hi)
 rw [this];rfl
theorem aq8 {α:Type} {g:Nat->Option α} {N:Nat} (h:∀ i,i<N->g i=none):(List.range N).findSome? g=none:=List.findSome?_eq_none_iff.2 fun i hi=>h i (List.mem_range.1 hi)
theorem Qc (p:Pl) (b:Option (List Int)) {y0 y1 y:Int} (h:y<y0\/y1<y):midRow p b y0 y1 y=none:=by unfold midRow;rw [if_pos h]
theorem aq9 (p:Pl) (b:Option (List Int)) {y0 y1 y:Int} (h:¬ (y<y0\/y1<y)):midRow p b y0 y1 y=((FH (yK p b y)).2).map fun x=>⟨x,y⟩:=by unfold midRow;rw [if_neg h]
theorem ara (p:Pl) (b:Option (List Int)) {y0 y1:Int} {D:Nat} (h:∀ i,i<D->midD p b y0 y1 ((y0+y1) / 2) i=none) (h1:y1<(y0+y1) / 2+D) (h2:(y0+y1) / 2-D<y0):Tz p b y0 y1=none:=by
 refine aq8 fun i hi=>?_;by_cases c:i<D
 · exact h i c
 ·unfold midD;rw [Qc p b (.inr (by omega)),Qc p b (.inl (by omega))];rfl
theorem arb (p:Pl) (b:Option (List Int)) {y0 y1:Int} {D:Nat} {v:Pt} (h:∀ i,i<D->midD p b y0 y1 ((y0+y1) / 2) i=none) (hv:midD p b y0 y1 ((y0+y1) / 2) D=some v):Tz p b y0 y1=some v:=by
 refine aq7 h hv ?_;have:¬ (y1<(y0+y1) / 2+D/\(y0+y1) / 2-D<y0):=fun c=>by
  unfold midD at hv;rw [Qc p b (.inr c.1),Qc p b (.inl c.2)] at hv
  cases hv
 omega
open Go.RowKit Go.Sort
structure zV (w:World) (B g1 g2 g3:Nat) (y:Int) (S:List (Pt×Pt)) (T:List Rn) (w2 W:World):Prop where
 st:∃ vt vc,vK W B g1 g2 g3 y (S.flatMap (rU y)++T) (S.flatMap (jg y)) vt vc
 kept:jR B g2 g3 w2 W
 below:Below w.heap.size w W
theorem zV.drew {w:World} {B g1 g2 g3:Nat} {y:Int} {S:List (Pt×Pt)} {T:List Rn} {w2 W:World} (h:zV w B g1 g2 g3 y S T w2 W):zV w B g1 g2 g3 y S T w2 W.drew:=by
 obtain ⟨⟨vt,vc,hs⟩,hk,hb⟩:=h;exact ⟨⟨vt,vc,hs.keep (bD (bR W))⟩,hk.trans ⟨fun w0 k _ _ _=>bD k,Nat.le_refl _,fun _ _ _ _=>rfl⟩,bD hb⟩
theorem jR.base {B g2 g3:Nat} {w W W':World} (h:jR B g2 g3 W W') (hb:Below w.heap.size w W) (k1:w.heap.size<=B) (k2:w.heap.size<=g2) (k3:w.heap.size<=g3):Below w.heap.size W W':=by
 have b:=h.below w hb k1 k2 k3;exact ⟨b.os.trans hb.os.symm,b.tape.trans hb.tape.symm,b.output.trans hb.output.symm,h.size,fun k hk=>h.blk k (Nat.lt_of_lt_of_le hk k1) (by omega) (by omega)⟩
theorem ard (w w2:World) (gm:Nat) (p:Pl) (f:Int->SV) (hpm:qQ w gm p f) (hv:Valid p) (vc:Value) (X:List Int) (hX:Ints w vc X) (hd:∀ d∈X,d∈aQ p) (B g1 g2 g3:Nat) (y:Int) (S:List (Pt×Pt))
  (hl:S.length+(bU p X).length<=40000) (hB:B<=w2.heap.size) (hg1:g1<B) (k1:w.heap.size<=B) (k2:w.heap.size<=g2) (k3:w.heap.size<=g3) (W:World) (h0:zV w B g1 g2 g3 y S [] w2 W) :
  Calls Tryz.prog 79 #[.map (some gm),vc,.func (.func 202) #[] #[.pointer (some ⟨g1,0,none⟩),.pointer (some ⟨g2,0,none⟩),.pointer (some ⟨g3,0,none⟩)]] W fun e W'=>e=.returned (.tuple #[])/\zV w B g1 g2 g3 y (S++bU p X) [] w2 W':=by
 refine (amH w gm p f hpm hv vc X hX hd g1 g2 g3 (fun s W=>zV w B g1 g2 g3 y (S++s) [] w2 W) (fun s q=>s++[q]) (fun s W h=>h.below) (fun s W h=>h.drew) [] (fun S0 W q r hs h=>?_) W (by simpa using h0)).mono ?_
 ·rw [foldl_snoc,List.nil_append] at h ⊢;obtain ⟨⟨vt,vc,hst⟩,hk,hb⟩:=h;rw [List.append_nil] at hst;have hq:q∈bU p X:=by rw [hs];simp
  have hlen:(S++S0).length<=40000:=by
   have:=congrArg List.length hs
   simp only [List.length_append,List.length_cons] at this ⊢;omega
  have l1:=Jj (rU y) (aa9 y) (S++S0);have l2:=Jj (jg y) (ahK y) (S++S0);obtain ⟨a,ha,-,k,hk',rfl⟩:=hv.SN hd hq;refine (an7 _ _ (hv.TY ha (by omega)) (hv.TY ha hk') y B g1 g2 g3 _ _ vt vc W hst (Nat.le_trans hB hk.size) hg1 (by omega) (by omega)).mono ?_;rintro e W' ⟨rfl,⟨vt',vc',hst'⟩,hk2⟩;refine ⟨rfl,⟨⟨vt',vc',?_⟩,hk.trans hk2,hk2.below w hb k1 k2 k3⟩,hk2.base hb k1 k2 k3⟩;rw [List.append_nil,<- List.append_assoc,List.flatMap_append,List.flatMap_append];simpa using hst'
 ·rintro e W' ⟨rfl,h,-⟩;rw [foldl_snoc,List.nil_append] at h;exact ⟨rfl,h⟩
theorem jR.own {B g2 g3:Nat} {W W':World} (h:jR B g2 g3 W W') {α:Type} {B0:Nat} {e:TypeId} {n:Nat} {f:α->List Value} {v:Value} {l:List α} (ho:Own W B0 e n f v l) (hB:W.heap.size<=B) (h1:v.ownBlock≠some g2) (h2:v.ownBlock≠some g3):Own W' B0 e n f v l:=by
 obtain ⟨h0,h3⟩:=ho;refine ⟨h0,?_⟩;rcases h3 with h3 | ⟨q,cap,cur,rfl,a1,a2,a3⟩
 · exact .inl h3
 · exact .inr ⟨q,cap,cur,rfl,a1,jR.keep h (cs:=cur) a2 (Nat.lt_of_lt_of_le (aj.lt a2) hB) (fun e=>h1 (by rw [e];rfl)) (fun e=>h2 (by rw [e];rfl)),a3⟩
theorem zV.step {w:World} {B g1 g2 g3:Nat} {y:Int} {S:List (Pt×Pt)} {T:List Rn} {w2 W W':World} (h:zV w B g1 g2 g3 y S T w2 W) (hB:B<=w2.heap.size) (hb:Below W.heap.size W W'):zV w B g1 g2 g3 y S T w2 W':=by
 obtain ⟨⟨vt,vc,hs⟩,hk,hw⟩:=h;exact ⟨⟨vt,vc,hs.keep hb⟩,hk.trans (jR.of (Nat.le_trans hB hk.size) hb),bT hw hb⟩
set_option maxRecDepth 100000 in
set_option maxHeartbeats 8000000 in
theorem arf (v:Value) (p:Pl) (w:World) (h:dS w v p) (hv:Valid p) (gm:Nat) (f:Int->SV) (hpm:qQ w gm p f) (x:AD) (b:Option (List Int)) (hb:b∈jQ p)
  (ho:Ints w (aH x.ov) x.out) (hi:Sl w (aH x.iv) x.inn.length (x.inn.flatMap kY)) (hc:∀ c∈x.inn,Ints w (aH c.2) c.1) (ha:Ints w (aH x.av) x.bn) (hcy:(kN x).map (·.1)=jq p b) (hal:x.bn=sW p b) (y:Int) :
  Calls Tryz.prog 140 #[.map (some gm),v,.agg #[.int .i64 x.tw,aH x.ov,aH x.iv,aH x.av],.int .i64 y] w (YN w (yK p b y)):=by
 have hnl:=hv.KU;have hli:x.inn.length<=512:=by
  have e1:=congrArg List.length hcy;have h2:=List.length_filter_le (fun c=>decide (iK p (oO p c)=b)) (iP p);have h3:(iP p).length<=(aY p).length:=List.length_filter_le _ _;have h4:=hv.DF;unfold kN jq lW at e1;simp only [List.map_cons,List.length_cons,List.length_map] at e1;omega
 have hsl:=hv.ahN hb;have hal2:x.bn.length<=256:=by rw [hal];exact hv.aq2 b
 have qU:=Lib.hid (fun W (hW:Below w.heap.size w W)=>ZF x W (hi.mono hW) (by omega));have KO:=Lib.hid (fun id W (hW:Below w.heap.size w W)=>Wu v p id W (h.mono hW));have nY:=Lib.hid (show ∀ c∈kN x,Ints w (aH c.2) c.1 from fun c hc'=>by
  unfold kN at hc';rcases List.mem_cons.1 hc' with rfl | hc'
  · exact ho
  · exact hc c hc')
 have uo:=Lib.hid (@afg);have Lc:=Lib.hid (fun id n (e:mJ p.nodes id=some n)=>hv.afz (List.mem_of_find?_eq_some e));have yF:=Lib.hid hsl;have qF:=Lib.hid (@aor);have zM:=Lib.hid (fun w2 vc X hX hd B g1 g2 g3 S hl hB hg1 k1 k2 k3 W h0=>ard w w2 gm p f hpm hv vc X hX hd B g1 g2 g3 y S hl hB hg1 k1 k2 k3 W h0);obtain ⟨CL,hCL⟩:∃ CL,kN x=CL:=⟨_,rfl⟩;obtain ⟨C,hC⟩:∃ C,jq p b=C:=⟨_,rfl⟩;have hll:CL.length<=513:=by rw [<- hCL];unfold kN;rw [List.length_cons];omega
 rw [hCL] at qU nY hcy;rw [hC] at hcy;have hcd:∀ c∈C,∀ d∈c,d∈aQ p:=fun c hc=>by rw [<- hC] at hc;exact hv.ahM hb hc
 have HCd:=Lib.hid hcd;have HMp:=Lib.hid hcy;have hlc:C.length=CL.length:=by rw [<- hcy,List.length_map]
 have HSB:=Lib.hid (show iF p b=zU p C C.length by unfold iF zU;rw [hC,List.take_length]);have hle:∀ k,(zU p C k).length<=33280:=fun k=>by
  have:=aq4 p C k
  have e:C.flatMap (bU p)=iF p b:=by unfold iF;rw [hC]
  rw [e] at this;omega
 have Vl:=Lib.hid hle;have HLc:=Lib.hid hlc;obtain ⟨R,hR⟩:∃ R,yK p b y=R:=⟨_,rfl⟩;have HR:=Lib.hid (show R=pY (qW (kM (FC ((iF p b).flatMap (jg y))))) (qW ((iF p b).flatMap (rU y)++FD p b y)) from hR.symm);rw [hR];have rM:=Lib.hid (show ∀ k,(x.bn.take k).flatMap (rV p.nodes y)=((sW p b).take k).flatMap (rV p.nodes y) from fun k=>by rw [hal]);have IZ:=Lib.hid (show FD p b y=x.bn.flatMap (rV p.nodes y) by unfold FD;rw [hal]);have HAi:=Lib.hid ha;clear hCL hC hcy hcd hlc hle hR hal ho hi hc hpm hb hli hsl;obtain ⟨_,_,_,al,rfl,-,⟨An,cn,rfl,-⟩,⟨⟨Aa,ca,rfl,-⟩,-⟩,⟨Af,cf,rfl,-⟩⟩:=h;obtain ⟨tw,out,⟨oa,on,oc⟩,inn,⟨ia,iT,ic⟩,bn,⟨aa,an,ac⟩⟩:=x;unfold aH at qU ha ⊢;simp only at qU ha hal2 rM IZ HAi ⊢;obtain ⟨Ax,cx,he,-⟩:=ha;injection he with q1 q2 q3;subst q1 q2 q3;generalize hnn:p.nodes.length=nn at *;generalize al.length=na at *;generalize p.faces.length=nf at *;clear hv;go_enter Tryz.func140,Tryz.ntmps140;go_upto_region 4 with fail;obtain ⟨W1,hW⟩:∃ W:World,W=((((w.alloc (.cells #[.slice An nn cn,.slice Aa na ca,.slice Af nf cf] 26)).alloc (.cells #[.int .i64 tw,.slice oa on oc,.slice ia iT ic,.slice aa bn.length ac] 82)).alloc (.cells #[.int .i64 y] 3)).alloc (.cells #[.slice none 0 0] 24)).alloc (.cells #[.slice none 0 0] 124):=⟨_,rfl⟩;have X5:aj W1 w.heap.size 26 #[.slice An nn cn,.slice Aa na ca,.slice Af nf cf]:=by rw [hW];exact ((((aj.made rfl _ _).alloc _).alloc _).alloc _).alloc _
 have X6:aj W1 (w.heap.size+1) 82 #[.int .i64 tw,.slice oa on oc,.slice ia iT ic,.slice aa bn.length ac]:=by rw [hW];exact (((aj.made (by simp) _ _).alloc _).alloc _).alloc _
 have X7:aj W1 (w.heap.size+1+1) 3 #[.int .i64 y]:=by rw [hW];exact ((aj.made (by simp) _ _).alloc _).alloc _
 have X9:aj W1 (w.heap.size+1+1+1) 24 #[.slice none 0 0]:=by rw [hW];exact (aj.made (by simp) _ _).alloc _
 have lQ:aj W1 (w.heap.size+1+1+1+1) 124 #[.slice none 0 0]:=by rw [hW];exact aj.made (by simp) _ _
 have hA:Below w.heap.size w W1:=by rw [hW];exact bA (bA (bA (bA (bA (bR w) _) _) _) _) _
 have hsz:W1.heap.size=w.heap.size+5:=by rw [hW];simp
 have HA:=Lib.hid hA;have bK:=Lib.hid X5;have jL:=Lib.hid X6;have kF:=Lib.hid X7;have qo:=Lib.hid X9;have Mc:=Lib.hid lQ;rw [<- hW];clear hW hA;obtain ⟨g5,h5⟩:∃ g,w.heap.size=g:=⟨_,rfl⟩;obtain ⟨g6,h6⟩:∃ g,w.heap.size+1=g:=⟨_,rfl⟩;obtain ⟨g7,h7⟩:∃ g,w.heap.size+1+1=g:=⟨_,rfl⟩;obtain ⟨g9,h9⟩:∃ g,w.heap.size+1+1+1=g:=⟨_,rfl⟩;obtain ⟨g11,h11⟩:∃ g,w.heap.size+1+1+1+1=g:=⟨_,rfl⟩;have hn:w.heap.size<=g5/\g5<g6/\g6<g7/\g7<g9/\g9<g11/\g11<W1.heap.size:=by omega
 rw [h11] at lQ Mc ⊢;rw [h9] at X9 qo ⊢;rw [h7] at X7 kF ⊢;rw [h6] at X6 jL ⊢;rw [h5] at X5 bK ⊢;clear h5 h6 h7 h9 h11;obtain ⟨jk,jl,jm,sK,uY,-,-,-,-⟩:=X6.nG;go_wp2_with fail;refine (qU.out _ HA.out).mono ?_;rintro e w2 ⟨⟨Ac,cc,rfl,hown⟩,hb2⟩;have HO:=Lib.hid hown;have HB2:=Lib.hid (bT HA.out hb2);have PN:=Lib.hid (show vK w2 w2.heap.size g7 g11 g9 y [] [] (.slice none 0 0) (.slice none 0 0) from ⟨kF.out.keep hb2,⟨Mc.out.keep hb2,Own.nil _ _ _ _ _⟩,⟨qo.out.keep hb2,Own.nil _ _ _ _ _⟩⟩);have hs2:=hb2.size;replace bK:=Lib.hid (bK.out.keep hb2);replace jL:=Lib.hid (jL.out.keep hb2);have hw2:w.heap.size<=w2.heap.size:=by omega
 clear hb2 hown qU HA kF qo Mc X5 X6 jk jl jm sK uY X7 X9 lQ;go_upto_block 0 with fail;go_wp2_with fail;go_loopw [24] (fun i wr=>∃ k:Nat,k<=CL.length/\i=.int .i64 k/\zV w w2.heap.size g7 g11 g9 y (zU p C k) [] w2 wr) (fun i _=>CL.length-(intOf i).toNat)
 case atStart => exact ⟨0,Nat.zero_le _,rfl,⟨⟨_,_,PN.out⟩,jR.refl _ _ _ _,HB2.out⟩⟩
 case round =>
  obtain ⟨k,hk,rfl,hr⟩:=hrel;obtain ⟨wo,rfl⟩:∃ wo:World,wo=wr:=⟨_,rfl⟩;have pJ:=Lib.hid hr;clear hr PN;by_cases hlt:k<CL.length
  ·have hOr:=pJ.out.kept.own HO.out (Nat.le_refl _) (fun e=>by have:=(HO.out.lt g11 e).1;omega) (fun e=>by have:=(HO.out.lt g9 e).1;omega);obtain ⟨A',c',he,-,-,mW⟩:=hOr.sl;injection he with q1 q2 q3;subst q1 q3;clear q2;obtain ⟨b',o',rfl,hlb,c0⟩:=mW.cy hlt;have Vm:k<C.length:=by rw [HLc.out];exact hlt
   have hCk:=af7 HMp.out hlt Vm;have hcs:=aq3 p Vm;have hl1:=Vl.out (k+1);have hii:=nY.out _ (List.getElem_mem hlt);have hdd:=HCd.out _ (List.getElem_mem Vm);rw [hCk] at hcs hdd;rw [hcs,List.length_append] at hl1;have HC:=Lib.hid (fun W h0=>zM.out w2 _ _ hii hdd w2.heap.size g7 g11 g9 (zU p C k) (by omega) (Nat.le_refl _) (by omega) hw2 (by omega) (by omega) W h0);generalize CL[k]=X at *;obtain ⟨X,⟨sa,sn,sc⟩⟩:=X;unfold aH at HC;simp only at c0 HC hcs;have HCs:=Lib.hid hcs;clear hOr mW hii hdd hCk Vm hcs hl1;go_wp2_with fail;refine (HC.out _ pJ.out).mono ?_;rintro e w4 ⟨rfl,hr2⟩;have HR2:=Lib.hid hr2;clear hr2;go_wp2_with fail;go_roundw
   case rel => exact ⟨k+1,by omega,by go_num,by rw [HCs.out];exact HR2.out⟩
   case measure => simp [intOf];omega
  ·obtain rfl:k=CL.length:=by omega
   have Md:=pJ.out;rw [<- HLc.out,<- HSB.out] at Md;have HR1:=Lib.hid Md;clear Md pJ;have hw3:=HR1.out.kept.size;have X6:=HR1.out.kept.keep jL.out (by omega) (by omega) (by omega);obtain ⟨wA,rfl⟩:∃ wA:World,wA=wo:=⟨_,rfl⟩;clear zM nY HCd HMp Vl HO HSB HB2 jL
   try clear jk
   try clear jl
   try clear jm
   try clear sK
   try clear uY
   obtain ⟨jk,jl,jm,sK,uY,-,-,-,-⟩:=X6.nG;go_upto_block 2 with fail;clear X6 jk jl jm sK uY;go_wp2_with fail;go_loopw [36] (fun i wr=>∃ k:Nat,k<=bn.length/\i=.int .i64 k/\zV w w2.heap.size g7 g11 g9 y (iF p b) ((bn.take k).flatMap (rV p.nodes y)) w2 wr) (fun i _=>bn.length-(intOf i).toNat)
   case atStart => exact ⟨0,Nat.zero_le _,rfl,HR1.out⟩
   case round =>
    obtain ⟨k,hk,rfl,hr⟩:=hrel;obtain ⟨wo,rfl⟩:∃ wo:World,wo=wr:=⟨_,rfl⟩;have pJ:=Lib.hid hr;clear hr HR1;by_cases hlt:k<bn.length
    ·obtain ⟨A',c',he,-,-,mW⟩:=HAi.out.mono pJ.out.below;injection he with q1 q2 q3;subst q1 q3;clear q2;obtain ⟨b',o',rfl,hlb,c0⟩:=mW.int hlt;have hts:(bn.take (k+1)).flatMap (rV p.nodes y)=(bn.take k).flatMap (rV p.nodes y)++rV p.nodes y bn[k]:=by
      rw [List.take_succ_eq_append_getElem hlt,List.flatMap_append];simp
     obtain ⟨F,hF⟩:∃ F,rV p.nodes y bn[k]=F:=⟨_,rfl⟩;rw [hF] at hts;have HTs:=Lib.hid hts;have hlen:((bn.take k).flatMap (rV p.nodes y)).length<=256:=by
      have:=Jj (rV p.nodes y) (ahL p.nodes y) (bn.take k)
      rw [List.length_take] at this;omega
     clear hts mW;unfold rV at hF;generalize bn[k]=id at *;have hs3:=pJ.out.kept.size;have X5:=pJ.out.kept.keep bK.out (by omega) (by omega) (by omega);have HN:=Lib.hid (fun W (hW:Below wo.heap.size wo W)=>KO.out id W (bT pJ.out.below hW));unfold QL at HN;obtain ⟨fn,hfn⟩:∃ fn,mJ p.nodes id=fn:=⟨_,rfl⟩;rw [hfn] at HN hF;have HF:=Lib.hid hF;have HBg:=Lib.hid (fun n (e:fn=some n)=>Lc.out id n (hfn.trans e));clear hfn hF;obtain ⟨dF,dG,dI,jo,-,-,-⟩:=X5.bC
     cases fn with
     | none =>
      replace HN:=Lib.hid (show ∀ W,Below wo.heap.size wo W->Calls Tryz.prog 74 #[.agg #[.slice An nn cn,.slice Aa na ca,.slice Af nf cf],.int .i64 id] W fun e w'=>e=.returned (.tuple #[.agg #[.int .i64 0,.int .i64 0,.int .i64 0],.bool false])/\Below W.heap.size W w' from HN.out);go_wp2_with fail;refine (HN.out _ (bR wo)).mono ?_;rintro e w4 ⟨rfl,hb4⟩;have HB4:=Lib.hid hb4;clear hb4 X5 dF dG dI jo HN;go_wp2_with fail;go_roundw
      case rel =>
       have hf:F=[]:=HF.out.symm;exact ⟨k+1,by omega,by go_num,by rw [HTs.out,hf,List.append_nil];exact pJ.out.step (Nat.le_refl _) (bA HB4.out _)⟩
      case measure => simp [intOf];omega
     | some n =>
      have hbg:=(HBg.out n rfl).1;obtain ⟨ni,⟨nx,ny⟩⟩:=n;simp only at hbg;replace HN:=Lib.hid (show ∀ W,Below wo.heap.size wo W->Calls Tryz.prog 74 #[.agg #[.slice An nn cn,.slice Aa na ca,.slice Af nf cf],.int .i64 id] W fun e w'=>e=.returned (.tuple #[.agg #[.int .i64 ni,.int .i64 nx,.int .i64 ny],.bool true])/\Below W.heap.size W w' from HN.out);have hf:F=if ny=y then [⟨nx,nx+1⟩] else []:=HF.out.symm;have HF2:=Lib.hid hf;clear hf HF;go_wp2_with fail;refine (HN.out _ (bR wo)).mono ?_;rintro e w4 ⟨rfl,hb4⟩;have HB4:=Lib.hid hb4;clear hb4 X5 dF dG dI jo HN;go_upto_region 13 with fail;obtain ⟨W5,hW⟩:∃ W:World,W=w4.alloc (.cells #[.int .i64 ni,.int .i64 nx,.int .i64 ny] 45):=⟨_,rfl⟩;have X17:aj W5 w4.heap.size 45 #[.int .i64 ni,.int .i64 nx,.int .i64 ny]:=by rw [hW];exact aj.made rfl _ _
      have HRv:=Lib.hid (pJ.out.step (Nat.le_refl _) (show Below wo.heap.size wo W5 by rw [hW];exact bA HB4.out _));obtain ⟨g17,h17⟩:∃ g,w4.heap.size=g:=⟨_,rfl⟩;rw [<- hW]
      try rw [h17]
      rw [h17] at X17;clear hW h17 pJ HB4;obtain ⟨⟨vt,vc,hst⟩,hkp,hbw⟩:=HRv.out;have dQ:=Lib.hid hst;have xI:=Lib.hid hkp;have iD:=Lib.hid hbw;have XR:=hst.row;clear hst hkp hbw HRv;obtain ⟨atL,atM,atN,atO,-,-,-⟩:=X17.bC;obtain ⟨OY,OZ,-⟩:=XR.fB;by_cases hy:ny=y
      ·have hf:=HF2.out;rw [if_pos hy] at hf;subst hf;subst hy;have hll:((iF p b).flatMap (rU ny)++(bn.take k).flatMap (rV p.nodes ny)).length<=40000:=by
        have:=Jj (rU ny) (aa9 ny) (iF p b)
        have:=yF.out
        rw [List.length_append];omega
       obtain ⟨L,hL⟩:∃ L,(iF p b).flatMap (rU ny)++(bn.take k).flatMap (rV p.nodes ny)=L:=⟨_,rfl⟩;rw [hL] at dQ hll;have HL:=Lib.hid hL;obtain ⟨At,ct,hvt,-⟩:=dQ.out.tkn.own.sl;subst hvt;have hB5:w2.heap.size<=W5.heap.size:=xI.out.size;have lQ:=dQ.out.tkn.box;have Mc:=Lib.hid lQ;have kw:IntKind.i64.wrap (nx+1)=nx+1:=IntWalk.i64_in _ (by omega);have hsh:(L++[(⟨nx,nx+1⟩:Rn)]).length=L.length+1:=by simp
       have eu:=Lib.hid hsh;clear hL hsh HF2;obtain ⟨zk,zl,ahR⟩:=lQ.fB;go_wp2_with
        (at_builtin
         refine jH _ rfl (.tmp 54) (.tmp 63) _ rfl (base:=w2.heap.size) Dp BF Dn rfl (Own.alloc dQ.out.tkn.own _) rfl (l2:=[(⟨nx,nx+1⟩:Rn)]) (Sl.lit (n:=1) (aj.made rfl _ _) rfl (dW (by omega))) (by simp only [List.length_cons,List.length_nil];omega) (by simp only [List.length_cons,List.length_nil];omega) (by simp;omega) ?_;intro v3 w3 ho3 hg3 lY;obtain ⟨A3,c3,hv3,-⟩:=ho3.sl;rw [eu.out] at hv3;subst hv3;have HG:=Lib.hid (dQ.out.Zu xI.out.size hg3 ho3);have rO:=aj.grown (Mc.out.alloc _) hg3 (fun e=>Own.dM dQ.out.tkn.own Mc.out (by decide) e.symm);clear ho3 hg3 lY lQ zk zl ahR;obtain ⟨Fe,Fg,Fh⟩:=rO.fB
         )
       go_roundw
       case rel => exact ⟨k+1,by omega,by go_num,⟨⟨_,_,by rw [HTs.out,<- List.append_assoc,HL.out];exact HG.out.1⟩,xI.out.trans HG.out.2,HG.out.2.below w iD.out hw2 (by omega) (by omega)⟩⟩
       case measure => simp [intOf];omega
      ·have hf:=HF2.out;rw [if_neg hy] at hf;have HFn:=Lib.hid hf;clear hf HF2;go_wp2_with fail;go_roundw
       case rel => exact ⟨k+1,by omega,by go_num,by rw [HTs.out,HFn.out,List.append_nil];exact ⟨⟨_,_,dQ.out⟩,xI.out,iD.out⟩⟩
       case measure => simp [intOf];omega
    ·obtain rfl:k=bn.length:=by omega
     have Md:=pJ.out;rw [List.take_length,<- IZ.out] at Md;obtain ⟨⟨vt,vc,hst⟩,hkp,hbw⟩:=Md;have hlt1:((iF p b).flatMap (rU y)++FD p b y).length<=40000:=by
      have h1:=Jj (rU y) (aa9 y) (iF p b);have h2:=Jj (rV p.nodes y) (ahL p.nodes y) bn;have h3:=yF.out;rw [IZ.out,List.length_append];omega
     have ahS:((iF p b).flatMap (jg y)).length<=33280:=Nat.le_trans (Jj (jg y) (ahK y) (iF p b)) yF.out;have hr0:=HR.out;obtain ⟨L,hL⟩:∃ L,(iF p b).flatMap (rU y)++FD p b y=L:=⟨_,rfl⟩;obtain ⟨M,hM⟩:∃ M,(iF p b).flatMap (jg y)=M:=⟨_,rfl⟩;rw [hL] at hst hlt1 hr0;rw [hM] at hst ahS hr0;have HR2:=Lib.hid hr0;have dQ:=Lib.hid hst;have xI:=Lib.hid hkp;have iD:=Lib.hid hbw;obtain ⟨wB,rfl⟩:∃ wB:World,wB=wo:=⟨_,rfl⟩;clear hL hM hr0 hst hkp hbw HR pJ KO Lc yF rM IZ HAi bK;obtain ⟨Am,cm,Zv,hm1,hm2,-⟩:=dQ.out.lJ.own.sl;subst Zv;have X9:=dQ.out.lJ.box;obtain ⟨iw,iy,-⟩:=X9.fB;have Me:=dQ.out.lJ.own;go_wp2_with fail;refine (uo.out w2.heap.size _ M _ Me (by omega)).mono ?_;rintro e w3 ⟨rfl,hq,hg3⟩;have ahT:=Own.dM Me dQ.out.lJ.box (by decide);have hB3:Below w.heap.size w w3:=bG iD.out hg3 (fun k hk=>Nat.le_trans hw2 (Me.lt k hk).1);have Vo:=Lib.hid hq;have qo:=Lib.hid (aj.grown dQ.out.lJ.box hg3 (fun e=>ahT e.symm));have J7:=Lib.hid (aj.grown dQ.out.tkn.box hg3 (fun e=>Own.dM Me dQ.out.tkn.box (by decide) e.symm));have HTo:=Lib.hid (Own.grown dQ.out.tkn.own hg3 (fun g hg=>Own.apart dQ.out.tkn.own Me (by decide) g hg));have HB3:=Lib.hid hB3;have hq2:=an1 M;have Ik:=afe M;obtain ⟨Q,hQ⟩:∃ Q,rP M=Q:=⟨_,rfl⟩;rw [hQ] at Vo hq2 Ik;rw [<- hq2] at HR2;rw [<- Ik] at ahS qo Vo ⊢;obtain ⟨wC,rfl⟩:∃ wC:World,wC=w3:=⟨_,rfl⟩;clear hQ hq2 Ik hq hg3 Me ahT hB3 dQ xI iD X9 iw iy uo;go_upto_block 4 with fail;go_wp2_with fail;go_loopw [19,10] (fun i s wr=>∃ (j:Nat) (O:List Rn),j<=Q.length/\i=.int .i64 ((j:Int)+1)/\(∃ A c,s=.slice A O.length c)/\Own wr wC.heap.size 121 2 gK s O/\(∃ m,j=2*m/\O=kM (Q.take j))/\Below wC.heap.size wC wr) (fun i _ _=>Q.length-(intOf i).toNat)
     case atStart => exact ⟨0,[],Nat.zero_le _,rfl,⟨_,_,rfl⟩,Own.nil _ _ _ _ _,⟨0,rfl,rfl⟩,bR wC⟩
     case round =>
      obtain ⟨j,O,hj,rfl,⟨Ao,co,rfl⟩,hoo,hjm,iH⟩:=hrel;obtain ⟨wo,rfl⟩:∃ wo:World,wo=wr:=⟨_,rfl⟩;have Ot:=Lib.hid hoo;have Vp:=Lib.hid hjm;have iR:=Lib.hid iH;have X9:=qo.out.keep iH;have Vq:=iH.size;have hOl:O.length<=40000:=by
       obtain ⟨m,-,rfl⟩:=hjm;have:=ahQ _ (Q.take j) (Nat.le_refl _)
       have:=List.length_take_le j Q
       omega
      clear hoo hjm iH;by_cases hlt:j+1<Q.length
      ·obtain ⟨Aq,cq,he,-,-,hRq⟩:=Vo.out.sl;injection he with q1 q2 q3;subst q1 q3;clear q2;obtain ⟨b',o',rfl,hlb,c0⟩:=Row.int hRq (k:=j) (by omega);obtain ⟨b'',o'',he,-,c1⟩:=Row.int hRq hlt;injection he with he;injection he with q1 q2 _;subst q1 q2;replace c0:=fG iR.out c0;replace c1:=fG iR.out c1;have wM:=qo.out.lt;have hlo:b'<wo.heap.size:=Nat.lt_of_lt_of_le hlb Vq;have hgt:∀ m,j=2*m->kM (Q.take (j+2))=kM (Q.take j)++jU (Q[j]'(by omega)) Q[j+1]:=fun m hm=>by
        subst hm;exact ahO m Q hlt
       have HGt:=Lib.hid hgt;clear hgt hRq;generalize Q[j+1]=x2 at *;generalize Q[j]=x1 at *;have k2:IntKind.i64.wrap ((j:Int)+1-1)=j:=by rw [show (j:Int)+1-1=j by omega];exact IntWalk.i64_in _ (by omega)
       have k3:(j:Int)<Q.length:=by omega
       have k8:IntKind.i64.wrap (j:Int)=j:=IntWalk.i64_in _ (by omega);have k4:0<=(j:Int):=by omega
       have k5:(j:Int)+1-1=j:=by omega
       have k6:(j:Int)+1<Q.length:=by omega
       have k7:0<=(j:Int)+1:=by omega
       try clear iw
       try clear iy
       obtain ⟨iw,iy,-⟩:=X9.fB;go_upto_region 20 with fail;refine bZ (Since wo) (.run 10 0 0 (.done)) (by kernel_rfl) (bD (bR _)) (by kernel_rfl) (by kernel_rfl) (Nat.le_of_ble_eq_true (by kernel_rfl)) ?_;intro cO QR ak aC hS
       iterate 10
        apply bg;exact ak;exact rfl;exact hS;exact rfl
        · intro _ hqc;go_simp;try rfl
        try simp only [pu]
       refine bM ?_;refine aC.down _ _ ?_;have hB:Below wo.heap.size wo wo.drew:=hS;clear hS aC ak;skip;obtain ⟨wd,hwd⟩:∃ wd:World,wd=wo.drew:=⟨_,rfl⟩;have ahU:=Lib.hid (X9.keep hB);have DV:=Lib.hid (Ot.out.keep hB);have rD:=Lib.hid (bT iR.out hB);have d0:=fG hB c0;have d1:=fG hB c1;have hld:b'<wd.heap.size:=by rw [hwd];exact Nat.lt_of_lt_of_le (Nat.lt_of_lt_of_le hlb Vq) hB.size
       have aj6:wC.heap.size<=wd.heap.size:=by rw [hwd];exact Nat.le_trans Vq hB.size
       rw [<- hwd] at ahU DV rD d0 d1 ⊢;clear hwd hB X9 iw iy c0 c1 Ot iR Vq hlo;have X9:=ahU.out;by_cases hx:x1<x2
       ·have hsh:(O++[(⟨x1,x2⟩:Rn)]).length=O.length+1:=by simp
        have eu:=Lib.hid hsh;clear hsh
        try clear iw
        try clear iy
        obtain ⟨iw,iy,-⟩:=X9.fB;go_upto_region 21 with fail;refine bZ (gW (wC.heap.size) wd) (.run 11 0 0 (.call 11 4095 (.call 12 8191 (.take 13 16383 (.done))))) (by kernel_rfl) (Below.drew (Below.refl _ _)) (by kernel_rfl) (by kernel_rfl) (Nat.le_of_ble_eq_true (by kernel_rfl)) ?_;intro cO QR ak aC hS
        iterate 11
         apply lK;exact ak;exact rfl;exact hS;exact rfl
         · intro _ hqc;go_simp;try rfl
         try simp only [pu]
        refine aT (i:=11) (aG ak rfl) (fun K hK=>?_);have aA:=Lib.hid hS;clear hS;refine aO (aV rfl) ?_;go_simp;refine hK.out _ _ (oM (by omega) aA.out _) (fun hS=>?_);clear hK K aA
        try simp only [pu]
        refine aT (i:=12) (aG ak rfl) (fun K hK=>?_);have aA:=Lib.hid hS;clear hS;refine aO (aV rfl) ?_;refine wI (.tmp 84) (.tmp 95) _ rfl (base:=wC.heap.size) (l:=O) (l2:=[⟨x1,x2⟩]) Dp BF Dn rfl (Own.alloc (DV.out.keep (bD (bR wd))) _) rfl (Sl.lit (n:=1) (aj.made rfl _ _) rfl (dW (by omega))) (by simp only [List.length_cons,List.length_nil];omega) (by simp only [List.length_cons,List.length_nil];omega) (by simp;omega) ?_;intro v9 wn abb hgn arh;obtain ⟨A9,c9,Qd,-⟩:=Own.mY abb;rw [eu.out] at Qd;subst Qd;have ari:=Lib.hid abb;have hS:gW wC.heap.size wd wn:=Below.grown (Below.alloc (Below.drew (Below.refl _ _)) (by simp;omega) _) hgn (by simp;omega) (fun g hg=>(DV.out.lt g hg).1);clear abb hgn arh;clear aA;refine hK.out _ _ hS (fun _=>?_);clear hK K
        try simp only [pu]
        apply lK;exact ak;exact rfl;exact hS;exact rfl
        · intro _ hqc;go_simp;try rfl
        try simp only [pu]
        refine bM ?_;refine aC.down _ _ ?_;have hB:Below (wC.heap.size) wd _:=hS;clear hS aC ak;go_wp2_with fail;go_roundw
        case rel => exact ⟨j+2,O++[⟨x1,x2⟩],by omega,by go_num,⟨A9,c9,by rw [eu.out]⟩,ari.out,(by obtain ⟨m,h1,h2⟩:=Vp.out;exact ⟨m+1,by omega,by rw [HGt.out m h1,<- h2];unfold jU;rw [if_pos hx]⟩),Below.trans rD.out hB⟩
        case measure => simp [intOf];omega
       ·go_wp2_with fail;go_roundw
        case rel => exact ⟨j+2,O,by omega,by go_num,⟨_,_,rfl⟩,DV.out,(by obtain ⟨m,h1,h2⟩:=Vp.out;exact ⟨m+1,by omega,by rw [HGt.out m h1,<- h2];unfold jU;rw [if_neg hx,List.append_nil]⟩),rD.out⟩
        case measure => simp [intOf];omega
      ·obtain ⟨m,h1,h2⟩:=Vp.out;have hOe:O=kM Q:=by
        rw [h2,h1];exact ahP m Q (by omega) (by omega)
       have hr:=HR2.out;rw [<- hOe] at hr;have FW:=Lib.hid hr;have qR:=Lib.hid (bT HB3.out iR.out);obtain ⟨At,ct,hvt,-⟩:=HTo.out.sl;subst hvt;have lQ:=J7.out.keep iR.out;have HTf:=Lib.hid (HTo.out.keep iR.out);clear hr hOe h2 Vp qo Vo J7 HTo HB3 HR2
       try clear iw
       try clear iy
       obtain ⟨iw,iy,-⟩:=X9.fB
       try clear zk
       try clear zl
       try clear ahR
       obtain ⟨zk,zl,-⟩:=lQ.fB;by_cases h0:O.length=0
       ·have hO:O=[]:=List.length_eq_zero_iff.1 h0;have hz:((O.length:Nat):Int)=0:=by omega
        have hr:=FW.out;rw [hO,aq5] at hr;have HR0:=Lib.hid hr;clear hr hO;go_wp2_with fail;go_ret;exact ⟨none,0,by rw [HR0.out];rfl,by rw [HR0.out];exact Own.nil _ _ _ _ _,qR.out⟩
       ·have hz:¬ ((O.length:Nat):Int)=0:=by omega
        go_wp2_with fail;refine (qF.out _ _ O L wo Ot.out.sl HTf.out.sl (by omega) (by omega)).mono ?_;rintro e w5 ⟨A,c,rfl,gy,hb5⟩;rw [<- FW.out] at gy ⊢;have rX:=Lib.hid gy;have dK:=Lib.hid (bT qR.out hb5);have hsz5:=qR.out.size;clear gy hb5;go_wp2_with fail;go_ret;exact ⟨A,c,rfl,rX.out.iW hsz5,dK.out⟩
end Go.Proofs.YtialfdomhoojiaaGreat
