import Derived.Test.YtnhdmghgjngcaaaGreatJ32
set_option linter.unusedSimpArgs false
set_option linter.unusedVariables false
namespace Go.Proofs.YtnhdmghgjngcaaaGreat
open Go.RowKit
set_option linter.unusedSectionVars false

def thnA (a:Ar) (k:Nat):Ar:=⟨a.id,a.fr,a.dst,a.via.eraseIdx k,a.left,a.right⟩
def thnG (i:Int) (k:Nat) (b:Ar):Ar:=if b.id=i then thnA b k else b
theorem thnG_id (i:Int) (k:Nat) (b:Ar):(thnG i k b).id=b.id:=by unfold thnG;split<;>rfl
theorem drop_map (i:Int) (k:Nat):∀ l:List Ar,(l.map (·.id)).Pairwise (· < ·)→dropL i k l=l.map (thnG i k)
 | [],_=>rfl
 | b::l,h=>by
  rw [List.map_cons,List.pairwise_cons] at h
  unfold dropL
  rw [List.map_cons]
  by_cases e:b.id=i
  ·
   rw [if_pos e]
   have e1:thnG i k b=thnA b k:=if_pos e
   have e2:l.map (thnG i k)=l:=by
    have:∀ x∈l,thnG i k x=x:=fun x hx=>by
     have:=h.1 x.id (List.mem_map_of_mem hx)
     exact if_neg (by omega)
    rw [List.map_congr_left this,List.map_id']
   rw [e1,e2]
   rfl
  ·
   rw [if_neg e,drop_map i k l h.2]
   have e1:thnG i k b=b:=if_neg e
   rw [e1]
theorem getD_erase (l:List Pt) (i j:Nat):(l.eraseIdx i).getD j pt0=if j<i then l.getD j pt0 else l.getD (j+1) pt0:=by
 rw [List.getD_eq_getElem?_getD,List.getD_eq_getElem?_getD,List.getD_eq_getElem?_getD,List.getElem?_eraseIdx]
 split<;>rfl
theorem path_cut (p:Pl) (a:Ar) {k:Nat} (hk:k<a.via.length) (i:Int) (j:Nat):pathS (dropV p i j) (thnA a k)=(pathS p a).eraseIdx (k+1):=by
 show nodeAt p a.fr::(a.via.eraseIdx k++[nodeAt p a.dst])=(nodeAt p a.fr::(a.via++[nodeAt p a.dst])).eraseIdx (k+1)
 rw [List.eraseIdx_cons_succ,List.eraseIdx_append_of_lt_length hk]
section
variable {p:Pl} (h:Valid p) {a:Ar} (ha:a∈p.arcs) {k:Nat} (hk:k<a.via.length) (hf:FreeAt p a k)
include h ha hk
theorem Valid.cut_arcs:(dropV p a.id k).arcs=p.arcs.map (thnG a.id k):=drop_map a.id k p.arcs h.sound.arcs
theorem Valid.cut_ids:(dropV p a.id k).arcs.map (·.id)=p.arcs.map (·.id):=by
 rw [h.cut_arcs ha hk,List.map_map]
 exact List.map_congr_left fun b _=>thnG_id _ _ b
theorem Valid.cut_at {c:Ar} (hc:c∈p.arcs):thnG a.id k c=if c=a then thnA a k else c:=by
 unfold thnG
 by_cases e:c=a
 · subst e;rw [if_pos rfl,if_pos rfl]
 · rw [if_neg (fun g=>e (h.arc_eq hc ha g)),if_neg e]
theorem Valid.cut_pt (j:Nat):(pathS (dropV p a.id k) (thnA a k)).getD j pt0=if j<k+1 then (pathS p a).getD j pt0 else (pathS p a).getD (j+1) pt0:=by
 rw [path_cut p a hk,getD_erase]
theorem Valid.cut_len:(pathS (dropV p a.id k) (thnA a k)).length=(pathS p a).length-1:=by
 have hl:=pathS_length p a
 rw [path_cut p a hk,List.length_eraseIdx,if_pos (by omega)]
include hf
theorem Valid.cut_new {c:Ar} (hc:c∈p.arcs) {m:Nat} (hm:m+1<(pathS p c).length) (hne:¬ (c=a∧(m=k∨m=k+1))) :
  rmeetS ((pathS p c).getD m pt0) ((pathS p c).getD (m+1) pt0) ((pathS p a).getD k pt0) ((pathS p a).getD (k+2) pt0) =
   if (pathS p c).getD m pt0=(pathS p a).getD k pt0∨(pathS p c).getD (m+1) pt0=(pathS p a).getD k pt0∨(pathS p c).getD m pt0=(pathS p a).getD (k+2) pt0∨(pathS p c).getD (m+1) pt0=(pathS p a).getD (k+2) pt0 then 1 else 0:=by
 have hl:=pathS_length p a
 obtain ⟨n1,n2,n3⟩:=h.fr_ne ha hk hf
 have nA:=h.pt_near ha (k:=k) (by omega);have nB:=h.pt_near ha (k:=k+1) (by omega);have nC:=h.pt_near ha (k:=k+2) (by omega)
 have ns:=h.pt_near hc (k:=m) (by omega);have nt:=h.pt_near hc hm
 unfold rmeetS
 rw [if_pos (near4 ns nt nA nC)]
 exact cut_all nA nB nC ns nt n1 n2 n3 (h.fr_beside ha hk hf hc hm hne)
theorem Valid.cut_good:ArcGood (dropV p a.id k) (thnA a k):=by
 have hl:=pathS_length p a
 have hlen:=h.cut_len ha hk
 have hpt:=h.cut_pt ha hk
 obtain ⟨n1,n2,n3⟩:=h.fr_ne ha hk hf
 have hgood:=((planar_iff p h.sound.arcs).1 h.planar).1 a ha
 have nA:=h.pt_near ha (k:=k) (by omega);have nC:=h.pt_near ha (k:=k+2) (by omega)
 constructor
 ·
  intro j hj
  rw [hlen] at hj
  unfold aloneS
  rw [Bool.and_eq_true,List.all_eq_true]
  have hloop:(a.fr != a.dst || decide (3≤(((pathS p a).length-1-1:Nat):Int)))=true:=by
   by_cases e:a.fr=a.dst
   ·
    have:=hf.loop e
    rw [Bool.or_eq_true];right
    exact decide_eq_true (by omega)
   ·
    rw [Bool.or_eq_true];left
    simpa using e
  constructor
  ·
   intro x hx
   have hx':x∈p.nodes:=hx
   unfold offNd
   rw [Bool.or_eq_true,Bool.not_eq_true']
   show isEnd ⟨thnA a k,j,(pathS (dropV p a.id k) (thnA a k)).length-1,_,_⟩ x=true∨ronS ((pathS (dropV p a.id k) (thnA a k)).getD j pt0) ((pathS (dropV p a.id k) (thnA a k)).getD (j+1) pt0) x.pt=false
   rw [hpt,hpt,hlen]
   have fin:((j=0∧a.fr=x.id)∨(j=a.via.length-1∧a.dst=x.id))→isEnd ⟨thnA a k,j,(pathS p a).length-1-1,(pathS (dropV p a.id k) (thnA a k)).getD j pt0,(pathS (dropV p a.id k) (thnA a k)).getD (j+1) pt0⟩ x=true:=by
    intro g
    unfold isEnd
    simp only [Bool.or_eq_true,Bool.and_eq_true,beq_iff_eq]
    show ((j:Int)=0∧a.fr=x.id)∨((j:Int)=(((pathS p a).length-1-1:Nat):Int)-1∧a.dst=x.id)
    rcases g with ⟨g1,g2⟩ | ⟨g1,g2⟩
    · left;exact ⟨by omega,g2⟩
    · right;exact ⟨by omega,g2⟩
   cases ho:ronS (if j<k+1 then (pathS p a).getD j pt0 else (pathS p a).getD (j+1) pt0) (if j+1<k+1 then (pathS p a).getD (j+1) pt0 else (pathS p a).getD (j+1+1) pt0) x.pt
   · right;rfl
   ·
    left
    refine fin ?_
    rcases Nat.lt_trichotomy j k with g | g | g
    ·
     rw [if_pos (by omega),if_pos (by omega)] at ho
     rcases h.on_end ha (k:=j) (by omega) hx' ho with ⟨e1,e2⟩ | ⟨e1,-⟩
     · left;exact ⟨e1,e2⟩
     · omega
    ·
     subst g
     rw [if_pos (by omega),if_neg (by omega)] at ho
     have nx:=h.node_near hx'
     have hon:onP ((pathS p a).getD j pt0) ((pathS p a).getD (j+2) pt0) x.pt:=by
      rw [← onS_eq] at ho
      exact (onS_onP nA nC nx).1 ho
     have hw:=tri_AC (B:=(pathS p a).getD (j+1) pt0) nA nC nx hon
     have hb:=hf.nds x hx'
     unfold blkS at hb
     rw [tri_eq hf.oA hf.oB hf.oC,hw] at hb
     simp only [Bool.and_true,Bool.and_eq_false_imp,decide_eq_true_eq,decide_eq_false_iff_not,ne_eq,Decidable.not_not] at hb
     by_cases e1:x.pt=(pathS p a).getD j pt0
     ·
      rcases h.occ_node hx' ha (by omega) e1.symm with ⟨q1,q2⟩ | ⟨q1,-⟩
      · left;exact ⟨q1,q2⟩
      · omega
     ·
      by_cases e2:x.pt=(pathS p a).getD (j+1) pt0
      · rcases h.occ_node hx' ha (by omega) e2.symm with ⟨q1,-⟩ | ⟨q1,-⟩<;>omega
      ·
       rcases h.occ_node hx' ha (k:=j+2) (by omega) (hb e1 e2).symm with ⟨q1,-⟩ | ⟨q1,q2⟩
       · omega
       · right;exact ⟨by omega,q2⟩
    ·
     rw [if_neg (by omega),if_neg (by omega)] at ho
     rcases h.on_end ha (k:=j+1) (by omega) hx' ho with ⟨e1,-⟩ | ⟨e1,e2⟩
     · omega
     · right;exact ⟨by omega,e2⟩
  ·
   unfold soundS
   rw [Bool.and_eq_true]
   constructor
   ·
    show (!decide ((pathS (dropV p a.id k) (thnA a k)).getD j pt0=(pathS (dropV p a.id k) (thnA a k)).getD (j+1) pt0))=true
    rw [hpt,hpt,Bool.not_eq_true',decide_eq_false_iff_not]
    rcases Nat.lt_trichotomy j k with g | g | g
    · rw [if_pos (by omega),if_pos (by omega)];exact (h.distinct ha (k:=j) (by omega)).1
    · subst g;rw [if_pos (by omega),if_neg (by omega)];exact n3
    · rw [if_neg (by omega),if_neg (by omega)];exact (h.distinct ha (k:=j+1) (by omega)).1
   ·
    show (a.fr != a.dst || decide (3≤(((pathS (dropV p a.id k) (thnA a k)).length-1:Nat):Int)))=true
    rw [hlen]
    exact hloop
 ·
  intro j m hjm hm
  rw [hlen] at hm
  have seg:∀ j,j+1<(pathS p a).length-1→(segK (dropV p a.id k) (thnA a k) j).a=(if j<k+1 then (pathS p a).getD j pt0 else (pathS p a).getD (j+1) pt0)∧(segK (dropV p a.id k) (thnA a k) j).b=(if j+1<k+1 then (pathS p a).getD (j+1) pt0 else (pathS p a).getD (j+1+1) pt0):=fun j _=>⟨hpt j,hpt (j+1)⟩
  obtain ⟨s1,s2⟩:=seg j (by omega)
  obtain ⟨s3,s4⟩:=seg m hm
  have old:=fun i l (hil:i<l) (hl:l+1<(pathS p a).length)=>hgood.2 i l hil hl
  have fin:∀ (x1 y1 x2 y2:Pt),(segK (dropV p a.id k) (thnA a k) j).a=x1→(segK (dropV p a.id k) (thnA a k) j).b=y1→(segK (dropV p a.id k) (thnA a k) m).a=x2→(segK (dropV p a.id k) (thnA a k) m).b=y2 →
    (if m=j+1∨(j=0∧m+1=(pathS p a).length-1-1∧a.fr=a.dst) then rmeetS x1 y1 x2 y2 == 1 else rmeetS x1 y1 x2 y2 == 0)=true→apartS (segK (dropV p a.id k) (thnA a k) j) (segK (dropV p a.id k) (thnA a k) m)=true:=by
   intro x1 y1 x2 y2 e1 e2 e3 e4 H
   unfold apartS
   rw [e1,e2,e3,e4]
   show (if m=j+1∨(j=0∧m+1=(pathS (dropV p a.id k) (thnA a k)).length-1∧a.fr=a.dst) then _ else _)=true
   rw [hlen]
   exact H
  have oldv:∀ i l,i<l→l+1<(pathS p a).length→(if l=i+1∨(i=0∧l+1=(pathS p a).length-1∧a.fr=a.dst) then rmeetS ((pathS p a).getD i pt0) ((pathS p a).getD (i+1) pt0) ((pathS p a).getD l pt0) ((pathS p a).getD (l+1) pt0) == 1 else rmeetS ((pathS p a).getD i pt0) ((pathS p a).getD (i+1) pt0) ((pathS p a).getD l pt0) ((pathS p a).getD (l+1) pt0) == 0)=true:=fun i l hil hl=>hgood.2 i l hil hl
  rcases Nat.lt_trichotomy m k with g | g | g
  ·
   refine fin _ _ _ _ (s1.trans (if_pos (by omega))) (s2.trans (if_pos (by omega))) (s3.trans (if_pos (by omega))) (s4.trans (if_pos (by omega))) ?_
   have:=oldv j m hjm (by omega)
   have c:(m=j+1∨(j=0∧m+1=(pathS p a).length-1-1∧a.fr=a.dst))↔(m=j+1∨(j=0∧m+1=(pathS p a).length-1∧a.fr=a.dst)):=by omega
   simp only [c]
   exact this
  ·
   subst g
   refine fin _ _ _ _ (s1.trans (if_pos (by omega))) (s2.trans (if_pos (by omega))) (s3.trans (if_pos (by omega))) (s4.trans (if_neg (by omega))) ?_
   rw [h.cut_new ha hk hf ha (m:=j) (by omega) (by omega)]
   split
   ·
    rename_i hc
    rw [if_pos]
    · rfl
    ·
     rcases hc with e | ⟨e1,e2,e3⟩
     · right;left;rw [e]
     ·
      right;right;left
      obtain ⟨nd,hnd,q1,q2⟩:=h.sound.at_fr ha
      have:(pathS p a).getD ((pathS p a).length-1) pt0=(pathS p a).getD 0 pt0:=by rw [path_end,← e3];rfl
      rw [e1,← this]
      congr 1;omega
   ·
    rename_i hc
    rw [if_neg]
    · rfl
    ·
     rintro (e | e | e | e)
     · have:=(h.pt_eq ha (i:=j) (j:=m) (by omega) (by omega) (by omega) e).1;omega
     ·
      by_cases q:j+1=m
      · exact hc (.inl q.symm)
      · have:=(h.pt_eq ha (i:=j+1) (j:=m) (by omega) (by omega) q e).1;omega
     ·
      obtain ⟨q1,q2⟩:=h.pt_eq ha (i:=j) (j:=m+2) (by omega) (by omega) (by omega) e
      exact hc (.inr ⟨by omega,by omega,q2⟩)
     · have:=(h.pt_eq ha (i:=j+1) (j:=m+2) (by omega) (by omega) (by omega) e).1;omega
  ·
   rcases Nat.lt_trichotomy j k with g2 | g2 | g2
   ·
    refine fin _ _ _ _ (s1.trans (if_pos (by omega))) (s2.trans (if_pos (by omega))) (s3.trans (if_neg (by omega))) (s4.trans (if_neg (by omega))) ?_
    have:=oldv j (m+1) (by omega) (by omega)
    have c:(m=j+1∨(j=0∧m+1=(pathS p a).length-1-1∧a.fr=a.dst))↔(m+1=j+1∨(j=0∧m+1+1=(pathS p a).length-1∧a.fr=a.dst)):=by omega
    simp only [c]
    exact this
   ·
    subst g2
    refine fin _ _ _ _ (s1.trans (if_pos (by omega))) (s2.trans (if_neg (by omega))) (s3.trans (if_neg (by omega))) (s4.trans (if_neg (by omega))) ?_
    rw [rmeetS_comm,h.cut_new ha hk hf ha (m:=m+1) (by omega) (by omega)]
    split
    ·
     rename_i hc
     rw [if_pos]
     · rfl
     ·
      rcases hc with e | ⟨e1,e2,e3⟩
      · right;right;left;rw [e]
      ·
       right;left
       have:(pathS p a).getD ((pathS p a).length-1) pt0=(pathS p a).getD 0 pt0:=by rw [path_end,← e3];rfl
       rw [e1,← this]
       congr 1;omega
    ·
     rename_i hc
     rw [if_neg]
     · rfl
     ·
      rintro (e | e | e | e)
      · have:=(h.pt_eq ha (i:=m+1) (j:=j) (by omega) (by omega) (by omega) e).1;omega
      ·
       obtain ⟨q1,q2⟩:=h.pt_eq ha (i:=m+1+1) (j:=j) (by omega) (by omega) (by omega) e
       exact hc (.inr ⟨by omega,by omega,q2⟩)
      ·
       by_cases q:m+1=j+2
       · exact hc (.inl (by omega))
       · have:=(h.pt_eq ha (i:=m+1) (j:=j+2) (by omega) (by omega) q e).1;omega
      · have:=(h.pt_eq ha (i:=m+1+1) (j:=j+2) (by omega) (by omega) (by omega) e).1;omega
   ·
    refine fin _ _ _ _ (s1.trans (if_neg (by omega))) (s2.trans (if_neg (by omega))) (s3.trans (if_neg (by omega))) (s4.trans (if_neg (by omega))) ?_
    have:=oldv (j+1) (m+1) (by omega) (by omega)
    have c:(m=j+1∨(j=0∧m+1=(pathS p a).length-1-1∧a.fr=a.dst))↔(m+1=j+1+1∨(j+1=0∧m+1+1=(pathS p a).length-1∧a.fr=a.dst)):=by omega
    simp only [c]
    exact this
omit hk hf in
theorem Valid.cut_node {c:Ar} (hc:c∈p.arcs) (hne:c≠a) {i j:Nat} (hi:i<(pathS p a).length) (hj:j<(pathS p c).length) (e:(pathS p c).getD j pt0=(pathS p a).getD i pt0):∃ x∈p.nodes,x.pt=(pathS p a).getD i pt0∧endsS a x.id=true∧endsS c x.id=true:=by
 have hl:=pathS_length p a
 have hin:i=0∨i=(pathS p a).length-1:=by
  apply Classical.byContradiction
  intro g
  exact hne (h.occ_inner ha (j:=i) (by omega) (by omega) hc hj e).1
 have hx:∃ x∈p.nodes,x.pt=(pathS p a).getD i pt0∧endsS a x.id=true:=by
  rcases hin with rfl | rfl
  ·
   obtain ⟨x,hx,e1,e2⟩:=h.sound.at_fr ha
   exact ⟨x,hx,by rw [path_0,e2],by unfold endsS;simp [e1]⟩
  ·
   obtain ⟨x,hx,e1,e2⟩:=h.sound.at_dst ha
   exact ⟨x,hx,by rw [path_end,e2],by unfold endsS;simp [e1]⟩
 obtain ⟨x,hx,e1,e2⟩:=hx
 refine ⟨x,hx,e1,e2,?_⟩
 rcases h.occ_node hx hc hj (e.trans e1.symm) with ⟨-,g⟩ | ⟨-,g⟩<;>(unfold endsS;simp [g])
theorem Valid.cut_pair {c:Ar} (hc:c∈p.arcs) (hne:c≠a):ArcPair (dropV p a.id k) (thnA a k) c:=by
 have hl:=pathS_length p a
 have hlen:=h.cut_len ha hk
 have hpt:=h.cut_pt ha hk
 intro j hj m hm
 rw [hlen] at hj
 have hm:m+1<(pathS p c).length:=hm
 have s1:(segK (dropV p a.id k) (thnA a k) j).a=_:=hpt j
 have s2:(segK (dropV p a.id k) (thnA a k) j).b=_:=hpt (j+1)
 have fin:∀ (x1 y1:Pt),(segK (dropV p a.id k) (thnA a k) j).a=x1→(segK (dropV p a.id k) (thnA a k) j).b=y1 →
   (if rmeetS x1 y1 (segK p c m).a (segK p c m).b=1 then p.nodes.any (fun x=>endsS a x.id && endsS c x.id && ronS x1 y1 x.pt && ronS (segK p c m).a (segK p c m).b x.pt) else rmeetS x1 y1 (segK p c m).a (segK p c m).b == 0)=true →
   joinedS (dropV p a.id k) (segK (dropV p a.id k) (thnA a k) j) (segK (dropV p a.id k) c m)=true:=by
  intro x1 y1 e1 e2 H
  unfold joinedS meetAt
  rw [e1,e2]
  exact H
 have old:∀ i,i+1<(pathS p a).length→(if rmeetS ((pathS p a).getD i pt0) ((pathS p a).getD (i+1) pt0) (segK p c m).a (segK p c m).b=1 then p.nodes.any (fun x=>endsS a x.id && endsS c x.id && ronS ((pathS p a).getD i pt0) ((pathS p a).getD (i+1) pt0) x.pt && ronS (segK p c m).a (segK p c m).b x.pt) else rmeetS ((pathS p a).getD i pt0) ((pathS p a).getD (i+1) pt0) (segK p c m).a (segK p c m).b == 0)=true :=
  fun i hi=>h.pair ha hc (fun e=>hne e.symm) i hi m hm
 rcases Nat.lt_trichotomy j k with g | g | g
 · exact fin _ _ (s1.trans (if_pos (by omega))) (s2.trans (if_pos (by omega))) (old j (by omega))
 ·
  subst g
  refine fin _ _ (s1.trans (if_pos (by omega))) (s2.trans (if_neg (by omega))) ?_
  have nA:=h.pt_near ha (k:=j) (by omega);have nC:=h.pt_near ha (k:=j+2) (by omega)
  have ns:=h.pt_near hc (k:=m) (by omega);have nt:=h.pt_near hc hm
  rw [rmeetS_comm]
  show (if rmeetS ((pathS p c).getD m pt0) ((pathS p c).getD (m+1) pt0) ((pathS p a).getD j pt0) ((pathS p a).getD (j+2) pt0)=1 then _ else (rmeetS ((pathS p c).getD m pt0) ((pathS p c).getD (m+1) pt0) ((pathS p a).getD j pt0) ((pathS p a).getD (j+2) pt0) == 0))=true
  rw [h.cut_new ha hk hf hc hm (fun e=>hne e.1)]
  by_cases hsh:(pathS p c).getD m pt0=(pathS p a).getD j pt0∨(pathS p c).getD (m+1) pt0=(pathS p a).getD j pt0∨(pathS p c).getD m pt0=(pathS p a).getD (j+2) pt0∨(pathS p c).getD (m+1) pt0=(pathS p a).getD (j+2) pt0
  ·
   rw [if_pos hsh,if_pos rfl,List.any_eq_true]
   have go:∃ x∈p.nodes,endsS a x.id=true∧endsS c x.id=true∧(x.pt=(pathS p a).getD j pt0∨x.pt=(pathS p a).getD (j+2) pt0)∧(x.pt=(pathS p c).getD m pt0∨x.pt=(pathS p c).getD (m+1) pt0):=by
    rcases hsh with e | e | e | e
    ·
     obtain ⟨x,hx,e1,e2,e3⟩:=h.cut_node ha hc hne (i:=j) (by omega) (by omega) e
     exact ⟨x,hx,e2,e3,.inl e1,.inl (e1.trans e.symm)⟩
    ·
     obtain ⟨x,hx,e1,e2,e3⟩:=h.cut_node ha hc hne (i:=j) (by omega) hm e
     exact ⟨x,hx,e2,e3,.inl e1,.inr (e1.trans e.symm)⟩
    ·
     obtain ⟨x,hx,e1,e2,e3⟩:=h.cut_node ha hc hne (i:=j+2) (by omega) (by omega) e
     exact ⟨x,hx,e2,e3,.inr e1,.inl (e1.trans e.symm)⟩
    ·
     obtain ⟨x,hx,e1,e2,e3⟩:=h.cut_node ha hc hne (i:=j+2) (by omega) hm e
     exact ⟨x,hx,e2,e3,.inr e1,.inr (e1.trans e.symm)⟩
   obtain ⟨x,hx,e1,e2,e3,e4⟩:=go
   refine ⟨x,hx,?_⟩
   simp only [Bool.and_eq_true]
   refine ⟨⟨⟨e1,e2⟩,?_⟩,?_⟩
   ·
    rcases e3 with e3 | e3<;>rw [e3]
    · exact ron_fst nA nC
    · exact ron_snd nA nC
   ·
    show ronS ((pathS p c).getD m pt0) ((pathS p c).getD (m+1) pt0) x.pt=true
    rcases e4 with e4 | e4<;>rw [e4]
    · exact ron_fst ns nt
    · exact ron_snd ns nt
  ·
   rw [if_neg hsh,if_neg (by omega)]
   rfl
 · exact fin _ _ (s1.trans (if_neg (by omega))) (s2.trans (if_neg (by omega))) (old (j+1) (by omega))
theorem Valid.cut:Valid (dropV p a.id k):=by
 have harcs:=h.cut_arcs ha hk
 have hids:=h.cut_ids ha hk
 obtain ⟨o1,o2,o3⟩:=h.ord_parts
 obtain ⟨r1,r2,r3,r4⟩:=h.rng_parts
 obtain ⟨l1,l2,l3,l4⟩:=h.lim_parts
 have hth:=ThinOf.drop p a.id k
 rw [List.any_eq_false] at l1
 rw [List.all_eq_true] at r4
 refine ⟨?_,?_,?_,h.dup,?_,?_,?_⟩
 ·
  unfold limS
  simp only [Bool.or_eq_false_iff,decide_eq_false_iff_not,List.any_eq_false,decide_eq_true_eq]
  refine ⟨fun b hb=>?_,⟨l2,by rw [hth.num];exact l3⟩,l4⟩
  obtain ⟨c,hc,-,hs⟩:=hth.mem hb
  have h1:=l1 c hc
  simp only [decide_eq_true_eq] at h1
  have:=hs.length_le
  omega
 ·
  unfold orderedS
  rw [hids]
  exact h.ord
 ·
  unfold rangesS
  rw [hids]
  show (!((p.nodes.map (·.id)++p.arcs.map (·.id)++p.faces).any idBad) && (pointsS (dropV p a.id k)).all ptOk)=true
  rw [Bool.and_eq_true,List.all_eq_true]
  refine ⟨by rw [List.any_append,List.any_append,r1,r2,r3];rfl,fun x hx=>?_⟩
  unfold pointsS at hx
  rcases List.mem_append.1 hx with hx | hx
  · exact r4 x (List.mem_append_left _ hx)
  ·
   obtain ⟨b,hb,hxb⟩:=List.mem_flatMap.1 hx
   obtain ⟨c,hc,-,hs⟩:=hth.mem hb
   exact r4 x (List.mem_append_right _ (List.mem_flatMap.2 ⟨c,hc,hs.subset hxb⟩))
 ·
  rw [List.all_eq_true]
  intro b hb
  rw [harcs] at hb
  obtain ⟨c,hc,rfl⟩:=List.mem_map.1 hb
  have:=h.sound.ends c hc
  rw [h.cut_at ha hk hc]
  split
  · rename_i e;subst e;exact this
  · exact this
 ·
  unfold sidesS
  rw [List.all_eq_true]
  intro b hb
  rw [harcs] at hb
  obtain ⟨c,hc,rfl⟩:=List.mem_map.1 hb
  have hs:=h.sides
  unfold sidesS at hs
  rw [List.all_eq_true] at hs
  have:=hs c hc
  rw [h.cut_at ha hk hc]
  split
  · rename_i e;subst e;exact this
  · exact this
 ·
  rw [planar_iff _ (by rw [hids];exact h.sound.arcs),harcs]
  have hpl:=(planar_iff p h.sound.arcs).1 h.planar
  constructor
  ·
   intro b hb
   obtain ⟨c,hc,rfl⟩:=List.mem_map.1 hb
   rw [h.cut_at ha hk hc]
   split
   · exact h.cut_good ha hk hf
   · exact hpl.1 c hc
  ·
   rw [List.pairwise_map]
   refine List.Pairwise.imp_of_mem (fun {b c} hb hc hlt=>?_) (show p.arcs.Pairwise (fun b c=>b.id<c.id) from by
    have:=h.sound.arcs;rw [List.pairwise_map] at this;exact this)
   have hbc:b≠c:=fun e=>by subst e;omega
   rw [h.cut_at ha hk hb,h.cut_at ha hk hc]
   by_cases e1:b=a
   ·
    rw [if_pos e1]
    have e2:c≠a:=fun e=>hbc (e1.trans e.symm)
    rw [if_neg e2]
    exact h.cut_pair ha hk hf hc e2
   ·
    rw [if_neg e1]
    by_cases e2:c=a
    ·
     rw [if_pos e2]
     exact (h.cut_pair ha hk hf hb e1).symm
    ·
     rw [if_neg e2]
     exact h.pair hb hc hbc
end
end Go.Proofs.YtnhdmghgjngcaaaGreat
