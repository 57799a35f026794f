import Derived.Test.YtnhdmghgjngcaaaGreatJ12
import Derived.Test.YtnhdmghgjngcaaaGreatJ08
import Derived.Test.YtnhdmghgjngcaaaGreatJ09
import Derived.Test.YtnhdmghgjngcaaaGreatJ07
import Derived.Test.YtnhdmghgjngcaaaGreatJ04
import Derived.Test.YtnhdmghgjngcaaaGreatGB
import Derived.Shelf.SlSortCmp.NoneTotal
import Derived.Test.YtnhdmghgjngcaaaGreatSortB
import Derived.Test.YtnhdmghgjngcaaaGreatLaySortIn
import Derived.Test.YtnhdmghgjngcaaaGreatJ02
set_option linter.unusedSimpArgs false
set_option linter.unusedVariables false
namespace Go.Proofs.YtnhdmghgjngcaaaGreat
open Go.RowKit
set_option linter.unusedSectionVars false

theorem onP_hY {a b u:Pt} (hab:hY a<hY b) (h:onP a b u):hY a≤hY u∧hY u≤hY b:=by
 obtain ⟨h0,x1,x2,y1,y2⟩:=h
 have k1:(hY u-hY a)*(b.y-a.y)=(u.y-a.y)*(hY b-hY a):=by unfold tw at h0;unfold hY;grind
 have k2:(hY u-hY a)*(b.x-a.x)=(u.x-a.x)*(hY b-hY a):=by unfold tw at h0;unfold hY;grind
 have hN:0<hY b-hY a:=by omega
 have hd:hY b-hY a=8388608*(b.y-a.y)+(b.x-a.x):=by unfold hY;omega
 have hu:hY u-hY a=8388608*(u.y-a.y)+(u.x-a.x):=by unfold hY;omega
 have hv:hY b-hY u=8388608*(b.y-u.y)+(b.x-u.x):=by unfold hY;omega
 generalize hY b-hY a=N at *
 have s:∀ {x y:Int},0<x→0<y→0<x*y:=fun h1 h2=>Int.mul_pos h1 h2
 have s2:∀ {x y:Int},x<0→0<y→x*y<0:=fun h1 h2=>Int.mul_neg_of_neg_of_pos h1 h2
 have s3:∀ {x y:Int},0<x→y<0→x*y<0:=fun h1 h2=>Int.mul_neg_of_pos_of_neg h1 h2
 have s4:∀ {x y:Int},x<0→y<0→0<x*y:=fun h1 h2=>Int.mul_pos_of_neg_of_neg h1 h2
 have nn:∀ {x y:Int},0≤x→0≤y→0≤x*y:=fun h1 h2=>Int.mul_nonneg h1 h2
 have np:∀ {x y:Int},x≤0→0≤y→x*y≤0:=fun h1 h2=>Int.mul_nonpos_of_nonpos_of_nonneg h1 h2
 have k1':(hY b-hY u)*(b.y-a.y)=(b.y-u.y)*N:=by
  have:(hY b-hY u)+(hY u-hY a)=N:=by omega
  have e:(hY b-hY u)*(b.y-a.y)=N*(b.y-a.y)-(hY u-hY a)*(b.y-a.y):=by rw [← this];grind
  rw [e,k1];grind
 have k2':(hY b-hY u)*(b.x-a.x)=(b.x-u.x)*N:=by
  have:(hY b-hY u)+(hY u-hY a)=N:=by omega
  have e:(hY b-hY u)*(b.x-a.x)=N*(b.x-a.x)-(hY u-hY a)*(b.x-a.x):=by rw [← this];grind
  rw [e,k2];grind
 have key:∀ {m d q:Int},m*d=q*N→(0<d→0≤q)→(d<0→q≤0)→d≠0→0≤m:=by
  intro m d q e h1 h2 hd0
  apply Classical.byContradiction
  intro hm
  rcases Int.lt_or_gt_of_ne hd0 with g | g
  ·
   have:=s4 (show m<0 by omega) g
   have:=np (h2 g) (show 0≤N by omega)
   omega
  ·
   have:=s2 (show m<0 by omega) g
   have:=nn (h1 g) (show 0≤N by omega)
   omega
 by_cases hy:b.y-a.y=0
 ·
  have hx:b.x-a.x≠0:=by omega
  have m1:=key k2 (by omega) (by omega) hx
  have m2:=key k2' (by omega) (by omega) hx
  omega
 ·
  have m1:=key k1 (by omega) (by omega) hy
  have m2:=key k1' (by omega) (by omega) hy
  omega
theorem line3 {u v a b s:Pt} (hne:u≠v) (ha:tw u v a=0) (hb:tw u v b=0) (hs:tw u v s=0):tw a b s=0:=by
 have h0:=Pt.sub_ne hne
 unfold tw at *
 exact parallel h0 (by grind) (by grind)
theorem up_of {a b:Pt} (na:near1 a=true) (nb:near1 b=true) (hne:a≠b):∃ s t,((a=s∧b=t)∨(a=t∧b=s))∧hY s<hY t∧near1 s=true∧near1 t=true:=by
 rcases Int.lt_trichotomy (hY a) (hY b) with c | c | c
 · exact ⟨a,b,.inl ⟨rfl,rfl⟩,c,na,nb⟩
 · exact absurd (hY_inj na nb c) hne
 · exact ⟨b,a,.inr ⟨rfl,rfl⟩,c,nb,na⟩
theorem onP_flip {a b v:Pt} (h:onP a b v):onP b a v:=by
 obtain ⟨h0,h1⟩:=h
 refine ⟨?_,by rw [Int.min_comm,Int.max_comm b.x,Int.min_comm b.y,Int.max_comm b.y];exact h1⟩
 have:tw b a v=-tw a b v:=by unfold tw;grind
 omega
theorem two_common {a b c d u v:Pt} (na:near1 a=true) (nb:near1 b=true) (nc:near1 c=true) (nd:near1 d=true) (nu:near1 u=true) (nv:near1 v=true) (hab:a≠b) (hcd:c≠d) (huv:u≠v)
  (h1:onP a b u) (h2:onP a b v) (h3:onP c d u) (h4:onP c d v):rmeetN a b c d=2:=by
 obtain ⟨s,t,e1,l1,-,-⟩:=up_of na nb hab
 obtain ⟨x,y,e2,l2,-,-⟩:=up_of nc nd hcd
 have hh:hY u≠hY v:=fun e=>huv (hY_inj nu nv e)
 have h1':onP s t u:=by rcases e1 with ⟨rfl,rfl⟩ | ⟨rfl,rfl⟩;exact h1;exact onP_flip h1
 have h2':onP s t v:=by rcases e1 with ⟨rfl,rfl⟩ | ⟨rfl,rfl⟩;exact h2;exact onP_flip h2
 have h3':onP x y u:=by rcases e2 with ⟨rfl,rfl⟩ | ⟨rfl,rfl⟩;exact h3;exact onP_flip h3
 have h4':onP x y v:=by rcases e2 with ⟨rfl,rfl⟩ | ⟨rfl,rfl⟩;exact h4;exact onP_flip h4
 have q1:=onP_hY l1 h1';have q2:=onP_hY l1 h2';have q3:=onP_hY l2 h3';have q4:=onP_hY l2 h4'
 have hst:s≠t:=fun e=>by rw [e] at l1;omega
 have hxy:x≠y:=fun e=>by rw [e] at l2;omega
 obtain ⟨p1,p2⟩:=tw_line hst h1'.1 h2'.1
 obtain ⟨p3,p4⟩:=tw_line hxy h3'.1 h4'.1
 exact over_two e1 e2 l1 l2 (line3 huv p1 p2 p3) (line3 huv p1 p2 p4) (by omega) (by omega)
theorem meet_common {a b c d v:Pt} (na:near1 a=true) (nb:near1 b=true) (nc:near1 c=true) (nd:near1 d=true) (nv:near1 v=true) (hab:a≠b) (hcd:c≠d) (h1:onP a b v) (h2:onP c d v):rmeetN a b c d≠0:=by
 intro h0
 have lin:∀ {a b c d:Pt},near1 c=true→near1 d=true→c≠d→tw a b v=0→onP c d v→(tw a b c≤0∧0≤tw a b d)∨(0≤tw a b c∧tw a b d≤0):=by
  intro a b c d nc nd hcd e ho
  have go:∀ {c d:Pt},hY c<hY d→onP c d v→(tw a b c≤0∧0≤tw a b d)∨(0≤tw a b c∧tw a b d≤0):=by
   intro c d hlt ho
   have hb:=onP_hY hlt ho
   have k:tw a b c*(hY d-hY v)+tw a b d*(hY v-hY c)=0:=by
    have:=ho.1
    have k0:tw a b c*(hY d-hY v)+tw a b d*(hY v-hY c)=tw a b v*(hY d-hY c)-(hY b-hY a)*tw c d v:=by unfold tw hY;grind
    rw [k0,e,this];simp
   have p1:∀ {x y:Int},0<x→0≤y→0≤x*y:=fun h1 h2=>Int.mul_nonneg (by omega) h2
   have p2:∀ {x y:Int},x<0→0≤y→x*y≤0:=fun h1 h2=>Int.mul_nonpos_of_nonpos_of_nonneg (by omega) h2
   have p3:∀ {x y:Int},0<x→0<y→0<x*y:=fun h1 h2=>Int.mul_pos h1 h2
   have p4:∀ {x y:Int},x<0→0<y→x*y<0:=fun h1 h2=>Int.mul_neg_of_neg_of_pos h1 h2
   generalize tw a b c=u1 at *
   generalize tw a b d=u2 at *
   have hA:0≤hY d-hY v:=by omega
   have hB:0≤hY v-hY c:=by omega
   have hAB:0<hY d-hY v∨0<hY v-hY c:=by omega
   generalize hY d-hY v=A at *
   generalize hY v-hY c=B at *
   clear hb ho e hlt
   rcases Int.lt_trichotomy u1 0 with g1 | g1 | g1
   ·
    rcases Int.lt_trichotomy u2 0 with g2 | g2 | g2
    ·
     exfalso
     have:=p2 g1 hA;have:=p2 g2 hB
     rcases hAB with q | q
     · have:=p4 g1 q;omega
     · have:=p4 g2 q;omega
    · omega
    · omega
   · omega
   ·
    rcases Int.lt_trichotomy u2 0 with g2 | g2 | g2
    · omega
    · omega
    ·
     exfalso
     have:=p1 g1 hA;have:=p1 g2 hB
     rcases hAB with q | q
     · have:=p3 g1 q;omega
     · have:=p3 g2 q;omega
  rcases Int.lt_trichotomy (hY c) (hY d) with g | g | g
  · exact go g ho
  · exact absurd (hY_inj nc nd g) hcd
  · have:=go g (onP_flip ho);omega
 have l1:=lin (a:=a) (b:=b) nc nd hcd h1.1 h2
 have l2:=lin (a:=c) (b:=d) na nb hab h2.1 h1
 have e:=tw_d a b c d
 by_cases hp:tw a b d-tw a b c=0
 ·
  have z1:tw a b c=0∧tw a b d=0:=by omega
  obtain ⟨z3,z4⟩:=tw_line hab z1.1 z1.2
  unfold rmeetN at h0
  rw [if_neg (fun e=>hab e.1),if_pos (by rw [cross_d];omega),if_pos ⟨z1.1,z1.2,z3,z4⟩,sharedS_def] at h0
  have b1:=(box_lex a b v hab h1.1).1 ⟨h1.2.1,h1.2.2.1,h1.2.2.2.1,h1.2.2.2.2⟩
  have b2:=(box_lex c d v hcd h2.1).1 ⟨h2.2.1,h2.2.2.1,h2.2.2.2.1,h2.2.2.2.2⟩
  have g1:bef v (hi (lo a b) (lo c d))=false:=hi_le b1.1 b2.1
  have g2:bef (lo (hi a b) (hi c d)) v=false:=lo_ge b1.2 b2.2
  split at h0
  · cases h0
  ·
   rename_i hne
   split at h0
   · cases h0
   ·
    rename_i hb
    rw [Bool.not_eq_true] at hb
    apply hne
    rw [← Bool.not_eq_true,bef_iff] at g1 g2 hb
    rw [Pt.ext_iff']
    omega
 ·
  have NM:=no_meet hab h0 hp
  omega
theorem lvl_cr1 {D:Int} (hD:0<D) {a b v:Pt} (na:near1 a=true) (nb:near1 b=true) (nv:near1 v=true) (hne:a≠b) (hd:hY b-hY a∣D) (hav:a≠v) (hbv:b≠v) (hoff:¬ onP a b v) :
  (if 2*D*v.x<xE D a b (2*hY v) then sgH (2*hY v) a b else 0)=cr1 a b v:=by
 have key:∀ {a b:Pt},hY a<hY b→hY b-hY a∣D→hY a≠hY v→hY b≠hY v→(if 2*D*v.x<xE D a b (2*hY v) then sgH (2*hY v) a b else 0)=cr1 a b v:=by
  intro a b hab hd ha hb
  have hx:=xE_pt hD (v:=v) hab hd
  simp only [hx]
  unfold cr1 sgH
  rw [if_neg (show ¬ (hY b<hY v∧hY v<hY a∧0<tw b a v) by omega)]
  by_cases c:0<tw a b v
  ·
   rw [if_pos c]
   by_cases c1:hY a<hY v
   ·
    by_cases c2:hY v<hY b
    · rw [if_pos (by omega),if_neg (by omega),if_pos ⟨c1,c2,c⟩];rfl
    · rw [if_neg (by omega),if_neg (by omega),if_neg (fun e=>c2 e.2.1)];rfl
   · rw [if_pos (by omega),if_pos (by omega),if_neg (fun e=>c1 e.1)];rfl
  · rw [if_neg c,if_neg (fun e=>c e.2.2)]
 have ha:hY a≠hY v:=fun e=>hav (hY_inj na nv e)
 have hb:hY b≠hY v:=fun e=>hbv (hY_inj nb nv e)
 rcases Int.lt_trichotomy (hY a) (hY b) with c | c | c
 · exact key c hd ha hb
 · exact absurd (hY_inj na nb c) hne
 ·
  have:=key c (by rw [show hY a-hY b=-(hY b-hY a) by omega];exact Int.neg_dvd.2 hd) hb ha
  rw [xE_swap,cr1_neg] at this
  have e2:sgH (2*hY v) b a=-sgH (2*hY v) a b:=by unfold sgH;omega
  rw [e2] at this
  split at this<;>rename_i g<;>first | (rw [if_pos g];omega) | (rw [if_neg g];omega)
section
variable {p:Pl} (h:Valid p)
include h
theorem Valid.wnY_cr1 {z:Int→Int} (hz:ClosedC p z) {v:Pt} (nv:near1 v=true) (hoff:OffZ p z v):wnY p z v=wnS p z (fun a b=>cr1 a b v):=by
 obtain ⟨D,hD,hd⟩:=h.sep_D
 rw [h.wnY_bey hz hD hd nv hoff]
 refine (items_sum p z D (2*hY v) (fun x s=>if 2*D*v.x<x then s else 0) (fun x c s=>by split<;>simp)).trans ?_
 exact wnS_congrZ fun a ha hza k hk=>lvl_cr1 hD (h.pt_near ha (k:=k) (by omega)) (h.pt_near ha hk) nv (h.distinct ha hk).1 (hd a ha k hk) (h.off_ends hoff ha hza (k:=k) (by omega)) (h.off_ends hoff ha hza hk) (hoff a ha hza k hk)
end
end Go.Proofs.YtnhdmghgjngcaaaGreat
namespace Go.Proofs.YtnhdmghgjngcaaaGreat
open Go.RowKit
set_option linter.unusedSectionVars false

def outX (p:Pl):List (List Int):=(cyclesD p).filter (fun X=>decide (0<arX p X))
def resX (p:Pl):List (List Int):=(cyclesD p).filter (fun X=>!decide (0<arX p X))
def homeP (p:Pl) (v:Pt):Option (List Int):=bestC (fun X=>encS p X v) (arX p) (outX p)
theorem mem_outX {p:Pl} {X:List Int}:X∈outX p↔X∈cyclesD p∧0<arX p X:=by unfold outX;rw [List.mem_filter,decide_eq_true_eq]
theorem mem_resX {p:Pl} {X:List Int}:X∈resX p↔X∈cyclesD p∧¬ 0<arX p X:=by unfold resX;rw [List.mem_filter];simp
section
variable {p:Pl} (h:Valid p)
include h
end
def cycPt (p:Pl) (c:List Int):Pt:=(pthD p (c.headD 0)).getD 0 pt0
def innX (p:Pl) (b:Option (List Int)):List (List Int):=(resX p).filter (fun c=>decide (homeP p (cycPt p c)=b))
def aloX (p:Pl) (b:Option (List Int)):List Int:=(p.nodes.filter (fun n=>decide (degS p.arcs n.id=0∧homeP p n.pt=b))).map (·.id)
def faceX (p:Pl) (b:Option (List Int)):Int:=match b with
 | none=>0
 | some X=>sideD p (X.headD 0)
def cysX (p:Pl) (b:Option (List Int)):List (List Int):=b.getD []::innX p b
structure FaceOK (p:Pl):Prop where
 some:∀ X∈outX p,sideD p (X.headD 0)≠0
 differ:((outX p).map (fun X=>sideD p (X.headD 0))).Nodup
 sides:∀ b,(b=none∨∃ X∈outX p,b=Option.some X)→∀ c∈cysX p b,∀ d∈c,sideD p d=faceX p b
 all:(outX p).length=p.faces.length
end Go.Proofs.YtnhdmghgjngcaaaGreat
namespace Go.Proofs.YtnhdmghgjngcaaaGreat
open Go.RowKit

theorem mapsl_ne {w:World} {gm n:Nat} {f:Int→SV} (h:MapSl w gm n f) {g:Nat} {t:TypeId} {cs:Array Value} (hg:Blk w g t cs):g≠gm:=by
 rintro rfl
 obtain ⟨D,h1,-⟩:=h
 obtain ⟨es,clock,h2,-⟩:=h1
 unfold Blk at hg
 rw [hg] at h2
 cases h2
theorem mapsl_own {w:World} {gm n:Nat} {f:Int→SV} (h:MapSl w gm n f) {base:Nat} {e:TypeId} {size:Nat} {α:Type} {fe:α→List Value} {v:Value} {l:List α} (ho:Own w base e size fe v l):v.ownBlock≠some gm:=by
 rcases ho.2 with ⟨rfl,_⟩ | ⟨g,cap,cur,rfl,_,hh,_⟩
 · simp [Value.ownBlock]
 ·
  intro e'
  exact mapsl_ne h (cs:=cur) (g:=g) hh (by simpa [Value.ownBlock] using e')
theorem own_svok {w:World} {base:Nat} {e:TypeId} {size:Nat} {α:Type} {fe:α→List Value} {x:SV} {l:List α} (ho:Own w base e size fe (svV x) l):x.ok:=by
 obtain ⟨a,n,c⟩:=x
 rcases ho.2 with ⟨h,_⟩ | ⟨g,cap,cur,h,_⟩
 · unfold svV at h;injection h with h1;exact .inl h1
 · unfold svV at h;injection h with h1;exact .inr ⟨g,0,h1⟩
structure PathsM (w:World) (b:Nat) (p:Pl) (f:Int→SV):Prop where
 mp:∃ n,MapSl w b n f
 rd:∀ a∈p.arcs,Pts w (svV (f a.id)) (pathS p a)
theorem PathsM.keep {w w':World} {b:Nat} {p:Pl} {f:Int→SV} (h:PathsM w b p f) (hb:Below w.heap.size w w'):PathsM w' b p f:=by
 obtain ⟨⟨n,h1⟩,h2⟩:=h
 exact ⟨⟨n,h1.keep hb⟩,fun a ha=>(h2 a ha).mono hb⟩
def RetPaths (w:World) (p:Pl) (e:Ending) (w':World):Prop:=∃ b f,e=.returned (.map (some b))∧Below w.heap.size w w'∧w.heap.size≤b∧PathsM w' b p f

set_option maxRecDepth 100000 in
set_option maxHeartbeats 8000000 in
theorem PathsOf_spec (v:Value) (p:Pl) (w:World) (h:PlV w v p) (hv:Valid p):Calls Tryz.prog 41 #[v] w (RetPaths w p):=by
 have HPt:=Lib.hid (fun id W (hW:Below w.heap.size w W)=>Path_spec v p id W (h.mono hW) hv.short)
 obtain ⟨_,_,_,al,rfl,hpa,⟨An,cn,rfl,-⟩,⟨⟨Aa,ca,rfl,hm1,hm2,hRa⟩,hVi⟩,⟨Af,cf,rfl,-⟩⟩:=h
 unfold maxLen at hm2
 have HRa:=Lib.hid hRa;have HVi:=Lib.hid hVi
 have hall:al.length≤256:=by
  have hl:=hv.lim
  unfold limS at hl
  simp only [Bool.or_eq_false_iff,decide_eq_false_iff_not] at hl
  have h2:=hl.2
  rw [hpa,List.length_map] at h2
  omega
 have HPa:=Lib.hid (show ∀ k (hk:k<al.length),al[k].1∈p.arcs from fun k hk=>by rw [hpa];exact List.mem_map_of_mem (List.getElem_mem hk))
 have HAl:=Lib.hid (show ∀ a∈p.arcs,∃ k,∃ hk:k<al.length,al[k].1=a from fun a ha=>by
  rw [hpa] at ha
  obtain ⟨x,hx,rfl⟩:=List.mem_map.1 ha
  obtain ⟨k,hk,rfl⟩:=List.mem_iff_getElem.1 hx
  exact ⟨k,hk,rfl⟩)
 have HPo:=Lib.hid (fun k (hk:k<al.length)=>hv.sound.path (HPa.out k hk))
 have HIb:=Lib.hid (fun k (hk:k<al.length)=>hv.id_pos (HPa.out k hk))
 have HNe:=Lib.hid (show ∀ j k (hj:j<al.length) (hk:k<al.length),j<k→al[j].1.id≠al[k].1.id from fun j k hj hk hjk e=>by
  have h1:=hv.sound.arcs
  rw [hpa,List.map_map,List.pairwise_map,List.pairwise_iff_getElem] at h1
  have:=h1 j k hj hk hjk
  simp only [Function.comp] at this
  omega)
 generalize p.nodes.length=nn at *
 generalize p.faces.length=nf at *
 clear hpa hRa hVi hv
 have hmm:=@run_makeMap Tryz.prog
 go_enter Tryz.func41,Tryz.ntmps41
 go_upto_region 2 with fail
 obtain ⟨gm,hgm⟩:∃ gm,gm=w.heap.size+1:=⟨_,rfl⟩
 obtain ⟨W1,hW⟩:∃ W:World,W=(w.alloc (.cells #[.slice An nn cn,.slice Aa al.length ca,.slice Af nf cf] 26)).alloc (.map #[] 0):=⟨_,rfl⟩
 have X1:Blk W1 w.heap.size 26 #[.slice An nn cn,.slice Aa al.length ca,.slice Af nf cf]:=by rw [hW];exact (Blk.made rfl _ _).alloc _
 have HM1:=Lib.hid (show MapSl W1 gm 0 (fun _=>sv0) by
  have:=MapSl.made (w.alloc (.cells #[.slice An nn cn,.slice Aa al.length ca,.slice Af nf cf] 26))
  rw [hW,hgm];simpa using this)
 have HB1:=Lib.hid (show Below w.heap.size w W1 by rw [hW];exact bA (bA (bR w) _) _)
 have hgl:w.heap.size<gm:=by omega
 rw [← hW,← hgm]
 clear hW hgm hmm
 have HX1:=Lib.hid X1
 obtain ⟨X1l,X1a,X1b,X1c,-,-,-⟩:=X1.facts3
 go_upto_block 0 with fail
 clear X1 X1l X1a X1b X1c
 go_wp2_with fail
 go_loopw [12] (fun i wr=>∃ (k:Nat) (f:Int→SV),k≤al.length∧i=.int .i64 k∧MapSl wr gm k f∧(∀ j (hj:j<al.length),j<k→Own wr w.heap.size 36 2 ptC (svV (f al[j].1.id)) (pathS p al[j].1))∧Blk wr w.heap.size 26 #[.slice An nn cn,.slice Aa al.length ca,.slice Af nf cf]∧Below w.heap.size w wr) (fun i _=>al.length-(intOf i).toNat)
 case atStart => exact ⟨0,fun _=>sv0,Nat.zero_le _,rfl,HM1.out,(fun j _ h=>by omega),HX1.out,HB1.out⟩
 case round =>
  obtain ⟨k,f,hk,rfl,mp,own,X1,hb⟩:=hrel
  obtain ⟨wo,rfl⟩:∃ wo:World,wo=wr:=⟨_,rfl⟩
  have HM:=Lib.hid mp;have HO:=Lib.hid own;have HX:=Lib.hid X1;have Hb:=Lib.hid hb
  have hzo:=hb.size
  have hgo:=mp.lt
  clear mp own hb HX1 HM1 HB1
  by_cases hlt:k<al.length
  ·
   obtain ⟨b,o,rfl,hlb,c0,c1,c2,c3,c4,c5⟩:=(HRa.out.mono Hb.out).ar hlt
   obtain ⟨Av,cv,hvv,-⟩:=HVi.out k hlt
   rw [hvv] at c3
   have hpo:=HPo.out k hlt
   have hib:=HIb.out k hlt
   have hne:=fun j hj hjk=>HNe.out j k hj hlt hjk
   have hpt:=HPt.out al[k].1.id
   rw [hpo] at hpt
   have HP:=Lib.hid (show ∀ (f:Int→SV) W,(∀ j (hj:j<al.length),j<k→Own W w.heap.size 36 2 ptC (svV (f al[j].1.id)) (pathS p al[j].1))→Own W w.heap.size 36 2 ptC (svV (f al[k].1.id)) (pathS p al[k].1)→∀ j (hj:j<al.length),j<k+1→Own W w.heap.size 36 2 ptC (svV (f al[j].1.id)) (pathS p al[j].1) from fun f W h1 h2 j hj hjk=>by
    by_cases e:j=k
    · subst e;exact h2
    · exact h1 j hj (by omega))
   have HNk:=Lib.hid hne
   clear hvv hpo hne
   generalize al[k].1=a at *
   generalize pathS p a=P at *
   obtain ⟨aid,afr,adst,avia,aleft,aright⟩:=a
   simp only at c0 c1 c2 c3 c4 c5 hib hpt HP HNk
   generalize avia.length=vn at *
   have HPk:=Lib.hid hpt
   clear hpt
   go_upto_region 5 with fail
   obtain ⟨W5,hW⟩:∃ W:World,W=wo.alloc (.cells #[.int .i64 aid,.int .i64 afr,.int .i64 adst,.slice Av vn cv,.int .i64 aleft,.int .i64 aright] 41):=⟨_,rfl⟩
   have HA:=Lib.hid (show Below wo.heap.size wo W5 by rw [hW];exact bA (bR wo) _)
   have X5:Blk W5 wo.heap.size 41 #[.int .i64 aid,.int .i64 afr,.int .i64 adst,.slice Av vn cv,.int .i64 aleft,.int .i64 aright]:=by rw [hW];exact Blk.made rfl _ _
   rw [← hW]
   clear hW c0 c1 c2 c3 c4 c5 hlb
   replace X1:=HX.out.keep HA.out
   obtain ⟨X5l,X5a,X5b,X5c,X5d,X5e,X5f,-,-,-,-,-,-⟩:=X5.facts6
   try clear X1l
   try clear X1a
   try clear X1b
   try clear X1c
   obtain ⟨X1l,X1a,X1b,X1c,-,-,-⟩:=X1.facts3
   go_wp2_with fail
   refine (HPk.out _ (bT Hb.out HA.out)).mono ?_
   rintro e w6 ⟨A6,c6,rfl,hb6,ho6⟩
   simp only [Option.getD_some,Option.isSome_some,if_true] at ho6 ⊢
   have HB6:=Lib.hid (bT HA.out hb6)
   have HO6:=Lib.hid ho6
   have HX5:=Lib.hid (show Blk W5 wo.heap.size 41 #[.int .i64 aid,.int .i64 afr,.int .i64 adst,.slice Av vn cv,.int .i64 aleft,.int .i64 aright] from X5)
   have X6:=HX5.out.keep hb6
   have HM6:=Lib.hid (HM.out.keep HB6.out)
   have hz5:=HA.out.size
   have hz6:=hb6.size
   clear hb6 ho6 X5 X5l X5a X5b X5c X5d X5e X5f X1 X1l X1a X1b X1c HX5
   obtain ⟨w7,hr7,hm7,hg7⟩:=HM6.out.upd (by omega) aid (wfI_of (by omega) (by omega)) ⟨A6,P.length,c6⟩ (own_svok (x:=⟨A6,P.length,c6⟩) HO6.out)
   have HM7:=Lib.hid hm7
   have nX:=fun (h:gm=w.heap.size)=>(show False by omega)
   have HX7:=Lib.hid (Blk.grow (HX.out.keep HB6.out) hg7 (fun e=>mapsl_ne HM6.out (HX.out.keep HB6.out) (Option.some.inj e)))
   have HO7:=Lib.hid (show Own w7 w.heap.size 36 2 ptC (svV ⟨A6,P.length,c6⟩) P from Own.grown (Own.mono_base HO6.out (by omega)) hg7 (fun g hg e=>mapsl_own HM6.out HO6.out (hg.trans e)))
   have HOo:=Lib.hid (show ∀ j (hj:j<al.length),j<k→Own w7 w.heap.size 36 2 ptC (svV (f al[j].1.id)) (pathS p al[j].1) from fun j hj hjk =>
    Own.grown ((HO.out j hj hjk).keep HB6.out) hg7 (fun g hg e=>mapsl_own HM6.out ((HO.out j hj hjk).keep HB6.out) (hg.trans e)))
   have HB7:=Lib.hid (bG (bT Hb.out HB6.out) hg7 (fun g hg=>by have:=Option.some.inj hg;omega))
   unfold svV at hr7
   clear hm7 hg7 nX
   obtain ⟨X6l,X6a,X6b,X6c,X6d,X6e,X6f,-,-,-,-,-,-⟩:=X6.facts6
   go_wp2_with fail
   go_roundw
   case rel => exact ⟨k+1,fun i=>if i=aid then ⟨A6,P.length,c6⟩ else f i,by omega,by go_num,HM7.out,HP.out (fun i=>if i=aid then ⟨A6,P.length,c6⟩ else f i) w7 (fun j hj hjk=>by
    show Own w7 _ _ _ _ (svV (if _=aid then _ else _)) _
    rw [if_neg (HNk.out j hj hjk)];exact HOo.out j hj hjk) (by
    show Own w7 _ _ _ _ (svV (if aid=aid then _ else _)) _
    rw [if_pos rfl];exact HO7.out),HX7.out,HB7.out⟩
   case measure => simp [intOf];omega
  ·
   obtain rfl:k=al.length:=by omega
   go_wp2_with fail
   go_ret
   exact ⟨gm,f,rfl,Hb.out,by omega,⟨_,HM.out⟩,fun a ha=>by
    obtain ⟨j,hj,rfl⟩:=HAl.out a ha
    exact (HO.out j hj hj).sl⟩
end Go.Proofs.YtnhdmghgjngcaaaGreat
namespace Go.Proofs.YtnhdmghgjngcaaaGreat
open Go.RowKit

def lenV:Value→Nat
 | .slice _ n _=>n
 | _=>0
def seenL (S:Int→Bool) (l:List Int) (x:Int):Bool:=S x || decide (x∈l)
theorem seenL_nil (S:Int→Bool):seenL S []=S:=by
 funext x;simp [seenL]
theorem seenL_snoc (S:Int→Bool) (l:List Int) (y:Int):(fun i=>if i=y then true else seenL S l i)=seenL S (l++[y]):=by
 funext x
 unfold seenL
 by_cases e:x=y
 · subst e;simp
 · simp [e]
theorem orb_new {f:Int→Int} {D:List Int} (hD:∀ x∈D,f x∈D) (hi:∀ x∈D,∀ y∈D,f x=f y→x=y) {x:Int} (hx:x∈D) {j:Nat} (hj:j<orbN f D x):pw f x j∉iter f x j∧pw f x j∈orb f D x:=by
 obtain ⟨-,-,-,-,h5,-⟩:=orb_facts hD hi hx
 constructor
 ·
  intro hm
  obtain ⟨k,hk,e⟩:=mem_iter.1 hm
  unfold orb List.Nodup at h5
  rw [List.pairwise_iff_getElem] at h5
  have:=h5 k j (by rw [iter_len];omega) (by rw [iter_len];omega) hk
  rw [iter_get,iter_get] at this
  exact this e
 · exact mem_iter.2 ⟨j,hj,rfl⟩
theorem orb_end {f:Int→Int} {D:List Int} (hD:∀ x∈D,f x∈D) (hi:∀ x∈D,∀ y∈D,f x=f y→x=y) {x:Int} (hx:x∈D):pw f x (orbN f D x)∈orb f D x:=by
 obtain ⟨h1,-,h3,-,-,-⟩:=orb_facts hD hi hx
 rw [h3]
 exact mem_iter.2 ⟨0,h1,rfl⟩

def RetFol (w:World) (gm n:Nat) (S:Int→Bool) (l:List Int) (e:Ending) (w':World):Prop :=
 ∃ A c,e=.returned (.slice A l.length c)∧Own w' w.heap.size 3 1 inC (.slice A l.length c) l∧MapIB w' gm (n+l.length) (seenL S l)∧w.grownBy w' (some gm)

theorem mapIB_ne {w:World} {gm n:Nat} {f:Int→Bool} (h:MapIB w gm n f) {g:Nat} {t:TypeId} {cs:Array Value} (hg:Blk w g t cs):g≠gm:=by
 rintro rfl
 obtain ⟨D,h1,-⟩:=h
 obtain ⟨es,clock,h2,-⟩:=h1
 unfold Blk at hg
 rw [hg] at h2
 cases h2
theorem mapIB_own {w:World} {gm n:Nat} {f:Int→Bool} (h:MapIB w gm n f) {base:Nat} {e:TypeId} {size:Nat} {α:Type} {fe:α→List Value} {v:Value} {l:List α} (ho:Own w base e size fe v l):v.ownBlock≠some gm:=by
 rcases ho.2 with ⟨rfl,_⟩ | ⟨g,cap,cur,rfl,_,hh,_⟩
 · simp [Value.ownBlock]
 ·
  intro e'
  exact mapIB_ne h (cs:=cur) (g:=g) hh (by simpa [Value.ownBlock] using e')
theorem Own.shape_ {α:Type} {w:World} {base:Nat} {e:TypeId} {size:Nat} {f:α→List Value} {v:Value} {l:List α} (h:Own w base e size f v l):∃ A c,v=.slice A l.length c∧l.length≤c∧c≤maxLen:=by
 obtain ⟨A,c,rfl,h1,h2,-⟩:=Own.sl h
 exact ⟨A,c,rfl,h1,h2⟩

set_option maxRecDepth 100000 in
set_option maxHeartbeats 4000000 in
theorem follow_spec (f:Int→Int) (D:List Int) (hD:∀ x∈D,f x∈D) (hi:∀ x∈D,∀ y∈D,f x=f y→x=y) (F:Int→Int) (hF:∀ x∈D,F x=f x) (hw:∀ x∈D,wfI x) (hl:D.length≤100000) (S:Int→Bool) (d:Int) (hd:d∈D) (hS:∀ x∈orb f D d,S x=false)
  (gs gn gm gk n m:Nat) (w:World) (hn:n≤1000000) (h1:Blk w gs 63 #[.map (some gm)]) (h2:Blk w gn 100 #[.map (some gk)]) (hm:MapIB w gm n S) (hk:MapII w gk m F) (hne:gm≠gk) :
  Calls Tryz.prog 60 #[.int .i64 d,.pointer (some ⟨gs,0,none⟩),.pointer (some ⟨gn,0,none⟩)] w (RetFol w gm n S (orb f D d)):=by
 obtain ⟨o1,o2,o3,-,-,o6⟩:=orb_facts hD hi hd
 obtain ⟨q,hq⟩:∃ q,orb f D d=q:=⟨_,rfl⟩
 have hitN:iter f d (orbN f D d)=q:=hq
 have HNew:=Lib.hid (fun j (hj:j<orbN f D d)=>orb_new hD hi hd hj)
 have HMem:=Lib.hid (fun j=>pw_mem (f:=f) hD hd j)
 have hend:=orb_end hD hi hd
 rw [hq] at o6 hS hend HNew ⊢
 have HF:=Lib.hid hF;have HW:=Lib.hid hw;have HS:=Lib.hid hS;have HEnd:=Lib.hid hend;have HIt:=Lib.hid hitN;have HLq:=Lib.hid o6
 clear hF hw hS hend hitN o6 o3 hD hi hq hd
 generalize orbN f D d=N at *
 have Hm0:=Lib.hid hm;have Hk0:=Lib.hid hk;have H1:=Lib.hid h1;have H2:=Lib.hid h2
 have n1:=mapIB_ne hm h1;have n2:=mapIB_ne hm h2
 have hlt1:=h1.lt;have hlt2:=h2.lt;have hltm:=hm.lt;have hltk:=hk.lt
 clear hm hk h1 h2
 go_enter Tryz.func60,Tryz.ntmps60
 go_wp2_with fail
 go_loopw [0,4] (fun x s wr=>∃ j:Nat,j≤N∧x=.int .i64 (pw f d j)∧(∃ A c,s=.slice A j c)∧Own wr w.heap.size 3 1 inC s (iter f d j)∧MapIB wr gm (n+j) (seenL S (iter f d j))∧w.grownBy wr (some gm)) (fun _ s _=>N-lenV s)
 case atStart => exact ⟨0,Nat.zero_le _,rfl,⟨none,0,rfl⟩,Own.nil _ _ _ _ _,by rw [show iter f d 0=[] from rfl,seenL_nil];exact Hm0.out,gR w _⟩
 case round =>
  obtain ⟨j,hj,rfl,⟨A,c,rfl⟩,own,mp,hg⟩:=hrel
  have HO:=Lib.hid own;have HM:=Lib.hid mp;have HG:=Lib.hid hg
  have X1:=H1.out.grow hg (fun e=>n1 (Option.some.inj e))
  have hszr:w.heap.size≤wr.heap.size:=hg.size
  clear own mp hg
  obtain ⟨y,hy⟩:∃ y,pw f d j=y:=⟨_,rfl⟩
  have hym:=HMem.out j
  have hy2:f y=pw f d (j+1):=by rw [← hy];rfl
  have hFy:F y=pw f d (j+1):=by rw [← hy2];exact HF.out y (hy ▸ hym)
  have hwy:wfI y:=HW.out y (hy ▸ hym)
  have hnewj:=HNew.out j
  have hlk:=HM.out.look y hwy
  rw [hy] at hnewj ⊢
  have HY:=Lib.hid hy;have HFy:=Lib.hid hFy;have HWy:=Lib.hid hwy;have HN:=Lib.hid hnewj;have HYm:=Lib.hid (hy ▸ hym)
  clear hym hy2 hFy hwy hnewj
  by_cases hlt:j<N
  ·
   have hsf:seenL S (iter f d j) y=false:=by
    unfold seenL
    have h:=HN.out hlt
    rw [HS.out y h.2]
    simpa using h.1
   rw [hsf] at hlk
   obtain ⟨w3,hr3,hm3,hg3⟩:=HM.out.upd (by omega) y HWy.out true
   rw [seenL_snoc] at hm3
   have hsn:iter f d j++[y]=iter f d (j+1):=by rw [iter_snoc,HY.out]
   rw [hsn] at hm3
   have HM3:=Lib.hid hm3;have HG3:=Lib.hid (gT HG.out hg3)
   have HO3:=Lib.hid (Own.grown HO.out hg3 (fun g' hg' e=>mapIB_own HM.out HO.out (by rw [hg',e])))
   have hsz3:wr.heap.size≤w3.heap.size:=hg3.size
   have HSn:=Lib.hid hsn
   clear hsf hm3 hg3 hsn hy
   obtain ⟨X1l,X1a,-⟩:=X1.facts1
   go_upto_region 3 with fail
   clear hlk hr3 X1 X1l X1a
   go_upto_region 4 with
    (at_builtin
     refine wpList_appl _ rfl (.tmp 11) (.tmp 13) _ rfl (base:=w.heap.size) elem_in inC_len inC_one rfl (Own.alloc HO3.out _) rfl (l2:=[y]) (Sl.lit (n:=1) (Blk.made rfl _ _) rfl (le_maxLen (by omega))) (by simp only [iter_len,List.length_cons,List.length_nil];omega) (by simp only [iter_len,List.length_cons,List.length_nil];omega) (by simp;omega) ?_
     intro v1 w1 ho1 hg1 hat1
     rw [HSn.out] at ho1
     obtain ⟨A1,c1,hv1,-⟩:=Own.shape_ ho1
     rw [iter_len] at hv1
     subst hv1
     have HO1:=Lib.hid ho1
     have hown:=HO3.out.lt
     have hG1:w.grownBy w1 (some gm):=⟨by rw [hg1.os];exact HG3.out.os,by rw [hg1.tape];exact HG3.out.tape,by rw [hg1.output];exact HG3.out.output,Nat.le_trans HG3.out.size (Nat.le_trans (by simp) hg1.size),fun i hi hne=>by
      rw [hg1.block i (by simp;have:=HG3.out.size;omega) (fun e=>by have:=(hown i e.symm).1;omega),← HG3.out.block i hi hne]
      exact (bA (bR w3) (.cells #[.int .i64 y] 3)).block i (by have:=HG3.out.size;omega)⟩
     have HG1:=Lib.hid hG1
     have HM1:=Lib.hid ((HM3.out.keep (bA (bR w3) (.cells #[.int .i64 y] 3))).kept hg1 (fun e=>mapIB_own HM3.out HO3.out e.symm))
     clear ho1 hg1 hat1 hG1 hown
     )
   have X2:=H2.out.grow HG1.out (fun e=>n2 (Option.some.inj e))
   have hlk2:=(Hk0.out.kept HG1.out (fun e=>hne (Option.some.inj e).symm)).look y HWy.out
   rw [HFy.out] at hlk2
   obtain ⟨X2l,X2a,-⟩:=X2.facts1
   go_wp2_with fail
   go_roundw
   case rel => exact ⟨j+1,by omega,rfl,⟨A1,c1,rfl⟩,HO1.out,HM1.out,HG1.out⟩
   case measure => simp only [lenV];omega
  ·
   have hjN:j=N:=by omega
   subst hjN
   have hst:seenL S (iter f d j) y=true:=by
    unfold seenL
    have h:=HEnd.out
    rw [HY.out,← HIt.out] at h
    simp [h]
   rw [hst] at hlk
   clear hst
   try clear X1l
   try clear X1a
   obtain ⟨X1l,X1a,-⟩:=X1.facts1
   go_wp2_with fail
   go_ret
   rw [HIt.out] at HO HM
   have hL:=HLq.out
   have ho:=HO.out
   have hm:=HM.out
   subst hL
   exact ⟨A,c,rfl,ho,hm,HG.out⟩
end Go.Proofs.YtnhdmghgjngcaaaGreat
namespace Go.Proofs.YtnhdmghgjngcaaaGreat
open Go.RowKit

theorem flat_in (l:List Int) (j:Nat):(l.flatMap inC)[j]? = (l[j]?).map (.int .i64 ·):=by
 induction l generalizing j with
 | nil=>simp
 | cons a l ih =>
  rw [List.flatMap_cons]
  cases j with
  | zero=>rfl
  | succ j =>
   show (.int .i64 a::l.flatMap inC)[j+1]? = _
   rw [List.getElem?_cons_succ,ih,List.getElem?_cons_succ]
theorem flat_in_len (l:List Int):(l.flatMap inC).length=l.length:=by
 have:=flat_length inC 1 inC_len l
 omega
def RetSortIn (w:World) (base:Nat) (v:Value) (sl:List Int) (e:Ending) (w':World):Prop :=
 e=.returned (.tuple #[])∧Own w' base 3 1 inC v sl∧w.grownBy w' v.ownBlock

end Go.Proofs.YtnhdmghgjngcaaaGreat
namespace Go.Proofs.YtnhdmghgjngcaaaGreat
open Go.RowKit Go.Sort

def cmpOf (lt:Int→Int→Bool) (x y:Int):Int:=if lt x y then -1 else if lt y x then 1 else 0
section
variable {α:Type} [Inhabited α] (enc:α→Value) (w:World)
theorem sortW_heap (blk off m:Nat) (dk:Array α) (os:Array Obj):(sortWorld enc w blk off m dk os).heap=w.heap.modify blk (onCells (putCells enc off dk))++os:=rfl
theorem sortW_grown (blk off m:Nat) (dk:Array α) (os:Array Obj):w.grownBy (sortWorld enc w blk off m dk os) (some blk):=by
 refine ⟨rfl,rfl,rfl,?_,fun i hi hne=>?_⟩
 · rw [sortW_heap];simp
 ·
  have hne':blk≠i:=fun e=>hne (by rw [e])
  rw [sortW_heap,Array.getElem?_append_left (by simpa using hi),Array.getElem?_modify,if_neg hne']
end
def ltE (lt:Int→Int→Bool) (D:List Int) (x y:{x:Int // x∈D}):Int:=cmpOf lt x.1 y.1
theorem lt_ltE {lt:Int→Int→Bool} {D:List Int} (x y:{x:Int // x∈D}):ltOf (ltE lt D) x y=lt x.1 y.1:=by
 unfold ltOf ltE cmpOf
 cases h1:lt x.1 y.1
 · cases h2:lt y.1 x.1<;>simp
 · simp
theorem swo_el {lt:Int→Int→Bool} {D:List Int} (ho:OrdOn lt D):SWO (ltOf (ltE lt D)) where
 irrefl x:=by
  rw [lt_ltE]
  cases h:lt x.1 x.1
  · rfl
  · have:=ho.asym _ x.2 _ x.2 h;rw [h] at this;cases this
 trans x y z h1 h2:=by
  rw [lt_ltE] at *
  cases h:lt x.1 z.1
  ·
   have h3:=ho.asym _ y.2 _ z.2 h2
   have:=ho.ntr _ x.2 _ z.2 _ y.2 h h3
   rw [h1] at this;cases this
  · rfl
 ntrans x y z h1 h2:=by
  rw [lt_ltE] at *
  exact ho.ntr _ x.2 _ y.2 _ z.2 h1 h2
set_option maxHeartbeats 1000000 in
theorem Sort_in_spec (base:Nat) (v:Value) (sl:List Int) (lt:Int→Int→Bool) (fn:Nat) (cb:Array Value) (w:World) (hown:Own w base 3 1 inC v sl) (ho:OrdOn lt sl) (hn:sl.length≤4294967296)
  (eg:∀ args w,(callFunc fn args).run Tryz.prog w=.ok (.enter fn args) w)
  (hc:∀ W,w.grownBy W v.ownBlock→∀ x∈sl,∀ y∈sl,Calls Tryz.prog fn (#[.int .i64 x,.int .i64 y]++cb) W fun e w'=>e=.returned (.int .i64 (cmpOf lt x y))∧BelowD W w') :
  Calls Tryz.prog 90 #[v,.func (.func fn) #[] cb] w (RetSortIn w base v (sortB lt sl)):=by
 rcases sl with _ | ⟨s0,rest⟩
 ·
  have hv:∃ p cap,v=.slice p 0 cap:=by
   rcases hown.2 with ⟨h,_⟩ | ⟨g,cap,cur,h,_⟩
   · exact ⟨_,_,h⟩
   · exact ⟨_,_,h⟩
  obtain ⟨p,cap,rfl⟩:=hv
  refine Calls.mono (AnyF.slices_SortFunc_none {Tryz.sortIn with} p cap (.func (.func fn) #[] cb) w) ?_
  rintro e w' ⟨rfl,rfl⟩
  exact ⟨rfl,hown,World.grownBy.refl _ _⟩
 generalize hsl:s0::rest=sl at *
 have hs0:s0∈sl:=by rw [← hsl];simp
 have hpos:0<sl.length:=by rw [← hsl];simp
 obtain ⟨hlen,hown2⟩:=hown
 rcases hown2 with ⟨_,h0⟩ | ⟨g,cap,cur,rfl,hg,hh,hnc,hcm,hcs,hx⟩
 · omega
 haveI hI:Inhabited ({x:Int // x∈sl}):=⟨⟨s0,hs0⟩⟩
 have hdl:∃ dl:List ({x:Int // x∈sl}),dl.map (·.1)=sl:=⟨sl.attachWith (·∈sl) (fun _ h=>h),by simp⟩
 obtain ⟨dl,hdl⟩:=hdl
 have hdn:dl.length=sl.length:=by have:=congrArg List.length hdl;simpa using this
 have hcur:∀ j,j<sl.length→cur[j]? = (sl[j]?).map (.int .i64 ·):=fun j hj=>by
  rw [← flat_in,← hx,List.getElem?_take,if_pos (by omega)];simp
 let enc:{x:Int // x∈sl}→Value:=fun x=>.int .i64 x.1
 have hcmp:CmpLays1 Tryz.prog fn cb enc (ltE lt sl) g 0 dl.toArray.size w:=fun m os dk hdk x y=>by
  have hg':=sortW_grown enc w g 0 m dk os
  exact (hc _ hg' x.1 x.2 y.1 y.2).mono fun e w' h=>⟨h.1,belowD_grow h.2⟩
 have hget:∀ j,j<dl.length→sl[j]? = some (dl.toArray[j]!).1:=fun j hj=>by
  have e1:dl.toArray[j]! = dl[j]:=by rw [getElem!_pos dl.toArray j (by simpa using hj)];simp
  rw [e1]
  have:sl[j]? = (dl.map (·.1))[j]? := by rw [hdl]
  rw [this,List.getElem?_map,List.getElem?_eq_getElem hj];rfl
 have hH:Holds enc w g 0 dl.toArray:=fun j hj=>by
  have hj':j<dl.length:=by simpa using hj
  refine ⟨?_,Blk.frozen (t:=3) (cs:=cur) hh _⟩
  rw [cell_of_row w g _ cur 3 (0,0) hh,Nat.zero_add,hcur j (by omega),hget j hj']
  rfl
 have hcon:=Any.slices_SortFunc Tryz.sortIn enc (fun _=>rfl) (ltE lt sl) (swo_el ho) fn cb g 0 cap dl.toArray w eg hcmp hH (Blk.lt hh) (by simp;omega)
 have hns:dl.toArray.size=sl.length:=by simp [hdn]
 rw [hns] at hcon
 refine Calls.mono hcon ?_
 rintro e w' ⟨rfl,d',n,os,hp,hs,rfl⟩
 obtain ⟨p1,-,p3⟩:=hp
 have hd':d'.size=sl.length:=by rw [p1,hns]
 have hperm:d'.toList.Perm dl:=by
  have e1:d'.extract 0 sl.length=d':=by rw [← hd'];simp
  have e2:dl.toArray.extract 0 sl.length=dl.toArray:=by rw [← hns];simp
  rw [e1,e2] at p3
  simpa using p3
 have hperm2:(d'.toList.map (·.1)).Perm sl:=by
  have h1:(d'.toList.map (·.1)).Perm (dl.map (·.1)):=hperm.map _
  exact h1.trans (List.Perm.of_eq hdl)
 have hsorted:(d'.toList.map (·.1)).Pairwise (fun a b=>lt b a=false):=by
  rw [List.pairwise_map,List.pairwise_iff_getElem]
  intro i j hi hj hij
  have hj':j<d'.size:=by simpa using hj
  have:=hs i j (Nat.zero_le _) hij (by rw [← hd'];exact hj')
  rw [lt_ltE,getElem!_pos d' j hj',getElem!_pos d' i (by omega)] at this
  simpa using this
 have hd2:d'.toList.map (·.1)=sortB lt sl:=sortB_of ho hperm2 hsorted
 refine ⟨rfl,?_,sortW_grown enc w g 0 n d' os⟩
 rw [← hd2]
 have hl':(d'.toList.map (·.1)).length=sl.length:=by simp [hd']
 unfold Own
 rw [hl']
 refine ⟨by rw [flat_in_len,hl'];omega,.inr ⟨g,cap,putCells enc 0 d' cur,rfl,hg,?_,hnc,hcm,by simp [putCells,hcs],?_⟩⟩
 ·
  have hgl:g<w.heap.size:=Blk.lt hh
  rw [sortW_heap,Array.getElem?_append_left (by simpa using hgl),Array.getElem?_modify,if_pos rfl,hh]
  rfl
 ·
  apply List.ext_getElem?
  intro j
  rw [List.getElem?_take]
  by_cases hj:j<sl.length*1
  ·
   rw [if_pos hj]
   have hjc:j<cur.size:=by rw [hcs];omega
   have hjd:j<d'.size:=by rw [hd'];omega
   rw [flat_in,List.getElem?_map]
   have e1:(putCells enc 0 d' cur).toList[j]? = some (enc d'[j]!):=by
    simp [putCells,hjc,hjd]
   rw [e1,getElem!_pos d' j hjd,Array.getElem?_toList,Array.getElem?_eq_getElem hjd]
   rfl
  · rw [if_neg hj,List.getElem?_eq_none (by rw [flat_in_len,hl'];omega)]
end Go.Proofs.YtnhdmghgjngcaaaGreat
namespace Go.Proofs.YtnhdmghgjngcaaaGreat
open Go.RowKit

set_option maxHeartbeats 400000 in
theorem near_specD (v:Value) (l:List Pt) (w:World) (h:Pts w v l) :
  Calls Tryz.prog 46 #[v] w fun e w'=>e=.returned (.bool (nears l))∧BelowD w w':=by
 obtain ⟨A,c,rfl,hn,hc,hR⟩:=h
 unfold maxLen at hc
 go_enter Tryz.func46,Tryz.ntmps46
 go_wp2_with fail
 go_loopw [7] (fun i wr=>∃ k:Nat,k≤l.length∧i=.int .i64 k∧BelowD w wr∧∀ j (hj:j<l.length),j<k→near1 l[j]=true) (fun i _=>l.length-(intOf i).toNat)
 case atStart => exact ⟨0,Nat.zero_le _,rfl,⟨Below.refl _ _,dR w⟩,fun j _ h=>by omega⟩
 case round =>
  obtain ⟨k,hk,rfl,hb,hno⟩:=hrel
  have Hb:=Lib.hid hb.1
  have Hd:=Lib.hid hb.2
  have Hno:=Lib.hid hno
  have hs:=hb.1.size
  clear hb hno
  by_cases hlt:k<l.length
  ·
   obtain ⟨b,o,rfl,hlb,c0,c1⟩:=(hR.mono Hb.out).pt hlt
   have HR:=Lib.hid hR;clear hR
   by_cases hnr:near1 l[k]=true
   ·
    have Hn:=Lib.hid hnr
    obtain ⟨n1,n2,n3,n4⟩:=(near1_iff _).1 hnr
    clear hnr
    go_wp2
    go_roundw
    case rel => exact ⟨k+1,by omega,by go_num,⟨Hb.out.alloc hs _,dA Hd.out _⟩,all_succ (p:=fun x=>near1 x=true) Hno.out hlt Hn.out⟩
    case measure => simp [intOf];omega
   ·
    have hn':near1 l[k]=false:=by simpa using hnr
    have Hf:=Lib.hid (nears_hit l k hlt hn')
    clear hn'
    have Hnr:=Lib.hid hnr;clear hnr
    go_wp2
    all_goals first
     | (go_ret;exact ⟨ret_bool Hf.out.symm,Hb.out.alloc hs _,dA Hd.out _⟩)
     | (exfalso;exact Hnr.out ((near1_iff _).2 ⟨by omega,by omega,by omega,by omega⟩))
  ·
   go_wp2
   go_ret
   exact ⟨ret_bool (nears_all l fun j hj=>Hno.out j hj (by omega)).symm,Hb.out,Hd.out⟩
set_option maxHeartbeats 400000 in
theorem twice_specD (a b c:Pt) (w:World) (ha:lim a) (hb:lim b) (hc:lim c) :
  Calls Tryz.prog 47 #[ptV a,ptV b,ptV c] w fun e w'=>e=.returned (.int .i64 (tw a b c))∧BelowD w w':=by
 obtain ⟨a1,a2,a3,a4⟩:=ha
 obtain ⟨b1,b2,b3,b4⟩:=hb
 obtain ⟨c1,c2,c3,c4⟩:=hc
 obtain ⟨m1,m2⟩:=mul_bd (b.x-a.x) (c.y-a.y) 4194304 (by omega) (by omega) (by omega) (by omega)
 obtain ⟨m3,m4⟩:=mul_bd (b.y-a.y) (c.x-a.x) 4194304 (by omega) (by omega) (by omega) (by omega)
 simp only [Int.reduceMul,Int.reduceNeg] at m1 m2 m3 m4
 unfold ptV
 go_enter Tryz.func47,Tryz.ntmps47
 go_wp2
 go_ret
 exact ⟨ret_int rfl,(((Below.refl _ _).alloc (Nat.le_refl _) _).alloc (by simp) _).alloc (by simp;omega) _,dA (dA (dA (dR w) _) _) _⟩
set_option maxHeartbeats 1000000 in
theorem lower_spec (o p:Pt) (w:World):Calls Tryz.prog 117 #[ptV o,ptV p] w fun e w'=>e=.returned (.bool (lowS o p))∧BelowD w w':=by
 unfold ptV lowS
 by_cases h1:p.y<o.y
 ·
  go_enter Tryz.func117,Tryz.ntmps117
  go_wp2_with fail
  go_ret
  exact ⟨ret_bool (by simp [h1]),bA (bA (bR w) _) _,dA (dA (dR w) _) _⟩
 ·
  by_cases h2:p.y=o.y
  ·
   have h2':(p.y == o.y)=true:=by simpa using h2
   have H2:=Lib.hid h2
   clear h2
   by_cases h3:p.x<o.x
   ·
    go_enter Tryz.func117,Tryz.ntmps117
    go_wp2_with fail
    go_ret
    exact ⟨ret_bool (by simp [h1,H2.out,h3]),bA (bA (bR w) _) _,dA (dA (dR w) _) _⟩
   ·
    go_enter Tryz.func117,Tryz.ntmps117
    go_wp2_with fail
    go_ret
    exact ⟨ret_bool (by simp [h1,H2.out,h3]),bA (bA (bR w) _) _,dA (dA (dR w) _) _⟩
  ·
   have h2':(p.y == o.y)=false:=by simpa using h2
   have H2:=Lib.hid h2
   clear h2
   go_enter Tryz.func117,Tryz.ntmps117
   go_wp2_with fail
   go_ret
   exact ⟨ret_bool (by simp [h1,H2.out]),bA (bA (bR w) _) _,dA (dA (dR w) _) _⟩
theorem lim_near {p:Pt} (h:near1 p=true):lim p:=(near1_iff p).1 h
theorem nears_lim {a b c:Pt} (h:nears [a,b,c]=true):lim a∧lim b∧lim c:=by
 simp only [nears,List.all_cons,List.all_nil,Bool.and_true,Bool.and_eq_true] at h
 exact ⟨lim_near h.1,lim_near h.2.1,lim_near h.2.2⟩

set_option maxRecDepth 100000 in
set_option maxHeartbeats 4000000 in
theorem Less_spec (o a b:Pt) (w:World):Calls Tryz.prog 92 #[ptV o,ptV a,ptV b] w fun e w'=>e=.returned (.bool (lessS o a b))∧BelowD w w':=by
 have TN:=fun (v:Value) W=>near_specD v [o,a,b] W
 have TL1:=fun W=>lower_spec o a W
 have TL2:=fun W=>lower_spec o b W
 have TT:=fun (h:nears [o,a,b]=true) W=>twice_specD o a b W (nears_lim h).1 (nears_lim h).2.1 (nears_lim h).2.2
 have E1:=run_eql_pt a o
 have E2:=run_eql_pt b o
 obtain ⟨r,hr⟩:∃ r,lessS o a b=r:=⟨_,rfl⟩
 rw [hr]
 unfold lessS at hr
 unfold ptV at TL1 TL2 TT ⊢
 have HN:=Lib.hid TN;have H1:=Lib.hid TL1;have H2:=Lib.hid TL2;have HT:=Lib.hid TT
 clear TN TL1 TL2 TT
 generalize hz:nears [o,a,b]=z at *
 generalize decide (a=o)=z1 at *
 generalize decide (b=o)=z2 at *
 generalize hl1:lowS o a=l1 at *
 generalize hl2:lowS o b=l2 at *
 generalize hq:decide (0<tw o a b)=q at *
 have Hr:=Lib.hid hr;have Hq:=Lib.hid hq;have Hz:=Lib.hid hz
 clear hr hq hz hl1 hl2
 go_enter Tryz.func92,Tryz.ntmps92
 go_wp2_with fail
 have HPts:Hid (Pts ((((w.alloc (.cells #[.int .i64 o.x,.int .i64 o.y] 36)).alloc (.cells #[.int .i64 a.x,.int .i64 a.y] 36)).alloc (.cells #[.int .i64 b.x,.int .i64 b.y] 36)).alloc (.cells #[.int .i64 o.x,.int .i64 o.y,.int .i64 a.x,.int .i64 a.y,.int .i64 b.x,.int .i64 b.y] 36)) (.slice (some ⟨w.heap.size+1+1+1,0,none⟩) 3 3) [o,a,b]):=Lib.hid (Pts.lit3 (Blk.made (by simp) _ _))
 refine (HN.out _ _ HPts.out).mono ?_
 rintro e w1 ⟨rfl,hb1,hd1⟩
 have B1:=Lib.hid (bT (bA (bA (bA (bA (bR w) _) _) _) _) hb1)
 have D1:=Lib.hid (dT (dA (dA (dA (dA (dR w) _) _) _) _) hd1)
 have HX3:=Lib.hid (show Blk w1 w.heap.size 36 #[.int .i64 o.x,.int .i64 o.y] from ((((Blk.made rfl _ _).alloc _).alloc _).alloc _).keep hb1)
 have HX4:=Lib.hid (show Blk w1 (w.heap.size+1) 36 #[.int .i64 a.x,.int .i64 a.y] from (((Blk.made (by simp) _ _).alloc _).alloc _).keep hb1)
 have HX5:=Lib.hid (show Blk w1 (w.heap.size+1+1) 36 #[.int .i64 b.x,.int .i64 b.y] from ((Blk.made (by simp) _ _).alloc _).keep hb1)
 clear hb1 hd1 HPts HN
 have X3:=HX3.out;have X4:=HX4.out;have X5:=HX5.out
 obtain ⟨X3l,X3a,X3b,-,-⟩:=X3.facts2
 obtain ⟨X4l,X4a,X4b,-,-⟩:=X4.facts2
 obtain ⟨X5l,X5a,X5b,-,-⟩:=X5.facts2
 cases z
 case false =>
  go_wp2_with fail
  go_ret
  exact ⟨ret_bool (by rw [← Hr.out];rfl),B1.out,D1.out⟩
 cases z1
 case true =>
  go_wp2_with fail
  go_ret
  exact ⟨ret_bool (by rw [← Hr.out];rfl),B1.out,D1.out⟩
 cases z2
 case true =>
  go_wp2_with fail
  go_ret
  exact ⟨ret_bool (by rw [← Hr.out];rfl),B1.out,D1.out⟩
 have hr:=Hr.out
 simp only [Bool.true_and,Bool.not_false] at hr
 have HT2:=Lib.hid (HT.out rfl)
 clear HT Hr Hz
 go_upto_region 3 with fail
 refine rg_start (Since w1) (.take 0 1 (.take 1 3 (.take 3 11 (.take 4 27 (.call 2 31 (.call 5 63 (.take 6 127 (.done)))))))) (by kernel_rfl) (bD (bR _)) (by kernel_rfl) (by kernel_rfl) (Nat.le_of_ble_eq_true (by kernel_rfl)) ?_
 intro opsR QR Hops HQrg hS
 iterate 4
  apply rg_p;exact Hops;exact rfl;exact hS;exact rfl
  · intro _ hqc;go_simp;try rfl
  try simp only [pu]
 refine rg_call (i:=2) (get_of Hops rfl) (fun K hK=>?_)
 have HSrg:=Lib.hid hS;clear hS
 refine rg_run (wanted_plain rfl) ?_
 go_simp
 refine (H1.out _).mono ?_
 rintro e wr1 ⟨rfl,hbr1,hdr1⟩
 have hS:Since w1 wr1:=bT (w:=w1) HSrg.out hbr1
 clear HSrg
 refine hK.out _ _ hS (fun _=>?_)
 clear hK K
 try simp only [pu]
 refine rg_call (i:=5) (get_of Hops rfl) (fun K hK=>?_)
 have HSrg:=Lib.hid hS;clear hS
 refine rg_run (wanted_plain rfl) ?_
 go_simp
 refine (H2.out _).mono ?_
 rintro e wr2 ⟨rfl,hbr2,hdr2⟩
 have hS:Since w1 wr2:=bT (w:=w1) HSrg.out hbr2
 clear HSrg
 refine hK.out _ _ hS (fun _=>?_)
 clear hK K
 try simp only [pu]
 apply rg_p;exact Hops;exact rfl;exact hS;exact rfl
 · intro _ hqc;go_simp;try rfl
 try simp only [pu]
 refine rg_done ?_
 refine HQrg.down _ _ ?_
 have hB:Below w1.heap.size w1 wr2:=hS
 clear hS HQrg Hops
 have B2:=Lib.hid (bT B1.out hB)
 have D2:=Lib.hid (dT (dT (dD D1.out) hdr1) hdr2)
 replace HX3:=Lib.hid (HX3.out.keep hB)
 replace HX4:=Lib.hid (HX4.out.keep hB)
 replace HX5:=Lib.hid (HX5.out.keep hB)
 clear hB hdr1 hdr2 X3 X4 X5 X3l X3a X3b X4l X4a X4b X5l X5a X5b
 have X3:=HX3.out;have X4:=HX4.out;have X5:=HX5.out
 try clear X3l
 try clear X3a
 try clear X3b
 obtain ⟨X3l,X3a,X3b,-,-⟩:=X3.facts2
 try clear X4l
 try clear X4a
 try clear X4b
 obtain ⟨X4l,X4a,X4b,-,-⟩:=X4.facts2
 try clear X5l
 try clear X5a
 try clear X5b
 obtain ⟨X5l,X5a,X5b,-,-⟩:=X5.facts2
 by_cases hl:l1=l2
 ·
  subst hl
  rw [if_pos rfl] at hr
  have Hr:=Lib.hid hr
  clear hr
  cases l1
  all_goals
   go_wp2_with fail
   refine (HT2.out _).mono ?_
   rintro e w3 ⟨rfl,hb3,hd3⟩
   have B3:=Lib.hid (bT B2.out hb3)
   have D3:=Lib.hid (dT D2.out hd3)
   clear hb3 hd3
   go_wp2_with fail
   go_ret
   exact ⟨ret_bool (by rw [← Hr.out,← Hq.out]),B3.out,D3.out⟩
 ·
  rw [if_neg hl] at hr
  have Hr:=Lib.hid hr
  have hl2:l2 = !l1:=by cases l1<;>cases l2<;>simp_all
  clear hl hr
  subst hl2
  cases l1
  all_goals
   go_wp2_with fail
   refine (H2.out _).mono ?_
   rintro e w3 ⟨rfl,hb3,hd3⟩
   have B3:=Lib.hid (bT B2.out hb3)
   have D3:=Lib.hid (dT D2.out hd3)
   clear hb3 hd3
   go_wp2_with fail
   go_ret
   exact ⟨ret_bool Hr.out,B3.out,D3.out⟩

end Go.Proofs.YtnhdmghgjngcaaaGreat
namespace Go.Proofs.YtnhdmghgjngcaaaGreat
open Go.RowKit Go.Sort

theorem Own.shape {α:Type} {w:World} {base:Nat} {e:TypeId} {size:Nat} {f:α→List Value} {v:Value} {l:List α} (h:Own w base e size f v l):∃ A c,v=.slice A l.length c∧l.length≤c∧c≤maxLen:=by
 obtain ⟨A,c,rfl,h1,h2,-⟩:=Own.sl h
 exact ⟨A,c,rfl,h1,h2⟩
structure Arnd (w:World) (B g4 g7 gm n:Nat) (dl:List Int) (f:Int→Pt) (v:Value):Prop where
 x4:Blk w g4 24 #[v]
 own:Own w B 3 1 inC v dl
 x7:Blk w g7 133 #[.map (some gm)]
 mp:MapPts w gm n f
 b4:B≤g4
 bm:B≤gm
theorem map_ne {w:World} {gm n:Nat} {f:Int→Pt} (h:MapPts w gm n f) {g:Nat} {t:TypeId} {cs:Array Value} (hg:Blk w g t cs):g≠gm:=by
 rintro rfl
 obtain ⟨D,h1,-⟩:=h
 obtain ⟨es,clock,h2,-⟩:=h1
 unfold Blk at hg
 rw [hg] at h2
 cases h2
theorem map_own {w:World} {gm n:Nat} {f:Int→Pt} (h:MapPts w gm n f) {base:Nat} {e:TypeId} {size:Nat} {α:Type} {fe:α→List Value} {v:Value} {l:List α} (ho:Own w base e size fe v l):v.ownBlock≠some gm:=by
 rcases ho.2 with ⟨rfl,_⟩ | ⟨g,cap,cur,rfl,_,hh,_⟩
 · simp [Value.ownBlock]
 ·
  intro e'
  exact map_ne h (cs:=cur) (g:=g) hh (by simpa [Value.ownBlock] using e')

set_option maxRecDepth 100000 in
set_option maxHeartbeats 4000000 in
theorem addD_spec (d:Int) (q:Pt) (B g4 g7 gm n:Nat) (dl:List Int) (f:Int→Pt) (v:Value) (w:World) (h:Arnd w B g4 g7 gm n dl f v) (hB:B≤w.heap.size) (hn:n<4294967296) (hl:dl.length≤1000000) (hd:wfI d) :
  Calls Tryz.prog 89 #[.int .i64 d,.agg #[.int .i64 q.x,.int .i64 q.y],.pointer (some ⟨g4,0,none⟩),.pointer (some ⟨g7,0,none⟩)] w fun e w'=>e=.returned (.tuple #[])∧(∃ v',Arnd w' B g4 g7 gm (n+1) (dl++[d]) (fun i=>if i=d then q else f i) v')∧Below B w w'∧∀ g t cs,Blk w g t cs→g≠g4→g≠gm→v.ownBlock≠some g→Blk w' g t cs:=by
 obtain ⟨x4,own,x7,mp,b4,bm⟩:=h
 obtain ⟨A,c,rfl,-⟩:=Own.shape own
 have HX4:=Lib.hid x4;have HO:=Lib.hid own;have HX7:=Lib.hid x7;have HM:=Lib.hid mp
 have n47:g4≠g7:=Blk.ne_ x4 x7 (by decide)
 have n4m:=map_ne mp x4
 have n7m:=map_ne mp x7
 have no4:=Own.ne_blk own x4 (by decide)
 have no7:=Own.ne_blk own x7 (by decide)
 have nom:=map_own mp own
 clear own mp
 have HWf:=Lib.hid hd
 clear hd
 have X4:=x4;have X7:=x7
 clear x4 x7
 obtain ⟨X4l,X4a,X4fa⟩:=X4.facts1
 obtain ⟨X7l,X7a,-⟩:=X7.facts1
 go_enter Tryz.func89,Tryz.ntmps89
 go_upto_region 1 with fail
 obtain ⟨W0,hW⟩:∃ W:World,W=w.alloc (.cells #[.int .i64 q.x,.int .i64 q.y] 36):=⟨_,rfl⟩
 have hA0:Below w.heap.size w W0:=by rw [hW];exact bA (bR w) _
 have X5:Blk W0 w.heap.size 36 #[.int .i64 q.x,.int .i64 q.y]:=by rw [hW];exact Blk.made rfl _ _
 rw [← hW]
 clear hW
 replace X4:=X4.keep hA0
 replace X7:=X7.keep hA0
 have HO0:=Lib.hid (HO.out.keep hA0)
 have HM0:=Lib.hid (HM.out.keep hA0)
 have HA0:=Lib.hid hA0
 have hlt4:g4<w.heap.size:=HX4.out.lt
 have hz0:=hA0.size
 clear hA0 X4l X4a X4fa X7l X7a
 try clear X4l
 try clear X4a
 try clear X4fa
 obtain ⟨X4l,X4a,X4fa⟩:=X4.facts1
 obtain ⟨X5l,X5a,X5b,-,-⟩:=X5.facts2
 try clear X7l
 try clear X7a
 obtain ⟨X7l,X7a,-⟩:=X7.facts1
 have n54:w.heap.size≠g4:=by omega
 have n57:w.heap.size≠g7:=by have:=HX7.out.lt;omega
 have hmlt:=HM.out.lt
 go_upto_region 2 with
  (at_builtin
   refine wpList_appl _ rfl (.tmp 6) (.tmp 8) _ rfl (base:=B) elem_in inC_len inC_one rfl (Own.alloc HO0.out _) rfl (l2:=[d]) (Sl.lit (n:=1) (Blk.made rfl _ _) rfl (le_maxLen (by omega))) (by simp only [List.length_cons,List.length_nil];omega) (by simp only [List.length_cons,List.length_nil];omega) (by simp;omega) ?_
   intro v1 w1 ho1 hg1 hat1
   obtain ⟨A1,c1,hv1,-⟩:=Own.shape ho1
   rw [show (dl++[d]).length=dl.length+1 by simp] at hv1
   subst hv1
   have HO1:=Lib.hid ho1
   have hB1:Below B W0 w1:=Below.grown (Below.alloc (Below.refl _ _) (by omega) _) hg1 (by simp;omega) (fun g hg=>(HO0.out.lt g hg).1)
   have HB1:=Lib.hid hB1
   have no5:some w.heap.size≠(Value.slice A dl.length c).ownBlock:=fun e=>by have:=(HO.out.lt _ e.symm).2;omega
   replace X4:=Blk.grown (X4.alloc _) hg1 (fun e=>no4 e.symm)
   replace X5:=Blk.grown (X5.alloc _) hg1 no5
   replace X7:=Blk.grown (X7.alloc _) hg1 (fun e=>no7 e.symm)
   have HM1:=Lib.hid ((HM0.out.keep (bA (bR W0) _)).kept hg1 (fun e=>nom e.symm))
   have HK1:=Lib.hid (fun g t cs (h:Blk w g t cs) (hne:(Value.slice A dl.length c).ownBlock≠some g)=>Blk.grown ((h.keep HA0.out).alloc (.cells #[.int .i64 d] 3)) hg1 (fun e=>hne e.symm))
   clear ho1 hg1 hat1 hB1 X4l X4a X4fa X5l X5a X5b X7l X7a
   try clear X4l
   try clear X4a
   try clear X4fa
   obtain ⟨X4l,X4a,X4fa⟩:=X4.facts1
   try clear X5l
   try clear X5a
   try clear X5b
   obtain ⟨X5l,X5a,X5b,-,-⟩:=X5.facts2
   try clear X7l
   try clear X7a
   obtain ⟨X7l,X7a,-⟩:=X7.facts1
   )
 obtain ⟨W2,hW2⟩:∃ W:World,W=w1.setCell ⟨g4,0,none⟩ (.slice A1 (dl.length+1) c1):=⟨_,rfl⟩
 have no14:=Own.ne_blk HO1.out X4 (by decide)
 have Y4:Blk W2 g4 24 #[.slice A1 (dl.length+1) c1]:=by rw [hW2];exact Blk.put1 X4
 have Y7:Blk W2 g7 133 #[.map (some gm)]:=by rw [hW2];exact X7.far (fun e=>n47 e.symm) _
 have Y5:Blk W2 w.heap.size 36 #[.int .i64 q.x,.int .i64 q.y]:=by rw [hW2];exact X5.far n54 _
 have YO:Own W2 B 3 1 inC (.slice A1 (dl.length+1) c1) (dl++[d]):=by rw [hW2];exact HO1.out.far no14 _
 have YM:MapPts W2 gm n f:=by
  rw [hW2]
  exact HM1.out.kept (row:=some g4) ⟨rfl,rfl,rfl,by simp,fun i _ hne=>Below.heap_setCell w1 ⟨g4,0,none⟩ _ i (fun e=>hne (by rw [e]))⟩ (fun e=>n4m (Option.some.inj e).symm)
 have YB:Below B w W2:=by rw [hW2];exact (Below.trans (HA0.out.mono hB) HB1.out).setCell b4 _
 rw [← hW2]
 clear X4 X5 X7 X4l X4a X4fa X5l X5a X5b X7l X7a
 obtain ⟨w3,hr3,hm3,hg3⟩:=YM.upd hn d HWf.out q
 have Z4:=Lib.hid (Blk.grown Y4 hg3 (fun e=>n4m (Option.some.inj e)))
 have Z7:=Lib.hid (Blk.grown Y7 hg3 (fun e=>n7m (Option.some.inj e)))
 have ZO:=Lib.hid (Own.grown YO hg3 (fun g' hg' e=>map_own YM YO (by rw [hg',e])))
 have ZM:=Lib.hid hm3
 have ZB:=Lib.hid (YB.grown hg3 (by have:=YB.size;omega) (fun g hg=>by have:=Option.some.inj hg;omega))
 have HK:=Lib.hid (show ∀ g t cs,Blk w g t cs→g≠g4→g≠gm→(Value.slice A dl.length c).ownBlock≠some g→Blk w3 g t cs from fun g t cs h h4 hm' ho=>by
  refine Blk.grown ?_ hg3 (fun e=>hm' (Option.some.inj e))
  rw [hW2]
  exact (HK1.out g t cs h ho).far h4 _)
 unfold ptV at hr3
 clear hm3 hg3 YO YM YB Y4 hW2
 obtain ⟨Y5l,Y5a,Y5b,-,-⟩:=Y5.facts2
 obtain ⟨Y7l,Y7a,-⟩:=Y7.facts1
 go_wp2_with fail
 exact bodyPost_end (v:=.tuple #[]) (results_none rfl _ _ _) rfl ⟨rfl,⟨_,Z4.out,ZO.out,Z7.out,ZM.out,b4,bm⟩,ZB.out,HK.out⟩

def cmpZ (z1 z2:Bool):Int:=if z1 then -1 else if z2 then 1 else 0
set_option maxRecDepth 100000 in
set_option maxHeartbeats 4000000 in
theorem cmpD_spec (nd:Nd) (x y:Int) (g5 g7 gm n:Nat) (f:Int→Pt) (w:World) (h5:Blk w g5 38 #[.int .i64 nd.id,.int .i64 nd.pt.x,.int .i64 nd.pt.y]) (h7:Blk w g7 133 #[.map (some gm)]) (hm:MapPts w gm n f) (hx:wfI x) (hy:wfI y) :
  Calls Tryz.prog 91 #[.int .i64 x,.int .i64 y,.pointer (some ⟨g5,0,none⟩),.pointer (some ⟨g7,0,none⟩)] w fun e w'=>e=.returned (.int .i64 (cmpOf (fun a b=>lessS nd.pt (f a) (f b)) x y))∧BelowD w w':=by
 have T1:=fun W=>Less_spec nd.pt (f x) (f y) W
 have T2:=fun W=>Less_spec nd.pt (f y) (f x) W
 have L1:=hm.look x hx
 have L2:=hm.look y hy
 have HM:=Lib.hid hm
 have H5:=Lib.hid h5;have H7:=Lib.hid h7
 unfold ptV at T1 T2 L1 L2
 have HX:=Lib.hid hx;have HY:=Lib.hid hy
 obtain ⟨r,hr⟩:∃ r,cmpOf (fun a b=>lessS nd.pt (f a) (f b)) x y=r:=⟨_,rfl⟩
 rw [hr]
 replace hr:cmpZ (lessS nd.pt (f x) (f y)) (lessS nd.pt (f y) (f x))=r:=hr
 obtain ⟨z1,hz1⟩:∃ z1,lessS nd.pt (f x) (f y)=z1:=⟨_,rfl⟩
 obtain ⟨z2,hz2⟩:∃ z2,lessS nd.pt (f y) (f x)=z2:=⟨_,rfl⟩
 rw [hz1] at T1 hr
 rw [hz2] at T2 hr
 have Hr:=Lib.hid hr
 have H1:=Lib.hid T1;have H2:=Lib.hid T2
 clear T1 T2 hm hx hy hz1 hz2 hr
 have X5:=h5;have X7:=h7
 clear h5 h7
 obtain ⟨X5l,X5a,X5b,X5c,-,-,-⟩:=X5.facts3
 obtain ⟨X7l,X7a,-⟩:=X7.facts1
 go_enter Tryz.func91,Tryz.ntmps91
 go_wp2_with fail
 refine (H1.out _).mono ?_
 rintro e w1 ⟨rfl,hb1,hd1⟩
 have B1:=Lib.hid hb1;have D1:=Lib.hid hd1
 clear hb1 hd1 X5 X7 X5l X5a X5b X5c X7l X7a L1 L2
 cases z1
 case true =>
  go_wp2_with fail
  go_ret
  exact ⟨ret_int (by rw [← Hr.out];rfl),B1.out,D1.out⟩
 have X5:=H5.out.keep B1.out
 have X7:=H7.out.keep B1.out
 have HM1:=HM.out.keep B1.out
 have L1:=HM1.look x HX.out
 have L2:=HM1.look y HY.out
 unfold ptV at L1 L2
 clear HM1
 try clear X5l
 try clear X5a
 try clear X5b
 try clear X5c
 obtain ⟨X5l,X5a,X5b,X5c,-,-,-⟩:=X5.facts3
 try clear X7l
 try clear X7a
 obtain ⟨X7l,X7a,-⟩:=X7.facts1
 go_wp2_with fail
 refine (H2.out _).mono ?_
 rintro e w2 ⟨rfl,hb2,hd2⟩
 have B2:=Lib.hid (bT B1.out hb2);have D2:=Lib.hid (dT D1.out hd2)
 clear hb2 hd2 X5 X7 X5l X5a X5b X5c X7l X7a L1 L2
 cases z2
 ·
  go_wp2_with fail
  go_ret
  exact ⟨ret_int (by rw [← Hr.out];rfl),B2.out,D2.out⟩
 ·
  go_wp2_with fail
  go_ret
  exact ⟨ret_int (by rw [← Hr.out];rfl),B2.out,D2.out⟩
end Go.Proofs.YtnhdmghgjngcaaaGreat
