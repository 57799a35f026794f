import Derived.Test.YtnhdmghgjngcaaaGreatJ07
import Derived.Test.YtnhdmghgjngcaaaGreatGB
import Derived.Test.YtnhdmghgjngcaaaGreatJ03
import Derived.Test.YtnhdmghgjngcaaaGreatJ01
set_option linter.unusedSimpArgs false
set_option linter.unusedVariables false
namespace Go.Proofs.YtnhdmghgjngcaaaGreat
open Go.RowKit

def absI (d:Int):Int:=if d<0 then -d else d
def minI:Int:=-9223372036854775808
def arcD (p:Pl) (d:Int):Option Ar:=if d=0∨d=minI then none else findAr p.arcs (absI d)
def startD (p:Pl) (d:Int):Int:=match arcD p d with
 | none=>0
 | some a=>if 0<d then a.fr else a.dst
def sideD (p:Pl) (d:Int):Int:=match arcD p d with
 | none=>0
 | some a=>if 0<d then a.left else a.right
def dartL (l:List Ar) (n:Int):List Int:=l.flatMap fun a=>(if a.fr=n then [a.id] else [])++(if a.dst=n then [-a.id] else [])
def toD (p:Pl) (d:Int):Pt:=match findAr p.arcs (absI d) with
 | none=>pt0
 | some a=>if 0<d then (pathS p a).getD 1 pt0 else (pathS p a).getD a.via.length pt0
def dartsD (p:Pl):List Int:=(p.arcs.map (fun a=>-a.id)).reverse++p.arcs.map (·.id)

section
variable {p:Pl} (h:Valid p)
include h
theorem Valid.id_pos {a:Ar} (ha:a∈p.arcs):1≤a.id∧a.id≤1073741824:=by
 have hr:=h.rng
 unfold rangesS at hr
 rw [Bool.and_eq_true] at hr
 have h1:=hr.1
 rw [Bool.not_eq_true',List.any_eq_false] at h1
 have:=h1 a.id (List.mem_append_left _ (List.mem_append_right _ (List.mem_map_of_mem ha)))
 unfold idBad at this
 simp only [Bool.or_eq_true,decide_eq_true_eq,not_or] at this
 omega
theorem Valid.nid_pos {n:Nd} (hn:n∈p.nodes):1≤n.id∧n.id≤1073741824:=by
 have hr:=h.rng
 unfold rangesS at hr
 rw [Bool.and_eq_true] at hr
 have h1:=hr.1
 rw [Bool.not_eq_true',List.any_eq_false] at h1
 have:=h1 n.id (List.mem_append_left _ (List.mem_append_left _ (List.mem_map_of_mem hn)))
 unfold idBad at this
 simp only [Bool.or_eq_true,decide_eq_true_eq,not_or] at this
 omega
theorem Valid.find {a:Ar} (ha:a∈p.arcs):findAr p.arcs a.id=some a:=find_uniq (fun x:Ar=>x.id) p.arcs h.sound.arcs a ha
theorem Valid.arc_eq {a b:Ar} (ha:a∈p.arcs) (hb:b∈p.arcs) (e:a.id=b.id):a=b:=by
 have h1:=h.find ha
 rw [e,h.find hb] at h1
 exact (Option.some.inj h1).symm
theorem Valid.arcD_pos {a:Ar} (ha:a∈p.arcs):arcD p a.id=some a:=by
 have:=h.id_pos ha
 unfold arcD absI minI
 rw [if_neg (by omega),if_neg (by omega),h.find ha]
theorem Valid.arcD_neg {a:Ar} (ha:a∈p.arcs):arcD p (-a.id)=some a:=by
 have:=h.id_pos ha
 unfold arcD absI minI
 rw [if_neg (by omega),if_pos (by omega),Int.neg_neg,h.find ha]
theorem Valid.start_pos {a:Ar} (ha:a∈p.arcs):startD p a.id=a.fr:=by
 have:=h.id_pos ha
 unfold startD
 rw [h.arcD_pos ha]
 show (if 0<a.id then a.fr else a.dst)=a.fr
 rw [if_pos (by omega)]
theorem Valid.start_neg {a:Ar} (ha:a∈p.arcs):startD p (-a.id)=a.dst:=by
 have:=h.id_pos ha
 unfold startD
 rw [h.arcD_neg ha]
 show (if 0 < -a.id then a.fr else a.dst)=a.dst
 rw [if_neg (by omega)]
theorem Valid.to_pos {a:Ar} (ha:a∈p.arcs):toD p a.id=(pathS p a).getD 1 pt0:=by
 have:=h.id_pos ha
 unfold toD absI
 rw [if_neg (by omega),h.find ha]
 show (if 0<a.id then _ else _)=_
 rw [if_pos (by omega)]
theorem Valid.to_neg {a:Ar} (ha:a∈p.arcs):toD p (-a.id)=(pathS p a).getD a.via.length pt0:=by
 have:=h.id_pos ha
 unfold toD absI
 rw [if_pos (by omega),Int.neg_neg,h.find ha]
 show (if 0 < -a.id then _ else _)=_
 rw [if_neg (by omega)]
end
theorem mem_dartL {l:List Ar} {n d:Int}:d∈dartL l n↔∃ a∈l,(d=a.id∧a.fr=n)∨(d=-a.id∧a.dst=n):=by
 unfold dartL
 rw [List.mem_flatMap]
 refine exists_congr fun a=>and_congr_right fun _=>?_
 rw [List.mem_append]
 constructor
 ·
  rintro (h | h)
  ·
   split at h
   · rw [List.mem_singleton] at h;exact .inl ⟨h,by assumption⟩
   · cases h
  ·
   split at h
   · rw [List.mem_singleton] at h;exact .inr ⟨h,by assumption⟩
   · cases h
 ·
  rintro (⟨h1,h2⟩ | ⟨h1,h2⟩)
  · left;rw [if_pos h2,h1];exact List.mem_singleton.2 rfl
  · right;rw [if_pos h2,h1];exact List.mem_singleton.2 rfl
theorem mem_dartsD {p:Pl} {d:Int}:d∈dartsD p↔∃ a∈p.arcs,d=a.id∨d=-a.id:=by
 unfold dartsD
 rw [List.mem_append,List.mem_reverse,List.mem_map,List.mem_map]
 constructor
 ·
  rintro (⟨a,ha,rfl⟩ | ⟨a,ha,rfl⟩)
  · exact ⟨a,ha,.inr rfl⟩
  · exact ⟨a,ha,.inl rfl⟩
 ·
  rintro ⟨a,ha,rfl | rfl⟩
  · exact .inr ⟨a,ha,rfl⟩
  · exact .inl ⟨a,ha,rfl⟩
section
variable {p:Pl} (h:Valid p)
include h
theorem Valid.dart_seg {n:Nd} (hn:n∈p.nodes) {d:Int} (hd:d∈dartL p.arcs n.id):∃ a∈p.arcs,∃ k,k+1<(pathS p a).length ∧
  ((d=a.id∧k=0∧a.fr=n.id∧(pathS p a).getD k pt0=n.pt∧(pathS p a).getD (k+1) pt0=toD p d)∨(d=-a.id∧k=a.via.length∧a.dst=n.id∧(pathS p a).getD (k+1) pt0=n.pt∧(pathS p a).getD k pt0=toD p d)):=by
 obtain ⟨a,ha,h1⟩:=mem_dartL.1 hd
 have hl:=pathS_length p a
 rcases h1 with ⟨rfl,h2⟩ | ⟨rfl,h2⟩
 ·
  refine ⟨a,ha,0,by omega,.inl ⟨rfl,rfl,h2,?_,(h.to_pos ha).symm⟩⟩
  rw [path_0,h2];exact h.sound.node_eq hn
 ·
  refine ⟨a,ha,a.via.length,by omega,.inr ⟨rfl,rfl,h2,?_,(h.to_neg ha).symm⟩⟩
  have:(pathS p a).getD (a.via.length+1) pt0=nodeAt p a.dst:=by
   unfold pathS
   rw [List.getD_cons_succ,List.getD_eq_getElem?_getD,List.getElem?_append_right (by omega)]
   simp
  rw [this,h2];exact h.sound.node_eq hn
theorem Valid.to_facts {n:Nd} (hn:n∈p.nodes) {d:Int} (hd:d∈dartL p.arcs n.id):near1 n.pt=true∧near1 (toD p d)=true∧toD p d≠n.pt:=by
 obtain ⟨a,ha,k,hk,h1⟩:=h.dart_seg hn hd
 have n1:=h.pt_near ha (k:=k) (by omega)
 have n2:=h.pt_near ha (k:=k+1) hk
 have hne:=(h.distinct ha hk).1
 rcases h1 with ⟨-,-,-,e1,e2⟩ | ⟨-,-,-,e1,e2⟩
 · rw [e1] at n1 hne;rw [e2] at n2 hne;exact ⟨n1,n2,hne.symm⟩
 · rw [e1] at n2 hne;rw [e2] at n1 hne;exact ⟨n2,n1,hne⟩
theorem Valid.dirs {n:Nd} (hn:n∈p.nodes) {d1 d2:Int} (h1:d1∈dartL p.arcs n.id) (h2:d2∈dartL p.arcs n.id) (hne:d1≠d2):dirLt n.pt (toD p d1) (toD p d2)∨dirLt n.pt (toD p d2) (toD p d1):=by
 by_cases c1:dirLt n.pt (toD p d1) (toD p d2)
 · exact .inl c1
 by_cases c2:dirLt n.pt (toD p d2) (toD p d1)
 · exact .inr c2
 exfalso
 have key:∀ {e1 e2:Int},e1∈dartL p.arcs n.id→e2∈dartL p.arcs n.id→¬ dirLt n.pt (toD p e1) (toD p e2)→¬ dirLt n.pt (toD p e2) (toD p e1)→∀ {a b:Ar} {k m:Nat},
   ((pathS p a).getD k pt0=n.pt∧(pathS p a).getD (k+1) pt0=toD p e1∨(pathS p a).getD (k+1) pt0=n.pt∧(pathS p a).getD k pt0=toD p e1) →
   ((pathS p b).getD m pt0=n.pt∧(pathS p b).getD (m+1) pt0=toD p e2∨(pathS p b).getD (m+1) pt0=n.pt∧(pathS p b).getD m pt0=toD p e2) →
   rmeetS (segK p a k).a (segK p a k).b (segK p b m).a (segK p b m).b=2:=by
  intro e1 e2 m1 m2 q1 q2 a b k m s1 s2
  obtain ⟨n0,n1,x1⟩:=h.to_facts hn m1
  obtain ⟨-,n2,x2⟩:=h.to_facts hn m2
  obtain ⟨r1,r2,r3,r4⟩:=meet_dir n0 n1 n2 x1 x2 q1 q2
  unfold segK
  rcases s1 with ⟨u1,u2⟩ | ⟨u1,u2⟩<;>rcases s2 with ⟨v1,v2⟩ | ⟨v1,v2⟩<;>simp only [u1,u2,v1,v2]
  · exact r1
  · exact r3
  · exact r2
  · exact r4
 obtain ⟨a,ha,k,hk,s1⟩:=h.dart_seg hn h1
 obtain ⟨b,hb,m,hm,s2⟩:=h.dart_seg hn h2
 have t1:(pathS p a).getD k pt0=n.pt∧(pathS p a).getD (k+1) pt0=toD p d1∨(pathS p a).getD (k+1) pt0=n.pt∧(pathS p a).getD k pt0=toD p d1:=by
  rcases s1 with ⟨-,-,-,e1,e2⟩ | ⟨-,-,-,e1,e2⟩
  · exact .inl ⟨e1,e2⟩
  · exact .inr ⟨e1,e2⟩
 have t2:(pathS p b).getD m pt0=n.pt∧(pathS p b).getD (m+1) pt0=toD p d2∨(pathS p b).getD (m+1) pt0=n.pt∧(pathS p b).getD m pt0=toD p d2:=by
  rcases s2 with ⟨-,-,-,e1,e2⟩ | ⟨-,-,-,e1,e2⟩
  · exact .inl ⟨e1,e2⟩
  · exact .inr ⟨e1,e2⟩
 have r12:=key h1 h2 c1 c2 t1 t2
 have r21:=key h2 h1 c2 c1 t2 t1
 by_cases hab:a=b
 ·
  subst hab
  have hl:=pathS_length p a
  have same:∀ {d3 d4:Int} {i j:Nat},d3≠d4→((d3=a.id∧i=0∧a.fr=n.id)∨(d3=-a.id∧i=a.via.length∧a.dst=n.id))→((d4=a.id∧j=0∧a.fr=n.id)∨(d4=-a.id∧j=a.via.length∧a.dst=n.id))→rmeetS (segK p a i).a (segK p a i).b (segK p a j).a (segK p a j).b=2→i<j→False:=by
   intro d3 d4 i j hne z1 z2 z3 z4
   rcases z1 with ⟨y1,y2,y3⟩ | ⟨y1,y2,y3⟩
   ·
    rcases z2 with ⟨x1,x2,x3⟩ | ⟨x1,x2,x3⟩
    · omega
    ·
     have h4:=(h.distinct ha (k:=i) (by omega)).2 (y3.trans x3.symm)
     have hap:=h.segs.2.1 a ha i j z4 (by omega)
     unfold apartS at hap
     rw [z3] at hap
     split at hap
     · simp at hap
     · simp at hap
   ·
    rcases z2 with ⟨x1,x2,x3⟩ | ⟨x1,x2,x3⟩
    · omega
    · omega
  have q1:(d1=a.id∧k=0∧a.fr=n.id)∨(d1=-a.id∧k=a.via.length∧a.dst=n.id):=by
   rcases s1 with ⟨y1,y2,y3,-⟩ | ⟨y1,y2,y3,-⟩
   · exact .inl ⟨y1,y2,y3⟩
   · exact .inr ⟨y1,y2,y3⟩
  have q2:(d2=a.id∧m=0∧a.fr=n.id)∨(d2=-a.id∧m=a.via.length∧a.dst=n.id):=by
   rcases s2 with ⟨y1,y2,y3,-⟩ | ⟨y1,y2,y3,-⟩
   · exact .inl ⟨y1,y2,y3⟩
   · exact .inr ⟨y1,y2,y3⟩
  rcases Nat.lt_trichotomy k m with hkm | hkm | hkm
  · exact same hne q1 q2 r12 hkm
  ·
   subst hkm
   have hd4:=h.distinct ha hk
   rcases q1 with ⟨y1,y2,y3⟩ | ⟨y1,y2,y3⟩
   ·
    rcases q2 with ⟨x1,x2,x3⟩ | ⟨x1,x2,x3⟩
    · exact hne (y1.trans x1.symm)
    · have:=hd4.2 (y3.trans x3.symm);omega
   ·
    rcases q2 with ⟨x1,x2,x3⟩ | ⟨x1,x2,x3⟩
    · have:=hd4.2 (x3.trans y3.symm);omega
    · exact hne (y1.trans x1.symm)
  · exact same (fun e=>hne e.symm) q2 q1 r21 hkm
 ·
  have hp:=h.segs.2.2
  obtain ⟨i,hi,rfl⟩:=List.mem_iff_getElem.1 ha
  obtain ⟨j,hj,rfl⟩:=List.mem_iff_getElem.1 hb
  rw [List.pairwise_iff_getElem] at hp
  have no2:∀ {s t:Sg},joinedS p s t=true→rmeetS s.a s.b t.a t.b=2→False:=by
   intro s t hj2 h2
   unfold joinedS at hj2
   rw [h2] at hj2
   simp at hj2
  rcases Nat.lt_trichotomy i j with hij | hij | hij
  · exact no2 (hp i j hi hj hij k hk m hm) r12
  · subst hij;exact hab rfl
  · exact no2 (hp j i hj hi hij m hm k hk) r21
end
end Go.Proofs.YtnhdmghgjngcaaaGreat
namespace Go.Proofs.YtnhdmghgjngcaaaGreat
open Go.RowKit

def iiD (n:Int):DataW Unit:=.lit (.int .i64 n)
def iiR:Value→Option (DataW Unit×List MemPlace)
 | .int .i64 n=>some (iiD n,[])
 | _=>none
theorem iiR_inv {v:Value} {n:Int} {ps:List MemPlace} (h:iiR v=some (iiD n,ps)):v=.int .i64 n:=by
 unfold iiR at h
 split at h
 ·
  simp only [iiD,Option.some.injEq,Prod.mk.injEq,DataW.lit.injEq,Lit.int.injEq,true_and] at h
  rw [h.1]
 · cases h
def MapII (w:World) (b n:Nat) (f:Int→Int):Prop :=
 ∃ D:DataW Unit,w.ownsMap Tryz.prog 3 iiR b n D∧Maps.IsMap D∧∀ id,D.atKey (.int .i64 id) (iiD 0)=iiD (f id)
theorem MapII.kept {w w':World} {b n:Nat} {f:Int→Int} (h:MapII w b n f) {row:Option Nat} (hg:w.grownBy w' row) (hr:some b≠row):MapII w' b n f:=by
 obtain ⟨D,h1,h2⟩:=h
 exact ⟨D,h1.kept hg hr,h2⟩
theorem MapII.keep {w w':World} {b n:Nat} {f:Int→Int} (h:MapII w b n f) (hb:Below w.heap.size w w'):MapII w' b n f :=
 h.kept (row:=none) ⟨hb.os,hb.tape,hb.output,hb.size,fun i hi _=>hb.block i hi⟩ (by simp)
theorem MapII.lt {w:World} {b n:Nat} {f:Int→Int} (h:MapII w b n f):b<w.heap.size:=by
 obtain ⟨D,h1,h2⟩:=h
 exact h1.lt
theorem MapII.made (w:World):MapII (w.alloc (.map #[] 0)) w.heap.size 0 (fun _=>0) :=
 ⟨.map [],World.ownsMap_made _ _ _ _,⟨_,rfl⟩,fun _=>rfl⟩
theorem zero_ii (w:World):(zeroValue 3).run Tryz.prog w=.ok (.int .i64 0) w:=by kernel_rfl
theorem MapII.look {w:World} {b n:Nat} {f:Int→Int} (h:MapII w b n f) (id:Int) (hid:wfI id) :
  (Instr.lookup 100 (.map (some b)) (.int .i64 id) false).run Tryz.prog w=.ok (.int .i64 (f id)) w:=by
 obtain ⟨D,h1,-,h2⟩:=h
 obtain ⟨v,ps,hr,hv⟩:=h1.lookup keyed_int Tryz.underlying100 (zero_ii w) (zd:=iiD 0) (zp:=[]) rfl (Maps.keyOf_int_mk Tryz.underlying3 hid)
 rw [h2] at hv
 rw [hr,iiR_inv hv]
theorem MapII.upd {w:World} {b n:Nat} {f:Int→Int} (h:MapII w b n f) (hn:n<4294967296) (id:Int) (hid:wfI id) (x:Int) :
  ∃ w',(Instr.mapUpdate 100 (.map (some b)) (.int .i64 id) (.int .i64 x)).run Tryz.prog w=.ok () w'∧MapII w' b (n+1) (fun i=>if i=id then x else f i)∧w.grownBy w' (some b):=by
 obtain ⟨D,h1,hm,h2⟩:=h
 obtain ⟨w',hr,ho,hg⟩:=h1.update keyed_int Tryz.underlying100 (by unfold maxLen;omega) (Maps.keyOf_int_mk Tryz.underlying3 hid) (val:=.int .i64 x) (d:=iiD x) (ps:=[]) rfl
 refine ⟨w',hr,⟨_,ho,?_,fun i=>?_⟩,hg⟩
 · obtain ⟨es,rfl⟩:=hm;exact ⟨_,rfl⟩
 ·
  show _=iiD (if i=id then x else f i)
  by_cases e:i=id
  ·
   subst e
   rw [if_pos rfl]
   exact Maps.atKey_put_same hm (by trivial) _ _
  · rw [if_neg e,Maps.atKey_put_other (fun h=>e (by injection h)),h2]

def ibD (b:Bool):DataW Unit:=.lit (.bool b)
def ibR:Value→Option (DataW Unit×List MemPlace)
 | .bool b=>some (ibD b,[])
 | _=>none
theorem ibR_inv {v:Value} {b:Bool} {ps:List MemPlace} (h:ibR v=some (ibD b,ps)):v=.bool b:=by
 unfold ibR at h
 split at h
 ·
  simp only [ibD,Option.some.injEq,Prod.mk.injEq,DataW.lit.injEq,Lit.bool.injEq] at h
  rw [h.1]
 · cases h
def MapIB (w:World) (b n:Nat) (f:Int→Bool):Prop :=
 ∃ D:DataW Unit,w.ownsMap Tryz.prog 3 ibR b n D∧Maps.IsMap D∧∀ id,D.atKey (.int .i64 id) (ibD false)=ibD (f id)
theorem MapIB.kept {w w':World} {b n:Nat} {f:Int→Bool} (h:MapIB w b n f) {row:Option Nat} (hg:w.grownBy w' row) (hr:some b≠row):MapIB w' b n f:=by
 obtain ⟨D,h1,h2⟩:=h
 exact ⟨D,h1.kept hg hr,h2⟩
theorem MapIB.keep {w w':World} {b n:Nat} {f:Int→Bool} (h:MapIB w b n f) (hb:Below w.heap.size w w'):MapIB w' b n f :=
 h.kept (row:=none) ⟨hb.os,hb.tape,hb.output,hb.size,fun i hi _=>hb.block i hi⟩ (by simp)
theorem MapIB.lt {w:World} {b n:Nat} {f:Int→Bool} (h:MapIB w b n f):b<w.heap.size:=by
 obtain ⟨D,h1,h2⟩:=h
 exact h1.lt
theorem MapIB.made (w:World):MapIB (w.alloc (.map #[] 0)) w.heap.size 0 (fun _=>false) :=
 ⟨.map [],World.ownsMap_made _ _ _ _,⟨_,rfl⟩,fun _=>rfl⟩
theorem zero_ib (w:World):(zeroValue 4).run Tryz.prog w=.ok (.bool false) w:=by kernel_rfl
theorem MapIB.look {w:World} {b n:Nat} {f:Int→Bool} (h:MapIB w b n f) (id:Int) (hid:wfI id) :
  (Instr.lookup 63 (.map (some b)) (.int .i64 id) false).run Tryz.prog w=.ok (.bool (f id)) w:=by
 obtain ⟨D,h1,-,h2⟩:=h
 obtain ⟨v,ps,hr,hv⟩:=h1.lookup keyed_int Tryz.underlying63 (zero_ib w) (zd:=ibD false) (zp:=[]) rfl (Maps.keyOf_int_mk Tryz.underlying3 hid)
 rw [h2] at hv
 rw [hr,ibR_inv hv]
theorem MapIB.upd {w:World} {b n:Nat} {f:Int→Bool} (h:MapIB w b n f) (hn:n<4294967296) (id:Int) (hid:wfI id) (x:Bool) :
  ∃ w',(Instr.mapUpdate 63 (.map (some b)) (.int .i64 id) (.bool x)).run Tryz.prog w=.ok () w'∧MapIB w' b (n+1) (fun i=>if i=id then x else f i)∧w.grownBy w' (some b):=by
 obtain ⟨D,h1,hm,h2⟩:=h
 obtain ⟨w',hr,ho,hg⟩:=h1.update keyed_int Tryz.underlying63 (by unfold maxLen;omega) (Maps.keyOf_int_mk Tryz.underlying3 hid) (val:=.bool x) (d:=ibD x) (ps:=[]) rfl
 refine ⟨w',hr,⟨_,ho,?_,fun i=>?_⟩,hg⟩
 · obtain ⟨es,rfl⟩:=hm;exact ⟨_,rfl⟩
 ·
  show _=ibD (if i=id then x else f i)
  by_cases e:i=id
  ·
   subst e
   rw [if_pos rfl]
   exact Maps.atKey_put_same hm (by trivial) _ _
  · rw [if_neg e,Maps.atKey_put_other (fun h=>e (by injection h)),h2]
end Go.Proofs.YtnhdmghgjngcaaaGreat
namespace Go.Proofs.YtnhdmghgjngcaaaGreat
open Go.RowKit

def svV (x:SV):Value:=.slice x.a x.n x.c
def liD (n:Nat):DataW Unit:=.lit (.int .i64 (n:Int))
def svD (x:SV):DataW Unit:=match x.a with
 | none=>.agg [liD x.n,liD x.c]
 | some ⟨b,o,none⟩=>.agg [liD b,liD o,liD x.n,liD x.c]
 | some ⟨_,_,some _⟩=>.agg []
def svR:Value→Option (DataW Unit×List MemPlace)
 | .slice none n c=>some (.agg [liD n,liD c],[])
 | .slice (some ⟨b,o,none⟩) n c=>some (.agg [liD b,liD o,liD n,liD c],[])
 | _=>none
theorem svR_inv {v:Value} {x:SV} {ps:List MemPlace} (h:svR v=some (svD x,ps)):v=svV x:=by
 obtain ⟨a,n,c⟩:=x
 unfold svR at h
 split at h
 ·
  rename_i n' c'
  unfold svD at h
  rcases a with _ | ⟨b,o,_ | q⟩
  ·
   simp only [Option.some.injEq,Prod.mk.injEq,DataW.agg.injEq,List.cons.injEq,liD,DataW.lit.injEq,Lit.int.injEq,and_true,true_and] at h
   have h1:n'=n:=by omega
   have h2:c'=c:=by omega
   subst h1 h2
   rfl
  · simp at h
  · simp at h
 ·
  rename_i b' o' n' c'
  unfold svD at h
  rcases a with _ | ⟨b,o,_ | q⟩
  · simp at h
  ·
   simp only [Option.some.injEq,Prod.mk.injEq,DataW.agg.injEq,List.cons.injEq,liD,DataW.lit.injEq,Lit.int.injEq,and_true,true_and] at h
   have h1:b'=b:=by omega
   have h2:o'=o:=by omega
   have h3:n'=n:=by omega
   have h4:c'=c:=by omega
   subst h1 h2 h3 h4
   rfl
  · simp at h
 · cases h
def SV.ok (x:SV):Prop:=x.a=none∨∃ b o,x.a=some ⟨b,o,none⟩
theorem svR_of {x:SV} (h:x.ok):svR (svV x)=some (svD x,[]):=by
 obtain ⟨a,n,c⟩:=x
 rcases h with h | ⟨b,o,h⟩
 · simp only at h;subst h;rfl
 · simp only at h;subst h;rfl
def sv0:SV:=⟨none,0,0⟩
def MapSl (w:World) (b n:Nat) (f:Int→SV):Prop :=
 ∃ D:DataW Unit,w.ownsMap Tryz.prog 3 svR b n D∧Maps.IsMap D∧∀ id,D.atKey (.int .i64 id) (svD sv0)=svD (f id)
theorem MapSl.kept {w w':World} {b n:Nat} {f:Int→SV} (h:MapSl w b n f) {row:Option Nat} (hg:w.grownBy w' row) (hr:some b≠row):MapSl w' b n f:=by
 obtain ⟨D,h1,h2⟩:=h
 exact ⟨D,h1.kept hg hr,h2⟩
theorem MapSl.keep {w w':World} {b n:Nat} {f:Int→SV} (h:MapSl w b n f) (hb:Below w.heap.size w w'):MapSl w' b n f :=
 h.kept (row:=none) ⟨hb.os,hb.tape,hb.output,hb.size,fun i hi _=>hb.block i hi⟩ (by simp)
theorem MapSl.lt {w:World} {b n:Nat} {f:Int→SV} (h:MapSl w b n f):b<w.heap.size:=by
 obtain ⟨D,h1,h2⟩:=h
 exact h1.lt
theorem MapSl.made (w:World):MapSl (w.alloc (.map #[] 0)) w.heap.size 0 (fun _=>sv0) :=
 ⟨.map [],World.ownsMap_made _ _ _ _,⟨_,rfl⟩,fun _=>rfl⟩
theorem zero_sl (w:World):(zeroValue 39).run Tryz.prog w=.ok (.slice none 0 0) w:=by kernel_rfl
theorem MapSl.look {w:World} {b n:Nat} {f:Int→SV} (h:MapSl w b n f) (id:Int) (hid:wfI id) :
  (Instr.lookup 59 (.map (some b)) (.int .i64 id) false).run Tryz.prog w=.ok (svV (f id)) w:=by
 obtain ⟨D,h1,-,h2⟩:=h
 obtain ⟨v,ps,hr,hv⟩:=h1.lookup keyed_int Tryz.underlying59 (zero_sl w) (zd:=svD sv0) (zp:=[]) rfl (Maps.keyOf_int_mk Tryz.underlying3 hid)
 rw [h2] at hv
 rw [hr,svR_inv hv]
theorem MapSl.upd {w:World} {b n:Nat} {f:Int→SV} (h:MapSl w b n f) (hn:n<4294967296) (id:Int) (hid:wfI id) (x:SV) (hx:x.ok) :
  ∃ w',(Instr.mapUpdate 59 (.map (some b)) (.int .i64 id) (svV x)).run Tryz.prog w=.ok () w'∧MapSl w' b (n+1) (fun i=>if i=id then x else f i)∧w.grownBy w' (some b):=by
 obtain ⟨D,h1,hm,h2⟩:=h
 obtain ⟨w',hr,ho,hg⟩:=h1.update keyed_int Tryz.underlying59 (by unfold maxLen;omega) (Maps.keyOf_int_mk Tryz.underlying3 hid) (val:=svV x) (d:=svD x) (ps:=[]) (svR_of hx)
 refine ⟨w',hr,⟨_,ho,?_,fun i=>?_⟩,hg⟩
 · obtain ⟨es,rfl⟩:=hm;exact ⟨_,rfl⟩
 ·
  show _=svD (if i=id then x else f i)
  by_cases e:i=id
  ·
   subst e
   rw [if_pos rfl]
   exact Maps.atKey_put_same hm (by trivial) _ _
  · rw [if_neg e,Maps.atKey_put_other (fun h=>e (by injection h)),h2]
end Go.Proofs.YtnhdmghgjngcaaaGreat
namespace Go.Proofs.YtnhdmghgjngcaaaGreat
open Go.RowKit

theorem le_maxL {n:Nat} (h:n≤8796093022208):n≤maxLen:=by
 have:maxLen=9223372036854775807:=rfl
 omega
def ShortL (p:Pl):Prop:=∀ a∈p.arcs,a.via.length≤8796093022208
theorem wpList_applL {P:Program} (w:World) {ops:Array Oper} {rest:List Oper} {o:Oper} {a:Act} {Q:Exit→Act→World→Prop} (hgd:o.guard=none) (s x:Operand) (t:TypeId)
  (ho:o.op=.call {callee:=.builtin .append,args:=#[s,x],argTypes:=#[t,t]})
  {α:Type} {f:α→List Value} {base:Nat} {e:TypeId} {size bytes:Nat} (hE:Elem P t e size bytes) (hf:∀ a,(f a).length=size) (hone:∀ a,∀ u∈f a,u.oneCell'=true)
  {v:Value} {l:List α} (hs:a.eval s=v) (hown:Own w base e size f v l)
  {src:Value} {l2:List α} (hx:a.eval x=src) (hr:Sl w src l2.length (l2.flatMap f))
  (hbytes:(l.length+l2.length)*bytes≤140737488355328) (h32:l.length+l2.length≤8796093022208) (hbase:base≤w.heap.size)
  (h:∀ v' w',Own w' base e size f v' (l++l2)→w.grownBy w' v.ownBlock→(v'.ownBlock=v.ownBlock∨v'.ownBlock=some w.heap.size)→wpList P ops Q rest (a.put o.dst v') w'):wpList P ops Q (o::rest) a w:=by
 obtain ⟨ht,i,z,hi,hz,hsize,hby,hzs,hsz⟩:=hE
 refine wpList_app w hgd s x t ho base e i z size bytes ht hi hz hsize hby hzs hsz v l.length (l.flatMap f) hs hown src l2.length (l2.flatMap f) hx hr (flat_length f size hf l2)
  (fun u hu=>?_) (le_maxL h32) hbytes hbase (fun v' w' h1 h2 h3=>h v' w' ?_ h2 h3)
 ·
  obtain ⟨a,_,hu⟩:=List.mem_flatMap.1 hu
  exact hone a u hu
 ·
  unfold Own
  rw [List.length_append,List.flatMap_append]
  exact h1
set_option maxHeartbeats 400000 in
theorem Clone_pt_specL (v:Value) (l:List Pt) (w:World) (h:Pts w v l) (hl:l.length≤8796093022208) :
  Calls Tryz.prog 35 #[v] w (RetPts w l):=by
 have H:=h
 obtain ⟨A,c,rfl,hn,hc,hR⟩:=h
 have hE:=Lib.run_eql_slice_nil (P:=Tryz.prog) (t:=39) (e:=36)
 rcases A with _ | ad
 ·
  have hl0:l=[]:=by
   rcases l with _ | ⟨a,l⟩
   · rfl
   ·
    obtain ⟨b,o,e,_⟩:=hR (by simp [ptC])
    cases e
  subst hl0
  clear hR H
  simp only [List.length_nil] at hn ⊢
  have hE1:∀ W:World,(binOp .eql 39 (.slice none 0 c) (.slice none 0 0)).run Tryz.prog W=.ok (.bool true) W:=fun W=>Lib.run_eql_slice_nil W _ 36 none _ c 0 0 Tryz.underlying39
  clear hE
  go_enter Tryz.func35,Tryz.ntmps35
  go_wp2
  go_ret
  exact ⟨_,_,rfl,bR w,Own.nil _ _ _ _ _⟩
 ·
  have hE1:∀ W:World,(binOp .eql 39 (.slice (some ad) l.length c) (.slice none 0 0)).run Tryz.prog W=.ok (.bool false) W:=fun W=>Lib.run_eql_slice_nil W _ 36 (some ad) _ c 0 0 Tryz.underlying39
  clear hE hR
  have HH:=Lib.hid H;clear H
  go_enter Tryz.func35,Tryz.ntmps35
  go_wp2_with
   (at_builtin
    refine wpList_applL _ rfl (.tmp 5) (.tmp 6) _ rfl (base:=w.heap.size) elem_pt ptC_len ptC_one rfl (Own.lit _ _ _ _ ptC [] _ 0 _ rfl rfl (Nat.le_refl _) (le_maxLen (by omega)) rfl rfl) rfl (HH.out.mono (bA (bR w) _)) (by simp only [List.length_nil];omega) (by simp only [List.length_nil];omega) (by simp) ?_
    intro v1 w1 hown hg hat)
  go_ret
  obtain ⟨A1,c1,rfl,-⟩:=Own.sl hown
  simp only [List.nil_append] at hown ⊢
  exact ⟨A1,c1,rfl,bG (bA (bR w) _) hg (fun k hk=>by have:w.heap.size=k:=Option.some.inj hk;omega),hown⟩

set_option maxHeartbeats 4000000 in
theorem Arc_specL (v:Value) (p:Pl) (id:Int) (w:World) (h:PlV w v p) (hsh:ShortL p) :
  Calls Tryz.prog 33 #[v,.int .i64 id] w (ArRes w (findAr p.arcs id)):=by
 obtain ⟨vn,_,vf,al,rfl,hpa,-,⟨⟨An,cn,rfl,hn1,hn2,hR⟩,hV⟩,-⟩:=h
 unfold maxLen at hn2
 unfold ShortL at hsh
 rw [hpa] at hsh ⊢
 clear hpa
 have hsh':∀ k (hk:k<al.length),al[k].1.via.length≤8796093022208:=fun k hk=>hsh _ (List.mem_map_of_mem (List.getElem_mem hk))
 have HV:=Lib.hid hV;clear hV hsh
 have HSh:=Lib.hid hsh';clear hsh'
 go_enter Tryz.func33,Tryz.ntmps33
 go_wp2_with fail
 go_loopw [11] (fun i wr=>∃ k:Nat,k≤al.length∧i=.int .i64 k∧Below w.heap.size w wr∧Blk wr (w.heap.size+1) 41 #[.int .i64 0,.int .i64 0,.int .i64 0,.slice none 0 0,.int .i64 0,.int .i64 0]∧∀ j (hj:j<al.length),j<k→(al[j].1.id == id)=false) (fun i _=>al.length-(intOf i).toNat)
 case atStart => exact ⟨0,Nat.zero_le _,rfl,bA (bA (bR w) _) _,Blk.made (by simp) _ _,fun j _ h=>by omega⟩
 case round =>
  obtain ⟨k,hk,rfl,hb,X4,hno⟩:=hrel
  have Hb:=Lib.hid hb
  have Hno:=Lib.hid hno
  clear hb hno
  obtain ⟨X4l,X4a,X4b,X4c,X4d,X4e,X4f,X4fa,X4fb,X4fc,X4fd,X4fe,X4ff⟩:=X4.facts6
  by_cases hlt:k<al.length
  ·
   obtain ⟨b,o,rfl,hlb,c0,c1,c2,c3,c4,c5⟩:=(hR.mono Hb.out).ar hlt
   have HR:=Lib.hid hR;clear hR
   have hvk:=(HV.out k hlt)
   obtain ⟨Av,cv,hv,-⟩:=hvk
   have hvk:=(HV.out k hlt)
   rw [hv] at c3 hvk
   generalize hvl:al[k].1.via.length=vl at *
   have Hvl:=Lib.hid hvl
   have Hvk:=Lib.hid hvk;clear hvk hv hvl
   cases he:(al[k].1.id == id)
   ·
    go_wp2
    go_roundw
    case rel => exact ⟨k+1,by omega,by go_num,bA Hb.out _,X4.alloc _,all_succ (p:=fun x=>(x.1.id == id)=false) Hno.out hlt he⟩
    case measure => simp [intOf];omega
   ·
    have hf:=findAr_hit al id k hlt Hno.out he
    have Hf:=Lib.hid hf;clear hf
    go_wp2_with fail
    refine (Clone_pt_specL _ _ _ (Hvk.out.mono (bA Hb.out _)) (HSh.out k hlt)).mono ?_
    rintro e w1 ⟨A1,cc1,rfl,hb1,hown⟩
    have Bw:Below w.heap.size w w1:=bT (bA Hb.out _) hb1
    have X7:Blk w1 wr.heap.size 41 #[.int .i64 al[k].1.id,.int .i64 al[k].1.fr,.int .i64 al[k].1.dst,.slice Av vl cv,.int .i64 al[k].1.left,.int .i64 al[k].1.right]:=(Blk.made rfl _ _).keep hb1
    have hw8:w.heap.size+1<wr.heap.size:=by omega
    have hw7:w.heap.size+1≠wr.heap.size:=by omega
    replace X4:=(X4.alloc _).keep hb1
    have hown':=hown.mono_base (b':=wr.heap.size+1) (by simp)
    have hP:=Own.sl hown
    have Hown:=Lib.hid hown'
    clear hb1 c0 c1 c2 c3 c4 c5 hlb hown hown' hP
    try clear X4l
    try clear X4a
    try clear X4b
    try clear X4c
    try clear X4d
    try clear X4e
    try clear X4f
    try clear X4fa
    try clear X4fb
    try clear X4fc
    try clear X4fd
    try clear X4fe
    try clear X4ff
    obtain ⟨X4l,X4a,X4b,X4c,X4d,X4e,X4f,X4fa,X4fb,X4fc,X4fd,X4fe,X4ff⟩:=X4.facts6
    obtain ⟨X7l,X7a,X7b,X7c,X7d,X7e,X7f,X7fa,X7fb,X7fc,X7fd,X7fe,X7ff⟩:=X7.facts6
    go_wp2_with fail
    have hszr:=Hb.out.size
    have ne7:(Value.slice A1 al[k].1.via.length cc1).ownBlock≠some wr.heap.size:=fun e=>by have:=(Hown.out.lt _ e).1;omega
    have ne4:(Value.slice A1 al[k].1.via.length cc1).ownBlock≠some (w.heap.size+1):=fun e=>by have:=(Hown.out.lt _ e).1;omega
    have HP:=Own.sl (((((((Hown.out.far (p:=⟨wr.heap.size,3,none⟩) ne7 (.slice A1 al[k].1.via.length cc1)).far (p:=⟨w.heap.size+1,0,none⟩) ne4 (.int .i64 al[k].1.id)).far (p:=⟨w.heap.size+1,1,none⟩) ne4 (.int .i64 al[k].1.fr)).far (p:=⟨w.heap.size+1,2,none⟩) ne4 (.int .i64 al[k].1.dst)).far (p:=⟨w.heap.size+1,3,none⟩) ne4 (.slice A1 al[k].1.via.length cc1)).far (p:=⟨w.heap.size+1,4,none⟩) ne4 (.int .i64 al[k].1.left)).far (p:=⟨w.heap.size+1,5,none⟩) ne4 (.int .i64 al[k].1.right))
    refine res_cell_tmp (g:=w.heap.size+1) (cs:=#[.int .i64 al[k].1.id,.int .i64 al[k].1.fr,.int .i64 al[k].1.dst,.slice A1 al[k].1.via.length cc1,.int .i64 al[k].1.left,.int .i64 al[k].1.right]) rfl struct_ar rfl rfl (Blk.put6 (X4.far (p:=⟨wr.heap.size,3,none⟩) hw7 _)) ⟨.slice A1 al[k].1.via.length cc1,by rw [Hf.out];rfl,?_,by rw [Hf.out];exact HP⟩
    repeat (first | with_reducible exact bR _ | with_reducible assumption | with_reducible refine bA ?_ _ | with_reducible refine bD ?_ | with_reducible refine bN ?_ _ | ((with_reducible refine bS ?_ ?_ _);rotate_left;(simp;try omega)) | ((with_reducible refine bT ?_ ?_);rotate_left;with_reducible assumption) | with_reducible refine bT ?_ (by assumption))
  ·
   have hf:=findAr_miss al id (fun j hj=>Hno.out j hj (by omega))
   have Hf:=Lib.hid hf;clear hf
   go_wp2
   have Bw:=Hb.out
   refine res_cell_tmp (g:=w.heap.size+1) (cs:=#[.int .i64 0,.int .i64 0,.int .i64 0,.slice none 0 0,.int .i64 0,.int .i64 0]) rfl struct_ar rfl rfl (Blk.put6 X4) ⟨.slice none 0 0,by rw [Hf.out];rfl,?_,by rw [Hf.out];exact Sl.nil _⟩
   repeat (first | with_reducible exact bR _ | with_reducible assumption | with_reducible refine bA ?_ _ | with_reducible refine bD ?_ | with_reducible refine bN ?_ _ | ((with_reducible refine bS ?_ ?_ _);rotate_left;(simp;try omega)) | ((with_reducible refine bT ?_ ?_);rotate_left;with_reducible assumption) | with_reducible refine bT ?_ (by assumption))

end Go.Proofs.YtnhdmghgjngcaaaGreat
namespace Go.Proofs.YtnhdmghgjngcaaaGreat
open Go.RowKit

def insB (lt:Int→Int→Bool) (l:List Int) (c:Int):List Int:=l.takeWhile (fun x=>!lt c x)++c::l.dropWhile (fun x=>!lt c x)
def sortB (lt:Int→Int→Bool) (l:List Int):List Int:=l.foldl (insB lt) []
theorem insB_perm (lt:Int→Int→Bool) (l:List Int) (c:Int):(insB lt l c).Perm (c::l):=by
 unfold insB
 refine List.perm_middle.trans ?_
 rw [List.takeWhile_append_dropWhile]
structure OrdOn (lt:Int→Int→Bool) (D:List Int):Prop where
 asym:∀ x∈D,∀ y∈D,lt x y=true→lt y x=false
 ntr:∀ x∈D,∀ y∈D,∀ z∈D,lt x y=false→lt y z=false→lt x z=false
 tri:∀ x∈D,∀ y∈D,lt x y=false→lt y x=false→x=y
theorem insB_sorted {lt:Int→Int→Bool} {D:List Int} (ho:OrdOn lt D) {l:List Int} (h:l.Pairwise (fun a b=>lt b a=false)) (hl:∀ x∈l,x∈D) {c:Int} (hc:c∈D):(insB lt l c).Pairwise (fun a b=>lt b a=false):=by
 induction l with
 | nil=>simp [insB]
 | cons a l ih =>
  have h':=List.pairwise_cons.1 h
  have ha:=hl a List.mem_cons_self
  unfold insB
  cases hca:lt c a
  ·
   have e1:(a::l).takeWhile (fun x=>!lt c x)=a::l.takeWhile (fun x=>!lt c x):=by rw [List.takeWhile_cons];simp [hca]
   have e2:(a::l).dropWhile (fun x=>!lt c x)=l.dropWhile (fun x=>!lt c x):=by rw [List.dropWhile_cons];simp [hca]
   rw [e1,e2]
   show List.Pairwise _ (a::insB lt l c)
   refine List.pairwise_cons.2 ⟨fun x hx=>?_,ih h'.2 (fun x hx=>hl x (List.mem_cons_of_mem _ hx))⟩
   rcases List.mem_cons.1 ((insB_perm lt l c).subset hx) with rfl | hx
   · exact hca
   · exact h'.1 x hx
  ·
   have e1:(a::l).takeWhile (fun x=>!lt c x)=[]:=by rw [List.takeWhile_cons];simp [hca]
   have e2:(a::l).dropWhile (fun x=>!lt c x)=a::l:=by rw [List.dropWhile_cons];simp [hca]
   rw [e1,e2,List.nil_append]
   refine List.pairwise_cons.2 ⟨fun x hx=>?_,h⟩
   have h1:=ho.asym c hc a ha hca
   rcases List.mem_cons.1 hx with rfl | hx'
   · exact h1
   · exact ho.ntr x (hl x hx) a ha c hc (h'.1 x hx') h1
theorem sortB_fold {lt:Int→Int→Bool} {D:List Int} (ho:OrdOn lt D):∀ (l acc:List Int),acc.Pairwise (fun a b=>lt b a=false)→(∀ x∈l,x∈D)→(∀ x∈acc,x∈D)→(l.foldl (insB lt) acc).Perm (acc++l)∧(l.foldl (insB lt) acc).Pairwise (fun a b=>lt b a=false)
 | [],acc,h,_,_=>by simpa using h
 | c::l,acc,h,hl,ha=>by
  have hc:=hl c List.mem_cons_self
  have:=sortB_fold ho l (insB lt acc c) (insB_sorted ho h ha hc) (fun x hx=>hl x (List.mem_cons_of_mem _ hx)) (fun x hx=>by
   rcases List.mem_cons.1 ((insB_perm lt acc c).subset hx) with rfl | hx
   · exact hc
   · exact ha x hx)
  refine ⟨this.1.trans ?_,this.2⟩
  refine ((insB_perm lt acc c).append_right l).trans ?_
  rw [List.cons_append]
  exact List.perm_middle.symm
theorem sortB_facts {lt:Int→Int→Bool} {D:List Int} (ho:OrdOn lt D):(sortB lt D).Perm D∧(sortB lt D).Pairwise (fun a b=>lt b a=false):=by
 have:=sortB_fold ho D [] List.Pairwise.nil (fun x hx=>hx) (fun x hx=>by cases hx)
 simpa [sortB] using this
theorem sortB_of {lt:Int→Int→Bool} {D m:List Int} (ho:OrdOn lt D) (hp:m.Perm D) (hs:m.Pairwise (fun a b=>lt b a=false)):m=sortB lt D:=by
 obtain ⟨h1,h2⟩:=sortB_facts ho
 exact sorted_uniq (hp.trans h1.symm) hs h2 (fun a ha b hb=>ho.tri a (hp.subset ha) b (hp.subset hb))

def ltD (p:Pl) (o:Pt) (d e:Int):Bool:=lessS o (toD p d) (toD p e)
def aroundD (p:Pl) (n:Int):List Int:=match findNd p.nodes n with
 | none=>[]
 | some x=>sortB (ltD p x.pt) (dartL p.arcs n)
def precD (l:List Int) (d:Int):Int:=match l.findIdx? (fun x=>x == d) with
 | none=>0
 | some i=>l.getD ((i+l.length-1) % l.length) 0
def nextD (p:Pl) (d:Int):Int:=if (arcD p d).isSome then precD (aroundD p (startD p (-d))) (-d) else 0
def cyclesD (p:Pl):List (List Int):=cycL (nextD p) (dartsD p) (dartsD p)

section
variable {p:Pl} (h:Valid p)
include h
theorem Valid.ordOn {n:Nd} (hn:n∈p.nodes):OrdOn (ltD p n.pt) (dartL p.arcs n.id):=by
 have key:∀ d∈dartL p.arcs n.id,∀ e∈dartL p.arcs n.id,(ltD p n.pt d e=true↔dirLt n.pt (toD p d) (toD p e)):=fun d hd e he=>by
  obtain ⟨n0,n1,x1⟩:=h.to_facts hn hd
  obtain ⟨-,n2,x2⟩:=h.to_facts hn he
  unfold ltD
  rw [less_iff]
  exact ⟨fun h=>h.2.2.2,fun h=>⟨by simp [nears,n0,n1,n2],x1,x2,h⟩⟩
 have keyf:∀ d∈dartL p.arcs n.id,∀ e∈dartL p.arcs n.id,(ltD p n.pt d e=false↔¬ dirLt n.pt (toD p d) (toD p e)):=fun d hd e he=>by
  rw [← key d hd e he,Bool.not_eq_true]
 have nz:∀ d∈dartL p.arcs n.id,¬ ((toD p d).x-n.pt.x=0∧(toD p d).y-n.pt.y=0):=fun d hd=>ne_vec.1 (h.to_facts hn hd).2.2
 refine ⟨fun x hx y hy h1=>?_,fun x hx y hy z hz h1 h2=>?_,fun x hx y hy h1 h2=>?_⟩
 ·
  rw [keyf y hy x hx]
  rw [key x hx y hy] at h1
  exact fun h2=>ltV_irr _ _ (ltV_trans (nz x hx) (nz y hy) (nz x hx) h1 h2)
 ·
  rw [keyf x hx y hy] at h1
  rw [keyf y hy z hz] at h2
  rw [keyf x hx z hz]
  exact ltV_ntrans (nz x hx) (nz y hy) (nz z hz) h1 h2
 ·
  rw [keyf x hx y hy] at h1
  rw [keyf y hy x hx] at h2
  rcases Decidable.em (x=y) with e | e
  · exact e
  ·
   rcases h.dirs hn hx hy e with h3 | h3
   · exact absurd h3 h1
   · exact absurd h3 h2
theorem Valid.findNode {n:Nd} (hn:n∈p.nodes):findNd p.nodes n.id=some n:=find_uniq (fun x:Nd=>x.id) p.nodes h.sound.nodes n hn
theorem Valid.around_eq {n:Nd} (hn:n∈p.nodes):aroundD p n.id=sortB (ltD p n.pt) (dartL p.arcs n.id):=by
 unfold aroundD
 rw [h.findNode hn]
theorem Valid.around_perm {n:Nd} (hn:n∈p.nodes):(aroundD p n.id).Perm (dartL p.arcs n.id):=by
 rw [h.around_eq hn];exact (sortB_facts (h.ordOn hn)).1
theorem Valid.dartL_nodup {n:Int}:(dartL p.arcs n).Nodup:=by
 have hs:=h.sound.arcs
 rw [List.pairwise_map] at hs
 have hpos:∀ a∈p.arcs,1≤a.id:=fun a ha=>(h.id_pos ha).1
 unfold dartL List.Nodup
 rw [List.pairwise_flatMap]
 refine ⟨fun a ha=>?_,?_⟩
 ·
  have:=hpos a ha
  split<;>split<;>simp<;>omega
 ·
  have hs2:p.arcs.Pairwise (fun a b=>1≤a.id∧1≤b.id∧a.id<b.id):=by
   rw [List.pairwise_iff_getElem] at hs ⊢
   exact fun i j hi hj hij=>⟨hpos _ (List.getElem_mem hi),hpos _ (List.getElem_mem hj),hs i j hi hj hij⟩
  refine hs2.imp ?_
  rintro a b ⟨h1,h2,h3⟩ x hx y hy
  have hx':x=a.id∨x=-a.id:=by
   rcases List.mem_append.1 hx with hx | hx
   ·
    split at hx
    · exact .inl (List.mem_singleton.1 hx)
    · cases hx
   ·
    split at hx
    · exact .inr (List.mem_singleton.1 hx)
    · cases hx
  have hy':y=b.id∨y=-b.id:=by
   rcases List.mem_append.1 hy with hy | hy
   ·
    split at hy
    · exact .inl (List.mem_singleton.1 hy)
    · cases hy
   ·
    split at hy
    · exact .inr (List.mem_singleton.1 hy)
    · cases hy
  omega
theorem Valid.darts_sorted:(dartsD p).Pairwise (· < ·):=by
 have hs:=h.sound.arcs
 have hpos:∀ a∈p.arcs,1≤a.id:=fun a ha=>(h.id_pos ha).1
 unfold dartsD
 rw [List.pairwise_append]
 refine ⟨?_,hs,fun x hx y hy=>?_⟩
 ·
  rw [List.pairwise_reverse,List.pairwise_map]
  rw [List.pairwise_map] at hs
  exact hs.imp (fun h=>by omega)
 ·
  rw [List.mem_reverse,List.mem_map] at hx
  obtain ⟨a,ha,rfl⟩:=hx
  obtain ⟨b,hb,rfl⟩:=List.mem_map.1 hy
  have:=hpos a ha;have:=hpos b hb
  omega
end
end Go.Proofs.YtnhdmghgjngcaaaGreat
namespace Go.Proofs.YtnhdmghgjngcaaaGreat
open Go.RowKit

theorem findIdx_at {l:List Int} (hl:l.Nodup) {i:Nat} (hi:i<l.length):l.findIdx? (fun x=>x == l[i])=some i:=by
 rw [List.findIdx?_eq_some_iff_getElem]
 refine ⟨hi,by simp,fun j hj=>?_⟩
 rw [List.Nodup,List.pairwise_iff_getElem] at hl
 have:=hl j i (by omega) hi hj
 simpa using this
theorem precD_at {l:List Int} (hl:l.Nodup) {i:Nat} (hi:i<l.length):precD l l[i]=l[(i+l.length-1) % l.length]'(Nat.mod_lt _ (by omega)):=by
 unfold precD
 rw [findIdx_at hl hi]
 simp only []
 rw [List.getD_eq_getElem?_getD,List.getElem?_eq_getElem (Nat.mod_lt _ (by omega))]
 rfl
theorem precD_mem {l:List Int} (hl:l.Nodup) {d:Int} (hd:d∈l):precD l d∈l:=by
 obtain ⟨i,hi,rfl⟩:=List.mem_iff_getElem.1 hd
 rw [precD_at hl hi]
 exact List.getElem_mem _
theorem mod_inj {i j n:Nat} (hi:i<n) (hj:j<n) (h:(i+n-1) % n=(j+n-1) % n):i=j:=by
 have key:∀ k,k<n→(k+n-1) % n=if k=0 then n-1 else k-1:=fun k hk=>by
  split
  · subst k;rw [Nat.mod_eq_of_lt (by omega)];omega
  · rw [show k+n-1=(k-1)+n by omega,Nat.add_mod_right,Nat.mod_eq_of_lt (by omega)]
 rw [key i hi,key j hj] at h
 split at h<;>split at h<;>omega
theorem precD_inj {l:List Int} (hl:l.Nodup) {d e:Int} (hd:d∈l) (he:e∈l) (h:precD l d=precD l e):d=e:=by
 obtain ⟨i,hi,rfl⟩:=List.mem_iff_getElem.1 hd
 obtain ⟨j,hj,rfl⟩:=List.mem_iff_getElem.1 he
 rw [precD_at hl hi,precD_at hl hj] at h
 have hl':=hl
 rw [List.Nodup,List.pairwise_iff_getElem] at hl'
 have e:(i+l.length-1) % l.length=(j+l.length-1) % l.length:=by
  rcases Nat.lt_trichotomy ((i+l.length-1) % l.length) ((j+l.length-1) % l.length) with h1 | h1 | h1
  · exact absurd h (hl' _ _ _ _ h1)
  · exact h1
  · exact absurd h.symm (hl' _ _ _ _ h1)
 have:=mod_inj hi hj e
 subst this;rfl

theorem neg_dart {p:Pl} {d:Int} (hd:d∈dartsD p):-d∈dartsD p:=by
 obtain ⟨a,ha,e⟩:=mem_dartsD.1 hd
 refine mem_dartsD.2 ⟨a,ha,?_⟩
 rcases e with rfl | rfl
 · exact .inr rfl
 · exact .inl (Int.neg_neg _)
section
variable {p:Pl} (h:Valid p)
include h
theorem Valid.arcD_some {d:Int} (hd:d∈dartsD p):(arcD p d).isSome=true:=by
 obtain ⟨a,ha,e⟩:=mem_dartsD.1 hd
 rcases e with rfl | rfl
 · rw [h.arcD_pos ha];rfl
 · rw [h.arcD_neg ha];rfl
theorem Valid.start_node {d:Int} (hd:d∈dartsD p):∃ n∈p.nodes,n.id=startD p d∧d∈dartL p.arcs n.id:=by
 obtain ⟨a,ha,e⟩:=mem_dartsD.1 hd
 rcases e with rfl | rfl
 ·
  obtain ⟨n,hn,e,-⟩:=h.sound.at_fr ha
  exact ⟨n,hn,by rw [h.start_pos ha,e],mem_dartL.2 ⟨a,ha,.inl ⟨rfl,e.symm⟩⟩⟩
 ·
  obtain ⟨n,hn,e,-⟩:=h.sound.at_dst ha
  exact ⟨n,hn,by rw [h.start_neg ha,e],mem_dartL.2 ⟨a,ha,.inr ⟨rfl,e.symm⟩⟩⟩
theorem Valid.dartL_start {n d:Int} (hd:d∈dartL p.arcs n):d∈dartsD p∧startD p d=n:=by
 obtain ⟨a,ha,e⟩:=mem_dartL.1 hd
 rcases e with ⟨rfl,e⟩ | ⟨rfl,e⟩
 · exact ⟨mem_dartsD.2 ⟨a,ha,.inl rfl⟩,by rw [h.start_pos ha,e]⟩
 · exact ⟨mem_dartsD.2 ⟨a,ha,.inr rfl⟩,by rw [h.start_neg ha,e]⟩
theorem Valid.around_nodup {n:Nd} (hn:n∈p.nodes):(aroundD p n.id).Nodup:=(h.around_perm hn).nodup_iff.2 h.dartL_nodup
theorem Valid.next_eq {d:Int} (hd:d∈dartsD p):∃ n∈p.nodes,n.id=startD p (-d)∧-d∈aroundD p n.id∧nextD p d=precD (aroundD p n.id) (-d):=by
 obtain ⟨n,hn,e,hm⟩:=h.start_node (neg_dart hd)
 refine ⟨n,hn,e,(h.around_perm hn).symm.subset hm,?_⟩
 unfold nextD
 rw [if_pos (h.arcD_some hd),e]
theorem Valid.next_mem {d:Int} (hd:d∈dartsD p):nextD p d∈dartsD p∧startD p (nextD p d)=startD p (-d):=by
 obtain ⟨n,hn,e,hm,hx⟩:=h.next_eq hd
 rw [hx]
 have h1:=precD_mem (h.around_nodup hn) hm
 have h2:=h.dartL_start ((h.around_perm hn).subset h1)
 exact ⟨h2.1,by rw [h2.2,e]⟩
theorem Valid.next_inj {d e:Int} (hd:d∈dartsD p) (he:e∈dartsD p) (hx:nextD p d=nextD p e):d=e:=by
 obtain ⟨n,hn,e1,m1,x1⟩:=h.next_eq hd
 obtain ⟨m,hm,e2,m2,x2⟩:=h.next_eq he
 have hs:=(h.next_mem hd).2
 rw [hx,(h.next_mem he).2,← e2,← e1] at hs
 rw [x1,x2,hs] at hx
 rw [hs] at m2
 have:=precD_inj (h.around_nodup hn) m1 m2 hx
 omega
theorem Valid.darts_nodup:(dartsD p).Nodup:=h.darts_sorted.imp (fun h=>by omega)
theorem Valid.cyc:Cyc (nextD p) (dartsD p) (dartsD p) (cyclesD p) :=
 cyc_all (fun x hx=>(h.next_mem hx).1) (fun x hx y hy=>h.next_inj hx hy) h.darts_sorted
theorem Valid.cyc_perm:(cyclesD p).flatten.Perm (dartsD p):=h.cyc.perm (fun x hx=>(h.next_mem hx).1) h.darts_nodup
theorem Valid.all_around:(p.nodes.flatMap fun n=>aroundD p n.id).Perm (dartsD p):=by
 refine (List.perm_ext_iff_of_nodup ?_ h.darts_nodup).2 fun d=>?_
 ·
  unfold List.Nodup
  rw [List.pairwise_flatMap]
  refine ⟨fun n hn=>h.around_nodup hn,?_⟩
  have hs:=h.sound.nodes
  rw [List.pairwise_map] at hs
  rw [List.pairwise_iff_getElem] at hs ⊢
  intro i j hi hj hij x hx y hy e
  subst e
  have h1:=(h.dartL_start ((h.around_perm (List.getElem_mem hi)).subset hx)).2
  have h2:=(h.dartL_start ((h.around_perm (List.getElem_mem hj)).subset hy)).2
  have:=hs i j hi hj hij
  omega
 ·
  rw [List.mem_flatMap]
  constructor
  ·
   rintro ⟨n,hn,hd⟩
   exact (h.dartL_start ((h.around_perm hn).subset hd)).1
  ·
   intro hd
   obtain ⟨n,hn,-,hm⟩:=h.start_node hd
   exact ⟨n,hn,(h.around_perm hn).symm.subset hm⟩
end
end Go.Proofs.YtnhdmghgjngcaaaGreat
namespace Go.Proofs.YtnhdmghgjngcaaaGreat
open Go.RowKit

theorem ArRes.form {w:World} {r:Option Ar} {e:Ending} {w':World} (h:ArRes w r e w'):∃ A c,e=.returned (.tuple #[.agg #[.int .i64 (r.getD ar0).id,.int .i64 (r.getD ar0).fr,.int .i64 (r.getD ar0).dst,.slice A (r.getD ar0).via.length c,.int .i64 (r.getD ar0).left,.int .i64 (r.getD ar0).right],.bool r.isSome])∧Below w.heap.size w w'∧Pts w' (.slice A (r.getD ar0).via.length c) (r.getD ar0).via:=by
 obtain ⟨v',rfl,hb,hp⟩:=h
 obtain ⟨A,c,rfl,h1,h2,h3⟩:=hp
 exact ⟨A,c,rfl,hb,A,c,rfl,h1,h2,h3⟩
theorem wfI_bd {n:Int} (h:wfI n):-9223372036854775808≤n∧n≤9223372036854775807:=by
 unfold wfI Lit.wf at h
 simp only [Bool.and_eq_true,decide_eq_true_eq] at h
 have h1:IntKind.i64.min=-9223372036854775808:=by decide
 have h2:IntKind.i64.max=9223372036854775807:=by decide
 rw [h1,h2] at h
 exact h
theorem arcD_max {p:Pl} {d:Int} (h0:d≠0) (h1:d≠-9223372036854775808):findAr p.arcs (max d (-d))=arcD p d:=by
 unfold arcD minI absI
 rw [if_neg (by omega)]
 congr 1
 split<;>omega

def ArResI (w:World) (r:Option Ar) (e:Ending) (w':World):Prop :=
 ∃ A n c,e=.returned (.tuple #[.agg #[.int .i64 (r.getD ar0).id,.int .i64 (r.getD ar0).fr,.int .i64 (r.getD ar0).dst,.slice A n c,.int .i64 (r.getD ar0).left,.int .i64 (r.getD ar0).right],.bool r.isSome])∧Below w.heap.size w w'
set_option maxRecDepth 100000 in
set_option maxHeartbeats 4000000 in
theorem arcOf_spec (v:Value) (p:Pl) (d:Int) (w:World) (h:PlV w v p) (hs:ShortL p) (hd:wfI d):Calls Tryz.prog 95 #[v,.int .i64 d] w (ArResI w (arcD p d)):=by
 have TA:=fun W (hW:Below w.heap.size w W)=>Arc_specL v p (max d (-d)) W (h.mono hW) hs
 obtain ⟨_,_,_,al,rfl,hpa,⟨An,cn,rfl,-⟩,⟨⟨Aa,ca,rfl,-⟩,-⟩,⟨Af,cf,rfl,-⟩⟩:=h
 generalize al.length=na at *
 generalize p.nodes.length=nn at *
 generalize p.faces.length=nf at *
 clear hpa
 by_cases h0:d=0
 ·
  subst h0
  have hz:arcD p 0=none:=by unfold arcD;rw [if_pos (.inl rfl)]
  rw [hz]
  clear TA hz
  go_enter Tryz.func95,Tryz.ntmps95
  go_upto_region 1 with fail
  obtain ⟨W,hW⟩:∃ W:World,W=(w.alloc (.cells #[.slice An nn cn,.slice Aa na ca,.slice Af nf cf] 26)).alloc (.cells #[.int .i64 0,.int .i64 0,.int .i64 0,.slice none 0 0,.int .i64 0,.int .i64 0] 41):=⟨_,rfl⟩
  have Bw:Below w.heap.size w W:=by rw [hW];exact bA (bA (bR w) _) _
  have X4:Blk W (w.heap.size+1) 41 #[.int .i64 0,.int .i64 0,.int .i64 0,.slice none 0 0,.int .i64 0,.int .i64 0]:=by rw [hW];exact Blk.made (by simp) _ _
  rw [← hW]
  clear hW
  obtain ⟨X4l,X4a,X4b,X4c,X4d,X4e,X4f,X4fa,X4fb,X4fc,X4fd,X4fe,X4ff⟩:=X4.facts6
  go_wp2_with fail
  refine res_cell_tmp (g:=w.heap.size+1) (cs:=#[.int .i64 0,.int .i64 0,.int .i64 0,.slice none 0 0,.int .i64 0,.int .i64 0]) rfl struct_ar rfl rfl (Blk.put6 X4) ⟨none,0,0,rfl,?_⟩
  repeat (first | with_reducible exact bR _ | with_reducible assumption | with_reducible refine bA ?_ _ | with_reducible refine bD ?_ | with_reducible refine bN ?_ _ | ((with_reducible refine bS ?_ ?_ _);rotate_left;(simp;try omega)) | ((with_reducible refine bT ?_ ?_);rotate_left;with_reducible assumption) | with_reducible refine bT ?_ (by assumption))
 by_cases h1:d=-9223372036854775808
 ·
  subst h1
  have hz:arcD p (-9223372036854775808)=none:=by unfold arcD;rw [if_pos (.inr rfl)]
  rw [hz]
  clear TA hz h0
  go_enter Tryz.func95,Tryz.ntmps95
  go_upto_region 1 with fail
  obtain ⟨W,hW⟩:∃ W:World,W=(w.alloc (.cells #[.slice An nn cn,.slice Aa na ca,.slice Af nf cf] 26)).alloc (.cells #[.int .i64 0,.int .i64 0,.int .i64 0,.slice none 0 0,.int .i64 0,.int .i64 0] 41):=⟨_,rfl⟩
  have Bw:Below w.heap.size w W:=by rw [hW];exact bA (bA (bR w) _) _
  have X4:Blk W (w.heap.size+1) 41 #[.int .i64 0,.int .i64 0,.int .i64 0,.slice none 0 0,.int .i64 0,.int .i64 0]:=by rw [hW];exact Blk.made (by simp) _ _
  rw [← hW]
  clear hW
  try clear X4l
  try clear X4a
  try clear X4b
  try clear X4c
  try clear X4d
  try clear X4e
  try clear X4f
  try clear X4fa
  try clear X4fb
  try clear X4fc
  try clear X4fd
  try clear X4fe
  try clear X4ff
  obtain ⟨X4l,X4a,X4b,X4c,X4d,X4e,X4f,X4fa,X4fb,X4fc,X4fd,X4fe,X4ff⟩:=X4.facts6
  go_wp2_with fail
  refine res_cell_tmp (g:=w.heap.size+1) (cs:=#[.int .i64 0,.int .i64 0,.int .i64 0,.slice none 0 0,.int .i64 0,.int .i64 0]) rfl struct_ar rfl rfl (Blk.put6 X4) ⟨none,0,0,rfl,?_⟩
  repeat (first | with_reducible exact bR _ | with_reducible assumption | with_reducible refine bA ?_ _ | with_reducible refine bD ?_ | with_reducible refine bN ?_ _ | ((with_reducible refine bS ?_ ?_ _);rotate_left;(simp;try omega)) | ((with_reducible refine bT ?_ ?_);rotate_left;with_reducible assumption) | with_reducible refine bT ?_ (by assumption))
 rw [arcD_max h0 h1] at TA
 have hb:=wfI_bd hd
 have k1:IntKind.i64.wrap (-d)=-d:=IntWalk.i64_in _ (by omega)
 have e0:(d == 0)=false:=by simpa using h0
 have e1:(d == -9223372036854775808)=false:=by simpa using h1
 have HA:=Lib.hid TA
 clear TA h0 h1 hd hb
 generalize arcD p d=r at *
 go_enter Tryz.func95,Tryz.ntmps95
 go_upto_region 1 with fail
 obtain ⟨W,hW⟩:∃ W:World,W=(w.alloc (.cells #[.slice An nn cn,.slice Aa na ca,.slice Af nf cf] 26)).alloc (.cells #[.int .i64 0,.int .i64 0,.int .i64 0,.slice none 0 0,.int .i64 0,.int .i64 0] 41):=⟨_,rfl⟩
 have Bw:Below w.heap.size w W:=by rw [hW];exact bA (bA (bR w) _) _
 have X4:Blk W (w.heap.size+1) 41 #[.int .i64 0,.int .i64 0,.int .i64 0,.slice none 0 0,.int .i64 0,.int .i64 0]:=by rw [hW];exact Blk.made (by simp) _ _
 have X2:Blk W w.heap.size 26 #[.slice An nn cn,.slice Aa na ca,.slice Af nf cf]:=by rw [hW];exact (Blk.made rfl _ _).alloc _
 rw [← hW]
 clear hW
 obtain ⟨X2l,X2a,X2b,X2c,-,-,-⟩:=X2.facts3
 go_wp2_with fail
 refine (HA.out _ Bw).mono ?_
 intro e w1 har
 obtain ⟨A1,c1,rfl,hb1,-⟩:=har.form
 have Bw:=bT Bw hb1
 replace X4:=X4.keep hb1
 clear har hb1 X2 X2l X2a X2b X2c
 try clear X4l
 try clear X4a
 try clear X4b
 try clear X4c
 try clear X4d
 try clear X4e
 try clear X4f
 try clear X4fa
 try clear X4fb
 try clear X4fc
 try clear X4fd
 try clear X4fe
 try clear X4ff
 obtain ⟨X4l,X4a,X4b,X4c,X4d,X4e,X4f,X4fa,X4fb,X4fc,X4fd,X4fe,X4ff⟩:=X4.facts6
 generalize hvl:(r.getD ar0).via.length=vl at *
 go_wp2_with fail
 refine res_cell_tmp (g:=w.heap.size+1) (cs:=#[.int .i64 (r.getD ar0).id,.int .i64 (r.getD ar0).fr,.int .i64 (r.getD ar0).dst,.slice A1 vl c1,.int .i64 (r.getD ar0).left,.int .i64 (r.getD ar0).right]) rfl struct_ar rfl rfl (Blk.put6 X4) ⟨A1,vl,c1,rfl,?_⟩
 repeat (first | with_reducible exact bR _ | with_reducible assumption | with_reducible refine bA ?_ _ | with_reducible refine bD ?_ | with_reducible refine bN ?_ _ | ((with_reducible refine bS ?_ ?_ _);rotate_left;(simp;try omega)) | ((with_reducible refine bT ?_ ?_);rotate_left;with_reducible assumption) | with_reducible refine bT ?_ (by assumption))

set_option maxRecDepth 100000 in
set_option maxHeartbeats 4000000 in
theorem wSide_spec (v:Value) (p:Pl) (d:Int) (w:World) (h:PlV w v p) (hs:ShortL p) (hd:wfI d):Calls Tryz.prog 64 #[v,.int .i64 d] w fun e w'=>e=.returned (.int .i64 (sideD p d))∧Below w.heap.size w w':=by
 have HA:=Lib.hid (fun W (hW:Below w.heap.size w W)=>arcOf_spec v p d W (h.mono hW) hs hd)
 obtain ⟨_,_,_,al,rfl,hpa,⟨An,cn,rfl,-⟩,⟨⟨Aa,ca,rfl,-⟩,-⟩,⟨Af,cf,rfl,-⟩⟩:=h
 unfold sideD
 generalize arcD p d=r at *
 generalize al.length=na at *
 generalize p.nodes.length=nn at *
 generalize p.faces.length=nf at *
 clear hpa hd hs
 go_enter Tryz.func64,Tryz.ntmps64
 go_wp2_with fail
 refine (HA.out _ (bA (bR w) _)).mono ?_
 rintro e w1 ⟨A1,n1,c1,rfl,hb1⟩
 have B1:=Lib.hid (bT (bA (bR w) _) hb1)
 clear hb1 HA
 cases r with
 | none =>
  simp only [Option.isSome_none]
  go_wp2_with fail
  go_ret
  exact ⟨rfl,bA B1.out _⟩
 | some a =>
  simp only [Option.isSome_some,Option.getD_some]
  by_cases hp:0<d
  ·
   go_wp2_with fail
   go_ret
   exact ⟨ret_int (by first | rfl | simp [hp]),bA B1.out _⟩
  ·
   go_wp2_with fail
   go_ret
   exact ⟨ret_int (by first | rfl | simp [hp]),bA B1.out _⟩

end Go.Proofs.YtnhdmghgjngcaaaGreat
namespace Go.Proofs.YtnhdmghgjngcaaaGreat
open Go.RowKit

theorem res_cell_tmp2 {P:Program} {fn:Func} {p u v:Tmp} {ty t:TypeId} {R:Ending→World→Prop} {a:Act} {w:World} {g:Nat} {cs:Array Value} (h:fn.results=#[.cell p ty,.tmp u,.tmp v])
  (hS:StructOf P ty cs.size) (hp:a.tmps.getD p undef=.pointer (some ⟨g,0,none⟩)) (hd:a.defers=[]) (hb:Blk w g t cs) (hR:R (.returned (.tuple #[.agg cs,a.tmps.getD u undef,a.tmps.getD v undef])) w):bodyPost P fn R .ret a w:=by
 obtain ⟨fs,h1,h3⟩:=hS
 refine bodyPost_ret ?_ hd hR
 have e1:=run_loadVar_row (P:=P) w g t ty cs (0,0) (.struct fs) hb h1 rfl h3
 have hp':a.tmps[p]?.getD undef=.pointer (some ⟨g,0,none⟩):=by simpa using hp
 simp only [results,h]
 simp [hp',asAddr,Sem.run_bind,Sem.run_pure,Result.andThen,e1]
end Go.Proofs.YtnhdmghgjngcaaaGreat
namespace Go.Proofs.YtnhdmghgjngcaaaGreat
open Go.RowKit

def crossG (a b:Pt):Int:=a.x*b.y-b.x*a.y
def twUp (P:List Pt):Nat→Int
 | 0=>0
 | k+1=>twUp P k+crossG (P.getD k pt0) (P.getD (k+1) pt0)
def twiceP (P:List Pt):Int:=twUp P (P.length-1)
def dartT (p:Pl) (d:Int):Int:=match arcD p d with
 | none=>0
 | some a=>if 0<d then twiceP (pathS p a) else -twiceP (pathS p a)
def twiceUp (p:Pl) (l:List Int):Nat→Int
 | 0=>0
 | k+1=>twiceUp p l k+dartT p (l.getD k 0)
def twiceD (p:Pl) (l:List Int):Int:=if l.length≤512∧(∀ d∈l,(arcD p d).isSome=true) then twiceUp p l l.length else 0

def big1 (p:Pt):Prop:=(-1048576≤p.x∧p.x≤1048576)∧(-1048576≤p.y∧p.y≤1048576)
theorem mul_big {u v:Int} (hu:-1048576≤u∧u≤1048576) (hv:-1048576≤v∧v≤1048576):-1099511627776≤u*v∧u*v≤1099511627776:=by
 have:=mul_bd u v 1048576 hu.1 hu.2 hv.1 hv.2
 simpa using this
theorem crossG_bd {a b:Pt} (ha:big1 a) (hb:big1 b):-2199023255552≤crossG a b∧crossG a b≤2199023255552:=by
 have h1:=mul_big ha.1 hb.2
 have h2:=mul_big hb.1 ha.2
 unfold crossG
 omega
theorem twUp_bd {P:List Pt} (h:∀ q∈P,big1 q) (k:Nat) (hk:k+1≤P.length∨k=0):-(2199023255552*(k:Int))≤twUp P k∧twUp P k≤2199023255552*(k:Int):=by
 induction k with
 | zero=>simp [twUp]
 | succ k ih =>
  have ih:=ih (by omega)
  have g:∀ j,j<P.length→big1 (P.getD j pt0):=fun j hj=>by
   rw [List.getD_eq_getElem?_getD,List.getElem?_eq_getElem hj]
   exact h _ (List.getElem_mem hj)
  have:=crossG_bd (g k (by omega)) (g (k+1) (by omega))
  rw [twUp]
  omega
theorem big_of {q:Pt} (h:ptOk q=true):big1 q:=by
 unfold ptOk at h
 simp only [Bool.and_eq_true,decide_eq_true_eq] at h
 unfold big1
 omega
theorem arcD_mem {p:Pl} {d:Int} {a:Ar} (e:arcD p d=some a):a∈p.arcs∧absI d=a.id:=by
 unfold arcD at e
 split at e
 · cases e
 · exact ⟨List.mem_of_find?_eq_some e,by have:=List.find?_some e;exact (show a.id=absI d by simpa using this).symm⟩
section
variable {p:Pl} (h:Valid p)
include h
theorem Valid.big_path {a:Ar} (ha:a∈p.arcs) {q:Pt} (hq:q∈pathS p a):big1 q:=by
 have hr:=h.rng
 unfold rangesS at hr
 simp only [Bool.and_eq_true,List.all_eq_true] at hr
 have key:∀ q∈pointsS p,big1 q:=fun q hq=>big_of (hr.2 q hq)
 unfold pathS at hq
 rcases List.mem_cons.1 hq with rfl | hq
 ·
  obtain ⟨n,hn,-,e⟩:=h.sound.at_fr ha
  rw [e];exact key _ (List.mem_append_left _ (List.mem_map_of_mem hn))
 ·
  rcases List.mem_append.1 hq with hq | hq
  · exact key _ (List.mem_append_right _ (List.mem_flatMap.2 ⟨a,ha,hq⟩))
  ·
   rw [List.mem_singleton] at hq
   subst hq
   obtain ⟨n,hn,-,e⟩:=h.sound.at_dst ha
   rw [e];exact key _ (List.mem_append_left _ (List.mem_map_of_mem hn))
theorem Valid.via_len {a:Ar} (ha:a∈p.arcs):a.via.length≤64:=by
 have hl:=h.lim
 unfold limS at hl
 rw [Bool.or_eq_false_iff,List.any_eq_false] at hl
 have:=hl.1 a ha
 simpa using this
theorem Valid.twice_bd {a:Ar} (ha:a∈p.arcs) (k:Nat) (hk:k+1≤(pathS p a).length):-142936511610880≤twUp (pathS p a) k∧twUp (pathS p a) k≤142936511610880:=by
 have h1:=twUp_bd (P:=pathS p a) (fun q hq=>h.big_path ha hq) k (.inl hk)
 have h2:=h.via_len ha
 have h3:=pathS_length p a
 omega
theorem Valid.dartT_bd (d:Int):-142936511610880≤dartT p d∧dartT p d≤142936511610880:=by
 unfold dartT
 cases e:arcD p d with
 | none=>simp
 | some a =>
  have ha:=(arcD_mem e).1
  have h3:=pathS_length p a
  have:=h.twice_bd ha ((pathS p a).length-1) (by omega)
  unfold twiceP
  simp only []
  split<;>omega
theorem Valid.twiceUp_bd (l:List Int) (k:Nat):-(142936511610880*(k:Int))≤twiceUp p l k∧twiceUp p l k≤142936511610880*(k:Int):=by
 induction k with
 | zero=>simp [twiceUp]
 | succ k ih =>
  have:=h.dartT_bd (l.getD k 0)
  rw [twiceUp]
  omega
end
end Go.Proofs.YtnhdmghgjngcaaaGreat
