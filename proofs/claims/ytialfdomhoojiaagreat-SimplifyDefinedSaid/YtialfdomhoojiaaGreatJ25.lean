import Derived.Test.YtialfdomhoojiaaGreatJ24
set_option linter.unusedSimpArgs false
set_option linter.unusedVariables false
set_option maxRecDepth 100000
set_option maxHeartbeats 8000000
namespace Go.Proofs.YtialfdomhoojiaaGreat
open Go.RowKit
theorem aqK {P:List Pt} {k:Nat} (hk:k<P.length):P.reverse.take (k+1)=P.reverse.take k++[P[P.length-1-k]'(by omega)]:=by
 rw [avH (by simpa using hk),List.getElem_reverse]
theorem ahW (v:Value) (p:Pl) (d:Int) (w:World) (h:bQ w v p) (hv:Valid p) (hd:d∈bf p):Calls Tryz.prog 84 #[v,.int .i64 d] w (Ie w (qC p d)):=by
 have hbd:=hv.tZ hd;obtain ⟨a,ha,hor,hpt⟩:=hv.KU hd;have hid:=hv.kC ha;have hai:iJ d=a.id:=by unfold iJ;rcases hor with rfl | rfl<;>split<;>omega
 have hpo:=hv.sound.path ha;have yj:=avE (fun W=>ab3 d W Pe);have kM:=avE (fun W (hW:Below w.heap.size w W)=>Zv v p (iJ d) W (h.mono hW) hv.short);rw [hai,hpo] at kM;rw [hai] at yj;unfold Kq at kM;simp only [avU,Option.isSome_some,if_true] at kM;have hq:qC p d=if 0<d then au p a else (au p a).reverse:=by unfold qC;rw [hpt]
 rw [hq];have Ee:=hv.FT ha;have hpl:2<=(au p a).length/\(au p a).length<=66:=by have:=ig p a;omega
 obtain ⟨_,_,_,al,rfl,hpa,⟨An,cn,rfl,-⟩,⟨⟨Aa,ca,rfl,-⟩,-⟩,⟨Af,cf,rfl,-⟩⟩:=h;clear hpa hv hor hpt hpo hai hq Ee ha hd;generalize p.nodes.length=nn at *;generalize al.length=na at *;generalize p.faces.length=nf at *;generalize a.id=ai at *;generalize au p a=P at *;go_enter Tryz.func84,Tryz.ntmps84;go_upto_region 1 with fail;obtain ⟨W1,hW⟩:∃ W:World,W=w.alloc (.cells #[.slice An nn cn,.slice Aa na ca,.slice Af nf cf] 26):=⟨_,rfl⟩;have X1:ah W1 w.heap.size 26 #[.slice An nn cn,.slice Aa na ca,.slice Af nf cf]:=by rw [hW];exact ah.made rfl _ _
 have HB1:=avE (show Below w.heap.size w W1 by rw [hW];exact bA (bR w) _);rw [<- hW];clear hW;have hz1:=HB1.out.size;obtain ⟨aS,aT,aU,aW,-,-,-⟩:=X1.aF;refine dH (W1) (.take 0 1 (.take 1 3 (.call 2 7 (.call 3 15 (.run 5 4 15 (.done)))))) fun bZ QR aB aH hS=>?_
 iterate 2 refine aC ?_
 refine fV (yj.out _) ?_;clear hS;intro cZ bW hS;refine bK ?_;clear hS;intro K hK ak;go_simp;refine (kM.out _ (bT HB1.out ak.out)).mono ?_;rintro e wr2 ⟨A,c,rfl,iW,ho⟩;have hS:Since W1 wr2:=bT (w:=W1) ak.out iW;clear ak;refine hK.out _ _ hS (fun _=>?_);clear hK K
 try simp only [pu]
 iterate 5 refine aC ?_
 refine dB ?_;clear hS aH aB;intro hB;have HB2:=avE (bT HB1.out hB);have hz3:w.heap.size<=cZ.heap.size:=by have h1:=(bD (bR W1)).size;have h2:=bW.size;have:=HB1.out.size;omega
 have HO:=avE (ho.fG hz3);clear hB bW iW ho X1 aS aT aU aW HB1 kM yj hz3;by_cases h0:0<d
 ·rw [if_pos h0];go_wp2;go_ret;exact ⟨A,c,rfl,HB2.out,HO.out⟩
 ·rw [if_neg h0];have yB:=avE (fun k (hk:k<P.length)=>aqK hk);go_upto_block 0 with fail;go_wp2_with fail;go_loopw [7,8] (fun s i wr=>∃ k:Nat,k<=P.length/\i=.int .i64 ((P.length:Int)-1-k)/\(∃ A c,s=.slice A k c)/\Own wr wr2.heap.size 39 2 dU s (P.reverse.take k)/\Below wr2.heap.size wr2 wr) (fun _ i _=>(intOf i+1).toNat)
  case atStart => exact ⟨0,avK _,by simp,⟨none,0,rfl⟩,Own.nil _ _ _ _ _,bR wr2⟩
  case round =>
   obtain ⟨k,hk,rfl,⟨A3,c3,rfl⟩,ho3,hb3⟩:=hrel;have gY:=avE ho3;have HB3:=avE hb3;clear ho3 hb3;by_cases hlt:k<P.length
   ·have hsu:=yB.out k hlt;obtain ⟨b,o,rfl,hlb,c0,c1⟩:=((HO.out.keep HB3.out).row_of).pt (k:=P.length-1-k) Pe;have ek:((P.length-1-k:Nat):Int)=(P.length:Int)-1-k:=by omega
    have hi1:((P.length:Int)-1-k).toNat=P.length-1-k:=by omega
    generalize P[P.length-1-k]'_=pt at *;have aqL:=avE hsu;have HT:=avE (show (P.reverse.take k).length=k by rw [awk,List.length_reverse];omega);have HT1:=avE (show (P.reverse.take (k+1)).length=k+1 by rw [awk,List.length_reverse];omega);clear hsu;obtain ⟨m,hm⟩:∃ m:Nat,m=P.length-1-k:=⟨_,rfl⟩;have zo:(P.length:Int)-1-k=m:=by omega
    rw [<- hm] at c0 c1;rw [zo];have Hmi:=avE zo;have an2:m<P.length:=by omega
    clear ek hi1 hm zo;have k1:(m:Int)<P.length:=by omega
    have k2:0<=(m:Int):=by omega
    go_upto_region 7 with
     (at_builtin
      refine iZ _ rfl (.tmp 26) (.tmp 31) _ rfl (base:=wr2.heap.size) ng jS ni rfl (Own.alloc gY.out _) rfl (l2:=[pt]) (Sl.lit (n:=1) (ah.made rfl _ _) rfl (dP Pe)) (by have:=HT.out;simp only [avO,avN];omega) (by have:=HT.out;simp only [avO,avN];omega) (by have:=HB3.out.size;simp;omega) ?_;intro v4 w4 jI hg4 UH;rw [<- aqL.out] at jI;obtain ⟨A4,c4,hv4,-⟩:=Own.lI jI;rw [HT1.out] at hv4;subst hv4;have kP:=avE jI;have HB4:=avE (bG (bA HB3.out _) hg4 (fun g hg=>(gY.out.lt g hg).1));clear jI hg4 UH
      )
    clear c0 c1 hlb;go_wp2;go_roundw
    case rel => exact ⟨k+1,by omega,by rw [show (P.length:Int)-1-((k+1:Nat):Int)=(m:Int)-1 by have:=Hmi.out;omega];try go_num,⟨A4,c4,rfl⟩,kP.out,HB4.out⟩
    case measure => have:=Hmi.out;simp [intOf];try omega
   ·have hkk:k=P.length:=by omega
    have ho:=gY.out;rw [show P.reverse.take k=P.reverse by rw [List.take_of_length_le arV]] at ho;have yI:=avE (ho.fG HB2.out.size);have h1:(P.length:Int)-1-k=-1:=by omega
    rw [h1];clear ho h1;go_wp2;go_ret;exact ⟨A3,c3,by rw [List.length_reverse,<- hkk];rfl,bT HB2.out HB3.out,by rw [List.length_reverse,<- hkk];exact yI.out⟩
theorem aqM (v:Pt) (l m:List (Pt×Pt)):yw v (l++m)=m.foldl (uP v) (yw v l):=by unfold yw;rw [List.foldl_append]
theorem aqN (p:Pl) {X:List Int} {k:Nat} (hk:k<X.length):vw p (X.take (k+1))=vw p (X.take k)++lW (qC p X[k]):=by
 unfold vw;rw [avH hk,List.flatMap_append];simp
theorem aqO {p:Pl} {X:List Int} {v:Pt} {q:Pt×Pt} (hq:q∈vw p X) (h:dQ q.1 q.2 v=true):encS p X v=false:=by
 rw [<- ahS];unfold Xe;rw [Vy];have:((vw p X).any fun q=>dQ q.1 q.2 v)=true:=awg.2 ⟨q,hq,h⟩
 rw [this];rfl
theorem aqP {p:Pl} {X:List Int} {v:Pt} {o:Bool} (h:yw v (vw p X)=(false,o)):encS p X v=o:=by
 rw [<- ahS];unfold Xe;rw [h];simp
theorem aqQ {v:Pt} {o:Bool} {q:Pt×Pt} (h:dQ q.1 q.2 v=false):uP v (false,o) q=(false,if nK v q.1 q.2=true then !o else o):=by
 unfold uP;rw [if_neg (by rw [h];decide)];split<;>rfl
theorem aqR {v a b lo hi:Pt} (h:(b.y<a.y/\lo=b/\hi=a)\/(¬ b.y<a.y/\lo=a/\hi=b)):nK v a b=decide (lo.y<=v.y/\v.y<hi.y/\0<tw lo hi v):=by
 rcases h with ⟨c,rfl,rfl⟩ | ⟨c,rfl,rfl⟩
 ·rw [ahQ];unfold nK;rw [decide_eq_decide];omega
 ·unfold nK;rw [decide_eq_decide];omega
section
variable {p:Pl} (h:Valid p)
include h
theorem Valid.aqS {d:Int} (hd:d∈bf p) {q:Pt} (hq:q∈qC p d):aZ q=true:=by
 obtain ⟨a,ha,-,hpt⟩:=h.KU hd;refine h.aeN ha ?_;unfold qC at hq;rw [hpt] at hq;split at hq
 · exact hq
 · exact List.mem_reverse.1 hq
theorem Valid.ab5 {d:Int} (hd:d∈bf p):2<=(qC p d).length/\(qC p d).length<=66:=by
 obtain ⟨a,ha,-,hpt⟩:=h.KU hd;have h1:=h.FT ha;have h2:=ig p a;unfold qC;rw [hpt];split
 · omega
 · rw [List.length_reverse];omega
end
theorem aqT (v vc:Value) (p:Pl) (X:List Int) (at_:Pt) (w:World) (h:bQ w v p) (hv:Valid p) (hX:Ints w vc X) (hd:∀ d∈X,d∈bf p) (hl:X.length<=1000) (nv:aZ at_=true) :
  Calls Tryz.prog 198 #[v,vc,aK at_] w fun e w'=>e=.returned (.bool (encS p X at_))/\Below w.heap.size w w':=by
 have oI:=avE (fun d (hd:d∈bf p) W (hW:Below w.heap.size w W)=>ahW v p d W (h.mono hW) hv hd);have RF:=avE hd;have HV:=avE hv;have GL:=avE nv;have yB:=avE (fun k (hk:k<X.length)=>aqN p hk);have yJ:=avE (fun q (hq:q∈vw p X) hon=>aqO (p:=p) (X:=X) (v:=at_) (q:=q) hq hon);have KZ:=avE (fun k (hk:k<X.length) q (hq:q∈lW (qC p X[k]))=>show q∈vw p X from List.mem_flatMap.2 ⟨_,avF hk,hq⟩);have VB:=avE (fun o h=>aqP (p:=p) (X:=X) (v:=at_) (o:=o) h);obtain ⟨R,hR⟩:∃ R,encS p X at_=R:=⟨_,rfl⟩;rw [hR] at yJ VB ⊢;obtain ⟨Ac,cc,rfl,hc1,hc2,uf⟩:=hX;unfold maxLen at hc2;obtain ⟨_,_,_,al,rfl,hpa,⟨An,cn,rfl,-⟩,⟨⟨Aa,ca,rfl,-⟩,-⟩,⟨Af,cf,rfl,-⟩⟩:=h;have zK:=avE uf;clear hpa hv hd uf hR nv;generalize p.nodes.length=nn at *;generalize al.length=na at *;generalize p.faces.length=nf at *;unfold aK;go_enter Tryz.func198,Tryz.ntmps198;go_upto_block 0 with fail;obtain ⟨W1,hW⟩:∃ W:World,W=(w.alloc (.cells #[.slice An nn cn,.slice Aa na ca,.slice Af nf cf] 26)).alloc (.cells #[.int .i64 at_.x,.int .i64 at_.y] 39):=⟨_,rfl⟩;have gq:=avE (show ah W1 w.heap.size 26 #[.slice An nn cn,.slice Aa na ca,.slice Af nf cf] by rw [hW];exact (ah.made rfl _ _).alloc _);have dh:=avE (show ah W1 (w.heap.size+1) 39 #[.int .i64 at_.x,.int .i64 at_.y] by rw [hW];exact ah.made ars _ _);have HB1:=avE (show Below w.heap.size w W1 by rw [hW];exact bA (bA (bR w) _) _);rw [<- hW];clear hW;go_wp2_with fail;go_loopw [7,8] (fun s i wr=>∃ (k:Nat) (o:Bool),k<=X.length/\i=.int .i64 k/\s=.bool o/\yw at_ (vw p (X.take k))=(false,o)/\Below W1.heap.size W1 wr) (fun _ i _=>X.length-(intOf i).toNat)
 case atStart => exact ⟨0,false,avK _,rfl,rfl,rfl,bR W1⟩
 case round =>
  obtain ⟨k,o,hk,rfl,rfl,he,hb⟩:=hrel;obtain ⟨wo,rfl⟩:∃ wo:World,wo=wr:=⟨_,rfl⟩;have HE:=avE he;have HB:=avE hb;clear he hb;by_cases hlt:k<X.length
  ·obtain ⟨b,ofs,rfl,hlb,c0⟩:=(zK.out.mono (bT HB1.out HB.out)).int hlt;have hdm:=RF.out _ (avF hlt);have hsu:=yB.out k hlt;have hmem:=KZ.out k hlt;generalize X[k]=d at *;have FZ:=fun q (hq:q∈qC p d)=>HV.out.aqS hdm hq;have hlen:=HV.out.ab5 hdm;have Jb:=avE (oI.out d hdm);obtain ⟨P,hP⟩:∃ P,qC p d=P:=⟨_,rfl⟩;rw [hP] at hsu hmem FZ hlen Jb;have HSk:=avE hsu;have JM:=avE hmem;have SQ:=avE FZ;have X1:=gq.out.keep HB.out;have k1:(k:Int)<X.length:=by omega
   have k2:0<=(k:Int):=by omega
   clear hdm hsu hmem FZ hP;obtain ⟨aS,aT,aU,aW,-,-,-⟩:=X1.aF;go_upto_region 5 with fail;refine dH (wo) (.run 5 0 0 (.call 5 63 (.take 6 127 (.done)))) fun bZ QR aB aH hS=>?_
   iterate 5 refine aC ?_
   refine bK ?_;clear hS;intro K hK ak;go_simp;refine (Jb.out _ (bT (bT HB1.out HB.out) ak.out)).mono ?_;rintro e cZ ⟨A,c,rfl,bW,ho⟩;have hS:Since wo cZ:=bT (w:=wo) ak.out bW;clear ak;refine hK.out _ _ hS (fun _=>?_);clear hK K
   try simp only [pu]
   refine aC ?_;refine dB ?_;clear hS aH aB;intro hB;obtain ⟨W3,hW3⟩:∃ W:World,W=cZ:=⟨_,rfl⟩;rw [<- hW3] at hB ho bW ⊢;have ab6:=avE hB;have RG:=avE ho.row_of;have hz3:=ab6.out.size;clear hB ho bW hW3 X1 aS aT aU aW c0 hlb Jb;go_upto_block 2 with fail;go_wp2_with fail;go_loopw [7,10] (fun s i wr=>∃ (j:Nat) (o2:Bool),1<=j/\j<=P.length/\i=.int .i64 j/\s=.bool o2/\((lW P).take (j-1)).foldl (uP at_) (false,o)=(false,o2)/\Below W3.heap.size W3 wr) (fun _ i _=>P.length-(intOf i).toNat)
   case atStart => exact ⟨1,o,awe _,by omega,rfl,rfl,rfl,bR W3⟩
   case round =>
    obtain ⟨j,o2,hj1,hj2,rfl,rfl,he2,hb2⟩:=hrel;obtain ⟨wp,rfl⟩:∃ wp:World,wp=wr:=⟨_,rfl⟩;have HE2:=avE he2;have HB2:=avE hb2;clear he2 hb2;by_cases hlj:j<P.length
    ·obtain ⟨m,rfl⟩:∃ m,j=m+1:=⟨j-1,by omega⟩;have hmp:m<P.length:=by omega
     have hq:=JM.out (P.getD m aA,P.getD (m+1) aA) (av6.2 ⟨m,List.mem_range.2 Pe,rfl⟩);have htk:=agX hlj;have hee:=HE2.out;rw [show m+1-1=m by omega] at hee;have ea:P.getD m aA=P[m]:=by simp only [avT,avG hmp,avU]
     have eb:P.getD (m+1) aA=P[m+1]:=by simp only [avT,avG hlj,avU]
     rw [ea,eb] at hq htk;have na:=SQ.out _ (avF hmp);have nb:=SQ.out _ (avF hlj);obtain ⟨bp,op,rfl,hlp,e10,e11⟩:=(RG.out.mono HB2.out).pt hmp;obtain ⟨bp',op',JC,-,e20,e21⟩:=(RG.out.mono HB2.out).pt hlj;injection JC with JC;injection JC with y1 y2 _;subst y1 y2;generalize P[m]=a at *;generalize P[m+1]=b2 at *;have jf:=avE htk;have HQ:=avE hq;have Ox:=avE hee;have HGo:=avE (fun W=>aqG a b2 at_ W (by simp [eu,na,nb,GL.out]));have zV:=avE na;have HNb:=avE nb;clear htk hq hee ea eb na nb HE2;unfold aK at HGo;have kw:IntKind.i64.wrap ((m:Int)+1-1)=(m:Int):=by rw [avS _ Pe];omega
     have V8:IntKind.i64.wrap (m:Int)=(m:Int):=avS _ Pe;have k3:(m:Int)<P.length:=by omega
     have k4:0<=(m:Int):=by omega
     have k5:(m:Int)+1<P.length:=by omega
     have k6:0<=(m:Int)+1:=by omega
     have k7:IntKind.i64.wrap ((m:Int)+1)=(m:Int)+1:=avS _ Pe;go_upto_region 9 with fail;go_cut [11,12] (fun u v wx=>∃ ga gb,u=.pointer (some ⟨ga,0,none⟩)/\v=.pointer (some ⟨gb,0,none⟩)/\ah wx ga 39 #[.int .i64 a.x,.int .i64 a.y]/\ah wx gb 39 #[.int .i64 b2.x,.int .i64 b2.y]/\ga≠gb/\wp.heap.size<=ga/\wp.heap.size<=gb/\Below wp.heap.size wp wx)
     case first =>
      refine Ah (wp.heap.size) (wp) (.run 9 0 0 (.two 9 1023 (.call 10 2047 (.call 11 4095 (.call 12 8191 (.done)))) 10 1535 (.call 9 2047 (.call 11 4095 (.call 12 8191 (.done)))))) fun bZ QR aB aH hS=>?_
      iterate 9 refine aC ?_
      refine yX (i:=9) (j:=10) (eP aB rfl) (eP aB rfl) (fun K hK=>?_) (fun K hK=>?_)
      ·have ak:=avE hS;clear hS;refine fK (fJ rfl) ?_;go_simp;refine hK.out _ _ (fE Pe ak.out _) (fun hS=>?_);clear hK K ak
       try simp only [pu]
       refine bK ?_;clear hS;intro K hK ak;go_simp;refine hK.out _ _ (fE Pe ak.out _) (fun hS=>?_);clear hK K ak
       try simp only [pu]
       refine bK ?_;clear hS;intro K hK ak;go_simp;refine hK.out _ _ (by unfold fM;have h:Below _ _ _:=ak.out;repeat (first | with_reducible assumption | with_reducible exact Below.refl _ _ | with_reducible refine jv ?_ arS _ | with_reducible refine Below.drew ?_ | with_reducible refine fE Pe ?_ _ | exact h)) ?_;intro hS;clear hK K ak
       try simp only [pu]
       refine bK ?_;clear hS;intro K hK ak;go_simp;refine hK.out _ _ (by unfold fM;have h:Below _ _ _:=ak.out;repeat (first | with_reducible assumption | with_reducible exact Below.refl _ _ | with_reducible refine jv ?_ arS _ | with_reducible refine Below.drew ?_ | with_reducible refine fE Pe ?_ _ | exact h)) ?_;intro hS;clear hK K ak
       try simp only [pu]
       refine o8 ?_;clear hS aH aB;intro hB;go_wp2;go_meet
       case rel => first | exact ⟨_,_,rfl,rfl,((ah.made rfl _ _).alloc _).drew,(ah.made ars _ _).drew,by omega,by omega,by omega,hB⟩ | exact ⟨_,_,rfl,rfl,(ah.made ars _ _).drew,((ah.made rfl _ _).alloc _).drew,by omega,by omega,by omega,hB⟩
      ·have ak:=avE hS;clear hS;refine fK (fJ rfl) ?_;go_simp;refine hK.out _ _ (fE Pe ak.out _) (fun hS=>?_);clear hK K ak
       try simp only [pu]
       refine bK ?_;clear hS;intro K hK ak;go_simp;refine hK.out _ _ (fE Pe ak.out _) (fun hS=>?_);clear hK K ak
       try simp only [pu]
       refine bK ?_;clear hS;intro K hK ak;go_simp;refine hK.out _ _ (by unfold fM;have h:Below _ _ _:=ak.out;repeat (first | with_reducible assumption | with_reducible exact Below.refl _ _ | with_reducible refine jv ?_ arS _ | with_reducible refine Below.drew ?_ | with_reducible refine fE Pe ?_ _ | exact h)) ?_;intro hS;clear hK K ak
       try simp only [pu]
       refine bK ?_;clear hS;intro K hK ak;go_simp;refine hK.out _ _ (by unfold fM;have h:Below _ _ _:=ak.out;repeat (first | with_reducible assumption | with_reducible exact Below.refl _ _ | with_reducible refine jv ?_ arS _ | with_reducible refine Below.drew ?_ | with_reducible refine fE Pe ?_ _ | exact h)) ?_;intro hS;clear hK K ak
       try simp only [pu]
       refine o8 ?_;clear hS aH aB;intro hB;go_wp2;go_meet
       case rel => first | exact ⟨_,_,rfl,rfl,((ah.made rfl _ _).alloc _).drew,(ah.made ars _ _).drew,by omega,by omega,by omega,hB⟩ | exact ⟨_,_,rfl,rfl,(ah.made ars _ _).drew,((ah.made rfl _ _).alloc _).drew,by omega,by omega,by omega,hB⟩
     case rest =>
      obtain ⟨ga,gb,rfl,rfl,xa,xb,Xj,hga,hgb,hb4⟩:=hcut;have Xk:=avE xa;have HXb:=avE xb;have HB4:=avE (bT HB2.out hb4);have iT:=avE (bT HB.out (bT ab6.out (bT HB2.out hb4)));have X2:=dh.out.keep iT.out;have Gy:=avE X2;have MB:=hb4.size;clear hb4 e10 e11 e20 e21 hlp kw V8 k3 k4 k5 k6;obtain ⟨aG,aI,aJ,-,-⟩:=X2.aQ;obtain ⟨Xl,Xm,Xn,-,-⟩:=xa.aQ;obtain ⟨Xo,Xp,Xq,-,-⟩:=xb.aQ;go_wp2_with fail;refine (HGo.out _).mono ?_;rintro e w5 ⟨rfl,hb5⟩;obtain ⟨on,hon⟩:∃ on,dQ a b2 at_=on:=⟨_,rfl⟩;rw [hon];have Gh:=avE hon;have bC:=avE (bT HB4.out hb5);have aqU:=avE (bT iT.out hb5);have ab7:=avE (Xk.out.keep hb5);have ab8:=avE (HXb.out.keep hb5);have Gz:=avE (Gy.out.keep hb5);have zG:=hb5.size;clear hb5 xa Xl Xm Xn xb Xo Xp Xq X2 aG aI aJ Xk HXb Gy HGo hon HB4 iT
      cases on
      case true =>
       have HF:=avE (yJ.out (a,b2) HQ.out Gh.out);go_wp2;go_ret;exact ⟨aY HF.out.symm,bT HB1.out aqU.out⟩
      case false =>
       have hst:=aqQ (v:=at_) (o:=o2) (q:=(a,b2)) Gh.out;obtain ⟨lo,hi,hlh⟩:∃ lo hi:Pt,(b2.y<a.y/\lo=b2/\hi=a)\/(¬ b2.y<a.y/\lo=a/\hi=b2):=by
        by_cases c:b2.y<a.y
        · exact ⟨b2,a,.inl ⟨c,rfl,rfl⟩⟩
        · exact ⟨a,b2,.inr ⟨c,rfl,rfl⟩⟩
       rw [aqR hlh] at hst;have hlm:lim lo/\lim hi:=by
        rcases hlh with ⟨-,rfl,rfl⟩ | ⟨-,rfl,rfl⟩
        · exact ⟨Aj HNb.out,Aj zV.out⟩
        · exact ⟨Aj zV.out,Aj HNb.out⟩
       have fU:=avE hst;have ab9:=fun W=>ahT lo hi at_ W hlm.1 hlm.2 (Aj GL.out);unfold aK at ab9;have Xr:=avE ab9;clear ab9 hst hlm;have X2:=Gz.out;have xa:=ab7.out;have xb:=ab8.out
       try clear aG
       try clear aI
       try clear aJ
       obtain ⟨aG,aI,aJ,-,-⟩:=X2.aQ
       try clear Xl
       try clear Xm
       try clear Xn
       obtain ⟨Xl,Xm,Xn,aqV,aqW⟩:=xa.aQ
       try clear Xo
       try clear Xp
       try clear Xq
       obtain ⟨Xo,Xp,Xq,aqX,aqY⟩:=xb.aQ;go_upto_if 48 with fail;go_cut [] (fun wx=>ah wx ga 39 #[.int .i64 lo.x,.int .i64 lo.y]/\ah wx gb 39 #[.int .i64 hi.x,.int .i64 hi.y]/\ah wx (w.heap.size+1) 39 #[.int .i64 at_.x,.int .i64 at_.y]/\Below W3.heap.size W3 wx)
       case first =>
        have auS:w.heap.size+1<W1.heap.size:=dh.out.lt;have hzw:=HB.out.size;have hz8:=HB2.out.size;have n1:w.heap.size+1≠ga:=by omega
        have n2:w.heap.size+1≠gb:=by omega
        rcases hlh with ⟨c,rfl,rfl⟩ | ⟨c,rfl,rfl⟩
        ·go_wp2;go_meet
         case rel =>
          refine ⟨?_,?_,?_,?_⟩
          ·have h:=(((xa.fF 0 (.int .i64 lo.x)).fF 1 (.int .i64 lo.y)).far (p:=⟨gb,0,none⟩) Xj (.int .i64 hi.x)).far (p:=⟨gb,1,none⟩) Xj (.int .i64 hi.y);simpa using h
          ·have h:=((xb.far (p:=⟨ga,0,none⟩) (fun e=>Xj e.symm) (.int .i64 lo.x)).far (p:=⟨ga,1,none⟩) (fun e=>Xj e.symm) (.int .i64 lo.y)).fF 0 (.int .i64 hi.x);have h:=h.fF 1 (.int .i64 hi.y);simpa using h
          · exact (((X2.far (p:=⟨ga,0,none⟩) n1 (.int .i64 lo.x)).far (p:=⟨ga,1,none⟩) n1 (.int .i64 lo.y)).far (p:=⟨gb,0,none⟩) n2 (.int .i64 hi.x)).far (p:=⟨gb,1,none⟩) n2 (.int .i64 hi.y)
          · exact bS (bS (bS (bS bC.out (p:=⟨ga,0,none⟩) arV _) (p:=⟨ga,1,none⟩) arV _) (p:=⟨gb,0,none⟩) arV _) (p:=⟨gb,1,none⟩) arV _
        ·go_wp2;go_meet
         case rel => exact ⟨ab7.out,ab8.out,Gz.out,bC.out⟩
       case rest =>
        obtain ⟨ya,yb,y2,hb6⟩:=hcut;have jq:=avE hb6;have oD:=avE (fun (o3:Bool) (h3:(if decide (lo.y<=at_.y/\at_.y<hi.y/\0<tw lo hi at_)=true then !o2 else o2)=o3)=>show ((lW P).take (m+1)).foldl (uP at_) (false,o)=(false,o3) by rw [jf.out,List.foldl_append,Ox.out];show uP at_ (false,o2) (a,b2)=_;rw [fU.out,h3]);clear hb6 X2 aG aI aJ xa Xl Xm Xn aqV aqW xb Xo Xp Xq aqX aqY ab7 ab8 Gz bC fU hlh;obtain ⟨yal,yaa,yab,-,-⟩:=ya.aQ;obtain ⟨ybl,yba,ybb,-,-⟩:=yb.aQ;obtain ⟨y2l,y2a,y2b,-,-⟩:=y2.aQ;by_cases c1:lo.y<=at_.y
        ·by_cases c2:at_.y<hi.y
         ·go_wp2_with fail;refine (Xr.out _).mono ?_;rintro e w7 ⟨rfl,hb7⟩;have gW:=avE (bT jq.out hb7);have hp:=aqE (a:=lo) (b:=hi) (c:=at_);clear hb7 ya yal yaa yab yb ybl yba ybb y2 y2l y2a y2b Xr;generalize GK lo hi at_=gs at *;by_cases c3:0<gs
          ·have yG:=avE (oD.out (!o2) (by rw [if_pos (by simp only [avQ];exact ⟨c1,c2,hp.1 c3⟩)]));clear hp
           cases o2
           all_goals
            go_wp2;go_roundw
            case rel => exact ⟨m+1+1,_,by omega,by omega,by go_num,rfl,yG.out,gW.out⟩
            case measure => simp [intOf];omega
          ·have yG:=avE (oD.out o2 (by rw [if_neg (by simp only [avQ];exact fun h=>c3 (hp.2 h.2.2))]));clear hp;go_wp2;go_roundw
           case rel => exact ⟨m+1+1,_,by omega,by omega,by go_num,rfl,yG.out,gW.out⟩
           case measure => simp [intOf];omega
         ·have yG:=avE (oD.out o2 (by rw [if_neg (by simp only [avQ];exact fun h=>c2 h.2.1)]));go_wp2;go_roundw
          case rel => exact ⟨m+1+1,_,by omega,by omega,by go_num,rfl,yG.out,jq.out⟩
          case measure => simp [intOf];omega
        ·have yG:=avE (oD.out o2 (by rw [if_neg (by simp only [avQ];exact fun h=>c1 h.1)]));go_wp2;go_roundw
         case rel => exact ⟨m+1+1,_,by omega,by omega,by go_num,rfl,yG.out,jq.out⟩
         case measure => simp [intOf];omega
    ·have hjj:j=P.length:=by omega
     have hee:=HE2.out;rw [List.take_of_length_le (by rw [Xd];omega)] at hee;have HF:=avE (show yw at_ (vw p (X.take (k+1)))=(false,o2) by rw [HSk.out,aqM,HE.out];exact hee);clear hee hjj;go_wp2;go_roundw
     case rel => exact ⟨k+1,o2,by omega,by go_num,rfl,HF.out,bT HB.out (bT ab6.out HB2.out)⟩
     case measure => simp [intOf];omega
  ·have hkk:k=X.length:=by omega
   have hee:=HE.out;rw [hkk,List.take_length] at hee;have hf:=VB.out o hee;rw [<- hf];clear hee hkk;go_wp2;go_ret;exact ⟨rfl,bT HB1.out HB.out⟩
end Go.Proofs.YtialfdomhoojiaaGreat
