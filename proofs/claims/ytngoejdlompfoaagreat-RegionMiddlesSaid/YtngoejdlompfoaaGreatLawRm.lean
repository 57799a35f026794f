import Derived.Test.YtngoejdlompfoaaGreatJ28
set_option linter.unusedSimpArgs false
set_option linter.unusedVariables false
set_option maxRecDepth 100000
set_option maxHeartbeats 8000000
namespace Go.Proofs.YtngoejdlompfoaaGreat
open Go.RowKit Tryz
theorem axo(v:Value)(p:Pl)(f:Int)(w:World)(h:Cj w v p):Calls prog 41 #[v,.int .i64 f] w λe w'=>e=.returned (XM<|V6 p f)/\AU w w':=by
 unfold V6;by_cases hz:Fa p=0;.rw[AX<|by rw[hz];simp];exact adU v p f w h hz
 rw[AZ hz];exact ayR v p f w h hz
theorem axp{p:Pl}{f:Int}{v:Pt}(h:V6 p f=some v):RH p v=(0,f,0):=by
 unfold V6 at h;by_cases hz:Fa p=0;.rw[AX<|by rw[hz];simp]at h;obtain⟨hv,c⟩:=QA hz;have o:=uZ.1 c;obtain⟨X,s,j,hk⟩:=hv.aug h;obtain⟨z,C⟩:=ZP s;rw[av9 hz hk,(hv.aje o z<|aEh hk).2 j,C]
 rw[AZ hz]at h;cases h
theorem amT(v:Value)(p:Pl)(f:Int)(w:World)(h:Cj w v p)(hs:ZU p):Calls prog 11 #[v,.int .i64 f] w λe w'=>e=.returned (.bool true)/\AU w w':=by
 obtain⟨HLt,MO,KH,Un,HAw⟩:=G9 (λW(hW:AU w W)=>axn v p W (h.mono hW)<|λa ha=>Du (hs a ha) I) (λW(hW:AU w W)=>axo v p f W<|h.mono hW) (λW(hW:AU w W)=>ayb v p f W<|h.mono hW) (λu(hu:V6 p f=some u)W(hW:AU w W)=>axp hu▸aja v p u W (h.mono hW)) ay7;obtain⟨An,cn,Aa,ca,Af,cf,rfl⟩:=h.form;clear h hs;generalize p.nodes.length=nn at*;generalize p.AP.length=na at*;generalize p.faces.length=nf at*;unfold BD aC1 at Un;simp only at Un;generalize V6 p f=R at*;go_enter func11,ntmps11;go_upto_region 1 with fail;obtain⟨W1,hW⟩:=BR<|w.alloc<|.cells #[.slice An nn cn,.slice Aa na ca,.slice Af nf cf] 26;have z:AO W1 w.heap.size 26 #[.slice An nn cn,.slice Aa na ca,.slice Af nf cf]:=by rw[hW];exact AO.made rfl _ _
 have HB1:=V (show AU w W1 by rw[hW];exact bA (bR w) _);rw[<-hW];have DU:=V z;clear hW;obtain⟨C,K,M,T,-⟩:=z.BF;go_wp2_with fail;refine(HLt.1 _ HB1.1).mono ?_;rintro e w2⟨lt,rfl,-,hb2⟩;have HB2:=V<|J HB1.1 hb2;have Vs:=V<|DU.1.keep hb2;clear hb2 z C K M T DU HB1 HLt;cases lt;case false=>go_wp2_with fail;refine(HAw.1 _).mono ?_;rintro e U⟨rfl,hb3⟩;go_wp2;go_ret;exact⟨rfl,J HB2.1 hb3⟩
 have z:=Vs.1;try clear C K M T
 obtain⟨C,K,M,T,-⟩:=z.BF;go_wp2_with fail;refine(MO.1 _ HB2.1).mono ?_;rintro e U⟨rfl,hb3⟩;have HB3:=V<|J HB2.1 hb3;have Zc:=V<|Vs.1.keep hb3;clear hb3 z C K M T Vs HB2 MO;cases R with|none=>
  unfold XM;unfold XM at KH;simp only at KH⊢;go_upto_region 4 with fail;obtain⟨W4,hW⟩:∃W:World,W=U.alloc (.cells #[.int .i64 0,.int .i64 0] 50):=⟨_,rfl⟩;have o:AU U W4:=by rw[hW];exact bA (bR U) _
  have Tt:=V (show AO W4 U.heap.size 50 #[.int .i64 0,.int .i64 0]by rw[hW];exact AO.made rfl _ _);rw[<-hW];obtain⟨g5,h5⟩:∃g,U.heap.size=g:=⟨_,rfl⟩;rw[h5]at Tt⊢;have s:=V<|J HB3.1 o;have Tn:=V<|Zc.1.keep o;have z:=Tn.1;clear hW o h5 Zc HB3;try clear C K M T
  obtain⟨C,K,M,T,-⟩:=z.BF;go_wp2_with fail;refine(KH.1 _ s.1).mono ?_;rintro e w5⟨rfl,c⟩;obtain⟨Cb,Zf,Vu⟩:=CB (J s.1 c) (Tn.1.keep c)<|Tt.1.keep c;clear c z C K M T Tn Tt s KH;go_upto_region 5 with fail;obtain⟨W6,hW⟩:∃W:World,W=w5.alloc (.cells #[.int .i64 0,.int .i64 0] 50):=⟨_,rfl⟩;have j:AU w5 W6:=by rw[hW];exact bA (bR w5) _
  have Z7:AO W6 w5.heap.size 50 #[.int .i64 0,.int .i64 0]:=by rw[hW];exact AO.made rfl _ _
  rw[<-hW];obtain⟨g7,h7⟩:∃g,w5.heap.size=g:=⟨_,rfl⟩;rw[h7]at Z7⊢;have EG:=V<|J Cb.1 j;have amO:=V<|Zf.1.keep j;have Y5:=Vu.1.keep j;have aBe:=V Y5;clear hW j h7 Zf Cb Vu;obtain⟨jT,jU,jV,-⟩:=Y5.BL;obtain⟨Z7l,Z7a,Z7b,-⟩:=Z7.BL;go_wp2_with fail;refine(HAw.1 _).mono ?_;rintro e w8⟨rfl,hb8⟩;go_wp2;go_ret;exact⟨rfl,J EG.1 hb8⟩|some u=>
  have HL:=V<|Un.1 u rfl;unfold XM;unfold XM at KH;simp only at KH⊢;go_upto_region 4 with fail;obtain⟨W4,hW⟩:∃W:World,W=U.alloc (.cells #[.int .i64 u.x,.int .i64 u.y] 50):=⟨_,rfl⟩;have o:AU U W4:=by rw[hW];exact bA (bR U) _
  have Tt:=V (show AO W4 U.heap.size 50 #[.int .i64 u.x,.int .i64 u.y]by rw[hW];exact AO.made rfl _ _);rw[<-hW];obtain⟨g5,h5⟩:∃g,U.heap.size=g:=⟨_,rfl⟩;rw[h5]at Tt⊢;have s:=V<|J HB3.1 o;have Tn:=V<|Zc.1.keep o;have z:=Tn.1;clear hW o h5 Zc HB3;try clear C K M T
  obtain⟨C,K,M,T,-⟩:=z.BF;go_wp2_with fail;refine(KH.1 _ s.1).mono ?_;rintro e w5⟨rfl,c⟩;obtain⟨Cb,Zf,Vu⟩:=CB (J s.1 c) (Tn.1.keep c)<|Tt.1.keep c;clear c z C K M T Tn Tt s KH;go_upto_region 5 with fail;obtain⟨W6,hW⟩:∃W:World,W=w5.alloc (.cells #[.int .i64 u.x,.int .i64 u.y] 50):=⟨_,rfl⟩;have j:AU w5 W6:=by rw[hW];exact bA (bR w5) _
  have Z7:AO W6 w5.heap.size 50 #[.int .i64 u.x,.int .i64 u.y]:=by rw[hW];exact AO.made rfl _ _
  rw[<-hW];obtain⟨g7,h7⟩:∃g,w5.heap.size=g:=⟨_,rfl⟩;rw[h7]at Z7⊢;have EG:=V<|J Cb.1 j;have amO:=V<|Zf.1.keep j;have Y5:=Vu.1.keep j;have aBe:=V Y5;clear hW j h7 Zf Cb Vu;try clear jT jU jV
  obtain⟨jT,jU,jV,-⟩:=Y5.BL;try clear Z7l Z7a Z7b
  obtain⟨Z7l,Z7a,Z7b,-⟩:=Z7.BL;go_upto_region 9 with fail;clear jT jU jV Z7 Z7l Z7a Z7b Y5;have z:=amO.1;have Y5:=aBe.1;try clear C K M T
  obtain⟨C,K,M,T,-⟩:=z.BF;try clear jT jU jV
  obtain⟨jT,jU,jV,-⟩:=Y5.BL;go_wp2_with fail;refine(HL.1 _ EG.1).mono ?_;rintro e w8⟨rfl,hb8⟩;have Js:=V<|J EG.1 hb8;clear hb8;go_wp2_with fail;refine(HAw.1 _).mono ?_;rintro e w9⟨rfl,Pq⟩;have Ja:=V<|J Js.1 Pq;clear Pq;go_wp2;go_ret;exact⟨rfl,Ja.1⟩
