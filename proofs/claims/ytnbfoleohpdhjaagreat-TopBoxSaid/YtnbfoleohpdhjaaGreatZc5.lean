/- Own work. -/
import Derived.Shelf.Small.Bits
import Derived.Test.YtnbfoleohpdhjaaGreatProg
import Derived.Ground.NamesProg
import Derived.Ground.Names2Prog
import Derived.Shelf.Sort.Plain
import Derived.Shelf.Slices.SearchI
import Derived.Shelf.Slices.In.SortNone
import Derived.Shelf.Slices.Empties
import Derived.Shelf.Bits.Mul64
import Derived.Ground.SlsfProg
import Derived.Shelf.SlSortCmp.WholeK
import Derived.Shelf.SlSortCmp.NoneTotal
import Derived.Test.YtnbfoleohpdhjaaGreatZc4
set_option linter.unusedVariables false
set_option linter.unusedSimpArgs false
set_option maxHeartbeats 8000000
namespace Go.Proofs.YtnbfoleohpdhjaaGreat
open Go Go.Eng Go.Pure
open Tryz
set_option maxRecDepth 100000
section
variable {w:World} {o last:Int}
theorem xP {fi:Int}:
  CF 192 #[I fi] w (λv R'=>v=I (jE fi)):=by
 refine fn1 Tryz.func192 Z Z Z ?_;refine wq<|wn Z<|aD<|wq<|wm Z<|wL Z Z<|aA<|aX Z (λar=> ?_) (λar=> ?_)
 ·refine wq<|wn Z<|bK ?_;refine⟨_,Z,?_⟩;exact bq (Value.int .i64) (by unfold jE;rw[dm cF])
 ·refine aI<|aD<|wq<|wm Z<|wy (qM Z Z)<|aA<|aX Z (λbx=> ?_) (λbx=> ?_)
  ·refine wq<|wn Z<|bK ?_;refine⟨_,Z,?_⟩;exact bq (Value.int .i64) (by unfold jE;rw[df cF,dm G])
  ·refine aI<|wq<|wn Z<|bK ?_;refine⟨_,Z,?_⟩;exact bq (Value.int .i64) (by unfold jE;rw[df cF,df G])
theorem SF (ho:o=0\/o=1) (hk:jE last*o=0):
  CF 144 #[I o,I last] w (λv R'=>v=I 0):=by
 refine fn1 Ka Z Z Z ?_;refine wq<|wn Z<|aD<|wq<|wm Z<|wy (eT Z Z)<|aA<|aX Z (λar=> ?_) (λar=> ?_)
 ·refine wq<|wn Z<|bK ?_;refine⟨_,Z,?_⟩;exact bq (Value.int .i64) (by first|rfl|(rw[(by assumption:o=0)] at hk;omega))
 ·refine aI<|wq<|wm Z<|wa (aC aZi Z (Ct.quiet (λw hw=>xP))) ?_;rintro _ _⟨rfl,rfl⟩;refine wn Z<|bK ?_;refine⟨_,Z,?_⟩;exact bq (Value.int .i64) (by rw[show o=1 by omega] at hk;omega)
theorem SE (ho:o=0\/o=1) (hk:jE last*o=1):
  CF 144 #[I o,I last] w (λv R'=>v=I 1):=by
 refine fn1 Ka Z Z Z ?_;refine wq<|wn Z<|aD<|wq<|wm Z<|wy (eT Z Z)<|aA<|aX Z (λar=> ?_) (λar=> ?_)
 ·refine wq<|wn Z<|bK ?_;refine⟨_,Z,?_⟩;exact bq (Value.int .i64) (by first|rfl|(rw[(by assumption:o=0)] at hk;omega))
 ·refine aI<|wq<|wm Z<|wa (aC aZi Z (Ct.quiet (λw hw=>xP))) ?_;rintro _ _⟨rfl,rfl⟩;refine wn Z<|bK ?_;refine⟨_,Z,?_⟩;exact bq (Value.int .i64) (by rw[show o=1 by omega] at hk;omega)
theorem SC (ho:o=0\/o=1) (hk:jE last*o=2):
  CF 144 #[I o,I last] w (λv R'=>v=I 2):=by
 refine fn1 Ka Z Z Z ?_;refine wq<|wn Z<|aD<|wq<|wm Z<|wy (eT Z Z)<|aA<|aX Z (λar=> ?_) (λar=> ?_)
 ·refine wq<|wn Z<|bK ?_;refine⟨_,Z,?_⟩;exact bq (Value.int .i64) (by first|rfl|(rw[(by assumption:o=0)] at hk;omega))
 ·refine aI<|wq<|wm Z<|wa (aC aZi Z (Ct.quiet (λw hw=>xP))) ?_;rintro _ _⟨rfl,rfl⟩;refine wn Z<|bK ?_;refine⟨_,Z,?_⟩;exact bq (Value.int .i64) (by rw[show o=1 by omega] at hk;omega)
theorem WX:
  CF 142 #[] w (λv R'=> ∃(g g0 g1 g2:Nat) (A0 A1 A2:AF) (c0 c1 c2:Nat),v=sl (GG g) 3 3/\R'=[⟨196,1,(GG g),3,3,[Value.pointer (GG g0),Value.pointer (GG g1),Value.pointer (GG g2)],false⟩,(rc 239 1 g0 [sl A0 258 c0]),(ri 3 A0 258 c0 zX),(rc 239 1 g1 [sl A1 258 c1]),(ri 3 A1 258 c1 zX),(rc 239 1 g2 [sl A2 258 c2]),(ri 3 A2 258 c2 zX)]):=by
 refine fn1 Tryz.func142 Z Z Z ?_;refine wq<|wn Z<|wq<|wa (aC aZj Z (Ct.fresh (λw hw=>vO))) ?_;rintro _ _⟨_,rfl,ap,o4,o5,rfl,rfl⟩;refine wa (aC aZj Z (Ct.fresh (λw hw=>vO))) ?_;rintro _ _⟨_,rfl,tg,go,jj,rfl,rfl⟩;refine wa (aC aZj Z (Ct.fresh (λw hw=>vO))) ?_;rintro _ _⟨_,rfl,mv,dt,du,rfl,rfl⟩;refine wa (iK [Value.pointer (GG ap),Value.pointer (GG tg),Value.pointer (GG mv)] Jp bMc Z Z Z Z) ?_;rintro _ _⟨sn,rfl,rfl⟩;refine wn Z<|aU [0,5,6,3,4,1,2] 99 ?_;exact⟨_,Z,_,_,_,_,_,_,_,_,_,_,Z,Z⟩
theorem aFu {ju:AF} {pt jx:Nat} {b:AH} (fz:Rd w ju pt jx 1 (ints .u8 b)) (cv:aO b) (ho:o=0\/o=1) (hN:b.length<=100000):
  CF 89 #[sl ju pt jx,I o] w (λv R'=> ∃A c,v= .tuple #[sl A (bM b o).length c,bt]/\R'=[(ru 5 A ((bM b o).length) c (bM b o))]):=by
 obtain rfl:=fz.lenI;refine fn2 Tryz.func89 Z Z Z ?_;have Hc:=fz.max;have w8:=rW cv;have kb:=HZ b;have Kf:=qE (dB bL b) 0;rw[iY] at Kf;have xf:(bQ b).length=(dE 0 (dB bL b)).length+1:=by unfold bQ;rw[ah];rfl
 refine wq<|wg Z<|wn Z<|aD<|wq<|wm Z<|wy (Yl.f (eQ Z Z))<|wm Z<|aB Z Z<|wm Z<|aB Z Z<|wy (Yl.f (bW Z Z)) ?_;refine wy (aN Z Z)<|wm Z<|aB Z Z<|wm Z<|aB Z Z<|wy (aL af Z)<|aB Z Z<|wy (Yl.f (bW Z Z))<|wy (aN Z Z)<|aA<|aP Z<|aI<|wq<|wm Z ?_;refine wa (aC bPr Z (Ct.fresh (λw hw=>aFx ((fz.c _) w hw) cv G))) ?_;rintro _ _⟨_,rfl,cm,ci,rfl,rfl⟩;refine wa (aC bPs Z (Ct.fresh (λw hw=>aFt ((rdr 0 Z) w hw) (pO cv) (by rw[iY];omega)))) ?_;rintro _ _⟨_,rfl,kt,lj,rfl,rfl⟩;refine wa (bF .i64 [257] aa zs3 Z Z Z) ?_;rintro _ _⟨Hn,rfl,rfl⟩;refine wa (aQ 1 Z aa zb3 Z Z Z (rdr 0 Z)) ?_;rintro _ _⟨im,da,rfl,rfl⟩;refine bC (v:=sl im (((dE 0 (dB bL b)).length)+1) da) Z<|wn Z<|wq<|wa (aC bPq Z (Ct.fresh (λw hw=>WX))) ?_;rintro _ _⟨_,rfl,oc,qe,pm,sn,ki,me,fg,fh,ob,py,rfl,rfl⟩;refine wn Z<|wq<|wa (aC bPp Z (Ct.fresh (λw hw=>KR))) ?_;rintro _ _⟨_,rfl,qs,mj,ml,rfl,rfl⟩;refine wn Z<|wq<|wn Z<|aD<|wq<|wn Z<|aG ?_;refine fE (λ(i:Int) (last:Int) (Aw:AF) (cw:Nat) (Sx:PpS)=>[(1,I o),(6,sl im (((dE 0 (dB bL b)).length)+1) da),(7,sl (GG oc) 3 3),(8,PG qs),(9,I last),(10,I i)]) (λi last Aw cw Sx=>[(rc 198 2 qs [sl Aw (Sx.cd.k+4) cw, .int .u64 Sx.cd.R]),(ru 5 Aw (Sx.cd.k+4) cw (beL (Sx.cd.k+4) Sx.cd.N)),⟨196,1,(GG oc),3,3,[Value.pointer (GG qe),Value.pointer (GG pm),Value.pointer (GG sn)],false⟩,(rc 239 1 qe [sl ki 258 fh]),(ri 3 ki 258 fh Sx.c0),(rc 239 1 pm [sl me 258 ob]),(ri 3 me 258 ob Sx.c1),(rc 239 1 sn [sl fg 258 py]),(ri 3 fg 258 py Sx.c2),(ri 3 (GG Hn) 1 1 ([257])),(ri 3 im (((dE 0 (dB bL b)).length)+1) da (syb b)),(ru 5 cm ((b).length) ci (dB bL b))]) (λi last Aw cw Sx=>(0<=i)/\(i<=(bQ b).length)/\(Sx.cls=jE last)/\(Sx=encP o ((bQ b).take i.toNat))) (λi last Aw cw Sx=>((bQ b).length-i).toNat) ?_ ?_
 ·exact⟨0,0,mj,ml,pp0,⟨G,G,(Z),(Z)⟩,KP⟩
 intro i last Aw cw Sx ⟨aw,ff,kf,hS⟩;have de:=YC w8 hS;refine aD<|wq<|wm Z<|wm Z<|wy (aL aa Z)<|wL Z Z<|aA<|aX Z (λar=> ?_) (λar=> ?_)
 ·have hx:=w8 _ (bG (L:=bQ b) (k:=i) aw G);refine aI<|aD<|aG<|wq ?_;rcases QU de.1 ho with hk|hk|hk
  ·refine wm Z<|wm Z<|wm Z<|wa (aC aZo Z (Ct.quiet (λw hw=>SF ho (by rw[<-kf];exact hk)))) ?_;rintro _ _⟨rfl,rfl⟩;refine wy (aF Jp aTv Z Z (rdr 2 Z))<|wy (kH underlying196 Z Z Z (rdr 2 Z) Z)<|wn Z<|wq<|wm Z<|wm Z<|wm Z<|wy (aF aa sz3 Z Z (rdr 10 Z))<|wy (aT au Z Z (rdr 10 Z))<|wa (aC aZn Z (Ct.pk [3,4,0,1,2,5,6,7,8,9,10,11] 99 (h:=uD (by rw[de.1.1.1.1]) (by rw[de.1.1.1.1];exact hx) de.1.1.1))) ?_;rintro _ _⟨rfl,rfl⟩;refine wm Z<|wX Z Z<|wX Z Z<|wX Z Z<|wg Z<|wg Z<|wn Z<|wq<|wm Z<|wm Z<|wm Z<|wm Z<|wa (aC aLv Z (Ct.sub (R1:=[(rc 239 1 qe [sl ki 258 fh]),(ri 3 ki 258 fh Sx.c0),(rc 198 2 qs [sl Aw (Sx.cd.k+4) cw, .int .u64 Sx.cd.R]),(ru 5 Aw (Sx.cd.k+4) cw (beL (Sx.cd.k+4) Sx.cd.N)),⟨196,1,(GG oc),3,3,[Value.pointer (GG qe),Value.pointer (GG pm),Value.pointer (GG sn)],false⟩,(rc 239 1 pm [sl me 258 ob]),(ri 3 me 258 ob Sx.c1),(rc 239 1 sn [sl fg 258 py]),(ri 3 fg 258 py Sx.c2),(ri 3 (GG Hn) 1 1 ([257])),(ri 3 im (((dE 0 (dB bL b)).length)+1) da (syb b)),(ru 5 cm ((b).length) ci (dB bL b))]) hiZ (nY (by rw[de.1.1.1.1]) de.1.1.1.le))) ?_;rintro _ _⟨rfl,rfl⟩;refine wa (aC aZm Z (Ct.pk [2,3,0,1,4,5,6,7,8,9,10,11] 99 (h:=IB Z de.1.2.2 (kT de.1.1.1 hx.1 hx.2) G))) ?_;rintro _ _⟨kd,ke,rfl,rfl⟩;refine aA<|wq<|wm Z<|wm Z<|wm Z<|wy (aF aa sz3 Z Z (rdr 10 Z))<|wy (aT au Z Z (rdr 10 Z))<|wa (aC aZl Z (Ct.pk [2,3,0,1,4,5,6,7,8,9,10,11] 99 (h:=vN (by rw[de.1.1.1.1]) (by rw[de.1.1.1.1];exact hx) de.1.1.1))) ?_;rintro _ _⟨rfl,rfl⟩;refine aA<|aK<|wm Z<|wm Z<|wy (aF aa sz3 Z Z (rdr 10 Z))<|wy (aT au Z Z (rdr 10 Z))<|wn Z<|aK<|wm Z<|wA Z Z<|wn Z ?_;exact⟨i+1,rd (syb b) i,kd,ke,(⟨mJ Sx.c0 (rd (bQ b) i),Sx.c1,Sx.c2,jE (rd (bQ b) i),rX Sx.cd Sx.c0 (rd (bQ b) i)⟩:PpS),⟨G,G,(Z),(nX hS aw G (WN hk))⟩,G,SA,λ_ h=>h.sel [2,3,4,0,1,5,6,7,8,9,10,11] cC Z⟩
  ·refine wm Z<|wm Z<|wm Z<|wa (aC aZo Z (Ct.quiet (λw hw=>SE ho (by rw[<-kf];exact hk)))) ?_;rintro _ _⟨rfl,rfl⟩;refine wy (aF Jp aTv Z Z (rdr 2 Z))<|wy (kH underlying196 Z Z Z (rdr 2 Z) Z)<|wn Z<|wq<|wm Z<|wm Z<|wm Z<|wy (aF aa sz3 Z Z (rdr 10 Z))<|wy (aT au Z Z (rdr 10 Z))<|wa (aC aZn Z (Ct.pk [5,6,0,1,2,3,4,7,8,9,10,11] 99 (h:=uD (by rw[de.1.1.2.1.1]) (by rw[de.1.1.2.1.1];exact hx) de.1.1.2.1))) ?_;rintro _ _⟨rfl,rfl⟩;refine wm Z<|wX Z Z<|wX Z Z<|wX Z Z<|wg Z<|wg Z<|wn Z<|wq<|wm Z<|wm Z<|wm Z<|wm Z<|wa (aC aLv Z (Ct.sub (R1:=[(rc 239 1 pm [sl me 258 ob]),(ri 3 me 258 ob Sx.c1),(rc 198 2 qs [sl Aw (Sx.cd.k+4) cw, .int .u64 Sx.cd.R]),(ru 5 Aw (Sx.cd.k+4) cw (beL (Sx.cd.k+4) Sx.cd.N)),⟨196,1,(GG oc),3,3,[Value.pointer (GG qe),Value.pointer (GG pm),Value.pointer (GG sn)],false⟩,(rc 239 1 qe [sl ki 258 fh]),(ri 3 ki 258 fh Sx.c0),(rc 239 1 sn [sl fg 258 py]),(ri 3 fg 258 py Sx.c2),(ri 3 (GG Hn) 1 1 ([257])),(ri 3 im (((dE 0 (dB bL b)).length)+1) da (syb b)),(ru 5 cm ((b).length) ci (dB bL b))]) hiZ (nY (by rw[de.1.1.2.1.1]) de.1.1.2.1.le))) ?_;rintro _ _⟨rfl,rfl⟩;refine wa (aC aZm Z (Ct.pk [2,3,0,1,4,5,6,7,8,9,10,11] 99 (h:=IB Z de.1.2.2 (kT de.1.1.2.1 hx.1 hx.2) G))) ?_;rintro _ _⟨rj,rr,rfl,rfl⟩;refine aA<|wq<|wm Z<|wm Z<|wm Z<|wy (aF aa sz3 Z Z (rdr 10 Z))<|wy (aT au Z Z (rdr 10 Z))<|wa (aC aZl Z (Ct.pk [2,3,0,1,4,5,6,7,8,9,10,11] 99 (h:=vN (by rw[de.1.1.2.1.1]) (by rw[de.1.1.2.1.1];exact hx) de.1.1.2.1))) ?_;rintro _ _⟨rfl,rfl⟩;refine aA<|aK<|wm Z<|wm Z<|wy (aF aa sz3 Z Z (rdr 10 Z))<|wy (aT au Z Z (rdr 10 Z))<|wn Z<|aK<|wm Z<|wA Z Z<|wn Z ?_;exact⟨i+1,rd (syb b) i,rj,rr,(⟨Sx.c0,mJ Sx.c1 (rd (bQ b) i),Sx.c2,jE (rd (bQ b) i),rX Sx.cd Sx.c1 (rd (bQ b) i)⟩:PpS),⟨G,G,(Z),(nX hS aw G (WM hk))⟩,G,SA,λ_ h=>h.sel [2,3,4,5,6,0,1,7,8,9,10,11] cC Z⟩
  ·refine wm Z<|wm Z<|wm Z<|wa (aC aZo Z (Ct.quiet (λw hw=>SC ho (by rw[<-kf];exact hk)))) ?_;rintro _ _⟨rfl,rfl⟩;refine wy (aF Jp aTv Z Z (rdr 2 Z))<|wy (kH underlying196 Z Z Z (rdr 2 Z) Z)<|wn Z<|wq<|wm Z<|wm Z<|wm Z<|wy (aF aa sz3 Z Z (rdr 10 Z))<|wy (aT au Z Z (rdr 10 Z))<|wa (aC aZn Z (Ct.pk [7,8,0,1,2,3,4,5,6,9,10,11] 99 (h:=uD (by rw[de.1.1.2.2.1]) (by rw[de.1.1.2.2.1];exact hx) de.1.1.2.2))) ?_;rintro _ _⟨rfl,rfl⟩;refine wm Z<|wX Z Z<|wX Z Z<|wX Z Z<|wg Z<|wg Z<|wn Z<|wq<|wm Z<|wm Z<|wm Z<|wm Z<|wa (aC aLv Z (Ct.sub (R1:=[(rc 239 1 sn [sl fg 258 py]),(ri 3 fg 258 py Sx.c2),(rc 198 2 qs [sl Aw (Sx.cd.k+4) cw, .int .u64 Sx.cd.R]),(ru 5 Aw (Sx.cd.k+4) cw (beL (Sx.cd.k+4) Sx.cd.N)),⟨196,1,(GG oc),3,3,[Value.pointer (GG qe),Value.pointer (GG pm),Value.pointer (GG sn)],false⟩,(rc 239 1 qe [sl ki 258 fh]),(ri 3 ki 258 fh Sx.c0),(rc 239 1 pm [sl me 258 ob]),(ri 3 me 258 ob Sx.c1),(ri 3 (GG Hn) 1 1 ([257])),(ri 3 im (((dE 0 (dB bL b)).length)+1) da (syb b)),(ru 5 cm ((b).length) ci (dB bL b))]) hiZ (nY (by rw[de.1.1.2.2.1]) de.1.1.2.2.le))) ?_;rintro _ _⟨rfl,rfl⟩;refine wa (aC aZm Z (Ct.pk [2,3,0,1,4,5,6,7,8,9,10,11] 99 (h:=IB Z de.1.2.2 (kT de.1.1.2.2 hx.1 hx.2) G))) ?_;rintro _ _⟨rm,rv,rfl,rfl⟩;refine aA<|wq<|wm Z<|wm Z<|wm Z<|wy (aF aa sz3 Z Z (rdr 10 Z))<|wy (aT au Z Z (rdr 10 Z))<|wa (aC aZl Z (Ct.pk [2,3,0,1,4,5,6,7,8,9,10,11] 99 (h:=vN (by rw[de.1.1.2.2.1]) (by rw[de.1.1.2.2.1];exact hx) de.1.1.2.2))) ?_;rintro _ _⟨rfl,rfl⟩;refine aA<|aK<|wm Z<|wm Z<|wy (aF aa sz3 Z Z (rdr 10 Z))<|wy (aT au Z Z (rdr 10 Z))<|wn Z<|aK<|wm Z<|wA Z Z<|wn Z ?_;exact⟨i+1,rd (syb b) i,rm,rv,(⟨Sx.c0,Sx.c1,mJ Sx.c2 (rd (bQ b) i),jE (rd (bQ b) i),rX Sx.cd Sx.c2 (rd (bQ b) i)⟩:PpS),⟨G,G,(Z),(nX hS aw G (WL hk))⟩,G,SA,λ_ h=>h.sel [2,3,4,5,6,7,8,0,1,9,10,11] cC Z⟩
 ·refine aR<|wq<|wm Z<|wy (aH Z)<|wy (yF 0 0 xw cZ Z)<|wy (yL 0 af Z Z Z)<|wg Z<|wn Z<|aU [1] 99 ?_;refine⟨_,_,Z,Z,?_⟩;rw[bg G] at hS;have e:(bM b o).length=Sx.cd.k+4:=by unfold bM;rw[kS,<-hS]
  have e2:bM b o=beL (Sx.cd.k+4) Sx.cd.N:=by unfold bM;rw[<-hS]
  rw[e,e2];exact⟨_,_,Z,Z⟩
end
end Go.Proofs.YtnbfoleohpdhjaaGreat
namespace Go.Proofs
open Go.Shelf
def Tryz.lays126_ren:Go.Shelf.Ren:=⟨λ|126=>205|n=>n,λ|5=>5|3=>3|9=>9|n=>n,λ|n=>n⟩
theorem Tryz.lays126:Go.Proofs.Lays.n126 Tryz.prog Tryz.lays126_ren:= {
 mixed:=cA
 f126:=Tryz.func205.trans (bq some cA)
 t3:=Ba
 a3:=Gi
 z3:=Ei
 v3:=Bl
 t5:=Ch
 a5:=Jc
 z5:=Hf
 v5:=Dh
 t9:=Ci
 a9:=Jd
 z9:=Hg
 v9:=Di}
theorem Tryz.bits_Len8 (x:Int) (w:World) (h0:0<=x) (h1:x<=255):
  Calls Tryz.prog 205 #[.int .u8 x] w λe w'=>e= .returned (.int .i64 (Lib.bitLen x.toNat))/\w'=w:=Any.bits_Len8 Tryz.lays126 x w h0 h1
end Go.Proofs
namespace Go.Proofs
open Go.Shelf
def Tryz.lays189_ren:Go.Shelf.Ren:=⟨λ|189=>288|125=>116|257=>305|128=>177|129=>178|294=>310|295=>311|296=>312|297=>313|298=>314|299=>315|216=>291|300=>316|301=>317|328=>319|329=>217|330=>218|331=>320|332=>321|215=>118|343=>322|n=>n,λ|28=>52|3=>3|46=>112|0=>0|51=>81|53=>70|4=>4|183=>218|182=>217|131=>105|5=>5|9=>9|218=>259|222=>263|228=>286|229=>287|n=>n,λ|n=>n⟩
theorem Tryz.lays189:Go.Proofs.Lays.n189 Tryz.prog Tryz.lays189_ren:= {
 mixed:=cA
 f125:=Jy.trans (bq some cA)
 f128:=Kb.trans (bq some cA)
 f129:=Kc.trans (bq some cA)
 f189:=Tryz.func288.trans (bq some cA)
 f215:=Jz.trans (bq some cA)
 f216:=Tryz.func291.trans (bq some cA)
 f257:=Tryz.func305.trans (bq some cA)
 f294:=Tryz.func310.trans (bq some cA)
 f295:=Tryz.func311.trans (bq some cA)
 f296:=Tryz.func312.trans (bq some cA)
 f297:=Tryz.func313.trans (bq some cA)
 f298:=Tryz.func314.trans (bq some cA)
 f299:=Tryz.func315.trans (bq some cA)
 f300:=Tryz.func316.trans (bq some cA)
 f301:=Tryz.func317.trans (bq some cA)
 f328:=Tryz.func319.trans (bq some cA)
 f329:=Ke.trans (bq some cA)
 f330:=Kg.trans (bq some cA)
 f331:=Tryz.func320.trans (bq some cA)
 f332:=Tryz.func321.trans (bq some cA)
 f343:=Tryz.func322.trans (bq some cA)
 t0:=Cf
 a0:=Ja
 z0:=Hd
 v0:=De
 t3:=Ba
 a3:=Gi
 z3:=Ei
 v3:=Bl
 t4:=Cg
 a4:=Jb
 z4:=He
 v4:=Dg
 t5:=Ch
 a5:=Jc
 z5:=Hf
 v5:=Dh
 t9:=Ci
 a9:=Jd
 z9:=Hg
 v9:=Di
 t28:=Tryz.underlying52
 a28:=Tryz.isAgg52
 z28:=Tryz.sizeOf52
 v28:=Tryz.zeroValue52
 t46:=zu
 a46:=Cv
 z46:=Bv
 v46:=Ai
 t51:=Bq
 a51:=Ha
 z51:=Fj
 v51:=Ck
 t53:=Bp
 a53:=Gz
 z53:=Fh
 v53:=Cj
 t131:=Dn
 a131:=Jh
 z131:=Hw
 v131:=Ej
 t182:=Dp
 a182:=Ji
 z182:=Hy
 v182:=El
 t183:=Dq
 a183:=Jj
 z183:=Hz
 v183:=Em
 t218:=Dr
 a218:=Jk
 z218:=Ia
 v218:=En
 t222:=Dt
 a222:=Jl
 z222:=Ib
 v222:=Eo
 t228:=Du
 a228:=Jm
 z228:=Ic
 v228:=Ep
 t229:=Dv
 a229:=Jn
 z229:=Ie
 v229:=Er}
open Go.Sort Go.RowKit in
theorem Tryz.slices_Sort_int (fa off cap:Nat) (zs:AH) (w:World) (hH:Holds (Value.int .i64) w fa off zs.toArray) (hblk:fa<w.heap.size) (hsz:zs.length<4611686018427387904):
  Calls Tryz.prog 288 #[.slice (some ⟨fa,off,none⟩) zs.length cap] w λe w'=>
   e= .returned (.tuple #[])/\ ∃n os,w'=grow (putRow (Value.int .i64) (Sort.ahead w n) fa off (zs.mergeSort λx y=>decide (x<=y)).toArray) os:=Any.slices_Sort_int Tryz.lays189 fa off cap zs w hH hblk hsz
def Tryz.laysNm225_ren:Go.Shelf.Ren:=⟨λ|25=>268|31=>291|32=>292|37=>118|n=>n,λ|22=>52|3=>3|4=>4|40=>112|0=>0|n=>n,λ|n=>n⟩
theorem Tryz.laysNm225:Go.Proofs.Lays2.n25 Tryz.prog Tryz.laysNm225_ren:= {
 mixed:=cA
 f25:=Tryz.func268.trans (bq some cA)
 f31:=Tryz.func291.trans (bq some cA)
 f32:=Tryz.func292.trans (bq some cA)
 f37:=Jz.trans (bq some cA)
 t0:=Cf
 a0:=Ja
 z0:=Hd
 v0:=De
 t3:=Ba
 a3:=Gi
 z3:=Ei
 v3:=Bl
 t4:=Cg
 a4:=Jb
 z4:=He
 v4:=Dg
 t22:=Tryz.underlying52
 a22:=Tryz.isAgg52
 z22:=Tryz.sizeOf52
 v22:=Tryz.zeroValue52
 t40:=zu
 a40:=Cv
 z40:=Bv
 v40:=Ai}
open Go.RowKit Go.Lib in
theorem Tryz.slices_BinarySearch_int (b off n c:Nat) (zs:AH) (x:Int) (w:World) (hz:n<=zs.length) (On:n<4611686018427387904) (hc: ∀j,j<zs.length->w.cell? ⟨b,off+j,none⟩=some (.int .i64 (zs.getD j 0))) (hs:(zs.take n).Pairwise (· <= ·)):
  Calls Tryz.prog 268 #[.slice (some ⟨b,off,none⟩) n c, .int .i64 x] w λe w'=>e= .returned (.tuple #[.int .i64 ((zs.take n).countP (· <x):Nat), .bool ((zs.take n).contains x)])/\ ∃q,w'=w.drewN q:=Any.slices_BinarySearch_int Tryz.laysNm225 b off n c zs x w hz On hc hs
open Go.RowKit Go.Sort in
theorem Tryz.slices_Sort_int_none (p:AF) (cap:Nat) (w:World):
  Calls Tryz.prog 288 #[.slice p 0 cap] w λe w'=>e= .returned (.tuple #[])/\w'=w:=Any.slices_Sort_int_none Tryz.lays189 p cap w
open Go.RowKit Go.Lib in
theorem Tryz.slices_BinarySearch_int_empty (a:AF) (c:Nat) (x:Int) (w:World):
  Calls Tryz.prog 268 #[.slice a 0 c, .int .i64 x] w λe w'=>e= .returned (.tuple #[.int .i64 0, .bool false])/\w'=w:=Any.slices_BinarySearch_int_empty Tryz.laysNm225 a c x w
end Go.Proofs
namespace Go.Proofs
open Go.Shelf
def Tryz.lays212_ren:Go.Shelf.Ren:=⟨λ|212=>69|263=>119|264=>120|n=>n,λ|46=>112|51=>81|146=>170|53=>70|148=>172|n=>n,λ|n=>n⟩
theorem Tryz.lays212:Go.Proofs.Lays.n212 Tryz.prog Tryz.lays212_ren:= {
 mixed:=cA
 f212:=Tryz.func69.trans (bq some cA)
 f263:=Tryz.func119.trans (bq some cA)
 f264:=Tryz.func120.trans (bq some cA)
 t46:=zu
 a46:=Cv
 z46:=Bv
 v46:=Ai
 t51:=Bq
 a51:=Ha
 z51:=Fj
 v51:=Ck
 t53:=Bp
 a53:=Gz
 z53:=Fh
 v53:=Cj
 t146:=Tryz.underlying170
 a146:=Tryz.isAgg170
 z146:=Tryz.sizeOf170
 v146:=Tryz.zeroValue170
 t148:=Tryz.underlying172
 a148:=Tryz.isAgg172
 z148:=Tryz.sizeOf172
 v148:=Tryz.zeroValue172}
open Go.RowKit Go.Lib in
theorem Tryz.bits_Mul (x y:Nat) (hx:x<18446744073709551616) (hy:y<18446744073709551616) (w:World):
  Calls Tryz.prog 69 #[.int .u64 x, .int .u64 y] w λe w'=>e= .returned (.tuple #[.int .u64 ((x*y/18446744073709551616:Nat):Int), .int .u64 ((x*y%18446744073709551616:Nat):Int)])/\w'=w:=Any.bits_Mul Tryz.lays212 x y hx hy w
end Go.Proofs
namespace Go.Proofs
open Go.Shelf
def Tryz.laysSlF06_f221_ren:Go.Shelf.Ren:=⟨λ|6=>221|15=>116|14=>248|28=>177|29=>178|20=>272|21=>273|22=>274|23=>275|24=>276|25=>277|26=>278|27=>279|46=>301|47=>217|48=>218|49=>302|50=>303|57=>309|n=>n,λ|22=>175|24=>177|25=>268|3=>3|39=>112|0=>0|53=>81|55=>70|4=>4|46=>218|45=>217|50=>105|5=>5|9=>9|66=>259|70=>263|76=>286|77=>287|n=>n,λ|n=>n⟩
theorem Tryz.laysSlF06_f221:Go.Proofs.SlLaysF0.n6 Tryz.prog Tryz.laysSlF06_f221_ren:= {
 mixed:=cA
 f6:=⟨Tryz.f221.name,cC,Tryz.func221.trans (bq some cA)⟩
 f14:=⟨Tryz.f248.name,cC,Tryz.func248.trans (bq some cA)⟩
 f15:=Jy.trans (bq some cA)
 f20:=⟨Tryz.f272.name,cC,Tryz.func272.trans (bq some cA)⟩
 f21:=⟨Tryz.f273.name,cC,Tryz.func273.trans (bq some cA)⟩
 f22:=⟨Tryz.f274.name,cC,Tryz.func274.trans (bq some cA)⟩
 f23:=⟨Tryz.f275.name,cC,Tryz.func275.trans (bq some cA)⟩
 f24:=⟨Tryz.f276.name,cC,Tryz.func276.trans (bq some cA)⟩
 f25:=⟨Tryz.f277.name,cC,Tryz.func277.trans (bq some cA)⟩
 f26:=⟨Tryz.f278.name,cC,Tryz.func278.trans (bq some cA)⟩
 f27:=⟨Tryz.f279.name,cC,Tryz.func279.trans (bq some cA)⟩
 f28:=Kb.trans (bq some cA)
 f29:=Kc.trans (bq some cA)
 f46:=⟨Tryz.f301.name,cC,Tryz.func301.trans (bq some cA)⟩
 f47:=Ke.trans (bq some cA)
 f48:=Kg.trans (bq some cA)
 f49:=⟨Tryz.f302.name,cC,Tryz.func302.trans (bq some cA)⟩
 f50:=⟨Tryz.f303.name,cC,Tryz.func303.trans (bq some cA)⟩
 f57:=⟨Tryz.f309.name,cC,Tryz.func309.trans (bq some cA)⟩
 t0:=Cf
 a0:=Ja
 z0:=Hd
 v0:=De
 t3:=Ba
 a3:=Gi
 z3:=Ei
 v3:=Bl
 t4:=Cg
 a4:=Jb
 z4:=He
 v4:=Dg
 t5:=Ch
 a5:=Jc
 z5:=Hf
 v5:=Dh
 t9:=Ci
 a9:=Jd
 z9:=Hg
 v9:=Di
 t22:=Tryz.underlying175
 a22:=Tryz.isAgg175
 z22:=Tryz.sizeOf175
 v22:=Tryz.zeroValue175
 t25:=Tryz.underlying268
 a25:=Tryz.isAgg268
 z25:=Tryz.sizeOf268
 v25:=Tryz.zeroValue268
 t39:=zu
 a39:=Cv
 z39:=Bv
 v39:=Ai
 t45:=Dp
 a45:=Ji
 z45:=Hy
 v45:=El
 t46:=Dq
 a46:=Jj
 z46:=Hz
 v46:=Em
 t50:=Dn
 a50:=Jh
 z50:=Hw
 v50:=Ej
 t53:=Bq
 a53:=Ha
 z53:=Fj
 v53:=Ck
 t55:=Bp
 a55:=Gz
 z55:=Fh
 v55:=Cj
 t66:=Dr
 a66:=Jk
 z66:=Ia
 v66:=En
 t70:=Dt
 a70:=Jl
 z70:=Ib
 v70:=Eo
 t76:=Du
 a76:=Jm
 z76:=Ic
 v76:=Ep
 t77:=Dv
 a77:=Jn
 z77:=Ie
 v77:=Er}
open Go.RowKit Go.Lib Go.Sort in
theorem Tryz.slices_SortFunc {α:Type} [Inhabited α] (k:Nat) (aE: ∀w,(isAgg 177).run Tryz.prog w= .ok true w) (zE: ∀w,(Go.sizeOf 177).run Tryz.prog w= .ok k w) (enc:α->AG) (hk: ∀x,(enc x).length=k) (h1: ∀x,∀v∈enc x,v.oneCell'=true) (cf:α->α->Int) (hO:SWO (ltOf cf)) (g:Nat) (cb:Array Value) (fa off cap:Nat) (d:Array α) (w:World) (eg: ∀args w,(callFunc g args).run Tryz.prog w= .ok (.enter g args) w) (vb:CmpLays Tryz.prog g cb enc k cf fa off d.size w) (hH:HoldsK enc k w fa off d) (hblk:fa<w.heap.size) (hsz:d.size<4611686018427387904):
  Calls Tryz.prog 221 #[.slice (some ⟨fa,off,none⟩) d.size cap, .func (.func g) #[] cb] w λe w'=>
   e= .returned (.tuple #[])/\ ∃d' n os,PermIn 0 d.size d d'/\SortedIn (ltOf cf) 0 d.size d'/\w'=sortWorldK enc k w fa off n d' os:=AnyQ.slices_SortFunc Tryz.laysSlF06_f221 k aE zE enc hk h1 cf hO g cb fa off cap d w eg vb hH hblk hsz
end Go.Proofs
namespace Go.Proofs
open Go.Shelf
def Tryz.laysRing_ren:Go.Shelf.Ren:=⟨λ|6=>64|15=>116|14=>115|28=>177|29=>178|20=>169|21=>170|22=>171|23=>172|24=>173|25=>174|26=>175|27=>176|46=>216|47=>217|48=>218|49=>219|50=>220|57=>247|n=>n,λ|22=>72|24=>75|25=>116|3=>3|39=>112|0=>0|53=>81|55=>70|4=>4|46=>218|45=>217|50=>105|5=>5|9=>9|66=>259|70=>263|76=>286|77=>287|n=>n,λ|n=>n⟩
theorem Tryz.laysRing:Go.Proofs.SlLaysF0.n6 Tryz.prog Tryz.laysRing_ren:= {
 mixed:=cA
 f6:=⟨Tryz.f64.name,cC,Tryz.func64.trans (bq some cA)⟩
 f14:=⟨Tryz.f115.name,cC,Tryz.func115.trans (bq some cA)⟩
 f15:=Jy.trans (bq some cA)
 f20:=⟨Tryz.f169.name,cC,Tryz.func169.trans (bq some cA)⟩
 f21:=⟨Tryz.f170.name,cC,Tryz.func170.trans (bq some cA)⟩
 f22:=⟨Tryz.f171.name,cC,Tryz.func171.trans (bq some cA)⟩
 f23:=⟨Tryz.f172.name,cC,Tryz.func172.trans (bq some cA)⟩
 f24:=⟨Tryz.f173.name,cC,Tryz.func173.trans (bq some cA)⟩
 f25:=⟨Tryz.f174.name,cC,Tryz.func174.trans (bq some cA)⟩
 f26:=⟨Tryz.f175.name,cC,Tryz.func175.trans (bq some cA)⟩
 f27:=⟨Tryz.f176.name,cC,Tryz.func176.trans (bq some cA)⟩
 f28:=Kb.trans (bq some cA)
 f29:=Kc.trans (bq some cA)
 f46:=⟨Tryz.f216.name,cC,Tryz.func216.trans (bq some cA)⟩
 f47:=Ke.trans (bq some cA)
 f48:=Kg.trans (bq some cA)
 f49:=⟨Tryz.f219.name,cC,Tryz.func219.trans (bq some cA)⟩
 f50:=⟨Tryz.f220.name,cC,Tryz.func220.trans (bq some cA)⟩
 f57:=⟨Tryz.f247.name,cC,Tryz.func247.trans (bq some cA)⟩
 t0:=Cf
 a0:=Ja
 z0:=Hd
 v0:=De
 t3:=Ba
 a3:=Gi
 z3:=Ei
 v3:=Bl
 t4:=Cg
 a4:=Jb
 z4:=He
 v4:=Dg
 t5:=Ch
 a5:=Jc
 z5:=Hf
 v5:=Dh
 t9:=Ci
 a9:=Jd
 z9:=Hg
 v9:=Di
 t22:=Tryz.underlying72
 a22:=Tryz.isAgg72
 z22:=Tryz.sizeOf72
 v22:=Tryz.zeroValue72
 t25:=Tryz.underlying116
 a25:=Tryz.isAgg116
 z25:=Tryz.sizeOf116
 v25:=Tryz.zeroValue116
 t39:=zu
 a39:=Cv
 z39:=Bv
 v39:=Ai
 t45:=Dp
 a45:=Ji
 z45:=Hy
 v45:=El
 t46:=Dq
 a46:=Jj
 z46:=Hz
 v46:=Em
 t50:=Dn
 a50:=Jh
 z50:=Hw
 v50:=Ej
 t53:=Bq
 a53:=Ha
 z53:=Fj
 v53:=Ck
 t55:=Bp
 a55:=Gz
 z55:=Fh
 v55:=Cj
 t66:=Dr
 a66:=Jk
 z66:=Ia
 v66:=En
 t70:=Dt
 a70:=Jl
 z70:=Ib
 v70:=Eo
 t76:=Du
 a76:=Jm
 z76:=Ic
 v76:=Ep
 t77:=Dv
 a77:=Jn
 z77:=Ie
 v77:=Er}
def Tryz.laysRow_ren:Go.Shelf.Ren:=⟨λ|6=>246|15=>116|14=>271|28=>177|29=>178|20=>293|21=>294|22=>295|23=>296|24=>297|25=>298|26=>299|27=>300|46=>306|47=>217|48=>218|49=>307|50=>308|57=>318|n=>n,λ|22=>23|24=>22|25=>110|3=>3|39=>112|0=>0|53=>81|55=>70|4=>4|46=>218|45=>217|50=>105|5=>5|9=>9|66=>259|70=>263|76=>286|77=>287|n=>n,λ|n=>n⟩
theorem Tryz.laysRow:Go.Proofs.SlLaysF.n6 Tryz.prog Tryz.laysRow_ren:= {
 mixed:=cA
 f6:=⟨Tryz.f246.name,cC,Tryz.func246.trans (bq some cA)⟩
 f14:=⟨Tryz.f271.name,cC,Tryz.func271.trans (bq some cA)⟩
 f15:=Jy.trans (bq some cA)
 f20:=⟨Tryz.f293.name,cC,Tryz.func293.trans (bq some cA)⟩
 f21:=⟨Tryz.f294.name,cC,Tryz.func294.trans (bq some cA)⟩
 f22:=⟨Tryz.f295.name,cC,Tryz.func295.trans (bq some cA)⟩
 f23:=⟨Tryz.f296.name,cC,Tryz.func296.trans (bq some cA)⟩
 f24:=⟨Tryz.f297.name,cC,Tryz.func297.trans (bq some cA)⟩
 f25:=⟨Tryz.f298.name,cC,Tryz.func298.trans (bq some cA)⟩
 f26:=⟨Tryz.f299.name,cC,Tryz.func299.trans (bq some cA)⟩
 f27:=⟨Tryz.f300.name,cC,Tryz.func300.trans (bq some cA)⟩
 f28:=Kb.trans (bq some cA)
 f29:=Kc.trans (bq some cA)
 f46:=⟨Tryz.f306.name,cC,Tryz.func306.trans (bq some cA)⟩
 f47:=Ke.trans (bq some cA)
 f48:=Kg.trans (bq some cA)
 f49:=⟨Tryz.f307.name,cC,Tryz.func307.trans (bq some cA)⟩
 f50:=⟨Tryz.f308.name,cC,Tryz.func308.trans (bq some cA)⟩
 f57:=⟨Tryz.f318.name,cC,Tryz.func318.trans (bq some cA)⟩
 t0:=Cf
 a0:=Ja
 z0:=Hd
 v0:=De
 t3:=Ba
 a3:=Gi
 z3:=Ei
 v3:=Bl
 t4:=Cg
 a4:=Jb
 z4:=He
 v4:=Dg
 t5:=Ch
 a5:=Jc
 z5:=Hf
 v5:=Dh
 t9:=Ci
 a9:=Jd
 z9:=Hg
 v9:=Di
 t22:=Tryz.underlying23
 a22:=Tryz.isAgg23
 z22:=Tryz.sizeOf23
 v22:=Tryz.zeroValue23
 a24:=Tryz.isAgg22
 z24:=Tryz.sizeOf22
 t25:=Tryz.underlying110
 a25:=Tryz.isAgg110
 z25:=Tryz.sizeOf110
 v25:=Tryz.zeroValue110
 t39:=zu
 a39:=Cv
 z39:=Bv
 v39:=Ai
 t45:=Dp
 a45:=Ji
 z45:=Hy
 v45:=El
 t46:=Dq
 a46:=Jj
 z46:=Hz
 v46:=Em
 t50:=Dn
 a50:=Jh
 z50:=Hw
 v50:=Ej
 t53:=Bq
 a53:=Ha
 z53:=Fj
 v53:=Ck
 t55:=Bp
 a55:=Gz
 z55:=Fh
 v55:=Cj
 t66:=Dr
 a66:=Jk
 z66:=Ia
 v66:=En
 t70:=Dt
 a70:=Jl
 z70:=Ib
 v70:=Eo
 t76:=Du
 a76:=Jm
 z76:=Ic
 v76:=Ep
 t77:=Dv
 a77:=Jn
 z77:=Ie
 v77:=Er}
end Go.Proofs
namespace Go.Proofs.YtnbfoleohpdhjaaGreat
open Go Go.Eng Go.Pure
open Tryz
set_option maxRecDepth 100000
section
variable {w:World} {ju:AF} {pt jx:Nat} {b:AH}
theorem aNx {c:Int}:
  CF 204 #[.int .u8 c] w (λv R'=>v= .bool (decide (c<128))):=by
 refine fn1 Tryz.func204 Z Z Z ?_;refine wq<|wn Z<|wq<|wm Z<|wL Z Z<|wn Z<|bK ?_;refine⟨_,Z,?_⟩;rfl
theorem aYu {w:World} (fz:Rd w ju pt jx 1 (ints .u8 b)) (cv:aO b) (hN:b.length<=1000000):
  CF 203 #[sl ju pt jx, .func (.func 204) #[] #[]] w (λv R'=>v=I (jN b)):=by
 obtain rfl:=fz.lenI;refine fn1 Tryz.func203 Z Z Z ?_;have Hc:=fz.max;refine wq<|wn Z<|aD<|wq<|wm Z<|wy (aL af Z)<|wm Z<|aA<|aG ?_;refine fG (λ(i:Int)=>[(0,sl ju b.length jx),(1, .func (.func 204) #[] #[]),(7,I (b.length:Int)),(8,I i)]) (λi=>[]) (λi=>(0<=i)/\(i<=b.length)/\(∀j:Int,0<=j->j<i-> ¬rd b j<128)) (λi=>(b.length-i).toNat) ?_ ?_
 ·exact⟨0,⟨G,G,(λj h1 h2=>G)⟩,KP⟩
 intro i ⟨aw,ff,hn⟩;refine wq<|wL Z Z<|aA<|aD<|aX Z (λar=> ?_) (λar=> ?_)
 ·have ux:=cv.rd i;refine aI<|aD<|aG<|wq<|wm Z<|wn Z<|wq<|wm Z<|wm Z<|wm Z<|wy (aF af sz5 Z Z (fz.c _))<|wy (aT az Z Z (fz.c _)) ?_;refine wa (BZ bOj Z Z (Ct.quiet (λw hw=>aNx))) ?_;rintro _ _⟨rfl,rfl⟩;refine aA<|aX Z (λbx=> ?_) (λbx=> ?_)
  ·refine wq<|wm Z<|wn Z<|bK ?_;refine⟨_,Z,?_⟩;exact bq (Value.int .i64) (bFk aw G cF hn).symm
  ·refine aI<|aK<|wA Z Z<|wm Z<|aA ?_
   exact⟨i+1,⟨G,G,(λj h1 h2=>by
     rcases cz j i with h|h
     ·exact hn j h1 h
     ·obtain rfl:j=i:=G
      assumption)⟩,G,KP⟩
 ·refine aR<|wq<|wn Z<|bK ?_;refine⟨_,Z,?_⟩;exact bq (Value.int .i64) (aQt λj h1 h2=>hn j h1 G).symm
theorem bFw {x:Int} (h:0<=x/\x<256):CF 205 #[.int .u8 x] w (λv R'=>v=I ((Lib.bitLen x.toNat:Nat):Int)):=λw' Qo=>(Tryz.bits_Len8 x w' h.1 G).mono (by rintro e Su ⟨he,rfl⟩;exact⟨_,[],he,Qo,rfl⟩)
theorem bFd (fz:Rd w ju pt jx 1 (ints .u8 b)) (cv:aO b) (hN:b.length<=1000000):
  CF 162 #[sl ju pt jx] w (λv R'=>(∃(V:Int) (k:Nat),wT b V k/\v= .tuple #[.int .u64 V,I (k:Int),bt])\/((¬ ∃V k,wT b V k)/\v= .tuple #[.int .u64 0,I 0,bf])):=by
 obtain rfl:=fz.lenI;refine fn3 Tryz.func162 Z Z Z ?_;have Hc:=fz.max;refine wq<|wg Z<|wg Z<|wn Z<|wq<|wm Z<|wa (aC bOk Z (Ct.quiet (λw hw=>aYu ((fz.c _) w hw) cv hN))) ?_;rintro _ _⟨rfl,rfl⟩;refine wn Z<|aD<|wq<|wm Z<|wL Z Z<|wm Z<|bR 3 [(0,sl ju b.length jx),(2, .int .u64 0),(5,I (jN b)),(15, .bool (decide (((jN b)<0)\/(9<(jN b)))))] [] ?_ ?_
 ·refine bJ 12 Z (λar=> ?_) (λar=> ?_)
  ·refine aM Z Z Z Z<|aM Z Z Z Z<|wy (aS Z Z)<|aA ?_;exact KP
  ·refine aB Z Z<|wm Z<|aB Z Z<|wy (bW Z Z)<|wy (aN Z Z)<|aA ?_;exact KP
 refine aA<|aX Z (λbx=> ?_) (λbx=> ?_)
 ·refine wq<|wg Z<|wg Z<|wn Z<|bK ?_;refine⟨_,_,_,Z,Z,Z,?_⟩;exact .inr ⟨aYg cv G,Z⟩
 ·obtain ⟨e,he⟩: ∃e:Nat,jN b=(e:Int):=⟨(jN b).toNat,G⟩;have hef:=BS (b:=b) G;have Px:=cv.rd (jN b);have j9:Lib.bitLen (rd b (jN b)).toNat<=8:=Lib.bitLen_le8 ⟨(rd b (jN b)).toNat,G⟩;refine aI<|aD<|wq<|wm Z<|wy (bW Z Z)<|wm Z<|bR 6 [(0,sl ju b.length jx),(2, .int .u64 0),(5,I (jN b)),(24, .bool (decide ((0<(jN b))/\((rd b (jN b))=0))))] [] ?_ ?_
  ·refine bJ 18 Z (λef=> ?_) (λef=> ?_)
   ·refine aB Z Z<|wm Z<|aB Z Z<|wm Z<|aB Z Z<|wy (aF af sz5 Z Z (fz.c _))<|aB Z Z<|wy (aT az Z Z (fz.c _))<|aB Z Z<|wy (eT Z Z)<|wy (aS Z Z)<|aA ?_;exact KP
   ·refine aM Z Z Z Z<|aM Z Z Z Z<|aM Z Z Z Z<|aM Z Z Z Z<|aM Z Z Z Z<|wy (aN Z Z)<|aA ?_;exact KP
  refine wm Z<|bR 10 [(0,sl ju b.length jx),(2, .int .u64 0),(5,I (jN b)),(35, .bool (decide (((0<(jN b))/\((rd b (jN b))=0))\/(64<((7*(jN b))+((Lib.bitLen (rd b (jN b)).toNat:Nat):Int))))))] [] ?_ ?_
  ·refine bJ 25 Z (λfm=> ?_) (λfm=> ?_)
   ·refine aM Z Z Z Z<|aM Z Z Z Z<|aM Z Z Z Z<|aM Z Z Z Z<|aM Z Z Z Z<|aM Z Z Z Z<|aM Z Z Z Z<|aM Z Z Z Z<|aM Z Z Z Z<|wy (aS Z Z)<|aA ?_;exact KP
   ·refine aB Z Z<|wm Z<|aB Z Z<|wy (jT Z Z)<|aB Z Z<|wm Z<|aB Z Z<|wm Z<|aB Z Z<|wy (aF af sz5 Z Z (fz.c _))<|aB Z Z<|wy (aT az Z Z (fz.c _))<|aB Z Z<|wa (aC bOi Z (Ct.quiet (λw hw=>bFw (cv.rd _)))) ?_;rintro _ _⟨rfl,rfl⟩;refine aB Z Z<|wA Z Z<|aB Z Z<|wy (bW Z Z)<|wy (aN Z Z)<|aA ?_;exact KP
  refine aA<|aX Z (λjt=> ?_) (λjt=> ?_)
  ·refine wq<|wg Z<|wg Z<|wn Z<|bK ?_;refine⟨_,_,_,Z,Z,Z,?_⟩;exact .inr ⟨aYg cv (by first|exact .inr (.inr (jt.imp id λh=>G))|omega),Z⟩
  ·have m8:wT b (jI (b.take (e+1))) (e+1):=by
    rw[he] at jt;refine bFb cv he ?_ G;rcases fo e with z|z
    ·exact .inl z
    ·exact .inr λc=>jt (.inl ⟨G,c⟩)
   refine aI<|aD<|wq<|wm Z<|wm Z<|wA Z Z<|wy (eD af sz5 Z Z (fz.c _))<|wy (aL af Z)<|wm Z<|aA<|aG ?_;refine dI (λ(q:Nat) (x:Int)=>[(2, .int .u64 x),(5,I (jN b)),(39,sl ju (((jN b)+1).toNat) jx),(40,I ((((jN b)+1).toNat:Nat):Int)),(41,I (q:Int))]) (λq x=>[]) (λq x=>(q<=e+1)/\(x=jI (b.take q))) (λq x=>(e+1-q)) ?_ ?_
   ·exact⟨0,0,⟨G,(Z)⟩,KP⟩
   intro q x ⟨hq,hx⟩;refine wq<|wL Z Z<|aA<|aD<|aX Z (λwi=> ?_) (λwi=> ?_)
   ·have hbq:=cv.rd (q:Int);have Gk:rd ((b).take ((jN b)+1).toNat) (q:Int)=rd b (q:Int):=XA G G;have hstp:=CW (b:=b) (q:=q) G;have hmn:=ZI (b:=b) (q:=q+1) (e+1) G G;have hvb:=m8.1.2;have hx0:=xC (b.take q);have Pk:x<2^(7*q):=by rw[hx];exact ZJ q G
    have Sj:0<=rd b (q:Int)%128*2^(7*q):=Ar G (xc G);have Xn:0<=rd b (q:Int)%128*2^(7*q)/\rd b (q:Int)%128*2^(7*q)<18446744073709551616:=⟨Sj,G⟩;refine aI<|aD<|aG<|wq<|wm Z<|wy (aF af sz5 Z Z (RdC.toI (h:=((jN b)+1).toNat) (fz.c _) G))<|wy (aT az Z Z (RdC.toI (h:=((jN b)+1).toNat) (fz.c _) G))<|wg Z<|wn Z<|aK<|wm Z<|wm Z<|wy (aNa Z Z (by rw[Gk];exact hbq)) ?_;refine wy (iM az gy Z)<|wm Z<|wy (Yl.is (jT Z Z) (show Value.int .i64 (7*(q:Int))=Value.int .i64 ((7*q:Nat):Int) by simp))<|wy (wV (k:=7*q) (m:=2^(7*q)) rfl rfl rfl (by rw[Gk];exact Xn) (Nat.ble_eq_true_of_le G)) ?_;refine wy (bMf (p:=(rd ((b).take ((jN b)+1).toNat) (q:Int))%128) (m:=2^(7*q)) (7*q) Z Z Z (by rw[Gk];exact⟨G,G⟩) ⟨G,Pk⟩) ?_;refine wn Z<|aK<|wA Z Z<|wm Z<|aA ?_;exact⟨(q+1),(rd ((b).take ((jN b)+1).toNat) (q:Int))%128*2^(7*q)+x,⟨G,(by rw[Gk,CW G,<-hx])⟩,G,KP⟩
   ·refine aR<|wq<|wm Z<|wm Z<|wA Z Z<|wg Z<|wg Z<|wn Z<|bK ?_;refine⟨_,_,_,Z,Z,Z,?_⟩;have eq:q=e+1:=G
    subst eq;subst hx;exact .inl ⟨_,e+1,m8,by rw[he];rfl⟩
end
section
variable {w w0:World} {an:AF} {ba am B g:Nat} {u:AH} {R:List Row} {V:Int}
theorem vZ (ac:Rd w an ba am 1 (ints .u8 u)) (hN:u.length<=1000000):
  CF 24 #[sl an ba am] w (λv R'=> ∃g A c,v=PG g/\R'=[(rc 104 1 g [sl A u.length c]),(ru 5 A u.length c u)]):=by
 obtain rfl:=ac.lenI;refine fn1 Tryz.func24 Z Z Z ?_;have ia:=ac.max;refine wq<|wn Z<|wq<|wm Z<|wa (aC aRc Z (Ct.fresh (λw hw=>rT ((ac.c _) w hw) hN))) ?_;rintro _ _⟨_,rfl,cm,ci,rfl,rfl⟩;refine wy (iC (v:= .agg #[sl cm u.length ci]) Z (λw=>cA))<|wa (bX (sz:=1) rfl rfl) ?_;rintro _ _⟨gw,rfl,rfl⟩;refine wn Z<|bO (R1:=[(rc 104 1 gw [sl cm u.length ci]),(ru 5 cm u.length ci u)]) hiZ ?_;exact⟨_,Z,_,_,_,Z,Z⟩
theorem BD {k:Int} (ac:RdC B w0 R an ba am 1 (ints .u8 u)) (ce:ba=u.length) (hN:u.length<=1000000) (hk:0<=k/\k<=u.length):
  CT 105 #[PG g,I k] B w0 ((rc 104 1 g [sl an ba am])::R) (λv R'=> ∃A1 c1,v= .tuple #[sl A1 k.toNat c1,bt]/\R'=(ru 5 A1 k.toNat c1 (u.take k.toNat))::(rc 104 1 g [sl ((jO an k.toNat am 1)) (ba-k.toNat) (am-k.toNat)])::R):=by
 subst ce;refine fn2 Tryz.func105 Z Z Z ?_;refine wq<|wg Z<|wn Z<|aD<|wq<|wm Z<|wy (kZ yz Z Z)<|wm Z<|aB Z Z<|wm Z<|aB Z Z<|wy (Yl.f (eQ Z Z)) ?_;refine wy (aN Z Z)<|wm Z<|aB Z Z<|wm Z<|aB Z Z<|wm Z<|aB Z Z<|wy (aH Z)<|aB Z Z<|wy (yF 0 0 Ap cZ Z)<|aB Z Z<|wy (yL 0 af Z Z Z)<|aB Z Z<|wy (aL af Z)<|aB Z Z ?_;refine wy (Yl.f (bW Z Z))<|wy (aN Z Z)<|aA<|aP Z<|aI<|wq<|wm Z<|wy (aH Z)<|wy (yF 0 0 Ap cZ Z)<|wy (yL 0 af Z Z Z)<|wm Z<|wy (eD af sz5 Z Z (RdC.right ac [_]))<|wa (aC aRc Z (Ct.fresh (λw hw=>rT ((RdC.toI (RdC.right ac [_]) G) w hw) (by rw[ax];omega)))) ?_;rintro _ _⟨_,rfl,cm,ci,rfl,rfl⟩;refine wn Z<|wq<|wm Z<|wm Z<|wy (aH Z)<|wy (yF 0 0 Ap cZ Z)<|wy (yL 1 af Z Z Z)<|wm Z<|wy (dH af sz5 Z Z)<|wy (aH Z)<|wy (yF 0 0 Ap cZ Z)<|bZ (bB 1 Z Z Z cZ Z Z Z Z (ak Z)) ?_;rintro _ _ rfl;refine aA<|wq<|wm Z<|wg Z<|wn Z<|bO (R1:=((ru 5 cm (((u).take (k).toNat).length) ci ((u).take (k).toNat))::(rc 104 1 g [sl (jO an (k).toNat am 1) (u.length-(k).toNat) (am-(k).toNat)])::R)) hiZ ?_;refine⟨_,_,Z,Z,?_⟩;have e:(u.take k.toNat).length=k.toNat:=by rw[ax];omega
 rw[e];exact⟨_,_,Z,Z⟩
theorem aQe {ju:AF} {pt jx:Nat} {b:AH} {k:Nat} (fz:Rd w ju pt jx 1 (ints .u8 b)) (cv:aO b) (hN:b.length<=1000000) (h:wT b V k):CF 162 #[sl ju pt jx] w (λv R'=>v= .tuple #[.int .u64 V,I (k:Int),bt]):=
 (bFd fz cv hN).mono λv R' hv=>by
  rcases hv with⟨V',k',g,rfl⟩|⟨g,rfl⟩
  ·obtain ⟨rfl,rfl⟩:=g.one h;rfl
  ·exact(g ⟨V,k,h⟩).elim
theorem WH {ew:Int} {m:Nat} (ac:RdC B w0 R an ba am 1 (ints .u8 u)) (ce:ba=u.length) (hN:u.length<=1000000) (al:aO u) (hG:wT u V m) (hm:V<=ew) (hb:ew<=9223372036854775807):
  CT 106 #[PG g,I ew] B w0 ((rc 104 1 g [sl an ba am])::R) (λv R'=>v= .tuple #[I V,bt]/\R'=(rc 104 1 g [sl (jO an m am 1) (ba-m) (am-m)])::R):=by
 subst ce;have hg1:=hG.1;have hgm:m<=u.length:=by obtain⟨_,h2,t,h3⟩:=hG;have h4:=bq List.length h3;rw[ah] at h4;omega
 refine fn2 Tryz.func106 Z Z Z ?_;refine wq<|wg Z<|wn Z<|aD<|wq<|wm Z<|wy (kZ yz Z Z)<|wm Z<|aB Z Z<|wm Z<|aB Z Z<|wy (Yl.f (eQ Z Z)) ?_;refine wy (aN Z Z)<|aA<|aP Z<|aI<|wq<|wm Z<|wy (aH Z)<|wy (yF 0 0 Ap cZ Z)<|wy (yL 0 af Z Z Z)<|wa (aC bPd Z (Ct.quiet (λw hw=>aQe ((RdC.right ac [_]) w hw) al hN hG))) ?_;rintro _ _⟨rfl,rfl⟩;refine wm Z<|wX Z Z<|wX Z Z<|wX Z Z<|wg Z<|wg Z<|wn Z<|aD<|wq<|wm Z<|wy (dC Z)<|wm Z<|aB Z Z ?_;refine wm Z<|aB Z Z<|wm Z<|aB Z Z<|wy (iM au gy Z)<|aB Z Z<|wy (Yl.f (bW Z Z))<|wy (aN Z Z)<|aA<|aP Z<|aI<|wq<|wm Z<|wm Z ?_;refine wy (aH Z)<|wy (yF 0 0 Ap cZ Z)<|wy (yL 0 af Z Z Z)<|wm Z<|wy (dH af sz5 Z Z)<|wy (aH Z)<|wy (yF 0 0 Ap cZ Z)<|bZ (bB 0 Z Z Z cZ Z Z Z Z (ak Z)) ?_;rintro _ _ rfl;refine aA<|wq<|wm Z<|wy (jG gy au Z)<|wg Z<|wn Z<|bO (R1:=((rc 104 1 g [sl (jO an ((m:Int)).toNat am 1) (u.length-((m:Int)).toNat) (am-((m:Int)).toNat)])::R)) hiZ ?_;refine⟨_,_,Z,Z,?_⟩;exact⟨Z,Z⟩
end
section
variable {B ie dg Bs:Nat} {w0 w:World} {R:List Row} {dj:AF} {s:AH}
theorem TD:
  CT 258 #[sl dj ie dg] B w0 R (λv R'=> ∃g,v= .func (.func 289) #[] #[PG g]/\R'=(rc 52 1 g [sl dj ie dg])::R):=by
 refine fn1 Tryz.func258 Z Z Z ?_;refine wq<|wa (bX (sz:=1) Z Z) ?_;rintro _ _⟨g,rfl,rfl⟩;refine wn Z<|wq<|wy (mX Z Z)<|wn Z<|bK ?_;exact⟨_,Z,g,Z,Z⟩
theorem aEd:
  CT 214 #[sl dj ie dg] B w0 R (λv R'=> ∃g,v= .func (.func 245) #[] #[PG g]/\R'=(rc 52 1 g [sl dj ie dg])::R):=by
 refine fn1 Tryz.func214 Z Z Z ?_;refine wq<|wa (bX (sz:=1) Z Z) ?_;rintro _ _⟨g,rfl,rfl⟩;refine wn Z<|wq<|wy (mX Z Z)<|wn Z<|bK ?_;exact⟨_,Z,g,Z,Z⟩
theorem aTs {l:AH} {k:Nat} (h:k<l.length):l.take k++[rd l (k:Int)]=l.take (k+1):=by
 rw[qy,av h,rd,dh,ai,av h];rfl
theorem YO {Bs:Nat} (co:Rd w dj ie dg 1 (ints .i64 s)) (fz:Rd w (GG Bs) 1 1 1 [sl dj ie dg]) (hN:s.length<=1000000):
  CF 304 #[sl none 0 0, .func (.func 289) #[] #[PG Bs]] w (λv R'=> ∃A c,v=sl A (s).length c/\R'=[(ri 3 A ((s).length) c (s))]):=by
 refine fnV Tryz.func304 Z Z ?_;obtain rfl:=co.lenI;refine dU ?_;refine aK<|wa (bX (sz:=1) Z Z) ?_;rintro _ _⟨ap,rfl,rfl⟩;refine eZ (ri 3 none 0 0 ([]))<|wn Z ?_;refine JN ?_;refine dU ?_;refine aK<|wm Z<|aA ?_;refine tH ?_;refine CX Z bNh (aEt (A:=dj) (c:=dg) (zs:=s)) Z (λ_=>Z) Gd.refl (λ(kr:Nat) (A1:AF) (n1:Nat) (c1:Nat) (acc:AH)=>[(ri 3 A1 n1 c1 acc),(rc 52 1 ap [sl A1 n1 c1])]) (λkr A1 n1 c1 acc=>(n1=acc.length)/\(acc=s.take kr)) ?_ ?_ ?_ ?_
 ·exact⟨none,0,0,[],⟨(Z),(zb.symm)⟩,λ_ h=>h⟩
 ·intro kr A1 n1 c1 acc w ⟨cj,bb⟩ hw;exact⟨(fz.c _) w hw,(co.c _) w hw⟩
 ·intro lr kr A1 n1 c1 acc Yp Mb ⟨cj,bb⟩ s7;have b7:acc.length<=s.length:=by rw[bb,ax];omega
  refine aK<|wn Z ?_;intro Qw xt;refine aG<|aK<|wy (yL 1 aa Z Z Z)<|wm Z<|wa (bF .i64 [rd s (kr:Int)] aa zs3 Z Z Z) ?_;rintro _ _⟨ir,rfl,rfl⟩;refine wa (aQ 1 Z aa zb3 Z Z Z (rdr 0 Z)) ?_;rintro _ _⟨gv,jn,rfl,rfl⟩;refine bC (v:=sl gv (n1+1) jn) Z<|bZ (bB 2 Z Z Z eY Z Z Z Z (ak Z)) ?_;rintro _ _ rfl;refine aA ?_;exact⟨gv,(n1+1),jn,acc++([rd s (kr:Int)]),⟨(by rw[ah,cj];try rfl),(by rw[bb];exact aTs Mb)⟩,λ_=>λ_ h=>h.sel [1,2] cC Z⟩
 intro Qx DW1 A1 n1 c1 acc ⟨cj,bb⟩ Ln xo;refine MW ?_;refine ZK ?_;refine v_w ?_;refine wq<|wy (yL 1 aa Z Z Z)<|wn Z<|aU [0] 99 ?_;refine bMu Z xo ⟨_,Z,?_⟩;rw[qc] at bb;subst cj;subst bb;exact⟨_,_,Z,Z⟩
theorem aIe {Bs:Nat} (co:Rd w dj ie dg 1 (ints .i64 s)) (fz:Rd w (GG Bs) 1 1 1 [sl dj ie dg]) (hN:s.length<=1000000):
  CF 287 #[.func (.func 289) #[] #[PG Bs]] w (λv R'=> ∃A c,v=sl A (s).length c/\R'=[(ri 3 A ((s).length) c (s))]):=by
 refine fn1 Tryz.func287 Z Z Z ?_;refine wq<|wn Z<|wq<|wm Z<|wa (aC bNg Z (Ct.fresh (λw hw=>YO ((co.c _) w hw) ((fz.c _) w hw) G))) ?_;rintro _ _⟨_,rfl,cm,ci,rfl,rfl⟩;refine wn Z<|aU [0] 99 ?_;exact⟨_,Z,_,_,Z,Z⟩
theorem TR {Bs:Nat} (co:Rd w dj ie dg 1 (ints .i64 s)) (fz:Rd w (GG Bs) 1 1 1 [sl dj ie dg]) (hN:s.length<=1000000):
  CF 257 #[.func (.func 289) #[] #[PG Bs]] w (λv R'=> ∃A c,v=sl A (oM s).length c/\R'=[(ri 3 A ((oM s).length) c (oM s))]):=by
 refine fn1 Tryz.func257 Z Z Z ?_;refine wq<|wn Z<|wq<|wm Z<|wa (aC bNj Z (Ct.fresh (λw hw=>aIe ((co.c _) w hw) ((fz.c _) w hw) G))) ?_;rintro _ _⟨_,rfl,cm,ci,rfl,rfl⟩;refine wn Z<|wq<|wm Z<|wa (aC bNi Z (aNt Tryz.slices_Sort_int Tryz.slices_Sort_int_none 0 Z G)) ?_;rintro _ _⟨rfl,rfl⟩;refine aA<|wq<|wm Z<|wn Z<|aU [0] 99 ?_;refine⟨_,Z,?_⟩;have e:s.length=(oM s).length:=(mY s).length_eq.symm;rw[e];exact⟨_,_,Z,Z⟩
end
section
variable {s:AH} {w:World} {dj:AF} {ie dg:Nat}
theorem bJn {V:AH} {h:Nat} (hl:V.length=s.length) (hV: ∀j:Int,0<=j->j<s.length->rd V j=rkS s h j.toNat):V=rkL s h:=
 bI (hl.trans (DY s h).symm) λj h1 h2=>by rw[sD h1 G];exact hV j h1 G
theorem aOu (co:Rd w dj ie dg 1 (ints .i64 s)) (hN:s.length<=100000):
  CF 238 #[sl dj ie dg] w (λv R'=> ∃A c,v=sl A (s.length) c/\R'=[(ri 3 A s.length c (rkL s 1))]):=by
 obtain rfl:=co.lenI;refine fn1 Tryz.func238 Z Z Z ?_;have l3:=co.max;refine wq<|wn Z<|wq<|wm Z<|wa (aC bHt Z (TD)) ?_;rintro _ _⟨ap,rfl,rfl⟩;refine wa (aC bHu Z (Ct.fresh (λw hw=>TR ((co.c _) w hw) ((rdr 0 Z) w hw) G))) ?_;rintro _ _⟨_,rfl,dv,dy,rfl,rfl⟩;refine wn Z<|wq<|wm Z<|wy (aL aa Z)<|wa (dK aa zb3 Z Z) ?_;rintro _ _⟨nd,rfl,rfl⟩;refine bC (v:=sl (GG nd) s.length s.length) Z<|wn Z<|aD<|wq<|wm Z<|wy (aL aa Z)<|wm Z<|aA<|aG ?_;refine dI (λ(i:Int) (V:AH)=>[(3,sl dv ((oM s).length) dy),(4,sl (GG nd) s.length s.length),(13,sl dj s.length dg),(14,I (s.length:Int)),(15,I i)]) (λi V=>[(ri 3 (GG nd) s.length s.length V),(ri 3 dv ((oM s).length) dy (oM s)),(rc 52 1 ap [sl dj s.length dg])]) (λi V=>(0<=i)/\(i<=s.length)/\(V.length=s.length)/\(∀j:Int,0<=j->j<i->rd V j=rkS s 1 j.toNat)) (λi V=>(s.length-i).toNat) ?_ ?_
 ·exact⟨0,List.replicate s.length (0:Int),⟨G,G,(by rw[bz]),(λj h1 h2=>G)⟩,KP⟩
 intro i V ⟨aw,ff,kc,hV⟩;refine wq<|wL Z Z<|aA<|aD<|aX Z (λar=> ?_) (λar=> ?_)
 ·refine aI<|aD<|aG<|wq<|wm Z<|wy (aF aa sz3 Z Z (co.c _))<|wy (aT au Z Z (co.c _))<|wg Z<|wn Z<|aK<|wm Z<|wm Z<|wm Z ?_;refine wm Z<|wa (aC bNl Z (aQk Tryz.slices_BinarySearch_int Tryz.slices_BinarySearch_int_empty 1 Z (by rw[(mY s).length_eq];omega) (DL s))) ?_;rintro _ _⟨rfl,rfl⟩;refine wm Z<|wX Z Z<|wX Z Z<|wy (aF aa sz3 Z Z (rdr 0 Z))<|bZ (bE 0 Z sz3 Z Z) ?_;rintro _ _ rfl;refine aA<|aK<|wA Z Z<|wm Z<|aA ?_;exact⟨i+1,upd V i (((oM s).countP λy=>decide (y<rd s i):Nat):Int),⟨G,G,(by rw[aY];exact kc),(fH (f:=λj=>(rkS s 1 j.toNat:Int)) aw G hV (by rw[bJk G,(mY s).countP_eq];rfl))⟩,G,KP⟩
 ·refine aR<|wq<|wm Z<|wn Z<|aU [0] 99 ?_;refine⟨_,Z,?_⟩;obtain rfl:V=rkL s 1:=bJn kc (λj h1 h2=>hV j h1 G);exact⟨_,_,Z,Z⟩
theorem aGg {h:Int} (co:Rd w dj ie dg 1 (ints .i64 s)) (h0:0<=h) (hN:s.length<=100000):
  CF 202 #[sl dj ie dg,I h] w (λv R'=> ∃A c,v=sl A (s.length) c/\R'=[(ri 3 A s.length c (rkL s h.toNat))]):=by
 obtain rfl:=co.lenI;refine fn1 Tryz.func202 Z Z Z ?_;have l3:=co.max;refine wq<|wn Z<|aD<|wq<|wm Z<|wL Z Z<|wm Z<|bR 4 [(0,sl dj s.length dg),(1,I h),(14, .bool (decide ((h<0)\/(100000<(s.length:Int)))))] [] ?_ ?_
 ·refine bJ 10 Z (λar=> ?_) (λar=> ?_)
  ·refine aM Z Z Z Z<|aM Z Z Z Z<|aM Z Z Z Z<|wy (aS Z Z)<|aA ?_;exact KP
  ·refine aB Z Z<|wm Z<|aB Z Z<|wy (aL aa Z)<|aB Z Z<|wy (bW Z Z)<|wy (aN Z Z)<|aA ?_;exact KP
 refine qV 14 Z G<|aA<|aP Z<|aI<|wq<|wm Z<|wy (aL aa Z)<|wa (dK aa zb3 Z Z) ?_;rintro _ _⟨db,rfl,rfl⟩;refine bC (v:=sl (GG db) s.length s.length) Z<|wn Z<|aD<|wq<|wm Z<|wy (eT Z Z)<|aA<|aX Z (λbx=> ?_) (λbx=> ?_)
 ·refine wq<|wm Z<|wn Z<|aU [0] 99 ?_;refine⟨_,Z,?_⟩;have e:h.toNat=0:=G
  rw[e,aUp];exact⟨_,_,Z,Z⟩
 ·refine aI<|wq<|wm Z<|wa (aC bNv Z (Ct.fresh (λw hw=>aOu ((co.c _) w hw) cE))) ?_;rintro _ _⟨_,rfl,kt,lj,rfl,rfl⟩;refine wn Z<|wq<|wm Z<|wm Z<|wy (aL aa Z)<|wy (rV Z Z)<|wn Z<|aD<|wq<|wn Z ?_;refine aG ?_;refine LC (λ(n:Int) (A1:AF) (c1:Nat) (L:AH)=>[(1,I (min h (s.length:Int))),(5,sl A1 s.length c1),(6,I n)]) (λn A1 c1 L=>[(ri 3 A1 s.length c1 L),(ri 3 (GG db) s.length s.length (List.replicate s.length (0:Int)))]) (λn A1 c1 L=>(1<=n)/\(n=1\/n<=min h (s.length:Int))/\(L=rkL s n.toNat)) (λn A1 c1 L=>(min h (s.length:Int)-n).toNat) ?_ ?_
  ·exact⟨1,kt,lj,rkL s 1,⟨G,G,(Z)⟩,KP⟩
  intro n A1 c1 L ⟨cj,nh,hL⟩;refine aD<|wq<|wm Z<|wm Z<|wL Z Z<|aA<|aX Z (λef=> ?_) (λef=> ?_)
  ·refine aI<|aG<|wq<|wm Z<|wm Z<|wm Z<|wS Z Z<|wy (rV Z Z)<|wn Z<|wq<|wm Z<|wm Z ?_;refine wa (aC bNu Z (Ct.fresh (λw hw=>aPu (s:=s) (n:=n.toNat) (b:=(min n (min h (s.length:Int)-n)).toNat) ((rdr 0 Z) w hw) hL G G G ⟨hN,G⟩))) ?_;rintro _ _⟨_,rfl,vq,vu,dt,du,rfl,rfl⟩;refine wm Z<|wX Z Z<|wX Z Z<|wn Z<|aK<|wm Z<|wm Z<|wA Z Z<|wn Z ?_;exact⟨n+(min n ((min h (s.length:Int))-n)),vq,vu,rkL s (n.toNat+(min n (min h (s.length:Int)-n)).toNat),⟨G,G,(by congr 1;omega)⟩,G,SA,λ_ h=>h.sel [0,3] cC Z⟩
  ·refine aR<|wq<|wm Z<|wn Z<|aU [0] 99 ?_;refine⟨_,Z,?_⟩
   have e:rkL s n.toNat=rkL s h.toNat:=by
    rcases fo s.length with z|z
    ·exact aUq z _ _
    ·rcases cz h s.length with a|a
     ·rw[show n.toNat=h.toNat by omega]
     ·rw[bJm (h:=h.toNat) G,show n.toNat=s.length by omega]
   rw[hL,e];exact⟨_,_,Z,Z⟩
theorem aPz {s:AH} {k:Int} (co:Rd w dj ie dg 1 (ints .i64 s)) (dq:(0<=k/\k<=1048576)/\ ∀x∈s,0<=x/\x<k) (hN:s.length<=100000):
  CF 156 #[sl dj ie dg,I k] w (λv R'=> ∃(out:AH) (A:AF) (c:Nat),v= .tuple #[sl A s.length c,I 0]/\out.length=s.length/\(∀q:Nat,q<s.length->rd out (rkS s s.length q)=q)/\R'=[(ri 3 A s.length c out)]):=by
 obtain rfl:=co.lenI;refine fn2 Tryz.func156 Z Z Z ?_;have l3:=co.max;refine wq<|wg Z<|wn Z<|aD<|wq<|wm Z<|wy (aL aa Z)<|wy (Yl.f (bW Z Z))<|aA<|aP Z<|aI<|aD ?_;refine wq<|wm Z<|wm Z<|wa (aC aCz Z (Ct.fresh (λw hw=>qJ ((co.c _) w hw) cE))) ?_;rintro _ _⟨_,rfl,cm,ci,rfl,rfl⟩;refine wm Z<|wX Z Z<|wX Z Z<|wg Z<|wn Z<|wq<|wm Z<|wy (dC Z)<|aA<|aP Z<|aI<|wq ?_;refine wm Z<|wy (aL aa Z)<|wa (dK aa zb3 Z Z) ?_;rintro _ _⟨ir,rfl,rfl⟩;refine bC (v:=sl (GG ir) s.length s.length) Z<|wn Z<|aD<|wq<|wm Z<|wm Z<|wy (aL aa Z)<|wa (aC bOl Z (Ct.fresh (λw hw=>aGg ((co.c _) w hw) G cE))) ?_;rintro _ _⟨_,rfl,gv,jn,rfl,rfl⟩;refine wy (aL aa Z)<|wm Z<|aA<|aG ?_;refine dI (λ(i:Int) (V:AH)=>[(8,sl (GG ir) s.length s.length),(28,sl gv ((s).length) jn),(29,I (((s).length:Nat):Int)),(30,I i)]) (λi V=>[(ri 3 gv ((s).length) jn (rkL s ((s.length:Int)).toNat)),(ri 3 (GG ir) s.length s.length V),(ri 3 cm ((k).toNat) ci (fI s k))]) (λi V=>(0<=i)/\(i<=s.length)/\(V.length=s.length)/\(∀q:Nat,(q:Int)<i->rd V (rkS s s.length q)=q)) (λi V=>(s.length-i).toNat) ?_ ?_
 ·exact⟨0,List.replicate s.length (0:Int),⟨G,G,(by rw[bz]),(λq h=>G)⟩,KP⟩
 intro i V ⟨aw,ff,kc,hV⟩;refine wq<|wL Z Z<|aA<|aD<|aX Z (λar=> ?_) (λar=> ?_)
 ·have hr:rd (rkL s (s.length:Int).toNat) i=(rkS s s.length i.toNat:Int):=by rw[dh];exact sD aw G
  have ht:=DW (s:=s) (h:=s.length) (i:=i.toNat) G;refine aI<|aD<|aG<|wq<|wm Z<|wy (aF aa sz3 Z Z (rdr 0 Z))<|wy (aT au Z Z (rdr 0 Z))<|wg Z<|wn Z<|aK<|wm Z<|wm Z<|wm Z ?_;refine wy (aF aa sz3 Z Z (rdr 1 Z) (by rw[hr];omega) (by rw[hr];omega)) ?_;refine bZ (bE 1 Z sz3 Z Z (by rw[hr];omega) (by rw[hr];omega)) ?_;rintro _ _ rfl;refine aA<|aK<|wA Z Z<|wm Z<|aA ?_
  exact⟨i+1,upd V (rd (rkL s ((s.length:Int)).toNat) i) i,⟨G,G,(by rw[aY];exact kc),(λq h=>by
    rw[hr];have:=aAv (m:=i.toNat) G kc (λq h=>hV q G) q G
    rwa[show(i.toNat:Int)=i by omega] at this)⟩,G,KP⟩
 ·refine aR<|wq<|wm Z<|wg Z<|wn Z<|aU [1] 99 ?_;refine⟨_,_,Z,Z,?_⟩;exact⟨V,_,_,Z,kc,λq h=>hV q G,Z⟩
theorem aIq {an:AF} {ba am:Nat} {u:AH} (ac:Rd w an ba am 1 (ints .u8 u)) (al:aO u) (hN:u.length<=100000):
  CF 97 #[sl an ba am] w (λv R'=> ∃(out:AH) (A:AF) (c:Nat),v= .tuple #[sl A u.length c,I 0]/\out.length=u.length/\(∀q:Nat,q<u.length->rd out (rkS u u.length q)=q)/\R'=[(ri 3 A u.length c out)]):=by
 obtain rfl:=ac.lenI;refine fn2 Tryz.func97 Z Z Z ?_;have ia:=ac.max;refine wq<|wg Z<|wn Z<|aD<|wq<|wm Z<|wy (aL af Z)<|wy (Yl.f (bW Z Z))<|aA<|aP Z<|aI<|aD ?_;refine aK<|wm Z<|wy (aL af Z)<|wa (dK aa zb3 Z Z) ?_;rintro _ _⟨ap,rfl,rfl⟩;refine bC (v:=sl (GG ap) u.length u.length) Z<|wn Z<|aD<|wq<|wm Z<|wy (aL af Z)<|wm Z<|aA<|aG ?_;refine dI (λ(i:Int) (V:AH)=>[(4,sl (GG ap) u.length u.length),(13,sl an u.length am),(14,I (u.length:Int)),(15,I i)]) (λi V=>[(ri 3 (GG ap) u.length u.length V)]) (λi V=>(0<=i)/\(i<=u.length)/\(V.length=u.length)/\(∀j:Int,0<=j->j<i->rd V j=rd u j)) (λi V=>(u.length-i).toNat) ?_ ?_
 ·exact⟨0,List.replicate u.length (0:Int),⟨G,G,(by rw[bz]),(λj h1 h2=>G)⟩,KP⟩
 intro i V ⟨aw,ff,kc,hV⟩;refine wq<|wL Z Z<|aA<|aD<|aX Z (λar=> ?_) (λar=> ?_)
 ·have ux:=al.rd i;refine aI<|aD<|aG<|wq<|wm Z<|wy (aF af sz5 Z Z (ac.c _))<|wy (aT az Z Z (ac.c _))<|wg Z<|wn Z<|aK<|wm Z<|wm Z<|wm Z ?_;refine wy (jG az au Z)<|wy (aF aa sz3 Z Z (rdr 0 Z))<|bZ (bE 0 Z sz3 Z Z) ?_;rintro _ _ rfl;refine aA<|aK<|wA Z Z<|wm Z<|aA ?_;exact⟨i+1,upd V i (rd u i),⟨G,G,(by rw[aY];exact kc),(fH (f:=λj=>rd u j) aw G hV Z)⟩,G,KP⟩
 ·have Vg:V=u:=bI kc (λj h1 h2=>hV j h1 G);refine aR<|wq<|wm Z<|wa (aC bPg Z (Ct.fresh (λw hw=>aPz ((rdr 0 Z) w hw) ⟨G,λx hx=>by rw[Vg] at hx;have:=al x hx;omega⟩ G))) ?_;rintro _ _⟨_,rfl,o1,o4,o5,rfl,Mc,Ml,rfl⟩;refine wX Z Z<|wX Z Z<|wg Z<|wn Z<|aU [0] 99 ?_;refine⟨_,_,Z,Z,?_⟩;subst Vg;exact⟨o1,_,_,Z,Mc,Ml,Z⟩
end
section
variable {w:World} {an:AF} {ba am:Nat} {u:AH}
theorem aEp {pe:AF} {se pj:Nat} {t:AH} (ac:Rd w an ba am 1 (ints .i64 u)) (sd:Rd w pe se pj 1 (ints .i64 t)):
  CF 196 #[sl an ba am,sl pe se pj] w (λv R'=>v=I (cmpL u t)):=by
 obtain rfl:=ac.lenI;obtain rfl:=sd.lenI;refine fn1 Tryz.func196 Z Z Z ?_;have ia:=ac.max;have Yc:=sd.max;refine wq<|wn Z<|aD<|wq<|wn Z<|aG ?_;refine fG (λ(i:Int)=>[(0,sl an u.length am),(1,sl pe t.length pj),(5,I i)]) (λi=>[]) (λi=>(0<=i)/\(i<=u.length)/\(i<=t.length)/\(cmpL u t=cmpL (u.drop i.toNat) (t.drop i.toNat))) (λi=>(u.length-i).toNat) ?_ ?_
 ·exact⟨0,⟨G,G,G,cD⟩,KP⟩
 intro i ⟨aw,Rz,hit,hc⟩;refine aD<|wq<|wm Z<|wm Z<|wy (aL aa Z)<|wL Z Z<|wm Z<|bR 5 [(0,sl an u.length am),(1,sl pe t.length pj),(5,I i),(15, .bool (decide ((i<(u.length:Int))/\(i<(t.length:Int)))))] [] ?_ ?_
 ·refine bJ 10 Z (λar=> ?_) (λar=> ?_)
  ·refine aB Z Z<|wm Z<|aB Z Z<|wm Z<|aB Z Z<|wy (aL aa Z)<|aB Z Z<|wL Z Z<|wy (aS Z Z)<|aA ?_;exact KP
  ·refine aM Z Z Z Z<|aM Z Z Z Z<|aM Z Z Z Z<|aM Z Z Z Z<|wy (aN Z Z)<|aA ?_;exact KP
 refine aA<|aX Z (λbx=> ?_) (λbx=> ?_)
 ·refine aI<|aD<|aG<|aD<|aD<|bD mixed<|wD 0 Z (aJ Z)<|wD 1 Z (aJ Z)<|wD 2 Z (aF aa sz3 Z Z (ac.c _))<|wD 3 Z (aT au Z Z (ac.c _))<|wD 4 Z (aJ Z)<|wD 5 Z (aJ Z)<|wD 6 Z (aF aa sz3 Z Z (sd.c _))<|wD 7 Z (aT au Z Z (sd.c _))<|wD 8 Z (eQ Z Z) ?_;refine wN<|aX Z (λef=> ?_) (λef=> ?_)
  ·refine wq<|wn Z<|bK ?_;refine⟨_,Z,?_⟩;exact bq (Value.int .i64) (by rw[hc,rR aw G G,dm G])
  ·refine aI<|aD<|bD mixed<|wD 0 Z (aJ Z)<|wD 1 Z (aJ Z)<|wD 2 Z (aF aa sz3 Z Z (ac.c _))<|wD 3 Z (aT au Z Z (ac.c _))<|wD 4 Z (aJ Z)<|wD 5 Z (aJ Z)<|wD 6 Z (aF aa sz3 Z Z (sd.c _))<|wD 7 Z (aT au Z Z (sd.c _))<|wD 8 Z (bW Z Z)<|wN<|aX Z (λfm=> ?_) (λfm=> ?_)
   ·refine wq<|wn Z<|bK ?_;refine⟨_,Z,?_⟩;exact bq (Value.int .i64) (by rw[hc,rR aw G G,df G,dm G])
   ·refine aI<|aK<|wm Z<|wA Z Z<|wn Z ?_;exact⟨i+1,⟨G,G,G,(by rw[hc,rR aw G G,df G,df G])⟩,G,KP⟩
 ·refine aR<|aD<|aG<|wq<|wm Z<|wy (aL aa Z)<|wm Z<|wy (aL aa Z)<|wL Z Z<|wn Z<|aX Z (λjt=> ?_) (λjt=> ?_)
  ·refine wq<|wn Z<|bK ?_;refine⟨_,Z,?_⟩;exact bq (Value.int .i64) (by rw[hc,uX aw Rz hit G,dm G])
  ·refine wq<|wm Z<|wy (aL aa Z)<|wm Z<|wy (aL aa Z)<|wy (bW Z Z)<|wn Z<|aX Z (λwi=> ?_) (λwi=> ?_)
   ·refine wq<|wn Z<|bK ?_;refine⟨_,Z,?_⟩;exact bq (Value.int .i64) (by rw[hc,uX aw Rz hit G,df G,dm G])
   ·refine aI<|wq<|wn Z<|bK ?_;refine⟨_,Z,?_⟩;exact bq (Value.int .i64) (by rw[hc,uX aw Rz hit G,df G,df G])
theorem aYa {lf:AF} {pc ln:Nat} {l:AH} {wc:AF} {Yg wd:Nat} {m:AH} (js:Rd w lf pc ln 1 (ints .i64 l)) (xr:Rd w wc Yg wd 1 (ints .i64 m)) (hN:l.length<=1000000):
  CF 23 #[sl lf pc ln,sl wc Yg wd] w (λv R'=>v= .bool (decide (l=m))):=by
 obtain rfl:=js.lenI;obtain rfl:=xr.lenI;refine fn1 Tryz.func23 Z Z Z ?_;have Qp:=js.max;have m_m:=xr.max;refine wq<|wn Z<|aD<|wq<|wm Z<|wy (aL aa Z)<|wm Z<|wy (aL aa Z)<|wy (fQ Z Z)<|aA<|aX Z (λar=> ?_) (λar=> ?_)
 ·refine wq<|wn Z<|bK ?_;refine⟨_,Z,?_⟩;exact bq Value.bool (nk (λe=>by rw[e] at ar;exact ar rfl)).symm
 ·refine aI<|aD<|wq<|wn Z<|aG ?_;refine fG (λ(k:Int)=>[(0,sl lf l.length ln),(1,sl wc m.length wd),(5,I k)]) (λk=>[]) (λk=>(0<=k)/\(k<=l.length)/\(l.take k.toNat=m.take k.toNat)) (λk=>(l.length-k).toNat) ?_ ?_
  ·exact⟨0,⟨G,G,(Z)⟩,KP⟩
  intro k ⟨iu,vd,hq⟩;refine aD<|wq<|wm Z<|wm Z<|wy (aL aa Z)<|wL Z Z<|aA<|aX Z (λbx=> ?_) (λbx=> ?_)
  ·refine aI<|aD<|aG<|aD<|bD mixed<|wD 0 Z (aJ Z)<|wD 1 Z (aJ Z)<|wD 2 Z (aF aa sz3 Z Z (js.c _))<|wD 3 Z (aT au Z Z (js.c _))<|wD 4 Z (aJ Z)<|wD 5 Z (aJ Z)<|wD 6 Z (aF aa sz3 Z Z (xr.c _))<|wD 7 Z (aT au Z Z (xr.c _))<|wD 8 Z (fQ Z Z)<|wN ?_;refine aX Z (λef=> ?_) (λef=> ?_)
   ·refine wq<|wn Z<|bK ?_;refine⟨_,Z,?_⟩;exact bq Value.bool (nk (λe=>by subst e;exact ef rfl)).symm
   ·refine aI<|aK<|wm Z<|wA Z Z<|wn Z ?_;exact⟨k+1,⟨G,G,(by rw[dJ iu G,dJ iu G,hq];exact bq (λz=>List.take k.toNat m++[z]) (uy.1 cF))⟩,G,KP⟩
  ·refine aR<|wq<|wn Z<|bK ?_;refine⟨_,Z,?_⟩;exact bq Value.bool (ky (by rw[bg G,bg G] at hq;exact hq)).symm
theorem aGn {dj:AF} {ie dg:Nat} {s:AH} (co:Rd w dj ie dg 1 (ints .i64 s)) (hN:s.length<=1000000):
  CF 151 #[sl dj ie dg] w (λv R'=> ∃(b:AH) (A:AF) (c:Nat),v=sl A s.length c/\b.Perm (iota s.length)/\b.Pairwise (bV s)/\R'=[(ri 3 A s.length c b)]):=by
 obtain rfl:=co.lenI;refine fn1 Tryz.func151 Z Z Z ?_;have l3:=co.max;refine wq<|wn Z<|wq<|eZ (ri 3 none 0 0 ([]))<|wn Z<|aD<|wq<|wn Z<|aG ?_;refine fE (λ(i:Int) (A1:AF) (n1:Nat) (c1:Nat) (U:AH)=>[(0,sl dj s.length dg),(3,sl A1 n1 c1),(4,I i)]) (λi A1 n1 c1 U=>[(ri 3 A1 n1 c1 U)]) (λi A1 n1 c1 U=>(0<=i)/\(i<=s.length)/\(n1=U.length)/\(U.Perm (iota i.toNat))/\(U.Pairwise (bV s))) (λi A1 n1 c1 U=>(s.length-i).toNat) ?_ ?_
 ·exact⟨0,none,0,0,[],⟨G,G,(Z),(.refl _),(.nil)⟩,KP⟩
 intro i A1 n1 c1 U ⟨aw,ff,cj,hp,hs⟩;have Lk:U.length=i.toNat:=by rw[hp.length_eq,bA]
 refine aD<|wq<|wm Z<|wm Z<|wy (aL aa Z)<|wL Z Z<|aA<|aX Z (λar=> ?_) (λar=> ?_)
 ·refine aI<|aD<|aG<|wq<|wm Z<|wy (aL aa Z)<|wn Z<|aD<|aG ?_;refine fG (λ(j:Int)=>[(0,sl dj s.length dg),(3,sl A1 n1 c1),(4,I i),(5,I j)]) (λj=>[(ri 3 A1 n1 c1 U)]) (λj=>(0<=j)/\(j<=U.length)/\(∀q:Int,j<=q->q<U.length->bV s i (rd U q))) (λj=>j.toNat) ?_ ?_
  ·exact⟨(n1:Int),⟨G,G,(λq h1 h2=>G)⟩,KP⟩
  intro j ⟨tj,w4,yv⟩;have ft: ∀q:Int,0<=q->q<U.length->0<=rd U q/\rd U q<i.toNat:=λq h1 h2=>aZ.1 (hp.subset (bG h1 h2));have hmj:0<j->0<=rd U (j-1)/\rd U (j-1)<s.length:=λh=>by have:=ft (j-1) G G;omega
  refine aD ?_;refine mO [(0,sl dj s.length dg),(3,sl A1 n1 c1),(4,I i),(5,I j),(29, .bool (decide ((0<j)/\((cmpL ((s).drop (i).toNat) ((s).drop (rd U (j-1)).toNat))<0))))] [(ri 3 A1 n1 c1 U)] ?_ ?_
  ·refine bD mixed<|wD 0 Z (aJ Z)<|wD 1 Z (bW Z Z)<|wD 2 Z (aJ Z)<|jH 16 Z (λbx=> ?_) (λbx=> ?_)
   ·refine wG 3 Z Z Z (aJ Z)<|wG 4 Z Z Z (aJ Z)<|wG 5 Z Z Z (dH aa sz3 Z Z)<|wG 6 Z Z Z (aJ Z)<|wG 7 Z Z Z (aJ Z)<|wG 8 Z Z Z (aJ Z)<|wG 9 Z Z Z (kY Z Z)<|wG 10 Z Z Z (aF aa sz3 Z Z (rdr 0 Z))<|wG 11 Z Z Z (aT au Z Z (rdr 0 Z))<|wG 12 Z Z Z (dH aa sz3 Z Z (by have:=ft (j-1) G G;omega) (by have:=ft (j-1) G G;omega)) ?_;refine qD 13 Z cA Z Z Z (aC bOo Z (Ct.quiet (λw hw=>aEp ((RdC.fromI (co.c _) G) w hw) ((RdC.fromI (co.c _) G) w hw)))) ?_;rintro _ _⟨rfl,rfl⟩;refine⟨.inr hiZ,?_⟩;refine wG 14 Z Z Z (eQ Z Z)<|wD 15 Z (aS Z Z)<|wN ?_;exact KP
   ·refine wO 3 Z Z Z<|wO 4 Z Z Z<|wO 5 Z Z Z<|wO 6 Z Z Z<|wO 7 Z Z Z<|wO 8 Z Z Z<|wO 9 Z Z Z<|wO 10 Z Z Z<|wO 11 Z Z Z<|wO 12 Z Z Z<|wO 13 Z Z Z<|wO 14 Z Z Z<|wD 15 Z (aN Z Z)<|wN ?_;exact KP
  refine aX Z (λef=> ?_) (λef=> ?_)
  ·have Vv:=aQa (s:=s) yv ef;refine aI<|aG<|aK<|wm Z<|wS Z Z<|wn Z ?_;exact⟨j-1,⟨G,G,(Vv)⟩,G,KP⟩
  ·have vc:=aYc (s:=s) aw G hp hs tj w4 yv ef;refine aR<|bD mixed<|wD 1 Z (aJ Z)<|wD 2 Z (aJ Z)<|wD 3 Z (eD aa sz3 Z Z (rdr 0 Z))<|wD 5 Z (aJ Z)<|wD 8 Z (aJ Z)<|wD 9 Z (aJ Z)<|wD 10 Z (dH aa sz3 Z Z)<|GU 0 6 cA ?_ ?_
   ·refine KN 0 Z Z (bF .i64 [] aa zs3 Z Z Z) ?_;rintro _ _⟨db,rfl,rfl⟩;refine⟨.inr hrZ,?_⟩;refine GU 4 6 cA ?_ ?_
    ·refine KN 4 Z Z (aQ 0 Z aa zb3 Z Z Z (RdC.toI (h:=(j).toNat) (rdr 1 Z) cG)) ?_;rintro _ _⟨dv,dy,rfl,rfl⟩;refine⟨.inl cA,?_⟩;refine fM (v:=sl dv (0+((j).toNat)) dy) Z<|wC 6 Z (bF .i64 [i] aa zs3 Z Z Z) ?_;rintro _ _⟨mt,rfl,rfl⟩;refine⟨.inr hrZ,?_⟩;refine wC 7 Z (aQ 1 Z aa zb3 Z Z Z (rdr 0 Z)) ?_;rintro _ _⟨iz,fj,rfl,rfl⟩;refine⟨.inl cA,?_⟩;refine fM (v:=sl iz ((0+((j).toNat))+1) fj) Z<|wC 11 Z (aQ 1 Z aa zb3 Z Z Z (RdC.fromI (rdr 2 Z) cG)) ?_;rintro _ _⟨im,da,rfl,rfl⟩;refine⟨.inl cA,?_⟩;refine fM (v:=sl im (((0+((j).toNat))+1)+(n1-(j).toNat)) da) Z<|wD 12 Z (aW Z)<|wN<|aK<|wm Z<|wA Z Z<|wn Z ?_;exact⟨i+1,im,((0+((j).toNat))+1)+(n1-(j).toNat),da,((([])++((U).take (j).toNat))++([i]))++((U).drop (j).toNat),⟨G,G,(by simp only[ah,ax,bn,dn,il];omega),(vc.1),(vc.2)⟩,G,SA,λ_ h=>h.sel [1] cC Z⟩
    ·refine KN 6 Z Z (bF .i64 [i] aa zs3 Z Z Z) ?_;rintro _ _⟨pm,rfl,rfl⟩;refine⟨.inr hrZ,?_⟩;refine wC 4 Z (aQ 1 Z aa zb3 Z Z Z (RdC.toI (h:=(j).toNat) (rdr 2 Z) cG)) ?_;rintro _ _⟨gh,gi,rfl,rfl⟩;refine⟨.inl cA,?_⟩;refine fM (v:=sl gh (0+((j).toNat)) gi) Z<|wC 7 Z (aQ 1 Z aa zb3 Z Z Z (rdr 0 Z)) ?_;rintro _ _⟨me,tc,rfl,rfl⟩;refine⟨.inl cA,?_⟩;refine fM (v:=sl me ((0+((j).toNat))+1) tc) Z<|wC 11 Z (aQ 1 Z aa zb3 Z Z Z (RdC.fromI (rdr 2 Z) cG)) ?_;rintro _ _⟨xi,ob,rfl,rfl⟩;refine⟨.inl cA,?_⟩;refine fM (v:=sl xi (((0+((j).toNat))+1)+(n1-(j).toNat)) ob) Z<|wD 12 Z (aW Z)<|wN<|aK<|wm Z<|wA Z Z<|wn Z ?_;exact⟨i+1,xi,((0+((j).toNat))+1)+(n1-(j).toNat),ob,((([])++((U).take (j).toNat))++([i]))++((U).drop (j).toNat),⟨G,G,(by simp only[ah,ax,bn,dn,il];omega),(vc.1),(vc.2)⟩,G,SA,λ_ h=>h.sel [1] cC Z⟩
   ·refine KN 6 Z Z (bF .i64 [i] aa zs3 Z Z Z) ?_;rintro _ _⟨Lh,rfl,rfl⟩;refine⟨.inr hrZ,?_⟩;refine wC 0 Z (bF .i64 [] aa zs3 Z Z Z) ?_;rintro _ _⟨Oa,rfl,rfl⟩;refine⟨.inr hrZ,?_⟩;refine wC 4 Z (aQ 0 Z aa zb3 Z Z Z (RdC.toI (h:=(j).toNat) (rdr 2 Z) cG)) ?_;rintro _ _⟨zd,zv,rfl,rfl⟩;refine⟨.inl cA,?_⟩;refine fM (v:=sl zd (0+((j).toNat)) zv) Z<|wC 7 Z (aQ 0 Z aa zb3 Z Z Z (rdr 1 Z)) ?_;rintro _ _⟨Zw,c_28,rfl,rfl⟩;refine⟨.inl cA,?_⟩;refine fM (v:=sl Zw ((0+((j).toNat))+1) c_28) Z<|wC 11 Z (aQ 0 Z aa zb3 Z Z Z (RdC.fromI (rdr 2 Z) cG)) ?_;rintro _ _⟨o9,r9,rfl,rfl⟩;refine⟨.inl cA,?_⟩;refine fM (v:=sl o9 (((0+((j).toNat))+1)+(n1-(j).toNat)) r9) Z<|wD 12 Z (aW Z)<|wN<|aK<|wm Z<|wA Z Z<|wn Z ?_;exact⟨i+1,o9,((0+((j).toNat))+1)+(n1-(j).toNat),r9,((([])++((U).take (j).toNat))++([i]))++((U).drop (j).toNat),⟨G,G,(by simp only[ah,ax,bn,dn,il];omega),(vc.1),(vc.2)⟩,G,SA,λ_ h=>h.sel [0] cC Z⟩
 ·refine aR<|wq<|wm Z<|wn Z<|aU [0] 99 ?_;refine⟨_,Z,?_⟩;obtain rfl:n1=s.length:=G
  exact⟨U,_,_,Z,by have e:i.toNat=s.length:=G;rw[<-e];exact hp,hs,rfl⟩
theorem XK (ac:Rd w an ba am 1 (ints .u8 u)) (al:aO u) (hN:u.length<=1000000):
  CF 152 #[sl an ba am] w (λv R'=> ∃A c,v=sl A (u).length c/\R'=[(ri 3 A ((u).length) c (u))]):=by
 obtain rfl:=ac.lenI;refine fn1 Tryz.func152 Z Z Z ?_;have ia:=ac.max;refine wq<|wn Z<|wq<|eZ (ri 3 none 0 0 ([]))<|wn Z<|aD<|wq<|wn Z<|aG ?_;refine fE (λ(A1:AF) (n1:Nat) (c1:Nat) (acc:AH) (i:Int)=>[(0,sl an u.length am),(3,sl A1 n1 c1),(4,I i)]) (λA1 n1 c1 acc i=>[(ri 3 A1 n1 c1 acc)]) (λA1 n1 c1 acc i=>(n1=acc.length)/\(0<=i)/\(i<=u.length)/\(acc=u.take i.toNat)) (λA1 n1 c1 acc i=>(u.length-i).toNat) ?_ ?_
 ·exact⟨none,0,0,[],0,⟨(Z),G,G,(Z)⟩,KP⟩
 intro A1 n1 c1 acc i ⟨cj,aw,ff,bb⟩;refine aD<|wq<|wm Z<|wm Z<|wy (aL af Z)<|wL Z Z<|aA<|aX Z (λar=> ?_) (λar=> ?_)
 ·have ux:=al.rd i;refine aI<|aD<|aG<|aK<|wm Z<|wm Z<|wm Z<|wy (aF af sz5 Z Z (ac.c _))<|wy (aT az Z Z (ac.c _))<|wy (jG az au Z)<|wa (bF .i64 [rd u i] aa zs3 Z Z Z) ?_;rintro _ _⟨db,rfl,rfl⟩;refine wa (aQ 1 Z aa zb3 Z Z Z (rdr 0 Z) (by have:=bq List.length bb;rw[ax] at this;omega)) ?_;rintro _ _⟨dv,dy,rfl,rfl⟩;refine bC (v:=sl dv (n1+1) dy) Z<|wn Z<|aK<|wm Z<|wA Z Z<|wn Z ?_;exact⟨dv,n1+1,dy,acc++([rd u i]),i+1,⟨(by rw[ah,cj];try rfl),G,G,(by rw[dJ aw G,bb])⟩,G,SA,λ_ h=>h.sel [1] cC Z⟩
 ·refine aR<|wq<|wm Z<|wn Z<|aU [0] 99 ?_;refine⟨_,Z,?_⟩;rw[bg G] at bb;subst bb;obtain rfl:=cj;exact⟨_,_,Z,Z⟩
theorem aIr (ac:Rd w an ba am 1 (ints .u8 u)) (al:aO u) (hN:u.length<=1000000):
  CF 93 #[sl an ba am] w (λv R'=> ∃(b:AH) (A:AF) (c:Nat),v=sl A u.length c/\b.Perm (iota u.length)/\b.Pairwise (bV u)/\R'=[(ri 3 A u.length c b)]):=by
 obtain rfl:=ac.lenI;refine fn1 Tryz.func93 Z Z Z ?_;have ia:=ac.max;refine wq<|wn Z<|wq<|wm Z<|wa (aC bPk Z (Ct.fresh (λw hw=>XK ((ac.c _) w hw) cE cE))) ?_;rintro _ _⟨_,rfl,cm,ci,rfl,rfl⟩;refine wa (aC bPl Z (Ct.fresh (λw hw=>aGn ((rdr 0 Z) w hw) cE))) ?_;rintro _ _⟨_,rfl,b1,kt,lj,rfl,dd,eh,rfl⟩;refine wn Z<|aU [0] 99 ?_;exact⟨_,Z,b1,_,_,Z,dd,eh,Z⟩
end
section
variable {w:World} {p val i:Int} {N ie dg:Nat} {dj:AF} {s:AH}
theorem rQ {lf:AF} {pc ln:Nat} {l:AH} {wc:AF} {Yg wd:Nat} {m:AH} (js:Rd w lf pc ln 1 (ints .i64 l)) (xr:Rd w wc Yg wd 1 (ints .i64 m)) (hN:l.length<=1000000):
  CF 50 #[sl lf pc ln,sl wc Yg wd] w (λv R'=>v= .bool (decide (l=m))):=by
 obtain rfl:=js.lenI;obtain rfl:=xr.lenI;refine fn1 Tryz.func50 Z Z Z ?_;have Qp:=js.max;have m_m:=xr.max;refine wq<|wn Z<|aD<|wq<|wm Z<|wy (aL aa Z)<|wm Z<|wy (aL aa Z)<|wy (fQ Z Z)<|aA<|aX Z (λar=> ?_) (λar=> ?_)
 ·refine wq<|wn Z<|bK ?_;refine⟨_,Z,?_⟩;exact bq Value.bool (nk (λe=>by rw[e] at ar;exact ar rfl)).symm
 ·refine aI<|aD<|wq<|wm Z<|wy (aL aa Z)<|wm Z<|aA<|aG ?_;refine fG (λ(k:Int)=>[(0,sl lf l.length ln),(1,sl wc m.length wd),(12,I (l.length:Int)),(13,I k)]) (λk=>[]) (λk=>(0<=k)/\(k<=l.length)/\(l.take k.toNat=m.take k.toNat)) (λk=>(l.length-k).toNat) ?_ ?_
  ·exact⟨0,⟨G,G,(Z)⟩,KP⟩
  intro k ⟨iu,vd,hq⟩;refine wq<|wL Z Z<|aA<|aD<|aX Z (λbx=> ?_) (λbx=> ?_)
  ·refine aI<|aD<|aG<|wq<|wm Z<|wn Z<|aD<|bD mixed<|wD 0 Z (aJ Z)<|wD 1 Z (aJ Z)<|wD 2 Z (aF aa sz3 Z Z (js.c _))<|wD 3 Z (aT au Z Z (js.c _))<|wD 4 Z (aJ Z) ?_;refine wD 5 Z (aJ Z)<|wD 6 Z (aF aa sz3 Z Z (xr.c _))<|wD 7 Z (aT au Z Z (xr.c _))<|wD 8 Z (fQ Z Z)<|wN<|aX Z (λef=> ?_) (λef=> ?_)
   ·refine wq<|wn Z<|bK ?_;refine⟨_,Z,?_⟩;exact bq Value.bool (nk (λe=>by subst e;exact ef rfl)).symm
   ·refine aI<|aK<|wA Z Z<|wm Z<|aA ?_;exact⟨k+1,⟨G,G,(by rw[dJ iu G,dJ iu G,hq];exact bq (λz=>List.take k.toNat m++[z]) (uy.1 cF))⟩,G,KP⟩
  ·refine aR<|wq<|wn Z<|bK ?_;refine⟨_,Z,?_⟩;exact bq Value.bool (ky (by rw[bg G,bg G] at hq;exact hq)).symm
theorem bKg {B:Nat} {w0:World} {R:List Row} (N:Nat) (h:N<=1000000):CT 69 #[.int .u64 1, .int .u64 (N:Int)] B w0 R (λv R'=>v= .tuple #[.int .u64 0, .int .u64 (N:Int)]/\R'=R):=by
 intro w hw;have hc:=Tryz.bits_Mul 1 N G G w;rw[Ah,Fe G,lv G] at hc;refine hc.mono ?_;rintro e w' ⟨rfl,rfl⟩;exact⟨_,R,Z,hw,Z,Z⟩
theorem aNb (h:0<=p/\p<=18446744073709551615):IntKind.u64.wrap p=p:=by rw[Jq];omega
theorem aVb {D:AH} (p1:1<=p) (hp:p<=N) (hD:D=EB val p.toNat N):
  List.take p.toNat D++List.take (min p.toNat (N-p.toNat)) (List.take p.toNat D)++List.drop (p.toNat+min p.toNat (N-p.toNat)) D=EB val (p+((min p.toNat (N-p.toNat):Nat):Int)).toNat N:=by
 subst hD;rw[show(p+((min p.toNat (N-p.toNat):Nat):Int)).toNat=p.toNat+min p.toNat (N-p.toNat) by omega];refine UG G ?_;rw[UF,List.take_replicate];congr 1;omega
theorem aVd (h:1<=N):List.take 0 (List.replicate N (0:Int))++List.take (min ([val].length) (N-0)) [val]++List.drop (0+min ([val].length) (N-0)) (List.replicate N (0:Int))=EB val (((min ([val].length) (N-0):Nat):Int)).toNat N:=by
 have e:min ([val].length) (N-0)=1:=cH
 rw[e,<-aOr val N];exact UG (p:=0) (q:=1) G Z
theorem aGc {Bk:AF} {Nr Cl:Nat} {x:AH} {cn:Int} (mm:Rd w Bk Nr Cl 1 (ints .i64 x)) (hx:x=[val]) (Ta:cn=(N:Int)) (hN:1<=N/\N<=1000000):
  CF 259 #[sl Bk Nr Cl,I cn] w (λv R'=> ∃A c,v=sl A N c/\R'=[(ri 3 A N c (List.replicate N val))]):=by
 obtain rfl:=mm.lenI;refine fn1 Tryz.func259 Z Z Z ?_;have m_x:=mm.max;refine wq<|wn Z<|aD<|wq<|wm Z<|wy (Yl.f (eQ Z Z))<|aA<|aP Z<|aI<|wq<|wm Z ?_;refine wy (aL aa Z)<|wy (Yl.is (nR au Cx Z) (by rw[hx])) ?_;refine wm Z<|wy (Yl.is (nR au Cx Z) (by rw[aNb G,Ta])) ?_;refine wa (aC bMy Z (bKg N hN.2)) ?_;rintro _ _⟨rfl,rfl⟩;refine wm Z<|wX Z Z<|wX Z Z<|wg Z<|wn Z<|aD<|wq<|wm Z<|wy (Yl.f (bW Z Z))<|wm Z<|aB Z Z<|wm Z<|aB Z Z ?_;refine wy (Yl.f (bW Z Z))<|wy (aN Z Z)<|aA<|aP Z<|aI<|wq<|wm Z<|wy (jG Cx au Z)<|wa (dK aa zb3 Z Z) ?_;rintro _ _⟨ap,rfl,rfl⟩;refine bC (v:=sl (GG ap) N N) Z<|wn Z<|wq<|wm Z<|wm Z<|wa (YV (lo:=0) 0 Z aa sz3 Z Z bAa Z G (mm.c _)) ?_;rintro _ _⟨rfl,rfl⟩;refine wn Z<|aD<|aG ?_;refine dI (λ(p:Int) (D:AH)=>[(7,sl (GG ap) N N),(8,I p)]) (λp D=>[(ri 3 (GG ap) N N D)]) (λp D=>(1<=p)/\(p<=N)/\(D=EB val p.toNat N)) (λp D=>(N-p).toNat) ?_ ?_
 ·exact⟨((min x.length (N-0):Nat):Int),List.take 0 (List.replicate N (0:Int))++List.take (min x.length (N-0)) x++List.drop (0+min x.length (N-0)) (List.replicate N (0:Int)),⟨(by subst hx;simp;omega),G,(by subst hx;exact aVd hN.1)⟩,KP⟩
 intro p D ⟨Sj,qq,hD⟩;refine aD<|wq<|wm Z<|wm Z<|wy (aL aa Z)<|wL Z Z<|aA<|aX Z (λar=> ?_) (λar=> ?_)
 ·refine aI<|aG<|bD mixed<|wD 0 Z (aJ Z)<|wD 1 Z (aJ Z)<|wD 2 Z (aJ Z)<|wD 3 Z (dH aa sz3 Z Z)<|wD 4 Z (aJ Z)<|wD 5 Z (aJ Z)<|wD 6 Z (eD aa sz3 Z Z (rdr 0 Z))<|wC 7 Z (YV (lo:=p.toNat) 0 Z aa sz3 Z Z Z Z G (RdC.toI (h:=(p).toNat) (rdr 0 Z) cG)) ?_;rintro _ _⟨rfl,rfl⟩;refine⟨.inl cA,?_⟩;refine wD 8 Z (bT Z Z)<|wD 9 Z (aW Z)<|wN ?_;exact⟨p+((min ((p).toNat) (N-p.toNat):Nat):Int),List.take p.toNat D++List.take (min ((p).toNat) (N-p.toNat)) ((D).take (p).toNat)++List.drop (p.toNat+min ((p).toNat) (N-p.toNat)) D,⟨G,G,(aVb Sj qq hD)⟩,G,KP⟩
 ·refine aR<|wq<|wm Z<|wn Z<|aU [0] 99 ?_;refine⟨_,Z,?_⟩;obtain rfl:D=List.replicate N val:=by rw[hD,show p.toNat=N by omega];exact aVa _ _
  exact⟨_,_,Z,Z⟩
theorem aAe (co:Rd w dj ie dg 1 (ints .i64 s)) (hN:s.length<=1000000):
  CF 256 #[sl dj ie dg] w (λv R'=> ∃A c,v=sl A s.length c/\R'=[⟨4,1,A,s.length,c,bools (smL s),false⟩]):=by
 obtain rfl:=co.lenI;refine fn1 Tryz.func256 Z Z Z ?_;have l3:=co.max;refine wq<|wn Z<|wq<|wm Z<|wy (aL aa Z)<|wa (MJ og zb4 Z Z G G G) ?_;rintro _ _⟨ap,rfl,rfl⟩;refine bC (v:=sl (GG ap) s.length s.length) Z<|wn Z<|aD<|wq<|wm Z<|wy (aL aa Z)<|wS Z Z<|wn Z<|aG ?_;refine dI (λ(i:Int) (m:List Bool)=>[(0,sl dj s.length dg),(3,sl (GG ap) s.length s.length),(4,I i)]) (λi m=>[⟨4,1,(GG ap),s.length,s.length,bools m,false⟩]) (λi m=>(-2<=i)/\(i+2<=s.length)/\(m.length=s.length)/\(∀j:Int,0<=j->i<j->j<s.length->rdb m j=smB s j)) (λi m=>(i+1).toNat) ?_ ?_
 ·exact⟨(s.length:Int)-2,List.replicate s.length false,⟨G,G,(by rw[bz]),(λj h0 h1 h2=>by rw[EC,rY h0 G])⟩,KP⟩
 intro i m ⟨aw,ff,hl,hM⟩;refine aD<|wq<|wm Z<|wy (iL Z Z)<|aA<|aX Z (λar=> ?_) (λar=> ?_)
 ·refine aI<|aD<|aG<|bD mixed<|wD 0 Z (aJ Z)<|wD 1 Z (aJ Z)<|wD 2 Z (aJ Z)<|wD 3 Z (aJ Z)<|wD 4 Z (aF aa sz3 Z Z (co.c _))<|wD 5 Z (aT au Z Z (co.c _))<|wD 6 Z (aJ Z)<|wD 7 Z (aJ Z)<|wD 8 Z (bT Z Z)<|wD 9 Z (aF aa sz3 Z Z (co.c _))<|wD 10 Z (aT au Z Z (co.c _)) ?_;refine wD 11 Z (eQ Z Z)<|wD 12 Z (aJ Z)<|jH 27 Z (λbx=> ?_) (λbx=> ?_)
  ·refine wO 13 Z Z Z<|wO 14 Z Z Z<|wO 15 Z Z Z<|wO 16 Z Z Z<|wO 17 Z Z Z<|wO 18 Z Z Z<|wO 19 Z Z Z<|wO 20 Z Z Z<|wO 21 Z Z Z<|wO 22 Z Z Z<|wO 23 Z Z Z<|fD 24 Z cA Z Z Z<|fD 25 Z cA Z Z Z<|fD 26 Z cA Z Z Z<|fD 27 Z cA Z Z Z ?_;refine fD 28 Z cA Z Z Z<|wO 29 Z Z Z<|wD 30 Z (aS Z Z)<|wD 31 Z (aF og sz4 Z Z (rdr 0 Z))<|qC 32 Z cA (vC 0 Z sz4 Z Z) ?_;rintro _ _ rfl;refine⟨.inl cA,?_⟩;refine wN<|aK<|wm Z<|wS Z Z<|wn Z ?_;exact⟨i-1,qW m i true,⟨G,G,(by rw[mI];exact hl),(λj h0 h1 h2=>WO G G hl (λj a b=>hM j G a b) (⟨λ_=> .inl G,λ_=>Z⟩) j G h2)⟩,G,KP⟩
  ·refine wG 13 Z Z Z (aJ Z)<|wG 14 Z Z Z (aJ Z)<|wG 15 Z Z Z (aF aa sz3 Z Z (co.c _))<|wG 16 Z Z Z (aT au Z Z (co.c _))<|wG 17 Z Z Z (aJ Z)<|wG 18 Z Z Z (aJ Z)<|wG 19 Z Z Z (bT Z Z)<|wG 20 Z Z Z (aF aa sz3 Z Z (co.c _))<|wG 21 Z Z Z (aT au Z Z (co.c _))<|wG 22 Z Z Z (eT Z Z)<|wG 23 Z Z Z (aJ Z)<|jH 38 Z (λef=> ?_) (λef=> ?_)
   ·refine wG 24 Z Z Z (aJ Z)<|wG 25 Z Z Z (aJ Z)<|wG 26 Z Z Z (bT Z Z)<|wG 27 Z Z Z (aF og sz4 Z Z (rdr 0 Z))<|wG 28 Z Z Z (CJ Al Z Z (rdr 0 Z))<|wG 29 Z Z Z (aS Z Z)<|wD 30 Z (aN Z Z)<|wD 31 Z (aF og sz4 Z Z (rdr 0 Z))<|qC 32 Z cA (vC 0 Z sz4 Z Z) ?_;rintro _ _ rfl;refine⟨.inl cA,?_⟩;refine wN<|aK<|wm Z<|wS Z Z<|wn Z ?_;exact⟨i-1,qW m i (decide (rdb m (i+1)=true)),⟨G,G,(by rw[mI];exact hl),(λj h0 h1 h2=>WO G G hl (λj a b=>hM j G a b) (by rw[jb];exact⟨λh=> .inr ⟨G,h⟩,λh=>(h.resolve_left G).2⟩) j G h2)⟩,G,KP⟩
   ·refine wO 24 Z Z Z<|wO 25 Z Z Z<|wO 26 Z Z Z<|wO 27 Z Z Z<|wO 28 Z Z Z<|wG 29 Z Z Z (aN Z Z)<|wD 30 Z (aN Z Z)<|wD 31 Z (aF og sz4 Z Z (rdr 0 Z))<|qC 32 Z cA (vC 0 Z sz4 Z Z) ?_;rintro _ _ rfl;refine⟨.inl cA,?_⟩;refine wN<|aK<|wm Z<|wS Z Z<|wn Z ?_;exact⟨i-1,qW m i false,⟨G,G,(by rw[mI];exact hl),(λj h0 h1 h2=>WO G G hl (λj a b=>hM j G a b) (⟨λh=>(by cases h),λh=>absurd h G⟩) j G h2)⟩,G,KP⟩
 ·refine aR<|wq<|wm Z<|wn Z<|aU [0] 99 ?_;refine⟨_,Z,?_⟩;obtain rfl:m=smL s:=bJg hl λj h0 h1=>hM j h0 G h1;exact⟨_,_,Z,Z⟩
theorem bFe (h0:0<=i) (hi:i<s.length) (h1:0<i) (h2:rdb (smL s) i=true) (h3: ¬rdb (smL s) (i-1)=true):gZ s i=true:=by
 rw[oC h0 hi] at h2;rw[oC G G] at h3;exact oF.2 ⟨h1,h2,by simpa using h3⟩
theorem bKq (h0:0<=i) (hi:i<s.length) (h: ¬(0<i/\rdb (smL s) i=true/\ ¬rdb (smL s) (i-1)=true)): ¬gZ s i=true:=λe=>by
 obtain⟨h1,h2,h3⟩:=oF.1 e;exact h ⟨h1,by rw[oC h0 hi];exact h2,by rw[oC G G,h3];simp⟩
theorem aYi (s:AH):QA s 1=[]:=by
 show QA s (0+1)=[];rw[IW G,df (λh=>by have:=(oF.1 h).1;omega)];rfl
theorem aYj (h:i=s.length\/i=1/\s.length=0):QA s i=bP s:=by
 rcases h with rfl|⟨rfl,h⟩
 ·exact PZ
 ·rw[aYi,<-PZ,h];rfl
theorem aCh (co:Rd w dj ie dg 1 (ints .i64 s)) (hN:s.length<=1000000):
  CF 229 #[sl dj ie dg] w (λv R'=> ∃A c,v=sl A (bP s).length c/\R'=[(ri 3 A ((bP s).length) c (bP s))]):=by
 obtain rfl:=co.lenI;refine fn1 Tryz.func229 Z Z Z ?_;have l3:=co.max;refine wq<|wn Z<|wq<|eZ (ri 3 none 0 0 ([]))<|wn Z<|wq<|wm Z<|wa (aC bHv Z (Ct.fresh (λw hw=>aAe ((co.c _) w hw) cE))) ?_;rintro _ _⟨_,rfl,cm,ci,rfl,rfl⟩;refine wn Z<|aD<|wq<|wm Z<|wy (aL aa Z)<|wm Z<|aA<|aG ?_;refine fE (λ(A1:AF) (n1:Nat) (c1:Nat) (acc:AH) (i:Int)=>[(3,sl A1 n1 c1),(4,sl cm s.length ci),(9,I (s.length:Int)),(10,I i)]) (λA1 n1 c1 acc i=>[⟨4,1,cm,s.length,ci,bools (smL s),false⟩,(ri 3 A1 n1 c1 acc)]) (λA1 n1 c1 acc i=>(n1=acc.length)/\(0<=i)/\(i<=s.length)/\(acc=QA s i)) (λA1 n1 c1 acc i=>(s.length-i).toNat) ?_ ?_
 ·exact⟨none,0,0,[],0,⟨(Z),G,G,(Z)⟩,KP⟩
 intro A1 n1 c1 acc i ⟨cj,aw,ff,bb⟩;refine wq<|wL Z Z<|aA<|aD<|aX Z (λar=> ?_) (λar=> ?_)
 ·refine aI<|aD<|aG<|wq<|wm Z<|wn Z<|wq<|wm Z<|wy (bW Z Z)<|wm Z<|bR 5 [(3,sl A1 n1 c1),(4,sl cm s.length ci),(5,I i),(9,I (s.length:Int)),(10,I i),(20, .bool (decide ((0<i)/\(rdb (smL s) i=true))))] [⟨4,1,cm,s.length,ci,bools (smL s),false⟩,(ri 3 A1 n1 c1 acc)] ?_ ?_
  ·refine bJ 15 Z (λbx=> ?_) (λbx=> ?_)
   ·refine aB Z Z<|wm Z<|aB Z Z<|wm Z<|aB Z Z<|wy (aF og sz4 Z Z (rdr 0 Z))<|aB Z Z<|wy (CJ Al Z Z (rdr 0 Z))<|wy (aS Z Z)<|aA ?_;exact KP
   ·refine aM Z Z Z Z<|aM Z Z Z Z<|aM Z Z Z Z<|aM Z Z Z Z<|wy (aN Z Z)<|aA ?_;exact KP
  refine wm Z<|bR 7 [(3,sl A1 n1 c1),(4,sl cm s.length ci),(5,I i),(9,I (s.length:Int)),(10,I i),(28, .bool (decide (((0<i)/\(rdb (smL s) i=true))/\(¬(rdb (smL s) (i-1)=true)))))] [⟨4,1,cm,s.length,ci,bools (smL s),false⟩,(ri 3 A1 n1 c1 acc)] ?_ ?_
  ·refine bJ 21 Z (λef=> ?_) (λef=> ?_)
   ·refine aB Z Z<|wm Z<|aB Z Z<|wm Z<|aB Z Z<|wS Z Z<|aB Z Z<|wy (aF og sz4 Z Z (rdr 0 Z))<|aB Z Z<|wy (CJ Al Z Z (rdr 0 Z))<|aB Z Z<|wy (uC Z)<|wy (aS Z Z)<|aA ?_;exact KP
   ·refine aM Z Z Z Z<|aM Z Z Z Z<|aM Z Z Z Z<|aM Z Z Z Z<|aM Z Z Z Z<|aM Z Z Z Z<|wy (aN Z Z)<|aA ?_;exact KP
  refine aA<|aX Z (λfm=> ?_) (λfm=> ?_)
  ·refine aK<|wm Z<|wm Z<|wa (bF .i64 [i] aa zs3 Z Z Z) ?_;rintro _ _⟨tg,rfl,rfl⟩;refine wa (aQ 2 Z aa zb3 Z Z Z (rdr 0 Z) (by have:=bq List.length bb;have:=aCe (s:=s) i;omega)) ?_;rintro _ _⟨go,jj,rfl,rfl⟩;refine bC (v:=sl go (n1+1) jj) Z<|wn Z<|aK<|wA Z Z<|wm Z<|aA ?_;exact⟨go,n1+1,jj,acc++([i]),i+1,⟨(by rw[ah,cj];try rfl),G,G,(by rw[IW G,dm (bFe G G fm.1.1 fm.1.2 fm.2),bb])⟩,G,SA,λ_ h=>h.sel [1,2] cC Z⟩
  ·refine aI<|aK<|wA Z Z<|wm Z<|aA ?_;exact⟨A1,n1,c1,acc,i+1,⟨(cj),G,G,(by rw[IW G,df (bKq G G (λh=>fm ⟨⟨h.1,h.2.1⟩,h.2.2⟩)),iw,bb])⟩,G,KP⟩
 ·refine aR<|wq<|wm Z<|wn Z<|aU [1] 99 ?_;refine⟨_,Z,?_⟩;rw[aYj G] at bb;subst bb;obtain rfl:=cj;exact⟨_,_,Z,Z⟩
end
section
variable {w:World} {gr rn an:AF} {md gs j8 rx ba am:Nat} {a rk u:AH} {i:Int}
theorem qA (dp:Rd w gr md gs 1 (ints .i64 a)) (hp:a.Perm (iota a.length)) (hN:a.length<=1000000):
  CF 99 #[sl gr md gs] w (λv R'=> ∃(V:AH) (A:AF) (c:Nat),v= .tuple #[sl A a.length c,bt]/\bGt a V/\R'=[(ri 3 A a.length c V)]):=by
 obtain rfl:=dp.lenI;refine fn2 Tryz.func99 Z Z Z ?_;have j7:=dp.max;refine wq<|wg Z<|wn Z<|wq<|wm Z<|wy (aL aa Z)<|wa (dK aa zb3 Z Z) ?_;rintro _ _⟨ap,rfl,rfl⟩;refine bC (v:=sl (GG ap) a.length a.length) Z<|wn Z<|wq<|wm Z<|wy (aL aa Z)<|wa (MJ og zb4 Z Z G G G) ?_;rintro _ _⟨db,rfl,rfl⟩;refine bC (v:=sl (GG db) a.length a.length) Z<|wn Z<|aD<|wq<|wm Z<|wy (aL aa Z)<|wm Z<|aA<|aG ?_;refine fZ (λ(q:Int) (V:AH) (Bs:List Bool)=>[(0,sl gr a.length gs),(4,sl (GG ap) a.length a.length),(5,sl (GG db) a.length a.length),(14,sl gr a.length gs),(15,I (a.length:Int)),(16,I q)]) (λq V Bs=>[⟨4,1,(GG db),a.length,a.length,bools Bs,false⟩,(ri 3 (GG ap) a.length a.length V)]) (λq V Bs=>(0<=q)/\(q<=a.length)/\(RS a V Bs q)) (λq V Bs=>(a.length-q).toNat) ?_ ?_
 ·exact⟨0,List.replicate a.length (0:Int),List.replicate a.length false,⟨G,G,(aPy)⟩,KP⟩
 intro q V Bs ⟨ij,yi,hI⟩;have kc:=hI.len;have hBl:=hI.blen;refine wq<|wL Z Z<|aA<|aD<|aX Z (λar=> ?_) (λar=> ?_)
 ·have Lw:=hI.fresh hp ij G;refine aI<|aD<|aG<|wq<|wm Z<|wy (aF aa sz3 Z Z (dp.c _))<|wy (aT au Z Z (dp.c _))<|wg Z<|wn Z<|aD<|wq<|wm Z ?_;refine wL Z Z<|wm Z<|bR 5 [(0,sl gr a.length gs),(4,sl (GG ap) a.length a.length),(5,sl (GG db) a.length a.length),(6,I q),(7,I (rd a q)),(14,sl gr a.length gs),(15,I (a.length:Int)),(16,I q),(28, .bool (decide (((rd a q)<0)\/((a.length:Int)<=(rd a q)))))] [⟨4,1,(GG db),a.length,a.length,bools Bs,false⟩,(ri 3 (GG ap) a.length a.length V)] ?_ ?_
  ·refine bJ 23 Z (λbx=> ?_) (λbx=> ?_)
   ·refine aM Z Z Z Z<|aM Z Z Z Z<|aM Z Z Z Z<|aM Z Z Z Z<|wy (aS Z Z)<|aA ?_;exact KP
   ·refine aB Z Z<|wm Z<|aB Z Z<|wm Z<|aB Z Z<|wy (aL aa Z)<|aB Z Z<|wy (iL Z Z)<|wy (aN Z Z)<|aA ?_;exact KP
  refine qV 28 Z G<|wm Z<|aB Z Z<|wm Z<|aB Z Z<|wm Z<|aB Z Z<|wy (aF og sz4 Z Z (rdr 0 Z))<|aB Z Z<|wy (Yl.f (CJ Al Z Z (rdr 0 Z)) (Lw.2))<|wy (aN Z Z)<|aA<|aP Z<|aI<|aK ?_;refine wm Z<|wm Z<|wm Z<|wm Z<|wm Z<|wy (aF aa sz3 Z Z (rdr 1 Z))<|bZ (bE 1 Z sz3 Z Z) ?_;rintro _ _ rfl;refine wy (aF og sz4 Z Z (rdr 0 Z))<|bZ (vC 0 Z sz4 Z Z) ?_;rintro _ _ rfl;refine aA<|aK<|wA Z Z<|wm Z<|aA ?_;exact⟨q+1,upd V (rd a q) q,qW Bs (rd a q) true,⟨G,G,(hI.step hp ij G)⟩,G,KP⟩
 ·refine aR<|wq<|wm Z<|wg Z<|wn Z<|aU [1] 99 ?_;refine⟨_,_,Z,Z,?_⟩;have e:q=a.length:=G
  rw[e] at hI;exact⟨V,_,_,Z,hI.all,Z⟩
theorem aXv (dp:Rd w gr md gs 1 (ints .i64 a)) (hp:a.Perm (iota a.length)) (hN:a.length<=1000000):
  CF 121 #[sl gr md gs] w (λv R'=>v=bt):=by
 obtain rfl:=dp.lenI;refine fn1 Tryz.func121 Z Z Z ?_;have j7:=dp.max;refine wq<|wn Z<|wq<|wm Z<|wa (aC aHw Z (Ct.fresh (λw hw=>qA ((dp.c _) w hw) cE cE))) ?_;rintro _ _⟨_,rfl,R1,cm,ci,rfl,xp,rfl⟩;refine wm Z<|wX Z Z<|wX Z Z<|wg Z<|wn Z<|wq<|wm Z<|wn Z<|aU [] 99 ?_;refine⟨_,Z,?_⟩;rfl
theorem KJ (nf:Rd w rn j8 rx 1 (ints .i64 rk)) (hi:0<=i/\i<rk.length):
  CF 158 #[sl rn j8 rx,I i] w (λv R'=>v=I (bhF rk i)):=by
 obtain rfl:=nf.lenI;refine fn1 Tryz.func158 Z Z Z ?_;have Sr:=nf.max;refine wq<|wn Z<|aD<|wq<|wm Z<|wA Z Z<|wm Z<|wy (aL aa Z)<|wy (eT Z Z)<|aA<|aX Z (λar=> ?_) (λar=> ?_)
 ·refine wq<|wn Z<|bK ?_;refine⟨_,Z,?_⟩;exact bq (Value.int .i64) (by unfold bhF;rw[dm ar])
 ·refine aI<|wq<|wm Z<|wm Z<|wA Z Z<|wy (aF aa sz3 Z Z (nf.c _))<|wy (aT au Z Z (nf.c _))<|wn Z<|bK ?_;refine⟨_,Z,?_⟩;exact bq (Value.int .i64) (by unfold bhF;rw[df ar])
theorem XH (ac:Rd w an ba am 1 (ints .u8 u)) (dp:Rd w gr md gs 1 (ints .i64 a)) (nf:Rd w rn j8 rx 1 (ints .i64 rk)) (hO:nC u a rk) (hN:u.length<=1000000):
  CF 100 #[sl an ba am,sl gr md gs,sl rn j8 rx] w (λv R'=>v=bt):=by
 obtain rfl:=ac.lenI;obtain rfl:=dp.lenI;obtain rfl:=nf.lenI;refine fn1 Tryz.func100 Z Z Z ?_;have ia:=ac.max;have j7:=dp.max;have Sr:=nf.max;refine wq<|wn Z<|aD<|wq<|wn Z<|aG ?_;refine fG (λ(i:Int)=>[(0,sl an u.length am),(1,sl gr a.length gs),(2,sl rn rk.length rx),(7,I i)]) (λi=>[]) (λi=>(1<=i)/\(i<=a.length\/i=1)) (λi=>(a.length+1-i).toNat) ?_ ?_
 ·exact⟨1,⟨G,G⟩,KP⟩
 intro i ⟨ff,Ou⟩;have mw:=hO.alen;have Jx:=hO.len;refine aD<|wq<|wm Z<|wm Z<|wy (aL aa Z)<|wL Z Z<|aA<|aX Z (λar=> ?_) (λar=> ?_)
 ·have hx:=hO.ain (r:=i-1) G G;have hy:=hO.ain (r:=i) G G;have vi:=hO.nofall ff G;refine aI<|aD<|aG<|aD<|bD mixed<|wD 0 Z (aJ Z)<|wD 1 Z (aJ Z)<|wD 2 Z (kY Z Z)<|wD 3 Z (aF aa sz3 Z Z (dp.c _))<|wD 4 Z (aT au Z Z (dp.c _))<|wD 5 Z (aJ Z)<|wD 6 Z (aJ Z)<|wD 7 Z (aF aa sz3 Z Z (dp.c _))<|wD 8 Z (aT au Z Z (dp.c _))<|wD 9 Z (aW Z) ?_;refine wD 10 Z (aW Z)<|wN ?_;refine mO [(0,sl an u.length am),(1,sl gr a.length gs),(2,sl rn rk.length rx),(7,I i),(53, .bool (decide (((rd u (rd a i))<(rd u (rd a (i-1))))\/(((rd u (rd a (i-1)))=(rd u (rd a i)))/\((bhF rk (rd a i))<(bhF rk (rd a (i-1))))))))] [] ?_ ?_
  ·refine bD mixed<|wD 0 Z (aJ Z)<|wD 1 Z (aJ Z)<|wD 2 Z (aF af sz5 Z Z (ac.c _))<|wD 3 Z (aT az Z Z (ac.c _))<|wD 4 Z (aJ Z)<|wD 5 Z (aJ Z)<|wD 6 Z (aF af sz5 Z Z (ac.c _))<|wD 7 Z (aT az Z Z (ac.c _))<|wD 8 Z (bW Z Z)<|wD 9 Z (aJ Z)<|jH 34 Z (λbx=> ?_) (λbx=> ?_)
   ·refine wO 10 Z Z Z<|wO 11 Z Z Z<|wO 12 Z Z Z<|wO 13 Z Z Z<|wO 14 Z Z Z<|wO 15 Z Z Z<|wO 16 Z Z Z<|wO 17 Z Z Z<|wO 18 Z Z Z<|wO 19 Z Z Z<|fD 20 Z cA Z Z Z<|fD 21 Z cA Z Z Z<|fD 22 Z cA Z Z Z<|fD 23 Z cA Z Z Z<|fD 24 Z cA Z Z Z ?_;refine fD 25 Z cA Z Z Z<|fD 26 Z cA Z Z Z<|wO 27 Z Z Z<|wD 28 Z (aS Z Z)<|wN ?_;exact KP
   ·refine wG 10 Z Z Z (aJ Z)<|wG 11 Z Z Z (aJ Z)<|wG 12 Z Z Z (aF af sz5 Z Z (ac.c _))<|wG 13 Z Z Z (aT az Z Z (ac.c _))<|wG 14 Z Z Z (aJ Z)<|wG 15 Z Z Z (aJ Z)<|wG 16 Z Z Z (aF af sz5 Z Z (ac.c _))<|wG 17 Z Z Z (aT az Z Z (ac.c _))<|wG 18 Z Z Z (eT Z Z)<|wG 19 Z Z Z (aJ Z)<|jH 44 Z (λef=> ?_) (λef=> ?_)
    ·refine wG 20 Z Z Z (aJ Z)<|wG 21 Z Z Z (aJ Z)<|wG 23 Z Z Z (aJ Z)<|wG 24 Z Z Z (aJ Z)<|qD 22 Z cA Z Z Z (aC bIe Z (Ct.quiet (λw hw=>KJ ((nf.c _) w hw) G))) ?_;rintro _ _⟨rfl,rfl⟩;refine⟨.inr hiZ,?_⟩;refine qD 25 Z cA Z Z Z (aC bIe Z (Ct.quiet (λw hw=>KJ ((nf.c _) w hw) G))) ?_;rintro _ _⟨rfl,rfl⟩;refine⟨.inr hiZ,?_⟩;refine wG 26 Z Z Z (bW Z Z)<|wG 27 Z Z Z (aS Z Z)<|wD 28 Z (aN Z Z)<|wN ?_;exact KP
    ·refine wO 20 Z Z Z<|wO 21 Z Z Z<|wO 22 Z Z Z<|wO 23 Z Z Z<|wO 24 Z Z Z<|wO 25 Z Z Z<|wO 26 Z Z Z<|wG 27 Z Z Z (aN Z Z)<|wD 28 Z (aN Z Z)<|wN ?_;exact KP
  refine aX Z (λfm=> ?_) (λfm=> ?_)
  ·refine wq<|wn Z<|bK ?_;refine⟨_,Z,?_⟩;exact absurd cF vi
  ·refine aI<|aK<|wm Z<|wA Z Z<|wn Z ?_;exact⟨i+1,⟨G,G⟩,G,KP⟩
 ·refine aR<|wq<|wn Z<|bK ?_;refine⟨_,Z,?_⟩;rfl
theorem aGh (ac:Rd w an ba am 1 (ints .u8 u)) (dp:Rd w gr md gs 1 (ints .i64 a)) (nf:Rd w rn j8 rx 1 (ints .i64 rk)) (hO:nC u a rk) (hN:u.length<=1000000):
  CF 101 #[sl an ba am,sl gr md gs,sl rn j8 rx] w (λv R'=> ∃A c,v=sl A (a.length) c/\R'=[(ri 3 A a.length c (BP u a))]):=by
 obtain rfl:=ac.lenI;obtain rfl:=dp.lenI;obtain rfl:=nf.lenI;refine fn1 Tryz.func101 Z Z Z ?_;have ia:=ac.max;have j7:=dp.max;have Sr:=nf.max;have mw:=hO.alen;have Jx:=hO.len;refine wq<|wn Z<|wq<|wm Z<|wy (aL aa Z)<|wa (dK aa zb3 Z Z) ?_;rintro _ _⟨ap,rfl,rfl⟩;refine bC (v:=sl (GG ap) a.length a.length) Z<|wn Z<|wq<|wn Z<|aD<|wq<|wm Z<|wy (aL aa Z)<|wm Z<|aA<|aG ?_;refine fZ (λ(i:Int) (n:Int) (V:AH)=>[(0,sl an u.length am),(1,sl gr a.length gs),(7,sl (GG ap) a.length a.length),(8,I n),(15,sl rn rk.length rx),(16,I (rk.length:Int)),(17,I i)]) (λi n V=>[(ri 3 (GG ap) a.length a.length V)]) (λi n V=>(0<=i)/\(i<=rk.length)/\(SX u a rk V i n)) (λi n V=>(rk.length-i).toNat) ?_ ?_
 ·exact⟨0,0,List.replicate a.length (0:Int),⟨G,G,(by rw[mw];exact aPt)⟩,KP⟩
 intro i n V ⟨aw,ff,hK⟩;have kc:=hK.len;have hKn:=hK.n0;refine wq<|wL Z Z<|aA<|aD<|aX Z (λar=> ?_) (λar=> ?_)
 ·have hri:=(hO.at_ aw G).1;refine aI<|aD<|aG<|wq<|wm Z<|wy (aF aa sz3 Z Z (nf.c _))<|wy (aT au Z Z (nf.c _))<|wg Z<|wn Z<|aD<|wq<|wm Z ?_;refine wy (eT Z Z)<|aA<|aX Z (λbx=> ?_) (λbx=> ?_)
  ·refine wq<|wn Z<|aR<|aK<|wA Z Z<|wm Z<|aA ?_;exact⟨i+1,0,V,⟨G,G,(hK.skip hO aw G bx)⟩,G,KP⟩
  ·have hj:=hO.ain (r:=rd rk i-1) G G;have hcb:=QL (s:=u) (i:=i) (j:=rd a (rd rk i-1)) aw G hj.1 G;refine aI<|wq<|wm Z<|wm Z<|wS Z Z<|wy (aF aa sz3 Z Z (dp.c _))<|wy (aT au Z Z (dp.c _))<|wn Z<|aD<|aG ?_;refine fG (λ(m:Int)=>[(0,sl an u.length am),(1,sl gr a.length gs),(7,sl (GG ap) a.length a.length),(8,I m),(9,I i),(10,I (rd rk i)),(11,I (rd a ((rd rk i)-1))),(15,sl rn rk.length rx),(16,I (rk.length:Int)),(17,I i)]) (λm=>[(ri 3 (GG ap) a.length a.length V)]) (λm=>(0<=m)/\(m.toNat<=com u i (rd a (rd rk i-1)))) (λm=>(u.length-m).toNat) ?_ ?_
   ·exact⟨n,⟨G,(hK.nl G G)⟩,KP⟩
   intro m ⟨qn,Wm⟩;have Qh:m<=u.length:=G
   refine aD ?_;refine mO [(0,sl an u.length am),(1,sl gr a.length gs),(7,sl (GG ap) a.length a.length),(8,I m),(9,I i),(10,I (rd rk i)),(11,I (rd a ((rd rk i)-1))),(15,sl rn rk.length rx),(16,I (rk.length:Int)),(17,I i),(51, .bool (decide ((((max i (rd a ((rd rk i)-1)))+m)<(u.length:Int))/\((rd u (i+m))=(rd u ((rd a ((rd rk i)-1))+m))))))] [(ri 3 (GG ap) a.length a.length V)] ?_ ?_
   ·refine bD mixed<|wD 0 Z (aJ Z)<|wD 1 Z (aJ Z)<|wD 2 Z (MM Z Z)<|wD 3 Z (aJ Z)<|wD 4 Z (bT Z Z)<|wD 5 Z (aJ Z)<|wD 6 Z (aL af Z)<|wD 7 Z (eQ Z Z)<|wD 8 Z (aJ Z)<|jH 37 Z (λef=> ?_) (λef=> ?_)
    ·refine wG 9 Z Z Z (aJ Z)<|wG 10 Z Z Z (aJ Z)<|wG 11 Z Z Z (aJ Z)<|wG 12 Z Z Z (bT Z Z)<|wG 13 Z Z Z (aF af sz5 Z Z (ac.c _))<|wG 14 Z Z Z (aT az Z Z (ac.c _))<|wG 15 Z Z Z (aJ Z)<|wG 16 Z Z Z (aJ Z)<|wG 17 Z Z Z (aJ Z)<|wG 18 Z Z Z (bT Z Z)<|wG 19 Z Z Z (aF af sz5 Z Z (ac.c _))<|wG 20 Z Z Z (aT az Z Z (ac.c _))<|wG 21 Z Z Z (eT Z Z)<|wD 22 Z (aS Z Z)<|wN ?_;exact KP
    ·refine wO 9 Z Z Z<|wO 10 Z Z Z<|wO 11 Z Z Z<|wO 12 Z Z Z<|wO 13 Z Z Z<|wO 14 Z Z Z<|wO 15 Z Z Z<|wO 16 Z Z Z<|wO 17 Z Z Z<|wO 18 Z Z Z<|wO 19 Z Z Z<|wO 20 Z Z Z<|wO 21 Z Z Z<|wD 22 Z (aN Z Z)<|wN ?_;exact KP
   refine aX Z (λfm=> ?_) (λfm=> ?_)
   ·refine aI<|aG<|aK<|wm Z<|wA Z Z<|wn Z ?_;exact⟨m+1,⟨G,(bAe aw hj.1 qn Wm cF)⟩,G,KP⟩
   ·have hme:=aDl aw hj.1 qn Wm cF;refine aR<|wq<|wm Z<|wm Z<|wm Z<|wy (aF aa sz3 Z Z (rdr 0 Z))<|bZ (bE 0 Z sz3 Z Z) ?_;rintro _ _ rfl;refine aA<|aK<|wm Z<|wS Z Z<|wy (MM Z Z)<|wn Z<|aK<|wA Z Z<|wm Z<|aA ?_;exact⟨i+1,max (m-1) 0,upd V (rd rk i) m,⟨G,G,(hK.put hO aw G bx hme)⟩,G,KP⟩
 ·refine aR<|wq<|wm Z<|wn Z<|aU [0] 99 ?_;refine⟨_,Z,?_⟩;have e:i=u.length:=G
  rw[e] at hK;obtain rfl:=hK.done hO;exact⟨_,_,Z,Z⟩
theorem aBu (ac:Rd w an ba am 1 (ints .u8 u)) (dp:Rd w gr md gs 1 (ints .i64 a)) (qk:a.Perm (iota u.length)) (has:a.Pairwise (bV u)) (hN:u.length<=1000000):
  CF 48 #[sl an ba am,sl gr md gs] w (λv R'=> ∃A c,v= .tuple #[sl A a.length c,bt]/\R'=[(ri 3 A a.length c (BP u a))]):=by
 obtain rfl:=ac.lenI;obtain rfl:=dp.lenI;refine fn2 Tryz.func48 Z Z Z ?_;have ia:=ac.max;have j7:=dp.max;have mw:a.length=u.length:=by rw[qk.length_eq,bA]
 refine wq<|wg Z<|wn Z<|wq<|wm Z<|wa (aC aHw Z (Ct.fresh (λw hw=>qA ((dp.c _) w hw) (zK qk) G))) ?_;rintro _ _⟨_,rfl,R1,cm,ci,rfl,xp,rfl⟩;refine wm Z<|wX Z Z<|wX Z Z<|wg Z<|wn Z<|aD<|wq<|wm Z<|wy (dC Z)<|wm Z<|aB Z Z<|wm Z<|aB Z Z ?_;refine wy (aL aa Z)<|aB Z Z<|wm Z<|aB Z Z<|wy (aL af Z)<|aB Z Z<|wy (Yl.f (fQ Z Z))<|wy (aN Z Z)<|aA<|aP Z<|aI<|aD<|wq<|wm Z ?_;refine wm Z<|wm Z<|wa (aC bQl Z (Ct.quiet (λw hw=>XH ((ac.c _) w hw) ((dp.c _) w hw) ((rdr 0 Z) w hw) (xp.ord qk has) hN))) ?_;rintro _ _⟨rfl,rfl⟩;refine gL 27 Z (trivial)<|aA<|dG Z<|wq<|wm Z<|wm Z<|wm Z<|wa (aC bQk Z (Ct.fresh (λw hw=>aGh ((ac.c _) w hw) ((dp.c _) w hw) ((rdr 0 Z) w hw) (xp.ord qk has) hN))) ?_;rintro _ _⟨_,rfl,kt,lj,rfl,rfl⟩;refine wg Z<|wn Z<|aU [0] 99 ?_;refine⟨_,_,Z,Z,?_⟩;exact⟨_,_,Z,Z⟩
theorem QG (ac:Rd w an ba am 1 (ints .u8 u)):
  CF 159 #[sl an ba am,I i] w (λv R'=>v= .bool (decide (0<=i/\i<=u.length))):=by
 obtain rfl:=ac.lenI;refine fn1 Tryz.func159 Z Z Z ?_;have ia:=ac.max;refine wq<|wn Z<|wq<|wm Z<|wy (iL Z Z)<|wm Z<|bR 5 [(12, .bool (decide ((0<=i)/\(i<=(u.length:Int)))))] [] ?_ ?_
 ·refine bJ 7 Z (λar=> ?_) (λar=> ?_)
  ·refine aB Z Z<|wm Z<|aB Z Z<|wm Z<|aB Z Z<|wy (aL af Z)<|aB Z Z<|wy (qM Z Z)<|wy (aS Z Z)<|aA ?_;exact KP
  ·refine aM Z Z Z Z<|aM Z Z Z Z<|aM Z Z Z Z<|aM Z Z Z Z<|wy (aN Z Z)<|aA ?_;exact KP
 refine wn Z<|bK ?_;refine⟨_,Z,?_⟩;rfl
theorem aIc {j:Int} (ac:Rd w an ba am 1 (ints .u8 u)) (mz:(0<=i/\i<=u.length)/\(0<=j/\j<=u.length)) (hN:u.length<=1000000):
  CF 102 #[sl an ba am,I i,I j] w (λv R'=>v=I (com u i j:Int)):=by
 obtain rfl:=ac.lenI;refine fn1 Tryz.func102 Z Z Z ?_;have ia:=ac.max;have hcb:=QL (s:=u) mz.1.1 mz.1.2 mz.2.1 mz.2.2;refine wq<|wn Z<|aD<|wq<|wm Z<|wm Z<|wa (aC bId Z (Ct.quiet (λw hw=>QG ((ac.c _) w hw)))) ?_;rintro _ _⟨rfl,rfl⟩;refine gL 10 Z G<|wy (dC Z)<|wm Z<|aB Z Z<|wm Z<|aB Z Z<|wm Z<|aB Z Z<|wa (aC bId Z (Ct.quiet (λw hw=>QG ((ac.c _) w hw)))) ?_;rintro _ _⟨rfl,rfl⟩;refine gL 15 Z G<|aB Z Z<|wy (dC Z)<|wy (aN Z Z)<|aA<|aP Z<|aI<|wq<|wn Z<|aD<|aG ?_;refine fG (λ(m:Int)=>[(0,sl an u.length am),(1,I i),(2,I j),(7,I m)]) (λm=>[]) (λm=>(0<=m)/\(m.toNat<=com u i j)) (λm=>(u.length-m).toNat) ?_ ?_
 ·exact⟨0,⟨G,(oz _)⟩,KP⟩
 intro m ⟨qn,Wm⟩;have Qh:m<=u.length:=G
 refine aD ?_;refine mO [(0,sl an u.length am),(1,I i),(2,I j),(7,I m),(40, .bool (decide ((((max i j)+m)<(u.length:Int))/\((rd u (i+m))=(rd u (j+m))))))] [] ?_ ?_
 ·refine bD mixed<|wD 0 Z (aJ Z)<|wD 1 Z (aJ Z)<|wD 2 Z (MM Z Z)<|wD 3 Z (aJ Z)<|wD 4 Z (bT Z Z)<|wD 5 Z (aJ Z)<|wD 6 Z (aL af Z)<|wD 7 Z (eQ Z Z)<|wD 8 Z (aJ Z)<|jH 26 Z (λar=> ?_) (λar=> ?_)
  ·refine wG 9 Z Z Z (aJ Z)<|wG 10 Z Z Z (aJ Z)<|wG 11 Z Z Z (aJ Z)<|wG 12 Z Z Z (bT Z Z)<|wG 13 Z Z Z (aF af sz5 Z Z (ac.c _))<|wG 14 Z Z Z (aT az Z Z (ac.c _))<|wG 15 Z Z Z (aJ Z)<|wG 16 Z Z Z (aJ Z)<|wG 17 Z Z Z (aJ Z)<|wG 18 Z Z Z (bT Z Z)<|wG 19 Z Z Z (aF af sz5 Z Z (ac.c _))<|wG 20 Z Z Z (aT az Z Z (ac.c _))<|wG 21 Z Z Z (eT Z Z)<|wD 22 Z (aS Z Z)<|wN ?_;exact KP
  ·refine wO 9 Z Z Z<|wO 10 Z Z Z<|wO 11 Z Z Z<|wO 12 Z Z Z<|wO 13 Z Z Z<|wO 14 Z Z Z<|wO 15 Z Z Z<|wO 16 Z Z Z<|wO 17 Z Z Z<|wO 18 Z Z Z<|wO 19 Z Z Z<|wO 20 Z Z Z<|wO 21 Z Z Z<|wD 22 Z (aN Z Z)<|wN ?_;exact KP
 refine aX Z (λbx=> ?_) (λbx=> ?_)
 ·refine aI<|aG<|aK<|wm Z<|wA Z Z<|wn Z ?_;exact⟨m+1,⟨G,(bAe mz.1.1 mz.2.1 qn Wm cF)⟩,G,KP⟩
 ·refine aR<|wq<|wm Z<|wn Z<|bK ?_;refine⟨_,Z,?_⟩;exact bq (Value.int .i64) (aDl mz.1.1 mz.2.1 qn Wm cF)
theorem aJe (dp:Rd w gr md gs 1 (ints .i64 a)) (hp:a.Perm (iota a.length)) (hN:a.length<=1000000):
  CF 160 #[sl gr md gs] w (λv R'=> ∃(V:AH) (A:AF) (c:Nat),v= .tuple #[sl A a.length c,bt]/\AhF a V/\R'=[(ri 3 A a.length c V)]):=by
 obtain rfl:=dp.lenI;refine fn2 Tryz.func160 Z Z Z ?_;have j7:=dp.max;refine wq<|wg Z<|wn Z<|aD<|wq<|wm Z<|wa (aC aZs Z (Ct.quiet (λw hw=>aXv ((dp.c _) w hw) cE cE))) ?_;rintro _ _⟨rfl,rfl⟩;refine gL 9 Z (trivial)<|wy (dC Z)<|aA<|aP Z<|aI<|wq<|wm Z<|wy (aL aa Z)<|wa (dK aa zb3 Z Z) ?_;rintro _ _⟨ap,rfl,rfl⟩;refine bC (v:=sl (GG ap) a.length a.length) Z<|wn Z<|wq<|wn Z<|aD<|wq<|wm Z<|wy (aL aa Z)<|wm Z<|aA<|aG ?_;refine fZ (λ(q:Int) (l:Int) (V:AH)=>[(4,sl (GG ap) a.length a.length),(5,I l),(14,sl gr a.length gs),(15,I (a.length:Int)),(16,I q)]) (λq l V=>[(ri 3 (GG ap) a.length a.length V)]) (λq l V=>(0<=q)/\(q<=a.length)/\(AhI a V q l)) (λq l V=>(a.length-q).toNat) ?_ ?_
 ·exact⟨0,-1,List.replicate a.length (0:Int),⟨G,G,(bBk)⟩,KP⟩
 intro q l V ⟨ij,yi,hI⟩;have kc:=hI.len;refine wq<|wL Z Z<|aA<|aD<|aX Z (λar=> ?_) (λar=> ?_)
 ·have de:=aZ.1 (hp.subset (bG (L:=a) ij G));refine aI<|aD<|aG<|wq<|wy (aF aa sz3 Z Z (dp.c _))<|wy (aT au Z Z (dp.c _))<|wn Z<|aK<|wm Z<|wm Z<|wm Z<|wm Z<|wy (aF aa sz3 Z Z (rdr 0 Z)) ?_;refine bZ (bE 0 Z sz3 Z Z) ?_;rintro _ _ rfl;refine wn Z<|aK<|wA Z Z<|wm Z<|aA ?_;exact⟨q+1,rd a q,upd V (rd a q) l,⟨G,G,(hI.step hp ij G)⟩,G,KP⟩
 ·refine aR<|wq<|wm Z<|wg Z<|wn Z<|aU [0] 99 ?_;refine⟨_,_,Z,Z,?_⟩;have e:q=a.length:=G
  rw[e] at hI;exact⟨V,_,_,Z,hI.done,Z⟩
theorem aHp (ac:Rd w an ba am 1 (ints .u8 u)) (dp:Rd w gr md gs 1 (ints .i64 a)) (qk:a.Perm (iota u.length)) (has:a.Pairwise (bV u)) (hN:u.length<=1000000):
  CF 161 #[sl an ba am,sl gr md gs] w (λv R'=>v=bt):=by
 obtain rfl:=ac.lenI;obtain rfl:=dp.lenI;refine fn1 Tryz.func161 Z Z Z ?_;have ia:=ac.max;have j7:=dp.max;have mw:a.length=u.length:=by rw[qk.length_eq,bA]
 refine wq<|wn Z<|wq<|wm Z<|wa (aC aHw Z (Ct.fresh (λw hw=>qA ((dp.c _) w hw) (zK qk) G))) ?_;rintro _ _⟨_,rfl,R1,cm,ci,rfl,xp,rfl⟩;refine wm Z<|wX Z Z<|wX Z Z<|wg Z<|wn Z<|wq<|wm Z<|wa (bF .i64 [-1] aa zs3 Z Z Z) ?_;rintro _ _⟨ir,rfl,rfl⟩;refine wa (aQ 1 Z aa zb3 Z Z Z (rdr 0 Z)) ?_;rintro _ _⟨gv,jn,rfl,rfl⟩;refine bC (v:=sl gv (a.length+1) jn) Z<|wn Z<|aD<|wq<|wm Z<|wy (aL aa Z)<|wm Z<|aA<|aG ?_;refine fG (λ(i:Int)=>[(0,sl an u.length am),(1,sl gr a.length gs),(5,sl gv (a.length+1) jn),(18,sl gr a.length gs),(19,I (a.length:Int)),(20,I i)]) (λi=>[(ri 3 (GG ir) 1 1 ([-1])),(ri 3 gv (a.length+1) jn (R1++([-1])))]) (λi=>(0<=i)/\(i<=a.length\/i=0)) (λi=>(a.length+1-i).toNat) ?_ ?_
 ·exact⟨0,⟨G,G⟩,KP⟩
 intro i ⟨ff,Ou⟩;have hO:=xp.ord qk has;have Jx:=hO.len;have Pf:(R1++[-1]).length=u.length+1:=by rw[ah,Jx];rfl
 refine wq<|wL Z Z<|aA<|aD<|aX Z (λar=> ?_) (λar=> ?_)
 ·refine aI<|aD<|aG<|wq<|wm Z<|wy (aF aa sz3 Z Z (dp.c _))<|wy (aT au Z Z (dp.c _))<|wg Z<|wn Z<|aD<|wq<|wm Z ?_;refine wy (eT Z Z)<|aA<|aX Z (λbx=> ?_) (λbx=> ?_)
  ·refine aR<|aK<|wA Z Z<|wm Z<|aA ?_;exact⟨i+1,⟨G,G⟩,G,KP⟩
  ·have hx:=hO.ain (r:=i-1) G G;have hy:=hO.ain (r:=i) G G;have vi:=hO.nofall (r:=i) G G;rw[<-MH hx.1 G,<-MH hy.1 G] at vi;refine aI<|wq<|wm Z<|wm Z<|wS Z Z<|wy (aF aa sz3 Z Z (dp.c _))<|wy (aT au Z Z (dp.c _))<|wn Z ?_;refine mO [(0,sl an u.length am),(1,sl gr a.length gs),(5,sl gv (a.length+1) jn),(18,sl gr a.length gs),(19,I (a.length:Int)),(20,I i),(64, .bool (decide (((rd u (rd a i))<(rd u (rd a (i-1))))\/(((rd u (rd a (i-1)))=(rd u (rd a i)))/\((rd (R1++([-1])) ((rd a i)+1))<(rd (R1++([-1])) ((rd a (i-1))+1)))))))] [(ri 3 (GG ir) 1 1 ([-1])),(ri 3 gv (a.length+1) jn (R1++([-1])))] ?_ ?_
   ·refine bD mixed<|wD 0 Z (aJ Z)<|wD 1 Z (aJ Z)<|wD 2 Z (aF af sz5 Z Z (ac.c _))<|wD 3 Z (aT az Z Z (ac.c _))<|wD 4 Z (aJ Z)<|wD 5 Z (aJ Z)<|wD 6 Z (aF af sz5 Z Z (ac.c _))<|wD 7 Z (aT az Z Z (ac.c _))<|wD 8 Z (bW Z Z)<|wD 9 Z (aJ Z)<|jH 41 Z (λef=> ?_) (λef=> ?_)
    ·refine wO 10 Z Z Z<|wO 11 Z Z Z<|wO 12 Z Z Z<|wO 13 Z Z Z<|wO 14 Z Z Z<|wO 15 Z Z Z<|wO 16 Z Z Z<|wO 17 Z Z Z<|wO 18 Z Z Z<|wO 19 Z Z Z<|fD 20 Z cA Z Z Z<|fD 21 Z cA Z Z Z<|fD 22 Z cA Z Z Z<|fD 23 Z cA Z Z Z<|fD 24 Z cA Z Z Z ?_;refine fD 25 Z cA Z Z Z<|fD 26 Z cA Z Z Z<|fD 27 Z cA Z Z Z<|fD 28 Z cA Z Z Z<|fD 29 Z cA Z Z Z<|fD 30 Z cA Z Z Z<|wO 31 Z Z Z<|wD 32 Z (aS Z Z)<|wN ?_;exact KP
    ·refine wG 10 Z Z Z (aJ Z)<|wG 11 Z Z Z (aJ Z)<|wG 12 Z Z Z (aF af sz5 Z Z (ac.c _))<|wG 13 Z Z Z (aT az Z Z (ac.c _))<|wG 14 Z Z Z (aJ Z)<|wG 15 Z Z Z (aJ Z)<|wG 16 Z Z Z (aF af sz5 Z Z (ac.c _))<|wG 17 Z Z Z (aT az Z Z (ac.c _))<|wG 18 Z Z Z (eT Z Z)<|wG 19 Z Z Z (aJ Z)<|jH 51 Z (λfm=> ?_) (λfm=> ?_)
     ·refine wG 20 Z Z Z (aJ Z)<|wG 21 Z Z Z (aJ Z)<|wG 22 Z Z Z (bT Z Z)<|wG 23 Z Z Z (aF aa sz3 Z Z (rdr 1 Z))<|wG 24 Z Z Z (aT au Z Z (rdr 1 Z))<|wG 25 Z Z Z (aJ Z)<|wG 26 Z Z Z (aJ Z)<|wG 27 Z Z Z (bT Z Z)<|wG 28 Z Z Z (aF aa sz3 Z Z (rdr 1 Z))<|wG 29 Z Z Z (aT au Z Z (rdr 1 Z))<|wG 30 Z Z Z (bW Z Z)<|wG 31 Z Z Z (aS Z Z)<|wD 32 Z (aN Z Z)<|wN ?_;exact KP
     ·refine wO 20 Z Z Z<|wO 21 Z Z Z<|wO 22 Z Z Z<|wO 23 Z Z Z<|wO 24 Z Z Z<|wO 25 Z Z Z<|wO 26 Z Z Z<|wO 27 Z Z Z<|wO 28 Z Z Z<|wO 29 Z Z Z<|wO 30 Z Z Z<|wG 31 Z Z Z (aN Z Z)<|wD 32 Z (aN Z Z)<|wN ?_;exact KP
   refine aX Z (λjt=> ?_) (λjt=> ?_)
   ·refine wq<|wn Z<|aU [] 99 ?_;refine⟨_,Z,?_⟩;exact absurd cF vi
   ·refine aI<|aK<|wA Z Z<|wm Z<|aA ?_;exact⟨i+1,⟨G,G⟩,G,KP⟩
 ·refine aR<|wq<|wn Z<|aU [] 99 ?_;refine⟨_,Z,?_⟩;rfl
theorem aOv {rk:AH} (ac:Rd w an ba am 1 (ints .u8 u)) (dp:Rd w gr md gs 1 (ints .i64 a)) (qk:a.Perm (iota u.length)) (has:a.Pairwise (bV u)) (hN:u.length<=1000000) (hO:nC u a rk):
  CF 103 #[sl an ba am,sl gr md gs] w (λv R'=> ∃(V rk:AH) (A:AF) (c:Nat),v= .tuple #[sl A a.length c,bt]/\(nC u a rk/\V=AC u a rk)/\R'=[(ri 3 A a.length c V)]):=by
 obtain rfl:=ac.lenI;obtain rfl:=dp.lenI;refine fn2 Tryz.func103 Z Z Z ?_;have ia:=ac.max;have j7:=dp.max;have mw:a.length=u.length:=by rw[qk.length_eq,bA]
 refine wq<|wg Z<|wn Z<|wq<|wm Z<|wa (aC bPf Z (Ct.fresh (λw hw=>aJe ((dp.c _) w hw) (zK qk) G))) ?_;rintro _ _⟨_,rfl,H1,cm,ci,rfl,Ux,rfl⟩;refine wm Z<|wX Z Z<|wX Z Z<|wg Z<|wn Z<|aD<|wq<|wm Z<|wy (dC Z)<|wm Z<|aB Z Z<|wm Z<|aB Z Z ?_;refine wy (aL aa Z)<|aB Z Z<|wm Z<|aB Z Z<|wy (aL af Z)<|aB Z Z<|wy (Yl.f (fQ Z Z))<|wy (aN Z Z)<|aA<|aP Z<|aI<|wq<|wm Z<|wm Z ?_;refine wa (aC bPe Z (Ct.quiet (λw hw=>aHp ((ac.c _) w hw) ((dp.c _) w hw) qk has hN))) ?_;rintro _ _⟨rfl,rfl⟩;refine gL 29 Z (trivial)<|wn Z<|wq<|wm Z<|wy (aL aa Z)<|wa (dK aa zb3 Z Z) ?_;rintro _ _⟨ir,rfl,rfl⟩;refine bC (v:=sl (GG ir) a.length a.length) Z<|wn Z<|wq<|wn Z<|aD<|wq<|wm Z<|wy (aL aa Z)<|wm Z<|aA<|aG ?_;refine fZ (λ(i:Int) (n:Int) (V:AH)=>[(0,sl an u.length am),(8,bt),(9,sl (GG ir) a.length a.length),(10,I n),(33,sl cm a.length ci),(34,I (a.length:Int)),(35,I i)]) (λi n V=>[(ri 3 (GG ir) a.length a.length V),(ri 3 cm a.length ci H1)]) (λi n V=>(0<=i)/\(i<=u.length)/\(n<=u.length)/\(PlI u a rk V i n)) (λi n V=>(u.length-i).toNat) ?_ ?_
 ·exact⟨0,0,List.replicate a.length (0:Int),⟨G,G,G,(by rw[mw];exact aVw)⟩,KP⟩
 intro i n V ⟨aw,ff,cj,hK⟩;have kc:=hK.len;have hKn:=hK.n0;refine wq<|wL Z Z<|aA<|aD<|aX Z (λar=> ?_) (λar=> ?_)
 ·have rh:=Ux.at_ hO aw (show i<u.length by omega);have hri:=hO.at_ aw (show i<u.length by omega);refine aI<|aD<|aG<|wq<|wm Z<|wy (aF aa sz3 Z Z (rdr 1 Z))<|wy (aT au Z Z (rdr 1 Z))<|wg Z<|wn Z<|wq<|wm Z<|wS Z Z ?_;refine wy (MM Z Z)<|wn Z<|aD<|aG<|wq<|wm Z<|wy (eT Z Z)<|wn Z<|aX Z (λbx=> ?_) (λbx=> ?_)
  ·have hz:rd rk i=0:=by
    rcases cz 0 (rd rk i) with g|g
    ·rw [df G] at rh;have:=hO.ain (r:=rd rk i-1) G G;omega
    ·omega
   refine aK<|wn Z<|aK<|wm Z<|wm Z<|wm Z<|wy (aF aa sz3 Z Z (rdr 0 Z))<|bZ (bE 0 Z sz3 Z Z) ?_;rintro _ _ rfl;refine aA<|aK<|wA Z Z<|wm Z<|aA ?_;exact⟨i+1,0,upd V i 0,⟨G,G,G,(hK.zero aw G hz)⟩,G,KP⟩
  ·have hnz:rd rk i≠0:=λg=>by rw[dm g] at rh;exact bx rh
   rw[df hnz] at rh;have hmo:=hK.more hO aw (show i<u.length by omega) hnz rh;have hjn:=hO.ain (r:=rd rk i-1) G G;rw[<-rh] at hjn;have hcb:=QL (s:=u) (i:=i) (j:=rd H1 i) aw G hjn.1 G;have hcb2:=QL (s:=u) (i:=i+max (n-1) 0) (j:=rd H1 i+max (n-1) 0) G G G G;refine wq<|wm Z<|wn Z<|dG Z<|aK<|wm Z<|wm Z<|wm Z<|wm Z<|wA Z Z<|wm Z<|wm Z<|wA Z Z ?_;refine wa (aC bQj Z (Ct.quiet (λw hw=>aIc ((ac.c _) w hw) G hN))) ?_;rintro _ _⟨rfl,rfl⟩;refine wA Z Z<|wn Z<|aK<|wm Z<|wm Z<|wm Z<|wy (aF aa sz3 Z Z (rdr 0 Z))<|bZ (bE 0 Z sz3 Z Z) ?_;rintro _ _ rfl;refine aA<|aK<|wA Z Z<|wm Z<|aA ?_;exact⟨i+1,(max (n-1) 0)+(com u (i+(max (n-1) 0)) ((rd H1 i)+(max (n-1) 0)):Int),upd V i ((max (n-1) 0)+(com u (i+(max (n-1) 0)) ((rd H1 i)+(max (n-1) 0)):Int)),⟨G,G,G,(hmo.2)⟩,G,KP⟩
 ·refine aR<|wq<|wm Z<|wg Z<|wn Z<|aU [0] 99 ?_;refine⟨_,_,Z,Z,?_⟩;have e:i=u.length:=G
  rw[e] at hK;exact⟨V,rk,_,_,Z,⟨hO,hK.done⟩,Z⟩
theorem aBf (qk:a.Perm (iota u.length)) (has:a.Pairwise (bV u)): ∃rk,nC u a rk:=by
 have hl:a.length=u.length:=by rw[qk.length_eq,bA]
 have hnd:a.Nodup:=qk.symm.nodup (fB _);have de: ∀r:Int,0<=r->r<u.length->0<=rd a r/\rd a r<u.length:=λr h0 h1=>aZ.1 (qk.subset (bG h0 G));refine⟨(List.range u.length).map λi:Nat=>(((List.range u.length).findIdx λr:Nat=>decide (rd a r=i):Nat):Int),qk,has,cD,λr r0 hr=> ?_⟩;have hi:=de r r0 hr;rw[iT hi.1 G]
 have e:(List.range u.length).findIdx (λq:Nat=>decide (rd a q=((rd a r).toNat:Int)))=r.toNat:=by
  have br:r.toNat<(List.range u.length).length:=by rw[yc];omega
  refine(List.findIdx_eq br).2 ⟨?_,λq hq=> ?_⟩
  ·simp only[xk,yh];rw[show(r.toNat:Int)=r by omega];omega
  ·simp only[xk,uh];intro g;have:=kM hnd (i:=(q:Int)) (j:=r) G G r0 G G;omega
 rw[e];omega
theorem aXj (ac:Rd w an ba am 1 (ints .u8 u)) (dp:Rd w gr md gs 1 (ints .i64 a)) (qk:a.Perm (iota u.length)) (has:a.Pairwise (bV u)) (hN:u.length<=1000000):
  CF 49 #[sl an ba am,sl gr md gs] w (λv R'=> ∃A c,v= .tuple #[sl A a.length c,bt]/\R'=[(ri 3 A a.length c (BP u a))]):=by
 obtain rfl:=ac.lenI;obtain rfl:=dp.lenI;refine fn2 Tryz.func49 Z Z Z ?_;have ia:=ac.max;have j7:=dp.max;have mw:a.length=u.length:=by rw[qk.length_eq,bA]
 obtain⟨rk,hO⟩:=aBf qk has;refine wq<|wg Z<|wn Z<|wq<|wm Z<|wm Z<|wa (aC bQi Z (Ct.fresh (λw hw=>aOv ((ac.c _) w hw) ((dp.c _) w hw) qk has hN hO))) ?_;rintro _ _⟨_,rfl,P1,rk1,cm,ci,rfl,⟨hOk,hP1⟩,rfl⟩;refine wm Z<|wX Z Z<|wX Z Z<|wg Z<|wn Z<|aD<|wq<|wm Z<|wy (dC Z)<|aA<|aP Z<|aI<|aD ?_;refine aK<|wm Z<|wy (aL aa Z)<|wa (dK aa zb3 Z Z) ?_;rintro _ _⟨ir,rfl,rfl⟩;refine bC (v:=sl (GG ir) a.length a.length) Z<|wn Z<|aD<|wq<|wm Z<|wy (aL aa Z)<|wm Z<|aA<|aG ?_;refine dI (λ(i:Int) (V:AH)=>[(6,sl cm a.length ci),(8,sl (GG ir) a.length a.length),(22,sl gr a.length gs),(23,I (a.length:Int)),(24,I i)]) (λi V=>[(ri 3 (GG ir) a.length a.length V),(ri 3 cm a.length ci P1)]) (λi V=>(0<=i)/\(i<=a.length)/\(V.length=a.length)/\(∀j:Int,0<=j->j<i->rd V j=rd P1 (rd a j))) (λi V=>(a.length-i).toNat) ?_ ?_
 ·exact⟨0,List.replicate a.length (0:Int),⟨G,G,(by rw[bz]),(λj h1 h2=>G)⟩,KP⟩
 intro i V ⟨aw,ff,kc,hV⟩;refine wq<|wL Z Z<|aA<|aD<|aX Z (λar=> ?_) (λar=> ?_)
 ·have de:=hO.ain aw (show i<u.length by omega);have hPl:P1.length=u.length:=by rw[hP1,UJ]
  refine aI<|aD<|aG<|wq<|wm Z<|wy (aF aa sz3 Z Z (dp.c _))<|wy (aT au Z Z (dp.c _))<|wg Z<|wn Z<|aK<|wm Z<|wm Z<|wm Z ?_;refine wm Z<|wy (aF aa sz3 Z Z (rdr 1 Z))<|wy (aT au Z Z (rdr 1 Z))<|wy (aF aa sz3 Z Z (rdr 0 Z))<|bZ (bE 0 Z sz3 Z Z) ?_;rintro _ _ rfl;refine aA<|aK<|wA Z Z<|wm Z<|aA ?_;exact⟨i+1,upd V i (rd P1 (rd a i)),⟨G,G,(by rw[aY];exact kc),(fH (f:=λj=>rd P1 (rd a j)) aw G hV Z)⟩,G,KP⟩
 ·refine aR<|wq<|wm Z<|wg Z<|wn Z<|aU [0] 99 ?_;refine⟨_,_,Z,Z,?_⟩;obtain rfl:V=BP u a:=bKm hOk kc (λp h1 h2=>by rw[hV p h1 G,hP1]);exact⟨_,_,Z,Z⟩
theorem bCs (ac:Rd w an ba am 1 (ints .u8 u)) (dp:Rd w gr md gs 1 (ints .i64 a)) (qk:a.Perm (iota u.length)) (has:a.Pairwise (bV u)) (hN:u.length<=1000000):
  CF 104 #[sl an ba am,sl gr md gs] w (λv R'=>v=bt):=by
 obtain rfl:=ac.lenI;obtain rfl:=dp.lenI;refine fn1 Tryz.func104 Z Z Z ?_;have ia:=ac.max;have j7:=dp.max;have mw:a.length=u.length:=by rw[qk.length_eq,bA]
 refine wq<|wn Z<|wq<|wm Z<|wa (aC aHw Z (Ct.fresh (λw hw=>qA ((dp.c _) w hw) (zK qk) G))) ?_;rintro _ _⟨_,rfl,R1,cm,ci,rfl,xp,rfl⟩;refine wm Z<|wX Z Z<|wX Z Z<|wg Z<|wn Z<|aD<|wq<|wm Z<|wy (dC Z)<|wm Z<|aB Z Z<|wm Z<|aB Z Z ?_;refine wy (aL aa Z)<|aB Z Z<|wm Z<|aB Z Z<|wy (aL af Z)<|aB Z Z<|wy (Yl.f (fQ Z Z))<|wy (aN Z Z)<|aA<|aP Z<|aI<|wq<|wm Z<|wa (bF .i64 [-1] aa zs3 Z Z Z) ?_;rintro _ _⟨ir,rfl,rfl⟩;refine wa (aQ 1 Z aa zb3 Z Z Z (rdr 0 Z)) ?_;rintro _ _⟨gv,jn,rfl,rfl⟩;refine bC (v:=sl gv (a.length+1) jn) Z<|wn Z<|aD<|wq<|wn Z<|aG ?_;refine fG (λ(i:Int)=>[(0,sl an u.length am),(1,sl gr a.length gs),(5,sl gv (a.length+1) jn),(7,I i)]) (λi=>[(ri 3 (GG ir) 1 1 ([-1])),(ri 3 gv (a.length+1) jn (R1++([-1])))]) (λi=>(1<=i)/\(i<=a.length\/i=1)) (λi=>(a.length+1-i).toNat) ?_ ?_
 ·exact⟨1,⟨G,G⟩,KP⟩
 intro i ⟨ff,Ou⟩;have hO:=xp.ord qk has;have Jx:=hO.len;have Pf:(R1++[-1]).length=u.length+1:=by rw[ah,Jx];rfl
 refine aD<|wq<|wm Z<|wm Z<|wy (aL aa Z)<|wL Z Z<|aA<|aX Z (λar=> ?_) (λar=> ?_)
 ·have hx:=hO.ain (r:=i-1) G G;have hy:=hO.ain (r:=i) G G;have vi:=hO.nofall (r:=i) G G;rw[<-MH hx.1 G,<-MH hy.1 G] at vi;refine aI<|aD<|aG<|aD<|bD mixed<|wD 0 Z (aJ Z)<|wD 1 Z (aJ Z)<|wD 2 Z (kY Z Z)<|wD 3 Z (aF aa sz3 Z Z (dp.c _))<|wD 4 Z (aT au Z Z (dp.c _))<|wD 5 Z (aJ Z)<|wD 6 Z (aJ Z)<|wD 7 Z (aF aa sz3 Z Z (dp.c _))<|wD 8 Z (aT au Z Z (dp.c _))<|wD 9 Z (aW Z) ?_;refine wD 10 Z (aW Z)<|wN ?_;refine mO [(0,sl an u.length am),(1,sl gr a.length gs),(5,sl gv (a.length+1) jn),(7,I i),(74, .bool (decide (((rd u (rd a i))<(rd u (rd a (i-1))))\/(((rd u (rd a (i-1)))=(rd u (rd a i)))/\((rd (R1++([-1])) ((rd a i)+1))<(rd (R1++([-1])) ((rd a (i-1))+1)))))))] [(ri 3 (GG ir) 1 1 ([-1])),(ri 3 gv (a.length+1) jn (R1++([-1])))] ?_ ?_
  ·refine bD mixed<|wD 0 Z (aJ Z)<|wD 1 Z (aJ Z)<|wD 2 Z (aF af sz5 Z Z (ac.c _))<|wD 3 Z (aT az Z Z (ac.c _))<|wD 4 Z (aJ Z)<|wD 5 Z (aJ Z)<|wD 6 Z (aF af sz5 Z Z (ac.c _))<|wD 7 Z (aT az Z Z (ac.c _))<|wD 8 Z (bW Z Z)<|wD 9 Z (aJ Z)<|jH 51 Z (λbx=> ?_) (λbx=> ?_)
   ·refine wO 10 Z Z Z<|wO 11 Z Z Z<|wO 12 Z Z Z<|wO 13 Z Z Z<|wO 14 Z Z Z<|wO 15 Z Z Z<|wO 16 Z Z Z<|wO 17 Z Z Z<|wO 18 Z Z Z<|wO 19 Z Z Z<|fD 20 Z cA Z Z Z<|fD 21 Z cA Z Z Z<|fD 22 Z cA Z Z Z<|fD 23 Z cA Z Z Z<|fD 24 Z cA Z Z Z ?_;refine fD 25 Z cA Z Z Z<|fD 26 Z cA Z Z Z<|fD 27 Z cA Z Z Z<|fD 28 Z cA Z Z Z<|fD 29 Z cA Z Z Z<|fD 30 Z cA Z Z Z<|wO 31 Z Z Z<|wD 32 Z (aS Z Z)<|wN ?_;exact KP
   ·refine wG 10 Z Z Z (aJ Z)<|wG 11 Z Z Z (aJ Z)<|wG 12 Z Z Z (aF af sz5 Z Z (ac.c _))<|wG 13 Z Z Z (aT az Z Z (ac.c _))<|wG 14 Z Z Z (aJ Z)<|wG 15 Z Z Z (aJ Z)<|wG 16 Z Z Z (aF af sz5 Z Z (ac.c _))<|wG 17 Z Z Z (aT az Z Z (ac.c _))<|wG 18 Z Z Z (eT Z Z)<|wG 19 Z Z Z (aJ Z)<|jH 61 Z (λef=> ?_) (λef=> ?_)
    ·refine wG 20 Z Z Z (aJ Z)<|wG 21 Z Z Z (aJ Z)<|wG 22 Z Z Z (bT Z Z)<|wG 23 Z Z Z (aF aa sz3 Z Z (rdr 1 Z))<|wG 24 Z Z Z (aT au Z Z (rdr 1 Z))<|wG 25 Z Z Z (aJ Z)<|wG 26 Z Z Z (aJ Z)<|wG 27 Z Z Z (bT Z Z)<|wG 28 Z Z Z (aF aa sz3 Z Z (rdr 1 Z))<|wG 29 Z Z Z (aT au Z Z (rdr 1 Z))<|wG 30 Z Z Z (bW Z Z)<|wG 31 Z Z Z (aS Z Z)<|wD 32 Z (aN Z Z)<|wN ?_;exact KP
    ·refine wO 20 Z Z Z<|wO 21 Z Z Z<|wO 22 Z Z Z<|wO 23 Z Z Z<|wO 24 Z Z Z<|wO 25 Z Z Z<|wO 26 Z Z Z<|wO 27 Z Z Z<|wO 28 Z Z Z<|wO 29 Z Z Z<|wO 30 Z Z Z<|wG 31 Z Z Z (aN Z Z)<|wD 32 Z (aN Z Z)<|wN ?_;exact KP
  refine aX Z (λfm=> ?_) (λfm=> ?_)
  ·refine wq<|wn Z<|aU [] 99 ?_;refine⟨_,Z,?_⟩;exact absurd cF vi
  ·refine aI<|aK<|wm Z<|wA Z Z<|wn Z ?_;exact⟨i+1,⟨G,G⟩,G,KP⟩
 ·refine aR<|wq<|wn Z<|aU [] 99 ?_;refine⟨_,Z,?_⟩;rfl
theorem aXi {A_h:AF} {n_h c_h:Nat} {h:AH} (ac:Rd w an ba am 1 (ints .u8 u)) (dp:Rd w gr md gs 1 (ints .i64 a)) (Sz:Rd w A_h n_h c_h 1 (ints .i64 h)) (qk:a.Perm (iota u.length)) (has:a.Pairwise (bV u)) (hN:u.length<=1000000) (hh:h=BP u a):
  CF 51 #[sl an ba am,sl gr md gs,sl A_h n_h c_h] w (λv R'=>v=bt):=by
 obtain rfl:=ac.lenI;obtain rfl:=dp.lenI;obtain rfl:=Sz.lenI;refine fn1 Tryz.func51 Z Z Z ?_;have ia:=ac.max;have j7:=dp.max;have m_h:=Sz.max;have mw:a.length=u.length:=by rw[qk.length_eq,bA]
 refine wq<|wn Z<|wq<|wm Z<|wm Z<|wa (aC bNc Z (Ct.fresh (λw hw=>aBu ((ac.c _) w hw) ((dp.c _) w hw) qk has hN))) ?_;rintro _ _⟨_,rfl,cm,ci,rfl,rfl⟩;refine wm Z<|wX Z Z<|wX Z Z<|wg Z<|wn Z<|wq<|wm Z<|wm Z<|wa (aC bQh Z (Ct.quiet (λw hw=>bCs ((ac.c _) w hw) ((dp.c _) w hw) qk has hN))) ?_;rintro _ _⟨rfl,rfl⟩;refine gL 17 Z (trivial)<|wm Z<|aB Z Z<|wm Z<|aB Z Z<|wm Z<|aB Z Z<|wa (aC aRd Z (Ct.quiet (λw hw=>rQ ((rdr 0 Z) w hw) ((Sz.c _) w hw) (by rw[EU];omega)))) ?_;rintro _ _⟨rfl,rfl⟩;refine gL 21 Z (hh.symm)<|wy (aS Z Z)<|wn Z<|aU [] 99 ?_;refine⟨_,Z,?_⟩;rfl
end
theorem aQr {cs V:AH} {i:Int} (h0:0<=i) (hi:i<cs.length) (hl:V.length=cs.length) (hV: ∀j:Int,0<=j->j<cs.length->rd V j=if j<i then ps cs (j+1) else ps cs j):
  ∀j:Int,0<=j->j<cs.length->rd (upd V i (rd V i+rd cs i)) j=if j<i+1 then ps cs (j+1) else ps cs j:=by
 intro j j0 j1;have e1:rd (upd V i (rd V i+rd cs i)) j=if j=i then rd V i+rd cs i else rd V j:=gV h0 j0 G
 have e2:=hV i h0 hi;rw[df G] at e2;rw[e1,e2,hV j j0 j1];by_cases e:j=i
 ·subst e;rw[dm rfl,dm G,mP h0 hi]
 ·rw [df e];by_cases h:j<i
  ·rw[dm h,dm G]
  ·rw[df h,df G]
theorem aMe {s:AH} {k:Int} (hk:0<=k) (hs: ∀x∈s,0<=x/\x<k):(fI s k).sum=s.length:=by
 have h:=QM (order:=iota s.length) (keys:=s) (k:=k) hk λi hi=>hs _ (bG (aZ.1 hi).1 (aZ.1 hi).2);rwa[nG,bA] at h
theorem aQs {cs V:AH} (hl:V.length=cs.length) (hV: ∀j:Int,0<=j->j<cs.length->rd V j=if j<cs.length then ps cs (j+1) else ps cs j):V=sM cs:=
 bI (hl.trans (JA cs).symm) λj h1 h2=>by rw[OG h1 G,hV j h1 G,dm G]
theorem aLo {B:Nat} {w0:World} {R:List Row} {d8:Nat} {dj wc An ox:AF} {dg wd By oy:Nat} {s:AH} {k:Int} (mm:RdC B w0 R (GG d8) 1 1 4 [sl dj s.length dg,sl wc s.length wd,sl An k.toNat By,sl ox s.length oy]) (Rg:RdC B w0 R An k.toNat By 1 (ints .i64 (fI s k))) (hk:0<=k/\k<=1048576) (hs: ∀x∈s,0<=x/\x<k) (hN:s.length<=1000000):
  CT 260 #[PG d8] B w0 (R) (λv R'=> ∃A c,v=sl A k.toNat c/\R'=(ri 3 A k.toNat c (sM (fI s k)))::R):=by
 refine fn1 Tryz.func260 Z Z Z ?_;have kf:(fI s k).length=k.toNat:=eO _ _;have Mv:(fI s k).sum=s.length:=aMe G hs;have Oe:(dO (fI s k)).length=k.toNat:=by rw[gH,kf]
 refine wq<|wn Z<|wq<|wm Z<|wy (aH Z)<|wy (yF 2 2 qf eY Z)<|wy (gK (RdC.right mm []) aa Z Z Z)<|wa (aC aLt Z (Ct.fresh (λw hw=>zA ((RdC.right Rg []) w hw) (nJ _ _) (by rw[Mv];omega) (by rw[kf];omega)))) ?_;rintro _ _⟨_,rfl,cm,ci,rfl,rfl⟩;refine wn Z<|aD<|wq<|wm Z<|wy (aH Z)<|wy (yF 2 2 qf eY Z)<|wy (gK (RdC.right mm [_]) aa Z Z Z)<|wy (aL aa Z)<|wm Z<|aA<|aG ?_;refine dI (λ(i:Int) (V:AH)=>[(3,sl cm ((dO (fI s k)).length) ci),(14,sl An k.toNat By),(15,I (k.toNat:Int)),(16,I i)]) (λi V=>((ri 3 cm ((dO (fI s k)).length) ci V)::R)) (λi V=>(0<=i)/\(i<=(fI s k).length)/\(V.length=(fI s k).length)/\(∀j:Int,0<=j->j<(fI s k).length->rd V j=if j<i then ps (fI s k) (j+1) else ps (fI s k) j)) (λi V=>((fI s k).length-i).toNat) ?_ ?_
 ·exact⟨0,dO (fI s k),⟨G,G,(by rw[gH]),(λj h1 h2=>by rw[df G];exact oW h1 h2)⟩,KP⟩
 intro i V ⟨aw,ff,kc,hV⟩;refine wq<|wL Z Z<|aA<|aD<|aX Z (λar=> ?_) (λar=> ?_)
 ·have xa:=xQ (nJ s k) i;have vx:=xQ (nJ s k) (i+1);rw[Mv] at xa vx;have hvi:=hV i aw G;rw[df G] at hvi;have Pe:=mP (L:=fI s k) aw G;refine aI<|aD<|aG<|wq<|wm Z<|wy (aF aa sz3 Z Z (RdC.right Rg [_]))<|wy (aT au Z Z (RdC.right Rg [_]))<|wg Z<|wn Z<|aK<|wm Z<|wm Z<|wy (aF aa sz3 Z Z (rdr 0 Z)) ?_;refine wy (aT au Z Z (rdr 0 Z))<|wm Z<|wA Z Z<|wy (aF aa sz3 Z Z (rdr 0 Z))<|bZ (bE 0 Z sz3 Z Z) ?_;rintro _ _ rfl;refine aA<|aK<|wA Z Z<|wm Z<|aA ?_;exact⟨i+1,upd V i ((rd V i)+(rd (fI s k) i)),⟨G,G,(by rw[aY];exact kc),(aQr aw G kc hV)⟩,G,KP⟩
 ·refine aR<|wq<|wm Z<|wn Z ?_;have Zf:k.toNat=(fI s k).length:=kf.symm;obtain rfl:V=sM (fI s k):=aQs kc λj h1 h2=>by rw[hV j h1 h2,dm G,dm G]
  refine bK ?_;rw[gH,kf];exact⟨_,Z,_,_,Z,Z⟩
theorem lgC {s D:AH} {i:Int} (Oq:rd D i= -1\/(0<=rd D i/\rd D i<s.length)):(0<rd D i/\ ¬rdb (smL s) (rd D i-1)=true)↔(0<rd D i/\smB s (rd D i-1)=false):=by
 constructor
 ·rintro ⟨h1,h2⟩;rw[oC G G] at h2;exact⟨h1,by simpa using h2⟩
 ·rintro ⟨h1,h2⟩;rw[oC G G,h2];exact⟨h1,cD⟩
theorem smC {s D:AH} {i:Int} (Oq:rd D i= -1\/(0<=rd D i/\rd D i<s.length)):(0<rd D i/\rdb (smL s) (rd D i-1)=true)↔(0<rd D i/\smB s (rd D i-1)=true):=by
 constructor
 ·rintro ⟨h1,h2⟩;rw[oC G G] at h2;exact⟨h1,h2⟩
 ·rintro ⟨h1,h2⟩;rw[oC G G,h2];exact⟨h1,Z⟩
section
variable {s l D H:AH} {k i:Int} (hk:0<=k) (hs: ∀x∈s,0<=x/\x<k) (hp:l.Perm (bP s)) (hn:0<s.length)
include hk hs hp hn
theorem bKt (i0:0<=i) (hi:i<s.length) (hD:D=(itL s k l i.toNat).1) (hH:H=(itL s k l i.toNat).2):(rd D i= -1\/(0<=rd D i/\rd D i<s.length))/\(D.length=s.length/\H.length=k.toNat):=by
 have h:=fLe hk hs hp hn (i:=i.toNat) G hD hH;rwa[mg i0] at h
theorem fLZ (i0:0<=i) (hi:i<s.length) (hD:D=(itL s k l i.toNat).1) (hH:H=(itL s k l i.toNat).2) (hc:0<rd D i/\ ¬rdb (smL s) (rd D i-1)=true):
  rd D i<s.length/\(0<=rd s (rd D i-1)/\rd s (rd D i-1)<k)/\(0<=rd H (rd s (rd D i-1))/\rd H (rd s (rd D i-1))<s.length)/\upd D (rd H (rd s (rd D i-1))) (rd D i-1)=(itL s k l (i+1).toNat).1/\upd H (rd s (rd D i-1)) (rd H (rd s (rd D i-1))+1)=(itL s k l (i+1).toNat).2:=by
 have he:=(bKt hk hs hp hn i0 hi hD hH).1;have h:=fL hk hs hp hn (i:=i.toNat) G hD hH (by rw[mg i0];exact(lgC he).1 hc);rw[mg i0] at h;rwa[show(i+1).toNat=i.toNat+1 by omega]
theorem bRj (i0:0<=i) (hi:i<s.length) (hD:D=(itL s k l i.toNat).1) (hH:H=(itL s k l i.toNat).2) (hc: ¬(0<rd D i/\ ¬rdb (smL s) (rd D i-1)=true)):D=(itL s k l (i+1).toNat).1/\H=(itL s k l (i+1).toNat).2:=by
 have he:=(bKt hk hs hp hn i0 hi hD hH).1;have h:=fLs (i:=i.toNat) hD hH (by rw[mg i0];exact λh=>hc ((lgC he).2 h));rwa[show(i+1).toNat=i.toNat+1 by omega]
theorem bKs (i0:0<=i) (hi:i<s.length) (hD:D=(itS s k l (s.length-1-i).toNat).1) (hH:H=(itS s k l (s.length-1-i).toNat).2):(rd D i= -1\/(0<=rd D i/\rd D i<s.length))/\(D.length=s.length/\H.length=k.toNat):=
 fSe hk hs hp hn (m:=((s.length:Int)-1-i).toNat) G G hD hH
theorem fSZ (i0:0<=i) (hi:i<s.length) (hD:D=(itS s k l (s.length-1-i).toNat).1) (hH:H=(itS s k l (s.length-1-i).toNat).2) (hc:0<rd D i/\rdb (smL s) (rd D i-1)=true):
  rd D i<s.length/\(0<=rd s (rd D i-1)/\rd s (rd D i-1)<k)/\(0<=rd H (rd s (rd D i-1))-1/\rd H (rd s (rd D i-1))-1<s.length)/\upd D (rd H (rd s (rd D i-1))-1) (rd D i-1)=(itS s k l (s.length-1-(i-1)).toNat).1/\upd H (rd s (rd D i-1)) (rd H (rd s (rd D i-1))-1)=(itS s k l (s.length-1-(i-1)).toNat).2:=by
 have he:=(bKs hk hs hp hn i0 hi hD hH).1;have h:=fS hk hs hp hn (m:=((s.length:Int)-1-i).toNat) G G hD hH ((smC he).1 hc);rwa[show((s.length:Int)-1-(i-1)).toNat=((s.length:Int)-1-i).toNat+1 by omega]
theorem bRi (i0:0<=i) (hi:i<s.length) (hD:D=(itS s k l (s.length-1-i).toNat).1) (hH:H=(itS s k l (s.length-1-i).toNat).2) (hc: ¬(0<rd D i/\rdb (smL s) (rd D i-1)=true)):D=(itS s k l (s.length-1-(i-1)).toNat).1/\H=(itS s k l (s.length-1-(i-1)).toNat).2:=by
 have he:=(bKs hk hs hp hn i0 hi hD hH).1;have h:=fSs (m:=((s.length:Int)-1-i).toNat) (i:=i) G hD hH (λh=>hc ((smC he).2 h));rwa[show((s.length:Int)-1-(i-1)).toNat=((s.length:Int)-1-i).toNat+1 by omega]
end
theorem aXk {B:Nat} {w0:World} {R:List Row} {d8:Nat} {dj wc An ox:AF} {dg wd By oy:Nat} {s:AH} {k:Int} {Nu:AF} {Ne Nx:Nat} {row E:AH} {j:Int} (mm:RdC B w0 R (GG d8) 1 1 4 [sl dj s.length dg,sl wc s.length wd,sl An k.toNat By,sl ox s.length oy]) (co:RdC B w0 R dj s.length dg 1 (ints .i64 s)) (hk:0<=k/\k<=1048576) (hN:s.length<=1000000) (hj:0<=j/\j<s.length) (hc:0<=rd s j/\rd s j<k) (hl:row.length=s.length/\E.length=k.toNat/\Ne=k.toNat) (hv:0<=(rd E (rd s j))-1/\(rd E (rd s j))-1<s.length):
  CT 261 #[PG d8,sl Nu Ne Nx,I j] B w0 ((ri 3 ox s.length oy row)::(ri 3 Nu Ne Nx E)::R) (λv R'=>v= .tuple #[]/\R'=(ri 3 ox s.length oy (upd row ((rd E (rd s j))-1) j))::(ri 3 Nu Ne Nx (upd E (rd s j) ((rd E (rd s j))-1)))::R):=by
 refine fn0 Tryz.func261 Z Z Z ?_;obtain⟨b7,xd,k7⟩:=hl;have he:rd (upd E (rd s j) ((rd E (rd s j))-1)) (rd s j)=(rd E (rd s j))-1:=fO hc.1 G;refine wq<|wm Z<|wm Z<|wy (aH Z)<|wy (yF 0 0 qf eY Z)<|wy (gK (RdC.right mm [_,_]) aa Z Z Z)<|wm Z<|wy (aF aa sz3 Z Z (RdC.right co [_,_]))<|wy (aT au Z Z (RdC.right co [_,_]))<|wy (aF aa sz3 Z Z (rdr 1 Z))<|wy (aT au Z Z (rdr 1 Z))<|wS Z Z<|wy (aF aa sz3 Z Z (rdr 1 Z))<|bZ (bE 1 Z sz3 Z Z) ?_;rintro _ _ rfl;refine gJ (R1:=((ri 3 ox s.length oy row)::(ri 3 Nu Ne Nx (upd E (rd s j) ((rd E (rd s j))-1)))::R)) Z<|aA<|bD mixed<|wD 0 Z (aJ Z)<|wD 1 Z (aH Z)<|wD 2 Z (yF 3 3 qf eY Z)<|wD 3 Z (gK (RdC.right mm [_,_]) aa Z Z Z)<|wD 4 Z (aJ Z)<|wD 5 Z (aJ Z)<|wD 6 Z (aH Z)<|wD 7 Z (yF 0 0 qf eY Z)<|wD 8 Z (gK (RdC.right mm [_,_]) aa Z Z Z)<|wD 9 Z (aJ Z)<|wD 10 Z (aF aa sz3 Z Z (RdC.right co [_,_]))<|wD 11 Z (aT au Z Z (RdC.right co [_,_])) ?_;refine wD 12 Z (aF aa sz3 Z Z (rdr 1 Z))<|wD 13 Z (aT au Z Z (rdr 1 Z))<|wD 14 Z (aJ Z)<|wD 15 Z (aF aa sz3 Z Z (rdr 0 Z))<|qC 16 Z cA (bE 0 Z sz3 Z Z) ?_;rintro _ _ rfl;refine⟨.inl cA,?_⟩;refine nS (R1:=((ri 3 ox s.length oy (upd row (rd (upd E (rd s j) ((rd E (rd s j))-1)) (rd s j)) j))::(ri 3 Nu Ne Nx (upd E (rd s j) ((rd E (rd s j))-1)))::R)) Z<|wN ?_;exact⟨Z,by rw[he]⟩
theorem aLa {B:Nat} {w0:World} {R:List Row} {d8:Nat} {dj wc An ox:AF} {dg wd By oy:Nat} {s:AH} {k:Int} {Nu:AF} {Ne Nx:Nat} {row E:AH} {j:Int} (mm:RdC B w0 R (GG d8) 1 1 4 [sl dj s.length dg,sl wc s.length wd,sl An k.toNat By,sl ox s.length oy]) (co:RdC B w0 R dj s.length dg 1 (ints .i64 s)) (hk:0<=k/\k<=1048576) (hN:s.length<=1000000) (hj:0<=j/\j<s.length) (hc:0<=rd s j/\rd s j<k) (hl:row.length=s.length/\E.length=k.toNat/\Ne=k.toNat) (hv:0<=rd E (rd s j)/\rd E (rd s j)<s.length):
  CT 290 #[PG d8,sl Nu Ne Nx,I j] B w0 ((ri 3 ox s.length oy row)::(ri 3 Nu Ne Nx E)::R) (λv R'=>v= .tuple #[]/\R'=(ri 3 ox s.length oy (upd row (rd E (rd s j)) j))::(ri 3 Nu Ne Nx (upd E (rd s j) ((rd E (rd s j))+1)))::R):=by
 refine fn0 Tryz.func290 Z Z Z ?_;obtain⟨b7,xd,k7⟩:=hl;refine aD<|bD mixed<|wD 0 Z (aJ Z)<|wD 1 Z (aH Z)<|wD 2 Z (yF 3 3 qf eY Z)<|wD 3 Z (gK (RdC.right mm [_,_]) aa Z Z Z)<|wD 4 Z (aJ Z)<|wD 5 Z (aJ Z)<|wD 6 Z (aH Z)<|wD 7 Z (yF 0 0 qf eY Z)<|wD 8 Z (gK (RdC.right mm [_,_]) aa Z Z Z)<|wD 9 Z (aJ Z)<|wD 10 Z (aF aa sz3 Z Z (RdC.right co [_,_]))<|wD 11 Z (aT au Z Z (RdC.right co [_,_]))<|wD 12 Z (aF aa sz3 Z Z (rdr 1 Z)) ?_;refine wD 13 Z (aT au Z Z (rdr 1 Z))<|wD 14 Z (aJ Z)<|wD 15 Z (aF aa sz3 Z Z (rdr 0 Z))<|qC 16 Z cA (bE 0 Z sz3 Z Z) ?_;rintro _ _ rfl;refine⟨.inl cA,?_⟩;refine wN<|aK<|wm Z<|wm Z<|wy (aH Z)<|wy (yF 0 0 qf eY Z)<|wy (gK (RdC.right mm [_,_]) aa Z Z Z)<|wm Z<|wy (aF aa sz3 Z Z (RdC.right co [_,_]))<|wy (aT au Z Z (RdC.right co [_,_]))<|wy (aF aa sz3 Z Z (rdr 1 Z))<|wy (aT au Z Z (rdr 1 Z))<|wA Z Z<|wy (aF aa sz3 Z Z (rdr 1 Z))<|bZ (bE 1 Z sz3 Z Z) ?_;rintro _ _ rfl;refine aA ?_;exact⟨Z,Z⟩
theorem aXl {B:Nat} {w0:World} {R:List Row} {d8:Nat} {dj wc An ox:AF} {dg wd By oy:Nat} {s l:AH} {k:Int} {row:AH} (mm:RdC B w0 R (GG d8) 1 1 4 [sl dj s.length dg,sl wc s.length wd,sl An k.toNat By,sl ox s.length oy]) (co:RdC B w0 R dj s.length dg 1 (ints .i64 s)) (xr:RdC B w0 R wc s.length wd 1 (bools (smL s))) (Rg:RdC B w0 R An k.toNat By 1 (ints .i64 (fI s k))) (hk:0<=k/\k<=1048576) (hs: ∀x∈s,0<=x/\x<k) (hN:s.length<=1000000) (hp:l.Perm (bP s)) (hn:0<s.length) (gn:row=(itF s k l).1):
  CT 262 #[PG d8] B w0 ((ri 3 ox s.length oy row)::R) (λv R'=>v= .tuple #[]/\R'=(ri 3 ox s.length oy ((itL s k l s.length).1))::R):=by
 refine fn0 Tryz.func262 Z Z Z ?_;have kf:(fI s k).length=k.toNat:=eO _ _;have Mv:(fI s k).sum=s.length:=aMe hk.1 hs;have Oe:(dO (fI s k)).length=k.toNat:=by rw[gH,kf]
 obtain⟨f1,f2,f3,f4,f5,f6⟩:=fL0 hk.1 hs hp hn gn (rfl:dO (fI s k)=_);refine wq<|wm Z<|wy (aH Z)<|wy (yF 2 2 qf eY Z)<|wy (gK (RdC.right mm [_]) aa Z Z Z)<|wa (aC aLt Z (Ct.fresh (λw hw=>zA ((RdC.right Rg [_]) w hw) (nJ _ _) (by rw[Mv];omega) (by rw[kf];omega)))) ?_;rintro _ _⟨_,rfl,cm,ci,rfl,rfl⟩;refine wn Z<|wq<|wm Z<|wm Z<|wm Z<|wy (aH Z)<|wy (yF 0 0 qf eY Z)<|wy (gK (RdC.right mm [_,_]) aa Z Z Z)<|wy (aL aa Z)<|wS Z Z<|JL [1,0] 2<|wa (aC bHp Z (aLa (row:=row) (E:=(dO (fI s k))) (j:=((s.length:Int)-1)) (RdC.right mm []) (RdC.right co []) hk hN ⟨G,G⟩ f1 ⟨f3.1,f3.2,by rw[gH,kf]⟩ f2)) ?_;rintro _ _⟨rfl,rfl⟩;refine aA<|wq<|wm Z<|wy (aH Z)<|wy (yF 3 3 qf eY Z)<|wy (gK (RdC.right mm [_,_]) aa Z Z Z)<|wy (aL aa Z)<|wm Z<|aA<|aG ?_;refine fZ (λ(i:Int) (D:AH) (H:AH)=>[(0,PG d8),(2,sl cm ((dO (fI s k)).length) ci),(23,I (s.length:Int)),(24,I i)]) (λi D H=>((ri 3 ox s.length oy D)::(ri 3 cm ((dO (fI s k)).length) ci H)::R)) (λi D H=>(0<=i)/\(i<=s.length)/\(D=(itL s k l i.toNat).1)/\(H=(itL s k l i.toNat).2)) (λi D H=>(s.length-i).toNat) ?_ ?_
 ·exact⟨0,upd row (rd (dO (fI s k)) (rd s ((s.length:Int)-1))) ((s.length:Int)-1),upd (dO (fI s k)) (rd s ((s.length:Int)-1)) ((rd (dO (fI s k)) (rd s ((s.length:Int)-1)))+1),⟨G,G,(f4),(f5)⟩,KP⟩
 intro i D H ⟨aw,ff,hD,hH⟩;refine wq<|wL Z Z<|aA<|aD<|aX Z (λar=> ?_) (λar=> ?_)
 ·have hf:=bKt hk.1 hs hp hn aw G hD hH;have Zc:=hf.1;refine aI<|aD<|aG<|wq<|wm Z<|wn Z<|wq<|wm Z<|wy (aH Z)<|wy (yF 3 3 qf eY Z)<|wy (gK (RdC.right mm [_,_]) aa Z Z Z)<|wm Z ?_;refine wy (aF aa sz3 Z Z (rdr 0 Z))<|wy (aT au Z Z (rdr 0 Z))<|wn Z<|wq<|wm Z<|wy (bW Z Z)<|wm Z<|bR 10 [(0,PG d8),(2,sl cm ((dO (fI s k)).length) ci),(4,I (rd D i)),(23,I (s.length:Int)),(24,I i),(46, .bool (decide ((0<(rd D i))/\(¬(rdb (smL s) ((rd D i)-1)=true)))))] ((ri 3 ox s.length oy D)::(ri 3 cm ((dO (fI s k)).length) ci H)::R) ?_ ?_
  ·refine bJ 36 Z (λbx=> ?_) (λbx=> ?_)
   ·refine aB Z Z<|wm Z<|aB Z Z<|wy (aH Z)<|aB Z Z<|wy (yF 1 1 qf aTu Z)<|aB Z Z<|wy (gK (RdC.right mm [_,_]) og Z Z Z)<|aB Z Z<|wm Z<|aB Z Z<|wS Z Z<|aB Z Z<|wy (aF og sz4 Z Z (RdC.right xr [_,_]))<|aB Z Z ?_;refine wy (CJ Al Z Z (RdC.right xr [_,_]))<|aB Z Z<|wy (uC Z)<|wy (aS Z Z)<|aA ?_;exact KP
   ·refine aM Z Z Z Z<|aM Z Z Z Z<|aM Z Z Z Z<|aM Z Z Z Z<|aM Z Z Z Z<|aM Z Z Z Z<|aM Z Z Z Z<|aM Z Z Z Z<|aM Z Z Z Z<|wy (aN Z Z)<|aA ?_;exact KP
  refine aA<|aX Z (λef=> ?_) (λef=> ?_)
  ·obtain ⟨g1,g2,g3,g4,g5⟩:=fLZ hk.1 hs hp hn aw G hD hH ef;refine aK<|wm Z<|wm Z<|wm Z<|wS Z Z<|wa (aC bHp Z (aLa (row:=D) (E:=H) (j:=((rd D i)-1)) (RdC.right mm []) (RdC.right co []) hk hN ⟨G,G⟩ g2 ⟨hf.2.1,hf.2.2,by rw[gH,kf]⟩ g3)) ?_;rintro _ _⟨rfl,rfl⟩;refine aA<|aK<|wA Z Z<|wm Z<|aA ?_;exact⟨i+1,upd D (rd H (rd s ((rd D i)-1))) ((rd D i)-1),upd H (rd s ((rd D i)-1)) ((rd H (rd s ((rd D i)-1)))+1),⟨G,G,(g4),(g5)⟩,G,KP⟩
  ·have g4:=bRj hk.1 hs hp hn aw G hD hH ef;refine aI<|aK<|wA Z Z<|wm Z<|aA ?_;exact⟨i+1,D,H,⟨G,G,(g4.1),(g4.2)⟩,G,KP⟩
 ·refine bMk [0] 2 ?_;have Td:i.toNat=s.length:=G
  rw[Td] at hD;subst hD;refine aR ?_;exact⟨Z,Z⟩
theorem bQo {s D:AH} {q:Int} (Oq:rd D q= -1\/(0<=rd D q/\rd D q<s.length)):(0<=rd D q/\rdb (smL s) (rd D q)=true)↔(0<=rd D q/\smB s (rd D q)=true):=by
 constructor<;>rintro⟨h1,h2⟩<;>refine⟨h1,?_⟩
 ·rwa[oC h1 G] at h2
 ·rwa[oC h1 G]
theorem bGc {s l D:AH} {k q:Int} (hk:0<=k) (hs: ∀x∈s,0<=x/\x<k) (hp:l.Perm (bP s)) (hn:0<s.length) (q0:0<=q) (hq:q<s.length) (hD:D=sS s (itL s k l s.length).1 q):rd D q= -1\/(0<=rd D q/\rd D q<s.length):=by
 rw[hD,XD q0 (ni _) q0 (by rw[LZ hk hs hp hn];omega)];exact bGb hk hs hp hn q0 hq
theorem bAm {s l D:AH} {k q:Int} (hk:0<=k) (hs: ∀x∈s,0<=x/\x<k) (hp:l.Perm (bP s)) (hn:0<s.length) (hq:(s.length:Int)<=q) (hD:D=sS s (itL s k l s.length).1 q):D=(itS s k l 0).1:=by
 rw[hD,bAn (by rw[LZ hk hs hp hn];exact hq)];rfl
theorem aNw {B:Nat} {w0:World} {R:List Row} {d8:Nat} {dj wc An ox:AF} {dg wd By oy:Nat} {s l:AH} {k:Int} (mm:RdC B w0 R (GG d8) 1 1 4 [sl dj s.length dg,sl wc s.length wd,sl An k.toNat By,sl ox s.length oy]) (co:RdC B w0 R dj s.length dg 1 (ints .i64 s)) (xr:RdC B w0 R wc s.length wd 1 (bools (smL s))) (Rg:RdC B w0 R An k.toNat By 1 (ints .i64 (fI s k))) (hk:0<=k/\k<=1048576) (hs: ∀x∈s,0<=x/\x<k) (hN:s.length<=1000000) (hp:l.Perm (bP s)) (hn:0<s.length):
  CT 263 #[PG d8] B w0 ((ri 3 ox s.length oy ((itL s k l s.length).1))::R) (λv R'=>v= .tuple #[]/\R'=(ri 3 ox s.length oy (sW s k l))::R):=by
 refine fn0 Tryz.func263 Z Z Z ?_;have Hs:=LZ hk.1 hs hp hn;refine aD<|wq<|wm Z<|wy (aH Z)<|wy (yF 3 3 qf eY Z)<|wy (gK (RdC.right mm [_]) aa Z Z Z)<|wy (aL aa Z)<|wm Z<|aA<|aG ?_;refine dI (λ(q:Int) (D:AH)=>[(0,PG d8),(10,sl ox s.length oy),(11,I (s.length:Int)),(12,I q)]) (λq D=>((ri 3 ox s.length oy D)::R)) (λq D=>(0<=q)/\(q<=s.length)/\(D=sS s (itL s k l s.length).1 q)) (λq D=>(s.length-q).toNat) ?_ ?_
 ·exact⟨0,(itL s k l s.length).1,⟨G,G,(aRs.symm)⟩,KP⟩
 intro q D ⟨ij,yi,hD⟩;refine wq<|wL Z Z<|aA<|aD<|aX Z (λar=> ?_) (λar=> ?_)
 ·have Zc:=bGc hk.1 hs hp hn ij G hD;have Ur:D.length=s.length:=by rw[hD,aDs,LZ hk.1 hs hp hn]
  refine aI<|aD<|aG<|wq<|wm Z<|wy (aF aa sz3 Z Z (rdr 0 Z))<|wy (aT au Z Z (rdr 0 Z))<|wg Z<|wn Z<|wq<|wm Z<|wy (iL Z Z) ?_;refine wm Z<|bR 8 [(0,PG d8),(2,I q),(10,sl ox s.length oy),(11,I (s.length:Int)),(12,I q),(27, .bool (decide ((0<=(rd D q))/\(rdb (smL s) (rd D q)=true))))] ((ri 3 ox s.length oy D)::R) ?_ ?_
  ·refine bJ 19 Z (λbx=> ?_) (λbx=> ?_)
   ·refine aB Z Z<|wm Z<|aB Z Z<|wy (aH Z)<|aB Z Z<|wy (yF 1 1 qf aTu Z)<|aB Z Z<|wy (gK (RdC.right mm [_]) og Z Z Z)<|aB Z Z<|wm Z<|aB Z Z<|wy (aF og sz4 Z Z (RdC.right xr [_]))<|aB Z Z<|wy (CJ Al Z Z (RdC.right xr [_]))<|wy (aS Z Z) ?_;refine aA ?_;exact KP
   ·refine aM Z Z Z Z<|aM Z Z Z Z<|aM Z Z Z Z<|aM Z Z Z Z<|aM Z Z Z Z<|aM Z Z Z Z<|aM Z Z Z Z<|wy (aN Z Z)<|aA ?_;exact KP
  refine aA<|aX Z (λef=> ?_) (λef=> ?_)
  ·refine aK<|wm Z<|wy (aH Z)<|wy (yF 3 3 qf eY Z)<|wy (gK (RdC.right mm [_]) aa Z Z Z)<|wm Z<|wy (aF aa sz3 Z Z (rdr 0 Z))<|bZ (bE 0 Z sz3 Z Z) ?_;rintro _ _ rfl;refine aA<|aK<|wA Z Z<|wm Z<|aA ?_;exact⟨q+1,upd D q (-1),⟨G,G,(by rw[hD];exact bGa ij G (by rw[<-hD];exact(bQo Zc).1 ef))⟩,G,KP⟩
  ·refine aI<|aK<|wA Z Z<|wm Z<|aA ?_;exact⟨q+1,D,⟨G,G,(by rw[hD];exact bLg ij G (by rw[<-hD];exact λh=>ef ((bQo Zc).2 h)))⟩,G,KP⟩
 ·have hD0:=bAm hk.1 hs hp hn G hD;refine aR<|wq<|wm Z<|wa (aC bHs Z (aLo (RdC.right mm [_]) (RdC.right Rg [_]) hk hs hN)) ?_;rintro _ _⟨cm,ci,rfl,rfl⟩;refine wn Z<|wq<|wm Z<|wy (aH Z)<|wy (yF 3 3 qf eY Z)<|wy (gK (RdC.right mm [_,_]) aa Z Z Z)<|wy (aL aa Z)<|wS Z Z<|wn Z<|aG ?_;refine fZ (λ(i:Int) (D:AH) (H:AH)=>[(0,PG d8),(4,sl cm k.toNat ci),(5,I i)]) (λi D H=>((ri 3 cm k.toNat ci H)::(ri 3 ox s.length oy D)::R)) (λi D H=>(-1<=i)/\(i<s.length)/\(D=(itS s k l (s.length-1-i).toNat).1)/\(H=(itS s k l (s.length-1-i).toNat).2)) (λi D H=>(i+1).toNat) ?_ ?_
  ·exact⟨(s.length:Int)-1,D,sM (fI s k),⟨G,G,(by rw[show((s.length:Int)-1-((s.length:Int)-1)).toNat=0 by omega];exact hD0),(by rw[show((s.length:Int)-1-((s.length:Int)-1)).toNat=0 by omega];rfl)⟩,KP⟩
  intro i D H ⟨aw,ff,hD,hH⟩;refine aD<|wq<|wm Z<|wy (iL Z Z)<|aA<|aX Z (λfm=> ?_) (λfm=> ?_)
  ·have hf:=bKs hk.1 hs hp hn G G hD hH;have Zc:=hf.1;refine aI<|aD<|aG<|wq<|wm Z<|wy (aH Z)<|wy (yF 3 3 qf eY Z)<|wy (gK (RdC.right mm [_,_]) aa Z Z Z)<|wm Z<|wy (aF aa sz3 Z Z (rdr 1 Z))<|wy (aT au Z Z (rdr 1 Z))<|wn Z<|aD ?_;refine aK<|wm Z<|wy (bW Z Z)<|wm Z<|bR 9 [(0,PG d8),(4,sl cm k.toNat ci),(5,I i),(6,I (rd D i)),(65, .bool (decide ((0<(rd D i))/\(rdb (smL s) ((rd D i)-1)=true))))] ((ri 3 cm k.toNat ci H)::(ri 3 ox s.length oy D)::R) ?_ ?_
   ·refine bJ 56 Z (λjt=> ?_) (λjt=> ?_)
    ·refine aB Z Z<|wm Z<|aB Z Z<|wy (aH Z)<|aB Z Z<|wy (yF 1 1 qf aTu Z)<|aB Z Z<|wy (gK (RdC.right mm [_,_]) og Z Z Z)<|aB Z Z<|wm Z<|aB Z Z<|wS Z Z<|aB Z Z<|wy (aF og sz4 Z Z (RdC.right xr [_,_]))<|aB Z Z ?_;refine wy (CJ Al Z Z (RdC.right xr [_,_]))<|wy (aS Z Z)<|aA ?_;exact KP
    ·refine aM Z Z Z Z<|aM Z Z Z Z<|aM Z Z Z Z<|aM Z Z Z Z<|aM Z Z Z Z<|aM Z Z Z Z<|aM Z Z Z Z<|aM Z Z Z Z<|wy (aN Z Z)<|aA ?_;exact KP
   refine aA<|aX Z (λwi=> ?_) (λwi=> ?_)
   ·obtain ⟨g1,g2,g3,g4,g5⟩:=fSZ hk.1 hs hp hn G G hD hH wi;refine aK<|wm Z<|wm Z<|wm Z<|wS Z Z<|JL [1,0] 2<|wa (aC bHr Z (aXk (row:=D) (E:=H) (j:=((rd D i)-1)) (RdC.right mm []) (RdC.right co []) hk hN ⟨G,G⟩ g2 ⟨hf.2.1,hf.2.2,rfl⟩ g3)) ?_;rintro _ _⟨rfl,rfl⟩;refine aA<|aK<|wm Z<|wS Z Z<|wn Z ?_;exact⟨i-1,upd D ((rd H (rd s ((rd D i)-1)))-1) ((rd D i)-1),upd H (rd s ((rd D i)-1)) ((rd H (rd s ((rd D i)-1)))-1),⟨G,G,(g4),(g5)⟩,G,SA,λ_ h=>h.selR (F:=[_,_]) (F':=[_,_]) [1,0] cC Z⟩
   ·have g4:=bRi hk.1 hs hp hn G G hD hH wi;refine aI<|aK<|wm Z<|wS Z Z<|wn Z ?_;exact⟨i-1,D,H,⟨G,G,(g4.1),(g4.2)⟩,G,KP⟩
  ·refine bMk [1] 2 ?_;have Td:((s.length:Int)-1-i).toNat=s.length:=G
   rw[Td] at hD;subst hD;refine aR ?_;exact⟨Z,Z⟩
theorem aCf (s:AH):(bP s).Pairwise (· <= ·):=by
 unfold bP iota;exact((ik.2 (List.pairwise_lt_range.imp λh=>G)).sublist ut)
theorem aNu {s l:AH}:oM l=bP s↔l.Perm (bP s):=by
 constructor
 ·intro h;rw[<-h];exact(mY l).symm
 ·intro h;exact((mY l).trans h).eq_of_pairwise (λa b _ _ h1 h2=>Int.le_antisymm h1 h2) (DL l) (aCf s)
theorem fFZ {s l D H:AH} {k:Int} (hk:0<=k) (hs: ∀x∈s,0<=x/\x<k) (hp:l.Perm (bP s)) {m:Nat} (hm:m<l.length) (hr:D=(itF s k (l.drop (l.length-m))).1) (hE:H=(itF s k (l.drop (l.length-m))).2):
  (0<=rd l ((l.length-1-m:Nat):Int)/\rd l ((l.length-1-m:Nat):Int)<s.length)/\(0<=rd s (rd l ((l.length-1-m:Nat):Int))/\rd s (rd l ((l.length-1-m:Nat):Int))<k)/\(0<=rd H (rd s (rd l ((l.length-1-m:Nat):Int)))-1/\rd H (rd s (rd l ((l.length-1-m:Nat):Int)))-1<s.length)/\(D.length=s.length/\H.length=k.toNat)/\
  upd D (rd H (rd s (rd l ((l.length-1-m:Nat):Int)))-1) (rd l ((l.length-1-m:Nat):Int))=(itF s k (l.drop (l.length-(m+1)))).1/\upd H (rd s (rd l ((l.length-1-m:Nat):Int))) (rd H (rd s (rd l ((l.length-1-m:Nat):Int)))-1)=(itF s k (l.drop (l.length-(m+1)))).2:=by
 have e:l.length-1-m+1=l.length-m:=G
 have h:=fF (row:=D) (E:=H) hk hs hp (m:=l.length-1-m) G (by rw[e];exact hr) (by rw[e];exact hE);rwa[show l.length-(m+1)=l.length-1-m by omega]
theorem aHk {s l:AH} (hp:l.Perm (bP s)):l.length<=s.length:=by rw[hp.length_eq];exact QB
theorem aJw {w:World} {dj:AF} {ie dg:Nat} {s:AH} {k:Int} {lf:AF} {pc ln:Nat} {l:AH} (co:Rd w dj ie dg 1 (ints .i64 s)) (js:Rd w lf pc ln 1 (ints .i64 l)) (dq:(0<=k/\k<=1048576)/\ ∀x∈s,0<=x/\x<k) (hp:l.Perm (bP s)) (hN:s.length<=1000000):
  CF 230 #[sl dj ie dg,I k,sl lf pc ln] w (λv R'=> ∃A c,v= .tuple #[sl A s.length c,bt]/\R'=[(ri 3 A s.length c (sW s k l))]):=by
 obtain rfl:=co.lenI;obtain rfl:=js.lenI;refine fnV Tryz.func230 Z Z ?_;have l3:=co.max;have Qp:=js.max;have hk:=dq.1;have hs:=dq.2;have vf:=aHk hp;have kf:(fI s k).length=k.toNat:=eO _ _;refine dU ?_;refine aK<|wg Z<|wn Z ?_;refine dU ?_;refine aK<|wm Z<|wm Z<|wa (aC aCz Z (Ct.fresh (λw hw=>qJ ((co.c _) w hw) cE))) ?_;rintro _ _⟨_,rfl,cm,ci,rfl,rfl⟩;refine wm Z<|wX Z Z<|wX Z Z<|wg Z<|wn Z ?_;refine dU ?_;refine aK<|wm Z<|wa (aC bHt Z (TD)) ?_;rintro _ _⟨gw,rfl,rfl⟩;refine wa (aC bHu Z (Ct.fresh (λw hw=>TR ((js.c _) w hw) ((rdr 0 Z) w hw) G))) ?_;rintro _ _⟨_,rfl,gv,jn,rfl,rfl⟩;refine wn Z ?_;refine dU ?_;refine wq<|wm Z<|wy (dC Z)<|wm Z<|aB Z Z<|wm Z<|aB Z Z<|wm Z<|aB Z Z<|wa (aC bHy Z (Ct.fresh (λw hw=>aCh ((co.c _) w hw) cE))) ?_;rintro _ _⟨_,rfl,vq,vu,rfl,rfl⟩;refine aB Z Z<|wa (aC aRd Z (Ct.quiet (λw hw=>rQ ((rdr 1 Z) w hw) ((rdr 0 Z) w hw) (by rw[(mY l).length_eq];omega)))) ?_;rintro _ _⟨rfl,rfl⟩;refine gL 30 Z (aNu.2 hp)<|aB Z Z<|wy (dC Z)<|wy (aN Z Z)<|aA<|aP Z<|aI ?_;refine dU ?_;refine wq<|wm Z<|wy (aL aa Z)<|wy (eT Z Z)<|aA<|aX Z (λar=> ?_) (λar=> ?_)
 ·refine wq<|wa (bF .i64 [] aa zs3 Z Z Z) ?_;rintro _ _⟨qe,rfl,rfl⟩;refine wg Z<|wn Z<|aU [0] 99 ?_;refine aQm Z Gd.refl ⟨_,_,Z,Z,?_⟩;have e:s=[]:=dw G;subst e;rw[aCb hp];exact⟨_,_,Z,Z⟩
 ·have hn:0<s.length:=G
  refine aI ?_;refine dU ?_;refine aK<|wm Z<|wm Z<|wa (aC bHv Z (Ct.fresh (λw hw=>aAe ((co.c _) w hw) cE))) ?_;rintro _ _⟨_,rfl,fc,fd,rfl,rfl⟩;refine wm Z<|wa (bF .i64 [-1] aa zs3 Z Z Z) ?_;rintro _ _⟨a7,rfl,rfl⟩;refine wm Z<|wy (aL aa Z)<|wa (aC bNq Z (Ct.fresh (λw hw=>aGc ((rdr 0 Z) w hw) Z Z ⟨G,G⟩))) ?_;rintro _ _⟨_,rfl,fg,fh,rfl,rfl⟩;refine wy (iC (v:= .agg #[sl dj s.length dg,sl fc s.length fd,sl cm ((k).toNat) ci,sl fg s.length fh]) Z (λw=>cA))<|wa (bX (sz:=4) rfl rfl) ?_;rintro _ _⟨l6,rfl,rfl⟩;refine wa (fJ (sz:=1) bMa Z) ?_;rintro _ _⟨qs,rfl,rfl⟩;refine bZ (bB 0 Z Z Z bMn Z Z Z Z (ak Z)) ?_;rintro _ _ rfl;refine aA ?_;refine dU ?_;refine aK<|wy (yL 0 Fs Z Z Z)<|wa (aC bHs Z (aLo (rdr 1 Z) (rdr 8 Z) hk hs hN)) ?_;rintro _ _⟨mj,ml,rfl,rfl⟩;refine wa (fJ (sz:=1) bQv Z) ?_;rintro _ _⟨l7,rfl,rfl⟩;refine bZ (bB 0 Z Z Z eY Z Z Z Z (ak Z)) ?_;rintro _ _ rfl;refine aA ?_;refine JN ?_;refine dU ?_;refine aK<|wm Z<|wa (aC aZg Z (aEd)) ?_;rintro _ _⟨Dd,rfl,rfl⟩;refine aA ?_;refine tH ?_;refine aTh Z aZc (BX (A:=lf) (c:=ln) (zs:=l) G) Z (λ_=>Z) Gd.refl (λ(kr:Nat) (D:AH) (H:AH)=>[(rc 52 1 Dd [sl lf l.length ln]),(rc 52 1 l7 [sl mj k.toNat ml]),(ri 3 mj k.toNat ml H),(rc 300 1 qs [PG l6]),(rc 302 4 l6 [sl dj s.length dg,sl fc s.length fd,sl cm ((k).toNat) ci,sl fg s.length fh]),(ri 3 fg s.length fh D),(ri 3 (GG a7) 1 1 ([-1])),⟨4,1,fc,s.length,fd,bools (smL s),false⟩,(ri 3 vq ((bP s).length) vu (bP s)),(ri 3 gv ((oM l).length) jn (oM l)),(rc 52 1 gw [sl lf l.length ln]),(ri 3 cm ((k).toNat) ci (fI s k))]) (λkr D H=>(D=(itF s k (l.drop (l.length-kr))).1)/\(H=(itF s k (l.drop (l.length-kr))).2)) ?_ ?_ ?_ ?_
  ·exact⟨List.replicate s.length ((-1):Int),sM (fI s k),⟨(by rw[yg,Jr];rfl),(by rw[yg,Jr];rfl)⟩,λ_ h=>h⟩
  ·intro kr D H w ⟨hD,hH⟩ hw;exact⟨(rdr 0 Z) w hw,(js.c _) w hw⟩
  ·intro lr kr D H WW2 Mb ⟨hD,hH⟩ hbW2;obtain⟨f1,f2,f3,f4,f5,f6⟩:=fFZ hk.1 hs hp Mb hD hH;refine aK<|wn Z ?_;intro WW23 u7;refine aG<|aK<|wy (yL 3 Fs Z Z Z)<|wy (yL 1 aa Z Z Z)<|wm Z<|JL [5,2,0,1,3,4,6,7,8,9,10,11] 99<|wa (aC bHr Z (aXk (row:=D) (E:=H) (j:=(rd l ((l.length-1-kr:Nat):Int))) (rdr 3 Z) (co.cb u7 _) hk hN f1 f2 ⟨f4.1,f4.2,Z⟩ f3)) ?_;rintro _ _⟨rfl,rfl⟩;refine aA ?_;exact⟨upd D ((rd H (rd s (rd l ((l.length-1-kr:Nat):Int))))-1) (rd l ((l.length-1-kr:Nat):Int)),upd H (rd s (rd l ((l.length-1-kr:Nat):Int))) ((rd H (rd s (rd l ((l.length-1-kr:Nat):Int))))-1),⟨(f5),(f6)⟩,λ_=>λ_ h=>h.sel [2,3,1,4,5,0,6,7,8,9,10,11] cC Z⟩
  intro WW25 DW2 D H ⟨hD,hH⟩ Pv Uv;rw[Eh,Hr] at hD;refine MW ?_;refine ZK ?_;refine v_w ?_;refine wq<|wy (yL 3 Fs Z Z Z)<|JL [5,0,1,2,3,4,6,7,8,9,10,11] 99<|wa (aC bNp Z (aXl (row:=D) (rdr 4 Z) (co.cb Pv _) (rdr 6 Z) (rdr 10 Z) hk hs hN hp hn hD)) ?_;rintro _ _⟨rfl,rfl⟩;refine aA<|wq<|wy (yL 4 Fs Z Z Z)<|wa (aC bNo Z (aNw (rdr 4 Z) (co.cb Pv _) (rdr 6 Z) (rdr 10 Z) hk hs hN hp hn)) ?_;rintro _ _⟨rfl,rfl⟩;refine aA<|wq<|wy (yL 4 Fs Z Z Z)<|wy (aH Z)<|wy (yF 3 3 qf eY Z)<|wy (yL 5 aa Z Z Z)<|wg Z<|wn Z<|aU [0] 99 ?_;refine aQm Z Uv ⟨_,_,Z,Z,?_⟩;exact⟨_,_,Z,Z⟩
section
variable {w:World} {gr:AF} {md gs:Nat} {a:AH}
theorem aXy (dp:Rd w gr md gs 1 (ints .i64 a)) (hp:a.Perm (iota a.length)) (hN:a.length<=1000000):
  CF 195 #[sl gr md gs] w (λv R'=> ∃A c V,v= .tuple #[sl A a.length c,bt]/\R'=[(ri 3 A a.length c V)]):=by
 obtain rfl:=dp.lenI;refine fn2 Tryz.func195 Z Z Z ?_;have j7:=dp.max;have hnd:a.Nodup:=hp.symm.nodup (fB _);refine wq<|wg Z<|wn Z<|wq<|wm Z<|wy (aL aa Z)<|wa (dK aa zb3 Z Z) ?_;rintro _ _⟨ap,rfl,rfl⟩;refine bC (v:=sl (GG ap) a.length a.length) Z<|wn Z<|aD<|wq<|wn Z<|aG ?_;refine dI (λ(q:Int) (D:AH)=>[(0,sl gr a.length gs),(4,sl (GG ap) a.length a.length),(5,I q)]) (λq D=>[(ri 3 (GG ap) a.length a.length D)]) (λq D=>(0<=q)/\(q<=a.length)/\(D.length=a.length)/\(∀j:Int,0<=j->j<q->rd D j= -1)) (λq D=>(a.length-q).toNat) ?_ ?_
 ·exact⟨0,List.replicate a.length (0:Int),⟨G,G,(by rw[bz]),(λj h1 h2=>G)⟩,KP⟩
 intro q D ⟨ij,yi,Ur,hD⟩;refine aD<|wq<|wm Z<|wm Z<|wy (aL aa Z)<|wL Z Z<|aA<|aX Z (λar=> ?_) (λar=> ?_)
 ·refine aI<|aD<|aG<|aK<|wm Z<|wm Z<|wy (aF aa sz3 Z Z (rdr 0 Z))<|bZ (bE 0 Z sz3 Z Z) ?_;rintro _ _ rfl;refine aA<|aK<|wm Z<|wA Z Z<|wn Z ?_;exact⟨q+1,upd D q (-1),⟨G,G,(by rw[aY];exact Ur),(fH (f:=λ_=> -1) ij G hD Z)⟩,G,KP⟩
 ·refine aR<|aD<|wq<|wn Z<|aG ?_;refine dI (λ(i:Int) (D:AH)=>[(0,sl gr a.length gs),(4,sl (GG ap) a.length a.length),(6,I i)]) (λi D=>[(ri 3 (GG ap) a.length a.length D)]) (λi D=>(0<=i)/\(i<=a.length)/\(D.length=a.length)/\(∀x:Int,0<=x->x<a.length->0<=rd D x-> ∃q:Int,0<=q/\q<i/\rd a q=x)) (λi D=>(a.length-i).toNat) ?_ ?_
  ·exact⟨0,D,⟨G,G,(Ur),(λx h0 h1 h2=>by have:=hD x h0 G;omega)⟩,KP⟩
  intro i D ⟨aw,ff,Ur,hV⟩;refine aD<|wq<|wm Z<|wm Z<|wy (aL aa Z)<|wL Z Z<|aA<|aX Z (λbx=> ?_) (λbx=> ?_)
  ·have ha:=aZ.1 (hp.subset (bG (L:=a) aw G));refine aI<|aD<|aG<|aD<|wq<|wm Z<|wm Z<|wy (aF aa sz3 Z Z (dp.c _))<|wy (aT au Z Z (dp.c _))<|wy (Yl.f (eQ Z Z))<|wm Z<|aB Z Z<|wm Z<|aB Z Z ?_;refine wm Z<|aB Z Z<|wy (aF aa sz3 Z Z (dp.c _))<|aB Z Z<|wy (aT au Z Z (dp.c _))<|aB Z Z<|wm Z<|aB Z Z<|wy (aL aa Z)<|aB Z Z<|wy (Yl.f (iL Z Z))<|wy (aN Z Z)<|wm Z<|aB Z Z<|wm Z ?_
   refine aB Z Z<|wm Z<|aB Z Z<|wm Z<|aB Z Z<|wy (aF aa sz3 Z Z (dp.c _))<|aB Z Z<|wy (aT au Z Z (dp.c _))<|aB Z Z<|wy (aF aa sz3 Z Z (rdr 0 Z))<|aB Z Z<|wy (aT au Z Z (rdr 0 Z))<|aB Z Z<|wy (Yl.f (iL Z Z) (λh=>by
      obtain⟨q,q0,q1,e⟩:=hV _ ha.1 ha.2 h;have:=kM hnd q0 G aw G e
      omega)) ?_
   refine wy (aN Z Z)<|aA<|aP Z<|aI<|aK<|wm Z<|wm Z<|wm Z<|wy (aF aa sz3 Z Z (dp.c _))<|wy (aT au Z Z (dp.c _))<|wm Z<|wy (aF aa sz3 Z Z (rdr 0 Z))<|bZ (bE 0 Z sz3 Z Z) ?_;rintro _ _ rfl;refine aA<|aK<|wm Z<|wA Z Z<|wn Z ?_
   exact⟨i+1,upd D (rd a i) i,⟨G,G,(by rw[aY];exact Ur),(λx x0 x1 hx=>by
     rw[gV ha.1 x0 G] at hx;by_cases e:x=rd a i
     ·exact⟨i,aw,G,e.symm⟩
     ·rw [df e] at hx;obtain⟨q,q0,q1,h⟩:=hV x x0 x1 hx
      exact⟨q,q0,G,h⟩)⟩,G,KP⟩
  ·refine aR<|wq<|wm Z<|wg Z<|wn Z<|aU [0] 99 ?_;refine⟨_,_,Z,Z,?_⟩;exact⟨_,_,_,Z,Z⟩
theorem bEz (dp:Rd w gr md gs 1 (ints .i64 a)) (hp:a.Perm (iota a.length)) (hN:a.length<=1000000):
  CF 150 #[sl gr md gs] w (λv R'=>v=bt):=by
 obtain rfl:=dp.lenI;refine fn1 Tryz.func150 Z Z Z ?_;have j7:=dp.max;refine wq<|wn Z<|wq<|wm Z<|wa (aC bOp Z (Ct.fresh (λw hw=>aXy ((dp.c _) w hw) hp G))) ?_;rintro _ _⟨_,rfl,cm,ci,V_3,rfl,rfl⟩;refine wm Z<|wX Z Z<|wX Z Z<|wg Z<|wn Z<|wq<|wm Z<|wn Z<|aU [] 99 ?_;refine⟨_,Z,?_⟩;rfl
theorem zR {s l:AH} {k:Int} (hk:0<=k) (hs: ∀x∈s,0<=x/\x<k) (hp:l.Perm (bP s)):(sW s k l).length=s.length/\(sW s k l).Perm (iota s.length)/\(∀q:Int,0<=q->q+1<s.length->rd s (rd (sW s k l) q)<=rd s (rd (sW s k l) (q+1)))/\(l.Pairwise (bV s)->(sW s k l).Pairwise (bV s)):=by
 refine⟨aYd hk hs hp,?_⟩;rcases fo s.length with h|h
 ·have e:s=[]:=dw h;subst e;rw[aCb hp];exact⟨.refl _,λq h0 h1=>by simp at h1;omega,λ_=> .nil⟩
 ·exact aLg hk hs hp h
end
section
variable {w:World} {dj:AF} {ie dg:Nat} {s:AH} {k:Int}
theorem aAx {Bk:AF} {Nr Cl:Nat} {x:AH} {i:Int} (co:Rd w dj ie dg 1 (ints .i64 s)) (mm:Rd w Bk Nr Cl 1 (ints .i64 x)) (hi:0<=i/\i<s.length) (hx:x.length=s.length) (Iv:i<rd x i) (Vy:rd x i<=s.length) (hN:s.length<=1000000):
  CF 264 #[sl dj ie dg,sl Bk Nr Cl,I i] w (λv R'=>v=sl (jO dj i.toNat dg 1) ((min (rd x i+1) (s.length:Int)).toNat-i.toNat) (dg-i.toNat)):=by
 obtain rfl:=co.lenI;obtain rfl:=mm.lenI;refine fn1 Tryz.func264 Z Z Z ?_;have l3:=co.max;have m_x:=mm.max;refine wq<|wn Z<|wq<|wm Z<|wm Z<|wm Z<|wm Z<|wy (aF aa sz3 Z Z (mm.c _))<|wy (aT au Z Z (mm.c _))<|wA Z Z<|wm Z<|wy (aL aa Z) ?_;refine wy (rV Z Z)<|wy (aJm aa sz3 Z Z Z (co.c _) G G G)<|wn Z<|bK ?_;refine⟨_,Z,?_⟩;rfl
theorem aWr {Nv:AF} {n_f Ny:Nat} {f:AH} {l4:AF} {St l5:Nat} {o:AH} (co:Rd w dj ie dg 1 (ints .i64 s)) (Pt:Rd w Nv n_f Ny 1 (ints .i64 f)) (Yy:Rd w l4 St l5 1 (ints .i64 o)) (hs:Nn s) (hf:f=bP s) (Wp:o.Perm (iota s.length)) (hoo:o.Pairwise (pcS s)) (hN:s.length<=1000000):
  CF 231 #[sl dj ie dg,sl Nv n_f Ny,sl l4 St l5] w (λv R'=> ∃(nx nm:AH) (n la:Int) (A:AF) (c:Nat),v= .tuple #[sl A f.length c,I (n+1)]/\vE s nx (bP s).length/\CE s o nx s.length nm n la/\R'=[(ri 3 A f.length c (f.map (rd nm)))]):=by
 obtain rfl:=co.lenI;obtain rfl:=Pt.lenI;obtain rfl:=Yy.lenI;refine fn2 Tryz.func231 Z Z Z ?_;have l3:=co.max;have m_f:=Pt.max;have m_o:=Yy.max;have Zm:o.length=s.length:=by rw[Wp.length_eq,bA]
 have th:f.length<=s.length:=by rw[hf];exact QB
 refine wq<|wg Z<|wn Z<|wq<|wm Z<|wy (aL aa Z)<|wa (dK aa zb3 Z Z) ?_;rintro _ _⟨ap,rfl,rfl⟩;refine bC (v:=sl (GG ap) s.length s.length) Z<|wn Z<|aD<|wq<|wm Z<|wy (aL aa Z)<|wm Z<|aA<|aG ?_;refine dI (λ(i:Int) (V:AH)=>[(0,sl dj s.length dg),(1,sl Nv f.length Ny),(2,sl l4 o.length l5),(8,sl (GG ap) s.length s.length),(22,sl Nv f.length Ny),(23,I (f.length:Int)),(24,I i)]) (λi V=>[(ri 3 (GG ap) s.length s.length V)]) (λi V=>(0<=i)/\(i<=f.length)/\(vE s V i)) (λi V=>(f.length-i).toNat) ?_ ?_
 ·exact⟨0,List.replicate s.length (0:Int),⟨G,G,(bEf)⟩,KP⟩
 intro i V ⟨aw,ff,hV⟩;have kc:=hV.len;have hfi:i<f.length->0<=rd f i/\rd f i<s.length:=λh=>by subst hf;exact(qB aw h).1
 refine wq<|wL Z Z<|aA<|aD<|aX Z (λar=> ?_) (λar=> ?_)
 ·have hfi2:=hfi G;refine aI<|aD<|aG<|wq<|wm Z<|wy (aF aa sz3 Z Z (Pt.c _))<|wy (aT au Z Z (Pt.c _))<|wg Z<|wn Z<|wq<|wm Z<|wm Z ?_;refine wm Z<|wy (aL aa Z)<|wy (aF aa sz3 Z Z (rdr 0 Z))<|bZ (bE 0 Z sz3 Z Z) ?_;rintro _ _ rfl;refine aA<|wq<|wm Z<|wA Z Z<|wm Z<|wy (aL aa Z)<|wL Z Z<|aA<|aX Z (λbx=> ?_) (λbx=> ?_)
  ·refine aK<|wm Z<|wm Z<|wm Z<|wm Z<|wA Z Z<|wy (aF aa sz3 Z Z (Pt.c _))<|wy (aT au Z Z (Pt.c _))<|wy (aF aa sz3 Z Z (rdr 0 Z))<|bZ (bE 0 Z sz3 Z Z) ?_;rintro _ _ rfl;refine aA<|aK<|wA Z Z<|wm Z<|aA ?_;exact⟨i+1,upd (upd V (rd f i) (s.length:Int)) (rd f i) (rd f (i+1)),⟨G,G,(by subst hf;exact hV.step2 aw G G)⟩,G,KP⟩
  ·refine aI<|aK<|wA Z Z<|wm Z<|aA ?_;exact⟨i+1,upd V (rd f i) (s.length:Int),⟨G,G,(by subst hf;exact hV.step1 aw G G)⟩,G,KP⟩
 ·have Ll:vE s V (bP s).length:=by have e:i=(bP s).length:=(by rw[<-hf];omega);rw[<-e];exact hV
  refine aR<|wq<|wm Z<|wy (aL aa Z)<|wa (dK aa zb3 Z Z) ?_;rintro _ _⟨db,rfl,rfl⟩;refine bC (v:=sl (GG db) s.length s.length) Z<|wn Z<|wq<|wg Z<|wn Z<|aD<|wq<|wm Z<|wy (aL aa Z)<|wm Z<|aA ?_;refine aG ?_;refine LC (λ(q:Int) (U:AH) (n:Int) (la:Int)=>[(0,sl dj s.length dg),(1,sl Nv f.length Ny),(8,sl (GG ap) s.length s.length),(11,sl (GG db) s.length s.length),(12,I n),(13,I la),(51,sl l4 o.length l5),(52,I (o.length:Int)),(53,I q)]) (λq U n la=>[(ri 3 (GG db) s.length s.length U),(ri 3 (GG ap) s.length s.length V)]) (λq U n la=>(0<=q)/\(q<=o.length)/\(CE s o V q U n la)) (λq U n la=>(o.length-q).toNat) ?_ ?_
  ·exact⟨0,List.replicate s.length (0:Int),0,-1,⟨G,G,(aWu)⟩,KP⟩
  intro q U n la ⟨ij,yi,hM⟩;have Lk:=hM.len;have hMb:=hM.bd;have Md:=hM.last_in Wp G
  have Zh:0<=la->la<s.length/\la<rd V la/\rd V la<=s.length:=λh=>by
   rcases Md with e|⟨e,e2⟩
   ·omega
   ·have g:=Ll.nx e.1 e.2 e2;exact⟨e.2,g.gt,g.le⟩
  have hoq:q<o.length->0<=rd o q/\rd o q<s.length:=λh=>aZ.1 (Wp.subset (bG (L:=o) ij h));have hoz:q<o.length->(rd V (rd o q)=0↔gZ s (rd o q)=false):=λh=>Ll.zero (hoq h).1 (hoq h).2;refine wq<|wL Z Z<|aA<|aD<|aX Z (λef=> ?_) (λef=> ?_)
  ·have Pb:=hoq G;have Wr:=hoz G;refine aI<|aD<|aG<|wq<|wy (aF aa sz3 Z Z (Yy.c _))<|wy (aT au Z Z (Yy.c _))<|wn Z<|aD<|wq<|wm Z<|wm Z<|wy (aF aa sz3 Z Z (rdr 1 Z)) ?_;refine wy (aT au Z Z (rdr 1 Z))<|wy (eT Z Z)<|aA<|aX Z (λfm=> ?_) (λfm=> ?_)
   ·have Nm:=Wr.1 fm;refine aR<|aK<|wA Z Z<|wm Z<|aA ?_;exact⟨q+1,U,n,la,⟨G,G,(hM.skip Nm)⟩,G,KP⟩
   ·have Nm:gZ s (rd o q)=true:=by
     cases e:gZ s (rd o q) with
     |true=>rfl
     |false=>exact absurd (Wr.2 e) fm
    have hgx:=Ll.nx Pb.1 Pb.2 Nm;have hg1:=hgx.gt;have Zd:=hgx.le;have hlm: -1<=la:=G
    refine aI<|aD<|wq<|wm Z<|wy (iL Z Z)<|wm Z<|bR 29 [(0,sl dj s.length dg),(1,sl Nv f.length Ny),(8,sl (GG ap) s.length s.length),(11,sl (GG db) s.length s.length),(12,I n),(15,I (rd o q)),(51,sl l4 o.length l5),(52,I (o.length:Int)),(53,I q),(93, .bool (decide ((0<=la)/\((((rd V (rd o q))=(s.length:Int))\/((rd V la)=(s.length:Int)))\/(¬((((s).drop (la).toNat).take ((min (rd V la+1) (s.length:Int)).toNat-la.toNat))=(((s).drop (rd o q).toNat).take ((min (rd V (rd o q)+1) (s.length:Int)).toNat-(rd o q).toNat))))))))] [(ri 3 (GG db) s.length s.length U),(ri 3 (GG ap) s.length s.length V)] ?_ ?_
    ·refine bJ 64 Z (λjt=> ?_) (λjt=> ?_)
     ·refine aB Z Z<|wm Z<|aB Z Z<|wm Z<|aB Z Z<|wy (aF aa sz3 Z Z (rdr 1 Z))<|aB Z Z<|wy (aT au Z Z (rdr 1 Z))<|aB Z Z<|wm Z<|aB Z Z<|wy (aL aa Z)<|aB Z Z<|wy (eT Z Z)<|aB Z Z ?_;refine wm Z<|bR 8 [(0,sl dj s.length dg),(1,sl Nv f.length Ny),(8,sl (GG ap) s.length s.length),(11,sl (GG db) s.length s.length),(12,I n),(13,I la),(15,I (rd o q)),(51,sl l4 o.length l5),(52,I (o.length:Int)),(53,I q),(64,bt),(80, .bool (decide (((rd V (rd o q))=(s.length:Int))\/((rd V la)=(s.length:Int)))))] [(ri 3 (GG db) s.length s.length U),(ri 3 (GG ap) s.length s.length V)] ?_ ?_
      ·refine bJ 72 Z (λwi=> ?_) (λwi=> ?_)
       ·refine aM Z Z Z Z<|aM Z Z Z Z<|aM Z Z Z Z<|aM Z Z Z Z<|aM Z Z Z Z<|aM Z Z Z Z<|aM Z Z Z Z<|aB Z Z<|wy (aS Z Z)<|aA ?_;exact KP
       ·refine aB Z Z<|wm Z<|aB Z Z<|wm Z<|aB Z Z<|wy (aF aa sz3 Z Z (rdr 1 Z))<|aB Z Z<|wy (aT au Z Z (rdr 1 Z))<|aB Z Z<|wm Z<|aB Z Z<|wy (aL aa Z)<|aB Z Z<|wy (eT Z Z)<|aB Z Z ?_;refine wy (aN Z Z)<|aA ?_;exact KP
      refine aB Z Z<|wm Z<|bR 11 [(0,sl dj s.length dg),(1,sl Nv f.length Ny),(8,sl (GG ap) s.length s.length),(11,sl (GG db) s.length s.length),(12,I n),(15,I (rd o q)),(51,sl l4 o.length l5),(52,I (o.length:Int)),(53,I q),(64,bt),(92, .bool (decide ((((rd V (rd o q))=(s.length:Int))\/((rd V la)=(s.length:Int)))\/(¬((((s).drop (la).toNat).take ((min (rd V la+1) (s.length:Int)).toNat-la.toNat))=(((s).drop (rd o q).toNat).take ((min (rd V (rd o q)+1) (s.length:Int)).toNat-(rd o q).toNat)))))))] [(ri 3 (GG db) s.length s.length U),(ri 3 (GG ap) s.length s.length V)] ?_ ?_
      ·refine bJ 81 Z (λEk=> ?_) (λEk=> ?_)
       ·refine aM Z Z Z Z<|aM Z Z Z Z<|aM Z Z Z Z<|aM Z Z Z Z<|aM Z Z Z Z<|aM Z Z Z Z<|aM Z Z Z Z<|aM Z Z Z Z<|aM Z Z Z Z<|aM Z Z Z Z<|aB Z Z<|wy (aS Z Z)<|aA ?_;exact KP
       ·refine aB Z Z<|wm Z<|aB Z Z<|wm Z<|aB Z Z<|wm Z<|aB Z Z<|wa (aC bHq Z (Ct.quiet (λw hw=>aAx ((co.c _) w hw) ((rdr 1 Z) w hw) cE cE cE cE cE))) ?_;rintro _ _⟨rfl,rfl⟩;refine aB Z Z<|wm Z<|aB Z Z<|wm Z<|aB Z Z<|wm Z<|aB Z Z<|wa (aC bHq Z (Ct.quiet (λw hw=>aAx ((co.c _) w hw) ((rdr 1 Z) w hw) cE cE cE cE cE))) ?_;rintro _ _⟨rfl,rfl⟩;refine aB Z Z<|wa (aC aRd Z (Ct.quiet (λw hw=>rQ ((RdC.cutI (co.c _) G G) w hw) ((RdC.cutI (co.c _) G G) w hw) (by rw[ax,bn];omega)))) ?_;rintro _ _⟨rfl,rfl⟩;refine aB Z Z<|wy (uC Z)<|aB Z Z<|wy (aN Z Z)<|aA ?_;exact KP
      refine wy (aS Z Z)<|aA ?_;exact KP
     ·refine aM Z Z Z Z<|aM Z Z Z Z<|aM Z Z Z Z<|aM Z Z Z Z<|aM Z Z Z Z<|aM Z Z Z Z<|aM Z Z Z Z<|aM Z Z Z Z<|dP Z Z Z<|dP Z Z Z<|dP Z Z Z<|dP Z Z Z<|dP Z Z Z<|dP Z Z Z<|dP Z Z Z ?_;refine aM Z Z Z Z<|aM Z Z Z Z<|dP Z Z Z<|dP Z Z Z<|dP Z Z Z<|dP Z Z Z<|dP Z Z Z<|dP Z Z Z<|dP Z Z Z<|dP Z Z Z<|dP Z Z Z<|dP Z Z Z<|aM Z Z Z Z<|wy (aN Z Z)<|aA ?_;exact KP
    refine aA<|aX Z (λVr=> ?_) (λVr=> ?_)
    ·have gd:=aWt (n:=n) Zh Pb.1 hg1 Zd Vr;refine aK<|wm Z<|wA Z Z<|wn Z<|aK<|wm Z<|wm Z<|wm Z<|wm Z<|wy (aF aa sz3 Z Z (rdr 0 Z))<|bZ (bE 0 Z sz3 Z Z) ?_;rintro _ _ rfl;refine wn Z<|aK<|wA Z Z<|wm Z<|aA ?_;exact⟨q+1,upd U (rd o q) (n+1),n+1,rd o q,⟨G,G,(hM.step hs Wp hoo Ll ij G Nm gd)⟩,G,KP⟩
    ·have gd:=aWs (n:=n) hlm Zh Pb.1 hg1 Zd Vr;refine aI<|aK<|wm Z<|wm Z<|wm Z<|wm Z<|wy (aF aa sz3 Z Z (rdr 0 Z))<|bZ (bE 0 Z sz3 Z Z) ?_;rintro _ _ rfl;refine wn Z<|aK<|wA Z Z<|wm Z<|aA ?_;exact⟨q+1,upd U (rd o q) n,n,rd o q,⟨G,G,(hM.step hs Wp hoo Ll ij G Nm gd)⟩,G,KP⟩
  ·refine aR<|wq<|eZ (ri 3 none 0 0 ([]))<|wn Z<|aD<|wq<|wm Z<|wy (aL aa Z)<|wm Z<|aA<|aG ?_;refine fE (λ(A1:AF) (n1:Nat) (c1:Nat) (acc:AH) (j:Int)=>[(11,sl (GG db) s.length s.length),(12,I n),(16,sl A1 n1 c1),(102,sl Nv f.length Ny),(103,I (f.length:Int)),(104,I j)]) (λA1 n1 c1 acc j=>[(ri 3 A1 n1 c1 acc),(ri 3 (GG db) s.length s.length U),(ri 3 (GG ap) s.length s.length V)]) (λA1 n1 c1 acc j=>(n1=acc.length)/\(0<=j)/\(j<=f.length)/\(acc=(f.take j.toNat).map (rd U))) (λA1 n1 c1 acc j=>(f.length-j).toNat) ?_ ?_
   ·exact⟨none,0,0,[],0,⟨(Z),G,G,(Z)⟩,KP⟩
   intro A1 n1 c1 acc j ⟨cj,tj,w4,bb⟩;have mw:=bq List.length bb;rw[bu,ax] at mw;have hfj:j<f.length->0<=rd f j/\rd f j<s.length:=λh=>by subst hf;exact(qB tj h).1
   refine wq<|wL Z Z<|aA<|aD<|aX Z (λhc9=> ?_) (λhc9=> ?_)
   ·refine aI<|aD<|aG<|wq<|wy (aF aa sz3 Z Z (Pt.c _))<|wy (aT au Z Z (Pt.c _))<|wn Z<|aK<|wm Z<|wm Z<|wm Z<|wy (aF aa sz3 Z Z (rdr 1 Z))<|wy (aT au Z Z (rdr 1 Z)) ?_;refine wa (bF .i64 [rd U (rd f j)] aa zs3 Z Z Z) ?_;rintro _ _⟨ir,rfl,rfl⟩;refine wa (aQ 1 Z aa zb3 Z Z Z (rdr 0 Z)) ?_;rintro _ _⟨gv,jn,rfl,rfl⟩;refine bC (v:=sl gv (n1+1) jn) Z<|wn Z<|aK<|wA Z Z<|wm Z<|aA ?_;exact⟨gv,n1+1,jn,acc++([rd U (rd f j)]),j+1,⟨(by rw[ah,cj];try rfl),G,G,(by rw[dJ tj G,jc,bb];rfl)⟩,G,SA,λ_ h=>h.sel [1,2,3] cC Z⟩
   ·refine aR<|wq<|wm Z<|wm Z<|wA Z Z<|wg Z<|wn Z<|aU [0] 99 ?_;refine⟨_,_,Z,Z,?_⟩;have Uz:CE s o V s.length U n la:=by have e:q=s.length:=G;rw[<-e];exact hM
    rw[bg G] at bb;subst bb;obtain rfl:n1=f.length:=G
    exact⟨V,U,n,la,_,_,Z,Ll,Uz,Z⟩
theorem RY {w:World} {s:AH} (co:Rd w dj ie dg 1 (ints .i64 s)) (IH: ∀ {w:World} {pe:AF} {se pj:Nat} {t:AH} {j:Int},Rd w pe se pj 1 (ints .i64 t)->t.length<s.length->((0<=j/\j<=1048576)/\ ∀x∈t,0<=x/\x<j)->t.length<=1000000->CF 199 #[sl pe se pj,I j] w (λv R'=> ∃(b:AH) (A:AF) (c:Nat),v=sl A t.length c/\b.Perm (iota t.length)/\b.Pairwise (bV t)/\R'=[(ri 3 A t.length c b)])) (dq:(0<=k/\k<=1048576)/\ ∀x∈s,0<=x/\x<k) (hN:s.length<=1000000):
  CF 199 #[sl dj ie dg,I k] w (λv R'=> ∃(b:AH) (A:AF) (c:Nat),v=sl A s.length c/\b.Perm (iota s.length)/\b.Pairwise (bV s)/\R'=[(ri 3 A s.length c b)]):=by
 obtain rfl:=co.lenI;refine fn1 Tryz.func199 Z Z Z ?_;have l3:=co.max;refine wq<|wn Z<|wq<|wm Z<|wa (aC bHy Z (Ct.fresh (λw hw=>aCh ((co.c _) w hw) cE))) ?_;rintro _ _⟨_,rfl,cm,ci,rfl,rfl⟩;refine wn Z<|wq<|wm Z<|wm Z<|wm Z<|wa (aC bHx Z (Ct.fresh (λw hw=>aJw ((co.c _) w hw) ((rdr 0 Z) w hw) dq (.refl _) hN))) ?_;rintro _ _⟨_,rfl,dv,dy,rfl,rfl⟩;refine wm Z<|wX Z Z<|wX Z Z<|wg Z<|wn Z<|aD<|wq<|wm Z<|wy (aL aa Z)<|wL Z Z<|aA<|aX Z (λar=> ?_) (λar=> ?_)
 ·refine wq<|wm Z<|wn Z<|aU [0] 99 ?_;exact⟨_,Z,_,_,_,Z,(zR dq.1.1 dq.2 (.refl _)).2.1,(zR dq.1.1 dq.2 (.refl _)).2.2.2 (aVp G),Z⟩
 ·have cj:0<s.length:=by have:=QB (s:=s);omega
  have Wv:=aHh dq.1.1 dq.2 (l:=bP s) (.refl _) cj;have Np:Nn s:=λx hx=>(dq.2 x hx).1;have Wj:=aQf cj;refine aI<|wq<|wm Z<|wm Z<|wm Z<|wa (aC bNy Z (Ct.fresh (λw hw=>aWr ((co.c _) w hw) ((rdr 1 Z) w hw) ((rdr 0 Z) w hw) Np Z Wv.1 Wv.2 hN))) ?_;rintro _ _⟨_,rfl,nx,nm,n,la,go,jj,rfl,hNx,hNm,rfl⟩;refine wm Z<|wX Z Z<|wX Z Z<|wg Z<|wn Z<|wq<|eZ (ri 3 none 0 0 ([]))<|wn Z<|aD<|wq<|wm Z ?_;refine wm Z<|wa (aC bIc Z (Ct.fresh (λw hw=>IH ((rdr 1 Z) w hw) (by rw[bu];exact Wj) ⟨by have:=hNm.bd;omega,aWq hNm Wv.1⟩ (by rw[bu];omega)))) ?_;rintro _ _⟨_,rfl,b1,im,da,rfl,dd,eh,rfl⟩;refine wy (aL aa Z)<|wm Z<|aA<|aG ?_;refine fE (λ(A1:AF) (n1:Nat) (c1:Nat) (acc:AH) (i:Int)=>[(0,sl dj s.length dg),(1,I k),(5,sl cm ((bP s).length) ci),(10,sl A1 n1 c1),(35,sl im (((bP s).map (rd nm)).length) da),(36,I ((((bP s).map (rd nm)).length:Nat):Int)),(37,I i)]) (λA1 n1 c1 acc i=>[(ri 3 im (((bP s).map (rd nm)).length) da b1),(ri 3 A1 n1 c1 acc),(ri 3 go ((bP s).length) jj ((bP s).map (rd nm))),(ri 3 dv ((s).length) dy (sW s k (bP s))),(ri 3 cm ((bP s).length) ci (bP s))]) (λA1 n1 c1 acc i=>(n1=acc.length)/\(0<=i)/\(i<=b1.length)/\(acc=(b1.take i.toNat).map (rd (bP s)))) (λA1 n1 c1 acc i=>(b1.length-i).toNat) ?_ ?_
  ·exact⟨none,0,0,[],0,⟨(Z),G,G,(Z)⟩,KP⟩
  intro A1 n1 c1 acc i ⟨cj,aw,ff,bb⟩;have Zi:((bP s).map (rd nm)).length=(bP s).length:=bu _;have j9:b1.length=(bP s).length:=by rw[dd.length_eq,bA,bu]
  have mw:=bq List.length bb;rw[bu,ax] at mw
  have ux:i<b1.length->0<=rd b1 i/\rd b1 i<(bP s).length:=λh=>by
   have:=aZ.1 (dd.subset (bG (L:=b1) aw h));rwa[bu] at this
  refine wq<|wL Z Z<|aA<|aD<|aX Z (λbx=> ?_) (λbx=> ?_)
  ·refine aI<|aD<|aG<|wq<|wy (aF aa sz3 Z Z (rdr 0 Z))<|wy (aT au Z Z (rdr 0 Z))<|wn Z<|aK<|wm Z<|wm Z<|wm Z<|wy (aF aa sz3 Z Z (rdr 4 Z))<|wy (aT au Z Z (rdr 4 Z)) ?_;refine wa (bF .i64 [rd (bP s) (rd b1 i)] aa zs3 Z Z Z) ?_;rintro _ _⟨pm,rfl,rfl⟩;refine wa (aQ 2 Z aa zb3 Z Z Z (rdr 0 Z)) ?_;rintro _ _⟨gh,gi,rfl,rfl⟩;refine bC (v:=sl gh (n1+1) gi) Z<|wn Z<|aK<|wA Z Z<|wm Z<|aA ?_;exact⟨gh,n1+1,gi,acc++([rd (bP s) (rd b1 i)]),i+1,⟨(by rw[ah,cj];try rfl),G,G,(by rw[dJ aw G,jc,bb];rfl)⟩,G,SA,λ_ h=>h.sel [1,2,3,4,5] cC Z⟩
  ·have Vj:acc=b1.map (rd (bP s)):=by rw[bb,bg G]
   have hr:=aUw Np hNm Wv.1 Wv.2 hNx dd eh;have qk:acc.Perm (bP s):=by rw[Vj];exact hr.1
   have hao:acc.Pairwise (bV s):=by rw[Vj];exact hr.2
   refine aR<|wq<|wm Z<|wm Z<|wm Z<|wa (aC bHx Z (Ct.fresh (λw hw=>aJw ((co.c _) w hw) ((rdr 1 Z) w hw) dq qk hN))) ?_;rintro _ _⟨_,rfl,me,tc,rfl,rfl⟩;refine wm Z<|wX Z Z<|wX Z Z<|wn Z<|wq<|wm Z<|wn Z<|aU [0] 99 ?_;exact⟨_,Z,_,_,_,Z,(zR dq.1.1 dq.2 qk).2.1,(zR dq.1.1 dq.2 qk).2.2.2 hao,Z⟩
theorem aNs (m:Nat): ∀ {w:World} {dj:AF} {ie dg:Nat} {s:AH} {k:Int},Rd w dj ie dg 1 (ints .i64 s)->s.length<m->((0<=k/\k<=1048576)/\ ∀x∈s,0<=x/\x<k)->s.length<=1000000->
  CF 199 #[sl dj ie dg,I k] w (λv R'=> ∃(b:AH) (A:AF) (c:Nat),v=sl A s.length c/\b.Perm (iota s.length)/\b.Pairwise (bV s)/\R'=[(ri 3 A s.length c b)]):=by
 induction m with
 |zero=>intro w A n c s k _ h;omega
 |succ m ih=>
  intro w A n c s k co hm dq hN;exact RY co (λh1 h2 h3 h4=>ih h1 G h3 h4) dq hN
theorem SB {s:AH} (co:Rd w dj ie dg 1 (ints .i64 s)) (dq:(0<=k/\k<=1048576)/\ ∀x∈s,0<=x/\x<k) (hN:s.length<=1000000):
  CF 199 #[sl dj ie dg,I k] w (λv R'=> ∃(b:AH) (A:AF) (c:Nat),v=sl A s.length c/\b.Perm (iota s.length)/\b.Pairwise (bV s)/\R'=[(ri 3 A s.length c b)]):=aNs (s.length+1) co G dq hN
theorem aTy {s:AH} (co:Rd w dj ie dg 1 (ints .i64 s)) (dq:(0<=k/\k<=1048576)/\ ∀x∈s,0<=x/\x<k) (hN:s.length<=100000):
  CF 154 #[sl dj ie dg,I k] w (λv R'=> ∃(b:AH) (A:AF) (c:Nat),v= .tuple #[sl A s.length c,I 0]/\b.Perm (iota s.length)/\b.Pairwise (bV s)/\R'=[(ri 3 A s.length c b)]):=by
 obtain rfl:=co.lenI;refine fn2 Tryz.func154 Z Z Z ?_;have l3:=co.max;refine wq<|wg Z<|wn Z<|aD<|wq<|wm Z<|wy (aL aa Z)<|wy (Yl.f (bW Z Z))<|aA<|aP Z<|aI<|aD ?_;refine wq<|wm Z<|wm Z<|wa (aC aCz Z (Ct.fresh (λw hw=>qJ ((co.c _) w hw) cE))) ?_;rintro _ _⟨_,rfl,cm,ci,rfl,rfl⟩;refine wm Z<|wX Z Z<|wX Z Z<|wg Z<|wn Z<|wq<|wm Z<|wy (dC Z)<|aA<|aP Z<|aI<|wq ?_;refine wm Z<|wm Z<|wa (aC bIc Z (Ct.fresh (λw hw=>SB ((co.c _) w hw) dq G))) ?_;rintro _ _⟨_,rfl,b1,kt,lj,rfl,dd,eh,rfl⟩;refine wg Z<|wn Z<|aU [0] 99 ?_;refine⟨_,_,Z,Z,?_⟩;exact⟨b1,_,_,Z,dd,eh,Z⟩
theorem aOe {an:AF} {ba am:Nat} {u:AH} (ac:Rd w an ba am 1 (ints .u8 u)) (al:aO u) (hN:u.length<=100000):
  CF 95 #[sl an ba am] w (λv R'=> ∃(b:AH) (A:AF) (c:Nat),v= .tuple #[sl A u.length c,I 0]/\b.Perm (iota u.length)/\b.Pairwise (bV u)/\R'=[(ri 3 A u.length c b)]):=by
 obtain rfl:=ac.lenI;refine fn2 Tryz.func95 Z Z Z ?_;have ia:=ac.max;refine wq<|wg Z<|wn Z<|wq<|eZ (ri 3 none 0 0 ([]))<|wn Z<|aD<|wq<|wm Z<|wy (aL af Z) ?_;refine wy (Yl.t (qM Z Z) G)<|aA<|dG Z<|aD<|wq<|wm Z<|wy (aL af Z)<|wm Z<|aA<|aG ?_;refine fE (λ(A1:AF) (n1:Nat) (c1:Nat) (acc:AH) (i:Int)=>[(4,sl A1 n1 c1),(10,sl an u.length am),(11,I (u.length:Int)),(12,I i)]) (λA1 n1 c1 acc i=>[(ri 3 A1 n1 c1 acc)]) (λA1 n1 c1 acc i=>(n1=acc.length)/\(0<=i)/\(i<=u.length)/\(acc=u.take i.toNat)) (λA1 n1 c1 acc i=>(u.length-i).toNat) ?_ ?_
 ·exact⟨none,0,0,[],0,⟨(Z),G,G,(Z)⟩,KP⟩
 intro A1 n1 c1 acc i ⟨cj,aw,ff,bb⟩;have mw:=bq List.length bb;rw[ax] at mw;refine wq<|wL Z Z<|aA<|aD<|aX Z (λar=> ?_) (λar=> ?_)
 ·have ux:=al.rd i;refine aI<|aD<|aG<|wq<|wy (aF af sz5 Z Z (ac.c _))<|wy (aT az Z Z (ac.c _))<|wn Z<|aK<|wm Z<|wm Z<|wy (jG az au Z)<|wa (bF .i64 [rd u i] aa zs3 Z Z Z) ?_;rintro _ _⟨db,rfl,rfl⟩;refine wa (aQ 1 Z aa zb3 Z Z Z (rdr 0 Z)) ?_;rintro _ _⟨dv,dy,rfl,rfl⟩;refine bC (v:=sl dv (n1+1) dy) Z<|wn Z<|aK<|wA Z Z<|wm Z<|aA ?_;exact⟨dv,n1+1,dy,acc++([rd u i]),i+1,⟨(by rw[ah,cj];try rfl),G,G,(by rw[dJ aw G,bb])⟩,G,SA,λ_ h=>h.sel [1] cC Z⟩
 ·have hau:acc=u:=by rw[bb,bg G]
  refine aR<|wq<|wm Z<|wa (aC bPi Z (Ct.fresh (λw hw=>aTy ((rdr 0 Z) w hw) ⟨G,λx hx=>by rw[hau] at hx;have:=al x hx;omega⟩ G))) ?_;rintro _ _⟨_,rfl,b1,gv,jn,rfl,dd,eh,rfl⟩;refine wX Z Z<|wX Z Z<|wg Z<|wn Z<|aU [0] 99 ?_;refine⟨_,_,Z,Z,?_⟩;subst hau;exact⟨b1,_,_,Z,dd,eh,Z⟩
end
section
variable {B g ba am:Nat} {w0:World} {R:List Row} {a0 a1 a2:Int} {an:AF} {u:AH}
theorem aJh (hr:0<=a0/\a0<1000000):
  CT 98 #[PG g,I 1] B w0 ((rc 96 3 g [I a0,I a1,I a2])::R) (λv R'=>v=I (a0+1)/\R'=(rc 96 3 g [I (a0+1),I a1,I a2])::R):=by
 refine fn1 La Z Z Z ?_;refine wq<|wn Z<|wq<|wm Z<|wy (aH Z)<|wy (yF 0 0 underlying93 sz2 Z)<|wm Z<|wa (aMr Z (λw hw=>⟨_,Hl (P:=Tryz.prog) Tryz.func157 cA cA cA .i64 cA (y:=1) (s:=a0+1) (hw.cellAt 0 (r:=(rc 96 3 g [I a0,I a1,I a2])) (j:=0) Z Z Z) (hw.openAt 0 (r:=(rc 96 3 g [I a0,I a1,I a2])) 0 Z Z Z) (by have:IntKind.i64.wrap (a0+1)=a0+1:=(by rw[Ca];omega);simp[Op.intArith,this]),hw.set1 0 (r:=(rc 96 3 g [I a0,I a1,I a2])) (j:=0) (v:=I (a0+1)) Z Z Z⟩)) ?_;rintro _ _⟨rfl,rfl⟩;refine wn Z<|bK ?_;exact⟨_,Z,Z,Z⟩
theorem aJg (hr:0<=a1/\a1<1000000):
  CT 98 #[.pointer (some ⟨g,1,none⟩),I 1] B w0 ((rc 96 3 g [I a0,I a1,I a2])::R) (λv R'=>v=I (a1+1)/\R'=(rc 96 3 g [I a0,I (a1+1),I a2])::R):=by
 refine fn1 La Z Z Z ?_;refine wq<|wn Z<|wq<|wm Z<|wy (aH Z)<|wy (yF 0 1 underlying93 sz2 Z)<|wm Z<|wa (aMr Z (λw hw=>⟨_,Hl (P:=Tryz.prog) Tryz.func157 cA cA cA .i64 cA (y:=1) (s:=a1+1) (hw.cellAt 0 (r:=(rc 96 3 g [I a0,I a1,I a2])) (j:=1) Z Z Z) (hw.openAt 0 (r:=(rc 96 3 g [I a0,I a1,I a2])) 1 Z Z Z) (by have:IntKind.i64.wrap (a1+1)=a1+1:=(by rw[Ca];omega);simp[Op.intArith,this]),hw.set1 0 (r:=(rc 96 3 g [I a0,I a1,I a2])) (j:=1) (v:=I (a1+1)) Z Z Z⟩)) ?_;rintro _ _⟨rfl,rfl⟩;refine wn Z<|bK ?_;exact⟨_,Z,Z,Z⟩
theorem aJf (hr:0<=a2/\a2<1000000):
  CT 98 #[.pointer (some ⟨g,2,none⟩),I 1] B w0 ((rc 96 3 g [I a0,I a1,I a2])::R) (λv R'=>v=I (a2+1)/\R'=(rc 96 3 g [I a0,I a1,I (a2+1)])::R):=by
 refine fn1 La Z Z Z ?_;refine wq<|wn Z<|wq<|wm Z<|wy (aH Z)<|wy (yF 0 2 underlying93 sz2 Z)<|wm Z<|wa (aMr Z (λw hw=>⟨_,Hl (P:=Tryz.prog) Tryz.func157 cA cA cA .i64 cA (y:=1) (s:=a2+1) (hw.cellAt 0 (r:=(rc 96 3 g [I a0,I a1,I a2])) (j:=2) Z Z Z) (hw.openAt 0 (r:=(rc 96 3 g [I a0,I a1,I a2])) 2 Z Z Z) (by have:IntKind.i64.wrap (a2+1)=a2+1:=(by rw[Ca];omega);simp[Op.intArith,this]),hw.set1 0 (r:=(rc 96 3 g [I a0,I a1,I a2])) (j:=2) (v:=I (a2+1)) Z Z Z⟩)) ?_;rintro _ _⟨rfl,rfl⟩;refine wn Z<|bK ?_;exact⟨_,Z,Z,Z⟩
theorem KF {w:World}:
  CF 21 #[] w (λv R'=> ∃g,v=PG g/\R'=[(rc 96 3 g [I 0,I 0,I 0])]):=by
 refine fn1 Tryz.func21 Z Z Z ?_;refine wq<|wn Z<|wq<|wy (iC (v:= .agg #[I 0,I 0,I 0]) Z (λw=>cA))<|wa (bX (sz:=3) rfl rfl) ?_;rintro _ _⟨ap,rfl,rfl⟩;refine wn Z<|aU [0] 99 ?_;exact⟨_,Z,_,Z,Z⟩
theorem AY (ac:RdC B w0 R an ba am 1 (ints .u8 u)) (ce:ba=u.length) (al:aO u) (hN:u.length<=100000) (ha:0<=a0/\a0<1000000):
  CT 47 #[PG g,I 0,sl an ba am] B w0 ((rc 96 3 g [I a0,I a1,I a2])::R) (λv R'=> ∃(b:AH) (A:AF) (c:Nat),v= .tuple #[sl A u.length c,I 0]/\b.Perm (iota u.length)/\b.Pairwise (bV u)/\R'=(ri 3 A u.length c b)::(rc 96 3 g [I (a0+1),I a1,I a2])::R):=by
 subst ce;refine fn2 Iy Z Z Z ?_;refine wq<|wg Z<|wn Z<|aD<|wq<|wm Z<|wy (kZ Hm Z Z)<|wm Z<|aB Z Z<|wm Z<|aB Z Z<|wy (Yl.f (eQ Z Z) cC) ?_;refine wy (aN Z Z)<|wm Z<|aB Z Z<|wm Z<|aB Z Z<|wy (Yl.f (iL Z Z) cC)<|wy (aN Z Z)<|aA<|aP Z<|aI<|wq<|wy (iC (v:= .agg #[.func (.func 95) #[] #[], .func (.func 96) #[] #[], .func (.func 97) #[] #[]]) Z (λw=>cA))<|wm rfl<|wy (bIs (v:= .func (.func 95) #[] #[]) rfl rfl (λw=>cA)) ?_;refine wn Z<|wq<|wm Z<|wm Z<|wa (BZ bRm Z Z (Ct.fresh (λw hw=>aOe ((RdC.right ac [_]) w hw) al hN))) ?_;rintro _ _⟨_,rfl,b1,cm,ci,rfl,dd,eh,rfl⟩;refine wm Z<|wX Z Z<|wX Z Z<|wg Z<|wn Z<|aD<|wq<|wm Z<|wR Z Z<|aA<|dG Z<|aK<|wm Z ?_;refine wm Z<|wy (aH Z)<|wy (yF 0 0 underlying96 bJa Z)<|wy (bS (q:=0) (rdr 1 Z) underlying94 bJb Z Z (ak Z) cC cC Z)<|wa (aC bKu Z (Ct.at 1 Z (aJh G))) ?_;rintro _ _⟨rfl,rfl⟩;refine aA<|wq<|wm Z<|wm Z<|wg Z<|wn Z<|bO (R1:=((ri 3 cm u.length ci b1)::(rc 96 3 g [I (a0+1),I a1,I a2])::R)) hiZ ?_;refine⟨_,_,Z,Z,?_⟩;exact⟨b1,_,_,Z,dd,eh,Z⟩
theorem AX (ac:RdC B w0 R an ba am 1 (ints .u8 u)) (ce:ba=u.length) (al:aO u) (hN:u.length<=100000) (ha:0<=a1/\a1<1000000):
  CT 47 #[PG g,I 1,sl an ba am] B w0 ((rc 96 3 g [I a0,I a1,I a2])::R) (λv R'=> ∃(b:AH) (A:AF) (c:Nat),v= .tuple #[sl A u.length c,I 0]/\b.Perm (iota u.length)/\b.Pairwise (bV u)/\R'=(ri 3 A u.length c b)::(rc 96 3 g [I a0,I (a1+1),I a2])::R):=by
 subst ce;refine fn2 Iy Z Z Z ?_;refine wq<|wg Z<|wn Z<|aD<|wq<|wm Z<|wy (kZ Hm Z Z)<|wm Z<|aB Z Z<|wm Z<|aB Z Z<|wy (Yl.f (eQ Z Z) cC) ?_;refine wy (aN Z Z)<|wm Z<|aB Z Z<|wm Z<|aB Z Z<|wy (Yl.f (iL Z Z) cC)<|wy (aN Z Z)<|aA<|aP Z<|aI<|wq<|wy (iC (v:= .agg #[.func (.func 95) #[] #[], .func (.func 96) #[] #[], .func (.func 97) #[] #[]]) Z (λw=>cA))<|wm rfl<|wy (bIs (v:= .func (.func 96) #[] #[]) rfl rfl (λw=>cA)) ?_;refine wn Z<|wq<|wm Z<|wm Z<|wa (BZ bRl Z Z (Ct.fresh (λw hw=>aPs ((RdC.right ac [_]) w hw) al hN))) ?_;rintro _ _⟨_,rfl,b1,cm,ci,rfl,dd,eh,rfl⟩;refine wm Z<|wX Z Z<|wX Z Z<|wg Z<|wn Z<|aD<|wq<|wm Z<|wR Z Z<|aA<|dG Z<|aK<|wm Z ?_;refine wm Z<|wy (aH Z)<|wy (yF 0 0 underlying96 bJa Z)<|wy (bS (q:=1) (rdr 1 Z) underlying94 bJb Z Z (ak Z) cC cC Z)<|wa (aC bKu Z (Ct.at 1 Z (aJg G))) ?_;rintro _ _⟨rfl,rfl⟩;refine aA<|wq<|wm Z<|wm Z<|wg Z<|wn Z<|bO (R1:=((ri 3 cm u.length ci b1)::(rc 96 3 g [I a0,I (a1+1),I a2])::R)) hiZ ?_;refine⟨_,_,Z,Z,?_⟩;exact⟨b1,_,_,Z,dd,eh,Z⟩
theorem AU (ac:RdC B w0 R an ba am 1 (ints .u8 u)) (ce:ba=u.length) (al:aO u) (hN:u.length<=100000) (ha:0<=a2/\a2<1000000):
  CT 47 #[PG g,I 2,sl an ba am] B w0 ((rc 96 3 g [I a0,I a1,I a2])::R) (λv R'=> ∃(b:AH) (A:AF) (c:Nat),v= .tuple #[sl A u.length c,I 0]/\b.Perm (iota u.length)/\b.Pairwise (bV u)/\R'=(ri 3 A u.length c b)::(rc 96 3 g [I a0,I a1,I (a2+1)])::R):=by
 subst ce;refine fn2 Iy Z Z Z ?_;refine wq<|wg Z<|wn Z<|aD<|wq<|wm Z<|wy (kZ Hm Z Z)<|wm Z<|aB Z Z<|wm Z<|aB Z Z<|wy (Yl.f (eQ Z Z) cC) ?_;refine wy (aN Z Z)<|wm Z<|aB Z Z<|wm Z<|aB Z Z<|wy (Yl.f (iL Z Z) cC)<|wy (aN Z Z)<|aA<|aP Z<|aI<|wq<|wy (iC (v:= .agg #[.func (.func 95) #[] #[], .func (.func 96) #[] #[], .func (.func 97) #[] #[]]) Z (λw=>cA))<|wm rfl<|wy (bIs (v:= .func (.func 97) #[] #[]) rfl rfl (λw=>cA)) ?_;refine wn Z<|wq<|wm Z<|wm Z<|wa (BZ bRk Z Z (Ct.fresh (λw hw=>aIq ((RdC.right ac [_]) w hw) al hN))) ?_;rintro _ _⟨_,rfl,o1,cm,ci,rfl,Mc,Ml,rfl⟩;refine wm Z<|wX Z Z<|wX Z Z<|wg Z<|wn Z<|aD<|wq<|wm Z<|wR Z Z<|aA<|dG Z<|aK<|wm Z ?_;refine wm Z<|wy (aH Z)<|wy (yF 0 0 underlying96 bJa Z)<|wy (bS (q:=2) (rdr 1 Z) underlying94 bJb Z Z (ak Z) cC cC Z)<|wa (aC bKu Z (Ct.at 1 Z (aJf G))) ?_;rintro _ _⟨rfl,rfl⟩;refine aA<|wq<|wm Z<|wm Z<|wg Z<|wn Z<|bO (R1:=((ri 3 cm u.length ci o1)::(rc 96 3 g [I a0,I a1,I (a2+1)])::R)) hiZ ?_;refine⟨_,_,Z,Z,?_⟩;obtain⟨b,hb,hs⟩:=qZ u;obtain rfl:=places hb hs Mc Ml;exact⟨o1,_,_,Z,hb,hs,Z⟩
theorem aDg (ac:RdC B w0 R an ba am 1 (ints .u8 u)) (ce:ba=u.length) (al:aO u) (hN:u.length<=100000) (ha:(0<=a0/\a0<1000000)/\(0<=a1/\a1<1000000)/\(0<=a2/\a2<1000000)):
  CT 22 #[PG g,sl an ba am] B w0 ((rc 96 3 g [I a0,I a1,I a2])::R) (λv R'=> ∃(b:AH) (A A2:AF) (c c2:Nat),v= .tuple #[.agg #[sl A u.length c,sl A2 u.length c2,bt],I 0]/\b.Perm (iota u.length)/\b.Pairwise (bV u)/\R'=(ri 3 A u.length c b)::(ri 3 A2 u.length c2 (BP u b))::(rc 96 3 g [I (a0+1),I (a1+1),I (a2+1)])::R):=by
 subst ce;refine bRh Tryz.func22 Z Z Z underlying54 Z bJd ?_;refine wq<|wa (fJ (sz:=3) bLz Z) ?_;rintro _ _⟨ap,rfl,rfl⟩;refine wn Z<|wq<|wa (fJ (sz:=3) bQu Z) ?_;rintro _ _⟨db,rfl,rfl⟩;refine aA<|aD<|wq<|wm Z<|aA<|aG<|iZ 4<|dN<|wq<|wy (Yl.t (eQ Z Z) cC)<|aA<|aD<|dG Z ?_;refine aI<|aD<|aG<|wq<|wm Z<|wn Z<|wq<|wm Z<|wm Z<|wm Z<|wa (aC bFo Z (Ct.pk [2,0,1] 3 (h:=AY (RdC.right ac [_,_]) (by first|rfl|(simp;done)|omega) al hN G))) ?_;rintro _ _⟨b0,dv,dy,rfl,sf,g6,rfl⟩;refine wm Z<|wX Z Z<|wX Z Z<|wg Z<|wn Z<|aD<|wq<|wm Z<|wy (Yl.f (fQ Z Z) cC)<|aA<|aP Z<|aI<|aK ?_;refine wm Z<|wm Z<|wy (bS (q:=0) (rdr 2 Z) za eY Z Z (ak Z) cC cC Z)<|bZ (bB 2 Z Z Z eY Z Z Z Z (ak Z)) ?_;rintro _ _ rfl;refine aA<|aK<|wy (Yl.is (bT Z Z) Z)<|wm Z<|aA<|dN<|wq<|wy (Yl.t (eQ Z Z) cC)<|aA<|aD<|dG Z<|aI<|aD<|aG ?_;refine wq<|wm Z<|wn Z<|wq<|wm Z<|wm Z<|wm Z<|wa (aC bFo Z (Ct.pk [1,0,2,3] 4 (h:=AX (RdC.right ac [_,_,_]) (by first|rfl|(simp;done)|omega) al hN G))) ?_;rintro _ _⟨b1,go,jj,rfl,dd,eh,rfl⟩;refine wm Z<|wX Z Z<|wX Z Z<|wg Z<|wn Z<|aD<|wq<|wm Z<|wy (Yl.f (fQ Z Z) cC)<|aA<|aP Z<|aI<|aK ?_;refine wm Z<|wm Z<|wy (bS (q:=1) (rdr 3 Z) za eY Z Z (ak Z) cC cC Z)<|bZ (bB 3 Z Z Z eY Z Z Z Z (ak Z)) ?_;rintro _ _ rfl;refine aA<|aK<|wy (Yl.is (bT Z Z) Z)<|wm Z<|aA<|dN<|wq<|wy (Yl.t (eQ Z Z) cC)<|aA<|aD<|dG Z<|aI<|aD<|aG ?_;refine wq<|wm Z<|wn Z<|wq<|wm Z<|wm Z<|wm Z<|wa (aC bFo Z (Ct.pk [1,0,2,3,4] 5 (h:=AU (RdC.right ac [_,_,_,_]) (by first|rfl|(simp;done)|omega) al hN G))) ?_;rintro _ _⟨b2,im,da,rfl,Wt,Xj,rfl⟩;refine wm Z<|wX Z Z<|wX Z Z<|wg Z<|wn Z<|aD<|wq<|wm Z<|wy (Yl.f (fQ Z Z) cC)<|aA<|aP Z<|aI<|aK ?_;refine wm Z<|wm Z<|wy (bS (q:=2) (rdr 4 Z) za eY Z Z (ak Z) cC cC Z)<|bZ (bB 4 Z Z Z eY Z Z Z Z (ak Z)) ?_;rintro _ _ rfl;refine aA<|aK<|wy (Yl.is (bT Z Z) Z)<|wm Z<|aA<|dN<|wq<|wy (Yl.f (eQ Z Z) cC)<|aA<|aD<|aP Z<|aR<|wq ?_;refine wm Z<|wy (bS (q:=0) (rdr 4 Z) za eY Z Z (ak Z) cC cC Z)<|wy (yL 4 aa Z Z Z)<|wa (aC bNc Z (Ct.fresh (λw hw=>aBu ((RdC.right ac [_,_,_,_,_,_]) w hw) ((rdr 3 Z) w hw) sf g6 G))) ?_;rintro _ _⟨_,rfl,li,io,rfl,rfl⟩;refine wm Z<|wX Z Z<|wX Z Z<|wg Z<|wn Z<|wq<|wm Z<|wy (bS (q:=0) (rdr 5 Z) za eY Z Z (ak Z) cC cC Z)<|wy (yL 5 aa Z Z Z)<|wa (aC bSi Z (Ct.fresh (λw hw=>aXj ((RdC.right ac [_,_,_,_,_,_,_]) w hw) ((rdr 4 Z) w hw) sf g6 G))) ?_;rintro _ _⟨_,rfl,ki,px,rfl,rfl⟩;refine wm Z<|wX Z Z<|wX Z Z<|wg Z<|wn Z<|wq<|wy (bS (q:=0) (rdr 6 Z) za eY Z Z (ak Z) cC cC Z)<|wy (yL 6 aa Z Z Z)<|wy (bS (q:=1) (rdr 6 Z) za eY Z Z (ak Z) cC cC Z)<|wy (yL 6 aa Z Z Z)<|wa (aC aRd Z (Ct.quiet (λw hw=>rQ ((rdr 5 Z) w hw) ((rdr 4 Z) w hw) (by rw[sf.length_eq,bA];omega)))) ?_;rintro _ _⟨rfl,rfl⟩;refine gL 51 Z (vT sf dd g6 eh)<|wm Z<|aB Z Z<|wy (bS (q:=0) (rdr 6 Z) za eY Z Z (ak Z) cC cC Z)<|aB Z Z<|wy (yL 6 aa Z Z Z)<|aB Z Z<|wy (bS (q:=2) (rdr 6 Z) za eY Z Z (ak Z) cC cC Z)<|aB Z Z<|wy (yL 6 aa Z Z Z)<|aB Z Z<|wa (aC aRd Z (Ct.quiet (λw hw=>rQ ((rdr 5 Z) w hw) ((rdr 2 Z) w hw) (by rw[sf.length_eq,bA];omega)))) ?_;rintro _ _⟨rfl,rfl⟩;refine gL 57 Z (vT sf Wt g6 Xj)<|wy (aS Z Z)<|wm Z<|aB Z Z<|wm Z<|aB Z Z<|wm Z<|aB Z Z<|wa (aC aRd Z (Ct.quiet (λw hw=>rQ ((rdr 1 Z) w hw) ((rdr 0 Z) w hw) (by rw[EU,sf.length_eq,bA];omega)))) ?_;rintro _ _⟨rfl,rfl⟩;refine gL 62 Z (Z)<|wy (aS Z Z)<|wn Z<|aD<|bD mixed<|wD 0 Z (bS (q:=0) (rdr 6 Z) za eY Z Z (ak Z) cC cC Z)<|wD 1 Z (yL 6 aa Z Z Z)<|wD 2 Z (aJ Z)<|wD 3 Z (aJ Z)<|wD 4 Z (aJ Z)<|wG 5 Z Z Z (aJ Z)<|wG 6 Z Z Z (bS (q:=0) (rdr 6 Z) za eY Z Z (ak Z) cC cC Z)<|wG 7 Z Z Z (yL 6 aa Z Z Z)<|wG 8 Z Z Z (aJ Z) ?_;refine qD 9 Z cA Z Z Z (aC bSh Z (Ct.quiet (λw hw=>aXi ((RdC.right ac [_,_,_,_,_,_,_,_]) w hw) ((rdr 5 Z) w hw) ((rdr 1 Z) w hw) sf g6 G Z))) ?_;rintro _ _⟨rfl,rfl⟩;refine⟨.inr hiZ,?_⟩;refine fM (v:=bt) (bq Value.bool (ky (trivial)))<|wD 10 Z (aS Z Z)<|wD 11 Z (iC (v:= .agg #[sl dv u.length dy,sl li ((b0).length) io,bt]) Z (λw=>cA))<|qC 12 rfl cA (dY (vs:=[sl dv u.length dy,sl li ((b0).length) io,bt]) 7 rfl bJd rfl rfl rfl (by intro v hv;simp at hv;rcases hv with rfl|rfl|rfl<;>rfl) rfl) ?_;rintro _ _ rfl;refine⟨.inl cA,?_⟩;refine wD 13 Z (aW Z)<|wN<|bK ?_;refine⟨_,7,_,Z,Z,Z,Z,Z,Z,Z,_,Z,((ri 3 dv u.length dy b0)::(ri 3 li ((b0).length) io (BP u b0))::(rc 96 3 g [I (a0+1),I (a1+1),I (a2+1)])::R),λ_ h=>h.selR (F:=[_,_,_,_,_,_,_,_]) (F':=[_,_,_]) [5,1,3] cC Z,?_⟩;have e:b0.length=u.length:=by rw[sf.length_eq,bA]
 rw[e];exact⟨b0,_,_,_,_,Z,sf,g6,Z⟩
end
section
variable {B g ba am:Nat} {w0:World} {R:List Row} {a0 a1 a2 so:Int} {an:AF} {u:AH}
theorem KW (ac:RdC B w0 R an ba am 1 (ints .u8 u)) (ce:ba=u.length) (hb:so<0\/2<so):
  CT 47 #[PG g,I so,sl an ba am] B w0 ((rc 96 3 g [I a0,I a1,I a2])::R) (λv R'=>v= .tuple #[sl none 0 0,I 1]/\R'=(rc 96 3 g [I a0,I a1,I a2])::R):=by
 subst ce;refine fn2 Iy Z Z Z ?_;refine wq<|wg Z<|wn Z<|aD<|wq<|wm Z<|wy (kZ Hm Z Z)<|wm Z<|aB Z Z<|wm Z<|aB Z Z<|wL Z Z ?_;refine wy (aN Z Z)<|wm Z<|bR 3 [(0,PG g),(1,I so),(2,sl an u.length am),(20, .bool (decide ((so<0)\/(3<=so))))] ((rc 96 3 g [I a0,I a1,I a2])::R) ?_ ?_
 ·refine bJ 17 Z (λar=> ?_) (λar=> ?_)
  ·refine aM Z Z Z Z<|aM Z Z Z Z<|wy (aS Z Z)<|aA ?_;exact KP
  ·refine aB Z Z<|wm Z<|aB Z Z<|wy (iL Z Z)<|wy (aN Z Z)<|aA ?_;exact KP
 refine gL 20 Z G<|aA<|dG Z<|wq<|wg Z<|wn Z<|bK ?_;refine⟨_,_,Z,Z,?_⟩;exact⟨Z,Z⟩
theorem KX (ac:RdC B w0 R an ba am 1 (ints .u8 u)) (ce:ba=u.length) (al:aO u) (hN:u.length<=100000) (ha:(0<=a0/\a0<1000000)/\(0<=a1/\a1<1000000)/\(0<=a2/\a2<1000000)):
  CT 47 #[PG g,I so,sl an ba am] B w0 ((rc 96 3 g [I a0,I a1,I a2])::R) (λv R'=> ∃(b:AH) (A:AF) (c:Nat) (e d0 d1 d2:Int),v= .tuple #[sl A b.length c,I e]/\
   (((so<0\/2<so)/\e=1/\b=[]/\d0=a0/\d1=a1/\d2=a2)\/(¬(so<0\/2<so)/\e=0/\b.Perm (iota u.length)/\b.Pairwise (bV u)/\[d0,d1,d2]=upd [a0,a1,a2] so (rd [a0,a1,a2] so+1)/\(d0<=a0+1/\0<=d0)/\(d1<=a1+1/\0<=d1)/\(d2<=a2+1/\0<=d2)))/\R'=(ri 3 A b.length c b)::(rc 96 3 g [I d0,I d1,I d2])::R):=by
 by_cases hb:so<0\/2<so
 ·intro w hw;refine(KW (u:=u) ac ce hb w hw).mono ?_;rintro e w' ⟨v,R',he,hh,hv,hr⟩;subst hr;exact⟨v,_,he,hh.nil 3 1,[],none,0,1,a0,a1,a2,hv, .inl ⟨hb,Z,Z,Z,Z,Z⟩,Z⟩
 ·have hlen: ∀b:AH,b.Perm (iota u.length)->u.length=b.length:=λb h=>by rw[h.length_eq,bA]
  rcases(by omega:so=0\/so=1\/so=2) with rfl|rfl|rfl
  ·refine (AY ac ce al hN ha.1).mono ?_;rintro v R' ⟨b,A,c,hv,hp,hs,hr⟩;rw[hlen b hp] at hv hr;exact⟨b,A,c,0,a0+1,a1,a2,hv, .inr ⟨hb,Z,hp,hs,Z,G,G,G⟩,hr⟩
  ·refine (AX ac ce al hN ha.2.1).mono ?_;rintro v R' ⟨b,A,c,hv,hp,hs,hr⟩;rw[hlen b hp] at hv hr;exact⟨b,A,c,0,a0,a1+1,a2,hv, .inr ⟨hb,Z,hp,hs,Z,G,G,G⟩,hr⟩
  ·refine (AU ac ce al hN ha.2.2).mono ?_;rintro v R' ⟨b,A,c,hv,hp,hs,hr⟩;rw[hlen b hp] at hv hr;exact⟨b,A,c,0,a0,a1,a2+1,hv, .inr ⟨hb,Z,hp,hs,Z,G,G,G⟩,hr⟩
end
section
variable {a V l s P acc u:AH} {i:Int} {n md gs:Nat} {w:World} {gr:AF}
theorem aPb (hd:a.Nodup) (i0:0<=i) (hi:i<a.length):rd a i∉a.take i.toNat:=λh=>by
 obtain⟨q,hq,e⟩:=ib.1 h;rw[ax] at hq;rw[wo] at e;have:=kM hd (i:=(q:Int)) (j:=i) G G i0 hi (by rw[gB (i:=(q:Int)) G G];simp only[dh];exact e);omega
theorem aOd {E:List Bool} (i0:0<=i) (hi:i<a.length) (hl:E.length=n) (ha:0<=rd a i/\rd a i<n) (h: ∀x:Int,0<=x->x<n->(rdb E x=true↔x∈a.take i.toNat)): ∀x:Int,0<=x->x<n->(rdb (qW E (rd a i) true) x=true↔x∈a.take (i+1).toNat):=by
 intro x x0 x1;rw[dJ i0 hi,zH ha.1 G x0,ek,ig];split
 ·rename_i e;exact⟨λ_=> .inr e,λ_=>rfl⟩
 ·rename_i e;rw[h x x0 x1];exact⟨.inl,λh=>h.resolve_right e⟩
theorem aXx (i0:0<=i) (hi:i<a.length) (hd:a.Nodup) (hl:V.length=n) (ha: ∀q:Int,0<=q->q<a.length->0<=rd a q/\rd a q<n) (h: ∀q:Int,0<=q->q<i->rd V (rd a q)=q): ∀q:Int,0<=q->q<i+1->rd (upd V (rd a i) i) (rd a q)=q:=by
 intro q q0 q1;have h1:=ha i i0 hi;have h2:=ha q q0 G;rw[gV h1.1 h2.1 G];split
 ·rename_i e;exact kM hd i0 hi q0 G e.symm
 ·rename_i e;refine h q q0 ?_;rcases cz q i with g|g
  ·exact g
  ·obtain rfl:q=i:=G
   exact absurd Z e
def fsL (l:AH):AH:=(iota l.length).map (lfC l)
theorem rC (l:AH):(fsL l).length=l.length:=by unfold fsL;rw[bu,bA]
theorem aGe (i0:0<=i) (hi:i<l.length):rd (fsL l) i=lfC l i:=by
 unfold fsL;rw[xO i0 (by rw[bA];exact hi),vP i0 hi]
theorem IK (hl:aO l):(dD (iota l.length) l (256:Int).toNat).length=l.length:=by
 have:=(lJ (l:=l) hl).1.length_eq;rwa[bA] at this
theorem aKp (hl:aO l):(dD (iota l.length) l (256:Int).toNat).Perm (iota (dD (iota l.length) l (256:Int).toNat).length):=by
 rw[IK hl];exact(lJ (l:=l) hl).1
theorem bHo (hl:aO l) (h1:V.length=(dD (iota l.length) l (256:Int).toNat).length) (h2: ∀q:Int,0<=q->q<(dD (iota l.length) l (256:Int).toNat).length->rd V (rd (dD (iota l.length) l (256:Int).toNat) q)=q):V=fsL l:=by
 rw[IK hl] at h1 h2;refine bI (by rw[h1,rC]) λj j0 j1=> ?_;rw[aGe j0 G];obtain⟨q,q0,q1,e,f⟩:=aBs (l:=l) hl j0 G;rw[f,<-e];exact h2 q q0 q1
theorem XI (i0:0<=i) (hi:i<a.length) (h:acc=P++ofT s (a.take i.toNat)) (h0:rd a i=0):acc=P++ofT s (a.take (i+1).toNat):=by
 rw[aBh i0 hi,dm h0,iw];exact h
theorem aGp (i0:0<=i) (hi:i<a.length) (h:acc=P++ofT s (a.take i.toNat)) (h0: ¬rd a i=0):acc++[rd s (rd a i-1)]=P++ofT s (a.take (i+1).toNat):=by
 rw[aBh i0 hi,df h0,<-dx,h]
theorem WB (hd:a.Nodup) (i0:0<=i) (hi:i<a.length) (h0:rd a i=0):i+1=zat (a.take (i+1).toNat):=by rw[YZ hd i0 hi,dm h0]
theorem aEn {m:Int} (hd:a.Nodup) (i0:0<=i) (hi:i<a.length) (h:m=zat (a.take i.toNat)) (h0: ¬rd a i=0):m=zat (a.take (i+1).toNat):=by rw[YZ hd i0 hi,df h0];exact h
theorem XJ (s:AH) (l:AH):(ofT s l).length<=l.length:=by unfold ofT;rw[bu];exact ym _ _
theorem WZ (dp:Rd w gr md gs 1 (ints .i64 a)) (hp:a.Perm (iota a.length)) (hN:a.length<=1000000):
  CF 99 #[sl gr md gs] w (λv R'=> ∃A c V,v= .tuple #[sl A a.length c,bt]/\V.length=a.length/\(∀q:Int,0<=q->q<a.length->rd V (rd a q)=q)/\R'=[(ri 3 A a.length c V)]):=by
 obtain rfl:=dp.lenI;refine fn2 Tryz.func99 Z Z Z ?_;have j7:=dp.max;have hnd:a.Nodup:=hp.symm.nodup (fB _);have gl: ∀q:Int,0<=q->q<a.length->0<=rd a q/\rd a q<a.length:=λq q0 q1=>aZ.1 (hp.subset (bG q0 q1));refine wq<|wg Z<|wn Z<|wq<|wm Z<|wy (aL aa Z)<|wa (dK aa zb3 Z Z) ?_;rintro _ _⟨ap,rfl,rfl⟩;refine bC (v:=sl (GG ap) a.length a.length) Z<|wn Z<|wq<|wm Z<|wy (aL aa Z)<|wa (MJ og zb4 Z Z G G G) ?_;rintro _ _⟨db,rfl,rfl⟩;refine bC (v:=sl (GG db) a.length a.length) Z<|wn Z<|aD<|wq<|wm Z<|wy (aL aa Z)<|wm Z<|aA<|aG ?_;refine fZ (λ(i:Int) (V:AH) (E:List Bool)=>[(0,sl gr a.length gs),(4,sl (GG ap) a.length a.length),(5,sl (GG db) a.length a.length),(14,sl gr a.length gs),(15,I (a.length:Int)),(16,I i)]) (λi V E=>[⟨4,1,(GG db),a.length,a.length,bools E,false⟩,(ri 3 (GG ap) a.length a.length V)]) (λi V E=>(0<=i)/\(i<=a.length)/\(V.length=a.length)/\(E.length=a.length)/\(∀x:Int,0<=x->x<a.length->(rdb E x=true↔x∈a.take i.toNat))/\(∀q:Int,0<=q->q<i->rd V (rd a q)=q)) (λi V E=>(a.length-i).toNat) ?_ ?_
 ·exact⟨0,List.replicate a.length (0:Int),List.replicate a.length false,⟨G,G,(by rw[bz]),(by rw[bz]),(λx h0 h1=>by rw[EC];simp),(λq h0 h1=>G)⟩,KP⟩
 intro i V E ⟨aw,ff,kc,Ut,hE,hV⟩;refine wq<|wL Z Z<|aA<|aD<|aX Z (λar=> ?_) (λar=> ?_)
 ·have ha:=gl i aw G;have vi:=aPb hnd aw G;refine aI<|aD<|aG<|wq<|wm Z<|wy (aF aa sz3 Z Z (dp.c _))<|wy (aT au Z Z (dp.c _))<|wg Z<|wn Z<|aD<|wq<|wm Z ?_;refine wy (Yl.f (eQ Z Z))<|wm Z<|aB Z Z<|wm Z<|aB Z Z<|wm Z<|aB Z Z<|wy (aL aa Z)<|aB Z Z<|wy (Yl.f (iL Z Z))<|wy (aN Z Z)<|wm Z<|aB Z Z<|wm Z<|aB Z Z ?_;refine wm Z<|aB Z Z<|wy (aF og sz4 Z Z (rdr 0 Z))<|aB Z Z<|wy (Yl.f (CJ Al Z Z (rdr 0 Z)) (λh=>vi ((hE _ ha.1 ha.2).1 h)))<|wy (aN Z Z)<|aA<|aP Z<|aI<|aK<|wm Z<|wm Z<|wm Z<|wm Z<|wm Z ?_;refine wy (aF aa sz3 Z Z (rdr 1 Z))<|bZ (bE 1 Z sz3 Z Z) ?_;rintro _ _ rfl;refine wy (aF og sz4 Z Z (rdr 0 Z))<|bZ (vC 0 Z sz4 Z Z) ?_;rintro _ _ rfl;refine aA<|aK<|wA Z Z<|wm Z<|aA ?_;exact⟨i+1,upd V (rd a i) i,qW E (rd a i) true,⟨G,G,(by rw[aY];exact kc),(by rw[mI];exact Ut),(aOd aw G Ut ha hE),(aXx aw G hnd kc gl hV)⟩,G,KP⟩
 ·refine aR<|wq<|wm Z<|wg Z<|wn Z<|aU [1] 99 ?_;refine⟨_,_,Z,Z,?_⟩;exact⟨_,_,V,Z,kc,λq h0 h1=>hV q h0 G,Z⟩
theorem aUt (dp:Rd w gr md gs 1 (ints .i64 a)) (hp:a.Perm (iota a.length)) (hN:a.length<=1000000):
  CF 121 #[sl gr md gs] w (λv R'=>v=bt):=by
 obtain rfl:=dp.lenI;refine fn1 Tryz.func121 Z Z Z ?_;have j7:=dp.max;refine wq<|wn Z<|wq<|wm Z<|wa (aC aHw Z (Ct.fresh (λw hw=>WZ ((dp.c _) w hw) hp hN))) ?_;rintro _ _⟨_,rfl,cm,ci,inv,rfl,i6,i8,rfl⟩;refine wm Z<|wX Z Z<|wX Z Z<|wg Z<|wn Z<|wq<|wm Z<|wn Z<|aU [] 99 ?_;refine⟨_,Z,?_⟩;rfl
theorem aKz {an:AF} {ba am:Nat} (ac:Rd w an ba am 1 (ints .u8 u)) (al:aO u) (hN:u.length<=1000000):
  CF 212 #[sl an ba am] w (λv R'=> ∃A c,v=sl A (fsL u).length c/\R'=[(ri 3 A ((fsL u).length) c (fsL u))]):=by
 obtain rfl:=ac.lenI;refine fn1 Tryz.func212 Z Z Z ?_;have ia:=ac.max;refine wq<|wn Z<|wq<|wm Z<|wy (aL af Z)<|wa (dK aa zb3 Z Z) ?_;rintro _ _⟨ap,rfl,rfl⟩;refine bC (v:=sl (GG ap) u.length u.length) Z<|wn Z<|wq<|wm Z<|wy (aL af Z)<|wa (dK aa zb3 Z Z) ?_;rintro _ _⟨db,rfl,rfl⟩;refine bC (v:=sl (GG db) u.length u.length) Z<|wn Z<|aD<|wq<|wm Z<|wy (aL af Z)<|wm Z<|aA<|aG ?_;refine fZ (λ(i:Int) (V:AH) (K:AH)=>[(3,sl (GG ap) u.length u.length),(4,sl (GG db) u.length u.length),(15,sl an u.length am),(16,I (u.length:Int)),(17,I i)]) (λi V K=>[(ri 3 (GG db) u.length u.length K),(ri 3 (GG ap) u.length u.length V)]) (λi V K=>(0<=i)/\(i<=u.length)/\(V.length=u.length)/\(K.length=u.length)/\(∀j:Int,0<=j->j<i->rd V j=j)/\(∀j:Int,0<=j->j<i->rd K j=rd u j)) (λi V K=>(u.length-i).toNat) ?_ ?_
 ·exact⟨0,List.replicate u.length (0:Int),List.replicate u.length (0:Int),⟨G,G,(by rw[bz]),(by rw[bz]),(λj h1 h2=>G),(λj h1 h2=>G)⟩,KP⟩
 intro i V K ⟨aw,ff,kc,Sy,hV,hK⟩;refine wq<|wL Z Z<|aA<|aD<|aX Z (λar=> ?_) (λar=> ?_)
 ·have ux:=al.rd i;refine aI<|aD<|aG<|wq<|wm Z<|wy (aF af sz5 Z Z (ac.c _))<|wy (aT az Z Z (ac.c _))<|wg Z<|wn Z<|aK<|wm Z<|wm Z<|wm Z ?_;refine wm Z<|wm Z<|wm Z<|wy (jG az au Z)<|wy (aF aa sz3 Z Z (rdr 1 Z))<|bZ (bE 1 Z sz3 Z Z) ?_;rintro _ _ rfl;refine wy (aF aa sz3 Z Z (rdr 0 Z))<|bZ (bE 0 Z sz3 Z Z) ?_;rintro _ _ rfl;refine aA<|aK<|wA Z Z<|wm Z<|aA ?_;exact⟨i+1,upd V i i,upd K i (rd u i),⟨G,G,(by rw[aY];exact kc),(by rw[aY];exact Sy),(fH (f:=λj=>j) aw G hV Z),(fH (f:=λj=>rd u j) aw G hK Z)⟩,G,KP⟩
 ·obtain rfl:V=iota u.length:=bI (by rw[bA];omega) λj h0 h1=>by rw[vP h0 G];exact hV j h0 G
  obtain rfl:u=K:=(bI G λj h0 h1=>hK j h0 G:K=u).symm;refine aR<|wq<|wm Z<|wm Z<|wa (aC QH Z (Ct.fresh (λw hw=>vS ((rdr 1 Z) w hw) ((rdr 0 Z) w hw) G al (λi hi=>aZ.1 hi) (by rw[bA];omega)))) ?_;rintro _ _⟨_,rfl,dv,dy,rfl,rfl⟩;refine wm Z<|wX Z Z<|wX Z Z<|wn Z<|wq<|wm Z<|wa (aC aHw Z (Ct.fresh (λw hw=>WZ ((rdr 0 Z) w hw) (aKp al) (by rw[IK al];omega)))) ?_;rintro _ _⟨_,rfl,gv,jn,inv,rfl,i6,i8,rfl⟩;refine wm Z<|wX Z Z<|wX Z Z<|wg Z<|wn Z<|wq<|wm Z<|wn Z<|aU [0] 99 ?_;refine⟨_,Z,?_⟩;obtain rfl:inv=fsL u:=bHo al i6 i8;have el:(dD (iota u.length) u (256:Int).toNat).length=(fsL u).length:=by rw[IK al,rC]
  rw[el];exact⟨_,_,Z,Z⟩
theorem bEd (h:u.length=0) (ha:a.length=0):ofL u a=[]/\zat a=0:=by
 obtain rfl:u=[]:=dw h;obtain rfl:a=[]:=dw ha;exact⟨Z,Z⟩
theorem QC (hu:aO u):(fsL u).Perm (iota (fsL u).length):=by
 rw[rC];exact GD (λx h0 h1=>aBt (l:=u) hu h0 h1) λx y x0 x1 y0 y1 e=>aXf (l:=u) hu x0 x1 y0 y1 e
theorem VH {Yn:AF} {n_p Yq:Nat} {p:AH} (Nk:Rd w Yn n_p Yq 1 (ints .i64 p)) (hp:p.Perm (iota p.length)) (hN:p.length<=1000000):
  CF 211 #[sl Yn n_p Yq] w (λv R'=> ∃(A:AF) (c:Nat) (vals:AG) (Rs:List Row),v= .tuple #[sl A vals.length c,bt]/\SlR .i64 Rs vals (dA p)/\R'=⟨52,1,A,vals.length,c,vals,false⟩::Rs):=by
 obtain rfl:=Nk.lenI;refine fn2 Tryz.func211 Z Z Z ?_;have m_p:=Nk.max;refine wq<|wg Z<|wn Z<|aD<|wq<|wm Z<|wa (aC aZs Z (Ct.quiet (λw hw=>aUt ((Nk.c _) w hw) hp hN))) ?_;rintro _ _⟨rfl,rfl⟩;refine wy (dC Z)<|aA<|aP Z<|aI<|wq<|wm Z<|wy (aL aa Z)<|wa (MJ og zb4 Z Z G G G) ?_;rintro _ _⟨ap,rfl,rfl⟩;refine bC (v:=sl (GG ap) p.length p.length) Z<|wn Z<|wq<|wa (iK [] Fq bMb Z Z Z Z) ?_;rintro _ _⟨gw,rfl,rfl⟩;refine wn Z<|aD<|wq<|wm Z<|wy (aL aa Z)<|wm Z<|aA<|aG ?_;refine vK (λ(i:Int) (A1:AF) (n1:Nat) (c1:Nat) (vals:AG) (ls:AD) (E:List Bool) (Rs:List Row)=>[(0,sl Yn p.length Yq),(4,sl (GG ap) p.length p.length),(5,sl A1 n1 c1),(17,I (p.length:Int)),(18,I i)]) (λi A1 n1 c1 vals ls E Rs=>(⟨52,1,A1,n1,c1,vals,false⟩::⟨4,1,(GG ap),p.length,p.length,bools E,false⟩::Rs)) (λi A1 n1 c1 vals ls E Rs=>(0<=i)/\(i<=p.length)/\(n1=vals.length)/\(SlR .i64 Rs vals ls)/\(jW p i.toNat=(E,ls))) (λi A1 n1 c1 vals ls E Rs=>(p.length-i).toNat) ?_ ?_
 ·exact⟨0,GG gw,0,0,[],[],List.replicate p.length false,[],⟨G,G,(Z),(SlR.nil _),(Z)⟩,KP⟩
 intro i A1 n1 c1 vals ls E Rs ⟨aw,ff,cj,kb,Fd⟩;have Ut:E.length=p.length:=by have h:=(mZ hp i.toNat G).1;rw[Fd] at h;exact h
 have Os:vals.length<=i.toNat:=by have h:=QK p i.toNat;rw[Fd] at h;rw[kb.1];exact h
 refine wq<|wL Z Z<|aA<|aD<|aX Z (λar=> ?_) (λar=> ?_)
 ·refine aI<|aD<|aG<|wq<|wm Z<|wn Z<|wq<|eZ (ri 3 none 0 0 ([]))<|wn Z<|aD<|aD ?_;refine aK<|wm Z<|wn Z<|aG ?_;refine CU (λ(k:Int) (A2:AF) (n2:Nat) (c2:Nat) (acc:AH) (E2:List Bool) (f:Nat)=>[(0,sl Yn p.length Yq),(4,sl (GG ap) p.length p.length),(5,sl A1 n1 c1),(7,sl A2 n2 c2),(8,I k),(17,I (p.length:Int)),(18,I i)]) (λk A2 n2 c2 acc E2 f=>((ri 3 A2 n2 c2 acc)::⟨52,1,A1,n1,c1,vals,false⟩::⟨4,1,(GG ap),p.length,p.length,bools E2,false⟩::Rs)) (λk A2 n2 c2 acc E2 f=>(0<=k)/\(k<p.length)/\(n2=acc.length)/\(E2.length=p.length)/\(cntF E2<=f)/\((acc++(iN p f E2 k).1,(iN p f E2 k).2)=iN p p.length E i)) (λk A2 n2 c2 acc E2 f=>f) ?_ ?_
  ·exact⟨i,none,0,0,[],E,p.length,⟨G,G,(Z),(Ut),(by have:cntF E<=E.length:=List.countP_le_length;omega),(Z)⟩,KP⟩
  intro k A2 n2 c2 acc E2 f ⟨iu,vd,nh,hE2l,hf,hw⟩;have mw:=aEs hp Ut aw G hw;refine aD<|wq<|wm Z<|wm Z<|wy (aF og sz4 Z Z (rdr 2 Z))<|wy (CJ Al Z Z (rdr 2 Z))<|wy (uC Z)<|aA<|aX Z (λbx=> ?_) (λbx=> ?_)
  ·have hgo:=MR (p:=p) iu G hf bx;have k9:=FV iu G bx;have fb:=QO iu G bx;have Mj:=aZ.1 (hp.subset (bG (L:=p) iu vd));refine aI<|aD<|aG<|wq<|wm Z<|wm Z<|wy (aF og sz4 Z Z (rdr 2 Z))<|bZ (vC 2 Z sz4 Z Z) ?_;rintro _ _ rfl;refine aA<|aK<|wm Z<|wm Z<|wa (bF .i64 [k] aa zs3 Z Z Z) ?_;rintro _ _⟨mt,rfl,rfl⟩;refine wa (aQ 1 Z aa zb3 Z Z Z (rdr 0 Z)) ?_;rintro _ _⟨iz,fj,rfl,rfl⟩;refine bC (v:=sl iz (n2+1) fj) Z<|wn Z<|aK<|wm Z<|wm Z<|wy (aF aa sz3 Z Z (Nk.c _))<|wy (aT au Z Z (Nk.c _))<|wn Z ?_;exact⟨rd p k,iz,n2+1,fj,acc++([k]),qW E2 k true,(f-1),⟨G,G,(by rw[ah,nh];rfl),(by rw[mI];exact hE2l),G,(by rw[<-hw,hgo];simp only[dx,pz])⟩,G,SA,λ_ h=>h.selR (F:=[_,_,_,_]) (F':=[_,_,_]) [1,2,3] cC Z⟩
  ·have Ts:iN p p.length E i=(acc,E2):=by rw[<-hw,vJ (uy.1 bx),iw]
   refine aR<|wq<|wm Z<|wy (aL aa Z)<|wy (bW Z Z)<|aA<|aX Z (λef=> ?_) (λef=> ?_)
   ·refine aK<|wm Z<|wm Z<|wa (iK [Value.slice A2 n2 c2] Fq bMb Z Z Z Z) ?_;rintro _ _⟨a6,rfl,rfl⟩;refine wa (fK 2 Z Z Fq bQy Z Z Z Z Z (rdr 0 Z) (by simp[Value.oneCell']) (by dsimp only;omega)) ?_;rintro _ _⟨es,dr,rfl,rfl⟩;refine bC (v:=sl es (n1+1) dr) Z<|wn Z<|aK<|wA Z Z<|wm Z<|aA ?_;exact⟨i+1,es,n1+1,dr,vals++([Value.slice A2 n2 c2]),(ls++[acc]),E2,((ri 3 A2 n2 c2 acc)::Rs),⟨G,G,(by rw[ah,cj];rfl),(kb.snoc nh),(bFu aw Fd Ts (λe=>by rw[e] at nh;simp at nh;omega))⟩,G,SA,λ_ h=>h.selR (F:=[_,_,_,_]) (F':=[_,_,_]) [2,3,1] cC rfl⟩
   ·refine aI<|aK<|wA Z Z<|wm Z<|aA ?_;exact⟨i+1,A1,n1,c1,vals,ls,E2,Rs,⟨G,G,(cj),(kb),(bLf aw Fd Ts (dw G))⟩,G,SA,λ_ h=>h.selR (F:=[_,_,_]) (F':=[_,_]) [1,2] cC Z⟩
 ·refine aR<|wq<|wm Z<|wg Z<|wn Z<|aU [0] 2 ?_;refine⟨_,_,Z,Z,?_⟩;obtain rfl:ls=dA p:=by unfold dA;rw[<-show i.toNat=p.length by omega,Fd]
  subst cj;exact⟨_,_,vals,Rs,Z,kb,Z⟩
end
section
variable {w:World} {Do se Lg pj jx oy:Nat} {Ks pe ju ox:AF} {re:AG} {ws:AD} {bs rs:AH} {t1 t2 h:Int}
theorem aWj {lf:AF} {pc ln:Nat} {l:AH} (js:Rd w lf pc ln 1 (ints .i64 l)):
  CF 66 #[sl lf pc ln] w (λv R'=>v=I (orL l)):=by
 obtain rfl:=js.lenI;refine fn1 Tryz.func66 Z Z Z ?_;have Qp:=js.max;refine wq<|wn Z<|wq<|wn Z<|aD<|wq<|wm Z<|wy (aL aa Z)<|wm Z<|aA ?_;refine aG ?_;refine fG (λ(k:Int)=>[(3,I 0),(6,sl lf l.length ln),(7,I (l.length:Int)),(8,I k)]) (λk=>[]) (λk=>(0<=k)/\(k<=l.length)/\(orL l=orL (l.drop k.toNat))) (λk=>(l.length-k).toNat) ?_ ?_
 ·exact⟨0,⟨G,G,(Z)⟩,KP⟩
 intro k ⟨iu,vd,ho⟩;refine wq<|wL Z Z<|aA<|aD<|aX Z (λar=> ?_) (λar=> ?_)
 ·refine aI<|aD<|aG<|wq<|wy (aF aa sz3 Z Z (js.c _))<|wy (aT au Z Z (js.c _))<|wn Z<|wq<|wm Z<|wm Z<|wy (fQ Z Z)<|aA ?_;refine aX Z (λbx=> ?_) (λbx=> ?_)
  ·refine wq<|wm Z<|wn Z<|bK ?_;refine⟨_,Z,?_⟩;exact bq (Value.int .i64) (by rw[ho,bDy iu G G])
  ·refine aI<|aK<|wA Z Z<|wm Z<|aA ?_;exact⟨k+1,⟨G,G,(by rw[ho,bJx iu G G])⟩,G,KP⟩
 ·refine aR<|wq<|wm Z<|wn Z<|bK ?_;refine⟨_,Z,?_⟩;exact bq (Value.int .i64) (by rw[ho,ol G];rfl)
theorem yR (co:Rd w (GG Do) 1 1 4 [sl Ks ws.length Lg,sl pe se pj,sl ju bs.length jx,sl ox rs.length oy]) (If:Rd w Ks ws.length Lg 1 re) (Qs:SlW .u8 w re ws) (fz:Rd w ju bs.length jx 1 (ints .i64 bs)) (Id:Rd w ox rs.length oy 1 (ints .i64 rs)) (Vi:0<=t1/\t1<ws.length/\t1<bs.length) (Vp:0<=t2/\t2<=1000000) (Vs:0<(rdl ws t1).length) (Vu:0<=rd bs t1/\rd bs t1+(rdl ws t1).length<=rs.length) (hh:0<=h/\h<=1000000):
  CF 224 #[PG Do, .agg #[I t1,I t2],I h] w (λv R'=>v=I (ahd ws bs rs (t1,t2) h)):=by
 refine fn1 Tryz.func224 Z Z Z ?_;have m_r:=Id.max;have Hc:=fz.max;have m_w:=If.max;have e1:=jv (t2+h) (show((rdl ws t1).length:Int)≠0 by omega);have e2:=jf (t2+h) (show(0:Int)<((rdl ws t1).length:Int) by omega);refine wq<|wa (bX (sz:=2) Z Z) ?_;rintro _ _⟨ap,rfl,rfl⟩;refine wn Z<|aD<|bD mixed<|wD 0 Z (aJ Z)<|wD 1 Z (aH Z)<|wD 2 Z (yF 3 3 sw eY Z)<|wD 3 Z (gK (co.c _) aa Z Z Z)<|wD 4 Z (aJ Z)<|wD 5 Z (aH Z)<|wD 6 Z (yF 2 2 sw eY Z)<|wD 7 Z (gK (co.c _) aa Z Z Z)<|wD 8 Z (bS (q:=0) (rdr 0 Z) jo sz3 Z Z (ak Z) cC cC Z)<|wD 9 Z (yL 0 au Z Z Z)<|wD 10 Z (aF aa sz3 Z Z (fz.c _)) ?_;refine wD 11 Z (aT au Z Z (fz.c _))<|wD 12 Z (bS (q:=1) (rdr 0 Z) jo sz3 Z Z (ak Z) cC cC Z)<|wD 13 Z (yL 0 au Z Z Z)<|wD 14 Z (aJ Z)<|wD 15 Z (bT Z Z)<|wD 16 Z (aJ Z)<|wD 17 Z (aH Z)<|wD 18 Z (yF 0 0 sw iD Z)<|wD 19 Z (gK (co.c _) ay Z Z Z)<|wD 20 Z (bS (q:=0) (rdr 0 Z) jo sz3 Z Z (ak Z) cC cC Z)<|wD 21 Z (yL 0 au Z Z Z)<|wD 22 Z (aF ay cZ Z Z (If.c _)) ?_;obtain⟨dv,dy,Na,wt,Vo,Qq⟩:=Qs.at (i:=t1) G G;refine wD 23 Z (kH af Z Z Z (If.c _) Na)<|wD 24 Z (aL af Z)<|wD 25 Z (tC Z Z)<|wD 26 Z (bT Z Z)<|wD 27 Z (aF aa sz3 Z Z (Id.c _))<|wD 28 Z (aT au Z Z (Id.c _))<|wD 29 Z (aW Z)<|wN<|aU [] 99 ?_;refine⟨_,Z,?_⟩;rfl
theorem XG (co:Rd w (GG Do) 1 1 4 [sl Ks ws.length Lg,sl pe se pj,sl ju bs.length jx,sl ox rs.length oy]) (If:Rd w Ks ws.length Lg 1 re) (Qs:SlW .u8 w re ws) (fz:Rd w ju bs.length jx 1 (ints .i64 bs)) (Id:Rd w ox rs.length oy 1 (ints .i64 rs)) (Vi:0<=t1/\t1<ws.length/\t1<bs.length) (Vp:0<=t2/\t2<=1000000) (Vs:0<(rdl ws t1).length) (Vu:0<=rd bs t1/\rd bs t1+(rdl ws t1).length<=rs.length):
  CF 223 #[PG Do, .agg #[I t1,I t2]] w (λv R'=>v=I (ahd ws bs rs (t1,t2) 0)):=by
 refine fn1 Tryz.func223 Z Z Z ?_;have m_r:=Id.max;have Hc:=fz.max;have m_w:=If.max;refine wq<|wa (bX (sz:=2) Z Z) ?_;rintro _ _⟨ap,rfl,rfl⟩;refine wn Z<|wq<|wm Z<|wy (bH (vs:=[I t1,I t2]) (rdr 0 Z) jo Z kC Z Z (ak Z) Z)<|wa (aC aCy Z (Ct.quiet (λw hw=>yR ((co.c _) w hw) ((If.c _) w hw) (Qs.c hw) ((fz.c _) w hw) ((Id.c _) w hw) cE cE cE cE cE))) ?_;rintro _ _⟨rfl,rfl⟩;refine wn Z<|aU [] 99 ?_;refine⟨_,Z,?_⟩;rfl
theorem aEy {u1 u2:Int} {g_p:Nat} {g_h:Nat} (co:Rd w (GG Do) 1 1 4 [sl Ks ws.length Lg,sl pe se pj,sl ju bs.length jx,sl ox rs.length oy]) (If:Rd w Ks ws.length Lg 1 re) (Qs:SlW .u8 w re ws) (fz:Rd w ju bs.length jx 1 (ints .i64 bs)) (Id:Rd w ox rs.length oy 1 (ints .i64 rs)) (Nk:Rd w (GG g_p) 1 1 1 [PG Do]) (Sz:Rd w (GG g_h) 1 1 1 [I h]) (Vi:0<=t1/\t1<ws.length/\t1<bs.length) (Vp:0<=t2/\t2<=1000000) (Vs:0<(rdl ws t1).length) (Vu:0<=rd bs t1/\rd bs t1+(rdl ws t1).length<=rs.length) (ha_u:0<=u1/\u1<ws.length/\u1<bs.length) (hb_u:0<=u2/\u2<=1000000) (hc_u:0<(rdl ws u1).length) (hd_u:0<=rd bs u1/\rd bs u1+(rdl ws u1).length<=rs.length) (hh:0<=h/\h<=1000000):
  CF 222 #[.agg #[I t1,I t2], .agg #[I u1,I u2],PG g_p,PG g_h] w (λv R'=>v=I (aFe ws bs rs h (t1,t2) (u1,u2))):=by
 refine fn1 Tryz.func222 Z Z Z ?_;have m_r:=Id.max;have Hc:=fz.max;have m_w:=If.max;refine wq<|wa (bX (sz:=2) Z Z) ?_;rintro _ _⟨ap,rfl,rfl⟩;refine wa (bX (sz:=2) Z Z) ?_;rintro _ _⟨gw,rfl,rfl⟩;refine wn Z<|aD<|bD mixed<|wD 0 Z (gK (Nk.c _) vk Z Z Z)<|wD 1 Z (bH (vs:=[I t1,I t2]) (rdr 1 Z) jo Z kC Z Z (ak Z) Z)<|wD 3 Z (gK (Nk.c _) vk Z Z Z)<|wD 4 Z (bH (vs:=[I u1,I u2]) (rdr 0 Z) jo Z kC Z Z (ak Z) Z)<|wD 7 Z (gK (Nk.c _) vk Z Z Z)<|wD 8 Z (bH (vs:=[I t1,I t2]) (rdr 1 Z) jo Z kC Z Z (ak Z) Z)<|wD 9 Z (gK (Sz.c _) au Z Z Z)<|wD 11 Z (gK (Nk.c _) vk Z Z Z)<|wD 12 Z (bH (vs:=[I u1,I u2]) (rdr 0 Z) jo Z kC Z Z (ak Z) Z)<|wD 13 Z (gK (Sz.c _) au Z Z Z)<|wD 16 Z (bS (q:=0) (rdr 1 Z) jo sz3 Z Z (ak Z) cC cC Z) ?_;refine wD 17 Z (yL 1 au Z Z Z)<|wD 18 Z (bS (q:=0) (rdr 0 Z) jo sz3 Z Z (ak Z) cC cC Z)<|wD 19 Z (yL 0 au Z Z Z)<|wD 21 Z (bS (q:=1) (rdr 1 Z) jo sz3 Z Z (ak Z) cC cC Z)<|wD 22 Z (yL 1 au Z Z Z)<|wD 23 Z (bS (q:=1) (rdr 0 Z) jo sz3 Z Z (ak Z) cC cC Z)<|wD 24 Z (yL 0 au Z Z Z)<|wC 2 Z (aC aLu Z (Ct.quiet (λw hw=>XG ((co.c _) w hw) ((If.c _) w hw) (Qs.c hw) ((fz.c _) w hw) ((Id.c _) w hw) cE cE cE cE))) ?_;rintro _ _⟨rfl,rfl⟩;refine⟨.inr hiZ,?_⟩;refine wC 5 Z (aC aLu Z (Ct.quiet (λw hw=>XG ((co.c _) w hw) ((If.c _) w hw) (Qs.c hw) ((fz.c _) w hw) ((Id.c _) w hw) cE cE cE cE))) ?_;rintro _ _⟨rfl,rfl⟩;refine⟨.inr hiZ,?_⟩;refine wC 6 Z (aC aYz Z (Ct.quiet (λw hw=>qK))) ?_;rintro _ _⟨rfl,rfl⟩;refine⟨.inr hiZ,?_⟩;refine wC 10 Z (aC aCy Z (Ct.quiet (λw hw=>yR ((co.c _) w hw) ((If.c _) w hw) (Qs.c hw) ((fz.c _) w hw) ((Id.c _) w hw) cE cE cE cE cE))) ?_;rintro _ _⟨rfl,rfl⟩;refine⟨.inr hiZ,?_⟩;refine wC 14 Z (aC aCy Z (Ct.quiet (λw hw=>yR ((co.c _) w hw) ((If.c _) w hw) (Qs.c hw) ((fz.c _) w hw) ((Id.c _) w hw) cE cE cE cE cE))) ?_;rintro _ _⟨rfl,rfl⟩;refine⟨.inr hiZ,?_⟩;refine wC 15 Z (aC aYz Z (Ct.quiet (λw hw=>qK))) ?_;rintro _ _⟨rfl,rfl⟩;refine⟨.inr hiZ,?_⟩;refine wC 20 Z (aC aYz Z (Ct.quiet (λw hw=>qK))) ?_;rintro _ _⟨rfl,rfl⟩;refine⟨.inr hiZ,?_⟩;refine wC 25 Z (aC aYz Z (Ct.quiet (λw hw=>qK))) ?_;rintro _ _⟨rfl,rfl⟩;refine⟨.inr hiZ,?_⟩;refine wC 26 Z (bF .i64 [iW (ahd ws bs rs (t1,t2) 0) (ahd ws bs rs (u1,u2) 0),iW (ahd ws bs rs (t1,t2) h) (ahd ws bs rs (u1,u2) h),iW t1 u1,iW t2 u2] aa zs3 Z Z Z) ?_;rintro _ _⟨mt,rfl,rfl⟩;refine⟨.inr hrZ,?_⟩;refine wC 27 Z (aC bNa Z (Ct.quiet (λw hw=>aWj ((rdr 0 Z) w hw)))) ?_;rintro _ _⟨rfl,rfl⟩;refine⟨.inr hiZ,?_⟩;refine wD 28 Z (aW Z)<|wN<|aU [] 99 ?_;refine⟨_,Z,?_⟩;rfl
theorem aFi (cb:Array Value):aMt Tryz.prog 221 222 cb:=λα _ enc hk h1 cf hO fa off cap d w vb hH hblk hsz=>
 Tryz.slices_SortFunc 2 (λw=>cA) (λw=>cA) enc hk h1 cf hO 222 cb fa off cap d w bNz vb hH hblk hsz
theorem aIa {B:Nat} {w0:World} {R:List Row} {l4:AF} {St pt Yh l5:Nat} {ts:AE} (vi:St=ts.length) (hnb:pt=bs.length) (hnr:Yh=rs.length) (Kd:RdC B w0 R Ks ws.length Lg 1 re) (w7: ∀w,Hp B w0 w R->SlW .u8 w re ws) (hv: ∀t∈ts,TOk ws bs rs.length t) (Ry: ∀t∈ts,∀u∈ts,jC bs t=jC bs u->t=u) (hnd:ts.Nodup) (cg:ts≠[]) (hN:rs.length<=1000000/\ts.length<=1000000) (hh:0<=h/\h<=1000000):
  CT 180 #[PG Do,sl l4 St l5,I h] B w0 ((rc 227 4 Do [sl Ks ws.length Lg,sl pe se pj,sl ju pt jx,sl ox Yh oy])::⟨177,2,l4,St,l5,prs ts,false⟩::(ri 3 ju pt jx bs)::(ri 3 ox Yh oy rs)::R) (λv R'=> ∃(l1:AE) (rk:AH) (A':AF) (c':Nat),v=I (jJ ws bs rs h l1 (l1.length-1))/\l1.Perm ts/\l1.Pairwise (λx y=> ¬aFe ws bs rs h y x<0)/\rk.length=rs.length/\(∀j:Nat,j<l1.length->rd rk (jC bs (rdp l1 j))=jJ ws bs rs h l1 j)/\R'=(rc 227 4 Do [sl Ks ws.length Lg,sl pe se pj,sl ju pt jx,sl A' Yh c'])::⟨177,2,l4,St,l5,prs l1,false⟩::(ri 3 ju pt jx bs)::(ri 3 A' Yh c' rk)::R):=by
 subst vi;subst hnb;subst hnr;refine fn1 Tryz.func180 Z Z Z ?_;have Wb: ∀t∈ts,0<=jC bs t:=λt ht=>by have:=hv t ht;unfold TOk at this;unfold jC;omega
 refine wq<|wa (bX (sz:=1) Z Z) ?_;rintro _ _⟨ap,rfl,rfl⟩;refine wa (bX (sz:=1) Z Z) ?_;rintro _ _⟨gw,rfl,rfl⟩;refine wn Z<|wq<|wm Z<|wy (mX Z Z)<|wa (aC bOa Z (aFl (aFi _) 3 Z cg G (aFe ws bs rs h) (aTo ws bs rs h) (λW hW x hx y hy=>aEy ((rdr 2 Z) W hW) ((RdC.right Kd [_,_,_,_,_]) W hW) (w7 W (Hp.right (R':=[_,_,_,_,_]) hW)) ((rdr 3 Z) W hW) ((rdr 4 Z) W hW) ((rdr 1 Z) W hW) ((rdr 0 Z) W hW) (hv x hx).1 (by have:=(hv x hx).2.1;omega) (hv x hx).2.2.1 (hv x hx).2.2.2 (hv y hy).1 (by have:=(hv y hy).2.1;omega) (hv y hy).2.2.1 (hv y hy).2.2.2 hh))) ?_;rintro _ _⟨rfl,l1,qq,xf,rfl⟩;have b7:=qq.length_eq;have Xr: ∀t∈l1,TOk ws bs rs.length t:=λt ht=>hv t (qq.mem_iff.1 ht);have Sd:=qq.nodup_iff.2 hnd;refine aA<|wq<|wy (yL 1 vk Z Z Z)<|wy (aH Z)<|wy (yF 3 3 sw eY Z)<|wy (yL 2 aa Z Z Z)<|wy (aL aa Z)<|wa (dK aa zb3 Z Z) ?_;rintro _ _⟨tg,rfl,rfl⟩;refine bC (v:=sl (GG tg) rs.length rs.length) Z<|wn Z<|wq<|wn Z<|aD<|wq<|wm Z<|wy (aL jh Z)<|wm Z<|aA<|aG ?_;refine fZ (λ(i:Int) (n:Int) (rk:AH)=>[(1,sl l4 ts.length l5),(3,PG ap),(5,PG gw),(7,sl (GG tg) rs.length rs.length),(8,I n),(21,sl l4 ts.length l5),(22,I (ts.length:Int)),(23,I i)]) (λi n rk=>((ri 3 (GG tg) rs.length rs.length rk)::(rc 3 1 gw [I h])::(rc 225 1 ap [PG Do])::(rc 227 4 Do [sl Ks ws.length Lg,sl pe se pj,sl ju bs.length jx,sl ox rs.length oy])::⟨177,2,l4,ts.length,l5,prs l1,false⟩::(ri 3 ju bs.length jx bs)::(ri 3 ox rs.length oy rs)::R)) (λi n rk=>(0<=i)/\(i<=l1.length)/\(0<=n/\n<=i)/\(n=jJ ws bs rs h l1 (i-1).toNat)/\(rk.length=rs.length)/\(∀j:Nat,j<i->rd rk (jC bs (rdp l1 j))=jJ ws bs rs h l1 j)) (λi n rk=>(l1.length-i).toNat) ?_ ?_
 ·exact⟨0,0,List.replicate rs.length (0:Int),⟨G,G,G,(Z),(by rw[bz]),(λj hj=>G)⟩,KP⟩
 intro i n rk ⟨aw,ff,Ox,hn,Qf,w6⟩;refine wq<|wL Z Z<|aA<|aD<|aX Z (λar=> ?_) (λar=> ?_)
 ·have hq:=Xr _ (kL aw (show i<l1.length by omega));obtain⟨⟨q1,q2,q3⟩,⟨q4,q5,q6⟩,q7,q8,q9⟩:=hq;have Pe: ∀t∈l1,0<=jC bs t:=λt ht=>Wb t (qq.mem_iff.1 ht);have mz: ∀t∈l1,∀u∈l1,jC bs t=jC bs u->t=u:=λt ht u hu=>Ry t (qq.mem_iff.1 ht) u (qq.mem_iff.1 hu);refine aI<|aD<|aG<|wq<|wm Z<|wy (nQ jh kC Z Z (rdr 4 Z) Z)<|wy (aJp jo Z kC Z (rdr 4 Z))<|wa (fJ (sz:=2) aJl Z) ?_;rintro _ _⟨nd,rfl,rfl⟩;refine wg Z<|bZ (dY (vs:=[I ((rdp l1 i).1),I ((rdp l1 i).2)]) 0 Z kC Z Z Z (by intro v hv;simp at hv;rcases hv with rfl|rfl<;>rfl) Z) ?_;rintro _ _ rfl;refine aA<|aD<|wq<|wm Z<|wy (bW Z Z)<|aA<|aX Z (λbx=> ?_) (λbx=> ?_)
  ·have Tq:=Xr _ (kL (show 0<=i-1 by omega) (show i-1<l1.length by omega));obtain⟨⟨p1,p2,p3⟩,⟨p4,p5,p6⟩,p7,p8,p9⟩:=Tq;refine wq<|wm Z<|wm Z<|wS Z Z<|wy (nQ jh kC Z Z (rdr 5 Z) Z)<|wy (aJp jo Z kC Z (rdr 5 Z))<|wa (fJ (sz:=2) aJl Z) ?_;rintro _ _⟨mv,rfl,rfl⟩;refine bZ (dY (vs:=[I ((rdp l1 (i-1)).1),I ((rdp l1 (i-1)).2)]) 0 Z kC Z Z Z (by intro v hv;simp at hv;rcases hv with rfl|rfl<;>rfl) Z) ?_;rintro _ _ rfl;refine aA ?_;refine mO [(1,sl l4 ts.length l5),(3,PG ap),(5,PG gw),(7,sl (GG tg) rs.length rs.length),(8,I n),(10,PG nd),(21,sl l4 ts.length l5),(22,I (ts.length:Int)),(23,I i),(52, .bool (decide (((ahd ws bs rs (((rdp l1 (i-1)).1),((rdp l1 (i-1)).2)) 0)≠(ahd ws bs rs (((rdp l1 i).1),((rdp l1 i).2)) 0))\/((ahd ws bs rs (((rdp l1 (i-1)).1),((rdp l1 (i-1)).2)) h)≠(ahd ws bs rs (((rdp l1 i).1),((rdp l1 i).2)) h)))))] ((rc 177 2 mv [I ((rdp l1 (i-1)).1),I ((rdp l1 (i-1)).2)])::(rc 177 2 nd [I ((rdp l1 i).1),I ((rdp l1 i).2)])::(ri 3 (GG tg) rs.length rs.length rk)::(rc 3 1 gw [I h])::(rc 225 1 ap [PG Do])::(rc 227 4 Do [sl Ks ws.length Lg,sl pe se pj,sl ju bs.length jx,sl ox rs.length oy])::⟨177,2,l4,ts.length,l5,prs l1,false⟩::(ri 3 ju bs.length jx bs)::(ri 3 ox rs.length oy rs)::R) ?_ ?_
   ·refine bD mixed<|wD 0 Z (yL 4 vk Z Z Z)<|wD 1 Z (bH (vs:=[I ((rdp l1 (i-1)).1),I ((rdp l1 (i-1)).2)]) (rdr 0 Z) jo Z kC Z Z (ak Z) Z)<|wD 3 Z (yL 4 vk Z Z Z)<|wD 4 Z (bH (vs:=[I ((rdp l1 i).1),I ((rdp l1 i).2)]) (rdr 1 Z) jo Z kC Z Z (ak Z) Z)<|wC 2 Z (aC aLu Z (Ct.quiet (λw hw=>XG ((rdr 5 Z) w hw) ((RdC.right Kd [_,_,_,_,_,_,_,_,_]) w hw) (w7 w (Hp.right (R':=[_,_,_,_,_,_,_,_,_]) hw)) ((rdr 7 Z) w hw) ((rdr 8 Z) w hw) cE cE cE cE))) ?_;rintro _ _⟨rfl,rfl⟩;refine⟨.inr hiZ,?_⟩;refine wC 5 Z (aC aLu Z (Ct.quiet (λw hw=>XG ((rdr 5 Z) w hw) ((RdC.right Kd [_,_,_,_,_,_,_,_,_]) w hw) (w7 w (Hp.right (R':=[_,_,_,_,_,_,_,_,_]) hw)) ((rdr 7 Z) w hw) ((rdr 8 Z) w hw) cE cE cE cE))) ?_;rintro _ _⟨rfl,rfl⟩;refine⟨.inr hiZ,?_⟩;refine wD 6 Z (fQ Z Z)<|wD 7 Z (aJ Z)<|jH 42 Z (λef=> ?_) (λef=> ?_)
    ·refine wO 8 Z Z Z<|wO 9 Z Z Z<|wO 10 Z Z Z<|wO 11 Z Z Z<|wO 12 Z Z Z<|wO 13 Z Z Z<|wO 14 Z Z Z<|wO 15 Z Z Z<|wO 16 Z Z Z<|wD 17 Z (aS Z Z)<|wN ?_;exact KP
    ·refine wG 8 Z Z Z (yL 4 vk Z Z Z)<|wG 9 Z Z Z (bH (vs:=[I ((rdp l1 (i-1)).1),I ((rdp l1 (i-1)).2)]) (rdr 0 Z) jo Z kC Z Z (ak Z) Z)<|wG 10 Z Z Z (yL 3 au Z Z Z)<|wG 12 Z Z Z (yL 4 vk Z Z Z)<|wG 13 Z Z Z (bH (vs:=[I ((rdp l1 i).1),I ((rdp l1 i).2)]) (rdr 1 Z) jo Z kC Z Z (ak Z) Z)<|wG 14 Z Z Z (yL 3 au Z Z Z)<|qD 11 Z cA Z Z Z (aC aCy Z (Ct.quiet (λw hw=>yR ((rdr 5 Z) w hw) ((RdC.right Kd [_,_,_,_,_,_,_,_,_]) w hw) (w7 w (Hp.right (R':=[_,_,_,_,_,_,_,_,_]) hw)) ((rdr 7 Z) w hw) ((rdr 8 Z) w hw) cE cE cE cE cE))) ?_;rintro _ _⟨rfl,rfl⟩;refine⟨.inr hiZ,?_⟩;refine qD 15 Z cA Z Z Z (aC aCy Z (Ct.quiet (λw hw=>yR ((rdr 5 Z) w hw) ((RdC.right Kd [_,_,_,_,_,_,_,_,_]) w hw) (w7 w (Hp.right (R':=[_,_,_,_,_,_,_,_,_]) hw)) ((rdr 7 Z) w hw) ((rdr 8 Z) w hw) cE cE cE cE cE))) ?_;rintro _ _⟨rfl,rfl⟩;refine⟨.inr hiZ,?_⟩;refine wG 16 Z Z Z (fQ Z Z)<|wD 17 Z (aN Z Z)<|wN ?_;exact KP
   refine aX Z (λfm=> ?_) (λfm=> ?_)
   ·refine aK<|wm Z<|wA Z Z<|wn Z<|bD mixed<|wD 0 Z (aJ Z)<|wD 1 Z (yL 4 vk Z Z Z)<|wD 2 Z (aH Z)<|wD 3 Z (yF 2 2 sw eY Z)<|wD 4 Z (yL 5 aa Z Z Z)<|wD 5 Z (bS (q:=0) (rdr 1 Z) jo sz3 Z Z (ak Z) cC cC Z)<|wD 6 Z (yL 1 au Z Z Z)<|wD 7 Z (aF aa sz3 Z Z (rdr 7 Z))<|wD 8 Z (aT au Z Z (rdr 7 Z)) ?_;refine wD 9 Z (bS (q:=1) (rdr 1 Z) jo sz3 Z Z (ak Z) cC cC Z)<|wD 10 Z (yL 1 au Z Z Z)<|wD 11 Z (bT Z Z)<|wD 12 Z (aJ Z)<|wD 13 Z (aF aa sz3 Z Z (rdr 2 Z))<|qC 14 Z cA (bE 2 Z sz3 Z Z) ?_;rintro _ _ rfl;refine⟨.inl cA,?_⟩;refine wN<|aK<|wA Z Z<|wm Z<|aA ?_;exact⟨i+1,n+1,upd rk ((rd bs ((rdp l1 i).1))+((rdp l1 i).2)) (n+1),⟨G,G,G,(by rw[show i+1-1=i by omega,zT G,dm cF,<-hn]),(by rw[upd,Gp];exact Qf),(BL Sd mz aw G Pe (by unfold jC;omega) w6 (by have e:(i+1-1)=i:=G;have hc:=(by rw[show i+1-1=i by omega,zT G,dm cF,<-hn]:_=jJ ws bs rs h l1 (i+1-1).toNat);rw[e] at hc;exact hc))⟩,G,SA,λ_ h=>h.selR (F:=[_,_,_,_,_,_,_,_,_]) (F':=[_,_,_,_,_,_,_]) [2,3,4,5,6,7,8] cC Z⟩
   ·refine aI<|bD mixed<|wD 0 Z (aJ Z)<|wD 1 Z (yL 4 vk Z Z Z)<|wD 2 Z (aH Z)<|wD 3 Z (yF 2 2 sw eY Z)<|wD 4 Z (yL 5 aa Z Z Z)<|wD 5 Z (bS (q:=0) (rdr 1 Z) jo sz3 Z Z (ak Z) cC cC Z)<|wD 6 Z (yL 1 au Z Z Z)<|wD 7 Z (aF aa sz3 Z Z (rdr 7 Z))<|wD 8 Z (aT au Z Z (rdr 7 Z))<|wD 9 Z (bS (q:=1) (rdr 1 Z) jo sz3 Z Z (ak Z) cC cC Z)<|wD 10 Z (yL 1 au Z Z Z)<|wD 11 Z (bT Z Z)<|wD 12 Z (aJ Z) ?_;refine wD 13 Z (aF aa sz3 Z Z (rdr 2 Z))<|qC 14 Z cA (bE 2 Z sz3 Z Z) ?_;rintro _ _ rfl;refine⟨.inl cA,?_⟩;refine wN<|aK<|wA Z Z<|wm Z<|aA ?_;exact⟨i+1,n,upd rk ((rd bs ((rdp l1 i).1))+((rdp l1 i).2)) n,⟨G,G,G,(by rw[show i+1-1=i by omega,zT G,df cF,<-hn,yx]),(by rw[upd,Gp];exact Qf),(BL Sd mz aw G Pe (by unfold jC;omega) w6 (by have e:(i+1-1)=i:=G;have hc:=(by rw[show i+1-1=i by omega,zT G,df cF,<-hn,yx]:_=jJ ws bs rs h l1 (i+1-1).toNat);rw[e] at hc;exact hc))⟩,G,SA,λ_ h=>h.selR (F:=[_,_,_,_,_,_,_,_,_]) (F':=[_,_,_,_,_,_,_]) [2,3,4,5,6,7,8] cC Z⟩
  ·refine aI<|bD mixed<|wD 0 Z (aJ Z)<|wD 1 Z (yL 3 vk Z Z Z)<|wD 2 Z (aH Z)<|wD 3 Z (yF 2 2 sw eY Z)<|wD 4 Z (yL 4 aa Z Z Z)<|wD 5 Z (bS (q:=0) (rdr 0 Z) jo sz3 Z Z (ak Z) cC cC Z)<|wD 6 Z (yL 0 au Z Z Z)<|wD 7 Z (aF aa sz3 Z Z (rdr 6 Z))<|wD 8 Z (aT au Z Z (rdr 6 Z))<|wD 9 Z (bS (q:=1) (rdr 0 Z) jo sz3 Z Z (ak Z) cC cC Z)<|wD 10 Z (yL 0 au Z Z Z)<|wD 11 Z (bT Z Z)<|wD 12 Z (aJ Z) ?_;refine wD 13 Z (aF aa sz3 Z Z (rdr 1 Z))<|qC 14 Z cA (bE 1 Z sz3 Z Z) ?_;rintro _ _ rfl;refine⟨.inl cA,?_⟩;refine wN<|aK<|wA Z Z<|wm Z<|aA ?_;exact⟨i+1,n,upd rk ((rd bs ((rdp l1 i).1))+((rdp l1 i).2)) n,⟨G,G,G,(by have h0:i=0:=G;subst h0;exact hn),(by rw[upd,Gp];exact Qf),(BL Sd mz aw G Pe (by unfold jC;omega) w6 (by have e:(i+1-1)=i:=G;have hc:=(by have h0:i=0:=G;subst h0;exact hn:_=jJ ws bs rs h l1 (i+1-1).toNat);rw[e] at hc;exact hc))⟩,G,SA,λ_ h=>h.selR (F:=[_,_,_,_,_,_,_,_]) (F':=[_,_,_,_,_,_,_]) [1,2,3,4,5,6,7] cC Z⟩
 ·refine aR<|wq<|wy (yL 2 vk Z Z Z)<|wm Z<|wy (aH Z)<|wy (yF 3 3 sw eY Z)<|bZ (bB 3 Z Z Z eY Z Z Z Z (ak Z)) ?_;rintro _ _ rfl;refine aA<|wq<|wm Z<|wn Z<|aU [3,4,5,0] 7 ?_;refine⟨_,Z,?_⟩;obtain rfl:i=l1.length:=G
  refine⟨l1,rk,_,_,?_,qq,xf,Qf,λj hj=>w6 j G,Z⟩;rw[hn,show((l1.length:Int)-1).toNat=l1.length-1 by omega]
end
section
variable {w:World}
theorem aRt {lf:AF} {pc ln:Nat} {l:AE} (js:Rd w lf pc ln 2 (prs l)) (hN:l.length<=1000000):
  CF 179 #[sl lf pc ln] w (λv R'=> ∃A c,v=sl A l.length c/\R'=[⟨177,2,A,l.length,c,prs l,false⟩]):=by
 obtain rfl:pc=l.length:=by have:=js.len;rw[jU] at this;omega
 refine fn1 Tryz.func179 Z Z Z ?_;refine wq<|wn Z<|aD<|wq<|wm Z<|wy (aJn jh Z Z)<|aA<|MS Z (λar=> ?_) (λar=> ?_)
 ·refine wq<|wn Z<|bO (R1:=[⟨177,2,none,0,0,prs [],false⟩]) (λ_ h=>h.nilP 177) ?_;refine⟨_,Z,?_⟩;have hA:lf=none:=by simpa using ar
  subst hA;obtain rfl:=aVs js;exact⟨none,0,Z,Z⟩
 ·refine aI<|wq<|wa (YS jh MK) ?_;rintro _ _⟨db,rfl,rfl⟩;refine wm Z<|wa (kE 0 Z jh wU Z Z Z Z (js.c _) G) ?_;rintro _ _⟨dv,dy,rfl,rfl⟩;refine bC (v:=sl dv (0+l.length) dy) Z<|wn Z<|bO (R1:=[⟨177,2,dv,(0+l.length),dy,prs (([])++l),false⟩]) hiZ ?_;refine⟨_,Z,?_⟩;simp only[ny,iv];exact⟨_,_,Z,Z⟩
theorem ZM {bc:AF} {bw bl:Nat} {ao:AG} {ws:AD} (aq:Rd w bc bw bl 1 ao) (bm:SlW .u8 w ao ws) (hN:ws.flatten.length<=400000/\ws.length<=1000000):
  CF 123 #[sl bc bw bl] w (λv R'=> ∃(l:AE) (A:AF) (c:Nat),v=sl A l.length c/\l.Perm (gG ws ws.length)/\l.Pairwise (jR ws)/\R'=[⟨177,2,A,l.length,c,prs l,false⟩]):=by
 obtain rfl:bw=ws.length:=by have:=aq.len;have:=bm.1;omega
 refine fn1 Tryz.func123 Z Z Z ?_;have km:=aq.max;have th:=hN.1;refine wq<|wn Z<|wq<|wm Z<|wy (iC (v:= .agg #[sl bc ws.length bl,sl none 0 0,sl none 0 0,sl none 0 0]) Z (λw=>cA))<|wa (bX (sz:=4) rfl rfl) ?_;rintro _ _⟨ap,rfl,rfl⟩;refine iU (R1:=[⟨177,2,none,0,0,prs ([]),false⟩,(ri 3 none 0 0 ([])),(ri 3 none 0 0 ([])),(rc 227 4 ap [sl bc ws.length bl,sl none 0 0,sl none 0 0,sl none 0 0])]) (Sub.refl _) (λ_ h=>((h.nil 3 1).nil 3 1).nilP 177)<|wn Z<|wq<|wn Z<|aD<|wq<|wm Z<|wy (aL ay Z)<|wm Z<|aA<|aG ?_;refine aTe (λ(k:Int) (lg:Int) (A1:AF) (n1:Nat) (c1:Nat) (T:AE) (A2:AF) (n2:Nat) (c2:Nat) (Bs:AH) (A3:AF) (n3:Nat) (c3:Nat) (Rs:AH)=>[(3,PG ap),(4,I lg),(16,sl bc ws.length bl),(17,I (ws.length:Int)),(18,I k)]) (λk lg A1 n1 c1 T A2 n2 c2 Bs A3 n3 c3 Rs=>[⟨177,2,A1,n1,c1,prs T,false⟩,(ri 3 A2 n2 c2 Bs),(ri 3 A3 n3 c3 Rs),(rc 227 4 ap [sl bc ws.length bl,sl A1 n1 c1,sl A2 n2 c2,sl A3 n3 c3])]) (λk lg A1 n1 c1 T A2 n2 c2 Bs A3 n3 c3 Rs=>(0<=k)/\(k<=ws.length)/\(0<=lg/\lg<=400000)/\(∀w:Int,0<=w->w<k->((rdl ws w).length:Int)<=lg)/\(lg=0/\pF ws k.toNat=0\/0<lg/\0<pF ws k.toNat)/\(T=gG ws k.toNat)/\(n1=pF ws k.toNat)/\(Bs=tZ ws k.toNat)/\(n2=k.toNat)/\(Rs=(ws.take k.toNat).flatten)/\(n3=pF ws k.toNat)) (λk lg A1 n1 c1 T A2 n2 c2 Bs A3 n3 c3 Rs=>(ws.length-k).toNat) ?_ ?_
 ·exact⟨0,0,none,0,0,[],none,0,0,[],none,0,0,[],⟨G,G,G,(λw h0 h1=>G),(.inl ⟨rfl,rfl⟩),(rfl),(rfl),(rfl),(rfl),(rfl),(rfl)⟩,KP⟩
 intro k lg A1 n1 c1 T A2 n2 c2 Bs A3 n3 c3 Rs ⟨iu,vd,hg0,hlg,Ly,hT,Wn,Sw,hnB,Rf,hnR⟩;refine wq<|wL Z Z<|aA<|aD<|aX Z (λar=> ?_) (λar=> ?_)
 ·have hofs:=kW iu (show k<ws.length by omega);have hole:=LV ws (k+1).toNat;refine aI<|aD<|aG<|wq<|wm Z<|wy (aF ay cZ Z Z (aq.c _)) ?_;obtain⟨o4,o5,hv_4,Xc,hb_6,mhr_5⟩:=bm.at (i:=k) G G;refine wy (kH af Z Z Z (aq.c _) hv_4)<|wg Z<|wn Z<|aD<|bD mixed<|wD 0 Z (aJ Z)<|wD 1 Z (aJ Z)<|wD 2 Z (aH Z)<|wD 3 Z (yF 2 2 sw eY Z)<|wD 4 Z (yL 3 aa Z Z Z)<|wD 5 Z (aJ Z)<|wD 6 Z (aH Z)<|wD 7 Z (yF 1 1 sw ZT Z)<|wD 8 Z (yL 3 jh Z Z Z) ?_;refine wD 9 Z (aL jh Z)<|wC 10 Z (bF .i64 [(n1:Int)] aa zs3 Z Z Z) ?_;rintro _ _⟨Hn,rfl,rfl⟩;refine⟨.inr hrZ,?_⟩;refine wC 11 Z (aQ 2 Z aa zb3 Z Z Z (rdr 0 Z)) ?_;rintro _ _⟨im,da,rfl,rfl⟩;refine⟨.inl cA,?_⟩;refine fM (v:=sl im (n2+1) da) Z<|wD 12 Z (aH Z)<|wD 13 Z (yF 2 2 sw eY Z)<|qC 14 Z cA (bB 4 Z Z Z eY Z Z Z Z (ak Z)) ?_;rintro _ _ rfl;refine⟨.inl cA,?_⟩;refine wN<|wq<|wm Z<|wm Z<|wy (aL af Z)<|wy (MM Z Z)<|wn Z<|wq<|wm Z<|wy (aL af Z)<|wm Z<|aA ?_;refine aG ?_;refine WG (λ(j:Int) (B1:AF) (m1:Nat) (d1:Nat) (U:AE) (B3:AF) (m3:Nat) (d3:Nat) (V:AH)=>[(3,PG ap),(4,I (max lg (((rdl ws k).length:Nat):Int))),(5,I k),(16,sl bc ws.length bl),(17,I (ws.length:Int)),(18,I k),(41,sl o4 ((rdl ws k).length) o5),(42,I (((rdl ws k).length:Nat):Int)),(43,I j)]) (λj B1 m1 d1 U B3 m3 d3 V=>[(ri 3 (GG Hn) 1 1 ([(n1:Int)])),⟨177,2,B1,m1,d1,prs U,false⟩,(ri 3 im (n2+1) da (Bs++([(n1:Int)]))),(ri 3 B3 m3 d3 V),(rc 227 4 ap [sl bc ws.length bl,sl B1 m1 d1,sl im (n2+1) da,sl B3 m3 d3])]) (λj B1 m1 d1 U B3 m3 d3 V=>(0<=j)/\(j<=(rdl ws k).length)/\(U=gG ws k.toNat++turnsOf k j.toNat)/\(m1=pF ws k.toNat+j.toNat)/\(V=(ws.take k.toNat).flatten++(rdl ws k).take j.toNat)/\(m3=pF ws k.toNat+j.toNat)) (λj B1 m1 d1 U B3 m3 d3 V=>((rdl ws k).length-j).toNat) ?_ ?_
  ·exact⟨0,A1,n1,c1,T,A3,n3,c3,Rs,⟨G,G,(by rw[hT];exact(iw _).symm),(Wn),(by rw[Rf];exact(iw _).symm),(hnR)⟩,KP⟩
  intro j B1 m1 d1 U B3 m3 d3 V ⟨tj,w4,hU,mu,hV,hm3⟩;refine wq<|wL Z Z<|aA<|aD<|aX Z (λbx=> ?_) (λbx=> ?_)
  ·refine aI<|aD<|aG<|wq<|wm Z<|wy (aF af sz5 Z Z (Xc.c _))<|wy (aT az Z Z (Xc.c _))<|wg Z<|wn Z<|wq<|wm Z<|wm Z ?_;refine wy (aH Z)<|wy (yF 1 1 sw ZT Z)<|wy (yL 4 jh Z Z Z)<|wm Z<|wm Z<|wy (iC (v:= .agg #[I k,I j]) Z (λw=>cA))<|wa (YT jh MK rfl) ?_;rintro _ _⟨qe,rfl,rfl⟩;refine wa (kE 2 Z jh wU Z Z Z Z (rdr 0 Z) G) ?_;rintro _ _⟨fc,fd,rfl,rfl⟩;refine bC (v:=sl fc (m1+1) fd) Z<|wy (aH Z)<|wy (yF 1 1 sw ZT Z)<|bZ (bB 5 Z Z Z ZT Z Z Z Z (ak Z)) ?_;rintro _ _ rfl;refine aA<|aK<|wm Z<|wm Z<|wy (aH Z)<|wy (yF 3 3 sw eY Z)<|wy (yL 5 aa Z Z Z)<|wm Z<|wy (jG az au Z (by have Nl:=(byteL_wf (by assumption: ∀x∈rdl ws k,(Lit.int .u8 x).wf=true)).rd j;omega)) ?_;refine wa (bF .i64 [rd (rdl ws k) j] aa zs3 Z Z Z) ?_;rintro _ _⟨a7,rfl,rfl⟩;refine wa (aQ 5 Z aa zb3 Z Z Z (rdr 0 Z)) ?_;rintro _ _⟨fg,fh,rfl,rfl⟩;refine bC (v:=sl fg (m3+1) fh) Z<|wy (aH Z)<|wy (yF 3 3 sw eY Z)<|bZ (bB 6 Z Z Z eY Z Z Z Z (ak Z)) ?_;rintro _ _ rfl;refine aA<|aK<|wA Z Z<|wm Z<|aA ?_;exact⟨j+1,fc,(m1+1),fd,U++([(k,j)]),fg,(m3+1),fh,V++([rd (rdl ws k) j]),⟨G,G,(by rw[hU,CY k tj,dx]),G,(by rw[hV,dx,dJ tj G]),G⟩,G,SA,λ_ h=>h.sel [2,3,4,5,6] cC Z⟩
  ·refine aR<|aK<|wA Z Z<|wm Z<|aA ?_
   exact⟨k+1,max lg (((rdl ws k).length:Nat):Int),B1,m1,d1,U,im,(n2+1),da,Bs++([(n1:Int)]),B3,m3,d3,V,⟨G,G,G,(λw h0 h1=>by
      by_cases hw:w=k
      ·rw[hw];omega
      ·have:=hlg w h0 G;omega),(by have hofs:=kW iu (show k<ws.length by omega);omega),(by have hj:j.toNat=(rdl ws k).length:=G;rw[hU,hj,ND iu]),(by rw[mu,kW iu G];omega),(by rw[Sw,aIx iu,Wn]),G,(by have hj:j.toNat=(rdl ws k).length:=G;rw[hV,hj,qc,fC iu G]),(by rw[hm3,kW iu G];omega)⟩,G,SA,λ_ h=>h.sel [1,2,3,4] cC rfl⟩
 ·have Zf:k=ws.length:=G
  have Th:k.toNat=ws.length:=G
  rw[Th] at hT Sw Rf Wn hnB hnR Ly;rw[qc] at Rf;have hoT:=yZ ws ws.length (ed _);have hoB:=VU ws ws.length;have hoR:pF ws ws.length=ws.flatten.length:=by unfold pF;rw[qc]
  obtain rfl:n1=T.length:=by rw[hT];omega
  obtain rfl:n2=Bs.length:=by rw[Sw];omega
  obtain rfl:n3=Rs.length:=by rw[Rf];omega
  have Vd:T.length<=1000000:=by rw[hT];omega
  refine aR<|wq<|wm Z<|wy (aH Z)<|wy (yF 1 1 sw ZT Z)<|wy (yL 3 jh Z Z Z)<|wa (aC bOw Z (Ct.fresh (λw hw=>aRt ((rdr 0 Z) w hw) Vd))) ?_;rintro _ _⟨_,rfl,g8,py,rfl,rfl⟩;refine wn Z<|wq<|wn Z<|aD<|wq<|wn Z<|aG ?_;refine nT (λ(h:Int) (Sv:Int) (l:AE) (A4:AF) (c4:Nat) (rs:AH)=>[(3,PG ap),(4,I lg),(9,sl g8 T.length py),(10,I Sv),(11,I h)]) (λh Sv l A4 c4 rs=>[⟨177,2,g8,T.length,py,prs l,false⟩,⟨177,2,A1,T.length,c1,prs T,false⟩,(ri 3 A2 Bs.length c2 Bs),(ri 3 A4 Rs.length c4 rs),(rc 227 4 ap [sl bc ws.length bl,sl A1 T.length c1,sl A2 Bs.length c2,sl A4 Rs.length c4])]) (λh Sv l A4 c4 rs=>(0<=h)/\(l.Perm T)/\(rs.length=Rs.length)/\(RK ws Bs (oG h) rs)/\(0<h->Sorted ws (oG h) l/\Go.Pure.Steps Bs rs l Sv)) (λh Sv l A4 c4 rs=>(2*lg-h).toNat) ?_ ?_
  ·exact⟨0,-1,T,A3,c3,Rs,⟨G,(.refl _),(Z),(by rw[Rf,Sw];exact aUo ws),(λh=>absurd h G)⟩,KP⟩
  intro h Sv l A4 c4 rs ⟨Ze,Ow,Jx,Yx,gd⟩;have Tu: ∀t∈l,TV ws t:=λt ht=>tO.1 (by rw[<-hT];exact Ow.mem_iff.1 ht);have hvv: ∀t∈l,TOk ws Bs rs.length t:=λt ht=>by rw[Jx,Rf,Sw];exact bGo G (Tu t ht)
  have mz: ∀t∈l,∀u∈l,jC Bs t=jC Bs u->t=u:=λt ht u hu e=>aVu (Tu t ht) (Tu u hu) (by rw[<-Sw];exact e);have hnd:l.Nodup:=Ow.nodup_iff.2 (by rw[hT];exact xE ws _);have Xi:Rs.length=ws.flatten.length:=by rw[Rf]
  have vf:=Ow.length_eq;have hTo:T.length=pF ws ws.length:=by rw[hT];exact hoT
  refine aD<|wq<|wm Z<|wm Z<|wy (jT Z Z)<|wL Z Z<|aA<|aX Z (λef=> ?_) (λef=> ?_)
  ·have cg:l≠[]:=λe=>by rw[e] at vf;simp only[il] at vf;omega
   refine aI<|aD<|aG<|wq<|wm Z<|wm Z<|wm Z<|JL [4,0,2,3,1] 99<|wa (aC bOv Z (aIa (bs:=Bs) (rs:=rs) (ts:=l) vf.symm Z Jx.symm (aq.c _) (λw hw=>bm.c hw) hvv mz hnd cg ⟨G,G⟩ ⟨Ze,G⟩)) ?_;rintro _ _⟨wx,Qr,nb,nc,rfl,lz,Pi,Wg,n7,rfl⟩;have Mq:Sorted ws (iJ h) wx:=⟨λt ht=>Tu t (lz.mem_iff.1 ht),lz.nodup_iff.2 hnd,Pi.imp_of_mem λ{x y} hx hy hn ho=>hn ((aTp Ze Yx (Tu y (lz.mem_iff.1 hy)) (Tu x (lz.mem_iff.1 hx))).2 ho)⟩;have Pu: ∀t,TV ws t->t∈wx:=λt ht=>lz.mem_iff.2 (Ow.mem_iff.2 (by rw[hT];exact tO.2 ht));have hRK2:=bDd Ze Yx Mq Pu n7;have hst2:=aFg Ze Yx Mq n7;have kf:=lz.length_eq;refine wn Z<|aD<|wq<|wm Z<|wm Z<|wy (eT Z Z)<|wm Z<|bR 3 [(3,PG ap),(4,I lg),(9,sl g8 T.length py),(11,I h),(12,I (jJ ws Bs rs h wx (wx.length-1))),(95, .bool (decide (((jJ ws Bs rs h wx (wx.length-1))=Sv)/\(0<h))))] [(rc 227 4 ap [sl bc ws.length bl,sl A1 T.length c1,sl A2 Bs.length c2,sl nb Rs.length nc]),⟨177,2,g8,T.length,py,prs wx,false⟩,(ri 3 A2 Bs.length c2 Bs),(ri 3 nb Rs.length nc Qr),⟨177,2,A1,T.length,c1,prs T,false⟩] ?_ ?_
   ·refine bJ 92 Z (λfm=> ?_) (λfm=> ?_)
    ·refine aB Z Z<|wm Z<|aB Z Z<|wy (bW Z Z)<|wy (aS Z Z)<|aA ?_;exact KP
    ·refine aM Z Z Z Z<|aM Z Z Z Z<|wy (aN Z Z)<|aA ?_;exact KP
   refine aA<|aX Z (λjt=> ?_) (λjt=> ?_)
   ·refine aR<|wq<|wm Z<|wn Z<|aU [1] 99 ?_;refine⟨_,Z,?_⟩;have nw:T.length=wx.length:=G
    rw[nw];refine⟨wx,_,_,Z,?_,?_,Z⟩
    ·rw[<-hT];exact lz.trans Ow
    ·exact stay jt.2 Yx Mq Pu lz (gd jt.2).2 jt.1
   ·refine aI<|aK<|wm Z<|wn Z<|aK<|wm Z<|wy (jT Z Z)<|wy (MM Z Z)<|wn Z ?_;exact⟨max 1 (2*h),jJ ws Bs rs h wx (wx.length-1),wx,nb,nc,Qr,⟨G,(lz.trans Ow),G,(by have e:oG (max 1 (2*h))=iJ h:=(by unfold oG iJ;split<;>omega);rw[e];exact hRK2),(λ_=>by have e:oG (max 1 (2*h))=iJ h:=(by unfold oG iJ;split<;>omega);rw[e];exact⟨Mq,hst2⟩)⟩,G,SA,λ_ h=>h.sel [1,4,2,3,0] cC rfl⟩
  ·refine aR<|wq<|wm Z<|wn Z<|aU [0] 99 ?_;refine⟨_,Z,?_⟩;have nw:T.length=l.length:=G
   rw[nw];refine⟨l,_,_,Z,?_,?_,Z⟩
   ·rw[<-hT];exact Ow
   ·by_cases h0:0<h
    ·refine (gd h0).1.toO λt u ht hu e=>aCr ht hu ?_ e;have a:=hlg t.1 ht.1 (by rw[Zf];exact ht.2.1);have b:=hlg u.1 hu.1 (by rw[Zf];exact hu.2.1);unfold oG;omega
    ·have It:l=[]:=dw G;rw[It];exact .nil
end
section
variable {ws:AD}
theorem YA {k:Int} (h0:0<=k) (h:k<ws.length):(rdl ws k).length<=ws.flatten.length:=by
 have a:=kW h0 h;have b:=LV ws (k+1).toNat;omega
theorem aJs (u:AH) (i:Nat):(u.drop i++u.take i).length<=u.length:=by
 rw[ah,bn,ax];omega
theorem aNg {w:World} {bc:AF} {bw bl:Nat} {ao:AG} (aq:Rd w bc bw bl 1 ao) (bm:SlW .u8 w ao ws) (hN:ws.flatten.length<=400000/\ws.length<=1000000):
  CF 139 #[sl bc bw bl] w (λv R'=> ∃(l:AE) (A:AF) (c:Nat),v=sl A l.length c/\l.Perm (gG ws ws.length)/\l.Pairwise (jR ws)/\R'=[⟨177,2,A,l.length,c,prs l,false⟩]):=by
 obtain rfl:bw=ws.length:=by have:=aq.len;have:=bm.1;omega
 refine fn1 Tryz.func139 Z Z Z ?_;have km:=aq.max;refine wq<|wn Z<|wq<|iU (R1:=[⟨177,2,none,0,0,prs ([]),false⟩]) (Sub.refl _) (λ_ h=>h.nilP 177)<|wn Z<|aD<|wq<|wn Z<|aG ?_;refine fE (λ(q:Int) (A1:AF) (n1:Nat) (c1:Nat) (T:AE)=>[(0,sl bc ws.length bl),(3,sl A1 n1 c1),(4,I q)]) (λq A1 n1 c1 T=>[⟨177,2,A1,n1,c1,prs T,false⟩]) (λq A1 n1 c1 T=>(0<=q)/\(q<=ws.length)/\(n1=T.length)/\(T.Perm (gG ws q.toNat))/\(T.Pairwise (jR ws))) (λq A1 n1 c1 T=>(ws.length-q).toNat) ?_ ?_
 ·exact⟨0,none,0,0,[],⟨G,G,(Z),(.refl _),(.nil)⟩,KP⟩
 intro q A1 n1 c1 T ⟨wv,hw1,cj,hp,hs⟩;refine aD<|wq<|wm Z<|wm Z<|wy (aL ay Z)<|wL Z Z<|aA<|aX Z (λar=> ?_) (λar=> ?_)
 ·refine aI<|aD<|aG<|wq<|wn Z<|aG ?_;refine fE (λ(k:Int) (B1:AF) (m1:Nat) (d1:Nat) (U:AE)=>[(0,sl bc ws.length bl),(3,sl B1 m1 d1),(4,I q),(5,I k)]) (λk B1 m1 d1 U=>[⟨177,2,B1,m1,d1,prs U,false⟩]) (λk B1 m1 d1 U=>(0<=k)/\(k<=(rdl ws q).length)/\(m1=U.length)/\(U.Perm (gG ws q.toNat++turnsOf q k.toNat))/\(U.Pairwise (jR ws))) (λk B1 m1 d1 U=>((rdl ws q).length-k).toNat) ?_ ?_
  ·exact⟨0,A1,n1,c1,T,⟨G,G,(cj),(by rw[show turnsOf q (0:Int).toNat=[] from rfl,iw];exact hp),(hs)⟩,KP⟩
  intro k B1 m1 d1 U ⟨iu,vd,mu,qq,xf⟩;refine aD<|wq<|wm Z<|wm Z<|wm Z<|wy (aF ay cZ Z Z (aq.c _)) ?_;refine bm.elim (i:=q) G G (λcm ci pr tx xv ub=> ?_);refine wy (kH af Z Z Z (aq.c _) pr)<|wy (aL af Z)<|wL Z Z<|aA<|aX Z (λbx=> ?_) (λbx=> ?_)
  ·refine aI<|aD<|aG<|wq<|wm Z<|wm Z<|wy (aF ay cZ Z Z (aq.c _)) ?_;refine bm.elim (i:=q) G G (λgo jj u3 tz u9 Nc=> ?_);refine wy (kH af Z Z Z (aq.c _) u3)<|wm Z<|wa (aC aZa Z (Ct.fresh (λw hw=>xD ((tz.c _) w hw) G (by have:=YA (ws:=ws) (k:=q) wv G;omega)))) ?_;rintro _ _⟨_,rfl,es,dr,rfl,rfl⟩;refine wn Z<|wq<|wm Z<|wy (aL jh Z)<|wn Z<|aD<|aG ?_;refine fG (λ(j:Int)=>[(0,sl bc ws.length bl),(3,sl B1 m1 d1),(4,I q),(5,I k),(6,sl es (((rdl ws q).drop (k).toNat++(rdl ws q).take (k).toNat).length) dr),(7,I j)]) (λj=>[(ru 5 es (((rdl ws q).drop (k).toNat++(rdl ws q).take (k).toNat).length) dr ((rdl ws q).drop (k).toNat++(rdl ws q).take (k).toNat)),⟨177,2,B1,m1,d1,prs U,false⟩]) (λj=>(0<=j)/\(j<=U.length)/\(∀i:Int,j<=i->i<U.length->jR ws (q,k) (rdp U i))) (λj=>j.toNat) ?_ ?_
   ·exact⟨(m1:Int),⟨G,G,(λi h1 h2=>G)⟩,KP⟩
   intro j ⟨tj,w4,yv⟩;have Lk:U.length<=400000:=by rw[qq.length_eq,ah,yZ ws _ G,JO];have a:=kW wv (show q<ws.length by omega);have b:=LV ws (q+1).toNat;omega
   have ft:=OC (ws:=ws) wv G G qq;have Qi: ∀i:Int,0<=i->i<U.length->(rdl ws (rdp U i).1).length<=1000000:=λi h1 h2=>by have:=YA (ws:=ws) (ft i h1 h2).1.1 (ft i h1 h2).1.2.1;omega
   refine aD ?_;refine mO [(0,sl bc ws.length bl),(3,sl B1 m1 d1),(4,I q),(5,I k),(6,sl es (((rdl ws q).drop (k).toNat++(rdl ws q).take (k).toNat).length) dr),(7,I j),(53, .bool (decide ((0<j)/\((QR ((rdl ws q).drop (k).toNat++(rdl ws q).take (k).toNat) ((rdl ws ((rdp U (j-1)).1)).drop (((rdp U (j-1)).2)).toNat++(rdl ws ((rdp U (j-1)).1)).take (((rdp U (j-1)).2)).toNat))<0))))] [(ru 5 es (((rdl ws q).drop (k).toNat++(rdl ws q).take (k).toNat).length) dr ((rdl ws q).drop (k).toNat++(rdl ws q).take (k).toNat)),⟨177,2,B1,m1,d1,prs U,false⟩] ?_ ?_
   ·refine bD mixed<|wD 0 Z (aJ Z)<|wD 1 Z (bW Z Z)<|wD 2 Z (aJ Z)<|jH 33 Z (λef=> ?_) (λef=> ?_)
    ·refine wG 3 Z Z Z (aJ Z)<|wG 4 Z Z Z (aJ Z)<|wG 5 Z Z Z (aJ Z)<|wG 6 Z Z Z (aJ Z)<|wG 7 Z Z Z (kY Z Z)<|wG 8 Z Z Z (nQ jh kC Z Z (rdr 1 Z) Z)<|wG 9 Z Z Z (CG (q:=0) jo sz3 Z Z (rdr 1 Z) G G Z cC cC)<|wG 10 Z Z Z (aSu au Z Z (rdr 1 Z))<|wG 11 Z Z Z (aF ay cZ Z Z (aq.c _) (by first|exact(ft (j-1) G G).1.1|exact(ft (j-1) G G).1.2.1) (by first|exact(ft (j-1) G G).1.1|exact(ft (j-1) G G).1.2.1)) ?_;refine bm.elim (i:=(rdp U (j-1)).1) (by first|exact(ft (j-1) G G).1.1|exact(ft (j-1) G G).1.2.1) (by first|exact(ft (j-1) G G).1.1|exact(ft (j-1) G G).1.2.1) (λgh gi Mz f8 Vn Ss=> ?_);refine wG 12 Z Z Z (kH af Z Z Z (aq.c _) Mz)<|wG 13 Z Z Z (aJ Z)<|wG 14 Z Z Z (aJ Z)<|wG 15 Z Z Z (kY Z Z)<|wG 16 Z Z Z (nQ jh kC Z Z (rdr 1 Z) Z)<|wG 17 Z Z Z (CG (q:=1) jo sz3 Z Z (rdr 1 Z) G G Z cC cC)<|wG 18 Z Z Z (aSt au Z Z (rdr 1 Z) G G)<|qD 19 Z cA Z Z Z (aC aZa Z (Ct.fresh (λw hw=>xD ((f8.c _) w hw) ⟨(ft (j-1) G G).1.2.2.1,Bw (ft (j-1) G G).1.2.2.2⟩ (Qi (j-1) G G)))) ?_;rintro _ _⟨_,rfl,g8,py,rfl,rfl⟩;refine⟨.inr hrZ,?_⟩;refine qD 20 Z cA Z Z Z (aC bOu Z (Ct.quiet (λw hw=>YG ((rdr 1 Z) w hw) ((rdr 0 Z) w hw) (qm (aJs _ _) (qm (YA (ws:=ws) (k:=q) wv G) G)) (qm (aJs _ _) (Qi (j-1) G G))))) ?_;rintro _ _⟨rfl,rfl⟩;refine⟨.inr hiZ,?_⟩;refine wG 21 Z Z Z (eQ Z Z)<|wD 22 Z (aS Z Z)<|wN ?_;exact⟨SA,λ_ h=>h.sel [1,2] cC Z⟩
    ·refine wO 3 Z Z Z<|wO 4 Z Z Z<|wO 5 Z Z Z<|wO 6 Z Z Z<|wO 7 Z Z Z<|wO 8 Z Z Z<|wO 9 Z Z Z<|wO 10 Z Z Z<|wO 11 Z Z Z<|wO 12 Z Z Z<|wO 13 Z Z Z<|wO 14 Z Z Z<|wO 15 Z Z Z<|wO 16 Z Z Z<|wO 17 Z Z Z ?_;refine wO 18 Z Z Z<|wO 19 Z Z Z<|wO 20 Z Z Z<|wO 21 Z Z Z<|wD 22 Z (aN Z Z)<|wN ?_;exact KP
   refine aX Z (λfm=> ?_) (λfm=> ?_)
   ·have Vv:=aYb (ws:=ws) wv G iu G qq tj w4 yv fm;refine aI<|aG<|aK<|wm Z<|wS Z Z<|wn Z ?_;exact⟨j-1,⟨G,G,(Vv)⟩,G,KP⟩
   ·have vc:=bFa (ws:=ws) wv G iu G qq xf tj w4 yv fm;refine aR<|bD mixed<|wD 1 Z (aJ Z)<|wD 2 Z (aJ Z)<|wD 3 Z (eD jh kC Z Z (rdr 1 Z))<|wD 5 Z (aJ Z)<|wD 6 Z (aJ Z)<|wD 7 Z (iC (v:= .agg #[I q,I k]) Z (λw=>cA))<|wD 10 rfl (aJ rfl)<|wD 11 rfl (aJ rfl)<|wD 12 rfl (dH jh kC rfl rfl)<|GU 0 8 cA ?_ ?_
    ·refine KN 0 Z Z (YS jh MK) ?_;rintro _ _⟨g9,rfl,rfl⟩;refine⟨.inr hrZ,?_⟩;refine GU 4 8 cA ?_ ?_
     ·refine KN 4 Z Z (kE 0 Z jh wU Z Z Z Z (RdC.toP (h:=(j).toNat) (rdr 2 Z) cG) G) ?_;rintro _ _⟨kd,ke,rfl,rfl⟩;refine⟨.inl cA,?_⟩;refine fM (v:=sl kd (0+((j).toNat)) ke) Z<|wC 8 Z (YT jh MK Z) ?_;rintro _ _⟨Ob,rfl,rfl⟩;refine⟨.inr hrZ,?_⟩;refine wC 9 Z (kE 1 Z jh wU Z Z Z Z (rdr 0 Z) G) ?_;rintro _ _⟨rm,rv,rfl,rfl⟩;refine⟨.inl cA,?_⟩;refine fM (v:=sl rm ((0+((j).toNat))+1) rv) Z<|wC 13 Z (kE 1 Z jh wU Z Z Z Z (RdC.fromP (rdr 3 Z) cG) G) ?_;rintro _ _⟨ue,un,rfl,rfl⟩;refine⟨.inl cA,?_⟩;refine fM (v:=sl ue (((0+((j).toNat))+1)+(m1-(j).toNat)) un) Z<|wD 14 Z (aW Z)<|wN<|aK<|wm Z<|wA Z Z<|wn Z ?_;exact⟨k+1,ue,((0+((j).toNat))+1)+(m1-(j).toNat),un,((([])++((U).take (j).toNat))++([(q,k)]))++((U).drop (j).toNat),⟨G,G,(by simp only[ah,ax,bn,dn,il];omega),(vc.1),(vc.2)⟩,G,SA,λ_ h=>h.sel [1] cC Z⟩
     ·refine KN 8 Z Z (YT jh MK Z) ?_;rintro _ _⟨g_34,rfl,rfl⟩;refine⟨.inr hrZ,?_⟩;refine wC 4 Z (kE 1 Z jh wU Z Z Z Z (RdC.toP (h:=(j).toNat) (rdr 3 Z) cG) G) ?_;rintro _ _⟨r7,s5,rfl,rfl⟩;refine⟨.inl cA,?_⟩;refine fM (v:=sl r7 (0+((j).toNat)) s5) Z<|wC 9 Z (kE 1 Z jh wU Z Z Z Z (rdr 0 Z) G) ?_;rintro _ _⟨Zx,c_38,rfl,rfl⟩;refine⟨.inl cA,?_⟩;refine fM (v:=sl Zx ((0+((j).toNat))+1) c_38) Z<|wC 13 Z (kE 1 Z jh wU Z Z Z Z (RdC.fromP (rdr 3 Z) cG) G) ?_;rintro _ _⟨Uc,Um,rfl,rfl⟩;refine⟨.inl cA,?_⟩;refine fM (v:=sl Uc (((0+((j).toNat))+1)+(m1-(j).toNat)) Um) Z<|wD 14 Z (aW Z)<|wN<|aK<|wm Z<|wA Z Z<|wn Z ?_;exact⟨k+1,Uc,((0+((j).toNat))+1)+(m1-(j).toNat),Um,((([])++((U).take (j).toNat))++([(q,k)]))++((U).drop (j).toNat),⟨G,G,(by simp only[ah,ax,bn,dn,il];omega),(vc.1),(vc.2)⟩,G,SA,λ_ h=>h.sel [1] cC Z⟩
    ·refine KN 8 Z Z (YT jh MK Z) ?_;rintro _ _⟨g_43,rfl,rfl⟩;refine⟨.inr hrZ,?_⟩;refine wC 0 Z (YS jh MK) ?_;rintro _ _⟨g_45,rfl,rfl⟩;refine⟨.inr hrZ,?_⟩;refine wC 4 Z (kE 0 Z jh wU Z Z Z Z (RdC.toP (h:=(j).toNat) (rdr 3 Z) cG) G) ?_;rintro _ _⟨A_46,c_47,rfl,rfl⟩;refine⟨.inl cA,?_⟩;refine fM (v:=sl A_46 (0+((j).toNat)) c_47) Z<|wC 9 Z (kE 0 Z jh wU Z Z Z Z (rdr 1 Z) G) ?_;rintro _ _⟨A_48,c_49,rfl,rfl⟩;refine⟨.inl cA,?_⟩;refine fM (v:=sl A_48 ((0+((j).toNat))+1) c_49) Z<|wC 13 Z (kE 0 Z jh wU Z Z Z Z (RdC.fromP (rdr 3 Z) cG) G) ?_;rintro _ _⟨Ue,Uo,rfl,rfl⟩;refine⟨.inl cA,?_⟩;refine fM (v:=sl Ue (((0+((j).toNat))+1)+(m1-(j).toNat)) Uo) Z<|wD 14 Z (aW Z)<|wN<|aK<|wm Z<|wA Z Z<|wn Z ?_;exact⟨k+1,Ue,((0+((j).toNat))+1)+(m1-(j).toNat),Uo,((([])++((U).take (j).toNat))++([(q,k)]))++((U).drop (j).toNat),⟨G,G,(by simp only[ah,ax,bn,dn,il];omega),(vc.1),(vc.2)⟩,G,SA,λ_ h=>h.sel [0] cC Z⟩
  ·refine aR<|aK<|wm Z<|wA Z Z<|wn Z ?_;exact⟨q+1,B1,m1,d1,U,⟨G,G,(mu),(by have e:k.toNat=(rdl ws q).length:=G;rw[ND wv,<-e];exact qq),(xf)⟩,G,KP⟩
 ·refine aR<|wq<|wm Z<|wn Z<|aU [0] 99 ?_;refine⟨_,Z,?_⟩;obtain rfl:=cj;exact⟨T,_,_,Z,by have e:q.toNat=ws.length:=G;rw[<-e];exact hp,hs,rfl⟩
end
section
variable {w:World} {an:AF} {ba am:Nat} {u:AH}
theorem MP {s:AH} {k:Int} (h:k=(dS s).length):iQ s (dS s) k=bws s:=by rw[h];rfl
theorem aIy (ac:Rd w an ba am 1 (ints .u8 u)) (al:aO u) (hN:u.length<=100000):
  CF 72 #[sl an ba am] w (λv R'=> ∃(lt:AE) (A:AF) (c:Nat),v= .tuple #[sl A lt.length c,I 0]/\lt.Perm (gG (bws u) (bws u).length)/\lt.Pairwise (jR (bws u))/\R'=[(ru 5 A lt.length c (lt.map (lastB (bws u))))]):=by
 obtain rfl:=ac.lenI;refine fn2 Tryz.func72 Z Z Z ?_;have ia:=ac.max;have th:=FM u;refine wq<|wg Z<|wn Z<|aD<|wq<|wm Z<|wy (aL af Z)<|wy (Yl.f (bW Z Z))<|aA<|aP Z<|aI<|aD ?_;refine aK<|eZ ⟨22,1,none,0,0,[],false⟩<|wn Z<|wq<|wn Z<|aD<|wq<|wm Z<|wa (aC bQb Z (Ct.fresh (λw hw=>aHq ((ac.c _) w hw) G))) ?_;rintro _ _⟨_,rfl,cm,ci,rfl,rfl⟩;refine wy (aL aa Z)<|wm Z<|aA<|aG ?_;refine nT (λ(k:Int) (A1:AF) (n1:Nat) (c1:Nat) (vals:AG) (a:Int)=>[(0,sl an u.length am),(4,sl A1 n1 c1),(5,I a),(16,sl cm ((dS (u)).length) ci),(17,I (((dS (u)).length:Nat):Int)),(18,I k)]) (λk A1 n1 c1 vals a=>[(ri 3 cm ((dS (u)).length) ci (dS (u))),⟨22,1,A1,n1,c1,vals,false⟩]) (λk A1 n1 c1 vals a=>(0<=k)/\(k<=(dS u).length)/\(n1=k.toNat)/\(SlW .u8 w vals (iQ u (dS u) k))/\(a=ps (dS u) k)) (λk A1 n1 c1 vals a=>((dS u).length-k).toNat) ?_ ?_
 ·exact⟨0,none,0,0,[],0,⟨G,G,(Z),(fA _ _),(Z)⟩,KP⟩
 intro k A1 n1 c1 vals a ⟨iu,vd,cj,kb,ha⟩;refine wq<|wL Z Z<|aA<|aD<|aX Z (λar=> ?_) (λar=> ?_)
 ·have Pe:=mP (L:=dS u) iu G;have tk:=bHj u (k+1);have t6:=IJ (sK u) k;have Xh:=sK u _ (bG (L:=dS u) iu G)
  have Sl:SlW .u8 w (vals++[sl (jO an a.toNat am 1) ((a+rd (dS u) k).toNat-a.toNat) (am-a.toNat)]) (iQ u (dS u) (k+1)):=by
   rw[wZ iu,<-ha,show(rd (dS u) k).toNat=(a+rd (dS u) k).toNat-a.toNat by omega];exact kb.snoc (ac.cutI G G) (λx hx=>dV (al x (nu (ll hx)))) (by rw[ax,bn];omega)
  refine aI<|aD<|aG<|wq<|wy (aF aa sz3 Z Z (rdr 0 Z))<|wy (aT au Z Z (rdr 0 Z))<|wn Z<|wq<|wm Z<|wm Z<|wm Z<|wm Z ?_;refine wm Z<|wA Z Z<|wy (aJm af sz5 Z Z Z (ac.c _) G G G)<|wa (iK [Value.slice (jO an (a).toNat am 1) ((a+(rd (dS (u)) k)).toNat-(a).toNat) (am-(a).toNat)] ay mW Z Z Z Z) ?_;rintro _ _⟨tg,rfl,rfl⟩;refine wa (fK 2 Z Z ay wK Z Z Z Z Z (rdr 0 Z) (by simp[Value.oneCell']) (by dsimp only;omega)) ?_;rintro _ _⟨go,jj,rfl,rfl⟩;refine bC (v:=sl go (n1+1) jj) Z<|wn Z<|aK<|wm Z<|wm Z<|wA Z Z<|wn Z<|aK<|wA Z Z<|wm Z<|aA ?_;exact⟨k+1,go,n1+1,jj,vals++([Value.slice (jO an (a).toNat am 1) ((a+(rd (dS (u)) k)).toNat-(a).toNat) (am-(a).toNat)]),a+(rd (dS (u)) k),⟨G,G,G,(Sl),(by rw[Pe,ha])⟩,G,SA,λ_ h=>h.sel [1,2] cC Z⟩
 ·refine aR<|wq<|wa (bF .u8 [] af zs5 Z Z Z) ?_;rintro _ _⟨mv,rfl,rfl⟩;refine wn Z<|aD<|wq<|wm Z<|wa (aC bIk Z (Ct.fresh (λw hw=>ZM ((rdr 2 Z) w hw) (kb.c hw) (by rw[MP (show k=(dS u).length by omega),oJ,aMj];have:=FM u;omega)))) ?_;rintro _ _⟨_,rfl,lt,es,dr,rfl,k8,gd,rfl⟩;refine wy (aL jh Z)<|wm Z<|aA<|aG ?_;refine fE (λ(q:Int) (B1:AF) (m1:Nat) (d1:Nat) (acc:AH)=>[(4,sl A1 n1 c1),(8,sl B1 m1 d1),(37,sl es lt.length dr),(38,I (lt.length:Int)),(39,I q)]) (λq B1 m1 d1 acc=>[⟨177,2,es,lt.length,dr,prs lt,false⟩,(ru 5 B1 m1 d1 acc),(ri 3 cm ((dS (u)).length) ci (dS (u))),⟨22,1,A1,n1,c1,vals,false⟩]) (λq B1 m1 d1 acc=>(0<=q)/\(q<=lt.length)/\(m1=acc.length)/\(acc.length=q.toNat)/\(acc=(lt.take q.toNat).map (lastB (iQ u (dS u) k)))) (λq B1 m1 d1 acc=>(lt.length-q).toNat) ?_ ?_
  ·exact⟨0,GG mv,0,0,[],⟨G,G,(Z),(Z),(Z)⟩,KP⟩
  intro q B1 m1 d1 acc ⟨ij,yi,mu,Vl,bb⟩;have vf:lt.length=u.length:=by rw[MP (show k=(dS u).length by omega)] at k8;exact GC k8
  refine wq<|wL Z Z<|aA<|aD<|aX Z (λbx=> ?_) (λbx=> ?_)
  ·have ht:=tO.1 (k8.subset (kL (l:=lt) ij G));have yy:=ht.2.2;have he0:=jv ((rdp lt q).2+(rdl (iQ u (dS u) k) (rdp lt q).1).length-1) (show((rdl (iQ u (dS u) k) (rdp lt q).1).length:Int)≠0 by omega);have he1:=jf ((rdp lt q).2+(rdl (iQ u (dS u) k) (rdp lt q).1).length-1) (show(0:Int)<(rdl (iQ u (dS u) k) (rdp lt q).1).length by omega);refine aI<|aD<|aG<|wq<|wy (nQ jh kC Z Z (rdr 0 Z) Z)<|wy (aJp jo Z kC Z (rdr 0 Z))<|wa (fJ (sz:=2) aJl Z) ?_;rintro _ _⟨ur,rfl,rfl⟩;refine bZ (dY (vs:=[I ((rdp lt q).1),I ((rdp lt q).2)]) 0 Z kC Z Z Z (by intro v hv;simp at hv;rcases hv with rfl|rfl<;>rfl) Z) ?_;rintro _ _ rfl;refine aA<|wq<|wm Z<|wy (bS (q:=0) (rdr 0 Z) jo sz3 Z Z (ak Z) cC cC Z)<|wy (yL 0 au Z Z Z)<|wy (aF ay cZ Z Z (rdr 4 Z) (by first|exact ht.1|(have:=ht.2.1;rw[vI] at this;omega)) (by first|exact ht.1|(have:=ht.2.1;rw[vI] at this;omega))) ?_;refine kb.elim (i:=(rdp lt q).1) (by first|exact ht.1|exact ht.2.1) (by first|exact ht.1|exact ht.2.1) (λme tc Xv Qk hb_20 mhr_19=> ?_);refine wy (kH af Z Z Z (rdr 4 Z) Xv)<|wn Z<|aK<|wm Z<|wm Z<|wy (bS (q:=1) (rdr 0 Z) jo sz3 Z Z (ak Z) cC cC Z)<|wy (yL 0 au Z Z Z)<|wm Z<|wy (aL af Z)<|wA Z Z<|wS Z Z<|wm Z<|wy (aL af Z)<|wy (tC Z Z) ?_;refine wy (aF af sz5 Z Z (Qk.c _))<|wy (aT az Z Z (Qk.c _))<|wa (bF .u8 [rd (rdl (iQ u (dS u) k) ((rdp lt q).1)) (((((rdp lt q).2)+(((rdl (iQ u (dS u) k) ((rdp lt q).1)).length:Nat):Int))-1)%(((rdl (iQ u (dS u) k) ((rdp lt q).1)).length:Nat):Int))] af zs5 Z Z Z) ?_;rintro _ _⟨Lh,rfl,rfl⟩;refine wa (aQ 3 Z af zb5 Z Z Z (rdr 0 Z)) ?_;rintro _ _⟨sg,sm,rfl,rfl⟩;refine bC (v:=sl sg (m1+1) sm) Z<|wn Z<|aK<|wA Z Z<|wm Z<|aA ?_;exact⟨q+1,sg,m1+1,sm,acc++([rd (rdl (iQ u (dS u) k) ((rdp lt q).1)) (((((rdp lt q).2)+(((rdl (iQ u (dS u) k) ((rdp lt q).1)).length:Nat):Int))-1)%(((rdl (iQ u (dS u) k) ((rdp lt q).1)).length:Nat):Int))]),⟨G,G,(by rw[ah,mu];rfl),(by rw[ah,Vl,ic];omega),(by rw[NI ij G,jc,bb];rfl)⟩,G,SA,λ_ h=>h.sel [2,3,4,5] cC Z⟩
  ·refine aR<|wq<|wm Z<|wg Z<|wn Z<|aU [1] 99 ?_;refine⟨_,_,Z,Z,?_⟩;have e:k=(dS u).length:=G
   rw[MP e] at k8 gd bb;rw[bg G] at bb;subst bb;obtain rfl:m1=lt.length:=by rw[mu,bu]
   exact⟨lt,_,_,Z,k8,gd,Z⟩
theorem UU {bc:AF} {bw bl:Nat} {ao:AG} {ws:AD} (aq:Rd w bc bw bl 1 ao) (bm:SlW .u8 w ao ws) (hN:ws.flatten.length<=400000/\ws.length<=1000000):
  CF 88 #[sl bc bw bl] w (λv R'=> ∃(lt:AE) (A:AF) (c:Nat),v=sl A lt.length c/\lt.Perm (gG ws ws.length)/\lt.Pairwise (jR ws)/\R'=[(ru 5 A lt.length c (lt.map (lastB ws)))]):=by
 obtain rfl:bw=ws.length:=by have:=aq.len;have:=bm.1;omega
 refine fn1 Tryz.func88 Z Z Z ?_;have km:=aq.max;refine wq<|wn Z<|wq<|wm Z<|wa (aC bPu Z (Ct.fresh (λw hw=>aNg ((aq.c _) w hw) (bm.c hw) cE))) ?_;rintro _ _⟨_,rfl,l8,cm,ci,rfl,hp8,hs8,rfl⟩;refine wn Z<|wq<|eZ (ru 5 none 0 0 ([]))<|wn Z<|aD<|wq<|wn Z<|aG ?_;refine fE (λ(q:Int) (B1:AF) (m1:Nat) (d1:Nat) (acc:AH)=>[(0,sl bc ws.length bl),(3,sl cm l8.length ci),(4,sl B1 m1 d1),(5,I q)]) (λq B1 m1 d1 acc=>[(ru 5 B1 m1 d1 acc),⟨177,2,cm,l8.length,ci,prs l8,false⟩]) (λq B1 m1 d1 acc=>(0<=q)/\(q<=l8.length)/\(m1=acc.length)/\(acc.length=q.toNat)/\(acc=(l8.take q.toNat).map (lastB ws))) (λq B1 m1 d1 acc=>(l8.length-q).toNat) ?_ ?_
 ·exact⟨0,none,0,0,[],⟨G,G,(Z),(Z),(Z)⟩,KP⟩
 intro q B1 m1 d1 acc ⟨ij,yi,mu,Vl,bb⟩;have vf:=GI hp8;refine aD<|wq<|wm Z<|wm Z<|wy (aL jh Z)<|wL Z Z<|aA<|aX Z (λar=> ?_) (λar=> ?_)
 ·have ht:=tO.1 (hp8.subset (kL (l:=l8) ij G));have yy:=ht.2.2;have he0:=jv ((rdp l8 q).2+(rdl ws (rdp l8 q).1).length-1) (show((rdl ws (rdp l8 q).1).length:Int)≠0 by omega);have he1:=jf ((rdp l8 q).2+(rdl ws (rdp l8 q).1).length-1) (show(0:Int)<(rdl ws (rdp l8 q).1).length by omega);refine aI<|aD<|aG<|wq<|wm Z<|wm Z<|wm Z<|wy (nQ jh kC Z Z (rdr 1 Z) Z)<|wy (CG (q:=0) jo sz3 Z Z (rdr 1 Z) G G Z cC cC)<|wy (aSu au Z Z (rdr 1 Z))<|wy (aF ay cZ Z Z (aq.c _) (by first|exact ht.1|exact ht.2.1) (by first|exact ht.1|exact ht.2.1)) ?_;refine bm.elim (i:=(rdp l8 q).1) (by first|exact ht.1|exact ht.2.1) (by first|exact ht.1|exact ht.2.1) (λkt lj hv_6 Pg hb_8 mhr_7=> ?_);refine wy (kH af Z Z Z (aq.c _) hv_6)<|wn Z<|aK<|wm Z<|wm Z<|wm Z<|wm Z<|wy (nQ jh kC Z Z (rdr 1 Z) Z)<|wy (CG (q:=1) jo sz3 Z Z (rdr 1 Z) G G Z cC cC)<|wy (aSt au Z Z (rdr 1 Z) G G)<|wm Z<|wy (aL af Z)<|wA Z Z<|wS Z Z ?_;refine wm Z<|wy (aL af Z)<|wy (tC Z Z)<|wy (aF af sz5 Z Z (Pg.c _))<|wy (aT az Z Z (Pg.c _))<|wa (bF .u8 [rd (rdl ws ((rdp l8 q).1)) (((((rdp l8 q).2)+(((rdl ws ((rdp l8 q).1)).length:Nat):Int))-1)%(((rdl ws ((rdp l8 q).1)).length:Nat):Int))] af zs5 Z Z Z) ?_;rintro _ _⟨a6,rfl,rfl⟩;refine wa (aQ 1 Z af zb5 Z Z Z (rdr 0 Z)) ?_;rintro _ _⟨es,dr,rfl,rfl⟩;refine bC (v:=sl es (m1+1) dr) Z<|wn Z<|aK<|wm Z<|wA Z Z<|wn Z ?_;exact⟨q+1,es,m1+1,dr,acc++([rd (rdl ws ((rdp l8 q).1)) (((((rdp l8 q).2)+(((rdl ws ((rdp l8 q).1)).length:Nat):Int))-1)%(((rdl ws ((rdp l8 q).1)).length:Nat):Int))]),⟨G,G,(by rw[ah,mu];rfl),(by rw[ah,Vl,ic];omega),(by rw[NI ij G,jc,bb];rfl)⟩,G,SA,λ_ h=>h.sel [1,2] cC Z⟩
 ·refine aR<|wq<|wm Z<|wn Z<|aU [0] 99 ?_;refine⟨_,Z,?_⟩;rw[bg G] at bb;subst bb;obtain rfl:m1=l8.length:=by rw[mu,bu]
  exact⟨l8,_,_,Z,hp8,hs8,Z⟩
theorem aNk (ac:Rd w an ba am 1 (ints .u8 u)) (al:aO u) (hN:u.length<=100000):
  CF 46 #[sl an ba am] w (λv R'=> ∃(lt:AE) (A:AF) (c:Nat),v=sl A lt.length c/\lt.Perm (gG (bws u) (bws u).length)/\lt.Pairwise (jR (bws u))/\R'=[(ru 5 A lt.length c (lt.map (lastB (bws u))))]):=by
 obtain rfl:=ac.lenI;refine fn1 Tryz.func46 Z Z Z ?_;have ia:=ac.max;have th:=FM u;refine wq<|wn Z<|wq<|wm Z<|wa (aC bRn Z (Ct.fresh (λw hw=>aCj ((ac.c _) w hw) G))) ?_;rintro _ _⟨_,rfl,cm,ci,rfl,rfl⟩;refine wn Z<|wq<|eZ ⟨22,1,none,0,0,[],false⟩<|wn Z<|aD<|wq<|wn Z<|aG ?_;refine vK (λ(k:Int) (A1:AF) (n1:Nat) (c1:Nat) (vals:AG) (A0:AF) (n0:Nat) (c0:Nat)=>[(0,sl A0 n0 c0),(3,sl cm ((dS (u)).length) ci),(4,sl A1 n1 c1),(5,I k)]) (λk A1 n1 c1 vals A0 n0 c0=>[⟨22,1,A1,n1,c1,vals,false⟩,(ri 3 cm ((dS (u)).length) ci (dS (u)))]) (λk A1 n1 c1 vals A0 n0 c0=>(0<=k)/\(k<=(dS u).length)/\(n1=k.toNat)/\(SlW .u8 w vals (iQ u (dS u) k))/\(Rd w A0 n0 c0 1 (ints .u8 (u.drop (ps (dS u) k).toNat)))) (λk A1 n1 c1 vals A0 n0 c0=>((dS u).length-k).toNat) ?_ ?_
 ·exact⟨0,none,0,0,[],an,u.length,am,⟨G,G,(Z),(fA _ _),(ac)⟩,KP⟩
 intro k A1 n1 c1 vals A0 n0 c0 ⟨iu,vd,cj,kb,gg⟩;have Ox:=gg.lenI;have qn:=gg.max;rw[bn] at Ox;refine aD<|wq<|wm Z<|wm Z<|wy (aL aa Z)<|wL Z Z<|aA<|aX Z (λar=> ?_) (λar=> ?_)
 ·have Pe:=mP (L:=dS u) iu G;have tk:=bHj u (k+1);have t6:=IJ (sK u) k;have Xh:=sK u _ (bG (L:=dS u) iu G)
  have Sl:SlW .u8 w (vals++[sl A0 (rd (dS u) k).toNat c0]) (iQ u (dS u) (k+1)):=by
   rw[wZ iu];exact kb.snoc (gg.toI G) (λx hx=>dV (al x (nu (ll hx)))) (by rw[ax,bn];omega)
  refine aI<|aD<|aG<|wq<|wm Z<|wm Z<|wm Z<|wm Z<|wy (aF aa sz3 Z Z (rdr 1 Z))<|wy (aT au Z Z (rdr 1 Z))<|wy (eD af sz5 Z Z (gg.c _))<|wa (iK [Value.slice A0 ((rd (dS (u)) k).toNat) c0] ay mW Z Z Z Z) ?_;rintro _ _⟨tg,rfl,rfl⟩;refine wa (fK 1 Z Z ay wK Z Z Z Z Z (rdr 0 Z) (by simp[Value.oneCell']) (by dsimp only;omega)) ?_;rintro _ _⟨go,jj,rfl,rfl⟩;refine bC (v:=sl go (n1+1) jj) Z<|wn Z<|aK<|wm Z<|wm Z<|wm Z<|wy (aF aa sz3 Z Z (rdr 2 Z))<|wy (aT au Z Z (rdr 2 Z))<|wy (dH af sz5 Z Z)<|wn Z<|aK<|wm Z<|wA Z Z ?_;refine wn Z ?_
  exact⟨k+1,go,n1+1,jj,vals++([Value.slice A0 ((rd (dS (u)) k).toNat) c0]),jO A0 (rd (dS (u)) k).toNat c0 1,n0-(rd (dS (u)) k).toNat,c0-(rd (dS (u)) k).toNat,⟨G,G,G,(Sl),(by
    have h:=gg.fromI (l:=(rd (dS u) k).toNat) G;rw[Ho] at h;rw[Pe,show(ps (dS u) k+rd (dS u) k).toNat=(ps (dS u) k).toNat+(rd (dS u) k).toNat by omega]
    exact h)⟩,G,SA,λ_ h=>h.sel [1,2] cC Z⟩
 ·refine aR<|wq<|wm Z<|wa (aC bMv Z (Ct.fresh (λw hw=>UU ((rdr 0 Z) w hw) (kb.c hw) (by rw[MP (show k=(dS u).length by omega),oJ,aMj];omega)))) ?_;rintro _ _⟨_,rfl,l2,vq,vu,rfl,qt,vl,rfl⟩;refine wn Z<|aU [0] 99 ?_;refine⟨_,Z,?_⟩;have e:k=(dS u).length:=G
  rw[MP e] at qt vl ⊢;exact⟨l2,_,_,Z,qt,vl,Z⟩
end
section
variable {B ie dg:Nat} {w0:World} {R:List Row} {dj:AF}
theorem aEe:
  CT 213 #[sl dj ie dg] B w0 R (λv R'=> ∃g,v= .func (.func 244) #[] #[PG g]/\R'=(rc 249 1 g [sl dj ie dg])::R):=by
 refine fn1 Tryz.func213 Z Z Z ?_;refine wq<|wa (bX (sz:=1) Z Z) ?_;rintro _ _⟨g,rfl,rfl⟩;refine wn Z<|wq<|wy (mX Z Z)<|wn Z<|bK ?_;exact⟨_,Z,g,Z,Z⟩
theorem KL:
  CT 214 #[sl dj ie dg] B w0 R (λv R'=> ∃g,v= .func (.func 245) #[] #[PG g]/\R'=(rc 52 1 g [sl dj ie dg])::R):=by
 refine fn1 Tryz.func214 Z Z Z ?_;refine wq<|wa (bX (sz:=1) Z Z) ?_;rintro _ _⟨g,rfl,rfl⟩;refine wn Z<|wq<|wy (mX Z Z)<|wn Z<|bK ?_;exact⟨_,Z,g,Z,Z⟩
theorem aIz {w:World} {an:AF} {ba am:Nat} {u:AH} (ac:Rd w an ba am 1 (ints .u8 u)) (al:aO u) (hN:u.length<=100000):
  CF 166 #[sl an ba am] w (λv R'=> ∃A c,v= .tuple #[sl A (backL u (dA (fsL u))).length c,I 0]/\R'=[(ru 5 A ((backL u (dA (fsL u))).length) c (backL u (dA (fsL u))))]):=by
 obtain rfl:=ac.lenI;refine fnV Tryz.func166 Z Z ?_;have ia:=ac.max;have Ot:=QC al;have th:=rC u;have kf:=QJ Ot;have hcf:=JE (p:=fsL u);refine dU ?_;refine aK<|wa (bX (sz:=1) Z Z) ?_;rintro _ _⟨ap,rfl,rfl⟩;refine wg Z<|wn Z ?_;refine dU ?_;refine wq<|wy (yL 0 af Z Z Z)<|wy (aL af Z)<|wy (Yl.f (bW Z Z))<|aA<|aP Z<|aI ?_;refine dU ?_;refine aK<|wy (yL 0 af Z Z Z)<|wa (aC bHz Z (Ct.fresh (λw hw=>aKz ((ac.c _) w hw) al G))) ?_;rintro _ _⟨_,rfl,dv,dy,rfl,rfl⟩;refine wa (aC bIa Z (Ct.fresh (λw hw=>VH ((rdr 0 Z) w hw) Ot G))) ?_;rintro _ _⟨_,rfl,go,jj,bp,r8,rfl,nv,rfl⟩;have Fo:=nv.1;refine iU (R1:=(⟨52,1,go,bp.length,jj,bp,false⟩::(ri 3 dv ((fsL u).length) dy (fsL u))::(rc 22 1 ap [sl an u.length am])::r8)) (Sub.refl _) (λ_ h=>Hp.toTail0 (X:=[_]) (Y:=[_,_]) h)<|wm Z<|wX Z Z<|wX Z Z<|wg Z<|wn Z ?_;refine dU ?_;refine aK<|wa (bF .u8 [] af zs5 Z Z Z) ?_;rintro _ _⟨pm,rfl,rfl⟩;refine wa (fJ (sz:=1) bBw Z) ?_;rintro _ _⟨sn,rfl,rfl⟩;refine bZ (bB 0 Z Z Z cZ Z Z Z Z (ak Z)) ?_;rintro _ _ rfl;refine aA ?_;refine JN ?_;refine dU ?_;refine aK<|wm Z<|wa (aC bOc Z (aEe)) ?_;rintro _ _⟨ur,rfl,rfl⟩;refine aA ?_;refine tH ?_;refine aNe Z bNs (bBc (A:=go) (c:=jj) (xs:=bp) (by have:=nv.1;omega)) Z (λ_=>Z) Gd.refl (λ(kr:Nat) (A1:AF) (n1:Nat) (c1:Nat) (acc:AH)=>((rc 249 1 ur [sl go bp.length jj])::(rc 22 1 sn [sl A1 n1 c1])::(ru 5 A1 n1 c1 acc)::⟨52,1,go,bp.length,jj,bp,false⟩::(ri 3 dv ((fsL u).length) dy (fsL u))::(rc 22 1 ap [sl an u.length am])::r8)) (λkr A1 n1 c1 acc=>(n1=acc.length)/\(acc=(((dA (fsL u)).reverse.take kr).map (eB u)).flatten)) ?_ ?_ ?_ ?_
 ·exact⟨GG pm,0,0,[],⟨(Z),(Z)⟩,λ_ h=>h⟩
 ·intro kr A1 n1 c1 acc w ⟨cj,bb⟩ hw;exact⟨(rdr 0 Z) w hw,(rdr 3 Z) w hw⟩
 ·intro lr kr A1 n1 c1 acc Yp Mb ⟨cj,bb⟩ s7;have mw:acc.length<=u.length:=by rw[bb];exact qm aCg G
  obtain⟨fg,fh,Qn,Xb⟩:=nv.at (i:=((bp.length-1-kr:Nat):Int)) G (by have:=nv.1;omega)
  have Vx:bp[bp.length-1-kr]?.getD undef=sl fg (rdl (dA (fsL u)) ((bp.length-1-kr:Nat):Int)).length fh:=by
   rw[dh] at Qn;rw[Qn];rfl
  refine bRd (d:=24) (v:=sl fg (rdl (dA (fsL u)) ((bp.length-1-kr:Nat):Int)).length fh) (bq some Vx) ?_;have sp:rdl (dA (fsL u)) ((bp.length-1-kr:Nat):Int)∈dA (fsL u):=aMb G (by have:=nv.1;omega);have hcl2:(rdl (dA (fsL u)) ((bp.length-1-kr:Nat):Int)).length<=u.length:=by have:=oh (lc sp);omega
  refine aK<|wn Z ?_;intro Qw xt Wf;refine aG<|wq<|wm Z<|wa (aC aZg Z (KL)) ?_;rintro _ _⟨Lh,rfl,rfl⟩;refine aA<|aG ?_;refine aTc Z aZc (BX (A:=fg) (c:=fh) (zs:=rdl (dA (fsL u)) ((bp.length-1-kr:Nat):Int)) G) Z (λ_=>Z) ⟨_,Wf.choose_spec⟩ (λ(kq:Nat) (A2:AF) (n2:Nat) (c2:Nat) (rp:AH)=>((rc 52 1 Lh [sl fg ((rdl (dA (fsL u)) ((bp.length-1-kr:Nat):Int)).length) fh])::(rc 249 1 ur [sl go bp.length jj])::(rc 22 1 sn [sl A2 n2 c2])::(ru 5 A2 n2 c2 rp)::⟨52,1,go,bp.length,jj,bp,false⟩::(ri 3 dv ((fsL u).length) dy (fsL u))::(rc 22 1 ap [sl an u.length am])::r8)) (λkq A2 n2 c2 rp=>(n2=rp.length)/\(rp=acc++((rdl (dA (fsL u)) ((bp.length-1-kr:Nat):Int)).reverse.take kq).map (rd u))) ?_ ?_ ?_ ?_
  ·exact⟨A1,n1,c1,acc,⟨(cj),(by rw[zb];simp)⟩,λ_ h=>h⟩
  ·intro kq A2 n2 c2 rp w ⟨nh,l9⟩ hw;exact⟨(rdr 0 Z) w hw,(λ_ h=>Xb _ _ _ (h.right (R':=[_,_,_,_,_,_,_]))) w hw⟩
  ·intro lr kq A2 n2 c2 rp WW2 hkq ⟨nh,l9⟩ hbW2;have wj:=YD Ot _ sp _ (bG (L:=rdl (dA (fsL u)) ((bp.length-1-kr:Nat):Int)) (k:=(((rdl (dA (fsL u)) ((bp.length-1-kr:Nat):Int)).length-1-kq:Nat):Int)) G G);have Ok:rp.length<=acc.length+(rdl (dA (fsL u)) ((bp.length-1-kr:Nat):Int)).length:=by rw[l9,ah,bu,ax,mo];omega
   refine aK<|wn Z ?_;intro WW23 u7 hlW23;refine aG<|bD mixed<|wD 0 Z (yL 2 af Z Z Z)<|wD 1 Z (yL 6 af Z Z Z)<|wD 2 Z (aJ Z)<|wD 3 Z (aF af sz5 Z Z (ac.cb (xt.trans u7) _))<|wD 4 Z (aT az Z Z (ac.cb (xt.trans u7) _))<|wC 5 Z (bF .u8 [rd u (rd (rdl (dA (fsL u)) ((bp.length-1-kr:Nat):Int)) (((rdl (dA (fsL u)) ((bp.length-1-kr:Nat):Int)).length-1-kq:Nat):Int))] af zs5 Z Z Z) ?_;rintro _ _⟨l7,rfl,rfl⟩;refine⟨.inr hrZ,?_⟩;refine wC 6 Z (aQ 4 Z af zb5 Z Z Z (rdr 0 Z)) ?_;rintro _ _⟨rj,rr,rfl,rfl⟩;refine⟨.inl cA,?_⟩;refine fM (v:=sl rj (n2+1) rr) Z<|qC 7 Z cA (bB 3 Z Z Z cZ Z Z Z Z (ak Z)) ?_;rintro _ _ rfl;refine⟨.inl cA,?_⟩;refine wN ?_;exact⟨rj,n2+1,rr,rp++([rd u (rd (rdl (dA (fsL u)) ((bp.length-1-kr:Nat):Int)) (((rdl (dA (fsL u)) ((bp.length-1-kr:Nat):Int)).length-1-kq:Nat):Int))]),⟨(by rw[ah,nh];rfl),(MN hkq l9)⟩,λ_=>λ_ h=>h.selR (F:=[_,_,_,_,_,_,_,_]) (F':=[_,_,_,_,_,_,_]) [1,2,3,4,5,6,7] cC Z⟩
  intro A2 n2 c2 rp ⟨nh,l9⟩;exact⟨A2,n2,c2,rp,⟨(nh),(aJa nv.1 Mb bb l9)⟩,λ_=>λ_ h=>h.selR (F:=[_,_,_,_,_,_,_]) (F':=[_,_,_,_,_,_]) [1,2,3,4,5,6] cC Z⟩
 intro Qx DW1 A1 n1 c1 acc ⟨cj,bb⟩ Ln xo;have hvl:=nv.1;refine MW ?_;refine ZK ?_;refine v_w ?_;refine wq<|wy (yL 1 af Z Z Z)<|wg Z<|wn Z<|bO (R1:=[(ru 5 A1 n1 c1 acc)]) (λ_ h=>(h.selR (F:=[_,_,_,_,_,_]) (F':=[_]) [2] cC Z).left (X:=[_])) ?_;refine aQm Z xo ⟨_,_,Z,Z,?_⟩;rw[bg (by rw[mo];omega)] at bb;obtain rfl:acc=backL u (dA (fsL u)):=bb;obtain rfl:=cj;exact⟨_,_,Z,Z⟩
end
end Go.Proofs.YtnbfoleohpdhjaaGreat
