/- Own work. -/
import Derived.Tactics
import Derived.Tactics2
import Derived.Defers
import Derived.Laws.Pointers
import Derived.Laws.LoneSync
import Derived.RegionTactic
import Derived.RegionCalls
import Derived.ChangeAlike
import Derived.Lib.MakeNoZero
import Derived.Ground.SlsfProg
import Derived.Shelf.SlSortCmp.NoneTotal
import Derived.Test.YtdbebmmhdefgdaaGreatProg
import Derived.Lib.AppendZeros
import Derived.Maps.AppendAt
import Derived.Test.YtdbebmmhdefgdaaGreatR4
set_option linter.unusedVariables false
set_option linter.unusedSimpArgs false
namespace Go.Proofs.YtdbebmmhdefgdaaGreat
open Go Go.Eng Go.Pure
open Tryz
set_option maxRecDepth 100000
variable {B g n c:Nat} {w0 w:World} {R:List Row} {A:Option Addr} {C:List Int} {dy:Int}
theorem LP (hn:n=C.length) (hs:0<=dy/\dy<C.length):
  Ct Tryz.prog 202 #[PG g,I dy] B w0 ((rc 256 2 g [sl A n c,I (aZ C)])::(ri 3 A n c C)::R) (λv R'=>v=bt/\R'=(rc 256 2 g [sl A n c,I (aZ C)])::(ri 3 A n c C)::R):=by
 subst hn;refine fn1 Tryz.func202 Z Z Z ?_;refine wq<|wn Z<|wq<|wm Z<|wy (GZ Ef Z Z)<|wm Z<|aC Z Z<|wm Z<|aC Z Z<|wy (Yl.t (gZ Z Z) G)<|wy (bB Z Z)<|wm Z ?_;refine aC Z Z<|wm Z<|aC Z Z<|wm Z<|aC Z Z<|wy (aG Z)<|aC Z Z<|wy (aB (off:=0) (m:=0) qi Z eF Z Z Z)<|aC Z Z<|wy (aK (rdr 0 Z) aa Z Z Z)<|aC Z Z<|wy (aQ aa Z)<|aC Z Z<|wy (Yl.t (eG Z Z) G)<|wy (bB Z Z) ?_;refine wn Z<|bS (R1:=((rc 256 2 g [sl A C.length c,I (aZ C)])::(ri 3 A C.length c C)::R)) (λ_ h=>h) ?_;refine⟨_,Z,?_⟩;exact⟨Z,Z⟩
theorem iY:
  Ct Tryz.prog 133 #[PG g] B w0 ((rc 256 2 g [sl A n c,I (aZ C)])::(ri 3 A n c C)::R) (λv R'=>v=I (aZ C)/\R'=(rc 256 2 g [sl A n c,I (aZ C)])::(ri 3 A n c C)::R):=by
 refine fn1 Tryz.func133 Z Z Z ?_;refine wq<|wn Z<|aD<|wq<|wm Z<|wy (dP Ef Z Z)<|aA<|aJ Z<|aL<|wq<|wm Z ?_;refine wy (aG Z)<|wy (aB (off:=1) (m:=1) qi Z sz3 Z Z Z)<|wy (aK (rdr 0 Z) ak Z Z Z)<|wn Z<|bS (R1:=((rc 256 2 g [sl A n c,I (aZ C)])::(ri 3 A n c C)::R)) (λ_ h=>h) ?_;refine⟨_,Z,?_⟩;exact⟨Z,Z⟩
theorem kP (hn:n=C.length) (hs:0<=dy/\dy<C.length) (dg:kY C):
  Ct Tryz.prog 131 #[PG g,I dy] B w0 ((rc 256 2 g [sl A n c,I (aZ C)])::(ri 3 A n c C)::R) (λv R'=>v= .tuple #[I (aZ (C.take dy.toNat)),I (rd C dy),bt]/\R'=(rc 256 2 g [sl A n c,I (aZ C)])::(ri 3 A n c C)::R):=by
 subst hn;refine fn3 Tryz.func131 Z Z Z ?_;refine wq<|wg Z<|wg Z<|wn Z<|aD<|wq<|wm Z<|wm Z<|wa (aF bEp Z ((LP Z G))) ?_;rintro _ _ ⟨rfl,rfl⟩;refine wy (dU Z)<|aA<|aJ Z<|aL<|aD<|wq<|wm Z<|wy (aG Z)<|wy (aB (off:=0) (m:=0) qi Z eF Z Z Z)<|wy (aK (rdr 0 Z) aa Z Z Z)<|wm Z<|wy (dO aa sz3 Z Z (rdr 1 Z))<|wy (aQ aa Z)<|wm Z ?_;refine aA<|aH ?_;refine dR (λ(i:Int) (low:Int)=>[(0,PG g),(1,I dy),(4,I low),(18,sl A ((dy).toNat) c),(19,I (((dy).toNat:Nat):Int)),(20,I i)]) (λi low=>((rc 256 2 g [sl A C.length c,I (aZ C)])::(ri 3 A C.length c C)::R)) (λi low=>(0<=i)/\(i<=dy)/\(low=aZ (C.take i.toNat))) (λi low=>(dy-i).toNat) ?_ ?_
 ·exact⟨0,0,⟨G,G,(Z)⟩,SA,λ_ h=>h⟩
 intro i low ⟨ar,jj,i4⟩;have t7:=rW (i:=i) dg.2.1 ar G;have Og:=dg.2.2;have kx:=dg.1;have n9:=UB (l:=C) (k:=dy) (i:=i) ar;refine wq<|wL Z Z<|aA<|aD<|bF Z (λaq=> ?_) (λaq=> ?_)
 ·have n9:=n9 G;refine aL<|aD<|aH<|wq<|wy (aI aa sz3 Z Z (RdC.toI (h:=(dy).toNat) (rdr 1 Z) cG)) ?_;refine wy (aW ak Z Z (RdC.toI (h:=(dy).toNat) (rdr 1 Z) cG)) ?_;refine wn Z<|aN<|wm Z<|wm Z<|wA Z Z<|wn Z<|aN<|wA Z Z<|wm Z<|aA ?_;exact⟨i+1,low+(rd ((C).take (dy).toNat) i),⟨G,G,(by rw[nH ar G,<-i4,UB ar G])⟩,G,SA,λ_ h=>h⟩
 ·refine aY<|aD<|bP mixed<|wD 0 Z (aM Z)<|wD 1 Z (aM Z)<|wD 2 Z (aG Z)<|wD 3 Z (aB (off:=0) (m:=0) qi Z eF Z Z Z)<|wD 4 Z (aK (rdr 0 Z) aa Z Z Z)<|wD 5 Z (aM Z)<|wD 6 Z (aI aa sz3 Z Z (rdr 1 Z))<|wD 7 Z (aW ak Z Z (rdr 1 Z))<|wD 8 Z (bG Z)<|wD 9 Z (bG Z)<|wD 10 Z (bG Z)<|wN ?_;refine bS (R1:=((rc 256 2 g [sl A C.length c,I (aZ C)])::(ri 3 A C.length c C)::R)) (λ_ h=>h) ?_;refine⟨_,_,_,Z,Z,Z,?_⟩;obtain rfl:i=dy:=G
  rw[<-i4];exact⟨Z,Z⟩
theorem wB:
  Ct Tryz.prog 200 #[I 258] w.heap.size w [] (λv R'=> ∃g A c,v=PG g/\R'=[(rc 256 2 g [sl A 258 c,I 258]),(ri 3 A 258 c uE)]):=by
 refine fn1 Tryz.func200 Z Z Z ?_;refine wq<|wn Z<|aD<|wq<|wm Z<|wy (Yl.f (eG Z Z) cC)<|wm Z<|aC Z Z<|wm Z<|aC Z Z<|wy (Yl.f (dJ Z Z) cC)<|wy (aS Z Z) ?_;refine aA<|aJ Z<|aL<|wq<|wm Z<|wm Z<|wa (dL aa zb3 Z Z) ?_;rintro _ _ ⟨an,rfl,rfl⟩;refine bK (v:=sl (GG an) ((258:Int).toNat) ((258:Int).toNat)) Z<|wy (dZ (v:= .agg #[sl (GG an) ((258:Int).toNat) ((258:Int).toNat),I 258]) Z (λw=>cA))<|wa (bR (sz:=2) rfl rfl) ?_;rintro _ _ ⟨cm,rfl,rfl⟩;refine wn Z<|aD<|wq<|wm Z<|wy (aG Z)<|wy (aB (off:=0) (m:=0) qi Z eF Z Z Z)<|wy (aK (rdr 0 Z) aa Z Z Z)<|wy (aQ aa Z)<|wm Z<|aA<|aH ?_;refine dR (λ(i:Int) (V:List Int)=>[(3,PG cm),(20,I (((258:Int).toNat:Nat):Int)),(21,I i)]) (λi V=>[(rc 256 2 cm [sl (GG an) ((258:Int).toNat) ((258:Int).toNat),I 258]),(ri 3 (GG an) ((258:Int).toNat) ((258:Int).toNat) V)]) (λi V=>(0<=i)/\(i<=258)/\(V.length=258)/\(∀j:Int,0<=j->j<i->rd V j=1)) (λi V=>(258-i).toNat) ?_ ?_
 ·exact⟨0,List.replicate ((258:Int).toNat) (0:Int),⟨G,G,(cz),(λj h1 h2=>G)⟩,SA,λ_ h=>h⟩
 intro i V ⟨ar,jj,lz,hV⟩;refine wq<|wL Z Z<|aA<|aD<|bF Z (λaq=> ?_) (λaq=> ?_)
 ·refine aL<|aD<|aH<|wq<|wm Z<|wn Z<|aN<|wm Z<|wy (aG Z)<|wy (aB (off:=0) (m:=0) qi Z eF Z Z Z)<|wy (aK (rdr 0 Z) aa Z Z Z)<|wm Z<|wy (aI aa sz3 Z Z (rdr 1 Z)) ?_;refine bY (bJ 1 Z sz3 Z Z) ?_;rintro _ _ rfl;refine aA<|aN<|wA Z Z<|wm Z<|aA ?_;exact⟨i+1,upd V i 1,⟨G,G,(by rw[bD];exact lz),(eX (f:=λ_=>1) ar G hV Z)⟩,G,SA,λ_ h=>h⟩
 ·refine aY<|wq<|wm Z<|wn Z<|bS (R1:=[(rc 256 2 cm [sl (GG an) ((258:Int).toNat) ((258:Int).toNat),I 258]),(ri 3 (GG an) ((258:Int).toNat) ((258:Int).toNat) V)]) (λ_ h=>h) ?_;refine⟨_,Z,?_⟩;obtain rfl:V=uE:=bGx lz (λj h1 h2=>hV j h1 G);exact⟨_,_,_,Z,Z⟩
theorem tV:
  Ct Tryz.prog 231 #[I 258] w.heap.size w [] (λv R'=> ∃g A c,v=PG g/\R'=[(rc 277 1 g [sl A 258 c]),(ri 3 A 258 c uE)]):=by
 refine fn1 Tryz.func231 Z Z Z ?_;refine wq<|wn Z<|aD<|wq<|wm Z<|wy (Yl.f (eG Z Z) cC)<|wm Z<|aC Z Z<|wm Z<|aC Z Z<|wy (Yl.f (dJ Z Z) cC)<|wy (aS Z Z) ?_;refine aA<|aJ Z<|aL<|wq<|wy (dZ (v:= .agg #[sl none 0 0]) Z (λw=>cA))<|wa (bR (sz:=1) rfl rfl) ?_;rintro _ _ ⟨an,rfl,rfl⟩;refine dB (R1:=[(ri 3 none 0 0 ([])),(rc 277 1 an [sl none 0 0])]) (Sub.refl _) (λ_ h=>h.nil 3 1)<|wn Z<|aD<|wq<|wn Z<|aH ?_;refine fH (λ(i:Int) (A1:Option Addr) (n1:Nat) (c1:Nat) (acc:List Int)=>[(0,I 258),(3,PG an),(4,I i)]) (λi A1 n1 c1 acc=>[(ri 3 A1 n1 c1 acc),(rc 277 1 an [sl A1 n1 c1])]) (λi A1 n1 c1 acc=>(0<=i)/\(i<=258)/\(n1=acc.length)/\(acc=List.replicate i.toNat 1)) (λi A1 n1 c1 acc=>(258-i).toNat) ?_ ?_
 ·exact⟨0,none,0,0,[],⟨G,G,(Z),(Z)⟩,SA,λ_ h=>h⟩
 intro i A1 n1 c1 acc ⟨ar,jj,co,ba⟩;have tk:=bq List.length ba;rw[cz] at tk;refine aD<|wq<|wm Z<|wm Z<|wL Z Z<|aA<|bF Z (λaq=> ?_) (λaq=> ?_)
 ·refine aL<|aD<|aH<|aN<|wm Z<|wm Z<|wy (aG Z)<|wy (aB (off:=0) (m:=0) ut Z eF Z Z Z)<|wy (aK (rdr 1 Z) aa Z Z Z)<|wa (bL .i64 [1] aa zs3 Z Z Z) ?_;rintro _ _ ⟨ew,rfl,rfl⟩;refine wa (aV 1 Z aa zb3 Z Z Z (rdr 0 Z)) ?_;rintro _ _ ⟨ir,iu,rfl,rfl⟩;refine bK (v:=sl ir (n1+1) iu) Z<|wy (aG Z)<|wy (aB (off:=0) (m:=0) ut Z eF Z Z Z)<|bY (bC 2 Z Z Z eF Z Z Z Z (au Z)) ?_;rintro _ _ rfl;refine aA<|aN<|wm Z<|wA Z Z<|wn Z ?_;exact⟨i+1,ir,(n1+1),iu,acc++([1]),⟨G,G,(by rw[ah,co];rfl),(by rw[ba,show(i+1).toNat=i.toNat+1 by omega,List.replicate_succ'])⟩,G,SA,λ_ h=>h.sel [1,2] cC Z⟩
 ·refine aY<|wq<|wm Z<|wn Z<|aT [1,0] 99 cC Z ?_;refine⟨_,Z,?_⟩;obtain rfl:i=258:=G
  subst ba;obtain rfl:n1=258:=by rw[co,cz];rfl
  exact⟨_,_,_,Z,Z⟩
set_option maxHeartbeats 1000000 in
theorem vZ (hn:n=C.length) (hs:0<=dy/\dy<C.length) (dg:kY C):
  Ct Tryz.prog 205 #[PG g,I dy] B w0 ((rc 256 2 g [sl A n c,I (aZ C)])::(ri 3 A n c C)::R) (λv R'=>v=bt/\R'=(rc 256 2 g [sl A n c,I (aZ (jS C dy))])::(ri 3 A n c (jS C dy))::R):=by
 subst hn;have kx:=dg.1;have t7:=dg.le.part (i:=dy) hs.1 G;have o0:=dg.up (s:=dy) hs.1 G;have Og:=dg.2.2;have yb:=o0.1.1;have Tm:=qY dg.2.1;refine fn1 Tryz.func205 Z Z Z ?_;refine wq<|wn Z<|aD<|wq<|wm Z<|wm Z<|wa (aF bEp Z ((LP Z G))) ?_;rintro _ _ ⟨rfl,rfl⟩;refine wy (dU Z)<|aA<|aJ Z<|aL<|wq<|wm Z<|wy (aG Z)<|wy (aB (off:=0) (m:=0) qi Z eF Z Z Z)<|wy (aK (rdr 0 Z) aa Z Z Z)<|wm Z<|wy (aI aa sz3 Z Z (rdr 1 Z))<|wy (aW ak Z Z (rdr 1 Z))<|wA Z Z<|wy (aI aa sz3 Z Z (rdr 1 Z)) ?_;refine bY (bJ 1 Z sz3 Z Z) ?_;rintro _ _ rfl;refine aA<|wq<|wm Z<|wy (aG Z)<|wy (aB (off:=1) (m:=1) qi Z sz3 Z Z Z)<|wy (aK (rdr 0 Z) ak Z Z Z)<|wA Z Z<|wy (aG Z)<|wy (aB (off:=1) (m:=1) qi Z sz3 Z Z Z)<|bY (bC 0 Z Z Z sz3 Z Z Z Z (au Z)) ?_;rintro _ _ rfl;refine aA<|aD<|wq<|wm Z<|wy (aG Z)<|wy (aB (off:=1) (m:=1) qi Z sz3 Z Z Z)<|wy (aK (rdr 0 Z) ak Z Z Z)<|wy (dJ Z Z)<|aA<|bF Z (λaq=> ?_) (λaq=> ?_)
 ·refine wq<|wm Z<|wy (aG Z)<|wy (aB (off:=1) (m:=1) qi Z sz3 Z Z Z)<|bY (bC 0 Z Z Z sz3 Z Z Z Z (au Z)) ?_;rintro _ _ rfl;refine aA<|wq<|wm Z<|wy (aG Z)<|wy (aB (off:=0) (m:=0) qi Z eF Z Z Z)<|wy (aK (rdr 0 Z) aa Z Z Z)<|wy (aQ aa Z)<|wm Z<|aA<|aH ?_;refine gG (λ(i:Int) (V:List Int) (t:Int)=>[(0,PG g),(38,sl A C.length c),(39,I ((C.length:Nat):Int)),(40,I i)]) (λi V t=>((rc 256 2 g [sl A C.length c,I t])::(ri 3 A C.length c V)::R)) (λi V t=>(0<=i)/\(i<=258)/\(GK (upd C dy (rd C dy+32)) V i t)) (λi V t=>(258-i).toNat) ?_ ?_
  ·exact⟨0,upd C dy ((rd C dy)+32),0,⟨G,G,(LZ yb)⟩,SA,λ_ h=>h⟩
  intro i V t ⟨ar,jj,hI⟩;have Se:=o0.1.part (i:=i) ar;have Oc:=o0.1.half.le.part (i:=i) ar;have lz:=hI.len;have Pu:=hI.sum;refine wq<|wL Z Z<|aA<|aD<|bF Z (λce=> ?_) (λce=> ?_)
  ·have Se:=Se G;have Oc:=Oc G;have Sq:=hI.left i G G;have Ti:=eQ (l:=V) (i:=i) (v:=(rd V i+1)/2) ar G;have hht:0<=t/\t<=65536:=by rw[Pu];exact Oc.1
   refine aL<|aD<|aH<|wq<|wm Z<|wy (aI aa sz3 Z Z (rdr 1 Z))<|wy (aW ak Z Z (rdr 1 Z))<|wg Z<|wn Z<|wq<|wm Z<|wy (aG Z) ?_;refine wy (aB (off:=0) (m:=0) qi Z eF Z Z Z)<|wy (aK (rdr 0 Z) aa Z Z Z)<|wm Z<|wm Z<|wA Z Z<|wy (DR Z Z G G G)<|wy (aI aa sz3 Z Z (rdr 1 Z))<|bY (bJ 1 Z sz3 Z Z) ?_;rintro _ _ rfl;refine aA<|bP mixed<|wD 0 Z (aM Z)<|wD 1 Z (aG Z)<|wD 2 Z (aB (off:=1) (m:=1) qi Z sz3 Z Z Z)<|wD 3 Z (aK (rdr 0 Z) ak Z Z Z)<|wD 4 Z (aM Z)<|wD 5 Z (aG Z)<|wD 6 Z (aB (off:=0) (m:=0) qi Z eF Z Z Z)<|wD 7 Z (aK (rdr 0 Z) aa Z Z Z)<|wD 8 Z (aM Z)<|wD 9 Z (aI aa sz3 Z Z (rdr 1 Z))<|wD 10 Z (aW ak Z Z (rdr 1 Z))<|wD 11 Z (dG Z Z)<|wD 12 Z (aG Z) ?_;refine wD 13 Z (aB (off:=1) (m:=1) qi Z sz3 Z Z Z)<|oW 14 Z cA (bC 0 Z Z Z sz3 Z Z Z Z (au Z)) ?_;rintro _ _ rfl;refine⟨.inl cA,?_⟩;refine wN<|aN<|wA Z Z<|wm Z<|aA ?_;exact⟨i+1,upd V i (((rd V i)+1)/2),(t+rd (upd V i ((rd V i+1)/2)) i),⟨G,G,(hI.step yb ar G)⟩,G,SA,λ_ h=>h⟩
  ·refine aY<|wq<|wn Z<|bS (R1:=((rc 256 2 g [sl A C.length c,I t])::(ri 3 A C.length c V)::R)) (λ_ h=>h) ?_;refine⟨_,Z,?_⟩;obtain rfl:i=258:=G
   obtain⟨e1,e2⟩:=hI.done_all yb;have e3:jS C dy=V:=by unfold jS;rw[df G,e1]
   rw[e3,e1,<-e2];exact⟨Z,Z⟩
 ·refine aL<|wq<|wn Z<|bS (R1:=((rc 256 2 g [sl A C.length c,I ((aZ C)+32)])::(ri 3 A C.length c (upd C dy ((rd C dy)+32)))::R)) (λ_ h=>h) ?_;refine⟨_,Z,?_⟩;have e3:jS C dy=(upd C dy (rd C dy+32)):=by unfold jS;rw[bu G]
  rw[e3,o0.2];exact⟨Z,Z⟩
theorem mP (hn:n=C.length) (Vb:NY C):
  Ct Tryz.prog 168 #[PG g] B w0 ((rc 277 1 g [sl A n c])::(ri 3 A n c C)::R) (λv R'=>v=I (aZ C)/\R'=(rc 277 1 g [sl A n c])::(ri 3 A n c C)::R):=by
 subst hn;refine fn1 Tryz.func168 Z Z Z ?_;refine wq<|wn Z<|wq<|wn Z<|aD<|wq<|wn Z<|aH ?_;refine dR (λ(i:Int) (t:Int)=>[(0,PG g),(3,I t),(4,I i)]) (λi t=>((rc 277 1 g [sl A C.length c])::(ri 3 A C.length c C)::R)) (λi t=>(0<=i)/\(i<=C.length)/\(t=aZ (C.take i.toNat))) (λi t=>(C.length-i).toNat) ?_ ?_
 ·exact⟨0,0,⟨G,G,(Z)⟩,SA,λ_ h=>h⟩
 intro i t ⟨ar,jj,ht⟩;have kx:=Vb.1;have t7:=Vb.part (i:=i) ar;refine aD<|wq<|wm Z<|wm Z<|wy (aG Z)<|wy (aB (off:=0) (m:=0) ut Z eF Z Z Z)<|wy (aK (rdr 0 Z) aa Z Z Z)<|wy (aQ aa Z)<|wL Z Z<|aA<|bF Z (λaq=> ?_) (λaq=> ?_)
 ·have t7:=t7 G;refine aL<|aD<|aH<|aN<|wm Z<|wm Z<|wy (aG Z)<|wy (aB (off:=0) (m:=0) ut Z eF Z Z Z)<|wy (aK (rdr 0 Z) aa Z Z Z)<|wm Z<|wy (aI aa sz3 Z Z (rdr 1 Z))<|wy (aW ak Z Z (rdr 1 Z))<|wA Z Z<|wn Z ?_;refine aN<|wm Z<|wA Z Z<|wn Z ?_;exact⟨i+1,t+(rd C i),⟨G,G,(by rw[nH ar G,<-ht])⟩,G,SA,λ_ h=>h⟩
 ·refine aY<|wq<|wm Z<|wn Z<|bS (R1:=((rc 277 1 g [sl A C.length c])::(ri 3 A C.length c C)::R)) (λ_ h=>h) ?_;refine⟨_,Z,?_⟩;rw[bn G] at ht;subst ht;exact⟨Z,Z⟩
theorem rH (hn:n=C.length) (hs:0<=dy/\dy<C.length) (dg:kY C):
  Ct Tryz.prog 170 #[PG g,I dy] B w0 ((rc 277 1 g [sl A n c])::(ri 3 A n c C)::R) (λv R'=>v= .tuple #[I (aZ (C.take dy.toNat)),I (rd C dy),bt]/\R'=(rc 277 1 g [sl A n c])::(ri 3 A n c C)::R):=by
 subst hn;refine fn3 Tryz.func170 Z Z Z ?_;refine wq<|wg Z<|wg Z<|wn Z<|aD<|wq<|wm Z<|wy (Yl.f (eG Z Z))<|wm Z<|aC Z Z<|wm Z<|aC Z Z ?_;refine wm Z<|aC Z Z<|wy (aG Z)<|aC Z Z<|wy (aB (off:=0) (m:=0) ut Z eF Z Z Z)<|aC Z Z<|wy (aK (rdr 0 Z) aa Z Z Z)<|aC Z Z<|wy (aQ aa Z)<|aC Z Z<|wy (Yl.f (gZ Z Z))<|wy (aS Z Z)<|aA<|aJ Z<|aL ?_;refine wq<|wn Z<|aD<|wq<|wn Z<|aH ?_;refine dR (λ(i:Int) (low:Int)=>[(0,PG g),(1,I dy),(7,I low),(8,I i)]) (λi low=>((rc 277 1 g [sl A C.length c])::(ri 3 A C.length c C)::R)) (λi low=>(0<=i)/\(i<=dy)/\(low=aZ (C.take i.toNat))) (λi low=>(dy-i).toNat) ?_ ?_
 ·exact⟨0,0,⟨G,G,(Z)⟩,SA,λ_ h=>h⟩
 intro i low ⟨ar,jj,i4⟩;have kx:=dg.1;have t7:=dg.le.part (i:=i) ar G;refine aD<|wq<|wm Z<|wm Z<|wL Z Z<|aA<|bF Z (λaq=> ?_) (λaq=> ?_)
 ·refine aL<|aD<|aH<|aN<|wm Z<|wm Z<|wy (aG Z)<|wy (aB (off:=0) (m:=0) ut Z eF Z Z Z)<|wy (aK (rdr 0 Z) aa Z Z Z)<|wm Z<|wy (aI aa sz3 Z Z (rdr 1 Z))<|wy (aW ak Z Z (rdr 1 Z))<|wA Z Z<|wn Z ?_;refine aN<|wm Z<|wA Z Z<|wn Z ?_;exact⟨i+1,low+(rd C i),⟨G,G,(by rw[nH ar G,<-i4])⟩,G,SA,λ_ h=>h⟩
 ·refine aY<|aD<|bP mixed<|wD 0 Z (aM Z)<|wD 1 Z (aM Z)<|wD 2 Z (aG Z)<|wD 3 Z (aB (off:=0) (m:=0) ut Z eF Z Z Z)<|wD 4 Z (aK (rdr 0 Z) aa Z Z Z)<|wD 5 Z (aM Z)<|wD 6 Z (aI aa sz3 Z Z (rdr 1 Z))<|wD 7 Z (aW ak Z Z (rdr 1 Z))<|wD 8 Z (bG Z)<|wD 9 Z (bG Z)<|wD 10 Z (bG Z)<|wN ?_;refine bS (R1:=((rc 277 1 g [sl A C.length c])::(ri 3 A C.length c C)::R)) (λ_ h=>h) ?_;refine⟨_,_,_,Z,Z,Z,?_⟩;obtain rfl:i=dy:=G
  rw[<-i4];exact⟨Z,Z⟩
set_option maxHeartbeats 1000000 in
theorem tT (hn:n=C.length) (hs:0<=dy/\dy<C.length) (dg:kY C):
  Ct Tryz.prog 172 #[PG g,I dy] B w0 ((rc 277 1 g [sl A n c])::(ri 3 A n c C)::R) (λv R'=>v=bt/\R'=(rc 277 1 g [sl A n c])::(ri 3 A n c (jS C dy))::R):=by
 subst hn;have kx:=dg.1;have t7:=dg.le.part (i:=dy) hs.1 G;have o0:=dg.up (s:=dy) hs.1 G;have Og:=dg.2.2;have yb:=o0.1.1;have Tm:=qY dg.2.1;refine fn1 Tryz.func172 Z Z Z ?_;refine wq<|wn Z<|aD<|wq<|wm Z<|wy (Yl.f (eG Z Z))<|wm Z<|aC Z Z<|wm Z<|aC Z Z<|wm Z<|aC Z Z ?_;refine wy (aG Z)<|aC Z Z<|wy (aB (off:=0) (m:=0) ut Z eF Z Z Z)<|aC Z Z<|wy (aK (rdr 0 Z) aa Z Z Z)<|aC Z Z<|wy (aQ aa Z)<|aC Z Z<|wy (Yl.f (gZ Z Z))<|wy (aS Z Z)<|aA<|aJ Z<|aL<|aD<|bP mixed ?_;refine wD 0 Z (aM Z)<|wD 1 Z (aG Z)<|wD 2 Z (aB (off:=0) (m:=0) ut Z eF Z Z Z)<|wD 3 Z (aK (rdr 0 Z) aa Z Z Z)<|wD 4 Z (aM Z)<|wD 5 Z (aM Z)<|wD 6 Z (aG Z)<|wD 7 Z (aB (off:=0) (m:=0) ut Z eF Z Z Z)<|wD 8 Z (aK (rdr 0 Z) aa Z Z Z)<|wD 9 Z (aM Z)<|wD 10 Z (aI aa sz3 Z Z (rdr 1 Z))<|wD 11 Z (aW ak Z Z (rdr 1 Z))<|wD 12 Z (dG Z Z)<|wD 13 Z (aI aa sz3 Z Z (rdr 1 Z))<|oW 14 Z cA (bJ 1 Z sz3 Z Z) ?_;rintro _ _ rfl;refine⟨.inl cA,?_⟩;refine wN<|aD<|wq<|wm Z<|wa (aF aJn Z ((mP (by rw[yb,kx]) o0.1))) ?_;rintro _ _ ⟨rfl,rfl⟩;refine wy (dJ Z Z)<|aA<|bF Z (λaq=> ?_) (λaq=> ?_)
 ·refine wq<|wn Z<|aH ?_;refine gG (λ(i:Int) (V:List Int) (t:Int)=>[(0,PG g),(5,I i)]) (λi V t=>((rc 277 1 g [sl A C.length c])::(ri 3 A C.length c V)::R)) (λi V t=>(0<=i)/\(i<=258)/\(GK (upd C dy (rd C dy+32)) V i t)) (λi V t=>(258-i).toNat) ?_ ?_
  ·exact⟨0,upd C dy ((rd C dy)+32),0,⟨G,G,(LZ yb)⟩,SA,λ_ h=>h⟩
  intro i V t ⟨ar,jj,hI⟩;have Se:=o0.1.part (i:=i) ar;have Oc:=o0.1.half.le.part (i:=i) ar;have lz:=hI.len;have Pu:=hI.sum;refine aD<|wq<|wm Z<|wm Z<|wy (aG Z)<|wy (aB (off:=0) (m:=0) ut Z eF Z Z Z)<|wy (aK (rdr 0 Z) aa Z Z Z)<|wy (aQ aa Z)<|wL Z Z<|aA<|bF Z (λce=> ?_) (λce=> ?_)
  ·have Se:=Se G;have Oc:=Oc G;have Sq:=hI.left i G G;have Ti:=eQ (l:=V) (i:=i) (v:=(rd V i+1)/2) ar G;have hht:0<=t/\t<=65536:=by rw[Pu];exact Oc.1
   refine aL<|aD<|aH<|bP mixed<|wD 0 Z (aM Z)<|wD 1 Z (aG Z)<|wD 2 Z (aB (off:=0) (m:=0) ut Z eF Z Z Z)<|wD 3 Z (aK (rdr 0 Z) aa Z Z Z)<|wD 4 Z (aM Z)<|wD 5 Z (aM Z)<|wD 6 Z (aG Z)<|wD 7 Z (aB (off:=0) (m:=0) ut Z eF Z Z Z)<|wD 8 Z (aK (rdr 0 Z) aa Z Z Z)<|wD 9 Z (aM Z)<|wD 10 Z (aI aa sz3 Z Z (rdr 1 Z)) ?_;refine wD 11 Z (aW ak Z Z (rdr 1 Z))<|wD 12 Z (dG Z Z)<|wD 13 Z (DR Z Z G G G)<|wD 14 Z (aI aa sz3 Z Z (rdr 1 Z))<|oW 15 Z cA (bJ 1 Z sz3 Z Z) ?_;rintro _ _ rfl;refine⟨.inl cA,?_⟩;refine wN<|aN<|wm Z<|wA Z Z<|wn Z ?_;exact⟨i+1,upd V i (((rd V i)+1)/2),(t+rd (upd V i ((rd V i+1)/2)) i),⟨G,G,(hI.step yb ar G)⟩,G,SA,λ_ h=>h⟩
  ·refine aY<|wq<|wn Z<|bS (R1:=((rc 277 1 g [sl A C.length c])::(ri 3 A C.length c V)::R)) (λ_ h=>h) ?_;refine⟨_,Z,?_⟩;obtain rfl:i=258:=G
   obtain⟨e1,e2⟩:=hI.done_all yb;have e3:jS C dy=V:=by unfold jS;rw[df G,e1]
   rw[e3,e1];exact⟨Z,Z⟩
 ·refine aL<|wq<|wn Z<|bS (R1:=((rc 277 1 g [sl A C.length c])::(ri 3 A C.length c (upd C dy ((rd C dy)+32)))::R)) (λ_ h=>h) ?_;refine⟨_,Z,?_⟩;have e3:jS C dy=(upd C dy (rd C dy+32)):=by unfold jS;rw[bu G]
  rw[e3];exact⟨Z,Z⟩
variable {w w0:World} {low size total r:Int} {B g n c:Nat} {R:List Row} {A:Option Addr} {b:List Int}
theorem GA (ya:rU low size total):
  Ct Tryz.prog 203 #[I low,I size,I total] w.heap.size w [] (λv R'=>v=bt):=by
 refine fn1 Tryz.func203 Z Z Z ?_;obtain⟨s1,s2,s3,s4⟩:=ya;refine wq<|wn Z<|wq<|wm Z<|wy (Yl.t (qU Z Z) G)<|wm Z<|aC Z Z<|wm Z<|aC Z Z<|wy (Yl.t (gZ Z Z) G)<|wy (bB Z Z)<|wm Z ?_;refine aC Z Z<|wm Z<|aC Z Z<|wy (Yl.t (gZ Z Z) G)<|wy (bB Z Z)<|wm Z<|aC Z Z<|wm Z<|aC Z Z<|wm Z<|aC Z Z<|wy (Yl.t (qU Z Z) G)<|wy (bB Z Z)<|wm Z<|aC Z Z ?_;refine wm Z<|aC Z Z<|wm Z<|aC Z Z<|wm Z<|aC Z Z<|wS Z Z<|aC Z Z<|wy (Yl.t (qU Z Z) G)<|wy (bB Z Z)<|wn Z<|bW ?_;refine⟨_,Z,?_⟩;rfl
theorem aLs (ya:rU low size total):
  Ct Tryz.prog 233 #[I low,I size,I total] w.heap.size w [] (λv R'=>v=bt):=by
 refine fn1 Tryz.func233 Z Z Z ?_;obtain⟨s1,s2,s3,s4⟩:=ya;refine wq<|wn Z<|wq<|wm Z<|wy (Yl.t (qU Z Z) G)<|wm Z<|aC Z Z<|wm Z<|aC Z Z<|wy (Yl.t (gZ Z Z) G)<|wy (bB Z Z)<|wm Z ?_;refine aC Z Z<|wm Z<|aC Z Z<|wy (Yl.t (gZ Z Z) G)<|wy (bB Z Z)<|wm Z<|aC Z Z<|wm Z<|aC Z Z<|wm Z<|aC Z Z<|wy (Yl.t (qU Z Z) G)<|wy (bB Z Z)<|wm Z<|aC Z Z ?_;refine wm Z<|aC Z Z<|wm Z<|aC Z Z<|wm Z<|aC Z Z<|wS Z Z<|aC Z Z<|wy (Yl.t (qU Z Z) G)<|wy (bB Z Z)<|wn Z<|bW ?_;refine⟨_,Z,?_⟩;rfl
theorem LJ:
  Ct Tryz.prog 128 #[] w.heap.size w [] (λv R'=> ∃g A c,v=PG g/\R'=[(rc 253 3 g [sl A cd0.k c, .int .u64 (cd0.N%4294967296), .int .u64 cd0.R]),(ru 5 A cd0.k c (beL cd0.k (cd0.N/4294967296)))]):=by
 refine fn1 Tryz.func128 Z Z Z ?_;refine wq<|wn Z<|wq<|wy (dZ (v:= .agg #[sl none 0 0, .int .u64 0, .int .u64 4294967295]) Z (λw=>cA))<|wa (bR (sz:=3) rfl rfl) ?_;rintro _ _ ⟨an,rfl,rfl⟩;refine dB (R1:=[(ru 5 none 0 0 ([])),(rc 253 3 an [sl none 0 0, .int .u64 0, .int .u64 4294967295])]) (Sub.refl _) (λ_ h=>h.nil 5 1)<|wn Z<|aT [1,0] 99 cC Z ?_;refine⟨_,Z,?_⟩;exact⟨_,_,_,Z,Z⟩
theorem VL {x:Int} (hn:n=b.length) (hb:aR b) (hL:b.length<=1000000):
  Ct Tryz.prog 204 #[PG g] B w0 ((rc 253 3 g [sl A n c, .int .u64 x, .int .u64 r])::(ru 5 A n c b)::R) (λv R'=>v= .tuple #[]/\R'=(rc 253 3 g [sl A n c, .int .u64 x, .int .u64 r])::(ru 5 A n c (DF b 1))::R):=by
 subst hn;refine fn0 Tryz.func204 Z Z Z ?_;refine wq<|wm Z<|wy (aG Z)<|wy (aB (off:=0) (m:=0) jr Z dA Z Z Z)<|wy (aK (rdr 0 Z) af Z Z Z)<|wy (aQ af Z)<|wS Z Z<|wn Z<|aH ?_;refine dR (λ(i:Int) (V:List Int)=>[(0,PG g),(2,I i)]) (λi V=>((rc 253 3 g [sl A b.length c, .int .u64 x, .int .u64 r])::(ru 5 A b.length c V)::R)) (λi V=>(-1<=i)/\(i<b.length)/\(aCr b 1 V i 1)) (λi V=>(i+1).toNat) ?_ ?_
 ·exact⟨((b.length:Nat):Int)-1,b,⟨G,G,(SL hb Z)⟩,SA,λ_ h=>h⟩
 intro i V ⟨ar,jj,hI⟩;have lz:=hI.1;have hVb:=hI.2.1.rd i;have Ti:=eQ (l:=V) (i:=i) (v:=(rd V i+1)%256);refine aD<|wq<|wm Z<|wy (gZ Z Z)<|aA<|bF Z (λaq=> ?_) (λaq=> ?_)
 ·have Ti:=Ti G G;refine aL<|aD<|aH<|wq<|wm Z<|wy (aG Z)<|wy (aB (off:=0) (m:=0) jr Z dA Z Z Z)<|wy (aK (rdr 0 Z) af Z Z Z)<|wm Z<|wy (aI af sz5 Z Z (rdr 1 Z))<|wy (aW bg Z Z (rdr 1 Z))<|wy (bFo Z Z)<|wy (aI af sz5 Z Z (rdr 1 Z))<|bY (bJ 1 Z sz5 Z Z) ?_;rintro _ _ rfl;refine aA<|wq<|wm Z<|wy (aG Z)<|wy (aB (off:=0) (m:=0) jr Z dA Z Z Z)<|wy (aK (rdr 0 Z) af Z Z Z)<|wm Z<|wy (aI af sz5 Z Z (rdr 1 Z))<|wy (aW bg Z Z (rdr 1 Z))<|wy (gU Z Z)<|aA<|bF Z (λce=> ?_) (λce=> ?_)
  ·refine bS (R1:=((rc 253 3 g [sl A b.length c, .int .u64 x, .int .u64 r])::(ru 5 A b.length c (upd V i (((rd V i)+1)%256)))::R)) (λ_ h=>h) ?_
   skip
   have e:upd V i ((rd V i+1)%256)=DF b 1:=(hI.step (y:=0) (d:=(rd V i+1)%256) G G G G).stop (.inl rfl);rw[e];exact⟨Z,Z⟩
  ·refine aL<|aN<|wm Z<|wS Z Z<|wn Z ?_;exact⟨i-1,upd V i (((rd V i)+1)%256),⟨G,G,(hI.step G G G G)⟩,G,SA,λ_ h=>h⟩
 ·refine aY ?_
  skip
  obtain rfl:=hI.stop (.inr G);exact⟨Z,Z⟩
set_option maxHeartbeats 1000000 in
theorem KR {s:CdS} (hn:n=s.k) (hc:WC s) (ya:rU low size total) (hk:s.k<=1000000):
  Ct Tryz.prog 132 #[PG g,I low,I size,I total] B w0 ((rc 253 3 g [sl A n c, .int .u64 (s.N%4294967296), .int .u64 s.R])::(ru 5 A n c (beL s.k (s.N/4294967296)))::R) (λv R'=> ∃(A1:Option Addr) (c1:Nat),v=bt/\R'=(rc 253 3 g [sl A1 ((eY s low size total).k) c1, .int .u64 ((eY s low size total).N%4294967296), .int .u64 ((eY s low size total).R)])::(ru 5 A1 ((eY s low size total).k) c1 (beL (eY s low size total).k ((eY s low size total).N/4294967296)))::R):=by
 subst hn;obtain⟨r0,r1,n0,nr⟩:=hc;have Ge:=ya;obtain⟨s1,s2,s3,s4⟩:=Ge;obtain⟨f1,f2,f3,f4,f5⟩:=nI ya ⟨r0,r1⟩;refine fn1 Tryz.func132 Z Z Z ?_;refine wq<|wn Z<|aD<|wq<|wm Z<|wy (dP underlying181 Z Z)<|wm Z<|aC Z Z<|wm Z<|aC Z Z<|wm Z<|aC Z Z ?_;refine wm Z<|aC Z Z<|wa (aF bEo Z (Ct.quiet (λw hw=>GA ya))) ?_;rintro _ _ ⟨rfl,rfl⟩;refine aC Z Z<|wy (dU Z)<|wy (aS Z Z)<|aA<|aJ Z<|aL<|wq<|wm Z<|wy (aG Z)<|wy (aB (off:=2) (m:=2) jr Z dS Z Z Z)<|wy (aK (rdr 0 Z) dx Z Z Z)<|wm Z<|wy (gI ak dx Z)<|wy (DN Z Z G G) ?_;refine wn Z<|wq<|wm Z<|wy (aG Z)<|wy (aB (off:=1) (m:=1) jr Z dS Z Z Z)<|wy (aK (rdr 0 Z) dx Z Z Z)<|wm Z<|wm Z<|wy (gI ak dx Z)<|wy (sZ Z Z G)<|wy (aQf Z Z G)<|wy (aG Z)<|wy (aB (off:=1) (m:=1) jr Z dS Z Z Z) ?_;refine bY (bC 0 Z Z Z dS Z Z Z Z (au Z)) ?_;rintro _ _ rfl;refine aA<|aD<|wq<|wm Z<|wy (aG Z)<|wy (aB (off:=1) (m:=1) jr Z dS Z Z Z)<|wy (aK (rdr 0 Z) dx Z Z Z)<|wy (oD (k:=32) (m:=4294967296) Z Z Z G Z)<|wy (dJ Z Z)<|aA<|bF Z (λaq=> ?_) (λaq=> ?_)
 ·refine wq<|wm Z<|wy (aG Z)<|wy (aB (off:=1) (m:=1) jr Z dS Z Z Z)<|wy (aK (rdr 0 Z) dx Z Z Z)<|wy (HV (m:=4294967296) 32 Z Z Z Z G Z)<|wy (aG Z)<|wy (aB (off:=1) (m:=1) jr Z dS Z Z Z)<|bY (bC 0 Z Z Z dS Z Z Z Z (au Z)) ?_;rintro _ _ rfl;refine aA<|aN<|wm Z<|wa (aF bMc Z ((VL (by rw[jR]) (xX _ _) (by rw[jR];omega)))) ?_;rintro _ _ ⟨rfl,rfl⟩;refine aA<|aD<|wq<|wm Z<|wm Z<|wm Z<|wy (gI ak dx Z)<|wy (sZ Z Z G)<|wy (aG Z)<|wy (aB (off:=2) (m:=2) jr Z dS Z Z Z)<|bY (bC 0 Z Z Z dS Z Z Z Z (au Z)) ?_;rintro _ _ rfl;refine aA<|aH ?_;refine tK (λ(j:Nat) (A1:Option Addr) (n1:Nat) (c1:Nat) (V:List Int) (x:Int) (r:Int) (M:Int)=>[(0,PG g)]) (λj A1 n1 c1 V x r M=>((rc 253 3 g [sl A1 n1 c1, .int .u64 x, .int .u64 r])::(ru 5 A1 n1 c1 V)::R)) (λj A1 n1 c1 V x r M=>(M=(s.N+s.R/total*low)*256^j)/\(r=(s.R/total*size)*256^j)/\(j<=shN (s.R/total*size))/\(V=beL (s.k+j) (M/4294967296))/\(x=M%4294967296)/\(n1=s.k+j)) (λj A1 n1 c1 V x r M=>(4-j)) ?_ ?_
  ·exact⟨0,A,s.k,c,DF (beL s.k (s.N/4294967296)) 1,((s.N%4294967296)+((s.R/total)*low))%4294967296,(s.R/total)*size,(s.N+s.R/total*low),⟨(by rw[uy,zt]),(by rw[uy,zt]),(uf _),(by first|(rw[JA,qm,show(s.N+s.R/total*low)/4294967296=s.N/4294967296+1 by omega])|(rw[qm,show(s.N+s.R/total*low)/4294967296=s.N/4294967296 by omega])),G,(Z)⟩,SA,λ_ h=>h⟩
  intro j A1 n1 c1 V x r M ⟨hM,hr,hj,hV,hx,co⟩;have ue:=EA (s.R/total*size);have Th:1<=r:=by rw[hr];exact BD G
  refine aD<|wq<|wm Z<|wy (aG Z)<|wy (aB (off:=2) (m:=2) jr Z dS Z Z Z)<|wy (aK (rdr 0 Z) dx Z Z Z)<|wL Z Z<|aA<|bF Z (λce=> ?_) (λce=> ?_)
  ·refine aL<|aD<|aH<|aD<|bP mixed<|wD 0 Z (aM Z)<|wD 1 Z (aM Z)<|wD 2 Z (aG Z)<|wD 3 Z (aB (off:=0) (m:=0) jr Z dA Z Z Z)<|wD 4 Z (aK (rdr 0 Z) af Z Z Z)<|wD 5 Z (aM Z)<|wD 6 Z (aG Z)<|wD 7 Z (aB (off:=1) (m:=1) jr Z dS Z Z Z)<|wD 8 Z (aK (rdr 0 Z) dx Z Z Z)<|wD 9 Z (oD (k:=24) (m:=16777216) Z Z Z G Z) ?_;refine wD 10 Z (eP dx bg Z)<|wC 11 Z (bL .u8 [(x/16777216)%256] af zs5 Z Z Z) ?_;rintro _ _ ⟨cm,rfl,rfl⟩;refine⟨.inr λ_ h=>h.right (R':=[_]),?_⟩;refine wC 12 Z (aV 2 Z af zb5 Z Z Z (rdr 0 Z)) ?_;rintro _ _ ⟨ff,fh,rfl,rfl⟩;refine⟨.inl cA,?_⟩;refine iJ (v:=sl ff (n1+1) fh) Z<|wD 13 Z (aG Z)<|wD 14 Z (aB (off:=0) (m:=0) jr Z dA Z Z Z)<|oW 15 Z cA (bC 1 Z Z Z dA Z Z Z Z (au Z)) ?_;rintro _ _ rfl;refine⟨.inl cA,?_⟩;refine wN<|aN<|wm Z<|wm Z<|wy (aG Z)<|wy (aB (off:=1) (m:=1) jr Z dS Z Z Z)<|wy (aK (rdr 1 Z) dx Z Z Z)<|wy (uT (k:=8) (m:=256) Z Z Z G Z)<|wy (HV (m:=4294967296) 32 Z Z Z Z G Z)<|wy (aG Z)<|wy (aB (off:=1) (m:=1) jr Z dS Z Z Z)<|bY (bC 1 Z Z Z dS Z Z Z Z (au Z)) ?_;rintro _ _ rfl;refine aA<|aN<|wm Z<|wy (aG Z)<|wy (aB (off:=2) (m:=2) jr Z dS Z Z Z)<|wy (aK (rdr 1 Z) dx Z Z Z)<|wy (uT (k:=8) (m:=256) Z Z Z G Z)<|wy (aG Z)<|wy (aB (off:=2) (m:=2) jr Z dS Z Z Z)<|bY (bC 1 Z Z Z dS Z Z Z Z (au Z)) ?_;rintro _ _ rfl;refine aA ?_;exact⟨(j+1),ff,n1+1,fh,V++([(x/16777216)%256]),(x*256)%4294967296,r*256,(M*256),⟨(by rw[hM,rz,<-vo]),(by rw[hr,rz,<-vo]),(AJ G hj (by rw[<-hr];assumption)),(by rw[hV,hx];exact(aCf _ _).symm),G,(by rw[co];rfl)⟩,G,SA,λ_ h=>h.selR (F:=[_,_,_]) (F':=[_,_]) [1,2] cC Z⟩
  ·refine aY<|wq<|wn Z<|bS (R1:=((rc 253 3 g [sl A1 n1 c1, .int .u64 x, .int .u64 r])::(ru 5 A1 n1 c1 V)::R)) (λ_ h=>h) ?_;refine⟨_,Z,?_⟩;obtain rfl:j=shN (s.R/total*size):=IJ G hj (by rw[<-hr];omega);refine⟨A1,c1,Z,?_⟩;rw[hV,hx,hr,hM,co];rfl
 ·refine aL<|aD<|wq<|wm Z<|wm Z<|wm Z<|wy (gI ak dx Z)<|wy (sZ Z Z G)<|wy (aG Z)<|wy (aB (off:=2) (m:=2) jr Z dS Z Z Z)<|bY (bC 0 Z Z Z dS Z Z Z Z (au Z)) ?_;rintro _ _ rfl;refine aA<|aH ?_;refine tK (λ(j:Nat) (A1:Option Addr) (n1:Nat) (c1:Nat) (V:List Int) (x:Int) (r:Int) (M:Int)=>[(0,PG g)]) (λj A1 n1 c1 V x r M=>((rc 253 3 g [sl A1 n1 c1, .int .u64 x, .int .u64 r])::(ru 5 A1 n1 c1 V)::R)) (λj A1 n1 c1 V x r M=>(M=(s.N+s.R/total*low)*256^j)/\(r=(s.R/total*size)*256^j)/\(j<=shN (s.R/total*size))/\(V=beL (s.k+j) (M/4294967296))/\(x=M%4294967296)/\(n1=s.k+j)) (λj A1 n1 c1 V x r M=>(4-j)) ?_ ?_
  ·exact⟨0,A,s.k,c,beL s.k (s.N/4294967296),(s.N%4294967296)+((s.R/total)*low),(s.R/total)*size,(s.N+s.R/total*low),⟨(by rw[uy,zt]),(by rw[uy,zt]),(uf _),(by first|(rw[JA,qm,show(s.N+s.R/total*low)/4294967296=s.N/4294967296+1 by omega])|(rw[qm,show(s.N+s.R/total*low)/4294967296=s.N/4294967296 by omega])),G,(Z)⟩,SA,λ_ h=>h⟩
  intro j A1 n1 c1 V x r M ⟨hM,hr,hj,hV,hx,co⟩;have ue:=EA (s.R/total*size);have Th:1<=r:=by rw[hr];exact BD G
  refine aD<|wq<|wm Z<|wy (aG Z)<|wy (aB (off:=2) (m:=2) jr Z dS Z Z Z)<|wy (aK (rdr 0 Z) dx Z Z Z)<|wL Z Z<|aA<|bF Z (λfj=> ?_) (λfj=> ?_)
  ·refine aL<|aD<|aH<|aD<|bP mixed<|wD 0 Z (aM Z)<|wD 1 Z (aM Z)<|wD 2 Z (aG Z)<|wD 3 Z (aB (off:=0) (m:=0) jr Z dA Z Z Z)<|wD 4 Z (aK (rdr 0 Z) af Z Z Z)<|wD 5 Z (aM Z)<|wD 6 Z (aG Z)<|wD 7 Z (aB (off:=1) (m:=1) jr Z dS Z Z Z)<|wD 8 Z (aK (rdr 0 Z) dx Z Z Z)<|wD 9 Z (oD (k:=24) (m:=16777216) Z Z Z G Z) ?_;refine wD 10 Z (eP dx bg Z)<|wC 11 Z (bL .u8 [(x/16777216)%256] af zs5 Z Z Z) ?_;rintro _ _ ⟨js,rfl,rfl⟩;refine⟨.inr λ_ h=>h.right (R':=[_]),?_⟩;refine wC 12 Z (aV 2 Z af zb5 Z Z Z (rdr 0 Z)) ?_;rintro _ _ ⟨du,dp,rfl,rfl⟩;refine⟨.inl cA,?_⟩;refine iJ (v:=sl du (n1+1) dp) Z<|wD 13 Z (aG Z)<|wD 14 Z (aB (off:=0) (m:=0) jr Z dA Z Z Z)<|oW 15 Z cA (bC 1 Z Z Z dA Z Z Z Z (au Z)) ?_;rintro _ _ rfl;refine⟨.inl cA,?_⟩;refine wN<|aN<|wm Z<|wm Z<|wy (aG Z)<|wy (aB (off:=1) (m:=1) jr Z dS Z Z Z)<|wy (aK (rdr 1 Z) dx Z Z Z)<|wy (uT (k:=8) (m:=256) Z Z Z G Z)<|wy (HV (m:=4294967296) 32 Z Z Z Z G Z)<|wy (aG Z)<|wy (aB (off:=1) (m:=1) jr Z dS Z Z Z)<|bY (bC 1 Z Z Z dS Z Z Z Z (au Z)) ?_;rintro _ _ rfl;refine aA<|aN<|wm Z<|wy (aG Z)<|wy (aB (off:=2) (m:=2) jr Z dS Z Z Z)<|wy (aK (rdr 1 Z) dx Z Z Z)<|wy (uT (k:=8) (m:=256) Z Z Z G Z)<|wy (aG Z)<|wy (aB (off:=2) (m:=2) jr Z dS Z Z Z)<|bY (bC 1 Z Z Z dS Z Z Z Z (au Z)) ?_;rintro _ _ rfl;refine aA ?_;exact⟨(j+1),du,n1+1,dp,V++([(x/16777216)%256]),(x*256)%4294967296,r*256,(M*256),⟨(by rw[hM,rz,<-vo]),(by rw[hr,rz,<-vo]),(AJ G hj (by rw[<-hr];assumption)),(by rw[hV,hx];exact(aCf _ _).symm),G,(by rw[co];rfl)⟩,G,SA,λ_ h=>h.selR (F:=[_,_,_]) (F':=[_,_]) [1,2] cC Z⟩
  ·refine aY<|wq<|wn Z<|bS (R1:=((rc 253 3 g [sl A1 n1 c1, .int .u64 x, .int .u64 r])::(ru 5 A1 n1 c1 V)::R)) (λ_ h=>h) ?_;refine⟨_,Z,?_⟩;obtain rfl:j=shN (s.R/total*size):=IJ G hj (by rw[<-hr];omega);refine⟨A1,c1,Z,?_⟩;rw[hV,hx,hr,hM,co];rfl
theorem aVp {s:CdS} (hn:n=s.k) (hk:s.k<=1000000):
  Ct Tryz.prog 135 #[PG g] B w0 ((rc 253 3 g [sl A n c, .int .u64 (s.N%4294967296), .int .u64 s.R])::(ru 5 A n c (beL s.k (s.N/4294967296)))::R) (λv R'=> ∃(A1:Option Addr) (c1:Nat),v=sl A1 (s.k+4) c1/\R'=(ru 5 A1 (s.k+4) c1 (beL (s.k+4) s.N))::(rc 253 3 g [sl A n c, .int .u64 (s.N%4294967296), .int .u64 s.R])::(ru 5 A n c (beL s.k (s.N/4294967296)))::R):=by
 subst hn;have f9:=jR s.k (s.N/4294967296);refine fn1 Tryz.func135 Z Z Z ?_;refine wq<|wn Z<|aD<|wq<|wm Z<|wy (dP underlying181 Z Z)<|aA<|aJ Z<|aL<|wq<|wm Z ?_;refine wy (aG Z)<|wy (aB (off:=0) (m:=0) jr Z dA Z Z Z)<|wy (aK (rdr 0 Z) af Z Z Z)<|wa (aF aAu Z (Ct.fresh (λw hw=>lZ ((rdr 1 Z) w hw) (by rw[jR];exact hk)))) ?_;rintro _ _ ⟨_,rfl,bm,bl,rfl,rfl⟩;refine wn Z<|aD<|wq<|wm Z<|aA<|aH<|oJ 5<|eH<|wq<|wy (Yl.t (eG Z Z) cC)<|aA<|aD ?_;refine bH Z<|aL<|aD<|aH<|wq<|wm Z<|wn Z<|aN<|wm Z<|wm Z<|wy (aG Z)<|wy (aB (off:=1) (m:=1) jr Z dS Z Z Z)<|wy (aK (rdr 1 Z) dx Z Z Z) ?_;refine wm Z<|wy (Yl.is (dG Z Z) Z)<|wy (Yl.is (iV Z Z) Z)<|wy (Yl.is (iK Z Z) Z)<|wy (oD (k:=24) (m:=16777216) Z Z Z G Z)<|wy (eP dx bg Z)<|wa (bL .u8 [((s.N%4294967296)/16777216)%256] af zs5 Z Z Z) ?_;rintro _ _ ⟨gg,rfl,rfl⟩;refine wa (aV 1 Z af zb5 Z Z Z (rdr 0 Z)) ?_;rintro _ _ ⟨fb,kt,rfl,rfl⟩;refine bK (v:=sl fb (((beL s.k (s.N/4294967296)).length)+1) kt) Z<|wn Z<|aN<|wy (Yl.is (dG Z Z) Z)<|wm Z<|aA<|eH<|wq<|wy (Yl.t (eG Z Z) cC)<|aA<|aD<|bH Z<|aL ?_;refine aD<|aH<|wq<|wm Z<|wn Z<|aN<|wm Z<|wm Z<|wy (aG Z)<|wy (aB (off:=1) (m:=1) jr Z dS Z Z Z)<|wy (aK (rdr 2 Z) dx Z Z Z)<|wm Z<|wy (Yl.is (dG Z Z) Z) ?_;refine wy (Yl.is (iV Z Z) Z)<|wy (Yl.is (iK Z Z) Z)<|wy (oD (k:=16) (m:=65536) Z Z Z G Z)<|wy (eP dx bg Z)<|wa (bL .u8 [((s.N%4294967296)/65536)%256] af zs5 Z Z Z) ?_;rintro _ _ ⟨xj,rfl,rfl⟩;refine wa (aV 2 Z af zb5 Z Z Z (rdr 0 Z)) ?_;rintro _ _ ⟨dr,bh,rfl,rfl⟩;refine bK (v:=sl dr ((((beL s.k (s.N/4294967296)).length)+1)+1) bh) Z<|wn Z<|aN<|wy (Yl.is (dG Z Z) Z)<|wm Z<|aA<|eH<|wq<|wy (Yl.t (eG Z Z) cC)<|aA<|aD<|bH Z<|aL ?_;refine aD<|aH<|wq<|wm Z<|wn Z<|aN<|wm Z<|wm Z<|wy (aG Z)<|wy (aB (off:=1) (m:=1) jr Z dS Z Z Z)<|wy (aK (rdr 3 Z) dx Z Z Z)<|wm Z<|wy (Yl.is (dG Z Z) Z) ?_;refine wy (Yl.is (iV Z Z) Z)<|wy (Yl.is (iK Z Z) Z)<|wy (oD (k:=8) (m:=256) Z Z Z G Z)<|wy (eP dx bg Z)<|wa (bL .u8 [((s.N%4294967296)/256)%256] af zs5 Z Z Z) ?_;rintro _ _ ⟨jn,rfl,rfl⟩;refine wa (aV 3 Z af zb5 Z Z Z (rdr 0 Z)) ?_;rintro _ _ ⟨ia,ie,rfl,rfl⟩;refine bK (v:=sl ia (((((beL s.k (s.N/4294967296)).length)+1)+1)+1) ie) Z<|wn Z<|aN<|wy (Yl.is (dG Z Z) Z)<|wm Z<|aA<|eH<|wq<|wy (Yl.t (eG Z Z) cC)<|aA<|aD<|bH Z<|aL ?_;refine aD<|aH<|wq<|wm Z<|wn Z<|aN<|wm Z<|wm Z<|wy (aG Z)<|wy (aB (off:=1) (m:=1) jr Z dS Z Z Z)<|wy (aK (rdr 4 Z) dx Z Z Z)<|wm Z<|wy (Yl.is (dG Z Z) Z) ?_;refine wy (Yl.is (iV Z Z) Z)<|wy (Yl.is (iK Z Z) Z)<|wy (oD (k:=0) (m:=1) Z Z Z G Z)<|wy (eP dx bg Z)<|wa (bL .u8 [((s.N%4294967296)/1)%256] af zs5 Z Z Z) ?_;rintro _ _ ⟨v6,rfl,rfl⟩;refine wa (aV 4 Z af zb5 Z Z Z (rdr 0 Z)) ?_;rintro _ _ ⟨cy,da,rfl,rfl⟩;refine bK (v:=sl cy ((((((beL s.k (s.N/4294967296)).length)+1)+1)+1)+1) da) Z<|wn Z<|aN<|wy (Yl.is (dG Z Z) Z)<|wm Z<|aA<|eH<|wq<|wy (Yl.f (eG Z Z) cC)<|aA<|aD<|aJ Z<|aY ?_;refine wq<|wm Z<|wn Z<|aT [4,5,6] 7 cC Z ?_;refine⟨_,Z,?_⟩;have e:(beL s.k (s.N/4294967296)).length+1+1+1+1=s.k+4:=G
 rw[e,<-bDc s.k s.N _ rfl];exact⟨_,_,Z,Z⟩
theorem GN:
  Ct Tryz.prog 212 #[] w.heap.size w [] (λv R'=> ∃g A c,v=PG g/\R'=[(rc 262 2 g [sl A (cd0.k+4) c, .int .u64 cd0.R]),(ru 5 A (cd0.k+4) c (beL (cd0.k+4) cd0.N))]):=by
 refine fn1 Tryz.func212 Z Z Z ?_;refine wq<|wn Z<|wq<|wa (dL af zb5 Z Z) ?_;rintro _ _ ⟨an,rfl,rfl⟩;refine bK (v:=sl (GG an) ((4:Int).toNat) ((4:Int).toNat)) Z<|wy (dZ (v:= .agg #[sl (GG an) ((4:Int).toNat) ((4:Int).toNat), .int .u64 4294967295]) Z (λw=>cA))<|wa (bR (sz:=2) rfl rfl) ?_;rintro _ _ ⟨cm,rfl,rfl⟩;refine wn Z<|bS (R1:=[(rc 262 2 cm [sl (GG an) ((4:Int).toNat) ((4:Int).toNat), .int .u64 4294967295]),(ru 5 (GG an) ((4:Int).toNat) ((4:Int).toNat) (List.replicate ((4:Int).toNat) (0:Int)))]) (λ_ h=>h) ?_;refine⟨_,Z,?_⟩;exact⟨_,_,_,Z,Z⟩
theorem aYj {x0:Int} (hn:n=b.length) (hb:aR b) (hL:b.length<=1000010) (hx:0<=x0/\x0<1099511627776):
  Ct Tryz.prog 260 #[PG g, .int .u64 x0] B w0 ((rc 262 2 g [sl A n c, .int .u64 r])::(ru 5 A n c b)::R) (λv R'=>v= .tuple #[]/\R'=(rc 262 2 g [sl A n c, .int .u64 r])::(ru 5 A n c (DF b x0))::R):=by
 subst hn;refine fn0 Tryz.func260 Z Z Z ?_;refine wq<|wm Z<|wy (aG Z)<|wy (aB (off:=0) (m:=0) xh Z dA Z Z Z)<|wy (aK (rdr 0 Z) af Z Z Z)<|wy (aQ af Z)<|wS Z Z<|wn Z<|aH ?_;refine gG (λ(i:Int) (x:Int) (V:List Int)=>[(0,PG g),(1, .int .u64 x),(4,I i)]) (λi x V=>((rc 262 2 g [sl A b.length c, .int .u64 r])::(ru 5 A b.length c V)::R)) (λi x V=>(-1<=i)/\(i<b.length)/\(0<=x/\x<1099511627776)/\(aCr b x0 V i x)) (λi x V=>(i+1).toNat) ?_ ?_
 ·exact⟨((b.length:Nat):Int)-1,x0,b,⟨G,G,G,(SL hb Z)⟩,SA,λ_ h=>h⟩
 intro i x V ⟨ar,jj,hx0,hI⟩;have lz:=hI.1;have hVb:=hI.2.1.rd i;refine aD<|wq<|wm Z<|wy (gZ Z Z)<|wm Z<|dD 3 [(0,PG g),(1, .int .u64 x),(4,I i),(16, .bool (decide ((0<=i)/\(0<x))))] ((rc 262 2 g [sl A b.length c, .int .u64 r])::(ru 5 A b.length c V)::R) ?_ ?_
 ·refine bV 13 Z (λaq=> ?_) (λaq=> ?_)
  ·refine aC Z Z<|wm Z<|aC Z Z<|wy (dJ Z Z)<|wy (bB Z Z)<|aA ?_;exact⟨SA,λ_ h=>h⟩
  ·refine aP Z Z Z Z<|aP Z Z Z Z<|wy (aS Z Z)<|aA ?_;exact⟨SA,λ_ h=>h⟩
 refine aA<|bF Z (λce=> ?_) (λce=> ?_)
 ·refine aL<|aD<|aH<|wq<|wm Z<|wm Z<|wy (aG Z)<|wy (aB (off:=0) (m:=0) xh Z dA Z Z Z)<|wy (aK (rdr 0 Z) af Z Z Z)<|wm Z<|wy (aI af sz5 Z Z (rdr 1 Z))<|wy (aW bg Z Z (rdr 1 Z))<|wy (gI bg dx Z)<|wy (aQf Z Z G) ?_;refine wn Z<|wq<|wm Z<|wy (aG Z)<|wy (aB (off:=0) (m:=0) xh Z dA Z Z Z)<|wy (aK (rdr 0 Z) af Z Z Z)<|wm Z<|wm Z<|wy (eP dx bg Z)<|wy (aI af sz5 Z Z (rdr 1 Z))<|bY (bJ 1 Z sz5 Z Z) ?_;rintro _ _ rfl;refine aA<|aN<|wm Z<|wy (oD (k:=8) (m:=256) Z Z Z G Z)<|wn Z<|aN<|wm Z<|wS Z Z<|wn Z ?_;exact⟨i-1,(x+(rd V i))/256,upd V i ((x+(rd V i))%256),⟨G,G,G,(hI.step G G Z Z)⟩,G,SA,λ_ h=>h⟩
 ·refine aY ?_
  skip
  obtain rfl:=hI.stop G;exact⟨Z,Z⟩
set_option maxHeartbeats 1000000 in
theorem EB {s:CdS} (hn:n=s.k+4) (hc:WC s) (ya:rU low size total) (hk:s.k<=1000000):
  Ct Tryz.prog 213 #[PG g,I low,I size,I total] B w0 ((rc 262 2 g [sl A n c, .int .u64 s.R])::(ru 5 A n c (beL (s.k+4) s.N))::R) (λv R'=> ∃(A1:Option Addr) (c1:Nat),v=bt/\R'=(rc 262 2 g [sl A1 ((eY s low size total).k+4) c1, .int .u64 ((eY s low size total).R)])::(ru 5 A1 ((eY s low size total).k+4) c1 (beL ((eY s low size total).k+4) (eY s low size total).N))::R):=by
 subst hn;obtain⟨r0,r1,n0,nr⟩:=hc;have Ge:=ya;obtain⟨s1,s2,s3,s4⟩:=Ge;obtain⟨f1,f2,f3,f4,f5⟩:=nI ya ⟨r0,r1⟩;refine fn1 Tryz.func213 Z Z Z ?_;refine wq<|wn Z<|aD<|wq<|wm Z<|wm Z<|wm Z<|wa (aF bLm Z (Ct.quiet (λw hw=>aLs ya))) ?_;rintro _ _ ⟨rfl,rfl⟩;refine wy (dU Z)<|aA<|aJ Z<|aL<|wq<|wm Z<|wy (aG Z)<|wy (aB (off:=1) (m:=1) xh Z dS Z Z Z)<|wy (aK (rdr 0 Z) dx Z Z Z)<|wm Z<|wy (gI ak dx Z)<|wy (DN Z Z G G)<|wn Z ?_;refine wq<|wm Z<|wm Z<|wm Z<|wy (gI ak dx Z)<|wy (sZ Z Z G)<|wa (aF bLf Z ((aYj (by rw[jR]) (xX _ _) (by rw[jR];omega) G))) ?_;rintro _ _ ⟨rfl,rfl⟩;refine aA<|wq<|wm Z<|wm Z<|wm Z<|wy (gI ak dx Z)<|wy (sZ Z Z G)<|wy (aG Z)<|wy (aB (off:=1) (m:=1) xh Z dS Z Z Z)<|bY (bC 0 Z Z Z dS Z Z Z Z (au Z)) ?_;rintro _ _ rfl;refine aA<|aD<|aH ?_;refine TC (λ(j:Nat) (A1:Option Addr) (n1:Nat) (c1:Nat) (V:List Int) (r:Int) (M:Int)=>[(0,PG g)]) (λj A1 n1 c1 V r M=>((rc 262 2 g [sl A1 n1 c1, .int .u64 r])::(ru 5 A1 n1 c1 V)::R)) (λj A1 n1 c1 V r M=>(M=(s.N+s.R/total*low)*256^j)/\(r=(s.R/total*size)*256^j)/\(j<=shN (s.R/total*size))/\(V=beL (s.k+j+4) M)/\(n1=s.k+j+4)) (λj A1 n1 c1 V r M=>(4-j)) ?_ ?_
 ·exact⟨0,A,s.k+4,c,DF (beL (s.k+4) s.N) ((s.R/total)*low),(s.R/total)*size,(s.N+s.R/total*low),⟨(by rw[uy,zt]),(by rw[uy,zt]),(uf _),(by rw[JA]),(Z)⟩,SA,λ_ h=>h⟩
 intro j A1 n1 c1 V r M ⟨hM,hr,hj,hV,co⟩;have ue:=EA (s.R/total*size);have Th:1<=r:=by rw[hr];exact BD G
 refine aD<|wq<|wm Z<|wy (aG Z)<|wy (aB (off:=1) (m:=1) xh Z dS Z Z Z)<|wy (aK (rdr 0 Z) dx Z Z Z)<|wL Z Z<|aA<|bF Z (λaq=> ?_) (λaq=> ?_)
 ·refine aL<|aH<|wq<|wm Z<|wm Z<|wy (aG Z)<|wy (aB (off:=0) (m:=0) xh Z dA Z Z Z)<|wy (aK (rdr 0 Z) af Z Z Z)<|wa (bL .u8 [0] af zs5 Z Z Z) ?_;rintro _ _ ⟨cm,rfl,rfl⟩;refine wa (aV 2 Z af zb5 Z Z Z (rdr 0 Z)) ?_;rintro _ _ ⟨ff,fh,rfl,rfl⟩;refine bK (v:=sl ff (n1+1) fh) Z<|wy (aG Z)<|wy (aB (off:=0) (m:=0) xh Z dA Z Z Z)<|bY (bC 1 Z Z Z dA Z Z Z Z (au Z)) ?_;rintro _ _ rfl;refine aA<|aN<|wm Z<|wm Z<|wy (aG Z)<|wy (aB (off:=1) (m:=1) xh Z dS Z Z Z)<|wy (aK (rdr 1 Z) dx Z Z Z)<|wy (uT (k:=8) (m:=256) Z Z Z G Z)<|wy (aG Z)<|wy (aB (off:=1) (m:=1) xh Z dS Z Z Z)<|bY (bC 1 Z Z Z dS Z Z Z Z (au Z)) ?_;rintro _ _ rfl;refine aA ?_;exact⟨(j+1),ff,n1+1,fh,V++([0]),r*256,(M*256),⟨(by rw[hM,rz,<-vo]),(by rw[hr,rz,<-vo]),(AJ G hj (by rw[<-hr];assumption)),(by rw[hV,show s.k+(j+1)+4=s.k+j+4+1 by omega,aPp]),(by rw[co];omega)⟩,G,SA,λ_ h=>h.selR (F:=[_,_,_]) (F':=[_,_]) [1,2] cC Z⟩
 ·refine aY<|wq<|wn Z<|bS (R1:=((rc 262 2 g [sl A1 n1 c1, .int .u64 r])::(ru 5 A1 n1 c1 V)::R)) (λ_ h=>h) ?_;refine⟨_,Z,?_⟩;obtain rfl:j=shN (s.R/total*size):=IJ G hj (by rw[<-hr];omega);refine⟨A1,c1,Z,?_⟩;rw[hV,hr,hM,co];rfl
variable {w w0:World} {dy o cls x i:Int} {B g g0 g1 g2 c:Nat} {R:List Row} {A:Option Addr} {C l:List Int}
theorem zF:
  Ct Tryz.prog 206 #[I dy] w.heap.size w [] (λv R'=>v=I (iE dy)):=by
 refine fn1 Tryz.func206 Z Z Z ?_;refine wq<|wn Z<|aD<|aH<|wq<|wm Z<|wL Z Z<|wn Z<|bF Z (λaq=> ?_) (λaq=> ?_)
 ·refine wq<|wn Z<|bW ?_;refine⟨_,Z,?_⟩;exact bq (Value.int .i64) (by unfold iE;rw[df cF])
 ·refine wq<|wm Z<|wL Z Z<|wn Z<|bF Z (λce=> ?_) (λce=> ?_)
  ·refine wq<|wn Z<|bW ?_;refine⟨_,Z,?_⟩;exact bq (Value.int .i64) (by unfold iE;rw[bu cF,df cF])
  ·refine aL<|wq<|wn Z<|bW ?_;refine⟨_,Z,?_⟩;exact bq (Value.int .i64) (by unfold iE;rw[bu cF,bu cF])
theorem BS (ho:o=0\/o=1):
  Ct Tryz.prog 126 #[I o] w.heap.size w [] (λv R'=>v=bt):=by
 refine fn1 Tryz.func126 Z Z Z ?_;refine wq<|wn Z<|wq<|wm Z<|wy (aX Z Z)<|wm Z<|dD 3 [(8, .bool (decide ((o=0)\/(o=1))))] [] ?_ ?_
 ·refine bV 5 Z (λaq=> ?_) (λaq=> ?_)
  ·refine aP Z Z Z Z<|aP Z Z Z Z<|wy (bB Z Z)<|aA ?_;exact⟨SA,λ_ h=>h⟩
  ·refine aC Z Z<|wm Z<|aC Z Z<|wy (aX Z Z)<|wy (aS Z Z)<|aA ?_;exact⟨SA,λ_ h=>h⟩
 refine kK 8 Z (ho)<|wn Z<|bW ?_;refine⟨_,Z,?_⟩;rfl
theorem QX:
  Ct Tryz.prog 127 #[I o] w.heap.size w [] (λv R'=> ∃(g g0 g1 g2:Nat) (A0 A1 A2:Option Addr) (c0 c1 c2:Nat),v=PG g/\R'=[(rc 250 5 g [PG g0,PG g1,PG g2,I 0,I o]),(rc 256 2 g0 [sl A0 258 c0,I 258]),(ri 3 A0 258 c0 uE),(rc 256 2 g1 [sl A1 258 c1,I 258]),(ri 3 A1 258 c1 uE),(rc 256 2 g2 [sl A2 258 c2,I 258]),(ri 3 A2 258 c2 uE)]):=by
 refine fn1 Tryz.func127 Z Z Z ?_;refine wq<|wn Z<|wq<|wm Z<|wy (dZ (v:= .agg #[.pointer none, .pointer none, .pointer none,I 0,I o]) Z (λw=>cA))<|wa (bR (sz:=5) rfl rfl) ?_;rintro _ _ ⟨an,rfl,rfl⟩;refine wn Z<|aD<|wq<|wm Z<|aA<|aH<|oJ 4<|eH<|wq<|wy (Yl.t (eG Z Z) cC)<|aA<|aD ?_;refine bH Z<|aL<|aD<|aH<|wq<|wm Z<|wn Z<|bP mixed<|wD 0 Z (aM Z)<|wD 1 Z (aM Z)<|wD 3 Z (aG Z)<|wD 4 Z (aB (off:=0) (m:=0) tq Z PY Z Z Z)<|wC 2 Z (aF aWe Z (Ct.fresh (λw hw=>wB))) ?_;rintro _ _ ⟨_,rfl,cm,ff,fh,rfl,rfl⟩;refine⟨.inr λ_ h=>h.right (R':=[_,_]),?_⟩;refine wD 5 Z (dQ (q:=0) (rdr 2 Z) Cj zZ Z Z (au Z) cC cC Z)<|oW 6 Z cA (bC 2 Z Z Z zZ Z Z Z Z (au Z)) ?_;rintro _ _ rfl;refine⟨.inl cA,?_⟩;refine wN<|aN<|wy (Yl.is (dG Z Z) Z)<|wm Z<|aA<|eH<|wq<|wy (Yl.t (eG Z Z) cC)<|aA<|aD<|bH Z<|aL<|aD<|aH ?_;refine wq<|wm Z<|wn Z<|bP mixed<|wD 0 Z (aM Z)<|wD 1 Z (aM Z)<|wD 3 Z (aG Z)<|wD 4 Z (aB (off:=0) (m:=0) tq Z PY Z Z Z)<|wC 2 Z (aF aWe Z (Ct.fresh (λw hw=>wB))) ?_;rintro _ _ ⟨_,rfl,js,du,dp,rfl,rfl⟩;refine⟨.inr λ_ h=>h.right (R':=[_,_]),?_⟩;refine wD 5 Z (dQ (q:=1) (rdr 4 Z) Cj zZ Z Z (au Z) cC cC Z)<|oW 6 Z cA (bC 4 Z Z Z zZ Z Z Z Z (au Z)) ?_;rintro _ _ rfl;refine⟨.inl cA,?_⟩;refine wN<|aN<|wy (Yl.is (dG Z Z) Z)<|wm Z<|aA<|eH<|wq<|wy (Yl.t (eG Z Z) cC)<|aA<|aD<|bH Z<|aL<|aD<|aH ?_;refine wq<|wm Z<|wn Z<|bP mixed<|wD 0 Z (aM Z)<|wD 1 Z (aM Z)<|wD 3 Z (aG Z)<|wD 4 Z (aB (off:=0) (m:=0) tq Z PY Z Z Z)<|wC 2 Z (aF aWe Z (Ct.fresh (λw hw=>wB))) ?_;rintro _ _ ⟨_,rfl,Kr,jt,bx,rfl,rfl⟩;refine⟨.inr λ_ h=>h.right (R':=[_,_]),?_⟩;refine wD 5 Z (dQ (q:=2) (rdr 6 Z) Cj zZ Z Z (au Z) cC cC Z)<|oW 6 Z cA (bC 6 Z Z Z zZ Z Z Z Z (au Z)) ?_;rintro _ _ rfl;refine⟨.inl cA,?_⟩;refine wN<|aN<|wy (Yl.is (dG Z Z) Z)<|wm Z<|aA<|eH<|wq<|wy (Yl.f (eG Z Z) cC)<|aA<|aD<|aJ Z<|aY<|wq ?_;refine wm Z<|wn Z<|aT [6,4,5,2,3,0,1] 99 cC Z ?_;refine⟨_,Z,?_⟩;exact⟨_,_,_,_,_,_,_,_,_,_,Z,Z⟩
theorem nX (hk:cls*o=0):
  Ct Tryz.prog 130 #[PG g] B w0 ((rc 250 5 g [PG g0,PG g1,PG g2,I cls,I o])::R) (λv R'=>v=PG g0/\R'=(rc 250 5 g [PG g0,PG g1,PG g2,I cls,I o])::R):=by
 refine fn1 Ip Z Z Z ?_;refine wq<|wn Z<|aD<|bP mixed<|wD 0 Z (aM Z)<|wD 1 Z (aM Z)<|wD 2 Z (aG Z)<|wD 3 Z (aB (off:=3) (m:=3) tq Z sz3 Z Z Z)<|wD 4 Z (aK (rdr 0 Z) ak Z Z Z)<|wD 5 Z (aM Z)<|wD 6 Z (aG Z)<|wD 7 Z (aB (off:=4) (m:=4) tq Z sz3 Z Z Z)<|wD 8 Z (aK (rdr 0 Z) ak Z Z Z) ?_;refine wD 9 Z (Yl.is (iV Z Z) (by rw[hk])) ?_;refine wD 10 Z (aG Z)<|wD 11 Z (aB (off:=0) (m:=0) tq Z PY Z Z Z)<|wD 12 Z (dQ (q:=0) (rdr 0 Z) Cj zZ Z Z (au Z) cC cC Z)<|wD 13 Z (aK (rdr 0 Z) Ef Z Z Z)<|wD 14 Z (bG Z)<|wN<|bS (R1:=((rc 250 5 g [PG g0,PG g1,PG g2,I cls,I o])::R)) (λ_ h=>h) ?_;refine⟨_,Z,?_⟩;exact⟨Z,Z⟩
theorem nW (hk:cls*o=1):
  Ct Tryz.prog 130 #[PG g] B w0 ((rc 250 5 g [PG g0,PG g1,PG g2,I cls,I o])::R) (λv R'=>v=PG g1/\R'=(rc 250 5 g [PG g0,PG g1,PG g2,I cls,I o])::R):=by
 refine fn1 Ip Z Z Z ?_;refine wq<|wn Z<|aD<|bP mixed<|wD 0 Z (aM Z)<|wD 1 Z (aM Z)<|wD 2 Z (aG Z)<|wD 3 Z (aB (off:=3) (m:=3) tq Z sz3 Z Z Z)<|wD 4 Z (aK (rdr 0 Z) ak Z Z Z)<|wD 5 Z (aM Z)<|wD 6 Z (aG Z)<|wD 7 Z (aB (off:=4) (m:=4) tq Z sz3 Z Z Z)<|wD 8 Z (aK (rdr 0 Z) ak Z Z Z) ?_;refine wD 9 Z (Yl.is (iV Z Z) (by rw[hk])) ?_;refine wD 10 Z (aG Z)<|wD 11 Z (aB (off:=0) (m:=0) tq Z PY Z Z Z)<|wD 12 Z (dQ (q:=1) (rdr 0 Z) Cj zZ Z Z (au Z) cC cC Z)<|wD 13 Z (aK (rdr 0 Z) Ef Z Z Z)<|wD 14 Z (bG Z)<|wN<|bS (R1:=((rc 250 5 g [PG g0,PG g1,PG g2,I cls,I o])::R)) (λ_ h=>h) ?_;refine⟨_,Z,?_⟩;exact⟨Z,Z⟩
theorem nU (hk:cls*o=2):
  Ct Tryz.prog 130 #[PG g] B w0 ((rc 250 5 g [PG g0,PG g1,PG g2,I cls,I o])::R) (λv R'=>v=PG g2/\R'=(rc 250 5 g [PG g0,PG g1,PG g2,I cls,I o])::R):=by
 refine fn1 Ip Z Z Z ?_;refine wq<|wn Z<|aD<|bP mixed<|wD 0 Z (aM Z)<|wD 1 Z (aM Z)<|wD 2 Z (aG Z)<|wD 3 Z (aB (off:=3) (m:=3) tq Z sz3 Z Z Z)<|wD 4 Z (aK (rdr 0 Z) ak Z Z Z)<|wD 5 Z (aM Z)<|wD 6 Z (aG Z)<|wD 7 Z (aB (off:=4) (m:=4) tq Z sz3 Z Z Z)<|wD 8 Z (aK (rdr 0 Z) ak Z Z Z) ?_;refine wD 9 Z (Yl.is (iV Z Z) (by rw[hk])) ?_;refine wD 10 Z (aG Z)<|wD 11 Z (aB (off:=0) (m:=0) tq Z PY Z Z Z)<|wD 12 Z (dQ (q:=2) (rdr 0 Z) Cj zZ Z Z (au Z) cC cC Z)<|wD 13 Z (aK (rdr 0 Z) Ef Z Z Z)<|wD 14 Z (bG Z)<|wN<|bS (R1:=((rc 250 5 g [PG g0,PG g1,PG g2,I cls,I o])::R)) (λ_ h=>h) ?_;refine⟨_,Z,?_⟩;exact⟨Z,Z⟩
theorem JZ (hk:cls*o=0) (hs:0<=dy/\dy<C.length) (dg:kY C):
  Ct Tryz.prog 134 #[PG g,I dy] B w0 ((rc 250 5 g [PG g0,PG g1,PG g2,I cls,I o])::(rc 256 2 g0 [sl A 258 c,I (aZ C)])::(ri 3 A 258 c C)::R) (λv R'=>v= .tuple #[]/\R'=(rc 250 5 g [PG g0,PG g1,PG g2,I (iE dy),I o])::(rc 256 2 g0 [sl A 258 c,I (aZ (jS C dy))])::(ri 3 A 258 c (jS C dy))::R):=by
 have kx:=dg.1;refine fn0 Iq Z Z Z ?_;refine wq<|wm Z<|wa (aF nD Z (Ct.at 0 Z (nX cF))) ?_;rintro _ _ ⟨rfl,rfl⟩;refine wm Z<|wa (aF aWd Z (Ct.pick [1,2,0] 3 cC Z (vZ (by rw[kx]) hs dg))) ?_;rintro _ _ ⟨rfl,rfl⟩;refine dB (R1:=((rc 250 5 g [PG g0,PG g1,PG g2,I cls,I o])::(rc 256 2 g0 [sl A 258 c,I (aZ (jS C dy))])::(ri 3 A 258 c (jS C dy))::R)) (Sub.refl _) (λ_ h=>h.selR (F:=[_,_,_]) (F':=[_,_,_]) [2,0,1] cC Z)<|aA<|aN<|wm Z<|wm Z<|wa (aF aWc Z (Ct.quiet (λw hw=>zF))) ?_;rintro _ _ ⟨rfl,rfl⟩;refine wy (aG Z)<|wy (aB (off:=3) (m:=3) tq Z sz3 Z Z Z)<|bY (bC 0 Z Z Z sz3 Z Z Z Z (au Z)) ?_;rintro _ _ rfl;refine aA ?_
 skip
 exact⟨Z,Z⟩
theorem JY (hk:cls*o=1) (hs:0<=dy/\dy<C.length) (dg:kY C):
  Ct Tryz.prog 134 #[PG g,I dy] B w0 ((rc 250 5 g [PG g0,PG g1,PG g2,I cls,I o])::(rc 256 2 g1 [sl A 258 c,I (aZ C)])::(ri 3 A 258 c C)::R) (λv R'=>v= .tuple #[]/\R'=(rc 250 5 g [PG g0,PG g1,PG g2,I (iE dy),I o])::(rc 256 2 g1 [sl A 258 c,I (aZ (jS C dy))])::(ri 3 A 258 c (jS C dy))::R):=by
 have kx:=dg.1;refine fn0 Iq Z Z Z ?_;refine wq<|wm Z<|wa (aF nD Z (Ct.at 0 Z (nW cF))) ?_;rintro _ _ ⟨rfl,rfl⟩;refine wm Z<|wa (aF aWd Z (Ct.pick [1,2,0] 3 cC Z (vZ (by rw[kx]) hs dg))) ?_;rintro _ _ ⟨rfl,rfl⟩;refine dB (R1:=((rc 250 5 g [PG g0,PG g1,PG g2,I cls,I o])::(rc 256 2 g1 [sl A 258 c,I (aZ (jS C dy))])::(ri 3 A 258 c (jS C dy))::R)) (Sub.refl _) (λ_ h=>h.selR (F:=[_,_,_]) (F':=[_,_,_]) [2,0,1] cC Z)<|aA<|aN<|wm Z<|wm Z<|wa (aF aWc Z (Ct.quiet (λw hw=>zF))) ?_;rintro _ _ ⟨rfl,rfl⟩;refine wy (aG Z)<|wy (aB (off:=3) (m:=3) tq Z sz3 Z Z Z)<|bY (bC 0 Z Z Z sz3 Z Z Z Z (au Z)) ?_;rintro _ _ rfl;refine aA ?_
 skip
 exact⟨Z,Z⟩
theorem JX (hk:cls*o=2) (hs:0<=dy/\dy<C.length) (dg:kY C):
  Ct Tryz.prog 134 #[PG g,I dy] B w0 ((rc 250 5 g [PG g0,PG g1,PG g2,I cls,I o])::(rc 256 2 g2 [sl A 258 c,I (aZ C)])::(ri 3 A 258 c C)::R) (λv R'=>v= .tuple #[]/\R'=(rc 250 5 g [PG g0,PG g1,PG g2,I (iE dy),I o])::(rc 256 2 g2 [sl A 258 c,I (aZ (jS C dy))])::(ri 3 A 258 c (jS C dy))::R):=by
 have kx:=dg.1;refine fn0 Iq Z Z Z ?_;refine wq<|wm Z<|wa (aF nD Z (Ct.at 0 Z (nU cF))) ?_;rintro _ _ ⟨rfl,rfl⟩;refine wm Z<|wa (aF aWd Z (Ct.pick [1,2,0] 3 cC Z (vZ (by rw[kx]) hs dg))) ?_;rintro _ _ ⟨rfl,rfl⟩;refine dB (R1:=((rc 250 5 g [PG g0,PG g1,PG g2,I cls,I o])::(rc 256 2 g2 [sl A 258 c,I (aZ (jS C dy))])::(ri 3 A 258 c (jS C dy))::R)) (Sub.refl _) (λ_ h=>h.selR (F:=[_,_,_]) (F':=[_,_,_]) [2,0,1] cC Z)<|aA<|aN<|wm Z<|wm Z<|wa (aF aWc Z (Ct.quiet (λw hw=>zF))) ?_;rintro _ _ ⟨rfl,rfl⟩;refine wy (aG Z)<|wy (aB (off:=3) (m:=3) tq Z sz3 Z Z Z)<|bY (bC 0 Z Z Z sz3 Z Z Z Z (au Z)) ?_;rintro _ _ rfl;refine aA ?_
 skip
 exact⟨Z,Z⟩
theorem TK {s:PpS} (h:s.cls*o=0):kU o s x=⟨jS s.c0 x,s.c1,s.c2,iE x,qE s.cd s.c0 x⟩:=by
 unfold kU aLk vM;rw[df h,df h]
theorem TJ {s:PpS} (h:s.cls*o=1):kU o s x=⟨s.c0,jS s.c1 x,s.c2,iE x,qE s.cd s.c1 x⟩:=by
 unfold kU aLk vM;rw[bu G,df h,bu G,df h]
theorem TI {s:PpS} (h:s.cls*o=2):kU o s x=⟨s.c0,s.c1,jS s.c2 x,iE x,qE s.cd s.c2 x⟩:=by
 unfold kU aLk vM;rw[bu G,bu G,bu G,bu G]
theorem mM {s t:PpS} (h:s=encP o (l.take i.toNat)) (h0:0<=i) (hi:i<l.length) (ht:kU o s (rd l i)=t):t=encP o (l.take (i+1).toNat):=by
 rw[dH h0 hi,aOi,<-h,ht]
theorem VF {s:PpS} (hl:aHd l) (h:s=encP o (l.take i.toNat)):PD s/\s.cd.k<=2*l.length:=by
 have:=CJ (o:=o) (l:=l.take i.toNat) (λx hx=>hl x (lv hx));rw[<-h,ax] at this;exact⟨this.1,G⟩
theorem NB {s:PpS} (h:PD s) (ho:o=0\/o=1):s.cls*o=0\/s.cls*o=1\/s.cls*o=2:=by
 have:=h.2.1;rcases ho with rfl|rfl<;>omega
set_option maxHeartbeats 4000000 in
theorem xM {lj:Option Addr} {rj ln:Nat} {b:List Int} (io:Rd w lj rj ln 1 (ints .u8 b)) (cj:aR b) (ho:o=0\/o=1) (hN:b.length<=100000):
  Ct Tryz.prog 75 #[sl lj rj ln,I o] w.heap.size w [] (λv R'=> ∃A c,v= .tuple #[sl A (bZ b o).length c,bt]/\R'=[(ru 5 A ((bZ b o).length) c (bZ b o))]):=by
 obtain rfl:=io.lenI;refine fn2 Tryz.func75 Z Z Z ?_;have Hi:=io.max;have k4:=qD cj;have ue:=DZ b;have Ow:=oL (aU aO b) 0;rw[fO] at Ow;have vj:(bM b).length=(bA 0 (aU aO b)).length+1:=by unfold bM;rw[ah];rfl
 refine wq<|wg Z<|wn Z<|aD<|wq<|wm Z<|wa (aF bEw Z (Ct.quiet (λw hw=>BS ho))) ?_;rintro _ _ ⟨rfl,rfl⟩;refine wy (dU Z)<|wm Z<|aC Z Z<|wm Z<|aC Z Z<|wy (aQ af Z)<|aC Z Z<|wy (Yl.f (dJ Z Z))<|wy (aS Z Z)<|aA<|aJ Z<|aL<|wq<|wm Z ?_;refine wa (aF bEv Z (Ct.fresh (λw hw=>QX))) ?_;rintro _ _ ⟨_,rfl,an,cm,ew,gg,fb,en,du,dp,mn,bh,rfl,rfl⟩;refine wn Z<|wq<|wa (aF bNe Z (Ct.fresh (λw hw=>LJ))) ?_;rintro _ _ ⟨_,rfl,go,pi,cx,rfl,rfl⟩;refine wn Z<|aD<|wq<|wm Z<|wa (aF bJt Z (Ct.fresh (λw hw=>QV ((io.c _) w hw) cj G))) ?_;rintro _ _ ⟨_,rfl,fd,fg,rfl,rfl⟩;refine wa (aF bNd Z (Ct.fresh (λw hw=>aKy ((rdr 0 Z) w hw) (lS cj) (by rw[fO];omega)))) ?_;rintro _ _ ⟨_,rfl,cy,da,rfl,rfl⟩;refine wa (bL .i64 [257] aa zs3 Z Z Z) ?_;rintro _ _ ⟨ge,rfl,rfl⟩;refine wa (aV 1 Z aa zb3 Z Z Z (rdr 0 Z)) ?_;rintro _ _ ⟨gl,gn,rfl,rfl⟩;refine bK (v:=sl gl (((bA 0 (aU aO b)).length)+1) gn) Z<|wy (aQ aa Z)<|wm Z<|aA<|aH ?_;refine HZ (λ(i:Int) (Aw:Option Addr) (cw:Nat) (Sx:PpS)=>[(6,PG an),(7,PG go),(28,sl gl (((bA 0 (aU aO b)).length)+1) gn),(29,I ((((bA 0 (aU aO b)).length)+1:Nat):Int)),(30,I i)]) (λi Aw cw Sx=>[(ri 3 (GG ge) 1 1 ([257])),(ri 3 gl (((bA 0 (aU aO b)).length)+1) gn ((bA 0 (aU aO b))++([257]))),(ru 5 fd ((b).length) fg (aU aO b)),(rc 253 3 go [sl Aw Sx.cd.k cw, .int .u64 (Sx.cd.N%4294967296), .int .u64 Sx.cd.R]),(ru 5 Aw Sx.cd.k cw (beL Sx.cd.k (Sx.cd.N/4294967296))),(rc 250 5 an [PG cm,PG ew,PG gg,I Sx.cls,I o]),(rc 256 2 cm [sl fb 258 dp,I (aZ Sx.c0)]),(ri 3 fb 258 dp Sx.c0),(rc 256 2 ew [sl en 258 mn,I (aZ Sx.c1)]),(ri 3 en 258 mn Sx.c1),(rc 256 2 gg [sl du 258 bh,I (aZ Sx.c2)]),(ri 3 du 258 bh Sx.c2)]) (λi Aw cw Sx=>(0<=i)/\(i<=(bM b).length)/\(Sx=encP o ((bM b).take i.toNat))) (λi Aw cw Sx=>((bM b).length-i).toNat) ?_ ?_
 ·exact⟨0,pi,cx,pp0,⟨G,G,(Z)⟩,SA,λ_ h=>h⟩
 intro i Aw cw Sx ⟨ar,jj,hS⟩;have cg:=VF k4 hS;refine wq<|wL Z Z<|aA<|aD<|bF Z (λaq=> ?_) (λaq=> ?_)
 ·have hx:=k4 _ (bN (L:=bM b) (k:=i) ar G);refine aL<|aD<|aH<|wq<|wy (aI aa sz3 Z Z (rdr 1 Z))<|wy (aW ak Z Z (rdr 1 Z))<|wn Z<|wq ?_;rcases NB cg.1 ho with hk|hk|hk
  ·refine wm Z<|wa (aF nD Z (Ct.at 5 Z (nX hk))) ?_;rintro _ _ ⟨rfl,rfl⟩;refine wm Z<|wa (aF RS Z (Ct.sub (R1:=[(rc 256 2 cm [sl fb 258 dp,I (aZ Sx.c0)]),(ri 3 fb 258 dp Sx.c0),(ri 3 (GG ge) 1 1 ([257])),(ri 3 gl (((bA 0 (aU aO b)).length)+1) gn ((bA 0 (aU aO b))++([257]))),(ru 5 fd ((b).length) fg (aU aO b)),(rc 253 3 go [sl Aw Sx.cd.k cw, .int .u64 (Sx.cd.N%4294967296), .int .u64 Sx.cd.R]),(ru 5 Aw Sx.cd.k cw (beL Sx.cd.k (Sx.cd.N/4294967296))),(rc 250 5 an [PG cm,PG ew,PG gg,I Sx.cls,I o]),(rc 256 2 ew [sl en 258 mn,I (aZ Sx.c1)]),(ri 3 en 258 mn Sx.c1),(rc 256 2 gg [sl du 258 bh,I (aZ Sx.c2)]),(ri 3 du 258 bh Sx.c2)]) (λ_ h=>h.sel [6,7,0,1,2,3,4,5,8,9,10,11] cC Z) (kP (by rw[cg.1.1.1.1]) (by rw[cg.1.1.1.1];exact hx) cg.1.1.1))) ?_;rintro _ _ ⟨rfl,rfl⟩;refine wm Z<|wX Z Z<|wX Z Z<|wX Z Z<|wg Z<|wg Z<|wn Z<|wq<|wm Z<|wm Z<|wm Z<|wm Z<|wa (aF nD Z (Ct.at 7 Z (nX hk))) ?_;rintro _ _ ⟨rfl,rfl⟩;refine wa (aF MM Z (Ct.sub (R1:=[(rc 256 2 cm [sl fb 258 dp,I (aZ Sx.c0)]),(ri 3 fb 258 dp Sx.c0),(ri 3 (GG ge) 1 1 ([257])),(ri 3 gl (((bA 0 (aU aO b)).length)+1) gn ((bA 0 (aU aO b))++([257]))),(ru 5 fd ((b).length) fg (aU aO b)),(rc 253 3 go [sl Aw Sx.cd.k cw, .int .u64 (Sx.cd.N%4294967296), .int .u64 Sx.cd.R]),(ru 5 Aw Sx.cd.k cw (beL Sx.cd.k (Sx.cd.N/4294967296))),(rc 250 5 an [PG cm,PG ew,PG gg,I Sx.cls,I o]),(rc 256 2 ew [sl en 258 mn,I (aZ Sx.c1)]),(ri 3 en 258 mn Sx.c1),(rc 256 2 gg [sl du 258 bh,I (aZ Sx.c2)]),(ri 3 du 258 bh Sx.c2)]) (λ_ h=>h) (iY))) ?_;rintro _ _ ⟨rfl,rfl⟩;refine wa (aF aWo Z (Ct.sub (R1:=[(rc 253 3 go [sl Aw Sx.cd.k cw, .int .u64 (Sx.cd.N%4294967296), .int .u64 Sx.cd.R]),(ru 5 Aw Sx.cd.k cw (beL Sx.cd.k (Sx.cd.N/4294967296))),(rc 256 2 cm [sl fb 258 dp,I (aZ Sx.c0)]),(ri 3 fb 258 dp Sx.c0),(ri 3 (GG ge) 1 1 ([257])),(ri 3 gl (((bA 0 (aU aO b)).length)+1) gn ((bA 0 (aU aO b))++([257]))),(ru 5 fd ((b).length) fg (aU aO b)),(rc 250 5 an [PG cm,PG ew,PG gg,I Sx.cls,I o]),(rc 256 2 ew [sl en 258 mn,I (aZ Sx.c1)]),(ri 3 en 258 mn Sx.c1),(rc 256 2 gg [sl du 258 bh,I (aZ Sx.c2)]),(ri 3 du 258 bh Sx.c2)]) (λ_ h=>h.sel [5,6,0,1,2,3,4,7,8,9,10,11] cC Z) (KR Z cg.1.2.2 (jT cg.1.1.1 hx.1 hx.2) G))) ?_;rintro _ _ ⟨nf,nj,rfl,rfl⟩;refine aA<|aN<|wm Z<|wm Z<|wa (aF RQ Z (Ct.sub (R1:=[(rc 250 5 an [PG cm,PG ew,PG gg,I Sx.cls,I o]),(rc 256 2 cm [sl fb 258 dp,I (aZ Sx.c0)]),(ri 3 fb 258 dp Sx.c0),(rc 253 3 go [sl nf ((eY Sx.cd (aZ (Sx.c0.take (rd ((bA 0 (aU aO b))++([257])) i).toNat)) (rd Sx.c0 (rd ((bA 0 (aU aO b))++([257])) i)) (aZ Sx.c0)).k) nj, .int .u64 ((eY Sx.cd (aZ (Sx.c0.take (rd ((bA 0 (aU aO b))++([257])) i).toNat)) (rd Sx.c0 (rd ((bA 0 (aU aO b))++([257])) i)) (aZ Sx.c0)).N%4294967296), .int .u64 ((eY Sx.cd (aZ (Sx.c0.take (rd ((bA 0 (aU aO b))++([257])) i).toNat)) (rd Sx.c0 (rd ((bA 0 (aU aO b))++([257])) i)) (aZ Sx.c0)).R)]),(ru 5 nf ((eY Sx.cd (aZ (Sx.c0.take (rd ((bA 0 (aU aO b))++([257])) i).toNat)) (rd Sx.c0 (rd ((bA 0 (aU aO b))++([257])) i)) (aZ Sx.c0)).k) nj (beL (eY Sx.cd (aZ (Sx.c0.take (rd ((bA 0 (aU aO b))++([257])) i).toNat)) (rd Sx.c0 (rd ((bA 0 (aU aO b))++([257])) i)) (aZ Sx.c0)).k ((eY Sx.cd (aZ (Sx.c0.take (rd ((bA 0 (aU aO b))++([257])) i).toNat)) (rd Sx.c0 (rd ((bA 0 (aU aO b))++([257])) i)) (aZ Sx.c0)).N/4294967296))),(ri 3 (GG ge) 1 1 ([257])),(ri 3 gl (((bA 0 (aU aO b)).length)+1) gn ((bA 0 (aU aO b))++([257]))),(ru 5 fd ((b).length) fg (aU aO b)),(rc 256 2 ew [sl en 258 mn,I (aZ Sx.c1)]),(ri 3 en 258 mn Sx.c1),(rc 256 2 gg [sl du 258 bh,I (aZ Sx.c2)]),(ri 3 du 258 bh Sx.c2)]) (λ_ h=>h.sel [7,2,3,0,1,4,5,6,8,9,10,11] cC Z) (JZ hk (by rw[cg.1.1.1.1];exact hx) cg.1.1.1))) ?_;rintro _ _ ⟨rfl,rfl⟩;refine aA<|aN<|wA Z Z<|wm Z<|aA ?_;exact⟨i+1,nf,nj,(⟨jS Sx.c0 (rd (bM b) i),Sx.c1,Sx.c2,iE (rd (bM b) i),qE Sx.cd Sx.c0 (rd (bM b) i)⟩:PpS),⟨G,G,(mM hS ar G (TK hk))⟩,G,SA,λ_ h=>h.sel [5,6,7,3,4,0,1,2,8,9,10,11] cC Z⟩
  ·refine wm Z<|wa (aF nD Z (Ct.at 5 Z (nW hk))) ?_;rintro _ _ ⟨rfl,rfl⟩;refine wm Z<|wa (aF RS Z (Ct.sub (R1:=[(rc 256 2 ew [sl en 258 mn,I (aZ Sx.c1)]),(ri 3 en 258 mn Sx.c1),(ri 3 (GG ge) 1 1 ([257])),(ri 3 gl (((bA 0 (aU aO b)).length)+1) gn ((bA 0 (aU aO b))++([257]))),(ru 5 fd ((b).length) fg (aU aO b)),(rc 253 3 go [sl Aw Sx.cd.k cw, .int .u64 (Sx.cd.N%4294967296), .int .u64 Sx.cd.R]),(ru 5 Aw Sx.cd.k cw (beL Sx.cd.k (Sx.cd.N/4294967296))),(rc 250 5 an [PG cm,PG ew,PG gg,I Sx.cls,I o]),(rc 256 2 cm [sl fb 258 dp,I (aZ Sx.c0)]),(ri 3 fb 258 dp Sx.c0),(rc 256 2 gg [sl du 258 bh,I (aZ Sx.c2)]),(ri 3 du 258 bh Sx.c2)]) (λ_ h=>h.sel [8,9,0,1,2,3,4,5,6,7,10,11] cC Z) (kP (by rw[cg.1.1.2.1.1]) (by rw[cg.1.1.2.1.1];exact hx) cg.1.1.2.1))) ?_;rintro _ _ ⟨rfl,rfl⟩;refine wm Z<|wX Z Z<|wX Z Z<|wX Z Z<|wg Z<|wg Z<|wn Z<|wq<|wm Z<|wm Z<|wm Z<|wm Z<|wa (aF nD Z (Ct.at 7 Z (nW hk))) ?_;rintro _ _ ⟨rfl,rfl⟩;refine wa (aF MM Z (Ct.sub (R1:=[(rc 256 2 ew [sl en 258 mn,I (aZ Sx.c1)]),(ri 3 en 258 mn Sx.c1),(ri 3 (GG ge) 1 1 ([257])),(ri 3 gl (((bA 0 (aU aO b)).length)+1) gn ((bA 0 (aU aO b))++([257]))),(ru 5 fd ((b).length) fg (aU aO b)),(rc 253 3 go [sl Aw Sx.cd.k cw, .int .u64 (Sx.cd.N%4294967296), .int .u64 Sx.cd.R]),(ru 5 Aw Sx.cd.k cw (beL Sx.cd.k (Sx.cd.N/4294967296))),(rc 250 5 an [PG cm,PG ew,PG gg,I Sx.cls,I o]),(rc 256 2 cm [sl fb 258 dp,I (aZ Sx.c0)]),(ri 3 fb 258 dp Sx.c0),(rc 256 2 gg [sl du 258 bh,I (aZ Sx.c2)]),(ri 3 du 258 bh Sx.c2)]) (λ_ h=>h) (iY))) ?_;rintro _ _ ⟨rfl,rfl⟩;refine wa (aF aWo Z (Ct.sub (R1:=[(rc 253 3 go [sl Aw Sx.cd.k cw, .int .u64 (Sx.cd.N%4294967296), .int .u64 Sx.cd.R]),(ru 5 Aw Sx.cd.k cw (beL Sx.cd.k (Sx.cd.N/4294967296))),(rc 256 2 ew [sl en 258 mn,I (aZ Sx.c1)]),(ri 3 en 258 mn Sx.c1),(ri 3 (GG ge) 1 1 ([257])),(ri 3 gl (((bA 0 (aU aO b)).length)+1) gn ((bA 0 (aU aO b))++([257]))),(ru 5 fd ((b).length) fg (aU aO b)),(rc 250 5 an [PG cm,PG ew,PG gg,I Sx.cls,I o]),(rc 256 2 cm [sl fb 258 dp,I (aZ Sx.c0)]),(ri 3 fb 258 dp Sx.c0),(rc 256 2 gg [sl du 258 bh,I (aZ Sx.c2)]),(ri 3 du 258 bh Sx.c2)]) (λ_ h=>h.sel [5,6,0,1,2,3,4,7,8,9,10,11] cC Z) (KR Z cg.1.2.2 (jT cg.1.1.2.1 hx.1 hx.2) G))) ?_;rintro _ _ ⟨ox,oy,rfl,rfl⟩;refine aA<|aN<|wm Z<|wm Z<|wa (aF RQ Z (Ct.sub (R1:=[(rc 250 5 an [PG cm,PG ew,PG gg,I Sx.cls,I o]),(rc 256 2 ew [sl en 258 mn,I (aZ Sx.c1)]),(ri 3 en 258 mn Sx.c1),(rc 253 3 go [sl ox ((eY Sx.cd (aZ (Sx.c1.take (rd ((bA 0 (aU aO b))++([257])) i).toNat)) (rd Sx.c1 (rd ((bA 0 (aU aO b))++([257])) i)) (aZ Sx.c1)).k) oy, .int .u64 ((eY Sx.cd (aZ (Sx.c1.take (rd ((bA 0 (aU aO b))++([257])) i).toNat)) (rd Sx.c1 (rd ((bA 0 (aU aO b))++([257])) i)) (aZ Sx.c1)).N%4294967296), .int .u64 ((eY Sx.cd (aZ (Sx.c1.take (rd ((bA 0 (aU aO b))++([257])) i).toNat)) (rd Sx.c1 (rd ((bA 0 (aU aO b))++([257])) i)) (aZ Sx.c1)).R)]),(ru 5 ox ((eY Sx.cd (aZ (Sx.c1.take (rd ((bA 0 (aU aO b))++([257])) i).toNat)) (rd Sx.c1 (rd ((bA 0 (aU aO b))++([257])) i)) (aZ Sx.c1)).k) oy (beL (eY Sx.cd (aZ (Sx.c1.take (rd ((bA 0 (aU aO b))++([257])) i).toNat)) (rd Sx.c1 (rd ((bA 0 (aU aO b))++([257])) i)) (aZ Sx.c1)).k ((eY Sx.cd (aZ (Sx.c1.take (rd ((bA 0 (aU aO b))++([257])) i).toNat)) (rd Sx.c1 (rd ((bA 0 (aU aO b))++([257])) i)) (aZ Sx.c1)).N/4294967296))),(ri 3 (GG ge) 1 1 ([257])),(ri 3 gl (((bA 0 (aU aO b)).length)+1) gn ((bA 0 (aU aO b))++([257]))),(ru 5 fd ((b).length) fg (aU aO b)),(rc 256 2 cm [sl fb 258 dp,I (aZ Sx.c0)]),(ri 3 fb 258 dp Sx.c0),(rc 256 2 gg [sl du 258 bh,I (aZ Sx.c2)]),(ri 3 du 258 bh Sx.c2)]) (λ_ h=>h.sel [7,2,3,0,1,4,5,6,8,9,10,11] cC Z) (JY hk (by rw[cg.1.1.2.1.1];exact hx) cg.1.1.2.1))) ?_;rintro _ _ ⟨rfl,rfl⟩;refine aA<|aN<|wA Z Z<|wm Z<|aA ?_;exact⟨i+1,ox,oy,(⟨Sx.c0,jS Sx.c1 (rd (bM b) i),Sx.c2,iE (rd (bM b) i),qE Sx.cd Sx.c1 (rd (bM b) i)⟩:PpS),⟨G,G,(mM hS ar G (TJ hk))⟩,G,SA,λ_ h=>h.sel [5,6,7,3,4,0,8,9,1,2,10,11] cC Z⟩
  ·refine wm Z<|wa (aF nD Z (Ct.at 5 Z (nU hk))) ?_;rintro _ _ ⟨rfl,rfl⟩;refine wm Z<|wa (aF RS Z (Ct.sub (R1:=[(rc 256 2 gg [sl du 258 bh,I (aZ Sx.c2)]),(ri 3 du 258 bh Sx.c2),(ri 3 (GG ge) 1 1 ([257])),(ri 3 gl (((bA 0 (aU aO b)).length)+1) gn ((bA 0 (aU aO b))++([257]))),(ru 5 fd ((b).length) fg (aU aO b)),(rc 253 3 go [sl Aw Sx.cd.k cw, .int .u64 (Sx.cd.N%4294967296), .int .u64 Sx.cd.R]),(ru 5 Aw Sx.cd.k cw (beL Sx.cd.k (Sx.cd.N/4294967296))),(rc 250 5 an [PG cm,PG ew,PG gg,I Sx.cls,I o]),(rc 256 2 cm [sl fb 258 dp,I (aZ Sx.c0)]),(ri 3 fb 258 dp Sx.c0),(rc 256 2 ew [sl en 258 mn,I (aZ Sx.c1)]),(ri 3 en 258 mn Sx.c1)]) (λ_ h=>h.sel [10,11,0,1,2,3,4,5,6,7,8,9] cC Z) (kP (by rw[cg.1.1.2.2.1]) (by rw[cg.1.1.2.2.1];exact hx) cg.1.1.2.2))) ?_;rintro _ _ ⟨rfl,rfl⟩;refine wm Z<|wX Z Z<|wX Z Z<|wX Z Z<|wg Z<|wg Z<|wn Z<|wq<|wm Z<|wm Z<|wm Z<|wm Z<|wa (aF nD Z (Ct.at 7 Z (nU hk))) ?_;rintro _ _ ⟨rfl,rfl⟩;refine wa (aF MM Z (Ct.sub (R1:=[(rc 256 2 gg [sl du 258 bh,I (aZ Sx.c2)]),(ri 3 du 258 bh Sx.c2),(ri 3 (GG ge) 1 1 ([257])),(ri 3 gl (((bA 0 (aU aO b)).length)+1) gn ((bA 0 (aU aO b))++([257]))),(ru 5 fd ((b).length) fg (aU aO b)),(rc 253 3 go [sl Aw Sx.cd.k cw, .int .u64 (Sx.cd.N%4294967296), .int .u64 Sx.cd.R]),(ru 5 Aw Sx.cd.k cw (beL Sx.cd.k (Sx.cd.N/4294967296))),(rc 250 5 an [PG cm,PG ew,PG gg,I Sx.cls,I o]),(rc 256 2 cm [sl fb 258 dp,I (aZ Sx.c0)]),(ri 3 fb 258 dp Sx.c0),(rc 256 2 ew [sl en 258 mn,I (aZ Sx.c1)]),(ri 3 en 258 mn Sx.c1)]) (λ_ h=>h) (iY))) ?_;rintro _ _ ⟨rfl,rfl⟩;refine wa (aF aWo Z (Ct.sub (R1:=[(rc 253 3 go [sl Aw Sx.cd.k cw, .int .u64 (Sx.cd.N%4294967296), .int .u64 Sx.cd.R]),(ru 5 Aw Sx.cd.k cw (beL Sx.cd.k (Sx.cd.N/4294967296))),(rc 256 2 gg [sl du 258 bh,I (aZ Sx.c2)]),(ri 3 du 258 bh Sx.c2),(ri 3 (GG ge) 1 1 ([257])),(ri 3 gl (((bA 0 (aU aO b)).length)+1) gn ((bA 0 (aU aO b))++([257]))),(ru 5 fd ((b).length) fg (aU aO b)),(rc 250 5 an [PG cm,PG ew,PG gg,I Sx.cls,I o]),(rc 256 2 cm [sl fb 258 dp,I (aZ Sx.c0)]),(ri 3 fb 258 dp Sx.c0),(rc 256 2 ew [sl en 258 mn,I (aZ Sx.c1)]),(ri 3 en 258 mn Sx.c1)]) (λ_ h=>h.sel [5,6,0,1,2,3,4,7,8,9,10,11] cC Z) (KR Z cg.1.2.2 (jT cg.1.1.2.2 hx.1 hx.2) G))) ?_;rintro _ _ ⟨pj,pk,rfl,rfl⟩;refine aA<|aN<|wm Z<|wm Z<|wa (aF RQ Z (Ct.sub (R1:=[(rc 250 5 an [PG cm,PG ew,PG gg,I Sx.cls,I o]),(rc 256 2 gg [sl du 258 bh,I (aZ Sx.c2)]),(ri 3 du 258 bh Sx.c2),(rc 253 3 go [sl pj ((eY Sx.cd (aZ (Sx.c2.take (rd ((bA 0 (aU aO b))++([257])) i).toNat)) (rd Sx.c2 (rd ((bA 0 (aU aO b))++([257])) i)) (aZ Sx.c2)).k) pk, .int .u64 ((eY Sx.cd (aZ (Sx.c2.take (rd ((bA 0 (aU aO b))++([257])) i).toNat)) (rd Sx.c2 (rd ((bA 0 (aU aO b))++([257])) i)) (aZ Sx.c2)).N%4294967296), .int .u64 ((eY Sx.cd (aZ (Sx.c2.take (rd ((bA 0 (aU aO b))++([257])) i).toNat)) (rd Sx.c2 (rd ((bA 0 (aU aO b))++([257])) i)) (aZ Sx.c2)).R)]),(ru 5 pj ((eY Sx.cd (aZ (Sx.c2.take (rd ((bA 0 (aU aO b))++([257])) i).toNat)) (rd Sx.c2 (rd ((bA 0 (aU aO b))++([257])) i)) (aZ Sx.c2)).k) pk (beL (eY Sx.cd (aZ (Sx.c2.take (rd ((bA 0 (aU aO b))++([257])) i).toNat)) (rd Sx.c2 (rd ((bA 0 (aU aO b))++([257])) i)) (aZ Sx.c2)).k ((eY Sx.cd (aZ (Sx.c2.take (rd ((bA 0 (aU aO b))++([257])) i).toNat)) (rd Sx.c2 (rd ((bA 0 (aU aO b))++([257])) i)) (aZ Sx.c2)).N/4294967296))),(ri 3 (GG ge) 1 1 ([257])),(ri 3 gl (((bA 0 (aU aO b)).length)+1) gn ((bA 0 (aU aO b))++([257]))),(ru 5 fd ((b).length) fg (aU aO b)),(rc 256 2 cm [sl fb 258 dp,I (aZ Sx.c0)]),(ri 3 fb 258 dp Sx.c0),(rc 256 2 ew [sl en 258 mn,I (aZ Sx.c1)]),(ri 3 en 258 mn Sx.c1)]) (λ_ h=>h.sel [7,2,3,0,1,4,5,6,8,9,10,11] cC Z) (JX hk (by rw[cg.1.1.2.2.1];exact hx) cg.1.1.2.2))) ?_;rintro _ _ ⟨rfl,rfl⟩;refine aA<|aN<|wA Z Z<|wm Z<|aA ?_;exact⟨i+1,pj,pk,(⟨Sx.c0,Sx.c1,jS Sx.c2 (rd (bM b) i),iE (rd (bM b) i),qE Sx.cd Sx.c2 (rd (bM b) i)⟩:PpS),⟨G,G,(mM hS ar G (TI hk))⟩,G,SA,λ_ h=>h.sel [5,6,7,3,4,0,8,9,10,11,1,2] cC Z⟩
 ·refine aY<|wq<|wm Z<|wa (aF bNc Z (Ct.sub (R1:=[(rc 253 3 go [sl Aw Sx.cd.k cw, .int .u64 (Sx.cd.N%4294967296), .int .u64 Sx.cd.R]),(ru 5 Aw Sx.cd.k cw (beL Sx.cd.k (Sx.cd.N/4294967296))),(ri 3 (GG ge) 1 1 ([257])),(ri 3 gl (((bA 0 (aU aO b)).length)+1) gn ((bA 0 (aU aO b))++([257]))),(ru 5 fd ((b).length) fg (aU aO b)),(rc 250 5 an [PG cm,PG ew,PG gg,I Sx.cls,I o]),(rc 256 2 cm [sl fb 258 dp,I (aZ Sx.c0)]),(ri 3 fb 258 dp Sx.c0),(rc 256 2 ew [sl en 258 mn,I (aZ Sx.c1)]),(ri 3 en 258 mn Sx.c1),(rc 256 2 gg [sl du 258 bh,I (aZ Sx.c2)]),(ri 3 du 258 bh Sx.c2)]) (λ_ h=>h.sel [3,4,0,1,2,5,6,7,8,9,10,11] cC Z) (aVp Z G))) ?_;rintro _ _ ⟨k7,l5,rfl,rfl⟩;refine wg Z<|wn Z<|bS (R1:=[(ru 5 k7 (Sx.cd.k+4) l5 (beL (Sx.cd.k+4) Sx.cd.N))]) (λ_ h=>h.sel [0] cC Z) ?_;refine⟨_,_,Z,Z,?_⟩;rw[bn G] at hS;have e:(bZ b o).length=Sx.cd.k+4:=by unfold bZ;rw[jR,<-hS]
  have e2:bZ b o=beL (Sx.cd.k+4) Sx.cd.N:=by unfold bZ;rw[<-hS]
  rw[e,e2];exact⟨_,_,Z,Z⟩
end Go.Proofs.YtdbebmmhdefgdaaGreat
namespace Go.Pure
open Go Go.Eng
variable {k i b d s r x:Int} {t l:List Int} {B:Nat} {w0:World} {R:List Row} {vals:List Value} {ls:List (List Int)}
def RU (x:BitVec 32):BitVec 32:=if x &&& 1#32=1#32 then(x>>>1)^^^3988292384#32 else x>>>1
def FB:Nat->BitVec 32->BitVec 32
 |0,x=>x
 |k+1,x=>FB k (RU x)
def OZ (x:BitVec 32):BitVec 32:=FB 8 x
theorem xU {x:BitVec 32} (h:k<8):FB (8-k).toNat x=FB (8-(k+1)).toNat (RU x):=by
 have e:(8-k).toNat=(8-(k+1)).toNat+1:=G
 rw[e];rfl
def aBx (x:BitVec 32) (b:Int):BitVec 32:=(x &&& 255#32)^^^BitVec.ofInt 32 b
def bNo (x:BitVec 32) (b:Int):BitVec 32:=(x>>>8)^^^OZ (aBx x b)
def CV (x:BitVec 32) (l:List Int):BitVec 32:=l.foldl bNo x
def iH (l:List Int):BitVec 32:=CV 4294967295#32 l^^^4294967295#32
def rR:List Int:=(List.range 256).map λi=>bv (OZ (BitVec.ofNat 32 i))
theorem wQ:rR.length=256:=by unfold rR;rw[bz,Gu]
theorem aJr {i:Nat} (h:i<256):rR[i]? =some (bv (OZ (BitVec.ofNat 32 i))):=by
 unfold rR;rw[sj,Af h];rfl
theorem QS (i:Nat):BitVec.ofInt 32 (i:Int)=BitVec.ofNat 32 i:=rfl
theorem aBw {x:BitVec 32} (hb:0<=b/\b<256):(aBx x b).toNat=(x.toNat%256)^^^b.toNat:=by
 obtain⟨b,rfl⟩: ∃m:Nat,b=m:=⟨b.toNat,G⟩;unfold aBx;have e1:(255#32).toNat=2^8-1:=rfl;have e2:(BitVec.ofInt 32 (b:Int)).toNat=b:=by rw[QS,BitVec.toNat_ofNat];omega
 rw[BitVec.toNat_xor,BitVec.toNat_and,e1,e2,Dw,cu]
theorem IZ {x:BitVec 32} (hb:0<=b/\b<256):0<=bv (aBx x b)/\bv (aBx x b)<256:=by
 have h:(aBx x b).toNat<2^8:=by
  rw[aBw hb];exact Nat.xor_lt_two_pow (by have:=yw x.toNat (show 0<256 by omega);omega) G
 unfold bv;omega
theorem bFh {x:BitVec 32} (hb:0<=b/\b<256):((BitVec.ofInt 8 (IntKind.u8.wrap (bv x))^^^BitVec.ofInt 8 b).toNat:Int)=bv (aBx x b):=by
 have h:=aBw (x:=x) hb;unfold bv;rw[h,BitVec.toNat_xor,zh,zh,Ck];have e1:(((x.toNat:Int)%256)%((2^8:Nat):Int)).toNat=x.toNat%256:=G
 have e2:(b%((2^8:Nat):Int)).toNat=b.toNat:=G
 rw[e1,e2]
def uO (d s r:Int) (t:List Int):List Value:=[.int .u32 d, .int .i32 s, .int .u32 0, .int .i32 r]++ints .u32 t
def dN (T g:Nat) (d s r:Int) (t:List Int):Row:=⟨T,260,some ⟨g,0,none⟩,1,1,uO d s r t,false⟩
theorem FC (d s r:Int) (t:List Int):(uO d s r t).length=4+t.length:=by
 unfold uO;rw[ah,cZ];rfl
theorem aXg {i:Nat} (h:t[i]? =some x):(uO d s r t)[4+i]? =some (.int .u32 x):=by
 unfold uO;rw[ig cD];simp[ints,h]
theorem aOv {i:Nat}:(uO d s r t).set (4+i) (.int .u32 x)=uO d s r (t.set i x):=by
 unfold uO ints;rw[Dv _ _ cD,List.map_set];simp
theorem aOu (ht:t.length=256) (h0:0<=k) (h1:k<256):(rR.take k.toNat++t.drop k.toNat).set k.toNat (bv (OZ (BitVec.ofInt 32 k)))=rR.take (k+1).toNat++t.drop (k+1).toNat:=by
 obtain⟨k,rfl⟩: ∃m:Nat,k=m:=⟨k.toNat,G⟩;have e:((k:Int)+1).toNat=k+1:=G
 rw[e,cu,QS];have hk:k<rR.length:=by rw[wQ];omega
 have hl:(rR.take k).length=k:=by rw[ax];omega
 rw[Dv _ _ G,hl,za,ku (by omega:k<t.length),Ga,su,aJr G];simp
theorem bCo {x:BitVec 32} (h:bv x<256):rR[(bv x).toNat]? =some (bv (OZ x)):=by
 have e:(bv x).toNat=x.toNat:=by unfold bv;rw[cu]
 rw[e,aJr (by unfold bv at h;omega),BitVec.ofNat_toNat,BitVec.setWidth_eq]
def zJ (B:Nat) (w0:World) (R:List Row) (vals:List Value) (ls:List (List Int)):Prop:=vals.length=ls.length/\ ∀(j:Nat) (v:Value),vals[j]? =some v-> ∃(A:Option Addr) (c:Nat) (l:List Int),v=Value.slice A l.length c/\ls[j]? =some l/\RdC B w0 R A l.length c 1 (ints .u8 l)/\aR l
theorem zJ.at (h:zJ B w0 R vals ls) (h0:0<=i) (h1:i<vals.length): ∃(A:Option Addr) (c:Nat) (l:List Int),vals[i.toNat]? =some (Value.slice A l.length c)/\ls[i.toNat]? =some l/\RdC B w0 R A l.length c 1 (ints .u8 l)/\aR l:=by
 have bc:i.toNat<vals.length:=G
 obtain⟨A,c,l,e,h2,h3,h4⟩:=h.2 i.toNat _ (av bc);exact⟨A,c,l,by rw[av bc,e],h2,h3,h4⟩
theorem zJ.one {A:Option Addr} {c n:Nat} (h:RdC B w0 R A n c 1 (ints .u8 l)) (hb:aR l) (hn:n=l.length):zJ B w0 R [.slice A n c] [l]:=by
 subst hn
 exact⟨rfl,λj v hv=>by
  cases j with
  |zero=>exact⟨A,c,l,by simpa using hv.symm,rfl,h,hb⟩
  |succ j=>simp at hv⟩
theorem zJ.of {w:World} (h:SlW .u8 w vals ls):zJ w.heap.size w R vals ls:=
 ⟨h.1,λj v hv=>by
  have bc:j<ls.length:=by rw[<-h.1];exact(dw.1 hv).1
  obtain⟨A,c,h1,h2,h3,_⟩:=h.2 j bc;rw[h1] at hv;have e:ls.getD j []=ls[j]:=by simp[ai,av bc]
  rw[e] at hv h2 h3
  exact⟨A,c,ls[j],(jc hv).symm,av bc,h2.c R,wR h3⟩⟩
def Big (ls:List (List Int)):Prop:=ls.length<=1000000/\ ∀(j:Nat) (l:List Int),ls[j]? =some l->l.length<=1000000
theorem Big.one (h:l.length<=1000000):Big [l]:=⟨cD,λj q hq=>by
 cases j with
 |zero=>simp at hq;subst hq;exact h
 |succ j=>simp at hq⟩
theorem Big.nil:Big []:=⟨cD,λj q hq=>by simp at hq⟩
theorem Big.snoc {q:List Int} (h:Big ls) (h1:ls.length<1000000) (h2:q.length<=1000000):Big (ls++[q]):=⟨cH,λj r hr=>by
 rw[List.getElem?_append] at hr;split at hr
 ·exact h.2 j r hr
 ·rename_i hj
  have hz:j-ls.length=0:=by
   rcases dz (j-ls.length) with e|e
   ·exact e
   ·rw[mf cH] at hr;cases hr
  rw[hz] at hr;simp at hr
  rw[<-hr];exact h2⟩
theorem zJ.nil:zJ B w0 R [] []:=⟨rfl,λj v hv=>by simp at hv⟩
theorem aOq (h0:0<=i) (h:ls[i.toNat]? =some l):(ls.drop i.toNat).flatten=l++(ls.drop (i+1).toNat).flatten:=by
 have bc:i.toNat<ls.length:=(dw.1 h).1;have e:(i+1).toNat=i.toNat+1:=G
 rw[ku bc,(dw.1 h).2,e];rfl
theorem NI {x:BitVec 32} {m:List Int} (h0:0<=i) (h:i<l.length):CV x (l.drop i.toNat++m)=CV (bNo x (rd l i)) (l.drop (i+1).toNat++m):=by
 rw[iT h0 h];rfl
theorem MN {α:Type} {l:List α} (h:(l.length:Int)<=i):l.drop i.toNat=[]:=oq G
end Go.Pure
namespace Go.Proofs.YtdbebmmhdefgdaaGreat
open Go Go.Eng Go.Pure
theorem FV (w:World):(callFunc 306 #[]).run Tryz.prog w= .ok (.value (.tuple #[])) w:=run_call_mark0 Tryz.func306 cA cA cA .disable cA w
theorem KO (w:World):(callFunc 308 #[]).run Tryz.prog w= .ok (.value (.tuple #[])) w:=run_call_mark0 Tryz.func308 cA cA cA .enable cA w
theorem YP (a:Addr) (w:World):(callFunc 309 #[.pointer (some a)]).run Tryz.prog w= .ok (.value (.tuple #[])) w:=run_call_marked Tryz.func309 cA cA cA .acquire cA a w
theorem EG (a:Addr) (w:World):(callFunc 311 #[.pointer (some a)]).run Tryz.prog w= .ok (.value (.tuple #[])) w:=run_call_marked Tryz.func311 cA cA cA .releaseMerge cA a w
theorem OA (a:Addr) (x:Value) (u:FrameMode) (w:World) (hc:w.cell? a=some x) (hz:w.frozen? a=false):
  CallsD Tryz.prog 256 #[.pointer (some a), .bool true] u w λe u' w'=>u'=u/\(e= .returned (.tuple #[])/\w'=w.drew.setCell a (.int .u32 1)):=by
 have Xg:w.drew.cell? a=some x:=by go_simp
 have hz':w.drew.frozen? a=false:=by go_simp
 have gv:=run_call_store (P:=Tryz.prog) Tryz.func288 cA cA cA cA (k:= .u32) (y:=1) Xg hz'
 go_enter_d Tryz.func256,Tryz.ntmps256
 go_wp2
 go_region_calls
 all_goals (go_end0;exact⟨rfl,rfl⟩)
set_option maxRecDepth 100000 in
theorem JO (a:Addr) (u:FrameMode) (w:World) (hc:w.cell? a=some (.int .i32 1)) (hz:w.frozen? a=false):
  CallsD Tryz.prog 255 #[.pointer (some a)] u w λe u' w'=>u'=u/\(e= .returned (.tuple #[])/\w'=w.setCell a (.int .i32 0)):=by
 have hd:=FV;have he:=KO;have hr:=EG;have Kz:=Fv (P:=Tryz.prog) Tryz.func257 cA cA cA .i32 cA (y:= -1) (s:=0) hc hz (by simp[go_sem];rfl);have hcv:=run_convert_to_unsafe (P:=Tryz.prog) (src:=340) (dst:=343) Tryz.underlying340 Tryz.underlying343 cA hc
 go_enter_d Tryz.func255,Tryz.ntmps255
 go_wp2
 go_end0
 go_wp2
 go_end0
 exact⟨rfl,rfl⟩
set_option maxRecDepth 100000 in
theorem aUc (a:Addr) (w:World) (hc:w.cell? a=some (.int .i32 0)) (hz:w.frozen? a=false):
  Calls Tryz.prog 254 #[.pointer (some a)] w λe w'=>e= .returned (.tuple #[])/\w'=w.setCell a (.int .i32 1):=by
 have hd:=FV;have he:=KO;have ha:=YP;have hcas:=run_call_cas_hit (P:=Tryz.prog) Tryz.func307 cA cA cA .i32 cA (y:=1) hc hz;have Xg:(w.setCell a (.int .i32 1)).cell? a=some (.int .i32 1):=World.cell?_setCell_same w a _ hc;have hcv:=run_convert_to_unsafe (P:=Tryz.prog) (src:=340) (dst:=343) Tryz.underlying340 Tryz.underlying343 cA Xg
 go_enter Tryz.func254,Tryz.ntmps254
 go_wp2
 first|go_end0|(simp only[Exit.inBlock,Exit.then];refine bodyPost_ret (results_none rfl _ _ _) rfl ?_)|refine bodyPost_ret (results_none rfl _ _ _) rfl ?_
 go_wp2
 go_end0
 exact⟨rfl,rfl⟩
section
variable {B:Nat} {w0:World} {R:List Row} {T g:Nat} {r r':Int} {t t':List Int}
theorem CK {w:World} {d s:Int} (h:Hp B w0 w (dN T g d s r t::R)) (j:Nat):w.frozen? ⟨g,j,none⟩=false:=h.openAt 0 j rfl rfl rfl
theorem CO {w:World} {d s:Int} (h:Hp B w0 w (dN T g d s r t::R)):w.cell? ⟨g,0,none⟩=some (.int .u32 d):=h.cellAt 0 (r:=dN T g d s r t) (j:=0) rfl rfl rfl
theorem aBn {w:World} {d s:Int} (h:Hp B w0 w (dN T g d s r t::R)):w.cell? ⟨g,1,none⟩=some (.int .i32 s):=h.cellAt 0 (r:=dN T g d s r t) (j:=1) rfl rfl rfl
theorem aXe {w:World} {d s:Int} (h:Hp B w0 w (dN T g d s r t::R)):w.cell? ⟨g,3,none⟩=some (.int .i32 r):=h.cellAt 0 (r:=dN T g d s r t) (j:=3) rfl rfl rfl
theorem aBm {w:World} {d s:Int} (h:Hp B w0 w (dN T g d s r t::R)) (x:Int):Hp B w0 (w.setCell ⟨g,0,none⟩ (.int .u32 x)) (dN T g x s r t::R):=h.set1 0 (r:=dN T g d s r t) (j:=0) (v:= .int .u32 x) rfl rfl rfl
theorem GD {w:World} {d s:Int} (h:Hp B w0 w (dN T g d s r t::R)) (x:Int):Hp B w0 (w.setCell ⟨g,1,none⟩ (.int .i32 x)) (dN T g d x r t::R):=h.set1 0 (r:=dN T g d s r t) (j:=1) (v:= .int .i32 x) rfl rfl rfl
theorem aBl {w:World} {d s:Int} (h:Hp B w0 w (dN T g d s r t::R)) (x:Int):Hp B w0 (w.setCell ⟨g,3,none⟩ (.int .i32 x)) (dN T g d s x t::R):=h.set1 0 (r:=dN T g d s r t) (j:=3) (v:= .int .i32 x) rfl rfl rfl
theorem aXf {w:World} {R:List Row} (h:Hp B w0 w R):Hp B w0 w.drew R:=h.drawn _ (Ep _)
set_option maxRecDepth 100000 in
set_option maxHeartbeats 1600000 in
theorem aTo {w:World} (hh:Hp B w0 w (dN T g 0 0 r t::R)) (hm: ∀w,Hp B w0 w (dN T g 0 1 r t::R)->Calls Tryz.prog 137 #[.pointer (some ⟨g,0,none⟩)] w λe w'=>e= .returned (.tuple #[])/\Hp B w0 w' (dN T g 0 1 r' t'::R)):
  Calls Tryz.prog 208 #[.pointer (some ⟨g,0,none⟩), .func (.func 137) #[.pointer (some ⟨g,0,none⟩)] #[]] w λe w'=>e= .returned (.tuple #[])/\Hp B w0 w' (dN T g 1 0 r' t'::R):=by
 have h1:=GD hh 1;have hl:=run_call_load (P:=Tryz.prog) Tryz.func253 cA cA cA .u32 cA (CO h1);have n8: ∀(x:Bool) (w:World),(Op.unary .not (.bool x)).run Tryz.prog w= .ok (.bool (!x)) w:=λ_ _=>rfl;have k1:=aBn hh;have k2:=CK hh 1
 go_enter_defers Tryz.func208,Tryz.ntmps208
 go_wp2_with (first|(go_at_call 254;refine(aUc ⟨g,1,none⟩ _ (by go_simp) (by go_simp)).mono ?_;rintro e w' ⟨rfl,rfl⟩)|(go_at_call 137;refine(hm _ h1).mono ?_;rintro e w' ⟨rfl,h2⟩)|(go_at_call 207;go_in))
 refine leaves_cons (f:=256) (args:= #[.pointer (some ⟨g,0,none⟩), .bool true]) cD (by simp[go_sem]) ?_;refine(OA ⟨g,0,none⟩ _ .returning _ (CO h2) (CK h2 0)).mono ?_;rintro e u' Lz ⟨rfl,rfl,rfl⟩;have h3:=aBm (aXf h2) 1;refine leaves_cons (f:=255) (args:= #[.pointer (some ⟨g,1,none⟩)]) (by simp[settle]) (by simp[go_sem]) ?_;refine(JO ⟨g,1,none⟩ _ _ (aBn h3) (CK h3 1)).mono ?_;rintro e u' Lz ⟨rfl,rfl,rfl⟩;have h4:=GD h3 0;simp[Leaves,settle,results,Tryz.results208];exact h4
set_option maxRecDepth 100000 in
set_option maxHeartbeats 1600000 in
theorem aMs (hm: ∀w,Hp B w0 w (dN T g 0 1 r t::R)->Calls Tryz.prog 137 #[.pointer (some ⟨g,0,none⟩)] w λe w'=>e= .returned (.tuple #[])/\Hp B w0 w' (dN T g 0 1 r' t'::R)):
  Ct Tryz.prog 136 #[.pointer (some ⟨g,0,none⟩), .func (.func 137) #[.pointer (some ⟨g,0,none⟩)] #[]] B w0 (dN T g 0 0 r t::R) (λv R'=>v= .tuple #[]/\R'=dN T g 1 0 r' t'::R):=by
 intro w hh;have hl:=run_call_load (P:=Tryz.prog) Tryz.func253 cA cA cA .u32 cA (CO hh);have n8: ∀(x:Bool) (w:World),(Op.unary .not (.bool x)).run Tryz.prog w= .ok (.bool (!x)) w:=λ_ _=>rfl
 go_enter Tryz.func136,Tryz.ntmps136
 go_wp2_with (first|(go_at_call 208;refine(aTo hh hm).mono ?_;rintro e w' ⟨rfl,h2⟩)|(go_at_call 207;go_in))
 go_end0
 exact⟨_,_,rfl,h2,rfl,rfl⟩
theorem aTp {fv:Value}:Ct Tryz.prog 136 #[.pointer (some ⟨g,0,none⟩),fv] B w0 (dN T g 1 0 r t::R) (λv R'=>v= .tuple #[]/\R'=dN T g 1 0 r t::R):=by
 intro w hh;have hl:=run_call_load (P:=Tryz.prog) Tryz.func253 cA cA cA .u32 cA (CO hh);have n8: ∀(x:Bool) (w:World),(Op.unary .not (.bool x)).run Tryz.prog w= .ok (.bool (!x)) w:=λ_ _=>rfl
 go_enter Tryz.func136,Tryz.ntmps136
 go_wp2
 go_end0
 exact⟨_,_,rfl,hh,rfl,rfl⟩
theorem aZo (hr:0<=r/\r<1000000): ∀ {d s:Int} {w:World},Hp B w0 w (dN T g d s r t::R)-> ∃w',(callFunc 257 #[.pointer (some ⟨g,3,none⟩), .int .i32 1]).run Tryz.prog w= .ok (.value (.int .i32 (r+1))) w'/\Hp B w0 w' (dN T g d s (r+1) t::R):=by
 intro d s w hh;refine⟨_,Fv (P:=Tryz.prog) Tryz.func257 cA cA cA .i32 cA (y:=1) (s:=r+1) (aXe hh) (CK hh 3) ?_,aBl hh (r+1)⟩;have:IntKind.i32.wrap (r+1)=r+1:=by rw[IntKind.wrap_i32];omega
 simp[Op.intArith,this]
end
open Tryz
set_option maxRecDepth 100000
variable {w w0:World} {B T g:Nat} {R:List Row} {d s r r':Int} {t:List Int}
theorem aEo {i:Int}:
  Ct Tryz.prog 214 #[I i] w.heap.size w [] (λv R'=>v= .int .u32 (bv (OZ (BitVec.ofInt 32 i)))):=by
 refine fn1 Tryz.func214 Z Z Z ?_;refine wq<|wn Z<|wq<|wm Z<|wy (SY ak qo Z)<|wn Z<|aD<|wq<|wn Z ?_;refine aH ?_;refine dR (λ(k:Int) (x:BitVec 32)=>[(3, .int .u32 (bv x)),(4,I k)]) (λk x=>[]) (λk x=>(0<=k)/\(k<=8)/\(OZ (BitVec.ofInt 32 i)=FB (8-k).toNat x)) (λk x=>(8-k).toNat) ?_ ?_
 ·exact⟨0,BitVec.ofInt 32 i,⟨G,G,(Z)⟩,SA,λ_ h=>h⟩
 intro k x ⟨li,hk8,hx⟩;refine aD<|wq<|wm Z<|wL Z Z<|aA<|bF Z (λaq=> ?_) (λaq=> ?_)
 ·refine aL<|aD<|aH<|wq<|wm Z<|wy (aCt (p:=x) (q:=1#32) Z Z)<|wy (bDo (p:=x &&& (1#32)) (q:=1#32) Z Z)<|aA<|bF Z (λce=> ?_) (λce=> ?_)
  ·refine aN<|wm Z<|wy (JC (k:=1) Z Z Z)<|wy (DL (p:=x>>>1) (q:=3988292384#32) Z Z)<|wn Z<|aN<|wm Z<|wA Z Z<|wn Z ?_;exact⟨k+1,(x>>>1)^^^(3988292384#32),⟨G,G,(by rw[hx,xU G];unfold RU;rw[df cF])⟩,G,SA,λ_ h=>h⟩
  ·refine aN<|wm Z<|wy (JC (k:=1) Z Z Z)<|wn Z<|aN<|wm Z<|wA Z Z<|wn Z ?_;exact⟨k+1,x>>>1,⟨G,G,(by rw[hx,xU G];unfold RU;rw[bu cF])⟩,G,SA,λ_ h=>h⟩
 ·refine aY<|wq<|wm Z<|wn Z<|bW ?_;refine⟨_,Z,?_⟩;obtain rfl:k=8:=G
  rw[hx];rfl
theorem aZe {ap:Option Addr} {aw ao:Nat} {u:List Int} (al:Rd w ap aw ao 1 (ints .u8 u)) (am:aR u):
  Ct Tryz.prog 142 #[sl ap aw ao] w.heap.size w [] (λv R'=>v= .int .u32 (bv (iH u))):=by
 obtain rfl:=al.lenI;refine fn1 Tryz.func142 Z Z Z ?_;have mj:=al.max;refine wq<|wn Z<|wq<|wn Z<|aD<|wq<|wn Z<|aH ?_;refine dR (λ(k:Int) (x:BitVec 32)=>[(0,sl ap u.length ao),(3, .int .u32 (bv x)),(4,I k)]) (λk x=>[]) (λk x=>(0<=k)/\(k<=u.length)/\(CV 4294967295#32 u=CV x (u.drop k.toNat++[]))) (λk x=>(u.length-k).toNat) ?_ ?_
 ·exact⟨0,4294967295#32,⟨G,G,(by rw[jk];rfl)⟩,SA,λ_ h=>h⟩
 intro k x ⟨li,va,hx⟩;refine aD<|wq<|wm Z<|wm Z<|wy (aQ af Z)<|wL Z Z<|aA<|bF Z (λaq=> ?_) (λaq=> ?_)
 ·refine aL<|aD<|aH<|aN<|wm Z<|wy (JC (k:=8) Z Z Z)<|wm Z<|wy (mI qo bg Z)<|wm Z<|wm Z<|wy (aI af sz5 Z Z (al.c _))<|wy (aW bg Z Z (al.c _))<|wy (bFi Z Z)<|wy (iF bg ak Z (by have:=bFh (x:=x) (am.rd k);have:=IZ (x:=x) (am.rd k);omega)) ?_;refine wa (aF bLx Z (Ct.quiet (λw hw=>aEo))) ?_;rintro _ _ ⟨rfl,rfl⟩;refine wy (DL Z Z)<|wn Z<|aN<|wm Z<|wA Z Z<|wn Z ?_;exact⟨k+1,(x>>>8)^^^(OZ (BitVec.ofInt 32 ((BitVec.ofInt 8 (IntKind.u8.wrap (bv x))^^^BitVec.ofInt 8 (rd u k)).toNat:Int))),⟨G,G,(by rw[hx,NI li G];have e:=bFh (x:=x) (am.rd k);rw[e,qK];rfl)⟩,G,SA,λ_ h=>h⟩
 ·refine aY<|wq<|wm Z<|wy (bFl (p:=x) Z)<|wn Z<|bW ?_;refine⟨_,Z,?_⟩;refine bq (Value.int .u32) (bq bv ?_);rw[MN G] at hx;unfold iH;rw[hx,BitVec.xor_comm];rfl
theorem aXr (w:World):(Instr.build 203 #[]).run Tryz.prog w= .ok (.agg (uO 0 0 0 (List.replicate 256 0)).toArray) w:=cA
theorem pY:
  Ct Tryz.prog 77 #[] w.heap.size w [] (λv R'=> ∃g,v=PG g/\R'=[dN 203 g 0 0 0 (List.replicate 256 0)]):=by
 refine fn1 Tryz.func77 Z Z Z ?_;refine wq<|wn Z<|wq<|wy (aQe aXr)<|wa (bR (sz:=260) Z cA) ?_;rintro _ _ ⟨an,rfl,rfl⟩;refine wn Z<|aT [0] 99 cC Z ?_;refine⟨_,Z,?_⟩;exact⟨_,Z,Z⟩
theorem aOw (hr:0<=r/\r<1000000):
  Ct Tryz.prog 209 #[.pointer (some ⟨g,3,none⟩), .int .i32 1] B w0 (dN T g d s r t::R) (λv R'=>v= .int .i32 (r+1)/\R'=dN T g d s (r+1) t::R):=by
 refine fn1 Tryz.func209 Z Z Z ?_;refine wq<|wn Z<|wq<|wm Z<|wy (aG Z)<|wy (aB (off:=0) (m:=3) underlying200 Z bOd Z Z Z)<|wm Z<|wa (aKj Z (λw hw=>aZo hr hw)) ?_;rintro _ _ ⟨rfl,rfl⟩;refine wn Z<|bW ?_;refine⟨_,Z,?_⟩;exact⟨Z,Z⟩
theorem aBo (hr:0<=r/\r<1000000) (ht:t.length=256):
  Ct Tryz.prog 137 #[PG g] B w0 (dN T g d s r t::R) (λv R'=>v= .tuple #[]/\R'=dN T g d s (r+1) rR::R):=by
 refine fn0 Tryz.func137 Z Z Z ?_;refine wq<|wm Z<|wy (aG Z)<|wy (aB (off:=3) (m:=3) Hw Z bJh Z Z Z)<|wa (aF bMb Z (Ct.at 0 Z (aOw G))) ?_;rintro _ _ ⟨rfl,rfl⟩;refine aA<|wq<|wm Z<|aA<|aH ?_;refine jD (λ(k:Int)=>[(0,PG g),(9,I k)]) (λk=>(dN T g d s (r+1) (rR.take k.toNat++t.drop k.toNat)::R)) (λk=>(0<=k)/\(k<=256)) (λk=>(256-k).toNat) ?_ ?_
 ·exact⟨0,⟨G,G⟩,SA,λ_ h=>h⟩
 intro k ⟨li,va⟩;refine wq<|wL Z Z<|aA<|aD<|bF Z (λaq=> ?_) (λaq=> ?_)
 ·refine aL<|aD<|aH<|wq<|wm Z<|wn Z<|wq<|wm Z<|wy (SY ak qo Z)<|wn Z<|aD ?_;refine wq<|wm Z<|aA<|aH ?_;refine dR (λ(j:Int) (x:BitVec 32)=>[(0,PG g),(2,I k),(3, .int .u32 (bv x)),(9,I k),(14,I j)]) (λj x=>(dN T g d s (r+1) (rR.take k.toNat++t.drop k.toNat)::R)) (λj x=>(0<=j)/\(j<=8)/\(OZ (BitVec.ofInt 32 k)=FB (8-j).toNat x)) (λj x=>(8-j).toNat) ?_ ?_
  ·exact⟨0,BitVec.ofInt 32 k,⟨G,G,(Z)⟩,SA,λ_ h=>h⟩
  intro j x ⟨tz,hj8,hx⟩;refine wq<|wL Z Z<|aA<|aD<|bF Z (λce=> ?_) (λce=> ?_)
  ·refine aL<|aD<|aH<|wq<|wm Z<|wy (aCt (p:=x) (q:=1#32) Z Z)<|wn Z<|wq<|wm Z<|wy (JC (k:=1) Z Z Z)<|wn Z ?_;refine wq<|wm Z<|wy (bDo (p:=x &&& (1#32)) (q:=1#32) Z Z)<|aA<|bF Z (λfj=> ?_) (λfj=> ?_)
   ·refine aN<|wm Z<|wy (DL (p:=x>>>1) (q:=3988292384#32) Z Z)<|wn Z<|aN<|wA Z Z<|wm Z<|aA ?_;exact⟨j+1,(x>>>1)^^^(3988292384#32),⟨G,G,(by rw[hx,xU G];unfold RU;rw[df cF])⟩,G,SA,λ_ h=>h⟩
   ·refine aL<|aN<|wA Z Z<|wm Z<|aA ?_;exact⟨j+1,x>>>1,⟨G,G,(by rw[hx,xU G];unfold RU;rw[bu cF])⟩,G,SA,λ_ h=>h⟩
  ·refine aY<|aN<|wm Z<|wm Z<|wm Z<|wy (aG Z)<|wy (aB (off:=4) (m:=4) Hw Z bDt Z Z Z)<|wy (PE 0 Z Z underlying201 aRh Z Z (by show _<(uO _ _ _ _).length;rw[FC,ah,ax,ay,wQ,ht];omega) G G) ?_;refine bY (bC 0 Z Z Z aRh Z Z Z Z (by show _<(uO _ _ _ _).length;rw[FC,ah,ax,ay,wQ,ht];omega)) ?_;rintro _ _ rfl;refine jC (R1:=(dN T g d s (r+1) (rR.take (k+1).toNat++t.drop (k+1).toNat)::R)) (by have hj:j=8:=G;subst hj;have hf:=aOu ht li (show k<256 by omega);rw[hx] at hf;simp only[Ga,dN,aOv];rw[<-hf];rfl) ?_;refine aA<|aN<|wA Z Z<|wm Z<|aA ?_;exact⟨k+1,⟨G,G⟩,G,SA,λ_ h=>h⟩
 ·refine aY ?_
  skip
  obtain rfl:k=256:=G
  refine⟨Z,?_⟩;have e:rR.take (256:Int).toNat++t.drop (256:Int).toNat=rR:=by rw[bn (by rw[wQ];decide),oq (by rw[ht];decide),jk]
  rw[e]
theorem bAt {g:Nat} (gv:(d=0/\r'=r+1/\t.length=256/\0<=r/\r<1000000)\/(d=1/\r'=r/\t=rR)):
  Ct Tryz.prog 136 #[PG g, .func (.func 137) #[PG g] #[]] B w0 (dN T g d 0 r t::R) (λv R'=>v= .tuple #[]/\R'=dN T g 1 0 r' rR::R):=by
 rcases gv with⟨rfl,rfl,ht,hr⟩|⟨rfl,rfl,rfl⟩
 ·exact aMs (λw hw=>(aBo hr ht w hw).mono (by rintro e w' ⟨v,R',rfl,hh,rfl,rfl⟩;exact⟨rfl,hh⟩))
 ·exact aTp
theorem pX {A:Option Addr} {m c:Nat} {vals:List Value} {ls:List (List Int)} (gv:(d=0/\r'=r+1/\t.length=256/\0<=r/\r<1000000)\/(d=1/\r'=r/\t=rR)) (hA:RdC B w0 R A m c 1 vals) (hm:m=vals.length) (Mr:zJ B w0 R vals ls) (Lb:Big ls):
  Ct Tryz.prog 78 #[PG g,sl A m c] B w0 (dN T g d 0 r t::R) (λv R'=>v= .int .u32 (bv (iH ls.flatten))/\R'=dN T g 1 0 r' rR::R):=by
 refine fn1 Tryz.func78 Z Z Z ?_;have uc:=Lb.1;have ph:=Mr.1;refine wq<|wn Z<|aD<|wq<|wm Z<|wy (dP underlying124 Z Z)<|aA<|aJ Z<|aL<|wq<|wm Z ?_;refine wy (aG Z)<|wy (aB (off:=0) (m:=0) Hw Z bJi Z Z Z)<|wm Z<|wy (lN Z Z)<|wa (aF bNb Z (Ct.at 0 Z (bAt gv))) ?_;rintro _ _ ⟨rfl,rfl⟩;refine aA<|wq<|wn Z<|aD<|wq<|wm Z<|wy (aQ dm Z)<|wm Z<|aA<|aH ?_;refine dR (λ(k:Int) (x:BitVec 32)=>[(0,PG g),(5, .int .u32 (bv x)),(18,sl A m c),(19,I ((m:Nat):Int)),(20,I k)]) (λk x=>(dN T g 1 0 r' rR::R)) (λk x=>(0<=k)/\(k<=m)/\(CV 4294967295#32 ls.flatten=CV x (ls.drop k.toNat).flatten)) (λk x=>(m-k).toNat) ?_ ?_
 ·exact⟨0,4294967295#32,⟨G,G,(Z)⟩,SA,λ_ h=>h⟩
 intro k x ⟨li,va,hx⟩;refine wq<|wL Z Z<|aA<|aD<|bF Z (λaq=> ?_) (λaq=> ?_)
 ·refine aL<|aD<|aH<|wq<|wy (aI dm dA Z Z (RdC.tail hA)) ?_;obtain⟨A1,c1,l1,Tp,yk,Oq,wt⟩:=Mr.at li (by have:=Mr.1;omega);have f9:=Lb.2 _ _ yk;refine wy (qV af Z Z Z (RdC.tail hA) Tp)<|wn Z<|wq<|wm Z<|wy (aQ af Z)<|wm Z<|aA<|aH ?_;refine dR (λ(j:Int) (y:BitVec 32)=>[(0,PG g),(5, .int .u32 (bv y)),(18,sl A m c),(19,I ((m:Nat):Int)),(20,I k),(24,sl A1 l1.length c1),(25,I ((l1.length:Nat):Int)),(26,I j)]) (λj y=>(dN T g 1 0 r' rR::R)) (λj y=>(0<=j)/\(j<=l1.length)/\(CV 4294967295#32 ls.flatten=CV y (l1.drop j.toNat++(ls.drop (k+1).toNat).flatten))) (λj y=>(l1.length-j).toNat) ?_ ?_
  ·exact⟨0,x,⟨G,G,(by rw[hx,aOq li yk];rfl)⟩,SA,λ_ h=>h⟩
  intro j y ⟨tz,n5,hy⟩;refine wq<|wL Z Z<|aA<|aD<|bF Z (λce=> ?_) (λce=> ?_)
  ·refine aL<|aD<|aH<|wq<|wy (aI af sz5 Z Z (RdC.tail Oq))<|wy (aW bg Z Z (RdC.tail Oq))<|wn Z<|aN<|wm Z<|wy (JC (k:=8) Z Z Z)<|wm Z<|wm Z<|wy (aCt (p:=y) (q:=255#32) Z Z) ?_;refine wm Z<|wy (SY bg qo Z)<|wy (DL Z Z)<|wy (aG Z)<|wy (aB (off:=4) (m:=4) Hw Z bDt Z Z Z)<|wy (PE 0 Z Z underlying201 aRh Z Z (by show _<(uO _ _ _ _).length;rw[FC,wQ];omega) (by exact(IZ (x:=y) (wt.rd j)).1) (by exact(IZ (x:=y) (wt.rd j)).2)) ?_;refine wy (bFm 0 Z Z qo Z Z (aXg (bCo (IZ (x:=y) (wt.rd j)).2)))<|wy (DL Z Z)<|wn Z<|aN<|wA Z Z<|wm Z<|aA ?_;exact⟨j+1,(y>>>8)^^^(OZ (aBx y (rd l1 j))),⟨G,G,(by rw[hy,NI tz G];rfl)⟩,G,SA,λ_ h=>h⟩
  ·refine aY<|aN<|wA Z Z<|wm Z<|aA ?_;exact⟨k+1,y,⟨G,G,(by rw[hy,MN G];rfl)⟩,G,SA,λ_ h=>h⟩
 ·refine aY<|wq<|wm Z<|wy (DL (p:=x) (q:=4294967295#32) Z Z)<|wn Z<|bW ?_;refine⟨_,Z,?_⟩;refine⟨?_,Z⟩;rw[MN G] at hx;unfold iH;rw[hx];rfl
end Go.Proofs.YtdbebmmhdefgdaaGreat
namespace Go.Eng
open Go Go.RowKit Go.Pure
section
variable {P:Program} {n:Nd} {B:Nat} {w0:World} {L:Env} {R:List Row} {ty:TypeId}
theorem aYl {f:FuncId} {fn:Func} {x:Operand} {ts:Array TypeId} {m:Nat} {ps:Array TypeId} {t e:TypeId} (hf:P.funcs[f]? =some fn) (b8:(fn.name== "runtime.NumGoroutine")=false) (hb:fn.body.isNone=true) (hn:Extern.findNext fn=none) (he:Extern.find fn=some (Extern.BytealgMakeNoZero.makeNoZero ps #[t]))
  (ht:P.underlying t=some (.slice e)) (hx:ev L x=some (.int .i64 (m:Int))) (hm:m<=1000000):
  Ac P n B w0 (.call {callee:= .value (.func f),args:=[x].toArray,argTypes:=ts}) ty L R (λv R'=> ∃g C,m<=C/\v= .slice (some ⟨g,0,none⟩) m C/\R'=⟨e,1,some ⟨g,0,none⟩,0,C,ints .u8 [],false⟩::R):=
 VX (vs:=[.int .i64 (m:Int)]) (by simp[evs,hx]) λw hw=>by
  obtain⟨cs,hr,Bk,ph⟩:=Lib.run_makeNoZero (P:=P) w ps t e ht m G;have pd:=((hw.drawn (w.drawn+1+1) G).newC cs e m Bk (ph (by unfold maxLen;omega))).cut (k:=0) (uf _) cD;refine⟨_,_,_,?_,pd,w.heap.size,cs.size,Bk,rfl,by simp[ints]⟩;rw[Fg hf b8 hb hn he];rw[show [Value.int .i64 (m:Int)].toArray= #[.int .i64 m] from rfl,hr];rfl
theorem SQ {x y:Operand} {t t2 e:TypeId} {pp:Option Addr} {g p dl dc c m2 c2:Nat} {A2:Option Addr} {k:IntKind} {D src:List Int} (i:Nat) (hi:R[i]? =some ⟨e,1,some ⟨g,0,none⟩,p,c,ints k D,false⟩) (ht:P.underlying t=some (.slice e)) (gv:(P.info? e).map (·.size)=some 1)
  (hx:ev L x=some (.slice pp dl dc)) (hy:ev L y=some (.slice A2 m2 c2)) (Lm:pp=some ⟨g,p,none⟩) (hdl:p+dl<=c) (ij:RdC B w0 R A2 m2 c2 1 (ints k src)):
  Ac P n B w0 (.call {callee:= .builtin .copy,args:= #[x,y],argTypes:= #[t,t2]}) ty L R (λv R'=>v= .int .i64 ((min m2 dl:Nat):Int)/\R'=R.set i ⟨e,1,some ⟨g,0,none⟩,p+min m2 dl,c,ints k (D++src.take (min m2 dl)),false⟩):=by
 intro a w o K Q ho i7 hs hw hk;have gr:=Row.lies_w (hw.own _ (gm hi)) rfl;have f7:=ij w hw;have Po:m2=src.length:=f7.lenI;have hl:p=D.length:=by have:=gr.1;rw[cZ] at this;simp only at this;omega
 rcases gr.2 with⟨hv,_⟩|⟨g',cap,cur,hv,hb,hg,hnc,sn,kp,t8⟩
 ·simp at hv
 simp only[kv,mg,Av,Au,Ak] at hv;obtain⟨rfl,rfl⟩:=hv;simp only at t8 kp hnc hg hb;rw[qw] at t8 kp;subst Lm;obtain⟨q,hq⟩: ∃q,min m2 dl=q:=⟨_,rfl⟩;rw[hq] at hk;have Oo:Nat.min m2 dl=q:=hq;have kx:(ints k (src.take q)).length=q:=by rw[cZ,ax];omega
 rcases dz m2 with hz|ee
 ·have kf:q=0:=G
  have oc:=run_copy_none (P:=P) w t t2 o.type e (some ⟨g,p,none⟩) A2 dl dc m2 c2 ht gv (by rw[hz];exact Nat.zero_min _);unfold Oper.wp execOp;simp only[ho,resolve,invoke,builtin,kg,ni,jv,uh,lm,ry,hs.ev hx,hs.ev hy,oc,Oper.upon];refine hk (.int .i64 ((0:Nat):Int)) w R hw ⟨by rw[kf],?_⟩;rw[kf];simp only[xw,jk,qm]
  exact(by
   apply ul;intro j;rw[xq];split
   ·rename_i e;subst e;rw[df (dw.1 hi).1,hi]
   ·rfl)
 ·obtain ⟨a2,rfl⟩: ∃a2,A2=some a2:=by
   obtain⟨a2,h,_⟩:=f7.at_ 0 _ (av (by rw[cZ];omega));exact⟨a2,h⟩
  have oc:=run_copy_row P w t t2 o.type e g p dl dc a2 m2 c2 cur e (ints k (src.take q)) ht gv hg (by rw[kx];exact hq.symm) (λj v hv=>by
   obtain⟨b,h1,h2⟩:=f7.at_ j v (by
    rw[ints,Cg] at hv;rw[ny] at hv;split at hv
    ·exact hv
    ·cases hv)
   obtain rfl:=jc h1
   exact h2) (by rw[kx,kp];omega) (BV k _)
  rw[kx] at oc;unfold Oper.wp execOp;simp only[ho,resolve,invoke,builtin,kg,ni,jv,uh,lm,ry,hs.ev hx,hs.ev hy,oc,Oper.upon];refine hk (.int .i64 (q:Int)) _ _ ?_ ⟨rfl,rfl⟩;refine hw.upd hi (row:=some g) ⟨rfl,rfl,rfl,cD,λj _ hj=>Jf w g j _ (λe=>hj (by simp[e]))⟩ (di _) (λj hj=>by cases hj;exact⟨_,rfl,rfl⟩) ?_ (λa' nc=> .inl ⟨a',nc,rfl⟩);unfold Row.lies;simp only;refine⟨?_, .inr ⟨g,c,_,rfl,hb,Ke w g cur _ e _ hg,G,sn,?_,?_⟩⟩
  ·simp only[cZ,ah,ax];omega
  ·simp only[qj,ah,ax,ay,jy,cZ];omega
  ·simp only[qw];rw[oO,<-t8]
   have h1:(cur.toList.take p++ints k (src.take q)).length=p+q:=by
    rw[ah,kx,ax,jy];omega
   rw[List.take_append,h1,bn G,za,xw,jk]
theorem aPz {x y:Operand} {t e:TypeId} {A:Option Addr} {m c sz:Nat} {k1:IntKind} {vh:Int} (ht:P.underlying t=some (.slice e)) (hi:(P.info? e).map (·.size)=some sz) (hx:ev L x=some (.slice A m c)) (hy:ev L y=some (.int k1 vh)) (h0:0<=vh) (hc:vh<=c):
  Yl P n B w0 (.slice t x none (some y) none) ty L R (.slice A vh.toNat c):=by
 intro a w o ho _ hs hp;obtain⟨i0,ar,hsz0⟩:=il.1 hi;have te:P.elem t=e:=by simp[Program.elem,ht]
 have rg:P.underlying t=some (.slice (P.elem t)):=by rw[te];exact ht
 simp only[execOp,ho,ky,Ar,hs.ev hx,hs.ev hy,kg,zz w t _ _ _ _ rg,run_slice_h w t A m c rg k1 vh h0 hc,te]
 have:(if c=0 then A else Option.map (λx=>x.add 0) A)=A:=by
  split
  ·rfl
  ·exact BG A
 simp[sizeOf,typeInfo,ar,hsz0,sliced,this]
theorem aKo {x y z:Operand} {t e:TypeId} {A:Option Addr} {m c h sz:Nat} {k1 k2:IntKind} {vh vm:Int} (ht:P.underlying t=some (.slice e)) (hi:(P.info? e).map (·.size)=some sz) (hx:ev L x=some (.slice A m c)) (hy:ev L y=some (.int k1 vh)) (hz:ev L z=some (.int k2 vm)) (e1:vh=(h:Int)) (e2:vm=(h:Int)) (hc:h<=c):
  Yl P n B w0 (.slice t x none (some y) (some z)) ty L R (.slice A h h):=by
 subst e1;subst e2;intro a w o ho _ hs hp;obtain⟨i0,ar,hsz0⟩:=il.1 hi;have te:P.elem t=e:=by simp[Program.elem,ht]
 have rg:P.underlying t=some (.slice (P.elem t)):=by rw[te];exact ht
 simp only[execOp,ho,ky,Ar,hs.ev hx,hs.ev hy,hs.ev hz,kg,zz w t _ _ _ _ rg,run_slice_hm w t A m c rg k1 k2 (h:Int) (h:Int) G G G,te]
 have:(if h=0 then A else Option.map (λx=>x.add 0) A)=A:=by
  split
  ·rfl
  ·exact BG A
 simp[sizeOf,typeInfo,ar,hsz0,sliced,this]
theorem Row.lies_ro {w:World} {e sz m c c':Nat} {A:Option Addr} {xs:List Value} (h:Row.lies B w ⟨e,sz,A,m,c,xs,false⟩) (hA:A≠none) (hc:m<=c'):Row.lies B w ⟨e,sz,A,m,c',xs,true⟩:=by
 have h1:=Row.lies_w h rfl;unfold Row.lies;simp only;obtain⟨hl,h2⟩:=h1;simp only at hl h2;rcases h2 with⟨hv,_⟩|⟨g,cap,cur,hv,hb,hg,hnc,sn,kp,ht⟩
 ·simp only[kv] at hv;exact absurd hv.1 hA
 ·simp only[kv] at hv;obtain⟨rfl,_,rfl⟩:=hv;exact⟨g,cur,_,rfl,hb,hg,G,hc,hl,ht⟩
theorem Hp.toRo {w:World} {e sz m c c':Nat} {A:Option Addr} {xs:List Value} (h:Hp B w0 w (⟨e,sz,A,m,c,xs,false⟩::R)) (hA:A≠none) (hc:m<=c'):Hp B w0 w (⟨e,sz,A,m,c',xs,true⟩::R):=
 ⟨h.below,h.base,λr hr=>by
  rcases jm.1 hr with rfl|hr
  ·exact Row.lies_ro (h.own _ (.head _)) hA hc
  ·exact h.own r (.tail _ hr),by
  obtain⟨h1,h2⟩:=jb.1 h.apart
  exact jb.2 ⟨λr hr=>h1 r hr,h2⟩,h.late⟩
theorem RdC.capI {A:Option Addr} {m c c':Nat} {k:IntKind} {l:List Int} (h:RdC B w0 R A m c 1 (ints k l)) (hc:m<=c'):RdC B w0 R A m c' 1 (ints k l):=λw hw=>
 let q:=h w hw
 ⟨q.len,q.max,hc,q.at_⟩
structure VZ (u D:List Int) (N:Nat) (p:Int):Prop where
 p0:0<=p
 pN:p<=N
 up:(u.length:Int)<=p
 len:(D.length:Int)=p
 at_: ∀j:Nat,j<p->lt D j=om u j
 dvd:p=N\/(u.length:Int)∣p
theorem bHa {D E:List Int} {j:Nat}:lt (D++E) j=if j<D.length then lt D j else lt E (j-D.length):=by
 unfold lt;rw[ai];split
 ·rw[ji G,ai]
 ·rw[ig G,ai]
theorem lt_take {D:List Int} {j q:Nat} (h:j<q):lt (D.take q) j=lt D j:=by
 unfold lt;rw[ai,ou h,ai]
theorem VZ.init {u:List Int} {N:Nat} (hu:u.length<=N):VZ u ([]++u.take (min u.length N)) N ((min u.length N:Nat):Int):=by
 have e:min u.length N=u.length:=G
 rw[e,je,uz];exact⟨G,G,G,rfl,λj hj=>(FW G).symm, .inr (Int.dvd_refl _)⟩
theorem VZ.step {u D:List Int} {N:Nat} {p:Int} (h:VZ u D N p) (hu:0<u.length) (hp:p<N):
  VZ u (D++(D.take (min p N).toNat).take (min (min p N).toNat (N-p.toNat))) N (p+((min (min p N).toNat (N-p.toNat):Nat):Int)):=by
 obtain⟨p0,pN,up,len,at_,dvd⟩:=h;have e:min p (N:Int)=p:=G
 rw[e];obtain⟨q,hq⟩: ∃q,min p.toNat (N-p.toNat)=q:=⟨_,rfl⟩;rw[hq];have hd:(u.length:Int)∣p:=dvd.resolve_left G;refine⟨G,G,G,by rw[ah,ax,ax];omega,λj hj=> ?_,?_⟩
 ·rw [bHa];split
  ·exact at_ j G
  ·rename_i hc;rw[lt_take G,lt_take G,at_ _ G];obtain⟨k,hk⟩:=hd
   have li:0<=k:=by
    rcases bi k 0 with g|g
    ·have:=Ag (show(0:Int)<=u.length by omega) (show 0<= -k by omega);rw[Int.mul_neg] at this;omega
    ·exact g
   have e3:D.length=u.length*k.toNat:=by
    have:(D.length:Int)=((u.length*k.toNat:Nat):Int):=by rw[len,hk,Aq,qf li]
    exact_mod_cast this
   have:=(rJ u).mul k.toNat (j-D.length);rw[<-this,<-e3,qy G]
 ·rcases fe q p.toNat with g|g
  ·left;omega
  ·right;have:(q:Int)=p:=G
   rw[this];exact Int.dvd_add hd hd
theorem VZ.done {u D:List Int} {cn:Int} {N:Nat} {p:Int} (h:VZ u D N p) (hp: ¬p<N) (hN:N=cn.toNat*u.length):D=rep u cn:=by
 have hl:=h.len;have hpN:=h.pN;refine bQ (by rw[qG];omega) λj h0 h1=> ?_;have h2:=h.at_ j.toNat G;have h3:=KH u cn.toNat j.toNat G;rw[LX,h2,<-h3];unfold rd rep;rw[cu]
end
end Go.Eng
namespace Go.Proofs
open Go.Shelf
def Tryz.laysRing_ren:Go.Shelf.Ren:=⟨λ|6=>117|15=>192|14=>191|28=>251|29=>252|20=>243|21=>244|22=>245|23=>246|24=>247|25=>248|26=>249|27=>250|46=>281|47=>282|48=>283|49=>284|50=>285|57=>305|n=>n,λ|22=>114|24=>117|25=>171|3=>3|39=>167|0=>0|53=>123|55=>112|4=>4|46=>289|45=>288|50=>97|5=>5|9=>9|66=>316|70=>320|76=>337|77=>338|n=>n,λ|n=>n⟩
theorem Tryz.laysRing:Go.Proofs.SlLaysF0.n6 Tryz.prog Tryz.laysRing_ren:= {
 mixed:=cA
 f6:=⟨Tryz.f117.name,cC,Tryz.func117.trans (bq some cA)⟩
 f14:=⟨Tryz.f191.name,cC,Tryz.func191.trans (bq some cA)⟩
 f15:=Tryz.func192.trans (bq some cA)
 f20:=⟨Tryz.f243.name,cC,Tryz.func243.trans (bq some cA)⟩
 f21:=⟨Tryz.f244.name,cC,Tryz.func244.trans (bq some cA)⟩
 f22:=⟨Tryz.f245.name,cC,Tryz.func245.trans (bq some cA)⟩
 f23:=⟨Tryz.f246.name,cC,Tryz.func246.trans (bq some cA)⟩
 f24:=⟨Tryz.f247.name,cC,Tryz.func247.trans (bq some cA)⟩
 f25:=⟨Tryz.f248.name,cC,Tryz.func248.trans (bq some cA)⟩
 f26:=⟨Tryz.f249.name,cC,Tryz.func249.trans (bq some cA)⟩
 f27:=⟨Tryz.f250.name,cC,Tryz.func250.trans (bq some cA)⟩
 f28:=Tryz.func251.trans (bq some cA)
 f29:=Tryz.func252.trans (bq some cA)
 f46:=⟨Tryz.f281.name,cC,Tryz.func281.trans (bq some cA)⟩
 f47:=Tryz.func282.trans (bq some cA)
 f48:=Tryz.func283.trans (bq some cA)
 f49:=⟨Tryz.f284.name,cC,Tryz.func284.trans (bq some cA)⟩
 f50:=⟨Tryz.f285.name,cC,Tryz.func285.trans (bq some cA)⟩
 f57:=⟨Tryz.f305.name,cC,Tryz.func305.trans (bq some cA)⟩
 t0:=Dy
 a0:=Jz
 z0:=Jb
 v0:=Ey
 t3:=Bw
 a3:=Gx
 z3:=Fs
 v3:=Co
 t4:=Dz
 a4:=Ka
 z4:=Jc
 v4:=Ez
 t5:=Ea
 a5:=Kb
 z5:=Jd
 v5:=Fa
 t9:=Eb
 a9:=Kc
 z9:=Je
 v9:=Fb
 t22:=Tryz.underlying114
 a22:=Tryz.isAgg114
 z22:=Tryz.sizeOf114
 v22:=Tryz.zeroValue114
 t25:=Tryz.underlying171
 a25:=Tryz.isAgg171
 z25:=Tryz.sizeOf171
 v25:=Tryz.zeroValue171
 t39:=Ao
 a39:=Ee
 z39:=Dn
 v39:=Bf
 t45:=Gf
 a45:=Tryz.isAgg288
 z45:=Tryz.sizeOf288
 v45:=Gz
 t46:=Gg
 a46:=Tryz.isAgg289
 z46:=Tryz.sizeOf289
 v46:=Ha
 t50:=Gy
 a50:=Tryz.isAgg97
 z50:=Tryz.sizeOf97
 v50:=Ih
 t53:=Cv
 a53:=Ht
 z53:=Gc
 v53:=Dq
 t55:=Cu
 a55:=Hr
 z55:=Gb
 v55:=Dp
 t66:=Gh
 a66:=Tryz.isAgg316
 z66:=Tryz.sizeOf316
 v66:=Hd
 t70:=Gi
 a70:=Tryz.isAgg320
 z70:=Tryz.sizeOf320
 v70:=He
 t76:=Gj
 a76:=Tryz.isAgg337
 z76:=Tryz.sizeOf337
 v76:=Hf
 t77:=Gl
 a77:=Tryz.isAgg338
 z77:=Tryz.sizeOf338
 v77:=Hg}
end Go.Proofs
namespace Go.Proofs.YtdbebmmhdefgdaaGreat
open Go Go.Eng Go.Pure
open Tryz
set_option maxRecDepth 100000
variable {w:World} {u:List Int} {ws:List (List Int)} {i:Int} {l lr:List RC}
theorem bBd {B:Nat} {w0:World} {R:List Row} (x y:Nat) (hx:x<=1000000) (hy:y<=1000000) (h:x*y<=1000000):Ct Tryz.prog 122 #[.int .u64 ((x:Nat):Int), .int .u64 ((y:Nat):Int)] B w0 R (λv R'=>v= .tuple #[.int .u64 0, .int .u64 ((x*y:Nat):Int)]/\R'=R):=by
 intro w hw;have hc:=Tryz.bits_Mul x y G G w;rw[Dx G,lc G] at hc;refine hc.mono ?_;rintro e w' ⟨rfl,rfl⟩;exact⟨_,R,Z,hw,Z,Z⟩
theorem PH {p:Int} (h:0<=p/\p<=18446744073709551615):IntKind.u64.wrap p=p:=by rw[Ia];omega
set_option maxHeartbeats 800000 in
theorem aEa {ap:Option Addr} {aw ao:Nat} {cn:Int} (al:Rd w ap aw ao 1 (ints .u8 u)) (hu:0<u.length) (hc:1<=cn) (hP:cn.toNat*u.length<=8000):
  Ct Tryz.prog 72 #[sl ap aw ao,I cn] w.heap.size w [] (λv R'=> ∃A c,v=sl A (rep u cn).length c/\R'=[⟨5,1,A,(rep u cn).length,c,ints .u8 (rep u cn),true⟩]):=by
 obtain rfl:=al.lenI;refine fn1 Tryz.func72 Z Z Z ?_;have mj:=al.max;obtain⟨N,Wp⟩: ∃N:Nat,u.length*cn.toNat=N:=⟨_,rfl⟩;have Id:cn.toNat*u.length=N:=by rw[Am];exact Wp
 have hN3:u.length<=N:=by rw[<-Id];exact Dk _ G
 have hN4:cn.toNat<=N:=by rw[<-Wp];exact Dk _ hu
 refine wq<|wn Z<|aD<|wq<|wm Z<|wy (Yl.f (aX Z Z))<|aA<|aJ Z<|aL<|aD<|wq ?_;refine wm Z<|wy (Yl.f (eG Z Z))<|aA<|aJ Z<|aL<|wq<|wm Z<|wy (aQ af Z)<|wy (Yl.is (mI ak Ci Z) (by rw[PH G])) ?_;refine wm Z<|wy (Yl.is (mI ak Ci Z) (show Value.int .u64 (IntKind.u64.wrap cn)=Value.int .u64 ((cn.toNat:Nat):Int) from by rw[PH G,qf G]))<|wa (aF bEy rfl (bBd u.length cn.toNat G G G)) ?_;rw[Wp];rintro _ _ ⟨rfl,rfl⟩;refine wm Z<|wX Z Z<|wX Z Z<|wg Z<|wn Z<|aD<|wq<|wm Z<|wy (Yl.f (dJ Z Z))<|wm Z<|aC Z Z<|wm Z<|aC Z Z ?_;refine wy (Yl.f (dJ Z Z))<|wy (aS Z Z)<|aA<|aJ Z<|aL<|wq<|wm Z<|wy (iF Ci ak Z)<|wn Z<|aD<|wq<|wm Z ?_;refine wy (aQ af Z)<|wy (Yl.f (aX Z Z))<|aA<|aJ Z<|aL<|wq<|wm Z<|wn Z<|aD<|wq<|wm Z<|wy (Yl.f (dJ Z Z)) ?_;refine aA<|aJ Z<|aL<|wq<|wm Z<|wa (aYl (m:=N) (ps:= #[3]) Tryz.func123 cA cA cA cA af Z G) ?_;rintro _ _ ⟨an,C_2,hC,rfl,rfl⟩;refine wm Z<|wm Z<|wy (aKo (h:=N) af sz5 Z Z Z Z Z hC)<|wn Z<|wq<|wm Z<|wm Z<|wa (SQ (dl:=N) 0 Z af sz5 Z Z (Z) G (al.c _)) ?_;rintro _ _ ⟨rfl,rfl⟩;refine wn Z<|aD<|aH ?_;refine gG (λ(p:Int) (n1:Nat) (D:List Int)=>[(7,I ((N:Nat):Int)),(8,I ((N:Nat):Int)),(9,sl (GG an) N N),(10,I p)]) (λp n1 D=>[(ru 5 (GG an) n1 C_2 D)]) (λp n1 D=>(n1=D.length)/\(VZ u D N p)) (λp n1 D=>(N-p).toNat) ?_ ?_
 ·exact⟨((min u.length N:Nat):Int),(0+min u.length N),([])++List.take (min u.length N) u,⟨(by rw[je,ax];omega),(VZ.init hN3)⟩,SA,λ_ h=>h⟩
 intro p n1 D ⟨co,hI⟩;have hI1:=hI.p0;have hI2:=hI.pN;have hI3:=hI.len;have hI4:=hI.up;refine aD<|wq<|wm Z<|wm Z<|wL Z Z<|aA<|bF Z (λaq=> ?_) (λaq=> ?_)
 ·refine aL<|aH<|wq<|wm Z<|wm Z<|wy (rV Z Z)<|wn Z<|bP mixed<|wD 0 Z (aM Z)<|wD 1 Z (aM Z)<|wD 2 Z (aM Z)<|wD 3 Z (dK af sz5 Z Z)<|wD 4 Z (aM Z) ?_;refine wD 5 Z (aM Z)<|wD 6 Z (aPz af sz5 Z Z G G)<|wC 7 Z (SQ (dl:=(N-(p).toNat)) 0 Z af sz5 Z Z (by rw[aBh G,show p.toNat=n1 by omega]) G (RdC.capI (RdC.toI (rdr 0 Z) G) G)) ?_;rintro _ _ ⟨rfl,rfl⟩;refine⟨.inl cA,?_⟩;refine wD 8 Z (dG Z Z)<|wD 9 Z (bG Z)<|wN ?_;exact⟨p+((min ((min p ((N:Nat):Int)).toNat) (N-(p).toNat):Nat):Int),(n1+min ((min p ((N:Nat):Int)).toNat) (N-(p).toNat)),D++List.take (min ((min p ((N:Nat):Int)).toNat) (N-(p).toNat)) ((D).take (min p ((N:Nat):Int)).toNat),⟨(by rw[ah,ax,ax];omega),(hI.step hu G)⟩,G,SA,λ_ h=>h⟩
 ·refine aY<|wq<|wm Z<|wn Z ?_;obtain rfl:=co;obtain rfl:=hI.done G Id.symm;have Ve:(rep u cn).length=N:=by rw[qG];omega
  refine bS (R1:=[⟨5,1,GG an,(rep u cn).length,(rep u cn).length,ints .u8 (rep u cn),true⟩]) (λ_ h=>h.toRo cD (di _)) ?_;rw[<-Ve];exact⟨_,Z,_,_,Z,Z⟩
theorem YH (h0:0<=i) (h1:i<ws.length):rdl ws i∈ws:=by
 unfold rdl;rw[ai,av G];exact lu _
theorem vJ (h0:0<=i) (h1:i<ws.length):ws.take (i+1).toNat=ws.take i.toNat++[rdl ws i]:=by
 rw[show(i+1).toNat=i.toNat+1 by omega,su,av G];unfold rdl;rw[ai,av G];rfl
theorem aTl (x y:List Int) (a b:Int):orL [cmpL x y,iD a b]=lT (x,a) (y,b):=by
 unfold lT orL orL orL;simp only;split
 ·rfl
 ·split
  ·rfl
  ·omega
theorem aLt {A:Option Addr} {c:Nat} (h0:0<=i) (h1:i<ws.length) (hl:l.map RC.rt=fB (ws.take i.toNat)) (ht:0<iW (lw (rdl ws i))):(l++[(⟨A,c,lF (lw (rdl ws i)),iW (lw (rdl ws i))⟩:RC)]).map RC.rt=fB (ws.take (i+1).toNat):=by
 have hp:0<(rdl ws i).length:=by
  rcases dz (rdl ws i).length with z|z
  ·rw [ed z] at ht;simp[bGy,iW] at ht
  ·exact z
 rw[jo,hl,vJ h0 h1,mQ];congr 1;unfold fB;simp[hp,RC.rt,EE]
theorem aSc (h0:0<=i) (h1:i<ws.length) (hl:l.map RC.rt=fB (ws.take i.toNat)) (ht: ¬0<iW (lw (rdl ws i))):l.map RC.rt=fB (ws.take (i+1).toNat):=by
 have hp:(rdl ws i).length=0:=by
  rcases dz (rdl ws i).length with z|z
  ·exact z
  ·exact absurd (DV (c:=lw (rdl ws i)) (by rw[LW];exact z)) ht
 rw[hl,vJ h0 h1,mQ];unfold fB;simp[hp]
theorem FT (ws:List (List Int)):(fB ws).length<=ws.length:=by
 unfold fB;rw[bz];exact zm _ _
theorem aTz (h:aR u):aR (lw u):=aR.append (h.drop _) (h.take _)
theorem aUp:Go.Sort.SWO (Go.Proofs.ltOf λx y:RC=>lT x.rt y.rt):=by
 have e: ∀x y:RC,Go.Proofs.ltOf (λx y:RC=>lT x.rt y.rt) x y=true↔lT x.rt y.rt<0:=λx y=>by simp[Go.Proofs.ltOf]
 have e': ∀x y:RC,Go.Proofs.ltOf (λx y:RC=>lT x.rt y.rt) x y=false↔lT y.rt x.rt<=0:=λx y=>by
  rw[<-Bool.not_eq_true,e,pV x.rt y.rt];omega
 refine⟨λx=> ?_,λx y z h1 h2=> ?_,λx y z h1 h2=> ?_⟩
 ·rw[e',(UU x.rt x.rt).2 rfl];omega
 ·rw [e] at h1 h2 ⊢;have h3:=IW x.rt y.rt z.rt G G;rcases Fx h3 with g|g
  ·exact g
  ·have g2:=(UU _ _).1 g;rw[g2,pV y.rt z.rt] at h1;omega
 ·rw [e'] at h1 h2 ⊢;exact IW _ _ _ h2 h1
theorem aZz {ws:List (List Int)} {M:Nat} (hl:lr.map RC.rt=yC ws) (hM: ∀w∈ws,w.length<=M) {r:RC} (hr:r∈lr):0<r.root.length/\1<=r.times/\r.times.toNat*r.root.length<=M:=by
 have h1:r.rt∈yC ws:=by rw[<-hl];exact List.mem_map_of_mem hr
 obtain⟨w,hw,hp,e⟩:=aMw h1;have ci:0<(lw w).length:=by rw[LW];exact hp
 have e1:r.root=lF (lw w):=bq Prod.fst e;have e2:r.times=iW (lw w):=bq Prod.snd e;have h2:=XX ci;have h3:=AR ci;have h4:=DV ci;have h5:=bq List.length (FM ci);rw[qG,LW] at h5;rw[e1,e2];exact⟨G,G,by rw[h5];exact hM w hw⟩
theorem aGj (h0:0<=i) (h1:i<lr.length):(lr.take (i+1).toNat).map (λr=>rep r.root r.times)=(lr.take i.toNat).map (λr=>rep r.root r.times)++[rep (rdG lr i).root (rdG lr i).times]:=by
 rw[show(i+1).toNat=i.toNat+1 by omega,su,av G,jo];unfold rdG;rw[ai,av G];rfl
theorem aGk (hl:lr.map RC.rt=yC ws) (hi:(lr.length:Int)<=i):(lr.take i.toNat).map (λr=>rep r.root r.times)=canon ws:=by
 rw[bn G];unfold canon;rw[<-hl,yz];rfl
theorem aDw {k9:Option Addr} {l7:Nat} {x:List Int} {Vn:Int} {Zu:Option Addr} {Zx:Nat} {y:List Int} {Vo:Int} (ml:Rd w k9 x.length l7 1 (ints .u8 x)) (h_y:Rd w Zu y.length Zx 1 (ints .u8 y)) (l3:aR x) (Vv:aR y):
  Ct Tryz.prog 118 #[.agg #[sl k9 x.length l7,I Vn], .agg #[sl Zu y.length Zx,I Vo]] w.heap.size w [] (λv R'=>v=I (lT (x,Vn) (y,Vo))):=by
 refine fn1 Tryz.func118 Z Z Z ?_;refine wq<|wa (bR (sz:=2) Z Z) ?_;rintro _ _ ⟨an,rfl,rfl⟩;refine wa (bR (sz:=2) Z Z) ?_;rintro _ _ ⟨ew,rfl,rfl⟩;refine wn Z<|aD<|bP mixed<|wD 0 Z (aB (off:=0) (m:=0) Az Z dA Z Z Z)<|wD 1 Z (aK (rdr 1 Z) af Z Z Z)<|wD 2 Z (aB (off:=0) (m:=0) Az Z dA Z Z Z)<|wD 3 Z (aK (rdr 0 Z) af Z Z Z)<|wD 5 Z (aB (off:=1) (m:=1) Az Z sz3 Z Z Z)<|wD 6 Z (aK (rdr 1 Z) ak Z Z Z)<|wD 7 Z (aB (off:=1) (m:=1) Az Z sz3 Z Z Z)<|wD 8 Z (aK (rdr 0 Z) ak Z Z Z)<|wC 4 Z (aF bNf Z (Ct.quiet (λw hw=>VJ ((ml.c _) w hw) ((h_y.c _) w hw) l3 Vv))) ?_;rintro _ _ ⟨rfl,rfl⟩;refine⟨.inr λ_ h=>h,?_⟩;refine wC 9 Z (aF aAz Z (Ct.quiet (λw hw=>oQ))) ?_;rintro _ _ ⟨rfl,rfl⟩;refine⟨.inr λ_ h=>h,?_⟩;refine wC 10 Z (bL .i64 [cmpL x y,iD Vn Vo] aa zs3 Z Z Z) ?_;rintro _ _ ⟨js,rfl,rfl⟩;refine⟨.inr λ_ h=>h.right (R':=[_]),?_⟩;refine wC 11 Z (aF bEz Z (Ct.quiet (λw hw=>aTm ((rdr 0 Z) w hw)))) ?_;rintro _ _ ⟨rfl,rfl⟩;refine⟨.inr λ_ h=>h,?_⟩;refine wD 12 Z (bG Z)<|wN<|aT [] 99 cC Z ?_;refine⟨_,Z,?_⟩;exact bq (Value.int .i64) (aTl x y Vn Vo)
theorem aDl (cb:Array Value):aYp Tryz.prog 117 118 cb 2:=λα _ enc hk h1 cf hO gi off cap d w xl hH hblk hsz=>
 AnyQ.slices_SortFunc Tryz.laysRing 2 (λw=>cA) (λw=>cA) enc hk h1 cf hO 118 cb gi off cap d w bNg xl hH hblk hsz
theorem XJ:SS Tryz.prog 117:=λp cap fv w=>AnyF.slices_SortFunc_none Tryz.laysRing p cap fv w
set_option maxHeartbeats 1000000 in
theorem aSd {w:World} {ft:Option Addr} {lf gd:Nat} {dj:List Value} {ws:List (List Int)} (gh:Rd w ft lf gd 1 dj) (mc:SlW .u8 w dj ws) (hN:(∀w∈ws,w.length<=8000)/\ws.length<=100000):
  Ct Tryz.prog 71 #[sl ft lf gd] w.heap.size w [] (λv R'=> ∃(A:Option Addr) (c:Nat) (l:List RC) (Rs:List Row),v=sl A l.length c/\RgR Rs l/\l.map RC.rt=yC ws/\R'=⟨117,2,A,l.length,c,rgs l,false⟩::Rs):=by
 obtain rfl:lf=ws.length:=by have:=gh.len;have:=mc.1;omega
 refine fn1 Tryz.func71 Z Z Z ?_;have Hj:=gh.max;have hob:=mc.okB;refine wq<|wn Z<|wq<|dB (R1:=(⟨117,2,none,0,0,rgs ([]),false⟩::[])) (Sub.refl _) (λ_ h=>h.nil 117 2)<|wn Z<|aD<|wq<|wm Z<|wy (aQ dm Z)<|wm Z ?_;refine aA<|aH ?_;refine mK (λ(i:Int) (A1:Option Addr) (n1:Nat) (c1:Nat) (l:List RC) (Rs:List Row)=>[(3,sl A1 n1 c1),(8,sl ft ws.length gd),(9,I ((ws.length:Nat):Int)),(10,I i)]) (λi A1 n1 c1 l Rs=>(⟨117,2,A1,n1,c1,rgs l,false⟩::Rs)) (λi A1 n1 c1 l Rs=>(0<=i)/\(i<=ws.length)/\(n1=l.length)/\(RgR Rs l)/\(l.map RC.rt=fB (ws.take i.toNat))) (λi A1 n1 c1 l Rs=>(ws.length-i).toNat) ?_ ?_
 ·exact⟨0,none,0,0,[],[],⟨G,G,(Z),(RgR.nil _),(Z)⟩,SA,λ_ h=>h⟩
 intro i A1 n1 c1 l Rs ⟨ar,jj,co,Jg,hl⟩;have ub:=bq List.length hl;rw[bz] at ub;have Sq:=FT (ws.take i.toNat);rw[ax] at Sq;have My:0<=i->i<ws.length->(rdl ws i).length<=8000:=λh h'=>hN.1 _ (YH h h');refine wq<|wL Z Z<|aA<|aD<|bF Z (λaq=> ?_) (λaq=> ?_)
 ·have hwl2:=My ar G;refine aL<|aD<|aH<|wq<|wy (aI dm dA Z Z (gh.c _)) ?_;refine mc.elim (i:=i) G G (λbm bl Hc Fk Nt Mz=> ?_);refine wy (qV af Z Z Z (gh.c _) Hc)<|wn Z<|wq<|wm Z<|wa (aF bNi Z (Ct.fresh (λw hw=>bGt ((Fk.c _) w hw) (wR Nt) G))) ?_;rintro _ _ ⟨_,rfl,en,kj,rfl,rfl⟩;refine wa (aF bNj Z (Ct.fresh (λw hw=>aRv ((rdr 0 Z) w hw) (by rw[LW];omega)))) ?_;rintro _ _ ⟨_,rfl,dr,bh,rfl,rfl⟩;refine wm Z<|wX Z Z<|wX Z Z<|wg Z<|wn Z<|wq<|wm Z<|wy (dJ Z Z)<|aA<|bF Z (λce=> ?_) (λce=> ?_)
  ·refine aN<|wm Z<|wm Z<|wm Z<|wy (dZ (v:= .agg #[sl dr ((lF (lw (rdl ws i))).length) bh,I (iW (lw (rdl ws i)))]) Z (λw=>cA))<|wa (bIe ⟨dr,bh,lF (lw (rdl ws i)),iW (lw (rdl ws i))⟩ Hu bIq rfl) ?_;rintro _ _ ⟨jn,rfl,rfl⟩;refine wa (aPw 3 Z Hu bIs Z Z Z Z (rdr 0 Z) G) ?_;rintro _ _ ⟨ia,ie,rfl,rfl⟩;refine bK (v:=sl ia (n1+1) ie) Z<|wn Z<|aN<|wA Z Z<|wm Z<|aA ?_;exact⟨i+1,ia,n1+1,ie,l++([⟨dr,bh,lF (lw (rdl ws i)),iW (lw (rdl ws i))⟩]),((ru 5 dr ((lF (lw (rdl ws i))).length) bh (lF (lw (rdl ws i))))::Rs),⟨G,G,(by rw[ah,co];rfl),(Jg.snoc Z (aR.take (aTz (hob _ (YH ar G)).1) _)),(aLt ar G hl cF)⟩,G,SA,λ_ h=>h.selR (F:=[_,_,_,_]) (F':=[_,_]) [3,1] cC Z⟩
  ·refine aL<|aN<|wA Z Z<|wm Z<|aA ?_;exact⟨i+1,A1,n1,c1,l,Rs,⟨G,G,(co),(Jg),(aSc ar G hl cF)⟩,G,SA,λ_ h=>h.selR (F:=[_,_,_]) (F':=[_]) [2] cC Z⟩
 ·obtain rfl:=co;obtain rfl:i=ws.length:=G
  rw[cu,uz] at hl;refine aY<|wq<|wm Z<|wa (aF bNh Z (aDn (enc:=encR) (aDl _) XJ (λ_=>Z) aVr (l:=l) 0 Z G (λx y=>lT x.rt y.rt) aUp (λW hW x hx y hy=>aDw ((Jg x hx).2 _ _ _ hW) ((Jg y hy).2 _ _ _ hW) (Jg x hx).1 (Jg y hy).1))) ?_;rintro _ _ ⟨rfl,l1,qt,vj,rfl⟩;rw[<-qt.length_eq];refine aA<|wq<|wm Z<|wn Z<|bS (R1:=(⟨117,2,A1,l1.length,c1,rgs l1,false⟩::Rs)) (λ_ h=>h) ?_;refine⟨_,Z,?_⟩;exact⟨_,_,l1,Rs,Z,Jg.perm qt,QN ((qt.map RC.rt).trans (by rw[hl])) (iw.2 (vj.imp λ{a b} h=>by rw[pV a.rt b.rt] at h;omega)),rfl⟩
variable {w:World}
set_option maxHeartbeats 1000000 in
theorem aPe {w:World} {ft:Option Addr} {lf gd:Nat} {dj:List Value} {ws:List (List Int)} (gh:Rd w ft lf gd 1 dj) (mc:SlW .u8 w dj ws) (hN:(∀w∈ws,w.length<=8000)/\ws.length<=100000):
  Ct Tryz.prog 39 #[sl ft lf gd] w.heap.size w [] (λv R'=> ∃(A:Option Addr) (c:Nat) (vals:List Value) (Rs:List Row),v=sl A vals.length c/\SlR .u8 Rs vals (canon ws)/\R'=⟨22,1,A,vals.length,c,vals,false⟩::Rs):=by
 obtain rfl:lf=ws.length:=by have:=gh.len;have:=mc.1;omega
 refine fn1 Tryz.func39 Z Z Z ?_;have Hj:=gh.max;refine wq<|wn Z<|wq<|dB (R1:=(⟨22,1,none,0,0,[],false⟩::[])) (Sub.refl _) (λ_ h=>h.nil 22 1)<|wn Z<|aD<|wq<|wm Z<|wa (aF bOq Z (Ct.fresh (λw hw=>aSd ((gh.c _) w hw) (mc.c hw) cE))) ?_;rintro _ _ ⟨_,rfl,bm,bl,rh,Qm,rfl,Tg,Do,rfl⟩;refine dB (R1:=(⟨117,2,bm,rh.length,bl,rgs rh,false⟩::⟨22,1,none,0,0,[],false⟩::Qm)) (Sub.refl _) (λ_ h=>Hp.toTail0 (X:=[_]) (Y:=[_]) h)<|wy (aQ Hu Z)<|wm Z<|aA<|aH ?_;refine TC (λ(i:Int) (A1:Option Addr) (n1:Nat) (c1:Nat) (vals:List Value) (ls:List (List Int)) (Rs:List Row)=>[(3,sl A1 n1 c1),(7,sl bm rh.length bl),(8,I ((rh.length:Nat):Int)),(9,I i)]) (λi A1 n1 c1 vals ls Rs=>(⟨117,2,bm,rh.length,bl,rgs rh,false⟩::⟨22,1,A1,n1,c1,vals,false⟩::Rs)) (λi A1 n1 c1 vals ls Rs=>(0<=i)/\(i<=rh.length)/\(n1=vals.length)/\(SlR .u8 Rs vals ls)/\(RgR Rs rh)/\(ls=(rh.take i.toNat).map (λr=>rep r.root r.times))) (λi A1 n1 c1 vals ls Rs=>(rh.length-i).toNat) ?_ ?_
 ·exact⟨0,none,0,0,[],[],Qm,⟨G,G,(Z),(SlR.nilR _ _),(Tg),(Z)⟩,SA,λ_ h=>h⟩
 intro i A1 n1 c1 vals ls Rs ⟨ar,jj,co,ue,Jg,Mr⟩;have ub:=bq List.length Mr;rw[bz,ax] at ub;have Tm:=ue.1;have ov:0<=i->i<rh.length->0<(rdG rh i).root.length/\1<=(rdG rh i).times/\(rdG rh i).times.toNat*(rdG rh i).root.length<=8000:=λh h'=>aZz Do hN.1 (aIh h h');have Xp:rh.length<=ws.length:=by have h1:=bq List.length Do;rw[bz,(tX ws).length_eq] at h1;have h2:=FT ws;omega
 refine wq<|wL Z Z<|aA<|aD<|bF Z (λaq=> ?_) (λaq=> ?_)
 ·have Os:=ov ar G;refine aL<|aD<|aH<|wq<|wy (fA Hu aRi Z Z (rdr 0 Z) Z) ?_;have Yt:=(Jg _ (aIh (l:=rh) (i:=i) G G)).2;refine wy (bIy Az Z aRi Z (rdr 0 Z) G G)<|wa (jF (sz:=2) bIn Z) ?_;rintro _ _ ⟨Kr,rfl,rfl⟩;refine bY (gP (vs:=[sl ((rdG rh i).A) ((rdG rh i).root.length) ((rdG rh i).c),I ((rdG rh i).times)]) 0 Z aRi Z Z Z (by intro v hv;simp at hv;rcases hv with rfl|rfl<;>rfl) Z) ?_;rintro _ _ rfl;refine aA<|aN<|wm Z<|wy (aB (off:=0) (m:=0) Az Z dA Z Z Z)<|wy (aK (rdr 0 Z) af Z Z Z)<|wy (aB (off:=1) (m:=1) Az Z sz3 Z Z Z)<|wy (aK (rdr 0 Z) ak Z Z Z)<|wa (aF bOp Z (Ct.fresh (λw hw=>aEa ((λ_ h=>Yt _ _ _ (h.right (R':=[_,_,_]))) w hw) Os.1 Os.2.1 Os.2.2))) ?_;rintro _ _ ⟨_,rfl,jt,bx,rfl,rfl⟩;refine wa (mE [Value.slice jt ((rep ((rdG rh i).root) ((rdG rh i).times)).length) bx] dm xY Z Z Z Z) ?_;rintro _ _ ⟨iz,rfl,rfl⟩;refine wa (oU 4 Z Z dm aYt Z Z Z Z Z (rdr 0 Z) (by simp[Value.oneCell']) (by dsimp only;omega)) ?_;rintro _ _ ⟨fa,rp,rfl,rfl⟩;refine bK (v:=sl fa (n1+1) rp) Z<|wn Z<|aN<|wA Z Z<|wm Z<|aA ?_;exact⟨i+1,fa,n1+1,rp,vals++([Value.slice jt ((rep ((rdG rh i).root) ((rdG rh i).times)).length) bx]),(ls++[rep (rdG rh i).root (rdG rh i).times]),(⟨5,1,jt,(rep ((rdG rh i).root) ((rdG rh i).times)).length,bx,ints .u8 (rep ((rdG rh i).root) ((rdG rh i).times)),true⟩::Rs),⟨G,G,(by rw[ah,co];rfl),(ue.snoc Z),(Jg.right [_]),(by rw[aGj ar G,<-Mr])⟩,G,SA,λ_ h=>h.selR (F:=[_,_,_,_,_]) (F':=[_,_,_]) [3,4,1] cC Z⟩
 ·refine aY<|wq<|wm Z<|wn Z ?_;obtain rfl:ls=canon ws:=by rw[Mr];exact aGk Do G
  refine aT [1] 2 cC Z ?_;refine⟨_,Z,?_⟩;subst co;exact⟨_,_,vals,Rs,Z,ue,Z⟩
theorem aOd {ap:Option Addr} {aw ao:Nat} {u:List Int} {pe:Option Addr} {rn pf:Nat} {t:List Int} (al:Rd w ap aw ao 1 (ints .u8 u)) (se:Rd w pe rn pf 1 (ints .u8 t)) (am:aR u) (Nf:aR t):
  Ct Tryz.prog 274 #[sl ap aw ao,sl pe rn pf] w.heap.size w [] (λv R'=>v= .bool (decide (u=t))):=by
 obtain rfl:=al.lenI;obtain rfl:=se.lenI;refine fn1 Tryz.func274 Z Z Z ?_;have mj:=al.max;have Vl:=se.max;refine wq<|wn Z<|wq<|wm Z<|wy (zL af bg Hl Z (al.c _))<|wm Z<|wy (zL af bg Hl Z (se.c _))<|wy (bJa Z Z am Nf)<|wn Z<|bW ?_;refine⟨_,Z,?_⟩;rfl
variable {ws ls:List (List Int)} {w:List Int}
def kw (c:List Int):RT:=(lF c,iW c)
structure CI (ws:List (List Int)) (ls:List (List Int)):Prop where
 perm:(ls.map kw).Perm (fB ws)
 sorted:ls.Pairwise λa b=>lT (kw a) (kw b)<=0
theorem CI.nil:CI [] []:=⟨.refl _, .nil⟩
theorem CI.skip (h:CI ws ls) (hw:w.length=0):CI (ws++[w]) ls:=⟨by
 have e:fB [w]=[]:=by unfold fB;simp[hw]
 rw[mQ,e,jk]
 exact h.perm,h.sorted⟩
theorem CI.put {j:Int} (h:CI ws ls) (hw:0<w.length) (h0:0<=j) (h1:j<=ls.length) (o0: ∀q:Int,j<=q->q<ls.length->lT (kw (lw w)) (kw (rdl ls q))<0) (t6: ¬(0<j/\lT (kw (lw w)) (kw (rdl ls (j-1)))<0)):CI (ws++[w]) (ls.take j.toNat++[lw w]++ls.drop j.toNat):=by
 refine⟨?_,?_⟩
 ·rw [mQ];have e:fB [w]=[EE w]:=by unfold fB;simp[hw]
  rw[e,jo,jo];refine List.Perm.trans ?_ (Dc [EE w] h.perm);rw[gy];refine(Bc _ yc).trans ?_;rw[<-gy,<-jo,gu];exact .refl _
 ·have hs:=h.sorted;have Lu:=hs;rw[<-gu j.toNat ls,kz] at Lu;obtain⟨s1,s2,s3⟩:=Lu
  have Rz: ∀b∈ls.drop j.toNat,lT (kw (lw w)) (kw b)<0:=λb hb=>by
   obtain⟨k,hk,e⟩:=gz.1 hb;rw[ay] at hk;have:=o0 (j+k) G G
   have e2:rdl ls (j+k)=b:=by
    rw[<-e,Be];unfold rdl;rw[show(j+(k:Int)).toNat=j.toNat+k by omega,ai,av G];rfl
   rwa[e2] at this
  have i4: ∀a∈ls.take j.toNat,lT (kw a) (kw (lw w))<=0:=λa ha=>by
   obtain⟨k,hk,e⟩:=gz.1 ha;rw[ax] at hk;have hj:0<j:=G
   have hl:lT (kw (rdl ls (j-1))) (kw (lw w))<=0:=by
    rw[pV (kw (lw w))];have:=λc=>t6 ⟨hj,c⟩;omega
   have e2:rdl ls (j-1)=ls[(j-1).toNat]' G:=by
    unfold rdl;rw[ai,av G];rfl
   rw[ym] at e;rcases fe k (j-1).toNat with g|g
   ·have:=dn.1 hs k (j-1).toNat G G g;rw[e,<-e2] at this;exact IW _ _ _ this hl
   ·obtain rfl:k=(j-1).toNat:=G
    rw[<-e,<-e2];exact hl
  rw[gy,kz];refine⟨s1,?_,?_⟩
  ·rw [qb,jb];exact⟨λb hb=>by have:=Rz b hb;omega,s2⟩
  ·intro a ha b hb;rw[qb,jm] at hb;rcases hb with rfl|hb
   ·exact i4 a ha
   ·exact s3 a ha b hb
theorem CI.done {ls:List (List Int)} (h:CI ws ls) (hp: ∀c∈ls,0<c.length):ls=canon ws:=by
 have:ls.map kw=yC ws:=QN h.perm (iw.2 h.sorted);unfold canon;rw[<-this,yz]
 conv=>lhs;rw[<-List.map_id ls]
 refine Cc λc hc=> ?_;exact(FM (hp c hc)).symm
end Go.Proofs.YtdbebmmhdefgdaaGreat
namespace Go.Pure
open Go Go.Eng
variable {t:Int} {u b:List Int}
def DI (t:Int) (u:List Int) (p:List Int × List Int):Prop:=
 (t=1/\ ∃b:List Int,b.Perm (iota u.length)/\b.Pairwise (bX u)/\p=(bO (zat b),ofL u b))\/
 (t=2/\ ∃T:List (Int × Int),T.Perm (fT (bws u) (bws u).length)/\T.Pairwise (jB (bws u))/\p=([],T.map (lastB (bws u))))\/
 (t≠1/\t≠2/\p=([],u))
theorem DI.uniq {p q:List Int × List Int} (h1:DI t u p) (h2:DI t u q):p=q:=by
 rcases h1 with⟨e1,b,hb,sb,rfl⟩|⟨e1,T,hT,sT,rfl⟩|⟨e1,e2,rfl⟩<;>rcases h2 with⟨f1,c,hc,sc,rfl⟩|⟨f1,U,hU,sU,rfl⟩|⟨f1,f2,rfl⟩
 ·rw[aEl hb hc sb sc]
 ·omega
 ·omega
 ·omega
 ·rw[EM aEk (hT.trans hU.symm) sT sU]
 ·omega
 ·omega
 ·omega
 ·rfl
open Classical in
noncomputable def fQ (t:Int) (u:List Int):List Int × List Int:=if h: ∃p,DI t u p then Classical.choose h else([],[])
theorem zU {p:List Int × List Int} (h:DI t u p):fQ t u=p:=by
 have he: ∃p,DI t u p:=⟨p,h⟩;unfold fQ;rw[dif_pos he];exact(Classical.choose_spec he).uniq h
theorem JP (h1:t≠1) (h2:t≠2):fQ t u=([],u):=zU (.inr (.inr ⟨h1,h2,rfl⟩))
theorem vG (hp:b.Perm (iota u.length)) (hs:b.Pairwise (bX u)):fQ 1 u=(bO (zat b),ofL u b):=zU (.inl ⟨rfl,b,hp,hs,rfl⟩)
theorem vH {T:List (Int × Int)} (hp:T.Perm (fT (bws u) (bws u).length)) (hs:T.Pairwise (jB (bws u))):fQ 2 u=([],T.map (lastB (bws u))):=zU (.inr (.inl ⟨rfl,T,hp,hs,rfl⟩))
noncomputable def cB (t o:Int) (b:List Int):List Int:=
 bO b.length++((fQ t b).1++(bO (bZ (fQ t b).2 o).length++(fJ (bv (iH b))++bZ (fQ t b).2 o)))
theorem DI.facts {p:List Int × List Int} (h:DI t u p) (hu:aR u) (hN:u.length<=100000):(p.1.length<=3/\aR p.1)/\aR p.2/\p.2.length=u.length:=by
 rcases h with⟨_,b,hb,sb,rfl⟩|⟨_,T,hT,sT,rfl⟩|⟨_,_,rfl⟩
 ·have e1:=mH hb sb;have e2:=yR (s:=u) (k:=0) G;exact⟨⟨dV 2 _ G,fM G⟩,uC hu hb,(vW hb sb).length_eq⟩
 ·exact⟨⟨cD,λ_ h=>nomatch h⟩,kG hT (by rw[lI];exact hu),by rw[bz,xW hT]⟩
 ·exact⟨⟨cD,λ_ h=>nomatch h⟩,hu,rfl⟩
theorem WU (hu:aR u) (hN:u.length<=100000):((fQ t u).1.length<=3/\aR (fQ t u).1)/\aR (fQ t u).2/\(fQ t u).2.length<=u.length:=by
 by_cases h: ∃p,DI t u p
 ·obtain ⟨p,hp⟩:=h;rw[zU hp];have:=hp.facts hu hN;exact⟨this.1,this.2.1,G⟩
 ·unfold fQ;rw[dif_neg h];exact⟨⟨cD,λ_ h=>nomatch h⟩,(λ_ h=>nomatch h),cD⟩
theorem zG {o:Int} (hb:aR b) (hN:b.length<=100000):(cB t o b).length<=2*b.length+22/\aR (cB t o b):=by
 obtain⟨⟨h1,h0⟩,h2,h3⟩:=WU (t:=t) hb hN;have h4:=nQ (o:=o) h2;have h5:=dV 2 (b.length:Int) G;have h6:=dV 2 ((bZ (fQ t b).2 o).length:Int) G;have h7:(fJ (bv (iH b))).length=4:=rfl;unfold cB;refine⟨by simp only[ah];omega,?_⟩;intro x hx;simp only[gp] at hx;rcases hx with hx|hx|hx|hx|hx
 ·exact fM G x hx
 ·exact h0 x hx
 ·exact fM G x hx
 ·exact jN _ x hx
 ·exact gX _ _ x hx
def chK (m n:Nat):Nat:=(m+n-1)/n
noncomputable def kQ (t o:Int) (n:Nat) (u:List Int) (k:Nat):List Int:=((List.range k).map λj=>cB t o ((u.drop (j*n)).take n)).flatten
theorem uK (t o:Int) (n:Nat) (u:List Int):kQ t o n u 0=[]:=rfl
theorem uL (t o:Int) (n:Nat) (u:List Int) (k:Nat):kQ t o n u (k+1)=kQ t o n u k++cB t o ((u.drop (k*n)).take n):=by
 unfold kQ;rw[zq,jo,qg];simp
theorem kJ {t o:Int} {n:Nat} {u:List Int} (hu:aR u) (hN:u.length<=100000): ∀k:Nat,(kQ t o n u k).length<=(2*u.length+22)*k/\aR (kQ t o n u k)
 |0=>by rw[uK];exact⟨cD,λ_ h=>nomatch h⟩
 |k+1=>by
  have h1:=kJ (t:=t) (o:=o) (n:=n) hu hN k;have h2:=zG (t:=t) (o:=o) (b:=(u.drop (k*n)).take n) ((hu.drop _).take _) (by rw[ax,ay];omega);have h3:((u.drop (k*n)).take n).length<=u.length:=by rw[ax,ay];omega
  rw[uL,ah,Nat.mul_add];refine⟨G,λx hx=> ?_⟩;rcases gp.1 hx with hx|hx
  ·exact h1.2 x hx
  ·exact h2.2 x hx
theorem VK {m n:Nat} (hn:1<=n):chK m n<=m:=by
 unfold chK;rcases dz m with h|h
 ·subst h;rw[Dx G];exact di _
 ·refine Nat.le_of_lt_succ ((Nat.div_lt_iff_lt_mul G).2 ?_);have:(m+1)*1<=(m+1)*n:=Nat.mul_le_mul_left _ hn;have e:(m+1)*n=m*n+n:=by rw[xz,Bl]
  have e2:m*1<=m*n:=Nat.mul_le_mul_left _ hn;show m+n-1<(m+1)*n;omega
noncomputable def jU (t so o size:Int) (u:List Int):List Int:=
 (([87,72,82,76]++[1,t,so,o])++bO size++kQ t o size.toNat u (chK u.length size.toNat))++(bO 0++bO u.length)
end Go.Pure
namespace Go.Proofs.YtdbebmmhdefgdaaGreat
open Go Go.Eng Go.Pure
open Tryz
set_option maxRecDepth 100000
variable {B aw ao:Nat} {w0:World} {R:List Row} {so od sz:Int} {ap:Option Addr} {u:List Int}
theorem CX {tu:Int} (ht:0<=tu/\tu<=3) (hp:(0<=so/\so<=2)/\(od=0\/od=1)/\(1<=sz/\sz<=16777216)):
  Ct Tryz.prog 23 #[.agg #[I tu,I so,I od,I sz]] B w0 (R) (λv R'=>v=bt/\R'=R):=by
 refine fn1 Tryz.func23 Z Z Z ?_;refine wq<|wa (bR (sz:=4) Z Z) ?_;rintro _ _ ⟨an,rfl,rfl⟩;refine wn Z<|wq<|wy (aB (off:=0) (m:=0) az Z sz3 Z Z Z)<|wy (aK (rdr 0 Z) ak Z Z Z)<|wy (Yl.t (gZ Z Z) G)<|wm Z<|aC Z Z<|wy (aB (off:=0) (m:=0) az Z sz3 Z Z Z)<|aC Z Z<|wy (aK (rdr 0 Z) ak Z Z Z)<|aC Z Z<|wy (Yl.t (qU Z Z) G)<|wy (bB Z Z) ?_;refine wm Z<|aC Z Z<|wy (aB (off:=1) (m:=1) az Z sz3 Z Z Z)<|aC Z Z<|wy (aK (rdr 0 Z) ak Z Z Z)<|aC Z Z<|wy (Yl.t (gZ Z Z) G)<|wy (bB Z Z)<|wm Z<|aC Z Z<|wy (aB (off:=1) (m:=1) az Z sz3 Z Z Z)<|aC Z Z<|wy (aK (rdr 0 Z) ak Z Z Z)<|aC Z Z<|wy (Yl.t (eG Z Z) G) ?_;refine wy (bB Z Z)<|wm Z<|aC Z Z<|wy (aB (off:=2) (m:=2) az Z sz3 Z Z Z)<|aC Z Z<|wy (aK (rdr 0 Z) ak Z Z Z)<|aC Z Z<|wy (aX Z Z)<|aC Z Z<|wm Z<|dD 4 [(1,PG an),(21,bt),(29, .bool (decide ((od=0)\/(od=1))))] ((rc 27 4 an [I tu,I so,I od,I sz])::R) ?_ ?_
 ·refine bV 25 Z (λaq=> ?_) (λaq=> ?_)
  ·refine aP Z Z Z Z<|aP Z Z Z Z<|aP Z Z Z Z<|aC Z Z<|wy (bB Z Z)<|aA ?_;exact⟨SA,λ_ h=>h⟩
  ·refine aC Z Z<|wy (aB (off:=2) (m:=2) az Z sz3 Z Z Z)<|aC Z Z<|wy (aK (rdr 0 Z) ak Z Z Z)<|aC Z Z<|wy (aX Z Z)<|aC Z Z<|wy (aS Z Z)<|aA ?_;exact⟨SA,λ_ h=>h⟩
 refine kK 29 Z (hp.2.1)<|wy (bB Z Z)<|wm Z<|aC Z Z<|wy (aB (off:=3) (m:=3) az Z sz3 Z Z Z)<|aC Z Z<|wy (aK (rdr 0 Z) ak Z Z Z)<|aC Z Z<|wy (Yl.t (gZ Z Z) G)<|wy (bB Z Z)<|wm Z<|aC Z Z<|wy (aB (off:=3) (m:=3) az Z sz3 Z Z Z)<|aC Z Z<|wy (aK (rdr 0 Z) ak Z Z Z) ?_;refine aC Z Z<|wy (Yl.t (qU Z Z) G)<|wy (bB Z Z)<|wn Z<|aT [] 1 cC Z ?_;refine⟨_,Z,?_⟩;exact⟨Z,Z⟩
theorem aDd (al:RdC B w0 R ap aw ao 1 (ints .u8 u)) (bw:aw=u.length) (am:aR u) (hN:u.length<=100000) (hp:(0<=so/\so<=2)/\(od=0\/od=1)/\(1<=sz/\sz<=16777216)):
  Ct Tryz.prog 74 #[sl ap aw ao,sl none 0 0, .agg #[I 0,I so,I od,I sz]] B w0 (R) (λv R'=>v= .tuple #[sl none 0 0,sl ap aw ao]/\R'=R):=by
 subst bw;refine fn2 Jw Z Z Z ?_;refine wq<|wa (bR (sz:=4) Z Z) ?_;rintro _ _ ⟨an,rfl,rfl⟩;refine wg Z<|wn Z<|aD<|wq<|wy (aB (off:=0) (m:=0) az Z sz3 Z Z Z)<|wy (aK (rdr 0 Z) ak Z Z Z)<|aA<|aH<|wq<|wy (Yl.f (aX Z Z) cC)<|wn Z ?_;refine aJ Z<|wq<|wy (Yl.f (aX Z Z) cC)<|wn Z<|aJ Z<|wq<|wy (Yl.f (aX Z Z) cC)<|wn Z<|aJ Z<|aL<|aD ?_;refine aN<|wm Z<|wg Z<|wn Z<|aT [] 1 cC Z ?_;refine⟨_,_,Z,Z,?_⟩;exact⟨Z,Z⟩
theorem aDc (al:RdC B w0 R ap aw ao 1 (ints .u8 u)) (bw:aw=u.length) (am:aR u) (hN:u.length<=100000) (hp:(0<=so/\so<=2)/\(od=0\/od=1)/\(1<=sz/\sz<=16777216)):
  Ct Tryz.prog 74 #[sl ap aw ao,sl none 0 0, .agg #[I 1,I so,I od,I sz]] B w0 (R) (λv R'=> ∃(b1:List Int) (A1:Option Addr) (c1:Nat) (A2:Option Addr) (c2:Nat),v= .tuple #[sl A1 (bO (zat b1)).length c1,sl A2 (ofL u b1).length c2]/\b1.Perm (iota u.length)/\b1.Pairwise (bX u)/\R'=(ru 5 A1 ((bO (zat b1)).length) c1 (bO (zat b1)))::(ru 5 A2 ((ofL u b1).length) c2 (ofL u b1))::R):=by
 subst bw;refine fn2 Jw Z Z Z ?_;refine wq<|wa (bR (sz:=4) Z Z) ?_;rintro _ _ ⟨an,rfl,rfl⟩;refine wg Z<|wn Z<|aD<|wq<|wy (aB (off:=0) (m:=0) az Z sz3 Z Z Z)<|wy (aK (rdr 0 Z) ak Z Z Z)<|aA<|aH<|wq<|wy (Yl.t (aX Z Z) cC)<|wn Z ?_;refine bH Z<|aD<|bP mixed<|wD 1 Z (aB (off:=1) (m:=1) az Z sz3 Z Z Z)<|wD 2 Z (aK (rdr 0 Z) ak Z Z Z)<|wD 3 Z (aM Z)<|wC 0 Z (aF bOw Z (Ct.fresh (λw hw=>aBk))) ?_;rintro _ _ ⟨_,rfl,ew,rfl,rfl⟩;refine⟨.inr λ_ h=>h.right (R':=[_]),?_⟩;refine wC 4 Z (aF bOm Z ((GX (RdC.right al [_]) (by first|rfl|(simp;done)|omega) am hN cC))) ?_;rintro _ _ ⟨b1,ir,iu,e1,d0,d1,d2,rfl,hso,rfl⟩;obtain⟨_,Fr⟩:=hso.resolve_left (λh=>absurd h.1 G);refine⟨.inl cA,?_⟩;refine wD 5 Z (aM Z)<|wD 6 Z (gY Z Z)<|wD 7 Z (gY Z Z)<|wD 8 Z (bG Z)<|wD 9 Z (bG Z)<|wN<|wq<|wm Z<|wm Z<|wa (aF bEx Z (Ct.fresh (λw hw=>aXv ((RdC.right al [_,_,_]) w hw) ((rdr 0 Z) w hw) Fr.2.1 G))) ?_;rintro _ _ ⟨_,rfl,du,dp,rfl,rfl⟩;refine wm Z<|wX Z Z<|wX Z Z<|wX Z Z<|wg Z<|wg Z<|wn Z<|wq<|wm Z<|wa (aF OV Z (Ct.fresh (λw hw=>lG (by have e1:=mH Fr.2.1 Fr.2.2.1;have e2:=yR (s:=u) (k:=0) G;omega)))) ?_;rintro _ _ ⟨_,rfl,bo,bp,rfl,rfl⟩;refine wm Z<|wg Z<|wn Z<|aT [0,1] 5 cC Z ?_;refine⟨_,_,Z,Z,?_⟩;exact⟨b1,_,_,_,_,Z,Fr.2.1,Fr.2.2.1,Z⟩
theorem aDb (al:RdC B w0 R ap aw ao 1 (ints .u8 u)) (bw:aw=u.length) (am:aR u) (hN:u.length<=100000) (hp:(0<=so/\so<=2)/\(od=0\/od=1)/\(1<=sz/\sz<=16777216)):
  Ct Tryz.prog 74 #[sl ap aw ao,sl none 0 0, .agg #[I 2,I so,I od,I sz]] B w0 (R) (λv R'=> ∃(l1:List (Int × Int)) (A1:Option Addr) (c1:Nat),v= .tuple #[sl none 0 0,sl A1 l1.length c1]/\l1.Perm (fT (bws u) (bws u).length)/\l1.Pairwise (jB (bws u))/\R'=(ru 5 A1 l1.length c1 (l1.map (lastB (bws u))))::R):=by
 subst bw;refine fn2 Jw Z Z Z ?_;refine wq<|wa (bR (sz:=4) Z Z) ?_;rintro _ _ ⟨an,rfl,rfl⟩;refine wg Z<|wn Z<|aD<|wq<|wy (aB (off:=0) (m:=0) az Z sz3 Z Z Z)<|wy (aK (rdr 0 Z) ak Z Z Z)<|aA<|aH<|wq<|wy (Yl.f (aX Z Z) cC)<|wn Z ?_;refine aJ Z<|wq<|wy (Yl.t (aX Z Z) cC)<|wn Z<|bH Z<|wq<|wm Z<|wa (aF bFg Z (Ct.fresh (λw hw=>NL ((RdC.right al [_]) w hw) am hN))) ?_;rintro _ _ ⟨_,rfl,l1,ff,fh,rfl,pr,vb,rfl⟩;refine wm Z<|wX Z Z<|wX Z Z<|wg Z<|wn Z<|wq<|wm Z<|wg Z<|wn Z<|aT [0] 2 cC Z ?_;refine⟨_,_,Z,Z,?_⟩;exact⟨l1,_,_,Z,pr,vb,Z⟩
theorem aPn (al:RdC B w0 R ap aw ao 1 (ints .u8 u)) (bw:aw=u.length) (am:aR u) (hN:u.length<=100000) (hp:(0<=so/\so<=2)/\(od=0\/od=1)/\(1<=sz/\sz<=16777216)):
  Ct Tryz.prog 41 #[sl ap aw ao,sl none 0 0, .agg #[I 0,I so,I od,I sz]] B w0 (R) (λv R'=> ∃(A1:Option Addr) (c1:Nat),v=sl A1 (cB 0 od u).length c1/\R'=(ru 5 A1 ((cB 0 od u).length) c1 (cB 0 od u))::R):=by
 subst bw;refine fn1 Jp Z Z Z ?_;refine wq<|wa (bR (sz:=4) Z Z) ?_;rintro _ _ ⟨an,rfl,rfl⟩;refine wn Z<|wq<|wm Z<|wm Z<|wy (cK (vs:=[I 0,I so,I od,I sz]) (rdr 0 Z) az Z fD Z Z (au Z) Z)<|wa (aF bHl Z (aDd (RdC.right al [_]) (by first|rfl|(simp;done)|omega) am hN hp)) ?_;rintro _ _ ⟨rfl,rfl⟩;have ph:(u).length=u.length:=rfl;have Ll:=nQ (b:=u) (o:=od) am;have yk:=dV 2 (u.length:Int) G;have e9:=dV 2 ((bZ u od).length:Int) G;refine wm Z<|wX Z Z<|wX Z Z<|wg Z<|wn Z<|wq<|wm Z<|wy (aB (off:=2) (m:=2) az Z sz3 Z Z Z)<|wy (aK (rdr 0 Z) ak Z Z Z)<|wa (aF bCi Z (Ct.fresh (λw hw=>xM ((RdC.right al [_]) w hw) am hp.2.1 G))) ?_;rintro _ _ ⟨_,rfl,ff,fh,rfl,rfl⟩;refine wm Z<|wX Z Z<|wX Z Z<|wg Z<|wn Z<|wq<|wm Z<|wy (aQ af Z)<|wa (aF OV Z (Ct.fresh (λw hw=>lG G))) ?_;rintro _ _ ⟨_,rfl,en,kj,rfl,rfl⟩;refine wm Z<|wm Z<|wy (aQ af Z)<|wa (aF OV Z (Ct.fresh (λw hw=>lG G))) ?_;rintro _ _ ⟨_,rfl,dr,bh,rfl,rfl⟩;refine wa (aF aOm Z (Ct.fresh (λw hw=>pY))) ?_;rintro _ _ ⟨_,rfl,jn,rfl,rfl⟩;refine wm Z<|wa (mE [Value.slice ap u.length ao] dm xY Z Z Z Z) ?_;rintro _ _ ⟨iz,rfl,rfl⟩;refine wa (aF aOl Z (Ct.at 1 Z (pX (ls:=[u]) (.inl ⟨Z,Z,cz ..,G⟩) (rdr 0 rfl) rfl (zJ.one (l:=u) (RdC.right al [_,_,_,_,_]) am (by first|rfl|simp|(simp[upd];done))) (Big.one (by first|omega|decide|simp))))) ?_;rintro _ _ ⟨rfl,rfl⟩;refine wa (aF bHk Z (Ct.fresh (λw hw=>MH ⟨by unfold bv;omega,by unfold bv;have:=(iH ([u]).flatten).isLt;omega⟩))) ?_;rintro _ _ ⟨_,rfl,fa,rp,rfl,rfl⟩;refine wm Z<|wa (mE [Value.slice en ((bO ((u.length:Nat):Int)).length) kj,Value.slice none 0 0,Value.slice dr ((bO (((bZ u od).length:Nat):Int)).length) bh,Value.slice fa 4 rp,Value.slice ff ((bZ u od).length) fh] dm xY Z Z Z Z) ?_;rintro _ _ ⟨vq,rfl,rfl⟩;refine wa (aF OU Z (Ct.fresh (λw hw=>kI ((rdr 0 Z) w hw) ((((((jG _ _).snoc ((rdr 5 Z) w hw) (λx hx=>fP ((fM G) x hx)) G).snoc ((UD _) w hw) (λx hx=>by cases hx) cC).snoc ((rdr 4 rfl) w hw) (λx hx=>fP ((fM G) x hx)) G).snoc ((rdr 1 rfl) w hw) (λx hx=>fP ((jN _) x hx)) (by show(4:Nat)<=_;decide)).snoc ((rdr 6 rfl) w hw) (λx hx=>fP ((gX _ _) x hx)) G) ⟨by simp only[uk,je,jh,qb,lm,ry,yj,Im,jl];have h4:(fJ (bv (iH ([u]).flatten))).length=4:=rfl;omega,cD⟩))) ?_;rintro _ _ ⟨_,rfl,tg,ti,rfl,rfl⟩;refine wn Z<|aT [0] 9 cC Z ?_;refine⟨_,Z,?_⟩
 have e:([bO ((u.length:Nat):Int),[],bO (((bZ (u) od).length:Nat):Int),fJ (bv (iH ([u]).flatten)),bZ (u) od]).flatten=cB 0 od u:=by
  unfold cB;rw[JP (t:=0) (u:=u) cC cC];simp
 rw[<-e];exact⟨_,_,Z,Z⟩
theorem aPm (al:RdC B w0 R ap aw ao 1 (ints .u8 u)) (bw:aw=u.length) (am:aR u) (hN:u.length<=100000) (hp:(0<=so/\so<=2)/\(od=0\/od=1)/\(1<=sz/\sz<=16777216)):
  Ct Tryz.prog 41 #[sl ap aw ao,sl none 0 0, .agg #[I 1,I so,I od,I sz]] B w0 (R) (λv R'=> ∃(A1:Option Addr) (c1:Nat),v=sl A1 (cB 1 od u).length c1/\R'=(ru 5 A1 ((cB 1 od u).length) c1 (cB 1 od u))::R):=by
 subst bw;refine fn1 Jp Z Z Z ?_;refine wq<|wa (bR (sz:=4) Z Z) ?_;rintro _ _ ⟨an,rfl,rfl⟩;refine wn Z<|wq<|wm Z<|wm Z<|wy (cK (vs:=[I 1,I so,I od,I sz]) (rdr 0 Z) az Z fD Z Z (au Z) Z)<|wa (aF bHl Z (aDc (RdC.right al [_]) (by first|rfl|(simp;done)|omega) am hN hp)) ?_;rintro _ _ ⟨b1,ff,fh,en,kj,rfl,cv,dq,rfl⟩;have ph:(ofL u b1).length=u.length:=(by rw[(vW cv dq).length_eq]);have Ll:=nQ (b:=ofL u b1) (o:=od) (uC am cv);have yk:=dV 2 (u.length:Int) G;have e9:=dV 2 ((bZ (ofL u b1) od).length:Int) G;have hz:0<=zat b1/\zat b1<=100000:=by have e1:=mH cv dq;have e2:=yR (s:=u) (k:=0) G;omega
 have ua:=dV 2 (zat b1) G;refine wm Z<|wX Z Z<|wX Z Z<|wg Z<|wn Z<|wq<|wm Z<|wy (aB (off:=2) (m:=2) az Z sz3 Z Z Z)<|wy (aK (rdr 2 Z) ak Z Z Z)<|wa (aF bCi Z (Ct.fresh (λw hw=>xM ((rdr 1 Z) w hw) (uC am cv) hp.2.1 G))) ?_;rintro _ _ ⟨_,rfl,dr,bh,rfl,rfl⟩;refine wm Z<|wX Z Z<|wX Z Z<|wg Z<|wn Z<|wq<|wm Z<|wy (aQ af Z)<|wa (aF OV Z (Ct.fresh (λw hw=>lG G))) ?_;rintro _ _ ⟨_,rfl,pi,cx,rfl,rfl⟩;refine wm Z<|wm Z<|wy (aQ af Z)<|wa (aF OV Z (Ct.fresh (λw hw=>lG G))) ?_;rintro _ _ ⟨_,rfl,fa,rp,rfl,rfl⟩;refine wa (aF aOm Z (Ct.fresh (λw hw=>pY))) ?_;rintro _ _ ⟨_,rfl,g_18,rfl,rfl⟩;refine wm Z<|wa (mE [Value.slice ap u.length ao] dm xY Z Z Z Z) ?_;rintro _ _ ⟨g_20,rfl,rfl⟩;refine wa (aF aOl Z (Ct.at 1 Z (pX (ls:=[u]) (.inl ⟨Z,Z,cz ..,G⟩) (rdr 0 rfl) rfl (zJ.one (l:=u) (RdC.right al [_,_,_,_,_,_,_]) am (by first|rfl|simp|(simp[upd];done))) (Big.one (by first|omega|decide|simp))))) ?_;rintro _ _ ⟨rfl,rfl⟩;refine wa (aF bHk Z (Ct.fresh (λw hw=>MH ⟨by unfold bv;omega,by unfold bv;have:=(iH ([u]).flatten).isLt;omega⟩))) ?_;rintro _ _ ⟨_,rfl,xd,xf,rfl,rfl⟩;refine wm Z<|wa (mE [Value.slice pi ((bO ((u.length:Nat):Int)).length) cx,Value.slice ff ((bO (zat b1)).length) fh,Value.slice fa ((bO (((bZ (ofL u b1) od).length:Nat):Int)).length) rp,Value.slice xd 4 xf,Value.slice dr ((bZ (ofL u b1) od).length) bh] dm xY Z Z Z Z) ?_;rintro _ _ ⟨xi,rfl,rfl⟩;refine wa (aF OU Z (Ct.fresh (λw hw=>kI ((rdr 0 Z) w hw) ((((((jG _ _).snoc ((rdr 5 Z) w hw) (λx hx=>fP ((fM G) x hx)) G).snoc ((rdr 7 Z) w hw) (λx hx=>fP ((fM hz.1) x hx)) G).snoc ((rdr 4 Z) w hw) (λx hx=>fP ((fM G) x hx)) G).snoc ((rdr 1 Z) w hw) (λx hx=>fP ((jN _) x hx)) (by show(4:Nat)<=_;decide)).snoc ((rdr 6 Z) w hw) (λx hx=>fP ((gX _ _) x hx)) G) ⟨by simp only[uk,je,jh,qb,lm,ry,yj,Im,jl];have h4:(fJ (bv (iH ([u]).flatten))).length=4:=rfl;omega,cD⟩))) ?_;rintro _ _ ⟨_,rfl,ox,oy,rfl,rfl⟩;refine wn Z<|aT [0] 11 cC Z ?_;refine⟨_,Z,?_⟩
 have e:([bO ((u.length:Nat):Int),bO (zat b1),bO (((bZ (ofL u b1) od).length:Nat):Int),fJ (bv (iH ([u]).flatten)),bZ (ofL u b1) od]).flatten=cB 1 od u:=by
  unfold cB;rw[vG cv dq];simp
 rw[<-e];exact⟨_,_,Z,Z⟩
theorem aPl (al:RdC B w0 R ap aw ao 1 (ints .u8 u)) (bw:aw=u.length) (am:aR u) (hN:u.length<=100000) (hp:(0<=so/\so<=2)/\(od=0\/od=1)/\(1<=sz/\sz<=16777216)):
  Ct Tryz.prog 41 #[sl ap aw ao,sl none 0 0, .agg #[I 2,I so,I od,I sz]] B w0 (R) (λv R'=> ∃(A1:Option Addr) (c1:Nat),v=sl A1 (cB 2 od u).length c1/\R'=(ru 5 A1 ((cB 2 od u).length) c1 (cB 2 od u))::R):=by
 subst bw;refine fn1 Jp Z Z Z ?_;refine wq<|wa (bR (sz:=4) Z Z) ?_;rintro _ _ ⟨an,rfl,rfl⟩;refine wn Z<|wq<|wm Z<|wm Z<|wy (cK (vs:=[I 2,I so,I od,I sz]) (rdr 0 Z) az Z fD Z Z (au Z) Z)<|wa (aF bHl Z (aDb (RdC.right al [_]) (by first|rfl|(simp;done)|omega) am hN hp)) ?_;rintro _ _ ⟨l1,ff,fh,rfl,pr,vb,rfl⟩;have ph:(l1.map (lastB (bws u))).length=u.length:=(by rw[bz,xW pr]);have Ll:=nQ (b:=l1.map (lastB (bws u))) (o:=od) (kG pr (by rw[lI];exact am));have yk:=dV 2 (u.length:Int) G;have e9:=dV 2 ((bZ (l1.map (lastB (bws u))) od).length:Int) G;refine wm Z<|wX Z Z<|wX Z Z<|wg Z<|wn Z<|wq<|wm Z<|wy (aB (off:=2) (m:=2) az Z sz3 Z Z Z)<|wy (aK (rdr 1 Z) ak Z Z Z)<|wa (aF bCi Z (Ct.fresh (λw hw=>xM ((rdr 0 Z) w hw) (kG pr (by rw[lI];exact am)) hp.2.1 G))) ?_;rintro _ _ ⟨_,rfl,en,kj,rfl,rfl⟩;refine wm Z<|wX Z Z<|wX Z Z<|wg Z<|wn Z<|wq<|wm Z<|wy (aQ af Z)<|wa (aF OV Z (Ct.fresh (λw hw=>lG G))) ?_;rintro _ _ ⟨_,rfl,dr,bh,rfl,rfl⟩;refine wm Z<|wm Z<|wy (aQ af Z)<|wa (aF OV Z (Ct.fresh (λw hw=>lG G))) ?_;rintro _ _ ⟨_,rfl,pi,cx,rfl,rfl⟩;refine wa (aF aOm Z (Ct.fresh (λw hw=>pY))) ?_;rintro _ _ ⟨_,rfl,m4,rfl,rfl⟩;refine wm Z<|wa (mE [Value.slice ap u.length ao] dm xY Z Z Z Z) ?_;rintro _ _ ⟨m5,rfl,rfl⟩;refine wa (aF aOl Z (Ct.at 1 Z (pX (ls:=[u]) (.inl ⟨Z,Z,cz ..,G⟩) (rdr 0 rfl) rfl (zJ.one (l:=u) (RdC.right al [_,_,_,_,_,_]) am (by first|rfl|simp|(simp[upd];done))) (Big.one (by first|omega|decide|simp))))) ?_;rintro _ _ ⟨rfl,rfl⟩;refine wa (aF bHk Z (Ct.fresh (λw hw=>MH ⟨by unfold bv;omega,by unfold bv;have:=(iH ([u]).flatten).isLt;omega⟩))) ?_;rintro _ _ ⟨_,rfl,un,fz,rfl,rfl⟩;refine wm Z<|wa (mE [Value.slice dr ((bO ((u.length:Nat):Int)).length) bh,Value.slice none 0 0,Value.slice pi ((bO (((bZ (l1.map (lastB (bws u))) od).length:Nat):Int)).length) cx,Value.slice un 4 fz,Value.slice en ((bZ (l1.map (lastB (bws u))) od).length) kj] dm xY Z Z Z Z) ?_;rintro _ _ ⟨Ks,rfl,rfl⟩;refine wa (aF OU Z (Ct.fresh (λw hw=>kI ((rdr 0 Z) w hw) ((((((jG _ _).snoc ((rdr 5 Z) w hw) (λx hx=>fP ((fM G) x hx)) G).snoc ((UD _) w hw) (λx hx=>by cases hx) cC).snoc ((rdr 4 rfl) w hw) (λx hx=>fP ((fM G) x hx)) G).snoc ((rdr 1 rfl) w hw) (λx hx=>fP ((jN _) x hx)) (by show(4:Nat)<=_;decide)).snoc ((rdr 6 rfl) w hw) (λx hx=>fP ((gX _ _) x hx)) G) ⟨by simp only[uk,je,jh,qb,lm,ry,yj,Im,jl];have h4:(fJ (bv (iH ([u]).flatten))).length=4:=rfl;omega,cD⟩))) ?_;rintro _ _ ⟨_,rfl,k6,l4,rfl,rfl⟩;refine wn Z<|aT [0] 10 cC Z ?_;refine⟨_,Z,?_⟩
 have e:([bO ((u.length:Nat):Int),[],bO (((bZ (l1.map (lastB (bws u))) od).length:Nat):Int),fJ (bv (iH ([u]).flatten)),bZ (l1.map (lastB (bws u))) od]).flatten=cB 2 od u:=by
  unfold cB;rw[vH pr vb];simp
 rw[<-e];exact⟨_,_,Z,Z⟩
variable {B g aw ao:Nat} {w0:World} {R:List Row} {ap:Option Addr} {u:List Int}
theorem aUg {k:Int} (al:RdC B w0 R ap aw ao 1 (ints .u8 u)) (bw:aw=u.length):
  Ct Tryz.prog 92 #[PG g] B w0 ((rc 146 1 g [sl ap aw ao])::R) (λv R'=>v=I ((u.length:Nat):Int)/\R'=(rc 146 1 g [sl ap aw ao])::R):=by
 subst bw;refine fn1 Tryz.func92 Z Z Z ?_;refine wq<|wn Z<|aD<|wq<|wm Z<|wy (dP Aa Z Z)<|aA<|aJ Z<|aL<|wq<|wm Z ?_;refine wy (aG Z)<|wy (aB (off:=0) (m:=0) Ae Z dA Z Z Z)<|wy (aK (rdr 0 Z) af Z Z Z)<|wy (aQ af Z)<|wn Z<|bS (R1:=((rc 146 1 g [sl ap u.length ao])::R)) (λ_ h=>h) ?_;refine⟨_,Z,?_⟩;exact⟨Z,Z⟩
theorem BK {gc:Nat} {At:Option Addr} {nt ct:Nat} {p0 p1 p2 p3 ms tt ls V:Int} {m:Nat} (al:RdC B w0 R ap aw ao 1 (ints .u8 u)) (bw:aw=u.length) (hN:u.length<=1000000) (am:aR u) (hG:uR u V m) (hm:V<=9223372036854775807):
  Ct Tryz.prog 90 #[PG g] B w0 ((rc 87 10 g [PG gc,I p0,I p1,I p2,I p3,I ms,I tt,I ls,sl At nt ct,sl none 0 0])::(rc 146 1 gc [sl ap aw ao])::R) (λv R'=>v= .tuple #[I V,bt]/\R'=(rc 87 10 g [PG gc,I p0,I p1,I p2,I p3,I ms,I tt,I ls,sl At nt ct,sl none 0 0])::(rc 146 1 gc [sl (jA ap m ao 1) (aw-m) (ao-m)])::R):=by
 subst bw;refine fn2 Tryz.func90 Z Z Z ?_;refine wq<|wg Z<|wn Z<|wq<|wm Z<|wy (aG Z)<|wy (aB (off:=0) (m:=0) ic Z aKz Z Z Z)<|wy (aK (rdr 0 Z) Aa Z Z Z)<|wa (aF bMr Z (Ct.pick [1,0] 2 cC Z (TD (RdC.right al [_]) Z hN am hG hm cC))) ?_;rintro _ _ ⟨rfl,rfl⟩;refine wX Z Z<|wX Z Z<|wg Z<|wn Z<|aT [1,0] 2 cC Z ?_;refine⟨_,_,Z,Z,?_⟩;exact⟨Z,Z⟩
set_option maxHeartbeats 1000000 in
theorem aFh {B:Nat} {w0:World} {R:List Row} {g gc:Nat} {ap At:Option Addr} {aw ao nt ct:Nat} {u:List Int} {p0 p1 p2 p3 ms tt ls sz:Int} {b0 b1 b2:Int} {m:Nat} (al:RdC B w0 R ap aw ao 1 (ints .u8 u)) (bw:aw=u.length) (hN:u.length<=1000000) (am:aR u) (h5:u.take (5:Int).toNat=[87,72,82,76,1]) (h3:(u.drop (5:Int).toNat).take (3:Int).toNat=[b0,b1,b2]) (hl8:8<=u.length) (hG:uR ((u.drop (5:Int).toNat).drop (3:Int).toNat) sz m) (xa:0<=b0/\b0<=3) (Sy:(0<=b1/\b1<=2)/\(b2=0\/b2=1)/\(1<=sz/\sz<=16777216)):
  Ct Tryz.prog 89 #[PG g] B w0 ((rc 87 10 g [PG gc,I p0,I p1,I p2,I p3,I ms,I tt,I ls,sl At nt ct,sl none 0 0])::(rc 146 1 gc [sl ap aw ao])::R) (λv R'=>v=bt/\R'=(rc 87 10 g [PG gc,I b0,I b1,I b2,I sz,I ms,I tt,I ls,sl At nt ct,sl none 0 0])::(rc 146 1 gc [.slice (jA (jA (jA ap (5:Int).toNat ao 1) (3:Int).toNat (ao-(5:Int).toNat) 1) m (ao-(5:Int).toNat-(3:Int).toNat) 1) (aw-(5:Int).toNat-(3:Int).toNat-m) (ao-(5:Int).toNat-(3:Int).toNat-m)])::R):=by
 subst bw;have Vd:rd ((u.drop (5:Int).toNat).take (3:Int).toNat) 0=b0:=by rw[h3];rfl
 have Oq:rd ((u.drop (5:Int).toNat).take (3:Int).toNat) 1=b1:=by rw[h3];rfl
 have f7:rd ((u.drop (5:Int).toNat).take (3:Int).toNat) 2=b2:=by rw[h3];rfl
 refine fn1 Tryz.func89 Z Z Z ?_;refine wq<|wn Z<|wq<|wm Z<|wy (aG Z)<|wy (aB (off:=0) (m:=0) ic Z aKz Z Z Z)<|wy (aK (rdr 0 Z) Aa Z Z Z)<|wa (aF aJo Z (Ct.pick [1,0] 2 cC Z (yM (RdC.right al [_]) Z hN G))) ?_;rintro _ _ ⟨bm,bl,rfl,rfl⟩;refine wm Z<|wX Z Z<|wX Z Z<|wg Z<|wn Z<|aD<|wq<|wm Z<|wy (dU Z)<|wm Z<|aC Z Z<|wm Z<|aC Z Z ?_;refine wy (zL af bg Hl Z (rdr 0 Z))<|aC Z Z<|wy (Yl.f (bDl (q:=[87,72,82,76,1]) Z Z (am.take _) (by unfold aR;decide)) (by rw[h5];decide)) ?_;refine wy (aS Z Z)<|aA<|aJ Z<|aL<|wq<|wm Z<|wy (aG Z)<|wy (aB (off:=0) (m:=0) ic Z aKz Z Z Z)<|wy (aK (rdr 2 Z) Aa Z Z Z)<|wa (aF aJo Z (Ct.pick [1,0,2] 3 cC Z (yM (RdC.fromI (RdC.right al [_,_]) G) (by rw[ay]) (by rw[ay];omega) (by rw[ay];omega)))) ?_;rintro _ _ ⟨ff,fh,rfl,rfl⟩;refine wm Z<|wX Z Z<|wX Z Z<|wg Z<|wn Z<|wq<|wm Z<|wa (aF aOk Z (Ct.pick [3,1,0,2] 4 cC Z (BK (RdC.fromI (RdC.fromI (RdC.right al [_,_]) G) G) (by rw[ay,ay]) (by rw[ay,ay];omega) ((am.drop _).drop _) hG G))) ?_;rintro _ _ ⟨rfl,rfl⟩;refine wm Z<|wX Z Z<|wX Z Z<|wg Z<|wn Z<|aD<|wq<|wm Z<|wy (dU Z)<|wm Z<|aC Z Z<|wm Z<|aC Z Z ?_;refine wy (dU Z)<|wy (aS Z Z)<|aA<|aJ Z<|aL<|aD<|bP mixed<|wD 0 Z (aM Z)<|wD 1 Z (aM Z)<|wD 2 Z (aI af sz5 Z Z (rdr 2 Z))<|wD 3 Z (aW bg Z Z (rdr 2 Z))<|wD 4 Z (iF bg ak Z)<|wD 5 Z (aM Z)<|wD 6 Z (aI af sz5 Z Z (rdr 2 Z))<|wD 7 Z (aW bg Z Z (rdr 2 Z)) ?_;refine wD 8 Z (iF bg ak Z)<|wD 9 Z (aM Z)<|wD 10 Z (aI af sz5 Z Z (rdr 2 Z))<|wD 11 Z (aW bg Z Z (rdr 2 Z))<|wD 12 Z (iF bg ak Z)<|wD 13 Z (aM Z)<|wD 14 Z (dZ (v:= .agg #[I (rd (((u).drop (5:Int).toNat).take (3:Int).toNat) 0),I (rd (((u).drop (5:Int).toNat).take (3:Int).toNat) 1),I (rd (((u).drop (5:Int).toNat).take (3:Int).toNat) 2),I sz]) Z (λw=>cA))<|wD 15 rfl (aG rfl)<|wD 16 rfl (aB (off:=1) (m:=1) ic rfl fD rfl rfl rfl)<|oW 17 rfl cA (NS (j:=1) (r:=(rc 87 10 g [PG gc,I p0,I p1,I p2,I p3,I ms,I tt,I ls,sl At nt ct,sl none 0 0])) (vs:=[I (rd (((u).drop (5:Int).toNat).take (3:Int).toNat) 0),I (rd (((u).drop (5:Int).toNat).take (3:Int).toNat) 1),I (rd (((u).drop (5:Int).toNat).take (3:Int).toNat) 2),I sz]) 0 rfl rfl rfl fD rfl (by simp[pat,Addr.add]) rfl rfl (by intro v hv;simp at hv;rcases hv with rfl|rfl|rfl|rfl<;>rfl) (au rfl)) ?_;rintro _ _ rfl;refine⟨.inl cA,?_⟩;refine wN<|wq<|wm Z<|wy (aG Z)<|wy (aB (off:=1) (m:=1) ic Z fD Z Z Z)<|wy (cK (vs:=[I (rd (((u).drop (5:Int).toNat).take (3:Int).toNat) 0),I (rd (((u).drop (5:Int).toNat).take (3:Int).toNat) 1),I (rd (((u).drop (5:Int).toNat).take (3:Int).toNat) 2),I sz]) (rdr 0 Z) az Z fD Z Z (au Z) Z)<|wa (aF aWa Z (CX (by rw[Vd];exact xa) (by rw[Oq,f7];exact Sy))) ?_;rintro _ _ ⟨rfl,rfl⟩;refine wn Z<|aT [0,1] 4 cC Z ?_;refine⟨_,Z,?_⟩;rw[Vd,Oq,f7];exact⟨Z,Z⟩
end Go.Proofs.YtdbebmmhdefgdaaGreat
namespace Go.Pure
open Go Go.Eng
variable {x b l C:List Int} {m:Nat} {low size total o y i:Int}
def sI (l:List Int):Int:=l.foldl (λa d=>a*256+d) 0
theorem EN (l:List Int) (d:Int):sI (l++[d])=sI l*256+d:=by unfold sI;rw[Gs];rfl
theorem aMt (h:m<x.length):sI (x.take (m+1))=sI (x.take m)*256+rd x (m:Int):=by
 have e:=dH (j:=(m:Int)) (show(0:Int)<=m by omega) (show(m:Int)<x.length by omega);rw[show((m:Int)+1).toNat=m+1 by omega,cu] at e;rw[e,EN]
theorem ZJ: ∀(k:Nat) (N:Int),0<=N->N<256^k->sI (beL k N)=N
 |0,N,h0,h1=>by rw[uy] at h1;show(0:Int)=N;omega
 |k+1,N,h0,h1=>by
  rw[vo] at h1;rw[beL,EN,ZJ k (N/256) G (zl G h1)];omega
theorem aWp (N:Int) (m:Nat):N/256/256^m=N/256^(m+1):=by
 rw[vo,Db,Int.ediv_ediv_of_nonneg G]
theorem aCe (a:Nat): ∀(m:Nat) (N:Int),(beL (a+m) N).take a=beL a (N/256^m)
 |0,N=>by rw[uy,Int.ediv_one,qm];exact bn (by rw[jR];exact di _)
 |m+1,N=>by
  rw[show a+(m+1)=(a+m)+1 by omega,beL,Eo (by rw[jR];omega),aCe a m (N/256),aWp]
theorem BM: ∀(k:Nat) (l:List Int),l.length=k->aR l->0<=sI l/\sI l<256^k
 |0,l,h,_=>by rw[ed h,uy];show(0:Int)<=0/\(0:Int)<1;omega
 | k+1,l,h,hb=>by
  have hl:(k:Int)<l.length:=G
  have e:l=l.take k++[rd l (k:Int)]:=by
   have e:=dH (j:=(k:Int)) (show(0:Int)<=k by omega) hl;rw[show((k:Int)+1).toNat=k+1 by omega,cu,bn G] at e;exact e
  have ih:=BM k (l.take k) (by rw[ax];omega) (hb.take _);have hd:=hb.rd (k:Int);rw[e,EN,vo];omega
structure InC (s f:CdS):Prop where
 k:s.k<=f.k
 lo:s.N*256^(f.k-s.k)<=f.N
 hi:f.N+f.R<=(s.N+s.R)*256^(f.k-s.k)
theorem InC.refl (s:CdS):InC s s:=⟨di _,by rw[za,uy,zt];exact lq _,by rw[za,uy,zt];exact lq _⟩
theorem InC.trans {a b c:CdS} (h:InC a b) (g:InC b c):InC a c:=by
 have hk:=h.k;have gk:=g.k;have e:c.k-a.k=(b.k-a.k)+(c.k-b.k):=G
 have hp:(0:Int)<=256^(c.k-b.k):=vk G;refine⟨G,?_,?_⟩
 ·rw [e,zu,<-rz];exact Ii (nu h.lo hp) g.lo
 ·rw [e,zu,<-rz];exact Ii g.hi (nu h.hi hp)
theorem aIk {s:CdS} (h:WC s) (hs:rU low size total):InC s (eY s low size total):=by
 obtain⟨r0,r1,n0,nr⟩:=h;obtain⟨f1,f2,f3,f4,f5⟩:=nI hs ⟨r0,r1⟩;unfold eY;generalize hq:s.R/total*size=R1 at*;generalize hl:s.R/total*low=x at*;generalize shN R1=j at*;have hp:(0:Int)<=256^j:=vk G;refine⟨by dsimp only;omega,?_,?_⟩
 ·show s.N*256^(s.k+j-s.k)<=(s.N+x)*256^j;rw[show s.k+j-s.k=j by omega];exact nu G hp
 ·show (s.N+x)*256^j+R1*256^j<=(s.N+s.R)*256^(s.k+j-s.k);rw[show s.k+j-s.k=j by omega,<-Jl];exact nu G hp
theorem XH (o:Int) (s:PpS) (x:Int):(kU o s x).cd=qE s.cd (vM o s) x:=by unfold kU aLk;split<;>(try split)<;>rfl
theorem aJd {o:Int}: ∀(l:List Int) (s:PpS),aHd l->PD s->InC s.cd (l.foldl (kU o) s).cd
 |[],s,_,_=>InC.refl _
 |x::l,s,hl,h=>by
  have hx:=hl x cD;have h1:=JV (o:=o) h hx.1 hx.2;have h2:=aJd (o:=o) l (kU o s x) (λy hy=>hl y (ek _ hy)) h1.1;rw[List.foldl_cons];refine InC.trans ?_ h2;rw[XH];exact aIk h.2.2 (jT (IK (o:=o) h) hx.1 hx.2)
theorem aZi {s f:CdS} (h:WC s) (hs:rU low size total) (hf:InC (eY s low size total) f) (hr:0<f.R):
  s.R/total*low<=f.N/256^(f.k-s.k)-s.N/\f.N/256^(f.k-s.k)-s.N<s.R/total*(low+size):=by
 obtain⟨hk,t6,Sd⟩:=hf;unfold eY at hk t6 Sd;dsimp only at hk t6 Sd;rw[Jm];generalize s.R/total*size=R1 at*;generalize s.R/total*low=x at*;generalize shN R1=j at*;have e:f.k-s.k=j+(f.k-(s.k+j)):=G
 have hp:(0:Int)<256^(f.k-s.k):=Ej G;rw[rz,<-zu,<-e] at t6;rw[<-Jl,rz,<-zu,<-e] at Sd;have h1:=(Al (a:=s.N+x) (b:=f.N) hp).2 t6;have h2:=zl (a:=f.N) (b:=s.N+x+R1) hp G;omega
theorem aVs (o:Int) (l m:List Int):encP o (l++m)=m.foldl (kU o) (encP o l):=by unfold encP;rw[Gs]
theorem aTe (h:aR b) {k:Nat} (hk:k<=(encP o (bM b)).cd.k):sI ((bZ b o).take (k+4))=(encP o (bM b)).cd.N/256^((encP o (bM b)).cd.k-k):=by
 have hc:=(CJ (o:=o) (qD h)).1.2.2;unfold bZ;generalize (encP o (bM b)).cd=f at*;obtain⟨r0,r1,n0,nr⟩:=hc;rw[show f.k+4=(k+4)+(f.k-k) by omega,aCe];refine ZJ _ _ (Es n0 (vk G)) ?_;refine zl (Ej G) ?_;rw[<-zu,show k+4+(f.k-k)=f.k+4 by omega];omega
def cuC (x:List Int) (s:CdS):Int:=sI (x.take (s.k+4))-s.N
theorem aXa {C q:Int} (hq:0<q) (h1:q*low<=C) (h2:C<q*(low+size)):low<=C/q/\C/q<low+size:=
 ⟨(Al hq).2 (by rw[Db];exact h1),zl hq (by rw[Db];exact h2)⟩
structure sS (x:List Int) (cd:CdS) (C:List Int) (y:Int):Prop where
 lo:cd.R/aZ C*aZ (C.take y.toNat)<=cuC x cd
 hi:cuC x cd<cd.R/aZ C*(aZ (C.take y.toNat)+rd C y)
 c0:0<=cuC x cd
 c1:cuC x cd<4294967296
 v0:aZ (C.take y.toNat)<=cuC x cd/(cd.R/aZ C)
 v1:cuC x cd/(cd.R/aZ C)<aZ (C.take y.toNat)+rd C y
 len:(qE cd C y).k+4<=x.length
theorem aXb {r:List Int} (hb:aR b) (hl:bM b=l++y::r):sS (bZ b o) (encP o l).cd (vM o (encP o l)) y:=by
 have k4:=qD hb;have hy:=k4 y (by rw[hl];simp);have ue:aHd l:=λz hz=>k4 z (by rw[hl];exact Bj _ hz);have hsr:aHd r:=λz hz=>k4 z (by rw[hl];exact List.mem_append_right _ (ek _ hz));have dg:=(CJ (o:=o) ue).1;have ya:=jT (IK (o:=o) dg) hy.1 hy.2;have h1:=JV (o:=o) dg hy.1 hy.2;have cg:=aJd (o:=o) r _ hsr h1.1;have hf:(encP o (bM b)).cd=(r.foldl (kU o) (kU o (encP o l) y)).cd:=by rw[hl,aVs];rfl
 have Pe:=(CJ (o:=o) k4).1.2.2;rw[<-hf,XH] at cg;have hc:=dg.2.2;have hs:=aZi hc ya cg (by have:=Pe.1;omega);have hk:(encP o l).cd.k<=(encP o (bM b)).cd.k:=((aIk hc ya).trans cg).k;have Yi:=aTe (o:=o) hb hk;have hcu:cuC (bZ b o) (encP o l).cd=(encP o (bM b)).cd.N/256^((encP o (bM b)).cd.k-(encP o l).cd.k)-(encP o l).cd.N:=by unfold cuC;rw[Yi]
 rw[<-hcu] at hs;have hfa:=nI ya ⟨hc.1,hc.2.1⟩;have hc0:0<=cuC (bZ b o) (encP o l).cd:=G
 have hq:0<(encP o l).cd.R/aZ (vM o (encP o l)):=G
 have hd:=aXa hq hs.1 hs.2;have Lu:=hs.2;rw[Jm] at Lu;exact⟨hs.1,hs.2,hc0,by have:=hc.2.1;omega,hd.1,hd.2,by unfold bZ;rw[jR];have:=cg.k;omega⟩
theorem PZ {C:List Int} (h: ∀c∈C,1<=c) {i:Int} (i0:0<=i): ∀k:Nat,i+k<=C.length->aZ (C.take i.toNat)<=aZ (C.take (i+k).toNat)
 |0,_=>by rw[show i+((0:Nat):Int)=i by omega];exact lq _
 |k+1,hk=>by
  have ih:=PZ h i0 k G;have e:=nH (l:=C) (i:=i+k) G G;have:=h _ (bN (L:=C) (k:=i+k) G G);rw[show i+((k+1:Nat):Int)=i+k+1 by omega];omega
theorem aZh {C:List Int} (h: ∀c∈C,1<=c) {v:Int} (i0:0<=i) (hi:i<=y) (hy:y<C.length) (g1:aZ (C.take y.toNat)<=v) (hv:v<aZ (C.take i.toNat)+rd C i):i=y:=by
 have e1:=nH (l:=C) i0 G;rcases Fx hi with c|c
 ·have:=PZ h (i:=i+1) G (y-i-1).toNat G;rw[show i+1+((y-i-1).toNat:Int)=y by omega] at this;omega
 ·exact c
theorem aZc (hb:aR b) (i0:0<=i) (hi:i<(bM b).length):rd (bM b) i=257↔i=(bM b).length-1:=by
 have hlen:((bM b).length:Int)=(bA 0 (aU aO b)).length+1:=by unfold bM;rw[ah,gq];omega
 constructor
 ·intro h;rcases bi i (bA 0 (aU aO b)).length with c|c
  ·exfalso;unfold bM at h;rw[kE i0 c] at h;have:=IB (aU aO b) 0 (lS hb) _ (bN i0 c);omega
  ·omega
 ·intro h;unfold bM;rw[gW G,show i-(bA 0 (aU aO b)).length=0 by omega];rfl
theorem DY (b:List Int):(bM b).take ((bM b).length-1)=bA 0 (aU aO b):=by
 unfold bM;rw[ah,gq,Nat.add_sub_cancel,zi]
theorem aDh (i0:0<=i) (hi:i<(bM b).length):bM b=(bM b).take i.toNat++rd (bM b) i::(bM b).drop (i+1).toNat:=by
 conv=>lhs;rw[<-gu i.toNat (bM b),gK i0 hi]
theorem bBc {s:PpS} (hb:aR b) (hx:x=bZ b o) (hS:s=encP o ((bM b).take i.toNat)) (i0:0<=i) (hi:i<(bM b).length):sS x s.cd (vM o s) (rd (bM b) i):=by
 subst hx;subst hS;exact aXb hb (aDh i0 hi)
theorem sS.w0 {s:PpS} (h:sS x s.cd (vM o s) y) (hk:s.cls*o=0):sS x s.cd s.c0 y:=by
 unfold vM at h;rwa[df hk] at h
theorem sS.w1 {s:PpS} (h:sS x s.cd (vM o s) y) (hk:s.cls*o=1):sS x s.cd s.c1 y:=by
 unfold vM at h;rwa[bu G,df hk] at h
theorem sS.w2 {s:PpS} (h:sS x s.cd (vM o s) y) (hk:s.cls*o=2):sS x s.cd s.c2 y:=by
 unfold vM at h;rwa[bu G,bu G] at h
theorem sS.tot {cd:CdS} (h:sS x cd C y) (dg:kY C) (h0:0<=y) (hy:y<258):cuC x cd/(cd.R/aZ C)<aZ C/\1<=aZ C/\aZ C<=65536:=by
 have h1:=h.v1;have h2:=rW (i:=y) dg.2.1 h0 (by rw[dg.1];omega);have h3:=dg.2.2;omega
theorem bIa {dt p:Int} {acc q:List Int} (h:bkL dt (l.drop i.toNat) acc p=some q) (i0:0<=i) (hi:i<l.length):(0<=rd l i/\rd l i<257)/\
    ((2<=rd l i/\(acc.length:Int)+1<=dt/\bkL dt (l.drop (i+1).toNat) (acc++[rd l i-1]) 1=some q)\/
     (rd l i<2/\p<=dt/\(rd l i+1)*p<=dt-acc.length/\bkL dt (l.drop (i+1).toNat) (acc++List.replicate ((rd l i+1)*p).toNat 0) (p*2)=some q)):=by
  rw[gK i0 hi,bkL] at h;split at h
  · cases h
  · split at h
    · split at h
      · cases h
      · exact⟨G, .inl ⟨G,G,h⟩⟩
    · split at h
      · cases h
      · exact⟨G, .inr ⟨G,G,G,h⟩⟩
theorem aBj {c M:Int} (hm:m<x.length) (h:c=sI (x.take m)-M):c*256+rd x (m:Int)=sI (x.take (m+1))-M*256:=by
 rw[aMt hm,h];omega
end Go.Pure
namespace Go.Eng
open Go Go.RowKit Go.Pure
section
variable {P:Program} {n:Nd} {B:Nat} {w0:World} {L:Env} {R:List Row} {ty:TypeId}
theorem wrap32 {x:Int} (h:0<=x/\x<4294967296):IntKind.u32.wrap x=x:=by
 simp[IntKind.wrap,IntKind.bits,IntKind.signed];omega
theorem yE {p:Int} (h:0<=p/\p<4294967296):(BitVec.ofInt 32 p).toNat=p.toNat:=by
 rw[zh];have e:((2^32:Nat):Int)=4294967296:=rfl;rw[e,pu h.1 h.2]
theorem zN {x:Operand} {s d:TypeId} {j:IntKind} {p:Int} {td:TypeDesc} (ef:P.underlying s=some td) (hd:P.underlying d=some (.int .u32)) (hx:ev L x=some (.int j p)) (h:0<=p/\p<4294967296):Yl P n B w0 (.convert s d x) ty L R (.int .u32 p):=by
 have:=mI (P:=P) (n:=n) (B:=B) (w0:=w0) (R:=R) (ty:=ty) ef hd hx;rwa[wrap32 h] at this
theorem aLn (x m:Int) (h:0<=x*m/\x*m<4294967296) (j:IntKind) (k:Nat) (hk:k<=32) (hm:(2:Int)^k=m) (w:World):(Op.shift .shl .u32 x j (k:Int)).run P w= .ok (.int .u32 (x*m)) w:=by
 have hn: ¬((k:Int)<0):=G
 have hb:min (k:Int).toNat (IntKind.bits .u32)=k:=by
  have:IntKind.bits .u32=32:=rfl;omega
 unfold Op.shift;simp only[hn,hb,xe,hm,wrap32 h];rfl
theorem GY {x y:Operand} {t u:TypeId} {a m:Int} {j:IntKind} {k:Nat} (hx:ev L x=some (.int .u32 a)) (hy:ev L y=some (.int j (k:Int))) (hm:(2:Int)^k=m) (h:0<=a*m/\a*m<4294967296) (hk:Nat.ble k 32=true):Yl P n B w0 (.binOp .shl t x y u) ty L R (.int .u32 (a*m)):=by
 intro a' w o ho _ hs _;simp[execOp,ho,hs.ev hx,hs.ev hy,binOp,eqGuard,aLn a m h j k (au hk) hm]
theorem aRp (p q:Int) (k:Nat) (m:Int) (hm:(2:Int)^k=m) (h:0<=p/\p*m+q<4294967296) (hq:0<=q/\q<m) (w:World):(Op.intBits .or .u32 q (p*m)).run P w= .ok (.int .u32 (q+p*m)) w:=by
 show Result.ok (Value.int .u32 (IntKind.u32.wrap ((BitVec.ofInt 32 q|||BitVec.ofInt 32 (p*m)).toNat:Int))) w=_;have Yr:0<=p*m:=Ag h.1 G;rw[BitVec.or_comm,Jh,yE G,yE G]
 have e1:(p*m).toNat=2^k*p.toNat:=by
  have:p*m=((2^k*p.toNat:Nat):Int):=by
   rw[Aq,qf h.1,Eu,<-hm,Db];rfl
  rw[this,cu]
 have e2:q.toNat<2^k:=by
  have:((2^k:Nat):Int)=m:=by rw[<-hm,Eu];rfl
  omega
 rw[e1,<-Fp e2,<-e1];rw[show(((p*m).toNat+q.toNat:Nat):Int)=q+p*m by omega,wrap32 G]
theorem SX {x y:Operand} {t u:TypeId} {p q m:Int} (k:Nat) (hx:ev L x=some (.int .u32 q)) (hy:ev L y=some (.int .u32 (p*m))) (hm:(2:Int)^k=m) (h:0<=p/\p*m+q<4294967296) (hq:0<=q/\q<m):Yl P n B w0 (.binOp .or t x y u) ty L R (.int .u32 (q+p*m)):=by
 intro a w o ho _ hs _;simp[execOp,ho,binOp,eqGuard,hs.ev hx,hs.ev hy,aRp p q k m hm h hq]
theorem vO {w:World} (base:Nat) (t tn ty e:TypeId) (kn:IntKind) (i:TypeInfo) (z:Value) (bytes:Nat) (ht:P.underlying t=some (.slice e)) (Ox:P.underlying tn=some (.int kn)) (hi:P.info? e=some i) (hz:i.zero=some z)
  (Mu:i.size=1) (Nu:i.bytes=bytes) (Qa:z.cells= #[z]) (d7:z.oneCell'=true) (v:Value) (n:Nat) (xs:List Value) (gr:w.ownsRow base e 1 v n xs) (m:Nat) (h0:0<m) (Wh:n+m<=maxLen) (km:(n+m)*bytes<=140737488355328) (Rr:base<=w.heap.size):
  ∃v' w',(Builtin.append_ #[t,tn] ty #[v, .int .i64 (m:Int)]).run P w= .ok v' w'/\w'.ownsRow base e 1 v' (n+m) (xs++List.replicate m z)/\w.grownBy w' v.ownBlock/\(v'.ownBlock=v.ownBlock\/v'.ownBlock=some w.heap.size):=by
 subst Nu;have re:n+m<=9223372036854775807:=by simp only[maxLen] at Wh;omega
 have hl:(List.replicate m z).length=m:=cz;have hlen:(xs++List.replicate m z).length=(n+m)*1:=by rw[ah,gr.1,hl];omega
 have Vi: ∀q,(Builtin.zeroCells z.cells q).toList=List.replicate q z:=λq=>by
  rw[Qa];refine wz (by simp[Builtin.zeroCells]) λi h1 h2=> ?_;simp[Builtin.zeroCells,Nat.mod_one]
 have yd:Builtin.zeroCells z.cells m=(List.replicate m z).toArray:=by rw[<-Vi m]
 have rm:m≠0:=G
 have hw:IntKind.i64.wrap (m:Int)=m:=by rw[Bp];omega
 have Li: ¬((m:Int)<0):=G
 have Pp:m*i.bytes<=(n+m)*i.bytes:=uq _ G
 have Qv: ¬(281474976710656<(m:Int)*(i.bytes:Int)):=by
  rw[<-Aq];omega
 have grown: ∀(old:Nat),old<n+m-> ∀(row:Option Nat),
   (w.drew.alloc (.cells (xs.toArray++Builtin.zeroCells z.cells m++Builtin.zeroCells z.cells (grownCap w (n+m) old e-(n+m))) e)).ownsRow base e 1 (.slice (some ⟨w.heap.size,0,none⟩) (n+m) (grownCap w (n+m) old e)) (n+m) (xs++List.replicate m z)/\
   w.grownBy (w.drew.alloc (.cells (xs.toArray++Builtin.zeroCells z.cells m++Builtin.zeroCells z.cells (grownCap w (n+m) old e-(n+m))) e)) row:=by
  intro old ho row;have Bk:=grownCap_ge w (n+m) old e;have sn:grownCap w (n+m) old e<=maxLen:=Gm w (n+m) old e Wh;have hx1:=gr.1;refine⟨⟨hlen, .inr ⟨w.heap.size,_,_,rfl,Rr,heap_alloc_new w.drew _,Bk,sn,?_,?_⟩⟩,⟨rfl,rfl,rfl,cD,λk hk _=>by first|exact heap_alloc_old w.drew _ k hk|exact heap_alloc_old w.drew _ hk⟩⟩
  ·rw [<-jy,ve,ve,ah,ah,Vi,Vi,cz,cz];show xs.length+m+_=_;omega
  ·rw [ve,ve,Vi,<-hlen];exact zi
 rcases gr.2 with⟨rfl,rfl⟩|⟨g,cap,cur,rfl,hbg,hg,hnc,sn,kp,htake⟩
 ·have hx:xs=[]:=ed (by simpa using gr.1);subst hx;have hr:=Lib.run_append_nil_zeros (P:=P) w t tn ty e i z .i64 kn ht Ox hi hz m h0 G G G;have Pf:=grown 0 G (Value.ownBlock (.slice none 0 0));simp only[ng,je,Array.empty_append] at Pf ⊢;exact⟨_,_,hr,Pf.1,Pf.2,Or.inr rfl⟩
 ·by_cases px:n+m<=cap
  ·have b5:n*1+(List.replicate m z).length<=cur.size:=by rw[hl,kp];omega
   have gv:=run_storeCells_at P g (n*1) e (List.replicate m z) 0 cur w hg (by simpa using b5) (λu hu=>by rw[List.eq_of_mem_replicate hu];exact d7);simp only[qm] at gv
   have hr:(Builtin.append_ #[t,tn] ty #[.slice (some ⟨g,0,none⟩) n cap, .int .i64 (m:Int)]).run P w= .ok (.slice (some ⟨g,0,none⟩) (n+m) cap) (w.setRow g (cur.toList.take (n*1)++List.replicate m z++cur.toList.drop (n*1+(List.replicate m z).length)).toArray):=by
    simp only[qw] at gv;simp[Builtin.append_,mh ht,mh Ox,sizeOf,typeInfo,zeroValue,hi,hz,asInt,asIntOf,hw,rm,Li,Qv,Mu,px,yd,Addr.add_lit,gv]
   refine⟨_,_,hr,⟨hlen, .inr ⟨g,cap,_,rfl,hbg,Ke w g cur _ e _ hg,px,sn,?_,?_⟩⟩,⟨rfl,rfl,rfl,cD,λk _ hk=>Jf w g k _ (λe=>hk (by simp[Value.ownBlock,e]))⟩,Or.inl rfl⟩
   ·simp only[qj,ah,ax,ay,jy];omega
   ·rw [htake,<-hlen];exact zi
  ·have holds: ∀j u,xs[j]? =some u->w.cell? ((⟨g,0,none⟩:Addr).add j)=some u:=gr.cells (g:=g) rfl;have Pe:=run_firstCells_some (P:=P) w.drew 1 n ⟨g,0,none⟩ n cap xs gr.1 (by simpa using holds);have hn: ¬(n+m<=cap):=px;have Wi: ¬(9223372036854775807<((n:Int)+(m:Int))):=G
   have hfits:=growslice_fits (old:=cap) G km;have Wg: ¬(281474976710656<Builtin.nextslicecap (n+m) cap*i.bytes):=G
   have hr:(Builtin.append_ #[t,tn] ty #[.slice (some ⟨g,0,none⟩) n cap, .int .i64 (m:Int)]).run P w= .ok (.slice (some ⟨w.heap.size,0,none⟩) (n+m) (grownCap w (n+m) cap e)) (w.drew.alloc (.cells (xs.toArray++Builtin.zeroCells z.cells m++Builtin.zeroCells z.cells (grownCap w (n+m) cap e-(n+m))) e)):=by
    simp[Builtin.append_,mh ht,mh Ox,sizeOf,typeInfo,zeroValue,hi,hz,asInt,asIntOf,hw,rm,Li,Qv,Mu,hn,Wi,Wg,Question.forced,Pe,newRow,grownCap]
   have Pf:=grown cap G (Value.ownBlock (.slice (some ⟨g,0,none⟩) n cap));exact⟨_,_,hr,Pf.1,Pf.2,Or.inr rfl⟩
theorem aYk {s x:Operand} {t tn e:TypeId} {bytes m:Nat} {kn k:IntKind} {A:Option Addr} {c q:Nat} {l:List Int} (i:Nat) (hi:R[i]? =some ⟨e,1,A,q,c,ints k l,false⟩) (ht:P.underlying t=some (.slice e)) (Ox:P.underlying tn=some (.int kn)) (db:(P.info? e).map (λi=>(i.zero,i.size,i.bytes))=some (some (.int k 0),1,bytes))
  (hs:ev L s=some (.slice A q c)) (hx:ev L x=some (.int .i64 (m:Int))) (h0:0<m) (Wh:q+m<=1000000) (km:(q+m)*bytes<=140737488355328):
  Ac P n B w0 (.call {callee:= .builtin .append,args:= #[s,x],argTypes:= #[t,tn]}) ty L R (λv R'=> ∃A' c',v= .slice A' (q+m) c'/\R'=R.set i ⟨e,1,A',q+m,c',ints k (l++List.replicate m 0),false⟩):=by
 intro a w o K Q ho _ ef hp hk;obtain⟨i0,ar,yd⟩:=il.1 db;simp only[yl] at yd;obtain⟨vl,d7,Hh⟩:=yd;have hr:=hp.own _ (gm hi);have gr:=Row.lies_w hr rfl;obtain⟨v',w',h2,h3,h4,h5⟩:=vO (P:=P) B t tn o.type e kn i0 (.int k 0) bytes ht Ox ar vl d7 Hh rfl rfl _ q (ints k l) gr m h0 (by unfold maxLen;omega) km hp.base
 have Ax: ∃A' c',v'= .slice A' (q+m) c':=by
  rcases h3.2 with⟨rfl,hn⟩|⟨g,cap,cur,rfl,_⟩
  ·exact⟨none,0,by rw[hn]⟩
  ·exact⟨_,cap,rfl⟩
 obtain⟨A',c',rfl⟩:=Ax;have Yu:ints k l++List.replicate m (.int k 0)=ints k (l++List.replicate m 0):=by simp[ints]
 rw[Yu] at h3;unfold Oper.wp execOp;simp only[ho,resolve,invoke,builtin,kg,ni,jv,uh,lm,ry,ef.ev hs,ef.ev hx,h2,Oper.upon];refine hk _ w' _ ?_ ⟨A',c',rfl,rfl⟩;refine hp.upd hi h4 (KC _ _ _ _ h2) (λk hk=> ?_) ?_ (λa' nc=> ?_)
 ·cases hA:A with
  |none=>rw[hA] at hk;simp[Value.ownBlock] at hk
  |some a1=>rw[hA] at hk;simp only[Value.ownBlock,mg] at hk;exact⟨a1,rfl,hk⟩
 ·exact h3
 ·have Ky:A'=some a':=nc;subst Ky;rcases h5 with h5|h5
  ·cases hA:A with
   |none=>rw[hA] at h5;simp[Value.ownBlock] at h5
   |some a1=>rw[hA] at h5;simp only[Value.ownBlock,mg] at h5;exact .inl ⟨a1,rfl,h5.symm⟩
  ·simp only[Value.ownBlock,mg] at h5;exact .inr G
end
theorem bCc {x:Int} (h:0<=x/\x<4294967296):0+x/1%256*1+x/256%256*256+x/65536%256*65536+x/16777216%256*16777216=x:=G
end Go.Eng
namespace Go.Proofs.YtdbebmmhdefgdaaGreat
open Go Go.Eng Go.Pure
open Tryz
set_option maxRecDepth 100000
variable {B g n c:Nat} {w0:World} {R:List Row} {A:Option Addr} {x:List Int} {us cc r total:Int}
theorem uD {C:List Int} {y v0:Int} (hn:n=C.length) (dg:kY C) (hy:0<=y/\y<258) (hv:aZ (C.take y.toNat)<=v0/\v0<aZ (C.take y.toNat)+rd C y):
  Ct Tryz.prog 301 #[PG g,I v0] B w0 ((rc 256 2 g [sl A n c,I (aZ C)])::(ri 3 A n c C)::R) (λv R'=>v= .tuple #[I y,bt]/\R'=(rc 256 2 g [sl A n c,I (aZ C)])::(ri 3 A n c C)::R):=by
 subst hn;have kx:=dg.1;have hpy:=dg.le.part hy.1 hy.2;have Ln:=rW (i:=y) dg.2.1 hy.1 G;refine fn2 Tryz.func301 Z Z Z ?_;refine wq<|wg Z<|wn Z<|aD<|wq<|wm Z<|wy (Yl.f (eG Z Z))<|wm Z<|aC Z Z<|wm Z<|aC Z Z<|wm Z ?_;refine aC Z Z<|wa (aF MM Z ((iY))) ?_;rintro _ _ ⟨rfl,rfl⟩;refine aC Z Z<|wy (Yl.f (gZ Z Z))<|wy (aS Z Z)<|aA<|aJ Z<|aL<|aD<|aH ?_;refine dR (λ(i:Int) (x:Int)=>[(0,PG g),(1,I x),(4,I i)]) (λi x=>((rc 256 2 g [sl A C.length c,I (aZ C)])::(ri 3 A C.length c C)::R)) (λi x=>(0<=i)/\(i<=y)/\(x=v0-aZ (C.take i.toNat))) (λi x=>(y-i).toNat) ?_ ?_
 ·exact⟨0,v0,⟨G,G,(by rw[show aZ (C.take (0:Int).toNat)=0 from rfl];omega)⟩,SA,λ_ h=>h⟩
 intro i x ⟨ar,jj,hx⟩;have hp:=dg.le.part ar G;refine aD<|wq<|wm Z<|wm Z<|wy (aG Z)<|wy (aB (off:=0) (m:=0) qi Z eF Z Z Z)<|wy (aK (rdr 0 Z) aa Z Z Z)<|wm Z<|wy (aI aa sz3 Z Z (rdr 1 Z))<|wy (aW ak Z Z (rdr 1 Z))<|wy (gZ Z Z)<|aA<|bF Z (λaq=> ?_) (λaq=> ?_)
 ·have dv:i≠y:=by rintro rfl;omega
  refine aL<|aH<|wq<|wm Z<|wm Z<|wy (aG Z)<|wy (aB (off:=0) (m:=0) qi Z eF Z Z Z)<|wy (aK (rdr 0 Z) aa Z Z Z)<|wm Z<|wy (aI aa sz3 Z Z (rdr 1 Z))<|wy (aW ak Z Z (rdr 1 Z))<|wS Z Z<|wn Z ?_;refine aN<|wm Z<|wA Z Z<|wn Z ?_;exact⟨i+1,x-(rd C i),⟨G,G,(by rw[nH ar G];omega)⟩,G,SA,λ_ h=>h⟩
 ·refine aY<|wq<|wm Z<|wg Z<|wn Z<|bS (R1:=((rc 256 2 g [sl A C.length c,I (aZ C)])::(ri 3 A C.length c C)::R)) (λ_ h=>h) ?_;refine⟨_,_,Z,Z,?_⟩;obtain rfl:i=y:=aZh dg.2.1 ar jj G hv.1 G;exact⟨Z,Z⟩
theorem qH {M:Int} {m:Nat} (hn:n=x.length) (l3:aR x) (hN:x.length<=1000000) (hu:us=(m:Int)) (hc:cc=sI (x.take m)-M) (hb:0<=cc/\cc<4294967296) (hm:m<x.length):
  Ct Tryz.prog 327 #[PG g] B w0 ((rc 360 4 g [sl A n c,I us, .int .u64 cc, .int .u64 r])::(ru 5 A n c x)::R) (λv R'=>v=bt/\R'=(rc 360 4 g [sl A n c,I ((m+1:Nat):Int), .int .u64 (sI (x.take (m+1))-M*256), .int .u64 r])::(ru 5 A n c x)::R):=by
 subst hn;subst hu;have hbx:=l3.rd (m:Int);refine fn1 Tryz.func327 Z Z Z ?_;refine wq<|wn Z<|aD<|aD<|bP mixed<|wD 0 Z (aM Z)<|wD 1 Z (aG Z)<|wD 2 Z (aB (off:=1) (m:=1) oz Z sz3 Z Z Z)<|wD 3 Z (aK (rdr 0 Z) ak Z Z Z)<|wD 4 Z (aM Z)<|wD 5 Z (aG Z)<|wD 6 Z (aB (off:=0) (m:=0) oz Z dA Z Z Z)<|wD 7 Z (aK (rdr 0 Z) af Z Z Z) ?_;refine wD 8 Z (aQ af Z)<|wD 9 Z (Yl.f (gZ Z Z))<|wN<|aJ Z<|aL<|aD<|bP mixed<|wD 0 Z (aM Z)<|wD 1 Z (aM Z)<|wD 2 Z (aG Z)<|wD 3 Z (aB (off:=2) (m:=2) oz Z dS Z Z Z)<|wD 4 Z (aK (rdr 0 Z) dx Z Z Z)<|wD 5 Z (uT (k:=8) (m:=256) Z Z Z G Z)<|wD 6 Z (aM Z)<|wD 7 Z (aG Z) ?_;refine wD 8 Z (aB (off:=0) (m:=0) oz Z dA Z Z Z)<|wD 9 Z (aK (rdr 0 Z) af Z Z Z)<|wD 10 Z (aM Z)<|wD 11 Z (aG Z)<|wD 12 Z (aB (off:=1) (m:=1) oz Z sz3 Z Z Z)<|wD 13 Z (aK (rdr 0 Z) ak Z Z Z)<|wD 14 Z (aI af sz5 Z Z (rdr 1 Z))<|wD 15 Z (aW bg Z Z (rdr 1 Z))<|wD 16 Z (gI bg dx Z)<|wD 17 Z (bIu (p:=cc) (m:=256) 8 Z Z Z G G)<|wD 18 Z (aG Z)<|wD 19 Z (aB (off:=2) (m:=2) oz Z dS Z Z Z)<|oW 20 Z cA (bC 0 Z Z Z dS Z Z Z Z (au Z)) ?_;rintro _ _ rfl;refine⟨.inl cA,?_⟩;refine wN<|wq<|wm Z<|wy (aG Z)<|wy (aB (off:=1) (m:=1) oz Z sz3 Z Z Z)<|wy (aK (rdr 0 Z) ak Z Z Z)<|wA Z Z<|wy (aG Z)<|wy (aB (off:=1) (m:=1) oz Z sz3 Z Z Z)<|bY (bC 0 Z Z Z sz3 Z Z Z Z (au Z)) ?_;rintro _ _ rfl;refine aA<|wq<|wn Z<|bS (R1:=((rc 360 4 g [sl A x.length c,I (((m:Nat):Int)+1), .int .u64 (cc*256+rd x ((m:Nat):Int)), .int .u64 r])::(ru 5 A x.length c x)::R)) (λ_ h=>h) ?_;refine⟨_,Z,?_⟩;rw[aBj hm hc];exact⟨Z,Z⟩
theorem LK {w:World} {ap:Option Addr} {aw ao:Nat} {u:List Int} (al:Rd w ap aw ao 1 (ints .u8 u)) (am:aR u) (hN:u.length<=1000000) (h4:4<=u.length):
  Ct Tryz.prog 299 #[sl ap aw ao] w.heap.size w [] (λv R'=> ∃g A c,v= .tuple #[PG g,bt]/\R'=[(rc 360 4 g [sl A u.length c,I ((cd0.k+4:Nat):Int), .int .u64 (cuC u cd0), .int .u64 cd0.R]),(ru 5 A u.length c u)]):=by
 obtain rfl:=al.lenI;refine fn2 Tryz.func299 Z Z Z ?_;have mj:=al.max;have kf:=BM 0 (u.take 0) (by rw[ax];omega) (am.take _);have yp:=BM 1 (u.take 1) (by rw[ax];omega) (am.take _);have Vc:=BM 2 (u.take 2) (by rw[ax];omega) (am.take _);have Ps:=BM 3 (u.take 3) (by rw[ax];omega) (am.take _);refine wq<|wg Z<|wn Z<|aD<|wq<|wm Z<|wy (aQ af Z)<|wy (Yl.f (eG Z Z))<|aA<|aJ Z<|aL<|aD ?_;refine aN<|wm Z<|wa (aF aAu Z (Ct.fresh (λw hw=>lZ ((al.c _) w hw) hN))) ?_;rintro _ _ ⟨_,rfl,bm,bl,rfl,rfl⟩;refine wy (dZ (v:= .agg #[sl bm u.length bl,I 0, .int .u64 0, .int .u64 4294967295]) Z (λw=>cA))<|wa (bR (sz:=4) rfl rfl) ?_;rintro _ _ ⟨ew,rfl,rfl⟩;refine wn Z<|aD<|wq<|wm Z<|aA<|aH<|oJ 5<|eH<|wq<|wy (Yl.t (eG Z Z) cC)<|aA<|aD ?_;refine bH Z<|aL<|aD<|aH<|aN<|wm Z<|wa (aF aAv Z ((qH (m:=0) (M:=0) Z am hN Z Z (by first|exact⟨cC,cC⟩|(simp only[ng,Nat.reduceAdd,Il,Ik];omega)) G))) ?_;rintro _ _ ⟨rfl,rfl⟩;refine aA<|aN<|wy (Yl.is (dG Z Z) Z)<|wm Z<|aA<|eH<|wq<|wy (Yl.t (eG Z Z) cC)<|aA<|aD<|bH Z<|aL<|aD<|aH ?_;refine aN<|wm Z<|wa (aF aAv Z ((qH (m:=0+1) (M:=(0*256)) Z am hN Z Z (by first|exact⟨cC,cC⟩|(simp only[ng,Nat.reduceAdd,Il,Ik];omega)) G))) ?_;rintro _ _ ⟨rfl,rfl⟩;refine aA<|aN<|wy (Yl.is (dG Z Z) Z)<|wm Z<|aA<|eH<|wq<|wy (Yl.t (eG Z Z) cC)<|aA<|aD<|bH Z<|aL<|aD<|aH ?_;refine aN<|wm Z<|wa (aF aAv Z ((qH (m:=0+1+1) (M:=(0*256*256)) Z am hN Z Z (by first|exact⟨cC,cC⟩|(simp only[ng,Nat.reduceAdd,Il,Ik];omega)) G))) ?_;rintro _ _ ⟨rfl,rfl⟩;refine aA<|aN<|wy (Yl.is (dG Z Z) Z)<|wm Z<|aA<|eH<|wq<|wy (Yl.t (eG Z Z) cC)<|aA<|aD<|bH Z<|aL<|aD<|aH ?_;refine aN<|wm Z<|wa (aF aAv Z ((qH (m:=0+1+1+1) (M:=(0*256*256*256)) Z am hN Z Z (by first|exact⟨cC,cC⟩|(simp only[ng,Nat.reduceAdd,Il,Ik];omega)) G))) ?_;rintro _ _ ⟨rfl,rfl⟩;refine aA<|aN<|wy (Yl.is (dG Z Z) Z)<|wm Z<|aA<|eH<|wq<|wy (Yl.f (eG Z Z) cC)<|aA<|aD<|aJ Z<|aY<|wq ?_;refine wm Z<|wg Z<|wn Z<|bS (R1:=[(rc 360 4 ew [sl bm u.length bl,I ((0+1+1+1+1:Nat):Int), .int .u64 (sI (u.take (0+1+1+1+1))-(0*256*256*256)*256), .int .u64 4294967295]),(ru 5 bm u.length bl u)]) (λ_ h=>h) ?_;refine⟨_,_,Z,Z,?_⟩;exact⟨_,_,_,Z,Z⟩
theorem ET (hn:n=x.length) (ht:1<=total/\total<=65536) (hr:16777216<=r/\r<4294967296) (hc:0<=cc/\cc<4294967296) (hv:cc/(r/total)<total):
  Ct Tryz.prog 300 #[PG g,I total] B w0 ((rc 360 4 g [sl A n c,I us, .int .u64 cc, .int .u64 r])::(ru 5 A n c x)::R) (λv R'=>v= .tuple #[I (cc/(r/total)),bt]/\R'=(rc 360 4 g [sl A n c,I us, .int .u64 cc, .int .u64 r])::(ru 5 A n c x)::R):=by
 subst hn;have hq:256<=r/total:=(Al G).2 G;have To:0<=cc/(r/total):=Es hc.1 G;refine fn2 Tryz.func300 Z Z Z ?_;refine wq<|wg Z<|wn Z<|aD<|wq<|wm Z<|wy (dP underlying332 Z Z)<|wm Z<|aC Z Z<|wm Z<|aC Z Z<|wy (Yl.f (eG Z Z)) ?_;refine wy (aS Z Z)<|wm Z<|aC Z Z<|wm Z<|aC Z Z<|wy (Yl.f (dJ Z Z))<|wy (aS Z Z)<|aA<|aJ Z<|aL<|wq<|wm Z<|wy (aG Z)<|wy (aB (off:=3) (m:=3) oz Z dS Z Z Z) ?_;refine wy (aK (rdr 0 Z) dx Z Z Z)<|wm Z<|wy (gI ak dx Z)<|wy (DN Z Z G G)<|wn Z<|aD<|wq<|wm Z<|wy (Yl.f (aX Z Z))<|wm Z<|aC Z Z<|wm Z<|aC Z Z ?_;refine wy (aG Z)<|aC Z Z<|wy (aB (off:=2) (m:=2) oz Z dS Z Z Z)<|aC Z Z<|wy (aK (rdr 0 Z) dx Z Z Z)<|aC Z Z<|wm Z<|aC Z Z<|wy (DN Z Z G G)<|aC Z Z<|wm Z<|aC Z Z<|wy (gI ak dx Z)<|aC Z Z<|wy (Yl.f (gZ Z Z)) ?_;refine wy (aS Z Z)<|aA<|aJ Z<|aL<|wq<|wm Z<|wy (aG Z)<|wy (aB (off:=2) (m:=2) oz Z dS Z Z Z)<|wy (aK (rdr 0 Z) dx Z Z Z)<|wm Z<|wy (DN Z Z G G)<|wy (iF dx ak Z)<|wg Z<|wg Z ?_;refine aA<|bS (R1:=((rc 360 4 g [sl A x.length c,I us, .int .u64 cc, .int .u64 r])::(ru 5 A x.length c x)::R)) (λ_ h=>h) ?_;refine⟨_,_,Z,Z,?_⟩;exact⟨Z,Z⟩
set_option maxHeartbeats 1000000 in
theorem DW {s:CdS} {low size:Int} (hn:n=x.length) (l3:aR x) (hN:x.length<=1000000) (hs:16777216<=s.R/\s.R<4294967296) (ya:rU low size total) (t6:s.R/total*low<=cuC x s) (Sd:cuC x s<s.R/total*(low+size)) (hlen:(eY s low size total).k+4<=x.length):
  Ct Tryz.prog 302 #[PG g,I low,I size,I total] B w0 ((rc 360 4 g [sl A n c,I ((s.k+4:Nat):Int), .int .u64 (cuC x s), .int .u64 s.R])::(ru 5 A n c x)::R) (λv R'=>v=bt/\R'=(rc 360 4 g [sl A n c,I (((eY s low size total).k+4:Nat):Int), .int .u64 (cuC x (eY s low size total)), .int .u64 ((eY s low size total).R)])::(ru 5 A n c x)::R):=by
 subst hn;have Ge:=ya;obtain⟨s1,s2,s3,s4⟩:=Ge;obtain⟨f1,f2,f3,f4,f5⟩:=nI ya hs;have hms:=Jm (s.R/total) low size;have hln:s.k+shN (s.R/total*size)+4<=x.length:=hlen;refine fn1 Tryz.func302 Z Z Z ?_;refine wq<|wn Z<|aD<|wq<|wm Z<|wy (dP underlying332 Z Z)<|wm Z<|aC Z Z<|wm Z<|aC Z Z<|wm Z<|aC Z Z ?_;refine wm Z<|aC Z Z<|wa (aF bEo Z (Ct.quiet (λw hw=>GA ya))) ?_;rintro _ _ ⟨rfl,rfl⟩;refine aC Z Z<|wy (dU Z)<|wy (aS Z Z)<|aA<|aJ Z<|aL<|wq<|wm Z<|wy (aG Z)<|wy (aB (off:=3) (m:=3) oz Z dS Z Z Z)<|wy (aK (rdr 0 Z) dx Z Z Z)<|wm Z<|wy (gI ak dx Z)<|wy (DN Z Z G G) ?_;refine wn Z<|aD<|wq<|wm Z<|wy (aG Z)<|wy (aB (off:=2) (m:=2) oz Z dS Z Z Z)<|wy (aK (rdr 0 Z) dx Z Z Z)<|wm Z<|wm Z<|wy (gI ak dx Z)<|wy (sZ Z Z G)<|wy (Yl.f (eG Z Z))<|wm Z ?_;refine aC Z Z<|wm Z<|aC Z Z<|wy (aG Z)<|aC Z Z<|wy (aB (off:=2) (m:=2) oz Z dS Z Z Z)<|aC Z Z<|wy (aK (rdr 0 Z) dx Z Z Z)<|aC Z Z<|wm Z<|aC Z Z<|wm Z<|aC Z Z<|wm Z<|aC Z Z ?_;refine wA Z Z<|aC Z Z<|wy (gI ak dx Z)<|aC Z Z<|wy (sZ Z Z G)<|aC Z Z<|wy (Yl.f (gZ Z Z))<|wy (aS Z Z)<|aA<|aJ Z<|aL<|wq<|wm Z<|wy (aG Z) ?_;refine wy (aB (off:=2) (m:=2) oz Z dS Z Z Z)<|wy (aK (rdr 0 Z) dx Z Z Z)<|wm Z<|wm Z<|wy (gI ak dx Z)<|wy (sZ Z Z G)<|wy (bFj Z Z G)<|wy (aG Z)<|wy (aB (off:=2) (m:=2) oz Z dS Z Z Z)<|bY (bC 0 Z Z Z dS Z Z Z Z (au Z)) ?_;rintro _ _ rfl;refine aA<|aD<|wq<|wm Z<|wm Z<|wm Z<|wy (gI ak dx Z)<|wy (sZ Z Z G)<|wy (aG Z)<|wy (aB (off:=3) (m:=3) oz Z dS Z Z Z)<|bY (bC 0 Z Z Z dS Z Z Z Z (au Z)) ?_;rintro _ _ rfl;refine aA<|aH ?_;refine HZ (λ(j:Nat) (cc:Int) (r:Int) (M:Int)=>[(0,PG g)]) (λj cc r M=>((rc 360 4 g [sl A x.length c,I ((s.k+j+4:Nat):Int), .int .u64 cc, .int .u64 r])::(ru 5 A x.length c x)::R)) (λj cc r M=>(M=(s.N+s.R/total*low)*256^j)/\(r=(s.R/total*size)*256^j)/\(j<=shN (s.R/total*size))/\(cc=sI (x.take (s.k+j+4))-M)/\(0<=cc/\cc<r)) (λj cc r M=>(4-j)) ?_ ?_
 ·exact⟨0,(cuC x s-s.R/total*low),(s.R/total)*size,(s.N+s.R/total*low),⟨(by rw[uy,zt]),(by rw[uy,zt]),(uf _),(by show cuC x s-s.R/total*low=sI (x.take (s.k+4))-_;unfold cuC;omega),G⟩,SA,λ_ h=>h⟩
 intro j cc r M ⟨hM,hr,hj,hc,hb⟩;have ue:=EA (s.R/total*size);have Th:1<=r:=by rw[hr];exact BD G
 refine aD<|wq<|wm Z<|wy (aG Z)<|wy (aB (off:=3) (m:=3) oz Z dS Z Z Z)<|wy (aK (rdr 0 Z) dx Z Z Z)<|wL Z Z<|aA<|bF Z (λaq=> ?_) (λaq=> ?_)
 ·have hj2:j+1<=shN (s.R/total*size):=AJ G hj (by rw[<-hr];assumption);have ij:=aBj (x:=x) (m:=s.k+j+4) G hc;have hbx:=l3.rd ((s.k+j+4:Nat):Int);have e7:0<=sI (x.take (s.k+j+4+1))-M*256/\sI (x.take (s.k+j+4+1))-M*256<r*256:=G
  refine aL<|aD<|aH<|wq<|wm Z<|wa (aF aAv Z ((qH (m:=(s.k+j+4)) (M:=M) Z l3 hN Z hc G G))) ?_;rintro _ _ ⟨rfl,rfl⟩;refine wy (dU Z)<|aA<|aJ Z<|aL<|aN<|wm Z<|wy (aG Z)<|wy (aB (off:=3) (m:=3) oz Z dS Z Z Z)<|wy (aK (rdr 0 Z) dx Z Z Z)<|wy (uT (k:=8) (m:=256) Z Z Z G Z)<|wy (aG Z)<|wy (aB (off:=3) (m:=3) oz Z dS Z Z Z)<|bY (bC 0 Z Z Z dS Z Z Z Z (au Z)) ?_;rintro _ _ rfl;refine aA ?_;exact⟨(j+1),(sI (x.take (s.k+j+4+1))-M*256),r*256,(M*256),⟨(by rw[hM,rz,<-vo]),(by rw[hr,rz,<-vo]),(hj2),(Z),(e7)⟩,G,SA,λ_ h=>h⟩
 ·refine aY<|wq<|wn Z<|bS (R1:=((rc 360 4 g [sl A x.length c,I ((s.k+j+4:Nat):Int), .int .u64 cc, .int .u64 r])::(ru 5 A x.length c x)::R)) (λ_ h=>h) ?_;refine⟨_,Z,?_⟩;obtain rfl:j=shN (s.R/total*size):=IJ G hj (by rw[<-hr];omega);rw[hc,hr,hM];exact⟨Z,Z⟩
variable {w:World} {k9:Option Addr} {Jx l7:Nat} {x b:List Int} {o dt:Int}
set_option maxHeartbeats 4000000 in
theorem TH (ml:Rd w k9 Jx l7 1 (ints .u8 x)) (hx:x=bZ b o) (cj:aR b) (ho:o=0\/o=1) (hN:b.length<=100000) (hm:(b.length:Int)<=dt):
  Ct Tryz.prog 272 #[sl k9 Jx l7,I o,I dt] w.heap.size w [] (λv R'=> ∃A c,v= .tuple #[sl A (bA 0 (aU aO b)).length c,bt]/\R'=[(ri 3 A ((bA 0 (aU aO b)).length) c (bA 0 (aU aO b)))]):=by
 obtain rfl:=ml.lenI;refine fn2 Tryz.func272 Z Z Z ?_;have Zo:=ml.max;have k4:=qD cj;have Ly:x.length<=2*b.length+6:=by rw[hx];exact nQ cj
 have hx4:4<=x.length:=by rw[hx];unfold bZ;rw[jR];omega
 have vj:(bM b).length=(bA 0 (aU aO b)).length+1:=by unfold bM;rw[ah];rfl
 have Ow:=oL (aU aO b) 0;rw[fO] at Ow;refine wq<|wg Z<|wn Z<|wq<|wm Z<|wa (aF bKl Z (Ct.fresh (λw hw=>LK ((ml.c _) w hw) (by rw[hx];exact gX _ _) G hx4))) ?_;rintro _ _ ⟨_,rfl,an,eh,es,rfl,rfl⟩;refine wm Z<|wX Z Z<|wX Z Z<|wg Z<|wn Z<|wq<|wm Z<|wa (aF bEv Z (Ct.fresh (λw hw=>QX))) ?_;rintro _ _ ⟨_,rfl,gg,kc,js,ka,kh,dr,bo,bp,bx,cx,rfl,rfl⟩;refine wn Z<|wq<|dB (R1:=[(ri 3 none 0 0 ([])),(rc 250 5 gg [PG kc,PG js,PG ka,I 0,I o]),(rc 256 2 kc [sl kh 258 bp,I 258]),(ri 3 kh 258 bp uE),(rc 256 2 js [sl dr 258 bx,I 258]),(ri 3 dr 258 bx uE),(rc 256 2 ka [sl bo 258 cx,I 258]),(ri 3 bo 258 cx uE),(rc 360 4 an [sl eh x.length es,I ((cd0.k+4:Nat):Int), .int .u64 (cuC x cd0), .int .u64 cd0.R]),(ru 5 eh x.length es x)]) (Sub.refl _) (λ_ h=>h.nil 3 1)<|wn Z<|aD<|aH ?_;refine mK (λ(i:Int) (A1:Option Addr) (n1:Nat) (c1:Nat) (acc:List Int) (Sx:PpS)=>[(2,I dt),(8,PG an),(9,bt),(10,PG gg),(11,sl A1 n1 c1)]) (λi A1 n1 c1 acc Sx=>[(ri 3 A1 n1 c1 acc),(rc 250 5 gg [PG kc,PG js,PG ka,I Sx.cls,I o]),(rc 256 2 kc [sl kh 258 bp,I (aZ Sx.c0)]),(ri 3 kh 258 bp Sx.c0),(rc 256 2 js [sl dr 258 bx,I (aZ Sx.c1)]),(ri 3 dr 258 bx Sx.c1),(rc 256 2 ka [sl bo 258 cx,I (aZ Sx.c2)]),(ri 3 bo 258 cx Sx.c2),(rc 360 4 an [sl eh x.length es,I ((Sx.cd.k+4:Nat):Int), .int .u64 (cuC x Sx.cd), .int .u64 Sx.cd.R]),(ru 5 eh x.length es x)]) (λi A1 n1 c1 acc Sx=>(0<=i)/\(i<(bM b).length)/\((n1:Int)=i)/\(acc=(bM b).take i.toNat)/\(Sx=encP o ((bM b).take i.toNat))) (λi A1 n1 c1 acc Sx=>((bM b).length-i).toNat) ?_ ?_
 ·exact⟨0,none,0,0,[],pp0,⟨G,G,(Z),(Z),(Z)⟩,SA,λ_ h=>h⟩
 intro i A1 n1 c1 acc Sx ⟨ar,jj,co,ba,hS⟩;have cg:=VF k4 hS;have ot:=bBc cj hx hS ar jj;have hy:=k4 _ (bN (L:=bM b) (k:=i) ar G);have Is:=cg.1.2.2;have m9:16777216<=Sx.cd.R/\Sx.cd.R<4294967296:=⟨Is.1,Is.2.1⟩;have Xn:=aZc cj ar jj;refine aD<|wq<|wm Z<|wm Z<|aC Z Z<|wm Z<|aC Z Z<|wy (aQ aa Z)<|aC Z Z<|wm Z<|aC Z Z<|wy (Yl.t (qU Z Z) G)<|wy (bB Z Z)<|aA ?_;refine bH Z<|aL<|aH<|wq ?_;rcases NB cg.1 ho with hk|hk|hk
 ·refine wm Z<|wa (aF nD Z (Ct.at 1 Z (nX hk))) ?_;rintro _ _ ⟨rfl,rfl⟩;refine wa (aF MM Z (Ct.sub (R1:=[(rc 256 2 kc [sl kh 258 bp,I (aZ Sx.c0)]),(ri 3 kh 258 bp Sx.c0),(ri 3 A1 n1 c1 acc),(rc 250 5 gg [PG kc,PG js,PG ka,I Sx.cls,I o]),(rc 256 2 js [sl dr 258 bx,I (aZ Sx.c1)]),(ri 3 dr 258 bx Sx.c1),(rc 256 2 ka [sl bo 258 cx,I (aZ Sx.c2)]),(ri 3 bo 258 cx Sx.c2),(rc 360 4 an [sl eh x.length es,I ((Sx.cd.k+4:Nat):Int), .int .u64 (cuC x Sx.cd), .int .u64 Sx.cd.R]),(ru 5 eh x.length es x)]) (λ_ h=>h.sel [2,3,0,1,4,5,6,7,8,9] cC Z) (iY))) ?_;rintro _ _ ⟨rfl,rfl⟩;refine wn Z<|wq<|wm Z<|wm Z<|wa (aF aVw Z (Ct.sub (R1:=[(rc 360 4 an [sl eh x.length es,I ((Sx.cd.k+4:Nat):Int), .int .u64 (cuC x Sx.cd), .int .u64 Sx.cd.R]),(ru 5 eh x.length es x),(rc 256 2 kc [sl kh 258 bp,I (aZ Sx.c0)]),(ri 3 kh 258 bp Sx.c0),(ri 3 A1 n1 c1 acc),(rc 250 5 gg [PG kc,PG js,PG ka,I Sx.cls,I o]),(rc 256 2 js [sl dr 258 bx,I (aZ Sx.c1)]),(ri 3 dr 258 bx Sx.c1),(rc 256 2 ka [sl bo 258 cx,I (aZ Sx.c2)]),(ri 3 bo 258 cx Sx.c2)]) (λ_ h=>h.sel [8,9,0,1,2,3,4,5,6,7] cC Z) (ET Z ((ot.w0 hk).tot cg.1.1.1 hy.1 hy.2).2 m9 ⟨(ot.w0 hk).c0,(ot.w0 hk).c1⟩ ((ot.w0 hk).tot cg.1.1.1 hy.1 hy.2).1))) ?_;rintro _ _ ⟨rfl,rfl⟩;refine wm Z<|wX Z Z<|wX Z Z<|wg Z<|wn Z<|wq<|wm Z<|wa (aF nD Z (Ct.at 5 Z (nX hk))) ?_;rintro _ _ ⟨rfl,rfl⟩;refine wm Z<|wa (aF aVv Z (Ct.sub (R1:=[(rc 256 2 kc [sl kh 258 bp,I (aZ Sx.c0)]),(ri 3 kh 258 bp Sx.c0),(rc 360 4 an [sl eh x.length es,I ((Sx.cd.k+4:Nat):Int), .int .u64 (cuC x Sx.cd), .int .u64 Sx.cd.R]),(ru 5 eh x.length es x),(ri 3 A1 n1 c1 acc),(rc 250 5 gg [PG kc,PG js,PG ka,I Sx.cls,I o]),(rc 256 2 js [sl dr 258 bx,I (aZ Sx.c1)]),(ri 3 dr 258 bx Sx.c1),(rc 256 2 ka [sl bo 258 cx,I (aZ Sx.c2)]),(ri 3 bo 258 cx Sx.c2)]) (λ_ h=>h.sel [2,3,0,1,4,5,6,7,8,9] cC Z) (uD (by rw[cg.1.1.1.1]) cg.1.1.1 hy ⟨(ot.w0 hk).v0,(ot.w0 hk).v1⟩))) ?_;rintro _ _ ⟨rfl,rfl⟩;refine wm Z<|wX Z Z<|wX Z Z<|wg Z<|wn Z<|wq<|wm Z<|wa (aF nD Z (Ct.at 5 Z (nX hk))) ?_;rintro _ _ ⟨rfl,rfl⟩;refine wm Z<|wa (aF RS Z (Ct.sub (R1:=[(rc 256 2 kc [sl kh 258 bp,I (aZ Sx.c0)]),(ri 3 kh 258 bp Sx.c0),(rc 360 4 an [sl eh x.length es,I ((Sx.cd.k+4:Nat):Int), .int .u64 (cuC x Sx.cd), .int .u64 Sx.cd.R]),(ru 5 eh x.length es x),(ri 3 A1 n1 c1 acc),(rc 250 5 gg [PG kc,PG js,PG ka,I Sx.cls,I o]),(rc 256 2 js [sl dr 258 bx,I (aZ Sx.c1)]),(ri 3 dr 258 bx Sx.c1),(rc 256 2 ka [sl bo 258 cx,I (aZ Sx.c2)]),(ri 3 bo 258 cx Sx.c2)]) (λ_ h=>h) (kP (by rw[cg.1.1.1.1]) (by rw[cg.1.1.1.1];exact hy) cg.1.1.1))) ?_;rintro _ _ ⟨rfl,rfl⟩;refine wm Z<|wX Z Z<|wX Z Z<|wX Z Z<|wg Z<|wg Z<|wn Z<|wq<|wm Z<|wm Z<|aC Z Z<|wm Z<|wy (bB Z Z) ?_;refine wm Z<|aC Z Z<|wm Z<|aC Z Z<|wm Z<|aC Z Z<|wm Z<|aC Z Z<|wm Z<|aC Z Z<|wa (aF aVu Z (Ct.sub (R1:=[(rc 360 4 an [sl eh x.length es,I ((Sx.cd.k+4:Nat):Int), .int .u64 (cuC x Sx.cd), .int .u64 Sx.cd.R]),(ru 5 eh x.length es x),(rc 256 2 kc [sl kh 258 bp,I (aZ Sx.c0)]),(ri 3 kh 258 bp Sx.c0),(ri 3 A1 n1 c1 acc),(rc 250 5 gg [PG kc,PG js,PG ka,I Sx.cls,I o]),(rc 256 2 js [sl dr 258 bx,I (aZ Sx.c1)]),(ri 3 dr 258 bx Sx.c1),(rc 256 2 ka [sl bo 258 cx,I (aZ Sx.c2)]),(ri 3 bo 258 cx Sx.c2)]) (λ_ h=>h.sel [2,3,0,1,4,5,6,7,8,9] cC Z) (DW Z (by rw[hx];exact gX _ _) G m9 (jT cg.1.1.1 hy.1 hy.2) (ot.w0 hk).lo (ot.w0 hk).hi (ot.w0 hk).len))) ?_;rintro _ _ ⟨rfl,rfl⟩;refine wy (bB Z Z)<|wn Z<|aD<|wq<|wm Z<|wm Z<|aC Z Z<|wm Z<|aC Z Z<|wy (aX Z Z)<|wy (bB Z Z)<|aA<|bF Z (λaq=> ?_) (λaq=> ?_)
  ·refine wq<|wm Z<|wg Z<|wn Z<|bS (R1:=[(ri 3 A1 n1 c1 acc)]) (λ_ h=>h.sel [4] cC Z) ?_;refine⟨_,_,Z,Z,?_⟩;have Ph:=Xn.1 cF;have Ky:acc=bA 0 (aU aO b):=by rw[ba,show i.toNat=(bM b).length-1 by omega];exact DY b
   have sf:n1=(bA 0 (aU aO b)).length:=G
   rw[Ky,sf];exact⟨_,_,Z,Z⟩
  ·refine aL<|wq<|wm Z<|wm Z<|wa (bL .i64 [rd (bM b) i] aa zs3 Z Z Z) ?_;rintro _ _ ⟨m4,rfl,rfl⟩;refine wa (aV 5 Z aa zb3 Z Z Z (rdr 0 Z)) ?_;rintro _ _ ⟨fm,uv,rfl,rfl⟩;refine bK (v:=sl fm (n1+1) uv) Z<|wn Z<|aN<|wm Z<|wm Z<|wa (aF RQ Z (Ct.sub (R1:=[(rc 250 5 gg [PG kc,PG js,PG ka,I Sx.cls,I o]),(rc 256 2 kc [sl kh 258 bp,I (aZ Sx.c0)]),(ri 3 kh 258 bp Sx.c0),(ri 3 (GG m4) 1 1 ([rd (bM b) i])),(rc 360 4 an [sl eh x.length es,I (((eY Sx.cd (aZ (Sx.c0.take (rd (bM b) i).toNat)) (rd Sx.c0 (rd (bM b) i)) (aZ Sx.c0)).k+4:Nat):Int), .int .u64 (cuC x (eY Sx.cd (aZ (Sx.c0.take (rd (bM b) i).toNat)) (rd Sx.c0 (rd (bM b) i)) (aZ Sx.c0))), .int .u64 ((eY Sx.cd (aZ (Sx.c0.take (rd (bM b) i).toNat)) (rd Sx.c0 (rd (bM b) i)) (aZ Sx.c0)).R)]),(ru 5 eh x.length es x),(ri 3 fm (n1+1) uv (acc++([rd (bM b) i]))),(rc 256 2 js [sl dr 258 bx,I (aZ Sx.c1)]),(ri 3 dr 258 bx Sx.c1),(rc 256 2 ka [sl bo 258 cx,I (aZ Sx.c2)]),(ri 3 bo 258 cx Sx.c2)]) (λ_ h=>h.sel [6,3,4,0,1,2,5,7,8,9,10] cC Z) (JZ hk (by rw[cg.1.1.1.1];exact hy) cg.1.1.1))) ?_;rintro _ _ ⟨rfl,rfl⟩;refine aA ?_;exact⟨(i+1),fm,n1+1,uv,acc++([rd (bM b) i]),(⟨jS Sx.c0 (rd (bM b) i),Sx.c1,Sx.c2,iE (rd (bM b) i),qE Sx.cd Sx.c0 (rd (bM b) i)⟩:PpS),⟨G,G,G,(by rw[dH ar G,<-ba]),(mM hS ar G (TK hk))⟩,G,SA,λ_ h=>h.sel [6,0,1,2,7,8,9,10,4,5] cC Z⟩
 ·refine wm Z<|wa (aF nD Z (Ct.at 1 Z (nW hk))) ?_;rintro _ _ ⟨rfl,rfl⟩;refine wa (aF MM Z (Ct.sub (R1:=[(rc 256 2 js [sl dr 258 bx,I (aZ Sx.c1)]),(ri 3 dr 258 bx Sx.c1),(ri 3 A1 n1 c1 acc),(rc 250 5 gg [PG kc,PG js,PG ka,I Sx.cls,I o]),(rc 256 2 kc [sl kh 258 bp,I (aZ Sx.c0)]),(ri 3 kh 258 bp Sx.c0),(rc 256 2 ka [sl bo 258 cx,I (aZ Sx.c2)]),(ri 3 bo 258 cx Sx.c2),(rc 360 4 an [sl eh x.length es,I ((Sx.cd.k+4:Nat):Int), .int .u64 (cuC x Sx.cd), .int .u64 Sx.cd.R]),(ru 5 eh x.length es x)]) (λ_ h=>h.sel [4,5,0,1,2,3,6,7,8,9] cC Z) (iY))) ?_;rintro _ _ ⟨rfl,rfl⟩;refine wn Z<|wq<|wm Z<|wm Z<|wa (aF aVw Z (Ct.sub (R1:=[(rc 360 4 an [sl eh x.length es,I ((Sx.cd.k+4:Nat):Int), .int .u64 (cuC x Sx.cd), .int .u64 Sx.cd.R]),(ru 5 eh x.length es x),(rc 256 2 js [sl dr 258 bx,I (aZ Sx.c1)]),(ri 3 dr 258 bx Sx.c1),(ri 3 A1 n1 c1 acc),(rc 250 5 gg [PG kc,PG js,PG ka,I Sx.cls,I o]),(rc 256 2 kc [sl kh 258 bp,I (aZ Sx.c0)]),(ri 3 kh 258 bp Sx.c0),(rc 256 2 ka [sl bo 258 cx,I (aZ Sx.c2)]),(ri 3 bo 258 cx Sx.c2)]) (λ_ h=>h.sel [8,9,0,1,2,3,4,5,6,7] cC Z) (ET Z ((ot.w1 hk).tot cg.1.1.2.1 hy.1 hy.2).2 m9 ⟨(ot.w1 hk).c0,(ot.w1 hk).c1⟩ ((ot.w1 hk).tot cg.1.1.2.1 hy.1 hy.2).1))) ?_;rintro _ _ ⟨rfl,rfl⟩;refine wm Z<|wX Z Z<|wX Z Z<|wg Z<|wn Z<|wq<|wm Z<|wa (aF nD Z (Ct.at 5 Z (nW hk))) ?_;rintro _ _ ⟨rfl,rfl⟩;refine wm Z<|wa (aF aVv Z (Ct.sub (R1:=[(rc 256 2 js [sl dr 258 bx,I (aZ Sx.c1)]),(ri 3 dr 258 bx Sx.c1),(rc 360 4 an [sl eh x.length es,I ((Sx.cd.k+4:Nat):Int), .int .u64 (cuC x Sx.cd), .int .u64 Sx.cd.R]),(ru 5 eh x.length es x),(ri 3 A1 n1 c1 acc),(rc 250 5 gg [PG kc,PG js,PG ka,I Sx.cls,I o]),(rc 256 2 kc [sl kh 258 bp,I (aZ Sx.c0)]),(ri 3 kh 258 bp Sx.c0),(rc 256 2 ka [sl bo 258 cx,I (aZ Sx.c2)]),(ri 3 bo 258 cx Sx.c2)]) (λ_ h=>h.sel [2,3,0,1,4,5,6,7,8,9] cC Z) (uD (by rw[cg.1.1.2.1.1]) cg.1.1.2.1 hy ⟨(ot.w1 hk).v0,(ot.w1 hk).v1⟩))) ?_;rintro _ _ ⟨rfl,rfl⟩;refine wm Z<|wX Z Z<|wX Z Z<|wg Z<|wn Z<|wq<|wm Z<|wa (aF nD Z (Ct.at 5 Z (nW hk))) ?_;rintro _ _ ⟨rfl,rfl⟩;refine wm Z<|wa (aF RS Z (Ct.sub (R1:=[(rc 256 2 js [sl dr 258 bx,I (aZ Sx.c1)]),(ri 3 dr 258 bx Sx.c1),(rc 360 4 an [sl eh x.length es,I ((Sx.cd.k+4:Nat):Int), .int .u64 (cuC x Sx.cd), .int .u64 Sx.cd.R]),(ru 5 eh x.length es x),(ri 3 A1 n1 c1 acc),(rc 250 5 gg [PG kc,PG js,PG ka,I Sx.cls,I o]),(rc 256 2 kc [sl kh 258 bp,I (aZ Sx.c0)]),(ri 3 kh 258 bp Sx.c0),(rc 256 2 ka [sl bo 258 cx,I (aZ Sx.c2)]),(ri 3 bo 258 cx Sx.c2)]) (λ_ h=>h) (kP (by rw[cg.1.1.2.1.1]) (by rw[cg.1.1.2.1.1];exact hy) cg.1.1.2.1))) ?_;rintro _ _ ⟨rfl,rfl⟩;refine wm Z<|wX Z Z<|wX Z Z<|wX Z Z<|wg Z<|wg Z<|wn Z<|wq<|wm Z<|wm Z<|aC Z Z<|wm Z<|wy (bB Z Z) ?_;refine wm Z<|aC Z Z<|wm Z<|aC Z Z<|wm Z<|aC Z Z<|wm Z<|aC Z Z<|wm Z<|aC Z Z<|wa (aF aVu Z (Ct.sub (R1:=[(rc 360 4 an [sl eh x.length es,I ((Sx.cd.k+4:Nat):Int), .int .u64 (cuC x Sx.cd), .int .u64 Sx.cd.R]),(ru 5 eh x.length es x),(rc 256 2 js [sl dr 258 bx,I (aZ Sx.c1)]),(ri 3 dr 258 bx Sx.c1),(ri 3 A1 n1 c1 acc),(rc 250 5 gg [PG kc,PG js,PG ka,I Sx.cls,I o]),(rc 256 2 kc [sl kh 258 bp,I (aZ Sx.c0)]),(ri 3 kh 258 bp Sx.c0),(rc 256 2 ka [sl bo 258 cx,I (aZ Sx.c2)]),(ri 3 bo 258 cx Sx.c2)]) (λ_ h=>h.sel [2,3,0,1,4,5,6,7,8,9] cC Z) (DW Z (by rw[hx];exact gX _ _) G m9 (jT cg.1.1.2.1 hy.1 hy.2) (ot.w1 hk).lo (ot.w1 hk).hi (ot.w1 hk).len))) ?_;rintro _ _ ⟨rfl,rfl⟩;refine wy (bB Z Z)<|wn Z<|aD<|wq<|wm Z<|wm Z<|aC Z Z<|wm Z<|aC Z Z<|wy (aX Z Z)<|wy (bB Z Z)<|aA<|bF Z (λce=> ?_) (λce=> ?_)
  ·refine wq<|wm Z<|wg Z<|wn Z<|bS (R1:=[(ri 3 A1 n1 c1 acc)]) (λ_ h=>h.sel [4] cC Z) ?_;refine⟨_,_,Z,Z,?_⟩;have Ph:=Xn.1 cF;have Ky:acc=bA 0 (aU aO b):=by rw[ba,show i.toNat=(bM b).length-1 by omega];exact DY b
   have sf:n1=(bA 0 (aU aO b)).length:=G
   rw[Ky,sf];exact⟨_,_,Z,Z⟩
  ·refine aL<|wq<|wm Z<|wm Z<|wa (bL .i64 [rd (bM b) i] aa zs3 Z Z Z) ?_;rintro _ _ ⟨vq,rfl,rfl⟩;refine wa (aV 5 Z aa zb3 Z Z Z (rdr 0 Z)) ?_;rintro _ _ ⟨tg,ti,rfl,rfl⟩;refine bK (v:=sl tg (n1+1) ti) Z<|wn Z<|aN<|wm Z<|wm Z<|wa (aF RQ Z (Ct.sub (R1:=[(rc 250 5 gg [PG kc,PG js,PG ka,I Sx.cls,I o]),(rc 256 2 js [sl dr 258 bx,I (aZ Sx.c1)]),(ri 3 dr 258 bx Sx.c1),(ri 3 (GG vq) 1 1 ([rd (bM b) i])),(rc 360 4 an [sl eh x.length es,I (((eY Sx.cd (aZ (Sx.c1.take (rd (bM b) i).toNat)) (rd Sx.c1 (rd (bM b) i)) (aZ Sx.c1)).k+4:Nat):Int), .int .u64 (cuC x (eY Sx.cd (aZ (Sx.c1.take (rd (bM b) i).toNat)) (rd Sx.c1 (rd (bM b) i)) (aZ Sx.c1))), .int .u64 ((eY Sx.cd (aZ (Sx.c1.take (rd (bM b) i).toNat)) (rd Sx.c1 (rd (bM b) i)) (aZ Sx.c1)).R)]),(ru 5 eh x.length es x),(ri 3 tg (n1+1) ti (acc++([rd (bM b) i]))),(rc 256 2 kc [sl kh 258 bp,I (aZ Sx.c0)]),(ri 3 kh 258 bp Sx.c0),(rc 256 2 ka [sl bo 258 cx,I (aZ Sx.c2)]),(ri 3 bo 258 cx Sx.c2)]) (λ_ h=>h.sel [6,3,4,0,1,2,5,7,8,9,10] cC Z) (JY hk (by rw[cg.1.1.2.1.1];exact hy) cg.1.1.2.1))) ?_;rintro _ _ ⟨rfl,rfl⟩;refine aA ?_;exact⟨(i+1),tg,n1+1,ti,acc++([rd (bM b) i]),(⟨Sx.c0,jS Sx.c1 (rd (bM b) i),Sx.c2,iE (rd (bM b) i),qE Sx.cd Sx.c1 (rd (bM b) i)⟩:PpS),⟨G,G,G,(by rw[dH ar G,<-ba]),(mM hS ar G (TJ hk))⟩,G,SA,λ_ h=>h.sel [6,0,7,8,1,2,9,10,4,5] cC Z⟩
 ·refine wm Z<|wa (aF nD Z (Ct.at 1 Z (nU hk))) ?_;rintro _ _ ⟨rfl,rfl⟩;refine wa (aF MM Z (Ct.sub (R1:=[(rc 256 2 ka [sl bo 258 cx,I (aZ Sx.c2)]),(ri 3 bo 258 cx Sx.c2),(ri 3 A1 n1 c1 acc),(rc 250 5 gg [PG kc,PG js,PG ka,I Sx.cls,I o]),(rc 256 2 kc [sl kh 258 bp,I (aZ Sx.c0)]),(ri 3 kh 258 bp Sx.c0),(rc 256 2 js [sl dr 258 bx,I (aZ Sx.c1)]),(ri 3 dr 258 bx Sx.c1),(rc 360 4 an [sl eh x.length es,I ((Sx.cd.k+4:Nat):Int), .int .u64 (cuC x Sx.cd), .int .u64 Sx.cd.R]),(ru 5 eh x.length es x)]) (λ_ h=>h.sel [6,7,0,1,2,3,4,5,8,9] cC Z) (iY))) ?_;rintro _ _ ⟨rfl,rfl⟩;refine wn Z<|wq<|wm Z<|wm Z<|wa (aF aVw Z (Ct.sub (R1:=[(rc 360 4 an [sl eh x.length es,I ((Sx.cd.k+4:Nat):Int), .int .u64 (cuC x Sx.cd), .int .u64 Sx.cd.R]),(ru 5 eh x.length es x),(rc 256 2 ka [sl bo 258 cx,I (aZ Sx.c2)]),(ri 3 bo 258 cx Sx.c2),(ri 3 A1 n1 c1 acc),(rc 250 5 gg [PG kc,PG js,PG ka,I Sx.cls,I o]),(rc 256 2 kc [sl kh 258 bp,I (aZ Sx.c0)]),(ri 3 kh 258 bp Sx.c0),(rc 256 2 js [sl dr 258 bx,I (aZ Sx.c1)]),(ri 3 dr 258 bx Sx.c1)]) (λ_ h=>h.sel [8,9,0,1,2,3,4,5,6,7] cC Z) (ET Z ((ot.w2 hk).tot cg.1.1.2.2 hy.1 hy.2).2 m9 ⟨(ot.w2 hk).c0,(ot.w2 hk).c1⟩ ((ot.w2 hk).tot cg.1.1.2.2 hy.1 hy.2).1))) ?_;rintro _ _ ⟨rfl,rfl⟩;refine wm Z<|wX Z Z<|wX Z Z<|wg Z<|wn Z<|wq<|wm Z<|wa (aF nD Z (Ct.at 5 Z (nU hk))) ?_;rintro _ _ ⟨rfl,rfl⟩;refine wm Z<|wa (aF aVv Z (Ct.sub (R1:=[(rc 256 2 ka [sl bo 258 cx,I (aZ Sx.c2)]),(ri 3 bo 258 cx Sx.c2),(rc 360 4 an [sl eh x.length es,I ((Sx.cd.k+4:Nat):Int), .int .u64 (cuC x Sx.cd), .int .u64 Sx.cd.R]),(ru 5 eh x.length es x),(ri 3 A1 n1 c1 acc),(rc 250 5 gg [PG kc,PG js,PG ka,I Sx.cls,I o]),(rc 256 2 kc [sl kh 258 bp,I (aZ Sx.c0)]),(ri 3 kh 258 bp Sx.c0),(rc 256 2 js [sl dr 258 bx,I (aZ Sx.c1)]),(ri 3 dr 258 bx Sx.c1)]) (λ_ h=>h.sel [2,3,0,1,4,5,6,7,8,9] cC Z) (uD (by rw[cg.1.1.2.2.1]) cg.1.1.2.2 hy ⟨(ot.w2 hk).v0,(ot.w2 hk).v1⟩))) ?_;rintro _ _ ⟨rfl,rfl⟩;refine wm Z<|wX Z Z<|wX Z Z<|wg Z<|wn Z<|wq<|wm Z<|wa (aF nD Z (Ct.at 5 Z (nU hk))) ?_;rintro _ _ ⟨rfl,rfl⟩;refine wm Z<|wa (aF RS Z (Ct.sub (R1:=[(rc 256 2 ka [sl bo 258 cx,I (aZ Sx.c2)]),(ri 3 bo 258 cx Sx.c2),(rc 360 4 an [sl eh x.length es,I ((Sx.cd.k+4:Nat):Int), .int .u64 (cuC x Sx.cd), .int .u64 Sx.cd.R]),(ru 5 eh x.length es x),(ri 3 A1 n1 c1 acc),(rc 250 5 gg [PG kc,PG js,PG ka,I Sx.cls,I o]),(rc 256 2 kc [sl kh 258 bp,I (aZ Sx.c0)]),(ri 3 kh 258 bp Sx.c0),(rc 256 2 js [sl dr 258 bx,I (aZ Sx.c1)]),(ri 3 dr 258 bx Sx.c1)]) (λ_ h=>h) (kP (by rw[cg.1.1.2.2.1]) (by rw[cg.1.1.2.2.1];exact hy) cg.1.1.2.2))) ?_;rintro _ _ ⟨rfl,rfl⟩;refine wm Z<|wX Z Z<|wX Z Z<|wX Z Z<|wg Z<|wg Z<|wn Z<|wq<|wm Z<|wm Z<|aC Z Z<|wm Z<|wy (bB Z Z) ?_;refine wm Z<|aC Z Z<|wm Z<|aC Z Z<|wm Z<|aC Z Z<|wm Z<|aC Z Z<|wm Z<|aC Z Z<|wa (aF aVu Z (Ct.sub (R1:=[(rc 360 4 an [sl eh x.length es,I ((Sx.cd.k+4:Nat):Int), .int .u64 (cuC x Sx.cd), .int .u64 Sx.cd.R]),(ru 5 eh x.length es x),(rc 256 2 ka [sl bo 258 cx,I (aZ Sx.c2)]),(ri 3 bo 258 cx Sx.c2),(ri 3 A1 n1 c1 acc),(rc 250 5 gg [PG kc,PG js,PG ka,I Sx.cls,I o]),(rc 256 2 kc [sl kh 258 bp,I (aZ Sx.c0)]),(ri 3 kh 258 bp Sx.c0),(rc 256 2 js [sl dr 258 bx,I (aZ Sx.c1)]),(ri 3 dr 258 bx Sx.c1)]) (λ_ h=>h.sel [2,3,0,1,4,5,6,7,8,9] cC Z) (DW Z (by rw[hx];exact gX _ _) G m9 (jT cg.1.1.2.2 hy.1 hy.2) (ot.w2 hk).lo (ot.w2 hk).hi (ot.w2 hk).len))) ?_;rintro _ _ ⟨rfl,rfl⟩;refine wy (bB Z Z)<|wn Z<|aD<|wq<|wm Z<|wm Z<|aC Z Z<|wm Z<|aC Z Z<|wy (aX Z Z)<|wy (bB Z Z)<|aA<|bF Z (λfj=> ?_) (λfj=> ?_)
  ·refine wq<|wm Z<|wg Z<|wn Z<|bS (R1:=[(ri 3 A1 n1 c1 acc)]) (λ_ h=>h.sel [4] cC Z) ?_;refine⟨_,_,Z,Z,?_⟩;have Ph:=Xn.1 cF;have Ky:acc=bA 0 (aU aO b):=by rw[ba,show i.toNat=(bM b).length-1 by omega];exact DY b
   have sf:n1=(bA 0 (aU aO b)).length:=G
   rw[Ky,sf];exact⟨_,_,Z,Z⟩
  ·refine aL<|wq<|wm Z<|wm Z<|wa (bL .i64 [rd (bM b) i] aa zs3 Z Z Z) ?_;rintro _ _ ⟨Nh,rfl,rfl⟩;refine wa (aV 5 Z aa zb3 Z Z Z (rdr 0 Z)) ?_;rintro _ _ ⟨nf,nj,rfl,rfl⟩;refine bK (v:=sl nf (n1+1) nj) Z<|wn Z<|aN<|wm Z<|wm Z<|wa (aF RQ Z (Ct.sub (R1:=[(rc 250 5 gg [PG kc,PG js,PG ka,I Sx.cls,I o]),(rc 256 2 ka [sl bo 258 cx,I (aZ Sx.c2)]),(ri 3 bo 258 cx Sx.c2),(ri 3 (GG Nh) 1 1 ([rd (bM b) i])),(rc 360 4 an [sl eh x.length es,I (((eY Sx.cd (aZ (Sx.c2.take (rd (bM b) i).toNat)) (rd Sx.c2 (rd (bM b) i)) (aZ Sx.c2)).k+4:Nat):Int), .int .u64 (cuC x (eY Sx.cd (aZ (Sx.c2.take (rd (bM b) i).toNat)) (rd Sx.c2 (rd (bM b) i)) (aZ Sx.c2))), .int .u64 ((eY Sx.cd (aZ (Sx.c2.take (rd (bM b) i).toNat)) (rd Sx.c2 (rd (bM b) i)) (aZ Sx.c2)).R)]),(ru 5 eh x.length es x),(ri 3 nf (n1+1) nj (acc++([rd (bM b) i]))),(rc 256 2 kc [sl kh 258 bp,I (aZ Sx.c0)]),(ri 3 kh 258 bp Sx.c0),(rc 256 2 js [sl dr 258 bx,I (aZ Sx.c1)]),(ri 3 dr 258 bx Sx.c1)]) (λ_ h=>h.sel [6,3,4,0,1,2,5,7,8,9,10] cC Z) (JX hk (by rw[cg.1.1.2.2.1];exact hy) cg.1.1.2.2))) ?_;rintro _ _ ⟨rfl,rfl⟩;refine aA ?_;exact⟨(i+1),nf,n1+1,nj,acc++([rd (bM b) i]),(⟨Sx.c0,Sx.c1,jS Sx.c2 (rd (bM b) i),iE (rd (bM b) i),qE Sx.cd Sx.c2 (rd (bM b) i)⟩:PpS),⟨G,G,G,(by rw[dH ar G,<-ba]),(mM hS ar G (TI hk))⟩,G,SA,λ_ h=>h.sel [6,0,7,8,9,10,1,2,4,5] cC Z⟩
theorem OL {kd:Option Addr} {mt ke:Nat} {l:List Int} {q:List Int} (fk:Rd w kd mt ke 1 (ints .i64 l)) (hb:bkL dt l [] 1=some q) (hm:0<=dt/\dt<=100000) (hN:l.length<=1000000):
  Ct Tryz.prog 273 #[sl kd mt ke,I dt] w.heap.size w [] (λv R'=> ∃A c,v= .tuple #[sl A q.length c,bt]/\R'=[(ru 5 A q.length c q)]):=by
 obtain rfl:=fk.lenI;refine fn2 Tryz.func273 Z Z Z ?_;have Oy:=fk.max;refine wq<|wg Z<|wn Z<|aD<|wq<|wm Z<|wy (Yl.f (eG Z Z))<|aA<|aJ Z<|aL<|wq ?_;refine wa (bL .u8 [] af zs5 Z Z Z) ?_;rintro _ _ ⟨cm,rfl,rfl⟩;refine wn Z<|wq<|wn Z<|aD<|wq<|wm Z<|wy (aQ aa Z)<|wm Z<|aA<|aH ?_;refine mK (λ(i:Int) (A1:Option Addr) (n1:Nat) (c1:Nat) (acc:List Int) (p:Int)=>[(1,I dt),(6,sl A1 n1 c1),(7,I p),(14,sl kd l.length ke),(15,I ((l.length:Nat):Int)),(16,I i)]) (λi A1 n1 c1 acc p=>[(ru 5 A1 n1 c1 acc)]) (λi A1 n1 c1 acc p=>(0<=i)/\(i<=l.length)/\(n1=acc.length)/\(1<=p/\p<=200000)/\((acc.length:Int)<=dt)/\(bkL dt (l.drop i.toNat) acc p=some q)) (λi A1 n1 c1 acc p=>(l.length-i).toNat) ?_ ?_
 ·exact⟨0,GG cm,0,0,[],1,⟨G,G,(Z),G,(by show(0:Int)<=dt;omega),(hb)⟩,SA,λ_ h=>h⟩
 intro i A1 n1 c1 acc p ⟨ar,jj,co,hp,tk,z6⟩;refine wq<|wL Z Z<|aA<|aD<|bF Z (λaq=> ?_) (λaq=> ?_)
 ·have sm:=bIa z6 ar G;refine aL<|aD<|aH<|wq<|wy (aI aa sz3 Z Z (fk.c _))<|wy (aW ak Z Z (fk.c _))<|wn Z<|aD<|aH<|wq<|wm Z<|wy (Yl.f (eG Z Z)) ?_;refine wm Z<|aC Z Z<|wm Z<|aC Z Z<|wy (Yl.f (gZ Z Z))<|wy (aS Z Z)<|wn Z<|aJ Z<|wq<|wm Z<|wy (gZ Z Z)<|wn Z ?_;refine bF Z (λce=> ?_) (λce=> ?_)
  ·obtain ⟨_,h3,h4⟩:=sm.2.resolve_right (λh=>G);refine wq<|wm Z<|wm Z<|wS Z Z<|wy (eP ak bg Z)<|wa (bL .u8 [((rd l i)-1)%256] af zs5 Z Z Z) ?_;rintro _ _ ⟨kc,rfl,rfl⟩;refine wa (aV 1 Z af zb5 Z Z Z (rdr 0 Z)) ?_;rintro _ _ ⟨en,kj,rfl,rfl⟩;refine bK (v:=sl en (n1+1) kj) Z<|wn Z<|aN<|wn Z<|wq<|wm Z<|wy (aQ af Z)<|wm Z<|wy (Yl.f (dJ Z Z))<|aA<|aJ Z<|aL ?_;refine aN<|wA Z Z<|wm Z<|aA ?_;exact⟨i+1,en,n1+1,kj,acc++([((rd l i)-1)%256]),1,⟨G,G,(by rw[ah,co];simp),G,(by rw[ah,gq];omega),(by rw[pu G G];exact h4)⟩,G,SA,λ_ h=>h.sel [1] cC Z⟩
  ·obtain ⟨_,h3,hz,h5⟩:=sm.2.resolve_left (λh=>G)
   have hxp:(rd l i+1)*p=p\/(rd l i+1)*p=2*p:=by
    rcases(by omega:rd l i=0\/rd l i=1) with e|e<;>rw[e]<;>omega
   obtain⟨zn,hzn⟩: ∃zn:Nat,(rd l i+1)*p=(zn:Int):=⟨((rd l i+1)*p).toNat,G⟩;refine wq<|wm Z<|wA Z Z<|wm Z<|wy (Yl.is (iV Z Z) (by rw[hzn])) ?_;refine wn Z<|aD<|wq<|wm Z<|wm Z<|wy (Yl.f (dJ Z Z))<|wm Z<|aC Z Z<|wm Z<|aC Z Z<|wm Z<|aC Z Z<|wm Z ?_;refine aC Z Z<|wy (aQ af Z)<|aC Z Z<|wS Z Z<|aC Z Z<|wy (Yl.f (dJ Z Z))<|wy (aS Z Z)<|aA<|aJ Z<|aL<|wq<|wm Z<|wm Z<|wa (aYk (m:=zn) 0 Z af ak zb5 Z Z G G G) ?_;rintro _ _ ⟨kh,mn,rfl,rfl⟩;refine wn Z<|aN<|wm Z<|wy (iV Z Z)<|wn Z<|wq<|wm Z<|wy (aQ af Z)<|wm Z<|wy (Yl.f (dJ Z Z))<|aA<|aJ Z ?_;refine aL<|aN<|wA Z Z<|wm Z<|aA ?_;exact⟨i+1,kh,n1+zn,mn,acc++List.replicate zn 0,p*2,⟨G,G,(by rw[ah,co];simp),G,(by rw[ah,cz];omega),(by rw[show zn=((rd l i+1)*p).toNat by omega];exact h5)⟩,G,SA,λ_ h=>h⟩
 ·refine aY<|wq<|wm Z<|wg Z<|wn Z<|aT [0] 99 cC Z ?_;refine⟨_,_,Z,Z,?_⟩;have hdr:l.drop i.toNat=[]:=xm G;rw[hdr] at z6;have hq:acc=q:=jc z6;subst hq;subst co;exact⟨_,_,Z,Z⟩
set_option maxHeartbeats 1000000 in
theorem WO (ml:Rd w k9 Jx l7 1 (ints .u8 x)) (hx:x=bZ b o) (cj:aR b) (ho:o=0\/o=1) (hN:b.length<=100000) (hm:(b.length:Int)<=dt):
  Ct Tryz.prog 229 #[sl k9 Jx l7,I o,I dt] w.heap.size w [] (λv R'=> ∃A c,v= .tuple #[sl A b.length c,bt]/\R'=[(ru 5 A b.length c b)]):=by
 obtain rfl:=ml.lenI;refine fn2 Tryz.func229 Z Z Z ?_;have Zo:=ml.max;have k4:=qD cj;have Ly:x.length<=2*b.length+6:=by rw[hx];exact nQ cj
 have hx4:4<=x.length:=by rw[hx];unfold bZ;rw[jR];omega
 have vj:(bM b).length=(bA 0 (aU aO b)).length+1:=by unfold bM;rw[ah];rfl
 have Ow:=oL (aU aO b) 0;rw[fO] at Ow;have hmv:=fO b aO;refine wq<|wg Z<|wn Z<|aD<|wq<|wm Z<|wa (aF bEw Z (Ct.quiet (λw hw=>BS ho))) ?_;rintro _ _ ⟨rfl,rfl⟩;refine wy (dU Z)<|wm Z<|aC Z Z<|wm Z<|aC Z Z<|wy (Yl.f (eG Z Z))<|wy (aS Z Z)<|aA<|aJ Z<|aL<|wq<|wm Z<|wy (rV Z Z)<|wg Z ?_;refine aA<|wq<|wm Z<|wm Z<|wm Z<|wa (aF bKw Z (Ct.fresh (λw hw=>TH ((ml.c _) w hw) hx cj ho hN G))) ?_;rintro _ _ ⟨_,rfl,bm,bl,rfl,rfl⟩;refine wm Z<|wX Z Z<|wX Z Z<|wg Z<|wn Z<|aD<|wq<|wm Z<|wy (dU Z)<|aA<|aJ Z<|aL<|aD ?_;refine aN<|wm Z<|wm Z<|wa (aF bKv Z (Ct.fresh (λw hw=>OL ((rdr 0 Z) w hw) (bHz (lS cj) G) G G))) ?_;rintro _ _ ⟨_,rfl,ir,iu,rfl,rfl⟩;refine wm Z<|wX Z Z<|wX Z Z<|wg Z<|wn Z<|aD<|wq<|wm Z<|wy (dU Z)<|aA<|aJ Z<|aL<|aD ?_;refine aN<|wm Z<|wa (aF bFb Z (Ct.fresh (λw hw=>SH ((rdr 0 Z) w hw) (lS cj) G))) ?_;rintro _ _ ⟨_,rfl,du,dp,rfl,rfl⟩;refine wn Z<|aD<|wq<|wm Z<|wm Z<|wa (aF bCi Z (Ct.fresh (λw hw=>xM ((rdr 0 Z) w hw) (by rw[qC cj];exact cj) ho (by rw[qC cj];exact hN)))) ?_;rintro _ _ ⟨_,rfl,bo,bp,rfl,rfl⟩;refine wm Z<|wX Z Z<|wX Z Z<|wg Z<|wn Z<|wq<|wm Z<|wm Z<|wa (aF bKu Z (Ct.quiet (λw hw=>aOd ((rdr 0 Z) w hw) ((ml.c _) w hw) (gX _ _) (by rw[hx];exact gX _ _)))) ?_;rintro _ _ ⟨rfl,rfl⟩;refine kK 50 Z (by rw[qC cj,hx]) ?_;refine wy (dU Z)<|aA<|aJ Z<|aL<|wq<|wm Z<|wg Z<|wn Z<|bS (R1:=[(ru 5 du (((aU aO b)).length) dp (kS aO (aU aO b)))]) (λ_ h=>h.sel [1] cC Z) ?_;refine⟨_,_,Z,Z,?_⟩;rw[hmv,qC cj];exact⟨_,_,Z,Z⟩
variable {B g gc aw ao nt ct:Nat} {w0:World} {X R0 R:List Row} {ap At:Option Addr} {u t:List Int} {p0 p1 p2 p3 ms tt ls x n:Int}
theorem BL (V:Int) (t:List Int) (al:RdC B w0 R0 ap aw ao 1 (ints .u8 u)) (bw:aw=u.length) (hN:u.length<=1000000) (am:aR u) (hV:0<=V/\V<=9223372036854775807) (hu:u=bO V++t):
  Ct Tryz.prog 90 #[PG g] B w0 ((rc 87 10 g [PG gc,I p0,I p1,I p2,I p3,I ms,I tt,I ls,sl At nt ct,sl none 0 0])::(rc 146 1 gc [sl ap aw ao])::(X++R0)) (λv R'=> ∃(A9:Option Addr) (c9:Nat),RdC B w0 R0 A9 (t).length c9 1 (ints .u8 (t))/\v= .tuple #[I V,bt]/\R'=(rc 87 10 g [PG gc,I p0,I p1,I p2,I p3,I ms,I tt,I ls,sl At nt ct,sl none 0 0])::(rc 146 1 gc [sl A9 ((t).length) c9])::(X++R0)):=
 (BK (R:=X++R0) (m:=(bO V).length) (RdC.right al X) bw hN am (by rw[hu];exact uR.of ⟨hV.1,G⟩ t) hV.2).mono λv R' hv=>by
  obtain⟨rfl,rfl⟩:=hv;have e:=RdC.fromI (l:=(bO V).length) al (by rw[bw,hu,ah];omega);have hl:aw-(bO V).length=t.length:=by rw[bw,hu,ah];omega
  have hd:u.drop (bO V).length=t:=by rw[hu];exact Fz
  rw[hl,hd] at e;rw[hl];exact⟨_,_,e,Z,Z⟩
theorem aHq {k:Int} (a t:List Int) (al:RdC B w0 R0 ap aw ao 1 (ints .u8 u)) (bw:aw=u.length) (hN:u.length<=1000000) (hk:k=(a.length:Int)) (hu:u=a++t):
  Ct Tryz.prog 156 #[PG gc,I k] B w0 ((rc 146 1 gc [sl ap aw ao])::(X++R0)) (λv R'=> ∃(A1:Option Addr) (c1:Nat),∃(A9:Option Addr) (c9:Nat),RdC B w0 R0 A9 (t).length c9 1 (ints .u8 (t))/\v= .tuple #[sl A1 a.length c1,bt]/\R'=(ru 5 A1 a.length c1 a)::(rc 146 1 gc [sl A9 ((t).length) c9])::(X++R0)):=
 (yM (R:=X++R0) (k:=k) (RdC.right al X) bw hN (by rw[hu,ah];omega)).mono λv R' hv=>by
  obtain⟨A1,c1,rfl,rfl⟩:=hv;have Pm:k.toNat=a.length:=G
  have e:=RdC.fromI (l:=a.length) al (by rw[bw,hu,ah];omega);have hl:aw-a.length=t.length:=by rw[bw,hu,ah];omega
  have hd:u.drop a.length=t:=by rw[hu];exact Fz
  have ht:u.take a.length=a:=by rw[hu];exact zi
  rw[hl,hd] at e;rw[Pm,hl,ht];exact⟨_,_,_,_,e,Z,Z⟩
theorem aVh (al:RdC B w0 R0 ap aw ao 1 (ints .u8 u)) (bw:aw=u.length) (hN:u.length<=1000000) (hx:0<=x/\x<4294967296) (hu:u=fJ x++t):
  Ct Tryz.prog 228 #[PG gc] B w0 ((rc 146 1 gc [sl ap aw ao])::(X++R0)) (λv R'=> ∃(A9:Option Addr) (c9:Nat),RdC B w0 R0 A9 (t).length c9 1 (ints .u8 (t))/\v= .tuple #[.int .u32 x,bt]/\R'=(rc 146 1 gc [sl A9 ((t).length) c9])::(X++R0)):=by
 subst bw;have m8:=(jN x).rd 0;have wt:=(jN x).rd 1;have e7:=(jN x).rd 2;have La:=(jN x).rd 3;refine fn2 Tryz.func228 Z Z Z ?_;refine wq<|wg Z<|wn Z<|wq<|wm Z<|wa (aF aJo Z ((aHq (X:=([]++X)) (R0:=R0) (fJ x) (t) al Z hN Z hu))) ?_;rintro _ _ ⟨ir,iu,bm,bl,qu,rfl,rfl⟩;refine jC (R1:=((ru 5 ir 4 iu (fJ x))::(rc 146 1 gc [sl bm ((t).length) bl])::(X++R0))) Z<|bK (v:= .tuple #[sl ir 4 iu,bt]) Z<|wm Z<|wX Z Z<|wX Z Z<|wg Z<|wn Z<|aD<|wq<|wm Z<|wy (dU Z)<|aA<|aJ Z ?_;refine aL<|wq<|wn Z<|aD<|wq<|wm Z<|wy (aQ af Z)<|wm Z<|aA<|aH<|oJ 5<|eH ?_;refine wq<|wy (Yl.t (eG Z Z) cC)<|aA<|aD<|bH Z<|aL<|aD<|aH<|wq<|wm Z<|wy (aI af sz5 Z Z (rdr 0 Z))<|wy (aW bg Z Z (rdr 0 Z))<|wg Z ?_;refine wn Z<|aN<|wm Z<|wm Z<|wy (zN bg qo Z G)<|wm Z<|wy (Yl.is (iV Z Z) (Z:_=Value.int .i64 0))<|wy (GY (k:=0) (m:=1) Z Z Z G Z)<|wy (SX (p:=(rd (fJ x) 0)) (m:=1) 0 Z Z Z G G)<|wn Z<|aN<|wy (Yl.is (dG Z Z) (Z:_=Value.int .i64 1))<|wm Z ?_;refine aA<|eH<|wq<|wy (Yl.t (eG Z Z) cC)<|aA<|aD<|bH Z<|aL<|aD<|aH<|wq<|wm Z<|wy (aI af sz5 Z Z (rdr 0 Z)) ?_;refine wy (aW bg Z Z (rdr 0 Z))<|wg Z<|wn Z<|aN<|wm Z<|wm Z<|wy (zN bg qo Z G)<|wm Z<|wy (Yl.is (iV Z Z) (Z:_=Value.int .i64 8))<|wy (GY (k:=8) (m:=256) Z Z Z G Z)<|wy (SX (p:=(rd (fJ x) 1)) (m:=256) 8 Z Z Z G G)<|wn Z<|aN ?_;refine wy (Yl.is (dG Z Z) (Z:_=Value.int .i64 2))<|wm Z<|aA<|eH<|wq<|wy (Yl.t (eG Z Z) cC)<|aA<|aD<|bH Z<|aL<|aD<|aH<|wq ?_;refine wm Z<|wy (aI af sz5 Z Z (rdr 0 Z))<|wy (aW bg Z Z (rdr 0 Z))<|wg Z<|wn Z<|aN<|wm Z<|wm Z<|wy (zN bg qo Z G)<|wm Z<|wy (Yl.is (iV Z Z) (Z:_=Value.int .i64 16))<|wy (GY (k:=16) (m:=65536) Z Z Z G Z)<|wy (SX (p:=(rd (fJ x) 2)) (m:=65536) 16 Z Z Z G G)<|wg Z ?_;refine aA<|aN<|wy (Yl.is (dG Z Z) (Z:_=Value.int .i64 3))<|wm Z<|aA<|eH<|wq<|wy (Yl.t (eG Z Z) cC)<|aA<|aD<|bH Z<|aL<|aD<|aH ?_;refine wq<|wm Z<|wy (aI af sz5 Z Z (rdr 0 Z))<|wy (aW bg Z Z (rdr 0 Z))<|wg Z<|wn Z<|aN<|wm Z<|wm Z<|wy (zN bg qo Z G)<|wm Z<|wy (Yl.is (iV Z Z) (Z:_=Value.int .i64 24))<|wy (GY (k:=24) (m:=16777216) Z Z Z G Z) ?_;refine wy (SX (p:=(rd (fJ x) 3)) (m:=16777216) 24 Z Z Z G G)<|wn Z<|aN<|wy (Yl.is (dG Z Z) (Z:_=Value.int .i64 4))<|wm Z<|aA<|eH<|wq<|wy (Yl.f (eG Z Z) cC)<|aA<|aD<|aJ Z<|aY ?_;refine wq<|wm Z<|wg Z<|wn Z ?_;have he:0+(rd (fJ x) 0)*1+(rd (fJ x) 1)*256+(rd (fJ x) 2)*65536+(rd (fJ x) 3)*16777216=x:=bCc hx;refine aT [1] 2 cC Z ?_;refine⟨_,_,Z,Z,?_⟩;rw[he];exact⟨_,_,qu,Z,Z⟩
theorem aEx (hn:n<=p3) (hb:(-1000000<=ms/\ms<=1000000)/\(0<=tt/\tt<=1000000)):
  Ct Tryz.prog 158 #[PG g,I n] B w0 ((rc 87 10 g [PG gc,I 0,I p1,I p2,I p3,I ms,I tt,I ls,sl At nt ct,sl none 0 0])::R) (λv R'=>v= .bool (decide (n<=ms-tt))/\R'=(rc 87 10 g [PG gc,I 0,I p1,I p2,I p3,I ms,I tt,I ls,sl At nt ct,sl none 0 0])::R):=by
 refine fn1 Iu Z Z Z ?_;refine wq<|wn Z<|aD<|wq<|wm Z<|wy (aG Z)<|wy (aB (off:=1) (m:=1) ic Z fD Z Z Z)<|wy (aB (off:=0) (m:=1) az Z sz3 Z Z Z)<|wy (aK (rdr 0 Z) ak Z Z Z)<|wy (Yl.f (aX Z Z) cC)<|wm Z<|aP Z Z Z Z ?_;refine aP Z Z Z Z<|aP Z Z Z Z<|aP Z Z Z Z<|aP Z Z Z Z<|wy (aS Z Z)<|wm Z<|aC Z Z<|wm Z<|aC Z Z<|wy (aG Z)<|aC Z Z<|wy (aB (off:=1) (m:=1) ic Z fD Z Z Z)<|aC Z Z<|wy (aB (off:=0) (m:=1) az Z sz3 Z Z Z)<|aC Z Z ?_;refine wy (aK (rdr 0 Z) ak Z Z Z)<|aC Z Z<|wy (Yl.t (gU Z Z) cC)<|aC Z Z<|wm Z<|aC Z Z<|wm Z<|aC Z Z<|wm Z<|aC Z Z<|wy (aG Z)<|aC Z Z<|wy (aB (off:=1) (m:=1) ic Z fD Z Z Z)<|aC Z Z<|wy (aB (off:=3) (m:=4) az Z sz3 Z Z Z) ?_;refine aC Z Z<|wy (aK (rdr 0 Z) ak Z Z Z)<|aC Z Z<|wy (Yl.f (dJ Z Z))<|aC Z Z<|wy (bB Z Z)<|wy (aS Z Z)<|aA<|aJ Z<|aL<|aD<|bP mixed<|wD 0 Z (aM Z)<|wD 1 Z (aM Z)<|wD 2 Z (aG Z) ?_;refine wD 3 Z (aB (off:=5) (m:=5) ic Z sz3 Z Z Z)<|wD 4 Z (aK (rdr 0 Z) ak Z Z Z)<|wD 5 Z (aM Z)<|wD 6 Z (aG Z)<|wD 7 Z (aB (off:=6) (m:=6) ic Z sz3 Z Z Z)<|wD 8 Z (aK (rdr 0 Z) ak Z Z Z)<|wD 9 Z (iK Z Z)<|wD 10 Z (qU Z Z)<|wD 11 Z (bG Z)<|wN<|bS (R1:=((rc 87 10 g [PG gc,I 0,I p1,I p2,I p3,I ms,I tt,I ls,sl At nt ct,sl none 0 0])::R)) (λ_ h=>h) ?_;refine⟨_,Z,?_⟩;exact⟨Z,Z⟩
theorem aEw (hn:n<=p3) (hb:(-1000000<=ms/\ms<=1000000)/\(0<=tt/\tt<=1000000)):
  Ct Tryz.prog 158 #[PG g,I n] B w0 ((rc 87 10 g [PG gc,I 1,I p1,I p2,I p3,I ms,I tt,I ls,sl At nt ct,sl none 0 0])::R) (λv R'=>v= .bool (decide (n<=ms-tt))/\R'=(rc 87 10 g [PG gc,I 1,I p1,I p2,I p3,I ms,I tt,I ls,sl At nt ct,sl none 0 0])::R):=by
 refine fn1 Iu Z Z Z ?_;refine wq<|wn Z<|aD<|wq<|wm Z<|wy (aG Z)<|wy (aB (off:=1) (m:=1) ic Z fD Z Z Z)<|wy (aB (off:=0) (m:=1) az Z sz3 Z Z Z)<|wy (aK (rdr 0 Z) ak Z Z Z)<|wy (Yl.f (aX Z Z) cC)<|wm Z<|aP Z Z Z Z ?_;refine aP Z Z Z Z<|aP Z Z Z Z<|aP Z Z Z Z<|aP Z Z Z Z<|wy (aS Z Z)<|wm Z<|aC Z Z<|wm Z<|aC Z Z<|wy (aG Z)<|aC Z Z<|wy (aB (off:=1) (m:=1) ic Z fD Z Z Z)<|aC Z Z<|wy (aB (off:=0) (m:=1) az Z sz3 Z Z Z)<|aC Z Z ?_;refine wy (aK (rdr 0 Z) ak Z Z Z)<|aC Z Z<|wy (Yl.t (gU Z Z) cC)<|aC Z Z<|wm Z<|aC Z Z<|wm Z<|aC Z Z<|wm Z<|aC Z Z<|wy (aG Z)<|aC Z Z<|wy (aB (off:=1) (m:=1) ic Z fD Z Z Z)<|aC Z Z<|wy (aB (off:=3) (m:=4) az Z sz3 Z Z Z) ?_;refine aC Z Z<|wy (aK (rdr 0 Z) ak Z Z Z)<|aC Z Z<|wy (Yl.f (dJ Z Z))<|aC Z Z<|wy (bB Z Z)<|wy (aS Z Z)<|aA<|aJ Z<|aL<|aD<|bP mixed<|wD 0 Z (aM Z)<|wD 1 Z (aM Z)<|wD 2 Z (aG Z) ?_;refine wD 3 Z (aB (off:=5) (m:=5) ic Z sz3 Z Z Z)<|wD 4 Z (aK (rdr 0 Z) ak Z Z Z)<|wD 5 Z (aM Z)<|wD 6 Z (aG Z)<|wD 7 Z (aB (off:=6) (m:=6) ic Z sz3 Z Z Z)<|wD 8 Z (aK (rdr 0 Z) ak Z Z Z)<|wD 9 Z (iK Z Z)<|wD 10 Z (qU Z Z)<|wD 11 Z (bG Z)<|wN<|bS (R1:=((rc 87 10 g [PG gc,I 1,I p1,I p2,I p3,I ms,I tt,I ls,sl At nt ct,sl none 0 0])::R)) (λ_ h=>h) ?_;refine⟨_,Z,?_⟩;exact⟨Z,Z⟩
theorem aEv (hn:n<=p3) (hb:(-1000000<=ms/\ms<=1000000)/\(0<=tt/\tt<=1000000)):
  Ct Tryz.prog 158 #[PG g,I n] B w0 ((rc 87 10 g [PG gc,I 2,I p1,I p2,I p3,I ms,I tt,I ls,sl At nt ct,sl none 0 0])::R) (λv R'=>v= .bool (decide (n<=ms-tt))/\R'=(rc 87 10 g [PG gc,I 2,I p1,I p2,I p3,I ms,I tt,I ls,sl At nt ct,sl none 0 0])::R):=by
 refine fn1 Iu Z Z Z ?_;refine wq<|wn Z<|aD<|wq<|wm Z<|wy (aG Z)<|wy (aB (off:=1) (m:=1) ic Z fD Z Z Z)<|wy (aB (off:=0) (m:=1) az Z sz3 Z Z Z)<|wy (aK (rdr 0 Z) ak Z Z Z)<|wy (Yl.f (aX Z Z) cC)<|wm Z<|aP Z Z Z Z ?_;refine aP Z Z Z Z<|aP Z Z Z Z<|aP Z Z Z Z<|aP Z Z Z Z<|wy (aS Z Z)<|wm Z<|aC Z Z<|wm Z<|aC Z Z<|wy (aG Z)<|aC Z Z<|wy (aB (off:=1) (m:=1) ic Z fD Z Z Z)<|aC Z Z<|wy (aB (off:=0) (m:=1) az Z sz3 Z Z Z)<|aC Z Z ?_;refine wy (aK (rdr 0 Z) ak Z Z Z)<|aC Z Z<|wy (Yl.t (gU Z Z) cC)<|aC Z Z<|wm Z<|aC Z Z<|wm Z<|aC Z Z<|wm Z<|aC Z Z<|wy (aG Z)<|aC Z Z<|wy (aB (off:=1) (m:=1) ic Z fD Z Z Z)<|aC Z Z<|wy (aB (off:=3) (m:=4) az Z sz3 Z Z Z) ?_;refine aC Z Z<|wy (aK (rdr 0 Z) ak Z Z Z)<|aC Z Z<|wy (Yl.f (dJ Z Z))<|aC Z Z<|wy (bB Z Z)<|wy (aS Z Z)<|aA<|aJ Z<|aL<|aD<|bP mixed<|wD 0 Z (aM Z)<|wD 1 Z (aM Z)<|wD 2 Z (aG Z) ?_;refine wD 3 Z (aB (off:=5) (m:=5) ic Z sz3 Z Z Z)<|wD 4 Z (aK (rdr 0 Z) ak Z Z Z)<|wD 5 Z (aM Z)<|wD 6 Z (aG Z)<|wD 7 Z (aB (off:=6) (m:=6) ic Z sz3 Z Z Z)<|wD 8 Z (aK (rdr 0 Z) ak Z Z Z)<|wD 9 Z (iK Z Z)<|wD 10 Z (qU Z Z)<|wD 11 Z (bG Z)<|wN<|bS (R1:=((rc 87 10 g [PG gc,I 2,I p1,I p2,I p3,I ms,I tt,I ls,sl At nt ct,sl none 0 0])::R)) (λ_ h=>h) ?_;refine⟨_,Z,?_⟩;exact⟨Z,Z⟩
theorem aNa:
  Ct Tryz.prog 159 #[PG g,I n] B w0 ((rc 87 10 g [PG gc,I 0,I p1,I p2,I p3,I ms,I tt,I ls,sl At nt ct,sl none 0 0])::R) (λv R'=>v= .tuple #[sl none 0 0,bt]/\R'=(rc 87 10 g [PG gc,I 0,I p1,I p2,I p3,I ms,I tt,I ls,sl At nt ct,sl none 0 0])::R):=by
 refine fn2 Iw Z Z Z ?_;refine wq<|wg Z<|wn Z<|aD<|wq<|wm Z<|wy (aG Z)<|wy (aB (off:=1) (m:=1) ic Z fD Z Z Z)<|wy (aB (off:=0) (m:=1) az Z sz3 Z Z Z)<|wy (aK (rdr 0 Z) ak Z Z Z)<|aA<|aH ?_;refine wq<|wy (Yl.f (aX Z Z) cC)<|wn Z<|aJ Z<|wq<|wy (Yl.f (aX Z Z) cC)<|wn Z<|aJ Z<|aL<|wq ?_;refine wg Z<|wn Z<|bS (R1:=((rc 87 10 g [PG gc,I 0,I p1,I p2,I p3,I ms,I tt,I ls,sl At nt ct,sl none 0 0])::R)) (λ_ h=>h) ?_;refine⟨_,_,Z,Z,?_⟩;exact⟨Z,Z⟩
theorem aMy:
  Ct Tryz.prog 159 #[PG g,I n] B w0 ((rc 87 10 g [PG gc,I 2,I p1,I p2,I p3,I ms,I tt,I ls,sl At nt ct,sl none 0 0])::R) (λv R'=>v= .tuple #[sl none 0 0,bt]/\R'=(rc 87 10 g [PG gc,I 2,I p1,I p2,I p3,I ms,I tt,I ls,sl At nt ct,sl none 0 0])::R):=by
 refine fn2 Iw Z Z Z ?_;refine wq<|wg Z<|wn Z<|aD<|wq<|wm Z<|wy (aG Z)<|wy (aB (off:=1) (m:=1) ic Z fD Z Z Z)<|wy (aB (off:=0) (m:=1) az Z sz3 Z Z Z)<|wy (aK (rdr 0 Z) ak Z Z Z)<|aA<|aH ?_;refine wq<|wy (Yl.f (aX Z Z) cC)<|wn Z<|aJ Z<|wq<|wy (Yl.f (aX Z Z) cC)<|wn Z<|aJ Z<|aL<|wq ?_;refine wg Z<|wn Z<|bS (R1:=((rc 87 10 g [PG gc,I 2,I p1,I p2,I p3,I ms,I tt,I ls,sl At nt ct,sl none 0 0])::R)) (λ_ h=>h) ?_;refine⟨_,_,Z,Z,?_⟩;exact⟨Z,Z⟩
theorem aMz {at_:Int} (al:RdC B w0 R0 ap aw ao 1 (ints .u8 u)) (bw:aw=u.length) (hN:u.length<=1000000) (am:aR u) (sk:0<=at_/\at_<=n/\n<=1000000) (hu:u=bO at_++t):
  Ct Tryz.prog 159 #[PG g,I n] B w0 ((rc 87 10 g [PG gc,I 1,I p1,I p2,I p3,I ms,I tt,I ls,sl At nt ct,sl none 0 0])::(rc 146 1 gc [sl ap aw ao])::(X++R0)) (λv R'=> ∃(A8:Option Addr),∃(A9:Option Addr) (c9:Nat),RdC B w0 R0 A9 (t).length c9 1 (ints .u8 (t))/\v= .tuple #[sl A8 1 1,bt]/\R'=(ri 3 A8 1 1 ([at_]))::(rc 87 10 g [PG gc,I 1,I p1,I p2,I p3,I ms,I tt,I ls,sl At nt ct,sl none 0 0])::(rc 146 1 gc [sl A9 ((t).length) c9])::(X++R0)):=by
 subst bw;refine fn2 Iw Z Z Z ?_;refine wq<|wg Z<|wn Z<|aD<|wq<|wm Z<|wy (aG Z)<|wy (aB (off:=1) (m:=1) ic Z fD Z Z Z)<|wy (aB (off:=0) (m:=1) az Z sz3 Z Z Z)<|wy (aK (rdr 0 Z) ak Z Z Z)<|aA<|aH ?_;refine wq<|wy (Yl.t (aX Z Z) cC)<|wn Z<|bH Z<|wq<|wm Z<|wa (aF aOk Z ((BL (X:=([]++X)) (R0:=R0) (at_) (t) al Z G cF G hu))) ?_;rintro _ _ ⟨bm,bl,qu,rfl,rfl⟩;refine wm Z<|wX Z Z<|wX Z Z<|wg Z<|wn Z<|wq<|wm Z<|wa (bL .i64 [at_] aa zs3 Z Z Z) ?_;rintro _ _ ⟨kc,rfl,rfl⟩;refine wm Z<|wm Z<|aC Z Z<|wm Z<|aC Z Z<|wm Z<|aC Z Z<|wy (Yl.t (qU Z Z) G)<|wy (bB Z Z)<|wg Z<|wn Z<|bS (R1:=((ri 3 (GG kc) 1 1 ([at_]))::(rc 87 10 g [PG gc,I 1,I p1,I p2,I p3,I ms,I tt,I ls,sl At nt ct,sl none 0 0])::(rc 146 1 gc [sl bm ((t).length) bl])::(X++R0))) (λ_ h=>h) ?_;refine⟨_,_,Z,Z,?_⟩;exact⟨_,_,_,qu,Z,Z⟩
set_option maxHeartbeats 1000000 in
theorem EL {l:List Int} (al:RdC B w0 R0 ap aw ao 1 (ints .u8 u)) (bw:aw=u.length) (hN:u.length<=1000000) (am:aR u) (hx:0<=x/\x<4294967296) (pd:p2=0\/p2=1) (zd:aR l) (hl:(l.length:Int)=n/\l.length<=100000) (hu:u=bO ((bZ l p2).length:Int)++(fJ x++(bZ l p2++t))):
  Ct Tryz.prog 160 #[PG g,I n] B w0 ((rc 87 10 g [PG gc,I p0,I p1,I p2,I p3,I ms,I tt,I ls,sl At nt ct,sl none 0 0])::(rc 146 1 gc [sl ap aw ao])::(X++R0)) (λv R'=> ∃(A8:Option Addr) (c8:Nat),∃(A9:Option Addr) (c9:Nat),RdC B w0 R0 A9 (t).length c9 1 (ints .u8 (t))/\v= .tuple #[.int .u32 x,sl A8 l.length c8,bt]/\R'=(ru 5 A8 l.length c8 l)::(rc 87 10 g [PG gc,I p0,I p1,I p2,I p3,I ms,I tt,I ls,sl At nt ct,sl none 0 0])::(rc 146 1 gc [sl A9 ((t).length) c9])::(X++R0)):=by
 subst bw;have yb:=bq List.length hu;simp only[ah] at yb;have tx:(fJ x).length=4:=rfl;have Mi:=am;rw[hu] at Mi;refine fn3 Tryz.func160 Z Z Z ?_;refine wq<|wg Z<|wg Z<|wn Z<|wq<|wm Z<|wa (aF aOk Z ((BL (X:=([]++X)) (R0:=R0) (((bZ l p2).length:Int)) (fJ x++(bZ l p2++t)) al Z G cF G hu))) ?_;rintro _ _ ⟨bm,bl,qu,rfl,rfl⟩;refine wm Z<|wX Z Z<|wX Z Z<|wg Z<|wn Z<|wq<|wm Z<|wy (aG Z)<|wy (aB (off:=0) (m:=0) ic Z aKz Z Z Z)<|wy (aK (rdr 0 Z) Aa Z Z Z)<|wa (aF bLo Z (Ct.pick [1,0] 2 cC Z (aVh (X:=([(rc 87 10 g [PG gc,I p0,I p1,I p2,I p3,I ms,I tt,I ls,sl At nt ct,sl none 0 0])]++X)) (R0:=R0) (x:=x) (t:=bZ l p2++t) qu Z (by simp only[ah];omega) hx Z))) ?_;rintro _ _ ⟨ir,iu,Lo,rfl,rfl⟩;refine wm Z<|wX Z Z<|wX Z Z<|wg Z<|wn Z<|wq<|wm Z<|wy (aG Z)<|wy (aB (off:=0) (m:=0) ic Z aKz Z Z Z)<|wy (aK (rdr 1 Z) Aa Z Z Z)<|wm Z<|wa (aF aJo Z ((aHq (X:=([(rc 87 10 g [PG gc,I p0,I p1,I p2,I p3,I ms,I tt,I ls,sl At nt ct,sl none 0 0])]++X)) (R0:=R0) (bZ l p2) (t) Lo Z (by simp only[ah];omega) Z Z))) ?_;rintro _ _ ⟨bo,bp,du,dp,Fl,rfl,rfl⟩;refine wm Z<|wX Z Z<|wX Z Z<|wg Z<|wn Z<|aD<|wq<|wm Z<|wy (dU Z)<|wm Z<|aC Z Z<|wm Z<|aC Z Z ?_;refine wy (dU Z)<|wy (aS Z Z)<|wm Z<|aC Z Z<|wm Z<|aC Z Z<|wy (dU Z)<|wy (aS Z Z)<|aA<|aJ Z<|aL<|wq<|wm Z<|wm Z ?_;refine wy (aG Z)<|wy (aB (off:=1) (m:=1) ic Z fD Z Z Z)<|wy (aB (off:=2) (m:=3) az Z sz3 Z Z Z)<|wy (aK (rdr 2 Z) ak Z Z Z)<|wm Z<|wa (aF bLn Z (Ct.fresh (λw hw=>WO ((rdr 0 Z) w hw) Z zd pd hl.2 G))) ?_;rintro _ _ ⟨_,rfl,pi,cx,rfl,rfl⟩;refine wm Z<|wX Z Z<|wX Z Z<|wg Z<|wn Z<|wq<|wm Z<|wm Z<|wm Z<|wm Z<|aC Z Z<|wm Z<|aC Z Z ?_;refine wy (aQ af Z)<|aC Z Z<|wm Z<|aC Z Z<|wy (Yl.t (aX Z Z) G)<|wy (bB Z Z)<|wg Z<|wg Z<|wn Z<|aT [0,3,2] 4 cC Z ?_;refine⟨_,_,_,Z,Z,Z,?_⟩;exact⟨_,_,_,_,Fl,Z,Z⟩
end Go.Proofs.YtdbebmmhdefgdaaGreat
namespace Go.Pure
open Go Go.Eng
section
variable {p:List Int}
def pit (p:List Int):Nat->Int->Int
 |0,i=>i
 |b+1,i=>rd p (pit p b i)
theorem tZ (hp:p.Perm (iota p.length)) {i:Int} (i0:0<=i) (hi:i<p.length): ∀b:Nat,0<=pit p b i/\pit p b i<p.length
 |0=>⟨i0,hi⟩
 |b+1=>by
  have ih:=tZ hp i0 hi b;exact bE.1 (hp.subset (bN (L:=p) ih.1 ih.2))
theorem aIn (p:List Int) (a:Nat) (i:Int): ∀b:Nat,pit p (a+b) i=pit p b (pit p a i)
 |0=>rfl
 |b+1=>by rw[<-mr,pit,aIn p a i b,pit]
theorem bDv (hp:p.Perm (iota p.length)) {x y:Int} (x0:0<=x) (hx:x<p.length) (y0:0<=y) (hy:y<p.length) (h:rd p x=rd p y):x=y:=jX (hp.symm.nodup (eO _)) x0 hx y0 hy h
structure Ring (p:List Int) (i:Int) (c:List Int):Prop where
 pos:0<c.length
 at_: ∀b:Nat,b<c.length->rd c b=pit p b i
 close:pit p c.length i=i
 nodup:c.Nodup
 least: ∀x∈c,i<=x
structure ClE (p:List Int) (E:List Bool):Prop where
 len:E.length=p.length
 back: ∀j:Int,0<=j->j<p.length->rdb E (rd p j)=true->rdb E j=true
theorem aZj {l:List Int} {x:Int} {b:Nat} (h:b<(l++[x]).length):rd (l++[x]) b=if b<l.length then rd l b else x:=by
 split
 ·rename_i g;rw[kE G G]
 ·rename_i g;have:b=l.length:=by simp at h;omega
  subst this;rw[gW G,Ij];rfl
theorem PK (hp:p.Perm (iota p.length)) {E0:List Bool} {i:Int} (hE0:ClE p E0) (i0:0<=i) (hi:i<p.length) (d6:rdb E0 i≠true) (ju: ∀j:Int,0<=j->j<i->rdb E0 j=true):
  ∀(f:Nat) (E:List Bool) (acc:List Int),E.length=p.length->cntF E<=f->(∀b:Nat,b<acc.length->rd acc b=pit p b i)->acc.Nodup->(∀x∈acc,rdb E0 x≠true)->(∀j:Int,0<=j->j<p.length->(rdb E j=true↔rdb E0 j=true\/j∈acc))->
  Ring p i (acc++(gJ p f E (pit p acc.length i)).1)/\(∀x∈acc++(gJ p f E (pit p acc.length i)).1,rdb E0 x≠true)/\ ∀j:Int,0<=j->j<p.length->(rdb (gJ p f E (pit p acc.length i)).2 j=true↔rdb E0 j=true\/j∈acc++(gJ p f E (pit p acc.length i)).1)
 | f, E,acc,hl,hf,sk,hnd,Lf,hset=>by
  have hk:=tZ hp i0 hi acc.length;have fi: ∀b:Nat,b<acc.length->pit p b i∈acc:=λb hb=>by rw[<-sk b hb];exact bN G G
  by_cases sd:rdb E (pit p acc.length i)=true
  ·rw [tJ sd];simp only[jk]
   have dv:0<acc.length:=by
    rcases dz acc.length with z|z
    ·exfalso;have hz:acc=[]:=ed z;subst hz;rcases(hset i i0 hi).1 sd with a|a
     ·exact d6 a
     ·cases a
    ·exact z
   have Nw:pit p acc.length i=i:=by
    have hz:=tZ hp i0 hi (acc.length-1)
    have Mv:pit p acc.length i=rd p (pit p (acc.length-1) i):=by
     obtain⟨m,hm⟩: ∃m,acc.length=m+1:=⟨acc.length-1,G⟩;rw[hm,pit];rfl
    rcases(hset _ hk.1 hk.2).1 sd with a|a
    ·rw [Mv] at a;exact absurd (hE0.back _ hz.1 hz.2 a) (Lf _ (fi _ G))
    ·obtain ⟨b,hb,e⟩:=gz.1 a;have e2:pit p acc.length i=pit p b i:=by rw[<-sk b hb,iL hb];exact e.symm
     rcases dz b with z|z
     ·rw[e2,z];rfl
     ·exfalso;have wt:=tZ hp i0 hi (b-1)
      have Ou:pit p b i=rd p (pit p (b-1) i):=by
       obtain⟨m,rfl⟩: ∃m,b=m+1:=⟨b-1,G⟩;rw[pit];rfl
      have:=bDv hp hz.1 hz.2 wt.1 wt.2 (by rw[<-Mv,<-Ou,e2]);rw[<-sk _ G,<-sk _ G] at this;have:=jX hnd G G G G this;omega
   refine⟨⟨dv,sk,Nw,hnd,λx hx=> ?_⟩,Lf,hset⟩;obtain⟨b,hb,rfl⟩:=gz.1 hx;have hr:=tZ hp i0 hi b;rw[<-sk b hb,iL hb] at hr;rcases bi acc[b] i with g|g
   ·exact absurd (ju _ hr.1 g) (Lf _ hx)
   ·exact g
  ·have ee:=MV hk.1 G sd;have o0:=CP hk.1 G sd;obtain⟨g,rfl⟩: ∃g,f=g+1:=⟨f-1,G⟩;rw[JK hk.1 G hf sd];have mw: ¬(rdb E0 (pit p acc.length i)=true\/pit p acc.length i∈acc):=λh=>sd ((hset _ hk.1 hk.2).2 h);have hlen:(acc++[pit p acc.length i]).length=acc.length+1:=cD
   have ih:=PK hp hE0 i0 hi d6 ju g (qB E (pit p acc.length i) true) (acc++[pit p acc.length i]) (by rw[lC];exact hl) G (λb hb=>by
    rw[aZj hb];split
    ·rename_i q;exact sk b q
    ·rename_i q;rw[show b=acc.length by rw[hlen] at hb;omega]) (xu.2 ⟨hnd,cD,λx hx y hy e=>by obtain rfl:=ib.1 hy;subst e;exact mw (.inr hx)⟩) (λx hx=>by
    rcases gp.1 hx with h|h
    ·exact Lf x h
    ·obtain rfl:=ib.1 h
     exact λe=>mw (.inl e)) (λj j0 hj=>by
    rw[xI hk.1 G j0,gp,ib];split
    ·rename_i e;exact⟨λ_=> .inr (.inr e),λ_=>rfl⟩
    ·rename_i e;rw[hset j j0 hj];exact⟨λh=>h.elim .inl λh=> .inr (.inl h),λh=>h.elim .inl λh=>h.elim .inr λh=>absurd h e⟩)
   rw[hlen,pit,gy] at ih;exact ih
structure bNu (p:List Int) (i:Nat) (E:List Bool) (ls:List (List Int)):Prop where
 cl:ClE p E
 seen: ∀j:Int,0<=j->j<p.length->(rdb E j=true↔j∈ls.flatten)
 nodup:ls.flatten.Nodup
 ring: ∀c∈ls,∃i0:Int,(0<=i0/\i0<i)/\Ring p i0 c
 heads:ls.Pairwise λc d=>rd c 0<rd d 0
theorem bNn (hp:p.Perm (iota p.length)): ∀i:Nat,i<=p.length->bNu p i (iZ p i).1 (iZ p i).2
 |0,_=>⟨⟨by simp[iZ],λj j0 hj h=>by rw[iZ,IL] at h;cases h⟩,λj j0 hj=>by rw[iZ,IL];simp,by simp[iZ],λc hc=>(by cases hc), .nil⟩
 | i +1,hi=>by
  have ih:=bNn hp i G;have sd:=EZ hp i G;have hf:=lU hp i G;have Xk:cntF (iZ p i).1<=p.length:=by have:=hf.2.2;omega
  rw[iZ];by_cases d6:rdb (iZ p i).1 i=true
  ·rw [tJ d6];simp only[Fu];exact⟨ih.cl,ih.seen,ih.nodup,λc hc=>by obtain⟨i0,h,r⟩:=ih.ring c hc;exact⟨i0,G,r⟩,ih.heads⟩
  ·obtain ⟨w1,w2,w3⟩:=PK hp ih.cl (i:=i) G G d6 (λj j0 hj=>by have:=sd j.toNat G;rwa[show((j.toNat:Nat):Int)=j by omega] at this) p.length (iZ p i).1 [] hf.1 Xk (λb hb=>by simp at hb) .nil (λx hx=>by cases hx) (λj j0 hj=>cD);simp only[je,jl,pit] at w1 w2 w3;have My:=(qX hp p.length (iZ p i).1 i hf.1 G G);generalize gJ p p.length (iZ p i).1 i=r at w1 w2 w3 My;obtain⟨c,E'⟩:=r;simp only at w1 w2 w3 My ⊢;rw[bu (λe=>by have:=w1.pos;rw[e] at this;simp at this)];have h0:rd c 0=i:=w1.at_ 0 w1.pos;refine⟨⟨My.1,λj j0 hj h=> ?_⟩,λj j0 hj=> ?_,?_,λd hd=> ?_,?_⟩
   ·have wx:=bE.1 (hp.subset (bN (L:=p) j0 hj));rcases(w3 _ wx.1 wx.2).1 h with a|a
    ·exact(w3 j j0 hj).2 (.inl (ih.cl.back j j0 hj a))
    ·refine (w3 j j0 hj).2 (.inr ?_);obtain⟨b,hb,e⟩:=gz.1 a;have e2:rd p j=pit p b i:=by rw[<-w1.at_ b hb,iL hb];exact e.symm
     have key: ∀m:Nat,m<c.length->rd p j=rd p (pit p m i)->j∈c:=λm hm e=>by
      have Ix:=tZ hp (i:=i) G G m;have:=bDv hp j0 hj Ix.1 Ix.2 e;rw[this,<-w1.at_ m hm];exact bN G G
     rcases dz b with z|z
     ·refine key (c.length-1) (by have:=w1.pos;omega) ?_;have hc:=w1.close;obtain⟨m,hm⟩: ∃m,c.length=m+1:=⟨c.length-1,by have:=w1.pos;omega⟩;rw[hm,pit] at hc;rw[e2,z,hm];exact hc.symm
     ·obtain ⟨m,rfl⟩: ∃m,b=m+1:=⟨b-1,G⟩;exact key m G (by rw[e2,pit])
   ·rw [w3 j j0 hj,qg,gp,ih.seen j j0 hj];simp
   ·rw [qg];refine xu.2 ⟨ih.nodup,by simpa using w1.nodup,λx hx y hy e=> ?_⟩;subst e;have hy:x∈c:=by simpa using hy
    have Zg:=My.2.1 x hy;exact w2 x hy ((ih.seen x Zg.1 Zg.2).2 hx)
   ·rcases gp.1 hd with h|h
    ·obtain ⟨i0,h,r⟩:=ih.ring d h;exact⟨i0,G,r⟩
    ·obtain rfl:=ib.1 h;exact⟨i,G,w1⟩
   ·refine kz.2 ⟨ih.heads,qa _ _,λd hd e he=> ?_⟩;obtain rfl:=ib.1 he;obtain⟨i0,h,r⟩:=ih.ring d hd;rw[h0,show rd d 0=i0 from r.at_ 0 r.pos];omega
theorem aFy (hp:p.Perm (iota p.length)):bNu p p.length (iZ p p.length).1 (eZ p):=bNn hp p.length (di _)
theorem EY (hp:p.Perm (iota p.length)):(eZ p).flatten.Perm (iota p.length):=qJ (aFy hp).nodup (λx hx=>by
 obtain⟨c,hc,hx⟩:=Br.1 hx
 exact bE.2 (aJq hp c hc x hx)) (by rw[bI,aBg hp];exact di _)
end
end Go.Pure
namespace Go.Pure
open Go Go.Eng
section
variable {l:List Int}
def phi (l:List Int) (q:Int):Int:=rd (dC (iota l.length) l 256) q
theorem KW (hl:aR l) {q:Int} (q0:0<=q) (hq:q<l.length):0<=phi l q/\phi l q<l.length:=by
 have h:=kF (l:=l) hl;have hlen:=h.1.length_eq;rw[bI] at hlen;exact bE.1 (h.1.subset (bN q0 G))
theorem bGj (hl:aR l) {i:Int} (i0:0<=i) (hi:i<l.length):phi l (lfC l i)=i:=by
 obtain⟨q,q0,q1,e,f⟩:=ZT (l:=l) hl i0 hi;rw[f];exact e
theorem aEg (hl:aR l) {i k:Int} (i0:0<=i) (h:i<k) (hk:k<l.length):tl l (phi l i) (phi l k):=by
 have hlen:=(kF (l:=l) hl).1.length_eq;rw[bI] at hlen;exact eT (kF (l:=l) hl).2 i0 h G
def uw (l:List Int):Nat->Int->Int
 |0,i=>rd l (phi l i)
 |d+1,i=>uw l d (phi l i)
def U (l:List Int) (i:Int) (d:Nat):Int:=uw l d i
theorem wV (i:Int):U l i 0=rd l (phi l i):=by unfold U;rw[uw]
theorem zI (i:Int) (d:Nat):U l i (d+1)=U l (phi l i) d:=by unfold U;rw[uw]
theorem aYn (hl:aR l): ∀(d:Nat) (i k:Int),0<=i->i<k->k<l.length->(∀e,e<d->U l i e=U l k e)->U l i d<=U l k d
 |0,i,k,i0,h,hk,_=>by
  have:=aEg hl i0 h hk;rw[wV,wV];unfold tl at this;omega
 |d+1,i,k,i0,h,hk,he=>by
  have h0:=he 0 G;rw[wV,wV] at h0;have ht:=aEg hl i0 h hk;unfold tl at ht;have Mm:=KW hl (q:=i) i0 G;have ob:=KW hl (q:=k) G hk;rw[zI,zI];refine aYn hl d _ _ Mm.1 G ob.2 λe he'=> ?_;have:=he (e+1) G;rwa[zI,zI] at this
theorem aYo (hl:aR l) {i k:Int} (i0:0<=i) (h:i<=k) (hk:k<l.length): ¬Lt (U l k) (U l i):=by
 rintro⟨d,h1,h2⟩;rcases bi i k with a|a
 ·have:=aYn hl d i k i0 a hk λe he=>(h1 e he).symm;omega
 ·obtain rfl:i=k:=G
  omega
theorem phi_mono (hl:aR l) {i k:Int} (i0:0<=i) (h:i<k) (hk:k<l.length) (he: ∀d,U l i d=U l k d):phi l i<phi l k/\ ∀d,U l (phi l i) d=U l (phi l k) d:=by
 have ht:=aEg hl i0 h hk;have h0:=he 0;rw[wV,wV] at h0;unfold tl at ht;refine⟨G,λd=> ?_⟩;have:=he (d+1);rwa[zI,zI] at this
def jI (l:List Int):Nat->Int->Int
 |0,i=>i
 |b+1,i=>jI l b (phi l i)
theorem uA (hl:aR l): ∀(b:Nat) {i:Int},0<=i->i<l.length->0<=jI l b i/\jI l b i<l.length
 |0,i,i0,hi=>⟨i0,hi⟩
 |b+1,i,i0,hi=>by
  have h:=KW hl i0 hi;exact uA hl b h.1 h.2
theorem EJ (hl:aR l): ∀(b:Nat) {i k:Int},0<=i->i<k->k<l.length->(∀d,U l i d=U l k d)->jI l b i<jI l b k/\ ∀d,U l (jI l b i) d=U l (jI l b k) d
 |0,i,k,_,h,_,he=>⟨h,he⟩
 |b+1,i,k,i0,h,hk,he=>by
  have h1:=phi_mono hl i0 h hk he;have Mm:=KW hl (q:=i) i0 G;have ob:=KW hl (q:=k) G hk;exact EJ hl b Mm.1 h1.1 ob.2 h1.2
theorem wW (i:Int): ∀(b d:Nat),U l (jI l b i) d=U l i (b+d)
 |0,d=>by rw[ng];rfl
 |b+1,d=>by
  rw[jI,wW (phi l i) b d,<-zI,show b+d+1=b+1+d by omega]
theorem oM (i:Int): ∀(a b:Nat),jI l (a+b) i=jI l b (jI l a i)
 |0,b=>by rw[ng];rfl
 |a+1,b=>by rw[show a+1+b=(a+b)+1 by omega,jI,oM (phi l i) a b];rfl
theorem aIw (hl:aR l) {i:Int} (i0:0<=i) (hi:i<l.length) {b:Nat} (h:i<jI l b i) (he: ∀d,U l i d=U l (jI l b i) d): ∀t:Nat,i+t<=jI l (t*b) i
 |0=>by rw[Dm];show i+0<=i;omega
 |t+1=>by
  have ih:=aIw hl i0 hi h he t;have hk:=uA hl b i0 hi;have h1:=(EJ hl (t*b) i0 h hk.2 he).1;rw[<-oM i b (t*b),show b+t*b=(t+1)*b by rw[Fj];omega] at h1;omega
theorem aIx (hl:aR l) {i:Int} (i0:0<=i) (hi:i<l.length) {b:Nat} (h:jI l b i<i) (he: ∀d,U l i d=U l (jI l b i) d): ∀t:Nat,jI l (t*b) i+t<=i
 |0=>by rw[Dm];show i+0<=i;omega
 |t+1=>by
  have ih:=aIx hl i0 hi h he t;have hk:=uA hl b i0 hi;have h1:=(EJ hl (t*b) hk.1 h hi λd=>(he d).symm).1;rw[<-oM i b (t*b),show b+t*b=(t+1)*b by rw[Fj];omega] at h1;omega
theorem aRr (hl:aR l) {i:Int} (i0:0<=i) (hi:i<l.length) {b:Nat} (dv:jI l b i≠i): ¬ ∀d,U l i d=U l (jI l b i) d:=λhe=>by
 rcases bi i (jI l b i) with h|h
 ·have:=aIw hl i0 hi h he (l.length+1);have:=uA hl ((l.length+1)*b) i0 hi;omega
 ·have:=aIx hl i0 hi G he (l.length+1);have:=uA hl ((l.length+1)*b) i0 hi;omega
theorem bCb (hl:aR l):(((iota l.length).map (lfC l))).Perm (iota ((iota l.length).map (lfC l)).length):=by
 rw[bz,bI];exact CY (λx h0 h1=>ZU (l:=l) hl h0 h1) λx y x0 x1 y0 y1 e=>aUe (l:=l) hl x0 x1 y0 y1 e
def lfL (l:List Int):List Int:=(iota l.length).map (lfC l)
theorem oH (l:List Int):(lfL l).length=l.length:=by unfold lfL;rw[bz,bI]
theorem bGe {i:Int} (i0:0<=i) (hi:i<l.length):rd (lfL l) i=lfC l i:=by
 unfold lfL;rw[vR i0 (by rw[bI];exact hi),xJ i0 hi]
theorem mW (hl:aR l):(lfL l).Perm (iota (lfL l).length):=bCb hl
theorem YW (hl:aR l) {i:Int} (i0:0<=i) (hi:i<l.length): ∀b:Nat,jI l b (pit (lfL l) b i)=i
 |0=>rfl
 |b+1=>by
  have h:=tZ (mW hl) i0 (by rw[oH];exact hi) b;rw[oH] at h;rw[jI,pit,bGe h.1 h.2,bGj hl h.1 h.2];exact YW hl i0 hi b
section
variable {i:Int} {c:List Int} (hl:aR l) (i0:0<=i) (hi:i<l.length) (hc:Ring (lfL l) i c)
include hl i0 hi hc
theorem xH {b:Nat} (hb:b<=c.length):jI l b i=pit (lfL l) (c.length-b) i:=by
 have h:=YW hl (tZ (mW hl) i0 (by rw[oH];exact hi) (c.length-b)).1 (by have:=(tZ (mW hl) i0 (by rw[oH];exact hi) (c.length-b)).2;rw[oH] at this;exact this) b;rw[<-aIn,show c.length-b+b=c.length by omega,hc.close] at h;exact h
theorem KF:jI l c.length i=i:=by
 rw[xH hl i0 hi hc (di _),za];rfl
theorem XY:Per (U l i) c.length:=λd=>by
 rw[vz,<-wW,KF hl i0 hi hc]
theorem WG {d:Nat} (hd:d<c.length):rd (kR l c) d=U l i d:=by
 have h1:rd (kR l c) d=rd l (rd c ((c.length-1-d:Nat):Int)):=by
  unfold kR;rw[vR G (by rw[qh];omega)];congr 1;rw[iL (by rw[qh];exact hd),Em,iL G]
 have h2:U l i d=rd l (jI l (d+1) i):=by
  have:=wW (l:=l) i d 0;rw[qm,wV] at this;rw[<-this,oM i d 1];rfl
 rw[h1,h2,hc.at_ _ G,xH hl i0 hi hc G,show c.length-(d+1)=c.length-1-d by omega]
theorem JH:om (kR l c)=U l i:=by
 funext d;have hp:=hc.pos
 have h1:om (kR l c) d=rd (kR l c) ((d%c.length:Nat):Int):=by
  unfold om rd;rw[nG,cu]
 rw[h1,WG hl i0 hi hc (yw _ hp)];exact(XY hl i0 hi hc).mod d
theorem KG {r:Nat} (r0:0<r) (hr:r<c.length):i<jI l r i:=by
 rw[xH hl i0 hi hc G];have h1:=hc.least _ (bN (L:=c) (k:=((c.length-r:Nat):Int)) G G);rw[hc.at_ _ G] at h1;rcases bi i (pit (lfL l) (c.length-r) i) with g|g
 ·exact g
 ·exfalso
  have e:rd c ((c.length-r:Nat):Int)=rd c ((0:Nat):Int):=by
   rw[hc.at_ _ G,hc.at_ 0 hc.pos];show _=i;omega
  have:=jX hc.nodup G G G (by have:=hc.pos;omega) e;omega
theorem aSe:sV (kR l c)=true:=by
 rw[oV,nG];refine⟨hc.pos,λr r0 hr=> ?_⟩;have hot:=KG hl i0 hi hc r0 hr;have cg:=uA hl r i0 hi;have hnl:=aYo hl i0 (Da hot) cg.2;have dv:=aRr hl i0 hi (b:=r) G
 have bc:Lt (U l i) (U l (jI l r i)):=by
  rcases EP (U l i) (U l (jI l r i)) with a|a|a
  ·exact a
  ·exact absurd a dv
  ·exact absurd a hnl
 obtain⟨d,h1,h2⟩:=bc;have Tl: ∀e,U l (jI l r i) e=U l i (r+e):=λe=>wW i r e;rw[Tl] at h2
 have hdm:d<c.length-r:=by
  rcases fe d (c.length-r) with g|g
  ·exact g
  ·exfalso;have pn:=XY hl i0 hi hc;have Om:=KG hl i0 hi hc (r:=c.length-r) G G;have Xv:=uA hl (c.length-r) i0 hi;refine aYo hl i0 (Da Om) Xv.2 ⟨d-(c.length-r),λe he=> ?_,?_⟩
   ·rw [wW];have:=h1 (c.length-r+e) G;rw[this,Tl,show r+(c.length-r+e)=e+c.length by omega,pn]
   ·rw [wW,show c.length-r+(d-(c.length-r))=d by omega];rw[show r+d=(d-(c.length-r))+c.length by omega,pn] at h2;exact h2
 rw[pM _ _ (by rw[ay,nG];omega),ay,nG]
 have bc: ∀e,e<c.length->lt (kR l c) e=U l i e:=λe he=>by
  rw[<-WG hl i0 hi hc he];unfold lt rd;rw[cu]
 refine⟨d,hdm,λe he=> ?_,?_⟩
 ·rw[iU,bc e G,bc (r+e) G,h1 e he,Tl]
 ·rw [iU,bc d G,bc (r+d) G];exact h2
end
end
end Go.Pure
namespace Go.Pure
open Go Go.Eng
theorem LH {w:List Int} {e:Nat} (h:e<w.length):om w e=lt w e:=FW h
theorem aKn {v:List Int} (h:sV v=true) {r:Nat} (r0:0<r) (hr:r<v.length): ∃d,d<v.length-r/\(∀e,e<d->lt v e=lt v (r+e))/\lt v d<lt v (r+d):=by
 have:=((oV v).1 h).2 r r0 hr;rw[pM _ _ (by rw[ay];omega),ay] at this;obtain⟨d,h1,h2,h3⟩:=this;refine⟨d,h1,λe he=> ?_,?_⟩
 ·rw[h2 e he,iU]
 ·rwa[iU] at h3
theorem longer {w v:List Int} (hw:0<w.length) (hv:sV v=true) (hlen:w.length<v.length) (Fc: ∀e,e<w.length->lt v e=lt w e):Lt (om w) (om v):=by
 obtain⟨d,h1,h2,h3⟩:=aKn hv hw hlen;have pn:=rJ w
 have agr: ∀e,e<w.length+d->lt v e=om w e:=by
  intro e
  induction e using Nat.strongRecOn with
  | ind e ih=>
   intro he;rcases fe e w.length with g|g
   ·rw[Fc e g,LH g]
   ·have e1:=h2 (e-w.length) G;rw[show w.length+(e-w.length)=e by omega] at e1;have e2:=pn (e-w.length);rw[show e-w.length+w.length=e by omega] at e2;rw[<-e1,e2];exact ih (e-w.length) G G
 refine⟨w.length+d,λf hf=> ?_,?_⟩
 ·rw[LH (w:=v) G,agr f hf]
 ·rw [LH (w:=v) G];have e1:=pn d;rw[vz d w.length] at e1;rw[e1,<-agr d G];exact h3
theorem aJa: ∀(ws:List (List Int)) (m:Nat),0<m->m<=ws.flatten.length-> ∃v∈ws,∃r,r<m/\m<=r+v.length/\ ∀e,e<v.length->lt ws.flatten (r+e)=lt v e
 |[],m,h0,h=>by simp at h;omega
 | w::ws,m,h0,h=>by
  rw[si,ah] at h;rcases fe w.length m with g|g
  ·obtain ⟨v,hv,r,h1,h2,h3⟩:=aJa ws (m-w.length) G G;refine⟨v,ek _ hv,w.length+r,G,G,λe he=> ?_⟩;rw[si,<-h3 e he];unfold lt;rw[ai,ai,ig G,show w.length+r+e-w.length=r+e by omega]
  ·refine ⟨w,cD,0,h0,G,λe he=> ?_⟩;rw[si,ng];unfold lt;rw[ai,ai,ji he]
theorem aOc {w:List Int} {ws:List (List Int)} (hw:sV w=true) (hws: ∀v∈ws,sV v=true) (ph: ∀v∈ws,¬Lt (om w) (om v)):iM (w++ws.flatten) (w++ws.flatten).length=w.length:=by
 have ee:=((oV w).1 hw).1;refine EO (by rw[Ex];exact hw;rfl) _ cD λm h1 h2=> ?_;cases hb:sV ((w++ws.flatten).take m) with
 |false=>rfl
 | true=>
  exfalso;rw[ah] at h2;obtain⟨v,hv,r,r1,r2,r3⟩:=aJa ws (m-w.length) G G;have Yc:((w++ws.flatten).take m).length=m:=by rw[ax,ah];omega
  obtain⟨d,d1,d2,d3⟩:=aKn hb (r:=w.length+r) G G;rw[Yc] at d1;have hs: ∀e,e<m->lt ((w++ws.flatten).take m) e=lt (w++ws.flatten) e:=λe he=>lt_take he
  have j9: ∀e,e<w.length->lt (w++ws.flatten) e=lt w e:=λe he=>by
   unfold lt;rw[ai,ai,ji he]
  have hsv: ∀e,e<v.length->lt (w++ws.flatten) (w.length+r+e)=lt v e:=λe he=>by
   rw[<-r3 e he];unfold lt;rw[ai,ai,ig G,show w.length+r+e-w.length=r+e by omega]
  have Uw:=hws v hv
  have q2: ∀e,e<d->lt (w++ws.flatten) e=lt v e:=λe he=>by
   have:=d2 e he;rwa[hs _ G,hs _ G,hsv e G] at this
  have q3:lt (w++ws.flatten) d<lt v d:=by rwa[hs _ G,hs _ G,hsv d G] at d3
  rcases fe d w.length with g|g
  ·refine ph v hv ⟨d,λe he=> ?_,?_⟩
   ·rw[LH (w:=w) G,LH (w:=v) G,<-q2 e he,j9 e G]
   ·rw [LH (w:=w) g,LH (w:=v) G,<-j9 d g];exact q3
  ·exact ph v hv (longer ee Uw G λe he=>by rw[<-q2 e G,j9 e he])
theorem aJf: ∀ {ws:List (List Int)},(∀v∈ws,sV v=true)->ws.Pairwise (λa b=> ¬Lt (om a) (om b))->dM ws.flatten=ws.map λw=>(w.length:Int)
 |[],_,_=>MJ rfl
 |w::ws,hl,hp=>by
  obtain⟨h1,h2⟩:=jb.1 hp;have hw:=hl w cD;have ee:=((oV w).1 hw).1;have hf:=aOc hw (λv hv=>hl v (ek _ hv)) h1;rw[si,EU (by rw[ah];omega),hf,Ev,lm,aJf (λv hv=>hl v (ek _ hv)) h2];rfl
theorem aEe (ws:List (List Int)) (k:Nat):ps (ws.map λw=>(w.length:Int)) k=((ws.take k).flatten.length:Int):=by
 unfold ps;rw[cu,<-Cg]
 induction ws.take k with
 |nil=>rfl
 |cons w l ih=>rw[lm,yj,ih,si,ah];omega
theorem aOt (ws:List (List Int)):gM ws.flatten (ws.map λw=>(w.length:Int)) ws.length=ws:=by
 refine wz (by rw[tF];omega) λk h1 h2=> ?_;simp only[gM,Bq,List.getElem_range];rw[aEe,cu,iL (by rw[bz];exact h2),Bq,cu]
 have e:ws.flatten=(ws.take k).flatten++(ws[k]++(ws.drop (k+1)).flatten):=by
  conv=>lhs;rw[<-gu k ws,ku h2]
  rw[qg,si]
 rw[e,Ev rfl,Ex rfl]
theorem aPf {ws:List (List Int)} (hl: ∀v∈ws,sV v=true) (hp:ws.Pairwise (λa b=> ¬Lt (om a) (om b))):bws ws.flatten=ws:=by
 unfold bws;rw[aJf hl hp,bz];exact aOt ws
end Go.Pure
namespace Go.Pure
open Go Go.Eng
section
variable {l:List Int}
def jH (l:List Int):List (List Int):=((eZ (lfL l)).reverse).map (kR l)
theorem aGx (l:List Int):backL l (eZ (lfL l))=(jH l).flatten:=rfl
theorem AZ (hl:aR l) {c:List Int} (hc:c∈eZ (lfL l)): ∃i:Int,(0<=i/\i<l.length)/\Ring (lfL l) i c/\rd c 0=i:=by
 obtain⟨i,h,r⟩:=(aFy (mW hl)).ring c hc;rw[oH] at h;exact⟨i,h,r,r.at_ 0 r.pos⟩
theorem aLu (hl:aR l): ∀v∈jH l,sV v=true:=λv hv=>by
 obtain⟨c,hc,rfl⟩:=iy.1 hv;obtain⟨i,h,r,_⟩:=AZ hl (Bt.1 hc);exact aSe hl h.1 h.2 r
theorem aDv (hl:aR l):(jH l).Pairwise (λa b=> ¬Lt (om a) (om b)):=by
 unfold jH;rw[Ie];refine List.pairwise_reverse.2 (iw.2 ?_);refine ol (λ{c d} hc hd h=> ?_) (aFy (mW hl)).heads;obtain⟨i,hi,r,e⟩:=AZ hl hc;obtain⟨k,hk,q,f⟩:=AZ hl hd;rw[JH hl hi.1 hi.2 r,JH hl hk.1 hk.2 q];exact aYo hl hi.1 G hk.2
theorem NK (hl:aR l):bws (backL l (eZ (lfL l)))=jH l:=by
 rw[aGx];exact aPf (aLu hl) (aDv hl)
theorem bJf {ws:List (List Int)} {w:Int} {j:Nat}:tw ws (w,(j:Int))=λd=>om (rdl ws w) (j+d):=by
 funext d;unfold tw om;simp only[cu]
theorem QM (hl:aR l) {i:Int} {c:List Int} (i0:0<=i) (hi:i<l.length) (hc:Ring (lfL l) i c):((List.range c.length).map λj=>jI l j i).Perm c:=by
 have ee:=hc.pos
 have w8: ∀j,j<c.length->jI l j i=rd c (((c.length-j)%c.length:Nat):Int):=λj hj=>by
  rw[xH hl i0 hi hc G];rcases dz j with z|z
  ·subst z;rw[ze,hc.close,Nat.mod_self,hc.at_ 0 ee];rfl
  ·rw[lc G,hc.at_ _ G]
 refine qJ ?_ (λx hx=> ?_) cD
 ·refine iw.2 (ol (λ{a b} ha hb vd e=> ?_) xc);have ha:=jq.1 ha;have hb:=jq.1 hb;rw[w8 a ha,w8 b hb] at e;have h1:=yw (c.length-a) ee;have h2:=yw (c.length-b) ee;have:=jX hc.nodup G G G G e;have e3:(c.length-a)%c.length=(c.length-b)%c.length:=G
  refine vd ?_;rcases dz a with z|z
  ·rcases dz b with y|y
   ·omega
   ·rw[z,ze,Nat.mod_self,lc G] at e3;omega
  ·rcases dz b with y|y
   ·rw[y,ze,Nat.mod_self,lc G] at e3;omega
   ·rw[lc G,lc G] at e3;omega
 ·obtain ⟨j,hj,rfl⟩:=iy.1 hx;have hj:=jq.1 hj;have h1:=yw (c.length-j) ee;rw[w8 j hj];exact bN G G
theorem yL (hl:aR l): ∀k:Nat,k<=(eZ (lfL l)).length->((fT (jH l) k).map (tw (jH l))).Perm (((((eZ (lfL l)).reverse).take k).flatten).map (U l))
 |0,_=> .refl _
 | k+1,hk=>by
  have ih:=yL hl k G;have bc:k<(eZ (lfL l)).reverse.length:=by rw[qh];omega
  rw[fT,jo,su,av bc,qg,jo];refine ih.append ?_;simp only[Cs,si,Ic,jk];have fi:(eZ (lfL l)).reverse[k]∈eZ (lfL l):=Bt.1 (lu bc)
  have Ls:rdl (jH l) (k:Int)=kR l (eZ (lfL l)).reverse[k]:=by
   unfold rdl jH;rw[cu,ai,sj,av bc];rfl
  generalize (eZ (lfL l)).reverse[k]=c at fi Ls;obtain⟨i,hi,r,_⟩:=AZ hl fi;have h1:=(QM hl hi.1 hi.2 r).map (U l);refine List.Perm.trans (.of_eq ?_) h1;rw[Ls,nG];unfold turnsOf;rw[yz,yz];refine Cc λj _=> ?_;show tw (jH l) ((k:Int),(j:Int))=U l (jI l j i);rw[bJf,Ls,JH hl hi.1 hi.2 r];funext d;rw[wW]
theorem EC (hl:aR l) {q:Int} (q0:0<=q) (hq:q<l.length): ∃m:Nat,0<m/\jI l m q=q:=by
 have hp:=EY (mW hl);obtain⟨c,hc,hqc⟩:=Br.1 (hp.symm.subset (bE.2 ⟨q0,by rw[oH];exact hq⟩));obtain⟨i,hi,r,_⟩:=AZ hl hc;obtain⟨j,hj,e⟩:=iy.1 ((QM hl hi.1 hi.2 r).symm.subset hqc);refine⟨c.length,r.pos,?_⟩;rw[<-e,<-oM,vz,oM,KF hl hi.1 hi.2 r]
theorem YX {q:Int} {m:Nat} (h:jI l m q=q): ∀t:Nat,jI l (t*m) q=q
 |0=>by rw[Dm];rfl
 |t+1=>by rw[Fj,oM,YX h t,h]
theorem aHc {q:Int} {m t:Nat} (hm:jI l m q=q) (m0:0<m) (t0:0<t):U l q (m*t-1)=rd l q:=by
 have h:=YX hm t;rw[Am] at h;have ee:0<m*t:=Jo m0 t0;have h2:=wW (l:=l) q (m*t-1) 0;rw[qm,wV] at h2;rw[<-h2];have h3:=oM (l:=l) q (m*t-1) 1;rw[show m*t-1+1=m*t by omega,h] at h3;rw[show phi l (jI l (m*t-1) q)=jI l 1 (jI l (m*t-1) q) from rfl,<-h3]
theorem aKx (hl:aR l) {T:List (Int × Int)} (hp:T.Perm (fT (bws (backL l (eZ (lfL l)))) (bws (backL l (eZ (lfL l)))).length)) (ho:T.Pairwise (jB (bws (backL l (eZ (lfL l)))))):T.map (lastB (bws (backL l (eZ (lfL l)))))=l:=by
 rw[NK hl] at hp ho ⊢;have hlen:(jH l).length=(eZ (lfL l)).length:=by unfold jH;rw[bz,qh]
 have h1:(T.map (tw (jH l))).Perm ((iota l.length).map (U l)):=by
  refine(hp.map _).trans ?_;rw[hlen];refine(yL hl _ (di _)).trans ?_;rw[bn (by rw[qh];exact di _)];have hc:=EY (mW hl);rw[oH] at hc;exact(((List.reverse_perm _).flatten).trans hc).map _
 have s1:(T.map (tw (jH l))).Pairwise λa b=> ¬Lt b a:=iw.2 (ho.imp λ{t u} h bc=>by
  rcases h with h|h
  ·exact h.asymm bc
  ·exact bc.not_eq λi=>(h.1 i).symm)
 have s2:((iota l.length).map (U l)).Pairwise λa b=> ¬Lt b a:=iw.2 (ol (λ{i k} hi hk h=>by
  have hi:=bE.1 hi;have hk:=bE.1 hk
  exact aYo hl hi.1 (Da h) hk.2) (BU l.length))
 have same:T.map (tw (jH l))=(iota l.length).map (U l):=h1.eq_of_pairwise (λa b _ _ x y=>by
  rcases EP a b with z|z|z
  ·exact absurd z y
  ·exact funext z
  ·exact absurd z x) s1 s2
 have Ww:T.length=l.length:=by
  have:=bq List.length same;rwa[bz,bz,bI] at this
 refine bQ (by rw[bz];exact Ww) λq q0 q1=> ?_;rw[bz] at q1;rw[bAg q0 q1];have hv:=xO.1 (hp.subset (kN (l:=T) q0 q1))
 have hU:tw (jH l) (rdp T q)=U l q:=by
  have e1:(T.map (tw (jH l)))[q.toNat]? =some (tw (jH l) (rdp T q)):=by
   rw[sj,av G];unfold rdp;rw[ai,av G];rfl
  have e2:((iota l.length).map (U l))[q.toNat]? =some (U l q):=by
   rw[sj,av (by rw[bI];omega)];have:=xJ (n:=l.length) q0 G;rw[fG q0 (by rw[bI];omega)] at this;rw[this];rfl
  rw[same,e2] at e1;exact(jc e1).symm
 obtain⟨m,m0,hm⟩:=EC hl q0 (by omega:q<l.length);obtain⟨a1,a2,a3,a4⟩:=hv;have wb:0<(rdl (jH l) (rdp T q).1).length:=G
 generalize My:(rdl (jH l) (rdp T q).1).length=wl at wb a4;have rv:U l q (m*wl-1)=rd l q:=aHc hm m0 wb;rw[<-rv,<-hU];have ee:0<m*wl:=Jo m0 wb;unfold lastB tw rd;rw[My];congr 1;obtain⟨j,hj⟩: ∃j:Nat,(rdp T q).2=j:=⟨(rdp T q).2.toNat,G⟩;rw[hj,cu,show(j:Int)+(wl:Int)-1=((j+wl-1:Nat):Int) by omega,<-Ah,cu]
 have e:j+(m*wl-1)=(j+wl-1)+wl*(m-1):=by
  obtain⟨m',rfl⟩: ∃m',m=m'+1:=⟨m-1,G⟩;rw[Fj,Nat.add_sub_cancel,Am wl m'];omega
 rw[e,Nat.add_mul_mod_self_left]
end
def aJz:List Int:=(List.range 256).map λc:Nat=>(c:Int)
theorem QW {x:Int}:x∈aJz↔0<=x/\x<256:=by
 unfold aJz;rw[iy];constructor
 ·rintro ⟨c,hc,rfl⟩;have:=jq.1 hc;omega
 ·intro h;exact⟨x.toNat,jq.2 G,G⟩
theorem aCb:aJz.Nodup:=iw.2 (List.Pairwise.imp (λh e=>h G) xc)
def VS:Nat->List (List Int)
 |0=>[[]]
 |n+1=>aJz.flatMap λc=>(VS n).map λw=>c::w
theorem oN: ∀ {n:Nat} {w:List Int},w∈VS n↔w.length=n/\aR w
 |0,w=>by
  rw[VS,ib];exact⟨λh=>by subst h;exact⟨rfl,λx hx=>by cases hx⟩,λh=>ed h.1⟩
 | n+1,w=>by
  rw[VS,Ig];constructor
  ·rintro ⟨c,hc,hw⟩;obtain⟨v,hv,rfl⟩:=iy.1 hw;have hv:=oN.1 hv;refine⟨by simp[hv.1],λx hx=> ?_⟩;rcases jm.1 hx with rfl|hx
   ·exact QW.1 hc
   ·exact hv.2 x hx
  ·rintro ⟨hl,hb⟩;cases w with
   |nil=>simp at hl
   |cons c v=>exact⟨c,QW.2 (hb c cD),iy.2 ⟨v,oN.2 ⟨by simpa using hl,λx hx=>hb x (ek _ hx)⟩,rfl⟩⟩
theorem NR: ∀n:Nat,(VS n).Nodup
 |0=>by rw[VS];exact qa _ _
 |n+1=>by
  rw[VS];refine List.pairwise_flatMap.2 ⟨λc _=>iw.2 ((NR n).imp λh e=>h (List.cons.inj e).2),aCb.imp λ{c d} h x hx y hy e=> ?_⟩;obtain⟨v,_,rfl⟩:=iy.1 hx;obtain⟨w,_,rfl⟩:=iy.1 hy;exact h (List.cons.inj e).1
theorem aYa {l k:List Int} (hl:aR l) (hk:aR k) (hlen:l.length=k.length) (h:backL l (eZ (lfL l))=backL k (eZ (lfL k))):l=k:=by
 have hw:jH l=jH k:=by rw[<-NK hl,<-NK hk,h]
 have all: ∀ {x:List Int},aR x->((fT (jH x) (jH x).length).map (tw (jH x))).Perm ((iota x.length).map (U x)):=λ{x} hx=>by
  have Ux:(jH x).length=(eZ (lfL x)).length:=by unfold jH;rw[bz,qh]
  rw[Ux];refine(yL hx _ (di _)).trans ?_;rw[bn (by rw[qh];exact di _)];have hc:=EY (mW hx);rw[oH] at hc;exact(((List.reverse_perm _).flatten).trans hc).map _
 have srt: ∀ {x:List Int},aR x->((iota x.length).map (U x)).Pairwise λa b=> ¬Lt b a:=λ{x} hx=>iw.2 (ol (λ{i k} hi hk h=>by
  have hi:=bE.1 hi;have hk:=bE.1 hk
  exact aYo hx hi.1 (Da h) hk.2) (BU x.length))
 have h1:=all hl;rw[hw] at h1
 have same:(iota l.length).map (U l)=(iota k.length).map (U k):=(h1.symm.trans (all hk)).eq_of_pairwise (λa b _ _ x y=>by
  rcases EP a b with z|z|z
  ·exact absurd z y
  ·exact funext z
  ·exact absurd z x) (srt hl) (srt hk)
 refine bQ hlen λq q0 q1=> ?_
 have at_: ∀ {x:List Int},q<x.length->((iota x.length).map (U x))[q.toNat]? =some (U x q):=λ{x} hx=>by
  rw[sj,av (by rw[bI];omega)];have:=xJ (n:=x.length) q0 hx;rw[fG q0 (by rw[bI];omega)] at this;rw[this];rfl
 have e:=at_ q1;rw[same,at_ G] at e;have eU:U k q=U l q:=jc e;obtain⟨m,m0,hm⟩:=EC hl q0 q1;obtain⟨m',m0',Ix⟩:=EC hk q0 (by omega:q<k.length);have a:=aHc hm m0 m0';have b:=aHc Ix m0' m0;rw[Am,eU,a] at b;exact b
theorem aPr {s:List Int} (hs:aR s): ∃l:List Int,aR l/\l.length=s.length/\backL l (eZ (lfL l))=s:=by
 have hp:((VS s.length).map λl=>backL l (eZ (lfL l))).Perm (VS s.length):=by
  refine qJ ?_ (λx hx=> ?_) cD
  ·refine iw.2 (ol (λ{a b} ha hb vd e=> ?_) (NR _));have ha:=oN.1 ha;have hb:=oN.1 hb;exact vd (aYa ha.2 hb.2 G e)
  ·obtain ⟨l,hl,rfl⟩:=iy.1 hx;have hl:=oN.1 hl;exact oN.2 ⟨by rw[aPs,aBg (mW hl.2),oH,hl.1],aPt hl.2 _⟩
 obtain⟨l,hl,e⟩:=iy.1 (hp.symm.subset (oN.2 ⟨rfl,hs⟩));have hl:=oN.1 hl;exact⟨l,hl.2,hl.1,e⟩
theorem SG {s:List Int} (hs:aR s) {T:List (Int × Int)} (hp:T.Perm (fT (bws s) (bws s).length)) (ho:T.Pairwise (jB (bws s))):backL (T.map (lastB (bws s))) (eZ (lfL (T.map (lastB (bws s)))))=s:=by
 obtain⟨l,hl,_,e⟩:=aPr hs;subst e;rw[aKx hl hp ho]
end Go.Pure
namespace Go.Pure
open Go Go.Eng
variable {t o:Int} {n k:Nat} {u x y w:List Int}
noncomputable def kW (t o:Int) (n:Nat) (u:List Int) (k:Nat):List Int:=
 (((List.range (chK u.length n)).drop k).map λj=>cB t o ((u.drop (j*n)).take n)).flatten++(bO 0++bO u.length)
theorem aLw (h:chK u.length n<=k):kW t o n u k=bO 0++bO u.length:=by
 unfold kW;rw[xm (by rw[Gu];exact h)];rfl
theorem aDx (h:k<chK u.length n):kW t o n u k=cB t o ((u.drop (k*n)).take n)++kW t o n u (k+1):=by
 unfold kW;rw[ku (by rw[Gu];exact h),lm,si,List.getElem_range,gy]
theorem aOj (t so o sz:Int) (u:List Int):jU t so o sz u=[87,72,82,76,1]++([t,so,o]++(bO sz++kW t o sz.toNat u 0)):=by
 unfold jU kW kQ;rw[De];simp
theorem bHv {m:Nat} (hn:1<=n):k<chK m n↔k*n<m:=by
 unfold chK;rw[Nat.lt_iff_add_one_le,Nat.le_div_iff_mul_le hn,xz,Bl];omega
theorem aR.back (h:aR (x++y)):aR y:=λz hz=>h z (List.mem_append_right _ hz)
theorem aR.front (h:aR (x++y)):aR x:=λz hz=>h z (Bj _ hz)
theorem MK {so sz:Int} (hu:aR u) (hS:u.length<=400) (ht:0<=t/\t<256) (hs:0<=so/\so<256) (ho:0<=o/\o<256) (hz:1<=sz/\sz<=16777216):aR (jU t so o sz u)/\(jU t so o sz u).length<=400000:=by
 have e1:=kJ (t:=t) (o:=o) (n:=sz.toNat) hu G (chK u.length sz.toNat);have e2:chK u.length sz.toNat<=u.length:=VK G;have e3:(2*u.length+22)*chK u.length sz.toNat<=822*400:=Dl G G;have e4:=dV 4 sz G;have e5:=dV 4 (u.length:Int) G;have e6:(bO 0).length=1:=rfl;unfold jU;refine⟨λx hx=> ?_,by simp only[ah,dh,jl];omega⟩;rcases gp.1 hx with hx|hx
 ·rcases gp.1 hx with hx|hx
  ·rcases gp.1 hx with hx|hx
   ·simp only[jh,je,jm,zg,or_false] at hx;omega
   ·exact fM G x hx
  ·exact e1.2 x hx
 ·rcases gp.1 hx with hx|hx
  ·exact fM G x hx
  ·exact fM G x hx
def qW (w:List Int) (n k:Nat):List Int:=(w.drop (k*n)).take n
theorem aXo (w:List Int) (n k:Nat):(qW w n k).length=min n (w.length-k*n):=by unfold qW;rw[ax,ay]
theorem aPc (w:List Int) (n k:Nat):w.take ((k+1)*n)=w.take (k*n)++qW w n k:=by
 unfold qW;rw[xz,Bl,Hq]
theorem aGi (h:aR w) (n k:Nat):aR (qW w n k):=(h.drop _).take _
noncomputable def nC (t o:Int) (b r:List Int):List Int:=(fQ t b).1++(bO (bZ (fQ t b).2 o).length++(fJ (bv (iH b))++(bZ (fQ t b).2 o++r)))
theorem aDy (h:k<chK w.length n):kW t o n w k=bO (qW w n k).length++nC t o (qW w n k) (kW t o n w (k+1)):=by
 rw[aDx h];unfold cB nC qW;simp only[gy]
theorem XL {α:Type} {r:α->α->Prop} (tr: ∀a b c,r a b->r b c->r a c) (a:α): ∀m:List α,m.Pairwise r->(∀b∈m,r a b\/r b a)-> ∃m':List α,m'.Perm (a::m)/\m'.Pairwise r
 |[],_,_=>⟨[a], .refl _,qa _ _⟩
 | b::m,hm,hr=>by
  obtain⟨h1,h2⟩:=jb.1 hm;rcases hr b cD with h|h
  ·exact⟨a::b::m, .refl _,jb.2 ⟨λc hc=>by
    rcases jm.1 hc with rfl|hc
    ·exact h
    ·exact tr _ _ _ h (h1 c hc),hm⟩⟩
  ·obtain ⟨m',hp,hs⟩:=XL tr a m h2 λc hc=>hr c (ek _ hc);refine⟨b::m',(hp.cons b).trans (.swap a b m),jb.2 ⟨λc hc=> ?_,hs⟩⟩;rcases jm.1 (hp.subset hc) with rfl|hc
   ·exact h
   ·exact h1 c hc
theorem XM {α:Type} {r:α->α->Prop} (tr: ∀a b c,r a b->r b c->r a c): ∀l:List α,(l.Pairwise λa b=>r a b\/r b a)-> ∃m:List α,m.Perm l/\m.Pairwise r
 |[],_=>⟨[], .refl _, .nil⟩
 |a::l,h=>by
  obtain⟨h1,h2⟩:=jb.1 h;obtain⟨m,hp,hs⟩:=XM tr l h2;obtain⟨m',ci,ef⟩:=XL tr a m hs λb hb=>h1 b (hp.subset hb);exact⟨m',ci.trans (hp.cons a),ef⟩
theorem aTj {ws:List (List Int)} {t u:Int × Int} (h:t≠u):jB ws t u\/jB ws u t:=by
 rcases EP (tw ws t) (tw ws u) with a|a|a
 ·exact .inl (.inl a)
 ·have hd:t.1≠u.1\/t.2≠u.2:=by
   rcases Int.decEq t.1 u.1 with c|c
   ·exact .inl c
   ·exact .inr λe=>h (Prod.ext c e)
  have:ltI t u\/ltI u t:=by unfold ltI;omega
  rcases this with g|g
  ·exact .inl (.inr ⟨a,g⟩)
  ·exact .inr (.inr ⟨λi=>(a i).symm,g⟩)
 ·exact .inr (.inl a)
theorem OQ (ws:List (List Int)): ∃T:List (Int × Int),T.Perm (fT ws ws.length)/\T.Pairwise (jB ws):=
 XM (r:=jB ws) (λ_ _ _ h g=>LF h g) _ ((vI ws _).imp λh=>aTj h)
end Go.Pure
