/- Own work. -/
import Derived.Tactics
import Derived.Tactics2
import Derived.Defers
import Derived.Laws.Pointers
import Derived.Laws.LoneSync
import Derived.RegionTactic
import Derived.RegionCalls
import Derived.ChangeAlike
import Derived.Lib.MakeNoZero
import Derived.Ground.SlsfProg
import Derived.Shelf.SlSortCmp.NoneTotal
import Derived.Test.YtdbebmmhdefgdaaGreatProg
import Derived.Lib.AppendZeros
import Derived.Maps.AppendAt
import Derived.Test.YtdbebmmhdefgdaaGreatO4
set_option linter.unusedVariables false
set_option linter.unusedSimpArgs false
set_option maxHeartbeats 8000000
namespace Go.Proofs.YtdbebmmhdefgdaaGreat
open Go Go.Eng Go.Pure
open Tryz
set_option maxRecDepth 100000
variable {w:World} {l b:AH} {k:Int} {mu:AF} {sn mv:Nat}
theorem ZF:
  CF 105 #[] w (λv R'=> ∃A c,v=sl A 256 c/\R'=[(ru 5 A 256 c aV)]):=by
 refine fn1 Tryz.func105 Z Z Z ?_;refine wq<|wn Z<|wq<|wa (dD af zb5 Z Z) ?_;rintro _ _⟨am,rfl,rfl⟩;refine bF (v:=sl (GG am) ((256:Int).toNat) ((256:Int).toNat)) Z<|wn Z<|aC<|wq<|wm Z<|wy (aN af Z)<|wm Z<|aA<|aH ?_;refine dM (λ(i:Int) (V:AH)=>[(1,sl (GG am) ((256:Int).toNat) ((256:Int).toNat)),(5,I (((256:Int).toNat:Nat):Int)),(6,I i)]) (λi V=>[(ru 5 (GG am) ((256:Int).toNat) ((256:Int).toNat) V)]) (λi V=>(0<=i)/\(i<=256)/\(V.length=256)/\(∀j:Int,0<=j->j<i->rd V j=j)) (λi V=>(256-i).toNat) ?_ ?_
 ·exact⟨0,List.replicate ((256:Int).toNat) (0:Int),⟨G,G,(Z),(λj h1 h2=>G)⟩,KP⟩
 intro i V ⟨aw,ia,ld,hV⟩;refine wq<|wL Z Z<|aA<|aC<|bA Z (λaq=> ?_) (λaq=> ?_)
 ·refine aI<|aC<|aH<|wq<|wm Z<|wn Z<|aL<|wm Z<|wm Z<|wm Z<|wy (mP ai ay Z)<|wy (aG af sz5 Z Z (rdr 0 Z))<|bV (bD 0 Z sz5 Z Z) ?_;rintro _ _ rfl;refine aA<|aL<|wA Z Z<|wm Z<|aA ?_;exact⟨i+1,upd V i (IntKind.u8.wrap i),⟨G,G,(by rw[aY];exact ld),(eP (f:=λj=>j) aw G hV (nN aw G))⟩,G,KP⟩
 ·refine aU<|wq<|wm Z<|wn Z<|aQ [0] 99 cC Z ?_;refine⟨_,Z,?_⟩;obtain rfl:V=aV:=aKm ld (λj h1 h2=>hV j h1 G);exact⟨_,_,Z,Z⟩
theorem aAw {B:Nat} {w0:World} {R:List Row} {A:AF} {m c:Nat} (hm:m=l.length) (hk:0<=k/\k<l.length) (h2:1<l.length):
  CT 107 #[sl A m c,I k] B w0 ((ru 5 A m c l)::R) (λv R'=>v= .tuple #[]/\R'=(ru 5 A m c (mtf l k))::R):=by
 subst hm;refine fn0 Tryz.func107 Z Z Z ?_;refine wq<|wm Z<|wm Z<|wy (aG af sz5 Z Z (rdr 0 Z))<|wy (aR ay Z Z (rdr 0 Z))<|wn Z<|aC<|bI mixed<|wD 0 Z (aK Z)<|wD 1 Z (dK af sz5 Z Z)<|wD 2 Z (aK Z)<|wD 3 Z (aK Z)<|wD 4 Z (dQ af sz5 Z Z (rdr 0 Z)) ?_;refine wC 5 Z (XI (lo:=1) 0 Z af sz5 Z Z Z Z G (RdC.toI (h:=(k).toNat) (rdr 0 Z) cG)) ?_;rintro _ _⟨rfl,rfl⟩;refine⟨.inl cA,?_⟩;refine wN<|aL<|wm Z<|wm Z<|wy (aG af sz5 Z Z (rdr 0 Z))<|bV (bD 0 Z sz5 Z Z) ?_;rintro _ _ rfl;refine aA ?_
 skip
 rw[bIq hk.1 hk.2];exact⟨Z,Z⟩
theorem WK {ap:AF} {ar ao:Nat} {u:AH} {c:Int} (ac:Rd w ap ar ao 1 (ints .u8 u)) (an:aP u) (hc:0<=c/\c<256) (hm:c∈u):
  CF 106 #[sl ap ar ao, .int .u8 c] w (λv R'=>v=I (idx u c)):=by
 obtain rfl:=ac.lenI;refine fn1 Tryz.func106 Z Z Z ?_;have li:=ac.max;refine wq<|wn Z<|wq<|wm Z<|wm Z<|wa (aDw Tryz.func180 cA cA cA cA Z Z (ac.c _) an hc hm) ?_;rintro _ _⟨rfl,rfl⟩;refine wn Z<|bS ?_;refine⟨_,Z,?_⟩;rfl
theorem SQ (jp:Rd w mu sn mv 1 (ints .u8 b)) (cr:aP b) (hN:b.length<=1000000):
  CF 60 #[sl mu sn mv] w (λv R'=> ∃A c,v=sl A (b.length) c/\R'=[(ru 5 A b.length c (bG aV b))]):=by
 obtain rfl:=jp.lenI;refine fn1 Tryz.func60 Z Z Z ?_;have Jl:=jp.max;refine wq<|wn Z<|wq<|wa (aD bGy Z (Ct.fresh (λw hw=>ZF))) ?_;rintro _ _⟨_,rfl,bm,bl,rfl,rfl⟩;refine wn Z<|wq<|wm Z<|wy (aN af Z)<|wa (dD af zb5 Z Z) ?_;rintro _ _⟨du,rfl,rfl⟩;refine bF (v:=sl (GG du) b.length b.length) Z<|wn Z<|aC<|wq<|wm Z<|wy (aN af Z)<|wm Z<|aA<|aH ?_;refine fA (λ(i:Int) (V:AH) (U:AH)=>[(3,sl bm 256 bl),(4,sl (GG du) b.length b.length),(12,sl mu b.length mv),(13,I (b.length:Int)),(14,I i)]) (λi V U=>[(ru 5 (GG du) b.length b.length U),(ru 5 bm 256 bl V)]) (λi V U=>(0<=i)/\(i<=b.length)/\(V=uZ aV (b.take i.toNat))/\(U.length=b.length)/\(∀j:Int,0<=j->j<i->rd U j=rd (bG aV b) j)) (λi V U=>(b.length-i).toNat) ?_ ?_
 ·exact⟨0,aV,List.replicate b.length (0:Int),⟨G,G,(Z),(by rw[bu]),(λj h1 h2=>G)⟩,KP⟩
 intro i V U ⟨aw,ia,hV,Cd,hU⟩;have Uo:V.Perm aV:=by rw[hV];exact ZE cr _
 have Mp:=FC Uo;have tj:=cr.rd i;have sq:=Mp.2.2 _ tj.1 tj.2;refine wq<|wL Z Z<|aA<|aC<|bA Z (λaq=> ?_) (λaq=> ?_)
 ·refine aI<|aC<|aH<|wq<|wm Z<|wy (aG af sz5 Z Z (jp.c _))<|wy (aR ay Z Z (jp.c _))<|wg Z<|wn Z<|wq<|wm Z<|wm Z ?_;refine wa (aD bPn Z (Ct.quiet (λw hw=>WK ((rdr 1 Z) w hw) Mp.2.1 tj sq.1))) ?_;rintro _ _⟨rfl,rfl⟩;refine wn Z<|wq<|wm Z<|wm Z<|wm Z<|wy (mP ai ay Z)<|wy (aG af sz5 Z Z (rdr 0 Z))<|bV (bD 0 Z sz5 Z Z) ?_;rintro _ _ rfl;refine aA<|aL<|wm Z<|wm Z<|wa (aD bGx Z (Ct.at 1 Z (aAw Mp.1.symm G G))) ?_;rintro _ _⟨rfl,rfl⟩;refine aA<|aL<|wA Z Z<|wm Z<|aA ?_;exact⟨i+1,mtf V (idx V (rd b i)),upd U i (IntKind.u8.wrap (idx V (rd b i))),⟨G,G,(by rw[RU aw G,<-hV]),(by rw[aY];exact Cd),(eP (f:=λj=>rd (bG aV b) j) aw G hU (by rw[aUd aw G,<-hV];exact nN sq.2.1 sq.2.2))⟩,G,KP⟩
 ·refine aU<|wq<|wm Z<|wn Z<|aQ [0] 99 cC Z ?_;refine⟨_,Z,?_⟩;obtain rfl:U=bG aV b:=bM (by rw[Cd,fV]) (λj h1 h2=>hU j h1 G);exact⟨_,_,Z,Z⟩
theorem TY (jp:Rd w mu sn mv 1 (ints .u8 b)) (cr:aP b) (hN:b.length<=1000000):
  CF 111 #[sl mu sn mv] w (λv R'=> ∃A c,v=sl A (b.length) c/\R'=[(ru 5 A b.length c (kU aV b))]):=by
 obtain rfl:=jp.lenI;refine fn1 Tryz.func111 Z Z Z ?_;have Jl:=jp.max;refine wq<|wn Z<|wq<|wa (aD bGy Z (Ct.fresh (λw hw=>ZF))) ?_;rintro _ _⟨_,rfl,bm,bl,rfl,rfl⟩;refine wn Z<|wq<|wm Z<|wy (aN af Z)<|wa (dD af zb5 Z Z) ?_;rintro _ _⟨du,rfl,rfl⟩;refine bF (v:=sl (GG du) b.length b.length) Z<|wn Z<|aC<|wq<|wm Z<|wy (aN af Z)<|wm Z<|aA<|aH ?_;refine fA (λ(i:Int) (V:AH) (U:AH)=>[(3,sl bm 256 bl),(4,sl (GG du) b.length b.length),(11,sl mu b.length mv),(12,I (b.length:Int)),(13,I i)]) (λi V U=>[(ru 5 (GG du) b.length b.length U),(ru 5 bm 256 bl V)]) (λi V U=>(0<=i)/\(i<=b.length)/\(V=IR aV (b.take i.toNat))/\(U.length=b.length)/\(∀j:Int,0<=j->j<i->rd U j=rd (kU aV b) j)) (λi V U=>(b.length-i).toNat) ?_ ?_
 ·exact⟨0,aV,List.replicate b.length (0:Int),⟨G,G,(Z),(by rw[bu]),(λj h1 h2=>G)⟩,KP⟩
 intro i V U ⟨aw,ia,hV,Cd,hU⟩;have Uo:V.Perm aV:=by rw[hV];exact aTd cr _
 have Mp:=FC Uo;have tj:=cr.rd i;have sq:=Mp.2.2 _ tj.1 tj.2;refine wq<|wL Z Z<|aA<|aC<|bA Z (λaq=> ?_) (λaq=> ?_)
 ·refine aI<|aC<|aH<|wq<|wm Z<|wy (aG af sz5 Z Z (jp.c _))<|wy (aR ay Z Z (jp.c _))<|wg Z<|wn Z<|wq<|wm Z<|wm Z ?_;refine wm Z<|wm Z<|wy (aG af sz5 Z Z (rdr 1 Z))<|wy (aR ay Z Z (rdr 1 Z))<|wy (aG af sz5 Z Z (rdr 0 Z))<|bV (bD 0 Z sz5 Z Z) ?_;rintro _ _ rfl;refine aA<|aL<|wm Z<|wm Z<|wy (iK ay ai Z)<|wa (aD bGx Z (Ct.at 1 Z (aAw Mp.1.symm G G))) ?_;rintro _ _⟨rfl,rfl⟩;refine aA<|aL<|wA Z Z<|wm Z<|aA ?_;exact⟨i+1,mtf V (rd b i),upd U i (rd V (rd b i)),⟨G,G,(by rw[aNf aw G,<-hV]),(by rw[aY];exact Cd),(eP (f:=λj=>rd (kU aV b) j) aw G hU (by rw[aUc aw G,<-hV]))⟩,G,KP⟩
 ·refine aU<|wq<|wm Z<|wn Z<|aQ [0] 99 cC Z ?_;refine⟨_,Z,?_⟩;obtain rfl:U=kU aV b:=bM (by rw[Cd,xL]) (λj h1 h2=>hU j h1 G);exact⟨_,_,Z,Z⟩
theorem aNe:
  CF 187 #[] w (λv R'=> ∃A c,v=sl A 256 c/\R'=[(ru 5 A 256 c aV)]):=by
 refine fn1 Tryz.func187 Z Z Z ?_;refine wq<|wn Z<|wq<|dB (R1:=[(ru 5 none 0 0 ([]))]) (Sub.refl _) (λ_ h=>h.nil 5 1)<|wn Z<|aC<|wq<|wn Z<|aH ?_;refine fK (λ(A1:AF) (n1:Nat) (c1:Nat) (acc:AH) (i:Int)=>[(1,sl A1 n1 c1),(2,I i)]) (λA1 n1 c1 acc i=>[(ru 5 A1 n1 c1 acc)]) (λA1 n1 c1 acc i=>(n1=acc.length)/\(0<=i)/\(i<=256)/\(acc=iota i.toNat)) (λA1 n1 c1 acc i=>(256-i).toNat) ?_ ?_
 ·exact⟨none,0,0,[],0,⟨(Z),G,G,(Z)⟩,KP⟩
 intro A1 n1 c1 acc i ⟨cv,aw,ia,ba⟩;have qk:=bq List.length ba;rw[bB] at qk;refine aC<|wq<|wm Z<|wL Z Z<|aA<|bA Z (λaq=> ?_) (λaq=> ?_)
 ·refine aI<|aC<|aH<|aL<|wm Z<|wm Z<|wy (mP ai ay Z)<|wa (bH .u8 [IntKind.u8.wrap i] af zs5 Z Z Z) ?_;rintro _ _⟨bx,rfl,rfl⟩;refine wa (aS 1 Z af zb5 Z Z Z (rdr 0 Z)) ?_;rintro _ _⟨fi,fj,rfl,rfl⟩;refine bF (v:=sl fi (n1+1) fj) Z<|wn Z<|aL<|wm Z<|wA Z Z<|wn Z ?_;exact⟨fi,n1+1,fj,acc++([IntKind.u8.wrap i]),i+1,⟨(by rw[ah,cv];rfl),G,G,(by rw[FW aw,<-ba,nN aw G])⟩,G,SA,λ_ h=>h.sel [1] cC Z⟩
 ·refine aU<|wq<|wm Z<|wn Z<|aQ [0] 99 cC Z ?_;refine⟨_,Z,?_⟩;obtain rfl:i=256:=G
  subst ba;obtain rfl:n1=256:=by rw[cv,bB];rfl
  exact⟨_,_,Z,Z⟩
theorem aGu {io:AF} {mt iz:Nat} (dr:Rd w io mt iz 1 (ints .u8 l)) (hk:0<=k/\k<l.length) (hN:l.length<=1000000):
  CF 188 #[sl io mt iz,I k] w (λv R'=> ∃A c,v=sl A (l.length) c/\R'=[(ru 5 A l.length c (mtf l k))]):=by
 obtain rfl:=dr.lenI;refine fn1 Tryz.func188 Z Z Z ?_;have Nw:=dr.max;refine wq<|wn Z<|aC<|bI mixed<|bQc ?_;refine lK 0 Z cA Z (aK Z) ?_;refine lK 1 Z cA Z (aK Z) ?_;refine lK 2 Z cA Z (aG af sz5 Z Z (dr.c _)) ?_;refine lK 3 Z cA Z (aR ay Z Z (dr.c _)) ?_;refine lK 5 Z cA Z (aK Z) ?_;refine lK 6 Z cA Z (aK Z) ?_;refine lK 7 Z cA Z (dQ af sz5 Z Z (dr.c _)) ?_;refine lK 9 Z cA Z (aK Z) ?_;refine lK 10 Z cA Z (aK Z) ?_;refine lK 11 Z cA Z (bX Z Z) ?_;refine lK 12 Z cA Z (dK af sz5 Z Z) ?_;refine pQ 4 cA ?_;refine EF 4 Z Z (bH .u8 [rd l k] af zs5 Z Z Z) ?_;rintro _ _⟨bx,rfl,rfl⟩;refine⟨λ_ h=>h.sel [] cC Z,?_⟩;refine pQ 8 cA ?_;refine EF 8 Z Z (aS 0 Z af zb5 Z Z Z (RdC.toI (dr.c _) G)) ?_;rintro _ _⟨fi,fj,rfl,rfl⟩;refine⟨λ_ h=>h.sel [] cC Z,?_⟩;refine IK (v:=sl fi (1+((k).toNat)) fj) Z ?_;refine pQ 13 cA ?_;refine EF 13 Z Z (aS 0 Z af zb5 Z Z Z (RdC.fromI (dr.c _) G)) ?_;rintro _ _⟨ef,kc,rfl,rfl⟩;refine⟨λ_ h=>h.sel [] cC Z,?_⟩;refine IK (v:=sl ef ((1+((k).toNat))+(l.length-(k+1).toNat)) kc) Z ?_;refine lK 14 Z cA Z (bC Z) ?_;refine OT cA ?_;refine aQ [0] 99 cC Z ?_;refine⟨_,Z,?_⟩;have e:([rd l k]++l.take k.toNat)++l.drop (k+1).toNat=mtf l k:=by unfold mtf;rw[show(k+1).toNat=k.toNat+1 by omega];rfl
 rw[e];rw[show 1+k.toNat+(l.length-(k+1).toNat)=l.length by omega];exact⟨_,_,Z,Z⟩
theorem LG (jp:Rd w mu sn mv 1 (ints .u8 b)) (cr:aP b) (hN:b.length<=1000000):
  CF 113 #[sl mu sn mv] w (λv R'=> ∃A c,v=sl A (b.length) c/\R'=[(ru 5 A b.length c (bG aV b))]):=by
 obtain rfl:=jp.lenI;refine fn1 Tryz.func113 Z Z Z ?_;have Jl:=jp.max;refine wq<|wn Z<|wq<|wa (aD bOd Z (Ct.fresh (λw hw=>aNe))) ?_;rintro _ _⟨_,rfl,bm,bl,rfl,rfl⟩;refine wn Z<|wq<|dB (R1:=((ru 5 none 0 0 ([]))::(ru 5 bm 256 bl aV)::[])) (Sub.refl _) (λ_ h=>h.nil 5 1)<|wn Z<|aC<|wq<|wn Z<|aH ?_;refine XU (λ(i:Int) (V:AH) (AV:AF) (nV:Nat) (cV:Nat) (A1:AF) (n1:Nat) (c1:Nat) (acc:AH) (Rs:List Row)=>[(0,sl mu b.length mv),(3,sl AV nV cV),(4,sl A1 n1 c1),(5,I i)]) (λi V AV nV cV A1 n1 c1 acc Rs=>((ru 5 A1 n1 c1 acc)::Rs)) (λi V AV nV cV A1 n1 c1 acc Rs=>(0<=i)/\(i<=b.length)/\(V=uZ aV (b.take i.toNat))/\(nV=256)/\(∀(B:Nat) (w0 w:World),Hp B w0 w Rs->Rd w AV nV cV 1 (ints .u8 V))/\(n1=acc.length)/\(acc=bG aV (b.take i.toNat))) (λi V AV nV cV A1 n1 c1 acc Rs=>(b.length-i).toNat) ?_ ?_
 ·exact⟨0,aV,bm,256,bl,none,0,0,[],((ru 5 bm 256 bl aV)::[]),⟨G,G,(Z),(Z),(λB w0 w h=>rdr 0 Z w h),(Z),(Z)⟩,SA,λ_ h=>h.selR (F:=[_,_]) (F':=[_,_]) [0,1] cC Z⟩
 intro i V AV nV cV A1 n1 c1 acc Rs ⟨aw,ia,hV,hnV,Zt,cv,ba⟩;have Uo:V.Perm aV:=by rw[hV];exact ZE cr _
 have Mp:=FC Uo;have tj:=cr.rd i;have sq:=Mp.2.2 _ tj.1 tj.2;have qk:=bq List.length ba;rw[fV,ax] at qk;refine aC<|wq<|wm Z<|wm Z<|wy (aN af Z)<|wL Z Z<|aA<|bA Z (λaq=> ?_) (λaq=> ?_)
 ·refine aI<|aC<|aH<|wq<|wn Z<|aC<|aH ?_;refine fM (λ(k:Int)=>[(0,sl mu b.length mv),(3,sl AV nV cV),(4,sl A1 n1 c1),(5,I i),(6,I k)]) (λk=>((ru 5 A1 n1 c1 acc)::Rs)) (λk=>(0<=k)/\(k<=idx V (rd b i))) (λk=>(idx V (rd b i)-k).toNat) ?_ ?_
  ·exact⟨0,⟨G,(sq.2.1)⟩,KP⟩
  intro k ⟨md,vd⟩;refine aC<|aC<|bI mixed<|wD 0 Z (aK Z)<|wD 1 Z (aK Z)<|wD 2 Z (aG af sz5 Z Z (λ_ h=>Zt _ _ _ (h.right (R':=[_]))))<|wD 3 Z (aR ay Z Z (λ_ h=>Zt _ _ _ (h.right (R':=[_]))))<|wD 4 Z (aK Z)<|wD 5 Z (aK Z)<|wD 6 Z (aG af sz5 Z Z (jp.c _))<|wD 7 Z (aR ay Z Z (jp.c _))<|wD 8 Z (fE Z Z)<|wN<|bA Z (λbp=> ?_) (λbp=> ?_)
  ·refine aI<|aH<|aL<|wm Z<|wA Z Z<|wn Z ?_;exact⟨k+1,⟨G,(aBo sq.1 vd cF)⟩,(by have:=aBo sq.1 vd cF;omega),KP⟩
  ·have Qg:=aWn md vd sq.1 (vk.1 cF);refine aU<|wq<|wm Z<|wm Z<|wy (mP ai ay Z)<|wa (bH .u8 [IntKind.u8.wrap k] af zs5 Z Z Z) ?_;rintro _ _⟨fb,rfl,rfl⟩;refine wa (aS 1 Z af zb5 Z Z Z (rdr 0 Z)) ?_;rintro _ _⟨ef,kc,rfl,rfl⟩;refine bF (v:=sl ef (n1+1) kc) Z<|wn Z<|aL<|wm Z<|wm Z<|wa (aD bOc Z (Ct.fresh (λw hw=>aGu ((λ_ h=>Zt _ _ _ (h.right (R':=[_,_]))) w hw) G G))) ?_;rintro _ _⟨_,rfl,fc,dv,rfl,rfl⟩;refine wn Z<|aL<|wm Z<|wA Z Z<|wn Z ?_;exact⟨i+1,(mtf V k),fc,(V).length,dv,ef,n1+1,kc,acc++([IntKind.u8.wrap k]),((ru 5 fc ((V).length) dv (mtf V k))::Rs),⟨G,G,(by rw[RU aw G,<-hV,<-Qg]),(Mp.1),(λB w0 w h=>rdr 0 Z w h),(by rw[ah,cv];rfl),(by rw[aGa aw G,<-ba,<-hV,<-Qg,nN G G])⟩,G,SA,λ_ h=>h.selR (F:=[_,_,_]) (F':=[_,_]) [2,0] cC Z⟩
 ·refine aU<|wq<|wm Z<|wn Z<|bN (R1:=[(ru 5 A1 n1 c1 acc)]) (λ_ h=>(h.selR (F:=[_]) (F':=[_]) [0] cC Z).left (X:=[_])) ?_;refine⟨_,Z,?_⟩;rw[bg G] at ba;subst ba;obtain rfl:n1=b.length:=by rw[cv,fV]
  exact⟨_,_,Z,Z⟩
end Go.Proofs.YtdbebmmhdefgdaaGreat
namespace Go.Eng
open Go Go.RowKit Go.Pure
section
variable {P:Program} {n:Nd} {B:Nat} {w0:World} {L:Env} {R:List Row} {ty:TypeId}
theorem aIy {id:Nat} {l:List Oper} {Q:fC} {Rc:List Row} (hm:P.follows .mixedOrders=true) (hR: ∀w,Hp B w0 w R->Hp B w0 w Rc) (h:WDc P n B w0 l.toArray Q.nrm l.toArray.size (Array.replicate l.toArray.size false) L R Rc) (hd:yT n.rd l=true:=by exact rfl):W P n B w0 (.region id l.toArray true) Q L R:=by
 intro a w hs hp;refine Jn hm (TZ XK hd _ _ _ _<|zC _ _ _ _ _ (h a _ _ hs (hp.drawn _ (Eu _)) hR (λ_ _ _ h=>h) λ_ _ L' R' ee cm hk=>⟨L',R',ee,cm,hk⟩))
theorem RgR.left {Rs:List Row} {l:List RC} (h:RgR Rs l) (T:List Row):RgR (Rs++T) l:=h.weak λ_ _ _ hw=>hw.left
theorem SlR.nilR (k:IntKind) (Rs:List Row):SlR k Rs [] []:=⟨rfl,λj hj=>by simp at hj⟩
theorem OkB.app {a b:AD} (ha:OkB a) (hb:OkB b):OkB (a++b):=λl hl=>(gp.1 hl).elim (ha l) (hb l)
end
end Go.Eng
namespace Go.Proofs.YtdbebmmhdefgdaaGreat
open Go Go.Eng Go.Pure
open Tryz
set_option maxRecDepth 100000
variable {n i:Int} {acc b:AH} {w:World} {mu:AF} {sn mv:Nat}
theorem QY {m:Int} (h:eF n.toNat=acc++eF m.toNat) (hp:0<m) {d q:Int} (hd:d=(m-1)%2) (hq:q=(m-1)/2):eF n.toNat=(acc++[d])++eF q.toNat:=by
 rw[h,BF G,gy,qc];have e1:(((m.toNat-1)%2:Nat):Int)=d:=G
 have e2:(m.toNat-1)/2=q.toNat:=G
 rw[e1,e2]
theorem RB (h:acc++bT n.toNat (b.drop i.toNat)=bT 0 b) (i0:0<=i) (hi:i<b.length) (n0:0<=n) (hc:rd b i=0):acc++bT (n+1).toNat (b.drop (i+1).toNat)=bT 0 b:=by
 rw[gT i0 hi,bT,df hc] at h;rw[show(n+1).toNat=n.toNat+1 by omega];exact h
theorem BH (h:acc++bT n.toNat (b.drop i.toNat)=bT 0 b) (i0:0<=i) (hi:i<b.length) (hc: ¬rd b i=0):((acc++eF n.toNat)++[rd b i+1])++bT 0 (b.drop (i+1).toNat)=bT 0 b:=by
 rw[gT i0 hi,bT,bz hc] at h;rw[<-h];simp
theorem KU (h:acc++bT n.toNat (b.drop i.toNat)=bT 0 b):acc.length<=b.length:=by
 have h1:=bq List.length h;have h2:=oW b 0;rw[ah] at h1;omega
theorem QX (h0:0<=n):((eF n.toNat).length:Int)<=n:=by
 have:=BG _ _ (di n.toNat);omega
theorem QZ (h0:0<=n/\n<=1000000):
  CF 201 #[I n] w (λv R'=> ∃A c,v=sl A ((eF n.toNat).length) c/\R'=[(ri 3 A ((eF n.toNat).length) c (eF n.toNat))]):=by
 refine fn1 Tryz.func201 Z Z Z ?_;refine wq<|wn Z<|wq<|dB (R1:=[(ri 3 none 0 0 ([]))]) (Sub.refl _) (λ_ h=>h.nil 3 1)<|wn Z<|aC<|aH ?_;refine fK (λ(A1:AF) (n1:Nat) (c1:Nat) (acc:AH) (m:Int)=>[(0,I m),(3,sl A1 n1 c1)]) (λA1 n1 c1 acc m=>[(ri 3 A1 n1 c1 acc)]) (λA1 n1 c1 acc m=>(n1=acc.length)/\(0<=m)/\(eF n.toNat=acc++eF m.toNat)/\(acc.length+m<=n)) (λA1 n1 c1 acc m=>m.toNat) ?_ ?_
 ·exact⟨none,0,0,[],n,⟨(Z),G,(Z),(by show((0:Nat):Int)+n<=n;omega)⟩,KP⟩
 intro A1 n1 c1 acc m ⟨cv,px,hT,hL⟩;refine aC<|wq<|wm Z<|wy (dE Z Z)<|aA<|bA Z (λaq=> ?_) (λaq=> ?_)
 ·refine aI<|aC<|aH<|aL<|wm Z<|wm Z<|wS Z Z<|wy (uV Z Z)<|wa (bH .i64 [(m-1)%2] aa zs3 Z Z Z) ?_;rintro _ _⟨bx,rfl,rfl⟩;refine wa (aS 1 Z aa zb3 Z Z Z (rdr 0 Z)) ?_;rintro _ _⟨fi,fj,rfl,rfl⟩;refine bF (v:=sl fi (n1+1) fj) Z<|wn Z<|aL<|wm Z<|wS Z Z<|wy (EP Z Z G G G)<|wn Z ?_;exact⟨fi,n1+1,fj,acc++([(m-1)%2]),(m-1)/2,⟨(by rw[ah,cv];try rfl),G,(QY hT G G G),(by rw[ah,gq];omega)⟩,G,SA,λ_ h=>h.sel [1] cC Z⟩
 ·refine aU<|wq<|wm Z<|wn Z<|aQ [0] 99 cC Z ?_;refine⟨_,Z,?_⟩;obtain rfl:m=0:=G
  have e:eF n.toNat=acc:=by rw[hT];exact jk _
  rw[e];obtain rfl:=cv;exact⟨_,_,Z,Z⟩
theorem zJ (h0:0<=n/\n<=1000000):
  CF 259 #[I n] w (λv R'=> ∃A c,v=sl A ((eF n.toNat).length) c/\R'=[(ri 3 A ((eF n.toNat).length) c (eF n.toNat))]):=by
 refine fn1 Tryz.func259 Z Z Z ?_;refine wq<|wn Z<|wq<|dB (R1:=[(ri 3 none 0 0 ([]))]) (Sub.refl _) (λ_ h=>h.nil 3 1)<|wn Z<|aC<|aH ?_;refine fK (λ(A1:AF) (n1:Nat) (c1:Nat) (acc:AH) (m:Int)=>[(0,I m),(3,sl A1 n1 c1)]) (λA1 n1 c1 acc m=>[(ri 3 A1 n1 c1 acc)]) (λA1 n1 c1 acc m=>(n1=acc.length)/\(0<=m)/\(eF n.toNat=acc++eF m.toNat)/\(acc.length+m<=n)) (λA1 n1 c1 acc m=>m.toNat) ?_ ?_
 ·exact⟨none,0,0,[],n,⟨(Z),G,(Z),(by show((0:Nat):Int)+n<=n;omega)⟩,KP⟩
 intro A1 n1 c1 acc m ⟨cv,px,hT,hL⟩;refine aC<|wq<|wm Z<|wy (dE Z Z)<|aA<|bA Z (λaq=> ?_) (λaq=> ?_)
 ·refine aI<|aH<|wq<|wm Z<|wy (uV Z Z)<|wS Z Z<|wn Z<|wq<|wm Z<|wm Z<|wS Z Z<|wa (bH .i64 [(2-(m%2))-1] aa zs3 Z Z Z) ?_;rintro _ _⟨bx,rfl,rfl⟩;refine wa (aS 1 Z aa zb3 Z Z Z (rdr 0 Z)) ?_;rintro _ _⟨fi,fj,rfl,rfl⟩;refine bF (v:=sl fi (n1+1) fj) Z<|wn Z<|aL<|wm Z<|wm Z<|wS Z Z<|wy (EP Z Z G G G)<|wn Z ?_;exact⟨fi,n1+1,fj,acc++([(2-(m%2))-1]),(m-(2-(m%2)))/2,⟨(by rw[ah,cv];try rfl),G,(QY hT G G G),(by rw[ah,gq];omega)⟩,G,SA,λ_ h=>h.sel [1] cC Z⟩
 ·refine aU<|wq<|wm Z<|wn Z<|aQ [0] 99 cC Z ?_;refine⟨_,Z,?_⟩;obtain rfl:m=0:=G
  have e:eF n.toNat=acc:=by rw[hT];exact jk _
  rw[e];obtain rfl:=cv;exact⟨_,_,Z,Z⟩
theorem aMm (jp:Rd w mu sn mv 1 (ints .u8 b)) (cr:aP b) (hN:b.length<=1000000):
  CF 129 #[sl mu sn mv] w (λv R'=> ∃A c,v=sl A ((bT 0 b).length) c/\R'=[(ri 3 A ((bT 0 b).length) c (bT 0 b))]):=by
 obtain rfl:=jp.lenI;refine fn1 Tryz.func129 Z Z Z ?_;have Jl:=jp.max;refine wq<|wn Z<|wq<|dB (R1:=[(ri 3 none 0 0 ([]))]) (Sub.refl _) (λ_ h=>h.nil 3 1)<|wn Z<|wq<|wn Z<|aC<|aC ?_;refine aL<|wm Z<|wy (aN af Z)<|wm Z<|aA<|aH ?_;refine mU (λ(A1:AF) (n1:Nat) (c1:Nat) (acc:AH) (i:Int) (m:Int)=>[(3,sl A1 n1 c1),(4,I m),(7,sl mu b.length mv),(8,I (b.length:Int)),(9,I i)]) (λA1 n1 c1 acc i m=>[(ri 3 A1 n1 c1 acc)]) (λA1 n1 c1 acc i m=>(n1=acc.length)/\(0<=i)/\(i<=b.length)/\(0<=m)/\(m<=i)/\(acc++bT m.toNat (b.drop i.toNat)=bT 0 b)) (λA1 n1 c1 acc i m=>(b.length-i).toNat) ?_ ?_
 ·exact⟨none,0,0,[],0,0,⟨(Z),G,G,G,G,(Z)⟩,KP⟩
 intro A1 n1 c1 acc i m ⟨cv,aw,ia,px,oc,hT⟩;have wc:=KU hT;have hts:=QX px;refine wq<|wL Z Z<|aA<|aC<|bA Z (λaq=> ?_) (λaq=> ?_)
 ·have tj:=cr.rd i;refine aI<|aC<|aH<|wq<|wy (aG af sz5 Z Z (jp.c _))<|wy (aR ay Z Z (jp.c _))<|wn Z<|aC<|wq<|wm Z<|wy (dR Z Z)<|aA ?_;refine bA Z (λbp=> ?_) (λbp=> ?_)
  ·refine wq<|wm Z<|wA Z Z<|wn Z<|aU<|aL<|wA Z Z<|wm Z<|aA ?_;exact⟨A1,n1,c1,acc,i+1,m+1,⟨(by first|exact cv|simp[cv,nk]),G,G,G,G,(RB hT aw G px cF)⟩,G,KP⟩
  ·refine aI<|wq<|wm Z<|wm Z<|wa (aD bGk Z (Ct.fresh (λw hw=>QZ G))) ?_;rintro _ _⟨_,rfl,bm,bl,rfl,rfl⟩;refine wa (aS 1 Z aa zb3 Z Z Z (rdr 0 Z)) ?_;rintro _ _⟨iu,js,rfl,rfl⟩;refine bF (v:=sl iu (n1+((eF (m).toNat).length)) js) Z<|wm Z<|wy (iK ay ai Z)<|wA Z Z<|wa (bH .i64 [(rd b i)+1] aa zs3 Z Z Z) ?_;rintro _ _⟨kp,rfl,rfl⟩;refine wa (aS 2 Z aa zb3 Z Z Z (rdr 0 Z)) ?_;rintro _ _⟨jz,lz,rfl,rfl⟩;refine bF (v:=sl jz ((n1+((eF (m).toNat).length))+1) lz) Z<|wn Z<|aL<|wn Z<|aL<|wA Z Z<|wm Z<|aA ?_;exact⟨jz,(n1+((eF (m).toNat).length))+1,lz,(acc++(eF (m).toNat))++([(rd b i)+1]),i+1,0,⟨(by first|exact cv|simp[cv,nk]),G,G,G,G,(BH hT aw G cF)⟩,G,SA,λ_ h=>h.sel [2] cC Z⟩
 ·refine aU<|wq<|wm Z<|wm Z<|wa (aD bGk Z (Ct.fresh (λw hw=>QZ G))) ?_;rintro _ _⟨_,rfl,br,bw,rfl,rfl⟩;refine wa (aS 1 Z aa zb3 Z Z Z (rdr 0 Z)) ?_;rintro _ _⟨im,ir,rfl,rfl⟩;refine bF (v:=sl im (n1+((eF (m).toNat).length)) ir) Z<|wn Z<|aQ [1] 99 cC Z ?_;refine⟨_,Z,?_⟩;rw[xw G] at hT;have e2:acc++eF m.toNat=bT 0 b:=hT;have e:n1+(eF m.toNat).length=(bT 0 b).length:=by rw[<-e2,ah,cv]
  rw[e,e2];exact⟨_,_,Z,Z⟩
theorem aFb (jp:Rd w mu sn mv 1 (ints .u8 b)) (cr:aP b) (hN:b.length<=1000000):
  CF 211 #[sl mu sn mv] w (λv R'=> ∃A c,v=sl A ((bT 0 b).length) c/\R'=[(ri 3 A ((bT 0 b).length) c (bT 0 b))]):=by
 obtain rfl:=jp.lenI;refine fn1 Tryz.func211 Z Z Z ?_;have Jl:=jp.max;refine wq<|wn Z<|wq<|dB (R1:=[(ri 3 none 0 0 ([]))]) (Sub.refl _) (λ_ h=>h.nil 3 1)<|wn Z<|wq<|wn Z<|aC<|aC ?_;refine aL<|wn Z<|aH ?_;refine mU (λ(A1:AF) (n1:Nat) (c1:Nat) (acc:AH) (i:Int) (m:Int)=>[(0,sl mu b.length mv),(3,sl A1 n1 c1),(4,I m),(5,I i)]) (λA1 n1 c1 acc i m=>[(ri 3 A1 n1 c1 acc)]) (λA1 n1 c1 acc i m=>(n1=acc.length)/\(0<=i)/\(i<=b.length)/\(0<=m)/\(m<=i)/\(acc++bT m.toNat (b.drop i.toNat)=bT 0 b)) (λA1 n1 c1 acc i m=>(b.length-i).toNat) ?_ ?_
 ·exact⟨none,0,0,[],0,0,⟨(Z),G,G,G,G,(Z)⟩,KP⟩
 intro A1 n1 c1 acc i m ⟨cv,aw,ia,px,oc,hT⟩;have wc:=KU hT;have hts:=QX px;refine aC<|wq<|wm Z<|wm Z<|wy (aN af Z)<|wL Z Z<|aA<|bA Z (λaq=> ?_) (λaq=> ?_)
 ·have tj:=cr.rd i;refine aI<|aC<|aH<|aC<|wq<|wm Z<|wm Z<|wy (aG af sz5 Z Z (jp.c _))<|wy (aR ay Z Z (jp.c _))<|wy (dR Z Z)<|aA<|bA Z (λbp=> ?_) (λbp=> ?_)
  ·refine wq<|wm Z<|wA Z Z<|wn Z<|aU<|aL<|wm Z<|wA Z Z<|wn Z ?_;exact⟨A1,n1,c1,acc,i+1,m+1,⟨(by first|exact cv|simp[cv,nk]),G,G,G,G,(RB hT aw G px cF)⟩,G,KP⟩
  ·refine aI<|aC<|aIy (Rc:=[]) mixed (λ_ h=>h.sel [] cC Z) ?_;refine lK 0 Z cA Z (aK Z) ?_;refine lK 1 Z cA Z (aK Z) ?_;refine lK 4 Z cA Z (aK Z) ?_;refine lK 5 Z cA Z (aK Z) ?_;refine lK 6 Z cA Z (aG af sz5 Z Z (jp.c _)) ?_;refine lK 7 Z cA Z (aR ay Z Z (jp.c _)) ?_;refine lK 8 Z cA Z (iK ay ai Z) ?_;refine lK 9 Z cA Z (bX Z Z) ?_;refine aZg 2 10 cA ?_ ?_
   ·refine EF 2 Z Z (aD aXm Z (Ct.fresh (λw hw=>zJ G))) ?_;rintro _ _⟨_,rfl,bm,bl,rfl,rfl⟩;refine⟨λ_ h=>h.sel [] cC Z,?_⟩;refine aZg 3 10 cA ?_ ?_
    ·refine EF 3 Z Z (aS 1 Z aa zb3 Z Z Z (rdr 0 Z)) ?_;rintro _ _⟨iu,js,rfl,rfl⟩;refine⟨λ_ h=>h.sel [] cC Z,?_⟩;refine IK (v:=sl iu (n1+((eF (m).toNat).length)) js) Z ?_;refine pQ 10 cA ?_;refine EF 10 Z Z (bH .i64 [(rd b i)+1] aa zs3 Z Z Z) ?_;rintro _ _⟨kp,rfl,rfl⟩;refine⟨λ_ h=>h.sel [] cC Z,?_⟩;refine pQ 11 cA ?_;refine EF 11 Z Z (aS 2 Z aa zb3 Z Z Z (rdr 0 Z)) ?_;rintro _ _⟨jz,lz,rfl,rfl⟩;refine⟨λ_ h=>h.sel [] cC Z,?_⟩;refine IK (v:=sl jz ((n1+((eF (m).toNat).length))+1) lz) Z ?_;refine lK 12 Z cA Z (bC Z) ?_;refine OT cA ?_;refine aL<|wn Z<|aL<|wm Z<|wA Z Z<|wn Z ?_;exact⟨jz,(n1+((eF (m).toNat).length))+1,lz,(acc++(eF (m).toNat))++([(rd b i)+1]),i+1,0,⟨(by first|exact cv|simp[cv,nk]),G,G,G,G,(BH hT aw G cF)⟩,G,SA,λ_ h=>h.sel [2] cC Z⟩
    ·refine EF 10 Z Z (bH .i64 [(rd b i)+1] aa zs3 Z Z Z) ?_;rintro _ _⟨gl,rfl,rfl⟩;refine⟨λ_ h=>h.sel [] cC Z,?_⟩;refine pQ 3 cA ?_;refine EF 3 Z Z (aS 2 Z aa zb3 Z Z Z (rdr 1 Z)) ?_;rintro _ _⟨ln,co,rfl,rfl⟩;refine⟨λ_ h=>h.sel [] cC Z,?_⟩;refine IK (v:=sl ln (n1+((eF (m).toNat).length)) co) Z ?_;refine pQ 11 cA ?_;refine EF 11 Z Z (aS 2 Z aa zb3 Z Z Z (rdr 0 Z)) ?_;rintro _ _⟨en,es,rfl,rfl⟩;refine⟨λ_ h=>h.sel [] cC Z,?_⟩;refine IK (v:=sl en ((n1+((eF (m).toNat).length))+1) es) Z ?_;refine lK 12 Z cA Z (bC Z) ?_;refine OT cA ?_;refine aL<|wn Z<|aL<|wm Z<|wA Z Z<|wn Z ?_;exact⟨en,(n1+((eF (m).toNat).length))+1,es,(acc++(eF (m).toNat))++([(rd b i)+1]),i+1,0,⟨(by first|exact cv|simp[cv,nk]),G,G,G,G,(BH hT aw G cF)⟩,G,SA,λ_ h=>h.sel [2] cC Z⟩
   ·refine EF 10 Z Z (bH .i64 [(rd b i)+1] aa zs3 Z Z Z) ?_;rintro _ _⟨o7,rfl,rfl⟩;refine⟨λ_ h=>h.sel [] cC Z,?_⟩;refine pQ 2 cA ?_;refine EF 2 Z Z (aD aXm Z (Ct.fresh (λw hw=>zJ G))) ?_;rintro _ _⟨_,rfl,vi,gh,rfl,rfl⟩;refine⟨λ_ h=>h.sel [] cC Z,?_⟩;refine pQ 3 cA ?_;refine EF 3 Z Z (aS 2 Z aa zb3 Z Z Z (rdr 0 Z)) ?_;rintro _ _⟨yq,yr,rfl,rfl⟩;refine⟨λ_ h=>h.sel [] cC Z,?_⟩;refine IK (v:=sl yq (n1+((eF (m).toNat).length)) yr) Z ?_;refine pQ 11 cA ?_;refine EF 11 Z Z (aS 2 Z aa zb3 Z Z Z (rdr 1 Z)) ?_;rintro _ _⟨m9,o0,rfl,rfl⟩;refine⟨λ_ h=>h.sel [] cC Z,?_⟩;refine IK (v:=sl m9 ((n1+((eF (m).toNat).length))+1) o0) Z ?_;refine lK 12 Z cA Z (bC Z) ?_;refine OT cA ?_;refine aL<|wn Z<|aL<|wm Z<|wA Z Z<|wn Z ?_;exact⟨m9,(n1+((eF (m).toNat).length))+1,o0,(acc++(eF (m).toNat))++([(rd b i)+1]),i+1,0,⟨(by first|exact cv|simp[cv,nk]),G,G,G,G,(BH hT aw G cF)⟩,G,SA,λ_ h=>h.sel [2] cC Z⟩
 ·refine aU<|wq<|wm Z<|wm Z<|wa (aD aXm Z (Ct.fresh (λw hw=>zJ G))) ?_;rintro _ _⟨_,rfl,La,Le,rfl,rfl⟩;refine wa (aS 1 Z aa zb3 Z Z Z (rdr 0 Z)) ?_;rintro _ _⟨py,qe,rfl,rfl⟩;refine bF (v:=sl py (n1+((eF (m).toNat).length)) qe) Z<|wn Z<|aQ [1] 99 cC Z ?_;refine⟨_,Z,?_⟩;rw[xw G] at hT;have e2:acc++eF m.toNat=bT 0 b:=hT;have e:n1+(eF m.toNat).length=(bT 0 b).length:=by rw[<-e2,ah,cv]
  rw[e,e2];exact⟨_,_,Z,Z⟩
variable {B g n c:Nat} {w0 w:World} {R:List Row} {A:AF} {C:AH} {ff:Int}
theorem MW (hn:n=C.length) (hs:0<=ff/\ff<C.length):
  CT 202 #[PG g,I ff] B w0 ((rc 256 2 g [sl A n c,I (aW C)])::(ri 3 A n c C)::R) (λv R'=>v=bt/\R'=(rc 256 2 g [sl A n c,I (aW C)])::(ri 3 A n c C)::R):=by
 subst hn;refine fn1 Tryz.func202 Z Z Z ?_;refine wq<|wn Z<|wq<|wm Z<|wy (xK Ej Z Z)<|wm Z<|aB Z Z<|wm Z<|aB Z Z<|wy (Yl.t (iA Z Z) G)<|wy (aT Z Z)<|wm Z ?_;refine aB Z Z<|wm Z<|aB Z Z<|wm Z<|aB Z Z<|wy (aF Z)<|aB Z Z<|wy (yF 0 0 qj dO Z)<|aB Z Z<|wy (yL 0 aa Z Z Z)<|aB Z Z<|wy (aN aa Z)<|aB Z Z<|wy (Yl.t (eD Z Z) G)<|wy (aT Z Z) ?_;refine wn Z<|bN (R1:=((rc 256 2 g [sl A C.length c,I (aW C)])::(ri 3 A C.length c C)::R)) hiZ ?_;exact⟨_,Z,Z,Z⟩
theorem jC:
  CT 133 #[PG g] B w0 ((rc 256 2 g [sl A n c,I (aW C)])::(ri 3 A n c C)::R) (λv R'=>v=I (aW C)/\R'=(rc 256 2 g [sl A n c,I (aW C)])::(ri 3 A n c C)::R):=by
 refine fn1 Tryz.func133 Z Z Z ?_;refine wq<|wn Z<|aC<|wq<|wm Z<|wy (dL Ej Z Z)<|aA<|aJ Z<|aI<|wq<|wm Z ?_;refine wy (aF Z)<|wy (yF 1 1 qj sz3 Z)<|wy (yL 0 ai Z Z Z)<|wn Z<|bN (R1:=((rc 256 2 g [sl A n c,I (aW C)])::(ri 3 A n c C)::R)) hiZ ?_;exact⟨_,Z,Z,Z⟩
theorem kR (hn:n=C.length) (hs:0<=ff/\ff<C.length) (dq:lC C):
  CT 131 #[PG g,I ff] B w0 ((rc 256 2 g [sl A n c,I (aW C)])::(ri 3 A n c C)::R) (λv R'=>v= .tuple #[I (aW (C.take ff.toNat)),I (rd C ff),bt]/\R'=(rc 256 2 g [sl A n c,I (aW C)])::(ri 3 A n c C)::R):=by
 subst hn;refine fn3 Tryz.func131 Z Z Z ?_;refine wq<|wg Z<|wg Z<|wn Z<|aC<|wq<|wm Z<|wm Z<|wa (aD bGj Z ((MW Z G))) ?_;rintro _ _⟨rfl,rfl⟩;refine wy (dI Z)<|aA<|aJ Z<|aI<|aC<|wq<|wm Z<|wy (aF Z)<|wy (yF 0 0 qj dO Z)<|wy (yL 0 aa Z Z Z)<|wm Z<|wy (dQ aa sz3 Z Z (rdr 1 Z))<|wy (aN aa Z)<|wm Z ?_;refine aA<|aH ?_;refine dM (λ(i:Int) (low:Int)=>[(0,PG g),(1,I ff),(4,I low),(18,sl A ((ff).toNat) c),(19,I (((ff).toNat:Nat):Int)),(20,I i)]) (λi low=>((rc 256 2 g [sl A C.length c,I (aW C)])::(ri 3 A C.length c C)::R)) (λi low=>(0<=i)/\(i<=ff)/\(low=aW (C.take i.toNat))) (λi low=>(ff-i).toNat) ?_ ?_
 ·exact⟨0,0,⟨G,G,(Z)⟩,KP⟩
 intro i low ⟨aw,ia,k5⟩;have w7:=sK (i:=i) dq.2.1 aw G;have Pf:=dq.2.2;have mj:=dq.1;have s6:=VJ (l:=C) (k:=ff) (i:=i) aw;refine wq<|wL Z Z<|aA<|aC<|bA Z (λaq=> ?_) (λaq=> ?_)
 ·have s6:=s6 G;refine aI<|aC<|aH<|wq<|wy (aG aa sz3 Z Z (RdC.toI (h:=(ff).toNat) (rdr 1 Z) cG)) ?_;refine wy (aR ai Z Z (RdC.toI (h:=(ff).toNat) (rdr 1 Z) cG)) ?_;refine wn Z<|aL<|wm Z<|wm Z<|wA Z Z<|wn Z<|aL<|wA Z Z<|wm Z<|aA ?_;exact⟨i+1,low+(rd ((C).take (ff).toNat) i),⟨G,G,(by rw[nR aw G,<-k5,VJ aw G])⟩,G,KP⟩
 ·refine aU<|aC<|bI mixed<|wD 0 Z (aK Z)<|wD 1 Z (aK Z)<|wD 2 Z (aF Z)<|wD 3 Z (yF 0 0 qj dO Z)<|wD 4 Z (yL 0 aa Z Z Z)<|wD 5 Z (aK Z)<|wD 6 Z (aG aa sz3 Z Z (rdr 1 Z))<|wD 7 Z (aR ai Z Z (rdr 1 Z))<|wD 8 Z (bC Z)<|wD 9 Z (bC Z)<|wD 10 Z (bC Z)<|wN ?_;refine bN (R1:=((rc 256 2 g [sl A C.length c,I (aW C)])::(ri 3 A C.length c C)::R)) hiZ ?_;refine⟨_,_,_,Z,Z,Z,?_⟩;obtain rfl:i=ff:=G
  rw[<-k5];exact⟨Z,Z⟩
theorem wM:
  CF 200 #[I 258] w (λv R'=> ∃g A c,v=PG g/\R'=[(rc 256 2 g [sl A 258 c,I 258]),(ri 3 A 258 c uN)]):=by
 refine fn1 Tryz.func200 Z Z Z ?_;refine wq<|wn Z<|aC<|wq<|wm Z<|wy (Yl.f (eD Z Z) cC)<|wm Z<|aB Z Z<|wm Z<|aB Z Z<|wy (Yl.f (dE Z Z) cC)<|wy (aO Z Z) ?_;refine aA<|aJ Z<|aI<|wq<|wm Z<|wm Z<|wa (dD aa zb3 Z Z) ?_;rintro _ _⟨am,rfl,rfl⟩;refine bF (v:=sl (GG am) ((258:Int).toNat) ((258:Int).toNat)) Z<|wy (dW (v:= .agg #[sl (GG am) ((258:Int).toNat) ((258:Int).toNat),I 258]) Z (λw=>cA))<|wa (bO (sz:=2) rfl rfl) ?_;rintro _ _⟨bx,rfl,rfl⟩;refine wn Z<|aC<|wq<|wm Z<|wy (aF Z)<|wy (yF 0 0 qj dO Z)<|wy (yL 0 aa Z Z Z)<|wy (aN aa Z)<|wm Z<|aA<|aH ?_;refine dM (λ(i:Int) (V:AH)=>[(3,PG bx),(20,I (((258:Int).toNat:Nat):Int)),(21,I i)]) (λi V=>[(rc 256 2 bx [sl (GG am) ((258:Int).toNat) ((258:Int).toNat),I 258]),(ri 3 (GG am) ((258:Int).toNat) ((258:Int).toNat) V)]) (λi V=>(0<=i)/\(i<=258)/\(V.length=258)/\(∀j:Int,0<=j->j<i->rd V j=1)) (λi V=>(258-i).toNat) ?_ ?_
 ·exact⟨0,List.replicate ((258:Int).toNat) (0:Int),⟨G,G,(bu),(λj h1 h2=>G)⟩,KP⟩
 intro i V ⟨aw,ia,ld,hV⟩;refine wq<|wL Z Z<|aA<|aC<|bA Z (λaq=> ?_) (λaq=> ?_)
 ·refine aI<|aC<|aH<|wq<|wm Z<|wn Z<|aL<|wm Z<|wy (aF Z)<|wy (yF 0 0 qj dO Z)<|wy (yL 0 aa Z Z Z)<|wm Z<|wy (aG aa sz3 Z Z (rdr 1 Z)) ?_;refine bV (bD 1 Z sz3 Z Z) ?_;rintro _ _ rfl;refine aA<|aL<|wA Z Z<|wm Z<|aA ?_;exact⟨i+1,upd V i 1,⟨G,G,(by rw[aY];exact ld),(eP (f:=λ_=>1) aw G hV Z)⟩,G,KP⟩
 ·refine aU<|wq<|wm Z<|wn Z<|bN (R1:=[(rc 256 2 bx [sl (GG am) ((258:Int).toNat) ((258:Int).toNat),I 258]),(ri 3 (GG am) ((258:Int).toNat) ((258:Int).toNat) V)]) hiZ ?_;refine⟨_,Z,?_⟩;obtain rfl:V=uN:=bIr ld (λj h1 h2=>hV j h1 G);exact⟨_,_,_,Z,Z⟩
theorem uF:
  CF 231 #[I 258] w (λv R'=> ∃g A c,v=PG g/\R'=[(rc 277 1 g [sl A 258 c]),(ri 3 A 258 c uN)]):=by
 refine fn1 Tryz.func231 Z Z Z ?_;refine wq<|wn Z<|aC<|wq<|wm Z<|wy (Yl.f (eD Z Z) cC)<|wm Z<|aB Z Z<|wm Z<|aB Z Z<|wy (Yl.f (dE Z Z) cC)<|wy (aO Z Z) ?_;refine aA<|aJ Z<|aI<|wq<|wy (dW (v:= .agg #[sl none 0 0]) Z (λw=>cA))<|wa (bO (sz:=1) rfl rfl) ?_;rintro _ _⟨am,rfl,rfl⟩;refine dB (R1:=[(ri 3 none 0 0 ([])),(rc 277 1 am [sl none 0 0])]) (Sub.refl _) (λ_ h=>h.nil 3 1)<|wn Z<|aC<|wq<|wn Z<|aH ?_;refine fK (λ(i:Int) (A1:AF) (n1:Nat) (c1:Nat) (acc:AH)=>[(0,I 258),(3,PG am),(4,I i)]) (λi A1 n1 c1 acc=>[(ri 3 A1 n1 c1 acc),(rc 277 1 am [sl A1 n1 c1])]) (λi A1 n1 c1 acc=>(0<=i)/\(i<=258)/\(n1=acc.length)/\(acc=List.replicate i.toNat 1)) (λi A1 n1 c1 acc=>(258-i).toNat) ?_ ?_
 ·exact⟨0,none,0,0,[],⟨G,G,(Z),(Z)⟩,KP⟩
 intro i A1 n1 c1 acc ⟨aw,ia,cv,ba⟩;have qk:=bq List.length ba;rw[bu] at qk;refine aC<|wq<|wm Z<|wm Z<|wL Z Z<|aA<|bA Z (λaq=> ?_) (λaq=> ?_)
 ·refine aI<|aC<|aH<|aL<|wm Z<|wm Z<|wy (aF Z)<|wy (yF 0 0 uu dO Z)<|wy (yL 1 aa Z Z Z)<|wa (bH .i64 [1] aa zs3 Z Z Z) ?_;rintro _ _⟨du,rfl,rfl⟩;refine wa (aS 1 Z aa zb3 Z Z Z (rdr 0 Z)) ?_;rintro _ _⟨iu,js,rfl,rfl⟩;refine bF (v:=sl iu (n1+1) js) Z<|wy (aF Z)<|wy (yF 0 0 uu dO Z)<|bV (aX 2 Z Z Z dO Z Z Z Z (au Z)) ?_;rintro _ _ rfl;refine aA<|aL<|wm Z<|wA Z Z<|wn Z ?_;exact⟨i+1,iu,(n1+1),js,acc++([1]),⟨G,G,(by rw[ah,cv];rfl),(by rw[ba,show(i+1).toNat=i.toNat+1 by omega,List.replicate_succ'])⟩,G,SA,λ_ h=>h.sel [1,2] cC Z⟩
 ·refine aU<|wq<|wm Z<|wn Z<|aQ [1,0] 99 cC Z ?_;refine⟨_,Z,?_⟩;obtain rfl:i=258:=G
  subst ba;obtain rfl:n1=258:=by rw[cv,bu];rfl
  exact⟨_,_,_,Z,Z⟩
theorem wK (hn:n=C.length) (hs:0<=ff/\ff<C.length) (dq:lC C):
  CT 205 #[PG g,I ff] B w0 ((rc 256 2 g [sl A n c,I (aW C)])::(ri 3 A n c C)::R) (λv R'=>v=bt/\R'=(rc 256 2 g [sl A n c,I (aW (jX C ff))])::(ri 3 A n c (jX C ff))::R):=by
 subst hn;have mj:=dq.1;have w7:=dq.le.part (i:=ff) hs.1 G;have s7:=dq.up (s:=ff) hs.1 G;have Pf:=dq.2.2;have a7:=s7.1.1;have Uh:=rJ dq.2.1;refine fn1 Tryz.func205 Z Z Z ?_;refine wq<|wn Z<|aC<|wq<|wm Z<|wm Z<|wa (aD bGj Z ((MW Z G))) ?_;rintro _ _⟨rfl,rfl⟩;refine wy (dI Z)<|aA<|aJ Z<|aI<|wq<|wm Z<|wy (aF Z)<|wy (yF 0 0 qj dO Z)<|wy (yL 0 aa Z Z Z)<|wm Z<|wy (aG aa sz3 Z Z (rdr 1 Z))<|wy (aR ai Z Z (rdr 1 Z))<|wA Z Z<|wy (aG aa sz3 Z Z (rdr 1 Z)) ?_;refine bV (bD 1 Z sz3 Z Z) ?_;rintro _ _ rfl;refine aA<|wq<|wm Z<|wy (aF Z)<|wy (yF 1 1 qj sz3 Z)<|wy (yL 0 ai Z Z Z)<|wA Z Z<|wy (aF Z)<|wy (yF 1 1 qj sz3 Z)<|bV (aX 0 Z Z Z sz3 Z Z Z Z (au Z)) ?_;rintro _ _ rfl;refine aA<|aC<|wq<|wm Z<|wy (aF Z)<|wy (yF 1 1 qj sz3 Z)<|wy (yL 0 ai Z Z Z)<|wy (dE Z Z)<|aA<|bA Z (λaq=> ?_) (λaq=> ?_)
 ·refine wq<|wm Z<|wy (aF Z)<|wy (yF 1 1 qj sz3 Z)<|bV (aX 0 Z Z Z sz3 Z Z Z Z (au Z)) ?_;rintro _ _ rfl;refine aA<|wq<|wm Z<|wy (aF Z)<|wy (yF 0 0 qj dO Z)<|wy (yL 0 aa Z Z Z)<|wy (aN aa Z)<|wm Z<|aA<|aH ?_;refine fA (λ(i:Int) (V:AH) (t:Int)=>[(0,PG g),(38,sl A C.length c),(39,I (C.length:Int)),(40,I i)]) (λi V t=>((rc 256 2 g [sl A C.length c,I t])::(ri 3 A C.length c V)::R)) (λi V t=>(0<=i)/\(i<=258)/\(IP (upd C ff (rd C ff+32)) V i t)) (λi V t=>(258-i).toNat) ?_ ?_
  ·exact⟨0,upd C ff ((rd C ff)+32),0,⟨G,G,(NG a7)⟩,KP⟩
  intro i V t ⟨aw,ia,hI⟩;have Sy:=s7.1.part (i:=i) aw;have Pb:=s7.1.half.le.part (i:=i) aw;have ld:=hI.len;have Qp:=hI.sum;refine wq<|wL Z Z<|aA<|aC<|bA Z (λbp=> ?_) (λbp=> ?_)
  ·have Sy:=Sy G;have Pb:=Pb G;have Tk:=hI.left i G G;have Uc:=eT (l:=V) (i:=i) (v:=(rd V i+1)/2) aw G;have hht:0<=t/\t<=65536:=by rw[Qp];exact Pb.1
   refine aI<|aC<|aH<|wq<|wm Z<|wy (aG aa sz3 Z Z (rdr 1 Z))<|wy (aR ai Z Z (rdr 1 Z))<|wg Z<|wn Z<|wq<|wm Z<|wy (aF Z) ?_;refine wy (yF 0 0 qj dO Z)<|wy (yL 0 aa Z Z Z)<|wm Z<|wm Z<|wA Z Z<|wy (EP Z Z G G G)<|wy (aG aa sz3 Z Z (rdr 1 Z))<|bV (bD 1 Z sz3 Z Z) ?_;rintro _ _ rfl;refine aA<|bI mixed<|wD 0 Z (aK Z)<|wD 1 Z (aF Z)<|wD 2 Z (yF 1 1 qj sz3 Z)<|wD 3 Z (yL 0 ai Z Z Z)<|wD 4 Z (aK Z)<|wD 5 Z (aF Z)<|wD 6 Z (yF 0 0 qj dO Z)<|wD 7 Z (yL 0 aa Z Z Z)<|wD 8 Z (aK Z)<|wD 9 Z (aG aa sz3 Z Z (rdr 1 Z))<|wD 10 Z (aR ai Z Z (rdr 1 Z))<|wD 11 Z (bX Z Z)<|wD 12 Z (aF Z) ?_;refine wD 13 Z (yF 1 1 qj sz3 Z)<|oU 14 Z cA (aX 0 Z Z Z sz3 Z Z Z Z (au Z)) ?_;rintro _ _ rfl;refine⟨.inl cA,?_⟩;refine wN<|aL<|wA Z Z<|wm Z<|aA ?_;exact⟨i+1,upd V i (((rd V i)+1)/2),(t+rd (upd V i ((rd V i+1)/2)) i),⟨G,G,(hI.step a7 aw G)⟩,G,KP⟩
  ·refine aU<|wq<|wn Z<|bN (R1:=((rc 256 2 g [sl A C.length c,I t])::(ri 3 A C.length c V)::R)) hiZ ?_;refine⟨_,Z,?_⟩;obtain rfl:i=258:=G
   obtain⟨e1,e2⟩:=hI.done_all a7;have e3:jX C ff=V:=by unfold jX;rw[df G,e1]
   rw[e3,e1,<-e2];exact⟨Z,Z⟩
 ·refine aI<|wq<|wn Z<|bN (R1:=((rc 256 2 g [sl A C.length c,I ((aW C)+32)])::(ri 3 A C.length c (upd C ff ((rd C ff)+32)))::R)) hiZ ?_;refine⟨_,Z,?_⟩;have e3:jX C ff=(upd C ff (rd C ff+32)):=by unfold jX;rw[bz G]
  rw[e3,s7.2];exact⟨Z,Z⟩
theorem mX (hn:n=C.length) (Vw:PM C):
  CT 168 #[PG g] B w0 ((rc 277 1 g [sl A n c])::(ri 3 A n c C)::R) (λv R'=>v=I (aW C)/\R'=(rc 277 1 g [sl A n c])::(ri 3 A n c C)::R):=by
 subst hn;refine fn1 Tryz.func168 Z Z Z ?_;refine wq<|wn Z<|wq<|wn Z<|aC<|wq<|wn Z<|aH ?_;refine dM (λ(i:Int) (t:Int)=>[(0,PG g),(3,I t),(4,I i)]) (λi t=>((rc 277 1 g [sl A C.length c])::(ri 3 A C.length c C)::R)) (λi t=>(0<=i)/\(i<=C.length)/\(t=aW (C.take i.toNat))) (λi t=>(C.length-i).toNat) ?_ ?_
 ·exact⟨0,0,⟨G,G,(Z)⟩,KP⟩
 intro i t ⟨aw,ia,ht⟩;have mj:=Vw.1;have w7:=Vw.part (i:=i) aw;refine aC<|wq<|wm Z<|wm Z<|wy (aF Z)<|wy (yF 0 0 uu dO Z)<|wy (yL 0 aa Z Z Z)<|wy (aN aa Z)<|wL Z Z<|aA<|bA Z (λaq=> ?_) (λaq=> ?_)
 ·have w7:=w7 G;refine aI<|aC<|aH<|aL<|wm Z<|wm Z<|wy (aF Z)<|wy (yF 0 0 uu dO Z)<|wy (yL 0 aa Z Z Z)<|wm Z<|wy (aG aa sz3 Z Z (rdr 1 Z))<|wy (aR ai Z Z (rdr 1 Z))<|wA Z Z<|wn Z ?_;refine aL<|wm Z<|wA Z Z<|wn Z ?_;exact⟨i+1,t+(rd C i),⟨G,G,(by rw[nR aw G,<-ht])⟩,G,KP⟩
 ·refine aU<|wq<|wm Z<|wn Z<|bN (R1:=((rc 277 1 g [sl A C.length c])::(ri 3 A C.length c C)::R)) hiZ ?_;refine⟨_,Z,?_⟩;rw[bg G] at ht;subst ht;exact⟨Z,Z⟩
theorem rW (hn:n=C.length) (hs:0<=ff/\ff<C.length) (dq:lC C):
  CT 170 #[PG g,I ff] B w0 ((rc 277 1 g [sl A n c])::(ri 3 A n c C)::R) (λv R'=>v= .tuple #[I (aW (C.take ff.toNat)),I (rd C ff),bt]/\R'=(rc 277 1 g [sl A n c])::(ri 3 A n c C)::R):=by
 subst hn;refine fn3 Tryz.func170 Z Z Z ?_;refine wq<|wg Z<|wg Z<|wn Z<|aC<|wq<|wm Z<|wy (Yl.f (eD Z Z))<|wm Z<|aB Z Z<|wm Z<|aB Z Z ?_;refine wm Z<|aB Z Z<|wy (aF Z)<|aB Z Z<|wy (yF 0 0 uu dO Z)<|aB Z Z<|wy (yL 0 aa Z Z Z)<|aB Z Z<|wy (aN aa Z)<|aB Z Z<|wy (Yl.f (iA Z Z))<|wy (aO Z Z)<|aA<|aJ Z<|aI ?_;refine wq<|wn Z<|aC<|wq<|wn Z<|aH ?_;refine dM (λ(i:Int) (low:Int)=>[(0,PG g),(1,I ff),(7,I low),(8,I i)]) (λi low=>((rc 277 1 g [sl A C.length c])::(ri 3 A C.length c C)::R)) (λi low=>(0<=i)/\(i<=ff)/\(low=aW (C.take i.toNat))) (λi low=>(ff-i).toNat) ?_ ?_
 ·exact⟨0,0,⟨G,G,(Z)⟩,KP⟩
 intro i low ⟨aw,ia,k5⟩;have mj:=dq.1;have w7:=dq.le.part (i:=i) aw G;refine aC<|wq<|wm Z<|wm Z<|wL Z Z<|aA<|bA Z (λaq=> ?_) (λaq=> ?_)
 ·refine aI<|aC<|aH<|aL<|wm Z<|wm Z<|wy (aF Z)<|wy (yF 0 0 uu dO Z)<|wy (yL 0 aa Z Z Z)<|wm Z<|wy (aG aa sz3 Z Z (rdr 1 Z))<|wy (aR ai Z Z (rdr 1 Z))<|wA Z Z<|wn Z ?_;refine aL<|wm Z<|wA Z Z<|wn Z ?_;exact⟨i+1,low+(rd C i),⟨G,G,(by rw[nR aw G,<-k5])⟩,G,KP⟩
 ·refine aU<|aC<|bI mixed<|wD 0 Z (aK Z)<|wD 1 Z (aK Z)<|wD 2 Z (aF Z)<|wD 3 Z (yF 0 0 uu dO Z)<|wD 4 Z (yL 0 aa Z Z Z)<|wD 5 Z (aK Z)<|wD 6 Z (aG aa sz3 Z Z (rdr 1 Z))<|wD 7 Z (aR ai Z Z (rdr 1 Z))<|wD 8 Z (bC Z)<|wD 9 Z (bC Z)<|wD 10 Z (bC Z)<|wN ?_;refine bN (R1:=((rc 277 1 g [sl A C.length c])::(ri 3 A C.length c C)::R)) hiZ ?_;refine⟨_,_,_,Z,Z,Z,?_⟩;obtain rfl:i=ff:=G
  rw[<-k5];exact⟨Z,Z⟩
theorem uE (hn:n=C.length) (hs:0<=ff/\ff<C.length) (dq:lC C):
  CT 172 #[PG g,I ff] B w0 ((rc 277 1 g [sl A n c])::(ri 3 A n c C)::R) (λv R'=>v=bt/\R'=(rc 277 1 g [sl A n c])::(ri 3 A n c (jX C ff))::R):=by
 subst hn;have mj:=dq.1;have w7:=dq.le.part (i:=ff) hs.1 G;have s7:=dq.up (s:=ff) hs.1 G;have Pf:=dq.2.2;have a7:=s7.1.1;have Uh:=rJ dq.2.1;refine fn1 Tryz.func172 Z Z Z ?_;refine wq<|wn Z<|aC<|wq<|wm Z<|wy (Yl.f (eD Z Z))<|wm Z<|aB Z Z<|wm Z<|aB Z Z<|wm Z<|aB Z Z ?_;refine wy (aF Z)<|aB Z Z<|wy (yF 0 0 uu dO Z)<|aB Z Z<|wy (yL 0 aa Z Z Z)<|aB Z Z<|wy (aN aa Z)<|aB Z Z<|wy (Yl.f (iA Z Z))<|wy (aO Z Z)<|aA<|aJ Z<|aI<|aC<|bI mixed ?_;refine wD 0 Z (aK Z)<|wD 1 Z (aF Z)<|wD 2 Z (yF 0 0 uu dO Z)<|wD 3 Z (yL 0 aa Z Z Z)<|wD 4 Z (aK Z)<|wD 5 Z (aK Z)<|wD 6 Z (aF Z)<|wD 7 Z (yF 0 0 uu dO Z)<|wD 8 Z (yL 0 aa Z Z Z)<|wD 9 Z (aK Z)<|wD 10 Z (aG aa sz3 Z Z (rdr 1 Z))<|wD 11 Z (aR ai Z Z (rdr 1 Z))<|wD 12 Z (bX Z Z)<|wD 13 Z (aG aa sz3 Z Z (rdr 1 Z))<|oU 14 Z cA (bD 1 Z sz3 Z Z) ?_;rintro _ _ rfl;refine⟨.inl cA,?_⟩;refine wN<|aC<|wq<|wm Z<|wa (aD aLc Z ((mX (by rw[a7,mj]) s7.1))) ?_;rintro _ _⟨rfl,rfl⟩;refine wy (dE Z Z)<|aA<|bA Z (λaq=> ?_) (λaq=> ?_)
 ·refine wq<|wn Z<|aH ?_;refine fA (λ(i:Int) (V:AH) (t:Int)=>[(0,PG g),(5,I i)]) (λi V t=>((rc 277 1 g [sl A C.length c])::(ri 3 A C.length c V)::R)) (λi V t=>(0<=i)/\(i<=258)/\(IP (upd C ff (rd C ff+32)) V i t)) (λi V t=>(258-i).toNat) ?_ ?_
  ·exact⟨0,upd C ff ((rd C ff)+32),0,⟨G,G,(NG a7)⟩,KP⟩
  intro i V t ⟨aw,ia,hI⟩;have Sy:=s7.1.part (i:=i) aw;have Pb:=s7.1.half.le.part (i:=i) aw;have ld:=hI.len;have Qp:=hI.sum;refine aC<|wq<|wm Z<|wm Z<|wy (aF Z)<|wy (yF 0 0 uu dO Z)<|wy (yL 0 aa Z Z Z)<|wy (aN aa Z)<|wL Z Z<|aA<|bA Z (λbp=> ?_) (λbp=> ?_)
  ·have Sy:=Sy G;have Pb:=Pb G;have Tk:=hI.left i G G;have Uc:=eT (l:=V) (i:=i) (v:=(rd V i+1)/2) aw G;have hht:0<=t/\t<=65536:=by rw[Qp];exact Pb.1
   refine aI<|aC<|aH<|bI mixed<|wD 0 Z (aK Z)<|wD 1 Z (aF Z)<|wD 2 Z (yF 0 0 uu dO Z)<|wD 3 Z (yL 0 aa Z Z Z)<|wD 4 Z (aK Z)<|wD 5 Z (aK Z)<|wD 6 Z (aF Z)<|wD 7 Z (yF 0 0 uu dO Z)<|wD 8 Z (yL 0 aa Z Z Z)<|wD 9 Z (aK Z)<|wD 10 Z (aG aa sz3 Z Z (rdr 1 Z)) ?_;refine wD 11 Z (aR ai Z Z (rdr 1 Z))<|wD 12 Z (bX Z Z)<|wD 13 Z (EP Z Z G G G)<|wD 14 Z (aG aa sz3 Z Z (rdr 1 Z))<|oU 15 Z cA (bD 1 Z sz3 Z Z) ?_;rintro _ _ rfl;refine⟨.inl cA,?_⟩;refine wN<|aL<|wm Z<|wA Z Z<|wn Z ?_;exact⟨i+1,upd V i (((rd V i)+1)/2),(t+rd (upd V i ((rd V i+1)/2)) i),⟨G,G,(hI.step a7 aw G)⟩,G,KP⟩
  ·refine aU<|wq<|wn Z<|bN (R1:=((rc 277 1 g [sl A C.length c])::(ri 3 A C.length c V)::R)) hiZ ?_;refine⟨_,Z,?_⟩;obtain rfl:i=258:=G
   obtain⟨e1,e2⟩:=hI.done_all a7;have e3:jX C ff=V:=by unfold jX;rw[df G,e1]
   rw[e3,e1];exact⟨Z,Z⟩
 ·refine aI<|wq<|wn Z<|bN (R1:=((rc 277 1 g [sl A C.length c])::(ri 3 A C.length c (upd C ff ((rd C ff)+32)))::R)) hiZ ?_;refine⟨_,Z,?_⟩;have e3:jX C ff=(upd C ff (rd C ff+32)):=by unfold jX;rw[bz G]
  rw[e3];exact⟨Z,Z⟩
variable {w w0:World} {low size total r:Int} {B g n c:Nat} {R:List Row} {A:AF} {b:AH}
theorem IC (a6:sI low size total):
  CF 203 #[I low,I size,I total] w (λv R'=>v=bt):=by
 refine fn1 Tryz.func203 Z Z Z ?_;obtain⟨s1,s2,s3,s4⟩:=a6;refine wq<|wn Z<|wq<|wm Z<|wy (Yl.t (qK Z Z) G)<|wm Z<|aB Z Z<|wm Z<|aB Z Z<|wy (Yl.t (iA Z Z) G)<|wy (aT Z Z)<|wm Z ?_;refine aB Z Z<|wm Z<|aB Z Z<|wy (Yl.t (iA Z Z) G)<|wy (aT Z Z)<|wm Z<|aB Z Z<|wm Z<|aB Z Z<|wm Z<|aB Z Z<|wy (Yl.t (qK Z Z) G)<|wy (aT Z Z)<|wm Z<|aB Z Z ?_;refine wm Z<|aB Z Z<|wm Z<|aB Z Z<|wm Z<|aB Z Z<|wS Z Z<|aB Z Z<|wy (Yl.t (qK Z Z) G)<|wy (aT Z Z)<|wn Z<|bS ?_;refine⟨_,Z,?_⟩;rfl
theorem aNg (a6:sI low size total):
  CF 233 #[I low,I size,I total] w (λv R'=>v=bt):=by
 refine fn1 Tryz.func233 Z Z Z ?_;obtain⟨s1,s2,s3,s4⟩:=a6;refine wq<|wn Z<|wq<|wm Z<|wy (Yl.t (qK Z Z) G)<|wm Z<|aB Z Z<|wm Z<|aB Z Z<|wy (Yl.t (iA Z Z) G)<|wy (aT Z Z)<|wm Z ?_;refine aB Z Z<|wm Z<|aB Z Z<|wy (Yl.t (iA Z Z) G)<|wy (aT Z Z)<|wm Z<|aB Z Z<|wm Z<|aB Z Z<|wm Z<|aB Z Z<|wy (Yl.t (qK Z Z) G)<|wy (aT Z Z)<|wm Z<|aB Z Z ?_;refine wm Z<|aB Z Z<|wm Z<|aB Z Z<|wm Z<|aB Z Z<|wS Z Z<|aB Z Z<|wy (Yl.t (qK Z Z) G)<|wy (aT Z Z)<|wn Z<|bS ?_;refine⟨_,Z,?_⟩;rfl
theorem MR:
  CF 128 #[] w (λv R'=> ∃g A c,v=PG g/\R'=[(rc 253 3 g [sl A cd0.k c, .int .u64 (cd0.N%4294967296), .int .u64 cd0.R]),(ru 5 A cd0.k c (beL cd0.k (cd0.N/4294967296)))]):=by
 refine fn1 Tryz.func128 Z Z Z ?_;refine wq<|wn Z<|wq<|wy (dW (v:= .agg #[sl none 0 0, .int .u64 0, .int .u64 4294967295]) Z (λw=>cA))<|wa (bO (sz:=3) rfl rfl) ?_;rintro _ _⟨am,rfl,rfl⟩;refine dB (R1:=[(ru 5 none 0 0 ([])),(rc 253 3 am [sl none 0 0, .int .u64 0, .int .u64 4294967295])]) (Sub.refl _) (λ_ h=>h.nil 5 1)<|wn Z<|aQ [1,0] 99 cC Z ?_;exact⟨_,Z,_,_,_,Z,Z⟩
theorem WX {x:Int} (hn:n=b.length) (hb:aP b) (hL:b.length<=1000000):
  CT 204 #[PG g] B w0 ((rc 253 3 g [sl A n c, .int .u64 x, .int .u64 r])::(ru 5 A n c b)::R) (λv R'=>v= .tuple #[]/\R'=(rc 253 3 g [sl A n c, .int .u64 x, .int .u64 r])::(ru 5 A n c (EK b 1))::R):=by
 subst hn;refine fn0 Tryz.func204 Z Z Z ?_;refine wq<|wm Z<|wy (aF Z)<|wy (yF 0 0 jv dA Z)<|wy (yL 0 af Z Z Z)<|wy (aN af Z)<|wS Z Z<|wn Z<|aH ?_;refine dM (λ(i:Int) (V:AH)=>[(0,PG g),(2,I i)]) (λi V=>((rc 253 3 g [sl A b.length c, .int .u64 x, .int .u64 r])::(ru 5 A b.length c V)::R)) (λi V=>(-1<=i)/\(i<b.length)/\(aEa b 1 V i 1)) (λi V=>(i+1).toNat) ?_ ?_
 ·exact⟨(b.length:Int)-1,b,⟨G,G,(UB hb Z)⟩,KP⟩
 intro i V ⟨aw,ia,hI⟩;have ld:=hI.1;have hVb:=hI.2.1.rd i;have Uc:=eT (l:=V) (i:=i) (v:=(rd V i+1)%256);refine aC<|wq<|wm Z<|wy (iA Z Z)<|aA<|bA Z (λaq=> ?_) (λaq=> ?_)
 ·have Uc:=Uc G G;refine aI<|aC<|aH<|wq<|wm Z<|wy (aF Z)<|wy (yF 0 0 jv dA Z)<|wy (yL 0 af Z Z Z)<|wm Z<|wy (aG af sz5 Z Z (rdr 1 Z))<|wy (aR ay Z Z (rdr 1 Z))<|wy (bHh Z Z)<|wy (aG af sz5 Z Z (rdr 1 Z))<|bV (bD 1 Z sz5 Z Z) ?_;rintro _ _ rfl;refine aA<|wq<|wm Z<|wy (aF Z)<|wy (yF 0 0 jv dA Z)<|wy (yL 0 af Z Z Z)<|wm Z<|wy (aG af sz5 Z Z (rdr 1 Z))<|wy (aR ay Z Z (rdr 1 Z))<|wy (fE Z Z)<|aA<|bA Z (λbp=> ?_) (λbp=> ?_)
  ·refine bN (R1:=((rc 253 3 g [sl A b.length c, .int .u64 x, .int .u64 r])::(ru 5 A b.length c (upd V i (((rd V i)+1)%256)))::R)) hiZ ?_
   skip
   have e:upd V i ((rd V i+1)%256)=EK b 1:=(hI.step (y:=0) (d:=(rd V i+1)%256) G G G G).stop (.inl rfl);rw[e];exact⟨Z,Z⟩
  ·refine aI<|aL<|wm Z<|wS Z Z<|wn Z ?_;exact⟨i-1,upd V i (((rd V i)+1)%256),⟨G,G,(hI.step G G G G)⟩,G,KP⟩
 ·refine aU ?_
  skip
  obtain rfl:=hI.stop (.inr G);exact⟨Z,Z⟩
theorem MC {s:CdS} (hn:n=s.k) (hc:XM s) (a6:sI low size total) (hk:s.k<=1000000):
  CT 132 #[PG g,I low,I size,I total] B w0 ((rc 253 3 g [sl A n c, .int .u64 (s.N%4294967296), .int .u64 s.R])::(ru 5 A n c (beL s.k (s.N/4294967296)))::R) (λv R'=> ∃(A1:AF) (c1:Nat),v=bt/\R'=(rc 253 3 g [sl A1 ((eY s low size total).k) c1, .int .u64 ((eY s low size total).N%4294967296), .int .u64 ((eY s low size total).R)])::(ru 5 A1 ((eY s low size total).k) c1 (beL (eY s low size total).k ((eY s low size total).N/4294967296)))::R):=by
 subst hn;obtain⟨r0,r1,n0,nr⟩:=hc;have In:=a6;obtain⟨s1,s2,s3,s4⟩:=In;obtain⟨f1,f2,f3,f4,f5⟩:=nS a6 ⟨r0,r1⟩;refine fn1 Tryz.func132 Z Z Z ?_;refine wq<|wn Z<|aC<|wq<|wm Z<|wy (dL underlying181 Z Z)<|wm Z<|aB Z Z<|wm Z<|aB Z Z<|wm Z<|aB Z Z ?_;refine wm Z<|aB Z Z<|wa (aD bGi Z (Ct.quiet (λw hw=>IC a6))) ?_;rintro _ _⟨rfl,rfl⟩;refine aB Z Z<|wy (dI Z)<|wy (aO Z Z)<|aA<|aJ Z<|aI<|wq<|wm Z<|wy (aF Z)<|wy (yF 2 2 jv dS Z)<|wy (yL 0 dx Z Z Z)<|wm Z<|wy (gP ai dx Z)<|wy (EO Z Z G G) ?_;refine wn Z<|wq<|wm Z<|wy (aF Z)<|wy (yF 1 1 jv dS Z)<|wy (yL 0 dx Z Z Z)<|wm Z<|wm Z<|wy (gP ai dx Z)<|wy (tV Z Z G)<|wy (aRu Z Z G)<|wy (aF Z)<|wy (yF 1 1 jv dS Z) ?_;refine bV (aX 0 Z Z Z dS Z Z Z Z (au Z)) ?_;rintro _ _ rfl;refine aA<|aC<|wq<|wm Z<|wy (aF Z)<|wy (yF 1 1 jv dS Z)<|wy (yL 0 dx Z Z Z)<|wy (oK (k:=32) (m:=4294967296) Z Z Z G Z)<|wy (dE Z Z)<|aA<|bA Z (λaq=> ?_) (λaq=> ?_)
 ·refine wq<|wm Z<|wy (aF Z)<|wy (yF 1 1 jv dS Z)<|wy (yL 0 dx Z Z Z)<|wy (JB (m:=4294967296) 32 Z Z Z Z G Z)<|wy (aF Z)<|wy (yF 1 1 jv dS Z)<|bV (aX 0 Z Z Z dS Z Z Z Z (au Z)) ?_;rintro _ _ rfl;refine aA<|aL<|wm Z<|wa (aD bNz Z ((WX (by rw[jW]) (yJ _ _) (by rw[jW];omega)))) ?_;rintro _ _⟨rfl,rfl⟩;refine aA<|aC<|wq<|wm Z<|wm Z<|wm Z<|wy (gP ai dx Z)<|wy (tV Z Z G)<|wy (aF Z)<|wy (yF 2 2 jv dS Z)<|bV (aX 0 Z Z Z dS Z Z Z Z (au Z)) ?_;rintro _ _ rfl;refine aA<|aH ?_;refine uA (λ(j:Nat) (A1:AF) (n1:Nat) (c1:Nat) (V:AH) (x:Int) (r:Int) (M:Int)=>[(0,PG g)]) (λj A1 n1 c1 V x r M=>((rc 253 3 g [sl A1 n1 c1, .int .u64 x, .int .u64 r])::(ru 5 A1 n1 c1 V)::R)) (λj A1 n1 c1 V x r M=>(M=(s.N+s.R/total*low)*256^j)/\(r=(s.R/total*size)*256^j)/\(j<=shN (s.R/total*size))/\(V=beL (s.k+j) (M/4294967296))/\(x=M%4294967296)/\(n1=s.k+j)) (λj A1 n1 c1 V x r M=>(4-j)) ?_ ?_
  ·exact⟨0,A,s.k,c,EK (beL s.k (s.N/4294967296)) 1,((s.N%4294967296)+((s.R/total)*low))%4294967296,(s.R/total)*size,(s.N+s.R/total*low),⟨(by rw[uz,zx]),(by rw[uz,zx]),(qp _),(by first|(rw[JZ,qo,show(s.N+s.R/total*low)/4294967296=s.N/4294967296+1 by omega])|(rw[qo,show(s.N+s.R/total*low)/4294967296=s.N/4294967296 by omega])),G,(Z)⟩,KP⟩
  intro j A1 n1 c1 V x r M ⟨hM,hr,hj,hV,hx,cv⟩;have vf:=EY (s.R/total*size);have Ub:1<=r:=by rw[hr];exact CE G
  refine aC<|wq<|wm Z<|wy (aF Z)<|wy (yF 2 2 jv dS Z)<|wy (yL 0 dx Z Z Z)<|wL Z Z<|aA<|bA Z (λbp=> ?_) (λbp=> ?_)
  ·refine aI<|aC<|aH<|aC<|bI mixed<|wD 0 Z (aK Z)<|wD 1 Z (aK Z)<|wD 2 Z (aF Z)<|wD 3 Z (yF 0 0 jv dA Z)<|wD 4 Z (yL 0 af Z Z Z)<|wD 5 Z (aK Z)<|wD 6 Z (aF Z)<|wD 7 Z (yF 1 1 jv dS Z)<|wD 8 Z (yL 0 dx Z Z Z)<|wD 9 Z (oK (k:=24) (m:=16777216) Z Z Z G Z) ?_;refine wD 10 Z (eQ dx ay Z)<|wC 11 Z (bH .u8 [(x/16777216)%256] af zs5 Z Z Z) ?_;rintro _ _⟨bx,rfl,rfl⟩;refine⟨.inr hrZ,?_⟩;refine wC 12 Z (aS 2 Z af zb5 Z Z Z (rdr 0 Z)) ?_;rintro _ _⟨fi,fj,rfl,rfl⟩;refine⟨.inl cA,?_⟩;refine iF (v:=sl fi (n1+1) fj) Z<|wD 13 Z (aF Z)<|wD 14 Z (yF 0 0 jv dA Z)<|oU 15 Z cA (aX 1 Z Z Z dA Z Z Z Z (au Z)) ?_;rintro _ _ rfl;refine⟨.inl cA,?_⟩;refine wN<|aL<|wm Z<|wm Z<|wy (aF Z)<|wy (yF 1 1 jv dS Z)<|wy (yL 1 dx Z Z Z)<|wy (vE (k:=8) (m:=256) Z Z Z G Z)<|wy (JB (m:=4294967296) 32 Z Z Z Z G Z)<|wy (aF Z)<|wy (yF 1 1 jv dS Z)<|bV (aX 1 Z Z Z dS Z Z Z Z (au Z)) ?_;rintro _ _ rfl;refine aA<|aL<|wm Z<|wy (aF Z)<|wy (yF 2 2 jv dS Z)<|wy (yL 1 dx Z Z Z)<|wy (vE (k:=8) (m:=256) Z Z Z G Z)<|wy (aF Z)<|wy (yF 2 2 jv dS Z)<|bV (aX 1 Z Z Z dS Z Z Z Z (au Z)) ?_;rintro _ _ rfl;refine aA ?_;exact⟨(j+1),fi,n1+1,fj,V++([(x/16777216)%256]),(x*256)%4294967296,r*256,(M*256),⟨(by rw[hM,su,<-wh]),(by rw[hr,su,<-wh]),(BN G hj (by rw[<-hr];assumption)),(by rw[hV,hx];exact(aDq _ _).symm),G,(by rw[cv];rfl)⟩,G,SA,λ_ h=>h.selR (F:=[_,_,_]) (F':=[_,_]) [1,2] cC Z⟩
  ·refine aU<|wq<|wn Z<|bN (R1:=((rc 253 3 g [sl A1 n1 c1, .int .u64 x, .int .u64 r])::(ru 5 A1 n1 c1 V)::R)) hiZ ?_;refine⟨_,Z,?_⟩;obtain rfl:j=shN (s.R/total*size):=JK G hj (by rw[<-hr];omega);refine⟨A1,c1,Z,?_⟩;rw[hV,hx,hr,hM,cv];rfl
 ·refine aI<|aC<|wq<|wm Z<|wm Z<|wm Z<|wy (gP ai dx Z)<|wy (tV Z Z G)<|wy (aF Z)<|wy (yF 2 2 jv dS Z)<|bV (aX 0 Z Z Z dS Z Z Z Z (au Z)) ?_;rintro _ _ rfl;refine aA<|aH ?_;refine uA (λ(j:Nat) (A1:AF) (n1:Nat) (c1:Nat) (V:AH) (x:Int) (r:Int) (M:Int)=>[(0,PG g)]) (λj A1 n1 c1 V x r M=>((rc 253 3 g [sl A1 n1 c1, .int .u64 x, .int .u64 r])::(ru 5 A1 n1 c1 V)::R)) (λj A1 n1 c1 V x r M=>(M=(s.N+s.R/total*low)*256^j)/\(r=(s.R/total*size)*256^j)/\(j<=shN (s.R/total*size))/\(V=beL (s.k+j) (M/4294967296))/\(x=M%4294967296)/\(n1=s.k+j)) (λj A1 n1 c1 V x r M=>(4-j)) ?_ ?_
  ·exact⟨0,A,s.k,c,beL s.k (s.N/4294967296),(s.N%4294967296)+((s.R/total)*low),(s.R/total)*size,(s.N+s.R/total*low),⟨(by rw[uz,zx]),(by rw[uz,zx]),(qp _),(by first|(rw[JZ,qo,show(s.N+s.R/total*low)/4294967296=s.N/4294967296+1 by omega])|(rw[qo,show(s.N+s.R/total*low)/4294967296=s.N/4294967296 by omega])),G,(Z)⟩,KP⟩
  intro j A1 n1 c1 V x r M ⟨hM,hr,hj,hV,hx,cv⟩;have vf:=EY (s.R/total*size);have Ub:1<=r:=by rw[hr];exact CE G
  refine aC<|wq<|wm Z<|wy (aF Z)<|wy (yF 2 2 jv dS Z)<|wy (yL 0 dx Z Z Z)<|wL Z Z<|aA<|bA Z (λew=> ?_) (λew=> ?_)
  ·refine aI<|aC<|aH<|aC<|bI mixed<|wD 0 Z (aK Z)<|wD 1 Z (aK Z)<|wD 2 Z (aF Z)<|wD 3 Z (yF 0 0 jv dA Z)<|wD 4 Z (yL 0 af Z Z Z)<|wD 5 Z (aK Z)<|wD 6 Z (aF Z)<|wD 7 Z (yF 1 1 jv dS Z)<|wD 8 Z (yL 0 dx Z Z Z)<|wD 9 Z (oK (k:=24) (m:=16777216) Z Z Z G Z) ?_;refine wD 10 Z (eQ dx ay Z)<|wC 11 Z (bH .u8 [(x/16777216)%256] af zs5 Z Z Z) ?_;rintro _ _⟨ki,rfl,rfl⟩;refine⟨.inr hrZ,?_⟩;refine wC 12 Z (aS 2 Z af zb5 Z Z Z (rdr 0 Z)) ?_;rintro _ _⟨fc,dv,rfl,rfl⟩;refine⟨.inl cA,?_⟩;refine iF (v:=sl fc (n1+1) dv) Z<|wD 13 Z (aF Z)<|wD 14 Z (yF 0 0 jv dA Z)<|oU 15 Z cA (aX 1 Z Z Z dA Z Z Z Z (au Z)) ?_;rintro _ _ rfl;refine⟨.inl cA,?_⟩;refine wN<|aL<|wm Z<|wm Z<|wy (aF Z)<|wy (yF 1 1 jv dS Z)<|wy (yL 1 dx Z Z Z)<|wy (vE (k:=8) (m:=256) Z Z Z G Z)<|wy (JB (m:=4294967296) 32 Z Z Z Z G Z)<|wy (aF Z)<|wy (yF 1 1 jv dS Z)<|bV (aX 1 Z Z Z dS Z Z Z Z (au Z)) ?_;rintro _ _ rfl;refine aA<|aL<|wm Z<|wy (aF Z)<|wy (yF 2 2 jv dS Z)<|wy (yL 1 dx Z Z Z)<|wy (vE (k:=8) (m:=256) Z Z Z G Z)<|wy (aF Z)<|wy (yF 2 2 jv dS Z)<|bV (aX 1 Z Z Z dS Z Z Z Z (au Z)) ?_;rintro _ _ rfl;refine aA ?_;exact⟨(j+1),fc,n1+1,dv,V++([(x/16777216)%256]),(x*256)%4294967296,r*256,(M*256),⟨(by rw[hM,su,<-wh]),(by rw[hr,su,<-wh]),(BN G hj (by rw[<-hr];assumption)),(by rw[hV,hx];exact(aDq _ _).symm),G,(by rw[cv];rfl)⟩,G,SA,λ_ h=>h.selR (F:=[_,_,_]) (F':=[_,_]) [1,2] cC Z⟩
  ·refine aU<|wq<|wn Z<|bN (R1:=((rc 253 3 g [sl A1 n1 c1, .int .u64 x, .int .u64 r])::(ru 5 A1 n1 c1 V)::R)) hiZ ?_;refine⟨_,Z,?_⟩;obtain rfl:j=shN (s.R/total*size):=JK G hj (by rw[<-hr];omega);refine⟨A1,c1,Z,?_⟩;rw[hV,hx,hr,hM,cv];rfl
theorem aXe {s:CdS} (hn:n=s.k) (hk:s.k<=1000000):
  CT 135 #[PG g] B w0 ((rc 253 3 g [sl A n c, .int .u64 (s.N%4294967296), .int .u64 s.R])::(ru 5 A n c (beL s.k (s.N/4294967296)))::R) (λv R'=> ∃(A1:AF) (c1:Nat),v=sl A1 (s.k+4) c1/\R'=(ru 5 A1 (s.k+4) c1 (beL (s.k+4) s.N))::(rc 253 3 g [sl A n c, .int .u64 (s.N%4294967296), .int .u64 s.R])::(ru 5 A n c (beL s.k (s.N/4294967296)))::R):=by
 subst hn;have j6:=jW s.k (s.N/4294967296);refine fn1 Tryz.func135 Z Z Z ?_;refine wq<|wn Z<|aC<|wq<|wm Z<|wy (dL underlying181 Z Z)<|aA<|aJ Z<|aI<|wq<|wm Z ?_;refine wy (aF Z)<|wy (yF 0 0 jv dA Z)<|wy (yL 0 af Z Z Z)<|wa (aD aCe Z (Ct.fresh (λw hw=>mI ((rdr 1 Z) w hw) (by rw[jW];exact hk)))) ?_;rintro _ _⟨_,rfl,bm,bl,rfl,rfl⟩;refine wn Z<|aC<|wq<|wm Z<|aA<|aH<|mR 5<|dY<|wq<|wy (Yl.t (eD Z Z) cC)<|aA<|aC ?_;refine bE Z<|aI<|aC<|aH<|wq<|wm Z<|wn Z<|aL<|wm Z<|wm Z<|wy (aF Z)<|wy (yF 1 1 jv dS Z)<|wy (yL 1 dx Z Z Z) ?_;refine wm Z<|wy (Yl.is (bX Z Z) Z)<|wy (Yl.is (iZ Z Z) Z)<|wy (Yl.is (gZ Z Z) Z)<|wy (oK (k:=24) (m:=16777216) Z Z Z G Z)<|wy (eQ dx ay Z)<|wa (bH .u8 [((s.N%4294967296)/16777216)%256] af zs5 Z Z Z) ?_;rintro _ _⟨fb,rfl,rfl⟩;refine wa (aS 1 Z af zb5 Z Z Z (rdr 0 Z)) ?_;rintro _ _⟨ef,kc,rfl,rfl⟩;refine bF (v:=sl ef (((beL s.k (s.N/4294967296)).length)+1) kc) Z<|wn Z<|aL<|wy (Yl.is (bX Z Z) Z)<|wm Z<|aA<|dY<|wq<|wy (Yl.t (eD Z Z) cC)<|aA<|aC<|bE Z<|aI ?_;refine aC<|aH<|wq<|wm Z<|wn Z<|aL<|wm Z<|wm Z<|wy (aF Z)<|wy (yF 1 1 jv dS Z)<|wy (yL 2 dx Z Z Z)<|wm Z<|wy (Yl.is (bX Z Z) Z) ?_;refine wy (Yl.is (iZ Z Z) Z)<|wy (Yl.is (gZ Z Z) Z)<|wy (oK (k:=16) (m:=65536) Z Z Z G Z)<|wy (eQ dx ay Z)<|wa (bH .u8 [((s.N%4294967296)/65536)%256] af zs5 Z Z Z) ?_;rintro _ _⟨yy,rfl,rfl⟩;refine wa (aS 2 Z af zb5 Z Z Z (rdr 0 Z)) ?_;rintro _ _⟨eh,bo,rfl,rfl⟩;refine bF (v:=sl eh ((((beL s.k (s.N/4294967296)).length)+1)+1) bo) Z<|wn Z<|aL<|wy (Yl.is (bX Z Z) Z)<|wm Z<|aA<|dY<|wq<|wy (Yl.t (eD Z Z) cC)<|aA<|aC<|bE Z<|aI ?_;refine aC<|aH<|wq<|wm Z<|wn Z<|aL<|wm Z<|wm Z<|wy (aF Z)<|wy (yF 1 1 jv dS Z)<|wy (yL 3 dx Z Z Z)<|wm Z<|wy (Yl.is (bX Z Z) Z) ?_;refine wy (Yl.is (iZ Z Z) Z)<|wy (Yl.is (gZ Z Z) Z)<|wy (oK (k:=8) (m:=256) Z Z Z G Z)<|wy (eQ dx ay Z)<|wa (bH .u8 [((s.N%4294967296)/256)%256] af zs5 Z Z Z) ?_;rintro _ _⟨kh,rfl,rfl⟩;refine wa (aS 3 Z af zb5 Z Z Z (rdr 0 Z)) ?_;rintro _ _⟨im,ir,rfl,rfl⟩;refine bF (v:=sl im (((((beL s.k (s.N/4294967296)).length)+1)+1)+1) ir) Z<|wn Z<|aL<|wy (Yl.is (bX Z Z) Z)<|wm Z<|aA<|dY<|wq<|wy (Yl.t (eD Z Z) cC)<|aA<|aC<|bE Z<|aI ?_;refine aC<|aH<|wq<|wm Z<|wn Z<|aL<|wm Z<|wm Z<|wy (aF Z)<|wy (yF 1 1 jv dS Z)<|wy (yL 4 dx Z Z Z)<|wm Z<|wy (Yl.is (bX Z Z) Z) ?_;refine wy (Yl.is (iZ Z Z) Z)<|wy (Yl.is (gZ Z Z) Z)<|wy (oK (k:=0) (m:=1) Z Z Z G Z)<|wy (eQ dx ay Z)<|wa (bH .u8 [((s.N%4294967296)/1)%256] af zs5 Z Z Z) ?_;rintro _ _⟨Bk,rfl,rfl⟩;refine wa (aS 4 Z af zb5 Z Z Z (rdr 0 Z)) ?_;rintro _ _⟨db,de,rfl,rfl⟩;refine bF (v:=sl db ((((((beL s.k (s.N/4294967296)).length)+1)+1)+1)+1) de) Z<|wn Z<|aL<|wy (Yl.is (bX Z Z) Z)<|wm Z<|aA<|dY<|wq<|wy (Yl.f (eD Z Z) cC)<|aA<|aC<|aJ Z<|aU ?_;refine wq<|wm Z<|wn Z<|aQ [4,5,6] 7 cC Z ?_;refine⟨_,Z,?_⟩;have e:(beL s.k (s.N/4294967296)).length+1+1+1+1=s.k+4:=G
 rw[e,<-bEv s.k s.N _ rfl];exact⟨_,_,Z,Z⟩
theorem IU:
  CF 212 #[] w (λv R'=> ∃g A c,v=PG g/\R'=[(rc 262 2 g [sl A (cd0.k+4) c, .int .u64 cd0.R]),(ru 5 A (cd0.k+4) c (beL (cd0.k+4) cd0.N))]):=by
 refine fn1 Tryz.func212 Z Z Z ?_;refine wq<|wn Z<|wq<|wa (dD af zb5 Z Z) ?_;rintro _ _⟨am,rfl,rfl⟩;refine bF (v:=sl (GG am) ((4:Int).toNat) ((4:Int).toNat)) Z<|wy (dW (v:= .agg #[sl (GG am) ((4:Int).toNat) ((4:Int).toNat), .int .u64 4294967295]) Z (λw=>cA))<|wa (bO (sz:=2) rfl rfl) ?_;rintro _ _⟨bx,rfl,rfl⟩;refine wn Z<|bN (R1:=[(rc 262 2 bx [sl (GG am) ((4:Int).toNat) ((4:Int).toNat), .int .u64 4294967295]),(ru 5 (GG am) ((4:Int).toNat) ((4:Int).toNat) (List.replicate ((4:Int).toNat) (0:Int)))]) hiZ ?_;exact⟨_,Z,_,_,_,Z,Z⟩
theorem bAb {x0:Int} (hn:n=b.length) (hb:aP b) (hL:b.length<=1000010) (hx:0<=x0/\x0<1099511627776):
  CT 260 #[PG g, .int .u64 x0] B w0 ((rc 262 2 g [sl A n c, .int .u64 r])::(ru 5 A n c b)::R) (λv R'=>v= .tuple #[]/\R'=(rc 262 2 g [sl A n c, .int .u64 r])::(ru 5 A n c (EK b x0))::R):=by
 subst hn;refine fn0 Tryz.func260 Z Z Z ?_;refine wq<|wm Z<|wy (aF Z)<|wy (yF 0 0 xu dA Z)<|wy (yL 0 af Z Z Z)<|wy (aN af Z)<|wS Z Z<|wn Z<|aH ?_;refine fA (λ(i:Int) (x:Int) (V:AH)=>[(0,PG g),(1, .int .u64 x),(4,I i)]) (λi x V=>((rc 262 2 g [sl A b.length c, .int .u64 r])::(ru 5 A b.length c V)::R)) (λi x V=>(-1<=i)/\(i<b.length)/\(0<=x/\x<1099511627776)/\(aEa b x0 V i x)) (λi x V=>(i+1).toNat) ?_ ?_
 ·exact⟨(b.length:Int)-1,x0,b,⟨G,G,G,(UB hb Z)⟩,KP⟩
 intro i x V ⟨aw,ia,hx0,hI⟩;have ld:=hI.1;have hVb:=hI.2.1.rd i;refine aC<|wq<|wm Z<|wy (iA Z Z)<|wm Z<|cK 3 [(0,PG g),(1, .int .u64 x),(4,I i),(16, .bool (decide ((0<=i)/\(0<x))))] ((rc 262 2 g [sl A b.length c, .int .u64 r])::(ru 5 A b.length c V)::R) ?_ ?_
 ·refine bR 13 Z (λaq=> ?_) (λaq=> ?_)
  ·refine aB Z Z<|wm Z<|aB Z Z<|wy (dE Z Z)<|wy (aT Z Z)<|aA ?_;exact KP
  ·refine aM Z Z Z Z<|aM Z Z Z Z<|wy (aO Z Z)<|aA ?_;exact KP
 refine aA<|bA Z (λbp=> ?_) (λbp=> ?_)
 ·refine aI<|aC<|aH<|wq<|wm Z<|wm Z<|wy (aF Z)<|wy (yF 0 0 xu dA Z)<|wy (yL 0 af Z Z Z)<|wm Z<|wy (aG af sz5 Z Z (rdr 1 Z))<|wy (aR ay Z Z (rdr 1 Z))<|wy (gP ay dx Z)<|wy (aRu Z Z G) ?_;refine wn Z<|wq<|wm Z<|wy (aF Z)<|wy (yF 0 0 xu dA Z)<|wy (yL 0 af Z Z Z)<|wm Z<|wm Z<|wy (eQ dx ay Z)<|wy (aG af sz5 Z Z (rdr 1 Z))<|bV (bD 1 Z sz5 Z Z) ?_;rintro _ _ rfl;refine aA<|aL<|wm Z<|wy (oK (k:=8) (m:=256) Z Z Z G Z)<|wn Z<|aL<|wm Z<|wS Z Z<|wn Z ?_;exact⟨i-1,(x+(rd V i))/256,upd V i ((x+(rd V i))%256),⟨G,G,G,(hI.step G G Z Z)⟩,G,KP⟩
 ·refine aU ?_
  skip
  obtain rfl:=hI.stop G;exact⟨Z,Z⟩
theorem EZ {s:CdS} (hn:n=s.k+4) (hc:XM s) (a6:sI low size total) (hk:s.k<=1000000):
  CT 213 #[PG g,I low,I size,I total] B w0 ((rc 262 2 g [sl A n c, .int .u64 s.R])::(ru 5 A n c (beL (s.k+4) s.N))::R) (λv R'=> ∃(A1:AF) (c1:Nat),v=bt/\R'=(rc 262 2 g [sl A1 ((eY s low size total).k+4) c1, .int .u64 ((eY s low size total).R)])::(ru 5 A1 ((eY s low size total).k+4) c1 (beL ((eY s low size total).k+4) (eY s low size total).N))::R):=by
 subst hn;obtain⟨r0,r1,n0,nr⟩:=hc;have In:=a6;obtain⟨s1,s2,s3,s4⟩:=In;obtain⟨f1,f2,f3,f4,f5⟩:=nS a6 ⟨r0,r1⟩;refine fn1 Tryz.func213 Z Z Z ?_;refine wq<|wn Z<|aC<|wq<|wm Z<|wm Z<|wm Z<|wa (aD bNh Z (Ct.quiet (λw hw=>aNg a6))) ?_;rintro _ _⟨rfl,rfl⟩;refine wy (dI Z)<|aA<|aJ Z<|aI<|wq<|wm Z<|wy (aF Z)<|wy (yF 1 1 xu dS Z)<|wy (yL 0 dx Z Z Z)<|wm Z<|wy (gP ai dx Z)<|wy (EO Z Z G G)<|wn Z ?_;refine wq<|wm Z<|wm Z<|wm Z<|wy (gP ai dx Z)<|wy (tV Z Z G)<|wa (aD bNa Z ((bAb (by rw[jW]) (yJ _ _) (by rw[jW];omega) G))) ?_;rintro _ _⟨rfl,rfl⟩;refine aA<|wq<|wm Z<|wm Z<|wm Z<|wy (gP ai dx Z)<|wy (tV Z Z G)<|wy (aF Z)<|wy (yF 1 1 xu dS Z)<|bV (aX 0 Z Z Z dS Z Z Z Z (au Z)) ?_;rintro _ _ rfl;refine aA<|aC<|aH ?_;refine UM (λ(j:Nat) (A1:AF) (n1:Nat) (c1:Nat) (V:AH) (r:Int) (M:Int)=>[(0,PG g)]) (λj A1 n1 c1 V r M=>((rc 262 2 g [sl A1 n1 c1, .int .u64 r])::(ru 5 A1 n1 c1 V)::R)) (λj A1 n1 c1 V r M=>(M=(s.N+s.R/total*low)*256^j)/\(r=(s.R/total*size)*256^j)/\(j<=shN (s.R/total*size))/\(V=beL (s.k+j+4) M)/\(n1=s.k+j+4)) (λj A1 n1 c1 V r M=>(4-j)) ?_ ?_
 ·exact⟨0,A,s.k+4,c,EK (beL (s.k+4) s.N) ((s.R/total)*low),(s.R/total)*size,(s.N+s.R/total*low),⟨(by rw[uz,zx]),(by rw[uz,zx]),(qp _),(by rw[JZ]),(Z)⟩,KP⟩
 intro j A1 n1 c1 V r M ⟨hM,hr,hj,hV,cv⟩;have vf:=EY (s.R/total*size);have Ub:1<=r:=by rw[hr];exact CE G
 refine aC<|wq<|wm Z<|wy (aF Z)<|wy (yF 1 1 xu dS Z)<|wy (yL 0 dx Z Z Z)<|wL Z Z<|aA<|bA Z (λaq=> ?_) (λaq=> ?_)
 ·refine aI<|aH<|wq<|wm Z<|wm Z<|wy (aF Z)<|wy (yF 0 0 xu dA Z)<|wy (yL 0 af Z Z Z)<|wa (bH .u8 [0] af zs5 Z Z Z) ?_;rintro _ _⟨bx,rfl,rfl⟩;refine wa (aS 2 Z af zb5 Z Z Z (rdr 0 Z)) ?_;rintro _ _⟨fi,fj,rfl,rfl⟩;refine bF (v:=sl fi (n1+1) fj) Z<|wy (aF Z)<|wy (yF 0 0 xu dA Z)<|bV (aX 1 Z Z Z dA Z Z Z Z (au Z)) ?_;rintro _ _ rfl;refine aA<|aL<|wm Z<|wm Z<|wy (aF Z)<|wy (yF 1 1 xu dS Z)<|wy (yL 1 dx Z Z Z)<|wy (vE (k:=8) (m:=256) Z Z Z G Z)<|wy (aF Z)<|wy (yF 1 1 xu dS Z)<|bV (aX 1 Z Z Z dS Z Z Z Z (au Z)) ?_;rintro _ _ rfl;refine aA ?_;exact⟨(j+1),fi,n1+1,fj,V++([0]),r*256,(M*256),⟨(by rw[hM,su,<-wh]),(by rw[hr,su,<-wh]),(BN G hj (by rw[<-hr];assumption)),(by rw[hV,show s.k+(j+1)+4=s.k+j+4+1 by omega,aRe]),(by rw[cv];omega)⟩,G,SA,λ_ h=>h.selR (F:=[_,_,_]) (F':=[_,_]) [1,2] cC Z⟩
 ·refine aU<|wq<|wn Z<|bN (R1:=((rc 262 2 g [sl A1 n1 c1, .int .u64 r])::(ru 5 A1 n1 c1 V)::R)) hiZ ?_;refine⟨_,Z,?_⟩;obtain rfl:j=shN (s.R/total*size):=JK G hj (by rw[<-hr];omega);refine⟨A1,c1,Z,?_⟩;rw[hV,hr,hM,cv];rfl
variable {w w0:World} {ff o cls x i:Int} {B g g0 g1 g2 c:Nat} {R:List Row} {A:AF} {C l:AH}
abbrev syb (b:AH):AH:=(bT 0 (bG aV b))++[257]
theorem zX:
  CF 206 #[I ff] w (λv R'=>v=I (iJ ff)):=by
 refine fn1 Tryz.func206 Z Z Z ?_;refine wq<|wn Z<|aC<|aH<|wq<|wm Z<|wL Z Z<|wn Z<|bA Z (λaq=> ?_) (λaq=> ?_)
 ·refine wq<|wn Z<|bS ?_;refine⟨_,Z,?_⟩;exact bq (Value.int .i64) (by unfold iJ;rw[df cF])
 ·refine wq<|wm Z<|wL Z Z<|wn Z<|bA Z (λbp=> ?_) (λbp=> ?_)
  ·refine wq<|wn Z<|bS ?_;refine⟨_,Z,?_⟩;exact bq (Value.int .i64) (by unfold iJ;rw[bz cF,df cF])
  ·refine aI<|wq<|wn Z<|bS ?_;refine⟨_,Z,?_⟩;exact bq (Value.int .i64) (by unfold iJ;rw[bz cF,bz cF])
theorem DD (ho:o=0\/o=1):
  CF 126 #[I o] w (λv R'=>v=bt):=by
 refine fn1 Tryz.func126 Z Z Z ?_;refine wq<|wn Z<|wq<|wm Z<|wy (dR Z Z)<|wm Z<|cK 3 [(8, .bool (decide ((o=0)\/(o=1))))] [] ?_ ?_
 ·refine bR 5 Z (λaq=> ?_) (λaq=> ?_)
  ·refine aM Z Z Z Z<|aM Z Z Z Z<|wy (aT Z Z)<|aA ?_;exact KP
  ·refine aB Z Z<|wm Z<|aB Z Z<|wy (dR Z Z)<|wy (aO Z Z)<|aA ?_;exact KP
 refine fH 8 Z (ho)<|wn Z<|bS ?_;refine⟨_,Z,?_⟩;rfl
theorem SV:
  CF 127 #[I o] w (λv R'=> ∃(g g0 g1 g2:Nat) (A0 A1 A2:AF) (c0 c1 c2:Nat),v=PG g/\R'=[(rc 250 5 g [PG g0,PG g1,PG g2,I 0,I o]),(rc 256 2 g0 [sl A0 258 c0,I 258]),(ri 3 A0 258 c0 uN),(rc 256 2 g1 [sl A1 258 c1,I 258]),(ri 3 A1 258 c1 uN),(rc 256 2 g2 [sl A2 258 c2,I 258]),(ri 3 A2 258 c2 uN)]):=by
 refine fn1 Tryz.func127 Z Z Z ?_;refine wq<|wn Z<|wq<|wm Z<|wy (dW (v:= .agg #[.pointer none, .pointer none, .pointer none,I 0,I o]) Z (λw=>cA))<|wa (bO (sz:=5) rfl rfl) ?_;rintro _ _⟨am,rfl,rfl⟩;refine wn Z<|aC<|wq<|wm Z<|aA<|aH<|mR 4<|dY<|wq<|wy (Yl.t (eD Z Z) cC)<|aA<|aC ?_;refine bE Z<|aI<|aC<|aH<|wq<|wm Z<|wn Z<|bI mixed<|wD 0 Z (aK Z)<|wD 1 Z (aK Z)<|wD 3 Z (aF Z)<|wD 4 Z (yF 0 0 uh RD Z)<|wC 2 Z (aD aXt Z (Ct.fresh (λw hw=>wM))) ?_;rintro _ _⟨_,rfl,bx,fi,fj,rfl,rfl⟩;refine⟨.inr λ_ h=>h.right (R':=[_,_]),?_⟩;refine wD 5 Z (bW (q:=0) (rdr 2 Z) Ck BJ Z Z (au Z) cC cC Z)<|oU 6 Z cA (aX 2 Z Z Z BJ Z Z Z Z (au Z)) ?_;rintro _ _ rfl;refine⟨.inl cA,?_⟩;refine wN<|aL<|wy (Yl.is (bX Z Z) Z)<|wm Z<|aA<|dY<|wq<|wy (Yl.t (eD Z Z) cC)<|aA<|aC<|bE Z<|aI<|aC<|aH ?_;refine wq<|wm Z<|wn Z<|bI mixed<|wD 0 Z (aK Z)<|wD 1 Z (aK Z)<|wD 3 Z (aF Z)<|wD 4 Z (yF 0 0 uh RD Z)<|wC 2 Z (aD aXt Z (Ct.fresh (λw hw=>wM))) ?_;rintro _ _⟨_,rfl,ki,fc,dv,rfl,rfl⟩;refine⟨.inr λ_ h=>h.right (R':=[_,_]),?_⟩;refine wD 5 Z (bW (q:=1) (rdr 4 Z) Ck BJ Z Z (au Z) cC cC Z)<|oU 6 Z cA (aX 4 Z Z Z BJ Z Z Z Z (au Z)) ?_;rintro _ _ rfl;refine⟨.inl cA,?_⟩;refine wN<|aL<|wy (Yl.is (bX Z Z) Z)<|wm Z<|aA<|dY<|wq<|wy (Yl.t (eD Z Z) cC)<|aA<|aC<|bE Z<|aI<|aC<|aH ?_;refine wq<|wm Z<|wn Z<|bI mixed<|wD 0 Z (aK Z)<|wD 1 Z (aK Z)<|wD 3 Z (aF Z)<|wD 4 Z (yF 0 0 uh RD Z)<|wC 2 Z (aD aXt Z (Ct.fresh (λw hw=>wM))) ?_;rintro _ _⟨_,rfl,Li,kl,ci,rfl,rfl⟩;refine⟨.inr λ_ h=>h.right (R':=[_,_]),?_⟩;refine wD 5 Z (bW (q:=2) (rdr 6 Z) Ck BJ Z Z (au Z) cC cC Z)<|oU 6 Z cA (aX 6 Z Z Z BJ Z Z Z Z (au Z)) ?_;rintro _ _ rfl;refine⟨.inl cA,?_⟩;refine wN<|aL<|wy (Yl.is (bX Z Z) Z)<|wm Z<|aA<|dY<|wq<|wy (Yl.f (eD Z Z) cC)<|aA<|aC<|aJ Z<|aU<|wq ?_;refine wm Z<|wn Z<|aQ [6,4,5,2,3,0,1] 99 cC Z ?_;exact⟨_,Z,_,_,_,_,_,_,_,_,_,_,Z,Z⟩
theorem oG (hk:cls*o=0):
  CT 130 #[PG g] B w0 ((rc 250 5 g [PG g0,PG g1,PG g2,I cls,I o])::R) (λv R'=>v=PG g0/\R'=(rc 250 5 g [PG g0,PG g1,PG g2,I cls,I o])::R):=by
 refine fn1 Iu Z Z Z ?_;refine wq<|wn Z<|aC<|bI mixed<|wD 0 Z (aK Z)<|wD 1 Z (aK Z)<|wD 2 Z (aF Z)<|wD 3 Z (yF 3 3 uh sz3 Z)<|wD 4 Z (yL 0 ai Z Z Z)<|wD 5 Z (aK Z)<|wD 6 Z (aF Z)<|wD 7 Z (yF 4 4 uh sz3 Z)<|wD 8 Z (yL 0 ai Z Z Z) ?_;refine wD 9 Z (Yl.is (iZ Z Z) (by rw[hk])) ?_;refine wD 10 Z (aF Z)<|wD 11 Z (yF 0 0 uh RD Z)<|wD 12 Z (bW (q:=0) (rdr 0 Z) Ck BJ Z Z (au Z) cC cC Z)<|wD 13 Z (yL 0 Ej Z Z Z)<|wD 14 Z (bC Z)<|wN<|bN (R1:=((rc 250 5 g [PG g0,PG g1,PG g2,I cls,I o])::R)) hiZ ?_;exact⟨_,Z,Z,Z⟩
theorem oF (hk:cls*o=1):
  CT 130 #[PG g] B w0 ((rc 250 5 g [PG g0,PG g1,PG g2,I cls,I o])::R) (λv R'=>v=PG g1/\R'=(rc 250 5 g [PG g0,PG g1,PG g2,I cls,I o])::R):=by
 refine fn1 Iu Z Z Z ?_;refine wq<|wn Z<|aC<|bI mixed<|wD 0 Z (aK Z)<|wD 1 Z (aK Z)<|wD 2 Z (aF Z)<|wD 3 Z (yF 3 3 uh sz3 Z)<|wD 4 Z (yL 0 ai Z Z Z)<|wD 5 Z (aK Z)<|wD 6 Z (aF Z)<|wD 7 Z (yF 4 4 uh sz3 Z)<|wD 8 Z (yL 0 ai Z Z Z) ?_;refine wD 9 Z (Yl.is (iZ Z Z) (by rw[hk])) ?_;refine wD 10 Z (aF Z)<|wD 11 Z (yF 0 0 uh RD Z)<|wD 12 Z (bW (q:=1) (rdr 0 Z) Ck BJ Z Z (au Z) cC cC Z)<|wD 13 Z (yL 0 Ej Z Z Z)<|wD 14 Z (bC Z)<|wN<|bN (R1:=((rc 250 5 g [PG g0,PG g1,PG g2,I cls,I o])::R)) hiZ ?_;exact⟨_,Z,Z,Z⟩
theorem oD (hk:cls*o=2):
  CT 130 #[PG g] B w0 ((rc 250 5 g [PG g0,PG g1,PG g2,I cls,I o])::R) (λv R'=>v=PG g2/\R'=(rc 250 5 g [PG g0,PG g1,PG g2,I cls,I o])::R):=by
 refine fn1 Iu Z Z Z ?_;refine wq<|wn Z<|aC<|bI mixed<|wD 0 Z (aK Z)<|wD 1 Z (aK Z)<|wD 2 Z (aF Z)<|wD 3 Z (yF 3 3 uh sz3 Z)<|wD 4 Z (yL 0 ai Z Z Z)<|wD 5 Z (aK Z)<|wD 6 Z (aF Z)<|wD 7 Z (yF 4 4 uh sz3 Z)<|wD 8 Z (yL 0 ai Z Z Z) ?_;refine wD 9 Z (Yl.is (iZ Z Z) (by rw[hk])) ?_;refine wD 10 Z (aF Z)<|wD 11 Z (yF 0 0 uh RD Z)<|wD 12 Z (bW (q:=2) (rdr 0 Z) Ck BJ Z Z (au Z) cC cC Z)<|wD 13 Z (yL 0 Ej Z Z Z)<|wD 14 Z (bC Z)<|wN<|bN (R1:=((rc 250 5 g [PG g0,PG g1,PG g2,I cls,I o])::R)) hiZ ?_;exact⟨_,Z,Z,Z⟩
theorem LC (hk:cls*o=0) (hs:0<=ff/\ff<C.length) (dq:lC C):
  CT 134 #[PG g,I ff] B w0 ((rc 250 5 g [PG g0,PG g1,PG g2,I cls,I o])::(rc 256 2 g0 [sl A 258 c,I (aW C)])::(ri 3 A 258 c C)::R) (λv R'=>v= .tuple #[]/\R'=(rc 250 5 g [PG g0,PG g1,PG g2,I (iJ ff),I o])::(rc 256 2 g0 [sl A 258 c,I (aW (jX C ff))])::(ri 3 A 258 c (jX C ff))::R):=by
 have mj:=dq.1;refine fn0 Iw Z Z Z ?_;refine wq<|wm Z<|wa (aD nK Z (Ct.at 0 Z (oG cF))) ?_;rintro _ _⟨rfl,rfl⟩;refine wm Z<|wa (aD aXs Z (Ct.pick [1,2,0] 3 cC Z (wK (by rw[mj]) hs dq))) ?_;rintro _ _⟨rfl,rfl⟩;refine dB (R1:=((rc 250 5 g [PG g0,PG g1,PG g2,I cls,I o])::(rc 256 2 g0 [sl A 258 c,I (aW (jX C ff))])::(ri 3 A 258 c (jX C ff))::R)) (Sub.refl _) (λ_ h=>h.selR (F:=[_,_,_]) (F':=[_,_,_]) [2,0,1] cC Z)<|aA<|aL<|wm Z<|wm Z<|wa (aD aXr Z (Ct.quiet (λw hw=>zX))) ?_;rintro _ _⟨rfl,rfl⟩;refine wy (aF Z)<|wy (yF 3 3 uh sz3 Z)<|bV (aX 0 Z Z Z sz3 Z Z Z Z (au Z)) ?_;rintro _ _ rfl;refine aA ?_
 skip
 exact⟨Z,Z⟩
theorem LB (hk:cls*o=1) (hs:0<=ff/\ff<C.length) (dq:lC C):
  CT 134 #[PG g,I ff] B w0 ((rc 250 5 g [PG g0,PG g1,PG g2,I cls,I o])::(rc 256 2 g1 [sl A 258 c,I (aW C)])::(ri 3 A 258 c C)::R) (λv R'=>v= .tuple #[]/\R'=(rc 250 5 g [PG g0,PG g1,PG g2,I (iJ ff),I o])::(rc 256 2 g1 [sl A 258 c,I (aW (jX C ff))])::(ri 3 A 258 c (jX C ff))::R):=by
 have mj:=dq.1;refine fn0 Iw Z Z Z ?_;refine wq<|wm Z<|wa (aD nK Z (Ct.at 0 Z (oF cF))) ?_;rintro _ _⟨rfl,rfl⟩;refine wm Z<|wa (aD aXs Z (Ct.pick [1,2,0] 3 cC Z (wK (by rw[mj]) hs dq))) ?_;rintro _ _⟨rfl,rfl⟩;refine dB (R1:=((rc 250 5 g [PG g0,PG g1,PG g2,I cls,I o])::(rc 256 2 g1 [sl A 258 c,I (aW (jX C ff))])::(ri 3 A 258 c (jX C ff))::R)) (Sub.refl _) (λ_ h=>h.selR (F:=[_,_,_]) (F':=[_,_,_]) [2,0,1] cC Z)<|aA<|aL<|wm Z<|wm Z<|wa (aD aXr Z (Ct.quiet (λw hw=>zX))) ?_;rintro _ _⟨rfl,rfl⟩;refine wy (aF Z)<|wy (yF 3 3 uh sz3 Z)<|bV (aX 0 Z Z Z sz3 Z Z Z Z (au Z)) ?_;rintro _ _ rfl;refine aA ?_
 skip
 exact⟨Z,Z⟩
theorem KZ (hk:cls*o=2) (hs:0<=ff/\ff<C.length) (dq:lC C):
  CT 134 #[PG g,I ff] B w0 ((rc 250 5 g [PG g0,PG g1,PG g2,I cls,I o])::(rc 256 2 g2 [sl A 258 c,I (aW C)])::(ri 3 A 258 c C)::R) (λv R'=>v= .tuple #[]/\R'=(rc 250 5 g [PG g0,PG g1,PG g2,I (iJ ff),I o])::(rc 256 2 g2 [sl A 258 c,I (aW (jX C ff))])::(ri 3 A 258 c (jX C ff))::R):=by
 have mj:=dq.1;refine fn0 Iw Z Z Z ?_;refine wq<|wm Z<|wa (aD nK Z (Ct.at 0 Z (oD cF))) ?_;rintro _ _⟨rfl,rfl⟩;refine wm Z<|wa (aD aXs Z (Ct.pick [1,2,0] 3 cC Z (wK (by rw[mj]) hs dq))) ?_;rintro _ _⟨rfl,rfl⟩;refine dB (R1:=((rc 250 5 g [PG g0,PG g1,PG g2,I cls,I o])::(rc 256 2 g2 [sl A 258 c,I (aW (jX C ff))])::(ri 3 A 258 c (jX C ff))::R)) (Sub.refl _) (λ_ h=>h.selR (F:=[_,_,_]) (F':=[_,_,_]) [2,0,1] cC Z)<|aA<|aL<|wm Z<|wm Z<|wa (aD aXr Z (Ct.quiet (λw hw=>zX))) ?_;rintro _ _⟨rfl,rfl⟩;refine wy (aF Z)<|wy (yF 3 3 uh sz3 Z)<|bV (aX 0 Z Z Z sz3 Z Z Z Z (au Z)) ?_;rintro _ _ rfl;refine aA ?_
 skip
 exact⟨Z,Z⟩
theorem UV {s:PpS} (h:s.cls*o=0):kW o s x=⟨jX s.c0 x,s.c1,s.c2,iJ x,qN s.cd s.c0 x⟩:=by
 unfold kW aMy vU;rw[df h,df h]
theorem UU {s:PpS} (h:s.cls*o=1):kW o s x=⟨s.c0,jX s.c1 x,s.c2,iJ x,qN s.cd s.c1 x⟩:=by
 unfold kW aMy vU;rw[bz G,df h,bz G,df h]
theorem UT {s:PpS} (h:s.cls*o=2):kW o s x=⟨s.c0,s.c1,jX s.c2 x,iJ x,qN s.cd s.c2 x⟩:=by
 unfold kW aMy vU;rw[bz G,bz G,bz G,bz G]
theorem mV {s t:PpS} (h:s=encP o (l.take i.toNat)) (h0:0<=i) (hi:i<l.length) (ht:kW o s (rd l i)=t):t=encP o (l.take (i+1).toNat):=by
 rw[dH h0 hi,aPw,<-h,ht]
theorem WP {s:PpS} (hl:aIq l) (h:s=encP o (l.take i.toNat)):QK s/\s.cd.k<=2*l.length:=by
 have:=DW (o:=o) (l:=l.take i.toNat) (λx hx=>hl x (mg hx));rw[<-h,ax] at this;exact⟨this.1,G⟩
theorem OJ {s:PpS} (h:QK s) (ho:o=0\/o=1):s.cls*o=0\/s.cls*o=1\/s.cls*o=2:=by
 have:=h.2.1;rcases ho with rfl|rfl<;>omega
theorem xY {mu:AF} {sn mv:Nat} {b:AH} (jp:Rd w mu sn mv 1 (ints .u8 b)) (cr:aP b) (ho:o=0\/o=1) (hN:b.length<=100000):
  CF 75 #[sl mu sn mv,I o] w (λv R'=> ∃A c,v= .tuple #[sl A (bY b o).length c,bt]/\R'=[(ru 5 A ((bY b o).length) c (bY b o))]):=by
 obtain rfl:=jp.lenI;refine fn2 Tryz.func75 Z Z Z ?_;have Jl:=jp.max;have m7:=qM cr;have vf:=EX b;have Pt:=oW (bG aV b) 0;rw[fV] at Pt;have wk:(bK b).length=(bT 0 (bG aV b)).length+1:=by unfold bK;rw[ah];rfl
 refine wq<|wg Z<|wn Z<|aC<|wq<|wm Z<|wa (aD bGp Z (Ct.quiet (λw hw=>DD ho))) ?_;rintro _ _⟨rfl,rfl⟩;refine wy (dI Z)<|wm Z<|aB Z Z<|wm Z<|aB Z Z<|wy (aN af Z)<|aB Z Z<|wy (Yl.f (dE Z Z))<|wy (aO Z Z)<|aA<|aJ Z<|aI<|wq<|wm Z ?_;refine wa (aD bGo Z (Ct.fresh (λw hw=>SV))) ?_;rintro _ _⟨_,rfl,am,bx,du,fb,ef,dy,fc,dv,lz,bo,rfl,rfl⟩;refine wn Z<|wq<|wa (aD bPg Z (Ct.fresh (λw hw=>MR))) ?_;rintro _ _⟨_,rfl,gl,ln,co,rfl,rfl⟩;refine wn Z<|aC<|wq<|wm Z<|wa (aD bLp Z (Ct.fresh (λw hw=>SQ ((jp.c _) w hw) cr G))) ?_;rintro _ _⟨_,rfl,en,es,rfl,rfl⟩;refine wa (aD bPf Z (Ct.fresh (λw hw=>aMm ((rdr 0 Z) w hw) (lW cr) (by rw[fV];omega)))) ?_;rintro _ _⟨_,rfl,db,de,rfl,rfl⟩;refine wa (bH .i64 [257] aa zs3 Z Z Z) ?_;rintro _ _⟨gn,rfl,rfl⟩;refine wa (aS 1 Z aa zb3 Z Z Z (rdr 0 Z)) ?_;rintro _ _⟨gv,gw,rfl,rfl⟩;refine bF (v:=sl gv (((bT 0 (bG aV b)).length)+1) gw) Z<|wy (aN aa Z)<|wm Z<|aA<|aH ?_;refine JD (λ(i:Int) (Aw:AF) (cw:Nat) (Sx:PpS)=>[(6,PG am),(7,PG gl),(28,sl gv (((bT 0 (bG aV b)).length)+1) gw),(29,I ((((bT 0 (bG aV b)).length)+1:Nat):Int)),(30,I i)]) (λi Aw cw Sx=>[(ri 3 (GG gn) 1 1 ([257])),(ri 3 gv (((bT 0 (bG aV b)).length)+1) gw (syb b)),(ru 5 en ((b).length) es (bG aV b)),(rc 253 3 gl [sl Aw Sx.cd.k cw, .int .u64 (Sx.cd.N%4294967296), .int .u64 Sx.cd.R]),(ru 5 Aw Sx.cd.k cw (beL Sx.cd.k (Sx.cd.N/4294967296))),(rc 250 5 am [PG bx,PG du,PG fb,I Sx.cls,I o]),(rc 256 2 bx [sl ef 258 dv,I (aW Sx.c0)]),(ri 3 ef 258 dv Sx.c0),(rc 256 2 du [sl dy 258 lz,I (aW Sx.c1)]),(ri 3 dy 258 lz Sx.c1),(rc 256 2 fb [sl fc 258 bo,I (aW Sx.c2)]),(ri 3 fc 258 bo Sx.c2)]) (λi Aw cw Sx=>(0<=i)/\(i<=(bK b).length)/\(Sx=encP o ((bK b).take i.toNat))) (λi Aw cw Sx=>((bK b).length-i).toNat) ?_ ?_
 ·exact⟨0,ln,co,pp0,⟨G,G,(Z)⟩,KP⟩
 intro i Aw cw Sx ⟨aw,ia,hS⟩;have cj:=WP m7 hS;refine wq<|wL Z Z<|aA<|aC<|bA Z (λaq=> ?_) (λaq=> ?_)
 ·have hx:=m7 _ (bJ (L:=bK b) (k:=i) aw G);refine aI<|aC<|aH<|wq<|wy (aG aa sz3 Z Z (rdr 1 Z))<|wy (aR ai Z Z (rdr 1 Z))<|wn Z<|wq ?_;rcases OJ cj.1 ho with hk|hk|hk
  ·refine wm Z<|wa (aD nK Z (Ct.at 5 Z (oG hk))) ?_;rintro _ _⟨rfl,rfl⟩;refine wm Z<|wa (aD TL Z (Ct.sub (R1:=[(rc 256 2 bx [sl ef 258 dv,I (aW Sx.c0)]),(ri 3 ef 258 dv Sx.c0),(ri 3 (GG gn) 1 1 ([257])),(ri 3 gv (((bT 0 (bG aV b)).length)+1) gw (syb b)),(ru 5 en ((b).length) es (bG aV b)),(rc 253 3 gl [sl Aw Sx.cd.k cw, .int .u64 (Sx.cd.N%4294967296), .int .u64 Sx.cd.R]),(ru 5 Aw Sx.cd.k cw (beL Sx.cd.k (Sx.cd.N/4294967296))),(rc 250 5 am [PG bx,PG du,PG fb,I Sx.cls,I o]),(rc 256 2 du [sl dy 258 lz,I (aW Sx.c1)]),(ri 3 dy 258 lz Sx.c1),(rc 256 2 fb [sl fc 258 bo,I (aW Sx.c2)]),(ri 3 fc 258 bo Sx.c2)]) (λ_ h=>h.sel [6,7,0,1,2,3,4,5,8,9,10,11] cC Z) (kR (by rw[cj.1.1.1.1]) (by rw[cj.1.1.1.1];exact hx) cj.1.1.1))) ?_;rintro _ _⟨rfl,rfl⟩;refine wm Z<|wX Z Z<|wX Z Z<|wX Z Z<|wg Z<|wg Z<|wn Z<|wq<|wm Z<|wm Z<|wm Z<|wm Z<|wa (aD nK Z (Ct.at 7 Z (oG hk))) ?_;rintro _ _⟨rfl,rfl⟩;refine wa (aD NT Z (Ct.sub (R1:=[(rc 256 2 bx [sl ef 258 dv,I (aW Sx.c0)]),(ri 3 ef 258 dv Sx.c0),(ri 3 (GG gn) 1 1 ([257])),(ri 3 gv (((bT 0 (bG aV b)).length)+1) gw (syb b)),(ru 5 en ((b).length) es (bG aV b)),(rc 253 3 gl [sl Aw Sx.cd.k cw, .int .u64 (Sx.cd.N%4294967296), .int .u64 Sx.cd.R]),(ru 5 Aw Sx.cd.k cw (beL Sx.cd.k (Sx.cd.N/4294967296))),(rc 250 5 am [PG bx,PG du,PG fb,I Sx.cls,I o]),(rc 256 2 du [sl dy 258 lz,I (aW Sx.c1)]),(ri 3 dy 258 lz Sx.c1),(rc 256 2 fb [sl fc 258 bo,I (aW Sx.c2)]),(ri 3 fc 258 bo Sx.c2)]) hiZ (jC))) ?_;rintro _ _⟨rfl,rfl⟩;refine wa (aD aYd Z (Ct.sub (R1:=[(rc 253 3 gl [sl Aw Sx.cd.k cw, .int .u64 (Sx.cd.N%4294967296), .int .u64 Sx.cd.R]),(ru 5 Aw Sx.cd.k cw (beL Sx.cd.k (Sx.cd.N/4294967296))),(rc 256 2 bx [sl ef 258 dv,I (aW Sx.c0)]),(ri 3 ef 258 dv Sx.c0),(ri 3 (GG gn) 1 1 ([257])),(ri 3 gv (((bT 0 (bG aV b)).length)+1) gw (syb b)),(ru 5 en ((b).length) es (bG aV b)),(rc 250 5 am [PG bx,PG du,PG fb,I Sx.cls,I o]),(rc 256 2 du [sl dy 258 lz,I (aW Sx.c1)]),(ri 3 dy 258 lz Sx.c1),(rc 256 2 fb [sl fc 258 bo,I (aW Sx.c2)]),(ri 3 fc 258 bo Sx.c2)]) (λ_ h=>h.sel [5,6,0,1,2,3,4,7,8,9,10,11] cC Z) (MC Z cj.1.2.2 (jY cj.1.1.1 hx.1 hx.2) G))) ?_;rintro _ _⟨ov,oy,rfl,rfl⟩;refine aA<|aL<|wm Z<|wm Z<|wa (aD TK Z (Ct.sub (R1:=[(rc 250 5 am [PG bx,PG du,PG fb,I Sx.cls,I o]),(rc 256 2 bx [sl ef 258 dv,I (aW Sx.c0)]),(ri 3 ef 258 dv Sx.c0),(rc 253 3 gl [sl ov ((eY Sx.cd (aW (Sx.c0.take (rd (syb b) i).toNat)) (rd Sx.c0 (rd (syb b) i)) (aW Sx.c0)).k) oy, .int .u64 ((eY Sx.cd (aW (Sx.c0.take (rd (syb b) i).toNat)) (rd Sx.c0 (rd (syb b) i)) (aW Sx.c0)).N%4294967296), .int .u64 ((eY Sx.cd (aW (Sx.c0.take (rd (syb b) i).toNat)) (rd Sx.c0 (rd (syb b) i)) (aW Sx.c0)).R)]),(ru 5 ov ((eY Sx.cd (aW (Sx.c0.take (rd (syb b) i).toNat)) (rd Sx.c0 (rd (syb b) i)) (aW Sx.c0)).k) oy (beL (eY Sx.cd (aW (Sx.c0.take (rd (syb b) i).toNat)) (rd Sx.c0 (rd (syb b) i)) (aW Sx.c0)).k ((eY Sx.cd (aW (Sx.c0.take (rd (syb b) i).toNat)) (rd Sx.c0 (rd (syb b) i)) (aW Sx.c0)).N/4294967296))),(ri 3 (GG gn) 1 1 ([257])),(ri 3 gv (((bT 0 (bG aV b)).length)+1) gw (syb b)),(ru 5 en ((b).length) es (bG aV b)),(rc 256 2 du [sl dy 258 lz,I (aW Sx.c1)]),(ri 3 dy 258 lz Sx.c1),(rc 256 2 fb [sl fc 258 bo,I (aW Sx.c2)]),(ri 3 fc 258 bo Sx.c2)]) (λ_ h=>h.sel [7,2,3,0,1,4,5,6,8,9,10,11] cC Z) (LC hk (by rw[cj.1.1.1.1];exact hx) cj.1.1.1))) ?_;rintro _ _⟨rfl,rfl⟩;refine aA<|aL<|wA Z Z<|wm Z<|aA ?_;exact⟨i+1,ov,oy,(⟨jX Sx.c0 (rd (bK b) i),Sx.c1,Sx.c2,iJ (rd (bK b) i),qN Sx.cd Sx.c0 (rd (bK b) i)⟩:PpS),⟨G,G,(mV hS aw G (UV hk))⟩,G,SA,λ_ h=>h.sel [5,6,7,3,4,0,1,2,8,9,10,11] cC Z⟩
  ·refine wm Z<|wa (aD nK Z (Ct.at 5 Z (oF hk))) ?_;rintro _ _⟨rfl,rfl⟩;refine wm Z<|wa (aD TL Z (Ct.sub (R1:=[(rc 256 2 du [sl dy 258 lz,I (aW Sx.c1)]),(ri 3 dy 258 lz Sx.c1),(ri 3 (GG gn) 1 1 ([257])),(ri 3 gv (((bT 0 (bG aV b)).length)+1) gw (syb b)),(ru 5 en ((b).length) es (bG aV b)),(rc 253 3 gl [sl Aw Sx.cd.k cw, .int .u64 (Sx.cd.N%4294967296), .int .u64 Sx.cd.R]),(ru 5 Aw Sx.cd.k cw (beL Sx.cd.k (Sx.cd.N/4294967296))),(rc 250 5 am [PG bx,PG du,PG fb,I Sx.cls,I o]),(rc 256 2 bx [sl ef 258 dv,I (aW Sx.c0)]),(ri 3 ef 258 dv Sx.c0),(rc 256 2 fb [sl fc 258 bo,I (aW Sx.c2)]),(ri 3 fc 258 bo Sx.c2)]) (λ_ h=>h.sel [8,9,0,1,2,3,4,5,6,7,10,11] cC Z) (kR (by rw[cj.1.1.2.1.1]) (by rw[cj.1.1.2.1.1];exact hx) cj.1.1.2.1))) ?_;rintro _ _⟨rfl,rfl⟩;refine wm Z<|wX Z Z<|wX Z Z<|wX Z Z<|wg Z<|wg Z<|wn Z<|wq<|wm Z<|wm Z<|wm Z<|wm Z<|wa (aD nK Z (Ct.at 7 Z (oF hk))) ?_;rintro _ _⟨rfl,rfl⟩;refine wa (aD NT Z (Ct.sub (R1:=[(rc 256 2 du [sl dy 258 lz,I (aW Sx.c1)]),(ri 3 dy 258 lz Sx.c1),(ri 3 (GG gn) 1 1 ([257])),(ri 3 gv (((bT 0 (bG aV b)).length)+1) gw (syb b)),(ru 5 en ((b).length) es (bG aV b)),(rc 253 3 gl [sl Aw Sx.cd.k cw, .int .u64 (Sx.cd.N%4294967296), .int .u64 Sx.cd.R]),(ru 5 Aw Sx.cd.k cw (beL Sx.cd.k (Sx.cd.N/4294967296))),(rc 250 5 am [PG bx,PG du,PG fb,I Sx.cls,I o]),(rc 256 2 bx [sl ef 258 dv,I (aW Sx.c0)]),(ri 3 ef 258 dv Sx.c0),(rc 256 2 fb [sl fc 258 bo,I (aW Sx.c2)]),(ri 3 fc 258 bo Sx.c2)]) hiZ (jC))) ?_;rintro _ _⟨rfl,rfl⟩;refine wa (aD aYd Z (Ct.sub (R1:=[(rc 253 3 gl [sl Aw Sx.cd.k cw, .int .u64 (Sx.cd.N%4294967296), .int .u64 Sx.cd.R]),(ru 5 Aw Sx.cd.k cw (beL Sx.cd.k (Sx.cd.N/4294967296))),(rc 256 2 du [sl dy 258 lz,I (aW Sx.c1)]),(ri 3 dy 258 lz Sx.c1),(ri 3 (GG gn) 1 1 ([257])),(ri 3 gv (((bT 0 (bG aV b)).length)+1) gw (syb b)),(ru 5 en ((b).length) es (bG aV b)),(rc 250 5 am [PG bx,PG du,PG fb,I Sx.cls,I o]),(rc 256 2 bx [sl ef 258 dv,I (aW Sx.c0)]),(ri 3 ef 258 dv Sx.c0),(rc 256 2 fb [sl fc 258 bo,I (aW Sx.c2)]),(ri 3 fc 258 bo Sx.c2)]) (λ_ h=>h.sel [5,6,0,1,2,3,4,7,8,9,10,11] cC Z) (MC Z cj.1.2.2 (jY cj.1.1.2.1 hx.1 hx.2) G))) ?_;rintro _ _⟨pm,pn,rfl,rfl⟩;refine aA<|aL<|wm Z<|wm Z<|wa (aD TK Z (Ct.sub (R1:=[(rc 250 5 am [PG bx,PG du,PG fb,I Sx.cls,I o]),(rc 256 2 du [sl dy 258 lz,I (aW Sx.c1)]),(ri 3 dy 258 lz Sx.c1),(rc 253 3 gl [sl pm ((eY Sx.cd (aW (Sx.c1.take (rd (syb b) i).toNat)) (rd Sx.c1 (rd (syb b) i)) (aW Sx.c1)).k) pn, .int .u64 ((eY Sx.cd (aW (Sx.c1.take (rd (syb b) i).toNat)) (rd Sx.c1 (rd (syb b) i)) (aW Sx.c1)).N%4294967296), .int .u64 ((eY Sx.cd (aW (Sx.c1.take (rd (syb b) i).toNat)) (rd Sx.c1 (rd (syb b) i)) (aW Sx.c1)).R)]),(ru 5 pm ((eY Sx.cd (aW (Sx.c1.take (rd (syb b) i).toNat)) (rd Sx.c1 (rd (syb b) i)) (aW Sx.c1)).k) pn (beL (eY Sx.cd (aW (Sx.c1.take (rd (syb b) i).toNat)) (rd Sx.c1 (rd (syb b) i)) (aW Sx.c1)).k ((eY Sx.cd (aW (Sx.c1.take (rd (syb b) i).toNat)) (rd Sx.c1 (rd (syb b) i)) (aW Sx.c1)).N/4294967296))),(ri 3 (GG gn) 1 1 ([257])),(ri 3 gv (((bT 0 (bG aV b)).length)+1) gw (syb b)),(ru 5 en ((b).length) es (bG aV b)),(rc 256 2 bx [sl ef 258 dv,I (aW Sx.c0)]),(ri 3 ef 258 dv Sx.c0),(rc 256 2 fb [sl fc 258 bo,I (aW Sx.c2)]),(ri 3 fc 258 bo Sx.c2)]) (λ_ h=>h.sel [7,2,3,0,1,4,5,6,8,9,10,11] cC Z) (LB hk (by rw[cj.1.1.2.1.1];exact hx) cj.1.1.2.1))) ?_;rintro _ _⟨rfl,rfl⟩;refine aA<|aL<|wA Z Z<|wm Z<|aA ?_;exact⟨i+1,pm,pn,(⟨Sx.c0,jX Sx.c1 (rd (bK b) i),Sx.c2,iJ (rd (bK b) i),qN Sx.cd Sx.c1 (rd (bK b) i)⟩:PpS),⟨G,G,(mV hS aw G (UU hk))⟩,G,SA,λ_ h=>h.sel [5,6,7,3,4,0,8,9,1,2,10,11] cC Z⟩
  ·refine wm Z<|wa (aD nK Z (Ct.at 5 Z (oD hk))) ?_;rintro _ _⟨rfl,rfl⟩;refine wm Z<|wa (aD TL Z (Ct.sub (R1:=[(rc 256 2 fb [sl fc 258 bo,I (aW Sx.c2)]),(ri 3 fc 258 bo Sx.c2),(ri 3 (GG gn) 1 1 ([257])),(ri 3 gv (((bT 0 (bG aV b)).length)+1) gw (syb b)),(ru 5 en ((b).length) es (bG aV b)),(rc 253 3 gl [sl Aw Sx.cd.k cw, .int .u64 (Sx.cd.N%4294967296), .int .u64 Sx.cd.R]),(ru 5 Aw Sx.cd.k cw (beL Sx.cd.k (Sx.cd.N/4294967296))),(rc 250 5 am [PG bx,PG du,PG fb,I Sx.cls,I o]),(rc 256 2 bx [sl ef 258 dv,I (aW Sx.c0)]),(ri 3 ef 258 dv Sx.c0),(rc 256 2 du [sl dy 258 lz,I (aW Sx.c1)]),(ri 3 dy 258 lz Sx.c1)]) (λ_ h=>h.sel [10,11,0,1,2,3,4,5,6,7,8,9] cC Z) (kR (by rw[cj.1.1.2.2.1]) (by rw[cj.1.1.2.2.1];exact hx) cj.1.1.2.2))) ?_;rintro _ _⟨rfl,rfl⟩;refine wm Z<|wX Z Z<|wX Z Z<|wX Z Z<|wg Z<|wg Z<|wn Z<|wq<|wm Z<|wm Z<|wm Z<|wm Z<|wa (aD nK Z (Ct.at 7 Z (oD hk))) ?_;rintro _ _⟨rfl,rfl⟩;refine wa (aD NT Z (Ct.sub (R1:=[(rc 256 2 fb [sl fc 258 bo,I (aW Sx.c2)]),(ri 3 fc 258 bo Sx.c2),(ri 3 (GG gn) 1 1 ([257])),(ri 3 gv (((bT 0 (bG aV b)).length)+1) gw (syb b)),(ru 5 en ((b).length) es (bG aV b)),(rc 253 3 gl [sl Aw Sx.cd.k cw, .int .u64 (Sx.cd.N%4294967296), .int .u64 Sx.cd.R]),(ru 5 Aw Sx.cd.k cw (beL Sx.cd.k (Sx.cd.N/4294967296))),(rc 250 5 am [PG bx,PG du,PG fb,I Sx.cls,I o]),(rc 256 2 bx [sl ef 258 dv,I (aW Sx.c0)]),(ri 3 ef 258 dv Sx.c0),(rc 256 2 du [sl dy 258 lz,I (aW Sx.c1)]),(ri 3 dy 258 lz Sx.c1)]) hiZ (jC))) ?_;rintro _ _⟨rfl,rfl⟩;refine wa (aD aYd Z (Ct.sub (R1:=[(rc 253 3 gl [sl Aw Sx.cd.k cw, .int .u64 (Sx.cd.N%4294967296), .int .u64 Sx.cd.R]),(ru 5 Aw Sx.cd.k cw (beL Sx.cd.k (Sx.cd.N/4294967296))),(rc 256 2 fb [sl fc 258 bo,I (aW Sx.c2)]),(ri 3 fc 258 bo Sx.c2),(ri 3 (GG gn) 1 1 ([257])),(ri 3 gv (((bT 0 (bG aV b)).length)+1) gw (syb b)),(ru 5 en ((b).length) es (bG aV b)),(rc 250 5 am [PG bx,PG du,PG fb,I Sx.cls,I o]),(rc 256 2 bx [sl ef 258 dv,I (aW Sx.c0)]),(ri 3 ef 258 dv Sx.c0),(rc 256 2 du [sl dy 258 lz,I (aW Sx.c1)]),(ri 3 dy 258 lz Sx.c1)]) (λ_ h=>h.sel [5,6,0,1,2,3,4,7,8,9,10,11] cC Z) (MC Z cj.1.2.2 (jY cj.1.1.2.2 hx.1 hx.2) G))) ?_;rintro _ _⟨py,qe,rfl,rfl⟩;refine aA<|aL<|wm Z<|wm Z<|wa (aD TK Z (Ct.sub (R1:=[(rc 250 5 am [PG bx,PG du,PG fb,I Sx.cls,I o]),(rc 256 2 fb [sl fc 258 bo,I (aW Sx.c2)]),(ri 3 fc 258 bo Sx.c2),(rc 253 3 gl [sl py ((eY Sx.cd (aW (Sx.c2.take (rd (syb b) i).toNat)) (rd Sx.c2 (rd (syb b) i)) (aW Sx.c2)).k) qe, .int .u64 ((eY Sx.cd (aW (Sx.c2.take (rd (syb b) i).toNat)) (rd Sx.c2 (rd (syb b) i)) (aW Sx.c2)).N%4294967296), .int .u64 ((eY Sx.cd (aW (Sx.c2.take (rd (syb b) i).toNat)) (rd Sx.c2 (rd (syb b) i)) (aW Sx.c2)).R)]),(ru 5 py ((eY Sx.cd (aW (Sx.c2.take (rd (syb b) i).toNat)) (rd Sx.c2 (rd (syb b) i)) (aW Sx.c2)).k) qe (beL (eY Sx.cd (aW (Sx.c2.take (rd (syb b) i).toNat)) (rd Sx.c2 (rd (syb b) i)) (aW Sx.c2)).k ((eY Sx.cd (aW (Sx.c2.take (rd (syb b) i).toNat)) (rd Sx.c2 (rd (syb b) i)) (aW Sx.c2)).N/4294967296))),(ri 3 (GG gn) 1 1 ([257])),(ri 3 gv (((bT 0 (bG aV b)).length)+1) gw (syb b)),(ru 5 en ((b).length) es (bG aV b)),(rc 256 2 bx [sl ef 258 dv,I (aW Sx.c0)]),(ri 3 ef 258 dv Sx.c0),(rc 256 2 du [sl dy 258 lz,I (aW Sx.c1)]),(ri 3 dy 258 lz Sx.c1)]) (λ_ h=>h.sel [7,2,3,0,1,4,5,6,8,9,10,11] cC Z) (KZ hk (by rw[cj.1.1.2.2.1];exact hx) cj.1.1.2.2))) ?_;rintro _ _⟨rfl,rfl⟩;refine aA<|aL<|wA Z Z<|wm Z<|aA ?_;exact⟨i+1,py,qe,(⟨Sx.c0,Sx.c1,jX Sx.c2 (rd (bK b) i),iJ (rd (bK b) i),qN Sx.cd Sx.c2 (rd (bK b) i)⟩:PpS),⟨G,G,(mV hS aw G (UT hk))⟩,G,SA,λ_ h=>h.sel [5,6,7,3,4,0,8,9,10,11,1,2] cC Z⟩
 ·refine aU<|wq<|wm Z<|wa (aD bPe Z (Ct.sub (R1:=[(rc 253 3 gl [sl Aw Sx.cd.k cw, .int .u64 (Sx.cd.N%4294967296), .int .u64 Sx.cd.R]),(ru 5 Aw Sx.cd.k cw (beL Sx.cd.k (Sx.cd.N/4294967296))),(ri 3 (GG gn) 1 1 ([257])),(ri 3 gv (((bT 0 (bG aV b)).length)+1) gw (syb b)),(ru 5 en ((b).length) es (bG aV b)),(rc 250 5 am [PG bx,PG du,PG fb,I Sx.cls,I o]),(rc 256 2 bx [sl ef 258 dv,I (aW Sx.c0)]),(ri 3 ef 258 dv Sx.c0),(rc 256 2 du [sl dy 258 lz,I (aW Sx.c1)]),(ri 3 dy 258 lz Sx.c1),(rc 256 2 fb [sl fc 258 bo,I (aW Sx.c2)]),(ri 3 fc 258 bo Sx.c2)]) (λ_ h=>h.sel [3,4,0,1,2,5,6,7,8,9,10,11] cC Z) (aXe Z G))) ?_;rintro _ _⟨n5,o3,rfl,rfl⟩;refine wg Z<|wn Z<|bN (R1:=[(ru 5 n5 (Sx.cd.k+4) o3 (beL (Sx.cd.k+4) Sx.cd.N))]) (λ_ h=>h.sel [0] cC Z) ?_;refine⟨_,_,Z,Z,?_⟩;rw[bg G] at hS;have e:(bY b o).length=Sx.cd.k+4:=by unfold bY;rw[jW,<-hS]
  have e2:bY b o=beL (Sx.cd.k+4) Sx.cd.N:=by unfold bY;rw[<-hS]
  rw[e,e2];exact⟨_,_,Z,Z⟩
end Go.Proofs.YtdbebmmhdefgdaaGreat
namespace Go.Pure
open Go Go.Eng
variable {k i b d s r x:Int} {t l:AH} {B:Nat} {w0:World} {R:List Row} {vals:AG} {ls:AD}
def TM (x:BitVec 32):BitVec 32:=if x &&& 1#32=1#32 then(x>>>1)^^^3988292384#32 else x>>>1
def GH:Nat->BitVec 32->BitVec 32
 |0,x=>x
 |k+1,x=>GH k (TM x)
def QI (x:BitVec 32):BitVec 32:=GH 8 x
theorem yG {x:BitVec 32} (h:k<8):GH (8-k).toNat x=GH (8-(k+1)).toNat (TM x):=by
 have e:(8-k).toNat=(8-(k+1)).toNat+1:=G
 rw[e];rfl
def aDi (x:BitVec 32) (b:Int):BitVec 32:=(x &&& 255#32)^^^BitVec.ofInt 32 b
def bPq (x:BitVec 32) (b:Int):BitVec 32:=(x>>>8)^^^QI (aDi x b)
def EE (x:BitVec 32) (l:AH):BitVec 32:=l.foldl bPq x
def iN (l:AH):BitVec 32:=EE 4294967295#32 l^^^4294967295#32
def sG:AH:=(List.range 256).map λi=>bv (QI (BitVec.ofNat 32 i))
theorem xC:sG.length=256:=by unfold sG;rw[cu,Dm]
theorem aLh {i:Nat} (h:i<256):sG[i]? =some (bv (QI (BitVec.ofNat 32 i))):=by
 unfold sG;rw[tq,Al h];rfl
theorem SK (i:Nat):BitVec.ofInt 32 (i:Int)=BitVec.ofNat 32 i:=rfl
theorem aDh {x:BitVec 32} (hb:0<=b/\b<256):(aDi x b).toNat=(x.toNat%256)^^^b.toNat:=by
 obtain⟨b,rfl⟩: ∃m:Nat,b=m:=⟨b.toNat,G⟩;unfold aDi;have e1:(255#32).toNat=2^8-1:=rfl;have e2:(BitVec.ofInt 32 (b:Int)).toNat=b:=by rw[SK,BitVec.toNat_ofNat];omega
 rw[BitVec.toNat_xor,BitVec.toNat_and,e1,e2,Ea,cz]
theorem JX {x:BitVec 32} (hb:0<=b/\b<256):0<=bv (aDi x b)/\bv (aDi x b)<256:=by
 have h:(aDi x b).toNat<2^8:=by
  rw[aDh hb];exact Nat.xor_lt_two_pow (by have:=ze x.toNat (show 0<256 by omega);omega) G
 unfold bv;omega
theorem bHa {x:BitVec 32} (hb:0<=b/\b<256):((BitVec.ofInt 8 (IntKind.u8.wrap (bv x))^^^BitVec.ofInt 8 b).toNat:Int)=bv (aDi x b):=by
 have h:=aDh (x:=x) hb;unfold bv;rw[h,BitVec.toNat_xor,zk,zk,Cm];have e1:(((x.toNat:Int)%256)%((2^8:Nat):Int)).toNat=x.toNat%256:=G
 have e2:(b%((2^8:Nat):Int)).toNat=b.toNat:=G
 rw[e1,e2]
def uW (d s r:Int) (t:AH):AG:=[.int .u32 d, .int .i32 s, .int .u32 0, .int .i32 r]++ints .u32 t
def dP (T g:Nat) (d s r:Int) (t:AH):Row:=⟨T,260,some ⟨g,0,none⟩,1,1,uW d s r t,false⟩
theorem GI (d s r:Int) (t:AH):(uW d s r t).length=4+t.length:=by
 unfold uW;rw[ah,cZ];rfl
theorem aYv {i:Nat} (h:t[i]? =some x):(uW d s r t)[4+i]? =some (.int .u32 x):=by
 unfold uW;rw[ig cD];simp[ints,h]
theorem aQk {i:Nat}:(uW d s r t).set (4+i) (.int .u32 x)=uW d s r (t.set i x):=by
 unfold uW ints;rw[Dz _ _ cD,List.map_set];simp
theorem aQj (ht:t.length=256) (h0:0<=k) (h1:k<256):(sG.take k.toNat++t.drop k.toNat).set k.toNat (bv (QI (BitVec.ofInt 32 k)))=sG.take (k+1).toNat++t.drop (k+1).toNat:=by
 obtain⟨k,rfl⟩: ∃m:Nat,k=m:=⟨k.toNat,G⟩;have e:((k:Int)+1).toNat=k+1:=G
 rw[e,cz,SK];have hk:k<sG.length:=by rw[xC];omega
 have hl:(sG.take k).length=k:=by rw[ax];omega
 rw[Dz _ _ G,hl,zh,kv (by omega:k<t.length),Gi,uf,aLh G];simp
theorem bEh {x:BitVec 32} (h:bv x<256):sG[(bv x).toNat]? =some (bv (QI x)):=by
 have e:(bv x).toNat=x.toNat:=by unfold bv;rw[cz]
 rw[e,aLh (by unfold bv at h;omega),BitVec.ofNat_toNat,BitVec.setWidth_eq]
def AC (B:Nat) (w0:World) (R:List Row) (vals:AG) (ls:AD):Prop:=vals.length=ls.length/\ ∀(j:Nat) (v:Value),vals[j]? =some v-> ∃(A:AF) (c:Nat) (l:AH),v=Value.slice A l.length c/\ls[j]? =some l/\RdC B w0 R A l.length c 1 (ints .u8 l)/\aP l
theorem AC.at (h:AC B w0 R vals ls) (h0:0<=i) (h1:i<vals.length): ∃(A:AF) (c:Nat) (l:AH),vals[i.toNat]? =some (Value.slice A l.length c)/\ls[i.toNat]? =some l/\RdC B w0 R A l.length c 1 (ints .u8 l)/\aP l:=by
 have bc:i.toNat<vals.length:=G
 obtain⟨A,c,l,e,h2,h3,h4⟩:=h.2 i.toNat _ (av bc);exact⟨A,c,l,by rw[av bc,e],h2,h3,h4⟩
theorem AC.one {A:AF} {c n:Nat} (h:RdC B w0 R A n c 1 (ints .u8 l)) (hb:aP l) (hn:n=l.length):AC B w0 R [.slice A n c] [l]:=by
 subst hn
 exact⟨rfl,λj v hv=>by
  cases j with
  |zero=>exact⟨A,c,l,by simpa using hv.symm,rfl,h,hb⟩
  |succ j=>simp at hv⟩
theorem AC.of {w:World} (h:SlW .u8 w vals ls):AC w.heap.size w R vals ls:=
 ⟨h.1,λj v hv=>by
  have bc:j<ls.length:=by rw[<-h.1];exact(dw.1 hv).1
  obtain⟨A,c,h1,h2,h3,_⟩:=h.2 j bc;rw[h1] at hv;have e:ls.getD j []=ls[j]:=by simp[ak,av bc]
  rw[e] at hv h2 h3
  exact⟨A,c,ls[j],(jc hv).symm,av bc,h2.c R,xD h3⟩⟩
def Big (ls:AD):Prop:=ls.length<=1000000/\ ∀(j:Nat) (l:AH),ls[j]? =some l->l.length<=1000000
theorem Big.one (h:l.length<=1000000):Big [l]:=⟨cD,λj q hq=>by
 cases j with
 |zero=>simp at hq;subst hq;exact h
 |succ j=>simp at hq⟩
theorem Big.nil:Big []:=⟨cD,λj q hq=>by simp at hq⟩
theorem Big.snoc {q:AH} (h:Big ls) (h1:ls.length<1000000) (h2:q.length<=1000000):Big (ls++[q]):=⟨cH,λj r hr=>by
 rw[List.getElem?_append] at hr;split at hr
 ·exact h.2 j r hr
 ·rename_i hj
  have hz:j-ls.length=0:=by
   rcases ed (j-ls.length) with e|e
   ·exact e
   ·rw[mo cH] at hr;cases hr
  rw[hz] at hr;simp at hr
  rw[<-hr];exact h2⟩
theorem AC.nil:AC B w0 R [] []:=⟨rfl,λj v hv=>by simp at hv⟩
theorem aQf (h0:0<=i) (h:ls[i.toNat]? =some l):(ls.drop i.toNat).flatten=l++(ls.drop (i+1).toNat).flatten:=by
 have bc:i.toNat<ls.length:=(dw.1 h).1;have e:(i+1).toNat=i.toNat+1:=G
 rw[kv bc,(dw.1 h).2,e];rfl
theorem OS {x:BitVec 32} {m:AH} (h0:0<=i) (h:i<l.length):EE x (l.drop i.toNat++m)=EE (bPq x (rd l i)) (l.drop (i+1).toNat++m):=by
 rw[iX h0 h];rfl
theorem NU {α:Type} {l:List α} (h:(l.length:Int)<=i):l.drop i.toNat=[]:=ou G
end Go.Pure
namespace Go.Proofs.YtdbebmmhdefgdaaGreat
open Go Go.Eng Go.Pure
theorem HV (w:World):(callFunc 306 #[]).run Tryz.prog w= .ok (.value (.tuple #[])) w:=run_call_mark0 Tryz.func306 cA cA cA .disable cA w
theorem LX (w:World):(callFunc 308 #[]).run Tryz.prog w= .ok (.value (.tuple #[])) w:=run_call_mark0 Tryz.func308 cA cA cA .enable cA w
theorem aAa (a:Addr) (w:World):(callFunc 309 #[.pointer (some a)]).run Tryz.prog w= .ok (.value (.tuple #[])) w:=run_call_marked Tryz.func309 cA cA cA .acquire cA a w
theorem FI (a:Addr) (w:World):(callFunc 311 #[.pointer (some a)]).run Tryz.prog w= .ok (.value (.tuple #[])) w:=run_call_marked Tryz.func311 cA cA cA .releaseMerge cA a w
theorem PP (a:Addr) (x:Value) (u:FrameMode) (w:World) (hc:w.cell? a=some x) (hz:w.frozen? a=false):
  CallsD Tryz.prog 256 #[.pointer (some a), .bool true] u w λe u' w'=>u'=u/\(e= .returned (.tuple #[])/\w'=w.drew.setCell a (.int .u32 1)):=by
 have Yb:w.drew.cell? a=some x:=by go_simp
 have hz':w.drew.frozen? a=false:=by go_simp
 have gs:=run_call_store (P:=Tryz.prog) Tryz.func288 cA cA cA cA (k:= .u32) (y:=1) Yb hz'
 go_enter_d Tryz.func256,Tryz.ntmps256
 go_wp2
 go_region_calls
 all_goals (go_end0;exact⟨rfl,rfl⟩)
set_option maxRecDepth 100000 in
theorem KR (a:Addr) (u:FrameMode) (w:World) (hc:w.cell? a=some (.int .i32 1)) (hz:w.frozen? a=false):
  CallsD Tryz.prog 255 #[.pointer (some a)] u w λe u' w'=>u'=u/\(e= .returned (.tuple #[])/\w'=w.setCell a (.int .i32 0)):=by
 have hd:=HV;have he:=LX;have hr:=FI;have Lq:=Ga (P:=Tryz.prog) Tryz.func257 cA cA cA .i32 cA (y:= -1) (s:=0) hc hz (by simp[go_sem];rfl);have hcv:=run_convert_to_unsafe (P:=Tryz.prog) (src:=340) (dst:=343) Tryz.underlying340 Tryz.underlying343 cA hc
 go_enter_d Tryz.func255,Tryz.ntmps255
 go_wp2
 go_end0
 go_wp2
 go_end0
 exact⟨rfl,rfl⟩
set_option maxRecDepth 100000 in
theorem aVo (a:Addr) (w:World) (hc:w.cell? a=some (.int .i32 0)) (hz:w.frozen? a=false):
  Calls Tryz.prog 254 #[.pointer (some a)] w λe w'=>e= .returned (.tuple #[])/\w'=w.setCell a (.int .i32 1):=by
 have hd:=HV;have he:=LX;have ha:=aAa;have hcas:=run_call_cas_hit (P:=Tryz.prog) Tryz.func307 cA cA cA .i32 cA (y:=1) hc hz;have Yb:(w.setCell a (.int .i32 1)).cell? a=some (.int .i32 1):=World.cell?_setCell_same w a _ hc;have hcv:=run_convert_to_unsafe (P:=Tryz.prog) (src:=340) (dst:=343) Tryz.underlying340 Tryz.underlying343 cA Yb
 go_enter Tryz.func254,Tryz.ntmps254
 go_wp2
 first|go_end0|(simp only[Exit.inBlock,Exit.then];refine bodyPost_ret (results_none rfl _ _ _) rfl ?_)|refine bodyPost_ret (results_none rfl _ _ _) rfl ?_
 go_wp2
 go_end0
 exact⟨rfl,rfl⟩
section
variable {B:Nat} {w0:World} {R:List Row} {T g:Nat} {r r':Int} {t t':AH}
theorem DY {w:World} {d s:Int} (h:Hp B w0 w (dP T g d s r t::R)) (j:Nat):w.frozen? ⟨g,j,none⟩=false:=h.openAt 0 j rfl rfl rfl
theorem DZ {w:World} {d s:Int} (h:Hp B w0 w (dP T g d s r t::R)):w.cell? ⟨g,0,none⟩=some (.int .u32 d):=h.cellAt 0 (r:=dP T g d s r t) (j:=0) rfl rfl rfl
theorem aCx {w:World} {d s:Int} (h:Hp B w0 w (dP T g d s r t::R)):w.cell? ⟨g,1,none⟩=some (.int .i32 s):=h.cellAt 0 (r:=dP T g d s r t) (j:=1) rfl rfl rfl
theorem aYt {w:World} {d s:Int} (h:Hp B w0 w (dP T g d s r t::R)):w.cell? ⟨g,3,none⟩=some (.int .i32 r):=h.cellAt 0 (r:=dP T g d s r t) (j:=3) rfl rfl rfl
theorem aCw {w:World} {d s:Int} (h:Hp B w0 w (dP T g d s r t::R)) (x:Int):Hp B w0 (w.setCell ⟨g,0,none⟩ (.int .u32 x)) (dP T g x s r t::R):=h.set1 0 (r:=dP T g d s r t) (j:=0) (v:= .int .u32 x) rfl rfl rfl
theorem II {w:World} {d s:Int} (h:Hp B w0 w (dP T g d s r t::R)) (x:Int):Hp B w0 (w.setCell ⟨g,1,none⟩ (.int .i32 x)) (dP T g d x r t::R):=h.set1 0 (r:=dP T g d s r t) (j:=1) (v:= .int .i32 x) rfl rfl rfl
theorem aCv {w:World} {d s:Int} (h:Hp B w0 w (dP T g d s r t::R)) (x:Int):Hp B w0 (w.setCell ⟨g,3,none⟩ (.int .i32 x)) (dP T g d s x t::R):=h.set1 0 (r:=dP T g d s r t) (j:=3) (v:= .int .i32 x) rfl rfl rfl
theorem aYu {w:World} {R:List Row} (h:Hp B w0 w R):Hp B w0 w.drew R:=h.drawn _ (Eu _)
set_option maxRecDepth 100000 in
theorem aVa {w:World} (hh:Hp B w0 w (dP T g 0 0 r t::R)) (hm: ∀w,Hp B w0 w (dP T g 0 1 r t::R)->Calls Tryz.prog 137 #[.pointer (some ⟨g,0,none⟩)] w λe w'=>e= .returned (.tuple #[])/\Hp B w0 w' (dP T g 0 1 r' t'::R)):
  Calls Tryz.prog 208 #[.pointer (some ⟨g,0,none⟩), .func (.func 137) #[.pointer (some ⟨g,0,none⟩)] #[]] w λe w'=>e= .returned (.tuple #[])/\Hp B w0 w' (dP T g 1 0 r' t'::R):=by
 have h1:=II hh 1;have hl:=run_call_load (P:=Tryz.prog) Tryz.func253 cA cA cA .u32 cA (DZ h1);have s5: ∀(x:Bool) (w:World),(Op.unary .not (.bool x)).run Tryz.prog w= .ok (.bool (!x)) w:=λ_ _=>rfl;have k1:=aCx hh;have k2:=DY hh 1
 go_enter_defers Tryz.func208,Tryz.ntmps208
 go_wp2_with (first|(go_at_call 254;refine(aVo ⟨g,1,none⟩ _ (by go_simp) (by go_simp)).mono ?_;rintro e w' ⟨rfl,rfl⟩)|(go_at_call 137;refine(hm _ h1).mono ?_;rintro e w' ⟨rfl,h2⟩)|(go_at_call 207;go_in))
 refine leaves_cons (f:=256) (args:= #[.pointer (some ⟨g,0,none⟩), .bool true]) cD (by simp[go_sem]) ?_;refine(PP ⟨g,0,none⟩ _ .returning _ (DZ h2) (DY h2 0)).mono ?_;rintro e u' Ms ⟨rfl,rfl,rfl⟩;have h3:=aCw (aYu h2) 1;refine leaves_cons (f:=255) (args:= #[.pointer (some ⟨g,1,none⟩)]) (by simp[settle]) (by simp[go_sem]) ?_;refine(KR ⟨g,1,none⟩ _ _ (aCx h3) (DY h3 1)).mono ?_;rintro e u' Ms ⟨rfl,rfl,rfl⟩;have h4:=II h3 0;simp[Leaves,settle,results,Tryz.results208];exact h4
set_option maxRecDepth 100000 in
theorem aOf (hm: ∀w,Hp B w0 w (dP T g 0 1 r t::R)->Calls Tryz.prog 137 #[.pointer (some ⟨g,0,none⟩)] w λe w'=>e= .returned (.tuple #[])/\Hp B w0 w' (dP T g 0 1 r' t'::R)):
  Ct Tryz.prog 136 #[.pointer (some ⟨g,0,none⟩), .func (.func 137) #[.pointer (some ⟨g,0,none⟩)] #[]] B w0 (dP T g 0 0 r t::R) (λv R'=>v= .tuple #[]/\R'=dP T g 1 0 r' t'::R):=by
 intro w hh;have hl:=run_call_load (P:=Tryz.prog) Tryz.func253 cA cA cA .u32 cA (DZ hh);have s5: ∀(x:Bool) (w:World),(Op.unary .not (.bool x)).run Tryz.prog w= .ok (.bool (!x)) w:=λ_ _=>rfl
 go_enter Tryz.func136,Tryz.ntmps136
 go_wp2_with (first|(go_at_call 208;refine(aVa hh hm).mono ?_;rintro e w' ⟨rfl,h2⟩)|(go_at_call 207;go_in))
 go_end0
 exact⟨_,_,rfl,h2,rfl,rfl⟩
theorem aVb {fv:Value}:Ct Tryz.prog 136 #[.pointer (some ⟨g,0,none⟩),fv] B w0 (dP T g 1 0 r t::R) (λv R'=>v= .tuple #[]/\R'=dP T g 1 0 r t::R):=by
 intro w hh;have hl:=run_call_load (P:=Tryz.prog) Tryz.func253 cA cA cA .u32 cA (DZ hh);have s5: ∀(x:Bool) (w:World),(Op.unary .not (.bool x)).run Tryz.prog w= .ok (.bool (!x)) w:=λ_ _=>rfl
 go_enter Tryz.func136,Tryz.ntmps136
 go_wp2
 go_end0
 exact⟨_,_,rfl,hh,rfl,rfl⟩
theorem bBh (hr:0<=r/\r<1000000): ∀ {d s:Int} {w:World},Hp B w0 w (dP T g d s r t::R)-> ∃w',(callFunc 257 #[.pointer (some ⟨g,3,none⟩), .int .i32 1]).run Tryz.prog w= .ok (.value (.int .i32 (r+1))) w'/\Hp B w0 w' (dP T g d s (r+1) t::R):=by
 intro d s w hh;refine⟨_,Ga (P:=Tryz.prog) Tryz.func257 cA cA cA .i32 cA (y:=1) (s:=r+1) (aYt hh) (DY hh 3) ?_,aCv hh (r+1)⟩;have:IntKind.i32.wrap (r+1)=r+1:=by rw[IntKind.wrap_i32];omega
 simp[Op.intArith,this]
end
open Tryz
set_option maxRecDepth 100000
variable {w w0:World} {B T g:Nat} {R:List Row} {d s r r':Int} {t:AH}
theorem aFy {i:Int}:
  CF 214 #[I i] w (λv R'=>v= .int .u32 (bv (QI (BitVec.ofInt 32 i)))):=by
 refine fn1 Tryz.func214 Z Z Z ?_;refine wq<|wn Z<|wq<|wm Z<|wy (UH ai qw Z)<|wn Z<|aC<|wq<|wn Z ?_;refine aH ?_;refine dM (λ(k:Int) (x:BitVec 32)=>[(3, .int .u32 (bv x)),(4,I k)]) (λk x=>[]) (λk x=>(0<=k)/\(k<=8)/\(QI (BitVec.ofInt 32 i)=GH (8-k).toNat x)) (λk x=>(8-k).toNat) ?_ ?_
 ·exact⟨0,BitVec.ofInt 32 i,⟨G,G,(Z)⟩,KP⟩
 intro k x ⟨md,hk8,hx⟩;refine aC<|wq<|wm Z<|wL Z Z<|aA<|bA Z (λaq=> ?_) (λaq=> ?_)
 ·refine aI<|aC<|aH<|wq<|wm Z<|wy (aEc (p:=x) (q:=1#32) Z Z)<|wy (bFg (p:=x &&& (1#32)) (q:=1#32) Z Z)<|aA<|bA Z (λbp=> ?_) (λbp=> ?_)
  ·refine aL<|wm Z<|wy (KD (k:=1) Z Z Z)<|wy (EN (p:=x>>>1) (q:=3988292384#32) Z Z)<|wn Z<|aL<|wm Z<|wA Z Z<|wn Z ?_;exact⟨k+1,(x>>>1)^^^(3988292384#32),⟨G,G,(by rw[hx,yG G];unfold TM;rw[df cF])⟩,G,KP⟩
  ·refine aL<|wm Z<|wy (KD (k:=1) Z Z Z)<|wn Z<|aL<|wm Z<|wA Z Z<|wn Z ?_;exact⟨k+1,x>>>1,⟨G,G,(by rw[hx,yG G];unfold TM;rw[bz cF])⟩,G,KP⟩
 ·refine aU<|wq<|wm Z<|wn Z<|bS ?_;refine⟨_,Z,?_⟩;obtain rfl:k=8:=G
  rw[hx];rfl
theorem bAw {ap:AF} {ar ao:Nat} {u:AH} (ac:Rd w ap ar ao 1 (ints .u8 u)) (an:aP u):
  CF 142 #[sl ap ar ao] w (λv R'=>v= .int .u32 (bv (iN u))):=by
 obtain rfl:=ac.lenI;refine fn1 Tryz.func142 Z Z Z ?_;have li:=ac.max;refine wq<|wn Z<|wq<|wn Z<|aC<|wq<|wn Z<|aH ?_;refine dM (λ(k:Int) (x:BitVec 32)=>[(0,sl ap u.length ao),(3, .int .u32 (bv x)),(4,I k)]) (λk x=>[]) (λk x=>(0<=k)/\(k<=u.length)/\(EE 4294967295#32 u=EE x (u.drop k.toNat++[]))) (λk x=>(u.length-k).toNat) ?_ ?_
 ·exact⟨0,4294967295#32,⟨G,G,(by rw[jk];rfl)⟩,KP⟩
 intro k x ⟨md,vd,hx⟩;refine aC<|wq<|wm Z<|wm Z<|wy (aN af Z)<|wL Z Z<|aA<|bA Z (λaq=> ?_) (λaq=> ?_)
 ·refine aI<|aC<|aH<|aL<|wm Z<|wy (KD (k:=8) Z Z Z)<|wm Z<|wy (mP qw ay Z)<|wm Z<|wm Z<|wy (aG af sz5 Z Z (ac.c _))<|wy (aR ay Z Z (ac.c _))<|wy (bHb Z Z)<|wy (iK ay ai Z (by have:=bHa (x:=x) (an.rd k);have:=JX (x:=x) (an.rd k);omega)) ?_;refine wa (aD bNu Z (Ct.quiet (λw hw=>aFy))) ?_;rintro _ _⟨rfl,rfl⟩;refine wy (EN Z Z)<|wn Z<|aL<|wm Z<|wA Z Z<|wn Z ?_;exact⟨k+1,(x>>>8)^^^(QI (BitVec.ofInt 32 ((BitVec.ofInt 8 (IntKind.u8.wrap (bv x))^^^BitVec.ofInt 8 (rd u k)).toNat:Int))),⟨G,G,(by rw[hx,OS md G];have e:=bHa (x:=x) (an.rd k);rw[e,qW];rfl)⟩,G,KP⟩
 ·refine aU<|wq<|wm Z<|wy (bHe (p:=x) Z)<|wn Z<|bS ?_;refine⟨_,Z,?_⟩;refine bq (Value.int .u32) (bq bv ?_);rw[NU G] at hx;unfold iN;rw[hx,BitVec.xor_comm];rfl
theorem aZi (w:World):(Instr.build 203 #[]).run Tryz.prog w= .ok (.agg (uW 0 0 0 (List.replicate 256 0)).toArray) w:=cA
theorem qI:
  CF 77 #[] w (λv R'=> ∃g,v=PG g/\R'=[dP 203 g 0 0 0 (List.replicate 256 0)]):=by
 refine fn1 Tryz.func77 Z Z Z ?_;refine wq<|wn Z<|wq<|wy (aRt aZi)<|wa (bO (sz:=260) Z cA) ?_;rintro _ _⟨am,rfl,rfl⟩;refine wn Z<|aQ [0] 99 cC Z ?_;exact⟨_,Z,_,Z,Z⟩
theorem aQl (hr:0<=r/\r<1000000):
  CT 209 #[.pointer (some ⟨g,3,none⟩), .int .i32 1] B w0 (dP T g d s r t::R) (λv R'=>v= .int .i32 (r+1)/\R'=dP T g d s (r+1) t::R):=by
 refine fn1 Tryz.func209 Z Z Z ?_;refine wq<|wn Z<|wq<|wm Z<|wy (aF Z)<|wy (yF 0 3 underlying200 bQf Z)<|wm Z<|wa (aLy Z (λw hw=>bBh hr hw)) ?_;rintro _ _⟨rfl,rfl⟩;refine wn Z<|bS ?_;exact⟨_,Z,Z,Z⟩
theorem aCy (hr:0<=r/\r<1000000) (ht:t.length=256):
  CT 137 #[PG g] B w0 (dP T g d s r t::R) (λv R'=>v= .tuple #[]/\R'=dP T g d s (r+1) sG::R):=by
 refine fn0 Tryz.func137 Z Z Z ?_;refine wq<|wm Z<|wy (aF Z)<|wy (yF 3 3 Ib bLd Z)<|wa (aD bNy Z (Ct.at 0 Z (aQl G))) ?_;rintro _ _⟨rfl,rfl⟩;refine aA<|wq<|wm Z<|aA<|aH ?_;refine fM (λ(k:Int)=>[(0,PG g),(9,I k)]) (λk=>(dP T g d s (r+1) (sG.take k.toNat++t.drop k.toNat)::R)) (λk=>(0<=k)/\(k<=256)) (λk=>(256-k).toNat) ?_ ?_
 ·exact⟨0,⟨G,G⟩,KP⟩
 intro k ⟨md,vd⟩;refine wq<|wL Z Z<|aA<|aC<|bA Z (λaq=> ?_) (λaq=> ?_)
 ·refine aI<|aC<|aH<|wq<|wm Z<|wn Z<|wq<|wm Z<|wy (UH ai qw Z)<|wn Z<|aC ?_;refine wq<|wm Z<|aA<|aH ?_;refine dM (λ(j:Int) (x:BitVec 32)=>[(0,PG g),(2,I k),(3, .int .u32 (bv x)),(9,I k),(14,I j)]) (λj x=>(dP T g d s (r+1) (sG.take k.toNat++t.drop k.toNat)::R)) (λj x=>(0<=j)/\(j<=8)/\(QI (BitVec.ofInt 32 k)=GH (8-j).toNat x)) (λj x=>(8-j).toNat) ?_ ?_
  ·exact⟨0,BitVec.ofInt 32 k,⟨G,G,(Z)⟩,KP⟩
  intro j x ⟨ue,hj8,hx⟩;refine wq<|wL Z Z<|aA<|aC<|bA Z (λbp=> ?_) (λbp=> ?_)
  ·refine aI<|aC<|aH<|wq<|wm Z<|wy (aEc (p:=x) (q:=1#32) Z Z)<|wn Z<|wq<|wm Z<|wy (KD (k:=1) Z Z Z)<|wn Z ?_;refine wq<|wm Z<|wy (bFg (p:=x &&& (1#32)) (q:=1#32) Z Z)<|aA<|bA Z (λew=> ?_) (λew=> ?_)
   ·refine aL<|wm Z<|wy (EN (p:=x>>>1) (q:=3988292384#32) Z Z)<|wn Z<|aL<|wA Z Z<|wm Z<|aA ?_;exact⟨j+1,(x>>>1)^^^(3988292384#32),⟨G,G,(by rw[hx,yG G];unfold TM;rw[df cF])⟩,G,KP⟩
   ·refine aI<|aL<|wA Z Z<|wm Z<|aA ?_;exact⟨j+1,x>>>1,⟨G,G,(by rw[hx,yG G];unfold TM;rw[bz cF])⟩,G,KP⟩
  ·refine aU<|aL<|wm Z<|wm Z<|wm Z<|wy (aF Z)<|wy (yF 4 4 Ib bFl Z)<|wy (QM 0 Z Z underlying201 aSs Z Z (by show _<(uW _ _ _ _).length;rw[GI,ah,ax,az,xC,ht];omega) G G) ?_;refine bV (aX 0 Z Z Z aSs Z Z Z Z (by show _<(uW _ _ _ _).length;rw[GI,ah,ax,az,xC,ht];omega)) ?_;rintro _ _ rfl;refine jG (R1:=(dP T g d s (r+1) (sG.take (k+1).toNat++t.drop (k+1).toNat)::R)) (by have hj:j=8:=G;subst hj;have hf:=aQj ht md (show k<256 by omega);rw[hx] at hf;simp only[Gi,dP,aQk];rw[<-hf];rfl) ?_;refine aA<|aL<|wA Z Z<|wm Z<|aA ?_;exact⟨k+1,⟨G,G⟩,G,KP⟩
 ·refine aU ?_
  skip
  obtain rfl:k=256:=G
  refine⟨Z,?_⟩;have e:sG.take (256:Int).toNat++t.drop (256:Int).toNat=sG:=by rw[bg (by rw[xC];decide),ou (by rw[ht];decide),jk]
  rw[e]
theorem bCm {g:Nat} (gs:(d=0/\r'=r+1/\t.length=256/\0<=r/\r<1000000)\/(d=1/\r'=r/\t=sG)):
  CT 136 #[PG g, .func (.func 137) #[PG g] #[]] B w0 (dP T g d 0 r t::R) (λv R'=>v= .tuple #[]/\R'=dP T g 1 0 r' sG::R):=by
 rcases gs with⟨rfl,rfl,ht,hr⟩|⟨rfl,rfl,rfl⟩
 ·exact aOf (λw hw=>(aCy hr ht w hw).mono (by rintro e w' ⟨v,R',rfl,hh,rfl,rfl⟩;exact⟨rfl,hh⟩))
 ·exact aVb
theorem qH {A:AF} {m c:Nat} {vals:AG} {ls:AD} (gs:(d=0/\r'=r+1/\t.length=256/\0<=r/\r<1000000)\/(d=1/\r'=r/\t=sG)) (hA:RdC B w0 R A m c 1 vals) (hm:m=vals.length) (Nl:AC B w0 R vals ls) (Lu:Big ls):
  CT 78 #[PG g,sl A m c] B w0 (dP T g d 0 r t::R) (λv R'=>v= .int .u32 (bv (iN ls.flatten))/\R'=dP T g 1 0 r' sG::R):=by
 refine fn1 Tryz.func78 Z Z Z ?_;have vb:=Lu.1;have pv:=Nl.1;refine wq<|wn Z<|aC<|wq<|wm Z<|wy (dL underlying124 Z Z)<|aA<|aJ Z<|aI<|wq<|wm Z ?_;refine wy (aF Z)<|wy (yF 0 0 Ib bLe Z)<|wm Z<|wy (lU Z Z)<|wa (aD bPd Z (Ct.at 0 Z (bCm gs))) ?_;rintro _ _⟨rfl,rfl⟩;refine aA<|wq<|wn Z<|aC<|wq<|wm Z<|wy (aN dm Z)<|wm Z<|aA<|aH ?_;refine dM (λ(k:Int) (x:BitVec 32)=>[(0,PG g),(5, .int .u32 (bv x)),(18,sl A m c),(19,I (m:Int)),(20,I k)]) (λk x=>(dP T g 1 0 r' sG::R)) (λk x=>(0<=k)/\(k<=m)/\(EE 4294967295#32 ls.flatten=EE x (ls.drop k.toNat).flatten)) (λk x=>(m-k).toNat) ?_ ?_
 ·exact⟨0,4294967295#32,⟨G,G,(Z)⟩,KP⟩
 intro k x ⟨md,vd,hx⟩;refine wq<|wL Z Z<|aA<|aC<|bA Z (λaq=> ?_) (λaq=> ?_)
 ·refine aI<|aC<|aH<|wq<|wy (aG dm dA Z Z (RdC.tail hA)) ?_;obtain⟨A1,c1,l1,Uk,zj,Mh,xt⟩:=Nl.at md (by have:=Nl.1;omega);have j6:=Lu.2 _ _ zj;refine wy (rF af Z Z Z (RdC.tail hA) Uk)<|wn Z<|wq<|wm Z<|wy (aN af Z)<|wm Z<|aA<|aH ?_;refine dM (λ(j:Int) (y:BitVec 32)=>[(0,PG g),(5, .int .u32 (bv y)),(18,sl A m c),(19,I (m:Int)),(20,I k),(24,sl A1 l1.length c1),(25,I (l1.length:Int)),(26,I j)]) (λj y=>(dP T g 1 0 r' sG::R)) (λj y=>(0<=j)/\(j<=l1.length)/\(EE 4294967295#32 ls.flatten=EE y (l1.drop j.toNat++(ls.drop (k+1).toNat).flatten))) (λj y=>(l1.length-j).toNat) ?_ ?_
  ·exact⟨0,x,⟨G,G,(by rw[hx,aQf md zj];rfl)⟩,KP⟩
  intro j y ⟨ue,l7,hy⟩;refine wq<|wL Z Z<|aA<|aC<|bA Z (λbp=> ?_) (λbp=> ?_)
  ·refine aI<|aC<|aH<|wq<|wy (aG af sz5 Z Z (RdC.tail Mh))<|wy (aR ay Z Z (RdC.tail Mh))<|wn Z<|aL<|wm Z<|wy (KD (k:=8) Z Z Z)<|wm Z<|wm Z<|wy (aEc (p:=y) (q:=255#32) Z Z) ?_;refine wm Z<|wy (UH ay qw Z)<|wy (EN Z Z)<|wy (aF Z)<|wy (yF 4 4 Ib bFl Z)<|wy (QM 0 Z Z underlying201 aSs Z Z (by show _<(uW _ _ _ _).length;rw[GI,xC];omega) (by exact(JX (x:=y) (xt.rd j)).1) (by exact(JX (x:=y) (xt.rd j)).2)) ?_;refine wy (bHf 0 Z Z qw Z Z (aYv (bEh (JX (x:=y) (xt.rd j)).2)))<|wy (EN Z Z)<|wn Z<|aL<|wA Z Z<|wm Z<|aA ?_;exact⟨j+1,(y>>>8)^^^(QI (aDi y (rd l1 j))),⟨G,G,(by rw[hy,OS ue G];rfl)⟩,G,KP⟩
  ·refine aU<|aL<|wA Z Z<|wm Z<|aA ?_;exact⟨k+1,y,⟨G,G,(by rw[hy,NU G];rfl)⟩,G,KP⟩
 ·refine aU<|wq<|wm Z<|wy (EN (p:=x) (q:=4294967295#32) Z Z)<|wn Z<|bS ?_;refine⟨_,Z,?_⟩;refine⟨?_,Z⟩;rw[NU G] at hx;unfold iN;rw[hx];rfl
end Go.Proofs.YtdbebmmhdefgdaaGreat
namespace Go.Eng
open Go Go.RowKit Go.Pure
section
variable {P:Program} {n:Nd} {B:Nat} {w0:World} {L:Env} {R:List Row} {ty:TypeId}
theorem bAd {f:FuncId} {fn:Func} {x:Operand} {ts:Array TypeId} {m:Nat} {ps:Array TypeId} {t e:TypeId} (hf:P.funcs[f]? =some fn) (g6:(fn.name== "runtime.NumGoroutine")=false) (hb:fn.body.isNone=true) (hn:Extern.findNext fn=none) (he:Extern.find fn=some (Extern.BytealgMakeNoZero.makeNoZero ps #[t]))
  (ht:P.underlying t=some (.slice e)) (hx:ev L x=some (.int .i64 (m:Int))) (hm:m<=1000000):
  Ac P n B w0 (.call {callee:= .value (.func f),args:=[x].toArray,argTypes:=ts}) ty L R (λv R'=> ∃g C,m<=C/\v= .slice (some ⟨g,0,none⟩) m C/\R'=⟨e,1,some ⟨g,0,none⟩,0,C,ints .u8 [],false⟩::R):=
 XH (vs:=[.int .i64 (m:Int)]) (by simp[evs,hx]) λw hw=>by
  obtain⟨cs,hr,Fl,pv⟩:=Lib.run_makeNoZero (P:=P) w ps t e ht m G;have ph:=((hw.drawn (w.drawn+1+1) G).newC cs e m Fl (pv (by unfold maxLen;omega))).cut (k:=0) (qp _) cD;refine⟨_,_,_,?_,ph,w.heap.size,cs.size,Fl,rfl,by simp[ints]⟩;rw[Fq hf g6 hb hn he];rw[show [Value.int .i64 (m:Int)].toArray= #[.int .i64 m] from rfl,hr];rfl
theorem UD {x y:Operand} {t t2 e:TypeId} {pp:AF} {g p dl dc c m2 c2:Nat} {A2:AF} {k:IntKind} {D src:AH} (i:Nat) (hi:R[i]? =some ⟨e,1,some ⟨g,0,none⟩,p,c,ints k D,false⟩) (ht:P.underlying t=some (.slice e)) (gs:(P.info? e).map (·.size)=some 1)
  (hx:ev L x=some (.slice pp dl dc)) (hy:ev L y=some (.slice A2 m2 c2)) (Mf:pp=some ⟨g,p,none⟩) (hdl:p+dl<=c) (jj:RdC B w0 R A2 m2 c2 1 (ints k src)):
  Ac P n B w0 (.call {callee:= .builtin .copy,args:= #[x,y],argTypes:= #[t,t2]}) ty L R (λv R'=>v= .int .i64 ((min m2 dl:Nat):Int)/\R'=R.set i ⟨e,1,some ⟨g,0,none⟩,p+min m2 dl,c,ints k (D++src.take (min m2 dl)),false⟩):=by
 intro a w o K Q ho k9 hs hw hk;have ge:=Row.lies_w (hw.own _ (fw hi)) rfl;have j5:=jj w hw;have Qk:m2=src.length:=j5.lenI;have hl:p=D.length:=by have:=ge.1;rw[cZ] at this;simp only at this;omega
 rcases ge.2 with⟨hv,_⟩|⟨g',cap,cur,hv,hb,hg,hnc,tk,lf,w9⟩
 ·simp at hv
 simp only[ku,lv,Aj,Au,Ag] at hv;obtain⟨rfl,rfl⟩:=hv;simp only at w9 lf hnc hg hb;rw[qy] at w9 lf;subst Mf;obtain⟨q,hq⟩: ∃q,min m2 dl=q:=⟨_,rfl⟩;rw[hq] at hk;have Po:Nat.min m2 dl=q:=hq;have mj:(ints k (src.take q)).length=q:=by rw[cZ,ax];omega
 rcases ed m2 with hz|fg
 ·have kj:q=0:=G
  have mw:=run_copy_none (P:=P) w t t2 o.type e (some ⟨g,p,none⟩) A2 dl dc m2 c2 ht gs (by rw[hz];exact Nat.zero_min _);unfold Oper.wp execOp;simp only[ho,resolve,invoke,builtin,kg,ny,jw,uj,lm,si,hs.ev hx,hs.ev hy,mw,Oper.upon];refine hk (.int .i64 ((0:Nat):Int)) w R hw ⟨by rw[kj],?_⟩;rw[kj];simp only[yc,jk,qo]
  exact(by
   apply uo;intro j;rw[xx];split
   ·rename_i e;subst e;rw[df (dw.1 hi).1,hi]
   ·rfl)
 ·obtain ⟨a2,rfl⟩: ∃a2,A2=some a2:=by
   obtain⟨a2,h,_⟩:=j5.at_ 0 _ (av (by rw[cZ];omega));exact⟨a2,h⟩
  have mw:=run_copy_row P w t t2 o.type e g p dl dc a2 m2 c2 cur e (ints k (src.take q)) ht gs hg (by rw[mj];exact hq.symm) (λj v hv=>by
   obtain⟨b,h1,h2⟩:=j5.at_ j v (by
    rw[ints,Ch] at hv;rw[og] at hv;split at hv
    ·exact hv
    ·cases hv)
   obtain rfl:=jc h1
   exact h2) (by rw[mj,lf];omega) (DI k _)
  rw[mj] at mw;unfold Oper.wp execOp;simp only[ho,resolve,invoke,builtin,kg,ny,jw,uj,lm,si,hs.ev hx,hs.ev hy,mw,Oper.upon];refine hk (.int .i64 (q:Int)) _ _ ?_ ⟨rfl,rfl⟩;refine hw.upd hi (row:=some g) ⟨rfl,rfl,rfl,cD,λj _ hj=>Ji w g j _ (λe=>hj (by simp[e]))⟩ (di _) (λj hj=>by cases hj;exact⟨_,rfl,rfl⟩) ?_ (λa' oe=> .inl ⟨a',oe,rfl⟩);unfold Row.lies;simp only;refine⟨?_, .inr ⟨g,c,_,rfl,hb,Ki w g cur _ e _ hg,G,tk,?_,?_⟩⟩
  ·simp only[cZ,ah,ax];omega
  ·simp only[ql,ah,ax,az,jr,cZ];omega
  ·simp only[qy];rw[pF,<-w9]
   have h1:(cur.toList.take p++ints k (src.take q)).length=p+q:=by
    rw[ah,mj,ax,jr];omega
   rw[List.take_append,h1,bg G,zh,yc,jk]
theorem aRo {x y:Operand} {t e:TypeId} {A:AF} {m c sz:Nat} {k1:IntKind} {vh:Int} (ht:P.underlying t=some (.slice e)) (hi:(P.info? e).map (·.size)=some sz) (hx:ev L x=some (.slice A m c)) (hy:ev L y=some (.int k1 vh)) (h0:0<=vh) (hc:vh<=c):
  Yl P n B w0 (.slice t x none (some y) none) ty L R (.slice A vh.toNat c):=by
 intro a w o ho _ hs hp;obtain⟨i0,aw,hsz0⟩:=il.1 hi;have ud:P.elem t=e:=by simp[Program.elem,ht]
 have sk:P.underlying t=some (.slice (P.elem t)):=by rw[ud];exact ht
 simp only[execOp,ho,ky,Bb,hs.ev hx,hs.ev hy,kg,Af w t _ _ _ _ sk,run_slice_h w t A m c sk k1 vh h0 hc,ud]
 have:(if c=0 then A else Option.map (λx=>x.add 0) A)=A:=by
  split
  ·rfl
  ·exact CJ A
 simp[sizeOf,typeInfo,aw,hsz0,sliced,this]
theorem aMd {x y z:Operand} {t e:TypeId} {A:AF} {m c h sz:Nat} {k1 k2:IntKind} {vh vm:Int} (ht:P.underlying t=some (.slice e)) (hi:(P.info? e).map (·.size)=some sz) (hx:ev L x=some (.slice A m c)) (hy:ev L y=some (.int k1 vh)) (hz:ev L z=some (.int k2 vm)) (e1:vh=(h:Int)) (e2:vm=(h:Int)) (hc:h<=c):
  Yl P n B w0 (.slice t x none (some y) (some z)) ty L R (.slice A h h):=by
 subst e1;subst e2;intro a w o ho _ hs hp;obtain⟨i0,aw,hsz0⟩:=il.1 hi;have ud:P.elem t=e:=by simp[Program.elem,ht]
 have sk:P.underlying t=some (.slice (P.elem t)):=by rw[ud];exact ht
 simp only[execOp,ho,ky,Bb,hs.ev hx,hs.ev hy,hs.ev hz,kg,Af w t _ _ _ _ sk,run_slice_hm w t A m c sk k1 k2 (h:Int) (h:Int) G G G,ud]
 have:(if h=0 then A else Option.map (λx=>x.add 0) A)=A:=by
  split
  ·rfl
  ·exact CJ A
 simp[sizeOf,typeInfo,aw,hsz0,sliced,this]
theorem Row.lies_ro {w:World} {e sz m c c':Nat} {A:AF} {xs:AG} (h:Row.lies B w ⟨e,sz,A,m,c,xs,false⟩) (hA:A≠none) (hc:m<=c'):Row.lies B w ⟨e,sz,A,m,c',xs,true⟩:=by
 have h1:=Row.lies_w h rfl;unfold Row.lies;simp only;obtain⟨hl,h2⟩:=h1;simp only at hl h2;rcases h2 with⟨hv,_⟩|⟨g,cap,cur,hv,hb,hg,hnc,tk,lf,ht⟩
 ·simp only[ku] at hv;exact absurd hv.1 hA
 ·simp only[ku] at hv;obtain⟨rfl,_,rfl⟩:=hv;exact⟨g,cur,_,rfl,hb,hg,G,hc,hl,ht⟩
theorem Hp.toRo {w:World} {e sz m c c':Nat} {A:AF} {xs:AG} (h:Hp B w0 w (⟨e,sz,A,m,c,xs,false⟩::R)) (hA:A≠none) (hc:m<=c'):Hp B w0 w (⟨e,sz,A,m,c',xs,true⟩::R):=
 ⟨h.below,h.base,λr hr=>by
  rcases jm.1 hr with rfl|hr
  ·exact Row.lies_ro (h.own _ (.head _)) hA hc
  ·exact h.own r (.tail _ hr),by
  obtain⟨h1,h2⟩:=jb.1 h.apart
  exact jb.2 ⟨λr hr=>h1 r hr,h2⟩,h.late⟩
theorem RdC.capI {A:AF} {m c c':Nat} {k:IntKind} {l:AH} (h:RdC B w0 R A m c 1 (ints k l)) (hc:m<=c'):RdC B w0 R A m c' 1 (ints k l):=λw hw=>
 let q:=h w hw
 ⟨q.len,q.max,hc,q.at_⟩
structure XJ (u D:AH) (N:Nat) (p:Int):Prop where
 p0:0<=p
 pN:p<=N
 up:(u.length:Int)<=p
 len:(D.length:Int)=p
 at_: ∀j:Nat,j<p->lt D j=om u j
 dvd:p=N\/(u.length:Int)∣p
theorem bIu {D E:AH} {j:Nat}:lt (D++E) j=if j<D.length then lt D j else lt E (j-D.length):=by
 unfold lt;rw[ak];split
 ·rw[ji G,ak]
 ·rw[ig G,ak]
theorem lt_take {D:AH} {j q:Nat} (h:j<q):lt (D.take q) j=lt D j:=by
 unfold lt;rw[ak,ow h,ak]
theorem XJ.init {u:AH} {N:Nat} (hu:u.length<=N):XJ u ([]++u.take (min u.length N)) N ((min u.length N:Nat):Int):=by
 have e:min u.length N=u.length:=G
 rw[e,je,ve];exact⟨G,G,G,rfl,λj hj=>(HY G).symm, .inr (Int.dvd_refl _)⟩
theorem XJ.step {u D:AH} {N:Nat} {p:Int} (h:XJ u D N p) (hu:0<u.length) (hp:p<N):
  XJ u (D++(D.take (min p N).toNat).take (min (min p N).toNat (N-p.toNat))) N (p+((min (min p N).toNat (N-p.toNat):Nat):Int)):=by
 obtain⟨p0,pN,up,len,at_,dvd⟩:=h;have e:min p (N:Int)=p:=G
 rw[e];obtain⟨q,hq⟩: ∃q,min p.toNat (N-p.toNat)=q:=⟨_,rfl⟩;rw[hq];have hd:(u.length:Int)∣p:=dvd.resolve_left G;refine⟨G,G,G,by rw[ah,ax,ax];omega,λj hj=> ?_,?_⟩
 ·rw [bIu];split
  ·exact at_ j G
  ·rename_i hc;rw[lt_take G,lt_take G,at_ _ G];obtain⟨k,hk⟩:=hd
   have md:0<=k:=by
    rcases bn k 0 with g|g
    ·have:=Am (show(0:Int)<=u.length by omega) (show 0<= -k by omega);rw[Int.mul_neg] at this;omega
    ·exact g
   have e3:D.length=u.length*k.toNat:=by
    have:(D.length:Int)=((u.length*k.toNat:Nat):Int):=by rw[len,hk,Ba,qf md]
    exact_mod_cast this
   have:=(rX u).mul k.toNat (j-D.length);rw[<-this,<-e3,rf G]
 ·rcases fo q p.toNat with g|g
  ·left;omega
  ·right;have:(q:Int)=p:=G
   rw[this];exact Int.dvd_add hd hd
theorem XJ.done {u D:AH} {cn:Int} {N:Nat} {p:Int} (h:XJ u D N p) (hp: ¬p<N) (hN:N=cn.toNat*u.length):D=rep u cn:=by
 have hl:=h.len;have hpN:=h.pN;refine bM (by rw[qP];omega) λj h0 h1=> ?_;have h2:=h.at_ j.toNat G;have h3:=LM u cn.toNat j.toNat G;rw[NC,h2,<-h3];unfold rd rep;rw[cz]
end
end Go.Eng
namespace Go.Proofs
open Go.Shelf
def Tryz.laysRing_ren:Go.Shelf.Ren:=⟨λ|6=>117|15=>192|14=>191|28=>251|29=>252|20=>243|21=>244|22=>245|23=>246|24=>247|25=>248|26=>249|27=>250|46=>281|47=>282|48=>283|49=>284|50=>285|57=>305|n=>n,λ|22=>114|24=>117|25=>171|3=>3|39=>167|0=>0|53=>123|55=>112|4=>4|46=>289|45=>288|50=>97|5=>5|9=>9|66=>316|70=>320|76=>337|77=>338|n=>n,λ|n=>n⟩
theorem Tryz.laysRing:Go.Proofs.SlLaysF0.n6 Tryz.prog Tryz.laysRing_ren:= {
 mixed:=cA
 f6:=⟨Tryz.f117.name,cC,Tryz.func117.trans (bq some cA)⟩
 f14:=⟨Tryz.f191.name,cC,Tryz.func191.trans (bq some cA)⟩
 f15:=Tryz.func192.trans (bq some cA)
 f20:=⟨Tryz.f243.name,cC,Tryz.func243.trans (bq some cA)⟩
 f21:=⟨Tryz.f244.name,cC,Tryz.func244.trans (bq some cA)⟩
 f22:=⟨Tryz.f245.name,cC,Tryz.func245.trans (bq some cA)⟩
 f23:=⟨Tryz.f246.name,cC,Tryz.func246.trans (bq some cA)⟩
 f24:=⟨Tryz.f247.name,cC,Tryz.func247.trans (bq some cA)⟩
 f25:=⟨Tryz.f248.name,cC,Tryz.func248.trans (bq some cA)⟩
 f26:=⟨Tryz.f249.name,cC,Tryz.func249.trans (bq some cA)⟩
 f27:=⟨Tryz.f250.name,cC,Tryz.func250.trans (bq some cA)⟩
 f28:=Tryz.func251.trans (bq some cA)
 f29:=Tryz.func252.trans (bq some cA)
 f46:=⟨Tryz.f281.name,cC,Tryz.func281.trans (bq some cA)⟩
 f47:=Tryz.func282.trans (bq some cA)
 f48:=Tryz.func283.trans (bq some cA)
 f49:=⟨Tryz.f284.name,cC,Tryz.func284.trans (bq some cA)⟩
 f50:=⟨Tryz.f285.name,cC,Tryz.func285.trans (bq some cA)⟩
 f57:=⟨Tryz.f305.name,cC,Tryz.func305.trans (bq some cA)⟩
 t0:=Ec
 a0:=Kc
 z0:=Je
 v0:=Fe
 t3:=Bz
 a3:=He
 z3:=Fy
 v3:=Cq
 t4:=Ed
 a4:=Ke
 z4:=Jf
 v4:=Ff
 t5:=Ee
 a5:=Kg
 z5:=Jg
 v5:=Fg
 t9:=Ef
 a9:=Kh
 z9:=Jh
 v9:=Fh
 t22:=Tryz.underlying114
 a22:=Tryz.isAgg114
 z22:=Tryz.sizeOf114
 v22:=Tryz.zeroValue114
 t25:=Tryz.underlying171
 a25:=Tryz.isAgg171
 z25:=Tryz.sizeOf171
 v25:=Tryz.zeroValue171
 t39:=Az
 a39:=Ei
 z39:=Dt
 v39:=Bi
 t45:=Gm
 a45:=Tryz.isAgg288
 z45:=Tryz.sizeOf288
 v45:=Hg
 t46:=Gn
 a46:=Tryz.isAgg289
 z46:=Tryz.sizeOf289
 v46:=Hl
 t50:=Hf
 a50:=Tryz.isAgg97
 z50:=Tryz.sizeOf97
 v50:=Il
 t53:=Cx
 a53:=Hz
 z53:=Gl
 v53:=Dv
 t55:=Cw
 a55:=Hy
 z55:=Gj
 v55:=Du
 t66:=Gp
 a66:=Tryz.isAgg316
 z66:=Tryz.sizeOf316
 v66:=Hm
 t70:=Gq
 a70:=Tryz.isAgg320
 z70:=Tryz.sizeOf320
 v70:=Ho
 t76:=Gr
 a76:=Tryz.isAgg337
 z76:=Tryz.sizeOf337
 v76:=Hq
 t77:=Gs
 a77:=Tryz.isAgg338
 z77:=Tryz.sizeOf338
 v77:=Hr}
end Go.Proofs
namespace Go.Proofs.YtdbebmmhdefgdaaGreat
open Go Go.Eng Go.Pure
open Tryz
set_option maxRecDepth 100000
variable {w:World} {u:AH} {ws:AD} {i:Int} {l lr:List RC}
theorem bCw {B:Nat} {w0:World} {R:List Row} (x y:Nat) (hx:x<=1000000) (hy:y<=1000000) (h:x*y<=1000000):CT 122 #[.int .u64 (x:Int), .int .u64 (y:Int)] B w0 R (λv R'=>v= .tuple #[.int .u64 0, .int .u64 ((x*y:Nat):Int)]/\R'=R):=by
 intro w hw;have hc:=Tryz.bits_Mul x y G G w;rw[Eb G,lh G] at hc;refine hc.mono ?_;rintro e w' ⟨rfl,rfl⟩;exact⟨_,R,Z,hw,Z,Z⟩
theorem QO {p:Int} (h:0<=p/\p<=18446744073709551615):IntKind.u64.wrap p=p:=by rw[Ig];omega
theorem aFk {ap:AF} {ar ao:Nat} {cn:Int} (ac:Rd w ap ar ao 1 (ints .u8 u)) (hu:0<u.length) (hc:1<=cn) (hP:cn.toNat*u.length<=8000):
  CF 72 #[sl ap ar ao,I cn] w (λv R'=> ∃A c,v=sl A (rep u cn).length c/\R'=[⟨5,1,A,(rep u cn).length,c,ints .u8 (rep u cn),true⟩]):=by
 obtain rfl:=ac.lenI;refine fn1 Tryz.func72 Z Z Z ?_;have li:=ac.max;obtain⟨N,Xk⟩: ∃N:Nat,u.length*cn.toNat=N:=⟨_,rfl⟩;have Kn:cn.toNat*u.length=N:=by rw[Ay];exact Xk
 have hN3:u.length<=N:=by rw[<-Kn];exact Dp _ G
 have hN4:cn.toNat<=N:=by rw[<-Xk];exact Dp _ hu
 refine wq<|wn Z<|aC<|wq<|wm Z<|wy (Yl.f (dR Z Z))<|aA<|aJ Z<|aI<|aC<|wq ?_;refine wm Z<|wy (Yl.f (eD Z Z))<|aA<|aJ Z<|aI<|wq<|wm Z<|wy (aN af Z)<|wy (Yl.is (mP ai Cj Z) (by rw[QO G])) ?_;refine wm Z<|wy (Yl.is (mP ai Cj Z) (show Value.int .u64 (IntKind.u64.wrap cn)=Value.int .u64 (cn.toNat:Int) from by rw[QO G,qf G]))<|wa (aD bGr rfl (bCw u.length cn.toNat G G G)) ?_;rw[Xk];rintro _ _⟨rfl,rfl⟩;refine wm Z<|wX Z Z<|wX Z Z<|wg Z<|wn Z<|aC<|wq<|wm Z<|wy (Yl.f (dE Z Z))<|wm Z<|aB Z Z<|wm Z<|aB Z Z ?_;refine wy (Yl.f (dE Z Z))<|wy (aO Z Z)<|aA<|aJ Z<|aI<|wq<|wm Z<|wy (iK Cj ai Z)<|wn Z<|aC<|wq<|wm Z ?_;refine wy (aN af Z)<|wy (Yl.f (dR Z Z))<|aA<|aJ Z<|aI<|wq<|wm Z<|wn Z<|aC<|wq<|wm Z<|wy (Yl.f (dE Z Z)) ?_;refine aA<|aJ Z<|aI<|wq<|wm Z<|wa (bAd (m:=N) (ps:= #[3]) Tryz.func123 cA cA cA cA af Z G) ?_;rintro _ _⟨am,C_2,hC,rfl,rfl⟩;refine wm Z<|wm Z<|wy (aMd (h:=N) af sz5 Z Z Z Z Z hC)<|wn Z<|wq<|wm Z<|wm Z<|wa (UD (dl:=N) 0 Z af sz5 Z Z (Z) G (ac.c _)) ?_;rintro _ _⟨rfl,rfl⟩;refine wn Z<|aC<|aH ?_;refine fA (λ(p:Int) (n1:Nat) (D:AH)=>[(7,I (N:Int)),(8,I (N:Int)),(9,sl (GG am) N N),(10,I p)]) (λp n1 D=>[(ru 5 (GG am) n1 C_2 D)]) (λp n1 D=>(n1=D.length)/\(XJ u D N p)) (λp n1 D=>(N-p).toNat) ?_ ?_
 ·exact⟨((min u.length N:Nat):Int),(0+min u.length N),([])++List.take (min u.length N) u,⟨(by rw[je,ax];omega),(XJ.init hN3)⟩,KP⟩
 intro p n1 D ⟨cv,hI⟩;have hI1:=hI.p0;have hI2:=hI.pN;have hI3:=hI.len;have hI4:=hI.up;refine aC<|wq<|wm Z<|wm Z<|wL Z Z<|aA<|bA Z (λaq=> ?_) (λaq=> ?_)
 ·refine aI<|aH<|wq<|wm Z<|wm Z<|wy (sJ Z Z)<|wn Z<|bI mixed<|wD 0 Z (aK Z)<|wD 1 Z (aK Z)<|wD 2 Z (aK Z)<|wD 3 Z (dK af sz5 Z Z)<|wD 4 Z (aK Z) ?_;refine wD 5 Z (aK Z)<|wD 6 Z (aRo af sz5 Z Z G G)<|wC 7 Z (UD (dl:=(N-(p).toNat)) 0 Z af sz5 Z Z (by rw[aCr G,show p.toNat=n1 by omega]) G (RdC.capI (RdC.toI (rdr 0 Z) G) G)) ?_;rintro _ _⟨rfl,rfl⟩;refine⟨.inl cA,?_⟩;refine wD 8 Z (bX Z Z)<|wD 9 Z (bC Z)<|wN ?_;exact⟨p+((min ((min p (N:Int)).toNat) (N-(p).toNat):Nat):Int),(n1+min ((min p (N:Int)).toNat) (N-(p).toNat)),D++List.take (min ((min p (N:Int)).toNat) (N-(p).toNat)) ((D).take (min p (N:Int)).toNat),⟨(by rw[ah,ax,ax];omega),(hI.step hu G)⟩,G,KP⟩
 ·refine aU<|wq<|wm Z<|wn Z ?_;obtain rfl:=cv;obtain rfl:=hI.done G Kn.symm;have Kv:(rep u cn).length=N:=by rw[qP];omega
  refine bN (R1:=[⟨5,1,GG am,(rep u cn).length,(rep u cn).length,ints .u8 (rep u cn),true⟩]) (λ_ h=>h.toRo cD (di _)) ?_;rw[<-Kv];exact⟨_,Z,_,_,Z,Z⟩
theorem ZR (h0:0<=i) (h1:i<ws.length):rdl ws i∈ws:=by
 unfold rdl;rw[ak,av G];exact mf _
theorem vR (h0:0<=i) (h1:i<ws.length):ws.take (i+1).toNat=ws.take i.toNat++[rdl ws i]:=by
 rw[show(i+1).toNat=i.toNat+1 by omega,uf,av G];unfold rdl;rw[ak,av G];rfl
theorem aUx (x y:AH) (a b:Int):orL [cmpL x y,iI a b]=lX (x,a) (y,b):=by
 unfold lX orL orL orL;simp only;split
 ·rfl
 ·split
  ·rfl
  ·omega
theorem aNh {A:AF} {c:Nat} (h0:0<=i) (h1:i<ws.length) (hl:l.map RC.rt=fB (ws.take i.toNat)) (ht:0<jA (lw (rdl ws i))):(l++[(⟨A,c,lI (lw (rdl ws i)),jA (lw (rdl ws i))⟩:RC)]).map RC.rt=fB (ws.take (i+1).toNat):=by
 have hp:0<(rdl ws i).length:=by
  rcases ed (rdl ws i).length with z|z
  ·rw [ek z] at ht;simp[bIs,jA] at ht
  ·exact z
 rw[jo,hl,vR h0 h1,mY];congr 1;unfold fB;simp[hp,RC.rt,FE]
theorem aTn (h0:0<=i) (h1:i<ws.length) (hl:l.map RC.rt=fB (ws.take i.toNat)) (ht: ¬0<jA (lw (rdl ws i))):l.map RC.rt=fB (ws.take (i+1).toNat):=by
 have hp:(rdl ws i).length=0:=by
  rcases ed (rdl ws i).length with z|z
  ·exact z
  ·exact absurd (ES (c:=lw (rdl ws i)) (by rw[NB];exact z)) ht
 rw[hl,vR h0 h1,mY];unfold fB;simp[hp]
theorem GY (ws:AD):(fB ws).length<=ws.length:=by
 unfold fB;rw[cu];exact zt _ _
theorem aVl (h:aP u):aP (lw u):=aP.append (h.drop _) (h.take _)
theorem aWc:Go.Sort.SWO (Go.Proofs.ltOf λx y:RC=>lX x.rt y.rt):=by
 have e: ∀x y:RC,Go.Proofs.ltOf (λx y:RC=>lX x.rt y.rt) x y=true↔lX x.rt y.rt<0:=λx y=>by simp[Go.Proofs.ltOf]
 have e': ∀x y:RC,Go.Proofs.ltOf (λx y:RC=>lX x.rt y.rt) x y=false↔lX y.rt x.rt<=0:=λx y=>by
  rw[<-Bool.not_eq_true,e,qE x.rt y.rt];omega
 refine⟨λx=> ?_,λx y z h1 h2=> ?_,λx y z h1 h2=> ?_⟩
 ·rw[e',(WE x.rt x.rt).2 rfl];omega
 ·rw [e] at h1 h2 ⊢;have h3:=JS x.rt y.rt z.rt G G;rcases Gf h3 with g|g
  ·exact g
  ·have g2:=(WE _ _).1 g;rw[g2,qE y.rt z.rt] at h1;omega
 ·rw [e'] at h1 h2 ⊢;exact JS _ _ _ h2 h1
theorem bBs {ws:AD} {M:Nat} (hl:lr.map RC.rt=yP ws) (hM: ∀w∈ws,w.length<=M) {r:RC} (hr:r∈lr):0<r.root.length/\1<=r.times/\r.times.toNat*r.root.length<=M:=by
 have h1:r.rt∈yP ws:=by rw[<-hl];exact List.mem_map_of_mem hr
 obtain⟨w,hw,hp,e⟩:=aOj h1;have cm:0<(lw w).length:=by rw[NB];exact hp
 have e1:r.root=lI (lw w):=bq Prod.fst e;have e2:r.times=jA (lw w):=bq Prod.snd e;have h2:=ZH cm;have h3:=BP cm;have h4:=ES cm;have h5:=bq List.length (GQ cm);rw[qP,NB] at h5;rw[e1,e2];exact⟨G,G,by rw[h5];exact hM w hw⟩
theorem aHu (h0:0<=i) (h1:i<lr.length):(lr.take (i+1).toNat).map (λr=>rep r.root r.times)=(lr.take i.toNat).map (λr=>rep r.root r.times)++[rep (rdG lr i).root (rdG lr i).times]:=by
 rw[show(i+1).toNat=i.toNat+1 by omega,uf,av G,jo];unfold rdG;rw[ak,av G];rfl
theorem aHv (hl:lr.map RC.rt=yP ws) (hi:(lr.length:Int)<=i):(lr.take i.toNat).map (λr=>rep r.root r.times)=canon ws:=by
 rw[bg G];unfold canon;rw[<-hl,zg];rfl
theorem aFg {n8:AF} {o5:Nat} {x:AH} {Wi:Int} {A_y:AF} {c_y:Nat} {y:AH} {Wj:Int} (nf:Rd w n8 x.length o5 1 (ints .u8 x)) (h_y:Rd w A_y y.length c_y 1 (ints .u8 y)) (n9:aP x) (Wq:aP y):
  CF 118 #[.agg #[sl n8 x.length o5,I Wi], .agg #[sl A_y y.length c_y,I Wj]] w (λv R'=>v=I (lX (x,Wi) (y,Wj))):=by
 refine fn1 Tryz.func118 Z Z Z ?_;refine wq<|wa (bO (sz:=2) Z Z) ?_;rintro _ _⟨am,rfl,rfl⟩;refine wa (bO (sz:=2) Z Z) ?_;rintro _ _⟨du,rfl,rfl⟩;refine wn Z<|aC<|bI mixed<|wD 0 Z (yF 0 0 Be dA Z)<|wD 1 Z (yL 1 af Z Z Z)<|wD 2 Z (yF 0 0 Be dA Z)<|wD 3 Z (yL 0 af Z Z Z)<|wD 5 Z (yF 1 1 Be sz3 Z)<|wD 6 Z (yL 1 ai Z Z Z)<|wD 7 Z (yF 1 1 Be sz3 Z)<|wD 8 Z (yL 0 ai Z Z Z)<|wC 4 Z (aD bPh Z (Ct.quiet (λw hw=>WU ((nf.c _) w hw) ((h_y.c _) w hw) n9 Wq))) ?_;rintro _ _⟨rfl,rfl⟩;refine⟨.inr hiZ,?_⟩;refine wC 9 Z (aD aCj Z (Ct.quiet (λw hw=>pI))) ?_;rintro _ _⟨rfl,rfl⟩;refine⟨.inr hiZ,?_⟩;refine wC 10 Z (bH .i64 [cmpL x y,iI Wi Wj] aa zs3 Z Z Z) ?_;rintro _ _⟨ki,rfl,rfl⟩;refine⟨.inr hrZ,?_⟩;refine wC 11 Z (aD bGs Z (Ct.quiet (λw hw=>aUy ((rdr 0 Z) w hw)))) ?_;rintro _ _⟨rfl,rfl⟩;refine⟨.inr hiZ,?_⟩;refine wD 12 Z (bC Z)<|wN<|aQ [] 99 cC Z ?_;refine⟨_,Z,?_⟩;exact bq (Value.int .i64) (aUx x y Wi Wj)
theorem aEv (cb:Array Value):bAg Tryz.prog 117 118 cb 2:=λα _ enc hk h1 cf hO gr off cap d w zc hH hblk hsz=>
 AnyQ.slices_SortFunc Tryz.laysRing 2 (λw=>cA) (λw=>cA) enc hk h1 cf hO 118 cb gr off cap d w bPi zc hH hblk hsz
theorem YT:UE Tryz.prog 117:=λp cap fv w=>AnyF.slices_SortFunc_none Tryz.laysRing p cap fv w
theorem aTo {w:World} {gg:AF} {mm gi:Nat} {dt:AG} {ws:AD} (go:Rd w gg mm gi 1 dt) (mz:SlW .u8 w dt ws) (hN:(∀w∈ws,w.length<=8000)/\ws.length<=100000):
  CF 71 #[sl gg mm gi] w (λv R'=> ∃(A:AF) (c:Nat) (l:List RC) (Rs:List Row),v=sl A l.length c/\RgR Rs l/\l.map RC.rt=yP ws/\R'=⟨117,2,A,l.length,c,rgs l,false⟩::Rs):=by
 obtain rfl:mm=ws.length:=by have:=go.len;have:=mz.1;omega
 refine fn1 Tryz.func71 Z Z Z ?_;have Jx:=go.max;have hob:=mz.okB;refine wq<|wn Z<|wq<|dB (R1:=(⟨117,2,none,0,0,rgs ([]),false⟩::[])) (Sub.refl _) (λ_ h=>h.nil 117 2)<|wn Z<|aC<|wq<|wm Z<|wy (aN dm Z)<|wm Z ?_;refine aA<|aH ?_;refine mU (λ(i:Int) (A1:AF) (n1:Nat) (c1:Nat) (l:List RC) (Rs:List Row)=>[(3,sl A1 n1 c1),(8,sl gg ws.length gi),(9,I (ws.length:Int)),(10,I i)]) (λi A1 n1 c1 l Rs=>(⟨117,2,A1,n1,c1,rgs l,false⟩::Rs)) (λi A1 n1 c1 l Rs=>(0<=i)/\(i<=ws.length)/\(n1=l.length)/\(RgR Rs l)/\(l.map RC.rt=fB (ws.take i.toNat))) (λi A1 n1 c1 l Rs=>(ws.length-i).toNat) ?_ ?_
 ·exact⟨0,none,0,0,[],[],⟨G,G,(Z),(RgR.nil _),(Z)⟩,KP⟩
 intro i A1 n1 c1 l Rs ⟨aw,ia,cv,Ku,hl⟩;have va:=bq List.length hl;rw[cu] at va;have Tk:=GY (ws.take i.toNat);rw[ax] at Tk;have Nv:0<=i->i<ws.length->(rdl ws i).length<=8000:=λh h'=>hN.1 _ (ZR h h');refine wq<|wL Z Z<|aA<|aC<|bA Z (λaq=> ?_) (λaq=> ?_)
 ·have hwl2:=Nv aw G;refine aI<|aC<|aH<|wq<|wy (aG dm dA Z Z (go.c _)) ?_;refine mz.elim (i:=i) G G (λbm bl Iv k8 Oq Nx=> ?_);refine wy (rF af Z Z Z (go.c _) Iv)<|wn Z<|wq<|wm Z<|wa (aD bPk Z (Ct.fresh (λw hw=>bIn ((k8.c _) w hw) (xD Oq) G))) ?_;rintro _ _⟨_,rfl,dy,jt,rfl,rfl⟩;refine wa (aD bPl Z (Ct.fresh (λw hw=>aTg ((rdr 0 Z) w hw) (by rw[NB];omega)))) ?_;rintro _ _⟨_,rfl,eh,bo,rfl,rfl⟩;refine wm Z<|wX Z Z<|wX Z Z<|wg Z<|wn Z<|wq<|wm Z<|wy (dE Z Z)<|aA<|bA Z (λbp=> ?_) (λbp=> ?_)
  ·refine aL<|wm Z<|wm Z<|wm Z<|wy (dW (v:= .agg #[sl eh ((lI (lw (rdl ws i))).length) bo,I (jA (lw (rdl ws i)))]) Z (λw=>cA))<|wa (bKa ⟨eh,bo,lI (lw (rdl ws i)),jA (lw (rdl ws i))⟩ Ia bKn rfl) ?_;rintro _ _⟨kh,rfl,rfl⟩;refine wa (aRl 3 Z Ia bKp Z Z Z Z (rdr 0 Z) G) ?_;rintro _ _⟨im,ir,rfl,rfl⟩;refine bF (v:=sl im (n1+1) ir) Z<|wn Z<|aL<|wA Z Z<|wm Z<|aA ?_;exact⟨i+1,im,n1+1,ir,l++([⟨eh,bo,lI (lw (rdl ws i)),jA (lw (rdl ws i))⟩]),((ru 5 eh ((lI (lw (rdl ws i))).length) bo (lI (lw (rdl ws i))))::Rs),⟨G,G,(by rw[ah,cv];rfl),(Ku.snoc Z (aP.take (aVl (hob _ (ZR aw G)).1) _)),(aNh aw G hl cF)⟩,G,SA,λ_ h=>h.selR (F:=[_,_,_,_]) (F':=[_,_]) [3,1] cC Z⟩
  ·refine aI<|aL<|wA Z Z<|wm Z<|aA ?_;exact⟨i+1,A1,n1,c1,l,Rs,⟨G,G,(cv),(Ku),(aTn aw G hl cF)⟩,G,SA,λ_ h=>h.selR (F:=[_,_,_]) (F':=[_]) [2] cC Z⟩
 ·obtain rfl:=cv;obtain rfl:i=ws.length:=G
  rw[cz,ve] at hl;refine aU<|wq<|wm Z<|wa (aD bPj Z (aEx (enc:=encR) (aEv _) YT (λ_=>Z) aXg (l:=l) 0 Z G (λx y=>lX x.rt y.rt) aWc (λW hW x hx y hy=>aFg ((Ku x hx).2 _ _ _ hW) ((Ku y hy).2 _ _ _ hW) (Ku x hx).1 (Ku y hy).1))) ?_;rintro _ _⟨rfl,l1,sd,wk,rfl⟩;rw[<-sd.length_eq];refine aA<|wq<|wm Z<|wn Z<|bN (R1:=(⟨117,2,A1,l1.length,c1,rgs l1,false⟩::Rs)) hiZ ?_;exact⟨_,Z,_,_,l1,Rs,Z,Ku.perm sd,RZ ((sd.map RC.rt).trans (by rw[hl])) (iw.2 (wk.imp λ{a b} h=>by rw[qE a.rt b.rt] at h;omega)),rfl⟩
variable {w:World}
theorem aQt {w:World} {gg:AF} {mm gi:Nat} {dt:AG} {ws:AD} (go:Rd w gg mm gi 1 dt) (mz:SlW .u8 w dt ws) (hN:(∀w∈ws,w.length<=8000)/\ws.length<=100000):
  CF 39 #[sl gg mm gi] w (λv R'=> ∃(A:AF) (c:Nat) (vals:AG) (Rs:List Row),v=sl A vals.length c/\SlR .u8 Rs vals (canon ws)/\R'=⟨22,1,A,vals.length,c,vals,false⟩::Rs):=by
 obtain rfl:mm=ws.length:=by have:=go.len;have:=mz.1;omega
 refine fn1 Tryz.func39 Z Z Z ?_;have Jx:=go.max;refine wq<|wn Z<|wq<|dB (R1:=(⟨22,1,none,0,0,[],false⟩::[])) (Sub.refl _) (λ_ h=>h.nil 22 1)<|wn Z<|aC<|wq<|wm Z<|wa (aD bQu Z (Ct.fresh (λw hw=>aTo ((go.c _) w hw) (mz.c hw) cE))) ?_;rintro _ _⟨_,rfl,bm,bl,sm,Rg,rfl,Ua,Hb,rfl⟩;refine dB (R1:=(⟨117,2,bm,sm.length,bl,rgs sm,false⟩::⟨22,1,none,0,0,[],false⟩::Rg)) (Sub.refl _) (λ_ h=>Hp.toTail0 (X:=[_]) (Y:=[_]) h)<|wy (aN Ia Z)<|wm Z<|aA<|aH ?_;refine UM (λ(i:Int) (A1:AF) (n1:Nat) (c1:Nat) (vals:AG) (ls:AD) (Rs:List Row)=>[(3,sl A1 n1 c1),(7,sl bm sm.length bl),(8,I (sm.length:Int)),(9,I i)]) (λi A1 n1 c1 vals ls Rs=>(⟨117,2,bm,sm.length,bl,rgs sm,false⟩::⟨22,1,A1,n1,c1,vals,false⟩::Rs)) (λi A1 n1 c1 vals ls Rs=>(0<=i)/\(i<=sm.length)/\(n1=vals.length)/\(SlR .u8 Rs vals ls)/\(RgR Rs sm)/\(ls=(sm.take i.toNat).map (λr=>rep r.root r.times))) (λi A1 n1 c1 vals ls Rs=>(sm.length-i).toNat) ?_ ?_
 ·exact⟨0,none,0,0,[],[],Rg,⟨G,G,(Z),(SlR.nilR _ _),(Ua),(Z)⟩,KP⟩
 intro i A1 n1 c1 vals ls Rs ⟨aw,ia,cv,vf,Ku,Nl⟩;have va:=bq List.length Nl;rw[cu,ax] at va;have Uh:=vf.1;have pk:0<=i->i<sm.length->0<(rdG sm i).root.length/\1<=(rdG sm i).times/\(rdG sm i).times.toNat*(rdG sm i).root.length<=8000:=λh h'=>bBs Hb hN.1 (aJv h h');have Yk:sm.length<=ws.length:=by have h1:=bq List.length Hb;rw[cu,(uG ws).length_eq] at h1;have h2:=GY ws;omega
 refine wq<|wL Z Z<|aA<|aC<|bA Z (λaq=> ?_) (λaq=> ?_)
 ·have Pp:=pk aw G;refine aI<|aC<|aH<|wq<|wy (dU Ia aSt Z Z (rdr 0 Z) Z) ?_;have Zq:=(Ku _ (aJv (l:=sm) (i:=i) G G)).2;refine wy (bKv Be Z aSt Z (rdr 0 Z) G G)<|wa (iC (sz:=2) bKk Z) ?_;rintro _ _⟨Li,rfl,rfl⟩;refine bV (fQ (vs:=[sl ((rdG sm i).A) ((rdG sm i).root.length) ((rdG sm i).c),I ((rdG sm i).times)]) 0 Z aSt Z Z Z (by intro v hv;simp at hv;rcases hv with rfl|rfl<;>rfl) Z) ?_;rintro _ _ rfl;refine aA<|aL<|wm Z<|wy (yF 0 0 Be dA Z)<|wy (yL 0 af Z Z Z)<|wy (yF 1 1 Be sz3 Z)<|wy (yL 0 ai Z Z Z)<|wa (aD bQt Z (Ct.fresh (λw hw=>aFk ((λ_ h=>Zq _ _ _ (h.right (R':=[_,_,_]))) w hw) Pp.1 Pp.2.1 Pp.2.2))) ?_;rintro _ _⟨_,rfl,kl,ci,rfl,rfl⟩;refine wa (mK [Value.slice kl ((rep ((rdG sm i).root) ((rdG sm i).times)).length) ci] dm yK Z Z Z Z) ?_;rintro _ _⟨kb,rfl,rfl⟩;refine wa (pJ 4 Z Z dm bAk Z Z Z Z Z (rdr 0 Z) (by simp[Value.oneCell']) (by dsimp only;omega)) ?_;rintro _ _⟨fh,rx,rfl,rfl⟩;refine bF (v:=sl fh (n1+1) rx) Z<|wn Z<|aL<|wA Z Z<|wm Z<|aA ?_;exact⟨i+1,fh,n1+1,rx,vals++([Value.slice kl ((rep ((rdG sm i).root) ((rdG sm i).times)).length) ci]),(ls++[rep (rdG sm i).root (rdG sm i).times]),(⟨5,1,kl,(rep ((rdG sm i).root) ((rdG sm i).times)).length,ci,ints .u8 (rep ((rdG sm i).root) ((rdG sm i).times)),true⟩::Rs),⟨G,G,(by rw[ah,cv];rfl),(vf.snoc Z),(Ku.right [_]),(by rw[aHu aw G,<-Nl])⟩,G,SA,λ_ h=>h.selR (F:=[_,_,_,_,_]) (F':=[_,_,_]) [3,4,1] cC Z⟩
 ·refine aU<|wq<|wm Z<|wn Z ?_;obtain rfl:ls=canon ws:=by rw[Nl];exact aHv Hb G
  refine aQ [1] 2 cC Z ?_;refine⟨_,Z,?_⟩;subst cv;exact⟨_,_,vals,Rs,Z,vf,Z⟩
theorem aPr {ap:AF} {ar ao:Nat} {u:AH} {po:AF} {sp pr:Nat} {t:AH} (ac:Rd w ap ar ao 1 (ints .u8 u)) (te:Rd w po sp pr 1 (ints .u8 t)) (an:aP u) (Oc:aP t):
  CF 274 #[sl ap ar ao,sl po sp pr] w (λv R'=>v= .bool (decide (u=t))):=by
 obtain rfl:=ac.lenI;obtain rfl:=te.lenI;refine fn1 Tryz.func274 Z Z Z ?_;have li:=ac.max;have Wg:=te.max;refine wq<|wn Z<|wq<|wm Z<|wy (tT af ay Db Z (ac.c _))<|wm Z<|wy (tT af ay Db Z (te.c _))<|wy (bKx Z Z an Oc)<|wn Z<|bS ?_;refine⟨_,Z,?_⟩;rfl
variable {ws ls:AD} {w:AH}
def kw (c:AH):RT:=(lI c,jA c)
structure CI (ws:AD) (ls:AD):Prop where
 perm:(ls.map kw).Perm (fB ws)
 sorted:ls.Pairwise λa b=>lX (kw a) (kw b)<=0
theorem CI.nil:CI [] []:=⟨.refl _, .nil⟩
theorem CI.skip (h:CI ws ls) (hw:w.length=0):CI (ws++[w]) ls:=⟨by
 have e:fB [w]=[]:=by unfold fB;simp[hw]
 rw[mY,e,jk]
 exact h.perm,h.sorted⟩
theorem CI.put {j:Int} (h:CI ws ls) (hw:0<w.length) (h0:0<=j) (h1:j<=ls.length) (s7: ∀q:Int,j<=q->q<ls.length->lX (kw (lw w)) (kw (rdl ls q))<0) (w6: ¬(0<j/\lX (kw (lw w)) (kw (rdl ls (j-1)))<0)):CI (ws++[w]) (ls.take j.toNat++[lw w]++ls.drop j.toNat):=by
 refine⟨?_,?_⟩
 ·rw [mY];have e:fB [w]=[FE w]:=by unfold fB;simp[hw]
  rw[e,jo,jo];refine List.Perm.trans ?_ (Dh [FE w] h.perm);rw[gy];refine(Bg _ yg).trans ?_;rw[<-gy,<-jo,gu];exact .refl _
 ·have hs:=h.sorted;have Mn:=hs;rw[<-gu j.toNat ls,kz] at Mn;obtain⟨s1,s2,s3⟩:=Mn
  have Ss: ∀b∈ls.drop j.toNat,lX (kw (lw w)) (kw b)<0:=λb hb=>by
   obtain⟨k,hk,e⟩:=gz.1 hb;rw[az] at hk;have:=s7 (j+k) G G
   have e2:rdl ls (j+k)=b:=by
    rw[<-e,Bh];unfold rdl;rw[show(j+(k:Int)).toNat=j.toNat+k by omega,ak,av G];rfl
   rwa[e2] at this
  have k5: ∀a∈ls.take j.toNat,lX (kw a) (kw (lw w))<=0:=λa ha=>by
   obtain⟨k,hk,e⟩:=gz.1 ha;rw[ax] at hk;have hj:0<j:=G
   have hl:lX (kw (rdl ls (j-1))) (kw (lw w))<=0:=by
    rw[qE (kw (lw w))];have:=λc=>w6 ⟨hj,c⟩;omega
   have e2:rdl ls (j-1)=ls[(j-1).toNat]' G:=by
    unfold rdl;rw[ak,av G];rfl
   rw[yu] at e;rcases fo k (j-1).toNat with g|g
   ·have:=dn.1 hs k (j-1).toNat G G g;rw[e,<-e2] at this;exact JS _ _ _ this hl
   ·obtain rfl:k=(j-1).toNat:=G
    rw[<-e,<-e2];exact hl
  rw[gy,kz];refine⟨s1,?_,?_⟩
  ·rw [qc,jb];exact⟨λb hb=>by have:=Ss b hb;omega,s2⟩
  ·intro a ha b hb;rw[qc,jm] at hb;rcases hb with rfl|hb
   ·exact k5 a ha
   ·exact s3 a ha b hb
theorem CI.done {ls:AD} (h:CI ws ls) (hp: ∀c∈ls,0<c.length):ls=canon ws:=by
 have:ls.map kw=yP ws:=RZ h.perm (iw.2 h.sorted);unfold canon;rw[<-this,zg]
 conv=>lhs;rw[<-List.map_id ls]
 refine Ce λc hc=> ?_;exact(GQ (hp c hc)).symm
end Go.Proofs.YtdbebmmhdefgdaaGreat
namespace Go.Pure
open Go Go.Eng
variable {t:Int} {u b:AH}
def EL (t:Int) (u:AH) (p:AH × AH):Prop:=
 (t=1/\ ∃b:AH,b.Perm (iota u.length)/\b.Pairwise (bU u)/\p=(bL (zat b),ofL u b))\/
 (t=2/\ ∃T:AE,T.Perm (gD (bws u) (bws u).length)/\T.Pairwise (jF (bws u))/\p=([],T.map (lastB (bws u))))\/
 (t≠1/\t≠2/\p=([],u))
theorem EL.uniq {p q:AH × AH} (h1:EL t u p) (h2:EL t u q):p=q:=by
 rcases h1 with⟨e1,b,hb,sb,rfl⟩|⟨e1,T,hT,sT,rfl⟩|⟨e1,e2,rfl⟩<;>rcases h2 with⟨f1,c,hc,sc,rfl⟩|⟨f1,U,hU,sU,rfl⟩|⟨f1,f2,rfl⟩
 ·rw[uK hb hc sb sc]
 ·omega
 ·omega
 ·omega
 ·rw[FP aFv (hT.trans hU.symm) sT sU]
 ·omega
 ·omega
 ·omega
 ·rfl
open Classical in
noncomputable def gB (t:Int) (u:AH):AH × AH:=if h: ∃p,EL t u p then Classical.choose h else([],[])
theorem BD {p:AH × AH} (h:EL t u p):gB t u=p:=by
 have he: ∃p,EL t u p:=⟨p,h⟩;unfold gB;rw[dif_pos he];exact(Classical.choose_spec he).uniq h
theorem KS (h1:t≠1) (h2:t≠2):gB t u=([],u):=BD (.inr (.inr ⟨h1,h2,rfl⟩))
theorem vO (hp:b.Perm (iota u.length)) (hs:b.Pairwise (bU u)):gB 1 u=(bL (zat b),ofL u b):=BD (.inl ⟨rfl,b,hp,hs,rfl⟩)
theorem vP {T:AE} (hp:T.Perm (gD (bws u) (bws u).length)) (hs:T.Pairwise (jF (bws u))):gB 2 u=([],T.map (lastB (bws u))):=BD (.inr (.inl ⟨rfl,T,hp,hs,rfl⟩))
noncomputable def bZ (t o:Int) (b:AH):AH:=
 bL b.length++((gB t b).1++(bL (bY (gB t b).2 o).length++(fP (bv (iN b))++bY (gB t b).2 o)))
theorem EL.facts {p:AH × AH} (h:EL t u p) (hu:aP u) (hN:u.length<=100000):(p.1.length<=3/\aP p.1)/\aP p.2/\p.2.length=u.length:=by
 rcases h with⟨_,b,hb,sb,rfl⟩|⟨_,T,hT,sT,rfl⟩|⟨_,_,rfl⟩
 ·have e1:=mO hb sb;have e2:=zK (s:=u) (k:=0) G;exact⟨⟨dV 2 _ G,fU G⟩,uL hu hb,(wH hb sb).length_eq⟩
 ·exact⟨⟨cD,λ_ h=>nomatch h⟩,kJ hT (by rw[lL];exact hu),by rw[cu,yI hT]⟩
 ·exact⟨⟨cD,λ_ h=>nomatch h⟩,hu,rfl⟩
theorem YE (hu:aP u) (hN:u.length<=100000):((gB t u).1.length<=3/\aP (gB t u).1)/\aP (gB t u).2/\(gB t u).2.length<=u.length:=by
 by_cases h: ∃p,EL t u p
 ·obtain ⟨p,hp⟩:=h;rw[BD hp];have:=hp.facts hu hN;exact⟨this.1,this.2.1,G⟩
 ·unfold gB;rw[dif_neg h];exact⟨⟨cD,λ_ h=>nomatch h⟩,(λ_ h=>nomatch h),cD⟩
theorem zY {o:Int} (hb:aP b) (hN:b.length<=100000):(bZ t o b).length<=2*b.length+22/\aP (bZ t o b):=by
 obtain⟨⟨h1,h0⟩,h2,h3⟩:=YE (t:=t) hb hN;have h4:=nX (o:=o) h2;have h5:=dV 2 (b.length:Int) G;have h6:=dV 2 ((bY (gB t b).2 o).length:Int) G;have h7:(fP (bv (iN b))).length=4:=rfl;unfold bZ;refine⟨by simp only[ah];omega,?_⟩;intro x hx;simp only[gp] at hx;rcases hx with hx|hx|hx|hx|hx
 ·exact fU G x hx
 ·exact h0 x hx
 ·exact fU G x hx
 ·exact jR _ x hx
 ·exact iD _ _ x hx
def chK (m n:Nat):Nat:=(m+n-1)/n
noncomputable def kS (t o:Int) (n:Nat) (u:AH) (k:Nat):AH:=((List.range k).map λj=>bZ t o ((u.drop (j*n)).take n)).flatten
theorem uT (t o:Int) (n:Nat) (u:AH):kS t o n u 0=[]:=rfl
theorem uU (t o:Int) (n:Nat) (u:AH) (k:Nat):kS t o n u (k+1)=kS t o n u k++bZ t o ((u.drop (k*n)).take n):=by
 unfold kS;rw[zw,jo,qg];simp
theorem kM {t o:Int} {n:Nat} {u:AH} (hu:aP u) (hN:u.length<=100000): ∀k:Nat,(kS t o n u k).length<=(2*u.length+22)*k/\aP (kS t o n u k)
 |0=>by rw[uT];exact⟨cD,λ_ h=>nomatch h⟩
 |k+1=>by
  have h1:=kM (t:=t) (o:=o) (n:=n) hu hN k;have h2:=zY (t:=t) (o:=o) (b:=(u.drop (k*n)).take n) ((hu.drop _).take _) (by rw[ax,az];omega);have h3:((u.drop (k*n)).take n).length<=u.length:=by rw[ax,az];omega
  rw[uU,ah,Nat.mul_add];refine⟨G,λx hx=> ?_⟩;rcases gp.1 hx with hx|hx
  ·exact h1.2 x hx
  ·exact h2.2 x hx
theorem WW {m n:Nat} (hn:1<=n):chK m n<=m:=by
 unfold chK;rcases ed m with h|h
 ·subst h;rw[Eb G];exact di _
 ·refine Nat.le_of_lt_succ ((Nat.div_lt_iff_lt_mul G).2 ?_);have:(m+1)*1<=(m+1)*n:=Nat.mul_le_mul_left _ hn;have e:(m+1)*n=m*n+n:=by rw[yf,Aa]
  have e2:m*1<=m*n:=Nat.mul_le_mul_left _ hn;show m+n-1<(m+1)*n;omega
noncomputable def jZ (t so o size:Int) (u:AH):AH:=
 (([87,72,82,76]++[1,t,so,o])++bL size++kS t o size.toNat u (chK u.length size.toNat))++(bL 0++bL u.length)
end Go.Pure
namespace Go.Proofs.YtdbebmmhdefgdaaGreat
open Go Go.Eng Go.Pure
open Tryz
set_option maxRecDepth 100000
variable {B ar ao:Nat} {w0:World} {R:List Row} {so od sz:Int} {ap:AF} {u:AH}
theorem EG {tu:Int} (ht:0<=tu/\tu<=3) (hp:(0<=so/\so<=2)/\(od=0\/od=1)/\(1<=sz/\sz<=16777216)):
  CT 23 #[.agg #[I tu,I so,I od,I sz]] B w0 (R) (λv R'=>v=bt/\R'=R):=by
 refine fn1 Tryz.func23 Z Z Z ?_;refine wq<|wa (bO (sz:=4) Z Z) ?_;rintro _ _⟨am,rfl,rfl⟩;refine wn Z<|wq<|wy (yF 0 0 bi sz3 Z)<|wy (yL 0 ai Z Z Z)<|wy (Yl.t (iA Z Z) G)<|wm Z<|aB Z Z<|wy (yF 0 0 bi sz3 Z)<|aB Z Z<|wy (yL 0 ai Z Z Z)<|aB Z Z<|wy (Yl.t (qK Z Z) G)<|wy (aT Z Z) ?_;refine wm Z<|aB Z Z<|wy (yF 1 1 bi sz3 Z)<|aB Z Z<|wy (yL 0 ai Z Z Z)<|aB Z Z<|wy (Yl.t (iA Z Z) G)<|wy (aT Z Z)<|wm Z<|aB Z Z<|wy (yF 1 1 bi sz3 Z)<|aB Z Z<|wy (yL 0 ai Z Z Z)<|aB Z Z<|wy (Yl.t (eD Z Z) G) ?_;refine wy (aT Z Z)<|wm Z<|aB Z Z<|wy (yF 2 2 bi sz3 Z)<|aB Z Z<|wy (yL 0 ai Z Z Z)<|aB Z Z<|wy (dR Z Z)<|aB Z Z<|wm Z<|cK 4 [(1,PG am),(21,bt),(29, .bool (decide ((od=0)\/(od=1))))] ((rc 27 4 am [I tu,I so,I od,I sz])::R) ?_ ?_
 ·refine bR 25 Z (λaq=> ?_) (λaq=> ?_)
  ·refine aM Z Z Z Z<|aM Z Z Z Z<|aM Z Z Z Z<|aB Z Z<|wy (aT Z Z)<|aA ?_;exact KP
  ·refine aB Z Z<|wy (yF 2 2 bi sz3 Z)<|aB Z Z<|wy (yL 0 ai Z Z Z)<|aB Z Z<|wy (dR Z Z)<|aB Z Z<|wy (aO Z Z)<|aA ?_;exact KP
 refine fH 29 Z (hp.2.1)<|wy (aT Z Z)<|wm Z<|aB Z Z<|wy (yF 3 3 bi sz3 Z)<|aB Z Z<|wy (yL 0 ai Z Z Z)<|aB Z Z<|wy (Yl.t (iA Z Z) G)<|wy (aT Z Z)<|wm Z<|aB Z Z<|wy (yF 3 3 bi sz3 Z)<|aB Z Z<|wy (yL 0 ai Z Z Z) ?_;refine aB Z Z<|wy (Yl.t (qK Z Z) G)<|wy (aT Z Z)<|wn Z<|aQ [] 1 cC Z ?_;exact⟨_,Z,Z,Z⟩
theorem aEn (ac:RdC B w0 R ap ar ao 1 (ints .u8 u)) (ce:ar=u.length) (an:aP u) (hN:u.length<=100000) (hp:(0<=so/\so<=2)/\(od=0\/od=1)/\(1<=sz/\sz<=16777216)):
  CT 74 #[sl ap ar ao,sl none 0 0, .agg #[I 0,I so,I od,I sz]] B w0 (R) (λv R'=>v= .tuple #[sl none 0 0,sl ap ar ao]/\R'=R):=by
 subst ce;refine fn2 Ka Z Z Z ?_;refine wq<|wa (bO (sz:=4) Z Z) ?_;rintro _ _⟨am,rfl,rfl⟩;refine wg Z<|wn Z<|aC<|wq<|wy (yF 0 0 bi sz3 Z)<|wy (yL 0 ai Z Z Z)<|aA<|aH<|wq<|wQ Z Z<|wn Z ?_;refine aJ Z<|wq<|wQ Z Z<|wn Z<|aJ Z<|wq<|wQ Z Z<|wn Z<|aJ Z<|aI<|aC ?_;refine aL<|wm Z<|wg Z<|wn Z<|aQ [] 1 cC Z ?_;refine⟨_,_,Z,Z,?_⟩;exact⟨Z,Z⟩
theorem aEm (ac:RdC B w0 R ap ar ao 1 (ints .u8 u)) (ce:ar=u.length) (an:aP u) (hN:u.length<=100000) (hp:(0<=so/\so<=2)/\(od=0\/od=1)/\(1<=sz/\sz<=16777216)):
  CT 74 #[sl ap ar ao,sl none 0 0, .agg #[I 1,I so,I od,I sz]] B w0 (R) (λv R'=> ∃(b1:AH) (A1:AF) (c1:Nat) (A2:AF) (c2:Nat),v= .tuple #[sl A1 (bL (zat b1)).length c1,sl A2 (ofL u b1).length c2]/\b1.Perm (iota u.length)/\b1.Pairwise (bU u)/\R'=(ru 5 A1 ((bL (zat b1)).length) c1 (bL (zat b1)))::(ru 5 A2 ((ofL u b1).length) c2 (ofL u b1))::R):=by
 subst ce;refine fn2 Ka Z Z Z ?_;refine wq<|wa (bO (sz:=4) Z Z) ?_;rintro _ _⟨am,rfl,rfl⟩;refine wg Z<|wn Z<|aC<|wq<|wy (yF 0 0 bi sz3 Z)<|wy (yL 0 ai Z Z Z)<|aA<|aH<|wq<|wR Z Z<|wn Z ?_;refine bE Z<|aC<|bI mixed<|wD 1 Z (yF 1 1 bi sz3 Z)<|wD 2 Z (yL 0 ai Z Z Z)<|wD 3 Z (aK Z)<|wC 0 Z (aD bLq Z (Ct.fresh (λw hw=>IG))) ?_;rintro _ _⟨_,rfl,du,rfl,rfl⟩;refine⟨.inr hrZ,?_⟩;refine wC 4 Z (aD bEb Z ((IZ (RdC.right ac [_]) (by first|rfl|(simp;done)|omega) an hN cC))) ?_;rintro _ _⟨b1,iu,js,e1,d0,d1,d2,rfl,hso,rfl⟩;obtain⟨_,Id⟩:=hso.resolve_left (λh=>absurd h.1 G);refine⟨.inl cA,?_⟩;refine wD 5 Z (aK Z)<|wD 6 Z (iE Z Z)<|wD 7 Z (iE Z Z)<|wD 8 Z (bC Z)<|wD 9 Z (bC Z)<|wN<|wq<|wm Z<|wm Z<|wa (aD bGq Z (Ct.fresh (λw hw=>aZm ((RdC.right ac [_,_,_]) w hw) ((rdr 0 Z) w hw) Id.2.1 G))) ?_;rintro _ _⟨_,rfl,fc,dv,rfl,rfl⟩;refine wm Z<|wX Z Z<|wX Z Z<|wX Z Z<|wg Z<|wg Z<|wn Z<|wq<|wm Z<|wa (aD QH Z (Ct.fresh (λw hw=>lJ (by have e1:=mO Id.2.1 Id.2.2.1;have e2:=zK (s:=u) (k:=0) G;omega)))) ?_;rintro _ _⟨_,rfl,br,bw,rfl,rfl⟩;refine wm Z<|wg Z<|wn Z<|aQ [0,1] 5 cC Z ?_;refine⟨_,_,Z,Z,?_⟩;exact⟨b1,_,_,_,_,Z,Id.2.1,Id.2.2.1,Z⟩
theorem aEl (ac:RdC B w0 R ap ar ao 1 (ints .u8 u)) (ce:ar=u.length) (an:aP u) (hN:u.length<=100000) (hp:(0<=so/\so<=2)/\(od=0\/od=1)/\(1<=sz/\sz<=16777216)):
  CT 74 #[sl ap ar ao,sl none 0 0, .agg #[I 2,I so,I od,I sz]] B w0 (R) (λv R'=> ∃(l1:AE) (A1:AF) (c1:Nat),v= .tuple #[sl none 0 0,sl A1 l1.length c1]/\l1.Perm (gD (bws u) (bws u).length)/\l1.Pairwise (jF (bws u))/\R'=(ru 5 A1 l1.length c1 (l1.map (lastB (bws u))))::R):=by
 subst ce;refine fn2 Ka Z Z Z ?_;refine wq<|wa (bO (sz:=4) Z Z) ?_;rintro _ _⟨am,rfl,rfl⟩;refine wg Z<|wn Z<|aC<|wq<|wy (yF 0 0 bi sz3 Z)<|wy (yL 0 ai Z Z Z)<|aA<|aH<|wq<|wQ Z Z<|wn Z ?_;refine aJ Z<|wq<|wR Z Z<|wn Z<|bE Z<|wq<|wm Z<|wa (aD bGz Z (Ct.fresh (λw hw=>OV ((RdC.right ac [_]) w hw) an hN))) ?_;rintro _ _⟨_,rfl,l1,fi,fj,rfl,qq,vt,rfl⟩;refine wm Z<|wX Z Z<|wX Z Z<|wg Z<|wn Z<|wq<|wm Z<|wg Z<|wn Z<|aQ [0] 2 cC Z ?_;refine⟨_,_,Z,Z,?_⟩;exact⟨l1,_,_,Z,qq,vt,Z⟩
theorem aRc (ac:RdC B w0 R ap ar ao 1 (ints .u8 u)) (ce:ar=u.length) (an:aP u) (hN:u.length<=100000) (hp:(0<=so/\so<=2)/\(od=0\/od=1)/\(1<=sz/\sz<=16777216)):
  CT 41 #[sl ap ar ao,sl none 0 0, .agg #[I 0,I so,I od,I sz]] B w0 (R) (λv R'=> ∃(A1:AF) (c1:Nat),v=sl A1 (bZ 0 od u).length c1/\R'=(ru 5 A1 ((bZ 0 od u).length) c1 (bZ 0 od u))::R):=by
 subst ce;refine fn1 Js Z Z Z ?_;refine wq<|wa (bO (sz:=4) Z Z) ?_;rintro _ _⟨am,rfl,rfl⟩;refine wn Z<|wq<|wm Z<|wm Z<|wy (cB (vs:=[I 0,I so,I od,I sz]) (rdr 0 Z) bi Z fD Z Z (au Z) Z)<|wa (aD bJg Z (aEn (RdC.right ac [_]) (by first|rfl|(simp;done)|omega) an hN hp)) ?_;rintro _ _⟨rfl,rfl⟩;have pv:(u).length=u.length:=rfl;have Me:=nX (b:=u) (o:=od) an;have zj:=dV 2 (u.length:Int) G;have j4:=dV 2 ((bY u od).length:Int) G;refine wm Z<|wX Z Z<|wX Z Z<|wg Z<|wn Z<|wq<|wm Z<|wy (yF 2 2 bi sz3 Z)<|wy (yL 0 ai Z Z Z)<|wa (aD bEc Z (Ct.fresh (λw hw=>xY ((RdC.right ac [_]) w hw) an hp.2.1 G))) ?_;rintro _ _⟨_,rfl,fi,fj,rfl,rfl⟩;refine wm Z<|wX Z Z<|wX Z Z<|wg Z<|wn Z<|wq<|wm Z<|wy (aN af Z)<|wa (aD QH Z (Ct.fresh (λw hw=>lJ G))) ?_;rintro _ _⟨_,rfl,dy,jt,rfl,rfl⟩;refine wm Z<|wm Z<|wy (aN af Z)<|wa (aD QH Z (Ct.fresh (λw hw=>lJ G))) ?_;rintro _ _⟨_,rfl,eh,bo,rfl,rfl⟩;refine wa (aD aQb Z (Ct.fresh (λw hw=>qI))) ?_;rintro _ _⟨_,rfl,kh,rfl,rfl⟩;refine wm Z<|wa (mK [Value.slice ap u.length ao] dm yK Z Z Z Z) ?_;rintro _ _⟨kb,rfl,rfl⟩;refine wa (aD aQa Z (Ct.at 1 Z (qH (ls:=[u]) (.inl ⟨Z,Z,bu ..,G⟩) (rdr 0 rfl) rfl (AC.one (l:=u) (RdC.right ac [_,_,_,_,_]) an (by first|rfl|simp|(simp[upd];done))) (Big.one (by first|omega|decide|simp))))) ?_;rintro _ _⟨rfl,rfl⟩;refine wa (aD bJf Z (Ct.fresh (λw hw=>NL ⟨by unfold bv;omega,by unfold bv;have:=(iN ([u]).flatten).isLt;omega⟩))) ?_;rintro _ _⟨_,rfl,fh,rx,rfl,rfl⟩;refine wm Z<|wa (mK [Value.slice dy ((bL (u.length:Int)).length) jt,Value.slice none 0 0,Value.slice eh ((bL (((bY u od).length:Nat):Int)).length) bo,Value.slice fh 4 rx,Value.slice fi ((bY u od).length) fj] dm yK Z Z Z Z) ?_;rintro _ _⟨xa,rfl,rfl⟩;refine wa (aD QG Z (Ct.fresh (λw hw=>kL ((rdr 0 Z) w hw) ((((((jI _ _).snoc ((rdr 5 Z) w hw) (λx hx=>fZ ((fU G) x hx)) G).snoc ((VL _) w hw) (λx hx=>by cases hx) cC).snoc ((rdr 4 rfl) w hw) (λx hx=>fZ ((fU G) x hx)) G).snoc ((rdr 1 rfl) w hw) (λx hx=>fZ ((jR _) x hx)) (by show(4:Nat)<=_;decide)).snoc ((rdr 6 rfl) w hw) (λx hx=>fZ ((iD _ _) x hx)) G) ⟨by simp only[um,je,jh,qc,lm,si,ym,Iq,jl];have h4:(fP (bv (iN ([u]).flatten))).length=4:=rfl;omega,cD⟩))) ?_;rintro _ _⟨_,rfl,ur,uv,rfl,rfl⟩;refine wn Z<|aQ [0] 9 cC Z ?_;refine⟨_,Z,?_⟩
 have e:([bL (u.length:Int),[],bL (((bY (u) od).length:Nat):Int),fP (bv (iN ([u]).flatten)),bY (u) od]).flatten=bZ 0 od u:=by
  unfold bZ;rw[KS (t:=0) (u:=u) cC cC];simp
 rw[<-e];exact⟨_,_,Z,Z⟩
theorem aRb (ac:RdC B w0 R ap ar ao 1 (ints .u8 u)) (ce:ar=u.length) (an:aP u) (hN:u.length<=100000) (hp:(0<=so/\so<=2)/\(od=0\/od=1)/\(1<=sz/\sz<=16777216)):
  CT 41 #[sl ap ar ao,sl none 0 0, .agg #[I 1,I so,I od,I sz]] B w0 (R) (λv R'=> ∃(A1:AF) (c1:Nat),v=sl A1 (bZ 1 od u).length c1/\R'=(ru 5 A1 ((bZ 1 od u).length) c1 (bZ 1 od u))::R):=by
 subst ce;refine fn1 Js Z Z Z ?_;refine wq<|wa (bO (sz:=4) Z Z) ?_;rintro _ _⟨am,rfl,rfl⟩;refine wn Z<|wq<|wm Z<|wm Z<|wy (cB (vs:=[I 1,I so,I od,I sz]) (rdr 0 Z) bi Z fD Z Z (au Z) Z)<|wa (aD bJg Z (aEm (RdC.right ac [_]) (by first|rfl|(simp;done)|omega) an hN hp)) ?_;rintro _ _⟨b1,fi,fj,dy,jt,rfl,cq,dj,rfl⟩;have pv:(ofL u b1).length=u.length:=(by rw[(wH cq dj).length_eq]);have Me:=nX (b:=ofL u b1) (o:=od) (uL an cq);have zj:=dV 2 (u.length:Int) G;have j4:=dV 2 ((bY (ofL u b1) od).length:Int) G;have hz:0<=zat b1/\zat b1<=100000:=by have e1:=mO cq dj;have e2:=zK (s:=u) (k:=0) G;omega
 have un:=dV 2 (zat b1) G;refine wm Z<|wX Z Z<|wX Z Z<|wg Z<|wn Z<|wq<|wm Z<|wy (yF 2 2 bi sz3 Z)<|wy (yL 2 ai Z Z Z)<|wa (aD bEc Z (Ct.fresh (λw hw=>xY ((rdr 1 Z) w hw) (uL an cq) hp.2.1 G))) ?_;rintro _ _⟨_,rfl,eh,bo,rfl,rfl⟩;refine wm Z<|wX Z Z<|wX Z Z<|wg Z<|wn Z<|wq<|wm Z<|wy (aN af Z)<|wa (aD QH Z (Ct.fresh (λw hw=>lJ G))) ?_;rintro _ _⟨_,rfl,ln,co,rfl,rfl⟩;refine wm Z<|wm Z<|wy (aN af Z)<|wa (aD QH Z (Ct.fresh (λw hw=>lJ G))) ?_;rintro _ _⟨_,rfl,fh,rx,rfl,rfl⟩;refine wa (aD aQb Z (Ct.fresh (λw hw=>qI))) ?_;rintro _ _⟨_,rfl,g_18,rfl,rfl⟩;refine wm Z<|wa (mK [Value.slice ap u.length ao] dm yK Z Z Z Z) ?_;rintro _ _⟨g_20,rfl,rfl⟩;refine wa (aD aQa Z (Ct.at 1 Z (qH (ls:=[u]) (.inl ⟨Z,Z,bu ..,G⟩) (rdr 0 rfl) rfl (AC.one (l:=u) (RdC.right ac [_,_,_,_,_,_,_]) an (by first|rfl|simp|(simp[upd];done))) (Big.one (by first|omega|decide|simp))))) ?_;rintro _ _⟨rfl,rfl⟩;refine wa (aD bJf Z (Ct.fresh (λw hw=>NL ⟨by unfold bv;omega,by unfold bv;have:=(iN ([u]).flatten).isLt;omega⟩))) ?_;rintro _ _⟨_,rfl,yq,yr,rfl,rfl⟩;refine wm Z<|wa (mK [Value.slice ln ((bL (u.length:Int)).length) co,Value.slice fi ((bL (zat b1)).length) fj,Value.slice fh ((bL (((bY (ofL u b1) od).length:Nat):Int)).length) rx,Value.slice yq 4 yr,Value.slice eh ((bY (ofL u b1) od).length) bo] dm yK Z Z Z Z) ?_;rintro _ _⟨yv,rfl,rfl⟩;refine wa (aD QG Z (Ct.fresh (λw hw=>kL ((rdr 0 Z) w hw) ((((((jI _ _).snoc ((rdr 5 Z) w hw) (λx hx=>fZ ((fU G) x hx)) G).snoc ((rdr 7 Z) w hw) (λx hx=>fZ ((fU hz.1) x hx)) G).snoc ((rdr 4 Z) w hw) (λx hx=>fZ ((fU G) x hx)) G).snoc ((rdr 1 Z) w hw) (λx hx=>fZ ((jR _) x hx)) (by show(4:Nat)<=_;decide)).snoc ((rdr 6 Z) w hw) (λx hx=>fZ ((iD _ _) x hx)) G) ⟨by simp only[um,je,jh,qc,lm,si,ym,Iq,jl];have h4:(fP (bv (iN ([u]).flatten))).length=4:=rfl;omega,cD⟩))) ?_;rintro _ _⟨_,rfl,pm,pn,rfl,rfl⟩;refine wn Z<|aQ [0] 11 cC Z ?_;refine⟨_,Z,?_⟩
 have e:([bL (u.length:Int),bL (zat b1),bL (((bY (ofL u b1) od).length:Nat):Int),fP (bv (iN ([u]).flatten)),bY (ofL u b1) od]).flatten=bZ 1 od u:=by
  unfold bZ;rw[vO cq dj];simp
 rw[<-e];exact⟨_,_,Z,Z⟩
theorem aRa (ac:RdC B w0 R ap ar ao 1 (ints .u8 u)) (ce:ar=u.length) (an:aP u) (hN:u.length<=100000) (hp:(0<=so/\so<=2)/\(od=0\/od=1)/\(1<=sz/\sz<=16777216)):
  CT 41 #[sl ap ar ao,sl none 0 0, .agg #[I 2,I so,I od,I sz]] B w0 (R) (λv R'=> ∃(A1:AF) (c1:Nat),v=sl A1 (bZ 2 od u).length c1/\R'=(ru 5 A1 ((bZ 2 od u).length) c1 (bZ 2 od u))::R):=by
 subst ce;refine fn1 Js Z Z Z ?_;refine wq<|wa (bO (sz:=4) Z Z) ?_;rintro _ _⟨am,rfl,rfl⟩;refine wn Z<|wq<|wm Z<|wm Z<|wy (cB (vs:=[I 2,I so,I od,I sz]) (rdr 0 Z) bi Z fD Z Z (au Z) Z)<|wa (aD bJg Z (aEl (RdC.right ac [_]) (by first|rfl|(simp;done)|omega) an hN hp)) ?_;rintro _ _⟨l1,fi,fj,rfl,qq,vt,rfl⟩;have pv:(l1.map (lastB (bws u))).length=u.length:=(by rw[cu,yI qq]);have Me:=nX (b:=l1.map (lastB (bws u))) (o:=od) (kJ qq (by rw[lL];exact an));have zj:=dV 2 (u.length:Int) G;have j4:=dV 2 ((bY (l1.map (lastB (bws u))) od).length:Int) G;refine wm Z<|wX Z Z<|wX Z Z<|wg Z<|wn Z<|wq<|wm Z<|wy (yF 2 2 bi sz3 Z)<|wy (yL 1 ai Z Z Z)<|wa (aD bEc Z (Ct.fresh (λw hw=>xY ((rdr 0 Z) w hw) (kJ qq (by rw[lL];exact an)) hp.2.1 G))) ?_;rintro _ _⟨_,rfl,dy,jt,rfl,rfl⟩;refine wm Z<|wX Z Z<|wX Z Z<|wg Z<|wn Z<|wq<|wm Z<|wy (aN af Z)<|wa (aD QH Z (Ct.fresh (λw hw=>lJ G))) ?_;rintro _ _⟨_,rfl,eh,bo,rfl,rfl⟩;refine wm Z<|wm Z<|wy (aN af Z)<|wa (aD QH Z (Ct.fresh (λw hw=>lJ G))) ?_;rintro _ _⟨_,rfl,ln,co,rfl,rfl⟩;refine wa (aD aQb Z (Ct.fresh (λw hw=>qI))) ?_;rintro _ _⟨_,rfl,o6,rfl,rfl⟩;refine wm Z<|wa (mK [Value.slice ap u.length ao] dm yK Z Z Z Z) ?_;rintro _ _⟨o7,rfl,rfl⟩;refine wa (aD aQa Z (Ct.at 1 Z (qH (ls:=[u]) (.inl ⟨Z,Z,bu ..,G⟩) (rdr 0 rfl) rfl (AC.one (l:=u) (RdC.right ac [_,_,_,_,_,_]) an (by first|rfl|simp|(simp[upd];done))) (Big.one (by first|omega|decide|simp))))) ?_;rintro _ _⟨rfl,rfl⟩;refine wa (aD bJf Z (Ct.fresh (λw hw=>NL ⟨by unfold bv;omega,by unfold bv;have:=(iN ([u]).flatten).isLt;omega⟩))) ?_;rintro _ _⟨_,rfl,vi,gh,rfl,rfl⟩;refine wm Z<|wa (mK [Value.slice eh ((bL (u.length:Int)).length) bo,Value.slice none 0 0,Value.slice ln ((bL (((bY (l1.map (lastB (bws u))) od).length:Nat):Int)).length) co,Value.slice vi 4 gh,Value.slice dy ((bY (l1.map (lastB (bws u))) od).length) jt] dm yK Z Z Z Z) ?_;rintro _ _⟨Lj,rfl,rfl⟩;refine wa (aD QG Z (Ct.fresh (λw hw=>kL ((rdr 0 Z) w hw) ((((((jI _ _).snoc ((rdr 5 Z) w hw) (λx hx=>fZ ((fU G) x hx)) G).snoc ((VL _) w hw) (λx hx=>by cases hx) cC).snoc ((rdr 4 rfl) w hw) (λx hx=>fZ ((fU G) x hx)) G).snoc ((rdr 1 rfl) w hw) (λx hx=>fZ ((jR _) x hx)) (by show(4:Nat)<=_;decide)).snoc ((rdr 6 rfl) w hw) (λx hx=>fZ ((iD _ _) x hx)) G) ⟨by simp only[um,je,jh,qc,lm,si,ym,Iq,jl];have h4:(fP (bv (iN ([u]).flatten))).length=4:=rfl;omega,cD⟩))) ?_;rintro _ _⟨_,rfl,m9,o0,rfl,rfl⟩;refine wn Z<|aQ [0] 10 cC Z ?_;refine⟨_,Z,?_⟩
 have e:([bL (u.length:Int),[],bL (((bY (l1.map (lastB (bws u))) od).length:Nat):Int),fP (bv (iN ([u]).flatten)),bY (l1.map (lastB (bws u))) od]).flatten=bZ 2 od u:=by
  unfold bZ;rw[vP qq vt];simp
 rw[<-e];exact⟨_,_,Z,Z⟩
variable {B g ar ao:Nat} {w0:World} {R:List Row} {ap:AF} {u:AH}
theorem aVs {k:Int} (ac:RdC B w0 R ap ar ao 1 (ints .u8 u)) (ce:ar=u.length):
  CT 92 #[PG g] B w0 ((rc 146 1 g [sl ap ar ao])::R) (λv R'=>v=I (u.length:Int)/\R'=(rc 146 1 g [sl ap ar ao])::R):=by
 subst ce;refine fn1 Tryz.func92 Z Z Z ?_;refine wq<|wn Z<|aC<|wq<|wm Z<|wy (dL Ai Z Z)<|aA<|aJ Z<|aI<|wq<|wm Z ?_;refine wy (aF Z)<|wy (yF 0 0 Ak dA Z)<|wy (yL 0 af Z Z Z)<|wy (aN af Z)<|wn Z<|bN (R1:=((rc 146 1 g [sl ap u.length ao])::R)) hiZ ?_;exact⟨_,Z,Z,Z⟩
theorem CQ {gc:Nat} {At:AF} {nt ct:Nat} {p0 p1 p2 p3 ms tt ls V:Int} {m:Nat} (ac:RdC B w0 R ap ar ao 1 (ints .u8 u)) (ce:ar=u.length) (hN:u.length<=1000000) (an:aP u) (hG:vC u V m) (hm:V<=9223372036854775807):
  CT 90 #[PG g] B w0 ((rc 87 10 g [PG gc,I p0,I p1,I p2,I p3,I ms,I tt,I ls,sl At nt ct,sl none 0 0])::(rc 146 1 gc [sl ap ar ao])::R) (λv R'=>v= .tuple #[I V,bt]/\R'=(rc 87 10 g [PG gc,I p0,I p1,I p2,I p3,I ms,I tt,I ls,sl At nt ct,sl none 0 0])::(rc 146 1 gc [sl (jE ap m ao 1) (ar-m) (ao-m)])::R):=by
 subst ce;refine fn2 Tryz.func90 Z Z Z ?_;refine wq<|wg Z<|wn Z<|wq<|wm Z<|wy (aF Z)<|wy (yF 0 0 ic aMn Z)<|wy (yL 0 Ai Z Z Z)<|wa (aD bOo Z (Ct.pick [1,0] 2 cC Z (UN (RdC.right ac [_]) Z hN an hG hm cC))) ?_;rintro _ _⟨rfl,rfl⟩;refine wX Z Z<|wX Z Z<|wg Z<|wn Z<|aQ [1,0] 2 cC Z ?_;refine⟨_,_,Z,Z,?_⟩;exact⟨Z,Z⟩
theorem aGp {B:Nat} {w0:World} {R:List Row} {g gc:Nat} {ap At:AF} {ar ao nt ct:Nat} {u:AH} {p0 p1 p2 p3 ms tt ls sz:Int} {b0 b1 b2:Int} {m:Nat} (ac:RdC B w0 R ap ar ao 1 (ints .u8 u)) (ce:ar=u.length) (hN:u.length<=1000000) (an:aP u) (h5:u.take (5:Int).toNat=[87,72,82,76,1]) (h3:(u.drop (5:Int).toNat).take (3:Int).toNat=[b0,b1,b2]) (hl8:8<=u.length) (hG:vC ((u.drop (5:Int).toNat).drop (3:Int).toNat) sz m) (ye:0<=b0/\b0<=3) (Tt:(0<=b1/\b1<=2)/\(b2=0\/b2=1)/\(1<=sz/\sz<=16777216)):
  CT 89 #[PG g] B w0 ((rc 87 10 g [PG gc,I p0,I p1,I p2,I p3,I ms,I tt,I ls,sl At nt ct,sl none 0 0])::(rc 146 1 gc [sl ap ar ao])::R) (λv R'=>v=bt/\R'=(rc 87 10 g [PG gc,I b0,I b1,I b2,I sz,I ms,I tt,I ls,sl At nt ct,sl none 0 0])::(rc 146 1 gc [.slice (jE (jE (jE ap (5:Int).toNat ao 1) (3:Int).toNat (ao-(5:Int).toNat) 1) m (ao-(5:Int).toNat-(3:Int).toNat) 1) (ar-(5:Int).toNat-(3:Int).toNat-m) (ao-(5:Int).toNat-(3:Int).toNat-m)])::R):=by
 subst ce;have Vy:rd ((u.drop (5:Int).toNat).take (3:Int).toNat) 0=b0:=by rw[h3];rfl
 have Mh:rd ((u.drop (5:Int).toNat).take (3:Int).toNat) 1=b1:=by rw[h3];rfl
 have j5:rd ((u.drop (5:Int).toNat).take (3:Int).toNat) 2=b2:=by rw[h3];rfl
 refine fn1 Tryz.func89 Z Z Z ?_;refine wq<|wn Z<|wq<|wm Z<|wy (aF Z)<|wy (yF 0 0 ic aMn Z)<|wy (yL 0 Ai Z Z Z)<|wa (aD aLd Z (Ct.pick [1,0] 2 cC Z (zF (RdC.right ac [_]) Z hN G))) ?_;rintro _ _⟨bm,bl,rfl,rfl⟩;refine wm Z<|wX Z Z<|wX Z Z<|wg Z<|wn Z<|aC<|wq<|wm Z<|wy (dI Z)<|wm Z<|aB Z Z<|wm Z<|aB Z Z ?_;refine wy (tT af ay Db Z (rdr 0 Z))<|aB Z Z<|wy (Yl.f (aRr (q:=[87,72,82,76,1]) Z Z (an.take _) (by unfold aP;decide)) (by rw[h5];decide)) ?_;refine wy (aO Z Z)<|aA<|aJ Z<|aI<|wq<|wm Z<|wy (aF Z)<|wy (yF 0 0 ic aMn Z)<|wy (yL 2 Ai Z Z Z)<|wa (aD aLd Z (Ct.pick [1,0,2] 3 cC Z (zF (RdC.fromI (RdC.right ac [_,_]) G) (by rw[az]) (by rw[az];omega) (by rw[az];omega)))) ?_;rintro _ _⟨fi,fj,rfl,rfl⟩;refine wm Z<|wX Z Z<|wX Z Z<|wg Z<|wn Z<|wq<|wm Z<|wa (aD aPy Z (Ct.pick [3,1,0,2] 4 cC Z (CQ (RdC.fromI (RdC.fromI (RdC.right ac [_,_]) G) G) (by rw[az,az]) (by rw[az,az];omega) ((an.drop _).drop _) hG G))) ?_;rintro _ _⟨rfl,rfl⟩;refine wm Z<|wX Z Z<|wX Z Z<|wg Z<|wn Z<|aC<|wq<|wm Z<|wy (dI Z)<|wm Z<|aB Z Z<|wm Z<|aB Z Z ?_;refine wy (dI Z)<|wy (aO Z Z)<|aA<|aJ Z<|aI<|aC<|bI mixed<|wD 0 Z (aK Z)<|wD 1 Z (aK Z)<|wD 2 Z (aG af sz5 Z Z (rdr 2 Z))<|wD 3 Z (aR ay Z Z (rdr 2 Z))<|wD 4 Z (iK ay ai Z)<|wD 5 Z (aK Z)<|wD 6 Z (aG af sz5 Z Z (rdr 2 Z))<|wD 7 Z (aR ay Z Z (rdr 2 Z)) ?_;refine wD 8 Z (iK ay ai Z)<|wD 9 Z (aK Z)<|wD 10 Z (aG af sz5 Z Z (rdr 2 Z))<|wD 11 Z (aR ay Z Z (rdr 2 Z))<|wD 12 Z (iK ay ai Z)<|wD 13 Z (aK Z)<|wD 14 Z (dW (v:= .agg #[I (rd (((u).drop (5:Int).toNat).take (3:Int).toNat) 0),I (rd (((u).drop (5:Int).toNat).take (3:Int).toNat) 1),I (rd (((u).drop (5:Int).toNat).take (3:Int).toNat) 2),I sz]) Z (λw=>cA))<|wD 15 rfl (aF rfl)<|wD 16 rfl (yF 1 1 ic fD rfl)<|oU 17 rfl cA (PE (j:=1) (r:=(rc 87 10 g [PG gc,I p0,I p1,I p2,I p3,I ms,I tt,I ls,sl At nt ct,sl none 0 0])) (vs:=[I (rd (((u).drop (5:Int).toNat).take (3:Int).toNat) 0),I (rd (((u).drop (5:Int).toNat).take (3:Int).toNat) 1),I (rd (((u).drop (5:Int).toNat).take (3:Int).toNat) 2),I sz]) 0 rfl rfl rfl fD rfl (by simp[pat,Addr.add]) rfl rfl (by intro v hv;simp at hv;rcases hv with rfl|rfl|rfl|rfl<;>rfl) (au rfl)) ?_;rintro _ _ rfl;refine⟨.inl cA,?_⟩;refine wN<|wq<|wm Z<|wy (aF Z)<|wy (yF 1 1 ic fD Z)<|wy (cB (vs:=[I (rd (((u).drop (5:Int).toNat).take (3:Int).toNat) 0),I (rd (((u).drop (5:Int).toNat).take (3:Int).toNat) 1),I (rd (((u).drop (5:Int).toNat).take (3:Int).toNat) 2),I sz]) (rdr 0 Z) bi Z fD Z Z (au Z) Z)<|wa (aD aXp Z (EG (by rw[Vy];exact ye) (by rw[Mh,j5];exact Tt))) ?_;rintro _ _⟨rfl,rfl⟩;refine wn Z<|aQ [0,1] 4 cC Z ?_;refine⟨_,Z,?_⟩;rw[Vy,Mh,j5];exact⟨Z,Z⟩
end Go.Proofs.YtdbebmmhdefgdaaGreat
namespace Go.Pure
open Go Go.Eng
variable {x b l C:AH} {m:Nat} {low size total o y i:Int}
def sV (l:AH):Int:=l.foldl (λa d=>a*256+d) 0
theorem FR (l:AH) (d:Int):sV (l++[d])=sV l*256+d:=by unfold sV;rw[Gy];rfl
theorem aOg (h:m<x.length):sV (x.take (m+1))=sV (x.take m)*256+rd x (m:Int):=by
 have e:=dH (j:=(m:Int)) (show(0:Int)<=m by omega) (show(m:Int)<x.length by omega);rw[show((m:Int)+1).toNat=m+1 by omega,cz] at e;rw[e,FR]
theorem aAu: ∀(k:Nat) (N:Int),0<=N->N<256^k->sV (beL k N)=N
 |0,N,h0,h1=>by rw[uz] at h1;show(0:Int)=N;omega
 |k+1,N,h0,h1=>by
  rw[wh] at h1;rw[beL,FR,aAu k (N/256) G (zq G h1)];omega
theorem aYe (N:Int) (m:Nat):N/256/256^m=N/256^(m+1):=by
 rw[wh,Dg,Int.ediv_ediv_of_nonneg G]
theorem aDp (a:Nat): ∀(m:Nat) (N:Int),(beL (a+m) N).take a=beL a (N/256^m)
 |0,N=>by rw[uz,Int.ediv_one,qo];exact bg (by rw[jW];exact di _)
 |m+1,N=>by
  rw[show a+(m+1)=(a+m)+1 by omega,beL,Et (by rw[jW];omega),aDp a m (N/256),aYe]
theorem CU: ∀(k:Nat) (l:AH),l.length=k->aP l->0<=sV l/\sV l<256^k
 |0,l,h,_=>by rw[ek h,uz];show(0:Int)<=0/\(0:Int)<1;omega
 | k+1,l,h,hb=>by
  have hl:(k:Int)<l.length:=G
  have e:l=l.take k++[rd l (k:Int)]:=by
   have e:=dH (j:=(k:Int)) (show(0:Int)<=k by omega) hl;rw[show((k:Int)+1).toNat=k+1 by omega,cz,bg G] at e;exact e
  have ih:=CU k (l.take k) (by rw[ax];omega) (hb.take _);have hd:=hb.rd (k:Int);rw[e,FR,wh];omega
structure InC (s f:CdS):Prop where
 k:s.k<=f.k
 lo:s.N*256^(f.k-s.k)<=f.N
 hi:f.N+f.R<=(s.N+s.R)*256^(f.k-s.k)
theorem InC.refl (s:CdS):InC s s:=⟨di _,by rw[zh,uz,zx];exact lq _,by rw[zh,uz,zx];exact lq _⟩
theorem InC.trans {a b c:CdS} (h:InC a b) (g:InC b c):InC a c:=by
 have hk:=h.k;have gk:=g.k;have e:c.k-a.k=(b.k-a.k)+(c.k-b.k):=G
 have hp:(0:Int)<=256^(c.k-b.k):=vz G;refine⟨G,?_,?_⟩
 ·rw [e,zy,<-su];exact Im (nz h.lo hp) g.lo
 ·rw [e,zy,<-su];exact Im g.hi (nz h.hi hp)
theorem aJy {s:CdS} (h:XM s) (hs:sI low size total):InC s (eY s low size total):=by
 obtain⟨r0,r1,n0,nr⟩:=h;obtain⟨f1,f2,f3,f4,f5⟩:=nS hs ⟨r0,r1⟩;unfold eY;generalize hq:s.R/total*size=R1 at*;generalize hl:s.R/total*low=x at*;generalize shN R1=j at*;have hp:(0:Int)<=256^j:=vz G;refine⟨by dsimp only;omega,?_,?_⟩
 ·show s.N*256^(s.k+j-s.k)<=(s.N+x)*256^j;rw[show s.k+j-s.k=j by omega];exact nz G hp
 ·show (s.N+x)*256^j+R1*256^j<=(s.N+s.R)*256^(s.k+j-s.k);rw[show s.k+j-s.k=j by omega,<-Jo];exact nz G hp
theorem YR (o:Int) (s:PpS) (x:Int):(kW o s x).cd=qN s.cd (vU o s) x:=by unfold kW aMy;split<;>(try split)<;>rfl
theorem aKr {o:Int}: ∀(l:AH) (s:PpS),aIq l->QK s->InC s.cd (l.foldl (kW o) s).cd
 |[],s,_,_=>InC.refl _
 |x::l,s,hl,h=>by
  have hx:=hl x cD;have h1:=KX (o:=o) h hx.1 hx.2;have h2:=aKr (o:=o) l (kW o s x) (λy hy=>hl y (fe _ hy)) h1.1;rw[List.foldl_cons];refine InC.trans ?_ h2;rw[YR];exact aJy h.2.2 (jY (JL (o:=o) h) hx.1 hx.2)
theorem bBa {s f:CdS} (h:XM s) (hs:sI low size total) (hf:InC (eY s low size total) f) (hr:0<f.R):
  s.R/total*low<=f.N/256^(f.k-s.k)-s.N/\f.N/256^(f.k-s.k)-s.N<s.R/total*(low+size):=by
 obtain⟨hk,w6,Sw⟩:=hf;unfold eY at hk w6 Sw;dsimp only at hk w6 Sw;rw[Jp];generalize s.R/total*size=R1 at*;generalize s.R/total*low=x at*;generalize shN R1=j at*;have e:f.k-s.k=j+(f.k-(s.k+j)):=G
 have hp:(0:Int)<256^(f.k-s.k):=Eo G;rw[su,<-zy,<-e] at w6;rw[<-Jo,su,<-zy,<-e] at Sw;have h1:=(Av (a:=s.N+x) (b:=f.N) hp).2 w6;have h2:=zq (a:=f.N) (b:=s.N+x+R1) hp G;omega
theorem aXh (o:Int) (l m:AH):encP o (l++m)=m.foldl (kW o) (encP o l):=by unfold encP;rw[Gy]
theorem aUq (h:aP b) {k:Nat} (hk:k<=(encP o (bK b)).cd.k):sV ((bY b o).take (k+4))=(encP o (bK b)).cd.N/256^((encP o (bK b)).cd.k-k):=by
 have hc:=(DW (o:=o) (qM h)).1.2.2;unfold bY;generalize (encP o (bK b)).cd=f at*;obtain⟨r0,r1,n0,nr⟩:=hc;rw[show f.k+4=(k+4)+(f.k-k) by omega,aDp];refine aAu _ _ (Ew n0 (vz G)) ?_;refine zq (Eo G) ?_;rw[<-zy,show k+4+(f.k-k)=f.k+4 by omega];omega
def cuC (x:AH) (s:CdS):Int:=sV (x.take (s.k+4))-s.N
theorem aYp {C q:Int} (hq:0<q) (h1:q*low<=C) (h2:C<q*(low+size)):low<=C/q/\C/q<low+size:=
 ⟨(Av hq).2 (by rw[Dg];exact h1),zq hq (by rw[Dg];exact h2)⟩
structure tN (x:AH) (cd:CdS) (C:AH) (y:Int):Prop where
 lo:cd.R/aW C*aW (C.take y.toNat)<=cuC x cd
 hi:cuC x cd<cd.R/aW C*(aW (C.take y.toNat)+rd C y)
 c0:0<=cuC x cd
 c1:cuC x cd<4294967296
 v0:aW (C.take y.toNat)<=cuC x cd/(cd.R/aW C)
 v1:cuC x cd/(cd.R/aW C)<aW (C.take y.toNat)+rd C y
 len:(qN cd C y).k+4<=x.length
theorem aYq {r:AH} (hb:aP b) (hl:bK b=l++y::r):tN (bY b o) (encP o l).cd (vU o (encP o l)) y:=by
 have m7:=qM hb;have hy:=m7 y (by rw[hl];simp);have vf:aIq l:=λz hz=>m7 z (by rw[hl];exact Bo _ hz);have hsr:aIq r:=λz hz=>m7 z (by rw[hl];exact List.mem_append_right _ (fe _ hz));have dq:=(DW (o:=o) vf).1;have a6:=jY (JL (o:=o) dq) hy.1 hy.2;have h1:=KX (o:=o) dq hy.1 hy.2;have cj:=aKr (o:=o) r _ hsr h1.1;have hf:(encP o (bK b)).cd=(r.foldl (kW o) (kW o (encP o l) y)).cd:=by rw[hl,aXh];rfl
 have Qc:=(DW (o:=o) m7).1.2.2;rw[<-hf,YR] at cj;have hc:=dq.2.2;have hs:=bBa hc a6 cj (by have:=Qc.1;omega);have hk:(encP o l).cd.k<=(encP o (bK b)).cd.k:=((aJy hc a6).trans cj).k;have Zf:=aUq (o:=o) hb hk;have hcu:cuC (bY b o) (encP o l).cd=(encP o (bK b)).cd.N/256^((encP o (bK b)).cd.k-(encP o l).cd.k)-(encP o l).cd.N:=by unfold cuC;rw[Zf]
 rw[<-hcu] at hs;have hfa:=nS a6 ⟨hc.1,hc.2.1⟩;have hc0:0<=cuC (bY b o) (encP o l).cd:=G
 have hq:0<(encP o l).cd.R/aW (vU o (encP o l)):=G
 have hd:=aYp hq hs.1 hs.2;have Mn:=hs.2;rw[Jp] at Mn;exact⟨hs.1,hs.2,hc0,by have:=hc.2.1;omega,hd.1,hd.2,by unfold bY;rw[jW];have:=cj.k;omega⟩
theorem RF {C:AH} (h: ∀c∈C,1<=c) {i:Int} (i0:0<=i): ∀k:Nat,i+k<=C.length->aW (C.take i.toNat)<=aW (C.take (i+k).toNat)
 |0,_=>by rw[show i+((0:Nat):Int)=i by omega];exact lq _
 |k+1,hk=>by
  have ih:=RF h i0 k G;have e:=nR (l:=C) (i:=i+k) G G;have:=h _ (bJ (L:=C) (k:=i+k) G G);rw[show i+((k+1:Nat):Int)=i+k+1 by omega];omega
theorem bAz {C:AH} (h: ∀c∈C,1<=c) {v:Int} (i0:0<=i) (hi:i<=y) (hy:y<C.length) (g1:aW (C.take y.toNat)<=v) (hv:v<aW (C.take i.toNat)+rd C i):i=y:=by
 have e1:=nR (l:=C) i0 G;rcases Gf hi with c|c
 ·have:=RF h (i:=i+1) G (y-i-1).toNat G;rw[show i+1+((y-i-1).toNat:Int)=y by omega] at this;omega
 ·exact c
theorem bAu (hb:aP b) (i0:0<=i) (hi:i<(bK b).length):rd (bK b) i=257↔i=(bK b).length-1:=by
 have hlen:((bK b).length:Int)=(bT 0 (bG aV b)).length+1:=by unfold bK;rw[ah,gq];omega
 constructor
 ·intro h;rcases bn i (bT 0 (bG aV b)).length with c|c
  ·exfalso;unfold bK at h;rw[jQ i0 c] at h;have:=JF (bG aV b) 0 (lW hb) _ (bJ i0 c);omega
  ·omega
 ·intro h;unfold bK;rw[gL G,show i-(bT 0 (bG aV b)).length=0 by omega];rfl
theorem EW (b:AH):(bK b).take ((bK b).length-1)=bT 0 (bG aV b):=by
 unfold bK;rw[ah,gq,Nat.add_sub_cancel,zl]
theorem aEr (i0:0<=i) (hi:i<(bK b).length):bK b=(bK b).take i.toNat++rd (bK b) i::(bK b).drop (i+1).toNat:=by
 conv=>lhs;rw[<-gu i.toNat (bK b),gT i0 hi]
theorem bCv {s:PpS} (hb:aP b) (hx:x=bY b o) (hS:s=encP o ((bK b).take i.toNat)) (i0:0<=i) (hi:i<(bK b).length):tN x s.cd (vU o s) (rd (bK b) i):=by
 subst hx;subst hS;exact aYq hb (aEr i0 hi)
theorem tN.w0 {s:PpS} (h:tN x s.cd (vU o s) y) (hk:s.cls*o=0):tN x s.cd s.c0 y:=by
 unfold vU at h;rwa[df hk] at h
theorem tN.w1 {s:PpS} (h:tN x s.cd (vU o s) y) (hk:s.cls*o=1):tN x s.cd s.c1 y:=by
 unfold vU at h;rwa[bz G,df hk] at h
theorem tN.w2 {s:PpS} (h:tN x s.cd (vU o s) y) (hk:s.cls*o=2):tN x s.cd s.c2 y:=by
 unfold vU at h;rwa[bz G,bz G] at h
theorem tN.tot {cd:CdS} (h:tN x cd C y) (dq:lC C) (h0:0<=y) (hy:y<258):cuC x cd/(cd.R/aW C)<aW C/\1<=aW C/\aW C<=65536:=by
 have h1:=h.v1;have h2:=sK (i:=y) dq.2.1 h0 (by rw[dq.1];omega);have h3:=dq.2.2;omega
theorem bJw {fa p:Int} {acc q:AH} (h:bkL fa (l.drop i.toNat) acc p=some q) (i0:0<=i) (hi:i<l.length):(0<=rd l i/\rd l i<257)/\
    ((2<=rd l i/\(acc.length:Int)+1<=fa/\bkL fa (l.drop (i+1).toNat) (acc++[rd l i-1]) 1=some q)\/
     (rd l i<2/\p<=fa/\(rd l i+1)*p<=fa-acc.length/\bkL fa (l.drop (i+1).toNat) (acc++List.replicate ((rd l i+1)*p).toNat 0) (p*2)=some q)):=by
  rw[gT i0 hi,bkL] at h;split at h
  · cases h
  · split at h
    · split at h
      · cases h
      · exact⟨G, .inl ⟨G,G,h⟩⟩
    · split at h
      · cases h
      · exact⟨G, .inr ⟨G,G,G,h⟩⟩
theorem aCt {c M:Int} (hm:m<x.length) (h:c=sV (x.take m)-M):c*256+rd x (m:Int)=sV (x.take (m+1))-M*256:=by
 rw[aOg hm,h];omega
end Go.Pure
namespace Go.Eng
open Go Go.RowKit Go.Pure
section
variable {P:Program} {n:Nd} {B:Nat} {w0:World} {L:Env} {R:List Row} {ty:TypeId}
theorem wrap32 {x:Int} (h:0<=x/\x<4294967296):IntKind.u32.wrap x=x:=by
 simp[IntKind.wrap,IntKind.bits,IntKind.signed];omega
theorem yS {p:Int} (h:0<=p/\p<4294967296):(BitVec.ofInt 32 p).toNat=p.toNat:=by
 rw[zk];have e:((2^32:Nat):Int)=4294967296:=rfl;rw[e,pz h.1 h.2]
theorem AU {x:Operand} {s d:TypeId} {j:IntKind} {p:Int} {td:TypeDesc} (ee:P.underlying s=some td) (hd:P.underlying d=some (.int .u32)) (hx:ev L x=some (.int j p)) (h:0<=p/\p<4294967296):Yl P n B w0 (.convert s d x) ty L R (.int .u32 p):=by
 have:=mP (P:=P) (n:=n) (B:=B) (w0:=w0) (R:=R) (ty:=ty) ee hd hx;rwa[wrap32 h] at this
theorem aNb (x m:Int) (h:0<=x*m/\x*m<4294967296) (j:IntKind) (k:Nat) (hk:k<=32) (hm:(2:Int)^k=m) (w:World):(Op.shift .shl .u32 x j (k:Int)).run P w= .ok (.int .u32 (x*m)) w:=by
 have hn: ¬((k:Int)<0):=G
 have hb:min (k:Int).toNat (IntKind.bits .u32)=k:=by
  have:IntKind.bits .u32=32:=rfl;omega
 unfold Op.shift;simp only[hn,hb,xk,hm,wrap32 h];rfl
theorem JA {x y:Operand} {t u:TypeId} {a m:Int} {j:IntKind} {k:Nat} (hx:ev L x=some (.int .u32 a)) (hy:ev L y=some (.int j (k:Int))) (hm:(2:Int)^k=m) (h:0<=a*m/\a*m<4294967296) (hk:Nat.ble k 32=true):Yl P n B w0 (.binOp .shl t x y u) ty L R (.int .u32 (a*m)):=by
 intro a' w o ho _ hs _;simp[execOp,ho,hs.ev hx,hs.ev hy,binOp,eqGuard,aNb a m h j k (au hk) hm]
theorem aTa (p q:Int) (k:Nat) (m:Int) (hm:(2:Int)^k=m) (h:0<=p/\p*m+q<4294967296) (hq:0<=q/\q<m) (w:World):(Op.intBits .or .u32 q (p*m)).run P w= .ok (.int .u32 (q+p*m)) w:=by
 show Result.ok (Value.int .u32 (IntKind.u32.wrap ((BitVec.ofInt 32 q|||BitVec.ofInt 32 (p*m)).toNat:Int))) w=_;have Zn:0<=p*m:=Am h.1 G;rw[BitVec.or_comm,Jj,yS G,yS G]
 have e1:(p*m).toNat=2^k*p.toNat:=by
  have:p*m=((2^k*p.toNat:Nat):Int):=by
   rw[Ba,qf h.1,Ey,<-hm,Dg];rfl
  rw[this,cz]
 have e2:q.toNat<2^k:=by
  have:((2^k:Nat):Int)=m:=by rw[<-hm,Ey];rfl
  omega
 rw[e1,<-Fw e2,<-e1];rw[show(((p*m).toNat+q.toNat:Nat):Int)=q+p*m by omega,wrap32 G]
theorem UG {x y:Operand} {t u:TypeId} {p q m:Int} (k:Nat) (hx:ev L x=some (.int .u32 q)) (hy:ev L y=some (.int .u32 (p*m))) (hm:(2:Int)^k=m) (h:0<=p/\p*m+q<4294967296) (hq:0<=q/\q<m):Yl P n B w0 (.binOp .or t x y u) ty L R (.int .u32 (q+p*m)):=by
 intro a w o ho _ hs _;simp[execOp,ho,binOp,eqGuard,hs.ev hx,hs.ev hy,aTa p q k m hm h hq]
theorem vW {w:World} (base:Nat) (t tn ty e:TypeId) (kn:IntKind) (i:TypeInfo) (z:Value) (bytes:Nat) (ht:P.underlying t=some (.slice e)) (Pu:P.underlying tn=some (.int kn)) (hi:P.info? e=some i) (hz:i.zero=some z)
  (Nq:i.size=1) (Os:i.bytes=bytes) (Qu:z.cells= #[z]) (i5:z.oneCell'=true) (v:Value) (n:Nat) (xs:AG) (ge:w.ownsRow base e 1 v n xs) (m:Nat) (h0:0<m) (Xb:n+m<=maxLen) (mc:(n+m)*bytes<=140737488355328) (Sn:base<=w.heap.size):
  ∃v' w',(Builtin.append_ #[t,tn] ty #[v, .int .i64 (m:Int)]).run P w= .ok v' w'/\w'.ownsRow base e 1 v' (n+m) (xs++List.replicate m z)/\w.grownBy w' v.ownBlock/\(v'.ownBlock=v.ownBlock\/v'.ownBlock=some w.heap.size):=by
 subst Os;have sg:n+m<=9223372036854775807:=by simp only[maxLen] at Xb;omega
 have hl:(List.replicate m z).length=m:=bu;have hlen:(xs++List.replicate m z).length=(n+m)*1:=by rw[ah,ge.1,hl];omega
 have Wd: ∀q,(Builtin.zeroCells z.cells q).toList=List.replicate q z:=λq=>by
  rw[Qu];refine xg (by simp[Builtin.zeroCells]) λi h1 h2=> ?_;simp[Builtin.zeroCells,Nat.mod_one]
 have a8:Builtin.zeroCells z.cells m=(List.replicate m z).toArray:=by rw[<-Wd m]
 have px:m≠0:=G
 have hw:IntKind.i64.wrap (m:Int)=m:=by rw[Bq];omega
 have Mb: ¬((m:Int)<0):=G
 have Nm:m*i.bytes<=(n+m)*i.bytes:=ut _ G
 have Rq: ¬(281474976710656<(m:Int)*(i.bytes:Int)):=by
  rw[<-Ba];omega
 have grown: ∀(old:Nat),old<n+m-> ∀(row:Option Nat),
   (w.drew.alloc (.cells (xs.toArray++Builtin.zeroCells z.cells m++Builtin.zeroCells z.cells (grownCap w (n+m) old e-(n+m))) e)).ownsRow base e 1 (.slice (some ⟨w.heap.size,0,none⟩) (n+m) (grownCap w (n+m) old e)) (n+m) (xs++List.replicate m z)/\
   w.grownBy (w.drew.alloc (.cells (xs.toArray++Builtin.zeroCells z.cells m++Builtin.zeroCells z.cells (grownCap w (n+m) old e-(n+m))) e)) row:=by
  intro old ho row;have Fl:=grownCap_ge w (n+m) old e;have tk:grownCap w (n+m) old e<=maxLen:=Gt w (n+m) old e Xb;have hx1:=ge.1;refine⟨⟨hlen, .inr ⟨w.heap.size,_,_,rfl,Sn,heap_alloc_new w.drew _,Fl,tk,?_,?_⟩⟩,⟨rfl,rfl,rfl,cD,λk hk _=>by first|exact heap_alloc_old w.drew _ k hk|exact heap_alloc_old w.drew _ hk⟩⟩
  ·rw [<-jr,vg,vg,ah,ah,Wd,Wd,bu,bu];show xs.length+m+_=_;omega
  ·rw [vg,vg,Wd,<-hlen];exact zl
 rcases ge.2 with⟨rfl,rfl⟩|⟨g,cap,cur,rfl,hbg,hg,hnc,tk,lf,htake⟩
 ·have hx:xs=[]:=ek (by simpa using ge.1);subst hx;have hr:=Lib.run_append_nil_zeros (P:=P) w t tn ty e i z .i64 kn ht Pu hi hz m h0 G G G;have Qd:=grown 0 G (Value.ownBlock (.slice none 0 0));simp only[nu,je,Array.empty_append] at Qd ⊢;exact⟨_,_,hr,Qd.1,Qd.2,Or.inr rfl⟩
 ·by_cases qu:n+m<=cap
  ·have f7:n*1+(List.replicate m z).length<=cur.size:=by rw[hl,lf];omega
   have gs:=run_storeCells_at P g (n*1) e (List.replicate m z) 0 cur w hg (by simpa using f7) (λu hu=>by rw[List.eq_of_mem_replicate hu];exact i5);simp only[qo] at gs
   have hr:(Builtin.append_ #[t,tn] ty #[.slice (some ⟨g,0,none⟩) n cap, .int .i64 (m:Int)]).run P w= .ok (.slice (some ⟨g,0,none⟩) (n+m) cap) (w.setRow g (cur.toList.take (n*1)++List.replicate m z++cur.toList.drop (n*1+(List.replicate m z).length)).toArray):=by
    simp only[qy] at gs;simp[Builtin.append_,ni ht,ni Pu,sizeOf,typeInfo,zeroValue,hi,hz,asInt,asIntOf,hw,px,Mb,Rq,Nq,qu,a8,Addr.add_lit,gs]
   refine⟨_,_,hr,⟨hlen, .inr ⟨g,cap,_,rfl,hbg,Ki w g cur _ e _ hg,qu,tk,?_,?_⟩⟩,⟨rfl,rfl,rfl,cD,λk _ hk=>Ji w g k _ (λe=>hk (by simp[Value.ownBlock,e]))⟩,Or.inl rfl⟩
   ·simp only[ql,ah,ax,az,jr];omega
   ·rw [htake,<-hlen];exact zl
  ·have holds: ∀j u,xs[j]? =some u->w.cell? ((⟨g,0,none⟩:Addr).add j)=some u:=ge.cells (g:=g) rfl;have Qc:=run_firstCells_some (P:=P) w.drew 1 n ⟨g,0,none⟩ n cap xs ge.1 (by simpa using holds);have hn: ¬(n+m<=cap):=qu;have Xc: ¬(9223372036854775807<((n:Int)+(m:Int))):=G
   have hfits:=growslice_fits (old:=cap) G mc;have Xa: ¬(281474976710656<Builtin.nextslicecap (n+m) cap*i.bytes):=G
   have hr:(Builtin.append_ #[t,tn] ty #[.slice (some ⟨g,0,none⟩) n cap, .int .i64 (m:Int)]).run P w= .ok (.slice (some ⟨w.heap.size,0,none⟩) (n+m) (grownCap w (n+m) cap e)) (w.drew.alloc (.cells (xs.toArray++Builtin.zeroCells z.cells m++Builtin.zeroCells z.cells (grownCap w (n+m) cap e-(n+m))) e)):=by
    simp[Builtin.append_,ni ht,ni Pu,sizeOf,typeInfo,zeroValue,hi,hz,asInt,asIntOf,hw,px,Mb,Rq,Nq,hn,Xc,Xa,Question.forced,Qc,newRow,grownCap]
   have Qd:=grown cap G (Value.ownBlock (.slice (some ⟨g,0,none⟩) n cap));exact⟨_,_,hr,Qd.1,Qd.2,Or.inr rfl⟩
theorem bAc {s x:Operand} {t tn e:TypeId} {bytes m:Nat} {kn k:IntKind} {A:AF} {c q:Nat} {l:AH} (i:Nat) (hi:R[i]? =some ⟨e,1,A,q,c,ints k l,false⟩) (ht:P.underlying t=some (.slice e)) (Pu:P.underlying tn=some (.int kn)) (dg:(P.info? e).map (λi=>(i.zero,i.size,i.bytes))=some (some (.int k 0),1,bytes))
  (hs:ev L s=some (.slice A q c)) (hx:ev L x=some (.int .i64 (m:Int))) (h0:0<m) (Xb:q+m<=1000000) (mc:(q+m)*bytes<=140737488355328):
  Ac P n B w0 (.call {callee:= .builtin .append,args:= #[s,x],argTypes:= #[t,tn]}) ty L R (λv R'=> ∃A' c',v= .slice A' (q+m) c'/\R'=R.set i ⟨e,1,A',q+m,c',ints k (l++List.replicate m 0),false⟩):=by
 intro a w o K Q ho _ ee hp hk;obtain⟨i0,aw,a8⟩:=il.1 dg;simp only[yt] at a8;obtain⟨wt,i5,Ix⟩:=a8;have hr:=hp.own _ (fw hi);have ge:=Row.lies_w hr rfl;obtain⟨v',w',h2,h3,h4,h5⟩:=vW (P:=P) B t tn o.type e kn i0 (.int k 0) bytes ht Pu aw wt i5 Ix rfl rfl _ q (ints k l) ge m h0 (by unfold maxLen;omega) mc hp.base
 have Fi: ∃A' c',v'= .slice A' (q+m) c':=by
  rcases h3.2 with⟨rfl,hn⟩|⟨g,cap,cur,rfl,_⟩
  ·exact⟨none,0,by rw[hn]⟩
  ·exact⟨_,cap,rfl⟩
 obtain⟨A',c',rfl⟩:=Fi;have Zr:ints k l++List.replicate m (.int k 0)=ints k (l++List.replicate m 0):=by simp[ints]
 rw[Zr] at h3;unfold Oper.wp execOp;simp only[ho,resolve,invoke,builtin,kg,ny,jw,uj,lm,si,ee.ev hs,ee.ev hx,h2,Oper.upon];refine hk _ w' _ ?_ ⟨A',c',rfl,rfl⟩;refine hp.upd hi h4 (LF _ _ _ _ h2) (λk hk=> ?_) ?_ (λa' oe=> ?_)
 ·cases hA:A with
  |none=>rw[hA] at hk;simp[Value.ownBlock] at hk
  |some a1=>rw[hA] at hk;simp only[Value.ownBlock,lv] at hk;exact⟨a1,rfl,hk⟩
 ·exact h3
 ·have Lp:A'=some a':=oe;subst Lp;rcases h5 with h5|h5
  ·cases hA:A with
   |none=>rw[hA] at h5;simp[Value.ownBlock] at h5
   |some a1=>rw[hA] at h5;simp only[Value.ownBlock,lv] at h5;exact .inl ⟨a1,rfl,h5.symm⟩
  ·simp only[Value.ownBlock,lv] at h5;exact .inr G
end
theorem bDv {x:Int} (h:0<=x/\x<4294967296):0+x/1%256*1+x/256%256*256+x/65536%256*65536+x/16777216%256*16777216=x:=G
end Go.Eng
namespace Go.Proofs.YtdbebmmhdefgdaaGreat
open Go Go.Eng Go.Pure
open Tryz
set_option maxRecDepth 100000
variable {B g n c:Nat} {w0:World} {R:List Row} {A:AF} {x:AH} {us cc r total:Int}
theorem uM {C:AH} {y v0:Int} (hn:n=C.length) (dq:lC C) (hy:0<=y/\y<258) (hv:aW (C.take y.toNat)<=v0/\v0<aW (C.take y.toNat)+rd C y):
  CT 301 #[PG g,I v0] B w0 ((rc 256 2 g [sl A n c,I (aW C)])::(ri 3 A n c C)::R) (λv R'=>v= .tuple #[I y,bt]/\R'=(rc 256 2 g [sl A n c,I (aW C)])::(ri 3 A n c C)::R):=by
 subst hn;have mj:=dq.1;have hpy:=dq.le.part hy.1 hy.2;have Mg:=sK (i:=y) dq.2.1 hy.1 G;refine fn2 Tryz.func301 Z Z Z ?_;refine wq<|wg Z<|wn Z<|aC<|wq<|wm Z<|wy (Yl.f (eD Z Z))<|wm Z<|aB Z Z<|wm Z<|aB Z Z<|wm Z ?_;refine aB Z Z<|wa (aD NT Z ((jC))) ?_;rintro _ _⟨rfl,rfl⟩;refine aB Z Z<|wy (Yl.f (iA Z Z))<|wy (aO Z Z)<|aA<|aJ Z<|aI<|aC<|aH ?_;refine dM (λ(i:Int) (x:Int)=>[(0,PG g),(1,I x),(4,I i)]) (λi x=>((rc 256 2 g [sl A C.length c,I (aW C)])::(ri 3 A C.length c C)::R)) (λi x=>(0<=i)/\(i<=y)/\(x=v0-aW (C.take i.toNat))) (λi x=>(y-i).toNat) ?_ ?_
 ·exact⟨0,v0,⟨G,G,(by rw[show aW (C.take (0:Int).toNat)=0 from rfl];omega)⟩,KP⟩
 intro i x ⟨aw,ia,hx⟩;have hp:=dq.le.part aw G;refine aC<|wq<|wm Z<|wm Z<|wy (aF Z)<|wy (yF 0 0 qj dO Z)<|wy (yL 0 aa Z Z Z)<|wm Z<|wy (aG aa sz3 Z Z (rdr 1 Z))<|wy (aR ai Z Z (rdr 1 Z))<|wy (iA Z Z)<|aA<|bA Z (λaq=> ?_) (λaq=> ?_)
 ·have fd:i≠y:=by rintro rfl;omega
  refine aI<|aH<|wq<|wm Z<|wm Z<|wy (aF Z)<|wy (yF 0 0 qj dO Z)<|wy (yL 0 aa Z Z Z)<|wm Z<|wy (aG aa sz3 Z Z (rdr 1 Z))<|wy (aR ai Z Z (rdr 1 Z))<|wS Z Z<|wn Z ?_;refine aL<|wm Z<|wA Z Z<|wn Z ?_;exact⟨i+1,x-(rd C i),⟨G,G,(by rw[nR aw G];omega)⟩,G,KP⟩
 ·refine aU<|wq<|wm Z<|wg Z<|wn Z<|bN (R1:=((rc 256 2 g [sl A C.length c,I (aW C)])::(ri 3 A C.length c C)::R)) hiZ ?_;refine⟨_,_,Z,Z,?_⟩;obtain rfl:i=y:=bAz dq.2.1 aw ia G hv.1 G;exact⟨Z,Z⟩
theorem qQ {M:Int} {m:Nat} (hn:n=x.length) (n9:aP x) (hN:x.length<=1000000) (hu:us=(m:Int)) (hc:cc=sV (x.take m)-M) (hb:0<=cc/\cc<4294967296) (hm:m<x.length):
  CT 327 #[PG g] B w0 ((rc 360 4 g [sl A n c,I us, .int .u64 cc, .int .u64 r])::(ru 5 A n c x)::R) (λv R'=>v=bt/\R'=(rc 360 4 g [sl A n c,I ((m+1:Nat):Int), .int .u64 (sV (x.take (m+1))-M*256), .int .u64 r])::(ru 5 A n c x)::R):=by
 subst hn;subst hu;have hbx:=n9.rd (m:Int);refine fn1 Tryz.func327 Z Z Z ?_;refine wq<|wn Z<|aC<|aC<|bI mixed<|wD 0 Z (aK Z)<|wD 1 Z (aF Z)<|wD 2 Z (yF 1 1 pg sz3 Z)<|wD 3 Z (yL 0 ai Z Z Z)<|wD 4 Z (aK Z)<|wD 5 Z (aF Z)<|wD 6 Z (yF 0 0 pg dA Z)<|wD 7 Z (yL 0 af Z Z Z) ?_;refine wD 8 Z (aN af Z)<|wD 9 Z (Yl.f (iA Z Z))<|wN<|aJ Z<|aI<|aC<|bI mixed<|wD 0 Z (aK Z)<|wD 1 Z (aK Z)<|wD 2 Z (aF Z)<|wD 3 Z (yF 2 2 pg dS Z)<|wD 4 Z (yL 0 dx Z Z Z)<|wD 5 Z (vE (k:=8) (m:=256) Z Z Z G Z)<|wD 6 Z (aK Z)<|wD 7 Z (aF Z) ?_;refine wD 8 Z (yF 0 0 pg dA Z)<|wD 9 Z (yL 0 af Z Z Z)<|wD 10 Z (aK Z)<|wD 11 Z (aF Z)<|wD 12 Z (yF 1 1 pg sz3 Z)<|wD 13 Z (yL 0 ai Z Z Z)<|wD 14 Z (aG af sz5 Z Z (rdr 1 Z))<|wD 15 Z (aR ay Z Z (rdr 1 Z))<|wD 16 Z (gP ay dx Z)<|wD 17 Z (bKr (p:=cc) (m:=256) 8 Z Z Z G G)<|wD 18 Z (aF Z)<|wD 19 Z (yF 2 2 pg dS Z)<|oU 20 Z cA (aX 0 Z Z Z dS Z Z Z Z (au Z)) ?_;rintro _ _ rfl;refine⟨.inl cA,?_⟩;refine wN<|wq<|wm Z<|wy (aF Z)<|wy (yF 1 1 pg sz3 Z)<|wy (yL 0 ai Z Z Z)<|wA Z Z<|wy (aF Z)<|wy (yF 1 1 pg sz3 Z)<|bV (aX 0 Z Z Z sz3 Z Z Z Z (au Z)) ?_;rintro _ _ rfl;refine aA<|wq<|wn Z<|bN (R1:=((rc 360 4 g [sl A x.length c,I ((m:Int)+1), .int .u64 (cc*256+rd x (m:Int)), .int .u64 r])::(ru 5 A x.length c x)::R)) hiZ ?_;refine⟨_,Z,?_⟩;rw[aCt hm hc];exact⟨Z,Z⟩
theorem MS {w:World} {ap:AF} {ar ao:Nat} {u:AH} (ac:Rd w ap ar ao 1 (ints .u8 u)) (an:aP u) (hN:u.length<=1000000) (h4:4<=u.length):
  CF 299 #[sl ap ar ao] w (λv R'=> ∃g A c,v= .tuple #[PG g,bt]/\R'=[(rc 360 4 g [sl A u.length c,I ((cd0.k+4:Nat):Int), .int .u64 (cuC u cd0), .int .u64 cd0.R]),(ru 5 A u.length c u)]):=by
 obtain rfl:=ac.lenI;refine fn2 Tryz.func299 Z Z Z ?_;have li:=ac.max;have kj:=CU 0 (u.take 0) (by rw[ax];omega) (an.take _);have yi:=CU 1 (u.take 1) (by rw[ax];omega) (an.take _);have Vx:=CU 2 (u.take 2) (by rw[ax];omega) (an.take _);have Qn:=CU 3 (u.take 3) (by rw[ax];omega) (an.take _);refine wq<|wg Z<|wn Z<|aC<|wq<|wm Z<|wy (aN af Z)<|wy (Yl.f (eD Z Z))<|aA<|aJ Z<|aI<|aC ?_;refine aL<|wm Z<|wa (aD aCe Z (Ct.fresh (λw hw=>mI ((ac.c _) w hw) hN))) ?_;rintro _ _⟨_,rfl,bm,bl,rfl,rfl⟩;refine wy (dW (v:= .agg #[sl bm u.length bl,I 0, .int .u64 0, .int .u64 4294967295]) Z (λw=>cA))<|wa (bO (sz:=4) rfl rfl) ?_;rintro _ _⟨du,rfl,rfl⟩;refine wn Z<|aC<|wq<|wm Z<|aA<|aH<|mR 5<|dY<|wq<|wy (Yl.t (eD Z Z) cC)<|aA<|aC ?_;refine bE Z<|aI<|aC<|aH<|aL<|wm Z<|wa (aD aCf Z ((qQ (m:=0) (M:=0) Z an hN Z Z (by first|exact⟨cC,cC⟩|(simp only[nu,Nat.reduceAdd,Ip,Io];omega)) G))) ?_;rintro _ _⟨rfl,rfl⟩;refine aA<|aL<|wy (Yl.is (bX Z Z) Z)<|wm Z<|aA<|dY<|wq<|wy (Yl.t (eD Z Z) cC)<|aA<|aC<|bE Z<|aI<|aC<|aH ?_;refine aL<|wm Z<|wa (aD aCf Z ((qQ (m:=0+1) (M:=(0*256)) Z an hN Z Z (by first|exact⟨cC,cC⟩|(simp only[nu,Nat.reduceAdd,Ip,Io];omega)) G))) ?_;rintro _ _⟨rfl,rfl⟩;refine aA<|aL<|wy (Yl.is (bX Z Z) Z)<|wm Z<|aA<|dY<|wq<|wy (Yl.t (eD Z Z) cC)<|aA<|aC<|bE Z<|aI<|aC<|aH ?_;refine aL<|wm Z<|wa (aD aCf Z ((qQ (m:=0+1+1) (M:=(0*256*256)) Z an hN Z Z (by first|exact⟨cC,cC⟩|(simp only[nu,Nat.reduceAdd,Ip,Io];omega)) G))) ?_;rintro _ _⟨rfl,rfl⟩;refine aA<|aL<|wy (Yl.is (bX Z Z) Z)<|wm Z<|aA<|dY<|wq<|wy (Yl.t (eD Z Z) cC)<|aA<|aC<|bE Z<|aI<|aC<|aH ?_;refine aL<|wm Z<|wa (aD aCf Z ((qQ (m:=0+1+1+1) (M:=(0*256*256*256)) Z an hN Z Z (by first|exact⟨cC,cC⟩|(simp only[nu,Nat.reduceAdd,Ip,Io];omega)) G))) ?_;rintro _ _⟨rfl,rfl⟩;refine aA<|aL<|wy (Yl.is (bX Z Z) Z)<|wm Z<|aA<|dY<|wq<|wy (Yl.f (eD Z Z) cC)<|aA<|aC<|aJ Z<|aU<|wq ?_;refine wm Z<|wg Z<|wn Z<|bN (R1:=[(rc 360 4 du [sl bm u.length bl,I ((0+1+1+1+1:Nat):Int), .int .u64 (sV (u.take (0+1+1+1+1))-(0*256*256*256)*256), .int .u64 4294967295]),(ru 5 bm u.length bl u)]) hiZ ?_;refine⟨_,_,Z,Z,?_⟩;exact⟨_,_,_,Z,Z⟩
theorem FY (hn:n=x.length) (ht:1<=total/\total<=65536) (hr:16777216<=r/\r<4294967296) (hc:0<=cc/\cc<4294967296) (hv:cc/(r/total)<total):
  CT 300 #[PG g,I total] B w0 ((rc 360 4 g [sl A n c,I us, .int .u64 cc, .int .u64 r])::(ru 5 A n c x)::R) (λv R'=>v= .tuple #[I (cc/(r/total)),bt]/\R'=(rc 360 4 g [sl A n c,I us, .int .u64 cc, .int .u64 r])::(ru 5 A n c x)::R):=by
 subst hn;have hq:256<=r/total:=(Av G).2 G;have Uj:0<=cc/(r/total):=Ew hc.1 G;refine fn2 Tryz.func300 Z Z Z ?_;refine wq<|wg Z<|wn Z<|aC<|wq<|wm Z<|wy (dL underlying332 Z Z)<|wm Z<|aB Z Z<|wm Z<|aB Z Z<|wy (Yl.f (eD Z Z)) ?_;refine wy (aO Z Z)<|wm Z<|aB Z Z<|wm Z<|aB Z Z<|wy (Yl.f (dE Z Z))<|wy (aO Z Z)<|aA<|aJ Z<|aI<|wq<|wm Z<|wy (aF Z)<|wy (yF 3 3 pg dS Z) ?_;refine wy (yL 0 dx Z Z Z)<|wm Z<|wy (gP ai dx Z)<|wy (EO Z Z G G)<|wn Z<|aC<|wq<|wm Z<|wy (Yl.f (dR Z Z))<|wm Z<|aB Z Z<|wm Z<|aB Z Z ?_;refine wy (aF Z)<|aB Z Z<|wy (yF 2 2 pg dS Z)<|aB Z Z<|wy (yL 0 dx Z Z Z)<|aB Z Z<|wm Z<|aB Z Z<|wy (EO Z Z G G)<|aB Z Z<|wm Z<|aB Z Z<|wy (gP ai dx Z)<|aB Z Z<|wy (Yl.f (iA Z Z)) ?_;refine wy (aO Z Z)<|aA<|aJ Z<|aI<|wq<|wm Z<|wy (aF Z)<|wy (yF 2 2 pg dS Z)<|wy (yL 0 dx Z Z Z)<|wm Z<|wy (EO Z Z G G)<|wy (iK dx ai Z)<|wg Z<|wg Z ?_;refine aA<|bN (R1:=((rc 360 4 g [sl A x.length c,I us, .int .u64 cc, .int .u64 r])::(ru 5 A x.length c x)::R)) hiZ ?_;refine⟨_,_,Z,Z,?_⟩;exact⟨Z,Z⟩
theorem EU {s:CdS} {low size:Int} (hn:n=x.length) (n9:aP x) (hN:x.length<=1000000) (hs:16777216<=s.R/\s.R<4294967296) (a6:sI low size total) (w6:s.R/total*low<=cuC x s) (Sw:cuC x s<s.R/total*(low+size)) (hlen:(eY s low size total).k+4<=x.length):
  CT 302 #[PG g,I low,I size,I total] B w0 ((rc 360 4 g [sl A n c,I ((s.k+4:Nat):Int), .int .u64 (cuC x s), .int .u64 s.R])::(ru 5 A n c x)::R) (λv R'=>v=bt/\R'=(rc 360 4 g [sl A n c,I (((eY s low size total).k+4:Nat):Int), .int .u64 (cuC x (eY s low size total)), .int .u64 ((eY s low size total).R)])::(ru 5 A n c x)::R):=by
 subst hn;have In:=a6;obtain⟨s1,s2,s3,s4⟩:=In;obtain⟨f1,f2,f3,f4,f5⟩:=nS a6 hs;have hms:=Jp (s.R/total) low size;have hln:s.k+shN (s.R/total*size)+4<=x.length:=hlen;refine fn1 Tryz.func302 Z Z Z ?_;refine wq<|wn Z<|aC<|wq<|wm Z<|wy (dL underlying332 Z Z)<|wm Z<|aB Z Z<|wm Z<|aB Z Z<|wm Z<|aB Z Z ?_;refine wm Z<|aB Z Z<|wa (aD bGi Z (Ct.quiet (λw hw=>IC a6))) ?_;rintro _ _⟨rfl,rfl⟩;refine aB Z Z<|wy (dI Z)<|wy (aO Z Z)<|aA<|aJ Z<|aI<|wq<|wm Z<|wy (aF Z)<|wy (yF 3 3 pg dS Z)<|wy (yL 0 dx Z Z Z)<|wm Z<|wy (gP ai dx Z)<|wy (EO Z Z G G) ?_;refine wn Z<|aC<|wq<|wm Z<|wy (aF Z)<|wy (yF 2 2 pg dS Z)<|wy (yL 0 dx Z Z Z)<|wm Z<|wm Z<|wy (gP ai dx Z)<|wy (tV Z Z G)<|wy (Yl.f (eD Z Z))<|wm Z ?_;refine aB Z Z<|wm Z<|aB Z Z<|wy (aF Z)<|aB Z Z<|wy (yF 2 2 pg dS Z)<|aB Z Z<|wy (yL 0 dx Z Z Z)<|aB Z Z<|wm Z<|aB Z Z<|wm Z<|aB Z Z<|wm Z<|aB Z Z ?_;refine wA Z Z<|aB Z Z<|wy (gP ai dx Z)<|aB Z Z<|wy (tV Z Z G)<|aB Z Z<|wy (Yl.f (iA Z Z))<|wy (aO Z Z)<|aA<|aJ Z<|aI<|wq<|wm Z<|wy (aF Z) ?_;refine wy (yF 2 2 pg dS Z)<|wy (yL 0 dx Z Z Z)<|wm Z<|wm Z<|wy (gP ai dx Z)<|wy (tV Z Z G)<|wy (bHc Z Z G)<|wy (aF Z)<|wy (yF 2 2 pg dS Z)<|bV (aX 0 Z Z Z dS Z Z Z Z (au Z)) ?_;rintro _ _ rfl;refine aA<|aC<|wq<|wm Z<|wm Z<|wm Z<|wy (gP ai dx Z)<|wy (tV Z Z G)<|wy (aF Z)<|wy (yF 3 3 pg dS Z)<|bV (aX 0 Z Z Z dS Z Z Z Z (au Z)) ?_;rintro _ _ rfl;refine aA<|aH ?_;refine JD (λ(j:Nat) (cc:Int) (r:Int) (M:Int)=>[(0,PG g)]) (λj cc r M=>((rc 360 4 g [sl A x.length c,I ((s.k+j+4:Nat):Int), .int .u64 cc, .int .u64 r])::(ru 5 A x.length c x)::R)) (λj cc r M=>(M=(s.N+s.R/total*low)*256^j)/\(r=(s.R/total*size)*256^j)/\(j<=shN (s.R/total*size))/\(cc=sV (x.take (s.k+j+4))-M)/\(0<=cc/\cc<r)) (λj cc r M=>(4-j)) ?_ ?_
 ·exact⟨0,(cuC x s-s.R/total*low),(s.R/total)*size,(s.N+s.R/total*low),⟨(by rw[uz,zx]),(by rw[uz,zx]),(qp _),(by show cuC x s-s.R/total*low=sV (x.take (s.k+4))-_;unfold cuC;omega),G⟩,KP⟩
 intro j cc r M ⟨hM,hr,hj,hc,hb⟩;have vf:=EY (s.R/total*size);have Ub:1<=r:=by rw[hr];exact CE G
 refine aC<|wq<|wm Z<|wy (aF Z)<|wy (yF 3 3 pg dS Z)<|wy (yL 0 dx Z Z Z)<|wL Z Z<|aA<|bA Z (λaq=> ?_) (λaq=> ?_)
 ·have hj2:j+1<=shN (s.R/total*size):=BN G hj (by rw[<-hr];assumption);have jj:=aCt (x:=x) (m:=s.k+j+4) G hc;have hbx:=n9.rd ((s.k+j+4:Nat):Int);have i8:0<=sV (x.take (s.k+j+4+1))-M*256/\sV (x.take (s.k+j+4+1))-M*256<r*256:=G
  refine aI<|aC<|aH<|wq<|wm Z<|wa (aD aCf Z ((qQ (m:=(s.k+j+4)) (M:=M) Z n9 hN Z hc G G))) ?_;rintro _ _⟨rfl,rfl⟩;refine wy (dI Z)<|aA<|aJ Z<|aI<|aL<|wm Z<|wy (aF Z)<|wy (yF 3 3 pg dS Z)<|wy (yL 0 dx Z Z Z)<|wy (vE (k:=8) (m:=256) Z Z Z G Z)<|wy (aF Z)<|wy (yF 3 3 pg dS Z)<|bV (aX 0 Z Z Z dS Z Z Z Z (au Z)) ?_;rintro _ _ rfl;refine aA ?_;exact⟨(j+1),(sV (x.take (s.k+j+4+1))-M*256),r*256,(M*256),⟨(by rw[hM,su,<-wh]),(by rw[hr,su,<-wh]),(hj2),(Z),(i8)⟩,G,KP⟩
 ·refine aU<|wq<|wn Z<|bN (R1:=((rc 360 4 g [sl A x.length c,I ((s.k+j+4:Nat):Int), .int .u64 cc, .int .u64 r])::(ru 5 A x.length c x)::R)) hiZ ?_;refine⟨_,Z,?_⟩;obtain rfl:j=shN (s.R/total*size):=JK G hj (by rw[<-hr];omega);rw[hc,hr,hM];exact⟨Z,Z⟩
variable {w:World} {n8:AF} {Kw o5:Nat} {x b:AH} {o fa:Int}
theorem UR (nf:Rd w n8 Kw o5 1 (ints .u8 x)) (hx:x=bY b o) (cr:aP b) (ho:o=0\/o=1) (hN:b.length<=100000) (hm:(b.length:Int)<=fa):
  CF 272 #[sl n8 Kw o5,I o,I fa] w (λv R'=> ∃A c,v= .tuple #[sl A (bT 0 (bG aV b)).length c,bt]/\R'=[(ri 3 A ((bT 0 (bG aV b)).length) c (bT 0 (bG aV b)))]):=by
 obtain rfl:=nf.lenI;refine fn2 Tryz.func272 Z Z Z ?_;have m_x:=nf.max;have m7:=qM cr;have Mq:x.length<=2*b.length+6:=by rw[hx];exact nX cr
 have hx4:4<=x.length:=by rw[hx];unfold bY;rw[jW];omega
 have wk:(bK b).length=(bT 0 (bG aV b)).length+1:=by unfold bK;rw[ah];rfl
 have Pt:=oW (bG aV b) 0;rw[fV] at Pt;refine wq<|wg Z<|wn Z<|wq<|wm Z<|wa (aD bMh Z (Ct.fresh (λw hw=>MS ((nf.c _) w hw) (by rw[hx];exact iD _ _) G hx4))) ?_;rintro _ _⟨_,rfl,am,fk,fm,rfl,rfl⟩;refine wm Z<|wX Z Z<|wX Z Z<|wg Z<|wn Z<|wq<|wm Z<|wa (aD bGo Z (Ct.fresh (λw hw=>SV))) ?_;rintro _ _⟨_,rfl,fb,kx,ki,kp,jz,eh,br,bw,ci,co,rfl,rfl⟩;refine wn Z<|wq<|dB (R1:=[(ri 3 none 0 0 ([])),(rc 250 5 fb [PG kx,PG ki,PG kp,I 0,I o]),(rc 256 2 kx [sl jz 258 bw,I 258]),(ri 3 jz 258 bw uN),(rc 256 2 ki [sl eh 258 ci,I 258]),(ri 3 eh 258 ci uN),(rc 256 2 kp [sl br 258 co,I 258]),(ri 3 br 258 co uN),(rc 360 4 am [sl fk x.length fm,I ((cd0.k+4:Nat):Int), .int .u64 (cuC x cd0), .int .u64 cd0.R]),(ru 5 fk x.length fm x)]) (Sub.refl _) (λ_ h=>h.nil 3 1)<|wn Z<|aC<|aH ?_;refine mU (λ(i:Int) (A1:AF) (n1:Nat) (c1:Nat) (acc:AH) (Sx:PpS)=>[(2,I fa),(8,PG am),(9,bt),(10,PG fb),(11,sl A1 n1 c1)]) (λi A1 n1 c1 acc Sx=>[(ri 3 A1 n1 c1 acc),(rc 250 5 fb [PG kx,PG ki,PG kp,I Sx.cls,I o]),(rc 256 2 kx [sl jz 258 bw,I (aW Sx.c0)]),(ri 3 jz 258 bw Sx.c0),(rc 256 2 ki [sl eh 258 ci,I (aW Sx.c1)]),(ri 3 eh 258 ci Sx.c1),(rc 256 2 kp [sl br 258 co,I (aW Sx.c2)]),(ri 3 br 258 co Sx.c2),(rc 360 4 am [sl fk x.length fm,I ((Sx.cd.k+4:Nat):Int), .int .u64 (cuC x Sx.cd), .int .u64 Sx.cd.R]),(ru 5 fk x.length fm x)]) (λi A1 n1 c1 acc Sx=>(0<=i)/\(i<(bK b).length)/\((n1:Int)=i)/\(acc=(bK b).take i.toNat)/\(Sx=encP o ((bK b).take i.toNat))) (λi A1 n1 c1 acc Sx=>((bK b).length-i).toNat) ?_ ?_
 ·exact⟨0,none,0,0,[],pp0,⟨G,G,(Z),(Z),(Z)⟩,KP⟩
 intro i A1 n1 c1 acc Sx ⟨aw,ia,cv,ba,hS⟩;have cj:=WP m7 hS;have pj:=bCv cr hx hS aw ia;have hy:=m7 _ (bJ (L:=bK b) (k:=i) aw G);have Kq:=cj.1.2.2;have r8:16777216<=Sx.cd.R/\Sx.cd.R<4294967296:=⟨Kq.1,Kq.2.1⟩;have Yi:=bAu cr aw ia;refine aC<|wq<|wm Z<|wm Z<|aB Z Z<|wm Z<|aB Z Z<|wy (aN aa Z)<|aB Z Z<|wm Z<|aB Z Z<|wy (Yl.t (qK Z Z) G)<|wy (aT Z Z)<|aA ?_;refine bE Z<|aI<|aH<|wq ?_;rcases OJ cj.1 ho with hk|hk|hk
 ·refine wm Z<|wa (aD nK Z (Ct.at 1 Z (oG hk))) ?_;rintro _ _⟨rfl,rfl⟩;refine wa (aD NT Z (Ct.sub (R1:=[(rc 256 2 kx [sl jz 258 bw,I (aW Sx.c0)]),(ri 3 jz 258 bw Sx.c0),(ri 3 A1 n1 c1 acc),(rc 250 5 fb [PG kx,PG ki,PG kp,I Sx.cls,I o]),(rc 256 2 ki [sl eh 258 ci,I (aW Sx.c1)]),(ri 3 eh 258 ci Sx.c1),(rc 256 2 kp [sl br 258 co,I (aW Sx.c2)]),(ri 3 br 258 co Sx.c2),(rc 360 4 am [sl fk x.length fm,I ((Sx.cd.k+4:Nat):Int), .int .u64 (cuC x Sx.cd), .int .u64 Sx.cd.R]),(ru 5 fk x.length fm x)]) (λ_ h=>h.sel [2,3,0,1,4,5,6,7,8,9] cC Z) (jC))) ?_;rintro _ _⟨rfl,rfl⟩;refine wn Z<|wq<|wm Z<|wm Z<|wa (aD aXl Z (Ct.sub (R1:=[(rc 360 4 am [sl fk x.length fm,I ((Sx.cd.k+4:Nat):Int), .int .u64 (cuC x Sx.cd), .int .u64 Sx.cd.R]),(ru 5 fk x.length fm x),(rc 256 2 kx [sl jz 258 bw,I (aW Sx.c0)]),(ri 3 jz 258 bw Sx.c0),(ri 3 A1 n1 c1 acc),(rc 250 5 fb [PG kx,PG ki,PG kp,I Sx.cls,I o]),(rc 256 2 ki [sl eh 258 ci,I (aW Sx.c1)]),(ri 3 eh 258 ci Sx.c1),(rc 256 2 kp [sl br 258 co,I (aW Sx.c2)]),(ri 3 br 258 co Sx.c2)]) (λ_ h=>h.sel [8,9,0,1,2,3,4,5,6,7] cC Z) (FY Z ((pj.w0 hk).tot cj.1.1.1 hy.1 hy.2).2 r8 ⟨(pj.w0 hk).c0,(pj.w0 hk).c1⟩ ((pj.w0 hk).tot cj.1.1.1 hy.1 hy.2).1))) ?_;rintro _ _⟨rfl,rfl⟩;refine wm Z<|wX Z Z<|wX Z Z<|wg Z<|wn Z<|wq<|wm Z<|wa (aD nK Z (Ct.at 5 Z (oG hk))) ?_;rintro _ _⟨rfl,rfl⟩;refine wm Z<|wa (aD aXk Z (Ct.sub (R1:=[(rc 256 2 kx [sl jz 258 bw,I (aW Sx.c0)]),(ri 3 jz 258 bw Sx.c0),(rc 360 4 am [sl fk x.length fm,I ((Sx.cd.k+4:Nat):Int), .int .u64 (cuC x Sx.cd), .int .u64 Sx.cd.R]),(ru 5 fk x.length fm x),(ri 3 A1 n1 c1 acc),(rc 250 5 fb [PG kx,PG ki,PG kp,I Sx.cls,I o]),(rc 256 2 ki [sl eh 258 ci,I (aW Sx.c1)]),(ri 3 eh 258 ci Sx.c1),(rc 256 2 kp [sl br 258 co,I (aW Sx.c2)]),(ri 3 br 258 co Sx.c2)]) (λ_ h=>h.sel [2,3,0,1,4,5,6,7,8,9] cC Z) (uM (by rw[cj.1.1.1.1]) cj.1.1.1 hy ⟨(pj.w0 hk).v0,(pj.w0 hk).v1⟩))) ?_;rintro _ _⟨rfl,rfl⟩;refine wm Z<|wX Z Z<|wX Z Z<|wg Z<|wn Z<|wq<|wm Z<|wa (aD nK Z (Ct.at 5 Z (oG hk))) ?_;rintro _ _⟨rfl,rfl⟩;refine wm Z<|wa (aD TL Z (Ct.sub (R1:=[(rc 256 2 kx [sl jz 258 bw,I (aW Sx.c0)]),(ri 3 jz 258 bw Sx.c0),(rc 360 4 am [sl fk x.length fm,I ((Sx.cd.k+4:Nat):Int), .int .u64 (cuC x Sx.cd), .int .u64 Sx.cd.R]),(ru 5 fk x.length fm x),(ri 3 A1 n1 c1 acc),(rc 250 5 fb [PG kx,PG ki,PG kp,I Sx.cls,I o]),(rc 256 2 ki [sl eh 258 ci,I (aW Sx.c1)]),(ri 3 eh 258 ci Sx.c1),(rc 256 2 kp [sl br 258 co,I (aW Sx.c2)]),(ri 3 br 258 co Sx.c2)]) hiZ (kR (by rw[cj.1.1.1.1]) (by rw[cj.1.1.1.1];exact hy) cj.1.1.1))) ?_;rintro _ _⟨rfl,rfl⟩;refine wm Z<|wX Z Z<|wX Z Z<|wX Z Z<|wg Z<|wg Z<|wn Z<|wq<|wm Z<|wm Z<|aB Z Z<|wm Z<|wy (aT Z Z) ?_;refine wm Z<|aB Z Z<|wm Z<|aB Z Z<|wm Z<|aB Z Z<|wm Z<|aB Z Z<|wm Z<|aB Z Z<|wa (aD aXj Z (Ct.sub (R1:=[(rc 360 4 am [sl fk x.length fm,I ((Sx.cd.k+4:Nat):Int), .int .u64 (cuC x Sx.cd), .int .u64 Sx.cd.R]),(ru 5 fk x.length fm x),(rc 256 2 kx [sl jz 258 bw,I (aW Sx.c0)]),(ri 3 jz 258 bw Sx.c0),(ri 3 A1 n1 c1 acc),(rc 250 5 fb [PG kx,PG ki,PG kp,I Sx.cls,I o]),(rc 256 2 ki [sl eh 258 ci,I (aW Sx.c1)]),(ri 3 eh 258 ci Sx.c1),(rc 256 2 kp [sl br 258 co,I (aW Sx.c2)]),(ri 3 br 258 co Sx.c2)]) (λ_ h=>h.sel [2,3,0,1,4,5,6,7,8,9] cC Z) (EU Z (by rw[hx];exact iD _ _) G r8 (jY cj.1.1.1 hy.1 hy.2) (pj.w0 hk).lo (pj.w0 hk).hi (pj.w0 hk).len))) ?_;rintro _ _⟨rfl,rfl⟩;refine wy (aT Z Z)<|wn Z<|aC<|wq<|wm Z<|wm Z<|aB Z Z<|wm Z<|aB Z Z<|wy (dR Z Z)<|wy (aT Z Z)<|aA<|bA Z (λaq=> ?_) (λaq=> ?_)
  ·refine wq<|wm Z<|wg Z<|wn Z<|bN (R1:=[(ri 3 A1 n1 c1 acc)]) (λ_ h=>h.sel [4] cC Z) ?_;refine⟨_,_,Z,Z,?_⟩;have Qe:=Yi.1 cF;have Lp:acc=bT 0 (bG aV b):=by rw[ba,show i.toNat=(bK b).length-1 by omega];exact EW b
   have tg:n1=(bT 0 (bG aV b)).length:=G
   rw[Lp,tg];exact⟨_,_,Z,Z⟩
  ·refine aI<|wq<|wm Z<|wm Z<|wa (bH .i64 [rd (bK b) i] aa zs3 Z Z Z) ?_;rintro _ _⟨o6,rfl,rfl⟩;refine wa (aS 5 Z aa zb3 Z Z Z (rdr 0 Z)) ?_;rintro _ _⟨fz,th,rfl,rfl⟩;refine bF (v:=sl fz (n1+1) th) Z<|wn Z<|aL<|wm Z<|wm Z<|wa (aD TK Z (Ct.sub (R1:=[(rc 250 5 fb [PG kx,PG ki,PG kp,I Sx.cls,I o]),(rc 256 2 kx [sl jz 258 bw,I (aW Sx.c0)]),(ri 3 jz 258 bw Sx.c0),(ri 3 (GG o6) 1 1 ([rd (bK b) i])),(rc 360 4 am [sl fk x.length fm,I (((eY Sx.cd (aW (Sx.c0.take (rd (bK b) i).toNat)) (rd Sx.c0 (rd (bK b) i)) (aW Sx.c0)).k+4:Nat):Int), .int .u64 (cuC x (eY Sx.cd (aW (Sx.c0.take (rd (bK b) i).toNat)) (rd Sx.c0 (rd (bK b) i)) (aW Sx.c0))), .int .u64 ((eY Sx.cd (aW (Sx.c0.take (rd (bK b) i).toNat)) (rd Sx.c0 (rd (bK b) i)) (aW Sx.c0)).R)]),(ru 5 fk x.length fm x),(ri 3 fz (n1+1) th (acc++([rd (bK b) i]))),(rc 256 2 ki [sl eh 258 ci,I (aW Sx.c1)]),(ri 3 eh 258 ci Sx.c1),(rc 256 2 kp [sl br 258 co,I (aW Sx.c2)]),(ri 3 br 258 co Sx.c2)]) (λ_ h=>h.sel [6,3,4,0,1,2,5,7,8,9,10] cC Z) (LC hk (by rw[cj.1.1.1.1];exact hy) cj.1.1.1))) ?_;rintro _ _⟨rfl,rfl⟩;refine aA ?_;exact⟨(i+1),fz,n1+1,th,acc++([rd (bK b) i]),(⟨jX Sx.c0 (rd (bK b) i),Sx.c1,Sx.c2,iJ (rd (bK b) i),qN Sx.cd Sx.c0 (rd (bK b) i)⟩:PpS),⟨G,G,G,(by rw[dH aw G,<-ba]),(mV hS aw G (UV hk))⟩,G,SA,λ_ h=>h.sel [6,0,1,2,7,8,9,10,4,5] cC Z⟩
 ·refine wm Z<|wa (aD nK Z (Ct.at 1 Z (oF hk))) ?_;rintro _ _⟨rfl,rfl⟩;refine wa (aD NT Z (Ct.sub (R1:=[(rc 256 2 ki [sl eh 258 ci,I (aW Sx.c1)]),(ri 3 eh 258 ci Sx.c1),(ri 3 A1 n1 c1 acc),(rc 250 5 fb [PG kx,PG ki,PG kp,I Sx.cls,I o]),(rc 256 2 kx [sl jz 258 bw,I (aW Sx.c0)]),(ri 3 jz 258 bw Sx.c0),(rc 256 2 kp [sl br 258 co,I (aW Sx.c2)]),(ri 3 br 258 co Sx.c2),(rc 360 4 am [sl fk x.length fm,I ((Sx.cd.k+4:Nat):Int), .int .u64 (cuC x Sx.cd), .int .u64 Sx.cd.R]),(ru 5 fk x.length fm x)]) (λ_ h=>h.sel [4,5,0,1,2,3,6,7,8,9] cC Z) (jC))) ?_;rintro _ _⟨rfl,rfl⟩;refine wn Z<|wq<|wm Z<|wm Z<|wa (aD aXl Z (Ct.sub (R1:=[(rc 360 4 am [sl fk x.length fm,I ((Sx.cd.k+4:Nat):Int), .int .u64 (cuC x Sx.cd), .int .u64 Sx.cd.R]),(ru 5 fk x.length fm x),(rc 256 2 ki [sl eh 258 ci,I (aW Sx.c1)]),(ri 3 eh 258 ci Sx.c1),(ri 3 A1 n1 c1 acc),(rc 250 5 fb [PG kx,PG ki,PG kp,I Sx.cls,I o]),(rc 256 2 kx [sl jz 258 bw,I (aW Sx.c0)]),(ri 3 jz 258 bw Sx.c0),(rc 256 2 kp [sl br 258 co,I (aW Sx.c2)]),(ri 3 br 258 co Sx.c2)]) (λ_ h=>h.sel [8,9,0,1,2,3,4,5,6,7] cC Z) (FY Z ((pj.w1 hk).tot cj.1.1.2.1 hy.1 hy.2).2 r8 ⟨(pj.w1 hk).c0,(pj.w1 hk).c1⟩ ((pj.w1 hk).tot cj.1.1.2.1 hy.1 hy.2).1))) ?_;rintro _ _⟨rfl,rfl⟩;refine wm Z<|wX Z Z<|wX Z Z<|wg Z<|wn Z<|wq<|wm Z<|wa (aD nK Z (Ct.at 5 Z (oF hk))) ?_;rintro _ _⟨rfl,rfl⟩;refine wm Z<|wa (aD aXk Z (Ct.sub (R1:=[(rc 256 2 ki [sl eh 258 ci,I (aW Sx.c1)]),(ri 3 eh 258 ci Sx.c1),(rc 360 4 am [sl fk x.length fm,I ((Sx.cd.k+4:Nat):Int), .int .u64 (cuC x Sx.cd), .int .u64 Sx.cd.R]),(ru 5 fk x.length fm x),(ri 3 A1 n1 c1 acc),(rc 250 5 fb [PG kx,PG ki,PG kp,I Sx.cls,I o]),(rc 256 2 kx [sl jz 258 bw,I (aW Sx.c0)]),(ri 3 jz 258 bw Sx.c0),(rc 256 2 kp [sl br 258 co,I (aW Sx.c2)]),(ri 3 br 258 co Sx.c2)]) (λ_ h=>h.sel [2,3,0,1,4,5,6,7,8,9] cC Z) (uM (by rw[cj.1.1.2.1.1]) cj.1.1.2.1 hy ⟨(pj.w1 hk).v0,(pj.w1 hk).v1⟩))) ?_;rintro _ _⟨rfl,rfl⟩;refine wm Z<|wX Z Z<|wX Z Z<|wg Z<|wn Z<|wq<|wm Z<|wa (aD nK Z (Ct.at 5 Z (oF hk))) ?_;rintro _ _⟨rfl,rfl⟩;refine wm Z<|wa (aD TL Z (Ct.sub (R1:=[(rc 256 2 ki [sl eh 258 ci,I (aW Sx.c1)]),(ri 3 eh 258 ci Sx.c1),(rc 360 4 am [sl fk x.length fm,I ((Sx.cd.k+4:Nat):Int), .int .u64 (cuC x Sx.cd), .int .u64 Sx.cd.R]),(ru 5 fk x.length fm x),(ri 3 A1 n1 c1 acc),(rc 250 5 fb [PG kx,PG ki,PG kp,I Sx.cls,I o]),(rc 256 2 kx [sl jz 258 bw,I (aW Sx.c0)]),(ri 3 jz 258 bw Sx.c0),(rc 256 2 kp [sl br 258 co,I (aW Sx.c2)]),(ri 3 br 258 co Sx.c2)]) hiZ (kR (by rw[cj.1.1.2.1.1]) (by rw[cj.1.1.2.1.1];exact hy) cj.1.1.2.1))) ?_;rintro _ _⟨rfl,rfl⟩;refine wm Z<|wX Z Z<|wX Z Z<|wX Z Z<|wg Z<|wg Z<|wn Z<|wq<|wm Z<|wm Z<|aB Z Z<|wm Z<|wy (aT Z Z) ?_;refine wm Z<|aB Z Z<|wm Z<|aB Z Z<|wm Z<|aB Z Z<|wm Z<|aB Z Z<|wm Z<|aB Z Z<|wa (aD aXj Z (Ct.sub (R1:=[(rc 360 4 am [sl fk x.length fm,I ((Sx.cd.k+4:Nat):Int), .int .u64 (cuC x Sx.cd), .int .u64 Sx.cd.R]),(ru 5 fk x.length fm x),(rc 256 2 ki [sl eh 258 ci,I (aW Sx.c1)]),(ri 3 eh 258 ci Sx.c1),(ri 3 A1 n1 c1 acc),(rc 250 5 fb [PG kx,PG ki,PG kp,I Sx.cls,I o]),(rc 256 2 kx [sl jz 258 bw,I (aW Sx.c0)]),(ri 3 jz 258 bw Sx.c0),(rc 256 2 kp [sl br 258 co,I (aW Sx.c2)]),(ri 3 br 258 co Sx.c2)]) (λ_ h=>h.sel [2,3,0,1,4,5,6,7,8,9] cC Z) (EU Z (by rw[hx];exact iD _ _) G r8 (jY cj.1.1.2.1 hy.1 hy.2) (pj.w1 hk).lo (pj.w1 hk).hi (pj.w1 hk).len))) ?_;rintro _ _⟨rfl,rfl⟩;refine wy (aT Z Z)<|wn Z<|aC<|wq<|wm Z<|wm Z<|aB Z Z<|wm Z<|aB Z Z<|wy (dR Z Z)<|wy (aT Z Z)<|aA<|bA Z (λbp=> ?_) (λbp=> ?_)
  ·refine wq<|wm Z<|wg Z<|wn Z<|bN (R1:=[(ri 3 A1 n1 c1 acc)]) (λ_ h=>h.sel [4] cC Z) ?_;refine⟨_,_,Z,Z,?_⟩;have Qe:=Yi.1 cF;have Lp:acc=bT 0 (bG aV b):=by rw[ba,show i.toNat=(bK b).length-1 by omega];exact EW b
   have tg:n1=(bT 0 (bG aV b)).length:=G
   rw[Lp,tg];exact⟨_,_,Z,Z⟩
  ·refine aI<|wq<|wm Z<|wm Z<|wa (bH .i64 [rd (bK b) i] aa zs3 Z Z Z) ?_;rintro _ _⟨xa,rfl,rfl⟩;refine wa (aS 5 Z aa zb3 Z Z Z (rdr 0 Z)) ?_;rintro _ _⟨ur,uv,rfl,rfl⟩;refine bF (v:=sl ur (n1+1) uv) Z<|wn Z<|aL<|wm Z<|wm Z<|wa (aD TK Z (Ct.sub (R1:=[(rc 250 5 fb [PG kx,PG ki,PG kp,I Sx.cls,I o]),(rc 256 2 ki [sl eh 258 ci,I (aW Sx.c1)]),(ri 3 eh 258 ci Sx.c1),(ri 3 (GG xa) 1 1 ([rd (bK b) i])),(rc 360 4 am [sl fk x.length fm,I (((eY Sx.cd (aW (Sx.c1.take (rd (bK b) i).toNat)) (rd Sx.c1 (rd (bK b) i)) (aW Sx.c1)).k+4:Nat):Int), .int .u64 (cuC x (eY Sx.cd (aW (Sx.c1.take (rd (bK b) i).toNat)) (rd Sx.c1 (rd (bK b) i)) (aW Sx.c1))), .int .u64 ((eY Sx.cd (aW (Sx.c1.take (rd (bK b) i).toNat)) (rd Sx.c1 (rd (bK b) i)) (aW Sx.c1)).R)]),(ru 5 fk x.length fm x),(ri 3 ur (n1+1) uv (acc++([rd (bK b) i]))),(rc 256 2 kx [sl jz 258 bw,I (aW Sx.c0)]),(ri 3 jz 258 bw Sx.c0),(rc 256 2 kp [sl br 258 co,I (aW Sx.c2)]),(ri 3 br 258 co Sx.c2)]) (λ_ h=>h.sel [6,3,4,0,1,2,5,7,8,9,10] cC Z) (LB hk (by rw[cj.1.1.2.1.1];exact hy) cj.1.1.2.1))) ?_;rintro _ _⟨rfl,rfl⟩;refine aA ?_;exact⟨(i+1),ur,n1+1,uv,acc++([rd (bK b) i]),(⟨Sx.c0,jX Sx.c1 (rd (bK b) i),Sx.c2,iJ (rd (bK b) i),qN Sx.cd Sx.c1 (rd (bK b) i)⟩:PpS),⟨G,G,G,(by rw[dH aw G,<-ba]),(mV hS aw G (UU hk))⟩,G,SA,λ_ h=>h.sel [6,0,7,8,1,2,9,10,4,5] cC Z⟩
 ·refine wm Z<|wa (aD nK Z (Ct.at 1 Z (oD hk))) ?_;rintro _ _⟨rfl,rfl⟩;refine wa (aD NT Z (Ct.sub (R1:=[(rc 256 2 kp [sl br 258 co,I (aW Sx.c2)]),(ri 3 br 258 co Sx.c2),(ri 3 A1 n1 c1 acc),(rc 250 5 fb [PG kx,PG ki,PG kp,I Sx.cls,I o]),(rc 256 2 kx [sl jz 258 bw,I (aW Sx.c0)]),(ri 3 jz 258 bw Sx.c0),(rc 256 2 ki [sl eh 258 ci,I (aW Sx.c1)]),(ri 3 eh 258 ci Sx.c1),(rc 360 4 am [sl fk x.length fm,I ((Sx.cd.k+4:Nat):Int), .int .u64 (cuC x Sx.cd), .int .u64 Sx.cd.R]),(ru 5 fk x.length fm x)]) (λ_ h=>h.sel [6,7,0,1,2,3,4,5,8,9] cC Z) (jC))) ?_;rintro _ _⟨rfl,rfl⟩;refine wn Z<|wq<|wm Z<|wm Z<|wa (aD aXl Z (Ct.sub (R1:=[(rc 360 4 am [sl fk x.length fm,I ((Sx.cd.k+4:Nat):Int), .int .u64 (cuC x Sx.cd), .int .u64 Sx.cd.R]),(ru 5 fk x.length fm x),(rc 256 2 kp [sl br 258 co,I (aW Sx.c2)]),(ri 3 br 258 co Sx.c2),(ri 3 A1 n1 c1 acc),(rc 250 5 fb [PG kx,PG ki,PG kp,I Sx.cls,I o]),(rc 256 2 kx [sl jz 258 bw,I (aW Sx.c0)]),(ri 3 jz 258 bw Sx.c0),(rc 256 2 ki [sl eh 258 ci,I (aW Sx.c1)]),(ri 3 eh 258 ci Sx.c1)]) (λ_ h=>h.sel [8,9,0,1,2,3,4,5,6,7] cC Z) (FY Z ((pj.w2 hk).tot cj.1.1.2.2 hy.1 hy.2).2 r8 ⟨(pj.w2 hk).c0,(pj.w2 hk).c1⟩ ((pj.w2 hk).tot cj.1.1.2.2 hy.1 hy.2).1))) ?_;rintro _ _⟨rfl,rfl⟩;refine wm Z<|wX Z Z<|wX Z Z<|wg Z<|wn Z<|wq<|wm Z<|wa (aD nK Z (Ct.at 5 Z (oD hk))) ?_;rintro _ _⟨rfl,rfl⟩;refine wm Z<|wa (aD aXk Z (Ct.sub (R1:=[(rc 256 2 kp [sl br 258 co,I (aW Sx.c2)]),(ri 3 br 258 co Sx.c2),(rc 360 4 am [sl fk x.length fm,I ((Sx.cd.k+4:Nat):Int), .int .u64 (cuC x Sx.cd), .int .u64 Sx.cd.R]),(ru 5 fk x.length fm x),(ri 3 A1 n1 c1 acc),(rc 250 5 fb [PG kx,PG ki,PG kp,I Sx.cls,I o]),(rc 256 2 kx [sl jz 258 bw,I (aW Sx.c0)]),(ri 3 jz 258 bw Sx.c0),(rc 256 2 ki [sl eh 258 ci,I (aW Sx.c1)]),(ri 3 eh 258 ci Sx.c1)]) (λ_ h=>h.sel [2,3,0,1,4,5,6,7,8,9] cC Z) (uM (by rw[cj.1.1.2.2.1]) cj.1.1.2.2 hy ⟨(pj.w2 hk).v0,(pj.w2 hk).v1⟩))) ?_;rintro _ _⟨rfl,rfl⟩;refine wm Z<|wX Z Z<|wX Z Z<|wg Z<|wn Z<|wq<|wm Z<|wa (aD nK Z (Ct.at 5 Z (oD hk))) ?_;rintro _ _⟨rfl,rfl⟩;refine wm Z<|wa (aD TL Z (Ct.sub (R1:=[(rc 256 2 kp [sl br 258 co,I (aW Sx.c2)]),(ri 3 br 258 co Sx.c2),(rc 360 4 am [sl fk x.length fm,I ((Sx.cd.k+4:Nat):Int), .int .u64 (cuC x Sx.cd), .int .u64 Sx.cd.R]),(ru 5 fk x.length fm x),(ri 3 A1 n1 c1 acc),(rc 250 5 fb [PG kx,PG ki,PG kp,I Sx.cls,I o]),(rc 256 2 kx [sl jz 258 bw,I (aW Sx.c0)]),(ri 3 jz 258 bw Sx.c0),(rc 256 2 ki [sl eh 258 ci,I (aW Sx.c1)]),(ri 3 eh 258 ci Sx.c1)]) hiZ (kR (by rw[cj.1.1.2.2.1]) (by rw[cj.1.1.2.2.1];exact hy) cj.1.1.2.2))) ?_;rintro _ _⟨rfl,rfl⟩;refine wm Z<|wX Z Z<|wX Z Z<|wX Z Z<|wg Z<|wg Z<|wn Z<|wq<|wm Z<|wm Z<|aB Z Z<|wm Z<|wy (aT Z Z) ?_;refine wm Z<|aB Z Z<|wm Z<|aB Z Z<|wm Z<|aB Z Z<|wm Z<|aB Z Z<|wm Z<|aB Z Z<|wa (aD aXj Z (Ct.sub (R1:=[(rc 360 4 am [sl fk x.length fm,I ((Sx.cd.k+4:Nat):Int), .int .u64 (cuC x Sx.cd), .int .u64 Sx.cd.R]),(ru 5 fk x.length fm x),(rc 256 2 kp [sl br 258 co,I (aW Sx.c2)]),(ri 3 br 258 co Sx.c2),(ri 3 A1 n1 c1 acc),(rc 250 5 fb [PG kx,PG ki,PG kp,I Sx.cls,I o]),(rc 256 2 kx [sl jz 258 bw,I (aW Sx.c0)]),(ri 3 jz 258 bw Sx.c0),(rc 256 2 ki [sl eh 258 ci,I (aW Sx.c1)]),(ri 3 eh 258 ci Sx.c1)]) (λ_ h=>h.sel [2,3,0,1,4,5,6,7,8,9] cC Z) (EU Z (by rw[hx];exact iD _ _) G r8 (jY cj.1.1.2.2 hy.1 hy.2) (pj.w2 hk).lo (pj.w2 hk).hi (pj.w2 hk).len))) ?_;rintro _ _⟨rfl,rfl⟩;refine wy (aT Z Z)<|wn Z<|aC<|wq<|wm Z<|wm Z<|aB Z Z<|wm Z<|aB Z Z<|wy (dR Z Z)<|wy (aT Z Z)<|aA<|bA Z (λew=> ?_) (λew=> ?_)
  ·refine wq<|wm Z<|wg Z<|wn Z<|bN (R1:=[(ri 3 A1 n1 c1 acc)]) (λ_ h=>h.sel [4] cC Z) ?_;refine⟨_,_,Z,Z,?_⟩;have Qe:=Yi.1 cF;have Lp:acc=bT 0 (bG aV b):=by rw[ba,show i.toNat=(bK b).length-1 by omega];exact EW b
   have tg:n1=(bT 0 (bG aV b)).length:=G
   rw[Lp,tg];exact⟨_,_,Z,Z⟩
  ·refine aI<|wq<|wm Z<|wm Z<|wa (bH .i64 [rd (bK b) i] aa zs3 Z Z Z) ?_;rintro _ _⟨Oe,rfl,rfl⟩;refine wa (aS 5 Z aa zb3 Z Z Z (rdr 0 Z)) ?_;rintro _ _⟨ov,oy,rfl,rfl⟩;refine bF (v:=sl ov (n1+1) oy) Z<|wn Z<|aL<|wm Z<|wm Z<|wa (aD TK Z (Ct.sub (R1:=[(rc 250 5 fb [PG kx,PG ki,PG kp,I Sx.cls,I o]),(rc 256 2 kp [sl br 258 co,I (aW Sx.c2)]),(ri 3 br 258 co Sx.c2),(ri 3 (GG Oe) 1 1 ([rd (bK b) i])),(rc 360 4 am [sl fk x.length fm,I (((eY Sx.cd (aW (Sx.c2.take (rd (bK b) i).toNat)) (rd Sx.c2 (rd (bK b) i)) (aW Sx.c2)).k+4:Nat):Int), .int .u64 (cuC x (eY Sx.cd (aW (Sx.c2.take (rd (bK b) i).toNat)) (rd Sx.c2 (rd (bK b) i)) (aW Sx.c2))), .int .u64 ((eY Sx.cd (aW (Sx.c2.take (rd (bK b) i).toNat)) (rd Sx.c2 (rd (bK b) i)) (aW Sx.c2)).R)]),(ru 5 fk x.length fm x),(ri 3 ov (n1+1) oy (acc++([rd (bK b) i]))),(rc 256 2 kx [sl jz 258 bw,I (aW Sx.c0)]),(ri 3 jz 258 bw Sx.c0),(rc 256 2 ki [sl eh 258 ci,I (aW Sx.c1)]),(ri 3 eh 258 ci Sx.c1)]) (λ_ h=>h.sel [6,3,4,0,1,2,5,7,8,9,10] cC Z) (KZ hk (by rw[cj.1.1.2.2.1];exact hy) cj.1.1.2.2))) ?_;rintro _ _⟨rfl,rfl⟩;refine aA ?_;exact⟨(i+1),ov,n1+1,oy,acc++([rd (bK b) i]),(⟨Sx.c0,Sx.c1,jX Sx.c2 (rd (bK b) i),iJ (rd (bK b) i),qN Sx.cd Sx.c2 (rd (bK b) i)⟩:PpS),⟨G,G,G,(by rw[dH aw G,<-ba]),(mV hS aw G (UT hk))⟩,G,SA,λ_ h=>h.sel [6,0,7,8,9,10,1,2,4,5] cC Z⟩
theorem PZ {io:AF} {mt iz:Nat} {l:AH} {q:AH} (dr:Rd w io mt iz 1 (ints .i64 l)) (hb:bkL fa l [] 1=some q) (hm:0<=fa/\fa<=100000) (hN:l.length<=1000000):
  CF 273 #[sl io mt iz,I fa] w (λv R'=> ∃A c,v= .tuple #[sl A q.length c,bt]/\R'=[(ru 5 A q.length c q)]):=by
 obtain rfl:=dr.lenI;refine fn2 Tryz.func273 Z Z Z ?_;have Nw:=dr.max;refine wq<|wg Z<|wn Z<|aC<|wq<|wm Z<|wy (Yl.f (eD Z Z))<|aA<|aJ Z<|aI<|wq ?_;refine wa (bH .u8 [] af zs5 Z Z Z) ?_;rintro _ _⟨bx,rfl,rfl⟩;refine wn Z<|wq<|wn Z<|aC<|wq<|wm Z<|wy (aN aa Z)<|wm Z<|aA<|aH ?_;refine mU (λ(i:Int) (A1:AF) (n1:Nat) (c1:Nat) (acc:AH) (p:Int)=>[(1,I fa),(6,sl A1 n1 c1),(7,I p),(14,sl io l.length iz),(15,I (l.length:Int)),(16,I i)]) (λi A1 n1 c1 acc p=>[(ru 5 A1 n1 c1 acc)]) (λi A1 n1 c1 acc p=>(0<=i)/\(i<=l.length)/\(n1=acc.length)/\(1<=p/\p<=200000)/\((acc.length:Int)<=fa)/\(bkL fa (l.drop i.toNat) acc p=some q)) (λi A1 n1 c1 acc p=>(l.length-i).toNat) ?_ ?_
 ·exact⟨0,GG bx,0,0,[],1,⟨G,G,(Z),G,(by show(0:Int)<=fa;omega),(hb)⟩,KP⟩
 intro i A1 n1 c1 acc p ⟨aw,ia,cv,hp,qk,Eq⟩;refine wq<|wL Z Z<|aA<|aC<|bA Z (λaq=> ?_) (λaq=> ?_)
 ·have tj:=bJw Eq aw G;refine aI<|aC<|aH<|wq<|wy (aG aa sz3 Z Z (dr.c _))<|wy (aR ai Z Z (dr.c _))<|wn Z<|aC<|aH<|wq<|wm Z<|wy (Yl.f (eD Z Z)) ?_;refine wm Z<|aB Z Z<|wm Z<|aB Z Z<|wy (Yl.f (iA Z Z))<|wy (aO Z Z)<|wn Z<|aJ Z<|wq<|wm Z<|wy (iA Z Z)<|wn Z ?_;refine bA Z (λbp=> ?_) (λbp=> ?_)
  ·obtain ⟨_,h3,h4⟩:=tj.2.resolve_right (λh=>G);refine wq<|wm Z<|wm Z<|wS Z Z<|wy (eQ ai ay Z)<|wa (bH .u8 [((rd l i)-1)%256] af zs5 Z Z Z) ?_;rintro _ _⟨kx,rfl,rfl⟩;refine wa (aS 1 Z af zb5 Z Z Z (rdr 0 Z)) ?_;rintro _ _⟨dy,jt,rfl,rfl⟩;refine bF (v:=sl dy (n1+1) jt) Z<|wn Z<|aL<|wn Z<|wq<|wm Z<|wy (aN af Z)<|wm Z<|wy (Yl.f (dE Z Z))<|aA<|aJ Z<|aI ?_;refine aL<|wA Z Z<|wm Z<|aA ?_;exact⟨i+1,dy,n1+1,jt,acc++([((rd l i)-1)%256]),1,⟨G,G,(by rw[ah,cv];simp),G,(by rw[ah,gq];omega),(by rw[pz G G];exact h4)⟩,G,SA,λ_ h=>h.sel [1] cC Z⟩
  ·obtain ⟨_,h3,hz,h5⟩:=tj.2.resolve_left (λh=>G)
   have hxp:(rd l i+1)*p=p\/(rd l i+1)*p=2*p:=by
    rcases(by omega:rd l i=0\/rd l i=1) with e|e<;>rw[e]<;>omega
   obtain⟨zn,hzn⟩: ∃zn:Nat,(rd l i+1)*p=(zn:Int):=⟨((rd l i+1)*p).toNat,G⟩;refine wq<|wm Z<|wA Z Z<|wm Z<|wy (Yl.is (iZ Z Z) (by rw[hzn])) ?_;refine wn Z<|aC<|wq<|wm Z<|wm Z<|wy (Yl.f (dE Z Z))<|wm Z<|aB Z Z<|wm Z<|aB Z Z<|wm Z<|aB Z Z<|wm Z ?_;refine aB Z Z<|wy (aN af Z)<|aB Z Z<|wS Z Z<|aB Z Z<|wy (Yl.f (dE Z Z))<|wy (aO Z Z)<|aA<|aJ Z<|aI<|wq<|wm Z<|wm Z<|wa (bAc (m:=zn) 0 Z af ai zb5 Z Z G G G) ?_;rintro _ _⟨jz,lz,rfl,rfl⟩;refine wn Z<|aL<|wm Z<|wy (iZ Z Z)<|wn Z<|wq<|wm Z<|wy (aN af Z)<|wm Z<|wy (Yl.f (dE Z Z))<|aA<|aJ Z ?_;refine aI<|aL<|wA Z Z<|wm Z<|aA ?_;exact⟨i+1,jz,n1+zn,lz,acc++List.replicate zn 0,p*2,⟨G,G,(by rw[ah,cv];simp),G,(by rw[ah,bu];omega),(by rw[show zn=((rd l i+1)*p).toNat by omega];exact h5)⟩,G,KP⟩
 ·refine aU<|wq<|wm Z<|wg Z<|wn Z<|aQ [0] 99 cC Z ?_;refine⟨_,_,Z,Z,?_⟩;have hdr:l.drop i.toNat=[]:=xw G;rw[hdr] at Eq;have hq:acc=q:=jc Eq;subst hq;subst cv;exact⟨_,_,Z,Z⟩
theorem XZ (nf:Rd w n8 Kw o5 1 (ints .u8 x)) (hx:x=bY b o) (cr:aP b) (ho:o=0\/o=1) (hN:b.length<=100000) (hm:(b.length:Int)<=fa):
  CF 229 #[sl n8 Kw o5,I o,I fa] w (λv R'=> ∃A c,v= .tuple #[sl A b.length c,bt]/\R'=[(ru 5 A b.length c b)]):=by
 obtain rfl:=nf.lenI;refine fn2 Tryz.func229 Z Z Z ?_;have m_x:=nf.max;have m7:=qM cr;have Mq:x.length<=2*b.length+6:=by rw[hx];exact nX cr
 have hx4:4<=x.length:=by rw[hx];unfold bY;rw[jW];omega
 have wk:(bK b).length=(bT 0 (bG aV b)).length+1:=by unfold bK;rw[ah];rfl
 have Pt:=oW (bG aV b) 0;rw[fV] at Pt;have hmv:=fV b aV;refine wq<|wg Z<|wn Z<|aC<|wq<|wm Z<|wa (aD bGp Z (Ct.quiet (λw hw=>DD ho))) ?_;rintro _ _⟨rfl,rfl⟩;refine wy (dI Z)<|wm Z<|aB Z Z<|wm Z<|aB Z Z<|wy (Yl.f (eD Z Z))<|wy (aO Z Z)<|aA<|aJ Z<|aI<|wq<|wm Z<|wy (sJ Z Z)<|wg Z ?_;refine aA<|wq<|wm Z<|wm Z<|wm Z<|wa (aD bMr Z (Ct.fresh (λw hw=>UR ((nf.c _) w hw) hx cr ho hN G))) ?_;rintro _ _⟨_,rfl,bm,bl,rfl,rfl⟩;refine wm Z<|wX Z Z<|wX Z Z<|wg Z<|wn Z<|aC<|wq<|wm Z<|wy (dI Z)<|aA<|aJ Z<|aI<|aC ?_;refine aL<|wm Z<|wm Z<|wa (aD bMq Z (Ct.fresh (λw hw=>PZ ((rdr 0 Z) w hw) (bJv (lW cr) G) G G))) ?_;rintro _ _⟨_,rfl,iu,js,rfl,rfl⟩;refine wm Z<|wX Z Z<|wX Z Z<|wg Z<|wn Z<|aC<|wq<|wm Z<|wy (dI Z)<|aA<|aJ Z<|aI<|aC ?_;refine aL<|wm Z<|wa (aD bGu Z (Ct.fresh (λw hw=>TY ((rdr 0 Z) w hw) (lW cr) G))) ?_;rintro _ _⟨_,rfl,fc,dv,rfl,rfl⟩;refine wn Z<|aC<|wq<|wm Z<|wm Z<|wa (aD bEc Z (Ct.fresh (λw hw=>xY ((rdr 0 Z) w hw) (by rw[qL cr];exact cr) ho (by rw[qL cr];exact hN)))) ?_;rintro _ _⟨_,rfl,br,bw,rfl,rfl⟩;refine wm Z<|wX Z Z<|wX Z Z<|wg Z<|wn Z<|wq<|wm Z<|wm Z<|wa (aD bMp Z (Ct.quiet (λw hw=>aPr ((rdr 0 Z) w hw) ((nf.c _) w hw) (iD _ _) (by rw[hx];exact iD _ _)))) ?_;rintro _ _⟨rfl,rfl⟩;refine fH 50 Z (by rw[qL cr,hx]) ?_;refine wy (dI Z)<|aA<|aJ Z<|aI<|wq<|wm Z<|wg Z<|wn Z<|bN (R1:=[(ru 5 fc (((bG aV b)).length) dv (kU aV (bG aV b)))]) (λ_ h=>h.sel [1] cC Z) ?_;refine⟨_,_,Z,Z,?_⟩;rw[hmv,qL cr];exact⟨_,_,Z,Z⟩
variable {B g gc ar ao nt ct:Nat} {w0:World} {X R0 R:List Row} {ap At:AF} {u t:AH} {p0 p1 p2 p3 ms tt ls x n:Int}
theorem CR (V:Int) (t:AH) (ac:RdC B w0 R0 ap ar ao 1 (ints .u8 u)) (ce:ar=u.length) (hN:u.length<=1000000) (an:aP u) (hV:0<=V/\V<=9223372036854775807) (hu:u=bL V++t):
  CT 90 #[PG g] B w0 ((rc 87 10 g [PG gc,I p0,I p1,I p2,I p3,I ms,I tt,I ls,sl At nt ct,sl none 0 0])::(rc 146 1 gc [sl ap ar ao])::(X++R0)) (λv R'=> ∃(A9:AF) (c9:Nat),RdC B w0 R0 A9 (t).length c9 1 (ints .u8 (t))/\v= .tuple #[I V,bt]/\R'=(rc 87 10 g [PG gc,I p0,I p1,I p2,I p3,I ms,I tt,I ls,sl At nt ct,sl none 0 0])::(rc 146 1 gc [sl A9 ((t).length) c9])::(X++R0)):=
 (CQ (R:=X++R0) (m:=(bL V).length) (RdC.right ac X) ce hN an (by rw[hu];exact vC.of ⟨hV.1,G⟩ t) hV.2).mono λv R' hv=>by
  obtain⟨rfl,rfl⟩:=hv;have e:=RdC.fromI (l:=(bL V).length) ac (by rw[ce,hu,ah];omega);have hl:ar-(bL V).length=t.length:=by rw[ce,hu,ah];omega
  have hd:u.drop (bL V).length=t:=by rw[hu];exact Gh
  rw[hl,hd] at e;rw[hl];exact⟨_,_,e,Z,Z⟩
theorem aJf {k:Int} (a t:AH) (ac:RdC B w0 R0 ap ar ao 1 (ints .u8 u)) (ce:ar=u.length) (hN:u.length<=1000000) (hk:k=(a.length:Int)) (hu:u=a++t):
  CT 156 #[PG gc,I k] B w0 ((rc 146 1 gc [sl ap ar ao])::(X++R0)) (λv R'=> ∃(A1:AF) (c1:Nat),∃(A9:AF) (c9:Nat),RdC B w0 R0 A9 (t).length c9 1 (ints .u8 (t))/\v= .tuple #[sl A1 a.length c1,bt]/\R'=(ru 5 A1 a.length c1 a)::(rc 146 1 gc [sl A9 ((t).length) c9])::(X++R0)):=
 (zF (R:=X++R0) (k:=k) (RdC.right ac X) ce hN (by rw[hu,ah];omega)).mono λv R' hv=>by
  obtain⟨A1,c1,rfl,rfl⟩:=hv;have Qi:k.toNat=a.length:=G
  have e:=RdC.fromI (l:=a.length) ac (by rw[ce,hu,ah];omega);have hl:ar-a.length=t.length:=by rw[ce,hu,ah];omega
  have hd:u.drop a.length=t:=by rw[hu];exact Gh
  have ht:u.take a.length=a:=by rw[hu];exact zl
  rw[hl,hd] at e;rw[Qi,hl,ht];exact⟨_,_,_,_,e,Z,Z⟩
theorem aWw (ac:RdC B w0 R0 ap ar ao 1 (ints .u8 u)) (ce:ar=u.length) (hN:u.length<=1000000) (hx:0<=x/\x<4294967296) (hu:u=fP x++t):
  CT 228 #[PG gc] B w0 ((rc 146 1 gc [sl ap ar ao])::(X++R0)) (λv R'=> ∃(A9:AF) (c9:Nat),RdC B w0 R0 A9 (t).length c9 1 (ints .u8 (t))/\v= .tuple #[.int .u32 x,bt]/\R'=(rc 146 1 gc [sl A9 ((t).length) c9])::(X++R0)):=by
 subst ce;have o9:=(jR x).rd 0;have xt:=(jR x).rd 1;have i8:=(jR x).rd 2;have Ls:=(jR x).rd 3;refine fn2 Tryz.func228 Z Z Z ?_;refine wq<|wg Z<|wn Z<|wq<|wm Z<|wa (aD aLd Z ((aJf (X:=([]++X)) (R0:=R0) (fP x) (t) ac Z hN Z hu))) ?_;rintro _ _⟨iu,js,bm,bl,se,rfl,rfl⟩;refine jG (R1:=((ru 5 iu 4 js (fP x))::(rc 146 1 gc [sl bm ((t).length) bl])::(X++R0))) Z<|bF (v:= .tuple #[sl iu 4 js,bt]) Z<|wm Z<|wX Z Z<|wX Z Z<|wg Z<|wn Z<|aC<|wq<|wm Z<|wy (dI Z)<|aA<|aJ Z ?_;refine aI<|wq<|wn Z<|aC<|wq<|wm Z<|wy (aN af Z)<|wm Z<|aA<|aH<|mR 5<|dY ?_;refine wq<|wy (Yl.t (eD Z Z) cC)<|aA<|aC<|bE Z<|aI<|aC<|aH<|wq<|wm Z<|wy (aG af sz5 Z Z (rdr 0 Z))<|wy (aR ay Z Z (rdr 0 Z))<|wg Z ?_;refine wn Z<|aL<|wm Z<|wm Z<|wy (AU ay qw Z G)<|wm Z<|wy (Yl.is (iZ Z Z) (Z:_=Value.int .i64 0))<|wy (JA (k:=0) (m:=1) Z Z Z G Z)<|wy (UG (p:=(rd (fP x) 0)) (m:=1) 0 Z Z Z G G)<|wn Z<|aL<|wy (Yl.is (bX Z Z) (Z:_=Value.int .i64 1))<|wm Z ?_;refine aA<|dY<|wq<|wy (Yl.t (eD Z Z) cC)<|aA<|aC<|bE Z<|aI<|aC<|aH<|wq<|wm Z<|wy (aG af sz5 Z Z (rdr 0 Z)) ?_;refine wy (aR ay Z Z (rdr 0 Z))<|wg Z<|wn Z<|aL<|wm Z<|wm Z<|wy (AU ay qw Z G)<|wm Z<|wy (Yl.is (iZ Z Z) (Z:_=Value.int .i64 8))<|wy (JA (k:=8) (m:=256) Z Z Z G Z)<|wy (UG (p:=(rd (fP x) 1)) (m:=256) 8 Z Z Z G G)<|wn Z<|aL ?_;refine wy (Yl.is (bX Z Z) (Z:_=Value.int .i64 2))<|wm Z<|aA<|dY<|wq<|wy (Yl.t (eD Z Z) cC)<|aA<|aC<|bE Z<|aI<|aC<|aH<|wq ?_;refine wm Z<|wy (aG af sz5 Z Z (rdr 0 Z))<|wy (aR ay Z Z (rdr 0 Z))<|wg Z<|wn Z<|aL<|wm Z<|wm Z<|wy (AU ay qw Z G)<|wm Z<|wy (Yl.is (iZ Z Z) (Z:_=Value.int .i64 16))<|wy (JA (k:=16) (m:=65536) Z Z Z G Z)<|wy (UG (p:=(rd (fP x) 2)) (m:=65536) 16 Z Z Z G G)<|wg Z ?_;refine aA<|aL<|wy (Yl.is (bX Z Z) (Z:_=Value.int .i64 3))<|wm Z<|aA<|dY<|wq<|wy (Yl.t (eD Z Z) cC)<|aA<|aC<|bE Z<|aI<|aC<|aH ?_;refine wq<|wm Z<|wy (aG af sz5 Z Z (rdr 0 Z))<|wy (aR ay Z Z (rdr 0 Z))<|wg Z<|wn Z<|aL<|wm Z<|wm Z<|wy (AU ay qw Z G)<|wm Z<|wy (Yl.is (iZ Z Z) (Z:_=Value.int .i64 24))<|wy (JA (k:=24) (m:=16777216) Z Z Z G Z) ?_;refine wy (UG (p:=(rd (fP x) 3)) (m:=16777216) 24 Z Z Z G G)<|wn Z<|aL<|wy (Yl.is (bX Z Z) (Z:_=Value.int .i64 4))<|wm Z<|aA<|dY<|wq<|wy (Yl.f (eD Z Z) cC)<|aA<|aC<|aJ Z<|aU ?_;refine wq<|wm Z<|wg Z<|wn Z ?_;have he:0+(rd (fP x) 0)*1+(rd (fP x) 1)*256+(rd (fP x) 2)*65536+(rd (fP x) 3)*16777216=x:=bDv hx;refine aQ [1] 2 cC Z ?_;refine⟨_,_,Z,Z,?_⟩;rw[he];exact⟨_,_,se,Z,Z⟩
theorem aGg (hn:n<=p3) (hb:(-1000000<=ms/\ms<=1000000)/\(0<=tt/\tt<=1000000)):
  CT 158 #[PG g,I n] B w0 ((rc 87 10 g [PG gc,I 0,I p1,I p2,I p3,I ms,I tt,I ls,sl At nt ct,sl none 0 0])::R) (λv R'=>v= .bool (decide (n<=ms-tt))/\R'=(rc 87 10 g [PG gc,I 0,I p1,I p2,I p3,I ms,I tt,I ls,sl At nt ct,sl none 0 0])::R):=by
 refine fn1 Iz Z Z Z ?_;refine wq<|wn Z<|aC<|wq<|wm Z<|wy (aF Z)<|wy (yF 1 1 ic fD Z)<|wy (yF 0 1 bi sz3 Z)<|wy (yL 0 ai Z Z Z)<|wQ Z Z<|wm Z<|aM Z Z Z Z ?_;refine aM Z Z Z Z<|aM Z Z Z Z<|aM Z Z Z Z<|aM Z Z Z Z<|wy (aO Z Z)<|wm Z<|aB Z Z<|wm Z<|aB Z Z<|wy (aF Z)<|aB Z Z<|wy (yF 1 1 ic fD Z)<|aB Z Z<|wy (yF 0 1 bi sz3 Z)<|aB Z Z ?_;refine wy (yL 0 ai Z Z Z)<|aB Z Z<|wy (Yl.t (fE Z Z) cC)<|aB Z Z<|wm Z<|aB Z Z<|wm Z<|aB Z Z<|wm Z<|aB Z Z<|wy (aF Z)<|aB Z Z<|wy (yF 1 1 ic fD Z)<|aB Z Z<|wy (yF 3 4 bi sz3 Z) ?_;refine aB Z Z<|wy (yL 0 ai Z Z Z)<|aB Z Z<|wy (Yl.f (dE Z Z))<|aB Z Z<|wy (aT Z Z)<|wy (aO Z Z)<|aA<|aJ Z<|aI<|aC<|bI mixed<|wD 0 Z (aK Z)<|wD 1 Z (aK Z)<|wD 2 Z (aF Z) ?_;refine wD 3 Z (yF 5 5 ic sz3 Z)<|wD 4 Z (yL 0 ai Z Z Z)<|wD 5 Z (aK Z)<|wD 6 Z (aF Z)<|wD 7 Z (yF 6 6 ic sz3 Z)<|wD 8 Z (yL 0 ai Z Z Z)<|wD 9 Z (gZ Z Z)<|wD 10 Z (qK Z Z)<|wD 11 Z (bC Z)<|wN<|bN (R1:=((rc 87 10 g [PG gc,I 0,I p1,I p2,I p3,I ms,I tt,I ls,sl At nt ct,sl none 0 0])::R)) hiZ ?_;exact⟨_,Z,Z,Z⟩
theorem aGf (hn:n<=p3) (hb:(-1000000<=ms/\ms<=1000000)/\(0<=tt/\tt<=1000000)):
  CT 158 #[PG g,I n] B w0 ((rc 87 10 g [PG gc,I 1,I p1,I p2,I p3,I ms,I tt,I ls,sl At nt ct,sl none 0 0])::R) (λv R'=>v= .bool (decide (n<=ms-tt))/\R'=(rc 87 10 g [PG gc,I 1,I p1,I p2,I p3,I ms,I tt,I ls,sl At nt ct,sl none 0 0])::R):=by
 refine fn1 Iz Z Z Z ?_;refine wq<|wn Z<|aC<|wq<|wm Z<|wy (aF Z)<|wy (yF 1 1 ic fD Z)<|wy (yF 0 1 bi sz3 Z)<|wy (yL 0 ai Z Z Z)<|wQ Z Z<|wm Z<|aM Z Z Z Z ?_;refine aM Z Z Z Z<|aM Z Z Z Z<|aM Z Z Z Z<|aM Z Z Z Z<|wy (aO Z Z)<|wm Z<|aB Z Z<|wm Z<|aB Z Z<|wy (aF Z)<|aB Z Z<|wy (yF 1 1 ic fD Z)<|aB Z Z<|wy (yF 0 1 bi sz3 Z)<|aB Z Z ?_;refine wy (yL 0 ai Z Z Z)<|aB Z Z<|wy (Yl.t (fE Z Z) cC)<|aB Z Z<|wm Z<|aB Z Z<|wm Z<|aB Z Z<|wm Z<|aB Z Z<|wy (aF Z)<|aB Z Z<|wy (yF 1 1 ic fD Z)<|aB Z Z<|wy (yF 3 4 bi sz3 Z) ?_;refine aB Z Z<|wy (yL 0 ai Z Z Z)<|aB Z Z<|wy (Yl.f (dE Z Z))<|aB Z Z<|wy (aT Z Z)<|wy (aO Z Z)<|aA<|aJ Z<|aI<|aC<|bI mixed<|wD 0 Z (aK Z)<|wD 1 Z (aK Z)<|wD 2 Z (aF Z) ?_;refine wD 3 Z (yF 5 5 ic sz3 Z)<|wD 4 Z (yL 0 ai Z Z Z)<|wD 5 Z (aK Z)<|wD 6 Z (aF Z)<|wD 7 Z (yF 6 6 ic sz3 Z)<|wD 8 Z (yL 0 ai Z Z Z)<|wD 9 Z (gZ Z Z)<|wD 10 Z (qK Z Z)<|wD 11 Z (bC Z)<|wN<|bN (R1:=((rc 87 10 g [PG gc,I 1,I p1,I p2,I p3,I ms,I tt,I ls,sl At nt ct,sl none 0 0])::R)) hiZ ?_;exact⟨_,Z,Z,Z⟩
theorem aGe (hn:n<=p3) (hb:(-1000000<=ms/\ms<=1000000)/\(0<=tt/\tt<=1000000)):
  CT 158 #[PG g,I n] B w0 ((rc 87 10 g [PG gc,I 2,I p1,I p2,I p3,I ms,I tt,I ls,sl At nt ct,sl none 0 0])::R) (λv R'=>v= .bool (decide (n<=ms-tt))/\R'=(rc 87 10 g [PG gc,I 2,I p1,I p2,I p3,I ms,I tt,I ls,sl At nt ct,sl none 0 0])::R):=by
 refine fn1 Iz Z Z Z ?_;refine wq<|wn Z<|aC<|wq<|wm Z<|wy (aF Z)<|wy (yF 1 1 ic fD Z)<|wy (yF 0 1 bi sz3 Z)<|wy (yL 0 ai Z Z Z)<|wQ Z Z<|wm Z<|aM Z Z Z Z ?_;refine aM Z Z Z Z<|aM Z Z Z Z<|aM Z Z Z Z<|aM Z Z Z Z<|wy (aO Z Z)<|wm Z<|aB Z Z<|wm Z<|aB Z Z<|wy (aF Z)<|aB Z Z<|wy (yF 1 1 ic fD Z)<|aB Z Z<|wy (yF 0 1 bi sz3 Z)<|aB Z Z ?_;refine wy (yL 0 ai Z Z Z)<|aB Z Z<|wy (Yl.t (fE Z Z) cC)<|aB Z Z<|wm Z<|aB Z Z<|wm Z<|aB Z Z<|wm Z<|aB Z Z<|wy (aF Z)<|aB Z Z<|wy (yF 1 1 ic fD Z)<|aB Z Z<|wy (yF 3 4 bi sz3 Z) ?_;refine aB Z Z<|wy (yL 0 ai Z Z Z)<|aB Z Z<|wy (Yl.f (dE Z Z))<|aB Z Z<|wy (aT Z Z)<|wy (aO Z Z)<|aA<|aJ Z<|aI<|aC<|bI mixed<|wD 0 Z (aK Z)<|wD 1 Z (aK Z)<|wD 2 Z (aF Z) ?_;refine wD 3 Z (yF 5 5 ic sz3 Z)<|wD 4 Z (yL 0 ai Z Z Z)<|wD 5 Z (aK Z)<|wD 6 Z (aF Z)<|wD 7 Z (yF 6 6 ic sz3 Z)<|wD 8 Z (yL 0 ai Z Z Z)<|wD 9 Z (gZ Z Z)<|wD 10 Z (qK Z Z)<|wD 11 Z (bC Z)<|wN<|bN (R1:=((rc 87 10 g [PG gc,I 2,I p1,I p2,I p3,I ms,I tt,I ls,sl At nt ct,sl none 0 0])::R)) hiZ ?_;exact⟨_,Z,Z,Z⟩
theorem aOn:
  CT 159 #[PG g,I n] B w0 ((rc 87 10 g [PG gc,I 0,I p1,I p2,I p3,I ms,I tt,I ls,sl At nt ct,sl none 0 0])::R) (λv R'=>v= .tuple #[sl none 0 0,bt]/\R'=(rc 87 10 g [PG gc,I 0,I p1,I p2,I p3,I ms,I tt,I ls,sl At nt ct,sl none 0 0])::R):=by
 refine fn2 Ja Z Z Z ?_;refine wq<|wg Z<|wn Z<|aC<|wq<|wm Z<|wy (aF Z)<|wy (yF 1 1 ic fD Z)<|wy (yF 0 1 bi sz3 Z)<|wy (yL 0 ai Z Z Z)<|aA<|aH ?_;refine wq<|wQ Z Z<|wn Z<|aJ Z<|wq<|wQ Z Z<|wn Z<|aJ Z<|aI<|wq ?_;refine wg Z<|wn Z<|bN (R1:=((rc 87 10 g [PG gc,I 0,I p1,I p2,I p3,I ms,I tt,I ls,sl At nt ct,sl none 0 0])::R)) hiZ ?_;refine⟨_,_,Z,Z,?_⟩;exact⟨Z,Z⟩
theorem aOl:
  CT 159 #[PG g,I n] B w0 ((rc 87 10 g [PG gc,I 2,I p1,I p2,I p3,I ms,I tt,I ls,sl At nt ct,sl none 0 0])::R) (λv R'=>v= .tuple #[sl none 0 0,bt]/\R'=(rc 87 10 g [PG gc,I 2,I p1,I p2,I p3,I ms,I tt,I ls,sl At nt ct,sl none 0 0])::R):=by
 refine fn2 Ja Z Z Z ?_;refine wq<|wg Z<|wn Z<|aC<|wq<|wm Z<|wy (aF Z)<|wy (yF 1 1 ic fD Z)<|wy (yF 0 1 bi sz3 Z)<|wy (yL 0 ai Z Z Z)<|aA<|aH ?_;refine wq<|wQ Z Z<|wn Z<|aJ Z<|wq<|wQ Z Z<|wn Z<|aJ Z<|aI<|wq ?_;refine wg Z<|wn Z<|bN (R1:=((rc 87 10 g [PG gc,I 2,I p1,I p2,I p3,I ms,I tt,I ls,sl At nt ct,sl none 0 0])::R)) hiZ ?_;refine⟨_,_,Z,Z,?_⟩;exact⟨Z,Z⟩
theorem aOm {at_:Int} (ac:RdC B w0 R0 ap ar ao 1 (ints .u8 u)) (ce:ar=u.length) (hN:u.length<=1000000) (an:aP u) (rg:0<=at_/\at_<=n/\n<=1000000) (hu:u=bL at_++t):
  CT 159 #[PG g,I n] B w0 ((rc 87 10 g [PG gc,I 1,I p1,I p2,I p3,I ms,I tt,I ls,sl At nt ct,sl none 0 0])::(rc 146 1 gc [sl ap ar ao])::(X++R0)) (λv R'=> ∃(A8:AF),∃(A9:AF) (c9:Nat),RdC B w0 R0 A9 (t).length c9 1 (ints .u8 (t))/\v= .tuple #[sl A8 1 1,bt]/\R'=(ri 3 A8 1 1 ([at_]))::(rc 87 10 g [PG gc,I 1,I p1,I p2,I p3,I ms,I tt,I ls,sl At nt ct,sl none 0 0])::(rc 146 1 gc [sl A9 ((t).length) c9])::(X++R0)):=by
 subst ce;refine fn2 Ja Z Z Z ?_;refine wq<|wg Z<|wn Z<|aC<|wq<|wm Z<|wy (aF Z)<|wy (yF 1 1 ic fD Z)<|wy (yF 0 1 bi sz3 Z)<|wy (yL 0 ai Z Z Z)<|aA<|aH ?_;refine wq<|wR Z Z<|wn Z<|bE Z<|wq<|wm Z<|wa (aD aPy Z ((CR (X:=([]++X)) (R0:=R0) (at_) (t) ac Z G cF G hu))) ?_;rintro _ _⟨bm,bl,se,rfl,rfl⟩;refine wm Z<|wX Z Z<|wX Z Z<|wg Z<|wn Z<|wq<|wm Z<|wa (bH .i64 [at_] aa zs3 Z Z Z) ?_;rintro _ _⟨kx,rfl,rfl⟩;refine wm Z<|wm Z<|aB Z Z<|wm Z<|aB Z Z<|wm Z<|aB Z Z<|wy (Yl.t (qK Z Z) G)<|wy (aT Z Z)<|wg Z<|wn Z<|bN (R1:=((ri 3 (GG kx) 1 1 ([at_]))::(rc 87 10 g [PG gc,I 1,I p1,I p2,I p3,I ms,I tt,I ls,sl At nt ct,sl none 0 0])::(rc 146 1 gc [sl bm ((t).length) bl])::(X++R0))) hiZ ?_;refine⟨_,_,Z,Z,?_⟩;exact⟨_,_,_,se,Z,Z⟩
theorem FO {l:AH} (ac:RdC B w0 R0 ap ar ao 1 (ints .u8 u)) (ce:ar=u.length) (hN:u.length<=1000000) (an:aP u) (hx:0<=x/\x<4294967296) (ph:p2=0\/p2=1) (d4:aP l) (hl:(l.length:Int)=n/\l.length<=100000) (hu:u=bL ((bY l p2).length:Int)++(fP x++(bY l p2++t))):
  CT 160 #[PG g,I n] B w0 ((rc 87 10 g [PG gc,I p0,I p1,I p2,I p3,I ms,I tt,I ls,sl At nt ct,sl none 0 0])::(rc 146 1 gc [sl ap ar ao])::(X++R0)) (λv R'=> ∃(A8:AF) (c8:Nat),∃(A9:AF) (c9:Nat),RdC B w0 R0 A9 (t).length c9 1 (ints .u8 (t))/\v= .tuple #[.int .u32 x,sl A8 l.length c8,bt]/\R'=(ru 5 A8 l.length c8 l)::(rc 87 10 g [PG gc,I p0,I p1,I p2,I p3,I ms,I tt,I ls,sl At nt ct,sl none 0 0])::(rc 146 1 gc [sl A9 ((t).length) c9])::(X++R0)):=by
 subst ce;have a7:=bq List.length hu;simp only[ah] at a7;have ux:(fP x).length=4:=rfl;have Nb:=an;rw[hu] at Nb;refine fn3 Tryz.func160 Z Z Z ?_;refine wq<|wg Z<|wg Z<|wn Z<|wq<|wm Z<|wa (aD aPy Z ((CR (X:=([]++X)) (R0:=R0) (((bY l p2).length:Int)) (fP x++(bY l p2++t)) ac Z G cF G hu))) ?_;rintro _ _⟨bm,bl,se,rfl,rfl⟩;refine wm Z<|wX Z Z<|wX Z Z<|wg Z<|wn Z<|wq<|wm Z<|wy (aF Z)<|wy (yF 0 0 ic aMn Z)<|wy (yL 0 Ai Z Z Z)<|wa (aD bNj Z (Ct.pick [1,0] 2 cC Z (aWw (X:=([(rc 87 10 g [PG gc,I p0,I p1,I p2,I p3,I ms,I tt,I ls,sl At nt ct,sl none 0 0])]++X)) (R0:=R0) (x:=x) (t:=bY l p2++t) se Z (by simp only[ah];omega) hx Z))) ?_;rintro _ _⟨iu,js,Mj,rfl,rfl⟩;refine wm Z<|wX Z Z<|wX Z Z<|wg Z<|wn Z<|wq<|wm Z<|wy (aF Z)<|wy (yF 0 0 ic aMn Z)<|wy (yL 1 Ai Z Z Z)<|wm Z<|wa (aD aLd Z ((aJf (X:=([(rc 87 10 g [PG gc,I p0,I p1,I p2,I p3,I ms,I tt,I ls,sl At nt ct,sl none 0 0])]++X)) (R0:=R0) (bY l p2) (t) Mj Z (by simp only[ah];omega) Z Z))) ?_;rintro _ _⟨br,bw,fc,dv,Hs,rfl,rfl⟩;refine wm Z<|wX Z Z<|wX Z Z<|wg Z<|wn Z<|aC<|wq<|wm Z<|wy (dI Z)<|wm Z<|aB Z Z<|wm Z<|aB Z Z ?_;refine wy (dI Z)<|wy (aO Z Z)<|wm Z<|aB Z Z<|wm Z<|aB Z Z<|wy (dI Z)<|wy (aO Z Z)<|aA<|aJ Z<|aI<|wq<|wm Z<|wm Z ?_;refine wy (aF Z)<|wy (yF 1 1 ic fD Z)<|wy (yF 2 3 bi sz3 Z)<|wy (yL 2 ai Z Z Z)<|wm Z<|wa (aD bNi Z (Ct.fresh (λw hw=>XZ ((rdr 0 Z) w hw) Z d4 ph hl.2 G))) ?_;rintro _ _⟨_,rfl,ln,co,rfl,rfl⟩;refine wm Z<|wX Z Z<|wX Z Z<|wg Z<|wn Z<|wq<|wm Z<|wm Z<|wm Z<|wm Z<|aB Z Z<|wm Z<|aB Z Z ?_;refine wy (aN af Z)<|aB Z Z<|wm Z<|aB Z Z<|wy (Yl.t (dR Z Z) G)<|wy (aT Z Z)<|wg Z<|wg Z<|wn Z<|aQ [0,3,2] 4 cC Z ?_;refine⟨_,_,_,Z,Z,Z,?_⟩;exact⟨_,_,_,_,Hs,Z,Z⟩
end Go.Proofs.YtdbebmmhdefgdaaGreat
