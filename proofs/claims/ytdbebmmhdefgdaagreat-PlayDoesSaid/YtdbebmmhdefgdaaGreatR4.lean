/- Own work. -/
import Derived.Shelf.Bits.Mul64
import Derived.Test.YtdbebmmhdefgdaaGreatProg
import Derived.Ground.SlsfProg
import Derived.Shelf.SlSortCmp.WholeK
import Derived.Test.YtdbebmmhdefgdaaGreatR3
set_option linter.unusedVariables false
set_option linter.unusedSimpArgs false
namespace Go.Proofs.YtdbebmmhdefgdaaGreat
open Go Go.Eng Go.Pure
open Tryz
set_option maxRecDepth 100000
variable {s:List Int} {w:World} {cr:Option Addr} {gw cq:Nat}
theorem bGc {V:List Int} {h:Nat} (hl:V.length=s.length) (hV: ∀j:Int,0<=j->j<s.length->rd V j=rkS s h j.toNat):V=rkL s h:=
 bQ (hl.trans (AY s h).symm) λj h1 h2=>by rw[qI h1 G];exact hV j h1 G
theorem aMm (bb:Rd w cr gw cq 1 (ints .i64 s)) (hN:s.length<=100000):
  Ct Tryz.prog 297 #[sl cr gw cq] w.heap.size w [] (λv R'=> ∃A c,v=sl A (s.length) c/\R'=[(ri 3 A s.length c (rkL s 1))]):=by
 obtain rfl:=bb.lenI;refine fn1 Tryz.func297 Z Z Z ?_;have xb:=bb.max;refine wq<|wn Z<|wq<|wm Z<|wa (aF bEf Z (PL)) ?_;rintro _ _ ⟨an,rfl,rfl⟩;refine wa (aF bEg Z (Ct.fresh (λw hw=>QB ((bb.c _) w hw) ((rdr 0 Z) w hw) G))) ?_;rintro _ _ ⟨_,rfl,ff,fh,rfl,rfl⟩;refine wn Z<|wq<|wm Z<|wy (aQ aa Z)<|wa (dL aa zb3 Z Z) ?_;rintro _ _ ⟨ka,rfl,rfl⟩;refine bK (v:=sl (GG ka) s.length s.length) Z<|wn Z<|aD<|wq<|wm Z<|wy (aQ aa Z)<|wm Z<|aA<|aH ?_;refine dR (λ(i:Int) (V:List Int)=>[(3,sl ff ((kV s).length) fh),(4,sl (GG ka) s.length s.length),(13,sl cr s.length cq),(14,I ((s.length:Nat):Int)),(15,I i)]) (λi V=>[(ri 3 (GG ka) s.length s.length V),(ri 3 ff ((kV s).length) fh (kV s)),(rc 52 1 an [sl cr s.length cq])]) (λi V=>(0<=i)/\(i<=s.length)/\(V.length=s.length)/\(∀j:Int,0<=j->j<i->rd V j=rkS s 1 j.toNat)) (λi V=>(s.length-i).toNat) ?_ ?_
 ·exact⟨0,List.replicate s.length (0:Int),⟨G,G,(by rw[cz]),(λj h1 h2=>G)⟩,SA,λ_ h=>h⟩
 intro i V ⟨ar,jj,lz,hV⟩;refine wq<|wL Z Z<|aA<|aD<|bF Z (λaq=> ?_) (λaq=> ?_)
 ·refine aL<|aD<|aH<|wq<|wm Z<|wy (aI aa sz3 Z Z (bb.c _))<|wy (aW ak Z Z (bb.c _))<|wg Z<|wn Z<|aN<|wm Z<|wm Z<|wm Z ?_;refine wm Z<|wa (aF bKd Z (aOa Tryz.slices_BinarySearch_int Tryz.slices_BinarySearch_int_empty 1 Z (by rw[(lQ s).length_eq];omega) (AB s))) ?_;rintro _ _ ⟨rfl,rfl⟩;refine wm Z<|wX Z Z<|wX Z Z<|wy (aI aa sz3 Z Z (rdr 0 Z))<|bY (bJ 0 Z sz3 Z Z) ?_;rintro _ _ rfl;refine aA<|aN<|wA Z Z<|wm Z<|aA ?_;exact⟨i+1,upd V i (((kV s).countP λy=>decide (y<rd s i):Nat):Int),⟨G,G,(by rw[bD];exact lz),(eX (f:=λj=>(rkS s 1 j.toNat:Int)) ar G hV (by rw[bFz G,(lQ s).countP_eq];rfl))⟩,G,SA,λ_ h=>h⟩
 ·refine aY<|wq<|wm Z<|wn Z<|aT [0] 99 cC Z ?_;refine⟨_,Z,?_⟩;obtain rfl:V=rkL s 1:=bGc lz (λj h1 h2=>hV j h1 G);exact⟨_,_,Z,Z⟩
set_option maxHeartbeats 400000 in
theorem aEd {h:Int} (bb:Rd w cr gw cq 1 (ints .i64 s)) (h0:0<=h) (hN:s.length<=100000):
  Ct Tryz.prog 268 #[sl cr gw cq,I h] w.heap.size w [] (λv R'=> ∃A c,v=sl A (s.length) c/\R'=[(ri 3 A s.length c (rkL s h.toNat))]):=by
 obtain rfl:=bb.lenI;refine fn1 Tryz.func268 Z Z Z ?_;have xb:=bb.max;refine wq<|wn Z<|aD<|wq<|wm Z<|wL Z Z<|wm Z<|dD 4 [(0,sl cr s.length cq),(1,I h),(14, .bool (decide ((h<0)\/(100000<((s.length:Nat):Int)))))] [] ?_ ?_
 ·refine bV 10 Z (λaq=> ?_) (λaq=> ?_)
  ·refine aP Z Z Z Z<|aP Z Z Z Z<|aP Z Z Z Z<|wy (bB Z Z)<|aA ?_;exact⟨SA,λ_ h=>h⟩
  ·refine aC Z Z<|wm Z<|aC Z Z<|wy (aQ aa Z)<|aC Z Z<|wy (dJ Z Z)<|wy (aS Z Z)<|aA ?_;exact⟨SA,λ_ h=>h⟩
 refine pI 14 Z G<|aA<|aJ Z<|aL<|wq<|wm Z<|wy (aQ aa Z)<|wa (dL aa zb3 Z Z) ?_;rintro _ _ ⟨cm,rfl,rfl⟩;refine bK (v:=sl (GG cm) s.length s.length) Z<|wn Z<|aD<|wq<|wm Z<|wy (aX Z Z)<|aA<|bF Z (λce=> ?_) (λce=> ?_)
 ·refine wq<|wm Z<|wn Z<|aT [0] 99 cC Z ?_;refine⟨_,Z,?_⟩;have e:h.toNat=0:=G
  rw[e,aRx];exact⟨_,_,Z,Z⟩
 ·refine aL<|wq<|wm Z<|wa (aF bKn Z (Ct.fresh (λw hw=>aMm ((bb.c _) w hw) cE))) ?_;rintro _ _ ⟨_,rfl,ir,iu,rfl,rfl⟩;refine wn Z<|wq<|wm Z<|wm Z<|wy (aQ aa Z)<|wy (rV Z Z)<|wn Z<|aD<|wq<|wn Z ?_;refine aH ?_;refine HZ (λ(n:Int) (A1:Option Addr) (c1:Nat) (L:List Int)=>[(1,I (min h ((s.length:Nat):Int))),(5,sl A1 s.length c1),(6,I n)]) (λn A1 c1 L=>[(ri 3 A1 s.length c1 L),(ri 3 (GG cm) s.length s.length (List.replicate s.length (0:Int)))]) (λn A1 c1 L=>(1<=n)/\(n=1\/n<=min h (s.length:Int))/\(L=rkL s n.toNat)) (λn A1 c1 L=>(min h (s.length:Int)-n).toNat) ?_ ?_
  ·exact⟨1,ir,iu,rkL s 1,⟨G,G,(Z)⟩,SA,λ_ h=>h⟩
  intro n A1 c1 L ⟨co,sf,hL⟩;refine aD<|wq<|wm Z<|wm Z<|wL Z Z<|aA<|bF Z (λfj=> ?_) (λfj=> ?_)
  ·refine aL<|aH<|wq<|wm Z<|wm Z<|wm Z<|wS Z Z<|wy (rV Z Z)<|wn Z<|wq<|wm Z<|wm Z ?_;refine wa (aF bKm Z (Ct.fresh (λw hw=>aNm (s:=s) (n:=n.toNat) (b:=(min n (min h (s.length:Int)-n)).toNat) ((rdr 0 Z) w hw) hL G G G ⟨hN,G⟩))) ?_;rintro _ _ ⟨_,rfl,kh,mn,bo,bp,rfl,rfl⟩;refine wm Z<|wX Z Z<|wX Z Z<|wn Z<|aN<|wm Z<|wm Z<|wA Z Z<|wn Z ?_;exact⟨n+(min n ((min h ((s.length:Nat):Int))-n)),kh,mn,rkL s (n.toNat+(min n (min h (s.length:Int)-n)).toNat),⟨G,G,(by congr 1;omega)⟩,G,SA,λ_ h=>h.sel [0,3] cC Z⟩
  ·refine aY<|wq<|wm Z<|wn Z<|aT [0] 99 cC Z ?_;refine⟨_,Z,?_⟩
   have e:rkL s n.toNat=rkL s h.toNat:=by
    rcases dz s.length with z|z
    ·exact aRy z _ _
    ·rcases bi h s.length with a|a
     ·rw[show n.toNat=h.toNat by omega]
     ·rw[bGb (h:=h.toNat) G,show n.toNat=s.length by omega]
   rw[hL,e];exact⟨_,_,Z,Z⟩
theorem aNq {s:List Int} {k:Int} (bb:Rd w cr gw cq 1 (ints .i64 s)) (dg:(0<=k/\k<=1048576)/\ ∀x∈s,0<=x/\x<k) (hN:s.length<=100000):
  Ct Tryz.prog 221 #[sl cr gw cq,I k] w.heap.size w [] (λv R'=> ∃(out:List Int) (A:Option Addr) (c:Nat),v= .tuple #[sl A s.length c,I 0]/\out.length=s.length/\(∀q:Nat,q<s.length->rd out (rkS s s.length q)=q)/\R'=[(ri 3 A s.length c out)]):=by
 obtain rfl:=bb.lenI;refine fn2 Tryz.func221 Z Z Z ?_;have xb:=bb.max;refine wq<|wg Z<|wn Z<|aD<|wq<|wm Z<|wy (aQ aa Z)<|wy (Yl.f (dJ Z Z))<|aA<|aJ Z<|aL<|aD ?_;refine wq<|wm Z<|wm Z<|wa (aF aAy Z (Ct.fresh (λw hw=>oP ((bb.c _) w hw) cE))) ?_;rintro _ _ ⟨_,rfl,bm,bl,rfl,rfl⟩;refine wm Z<|wX Z Z<|wX Z Z<|wg Z<|wn Z<|wq<|wm Z<|wy (dU Z)<|aA<|aJ Z<|aL<|wq ?_;refine wm Z<|wy (aQ aa Z)<|wa (dL aa zb3 Z Z) ?_;rintro _ _ ⟨gg,rfl,rfl⟩;refine bK (v:=sl (GG gg) s.length s.length) Z<|wn Z<|aD<|wq<|wm Z<|wm Z<|wy (aQ aa Z)<|wa (aF bLa Z (Ct.fresh (λw hw=>aEd ((bb.c _) w hw) G cE))) ?_;rintro _ _ ⟨_,rfl,fb,kt,rfl,rfl⟩;refine wy (aQ aa Z)<|wm Z<|aA<|aH ?_;refine dR (λ(i:Int) (V:List Int)=>[(8,sl (GG gg) s.length s.length),(28,sl fb ((s).length) kt),(29,I (((s).length:Nat):Int)),(30,I i)]) (λi V=>[(ri 3 fb ((s).length) kt (rkL s (((s.length:Nat):Int)).toNat)),(ri 3 (GG gg) s.length s.length V),(ri 3 bm ((k).toNat) bl (eD s k))]) (λi V=>(0<=i)/\(i<=s.length)/\(V.length=s.length)/\(∀q:Nat,(q:Int)<i->rd V (rkS s s.length q)=q)) (λi V=>(s.length-i).toNat) ?_ ?_
 ·exact⟨0,List.replicate s.length (0:Int),⟨G,G,(by rw[cz]),(λq h=>G)⟩,SA,λ_ h=>h⟩
 intro i V ⟨ar,jj,lz,hV⟩;refine wq<|wL Z Z<|aA<|aD<|bF Z (λaq=> ?_) (λaq=> ?_)
 ·have hr:rd (rkL s ((s.length:Nat):Int).toNat) i=(rkS s s.length i.toNat:Int):=by rw[cu];exact qI ar G
  have ht:=AU (s:=s) (h:=s.length) (i:=i.toNat) G;refine aL<|aD<|aH<|wq<|wm Z<|wy (aI aa sz3 Z Z (rdr 0 Z))<|wy (aW ak Z Z (rdr 0 Z))<|wg Z<|wn Z<|aN<|wm Z<|wm Z<|wm Z ?_;refine wy (aI aa sz3 Z Z (rdr 1 Z) (by rw[hr];omega) (by rw[hr];omega)) ?_;refine bY (bJ 1 Z sz3 Z Z (by rw[hr];omega) (by rw[hr];omega)) ?_;rintro _ _ rfl;refine aA<|aN<|wA Z Z<|wm Z<|aA ?_
  exact⟨i+1,upd V (rd (rkL s (((s.length:Nat):Int)).toNat) i) i,⟨G,G,(by rw[bD];exact lz),(λq h=>by
    rw[hr];have:=YT (m:=i.toNat) G lz (λq h=>hV q G) q G
    rwa[show((i.toNat:Nat):Int)=i by omega] at this)⟩,G,SA,λ_ h=>h⟩
 ·refine aY<|wq<|wm Z<|wg Z<|wn Z<|aT [1] 99 cC Z ?_;refine⟨_,_,Z,Z,?_⟩;exact⟨V,_,_,Z,lz,λq h=>hV q G,Z⟩
theorem aGl {ap:Option Addr} {aw ao:Nat} {u:List Int} (al:Rd w ap aw ao 1 (ints .u8 u)) (am:aR u) (hN:u.length<=100000):
  Ct Tryz.prog 148 #[sl ap aw ao] w.heap.size w [] (λv R'=> ∃(out:List Int) (A:Option Addr) (c:Nat),v= .tuple #[sl A u.length c,I 0]/\out.length=u.length/\(∀q:Nat,q<u.length->rd out (rkS u u.length q)=q)/\R'=[(ri 3 A u.length c out)]):=by
 obtain rfl:=al.lenI;refine fn2 Tryz.func148 Z Z Z ?_;have mj:=al.max;refine wq<|wg Z<|wn Z<|aD<|wq<|wm Z<|wy (aQ af Z)<|wy (Yl.f (dJ Z Z))<|aA<|aJ Z<|aL<|aD ?_;refine aN<|wm Z<|wy (aQ af Z)<|wa (dL aa zb3 Z Z) ?_;rintro _ _ ⟨an,rfl,rfl⟩;refine bK (v:=sl (GG an) u.length u.length) Z<|wn Z<|aD<|wq<|wm Z<|wy (aQ af Z)<|wm Z<|aA<|aH ?_;refine dR (λ(i:Int) (V:List Int)=>[(4,sl (GG an) u.length u.length),(13,sl ap u.length ao),(14,I ((u.length:Nat):Int)),(15,I i)]) (λi V=>[(ri 3 (GG an) u.length u.length V)]) (λi V=>(0<=i)/\(i<=u.length)/\(V.length=u.length)/\(∀j:Int,0<=j->j<i->rd V j=rd u j)) (λi V=>(u.length-i).toNat) ?_ ?_
 ·exact⟨0,List.replicate u.length (0:Int),⟨G,G,(by rw[cz]),(λj h1 h2=>G)⟩,SA,λ_ h=>h⟩
 intro i V ⟨ar,jj,lz,hV⟩;refine wq<|wL Z Z<|aA<|aD<|bF Z (λaq=> ?_) (λaq=> ?_)
 ·have sm:=am.rd i;refine aL<|aD<|aH<|wq<|wm Z<|wy (aI af sz5 Z Z (al.c _))<|wy (aW bg Z Z (al.c _))<|wg Z<|wn Z<|aN<|wm Z<|wm Z<|wm Z ?_;refine wy (iF bg ak Z)<|wy (aI aa sz3 Z Z (rdr 0 Z))<|bY (bJ 0 Z sz3 Z Z) ?_;rintro _ _ rfl;refine aA<|aN<|wA Z Z<|wm Z<|aA ?_;exact⟨i+1,upd V i (rd u i),⟨G,G,(by rw[bD];exact lz),(eX (f:=λj=>rd u j) ar G hV Z)⟩,G,SA,λ_ h=>h⟩
 ·have Rh:V=u:=bQ lz (λj h1 h2=>hV j h1 G);refine aY<|wq<|wm Z<|wa (aF bLq Z (Ct.fresh (λw hw=>aNq ((rdr 0 Z) w hw) ⟨G,λx hx=>by rw[Rh] at hx;have:=am x hx;omega⟩ G))) ?_;rintro _ _ ⟨_,rfl,o1,eh,es,rfl,Cl,Fd,rfl⟩;refine wX Z Z<|wX Z Z<|wg Z<|wn Z<|aT [0] 99 cC Z ?_;refine⟨_,_,Z,Z,?_⟩;subst Rh;exact⟨o1,_,_,Z,Cl,Fd,Z⟩
variable {w:World} {ap:Option Addr} {aw ao:Nat} {u:List Int}
theorem aCv {pe:Option Addr} {rn pf:Nat} {t:List Int} (al:Rd w ap aw ao 1 (ints .i64 u)) (se:Rd w pe rn pf 1 (ints .i64 t)):
  Ct Tryz.prog 262 #[sl ap aw ao,sl pe rn pf] w.heap.size w [] (λv R'=>v=I (cmpL u t)):=by
 obtain rfl:=al.lenI;obtain rfl:=se.lenI;refine fn1 Tryz.func262 Z Z Z ?_;have mj:=al.max;have Vl:=se.max;refine wq<|wn Z<|aD<|wq<|wn Z<|aH ?_;refine jD (λ(i:Int)=>[(0,sl ap u.length ao),(1,sl pe t.length pf),(5,I i)]) (λi=>[]) (λi=>(0<=i)/\(i<=u.length)/\(i<=t.length)/\(cmpL u t=cmpL (u.drop i.toNat) (t.drop i.toNat))) (λi=>(u.length-i).toNat) ?_ ?_
 ·exact⟨0,⟨G,G,G,cD⟩,SA,λ_ h=>h⟩
 intro i ⟨ar,Oe,hit,hc⟩;refine aD<|wq<|wm Z<|wm Z<|wy (aQ aa Z)<|wL Z Z<|wm Z<|dD 5 [(0,sl ap u.length ao),(1,sl pe t.length pf),(5,I i),(15, .bool (decide ((i<((u.length:Nat):Int))/\(i<((t.length:Nat):Int)))))] [] ?_ ?_
 ·refine bV 10 Z (λaq=> ?_) (λaq=> ?_)
  ·refine aC Z Z<|wm Z<|aC Z Z<|wm Z<|aC Z Z<|wy (aQ aa Z)<|aC Z Z<|wL Z Z<|wy (bB Z Z)<|aA ?_;exact⟨SA,λ_ h=>h⟩
  ·refine aP Z Z Z Z<|aP Z Z Z Z<|aP Z Z Z Z<|aP Z Z Z Z<|wy (aS Z Z)<|aA ?_;exact⟨SA,λ_ h=>h⟩
 refine aA<|bF Z (λce=> ?_) (λce=> ?_)
 ·refine aL<|aD<|aH<|aD<|aD<|bP mixed<|wD 0 Z (aM Z)<|wD 1 Z (aM Z)<|wD 2 Z (aI aa sz3 Z Z (al.c _))<|wD 3 Z (aW ak Z Z (al.c _))<|wD 4 Z (aM Z)<|wD 5 Z (aM Z)<|wD 6 Z (aI aa sz3 Z Z (se.c _))<|wD 7 Z (aW ak Z Z (se.c _))<|wD 8 Z (eG Z Z) ?_;refine wN<|bF Z (λfj=> ?_) (λfj=> ?_)
  ·refine wq<|wn Z<|bW ?_;refine⟨_,Z,?_⟩;exact bq (Value.int .i64) (by rw[hc,qA ar G G,df G])
  ·refine aL<|aD<|bP mixed<|wD 0 Z (aM Z)<|wD 1 Z (aM Z)<|wD 2 Z (aI aa sz3 Z Z (al.c _))<|wD 3 Z (aW ak Z Z (al.c _))<|wD 4 Z (aM Z)<|wD 5 Z (aM Z)<|wD 6 Z (aI aa sz3 Z Z (se.c _))<|wD 7 Z (aW ak Z Z (se.c _))<|wD 8 Z (dJ Z Z)<|wN<|bF Z (λkl=> ?_) (λkl=> ?_)
   ·refine wq<|wn Z<|bW ?_;refine⟨_,Z,?_⟩;exact bq (Value.int .i64) (by rw[hc,qA ar G G,bu G,df G])
   ·refine aL<|aN<|wm Z<|wA Z Z<|wn Z ?_;exact⟨i+1,⟨G,G,G,(by rw[hc,qA ar G G,bu G,bu G])⟩,G,SA,λ_ h=>h⟩
 ·refine aY<|aD<|aH<|wq<|wm Z<|wy (aQ aa Z)<|wm Z<|wy (aQ aa Z)<|wL Z Z<|wn Z<|bF Z (λmd=> ?_) (λmd=> ?_)
  ·refine wq<|wn Z<|bW ?_;refine⟨_,Z,?_⟩;exact bq (Value.int .i64) (by rw[hc,sM ar Oe hit G,df G])
  ·refine wq<|wm Z<|wy (aQ aa Z)<|wm Z<|wy (aQ aa Z)<|wy (dJ Z Z)<|wn Z<|bF Z (λvt=> ?_) (λvt=> ?_)
   ·refine wq<|wn Z<|bW ?_;refine⟨_,Z,?_⟩;exact bq (Value.int .i64) (by rw[hc,sM ar Oe hit G,bu G,df G])
   ·refine aL<|wq<|wn Z<|bW ?_;refine⟨_,Z,?_⟩;exact bq (Value.int .i64) (by rw[hc,sM ar Oe hit G,bu G,bu G])
set_option maxHeartbeats 600000 in
theorem aEj {cr:Option Addr} {gw cq:Nat} {s:List Int} (bb:Rd w cr gw cq 1 (ints .i64 s)) (hN:s.length<=1000000):
  Ct Tryz.prog 216 #[sl cr gw cq] w.heap.size w [] (λv R'=> ∃(b:List Int) (A:Option Addr) (c:Nat),v=sl A s.length c/\b.Perm (iota s.length)/\b.Pairwise (bX s)/\R'=[(ri 3 A s.length c b)]):=by
 obtain rfl:=bb.lenI;refine fn1 Tryz.func216 Z Z Z ?_;have xb:=bb.max;refine wq<|wn Z<|wq<|dB (R1:=[(ri 3 none 0 0 ([]))]) (Sub.refl _) (λ_ h=>h.nil 3 1)<|wn Z<|aD<|wq<|wn Z<|aH ?_;refine fH (λ(i:Int) (A1:Option Addr) (n1:Nat) (c1:Nat) (U:List Int)=>[(0,sl cr s.length cq),(3,sl A1 n1 c1),(4,I i)]) (λi A1 n1 c1 U=>[(ri 3 A1 n1 c1 U)]) (λi A1 n1 c1 U=>(0<=i)/\(i<=s.length)/\(n1=U.length)/\(U.Perm (iota i.toNat))/\(U.Pairwise (bX s))) (λi A1 n1 c1 U=>(s.length-i).toNat) ?_ ?_
 ·exact⟨0,none,0,0,[],⟨G,G,(Z),(.refl _),(.nil)⟩,SA,λ_ h=>h⟩
 intro i A1 n1 c1 U ⟨ar,jj,co,hp,hs⟩;have w5:U.length=i.toNat:=by rw[hp.length_eq,bI]
 refine aD<|wq<|wm Z<|wm Z<|wy (aQ aa Z)<|wL Z Z<|aA<|bF Z (λaq=> ?_) (λaq=> ?_)
 ·refine aL<|aD<|aH<|wq<|wm Z<|wy (aQ aa Z)<|wn Z<|aD<|aH ?_;refine jD (λ(j:Int)=>[(0,sl cr s.length cq),(3,sl A1 n1 c1),(4,I i),(5,I j)]) (λj=>[(ri 3 A1 n1 c1 U)]) (λj=>(0<=j)/\(j<=U.length)/\(∀q:Int,j<=q->q<U.length->bX s i (rd U q))) (λj=>j.toNat) ?_ ?_
  ·exact⟨((n1:Nat):Int),⟨G,G,(λq h1 h2=>G)⟩,SA,λ_ h=>h⟩
  intro j ⟨tz,n5,vf⟩;have fi: ∀q:Int,0<=q->q<U.length->0<=rd U q/\rd U q<i.toNat:=λq h1 h2=>bE.1 (hp.subset (bN h1 h2));have hmj:0<j->0<=rd U (j-1)/\rd U (j-1)<s.length:=λh=>by have:=fi (j-1) G G;omega
  refine aD ?_;refine tL [(0,sl cr s.length cq),(3,sl A1 n1 c1),(4,I i),(5,I j),(29, .bool (decide ((0<j)/\((cmpL ((s).drop (i).toNat) ((s).drop (rd U (j-1)).toNat))<0))))] [(ri 3 A1 n1 c1 U)] ?_ ?_
  ·refine bP mixed<|wD 0 Z (aM Z)<|wD 1 Z (dJ Z Z)<|wD 2 Z (aM Z)<|oF 16 Z (λce=> ?_) (λce=> ?_)
   ·refine wG 3 Z Z Z (aM Z)<|wG 4 Z Z Z (aM Z)<|wG 5 Z Z Z (dK aa sz3 Z Z)<|wG 6 Z Z Z (aM Z)<|wG 7 Z Z Z (aM Z)<|wG 8 Z Z Z (aM Z)<|wG 9 Z Z Z (iK Z Z)<|wG 10 Z Z Z (aI aa sz3 Z Z (rdr 0 Z))<|wG 11 Z Z Z (aW ak Z Z (rdr 0 Z))<|wG 12 Z Z Z (dK aa sz3 Z Z (by have:=fi (j-1) G G;omega) (by have:=fi (j-1) G G;omega)) ?_;refine WH 13 Z cA Z Z Z (aF bLd Z (Ct.quiet (λw hw=>aCv ((RdC.fromI (bb.c _) G) w hw) ((RdC.fromI (bb.c _) G) w hw)))) ?_;rintro _ _ ⟨rfl,rfl⟩;refine⟨.inr λ_ h=>h,?_⟩;refine wG 14 Z Z Z (eG Z Z)<|wD 15 Z (bB Z Z)<|wN ?_;exact⟨SA,λ_ h=>h⟩
   ·refine wO 3 Z Z Z<|wO 4 Z Z Z<|wO 5 Z Z Z<|wO 6 Z Z Z<|wO 7 Z Z Z<|wO 8 Z Z Z<|wO 9 Z Z Z<|wO 10 Z Z Z<|wO 11 Z Z Z<|wO 12 Z Z Z<|wO 13 Z Z Z<|wO 14 Z Z Z<|wD 15 Z (aS Z Z)<|wN ?_;exact⟨SA,λ_ h=>h⟩
  refine bF Z (λfj=> ?_) (λfj=> ?_)
  ·have Rz:=aNr (s:=s) vf fj;refine aL<|aH<|aN<|wm Z<|wS Z Z<|wn Z ?_;exact⟨j-1,⟨G,G,(Rz)⟩,G,SA,λ_ h=>h⟩
  ·have sq:=aUw (s:=s) ar G hp hs tz n5 vf fj;refine aY<|bP mixed<|wD 1 Z (aM Z)<|wD 2 Z (aM Z)<|wD 3 Z (dO aa sz3 Z Z (rdr 0 Z))<|wD 5 Z (aM Z)<|wD 8 Z (aM Z)<|wD 9 Z (aM Z)<|wD 10 Z (dK aa sz3 Z Z)<|TA 0 6 cA ?_ ?_
   ·refine XC 0 Z Z (bL .i64 [] aa zs3 Z Z Z) ?_;rintro _ _ ⟨cm,rfl,rfl⟩;refine⟨.inr λ_ h=>h.right (R':=[_]),?_⟩;refine TA 4 6 cA ?_ ?_
    ·refine XC 4 Z Z (aV 0 Z aa zb3 Z Z Z (RdC.toI (h:=(j).toNat) (rdr 1 Z) cG)) ?_;rintro _ _ ⟨ff,fh,rfl,rfl⟩;refine⟨.inl cA,?_⟩;refine iJ (v:=sl ff (0+((j).toNat)) fh) Z<|wC 6 Z (bL .i64 [i] aa zs3 Z Z Z) ?_;rintro _ _ ⟨js,rfl,rfl⟩;refine⟨.inr λ_ h=>h.right (R':=[_]),?_⟩;refine wC 7 Z (aV 1 Z aa zb3 Z Z Z (rdr 0 Z)) ?_;rintro _ _ ⟨du,dp,rfl,rfl⟩;refine⟨.inl cA,?_⟩;refine iJ (v:=sl du ((0+((j).toNat))+1) dp) Z<|wC 11 Z (aV 1 Z aa zb3 Z Z Z (RdC.fromI (rdr 2 Z) cG)) ?_;rintro _ _ ⟨dr,bh,rfl,rfl⟩;refine⟨.inl cA,?_⟩;refine iJ (v:=sl dr (((0+((j).toNat))+1)+(n1-(j).toNat)) bh) Z<|wD 12 Z (bG Z)<|wN<|aN<|wm Z<|wA Z Z<|wn Z ?_;exact⟨i+1,dr,((0+((j).toNat))+1)+(n1-(j).toNat),bh,((([])++((U).take (j).toNat))++([i]))++((U).drop (j).toNat),⟨G,G,(by simp only[ah,ax,ay,dh,jl];omega),(sq.1),(sq.2)⟩,G,SA,λ_ h=>h.sel [1] cC Z⟩
    ·refine XC 6 Z Z (bL .i64 [i] aa zs3 Z Z Z) ?_;rintro _ _ ⟨jp,rfl,rfl⟩;refine⟨.inr λ_ h=>h.right (R':=[_]),?_⟩;refine wC 4 Z (aV 1 Z aa zb3 Z Z Z (RdC.toI (h:=(j).toNat) (rdr 2 Z) cG)) ?_;rintro _ _ ⟨fd,fg,rfl,rfl⟩;refine⟨.inl cA,?_⟩;refine iJ (v:=sl fd (0+((j).toNat)) fg) Z<|wC 7 Z (aV 1 Z aa zb3 Z Z Z (rdr 0 Z)) ?_;rintro _ _ ⟨fm,uv,rfl,rfl⟩;refine⟨.inl cA,?_⟩;refine iJ (v:=sl fm ((0+((j).toNat))+1) uv) Z<|wC 11 Z (aV 1 Z aa zb3 Z Z Z (RdC.fromI (rdr 2 Z) cG)) ?_;rintro _ _ ⟨un,fz,rfl,rfl⟩;refine⟨.inl cA,?_⟩;refine iJ (v:=sl un (((0+((j).toNat))+1)+(n1-(j).toNat)) fz) Z<|wD 12 Z (bG Z)<|wN<|aN<|wm Z<|wA Z Z<|wn Z ?_;exact⟨i+1,un,((0+((j).toNat))+1)+(n1-(j).toNat),fz,((([])++((U).take (j).toNat))++([i]))++((U).drop (j).toNat),⟨G,G,(by simp only[ah,ax,ay,dh,jl];omega),(sq.1),(sq.2)⟩,G,SA,λ_ h=>h.sel [1] cC Z⟩
   ·refine XC 6 Z Z (bL .i64 [i] aa zs3 Z Z Z) ?_;rintro _ _ ⟨Ks,rfl,rfl⟩;refine⟨.inr λ_ h=>h.right (R':=[_]),?_⟩;refine wC 0 Z (bL .i64 [] aa zs3 Z Z Z) ?_;rintro _ _ ⟨Kt,rfl,rfl⟩;refine⟨.inr λ_ h=>h.right (R':=[_]),?_⟩;refine wC 4 Z (aV 0 Z aa zb3 Z Z Z (RdC.toI (h:=(j).toNat) (rdr 2 Z) cG)) ?_;rintro _ _ ⟨Kh,Km,rfl,rfl⟩;refine⟨.inl cA,?_⟩;refine iJ (v:=sl Kh (0+((j).toNat)) Km) Z<|wC 7 Z (aV 0 Z aa zb3 Z Z Z (rdr 1 Z)) ?_;rintro _ _ ⟨Vp,Vw,rfl,rfl⟩;refine⟨.inl cA,?_⟩;refine iJ (v:=sl Vp ((0+((j).toNat))+1) Vw) Z<|wC 11 Z (aV 0 Z aa zb3 Z Z Z (RdC.fromI (rdr 2 Z) cG)) ?_;rintro _ _ ⟨Qh,Qr,rfl,rfl⟩;refine⟨.inl cA,?_⟩;refine iJ (v:=sl Qh (((0+((j).toNat))+1)+(n1-(j).toNat)) Qr) Z<|wD 12 Z (bG Z)<|wN<|aN<|wm Z<|wA Z Z<|wn Z ?_;exact⟨i+1,Qh,((0+((j).toNat))+1)+(n1-(j).toNat),Qr,((([])++((U).take (j).toNat))++([i]))++((U).drop (j).toNat),⟨G,G,(by simp only[ah,ax,ay,dh,jl];omega),(sq.1),(sq.2)⟩,G,SA,λ_ h=>h.sel [0] cC Z⟩
 ·refine aY<|wq<|wm Z<|wn Z<|aT [0] 99 cC Z ?_;refine⟨_,Z,?_⟩;obtain rfl:n1=s.length:=G
  exact⟨U,_,_,Z,by have e:i.toNat=s.length:=G;rw[<-e];exact hp,hs,rfl⟩
theorem UN (al:Rd w ap aw ao 1 (ints .u8 u)) (am:aR u) (hN:u.length<=1000000):
  Ct Tryz.prog 217 #[sl ap aw ao] w.heap.size w [] (λv R'=> ∃A c,v=sl A (u).length c/\R'=[(ri 3 A ((u).length) c (u))]):=by
 obtain rfl:=al.lenI;refine fn1 Tryz.func217 Z Z Z ?_;have mj:=al.max;refine wq<|wn Z<|wq<|dB (R1:=[(ri 3 none 0 0 ([]))]) (Sub.refl _) (λ_ h=>h.nil 3 1)<|wn Z<|aD<|wq<|wn Z<|aH ?_;refine fH (λ(A1:Option Addr) (n1:Nat) (c1:Nat) (acc:List Int) (i:Int)=>[(0,sl ap u.length ao),(3,sl A1 n1 c1),(4,I i)]) (λA1 n1 c1 acc i=>[(ri 3 A1 n1 c1 acc)]) (λA1 n1 c1 acc i=>(n1=acc.length)/\(0<=i)/\(i<=u.length)/\(acc=u.take i.toNat)) (λA1 n1 c1 acc i=>(u.length-i).toNat) ?_ ?_
 ·exact⟨none,0,0,[],0,⟨(Z),G,G,(Z)⟩,SA,λ_ h=>h⟩
 intro A1 n1 c1 acc i ⟨co,ar,jj,ba⟩;refine aD<|wq<|wm Z<|wm Z<|wy (aQ af Z)<|wL Z Z<|aA<|bF Z (λaq=> ?_) (λaq=> ?_)
 ·have sm:=am.rd i;refine aL<|aD<|aH<|aN<|wm Z<|wm Z<|wm Z<|wy (aI af sz5 Z Z (al.c _))<|wy (aW bg Z Z (al.c _))<|wy (iF bg ak Z)<|wa (bL .i64 [rd u i] aa zs3 Z Z Z) ?_;rintro _ _ ⟨cm,rfl,rfl⟩;refine wa (aV 1 Z aa zb3 Z Z Z (rdr 0 Z) (by have:=bq List.length ba;rw[ax] at this;omega)) ?_;rintro _ _ ⟨ff,fh,rfl,rfl⟩;refine bK (v:=sl ff (n1+1) fh) Z<|wn Z<|aN<|wm Z<|wA Z Z<|wn Z ?_;exact⟨ff,n1+1,fh,acc++([rd u i]),i+1,⟨(by rw[ah,co];try rfl),G,G,(by rw[dH ar G,ba])⟩,G,SA,λ_ h=>h.sel [1] cC Z⟩
 ·refine aY<|wq<|wm Z<|wn Z<|aT [0] 99 cC Z ?_;refine⟨_,Z,?_⟩;rw[bn G] at ba;subst ba;obtain rfl:=co;exact⟨_,_,Z,Z⟩
theorem aGm (al:Rd w ap aw ao 1 (ints .u8 u)) (am:aR u) (hN:u.length<=1000000):
  Ct Tryz.prog 144 #[sl ap aw ao] w.heap.size w [] (λv R'=> ∃(b:List Int) (A:Option Addr) (c:Nat),v=sl A u.length c/\b.Perm (iota u.length)/\b.Pairwise (bX u)/\R'=[(ri 3 A u.length c b)]):=by
 obtain rfl:=al.lenI;refine fn1 Tryz.func144 Z Z Z ?_;have mj:=al.max;refine wq<|wn Z<|wq<|wm Z<|wa (aF bLu Z (Ct.fresh (λw hw=>UN ((al.c _) w hw) cE cE))) ?_;rintro _ _ ⟨_,rfl,bm,bl,rfl,rfl⟩;refine wa (aF bLv Z (Ct.fresh (λw hw=>aEj ((rdr 0 Z) w hw) cE))) ?_;rintro _ _ ⟨_,rfl,b1,ir,iu,rfl,cv,dq,rfl⟩;refine wn Z<|aT [0] 99 cC Z ?_;refine⟨_,Z,?_⟩;exact⟨b1,_,_,Z,cv,dq,Z⟩
end Go.Proofs.YtdbebmmhdefgdaaGreat
namespace Go.Proofs
open Go.Shelf
def Tryz.lays212_ren:Go.Shelf.Ren:=⟨λ|212=>122|263=>195|264=>196|n=>n,λ|46=>167|51=>123|146=>243|53=>112|148=>245|n=>n,λ|n=>n⟩
theorem Tryz.lays212:Go.Proofs.Lays.n212 Tryz.prog Tryz.lays212_ren:= {
 mixed:=cA
 f212:=Tryz.func122.trans (bq some cA)
 f263:=Tryz.func195.trans (bq some cA)
 f264:=Tryz.func196.trans (bq some cA)
 t46:=Ao
 a46:=Ee
 z46:=Dn
 v46:=Bf
 t51:=Cv
 a51:=Ht
 z51:=Gc
 v51:=Dq
 t53:=Cu
 a53:=Hr
 z53:=Gb
 v53:=Dp
 t146:=Tryz.underlying243
 a146:=Tryz.isAgg243
 z146:=Tryz.sizeOf243
 v146:=Tryz.zeroValue243
 t148:=Tryz.underlying245
 a148:=Tryz.isAgg245
 z148:=Tryz.sizeOf245
 v148:=Tryz.zeroValue245}
open Go.RowKit Go.Lib in
theorem Tryz.bits_Mul (x y:Nat) (hx:x<18446744073709551616) (hy:y<18446744073709551616) (w:World):
  Calls Tryz.prog 122 #[.int .u64 x, .int .u64 y] w λe w'=>e= .returned (.tuple #[.int .u64 ((x*y/18446744073709551616:Nat):Int), .int .u64 ((x*y%18446744073709551616:Nat):Int)])/\w'=w:=Any.bits_Mul Tryz.lays212 x y hx hy w
end Go.Proofs
namespace Go.Proofs.YtdbebmmhdefgdaaGreat
open Go Go.Eng Go.Pure
open Tryz
set_option maxRecDepth 100000
variable {w:World} {p val i:Int} {N gw cq:Nat} {cr:Option Addr} {s:List Int}
theorem RN {kd:Option Addr} {mt ke:Nat} {l:List Int} {ye:Option Addr} {n_m yi:Nat} {m:List Int} (fk:Rd w kd mt ke 1 (ints .i64 l)) (f8:Rd w ye n_m yi 1 (ints .i64 m)) (hN:l.length<=1000000):
  Ct Tryz.prog 87 #[sl kd mt ke,sl ye n_m yi] w.heap.size w [] (λv R'=>v= .bool (decide (l=m))):=by
 obtain rfl:=fk.lenI;obtain rfl:=f8.lenI;refine fn1 Tryz.func87 Z Z Z ?_;have Oy:=fk.max;have m_m:=f8.max;refine wq<|wn Z<|aD<|wq<|wm Z<|wy (aQ aa Z)<|wm Z<|wy (aQ aa Z)<|wy (gU Z Z)<|aA<|bF Z (λaq=> ?_) (λaq=> ?_)
 ·refine wq<|wn Z<|bW ?_;refine⟨_,Z,?_⟩;exact bq Value.bool (oh (λe=>by rw[e] at aq;exact aq rfl)).symm
 ·refine aL<|aD<|wq<|wm Z<|wy (aQ aa Z)<|wm Z<|aA<|aH ?_;refine jD (λ(k:Int)=>[(0,sl kd l.length ke),(1,sl ye m.length yi),(12,I ((l.length:Nat):Int)),(13,I k)]) (λk=>[]) (λk=>(0<=k)/\(k<=l.length)/\(l.take k.toNat=m.take k.toNat)) (λk=>(l.length-k).toNat) ?_ ?_
  ·exact⟨0,⟨G,G,(Z)⟩,SA,λ_ h=>h⟩
  intro k ⟨li,va,hq⟩;refine wq<|wL Z Z<|aA<|aD<|bF Z (λce=> ?_) (λce=> ?_)
  ·refine aL<|aD<|aH<|wq<|wm Z<|wn Z<|aD<|bP mixed<|wD 0 Z (aM Z)<|wD 1 Z (aM Z)<|wD 2 Z (aI aa sz3 Z Z (fk.c _))<|wD 3 Z (aW ak Z Z (fk.c _))<|wD 4 Z (aM Z) ?_;refine wD 5 Z (aM Z)<|wD 6 Z (aI aa sz3 Z Z (f8.c _))<|wD 7 Z (aW ak Z Z (f8.c _))<|wD 8 Z (gU Z Z)<|wN<|bF Z (λfj=> ?_) (λfj=> ?_)
   ·refine wq<|wn Z<|bW ?_;refine⟨_,Z,?_⟩;exact bq Value.bool (oh (λe=>by subst e;exact fj rfl)).symm
   ·refine aL<|aN<|wA Z Z<|wm Z<|aA ?_;exact⟨k+1,⟨G,G,(by rw[dH li G,dH li G,hq];exact bq (λz=>List.take k.toNat m++[z]) (xk.1 cF))⟩,G,SA,λ_ h=>h⟩
  ·refine aY<|wq<|wn Z<|bW ?_;refine⟨_,Z,?_⟩;exact bq Value.bool (nk (by rw[bn G,bn G] at hq;exact hq)).symm
theorem bGv {B:Nat} {w0:World} {R:List Row} (N:Nat) (h:N<=1000000):Ct Tryz.prog 122 #[.int .u64 1, .int .u64 ((N:Nat):Int)] B w0 R (λv R'=>v= .tuple #[.int .u64 0, .int .u64 ((N:Nat):Int)]/\R'=R):=by
 intro w hw;have hc:=Tryz.bits_Mul 1 N G G w;rw[Bl,Dx G,lc G] at hc;refine hc.mono ?_;rintro e w' ⟨rfl,rfl⟩;exact⟨_,R,Z,hw,Z,Z⟩
theorem aKq (h:0<=p/\p<=18446744073709551615):IntKind.u64.wrap p=p:=by rw[Ia];omega
theorem aSj {D:List Int} (p1:1<=p) (hp:p<=N) (hD:D=BA val p.toNat N):
  List.take p.toNat D++List.take (min p.toNat (N-p.toNat)) (List.take p.toNat D)++List.drop (p.toNat+min p.toNat (N-p.toNat)) D=BA val (p+((min p.toNat (N-p.toNat):Nat):Int)).toNat N:=by
 subst hD;rw[show(p+((min p.toNat (N-p.toNat):Nat):Int)).toNat=p.toNat+min p.toNat (N-p.toNat) by omega];refine QP G ?_;rw[QO,List.take_replicate];congr 1;omega
theorem aSl (h:1<=N):List.take 0 (List.replicate N (0:Int))++List.take (min ([val].length) (N-0)) [val]++List.drop (0+min ([val].length) (N-0)) (List.replicate N (0:Int))=BA val (((min ([val].length) (N-0):Nat):Int)).toNat N:=by
 have e:min ([val].length) (N-0)=1:=cH
 rw[e,<-aLx val N];exact QP (p:=0) (q:=1) G Z
set_option maxHeartbeats 800000 in
theorem aDz {k9:Option Addr} {Jx l7:Nat} {x:List Int} {cn:Int} (ml:Rd w k9 Jx l7 1 (ints .i64 x)) (hx:x=[val]) (Pd:cn=((N:Nat):Int)) (hN:1<=N/\N<=1000000):
  Ct Tryz.prog 316 #[sl k9 Jx l7,I cn] w.heap.size w [] (λv R'=> ∃A c,v=sl A N c/\R'=[(ri 3 A N c (List.replicate N val))]):=by
 obtain rfl:=ml.lenI;refine fn1 Tryz.func316 Z Z Z ?_;have Zo:=ml.max;refine wq<|wn Z<|aD<|wq<|wm Z<|wy (Yl.f (eG Z Z))<|aA<|aJ Z<|aL<|wq<|wm Z ?_;refine wy (aQ aa Z)<|wy (Yl.is (mI ak Ci Z) (by rw[hx])) ?_;refine wm Z<|wy (Yl.is (mI ak Ci Z) (by rw[aKq G,Pd])) ?_;refine wa (aF bEy Z (bGv N hN.2)) ?_;rintro _ _ ⟨rfl,rfl⟩;refine wm Z<|wX Z Z<|wX Z Z<|wg Z<|wn Z<|aD<|wq<|wm Z<|wy (Yl.f (dJ Z Z))<|wm Z<|aC Z Z<|wm Z<|aC Z Z ?_;refine wy (Yl.f (dJ Z Z))<|wy (aS Z Z)<|aA<|aJ Z<|aL<|wq<|wm Z<|wy (iF Ci ak Z)<|wa (dL aa zb3 Z Z) ?_;rintro _ _ ⟨an,rfl,rfl⟩;refine bK (v:=sl (GG an) N N) Z<|wn Z<|wq<|wm Z<|wm Z<|wa (VY (lo:=0) 0 Z aa sz3 Z Z aXd Z G (ml.c _)) ?_;rintro _ _ ⟨rfl,rfl⟩;refine wn Z<|aD<|aH ?_;refine dR (λ(p:Int) (D:List Int)=>[(7,sl (GG an) N N),(8,I p)]) (λp D=>[(ri 3 (GG an) N N D)]) (λp D=>(1<=p)/\(p<=N)/\(D=BA val p.toNat N)) (λp D=>(N-p).toNat) ?_ ?_
 ·exact⟨((min x.length (N-0):Nat):Int),List.take 0 (List.replicate N (0:Int))++List.take (min x.length (N-0)) x++List.drop (0+min x.length (N-0)) (List.replicate N (0:Int)),⟨(by subst hx;simp;omega),G,(by subst hx;exact aSl hN.1)⟩,SA,λ_ h=>h⟩
 intro p D ⟨On,qt,hD⟩;refine aD<|wq<|wm Z<|wm Z<|wy (aQ aa Z)<|wL Z Z<|aA<|bF Z (λaq=> ?_) (λaq=> ?_)
 ·refine aL<|aH<|bP mixed<|wD 0 Z (aM Z)<|wD 1 Z (aM Z)<|wD 2 Z (aM Z)<|wD 3 Z (dK aa sz3 Z Z)<|wD 4 Z (aM Z)<|wD 5 Z (aM Z)<|wD 6 Z (dO aa sz3 Z Z (rdr 0 Z))<|wC 7 Z (VY (lo:=p.toNat) 0 Z aa sz3 Z Z Z Z G (RdC.toI (h:=(p).toNat) (rdr 0 Z) cG)) ?_;rintro _ _ ⟨rfl,rfl⟩;refine⟨.inl cA,?_⟩;refine wD 8 Z (dG Z Z)<|wD 9 Z (bG Z)<|wN ?_;exact⟨p+((min ((p).toNat) (N-p.toNat):Nat):Int),List.take p.toNat D++List.take (min ((p).toNat) (N-p.toNat)) ((D).take (p).toNat)++List.drop (p.toNat+min ((p).toNat) (N-p.toNat)) D,⟨G,G,(aSj On qt hD)⟩,G,SA,λ_ h=>h⟩
 ·refine aY<|wq<|wm Z<|wn Z<|aT [0] 99 cC Z ?_;refine⟨_,Z,?_⟩;obtain rfl:D=List.replicate N val:=by rw[hD,show p.toNat=N by omega];exact aSi _ _
  exact⟨_,_,Z,Z⟩
set_option maxHeartbeats 600000 in
theorem XO (bb:Rd w cr gw cq 1 (ints .i64 s)) (hN:s.length<=1000000):
  Ct Tryz.prog 313 #[sl cr gw cq] w.heap.size w [] (λv R'=> ∃A c,v=sl A s.length c/\R'=[⟨4,1,A,s.length,c,bools (smL s),false⟩]):=by
 obtain rfl:=bb.lenI;refine fn1 Tryz.func313 Z Z Z ?_;have xb:=bb.max;refine wq<|wn Z<|wq<|wm Z<|wy (aQ aa Z)<|wa (VV qc zb4 Z Z G G G) ?_;rintro _ _ ⟨an,rfl,rfl⟩;refine bK (v:=sl (GG an) s.length s.length) Z<|wn Z<|aD<|wq<|wm Z<|wy (aQ aa Z)<|wS Z Z<|wn Z<|aH ?_;refine dR (λ(i:Int) (m:List Bool)=>[(0,sl cr s.length cq),(3,sl (GG an) s.length s.length),(4,I i)]) (λi m=>[⟨4,1,(GG an),s.length,s.length,bools m,false⟩]) (λi m=>(-2<=i)/\(i+2<=s.length)/\(m.length=s.length)/\(∀j:Int,0<=j->i<j->j<s.length->rdb m j=smB s j)) (λi m=>(i+1).toNat) ?_ ?_
 ·exact⟨((s.length:Nat):Int)-2,List.replicate s.length false,⟨G,G,(by rw[cz]),(λj h0 h1 h2=>by rw[IL,qF h0 G])⟩,SA,λ_ h=>h⟩
 intro i m ⟨ar,jj,hl,hM⟩;refine aD<|wq<|wm Z<|wy (gZ Z Z)<|aA<|bF Z (λaq=> ?_) (λaq=> ?_)
 ·refine aL<|aD<|aH<|bP mixed<|wD 0 Z (aM Z)<|wD 1 Z (aM Z)<|wD 2 Z (aM Z)<|wD 3 Z (aM Z)<|wD 4 Z (aI aa sz3 Z Z (bb.c _))<|wD 5 Z (aW ak Z Z (bb.c _))<|wD 6 Z (aM Z)<|wD 7 Z (aM Z)<|wD 8 Z (dG Z Z)<|wD 9 Z (aI aa sz3 Z Z (bb.c _))<|wD 10 Z (aW ak Z Z (bb.c _)) ?_;refine wD 11 Z (eG Z Z)<|wD 12 Z (aM Z)<|oF 27 Z (λce=> ?_) (λce=> ?_)
  ·refine wO 13 Z Z Z<|wO 14 Z Z Z<|wO 15 Z Z Z<|wO 16 Z Z Z<|wO 17 Z Z Z<|wO 18 Z Z Z<|wO 19 Z Z Z<|wO 20 Z Z Z<|wO 21 Z Z Z<|wO 22 Z Z Z<|wO 23 Z Z Z<|JJ 24 Z cA Z Z Z<|JJ 25 Z cA Z Z Z<|JJ 26 Z cA Z Z Z<|JJ 27 Z cA Z Z Z ?_;refine JJ 28 Z cA Z Z Z<|wO 29 Z Z Z<|wD 30 Z (bB Z Z)<|wD 31 Z (aI qc sz4 Z Z (rdr 0 Z))<|oW 32 Z cA (wU 0 Z sz4 Z Z) ?_;rintro _ _ rfl;refine⟨.inl cA,?_⟩;refine wN<|aN<|wm Z<|wS Z Z<|wn Z ?_;exact⟨i-1,qB m i true,⟨G,G,(by rw[lC];exact hl),(λj h0 h1 h2=>TL G G hl (λj a b=>hM j G a b) (⟨λ_=> .inl G,λ_=>Z⟩) j G h2)⟩,G,SA,λ_ h=>h⟩
  ·refine wG 13 Z Z Z (aM Z)<|wG 14 Z Z Z (aM Z)<|wG 15 Z Z Z (aI aa sz3 Z Z (bb.c _))<|wG 16 Z Z Z (aW ak Z Z (bb.c _))<|wG 17 Z Z Z (aM Z)<|wG 18 Z Z Z (aM Z)<|wG 19 Z Z Z (dG Z Z)<|wG 20 Z Z Z (aI aa sz3 Z Z (bb.c _))<|wG 21 Z Z Z (aW ak Z Z (bb.c _))<|wG 22 Z Z Z (aX Z Z)<|wG 23 Z Z Z (aM Z)<|oF 38 Z (λfj=> ?_) (λfj=> ?_)
   ·refine wG 24 Z Z Z (aM Z)<|wG 25 Z Z Z (aM Z)<|wG 26 Z Z Z (dG Z Z)<|wG 27 Z Z Z (aI qc sz4 Z Z (rdr 0 Z))<|wG 28 Z Z Z (FJ Bn Z Z (rdr 0 Z))<|wG 29 Z Z Z (bB Z Z)<|wD 30 Z (aS Z Z)<|wD 31 Z (aI qc sz4 Z Z (rdr 0 Z))<|oW 32 Z cA (wU 0 Z sz4 Z Z) ?_;rintro _ _ rfl;refine⟨.inl cA,?_⟩;refine wN<|aN<|wm Z<|wS Z Z<|wn Z ?_;exact⟨i-1,qB m i (decide (rdb m (i+1)=true)),⟨G,G,(by rw[lC];exact hl),(λj h0 h1 h2=>TL G G hl (λj a b=>hM j G a b) (by rw[iv];exact⟨λh=> .inr ⟨G,h⟩,λh=>(h.resolve_left G).2⟩) j G h2)⟩,G,SA,λ_ h=>h⟩
   ·refine wO 24 Z Z Z<|wO 25 Z Z Z<|wO 26 Z Z Z<|wO 27 Z Z Z<|wO 28 Z Z Z<|wG 29 Z Z Z (aS Z Z)<|wD 30 Z (aS Z Z)<|wD 31 Z (aI qc sz4 Z Z (rdr 0 Z))<|oW 32 Z cA (wU 0 Z sz4 Z Z) ?_;rintro _ _ rfl;refine⟨.inl cA,?_⟩;refine wN<|aN<|wm Z<|wS Z Z<|wn Z ?_;exact⟨i-1,qB m i false,⟨G,G,(by rw[lC];exact hl),(λj h0 h1 h2=>TL G G hl (λj a b=>hM j G a b) (⟨λh=>(by cases h),λh=>absurd h G⟩) j G h2)⟩,G,SA,λ_ h=>h⟩
 ·refine aY<|wq<|wm Z<|wn Z<|aT [0] 99 cC Z ?_;refine⟨_,Z,?_⟩;obtain rfl:m=smL s:=bFw hl λj h0 h1=>hM j h0 G h1;exact⟨_,_,Z,Z⟩
theorem bCa (h0:0<=i) (hi:i<s.length) (h1:0<i) (h2:rdb (smL s) i=true) (h3: ¬rdb (smL s) (i-1)=true):gF s i=true:=by
 rw[mU h0 hi] at h2;rw[mU G G] at h3;exact mX.2 ⟨h1,h2,by simpa using h3⟩
theorem bHf (h0:0<=i) (hi:i<s.length) (h: ¬(0<i/\rdb (smL s) i=true/\ ¬rdb (smL s) (i-1)=true)): ¬gF s i=true:=λe=>by
 obtain⟨h1,h2,h3⟩:=mX.1 e;exact h ⟨h1,by rw[mU h0 hi];exact h2,by rw[mU G G,h3];simp⟩
theorem aVd (s:List Int):ME s 1=[]:=by
 show ME s (0+1)=[];rw[ES G,bu (λh=>by have:=(mX.1 h).1;omega)];rfl
theorem aVe (h:i=s.length\/i=1/\s.length=0):ME s i=bU s:=by
 rcases h with rfl|⟨rfl,h⟩
 ·exact MC
 ·rw[aVd,<-MC,h];rfl
theorem aAj (bb:Rd w cr gw cq 1 (ints .i64 s)) (hN:s.length<=1000000):
  Ct Tryz.prog 290 #[sl cr gw cq] w.heap.size w [] (λv R'=> ∃A c,v=sl A (bU s).length c/\R'=[(ri 3 A ((bU s).length) c (bU s))]):=by
 obtain rfl:=bb.lenI;refine fn1 Tryz.func290 Z Z Z ?_;have xb:=bb.max;refine wq<|wn Z<|wq<|dB (R1:=[(ri 3 none 0 0 ([]))]) (Sub.refl _) (λ_ h=>h.nil 3 1)<|wn Z<|wq<|wm Z<|wa (aF bEh Z (Ct.fresh (λw hw=>XO ((bb.c _) w hw) cE))) ?_;rintro _ _ ⟨_,rfl,bm,bl,rfl,rfl⟩;refine wn Z<|aD<|wq<|wm Z<|wy (aQ aa Z)<|wm Z<|aA<|aH ?_;refine fH (λ(A1:Option Addr) (n1:Nat) (c1:Nat) (acc:List Int) (i:Int)=>[(3,sl A1 n1 c1),(4,sl bm s.length bl),(9,I ((s.length:Nat):Int)),(10,I i)]) (λA1 n1 c1 acc i=>[⟨4,1,bm,s.length,bl,bools (smL s),false⟩,(ri 3 A1 n1 c1 acc)]) (λA1 n1 c1 acc i=>(n1=acc.length)/\(0<=i)/\(i<=s.length)/\(acc=ME s i)) (λA1 n1 c1 acc i=>(s.length-i).toNat) ?_ ?_
 ·exact⟨none,0,0,[],0,⟨(Z),G,G,(Z)⟩,SA,λ_ h=>h⟩
 intro A1 n1 c1 acc i ⟨co,ar,jj,ba⟩;refine wq<|wL Z Z<|aA<|aD<|bF Z (λaq=> ?_) (λaq=> ?_)
 ·refine aL<|aD<|aH<|wq<|wm Z<|wn Z<|wq<|wm Z<|wy (dJ Z Z)<|wm Z<|dD 5 [(3,sl A1 n1 c1),(4,sl bm s.length bl),(5,I i),(9,I ((s.length:Nat):Int)),(10,I i),(20, .bool (decide ((0<i)/\(rdb (smL s) i=true))))] [⟨4,1,bm,s.length,bl,bools (smL s),false⟩,(ri 3 A1 n1 c1 acc)] ?_ ?_
  ·refine bV 15 Z (λce=> ?_) (λce=> ?_)
   ·refine aC Z Z<|wm Z<|aC Z Z<|wm Z<|aC Z Z<|wy (aI qc sz4 Z Z (rdr 0 Z))<|aC Z Z<|wy (FJ Bn Z Z (rdr 0 Z))<|wy (bB Z Z)<|aA ?_;exact⟨SA,λ_ h=>h⟩
   ·refine aP Z Z Z Z<|aP Z Z Z Z<|aP Z Z Z Z<|aP Z Z Z Z<|wy (aS Z Z)<|aA ?_;exact⟨SA,λ_ h=>h⟩
  refine wm Z<|dD 7 [(3,sl A1 n1 c1),(4,sl bm s.length bl),(5,I i),(9,I ((s.length:Nat):Int)),(10,I i),(28, .bool (decide (((0<i)/\(rdb (smL s) i=true))/\(¬(rdb (smL s) (i-1)=true)))))] [⟨4,1,bm,s.length,bl,bools (smL s),false⟩,(ri 3 A1 n1 c1 acc)] ?_ ?_
  ·refine bV 21 Z (λfj=> ?_) (λfj=> ?_)
   ·refine aC Z Z<|wm Z<|aC Z Z<|wm Z<|aC Z Z<|wS Z Z<|aC Z Z<|wy (aI qc sz4 Z Z (rdr 0 Z))<|aC Z Z<|wy (FJ Bn Z Z (rdr 0 Z))<|aC Z Z<|wy (DT Z)<|wy (bB Z Z)<|aA ?_;exact⟨SA,λ_ h=>h⟩
   ·refine aP Z Z Z Z<|aP Z Z Z Z<|aP Z Z Z Z<|aP Z Z Z Z<|aP Z Z Z Z<|aP Z Z Z Z<|wy (aS Z Z)<|aA ?_;exact⟨SA,λ_ h=>h⟩
  refine aA<|bF Z (λkl=> ?_) (λkl=> ?_)
  ·refine aN<|wm Z<|wm Z<|wa (bL .i64 [i] aa zs3 Z Z Z) ?_;rintro _ _ ⟨kc,rfl,rfl⟩;refine wa (aV 2 Z aa zb3 Z Z Z (rdr 0 Z) (by have:=bq List.length ba;have:=aAg (s:=s) i;omega)) ?_;rintro _ _ ⟨en,kj,rfl,rfl⟩;refine bK (v:=sl en (n1+1) kj) Z<|wn Z<|aN<|wA Z Z<|wm Z<|aA ?_;exact⟨en,n1+1,kj,acc++([i]),i+1,⟨(by rw[ah,co];try rfl),G,G,(by rw[ES G,df (bCa G G kl.1.1 kl.1.2 kl.2),ba])⟩,G,SA,λ_ h=>h.sel [1,2] cC Z⟩
  ·refine aL<|aN<|wA Z Z<|wm Z<|aA ?_;exact⟨A1,n1,c1,acc,i+1,⟨(co),G,G,(by rw[ES G,bu (bHf G G (λh=>kl ⟨⟨h.1,h.2.1⟩,h.2.2⟩)),jk,ba])⟩,G,SA,λ_ h=>h⟩
 ·refine aY<|wq<|wm Z<|wn Z<|aT [1] 99 cC Z ?_;refine⟨_,Z,?_⟩;rw[aVe G] at ba;subst ba;obtain rfl:=co;exact⟨_,_,Z,Z⟩
theorem aOe {cs V:List Int} {i:Int} (h0:0<=i) (hi:i<cs.length) (hl:V.length=cs.length) (hV: ∀j:Int,0<=j->j<cs.length->rd V j=if j<i then ps cs (j+1) else ps cs j):
  ∀j:Int,0<=j->j<cs.length->rd (upd V i (rd V i+rd cs i)) j=if j<i+1 then ps cs (j+1) else ps cs j:=by
 intro j j0 j1;have e1:rd (upd V i (rd V i+rd cs i)) j=if j=i then rd V i+rd cs i else rd V j:=fV h0 j0 G
 have e2:=hV i h0 hi;rw[bu G] at e2;rw[e1,e2,hV j j0 j1];by_cases e:j=i
 ·subst e;rw[df rfl,df G,lJ h0 hi]
 ·rw [bu e];by_cases h:j<i
  ·rw[df h,df G]
  ·rw[bu h,bu G]
theorem aJu {s:List Int} {k:Int} (hk:0<=k) (hs: ∀x∈s,0<=x/\x<k):(eD s k).sum=s.length:=by
 have h:=MS (order:=iota s.length) (keys:=s) (k:=k) hk λi hi=>hs _ (bN (bE.1 hi).1 (bE.1 hi).2);rwa[lX,bI] at h
theorem aOf {cs V:List Int} (hl:V.length=cs.length) (hV: ∀j:Int,0<=j->j<cs.length->rd V j=if j<cs.length then ps cs (j+1) else ps cs j):V=qP cs:=
 bQ (hl.trans (EX cs).symm) λj h1 h2=>by rw[KM h1 G,hV j h1 G,df G]
theorem aJh {B:Nat} {w0:World} {R:List Row} {wk:Nat} {cr ye k8 mu:Option Addr} {cq yi l6 mv:Nat} {s:List Int} {k:Int} (ml:RdC B w0 R (GG wk) 1 1 4 [sl cr s.length cq,sl ye s.length yi,sl k8 k.toNat l6,sl mu s.length mv]) (No:RdC B w0 R k8 k.toNat l6 1 (ints .i64 (eD s k))) (hk:0<=k/\k<=1048576) (hs: ∀x∈s,0<=x/\x<k) (hN:s.length<=1000000):
  Ct Tryz.prog 317 #[PG wk] B w0 (R) (λv R'=> ∃A c,v=sl A k.toNat c/\R'=(ri 3 A k.toNat c (qP (eD s k)))::R):=by
 refine fn1 Tryz.func317 Z Z Z ?_;have kx:(eD s k).length=k.toNat:=dY _ _;have Gk:(eD s k).sum=s.length:=aJu G hs;have Kv:(dE (eD s k)).length=k.toNat:=by rw[fE,kx]
 refine wq<|wn Z<|wq<|wm Z<|wy (aG Z)<|wy (aB (off:=2) (m:=2) ow Z eF Z Z Z)<|wy (aK (RdC.right ml []) aa Z Z Z)<|wa (aF aJl Z (Ct.fresh (λw hw=>xD ((RdC.right No []) w hw) (lY _ _) (by rw[Gk];omega) (by rw[kx];omega)))) ?_;rintro _ _ ⟨_,rfl,bm,bl,rfl,rfl⟩;refine wn Z<|aD<|wq<|wm Z<|wy (aG Z)<|wy (aB (off:=2) (m:=2) ow Z eF Z Z Z)<|wy (aK (RdC.right ml [_]) aa Z Z Z)<|wy (aQ aa Z)<|wm Z<|aA<|aH ?_;refine dR (λ(i:Int) (V:List Int)=>[(3,sl bm ((dE (eD s k)).length) bl),(14,sl k8 k.toNat l6),(15,I ((k.toNat:Nat):Int)),(16,I i)]) (λi V=>((ri 3 bm ((dE (eD s k)).length) bl V)::R)) (λi V=>(0<=i)/\(i<=(eD s k).length)/\(V.length=(eD s k).length)/\(∀j:Int,0<=j->j<(eD s k).length->rd V j=if j<i then ps (eD s k) (j+1) else ps (eD s k) j)) (λi V=>((eD s k).length-i).toNat) ?_ ?_
 ·exact⟨0,dE (eD s k),⟨G,G,(by rw[fE]),(λj h1 h2=>by rw[bu G];exact nK h1 h2)⟩,SA,λ_ h=>h⟩
 intro i V ⟨ar,jj,lz,hV⟩;refine wq<|wL Z Z<|aA<|aD<|bF Z (λaq=> ?_) (λaq=> ?_)
 ·have wt:=vU (lY s k) i;have e7:=vU (lY s k) (i+1);rw[Gk] at wt e7;have hvi:=hV i ar G;rw[bu G] at hvi;have Ln:=lJ (L:=eD s k) ar G;refine aL<|aD<|aH<|wq<|wm Z<|wy (aI aa sz3 Z Z (RdC.right No [_]))<|wy (aW ak Z Z (RdC.right No [_]))<|wg Z<|wn Z<|aN<|wm Z<|wm Z<|wy (aI aa sz3 Z Z (rdr 0 Z)) ?_;refine wy (aW ak Z Z (rdr 0 Z))<|wm Z<|wA Z Z<|wy (aI aa sz3 Z Z (rdr 0 Z))<|bY (bJ 0 Z sz3 Z Z) ?_;rintro _ _ rfl;refine aA<|aN<|wA Z Z<|wm Z<|aA ?_;exact⟨i+1,upd V i ((rd V i)+(rd (eD s k) i)),⟨G,G,(by rw[bD];exact lz),(aOe ar G lz hV)⟩,G,SA,λ_ h=>h⟩
 ·refine aY<|wq<|wm Z<|wn Z ?_;have Ut:k.toNat=(eD s k).length:=kx.symm;obtain rfl:V=qP (eD s k):=aOf lz λj h1 h2=>by rw[hV j h1 h2,df G,df G]
  refine bW ?_;rw[fE,kx];exact⟨_,Z,_,_,Z,Z⟩
theorem lgC {s D:List Int} {i:Int} (Le:rd D i= -1\/(0<=rd D i/\rd D i<s.length)):(0<rd D i/\ ¬rdb (smL s) (rd D i-1)=true)↔(0<rd D i/\smB s (rd D i-1)=false):=by
 constructor
 ·rintro ⟨h1,h2⟩;rw[mU G G] at h2;exact⟨h1,by simpa using h2⟩
 ·rintro ⟨h1,h2⟩;rw[mU G G,h2];exact⟨h1,cD⟩
theorem smC {s D:List Int} {i:Int} (Le:rd D i= -1\/(0<=rd D i/\rd D i<s.length)):(0<rd D i/\rdb (smL s) (rd D i-1)=true)↔(0<rd D i/\smB s (rd D i-1)=true):=by
 constructor
 ·rintro ⟨h1,h2⟩;rw[mU G G] at h2;exact⟨h1,h2⟩
 ·rintro ⟨h1,h2⟩;rw[mU G G,h2];exact⟨h1,Z⟩
section
variable {s l D H:List Int} {k i:Int} (hk:0<=k) (hs: ∀x∈s,0<=x/\x<k) (hp:l.Perm (bU s)) (hn:0<s.length)
include hk hs hp hn
theorem bHi (i0:0<=i) (hi:i<s.length) (hD:D=(itL s k l i.toNat).1) (hH:H=(itL s k l i.toNat).2):(rd D i= -1\/(0<=rd D i/\rd D i<s.length))/\(D.length=s.length/\H.length=k.toNat):=by
 have h:=fLe hk hs hp hn (i:=i.toNat) G hD hH;rwa[qf i0] at h
theorem fLZ (i0:0<=i) (hi:i<s.length) (hD:D=(itL s k l i.toNat).1) (hH:H=(itL s k l i.toNat).2) (hc:0<rd D i/\ ¬rdb (smL s) (rd D i-1)=true):
  rd D i<s.length/\(0<=rd s (rd D i-1)/\rd s (rd D i-1)<k)/\(0<=rd H (rd s (rd D i-1))/\rd H (rd s (rd D i-1))<s.length)/\upd D (rd H (rd s (rd D i-1))) (rd D i-1)=(itL s k l (i+1).toNat).1/\upd H (rd s (rd D i-1)) (rd H (rd s (rd D i-1))+1)=(itL s k l (i+1).toNat).2:=by
 have he:=(bHi hk hs hp hn i0 hi hD hH).1;have h:=fL hk hs hp hn (i:=i.toNat) G hD hH (by rw[qf i0];exact(lgC he).1 hc);rw[qf i0] at h;rwa[show(i+1).toNat=i.toNat+1 by omega]
theorem bOi (i0:0<=i) (hi:i<s.length) (hD:D=(itL s k l i.toNat).1) (hH:H=(itL s k l i.toNat).2) (hc: ¬(0<rd D i/\ ¬rdb (smL s) (rd D i-1)=true)):D=(itL s k l (i+1).toNat).1/\H=(itL s k l (i+1).toNat).2:=by
 have he:=(bHi hk hs hp hn i0 hi hD hH).1;have h:=fLs (i:=i.toNat) hD hH (by rw[qf i0];exact λh=>hc ((lgC he).2 h));rwa[show(i+1).toNat=i.toNat+1 by omega]
theorem bHh (i0:0<=i) (hi:i<s.length) (hD:D=(itS s k l (s.length-1-i).toNat).1) (hH:H=(itS s k l (s.length-1-i).toNat).2):(rd D i= -1\/(0<=rd D i/\rd D i<s.length))/\(D.length=s.length/\H.length=k.toNat):=
 fSe hk hs hp hn (m:=((s.length:Int)-1-i).toNat) G G hD hH
theorem fSZ (i0:0<=i) (hi:i<s.length) (hD:D=(itS s k l (s.length-1-i).toNat).1) (hH:H=(itS s k l (s.length-1-i).toNat).2) (hc:0<rd D i/\rdb (smL s) (rd D i-1)=true):
  rd D i<s.length/\(0<=rd s (rd D i-1)/\rd s (rd D i-1)<k)/\(0<=rd H (rd s (rd D i-1))-1/\rd H (rd s (rd D i-1))-1<s.length)/\upd D (rd H (rd s (rd D i-1))-1) (rd D i-1)=(itS s k l (s.length-1-(i-1)).toNat).1/\upd H (rd s (rd D i-1)) (rd H (rd s (rd D i-1))-1)=(itS s k l (s.length-1-(i-1)).toNat).2:=by
 have he:=(bHh hk hs hp hn i0 hi hD hH).1;have h:=fS hk hs hp hn (m:=((s.length:Int)-1-i).toNat) G G hD hH ((smC he).1 hc);rwa[show((s.length:Int)-1-(i-1)).toNat=((s.length:Int)-1-i).toNat+1 by omega]
theorem bOh (i0:0<=i) (hi:i<s.length) (hD:D=(itS s k l (s.length-1-i).toNat).1) (hH:H=(itS s k l (s.length-1-i).toNat).2) (hc: ¬(0<rd D i/\rdb (smL s) (rd D i-1)=true)):D=(itS s k l (s.length-1-(i-1)).toNat).1/\H=(itS s k l (s.length-1-(i-1)).toNat).2:=by
 have he:=(bHh hk hs hp hn i0 hi hD hH).1;have h:=fSs (m:=((s.length:Int)-1-i).toNat) (i:=i) G hD hH (λh=>hc ((smC he).2 h));rwa[show((s.length:Int)-1-(i-1)).toNat=((s.length:Int)-1-i).toNat+1 by omega]
end
theorem aUi {B:Nat} {w0:World} {R:List Row} {wk:Nat} {cr ye k8 mu:Option Addr} {cq yi l6 mv:Nat} {s:List Int} {k:Int} {Kj:Option Addr} {Hk Ko:Nat} {row E:List Int} {j:Int} (ml:RdC B w0 R (GG wk) 1 1 4 [sl cr s.length cq,sl ye s.length yi,sl k8 k.toNat l6,sl mu s.length mv]) (bb:RdC B w0 R cr s.length cq 1 (ints .i64 s)) (hk:0<=k/\k<=1048576) (hN:s.length<=1000000) (hj:0<=j/\j<s.length) (hc:0<=rd s j/\rd s j<k) (hl:row.length=s.length/\E.length=k.toNat/\Hk=k.toNat) (hv:0<=(rd E (rd s j))-1/\(rd E (rd s j))-1<s.length):
  Ct Tryz.prog 318 #[PG wk,sl Kj Hk Ko,I j] B w0 ((ri 3 mu s.length mv row)::(ri 3 Kj Hk Ko E)::R) (λv R'=>v= .tuple #[]/\R'=(ri 3 mu s.length mv (upd row ((rd E (rd s j))-1) j))::(ri 3 Kj Hk Ko (upd E (rd s j) ((rd E (rd s j))-1)))::R):=by
 refine fn0 Tryz.func318 Z Z Z ?_;obtain⟨yk,ua,e9⟩:=hl;have he:rd (upd E (rd s j) ((rd E (rd s j))-1)) (rd s j)=(rd E (rd s j))-1:=eQ hc.1 G;refine wq<|wm Z<|wm Z<|wy (aG Z)<|wy (aB (off:=0) (m:=0) ow Z eF Z Z Z)<|wy (aK (RdC.right ml [_,_]) aa Z Z Z)<|wm Z<|wy (aI aa sz3 Z Z (RdC.right bb [_,_]))<|wy (aW ak Z Z (RdC.right bb [_,_]))<|wy (aI aa sz3 Z Z (rdr 1 Z))<|wy (aW ak Z Z (rdr 1 Z))<|wS Z Z<|wy (aI aa sz3 Z Z (rdr 1 Z))<|bY (bJ 1 Z sz3 Z Z) ?_;rintro _ _ rfl;refine jC (R1:=((ri 3 mu s.length mv row)::(ri 3 Kj Hk Ko (upd E (rd s j) ((rd E (rd s j))-1)))::R)) Z<|aA<|bP mixed<|wD 0 Z (aM Z)<|wD 1 Z (aG Z)<|wD 2 Z (aB (off:=3) (m:=3) ow Z eF Z Z Z)<|wD 3 Z (aK (RdC.right ml [_,_]) aa Z Z Z)<|wD 4 Z (aM Z)<|wD 5 Z (aM Z)<|wD 6 Z (aG Z)<|wD 7 Z (aB (off:=0) (m:=0) ow Z eF Z Z Z)<|wD 8 Z (aK (RdC.right ml [_,_]) aa Z Z Z)<|wD 9 Z (aM Z)<|wD 10 Z (aI aa sz3 Z Z (RdC.right bb [_,_]))<|wD 11 Z (aW ak Z Z (RdC.right bb [_,_])) ?_;refine wD 12 Z (aI aa sz3 Z Z (rdr 1 Z))<|wD 13 Z (aW ak Z Z (rdr 1 Z))<|wD 14 Z (aM Z)<|wD 15 Z (aI aa sz3 Z Z (rdr 0 Z))<|oW 16 Z cA (bJ 0 Z sz3 Z Z) ?_;rintro _ _ rfl;refine⟨.inl cA,?_⟩;refine zR (R1:=((ri 3 mu s.length mv (upd row (rd (upd E (rd s j) ((rd E (rd s j))-1)) (rd s j)) j))::(ri 3 Kj Hk Ko (upd E (rd s j) ((rd E (rd s j))-1)))::R)) Z<|wN ?_;exact⟨Z,by rw[he]⟩
theorem aIt {B:Nat} {w0:World} {R:List Row} {wk:Nat} {cr ye k8 mu:Option Addr} {cq yi l6 mv:Nat} {s:List Int} {k:Int} {Kj:Option Addr} {Hk Ko:Nat} {row E:List Int} {j:Int} (ml:RdC B w0 R (GG wk) 1 1 4 [sl cr s.length cq,sl ye s.length yi,sl k8 k.toNat l6,sl mu s.length mv]) (bb:RdC B w0 R cr s.length cq 1 (ints .i64 s)) (hk:0<=k/\k<=1048576) (hN:s.length<=1000000) (hj:0<=j/\j<s.length) (hc:0<=rd s j/\rd s j<k) (hl:row.length=s.length/\E.length=k.toNat/\Hk=k.toNat) (hv:0<=rd E (rd s j)/\rd E (rd s j)<s.length):
  Ct Tryz.prog 347 #[PG wk,sl Kj Hk Ko,I j] B w0 ((ri 3 mu s.length mv row)::(ri 3 Kj Hk Ko E)::R) (λv R'=>v= .tuple #[]/\R'=(ri 3 mu s.length mv (upd row (rd E (rd s j)) j))::(ri 3 Kj Hk Ko (upd E (rd s j) ((rd E (rd s j))+1)))::R):=by
 refine fn0 Tryz.func347 Z Z Z ?_;obtain⟨yk,ua,e9⟩:=hl;refine aD<|bP mixed<|wD 0 Z (aM Z)<|wD 1 Z (aG Z)<|wD 2 Z (aB (off:=3) (m:=3) ow Z eF Z Z Z)<|wD 3 Z (aK (RdC.right ml [_,_]) aa Z Z Z)<|wD 4 Z (aM Z)<|wD 5 Z (aM Z)<|wD 6 Z (aG Z)<|wD 7 Z (aB (off:=0) (m:=0) ow Z eF Z Z Z)<|wD 8 Z (aK (RdC.right ml [_,_]) aa Z Z Z)<|wD 9 Z (aM Z)<|wD 10 Z (aI aa sz3 Z Z (RdC.right bb [_,_]))<|wD 11 Z (aW ak Z Z (RdC.right bb [_,_]))<|wD 12 Z (aI aa sz3 Z Z (rdr 1 Z)) ?_;refine wD 13 Z (aW ak Z Z (rdr 1 Z))<|wD 14 Z (aM Z)<|wD 15 Z (aI aa sz3 Z Z (rdr 0 Z))<|oW 16 Z cA (bJ 0 Z sz3 Z Z) ?_;rintro _ _ rfl;refine⟨.inl cA,?_⟩;refine wN<|aN<|wm Z<|wm Z<|wy (aG Z)<|wy (aB (off:=0) (m:=0) ow Z eF Z Z Z)<|wy (aK (RdC.right ml [_,_]) aa Z Z Z)<|wm Z<|wy (aI aa sz3 Z Z (RdC.right bb [_,_]))<|wy (aW ak Z Z (RdC.right bb [_,_]))<|wy (aI aa sz3 Z Z (rdr 1 Z))<|wy (aW ak Z Z (rdr 1 Z))<|wA Z Z<|wy (aI aa sz3 Z Z (rdr 1 Z))<|bY (bJ 1 Z sz3 Z Z) ?_;rintro _ _ rfl;refine aA ?_;exact⟨Z,Z⟩
theorem aUj {B:Nat} {w0:World} {R:List Row} {wk:Nat} {cr ye k8 mu:Option Addr} {cq yi l6 mv:Nat} {s l:List Int} {k:Int} {row:List Int} (ml:RdC B w0 R (GG wk) 1 1 4 [sl cr s.length cq,sl ye s.length yi,sl k8 k.toNat l6,sl mu s.length mv]) (bb:RdC B w0 R cr s.length cq 1 (ints .i64 s)) (f8:RdC B w0 R ye s.length yi 1 (bools (smL s))) (No:RdC B w0 R k8 k.toNat l6 1 (ints .i64 (eD s k))) (hk:0<=k/\k<=1048576) (hs: ∀x∈s,0<=x/\x<k) (hN:s.length<=1000000) (hp:l.Perm (bU s)) (hn:0<s.length) (gs:row=(itF s k l).1):
  Ct Tryz.prog 319 #[PG wk] B w0 ((ri 3 mu s.length mv row)::R) (λv R'=>v= .tuple #[]/\R'=(ri 3 mu s.length mv ((itL s k l s.length).1))::R):=by
 refine fn0 Tryz.func319 Z Z Z ?_;have kx:(eD s k).length=k.toNat:=dY _ _;have Gk:(eD s k).sum=s.length:=aJu hk.1 hs;have Kv:(dE (eD s k)).length=k.toNat:=by rw[fE,kx]
 obtain⟨f1,f2,f3,f4,f5,f6⟩:=fL0 hk.1 hs hp hn gs (rfl:dE (eD s k)=_);refine wq<|wm Z<|wy (aG Z)<|wy (aB (off:=2) (m:=2) ow Z eF Z Z Z)<|wy (aK (RdC.right ml [_]) aa Z Z Z)<|wa (aF aJl Z (Ct.fresh (λw hw=>xD ((RdC.right No [_]) w hw) (lY _ _) (by rw[Gk];omega) (by rw[kx];omega)))) ?_;rintro _ _ ⟨_,rfl,bm,bl,rfl,rfl⟩;refine wn Z<|wq<|wm Z<|wm Z<|wm Z<|wy (aG Z)<|wy (aB (off:=0) (m:=0) ow Z eF Z Z Z)<|wy (aK (RdC.right ml [_,_]) aa Z Z Z)<|wy (aQ aa Z)<|wS Z Z<|dB (R1:=((ri 3 mu s.length mv row)::(ri 3 bm ((dE (eD s k)).length) bl (dE (eD s k)))::R)) (Sub.refl _) (λ_ h=>h.selR (F:=[_,_]) (F':=[_,_]) [1,0] cC Z)<|wa (aF bEb Z (aIt (row:=row) (E:=(dE (eD s k))) (j:=(((s.length:Nat):Int)-1)) (RdC.right ml []) (RdC.right bb []) hk hN ⟨G,G⟩ f1 ⟨f3.1,f3.2,by rw[fE,kx]⟩ f2)) ?_;rintro _ _ ⟨rfl,rfl⟩;refine aA<|wq<|wm Z<|wy (aG Z)<|wy (aB (off:=3) (m:=3) ow Z eF Z Z Z)<|wy (aK (RdC.right ml [_,_]) aa Z Z Z)<|wy (aQ aa Z)<|wm Z<|aA<|aH ?_;refine gG (λ(i:Int) (D:List Int) (H:List Int)=>[(0,PG wk),(2,sl bm ((dE (eD s k)).length) bl),(23,I ((s.length:Nat):Int)),(24,I i)]) (λi D H=>((ri 3 mu s.length mv D)::(ri 3 bm ((dE (eD s k)).length) bl H)::R)) (λi D H=>(0<=i)/\(i<=s.length)/\(D=(itL s k l i.toNat).1)/\(H=(itL s k l i.toNat).2)) (λi D H=>(s.length-i).toNat) ?_ ?_
 ·exact⟨0,upd row (rd (dE (eD s k)) (rd s (((s.length:Nat):Int)-1))) (((s.length:Nat):Int)-1),upd (dE (eD s k)) (rd s (((s.length:Nat):Int)-1)) ((rd (dE (eD s k)) (rd s (((s.length:Nat):Int)-1)))+1),⟨G,G,(f4),(f5)⟩,SA,λ_ h=>h⟩
 intro i D H ⟨ar,jj,hD,hH⟩;refine wq<|wL Z Z<|aA<|aD<|bF Z (λaq=> ?_) (λaq=> ?_)
 ·have hf:=bHi hk.1 hs hp hn ar G hD hH;have Uq:=hf.1;refine aL<|aD<|aH<|wq<|wm Z<|wn Z<|wq<|wm Z<|wy (aG Z)<|wy (aB (off:=3) (m:=3) ow Z eF Z Z Z)<|wy (aK (RdC.right ml [_,_]) aa Z Z Z)<|wm Z ?_;refine wy (aI aa sz3 Z Z (rdr 0 Z))<|wy (aW ak Z Z (rdr 0 Z))<|wn Z<|wq<|wm Z<|wy (dJ Z Z)<|wm Z<|dD 10 [(0,PG wk),(2,sl bm ((dE (eD s k)).length) bl),(4,I (rd D i)),(23,I ((s.length:Nat):Int)),(24,I i),(46, .bool (decide ((0<(rd D i))/\(¬(rdb (smL s) ((rd D i)-1)=true)))))] ((ri 3 mu s.length mv D)::(ri 3 bm ((dE (eD s k)).length) bl H)::R) ?_ ?_
  ·refine bV 36 Z (λce=> ?_) (λce=> ?_)
   ·refine aC Z Z<|wm Z<|aC Z Z<|wy (aG Z)<|aC Z Z<|wy (aB (off:=1) (m:=1) ow Z aRd Z Z Z)<|aC Z Z<|wy (aK (RdC.right ml [_,_]) qc Z Z Z)<|aC Z Z<|wm Z<|aC Z Z<|wS Z Z<|aC Z Z<|wy (aI qc sz4 Z Z (RdC.right f8 [_,_]))<|aC Z Z ?_;refine wy (FJ Bn Z Z (RdC.right f8 [_,_]))<|aC Z Z<|wy (DT Z)<|wy (bB Z Z)<|aA ?_;exact⟨SA,λ_ h=>h⟩
   ·refine aP Z Z Z Z<|aP Z Z Z Z<|aP Z Z Z Z<|aP Z Z Z Z<|aP Z Z Z Z<|aP Z Z Z Z<|aP Z Z Z Z<|aP Z Z Z Z<|aP Z Z Z Z<|wy (aS Z Z)<|aA ?_;exact⟨SA,λ_ h=>h⟩
  refine aA<|bF Z (λfj=> ?_) (λfj=> ?_)
  ·obtain ⟨g1,g2,g3,g4,g5⟩:=fLZ hk.1 hs hp hn ar G hD hH fj;refine aN<|wm Z<|wm Z<|wm Z<|wS Z Z<|wa (aF bEb Z (aIt (row:=D) (E:=H) (j:=((rd D i)-1)) (RdC.right ml []) (RdC.right bb []) hk hN ⟨G,G⟩ g2 ⟨hf.2.1,hf.2.2,by rw[fE,kx]⟩ g3)) ?_;rintro _ _ ⟨rfl,rfl⟩;refine aA<|aN<|wA Z Z<|wm Z<|aA ?_;exact⟨i+1,upd D (rd H (rd s ((rd D i)-1))) ((rd D i)-1),upd H (rd s ((rd D i)-1)) ((rd H (rd s ((rd D i)-1)))+1),⟨G,G,(g4),(g5)⟩,G,SA,λ_ h=>h⟩
  ·have g4:=bOi hk.1 hs hp hn ar G hD hH fj;refine aL<|aN<|wA Z Z<|wm Z<|aA ?_;exact⟨i+1,D,H,⟨G,G,(g4.1),(g4.2)⟩,G,SA,λ_ h=>h⟩
 ·refine aHi (R1:=((ri 3 mu s.length mv D)::R)) (Sub.refl _) (λ_ h=>h.selR (F:=[_,_]) (F':=[_]) [0] cC Z) ?_;have Ph:i.toNat=s.length:=G
  rw[Ph] at hD;subst hD;refine aY ?_;exact⟨Z,Z⟩
theorem bNp {s D:List Int} {q:Int} (Le:rd D q= -1\/(0<=rd D q/\rd D q<s.length)):(0<=rd D q/\rdb (smL s) (rd D q)=true)↔(0<=rd D q/\smB s (rd D q)=true):=by
 constructor<;>rintro⟨h1,h2⟩<;>refine⟨h1,?_⟩
 ·rwa[mU h1 G] at h2
 ·rwa[mU h1 G]
theorem bCv {s l D:List Int} {k q:Int} (hk:0<=k) (hs: ∀x∈s,0<=x/\x<k) (hp:l.Perm (bU s)) (hn:0<s.length) (q0:0<=q) (hq:q<s.length) (hD:D=qR s (itL s k l s.length).1 q):rd D q= -1\/(0<=rd D q/\rd D q<s.length):=by
 rw[hD,UF q0 (lq _) q0 (by rw[IX hk hs hp hn];omega)];exact bCu hk hs hp hn q0 hq
theorem aXl {s l D:List Int} {k q:Int} (hk:0<=k) (hs: ∀x∈s,0<=x/\x<k) (hp:l.Perm (bU s)) (hn:0<s.length) (hq:(s.length:Int)<=q) (hD:D=qR s (itL s k l s.length).1 q):D=(itS s k l 0).1:=by
 rw[hD,aXm (by rw[IX hk hs hp hn];exact hq)];rfl
theorem aLg {B:Nat} {w0:World} {R:List Row} {wk:Nat} {cr ye k8 mu:Option Addr} {cq yi l6 mv:Nat} {s l:List Int} {k:Int} (ml:RdC B w0 R (GG wk) 1 1 4 [sl cr s.length cq,sl ye s.length yi,sl k8 k.toNat l6,sl mu s.length mv]) (bb:RdC B w0 R cr s.length cq 1 (ints .i64 s)) (f8:RdC B w0 R ye s.length yi 1 (bools (smL s))) (No:RdC B w0 R k8 k.toNat l6 1 (ints .i64 (eD s k))) (hk:0<=k/\k<=1048576) (hs: ∀x∈s,0<=x/\x<k) (hN:s.length<=1000000) (hp:l.Perm (bU s)) (hn:0<s.length):
  Ct Tryz.prog 320 #[PG wk] B w0 ((ri 3 mu s.length mv ((itL s k l s.length).1))::R) (λv R'=>v= .tuple #[]/\R'=(ri 3 mu s.length mv (qN s k l))::R):=by
 refine fn0 Tryz.func320 Z Z Z ?_;have r8:=IX hk.1 hs hp hn;refine aD<|wq<|wm Z<|wy (aG Z)<|wy (aB (off:=3) (m:=3) ow Z eF Z Z Z)<|wy (aK (RdC.right ml [_]) aa Z Z Z)<|wy (aQ aa Z)<|wm Z<|aA<|aH ?_;refine dR (λ(q:Int) (D:List Int)=>[(0,PG wk),(10,sl mu s.length mv),(11,I ((s.length:Nat):Int)),(12,I q)]) (λq D=>((ri 3 mu s.length mv D)::R)) (λq D=>(0<=q)/\(q<=s.length)/\(D=qR s (itL s k l s.length).1 q)) (λq D=>(s.length-q).toNat) ?_ ?_
 ·exact⟨0,(itL s k l s.length).1,⟨G,G,(aPa.symm)⟩,SA,λ_ h=>h⟩
 intro q D ⟨kf,yp,hD⟩;refine wq<|wL Z Z<|aA<|aD<|bF Z (λaq=> ?_) (λaq=> ?_)
 ·have Uq:=bCv hk.1 hs hp hn kf G hD;have Qw:D.length=s.length:=by rw[hD,aBv,IX hk.1 hs hp hn]
  refine aL<|aD<|aH<|wq<|wm Z<|wy (aI aa sz3 Z Z (rdr 0 Z))<|wy (aW ak Z Z (rdr 0 Z))<|wg Z<|wn Z<|wq<|wm Z<|wy (gZ Z Z) ?_;refine wm Z<|dD 8 [(0,PG wk),(2,I q),(10,sl mu s.length mv),(11,I ((s.length:Nat):Int)),(12,I q),(27, .bool (decide ((0<=(rd D q))/\(rdb (smL s) (rd D q)=true))))] ((ri 3 mu s.length mv D)::R) ?_ ?_
  ·refine bV 19 Z (λce=> ?_) (λce=> ?_)
   ·refine aC Z Z<|wm Z<|aC Z Z<|wy (aG Z)<|aC Z Z<|wy (aB (off:=1) (m:=1) ow Z aRd Z Z Z)<|aC Z Z<|wy (aK (RdC.right ml [_]) qc Z Z Z)<|aC Z Z<|wm Z<|aC Z Z<|wy (aI qc sz4 Z Z (RdC.right f8 [_]))<|aC Z Z<|wy (FJ Bn Z Z (RdC.right f8 [_]))<|wy (bB Z Z) ?_;refine aA ?_;exact⟨SA,λ_ h=>h⟩
   ·refine aP Z Z Z Z<|aP Z Z Z Z<|aP Z Z Z Z<|aP Z Z Z Z<|aP Z Z Z Z<|aP Z Z Z Z<|aP Z Z Z Z<|wy (aS Z Z)<|aA ?_;exact⟨SA,λ_ h=>h⟩
  refine aA<|bF Z (λfj=> ?_) (λfj=> ?_)
  ·refine aN<|wm Z<|wy (aG Z)<|wy (aB (off:=3) (m:=3) ow Z eF Z Z Z)<|wy (aK (RdC.right ml [_]) aa Z Z Z)<|wm Z<|wy (aI aa sz3 Z Z (rdr 0 Z))<|bY (bJ 0 Z sz3 Z Z) ?_;rintro _ _ rfl;refine aA<|aN<|wA Z Z<|wm Z<|aA ?_;exact⟨q+1,upd D q (-1),⟨G,G,(by rw[hD];exact bCt kf G (by rw[<-hD];exact(bNp Uq).1 fj))⟩,G,SA,λ_ h=>h⟩
  ·refine aL<|aN<|wA Z Z<|wm Z<|aA ?_;exact⟨q+1,D,⟨G,G,(by rw[hD];exact bHu kf G (by rw[<-hD];exact λh=>fj ((bNp Uq).2 h)))⟩,G,SA,λ_ h=>h⟩
 ·have hD0:=aXl hk.1 hs hp hn G hD;refine aY<|wq<|wm Z<|wa (aF bEe Z (aJh (RdC.right ml [_]) (RdC.right No [_]) hk hs hN)) ?_;rintro _ _ ⟨bm,bl,rfl,rfl⟩;refine wn Z<|wq<|wm Z<|wy (aG Z)<|wy (aB (off:=3) (m:=3) ow Z eF Z Z Z)<|wy (aK (RdC.right ml [_,_]) aa Z Z Z)<|wy (aQ aa Z)<|wS Z Z<|wn Z<|aH ?_;refine gG (λ(i:Int) (D:List Int) (H:List Int)=>[(0,PG wk),(4,sl bm k.toNat bl),(5,I i)]) (λi D H=>((ri 3 bm k.toNat bl H)::(ri 3 mu s.length mv D)::R)) (λi D H=>(-1<=i)/\(i<s.length)/\(D=(itS s k l (s.length-1-i).toNat).1)/\(H=(itS s k l (s.length-1-i).toNat).2)) (λi D H=>(i+1).toNat) ?_ ?_
  ·exact⟨((s.length:Nat):Int)-1,D,qP (eD s k),⟨G,G,(by rw[show((s.length:Int)-1-(((s.length:Nat):Int)-1)).toNat=0 by omega];exact hD0),(by rw[show((s.length:Int)-1-(((s.length:Nat):Int)-1)).toNat=0 by omega];rfl)⟩,SA,λ_ h=>h⟩
  intro i D H ⟨ar,jj,hD,hH⟩;refine aD<|wq<|wm Z<|wy (gZ Z Z)<|aA<|bF Z (λkl=> ?_) (λkl=> ?_)
  ·have hf:=bHh hk.1 hs hp hn G G hD hH;have Uq:=hf.1;refine aL<|aD<|aH<|wq<|wm Z<|wy (aG Z)<|wy (aB (off:=3) (m:=3) ow Z eF Z Z Z)<|wy (aK (RdC.right ml [_,_]) aa Z Z Z)<|wm Z<|wy (aI aa sz3 Z Z (rdr 1 Z))<|wy (aW ak Z Z (rdr 1 Z))<|wn Z<|aD ?_;refine aN<|wm Z<|wy (dJ Z Z)<|wm Z<|dD 9 [(0,PG wk),(4,sl bm k.toNat bl),(5,I i),(6,I (rd D i)),(65, .bool (decide ((0<(rd D i))/\(rdb (smL s) ((rd D i)-1)=true))))] ((ri 3 bm k.toNat bl H)::(ri 3 mu s.length mv D)::R) ?_ ?_
   ·refine bV 56 Z (λmd=> ?_) (λmd=> ?_)
    ·refine aC Z Z<|wm Z<|aC Z Z<|wy (aG Z)<|aC Z Z<|wy (aB (off:=1) (m:=1) ow Z aRd Z Z Z)<|aC Z Z<|wy (aK (RdC.right ml [_,_]) qc Z Z Z)<|aC Z Z<|wm Z<|aC Z Z<|wS Z Z<|aC Z Z<|wy (aI qc sz4 Z Z (RdC.right f8 [_,_]))<|aC Z Z ?_;refine wy (FJ Bn Z Z (RdC.right f8 [_,_]))<|wy (bB Z Z)<|aA ?_;exact⟨SA,λ_ h=>h⟩
    ·refine aP Z Z Z Z<|aP Z Z Z Z<|aP Z Z Z Z<|aP Z Z Z Z<|aP Z Z Z Z<|aP Z Z Z Z<|aP Z Z Z Z<|aP Z Z Z Z<|wy (aS Z Z)<|aA ?_;exact⟨SA,λ_ h=>h⟩
   refine aA<|bF Z (λvt=> ?_) (λvt=> ?_)
   ·obtain ⟨g1,g2,g3,g4,g5⟩:=fSZ hk.1 hs hp hn G G hD hH vt;refine aN<|wm Z<|wm Z<|wm Z<|wS Z Z<|dB (R1:=((ri 3 mu s.length mv D)::(ri 3 bm k.toNat bl H)::R)) (Sub.refl _) (λ_ h=>h.selR (F:=[_,_]) (F':=[_,_]) [1,0] cC Z)<|wa (aF bEd Z (aUi (row:=D) (E:=H) (j:=((rd D i)-1)) (RdC.right ml []) (RdC.right bb []) hk hN ⟨G,G⟩ g2 ⟨hf.2.1,hf.2.2,rfl⟩ g3)) ?_;rintro _ _ ⟨rfl,rfl⟩;refine aA<|aN<|wm Z<|wS Z Z<|wn Z ?_;exact⟨i-1,upd D ((rd H (rd s ((rd D i)-1)))-1) ((rd D i)-1),upd H (rd s ((rd D i)-1)) ((rd H (rd s ((rd D i)-1)))-1),⟨G,G,(g4),(g5)⟩,G,SA,λ_ h=>h.selR (F:=[_,_]) (F':=[_,_]) [1,0] cC Z⟩
   ·have g4:=bOh hk.1 hs hp hn G G hD hH vt;refine aL<|aN<|wm Z<|wS Z Z<|wn Z ?_;exact⟨i-1,D,H,⟨G,G,(g4.1),(g4.2)⟩,G,SA,λ_ h=>h⟩
  ·refine aHi (R1:=((ri 3 mu s.length mv D)::R)) (Sub.refl _) (λ_ h=>h.selR (F:=[_,_]) (F':=[_]) [1] cC Z) ?_;have Ph:((s.length:Int)-1-i).toNat=s.length:=G
   rw[Ph] at hD;subst hD;refine aY ?_;exact⟨Z,Z⟩
theorem aAh (s:List Int):(bU s).Pairwise (· <= ·):=by
 unfold bU iota;exact((iw.2 (List.pairwise_lt_range.imp λh=>G)).sublist uj)
theorem aLe {s l:List Int}:kV l=bU s↔l.Perm (bU s):=by
 constructor
 ·intro h;rw[<-h];exact(lQ l).symm
 ·intro h;exact((lQ l).trans h).eq_of_pairwise (λa b _ _ h1 h2=>Int.le_antisymm h1 h2) (AB l) (aAh s)
theorem fFZ {s l D H:List Int} {k:Int} (hk:0<=k) (hs: ∀x∈s,0<=x/\x<k) (hp:l.Perm (bU s)) {m:Nat} (hm:m<l.length) (hr:D=(itF s k (l.drop (l.length-m))).1) (hE:H=(itF s k (l.drop (l.length-m))).2):
  (0<=rd l ((l.length-1-m:Nat):Int)/\rd l ((l.length-1-m:Nat):Int)<s.length)/\(0<=rd s (rd l ((l.length-1-m:Nat):Int))/\rd s (rd l ((l.length-1-m:Nat):Int))<k)/\(0<=rd H (rd s (rd l ((l.length-1-m:Nat):Int)))-1/\rd H (rd s (rd l ((l.length-1-m:Nat):Int)))-1<s.length)/\(D.length=s.length/\H.length=k.toNat)/\
  upd D (rd H (rd s (rd l ((l.length-1-m:Nat):Int)))-1) (rd l ((l.length-1-m:Nat):Int))=(itF s k (l.drop (l.length-(m+1)))).1/\upd H (rd s (rd l ((l.length-1-m:Nat):Int))) (rd H (rd s (rd l ((l.length-1-m:Nat):Int)))-1)=(itF s k (l.drop (l.length-(m+1)))).2:=by
 have e:l.length-1-m+1=l.length-m:=G
 have h:=fF (row:=D) (E:=H) hk hs hp (m:=l.length-1-m) G (by rw[e];exact hr) (by rw[e];exact hE);rwa[show l.length-(m+1)=l.length-1-m by omega]
theorem aFi {s l:List Int} (hp:l.Perm (bU s)):l.length<=s.length:=by rw[hp.length_eq];exact MF
set_option maxHeartbeats 2000000 in
theorem aHs {w:World} {cr:Option Addr} {gw cq:Nat} {s:List Int} {k:Int} {kd:Option Addr} {mt ke:Nat} {l:List Int} (bb:Rd w cr gw cq 1 (ints .i64 s)) (fk:Rd w kd mt ke 1 (ints .i64 l)) (dg:(0<=k/\k<=1048576)/\ ∀x∈s,0<=x/\x<k) (hp:l.Perm (bU s)) (hN:s.length<=1000000):
  Ct Tryz.prog 291 #[sl cr gw cq,I k,sl kd mt ke] w.heap.size w [] (λv R'=> ∃A c,v= .tuple #[sl A s.length c,bt]/\R'=[(ri 3 A s.length c (qN s k l))]):=by
 obtain rfl:=bb.lenI;obtain rfl:=fk.lenI;refine fnV Tryz.func291 Z Z ?_;have xb:=bb.max;have Oy:=fk.max;have hk:=dg.1;have hs:=dg.2;have ub:=aFi hp;have kx:(eD s k).length=k.toNat:=dY _ _;refine gN ?_;refine aN<|wg Z<|wn Z ?_;refine gN ?_;refine aN<|wm Z<|wm Z<|wa (aF aAy Z (Ct.fresh (λw hw=>oP ((bb.c _) w hw) cE))) ?_;rintro _ _ ⟨_,rfl,bm,bl,rfl,rfl⟩;refine wm Z<|wX Z Z<|wX Z Z<|wg Z<|wn Z ?_;refine gN ?_;refine aN<|wm Z<|wa (aF bEf Z (PL)) ?_;rintro _ _ ⟨ew,rfl,rfl⟩;refine wa (aF bEg Z (Ct.fresh (λw hw=>QB ((fk.c _) w hw) ((rdr 0 Z) w hw) G))) ?_;rintro _ _ ⟨_,rfl,fb,kt,rfl,rfl⟩;refine wn Z ?_;refine gN ?_;refine wq<|wm Z<|wy (dU Z)<|wm Z<|aC Z Z<|wm Z<|aC Z Z<|wm Z<|aC Z Z<|wa (aF bEk Z (Ct.fresh (λw hw=>aAj ((bb.c _) w hw) cE))) ?_;rintro _ _ ⟨_,rfl,kh,mn,rfl,rfl⟩;refine aC Z Z<|wa (aF bJq Z (Ct.quiet (λw hw=>RN ((rdr 1 Z) w hw) ((rdr 0 Z) w hw) (by rw[(lQ l).length_eq];omega)))) ?_;rintro _ _ ⟨rfl,rfl⟩;refine kK 30 Z (aLe.2 hp)<|aC Z Z<|wy (dU Z)<|wy (aS Z Z)<|aA<|aJ Z<|aL ?_;refine gN ?_;refine wq<|wm Z<|wy (aQ aa Z)<|wy (aX Z Z)<|aA<|bF Z (λaq=> ?_) (λaq=> ?_)
 ·refine wq<|wa (bL .i64 [] aa zs3 Z Z Z) ?_;rintro _ _ ⟨jn,rfl,rfl⟩;refine wg Z<|wn Z<|aT [0] 99 cC Z ?_;refine aVk Z Gd.refl ⟨_,_,Z,Z,?_⟩;have e:s=[]:=ed G;subst e;rw[aAc hp];exact⟨_,_,Z,Z⟩
 ·have hn:0<s.length:=G
  refine aL ?_;refine gN ?_;refine aN<|wm Z<|wm Z<|wa (aF bEh Z (Ct.fresh (λw hw=>XO ((bb.c _) w hw) cE))) ?_;rintro _ _ ⟨_,rfl,ia,ie,rfl,rfl⟩;refine wm Z<|wa (bL .i64 [-1] aa zs3 Z Z Z) ?_;rintro _ _ ⟨v6,rfl,rfl⟩;refine wm Z<|wy (aQ aa Z)<|wa (aF bKj Z (Ct.fresh (λw hw=>aDz ((rdr 0 Z) w hw) Z Z ⟨G,G⟩))) ?_;rintro _ _ ⟨_,rfl,cy,da,rfl,rfl⟩;refine wy (dZ (v:= .agg #[sl cr s.length cq,sl ia s.length ie,sl bm ((k).toNat) bl,sl cy s.length da]) Z (λw=>cA))<|wa (bR (sz:=4) rfl rfl) ?_;rintro _ _ ⟨vq,rfl,rfl⟩;refine wa (jF (sz:=1) bIj Z) ?_;rintro _ _ ⟨ge,rfl,rfl⟩;refine bY (bC 0 Z Z Z bJg Z Z Z Z (au Z)) ?_;rintro _ _ rfl;refine aA ?_;refine gN ?_;refine aN<|wy (aK (rdr 0 Z) Eg Z Z Z)<|wa (aF bEe Z (aJh (rdr 1 Z) (rdr 8 Z) hk hs hN)) ?_;rintro _ _ ⟨gl,gn,rfl,rfl⟩;refine wa (jF (sz:=1) bNv Z) ?_;rintro _ _ ⟨xi,rfl,rfl⟩;refine bY (bC 0 Z Z Z eF Z Z Z Z (au Z)) ?_;rintro _ _ rfl;refine aA ?_;refine aHk ?_;refine gN ?_;refine aN<|wm Z<|wa (aF bEt Z (aCh)) ?_;rintro _ _ ⟨Ni,rfl,rfl⟩;refine aA ?_;refine IA ?_;refine aQq Z bEn (NP (A:=kd) (c:=ke) (zs:=l) G) Z (λ_=>Z) Gd.refl (λ(kr:Nat) (D:List Int) (H:List Int)=>[(rc 52 1 Ni [sl kd l.length ke]),(rc 52 1 xi [sl gl k.toNat gn]),(ri 3 gl k.toNat gn H),(rc 350 1 ge [PG vq]),(rc 352 4 vq [sl cr s.length cq,sl ia s.length ie,sl bm ((k).toNat) bl,sl cy s.length da]),(ri 3 cy s.length da D),(ri 3 (GG v6) 1 1 ([-1])),⟨4,1,ia,s.length,ie,bools (smL s),false⟩,(ri 3 kh ((bU s).length) mn (bU s)),(ri 3 fb ((kV l).length) kt (kV l)),(rc 52 1 ew [sl kd l.length ke]),(ri 3 bm ((k).toNat) bl (eD s k))]) (λkr D H=>(D=(itF s k (l.drop (l.length-kr))).1)/\(H=(itF s k (l.drop (l.length-kr))).2)) ?_ ?_ ?_ ?_
  ·exact⟨List.replicate s.length ((-1):Int),qP (eD s k),⟨(by rw[ze,Ib];rfl),(by rw[ze,Ib];rfl)⟩,λ_ h=>h⟩
  ·intro kr D H w ⟨hD,hH⟩ hw;exact⟨(rdr 0 Z) w hw,(fk.c _) w hw⟩
  ·intro lr kr D H WW2 Mo ⟨hD,hH⟩ Xd;obtain⟨f1,f2,f3,f4,f5,f6⟩:=fFZ hk.1 hs hp Mo hD hH;refine aN<|wn Z ?_;intro Vu i9;refine aH<|aN<|wy (aK (rdr 3 Z) Eg Z Z Z)<|wy (aK (rdr 1 Z) aa Z Z Z)<|wm Z<|dB (R1:=[(ri 3 cy s.length da D),(ri 3 gl k.toNat gn H),(rc 52 1 Ni [sl kd l.length ke]),(rc 52 1 xi [sl gl k.toNat gn]),(rc 350 1 ge [PG vq]),(rc 352 4 vq [sl cr s.length cq,sl ia s.length ie,sl bm ((k).toNat) bl,sl cy s.length da]),(ri 3 (GG v6) 1 1 ([-1])),⟨4,1,ia,s.length,ie,bools (smL s),false⟩,(ri 3 kh ((bU s).length) mn (bU s)),(ri 3 fb ((kV l).length) kt (kV l)),(rc 52 1 ew [sl kd l.length ke]),(ri 3 bm ((k).toNat) bl (eD s k))]) (Sub.refl _) (λ_ h=>h.sel [5,2,0,1,3,4,6,7,8,9,10,11] cC Z)<|wa (aF bEd Z (aUi (row:=D) (E:=H) (j:=(rd l ((l.length-1-kr:Nat):Int))) (rdr 3 Z) (bb.cb i9 _) hk hN f1 f2 ⟨f4.1,f4.2,Z⟩ f3)) ?_;rintro _ _ ⟨rfl,rfl⟩;refine aA ?_;exact⟨upd D ((rd H (rd s (rd l ((l.length-1-kr:Nat):Int))))-1) (rd l ((l.length-1-kr:Nat):Int)),upd H (rd s (rd l ((l.length-1-kr:Nat):Int))) ((rd H (rd s (rd l ((l.length-1-kr:Nat):Int))))-1),⟨(f5),(f6)⟩,λ_=>λ_ h=>h.sel [2,3,1,4,5,0,6,7,8,9,10,11] cC Z⟩
  intro WW25 DW2 D H ⟨hD,hH⟩ Mh Qz;rw[za,De] at hD;refine aHm ?_;refine aYx ?_;refine v_w ?_;refine wq<|wy (aK (rdr 3 Z) Eg Z Z Z)<|dB (R1:=[(ri 3 cy s.length da D),(rc 52 1 Ni [sl kd l.length ke]),(rc 52 1 xi [sl gl k.toNat gn]),(ri 3 gl k.toNat gn H),(rc 350 1 ge [PG vq]),(rc 352 4 vq [sl cr s.length cq,sl ia s.length ie,sl bm ((k).toNat) bl,sl cy s.length da]),(ri 3 (GG v6) 1 1 ([-1])),⟨4,1,ia,s.length,ie,bools (smL s),false⟩,(ri 3 kh ((bU s).length) mn (bU s)),(ri 3 fb ((kV l).length) kt (kV l)),(rc 52 1 ew [sl kd l.length ke]),(ri 3 bm ((k).toNat) bl (eD s k))]) (Sub.refl _) (λ_ h=>h.sel [5,0,1,2,3,4,6,7,8,9,10,11] cC Z)<|wa (aF bKi Z (aUj (row:=D) (rdr 4 Z) (bb.cb Mh _) (rdr 6 Z) (rdr 10 Z) hk hs hN hp hn hD)) ?_;rintro _ _ ⟨rfl,rfl⟩;refine aA<|wq<|wy (aK (rdr 4 Z) Eg Z Z Z)<|wa (aF bKg Z (aLg (rdr 4 Z) (bb.cb Mh _) (rdr 6 Z) (rdr 10 Z) hk hs hN hp hn)) ?_;rintro _ _ ⟨rfl,rfl⟩;refine aA<|wq<|wy (aK (rdr 4 Z) Eg Z Z Z)<|wy (aG Z)<|wy (aB (off:=3) (m:=3) ow Z eF Z Z Z)<|wy (aK (rdr 5 Z) aa Z Z Z)<|wg Z<|wn Z<|aT [0] 99 cC Z ?_;refine aVk Z Qz ⟨_,_,Z,Z,?_⟩;exact⟨_,_,Z,Z⟩
end Go.Proofs.YtdbebmmhdefgdaaGreat
namespace Go.Eng
open Go Go.RowKit
section
variable {P:Program} {n:Nd} {B:Nat} {w0:World} {ops:Array Oper} {K:Env->List Row->Prop} {L:Env} {R Rc:List Row} {op:Op} {ty:TypeId} {pos:String} {mm:Array Edge}
def WDc (P:Program) (n:Nd) (B:Nat) (w0:World) (ops:Array Oper) (K:Env->List Row->Prop) (ac:Nat) (ab:Array Bool) (L:Env) (R Rc:List Row):Prop:=
 ∀a w (Q:Exit->Act->World->Prop),Sat n L a->Hp B w0 w R->(∀w,Hp B w0 w R->Hp B w0 w Rc)->(∀c a w,¬Q (.panic c) a w)->(∀a' w' L' R',Sat n L' a'->Hp B w0 w' R'->K L' R'->Q .normal a' w')->uX P ops Q ac (λw=>Hp B w0 w Rc) ab a w
def aCm (P:Program) (n:Nd) (B:Nat) (w0:World) (ops:Array Oper) (K:Env->List Row->Prop) (ac:Nat) (ab:Array Bool) (L:Env) (R Rc:List Row) (i:Nat):Prop:=
 ∀a w (Q:Exit->Act->World->Prop),Sat n L a->Hp B w0 w R->(∀w,Hp B w0 w R->Hp B w0 w Rc)->(∀c a w,¬Q (.panic c) a w)->(∀a' w' L' R',Sat n L' a'->Hp B w0 w' R'->K L' R'->Q .normal a' w')->
  wpOp P ops Q i (λa' w'=> ∃S':World->Prop,S' w'/\(NN ops ab i=true\/ ∀x,S' x->Hp B w0 x Rc)/\uX P ops Q ac S' (ab.setIfInBounds i true) a' w') a w
theorem bOa {ac:Nat} {ab:Array Bool} (h:WDc P n B w0 ops K ac ab L R R):WD P n B w0 ops K ac ab L R:=
 λa w Q hs hp fc hq=>h a w Q hs hp (λ_ h=>h) fc hq
theorem lH {d:Nat} {v:Value} {ac:Nat} {ab:Array Bool} (i:Nat) (hi:ops[i]? =some {dst:=some d,op:=op,type:=ty,pos:=pos,after:=mm,guard:=none}) (hc:chk ops ab i=true) (hn:Nat.blt d n=true)
  (hy:Yl P n B w0 op ty L Rc v) (h:WDc P n B w0 ops K ac (ab.setIfInBounds i true) ((d,v)::L) R Rc):WDc P n B w0 ops K (ac+1) ab L R Rc:=by
 intro a w Q hs hp tc fc hq;simp only[chk,pq] at hc;obtain⟨⟨⟨h1,h2⟩,h3⟩,h4⟩:=hc;refine zQ hi (zx h1) (λc a w hh=>(fc c _ w hh).elim) ac _ ab a w h4 (Bv hi h2) (by simpa using h3) (.inl ⟨rfl,λw hw=>hy a w _ rfl rfl hs hw⟩) (tc w hp) ?_;exact h _ w Q (hs.put hn v) hp tc fc hq
theorem NJ {ac:Nat} {ab:Array Bool} (hr:Region.ready .any ops ab=[]) (h:K L R):WDc P n B w0 ops K ac ab L R Rc:=by
 intro a w Q hs hp _ fc hq;cases ac with
 |zero=>exact⟨hr,hq _ _ L R hs hp h⟩
 |succ ac=>exact⟨λ_=>hq _ _ L R hs hp h,by rw[hr];simp⟩
theorem CW {d:Nat} {Post:Value->List Row->Prop} {ac:Nat} {ab:Array Bool} (i:Nat) (hi:ops[i]? =some {dst:=some d,op:=op,type:=ty,pos:=pos,after:=mm,guard:=none}) (hn:Nat.blt d n=true) (ha:Ac P n B w0 op ty L R Post)
  (h: ∀v R',Post v R'->(∀w,Hp B w0 w R'->Hp B w0 w Rc)/\WDc P n B w0 ops K ac (ab.setIfInBounds i true) ((d,v)::L) R' Rc):aCm P n B w0 ops K ac ab L R Rc i:=by
 intro a w Q hs hp tc fc hq;unfold wpOp;simp only[hi];rw[df (by simp[Region.wanted])];refine .inl (ha a w _ _ Q rfl rfl hs hp λv w' R' ci hv=> ?_);obtain⟨h1,h2⟩:=h v R' hv;exact⟨λw=>Hp B w0 w Rc,h1 w' ci, .inr λ_ h=>h,h2 _ w' Q (hs.put hn v) ci h1 fc hq⟩
theorem bNr {Post:Value->List Row->Prop} {ac:Nat} {ab:Array Bool} (i:Nat) (hi:ops[i]? =some {dst:=none,op:=op,type:=ty,pos:=pos,after:=mm,guard:=none}) (ha:Ac P n B w0 op ty L R Post)
  (h: ∀v R',Post v R'->(∀w,Hp B w0 w R'->Hp B w0 w Rc)/\WDc P n B w0 ops K ac (ab.setIfInBounds i true) L R' Rc):aCm P n B w0 ops K ac ab L R Rc i:=by
 intro a w Q hs hp tc fc hq;unfold wpOp;simp only[hi];rw[df (by simp[Region.wanted])];refine .inl (ha a w _ _ Q rfl rfl hs hp λv w' R' ci hv=> ?_);obtain⟨h1,h2⟩:=h v R' hv;exact⟨λw=>Hp B w0 w Rc,h1 w' ci, .inr λ_ h=>h,h2 _ w' Q hs ci h1 fc hq⟩
theorem pF {ac:Nat} {ab:Array Bool} (i:Nat) (hr:Region.ready .any ops ab=[i]) (hi:aCm P n B w0 ops K ac ab L R Rc i):WDc P n B w0 ops K (ac+1) ab L R Rc:=by
 intro a w Q hs hp tc fc hq;refine⟨λh0=>absurd (hr▸h0) cD,λk hk=> ?_⟩;rw[hr] at hk;obtain rfl:=ib.1 hk;exact hi a w Q hs hp tc fc hq
theorem aXp {ac:Nat} {ab:Array Bool} (i j:Nat) (hr:Region.ready .any ops ab=[i,j]) (hi:aCm P n B w0 ops K ac ab L R Rc i) (hj:aCm P n B w0 ops K ac ab L R Rc j):WDc P n B w0 ops K (ac+1) ab L R Rc:=by
 intro a w Q hs hp tc fc hq;refine⟨λh0=>absurd (hr▸h0) cD,λk hk=> ?_⟩;rw[hr] at hk;rcases jm.1 hk with rfl|hk
 ·exact hi a w Q hs hp tc fc hq
 ·obtain rfl:=ib.1 hk;exact hj a w Q hs hp tc fc hq
theorem GI {ac:Nat} {ab:Array Bool} {d:Nat} {u v:Value} (hu:u=v) (h:WDc P n B w0 ops K ac ab ((d,v)::L) R Rc):WDc P n B w0 ops K ac ab ((d,u)::L) R Rc:=by
 subst hu;exact h
end
end Go.Eng
namespace Go.Proofs.YtdbebmmhdefgdaaGreat
open Go Go.Eng Go.Pure
set_option maxRecDepth 100000
open Tryz
variable {w:World} {th:Option Addr} {yq tj:Nat} {a:List Int}
set_option maxHeartbeats 600000 in
theorem aUt (mz:Rd w th yq tj 1 (ints .i64 a)) (hp:a.Perm (iota a.length)) (hN:a.length<=1000000):
  Ct Tryz.prog 261 #[sl th yq tj] w.heap.size w [] (λv R'=> ∃A c V,v= .tuple #[sl A a.length c,bt]/\R'=[(ri 3 A a.length c V)]):=by
 obtain rfl:=mz.lenI;refine fn2 Tryz.func261 Z Z Z ?_;have Qb:=mz.max;have hnd:a.Nodup:=hp.symm.nodup (eO _);refine wq<|wg Z<|wn Z<|wq<|wm Z<|wy (aQ aa Z)<|wa (dL aa zb3 Z Z) ?_;rintro _ _ ⟨an,rfl,rfl⟩;refine bK (v:=sl (GG an) a.length a.length) Z<|wn Z<|aD<|wq<|wn Z<|aH ?_;refine dR (λ(q:Int) (D:List Int)=>[(0,sl th a.length tj),(4,sl (GG an) a.length a.length),(5,I q)]) (λq D=>[(ri 3 (GG an) a.length a.length D)]) (λq D=>(0<=q)/\(q<=a.length)/\(D.length=a.length)/\(∀j:Int,0<=j->j<q->rd D j= -1)) (λq D=>(a.length-q).toNat) ?_ ?_
 ·exact⟨0,List.replicate a.length (0:Int),⟨G,G,(by rw[cz]),(λj h1 h2=>G)⟩,SA,λ_ h=>h⟩
 intro q D ⟨kf,yp,Qw,hD⟩;refine aD<|wq<|wm Z<|wm Z<|wy (aQ aa Z)<|wL Z Z<|aA<|bF Z (λaq=> ?_) (λaq=> ?_)
 ·refine aL<|aD<|aH<|aN<|wm Z<|wm Z<|wy (aI aa sz3 Z Z (rdr 0 Z))<|bY (bJ 0 Z sz3 Z Z) ?_;rintro _ _ rfl;refine aA<|aN<|wm Z<|wA Z Z<|wn Z ?_;exact⟨q+1,upd D q (-1),⟨G,G,(by rw[bD];exact Qw),(eX (f:=λ_=> -1) kf G hD Z)⟩,G,SA,λ_ h=>h⟩
 ·refine aY<|aD<|wq<|wn Z<|aH ?_;refine dR (λ(i:Int) (D:List Int)=>[(0,sl th a.length tj),(4,sl (GG an) a.length a.length),(6,I i)]) (λi D=>[(ri 3 (GG an) a.length a.length D)]) (λi D=>(0<=i)/\(i<=a.length)/\(D.length=a.length)/\(∀x:Int,0<=x->x<a.length->0<=rd D x-> ∃q:Int,0<=q/\q<i/\rd a q=x)) (λi D=>(a.length-i).toNat) ?_ ?_
  ·exact⟨0,D,⟨G,G,(Qw),(λx h0 h1 h2=>by have:=hD x h0 G;omega)⟩,SA,λ_ h=>h⟩
  intro i D ⟨ar,jj,Qw,hV⟩;refine aD<|wq<|wm Z<|wm Z<|wy (aQ aa Z)<|wL Z Z<|aA<|bF Z (λce=> ?_) (λce=> ?_)
  ·have ha:=bE.1 (hp.subset (bN (L:=a) ar G));refine aL<|aD<|aH<|aD<|wq<|wm Z<|wm Z<|wy (aI aa sz3 Z Z (mz.c _))<|wy (aW ak Z Z (mz.c _))<|wy (Yl.f (eG Z Z))<|wm Z<|aC Z Z<|wm Z<|aC Z Z ?_;refine wm Z<|aC Z Z<|wy (aI aa sz3 Z Z (mz.c _))<|aC Z Z<|wy (aW ak Z Z (mz.c _))<|aC Z Z<|wm Z<|aC Z Z<|wy (aQ aa Z)<|aC Z Z<|wy (Yl.f (gZ Z Z))<|wy (aS Z Z)<|wm Z<|aC Z Z<|wm Z ?_
   refine aC Z Z<|wm Z<|aC Z Z<|wm Z<|aC Z Z<|wy (aI aa sz3 Z Z (mz.c _))<|aC Z Z<|wy (aW ak Z Z (mz.c _))<|aC Z Z<|wy (aI aa sz3 Z Z (rdr 0 Z))<|aC Z Z<|wy (aW ak Z Z (rdr 0 Z))<|aC Z Z<|wy (Yl.f (gZ Z Z) (λh=>by
      obtain⟨q,q0,q1,e⟩:=hV _ ha.1 ha.2 h;have:=jX hnd q0 G ar G e
      omega)) ?_
   refine wy (aS Z Z)<|aA<|aJ Z<|aL<|aN<|wm Z<|wm Z<|wm Z<|wy (aI aa sz3 Z Z (mz.c _))<|wy (aW ak Z Z (mz.c _))<|wm Z<|wy (aI aa sz3 Z Z (rdr 0 Z))<|bY (bJ 0 Z sz3 Z Z) ?_;rintro _ _ rfl;refine aA<|aN<|wm Z<|wA Z Z<|wn Z ?_
   exact⟨i+1,upd D (rd a i) i,⟨G,G,(by rw[bD];exact Qw),(λx x0 x1 hx=>by
     rw[fV ha.1 x0 G] at hx;by_cases e:x=rd a i
     ·exact⟨i,ar,G,e.symm⟩
     ·rw [bu e] at hx;obtain⟨q,q0,q1,h⟩:=hV x x0 x1 hx
      exact⟨q,q0,G,h⟩)⟩,G,SA,λ_ h=>h⟩
  ·refine aY<|wq<|wm Z<|wg Z<|wn Z<|aT [0] 99 cC Z ?_;refine⟨_,_,Z,Z,?_⟩;exact⟨_,_,_,Z,Z⟩
theorem bBv (mz:Rd w th yq tj 1 (ints .i64 a)) (hp:a.Perm (iota a.length)) (hN:a.length<=1000000):
  Ct Tryz.prog 215 #[sl th yq tj] w.heap.size w [] (λv R'=>v=bt):=by
 obtain rfl:=mz.lenI;refine fn1 Tryz.func215 Z Z Z ?_;have Qb:=mz.max;refine wq<|wn Z<|wq<|wm Z<|wa (aF bLe Z (Ct.fresh (λw hw=>aUt ((mz.c _) w hw) hp G))) ?_;rintro _ _ ⟨_,rfl,bm,bl,V_3,rfl,rfl⟩;refine wm Z<|wX Z Z<|wX Z Z<|wg Z<|wn Z<|wq<|wm Z<|wn Z<|aT [] 99 cC Z ?_;refine⟨_,Z,?_⟩;rfl
theorem xR {s l:List Int} {k:Int} (hk:0<=k) (hs: ∀x∈s,0<=x/\x<k) (hp:l.Perm (bU s)):(qN s k l).length=s.length/\(qN s k l).Perm (iota s.length)/\(∀q:Int,0<=q->q+1<s.length->rd s (rd (qN s k l) q)<=rd s (rd (qN s k l) (q+1)))/\(l.Pairwise (bX s)->(qN s k l).Pairwise (bX s)):=by
 refine⟨aUx hk hs hp,?_⟩;rcases dz s.length with h|h
 ·have e:s=[]:=ed h;subst e;rw[aAc hp];exact⟨.refl _,λq h0 h1=>by simp at h1;omega,λ_=> .nil⟩
 ·exact aIz hk hs hp h
variable {w:World} {cr:Option Addr} {gw cq:Nat} {s:List Int} {k:Int}
theorem YV {k9:Option Addr} {Jx l7:Nat} {x:List Int} {i:Int} (bb:Rd w cr gw cq 1 (ints .i64 s)) (ml:Rd w k9 Jx l7 1 (ints .i64 x)) (hi:0<=i/\i<s.length) (hx:x.length=s.length) (t6:i<rd x i) (Sd:rd x i<=s.length) (hN:s.length<=1000000):
  Ct Tryz.prog 321 #[sl cr gw cq,sl k9 Jx l7,I i] w.heap.size w [] (λv R'=>v=sl (jA cr i.toNat cq 1) ((min (rd x i+1) ((s.length:Nat):Int)).toNat-i.toNat) (cq-i.toNat)):=by
 obtain rfl:=bb.lenI;obtain rfl:=ml.lenI;refine fn1 Tryz.func321 Z Z Z ?_;have xb:=bb.max;have Zo:=ml.max;refine wq<|wn Z<|wq<|wm Z<|wm Z<|wm Z<|wm Z<|wy (aI aa sz3 Z Z (ml.c _))<|wy (aW ak Z Z (ml.c _))<|wA Z Z<|wm Z<|wy (aQ aa Z) ?_;refine wy (rV Z Z)<|wy (aHf aa sz3 Z Z Z (bb.c _) G G G)<|wn Z<|bW ?_;refine⟨_,Z,?_⟩;rfl
set_option maxHeartbeats 1000000 in
theorem aTt {Kk:Option Addr} {n_f Kp:Nat} {f:List Int} {yy:Option Addr} {Oz zp:Nat} {o:List Int} (bb:Rd w cr gw cq 1 (ints .i64 s)) (Md:Rd w Kk n_f Kp 1 (ints .i64 f)) (Um:Rd w yy Oz zp 1 (ints .i64 o)) (hs:Nn s) (hf:f=bU s) (St:o.Perm (iota s.length)) (hoo:o.Pairwise (pcS s)) (hN:s.length<=1000000):
  Ct Tryz.prog 292 #[sl cr gw cq,sl Kk n_f Kp,sl yy Oz zp] w.heap.size w [] (λv R'=> ∃(nx nm:List Int) (n la:Int) (A:Option Addr) (c:Nat),v= .tuple #[sl A f.length c,I (n+1)]/\sQ s nx (bU s).length/\zK s o nx s.length nm n la/\R'=[(ri 3 A f.length c (f.map (rd nm)))]):=by
 obtain rfl:=bb.lenI;obtain rfl:=Md.lenI;obtain rfl:=Um.lenI;refine fn2 Tryz.func292 Z Z Z ?_;have xb:=bb.max;have m_f:=Md.max;have m_o:=Um.max;have Vb:o.length=s.length:=by rw[St.length_eq,bI]
 have tx:f.length<=s.length:=by rw[hf];exact MF
 refine wq<|wg Z<|wn Z<|wq<|wm Z<|wy (aQ aa Z)<|wa (dL aa zb3 Z Z) ?_;rintro _ _ ⟨an,rfl,rfl⟩;refine bK (v:=sl (GG an) s.length s.length) Z<|wn Z<|aD<|wq<|wm Z<|wy (aQ aa Z)<|wm Z<|aA<|aH ?_;refine dR (λ(i:Int) (V:List Int)=>[(0,sl cr s.length cq),(1,sl Kk f.length Kp),(2,sl yy o.length zp),(8,sl (GG an) s.length s.length),(22,sl Kk f.length Kp),(23,I ((f.length:Nat):Int)),(24,I i)]) (λi V=>[(ri 3 (GG an) s.length s.length V)]) (λi V=>(0<=i)/\(i<=f.length)/\(sQ s V i)) (λi V=>(f.length-i).toNat) ?_ ?_
 ·exact⟨0,List.replicate s.length (0:Int),⟨G,G,(bAz)⟩,SA,λ_ h=>h⟩
 intro i V ⟨ar,jj,hV⟩;have lz:=hV.len;have hfi:i<f.length->0<=rd f i/\rd f i<s.length:=λh=>by subst hf;exact(oI ar h).1
 refine wq<|wL Z Z<|aA<|aD<|bF Z (λaq=> ?_) (λaq=> ?_)
 ·have hfi2:=hfi G;refine aL<|aD<|aH<|wq<|wm Z<|wy (aI aa sz3 Z Z (Md.c _))<|wy (aW ak Z Z (Md.c _))<|wg Z<|wn Z<|wq<|wm Z<|wm Z ?_;refine wm Z<|wy (aQ aa Z)<|wy (aI aa sz3 Z Z (rdr 0 Z))<|bY (bJ 0 Z sz3 Z Z) ?_;rintro _ _ rfl;refine aA<|wq<|wm Z<|wA Z Z<|wm Z<|wy (aQ aa Z)<|wL Z Z<|aA<|bF Z (λce=> ?_) (λce=> ?_)
  ·refine aN<|wm Z<|wm Z<|wm Z<|wm Z<|wA Z Z<|wy (aI aa sz3 Z Z (Md.c _))<|wy (aW ak Z Z (Md.c _))<|wy (aI aa sz3 Z Z (rdr 0 Z))<|bY (bJ 0 Z sz3 Z Z) ?_;rintro _ _ rfl;refine aA<|aN<|wA Z Z<|wm Z<|aA ?_;exact⟨i+1,upd (upd V (rd f i) ((s.length:Nat):Int)) (rd f i) (rd f (i+1)),⟨G,G,(by subst hf;exact hV.step2 ar G G)⟩,G,SA,λ_ h=>h⟩
  ·refine aL<|aN<|wA Z Z<|wm Z<|aA ?_;exact⟨i+1,upd V (rd f i) ((s.length:Nat):Int),⟨G,G,(by subst hf;exact hV.step1 ar G G)⟩,G,SA,λ_ h=>h⟩
 ·have w6:sQ s V (bU s).length:=by have e:i=(bU s).length:=(by rw[<-hf];omega);rw[<-e];exact hV
  refine aY<|wq<|wm Z<|wy (aQ aa Z)<|wa (dL aa zb3 Z Z) ?_;rintro _ _ ⟨cm,rfl,rfl⟩;refine bK (v:=sl (GG cm) s.length s.length) Z<|wn Z<|wq<|wg Z<|wn Z<|aD<|wq<|wm Z<|wy (aQ aa Z)<|wm Z<|aA ?_;refine aH ?_;refine HZ (λ(q:Int) (U:List Int) (n:Int) (la:Int)=>[(0,sl cr s.length cq),(1,sl Kk f.length Kp),(8,sl (GG an) s.length s.length),(11,sl (GG cm) s.length s.length),(12,I n),(13,I la),(51,sl yy o.length zp),(52,I ((o.length:Nat):Int)),(53,I q)]) (λq U n la=>[(ri 3 (GG cm) s.length s.length U),(ri 3 (GG an) s.length s.length V)]) (λq U n la=>(0<=q)/\(q<=o.length)/\(zK s o V q U n la)) (λq U n la=>(o.length-q).toNat) ?_ ?_
  ·exact⟨0,List.replicate s.length (0:Int),0,-1,⟨G,G,(aTw)⟩,SA,λ_ h=>h⟩
  intro q U n la ⟨kf,yp,hM⟩;have w5:=hM.len;have hMb:=hM.bd;have Dd:=hM.last_in St G
  have Ux:0<=la->la<s.length/\la<rd V la/\rd V la<=s.length:=λh=>by
   rcases Dd with e|⟨e,e2⟩
   ·omega
   ·have g:=w6.nx e.1 e.2 e2;exact⟨e.2,g.gt,g.le⟩
  have Yn:q<o.length->0<=rd o q/\rd o q<s.length:=λh=>bE.1 (St.subset (bN (L:=o) kf h));have hoz:q<o.length->(rd V (rd o q)=0↔gF s (rd o q)=false):=λh=>w6.zero (Yn h).1 (Yn h).2;refine wq<|wL Z Z<|aA<|aD<|bF Z (λfj=> ?_) (λfj=> ?_)
  ·have Lj:=Yn G;have Sv:=hoz G;refine aL<|aD<|aH<|wq<|wy (aI aa sz3 Z Z (Um.c _))<|wy (aW ak Z Z (Um.c _))<|wn Z<|aD<|wq<|wm Z<|wm Z<|wy (aI aa sz3 Z Z (rdr 1 Z)) ?_;refine wy (aW ak Z Z (rdr 1 Z))<|wy (aX Z Z)<|aA<|bF Z (λkl=> ?_) (λkl=> ?_)
   ·have It:=Sv.1 kl;refine aY<|aN<|wA Z Z<|wm Z<|aA ?_;exact⟨q+1,U,n,la,⟨G,G,(hM.skip It)⟩,G,SA,λ_ h=>h⟩
   ·have It:gF s (rd o q)=true:=by
     cases e:gF s (rd o q) with
     |true=>rfl
     |false=>exact absurd (Sv.2 e) kl
    have hgx:=w6.nx Lj.1 Lj.2 It;have Xr:=hgx.gt;have Ur:=hgx.le;have hlm: -1<=la:=G
    refine aL<|aD<|wq<|wm Z<|wy (gZ Z Z)<|wm Z<|dD 29 [(0,sl cr s.length cq),(1,sl Kk f.length Kp),(8,sl (GG an) s.length s.length),(11,sl (GG cm) s.length s.length),(12,I n),(15,I (rd o q)),(51,sl yy o.length zp),(52,I ((o.length:Nat):Int)),(53,I q),(93, .bool (decide ((0<=la)/\((((rd V (rd o q))=((s.length:Nat):Int))\/((rd V la)=((s.length:Nat):Int)))\/(¬((((s).drop (la).toNat).take ((min (rd V la+1) ((s.length:Nat):Int)).toNat-la.toNat))=(((s).drop (rd o q).toNat).take ((min (rd V (rd o q)+1) ((s.length:Nat):Int)).toNat-(rd o q).toNat))))))))] [(ri 3 (GG cm) s.length s.length U),(ri 3 (GG an) s.length s.length V)] ?_ ?_
    ·refine bV 64 Z (λmd=> ?_) (λmd=> ?_)
     ·refine aC Z Z<|wm Z<|aC Z Z<|wm Z<|aC Z Z<|wy (aI aa sz3 Z Z (rdr 1 Z))<|aC Z Z<|wy (aW ak Z Z (rdr 1 Z))<|aC Z Z<|wm Z<|aC Z Z<|wy (aQ aa Z)<|aC Z Z<|wy (aX Z Z)<|aC Z Z ?_;refine wm Z<|dD 8 [(0,sl cr s.length cq),(1,sl Kk f.length Kp),(8,sl (GG an) s.length s.length),(11,sl (GG cm) s.length s.length),(12,I n),(13,I la),(15,I (rd o q)),(51,sl yy o.length zp),(52,I ((o.length:Nat):Int)),(53,I q),(64,bt),(80, .bool (decide (((rd V (rd o q))=((s.length:Nat):Int))\/((rd V la)=((s.length:Nat):Int)))))] [(ri 3 (GG cm) s.length s.length U),(ri 3 (GG an) s.length s.length V)] ?_ ?_
      ·refine bV 72 Z (λvt=> ?_) (λvt=> ?_)
       ·refine aP Z Z Z Z<|aP Z Z Z Z<|aP Z Z Z Z<|aP Z Z Z Z<|aP Z Z Z Z<|aP Z Z Z Z<|aP Z Z Z Z<|aC Z Z<|wy (bB Z Z)<|aA ?_;exact⟨SA,λ_ h=>h⟩
       ·refine aC Z Z<|wm Z<|aC Z Z<|wm Z<|aC Z Z<|wy (aI aa sz3 Z Z (rdr 1 Z))<|aC Z Z<|wy (aW ak Z Z (rdr 1 Z))<|aC Z Z<|wm Z<|aC Z Z<|wy (aQ aa Z)<|aC Z Z<|wy (aX Z Z)<|aC Z Z ?_;refine wy (aS Z Z)<|aA ?_;exact⟨SA,λ_ h=>h⟩
      refine aC Z Z<|wm Z<|dD 11 [(0,sl cr s.length cq),(1,sl Kk f.length Kp),(8,sl (GG an) s.length s.length),(11,sl (GG cm) s.length s.length),(12,I n),(15,I (rd o q)),(51,sl yy o.length zp),(52,I ((o.length:Nat):Int)),(53,I q),(64,bt),(92, .bool (decide ((((rd V (rd o q))=((s.length:Nat):Int))\/((rd V la)=((s.length:Nat):Int)))\/(¬((((s).drop (la).toNat).take ((min (rd V la+1) ((s.length:Nat):Int)).toNat-la.toNat))=(((s).drop (rd o q).toNat).take ((min (rd V (rd o q)+1) ((s.length:Nat):Int)).toNat-(rd o q).toNat)))))))] [(ri 3 (GG cm) s.length s.length U),(ri 3 (GG an) s.length s.length V)] ?_ ?_
      ·refine bV 81 Z (λz7=> ?_) (λz7=> ?_)
       ·refine aP Z Z Z Z<|aP Z Z Z Z<|aP Z Z Z Z<|aP Z Z Z Z<|aP Z Z Z Z<|aP Z Z Z Z<|aP Z Z Z Z<|aP Z Z Z Z<|aP Z Z Z Z<|aP Z Z Z Z<|aC Z Z<|wy (bB Z Z)<|aA ?_;exact⟨SA,λ_ h=>h⟩
       ·refine aC Z Z<|wm Z<|aC Z Z<|wm Z<|aC Z Z<|wm Z<|aC Z Z<|wa (aF bEc Z (Ct.quiet (λw hw=>YV ((bb.c _) w hw) ((rdr 1 Z) w hw) cE cE cE cE cE))) ?_;rintro _ _ ⟨rfl,rfl⟩;refine aC Z Z<|wm Z<|aC Z Z<|wm Z<|aC Z Z<|wm Z<|aC Z Z<|wa (aF bEc Z (Ct.quiet (λw hw=>YV ((bb.c _) w hw) ((rdr 1 Z) w hw) cE cE cE cE cE))) ?_;rintro _ _ ⟨rfl,rfl⟩;refine aC Z Z<|wa (aF bJq Z (Ct.quiet (λw hw=>RN ((RdC.cutI (bb.c _) G G) w hw) ((RdC.cutI (bb.c _) G G) w hw) (by rw[ax,ay];omega)))) ?_;rintro _ _ ⟨rfl,rfl⟩;refine aC Z Z<|wy (DT Z)<|aC Z Z<|wy (aS Z Z)<|aA ?_;exact⟨SA,λ_ h=>h⟩
      refine wy (bB Z Z)<|aA ?_;exact⟨SA,λ_ h=>h⟩
     ·refine aP Z Z Z Z<|aP Z Z Z Z<|aP Z Z Z Z<|aP Z Z Z Z<|aP Z Z Z Z<|aP Z Z Z Z<|aP Z Z Z Z<|aP Z Z Z Z<|dW Z Z Z<|dW Z Z Z<|dW Z Z Z<|dW Z Z Z<|dW Z Z Z<|dW Z Z Z<|dW Z Z Z ?_;refine aP Z Z Z Z<|aP Z Z Z Z<|dW Z Z Z<|dW Z Z Z<|dW Z Z Z<|dW Z Z Z<|dW Z Z Z<|dW Z Z Z<|dW Z Z Z<|dW Z Z Z<|dW Z Z Z<|dW Z Z Z<|aP Z Z Z Z<|wy (aS Z Z)<|aA ?_;exact⟨SA,λ_ h=>h⟩
    refine aA<|bF Z (λRu=> ?_) (λRu=> ?_)
    ·have gv:=aTv (n:=n) Ux Lj.1 Xr Ur Ru;refine aN<|wm Z<|wA Z Z<|wn Z<|aN<|wm Z<|wm Z<|wm Z<|wm Z<|wy (aI aa sz3 Z Z (rdr 0 Z))<|bY (bJ 0 Z sz3 Z Z) ?_;rintro _ _ rfl;refine wn Z<|aN<|wA Z Z<|wm Z<|aA ?_;exact⟨q+1,upd U (rd o q) (n+1),n+1,rd o q,⟨G,G,(hM.step hs St hoo w6 kf G It gv)⟩,G,SA,λ_ h=>h⟩
    ·have gv:=aTu (n:=n) hlm Ux Lj.1 Xr Ur Ru;refine aL<|aN<|wm Z<|wm Z<|wm Z<|wm Z<|wy (aI aa sz3 Z Z (rdr 0 Z))<|bY (bJ 0 Z sz3 Z Z) ?_;rintro _ _ rfl;refine wn Z<|aN<|wA Z Z<|wm Z<|aA ?_;exact⟨q+1,upd U (rd o q) n,n,rd o q,⟨G,G,(hM.step hs St hoo w6 kf G It gv)⟩,G,SA,λ_ h=>h⟩
  ·refine aY<|wq<|dB (R1:=[(ri 3 none 0 0 ([])),(ri 3 (GG cm) s.length s.length U),(ri 3 (GG an) s.length s.length V)]) (Sub.refl _) (λ_ h=>h.nil 3 1)<|wn Z<|aD<|wq<|wm Z<|wy (aQ aa Z)<|wm Z<|aA<|aH ?_;refine fH (λ(A1:Option Addr) (n1:Nat) (c1:Nat) (acc:List Int) (j:Int)=>[(11,sl (GG cm) s.length s.length),(12,I n),(16,sl A1 n1 c1),(102,sl Kk f.length Kp),(103,I ((f.length:Nat):Int)),(104,I j)]) (λA1 n1 c1 acc j=>[(ri 3 A1 n1 c1 acc),(ri 3 (GG cm) s.length s.length U),(ri 3 (GG an) s.length s.length V)]) (λA1 n1 c1 acc j=>(n1=acc.length)/\(0<=j)/\(j<=f.length)/\(acc=(f.take j.toNat).map (rd U))) (λA1 n1 c1 acc j=>(f.length-j).toNat) ?_ ?_
   ·exact⟨none,0,0,[],0,⟨(Z),G,G,(Z)⟩,SA,λ_ h=>h⟩
   intro A1 n1 c1 acc j ⟨co,tz,n5,ba⟩;have tk:=bq List.length ba;rw[bz,ax] at tk;have hfj:j<f.length->0<=rd f j/\rd f j<s.length:=λh=>by subst hf;exact(oI tz h).1
   refine wq<|wL Z Z<|aA<|aD<|bF Z (λXj=> ?_) (λXj=> ?_)
   ·refine aL<|aD<|aH<|wq<|wy (aI aa sz3 Z Z (Md.c _))<|wy (aW ak Z Z (Md.c _))<|wn Z<|aN<|wm Z<|wm Z<|wm Z<|wy (aI aa sz3 Z Z (rdr 1 Z))<|wy (aW ak Z Z (rdr 1 Z)) ?_;refine wa (bL .i64 [rd U (rd f j)] aa zs3 Z Z Z) ?_;rintro _ _ ⟨gg,rfl,rfl⟩;refine wa (aV 1 Z aa zb3 Z Z Z (rdr 0 Z)) ?_;rintro _ _ ⟨fb,kt,rfl,rfl⟩;refine bK (v:=sl fb (n1+1) kt) Z<|wn Z<|aN<|wA Z Z<|wm Z<|aA ?_;exact⟨fb,n1+1,kt,acc++([rd U (rd f j)]),j+1,⟨(by rw[ah,co];try rfl),G,G,(by rw[dH tz G,jo,ba];rfl)⟩,G,SA,λ_ h=>h.sel [1,2,3] cC Z⟩
   ·refine aY<|wq<|wm Z<|wm Z<|wA Z Z<|wg Z<|wn Z<|aT [0] 99 cC Z ?_;refine⟨_,_,Z,Z,?_⟩;have Rb:zK s o V s.length U n la:=by have e:q=s.length:=G;rw[<-e];exact hM
    rw[bn G] at ba;subst ba;obtain rfl:n1=f.length:=G
    exact⟨V,U,n,la,_,_,Z,w6,Rb,Z⟩
set_option maxHeartbeats 1000000 in
theorem OC {w:World} {s:List Int} (bb:Rd w cr gw cq 1 (ints .i64 s)) (IH: ∀ {w:World} {pe:Option Addr} {rn pf:Nat} {t:List Int} {j:Int},Rd w pe rn pf 1 (ints .i64 t)->t.length<s.length->((0<=j/\j<=1048576)/\ ∀x∈t,0<=x/\x<j)->t.length<=1000000->Ct Tryz.prog 265 #[sl pe rn pf,I j] w.heap.size w [] (λv R'=> ∃(b:List Int) (A:Option Addr) (c:Nat),v=sl A t.length c/\b.Perm (iota t.length)/\b.Pairwise (bX t)/\R'=[(ri 3 A t.length c b)])) (dg:(0<=k/\k<=1048576)/\ ∀x∈s,0<=x/\x<k) (hN:s.length<=1000000):
  Ct Tryz.prog 265 #[sl cr gw cq,I k] w.heap.size w [] (λv R'=> ∃(b:List Int) (A:Option Addr) (c:Nat),v=sl A s.length c/\b.Perm (iota s.length)/\b.Pairwise (bX s)/\R'=[(ri 3 A s.length c b)]):=by
 obtain rfl:=bb.lenI;refine fn1 Tryz.func265 Z Z Z ?_;have xb:=bb.max;refine wq<|wn Z<|wq<|wm Z<|wa (aF bEk Z (Ct.fresh (λw hw=>aAj ((bb.c _) w hw) cE))) ?_;rintro _ _ ⟨_,rfl,bm,bl,rfl,rfl⟩;refine wn Z<|wq<|wm Z<|wm Z<|wm Z<|wa (aF bEj Z (Ct.fresh (λw hw=>aHs ((bb.c _) w hw) ((rdr 0 Z) w hw) dg (.refl _) hN))) ?_;rintro _ _ ⟨_,rfl,ff,fh,rfl,rfl⟩;refine wm Z<|wX Z Z<|wX Z Z<|wg Z<|wn Z<|aD<|wq<|wm Z<|wy (aQ aa Z)<|wL Z Z<|aA<|bF Z (λaq=> ?_) (λaq=> ?_)
 ·refine wq<|wm Z<|wn Z<|aT [0] 99 cC Z ?_;refine⟨_,Z,?_⟩;exact⟨_,_,_,Z,(xR dg.1.1 dg.2 (.refl _)).2.1,(xR dg.1.1 dg.2 (.refl _)).2.2.2 (aSw G),Z⟩
 ·have co:0<s.length:=by have:=MF (s:=s);omega
  have Sz:=aFf dg.1.1 dg.2 (l:=bU s) (.refl _) co;have Tm:Nn s:=λx hx=>(dg.2 x hx).1;have Sp:=aNv co;refine aL<|wq<|wm Z<|wm Z<|wm Z<|wa (aF bKq Z (Ct.fresh (λw hw=>aTt ((bb.c _) w hw) ((rdr 1 Z) w hw) ((rdr 0 Z) w hw) Tm Z Sz.1 Sz.2 hN))) ?_;rintro _ _ ⟨_,rfl,nx,nm,n,la,en,kj,rfl,hNx,Wq,rfl⟩;refine wm Z<|wX Z Z<|wX Z Z<|wg Z<|wn Z<|wq<|dB (R1:=[(ri 3 none 0 0 ([])),(ri 3 en ((bU s).length) kj ((bU s).map (rd nm))),(ri 3 ff ((s).length) fh (qN s k (bU s))),(ri 3 bm ((bU s).length) bl (bU s))]) (Sub.refl _) (λ_ h=>h.nil 3 1)<|wn Z<|aD<|wq<|wm Z ?_;refine wm Z<|wa (aF bEm Z (Ct.fresh (λw hw=>IH ((rdr 1 Z) w hw) (by rw[bz];exact Sp) ⟨by have:=Wq.bd;omega,aTs Wq Sz.1⟩ (by rw[bz];omega)))) ?_;rintro _ _ ⟨_,rfl,b1,dr,bh,rfl,cv,dq,rfl⟩;refine wy (aQ aa Z)<|wm Z<|aA<|aH ?_;refine fH (λ(A1:Option Addr) (n1:Nat) (c1:Nat) (acc:List Int) (i:Int)=>[(0,sl cr s.length cq),(1,I k),(5,sl bm ((bU s).length) bl),(10,sl A1 n1 c1),(35,sl dr (((bU s).map (rd nm)).length) bh),(36,I ((((bU s).map (rd nm)).length:Nat):Int)),(37,I i)]) (λA1 n1 c1 acc i=>[(ri 3 dr (((bU s).map (rd nm)).length) bh b1),(ri 3 A1 n1 c1 acc),(ri 3 en ((bU s).length) kj ((bU s).map (rd nm))),(ri 3 ff ((s).length) fh (qN s k (bU s))),(ri 3 bm ((bU s).length) bl (bU s))]) (λA1 n1 c1 acc i=>(n1=acc.length)/\(0<=i)/\(i<=b1.length)/\(acc=(b1.take i.toNat).map (rd (bU s)))) (λA1 n1 c1 acc i=>(b1.length-i).toNat) ?_ ?_
  ·exact⟨none,0,0,[],0,⟨(Z),G,G,(Z)⟩,SA,λ_ h=>h⟩
  intro A1 n1 c1 acc i ⟨co,ar,jj,ba⟩;have Yc:((bU s).map (rd nm)).length=(bU s).length:=bz _;have f9:b1.length=(bU s).length:=by rw[cv.length_eq,bI,bz]
  have tk:=bq List.length ba;rw[bz,ax] at tk
  have sm:i<b1.length->0<=rd b1 i/\rd b1 i<(bU s).length:=λh=>by
   have:=bE.1 (cv.subset (bN (L:=b1) ar h));rwa[bz] at this
  refine wq<|wL Z Z<|aA<|aD<|bF Z (λce=> ?_) (λce=> ?_)
  ·refine aL<|aD<|aH<|wq<|wy (aI aa sz3 Z Z (rdr 0 Z))<|wy (aW ak Z Z (rdr 0 Z))<|wn Z<|aN<|wm Z<|wm Z<|wm Z<|wy (aI aa sz3 Z Z (rdr 4 Z))<|wy (aW ak Z Z (rdr 4 Z)) ?_;refine wa (bL .i64 [rd (bU s) (rd b1 i)] aa zs3 Z Z Z) ?_;rintro _ _ ⟨jp,rfl,rfl⟩;refine wa (aV 2 Z aa zb3 Z Z Z (rdr 0 Z)) ?_;rintro _ _ ⟨fd,fg,rfl,rfl⟩;refine bK (v:=sl fd (n1+1) fg) Z<|wn Z<|aN<|wA Z Z<|wm Z<|aA ?_;exact⟨fd,n1+1,fg,acc++([rd (bU s) (rd b1 i)]),i+1,⟨(by rw[ah,co];try rfl),G,G,(by rw[dH ar G,jo,ba];rfl)⟩,G,SA,λ_ h=>h.sel [1,2,3,4,5] cC Z⟩
  ·have Rk:acc=b1.map (rd (bU s)):=by rw[ba,bn G]
   have hr:=aSf Tm Wq Sz.1 Sz.2 hNx cv dq;have Pc:acc.Perm (bU s):=by rw[Rk];exact hr.1
   have hao:acc.Pairwise (bX s):=by rw[Rk];exact hr.2
   refine aY<|wq<|wm Z<|wm Z<|wm Z<|wa (aF bEj Z (Ct.fresh (λw hw=>aHs ((bb.c _) w hw) ((rdr 1 Z) w hw) dg Pc hN))) ?_;rintro _ _ ⟨_,rfl,fm,uv,rfl,rfl⟩;refine wm Z<|wX Z Z<|wX Z Z<|wn Z<|wq<|wm Z<|wn Z<|aT [0] 99 cC Z ?_;refine⟨_,Z,?_⟩;exact⟨_,_,_,Z,(xR dg.1.1 dg.2 Pc).2.1,(xR dg.1.1 dg.2 Pc).2.2.2 hao,Z⟩
theorem aLc (m:Nat): ∀ {w:World} {cr:Option Addr} {gw cq:Nat} {s:List Int} {k:Int},Rd w cr gw cq 1 (ints .i64 s)->s.length<m->((0<=k/\k<=1048576)/\ ∀x∈s,0<=x/\x<k)->s.length<=1000000->
  Ct Tryz.prog 265 #[sl cr gw cq,I k] w.heap.size w [] (λv R'=> ∃(b:List Int) (A:Option Addr) (c:Nat),v=sl A s.length c/\b.Perm (iota s.length)/\b.Pairwise (bX s)/\R'=[(ri 3 A s.length c b)]):=by
 induction m with
 |zero=>intro w A n c s k _ h;omega
 |succ m ih=>
  intro w A n c s k bb hm dg hN;exact OC bb (λh1 h2 h3 h4=>ih h1 G h3 h4) dg hN
theorem OG {s:List Int} (bb:Rd w cr gw cq 1 (ints .i64 s)) (dg:(0<=k/\k<=1048576)/\ ∀x∈s,0<=x/\x<k) (hN:s.length<=1000000):
  Ct Tryz.prog 265 #[sl cr gw cq,I k] w.heap.size w [] (λv R'=> ∃(b:List Int) (A:Option Addr) (c:Nat),v=sl A s.length c/\b.Perm (iota s.length)/\b.Pairwise (bX s)/\R'=[(ri 3 A s.length c b)]):=aLc (s.length+1) bb G dg hN
theorem aRk {s:List Int} (bb:Rd w cr gw cq 1 (ints .i64 s)) (dg:(0<=k/\k<=1048576)/\ ∀x∈s,0<=x/\x<k) (hN:s.length<=100000):
  Ct Tryz.prog 219 #[sl cr gw cq,I k] w.heap.size w [] (λv R'=> ∃(b:List Int) (A:Option Addr) (c:Nat),v= .tuple #[sl A s.length c,I 0]/\b.Perm (iota s.length)/\b.Pairwise (bX s)/\R'=[(ri 3 A s.length c b)]):=by
 obtain rfl:=bb.lenI;refine fn2 Tryz.func219 Z Z Z ?_;have xb:=bb.max;refine wq<|wg Z<|wn Z<|aD<|wq<|wm Z<|wy (aQ aa Z)<|wy (Yl.f (dJ Z Z))<|aA<|aJ Z<|aL<|aD ?_;refine wq<|wm Z<|wm Z<|wa (aF aAy Z (Ct.fresh (λw hw=>oP ((bb.c _) w hw) cE))) ?_;rintro _ _ ⟨_,rfl,bm,bl,rfl,rfl⟩;refine wm Z<|wX Z Z<|wX Z Z<|wg Z<|wn Z<|wq<|wm Z<|wy (dU Z)<|aA<|aJ Z<|aL<|wq ?_;refine wm Z<|wm Z<|wa (aF bEm Z (Ct.fresh (λw hw=>OG ((bb.c _) w hw) dg G))) ?_;rintro _ _ ⟨_,rfl,b1,ir,iu,rfl,cv,dq,rfl⟩;refine wg Z<|wn Z<|aT [0] 99 cC Z ?_;refine⟨_,_,Z,Z,?_⟩;exact⟨b1,_,_,Z,cv,dq,Z⟩
theorem QF {ap:Option Addr} {aw ao:Nat} {u:List Int} (al:Rd w ap aw ao 1 (ints .u8 u)) (am:aR u) (hN:u.length<=100000):
  Ct Tryz.prog 146 #[sl ap aw ao] w.heap.size w [] (λv R'=> ∃(b:List Int) (A:Option Addr) (c:Nat),v= .tuple #[sl A u.length c,I 0]/\b.Perm (iota u.length)/\b.Pairwise (bX u)/\R'=[(ri 3 A u.length c b)]):=by
 obtain rfl:=al.lenI;refine fn2 Tryz.func146 Z Z Z ?_;have mj:=al.max;refine wq<|wg Z<|wn Z<|wq<|dB (R1:=[(ri 3 none 0 0 ([]))]) (Sub.refl _) (λ_ h=>h.nil 3 1)<|wn Z<|aD<|wq<|wm Z<|wy (aQ af Z) ?_;refine wy (Yl.t (qU Z Z) G)<|aA<|bH Z<|aD<|wq<|wm Z<|wy (aQ af Z)<|wm Z<|aA<|aH ?_;refine fH (λ(A1:Option Addr) (n1:Nat) (c1:Nat) (acc:List Int) (i:Int)=>[(4,sl A1 n1 c1),(10,sl ap u.length ao),(11,I ((u.length:Nat):Int)),(12,I i)]) (λA1 n1 c1 acc i=>[(ri 3 A1 n1 c1 acc)]) (λA1 n1 c1 acc i=>(n1=acc.length)/\(0<=i)/\(i<=u.length)/\(acc=u.take i.toNat)) (λA1 n1 c1 acc i=>(u.length-i).toNat) ?_ ?_
 ·exact⟨none,0,0,[],0,⟨(Z),G,G,(Z)⟩,SA,λ_ h=>h⟩
 intro A1 n1 c1 acc i ⟨co,ar,jj,ba⟩;have tk:=bq List.length ba;rw[ax] at tk;refine wq<|wL Z Z<|aA<|aD<|bF Z (λaq=> ?_) (λaq=> ?_)
 ·have sm:=am.rd i;refine aL<|aD<|aH<|wq<|wy (aI af sz5 Z Z (al.c _))<|wy (aW bg Z Z (al.c _))<|wn Z<|aN<|wm Z<|wm Z<|wy (iF bg ak Z)<|wa (bL .i64 [rd u i] aa zs3 Z Z Z) ?_;rintro _ _ ⟨cm,rfl,rfl⟩;refine wa (aV 1 Z aa zb3 Z Z Z (rdr 0 Z)) ?_;rintro _ _ ⟨ff,fh,rfl,rfl⟩;refine bK (v:=sl ff (n1+1) fh) Z<|wn Z<|aN<|wA Z Z<|wm Z<|aA ?_;exact⟨ff,n1+1,fh,acc++([rd u i]),i+1,⟨(by rw[ah,co];try rfl),G,G,(by rw[dH ar G,ba])⟩,G,SA,λ_ h=>h.sel [1] cC Z⟩
 ·have hau:acc=u:=by rw[ba,bn G]
  refine aY<|wq<|wm Z<|wa (aF bLs Z (Ct.fresh (λw hw=>aRk ((rdr 0 Z) w hw) ⟨G,λx hx=>by rw[hau] at hx;have:=am x hx;omega⟩ G))) ?_;rintro _ _ ⟨_,rfl,b1,fb,kt,rfl,cv,dq,rfl⟩;refine wX Z Z<|wX Z Z<|wg Z<|wn Z<|aT [0] 99 cC Z ?_;refine⟨_,_,Z,Z,?_⟩;subst hau;exact⟨b1,_,_,Z,cv,dq,Z⟩
variable {B g aw ao:Nat} {w0:World} {R:List Row} {a0 a1 a2:Int} {ap:Option Addr} {u:List Int}
theorem aHb (hr:0<=a0/\a0<1000000):
  Ct Tryz.prog 149 #[PG g,I 1] B w0 ((rc 138 3 g [I a0,I a1,I a2])::R) (λv R'=>v=I (a0+1)/\R'=(rc 138 3 g [I (a0+1),I a1,I a2])::R):=by
 refine fn1 Ir Z Z Z ?_;refine wq<|wn Z<|wq<|wm Z<|wy (aG Z)<|wy (aB (off:=0) (m:=0) underlying135 Z sz2 Z Z Z)<|wm Z<|wa (aKj Z (λw hw=>⟨_,Fv (P:=Tryz.prog) Tryz.func222 cA cA cA .i64 cA (y:=1) (s:=a0+1) (hw.cellAt 0 (r:=(rc 138 3 g [I a0,I a1,I a2])) (j:=0) Z Z Z) (hw.openAt 0 (r:=(rc 138 3 g [I a0,I a1,I a2])) 0 Z Z Z) (by have:IntKind.i64.wrap (a0+1)=a0+1:=(by rw[Bp];omega);simp[Op.intArith,this]),hw.set1 0 (r:=(rc 138 3 g [I a0,I a1,I a2])) (j:=0) (v:=I (a0+1)) Z Z Z⟩)) ?_;rintro _ _ ⟨rfl,rfl⟩;refine wn Z<|bW ?_;refine⟨_,Z,?_⟩;exact⟨Z,Z⟩
theorem aHa (hr:0<=a1/\a1<1000000):
  Ct Tryz.prog 149 #[.pointer (some ⟨g,1,none⟩),I 1] B w0 ((rc 138 3 g [I a0,I a1,I a2])::R) (λv R'=>v=I (a1+1)/\R'=(rc 138 3 g [I a0,I (a1+1),I a2])::R):=by
 refine fn1 Ir Z Z Z ?_;refine wq<|wn Z<|wq<|wm Z<|wy (aG Z)<|wy (aB (off:=0) (m:=1) underlying135 Z sz2 Z Z Z)<|wm Z<|wa (aKj Z (λw hw=>⟨_,Fv (P:=Tryz.prog) Tryz.func222 cA cA cA .i64 cA (y:=1) (s:=a1+1) (hw.cellAt 0 (r:=(rc 138 3 g [I a0,I a1,I a2])) (j:=1) Z Z Z) (hw.openAt 0 (r:=(rc 138 3 g [I a0,I a1,I a2])) 1 Z Z Z) (by have:IntKind.i64.wrap (a1+1)=a1+1:=(by rw[Bp];omega);simp[Op.intArith,this]),hw.set1 0 (r:=(rc 138 3 g [I a0,I a1,I a2])) (j:=1) (v:=I (a1+1)) Z Z Z⟩)) ?_;rintro _ _ ⟨rfl,rfl⟩;refine wn Z<|bW ?_;refine⟨_,Z,?_⟩;exact⟨Z,Z⟩
theorem aGz (hr:0<=a2/\a2<1000000):
  Ct Tryz.prog 149 #[.pointer (some ⟨g,2,none⟩),I 1] B w0 ((rc 138 3 g [I a0,I a1,I a2])::R) (λv R'=>v=I (a2+1)/\R'=(rc 138 3 g [I a0,I a1,I (a2+1)])::R):=by
 refine fn1 Ir Z Z Z ?_;refine wq<|wn Z<|wq<|wm Z<|wy (aG Z)<|wy (aB (off:=0) (m:=2) underlying135 Z sz2 Z Z Z)<|wm Z<|wa (aKj Z (λw hw=>⟨_,Fv (P:=Tryz.prog) Tryz.func222 cA cA cA .i64 cA (y:=1) (s:=a2+1) (hw.cellAt 0 (r:=(rc 138 3 g [I a0,I a1,I a2])) (j:=2) Z Z Z) (hw.openAt 0 (r:=(rc 138 3 g [I a0,I a1,I a2])) 2 Z Z Z) (by have:IntKind.i64.wrap (a2+1)=a2+1:=(by rw[Bp];omega);simp[Op.intArith,this]),hw.set1 0 (r:=(rc 138 3 g [I a0,I a1,I a2])) (j:=2) (v:=I (a2+1)) Z Z Z⟩)) ?_;rintro _ _ ⟨rfl,rfl⟩;refine wn Z<|bW ?_;refine⟨_,Z,?_⟩;exact⟨Z,Z⟩
theorem aBk {w:World}:
  Ct Tryz.prog 47 #[] w.heap.size w [] (λv R'=> ∃g,v=PG g/\R'=[(rc 138 3 g [I 0,I 0,I 0])]):=by
 refine fn1 Tryz.func47 Z Z Z ?_;refine wq<|wn Z<|wq<|wy (dZ (v:= .agg #[I 0,I 0,I 0]) Z (λw=>cA))<|wa (bR (sz:=3) rfl rfl) ?_;rintro _ _ ⟨an,rfl,rfl⟩;refine wn Z<|aT [0] 99 cC Z ?_;refine⟨_,Z,?_⟩;exact⟨_,Z,Z⟩
theorem OY (al:RdC B w0 R ap aw ao 1 (ints .u8 u)) (bw:aw=u.length) (am:aR u) (hN:u.length<=100000) (ha:0<=a0/\a0<1000000):
  Ct Tryz.prog 84 #[PG g,I 0,sl ap aw ao] B w0 ((rc 138 3 g [I a0,I a1,I a2])::R) (λv R'=> ∃(b:List Int) (A:Option Addr) (c:Nat),v= .tuple #[sl A u.length c,I 0]/\b.Perm (iota u.length)/\b.Pairwise (bX u)/\R'=(ri 3 A u.length c b)::(rc 138 3 g [I (a0+1),I a1,I a2])::R):=by
 subst bw;refine fn2 Gw Z Z Z ?_;refine wq<|wg Z<|wn Z<|aD<|wq<|wm Z<|wy (dP underlying76 Z Z)<|wm Z<|aC Z Z<|wm Z<|aC Z Z<|wy (Yl.f (eG Z Z) cC) ?_;refine wy (aS Z Z)<|wm Z<|aC Z Z<|wm Z<|aC Z Z<|wy (Yl.f (gZ Z Z) cC)<|wy (aS Z Z)<|aA<|aJ Z<|aL<|wq<|wy (dZ (v:= .agg #[.func (.func 146) #[] #[], .func (.func 147) #[] #[], .func (.func 148) #[] #[]]) Z (λw=>cA))<|wm rfl<|wy (bFn (v:= .func (.func 146) #[] #[]) rfl rfl (λw=>cA)) ?_;refine wn Z<|wq<|wm Z<|wm Z<|wa (NU bEu Z Z (Ct.fresh (λw hw=>QF ((RdC.right al [_]) w hw) am hN))) ?_;rintro _ _ ⟨_,rfl,b1,bm,bl,rfl,cv,dq,rfl⟩;refine wm Z<|wX Z Z<|wX Z Z<|wg Z<|wn Z<|aD<|wq<|wm Z<|wy (Yl.t (aX Z Z) cC)<|aA<|bH Z<|aN<|wm Z ?_;refine wm Z<|wy (aG Z)<|wy (aB (off:=0) (m:=0) underlying138 Z aRf Z Z Z)<|wy (dQ (q:=0) (rdr 1 Z) underlying136 aRg Z Z (au Z) cC cC Z)<|wa (aF aWn Z (Ct.at 1 Z (aHb G))) ?_;rintro _ _ ⟨rfl,rfl⟩;refine aA<|wq<|wm Z<|wm Z<|wg Z<|wn Z<|bS (R1:=((ri 3 bm u.length bl b1)::(rc 138 3 g [I (a0+1),I a1,I a2])::R)) (λ_ h=>h) ?_;refine⟨_,_,Z,Z,?_⟩;exact⟨b1,_,_,Z,cv,dq,Z⟩
theorem OX (al:RdC B w0 R ap aw ao 1 (ints .u8 u)) (bw:aw=u.length) (am:aR u) (hN:u.length<=100000) (ha:0<=a1/\a1<1000000):
  Ct Tryz.prog 84 #[PG g,I 1,sl ap aw ao] B w0 ((rc 138 3 g [I a0,I a1,I a2])::R) (λv R'=> ∃(b:List Int) (A:Option Addr) (c:Nat),v= .tuple #[sl A u.length c,I 0]/\b.Perm (iota u.length)/\b.Pairwise (bX u)/\R'=(ri 3 A u.length c b)::(rc 138 3 g [I a0,I (a1+1),I a2])::R):=by
 subst bw;refine fn2 Gw Z Z Z ?_;refine wq<|wg Z<|wn Z<|aD<|wq<|wm Z<|wy (dP underlying76 Z Z)<|wm Z<|aC Z Z<|wm Z<|aC Z Z<|wy (Yl.f (eG Z Z) cC) ?_;refine wy (aS Z Z)<|wm Z<|aC Z Z<|wm Z<|aC Z Z<|wy (Yl.f (gZ Z Z) cC)<|wy (aS Z Z)<|aA<|aJ Z<|aL<|wq<|wy (dZ (v:= .agg #[.func (.func 146) #[] #[], .func (.func 147) #[] #[], .func (.func 148) #[] #[]]) Z (λw=>cA))<|wm rfl<|wy (bFn (v:= .func (.func 147) #[] #[]) rfl rfl (λw=>cA)) ?_;refine wn Z<|wq<|wm Z<|wm Z<|wa (NU bMt Z Z (Ct.fresh (λw hw=>aNl ((RdC.right al [_]) w hw) am hN))) ?_;rintro _ _ ⟨_,rfl,b1,bm,bl,rfl,cv,dq,rfl⟩;refine wm Z<|wX Z Z<|wX Z Z<|wg Z<|wn Z<|aD<|wq<|wm Z<|wy (Yl.t (aX Z Z) cC)<|aA<|bH Z<|aN<|wm Z ?_;refine wm Z<|wy (aG Z)<|wy (aB (off:=0) (m:=0) underlying138 Z aRf Z Z Z)<|wy (dQ (q:=1) (rdr 1 Z) underlying136 aRg Z Z (au Z) cC cC Z)<|wa (aF aWn Z (Ct.at 1 Z (aHa G))) ?_;rintro _ _ ⟨rfl,rfl⟩;refine aA<|wq<|wm Z<|wm Z<|wg Z<|wn Z<|bS (R1:=((ri 3 bm u.length bl b1)::(rc 138 3 g [I a0,I (a1+1),I a2])::R)) (λ_ h=>h) ?_;refine⟨_,_,Z,Z,?_⟩;exact⟨b1,_,_,Z,cv,dq,Z⟩
theorem OW (al:RdC B w0 R ap aw ao 1 (ints .u8 u)) (bw:aw=u.length) (am:aR u) (hN:u.length<=100000) (ha:0<=a2/\a2<1000000):
  Ct Tryz.prog 84 #[PG g,I 2,sl ap aw ao] B w0 ((rc 138 3 g [I a0,I a1,I a2])::R) (λv R'=> ∃(b:List Int) (A:Option Addr) (c:Nat),v= .tuple #[sl A u.length c,I 0]/\b.Perm (iota u.length)/\b.Pairwise (bX u)/\R'=(ri 3 A u.length c b)::(rc 138 3 g [I a0,I a1,I (a2+1)])::R):=by
 subst bw;refine fn2 Gw Z Z Z ?_;refine wq<|wg Z<|wn Z<|aD<|wq<|wm Z<|wy (dP underlying76 Z Z)<|wm Z<|aC Z Z<|wm Z<|aC Z Z<|wy (Yl.f (eG Z Z) cC) ?_;refine wy (aS Z Z)<|wm Z<|aC Z Z<|wm Z<|aC Z Z<|wy (Yl.f (gZ Z Z) cC)<|wy (aS Z Z)<|aA<|aJ Z<|aL<|wq<|wy (dZ (v:= .agg #[.func (.func 146) #[] #[], .func (.func 147) #[] #[], .func (.func 148) #[] #[]]) Z (λw=>cA))<|wm rfl<|wy (bFn (v:= .func (.func 148) #[] #[]) rfl rfl (λw=>cA)) ?_;refine wn Z<|wq<|wm Z<|wm Z<|wa (NU bMs Z Z (Ct.fresh (λw hw=>aGl ((RdC.right al [_]) w hw) am hN))) ?_;rintro _ _ ⟨_,rfl,o1,bm,bl,rfl,Cl,Fd,rfl⟩;refine wm Z<|wX Z Z<|wX Z Z<|wg Z<|wn Z<|aD<|wq<|wm Z<|wy (Yl.t (aX Z Z) cC)<|aA<|bH Z<|aN<|wm Z ?_;refine wm Z<|wy (aG Z)<|wy (aB (off:=0) (m:=0) underlying138 Z aRf Z Z Z)<|wy (dQ (q:=2) (rdr 1 Z) underlying136 aRg Z Z (au Z) cC cC Z)<|wa (aF aWn Z (Ct.at 1 Z (aGz G))) ?_;rintro _ _ ⟨rfl,rfl⟩;refine aA<|wq<|wm Z<|wm Z<|wg Z<|wn Z<|bS (R1:=((ri 3 bm u.length bl o1)::(rc 138 3 g [I a0,I a1,I (a2+1)])::R)) (λ_ h=>h) ?_;refine⟨_,_,Z,Z,?_⟩;obtain⟨b,hb,hs⟩:=pJ u;obtain rfl:=places hb hs Cl Fd;exact⟨o1,_,_,Z,hb,hs,Z⟩
variable {B g aw ao:Nat} {w0:World} {R:List Row} {a0 a1 a2 so:Int} {ap:Option Addr} {u:List Int}
theorem GV (al:RdC B w0 R ap aw ao 1 (ints .u8 u)) (bw:aw=u.length) (hb:so<0\/2<so):
  Ct Tryz.prog 84 #[PG g,I so,sl ap aw ao] B w0 ((rc 138 3 g [I a0,I a1,I a2])::R) (λv R'=>v= .tuple #[sl none 0 0,I 1]/\R'=(rc 138 3 g [I a0,I a1,I a2])::R):=by
 subst bw;refine fn2 Gw Z Z Z ?_;refine wq<|wg Z<|wn Z<|aD<|wq<|wm Z<|wy (dP underlying76 Z Z)<|wm Z<|aC Z Z<|wm Z<|aC Z Z<|wL Z Z ?_;refine wy (aS Z Z)<|wm Z<|dD 3 [(0,PG g),(1,I so),(2,sl ap u.length ao),(20, .bool (decide ((so<0)\/(3<=so))))] ((rc 138 3 g [I a0,I a1,I a2])::R) ?_ ?_
 ·refine bV 17 Z (λaq=> ?_) (λaq=> ?_)
  ·refine aP Z Z Z Z<|aP Z Z Z Z<|wy (bB Z Z)<|aA ?_;exact⟨SA,λ_ h=>h⟩
  ·refine aC Z Z<|wm Z<|aC Z Z<|wy (gZ Z Z)<|wy (aS Z Z)<|aA ?_;exact⟨SA,λ_ h=>h⟩
 refine kK 20 Z G<|aA<|bH Z<|wq<|wg Z<|wn Z<|bW ?_;refine⟨_,_,Z,Z,?_⟩;exact⟨Z,Z⟩
theorem GX (al:RdC B w0 R ap aw ao 1 (ints .u8 u)) (bw:aw=u.length) (am:aR u) (hN:u.length<=100000) (ha:(0<=a0/\a0<1000000)/\(0<=a1/\a1<1000000)/\(0<=a2/\a2<1000000)):
  Ct Tryz.prog 84 #[PG g,I so,sl ap aw ao] B w0 ((rc 138 3 g [I a0,I a1,I a2])::R) (λv R'=> ∃(b:List Int) (A:Option Addr) (c:Nat) (e d0 d1 d2:Int),v= .tuple #[sl A b.length c,I e]/\
   (((so<0\/2<so)/\e=1/\b=[]/\d0=a0/\d1=a1/\d2=a2)\/(¬(so<0\/2<so)/\e=0/\b.Perm (iota u.length)/\b.Pairwise (bX u)/\[d0,d1,d2]=upd [a0,a1,a2] so (rd [a0,a1,a2] so+1)/\(d0<=a0+1/\0<=d0)/\(d1<=a1+1/\0<=d1)/\(d2<=a2+1/\0<=d2)))/\R'=(ri 3 A b.length c b)::(rc 138 3 g [I d0,I d1,I d2])::R):=by
 by_cases hb:so<0\/2<so
 ·intro w hw;refine(GV (u:=u) al bw hb w hw).mono ?_;rintro e w' ⟨v,R',he,hh,hv,hr⟩;subst hr;exact⟨v,_,he,hh.nil 3 1,[],none,0,1,a0,a1,a2,hv, .inl ⟨hb,Z,Z,Z,Z,Z⟩,Z⟩
 ·have hlen: ∀b:List Int,b.Perm (iota u.length)->u.length=b.length:=λb h=>by rw[h.length_eq,bI]
  rcases(by omega:so=0\/so=1\/so=2) with rfl|rfl|rfl
  ·refine (OY al bw am hN ha.1).mono ?_;rintro v R' ⟨b,A,c,hv,hp,hs,hr⟩;rw[hlen b hp] at hv hr;exact⟨b,A,c,0,a0+1,a1,a2,hv, .inr ⟨hb,Z,hp,hs,Z,G,G,G⟩,hr⟩
  ·refine (OX al bw am hN ha.2.1).mono ?_;rintro v R' ⟨b,A,c,hv,hp,hs,hr⟩;rw[hlen b hp] at hv hr;exact⟨b,A,c,0,a0,a1+1,a2,hv, .inr ⟨hb,Z,hp,hs,Z,G,G,G⟩,hr⟩
  ·refine (OW al bw am hN ha.2.2).mono ?_;rintro v R' ⟨b,A,c,hv,hp,hs,hr⟩;rw[hlen b hp] at hv hr;exact⟨b,A,c,0,a0,a1,a2+1,hv, .inr ⟨hb,Z,hp,hs,Z,G,G,G⟩,hr⟩
end Go.Proofs.YtdbebmmhdefgdaaGreat
namespace Go.Pure
open Go Go.Eng
section
variable {p:List Int}
def gJ (p:List Int):Nat->List Bool->Int->List Int × List Bool
 |0,E,_=>([],E)
 |f+1,E,k=>if rdb E k=true then([],E) else(k::(gJ p f (qB E k true) (rd p k)).1,(gJ p f (qB E k true) (rd p k)).2)
def cntF (E:List Bool):Nat:=E.countP λb=> !b
theorem aXh (n:Nat):cntF (List.replicate n false)=n:=by unfold cntF;rw[List.countP_replicate];simp
theorem CP {E:List Bool} {k:Int} (k0:0<=k) (hk:k<E.length) (h:rdb E k≠true):cntF (qB E k true)+1=cntF E:=by
 have bc:k.toNat<E.length:=G
 have e:E[k.toNat]=false:=by
  have h2:rdb E k=E[k.toNat]:=by unfold rdb;rw[ai,av bc];rfl
  rw[h2] at h;simpa using h
 unfold cntF qB;rw[List.countP_set bc,e];simp only[Ce,Bool.not_false,wh,xe,Fu,qm];have:0<E.countP λb=> !b:=List.countP_pos_iff.2 ⟨E[k.toNat],lu bc,by rw[e];rfl⟩;omega
theorem tJ {f:Nat} {E:List Bool} {k:Int} (h:rdb E k=true):gJ p f E k=([],E):=by
 cases f with
 |zero=>rfl
 |succ f=>rw[gJ,df h]
theorem MV {E:List Bool} {k:Int} (k0:0<=k) (hk:k<E.length) (h:rdb E k≠true):0<cntF E:=by have:=CP k0 hk h;omega
theorem JK {f:Nat} {E:List Bool} {k:Int} (k0:0<=k) (hk:k<E.length) (hf:cntF E<=f) (h:rdb E k≠true):gJ p f E k=(k::(gJ p (f-1) (qB E k true) (rd p k)).1,(gJ p (f-1) (qB E k true) (rd p k)).2):=by
 have:=MV k0 hk h;obtain⟨g,rfl⟩: ∃g,f=g+1:=⟨f-1,G⟩;rw[gJ,bu h];rfl
def iZ (p:List Int):Nat->List Bool × List (List Int)
 |0=>(List.replicate p.length false,[])
 |i+1=>((gJ p p.length (iZ p i).1 i).2,if (gJ p p.length (iZ p i).1 i).1=[] then(iZ p i).2 else(iZ p i).2++[(gJ p p.length (iZ p i).1 i).1])
def eZ (p:List Int):List (List Int):=(iZ p p.length).2
theorem qX (hp:p.Perm (iota p.length)): ∀(f:Nat) (E:List Bool) (k:Int),E.length=p.length->0<=k->k<p.length->(gJ p f E k).2.length=p.length/\(∀x∈(gJ p f E k).1,0<=x/\x<p.length)/\(gJ p f E k).1.length+cntF (gJ p f E k).2=cntF E
 |0,E,k,hl,_,_=>And.intro hl (And.intro (λx hx=>absurd hx (zg (a:=x))) (ng _))
 | f+1,E,k,hl,k0,hk=>by
  rw[gJ];split
  ·exact And.intro hl (And.intro (λx hx=>absurd hx (zg (a:=x))) (ng _))
  ·rename_i h;have hn:=bE.1 (hp.subset (bN (L:=p) k0 hk));have ih:=qX hp f (qB E k true) (rd p k) (by rw[lC];exact hl) hn.1 hn.2;have hc:=CP k0 G h;refine⟨ih.1,λx hx=> ?_,?_⟩
   ·rcases jm.1 hx with rfl|hx
    ·exact⟨k0,hk⟩
    ·exact ih.2.1 x hx
   ·have:=ih.2.2;simp only[dh];omega
theorem lU (hp:p.Perm (iota p.length)): ∀i:Nat,i<=p.length->(iZ p i).1.length=p.length/\(∀c∈(iZ p i).2,∀x∈c,0<=x/\x<p.length)/\(iZ p i).2.flatten.length+cntF (iZ p i).1=p.length
 |0,_=>⟨by simp[iZ],λc hc=>(by cases hc),by simp[iZ,aXh]⟩
 | i +1,hi=>by
  have ih:=lU hp i G;have hw:=qX hp p.length (iZ p i).1 i ih.1 G G;rw[iZ];refine⟨hw.1,?_,?_⟩
  ·intro c hc x hx;split at hc
   ·exact ih.2.1 c hc x hx
   ·rcases gp.1 hc with hc|hc
    ·exact ih.2.1 c hc x hx
    ·obtain rfl:=ib.1 hc;exact hw.2.1 x hx
  ·split
   ·rename_i h;have h2:=hw.2.2;rw[h] at h2;have:=ih.2.2;simp only[jl] at h2;show(iZ p i).2.flatten.length+cntF (gJ p p.length (iZ p i).1 i).2=p.length;omega
   ·rw [qg,ah];have h2:=hw.2.2;have:=ih.2.2;simp only[si,Ic,jk];omega
theorem aJq (hp:p.Perm (iota p.length)): ∀c∈eZ p,∀x∈c,0<=x/\x<p.length:=(lU hp p.length (di _)).2.1
theorem aXc (hp:p.Perm (iota p.length)):(eZ p).flatten.length<=p.length:=by have:=(lU hp p.length (di _)).2.2;unfold eZ;omega
theorem MR (p:List Int): ∀i:Nat,(iZ p i).2.length<=i
 |0=>by simp[iZ]
 |i+1=>by
  have:=MR p i;rw[iZ];split
  ·exact Nat.le_succ_of_le this
  ·rw[ah];simp only[gq];omega
theorem bCm {i:Int} {E E2:List Bool} {ls:List (List Int)} {acc:List Int} (i0:0<=i) (Ld:iZ p i.toNat=(E,ls)) (Pt:gJ p p.length E i=(acc,E2)) (dv:acc≠[]):iZ p (i+1).toNat=(E2,ls++[acc]):=by
 rw[show(i+1).toNat=i.toNat+1 by omega,iZ,Ld];simp only[show((i.toNat:Nat):Int)=i by omega,Pt,bu dv]
theorem bHr {i:Int} {E E2:List Bool} {ls:List (List Int)} {acc:List Int} (i0:0<=i) (Ld:iZ p i.toNat=(E,ls)) (Pt:gJ p p.length E i=(acc,E2)) (dv:acc=[]):iZ p (i+1).toNat=(E2,ls):=by
 rw[show(i+1).toNat=i.toNat+1 by omega,iZ,Ld];simp only[show((i.toNat:Nat):Int)=i by omega,Pt,df dv]
theorem aCz (hp:p.Perm (iota p.length)) {f:Nat} {E E2:List Bool} {acc:List Int} {i k:Int} (hl:E.length=p.length) (i0:0<=i) (hi:i<p.length) (hw:(acc++(gJ p f E2 k).1,(gJ p f E2 k).2)=gJ p p.length E i):acc.length<=p.length:=by
 have h:=(qX hp p.length E i hl i0 hi).2.2;rw[<-hw] at h;simp only[ah] at h;have:cntF E<=E.length:=List.countP_le_length;omega
def kR (l c:List Int):List Int:=c.reverse.map (rd l)
def backL (l:List Int) (cs:List (List Int)):List Int:=(cs.reverse.map (kR l)).flatten
theorem aGw {l:List Int} {cs:List (List Int)} {k:Nat} (hk:k<cs.length):(((cs.reverse).take (k+1)).map (kR l)).flatten=(((cs.reverse).take k).map (kR l)).flatten++kR l (rdl cs (cs.length-1-k)):=by
 have bc:k<cs.reverse.length:=by rw[qh];exact hk
 rw[su,av bc,jo,qg];congr 1;simp only[Cs,lm,ry,si,Ic,jk];congr 1;rw[Em];unfold rdl;rw[ai,av G];simp only[nz];congr 1;omega
theorem aCx {l c:List Int} {k:Nat} (hk:k<c.length):((c.reverse).take (k+1)).map (rd l)=((c.reverse).take k).map (rd l)++[rd l (rd c (c.length-1-k))]:=by
 have bc:k<c.reverse.length:=by rw[qh];exact hk
 rw[su,av bc,jo];congr 1;simp only[Cs,lm,ry];congr 2;rw[Em,fG G G];congr 1;omega
theorem nG (l c:List Int):(kR l c).length=c.length:=by simp[kR]
theorem aAi {cs:List (List Int)}: ∀ {k:Nat} {l:List Int},(((cs.reverse).take k).map (kR l)).flatten.length<=cs.flatten.length:=by
 intro k l
 have h1:(((cs.reverse).take k).map (kR l)).flatten.length=(((cs.reverse).take k).map List.length).sum:=by
  rw[uk,yz];congr 2;funext c;exact nG l c
 have h2:cs.flatten.length=((cs.reverse).map List.length).sum:=by rw[uk,Ie,List.sum_reverse]
 rw[h1,h2]
 conv=>rhs;rw[<-gu k cs.reverse]
 rw[jo,Cm];omega
end
end Go.Pure
namespace Go.Proofs.YtdbebmmhdefgdaaGreat
open Go Go.Eng Go.Pure
open Tryz
set_option maxRecDepth 100000
variable {a V l s P acc u:List Int} {i:Int} {n yq tj:Nat} {w:World} {th:Option Addr}
theorem aMu (hd:a.Nodup) (i0:0<=i) (hi:i<a.length):rd a i∉a.take i.toNat:=λh=>by
 obtain⟨q,hq,e⟩:=gz.1 h;rw[ax] at hq;rw[ym] at e;have:=jX hd (i:=(q:Int)) (j:=i) G G i0 hi (by rw[fG (i:=(q:Int)) G G];simp only[cu];exact e);omega
theorem aLl {E:List Bool} (i0:0<=i) (hi:i<a.length) (hl:E.length=n) (ha:0<=rd a i/\rd a i<n) (h: ∀x:Int,0<=x->x<n->(rdb E x=true↔x∈a.take i.toNat)): ∀x:Int,0<=x->x<n->(rdb (qB E (rd a i) true) x=true↔x∈a.take (i+1).toNat):=by
 intro x x0 x1;rw[dH i0 hi,xI ha.1 G x0,gp,ib];split
 ·rename_i e;exact⟨λ_=> .inr e,λ_=>rfl⟩
 ·rename_i e;rw[h x x0 x1];exact⟨.inl,λh=>h.resolve_right e⟩
theorem aUs (i0:0<=i) (hi:i<a.length) (hd:a.Nodup) (hl:V.length=n) (ha: ∀q:Int,0<=q->q<a.length->0<=rd a q/\rd a q<n) (h: ∀q:Int,0<=q->q<i->rd V (rd a q)=q): ∀q:Int,0<=q->q<i+1->rd (upd V (rd a i) i) (rd a q)=q:=by
 intro q q0 q1;have h1:=ha i i0 hi;have h2:=ha q q0 G;rw[fV h1.1 h2.1 G];split
 ·rename_i e;exact jX hd i0 hi q0 G e.symm
 ·rename_i e;refine h q q0 ?_;rcases bi q i with g|g
  ·exact g
  ·obtain rfl:q=i:=G
   exact absurd Z e
def fsL (l:List Int):List Int:=(iota l.length).map (lfC l)
theorem xS (l:List Int):(fsL l).length=l.length:=by unfold fsL;rw[bz,bI]
theorem aEb (i0:0<=i) (hi:i<l.length):rd (fsL l) i=lfC l i:=by
 unfold fsL;rw[vR i0 (by rw[bI];exact hi),xJ i0 hi]
theorem EI (hl:aR l):(dC (iota l.length) l (256:Int).toNat).length=l.length:=by
 have:=(kF (l:=l) hl).1.length_eq;rwa[bI] at this
theorem aIm (hl:aR l):(dC (iota l.length) l (256:Int).toNat).Perm (iota (dC (iota l.length) l (256:Int).toNat).length):=by
 rw[EI hl];exact(kF (l:=l) hl).1
theorem bEa (hl:aR l) (h1:V.length=(dC (iota l.length) l (256:Int).toNat).length) (h2: ∀q:Int,0<=q->q<(dC (iota l.length) l (256:Int).toNat).length->rd V (rd (dC (iota l.length) l (256:Int).toNat) q)=q):V=fsL l:=by
 rw[EI hl] at h1 h2;refine bQ (by rw[h1,xS]) λj j0 j1=> ?_;rw[aEb j0 G];obtain⟨q,q0,q1,e,f⟩:=ZT (l:=l) hl j0 G;rw[f,<-e];exact h2 q q0 q1
theorem UL (i0:0<=i) (hi:i<a.length) (h:acc=P++ofT s (a.take i.toNat)) (h0:rd a i=0):acc=P++ofT s (a.take (i+1).toNat):=by
 rw[ZG i0 hi,df h0,jk];exact h
theorem aEm (i0:0<=i) (hi:i<a.length) (h:acc=P++ofT s (a.take i.toNat)) (h0: ¬rd a i=0):acc++[rd s (rd a i-1)]=P++ofT s (a.take (i+1).toNat):=by
 rw[ZG i0 hi,bu h0,<-gy,h]
theorem SV (hd:a.Nodup) (i0:0<=i) (hi:i<a.length) (h0:rd a i=0):i+1=zat (a.take (i+1).toNat):=by rw[WE hd i0 hi,df h0]
theorem aCs {m:Int} (hd:a.Nodup) (i0:0<=i) (hi:i<a.length) (h:m=zat (a.take i.toNat)) (h0: ¬rd a i=0):m=zat (a.take (i+1).toNat):=by rw[WE hd i0 hi,bu h0];exact h
theorem UM (s:List Int) (l:List Int):(ofT s l).length<=l.length:=by unfold ofT;rw[bz];exact zm _ _
set_option maxHeartbeats 800000 in
theorem TY (mz:Rd w th yq tj 1 (ints .i64 a)) (hp:a.Perm (iota a.length)) (hN:a.length<=1000000):
  Ct Tryz.prog 150 #[sl th yq tj] w.heap.size w [] (λv R'=> ∃A c V,v= .tuple #[sl A a.length c,bt]/\V.length=a.length/\(∀q:Int,0<=q->q<a.length->rd V (rd a q)=q)/\R'=[(ri 3 A a.length c V)]):=by
 obtain rfl:=mz.lenI;refine fn2 Tryz.func150 Z Z Z ?_;have Qb:=mz.max;have hnd:a.Nodup:=hp.symm.nodup (eO _);have ju: ∀q:Int,0<=q->q<a.length->0<=rd a q/\rd a q<a.length:=λq q0 q1=>bE.1 (hp.subset (bN q0 q1));refine wq<|wg Z<|wn Z<|wq<|wm Z<|wy (aQ aa Z)<|wa (dL aa zb3 Z Z) ?_;rintro _ _ ⟨an,rfl,rfl⟩;refine bK (v:=sl (GG an) a.length a.length) Z<|wn Z<|wq<|wm Z<|wy (aQ aa Z)<|wa (VV qc zb4 Z Z G G G) ?_;rintro _ _ ⟨cm,rfl,rfl⟩;refine bK (v:=sl (GG cm) a.length a.length) Z<|wn Z<|aD<|wq<|wm Z<|wy (aQ aa Z)<|wm Z<|aA<|aH ?_;refine gG (λ(i:Int) (V:List Int) (E:List Bool)=>[(0,sl th a.length tj),(4,sl (GG an) a.length a.length),(5,sl (GG cm) a.length a.length),(14,sl th a.length tj),(15,I ((a.length:Nat):Int)),(16,I i)]) (λi V E=>[⟨4,1,(GG cm),a.length,a.length,bools E,false⟩,(ri 3 (GG an) a.length a.length V)]) (λi V E=>(0<=i)/\(i<=a.length)/\(V.length=a.length)/\(E.length=a.length)/\(∀x:Int,0<=x->x<a.length->(rdb E x=true↔x∈a.take i.toNat))/\(∀q:Int,0<=q->q<i->rd V (rd a q)=q)) (λi V E=>(a.length-i).toNat) ?_ ?_
 ·exact⟨0,List.replicate a.length (0:Int),List.replicate a.length false,⟨G,G,(by rw[cz]),(by rw[cz]),(λx h0 h1=>by rw[IL];simp),(λq h0 h1=>G)⟩,SA,λ_ h=>h⟩
 intro i V E ⟨ar,jj,lz,Qy,hE,hV⟩;refine wq<|wL Z Z<|aA<|aD<|bF Z (λaq=> ?_) (λaq=> ?_)
 ·have ha:=ju i ar G;have mw:=aMu hnd ar G;refine aL<|aD<|aH<|wq<|wm Z<|wy (aI aa sz3 Z Z (mz.c _))<|wy (aW ak Z Z (mz.c _))<|wg Z<|wn Z<|aD<|wq<|wm Z ?_;refine wy (Yl.f (eG Z Z))<|wm Z<|aC Z Z<|wm Z<|aC Z Z<|wm Z<|aC Z Z<|wy (aQ aa Z)<|aC Z Z<|wy (Yl.f (gZ Z Z))<|wy (aS Z Z)<|wm Z<|aC Z Z<|wm Z<|aC Z Z ?_;refine wm Z<|aC Z Z<|wy (aI qc sz4 Z Z (rdr 0 Z))<|aC Z Z<|wy (Yl.f (FJ Bn Z Z (rdr 0 Z)) (λh=>mw ((hE _ ha.1 ha.2).1 h)))<|wy (aS Z Z)<|aA<|aJ Z<|aL<|aN<|wm Z<|wm Z<|wm Z<|wm Z<|wm Z ?_;refine wy (aI aa sz3 Z Z (rdr 1 Z))<|bY (bJ 1 Z sz3 Z Z) ?_;rintro _ _ rfl;refine wy (aI qc sz4 Z Z (rdr 0 Z))<|bY (wU 0 Z sz4 Z Z) ?_;rintro _ _ rfl;refine aA<|aN<|wA Z Z<|wm Z<|aA ?_;exact⟨i+1,upd V (rd a i) i,qB E (rd a i) true,⟨G,G,(by rw[bD];exact lz),(by rw[lC];exact Qy),(aLl ar G Qy ha hE),(aUs ar G hnd lz ju hV)⟩,G,SA,λ_ h=>h⟩
 ·refine aY<|wq<|wm Z<|wg Z<|wn Z<|aT [1] 99 cC Z ?_;refine⟨_,_,Z,Z,?_⟩;exact⟨_,_,V,Z,lz,λq h0 h1=>hV q h0 G,Z⟩
theorem aSb (mz:Rd w th yq tj 1 (ints .i64 a)) (hp:a.Perm (iota a.length)) (hN:a.length<=1000000):
  Ct Tryz.prog 197 #[sl th yq tj] w.heap.size w [] (λv R'=>v=bt):=by
 obtain rfl:=mz.lenI;refine fn1 Tryz.func197 Z Z Z ?_;have Qb:=mz.max;refine wq<|wn Z<|wq<|wm Z<|wa (aF aWm Z (Ct.fresh (λw hw=>TY ((mz.c _) w hw) hp hN))) ?_;rintro _ _ ⟨_,rfl,bm,bl,inv,rfl,xp,xt,rfl⟩;refine wm Z<|wX Z Z<|wX Z Z<|wg Z<|wn Z<|wq<|wm Z<|wn Z<|aT [] 99 cC Z ?_;refine⟨_,Z,?_⟩;rfl
set_option maxHeartbeats 800000 in
theorem bBr {ap:Option Addr} {aw ao:Nat} (al:Rd w ap aw ao 1 (ints .u8 u)) (am:aR u) (hN:u.length<=1000000):
  Ct Tryz.prog 184 #[sl ap aw ao] w.heap.size w [] (λv R'=> ∃A c,v=sl A (fsL u).length c/\R'=[(ri 3 A ((fsL u).length) c (fsL u))]):=by
 obtain rfl:=al.lenI;refine fn1 Tryz.func184 Z Z Z ?_;have mj:=al.max;refine wq<|wn Z<|wq<|wm Z<|wy (aQ af Z)<|wa (dL aa zb3 Z Z) ?_;rintro _ _ ⟨an,rfl,rfl⟩;refine bK (v:=sl (GG an) u.length u.length) Z<|wn Z<|wq<|wm Z<|wy (aQ af Z)<|wa (dL aa zb3 Z Z) ?_;rintro _ _ ⟨cm,rfl,rfl⟩;refine bK (v:=sl (GG cm) u.length u.length) Z<|wn Z<|aD<|wq<|wm Z<|wy (aQ af Z)<|wm Z<|aA<|aH ?_;refine gG (λ(i:Int) (V:List Int) (K:List Int)=>[(3,sl (GG an) u.length u.length),(4,sl (GG cm) u.length u.length),(15,sl ap u.length ao),(16,I ((u.length:Nat):Int)),(17,I i)]) (λi V K=>[(ri 3 (GG cm) u.length u.length K),(ri 3 (GG an) u.length u.length V)]) (λi V K=>(0<=i)/\(i<=u.length)/\(V.length=u.length)/\(K.length=u.length)/\(∀j:Int,0<=j->j<i->rd V j=j)/\(∀j:Int,0<=j->j<i->rd K j=rd u j)) (λi V K=>(u.length-i).toNat) ?_ ?_
 ·exact⟨0,List.replicate u.length (0:Int),List.replicate u.length (0:Int),⟨G,G,(by rw[cz]),(by rw[cz]),(λj h1 h2=>G),(λj h1 h2=>G)⟩,SA,λ_ h=>h⟩
 intro i V K ⟨ar,jj,lz,Pb,hV,hK⟩;refine wq<|wL Z Z<|aA<|aD<|bF Z (λaq=> ?_) (λaq=> ?_)
 ·have sm:=am.rd i;refine aL<|aD<|aH<|wq<|wm Z<|wy (aI af sz5 Z Z (al.c _))<|wy (aW bg Z Z (al.c _))<|wg Z<|wn Z<|aN<|wm Z<|wm Z<|wm Z ?_;refine wm Z<|wm Z<|wm Z<|wy (iF bg ak Z)<|wy (aI aa sz3 Z Z (rdr 1 Z))<|bY (bJ 1 Z sz3 Z Z) ?_;rintro _ _ rfl;refine wy (aI aa sz3 Z Z (rdr 0 Z))<|bY (bJ 0 Z sz3 Z Z) ?_;rintro _ _ rfl;refine aA<|aN<|wA Z Z<|wm Z<|aA ?_;exact⟨i+1,upd V i i,upd K i (rd u i),⟨G,G,(by rw[bD];exact lz),(by rw[bD];exact Pb),(eX (f:=λj=>j) ar G hV Z),(eX (f:=λj=>rd u j) ar G hK Z)⟩,G,SA,λ_ h=>h⟩
 ·obtain rfl:V=iota u.length:=bQ (by rw[bI];omega) λj h0 h1=>by rw[xJ h0 G];exact hV j h0 G
  obtain rfl:u=K:=(bQ G λj h0 h1=>hK j h0 G:K=u).symm;refine aY<|wq<|wm Z<|wm Z<|wa (aF ML Z (Ct.fresh (λw hw=>uB ((rdr 1 Z) w hw) ((rdr 0 Z) w hw) G am (λi hi=>bE.1 hi) (by rw[bI];omega)))) ?_;rintro _ _ ⟨_,rfl,ff,fh,rfl,rfl⟩;refine wm Z<|wX Z Z<|wX Z Z<|wn Z<|wq<|wm Z<|wa (aF aWm Z (Ct.fresh (λw hw=>TY ((rdr 0 Z) w hw) (aIm am) (by rw[EI am];omega)))) ?_;rintro _ _ ⟨_,rfl,fb,kt,inv,rfl,xp,xt,rfl⟩;refine wm Z<|wX Z Z<|wX Z Z<|wg Z<|wn Z<|wq<|wm Z<|wn Z<|aT [0] 99 cC Z ?_;refine⟨_,Z,?_⟩;obtain rfl:inv=fsL u:=bEa am xp xt;have el:(dC (iota u.length) u (256:Int).toNat).length=(fsL u).length:=by rw[EI am,xS]
  rw[el];exact⟨_,_,Z,Z⟩
theorem bAx (h:u.length=0) (ha:a.length=0):ofL u a=[]/\zat a=0:=by
 obtain rfl:u=[]:=ed h;obtain rfl:a=[]:=ed ha;exact⟨Z,Z⟩
theorem aVg (hu:aR u):(fsL u).Perm (iota (fsL u).length):=by
 rw[xS];exact CY (λx h0 h1=>ZU (l:=u) hu h0 h1) λx y x0 x1 y0 y1 e=>aUe (l:=u) hu x0 x1 y0 y1 e
set_option maxHeartbeats 1500000 in
theorem aOr {Ud:Option Addr} {n_p Ue:Nat} {p:List Int} (In:Rd w Ud n_p Ue 1 (ints .i64 p)) (hp:p.Perm (iota p.length)) (hN:p.length<=1000000):
  Ct Tryz.prog 183 #[sl Ud n_p Ue] w.heap.size w [] (λv R'=> ∃(A:Option Addr) (c:Nat) (vals:List Value) (Rs:List Row),v= .tuple #[sl A vals.length c,bt]/\SlR .i64 Rs vals (eZ p)/\R'=⟨52,1,A,vals.length,c,vals,false⟩::Rs):=by
 obtain rfl:=In.lenI;refine fn2 Tryz.func183 Z Z Z ?_;have m_p:=In.max;refine wq<|wg Z<|wn Z<|aD<|wq<|wm Z<|wa (aF bEr Z (Ct.quiet (λw hw=>aSb ((In.c _) w hw) hp hN))) ?_;rintro _ _ ⟨rfl,rfl⟩;refine wy (dU Z)<|aA<|aJ Z<|aL<|wq<|wm Z<|wy (aQ aa Z)<|wa (VV qc zb4 Z Z G G G) ?_;rintro _ _ ⟨an,rfl,rfl⟩;refine bK (v:=sl (GG an) p.length p.length) Z<|wn Z<|wq<|wa (mE [] underlying232 bIo Z Z Z Z) ?_;rintro _ _ ⟨ew,rfl,rfl⟩;refine wn Z<|aD<|wq<|wm Z<|wy (aQ aa Z)<|wm Z<|aA<|aH ?_;refine tK (λ(i:Int) (A1:Option Addr) (n1:Nat) (c1:Nat) (vals:List Value) (ls:List (List Int)) (E:List Bool) (Rs:List Row)=>[(0,sl Ud p.length Ue),(4,sl (GG an) p.length p.length),(5,sl A1 n1 c1),(17,I ((p.length:Nat):Int)),(18,I i)]) (λi A1 n1 c1 vals ls E Rs=>(⟨52,1,A1,n1,c1,vals,false⟩::⟨4,1,(GG an),p.length,p.length,bools E,false⟩::Rs)) (λi A1 n1 c1 vals ls E Rs=>(0<=i)/\(i<=p.length)/\(n1=vals.length)/\(SlR .i64 Rs vals ls)/\(iZ p i.toNat=(E,ls))) (λi A1 n1 c1 vals ls E Rs=>(p.length-i).toNat) ?_ ?_
 ·exact⟨0,GG ew,0,0,[],[],List.replicate p.length false,[],⟨G,G,(Z),(SlR.nil _),(Z)⟩,SA,λ_ h=>h⟩
 intro i A1 n1 c1 vals ls E Rs ⟨ar,jj,co,ue,Ld⟩;have Qy:E.length=p.length:=by have h:=(lU hp i.toNat G).1;rw[Ld] at h;exact h
 have Xp:vals.length<=i.toNat:=by have h:=MR p i.toNat;rw[Ld] at h;rw[ue.1];exact h
 refine wq<|wL Z Z<|aA<|aD<|bF Z (λaq=> ?_) (λaq=> ?_)
 ·refine aL<|aD<|aH<|wq<|wm Z<|wn Z<|wq<|dB (R1:=((ri 3 none 0 0 ([]))::⟨52,1,A1,n1,c1,vals,false⟩::⟨4,1,(GG an),p.length,p.length,bools E,false⟩::Rs)) (Sub.refl _) (λ_ h=>h.nil 3 1)<|wn Z<|aD<|aD ?_;refine aN<|wm Z<|wn Z<|aH ?_;refine TC (λ(k:Int) (A2:Option Addr) (n2:Nat) (c2:Nat) (acc:List Int) (E2:List Bool) (f:Nat)=>[(0,sl Ud p.length Ue),(4,sl (GG an) p.length p.length),(5,sl A1 n1 c1),(7,sl A2 n2 c2),(8,I k),(17,I ((p.length:Nat):Int)),(18,I i)]) (λk A2 n2 c2 acc E2 f=>((ri 3 A2 n2 c2 acc)::⟨52,1,A1,n1,c1,vals,false⟩::⟨4,1,(GG an),p.length,p.length,bools E2,false⟩::Rs)) (λk A2 n2 c2 acc E2 f=>(0<=k)/\(k<p.length)/\(n2=acc.length)/\(E2.length=p.length)/\(cntF E2<=f)/\((acc++(gJ p f E2 k).1,(gJ p f E2 k).2)=gJ p p.length E i)) (λk A2 n2 c2 acc E2 f=>f) ?_ ?_
  ·exact⟨i,none,0,0,[],E,p.length,⟨G,G,(Z),(Qy),(by have:cntF E<=E.length:=List.countP_le_length;omega),(Z)⟩,SA,λ_ h=>h⟩
  intro k A2 n2 c2 acc E2 f ⟨li,va,sf,Wj,hf,hw⟩;have tk:=aCz hp Qy ar G hw;refine aD<|wq<|wm Z<|wm Z<|wy (aI qc sz4 Z Z (rdr 2 Z))<|wy (FJ Bn Z Z (rdr 2 Z))<|wy (DT Z)<|aA<|bF Z (λce=> ?_) (λce=> ?_)
  ·have hgo:=JK (p:=p) li G hf ce;have o0:=CP li G ce;have ee:=MV li G ce;have Ll:=bE.1 (hp.subset (bN (L:=p) li va));refine aL<|aD<|aH<|wq<|wm Z<|wm Z<|wy (aI qc sz4 Z Z (rdr 2 Z))<|bY (wU 2 Z sz4 Z Z) ?_;rintro _ _ rfl;refine aA<|aN<|wm Z<|wm Z<|wa (bL .i64 [k] aa zs3 Z Z Z) ?_;rintro _ _ ⟨js,rfl,rfl⟩;refine wa (aV 1 Z aa zb3 Z Z Z (rdr 0 Z)) ?_;rintro _ _ ⟨du,dp,rfl,rfl⟩;refine bK (v:=sl du (n2+1) dp) Z<|wn Z<|aN<|wm Z<|wm Z<|wy (aI aa sz3 Z Z (In.c _))<|wy (aW ak Z Z (In.c _))<|wn Z ?_;exact⟨rd p k,du,n2+1,dp,acc++([k]),qB E2 k true,(f-1),⟨G,G,(by rw[ah,sf];rfl),(by rw[lC];exact Wj),G,(by rw[<-hw,hgo];simp only[gy,qb])⟩,G,SA,λ_ h=>h.selR (F:=[_,_,_,_]) (F':=[_,_,_]) [1,2,3] cC Z⟩
  ·have Pt:gJ p p.length E i=(acc,E2):=by rw[<-hw,tJ (xk.1 ce),jk]
   refine aY<|wq<|wm Z<|wy (aQ aa Z)<|wy (dJ Z Z)<|aA<|bF Z (λfj=> ?_) (λfj=> ?_)
   ·refine aN<|wm Z<|wm Z<|wa (mE [Value.slice A2 n2 c2] underlying232 bIo Z Z Z Z) ?_;rintro _ _ ⟨Kr,rfl,rfl⟩;refine wa (oU 2 Z Z underlying232 bNw Z Z Z Z Z (rdr 0 Z) (by simp[Value.oneCell']) (by dsimp only;omega)) ?_;rintro _ _ ⟨jt,bx,rfl,rfl⟩;refine bK (v:=sl jt (n1+1) bx) Z<|wn Z<|aN<|wA Z Z<|wm Z<|aA ?_;exact⟨i+1,jt,n1+1,bx,vals++([Value.slice A2 n2 c2]),(ls++[acc]),E2,((ri 3 A2 n2 c2 acc)::Rs),⟨G,G,(by rw[ah,co];rfl),(ue.snoc sf),(bCm ar Ld Pt (λe=>by rw[e] at sf;simp at sf;omega))⟩,G,SA,λ_ h=>h.selR (F:=[_,_,_,_]) (F':=[_,_,_]) [2,3,1] cC rfl⟩
   ·refine aL<|aN<|wA Z Z<|wm Z<|aA ?_;exact⟨i+1,A1,n1,c1,vals,ls,E2,Rs,⟨G,G,(co),(ue),(bHr ar Ld Pt (ed G))⟩,G,SA,λ_ h=>h.selR (F:=[_,_,_]) (F':=[_,_]) [1,2] cC Z⟩
 ·refine aY<|wq<|wm Z<|wg Z<|wn Z<|aT [0] 2 cC Z ?_;refine⟨_,_,Z,Z,?_⟩;obtain rfl:ls=eZ p:=by unfold eZ;rw[<-show i.toNat=p.length by omega,Ld]
  subst co;exact⟨_,_,vals,Rs,Z,ue,Z⟩
end Go.Proofs.YtdbebmmhdefgdaaGreat
namespace Go.Proofs
open Go.Shelf
def Tryz.laysSlF06_f276_ren:Go.Shelf.Ren:=⟨λ|6=>276|15=>192|14=>304|28=>251|29=>252|20=>329|21=>330|22=>331|23=>332|24=>333|25=>334|26=>335|27=>336|46=>358|47=>282|48=>283|49=>359|50=>360|57=>366|n=>n,λ|22=>228|24=>230|25=>315|3=>3|39=>167|0=>0|53=>123|55=>112|4=>4|46=>289|45=>288|50=>97|5=>5|9=>9|66=>316|70=>320|76=>337|77=>338|n=>n,λ|n=>n⟩
theorem Tryz.laysSlF06_f276:Go.Proofs.SlLaysF0.n6 Tryz.prog Tryz.laysSlF06_f276_ren:= {
 mixed:=cA
 f6:=⟨Tryz.f276.name,cC,Tryz.func276.trans (bq some cA)⟩
 f14:=⟨Tryz.f304.name,cC,Tryz.func304.trans (bq some cA)⟩
 f15:=Tryz.func192.trans (bq some cA)
 f20:=⟨Tryz.f329.name,cC,Tryz.func329.trans (bq some cA)⟩
 f21:=⟨Tryz.f330.name,cC,Tryz.func330.trans (bq some cA)⟩
 f22:=⟨Tryz.f331.name,cC,Tryz.func331.trans (bq some cA)⟩
 f23:=⟨Tryz.f332.name,cC,Tryz.func332.trans (bq some cA)⟩
 f24:=⟨Tryz.f333.name,cC,Tryz.func333.trans (bq some cA)⟩
 f25:=⟨Tryz.f334.name,cC,Tryz.func334.trans (bq some cA)⟩
 f26:=⟨Tryz.f335.name,cC,Tryz.func335.trans (bq some cA)⟩
 f27:=⟨Tryz.f336.name,cC,Tryz.func336.trans (bq some cA)⟩
 f28:=Tryz.func251.trans (bq some cA)
 f29:=Tryz.func252.trans (bq some cA)
 f46:=⟨Tryz.f358.name,cC,Tryz.func358.trans (bq some cA)⟩
 f47:=Tryz.func282.trans (bq some cA)
 f48:=Tryz.func283.trans (bq some cA)
 f49:=⟨Tryz.f359.name,cC,Tryz.func359.trans (bq some cA)⟩
 f50:=⟨Tryz.f360.name,cC,Tryz.func360.trans (bq some cA)⟩
 f57:=⟨Tryz.f366.name,cC,Tryz.func366.trans (bq some cA)⟩
 t0:=Dy
 a0:=Jz
 z0:=Jb
 v0:=Ey
 t3:=Bw
 a3:=Gx
 z3:=Fs
 v3:=Co
 t4:=Dz
 a4:=Ka
 z4:=Jc
 v4:=Ez
 t5:=Ea
 a5:=Kb
 z5:=Jd
 v5:=Fa
 t9:=Eb
 a9:=Kc
 z9:=Je
 v9:=Fb
 t22:=Tryz.underlying228
 a22:=Tryz.isAgg228
 z22:=Tryz.sizeOf228
 v22:=Tryz.zeroValue228
 t25:=Tryz.underlying315
 a25:=Tryz.isAgg315
 z25:=Tryz.sizeOf315
 v25:=Tryz.zeroValue315
 t39:=Ao
 a39:=Ee
 z39:=Dn
 v39:=Bf
 t45:=Gf
 a45:=Tryz.isAgg288
 z45:=Tryz.sizeOf288
 v45:=Gz
 t46:=Gg
 a46:=Tryz.isAgg289
 z46:=Tryz.sizeOf289
 v46:=Ha
 t50:=Gy
 a50:=Tryz.isAgg97
 z50:=Tryz.sizeOf97
 v50:=Ih
 t53:=Cv
 a53:=Ht
 z53:=Gc
 v53:=Dq
 t55:=Cu
 a55:=Hr
 z55:=Gb
 v55:=Dp
 t66:=Gh
 a66:=Tryz.isAgg316
 z66:=Tryz.sizeOf316
 v66:=Hd
 t70:=Gi
 a70:=Tryz.isAgg320
 z70:=Tryz.sizeOf320
 v70:=He
 t76:=Gj
 a76:=Tryz.isAgg337
 z76:=Tryz.sizeOf337
 v76:=Hf
 t77:=Gl
 a77:=Tryz.isAgg338
 z77:=Tryz.sizeOf338
 v77:=Hg}
open Go.RowKit Go.Lib Go.Sort in
theorem Tryz.slices_SortFunc {α:Type} [Inhabited α] (k:Nat) (aE: ∀w,(isAgg 230).run Tryz.prog w= .ok true w) (zE: ∀w,(Go.sizeOf 230).run Tryz.prog w= .ok k w) (enc:α->List Value) (hk: ∀x,(enc x).length=k) (h1: ∀x,∀v∈enc x,v.oneCell'=true) (cf:α->α->Int) (hO:SWO (ltOf cf)) (g:Nat) (cb:Array Value) (gi off cap:Nat) (d:Array α) (w:World) (eg: ∀args w,(callFunc g args).run Tryz.prog w= .ok (.enter g args) w) (xl:CmpLays Tryz.prog g cb enc k cf gi off d.size w) (hH:HoldsK enc k w gi off d) (hblk:gi<w.heap.size) (hsz:d.size<4611686018427387904):
  Calls Tryz.prog 276 #[.slice (some ⟨gi,off,none⟩) d.size cap, .func (.func g) #[] cb] w λe w'=>
   e= .returned (.tuple #[])/\ ∃d' n os,PermIn 0 d.size d d'/\SortedIn (ltOf cf) 0 d.size d'/\w'=sortWorldK enc k w gi off n d' os:=AnyQ.slices_SortFunc Tryz.laysSlF06_f276 k aE zE enc hk h1 cf hO g cb gi off cap d w eg xl hH hblk hsz
end Go.Proofs
namespace Go.Proofs.YtdbebmmhdefgdaaGreat
open Go Go.Eng Go.Pure
open Tryz
set_option maxRecDepth 100000
variable {w:World} {m6 rn u9 pf ln mv:Nat} {u5 pe lj mu:Option Addr} {py:List Value} {ws:List (List Int)} {bs rs:List Int} {t1 t2 h:Int}
theorem aTm {kd:Option Addr} {mt ke:Nat} {l:List Int} (fk:Rd w kd mt ke 1 (ints .i64 l)):
  Ct Tryz.prog 119 #[sl kd mt ke] w.heap.size w [] (λv R'=>v=I (orL l)):=by
 obtain rfl:=fk.lenI;refine fn1 Tryz.func119 Z Z Z ?_;have Oy:=fk.max;refine wq<|wn Z<|wq<|wn Z<|aD<|wq<|wm Z<|wy (aQ aa Z)<|wm Z<|aA ?_;refine aH ?_;refine jD (λ(k:Int)=>[(3,I 0),(6,sl kd l.length ke),(7,I ((l.length:Nat):Int)),(8,I k)]) (λk=>[]) (λk=>(0<=k)/\(k<=l.length)/\(orL l=orL (l.drop k.toNat))) (λk=>(l.length-k).toNat) ?_ ?_
 ·exact⟨0,⟨G,G,(Z)⟩,SA,λ_ h=>h⟩
 intro k ⟨li,va,ho⟩;refine wq<|wL Z Z<|aA<|aD<|bF Z (λaq=> ?_) (λaq=> ?_)
 ·refine aL<|aD<|aH<|wq<|wy (aI aa sz3 Z Z (fk.c _))<|wy (aW ak Z Z (fk.c _))<|wn Z<|wq<|wm Z<|wm Z<|wy (gU Z Z)<|aA ?_;refine bF Z (λce=> ?_) (λce=> ?_)
  ·refine wq<|wm Z<|wn Z<|bW ?_;refine⟨_,Z,?_⟩;exact bq (Value.int .i64) (by rw[ho,bAs li G G])
  ·refine aL<|aN<|wA Z Z<|wm Z<|aA ?_;exact⟨k+1,⟨G,G,(by rw[ho,bGm li G G])⟩,G,SA,λ_ h=>h⟩
 ·refine aY<|wq<|wm Z<|wn Z<|bW ?_;refine⟨_,Z,?_⟩;exact bq (Value.int .i64) (by rw[ho,oq G];rfl)
theorem wT (bb:Rd w (GG m6) 1 1 4 [sl u5 ws.length u9,sl pe rn pf,sl lj bs.length ln,sl mu rs.length mv]) (s7:Rd w u5 ws.length u9 1 py) (Nb:SlW .u8 w py ws) (io:Rd w lj bs.length ln 1 (ints .i64 bs)) (s6:Rd w mu rs.length mv 1 (ints .i64 rs)) (Rj:0<=t1/\t1<ws.length/\t1<bs.length) (Rq:0<=t2/\t2<=1000000) (Rv:0<(rdl ws t1).length) (Rw:0<=rd bs t1/\rd bs t1+(rdl ws t1).length<=rs.length) (hh:0<=h/\h<=1000000):
  Ct Tryz.prog 279 #[PG m6, .agg #[I t1,I t2],I h] w.heap.size w [] (λv R'=>v=I (ahd ws bs rs (t1,t2) h)):=by
 refine fn1 Tryz.func279 Z Z Z ?_;have m_r:=s6.max;have Hi:=io.max;have m_w:=s7.max;have e1:=ko (t2+h) (show((rdl ws t1).length:Int)≠0 by omega);have e2:=ja (t2+h) (show(0:Int)<((rdl ws t1).length:Int) by omega);refine wq<|wa (bR (sz:=2) Z Z) ?_;rintro _ _ ⟨an,rfl,rfl⟩;refine wn Z<|aD<|bP mixed<|wD 0 Z (aM Z)<|wD 1 Z (aG Z)<|wD 2 Z (aB (off:=3) (m:=3) qz Z eF Z Z Z)<|wD 3 Z (aK (bb.c _) aa Z Z Z)<|wD 4 Z (aM Z)<|wD 5 Z (aG Z)<|wD 6 Z (aB (off:=2) (m:=2) qz Z eF Z Z Z)<|wD 7 Z (aK (bb.c _) aa Z Z Z)<|wD 8 Z (dQ (q:=0) (rdr 0 Z) jw sz3 Z Z (au Z) cC cC Z)<|wD 9 Z (aK (rdr 0 Z) ak Z Z Z)<|wD 10 Z (aI aa sz3 Z Z (io.c _)) ?_;refine wD 11 Z (aW ak Z Z (io.c _))<|wD 12 Z (dQ (q:=1) (rdr 0 Z) jw sz3 Z Z (au Z) cC cC Z)<|wD 13 Z (aK (rdr 0 Z) ak Z Z Z)<|wD 14 Z (aM Z)<|wD 15 Z (dG Z Z)<|wD 16 Z (aM Z)<|wD 17 Z (aG Z)<|wD 18 Z (aB (off:=0) (m:=0) qz Z mG Z Z Z)<|wD 19 Z (aK (bb.c _) dm Z Z Z)<|wD 20 Z (dQ (q:=0) (rdr 0 Z) jw sz3 Z Z (au Z) cC cC Z)<|wD 21 Z (aK (rdr 0 Z) ak Z Z Z)<|wD 22 Z (aI dm dA Z Z (s7.c _)) ?_;obtain⟨ff,fh,Za,Lo,hb_7,mhr_6⟩:=Nb.at (i:=t1) G G;refine wD 23 Z (qV af Z Z Z (s7.c _) Za)<|wD 24 Z (aQ af Z)<|wD 25 Z (uN Z Z)<|wD 26 Z (dG Z Z)<|wD 27 Z (aI aa sz3 Z Z (s6.c _))<|wD 28 Z (aW ak Z Z (s6.c _))<|wD 29 Z (bG Z)<|wN<|aT [] 99 cC Z ?_;refine⟨_,Z,?_⟩;rfl
theorem UI (bb:Rd w (GG m6) 1 1 4 [sl u5 ws.length u9,sl pe rn pf,sl lj bs.length ln,sl mu rs.length mv]) (s7:Rd w u5 ws.length u9 1 py) (Nb:SlW .u8 w py ws) (io:Rd w lj bs.length ln 1 (ints .i64 bs)) (s6:Rd w mu rs.length mv 1 (ints .i64 rs)) (Rj:0<=t1/\t1<ws.length/\t1<bs.length) (Rq:0<=t2/\t2<=1000000) (Rv:0<(rdl ws t1).length) (Rw:0<=rd bs t1/\rd bs t1+(rdl ws t1).length<=rs.length):
  Ct Tryz.prog 278 #[PG m6, .agg #[I t1,I t2]] w.heap.size w [] (λv R'=>v=I (ahd ws bs rs (t1,t2) 0)):=by
 refine fn1 Tryz.func278 Z Z Z ?_;have m_r:=s6.max;have Hi:=io.max;have m_w:=s7.max;refine wq<|wa (bR (sz:=2) Z Z) ?_;rintro _ _ ⟨an,rfl,rfl⟩;refine wn Z<|wq<|wm Z<|wy (cK (vs:=[I t1,I t2]) (rdr 0 Z) jw Z jZ Z Z (au Z) Z)<|wa (aF aAx Z (Ct.quiet (λw hw=>wT ((bb.c _) w hw) ((s7.c _) w hw) (Nb.c hw) ((io.c _) w hw) ((s6.c _) w hw) cE cE cE cE cE))) ?_;rintro _ _ ⟨rfl,rfl⟩;refine wn Z<|aT [] 99 cC Z ?_;refine⟨_,Z,?_⟩;rfl
theorem aDe {u1 u2:Int} {g_p:Nat} {Zz:Nat} (bb:Rd w (GG m6) 1 1 4 [sl u5 ws.length u9,sl pe rn pf,sl lj bs.length ln,sl mu rs.length mv]) (s7:Rd w u5 ws.length u9 1 py) (Nb:SlW .u8 w py ws) (io:Rd w lj bs.length ln 1 (ints .i64 bs)) (s6:Rd w mu rs.length mv 1 (ints .i64 rs)) (In:Rd w (GG g_p) 1 1 1 [PG m6]) (h_h:Rd w (GG Zz) 1 1 1 [I h]) (Rj:0<=t1/\t1<ws.length/\t1<bs.length) (Rq:0<=t2/\t2<=1000000) (Rv:0<(rdl ws t1).length) (Rw:0<=rd bs t1/\rd bs t1+(rdl ws t1).length<=rs.length) (ha_u:0<=u1/\u1<ws.length/\u1<bs.length) (hb_u:0<=u2/\u2<=1000000) (hc_u:0<(rdl ws u1).length) (hd_u:0<=rd bs u1/\rd bs u1+(rdl ws u1).length<=rs.length) (hh:0<=h/\h<=1000000):
  Ct Tryz.prog 277 #[.agg #[I t1,I t2], .agg #[I u1,I u2],PG g_p,PG Zz] w.heap.size w [] (λv R'=>v=I (aDg ws bs rs h (t1,t2) (u1,u2))):=by
 refine fn1 Tryz.func277 Z Z Z ?_;have m_r:=s6.max;have Hi:=io.max;have m_w:=s7.max;refine wq<|wa (bR (sz:=2) Z Z) ?_;rintro _ _ ⟨an,rfl,rfl⟩;refine wa (bR (sz:=2) Z Z) ?_;rintro _ _ ⟨ew,rfl,rfl⟩;refine wn Z<|aD<|bP mixed<|wD 0 Z (aK (In.c _) uu Z Z Z)<|wD 1 Z (cK (vs:=[I t1,I t2]) (rdr 1 Z) jw Z jZ Z Z (au Z) Z)<|wD 3 Z (aK (In.c _) uu Z Z Z)<|wD 4 Z (cK (vs:=[I u1,I u2]) (rdr 0 Z) jw Z jZ Z Z (au Z) Z)<|wD 7 Z (aK (In.c _) uu Z Z Z)<|wD 8 Z (cK (vs:=[I t1,I t2]) (rdr 1 Z) jw Z jZ Z Z (au Z) Z)<|wD 9 Z (aK (h_h.c _) ak Z Z Z)<|wD 11 Z (aK (In.c _) uu Z Z Z)<|wD 12 Z (cK (vs:=[I u1,I u2]) (rdr 0 Z) jw Z jZ Z Z (au Z) Z)<|wD 13 Z (aK (h_h.c _) ak Z Z Z)<|wD 16 Z (dQ (q:=0) (rdr 1 Z) jw sz3 Z Z (au Z) cC cC Z) ?_;refine wD 17 Z (aK (rdr 1 Z) ak Z Z Z)<|wD 18 Z (dQ (q:=0) (rdr 0 Z) jw sz3 Z Z (au Z) cC cC Z)<|wD 19 Z (aK (rdr 0 Z) ak Z Z Z)<|wD 21 Z (dQ (q:=1) (rdr 1 Z) jw sz3 Z Z (au Z) cC cC Z)<|wD 22 Z (aK (rdr 1 Z) ak Z Z Z)<|wD 23 Z (dQ (q:=1) (rdr 0 Z) jw sz3 Z Z (au Z) cC cC Z)<|wD 24 Z (aK (rdr 0 Z) ak Z Z Z)<|wC 2 Z (aF aJm Z (Ct.quiet (λw hw=>UI ((bb.c _) w hw) ((s7.c _) w hw) (Nb.c hw) ((io.c _) w hw) ((s6.c _) w hw) cE cE cE cE))) ?_;rintro _ _ ⟨rfl,rfl⟩;refine⟨.inr λ_ h=>h,?_⟩;refine wC 5 Z (aF aJm Z (Ct.quiet (λw hw=>UI ((bb.c _) w hw) ((s7.c _) w hw) (Nb.c hw) ((io.c _) w hw) ((s6.c _) w hw) cE cE cE cE))) ?_;rintro _ _ ⟨rfl,rfl⟩;refine⟨.inr λ_ h=>h,?_⟩;refine wC 6 Z (aF aAz Z (Ct.quiet (λw hw=>oQ))) ?_;rintro _ _ ⟨rfl,rfl⟩;refine⟨.inr λ_ h=>h,?_⟩;refine wC 10 Z (aF aAx Z (Ct.quiet (λw hw=>wT ((bb.c _) w hw) ((s7.c _) w hw) (Nb.c hw) ((io.c _) w hw) ((s6.c _) w hw) cE cE cE cE cE))) ?_;rintro _ _ ⟨rfl,rfl⟩;refine⟨.inr λ_ h=>h,?_⟩;refine wC 14 Z (aF aAx Z (Ct.quiet (λw hw=>wT ((bb.c _) w hw) ((s7.c _) w hw) (Nb.c hw) ((io.c _) w hw) ((s6.c _) w hw) cE cE cE cE cE))) ?_;rintro _ _ ⟨rfl,rfl⟩;refine⟨.inr λ_ h=>h,?_⟩;refine wC 15 Z (aF aAz Z (Ct.quiet (λw hw=>oQ))) ?_;rintro _ _ ⟨rfl,rfl⟩;refine⟨.inr λ_ h=>h,?_⟩;refine wC 20 Z (aF aAz Z (Ct.quiet (λw hw=>oQ))) ?_;rintro _ _ ⟨rfl,rfl⟩;refine⟨.inr λ_ h=>h,?_⟩;refine wC 25 Z (aF aAz Z (Ct.quiet (λw hw=>oQ))) ?_;rintro _ _ ⟨rfl,rfl⟩;refine⟨.inr λ_ h=>h,?_⟩;refine wC 26 Z (bL .i64 [iD (ahd ws bs rs (t1,t2) 0) (ahd ws bs rs (u1,u2) 0),iD (ahd ws bs rs (t1,t2) h) (ahd ws bs rs (u1,u2) h),iD t1 u1,iD t2 u2] aa zs3 Z Z Z) ?_;rintro _ _ ⟨js,rfl,rfl⟩;refine⟨.inr λ_ h=>h.right (R':=[_]),?_⟩;refine wC 27 Z (aF bEz Z (Ct.quiet (λw hw=>aTm ((rdr 0 Z) w hw)))) ?_;rintro _ _ ⟨rfl,rfl⟩;refine⟨.inr λ_ h=>h,?_⟩;refine wD 28 Z (bG Z)<|wN<|aT [] 99 cC Z ?_;refine⟨_,Z,?_⟩;rfl
theorem aDk (cb:Array Value):aKm Tryz.prog 276 277 cb:=λα _ enc hk h1 cf hO gi off cap d w xl hH hblk hsz=>
 Tryz.slices_SortFunc 2 (λw=>cA) (λw=>cA) enc hk h1 cf hO 277 cb gi off cap d w bKs xl hH hblk hsz
theorem aFq {B:Nat} {w0:World} {R:List Row} {yy:Option Addr} {Oz rj Ty zp:Nat} {ts:List (Int × Int)} (mw:Oz=ts.length) (Ss:rj=bs.length) (hnr:Ty=rs.length) (Ls:RdC B w0 R u5 ws.length u9 1 py) (j9: ∀w,Hp B w0 w R->SlW .u8 w py ws) (hv: ∀t∈ts,TOk ws bs rs.length t) (Od: ∀t∈ts,∀u∈ts,iC bs t=iC bs u->t=u) (hnd:ts.Nodup) (dv:ts≠[]) (hN:rs.length<=1000000/\ts.length<=1000000) (hh:0<=h/\h<=1000000):
  Ct Tryz.prog 238 #[PG m6,sl yy Oz zp,I h] B w0 ((rc 281 4 m6 [sl u5 ws.length u9,sl pe rn pf,sl lj rj ln,sl mu Ty mv])::⟨230,2,yy,Oz,zp,prs ts,false⟩::(ri 3 lj rj ln bs)::(ri 3 mu Ty mv rs)::R) (λv R'=> ∃(l1:List (Int × Int)) (rk:List Int) (A':Option Addr) (c':Nat),v=I (iI ws bs rs h l1 (l1.length-1))/\l1.Perm ts/\l1.Pairwise (λx y=> ¬aDg ws bs rs h y x<0)/\rk.length=rs.length/\(∀j:Nat,j<l1.length->rd rk (iC bs (rdp l1 j))=iI ws bs rs h l1 j)/\R'=(rc 281 4 m6 [sl u5 ws.length u9,sl pe rn pf,sl lj rj ln,sl A' Ty c'])::⟨230,2,yy,Oz,zp,prs l1,false⟩::(ri 3 lj rj ln bs)::(ri 3 A' Ty c' rk)::R):=by
 subst mw;subst Ss;subst hnr;refine fn1 Tryz.func238 Z Z Z ?_;have Sf: ∀t∈ts,0<=iC bs t:=λt ht=>by have:=hv t ht;unfold TOk at this;unfold iC;omega
 refine wq<|wa (bR (sz:=1) Z Z) ?_;rintro _ _ ⟨an,rfl,rfl⟩;refine wa (bR (sz:=1) Z Z) ?_;rintro _ _ ⟨ew,rfl,rfl⟩;refine wn Z<|wq<|wm Z<|wy (lN Z Z)<|wa (aF bKt Z (aDm (aDk _) 3 Z dv G (aDg ws bs rs h) (aQx ws bs rs h) (λW hW x hx y hy=>aDe ((rdr 2 Z) W hW) ((RdC.right Ls [_,_,_,_,_]) W hW) (j9 W (Hp.right (R':=[_,_,_,_,_]) hW)) ((rdr 3 Z) W hW) ((rdr 4 Z) W hW) ((rdr 1 Z) W hW) ((rdr 0 Z) W hW) (hv x hx).1 (by have:=(hv x hx).2.1;omega) (hv x hx).2.2.1 (hv x hx).2.2.2 (hv y hy).1 (by have:=(hv y hy).2.1;omega) (hv y hy).2.2.1 (hv y hy).2.2.2 hh))) ?_;rintro _ _ ⟨rfl,l1,qt,vj,rfl⟩;have yk:=qt.length_eq;have Tp: ∀t∈l1,TOk ws bs rs.length t:=λt ht=>hv t (qt.mem_iff.1 ht);have Oh:=qt.nodup_iff.2 hnd;refine aA<|wq<|wy (aK (rdr 1 Z) uu Z Z Z)<|wy (aG Z)<|wy (aB (off:=3) (m:=3) qz Z eF Z Z Z)<|wy (aK (rdr 2 Z) aa Z Z Z)<|wy (aQ aa Z)<|wa (dL aa zb3 Z Z) ?_;rintro _ _ ⟨kc,rfl,rfl⟩;refine bK (v:=sl (GG kc) rs.length rs.length) Z<|wn Z<|wq<|wn Z<|aD<|wq<|wm Z<|wy (aQ jg Z)<|wm Z<|aA<|aH ?_;refine gG (λ(i:Int) (n:Int) (rk:List Int)=>[(1,sl yy ts.length zp),(3,PG an),(5,PG ew),(7,sl (GG kc) rs.length rs.length),(8,I n),(21,sl yy ts.length zp),(22,I ((ts.length:Nat):Int)),(23,I i)]) (λi n rk=>((ri 3 (GG kc) rs.length rs.length rk)::(rc 3 1 ew [I h])::(rc 279 1 an [PG m6])::(rc 281 4 m6 [sl u5 ws.length u9,sl pe rn pf,sl lj bs.length ln,sl mu rs.length mv])::⟨230,2,yy,ts.length,zp,prs l1,false⟩::(ri 3 lj bs.length ln bs)::(ri 3 mu rs.length mv rs)::R)) (λi n rk=>(0<=i)/\(i<=l1.length)/\(0<=n/\n<=i)/\(n=iI ws bs rs h l1 (i-1).toNat)/\(rk.length=rs.length)/\(∀j:Nat,j<i->rd rk (iC bs (rdp l1 j))=iI ws bs rs h l1 j)) (λi n rk=>(l1.length-i).toNat) ?_ ?_
 ·exact⟨0,0,List.replicate rs.length (0:Int),⟨G,G,G,(Z),(by rw[cz]),(λj hj=>G)⟩,SA,λ_ h=>h⟩
 intro i n rk ⟨ar,jj,Lh,hn,Si,j8⟩;refine wq<|wL Z Z<|aA<|aD<|bF Z (λaq=> ?_) (λaq=> ?_)
 ·have hq:=Tp _ (kN ar (show i<l1.length by omega));obtain⟨⟨q1,q2,q3⟩,⟨q4,q5,q6⟩,q7,q8,q9⟩:=hq;have Ln: ∀t∈l1,0<=iC bs t:=λt ht=>Sf t (qt.mem_iff.1 ht);have pm: ∀t∈l1,∀u∈l1,iC bs t=iC bs u->t=u:=λt ht u hu=>Od t (qt.mem_iff.1 ht) u (qt.mem_iff.1 hu);refine aL<|aD<|aH<|wq<|wm Z<|wy (fA jg jZ Z Z (rdr 4 Z) Z)<|wy (JD jw Z jZ Z (rdr 4 Z))<|wa (jF (sz:=2) aPy Z) ?_;rintro _ _ ⟨ka,rfl,rfl⟩;refine wg Z<|bY (gP (vs:=[I ((rdp l1 i).1),I ((rdp l1 i).2)]) 0 Z jZ Z Z Z (by intro v hv;simp at hv;rcases hv with rfl|rfl<;>rfl) Z) ?_;rintro _ _ rfl;refine aA<|aD<|wq<|wm Z<|wy (dJ Z Z)<|aA<|bF Z (λce=> ?_) (λce=> ?_)
  ·have Oo:=Tp _ (kN (show 0<=i-1 by omega) (show i-1<l1.length by omega));obtain⟨⟨p1,p2,p3⟩,⟨p4,p5,p6⟩,p7,p8,p9⟩:=Oo;refine wq<|wm Z<|wm Z<|wS Z Z<|wy (fA jg jZ Z Z (rdr 5 Z) Z)<|wy (JD jw Z jZ Z (rdr 5 Z))<|wa (jF (sz:=2) aPy Z) ?_;rintro _ _ ⟨oe,rfl,rfl⟩;refine bY (gP (vs:=[I ((rdp l1 (i-1)).1),I ((rdp l1 (i-1)).2)]) 0 Z jZ Z Z Z (by intro v hv;simp at hv;rcases hv with rfl|rfl<;>rfl) Z) ?_;rintro _ _ rfl;refine aA ?_;refine tL [(1,sl yy ts.length zp),(3,PG an),(5,PG ew),(7,sl (GG kc) rs.length rs.length),(8,I n),(10,PG ka),(21,sl yy ts.length zp),(22,I ((ts.length:Nat):Int)),(23,I i),(52, .bool (decide (((ahd ws bs rs (((rdp l1 (i-1)).1),((rdp l1 (i-1)).2)) 0)≠(ahd ws bs rs (((rdp l1 i).1),((rdp l1 i).2)) 0))\/((ahd ws bs rs (((rdp l1 (i-1)).1),((rdp l1 (i-1)).2)) h)≠(ahd ws bs rs (((rdp l1 i).1),((rdp l1 i).2)) h)))))] ((rc 230 2 oe [I ((rdp l1 (i-1)).1),I ((rdp l1 (i-1)).2)])::(rc 230 2 ka [I ((rdp l1 i).1),I ((rdp l1 i).2)])::(ri 3 (GG kc) rs.length rs.length rk)::(rc 3 1 ew [I h])::(rc 279 1 an [PG m6])::(rc 281 4 m6 [sl u5 ws.length u9,sl pe rn pf,sl lj bs.length ln,sl mu rs.length mv])::⟨230,2,yy,ts.length,zp,prs l1,false⟩::(ri 3 lj bs.length ln bs)::(ri 3 mu rs.length mv rs)::R) ?_ ?_
   ·refine bP mixed<|wD 0 Z (aK (rdr 4 Z) uu Z Z Z)<|wD 1 Z (cK (vs:=[I ((rdp l1 (i-1)).1),I ((rdp l1 (i-1)).2)]) (rdr 0 Z) jw Z jZ Z Z (au Z) Z)<|wD 3 Z (aK (rdr 4 Z) uu Z Z Z)<|wD 4 Z (cK (vs:=[I ((rdp l1 i).1),I ((rdp l1 i).2)]) (rdr 1 Z) jw Z jZ Z Z (au Z) Z)<|wC 2 Z (aF aJm Z (Ct.quiet (λw hw=>UI ((rdr 5 Z) w hw) ((RdC.right Ls [_,_,_,_,_,_,_,_,_]) w hw) (j9 w (Hp.right (R':=[_,_,_,_,_,_,_,_,_]) hw)) ((rdr 7 Z) w hw) ((rdr 8 Z) w hw) cE cE cE cE))) ?_;rintro _ _ ⟨rfl,rfl⟩;refine⟨.inr λ_ h=>h,?_⟩;refine wC 5 Z (aF aJm Z (Ct.quiet (λw hw=>UI ((rdr 5 Z) w hw) ((RdC.right Ls [_,_,_,_,_,_,_,_,_]) w hw) (j9 w (Hp.right (R':=[_,_,_,_,_,_,_,_,_]) hw)) ((rdr 7 Z) w hw) ((rdr 8 Z) w hw) cE cE cE cE))) ?_;rintro _ _ ⟨rfl,rfl⟩;refine⟨.inr λ_ h=>h,?_⟩;refine wD 6 Z (gU Z Z)<|wD 7 Z (aM Z)<|oF 42 Z (λfj=> ?_) (λfj=> ?_)
    ·refine wO 8 Z Z Z<|wO 9 Z Z Z<|wO 10 Z Z Z<|wO 11 Z Z Z<|wO 12 Z Z Z<|wO 13 Z Z Z<|wO 14 Z Z Z<|wO 15 Z Z Z<|wO 16 Z Z Z<|wD 17 Z (bB Z Z)<|wN ?_;exact⟨SA,λ_ h=>h⟩
    ·refine wG 8 Z Z Z (aK (rdr 4 Z) uu Z Z Z)<|wG 9 Z Z Z (cK (vs:=[I ((rdp l1 (i-1)).1),I ((rdp l1 (i-1)).2)]) (rdr 0 Z) jw Z jZ Z Z (au Z) Z)<|wG 10 Z Z Z (aK (rdr 3 Z) ak Z Z Z)<|wG 12 Z Z Z (aK (rdr 4 Z) uu Z Z Z)<|wG 13 Z Z Z (cK (vs:=[I ((rdp l1 i).1),I ((rdp l1 i).2)]) (rdr 1 Z) jw Z jZ Z Z (au Z) Z)<|wG 14 Z Z Z (aK (rdr 3 Z) ak Z Z Z)<|WH 11 Z cA Z Z Z (aF aAx Z (Ct.quiet (λw hw=>wT ((rdr 5 Z) w hw) ((RdC.right Ls [_,_,_,_,_,_,_,_,_]) w hw) (j9 w (Hp.right (R':=[_,_,_,_,_,_,_,_,_]) hw)) ((rdr 7 Z) w hw) ((rdr 8 Z) w hw) cE cE cE cE cE))) ?_;rintro _ _ ⟨rfl,rfl⟩;refine⟨.inr λ_ h=>h,?_⟩;refine WH 15 Z cA Z Z Z (aF aAx Z (Ct.quiet (λw hw=>wT ((rdr 5 Z) w hw) ((RdC.right Ls [_,_,_,_,_,_,_,_,_]) w hw) (j9 w (Hp.right (R':=[_,_,_,_,_,_,_,_,_]) hw)) ((rdr 7 Z) w hw) ((rdr 8 Z) w hw) cE cE cE cE cE))) ?_;rintro _ _ ⟨rfl,rfl⟩;refine⟨.inr λ_ h=>h,?_⟩;refine wG 16 Z Z Z (gU Z Z)<|wD 17 Z (aS Z Z)<|wN ?_;exact⟨SA,λ_ h=>h⟩
   refine bF Z (λkl=> ?_) (λkl=> ?_)
   ·refine aN<|wm Z<|wA Z Z<|wn Z<|bP mixed<|wD 0 Z (aM Z)<|wD 1 Z (aK (rdr 4 Z) uu Z Z Z)<|wD 2 Z (aG Z)<|wD 3 Z (aB (off:=2) (m:=2) qz Z eF Z Z Z)<|wD 4 Z (aK (rdr 5 Z) aa Z Z Z)<|wD 5 Z (dQ (q:=0) (rdr 1 Z) jw sz3 Z Z (au Z) cC cC Z)<|wD 6 Z (aK (rdr 1 Z) ak Z Z Z)<|wD 7 Z (aI aa sz3 Z Z (rdr 7 Z))<|wD 8 Z (aW ak Z Z (rdr 7 Z)) ?_;refine wD 9 Z (dQ (q:=1) (rdr 1 Z) jw sz3 Z Z (au Z) cC cC Z)<|wD 10 Z (aK (rdr 1 Z) ak Z Z Z)<|wD 11 Z (dG Z Z)<|wD 12 Z (aM Z)<|wD 13 Z (aI aa sz3 Z Z (rdr 2 Z))<|oW 14 Z cA (bJ 2 Z sz3 Z Z) ?_;rintro _ _ rfl;refine⟨.inl cA,?_⟩;refine wN<|aN<|wA Z Z<|wm Z<|aA ?_;exact⟨i+1,n+1,upd rk ((rd bs ((rdp l1 i).1))+((rdp l1 i).2)) (n+1),⟨G,G,G,(by rw[show i+1-1=i by omega,xV G,df cF,<-hn]),(by rw[upd,Ew];exact Si),(yU Oh pm ar G Ln (by unfold iC;omega) j8 (by have e:(i+1-1)=i:=G;have hc:=(by rw[show i+1-1=i by omega,xV G,df cF,<-hn]:_=iI ws bs rs h l1 (i+1-1).toNat);rw[e] at hc;exact hc))⟩,G,SA,λ_ h=>h.selR (F:=[_,_,_,_,_,_,_,_,_]) (F':=[_,_,_,_,_,_,_]) [2,3,4,5,6,7,8] cC Z⟩
   ·refine aL<|bP mixed<|wD 0 Z (aM Z)<|wD 1 Z (aK (rdr 4 Z) uu Z Z Z)<|wD 2 Z (aG Z)<|wD 3 Z (aB (off:=2) (m:=2) qz Z eF Z Z Z)<|wD 4 Z (aK (rdr 5 Z) aa Z Z Z)<|wD 5 Z (dQ (q:=0) (rdr 1 Z) jw sz3 Z Z (au Z) cC cC Z)<|wD 6 Z (aK (rdr 1 Z) ak Z Z Z)<|wD 7 Z (aI aa sz3 Z Z (rdr 7 Z))<|wD 8 Z (aW ak Z Z (rdr 7 Z))<|wD 9 Z (dQ (q:=1) (rdr 1 Z) jw sz3 Z Z (au Z) cC cC Z)<|wD 10 Z (aK (rdr 1 Z) ak Z Z Z)<|wD 11 Z (dG Z Z)<|wD 12 Z (aM Z) ?_;refine wD 13 Z (aI aa sz3 Z Z (rdr 2 Z))<|oW 14 Z cA (bJ 2 Z sz3 Z Z) ?_;rintro _ _ rfl;refine⟨.inl cA,?_⟩;refine wN<|aN<|wA Z Z<|wm Z<|aA ?_;exact⟨i+1,n,upd rk ((rd bs ((rdp l1 i).1))+((rdp l1 i).2)) n,⟨G,G,G,(by rw[show i+1-1=i by omega,xV G,bu cF,<-hn,yh]),(by rw[upd,Ew];exact Si),(yU Oh pm ar G Ln (by unfold iC;omega) j8 (by have e:(i+1-1)=i:=G;have hc:=(by rw[show i+1-1=i by omega,xV G,bu cF,<-hn,yh]:_=iI ws bs rs h l1 (i+1-1).toNat);rw[e] at hc;exact hc))⟩,G,SA,λ_ h=>h.selR (F:=[_,_,_,_,_,_,_,_,_]) (F':=[_,_,_,_,_,_,_]) [2,3,4,5,6,7,8] cC Z⟩
  ·refine aL<|bP mixed<|wD 0 Z (aM Z)<|wD 1 Z (aK (rdr 3 Z) uu Z Z Z)<|wD 2 Z (aG Z)<|wD 3 Z (aB (off:=2) (m:=2) qz Z eF Z Z Z)<|wD 4 Z (aK (rdr 4 Z) aa Z Z Z)<|wD 5 Z (dQ (q:=0) (rdr 0 Z) jw sz3 Z Z (au Z) cC cC Z)<|wD 6 Z (aK (rdr 0 Z) ak Z Z Z)<|wD 7 Z (aI aa sz3 Z Z (rdr 6 Z))<|wD 8 Z (aW ak Z Z (rdr 6 Z))<|wD 9 Z (dQ (q:=1) (rdr 0 Z) jw sz3 Z Z (au Z) cC cC Z)<|wD 10 Z (aK (rdr 0 Z) ak Z Z Z)<|wD 11 Z (dG Z Z)<|wD 12 Z (aM Z) ?_;refine wD 13 Z (aI aa sz3 Z Z (rdr 1 Z))<|oW 14 Z cA (bJ 1 Z sz3 Z Z) ?_;rintro _ _ rfl;refine⟨.inl cA,?_⟩;refine wN<|aN<|wA Z Z<|wm Z<|aA ?_;exact⟨i+1,n,upd rk ((rd bs ((rdp l1 i).1))+((rdp l1 i).2)) n,⟨G,G,G,(by have h0:i=0:=G;subst h0;exact hn),(by rw[upd,Ew];exact Si),(yU Oh pm ar G Ln (by unfold iC;omega) j8 (by have e:(i+1-1)=i:=G;have hc:=(by have h0:i=0:=G;subst h0;exact hn:_=iI ws bs rs h l1 (i+1-1).toNat);rw[e] at hc;exact hc))⟩,G,SA,λ_ h=>h.selR (F:=[_,_,_,_,_,_,_,_]) (F':=[_,_,_,_,_,_,_]) [1,2,3,4,5,6,7] cC Z⟩
 ·refine aY<|wq<|wy (aK (rdr 2 Z) uu Z Z Z)<|wm Z<|wy (aG Z)<|wy (aB (off:=3) (m:=3) qz Z eF Z Z Z)<|bY (bC 3 Z Z Z eF Z Z Z Z (au Z)) ?_;rintro _ _ rfl;refine aA<|wq<|wm Z<|wn Z<|aT [3,4,5,0] 7 cC Z ?_;refine⟨_,Z,?_⟩;obtain rfl:i=l1.length:=G
  refine⟨l1,rk,_,_,?_,qt,vj,Si,λj hj=>j8 j G,Z⟩;rw[hn,show((l1.length:Int)-1).toNat=l1.length-1 by omega]
variable {w:World}
theorem aPb {kd:Option Addr} {mt ke:Nat} {l:List (Int × Int)} (fk:Rd w kd mt ke 2 (prs l)) (hN:l.length<=1000000):
  Ct Tryz.prog 237 #[sl kd mt ke] w.heap.size w [] (λv R'=> ∃A c,v=sl A l.length c/\R'=[⟨230,2,A,l.length,c,prs l,false⟩]):=by
 obtain rfl:mt=l.length:=by have:=fk.len;rw[iX] at this;omega
 refine fn1 Tryz.func237 Z Z Z ?_;refine wq<|wn Z<|aD<|wq<|wm Z<|wy (aHg jg Z Z)<|aA<|JL Z (λaq=> ?_) (λaq=> ?_)
 ·refine wq<|wn Z<|bS (R1:=[⟨230,2,none,0,0,prs [],false⟩]) (λ_ h=>h.nilP 230) ?_;refine⟨_,Z,?_⟩;have hA:kd=none:=by simpa using aq
  subst hA;obtain rfl:=aSy fk;exact⟨none,0,Z,Z⟩
 ·refine aL<|wq<|wa (VW jg JB) ?_;rintro _ _ ⟨cm,rfl,rfl⟩;refine wm Z<|wa (iR 0 Z jg uS Z Z Z Z (fk.c _) G) ?_;rintro _ _ ⟨ff,fh,rfl,rfl⟩;refine bK (v:=sl ff (0+l.length) fh) Z<|wn Z<|bS (R1:=[⟨230,2,ff,(0+l.length),fh,prs (([])++l),false⟩]) (λ_ h=>h) ?_;refine⟨_,Z,?_⟩;simp only[ng,je];exact⟨_,_,Z,Z⟩
theorem aQt {ft:Option Addr} {lf gd:Nat} {dj:List Value} {ws:List (List Int)} (gh:Rd w ft lf gd 1 dj) (mc:SlW .u8 w dj ws) (hN:ws.flatten.length<=400000/\ws.length<=1000000):
  Ct Tryz.prog 179 #[sl ft lf gd] w.heap.size w [] (λv R'=> ∃(l:List (Int × Int)) (A:Option Addr) (c:Nat),v=sl A l.length c/\l.Perm (fT ws ws.length)/\l.Pairwise (jB ws)/\R'=[⟨230,2,A,l.length,c,prs l,false⟩]):=by
 obtain rfl:lf=ws.length:=by have:=gh.len;have:=mc.1;omega
 refine fn1 Tryz.func179 Z Z Z ?_;have Hj:=gh.max;have tx:=hN.1;refine wq<|wn Z<|wq<|wm Z<|wy (dZ (v:= .agg #[sl ft ws.length gd,sl none 0 0,sl none 0 0,sl none 0 0]) Z (λw=>cA))<|wa (bR (sz:=4) rfl rfl) ?_;rintro _ _ ⟨an,rfl,rfl⟩;refine dB (R1:=[⟨230,2,none,0,0,prs ([]),false⟩,(ri 3 none 0 0 ([])),(ri 3 none 0 0 ([])),(rc 281 4 an [sl ft ws.length gd,sl none 0 0,sl none 0 0,sl none 0 0])]) (Sub.refl _) (λ_ h=>((h.nil 3 1).nil 3 1).nilP 230)<|wn Z<|wq<|wn Z<|aD<|wq<|wm Z<|wy (aQ dm Z)<|wm Z<|aA<|aH ?_;refine aQn (λ(k:Int) (lg:Int) (A1:Option Addr) (n1:Nat) (c1:Nat) (T:List (Int × Int)) (A2:Option Addr) (n2:Nat) (c2:Nat) (Bs:List Int) (A3:Option Addr) (n3:Nat) (c3:Nat) (Rs:List Int)=>[(3,PG an),(4,I lg),(16,sl ft ws.length gd),(17,I ((ws.length:Nat):Int)),(18,I k)]) (λk lg A1 n1 c1 T A2 n2 c2 Bs A3 n3 c3 Rs=>[⟨230,2,A1,n1,c1,prs T,false⟩,(ri 3 A2 n2 c2 Bs),(ri 3 A3 n3 c3 Rs),(rc 281 4 an [sl ft ws.length gd,sl A1 n1 c1,sl A2 n2 c2,sl A3 n3 c3])]) (λk lg A1 n1 c1 T A2 n2 c2 Bs A3 n3 c3 Rs=>(0<=k)/\(k<=ws.length)/\(0<=lg/\lg<=400000)/\(∀w:Int,0<=w->w<k->((rdl ws w).length:Int)<=lg)/\(lg=0/\nS ws k.toNat=0\/0<lg/\0<nS ws k.toNat)/\(T=fT ws k.toNat)/\(n1=nS ws k.toNat)/\(Bs=rF ws k.toNat)/\(n2=k.toNat)/\(Rs=(ws.take k.toNat).flatten)/\(n3=nS ws k.toNat)) (λk lg A1 n1 c1 T A2 n2 c2 Bs A3 n3 c3 Rs=>(ws.length-k).toNat) ?_ ?_
 ·exact⟨0,0,none,0,0,[],none,0,0,[],none,0,0,[],⟨G,G,G,(λw h0 h1=>G),(.inl ⟨rfl,rfl⟩),(rfl),(rfl),(rfl),(rfl),(rfl),(rfl)⟩,SA,λ_ h=>h⟩
 intro k lg A1 n1 c1 T A2 n2 c2 Bs A3 n3 c3 Rs ⟨li,va,hg0,Xz,Bk,hT,Yh,Pa,hnB,Nm,hnR⟩;refine wq<|wL Z Z<|aA<|aD<|bF Z (λaq=> ?_) (λaq=> ?_)
 ·have Yj:=jV li (show k<ws.length by omega);have hole:=IR ws (k+1).toNat;refine aL<|aD<|aH<|wq<|wm Z<|wy (aI dm dA Z Z (gh.c _)) ?_;obtain⟨eh,es,Yz,Te,hb_6,mhr_5⟩:=mc.at (i:=k) G G;refine wy (qV af Z Z Z (gh.c _) Yz)<|wg Z<|wn Z<|aD<|bP mixed<|wD 0 Z (aM Z)<|wD 1 Z (aM Z)<|wD 2 Z (aG Z)<|wD 3 Z (aB (off:=2) (m:=2) qz Z eF Z Z Z)<|wD 4 Z (aK (rdr 3 Z) aa Z Z Z)<|wD 5 Z (aM Z)<|wD 6 Z (aG Z)<|wD 7 Z (aB (off:=1) (m:=1) qz Z XD Z Z Z)<|wD 8 Z (aK (rdr 3 Z) jg Z Z Z) ?_;refine wD 9 Z (aQ jg Z)<|wC 10 Z (bL .i64 [((n1:Nat):Int)] aa zs3 Z Z Z) ?_;rintro _ _ ⟨xj,rfl,rfl⟩;refine⟨.inr λ_ h=>h.right (R':=[_]),?_⟩;refine wC 11 Z (aV 2 Z aa zb3 Z Z Z (rdr 0 Z)) ?_;rintro _ _ ⟨dr,bh,rfl,rfl⟩;refine⟨.inl cA,?_⟩;refine iJ (v:=sl dr (n2+1) bh) Z<|wD 12 Z (aG Z)<|wD 13 Z (aB (off:=2) (m:=2) qz Z eF Z Z Z)<|oW 14 Z cA (bC 4 Z Z Z eF Z Z Z Z (au Z)) ?_;rintro _ _ rfl;refine⟨.inl cA,?_⟩;refine wN<|wq<|wm Z<|wm Z<|wy (aQ af Z)<|wy (aQc Z Z)<|wn Z<|wq<|wm Z<|wy (aQ af Z)<|wm Z<|aA ?_;refine aH ?_;refine TB (λ(j:Int) (B1:Option Addr) (m1:Nat) (d1:Nat) (U:List (Int × Int)) (B3:Option Addr) (m3:Nat) (d3:Nat) (V:List Int)=>[(3,PG an),(4,I (max lg (((rdl ws k).length:Nat):Int))),(5,I k),(16,sl ft ws.length gd),(17,I ((ws.length:Nat):Int)),(18,I k),(41,sl eh ((rdl ws k).length) es),(42,I (((rdl ws k).length:Nat):Int)),(43,I j)]) (λj B1 m1 d1 U B3 m3 d3 V=>[(ri 3 (GG xj) 1 1 ([((n1:Nat):Int)])),⟨230,2,B1,m1,d1,prs U,false⟩,(ri 3 dr (n2+1) bh (Bs++([((n1:Nat):Int)]))),(ri 3 B3 m3 d3 V),(rc 281 4 an [sl ft ws.length gd,sl B1 m1 d1,sl dr (n2+1) bh,sl B3 m3 d3])]) (λj B1 m1 d1 U B3 m3 d3 V=>(0<=j)/\(j<=(rdl ws k).length)/\(U=fT ws k.toNat++turnsOf k j.toNat)/\(m1=nS ws k.toNat+j.toNat)/\(V=(ws.take k.toNat).flatten++(rdl ws k).take j.toNat)/\(m3=nS ws k.toNat+j.toNat)) (λj B1 m1 d1 U B3 m3 d3 V=>((rdl ws k).length-j).toNat) ?_ ?_
  ·exact⟨0,A1,n1,c1,T,A3,n3,c3,Rs,⟨G,G,(by rw[hT];exact(jk _).symm),(Yh),(by rw[Nm];exact(jk _).symm),(hnR)⟩,SA,λ_ h=>h⟩
  intro j B1 m1 d1 U B3 m3 d3 V ⟨tz,n5,hU,na,hV,hm3⟩;refine wq<|wL Z Z<|aA<|aD<|bF Z (λce=> ?_) (λce=> ?_)
  ·refine aL<|aD<|aH<|wq<|wm Z<|wy (aI af sz5 Z Z (Te.c _))<|wy (aW bg Z Z (Te.c _))<|wg Z<|wn Z<|wq<|wm Z<|wm Z ?_;refine wy (aG Z)<|wy (aB (off:=1) (m:=1) qz Z XD Z Z Z)<|wy (aK (rdr 4 Z) jg Z Z Z)<|wm Z<|wm Z<|wy (dZ (v:= .agg #[I k,I j]) Z (λw=>cA))<|wa (NT jg JB rfl) ?_;rintro _ _ ⟨jn,rfl,rfl⟩;refine wa (iR 2 Z jg uS Z Z Z Z (rdr 0 Z) G) ?_;rintro _ _ ⟨ia,ie,rfl,rfl⟩;refine bK (v:=sl ia (m1+1) ie) Z<|wy (aG Z)<|wy (aB (off:=1) (m:=1) qz Z XD Z Z Z)<|bY (bC 5 Z Z Z XD Z Z Z Z (au Z)) ?_;rintro _ _ rfl;refine aA<|aN<|wm Z<|wm Z<|wy (aG Z)<|wy (aB (off:=3) (m:=3) qz Z eF Z Z Z)<|wy (aK (rdr 5 Z) aa Z Z Z)<|wm Z<|wy (iF bg ak Z (by have Nu:=(wR (by assumption: ∀x∈rdl ws k,(Lit.int .u8 x).wf=true)).rd j;omega)) ?_;refine wa (bL .i64 [rd (rdl ws k) j] aa zs3 Z Z Z) ?_;rintro _ _ ⟨v6,rfl,rfl⟩;refine wa (aV 5 Z aa zb3 Z Z Z (rdr 0 Z)) ?_;rintro _ _ ⟨cy,da,rfl,rfl⟩;refine bK (v:=sl cy (m3+1) da) Z<|wy (aG Z)<|wy (aB (off:=3) (m:=3) qz Z eF Z Z Z)<|bY (bC 6 Z Z Z eF Z Z Z Z (au Z)) ?_;rintro _ _ rfl;refine aA<|aN<|wA Z Z<|wm Z<|aA ?_;exact⟨j+1,ia,(m1+1),ie,U++([(k,j)]),cy,(m3+1),da,V++([rd (rdl ws k) j]),⟨G,G,(by rw[hU,zT k tz,gy]),G,(by rw[hV,gy,dH tz G]),G⟩,G,SA,λ_ h=>h.sel [2,3,4,5,6] cC Z⟩
  ·refine aY<|aN<|wA Z Z<|wm Z<|aA ?_
   exact⟨k+1,max lg (((rdl ws k).length:Nat):Int),B1,m1,d1,U,dr,(n2+1),bh,Bs++([((n1:Nat):Int)]),B3,m3,d3,V,⟨G,G,G,(λw h0 h1=>by
      by_cases hw:w=k
      ·rw[hw];omega
      ·have:=Xz w h0 G;omega),(by have Yj:=jV li (show k<ws.length by omega);omega),(by have hj:j.toNat=(rdl ws k).length:=G;rw[hU,hj,JQ li]),(by rw[na,jV li G];omega),(by rw[Pa,aGu li,Yh]),G,(by have hj:j.toNat=(rdl ws k).length:=G;rw[hV,hj,uz,jJ li G]),(by rw[hm3,jV li G];omega)⟩,G,SA,λ_ h=>h.sel [1,2,3,4] cC rfl⟩
 ·have Ut:k=ws.length:=G
  have Pm:k.toNat=ws.length:=G
  rw[Pm] at hT Pa Nm Yh hnB hnR Bk;rw[uz] at Nm;have hoT:=xC ws ws.length (di _);have hoB:=SE ws ws.length;have hoR:nS ws ws.length=ws.flatten.length:=by unfold nS;rw[uz]
  obtain rfl:n1=T.length:=by rw[hT];omega
  obtain rfl:n2=Bs.length:=by rw[Pa];omega
  obtain rfl:n3=Rs.length:=by rw[Nm];omega
  have Ww:T.length<=1000000:=by rw[hT];omega
  refine aY<|wq<|wm Z<|wy (aG Z)<|wy (aB (off:=1) (m:=1) qz Z XD Z Z Z)<|wy (aK (rdr 3 Z) jg Z Z Z)<|wa (aF bLl Z (Ct.fresh (λw hw=>aPb ((rdr 0 Z) w hw) Ww))) ?_;rintro _ _ ⟨_,rfl,yv,im,rfl,rfl⟩;refine wn Z<|wq<|wn Z<|aD<|wq<|wn Z<|aH ?_;refine mK (λ(h:Int) (was:Int) (l:List (Int × Int)) (A4:Option Addr) (c4:Nat) (rs:List Int)=>[(3,PG an),(4,I lg),(9,sl yv T.length im),(10,I was),(11,I h)]) (λh was l A4 c4 rs=>[⟨230,2,yv,T.length,im,prs l,false⟩,⟨230,2,A1,T.length,c1,prs T,false⟩,(ri 3 A2 Bs.length c2 Bs),(ri 3 A4 Rs.length c4 rs),(rc 281 4 an [sl ft ws.length gd,sl A1 T.length c1,sl A2 Bs.length c2,sl A4 Rs.length c4])]) (λh was l A4 c4 rs=>(0<=h)/\(l.Perm T)/\(rs.length=Rs.length)/\(RK ws Bs (mY h) rs)/\(0<h->Sorted ws (mY h) l/\Go.Pure.Steps Bs rs l was)) (λh was l A4 c4 rs=>(2*lg-h).toNat) ?_ ?_
  ·exact⟨0,-1,T,A3,c3,Rs,⟨G,(.refl _),(Z),(by rw[Nm,Pa];exact aRw ws),(λh=>absurd h G)⟩,SA,λ_ h=>h⟩
  intro h was l A4 c4 rs ⟨Us,Mq,Ve,Ul,gv⟩;have Pv: ∀t∈l,TV ws t:=λt ht=>xO.1 (by rw[<-hT];exact Mq.mem_iff.1 ht);have hvv: ∀t∈l,TOk ws Bs rs.length t:=λt ht=>by rw[Ve,Nm,Pa];exact bDd G (Pv t ht)
  have pm: ∀t∈l,∀u∈l,iC Bs t=iC Bs u->t=u:=λt ht u hu e=>aTa (Pv t ht) (Pv u hu) (by rw[<-Pa];exact e);have hnd:l.Nodup:=Mq.nodup_iff.2 (by rw[hT];exact vI ws _);have Ti:Rs.length=ws.flatten.length:=by rw[Nm]
  have ub:=Mq.length_eq;have hTo:T.length=nS ws ws.length:=by rw[hT];exact hoT
  refine aD<|wq<|wm Z<|wm Z<|wy (iV Z Z)<|wL Z Z<|aA<|bF Z (λfj=> ?_) (λfj=> ?_)
  ·have dv:l≠[]:=λe=>by rw[e] at ub;simp only[jl] at ub;omega
   refine aL<|aD<|aH<|wq<|wm Z<|wm Z<|wm Z<|dB (R1:=[(rc 281 4 an [sl ft ws.length gd,sl A1 T.length c1,sl A2 Bs.length c2,sl A4 Rs.length c4]),⟨230,2,yv,T.length,im,prs l,false⟩,(ri 3 A2 Bs.length c2 Bs),(ri 3 A4 Rs.length c4 rs),⟨230,2,A1,T.length,c1,prs T,false⟩]) (Sub.refl _) (λ_ h=>h.sel [4,0,2,3,1] cC Z)<|wa (aF bLk Z (aFq (bs:=Bs) (rs:=rs) (ts:=l) ub.symm Z Ve.symm (gh.c _) (λw hw=>mc.c hw) hvv pm hnd dv ⟨G,G⟩ ⟨Us,G⟩)) ?_;rintro _ _ ⟨ud,Na,xd,xf,rfl,me,Lv,Sm,b9,rfl⟩;have Lu:Sorted ws (gH h) ud:=⟨λt ht=>Pv t (me.mem_iff.1 ht),me.nodup_iff.2 hnd,Lv.imp_of_mem λ{x y} hx hy hn ho=>hn ((aQy Us Ul (Pv y (me.mem_iff.1 hy)) (Pv x (me.mem_iff.1 hx))).2 ho)⟩;have Me: ∀t,TV ws t->t∈ud:=λt ht=>me.mem_iff.2 (Mq.mem_iff.2 (by rw[hT];exact xO.2 ht));have Ws:=aZw Us Ul Lu Me b9;have Yy:=aDi Us Ul Lu b9;have kx:=me.length_eq;refine wn Z<|aD<|wq<|wm Z<|wm Z<|wy (aX Z Z)<|wm Z<|dD 3 [(3,PG an),(4,I lg),(9,sl yv T.length im),(11,I h),(12,I (iI ws Bs rs h ud (ud.length-1))),(95, .bool (decide (((iI ws Bs rs h ud (ud.length-1))=was)/\(0<h))))] [(rc 281 4 an [sl ft ws.length gd,sl A1 T.length c1,sl A2 Bs.length c2,sl xd Rs.length xf]),⟨230,2,yv,T.length,im,prs ud,false⟩,(ri 3 A2 Bs.length c2 Bs),(ri 3 xd Rs.length xf Na),⟨230,2,A1,T.length,c1,prs T,false⟩] ?_ ?_
   ·refine bV 92 Z (λkl=> ?_) (λkl=> ?_)
    ·refine aC Z Z<|wm Z<|aC Z Z<|wy (dJ Z Z)<|wy (bB Z Z)<|aA ?_;exact⟨SA,λ_ h=>h⟩
    ·refine aP Z Z Z Z<|aP Z Z Z Z<|wy (aS Z Z)<|aA ?_;exact⟨SA,λ_ h=>h⟩
   refine aA<|bF Z (λmd=> ?_) (λmd=> ?_)
   ·refine aY<|wq<|wm Z<|wn Z<|aT [1] 99 cC Z ?_;refine⟨_,Z,?_⟩;have ph:T.length=ud.length:=G
    rw[ph];refine⟨ud,_,_,Z,?_,?_,Z⟩
    ·rw[<-hT];exact me.trans Mq
    ·exact stay md.2 Ul Lu Me me (gv md.2).2 md.1
   ·refine aL<|aN<|wm Z<|wn Z<|aN<|wm Z<|wy (iV Z Z)<|wy (aQc Z Z)<|wn Z ?_;exact⟨max 1 (2*h),iI ws Bs rs h ud (ud.length-1),ud,xd,xf,Na,⟨G,(me.trans Mq),G,(by have e:mY (max 1 (2*h))=gH h:=(by unfold mY gH;split<;>omega);rw[e];exact Ws),(λ_=>by have e:mY (max 1 (2*h))=gH h:=(by unfold mY gH;split<;>omega);rw[e];exact⟨Lu,Yy⟩)⟩,G,SA,λ_ h=>h.sel [1,4,2,3,0] cC rfl⟩
  ·refine aY<|wq<|wm Z<|wn Z<|aT [0] 99 cC Z ?_;refine⟨_,Z,?_⟩;have ph:T.length=l.length:=G
   rw[ph];refine⟨l,_,_,Z,?_,?_,Z⟩
   ·rw[<-hT];exact Mq
   ·by_cases h0:0<h
    ·refine (gv h0).1.toO λt u ht hu e=>aAq ht hu ?_ e;have a:=Xz t.1 ht.1 (by rw[Ut];exact ht.2.1);have b:=Xz u.1 hu.1 (by rw[Ut];exact hu.2.1);unfold mY;omega
    ·have Cd:l=[]:=ed G;rw[Cd];exact .nil
variable {ws:List (List Int)}
theorem VE {k:Int} (h0:0<=k) (h:k<ws.length):(rdl ws k).length<=ws.flatten.length:=by
 have a:=jV h0 h;have b:=IR ws (k+1).toNat;omega
theorem aHo (u:List Int) (i:Nat):(u.drop i++u.take i).length<=u.length:=by
 rw[ah,ay,ax];omega
set_option maxHeartbeats 400000 in
theorem aKw {w:World} {ft:Option Addr} {lf gd:Nat} {dj:List Value} (gh:Rd w ft lf gd 1 dj) (mc:SlW .u8 w dj ws) (hN:ws.flatten.length<=400000/\ws.length<=1000000):
  Ct Tryz.prog 210 #[sl ft lf gd] w.heap.size w [] (λv R'=> ∃(l:List (Int × Int)) (A:Option Addr) (c:Nat),v=sl A l.length c/\l.Perm (fT ws ws.length)/\l.Pairwise (jB ws)/\R'=[⟨230,2,A,l.length,c,prs l,false⟩]):=by
 obtain rfl:lf=ws.length:=by have:=gh.len;have:=mc.1;omega
 refine fn1 Tryz.func210 Z Z Z ?_;have Hj:=gh.max;refine wq<|wn Z<|wq<|dB (R1:=[⟨230,2,none,0,0,prs ([]),false⟩]) (Sub.refl _) (λ_ h=>h.nilP 230)<|wn Z<|aD<|wq<|wn Z<|aH ?_;refine fH (λ(q:Int) (A1:Option Addr) (n1:Nat) (c1:Nat) (T:List (Int × Int))=>[(0,sl ft ws.length gd),(3,sl A1 n1 c1),(4,I q)]) (λq A1 n1 c1 T=>[⟨230,2,A1,n1,c1,prs T,false⟩]) (λq A1 n1 c1 T=>(0<=q)/\(q<=ws.length)/\(n1=T.length)/\(T.Perm (fT ws q.toNat))/\(T.Pairwise (jB ws))) (λq A1 n1 c1 T=>(ws.length-q).toNat) ?_ ?_
 ·exact⟨0,none,0,0,[],⟨G,G,(Z),(.refl _),(.nil)⟩,SA,λ_ h=>h⟩
 intro q A1 n1 c1 T ⟨wb,Ze,co,hp,hs⟩;refine aD<|wq<|wm Z<|wm Z<|wy (aQ dm Z)<|wL Z Z<|aA<|bF Z (λaq=> ?_) (λaq=> ?_)
 ·refine aL<|aD<|aH<|wq<|wn Z<|aH ?_;refine fH (λ(k:Int) (B1:Option Addr) (m1:Nat) (d1:Nat) (U:List (Int × Int))=>[(0,sl ft ws.length gd),(3,sl B1 m1 d1),(4,I q),(5,I k)]) (λk B1 m1 d1 U=>[⟨230,2,B1,m1,d1,prs U,false⟩]) (λk B1 m1 d1 U=>(0<=k)/\(k<=(rdl ws q).length)/\(m1=U.length)/\(U.Perm (fT ws q.toNat++turnsOf q k.toNat))/\(U.Pairwise (jB ws))) (λk B1 m1 d1 U=>((rdl ws q).length-k).toNat) ?_ ?_
  ·exact⟨0,A1,n1,c1,T,⟨G,G,(co),(by rw[show turnsOf q (0:Int).toNat=[] from rfl,jk];exact hp),(hs)⟩,SA,λ_ h=>h⟩
  intro k B1 m1 d1 U ⟨li,va,na,qt,vj⟩;refine aD<|wq<|wm Z<|wm Z<|wm Z<|wy (aI dm dA Z Z (gh.c _)) ?_;refine mc.elim (i:=q) G G (λbm bl Hc Fk Nt Mz=> ?_);refine wy (qV af Z Z Z (gh.c _) Hc)<|wy (aQ af Z)<|wL Z Z<|aA<|bF Z (λce=> ?_) (λce=> ?_)
  ·refine aL<|aD<|aH<|wq<|wm Z<|wm Z<|wy (aI dm dA Z Z (gh.c _)) ?_;refine mc.elim (i:=q) G G (λen kj Zc Fl hb_10 mhr_9=> ?_);refine wy (qV af Z Z Z (gh.c _) Zc)<|wm Z<|wa (aF bJp Z (Ct.fresh (λw hw=>WV ((Fl.c _) w hw) G (by have:=VE (ws:=ws) (k:=q) wb G;omega)))) ?_;rintro _ _ ⟨_,rfl,jt,bx,rfl,rfl⟩;refine wn Z<|wq<|wm Z<|wy (aQ jg Z)<|wn Z<|aD<|aH ?_;refine jD (λ(j:Int)=>[(0,sl ft ws.length gd),(3,sl B1 m1 d1),(4,I q),(5,I k),(6,sl jt (((rdl ws q).drop (k).toNat++(rdl ws q).take (k).toNat).length) bx),(7,I j)]) (λj=>[(ru 5 jt (((rdl ws q).drop (k).toNat++(rdl ws q).take (k).toNat).length) bx ((rdl ws q).drop (k).toNat++(rdl ws q).take (k).toNat)),⟨230,2,B1,m1,d1,prs U,false⟩]) (λj=>(0<=j)/\(j<=U.length)/\(∀i:Int,j<=i->i<U.length->jB ws (q,k) (rdp U i))) (λj=>j.toNat) ?_ ?_
   ·exact⟨((m1:Nat):Int),⟨G,G,(λi h1 h2=>G)⟩,SA,λ_ h=>h⟩
   intro j ⟨tz,n5,vf⟩;have w5:U.length<=400000:=by rw[qt.length_eq,ah,xC ws _ G,FN];have a:=jV wb (show q<ws.length by omega);have b:=IR ws (q+1).toNat;omega
   have fi:=KJ (ws:=ws) wb G G qt;have Ms: ∀i:Int,0<=i->i<U.length->(rdl ws (rdp U i).1).length<=1000000:=λi h1 h2=>by have:=VE (ws:=ws) (fi i h1 h2).1.1 (fi i h1 h2).1.2.1;omega
   refine aD ?_;refine tL [(0,sl ft ws.length gd),(3,sl B1 m1 d1),(4,I q),(5,I k),(6,sl jt (((rdl ws q).drop (k).toNat++(rdl ws q).take (k).toNat).length) bx),(7,I j),(53, .bool (decide ((0<j)/\((MZ ((rdl ws q).drop (k).toNat++(rdl ws q).take (k).toNat) ((rdl ws ((rdp U (j-1)).1)).drop (((rdp U (j-1)).2)).toNat++(rdl ws ((rdp U (j-1)).1)).take (((rdp U (j-1)).2)).toNat))<0))))] [(ru 5 jt (((rdl ws q).drop (k).toNat++(rdl ws q).take (k).toNat).length) bx ((rdl ws q).drop (k).toNat++(rdl ws q).take (k).toNat)),⟨230,2,B1,m1,d1,prs U,false⟩] ?_ ?_
   ·refine bP mixed<|wD 0 Z (aM Z)<|wD 1 Z (dJ Z Z)<|wD 2 Z (aM Z)<|oF 33 Z (λfj=> ?_) (λfj=> ?_)
    ·refine wG 3 Z Z Z (aM Z)<|wG 4 Z Z Z (aM Z)<|wG 5 Z Z Z (aM Z)<|wG 6 Z Z Z (aM Z)<|wG 7 Z Z Z (iK Z Z)<|wG 8 Z Z Z (fA jg jZ Z Z (rdr 1 Z) Z)<|wG 9 Z Z Z (zM (q:=0) jw sz3 Z Z (rdr 1 Z) G G Z cC cC)<|wG 10 Z Z Z (yI ak Z Z (rdr 1 Z))<|wG 11 Z Z Z (aI dm dA Z Z (gh.c _) (by first|exact(fi (j-1) G G).1.1|exact(fi (j-1) G G).1.2.1) (by first|exact(fi (j-1) G G).1.1|exact(fi (j-1) G G).1.2.1)) ?_;refine mc.elim (i:=(rdp U (j-1)).1) (by first|exact(fi (j-1) G G).1.1|exact(fi (j-1) G G).1.2.1) (by first|exact(fi (j-1) G G).1.1|exact(fi (j-1) G G).1.2.1) (λfd fg Tr Fi hb_18 Zq=> ?_);refine wG 12 Z Z Z (qV af Z Z Z (gh.c _) Tr)<|wG 13 Z Z Z (aM Z)<|wG 14 Z Z Z (aM Z)<|wG 15 Z Z Z (iK Z Z)<|wG 16 Z Z Z (fA jg jZ Z Z (rdr 1 Z) Z)<|wG 17 Z Z Z (zM (q:=1) jw sz3 Z Z (rdr 1 Z) G G Z cC cC)<|wG 18 Z Z Z (aQd ak Z Z (rdr 1 Z) G G)<|WH 19 Z cA Z Z Z (aF bJp Z (Ct.fresh (λw hw=>WV ((Fi.c _) w hw) ⟨(fi (j-1) G G).1.2.2.1,Da (fi (j-1) G G).1.2.2.2⟩ (Ms (j-1) G G)))) ?_;rintro _ _ ⟨_,rfl,yv,im,rfl,rfl⟩;refine⟨.inr λ_ h=>h.right (R':=[_]),?_⟩;refine WH 20 Z cA Z Z Z (aF bLg Z (Ct.quiet (λw hw=>VI ((rdr 1 Z) w hw) ((rdr 0 Z) w hw) (qp (aHo _ _) (qp (VE (ws:=ws) (k:=q) wb G) G)) (qp (aHo _ _) (Ms (j-1) G G))))) ?_;rintro _ _ ⟨rfl,rfl⟩;refine⟨.inr λ_ h=>h,?_⟩;refine wG 21 Z Z Z (eG Z Z)<|wD 22 Z (bB Z Z)<|wN ?_;exact⟨SA,λ_ h=>h.sel [1,2] cC Z⟩
    ·refine wO 3 Z Z Z<|wO 4 Z Z Z<|wO 5 Z Z Z<|wO 6 Z Z Z<|wO 7 Z Z Z<|wO 8 Z Z Z<|wO 9 Z Z Z<|wO 10 Z Z Z<|wO 11 Z Z Z<|wO 12 Z Z Z<|wO 13 Z Z Z<|wO 14 Z Z Z<|wO 15 Z Z Z<|wO 16 Z Z Z<|wO 17 Z Z Z ?_;refine wO 18 Z Z Z<|wO 19 Z Z Z<|wO 20 Z Z Z<|wO 21 Z Z Z<|wD 22 Z (aS Z Z)<|wN ?_;exact⟨SA,λ_ h=>h⟩
   refine bF Z (λkl=> ?_) (λkl=> ?_)
   ·have Rz:=aUv (ws:=ws) wb G li G qt tz n5 vf kl;refine aL<|aH<|aN<|wm Z<|wS Z Z<|wn Z ?_;exact⟨j-1,⟨G,G,(Rz)⟩,G,SA,λ_ h=>h⟩
   ·have sq:=bBw (ws:=ws) wb G li G qt vj tz n5 vf kl;refine aY<|bP mixed<|wD 1 Z (aM Z)<|wD 2 Z (aM Z)<|wD 3 Z (dO jg jZ Z Z (rdr 1 Z))<|wD 5 Z (aM Z)<|wD 6 Z (aM Z)<|wD 7 Z (dZ (v:= .agg #[I q,I k]) Z (λw=>cA))<|wD 10 rfl (aM rfl)<|wD 11 rfl (aM rfl)<|wD 12 rfl (dK jg jZ rfl rfl)<|TA 0 8 cA ?_ ?_
    ·refine XC 0 Z Z (VW jg JB) ?_;rintro _ _ ⟨Nh,rfl,rfl⟩;refine⟨.inr λ_ h=>h.right (R':=[_]),?_⟩;refine TA 4 8 cA ?_ ?_
     ·refine XC 4 Z Z (iR 0 Z jg uS Z Z Z Z (RdC.toP (h:=(j).toNat) (rdr 2 Z) cG) G) ?_;rintro _ _ ⟨nf,nj,rfl,rfl⟩;refine⟨.inl cA,?_⟩;refine iJ (v:=sl nf (0+((j).toNat)) nj) Z<|wC 8 Z (NT jg JB Z) ?_;rintro _ _ ⟨g_27,rfl,rfl⟩;refine⟨.inr λ_ h=>h.right (R':=[_]),?_⟩;refine wC 9 Z (iR 1 Z jg uS Z Z Z Z (rdr 0 Z) G) ?_;rintro _ _ ⟨pj,pk,rfl,rfl⟩;refine⟨.inl cA,?_⟩;refine iJ (v:=sl pj ((0+((j).toNat))+1) pk) Z<|wC 13 Z (iR 1 Z jg uS Z Z Z Z (RdC.fromP (rdr 3 Z) cG) G) ?_;rintro _ _ ⟨k7,l5,rfl,rfl⟩;refine⟨.inl cA,?_⟩;refine iJ (v:=sl k7 (((0+((j).toNat))+1)+(m1-(j).toNat)) l5) Z<|wD 14 Z (bG Z)<|wN<|aN<|wm Z<|wA Z Z<|wn Z ?_;exact⟨k+1,k7,((0+((j).toNat))+1)+(m1-(j).toNat),l5,((([])++((U).take (j).toNat))++([(q,k)]))++((U).drop (j).toNat),⟨G,G,(by simp only[ah,ax,ay,dh,jl];omega),(sq.1),(sq.2)⟩,G,SA,λ_ h=>h.sel [1] cC Z⟩
     ·refine XC 8 Z Z (NT jg JB Z) ?_;rintro _ _ ⟨Wc,rfl,rfl⟩;refine⟨.inr λ_ h=>h.right (R':=[_]),?_⟩;refine wC 4 Z (iR 1 Z jg uS Z Z Z Z (RdC.toP (h:=(j).toNat) (rdr 3 Z) cG) G) ?_;rintro _ _ ⟨Ki,Kn,rfl,rfl⟩;refine⟨.inl cA,?_⟩;refine iJ (v:=sl Ki (0+((j).toNat)) Kn) Z<|wC 9 Z (iR 1 Z jg uS Z Z Z Z (rdr 0 Z) G) ?_;rintro _ _ ⟨Vr,Vy,rfl,rfl⟩;refine⟨.inl cA,?_⟩;refine iJ (v:=sl Vr ((0+((j).toNat))+1) Vy) Z<|wC 13 Z (iR 1 Z jg uS Z Z Z Z (RdC.fromP (rdr 3 Z) cG) G) ?_;rintro _ _ ⟨Qj,Qt,rfl,rfl⟩;refine⟨.inl cA,?_⟩;refine iJ (v:=sl Qj (((0+((j).toNat))+1)+(m1-(j).toNat)) Qt) Z<|wD 14 Z (bG Z)<|wN<|aN<|wm Z<|wA Z Z<|wn Z ?_;exact⟨k+1,Qj,((0+((j).toNat))+1)+(m1-(j).toNat),Qt,((([])++((U).take (j).toNat))++([(q,k)]))++((U).drop (j).toNat),⟨G,G,(by simp only[ah,ax,ay,dh,jl];omega),(sq.1),(sq.2)⟩,G,SA,λ_ h=>h.sel [1] cC Z⟩
    ·refine XC 8 Z Z (NT jg JB Z) ?_;rintro _ _ ⟨g_43,rfl,rfl⟩;refine⟨.inr λ_ h=>h.right (R':=[_]),?_⟩;refine wC 0 Z (VW jg JB) ?_;rintro _ _ ⟨g_45,rfl,rfl⟩;refine⟨.inr λ_ h=>h.right (R':=[_]),?_⟩;refine wC 4 Z (iR 0 Z jg uS Z Z Z Z (RdC.toP (h:=(j).toNat) (rdr 3 Z) cG) G) ?_;rintro _ _ ⟨Vs,Vz,rfl,rfl⟩;refine⟨.inl cA,?_⟩;refine iJ (v:=sl Vs (0+((j).toNat)) Vz) Z<|wC 9 Z (iR 0 Z jg uS Z Z Z Z (rdr 1 Z) G) ?_;rintro _ _ ⟨Vt,Wb,rfl,rfl⟩;refine⟨.inl cA,?_⟩;refine iJ (v:=sl Vt ((0+((j).toNat))+1) Wb) Z<|wC 13 Z (iR 0 Z jg uS Z Z Z Z (RdC.fromP (rdr 3 Z) cG) G) ?_;rintro _ _ ⟨Qk,Qu,rfl,rfl⟩;refine⟨.inl cA,?_⟩;refine iJ (v:=sl Qk (((0+((j).toNat))+1)+(m1-(j).toNat)) Qu) Z<|wD 14 Z (bG Z)<|wN<|aN<|wm Z<|wA Z Z<|wn Z ?_;exact⟨k+1,Qk,((0+((j).toNat))+1)+(m1-(j).toNat),Qu,((([])++((U).take (j).toNat))++([(q,k)]))++((U).drop (j).toNat),⟨G,G,(by simp only[ah,ax,ay,dh,jl];omega),(sq.1),(sq.2)⟩,G,SA,λ_ h=>h.sel [0] cC Z⟩
  ·refine aY<|aN<|wm Z<|wA Z Z<|wn Z ?_;exact⟨q+1,B1,m1,d1,U,⟨G,G,(na),(by have e:k.toNat=(rdl ws q).length:=G;rw[JQ wb,<-e];exact qt),(vj)⟩,G,SA,λ_ h=>h⟩
 ·refine aY<|wq<|wm Z<|wn Z<|aT [0] 99 cC Z ?_;refine⟨_,Z,?_⟩;obtain rfl:=co;exact⟨T,_,_,Z,by have e:q.toNat=ws.length:=G;rw[<-e];exact hp,hs,rfl⟩
variable {w:World} {ap:Option Addr} {aw ao:Nat} {u:List Int}
theorem aAs {i:Int} {j:Int} (al:Rd w ap aw ao 1 (ints .u8 u)) (pm:0<=i/\i<=u.length/\0<=j/\j<=u.length):
  Ct Tryz.prog 263 #[sl ap aw ao,I i,I j] w.heap.size w [] (λv R'=>v=I (cmpL (u.drop i.toNat) (u.drop j.toNat))):=by
 obtain rfl:=al.lenI;refine fn1 Tryz.func263 Z Z Z ?_;have mj:=al.max;refine wq<|wn Z<|aD<|wq<|wm Z<|wL Z Z<|wm Z<|dD 5 [(0,sl ap u.length ao),(1,I i),(2,I j),(14, .bool (decide ((i<0)\/(((u.length:Nat):Int)<i))))] [] ?_ ?_
 ·refine bV 9 Z (λaq=> ?_) (λaq=> ?_)
  ·refine aP Z Z Z Z<|aP Z Z Z Z<|aP Z Z Z Z<|aP Z Z Z Z<|wy (bB Z Z)<|aA ?_;exact⟨SA,λ_ h=>h⟩
  ·refine aC Z Z<|wm Z<|aC Z Z<|wm Z<|aC Z Z<|wy (aQ af Z)<|aC Z Z<|wy (dJ Z Z)<|wy (aS Z Z)<|aA ?_;exact⟨SA,λ_ h=>h⟩
 refine pI 14 Z G<|wm Z<|aC Z Z<|wm Z<|aC Z Z<|wL Z Z<|wy (aS Z Z)<|wm Z<|dD 5 [(0,sl ap u.length ao),(1,I i),(2,I j),(24, .bool (decide ((j<0)\/(((u.length:Nat):Int)<j))))] [] ?_ ?_
 ·refine bV 19 Z (λce=> ?_) (λce=> ?_)
  ·refine aP Z Z Z Z<|aP Z Z Z Z<|aP Z Z Z Z<|aP Z Z Z Z<|wy (bB Z Z)<|aA ?_;exact⟨SA,λ_ h=>h⟩
  ·refine aC Z Z<|wm Z<|aC Z Z<|wm Z<|aC Z Z<|wy (aQ af Z)<|aC Z Z<|wy (dJ Z Z)<|wy (aS Z Z)<|aA ?_;exact⟨SA,λ_ h=>h⟩
 refine pI 24 Z G<|aA<|aJ Z<|aL<|aD<|bP mixed<|wD 0 Z (aM Z)<|wD 1 Z (aM Z)<|wD 2 Z (dK af sz5 Z Z)<|wD 3 Z (aM Z)<|wD 4 Z (aM Z)<|wD 5 Z (dK af sz5 Z Z)<|wC 6 Z (aF bJo Z (Ct.quiet (λw hw=>PI ((RdC.fromI (al.c _) G) w hw) ((RdC.fromI (al.c _) G) w hw)))) ?_;rintro _ _ ⟨rfl,rfl⟩;refine⟨.inr λ_ h=>h,?_⟩;refine wD 7 Z (bG Z)<|wN<|bW ?_;refine⟨_,Z,?_⟩;rfl
theorem bHe (al:Rd w ap aw ao 1 (ints .u8 u)):
  Ct Tryz.prog 218 #[sl ap aw ao] w.heap.size w [] (λv R'=>v= .bool (decide (sV u=true))):=by
 obtain rfl:=al.lenI;refine fn1 Tryz.func218 Z Z Z ?_;have mj:=al.max;refine wq<|wn Z<|aD<|wq<|wn Z<|aH ?_;refine jD (λ(i:Int)=>[(0,sl ap u.length ao),(3,I i)]) (λi=>[]) (λi=>(1<=i)/\(i<=u.length+1)/\(∀r:Nat,0<r->(r:Int)<i->r<u.length->cmpL u (u.drop r)<0)) (λi=>(u.length+1-i).toNat) ?_ ?_
 ·exact⟨1,⟨G,G,(λr h1 h2=>G)⟩,SA,λ_ h=>h⟩
 intro i ⟨jj,Pg,ju⟩;refine aD<|wq<|wm Z<|wm Z<|wy (aQ af Z)<|wL Z Z<|aA<|bF Z (λaq=> ?_) (λaq=> ?_)
 ·refine aL<|aD<|aH<|wq<|wm Z<|wm Z<|wa (aF bLc Z (Ct.quiet (λw hw=>aAs ((al.c _) w hw) ⟨G,G,G,G⟩))) ?_;rintro _ _ ⟨rfl,rfl⟩;refine wy (gZ Z Z)<|aA<|bF Z (λce=> ?_) (λce=> ?_)
  ·refine wq<|wn Z<|bW ?_;refine⟨_,Z,?_⟩;exact bq Value.bool (oh λh=>by have:=((oV u).1 h).2 i.toNat G G;exact absurd ce (Int.not_le.2 this)).symm
  ·refine aL<|aN<|wm Z<|wA Z Z<|wn Z ?_
   exact⟨i+1,⟨G,G,(λr h1 h2 h3=>by
     rcases bi (r:Int) i with a|a
     ·exact ju r h1 a h3
     ·have e:r=i.toNat:=G
      rw[e];exact Int.not_le.1 ce)⟩,G,SA,λ_ h=>h⟩
 ·refine aY<|wq<|wm Z<|wy (aQ af Z)<|wy (dJ Z Z)<|wn Z<|bW ?_;refine⟨_,Z,?_⟩;exact bq Value.bool (yg.2 ⟨λh=>(oV u).2 ⟨G,λr h1 h2=>ju r h1 G h2⟩,λh=>by have:=((oV u).1 h).1;omega⟩)
theorem aAl (al:Rd w ap aw ao 1 (ints .u8 u)) (hN:u.length<=1000000):
  Ct Tryz.prog 145 #[sl ap aw ao] w.heap.size w [] (λv R'=> ∃A c,v=sl A (dM u).length c/\R'=[(ri 3 A ((dM u).length) c (dM u))]):=by
 obtain rfl:=al.lenI;refine fn1 Tryz.func145 Z Z Z ?_;have mj:=al.max;refine wq<|wn Z<|wq<|dB (R1:=[(ri 3 none 0 0 ([]))]) (Sub.refl _) (λ_ h=>h.nil 3 1)<|wn Z<|aD<|aH ?_;refine tK (λ(A0:Option Addr) (n0:Nat) (c0:Nat) (t:List Int) (A1:Option Addr) (n1:Nat) (c1:Nat) (acc:List Int)=>[(0,sl A0 n0 c0),(3,sl A1 n1 c1)]) (λA0 n0 c0 t A1 n1 c1 acc=>[(ri 3 A1 n1 c1 acc)]) (λA0 n0 c0 t A1 n1 c1 acc=>(Rd w A0 n0 c0 1 (ints .u8 t))/\(n1=acc.length)/\(dM u=acc++dM t)/\(acc.length<=u.length)) (λA0 n0 c0 t A1 n1 c1 acc=>t.length) ?_ ?_
 ·exact⟨ap,u.length,ao,u,none,0,0,[],⟨(al),(Z),(Z),cD⟩,SA,λ_ h=>h⟩
 intro A0 n0 c0 t A1 n1 c1 acc ⟨ij,co,g8,Uv⟩;have Lh:=ij.lenI;have rm:=ij.max;refine aD<|wq<|wm Z<|wy (aQ af Z)<|wy (dJ Z Z)<|aA<|bF Z (λaq=> ?_) (λaq=> ?_)
 ·refine aL<|aH<|wq<|wm Z<|wy (aQ af Z)<|wn Z<|aD<|aH ?_;refine jD (λ(n:Int)=>[(0,sl A0 n0 c0),(3,sl A1 n1 c1),(4,I n)]) (λn=>[(ri 3 A1 n1 c1 acc)]) (λn=>(1<=n)/\(n<=t.length)/\(iM t t.length=iM t n.toNat)) (λn=>n.toNat) ?_ ?_
  ·exact⟨((n0:Nat):Int),⟨G,G,(by rw[show((n0:Nat):Int).toNat=t.length by omega])⟩,SA,λ_ h=>h⟩
  intro n ⟨yp,Vc,Ps⟩;refine aD<|wq<|wm Z<|wm Z<|wy (dO af sz5 Z Z (ij.c _))<|wa (aF bLt Z (Ct.quiet (λw hw=>bHe ((RdC.toI (ij.c _) G) w hw)))) ?_;rintro _ _ ⟨rfl,rfl⟩;refine wy (DT Z)<|aA<|bF Z (λce=> ?_) (λce=> ?_)
  ·have hsk:=ZO yp Vc ce;refine aL<|aH<|aN<|wm Z<|wS Z Z<|wn Z ?_;exact⟨n-1,⟨G,G,(by rw[Ps];exact hsk.2.symm)⟩,G,SA,λ_ h=>h⟩
  ·have Xt:=aEr yp (xk.1 ce);have a8:dM u=(acc++[n])++dM (t.drop n.toNat):=by rw[g8,EU G,Ps,Xt,show iM t n.toNat=n.toNat by omega,gy];rfl
   refine aY<|wq<|wm Z<|wm Z<|wa (bL .i64 [n] aa zs3 Z Z Z) ?_;rintro _ _ ⟨cm,rfl,rfl⟩;refine wa (aV 1 Z aa zb3 Z Z Z (rdr 0 Z)) ?_;rintro _ _ ⟨ff,fh,rfl,rfl⟩;refine bK (v:=sl ff (n1+1) fh) Z<|wn Z<|aN<|wm Z<|wm Z<|wy (dK af sz5 Z Z)<|wn Z ?_;exact⟨jA A0 (n).toNat c0 1,n0-(n).toNat,c0-(n).toNat,t.drop n.toNat,ff,n1+1,fh,acc++([n]),⟨(ij.fromI G),(by rw[ah,co];rfl),(a8),(by rw[ah,gq];have a:=bq List.length a8;have b:=CG u;rw[ah,ah,gq] at a;omega)⟩,(by rw[ay];omega),SA,λ_ h=>h.sel [1] cC Z⟩
 ·refine aY<|wq<|wm Z<|wn Z<|aT [0] 99 cC Z ?_;refine⟨_,Z,?_⟩;have e:t.length=0:=G
  rw[MJ e,jk] at g8;rw[g8];obtain rfl:=co;exact⟨_,_,Z,Z⟩
theorem aFn (al:Rd w ap aw ao 1 (ints .u8 u)) (hN:u.length<=1000000):
  Ct Tryz.prog 178 #[sl ap aw ao] w.heap.size w [] (λv R'=> ∃A c,v=sl A (dM u).length c/\R'=[(ri 3 A ((dM u).length) c (dM u))]):=by
 obtain rfl:=al.lenI;refine fn1 Tryz.func178 Z Z Z ?_;have mj:=al.max;refine wq<|wn Z<|wq<|dB (R1:=[(ri 3 none 0 0 ([]))]) (Sub.refl _) (λ_ h=>h.nil 3 1)<|wn Z<|aD<|wq<|wn Z<|aH ?_;refine fH (λ(a:Int) (A1:Option Addr) (n1:Nat) (c1:Nat) (acc:List Int)=>[(0,sl ap u.length ao),(3,sl A1 n1 c1),(4,I a)]) (λa A1 n1 c1 acc=>[(ri 3 A1 n1 c1 acc)]) (λa A1 n1 c1 acc=>(0<=a)/\(a<=u.length)/\(n1=acc.length)/\(acc.length<=a)/\(dM u=acc++dM (u.drop a.toNat))) (λa A1 n1 c1 acc=>(u.length-a).toNat) ?_ ?_
 ·exact⟨0,none,0,0,[],⟨G,G,(Z),cD,(Z)⟩,SA,λ_ h=>h⟩
 intro a A1 n1 c1 acc ⟨Un,ha1,co,Uv,g8⟩;refine aD<|wq<|wm Z<|wm Z<|wy (aQ af Z)<|wL Z Z<|aA<|bF Z (λaq=> ?_) (λaq=> ?_)
 ·refine aL<|aH<|wq<|wm Z<|wm Z<|wA Z Z<|wg Z<|wn Z<|aD<|aH ?_;refine dR (λ(i:Int) (j:Int)=>[(0,sl ap u.length ao),(3,sl A1 n1 c1),(4,I a),(5,I i),(6,I j)]) (λi j=>[(ri 3 A1 n1 c1 acc)]) (λi j=>(a<=i)/\(i<j)/\(j<=u.length)/\(sW u a (j-i))/\(sP u a (j-i) (j-a))) (λi j=>(u.length-j).toNat) ?_ ?_
  ·exact⟨a,a+1,⟨G,G,G,(GC.1),(GC.2)⟩,SA,λ_ h=>h⟩
  intro i j ⟨s8,pm,hj,hL,hP⟩;refine aD ?_;refine tL [(0,sl ap u.length ao),(3,sl A1 n1 c1),(4,I a),(5,I i),(6,I j),(28, .bool (decide ((j<((u.length:Nat):Int))/\((rd u i)<=(rd u j)))))] [(ri 3 A1 n1 c1 acc)] ?_ ?_
  ·refine bP mixed<|wD 0 Z (aM Z)<|wD 1 Z (aM Z)<|wD 2 Z (aQ af Z)<|wD 3 Z (eG Z Z)<|wD 4 Z (aM Z)<|oF 18 Z (λce=> ?_) (λce=> ?_)
   ·refine wG 5 Z Z Z (aM Z)<|wG 6 Z Z Z (aM Z)<|wG 7 Z Z Z (aI af sz5 Z Z (al.c _))<|wG 8 Z Z Z (aW bg Z Z (al.c _))<|wG 9 Z Z Z (aM Z)<|wG 10 Z Z Z (aM Z)<|wG 11 Z Z Z (aI af sz5 Z Z (al.c _))<|wG 12 Z Z Z (aW bg Z Z (al.c _))<|wG 13 Z Z Z (qU Z Z)<|wD 14 Z (bB Z Z)<|wN ?_;exact⟨SA,λ_ h=>h⟩
   ·refine wO 5 Z Z Z<|wO 6 Z Z Z<|wO 7 Z Z Z<|wO 8 Z Z Z<|wO 9 Z Z Z<|wO 10 Z Z Z<|wO 11 Z Z Z<|wO 12 Z Z Z<|wO 13 Z Z Z<|wD 14 Z (aS Z Z)<|wN ?_;exact⟨SA,λ_ h=>h⟩
  refine bF Z (λfj=> ?_) (λfj=> ?_)
  ·refine aL<|aH<|aD<|aD<|bP mixed<|wD 0 Z (aM Z)<|wD 1 Z (aM Z)<|wD 2 Z (aI af sz5 Z Z (al.c _))<|wD 3 Z (aW bg Z Z (al.c _))<|wD 4 Z (aM Z)<|wD 5 Z (aM Z)<|wD 6 Z (aI af sz5 Z Z (al.c _))<|wD 7 Z (aW bg Z Z (al.c _))<|wD 8 Z (eG Z Z)<|wN ?_;refine bF Z (λkl=> ?_) (λkl=> ?_)
   ·refine aN<|wm Z<|wn Z<|aN<|wm Z<|wA Z Z<|wn Z ?_;exact⟨a,j+1,⟨G,G,G,((aBb Un s8 pm hL hP kl).1),((aBb Un s8 pm hL hP kl).2)⟩,G,SA,λ_ h=>h⟩
   ·refine aN<|wm Z<|wA Z Z<|wn Z<|aN<|wm Z<|wA Z Z<|wn Z ?_;exact⟨i+1,j+1,⟨G,G,G,((aBc Un s8 pm hL hP fj.2 kl).1),((aBc Un s8 pm hL hP fj.2 kl).2)⟩,G,SA,λ_ h=>h⟩
  ·refine aY<|aH ?_;refine fH (λ(b:Int) (A2:Option Addr) (n2:Nat) (c2:Nat) (vn:List Int)=>[(0,sl ap u.length ao),(3,sl A2 n2 c2),(4,I b),(5,I i),(6,I j)]) (λb A2 n2 c2 vn=>[(ri 3 A2 n2 c2 vn)]) (λb A2 n2 c2 vn=>(a<=b)/\(b<=j)/\(n2=vn.length)/\(vn.length<=b)/\(dM u=vn++dM (u.drop b.toNat))/\(b<=i->sW u b (j-i)/\sP u b (j-i) (j-b))) (λb A2 n2 c2 vn=>(j-b).toNat) ?_ ?_
   ·exact⟨a,A1,n1,c1,acc,⟨G,G,(co),(Uv),(g8),(λ_=>⟨hL,hP⟩)⟩,SA,λ_ h=>h⟩
   intro b A2 n2 c2 vn ⟨m8,wt,sf,Ya,a8,Ui⟩;refine aD<|wq<|wm Z<|wm Z<|wy (qU Z Z)<|aA<|bF Z (λmd=> ?_) (λmd=> ?_)
   ·refine aL<|aH<|wq<|wm Z<|wm Z<|wm Z<|wS Z Z<|wa (bL .i64 [j-i] aa zs3 Z Z Z) ?_;rintro _ _ ⟨cm,rfl,rfl⟩;refine wa (aV 1 Z aa zb3 Z Z Z (rdr 0 Z)) ?_;rintro _ _ ⟨ff,fh,rfl,rfl⟩;refine bK (v:=sl ff (n2+1) fh) Z<|wn Z<|aN<|wm Z<|wm Z<|wm Z<|wS Z Z<|wA Z Z<|wn Z ?_;exact⟨b+(j-i),ff,n2+1,fh,vn++([j-i]),⟨G,G,(by rw[ah,sf];rfl),(by rw[ah,gq];omega),(by rw[a8,aOn G md pm hj (Ui md).1 (Ui md).2 fj,gy];rfl),(λh=>aFp G pm (Ui md).1 (Ui md).2 h)⟩,G,SA,λ_ h=>h.sel [1] cC Z⟩
   ·refine aY ?_;exact⟨b,A2,n2,c2,vn,⟨G,G,(sf),(Ya),(a8)⟩,G,SA,λ_ h=>h⟩
 ·refine aY<|wq<|wm Z<|wn Z<|aT [0] 99 cC Z ?_;refine⟨_,Z,?_⟩;have e:(u.drop a.toNat).length=0:=by rw[ay];omega
  rw[MJ e,jk] at g8;rw[g8];obtain rfl:=co;exact⟨_,_,Z,Z⟩
end Go.Proofs.YtdbebmmhdefgdaaGreat
namespace Go.Pure
open Go Go.Eng
section
variable {u m V:List Int} {i:Int}
end
theorem bAg {l:List (Int × Int)} {f:Int × Int->Int} {i:Int} (h0:0<=i) (h:i<l.length):rd (l.map f) i=f (rdp l i):=by
 unfold rd rdp;rw[ai,ai,sj,av G];rfl
end Go.Pure
namespace Go.Proofs.YtdbebmmhdefgdaaGreat
open Go Go.Eng Go.Pure
open Tryz
set_option maxRecDepth 100000
variable {w:World} {ap:Option Addr} {aw ao:Nat} {u:List Int}
theorem JI {s:List Int} {k:Int} (h:k=(dM s).length):gM s (dM s) k=bws s:=by rw[h];rfl
set_option maxHeartbeats 1000000 in
theorem NL (al:Rd w ap aw ao 1 (ints .u8 u)) (am:aR u) (hN:u.length<=100000):
  Ct Tryz.prog 104 #[sl ap aw ao] w.heap.size w [] (λv R'=> ∃(lt:List (Int × Int)) (A:Option Addr) (c:Nat),v= .tuple #[sl A lt.length c,I 0]/\lt.Perm (fT (bws u) (bws u).length)/\lt.Pairwise (jB (bws u))/\R'=[(ru 5 A lt.length c (lt.map (lastB (bws u))))]):=by
 obtain rfl:=al.lenI;refine fn2 Tryz.func104 Z Z Z ?_;have mj:=al.max;have tx:=CG u;refine wq<|wg Z<|wn Z<|aD<|wq<|wm Z<|wy (aQ af Z)<|wy (Yl.f (dJ Z Z))<|aA<|aJ Z<|aL<|aD ?_;refine aN<|dB (R1:=[⟨22,1,none,0,0,[],false⟩]) (Sub.refl _) (λ_ h=>h.nil 22 1)<|wn Z<|wq<|wn Z<|aD<|wq<|wm Z<|wa (aF bMn Z (Ct.fresh (λw hw=>aFn ((al.c _) w hw) G))) ?_;rintro _ _ ⟨_,rfl,bm,bl,rfl,rfl⟩;refine wy (aQ aa Z)<|wm Z<|aA<|aH ?_;refine mK (λ(k:Int) (A1:Option Addr) (n1:Nat) (c1:Nat) (vals:List Value) (a:Int)=>[(0,sl ap u.length ao),(4,sl A1 n1 c1),(5,I a),(16,sl bm ((dM (u)).length) bl),(17,I (((dM (u)).length:Nat):Int)),(18,I k)]) (λk A1 n1 c1 vals a=>[(ri 3 bm ((dM (u)).length) bl (dM (u))),⟨22,1,A1,n1,c1,vals,false⟩]) (λk A1 n1 c1 vals a=>(0<=k)/\(k<=(dM u).length)/\(n1=k.toNat)/\(SlW .u8 w vals (gM u (dM u) k))/\(a=ps (dM u) k)) (λk A1 n1 c1 vals a=>((dM u).length-k).toNat) ?_ ?_
 ·exact⟨0,none,0,0,[],0,⟨G,G,(Z),(jG _ _),(Z)⟩,SA,λ_ h=>h⟩
 intro k A1 n1 c1 vals a ⟨li,va,co,ue,ha⟩;refine wq<|wL Z Z<|aA<|aD<|bF Z (λaq=> ?_) (λaq=> ?_)
 ·have Ln:=lJ (L:=dM u) li G;have sr:=bDu u (k+1);have i5:=EH (qO u) k;have Th:=qO u _ (bN (L:=dM u) li G)
  have Ot:SlW .u8 w (vals++[sl (jA ap a.toNat ao 1) ((a+rd (dM u) k).toNat-a.toNat) (ao-a.toNat)]) (gM u (dM u) (k+1)):=by
   rw[uY li,<-ha,show(rd (dM u) k).toNat=(a+rd (dM u) k).toNat-a.toNat by omega];exact ue.snoc (al.cutI G G) (λx hx=>fP (am x (pg (lv hx)))) (by rw[ax,ay];omega)
  refine aL<|aD<|aH<|wq<|wy (aI aa sz3 Z Z (rdr 0 Z))<|wy (aW ak Z Z (rdr 0 Z))<|wn Z<|wq<|wm Z<|wm Z<|wm Z<|wm Z ?_;refine wm Z<|wA Z Z<|wy (aHf af sz5 Z Z Z (al.c _) G G G)<|wa (mE [Value.slice (jA ap (a).toNat ao 1) ((a+(rd (dM (u)) k)).toNat-(a).toNat) (ao-(a).toNat)] dm xY Z Z Z Z) ?_;rintro _ _ ⟨kc,rfl,rfl⟩;refine wa (oU 2 Z Z dm aYt Z Z Z Z Z (rdr 0 Z) (by simp[Value.oneCell']) (by dsimp only;omega)) ?_;rintro _ _ ⟨en,kj,rfl,rfl⟩;refine bK (v:=sl en (n1+1) kj) Z<|wn Z<|aN<|wm Z<|wm Z<|wA Z Z<|wn Z<|aN<|wA Z Z<|wm Z<|aA ?_;exact⟨k+1,en,n1+1,kj,vals++([Value.slice (jA ap (a).toNat ao 1) ((a+(rd (dM (u)) k)).toNat-(a).toNat) (ao-(a).toNat)]),a+(rd (dM (u)) k),⟨G,G,G,(Ot),(by rw[Ln,ha])⟩,G,SA,λ_ h=>h.sel [1,2] cC Z⟩
 ·refine aY<|wq<|wa (bL .u8 [] af zs5 Z Z Z) ?_;rintro _ _ ⟨oe,rfl,rfl⟩;refine wn Z<|aD<|wq<|wm Z<|wa (aF bMm Z (Ct.fresh (λw hw=>aQt ((rdr 2 Z) w hw) (ue.c hw) (by rw[JI (show k=(dM u).length by omega),lI,aKa];have:=CG u;omega)))) ?_;rintro _ _ ⟨_,rfl,lt,jt,bx,rfl,t7,gv,rfl⟩;refine wy (aQ jg Z)<|wm Z<|aA<|aH ?_;refine fH (λ(q:Int) (B1:Option Addr) (m1:Nat) (d1:Nat) (acc:List Int)=>[(4,sl A1 n1 c1),(8,sl B1 m1 d1),(37,sl jt lt.length bx),(38,I ((lt.length:Nat):Int)),(39,I q)]) (λq B1 m1 d1 acc=>[⟨230,2,jt,lt.length,bx,prs lt,false⟩,(ru 5 B1 m1 d1 acc),(ri 3 bm ((dM (u)).length) bl (dM (u))),⟨22,1,A1,n1,c1,vals,false⟩]) (λq B1 m1 d1 acc=>(0<=q)/\(q<=lt.length)/\(m1=acc.length)/\(acc.length=q.toNat)/\(acc=(lt.take q.toNat).map (lastB (gM u (dM u) k)))) (λq B1 m1 d1 acc=>(lt.length-q).toNat) ?_ ?_
  ·exact⟨0,GG oe,0,0,[],⟨G,G,(Z),(Z),(Z)⟩,SA,λ_ h=>h⟩
  intro q B1 m1 d1 acc ⟨kf,yp,na,Xb,ba⟩;have ub:lt.length=u.length:=by rw[JI (show k=(dM u).length by omega)] at t7;exact xW t7
  refine wq<|wL Z Z<|aA<|aD<|bF Z (λce=> ?_) (λce=> ?_)
  ·have ht:=xO.1 (t7.subset (kN (l:=lt) kf G));have Hb:=ht.2.2;have he0:=ko ((rdp lt q).2+(rdl (gM u (dM u) k) (rdp lt q).1).length-1) (show((rdl (gM u (dM u) k) (rdp lt q).1).length:Int)≠0 by omega);have he1:=ja ((rdp lt q).2+(rdl (gM u (dM u) k) (rdp lt q).1).length-1) (show(0:Int)<(rdl (gM u (dM u) k) (rdp lt q).1).length by omega);refine aL<|aD<|aH<|wq<|wy (fA jg jZ Z Z (rdr 0 Z) Z)<|wy (JD jw Z jZ Z (rdr 0 Z))<|wa (jF (sz:=2) aPy Z) ?_;rintro _ _ ⟨m4,rfl,rfl⟩;refine bY (gP (vs:=[I ((rdp lt q).1),I ((rdp lt q).2)]) 0 Z jZ Z Z Z (by intro v hv;simp at hv;rcases hv with rfl|rfl<;>rfl) Z) ?_;rintro _ _ rfl;refine aA<|wq<|wm Z<|wy (dQ (q:=0) (rdr 0 Z) jw sz3 Z Z (au Z) cC cC Z)<|wy (aK (rdr 0 Z) ak Z Z Z)<|wy (aI dm dA Z Z (rdr 4 Z) (by first|exact ht.1|(have:=ht.2.1;rw[tF] at this;omega)) (by first|exact ht.1|(have:=ht.2.1;rw[tF] at this;omega))) ?_;refine ue.elim (i:=(rdp lt q).1) (by first|exact ht.1|exact ht.2.1) (by first|exact ht.1|exact ht.2.1) (λfm uv Ts Mt hb_20 Zr=> ?_);refine wy (qV af Z Z Z (rdr 4 Z) Ts)<|wn Z<|aN<|wm Z<|wm Z<|wy (dQ (q:=1) (rdr 0 Z) jw sz3 Z Z (au Z) cC cC Z)<|wy (aK (rdr 0 Z) ak Z Z Z)<|wm Z<|wy (aQ af Z)<|wA Z Z<|wS Z Z<|wm Z<|wy (aQ af Z)<|wy (uN Z Z) ?_;refine wy (aI af sz5 Z Z (Mt.c _))<|wy (aW bg Z Z (Mt.c _))<|wa (bL .u8 [rd (rdl (gM u (dM u) k) ((rdp lt q).1)) (((((rdp lt q).2)+(((rdl (gM u (dM u) k) ((rdp lt q).1)).length:Nat):Int))-1)%(((rdl (gM u (dM u) k) ((rdp lt q).1)).length:Nat):Int))] af zs5 Z Z Z) ?_;rintro _ _ ⟨Ks,rfl,rfl⟩;refine wa (aV 3 Z af zb5 Z Z Z (rdr 0 Z)) ?_;rintro _ _ ⟨k6,l4,rfl,rfl⟩;refine bK (v:=sl k6 (m1+1) l4) Z<|wn Z<|aN<|wA Z Z<|wm Z<|aA ?_;exact⟨q+1,k6,m1+1,l4,acc++([rd (rdl (gM u (dM u) k) ((rdp lt q).1)) (((((rdp lt q).2)+(((rdl (gM u (dM u) k) ((rdp lt q).1)).length:Nat):Int))-1)%(((rdl (gM u (dM u) k) ((rdp lt q).1)).length:Nat):Int))]),⟨G,G,(by rw[ah,na];rfl),(by rw[ah,Xb,gq];omega),(by rw[XB kf G,jo,ba];rfl)⟩,G,SA,λ_ h=>h.sel [2,3,4,5] cC Z⟩
  ·refine aY<|wq<|wm Z<|wg Z<|wn Z<|aT [1] 99 cC Z ?_;refine⟨_,_,Z,Z,?_⟩;have e:k=(dM u).length:=G
   rw[JI e] at t7 gv ba;rw[bn G] at ba;subst ba;obtain rfl:m1=lt.length:=by rw[na,bz]
   exact⟨lt,_,_,Z,t7,gv,Z⟩
set_option maxHeartbeats 1000000 in
theorem aNk {ft:Option Addr} {lf gd:Nat} {dj:List Value} {ws:List (List Int)} (gh:Rd w ft lf gd 1 dj) (mc:SlW .u8 w dj ws) (hN:ws.flatten.length<=400000/\ws.length<=1000000):
  Ct Tryz.prog 139 #[sl ft lf gd] w.heap.size w [] (λv R'=> ∃(lt:List (Int × Int)) (A:Option Addr) (c:Nat),v=sl A lt.length c/\lt.Perm (fT ws ws.length)/\lt.Pairwise (jB ws)/\R'=[(ru 5 A lt.length c (lt.map (lastB ws)))]):=by
 obtain rfl:lf=ws.length:=by have:=gh.len;have:=mc.1;omega
 refine fn1 Tryz.func139 Z Z Z ?_;have Hj:=gh.max;refine wq<|wn Z<|wq<|wm Z<|wa (aF bMa Z (Ct.fresh (λw hw=>aKw ((gh.c _) w hw) (mc.c hw) cE))) ?_;rintro _ _ ⟨_,rfl,l8,bm,bl,rfl,Yq,hs8,rfl⟩;refine wn Z<|wq<|dB (R1:=[(ru 5 none 0 0 ([])),⟨230,2,bm,l8.length,bl,prs l8,false⟩]) (Sub.refl _) (λ_ h=>h.nil 5 1)<|wn Z<|aD<|wq<|wn Z<|aH ?_;refine fH (λ(q:Int) (B1:Option Addr) (m1:Nat) (d1:Nat) (acc:List Int)=>[(0,sl ft ws.length gd),(3,sl bm l8.length bl),(4,sl B1 m1 d1),(5,I q)]) (λq B1 m1 d1 acc=>[(ru 5 B1 m1 d1 acc),⟨230,2,bm,l8.length,bl,prs l8,false⟩]) (λq B1 m1 d1 acc=>(0<=q)/\(q<=l8.length)/\(m1=acc.length)/\(acc.length=q.toNat)/\(acc=(l8.take q.toNat).map (lastB ws))) (λq B1 m1 d1 acc=>(l8.length-q).toNat) ?_ ?_
 ·exact⟨0,none,0,0,[],⟨G,G,(Z),(Z),(Z)⟩,SA,λ_ h=>h⟩
 intro q B1 m1 d1 acc ⟨kf,yp,na,Xb,ba⟩;have ub:=aKh Yq;refine aD<|wq<|wm Z<|wm Z<|wy (aQ jg Z)<|wL Z Z<|aA<|bF Z (λaq=> ?_) (λaq=> ?_)
 ·have ht:=xO.1 (Yq.subset (kN (l:=l8) kf G));have Hb:=ht.2.2;have he0:=ko ((rdp l8 q).2+(rdl ws (rdp l8 q).1).length-1) (show((rdl ws (rdp l8 q).1).length:Int)≠0 by omega);have he1:=ja ((rdp l8 q).2+(rdl ws (rdp l8 q).1).length-1) (show(0:Int)<(rdl ws (rdp l8 q).1).length by omega);refine aL<|aD<|aH<|wq<|wm Z<|wm Z<|wm Z<|wy (fA jg jZ Z Z (rdr 1 Z) Z)<|wy (zM (q:=0) jw sz3 Z Z (rdr 1 Z) G G Z cC cC)<|wy (yI ak Z Z (rdr 1 Z))<|wy (aI dm dA Z Z (gh.c _) (by first|exact ht.1|exact ht.2.1) (by first|exact ht.1|exact ht.2.1)) ?_;refine mc.elim (i:=(rdp l8 q).1) (by first|exact ht.1|exact ht.2.1) (by first|exact ht.1|exact ht.2.1) (λir iu Zb Lp hb_8 mhr_7=> ?_);refine wy (qV af Z Z Z (gh.c _) Zb)<|wn Z<|aN<|wm Z<|wm Z<|wm Z<|wm Z<|wy (fA jg jZ Z Z (rdr 1 Z) Z)<|wy (zM (q:=1) jw sz3 Z Z (rdr 1 Z) G G Z cC cC)<|wy (aQd ak Z Z (rdr 1 Z) G G)<|wm Z<|wy (aQ af Z)<|wA Z Z<|wS Z Z ?_;refine wm Z<|wy (aQ af Z)<|wy (uN Z Z)<|wy (aI af sz5 Z Z (Lp.c _))<|wy (aW bg Z Z (Lp.c _))<|wa (bL .u8 [rd (rdl ws ((rdp l8 q).1)) (((((rdp l8 q).2)+(((rdl ws ((rdp l8 q).1)).length:Nat):Int))-1)%(((rdl ws ((rdp l8 q).1)).length:Nat):Int))] af zs5 Z Z Z) ?_;rintro _ _ ⟨Kr,rfl,rfl⟩;refine wa (aV 1 Z af zb5 Z Z Z (rdr 0 Z)) ?_;rintro _ _ ⟨jt,bx,rfl,rfl⟩;refine bK (v:=sl jt (m1+1) bx) Z<|wn Z<|aN<|wm Z<|wA Z Z<|wn Z ?_;exact⟨q+1,jt,m1+1,bx,acc++([rd (rdl ws ((rdp l8 q).1)) (((((rdp l8 q).2)+(((rdl ws ((rdp l8 q).1)).length:Nat):Int))-1)%(((rdl ws ((rdp l8 q).1)).length:Nat):Int))]),⟨G,G,(by rw[ah,na];rfl),(by rw[ah,Xb,gq];omega),(by rw[XB kf G,jo,ba];rfl)⟩,G,SA,λ_ h=>h.sel [1,2] cC Z⟩
 ·refine aY<|wq<|wm Z<|wn Z<|aT [0] 99 cC Z ?_;refine⟨_,Z,?_⟩;rw[bn G] at ba;subst ba;obtain rfl:m1=l8.length:=by rw[na,bz]
  exact⟨l8,_,_,Z,Yq,hs8,Z⟩
set_option maxHeartbeats 1000000 in
theorem PP (al:Rd w ap aw ao 1 (ints .u8 u)) (am:aR u) (hN:u.length<=100000):
  Ct Tryz.prog 83 #[sl ap aw ao] w.heap.size w [] (λv R'=> ∃(lt:List (Int × Int)) (A:Option Addr) (c:Nat),v=sl A lt.length c/\lt.Perm (fT (bws u) (bws u).length)/\lt.Pairwise (jB (bws u))/\R'=[(ru 5 A lt.length c (lt.map (lastB (bws u))))]):=by
 obtain rfl:=al.lenI;refine fn1 Tryz.func83 Z Z Z ?_;have mj:=al.max;have tx:=CG u;refine wq<|wn Z<|wq<|wm Z<|wa (aF bMu Z (Ct.fresh (λw hw=>aAl ((al.c _) w hw) G))) ?_;rintro _ _ ⟨_,rfl,bm,bl,rfl,rfl⟩;refine wn Z<|wq<|dB (R1:=[⟨22,1,none,0,0,[],false⟩,(ri 3 bm ((dM (u)).length) bl (dM (u)))]) (Sub.refl _) (λ_ h=>h.nil 22 1)<|wn Z<|aD<|wq<|wn Z<|aH ?_;refine tK (λ(k:Int) (A1:Option Addr) (n1:Nat) (c1:Nat) (vals:List Value) (A0:Option Addr) (n0:Nat) (c0:Nat)=>[(0,sl A0 n0 c0),(3,sl bm ((dM (u)).length) bl),(4,sl A1 n1 c1),(5,I k)]) (λk A1 n1 c1 vals A0 n0 c0=>[⟨22,1,A1,n1,c1,vals,false⟩,(ri 3 bm ((dM (u)).length) bl (dM (u)))]) (λk A1 n1 c1 vals A0 n0 c0=>(0<=k)/\(k<=(dM u).length)/\(n1=k.toNat)/\(SlW .u8 w vals (gM u (dM u) k))/\(Rd w A0 n0 c0 1 (ints .u8 (u.drop (ps (dM u) k).toNat)))) (λk A1 n1 c1 vals A0 n0 c0=>((dM u).length-k).toNat) ?_ ?_
 ·exact⟨0,none,0,0,[],ap,u.length,ao,⟨G,G,(Z),(jG _ _),(al)⟩,SA,λ_ h=>h⟩
 intro k A1 n1 c1 vals A0 n0 c0 ⟨li,va,co,ue,ij⟩;have Lh:=ij.lenI;have rm:=ij.max;rw[ay] at Lh;refine aD<|wq<|wm Z<|wm Z<|wy (aQ aa Z)<|wL Z Z<|aA<|bF Z (λaq=> ?_) (λaq=> ?_)
 ·have Ln:=lJ (L:=dM u) li G;have sr:=bDu u (k+1);have i5:=EH (qO u) k;have Th:=qO u _ (bN (L:=dM u) li G)
  have Ot:SlW .u8 w (vals++[sl A0 (rd (dM u) k).toNat c0]) (gM u (dM u) (k+1)):=by
   rw[uY li];exact ue.snoc (ij.toI G) (λx hx=>fP (am x (pg (lv hx)))) (by rw[ax,ay];omega)
  refine aL<|aD<|aH<|wq<|wm Z<|wm Z<|wm Z<|wm Z<|wy (aI aa sz3 Z Z (rdr 1 Z))<|wy (aW ak Z Z (rdr 1 Z))<|wy (dO af sz5 Z Z (ij.c _))<|wa (mE [Value.slice A0 ((rd (dM (u)) k).toNat) c0] dm xY Z Z Z Z) ?_;rintro _ _ ⟨kc,rfl,rfl⟩;refine wa (oU 1 Z Z dm aYt Z Z Z Z Z (rdr 0 Z) (by simp[Value.oneCell']) (by dsimp only;omega)) ?_;rintro _ _ ⟨en,kj,rfl,rfl⟩;refine bK (v:=sl en (n1+1) kj) Z<|wn Z<|aN<|wm Z<|wm Z<|wm Z<|wy (aI aa sz3 Z Z (rdr 2 Z))<|wy (aW ak Z Z (rdr 2 Z))<|wy (dK af sz5 Z Z)<|wn Z<|aN<|wm Z<|wA Z Z ?_;refine wn Z ?_
  exact⟨k+1,en,n1+1,kj,vals++([Value.slice A0 ((rd (dM (u)) k).toNat) c0]),jA A0 (rd (dM (u)) k).toNat c0 1,n0-(rd (dM (u)) k).toNat,c0-(rd (dM (u)) k).toNat,⟨G,G,G,(Ot),(by
    have h:=ij.fromI (l:=(rd (dM u) k).toNat) G;rw[Fy] at h;rw[Ln,show(ps (dM u) k+rd (dM u) k).toNat=(ps (dM u) k).toNat+(rd (dM u) k).toNat by omega]
    exact h)⟩,G,SA,λ_ h=>h.sel [1,2] cC Z⟩
 ·refine aY<|wq<|wm Z<|wa (aF bNa Z (Ct.fresh (λw hw=>aNk ((rdr 0 Z) w hw) (ue.c hw) (by rw[JI (show k=(dM u).length by omega),lI,aKa];omega)))) ?_;rintro _ _ ⟨_,rfl,l2,kh,mn,rfl,pt,sv,rfl⟩;refine wn Z<|aT [0] 99 cC Z ?_;refine⟨_,Z,?_⟩;have e:k=(dM u).length:=G
  rw[JI e] at pt sv ⊢;exact⟨l2,_,_,Z,pt,sv,Z⟩
end Go.Proofs.YtdbebmmhdefgdaaGreat
namespace Go.Pure
open Go Go.Eng
section
variable {p:List Int}
theorem vB {j:Int} (j0:0<=j): ∀(f:Nat) (E:List Bool) (k:Int),(hp:p.Perm (iota p.length))->E.length=p.length->0<=k->k<p.length->rdb E j=true->rdb (gJ p f E k).2 j=true
 |0,E,k,_,_,_,_,h=>h
 | f+1,E,k,hp,hl,k0,hk,h=>by
  rw[gJ];split
  ·exact h
  ·have hn:=bE.1 (hp.subset (bN (L:=p) k0 hk));refine vB j0 f _ _ hp (by rw[lC];exact hl) hn.1 hn.2 ?_;rw[xI k0 G j0];split
   ·rfl
   ·exact h
theorem WI (hp:p.Perm (iota p.length)) {f:Nat} {E:List Bool} {k:Int} (hl:E.length=p.length) (k0:0<=k) (hk:k<p.length) (hf:cntF E<=f):rdb (gJ p f E k).2 k=true:=by
 by_cases h:rdb E k=true
 ·rw[tJ h];exact h
 ·rw [JK k0 G hf h];have hn:=bE.1 (hp.subset (bN (L:=p) k0 hk));exact vB k0 _ _ _ hp (by rw[lC];exact hl) hn.1 hn.2 (by rw[xI k0 G k0,df rfl])
theorem EZ (hp:p.Perm (iota p.length)): ∀i:Nat,i<=p.length-> ∀j:Nat,j<i->rdb (iZ p i).1 j=true
 |0,_,j,hj=>G
 | i+1,hi,j,hj=>by
  have hf:=lU hp i G;have hc:cntF (iZ p i).1<=p.length:=by have:=hf.2.2;omega
  rw[iZ];rcases fe j i with g|g
  ·exact vB G _ _ _ hp hf.1 G G (EZ hp i G j g)
  ·obtain rfl:j=i:=G
   exact WI hp hf.1 G G hc
theorem aOy {E:List Bool} (h: ∀j:Nat,j<E.length->rdb E j=true):cntF E=0:=by
 unfold cntF;rw[Bz];intro b hb;obtain⟨j,hj,rfl⟩:=gz.1 hb;have:=h j hj;have e:rdb E (j:Int)=E[j]:=by unfold rdb;rw[cu,ai,av hj];rfl
 rw[e] at this;rw[this];simp
theorem aBg (hp:p.Perm (iota p.length)):(eZ p).flatten.length=p.length:=by
 have hf:=lU hp p.length (di _);have:=aOy (E:=(iZ p p.length).1) λj hj=>EZ hp p.length (di _) j (by rw[hf.1] at hj;exact hj);unfold eZ;omega
theorem aPs (l:List Int) (cs:List (List Int)):(backL l cs).length=cs.flatten.length:=by
 unfold backL;rw[uk,yz,uk,Ie,List.sum_reverse];congr 2;funext c;exact nG l c
theorem aMx {l:List Int} {cs:List (List Int)} {x:Int} (h:x∈backL l cs): ∃y,y∈cs.flatten/\x=rd l y:=by
 unfold backL at h;obtain⟨w,hw,hx⟩:=Br.1 h;obtain⟨c,hc,rfl⟩:=iy.1 hw;unfold kR at hx;obtain⟨y,hy,rfl⟩:=iy.1 hx;exact⟨y,Br.2 ⟨c,Bt.1 hc,Bt.1 hy⟩,rfl⟩
theorem aPt {l:List Int} (hl:aR l) (cs:List (List Int)):aR (backL l cs):=λx hx=>by
 obtain⟨y,_,rfl⟩:=aMx hx;exact hl.rd _
theorem bCn {cs:List (List Int)} {k:Int} (k0:0<=k) (hk:k<cs.length):rdl cs k∈cs:=by
 unfold rdl;rw[ai,av G];exact lu _
theorem aGv {l acc qk:List Int} {cs:List (List Int)} {m kr:Nat} (hm:m=cs.length) (Mo:kr<m) (ba:acc=(((cs.reverse).take kr).map (kR l)).flatten) (h2:qk=acc++(((rdl cs ((m-1-kr:Nat):Int)).reverse).take (rdl cs ((m-1-kr:Nat):Int)).length).map (rd l)):qk=(((cs.reverse).take (kr+1)).map (kR l)).flatten:=by
 rw[aGw G,h2,ba,bn (l:=(rdl cs ((m-1-kr:Nat):Int)).reverse) (by rw[qh];exact di _),show((m-1-kr:Nat):Int)=(cs.length:Int)-1-kr by omega];rfl
theorem aCw {l acc qk c:List Int} {kq:Nat} (hk:kq<c.length) (h:qk=acc++((c.reverse).take kq).map (rd l)):qk++[rd l (rd c ((c.length-1-kq:Nat):Int))]=acc++((c.reverse).take (kq+1)).map (rd l):=by
 rw[aCx hk,<-gy,<-h,show((c.length-1-kq:Nat):Int)=(c.length:Int)-1-kq by omega]
theorem aOs {p:List Int}:(eZ p).length<=p.length:=MR p p.length
end
end Go.Pure
namespace Go.Proofs.YtdbebmmhdefgdaaGreat
open Go Go.Eng Go.Pure
open Tryz
set_option maxRecDepth 100000
variable {B gw cq:Nat} {w0:World} {R:List Row} {cr:Option Addr}
theorem aCi:
  Ct Tryz.prog 185 #[sl cr gw cq] B w0 R (λv R'=> ∃g,v= .func (.func 240) #[] #[PG g]/\R'=(rc 232 1 g [sl cr gw cq])::R):=by
 refine fn1 Tryz.func185 Z Z Z ?_;refine wq<|wa (bR (sz:=1) Z Z) ?_;rintro _ _ ⟨g,rfl,rfl⟩;refine wn Z<|wq<|wy (lN Z Z)<|wn Z<|bW ?_;exact⟨_,Z,g,Z,Z⟩
theorem aCj:
  Ct Tryz.prog 186 #[sl cr gw cq] B w0 R (λv R'=> ∃g,v= .func (.func 241) #[] #[PG g]/\R'=(rc 52 1 g [sl cr gw cq])::R):=by
 refine fn1 Tryz.func186 Z Z Z ?_;refine wq<|wa (bR (sz:=1) Z Z) ?_;rintro _ _ ⟨g,rfl,rfl⟩;refine wn Z<|wq<|wy (lN Z Z)<|wn Z<|bW ?_;exact⟨_,Z,g,Z,Z⟩
set_option maxHeartbeats 2000000 in
theorem NM {w:World} {ap:Option Addr} {aw ao:Nat} {u:List Int} (al:Rd w ap aw ao 1 (ints .u8 u)) (am:aR u) (hN:u.length<=100000):
  Ct Tryz.prog 110 #[sl ap aw ao] w.heap.size w [] (λv R'=> ∃A c,v= .tuple #[sl A (backL u (eZ (fsL u))).length c,I 0]/\R'=[(ru 5 A ((backL u (eZ (fsL u))).length) c (backL u (eZ (fsL u))))]):=by
 obtain rfl:=al.lenI;refine fnV Tryz.func110 Z Z ?_;have mj:=al.max;have Xq:=aVg am;have tx:=xS u;have kx:=aXc Xq;have hcf:=aOs (p:=fsL u);refine gN ?_;refine aN<|wa (bR (sz:=1) Z Z) ?_;rintro _ _ ⟨an,rfl,rfl⟩;refine wg Z<|wn Z ?_;refine gN ?_;refine wq<|wy (aK (rdr 0 Z) af Z Z Z)<|wy (aQ af Z)<|wy (Yl.f (dJ Z Z))<|aA<|aJ Z<|aL ?_;refine gN ?_;refine aN<|wy (aK (rdr 0 Z) af Z Z Z)<|wa (aF bMi Z (Ct.fresh (λw hw=>bBr ((al.c _) w hw) am G))) ?_;rintro _ _ ⟨_,rfl,ff,fh,rfl,rfl⟩;refine wa (aF bMj Z (Ct.fresh (λw hw=>aOr ((rdr 0 Z) w hw) Xq G))) ?_;rintro _ _ ⟨_,rfl,en,kj,de,Ne,rfl,qv,rfl⟩;have Pq:=qv.1;refine dB (R1:=(⟨52,1,en,de.length,kj,de,false⟩::(ri 3 ff ((fsL u).length) fh (fsL u))::(rc 22 1 an [sl ap u.length ao])::Ne)) (Sub.refl _) (λ_ h=>Hp.toTail0 (X:=[_]) (Y:=[_,_]) h)<|wm Z<|wX Z Z<|wX Z Z<|wg Z<|wn Z ?_;refine gN ?_;refine aN<|wa (bL .u8 [] af zs5 Z Z Z) ?_;rintro _ _ ⟨jp,rfl,rfl⟩;refine wa (jF (sz:=1) bIm Z) ?_;rintro _ _ ⟨iz,rfl,rfl⟩;refine bY (bC 0 Z Z Z dA Z Z Z Z (au Z)) ?_;rintro _ _ rfl;refine aA ?_;refine aHk ?_;refine gN ?_;refine aN<|wm Z<|wa (aF bMh Z (aCi)) ?_;rintro _ _ ⟨m4,rfl,rfl⟩;refine aA ?_;refine IA ?_;refine aKu Z bLi (aYb (A:=en) (c:=kj) (xs:=de) (by have:=qv.1;omega)) Z (λ_=>Z) Gd.refl (λ(kr:Nat) (A1:Option Addr) (n1:Nat) (c1:Nat) (acc:List Int)=>((rc 232 1 m4 [sl en de.length kj])::(rc 22 1 iz [sl A1 n1 c1])::(ru 5 A1 n1 c1 acc)::⟨52,1,en,de.length,kj,de,false⟩::(ri 3 ff ((fsL u).length) fh (fsL u))::(rc 22 1 an [sl ap u.length ao])::Ne)) (λkr A1 n1 c1 acc=>(n1=acc.length)/\(acc=(((eZ (fsL u)).reverse.take kr).map (kR u)).flatten)) ?_ ?_ ?_ ?_
 ·exact⟨GG jp,0,0,[],⟨(Z),(Z)⟩,λ_ h=>h⟩
 ·intro kr A1 n1 c1 acc w ⟨co,ba⟩ hw;exact⟨(rdr 0 Z) w hw,(rdr 3 Z) w hw⟩
 ·intro lr kr A1 n1 c1 acc Zw Mo ⟨co,ba⟩ Rp;have tk:acc.length<=u.length:=by rw[ba];exact qp aAi G
  obtain⟨cy,da,Mw,Td⟩:=qv.at (i:=((de.length-1-kr:Nat):Int)) G (by have:=qv.1;omega)
  have Sb:de[de.length-1-kr]?.getD undef=sl cy (rdl (eZ (fsL u)) ((de.length-1-kr:Nat):Int)).length da:=by
   rw[cu] at Mw;rw[Mw];rfl
  refine bOc (d:=24) (v:=sl cy (rdl (eZ (fsL u)) ((de.length-1-kr:Nat):Int)).length da) (bq some Sb) ?_;have sn:rdl (eZ (fsL u)) ((de.length-1-kr:Nat):Int)∈eZ (fsL u):=bCn G (by have:=qv.1;omega);have hcl2:(rdl (eZ (fsL u)) ((de.length-1-kr:Nat):Int)).length<=u.length:=by have:=List.Sublist.length_le (List.sublist_flatten_of_mem sn);omega
  refine aN<|wn Z ?_;intro Qn i8 Sl;refine aH<|wq<|wm Z<|wa (aF bEt Z (aCj)) ?_;rintro _ _ ⟨Ks,rfl,rfl⟩;refine aA<|aH ?_;refine aQl Z bEn (NP (A:=cy) (c:=da) (zs:=rdl (eZ (fsL u)) ((de.length-1-kr:Nat):Int)) G) Z (λ_=>Z) ⟨_,Sl.choose_spec⟩ (λ(kq:Nat) (A2:Option Addr) (n2:Nat) (c2:Nat) (qk:List Int)=>((rc 52 1 Ks [sl cy ((rdl (eZ (fsL u)) ((de.length-1-kr:Nat):Int)).length) da])::(rc 232 1 m4 [sl en de.length kj])::(rc 22 1 iz [sl A2 n2 c2])::(ru 5 A2 n2 c2 qk)::⟨52,1,en,de.length,kj,de,false⟩::(ri 3 ff ((fsL u).length) fh (fsL u))::(rc 22 1 an [sl ap u.length ao])::Ne)) (λkq A2 n2 c2 qk=>(n2=qk.length)/\(qk=acc++((rdl (eZ (fsL u)) ((de.length-1-kr:Nat):Int)).reverse.take kq).map (rd u))) ?_ ?_ ?_ ?_
  ·exact⟨A1,n1,c1,acc,⟨(co),(by rw[xw];simp)⟩,λ_ h=>h⟩
  ·intro kq A2 n2 c2 qk w ⟨sf,zv⟩ hw;exact⟨(rdr 0 Z) w hw,(λ_ h=>Td _ _ _ (h.right (R':=[_,_,_,_,_,_,_]))) w hw⟩
  ·intro lr kq A2 n2 c2 qk WW2 hkq ⟨sf,zv⟩ Xd;have te:=aJq Xq _ sn _ (bN (L:=rdl (eZ (fsL u)) ((de.length-1-kr:Nat):Int)) (k:=(((rdl (eZ (fsL u)) ((de.length-1-kr:Nat):Int)).length-1-kq:Nat):Int)) G G);have Ns:qk.length<=acc.length+(rdl (eZ (fsL u)) ((de.length-1-kr:Nat):Int)).length:=by rw[zv,ah,bz,ax,qh];omega
   refine aN<|wn Z ?_;intro Vu i9 hlW23;refine aH<|bP mixed<|wD 0 Z (aK (rdr 2 Z) af Z Z Z)<|wD 1 Z (aK (rdr 6 Z) af Z Z Z)<|wD 2 Z (aM Z)<|wD 3 Z (aI af sz5 Z Z (al.cb (i8.trans i9) _))<|wD 4 Z (aW bg Z Z (al.cb (i8.trans i9) _))<|wC 5 Z (bL .u8 [rd u (rd (rdl (eZ (fsL u)) ((de.length-1-kr:Nat):Int)) (((rdl (eZ (fsL u)) ((de.length-1-kr:Nat):Int)).length-1-kq:Nat):Int))] af zs5 Z Z Z) ?_;rintro _ _ ⟨xi,rfl,rfl⟩;refine⟨.inr λ_ h=>h.right (R':=[_]),?_⟩;refine wC 6 Z (aV 4 Z af zb5 Z Z Z (rdr 0 Z)) ?_;rintro _ _ ⟨ox,oy,rfl,rfl⟩;refine⟨.inl cA,?_⟩;refine iJ (v:=sl ox (n2+1) oy) Z<|oW 7 Z cA (bC 3 Z Z Z dA Z Z Z Z (au Z)) ?_;rintro _ _ rfl;refine⟨.inl cA,?_⟩;refine wN ?_;exact⟨ox,n2+1,oy,qk++([rd u (rd (rdl (eZ (fsL u)) ((de.length-1-kr:Nat):Int)) (((rdl (eZ (fsL u)) ((de.length-1-kr:Nat):Int)).length-1-kq:Nat):Int))]),⟨(by rw[ah,sf];rfl),(aCw hkq zv)⟩,λ_=>λ_ h=>h.selR (F:=[_,_,_,_,_,_,_,_]) (F':=[_,_,_,_,_,_,_]) [1,2,3,4,5,6,7] cC Z⟩
  intro A2 n2 c2 qk ⟨sf,zv⟩;exact⟨A2,n2,c2,qk,⟨(sf),(aGv qv.1 Mo ba zv)⟩,λ_=>λ_ h=>h.selR (F:=[_,_,_,_,_,_,_]) (F':=[_,_,_,_,_,_]) [1,2,3,4,5,6] cC Z⟩
 intro Qo Zv A1 n1 c1 acc ⟨co,ba⟩ Mg zr;have hvl:=qv.1;refine aHm ?_;refine aYx ?_;refine v_w ?_;refine wq<|wy (aK (rdr 1 Z) af Z Z Z)<|wg Z<|wn Z<|bS (R1:=[(ru 5 A1 n1 c1 acc)]) (λ_ h=>(h.selR (F:=[_,_,_,_,_,_]) (F':=[_]) [2] cC Z).left (X:=[_])) ?_;refine aVk Z zr ⟨_,_,Z,Z,?_⟩;rw[bn (by rw[qh];omega)] at ba;obtain rfl:acc=backL u (eZ (fsL u)):=ba;obtain rfl:=co;exact⟨_,_,Z,Z⟩
variable {w:World} {ap:Option Addr} {aw ao:Nat} {u S:List Int} {m k r:Int}
set_option maxHeartbeats 800000 in
theorem aXv {th:Option Addr} {yq tj:Nat} {a:List Int} (al:Rd w ap aw ao 1 (ints .u8 u)) (mz:Rd w th yq tj 1 (ints .i64 a)) (hp:a.Perm (iota u.length)) (hN:u.length<=1000000):
  Ct Tryz.prog 124 #[sl ap aw ao,sl th yq tj] w.heap.size w [] (λv R'=> ∃A c,v= .tuple #[sl A (ofL u a).length c,I (zat a),bt]/\R'=[(ru 5 A ((ofL u a).length) c (ofL u a))]):=by
 obtain rfl:=al.lenI;obtain rfl:=mz.lenI;refine fn3 Tryz.func124 Z Z Z ?_;have mj:=al.max;have Qb:=mz.max;have Nr:a.length=u.length:=by rw[hp.length_eq,bI]
 have hnd:a.Nodup:=hp.symm.nodup (eO _);have xa:a.Perm (iota a.length):=by rw[Nr];exact hp
 refine wq<|wg Z<|wg Z<|wn Z<|aD<|wq<|wm Z<|wy (aQ aa Z)<|wm Z<|wy (aQ af Z)<|wy (Yl.f (gU Z Z))<|wm Z ?_;refine aC Z Z<|wm Z<|aC Z Z<|wa (aF bEr Z (Ct.quiet (λw hw=>aSb ((mz.c _) w hw) xa G))) ?_;rintro _ _ ⟨rfl,rfl⟩;refine aC Z Z<|wy (dU Z)<|wy (aS Z Z)<|aA<|aJ Z<|aL<|wq<|wa (bL .u8 [] af zs5 Z Z Z) ?_;rintro _ _ ⟨cm,rfl,rfl⟩;refine wn Z<|aD<|wq<|wm Z<|wy (aQ af Z)<|wy (dJ Z Z)<|aA<|bF Z (λaq=> ?_) (λaq=> ?_)
 ·refine aN<|wm Z<|wm Z<|wm Z<|wy (aQ af Z)<|wS Z Z<|wy (aI af sz5 Z Z (al.c _))<|wy (aW bg Z Z (al.c _))<|wa (bL .u8 [rd u (((u.length:Nat):Int)-1)] af zs5 Z Z Z) ?_;rintro _ _ ⟨kc,rfl,rfl⟩;refine wa (aV 1 Z af zb5 Z Z Z (rdr 0 Z)) ?_;rintro _ _ ⟨en,kj,rfl,rfl⟩;refine bK (v:=sl en (0+1) kj) Z<|wn Z<|aD<|wq<|wm Z<|wy (aQ aa Z)<|wm Z<|aA<|aH ?_;refine mK (λ(i:Int) (A1:Option Addr) (n1:Nat) (c1:Nat) (acc:List Int) (m:Int)=>[(0,sl ap u.length ao),(4,sl A1 n1 c1),(5,I m),(32,sl th a.length tj),(33,I ((a.length:Nat):Int)),(34,I i)]) (λi A1 n1 c1 acc m=>[(ru 5 (GG kc) 1 1 ([rd u (((u.length:Nat):Int)-1)])),(ru 5 A1 n1 c1 acc)]) (λi A1 n1 c1 acc m=>(0<=i)/\(i<=a.length)/\(n1=acc.length)/\(acc=(if 0<u.length then [rd u (u.length-1)] else [])++ofT u (a.take i.toNat))/\(m=zat (a.take i.toNat))) (λi A1 n1 c1 acc m=>(a.length-i).toNat) ?_ ?_
  ·exact⟨0,en,0+1,kj,([])++([rd u (((u.length:Nat):Int)-1)]),0,⟨G,G,(by first|rfl|simp),(by first|(rw[df G];rfl)|(rw[bu G];rfl)),(Z)⟩,SA,λ_ h=>h⟩
  intro i A1 n1 c1 acc m ⟨ar,jj,co,ba,hm⟩
  have tk:acc.length<=i.toNat+1:=by
   have h1:=UM u (a.take i.toNat);rw[ax] at h1;rw[ba,ah];split<;>simp only[dh,jl]<;>omega
  have s8:i<a.length->0<=rd a i/\rd a i<u.length:=λh=>bE.1 (hp.subset (bN ar h));refine wq<|wL Z Z<|aA<|aD<|bF Z (λce=> ?_) (λce=> ?_)
  ·have Rl:=s8 G;refine aL<|aD<|aH<|wq<|wm Z<|wy (aI aa sz3 Z Z (mz.c _))<|wy (aW ak Z Z (mz.c _))<|wg Z<|wn Z<|aD<|wq<|wm Z ?_;refine wy (aX Z Z)<|aA<|bF Z (λfj=> ?_) (λfj=> ?_)
   ·refine wq<|wm Z<|wA Z Z<|wn Z<|aY<|aN<|wA Z Z<|wm Z<|aA ?_;exact⟨i+1,A1,n1,c1,acc,i+1,⟨G,G,(co),(UL ar G ba cF),(SV hnd ar G cF)⟩,G,SA,λ_ h=>h⟩
   ·refine aL<|aN<|wm Z<|wm Z<|wm Z<|wS Z Z<|wy (aI af sz5 Z Z (al.c _))<|wy (aW bg Z Z (al.c _))<|wa (bL .u8 [rd u ((rd a i)-1)] af zs5 Z Z Z) ?_;rintro _ _ ⟨oe,rfl,rfl⟩;refine wa (aV 2 Z af zb5 Z Z Z (rdr 0 Z)) ?_;rintro _ _ ⟨bo,bp,rfl,rfl⟩;refine bK (v:=sl bo (n1+1) bp) Z<|wn Z<|aN<|wA Z Z<|wm Z<|aA ?_;exact⟨i+1,bo,n1+1,bp,acc++([rd u ((rd a i)-1)]),m,⟨G,G,(by rw[ah,co];rfl),(aEm ar G ba cF),(aCs hnd ar G hm cF)⟩,G,SA,λ_ h=>h.sel [1,2] cC Z⟩
  ·refine aY<|wq<|wm Z<|wm Z<|wg Z<|wg Z<|wn Z<|aT [1] 99 cC Z ?_;refine⟨_,_,_,Z,Z,Z,?_⟩;have Tn:a.take i.toNat=a:=bn G;rw[Tn] at ba hm;obtain rfl:acc=ofL u a:=ba;obtain rfl:=co;subst hm;exact⟨_,_,Z,Z⟩
 ·refine aL<|aD<|wq<|wm Z<|wy (aQ aa Z)<|wm Z<|aA<|aH ?_;refine mK (λ(i:Int) (A1:Option Addr) (n1:Nat) (c1:Nat) (acc:List Int) (m:Int)=>[(0,sl ap u.length ao),(4,sl A1 n1 c1),(5,I m),(32,sl th a.length tj),(33,I ((a.length:Nat):Int)),(34,I i)]) (λi A1 n1 c1 acc m=>[(ru 5 A1 n1 c1 acc)]) (λi A1 n1 c1 acc m=>(0<=i)/\(i<=a.length)/\(n1=acc.length)/\(acc=(if 0<u.length then [rd u (u.length-1)] else [])++ofT u (a.take i.toNat))/\(m=zat (a.take i.toNat))) (λi A1 n1 c1 acc m=>(a.length-i).toNat) ?_ ?_
  ·exact⟨0,GG cm,0,0,[],0,⟨G,G,(by first|rfl|simp),(by first|(rw[df G];rfl)|(rw[bu G];rfl)),(Z)⟩,SA,λ_ h=>h⟩
  intro i A1 n1 c1 acc m ⟨ar,jj,co,ba,hm⟩
  have tk:acc.length<=i.toNat+1:=by
   have h1:=UM u (a.take i.toNat);rw[ax] at h1;rw[ba,ah];split<;>simp only[dh,jl]<;>omega
  have s8:i<a.length->0<=rd a i/\rd a i<u.length:=λh=>bE.1 (hp.subset (bN ar h));refine wq<|wL Z Z<|aA<|aD<|bF Z (λkl=> ?_) (λkl=> ?_)
  ·have Rl:=s8 G;refine aL<|aD<|aH<|wq<|wm Z<|wy (aI aa sz3 Z Z (mz.c _))<|wy (aW ak Z Z (mz.c _))<|wg Z<|wn Z<|aD<|wq<|wm Z ?_;refine wy (aX Z Z)<|aA<|bF Z (λmd=> ?_) (λmd=> ?_)
   ·refine wq<|wm Z<|wA Z Z<|wn Z<|aY<|aN<|wA Z Z<|wm Z<|aA ?_;exact⟨i+1,A1,n1,c1,acc,i+1,⟨G,G,(co),(UL ar G ba cF),(SV hnd ar G cF)⟩,G,SA,λ_ h=>h⟩
   ·refine aL<|aN<|wm Z<|wm Z<|wm Z<|wS Z Z<|wy (aI af sz5 Z Z (al.c _))<|wy (aW bg Z Z (al.c _))<|wa (bL .u8 [rd u ((rd a i)-1)] af zs5 Z Z Z) ?_;rintro _ _ ⟨jp,rfl,rfl⟩;refine wa (aV 1 Z af zb5 Z Z Z (rdr 0 Z)) ?_;rintro _ _ ⟨fd,fg,rfl,rfl⟩;refine bK (v:=sl fd (n1+1) fg) Z<|wn Z<|aN<|wA Z Z<|wm Z<|aA ?_;exact⟨i+1,fd,n1+1,fg,acc++([rd u ((rd a i)-1)]),m,⟨G,G,(by rw[ah,co];rfl),(aEm ar G ba cF),(aCs hnd ar G hm cF)⟩,G,SA,λ_ h=>h.sel [1] cC Z⟩
  ·refine aY<|wq<|wm Z<|wm Z<|wg Z<|wg Z<|wn Z<|aT [0] 99 cC Z ?_;refine⟨_,_,_,Z,Z,Z,?_⟩;have Tn:a.take i.toNat=a:=bn G;rw[Tn] at ba hm;obtain rfl:acc=ofL u a:=ba;obtain rfl:=co;subst hm;exact⟨_,_,Z,Z⟩
theorem aXs (al:Rd w ap aw ao 1 (ints .u8 u)) (am:aR u) (hN:u.length<=100000):
  Ct Tryz.prog 103 #[sl ap aw ao] w.heap.size w [] (λv R'=> ∃(b:List Int) (A:Option Addr) (c:Nat),v= .tuple #[sl A (ofL u b).length c,I (zat b),I 0]/\b.Perm (iota u.length)/\b.Pairwise (bX u)/\R'=[(ru 5 A ((ofL u b).length) c (ofL u b))]):=by
 obtain rfl:=al.lenI;refine fn3 Tryz.func103 Z Z Z ?_;have mj:=al.max;refine wq<|wg Z<|wg Z<|wn Z<|wq<|wm Z<|wa (aF bEu Z (Ct.fresh (λw hw=>QF ((al.c _) w hw) am hN))) ?_;rintro _ _ ⟨_,rfl,a1,bm,bl,rfl,j6,Fm,rfl⟩;refine wm Z<|wX Z Z<|wX Z Z<|wg Z<|wn Z<|aD<|wq<|wm Z<|wy (Yl.f (gU Z Z))<|aA<|aJ Z<|aL<|aD ?_;refine aN<|wm Z<|wm Z<|wa (aF bEx Z (Ct.fresh (λw hw=>aXv ((al.c _) w hw) ((rdr 0 Z) w hw) j6 G))) ?_;rintro _ _ ⟨_,rfl,ir,iu,rfl,rfl⟩;refine wm Z<|wX Z Z<|wX Z Z<|wX Z Z<|wg Z<|wn Z<|wq<|wm Z<|wm Z<|wg Z<|wg Z<|wn Z ?_;refine aT [0] 99 cC Z ?_;refine⟨_,_,_,Z,Z,Z,?_⟩;exact⟨a1,_,_,Z,j6,Fm,Z⟩
set_option maxHeartbeats 800000 in
theorem aNz (al:Rd w ap aw ao 1 (ints .u8 u)) (am:aR u) (hN:u.length<=1000000):
  Ct Tryz.prog 182 #[sl ap aw ao] w.heap.size w [] (λv R'=> ∃A c,v=sl A (fsL u).length c/\R'=[(ri 3 A ((fsL u).length) c (fsL u))]):=by
 obtain rfl:=al.lenI;refine fn1 Tryz.func182 Z Z Z ?_;have mj:=al.max;refine wq<|wn Z<|wq<|wm Z<|wy (aQ af Z)<|wa (dL aa zb3 Z Z) ?_;rintro _ _ ⟨an,rfl,rfl⟩;refine bK (v:=sl (GG an) u.length u.length) Z<|wn Z<|wq<|wm Z<|wy (aQ af Z)<|wa (dL aa zb3 Z Z) ?_;rintro _ _ ⟨cm,rfl,rfl⟩;refine bK (v:=sl (GG cm) u.length u.length) Z<|wn Z<|aD<|wq<|wm Z<|wy (aQ af Z)<|wm Z<|aA<|aH ?_;refine gG (λ(i:Int) (V:List Int) (K:List Int)=>[(3,sl (GG an) u.length u.length),(4,sl (GG cm) u.length u.length),(15,sl ap u.length ao),(16,I ((u.length:Nat):Int)),(17,I i)]) (λi V K=>[(ri 3 (GG cm) u.length u.length K),(ri 3 (GG an) u.length u.length V)]) (λi V K=>(0<=i)/\(i<=u.length)/\(V.length=u.length)/\(K.length=u.length)/\(∀j:Int,0<=j->j<i->rd V j=j)/\(∀j:Int,0<=j->j<i->rd K j=rd u j)) (λi V K=>(u.length-i).toNat) ?_ ?_
 ·exact⟨0,List.replicate u.length (0:Int),List.replicate u.length (0:Int),⟨G,G,(by rw[cz]),(by rw[cz]),(λj h1 h2=>G),(λj h1 h2=>G)⟩,SA,λ_ h=>h⟩
 intro i V K ⟨ar,jj,lz,Pb,hV,hK⟩;refine wq<|wL Z Z<|aA<|aD<|bF Z (λaq=> ?_) (λaq=> ?_)
 ·have sm:=am.rd i;refine aL<|aD<|aH<|wq<|wm Z<|wy (aI af sz5 Z Z (al.c _))<|wy (aW bg Z Z (al.c _))<|wg Z<|wn Z<|aN<|wm Z<|wm Z<|wm Z ?_;refine wm Z<|wm Z<|wm Z<|wy (iF bg ak Z)<|wy (aI aa sz3 Z Z (rdr 1 Z))<|bY (bJ 1 Z sz3 Z Z) ?_;rintro _ _ rfl;refine wy (aI aa sz3 Z Z (rdr 0 Z))<|bY (bJ 0 Z sz3 Z Z) ?_;rintro _ _ rfl;refine aA<|aN<|wA Z Z<|wm Z<|aA ?_;exact⟨i+1,upd V i i,upd K i (rd u i),⟨G,G,(by rw[bD];exact lz),(by rw[bD];exact Pb),(eX (f:=λj=>j) ar G hV Z),(eX (f:=λj=>rd u j) ar G hK Z)⟩,G,SA,λ_ h=>h⟩
 ·obtain rfl:V=iota u.length:=bQ (by rw[bI];omega) λj h0 h1=>by rw[xJ h0 G];exact hV j h0 G
  obtain rfl:u=K:=(bQ G λj h0 h1=>hK j h0 G:K=u).symm;refine aY<|wq<|wm Z<|wm Z<|wa (aF ML Z (Ct.fresh (λw hw=>uB ((rdr 1 Z) w hw) ((rdr 0 Z) w hw) G am (λi hi=>bE.1 hi) (by rw[bI];omega)))) ?_;rintro _ _ ⟨_,rfl,ff,fh,rfl,rfl⟩;refine wm Z<|wX Z Z<|wX Z Z<|wn Z<|wq<|wm Z<|wa (aF aWm Z (Ct.fresh (λw hw=>TY ((rdr 0 Z) w hw) (aIm am) (by rw[EI am];omega)))) ?_;rintro _ _ ⟨_,rfl,fb,kt,inv,rfl,xp,xt,rfl⟩;refine wm Z<|wX Z Z<|wX Z Z<|wg Z<|wn Z<|wq<|wm Z<|wn Z<|aT [0] 99 cC Z ?_;refine⟨_,Z,?_⟩;obtain rfl:inv=fsL u:=bEa am xp xt;have el:(dC (iota u.length) u (256:Int).toNat).length=(fsL u).length:=by rw[EI am,xS]
  rw[el];exact⟨_,_,Z,Z⟩
theorem aKc (k0:0<=k) (hk:k<u.length) (hl:S.length=u.length) (h: ∀j:Int,k<j->j<u.length->rd S j=rd (mD u m) j) {x:Int} (hx:x=rd u (ixr m (jO u m (u.length-1-k).toNat))): ∀j:Int,k-1<j->j<u.length->rd (upd S k x) j=rd (mD u m) j:=by
 intro j h1 h2;rw[fV k0 G G];split
 ·rename_i e;rw[e,YL k0 hk,hx]
 ·exact h j G h2
theorem aKd {i:Int} (k0:0<=k) (hk:k<u.length) (hr:r=jO u m (u.length-1-k).toNat) (hi:i=ixr m r):lfC u i+1=jO u m (u.length-1-(k-1)).toNat:=by
 rw[show((u.length:Int)-1-(k-1)).toNat=(u.length-1-k).toNat+1 by omega,jO,hi,hr]
theorem bDa (hl:S.length=u.length) (h: ∀j:Int,-1<j->j<u.length->rd S j=rd (mD u m) j):S=mD u m:=bQ (by rw[hl,sO]) λj h0 h1=>h j G G
theorem aIp (k0:0<=k) (hk:k<u.length) (h: ∀t:Nat,(t:Int)<u.length-1-k->jO u m t≠m) (hr:r=jO u m (u.length-1-k).toNat) (dv:r≠m): ∀t:Nat,(t:Int)<u.length-1-(k-1)->jO u m t≠m:=by
 intro t ht;rcases bi t (u.length-1-k) with g|g
 ·exact h t g
 ·rw[show t=(u.length-1-k).toNat by omega,<-hr];exact dv
set_option maxHeartbeats 1000000 in
theorem aCg (al:Rd w ap aw ao 1 (ints .u8 u)) (am:aR u) (dg:aPx u m) (hN:u.length<=100000):
  Ct Tryz.prog 109 #[sl ap aw ao,I m] w.heap.size w [] (λv R'=> ∃A c,v= .tuple #[sl A u.length c,I 0]/\R'=[(ru 5 A u.length c (mD u m))]):=by
 obtain rfl:=al.lenI;refine fn2 Tryz.func109 Z Z Z ?_;have mj:=al.max;have tx:=xS u;have Fc:=dg.1;have qt:=dg.1.1;have pd:=dg.1.2;have Ym:=dg.2.1;refine wq<|wg Z<|wn Z<|wq<|wm Z<|wy (aQ af Z)<|wn Z<|aD<|wq<|wm Z ?_;refine wy (Yl.f (dJ Z Z))<|wm Z<|aC Z Z<|wm Z<|aC Z Z<|wm Z<|aC Z Z<|wy (rV Z Z)<|aC Z Z<|wy (Yl.f (eG Z Z))<|wy (aS Z Z)<|wm Z<|aC Z Z<|wm Z<|aC Z Z ?_;refine wm Z<|aC Z Z<|wy (Yl.f (dJ Z Z))<|wy (aS Z Z)<|aA<|aJ Z<|aL<|wq<|wm Z<|wa (aF bMk Z (Ct.fresh (λw hw=>aNz ((al.c _) w hw) am G))) ?_;rintro _ _ ⟨_,rfl,bm,bl,rfl,rfl⟩;refine wn Z<|wq<|wm Z<|wa (dL af zb5 Z Z) ?_;rintro _ _ ⟨ew,rfl,rfl⟩;refine bK (v:=sl (GG ew) u.length u.length) Z<|wn Z<|wq<|wn Z<|aD<|wq<|wm Z<|wS Z Z<|wn Z<|aH ?_;refine gG (λ(k:Int) (r:Int) (S:List Int)=>[(0,sl ap u.length ao),(1,I m),(7,sl bm ((fsL u).length) bl),(8,sl (GG ew) u.length u.length),(9,I r),(10,I k)]) (λk r S=>[(ru 5 (GG ew) u.length u.length S),(ri 3 bm ((fsL u).length) bl (fsL u))]) (λk r S=>(-1<=k)/\(k<u.length)/\(S.length=u.length)/\(r=jO u m (u.length-1-k).toNat)/\(∀t:Nat,(t:Int)<u.length-1-k->jO u m t≠m)/\(∀j:Int,k<j->j<u.length->rd S j=rd (mD u m) j)) (λk r S=>(k+1).toNat) ?_ ?_
 ·exact⟨((u.length:Nat):Int)-1,0,List.replicate u.length (0:Int),⟨G,G,(by rw[cz]),(by rw[show((u.length:Int)-1-(((u.length:Nat):Int)-1)).toNat=0 by omega];rfl),(λt h=>G),(λj h1 h2=>G)⟩,SA,λ_ h=>h⟩
 intro k r S ⟨li,va,Kv,hr,Yk,hS⟩;refine aD<|wq<|wm Z<|wy (gZ Z Z)<|aA<|bF Z (λaq=> ?_) (λaq=> ?_)
 ·have ob:0<=k:=G
  have w9:=aCd (l:=u) am Fc (u.length-1-k).toNat (λt ht=>Yk t G) G;rw[<-hr] at w9;have rm:0<=m:=by have:=Fc.1;omega
  have na:=Fc.2;have dv:r≠m:=by rw[hr];exact Ym _ G
  refine aL<|aD<|aH<|wq<|wm Z<|wn Z<|aD<|aH<|wq<|wm Z<|wm Z<|wy (Yl.f (aX Z Z) (dv)) ?_;refine wn Z<|aJ Z<|wq<|wm Z<|wm Z<|wy (dJ Z Z)<|wn Z<|bF Z (λce=> ?_) (λce=> ?_)
  ·have e8:r-1=ixr m r:=by unfold ixr;split<;>omega
   have Zj:rd u (r-1)=rd u (ixr m (jO u m (u.length-1-k).toNat)):=by rw[e8,<-hr]
   have s9:=UV (n:=u.length) w9.1 w9.2 dv rm na G;rw[<-e8] at s9;have Mk:=aEb (l:=u) s9.1 s9.2;have Sq:=ZU (l:=u) am s9.1 s9.2;have ot:rd (fsL u) (r-1)+1=jO u m (u.length-1-(k-1)).toNat:=by rw[Mk];exact aKd ob va hr e8
   refine aN<|wm Z<|wS Z Z<|wn Z<|wq<|wm Z<|wm Z<|wm Z<|wm Z<|wy (aI af sz5 Z Z (al.c _))<|wy (aW bg Z Z (al.c _))<|wy (aI af sz5 Z Z (rdr 0 Z))<|bY (bJ 0 Z sz5 Z Z) ?_;rintro _ _ rfl;refine aA<|aN<|wm Z<|wm Z<|wy (aI aa sz3 Z Z (rdr 1 Z))<|wy (aW ak Z Z (rdr 1 Z))<|wA Z Z<|wn Z<|aN<|wm Z<|wS Z Z<|wn Z ?_;exact⟨k-1,(rd (fsL u) (r-1))+1,upd S k (rd u (r-1)),⟨G,G,(by rw[bD];exact Kv),(ot),(aIp ob va Yk hr dv),(aKc ob va Kv hS Zj)⟩,G,SA,λ_ h=>h⟩
  ·have e8:r=ixr m r:=by unfold ixr;split<;>omega
   have Zj:rd u (r)=rd u (ixr m (jO u m (u.length-1-k).toNat)):=by rw[e8,<-hr]
   have s9:=UV (n:=u.length) w9.1 w9.2 dv rm na G;rw[<-e8] at s9;have Mk:=aEb (l:=u) s9.1 s9.2;have Sq:=ZU (l:=u) am s9.1 s9.2;have ot:rd (fsL u) (r)+1=jO u m (u.length-1-(k-1)).toNat:=by rw[Mk];exact aKd ob va hr e8
   refine aL<|wq<|wm Z<|wm Z<|wm Z<|wm Z<|wy (aI af sz5 Z Z (al.c _))<|wy (aW bg Z Z (al.c _))<|wy (aI af sz5 Z Z (rdr 0 Z))<|bY (bJ 0 Z sz5 Z Z) ?_;rintro _ _ rfl;refine aA<|aN<|wm Z<|wm Z<|wy (aI aa sz3 Z Z (rdr 1 Z))<|wy (aW ak Z Z (rdr 1 Z))<|wA Z Z<|wn Z<|aN<|wm Z<|wS Z Z<|wn Z ?_;exact⟨k-1,(rd (fsL u) r)+1,upd S k (rd u r),⟨G,G,(by rw[bD];exact Kv),(ot),(aIp ob va Yk hr dv),(aKc ob va Kv hS Zj)⟩,G,SA,λ_ h=>h⟩
 ·refine aY<|aD<|wq<|wm Z<|wm Z<|wy (Yl.f (gU Z Z) (by
     have e:((u.length:Int)-1-k).toNat=u.length:=G
     rw[hr,e,dg.2.2]
     exact λh=>h Z)) ?_
  refine aA<|aJ Z<|aL<|wq<|wm Z<|wg Z<|wn Z<|aT [0] 99 cC Z ?_;refine⟨_,_,Z,Z,?_⟩;obtain rfl:S=mD u m:=bDa Kv λj h1 h2=>hS j G h2;exact⟨_,_,Z,Z⟩
variable {w:World} {l b:List Int} {k:Int} {lj:Option Addr} {rj ln:Nat}
theorem XV:
  Ct Tryz.prog 105 #[] w.heap.size w [] (λv R'=> ∃A c,v=sl A 256 c/\R'=[(ru 5 A 256 c aO)]):=by
 refine fn1 Tryz.func105 Z Z Z ?_;refine wq<|wn Z<|wq<|wa (dL af zb5 Z Z) ?_;rintro _ _ ⟨an,rfl,rfl⟩;refine bK (v:=sl (GG an) ((256:Int).toNat) ((256:Int).toNat)) Z<|wn Z<|aD<|wq<|wm Z<|wy (aQ af Z)<|wm Z<|aA<|aH ?_;refine dR (λ(i:Int) (V:List Int)=>[(1,sl (GG an) ((256:Int).toNat) ((256:Int).toNat)),(5,I (((256:Int).toNat:Nat):Int)),(6,I i)]) (λi V=>[(ru 5 (GG an) ((256:Int).toNat) ((256:Int).toNat) V)]) (λi V=>(0<=i)/\(i<=256)/\(V.length=256)/\(∀j:Int,0<=j->j<i->rd V j=j)) (λi V=>(256-i).toNat) ?_ ?_
 ·exact⟨0,List.replicate ((256:Int).toNat) (0:Int),⟨G,G,(Z),(λj h1 h2=>G)⟩,SA,λ_ h=>h⟩
 intro i V ⟨ar,jj,lz,hV⟩;refine wq<|wL Z Z<|aA<|aD<|bF Z (λaq=> ?_) (λaq=> ?_)
 ·refine aL<|aD<|aH<|wq<|wm Z<|wn Z<|aN<|wm Z<|wm Z<|wm Z<|wy (mI ak bg Z)<|wy (aI af sz5 Z Z (rdr 0 Z))<|bY (bJ 0 Z sz5 Z Z) ?_;rintro _ _ rfl;refine aA<|aN<|wA Z Z<|wm Z<|aA ?_;exact⟨i+1,upd V i (IntKind.u8.wrap i),⟨G,G,(by rw[bD];exact lz),(eX (f:=λj=>j) ar G hV (nE ar G))⟩,G,SA,λ_ h=>h⟩
 ·refine aY<|wq<|wm Z<|wn Z<|aT [0] 99 cC Z ?_;refine⟨_,Z,?_⟩;obtain rfl:V=aO:=aIy lz (λj h1 h2=>hV j h1 G);exact⟨_,_,Z,Z⟩
theorem ZM {B:Nat} {w0:World} {R:List Row} {A:Option Addr} {m c:Nat} (hm:m=l.length) (hk:0<=k/\k<l.length) (h2:1<l.length):
  Ct Tryz.prog 107 #[sl A m c,I k] B w0 ((ru 5 A m c l)::R) (λv R'=>v= .tuple #[]/\R'=(ru 5 A m c (mtf l k))::R):=by
 subst hm;refine fn0 Tryz.func107 Z Z Z ?_;refine wq<|wm Z<|wm Z<|wy (aI af sz5 Z Z (rdr 0 Z))<|wy (aW bg Z Z (rdr 0 Z))<|wn Z<|aD<|bP mixed<|wD 0 Z (aM Z)<|wD 1 Z (dK af sz5 Z Z)<|wD 2 Z (aM Z)<|wD 3 Z (aM Z)<|wD 4 Z (dO af sz5 Z Z (rdr 0 Z)) ?_;refine wC 5 Z (VY (lo:=1) 0 Z af sz5 Z Z Z Z G (RdC.toI (h:=(k).toNat) (rdr 0 Z) cG)) ?_;rintro _ _ ⟨rfl,rfl⟩;refine⟨.inl cA,?_⟩;refine wN<|aN<|wm Z<|wm Z<|wy (aI af sz5 Z Z (rdr 0 Z))<|bY (bJ 0 Z sz5 Z Z) ?_;rintro _ _ rfl;refine aA ?_
 skip
 rw[bGw hk.1 hk.2];exact⟨Z,Z⟩
theorem VA {ap:Option Addr} {aw ao:Nat} {u:List Int} {c:Int} (al:Rd w ap aw ao 1 (ints .u8 u)) (am:aR u) (hc:0<=c/\c<256) (hm:c∈u):
  Ct Tryz.prog 106 #[sl ap aw ao, .int .u8 c] w.heap.size w [] (λv R'=>v=I (idx u c)):=by
 obtain rfl:=al.lenI;refine fn1 Tryz.func106 Z Z Z ?_;have mj:=al.max;refine wq<|wn Z<|wq<|wm Z<|wm Z<|wa (aCl Tryz.func180 cA cA cA cA Z Z (al.c _) am hc hm) ?_;rintro _ _ ⟨rfl,rfl⟩;refine wn Z<|bW ?_;refine⟨_,Z,?_⟩;rfl
theorem QV (io:Rd w lj rj ln 1 (ints .u8 b)) (cj:aR b) (hN:b.length<=1000000):
  Ct Tryz.prog 60 #[sl lj rj ln] w.heap.size w [] (λv R'=> ∃A c,v=sl A (b.length) c/\R'=[(ru 5 A b.length c (aU aO b))]):=by
 obtain rfl:=io.lenI;refine fn1 Tryz.func60 Z Z Z ?_;have Hi:=io.max;refine wq<|wn Z<|wq<|wa (aF bFf Z (Ct.fresh (λw hw=>XV))) ?_;rintro _ _ ⟨_,rfl,bm,bl,rfl,rfl⟩;refine wn Z<|wq<|wm Z<|wy (aQ af Z)<|wa (dL af zb5 Z Z) ?_;rintro _ _ ⟨ew,rfl,rfl⟩;refine bK (v:=sl (GG ew) b.length b.length) Z<|wn Z<|aD<|wq<|wm Z<|wy (aQ af Z)<|wm Z<|aA<|aH ?_;refine gG (λ(i:Int) (V:List Int) (U:List Int)=>[(3,sl bm 256 bl),(4,sl (GG ew) b.length b.length),(12,sl lj b.length ln),(13,I ((b.length:Nat):Int)),(14,I i)]) (λi V U=>[(ru 5 (GG ew) b.length b.length U),(ru 5 bm 256 bl V)]) (λi V U=>(0<=i)/\(i<=b.length)/\(V=uQ aO (b.take i.toNat))/\(U.length=b.length)/\(∀j:Int,0<=j->j<i->rd U j=rd (aU aO b) j)) (λi V U=>(b.length-i).toNat) ?_ ?_
 ·exact⟨0,aO,List.replicate b.length (0:Int),⟨G,G,(Z),(by rw[cz]),(λj h1 h2=>G)⟩,SA,λ_ h=>h⟩
 intro i V U ⟨ar,jj,hV,w5,hU⟩;have Tt:V.Perm aO:=by rw[hV];exact XU cj _
 have Lw:=ED Tt;have sm:=cj.rd i;have rr:=Lw.2.2 _ sm.1 sm.2;refine wq<|wL Z Z<|aA<|aD<|bF Z (λaq=> ?_) (λaq=> ?_)
 ·refine aL<|aD<|aH<|wq<|wm Z<|wy (aI af sz5 Z Z (io.c _))<|wy (aW bg Z Z (io.c _))<|wg Z<|wn Z<|wq<|wm Z<|wm Z ?_;refine wa (aF bNl Z (Ct.quiet (λw hw=>VA ((rdr 1 Z) w hw) Lw.2.1 sm rr.1))) ?_;rintro _ _ ⟨rfl,rfl⟩;refine wn Z<|wq<|wm Z<|wm Z<|wm Z<|wy (mI ak bg Z)<|wy (aI af sz5 Z Z (rdr 0 Z))<|bY (bJ 0 Z sz5 Z Z) ?_;rintro _ _ rfl;refine aA<|aN<|wm Z<|wm Z<|wa (aF bFe Z (Ct.at 1 Z (ZM Lw.1.symm G G))) ?_;rintro _ _ ⟨rfl,rfl⟩;refine aA<|aN<|wA Z Z<|wm Z<|aA ?_;exact⟨i+1,mtf V (idx V (rd b i)),upd U i (IntKind.u8.wrap (idx V (rd b i))),⟨G,G,(by rw[QJ ar G,<-hV]),(by rw[bD];exact w5),(eX (f:=λj=>rd (aU aO b) j) ar G hU (by rw[aSt ar G,<-hV];exact nE rr.2.1 rr.2.2))⟩,G,SA,λ_ h=>h⟩
 ·refine aY<|wq<|wm Z<|wn Z<|aT [0] 99 cC Z ?_;refine⟨_,Z,?_⟩;obtain rfl:U=aU aO b:=bQ (by rw[w5,fO]) (λj h1 h2=>hU j h1 G);exact⟨_,_,Z,Z⟩
theorem SH (io:Rd w lj rj ln 1 (ints .u8 b)) (cj:aR b) (hN:b.length<=1000000):
  Ct Tryz.prog 111 #[sl lj rj ln] w.heap.size w [] (λv R'=> ∃A c,v=sl A (b.length) c/\R'=[(ru 5 A b.length c (kS aO b))]):=by
 obtain rfl:=io.lenI;refine fn1 Tryz.func111 Z Z Z ?_;have Hi:=io.max;refine wq<|wn Z<|wq<|wa (aF bFf Z (Ct.fresh (λw hw=>XV))) ?_;rintro _ _ ⟨_,rfl,bm,bl,rfl,rfl⟩;refine wn Z<|wq<|wm Z<|wy (aQ af Z)<|wa (dL af zb5 Z Z) ?_;rintro _ _ ⟨ew,rfl,rfl⟩;refine bK (v:=sl (GG ew) b.length b.length) Z<|wn Z<|aD<|wq<|wm Z<|wy (aQ af Z)<|wm Z<|aA<|aH ?_;refine gG (λ(i:Int) (V:List Int) (U:List Int)=>[(3,sl bm 256 bl),(4,sl (GG ew) b.length b.length),(11,sl lj b.length ln),(12,I ((b.length:Nat):Int)),(13,I i)]) (λi V U=>[(ru 5 (GG ew) b.length b.length U),(ru 5 bm 256 bl V)]) (λi V U=>(0<=i)/\(i<=b.length)/\(V=GM aO (b.take i.toNat))/\(U.length=b.length)/\(∀j:Int,0<=j->j<i->rd U j=rd (kS aO b) j)) (λi V U=>(b.length-i).toNat) ?_ ?_
 ·exact⟨0,aO,List.replicate b.length (0:Int),⟨G,G,(Z),(by rw[cz]),(λj h1 h2=>G)⟩,SA,λ_ h=>h⟩
 intro i V U ⟨ar,jj,hV,w5,hU⟩;have Tt:V.Perm aO:=by rw[hV];exact aRs cj _
 have Lw:=ED Tt;have sm:=cj.rd i;have rr:=Lw.2.2 _ sm.1 sm.2;refine wq<|wL Z Z<|aA<|aD<|bF Z (λaq=> ?_) (λaq=> ?_)
 ·refine aL<|aD<|aH<|wq<|wm Z<|wy (aI af sz5 Z Z (io.c _))<|wy (aW bg Z Z (io.c _))<|wg Z<|wn Z<|wq<|wm Z<|wm Z ?_;refine wm Z<|wm Z<|wy (aI af sz5 Z Z (rdr 1 Z))<|wy (aW bg Z Z (rdr 1 Z))<|wy (aI af sz5 Z Z (rdr 0 Z))<|bY (bJ 0 Z sz5 Z Z) ?_;rintro _ _ rfl;refine aA<|aN<|wm Z<|wm Z<|wy (iF bg ak Z)<|wa (aF bFe Z (Ct.at 1 Z (ZM Lw.1.symm G G))) ?_;rintro _ _ ⟨rfl,rfl⟩;refine aA<|aN<|wA Z Z<|wm Z<|aA ?_;exact⟨i+1,mtf V (rd b i),upd U i (rd V (rd b i)),⟨G,G,(by rw[aLr ar G,<-hV]),(by rw[bD];exact w5),(eX (f:=λj=>rd (kS aO b) j) ar G hU (by rw[aSr ar G,<-hV]))⟩,G,SA,λ_ h=>h⟩
 ·refine aY<|wq<|wm Z<|wn Z<|aT [0] 99 cC Z ?_;refine⟨_,Z,?_⟩;obtain rfl:U=kS aO b:=bQ (by rw[w5,xA]) (λj h1 h2=>hU j h1 G);exact⟨_,_,Z,Z⟩
theorem aLq:
  Ct Tryz.prog 187 #[] w.heap.size w [] (λv R'=> ∃A c,v=sl A 256 c/\R'=[(ru 5 A 256 c aO)]):=by
 refine fn1 Tryz.func187 Z Z Z ?_;refine wq<|wn Z<|wq<|dB (R1:=[(ru 5 none 0 0 ([]))]) (Sub.refl _) (λ_ h=>h.nil 5 1)<|wn Z<|aD<|wq<|wn Z<|aH ?_;refine fH (λ(A1:Option Addr) (n1:Nat) (c1:Nat) (acc:List Int) (i:Int)=>[(1,sl A1 n1 c1),(2,I i)]) (λA1 n1 c1 acc i=>[(ru 5 A1 n1 c1 acc)]) (λA1 n1 c1 acc i=>(n1=acc.length)/\(0<=i)/\(i<=256)/\(acc=iota i.toNat)) (λA1 n1 c1 acc i=>(256-i).toNat) ?_ ?_
 ·exact⟨none,0,0,[],0,⟨(Z),G,G,(Z)⟩,SA,λ_ h=>h⟩
 intro A1 n1 c1 acc i ⟨co,ar,jj,ba⟩;have tk:=bq List.length ba;rw[bI] at tk;refine aD<|wq<|wm Z<|wL Z Z<|aA<|bF Z (λaq=> ?_) (λaq=> ?_)
 ·refine aL<|aD<|aH<|aN<|wm Z<|wm Z<|wy (mI ak bg Z)<|wa (bL .u8 [IntKind.u8.wrap i] af zs5 Z Z Z) ?_;rintro _ _ ⟨cm,rfl,rfl⟩;refine wa (aV 1 Z af zb5 Z Z Z (rdr 0 Z)) ?_;rintro _ _ ⟨ff,fh,rfl,rfl⟩;refine bK (v:=sl ff (n1+1) fh) Z<|wn Z<|aN<|wm Z<|wA Z Z<|wn Z ?_;exact⟨ff,n1+1,fh,acc++([IntKind.u8.wrap i]),i+1,⟨(by rw[ah,co];rfl),G,G,(by rw[ER ar,<-ba,nE ar G])⟩,G,SA,λ_ h=>h.sel [1] cC Z⟩
 ·refine aY<|wq<|wm Z<|wn Z<|aT [0] 99 cC Z ?_;refine⟨_,Z,?_⟩;obtain rfl:i=256:=G
  subst ba;obtain rfl:n1=256:=by rw[co,bI];rfl
  exact⟨_,_,Z,Z⟩
theorem aFm {kd:Option Addr} {mt ke:Nat} (fk:Rd w kd mt ke 1 (ints .u8 l)) (hk:0<=k/\k<l.length) (hN:l.length<=1000000):
  Ct Tryz.prog 188 #[sl kd mt ke,I k] w.heap.size w [] (λv R'=> ∃A c,v=sl A (l.length) c/\R'=[(ru 5 A l.length c (mtf l k))]):=by
 obtain rfl:=fk.lenI;refine fn1 Tryz.func188 Z Z Z ?_;have Oy:=fk.max;refine wq<|wn Z<|aD<|bP mixed<|bOa ?_;refine lH 0 Z cA Z (aM Z) ?_;refine lH 1 Z cA Z (aM Z) ?_;refine lH 2 Z cA Z (aI af sz5 Z Z (fk.c _)) ?_;refine lH 3 Z cA Z (aW bg Z Z (fk.c _)) ?_;refine lH 5 Z cA Z (aM Z) ?_;refine lH 6 Z cA Z (aM Z) ?_;refine lH 7 Z cA Z (dO af sz5 Z Z (fk.c _)) ?_;refine lH 9 Z cA Z (aM Z) ?_;refine lH 10 Z cA Z (aM Z) ?_;refine lH 11 Z cA Z (dG Z Z) ?_;refine lH 12 Z cA Z (dK af sz5 Z Z) ?_;refine pF 4 cA ?_;refine CW 4 Z Z (bL .u8 [rd l k] af zs5 Z Z Z) ?_;rintro _ _ ⟨cm,rfl,rfl⟩;refine⟨λ_ h=>h.sel [] cC Z,?_⟩;refine pF 8 cA ?_;refine CW 8 Z Z (aV 0 Z af zb5 Z Z Z (RdC.toI (fk.c _) G)) ?_;rintro _ _ ⟨ff,fh,rfl,rfl⟩;refine⟨λ_ h=>h.sel [] cC Z,?_⟩;refine GI (v:=sl ff (1+((k).toNat)) fh) Z ?_;refine pF 13 cA ?_;refine CW 13 Z Z (aV 0 Z af zb5 Z Z Z (RdC.fromI (fk.c _) G)) ?_;rintro _ _ ⟨fb,kt,rfl,rfl⟩;refine⟨λ_ h=>h.sel [] cC Z,?_⟩;refine GI (v:=sl fb ((1+((k).toNat))+(l.length-(k+1).toNat)) kt) Z ?_;refine lH 14 Z cA Z (bG Z) ?_;refine NJ cA ?_;refine aT [0] 99 cC Z ?_;refine⟨_,Z,?_⟩;have e:([rd l k]++l.take k.toNat)++l.drop (k+1).toNat=mtf l k:=by unfold mtf;rw[show(k+1).toNat=k.toNat+1 by omega];rfl
 rw[e];rw[show 1+k.toNat+(l.length-(k+1).toNat)=l.length by omega];exact⟨_,_,Z,Z⟩
theorem KD (io:Rd w lj rj ln 1 (ints .u8 b)) (cj:aR b) (hN:b.length<=1000000):
  Ct Tryz.prog 113 #[sl lj rj ln] w.heap.size w [] (λv R'=> ∃A c,v=sl A (b.length) c/\R'=[(ru 5 A b.length c (aU aO b))]):=by
 obtain rfl:=io.lenI;refine fn1 Tryz.func113 Z Z Z ?_;have Hi:=io.max;refine wq<|wn Z<|wq<|wa (aF bMg Z (Ct.fresh (λw hw=>aLq))) ?_;rintro _ _ ⟨_,rfl,bm,bl,rfl,rfl⟩;refine wn Z<|wq<|dB (R1:=((ru 5 none 0 0 ([]))::(ru 5 bm 256 bl aO)::[])) (Sub.refl _) (λ_ h=>h.nil 5 1)<|wn Z<|aD<|wq<|wn Z<|aH ?_;refine WJ (λ(i:Int) (V:List Int) (AV:Option Addr) (nV:Nat) (cV:Nat) (A1:Option Addr) (n1:Nat) (c1:Nat) (acc:List Int) (Rs:List Row)=>[(0,sl lj b.length ln),(3,sl AV nV cV),(4,sl A1 n1 c1),(5,I i)]) (λi V AV nV cV A1 n1 c1 acc Rs=>((ru 5 A1 n1 c1 acc)::Rs)) (λi V AV nV cV A1 n1 c1 acc Rs=>(0<=i)/\(i<=b.length)/\(V=uQ aO (b.take i.toNat))/\(nV=256)/\(∀(B:Nat) (w0 w:World),Hp B w0 w Rs->Rd w AV nV cV 1 (ints .u8 V))/\(n1=acc.length)/\(acc=aU aO (b.take i.toNat))) (λi V AV nV cV A1 n1 c1 acc Rs=>(b.length-i).toNat) ?_ ?_
 ·exact⟨0,aO,bm,256,bl,none,0,0,[],((ru 5 bm 256 bl aO)::[]),⟨G,G,(Z),(Z),(λB w0 w h=>rdr 0 Z w h),(Z),(Z)⟩,SA,λ_ h=>h.selR (F:=[_,_]) (F':=[_,_]) [0,1] cC Z⟩
 intro i V AV nV cV A1 n1 c1 acc Rs ⟨ar,jj,hV,hnV,Yw,co,ba⟩;have Tt:V.Perm aO:=by rw[hV];exact XU cj _
 have Lw:=ED Tt;have sm:=cj.rd i;have rr:=Lw.2.2 _ sm.1 sm.2;have tk:=bq List.length ba;rw[fO,ax] at tk;refine aD<|wq<|wm Z<|wm Z<|wy (aQ af Z)<|wL Z Z<|aA<|bF Z (λaq=> ?_) (λaq=> ?_)
 ·refine aL<|aD<|aH<|wq<|wn Z<|aD<|aH ?_;refine jD (λ(k:Int)=>[(0,sl lj b.length ln),(3,sl AV nV cV),(4,sl A1 n1 c1),(5,I i),(6,I k)]) (λk=>((ru 5 A1 n1 c1 acc)::Rs)) (λk=>(0<=k)/\(k<=idx V (rd b i))) (λk=>(idx V (rd b i)-k).toNat) ?_ ?_
  ·exact⟨0,⟨G,(rr.2.1)⟩,SA,λ_ h=>h⟩
  intro k ⟨li,va⟩;refine aD<|aD<|bP mixed<|wD 0 Z (aM Z)<|wD 1 Z (aM Z)<|wD 2 Z (aI af sz5 Z Z (λ_ h=>Yw _ _ _ (h.right (R':=[_]))))<|wD 3 Z (aW bg Z Z (λ_ h=>Yw _ _ _ (h.right (R':=[_]))))<|wD 4 Z (aM Z)<|wD 5 Z (aM Z)<|wD 6 Z (aI af sz5 Z Z (io.c _))<|wD 7 Z (aW bg Z Z (io.c _))<|wD 8 Z (gU Z Z)<|wN<|bF Z (λce=> ?_) (λce=> ?_)
  ·refine aL<|aH<|aN<|wm Z<|wA Z Z<|wn Z ?_;exact⟨k+1,⟨G,(aAd rr.1 va cF)⟩,(by have:=aAd rr.1 va cF;omega),SA,λ_ h=>h⟩
  ·have Pj:=aUy li va rr.1 (xk.1 cF);refine aY<|wq<|wm Z<|wm Z<|wy (mI ak bg Z)<|wa (bL .u8 [IntKind.u8.wrap k] af zs5 Z Z Z) ?_;rintro _ _ ⟨gg,rfl,rfl⟩;refine wa (aV 1 Z af zb5 Z Z Z (rdr 0 Z)) ?_;rintro _ _ ⟨fb,kt,rfl,rfl⟩;refine bK (v:=sl fb (n1+1) kt) Z<|wn Z<|aN<|wm Z<|wm Z<|wa (aF bMf Z (Ct.fresh (λw hw=>aFm ((λ_ h=>Yw _ _ _ (h.right (R':=[_,_]))) w hw) G G))) ?_;rintro _ _ ⟨_,rfl,du,dp,rfl,rfl⟩;refine wn Z<|aN<|wm Z<|wA Z Z<|wn Z ?_;exact⟨i+1,(mtf V k),du,(V).length,dp,fb,n1+1,kt,acc++([IntKind.u8.wrap k]),((ru 5 du ((V).length) dp (mtf V k))::Rs),⟨G,G,(by rw[QJ ar G,<-hV,<-Pj]),(Lw.1),(λB w0 w h=>rdr 0 Z w h),(by rw[ah,co];rfl),(by rw[aEq ar G,<-ba,<-hV,<-Pj,nE G G])⟩,G,SA,λ_ h=>h.selR (F:=[_,_,_]) (F':=[_,_]) [2,0] cC Z⟩
 ·refine aY<|wq<|wm Z<|wn Z<|bS (R1:=[(ru 5 A1 n1 c1 acc)]) (λ_ h=>(h.selR (F:=[_]) (F':=[_]) [0] cC Z).left (X:=[_])) ?_;refine⟨_,Z,?_⟩;rw[bn G] at ba;subst ba;obtain rfl:n1=b.length:=by rw[co,fO]
  exact⟨_,_,Z,Z⟩
end Go.Proofs.YtdbebmmhdefgdaaGreat
namespace Go.Eng
open Go Go.RowKit Go.Pure
section
variable {P:Program} {n:Nd} {B:Nat} {w0:World} {L:Env} {R:List Row} {ty:TypeId}
theorem aHj {id:Nat} {l:List Oper} {Q:fC} {Rc:List Row} (hm:P.follows .mixedOrders=true) (hR: ∀w,Hp B w0 w R->Hp B w0 w Rc) (h:WDc P n B w0 l.toArray Q.nrm l.toArray.size (Array.replicate l.toArray.size false) L R Rc) (hd:yF n.rd l=true:=by exact rfl):W P n B w0 (.region id l.toArray true) Q L R:=by
 intro a w hs hp;refine Jk hm (SI WA hd _ _ _ _<|yK _ _ _ _ _ (h a _ _ hs (hp.drawn _ (Ep _)) hR (λ_ _ _ h=>h) λ_ _ L' R' ef ci hk=>⟨L',R',ef,ci,hk⟩))
theorem RgR.left {Rs:List Row} {l:List RC} (h:RgR Rs l) (T:List Row):RgR (Rs++T) l:=h.weak λ_ _ _ hw=>hw.left
theorem SlR.nilR (k:IntKind) (Rs:List Row):SlR k Rs [] []:=⟨rfl,λj hj=>by simp at hj⟩
theorem OkB.app {a b:List (List Int)} (ha:OkB a) (hb:OkB b):OkB (a++b):=λl hl=>(gp.1 hl).elim (ha l) (hb l)
end
end Go.Eng
namespace Go.Proofs.YtdbebmmhdefgdaaGreat
open Go Go.Eng Go.Pure
open Tryz
set_option maxRecDepth 100000
variable {n i:Int} {acc b:List Int} {w:World} {lj:Option Addr} {rj ln:Nat}
theorem PT {m:Int} (h:eB n.toNat=acc++eB m.toNat) (hp:0<m) {d q:Int} (hd:d=(m-1)%2) (hq:q=(m-1)/2):eB n.toNat=(acc++[d])++eB q.toNat:=by
 rw[h,zV G,gy,qb];have e1:(((m.toNat-1)%2:Nat):Int)=d:=G
 have e2:(m.toNat-1)/2=q.toNat:=G
 rw[e1,e2]
theorem PX (h:acc++bA n.toNat (b.drop i.toNat)=bA 0 b) (i0:0<=i) (hi:i<b.length) (n0:0<=n) (hc:rd b i=0):acc++bA (n+1).toNat (b.drop (i+1).toNat)=bA 0 b:=by
 rw[gK i0 hi,bA,df hc] at h;rw[show(n+1).toNat=n.toNat+1 by omega];exact h
theorem zX (h:acc++bA n.toNat (b.drop i.toNat)=bA 0 b) (i0:0<=i) (hi:i<b.length) (hc: ¬rd b i=0):((acc++eB n.toNat)++[rd b i+1])++bA 0 (b.drop (i+1).toNat)=bA 0 b:=by
 rw[gK i0 hi,bA,bu hc] at h;rw[<-h];simp
theorem JR (h:acc++bA n.toNat (b.drop i.toNat)=bA 0 b):acc.length<=b.length:=by
 have h1:=bq List.length h;have h2:=oL b 0;rw[ah] at h1;omega
theorem PS (h0:0<=n):((eB n.toNat).length:Int)<=n:=by
 have:=zW _ _ (di n.toNat);omega
theorem PU (h0:0<=n/\n<=1000000):
  Ct Tryz.prog 201 #[I n] w.heap.size w [] (λv R'=> ∃A c,v=sl A ((eB n.toNat).length) c/\R'=[(ri 3 A ((eB n.toNat).length) c (eB n.toNat))]):=by
 refine fn1 Tryz.func201 Z Z Z ?_;refine wq<|wn Z<|wq<|dB (R1:=[(ri 3 none 0 0 ([]))]) (Sub.refl _) (λ_ h=>h.nil 3 1)<|wn Z<|aD<|aH ?_;refine fH (λ(A1:Option Addr) (n1:Nat) (c1:Nat) (acc:List Int) (m:Int)=>[(0,I m),(3,sl A1 n1 c1)]) (λA1 n1 c1 acc m=>[(ri 3 A1 n1 c1 acc)]) (λA1 n1 c1 acc m=>(n1=acc.length)/\(0<=m)/\(eB n.toNat=acc++eB m.toNat)/\(acc.length+m<=n)) (λA1 n1 c1 acc m=>m.toNat) ?_ ?_
 ·exact⟨none,0,0,[],n,⟨(Z),G,(Z),(by show((0:Nat):Int)+n<=n;omega)⟩,SA,λ_ h=>h⟩
 intro A1 n1 c1 acc m ⟨co,rm,hT,hL⟩;refine aD<|wq<|wm Z<|wy (dJ Z Z)<|aA<|bF Z (λaq=> ?_) (λaq=> ?_)
 ·refine aL<|aD<|aH<|aN<|wm Z<|wm Z<|wS Z Z<|wy (uN Z Z)<|wa (bL .i64 [(m-1)%2] aa zs3 Z Z Z) ?_;rintro _ _ ⟨cm,rfl,rfl⟩;refine wa (aV 1 Z aa zb3 Z Z Z (rdr 0 Z)) ?_;rintro _ _ ⟨ff,fh,rfl,rfl⟩;refine bK (v:=sl ff (n1+1) fh) Z<|wn Z<|aN<|wm Z<|wS Z Z<|wy (DR Z Z G G G)<|wn Z ?_;exact⟨ff,n1+1,fh,acc++([(m-1)%2]),(m-1)/2,⟨(by rw[ah,co];try rfl),G,(PT hT G G G),(by rw[ah,gq];omega)⟩,G,SA,λ_ h=>h.sel [1] cC Z⟩
 ·refine aY<|wq<|wm Z<|wn Z<|aT [0] 99 cC Z ?_;refine⟨_,Z,?_⟩;obtain rfl:m=0:=G
  have e:eB n.toNat=acc:=by rw[hT];exact jk _
  rw[e];obtain rfl:=co;exact⟨_,_,Z,Z⟩
theorem yQ (h0:0<=n/\n<=1000000):
  Ct Tryz.prog 259 #[I n] w.heap.size w [] (λv R'=> ∃A c,v=sl A ((eB n.toNat).length) c/\R'=[(ri 3 A ((eB n.toNat).length) c (eB n.toNat))]):=by
 refine fn1 Tryz.func259 Z Z Z ?_;refine wq<|wn Z<|wq<|dB (R1:=[(ri 3 none 0 0 ([]))]) (Sub.refl _) (λ_ h=>h.nil 3 1)<|wn Z<|aD<|aH ?_;refine fH (λ(A1:Option Addr) (n1:Nat) (c1:Nat) (acc:List Int) (m:Int)=>[(0,I m),(3,sl A1 n1 c1)]) (λA1 n1 c1 acc m=>[(ri 3 A1 n1 c1 acc)]) (λA1 n1 c1 acc m=>(n1=acc.length)/\(0<=m)/\(eB n.toNat=acc++eB m.toNat)/\(acc.length+m<=n)) (λA1 n1 c1 acc m=>m.toNat) ?_ ?_
 ·exact⟨none,0,0,[],n,⟨(Z),G,(Z),(by show((0:Nat):Int)+n<=n;omega)⟩,SA,λ_ h=>h⟩
 intro A1 n1 c1 acc m ⟨co,rm,hT,hL⟩;refine aD<|wq<|wm Z<|wy (dJ Z Z)<|aA<|bF Z (λaq=> ?_) (λaq=> ?_)
 ·refine aL<|aH<|wq<|wm Z<|wy (uN Z Z)<|wS Z Z<|wn Z<|wq<|wm Z<|wm Z<|wS Z Z<|wa (bL .i64 [(2-(m%2))-1] aa zs3 Z Z Z) ?_;rintro _ _ ⟨cm,rfl,rfl⟩;refine wa (aV 1 Z aa zb3 Z Z Z (rdr 0 Z)) ?_;rintro _ _ ⟨ff,fh,rfl,rfl⟩;refine bK (v:=sl ff (n1+1) fh) Z<|wn Z<|aN<|wm Z<|wm Z<|wS Z Z<|wy (DR Z Z G G G)<|wn Z ?_;exact⟨ff,n1+1,fh,acc++([(2-(m%2))-1]),(m-(2-(m%2)))/2,⟨(by rw[ah,co];try rfl),G,(PT hT G G G),(by rw[ah,gq];omega)⟩,G,SA,λ_ h=>h.sel [1] cC Z⟩
 ·refine aY<|wq<|wm Z<|wn Z<|aT [0] 99 cC Z ?_;refine⟨_,Z,?_⟩;obtain rfl:m=0:=G
  have e:eB n.toNat=acc:=by rw[hT];exact jk _
  rw[e];obtain rfl:=co;exact⟨_,_,Z,Z⟩
theorem aKy (io:Rd w lj rj ln 1 (ints .u8 b)) (cj:aR b) (hN:b.length<=1000000):
  Ct Tryz.prog 129 #[sl lj rj ln] w.heap.size w [] (λv R'=> ∃A c,v=sl A ((bA 0 b).length) c/\R'=[(ri 3 A ((bA 0 b).length) c (bA 0 b))]):=by
 obtain rfl:=io.lenI;refine fn1 Tryz.func129 Z Z Z ?_;have Hi:=io.max;refine wq<|wn Z<|wq<|dB (R1:=[(ri 3 none 0 0 ([]))]) (Sub.refl _) (λ_ h=>h.nil 3 1)<|wn Z<|wq<|wn Z<|aD<|aD ?_;refine aN<|wm Z<|wy (aQ af Z)<|wm Z<|aA<|aH ?_;refine mK (λ(A1:Option Addr) (n1:Nat) (c1:Nat) (acc:List Int) (i:Int) (m:Int)=>[(3,sl A1 n1 c1),(4,I m),(7,sl lj b.length ln),(8,I ((b.length:Nat):Int)),(9,I i)]) (λA1 n1 c1 acc i m=>[(ri 3 A1 n1 c1 acc)]) (λA1 n1 c1 acc i m=>(n1=acc.length)/\(0<=i)/\(i<=b.length)/\(0<=m)/\(m<=i)/\(acc++bA m.toNat (b.drop i.toNat)=bA 0 b)) (λA1 n1 c1 acc i m=>(b.length-i).toNat) ?_ ?_
 ·exact⟨none,0,0,[],0,0,⟨(Z),G,G,G,G,(Z)⟩,SA,λ_ h=>h⟩
 intro A1 n1 c1 acc i m ⟨co,ar,jj,rm,na,hT⟩;have vd:=JR hT;have hts:=PS rm;refine wq<|wL Z Z<|aA<|aD<|bF Z (λaq=> ?_) (λaq=> ?_)
 ·have sm:=cj.rd i;refine aL<|aD<|aH<|wq<|wy (aI af sz5 Z Z (io.c _))<|wy (aW bg Z Z (io.c _))<|wn Z<|aD<|wq<|wm Z<|wy (aX Z Z)<|aA ?_;refine bF Z (λce=> ?_) (λce=> ?_)
  ·refine wq<|wm Z<|wA Z Z<|wn Z<|aY<|aN<|wA Z Z<|wm Z<|aA ?_;exact⟨A1,n1,c1,acc,i+1,m+1,⟨(by first|exact co|simp[co,mr]),G,G,G,G,(PX hT ar G rm cF)⟩,G,SA,λ_ h=>h⟩
  ·refine aL<|wq<|wm Z<|wm Z<|wa (aF bEq Z (Ct.fresh (λw hw=>PU G))) ?_;rintro _ _ ⟨_,rfl,bm,bl,rfl,rfl⟩;refine wa (aV 1 Z aa zb3 Z Z Z (rdr 0 Z)) ?_;rintro _ _ ⟨ir,iu,rfl,rfl⟩;refine bK (v:=sl ir (n1+((eB (m).toNat).length)) iu) Z<|wm Z<|wy (iF bg ak Z)<|wA Z Z<|wa (bL .i64 [(rd b i)+1] aa zs3 Z Z Z) ?_;rintro _ _ ⟨ka,rfl,rfl⟩;refine wa (aV 2 Z aa zb3 Z Z Z (rdr 0 Z)) ?_;rintro _ _ ⟨kh,mn,rfl,rfl⟩;refine bK (v:=sl kh ((n1+((eB (m).toNat).length))+1) mn) Z<|wn Z<|aN<|wn Z<|aN<|wA Z Z<|wm Z<|aA ?_;exact⟨kh,(n1+((eB (m).toNat).length))+1,mn,(acc++(eB (m).toNat))++([(rd b i)+1]),i+1,0,⟨(by first|exact co|simp[co,mr]),G,G,G,G,(zX hT ar G cF)⟩,G,SA,λ_ h=>h.sel [2] cC Z⟩
 ·refine aY<|wq<|wm Z<|wm Z<|wa (aF bEq Z (Ct.fresh (λw hw=>PU G))) ?_;rintro _ _ ⟨_,rfl,bo,bp,rfl,rfl⟩;refine wa (aV 1 Z aa zb3 Z Z Z (rdr 0 Z)) ?_;rintro _ _ ⟨ia,ie,rfl,rfl⟩;refine bK (v:=sl ia (n1+((eB (m).toNat).length)) ie) Z<|wn Z<|aT [1] 99 cC Z ?_;refine⟨_,Z,?_⟩;rw[xm G] at hT;have e2:acc++eB m.toNat=bA 0 b:=hT;have e:n1+(eB m.toNat).length=(bA 0 b).length:=by rw[<-e2,ah,co]
  rw[e,e2];exact⟨_,_,Z,Z⟩
theorem aDr (io:Rd w lj rj ln 1 (ints .u8 b)) (cj:aR b) (hN:b.length<=1000000):
  Ct Tryz.prog 211 #[sl lj rj ln] w.heap.size w [] (λv R'=> ∃A c,v=sl A ((bA 0 b).length) c/\R'=[(ri 3 A ((bA 0 b).length) c (bA 0 b))]):=by
 obtain rfl:=io.lenI;refine fn1 Tryz.func211 Z Z Z ?_;have Hi:=io.max;refine wq<|wn Z<|wq<|dB (R1:=[(ri 3 none 0 0 ([]))]) (Sub.refl _) (λ_ h=>h.nil 3 1)<|wn Z<|wq<|wn Z<|aD<|aD ?_;refine aN<|wn Z<|aH ?_;refine mK (λ(A1:Option Addr) (n1:Nat) (c1:Nat) (acc:List Int) (i:Int) (m:Int)=>[(0,sl lj b.length ln),(3,sl A1 n1 c1),(4,I m),(5,I i)]) (λA1 n1 c1 acc i m=>[(ri 3 A1 n1 c1 acc)]) (λA1 n1 c1 acc i m=>(n1=acc.length)/\(0<=i)/\(i<=b.length)/\(0<=m)/\(m<=i)/\(acc++bA m.toNat (b.drop i.toNat)=bA 0 b)) (λA1 n1 c1 acc i m=>(b.length-i).toNat) ?_ ?_
 ·exact⟨none,0,0,[],0,0,⟨(Z),G,G,G,G,(Z)⟩,SA,λ_ h=>h⟩
 intro A1 n1 c1 acc i m ⟨co,ar,jj,rm,na,hT⟩;have vd:=JR hT;have hts:=PS rm;refine aD<|wq<|wm Z<|wm Z<|wy (aQ af Z)<|wL Z Z<|aA<|bF Z (λaq=> ?_) (λaq=> ?_)
 ·have sm:=cj.rd i;refine aL<|aD<|aH<|aD<|wq<|wm Z<|wm Z<|wy (aI af sz5 Z Z (io.c _))<|wy (aW bg Z Z (io.c _))<|wy (aX Z Z)<|aA<|bF Z (λce=> ?_) (λce=> ?_)
  ·refine wq<|wm Z<|wA Z Z<|wn Z<|aY<|aN<|wm Z<|wA Z Z<|wn Z ?_;exact⟨A1,n1,c1,acc,i+1,m+1,⟨(by first|exact co|simp[co,mr]),G,G,G,G,(PX hT ar G rm cF)⟩,G,SA,λ_ h=>h⟩
  ·refine aL<|aD<|aHj (Rc:=[]) mixed (λ_ h=>h.sel [] cC Z) ?_;refine lH 0 Z cA Z (aM Z) ?_;refine lH 1 Z cA Z (aM Z) ?_;refine lH 4 Z cA Z (aM Z) ?_;refine lH 5 Z cA Z (aM Z) ?_;refine lH 6 Z cA Z (aI af sz5 Z Z (io.c _)) ?_;refine lH 7 Z cA Z (aW bg Z Z (io.c _)) ?_;refine lH 8 Z cA Z (iF bg ak Z) ?_;refine lH 9 Z cA Z (dG Z Z) ?_;refine aXp 2 10 cA ?_ ?_
   ·refine CW 2 Z Z (aF aVx Z (Ct.fresh (λw hw=>yQ G))) ?_;rintro _ _ ⟨_,rfl,bm,bl,rfl,rfl⟩;refine⟨λ_ h=>h.sel [] cC Z,?_⟩;refine aXp 3 10 cA ?_ ?_
    ·refine CW 3 Z Z (aV 1 Z aa zb3 Z Z Z (rdr 0 Z)) ?_;rintro _ _ ⟨ir,iu,rfl,rfl⟩;refine⟨λ_ h=>h.sel [] cC Z,?_⟩;refine GI (v:=sl ir (n1+((eB (m).toNat).length)) iu) Z ?_;refine pF 10 cA ?_;refine CW 10 Z Z (bL .i64 [(rd b i)+1] aa zs3 Z Z Z) ?_;rintro _ _ ⟨ka,rfl,rfl⟩;refine⟨λ_ h=>h.sel [] cC Z,?_⟩;refine pF 11 cA ?_;refine CW 11 Z Z (aV 2 Z aa zb3 Z Z Z (rdr 0 Z)) ?_;rintro _ _ ⟨kh,mn,rfl,rfl⟩;refine⟨λ_ h=>h.sel [] cC Z,?_⟩;refine GI (v:=sl kh ((n1+((eB (m).toNat).length))+1) mn) Z ?_;refine lH 12 Z cA Z (bG Z) ?_;refine NJ cA ?_;refine aN<|wn Z<|aN<|wm Z<|wA Z Z<|wn Z ?_;exact⟨kh,(n1+((eB (m).toNat).length))+1,mn,(acc++(eB (m).toNat))++([(rd b i)+1]),i+1,0,⟨(by first|exact co|simp[co,mr]),G,G,G,G,(zX hT ar G cF)⟩,G,SA,λ_ h=>h.sel [2] cC Z⟩
    ·refine CW 10 Z Z (bL .i64 [(rd b i)+1] aa zs3 Z Z Z) ?_;rintro _ _ ⟨go,rfl,rfl⟩;refine⟨λ_ h=>h.sel [] cC Z,?_⟩;refine pF 3 cA ?_;refine CW 3 Z Z (aV 2 Z aa zb3 Z Z Z (rdr 1 Z)) ?_;rintro _ _ ⟨pi,cx,rfl,rfl⟩;refine⟨λ_ h=>h.sel [] cC Z,?_⟩;refine GI (v:=sl pi (n1+((eB (m).toNat).length)) cx) Z ?_;refine pF 11 cA ?_;refine CW 11 Z Z (aV 2 Z aa zb3 Z Z Z (rdr 0 Z)) ?_;rintro _ _ ⟨fd,fg,rfl,rfl⟩;refine⟨λ_ h=>h.sel [] cC Z,?_⟩;refine GI (v:=sl fd ((n1+((eB (m).toNat).length))+1) fg) Z ?_;refine lH 12 Z cA Z (bG Z) ?_;refine NJ cA ?_;refine aN<|wn Z<|aN<|wm Z<|wA Z Z<|wn Z ?_;exact⟨fd,(n1+((eB (m).toNat).length))+1,fg,(acc++(eB (m).toNat))++([(rd b i)+1]),i+1,0,⟨(by first|exact co|simp[co,mr]),G,G,G,G,(zX hT ar G cF)⟩,G,SA,λ_ h=>h.sel [2] cC Z⟩
   ·refine CW 10 Z Z (bL .i64 [(rd b i)+1] aa zs3 Z Z Z) ?_;rintro _ _ ⟨m5,rfl,rfl⟩;refine⟨λ_ h=>h.sel [] cC Z,?_⟩;refine pF 2 cA ?_;refine CW 2 Z Z (aF aVx Z (Ct.fresh (λw hw=>yQ G))) ?_;rintro _ _ ⟨_,rfl,un,fz,rfl,rfl⟩;refine⟨λ_ h=>h.sel [] cC Z,?_⟩;refine pF 3 cA ?_;refine CW 3 Z Z (aV 2 Z aa zb3 Z Z Z (rdr 0 Z)) ?_;rintro _ _ ⟨xd,xf,rfl,rfl⟩;refine⟨λ_ h=>h.sel [] cC Z,?_⟩;refine GI (v:=sl xd (n1+((eB (m).toNat).length)) xf) Z ?_;refine pF 11 cA ?_;refine CW 11 Z Z (aV 2 Z aa zb3 Z Z Z (rdr 1 Z)) ?_;rintro _ _ ⟨k6,l4,rfl,rfl⟩;refine⟨λ_ h=>h.sel [] cC Z,?_⟩;refine GI (v:=sl k6 ((n1+((eB (m).toNat).length))+1) l4) Z ?_;refine lH 12 Z cA Z (bG Z) ?_;refine NJ cA ?_;refine aN<|wn Z<|aN<|wm Z<|wA Z Z<|wn Z ?_;exact⟨k6,(n1+((eB (m).toNat).length))+1,l4,(acc++(eB (m).toNat))++([(rd b i)+1]),i+1,0,⟨(by first|exact co|simp[co,mr]),G,G,G,G,(zX hT ar G cF)⟩,G,SA,λ_ h=>h.sel [2] cC Z⟩
 ·refine aY<|wq<|wm Z<|wm Z<|wa (aF aVx Z (Ct.fresh (λw hw=>yQ G))) ?_;rintro _ _ ⟨_,rfl,Kh,Km,rfl,rfl⟩;refine wa (aV 1 Z aa zb3 Z Z Z (rdr 0 Z)) ?_;rintro _ _ ⟨pj,pk,rfl,rfl⟩;refine bK (v:=sl pj (n1+((eB (m).toNat).length)) pk) Z<|wn Z<|aT [1] 99 cC Z ?_;refine⟨_,Z,?_⟩;rw[xm G] at hT;have e2:acc++eB m.toNat=bA 0 b:=hT;have e:n1+(eB m.toNat).length=(bA 0 b).length:=by rw[<-e2,ah,co]
  rw[e,e2];exact⟨_,_,Z,Z⟩
end Go.Proofs.YtdbebmmhdefgdaaGreat
