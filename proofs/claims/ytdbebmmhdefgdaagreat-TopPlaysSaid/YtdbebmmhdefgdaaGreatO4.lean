/- Own work. -/
import Derived.Shelf.Bits.Mul64
import Derived.Test.YtdbebmmhdefgdaaGreatProg
import Derived.Ground.SlsfProg
import Derived.Shelf.SlSortCmp.WholeK
import Derived.Test.YtdbebmmhdefgdaaGreatO3
set_option linter.unusedVariables false
set_option linter.unusedSimpArgs false
set_option maxHeartbeats 8000000
namespace Go.Proofs.YtdbebmmhdefgdaaGreat
open Go Go.Eng Go.Pure
open Tryz
set_option maxRecDepth 100000
variable {w:World} {ap:AF} {ar ao:Nat} {u:AH}
theorem aEd {po:AF} {sp pr:Nat} {t:AH} (ac:Rd w ap ar ao 1 (ints .i64 u)) (te:Rd w po sp pr 1 (ints .i64 t)):
  CF 262 #[sl ap ar ao,sl po sp pr] w (λv R'=>v=I (cmpL u t)):=by
 obtain rfl:=ac.lenI;obtain rfl:=te.lenI;refine fn1 Tryz.func262 Z Z Z ?_;have li:=ac.max;have Wg:=te.max;refine wq<|wn Z<|aC<|wq<|wn Z<|aH ?_;refine fM (λ(i:Int)=>[(0,sl ap u.length ao),(1,sl po t.length pr),(5,I i)]) (λi=>[]) (λi=>(0<=i)/\(i<=u.length)/\(i<=t.length)/\(cmpL u t=cmpL (u.drop i.toNat) (t.drop i.toNat))) (λi=>(u.length-i).toNat) ?_ ?_
 ·exact⟨0,⟨G,G,G,cD⟩,KP⟩
 intro i ⟨aw,Pd,hit,hc⟩;refine aC<|wq<|wm Z<|wm Z<|wy (aN aa Z)<|wL Z Z<|wm Z<|cK 5 [(0,sl ap u.length ao),(1,sl po t.length pr),(5,I i),(15, .bool (decide ((i<(u.length:Int))/\(i<(t.length:Int)))))] [] ?_ ?_
 ·refine bR 10 Z (λaq=> ?_) (λaq=> ?_)
  ·refine aB Z Z<|wm Z<|aB Z Z<|wm Z<|aB Z Z<|wy (aN aa Z)<|aB Z Z<|wL Z Z<|wy (aT Z Z)<|aA ?_;exact KP
  ·refine aM Z Z Z Z<|aM Z Z Z Z<|aM Z Z Z Z<|aM Z Z Z Z<|wy (aO Z Z)<|aA ?_;exact KP
 refine aA<|bA Z (λbp=> ?_) (λbp=> ?_)
 ·refine aI<|aC<|aH<|aC<|aC<|bI mixed<|wD 0 Z (aK Z)<|wD 1 Z (aK Z)<|wD 2 Z (aG aa sz3 Z Z (ac.c _))<|wD 3 Z (aR ai Z Z (ac.c _))<|wD 4 Z (aK Z)<|wD 5 Z (aK Z)<|wD 6 Z (aG aa sz3 Z Z (te.c _))<|wD 7 Z (aR ai Z Z (te.c _))<|wD 8 Z (eD Z Z) ?_;refine wN<|bA Z (λew=> ?_) (λew=> ?_)
  ·refine wq<|wn Z<|bS ?_;refine⟨_,Z,?_⟩;exact bq (Value.int .i64) (by rw[hc,qJ aw G G,df G])
  ·refine aI<|aC<|bI mixed<|wD 0 Z (aK Z)<|wD 1 Z (aK Z)<|wD 2 Z (aG aa sz3 Z Z (ac.c _))<|wD 3 Z (aR ai Z Z (ac.c _))<|wD 4 Z (aK Z)<|wD 5 Z (aK Z)<|wD 6 Z (aG aa sz3 Z Z (te.c _))<|wD 7 Z (aR ai Z Z (te.c _))<|wD 8 Z (dE Z Z)<|wN<|bA Z (λkd=> ?_) (λkd=> ?_)
   ·refine wq<|wn Z<|bS ?_;refine⟨_,Z,?_⟩;exact bq (Value.int .i64) (by rw[hc,qJ aw G G,bz G,df G])
   ·refine aI<|aL<|wm Z<|wA Z Z<|wn Z ?_;exact⟨i+1,⟨G,G,G,(by rw[hc,qJ aw G G,bz G,bz G])⟩,G,KP⟩
 ·refine aU<|aC<|aH<|wq<|wm Z<|wy (aN aa Z)<|wm Z<|wy (aN aa Z)<|wL Z Z<|wn Z<|bA Z (λme=> ?_) (λme=> ?_)
  ·refine wq<|wn Z<|bS ?_;refine⟨_,Z,?_⟩;exact bq (Value.int .i64) (by rw[hc,tC aw Pd hit G,df G])
  ·refine wq<|wm Z<|wy (aN aa Z)<|wm Z<|wy (aN aa Z)<|wy (dE Z Z)<|wn Z<|bA Z (λvq=> ?_) (λvq=> ?_)
   ·refine wq<|wn Z<|bS ?_;refine⟨_,Z,?_⟩;exact bq (Value.int .i64) (by rw[hc,tC aw Pd hit G,bz G,df G])
   ·refine aI<|wq<|wn Z<|bS ?_;refine⟨_,Z,?_⟩;exact bq (Value.int .i64) (by rw[hc,tC aw Pd hit G,bz G,bz G])
theorem aWj {io:AF} {mt iz:Nat} {l:AH} {vx:AF} {Uu wb:Nat} {m:AH} (dr:Rd w io mt iz 1 (ints .i64 l)) (xr:Rd w vx Uu wb 1 (ints .i64 m)) (hN:l.length<=1000000):
  CF 49 #[sl io mt iz,sl vx Uu wb] w (λv R'=>v= .bool (decide (l=m))):=by
 obtain rfl:=dr.lenI;obtain rfl:=xr.lenI;refine fn1 Tryz.func49 Z Z Z ?_;have Nw:=dr.max;have m_m:=xr.max;refine wq<|wn Z<|aC<|wq<|wm Z<|wy (aN aa Z)<|wm Z<|wy (aN aa Z)<|wy (fE Z Z)<|aA<|bA Z (λaq=> ?_) (λaq=> ?_)
 ·refine wq<|wn Z<|bS ?_;refine⟨_,Z,?_⟩;exact bq Value.bool (mr (λe=>by rw[e] at aq;exact aq rfl)).symm
 ·refine aI<|aC<|wq<|wn Z<|aH ?_;refine fM (λ(k:Int)=>[(0,sl io l.length iz),(1,sl vx m.length wb),(5,I k)]) (λk=>[]) (λk=>(0<=k)/\(k<=l.length)/\(l.take k.toNat=m.take k.toNat)) (λk=>(l.length-k).toNat) ?_ ?_
  ·exact⟨0,⟨G,G,(Z)⟩,KP⟩
  intro k ⟨md,vd,hq⟩;refine aC<|wq<|wm Z<|wm Z<|wy (aN aa Z)<|wL Z Z<|aA<|bA Z (λbp=> ?_) (λbp=> ?_)
  ·refine aI<|aC<|aH<|aC<|bI mixed<|wD 0 Z (aK Z)<|wD 1 Z (aK Z)<|wD 2 Z (aG aa sz3 Z Z (dr.c _))<|wD 3 Z (aR ai Z Z (dr.c _))<|wD 4 Z (aK Z)<|wD 5 Z (aK Z)<|wD 6 Z (aG aa sz3 Z Z (xr.c _))<|wD 7 Z (aR ai Z Z (xr.c _))<|wD 8 Z (fE Z Z)<|wN ?_;refine bA Z (λew=> ?_) (λew=> ?_)
   ·refine wq<|wn Z<|bS ?_;refine⟨_,Z,?_⟩;exact bq Value.bool (mr (λe=>by subst e;exact ew rfl)).symm
   ·refine aI<|aL<|wm Z<|wA Z Z<|wn Z ?_;exact⟨k+1,⟨G,G,(by rw[dH md G,dH md G,hq];exact bq (λz=>List.take k.toNat m++[z]) (vk.1 cF))⟩,G,KP⟩
  ·refine aU<|wq<|wn Z<|bS ?_;refine⟨_,Z,?_⟩;exact bq Value.bool (mh (by rw[bg G,bg G] at hq;exact hq)).symm
theorem aFu {cy:AF} {ij cx:Nat} {s:AH} (bb:Rd w cy ij cx 1 (ints .i64 s)) (hN:s.length<=1000000):
  CF 216 #[sl cy ij cx] w (λv R'=> ∃(b:AH) (A:AF) (c:Nat),v=sl A s.length c/\b.Perm (iota s.length)/\b.Pairwise (bU s)/\R'=[(ri 3 A s.length c b)]):=by
 obtain rfl:=bb.lenI;refine fn1 Tryz.func216 Z Z Z ?_;have yp:=bb.max;refine wq<|wn Z<|wq<|dB (R1:=[(ri 3 none 0 0 ([]))]) (Sub.refl _) (λ_ h=>h.nil 3 1)<|wn Z<|aC<|wq<|wn Z<|aH ?_;refine fK (λ(i:Int) (A1:AF) (n1:Nat) (c1:Nat) (U:AH)=>[(0,sl cy s.length cx),(3,sl A1 n1 c1),(4,I i)]) (λi A1 n1 c1 U=>[(ri 3 A1 n1 c1 U)]) (λi A1 n1 c1 U=>(0<=i)/\(i<=s.length)/\(n1=U.length)/\(U.Perm (iota i.toNat))/\(U.Pairwise (bU s))) (λi A1 n1 c1 U=>(s.length-i).toNat) ?_ ?_
 ·exact⟨0,none,0,0,[],⟨G,G,(Z),(.refl _),(.nil)⟩,KP⟩
 intro i A1 n1 c1 U ⟨aw,ia,cv,hp,hs⟩;have Cd:U.length=i.toNat:=by rw[hp.length_eq,bB]
 refine aC<|wq<|wm Z<|wm Z<|wy (aN aa Z)<|wL Z Z<|aA<|bA Z (λaq=> ?_) (λaq=> ?_)
 ·refine aI<|aC<|aH<|wq<|wm Z<|wy (aN aa Z)<|wn Z<|aC<|aH ?_;refine fM (λ(j:Int)=>[(0,sl cy s.length cx),(3,sl A1 n1 c1),(4,I i),(5,I j)]) (λj=>[(ri 3 A1 n1 c1 U)]) (λj=>(0<=j)/\(j<=U.length)/\(∀q:Int,j<=q->q<U.length->bU s i (rd U q))) (λj=>j.toNat) ?_ ?_
  ·exact⟨(n1:Int),⟨G,G,(λq h1 h2=>G)⟩,KP⟩
  intro j ⟨ue,l7,wd⟩;have gd: ∀q:Int,0<=q->q<U.length->0<=rd U q/\rd U q<i.toNat:=λq h1 h2=>aZ.1 (hp.subset (bJ h1 h2));have hmj:0<j->0<=rd U (j-1)/\rd U (j-1)<s.length:=λh=>by have:=gd (j-1) G G;omega
  refine aC ?_;refine lM [(0,sl cy s.length cx),(3,sl A1 n1 c1),(4,I i),(5,I j),(29, .bool (decide ((0<j)/\((cmpL ((s).drop (i).toNat) ((s).drop (rd U (j-1)).toNat))<0))))] [(ri 3 A1 n1 c1 U)] ?_ ?_
  ·refine bI mixed<|wD 0 Z (aK Z)<|wD 1 Z (dE Z Z)<|wD 2 Z (aK Z)<|iL 16 Z (λbp=> ?_) (λbp=> ?_)
   ·refine wG 3 Z Z Z (aK Z)<|wG 4 Z Z Z (aK Z)<|wG 5 Z Z Z (dK aa sz3 Z Z)<|wG 6 Z Z Z (aK Z)<|wG 7 Z Z Z (aK Z)<|wG 8 Z Z Z (aK Z)<|wG 9 Z Z Z (gZ Z Z)<|wG 10 Z Z Z (aG aa sz3 Z Z (rdr 0 Z))<|wG 11 Z Z Z (aR ai Z Z (rdr 0 Z))<|wG 12 Z Z Z (dK aa sz3 Z Z (by have:=gd (j-1) G G;omega) (by have:=gd (j-1) G G;omega)) ?_;refine GN 13 Z cA Z Z Z (aD bMy Z (Ct.quiet (λw hw=>aEd ((RdC.fromI (bb.c _) G) w hw) ((RdC.fromI (bb.c _) G) w hw)))) ?_;rintro _ _⟨rfl,rfl⟩;refine⟨.inr hiZ,?_⟩;refine wG 14 Z Z Z (eD Z Z)<|wD 15 Z (aT Z Z)<|wN ?_;exact KP
   ·refine wO 3 Z Z Z<|wO 4 Z Z Z<|wO 5 Z Z Z<|wO 6 Z Z Z<|wO 7 Z Z Z<|wO 8 Z Z Z<|wO 9 Z Z Z<|wO 10 Z Z Z<|wO 11 Z Z Z<|wO 12 Z Z Z<|wO 13 Z Z Z<|wO 14 Z Z Z<|wD 15 Z (aO Z Z)<|wN ?_;exact KP
  refine bA Z (λew=> ?_) (λew=> ?_)
  ·have Ss:=aPf (s:=s) wd ew;refine aI<|aH<|aL<|wm Z<|wS Z Z<|wn Z ?_;exact⟨j-1,⟨G,G,(Ss)⟩,G,KP⟩
  ·have tz:=aWl (s:=s) aw G hp hs ue l7 wd ew;refine aU<|bI mixed<|wD 1 Z (aK Z)<|wD 2 Z (aK Z)<|wD 3 Z (dQ aa sz3 Z Z (rdr 0 Z))<|wD 5 Z (aK Z)<|wD 8 Z (aK Z)<|wD 9 Z (aK Z)<|wD 10 Z (dK aa sz3 Z Z)<|UJ 0 6 cA ?_ ?_
   ·refine YM 0 Z Z (bH .i64 [] aa zs3 Z Z Z) ?_;rintro _ _⟨bx,rfl,rfl⟩;refine⟨.inr hrZ,?_⟩;refine UJ 4 6 cA ?_ ?_
    ·refine YM 4 Z Z (aS 0 Z aa zb3 Z Z Z (RdC.toI (h:=(j).toNat) (rdr 1 Z) cG)) ?_;rintro _ _⟨fi,fj,rfl,rfl⟩;refine⟨.inl cA,?_⟩;refine iF (v:=sl fi (0+((j).toNat)) fj) Z<|wC 6 Z (bH .i64 [i] aa zs3 Z Z Z) ?_;rintro _ _⟨ki,rfl,rfl⟩;refine⟨.inr hrZ,?_⟩;refine wC 7 Z (aS 1 Z aa zb3 Z Z Z (rdr 0 Z)) ?_;rintro _ _⟨fc,dv,rfl,rfl⟩;refine⟨.inl cA,?_⟩;refine iF (v:=sl fc ((0+((j).toNat))+1) dv) Z<|wC 11 Z (aS 1 Z aa zb3 Z Z Z (RdC.fromI (rdr 2 Z) cG)) ?_;rintro _ _⟨eh,bo,rfl,rfl⟩;refine⟨.inl cA,?_⟩;refine iF (v:=sl eh (((0+((j).toNat))+1)+(n1-(j).toNat)) bo) Z<|wD 12 Z (bC Z)<|wN<|aL<|wm Z<|wA Z Z<|wn Z ?_;exact⟨i+1,eh,((0+((j).toNat))+1)+(n1-(j).toNat),bo,((([])++((U).take (j).toNat))++([i]))++((U).drop (j).toNat),⟨G,G,(by simp only[ah,ax,az,dh,jl];omega),(tz.1),(tz.2)⟩,G,SA,λ_ h=>h.sel [1] cC Z⟩
    ·refine YM 6 Z Z (bH .i64 [i] aa zs3 Z Z Z) ?_;rintro _ _⟨ka,rfl,rfl⟩;refine⟨.inr hrZ,?_⟩;refine wC 4 Z (aS 1 Z aa zb3 Z Z Z (RdC.toI (h:=(j).toNat) (rdr 2 Z) cG)) ?_;rintro _ _⟨en,es,rfl,rfl⟩;refine⟨.inl cA,?_⟩;refine iF (v:=sl en (0+((j).toNat)) es) Z<|wC 7 Z (aS 1 Z aa zb3 Z Z Z (rdr 0 Z)) ?_;rintro _ _⟨fz,th,rfl,rfl⟩;refine⟨.inl cA,?_⟩;refine iF (v:=sl fz ((0+((j).toNat))+1) th) Z<|wC 11 Z (aS 1 Z aa zb3 Z Z Z (RdC.fromI (rdr 2 Z) cG)) ?_;rintro _ _⟨vi,gh,rfl,rfl⟩;refine⟨.inl cA,?_⟩;refine iF (v:=sl vi (((0+((j).toNat))+1)+(n1-(j).toNat)) gh) Z<|wD 12 Z (bC Z)<|wN<|aL<|wm Z<|wA Z Z<|wn Z ?_;exact⟨i+1,vi,((0+((j).toNat))+1)+(n1-(j).toNat),gh,((([])++((U).take (j).toNat))++([i]))++((U).drop (j).toNat),⟨G,G,(by simp only[ah,ax,az,dh,jl];omega),(tz.1),(tz.2)⟩,G,SA,λ_ h=>h.sel [1] cC Z⟩
   ·refine YM 6 Z Z (bH .i64 [i] aa zs3 Z Z Z) ?_;rintro _ _⟨Lj,rfl,rfl⟩;refine⟨.inr hrZ,?_⟩;refine wC 0 Z (bH .i64 [] aa zs3 Z Z Z) ?_;rintro _ _⟨Lk,rfl,rfl⟩;refine⟨.inr hrZ,?_⟩;refine wC 4 Z (aS 0 Z aa zb3 Z Z Z (RdC.toI (h:=(j).toNat) (rdr 2 Z) cG)) ?_;rintro _ _⟨La,Le,rfl,rfl⟩;refine⟨.inl cA,?_⟩;refine iF (v:=sl La (0+((j).toNat)) Le) Z<|wC 7 Z (aS 0 Z aa zb3 Z Z Z (rdr 1 Z)) ?_;rintro _ _⟨Wk,Wr,rfl,rfl⟩;refine⟨.inl cA,?_⟩;refine iF (v:=sl Wk ((0+((j).toNat))+1) Wr) Z<|wC 11 Z (aS 0 Z aa zb3 Z Z Z (RdC.fromI (rdr 2 Z) cG)) ?_;rintro _ _⟨Qz,Rl,rfl,rfl⟩;refine⟨.inl cA,?_⟩;refine iF (v:=sl Qz (((0+((j).toNat))+1)+(n1-(j).toNat)) Rl) Z<|wD 12 Z (bC Z)<|wN<|aL<|wm Z<|wA Z Z<|wn Z ?_;exact⟨i+1,Qz,((0+((j).toNat))+1)+(n1-(j).toNat),Rl,((([])++((U).take (j).toNat))++([i]))++((U).drop (j).toNat),⟨G,G,(by simp only[ah,ax,az,dh,jl];omega),(tz.1),(tz.2)⟩,G,SA,λ_ h=>h.sel [0] cC Z⟩
 ·refine aU<|wq<|wm Z<|wn Z<|aQ [0] 99 cC Z ?_;refine⟨_,Z,?_⟩;obtain rfl:n1=s.length:=G
  exact⟨U,_,_,Z,by have e:i.toNat=s.length:=G;rw[<-e];exact hp,hs,rfl⟩
theorem VX (ac:Rd w ap ar ao 1 (ints .u8 u)) (an:aP u) (hN:u.length<=1000000):
  CF 217 #[sl ap ar ao] w (λv R'=> ∃A c,v=sl A (u).length c/\R'=[(ri 3 A ((u).length) c (u))]):=by
 obtain rfl:=ac.lenI;refine fn1 Tryz.func217 Z Z Z ?_;have li:=ac.max;refine wq<|wn Z<|wq<|dB (R1:=[(ri 3 none 0 0 ([]))]) (Sub.refl _) (λ_ h=>h.nil 3 1)<|wn Z<|aC<|wq<|wn Z<|aH ?_;refine fK (λ(A1:AF) (n1:Nat) (c1:Nat) (acc:AH) (i:Int)=>[(0,sl ap u.length ao),(3,sl A1 n1 c1),(4,I i)]) (λA1 n1 c1 acc i=>[(ri 3 A1 n1 c1 acc)]) (λA1 n1 c1 acc i=>(n1=acc.length)/\(0<=i)/\(i<=u.length)/\(acc=u.take i.toNat)) (λA1 n1 c1 acc i=>(u.length-i).toNat) ?_ ?_
 ·exact⟨none,0,0,[],0,⟨(Z),G,G,(Z)⟩,KP⟩
 intro A1 n1 c1 acc i ⟨cv,aw,ia,ba⟩;refine aC<|wq<|wm Z<|wm Z<|wy (aN af Z)<|wL Z Z<|aA<|bA Z (λaq=> ?_) (λaq=> ?_)
 ·have tj:=an.rd i;refine aI<|aC<|aH<|aL<|wm Z<|wm Z<|wm Z<|wy (aG af sz5 Z Z (ac.c _))<|wy (aR ay Z Z (ac.c _))<|wy (iK ay ai Z)<|wa (bH .i64 [rd u i] aa zs3 Z Z Z) ?_;rintro _ _⟨bx,rfl,rfl⟩;refine wa (aS 1 Z aa zb3 Z Z Z (rdr 0 Z) (by have:=bq List.length ba;rw[ax] at this;omega)) ?_;rintro _ _⟨fi,fj,rfl,rfl⟩;refine bF (v:=sl fi (n1+1) fj) Z<|wn Z<|aL<|wm Z<|wA Z Z<|wn Z ?_;exact⟨fi,n1+1,fj,acc++([rd u i]),i+1,⟨(by rw[ah,cv];try rfl),G,G,(by rw[dH aw G,ba])⟩,G,SA,λ_ h=>h.sel [1] cC Z⟩
 ·refine aU<|wq<|wm Z<|wn Z<|aQ [0] 99 cC Z ?_;refine⟨_,Z,?_⟩;rw[bg G] at ba;subst ba;obtain rfl:=cv;exact⟨_,_,Z,Z⟩
theorem aHx (ac:Rd w ap ar ao 1 (ints .u8 u)) (an:aP u) (hN:u.length<=1000000):
  CF 144 #[sl ap ar ao] w (λv R'=> ∃(b:AH) (A:AF) (c:Nat),v=sl A u.length c/\b.Perm (iota u.length)/\b.Pairwise (bU u)/\R'=[(ri 3 A u.length c b)]):=by
 obtain rfl:=ac.lenI;refine fn1 Tryz.func144 Z Z Z ?_;have li:=ac.max;refine wq<|wn Z<|wq<|wm Z<|wa (aD bNr Z (Ct.fresh (λw hw=>VX ((ac.c _) w hw) cE cE))) ?_;rintro _ _⟨_,rfl,bm,bl,rfl,rfl⟩;refine wa (aD bNs Z (Ct.fresh (λw hw=>aFu ((rdr 0 Z) w hw) cE))) ?_;rintro _ _⟨_,rfl,b1,iu,js,rfl,cq,dj,rfl⟩;refine wn Z<|aQ [0] 99 cC Z ?_;exact⟨_,Z,b1,_,_,Z,cq,dj,Z⟩
end Go.Proofs.YtdbebmmhdefgdaaGreat
namespace Go.Proofs
open Go.Shelf
def Tryz.lays212_ren:Go.Shelf.Ren:=⟨λ|212=>122|263=>195|264=>196|n=>n,λ|46=>167|51=>123|146=>243|53=>112|148=>245|n=>n,λ|n=>n⟩
theorem Tryz.lays212:Go.Proofs.Lays.n212 Tryz.prog Tryz.lays212_ren:= {
 mixed:=cA
 f212:=Tryz.func122.trans (bq some cA)
 f263:=Tryz.func195.trans (bq some cA)
 f264:=Tryz.func196.trans (bq some cA)
 t46:=Az
 a46:=Ei
 z46:=Dt
 v46:=Bi
 t51:=Cx
 a51:=Hz
 z51:=Gl
 v51:=Dv
 t53:=Cw
 a53:=Hy
 z53:=Gj
 v53:=Du
 t146:=Tryz.underlying243
 a146:=Tryz.isAgg243
 z146:=Tryz.sizeOf243
 v146:=Tryz.zeroValue243
 t148:=Tryz.underlying245
 a148:=Tryz.isAgg245
 z148:=Tryz.sizeOf245
 v148:=Tryz.zeroValue245}
open Go.RowKit Go.Lib in
theorem Tryz.bits_Mul (x y:Nat) (hx:x<18446744073709551616) (hy:y<18446744073709551616) (w:World):
  Calls Tryz.prog 122 #[.int .u64 x, .int .u64 y] w λe w'=>e= .returned (.tuple #[.int .u64 ((x*y/18446744073709551616:Nat):Int), .int .u64 ((x*y%18446744073709551616:Nat):Int)])/\w'=w:=Any.bits_Mul Tryz.lays212 x y hx hy w
end Go.Proofs
namespace Go.Proofs.YtdbebmmhdefgdaaGreat
open Go Go.Eng Go.Pure
open Tryz
set_option maxRecDepth 100000
variable {w:World} {p val i:Int} {N ij cx:Nat} {cy:AF} {s:AH}
theorem qG {io:AF} {mt iz:Nat} {l:AH} {vx:AF} {Uu wb:Nat} {m:AH} (dr:Rd w io mt iz 1 (ints .i64 l)) (xr:Rd w vx Uu wb 1 (ints .i64 m)) (hN:l.length<=1000000):
  CF 87 #[sl io mt iz,sl vx Uu wb] w (λv R'=>v= .bool (decide (l=m))):=by
 obtain rfl:=dr.lenI;obtain rfl:=xr.lenI;refine fn1 Tryz.func87 Z Z Z ?_;have Nw:=dr.max;have m_m:=xr.max;refine wq<|wn Z<|aC<|wq<|wm Z<|wy (aN aa Z)<|wm Z<|wy (aN aa Z)<|wy (fE Z Z)<|aA<|bA Z (λaq=> ?_) (λaq=> ?_)
 ·refine wq<|wn Z<|bS ?_;refine⟨_,Z,?_⟩;exact bq Value.bool (mr (λe=>by rw[e] at aq;exact aq rfl)).symm
 ·refine aI<|aC<|wq<|wm Z<|wy (aN aa Z)<|wm Z<|aA<|aH ?_;refine fM (λ(k:Int)=>[(0,sl io l.length iz),(1,sl vx m.length wb),(12,I (l.length:Int)),(13,I k)]) (λk=>[]) (λk=>(0<=k)/\(k<=l.length)/\(l.take k.toNat=m.take k.toNat)) (λk=>(l.length-k).toNat) ?_ ?_
  ·exact⟨0,⟨G,G,(Z)⟩,KP⟩
  intro k ⟨md,vd,hq⟩;refine wq<|wL Z Z<|aA<|aC<|bA Z (λbp=> ?_) (λbp=> ?_)
  ·refine aI<|aC<|aH<|wq<|wm Z<|wn Z<|aC<|bI mixed<|wD 0 Z (aK Z)<|wD 1 Z (aK Z)<|wD 2 Z (aG aa sz3 Z Z (dr.c _))<|wD 3 Z (aR ai Z Z (dr.c _))<|wD 4 Z (aK Z) ?_;refine wD 5 Z (aK Z)<|wD 6 Z (aG aa sz3 Z Z (xr.c _))<|wD 7 Z (aR ai Z Z (xr.c _))<|wD 8 Z (fE Z Z)<|wN<|bA Z (λew=> ?_) (λew=> ?_)
   ·refine wq<|wn Z<|bS ?_;refine⟨_,Z,?_⟩;exact bq Value.bool (mr (λe=>by subst e;exact ew rfl)).symm
   ·refine aI<|aL<|wA Z Z<|wm Z<|aA ?_;exact⟨k+1,⟨G,G,(by rw[dH md G,dH md G,hq];exact bq (λz=>List.take k.toNat m++[z]) (vk.1 cF))⟩,G,KP⟩
  ·refine aU<|wq<|wn Z<|bS ?_;refine⟨_,Z,?_⟩;exact bq Value.bool (mh (by rw[bg G,bg G] at hq;exact hq)).symm
theorem bIp {B:Nat} {w0:World} {R:List Row} (N:Nat) (h:N<=1000000):CT 122 #[.int .u64 1, .int .u64 (N:Int)] B w0 R (λv R'=>v= .tuple #[.int .u64 0, .int .u64 (N:Int)]/\R'=R):=by
 intro w hw;have hc:=Tryz.bits_Mul 1 N G G w;rw[Aa,Eb G,lh G] at hc;refine hc.mono ?_;rintro e w' ⟨rfl,rfl⟩;exact⟨_,R,Z,hw,Z,Z⟩
theorem aMf (h:0<=p/\p<=18446744073709551615):IntKind.u64.wrap p=p:=by rw[Ig];omega
theorem aTu {D:AH} (p1:1<=p) (hp:p<=N) (hD:D=BV val p.toNat N):
  List.take p.toNat D++List.take (min p.toNat (N-p.toNat)) (List.take p.toNat D)++List.drop (p.toNat+min p.toNat (N-p.toNat)) D=BV val (p+((min p.toNat (N-p.toNat):Nat):Int)).toNat N:=by
 subst hD;rw[show(p+((min p.toNat (N-p.toNat):Nat):Int)).toNat=p.toNat+min p.toNat (N-p.toNat) by omega];refine SC G ?_;rw[SB,List.take_replicate];congr 1;omega
theorem aTw (h:1<=N):List.take 0 (List.replicate N (0:Int))++List.take (min ([val].length) (N-0)) [val]++List.drop (0+min ([val].length) (N-0)) (List.replicate N (0:Int))=BV val (((min ([val].length) (N-0):Nat):Int)).toNat N:=by
 have e:min ([val].length) (N-0)=1:=cH
 rw[e,<-aNl val N];exact SC (p:=0) (q:=1) G Z
theorem aFj {n8:AF} {Kw o5:Nat} {x:AH} {cn:Int} (nf:Rd w n8 Kw o5 1 (ints .i64 x)) (hx:x=[val]) (Qb:cn=(N:Int)) (hN:1<=N/\N<=1000000):
  CF 316 #[sl n8 Kw o5,I cn] w (λv R'=> ∃A c,v=sl A N c/\R'=[(ri 3 A N c (List.replicate N val))]):=by
 obtain rfl:=nf.lenI;refine fn1 Tryz.func316 Z Z Z ?_;have m_x:=nf.max;refine wq<|wn Z<|aC<|wq<|wm Z<|wy (Yl.f (eD Z Z))<|aA<|aJ Z<|aI<|wq<|wm Z ?_;refine wy (aN aa Z)<|wy (Yl.is (mP ai Cj Z) (by rw[hx])) ?_;refine wm Z<|wy (Yl.is (mP ai Cj Z) (by rw[aMf G,Qb])) ?_;refine wa (aD bGr Z (bIp N hN.2)) ?_;rintro _ _⟨rfl,rfl⟩;refine wm Z<|wX Z Z<|wX Z Z<|wg Z<|wn Z<|aC<|wq<|wm Z<|wy (Yl.f (dE Z Z))<|wm Z<|aB Z Z<|wm Z<|aB Z Z ?_;refine wy (Yl.f (dE Z Z))<|wy (aO Z Z)<|aA<|aJ Z<|aI<|wq<|wm Z<|wy (iK Cj ai Z)<|wa (dD aa zb3 Z Z) ?_;rintro _ _⟨am,rfl,rfl⟩;refine bF (v:=sl (GG am) N N) Z<|wn Z<|wq<|wm Z<|wm Z<|wa (XI (lo:=0) 0 Z aa sz3 Z Z aYs Z G (nf.c _)) ?_;rintro _ _⟨rfl,rfl⟩;refine wn Z<|aC<|aH ?_;refine dM (λ(p:Int) (D:AH)=>[(7,sl (GG am) N N),(8,I p)]) (λp D=>[(ri 3 (GG am) N N D)]) (λp D=>(1<=p)/\(p<=N)/\(D=BV val p.toNat N)) (λp D=>(N-p).toNat) ?_ ?_
 ·exact⟨((min x.length (N-0):Nat):Int),List.take 0 (List.replicate N (0:Int))++List.take (min x.length (N-0)) x++List.drop (0+min x.length (N-0)) (List.replicate N (0:Int)),⟨(by subst hx;simp;omega),G,(by subst hx;exact aTw hN.1)⟩,KP⟩
 intro p D ⟨Pn,sd,hD⟩;refine aC<|wq<|wm Z<|wm Z<|wy (aN aa Z)<|wL Z Z<|aA<|bA Z (λaq=> ?_) (λaq=> ?_)
 ·refine aI<|aH<|bI mixed<|wD 0 Z (aK Z)<|wD 1 Z (aK Z)<|wD 2 Z (aK Z)<|wD 3 Z (dK aa sz3 Z Z)<|wD 4 Z (aK Z)<|wD 5 Z (aK Z)<|wD 6 Z (dQ aa sz3 Z Z (rdr 0 Z))<|wC 7 Z (XI (lo:=p.toNat) 0 Z aa sz3 Z Z Z Z G (RdC.toI (h:=(p).toNat) (rdr 0 Z) cG)) ?_;rintro _ _⟨rfl,rfl⟩;refine⟨.inl cA,?_⟩;refine wD 8 Z (bX Z Z)<|wD 9 Z (bC Z)<|wN ?_;exact⟨p+((min ((p).toNat) (N-p.toNat):Nat):Int),List.take p.toNat D++List.take (min ((p).toNat) (N-p.toNat)) ((D).take (p).toNat)++List.drop (p.toNat+min ((p).toNat) (N-p.toNat)) D,⟨G,G,(aTu Pn sd hD)⟩,G,KP⟩
 ·refine aU<|wq<|wm Z<|wn Z<|aQ [0] 99 cC Z ?_;refine⟨_,Z,?_⟩;obtain rfl:D=List.replicate N val:=by rw[hD,show p.toNat=N by omega];exact aTt _ _
  exact⟨_,_,Z,Z⟩
theorem YY (bb:Rd w cy ij cx 1 (ints .i64 s)) (hN:s.length<=1000000):
  CF 313 #[sl cy ij cx] w (λv R'=> ∃A c,v=sl A s.length c/\R'=[⟨4,1,A,s.length,c,bools (smL s),false⟩]):=by
 obtain rfl:=bb.lenI;refine fn1 Tryz.func313 Z Z Z ?_;have yp:=bb.max;refine wq<|wn Z<|wq<|wm Z<|wy (aN aa Z)<|wa (KA ng zb4 Z Z G G G) ?_;rintro _ _⟨am,rfl,rfl⟩;refine bF (v:=sl (GG am) s.length s.length) Z<|wn Z<|aC<|wq<|wm Z<|wy (aN aa Z)<|wS Z Z<|wn Z<|aH ?_;refine dM (λ(i:Int) (m:List Bool)=>[(0,sl cy s.length cx),(3,sl (GG am) s.length s.length),(4,I i)]) (λi m=>[⟨4,1,(GG am),s.length,s.length,bools m,false⟩]) (λi m=>(-2<=i)/\(i+2<=s.length)/\(m.length=s.length)/\(∀j:Int,0<=j->i<j->j<s.length->rdb m j=smB s j)) (λi m=>(i+1).toNat) ?_ ?_
 ·exact⟨(s.length:Int)-2,List.replicate s.length false,⟨G,G,(by rw[bu]),(λj h0 h1 h2=>by rw[BX,qO h0 G])⟩,KP⟩
 intro i m ⟨aw,ia,hl,hM⟩;refine aC<|wq<|wm Z<|wy (iA Z Z)<|aA<|bA Z (λaq=> ?_) (λaq=> ?_)
 ·refine aI<|aC<|aH<|bI mixed<|wD 0 Z (aK Z)<|wD 1 Z (aK Z)<|wD 2 Z (aK Z)<|wD 3 Z (aK Z)<|wD 4 Z (aG aa sz3 Z Z (bb.c _))<|wD 5 Z (aR ai Z Z (bb.c _))<|wD 6 Z (aK Z)<|wD 7 Z (aK Z)<|wD 8 Z (bX Z Z)<|wD 9 Z (aG aa sz3 Z Z (bb.c _))<|wD 10 Z (aR ai Z Z (bb.c _)) ?_;refine wD 11 Z (eD Z Z)<|wD 12 Z (aK Z)<|iL 27 Z (λbp=> ?_) (λbp=> ?_)
  ·refine wO 13 Z Z Z<|wO 14 Z Z Z<|wO 15 Z Z Z<|wO 16 Z Z Z<|wO 17 Z Z Z<|wO 18 Z Z Z<|wO 19 Z Z Z<|wO 20 Z Z Z<|wO 21 Z Z Z<|wO 22 Z Z Z<|wO 23 Z Z Z<|eO 24 Z cA Z Z Z<|eO 25 Z cA Z Z Z<|eO 26 Z cA Z Z Z<|eO 27 Z cA Z Z Z ?_;refine eO 28 Z cA Z Z Z<|wO 29 Z Z Z<|wD 30 Z (aT Z Z)<|wD 31 Z (aG ng sz4 Z Z (rdr 0 Z))<|oU 32 Z cA (tJ 0 Z sz4 Z Z) ?_;rintro _ _ rfl;refine⟨.inl cA,?_⟩;refine wN<|aL<|wm Z<|wS Z Z<|wn Z ?_;exact⟨i-1,pU m i true,⟨G,G,(by rw[lG];exact hl),(λj h0 h1 h2=>UW G G hl (λj a b=>hM j G a b) (⟨λ_=> .inl G,λ_=>Z⟩) j G h2)⟩,G,KP⟩
  ·refine wG 13 Z Z Z (aK Z)<|wG 14 Z Z Z (aK Z)<|wG 15 Z Z Z (aG aa sz3 Z Z (bb.c _))<|wG 16 Z Z Z (aR ai Z Z (bb.c _))<|wG 17 Z Z Z (aK Z)<|wG 18 Z Z Z (aK Z)<|wG 19 Z Z Z (bX Z Z)<|wG 20 Z Z Z (aG aa sz3 Z Z (bb.c _))<|wG 21 Z Z Z (aR ai Z Z (bb.c _))<|wG 22 Z Z Z (dR Z Z)<|wG 23 Z Z Z (aK Z)<|iL 38 Z (λew=> ?_) (λew=> ?_)
   ·refine wG 24 Z Z Z (aK Z)<|wG 25 Z Z Z (aK Z)<|wG 26 Z Z Z (bX Z Z)<|wG 27 Z Z Z (aG ng sz4 Z Z (rdr 0 Z))<|wG 28 Z Z Z (AR Ah Z Z (rdr 0 Z))<|wG 29 Z Z Z (aT Z Z)<|wD 30 Z (aO Z Z)<|wD 31 Z (aG ng sz4 Z Z (rdr 0 Z))<|oU 32 Z cA (tJ 0 Z sz4 Z Z) ?_;rintro _ _ rfl;refine⟨.inl cA,?_⟩;refine wN<|aL<|wm Z<|wS Z Z<|wn Z ?_;exact⟨i-1,pU m i (decide (rdb m (i+1)=true)),⟨G,G,(by rw[lG];exact hl),(λj h0 h1 h2=>UW G G hl (λj a b=>hM j G a b) (by rw[iv];exact⟨λh=> .inr ⟨G,h⟩,λh=>(h.resolve_left G).2⟩) j G h2)⟩,G,KP⟩
   ·refine wO 24 Z Z Z<|wO 25 Z Z Z<|wO 26 Z Z Z<|wO 27 Z Z Z<|wO 28 Z Z Z<|wG 29 Z Z Z (aO Z Z)<|wD 30 Z (aO Z Z)<|wD 31 Z (aG ng sz4 Z Z (rdr 0 Z))<|oU 32 Z cA (tJ 0 Z sz4 Z Z) ?_;rintro _ _ rfl;refine⟨.inl cA,?_⟩;refine wN<|aL<|wm Z<|wS Z Z<|wn Z ?_;exact⟨i-1,pU m i false,⟨G,G,(by rw[lG];exact hl),(λj h0 h1 h2=>UW G G hl (λj a b=>hM j G a b) (⟨λh=>(by cases h),λh=>absurd h G⟩) j G h2)⟩,G,KP⟩
 ·refine aU<|wq<|wm Z<|wn Z<|aQ [0] 99 cC Z ?_;refine⟨_,Z,?_⟩;obtain rfl:m=smL s:=bHq hl λj h0 h1=>hM j h0 G h1;exact⟨_,_,Z,Z⟩
theorem bDt (h0:0<=i) (hi:i<s.length) (h1:0<i) (h2:rdb (smL s) i=true) (h3: ¬rdb (smL s) (i-1)=true):gK s i=true:=by
 rw[nA h0 hi] at h2;rw[nA G G] at h3;exact nE.2 ⟨h1,h2,by simpa using h3⟩
theorem bJa (h0:0<=i) (hi:i<s.length) (h: ¬(0<i/\rdb (smL s) i=true/\ ¬rdb (smL s) (i-1)=true)): ¬gK s i=true:=λe=>by
 obtain⟨h1,h2,h3⟩:=nE.1 e;exact h ⟨h1,by rw[nA h0 hi];exact h2,by rw[nA G G,h3];simp⟩
theorem aWs (s:AH):NI s 1=[]:=by
 show NI s (0+1)=[];rw[FX G,bz (λh=>by have:=(nE.1 h).1;omega)];rfl
theorem aWt (h:i=s.length\/i=1/\s.length=0):NI s i=bQ s:=by
 rcases h with rfl|⟨rfl,h⟩
 ·exact NH
 ·rw[aWs,<-NH,h];rfl
theorem aBu (bb:Rd w cy ij cx 1 (ints .i64 s)) (hN:s.length<=1000000):
  CF 290 #[sl cy ij cx] w (λv R'=> ∃A c,v=sl A (bQ s).length c/\R'=[(ri 3 A ((bQ s).length) c (bQ s))]):=by
 obtain rfl:=bb.lenI;refine fn1 Tryz.func290 Z Z Z ?_;have yp:=bb.max;refine wq<|wn Z<|wq<|dB (R1:=[(ri 3 none 0 0 ([]))]) (Sub.refl _) (λ_ h=>h.nil 3 1)<|wn Z<|wq<|wm Z<|wa (aD bFz Z (Ct.fresh (λw hw=>YY ((bb.c _) w hw) cE))) ?_;rintro _ _⟨_,rfl,bm,bl,rfl,rfl⟩;refine wn Z<|aC<|wq<|wm Z<|wy (aN aa Z)<|wm Z<|aA<|aH ?_;refine fK (λ(A1:AF) (n1:Nat) (c1:Nat) (acc:AH) (i:Int)=>[(3,sl A1 n1 c1),(4,sl bm s.length bl),(9,I (s.length:Int)),(10,I i)]) (λA1 n1 c1 acc i=>[⟨4,1,bm,s.length,bl,bools (smL s),false⟩,(ri 3 A1 n1 c1 acc)]) (λA1 n1 c1 acc i=>(n1=acc.length)/\(0<=i)/\(i<=s.length)/\(acc=NI s i)) (λA1 n1 c1 acc i=>(s.length-i).toNat) ?_ ?_
 ·exact⟨none,0,0,[],0,⟨(Z),G,G,(Z)⟩,KP⟩
 intro A1 n1 c1 acc i ⟨cv,aw,ia,ba⟩;refine wq<|wL Z Z<|aA<|aC<|bA Z (λaq=> ?_) (λaq=> ?_)
 ·refine aI<|aC<|aH<|wq<|wm Z<|wn Z<|wq<|wm Z<|wy (dE Z Z)<|wm Z<|cK 5 [(3,sl A1 n1 c1),(4,sl bm s.length bl),(5,I i),(9,I (s.length:Int)),(10,I i),(20, .bool (decide ((0<i)/\(rdb (smL s) i=true))))] [⟨4,1,bm,s.length,bl,bools (smL s),false⟩,(ri 3 A1 n1 c1 acc)] ?_ ?_
  ·refine bR 15 Z (λbp=> ?_) (λbp=> ?_)
   ·refine aB Z Z<|wm Z<|aB Z Z<|wm Z<|aB Z Z<|wy (aG ng sz4 Z Z (rdr 0 Z))<|aB Z Z<|wy (AR Ah Z Z (rdr 0 Z))<|wy (aT Z Z)<|aA ?_;exact KP
   ·refine aM Z Z Z Z<|aM Z Z Z Z<|aM Z Z Z Z<|aM Z Z Z Z<|wy (aO Z Z)<|aA ?_;exact KP
  refine wm Z<|cK 7 [(3,sl A1 n1 c1),(4,sl bm s.length bl),(5,I i),(9,I (s.length:Int)),(10,I i),(28, .bool (decide (((0<i)/\(rdb (smL s) i=true))/\(¬(rdb (smL s) (i-1)=true)))))] [⟨4,1,bm,s.length,bl,bools (smL s),false⟩,(ri 3 A1 n1 c1 acc)] ?_ ?_
  ·refine bR 21 Z (λew=> ?_) (λew=> ?_)
   ·refine aB Z Z<|wm Z<|aB Z Z<|wm Z<|aB Z Z<|wS Z Z<|aB Z Z<|wy (aG ng sz4 Z Z (rdr 0 Z))<|aB Z Z<|wy (AR Ah Z Z (rdr 0 Z))<|aB Z Z<|wy (EQ Z)<|wy (aT Z Z)<|aA ?_;exact KP
   ·refine aM Z Z Z Z<|aM Z Z Z Z<|aM Z Z Z Z<|aM Z Z Z Z<|aM Z Z Z Z<|aM Z Z Z Z<|wy (aO Z Z)<|aA ?_;exact KP
  refine aA<|bA Z (λkd=> ?_) (λkd=> ?_)
  ·refine aL<|wm Z<|wm Z<|wa (bH .i64 [i] aa zs3 Z Z Z) ?_;rintro _ _⟨kx,rfl,rfl⟩;refine wa (aS 2 Z aa zb3 Z Z Z (rdr 0 Z) (by have:=bq List.length ba;have:=aBr (s:=s) i;omega)) ?_;rintro _ _⟨dy,jt,rfl,rfl⟩;refine bF (v:=sl dy (n1+1) jt) Z<|wn Z<|aL<|wA Z Z<|wm Z<|aA ?_;exact⟨dy,n1+1,jt,acc++([i]),i+1,⟨(by rw[ah,cv];try rfl),G,G,(by rw[FX G,df (bDt G G kd.1.1 kd.1.2 kd.2),ba])⟩,G,SA,λ_ h=>h.sel [1,2] cC Z⟩
  ·refine aI<|aL<|wA Z Z<|wm Z<|aA ?_;exact⟨A1,n1,c1,acc,i+1,⟨(cv),G,G,(by rw[FX G,bz (bJa G G (λh=>kd ⟨⟨h.1,h.2.1⟩,h.2.2⟩)),jk,ba])⟩,G,KP⟩
 ·refine aU<|wq<|wm Z<|wn Z<|aQ [1] 99 cC Z ?_;refine⟨_,Z,?_⟩;rw[aWt G] at ba;subst ba;obtain rfl:=cv;exact⟨_,_,Z,Z⟩
variable {w:World} {ke rh ap:AF} {ot kf b5 rm ar ao:Nat} {a rk u:AH} {i:Int}
theorem oP (da:Rd w ke ot kf 1 (ints .i64 a)) (hp:a.Perm (iota a.length)) (hN:a.length<=1000000):
  CF 150 #[sl ke ot kf] w (λv R'=> ∃(V:AH) (A:AF) (c:Nat),v= .tuple #[sl A a.length c,bt]/\bFb a V/\R'=[(ri 3 A a.length c V)]):=by
 obtain rfl:=da.lenI;refine fn2 Tryz.func150 Z Z Z ?_;have i6:=da.max;refine wq<|wg Z<|wn Z<|wq<|wm Z<|wy (aN aa Z)<|wa (dD aa zb3 Z Z) ?_;rintro _ _⟨am,rfl,rfl⟩;refine bF (v:=sl (GG am) a.length a.length) Z<|wn Z<|wq<|wm Z<|wy (aN aa Z)<|wa (KA ng zb4 Z Z G G G) ?_;rintro _ _⟨bx,rfl,rfl⟩;refine bF (v:=sl (GG bx) a.length a.length) Z<|wn Z<|aC<|wq<|wm Z<|wy (aN aa Z)<|wm Z<|aA<|aH ?_;refine fA (λ(q:Int) (V:AH) (Bs:List Bool)=>[(0,sl ke a.length kf),(4,sl (GG am) a.length a.length),(5,sl (GG bx) a.length a.length),(14,sl ke a.length kf),(15,I (a.length:Int)),(16,I q)]) (λq V Bs=>[⟨4,1,(GG bx),a.length,a.length,bools Bs,false⟩,(ri 3 (GG am) a.length a.length V)]) (λq V Bs=>(0<=q)/\(q<=a.length)/\(PN a V Bs q)) (λq V Bs=>(a.length-q).toNat) ?_ ?_
 ·exact⟨0,List.replicate a.length (0:Int),List.replicate a.length false,⟨G,G,(aPd)⟩,KP⟩
 intro q V Bs ⟨kj,yi,hI⟩;have ld:=hI.len;have hBl:=hI.blen;refine wq<|wL Z Z<|aA<|aC<|bA Z (λaq=> ?_) (λaq=> ?_)
 ·have Fk:=hI.fresh hp kj G;refine aI<|aC<|aH<|wq<|wm Z<|wy (aG aa sz3 Z Z (da.c _))<|wy (aR ai Z Z (da.c _))<|wg Z<|wn Z<|aC<|wq<|wm Z ?_;refine wL Z Z<|wm Z<|cK 5 [(0,sl ke a.length kf),(4,sl (GG am) a.length a.length),(5,sl (GG bx) a.length a.length),(6,I q),(7,I (rd a q)),(14,sl ke a.length kf),(15,I (a.length:Int)),(16,I q),(28, .bool (decide (((rd a q)<0)\/((a.length:Int)<=(rd a q)))))] [⟨4,1,(GG bx),a.length,a.length,bools Bs,false⟩,(ri 3 (GG am) a.length a.length V)] ?_ ?_
  ·refine bR 23 Z (λbp=> ?_) (λbp=> ?_)
   ·refine aM Z Z Z Z<|aM Z Z Z Z<|aM Z Z Z Z<|aM Z Z Z Z<|wy (aT Z Z)<|aA ?_;exact KP
   ·refine aB Z Z<|wm Z<|aB Z Z<|wm Z<|aB Z Z<|wy (aN aa Z)<|aB Z Z<|wy (iA Z Z)<|wy (aO Z Z)<|aA ?_;exact KP
  refine oL 28 Z G<|wm Z<|aB Z Z<|wm Z<|aB Z Z<|wm Z<|aB Z Z<|wy (aG ng sz4 Z Z (rdr 0 Z))<|aB Z Z<|wy (Yl.f (AR Ah Z Z (rdr 0 Z)) (Fk.2))<|wy (aO Z Z)<|aA<|aJ Z<|aI<|aL ?_;refine wm Z<|wm Z<|wm Z<|wm Z<|wm Z<|wy (aG aa sz3 Z Z (rdr 1 Z))<|bV (bD 1 Z sz3 Z Z) ?_;rintro _ _ rfl;refine wy (aG ng sz4 Z Z (rdr 0 Z))<|bV (tJ 0 Z sz4 Z Z) ?_;rintro _ _ rfl;refine aA<|aL<|wA Z Z<|wm Z<|aA ?_;exact⟨q+1,upd V (rd a q) q,pU Bs (rd a q) true,⟨G,G,(hI.step hp kj G)⟩,G,KP⟩
 ·refine aU<|wq<|wm Z<|wg Z<|wn Z<|aQ [1] 99 cC Z ?_;refine⟨_,_,Z,Z,?_⟩;have e:q=a.length:=G
  rw[e] at hI;exact⟨V,_,_,Z,hI.all,Z⟩
theorem aWf (da:Rd w ke ot kf 1 (ints .i64 a)) (hp:a.Perm (iota a.length)) (hN:a.length<=1000000):
  CF 197 #[sl ke ot kf] w (λv R'=>v=bt):=by
 obtain rfl:=da.lenI;refine fn1 Tryz.func197 Z Z Z ?_;have i6:=da.max;refine wq<|wn Z<|wq<|wm Z<|wa (aD NS Z (Ct.fresh (λw hw=>oP ((da.c _) w hw) cE cE))) ?_;rintro _ _⟨_,rfl,R1,bm,bl,rfl,vn,rfl⟩;refine wm Z<|wX Z Z<|wX Z Z<|wg Z<|wn Z<|wq<|wm Z<|wn Z<|aQ [] 99 cC Z ?_;refine⟨_,Z,?_⟩;rfl
theorem IL (ob:Rd w rh b5 rm 1 (ints .i64 rk)) (hi:0<=i/\i<rk.length):
  CF 223 #[sl rh b5 rm,I i] w (λv R'=>v=I (bhF rk i)):=by
 obtain rfl:=ob.lenI;refine fn1 Tryz.func223 Z Z Z ?_;have Pv:=ob.max;refine wq<|wn Z<|aC<|wq<|wm Z<|wA Z Z<|wm Z<|wy (aN aa Z)<|wy (dR Z Z)<|aA<|bA Z (λaq=> ?_) (λaq=> ?_)
 ·refine wq<|wn Z<|bS ?_;refine⟨_,Z,?_⟩;exact bq (Value.int .i64) (by unfold bhF;rw[df aq])
 ·refine aI<|wq<|wm Z<|wm Z<|wA Z Z<|wy (aG aa sz3 Z Z (ob.c _))<|wy (aR ai Z Z (ob.c _))<|wn Z<|bS ?_;refine⟨_,Z,?_⟩;exact bq (Value.int .i64) (by unfold bhF;rw[bz aq])
theorem VT (ac:Rd w ap ar ao 1 (ints .u8 u)) (da:Rd w ke ot kf 1 (ints .i64 a)) (ob:Rd w rh b5 rm 1 (ints .i64 rk)) (hO:mD u a rk) (hN:u.length<=1000000):
  CF 151 #[sl ap ar ao,sl ke ot kf,sl rh b5 rm] w (λv R'=>v=bt):=by
 obtain rfl:=ac.lenI;obtain rfl:=da.lenI;obtain rfl:=ob.lenI;refine fn1 Tryz.func151 Z Z Z ?_;have li:=ac.max;have i6:=da.max;have Pv:=ob.max;refine wq<|wn Z<|aC<|wq<|wn Z<|aH ?_;refine fM (λ(i:Int)=>[(0,sl ap u.length ao),(1,sl ke a.length kf),(2,sl rh rk.length rm),(7,I i)]) (λi=>[]) (λi=>(1<=i)/\(i<=a.length\/i=1)) (λi=>(a.length+1-i).toNat) ?_ ?_
 ·exact⟨1,⟨G,G⟩,KP⟩
 intro i ⟨ia,Ly⟩;have qk:=hO.alen;have Kv:=hO.len;refine aC<|wq<|wm Z<|wm Z<|wy (aN aa Z)<|wL Z Z<|aA<|bA Z (λaq=> ?_) (λaq=> ?_)
 ·have hx:=hO.ain (r:=i-1) G G;have hy:=hO.ain (r:=i) G G;have mn:=hO.nofall ia G;refine aI<|aC<|aH<|aC<|bI mixed<|wD 0 Z (aK Z)<|wD 1 Z (aK Z)<|wD 2 Z (gZ Z Z)<|wD 3 Z (aG aa sz3 Z Z (da.c _))<|wD 4 Z (aR ai Z Z (da.c _))<|wD 5 Z (aK Z)<|wD 6 Z (aK Z)<|wD 7 Z (aG aa sz3 Z Z (da.c _))<|wD 8 Z (aR ai Z Z (da.c _))<|wD 9 Z (bC Z) ?_;refine wD 10 Z (bC Z)<|wN ?_;refine lM [(0,sl ap u.length ao),(1,sl ke a.length kf),(2,sl rh rk.length rm),(7,I i),(53, .bool (decide (((rd u (rd a i))<(rd u (rd a (i-1))))\/(((rd u (rd a (i-1)))=(rd u (rd a i)))/\((bhF rk (rd a i))<(bhF rk (rd a (i-1))))))))] [] ?_ ?_
  ·refine bI mixed<|wD 0 Z (aK Z)<|wD 1 Z (aK Z)<|wD 2 Z (aG af sz5 Z Z (ac.c _))<|wD 3 Z (aR ay Z Z (ac.c _))<|wD 4 Z (aK Z)<|wD 5 Z (aK Z)<|wD 6 Z (aG af sz5 Z Z (ac.c _))<|wD 7 Z (aR ay Z Z (ac.c _))<|wD 8 Z (dE Z Z)<|wD 9 Z (aK Z)<|iL 34 Z (λbp=> ?_) (λbp=> ?_)
   ·refine wO 10 Z Z Z<|wO 11 Z Z Z<|wO 12 Z Z Z<|wO 13 Z Z Z<|wO 14 Z Z Z<|wO 15 Z Z Z<|wO 16 Z Z Z<|wO 17 Z Z Z<|wO 18 Z Z Z<|wO 19 Z Z Z<|eO 20 Z cA Z Z Z<|eO 21 Z cA Z Z Z<|eO 22 Z cA Z Z Z<|eO 23 Z cA Z Z Z<|eO 24 Z cA Z Z Z ?_;refine eO 25 Z cA Z Z Z<|eO 26 Z cA Z Z Z<|wO 27 Z Z Z<|wD 28 Z (aT Z Z)<|wN ?_;exact KP
   ·refine wG 10 Z Z Z (aK Z)<|wG 11 Z Z Z (aK Z)<|wG 12 Z Z Z (aG af sz5 Z Z (ac.c _))<|wG 13 Z Z Z (aR ay Z Z (ac.c _))<|wG 14 Z Z Z (aK Z)<|wG 15 Z Z Z (aK Z)<|wG 16 Z Z Z (aG af sz5 Z Z (ac.c _))<|wG 17 Z Z Z (aR ay Z Z (ac.c _))<|wG 18 Z Z Z (dR Z Z)<|wG 19 Z Z Z (aK Z)<|iL 44 Z (λew=> ?_) (λew=> ?_)
    ·refine wG 20 Z Z Z (aK Z)<|wG 21 Z Z Z (aK Z)<|wG 23 Z Z Z (aK Z)<|wG 24 Z Z Z (aK Z)<|GN 22 Z cA Z Z Z (aD bGh Z (Ct.quiet (λw hw=>IL ((ob.c _) w hw) G))) ?_;rintro _ _⟨rfl,rfl⟩;refine⟨.inr hiZ,?_⟩;refine GN 25 Z cA Z Z Z (aD bGh Z (Ct.quiet (λw hw=>IL ((ob.c _) w hw) G))) ?_;rintro _ _⟨rfl,rfl⟩;refine⟨.inr hiZ,?_⟩;refine wG 26 Z Z Z (dE Z Z)<|wG 27 Z Z Z (aT Z Z)<|wD 28 Z (aO Z Z)<|wN ?_;exact KP
    ·refine wO 20 Z Z Z<|wO 21 Z Z Z<|wO 22 Z Z Z<|wO 23 Z Z Z<|wO 24 Z Z Z<|wO 25 Z Z Z<|wO 26 Z Z Z<|wG 27 Z Z Z (aO Z Z)<|wD 28 Z (aO Z Z)<|wN ?_;exact KP
  refine bA Z (λkd=> ?_) (λkd=> ?_)
  ·refine wq<|wn Z<|bS ?_;refine⟨_,Z,?_⟩;exact absurd cF mn
  ·refine aI<|aL<|wm Z<|wA Z Z<|wn Z ?_;exact⟨i+1,⟨G,G⟩,G,KP⟩
 ·refine aU<|wq<|wn Z<|bS ?_;refine⟨_,Z,?_⟩;rfl
theorem aFo (ac:Rd w ap ar ao 1 (ints .u8 u)) (da:Rd w ke ot kf 1 (ints .i64 a)) (ob:Rd w rh b5 rm 1 (ints .i64 rk)) (hO:mD u a rk) (hN:u.length<=1000000):
  CF 152 #[sl ap ar ao,sl ke ot kf,sl rh b5 rm] w (λv R'=> ∃A c,v=sl A (a.length) c/\R'=[(ri 3 A a.length c (zR u a))]):=by
 obtain rfl:=ac.lenI;obtain rfl:=da.lenI;obtain rfl:=ob.lenI;refine fn1 Tryz.func152 Z Z Z ?_;have li:=ac.max;have i6:=da.max;have Pv:=ob.max;have qk:=hO.alen;have Kv:=hO.len;refine wq<|wn Z<|wq<|wm Z<|wy (aN aa Z)<|wa (dD aa zb3 Z Z) ?_;rintro _ _⟨am,rfl,rfl⟩;refine bF (v:=sl (GG am) a.length a.length) Z<|wn Z<|wq<|wn Z<|aC<|wq<|wm Z<|wy (aN aa Z)<|wm Z<|aA<|aH ?_;refine fA (λ(i:Int) (n:Int) (V:AH)=>[(0,sl ap u.length ao),(1,sl ke a.length kf),(7,sl (GG am) a.length a.length),(8,I n),(15,sl rh rk.length rm),(16,I (rk.length:Int)),(17,I i)]) (λi n V=>[(ri 3 (GG am) a.length a.length V)]) (λi n V=>(0<=i)/\(i<=rk.length)/\(QL u a rk V i n)) (λi n V=>(rk.length-i).toNat) ?_ ?_
 ·exact⟨0,0,List.replicate a.length (0:Int),⟨G,G,(by rw[qk];exact aOy)⟩,KP⟩
 intro i n V ⟨aw,ia,hK⟩;have ld:=hK.len;have hKn:=hK.n0;refine wq<|wL Z Z<|aA<|aC<|bA Z (λaq=> ?_) (λaq=> ?_)
 ·have hri:=(hO.at_ aw G).1;refine aI<|aC<|aH<|wq<|wm Z<|wy (aG aa sz3 Z Z (ob.c _))<|wy (aR ai Z Z (ob.c _))<|wg Z<|wn Z<|aC<|wq<|wm Z ?_;refine wy (dR Z Z)<|aA<|bA Z (λbp=> ?_) (λbp=> ?_)
  ·refine wq<|wn Z<|aU<|aL<|wA Z Z<|wm Z<|aA ?_;exact⟨i+1,0,V,⟨G,G,(hK.skip hO aw G bp)⟩,G,KP⟩
  ·have hj:=hO.ain (r:=rd rk i-1) G G;have hcb:=OA (s:=u) (i:=i) (j:=rd a (rd rk i-1)) aw G hj.1 G;refine aI<|wq<|wm Z<|wm Z<|wS Z Z<|wy (aG aa sz3 Z Z (da.c _))<|wy (aR ai Z Z (da.c _))<|wn Z<|aC<|aH ?_;refine fM (λ(m:Int)=>[(0,sl ap u.length ao),(1,sl ke a.length kf),(7,sl (GG am) a.length a.length),(8,I m),(9,I i),(10,I (rd rk i)),(11,I (rd a ((rd rk i)-1))),(15,sl rh rk.length rm),(16,I (rk.length:Int)),(17,I i)]) (λm=>[(ri 3 (GG am) a.length a.length V)]) (λm=>(0<=m)/\(m.toNat<=com u i (rd a (rd rk i-1)))) (λm=>(u.length-m).toNat) ?_ ?_
   ·exact⟨n,⟨G,(hK.nl G G)⟩,KP⟩
   intro m ⟨px,Tm⟩;have Nm:m<=u.length:=G
   refine aC ?_;refine lM [(0,sl ap u.length ao),(1,sl ke a.length kf),(7,sl (GG am) a.length a.length),(8,I m),(9,I i),(10,I (rd rk i)),(11,I (rd a ((rd rk i)-1))),(15,sl rh rk.length rm),(16,I (rk.length:Int)),(17,I i),(51, .bool (decide ((((max i (rd a ((rd rk i)-1)))+m)<(u.length:Int))/\((rd u (i+m))=(rd u ((rd a ((rd rk i)-1))+m))))))] [(ri 3 (GG am) a.length a.length V)] ?_ ?_
   ·refine bI mixed<|wD 0 Z (aK Z)<|wD 1 Z (aK Z)<|wD 2 Z (KE Z Z)<|wD 3 Z (aK Z)<|wD 4 Z (bX Z Z)<|wD 5 Z (aK Z)<|wD 6 Z (aN af Z)<|wD 7 Z (eD Z Z)<|wD 8 Z (aK Z)<|iL 37 Z (λew=> ?_) (λew=> ?_)
    ·refine wG 9 Z Z Z (aK Z)<|wG 10 Z Z Z (aK Z)<|wG 11 Z Z Z (aK Z)<|wG 12 Z Z Z (bX Z Z)<|wG 13 Z Z Z (aG af sz5 Z Z (ac.c _))<|wG 14 Z Z Z (aR ay Z Z (ac.c _))<|wG 15 Z Z Z (aK Z)<|wG 16 Z Z Z (aK Z)<|wG 17 Z Z Z (aK Z)<|wG 18 Z Z Z (bX Z Z)<|wG 19 Z Z Z (aG af sz5 Z Z (ac.c _))<|wG 20 Z Z Z (aR ay Z Z (ac.c _))<|wG 21 Z Z Z (dR Z Z)<|wD 22 Z (aT Z Z)<|wN ?_;exact KP
    ·refine wO 9 Z Z Z<|wO 10 Z Z Z<|wO 11 Z Z Z<|wO 12 Z Z Z<|wO 13 Z Z Z<|wO 14 Z Z Z<|wO 15 Z Z Z<|wO 16 Z Z Z<|wO 17 Z Z Z<|wO 18 Z Z Z<|wO 19 Z Z Z<|wO 20 Z Z Z<|wO 21 Z Z Z<|wD 22 Z (aO Z Z)<|wN ?_;exact KP
   refine bA Z (λkd=> ?_) (λkd=> ?_)
   ·refine aI<|aH<|aL<|wm Z<|wA Z Z<|wn Z ?_;exact⟨m+1,⟨G,(aYw aw hj.1 px Tm cF)⟩,G,KP⟩
   ·have hme:=aCz aw hj.1 px Tm cF;refine aU<|wq<|wm Z<|wm Z<|wm Z<|wy (aG aa sz3 Z Z (rdr 0 Z))<|bV (bD 0 Z sz3 Z Z) ?_;rintro _ _ rfl;refine aA<|aL<|wm Z<|wS Z Z<|wy (KE Z Z)<|wn Z<|aL<|wA Z Z<|wm Z<|aA ?_;exact⟨i+1,max (m-1) 0,upd V (rd rk i) m,⟨G,G,(hK.put hO aw G bp hme)⟩,G,KP⟩
 ·refine aU<|wq<|wm Z<|wn Z<|aQ [0] 99 cC Z ?_;refine⟨_,Z,?_⟩;have e:i=u.length:=G
  rw[e] at hK;obtain rfl:=hK.done hO;exact⟨_,_,Z,Z⟩
theorem aBe (ac:Rd w ap ar ao 1 (ints .u8 u)) (da:Rd w ke ot kf 1 (ints .i64 a)) (pt:a.Perm (iota u.length)) (has:a.Pairwise (bU u)) (hN:u.length<=1000000):
  CF 85 #[sl ap ar ao,sl ke ot kf] w (λv R'=> ∃A c,v= .tuple #[sl A a.length c,bt]/\R'=[(ri 3 A a.length c (zR u a))]):=by
 obtain rfl:=ac.lenI;obtain rfl:=da.lenI;refine fn2 Tryz.func85 Z Z Z ?_;have li:=ac.max;have i6:=da.max;have qk:a.length=u.length:=by rw[pt.length_eq,bB]
 refine wq<|wg Z<|wn Z<|wq<|wm Z<|wa (aD NS Z (Ct.fresh (λw hw=>oP ((da.c _) w hw) (xW pt) G))) ?_;rintro _ _⟨_,rfl,R1,bm,bl,rfl,vn,rfl⟩;refine wm Z<|wX Z Z<|wX Z Z<|wg Z<|wn Z<|aC<|wq<|wm Z<|wy (dI Z)<|wm Z<|aB Z Z<|wm Z<|aB Z Z ?_;refine wy (aN aa Z)<|aB Z Z<|wm Z<|aB Z Z<|wy (aN af Z)<|aB Z Z<|wy (Yl.f (fE Z Z))<|wy (aO Z Z)<|aA<|aJ Z<|aI<|aC<|wq<|wm Z ?_;refine wm Z<|wm Z<|wa (aD bOt Z (Ct.quiet (λw hw=>VT ((ac.c _) w hw) ((da.c _) w hw) ((rdr 0 Z) w hw) (vn.ord pt has) hN))) ?_;rintro _ _⟨rfl,rfl⟩;refine fH 27 Z (trivial)<|aA<|bE Z<|wq<|wm Z<|wm Z<|wm Z<|wa (aD bOs Z (Ct.fresh (λw hw=>aFo ((ac.c _) w hw) ((da.c _) w hw) ((rdr 0 Z) w hw) (vn.ord pt has) hN))) ?_;rintro _ _⟨_,rfl,iu,js,rfl,rfl⟩;refine wg Z<|wn Z<|aQ [0] 99 cC Z ?_;refine⟨_,_,Z,Z,?_⟩;exact⟨_,_,Z,Z⟩
theorem NP (ac:Rd w ap ar ao 1 (ints .u8 u)):
  CF 224 #[sl ap ar ao,I i] w (λv R'=>v= .bool (decide (0<=i/\i<=u.length))):=by
 obtain rfl:=ac.lenI;refine fn1 Tryz.func224 Z Z Z ?_;have li:=ac.max;refine wq<|wn Z<|wq<|wm Z<|wy (iA Z Z)<|wm Z<|cK 5 [(12, .bool (decide ((0<=i)/\(i<=(u.length:Int)))))] [] ?_ ?_
 ·refine bR 7 Z (λaq=> ?_) (λaq=> ?_)
  ·refine aB Z Z<|wm Z<|aB Z Z<|wm Z<|aB Z Z<|wy (aN af Z)<|aB Z Z<|wy (qK Z Z)<|wy (aT Z Z)<|aA ?_;exact KP
  ·refine aM Z Z Z Z<|aM Z Z Z Z<|aM Z Z Z Z<|aM Z Z Z Z<|wy (aO Z Z)<|aA ?_;exact KP
 refine wn Z<|bS ?_;refine⟨_,Z,?_⟩;rfl
theorem aHi {j:Int} (ac:Rd w ap ar ao 1 (ints .u8 u)) (oa:(0<=i/\i<=u.length)/\(0<=j/\j<=u.length)) (hN:u.length<=1000000):
  CF 153 #[sl ap ar ao,I i,I j] w (λv R'=>v=I (com u i j:Int)):=by
 obtain rfl:=ac.lenI;refine fn1 Tryz.func153 Z Z Z ?_;have li:=ac.max;have hcb:=OA (s:=u) oa.1.1 oa.1.2 oa.2.1 oa.2.2;refine wq<|wn Z<|aC<|wq<|wm Z<|wm Z<|wa (aD bGg Z (Ct.quiet (λw hw=>NP ((ac.c _) w hw)))) ?_;rintro _ _⟨rfl,rfl⟩;refine fH 10 Z G<|wy (dI Z)<|wm Z<|aB Z Z<|wm Z<|aB Z Z<|wm Z<|aB Z Z<|wa (aD bGg Z (Ct.quiet (λw hw=>NP ((ac.c _) w hw)))) ?_;rintro _ _⟨rfl,rfl⟩;refine fH 15 Z G<|aB Z Z<|wy (dI Z)<|wy (aO Z Z)<|aA<|aJ Z<|aI<|wq<|wn Z<|aC<|aH ?_;refine fM (λ(m:Int)=>[(0,sl ap u.length ao),(1,I i),(2,I j),(7,I m)]) (λm=>[]) (λm=>(0<=m)/\(m.toNat<=com u i j)) (λm=>(u.length-m).toNat) ?_ ?_
 ·exact⟨0,⟨G,(qp _)⟩,KP⟩
 intro m ⟨px,Tm⟩;have Nm:m<=u.length:=G
 refine aC ?_;refine lM [(0,sl ap u.length ao),(1,I i),(2,I j),(7,I m),(40, .bool (decide ((((max i j)+m)<(u.length:Int))/\((rd u (i+m))=(rd u (j+m))))))] [] ?_ ?_
 ·refine bI mixed<|wD 0 Z (aK Z)<|wD 1 Z (aK Z)<|wD 2 Z (KE Z Z)<|wD 3 Z (aK Z)<|wD 4 Z (bX Z Z)<|wD 5 Z (aK Z)<|wD 6 Z (aN af Z)<|wD 7 Z (eD Z Z)<|wD 8 Z (aK Z)<|iL 26 Z (λaq=> ?_) (λaq=> ?_)
  ·refine wG 9 Z Z Z (aK Z)<|wG 10 Z Z Z (aK Z)<|wG 11 Z Z Z (aK Z)<|wG 12 Z Z Z (bX Z Z)<|wG 13 Z Z Z (aG af sz5 Z Z (ac.c _))<|wG 14 Z Z Z (aR ay Z Z (ac.c _))<|wG 15 Z Z Z (aK Z)<|wG 16 Z Z Z (aK Z)<|wG 17 Z Z Z (aK Z)<|wG 18 Z Z Z (bX Z Z)<|wG 19 Z Z Z (aG af sz5 Z Z (ac.c _))<|wG 20 Z Z Z (aR ay Z Z (ac.c _))<|wG 21 Z Z Z (dR Z Z)<|wD 22 Z (aT Z Z)<|wN ?_;exact KP
  ·refine wO 9 Z Z Z<|wO 10 Z Z Z<|wO 11 Z Z Z<|wO 12 Z Z Z<|wO 13 Z Z Z<|wO 14 Z Z Z<|wO 15 Z Z Z<|wO 16 Z Z Z<|wO 17 Z Z Z<|wO 18 Z Z Z<|wO 19 Z Z Z<|wO 20 Z Z Z<|wO 21 Z Z Z<|wD 22 Z (aO Z Z)<|wN ?_;exact KP
 refine bA Z (λbp=> ?_) (λbp=> ?_)
 ·refine aI<|aH<|aL<|wm Z<|wA Z Z<|wn Z ?_;exact⟨m+1,⟨G,(aYw oa.1.1 oa.2.1 px Tm cF)⟩,G,KP⟩
 ·refine aU<|wq<|wm Z<|wn Z<|bS ?_;refine⟨_,Z,?_⟩;exact bq (Value.int .i64) (aCz oa.1.1 oa.2.1 px Tm cF)
theorem aIk (da:Rd w ke ot kf 1 (ints .i64 a)) (hp:a.Perm (iota a.length)) (hN:a.length<=1000000):
  CF 225 #[sl ke ot kf] w (λv R'=> ∃(V:AH) (A:AF) (c:Nat),v= .tuple #[sl A a.length c,bt]/\AhF a V/\R'=[(ri 3 A a.length c V)]):=by
 obtain rfl:=da.lenI;refine fn2 Tryz.func225 Z Z Z ?_;have i6:=da.max;refine wq<|wg Z<|wn Z<|aC<|wq<|wm Z<|wa (aD aXu Z (Ct.quiet (λw hw=>aWf ((da.c _) w hw) cE cE))) ?_;rintro _ _⟨rfl,rfl⟩;refine fH 9 Z (trivial)<|wy (dI Z)<|aA<|aJ Z<|aI<|wq<|wm Z<|wy (aN aa Z)<|wa (dD aa zb3 Z Z) ?_;rintro _ _⟨am,rfl,rfl⟩;refine bF (v:=sl (GG am) a.length a.length) Z<|wn Z<|wq<|wn Z<|aC<|wq<|wm Z<|wy (aN aa Z)<|wm Z<|aA<|aH ?_;refine fA (λ(q:Int) (l:Int) (V:AH)=>[(4,sl (GG am) a.length a.length),(5,I l),(14,sl ke a.length kf),(15,I (a.length:Int)),(16,I q)]) (λq l V=>[(ri 3 (GG am) a.length a.length V)]) (λq l V=>(0<=q)/\(q<=a.length)/\(AhI a V q l)) (λq l V=>(a.length-q).toNat) ?_ ?_
 ·exact⟨0,-1,List.replicate a.length (0:Int),⟨G,G,(aZz)⟩,KP⟩
 intro q l V ⟨kj,yi,hI⟩;have ld:=hI.len;refine wq<|wL Z Z<|aA<|aC<|bA Z (λaq=> ?_) (λaq=> ?_)
 ·have cj:=aZ.1 (hp.subset (bJ (L:=a) kj G));refine aI<|aC<|aH<|wq<|wy (aG aa sz3 Z Z (da.c _))<|wy (aR ai Z Z (da.c _))<|wn Z<|aL<|wm Z<|wm Z<|wm Z<|wm Z<|wy (aG aa sz3 Z Z (rdr 0 Z)) ?_;refine bV (bD 0 Z sz3 Z Z) ?_;rintro _ _ rfl;refine wn Z<|aL<|wA Z Z<|wm Z<|aA ?_;exact⟨q+1,rd a q,upd V (rd a q) l,⟨G,G,(hI.step hp kj G)⟩,G,KP⟩
 ·refine aU<|wq<|wm Z<|wg Z<|wn Z<|aQ [0] 99 cC Z ?_;refine⟨_,_,Z,Z,?_⟩;have e:q=a.length:=G
  rw[e] at hI;exact⟨V,_,_,Z,hI.done,Z⟩
theorem aGv (ac:Rd w ap ar ao 1 (ints .u8 u)) (da:Rd w ke ot kf 1 (ints .i64 a)) (pt:a.Perm (iota u.length)) (has:a.Pairwise (bU u)) (hN:u.length<=1000000):
  CF 226 #[sl ap ar ao,sl ke ot kf] w (λv R'=>v=bt):=by
 obtain rfl:=ac.lenI;obtain rfl:=da.lenI;refine fn1 Tryz.func226 Z Z Z ?_;have li:=ac.max;have i6:=da.max;have qk:a.length=u.length:=by rw[pt.length_eq,bB]
 refine wq<|wn Z<|wq<|wm Z<|wa (aD NS Z (Ct.fresh (λw hw=>oP ((da.c _) w hw) (xW pt) G))) ?_;rintro _ _⟨_,rfl,R1,bm,bl,rfl,vn,rfl⟩;refine wm Z<|wX Z Z<|wX Z Z<|wg Z<|wn Z<|wq<|wm Z<|wa (bH .i64 [-1] aa zs3 Z Z Z) ?_;rintro _ _⟨fb,rfl,rfl⟩;refine wa (aS 1 Z aa zb3 Z Z Z (rdr 0 Z)) ?_;rintro _ _⟨ef,kc,rfl,rfl⟩;refine bF (v:=sl ef (a.length+1) kc) Z<|wn Z<|aC<|wq<|wm Z<|wy (aN aa Z)<|wm Z<|aA<|aH ?_;refine fM (λ(i:Int)=>[(0,sl ap u.length ao),(1,sl ke a.length kf),(5,sl ef (a.length+1) kc),(18,sl ke a.length kf),(19,I (a.length:Int)),(20,I i)]) (λi=>[(ri 3 (GG fb) 1 1 ([-1])),(ri 3 ef (a.length+1) kc (R1++([-1])))]) (λi=>(0<=i)/\(i<=a.length\/i=0)) (λi=>(a.length+1-i).toNat) ?_ ?_
 ·exact⟨0,⟨G,G⟩,KP⟩
 intro i ⟨ia,Ly⟩;have hO:=vn.ord pt has;have Kv:=hO.len;have Mh:(R1++[-1]).length=u.length+1:=by rw[ah,Kv];rfl
 refine wq<|wL Z Z<|aA<|aC<|bA Z (λaq=> ?_) (λaq=> ?_)
 ·refine aI<|aC<|aH<|wq<|wm Z<|wy (aG aa sz3 Z Z (da.c _))<|wy (aR ai Z Z (da.c _))<|wg Z<|wn Z<|aC<|wq<|wm Z ?_;refine wy (dR Z Z)<|aA<|bA Z (λbp=> ?_) (λbp=> ?_)
  ·refine aU<|aL<|wA Z Z<|wm Z<|aA ?_;exact⟨i+1,⟨G,G⟩,G,KP⟩
  ·have hx:=hO.ain (r:=i-1) G G;have hy:=hO.ain (r:=i) G G;have mn:=hO.nofall (r:=i) G G;rw[<-JY hx.1 G,<-JY hy.1 G] at mn;refine aI<|wq<|wm Z<|wm Z<|wS Z Z<|wy (aG aa sz3 Z Z (da.c _))<|wy (aR ai Z Z (da.c _))<|wn Z ?_;refine lM [(0,sl ap u.length ao),(1,sl ke a.length kf),(5,sl ef (a.length+1) kc),(18,sl ke a.length kf),(19,I (a.length:Int)),(20,I i),(64, .bool (decide (((rd u (rd a i))<(rd u (rd a (i-1))))\/(((rd u (rd a (i-1)))=(rd u (rd a i)))/\((rd (R1++([-1])) ((rd a i)+1))<(rd (R1++([-1])) ((rd a (i-1))+1)))))))] [(ri 3 (GG fb) 1 1 ([-1])),(ri 3 ef (a.length+1) kc (R1++([-1])))] ?_ ?_
   ·refine bI mixed<|wD 0 Z (aK Z)<|wD 1 Z (aK Z)<|wD 2 Z (aG af sz5 Z Z (ac.c _))<|wD 3 Z (aR ay Z Z (ac.c _))<|wD 4 Z (aK Z)<|wD 5 Z (aK Z)<|wD 6 Z (aG af sz5 Z Z (ac.c _))<|wD 7 Z (aR ay Z Z (ac.c _))<|wD 8 Z (dE Z Z)<|wD 9 Z (aK Z)<|iL 41 Z (λew=> ?_) (λew=> ?_)
    ·refine wO 10 Z Z Z<|wO 11 Z Z Z<|wO 12 Z Z Z<|wO 13 Z Z Z<|wO 14 Z Z Z<|wO 15 Z Z Z<|wO 16 Z Z Z<|wO 17 Z Z Z<|wO 18 Z Z Z<|wO 19 Z Z Z<|eO 20 Z cA Z Z Z<|eO 21 Z cA Z Z Z<|eO 22 Z cA Z Z Z<|eO 23 Z cA Z Z Z<|eO 24 Z cA Z Z Z ?_;refine eO 25 Z cA Z Z Z<|eO 26 Z cA Z Z Z<|eO 27 Z cA Z Z Z<|eO 28 Z cA Z Z Z<|eO 29 Z cA Z Z Z<|eO 30 Z cA Z Z Z<|wO 31 Z Z Z<|wD 32 Z (aT Z Z)<|wN ?_;exact KP
    ·refine wG 10 Z Z Z (aK Z)<|wG 11 Z Z Z (aK Z)<|wG 12 Z Z Z (aG af sz5 Z Z (ac.c _))<|wG 13 Z Z Z (aR ay Z Z (ac.c _))<|wG 14 Z Z Z (aK Z)<|wG 15 Z Z Z (aK Z)<|wG 16 Z Z Z (aG af sz5 Z Z (ac.c _))<|wG 17 Z Z Z (aR ay Z Z (ac.c _))<|wG 18 Z Z Z (dR Z Z)<|wG 19 Z Z Z (aK Z)<|iL 51 Z (λkd=> ?_) (λkd=> ?_)
     ·refine wG 20 Z Z Z (aK Z)<|wG 21 Z Z Z (aK Z)<|wG 22 Z Z Z (bX Z Z)<|wG 23 Z Z Z (aG aa sz3 Z Z (rdr 1 Z))<|wG 24 Z Z Z (aR ai Z Z (rdr 1 Z))<|wG 25 Z Z Z (aK Z)<|wG 26 Z Z Z (aK Z)<|wG 27 Z Z Z (bX Z Z)<|wG 28 Z Z Z (aG aa sz3 Z Z (rdr 1 Z))<|wG 29 Z Z Z (aR ai Z Z (rdr 1 Z))<|wG 30 Z Z Z (dE Z Z)<|wG 31 Z Z Z (aT Z Z)<|wD 32 Z (aO Z Z)<|wN ?_;exact KP
     ·refine wO 20 Z Z Z<|wO 21 Z Z Z<|wO 22 Z Z Z<|wO 23 Z Z Z<|wO 24 Z Z Z<|wO 25 Z Z Z<|wO 26 Z Z Z<|wO 27 Z Z Z<|wO 28 Z Z Z<|wO 29 Z Z Z<|wO 30 Z Z Z<|wG 31 Z Z Z (aO Z Z)<|wD 32 Z (aO Z Z)<|wN ?_;exact KP
   refine bA Z (λme=> ?_) (λme=> ?_)
   ·refine wq<|wn Z<|aQ [] 99 cC Z ?_;refine⟨_,Z,?_⟩;exact absurd cF mn
   ·refine aI<|aL<|wA Z Z<|wm Z<|aA ?_;exact⟨i+1,⟨G,G⟩,G,KP⟩
 ·refine aU<|wq<|wn Z<|aQ [] 99 cC Z ?_;refine⟨_,Z,?_⟩;rfl
theorem aOa {rk:AH} (ac:Rd w ap ar ao 1 (ints .u8 u)) (da:Rd w ke ot kf 1 (ints .i64 a)) (pt:a.Perm (iota u.length)) (has:a.Pairwise (bU u)) (hN:u.length<=1000000) (hO:mD u a rk):
  CF 154 #[sl ap ar ao,sl ke ot kf] w (λv R'=> ∃(V rk:AH) (A:AF) (c:Nat),v= .tuple #[sl A a.length c,bt]/\(mD u a rk/\V=yQ u a rk)/\R'=[(ri 3 A a.length c V)]):=by
 obtain rfl:=ac.lenI;obtain rfl:=da.lenI;refine fn2 Tryz.func154 Z Z Z ?_;have li:=ac.max;have i6:=da.max;have qk:a.length=u.length:=by rw[pt.length_eq,bB]
 refine wq<|wg Z<|wn Z<|wq<|wm Z<|wa (aD bNm Z (Ct.fresh (λw hw=>aIk ((da.c _) w hw) (xW pt) G))) ?_;rintro _ _⟨_,rfl,H1,bm,bl,rfl,Ry,rfl⟩;refine wm Z<|wX Z Z<|wX Z Z<|wg Z<|wn Z<|aC<|wq<|wm Z<|wy (dI Z)<|wm Z<|aB Z Z<|wm Z<|aB Z Z ?_;refine wy (aN aa Z)<|aB Z Z<|wm Z<|aB Z Z<|wy (aN af Z)<|aB Z Z<|wy (Yl.f (fE Z Z))<|wy (aO Z Z)<|aA<|aJ Z<|aI<|wq<|wm Z<|wm Z ?_;refine wa (aD bNl Z (Ct.quiet (λw hw=>aGv ((ac.c _) w hw) ((da.c _) w hw) pt has hN))) ?_;rintro _ _⟨rfl,rfl⟩;refine fH 29 Z (trivial)<|wn Z<|wq<|wm Z<|wy (aN aa Z)<|wa (dD aa zb3 Z Z) ?_;rintro _ _⟨fb,rfl,rfl⟩;refine bF (v:=sl (GG fb) a.length a.length) Z<|wn Z<|wq<|wn Z<|aC<|wq<|wm Z<|wy (aN aa Z)<|wm Z<|aA<|aH ?_;refine fA (λ(i:Int) (n:Int) (V:AH)=>[(0,sl ap u.length ao),(8,bt),(9,sl (GG fb) a.length a.length),(10,I n),(33,sl bm a.length bl),(34,I (a.length:Int)),(35,I i)]) (λi n V=>[(ri 3 (GG fb) a.length a.length V),(ri 3 bm a.length bl H1)]) (λi n V=>(0<=i)/\(i<=u.length)/\(n<=u.length)/\(PlI u a rk V i n)) (λi n V=>(u.length-i).toNat) ?_ ?_
 ·exact⟨0,0,List.replicate a.length (0:Int),⟨G,G,G,(by rw[qk];exact aUm)⟩,KP⟩
 intro i n V ⟨aw,ia,cv,hK⟩;have ld:=hK.len;have hKn:=hK.n0;refine wq<|wL Z Z<|aA<|aC<|bA Z (λaq=> ?_) (λaq=> ?_)
 ·have rg:=Ry.at_ hO aw (show i<u.length by omega);have hri:=hO.at_ aw (show i<u.length by omega);refine aI<|aC<|aH<|wq<|wm Z<|wy (aG aa sz3 Z Z (rdr 1 Z))<|wy (aR ai Z Z (rdr 1 Z))<|wg Z<|wn Z<|wq<|wm Z<|wS Z Z ?_;refine wy (KE Z Z)<|wn Z<|aC<|aH<|wq<|wm Z<|wy (dR Z Z)<|wn Z<|bA Z (λbp=> ?_) (λbp=> ?_)
  ·have hz:rd rk i=0:=by
    rcases bn 0 (rd rk i) with g|g
    ·rw [bz G] at rg;have:=hO.ain (r:=rd rk i-1) G G;omega
    ·omega
   refine aL<|wn Z<|aL<|wm Z<|wm Z<|wm Z<|wy (aG aa sz3 Z Z (rdr 0 Z))<|bV (bD 0 Z sz3 Z Z) ?_;rintro _ _ rfl;refine aA<|aL<|wA Z Z<|wm Z<|aA ?_;exact⟨i+1,0,upd V i 0,⟨G,G,G,(hK.zero aw G hz)⟩,G,KP⟩
  ·have hnz:rd rk i≠0:=λg=>by rw[df g] at rg;exact bp rg
   rw[bz hnz] at rg;have hmo:=hK.more hO aw (show i<u.length by omega) hnz rg;have hjn:=hO.ain (r:=rd rk i-1) G G;rw[<-rg] at hjn;have hcb:=OA (s:=u) (i:=i) (j:=rd H1 i) aw G hjn.1 G;have hcb2:=OA (s:=u) (i:=i+max (n-1) 0) (j:=rd H1 i+max (n-1) 0) G G G G;refine wq<|wm Z<|wn Z<|bE Z<|aL<|wm Z<|wm Z<|wm Z<|wm Z<|wA Z Z<|wm Z<|wm Z<|wA Z Z ?_;refine wa (aD bOr Z (Ct.quiet (λw hw=>aHi ((ac.c _) w hw) G hN))) ?_;rintro _ _⟨rfl,rfl⟩;refine wA Z Z<|wn Z<|aL<|wm Z<|wm Z<|wm Z<|wy (aG aa sz3 Z Z (rdr 0 Z))<|bV (bD 0 Z sz3 Z Z) ?_;rintro _ _ rfl;refine aA<|aL<|wA Z Z<|wm Z<|aA ?_;exact⟨i+1,(max (n-1) 0)+(com u (i+(max (n-1) 0)) ((rd H1 i)+(max (n-1) 0)):Int),upd V i ((max (n-1) 0)+(com u (i+(max (n-1) 0)) ((rd H1 i)+(max (n-1) 0)):Int)),⟨G,G,G,(hmo.2)⟩,G,KP⟩
 ·refine aU<|wq<|wm Z<|wg Z<|wn Z<|aQ [0] 99 cC Z ?_;refine⟨_,_,Z,Z,?_⟩;have e:i=u.length:=G
  rw[e] at hK;exact⟨V,rk,_,_,Z,⟨hO,hK.done⟩,Z⟩
theorem aAo (pt:a.Perm (iota u.length)) (has:a.Pairwise (bU u)): ∃rk,mD u a rk:=by
 have hl:a.length=u.length:=by rw[pt.length_eq,bB]
 have hnd:a.Nodup:=pt.symm.nodup (eH _);have cj: ∀r:Int,0<=r->r<u.length->0<=rd a r/\rd a r<u.length:=λr h0 h1=>aZ.1 (pt.subset (bJ h0 G));refine⟨(List.range u.length).map λi:Nat=>(((List.range u.length).findIdx λr:Nat=>decide (rd a r=i):Nat):Int),pt,has,cD,λr r0 hr=> ?_⟩;have hi:=cj r r0 hr;rw[gY hi.1 G]
 have e:(List.range u.length).findIdx (λq:Nat=>decide (rd a q=((rd a r).toNat:Int)))=r.toNat:=by
  have bc:r.toNat<(List.range u.length).length:=by rw[Dm];omega
  refine(List.findIdx_eq bc).2 ⟨?_,λq hq=> ?_⟩
  ·simp only[Cr,yx];rw[show(r.toNat:Int)=r by omega];omega
  ·simp only[Cr,sj];intro g;have:=jT hnd (i:=(q:Int)) (j:=r) G G r0 G G;omega
 rw[e];omega
theorem aVu (ac:Rd w ap ar ao 1 (ints .u8 u)) (da:Rd w ke ot kf 1 (ints .i64 a)) (pt:a.Perm (iota u.length)) (has:a.Pairwise (bU u)) (hN:u.length<=1000000):
  CF 86 #[sl ap ar ao,sl ke ot kf] w (λv R'=> ∃A c,v= .tuple #[sl A a.length c,bt]/\R'=[(ri 3 A a.length c (zR u a))]):=by
 obtain rfl:=ac.lenI;obtain rfl:=da.lenI;refine fn2 Tryz.func86 Z Z Z ?_;have li:=ac.max;have i6:=da.max;have qk:a.length=u.length:=by rw[pt.length_eq,bB]
 obtain⟨rk,hO⟩:=aAo pt has;refine wq<|wg Z<|wn Z<|wq<|wm Z<|wm Z<|wa (aD bOq Z (Ct.fresh (λw hw=>aOa ((ac.c _) w hw) ((da.c _) w hw) pt has hN hO))) ?_;rintro _ _⟨_,rfl,P1,rk1,bm,bl,rfl,⟨hOk,hP1⟩,rfl⟩;refine wm Z<|wX Z Z<|wX Z Z<|wg Z<|wn Z<|aC<|wq<|wm Z<|wy (dI Z)<|aA<|aJ Z<|aI<|aC ?_;refine aL<|wm Z<|wy (aN aa Z)<|wa (dD aa zb3 Z Z) ?_;rintro _ _⟨fb,rfl,rfl⟩;refine bF (v:=sl (GG fb) a.length a.length) Z<|wn Z<|aC<|wq<|wm Z<|wy (aN aa Z)<|wm Z<|aA<|aH ?_;refine dM (λ(i:Int) (V:AH)=>[(6,sl bm a.length bl),(8,sl (GG fb) a.length a.length),(22,sl ke a.length kf),(23,I (a.length:Int)),(24,I i)]) (λi V=>[(ri 3 (GG fb) a.length a.length V),(ri 3 bm a.length bl P1)]) (λi V=>(0<=i)/\(i<=a.length)/\(V.length=a.length)/\(∀j:Int,0<=j->j<i->rd V j=rd P1 (rd a j))) (λi V=>(a.length-i).toNat) ?_ ?_
 ·exact⟨0,List.replicate a.length (0:Int),⟨G,G,(by rw[bu]),(λj h1 h2=>G)⟩,KP⟩
 intro i V ⟨aw,ia,ld,hV⟩;refine wq<|wL Z Z<|aA<|aC<|bA Z (λaq=> ?_) (λaq=> ?_)
 ·have cj:=hO.ain aw (show i<u.length by omega);have hPl:P1.length=u.length:=by rw[hP1,SH]
  refine aI<|aC<|aH<|wq<|wm Z<|wy (aG aa sz3 Z Z (da.c _))<|wy (aR ai Z Z (da.c _))<|wg Z<|wn Z<|aL<|wm Z<|wm Z<|wm Z ?_;refine wm Z<|wy (aG aa sz3 Z Z (rdr 1 Z))<|wy (aR ai Z Z (rdr 1 Z))<|wy (aG aa sz3 Z Z (rdr 0 Z))<|bV (bD 0 Z sz3 Z Z) ?_;rintro _ _ rfl;refine aA<|aL<|wA Z Z<|wm Z<|aA ?_;exact⟨i+1,upd V i (rd P1 (rd a i)),⟨G,G,(by rw[aY];exact ld),(eP (f:=λj=>rd P1 (rd a j)) aw G hV Z)⟩,G,KP⟩
 ·refine aU<|wq<|wm Z<|wg Z<|wn Z<|aQ [0] 99 cC Z ?_;refine⟨_,_,Z,Z,?_⟩;obtain rfl:V=zR u a:=bIw hOk ld (λp h1 h2=>by rw[hV p h1 G,hP1]);exact⟨_,_,Z,Z⟩
theorem bBg (ac:Rd w ap ar ao 1 (ints .u8 u)) (da:Rd w ke ot kf 1 (ints .i64 a)) (pt:a.Perm (iota u.length)) (has:a.Pairwise (bU u)) (hN:u.length<=1000000):
  CF 155 #[sl ap ar ao,sl ke ot kf] w (λv R'=>v=bt):=by
 obtain rfl:=ac.lenI;obtain rfl:=da.lenI;refine fn1 Tryz.func155 Z Z Z ?_;have li:=ac.max;have i6:=da.max;have qk:a.length=u.length:=by rw[pt.length_eq,bB]
 refine wq<|wn Z<|wq<|wm Z<|wa (aD NS Z (Ct.fresh (λw hw=>oP ((da.c _) w hw) (xW pt) G))) ?_;rintro _ _⟨_,rfl,R1,bm,bl,rfl,vn,rfl⟩;refine wm Z<|wX Z Z<|wX Z Z<|wg Z<|wn Z<|aC<|wq<|wm Z<|wy (dI Z)<|wm Z<|aB Z Z<|wm Z<|aB Z Z ?_;refine wy (aN aa Z)<|aB Z Z<|wm Z<|aB Z Z<|wy (aN af Z)<|aB Z Z<|wy (Yl.f (fE Z Z))<|wy (aO Z Z)<|aA<|aJ Z<|aI<|wq<|wm Z<|wa (bH .i64 [-1] aa zs3 Z Z Z) ?_;rintro _ _⟨fb,rfl,rfl⟩;refine wa (aS 1 Z aa zb3 Z Z Z (rdr 0 Z)) ?_;rintro _ _⟨ef,kc,rfl,rfl⟩;refine bF (v:=sl ef (a.length+1) kc) Z<|wn Z<|aC<|wq<|wn Z<|aH ?_;refine fM (λ(i:Int)=>[(0,sl ap u.length ao),(1,sl ke a.length kf),(5,sl ef (a.length+1) kc),(7,I i)]) (λi=>[(ri 3 (GG fb) 1 1 ([-1])),(ri 3 ef (a.length+1) kc (R1++([-1])))]) (λi=>(1<=i)/\(i<=a.length\/i=1)) (λi=>(a.length+1-i).toNat) ?_ ?_
 ·exact⟨1,⟨G,G⟩,KP⟩
 intro i ⟨ia,Ly⟩;have hO:=vn.ord pt has;have Kv:=hO.len;have Mh:(R1++[-1]).length=u.length+1:=by rw[ah,Kv];rfl
 refine aC<|wq<|wm Z<|wm Z<|wy (aN aa Z)<|wL Z Z<|aA<|bA Z (λaq=> ?_) (λaq=> ?_)
 ·have hx:=hO.ain (r:=i-1) G G;have hy:=hO.ain (r:=i) G G;have mn:=hO.nofall (r:=i) G G;rw[<-JY hx.1 G,<-JY hy.1 G] at mn;refine aI<|aC<|aH<|aC<|bI mixed<|wD 0 Z (aK Z)<|wD 1 Z (aK Z)<|wD 2 Z (gZ Z Z)<|wD 3 Z (aG aa sz3 Z Z (da.c _))<|wD 4 Z (aR ai Z Z (da.c _))<|wD 5 Z (aK Z)<|wD 6 Z (aK Z)<|wD 7 Z (aG aa sz3 Z Z (da.c _))<|wD 8 Z (aR ai Z Z (da.c _))<|wD 9 Z (bC Z) ?_;refine wD 10 Z (bC Z)<|wN ?_;refine lM [(0,sl ap u.length ao),(1,sl ke a.length kf),(5,sl ef (a.length+1) kc),(7,I i),(74, .bool (decide (((rd u (rd a i))<(rd u (rd a (i-1))))\/(((rd u (rd a (i-1)))=(rd u (rd a i)))/\((rd (R1++([-1])) ((rd a i)+1))<(rd (R1++([-1])) ((rd a (i-1))+1)))))))] [(ri 3 (GG fb) 1 1 ([-1])),(ri 3 ef (a.length+1) kc (R1++([-1])))] ?_ ?_
  ·refine bI mixed<|wD 0 Z (aK Z)<|wD 1 Z (aK Z)<|wD 2 Z (aG af sz5 Z Z (ac.c _))<|wD 3 Z (aR ay Z Z (ac.c _))<|wD 4 Z (aK Z)<|wD 5 Z (aK Z)<|wD 6 Z (aG af sz5 Z Z (ac.c _))<|wD 7 Z (aR ay Z Z (ac.c _))<|wD 8 Z (dE Z Z)<|wD 9 Z (aK Z)<|iL 51 Z (λbp=> ?_) (λbp=> ?_)
   ·refine wO 10 Z Z Z<|wO 11 Z Z Z<|wO 12 Z Z Z<|wO 13 Z Z Z<|wO 14 Z Z Z<|wO 15 Z Z Z<|wO 16 Z Z Z<|wO 17 Z Z Z<|wO 18 Z Z Z<|wO 19 Z Z Z<|eO 20 Z cA Z Z Z<|eO 21 Z cA Z Z Z<|eO 22 Z cA Z Z Z<|eO 23 Z cA Z Z Z<|eO 24 Z cA Z Z Z ?_;refine eO 25 Z cA Z Z Z<|eO 26 Z cA Z Z Z<|eO 27 Z cA Z Z Z<|eO 28 Z cA Z Z Z<|eO 29 Z cA Z Z Z<|eO 30 Z cA Z Z Z<|wO 31 Z Z Z<|wD 32 Z (aT Z Z)<|wN ?_;exact KP
   ·refine wG 10 Z Z Z (aK Z)<|wG 11 Z Z Z (aK Z)<|wG 12 Z Z Z (aG af sz5 Z Z (ac.c _))<|wG 13 Z Z Z (aR ay Z Z (ac.c _))<|wG 14 Z Z Z (aK Z)<|wG 15 Z Z Z (aK Z)<|wG 16 Z Z Z (aG af sz5 Z Z (ac.c _))<|wG 17 Z Z Z (aR ay Z Z (ac.c _))<|wG 18 Z Z Z (dR Z Z)<|wG 19 Z Z Z (aK Z)<|iL 61 Z (λew=> ?_) (λew=> ?_)
    ·refine wG 20 Z Z Z (aK Z)<|wG 21 Z Z Z (aK Z)<|wG 22 Z Z Z (bX Z Z)<|wG 23 Z Z Z (aG aa sz3 Z Z (rdr 1 Z))<|wG 24 Z Z Z (aR ai Z Z (rdr 1 Z))<|wG 25 Z Z Z (aK Z)<|wG 26 Z Z Z (aK Z)<|wG 27 Z Z Z (bX Z Z)<|wG 28 Z Z Z (aG aa sz3 Z Z (rdr 1 Z))<|wG 29 Z Z Z (aR ai Z Z (rdr 1 Z))<|wG 30 Z Z Z (dE Z Z)<|wG 31 Z Z Z (aT Z Z)<|wD 32 Z (aO Z Z)<|wN ?_;exact KP
    ·refine wO 20 Z Z Z<|wO 21 Z Z Z<|wO 22 Z Z Z<|wO 23 Z Z Z<|wO 24 Z Z Z<|wO 25 Z Z Z<|wO 26 Z Z Z<|wO 27 Z Z Z<|wO 28 Z Z Z<|wO 29 Z Z Z<|wO 30 Z Z Z<|wG 31 Z Z Z (aO Z Z)<|wD 32 Z (aO Z Z)<|wN ?_;exact KP
  refine bA Z (λkd=> ?_) (λkd=> ?_)
  ·refine wq<|wn Z<|aQ [] 99 cC Z ?_;refine⟨_,Z,?_⟩;exact absurd cF mn
  ·refine aI<|aL<|wm Z<|wA Z Z<|wn Z ?_;exact⟨i+1,⟨G,G⟩,G,KP⟩
 ·refine aU<|wq<|wn Z<|aQ [] 99 cC Z ?_;refine⟨_,Z,?_⟩;rfl
theorem aVt {A_h:AF} {n_h c_h:Nat} {h:AH} (ac:Rd w ap ar ao 1 (ints .u8 u)) (da:Rd w ke ot kf 1 (ints .i64 a)) (Qa:Rd w A_h n_h c_h 1 (ints .i64 h)) (pt:a.Perm (iota u.length)) (has:a.Pairwise (bU u)) (hN:u.length<=1000000) (hh:h=zR u a):
  CF 88 #[sl ap ar ao,sl ke ot kf,sl A_h n_h c_h] w (λv R'=>v=bt):=by
 obtain rfl:=ac.lenI;obtain rfl:=da.lenI;obtain rfl:=Qa.lenI;refine fn1 Tryz.func88 Z Z Z ?_;have li:=ac.max;have i6:=da.max;have m_h:=Qa.max;have qk:a.length=u.length:=by rw[pt.length_eq,bB]
 refine wq<|wn Z<|wq<|wm Z<|wm Z<|wa (aD bLm Z (Ct.fresh (λw hw=>aBe ((ac.c _) w hw) ((da.c _) w hw) pt has hN))) ?_;rintro _ _⟨_,rfl,bm,bl,rfl,rfl⟩;refine wm Z<|wX Z Z<|wX Z Z<|wg Z<|wn Z<|wq<|wm Z<|wm Z<|wa (aD bOp Z (Ct.quiet (λw hw=>bBg ((ac.c _) w hw) ((da.c _) w hw) pt has hN))) ?_;rintro _ _⟨rfl,rfl⟩;refine fH 17 Z (trivial)<|wm Z<|aB Z Z<|wm Z<|aB Z Z<|wm Z<|aB Z Z<|wa (aD aPz Z (Ct.quiet (λw hw=>qG ((rdr 0 Z) w hw) ((Qa.c _) w hw) (by rw[CZ];omega)))) ?_;rintro _ _⟨rfl,rfl⟩;refine fH 21 Z (hh.symm)<|wy (aT Z Z)<|wn Z<|aQ [] 99 cC Z ?_;refine⟨_,Z,?_⟩;rfl
theorem aPs {cs V:AH} {i:Int} (h0:0<=i) (hi:i<cs.length) (hl:V.length=cs.length) (hV: ∀j:Int,0<=j->j<cs.length->rd V j=if j<i then ps cs (j+1) else ps cs j):
  ∀j:Int,0<=j->j<cs.length->rd (upd V i (rd V i+rd cs i)) j=if j<i+1 then ps cs (j+1) else ps cs j:=by
 intro j j0 j1;have e1:rd (upd V i (rd V i+rd cs i)) j=if j=i then rd V i+rd cs i else rd V j:=gG h0 j0 G
 have e2:=hV i h0 hi;rw[bz G] at e2;rw[e1,e2,hV j j0 j1];by_cases e:j=i
 ·subst e;rw[df rfl,df G,lN h0 hi]
 ·rw [bz e];by_cases h:j<i
  ·rw[df h,df G]
  ·rw[bz h,bz G]
theorem aLj {s:AH} {k:Int} (hk:0<=k) (hs: ∀x∈s,0<=x/\x<k):(eG s k).sum=s.length:=by
 have h:=OB (order:=iota s.length) (keys:=s) (k:=k) hk λi hi=>hs _ (bJ (aZ.1 hi).1 (aZ.1 hi).2);rwa[mG,bB] at h
theorem aPt {cs V:AH} (hl:V.length=cs.length) (hV: ∀j:Int,0<=j->j<cs.length->rd V j=if j<cs.length then ps cs (j+1) else ps cs j):V=rC cs:=
 bM (hl.trans (GA cs).symm) λj h1 h2=>by rw[LV h1 G,hV j h1 G,df G]
theorem aKw {B:Nat} {w0:World} {R:List Row} {xp:Nat} {cy vx n7 nj:AF} {cx wb o4 nv:Nat} {s:AH} {k:Int} (nf:RdC B w0 R (GG xp) 1 1 4 [sl cy s.length cx,sl vx s.length wb,sl n7 k.toNat o4,sl nj s.length nv]) (Ok:RdC B w0 R n7 k.toNat o4 1 (ints .i64 (eG s k))) (hk:0<=k/\k<=1048576) (hs: ∀x∈s,0<=x/\x<k) (hN:s.length<=1000000):
  CT 317 #[PG xp] B w0 (R) (λv R'=> ∃A c,v=sl A k.toNat c/\R'=(ri 3 A k.toNat c (rC (eG s k)))::R):=by
 refine fn1 Tryz.func317 Z Z Z ?_;have mj:(eG s k).length=k.toNat:=eB _ _;have Is:(eG s k).sum=s.length:=aLj G hs;have Lm:(dF (eG s k)).length=k.toNat:=by rw[fG,mj]
 refine wq<|wn Z<|wq<|wm Z<|wy (aF Z)<|wy (yF 2 2 oz dO Z)<|wy (fJ (RdC.right nf []) aa Z Z Z)<|wa (aD aLa Z (Ct.fresh (λw hw=>xO ((RdC.right Ok []) w hw) (mH _ _) (by rw[Is];omega) (by rw[mj];omega)))) ?_;rintro _ _⟨_,rfl,bm,bl,rfl,rfl⟩;refine wn Z<|aC<|wq<|wm Z<|wy (aF Z)<|wy (yF 2 2 oz dO Z)<|wy (fJ (RdC.right nf [_]) aa Z Z Z)<|wy (aN aa Z)<|wm Z<|aA<|aH ?_;refine dM (λ(i:Int) (V:AH)=>[(3,sl bm ((dF (eG s k)).length) bl),(14,sl n7 k.toNat o4),(15,I (k.toNat:Int)),(16,I i)]) (λi V=>((ri 3 bm ((dF (eG s k)).length) bl V)::R)) (λi V=>(0<=i)/\(i<=(eG s k).length)/\(V.length=(eG s k).length)/\(∀j:Int,0<=j->j<(eG s k).length->rd V j=if j<i then ps (eG s k) (j+1) else ps (eG s k) j)) (λi V=>((eG s k).length-i).toNat) ?_ ?_
 ·exact⟨0,dF (eG s k),⟨G,G,(by rw[fG]),(λj h1 h2=>by rw[bz G];exact nU h1 h2)⟩,KP⟩
 intro i V ⟨aw,ia,ld,hV⟩;refine wq<|wL Z Z<|aA<|aC<|bA Z (λaq=> ?_) (λaq=> ?_)
 ·have xt:=wF (mH s k) i;have i8:=wF (mH s k) (i+1);rw[Is] at xt i8;have hvi:=hV i aw G;rw[bz G] at hvi;have Mg:=lN (L:=eG s k) aw G;refine aI<|aC<|aH<|wq<|wm Z<|wy (aG aa sz3 Z Z (RdC.right Ok [_]))<|wy (aR ai Z Z (RdC.right Ok [_]))<|wg Z<|wn Z<|aL<|wm Z<|wm Z<|wy (aG aa sz3 Z Z (rdr 0 Z)) ?_;refine wy (aR ai Z Z (rdr 0 Z))<|wm Z<|wA Z Z<|wy (aG aa sz3 Z Z (rdr 0 Z))<|bV (bD 0 Z sz3 Z Z) ?_;rintro _ _ rfl;refine aA<|aL<|wA Z Z<|wm Z<|aA ?_;exact⟨i+1,upd V i ((rd V i)+(rd (eG s k) i)),⟨G,G,(by rw[aY];exact ld),(aPs aw G ld hV)⟩,G,KP⟩
 ·refine aU<|wq<|wm Z<|wn Z ?_;have Vo:k.toNat=(eG s k).length:=mj.symm;obtain rfl:V=rC (eG s k):=aPt ld λj h1 h2=>by rw[hV j h1 h2,df G,df G]
  refine bS ?_;rw[fG,mj];exact⟨_,Z,_,_,Z,Z⟩
theorem lgC {s D:AH} {i:Int} (Lw:rd D i= -1\/(0<=rd D i/\rd D i<s.length)):(0<rd D i/\ ¬rdb (smL s) (rd D i-1)=true)↔(0<rd D i/\smB s (rd D i-1)=false):=by
 constructor
 ·rintro ⟨h1,h2⟩;rw[nA G G] at h2;exact⟨h1,by simpa using h2⟩
 ·rintro ⟨h1,h2⟩;rw[nA G G,h2];exact⟨h1,cD⟩
theorem smC {s D:AH} {i:Int} (Lw:rd D i= -1\/(0<=rd D i/\rd D i<s.length)):(0<rd D i/\rdb (smL s) (rd D i-1)=true)↔(0<rd D i/\smB s (rd D i-1)=true):=by
 constructor
 ·rintro ⟨h1,h2⟩;rw[nA G G] at h2;exact⟨h1,h2⟩
 ·rintro ⟨h1,h2⟩;rw[nA G G,h2];exact⟨h1,Z⟩
section
variable {s l D H:AH} {k i:Int} (hk:0<=k) (hs: ∀x∈s,0<=x/\x<k) (hp:l.Perm (bQ s)) (hn:0<s.length)
include hk hs hp hn
theorem bJd (i0:0<=i) (hi:i<s.length) (hD:D=(itL s k l i.toNat).1) (hH:H=(itL s k l i.toNat).2):(rd D i= -1\/(0<=rd D i/\rd D i<s.length))/\(D.length=s.length/\H.length=k.toNat):=by
 have h:=fLe hk hs hp hn (i:=i.toNat) G hD hH;rwa[qf i0] at h
theorem fLZ (i0:0<=i) (hi:i<s.length) (hD:D=(itL s k l i.toNat).1) (hH:H=(itL s k l i.toNat).2) (hc:0<rd D i/\ ¬rdb (smL s) (rd D i-1)=true):
  rd D i<s.length/\(0<=rd s (rd D i-1)/\rd s (rd D i-1)<k)/\(0<=rd H (rd s (rd D i-1))/\rd H (rd s (rd D i-1))<s.length)/\upd D (rd H (rd s (rd D i-1))) (rd D i-1)=(itL s k l (i+1).toNat).1/\upd H (rd s (rd D i-1)) (rd H (rd s (rd D i-1))+1)=(itL s k l (i+1).toNat).2:=by
 have he:=(bJd hk hs hp hn i0 hi hD hH).1;have h:=fL hk hs hp hn (i:=i.toNat) G hD hH (by rw[qf i0];exact(lgC he).1 hc);rw[qf i0] at h;rwa[show(i+1).toNat=i.toNat+1 by omega]
theorem bQl (i0:0<=i) (hi:i<s.length) (hD:D=(itL s k l i.toNat).1) (hH:H=(itL s k l i.toNat).2) (hc: ¬(0<rd D i/\ ¬rdb (smL s) (rd D i-1)=true)):D=(itL s k l (i+1).toNat).1/\H=(itL s k l (i+1).toNat).2:=by
 have he:=(bJd hk hs hp hn i0 hi hD hH).1;have h:=fLs (i:=i.toNat) hD hH (by rw[qf i0];exact λh=>hc ((lgC he).2 h));rwa[show(i+1).toNat=i.toNat+1 by omega]
theorem bJc (i0:0<=i) (hi:i<s.length) (hD:D=(itS s k l (s.length-1-i).toNat).1) (hH:H=(itS s k l (s.length-1-i).toNat).2):(rd D i= -1\/(0<=rd D i/\rd D i<s.length))/\(D.length=s.length/\H.length=k.toNat):=
 fSe hk hs hp hn (m:=((s.length:Int)-1-i).toNat) G G hD hH
theorem fSZ (i0:0<=i) (hi:i<s.length) (hD:D=(itS s k l (s.length-1-i).toNat).1) (hH:H=(itS s k l (s.length-1-i).toNat).2) (hc:0<rd D i/\rdb (smL s) (rd D i-1)=true):
  rd D i<s.length/\(0<=rd s (rd D i-1)/\rd s (rd D i-1)<k)/\(0<=rd H (rd s (rd D i-1))-1/\rd H (rd s (rd D i-1))-1<s.length)/\upd D (rd H (rd s (rd D i-1))-1) (rd D i-1)=(itS s k l (s.length-1-(i-1)).toNat).1/\upd H (rd s (rd D i-1)) (rd H (rd s (rd D i-1))-1)=(itS s k l (s.length-1-(i-1)).toNat).2:=by
 have he:=(bJc hk hs hp hn i0 hi hD hH).1;have h:=fS hk hs hp hn (m:=((s.length:Int)-1-i).toNat) G G hD hH ((smC he).1 hc);rwa[show((s.length:Int)-1-(i-1)).toNat=((s.length:Int)-1-i).toNat+1 by omega]
theorem bQk (i0:0<=i) (hi:i<s.length) (hD:D=(itS s k l (s.length-1-i).toNat).1) (hH:H=(itS s k l (s.length-1-i).toNat).2) (hc: ¬(0<rd D i/\rdb (smL s) (rd D i-1)=true)):D=(itS s k l (s.length-1-(i-1)).toNat).1/\H=(itS s k l (s.length-1-(i-1)).toNat).2:=by
 have he:=(bJc hk hs hp hn i0 hi hD hH).1;have h:=fSs (m:=((s.length:Int)-1-i).toNat) (i:=i) G hD hH (λh=>hc ((smC he).2 h));rwa[show((s.length:Int)-1-(i-1)).toNat=((s.length:Int)-1-i).toNat+1 by omega]
end
theorem aVv {B:Nat} {w0:World} {R:List Row} {xp:Nat} {cy vx n7 nj:AF} {cx wb o4 nv:Nat} {s:AH} {k:Int} {Lc:AF} {Kd Lg:Nat} {row E:AH} {j:Int} (nf:RdC B w0 R (GG xp) 1 1 4 [sl cy s.length cx,sl vx s.length wb,sl n7 k.toNat o4,sl nj s.length nv]) (bb:RdC B w0 R cy s.length cx 1 (ints .i64 s)) (hk:0<=k/\k<=1048576) (hN:s.length<=1000000) (hj:0<=j/\j<s.length) (hc:0<=rd s j/\rd s j<k) (hl:row.length=s.length/\E.length=k.toNat/\Kd=k.toNat) (hv:0<=(rd E (rd s j))-1/\(rd E (rd s j))-1<s.length):
  CT 318 #[PG xp,sl Lc Kd Lg,I j] B w0 ((ri 3 nj s.length nv row)::(ri 3 Lc Kd Lg E)::R) (λv R'=>v= .tuple #[]/\R'=(ri 3 nj s.length nv (upd row ((rd E (rd s j))-1) j))::(ri 3 Lc Kd Lg (upd E (rd s j) ((rd E (rd s j))-1)))::R):=by
 refine fn0 Tryz.func318 Z Z Z ?_;obtain⟨zj,un,j4⟩:=hl;have he:rd (upd E (rd s j) ((rd E (rd s j))-1)) (rd s j)=(rd E (rd s j))-1:=eT hc.1 G;refine wq<|wm Z<|wm Z<|wy (aF Z)<|wy (yF 0 0 oz dO Z)<|wy (fJ (RdC.right nf [_,_]) aa Z Z Z)<|wm Z<|wy (aG aa sz3 Z Z (RdC.right bb [_,_]))<|wy (aR ai Z Z (RdC.right bb [_,_]))<|wy (aG aa sz3 Z Z (rdr 1 Z))<|wy (aR ai Z Z (rdr 1 Z))<|wS Z Z<|wy (aG aa sz3 Z Z (rdr 1 Z))<|bV (bD 1 Z sz3 Z Z) ?_;rintro _ _ rfl;refine jG (R1:=((ri 3 nj s.length nv row)::(ri 3 Lc Kd Lg (upd E (rd s j) ((rd E (rd s j))-1)))::R)) Z<|aA<|bI mixed<|wD 0 Z (aK Z)<|wD 1 Z (aF Z)<|wD 2 Z (yF 3 3 oz dO Z)<|wD 3 Z (fJ (RdC.right nf [_,_]) aa Z Z Z)<|wD 4 Z (aK Z)<|wD 5 Z (aK Z)<|wD 6 Z (aF Z)<|wD 7 Z (yF 0 0 oz dO Z)<|wD 8 Z (fJ (RdC.right nf [_,_]) aa Z Z Z)<|wD 9 Z (aK Z)<|wD 10 Z (aG aa sz3 Z Z (RdC.right bb [_,_]))<|wD 11 Z (aR ai Z Z (RdC.right bb [_,_])) ?_;refine wD 12 Z (aG aa sz3 Z Z (rdr 1 Z))<|wD 13 Z (aR ai Z Z (rdr 1 Z))<|wD 14 Z (aK Z)<|wD 15 Z (aG aa sz3 Z Z (rdr 0 Z))<|oU 16 Z cA (bD 0 Z sz3 Z Z) ?_;rintro _ _ rfl;refine⟨.inl cA,?_⟩;refine BA (R1:=((ri 3 nj s.length nv (upd row (rd (upd E (rd s j) ((rd E (rd s j))-1)) (rd s j)) j))::(ri 3 Lc Kd Lg (upd E (rd s j) ((rd E (rd s j))-1)))::R)) Z<|wN ?_;exact⟨Z,by rw[he]⟩
theorem aKh {B:Nat} {w0:World} {R:List Row} {xp:Nat} {cy vx n7 nj:AF} {cx wb o4 nv:Nat} {s:AH} {k:Int} {Lc:AF} {Kd Lg:Nat} {row E:AH} {j:Int} (nf:RdC B w0 R (GG xp) 1 1 4 [sl cy s.length cx,sl vx s.length wb,sl n7 k.toNat o4,sl nj s.length nv]) (bb:RdC B w0 R cy s.length cx 1 (ints .i64 s)) (hk:0<=k/\k<=1048576) (hN:s.length<=1000000) (hj:0<=j/\j<s.length) (hc:0<=rd s j/\rd s j<k) (hl:row.length=s.length/\E.length=k.toNat/\Kd=k.toNat) (hv:0<=rd E (rd s j)/\rd E (rd s j)<s.length):
  CT 347 #[PG xp,sl Lc Kd Lg,I j] B w0 ((ri 3 nj s.length nv row)::(ri 3 Lc Kd Lg E)::R) (λv R'=>v= .tuple #[]/\R'=(ri 3 nj s.length nv (upd row (rd E (rd s j)) j))::(ri 3 Lc Kd Lg (upd E (rd s j) ((rd E (rd s j))+1)))::R):=by
 refine fn0 Tryz.func347 Z Z Z ?_;obtain⟨zj,un,j4⟩:=hl;refine aC<|bI mixed<|wD 0 Z (aK Z)<|wD 1 Z (aF Z)<|wD 2 Z (yF 3 3 oz dO Z)<|wD 3 Z (fJ (RdC.right nf [_,_]) aa Z Z Z)<|wD 4 Z (aK Z)<|wD 5 Z (aK Z)<|wD 6 Z (aF Z)<|wD 7 Z (yF 0 0 oz dO Z)<|wD 8 Z (fJ (RdC.right nf [_,_]) aa Z Z Z)<|wD 9 Z (aK Z)<|wD 10 Z (aG aa sz3 Z Z (RdC.right bb [_,_]))<|wD 11 Z (aR ai Z Z (RdC.right bb [_,_]))<|wD 12 Z (aG aa sz3 Z Z (rdr 1 Z)) ?_;refine wD 13 Z (aR ai Z Z (rdr 1 Z))<|wD 14 Z (aK Z)<|wD 15 Z (aG aa sz3 Z Z (rdr 0 Z))<|oU 16 Z cA (bD 0 Z sz3 Z Z) ?_;rintro _ _ rfl;refine⟨.inl cA,?_⟩;refine wN<|aL<|wm Z<|wm Z<|wy (aF Z)<|wy (yF 0 0 oz dO Z)<|wy (fJ (RdC.right nf [_,_]) aa Z Z Z)<|wm Z<|wy (aG aa sz3 Z Z (RdC.right bb [_,_]))<|wy (aR ai Z Z (RdC.right bb [_,_]))<|wy (aG aa sz3 Z Z (rdr 1 Z))<|wy (aR ai Z Z (rdr 1 Z))<|wA Z Z<|wy (aG aa sz3 Z Z (rdr 1 Z))<|bV (bD 1 Z sz3 Z Z) ?_;rintro _ _ rfl;refine aA ?_;exact⟨Z,Z⟩
theorem aVw {B:Nat} {w0:World} {R:List Row} {xp:Nat} {cy vx n7 nj:AF} {cx wb o4 nv:Nat} {s l:AH} {k:Int} {row:AH} (nf:RdC B w0 R (GG xp) 1 1 4 [sl cy s.length cx,sl vx s.length wb,sl n7 k.toNat o4,sl nj s.length nv]) (bb:RdC B w0 R cy s.length cx 1 (ints .i64 s)) (xr:RdC B w0 R vx s.length wb 1 (bools (smL s))) (Ok:RdC B w0 R n7 k.toNat o4 1 (ints .i64 (eG s k))) (hk:0<=k/\k<=1048576) (hs: ∀x∈s,0<=x/\x<k) (hN:s.length<=1000000) (hp:l.Perm (bQ s)) (hn:0<s.length) (ie:row=(itF s k l).1):
  CT 319 #[PG xp] B w0 ((ri 3 nj s.length nv row)::R) (λv R'=>v= .tuple #[]/\R'=(ri 3 nj s.length nv ((itL s k l s.length).1))::R):=by
 refine fn0 Tryz.func319 Z Z Z ?_;have mj:(eG s k).length=k.toNat:=eB _ _;have Is:(eG s k).sum=s.length:=aLj hk.1 hs;have Lm:(dF (eG s k)).length=k.toNat:=by rw[fG,mj]
 obtain⟨f1,f2,f3,f4,f5,f6⟩:=fL0 hk.1 hs hp hn ie (rfl:dF (eG s k)=_);refine wq<|wm Z<|wy (aF Z)<|wy (yF 2 2 oz dO Z)<|wy (fJ (RdC.right nf [_]) aa Z Z Z)<|wa (aD aLa Z (Ct.fresh (λw hw=>xO ((RdC.right Ok [_]) w hw) (mH _ _) (by rw[Is];omega) (by rw[mj];omega)))) ?_;rintro _ _⟨_,rfl,bm,bl,rfl,rfl⟩;refine wn Z<|wq<|wm Z<|wm Z<|wm Z<|wy (aF Z)<|wy (yF 0 0 oz dO Z)<|wy (fJ (RdC.right nf [_,_]) aa Z Z Z)<|wy (aN aa Z)<|wS Z Z<|dB (R1:=((ri 3 nj s.length nv row)::(ri 3 bm ((dF (eG s k)).length) bl (dF (eG s k)))::R)) (Sub.refl _) (λ_ h=>h.selR (F:=[_,_]) (F':=[_,_]) [1,0] cC Z)<|wa (aD bFt Z (aKh (row:=row) (E:=(dF (eG s k))) (j:=((s.length:Int)-1)) (RdC.right nf []) (RdC.right bb []) hk hN ⟨G,G⟩ f1 ⟨f3.1,f3.2,by rw[fG,mj]⟩ f2)) ?_;rintro _ _⟨rfl,rfl⟩;refine aA<|wq<|wm Z<|wy (aF Z)<|wy (yF 3 3 oz dO Z)<|wy (fJ (RdC.right nf [_,_]) aa Z Z Z)<|wy (aN aa Z)<|wm Z<|aA<|aH ?_;refine fA (λ(i:Int) (D:AH) (H:AH)=>[(0,PG xp),(2,sl bm ((dF (eG s k)).length) bl),(23,I (s.length:Int)),(24,I i)]) (λi D H=>((ri 3 nj s.length nv D)::(ri 3 bm ((dF (eG s k)).length) bl H)::R)) (λi D H=>(0<=i)/\(i<=s.length)/\(D=(itL s k l i.toNat).1)/\(H=(itL s k l i.toNat).2)) (λi D H=>(s.length-i).toNat) ?_ ?_
 ·exact⟨0,upd row (rd (dF (eG s k)) (rd s ((s.length:Int)-1))) ((s.length:Int)-1),upd (dF (eG s k)) (rd s ((s.length:Int)-1)) ((rd (dF (eG s k)) (rd s ((s.length:Int)-1)))+1),⟨G,G,(f4),(f5)⟩,KP⟩
 intro i D H ⟨aw,ia,hD,hH⟩;refine wq<|wL Z Z<|aA<|aC<|bA Z (λaq=> ?_) (λaq=> ?_)
 ·have hf:=bJd hk.1 hs hp hn aw G hD hH;have Vl:=hf.1;refine aI<|aC<|aH<|wq<|wm Z<|wn Z<|wq<|wm Z<|wy (aF Z)<|wy (yF 3 3 oz dO Z)<|wy (fJ (RdC.right nf [_,_]) aa Z Z Z)<|wm Z ?_;refine wy (aG aa sz3 Z Z (rdr 0 Z))<|wy (aR ai Z Z (rdr 0 Z))<|wn Z<|wq<|wm Z<|wy (dE Z Z)<|wm Z<|cK 10 [(0,PG xp),(2,sl bm ((dF (eG s k)).length) bl),(4,I (rd D i)),(23,I (s.length:Int)),(24,I i),(46, .bool (decide ((0<(rd D i))/\(¬(rdb (smL s) ((rd D i)-1)=true)))))] ((ri 3 nj s.length nv D)::(ri 3 bm ((dF (eG s k)).length) bl H)::R) ?_ ?_
  ·refine bR 36 Z (λbp=> ?_) (λbp=> ?_)
   ·refine aB Z Z<|wm Z<|aB Z Z<|wy (aF Z)<|aB Z Z<|wy (yF 1 1 oz aSo Z)<|aB Z Z<|wy (fJ (RdC.right nf [_,_]) ng Z Z Z)<|aB Z Z<|wm Z<|aB Z Z<|wS Z Z<|aB Z Z<|wy (aG ng sz4 Z Z (RdC.right xr [_,_]))<|aB Z Z ?_;refine wy (AR Ah Z Z (RdC.right xr [_,_]))<|aB Z Z<|wy (EQ Z)<|wy (aT Z Z)<|aA ?_;exact KP
   ·refine aM Z Z Z Z<|aM Z Z Z Z<|aM Z Z Z Z<|aM Z Z Z Z<|aM Z Z Z Z<|aM Z Z Z Z<|aM Z Z Z Z<|aM Z Z Z Z<|aM Z Z Z Z<|wy (aO Z Z)<|aA ?_;exact KP
  refine aA<|bA Z (λew=> ?_) (λew=> ?_)
  ·obtain ⟨g1,g2,g3,g4,g5⟩:=fLZ hk.1 hs hp hn aw G hD hH ew;refine aL<|wm Z<|wm Z<|wm Z<|wS Z Z<|wa (aD bFt Z (aKh (row:=D) (E:=H) (j:=((rd D i)-1)) (RdC.right nf []) (RdC.right bb []) hk hN ⟨G,G⟩ g2 ⟨hf.2.1,hf.2.2,by rw[fG,mj]⟩ g3)) ?_;rintro _ _⟨rfl,rfl⟩;refine aA<|aL<|wA Z Z<|wm Z<|aA ?_;exact⟨i+1,upd D (rd H (rd s ((rd D i)-1))) ((rd D i)-1),upd H (rd s ((rd D i)-1)) ((rd H (rd s ((rd D i)-1)))+1),⟨G,G,(g4),(g5)⟩,G,KP⟩
  ·have g4:=bQl hk.1 hs hp hn aw G hD hH ew;refine aI<|aL<|wA Z Z<|wm Z<|aA ?_;exact⟨i+1,D,H,⟨G,G,(g4.1),(g4.2)⟩,G,KP⟩
 ·refine aIx (R1:=((ri 3 nj s.length nv D)::R)) (Sub.refl _) (λ_ h=>h.selR (F:=[_,_]) (F':=[_]) [0] cC Z) ?_;have Qe:i.toNat=s.length:=G
  rw[Qe] at hD;subst hD;refine aU ?_;exact⟨Z,Z⟩
theorem bPr {s D:AH} {q:Int} (Lw:rd D q= -1\/(0<=rd D q/\rd D q<s.length)):(0<=rd D q/\rdb (smL s) (rd D q)=true)↔(0<=rd D q/\smB s (rd D q)=true):=by
 constructor<;>rintro⟨h1,h2⟩<;>refine⟨h1,?_⟩
 ·rwa[nA h1 G] at h2
 ·rwa[nA h1 G]
theorem bEo {s l D:AH} {k q:Int} (hk:0<=k) (hs: ∀x∈s,0<=x/\x<k) (hp:l.Perm (bQ s)) (hn:0<s.length) (q0:0<=q) (hq:q<s.length) (hD:D=rE s (itL s k l s.length).1 q):rd D q= -1\/(0<=rd D q/\rd D q<s.length):=by
 rw[hD,VP q0 (lq _) q0 (by rw[JU hk hs hp hn];omega)];exact bEn hk hs hp hn q0 hq
theorem aZc {s l D:AH} {k q:Int} (hk:0<=k) (hs: ∀x∈s,0<=x/\x<k) (hp:l.Perm (bQ s)) (hn:0<s.length) (hq:(s.length:Int)<=q) (hD:D=rE s (itL s k l s.length).1 q):D=(itS s k l 0).1:=by
 rw[hD,aZd (by rw[JU hk hs hp hn];exact hq)];rfl
theorem aMu {B:Nat} {w0:World} {R:List Row} {xp:Nat} {cy vx n7 nj:AF} {cx wb o4 nv:Nat} {s l:AH} {k:Int} (nf:RdC B w0 R (GG xp) 1 1 4 [sl cy s.length cx,sl vx s.length wb,sl n7 k.toNat o4,sl nj s.length nv]) (bb:RdC B w0 R cy s.length cx 1 (ints .i64 s)) (xr:RdC B w0 R vx s.length wb 1 (bools (smL s))) (Ok:RdC B w0 R n7 k.toNat o4 1 (ints .i64 (eG s k))) (hk:0<=k/\k<=1048576) (hs: ∀x∈s,0<=x/\x<k) (hN:s.length<=1000000) (hp:l.Perm (bQ s)) (hn:0<s.length):
  CT 320 #[PG xp] B w0 ((ri 3 nj s.length nv ((itL s k l s.length).1))::R) (λv R'=>v= .tuple #[]/\R'=(ri 3 nj s.length nv (qZ s k l))::R):=by
 refine fn0 Tryz.func320 Z Z Z ?_;have u6:=JU hk.1 hs hp hn;refine aC<|wq<|wm Z<|wy (aF Z)<|wy (yF 3 3 oz dO Z)<|wy (fJ (RdC.right nf [_]) aa Z Z Z)<|wy (aN aa Z)<|wm Z<|aA<|aH ?_;refine dM (λ(q:Int) (D:AH)=>[(0,PG xp),(10,sl nj s.length nv),(11,I (s.length:Int)),(12,I q)]) (λq D=>((ri 3 nj s.length nv D)::R)) (λq D=>(0<=q)/\(q<=s.length)/\(D=rE s (itL s k l s.length).1 q)) (λq D=>(s.length-q).toNat) ?_ ?_
 ·exact⟨0,(itL s k l s.length).1,⟨G,G,(aQp.symm)⟩,KP⟩
 intro q D ⟨kj,yi,hD⟩;refine wq<|wL Z Z<|aA<|aC<|bA Z (λaq=> ?_) (λaq=> ?_)
 ·have Vl:=bEo hk.1 hs hp hn kj G hD;have Rr:D.length=s.length:=by rw[hD,aDg,JU hk.1 hs hp hn]
  refine aI<|aC<|aH<|wq<|wm Z<|wy (aG aa sz3 Z Z (rdr 0 Z))<|wy (aR ai Z Z (rdr 0 Z))<|wg Z<|wn Z<|wq<|wm Z<|wy (iA Z Z) ?_;refine wm Z<|cK 8 [(0,PG xp),(2,I q),(10,sl nj s.length nv),(11,I (s.length:Int)),(12,I q),(27, .bool (decide ((0<=(rd D q))/\(rdb (smL s) (rd D q)=true))))] ((ri 3 nj s.length nv D)::R) ?_ ?_
  ·refine bR 19 Z (λbp=> ?_) (λbp=> ?_)
   ·refine aB Z Z<|wm Z<|aB Z Z<|wy (aF Z)<|aB Z Z<|wy (yF 1 1 oz aSo Z)<|aB Z Z<|wy (fJ (RdC.right nf [_]) ng Z Z Z)<|aB Z Z<|wm Z<|aB Z Z<|wy (aG ng sz4 Z Z (RdC.right xr [_]))<|aB Z Z<|wy (AR Ah Z Z (RdC.right xr [_]))<|wy (aT Z Z) ?_;refine aA ?_;exact KP
   ·refine aM Z Z Z Z<|aM Z Z Z Z<|aM Z Z Z Z<|aM Z Z Z Z<|aM Z Z Z Z<|aM Z Z Z Z<|aM Z Z Z Z<|wy (aO Z Z)<|aA ?_;exact KP
  refine aA<|bA Z (λew=> ?_) (λew=> ?_)
  ·refine aL<|wm Z<|wy (aF Z)<|wy (yF 3 3 oz dO Z)<|wy (fJ (RdC.right nf [_]) aa Z Z Z)<|wm Z<|wy (aG aa sz3 Z Z (rdr 0 Z))<|bV (bD 0 Z sz3 Z Z) ?_;rintro _ _ rfl;refine aA<|aL<|wA Z Z<|wm Z<|aA ?_;exact⟨q+1,upd D q (-1),⟨G,G,(by rw[hD];exact bEm kj G (by rw[<-hD];exact(bPr Vl).1 ew))⟩,G,KP⟩
  ·refine aI<|aL<|wA Z Z<|wm Z<|aA ?_;exact⟨q+1,D,⟨G,G,(by rw[hD];exact bJq kj G (by rw[<-hD];exact λh=>ew ((bPr Vl).2 h)))⟩,G,KP⟩
 ·have hD0:=aZc hk.1 hs hp hn G hD;refine aU<|wq<|wm Z<|wa (aD bFw Z (aKw (RdC.right nf [_]) (RdC.right Ok [_]) hk hs hN)) ?_;rintro _ _⟨bm,bl,rfl,rfl⟩;refine wn Z<|wq<|wm Z<|wy (aF Z)<|wy (yF 3 3 oz dO Z)<|wy (fJ (RdC.right nf [_,_]) aa Z Z Z)<|wy (aN aa Z)<|wS Z Z<|wn Z<|aH ?_;refine fA (λ(i:Int) (D:AH) (H:AH)=>[(0,PG xp),(4,sl bm k.toNat bl),(5,I i)]) (λi D H=>((ri 3 bm k.toNat bl H)::(ri 3 nj s.length nv D)::R)) (λi D H=>(-1<=i)/\(i<s.length)/\(D=(itS s k l (s.length-1-i).toNat).1)/\(H=(itS s k l (s.length-1-i).toNat).2)) (λi D H=>(i+1).toNat) ?_ ?_
  ·exact⟨(s.length:Int)-1,D,rC (eG s k),⟨G,G,(by rw[show((s.length:Int)-1-((s.length:Int)-1)).toNat=0 by omega];exact hD0),(by rw[show((s.length:Int)-1-((s.length:Int)-1)).toNat=0 by omega];rfl)⟩,KP⟩
  intro i D H ⟨aw,ia,hD,hH⟩;refine aC<|wq<|wm Z<|wy (iA Z Z)<|aA<|bA Z (λkd=> ?_) (λkd=> ?_)
  ·have hf:=bJc hk.1 hs hp hn G G hD hH;have Vl:=hf.1;refine aI<|aC<|aH<|wq<|wm Z<|wy (aF Z)<|wy (yF 3 3 oz dO Z)<|wy (fJ (RdC.right nf [_,_]) aa Z Z Z)<|wm Z<|wy (aG aa sz3 Z Z (rdr 1 Z))<|wy (aR ai Z Z (rdr 1 Z))<|wn Z<|aC ?_;refine aL<|wm Z<|wy (dE Z Z)<|wm Z<|cK 9 [(0,PG xp),(4,sl bm k.toNat bl),(5,I i),(6,I (rd D i)),(65, .bool (decide ((0<(rd D i))/\(rdb (smL s) ((rd D i)-1)=true))))] ((ri 3 bm k.toNat bl H)::(ri 3 nj s.length nv D)::R) ?_ ?_
   ·refine bR 56 Z (λme=> ?_) (λme=> ?_)
    ·refine aB Z Z<|wm Z<|aB Z Z<|wy (aF Z)<|aB Z Z<|wy (yF 1 1 oz aSo Z)<|aB Z Z<|wy (fJ (RdC.right nf [_,_]) ng Z Z Z)<|aB Z Z<|wm Z<|aB Z Z<|wS Z Z<|aB Z Z<|wy (aG ng sz4 Z Z (RdC.right xr [_,_]))<|aB Z Z ?_;refine wy (AR Ah Z Z (RdC.right xr [_,_]))<|wy (aT Z Z)<|aA ?_;exact KP
    ·refine aM Z Z Z Z<|aM Z Z Z Z<|aM Z Z Z Z<|aM Z Z Z Z<|aM Z Z Z Z<|aM Z Z Z Z<|aM Z Z Z Z<|aM Z Z Z Z<|wy (aO Z Z)<|aA ?_;exact KP
   refine aA<|bA Z (λvq=> ?_) (λvq=> ?_)
   ·obtain ⟨g1,g2,g3,g4,g5⟩:=fSZ hk.1 hs hp hn G G hD hH vq;refine aL<|wm Z<|wm Z<|wm Z<|wS Z Z<|dB (R1:=((ri 3 nj s.length nv D)::(ri 3 bm k.toNat bl H)::R)) (Sub.refl _) (λ_ h=>h.selR (F:=[_,_]) (F':=[_,_]) [1,0] cC Z)<|wa (aD bFv Z (aVv (row:=D) (E:=H) (j:=((rd D i)-1)) (RdC.right nf []) (RdC.right bb []) hk hN ⟨G,G⟩ g2 ⟨hf.2.1,hf.2.2,rfl⟩ g3)) ?_;rintro _ _⟨rfl,rfl⟩;refine aA<|aL<|wm Z<|wS Z Z<|wn Z ?_;exact⟨i-1,upd D ((rd H (rd s ((rd D i)-1)))-1) ((rd D i)-1),upd H (rd s ((rd D i)-1)) ((rd H (rd s ((rd D i)-1)))-1),⟨G,G,(g4),(g5)⟩,G,SA,λ_ h=>h.selR (F:=[_,_]) (F':=[_,_]) [1,0] cC Z⟩
   ·have g4:=bQk hk.1 hs hp hn G G hD hH vq;refine aI<|aL<|wm Z<|wS Z Z<|wn Z ?_;exact⟨i-1,D,H,⟨G,G,(g4.1),(g4.2)⟩,G,KP⟩
  ·refine aIx (R1:=((ri 3 nj s.length nv D)::R)) (Sub.refl _) (λ_ h=>h.selR (F:=[_,_]) (F':=[_]) [1] cC Z) ?_;have Qe:((s.length:Int)-1-i).toNat=s.length:=G
   rw[Qe] at hD;subst hD;refine aU ?_;exact⟨Z,Z⟩
theorem aBs (s:AH):(bQ s).Pairwise (· <= ·):=by
 unfold bQ iota;exact((iw.2 (List.pairwise_lt_range.imp λh=>G)).sublist ul)
theorem aMs {s l:AH}:kX l=bQ s↔l.Perm (bQ s):=by
 constructor
 ·intro h;rw[<-h];exact(lV l).symm
 ·intro h;exact((lV l).trans h).eq_of_pairwise (λa b _ _ h1 h2=>Int.le_antisymm h1 h2) (BL l) (aBs s)
theorem fFZ {s l D H:AH} {k:Int} (hk:0<=k) (hs: ∀x∈s,0<=x/\x<k) (hp:l.Perm (bQ s)) {m:Nat} (hm:m<l.length) (hr:D=(itF s k (l.drop (l.length-m))).1) (hE:H=(itF s k (l.drop (l.length-m))).2):
  (0<=rd l ((l.length-1-m:Nat):Int)/\rd l ((l.length-1-m:Nat):Int)<s.length)/\(0<=rd s (rd l ((l.length-1-m:Nat):Int))/\rd s (rd l ((l.length-1-m:Nat):Int))<k)/\(0<=rd H (rd s (rd l ((l.length-1-m:Nat):Int)))-1/\rd H (rd s (rd l ((l.length-1-m:Nat):Int)))-1<s.length)/\(D.length=s.length/\H.length=k.toNat)/\
  upd D (rd H (rd s (rd l ((l.length-1-m:Nat):Int)))-1) (rd l ((l.length-1-m:Nat):Int))=(itF s k (l.drop (l.length-(m+1)))).1/\upd H (rd s (rd l ((l.length-1-m:Nat):Int))) (rd H (rd s (rd l ((l.length-1-m:Nat):Int)))-1)=(itF s k (l.drop (l.length-(m+1)))).2:=by
 have e:l.length-1-m+1=l.length-m:=G
 have h:=fF (row:=D) (E:=H) hk hs hp (m:=l.length-1-m) G (by rw[e];exact hr) (by rw[e];exact hE);rwa[show l.length-(m+1)=l.length-1-m by omega]
theorem aGq {s l:AH} (hp:l.Perm (bQ s)):l.length<=s.length:=by rw[hp.length_eq];exact NJ
theorem aJh {w:World} {cy:AF} {ij cx:Nat} {s:AH} {k:Int} {io:AF} {mt iz:Nat} {l:AH} (bb:Rd w cy ij cx 1 (ints .i64 s)) (dr:Rd w io mt iz 1 (ints .i64 l)) (dq:(0<=k/\k<=1048576)/\ ∀x∈s,0<=x/\x<k) (hp:l.Perm (bQ s)) (hN:s.length<=1000000):
  CF 291 #[sl cy ij cx,I k,sl io mt iz] w (λv R'=> ∃A c,v= .tuple #[sl A s.length c,bt]/\R'=[(ri 3 A s.length c (qZ s k l))]):=by
 obtain rfl:=bb.lenI;obtain rfl:=dr.lenI;refine fnV Tryz.func291 Z Z ?_;have yp:=bb.max;have Nw:=dr.max;have hk:=dq.1;have hs:=dq.2;have va:=aGq hp;have mj:(eG s k).length=k.toNat:=eB _ _;refine gW ?_;refine aL<|wg Z<|wn Z ?_;refine gW ?_;refine aL<|wm Z<|wm Z<|wa (aD aCi Z (Ct.fresh (λw hw=>pG ((bb.c _) w hw) cE))) ?_;rintro _ _⟨_,rfl,bm,bl,rfl,rfl⟩;refine wm Z<|wX Z Z<|wX Z Z<|wg Z<|wn Z ?_;refine gW ?_;refine aL<|wm Z<|wa (aD bFx Z (QR)) ?_;rintro _ _⟨du,rfl,rfl⟩;refine wa (aD bFy Z (Ct.fresh (λw hw=>RH ((dr.c _) w hw) ((rdr 0 Z) w hw) G))) ?_;rintro _ _⟨_,rfl,ef,kc,rfl,rfl⟩;refine wn Z ?_;refine gW ?_;refine wq<|wm Z<|wy (dI Z)<|wm Z<|aB Z Z<|wm Z<|aB Z Z<|wm Z<|aB Z Z<|wa (aD bGc Z (Ct.fresh (λw hw=>aBu ((bb.c _) w hw) cE))) ?_;rintro _ _⟨_,rfl,jz,lz,rfl,rfl⟩;refine aB Z Z<|wa (aD aPz Z (Ct.quiet (λw hw=>qG ((rdr 1 Z) w hw) ((rdr 0 Z) w hw) (by rw[(lV l).length_eq];omega)))) ?_;rintro _ _⟨rfl,rfl⟩;refine fH 30 Z (aMs.2 hp)<|aB Z Z<|wy (dI Z)<|wy (aO Z Z)<|aA<|aJ Z<|aI ?_;refine gW ?_;refine wq<|wm Z<|wy (aN aa Z)<|wy (dR Z Z)<|aA<|bA Z (λaq=> ?_) (λaq=> ?_)
 ·refine wq<|wa (bH .i64 [] aa zs3 Z Z Z) ?_;rintro _ _⟨kh,rfl,rfl⟩;refine wg Z<|wn Z<|aQ [0] 99 cC Z ?_;refine aWz Z Gd.refl ⟨_,_,Z,Z,?_⟩;have e:s=[]:=ek G;subst e;rw[aBn hp];exact⟨_,_,Z,Z⟩
 ·have hn:0<s.length:=G
  refine aI ?_;refine gW ?_;refine aL<|wm Z<|wm Z<|wa (aD bFz Z (Ct.fresh (λw hw=>YY ((bb.c _) w hw) cE))) ?_;rintro _ _⟨_,rfl,im,ir,rfl,rfl⟩;refine wm Z<|wa (bH .i64 [-1] aa zs3 Z Z Z) ?_;rintro _ _⟨Bk,rfl,rfl⟩;refine wm Z<|wy (aN aa Z)<|wa (aD bMf Z (Ct.fresh (λw hw=>aFj ((rdr 0 Z) w hw) Z Z ⟨G,G⟩))) ?_;rintro _ _⟨_,rfl,db,de,rfl,rfl⟩;refine wy (dW (v:= .agg #[sl cy s.length cx,sl im s.length ir,sl bm ((k).toNat) bl,sl db s.length de]) Z (λw=>cA))<|wa (bO (sz:=4) rfl rfl) ?_;rintro _ _⟨xa,rfl,rfl⟩;refine wa (iC (sz:=1) bKf Z) ?_;rintro _ _⟨gn,rfl,rfl⟩;refine bV (aX 0 Z Z Z bLc Z Z Z Z (au Z)) ?_;rintro _ _ rfl;refine aA ?_;refine gW ?_;refine aL<|wy (yL 0 El Z Z Z)<|wa (aD bFw Z (aKw (rdr 1 Z) (rdr 8 Z) hk hs hN)) ?_;rintro _ _⟨gv,gw,rfl,rfl⟩;refine wa (iC (sz:=1) bPx Z) ?_;rintro _ _⟨yv,rfl,rfl⟩;refine bV (aX 0 Z Z Z dO Z Z Z Z (au Z)) ?_;rintro _ _ rfl;refine aA ?_;refine aIz ?_;refine gW ?_;refine aL<|wm Z<|wa (aD bGm Z (aDs)) ?_;rintro _ _⟨Of,rfl,rfl⟩;refine aA ?_;refine JE ?_;refine aSb Z bGf (OZ (A:=io) (c:=iz) (zs:=l) G) Z (λ_=>Z) Gd.refl (λ(kr:Nat) (D:AH) (H:AH)=>[(rc 52 1 Of [sl io l.length iz]),(rc 52 1 yv [sl gv k.toNat gw]),(ri 3 gv k.toNat gw H),(rc 350 1 gn [PG xa]),(rc 352 4 xa [sl cy s.length cx,sl im s.length ir,sl bm ((k).toNat) bl,sl db s.length de]),(ri 3 db s.length de D),(ri 3 (GG Bk) 1 1 ([-1])),⟨4,1,im,s.length,ir,bools (smL s),false⟩,(ri 3 jz ((bQ s).length) lz (bQ s)),(ri 3 ef ((kX l).length) kc (kX l)),(rc 52 1 du [sl io l.length iz]),(ri 3 bm ((k).toNat) bl (eG s k))]) (λkr D H=>(D=(itF s k (l.drop (l.length-kr))).1)/\(H=(itF s k (l.drop (l.length-kr))).2)) ?_ ?_ ?_ ?_
  ·exact⟨List.replicate s.length ((-1):Int),rC (eG s k),⟨(by rw[yo,Ih];rfl),(by rw[yo,Ih];rfl)⟩,λ_ h=>h⟩
  ·intro kr D H w ⟨hD,hH⟩ hw;exact⟨(rdr 0 Z) w hw,(dr.c _) w hw⟩
  ·intro lr kr D H WW2 Ni ⟨hD,hH⟩ Xy;obtain⟨f1,f2,f3,f4,f5,f6⟩:=fFZ hk.1 hs hp Ni hD hH;refine aL<|wn Z ?_;intro Wp l4;refine aH<|aL<|wy (yL 3 El Z Z Z)<|wy (yL 1 aa Z Z Z)<|wm Z<|dB (R1:=[(ri 3 db s.length de D),(ri 3 gv k.toNat gw H),(rc 52 1 Of [sl io l.length iz]),(rc 52 1 yv [sl gv k.toNat gw]),(rc 350 1 gn [PG xa]),(rc 352 4 xa [sl cy s.length cx,sl im s.length ir,sl bm ((k).toNat) bl,sl db s.length de]),(ri 3 (GG Bk) 1 1 ([-1])),⟨4,1,im,s.length,ir,bools (smL s),false⟩,(ri 3 jz ((bQ s).length) lz (bQ s)),(ri 3 ef ((kX l).length) kc (kX l)),(rc 52 1 du [sl io l.length iz]),(ri 3 bm ((k).toNat) bl (eG s k))]) (Sub.refl _) (λ_ h=>h.sel [5,2,0,1,3,4,6,7,8,9,10,11] cC Z)<|wa (aD bFv Z (aVv (row:=D) (E:=H) (j:=(rd l ((l.length-1-kr:Nat):Int))) (rdr 3 Z) (bb.cb l4 _) hk hN f1 f2 ⟨f4.1,f4.2,Z⟩ f3)) ?_;rintro _ _⟨rfl,rfl⟩;refine aA ?_;exact⟨upd D ((rd H (rd s (rd l ((l.length-1-kr:Nat):Int))))-1) (rd l ((l.length-1-kr:Nat):Int)),upd H (rd s (rd l ((l.length-1-kr:Nat):Int))) ((rd H (rd s (rd l ((l.length-1-kr:Nat):Int))))-1),⟨(f5),(f6)⟩,λ_=>λ_ h=>h.sel [2,3,1,4,5,0,6,7,8,9,10,11] cC Z⟩
  intro WW25 DW2 D H ⟨hD,hH⟩ Na Rw;rw[zh,Di] at hD;refine aJb ?_;refine bAp ?_;refine v_w ?_;refine wq<|wy (yL 3 El Z Z Z)<|dB (R1:=[(ri 3 db s.length de D),(rc 52 1 Of [sl io l.length iz]),(rc 52 1 yv [sl gv k.toNat gw]),(ri 3 gv k.toNat gw H),(rc 350 1 gn [PG xa]),(rc 352 4 xa [sl cy s.length cx,sl im s.length ir,sl bm ((k).toNat) bl,sl db s.length de]),(ri 3 (GG Bk) 1 1 ([-1])),⟨4,1,im,s.length,ir,bools (smL s),false⟩,(ri 3 jz ((bQ s).length) lz (bQ s)),(ri 3 ef ((kX l).length) kc (kX l)),(rc 52 1 du [sl io l.length iz]),(ri 3 bm ((k).toNat) bl (eG s k))]) (Sub.refl _) (λ_ h=>h.sel [5,0,1,2,3,4,6,7,8,9,10,11] cC Z)<|wa (aD bMe Z (aVw (row:=D) (rdr 4 Z) (bb.cb Na _) (rdr 6 Z) (rdr 10 Z) hk hs hN hp hn hD)) ?_;rintro _ _⟨rfl,rfl⟩;refine aA<|wq<|wy (yL 4 El Z Z Z)<|wa (aD bMd Z (aMu (rdr 4 Z) (bb.cb Na _) (rdr 6 Z) (rdr 10 Z) hk hs hN hp hn)) ?_;rintro _ _⟨rfl,rfl⟩;refine aA<|wq<|wy (yL 4 El Z Z Z)<|wy (aF Z)<|wy (yF 3 3 oz dO Z)<|wy (yL 5 aa Z Z Z)<|wg Z<|wn Z<|aQ [0] 99 cC Z ?_;refine aWz Z Rw ⟨_,_,Z,Z,?_⟩;exact⟨_,_,Z,Z⟩
end Go.Proofs.YtdbebmmhdefgdaaGreat
namespace Go.Eng
open Go Go.RowKit
section
variable {P:Program} {n:Nd} {B:Nat} {w0:World} {ops:Array Oper} {K:Env->List Row->Prop} {L:Env} {R Rc:List Row} {op:Op} {ty:TypeId} {pos:String} {nc:Array Edge}
def WDc (P:Program) (n:Nd) (B:Nat) (w0:World) (ops:Array Oper) (K:Env->List Row->Prop) (al:Nat) (ab:AI) (L:Env) (R Rc:List Row):Prop:=
 ∀a w (Q:Exit->Act->World->Prop),Sat n L a->Hp B w0 w R->(∀w,Hp B w0 w R->Hp B w0 w Rc)->(∀c a w,¬Q (.panic c) a w)->(∀a' w' L' R',Sat n L' a'->Hp B w0 w' R'->K L' R'->Q .normal a' w')->vH P ops Q al (λw=>Hp B w0 w Rc) ab a w
def aDx (P:Program) (n:Nd) (B:Nat) (w0:World) (ops:Array Oper) (K:Env->List Row->Prop) (al:Nat) (ab:AI) (L:Env) (R Rc:List Row) (i:Nat):Prop:=
 ∀a w (Q:Exit->Act->World->Prop),Sat n L a->Hp B w0 w R->(∀w,Hp B w0 w R->Hp B w0 w Rc)->(∀c a w,¬Q (.panic c) a w)->(∀a' w' L' R',Sat n L' a'->Hp B w0 w' R'->K L' R'->Q .normal a' w')->
  wpOp P ops Q i (λa' w'=> ∃S':World->Prop,S' w'/\(OX ops ab i=true\/ ∀x,S' x->Hp B w0 x Rc)/\vH P ops Q al S' (ab.setIfInBounds i true) a' w') a w
theorem bQc {al:Nat} {ab:AI} (h:WDc P n B w0 ops K al ab L R R):WD P n B w0 ops K al ab L R:=
 λa w Q hs hp ft hq=>h a w Q hs hp (λ_ h=>h) ft hq
theorem lK {d:Nat} {v:Value} {al:Nat} {ab:AI} (i:Nat) (hi:ops[i]? =some {dst:=some d,op:=op,type:=ty,pos:=pos,after:=nc,guard:=none}) (hc:chk ops ab i=true) (hn:Nat.blt d n=true)
  (hy:Yl P n B w0 op ty L Rc v) (h:WDc P n B w0 ops K al (ab.setIfInBounds i true) ((d,v)::L) R Rc):WDc P n B w0 ops K (al+1) ab L R Rc:=by
 intro a w Q hs hp uc ft hq;simp only[chk,pu] at hc;obtain⟨⟨⟨h1,h2⟩,h3⟩,h4⟩:=hc;refine AZ hi (Ae h1) (λc a w hh=>(ft c _ w hh).elim) al _ ab a w h4 (Bw hi h2) (by simpa using h3) (.inl ⟨rfl,λw hw=>hy a w _ rfl rfl hs hw⟩) (uc w hp) ?_;exact h _ w Q (hs.put hn v) hp uc ft hq
theorem OT {al:Nat} {ab:AI} (hr:Region.ready .any ops ab=[]) (h:K L R):WDc P n B w0 ops K al ab L R Rc:=by
 intro a w Q hs hp _ ft hq;cases al with
 |zero=>exact⟨hr,hq _ _ L R hs hp h⟩
 |succ al=>exact⟨λ_=>hq _ _ L R hs hp h,by rw[hr];simp⟩
theorem EF {d:Nat} {Post:Value->List Row->Prop} {al:Nat} {ab:AI} (i:Nat) (hi:ops[i]? =some {dst:=some d,op:=op,type:=ty,pos:=pos,after:=nc,guard:=none}) (hn:Nat.blt d n=true) (ha:Ac P n B w0 op ty L R Post)
  (h: ∀v R',Post v R'->(∀w,Hp B w0 w R'->Hp B w0 w Rc)/\WDc P n B w0 ops K al (ab.setIfInBounds i true) ((d,v)::L) R' Rc):aDx P n B w0 ops K al ab L R Rc i:=by
 intro a w Q hs hp uc ft hq;unfold wpOp;simp only[hi];rw[df (by simp[Region.wanted])];refine .inl (ha a w _ _ Q rfl rfl hs hp λv w' R' cm hv=> ?_);obtain⟨h1,h2⟩:=h v R' hv;exact⟨λw=>Hp B w0 w Rc,h1 w' cm, .inr λ_ h=>h,h2 _ w' Q (hs.put hn v) cm h1 ft hq⟩
theorem bPt {Post:Value->List Row->Prop} {al:Nat} {ab:AI} (i:Nat) (hi:ops[i]? =some {dst:=none,op:=op,type:=ty,pos:=pos,after:=nc,guard:=none}) (ha:Ac P n B w0 op ty L R Post)
  (h: ∀v R',Post v R'->(∀w,Hp B w0 w R'->Hp B w0 w Rc)/\WDc P n B w0 ops K al (ab.setIfInBounds i true) L R' Rc):aDx P n B w0 ops K al ab L R Rc i:=by
 intro a w Q hs hp uc ft hq;unfold wpOp;simp only[hi];rw[df (by simp[Region.wanted])];refine .inl (ha a w _ _ Q rfl rfl hs hp λv w' R' cm hv=> ?_);obtain⟨h1,h2⟩:=h v R' hv;exact⟨λw=>Hp B w0 w Rc,h1 w' cm, .inr λ_ h=>h,h2 _ w' Q hs cm h1 ft hq⟩
theorem pQ {al:Nat} {ab:AI} (i:Nat) (hr:Region.ready .any ops ab=[i]) (hi:aDx P n B w0 ops K al ab L R Rc i):WDc P n B w0 ops K (al+1) ab L R Rc:=by
 intro a w Q hs hp uc ft hq;refine⟨λh0=>absurd (hr▸h0) cD,λk hk=> ?_⟩;rw[hr] at hk;obtain rfl:=ib.1 hk;exact hi a w Q hs hp uc ft hq
theorem aZg {al:Nat} {ab:AI} (i j:Nat) (hr:Region.ready .any ops ab=[i,j]) (hi:aDx P n B w0 ops K al ab L R Rc i) (hj:aDx P n B w0 ops K al ab L R Rc j):WDc P n B w0 ops K (al+1) ab L R Rc:=by
 intro a w Q hs hp uc ft hq;refine⟨λh0=>absurd (hr▸h0) cD,λk hk=> ?_⟩;rw[hr] at hk;rcases jm.1 hk with rfl|hk
 ·exact hi a w Q hs hp uc ft hq
 ·obtain rfl:=ib.1 hk;exact hj a w Q hs hp uc ft hq
theorem IK {al:Nat} {ab:AI} {d:Nat} {u v:Value} (hu:u=v) (h:WDc P n B w0 ops K al ab ((d,v)::L) R Rc):WDc P n B w0 ops K al ab ((d,u)::L) R Rc:=by
 subst hu;exact h
end
end Go.Eng
namespace Go.Proofs.YtdbebmmhdefgdaaGreat
open Go Go.Eng Go.Pure
set_option maxRecDepth 100000
open Tryz
variable {w:World} {ke:AF} {ot kf:Nat} {a:AH}
theorem aWh (da:Rd w ke ot kf 1 (ints .i64 a)) (hp:a.Perm (iota a.length)) (hN:a.length<=1000000):
  CF 261 #[sl ke ot kf] w (λv R'=> ∃A c V,v= .tuple #[sl A a.length c,bt]/\R'=[(ri 3 A a.length c V)]):=by
 obtain rfl:=da.lenI;refine fn2 Tryz.func261 Z Z Z ?_;have i6:=da.max;have hnd:a.Nodup:=hp.symm.nodup (eH _);refine wq<|wg Z<|wn Z<|wq<|wm Z<|wy (aN aa Z)<|wa (dD aa zb3 Z Z) ?_;rintro _ _⟨am,rfl,rfl⟩;refine bF (v:=sl (GG am) a.length a.length) Z<|wn Z<|aC<|wq<|wn Z<|aH ?_;refine dM (λ(q:Int) (D:AH)=>[(0,sl ke a.length kf),(4,sl (GG am) a.length a.length),(5,I q)]) (λq D=>[(ri 3 (GG am) a.length a.length D)]) (λq D=>(0<=q)/\(q<=a.length)/\(D.length=a.length)/\(∀j:Int,0<=j->j<q->rd D j= -1)) (λq D=>(a.length-q).toNat) ?_ ?_
 ·exact⟨0,List.replicate a.length (0:Int),⟨G,G,(by rw[bu]),(λj h1 h2=>G)⟩,KP⟩
 intro q D ⟨kj,yi,Rr,hD⟩;refine aC<|wq<|wm Z<|wm Z<|wy (aN aa Z)<|wL Z Z<|aA<|bA Z (λaq=> ?_) (λaq=> ?_)
 ·refine aI<|aC<|aH<|aL<|wm Z<|wm Z<|wy (aG aa sz3 Z Z (rdr 0 Z))<|bV (bD 0 Z sz3 Z Z) ?_;rintro _ _ rfl;refine aA<|aL<|wm Z<|wA Z Z<|wn Z ?_;exact⟨q+1,upd D q (-1),⟨G,G,(by rw[aY];exact Rr),(eP (f:=λ_=> -1) kj G hD Z)⟩,G,KP⟩
 ·refine aU<|aC<|wq<|wn Z<|aH ?_;refine dM (λ(i:Int) (D:AH)=>[(0,sl ke a.length kf),(4,sl (GG am) a.length a.length),(6,I i)]) (λi D=>[(ri 3 (GG am) a.length a.length D)]) (λi D=>(0<=i)/\(i<=a.length)/\(D.length=a.length)/\(∀x:Int,0<=x->x<a.length->0<=rd D x-> ∃q:Int,0<=q/\q<i/\rd a q=x)) (λi D=>(a.length-i).toNat) ?_ ?_
  ·exact⟨0,D,⟨G,G,(Rr),(λx h0 h1 h2=>by have:=hD x h0 G;omega)⟩,KP⟩
  intro i D ⟨aw,ia,Rr,hV⟩;refine aC<|wq<|wm Z<|wm Z<|wy (aN aa Z)<|wL Z Z<|aA<|bA Z (λbp=> ?_) (λbp=> ?_)
  ·have ha:=aZ.1 (hp.subset (bJ (L:=a) aw G));refine aI<|aC<|aH<|aC<|wq<|wm Z<|wm Z<|wy (aG aa sz3 Z Z (da.c _))<|wy (aR ai Z Z (da.c _))<|wy (Yl.f (eD Z Z))<|wm Z<|aB Z Z<|wm Z<|aB Z Z ?_;refine wm Z<|aB Z Z<|wy (aG aa sz3 Z Z (da.c _))<|aB Z Z<|wy (aR ai Z Z (da.c _))<|aB Z Z<|wm Z<|aB Z Z<|wy (aN aa Z)<|aB Z Z<|wy (Yl.f (iA Z Z))<|wy (aO Z Z)<|wm Z<|aB Z Z<|wm Z ?_
   refine aB Z Z<|wm Z<|aB Z Z<|wm Z<|aB Z Z<|wy (aG aa sz3 Z Z (da.c _))<|aB Z Z<|wy (aR ai Z Z (da.c _))<|aB Z Z<|wy (aG aa sz3 Z Z (rdr 0 Z))<|aB Z Z<|wy (aR ai Z Z (rdr 0 Z))<|aB Z Z<|wy (Yl.f (iA Z Z) (λh=>by
      obtain⟨q,q0,q1,e⟩:=hV _ ha.1 ha.2 h;have:=jT hnd q0 G aw G e
      omega)) ?_
   refine wy (aO Z Z)<|aA<|aJ Z<|aI<|aL<|wm Z<|wm Z<|wm Z<|wy (aG aa sz3 Z Z (da.c _))<|wy (aR ai Z Z (da.c _))<|wm Z<|wy (aG aa sz3 Z Z (rdr 0 Z))<|bV (bD 0 Z sz3 Z Z) ?_;rintro _ _ rfl;refine aA<|aL<|wm Z<|wA Z Z<|wn Z ?_
   exact⟨i+1,upd D (rd a i) i,⟨G,G,(by rw[aY];exact Rr),(λx x0 x1 hx=>by
     rw[gG ha.1 x0 G] at hx;by_cases e:x=rd a i
     ·exact⟨i,aw,G,e.symm⟩
     ·rw [bz e] at hx;obtain⟨q,q0,q1,h⟩:=hV x x0 x1 hx
      exact⟨q,q0,G,h⟩)⟩,G,KP⟩
  ·refine aU<|wq<|wm Z<|wg Z<|wn Z<|aQ [0] 99 cC Z ?_;refine⟨_,_,Z,Z,?_⟩;exact⟨_,_,_,Z,Z⟩
theorem bDo (da:Rd w ke ot kf 1 (ints .i64 a)) (hp:a.Perm (iota a.length)) (hN:a.length<=1000000):
  CF 215 #[sl ke ot kf] w (λv R'=>v=bt):=by
 obtain rfl:=da.lenI;refine fn1 Tryz.func215 Z Z Z ?_;have i6:=da.max;refine wq<|wn Z<|wq<|wm Z<|wa (aD bMz Z (Ct.fresh (λw hw=>aWh ((da.c _) w hw) hp G))) ?_;rintro _ _⟨_,rfl,bm,bl,V_3,rfl,rfl⟩;refine wm Z<|wX Z Z<|wX Z Z<|wg Z<|wn Z<|wq<|wm Z<|wn Z<|aQ [] 99 cC Z ?_;refine⟨_,Z,?_⟩;rfl
theorem yD {s l:AH} {k:Int} (hk:0<=k) (hs: ∀x∈s,0<=x/\x<k) (hp:l.Perm (bQ s)):(qZ s k l).length=s.length/\(qZ s k l).Perm (iota s.length)/\(∀q:Int,0<=q->q+1<s.length->rd s (rd (qZ s k l) q)<=rd s (rd (qZ s k l) (q+1)))/\(l.Pairwise (bU s)->(qZ s k l).Pairwise (bU s)):=by
 refine⟨aWm hk hs hp,?_⟩;rcases ed s.length with h|h
 ·have e:s=[]:=ek h;subst e;rw[aBn hp];exact⟨.refl _,λq h0 h1=>by simp at h1;omega,λ_=> .nil⟩
 ·exact aKn hk hs hp h
variable {w:World} {cy:AF} {ij cx:Nat} {s:AH} {k:Int}
theorem aAg {n8:AF} {Kw o5:Nat} {x:AH} {i:Int} (bb:Rd w cy ij cx 1 (ints .i64 s)) (nf:Rd w n8 Kw o5 1 (ints .i64 x)) (hi:0<=i/\i<s.length) (hx:x.length=s.length) (w6:i<rd x i) (Sw:rd x i<=s.length) (hN:s.length<=1000000):
  CF 321 #[sl cy ij cx,sl n8 Kw o5,I i] w (λv R'=>v=sl (jE cy i.toNat cx 1) ((min (rd x i+1) (s.length:Int)).toNat-i.toNat) (cx-i.toNat)):=by
 obtain rfl:=bb.lenI;obtain rfl:=nf.lenI;refine fn1 Tryz.func321 Z Z Z ?_;have yp:=bb.max;have m_x:=nf.max;refine wq<|wn Z<|wq<|wm Z<|wm Z<|wm Z<|wm Z<|wy (aG aa sz3 Z Z (nf.c _))<|wy (aR ai Z Z (nf.c _))<|wA Z Z<|wm Z<|wy (aN aa Z) ?_;refine wy (sJ Z Z)<|wy (aIs aa sz3 Z Z Z (bb.c _) G G G)<|wn Z<|bS ?_;refine⟨_,Z,?_⟩;rfl
theorem aVf {Ld:AF} {n_f Lh:Nat} {f:AH} {b8:AF} {Pw d6:Nat} {o:AH} (bb:Rd w cy ij cx 1 (ints .i64 s)) (Mw:Rd w Ld n_f Lh 1 (ints .i64 f)) (Vh:Rd w b8 Pw d6 1 (ints .i64 o)) (hs:Nn s) (hf:f=bQ s) (To:o.Perm (iota s.length)) (hoo:o.Pairwise (pcS s)) (hN:s.length<=1000000):
  CF 292 #[sl cy ij cx,sl Ld n_f Lh,sl b8 Pw d6] w (λv R'=> ∃(nx nm:AH) (n la:Int) (A:AF) (c:Nat),v= .tuple #[sl A f.length c,I (n+1)]/\tL s nx (bQ s).length/\AJ s o nx s.length nm n la/\R'=[(ri 3 A f.length c (f.map (rd nm)))]):=by
 obtain rfl:=bb.lenI;obtain rfl:=Mw.lenI;obtain rfl:=Vh.lenI;refine fn2 Tryz.func292 Z Z Z ?_;have yp:=bb.max;have m_f:=Mw.max;have m_o:=Vh.max;have Vw:o.length=s.length:=by rw[To.length_eq,bB]
 have ux:f.length<=s.length:=by rw[hf];exact NJ
 refine wq<|wg Z<|wn Z<|wq<|wm Z<|wy (aN aa Z)<|wa (dD aa zb3 Z Z) ?_;rintro _ _⟨am,rfl,rfl⟩;refine bF (v:=sl (GG am) s.length s.length) Z<|wn Z<|aC<|wq<|wm Z<|wy (aN aa Z)<|wm Z<|aA<|aH ?_;refine dM (λ(i:Int) (V:AH)=>[(0,sl cy s.length cx),(1,sl Ld f.length Lh),(2,sl b8 o.length d6),(8,sl (GG am) s.length s.length),(22,sl Ld f.length Lh),(23,I (f.length:Int)),(24,I i)]) (λi V=>[(ri 3 (GG am) s.length s.length V)]) (λi V=>(0<=i)/\(i<=f.length)/\(tL s V i)) (λi V=>(f.length-i).toNat) ?_ ?_
 ·exact⟨0,List.replicate s.length (0:Int),⟨G,G,(bCs)⟩,KP⟩
 intro i V ⟨aw,ia,hV⟩;have ld:=hV.len;have hfi:i<f.length->0<=rd f i/\rd f i<s.length:=λh=>by subst hf;exact(oQ aw h).1
 refine wq<|wL Z Z<|aA<|aC<|bA Z (λaq=> ?_) (λaq=> ?_)
 ·have hfi2:=hfi G;refine aI<|aC<|aH<|wq<|wm Z<|wy (aG aa sz3 Z Z (Mw.c _))<|wy (aR ai Z Z (Mw.c _))<|wg Z<|wn Z<|wq<|wm Z<|wm Z ?_;refine wm Z<|wy (aN aa Z)<|wy (aG aa sz3 Z Z (rdr 0 Z))<|bV (bD 0 Z sz3 Z Z) ?_;rintro _ _ rfl;refine aA<|wq<|wm Z<|wA Z Z<|wm Z<|wy (aN aa Z)<|wL Z Z<|aA<|bA Z (λbp=> ?_) (λbp=> ?_)
  ·refine aL<|wm Z<|wm Z<|wm Z<|wm Z<|wA Z Z<|wy (aG aa sz3 Z Z (Mw.c _))<|wy (aR ai Z Z (Mw.c _))<|wy (aG aa sz3 Z Z (rdr 0 Z))<|bV (bD 0 Z sz3 Z Z) ?_;rintro _ _ rfl;refine aA<|aL<|wA Z Z<|wm Z<|aA ?_;exact⟨i+1,upd (upd V (rd f i) (s.length:Int)) (rd f i) (rd f (i+1)),⟨G,G,(by subst hf;exact hV.step2 aw G G)⟩,G,KP⟩
  ·refine aI<|aL<|wA Z Z<|wm Z<|aA ?_;exact⟨i+1,upd V (rd f i) (s.length:Int),⟨G,G,(by subst hf;exact hV.step1 aw G G)⟩,G,KP⟩
 ·have Cl:tL s V (bQ s).length:=by have e:i=(bQ s).length:=(by rw[<-hf];omega);rw[<-e];exact hV
  refine aU<|wq<|wm Z<|wy (aN aa Z)<|wa (dD aa zb3 Z Z) ?_;rintro _ _⟨bx,rfl,rfl⟩;refine bF (v:=sl (GG bx) s.length s.length) Z<|wn Z<|wq<|wg Z<|wn Z<|aC<|wq<|wm Z<|wy (aN aa Z)<|wm Z<|aA ?_;refine aH ?_;refine JD (λ(q:Int) (U:AH) (n:Int) (la:Int)=>[(0,sl cy s.length cx),(1,sl Ld f.length Lh),(8,sl (GG am) s.length s.length),(11,sl (GG bx) s.length s.length),(12,I n),(13,I la),(51,sl b8 o.length d6),(52,I (o.length:Int)),(53,I q)]) (λq U n la=>[(ri 3 (GG bx) s.length s.length U),(ri 3 (GG am) s.length s.length V)]) (λq U n la=>(0<=q)/\(q<=o.length)/\(AJ s o V q U n la)) (λq U n la=>(o.length-q).toNat) ?_ ?_
  ·exact⟨0,List.replicate s.length (0:Int),0,-1,⟨G,G,(aVi)⟩,KP⟩
  intro q U n la ⟨kj,yi,hM⟩;have Cd:=hM.len;have hMb:=hM.bd;have Gk:=hM.last_in To G
  have Vs:0<=la->la<s.length/\la<rd V la/\rd V la<=s.length:=λh=>by
   rcases Gk with e|⟨e,e2⟩
   ·omega
   ·have g:=Cl.nx e.1 e.2 e2;exact⟨e.2,g.gt,g.le⟩
  have Zj:q<o.length->0<=rd o q/\rd o q<s.length:=λh=>aZ.1 (To.subset (bJ (L:=o) kj h));have hoz:q<o.length->(rd V (rd o q)=0↔gK s (rd o q)=false):=λh=>Cl.zero (Zj h).1 (Zj h).2;refine wq<|wL Z Z<|aA<|aC<|bA Z (λew=> ?_) (λew=> ?_)
  ·have Mc:=Zj G;have Tq:=hoz G;refine aI<|aC<|aH<|wq<|wy (aG aa sz3 Z Z (Vh.c _))<|wy (aR ai Z Z (Vh.c _))<|wn Z<|aC<|wq<|wm Z<|wm Z<|wy (aG aa sz3 Z Z (rdr 1 Z)) ?_;refine wy (aR ai Z Z (rdr 1 Z))<|wy (dR Z Z)<|aA<|bA Z (λkd=> ?_) (λkd=> ?_)
   ·have Kr:=Tq.1 kd;refine aU<|aL<|wA Z Z<|wm Z<|aA ?_;exact⟨q+1,U,n,la,⟨G,G,(hM.skip Kr)⟩,G,KP⟩
   ·have Kr:gK s (rd o q)=true:=by
     cases e:gK s (rd o q) with
     |true=>rfl
     |false=>exact absurd (Tq.2 e) kd
    have hgx:=Cl.nx Mc.1 Mc.2 Kr;have Yn:=hgx.gt;have Vm:=hgx.le;have hlm: -1<=la:=G
    refine aI<|aC<|wq<|wm Z<|wy (iA Z Z)<|wm Z<|cK 29 [(0,sl cy s.length cx),(1,sl Ld f.length Lh),(8,sl (GG am) s.length s.length),(11,sl (GG bx) s.length s.length),(12,I n),(15,I (rd o q)),(51,sl b8 o.length d6),(52,I (o.length:Int)),(53,I q),(93, .bool (decide ((0<=la)/\((((rd V (rd o q))=(s.length:Int))\/((rd V la)=(s.length:Int)))\/(¬((((s).drop (la).toNat).take ((min (rd V la+1) (s.length:Int)).toNat-la.toNat))=(((s).drop (rd o q).toNat).take ((min (rd V (rd o q)+1) (s.length:Int)).toNat-(rd o q).toNat))))))))] [(ri 3 (GG bx) s.length s.length U),(ri 3 (GG am) s.length s.length V)] ?_ ?_
    ·refine bR 64 Z (λme=> ?_) (λme=> ?_)
     ·refine aB Z Z<|wm Z<|aB Z Z<|wm Z<|aB Z Z<|wy (aG aa sz3 Z Z (rdr 1 Z))<|aB Z Z<|wy (aR ai Z Z (rdr 1 Z))<|aB Z Z<|wm Z<|aB Z Z<|wy (aN aa Z)<|aB Z Z<|wy (dR Z Z)<|aB Z Z ?_;refine wm Z<|cK 8 [(0,sl cy s.length cx),(1,sl Ld f.length Lh),(8,sl (GG am) s.length s.length),(11,sl (GG bx) s.length s.length),(12,I n),(13,I la),(15,I (rd o q)),(51,sl b8 o.length d6),(52,I (o.length:Int)),(53,I q),(64,bt),(80, .bool (decide (((rd V (rd o q))=(s.length:Int))\/((rd V la)=(s.length:Int)))))] [(ri 3 (GG bx) s.length s.length U),(ri 3 (GG am) s.length s.length V)] ?_ ?_
      ·refine bR 72 Z (λvq=> ?_) (λvq=> ?_)
       ·refine aM Z Z Z Z<|aM Z Z Z Z<|aM Z Z Z Z<|aM Z Z Z Z<|aM Z Z Z Z<|aM Z Z Z Z<|aM Z Z Z Z<|aB Z Z<|wy (aT Z Z)<|aA ?_;exact KP
       ·refine aB Z Z<|wm Z<|aB Z Z<|wm Z<|aB Z Z<|wy (aG aa sz3 Z Z (rdr 1 Z))<|aB Z Z<|wy (aR ai Z Z (rdr 1 Z))<|aB Z Z<|wm Z<|aB Z Z<|wy (aN aa Z)<|aB Z Z<|wy (dR Z Z)<|aB Z Z ?_;refine wy (aO Z Z)<|aA ?_;exact KP
      refine aB Z Z<|wm Z<|cK 11 [(0,sl cy s.length cx),(1,sl Ld f.length Lh),(8,sl (GG am) s.length s.length),(11,sl (GG bx) s.length s.length),(12,I n),(15,I (rd o q)),(51,sl b8 o.length d6),(52,I (o.length:Int)),(53,I q),(64,bt),(92, .bool (decide ((((rd V (rd o q))=(s.length:Int))\/((rd V la)=(s.length:Int)))\/(¬((((s).drop (la).toNat).take ((min (rd V la+1) (s.length:Int)).toNat-la.toNat))=(((s).drop (rd o q).toNat).take ((min (rd V (rd o q)+1) (s.length:Int)).toNat-(rd o q).toNat)))))))] [(ri 3 (GG bx) s.length s.length U),(ri 3 (GG am) s.length s.length V)] ?_ ?_
      ·refine bR 81 Z (λr7=> ?_) (λr7=> ?_)
       ·refine aM Z Z Z Z<|aM Z Z Z Z<|aM Z Z Z Z<|aM Z Z Z Z<|aM Z Z Z Z<|aM Z Z Z Z<|aM Z Z Z Z<|aM Z Z Z Z<|aM Z Z Z Z<|aM Z Z Z Z<|aB Z Z<|wy (aT Z Z)<|aA ?_;exact KP
       ·refine aB Z Z<|wm Z<|aB Z Z<|wm Z<|aB Z Z<|wm Z<|aB Z Z<|wa (aD bFu Z (Ct.quiet (λw hw=>aAg ((bb.c _) w hw) ((rdr 1 Z) w hw) cE cE cE cE cE))) ?_;rintro _ _⟨rfl,rfl⟩;refine aB Z Z<|wm Z<|aB Z Z<|wm Z<|aB Z Z<|wm Z<|aB Z Z<|wa (aD bFu Z (Ct.quiet (λw hw=>aAg ((bb.c _) w hw) ((rdr 1 Z) w hw) cE cE cE cE cE))) ?_;rintro _ _⟨rfl,rfl⟩;refine aB Z Z<|wa (aD aPz Z (Ct.quiet (λw hw=>qG ((RdC.cutI (bb.c _) G G) w hw) ((RdC.cutI (bb.c _) G G) w hw) (by rw[ax,az];omega)))) ?_;rintro _ _⟨rfl,rfl⟩;refine aB Z Z<|wy (EQ Z)<|aB Z Z<|wy (aO Z Z)<|aA ?_;exact KP
      refine wy (aT Z Z)<|aA ?_;exact KP
     ·refine aM Z Z Z Z<|aM Z Z Z Z<|aM Z Z Z Z<|aM Z Z Z Z<|aM Z Z Z Z<|aM Z Z Z Z<|aM Z Z Z Z<|aM Z Z Z Z<|dX Z Z Z<|dX Z Z Z<|dX Z Z Z<|dX Z Z Z<|dX Z Z Z<|dX Z Z Z<|dX Z Z Z ?_;refine aM Z Z Z Z<|aM Z Z Z Z<|dX Z Z Z<|dX Z Z Z<|dX Z Z Z<|dX Z Z Z<|dX Z Z Z<|dX Z Z Z<|dX Z Z Z<|dX Z Z Z<|dX Z Z Z<|dX Z Z Z<|aM Z Z Z Z<|wy (aO Z Z)<|aA ?_;exact KP
    refine aA<|bA Z (λOt=> ?_) (λOt=> ?_)
    ·have gs:=aVh (n:=n) Vs Mc.1 Yn Vm Ot;refine aL<|wm Z<|wA Z Z<|wn Z<|aL<|wm Z<|wm Z<|wm Z<|wm Z<|wy (aG aa sz3 Z Z (rdr 0 Z))<|bV (bD 0 Z sz3 Z Z) ?_;rintro _ _ rfl;refine wn Z<|aL<|wA Z Z<|wm Z<|aA ?_;exact⟨q+1,upd U (rd o q) (n+1),n+1,rd o q,⟨G,G,(hM.step hs To hoo Cl kj G Kr gs)⟩,G,KP⟩
    ·have gs:=aVg (n:=n) hlm Vs Mc.1 Yn Vm Ot;refine aI<|aL<|wm Z<|wm Z<|wm Z<|wm Z<|wy (aG aa sz3 Z Z (rdr 0 Z))<|bV (bD 0 Z sz3 Z Z) ?_;rintro _ _ rfl;refine wn Z<|aL<|wA Z Z<|wm Z<|aA ?_;exact⟨q+1,upd U (rd o q) n,n,rd o q,⟨G,G,(hM.step hs To hoo Cl kj G Kr gs)⟩,G,KP⟩
  ·refine aU<|wq<|dB (R1:=[(ri 3 none 0 0 ([])),(ri 3 (GG bx) s.length s.length U),(ri 3 (GG am) s.length s.length V)]) (Sub.refl _) (λ_ h=>h.nil 3 1)<|wn Z<|aC<|wq<|wm Z<|wy (aN aa Z)<|wm Z<|aA<|aH ?_;refine fK (λ(A1:AF) (n1:Nat) (c1:Nat) (acc:AH) (j:Int)=>[(11,sl (GG bx) s.length s.length),(12,I n),(16,sl A1 n1 c1),(102,sl Ld f.length Lh),(103,I (f.length:Int)),(104,I j)]) (λA1 n1 c1 acc j=>[(ri 3 A1 n1 c1 acc),(ri 3 (GG bx) s.length s.length U),(ri 3 (GG am) s.length s.length V)]) (λA1 n1 c1 acc j=>(n1=acc.length)/\(0<=j)/\(j<=f.length)/\(acc=(f.take j.toNat).map (rd U))) (λA1 n1 c1 acc j=>(f.length-j).toNat) ?_ ?_
   ·exact⟨none,0,0,[],0,⟨(Z),G,G,(Z)⟩,KP⟩
   intro A1 n1 c1 acc j ⟨cv,ue,l7,ba⟩;have qk:=bq List.length ba;rw[cu,ax] at qk;have hfj:j<f.length->0<=rd f j/\rd f j<s.length:=λh=>by subst hf;exact(oQ ue h).1
   refine wq<|wL Z Z<|aA<|aC<|bA Z (λSo=> ?_) (λSo=> ?_)
   ·refine aI<|aC<|aH<|wq<|wy (aG aa sz3 Z Z (Mw.c _))<|wy (aR ai Z Z (Mw.c _))<|wn Z<|aL<|wm Z<|wm Z<|wm Z<|wy (aG aa sz3 Z Z (rdr 1 Z))<|wy (aR ai Z Z (rdr 1 Z)) ?_;refine wa (bH .i64 [rd U (rd f j)] aa zs3 Z Z Z) ?_;rintro _ _⟨fb,rfl,rfl⟩;refine wa (aS 1 Z aa zb3 Z Z Z (rdr 0 Z)) ?_;rintro _ _⟨ef,kc,rfl,rfl⟩;refine bF (v:=sl ef (n1+1) kc) Z<|wn Z<|aL<|wA Z Z<|wm Z<|aA ?_;exact⟨ef,n1+1,kc,acc++([rd U (rd f j)]),j+1,⟨(by rw[ah,cv];try rfl),G,G,(by rw[dH ue G,jo,ba];rfl)⟩,G,SA,λ_ h=>h.sel [1,2,3] cC Z⟩
   ·refine aU<|wq<|wm Z<|wm Z<|wA Z Z<|wg Z<|wn Z<|aQ [0] 99 cC Z ?_;refine⟨_,_,Z,Z,?_⟩;have Sa:AJ s o V s.length U n la:=by have e:q=s.length:=G;rw[<-e];exact hM
    rw[bg G] at ba;subst ba;obtain rfl:n1=f.length:=G
    exact⟨V,U,n,la,_,_,Z,Cl,Sa,Z⟩
theorem PS {w:World} {s:AH} (bb:Rd w cy ij cx 1 (ints .i64 s)) (IH: ∀ {w:World} {po:AF} {sp pr:Nat} {t:AH} {j:Int},Rd w po sp pr 1 (ints .i64 t)->t.length<s.length->((0<=j/\j<=1048576)/\ ∀x∈t,0<=x/\x<j)->t.length<=1000000->CF 265 #[sl po sp pr,I j] w (λv R'=> ∃(b:AH) (A:AF) (c:Nat),v=sl A t.length c/\b.Perm (iota t.length)/\b.Pairwise (bU t)/\R'=[(ri 3 A t.length c b)])) (dq:(0<=k/\k<=1048576)/\ ∀x∈s,0<=x/\x<k) (hN:s.length<=1000000):
  CF 265 #[sl cy ij cx,I k] w (λv R'=> ∃(b:AH) (A:AF) (c:Nat),v=sl A s.length c/\b.Perm (iota s.length)/\b.Pairwise (bU s)/\R'=[(ri 3 A s.length c b)]):=by
 obtain rfl:=bb.lenI;refine fn1 Tryz.func265 Z Z Z ?_;have yp:=bb.max;refine wq<|wn Z<|wq<|wm Z<|wa (aD bGc Z (Ct.fresh (λw hw=>aBu ((bb.c _) w hw) cE))) ?_;rintro _ _⟨_,rfl,bm,bl,rfl,rfl⟩;refine wn Z<|wq<|wm Z<|wm Z<|wm Z<|wa (aD bGb Z (Ct.fresh (λw hw=>aJh ((bb.c _) w hw) ((rdr 0 Z) w hw) dq (.refl _) hN))) ?_;rintro _ _⟨_,rfl,fi,fj,rfl,rfl⟩;refine wm Z<|wX Z Z<|wX Z Z<|wg Z<|wn Z<|aC<|wq<|wm Z<|wy (aN aa Z)<|wL Z Z<|aA<|bA Z (λaq=> ?_) (λaq=> ?_)
 ·refine wq<|wm Z<|wn Z<|aQ [0] 99 cC Z ?_;exact⟨_,Z,_,_,_,Z,(yD dq.1.1 dq.2 (.refl _)).2.1,(yD dq.1.1 dq.2 (.refl _)).2.2.2 (aUg G),Z⟩
 ·have cv:0<s.length:=by have:=NJ (s:=s);omega
  have Tu:=aGn dq.1.1 dq.2 (l:=bQ s) (.refl _) cv;have Uh:Nn s:=λx hx=>(dq.2 x hx).1;have Tj:=aPj cv;refine aI<|wq<|wm Z<|wm Z<|wm Z<|wa (aD bMm Z (Ct.fresh (λw hw=>aVf ((bb.c _) w hw) ((rdr 1 Z) w hw) ((rdr 0 Z) w hw) Uh Z Tu.1 Tu.2 hN))) ?_;rintro _ _⟨_,rfl,nx,nm,n,la,dy,jt,rfl,hNx,Xl,rfl⟩;refine wm Z<|wX Z Z<|wX Z Z<|wg Z<|wn Z<|wq<|dB (R1:=[(ri 3 none 0 0 ([])),(ri 3 dy ((bQ s).length) jt ((bQ s).map (rd nm))),(ri 3 fi ((s).length) fj (qZ s k (bQ s))),(ri 3 bm ((bQ s).length) bl (bQ s))]) (Sub.refl _) (λ_ h=>h.nil 3 1)<|wn Z<|aC<|wq<|wm Z ?_;refine wm Z<|wa (aD bGe Z (Ct.fresh (λw hw=>IH ((rdr 1 Z) w hw) (by rw[cu];exact Tj) ⟨by have:=Xl.bd;omega,aVe Xl Tu.1⟩ (by rw[cu];omega)))) ?_;rintro _ _⟨_,rfl,b1,eh,bo,rfl,cq,dj,rfl⟩;refine wy (aN aa Z)<|wm Z<|aA<|aH ?_;refine fK (λ(A1:AF) (n1:Nat) (c1:Nat) (acc:AH) (i:Int)=>[(0,sl cy s.length cx),(1,I k),(5,sl bm ((bQ s).length) bl),(10,sl A1 n1 c1),(35,sl eh (((bQ s).map (rd nm)).length) bo),(36,I ((((bQ s).map (rd nm)).length:Nat):Int)),(37,I i)]) (λA1 n1 c1 acc i=>[(ri 3 eh (((bQ s).map (rd nm)).length) bo b1),(ri 3 A1 n1 c1 acc),(ri 3 dy ((bQ s).length) jt ((bQ s).map (rd nm))),(ri 3 fi ((s).length) fj (qZ s k (bQ s))),(ri 3 bm ((bQ s).length) bl (bQ s))]) (λA1 n1 c1 acc i=>(n1=acc.length)/\(0<=i)/\(i<=b1.length)/\(acc=(b1.take i.toNat).map (rd (bQ s)))) (λA1 n1 c1 acc i=>(b1.length-i).toNat) ?_ ?_
  ·exact⟨none,0,0,[],0,⟨(Z),G,G,(Z)⟩,KP⟩
  intro A1 n1 c1 acc i ⟨cv,aw,ia,ba⟩;have Yy:((bQ s).map (rd nm)).length=(bQ s).length:=cu _;have j6:b1.length=(bQ s).length:=by rw[cq.length_eq,bB,cu]
  have qk:=bq List.length ba;rw[cu,ax] at qk
  have tj:i<b1.length->0<=rd b1 i/\rd b1 i<(bQ s).length:=λh=>by
   have:=aZ.1 (cq.subset (bJ (L:=b1) aw h));rwa[cu] at this
  refine wq<|wL Z Z<|aA<|aC<|bA Z (λbp=> ?_) (λbp=> ?_)
  ·refine aI<|aC<|aH<|wq<|wy (aG aa sz3 Z Z (rdr 0 Z))<|wy (aR ai Z Z (rdr 0 Z))<|wn Z<|aL<|wm Z<|wm Z<|wm Z<|wy (aG aa sz3 Z Z (rdr 4 Z))<|wy (aR ai Z Z (rdr 4 Z)) ?_;refine wa (bH .i64 [rd (bQ s) (rd b1 i)] aa zs3 Z Z Z) ?_;rintro _ _⟨ka,rfl,rfl⟩;refine wa (aS 2 Z aa zb3 Z Z Z (rdr 0 Z)) ?_;rintro _ _⟨en,es,rfl,rfl⟩;refine bF (v:=sl en (n1+1) es) Z<|wn Z<|aL<|wA Z Z<|wm Z<|aA ?_;exact⟨en,n1+1,es,acc++([rd (bQ s) (rd b1 i)]),i+1,⟨(by rw[ah,cv];try rfl),G,G,(by rw[dH aw G,jo,ba];rfl)⟩,G,SA,λ_ h=>h.sel [1,2,3,4,5] cC Z⟩
  ·have Si:acc=b1.map (rd (bQ s)):=by rw[ba,bg G]
   have hr:=aTq Uh Xl Tu.1 Tu.2 hNx cq dj;have pt:acc.Perm (bQ s):=by rw[Si];exact hr.1
   have hao:acc.Pairwise (bU s):=by rw[Si];exact hr.2
   refine aU<|wq<|wm Z<|wm Z<|wm Z<|wa (aD bGb Z (Ct.fresh (λw hw=>aJh ((bb.c _) w hw) ((rdr 1 Z) w hw) dq pt hN))) ?_;rintro _ _⟨_,rfl,fz,th,rfl,rfl⟩;refine wm Z<|wX Z Z<|wX Z Z<|wn Z<|wq<|wm Z<|wn Z<|aQ [0] 99 cC Z ?_;exact⟨_,Z,_,_,_,Z,(yD dq.1.1 dq.2 pt).2.1,(yD dq.1.1 dq.2 pt).2.2.2 hao,Z⟩
theorem aMq (m:Nat): ∀ {w:World} {cy:AF} {ij cx:Nat} {s:AH} {k:Int},Rd w cy ij cx 1 (ints .i64 s)->s.length<m->((0<=k/\k<=1048576)/\ ∀x∈s,0<=x/\x<k)->s.length<=1000000->
  CF 265 #[sl cy ij cx,I k] w (λv R'=> ∃(b:AH) (A:AF) (c:Nat),v=sl A s.length c/\b.Perm (iota s.length)/\b.Pairwise (bU s)/\R'=[(ri 3 A s.length c b)]):=by
 induction m with
 |zero=>intro w A n c s k _ h;omega
 |succ m ih=>
  intro w A n c s k bb hm dq hN;exact PS bb (λh1 h2 h3 h4=>ih h1 G h3 h4) dq hN
theorem PV {s:AH} (bb:Rd w cy ij cx 1 (ints .i64 s)) (dq:(0<=k/\k<=1048576)/\ ∀x∈s,0<=x/\x<k) (hN:s.length<=1000000):
  CF 265 #[sl cy ij cx,I k] w (λv R'=> ∃(b:AH) (A:AF) (c:Nat),v=sl A s.length c/\b.Perm (iota s.length)/\b.Pairwise (bU s)/\R'=[(ri 3 A s.length c b)]):=aMq (s.length+1) bb G dq hN
theorem aSv {s:AH} (bb:Rd w cy ij cx 1 (ints .i64 s)) (dq:(0<=k/\k<=1048576)/\ ∀x∈s,0<=x/\x<k) (hN:s.length<=100000):
  CF 219 #[sl cy ij cx,I k] w (λv R'=> ∃(b:AH) (A:AF) (c:Nat),v= .tuple #[sl A s.length c,I 0]/\b.Perm (iota s.length)/\b.Pairwise (bU s)/\R'=[(ri 3 A s.length c b)]):=by
 obtain rfl:=bb.lenI;refine fn2 Tryz.func219 Z Z Z ?_;have yp:=bb.max;refine wq<|wg Z<|wn Z<|aC<|wq<|wm Z<|wy (aN aa Z)<|wy (Yl.f (dE Z Z))<|aA<|aJ Z<|aI<|aC ?_;refine wq<|wm Z<|wm Z<|wa (aD aCi Z (Ct.fresh (λw hw=>pG ((bb.c _) w hw) cE))) ?_;rintro _ _⟨_,rfl,bm,bl,rfl,rfl⟩;refine wm Z<|wX Z Z<|wX Z Z<|wg Z<|wn Z<|wq<|wm Z<|wy (dI Z)<|aA<|aJ Z<|aI<|wq ?_;refine wm Z<|wm Z<|wa (aD bGe Z (Ct.fresh (λw hw=>PV ((bb.c _) w hw) dq G))) ?_;rintro _ _⟨_,rfl,b1,iu,js,rfl,cq,dj,rfl⟩;refine wg Z<|wn Z<|aQ [0] 99 cC Z ?_;refine⟨_,_,Z,Z,?_⟩;exact⟨b1,_,_,Z,cq,dj,Z⟩
theorem RN {ap:AF} {ar ao:Nat} {u:AH} (ac:Rd w ap ar ao 1 (ints .u8 u)) (an:aP u) (hN:u.length<=100000):
  CF 146 #[sl ap ar ao] w (λv R'=> ∃(b:AH) (A:AF) (c:Nat),v= .tuple #[sl A u.length c,I 0]/\b.Perm (iota u.length)/\b.Pairwise (bU u)/\R'=[(ri 3 A u.length c b)]):=by
 obtain rfl:=ac.lenI;refine fn2 Tryz.func146 Z Z Z ?_;have li:=ac.max;refine wq<|wg Z<|wn Z<|wq<|dB (R1:=[(ri 3 none 0 0 ([]))]) (Sub.refl _) (λ_ h=>h.nil 3 1)<|wn Z<|aC<|wq<|wm Z<|wy (aN af Z) ?_;refine wy (Yl.t (qK Z Z) G)<|aA<|bE Z<|aC<|wq<|wm Z<|wy (aN af Z)<|wm Z<|aA<|aH ?_;refine fK (λ(A1:AF) (n1:Nat) (c1:Nat) (acc:AH) (i:Int)=>[(4,sl A1 n1 c1),(10,sl ap u.length ao),(11,I (u.length:Int)),(12,I i)]) (λA1 n1 c1 acc i=>[(ri 3 A1 n1 c1 acc)]) (λA1 n1 c1 acc i=>(n1=acc.length)/\(0<=i)/\(i<=u.length)/\(acc=u.take i.toNat)) (λA1 n1 c1 acc i=>(u.length-i).toNat) ?_ ?_
 ·exact⟨none,0,0,[],0,⟨(Z),G,G,(Z)⟩,KP⟩
 intro A1 n1 c1 acc i ⟨cv,aw,ia,ba⟩;have qk:=bq List.length ba;rw[ax] at qk;refine wq<|wL Z Z<|aA<|aC<|bA Z (λaq=> ?_) (λaq=> ?_)
 ·have tj:=an.rd i;refine aI<|aC<|aH<|wq<|wy (aG af sz5 Z Z (ac.c _))<|wy (aR ay Z Z (ac.c _))<|wn Z<|aL<|wm Z<|wm Z<|wy (iK ay ai Z)<|wa (bH .i64 [rd u i] aa zs3 Z Z Z) ?_;rintro _ _⟨bx,rfl,rfl⟩;refine wa (aS 1 Z aa zb3 Z Z Z (rdr 0 Z)) ?_;rintro _ _⟨fi,fj,rfl,rfl⟩;refine bF (v:=sl fi (n1+1) fj) Z<|wn Z<|aL<|wA Z Z<|wm Z<|aA ?_;exact⟨fi,n1+1,fj,acc++([rd u i]),i+1,⟨(by rw[ah,cv];try rfl),G,G,(by rw[dH aw G,ba])⟩,G,SA,λ_ h=>h.sel [1] cC Z⟩
 ·have hau:acc=u:=by rw[ba,bg G]
  refine aU<|wq<|wm Z<|wa (aD bNp Z (Ct.fresh (λw hw=>aSv ((rdr 0 Z) w hw) ⟨G,λx hx=>by rw[hau] at hx;have:=an x hx;omega⟩ G))) ?_;rintro _ _⟨_,rfl,b1,ef,kc,rfl,cq,dj,rfl⟩;refine wX Z Z<|wX Z Z<|wg Z<|wn Z<|aQ [0] 99 cC Z ?_;refine⟨_,_,Z,Z,?_⟩;subst hau;exact⟨b1,_,_,Z,cq,dj,Z⟩
variable {B g ar ao:Nat} {w0:World} {R:List Row} {a0 a1 a2:Int} {ap:AF} {u:AH}
theorem aIn (hr:0<=a0/\a0<1000000):
  CT 149 #[PG g,I 1] B w0 ((rc 138 3 g [I a0,I a1,I a2])::R) (λv R'=>v=I (a0+1)/\R'=(rc 138 3 g [I (a0+1),I a1,I a2])::R):=by
 refine fn1 Iy Z Z Z ?_;refine wq<|wn Z<|wq<|wm Z<|wy (aF Z)<|wy (yF 0 0 underlying135 sz2 Z)<|wm Z<|wa (aLy Z (λw hw=>⟨_,Ga (P:=Tryz.prog) Tryz.func222 cA cA cA .i64 cA (y:=1) (s:=a0+1) (hw.cellAt 0 (r:=(rc 138 3 g [I a0,I a1,I a2])) (j:=0) Z Z Z) (hw.openAt 0 (r:=(rc 138 3 g [I a0,I a1,I a2])) 0 Z Z Z) (by have:IntKind.i64.wrap (a0+1)=a0+1:=(by rw[Bq];omega);simp[Op.intArith,this]),hw.set1 0 (r:=(rc 138 3 g [I a0,I a1,I a2])) (j:=0) (v:=I (a0+1)) Z Z Z⟩)) ?_;rintro _ _⟨rfl,rfl⟩;refine wn Z<|bS ?_;exact⟨_,Z,Z,Z⟩
theorem aIm (hr:0<=a1/\a1<1000000):
  CT 149 #[.pointer (some ⟨g,1,none⟩),I 1] B w0 ((rc 138 3 g [I a0,I a1,I a2])::R) (λv R'=>v=I (a1+1)/\R'=(rc 138 3 g [I a0,I (a1+1),I a2])::R):=by
 refine fn1 Iy Z Z Z ?_;refine wq<|wn Z<|wq<|wm Z<|wy (aF Z)<|wy (yF 0 1 underlying135 sz2 Z)<|wm Z<|wa (aLy Z (λw hw=>⟨_,Ga (P:=Tryz.prog) Tryz.func222 cA cA cA .i64 cA (y:=1) (s:=a1+1) (hw.cellAt 0 (r:=(rc 138 3 g [I a0,I a1,I a2])) (j:=1) Z Z Z) (hw.openAt 0 (r:=(rc 138 3 g [I a0,I a1,I a2])) 1 Z Z Z) (by have:IntKind.i64.wrap (a1+1)=a1+1:=(by rw[Bq];omega);simp[Op.intArith,this]),hw.set1 0 (r:=(rc 138 3 g [I a0,I a1,I a2])) (j:=1) (v:=I (a1+1)) Z Z Z⟩)) ?_;rintro _ _⟨rfl,rfl⟩;refine wn Z<|bS ?_;exact⟨_,Z,Z,Z⟩
theorem aIl (hr:0<=a2/\a2<1000000):
  CT 149 #[.pointer (some ⟨g,2,none⟩),I 1] B w0 ((rc 138 3 g [I a0,I a1,I a2])::R) (λv R'=>v=I (a2+1)/\R'=(rc 138 3 g [I a0,I a1,I (a2+1)])::R):=by
 refine fn1 Iy Z Z Z ?_;refine wq<|wn Z<|wq<|wm Z<|wy (aF Z)<|wy (yF 0 2 underlying135 sz2 Z)<|wm Z<|wa (aLy Z (λw hw=>⟨_,Ga (P:=Tryz.prog) Tryz.func222 cA cA cA .i64 cA (y:=1) (s:=a2+1) (hw.cellAt 0 (r:=(rc 138 3 g [I a0,I a1,I a2])) (j:=2) Z Z Z) (hw.openAt 0 (r:=(rc 138 3 g [I a0,I a1,I a2])) 2 Z Z Z) (by have:IntKind.i64.wrap (a2+1)=a2+1:=(by rw[Bq];omega);simp[Op.intArith,this]),hw.set1 0 (r:=(rc 138 3 g [I a0,I a1,I a2])) (j:=2) (v:=I (a2+1)) Z Z Z⟩)) ?_;rintro _ _⟨rfl,rfl⟩;refine wn Z<|bS ?_;exact⟨_,Z,Z,Z⟩
theorem IG {w:World}:
  CF 47 #[] w (λv R'=> ∃g,v=PG g/\R'=[(rc 138 3 g [I 0,I 0,I 0])]):=by
 refine fn1 Tryz.func47 Z Z Z ?_;refine wq<|wn Z<|wq<|wy (dW (v:= .agg #[I 0,I 0,I 0]) Z (λw=>cA))<|wa (bO (sz:=3) rfl rfl) ?_;rintro _ _⟨am,rfl,rfl⟩;refine wn Z<|aQ [0] 99 cC Z ?_;exact⟨_,Z,_,Z,Z⟩
theorem yX (ac:RdC B w0 R ap ar ao 1 (ints .u8 u)) (ce:ar=u.length) (an:aP u) (hN:u.length<=100000) (ha:0<=a0/\a0<1000000):
  CT 84 #[PG g,I 0,sl ap ar ao] B w0 ((rc 138 3 g [I a0,I a1,I a2])::R) (λv R'=> ∃(b:AH) (A:AF) (c:Nat),v= .tuple #[sl A u.length c,I 0]/\b.Perm (iota u.length)/\b.Pairwise (bU u)/\R'=(ri 3 A u.length c b)::(rc 138 3 g [I (a0+1),I a1,I a2])::R):=by
 subst ce;refine fn2 Hd Z Z Z ?_;refine wq<|wg Z<|wn Z<|aC<|wq<|wm Z<|wy (dL Gb Z Z)<|wm Z<|aB Z Z<|wm Z<|aB Z Z<|wy (Yl.f (eD Z Z) cC) ?_;refine wy (aO Z Z)<|wm Z<|aB Z Z<|wm Z<|aB Z Z<|wy (Yl.f (iA Z Z) cC)<|wy (aO Z Z)<|aA<|aJ Z<|aI<|wq<|wy (dW (v:= .agg #[.func (.func 146) #[] #[], .func (.func 147) #[] #[], .func (.func 148) #[] #[]]) Z (λw=>cA))<|wm rfl<|wy (bHg (v:= .func (.func 146) #[] #[]) rfl rfl (λw=>cA)) ?_;refine wn Z<|wq<|wm Z<|wm Z<|wa (PI bGn Z Z (Ct.fresh (λw hw=>RN ((RdC.right ac [_]) w hw) an hN))) ?_;rintro _ _⟨_,rfl,b1,bm,bl,rfl,cq,dj,rfl⟩;refine wm Z<|wX Z Z<|wX Z Z<|wg Z<|wn Z<|aC<|wq<|wm Z<|wR Z Z<|aA<|bE Z<|aL<|wm Z ?_;refine wm Z<|wy (aF Z)<|wy (yF 0 0 underlying138 aSq Z)<|wy (bW (q:=0) (rdr 1 Z) underlying136 aSr Z Z (au Z) cC cC Z)<|wa (aD aYc Z (Ct.at 1 Z (aIn G))) ?_;rintro _ _⟨rfl,rfl⟩;refine aA<|wq<|wm Z<|wm Z<|wg Z<|wn Z<|bN (R1:=((ri 3 bm u.length bl b1)::(rc 138 3 g [I (a0+1),I a1,I a2])::R)) hiZ ?_;refine⟨_,_,Z,Z,?_⟩;exact⟨b1,_,_,Z,cq,dj,Z⟩
theorem yV (ac:RdC B w0 R ap ar ao 1 (ints .u8 u)) (ce:ar=u.length) (an:aP u) (hN:u.length<=100000) (ha:0<=a1/\a1<1000000):
  CT 84 #[PG g,I 1,sl ap ar ao] B w0 ((rc 138 3 g [I a0,I a1,I a2])::R) (λv R'=> ∃(b:AH) (A:AF) (c:Nat),v= .tuple #[sl A u.length c,I 0]/\b.Perm (iota u.length)/\b.Pairwise (bU u)/\R'=(ri 3 A u.length c b)::(rc 138 3 g [I a0,I (a1+1),I a2])::R):=by
 subst ce;refine fn2 Hd Z Z Z ?_;refine wq<|wg Z<|wn Z<|aC<|wq<|wm Z<|wy (dL Gb Z Z)<|wm Z<|aB Z Z<|wm Z<|aB Z Z<|wy (Yl.f (eD Z Z) cC) ?_;refine wy (aO Z Z)<|wm Z<|aB Z Z<|wm Z<|aB Z Z<|wy (Yl.f (iA Z Z) cC)<|wy (aO Z Z)<|aA<|aJ Z<|aI<|wq<|wy (dW (v:= .agg #[.func (.func 146) #[] #[], .func (.func 147) #[] #[], .func (.func 148) #[] #[]]) Z (λw=>cA))<|wm rfl<|wy (bHg (v:= .func (.func 147) #[] #[]) rfl rfl (λw=>cA)) ?_;refine wn Z<|wq<|wm Z<|wm Z<|wa (PI bOv Z Z (Ct.fresh (λw hw=>aOx ((RdC.right ac [_]) w hw) an hN))) ?_;rintro _ _⟨_,rfl,b1,bm,bl,rfl,cq,dj,rfl⟩;refine wm Z<|wX Z Z<|wX Z Z<|wg Z<|wn Z<|aC<|wq<|wm Z<|wR Z Z<|aA<|bE Z<|aL<|wm Z ?_;refine wm Z<|wy (aF Z)<|wy (yF 0 0 underlying138 aSq Z)<|wy (bW (q:=1) (rdr 1 Z) underlying136 aSr Z Z (au Z) cC cC Z)<|wa (aD aYc Z (Ct.at 1 Z (aIm G))) ?_;rintro _ _⟨rfl,rfl⟩;refine aA<|wq<|wm Z<|wm Z<|wg Z<|wn Z<|bN (R1:=((ri 3 bm u.length bl b1)::(rc 138 3 g [I a0,I (a1+1),I a2])::R)) hiZ ?_;refine⟨_,_,Z,Z,?_⟩;exact⟨b1,_,_,Z,cq,dj,Z⟩
theorem yU (ac:RdC B w0 R ap ar ao 1 (ints .u8 u)) (ce:ar=u.length) (an:aP u) (hN:u.length<=100000) (ha:0<=a2/\a2<1000000):
  CT 84 #[PG g,I 2,sl ap ar ao] B w0 ((rc 138 3 g [I a0,I a1,I a2])::R) (λv R'=> ∃(b:AH) (A:AF) (c:Nat),v= .tuple #[sl A u.length c,I 0]/\b.Perm (iota u.length)/\b.Pairwise (bU u)/\R'=(ri 3 A u.length c b)::(rc 138 3 g [I a0,I a1,I (a2+1)])::R):=by
 subst ce;refine fn2 Hd Z Z Z ?_;refine wq<|wg Z<|wn Z<|aC<|wq<|wm Z<|wy (dL Gb Z Z)<|wm Z<|aB Z Z<|wm Z<|aB Z Z<|wy (Yl.f (eD Z Z) cC) ?_;refine wy (aO Z Z)<|wm Z<|aB Z Z<|wm Z<|aB Z Z<|wy (Yl.f (iA Z Z) cC)<|wy (aO Z Z)<|aA<|aJ Z<|aI<|wq<|wy (dW (v:= .agg #[.func (.func 146) #[] #[], .func (.func 147) #[] #[], .func (.func 148) #[] #[]]) Z (λw=>cA))<|wm rfl<|wy (bHg (v:= .func (.func 148) #[] #[]) rfl rfl (λw=>cA)) ?_;refine wn Z<|wq<|wm Z<|wm Z<|wa (PI bOu Z Z (Ct.fresh (λw hw=>aHw ((RdC.right ac [_]) w hw) an hN))) ?_;rintro _ _⟨_,rfl,o1,bm,bl,rfl,Ge,Hk,rfl⟩;refine wm Z<|wX Z Z<|wX Z Z<|wg Z<|wn Z<|aC<|wq<|wm Z<|wR Z Z<|aA<|bE Z<|aL<|wm Z ?_;refine wm Z<|wy (aF Z)<|wy (yF 0 0 underlying138 aSq Z)<|wy (bW (q:=2) (rdr 1 Z) underlying136 aSr Z Z (au Z) cC cC Z)<|wa (aD aYc Z (Ct.at 1 Z (aIl G))) ?_;rintro _ _⟨rfl,rfl⟩;refine aA<|wq<|wm Z<|wm Z<|wg Z<|wn Z<|bN (R1:=((ri 3 bm u.length bl o1)::(rc 138 3 g [I a0,I a1,I (a2+1)])::R)) hiZ ?_;refine⟨_,_,Z,Z,?_⟩;obtain⟨b,hb,hs⟩:=pW u;obtain rfl:=places hb hs Ge Hk;exact⟨o1,_,_,Z,hb,hs,Z⟩
theorem aCu (ac:RdC B w0 R ap ar ao 1 (ints .u8 u)) (ce:ar=u.length) (an:aP u) (hN:u.length<=100000) (ha:(0<=a0/\a0<1000000)/\(0<=a1/\a1<1000000)/\(0<=a2/\a2<1000000)):
  CT 48 #[PG g,sl ap ar ao] B w0 ((rc 138 3 g [I a0,I a1,I a2])::R) (λv R'=> ∃(b:AH) (A A2:AF) (c c2:Nat),v= .tuple #[.agg #[sl A u.length c,sl A2 u.length c2,bt],I 0]/\b.Perm (iota u.length)/\b.Pairwise (bU u)/\R'=(ri 3 A u.length c b)::(ri 3 A2 u.length c2 (zR u b))::(rc 138 3 g [I (a0+1),I (a1+1),I (a2+1)])::R):=by
 subst ce;refine bQi Tryz.func48 Z Z Z underlying79 Z bHn ?_;refine wq<|wa (iC (sz:=3) bKe Z) ?_;rintro _ _⟨am,rfl,rfl⟩;refine wn Z<|wq<|wa (iC (sz:=3) bKj Z) ?_;rintro _ _⟨bx,rfl,rfl⟩;refine aA<|aC<|wq<|wm Z<|aA<|aH<|mR 4<|dY<|wq<|wy (Yl.t (eD Z Z) cC)<|aA<|aC<|bE Z ?_;refine aI<|aC<|aH<|wq<|wm Z<|wn Z<|wq<|wm Z<|wm Z<|wm Z<|wa (aD bEb Z (Ct.pick [2,0,1] 3 cC Z (yX (RdC.right ac [_,_]) (by first|rfl|(simp;done)|omega) an hN G))) ?_;rintro _ _⟨b0,fi,fj,rfl,rr,yk,rfl⟩;refine wm Z<|wX Z Z<|wX Z Z<|wg Z<|wn Z<|aC<|wq<|wm Z<|wy (Yl.f (fE Z Z) cC)<|aA<|aJ Z<|aI<|aL ?_;refine wm Z<|wm Z<|wy (bW (q:=0) (rdr 2 Z) xq dO Z Z (au Z) cC cC Z)<|bV (aX 2 Z Z Z dO Z Z Z Z (au Z)) ?_;rintro _ _ rfl;refine aA<|aL<|wy (Yl.is (bX Z Z) Z)<|wm Z<|aA<|dY<|wq<|wy (Yl.t (eD Z Z) cC)<|aA<|aC<|bE Z<|aI<|aC<|aH ?_;refine wq<|wm Z<|wn Z<|wq<|wm Z<|wm Z<|wm Z<|wa (aD bEb Z (Ct.pick [1,0,2,3] 4 cC Z (yV (RdC.right ac [_,_,_]) (by first|rfl|(simp;done)|omega) an hN G))) ?_;rintro _ _⟨b1,dy,jt,rfl,cq,dj,rfl⟩;refine wm Z<|wX Z Z<|wX Z Z<|wg Z<|wn Z<|aC<|wq<|wm Z<|wy (Yl.f (fE Z Z) cC)<|aA<|aJ Z<|aI<|aL ?_;refine wm Z<|wm Z<|wy (bW (q:=1) (rdr 3 Z) xq dO Z Z (au Z) cC cC Z)<|bV (aX 3 Z Z Z dO Z Z Z Z (au Z)) ?_;rintro _ _ rfl;refine aA<|aL<|wy (Yl.is (bX Z Z) Z)<|wm Z<|aA<|dY<|wq<|wy (Yl.t (eD Z Z) cC)<|aA<|aC<|bE Z<|aI<|aC<|aH ?_;refine wq<|wm Z<|wn Z<|wq<|wm Z<|wm Z<|wm Z<|wa (aD bEb Z (Ct.pick [1,0,2,3,4] 5 cC Z (yU (RdC.right ac [_,_,_,_]) (by first|rfl|(simp;done)|omega) an hN G))) ?_;rintro _ _⟨b2,eh,bo,rfl,Ts,Ud,rfl⟩;refine wm Z<|wX Z Z<|wX Z Z<|wg Z<|wn Z<|aC<|wq<|wm Z<|wy (Yl.f (fE Z Z) cC)<|aA<|aJ Z<|aI<|aL ?_;refine wm Z<|wm Z<|wy (bW (q:=2) (rdr 4 Z) xq dO Z Z (au Z) cC cC Z)<|bV (aX 4 Z Z Z dO Z Z Z Z (au Z)) ?_;rintro _ _ rfl;refine aA<|aL<|wy (Yl.is (bX Z Z) Z)<|wm Z<|aA<|dY<|wq<|wy (Yl.f (eD Z Z) cC)<|aA<|aC<|aJ Z<|aU<|wq ?_;refine wm Z<|wy (bW (q:=0) (rdr 4 Z) xq dO Z Z (au Z) cC cC Z)<|wy (yL 4 aa Z Z Z)<|wa (aD bLm Z (Ct.fresh (λw hw=>aBe ((RdC.right ac [_,_,_,_,_,_]) w hw) ((rdr 3 Z) w hw) rr yk G))) ?_;rintro _ _⟨_,rfl,ln,co,rfl,rfl⟩;refine wm Z<|wX Z Z<|wX Z Z<|wg Z<|wn Z<|wq<|wm Z<|wy (bW (q:=0) (rdr 5 Z) xq dO Z Z (au Z) cC cC Z)<|wy (yL 5 aa Z Z Z)<|wa (aD bQq Z (Ct.fresh (λw hw=>aVu ((RdC.right ac [_,_,_,_,_,_,_]) w hw) ((rdr 4 Z) w hw) rr yk G))) ?_;rintro _ _⟨_,rfl,fh,rx,rfl,rfl⟩;refine wm Z<|wX Z Z<|wX Z Z<|wg Z<|wn Z<|wq<|wy (bW (q:=0) (rdr 6 Z) xq dO Z Z (au Z) cC cC Z)<|wy (yL 6 aa Z Z Z)<|wy (bW (q:=1) (rdr 6 Z) xq dO Z Z (au Z) cC cC Z)<|wy (yL 6 aa Z Z Z)<|wa (aD aPz Z (Ct.quiet (λw hw=>qG ((rdr 5 Z) w hw) ((rdr 4 Z) w hw) (by rw[rr.length_eq,bB];omega)))) ?_;rintro _ _⟨rfl,rfl⟩;refine fH 51 Z (uK rr cq yk dj)<|wm Z<|aB Z Z<|wy (bW (q:=0) (rdr 6 Z) xq dO Z Z (au Z) cC cC Z)<|aB Z Z<|wy (yL 6 aa Z Z Z)<|aB Z Z<|wy (bW (q:=2) (rdr 6 Z) xq dO Z Z (au Z) cC cC Z)<|aB Z Z<|wy (yL 6 aa Z Z Z)<|aB Z Z<|wa (aD aPz Z (Ct.quiet (λw hw=>qG ((rdr 5 Z) w hw) ((rdr 2 Z) w hw) (by rw[rr.length_eq,bB];omega)))) ?_;rintro _ _⟨rfl,rfl⟩;refine fH 57 Z (uK rr Ts yk Ud)<|wy (aT Z Z)<|wm Z<|aB Z Z<|wm Z<|aB Z Z<|wm Z<|aB Z Z<|wa (aD aPz Z (Ct.quiet (λw hw=>qG ((rdr 1 Z) w hw) ((rdr 0 Z) w hw) (by rw[CZ,rr.length_eq,bB];omega)))) ?_;rintro _ _⟨rfl,rfl⟩;refine fH 62 Z (Z)<|wy (aT Z Z)<|wn Z<|aC<|bI mixed<|wD 0 Z (bW (q:=0) (rdr 6 Z) xq dO Z Z (au Z) cC cC Z)<|wD 1 Z (yL 6 aa Z Z Z)<|wD 2 Z (aK Z)<|wD 3 Z (aK Z)<|wD 4 Z (aK Z)<|wG 5 Z Z Z (aK Z)<|wG 6 Z Z Z (bW (q:=0) (rdr 6 Z) xq dO Z Z (au Z) cC cC Z)<|wG 7 Z Z Z (yL 6 aa Z Z Z)<|wG 8 Z Z Z (aK Z) ?_;refine GN 9 Z cA Z Z Z (aD bQp Z (Ct.quiet (λw hw=>aVt ((RdC.right ac [_,_,_,_,_,_,_,_]) w hw) ((rdr 5 Z) w hw) ((rdr 1 Z) w hw) rr yk G Z))) ?_;rintro _ _⟨rfl,rfl⟩;refine⟨.inr hiZ,?_⟩;refine iF (v:=bt) (bq Value.bool (mh (trivial)))<|wD 10 Z (aT Z Z)<|wD 11 Z (dW (v:= .agg #[sl fi u.length fj,sl ln ((b0).length) co,bt]) Z (λw=>cA))<|oU 12 rfl cA (fQ (vs:=[sl fi u.length fj,sl ln ((b0).length) co,bt]) 7 rfl bHn rfl rfl rfl (by intro v hv;simp at hv;rcases hv with rfl|rfl|rfl<;>rfl) rfl) ?_;rintro _ _ rfl;refine⟨.inl cA,?_⟩;refine wD 13 Z (bC Z)<|wN<|bS ?_;refine⟨_,7,_,Z,Z,Z,Z,Z,Z,Z,_,Z,((ri 3 fi u.length fj b0)::(ri 3 ln ((b0).length) co (zR u b0))::(rc 138 3 g [I (a0+1),I (a1+1),I (a2+1)])::R),λ_ h=>h.selR (F:=[_,_,_,_,_,_,_,_]) (F':=[_,_,_]) [5,1,3] cC Z,?_⟩;have e:b0.length=u.length:=by rw[rr.length_eq,bB]
 rw[e];exact⟨b0,_,_,_,_,Z,rr,yk,Z⟩
variable {B g ar ao:Nat} {w0:World} {R:List Row} {a0 a1 a2 so:Int} {ap:AF} {u:AH}
theorem IY (ac:RdC B w0 R ap ar ao 1 (ints .u8 u)) (ce:ar=u.length) (hb:so<0\/2<so):
  CT 84 #[PG g,I so,sl ap ar ao] B w0 ((rc 138 3 g [I a0,I a1,I a2])::R) (λv R'=>v= .tuple #[sl none 0 0,I 1]/\R'=(rc 138 3 g [I a0,I a1,I a2])::R):=by
 subst ce;refine fn2 Hd Z Z Z ?_;refine wq<|wg Z<|wn Z<|aC<|wq<|wm Z<|wy (dL Gb Z Z)<|wm Z<|aB Z Z<|wm Z<|aB Z Z<|wL Z Z ?_;refine wy (aO Z Z)<|wm Z<|cK 3 [(0,PG g),(1,I so),(2,sl ap u.length ao),(20, .bool (decide ((so<0)\/(3<=so))))] ((rc 138 3 g [I a0,I a1,I a2])::R) ?_ ?_
 ·refine bR 17 Z (λaq=> ?_) (λaq=> ?_)
  ·refine aM Z Z Z Z<|aM Z Z Z Z<|wy (aT Z Z)<|aA ?_;exact KP
  ·refine aB Z Z<|wm Z<|aB Z Z<|wy (iA Z Z)<|wy (aO Z Z)<|aA ?_;exact KP
 refine fH 20 Z G<|aA<|bE Z<|wq<|wg Z<|wn Z<|bS ?_;refine⟨_,_,Z,Z,?_⟩;exact⟨Z,Z⟩
theorem IZ (ac:RdC B w0 R ap ar ao 1 (ints .u8 u)) (ce:ar=u.length) (an:aP u) (hN:u.length<=100000) (ha:(0<=a0/\a0<1000000)/\(0<=a1/\a1<1000000)/\(0<=a2/\a2<1000000)):
  CT 84 #[PG g,I so,sl ap ar ao] B w0 ((rc 138 3 g [I a0,I a1,I a2])::R) (λv R'=> ∃(b:AH) (A:AF) (c:Nat) (e d0 d1 d2:Int),v= .tuple #[sl A b.length c,I e]/\
   (((so<0\/2<so)/\e=1/\b=[]/\d0=a0/\d1=a1/\d2=a2)\/(¬(so<0\/2<so)/\e=0/\b.Perm (iota u.length)/\b.Pairwise (bU u)/\[d0,d1,d2]=upd [a0,a1,a2] so (rd [a0,a1,a2] so+1)/\(d0<=a0+1/\0<=d0)/\(d1<=a1+1/\0<=d1)/\(d2<=a2+1/\0<=d2)))/\R'=(ri 3 A b.length c b)::(rc 138 3 g [I d0,I d1,I d2])::R):=by
 by_cases hb:so<0\/2<so
 ·intro w hw;refine(IY (u:=u) ac ce hb w hw).mono ?_;rintro e w' ⟨v,R',he,hh,hv,hr⟩;subst hr;exact⟨v,_,he,hh.nil 3 1,[],none,0,1,a0,a1,a2,hv, .inl ⟨hb,Z,Z,Z,Z,Z⟩,Z⟩
 ·have hlen: ∀b:AH,b.Perm (iota u.length)->u.length=b.length:=λb h=>by rw[h.length_eq,bB]
  rcases(by omega:so=0\/so=1\/so=2) with rfl|rfl|rfl
  ·refine (yX ac ce an hN ha.1).mono ?_;rintro v R' ⟨b,A,c,hv,hp,hs,hr⟩;rw[hlen b hp] at hv hr;exact⟨b,A,c,0,a0+1,a1,a2,hv, .inr ⟨hb,Z,hp,hs,Z,G,G,G⟩,hr⟩
  ·refine (yV ac ce an hN ha.2.1).mono ?_;rintro v R' ⟨b,A,c,hv,hp,hs,hr⟩;rw[hlen b hp] at hv hr;exact⟨b,A,c,0,a0,a1+1,a2,hv, .inr ⟨hb,Z,hp,hs,Z,G,G,G⟩,hr⟩
  ·refine (yU ac ce an hN ha.2.2).mono ?_;rintro v R' ⟨b,A,c,hv,hp,hs,hr⟩;rw[hlen b hp] at hv hr;exact⟨b,A,c,0,a0,a1,a2+1,hv, .inr ⟨hb,Z,hp,hs,Z,G,G,G⟩,hr⟩
end Go.Proofs.YtdbebmmhdefgdaaGreat
namespace Go.Pure
open Go Go.Eng
section
variable {p:AH}
def gQ (p:AH):Nat->List Bool->Int->AH × List Bool
 |0,E,_=>([],E)
 |f+1,E,k=>if rdb E k=true then([],E) else(k::(gQ p f (pU E k true) (rd p k)).1,(gQ p f (pU E k true) (rd p k)).2)
def cntF (E:List Bool):Nat:=E.countP λb=> !b
theorem aYy (n:Nat):cntF (List.replicate n false)=n:=by unfold cntF;rw[List.countP_replicate];simp
theorem EA {E:List Bool} {k:Int} (k0:0<=k) (hk:k<E.length) (h:rdb E k≠true):cntF (pU E k true)+1=cntF E:=by
 have bc:k.toNat<E.length:=G
 have e:E[k.toNat]=false:=by
  have h2:rdb E k=E[k.toNat]:=by unfold rdb;rw[ak,av bc];rfl
  rw[h2] at h;simpa using h
 unfold cntF pU;rw[List.countP_set bc,e];simp only[Cf,Bool.not_false,ww,xk,Fz,qo];have:0<E.countP λb=> !b:=List.countP_pos_iff.2 ⟨E[k.toNat],mf bc,by rw[e];rfl⟩;omega
theorem tZ {f:Nat} {E:List Bool} {k:Int} (h:rdb E k=true):gQ p f E k=([],E):=by
 cases f with
 |zero=>rfl
 |succ f=>rw[gQ,df h]
theorem OD {E:List Bool} {k:Int} (k0:0<=k) (hk:k<E.length) (h:rdb E k≠true):0<cntF E:=by have:=EA k0 hk h;omega
theorem KM {f:Nat} {E:List Bool} {k:Int} (k0:0<=k) (hk:k<E.length) (hf:cntF E<=f) (h:rdb E k≠true):gQ p f E k=(k::(gQ p (f-1) (pU E k true) (rd p k)).1,(gQ p (f-1) (pU E k true) (rd p k)).2):=by
 have:=OD k0 hk h;obtain⟨g,rfl⟩: ∃g,f=g+1:=⟨f-1,G⟩;rw[gQ,bz h];rfl
def jD (p:AH):Nat->List Bool × AD
 |0=>(List.replicate p.length false,[])
 |i+1=>((gQ p p.length (jD p i).1 i).2,if (gQ p p.length (jD p i).1 i).1=[] then(jD p i).2 else(jD p i).2++[(gQ p p.length (jD p i).1 i).1])
def eZ (p:AH):AD:=(jD p p.length).2
theorem rH (hp:p.Perm (iota p.length)): ∀(f:Nat) (E:List Bool) (k:Int),E.length=p.length->0<=k->k<p.length->(gQ p f E k).2.length=p.length/\(∀x∈(gQ p f E k).1,0<=x/\x<p.length)/\(gQ p f E k).1.length+cntF (gQ p f E k).2=cntF E
 |0,E,k,hl,_,_=>And.intro hl (And.intro (λx hx=>absurd hx (zi (a:=x))) (nu _))
 | f+1,E,k,hl,k0,hk=>by
  rw[gQ];split
  ·exact And.intro hl (And.intro (λx hx=>absurd hx (zi (a:=x))) (nu _))
  ·rename_i h;have hn:=aZ.1 (hp.subset (bJ (L:=p) k0 hk));have ih:=rH hp f (pU E k true) (rd p k) (by rw[lG];exact hl) hn.1 hn.2;have hc:=EA k0 G h;refine⟨ih.1,λx hx=> ?_,?_⟩
   ·rcases jm.1 hx with rfl|hx
    ·exact⟨k0,hk⟩
    ·exact ih.2.1 x hx
   ·have:=ih.2.2;simp only[dh];omega
theorem lY (hp:p.Perm (iota p.length)): ∀i:Nat,i<=p.length->(jD p i).1.length=p.length/\(∀c∈(jD p i).2,∀x∈c,0<=x/\x<p.length)/\(jD p i).2.flatten.length+cntF (jD p i).1=p.length
 |0,_=>⟨by simp[jD],λc hc=>(by cases hc),by simp[jD,aYy]⟩
 | i +1,hi=>by
  have ih:=lY hp i G;have hw:=rH hp p.length (jD p i).1 i ih.1 G G;rw[jD];refine⟨hw.1,?_,?_⟩
  ·intro c hc x hx;split at hc
   ·exact ih.2.1 c hc x hx
   ·rcases gp.1 hc with hc|hc
    ·exact ih.2.1 c hc x hx
    ·obtain rfl:=ib.1 hc;exact hw.2.1 x hx
  ·split
   ·rename_i h;have h2:=hw.2.2;rw[h] at h2;have:=ih.2.2;simp only[jl] at h2;show(jD p i).2.flatten.length+cntF (gQ p p.length (jD p i).1 i).2=p.length;omega
   ·rw [qg,ah];have h2:=hw.2.2;have:=ih.2.2;simp only[sw,Ii,jk];omega
theorem aLg (hp:p.Perm (iota p.length)): ∀c∈eZ p,∀x∈c,0<=x/\x<p.length:=(lY hp p.length (di _)).2.1
theorem aYr (hp:p.Perm (iota p.length)):(eZ p).flatten.length<=p.length:=by have:=(lY hp p.length (di _)).2.2;unfold eZ;omega
theorem NZ (p:AH): ∀i:Nat,(jD p i).2.length<=i
 |0=>by simp[jD]
 |i+1=>by
  have:=NZ p i;rw[jD];split
  ·exact Nat.le_succ_of_le this
  ·rw[ah];simp only[gq];omega
theorem bEf {i:Int} {E E2:List Bool} {ls:AD} {acc:AH} (i0:0<=i) (Lv:jD p i.toNat=(E,ls)) (Qo:gQ p p.length E i=(acc,E2)) (fd:acc≠[]):jD p (i+1).toNat=(E2,ls++[acc]):=by
 rw[show(i+1).toNat=i.toNat+1 by omega,jD,Lv];simp only[show((i.toNat:Nat):Int)=i by omega,Qo,bz fd]
theorem bJp {i:Int} {E E2:List Bool} {ls:AD} {acc:AH} (i0:0<=i) (Lv:jD p i.toNat=(E,ls)) (Qo:gQ p p.length E i=(acc,E2)) (fd:acc=[]):jD p (i+1).toNat=(E2,ls):=by
 rw[show(i+1).toNat=i.toNat+1 by omega,jD,Lv];simp only[show((i.toNat:Nat):Int)=i by omega,Qo,df fd]
theorem aEi (hp:p.Perm (iota p.length)) {f:Nat} {E E2:List Bool} {acc:AH} {i k:Int} (hl:E.length=p.length) (i0:0<=i) (hi:i<p.length) (hw:(acc++(gQ p f E2 k).1,(gQ p f E2 k).2)=gQ p p.length E i):acc.length<=p.length:=by
 have h:=(rH hp p.length E i hl i0 hi).2.2;rw[<-hw] at h;simp only[ah] at h;have:cntF E<=E.length:=List.countP_le_length;omega
def kT (l c:AH):AH:=c.reverse.map (rd l)
def backL (l:AH) (cs:AD):AH:=(cs.reverse.map (kT l)).flatten
theorem aIh {l:AH} {cs:AD} {k:Nat} (hk:k<cs.length):(((cs.reverse).take (k+1)).map (kT l)).flatten=(((cs.reverse).take k).map (kT l)).flatten++kT l (rdl cs (cs.length-1-k)):=by
 have bc:k<cs.reverse.length:=by rw[qh];exact hk
 rw[uf,av bc,jo,qg];congr 1;simp only[Cv,lm,si,sw,Ii,jk];congr 1;rw[Er];unfold rdl;rw[ak,av G];simp only[oh];congr 1;omega
theorem aEf {l c:AH} {k:Nat} (hk:k<c.length):((c.reverse).take (k+1)).map (rd l)=((c.reverse).take k).map (rd l)++[rd l (rd c (c.length-1-k))]:=by
 have bc:k<c.reverse.length:=by rw[qh];exact hk
 rw[uf,av bc,jo];congr 1;simp only[Cv,lm,si];congr 2;rw[Er,fI G G];congr 1;omega
theorem nQ (l c:AH):(kT l c).length=c.length:=by simp[kT]
theorem aBt {cs:AD}: ∀ {k:Nat} {l:AH},(((cs.reverse).take k).map (kT l)).flatten.length<=cs.flatten.length:=by
 intro k l
 have h1:(((cs.reverse).take k).map (kT l)).flatten.length=(((cs.reverse).take k).map List.length).sum:=by
  rw[um,zg];congr 2;funext c;exact nQ l c
 have h2:cs.flatten.length=((cs.reverse).map List.length).sum:=by rw[um,Ij,List.sum_reverse]
 rw[h1,h2]
 conv=>rhs;rw[<-gu k cs.reverse]
 rw[jo,Cn];omega
end
end Go.Pure
namespace Go.Proofs.YtdbebmmhdefgdaaGreat
open Go Go.Eng Go.Pure
open Tryz
set_option maxRecDepth 100000
variable {a V l s P acc u:AH} {i:Int} {n ot kf:Nat} {w:World} {ke:AF}
theorem aOh (hd:a.Nodup) (i0:0<=i) (hi:i<a.length):rd a i∉a.take i.toNat:=λh=>by
 obtain⟨q,hq,e⟩:=gz.1 h;rw[ax] at hq;rw[yu] at e;have:=jT hd (i:=(q:Int)) (j:=i) G G i0 hi (by rw[fI (i:=(q:Int)) G G];simp only[cz];exact e);omega
theorem aMz {E:List Bool} (i0:0<=i) (hi:i<a.length) (hl:E.length=n) (ha:0<=rd a i/\rd a i<n) (h: ∀x:Int,0<=x->x<n->(rdb E x=true↔x∈a.take i.toNat)): ∀x:Int,0<=x->x<n->(rdb (pU E (rd a i) true) x=true↔x∈a.take (i+1).toNat):=by
 intro x x0 x1;rw[dH i0 hi,xS ha.1 G x0,gp,ib];split
 ·rename_i e;exact⟨λ_=> .inr e,λ_=>rfl⟩
 ·rename_i e;rw[h x x0 x1];exact⟨.inl,λh=>h.resolve_right e⟩
theorem aWg (i0:0<=i) (hi:i<a.length) (hd:a.Nodup) (hl:V.length=n) (ha: ∀q:Int,0<=q->q<a.length->0<=rd a q/\rd a q<n) (h: ∀q:Int,0<=q->q<i->rd V (rd a q)=q): ∀q:Int,0<=q->q<i+1->rd (upd V (rd a i) i) (rd a q)=q:=by
 intro q q0 q1;have h1:=ha i i0 hi;have h2:=ha q q0 G;rw[gG h1.1 h2.1 G];split
 ·rename_i e;exact jT hd i0 hi q0 G e.symm
 ·rename_i e;refine h q q0 ?_;rcases bn q i with g|g
  ·exact g
  ·obtain rfl:q=i:=G
   exact absurd Z e
def fsL (l:AH):AH:=(iota l.length).map (lfC l)
theorem yE (l:AH):(fsL l).length=l.length:=by unfold fsL;rw[cu,bB]
theorem aFl (i0:0<=i) (hi:i<l.length):rd (fsL l) i=lfC l i:=by
 unfold fsL;rw[vZ i0 (by rw[bB];exact hi),xU i0 hi]
theorem FK (hl:aP l):(dC (iota l.length) l (256:Int).toNat).length=l.length:=by
 have:=(kI (l:=l) hl).1.length_eq;rwa[bB] at this
theorem aKa (hl:aP l):(dC (iota l.length) l (256:Int).toNat).Perm (iota (dC (iota l.length) l (256:Int).toNat).length):=by
 rw[FK hl];exact(kI (l:=l) hl).1
theorem bFs (hl:aP l) (h1:V.length=(dC (iota l.length) l (256:Int).toNat).length) (h2: ∀q:Int,0<=q->q<(dC (iota l.length) l (256:Int).toNat).length->rd V (rd (dC (iota l.length) l (256:Int).toNat) q)=q):V=fsL l:=by
 rw[FK hl] at h1 h2;refine bM (by rw[h1,yE]) λj j0 j1=> ?_;rw[aFl j0 G];obtain⟨q,q0,q1,e,f⟩:=aBc (l:=l) hl j0 G;rw[f,<-e];exact h2 q q0 q1
theorem VV (i0:0<=i) (hi:i<a.length) (h:acc=P++ofT s (a.take i.toNat)) (h0:rd a i=0):acc=P++ofT s (a.take (i+1).toNat):=by
 rw[aAr i0 hi,df h0,jk];exact h
theorem aFw (i0:0<=i) (hi:i<a.length) (h:acc=P++ofT s (a.take i.toNat)) (h0: ¬rd a i=0):acc++[rd s (rd a i-1)]=P++ofT s (a.take (i+1).toNat):=by
 rw[aAr i0 hi,bz h0,<-gy,h]
theorem UF (hd:a.Nodup) (i0:0<=i) (hi:i<a.length) (h0:rd a i=0):i+1=zat (a.take (i+1).toNat):=by rw[XN hd i0 hi,df h0]
theorem aEb {m:Int} (hd:a.Nodup) (i0:0<=i) (hi:i<a.length) (h:m=zat (a.take i.toNat)) (h0: ¬rd a i=0):m=zat (a.take (i+1).toNat):=by rw[XN hd i0 hi,bz h0];exact h
theorem VW (s:AH) (l:AH):(ofT s l).length<=l.length:=by unfold ofT;rw[cu];exact zt _ _
theorem VG (da:Rd w ke ot kf 1 (ints .i64 a)) (hp:a.Perm (iota a.length)) (hN:a.length<=1000000):
  CF 150 #[sl ke ot kf] w (λv R'=> ∃A c V,v= .tuple #[sl A a.length c,bt]/\V.length=a.length/\(∀q:Int,0<=q->q<a.length->rd V (rd a q)=q)/\R'=[(ri 3 A a.length c V)]):=by
 obtain rfl:=da.lenI;refine fn2 Tryz.func150 Z Z Z ?_;have i6:=da.max;have hnd:a.Nodup:=hp.symm.nodup (eH _);have ju: ∀q:Int,0<=q->q<a.length->0<=rd a q/\rd a q<a.length:=λq q0 q1=>aZ.1 (hp.subset (bJ q0 q1));refine wq<|wg Z<|wn Z<|wq<|wm Z<|wy (aN aa Z)<|wa (dD aa zb3 Z Z) ?_;rintro _ _⟨am,rfl,rfl⟩;refine bF (v:=sl (GG am) a.length a.length) Z<|wn Z<|wq<|wm Z<|wy (aN aa Z)<|wa (KA ng zb4 Z Z G G G) ?_;rintro _ _⟨bx,rfl,rfl⟩;refine bF (v:=sl (GG bx) a.length a.length) Z<|wn Z<|aC<|wq<|wm Z<|wy (aN aa Z)<|wm Z<|aA<|aH ?_;refine fA (λ(i:Int) (V:AH) (E:List Bool)=>[(0,sl ke a.length kf),(4,sl (GG am) a.length a.length),(5,sl (GG bx) a.length a.length),(14,sl ke a.length kf),(15,I (a.length:Int)),(16,I i)]) (λi V E=>[⟨4,1,(GG bx),a.length,a.length,bools E,false⟩,(ri 3 (GG am) a.length a.length V)]) (λi V E=>(0<=i)/\(i<=a.length)/\(V.length=a.length)/\(E.length=a.length)/\(∀x:Int,0<=x->x<a.length->(rdb E x=true↔x∈a.take i.toNat))/\(∀q:Int,0<=q->q<i->rd V (rd a q)=q)) (λi V E=>(a.length-i).toNat) ?_ ?_
 ·exact⟨0,List.replicate a.length (0:Int),List.replicate a.length false,⟨G,G,(by rw[bu]),(by rw[bu]),(λx h0 h1=>by rw[BX];simp),(λq h0 h1=>G)⟩,KP⟩
 intro i V E ⟨aw,ia,ld,Rv,hE,hV⟩;refine wq<|wL Z Z<|aA<|aC<|bA Z (λaq=> ?_) (λaq=> ?_)
 ·have ha:=ju i aw G;have mn:=aOh hnd aw G;refine aI<|aC<|aH<|wq<|wm Z<|wy (aG aa sz3 Z Z (da.c _))<|wy (aR ai Z Z (da.c _))<|wg Z<|wn Z<|aC<|wq<|wm Z ?_;refine wy (Yl.f (eD Z Z))<|wm Z<|aB Z Z<|wm Z<|aB Z Z<|wm Z<|aB Z Z<|wy (aN aa Z)<|aB Z Z<|wy (Yl.f (iA Z Z))<|wy (aO Z Z)<|wm Z<|aB Z Z<|wm Z<|aB Z Z ?_;refine wm Z<|aB Z Z<|wy (aG ng sz4 Z Z (rdr 0 Z))<|aB Z Z<|wy (Yl.f (AR Ah Z Z (rdr 0 Z)) (λh=>mn ((hE _ ha.1 ha.2).1 h)))<|wy (aO Z Z)<|aA<|aJ Z<|aI<|aL<|wm Z<|wm Z<|wm Z<|wm Z<|wm Z ?_;refine wy (aG aa sz3 Z Z (rdr 1 Z))<|bV (bD 1 Z sz3 Z Z) ?_;rintro _ _ rfl;refine wy (aG ng sz4 Z Z (rdr 0 Z))<|bV (tJ 0 Z sz4 Z Z) ?_;rintro _ _ rfl;refine aA<|aL<|wA Z Z<|wm Z<|aA ?_;exact⟨i+1,upd V (rd a i) i,pU E (rd a i) true,⟨G,G,(by rw[aY];exact ld),(by rw[lG];exact Rv),(aMz aw G Rv ha hE),(aWg aw G hnd ld ju hV)⟩,G,KP⟩
 ·refine aU<|wq<|wm Z<|wg Z<|wn Z<|aQ [1] 99 cC Z ?_;refine⟨_,_,Z,Z,?_⟩;exact⟨_,_,V,Z,ld,λq h0 h1=>hV q h0 G,Z⟩
theorem aTm (da:Rd w ke ot kf 1 (ints .i64 a)) (hp:a.Perm (iota a.length)) (hN:a.length<=1000000):
  CF 197 #[sl ke ot kf] w (λv R'=>v=bt):=by
 obtain rfl:=da.lenI;refine fn1 Tryz.func197 Z Z Z ?_;have i6:=da.max;refine wq<|wn Z<|wq<|wm Z<|wa (aD NS Z (Ct.fresh (λw hw=>VG ((da.c _) w hw) hp hN))) ?_;rintro _ _⟨_,rfl,bm,bl,inv,rfl,zp,zv,rfl⟩;refine wm Z<|wX Z Z<|wX Z Z<|wg Z<|wn Z<|wq<|wm Z<|wn Z<|aQ [] 99 cC Z ?_;refine⟨_,Z,?_⟩;rfl
theorem bDk {ap:AF} {ar ao:Nat} (ac:Rd w ap ar ao 1 (ints .u8 u)) (an:aP u) (hN:u.length<=1000000):
  CF 184 #[sl ap ar ao] w (λv R'=> ∃A c,v=sl A (fsL u).length c/\R'=[(ri 3 A ((fsL u).length) c (fsL u))]):=by
 obtain rfl:=ac.lenI;refine fn1 Tryz.func184 Z Z Z ?_;have li:=ac.max;refine wq<|wn Z<|wq<|wm Z<|wy (aN af Z)<|wa (dD aa zb3 Z Z) ?_;rintro _ _⟨am,rfl,rfl⟩;refine bF (v:=sl (GG am) u.length u.length) Z<|wn Z<|wq<|wm Z<|wy (aN af Z)<|wa (dD aa zb3 Z Z) ?_;rintro _ _⟨bx,rfl,rfl⟩;refine bF (v:=sl (GG bx) u.length u.length) Z<|wn Z<|aC<|wq<|wm Z<|wy (aN af Z)<|wm Z<|aA<|aH ?_;refine fA (λ(i:Int) (V:AH) (K:AH)=>[(3,sl (GG am) u.length u.length),(4,sl (GG bx) u.length u.length),(15,sl ap u.length ao),(16,I (u.length:Int)),(17,I i)]) (λi V K=>[(ri 3 (GG bx) u.length u.length K),(ri 3 (GG am) u.length u.length V)]) (λi V K=>(0<=i)/\(i<=u.length)/\(V.length=u.length)/\(K.length=u.length)/\(∀j:Int,0<=j->j<i->rd V j=j)/\(∀j:Int,0<=j->j<i->rd K j=rd u j)) (λi V K=>(u.length-i).toNat) ?_ ?_
 ·exact⟨0,List.replicate u.length (0:Int),List.replicate u.length (0:Int),⟨G,G,(by rw[bu]),(by rw[bu]),(λj h1 h2=>G),(λj h1 h2=>G)⟩,KP⟩
 intro i V K ⟨aw,ia,ld,Pz,hV,hK⟩;refine wq<|wL Z Z<|aA<|aC<|bA Z (λaq=> ?_) (λaq=> ?_)
 ·have tj:=an.rd i;refine aI<|aC<|aH<|wq<|wm Z<|wy (aG af sz5 Z Z (ac.c _))<|wy (aR ay Z Z (ac.c _))<|wg Z<|wn Z<|aL<|wm Z<|wm Z<|wm Z ?_;refine wm Z<|wm Z<|wm Z<|wy (iK ay ai Z)<|wy (aG aa sz3 Z Z (rdr 1 Z))<|bV (bD 1 Z sz3 Z Z) ?_;rintro _ _ rfl;refine wy (aG aa sz3 Z Z (rdr 0 Z))<|bV (bD 0 Z sz3 Z Z) ?_;rintro _ _ rfl;refine aA<|aL<|wA Z Z<|wm Z<|aA ?_;exact⟨i+1,upd V i i,upd K i (rd u i),⟨G,G,(by rw[aY];exact ld),(by rw[aY];exact Pz),(eP (f:=λj=>j) aw G hV Z),(eP (f:=λj=>rd u j) aw G hK Z)⟩,G,KP⟩
 ·obtain rfl:V=iota u.length:=bM (by rw[bB];omega) λj h0 h1=>by rw[xU h0 G];exact hV j h0 G
  obtain rfl:u=K:=(bM G λj h0 h1=>hK j h0 G:K=u).symm;refine aU<|wq<|wm Z<|wm Z<|wa (aD NR Z (Ct.fresh (λw hw=>uJ ((rdr 1 Z) w hw) ((rdr 0 Z) w hw) G an (λi hi=>aZ.1 hi) (by rw[bB];omega)))) ?_;rintro _ _⟨_,rfl,fi,fj,rfl,rfl⟩;refine wm Z<|wX Z Z<|wX Z Z<|wn Z<|wq<|wm Z<|wa (aD NS Z (Ct.fresh (λw hw=>VG ((rdr 0 Z) w hw) (aKa an) (by rw[FK an];omega)))) ?_;rintro _ _⟨_,rfl,ef,kc,inv,rfl,zp,zv,rfl⟩;refine wm Z<|wX Z Z<|wX Z Z<|wg Z<|wn Z<|wq<|wm Z<|wn Z<|aQ [0] 99 cC Z ?_;refine⟨_,Z,?_⟩;obtain rfl:inv=fsL u:=bFs an zp zv;have el:(dC (iota u.length) u (256:Int).toNat).length=(fsL u).length:=by rw[FK an,yE]
  rw[el];exact⟨_,_,Z,Z⟩
theorem bCq (h:u.length=0) (ha:a.length=0):ofL u a=[]/\zat a=0:=by
 obtain rfl:u=[]:=ek h;obtain rfl:a=[]:=ek ha;exact⟨Z,Z⟩
theorem aWv (hu:aP u):(fsL u).Perm (iota (fsL u).length):=by
 rw[yE];exact EH (λx h0 h1=>aBd (l:=u) hu h0 h1) λx y x0 x1 y0 y1 e=>aVq (l:=u) hu x0 x1 y0 y1 e
theorem aQg {Uy:AF} {n_p Uz:Nat} {p:AH} (Kp:Rd w Uy n_p Uz 1 (ints .i64 p)) (hp:p.Perm (iota p.length)) (hN:p.length<=1000000):
  CF 183 #[sl Uy n_p Uz] w (λv R'=> ∃(A:AF) (c:Nat) (vals:AG) (Rs:List Row),v= .tuple #[sl A vals.length c,bt]/\SlR .i64 Rs vals (eZ p)/\R'=⟨52,1,A,vals.length,c,vals,false⟩::Rs):=by
 obtain rfl:=Kp.lenI;refine fn2 Tryz.func183 Z Z Z ?_;have m_p:=Kp.max;refine wq<|wg Z<|wn Z<|aC<|wq<|wm Z<|wa (aD aXu Z (Ct.quiet (λw hw=>aTm ((Kp.c _) w hw) hp hN))) ?_;rintro _ _⟨rfl,rfl⟩;refine wy (dI Z)<|aA<|aJ Z<|aI<|wq<|wm Z<|wy (aN aa Z)<|wa (KA ng zb4 Z Z G G G) ?_;rintro _ _⟨am,rfl,rfl⟩;refine bF (v:=sl (GG am) p.length p.length) Z<|wn Z<|wq<|wa (mK [] underlying232 bKl Z Z Z Z) ?_;rintro _ _⟨du,rfl,rfl⟩;refine wn Z<|aC<|wq<|wm Z<|wy (aN aa Z)<|wm Z<|aA<|aH ?_;refine uA (λ(i:Int) (A1:AF) (n1:Nat) (c1:Nat) (vals:AG) (ls:AD) (E:List Bool) (Rs:List Row)=>[(0,sl Uy p.length Uz),(4,sl (GG am) p.length p.length),(5,sl A1 n1 c1),(17,I (p.length:Int)),(18,I i)]) (λi A1 n1 c1 vals ls E Rs=>(⟨52,1,A1,n1,c1,vals,false⟩::⟨4,1,(GG am),p.length,p.length,bools E,false⟩::Rs)) (λi A1 n1 c1 vals ls E Rs=>(0<=i)/\(i<=p.length)/\(n1=vals.length)/\(SlR .i64 Rs vals ls)/\(jD p i.toNat=(E,ls))) (λi A1 n1 c1 vals ls E Rs=>(p.length-i).toNat) ?_ ?_
 ·exact⟨0,GG du,0,0,[],[],List.replicate p.length false,[],⟨G,G,(Z),(SlR.nil _),(Z)⟩,KP⟩
 intro i A1 n1 c1 vals ls E Rs ⟨aw,ia,cv,vf,Lv⟩;have Rv:E.length=p.length:=by have h:=(lY hp i.toNat G).1;rw[Lv] at h;exact h
 have Yk:vals.length<=i.toNat:=by have h:=NZ p i.toNat;rw[Lv] at h;rw[vf.1];exact h
 refine wq<|wL Z Z<|aA<|aC<|bA Z (λaq=> ?_) (λaq=> ?_)
 ·refine aI<|aC<|aH<|wq<|wm Z<|wn Z<|wq<|dB (R1:=((ri 3 none 0 0 ([]))::⟨52,1,A1,n1,c1,vals,false⟩::⟨4,1,(GG am),p.length,p.length,bools E,false⟩::Rs)) (Sub.refl _) (λ_ h=>h.nil 3 1)<|wn Z<|aC<|aC ?_;refine aL<|wm Z<|wn Z<|aH ?_;refine UM (λ(k:Int) (A2:AF) (n2:Nat) (c2:Nat) (acc:AH) (E2:List Bool) (f:Nat)=>[(0,sl Uy p.length Uz),(4,sl (GG am) p.length p.length),(5,sl A1 n1 c1),(7,sl A2 n2 c2),(8,I k),(17,I (p.length:Int)),(18,I i)]) (λk A2 n2 c2 acc E2 f=>((ri 3 A2 n2 c2 acc)::⟨52,1,A1,n1,c1,vals,false⟩::⟨4,1,(GG am),p.length,p.length,bools E2,false⟩::Rs)) (λk A2 n2 c2 acc E2 f=>(0<=k)/\(k<p.length)/\(n2=acc.length)/\(E2.length=p.length)/\(cntF E2<=f)/\((acc++(gQ p f E2 k).1,(gQ p f E2 k).2)=gQ p p.length E i)) (λk A2 n2 c2 acc E2 f=>f) ?_ ?_
  ·exact⟨i,none,0,0,[],E,p.length,⟨G,G,(Z),(Rv),(by have:cntF E<=E.length:=List.countP_le_length;omega),(Z)⟩,KP⟩
  intro k A2 n2 c2 acc E2 f ⟨md,vd,tg,Xe,hf,hw⟩;have qk:=aEi hp Rv aw G hw;refine aC<|wq<|wm Z<|wm Z<|wy (aG ng sz4 Z Z (rdr 2 Z))<|wy (AR Ah Z Z (rdr 2 Z))<|wy (EQ Z)<|aA<|bA Z (λbp=> ?_) (λbp=> ?_)
  ·have hgo:=KM (p:=p) md G hf bp;have s7:=EA md G bp;have fg:=OD md G bp;have Me:=aZ.1 (hp.subset (bJ (L:=p) md vd));refine aI<|aC<|aH<|wq<|wm Z<|wm Z<|wy (aG ng sz4 Z Z (rdr 2 Z))<|bV (tJ 2 Z sz4 Z Z) ?_;rintro _ _ rfl;refine aA<|aL<|wm Z<|wm Z<|wa (bH .i64 [k] aa zs3 Z Z Z) ?_;rintro _ _⟨ki,rfl,rfl⟩;refine wa (aS 1 Z aa zb3 Z Z Z (rdr 0 Z)) ?_;rintro _ _⟨fc,dv,rfl,rfl⟩;refine bF (v:=sl fc (n2+1) dv) Z<|wn Z<|aL<|wm Z<|wm Z<|wy (aG aa sz3 Z Z (Kp.c _))<|wy (aR ai Z Z (Kp.c _))<|wn Z ?_;exact⟨rd p k,fc,n2+1,dv,acc++([k]),pU E2 k true,(f-1),⟨G,G,(by rw[ah,tg];rfl),(by rw[lG];exact Xe),G,(by rw[<-hw,hgo];simp only[gy,qc])⟩,G,SA,λ_ h=>h.selR (F:=[_,_,_,_]) (F':=[_,_,_]) [1,2,3] cC Z⟩
  ·have Qo:gQ p p.length E i=(acc,E2):=by rw[<-hw,tZ (vk.1 bp),jk]
   refine aU<|wq<|wm Z<|wy (aN aa Z)<|wy (dE Z Z)<|aA<|bA Z (λew=> ?_) (λew=> ?_)
   ·refine aL<|wm Z<|wm Z<|wa (mK [Value.slice A2 n2 c2] underlying232 bKl Z Z Z Z) ?_;rintro _ _⟨Li,rfl,rfl⟩;refine wa (pJ 2 Z Z underlying232 bPy Z Z Z Z Z (rdr 0 Z) (by simp[Value.oneCell']) (by dsimp only;omega)) ?_;rintro _ _⟨kl,ci,rfl,rfl⟩;refine bF (v:=sl kl (n1+1) ci) Z<|wn Z<|aL<|wA Z Z<|wm Z<|aA ?_;exact⟨i+1,kl,n1+1,ci,vals++([Value.slice A2 n2 c2]),(ls++[acc]),E2,((ri 3 A2 n2 c2 acc)::Rs),⟨G,G,(by rw[ah,cv];rfl),(vf.snoc tg),(bEf aw Lv Qo (λe=>by rw[e] at tg;simp at tg;omega))⟩,G,SA,λ_ h=>h.selR (F:=[_,_,_,_]) (F':=[_,_,_]) [2,3,1] cC rfl⟩
   ·refine aI<|aL<|wA Z Z<|wm Z<|aA ?_;exact⟨i+1,A1,n1,c1,vals,ls,E2,Rs,⟨G,G,(cv),(vf),(bJp aw Lv Qo (ek G))⟩,G,SA,λ_ h=>h.selR (F:=[_,_,_]) (F':=[_,_]) [1,2] cC Z⟩
 ·refine aU<|wq<|wm Z<|wg Z<|wn Z<|aQ [0] 2 cC Z ?_;refine⟨_,_,Z,Z,?_⟩;obtain rfl:ls=eZ p:=by unfold eZ;rw[<-show i.toNat=p.length by omega,Lv]
  subst cv;exact⟨_,_,vals,Rs,Z,vf,Z⟩
end Go.Proofs.YtdbebmmhdefgdaaGreat
namespace Go.Proofs
open Go.Shelf
def Tryz.laysSlF06_f276_ren:Go.Shelf.Ren:=⟨λ|6=>276|15=>192|14=>304|28=>251|29=>252|20=>329|21=>330|22=>331|23=>332|24=>333|25=>334|26=>335|27=>336|46=>358|47=>282|48=>283|49=>359|50=>360|57=>366|n=>n,λ|22=>228|24=>230|25=>315|3=>3|39=>167|0=>0|53=>123|55=>112|4=>4|46=>289|45=>288|50=>97|5=>5|9=>9|66=>316|70=>320|76=>337|77=>338|n=>n,λ|n=>n⟩
theorem Tryz.laysSlF06_f276:Go.Proofs.SlLaysF0.n6 Tryz.prog Tryz.laysSlF06_f276_ren:= {
 mixed:=cA
 f6:=⟨Tryz.f276.name,cC,Tryz.func276.trans (bq some cA)⟩
 f14:=⟨Tryz.f304.name,cC,Tryz.func304.trans (bq some cA)⟩
 f15:=Tryz.func192.trans (bq some cA)
 f20:=⟨Tryz.f329.name,cC,Tryz.func329.trans (bq some cA)⟩
 f21:=⟨Tryz.f330.name,cC,Tryz.func330.trans (bq some cA)⟩
 f22:=⟨Tryz.f331.name,cC,Tryz.func331.trans (bq some cA)⟩
 f23:=⟨Tryz.f332.name,cC,Tryz.func332.trans (bq some cA)⟩
 f24:=⟨Tryz.f333.name,cC,Tryz.func333.trans (bq some cA)⟩
 f25:=⟨Tryz.f334.name,cC,Tryz.func334.trans (bq some cA)⟩
 f26:=⟨Tryz.f335.name,cC,Tryz.func335.trans (bq some cA)⟩
 f27:=⟨Tryz.f336.name,cC,Tryz.func336.trans (bq some cA)⟩
 f28:=Tryz.func251.trans (bq some cA)
 f29:=Tryz.func252.trans (bq some cA)
 f46:=⟨Tryz.f358.name,cC,Tryz.func358.trans (bq some cA)⟩
 f47:=Tryz.func282.trans (bq some cA)
 f48:=Tryz.func283.trans (bq some cA)
 f49:=⟨Tryz.f359.name,cC,Tryz.func359.trans (bq some cA)⟩
 f50:=⟨Tryz.f360.name,cC,Tryz.func360.trans (bq some cA)⟩
 f57:=⟨Tryz.f366.name,cC,Tryz.func366.trans (bq some cA)⟩
 t0:=Ec
 a0:=Kc
 z0:=Je
 v0:=Fe
 t3:=Bz
 a3:=He
 z3:=Fy
 v3:=Cq
 t4:=Ed
 a4:=Ke
 z4:=Jf
 v4:=Ff
 t5:=Ee
 a5:=Kg
 z5:=Jg
 v5:=Fg
 t9:=Ef
 a9:=Kh
 z9:=Jh
 v9:=Fh
 t22:=Tryz.underlying228
 a22:=Tryz.isAgg228
 z22:=Tryz.sizeOf228
 v22:=Tryz.zeroValue228
 t25:=Tryz.underlying315
 a25:=Tryz.isAgg315
 z25:=Tryz.sizeOf315
 v25:=Tryz.zeroValue315
 t39:=Az
 a39:=Ei
 z39:=Dt
 v39:=Bi
 t45:=Gm
 a45:=Tryz.isAgg288
 z45:=Tryz.sizeOf288
 v45:=Hg
 t46:=Gn
 a46:=Tryz.isAgg289
 z46:=Tryz.sizeOf289
 v46:=Hl
 t50:=Hf
 a50:=Tryz.isAgg97
 z50:=Tryz.sizeOf97
 v50:=Il
 t53:=Cx
 a53:=Hz
 z53:=Gl
 v53:=Dv
 t55:=Cw
 a55:=Hy
 z55:=Gj
 v55:=Du
 t66:=Gp
 a66:=Tryz.isAgg316
 z66:=Tryz.sizeOf316
 v66:=Hm
 t70:=Gq
 a70:=Tryz.isAgg320
 z70:=Tryz.sizeOf320
 v70:=Ho
 t76:=Gr
 a76:=Tryz.isAgg337
 z76:=Tryz.sizeOf337
 v76:=Hq
 t77:=Gs
 a77:=Tryz.isAgg338
 z77:=Tryz.sizeOf338
 v77:=Hr}
open Go.RowKit Go.Lib Go.Sort in
theorem Tryz.slices_SortFunc {α:Type} [Inhabited α] (k:Nat) (aE: ∀w,(isAgg 230).run Tryz.prog w= .ok true w) (zE: ∀w,(Go.sizeOf 230).run Tryz.prog w= .ok k w) (enc:α->AG) (hk: ∀x,(enc x).length=k) (h1: ∀x,∀v∈enc x,v.oneCell'=true) (cf:α->α->Int) (hO:SWO (ltOf cf)) (g:Nat) (cb:Array Value) (gr off cap:Nat) (d:Array α) (w:World) (eg: ∀args w,(callFunc g args).run Tryz.prog w= .ok (.enter g args) w) (zc:CmpLays Tryz.prog g cb enc k cf gr off d.size w) (hH:HoldsK enc k w gr off d) (hblk:gr<w.heap.size) (hsz:d.size<4611686018427387904):
  Calls Tryz.prog 276 #[.slice (some ⟨gr,off,none⟩) d.size cap, .func (.func g) #[] cb] w λe w'=>
   e= .returned (.tuple #[])/\ ∃d' n os,PermIn 0 d.size d d'/\SortedIn (ltOf cf) 0 d.size d'/\w'=sortWorldK enc k w gr off n d' os:=AnyQ.slices_SortFunc Tryz.laysSlF06_f276 k aE zE enc hk h1 cf hO g cb gr off cap d w eg zc hH hblk hsz
end Go.Proofs
namespace Go.Proofs.YtdbebmmhdefgdaaGreat
open Go Go.Eng Go.Pure
open Tryz
set_option maxRecDepth 100000
variable {w:World} {o8 sp Ax pr mv nv:Nat} {z7 po mu nj:AF} {qv:AG} {ws:AD} {bs rs:AH} {t1 t2 h:Int}
theorem aUy {io:AF} {mt iz:Nat} {l:AH} (dr:Rd w io mt iz 1 (ints .i64 l)):
  CF 119 #[sl io mt iz] w (λv R'=>v=I (orL l)):=by
 obtain rfl:=dr.lenI;refine fn1 Tryz.func119 Z Z Z ?_;have Nw:=dr.max;refine wq<|wn Z<|wq<|wn Z<|aC<|wq<|wm Z<|wy (aN aa Z)<|wm Z<|aA ?_;refine aH ?_;refine fM (λ(k:Int)=>[(3,I 0),(6,sl io l.length iz),(7,I (l.length:Int)),(8,I k)]) (λk=>[]) (λk=>(0<=k)/\(k<=l.length)/\(orL l=orL (l.drop k.toNat))) (λk=>(l.length-k).toNat) ?_ ?_
 ·exact⟨0,⟨G,G,(Z)⟩,KP⟩
 intro k ⟨md,vd,ho⟩;refine wq<|wL Z Z<|aA<|aC<|bA Z (λaq=> ?_) (λaq=> ?_)
 ·refine aI<|aC<|aH<|wq<|wy (aG aa sz3 Z Z (dr.c _))<|wy (aR ai Z Z (dr.c _))<|wn Z<|wq<|wm Z<|wm Z<|wy (fE Z Z)<|aA ?_;refine bA Z (λbp=> ?_) (λbp=> ?_)
  ·refine wq<|wm Z<|wn Z<|bS ?_;refine⟨_,Z,?_⟩;exact bq (Value.int .i64) (by rw[ho,bCl md G G])
  ·refine aI<|aL<|wA Z Z<|wm Z<|aA ?_;exact⟨k+1,⟨G,G,(by rw[ho,bIg md G G])⟩,G,KP⟩
 ·refine aU<|wq<|wm Z<|wn Z<|bS ?_;refine⟨_,Z,?_⟩;exact bq (Value.int .i64) (by rw[ho,ou G];rfl)
theorem xE (bb:Rd w (GG o8) 1 1 4 [sl z7 ws.length Ax,sl po sp pr,sl mu bs.length mv,sl nj rs.length nv]) (v7:Rd w z7 ws.length Ax 1 qv) (Nz:SlW .u8 w qv ws) (jp:Rd w mu bs.length mv 1 (ints .i64 bs)) (v6:Rd w nj rs.length nv 1 (ints .i64 rs)) (Sh:0<=t1/\t1<ws.length/\t1<bs.length) (Sm:0<=t2/\t2<=1000000) (Sp:0<(rdl ws t1).length) (Sq:0<=rd bs t1/\rd bs t1+(rdl ws t1).length<=rs.length) (hh:0<=h/\h<=1000000):
  CF 279 #[PG o8, .agg #[I t1,I t2],I h] w (λv R'=>v=I (ahd ws bs rs (t1,t2) h)):=by
 refine fn1 Tryz.func279 Z Z Z ?_;have m_r:=v6.max;have Jl:=jp.max;have m_w:=v7.max;have e1:=ko (t2+h) (show((rdl ws t1).length:Int)≠0 by omega);have e2:=ja (t2+h) (show(0:Int)<((rdl ws t1).length:Int) by omega);refine wq<|wa (bO (sz:=2) Z Z) ?_;rintro _ _⟨am,rfl,rfl⟩;refine wn Z<|aC<|bI mixed<|wD 0 Z (aK Z)<|wD 1 Z (aF Z)<|wD 2 Z (yF 3 3 rq dO Z)<|wD 3 Z (fJ (bb.c _) aa Z Z Z)<|wD 4 Z (aK Z)<|wD 5 Z (aF Z)<|wD 6 Z (yF 2 2 rq dO Z)<|wD 7 Z (fJ (bb.c _) aa Z Z Z)<|wD 8 Z (bW (q:=0) (rdr 0 Z) jy sz3 Z Z (au Z) cC cC Z)<|wD 9 Z (yL 0 ai Z Z Z)<|wD 10 Z (aG aa sz3 Z Z (jp.c _)) ?_;refine wD 11 Z (aR ai Z Z (jp.c _))<|wD 12 Z (bW (q:=1) (rdr 0 Z) jy sz3 Z Z (au Z) cC cC Z)<|wD 13 Z (yL 0 ai Z Z Z)<|wD 14 Z (aK Z)<|wD 15 Z (bX Z Z)<|wD 16 Z (aK Z)<|wD 17 Z (aF Z)<|wD 18 Z (yF 0 0 rq mM Z)<|wD 19 Z (fJ (bb.c _) dm Z Z Z)<|wD 20 Z (bW (q:=0) (rdr 0 Z) jy sz3 Z Z (au Z) cC cC Z)<|wD 21 Z (yL 0 ai Z Z Z)<|wD 22 Z (aG dm dA Z Z (v7.c _)) ?_;obtain⟨fi,fj,Zy,Mj,hb_7,mhr_6⟩:=Nz.at (i:=t1) G G;refine wD 23 Z (rF af Z Z Z (v7.c _) Zy)<|wD 24 Z (aN af Z)<|wD 25 Z (uV Z Z)<|wD 26 Z (bX Z Z)<|wD 27 Z (aG aa sz3 Z Z (v6.c _))<|wD 28 Z (aR ai Z Z (v6.c _))<|wD 29 Z (bC Z)<|wN<|aQ [] 99 cC Z ?_;refine⟨_,Z,?_⟩;rfl
theorem VS (bb:Rd w (GG o8) 1 1 4 [sl z7 ws.length Ax,sl po sp pr,sl mu bs.length mv,sl nj rs.length nv]) (v7:Rd w z7 ws.length Ax 1 qv) (Nz:SlW .u8 w qv ws) (jp:Rd w mu bs.length mv 1 (ints .i64 bs)) (v6:Rd w nj rs.length nv 1 (ints .i64 rs)) (Sh:0<=t1/\t1<ws.length/\t1<bs.length) (Sm:0<=t2/\t2<=1000000) (Sp:0<(rdl ws t1).length) (Sq:0<=rd bs t1/\rd bs t1+(rdl ws t1).length<=rs.length):
  CF 278 #[PG o8, .agg #[I t1,I t2]] w (λv R'=>v=I (ahd ws bs rs (t1,t2) 0)):=by
 refine fn1 Tryz.func278 Z Z Z ?_;have m_r:=v6.max;have Jl:=jp.max;have m_w:=v7.max;refine wq<|wa (bO (sz:=2) Z Z) ?_;rintro _ _⟨am,rfl,rfl⟩;refine wn Z<|wq<|wm Z<|wy (cB (vs:=[I t1,I t2]) (rdr 0 Z) jy Z kF Z Z (au Z) Z)<|wa (aD aCh Z (Ct.quiet (λw hw=>xE ((bb.c _) w hw) ((v7.c _) w hw) (Nz.c hw) ((jp.c _) w hw) ((v6.c _) w hw) cE cE cE cE cE))) ?_;rintro _ _⟨rfl,rfl⟩;refine wn Z<|aQ [] 99 cC Z ?_;refine⟨_,Z,?_⟩;rfl
theorem aEo {u1 u2:Int} {g_p:Nat} {g_h:Nat} (bb:Rd w (GG o8) 1 1 4 [sl z7 ws.length Ax,sl po sp pr,sl mu bs.length mv,sl nj rs.length nv]) (v7:Rd w z7 ws.length Ax 1 qv) (Nz:SlW .u8 w qv ws) (jp:Rd w mu bs.length mv 1 (ints .i64 bs)) (v6:Rd w nj rs.length nv 1 (ints .i64 rs)) (Kp:Rd w (GG g_p) 1 1 1 [PG o8]) (Qa:Rd w (GG g_h) 1 1 1 [I h]) (Sh:0<=t1/\t1<ws.length/\t1<bs.length) (Sm:0<=t2/\t2<=1000000) (Sp:0<(rdl ws t1).length) (Sq:0<=rd bs t1/\rd bs t1+(rdl ws t1).length<=rs.length) (ha_u:0<=u1/\u1<ws.length/\u1<bs.length) (hb_u:0<=u2/\u2<=1000000) (hc_u:0<(rdl ws u1).length) (hd_u:0<=rd bs u1/\rd bs u1+(rdl ws u1).length<=rs.length) (hh:0<=h/\h<=1000000):
  CF 277 #[.agg #[I t1,I t2], .agg #[I u1,I u2],PG g_p,PG g_h] w (λv R'=>v=I (aEq ws bs rs h (t1,t2) (u1,u2))):=by
 refine fn1 Tryz.func277 Z Z Z ?_;have m_r:=v6.max;have Jl:=jp.max;have m_w:=v7.max;refine wq<|wa (bO (sz:=2) Z Z) ?_;rintro _ _⟨am,rfl,rfl⟩;refine wa (bO (sz:=2) Z Z) ?_;rintro _ _⟨du,rfl,rfl⟩;refine wn Z<|aC<|bI mixed<|wD 0 Z (fJ (Kp.c _) uy Z Z Z)<|wD 1 Z (cB (vs:=[I t1,I t2]) (rdr 1 Z) jy Z kF Z Z (au Z) Z)<|wD 3 Z (fJ (Kp.c _) uy Z Z Z)<|wD 4 Z (cB (vs:=[I u1,I u2]) (rdr 0 Z) jy Z kF Z Z (au Z) Z)<|wD 7 Z (fJ (Kp.c _) uy Z Z Z)<|wD 8 Z (cB (vs:=[I t1,I t2]) (rdr 1 Z) jy Z kF Z Z (au Z) Z)<|wD 9 Z (fJ (Qa.c _) ai Z Z Z)<|wD 11 Z (fJ (Kp.c _) uy Z Z Z)<|wD 12 Z (cB (vs:=[I u1,I u2]) (rdr 0 Z) jy Z kF Z Z (au Z) Z)<|wD 13 Z (fJ (Qa.c _) ai Z Z Z)<|wD 16 Z (bW (q:=0) (rdr 1 Z) jy sz3 Z Z (au Z) cC cC Z) ?_;refine wD 17 Z (yL 1 ai Z Z Z)<|wD 18 Z (bW (q:=0) (rdr 0 Z) jy sz3 Z Z (au Z) cC cC Z)<|wD 19 Z (yL 0 ai Z Z Z)<|wD 21 Z (bW (q:=1) (rdr 1 Z) jy sz3 Z Z (au Z) cC cC Z)<|wD 22 Z (yL 1 ai Z Z Z)<|wD 23 Z (bW (q:=1) (rdr 0 Z) jy sz3 Z Z (au Z) cC cC Z)<|wD 24 Z (yL 0 ai Z Z Z)<|wC 2 Z (aD aLb Z (Ct.quiet (λw hw=>VS ((bb.c _) w hw) ((v7.c _) w hw) (Nz.c hw) ((jp.c _) w hw) ((v6.c _) w hw) cE cE cE cE))) ?_;rintro _ _⟨rfl,rfl⟩;refine⟨.inr hiZ,?_⟩;refine wC 5 Z (aD aLb Z (Ct.quiet (λw hw=>VS ((bb.c _) w hw) ((v7.c _) w hw) (Nz.c hw) ((jp.c _) w hw) ((v6.c _) w hw) cE cE cE cE))) ?_;rintro _ _⟨rfl,rfl⟩;refine⟨.inr hiZ,?_⟩;refine wC 6 Z (aD aCj Z (Ct.quiet (λw hw=>pI))) ?_;rintro _ _⟨rfl,rfl⟩;refine⟨.inr hiZ,?_⟩;refine wC 10 Z (aD aCh Z (Ct.quiet (λw hw=>xE ((bb.c _) w hw) ((v7.c _) w hw) (Nz.c hw) ((jp.c _) w hw) ((v6.c _) w hw) cE cE cE cE cE))) ?_;rintro _ _⟨rfl,rfl⟩;refine⟨.inr hiZ,?_⟩;refine wC 14 Z (aD aCh Z (Ct.quiet (λw hw=>xE ((bb.c _) w hw) ((v7.c _) w hw) (Nz.c hw) ((jp.c _) w hw) ((v6.c _) w hw) cE cE cE cE cE))) ?_;rintro _ _⟨rfl,rfl⟩;refine⟨.inr hiZ,?_⟩;refine wC 15 Z (aD aCj Z (Ct.quiet (λw hw=>pI))) ?_;rintro _ _⟨rfl,rfl⟩;refine⟨.inr hiZ,?_⟩;refine wC 20 Z (aD aCj Z (Ct.quiet (λw hw=>pI))) ?_;rintro _ _⟨rfl,rfl⟩;refine⟨.inr hiZ,?_⟩;refine wC 25 Z (aD aCj Z (Ct.quiet (λw hw=>pI))) ?_;rintro _ _⟨rfl,rfl⟩;refine⟨.inr hiZ,?_⟩;refine wC 26 Z (bH .i64 [iI (ahd ws bs rs (t1,t2) 0) (ahd ws bs rs (u1,u2) 0),iI (ahd ws bs rs (t1,t2) h) (ahd ws bs rs (u1,u2) h),iI t1 u1,iI t2 u2] aa zs3 Z Z Z) ?_;rintro _ _⟨ki,rfl,rfl⟩;refine⟨.inr hrZ,?_⟩;refine wC 27 Z (aD bGs Z (Ct.quiet (λw hw=>aUy ((rdr 0 Z) w hw)))) ?_;rintro _ _⟨rfl,rfl⟩;refine⟨.inr hiZ,?_⟩;refine wD 28 Z (bC Z)<|wN<|aQ [] 99 cC Z ?_;refine⟨_,Z,?_⟩;rfl
theorem aEu (cb:Array Value):aMb Tryz.prog 276 277 cb:=λα _ enc hk h1 cf hO gr off cap d w zc hH hblk hsz=>
 Tryz.slices_SortFunc 2 (λw=>cA) (λw=>cA) enc hk h1 cf hO 277 cb gr off cap d w bMn zc hH hblk hsz
theorem aGz {B:Nat} {w0:World} {R:List Row} {b8:AF} {Pw sn Uv d6:Nat} {ts:AE} (mn:Pw=ts.length) (Tn:sn=bs.length) (hnr:Uv=rs.length) (Mm:RdC B w0 R z7 ws.length Ax 1 qv) (m6: ∀w,Hp B w0 w R->SlW .u8 w qv ws) (hv: ∀t∈ts,TOk ws bs rs.length t) (Pc: ∀t∈ts,∀u∈ts,iH bs t=iH bs u->t=u) (hnd:ts.Nodup) (fd:ts≠[]) (hN:rs.length<=1000000/\ts.length<=1000000) (hh:0<=h/\h<=1000000):
  CT 238 #[PG o8,sl b8 Pw d6,I h] B w0 ((rc 281 4 o8 [sl z7 ws.length Ax,sl po sp pr,sl mu sn mv,sl nj Uv nv])::⟨230,2,b8,Pw,d6,prs ts,false⟩::(ri 3 mu sn mv bs)::(ri 3 nj Uv nv rs)::R) (λv R'=> ∃(l1:AE) (rk:AH) (A':AF) (c':Nat),v=I (iO ws bs rs h l1 (l1.length-1))/\l1.Perm ts/\l1.Pairwise (λx y=> ¬aEq ws bs rs h y x<0)/\rk.length=rs.length/\(∀j:Nat,j<l1.length->rd rk (iH bs (rdp l1 j))=iO ws bs rs h l1 j)/\R'=(rc 281 4 o8 [sl z7 ws.length Ax,sl po sp pr,sl mu sn mv,sl A' Uv c'])::⟨230,2,b8,Pw,d6,prs l1,false⟩::(ri 3 mu sn mv bs)::(ri 3 A' Uv c' rk)::R):=by
 subst mn;subst Tn;subst hnr;refine fn1 Tryz.func238 Z Z Z ?_;have Sz: ∀t∈ts,0<=iH bs t:=λt ht=>by have:=hv t ht;unfold TOk at this;unfold iH;omega
 refine wq<|wa (bO (sz:=1) Z Z) ?_;rintro _ _⟨am,rfl,rfl⟩;refine wa (bO (sz:=1) Z Z) ?_;rintro _ _⟨du,rfl,rfl⟩;refine wn Z<|wq<|wm Z<|wy (lU Z Z)<|wa (aD bMo Z (aEw (aEu _) 3 Z fd G (aEq ws bs rs h) (aSi ws bs rs h) (λW hW x hx y hy=>aEo ((rdr 2 Z) W hW) ((RdC.right Mm [_,_,_,_,_]) W hW) (m6 W (Hp.right (R':=[_,_,_,_,_]) hW)) ((rdr 3 Z) W hW) ((rdr 4 Z) W hW) ((rdr 1 Z) W hW) ((rdr 0 Z) W hW) (hv x hx).1 (by have:=(hv x hx).2.1;omega) (hv x hx).2.2.1 (hv x hx).2.2.2 (hv y hy).1 (by have:=(hv y hy).2.1;omega) (hv y hy).2.2.1 (hv y hy).2.2.2 hh))) ?_;rintro _ _⟨rfl,l1,sd,wk,rfl⟩;have zj:=sd.length_eq;have Uk: ∀t∈l1,TOk ws bs rs.length t:=λt ht=>hv t (sd.mem_iff.1 ht);have Pg:=sd.nodup_iff.2 hnd;refine aA<|wq<|wy (yL 1 uy Z Z Z)<|wy (aF Z)<|wy (yF 3 3 rq dO Z)<|wy (yL 2 aa Z Z Z)<|wy (aN aa Z)<|wa (dD aa zb3 Z Z) ?_;rintro _ _⟨kx,rfl,rfl⟩;refine bF (v:=sl (GG kx) rs.length rs.length) Z<|wn Z<|wq<|wn Z<|aC<|wq<|wm Z<|wy (aN jg Z)<|wm Z<|aA<|aH ?_;refine fA (λ(i:Int) (n:Int) (rk:AH)=>[(1,sl b8 ts.length d6),(3,PG am),(5,PG du),(7,sl (GG kx) rs.length rs.length),(8,I n),(21,sl b8 ts.length d6),(22,I (ts.length:Int)),(23,I i)]) (λi n rk=>((ri 3 (GG kx) rs.length rs.length rk)::(rc 3 1 du [I h])::(rc 279 1 am [PG o8])::(rc 281 4 o8 [sl z7 ws.length Ax,sl po sp pr,sl mu bs.length mv,sl nj rs.length nv])::⟨230,2,b8,ts.length,d6,prs l1,false⟩::(ri 3 mu bs.length mv bs)::(ri 3 nj rs.length nv rs)::R)) (λi n rk=>(0<=i)/\(i<=l1.length)/\(0<=n/\n<=i)/\(n=iO ws bs rs h l1 (i-1).toNat)/\(rk.length=rs.length)/\(∀j:Nat,j<i->rd rk (iH bs (rdp l1 j))=iO ws bs rs h l1 j)) (λi n rk=>(l1.length-i).toNat) ?_ ?_
 ·exact⟨0,0,List.replicate rs.length (0:Int),⟨G,G,G,(Z),(by rw[bu]),(λj hj=>G)⟩,KP⟩
 intro i n rk ⟨aw,ia,Ma,hn,Tc,m5⟩;refine wq<|wL Z Z<|aA<|aC<|bA Z (λaq=> ?_) (λaq=> ?_)
 ·have hq:=Uk _ (kQ aw (show i<l1.length by omega));obtain⟨⟨q1,q2,q3⟩,⟨q4,q5,q6⟩,q7,q8,q9⟩:=hq;have Mg: ∀t∈l1,0<=iH bs t:=λt ht=>Sz t (sd.mem_iff.1 ht);have oa: ∀t∈l1,∀u∈l1,iH bs t=iH bs u->t=u:=λt ht u hu=>Pc t (sd.mem_iff.1 ht) u (sd.mem_iff.1 hu);refine aI<|aC<|aH<|wq<|wm Z<|wy (dU jg kF Z Z (rdr 4 Z) Z)<|wy (KF jy Z kF Z (rdr 4 Z))<|wa (iC (sz:=2) aRn Z) ?_;rintro _ _⟨kp,rfl,rfl⟩;refine wg Z<|bV (fQ (vs:=[I ((rdp l1 i).1),I ((rdp l1 i).2)]) 0 Z kF Z Z Z (by intro v hv;simp at hv;rcases hv with rfl|rfl<;>rfl) Z) ?_;rintro _ _ rfl;refine aA<|aC<|wq<|wm Z<|wy (dE Z Z)<|aA<|bA Z (λbp=> ?_) (λbp=> ?_)
  ·have Po:=Uk _ (kQ (show 0<=i-1 by omega) (show i-1<l1.length by omega));obtain⟨⟨p1,p2,p3⟩,⟨p4,p5,p6⟩,p7,p8,p9⟩:=Po;refine wq<|wm Z<|wm Z<|wS Z Z<|wy (dU jg kF Z Z (rdr 5 Z) Z)<|wy (KF jy Z kF Z (rdr 5 Z))<|wa (iC (sz:=2) aRn Z) ?_;rintro _ _⟨pi,rfl,rfl⟩;refine bV (fQ (vs:=[I ((rdp l1 (i-1)).1),I ((rdp l1 (i-1)).2)]) 0 Z kF Z Z Z (by intro v hv;simp at hv;rcases hv with rfl|rfl<;>rfl) Z) ?_;rintro _ _ rfl;refine aA ?_;refine lM [(1,sl b8 ts.length d6),(3,PG am),(5,PG du),(7,sl (GG kx) rs.length rs.length),(8,I n),(10,PG kp),(21,sl b8 ts.length d6),(22,I (ts.length:Int)),(23,I i),(52, .bool (decide (((ahd ws bs rs (((rdp l1 (i-1)).1),((rdp l1 (i-1)).2)) 0)≠(ahd ws bs rs (((rdp l1 i).1),((rdp l1 i).2)) 0))\/((ahd ws bs rs (((rdp l1 (i-1)).1),((rdp l1 (i-1)).2)) h)≠(ahd ws bs rs (((rdp l1 i).1),((rdp l1 i).2)) h)))))] ((rc 230 2 pi [I ((rdp l1 (i-1)).1),I ((rdp l1 (i-1)).2)])::(rc 230 2 kp [I ((rdp l1 i).1),I ((rdp l1 i).2)])::(ri 3 (GG kx) rs.length rs.length rk)::(rc 3 1 du [I h])::(rc 279 1 am [PG o8])::(rc 281 4 o8 [sl z7 ws.length Ax,sl po sp pr,sl mu bs.length mv,sl nj rs.length nv])::⟨230,2,b8,ts.length,d6,prs l1,false⟩::(ri 3 mu bs.length mv bs)::(ri 3 nj rs.length nv rs)::R) ?_ ?_
   ·refine bI mixed<|wD 0 Z (yL 4 uy Z Z Z)<|wD 1 Z (cB (vs:=[I ((rdp l1 (i-1)).1),I ((rdp l1 (i-1)).2)]) (rdr 0 Z) jy Z kF Z Z (au Z) Z)<|wD 3 Z (yL 4 uy Z Z Z)<|wD 4 Z (cB (vs:=[I ((rdp l1 i).1),I ((rdp l1 i).2)]) (rdr 1 Z) jy Z kF Z Z (au Z) Z)<|wC 2 Z (aD aLb Z (Ct.quiet (λw hw=>VS ((rdr 5 Z) w hw) ((RdC.right Mm [_,_,_,_,_,_,_,_,_]) w hw) (m6 w (Hp.right (R':=[_,_,_,_,_,_,_,_,_]) hw)) ((rdr 7 Z) w hw) ((rdr 8 Z) w hw) cE cE cE cE))) ?_;rintro _ _⟨rfl,rfl⟩;refine⟨.inr hiZ,?_⟩;refine wC 5 Z (aD aLb Z (Ct.quiet (λw hw=>VS ((rdr 5 Z) w hw) ((RdC.right Mm [_,_,_,_,_,_,_,_,_]) w hw) (m6 w (Hp.right (R':=[_,_,_,_,_,_,_,_,_]) hw)) ((rdr 7 Z) w hw) ((rdr 8 Z) w hw) cE cE cE cE))) ?_;rintro _ _⟨rfl,rfl⟩;refine⟨.inr hiZ,?_⟩;refine wD 6 Z (fE Z Z)<|wD 7 Z (aK Z)<|iL 42 Z (λew=> ?_) (λew=> ?_)
    ·refine wO 8 Z Z Z<|wO 9 Z Z Z<|wO 10 Z Z Z<|wO 11 Z Z Z<|wO 12 Z Z Z<|wO 13 Z Z Z<|wO 14 Z Z Z<|wO 15 Z Z Z<|wO 16 Z Z Z<|wD 17 Z (aT Z Z)<|wN ?_;exact KP
    ·refine wG 8 Z Z Z (yL 4 uy Z Z Z)<|wG 9 Z Z Z (cB (vs:=[I ((rdp l1 (i-1)).1),I ((rdp l1 (i-1)).2)]) (rdr 0 Z) jy Z kF Z Z (au Z) Z)<|wG 10 Z Z Z (yL 3 ai Z Z Z)<|wG 12 Z Z Z (yL 4 uy Z Z Z)<|wG 13 Z Z Z (cB (vs:=[I ((rdp l1 i).1),I ((rdp l1 i).2)]) (rdr 1 Z) jy Z kF Z Z (au Z) Z)<|wG 14 Z Z Z (yL 3 ai Z Z Z)<|GN 11 Z cA Z Z Z (aD aCh Z (Ct.quiet (λw hw=>xE ((rdr 5 Z) w hw) ((RdC.right Mm [_,_,_,_,_,_,_,_,_]) w hw) (m6 w (Hp.right (R':=[_,_,_,_,_,_,_,_,_]) hw)) ((rdr 7 Z) w hw) ((rdr 8 Z) w hw) cE cE cE cE cE))) ?_;rintro _ _⟨rfl,rfl⟩;refine⟨.inr hiZ,?_⟩;refine GN 15 Z cA Z Z Z (aD aCh Z (Ct.quiet (λw hw=>xE ((rdr 5 Z) w hw) ((RdC.right Mm [_,_,_,_,_,_,_,_,_]) w hw) (m6 w (Hp.right (R':=[_,_,_,_,_,_,_,_,_]) hw)) ((rdr 7 Z) w hw) ((rdr 8 Z) w hw) cE cE cE cE cE))) ?_;rintro _ _⟨rfl,rfl⟩;refine⟨.inr hiZ,?_⟩;refine wG 16 Z Z Z (fE Z Z)<|wD 17 Z (aO Z Z)<|wN ?_;exact KP
   refine bA Z (λkd=> ?_) (λkd=> ?_)
   ·refine aL<|wm Z<|wA Z Z<|wn Z<|bI mixed<|wD 0 Z (aK Z)<|wD 1 Z (yL 4 uy Z Z Z)<|wD 2 Z (aF Z)<|wD 3 Z (yF 2 2 rq dO Z)<|wD 4 Z (yL 5 aa Z Z Z)<|wD 5 Z (bW (q:=0) (rdr 1 Z) jy sz3 Z Z (au Z) cC cC Z)<|wD 6 Z (yL 1 ai Z Z Z)<|wD 7 Z (aG aa sz3 Z Z (rdr 7 Z))<|wD 8 Z (aR ai Z Z (rdr 7 Z)) ?_;refine wD 9 Z (bW (q:=1) (rdr 1 Z) jy sz3 Z Z (au Z) cC cC Z)<|wD 10 Z (yL 1 ai Z Z Z)<|wD 11 Z (bX Z Z)<|wD 12 Z (aK Z)<|wD 13 Z (aG aa sz3 Z Z (rdr 2 Z))<|oU 14 Z cA (bD 2 Z sz3 Z Z) ?_;rintro _ _ rfl;refine⟨.inl cA,?_⟩;refine wN<|aL<|wA Z Z<|wm Z<|aA ?_;exact⟨i+1,n+1,upd rk ((rd bs ((rdp l1 i).1))+((rdp l1 i).2)) (n+1),⟨G,G,G,(by rw[show i+1-1=i by omega,yH G,df cF,<-hn]),(by rw[upd,Fa];exact Tc),(zN Pg oa aw G Mg (by unfold iH;omega) m5 (by have e:(i+1-1)=i:=G;have hc:=(by rw[show i+1-1=i by omega,yH G,df cF,<-hn]:_=iO ws bs rs h l1 (i+1-1).toNat);rw[e] at hc;exact hc))⟩,G,SA,λ_ h=>h.selR (F:=[_,_,_,_,_,_,_,_,_]) (F':=[_,_,_,_,_,_,_]) [2,3,4,5,6,7,8] cC Z⟩
   ·refine aI<|bI mixed<|wD 0 Z (aK Z)<|wD 1 Z (yL 4 uy Z Z Z)<|wD 2 Z (aF Z)<|wD 3 Z (yF 2 2 rq dO Z)<|wD 4 Z (yL 5 aa Z Z Z)<|wD 5 Z (bW (q:=0) (rdr 1 Z) jy sz3 Z Z (au Z) cC cC Z)<|wD 6 Z (yL 1 ai Z Z Z)<|wD 7 Z (aG aa sz3 Z Z (rdr 7 Z))<|wD 8 Z (aR ai Z Z (rdr 7 Z))<|wD 9 Z (bW (q:=1) (rdr 1 Z) jy sz3 Z Z (au Z) cC cC Z)<|wD 10 Z (yL 1 ai Z Z Z)<|wD 11 Z (bX Z Z)<|wD 12 Z (aK Z) ?_;refine wD 13 Z (aG aa sz3 Z Z (rdr 2 Z))<|oU 14 Z cA (bD 2 Z sz3 Z Z) ?_;rintro _ _ rfl;refine⟨.inl cA,?_⟩;refine wN<|aL<|wA Z Z<|wm Z<|aA ?_;exact⟨i+1,n,upd rk ((rd bs ((rdp l1 i).1))+((rdp l1 i).2)) n,⟨G,G,G,(by rw[show i+1-1=i by omega,yH G,bz cF,<-hn,yl]),(by rw[upd,Fa];exact Tc),(zN Pg oa aw G Mg (by unfold iH;omega) m5 (by have e:(i+1-1)=i:=G;have hc:=(by rw[show i+1-1=i by omega,yH G,bz cF,<-hn,yl]:_=iO ws bs rs h l1 (i+1-1).toNat);rw[e] at hc;exact hc))⟩,G,SA,λ_ h=>h.selR (F:=[_,_,_,_,_,_,_,_,_]) (F':=[_,_,_,_,_,_,_]) [2,3,4,5,6,7,8] cC Z⟩
  ·refine aI<|bI mixed<|wD 0 Z (aK Z)<|wD 1 Z (yL 3 uy Z Z Z)<|wD 2 Z (aF Z)<|wD 3 Z (yF 2 2 rq dO Z)<|wD 4 Z (yL 4 aa Z Z Z)<|wD 5 Z (bW (q:=0) (rdr 0 Z) jy sz3 Z Z (au Z) cC cC Z)<|wD 6 Z (yL 0 ai Z Z Z)<|wD 7 Z (aG aa sz3 Z Z (rdr 6 Z))<|wD 8 Z (aR ai Z Z (rdr 6 Z))<|wD 9 Z (bW (q:=1) (rdr 0 Z) jy sz3 Z Z (au Z) cC cC Z)<|wD 10 Z (yL 0 ai Z Z Z)<|wD 11 Z (bX Z Z)<|wD 12 Z (aK Z) ?_;refine wD 13 Z (aG aa sz3 Z Z (rdr 1 Z))<|oU 14 Z cA (bD 1 Z sz3 Z Z) ?_;rintro _ _ rfl;refine⟨.inl cA,?_⟩;refine wN<|aL<|wA Z Z<|wm Z<|aA ?_;exact⟨i+1,n,upd rk ((rd bs ((rdp l1 i).1))+((rdp l1 i).2)) n,⟨G,G,G,(by have h0:i=0:=G;subst h0;exact hn),(by rw[upd,Fa];exact Tc),(zN Pg oa aw G Mg (by unfold iH;omega) m5 (by have e:(i+1-1)=i:=G;have hc:=(by have h0:i=0:=G;subst h0;exact hn:_=iO ws bs rs h l1 (i+1-1).toNat);rw[e] at hc;exact hc))⟩,G,SA,λ_ h=>h.selR (F:=[_,_,_,_,_,_,_,_]) (F':=[_,_,_,_,_,_,_]) [1,2,3,4,5,6,7] cC Z⟩
 ·refine aU<|wq<|wy (yL 2 uy Z Z Z)<|wm Z<|wy (aF Z)<|wy (yF 3 3 rq dO Z)<|bV (aX 3 Z Z Z dO Z Z Z Z (au Z)) ?_;rintro _ _ rfl;refine aA<|wq<|wm Z<|wn Z<|aQ [3,4,5,0] 7 cC Z ?_;refine⟨_,Z,?_⟩;obtain rfl:i=l1.length:=G
  refine⟨l1,rk,_,_,?_,sd,wk,Tc,λj hj=>m5 j G,Z⟩;rw[hn,show((l1.length:Int)-1).toNat=l1.length-1 by omega]
variable {w:World}
theorem aQq {io:AF} {mt iz:Nat} {l:AE} (dr:Rd w io mt iz 2 (prs l)) (hN:l.length<=1000000):
  CF 237 #[sl io mt iz] w (λv R'=> ∃A c,v=sl A l.length c/\R'=[⟨230,2,A,l.length,c,prs l,false⟩]):=by
 obtain rfl:mt=l.length:=by have:=dr.len;rw[jB] at this;omega
 refine fn1 Tryz.func237 Z Z Z ?_;refine wq<|wn Z<|aC<|wq<|wm Z<|wy (aIt jg Z Z)<|aA<|KN Z (λaq=> ?_) (λaq=> ?_)
 ·refine wq<|wn Z<|bN (R1:=[⟨230,2,none,0,0,prs [],false⟩]) (λ_ h=>h.nilP 230) ?_;refine⟨_,Z,?_⟩;have hA:io=none:=by simpa using aq
  subst hA;obtain rfl:=aUi dr;exact⟨none,0,Z,Z⟩
 ·refine aI<|wq<|wa (XG jg KC) ?_;rintro _ _⟨bx,rfl,rfl⟩;refine wm Z<|wa (iW 0 Z jg vD Z Z Z Z (dr.c _) G) ?_;rintro _ _⟨fi,fj,rfl,rfl⟩;refine bF (v:=sl fi (0+l.length) fj) Z<|wn Z<|bN (R1:=[⟨230,2,fi,(0+l.length),fj,prs (([])++l),false⟩]) hiZ ?_;refine⟨_,Z,?_⟩;simp only[nu,je];exact⟨_,_,Z,Z⟩
theorem aSe {gg:AF} {mm gi:Nat} {dt:AG} {ws:AD} (go:Rd w gg mm gi 1 dt) (mz:SlW .u8 w dt ws) (hN:ws.flatten.length<=400000/\ws.length<=1000000):
  CF 179 #[sl gg mm gi] w (λv R'=> ∃(l:AE) (A:AF) (c:Nat),v=sl A l.length c/\l.Perm (gD ws ws.length)/\l.Pairwise (jF ws)/\R'=[⟨230,2,A,l.length,c,prs l,false⟩]):=by
 obtain rfl:mm=ws.length:=by have:=go.len;have:=mz.1;omega
 refine fn1 Tryz.func179 Z Z Z ?_;have Jx:=go.max;have ux:=hN.1;refine wq<|wn Z<|wq<|wm Z<|wy (dW (v:= .agg #[sl gg ws.length gi,sl none 0 0,sl none 0 0,sl none 0 0]) Z (λw=>cA))<|wa (bO (sz:=4) rfl rfl) ?_;rintro _ _⟨am,rfl,rfl⟩;refine dB (R1:=[⟨230,2,none,0,0,prs ([]),false⟩,(ri 3 none 0 0 ([])),(ri 3 none 0 0 ([])),(rc 281 4 am [sl gg ws.length gi,sl none 0 0,sl none 0 0,sl none 0 0])]) (Sub.refl _) (λ_ h=>((h.nil 3 1).nil 3 1).nilP 230)<|wn Z<|wq<|wn Z<|aC<|wq<|wm Z<|wy (aN dm Z)<|wm Z<|aA<|aH ?_;refine aRy (λ(k:Int) (lg:Int) (A1:AF) (n1:Nat) (c1:Nat) (T:AE) (A2:AF) (n2:Nat) (c2:Nat) (Bs:AH) (A3:AF) (n3:Nat) (c3:Nat) (Rs:AH)=>[(3,PG am),(4,I lg),(16,sl gg ws.length gi),(17,I (ws.length:Int)),(18,I k)]) (λk lg A1 n1 c1 T A2 n2 c2 Bs A3 n3 c3 Rs=>[⟨230,2,A1,n1,c1,prs T,false⟩,(ri 3 A2 n2 c2 Bs),(ri 3 A3 n3 c3 Rs),(rc 281 4 am [sl gg ws.length gi,sl A1 n1 c1,sl A2 n2 c2,sl A3 n3 c3])]) (λk lg A1 n1 c1 T A2 n2 c2 Bs A3 n3 c3 Rs=>(0<=k)/\(k<=ws.length)/\(0<=lg/\lg<=400000)/\(∀w:Int,0<=w->w<k->((rdl ws w).length:Int)<=lg)/\(lg=0/\nZ ws k.toNat=0\/0<lg/\0<nZ ws k.toNat)/\(T=gD ws k.toNat)/\(n1=nZ ws k.toNat)/\(Bs=rT ws k.toNat)/\(n2=k.toNat)/\(Rs=(ws.take k.toNat).flatten)/\(n3=nZ ws k.toNat)) (λk lg A1 n1 c1 T A2 n2 c2 Bs A3 n3 c3 Rs=>(ws.length-k).toNat) ?_ ?_
 ·exact⟨0,0,none,0,0,[],none,0,0,[],none,0,0,[],⟨G,G,G,(λw h0 h1=>G),(.inl ⟨rfl,rfl⟩),(rfl),(rfl),(rfl),(rfl),(rfl),(rfl)⟩,KP⟩
 intro k lg A1 n1 c1 T A2 n2 c2 Bs A3 n3 c3 Rs ⟨md,vd,hg0,Yv,Fl,hT,Ze,Py,hnB,Oj,hnR⟩;refine wq<|wL Z Z<|aA<|aC<|bA Z (λaq=> ?_) (λaq=> ?_)
 ·have Zg:=kC md (show k<ws.length by omega);have hole:=JP ws (k+1).toNat;refine aI<|aC<|aH<|wq<|wm Z<|wy (aG dm dA Z Z (go.c _)) ?_;obtain⟨fk,fm,Zx,Mi,hb_6,mhr_5⟩:=mz.at (i:=k) G G;refine wy (rF af Z Z Z (go.c _) Zx)<|wg Z<|wn Z<|aC<|bI mixed<|wD 0 Z (aK Z)<|wD 1 Z (aK Z)<|wD 2 Z (aF Z)<|wD 3 Z (yF 2 2 rq dO Z)<|wD 4 Z (yL 3 aa Z Z Z)<|wD 5 Z (aK Z)<|wD 6 Z (aF Z)<|wD 7 Z (yF 1 1 rq YN Z)<|wD 8 Z (yL 3 jg Z Z Z) ?_;refine wD 9 Z (aN jg Z)<|wC 10 Z (bH .i64 [(n1:Int)] aa zs3 Z Z Z) ?_;rintro _ _⟨yy,rfl,rfl⟩;refine⟨.inr hrZ,?_⟩;refine wC 11 Z (aS 2 Z aa zb3 Z Z Z (rdr 0 Z)) ?_;rintro _ _⟨eh,bo,rfl,rfl⟩;refine⟨.inl cA,?_⟩;refine iF (v:=sl eh (n2+1) bo) Z<|wD 12 Z (aF Z)<|wD 13 Z (yF 2 2 rq dO Z)<|oU 14 Z cA (aX 4 Z Z Z dO Z Z Z Z (au Z)) ?_;rintro _ _ rfl;refine⟨.inl cA,?_⟩;refine wN<|wq<|wm Z<|wm Z<|wy (aN af Z)<|wy (KE Z Z)<|wn Z<|wq<|wm Z<|wy (aN af Z)<|wm Z<|aA ?_;refine aH ?_;refine UL (λ(j:Int) (B1:AF) (m1:Nat) (d1:Nat) (U:AE) (B3:AF) (m3:Nat) (d3:Nat) (V:AH)=>[(3,PG am),(4,I (max lg (((rdl ws k).length:Nat):Int))),(5,I k),(16,sl gg ws.length gi),(17,I (ws.length:Int)),(18,I k),(41,sl fk ((rdl ws k).length) fm),(42,I (((rdl ws k).length:Nat):Int)),(43,I j)]) (λj B1 m1 d1 U B3 m3 d3 V=>[(ri 3 (GG yy) 1 1 ([(n1:Int)])),⟨230,2,B1,m1,d1,prs U,false⟩,(ri 3 eh (n2+1) bo (Bs++([(n1:Int)]))),(ri 3 B3 m3 d3 V),(rc 281 4 am [sl gg ws.length gi,sl B1 m1 d1,sl eh (n2+1) bo,sl B3 m3 d3])]) (λj B1 m1 d1 U B3 m3 d3 V=>(0<=j)/\(j<=(rdl ws k).length)/\(U=gD ws k.toNat++turnsOf k j.toNat)/\(m1=nZ ws k.toNat+j.toNat)/\(V=(ws.take k.toNat).flatten++(rdl ws k).take j.toNat)/\(m3=nZ ws k.toNat+j.toNat)) (λj B1 m1 d1 U B3 m3 d3 V=>((rdl ws k).length-j).toNat) ?_ ?_
  ·exact⟨0,A1,n1,c1,T,A3,n3,c3,Rs,⟨G,G,(by rw[hT];exact(jk _).symm),(Ze),(by rw[Oj];exact(jk _).symm),(hnR)⟩,KP⟩
  intro j B1 m1 d1 U B3 m3 d3 V ⟨ue,l7,hU,oc,hV,hm3⟩;refine wq<|wL Z Z<|aA<|aC<|bA Z (λbp=> ?_) (λbp=> ?_)
  ·refine aI<|aC<|aH<|wq<|wm Z<|wy (aG af sz5 Z Z (Mi.c _))<|wy (aR ay Z Z (Mi.c _))<|wg Z<|wn Z<|wq<|wm Z<|wm Z ?_;refine wy (aF Z)<|wy (yF 1 1 rq YN Z)<|wy (yL 4 jg Z Z Z)<|wm Z<|wm Z<|wy (dW (v:= .agg #[I k,I j]) Z (λw=>cA))<|wa (PH jg KC rfl) ?_;rintro _ _⟨kh,rfl,rfl⟩;refine wa (iW 2 Z jg vD Z Z Z Z (rdr 0 Z) G) ?_;rintro _ _⟨im,ir,rfl,rfl⟩;refine bF (v:=sl im (m1+1) ir) Z<|wy (aF Z)<|wy (yF 1 1 rq YN Z)<|bV (aX 5 Z Z Z YN Z Z Z Z (au Z)) ?_;rintro _ _ rfl;refine aA<|aL<|wm Z<|wm Z<|wy (aF Z)<|wy (yF 3 3 rq dO Z)<|wy (yL 5 aa Z Z Z)<|wm Z<|wy (iK ay ai Z (by have Os:=(xD (by assumption: ∀x∈rdl ws k,(Lit.int .u8 x).wf=true)).rd j;omega)) ?_;refine wa (bH .i64 [rd (rdl ws k) j] aa zs3 Z Z Z) ?_;rintro _ _⟨Bk,rfl,rfl⟩;refine wa (aS 5 Z aa zb3 Z Z Z (rdr 0 Z)) ?_;rintro _ _⟨db,de,rfl,rfl⟩;refine bF (v:=sl db (m3+1) de) Z<|wy (aF Z)<|wy (yF 3 3 rq dO Z)<|bV (aX 6 Z Z Z dO Z Z Z Z (au Z)) ?_;rintro _ _ rfl;refine aA<|aL<|wA Z Z<|wm Z<|aA ?_;exact⟨j+1,im,(m1+1),ir,U++([(k,j)]),db,(m3+1),de,V++([rd (rdl ws k) j]),⟨G,G,(by rw[hU,BC k ue,gy]),G,(by rw[hV,gy,dH ue G]),G⟩,G,SA,λ_ h=>h.sel [2,3,4,5,6] cC Z⟩
  ·refine aU<|aL<|wA Z Z<|wm Z<|aA ?_
   exact⟨k+1,max lg (((rdl ws k).length:Nat):Int),B1,m1,d1,U,eh,(n2+1),bo,Bs++([(n1:Int)]),B3,m3,d3,V,⟨G,G,G,(λw h0 h1=>by
      by_cases hw:w=k
      ·rw[hw];omega
      ·have:=Yv w h0 G;omega),(by have Zg:=kC md (show k<ws.length by omega);omega),(by have hj:j.toNat=(rdl ws k).length:=G;rw[hU,hj,KT md]),(by rw[oc,kC md G];omega),(by rw[Py,aIf md,Ze]),G,(by have hj:j.toNat=(rdl ws k).length:=G;rw[hV,hj,ve,jL md G]),(by rw[hm3,kC md G];omega)⟩,G,SA,λ_ h=>h.sel [1,2,3,4] cC rfl⟩
 ·have Vo:k=ws.length:=G
  have Qi:k.toNat=ws.length:=G
  rw[Qi] at hT Py Oj Ze hnB hnR Fl;rw[ve] at Oj;have hoT:=xN ws ws.length (di _);have hoB:=TU ws ws.length;have hoR:nZ ws ws.length=ws.flatten.length:=by unfold nZ;rw[ve]
  obtain rfl:n1=T.length:=by rw[hT];omega
  obtain rfl:n2=Bs.length:=by rw[Py];omega
  obtain rfl:n3=Rs.length:=by rw[Oj];omega
  have Xr:T.length<=1000000:=by rw[hT];omega
  refine aU<|wq<|wm Z<|wy (aF Z)<|wy (yF 1 1 rq YN Z)<|wy (yL 3 jg Z Z Z)<|wa (aD bNg Z (Ct.fresh (λw hw=>aQq ((rdr 0 Z) w hw) Xr))) ?_;rintro _ _⟨_,rfl,b7,jn,rfl,rfl⟩;refine wn Z<|wq<|wn Z<|aC<|wq<|wn Z<|aH ?_;refine mU (λ(h:Int) (was:Int) (l:AE) (A4:AF) (c4:Nat) (rs:AH)=>[(3,PG am),(4,I lg),(9,sl b7 T.length jn),(10,I was),(11,I h)]) (λh was l A4 c4 rs=>[⟨230,2,b7,T.length,jn,prs l,false⟩,⟨230,2,A1,T.length,c1,prs T,false⟩,(ri 3 A2 Bs.length c2 Bs),(ri 3 A4 Rs.length c4 rs),(rc 281 4 am [sl gg ws.length gi,sl A1 T.length c1,sl A2 Bs.length c2,sl A4 Rs.length c4])]) (λh was l A4 c4 rs=>(0<=h)/\(l.Perm T)/\(rs.length=Rs.length)/\(RK ws Bs (nG h) rs)/\(0<h->Sorted ws (nG h) l/\Go.Pure.Steps Bs rs l was)) (λh was l A4 c4 rs=>(2*lg-h).toNat) ?_ ?_
  ·exact⟨0,-1,T,A3,c3,Rs,⟨G,(.refl _),(Z),(by rw[Oj,Py];exact aTh ws),(λh=>absurd h G)⟩,KP⟩
  intro h was l A4 c4 rs ⟨Vn,Nk,Kv,Vg,gs⟩;have Qq: ∀t∈l,TV ws t:=λt ht=>yA.1 (by rw[<-hT];exact Nk.mem_iff.1 ht);have hvv: ∀t∈l,TOk ws Bs rs.length t:=λt ht=>by rw[Kv,Oj,Py];exact bEw G (Qq t ht)
  have oa: ∀t∈l,∀u∈l,iH Bs t=iH Bs u->t=u:=λt ht u hu e=>aUk (Qq t ht) (Qq u hu) (by rw[<-Py];exact e);have hnd:l.Nodup:=Nk.nodup_iff.2 (by rw[hT];exact vQ ws _);have Uc:Rs.length=ws.flatten.length:=by rw[Oj]
  have va:=Nk.length_eq;have hTo:T.length=nZ ws ws.length:=by rw[hT];exact hoT
  refine aC<|wq<|wm Z<|wm Z<|wy (iZ Z Z)<|wL Z Z<|aA<|bA Z (λew=> ?_) (λew=> ?_)
  ·have fd:l≠[]:=λe=>by rw[e] at va;simp only[jl] at va;omega
   refine aI<|aC<|aH<|wq<|wm Z<|wm Z<|wm Z<|dB (R1:=[(rc 281 4 am [sl gg ws.length gi,sl A1 T.length c1,sl A2 Bs.length c2,sl A4 Rs.length c4]),⟨230,2,b7,T.length,jn,prs l,false⟩,(ri 3 A2 Bs.length c2 Bs),(ri 3 A4 Rs.length c4 rs),⟨230,2,A1,T.length,c1,prs T,false⟩]) (Sub.refl _) (λ_ h=>h.sel [4,0,2,3,1] cC Z)<|wa (aD bNf Z (aGz (bs:=Bs) (rs:=rs) (ts:=l) va.symm Z Kv.symm (go.c _) (λw hw=>mz.c hw) hvv oa hnd fd ⟨G,G⟩ ⟨Vn,G⟩)) ?_;rintro _ _⟨vc,Ny,yq,yr,rfl,na,Mo,Tg,g7,rfl⟩;have Mn:Sorted ws (gN h) vc:=⟨λt ht=>Qq t (na.mem_iff.1 ht),na.nodup_iff.2 hnd,Mo.imp_of_mem λ{x y} hx hy hn ho=>hn ((aSj Vn Vg (Qq y (na.mem_iff.1 hy)) (Qq x (na.mem_iff.1 hx))).2 ho)⟩;have Mx: ∀t,TV ws t->t∈vc:=λt ht=>na.mem_iff.2 (Nk.mem_iff.2 (by rw[hT];exact yA.2 ht));have Xn:=bBp Vn Vg Mn Mx g7;have Zv:=aEs Vn Vg Mn g7;have mj:=na.length_eq;refine wn Z<|aC<|wq<|wm Z<|wm Z<|wy (dR Z Z)<|wm Z<|cK 3 [(3,PG am),(4,I lg),(9,sl b7 T.length jn),(11,I h),(12,I (iO ws Bs rs h vc (vc.length-1))),(95, .bool (decide (((iO ws Bs rs h vc (vc.length-1))=was)/\(0<h))))] [(rc 281 4 am [sl gg ws.length gi,sl A1 T.length c1,sl A2 Bs.length c2,sl yq Rs.length yr]),⟨230,2,b7,T.length,jn,prs vc,false⟩,(ri 3 A2 Bs.length c2 Bs),(ri 3 yq Rs.length yr Ny),⟨230,2,A1,T.length,c1,prs T,false⟩] ?_ ?_
   ·refine bR 92 Z (λkd=> ?_) (λkd=> ?_)
    ·refine aB Z Z<|wm Z<|aB Z Z<|wy (dE Z Z)<|wy (aT Z Z)<|aA ?_;exact KP
    ·refine aM Z Z Z Z<|aM Z Z Z Z<|wy (aO Z Z)<|aA ?_;exact KP
   refine aA<|bA Z (λme=> ?_) (λme=> ?_)
   ·refine aU<|wq<|wm Z<|wn Z<|aQ [1] 99 cC Z ?_;refine⟨_,Z,?_⟩;have pv:T.length=vc.length:=G
    rw[pv];refine⟨vc,_,_,Z,?_,?_,Z⟩
    ·rw[<-hT];exact na.trans Nk
    ·exact stay me.2 Vg Mn Mx na (gs me.2).2 me.1
   ·refine aI<|aL<|wm Z<|wn Z<|aL<|wm Z<|wy (iZ Z Z)<|wy (KE Z Z)<|wn Z ?_;exact⟨max 1 (2*h),iO ws Bs rs h vc (vc.length-1),vc,yq,yr,Ny,⟨G,(na.trans Nk),G,(by have e:nG (max 1 (2*h))=gN h:=(by unfold nG gN;split<;>omega);rw[e];exact Xn),(λ_=>by have e:nG (max 1 (2*h))=gN h:=(by unfold nG gN;split<;>omega);rw[e];exact⟨Mn,Zv⟩)⟩,G,SA,λ_ h=>h.sel [1,4,2,3,0] cC rfl⟩
  ·refine aU<|wq<|wm Z<|wn Z<|aQ [0] 99 cC Z ?_;refine⟨_,Z,?_⟩;have pv:T.length=l.length:=G
   rw[pv];refine⟨l,_,_,Z,?_,?_,Z⟩
   ·rw[<-hT];exact Nk
   ·by_cases h0:0<h
    ·refine (gs h0).1.toO λt u ht hu e=>aCb ht hu ?_ e;have a:=Yv t.1 ht.1 (by rw[Vo];exact ht.2.1);have b:=Yv u.1 hu.1 (by rw[Vo];exact hu.2.1);unfold nG;omega
    ·have Ft:l=[]:=ek G;rw[Ft];exact .nil
variable {ws:AD}
theorem WO {k:Int} (h0:0<=k) (h:k<ws.length):(rdl ws k).length<=ws.flatten.length:=by
 have a:=kC h0 h;have b:=JP ws (k+1).toNat;omega
theorem aJd (u:AH) (i:Nat):(u.drop i++u.take i).length<=u.length:=by
 rw[ah,az,ax];omega
theorem aMk {w:World} {gg:AF} {mm gi:Nat} {dt:AG} (go:Rd w gg mm gi 1 dt) (mz:SlW .u8 w dt ws) (hN:ws.flatten.length<=400000/\ws.length<=1000000):
  CF 210 #[sl gg mm gi] w (λv R'=> ∃(l:AE) (A:AF) (c:Nat),v=sl A l.length c/\l.Perm (gD ws ws.length)/\l.Pairwise (jF ws)/\R'=[⟨230,2,A,l.length,c,prs l,false⟩]):=by
 obtain rfl:mm=ws.length:=by have:=go.len;have:=mz.1;omega
 refine fn1 Tryz.func210 Z Z Z ?_;have Jx:=go.max;refine wq<|wn Z<|wq<|dB (R1:=[⟨230,2,none,0,0,prs ([]),false⟩]) (Sub.refl _) (λ_ h=>h.nilP 230)<|wn Z<|aC<|wq<|wn Z<|aH ?_;refine fK (λ(q:Int) (A1:AF) (n1:Nat) (c1:Nat) (T:AE)=>[(0,sl gg ws.length gi),(3,sl A1 n1 c1),(4,I q)]) (λq A1 n1 c1 T=>[⟨230,2,A1,n1,c1,prs T,false⟩]) (λq A1 n1 c1 T=>(0<=q)/\(q<=ws.length)/\(n1=T.length)/\(T.Perm (gD ws q.toNat))/\(T.Pairwise (jF ws))) (λq A1 n1 c1 T=>(ws.length-q).toNat) ?_ ?_
 ·exact⟨0,none,0,0,[],⟨G,G,(Z),(.refl _),(.nil)⟩,KP⟩
 intro q A1 n1 c1 T ⟨xd,hw1,cv,hp,hs⟩;refine aC<|wq<|wm Z<|wm Z<|wy (aN dm Z)<|wL Z Z<|aA<|bA Z (λaq=> ?_) (λaq=> ?_)
 ·refine aI<|aC<|aH<|wq<|wn Z<|aH ?_;refine fK (λ(k:Int) (B1:AF) (m1:Nat) (d1:Nat) (U:AE)=>[(0,sl gg ws.length gi),(3,sl B1 m1 d1),(4,I q),(5,I k)]) (λk B1 m1 d1 U=>[⟨230,2,B1,m1,d1,prs U,false⟩]) (λk B1 m1 d1 U=>(0<=k)/\(k<=(rdl ws q).length)/\(m1=U.length)/\(U.Perm (gD ws q.toNat++turnsOf q k.toNat))/\(U.Pairwise (jF ws))) (λk B1 m1 d1 U=>((rdl ws q).length-k).toNat) ?_ ?_
  ·exact⟨0,A1,n1,c1,T,⟨G,G,(cv),(by rw[show turnsOf q (0:Int).toNat=[] from rfl,jk];exact hp),(hs)⟩,KP⟩
  intro k B1 m1 d1 U ⟨md,vd,oc,sd,wk⟩;refine aC<|wq<|wm Z<|wm Z<|wm Z<|wy (aG dm dA Z Z (go.c _)) ?_;refine mz.elim (i:=q) G G (λbm bl Iv k8 Oq Nx=> ?_);refine wy (rF af Z Z Z (go.c _) Iv)<|wy (aN af Z)<|wL Z Z<|aA<|bA Z (λbp=> ?_) (λbp=> ?_)
  ·refine aI<|aC<|aH<|wq<|wm Z<|wm Z<|wy (aG dm dA Z Z (go.c _)) ?_;refine mz.elim (i:=q) G G (λdy jt hv_8 Hs hb_10 mhr_9=> ?_);refine wy (rF af Z Z Z (go.c _) hv_8)<|wm Z<|wa (aD bLl Z (Ct.fresh (λw hw=>YF ((Hs.c _) w hw) G (by have:=WO (ws:=ws) (k:=q) xd G;omega)))) ?_;rintro _ _⟨_,rfl,kl,ci,rfl,rfl⟩;refine wn Z<|wq<|wm Z<|wy (aN jg Z)<|wn Z<|aC<|aH ?_;refine fM (λ(j:Int)=>[(0,sl gg ws.length gi),(3,sl B1 m1 d1),(4,I q),(5,I k),(6,sl kl (((rdl ws q).drop (k).toNat++(rdl ws q).take (k).toNat).length) ci),(7,I j)]) (λj=>[(ru 5 kl (((rdl ws q).drop (k).toNat++(rdl ws q).take (k).toNat).length) ci ((rdl ws q).drop (k).toNat++(rdl ws q).take (k).toNat)),⟨230,2,B1,m1,d1,prs U,false⟩]) (λj=>(0<=j)/\(j<=U.length)/\(∀i:Int,j<=i->i<U.length->jF ws (q,k) (rdp U i))) (λj=>j.toNat) ?_ ?_
   ·exact⟨(m1:Int),⟨G,G,(λi h1 h2=>G)⟩,KP⟩
   intro j ⟨ue,l7,wd⟩;have Cd:U.length<=400000:=by rw[sd.length_eq,ah,xN ws _ G,GR];have a:=kC xd (show q<ws.length by omega);have b:=JP ws (q+1).toNat;omega
   have gd:=LP (ws:=ws) xd G G sd;have No: ∀i:Int,0<=i->i<U.length->(rdl ws (rdp U i).1).length<=1000000:=λi h1 h2=>by have:=WO (ws:=ws) (gd i h1 h2).1.1 (gd i h1 h2).1.2.1;omega
   refine aC ?_;refine lM [(0,sl gg ws.length gi),(3,sl B1 m1 d1),(4,I q),(5,I k),(6,sl kl (((rdl ws q).drop (k).toNat++(rdl ws q).take (k).toNat).length) ci),(7,I j),(53, .bool (decide ((0<j)/\((OH ((rdl ws q).drop (k).toNat++(rdl ws q).take (k).toNat) ((rdl ws ((rdp U (j-1)).1)).drop (((rdp U (j-1)).2)).toNat++(rdl ws ((rdp U (j-1)).1)).take (((rdp U (j-1)).2)).toNat))<0))))] [(ru 5 kl (((rdl ws q).drop (k).toNat++(rdl ws q).take (k).toNat).length) ci ((rdl ws q).drop (k).toNat++(rdl ws q).take (k).toNat)),⟨230,2,B1,m1,d1,prs U,false⟩] ?_ ?_
   ·refine bI mixed<|wD 0 Z (aK Z)<|wD 1 Z (dE Z Z)<|wD 2 Z (aK Z)<|iL 33 Z (λew=> ?_) (λew=> ?_)
    ·refine wG 3 Z Z Z (aK Z)<|wG 4 Z Z Z (aK Z)<|wG 5 Z Z Z (aK Z)<|wG 6 Z Z Z (aK Z)<|wG 7 Z Z Z (gZ Z Z)<|wG 8 Z Z Z (dU jg kF Z Z (rdr 1 Z) Z)<|wG 9 Z Z Z (AQ (q:=0) jy sz3 Z Z (rdr 1 Z) G G Z cC cC)<|wG 10 Z Z Z (zA ai Z Z (rdr 1 Z))<|wG 11 Z Z Z (aG dm dA Z Z (go.c _) (by first|exact(gd (j-1) G G).1.1|exact(gd (j-1) G G).1.2.1) (by first|exact(gd (j-1) G G).1.1|exact(gd (j-1) G G).1.2.1)) ?_;refine mz.elim (i:=(rdp U (j-1)).1) (by first|exact(gd (j-1) G G).1.1|exact(gd (j-1) G G).1.2.1) (by first|exact(gd (j-1) G G).1.1|exact(gd (j-1) G G).1.2.1) (λen es Um Hn hb_18 mhr_17=> ?_);refine wG 12 Z Z Z (rF af Z Z Z (go.c _) Um)<|wG 13 Z Z Z (aK Z)<|wG 14 Z Z Z (aK Z)<|wG 15 Z Z Z (gZ Z Z)<|wG 16 Z Z Z (dU jg kF Z Z (rdr 1 Z) Z)<|wG 17 Z Z Z (AQ (q:=1) jy sz3 Z Z (rdr 1 Z) G G Z cC cC)<|wG 18 Z Z Z (aRs ai Z Z (rdr 1 Z) G G)<|GN 19 Z cA Z Z Z (aD bLl Z (Ct.fresh (λw hw=>YF ((Hn.c _) w hw) ⟨(gd (j-1) G G).1.2.2.1,De (gd (j-1) G G).1.2.2.2⟩ (No (j-1) G G)))) ?_;rintro _ _⟨_,rfl,b7,jn,rfl,rfl⟩;refine⟨.inr hrZ,?_⟩;refine GN 20 Z cA Z Z Z (aD bNb Z (Ct.quiet (λw hw=>WT ((rdr 1 Z) w hw) ((rdr 0 Z) w hw) (qx (aJd _ _) (qx (WO (ws:=ws) (k:=q) xd G) G)) (qx (aJd _ _) (No (j-1) G G))))) ?_;rintro _ _⟨rfl,rfl⟩;refine⟨.inr hiZ,?_⟩;refine wG 21 Z Z Z (eD Z Z)<|wD 22 Z (aT Z Z)<|wN ?_;exact⟨SA,λ_ h=>h.sel [1,2] cC Z⟩
    ·refine wO 3 Z Z Z<|wO 4 Z Z Z<|wO 5 Z Z Z<|wO 6 Z Z Z<|wO 7 Z Z Z<|wO 8 Z Z Z<|wO 9 Z Z Z<|wO 10 Z Z Z<|wO 11 Z Z Z<|wO 12 Z Z Z<|wO 13 Z Z Z<|wO 14 Z Z Z<|wO 15 Z Z Z<|wO 16 Z Z Z<|wO 17 Z Z Z ?_;refine wO 18 Z Z Z<|wO 19 Z Z Z<|wO 20 Z Z Z<|wO 21 Z Z Z<|wD 22 Z (aO Z Z)<|wN ?_;exact KP
   refine bA Z (λkd=> ?_) (λkd=> ?_)
   ·have Ss:=aWk (ws:=ws) xd G md G sd ue l7 wd kd;refine aI<|aH<|aL<|wm Z<|wS Z Z<|wn Z ?_;exact⟨j-1,⟨G,G,(Ss)⟩,G,KP⟩
   ·have tz:=bDp (ws:=ws) xd G md G sd wk ue l7 wd kd;refine aU<|bI mixed<|wD 1 Z (aK Z)<|wD 2 Z (aK Z)<|wD 3 Z (dQ jg kF Z Z (rdr 1 Z))<|wD 5 Z (aK Z)<|wD 6 Z (aK Z)<|wD 7 Z (dW (v:= .agg #[I q,I k]) Z (λw=>cA))<|wD 10 rfl (aK rfl)<|wD 11 rfl (aK rfl)<|wD 12 rfl (dK jg kF rfl rfl)<|UJ 0 8 cA ?_ ?_
    ·refine YM 0 Z Z (XG jg KC) ?_;rintro _ _⟨Oe,rfl,rfl⟩;refine⟨.inr hrZ,?_⟩;refine UJ 4 8 cA ?_ ?_
     ·refine YM 4 Z Z (iW 0 Z jg vD Z Z Z Z (RdC.toP (h:=(j).toNat) (rdr 2 Z) cG) G) ?_;rintro _ _⟨ov,oy,rfl,rfl⟩;refine⟨.inl cA,?_⟩;refine iF (v:=sl ov (0+((j).toNat)) oy) Z<|wC 8 Z (PH jg KC Z) ?_;rintro _ _⟨g_27,rfl,rfl⟩;refine⟨.inr hrZ,?_⟩;refine wC 9 Z (iW 1 Z jg vD Z Z Z Z (rdr 0 Z) G) ?_;rintro _ _⟨py,qe,rfl,rfl⟩;refine⟨.inl cA,?_⟩;refine iF (v:=sl py ((0+((j).toNat))+1) qe) Z<|wC 13 Z (iW 1 Z jg vD Z Z Z Z (RdC.fromP (rdr 3 Z) cG) G) ?_;rintro _ _⟨n5,o3,rfl,rfl⟩;refine⟨.inl cA,?_⟩;refine iF (v:=sl n5 (((0+((j).toNat))+1)+(m1-(j).toNat)) o3) Z<|wD 14 Z (bC Z)<|wN<|aL<|wm Z<|wA Z Z<|wn Z ?_;exact⟨k+1,n5,((0+((j).toNat))+1)+(m1-(j).toNat),o3,((([])++((U).take (j).toNat))++([(q,k)]))++((U).drop (j).toNat),⟨G,G,(by simp only[ah,ax,az,dh,jl];omega),(tz.1),(tz.2)⟩,G,SA,λ_ h=>h.sel [1] cC Z⟩
     ·refine YM 8 Z Z (PH jg KC Z) ?_;rintro _ _⟨Ww,rfl,rfl⟩;refine⟨.inr hrZ,?_⟩;refine wC 4 Z (iW 1 Z jg vD Z Z Z Z (RdC.toP (h:=(j).toNat) (rdr 3 Z) cG) G) ?_;rintro _ _⟨Lb,Lf,rfl,rfl⟩;refine⟨.inl cA,?_⟩;refine iF (v:=sl Lb (0+((j).toNat)) Lf) Z<|wC 9 Z (iW 1 Z jg vD Z Z Z Z (rdr 0 Z) G) ?_;rintro _ _⟨Wm,Wt,rfl,rfl⟩;refine⟨.inl cA,?_⟩;refine iF (v:=sl Wm ((0+((j).toNat))+1) Wt) Z<|wC 13 Z (iW 1 Z jg vD Z Z Z Z (RdC.fromP (rdr 3 Z) cG) G) ?_;rintro _ _⟨Rb,Ro,rfl,rfl⟩;refine⟨.inl cA,?_⟩;refine iF (v:=sl Rb (((0+((j).toNat))+1)+(m1-(j).toNat)) Ro) Z<|wD 14 Z (bC Z)<|wN<|aL<|wm Z<|wA Z Z<|wn Z ?_;exact⟨k+1,Rb,((0+((j).toNat))+1)+(m1-(j).toNat),Ro,((([])++((U).take (j).toNat))++([(q,k)]))++((U).drop (j).toNat),⟨G,G,(by simp only[ah,ax,az,dh,jl];omega),(tz.1),(tz.2)⟩,G,SA,λ_ h=>h.sel [1] cC Z⟩
    ·refine YM 8 Z Z (PH jg KC Z) ?_;rintro _ _⟨g_43,rfl,rfl⟩;refine⟨.inr hrZ,?_⟩;refine wC 0 Z (XG jg KC) ?_;rintro _ _⟨g_45,rfl,rfl⟩;refine⟨.inr hrZ,?_⟩;refine wC 4 Z (iW 0 Z jg vD Z Z Z Z (RdC.toP (h:=(j).toNat) (rdr 3 Z) cG) G) ?_;rintro _ _⟨Wn,Wu,rfl,rfl⟩;refine⟨.inl cA,?_⟩;refine iF (v:=sl Wn (0+((j).toNat)) Wu) Z<|wC 9 Z (iW 0 Z jg vD Z Z Z Z (rdr 1 Z) G) ?_;rintro _ _⟨Wo,Wv,rfl,rfl⟩;refine⟨.inl cA,?_⟩;refine iF (v:=sl Wo ((0+((j).toNat))+1) Wv) Z<|wC 13 Z (iW 0 Z jg vD Z Z Z Z (RdC.fromP (rdr 3 Z) cG) G) ?_;rintro _ _⟨Re,Rp,rfl,rfl⟩;refine⟨.inl cA,?_⟩;refine iF (v:=sl Re (((0+((j).toNat))+1)+(m1-(j).toNat)) Rp) Z<|wD 14 Z (bC Z)<|wN<|aL<|wm Z<|wA Z Z<|wn Z ?_;exact⟨k+1,Re,((0+((j).toNat))+1)+(m1-(j).toNat),Rp,((([])++((U).take (j).toNat))++([(q,k)]))++((U).drop (j).toNat),⟨G,G,(by simp only[ah,ax,az,dh,jl];omega),(tz.1),(tz.2)⟩,G,SA,λ_ h=>h.sel [0] cC Z⟩
  ·refine aU<|aL<|wm Z<|wA Z Z<|wn Z ?_;exact⟨q+1,B1,m1,d1,U,⟨G,G,(oc),(by have e:k.toNat=(rdl ws q).length:=G;rw[KT xd,<-e];exact sd),(wk)⟩,G,KP⟩
 ·refine aU<|wq<|wm Z<|wn Z<|aQ [0] 99 cC Z ?_;refine⟨_,Z,?_⟩;obtain rfl:=cv;exact⟨T,_,_,Z,by have e:q.toNat=ws.length:=G;rw[<-e];exact hp,hs,rfl⟩
variable {w:World} {ap:AF} {ar ao:Nat} {u:AH}
theorem aCc {i:Int} {j:Int} (ac:Rd w ap ar ao 1 (ints .u8 u)) (oa:0<=i/\i<=u.length/\0<=j/\j<=u.length):
  CF 263 #[sl ap ar ao,I i,I j] w (λv R'=>v=I (cmpL (u.drop i.toNat) (u.drop j.toNat))):=by
 obtain rfl:=ac.lenI;refine fn1 Tryz.func263 Z Z Z ?_;have li:=ac.max;refine wq<|wn Z<|aC<|wq<|wm Z<|wL Z Z<|wm Z<|cK 5 [(0,sl ap u.length ao),(1,I i),(2,I j),(14, .bool (decide ((i<0)\/((u.length:Int)<i))))] [] ?_ ?_
 ·refine bR 9 Z (λaq=> ?_) (λaq=> ?_)
  ·refine aM Z Z Z Z<|aM Z Z Z Z<|aM Z Z Z Z<|aM Z Z Z Z<|wy (aT Z Z)<|aA ?_;exact KP
  ·refine aB Z Z<|wm Z<|aB Z Z<|wm Z<|aB Z Z<|wy (aN af Z)<|aB Z Z<|wy (dE Z Z)<|wy (aO Z Z)<|aA ?_;exact KP
 refine oL 14 Z G<|wm Z<|aB Z Z<|wm Z<|aB Z Z<|wL Z Z<|wy (aO Z Z)<|wm Z<|cK 5 [(0,sl ap u.length ao),(1,I i),(2,I j),(24, .bool (decide ((j<0)\/((u.length:Int)<j))))] [] ?_ ?_
 ·refine bR 19 Z (λbp=> ?_) (λbp=> ?_)
  ·refine aM Z Z Z Z<|aM Z Z Z Z<|aM Z Z Z Z<|aM Z Z Z Z<|wy (aT Z Z)<|aA ?_;exact KP
  ·refine aB Z Z<|wm Z<|aB Z Z<|wm Z<|aB Z Z<|wy (aN af Z)<|aB Z Z<|wy (dE Z Z)<|wy (aO Z Z)<|aA ?_;exact KP
 refine oL 24 Z G<|aA<|aJ Z<|aI<|aC<|bI mixed<|wD 0 Z (aK Z)<|wD 1 Z (aK Z)<|wD 2 Z (dK af sz5 Z Z)<|wD 3 Z (aK Z)<|wD 4 Z (aK Z)<|wD 5 Z (dK af sz5 Z Z)<|wC 6 Z (aD bLk Z (Ct.quiet (λw hw=>QP ((RdC.fromI (ac.c _) G) w hw) ((RdC.fromI (ac.c _) G) w hw)))) ?_;rintro _ _⟨rfl,rfl⟩;refine⟨.inr hiZ,?_⟩;refine wD 7 Z (bC Z)<|wN<|bS ?_;refine⟨_,Z,?_⟩;rfl
theorem bIz (ac:Rd w ap ar ao 1 (ints .u8 u)):
  CF 218 #[sl ap ar ao] w (λv R'=>v= .bool (decide (tO u=true))):=by
 obtain rfl:=ac.lenI;refine fn1 Tryz.func218 Z Z Z ?_;have li:=ac.max;refine wq<|wn Z<|aC<|wq<|wn Z<|aH ?_;refine fM (λ(i:Int)=>[(0,sl ap u.length ao),(3,I i)]) (λi=>[]) (λi=>(1<=i)/\(i<=u.length+1)/\(∀r:Nat,0<r->(r:Int)<i->r<u.length->cmpL u (u.drop r)<0)) (λi=>(u.length+1-i).toNat) ?_ ?_
 ·exact⟨1,⟨G,G,(λr h1 h2=>G)⟩,KP⟩
 intro i ⟨ia,Ly,ju⟩;refine aC<|wq<|wm Z<|wm Z<|wy (aN af Z)<|wL Z Z<|aA<|bA Z (λaq=> ?_) (λaq=> ?_)
 ·refine aI<|aC<|aH<|wq<|wm Z<|wm Z<|wa (aD bMx Z (Ct.quiet (λw hw=>aCc ((ac.c _) w hw) ⟨G,G,G,G⟩))) ?_;rintro _ _⟨rfl,rfl⟩;refine wy (iA Z Z)<|aA<|bA Z (λbp=> ?_) (λbp=> ?_)
  ·refine wq<|wn Z<|bS ?_;refine⟨_,Z,?_⟩;exact bq Value.bool (mr λh=>by have:=((pK u).1 h).2 i.toNat G G;exact absurd bp (Int.not_le.2 this)).symm
  ·refine aI<|aL<|wm Z<|wA Z Z<|wn Z ?_
   exact⟨i+1,⟨G,G,(λr h1 h2 h3=>by
     rcases bn (r:Int) i with a|a
     ·exact ju r h1 a h3
     ·have e:r=i.toNat:=G
      rw[e];exact Int.not_le.1 bp)⟩,G,KP⟩
 ·refine aU<|wq<|wm Z<|wy (aN af Z)<|wy (dE Z Z)<|wn Z<|bS ?_;refine⟨_,Z,?_⟩;exact bq Value.bool (yj.2 ⟨λh=>(pK u).2 ⟨G,λr h1 h2=>ju r h1 G h2⟩,λh=>by have:=((pK u).1 h).1;omega⟩)
theorem aBw (ac:Rd w ap ar ao 1 (ints .u8 u)) (hN:u.length<=1000000):
  CF 145 #[sl ap ar ao] w (λv R'=> ∃A c,v=sl A (dN u).length c/\R'=[(ri 3 A ((dN u).length) c (dN u))]):=by
 obtain rfl:=ac.lenI;refine fn1 Tryz.func145 Z Z Z ?_;have li:=ac.max;refine wq<|wn Z<|wq<|dB (R1:=[(ri 3 none 0 0 ([]))]) (Sub.refl _) (λ_ h=>h.nil 3 1)<|wn Z<|aC<|aH ?_;refine uA (λ(A0:AF) (n0:Nat) (c0:Nat) (t:AH) (A1:AF) (n1:Nat) (c1:Nat) (acc:AH)=>[(0,sl A0 n0 c0),(3,sl A1 n1 c1)]) (λA0 n0 c0 t A1 n1 c1 acc=>[(ri 3 A1 n1 c1 acc)]) (λA0 n0 c0 t A1 n1 c1 acc=>(Rd w A0 n0 c0 1 (ints .u8 t))/\(n1=acc.length)/\(dN u=acc++dN t)/\(acc.length<=u.length)) (λA0 n0 c0 t A1 n1 c1 acc=>t.length) ?_ ?_
 ·exact⟨ap,u.length,ao,u,none,0,0,[],⟨(ac),(Z),(Z),cD⟩,KP⟩
 intro A0 n0 c0 t A1 n1 c1 acc ⟨jj,cv,j9,Vq⟩;have Ma:=jj.lenI;have px:=jj.max;refine aC<|wq<|wm Z<|wy (aN af Z)<|wy (dE Z Z)<|aA<|bA Z (λaq=> ?_) (λaq=> ?_)
 ·refine aI<|aH<|wq<|wm Z<|wy (aN af Z)<|wn Z<|aC<|aH ?_;refine fM (λ(n:Int)=>[(0,sl A0 n0 c0),(3,sl A1 n1 c1),(4,I n)]) (λn=>[(ri 3 A1 n1 c1 acc)]) (λn=>(1<=n)/\(n<=t.length)/\(iQ t t.length=iQ t n.toNat)) (λn=>n.toNat) ?_ ?_
  ·exact⟨(n0:Int),⟨G,G,(by rw[show(n0:Int).toNat=t.length by omega])⟩,KP⟩
  intro n ⟨yi,Vx,Qn⟩;refine aC<|wq<|wm Z<|wm Z<|wy (dQ af sz5 Z Z (jj.c _))<|wa (aD bNq Z (Ct.quiet (λw hw=>bIz ((RdC.toI (jj.c _) G) w hw)))) ?_;rintro _ _⟨rfl,rfl⟩;refine wy (EQ Z)<|aA<|bA Z (λbp=> ?_) (λbp=> ?_)
  ·have hsk:=aAy yi Vx bp;refine aI<|aH<|aL<|wm Z<|wS Z Z<|wn Z ?_;exact⟨n-1,⟨G,G,(by rw[Qn];exact hsk.2.symm)⟩,G,KP⟩
  ·have Yp:=aGb yi (vk.1 bp);have e9:dN u=(acc++[n])++dN (t.drop n.toNat):=by rw[j9,FZ G,Qn,Yp,show iQ t n.toNat=n.toNat by omega,gy];rfl
   refine aU<|wq<|wm Z<|wm Z<|wa (bH .i64 [n] aa zs3 Z Z Z) ?_;rintro _ _⟨bx,rfl,rfl⟩;refine wa (aS 1 Z aa zb3 Z Z Z (rdr 0 Z)) ?_;rintro _ _⟨fi,fj,rfl,rfl⟩;refine bF (v:=sl fi (n1+1) fj) Z<|wn Z<|aL<|wm Z<|wm Z<|wy (dK af sz5 Z Z)<|wn Z ?_;exact⟨jE A0 (n).toNat c0 1,n0-(n).toNat,c0-(n).toNat,t.drop n.toNat,fi,n1+1,fj,acc++([n]),⟨(jj.fromI G),(by rw[ah,cv];rfl),(e9),(by rw[ah,gq];have a:=bq List.length e9;have b:=DU u;rw[ah,ah,gq] at a;omega)⟩,(by rw[az];omega),SA,λ_ h=>h.sel [1] cC Z⟩
 ·refine aU<|wq<|wm Z<|wn Z<|aQ [0] 99 cC Z ?_;refine⟨_,Z,?_⟩;have e:t.length=0:=G
  rw[NN e,jk] at j9;rw[j9];obtain rfl:=cv;exact⟨_,_,Z,Z⟩
theorem aGw (ac:Rd w ap ar ao 1 (ints .u8 u)) (hN:u.length<=1000000):
  CF 178 #[sl ap ar ao] w (λv R'=> ∃A c,v=sl A (dN u).length c/\R'=[(ri 3 A ((dN u).length) c (dN u))]):=by
 obtain rfl:=ac.lenI;refine fn1 Tryz.func178 Z Z Z ?_;have li:=ac.max;refine wq<|wn Z<|wq<|dB (R1:=[(ri 3 none 0 0 ([]))]) (Sub.refl _) (λ_ h=>h.nil 3 1)<|wn Z<|aC<|wq<|wn Z<|aH ?_;refine fK (λ(a:Int) (A1:AF) (n1:Nat) (c1:Nat) (acc:AH)=>[(0,sl ap u.length ao),(3,sl A1 n1 c1),(4,I a)]) (λa A1 n1 c1 acc=>[(ri 3 A1 n1 c1 acc)]) (λa A1 n1 c1 acc=>(0<=a)/\(a<=u.length)/\(n1=acc.length)/\(acc.length<=a)/\(dN u=acc++dN (u.drop a.toNat))) (λa A1 n1 c1 acc=>(u.length-a).toNat) ?_ ?_
 ·exact⟨0,none,0,0,[],⟨G,G,(Z),cD,(Z)⟩,KP⟩
 intro a A1 n1 c1 acc ⟨Vi,ha1,cv,Vq,j9⟩;refine aC<|wq<|wm Z<|wm Z<|wy (aN af Z)<|wL Z Z<|aA<|bA Z (λaq=> ?_) (λaq=> ?_)
 ·refine aI<|aH<|wq<|wm Z<|wm Z<|wA Z Z<|wg Z<|wn Z<|aC<|aH ?_;refine dM (λ(i:Int) (j:Int)=>[(0,sl ap u.length ao),(3,sl A1 n1 c1),(4,I a),(5,I i),(6,I j)]) (λi j=>[(ri 3 A1 n1 c1 acc)]) (λi j=>(a<=i)/\(i<j)/\(j<=u.length)/\(tQ u a (j-i))/\(tK u a (j-i) (j-a))) (λi j=>(u.length-j).toNat) ?_ ?_
  ·exact⟨a,a+1,⟨G,G,G,(IE.1),(IE.2)⟩,KP⟩
  intro i j ⟨v8,oa,hj,hL,hP⟩;refine aC ?_;refine lM [(0,sl ap u.length ao),(3,sl A1 n1 c1),(4,I a),(5,I i),(6,I j),(28, .bool (decide ((j<(u.length:Int))/\((rd u i)<=(rd u j)))))] [(ri 3 A1 n1 c1 acc)] ?_ ?_
  ·refine bI mixed<|wD 0 Z (aK Z)<|wD 1 Z (aK Z)<|wD 2 Z (aN af Z)<|wD 3 Z (eD Z Z)<|wD 4 Z (aK Z)<|iL 18 Z (λbp=> ?_) (λbp=> ?_)
   ·refine wG 5 Z Z Z (aK Z)<|wG 6 Z Z Z (aK Z)<|wG 7 Z Z Z (aG af sz5 Z Z (ac.c _))<|wG 8 Z Z Z (aR ay Z Z (ac.c _))<|wG 9 Z Z Z (aK Z)<|wG 10 Z Z Z (aK Z)<|wG 11 Z Z Z (aG af sz5 Z Z (ac.c _))<|wG 12 Z Z Z (aR ay Z Z (ac.c _))<|wG 13 Z Z Z (qK Z Z)<|wD 14 Z (aT Z Z)<|wN ?_;exact KP
   ·refine wO 5 Z Z Z<|wO 6 Z Z Z<|wO 7 Z Z Z<|wO 8 Z Z Z<|wO 9 Z Z Z<|wO 10 Z Z Z<|wO 11 Z Z Z<|wO 12 Z Z Z<|wO 13 Z Z Z<|wD 14 Z (aO Z Z)<|wN ?_;exact KP
  refine bA Z (λew=> ?_) (λew=> ?_)
  ·refine aI<|aH<|aC<|aC<|bI mixed<|wD 0 Z (aK Z)<|wD 1 Z (aK Z)<|wD 2 Z (aG af sz5 Z Z (ac.c _))<|wD 3 Z (aR ay Z Z (ac.c _))<|wD 4 Z (aK Z)<|wD 5 Z (aK Z)<|wD 6 Z (aG af sz5 Z Z (ac.c _))<|wD 7 Z (aR ay Z Z (ac.c _))<|wD 8 Z (eD Z Z)<|wN ?_;refine bA Z (λkd=> ?_) (λkd=> ?_)
   ·refine aL<|wm Z<|wn Z<|aL<|wm Z<|wA Z Z<|wn Z ?_;exact⟨a,j+1,⟨G,G,G,((aCl Vi v8 oa hL hP kd).1),((aCl Vi v8 oa hL hP kd).2)⟩,G,KP⟩
   ·refine aL<|wm Z<|wA Z Z<|wn Z<|aL<|wm Z<|wA Z Z<|wn Z ?_;exact⟨i+1,j+1,⟨G,G,G,((aCm Vi v8 oa hL hP ew.2 kd).1),((aCm Vi v8 oa hL hP ew.2 kd).2)⟩,G,KP⟩
  ·refine aU<|aH ?_;refine fK (λ(b:Int) (A2:AF) (n2:Nat) (c2:Nat) (wv:AH)=>[(0,sl ap u.length ao),(3,sl A2 n2 c2),(4,I b),(5,I i),(6,I j)]) (λb A2 n2 c2 wv=>[(ri 3 A2 n2 c2 wv)]) (λb A2 n2 c2 wv=>(a<=b)/\(b<=j)/\(n2=wv.length)/\(wv.length<=b)/\(dN u=wv++dN (u.drop b.toNat))/\(b<=i->tQ u b (j-i)/\tK u b (j-i) (j-b))) (λb A2 n2 c2 wv=>(j-b).toNat) ?_ ?_
   ·exact⟨a,A1,n1,c1,acc,⟨G,G,(cv),(Vq),(j9),(λ_=>⟨hL,hP⟩)⟩,KP⟩
   intro b A2 n2 c2 wv ⟨o9,xt,tg,Yw,e9,Vd⟩;refine aC<|wq<|wm Z<|wm Z<|wy (qK Z Z)<|aA<|bA Z (λme=> ?_) (λme=> ?_)
   ·refine aI<|aH<|wq<|wm Z<|wm Z<|wm Z<|wS Z Z<|wa (bH .i64 [j-i] aa zs3 Z Z Z) ?_;rintro _ _⟨bx,rfl,rfl⟩;refine wa (aS 1 Z aa zb3 Z Z Z (rdr 0 Z)) ?_;rintro _ _⟨fi,fj,rfl,rfl⟩;refine bF (v:=sl fi (n2+1) fj) Z<|wn Z<|aL<|wm Z<|wm Z<|wm Z<|wS Z Z<|wA Z Z<|wn Z ?_;exact⟨b+(j-i),fi,n2+1,fj,wv++([j-i]),⟨G,G,(by rw[ah,tg];rfl),(by rw[ah,gq];omega),(by rw[e9,aQc G me oa hj (Vd me).1 (Vd me).2 ew,gy];rfl),(λh=>aGy G oa (Vd me).1 (Vd me).2 h)⟩,G,SA,λ_ h=>h.sel [1] cC Z⟩
   ·refine aU ?_;exact⟨b,A2,n2,c2,wv,⟨G,G,(tg),(Yw),(e9)⟩,G,KP⟩
 ·refine aU<|wq<|wm Z<|wn Z<|aQ [0] 99 cC Z ?_;refine⟨_,Z,?_⟩;have e:(u.drop a.toNat).length=0:=by rw[az];omega
  rw[NN e,jk] at j9;rw[j9];obtain rfl:=cv;exact⟨_,_,Z,Z⟩
end Go.Proofs.YtdbebmmhdefgdaaGreat
namespace Go.Pure
open Go Go.Eng
section
variable {u m V:AH} {i:Int}
end
theorem bBz {l:AE} {f:Int × Int->Int} {i:Int} (h0:0<=i) (h:i<l.length):rd (l.map f) i=f (rdp l i):=by
 unfold rd rdp;rw[ak,ak,tq,av G];rfl
end Go.Pure
namespace Go.Proofs.YtdbebmmhdefgdaaGreat
open Go Go.Eng Go.Pure
open Tryz
set_option maxRecDepth 100000
variable {w:World} {ap:AF} {ar ao:Nat} {u:AH}
theorem KL {s:AH} {k:Int} (h:k=(dN s).length):gV s (dN s) k=bws s:=by rw[h];rfl
theorem OV (ac:Rd w ap ar ao 1 (ints .u8 u)) (an:aP u) (hN:u.length<=100000):
  CF 104 #[sl ap ar ao] w (λv R'=> ∃(lt:AE) (A:AF) (c:Nat),v= .tuple #[sl A lt.length c,I 0]/\lt.Perm (gD (bws u) (bws u).length)/\lt.Pairwise (jF (bws u))/\R'=[(ru 5 A lt.length c (lt.map (lastB (bws u))))]):=by
 obtain rfl:=ac.lenI;refine fn2 Tryz.func104 Z Z Z ?_;have li:=ac.max;have ux:=DU u;refine wq<|wg Z<|wn Z<|aC<|wq<|wm Z<|wy (aN af Z)<|wy (Yl.f (dE Z Z))<|aA<|aJ Z<|aI<|aC ?_;refine aL<|dB (R1:=[⟨22,1,none,0,0,[],false⟩]) (Sub.refl _) (λ_ h=>h.nil 22 1)<|wn Z<|wq<|wn Z<|aC<|wq<|wm Z<|wa (aD bOk Z (Ct.fresh (λw hw=>aGw ((ac.c _) w hw) G))) ?_;rintro _ _⟨_,rfl,bm,bl,rfl,rfl⟩;refine wy (aN aa Z)<|wm Z<|aA<|aH ?_;refine mU (λ(k:Int) (A1:AF) (n1:Nat) (c1:Nat) (vals:AG) (a:Int)=>[(0,sl ap u.length ao),(4,sl A1 n1 c1),(5,I a),(16,sl bm ((dN (u)).length) bl),(17,I (((dN (u)).length:Nat):Int)),(18,I k)]) (λk A1 n1 c1 vals a=>[(ri 3 bm ((dN (u)).length) bl (dN (u))),⟨22,1,A1,n1,c1,vals,false⟩]) (λk A1 n1 c1 vals a=>(0<=k)/\(k<=(dN u).length)/\(n1=k.toNat)/\(SlW .u8 w vals (gV u (dN u) k))/\(a=ps (dN u) k)) (λk A1 n1 c1 vals a=>((dN u).length-k).toNat) ?_ ?_
 ·exact⟨0,none,0,0,[],0,⟨G,G,(Z),(jI _ _),(Z)⟩,KP⟩
 intro k A1 n1 c1 vals a ⟨md,vd,cv,vf,ha⟩;refine wq<|wL Z Z<|aA<|aC<|bA Z (λaq=> ?_) (λaq=> ?_)
 ·have Mg:=lN (L:=dN u) md G;have ua:=bFm u (k+1);have k6:=FJ (rA u) k;have Ub:=rA u _ (bJ (L:=dN u) md G)
  have Pq:SlW .u8 w (vals++[sl (jE ap a.toNat ao 1) ((a+rd (dN u) k).toNat-a.toNat) (ao-a.toNat)]) (gV u (dN u) (k+1)):=by
   rw[vI md,<-ha,show(rd (dN u) k).toNat=(a+rd (dN u) k).toNat-a.toNat by omega];exact vf.snoc (ac.cutI G G) (λx hx=>fZ (an x (pq (mg hx)))) (by rw[ax,az];omega)
  refine aI<|aC<|aH<|wq<|wy (aG aa sz3 Z Z (rdr 0 Z))<|wy (aR ai Z Z (rdr 0 Z))<|wn Z<|wq<|wm Z<|wm Z<|wm Z<|wm Z ?_;refine wm Z<|wA Z Z<|wy (aIs af sz5 Z Z Z (ac.c _) G G G)<|wa (mK [Value.slice (jE ap (a).toNat ao 1) ((a+(rd (dN (u)) k)).toNat-(a).toNat) (ao-(a).toNat)] dm yK Z Z Z Z) ?_;rintro _ _⟨kx,rfl,rfl⟩;refine wa (pJ 2 Z Z dm bAk Z Z Z Z Z (rdr 0 Z) (by simp[Value.oneCell']) (by dsimp only;omega)) ?_;rintro _ _⟨dy,jt,rfl,rfl⟩;refine bF (v:=sl dy (n1+1) jt) Z<|wn Z<|aL<|wm Z<|wm Z<|wA Z Z<|wn Z<|aL<|wA Z Z<|wm Z<|aA ?_;exact⟨k+1,dy,n1+1,jt,vals++([Value.slice (jE ap (a).toNat ao 1) ((a+(rd (dN (u)) k)).toNat-(a).toNat) (ao-(a).toNat)]),a+(rd (dN (u)) k),⟨G,G,G,(Pq),(by rw[Mg,ha])⟩,G,SA,λ_ h=>h.sel [1,2] cC Z⟩
 ·refine aU<|wq<|wa (bH .u8 [] af zs5 Z Z Z) ?_;rintro _ _⟨pi,rfl,rfl⟩;refine wn Z<|aC<|wq<|wm Z<|wa (aD bOj Z (Ct.fresh (λw hw=>aSe ((rdr 2 Z) w hw) (vf.c hw) (by rw[KL (show k=(dN u).length by omega),lL,aLp];have:=DU u;omega)))) ?_;rintro _ _⟨_,rfl,lt,kl,ci,rfl,w7,gs,rfl⟩;refine wy (aN jg Z)<|wm Z<|aA<|aH ?_;refine fK (λ(q:Int) (B1:AF) (m1:Nat) (d1:Nat) (acc:AH)=>[(4,sl A1 n1 c1),(8,sl B1 m1 d1),(37,sl kl lt.length ci),(38,I (lt.length:Int)),(39,I q)]) (λq B1 m1 d1 acc=>[⟨230,2,kl,lt.length,ci,prs lt,false⟩,(ru 5 B1 m1 d1 acc),(ri 3 bm ((dN (u)).length) bl (dN (u))),⟨22,1,A1,n1,c1,vals,false⟩]) (λq B1 m1 d1 acc=>(0<=q)/\(q<=lt.length)/\(m1=acc.length)/\(acc.length=q.toNat)/\(acc=(lt.take q.toNat).map (lastB (gV u (dN u) k)))) (λq B1 m1 d1 acc=>(lt.length-q).toNat) ?_ ?_
  ·exact⟨0,GG pi,0,0,[],⟨G,G,(Z),(Z),(Z)⟩,KP⟩
  intro q B1 m1 d1 acc ⟨kj,yi,oc,Xw,ba⟩;have va:lt.length=u.length:=by rw[KL (show k=(dN u).length by omega)] at w7;exact yI w7
  refine wq<|wL Z Z<|aA<|aC<|bA Z (λbp=> ?_) (λbp=> ?_)
  ·have ht:=yA.1 (w7.subset (kQ (l:=lt) kj G));have It:=ht.2.2;have he0:=ko ((rdp lt q).2+(rdl (gV u (dN u) k) (rdp lt q).1).length-1) (show((rdl (gV u (dN u) k) (rdp lt q).1).length:Int)≠0 by omega);have he1:=ja ((rdp lt q).2+(rdl (gV u (dN u) k) (rdp lt q).1).length-1) (show(0:Int)<(rdl (gV u (dN u) k) (rdp lt q).1).length by omega);refine aI<|aC<|aH<|wq<|wy (dU jg kF Z Z (rdr 0 Z) Z)<|wy (KF jy Z kF Z (rdr 0 Z))<|wa (iC (sz:=2) aRn Z) ?_;rintro _ _⟨o6,rfl,rfl⟩;refine bV (fQ (vs:=[I ((rdp lt q).1),I ((rdp lt q).2)]) 0 Z kF Z Z Z (by intro v hv;simp at hv;rcases hv with rfl|rfl<;>rfl) Z) ?_;rintro _ _ rfl;refine aA<|wq<|wm Z<|wy (bW (q:=0) (rdr 0 Z) jy sz3 Z Z (au Z) cC cC Z)<|wy (yL 0 ai Z Z Z)<|wy (aG dm dA Z Z (rdr 4 Z) (by first|exact ht.1|(have:=ht.2.1;rw[tY] at this;omega)) (by first|exact ht.1|(have:=ht.2.1;rw[tY] at this;omega))) ?_;refine vf.elim (i:=(rdp lt q).1) (by first|exact ht.1|exact ht.2.1) (by first|exact ht.1|exact ht.2.1) (λfz th Un Np hb_20 mhr_19=> ?_);refine wy (rF af Z Z Z (rdr 4 Z) Un)<|wn Z<|aL<|wm Z<|wm Z<|wy (bW (q:=1) (rdr 0 Z) jy sz3 Z Z (au Z) cC cC Z)<|wy (yL 0 ai Z Z Z)<|wm Z<|wy (aN af Z)<|wA Z Z<|wS Z Z<|wm Z<|wy (aN af Z)<|wy (uV Z Z) ?_;refine wy (aG af sz5 Z Z (Np.c _))<|wy (aR ay Z Z (Np.c _))<|wa (bH .u8 [rd (rdl (gV u (dN u) k) ((rdp lt q).1)) (((((rdp lt q).2)+(((rdl (gV u (dN u) k) ((rdp lt q).1)).length:Nat):Int))-1)%(((rdl (gV u (dN u) k) ((rdp lt q).1)).length:Nat):Int))] af zs5 Z Z Z) ?_;rintro _ _⟨Lj,rfl,rfl⟩;refine wa (aS 3 Z af zb5 Z Z Z (rdr 0 Z)) ?_;rintro _ _⟨m9,o0,rfl,rfl⟩;refine bF (v:=sl m9 (m1+1) o0) Z<|wn Z<|aL<|wA Z Z<|wm Z<|aA ?_;exact⟨q+1,m9,m1+1,o0,acc++([rd (rdl (gV u (dN u) k) ((rdp lt q).1)) (((((rdp lt q).2)+(((rdl (gV u (dN u) k) ((rdp lt q).1)).length:Nat):Int))-1)%(((rdl (gV u (dN u) k) ((rdp lt q).1)).length:Nat):Int))]),⟨G,G,(by rw[ah,oc];rfl),(by rw[ah,Xw,gq];omega),(by rw[YL kj G,jo,ba];rfl)⟩,G,SA,λ_ h=>h.sel [2,3,4,5] cC Z⟩
  ·refine aU<|wq<|wm Z<|wg Z<|wn Z<|aQ [1] 99 cC Z ?_;refine⟨_,_,Z,Z,?_⟩;have e:k=(dN u).length:=G
   rw[KL e] at w7 gs ba;rw[bg G] at ba;subst ba;obtain rfl:m1=lt.length:=by rw[oc,cu]
   exact⟨lt,_,_,Z,w7,gs,Z⟩
theorem aOw {gg:AF} {mm gi:Nat} {dt:AG} {ws:AD} (go:Rd w gg mm gi 1 dt) (mz:SlW .u8 w dt ws) (hN:ws.flatten.length<=400000/\ws.length<=1000000):
  CF 139 #[sl gg mm gi] w (λv R'=> ∃(lt:AE) (A:AF) (c:Nat),v=sl A lt.length c/\lt.Perm (gD ws ws.length)/\lt.Pairwise (jF ws)/\R'=[(ru 5 A lt.length c (lt.map (lastB ws)))]):=by
 obtain rfl:mm=ws.length:=by have:=go.len;have:=mz.1;omega
 refine fn1 Tryz.func139 Z Z Z ?_;have Jx:=go.max;refine wq<|wn Z<|wq<|wm Z<|wa (aD bNx Z (Ct.fresh (λw hw=>aMk ((go.c _) w hw) (mz.c hw) cE))) ?_;rintro _ _⟨_,rfl,l8,bm,bl,rfl,Zm,hs8,rfl⟩;refine wn Z<|wq<|dB (R1:=[(ru 5 none 0 0 ([])),⟨230,2,bm,l8.length,bl,prs l8,false⟩]) (Sub.refl _) (λ_ h=>h.nil 5 1)<|wn Z<|aC<|wq<|wn Z<|aH ?_;refine fK (λ(q:Int) (B1:AF) (m1:Nat) (d1:Nat) (acc:AH)=>[(0,sl gg ws.length gi),(3,sl bm l8.length bl),(4,sl B1 m1 d1),(5,I q)]) (λq B1 m1 d1 acc=>[(ru 5 B1 m1 d1 acc),⟨230,2,bm,l8.length,bl,prs l8,false⟩]) (λq B1 m1 d1 acc=>(0<=q)/\(q<=l8.length)/\(m1=acc.length)/\(acc.length=q.toNat)/\(acc=(l8.take q.toNat).map (lastB ws))) (λq B1 m1 d1 acc=>(l8.length-q).toNat) ?_ ?_
 ·exact⟨0,none,0,0,[],⟨G,G,(Z),(Z),(Z)⟩,KP⟩
 intro q B1 m1 d1 acc ⟨kj,yi,oc,Xw,ba⟩;have va:=aLw Zm;refine aC<|wq<|wm Z<|wm Z<|wy (aN jg Z)<|wL Z Z<|aA<|bA Z (λaq=> ?_) (λaq=> ?_)
 ·have ht:=yA.1 (Zm.subset (kQ (l:=l8) kj G));have It:=ht.2.2;have he0:=ko ((rdp l8 q).2+(rdl ws (rdp l8 q).1).length-1) (show((rdl ws (rdp l8 q).1).length:Int)≠0 by omega);have he1:=ja ((rdp l8 q).2+(rdl ws (rdp l8 q).1).length-1) (show(0:Int)<(rdl ws (rdp l8 q).1).length by omega);refine aI<|aC<|aH<|wq<|wm Z<|wm Z<|wm Z<|wy (dU jg kF Z Z (rdr 1 Z) Z)<|wy (AQ (q:=0) jy sz3 Z Z (rdr 1 Z) G G Z cC cC)<|wy (zA ai Z Z (rdr 1 Z))<|wy (aG dm dA Z Z (go.c _) (by first|exact ht.1|exact ht.2.1) (by first|exact ht.1|exact ht.2.1)) ?_;refine mz.elim (i:=(rdp l8 q).1) (by first|exact ht.1|exact ht.2.1) (by first|exact ht.1|exact ht.2.1) (λiu js Zz Mk hb_8 mhr_7=> ?_);refine wy (rF af Z Z Z (go.c _) Zz)<|wn Z<|aL<|wm Z<|wm Z<|wm Z<|wm Z<|wy (dU jg kF Z Z (rdr 1 Z) Z)<|wy (AQ (q:=1) jy sz3 Z Z (rdr 1 Z) G G Z cC cC)<|wy (aRs ai Z Z (rdr 1 Z) G G)<|wm Z<|wy (aN af Z)<|wA Z Z<|wS Z Z ?_;refine wm Z<|wy (aN af Z)<|wy (uV Z Z)<|wy (aG af sz5 Z Z (Mk.c _))<|wy (aR ay Z Z (Mk.c _))<|wa (bH .u8 [rd (rdl ws ((rdp l8 q).1)) (((((rdp l8 q).2)+(((rdl ws ((rdp l8 q).1)).length:Nat):Int))-1)%(((rdl ws ((rdp l8 q).1)).length:Nat):Int))] af zs5 Z Z Z) ?_;rintro _ _⟨Li,rfl,rfl⟩;refine wa (aS 1 Z af zb5 Z Z Z (rdr 0 Z)) ?_;rintro _ _⟨kl,ci,rfl,rfl⟩;refine bF (v:=sl kl (m1+1) ci) Z<|wn Z<|aL<|wm Z<|wA Z Z<|wn Z ?_;exact⟨q+1,kl,m1+1,ci,acc++([rd (rdl ws ((rdp l8 q).1)) (((((rdp l8 q).2)+(((rdl ws ((rdp l8 q).1)).length:Nat):Int))-1)%(((rdl ws ((rdp l8 q).1)).length:Nat):Int))]),⟨G,G,(by rw[ah,oc];rfl),(by rw[ah,Xw,gq];omega),(by rw[YL kj G,jo,ba];rfl)⟩,G,SA,λ_ h=>h.sel [1,2] cC Z⟩
 ·refine aU<|wq<|wm Z<|wn Z<|aQ [0] 99 cC Z ?_;refine⟨_,Z,?_⟩;rw[bg G] at ba;subst ba;obtain rfl:m1=l8.length:=by rw[oc,cu]
  exact⟨l8,_,_,Z,Zm,hs8,Z⟩
theorem QV (ac:Rd w ap ar ao 1 (ints .u8 u)) (an:aP u) (hN:u.length<=100000):
  CF 83 #[sl ap ar ao] w (λv R'=> ∃(lt:AE) (A:AF) (c:Nat),v=sl A lt.length c/\lt.Perm (gD (bws u) (bws u).length)/\lt.Pairwise (jF (bws u))/\R'=[(ru 5 A lt.length c (lt.map (lastB (bws u))))]):=by
 obtain rfl:=ac.lenI;refine fn1 Tryz.func83 Z Z Z ?_;have li:=ac.max;have ux:=DU u;refine wq<|wn Z<|wq<|wm Z<|wa (aD bOw Z (Ct.fresh (λw hw=>aBw ((ac.c _) w hw) G))) ?_;rintro _ _⟨_,rfl,bm,bl,rfl,rfl⟩;refine wn Z<|wq<|dB (R1:=[⟨22,1,none,0,0,[],false⟩,(ri 3 bm ((dN (u)).length) bl (dN (u)))]) (Sub.refl _) (λ_ h=>h.nil 22 1)<|wn Z<|aC<|wq<|wn Z<|aH ?_;refine uA (λ(k:Int) (A1:AF) (n1:Nat) (c1:Nat) (vals:AG) (A0:AF) (n0:Nat) (c0:Nat)=>[(0,sl A0 n0 c0),(3,sl bm ((dN (u)).length) bl),(4,sl A1 n1 c1),(5,I k)]) (λk A1 n1 c1 vals A0 n0 c0=>[⟨22,1,A1,n1,c1,vals,false⟩,(ri 3 bm ((dN (u)).length) bl (dN (u)))]) (λk A1 n1 c1 vals A0 n0 c0=>(0<=k)/\(k<=(dN u).length)/\(n1=k.toNat)/\(SlW .u8 w vals (gV u (dN u) k))/\(Rd w A0 n0 c0 1 (ints .u8 (u.drop (ps (dN u) k).toNat)))) (λk A1 n1 c1 vals A0 n0 c0=>((dN u).length-k).toNat) ?_ ?_
 ·exact⟨0,none,0,0,[],ap,u.length,ao,⟨G,G,(Z),(jI _ _),(ac)⟩,KP⟩
 intro k A1 n1 c1 vals A0 n0 c0 ⟨md,vd,cv,vf,jj⟩;have Ma:=jj.lenI;have px:=jj.max;rw[az] at Ma;refine aC<|wq<|wm Z<|wm Z<|wy (aN aa Z)<|wL Z Z<|aA<|bA Z (λaq=> ?_) (λaq=> ?_)
 ·have Mg:=lN (L:=dN u) md G;have ua:=bFm u (k+1);have k6:=FJ (rA u) k;have Ub:=rA u _ (bJ (L:=dN u) md G)
  have Pq:SlW .u8 w (vals++[sl A0 (rd (dN u) k).toNat c0]) (gV u (dN u) (k+1)):=by
   rw[vI md];exact vf.snoc (jj.toI G) (λx hx=>fZ (an x (pq (mg hx)))) (by rw[ax,az];omega)
  refine aI<|aC<|aH<|wq<|wm Z<|wm Z<|wm Z<|wm Z<|wy (aG aa sz3 Z Z (rdr 1 Z))<|wy (aR ai Z Z (rdr 1 Z))<|wy (dQ af sz5 Z Z (jj.c _))<|wa (mK [Value.slice A0 ((rd (dN (u)) k).toNat) c0] dm yK Z Z Z Z) ?_;rintro _ _⟨kx,rfl,rfl⟩;refine wa (pJ 1 Z Z dm bAk Z Z Z Z Z (rdr 0 Z) (by simp[Value.oneCell']) (by dsimp only;omega)) ?_;rintro _ _⟨dy,jt,rfl,rfl⟩;refine bF (v:=sl dy (n1+1) jt) Z<|wn Z<|aL<|wm Z<|wm Z<|wm Z<|wy (aG aa sz3 Z Z (rdr 2 Z))<|wy (aR ai Z Z (rdr 2 Z))<|wy (dK af sz5 Z Z)<|wn Z<|aL<|wm Z<|wA Z Z ?_;refine wn Z ?_
  exact⟨k+1,dy,n1+1,jt,vals++([Value.slice A0 ((rd (dN (u)) k).toNat) c0]),jE A0 (rd (dN (u)) k).toNat c0 1,n0-(rd (dN (u)) k).toNat,c0-(rd (dN (u)) k).toNat,⟨G,G,G,(Pq),(by
    have h:=jj.fromI (l:=(rd (dN u) k).toNat) G;rw[Gg] at h;rw[Mg,show(ps (dN u) k+rd (dN u) k).toNat=(ps (dN u) k).toNat+(rd (dN u) k).toNat by omega]
    exact h)⟩,G,SA,λ_ h=>h.sel [1,2] cC Z⟩
 ·refine aU<|wq<|wm Z<|wa (aD bPc Z (Ct.fresh (λw hw=>aOw ((rdr 0 Z) w hw) (vf.c hw) (by rw[KL (show k=(dN u).length by omega),lL,aLp];omega)))) ?_;rintro _ _⟨_,rfl,l2,jz,lz,rfl,qs,ub,rfl⟩;refine wn Z<|aQ [0] 99 cC Z ?_;refine⟨_,Z,?_⟩;have e:k=(dN u).length:=G
  rw[KL e] at qs ub ⊢;exact⟨l2,_,_,Z,qs,ub,Z⟩
end Go.Proofs.YtdbebmmhdefgdaaGreat
namespace Go.Pure
open Go Go.Eng
section
variable {p:AH}
theorem vJ {j:Int} (j0:0<=j): ∀(f:Nat) (E:List Bool) (k:Int),(hp:p.Perm (iota p.length))->E.length=p.length->0<=k->k<p.length->rdb E j=true->rdb (gQ p f E k).2 j=true
 |0,E,k,_,_,_,_,h=>h
 | f+1,E,k,hp,hl,k0,hk,h=>by
  rw[gQ];split
  ·exact h
  ·have hn:=aZ.1 (hp.subset (bJ (L:=p) k0 hk));refine vJ j0 f _ _ hp (by rw[lG];exact hl) hn.1 hn.2 ?_;rw[xS k0 G j0];split
   ·rfl
   ·exact h
theorem XR (hp:p.Perm (iota p.length)) {f:Nat} {E:List Bool} {k:Int} (hl:E.length=p.length) (k0:0<=k) (hk:k<p.length) (hf:cntF E<=f):rdb (gQ p f E k).2 k=true:=by
 by_cases h:rdb E k=true
 ·rw[tZ h];exact h
 ·rw [KM k0 G hf h];have hn:=aZ.1 (hp.subset (bJ (L:=p) k0 hk));exact vJ k0 _ _ _ hp (by rw[lG];exact hl) hn.1 hn.2 (by rw[xS k0 G k0,df rfl])
theorem GD (hp:p.Perm (iota p.length)): ∀i:Nat,i<=p.length-> ∀j:Nat,j<i->rdb (jD p i).1 j=true
 |0,_,j,hj=>G
 | i+1,hi,j,hj=>by
  have hf:=lY hp i G;have hc:cntF (jD p i).1<=p.length:=by have:=hf.2.2;omega
  rw[jD];rcases fo j i with g|g
  ·exact vJ G _ _ _ hp hf.1 G G (GD hp i G j g)
  ·obtain rfl:j=i:=G
   exact XR hp hf.1 G G hc
theorem aQn {E:List Bool} (h: ∀j:Nat,j<E.length->rdb E j=true):cntF E=0:=by
 unfold cntF;rw[Ca];intro b hb;obtain⟨j,hj,rfl⟩:=gz.1 hb;have:=h j hj;have e:rdb E (j:Int)=E[j]:=by unfold rdb;rw[cz,ak,av hj];rfl
 rw[e] at this;rw[this];simp
theorem aCq (hp:p.Perm (iota p.length)):(eZ p).flatten.length=p.length:=by
 have hf:=lY hp p.length (di _);have:=aQn (E:=(jD p p.length).1) λj hj=>GD hp p.length (di _) j (by rw[hf.1] at hj;exact hj);unfold eZ;omega
theorem aRh (l:AH) (cs:AD):(backL l cs).length=cs.flatten.length:=by
 unfold backL;rw[um,zg,um,Ij,List.sum_reverse];congr 2;funext c;exact nQ l c
theorem aOk {l:AH} {cs:AD} {x:Int} (h:x∈backL l cs): ∃y,y∈cs.flatten/\x=rd l y:=by
 unfold backL at h;obtain⟨w,hw,hx⟩:=Bt.1 h;obtain⟨c,hc,rfl⟩:=iy.1 hw;unfold kT at hx;obtain⟨y,hy,rfl⟩:=iy.1 hx;exact⟨y,Bt.2 ⟨c,Bu.1 hc,Bu.1 hy⟩,rfl⟩
theorem aRi {l:AH} (hl:aP l) (cs:AD):aP (backL l cs):=λx hx=>by
 obtain⟨y,_,rfl⟩:=aOk hx;exact hl.rd _
theorem bEg {cs:AD} {k:Int} (k0:0<=k) (hk:k<cs.length):rdl cs k∈cs:=by
 unfold rdl;rw[ak,av G];exact mf _
theorem aIg {l acc rj:AH} {cs:AD} {m kr:Nat} (hm:m=cs.length) (Ni:kr<m) (ba:acc=(((cs.reverse).take kr).map (kT l)).flatten) (h2:rj=acc++(((rdl cs ((m-1-kr:Nat):Int)).reverse).take (rdl cs ((m-1-kr:Nat):Int)).length).map (rd l)):rj=(((cs.reverse).take (kr+1)).map (kT l)).flatten:=by
 rw[aIh G,h2,ba,bg (l:=(rdl cs ((m-1-kr:Nat):Int)).reverse) (by rw[qh];exact di _),show((m-1-kr:Nat):Int)=(cs.length:Int)-1-kr by omega];rfl
theorem aEe {l acc rj c:AH} {kq:Nat} (hk:kq<c.length) (h:rj=acc++((c.reverse).take kq).map (rd l)):rj++[rd l (rd c ((c.length-1-kq:Nat):Int))]=acc++((c.reverse).take (kq+1)).map (rd l):=by
 rw[aEf hk,<-gy,<-h,show((c.length-1-kq:Nat):Int)=(c.length:Int)-1-kq by omega]
theorem aQh {p:AH}:(eZ p).length<=p.length:=NZ p p.length
end
end Go.Pure
namespace Go.Proofs.YtdbebmmhdefgdaaGreat
open Go Go.Eng Go.Pure
open Tryz
set_option maxRecDepth 100000
variable {B ij cx:Nat} {w0:World} {R:List Row} {cy:AF}
theorem aDt:
  CT 185 #[sl cy ij cx] B w0 R (λv R'=> ∃g,v= .func (.func 240) #[] #[PG g]/\R'=(rc 232 1 g [sl cy ij cx])::R):=by
 refine fn1 Tryz.func185 Z Z Z ?_;refine wq<|wa (bO (sz:=1) Z Z) ?_;rintro _ _⟨g,rfl,rfl⟩;refine wn Z<|wq<|wy (lU Z Z)<|wn Z<|bS ?_;exact⟨_,Z,g,Z,Z⟩
theorem aDu:
  CT 186 #[sl cy ij cx] B w0 R (λv R'=> ∃g,v= .func (.func 241) #[] #[PG g]/\R'=(rc 52 1 g [sl cy ij cx])::R):=by
 refine fn1 Tryz.func186 Z Z Z ?_;refine wq<|wa (bO (sz:=1) Z Z) ?_;rintro _ _⟨g,rfl,rfl⟩;refine wn Z<|wq<|wy (lU Z Z)<|wn Z<|bS ?_;exact⟨_,Z,g,Z,Z⟩
theorem OW {w:World} {ap:AF} {ar ao:Nat} {u:AH} (ac:Rd w ap ar ao 1 (ints .u8 u)) (an:aP u) (hN:u.length<=100000):
  CF 110 #[sl ap ar ao] w (λv R'=> ∃A c,v= .tuple #[sl A (backL u (eZ (fsL u))).length c,I 0]/\R'=[(ru 5 A ((backL u (eZ (fsL u))).length) c (backL u (eZ (fsL u))))]):=by
 obtain rfl:=ac.lenI;refine fnV Tryz.func110 Z Z ?_;have li:=ac.max;have Ym:=aWv an;have ux:=yE u;have mj:=aYr Ym;have hcf:=aQh (p:=fsL u);refine gW ?_;refine aL<|wa (bO (sz:=1) Z Z) ?_;rintro _ _⟨am,rfl,rfl⟩;refine wg Z<|wn Z ?_;refine gW ?_;refine wq<|wy (yL 0 af Z Z Z)<|wy (aN af Z)<|wy (Yl.f (dE Z Z))<|aA<|aJ Z<|aI ?_;refine gW ?_;refine aL<|wy (yL 0 af Z Z Z)<|wa (aD bOf Z (Ct.fresh (λw hw=>bDk ((ac.c _) w hw) an G))) ?_;rintro _ _⟨_,rfl,fi,fj,rfl,rfl⟩;refine wa (aD bOg Z (Ct.fresh (λw hw=>aQg ((rdr 0 Z) w hw) Ym G))) ?_;rintro _ _⟨_,rfl,dy,jt,dp,Ob,rfl,sf,rfl⟩;have Ql:=sf.1;refine dB (R1:=(⟨52,1,dy,dp.length,jt,dp,false⟩::(ri 3 fi ((fsL u).length) fj (fsL u))::(rc 22 1 am [sl ap u.length ao])::Ob)) (Sub.refl _) (λ_ h=>Hp.toTail0 (X:=[_]) (Y:=[_,_]) h)<|wm Z<|wX Z Z<|wX Z Z<|wg Z<|wn Z ?_;refine gW ?_;refine aL<|wa (bH .u8 [] af zs5 Z Z Z) ?_;rintro _ _⟨ka,rfl,rfl⟩;refine wa (iC (sz:=1) bKi Z) ?_;rintro _ _⟨kb,rfl,rfl⟩;refine bV (aX 0 Z Z Z dA Z Z Z Z (au Z)) ?_;rintro _ _ rfl;refine aA ?_;refine aIz ?_;refine gW ?_;refine aL<|wm Z<|wa (aD bOe Z (aDt)) ?_;rintro _ _⟨o6,rfl,rfl⟩;refine aA ?_;refine JE ?_;refine aMi Z bNd (aZs (A:=dy) (c:=jt) (xs:=dp) (by have:=sf.1;omega)) Z (λ_=>Z) Gd.refl (λ(kr:Nat) (A1:AF) (n1:Nat) (c1:Nat) (acc:AH)=>((rc 232 1 o6 [sl dy dp.length jt])::(rc 22 1 kb [sl A1 n1 c1])::(ru 5 A1 n1 c1 acc)::⟨52,1,dy,dp.length,jt,dp,false⟩::(ri 3 fi ((fsL u).length) fj (fsL u))::(rc 22 1 am [sl ap u.length ao])::Ob)) (λkr A1 n1 c1 acc=>(n1=acc.length)/\(acc=(((eZ (fsL u)).reverse.take kr).map (kT u)).flatten)) ?_ ?_ ?_ ?_
 ·exact⟨GG ka,0,0,[],⟨(Z),(Z)⟩,λ_ h=>h⟩
 ·intro kr A1 n1 c1 acc w ⟨cv,ba⟩ hw;exact⟨(rdr 0 Z) w hw,(rdr 3 Z) w hw⟩
 ·intro lr kr A1 n1 c1 acc WW1 Ni ⟨cv,ba⟩ Sl;have qk:acc.length<=u.length:=by rw[ba];exact qx aBt G
  obtain⟨db,de,Nt,Ty⟩:=sf.at (i:=((dp.length-1-kr:Nat):Int)) G (by have:=sf.1;omega)
  have Su:dp[dp.length-1-kr]?.getD undef=sl db (rdl (eZ (fsL u)) ((dp.length-1-kr:Nat):Int)).length de:=by
   rw[cz] at Nt;rw[Nt];rfl
  refine bQe (d:=24) (v:=sl db (rdl (eZ (fsL u)) ((dp.length-1-kr:Nat):Int)).length de) (bq some Su) ?_;have tk:rdl (eZ (fsL u)) ((dp.length-1-kr:Nat):Int)∈eZ (fsL u):=bEg G (by have:=sf.1;omega);have hcl2:(rdl (eZ (fsL u)) ((dp.length-1-kr:Nat):Int)).length<=u.length:=by have:=List.Sublist.length_le (List.sublist_flatten_of_mem tk);omega
  refine aL<|wn Z ?_;intro Rh l3 Tf;refine aH<|wq<|wm Z<|wa (aD bGm Z (aDu)) ?_;rintro _ _⟨Lj,rfl,rfl⟩;refine aA<|aH ?_;refine aRx Z bGf (OZ (A:=db) (c:=de) (zs:=rdl (eZ (fsL u)) ((dp.length-1-kr:Nat):Int)) G) Z (λ_=>Z) ⟨_,Tf.choose_spec⟩ (λ(kq:Nat) (A2:AF) (n2:Nat) (c2:Nat) (rj:AH)=>((rc 52 1 Lj [sl db ((rdl (eZ (fsL u)) ((dp.length-1-kr:Nat):Int)).length) de])::(rc 232 1 o6 [sl dy dp.length jt])::(rc 22 1 kb [sl A2 n2 c2])::(ru 5 A2 n2 c2 rj)::⟨52,1,dy,dp.length,jt,dp,false⟩::(ri 3 fi ((fsL u).length) fj (fsL u))::(rc 22 1 am [sl ap u.length ao])::Ob)) (λkq A2 n2 c2 rj=>(n2=rj.length)/\(rj=acc++((rdl (eZ (fsL u)) ((dp.length-1-kr:Nat):Int)).reverse.take kq).map (rd u))) ?_ ?_ ?_ ?_
  ·exact⟨A1,n1,c1,acc,⟨(cv),(by rw[yc];simp)⟩,λ_ h=>h⟩
  ·intro kq A2 n2 c2 rj w ⟨tg,d9⟩ hw;exact⟨(rdr 0 Z) w hw,(λ_ h=>Ty _ _ _ (h.right (R':=[_,_,_,_,_,_,_]))) w hw⟩
  ·intro lr kq A2 n2 c2 rj WW2 hkq ⟨tg,d9⟩ Xy;have ud:=aLg Ym _ tk _ (bJ (L:=rdl (eZ (fsL u)) ((dp.length-1-kr:Nat):Int)) (k:=(((rdl (eZ (fsL u)) ((dp.length-1-kr:Nat):Int)).length-1-kq:Nat):Int)) G G);have Oo:rj.length<=acc.length+(rdl (eZ (fsL u)) ((dp.length-1-kr:Nat):Int)).length:=by rw[d9,ah,cu,ax,qh];omega
   refine aL<|wn Z ?_;intro Wp l4 hlW23;refine aH<|bI mixed<|wD 0 Z (yL 2 af Z Z Z)<|wD 1 Z (yL 6 af Z Z Z)<|wD 2 Z (aK Z)<|wD 3 Z (aG af sz5 Z Z (ac.cb (l3.trans l4) _))<|wD 4 Z (aR ay Z Z (ac.cb (l3.trans l4) _))<|wC 5 Z (bH .u8 [rd u (rd (rdl (eZ (fsL u)) ((dp.length-1-kr:Nat):Int)) (((rdl (eZ (fsL u)) ((dp.length-1-kr:Nat):Int)).length-1-kq:Nat):Int))] af zs5 Z Z Z) ?_;rintro _ _⟨yv,rfl,rfl⟩;refine⟨.inr hrZ,?_⟩;refine wC 6 Z (aS 4 Z af zb5 Z Z Z (rdr 0 Z)) ?_;rintro _ _⟨pm,pn,rfl,rfl⟩;refine⟨.inl cA,?_⟩;refine iF (v:=sl pm (n2+1) pn) Z<|oU 7 Z cA (aX 3 Z Z Z dA Z Z Z Z (au Z)) ?_;rintro _ _ rfl;refine⟨.inl cA,?_⟩;refine wN ?_;exact⟨pm,n2+1,pn,rj++([rd u (rd (rdl (eZ (fsL u)) ((dp.length-1-kr:Nat):Int)) (((rdl (eZ (fsL u)) ((dp.length-1-kr:Nat):Int)).length-1-kq:Nat):Int))]),⟨(by rw[ah,tg];rfl),(aEe hkq d9)⟩,λ_=>λ_ h=>h.selR (F:=[_,_,_,_,_,_,_,_]) (F':=[_,_,_,_,_,_,_]) [1,2,3,4,5,6,7] cC Z⟩
  intro A2 n2 c2 rj ⟨tg,d9⟩;exact⟨A2,n2,c2,rj,⟨(tg),(aIg sf.1 Ni ba d9)⟩,λ_=>λ_ h=>h.selR (F:=[_,_,_,_,_,_,_]) (F':=[_,_,_,_,_,_]) [1,2,3,4,5,6] cC Z⟩
 intro Ri DW1 A1 n1 c1 acc ⟨cv,ba⟩ Mz d7;have hvl:=sf.1;refine aJb ?_;refine bAp ?_;refine v_w ?_;refine wq<|wy (yL 1 af Z Z Z)<|wg Z<|wn Z<|bN (R1:=[(ru 5 A1 n1 c1 acc)]) (λ_ h=>(h.selR (F:=[_,_,_,_,_,_]) (F':=[_]) [2] cC Z).left (X:=[_])) ?_;refine aWz Z d7 ⟨_,_,Z,Z,?_⟩;rw[bg (by rw[qh];omega)] at ba;obtain rfl:acc=backL u (eZ (fsL u)):=ba;obtain rfl:=cv;exact⟨_,_,Z,Z⟩
variable {w:World} {ap:AF} {ar ao:Nat} {u S:AH} {m k r:Int}
theorem aZm {ke:AF} {ot kf:Nat} {a:AH} (ac:Rd w ap ar ao 1 (ints .u8 u)) (da:Rd w ke ot kf 1 (ints .i64 a)) (hp:a.Perm (iota u.length)) (hN:u.length<=1000000):
  CF 124 #[sl ap ar ao,sl ke ot kf] w (λv R'=> ∃A c,v= .tuple #[sl A (ofL u a).length c,I (zat a),bt]/\R'=[(ru 5 A ((ofL u a).length) c (ofL u a))]):=by
 obtain rfl:=ac.lenI;obtain rfl:=da.lenI;refine fn3 Tryz.func124 Z Z Z ?_;have li:=ac.max;have i6:=da.max;have On:a.length=u.length:=by rw[hp.length_eq,bB]
 have hnd:a.Nodup:=hp.symm.nodup (eH _);have ye:a.Perm (iota a.length):=by rw[On];exact hp
 refine wq<|wg Z<|wg Z<|wn Z<|aC<|wq<|wm Z<|wy (aN aa Z)<|wm Z<|wy (aN af Z)<|wy (Yl.f (fE Z Z))<|wm Z ?_;refine aB Z Z<|wm Z<|aB Z Z<|wa (aD aXu Z (Ct.quiet (λw hw=>aTm ((da.c _) w hw) ye G))) ?_;rintro _ _⟨rfl,rfl⟩;refine aB Z Z<|wy (dI Z)<|wy (aO Z Z)<|aA<|aJ Z<|aI<|wq<|wa (bH .u8 [] af zs5 Z Z Z) ?_;rintro _ _⟨bx,rfl,rfl⟩;refine wn Z<|aC<|wq<|wm Z<|wy (aN af Z)<|wy (dE Z Z)<|aA<|bA Z (λaq=> ?_) (λaq=> ?_)
 ·refine aL<|wm Z<|wm Z<|wm Z<|wy (aN af Z)<|wS Z Z<|wy (aG af sz5 Z Z (ac.c _))<|wy (aR ay Z Z (ac.c _))<|wa (bH .u8 [rd u ((u.length:Int)-1)] af zs5 Z Z Z) ?_;rintro _ _⟨kx,rfl,rfl⟩;refine wa (aS 1 Z af zb5 Z Z Z (rdr 0 Z)) ?_;rintro _ _⟨dy,jt,rfl,rfl⟩;refine bF (v:=sl dy (0+1) jt) Z<|wn Z<|aC<|wq<|wm Z<|wy (aN aa Z)<|wm Z<|aA<|aH ?_;refine mU (λ(i:Int) (A1:AF) (n1:Nat) (c1:Nat) (acc:AH) (m:Int)=>[(0,sl ap u.length ao),(4,sl A1 n1 c1),(5,I m),(32,sl ke a.length kf),(33,I (a.length:Int)),(34,I i)]) (λi A1 n1 c1 acc m=>[(ru 5 (GG kx) 1 1 ([rd u ((u.length:Int)-1)])),(ru 5 A1 n1 c1 acc)]) (λi A1 n1 c1 acc m=>(0<=i)/\(i<=a.length)/\(n1=acc.length)/\(acc=(if 0<u.length then [rd u (u.length-1)] else [])++ofT u (a.take i.toNat))/\(m=zat (a.take i.toNat))) (λi A1 n1 c1 acc m=>(a.length-i).toNat) ?_ ?_
  ·exact⟨0,dy,0+1,jt,([])++([rd u ((u.length:Int)-1)]),0,⟨G,G,(by first|rfl|simp),(by first|(rw[df G];rfl)|(rw[bz G];rfl)),(Z)⟩,KP⟩
  intro i A1 n1 c1 acc m ⟨aw,ia,cv,ba,hm⟩
  have qk:acc.length<=i.toNat+1:=by
   have h1:=VW u (a.take i.toNat);rw[ax] at h1;rw[ba,ah];split<;>simp only[dh,jl]<;>omega
  have v8:i<a.length->0<=rd a i/\rd a i<u.length:=λh=>aZ.1 (hp.subset (bJ aw h));refine wq<|wL Z Z<|aA<|aC<|bA Z (λbp=> ?_) (λbp=> ?_)
  ·have Sj:=v8 G;refine aI<|aC<|aH<|wq<|wm Z<|wy (aG aa sz3 Z Z (da.c _))<|wy (aR ai Z Z (da.c _))<|wg Z<|wn Z<|aC<|wq<|wm Z ?_;refine wy (dR Z Z)<|aA<|bA Z (λew=> ?_) (λew=> ?_)
   ·refine wq<|wm Z<|wA Z Z<|wn Z<|aU<|aL<|wA Z Z<|wm Z<|aA ?_;exact⟨i+1,A1,n1,c1,acc,i+1,⟨G,G,(cv),(VV aw G ba cF),(UF hnd aw G cF)⟩,G,KP⟩
   ·refine aI<|aL<|wm Z<|wm Z<|wm Z<|wS Z Z<|wy (aG af sz5 Z Z (ac.c _))<|wy (aR ay Z Z (ac.c _))<|wa (bH .u8 [rd u ((rd a i)-1)] af zs5 Z Z Z) ?_;rintro _ _⟨pi,rfl,rfl⟩;refine wa (aS 2 Z af zb5 Z Z Z (rdr 0 Z)) ?_;rintro _ _⟨br,bw,rfl,rfl⟩;refine bF (v:=sl br (n1+1) bw) Z<|wn Z<|aL<|wA Z Z<|wm Z<|aA ?_;exact⟨i+1,br,n1+1,bw,acc++([rd u ((rd a i)-1)]),m,⟨G,G,(by rw[ah,cv];rfl),(aFw aw G ba cF),(aEb hnd aw G hm cF)⟩,G,SA,λ_ h=>h.sel [1,2] cC Z⟩
  ·refine aU<|wq<|wm Z<|wm Z<|wg Z<|wg Z<|wn Z<|aQ [1] 99 cC Z ?_;refine⟨_,_,_,Z,Z,Z,?_⟩;have Ui:a.take i.toNat=a:=bg G;rw[Ui] at ba hm;obtain rfl:acc=ofL u a:=ba;obtain rfl:=cv;subst hm;exact⟨_,_,Z,Z⟩
 ·refine aI<|aC<|wq<|wm Z<|wy (aN aa Z)<|wm Z<|aA<|aH ?_;refine mU (λ(i:Int) (A1:AF) (n1:Nat) (c1:Nat) (acc:AH) (m:Int)=>[(0,sl ap u.length ao),(4,sl A1 n1 c1),(5,I m),(32,sl ke a.length kf),(33,I (a.length:Int)),(34,I i)]) (λi A1 n1 c1 acc m=>[(ru 5 A1 n1 c1 acc)]) (λi A1 n1 c1 acc m=>(0<=i)/\(i<=a.length)/\(n1=acc.length)/\(acc=(if 0<u.length then [rd u (u.length-1)] else [])++ofT u (a.take i.toNat))/\(m=zat (a.take i.toNat))) (λi A1 n1 c1 acc m=>(a.length-i).toNat) ?_ ?_
  ·exact⟨0,GG bx,0,0,[],0,⟨G,G,(by first|rfl|simp),(by first|(rw[df G];rfl)|(rw[bz G];rfl)),(Z)⟩,KP⟩
  intro i A1 n1 c1 acc m ⟨aw,ia,cv,ba,hm⟩
  have qk:acc.length<=i.toNat+1:=by
   have h1:=VW u (a.take i.toNat);rw[ax] at h1;rw[ba,ah];split<;>simp only[dh,jl]<;>omega
  have v8:i<a.length->0<=rd a i/\rd a i<u.length:=λh=>aZ.1 (hp.subset (bJ aw h));refine wq<|wL Z Z<|aA<|aC<|bA Z (λkd=> ?_) (λkd=> ?_)
  ·have Sj:=v8 G;refine aI<|aC<|aH<|wq<|wm Z<|wy (aG aa sz3 Z Z (da.c _))<|wy (aR ai Z Z (da.c _))<|wg Z<|wn Z<|aC<|wq<|wm Z ?_;refine wy (dR Z Z)<|aA<|bA Z (λme=> ?_) (λme=> ?_)
   ·refine wq<|wm Z<|wA Z Z<|wn Z<|aU<|aL<|wA Z Z<|wm Z<|aA ?_;exact⟨i+1,A1,n1,c1,acc,i+1,⟨G,G,(cv),(VV aw G ba cF),(UF hnd aw G cF)⟩,G,KP⟩
   ·refine aI<|aL<|wm Z<|wm Z<|wm Z<|wS Z Z<|wy (aG af sz5 Z Z (ac.c _))<|wy (aR ay Z Z (ac.c _))<|wa (bH .u8 [rd u ((rd a i)-1)] af zs5 Z Z Z) ?_;rintro _ _⟨ka,rfl,rfl⟩;refine wa (aS 1 Z af zb5 Z Z Z (rdr 0 Z)) ?_;rintro _ _⟨en,es,rfl,rfl⟩;refine bF (v:=sl en (n1+1) es) Z<|wn Z<|aL<|wA Z Z<|wm Z<|aA ?_;exact⟨i+1,en,n1+1,es,acc++([rd u ((rd a i)-1)]),m,⟨G,G,(by rw[ah,cv];rfl),(aFw aw G ba cF),(aEb hnd aw G hm cF)⟩,G,SA,λ_ h=>h.sel [1] cC Z⟩
  ·refine aU<|wq<|wm Z<|wm Z<|wg Z<|wg Z<|wn Z<|aQ [0] 99 cC Z ?_;refine⟨_,_,_,Z,Z,Z,?_⟩;have Ui:a.take i.toNat=a:=bg G;rw[Ui] at ba hm;obtain rfl:acc=ofL u a:=ba;obtain rfl:=cv;subst hm;exact⟨_,_,Z,Z⟩
theorem aZj (ac:Rd w ap ar ao 1 (ints .u8 u)) (an:aP u) (hN:u.length<=100000):
  CF 103 #[sl ap ar ao] w (λv R'=> ∃(b:AH) (A:AF) (c:Nat),v= .tuple #[sl A (ofL u b).length c,I (zat b),I 0]/\b.Perm (iota u.length)/\b.Pairwise (bU u)/\R'=[(ru 5 A ((ofL u b).length) c (ofL u b))]):=by
 obtain rfl:=ac.lenI;refine fn3 Tryz.func103 Z Z Z ?_;have li:=ac.max;refine wq<|wg Z<|wg Z<|wn Z<|wq<|wm Z<|wa (aD bGn Z (Ct.fresh (λw hw=>RN ((ac.c _) w hw) an hN))) ?_;rintro _ _⟨_,rfl,a1,bm,bl,rfl,l9,Hv,rfl⟩;refine wm Z<|wX Z Z<|wX Z Z<|wg Z<|wn Z<|aC<|wq<|wm Z<|wy (Yl.f (fE Z Z))<|aA<|aJ Z<|aI<|aC ?_;refine aL<|wm Z<|wm Z<|wa (aD bGq Z (Ct.fresh (λw hw=>aZm ((ac.c _) w hw) ((rdr 0 Z) w hw) l9 G))) ?_;rintro _ _⟨_,rfl,iu,js,rfl,rfl⟩;refine wm Z<|wX Z Z<|wX Z Z<|wX Z Z<|wg Z<|wn Z<|wq<|wm Z<|wm Z<|wg Z<|wg Z<|wn Z ?_;refine aQ [0] 99 cC Z ?_;refine⟨_,_,_,Z,Z,Z,?_⟩;exact⟨a1,_,_,Z,l9,Hv,Z⟩
theorem aPn (ac:Rd w ap ar ao 1 (ints .u8 u)) (an:aP u) (hN:u.length<=1000000):
  CF 182 #[sl ap ar ao] w (λv R'=> ∃A c,v=sl A (fsL u).length c/\R'=[(ri 3 A ((fsL u).length) c (fsL u))]):=by
 obtain rfl:=ac.lenI;refine fn1 Tryz.func182 Z Z Z ?_;have li:=ac.max;refine wq<|wn Z<|wq<|wm Z<|wy (aN af Z)<|wa (dD aa zb3 Z Z) ?_;rintro _ _⟨am,rfl,rfl⟩;refine bF (v:=sl (GG am) u.length u.length) Z<|wn Z<|wq<|wm Z<|wy (aN af Z)<|wa (dD aa zb3 Z Z) ?_;rintro _ _⟨bx,rfl,rfl⟩;refine bF (v:=sl (GG bx) u.length u.length) Z<|wn Z<|aC<|wq<|wm Z<|wy (aN af Z)<|wm Z<|aA<|aH ?_;refine fA (λ(i:Int) (V:AH) (K:AH)=>[(3,sl (GG am) u.length u.length),(4,sl (GG bx) u.length u.length),(15,sl ap u.length ao),(16,I (u.length:Int)),(17,I i)]) (λi V K=>[(ri 3 (GG bx) u.length u.length K),(ri 3 (GG am) u.length u.length V)]) (λi V K=>(0<=i)/\(i<=u.length)/\(V.length=u.length)/\(K.length=u.length)/\(∀j:Int,0<=j->j<i->rd V j=j)/\(∀j:Int,0<=j->j<i->rd K j=rd u j)) (λi V K=>(u.length-i).toNat) ?_ ?_
 ·exact⟨0,List.replicate u.length (0:Int),List.replicate u.length (0:Int),⟨G,G,(by rw[bu]),(by rw[bu]),(λj h1 h2=>G),(λj h1 h2=>G)⟩,KP⟩
 intro i V K ⟨aw,ia,ld,Pz,hV,hK⟩;refine wq<|wL Z Z<|aA<|aC<|bA Z (λaq=> ?_) (λaq=> ?_)
 ·have tj:=an.rd i;refine aI<|aC<|aH<|wq<|wm Z<|wy (aG af sz5 Z Z (ac.c _))<|wy (aR ay Z Z (ac.c _))<|wg Z<|wn Z<|aL<|wm Z<|wm Z<|wm Z ?_;refine wm Z<|wm Z<|wm Z<|wy (iK ay ai Z)<|wy (aG aa sz3 Z Z (rdr 1 Z))<|bV (bD 1 Z sz3 Z Z) ?_;rintro _ _ rfl;refine wy (aG aa sz3 Z Z (rdr 0 Z))<|bV (bD 0 Z sz3 Z Z) ?_;rintro _ _ rfl;refine aA<|aL<|wA Z Z<|wm Z<|aA ?_;exact⟨i+1,upd V i i,upd K i (rd u i),⟨G,G,(by rw[aY];exact ld),(by rw[aY];exact Pz),(eP (f:=λj=>j) aw G hV Z),(eP (f:=λj=>rd u j) aw G hK Z)⟩,G,KP⟩
 ·obtain rfl:V=iota u.length:=bM (by rw[bB];omega) λj h0 h1=>by rw[xU h0 G];exact hV j h0 G
  obtain rfl:u=K:=(bM G λj h0 h1=>hK j h0 G:K=u).symm;refine aU<|wq<|wm Z<|wm Z<|wa (aD NR Z (Ct.fresh (λw hw=>uJ ((rdr 1 Z) w hw) ((rdr 0 Z) w hw) G an (λi hi=>aZ.1 hi) (by rw[bB];omega)))) ?_;rintro _ _⟨_,rfl,fi,fj,rfl,rfl⟩;refine wm Z<|wX Z Z<|wX Z Z<|wn Z<|wq<|wm Z<|wa (aD NS Z (Ct.fresh (λw hw=>VG ((rdr 0 Z) w hw) (aKa an) (by rw[FK an];omega)))) ?_;rintro _ _⟨_,rfl,ef,kc,inv,rfl,zp,zv,rfl⟩;refine wm Z<|wX Z Z<|wX Z Z<|wg Z<|wn Z<|wq<|wm Z<|wn Z<|aQ [0] 99 cC Z ?_;refine⟨_,Z,?_⟩;obtain rfl:inv=fsL u:=bFs an zp zv;have el:(dC (iota u.length) u (256:Int).toNat).length=(fsL u).length:=by rw[FK an,yE]
  rw[el];exact⟨_,_,Z,Z⟩
theorem aLr (k0:0<=k) (hk:k<u.length) (hl:S.length=u.length) (h: ∀j:Int,k<j->j<u.length->rd S j=rd (mJ u m) j) {x:Int} (hx:x=rd u (ixr m (jS u m (u.length-1-k).toNat))): ∀j:Int,k-1<j->j<u.length->rd (upd S k x) j=rd (mJ u m) j:=by
 intro j h1 h2;rw[gG k0 G G];split
 ·rename_i e;rw[e,ZW k0 hk,hx]
 ·exact h j G h2
theorem aLs {i:Int} (k0:0<=k) (hk:k<u.length) (hr:r=jS u m (u.length-1-k).toNat) (hi:i=ixr m r):lfC u i+1=jS u m (u.length-1-(k-1)).toNat:=by
 rw[show((u.length:Int)-1-(k-1)).toNat=(u.length-1-k).toNat+1 by omega,jS,hi,hr]
theorem bEt (hl:S.length=u.length) (h: ∀j:Int,-1<j->j<u.length->rd S j=rd (mJ u m) j):S=mJ u m:=bM (by rw[hl,tH]) λj h0 h1=>h j G G
theorem aKd (k0:0<=k) (hk:k<u.length) (h: ∀t:Nat,(t:Int)<u.length-1-k->jS u m t≠m) (hr:r=jS u m (u.length-1-k).toNat) (fd:r≠m): ∀t:Nat,(t:Int)<u.length-1-(k-1)->jS u m t≠m:=by
 intro t ht;rcases bn t (u.length-1-k) with g|g
 ·exact h t g
 ·rw[show t=(u.length-1-k).toNat by omega,<-hr];exact fd
theorem aDr (ac:Rd w ap ar ao 1 (ints .u8 u)) (an:aP u) (dq:aRm u m) (hN:u.length<=100000):
  CF 109 #[sl ap ar ao,I m] w (λv R'=> ∃A c,v= .tuple #[sl A u.length c,I 0]/\R'=[(ru 5 A u.length c (mJ u m))]):=by
 obtain rfl:=ac.lenI;refine fn2 Tryz.func109 Z Z Z ?_;have li:=ac.max;have ux:=yE u;have Hj:=dq.1;have sd:=dq.1.1;have ph:=dq.1.2;have Zi:=dq.2.1;refine wq<|wg Z<|wn Z<|wq<|wm Z<|wy (aN af Z)<|wn Z<|aC<|wq<|wm Z ?_;refine wy (Yl.f (dE Z Z))<|wm Z<|aB Z Z<|wm Z<|aB Z Z<|wm Z<|aB Z Z<|wy (sJ Z Z)<|aB Z Z<|wy (Yl.f (eD Z Z))<|wy (aO Z Z)<|wm Z<|aB Z Z<|wm Z<|aB Z Z ?_;refine wm Z<|aB Z Z<|wy (Yl.f (dE Z Z))<|wy (aO Z Z)<|aA<|aJ Z<|aI<|wq<|wm Z<|wa (aD bOh Z (Ct.fresh (λw hw=>aPn ((ac.c _) w hw) an G))) ?_;rintro _ _⟨_,rfl,bm,bl,rfl,rfl⟩;refine wn Z<|wq<|wm Z<|wa (dD af zb5 Z Z) ?_;rintro _ _⟨du,rfl,rfl⟩;refine bF (v:=sl (GG du) u.length u.length) Z<|wn Z<|wq<|wn Z<|aC<|wq<|wm Z<|wS Z Z<|wn Z<|aH ?_;refine fA (λ(k:Int) (r:Int) (S:AH)=>[(0,sl ap u.length ao),(1,I m),(7,sl bm ((fsL u).length) bl),(8,sl (GG du) u.length u.length),(9,I r),(10,I k)]) (λk r S=>[(ru 5 (GG du) u.length u.length S),(ri 3 bm ((fsL u).length) bl (fsL u))]) (λk r S=>(-1<=k)/\(k<u.length)/\(S.length=u.length)/\(r=jS u m (u.length-1-k).toNat)/\(∀t:Nat,(t:Int)<u.length-1-k->jS u m t≠m)/\(∀j:Int,k<j->j<u.length->rd S j=rd (mJ u m) j)) (λk r S=>(k+1).toNat) ?_ ?_
 ·exact⟨(u.length:Int)-1,0,List.replicate u.length (0:Int),⟨G,G,(by rw[bu]),(by rw[show((u.length:Int)-1-((u.length:Int)-1)).toNat=0 by omega];rfl),(λt h=>G),(λj h1 h2=>G)⟩,KP⟩
 intro k r S ⟨md,vd,Lm,hr,Zh,hS⟩;refine aC<|wq<|wm Z<|wy (iA Z Z)<|aA<|bA Z (λaq=> ?_) (λaq=> ?_)
 ·have pe:0<=k:=G
  have Ek:=aDo (l:=u) an Hj (u.length-1-k).toNat (λt ht=>Zh t G) G;rw[<-hr] at Ek;have px:0<=m:=by have:=Hj.1;omega
  have oc:=Hj.2;have fd:r≠m:=by rw[hr];exact Zi _ G
  refine aI<|aC<|aH<|wq<|wm Z<|wn Z<|aC<|aH<|wq<|wm Z<|wm Z<|wy (Yl.f (dR Z Z) (fd)) ?_;refine wn Z<|aJ Z<|wq<|wm Z<|wm Z<|wy (dE Z Z)<|wn Z<|bA Z (λbp=> ?_) (λbp=> ?_)
  ·have i9:r-1=ixr m r:=by unfold ixr;split<;>omega
   have hxx:rd u (r-1)=rd u (ixr m (jS u m (u.length-1-k).toNat)):=by rw[i9,<-hr]
   have w5:=WF (n:=u.length) Ek.1 Ek.2 fd px oc G;rw[<-i9] at w5;have Ne:=aFl (l:=u) w5.1 w5.2;have Tk:=aBd (l:=u) an w5.1 w5.2;have pj:rd (fsL u) (r-1)+1=jS u m (u.length-1-(k-1)).toNat:=by rw[Ne];exact aLs pe vd hr i9
   refine aL<|wm Z<|wS Z Z<|wn Z<|wq<|wm Z<|wm Z<|wm Z<|wm Z<|wy (aG af sz5 Z Z (ac.c _))<|wy (aR ay Z Z (ac.c _))<|wy (aG af sz5 Z Z (rdr 0 Z))<|bV (bD 0 Z sz5 Z Z) ?_;rintro _ _ rfl;refine aA<|aL<|wm Z<|wm Z<|wy (aG aa sz3 Z Z (rdr 1 Z))<|wy (aR ai Z Z (rdr 1 Z))<|wA Z Z<|wn Z<|aL<|wm Z<|wS Z Z<|wn Z ?_;exact⟨k-1,(rd (fsL u) (r-1))+1,upd S k (rd u (r-1)),⟨G,G,(by rw[aY];exact Lm),(pj),(aKd pe vd Zh hr fd),(aLr pe vd Lm hS hxx)⟩,G,KP⟩
  ·have i9:r=ixr m r:=by unfold ixr;split<;>omega
   have hxx:rd u (r)=rd u (ixr m (jS u m (u.length-1-k).toNat)):=by rw[i9,<-hr]
   have w5:=WF (n:=u.length) Ek.1 Ek.2 fd px oc G;rw[<-i9] at w5;have Ne:=aFl (l:=u) w5.1 w5.2;have Tk:=aBd (l:=u) an w5.1 w5.2;have pj:rd (fsL u) (r)+1=jS u m (u.length-1-(k-1)).toNat:=by rw[Ne];exact aLs pe vd hr i9
   refine aI<|wq<|wm Z<|wm Z<|wm Z<|wm Z<|wy (aG af sz5 Z Z (ac.c _))<|wy (aR ay Z Z (ac.c _))<|wy (aG af sz5 Z Z (rdr 0 Z))<|bV (bD 0 Z sz5 Z Z) ?_;rintro _ _ rfl;refine aA<|aL<|wm Z<|wm Z<|wy (aG aa sz3 Z Z (rdr 1 Z))<|wy (aR ai Z Z (rdr 1 Z))<|wA Z Z<|wn Z<|aL<|wm Z<|wS Z Z<|wn Z ?_;exact⟨k-1,(rd (fsL u) r)+1,upd S k (rd u r),⟨G,G,(by rw[aY];exact Lm),(pj),(aKd pe vd Zh hr fd),(aLr pe vd Lm hS hxx)⟩,G,KP⟩
 ·refine aU<|aC<|wq<|wm Z<|wm Z<|wy (Yl.f (fE Z Z) (by
     have e:((u.length:Int)-1-k).toNat=u.length:=G
     rw[hr,e,dq.2.2]
     exact λh=>h Z)) ?_
  refine aA<|aJ Z<|aI<|wq<|wm Z<|wg Z<|wn Z<|aQ [0] 99 cC Z ?_;refine⟨_,_,Z,Z,?_⟩;obtain rfl:S=mJ u m:=bEt Lm λj h1 h2=>hS j G h2;exact⟨_,_,Z,Z⟩
end Go.Proofs.YtdbebmmhdefgdaaGreat
