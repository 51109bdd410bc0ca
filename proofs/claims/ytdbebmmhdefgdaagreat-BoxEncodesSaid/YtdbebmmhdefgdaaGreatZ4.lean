/- Own work. -/
import Derived.Shelf.Bits.Mul64
import Derived.Test.YtdbebmmhdefgdaaGreatProg
import Derived.Ground.SlsfProg
import Derived.Shelf.SlSortCmp.WholeK
import Derived.Test.YtdbebmmhdefgdaaGreatZ3
set_option linter.unusedVariables false
set_option linter.unusedSimpArgs false
set_option maxHeartbeats 8000000
namespace Go.Proofs.YtdbebmmhdefgdaaGreat
open Go Go.Eng Go.Pure
open Tryz
set_option maxRecDepth 100000
variable {w:World} {ap:AF} {bl an:Nat} {u:AH}
theorem aCr {nw:AF} {qu oe:Nat} {t:AH} (ac:Rd w ap bl an 1 (ints .i64 u)) (qs:Rd w nw qu oe 1 (ints .i64 t)):
  CF 262 #[sl ap bl an,sl nw qu oe] w (λv R'=>v=I (cmpL u t)):=by
 obtain rfl:=ac.lenI;obtain rfl:=qs.lenI;refine fn1 Tryz.func262 Z Z Z ?_;have kc:=ac.max;have Us:=qs.max;refine wq<|wn Z<|aD<|wq<|wn Z<|aH ?_;refine gZ (λ(i:Int)=>[(0,sl ap u.length an),(1,sl nw t.length oe),(5,I i)]) (λi=>[]) (λi=>(0<=i)/\(i<=u.length)/\(i<=t.length)/\(cmpL u t=cmpL (u.drop i.toNat) (t.drop i.toNat))) (λi=>(u.length-i).toNat) ?_ ?_
 ·exact⟨0,⟨G,G,G,cD⟩,KP⟩
 intro i ⟨bb,Ok,hit,hc⟩;refine aD<|wq<|wm Z<|wm Z<|wy (aL aa Z)<|wL Z Z<|wm Z<|bV 5 [(0,sl ap u.length an),(1,sl nw t.length oe),(5,I i),(15, .bool (decide ((i<(u.length:Int))/\(i<(t.length:Int)))))] [] ?_ ?_
 ·refine bN 10 Z (λba=> ?_) (λba=> ?_)
  ·refine aB Z Z<|wm Z<|aB Z Z<|wm Z<|aB Z Z<|wy (aL aa Z)<|aB Z Z<|wL Z Z<|wy (aS Z Z)<|aA ?_;exact KP
  ·refine aM Z Z Z Z<|aM Z Z Z Z<|aM Z Z Z Z<|aM Z Z Z Z<|wy (aO Z Z)<|aA ?_;exact KP
 refine aA<|bA Z (λcj=> ?_) (λcj=> ?_)
 ·refine aI<|aD<|aH<|aD<|aD<|bF mixed<|wD 0 Z (aJ Z)<|wD 1 Z (aJ Z)<|wD 2 Z (aF aa sz3 Z Z (ac.c _))<|wD 3 Z (aU au Z Z (ac.c _))<|wD 4 Z (aJ Z)<|wD 5 Z (aJ Z)<|wD 6 Z (aF aa sz3 Z Z (qs.c _))<|wD 7 Z (aU au Z Z (qs.c _))<|wD 8 Z (eZ Z Z) ?_;refine wN<|bA Z (λfh=> ?_) (λfh=> ?_)
  ·refine wq<|wn Z<|bQ ?_;refine⟨_,Z,?_⟩;exact bu (Value.int .i64) (by rw[hc,qM bb G G,di G])
  ·refine aI<|aD<|bF mixed<|wD 0 Z (aJ Z)<|wD 1 Z (aJ Z)<|wD 2 Z (aF aa sz3 Z Z (ac.c _))<|wD 3 Z (aU au Z Z (ac.c _))<|wD 4 Z (aJ Z)<|wD 5 Z (aJ Z)<|wD 6 Z (aF aa sz3 Z Z (qs.c _))<|wD 7 Z (aU au Z Z (qs.c _))<|wD 8 Z (dA Z Z)<|wN<|bA Z (λjj=> ?_) (λjj=> ?_)
   ·refine wq<|wn Z<|bQ ?_;refine⟨_,Z,?_⟩;exact bu (Value.int .i64) (by rw[hc,qM bb G G,df G,di G])
   ·refine aI<|aK<|wm Z<|wA Z Z<|wn Z ?_;exact⟨i+1,⟨G,G,G,(by rw[hc,qM bb G G,df G,df G])⟩,G,KP⟩
 ·refine aR<|aD<|aH<|wq<|wm Z<|wy (aL aa Z)<|wm Z<|wy (aL aa Z)<|wL Z Z<|wn Z<|bA Z (λkb=> ?_) (λkb=> ?_)
  ·refine wq<|wn Z<|bQ ?_;refine⟨_,Z,?_⟩;exact bu (Value.int .i64) (by rw[hc,uB bb Ok hit G,di G])
  ·refine wq<|wm Z<|wy (aL aa Z)<|wm Z<|wy (aL aa Z)<|wy (dA Z Z)<|wn Z<|bA Z (λwv=> ?_) (λwv=> ?_)
   ·refine wq<|wn Z<|bQ ?_;refine⟨_,Z,?_⟩;exact bu (Value.int .i64) (by rw[hc,uB bb Ok hit G,df G,di G])
   ·refine aI<|wq<|wn Z<|bQ ?_;refine⟨_,Z,?_⟩;exact bu (Value.int .i64) (by rw[hc,uB bb Ok hit G,df G,df G])
theorem aEk {dg:AF} {iz dd:Nat} {s:AH} (co:Rd w dg iz dd 1 (ints .i64 s)) (hN:s.length<=1000000):
  CF 216 #[sl dg iz dd] w (λv R'=> ∃(b:AH) (A:AF) (c:Nat),v=sl A s.length c/\b.Perm (iota s.length)/\b.Pairwise (bY s)/\R'=[(ri 3 A s.length c b)]):=by
 obtain rfl:=co.lenI;refine fn1 Tryz.func216 Z Z Z ?_;have b6:=co.max;refine wq<|wn Z<|wq<|bT (R1:=[(ri 3 none 0 0 ([]))]) (Sub.refl _) (λ_ h=>h.nil 3 1)<|wn Z<|aD<|wq<|wn Z<|aH ?_;refine eH (λ(i:Int) (A1:AF) (n1:Nat) (c1:Nat) (U:AH)=>[(0,sl dg s.length dd),(3,sl A1 n1 c1),(4,I i)]) (λi A1 n1 c1 U=>[(ri 3 A1 n1 c1 U)]) (λi A1 n1 c1 U=>(0<=i)/\(i<=s.length)/\(n1=U.length)/\(U.Perm (iota i.toNat))/\(U.Pairwise (bY s))) (λi A1 n1 c1 U=>(s.length-i).toNat) ?_ ?_
 ·exact⟨0,none,0,0,[],⟨G,G,(Z),(.refl _),(.nil)⟩,KP⟩
 intro i A1 n1 c1 U ⟨bb,gd,cm,hp,hs⟩;have Ax:U.length=i.toNat:=by rw[hp.length_eq,bD]
 refine aD<|wq<|wm Z<|wm Z<|wy (aL aa Z)<|wL Z Z<|aA<|bA Z (λba=> ?_) (λba=> ?_)
 ·refine aI<|aD<|aH<|wq<|wm Z<|wy (aL aa Z)<|wn Z<|aD<|aH ?_;refine gZ (λ(j:Int)=>[(0,sl dg s.length dd),(3,sl A1 n1 c1),(4,I i),(5,I j)]) (λj=>[(ri 3 A1 n1 c1 U)]) (λj=>(0<=j)/\(j<=U.length)/\(∀q:Int,j<=q->q<U.length->bY s i (rd U q))) (λj=>j.toNat) ?_ ?_
  ·exact⟨(n1:Int),⟨G,G,(λq h1 h2=>G)⟩,KP⟩
  intro j ⟨sf,l6,vn⟩;have ft: ∀q:Int,0<=q->q<U.length->0<=rd U q/\rd U q<i.toNat:=λq h1 h2=>aZ.1 (hp.subset (bI h1 h2));have hmj:0<j->0<=rd U (j-1)/\rd U (j-1)<s.length:=λh=>by have:=ft (j-1) G G;omega
  refine aD ?_;refine uM [(0,sl dg s.length dd),(3,sl A1 n1 c1),(4,I i),(5,I j),(29, .bool (decide ((0<j)/\((cmpL ((s).drop (i).toNat) ((s).drop (rd U (j-1)).toNat))<0))))] [(ri 3 A1 n1 c1 U)] ?_ ?_
  ·refine bF mixed<|wD 0 Z (aJ Z)<|wD 1 Z (dA Z Z)<|wD 2 Z (aJ Z)<|oZ 16 Z (λcj=> ?_) (λcj=> ?_)
   ·refine wG 3 Z Z Z (aJ Z)<|wG 4 Z Z Z (aJ Z)<|wG 5 Z Z Z (dF aa sz3 Z Z)<|wG 6 Z Z Z (aJ Z)<|wG 7 Z Z Z (aJ Z)<|wG 8 Z Z Z (aJ Z)<|wG 9 Z Z Z (mE Z Z)<|wG 10 Z Z Z (aF aa sz3 Z Z (rdr 0 Z))<|wG 11 Z Z Z (aU au Z Z (rdr 0 Z))<|wG 12 Z Z Z (dF aa sz3 Z Z (by have:=ft (j-1) G G;omega) (by have:=ft (j-1) G G;omega)) ?_;refine rU 13 Z cA Z Z Z (aC bKm Z (Ct.quiet (λw hw=>aCr ((RdC.fromI (co.c _) G) w hw) ((RdC.fromI (co.c _) G) w hw)))) ?_;rintro _ _⟨rfl,rfl⟩;refine⟨.inr hiZ,?_⟩;refine wG 14 Z Z Z (eZ Z Z)<|wD 15 Z (aS Z Z)<|wN ?_;exact KP
   ·refine wO 3 Z Z Z<|wO 4 Z Z Z<|wO 5 Z Z Z<|wO 6 Z Z Z<|wO 7 Z Z Z<|wO 8 Z Z Z<|wO 9 Z Z Z<|wO 10 Z Z Z<|wO 11 Z Z Z<|wO 12 Z Z Z<|wO 13 Z Z Z<|wO 14 Z Z Z<|wD 15 Z (aO Z Z)<|wN ?_;exact KP
  refine bA Z (λfh=> ?_) (λfh=> ?_)
  ·have Sv:=aNe (s:=s) vn fh;refine aI<|aH<|aK<|wm Z<|wS Z Z<|wn Z ?_;exact⟨j-1,⟨G,G,(Sv)⟩,G,KP⟩
  ·have tg:=aUw (s:=s) bb G hp hs sf l6 vn fh;refine aR<|bF mixed<|wD 1 Z (aJ Z)<|wD 2 Z (aJ Z)<|wD 3 Z (dV aa sz3 Z Z (rdr 0 Z))<|wD 5 Z (aJ Z)<|wD 8 Z (aJ Z)<|wD 9 Z (aJ Z)<|wD 10 Z (dF aa sz3 Z Z)<|EX 0 6 cA ?_ ?_
   ·refine IW 0 Z Z (bH .i64 [] aa zs3 Z Z Z) ?_;rintro _ _⟨cy,rfl,rfl⟩;refine⟨.inr hrZ,?_⟩;refine EX 4 6 cA ?_ ?_
    ·refine IW 4 Z Z (aQ 0 Z aa zb3 Z Z Z (RdC.toI (h:=(j).toNat) (rdr 1 Z) cG)) ?_;rintro _ _⟨en,es,rfl,rfl⟩;refine⟨.inl cA,?_⟩;refine fO (v:=sl en (0+((j).toNat)) es) Z<|wC 6 Z (bH .i64 [i] aa zs3 Z Z Z) ?_;rintro _ _⟨io,rfl,rfl⟩;refine⟨.inr hrZ,?_⟩;refine wC 7 Z (aQ 1 Z aa zb3 Z Z Z (rdr 0 Z)) ?_;rintro _ _⟨gg,ef,rfl,rfl⟩;refine⟨.inl cA,?_⟩;refine fO (v:=sl gg ((0+((j).toNat))+1) ef) Z<|wC 11 Z (aQ 1 Z aa zb3 Z Z Z (RdC.fromI (rdr 2 Z) cG)) ?_;rintro _ _⟨dv,br,rfl,rfl⟩;refine⟨.inl cA,?_⟩;refine fO (v:=sl dv (((0+((j).toNat))+1)+(n1-(j).toNat)) br) Z<|wD 12 Z (bB Z)<|wN<|aK<|wm Z<|wA Z Z<|wn Z ?_;exact⟨i+1,dv,((0+((j).toNat))+1)+(n1-(j).toNat),br,((([])++((U).take (j).toNat))++([i]))++((U).drop (j).toNat),⟨G,G,(by simp only[ah,ax,az,dn,jb];omega),(tg.1),(tg.2)⟩,G,SA,λ_ h=>h.sel [1] cC Z⟩
    ·refine IW 6 Z Z (bH .i64 [i] aa zs3 Z Z Z) ?_;rintro _ _⟨jn,rfl,rfl⟩;refine⟨.inr hrZ,?_⟩;refine wC 4 Z (aQ 1 Z aa zb3 Z Z Z (RdC.toI (h:=(j).toNat) (rdr 2 Z) cG)) ?_;rintro _ _⟨dy,ee,rfl,rfl⟩;refine⟨.inl cA,?_⟩;refine fO (v:=sl dy (0+((j).toNat)) ee) Z<|wC 7 Z (aQ 1 Z aa zb3 Z Z Z (rdr 0 Z)) ?_;rintro _ _⟨fk,sp,rfl,rfl⟩;refine⟨.inl cA,?_⟩;refine fO (v:=sl fk ((0+((j).toNat))+1) sp) Z<|wC 11 Z (aQ 1 Z aa zb3 Z Z Z (RdC.fromI (rdr 2 Z) cG)) ?_;rintro _ _⟨uv,gh,rfl,rfl⟩;refine⟨.inl cA,?_⟩;refine fO (v:=sl uv (((0+((j).toNat))+1)+(n1-(j).toNat)) gh) Z<|wD 12 Z (bB Z)<|wN<|aK<|wm Z<|wA Z Z<|wn Z ?_;exact⟨i+1,uv,((0+((j).toNat))+1)+(n1-(j).toNat),gh,((([])++((U).take (j).toNat))++([i]))++((U).drop (j).toNat),⟨G,G,(by simp only[ah,ax,az,dn,jb];omega),(tg.1),(tg.2)⟩,G,SA,λ_ h=>h.sel [1] cC Z⟩
   ·refine IW 6 Z Z (bH .i64 [i] aa zs3 Z Z Z) ?_;rintro _ _⟨z7,rfl,rfl⟩;refine⟨.inr hrZ,?_⟩;refine wC 0 Z (bH .i64 [] aa zs3 Z Z Z) ?_;rintro _ _⟨Kn,rfl,rfl⟩;refine⟨.inr hrZ,?_⟩;refine wC 4 Z (aQ 0 Z aa zb3 Z Z Z (RdC.toI (h:=(j).toNat) (rdr 2 Z) cG)) ?_;rintro _ _⟨wb,wi,rfl,rfl⟩;refine⟨.inl cA,?_⟩;refine fO (v:=sl wb (0+((j).toNat)) wi) Z<|wC 7 Z (aQ 0 Z aa zb3 Z Z Z (rdr 1 Z)) ?_;rintro _ _⟨Wn,Wy,rfl,rfl⟩;refine⟨.inl cA,?_⟩;refine fO (v:=sl Wn ((0+((j).toNat))+1) Wy) Z<|wC 11 Z (aQ 0 Z aa zb3 Z Z Z (RdC.fromI (rdr 2 Z) cG)) ?_;rintro _ _⟨i6,i8,rfl,rfl⟩;refine⟨.inl cA,?_⟩;refine fO (v:=sl i6 (((0+((j).toNat))+1)+(n1-(j).toNat)) i8) Z<|wD 12 Z (bB Z)<|wN<|aK<|wm Z<|wA Z Z<|wn Z ?_;exact⟨i+1,i6,((0+((j).toNat))+1)+(n1-(j).toNat),i8,((([])++((U).take (j).toNat))++([i]))++((U).drop (j).toNat),⟨G,G,(by simp only[ah,ax,az,dn,jb];omega),(tg.1),(tg.2)⟩,G,SA,λ_ h=>h.sel [0] cC Z⟩
 ·refine aR<|wq<|wm Z<|wn Z<|aT [0] 99 cC Z ?_;refine⟨_,Z,?_⟩;obtain rfl:n1=s.length:=G
  exact⟨U,_,_,Z,by have e:i.toNat=s.length:=G;rw[<-e];exact hp,hs,rfl⟩
theorem VL (ac:Rd w ap bl an 1 (ints .u8 u)) (am:aN u) (hN:u.length<=1000000):
  CF 217 #[sl ap bl an] w (λv R'=> ∃A c,v=sl A (u).length c/\R'=[(ri 3 A ((u).length) c (u))]):=by
 obtain rfl:=ac.lenI;refine fn1 Tryz.func217 Z Z Z ?_;have kc:=ac.max;refine wq<|wn Z<|wq<|bT (R1:=[(ri 3 none 0 0 ([]))]) (Sub.refl _) (λ_ h=>h.nil 3 1)<|wn Z<|aD<|wq<|wn Z<|aH ?_;refine eH (λ(A1:AF) (n1:Nat) (c1:Nat) (acc:AH) (i:Int)=>[(0,sl ap u.length an),(3,sl A1 n1 c1),(4,I i)]) (λA1 n1 c1 acc i=>[(ri 3 A1 n1 c1 acc)]) (λA1 n1 c1 acc i=>(n1=acc.length)/\(0<=i)/\(i<=u.length)/\(acc=u.take i.toNat)) (λA1 n1 c1 acc i=>(u.length-i).toNat) ?_ ?_
 ·exact⟨none,0,0,[],0,⟨(Z),G,G,(Z)⟩,KP⟩
 intro A1 n1 c1 acc i ⟨cm,bb,gd,bc⟩;refine aD<|wq<|wm Z<|wm Z<|wy (aL af Z)<|wL Z Z<|aA<|bA Z (λba=> ?_) (λba=> ?_)
 ·have sv:=am.rd i;refine aI<|aD<|aH<|aK<|wm Z<|wm Z<|wm Z<|wy (aF af sz5 Z Z (ac.c _))<|wy (aU bn Z Z (ac.c _))<|wy (iR bn au Z)<|wa (bH .i64 [rd u i] aa zs3 Z Z Z) ?_;rintro _ _⟨cy,rfl,rfl⟩;refine wa (aQ 1 Z aa zb3 Z Z Z (rdr 0 Z) (by have:=bu List.length bc;rw[ax] at this;omega)) ?_;rintro _ _⟨en,es,rfl,rfl⟩;refine bC (v:=sl en (n1+1) es) Z<|wn Z<|aK<|wm Z<|wA Z Z<|wn Z ?_;exact⟨en,n1+1,es,acc++([rd u i]),i+1,⟨(by rw[ah,cm];try rfl),G,G,(by rw[dJ bb G,bc])⟩,G,SA,λ_ h=>h.sel [1] cC Z⟩
 ·refine aR<|wq<|wm Z<|wn Z<|aT [0] 99 cC Z ?_;refine⟨_,Z,?_⟩;rw[bi G] at bc;subst bc;obtain rfl:=cm;exact⟨_,_,Z,Z⟩
theorem aGm (ac:Rd w ap bl an 1 (ints .u8 u)) (am:aN u) (hN:u.length<=1000000):
  CF 144 #[sl ap bl an] w (λv R'=> ∃(b:AH) (A:AF) (c:Nat),v=sl A u.length c/\b.Perm (iota u.length)/\b.Pairwise (bY u)/\R'=[(ri 3 A u.length c b)]):=by
 obtain rfl:=ac.lenI;refine fn1 Tryz.func144 Z Z Z ?_;have kc:=ac.max;refine wq<|wn Z<|wq<|wm Z<|wa (aC bLc Z (Ct.fresh (λw hw=>VL ((ac.c _) w hw) cE cE))) ?_;rintro _ _⟨_,rfl,cg,ce,rfl,rfl⟩;refine wa (aC bLd Z (Ct.fresh (λw hw=>aEk ((rdr 0 Z) w hw) cE))) ?_;rintro _ _⟨_,rfl,b1,ns,pi,rfl,dq,fg,rfl⟩;refine wn Z<|aT [0] 99 cC Z ?_;exact⟨_,Z,b1,_,_,Z,dq,fg,Z⟩
end Go.Proofs.YtdbebmmhdefgdaaGreat
namespace Go.Proofs
open Go.Shelf
def Tryz.lays212_ren:Go.Shelf.Ren:=⟨λ|212=>122|263=>195|264=>196|n=>n,λ|46=>167|51=>123|146=>243|53=>112|148=>245|n=>n,λ|n=>n⟩
theorem Tryz.lays212:Go.Proofs.Lays.n212 Tryz.prog Tryz.lays212_ren:= {
 mixed:=cA
 f212:=Tryz.func122.trans (bu some cA)
 f263:=Tryz.func195.trans (bu some cA)
 f264:=Tryz.func196.trans (bu some cA)
 t46:=Ao
 a46:=Ed
 z46:=Dk
 v46:=Be
 t51:=Cu
 a51:=Hw
 z51:=Gb
 v51:=Dm
 t53:=Cs
 a53:=Hu
 z53:=Ga
 v53:=Dl
 t146:=Tryz.underlying243
 a146:=Tryz.isAgg243
 z146:=Tryz.sizeOf243
 v146:=Tryz.zeroValue243
 t148:=Tryz.underlying245
 a148:=Tryz.isAgg245
 z148:=Tryz.sizeOf245
 v148:=Tryz.zeroValue245}
open Go.RowKit Go.Lib in
theorem Tryz.bits_Mul (x y:Nat) (hx:x<18446744073709551616) (hy:y<18446744073709551616) (w:World):
  Calls Tryz.prog 122 #[.int .u64 x, .int .u64 y] w λe w'=>e= .returned (.tuple #[.int .u64 ((x*y/18446744073709551616:Nat):Int), .int .u64 ((x*y%18446744073709551616:Nat):Int)])/\w'=w:=Any.bits_Mul Tryz.lays212 x y hx hy w
end Go.Proofs
namespace Go.Proofs.YtdbebmmhdefgdaaGreat
open Go Go.Eng Go.Pure
open Tryz
set_option maxRecDepth 100000
variable {w:World} {p val i:Int} {N iz dd:Nat} {dg:AF} {s:AH}
theorem TB {me:AF} {pk mn:Nat} {l:AH} {zj:AF} {n_m zp:Nat} {m:AH} (kp:Rd w me pk mn 1 (ints .i64 l)) (j7:Rd w zj n_m zp 1 (ints .i64 m)) (hN:l.length<=1000000):
  CF 87 #[sl me pk mn,sl zj n_m zp] w (λv R'=>v= .bool (decide (l=m))):=by
 obtain rfl:=kp.lenI;obtain rfl:=j7.lenI;refine fn1 Tryz.func87 Z Z Z ?_;have Pk:=kp.max;have m_m:=j7.max;refine wq<|wn Z<|aD<|wq<|wm Z<|wy (aL aa Z)<|wm Z<|wy (aL aa Z)<|wy (jP Z Z)<|aA<|bA Z (λba=> ?_) (λba=> ?_)
 ·refine wq<|wn Z<|bQ ?_;refine⟨_,Z,?_⟩;exact bu Value.bool (qa (λe=>by rw[e] at ba;exact ba rfl)).symm
 ·refine aI<|aD<|wq<|wm Z<|wy (aL aa Z)<|wm Z<|aA<|aH ?_;refine gZ (λ(k:Int)=>[(0,sl me l.length mn),(1,sl zj m.length zp),(12,I (l.length:Int)),(13,I k)]) (λk=>[]) (λk=>(0<=k)/\(k<=l.length)/\(l.take k.toNat=m.take k.toNat)) (λk=>(l.length-k).toNat) ?_ ?_
  ·exact⟨0,⟨G,G,(Z)⟩,KP⟩
  intro k ⟨ju,tz,hq⟩;refine wq<|wL Z Z<|aA<|aD<|bA Z (λcj=> ?_) (λcj=> ?_)
  ·refine aI<|aD<|aH<|wq<|wm Z<|wn Z<|aD<|bF mixed<|wD 0 Z (aJ Z)<|wD 1 Z (aJ Z)<|wD 2 Z (aF aa sz3 Z Z (kp.c _))<|wD 3 Z (aU au Z Z (kp.c _))<|wD 4 Z (aJ Z) ?_;refine wD 5 Z (aJ Z)<|wD 6 Z (aF aa sz3 Z Z (j7.c _))<|wD 7 Z (aU au Z Z (j7.c _))<|wD 8 Z (jP Z Z)<|wN<|bA Z (λfh=> ?_) (λfh=> ?_)
   ·refine wq<|wn Z<|bQ ?_;refine⟨_,Z,?_⟩;exact bu Value.bool (qa (λe=>by subst e;exact fh rfl)).symm
   ·refine aI<|aK<|wA Z Z<|wm Z<|aA ?_;exact⟨k+1,⟨G,G,(by rw[dJ ju G,dJ ju G,hq];exact bu (λz=>List.take k.toNat m++[z]) (xh.1 cF))⟩,G,KP⟩
  ·refine aR<|wq<|wn Z<|bQ ?_;refine⟨_,Z,?_⟩;exact bu Value.bool (ni (by rw[bi G,bi G] at hq;exact hq)).symm
theorem bGq {B:Nat} {w0:World} {R:List Row} (N:Nat) (h:N<=1000000):CT 122 #[.int .u64 1, .int .u64 (N:Int)] B w0 R (λv R'=>v= .tuple #[.int .u64 0, .int .u64 (N:Int)]/\R'=R):=by
 intro w hw;have hc:=Tryz.bits_Mul 1 N G G w;rw[Bi,Dw G,lh G] at hc;refine hc.mono ?_;rintro e w' ⟨rfl,rfl⟩;exact⟨_,R,Z,hw,Z,Z⟩
theorem aKl (h:0<=p/\p<=18446744073709551615):IntKind.u64.wrap p=p:=by rw[Ia];omega
theorem aSb {D:AH} (p1:1<=p) (hp:p<=N) (hD:D=CE val p.toNat N):
  List.take p.toNat D++List.take (min p.toNat (N-p.toNat)) (List.take p.toNat D)++List.drop (p.toNat+min p.toNat (N-p.toNat)) D=CE val (p+((min p.toNat (N-p.toNat):Nat):Int)).toNat N:=by
 subst hD;rw[show(p+((min p.toNat (N-p.toNat):Nat):Int)).toNat=p.toNat+min p.toNat (N-p.toNat) by omega];refine RS G ?_;rw[RQ,List.take_replicate];congr 1;omega
theorem aSd (h:1<=N):List.take 0 (List.replicate N (0:Int))++List.take (min ([val].length) (N-0)) [val]++List.drop (0+min ([val].length) (N-0)) (List.replicate N (0:Int))=CE val (((min ([val].length) (N-0):Nat):Int)).toNat N:=by
 have e:min ([val].length) (N-0)=1:=cH
 rw[e,<-aLx val N];exact RS (p:=0) (q:=1) G Z
theorem aDz {n7:AF} {Ka o0:Nat} {x:AH} {cn:Int} (mm:Rd w n7 Ka o0 1 (ints .i64 x)) (hx:x=[val]) (Ps:cn=(N:Int)) (hN:1<=N/\N<=1000000):
  CF 316 #[sl n7 Ka o0,I cn] w (λv R'=> ∃A c,v=sl A N c/\R'=[(ri 3 A N c (List.replicate N val))]):=by
 obtain rfl:=mm.lenI;refine fn1 Tryz.func316 Z Z Z ?_;have m_x:=mm.max;refine wq<|wn Z<|aD<|wq<|wm Z<|wy (Yl.f (eZ Z Z))<|aA<|aP Z<|aI<|wq<|wm Z ?_;refine wy (aL aa Z)<|wy (Yl.is (mV au Cf Z) (by rw[hx])) ?_;refine wm Z<|wy (Yl.is (mV au Cf Z) (by rw[aKl G,Ps])) ?_;refine wa (aC bEw Z (bGq N hN.2)) ?_;rintro _ _⟨rfl,rfl⟩;refine wm Z<|wX Z Z<|wX Z Z<|wg Z<|wn Z<|aD<|wq<|wm Z<|wy (Yl.f (dA Z Z))<|wm Z<|aB Z Z<|wm Z<|aB Z Z ?_;refine wy (Yl.f (dA Z Z))<|wy (aO Z Z)<|aA<|aP Z<|aI<|wq<|wm Z<|wy (iR Cf au Z)<|wa (dM aa zb3 Z Z) ?_;rintro _ _⟨aq,rfl,rfl⟩;refine bC (v:=sl (GG aq) N N) Z<|wn Z<|wq<|wm Z<|wm Z<|wa (XA (lo:=0) 0 Z aa sz3 Z Z aWx Z G (mm.c _)) ?_;rintro _ _⟨rfl,rfl⟩;refine wn Z<|aD<|aH ?_;refine dI (λ(p:Int) (D:AH)=>[(7,sl (GG aq) N N),(8,I p)]) (λp D=>[(ri 3 (GG aq) N N D)]) (λp D=>(1<=p)/\(p<=N)/\(D=CE val p.toNat N)) (λp D=>(N-p).toNat) ?_ ?_
 ·exact⟨((min x.length (N-0):Nat):Int),List.take 0 (List.replicate N (0:Int))++List.take (min x.length (N-0)) x++List.drop (0+min x.length (N-0)) (List.replicate N (0:Int)),⟨(by subst hx;simp;omega),G,(by subst hx;exact aSd hN.1)⟩,KP⟩
 intro p D ⟨Ow,qv,hD⟩;refine aD<|wq<|wm Z<|wm Z<|wy (aL aa Z)<|wL Z Z<|aA<|bA Z (λba=> ?_) (λba=> ?_)
 ·refine aI<|aH<|bF mixed<|wD 0 Z (aJ Z)<|wD 1 Z (aJ Z)<|wD 2 Z (aJ Z)<|wD 3 Z (dF aa sz3 Z Z)<|wD 4 Z (aJ Z)<|wD 5 Z (aJ Z)<|wD 6 Z (dV aa sz3 Z Z (rdr 0 Z))<|wC 7 Z (XA (lo:=p.toNat) 0 Z aa sz3 Z Z Z Z G (RdC.toI (h:=(p).toNat) (rdr 0 Z) cG)) ?_;rintro _ _⟨rfl,rfl⟩;refine⟨.inl cA,?_⟩;refine wD 8 Z (cK Z Z)<|wD 9 Z (bB Z)<|wN ?_;exact⟨p+((min ((p).toNat) (N-p.toNat):Nat):Int),List.take p.toNat D++List.take (min ((p).toNat) (N-p.toNat)) ((D).take (p).toNat)++List.drop (p.toNat+min ((p).toNat) (N-p.toNat)) D,⟨G,G,(aSb Ow qv hD)⟩,G,KP⟩
 ·refine aR<|wq<|wm Z<|wn Z<|aT [0] 99 cC Z ?_;refine⟨_,Z,?_⟩;obtain rfl:D=List.replicate N val:=by rw[hD,show p.toNat=N by omega];exact aSa _ _
  exact⟨_,_,Z,Z⟩
theorem YH (co:Rd w dg iz dd 1 (ints .i64 s)) (hN:s.length<=1000000):
  CF 313 #[sl dg iz dd] w (λv R'=> ∃A c,v=sl A s.length c/\R'=[⟨4,1,A,s.length,c,bools (smL s),false⟩]):=by
 obtain rfl:=co.lenI;refine fn1 Tryz.func313 Z Z Z ?_;have b6:=co.max;refine wq<|wn Z<|wq<|wm Z<|wy (aL aa Z)<|wa (WW pz zb4 Z Z G G G) ?_;rintro _ _⟨aq,rfl,rfl⟩;refine bC (v:=sl (GG aq) s.length s.length) Z<|wn Z<|aD<|wq<|wm Z<|wy (aL aa Z)<|wS Z Z<|wn Z<|aH ?_;refine dI (λ(i:Int) (m:List Bool)=>[(0,sl dg s.length dd),(3,sl (GG aq) s.length s.length),(4,I i)]) (λi m=>[⟨4,1,(GG aq),s.length,s.length,bools m,false⟩]) (λi m=>(-2<=i)/\(i+2<=s.length)/\(m.length=s.length)/\(∀j:Int,0<=j->i<j->j<s.length->rdb m j=smB s j)) (λi m=>(i+1).toNat) ?_ ?_
 ·exact⟨(s.length:Int)-2,List.replicate s.length false,⟨G,G,(by rw[dh]),(λj h0 h1 h2=>by rw[JR,qW h0 G])⟩,KP⟩
 intro i m ⟨bb,gd,hl,hM⟩;refine aD<|wq<|wm Z<|wy (iD Z Z)<|aA<|bA Z (λba=> ?_) (λba=> ?_)
 ·refine aI<|aD<|aH<|bF mixed<|wD 0 Z (aJ Z)<|wD 1 Z (aJ Z)<|wD 2 Z (aJ Z)<|wD 3 Z (aJ Z)<|wD 4 Z (aF aa sz3 Z Z (co.c _))<|wD 5 Z (aU au Z Z (co.c _))<|wD 6 Z (aJ Z)<|wD 7 Z (aJ Z)<|wD 8 Z (cK Z Z)<|wD 9 Z (aF aa sz3 Z Z (co.c _))<|wD 10 Z (aU au Z Z (co.c _)) ?_;refine wD 11 Z (eZ Z Z)<|wD 12 Z (aJ Z)<|oZ 27 Z (λcj=> ?_) (λcj=> ?_)
  ·refine wO 13 Z Z Z<|wO 14 Z Z Z<|wO 15 Z Z Z<|wO 16 Z Z Z<|wO 17 Z Z Z<|wO 18 Z Z Z<|wO 19 Z Z Z<|wO 20 Z Z Z<|wO 21 Z Z Z<|wO 22 Z Z Z<|wO 23 Z Z Z<|KJ 24 Z cA Z Z Z<|KJ 25 Z cA Z Z Z<|KJ 26 Z cA Z Z Z<|KJ 27 Z cA Z Z Z ?_;refine KJ 28 Z cA Z Z Z<|wO 29 Z Z Z<|wD 30 Z (aS Z Z)<|wD 31 Z (aF pz sz4 Z Z (rdr 0 Z))<|qD 32 Z cA (xR 0 Z sz4 Z Z) ?_;rintro _ _ rfl;refine⟨.inl cA,?_⟩;refine wN<|aK<|wm Z<|wS Z Z<|wn Z ?_;exact⟨i-1,qR m i true,⟨G,G,(by rw[lU];exact hl),(λj h0 h1 h2=>UR G G hl (λj a b=>hM j G a b) (⟨λ_=> .inl G,λ_=>Z⟩) j G h2)⟩,G,KP⟩
  ·refine wG 13 Z Z Z (aJ Z)<|wG 14 Z Z Z (aJ Z)<|wG 15 Z Z Z (aF aa sz3 Z Z (co.c _))<|wG 16 Z Z Z (aU au Z Z (co.c _))<|wG 17 Z Z Z (aJ Z)<|wG 18 Z Z Z (aJ Z)<|wG 19 Z Z Z (cK Z Z)<|wG 20 Z Z Z (aF aa sz3 Z Z (co.c _))<|wG 21 Z Z Z (aU au Z Z (co.c _))<|wG 22 Z Z Z (fD Z Z)<|wG 23 Z Z Z (aJ Z)<|oZ 38 Z (λfh=> ?_) (λfh=> ?_)
   ·refine wG 24 Z Z Z (aJ Z)<|wG 25 Z Z Z (aJ Z)<|wG 26 Z Z Z (cK Z Z)<|wG 27 Z Z Z (aF pz sz4 Z Z (rdr 0 Z))<|wG 28 Z Z Z (GY za Z Z (rdr 0 Z))<|wG 29 Z Z Z (aS Z Z)<|wD 30 Z (aO Z Z)<|wD 31 Z (aF pz sz4 Z Z (rdr 0 Z))<|qD 32 Z cA (xR 0 Z sz4 Z Z) ?_;rintro _ _ rfl;refine⟨.inl cA,?_⟩;refine wN<|aK<|wm Z<|wS Z Z<|wn Z ?_;exact⟨i-1,qR m i (decide (rdb m (i+1)=true)),⟨G,G,(by rw[lU];exact hl),(λj h0 h1 h2=>UR G G hl (λj a b=>hM j G a b) (by rw[il];exact⟨λh=> .inr ⟨G,h⟩,λh=>(h.resolve_left G).2⟩) j G h2)⟩,G,KP⟩
   ·refine wO 24 Z Z Z<|wO 25 Z Z Z<|wO 26 Z Z Z<|wO 27 Z Z Z<|wO 28 Z Z Z<|wG 29 Z Z Z (aO Z Z)<|wD 30 Z (aO Z Z)<|wD 31 Z (aF pz sz4 Z Z (rdr 0 Z))<|qD 32 Z cA (xR 0 Z sz4 Z Z) ?_;rintro _ _ rfl;refine⟨.inl cA,?_⟩;refine wN<|aK<|wm Z<|wS Z Z<|wn Z ?_;exact⟨i-1,qR m i false,⟨G,G,(by rw[lU];exact hl),(λj h0 h1 h2=>UR G G hl (λj a b=>hM j G a b) (⟨λh=>(by cases h),λh=>absurd h G⟩) j G h2)⟩,G,KP⟩
 ·refine aR<|wq<|wm Z<|wn Z<|aT [0] 99 cC Z ?_;refine⟨_,Z,?_⟩;obtain rfl:m=smL s:=bFp hl λj h0 h1=>hM j h0 G h1;exact⟨_,_,Z,Z⟩
theorem bBp (h0:0<=i) (hi:i<s.length) (h1:0<i) (h2:rdb (smL s) i=true) (h3: ¬rdb (smL s) (i-1)=true):gL s i=true:=by
 rw[nC h0 hi] at h2;rw[nC G G] at h3;exact nG.2 ⟨h1,h2,by simpa using h3⟩
theorem bHa (h0:0<=i) (hi:i<s.length) (h: ¬(0<i/\rdb (smL s) i=true/\ ¬rdb (smL s) (i-1)=true)): ¬gL s i=true:=λe=>by
 obtain⟨h1,h2,h3⟩:=nG.1 e;exact h ⟨h1,by rw[nC h0 hi];exact h2,by rw[nC G G,h3];simp⟩
theorem aVd (s:AH):NP s 1=[]:=by
 show NP s (0+1)=[];rw[GD G,df (λh=>by have:=(nG.1 h).1;omega)];rfl
theorem aVe (h:i=s.length\/i=1/\s.length=0):NP s i=bP s:=by
 rcases h with rfl|⟨rfl,h⟩
 ·exact NN
 ·rw[aVd,<-NN,h];rfl
theorem aAk (co:Rd w dg iz dd 1 (ints .i64 s)) (hN:s.length<=1000000):
  CF 290 #[sl dg iz dd] w (λv R'=> ∃A c,v=sl A (bP s).length c/\R'=[(ri 3 A ((bP s).length) c (bP s))]):=by
 obtain rfl:=co.lenI;refine fn1 Tryz.func290 Z Z Z ?_;have b6:=co.max;refine wq<|wn Z<|wq<|bT (R1:=[(ri 3 none 0 0 ([]))]) (Sub.refl _) (λ_ h=>h.nil 3 1)<|wn Z<|wq<|wm Z<|wa (aC bEf Z (Ct.fresh (λw hw=>YH ((co.c _) w hw) cE))) ?_;rintro _ _⟨_,rfl,cg,ce,rfl,rfl⟩;refine wn Z<|aD<|wq<|wm Z<|wy (aL aa Z)<|wm Z<|aA<|aH ?_;refine eH (λ(A1:AF) (n1:Nat) (c1:Nat) (acc:AH) (i:Int)=>[(3,sl A1 n1 c1),(4,sl cg s.length ce),(9,I (s.length:Int)),(10,I i)]) (λA1 n1 c1 acc i=>[⟨4,1,cg,s.length,ce,bools (smL s),false⟩,(ri 3 A1 n1 c1 acc)]) (λA1 n1 c1 acc i=>(n1=acc.length)/\(0<=i)/\(i<=s.length)/\(acc=NP s i)) (λA1 n1 c1 acc i=>(s.length-i).toNat) ?_ ?_
 ·exact⟨none,0,0,[],0,⟨(Z),G,G,(Z)⟩,KP⟩
 intro A1 n1 c1 acc i ⟨cm,bb,gd,bc⟩;refine wq<|wL Z Z<|aA<|aD<|bA Z (λba=> ?_) (λba=> ?_)
 ·refine aI<|aD<|aH<|wq<|wm Z<|wn Z<|wq<|wm Z<|wy (dA Z Z)<|wm Z<|bV 5 [(3,sl A1 n1 c1),(4,sl cg s.length ce),(5,I i),(9,I (s.length:Int)),(10,I i),(20, .bool (decide ((0<i)/\(rdb (smL s) i=true))))] [⟨4,1,cg,s.length,ce,bools (smL s),false⟩,(ri 3 A1 n1 c1 acc)] ?_ ?_
  ·refine bN 15 Z (λcj=> ?_) (λcj=> ?_)
   ·refine aB Z Z<|wm Z<|aB Z Z<|wm Z<|aB Z Z<|wy (aF pz sz4 Z Z (rdr 0 Z))<|aB Z Z<|wy (GY za Z Z (rdr 0 Z))<|wy (aS Z Z)<|aA ?_;exact KP
   ·refine aM Z Z Z Z<|aM Z Z Z Z<|aM Z Z Z Z<|aM Z Z Z Z<|wy (aO Z Z)<|aA ?_;exact KP
  refine wm Z<|bV 7 [(3,sl A1 n1 c1),(4,sl cg s.length ce),(5,I i),(9,I (s.length:Int)),(10,I i),(28, .bool (decide (((0<i)/\(rdb (smL s) i=true))/\(¬(rdb (smL s) (i-1)=true)))))] [⟨4,1,cg,s.length,ce,bools (smL s),false⟩,(ri 3 A1 n1 c1 acc)] ?_ ?_
  ·refine bN 21 Z (λfh=> ?_) (λfh=> ?_)
   ·refine aB Z Z<|wm Z<|aB Z Z<|wm Z<|aB Z Z<|wS Z Z<|aB Z Z<|wy (aF pz sz4 Z Z (rdr 0 Z))<|aB Z Z<|wy (GY za Z Z (rdr 0 Z))<|aB Z Z<|wy (uH Z)<|wy (aS Z Z)<|aA ?_;exact KP
   ·refine aM Z Z Z Z<|aM Z Z Z Z<|aM Z Z Z Z<|aM Z Z Z Z<|aM Z Z Z Z<|aM Z Z Z Z<|wy (aO Z Z)<|aA ?_;exact KP
  refine aA<|bA Z (λjj=> ?_) (λjj=> ?_)
  ·refine aK<|wm Z<|wm Z<|wa (bH .i64 [i] aa zs3 Z Z Z) ?_;rintro _ _⟨jt,rfl,rfl⟩;refine wa (aQ 2 Z aa zb3 Z Z Z (rdr 0 Z) (by have:=bu List.length bc;have:=aAh (s:=s) i;omega)) ?_;rintro _ _⟨gn,mj,rfl,rfl⟩;refine bC (v:=sl gn (n1+1) mj) Z<|wn Z<|aK<|wA Z Z<|wm Z<|aA ?_;exact⟨gn,n1+1,mj,acc++([i]),i+1,⟨(by rw[ah,cm];try rfl),G,G,(by rw[GD G,di (bBp G G jj.1.1 jj.1.2 jj.2),bc])⟩,G,SA,λ_ h=>h.sel [1,2] cC Z⟩
  ·refine aI<|aK<|wA Z Z<|wm Z<|aA ?_;exact⟨A1,n1,c1,acc,i+1,⟨(cm),G,G,(by rw[GD G,df (bHa G G (λh=>jj ⟨⟨h.1,h.2.1⟩,h.2.2⟩)),jh,bc])⟩,G,KP⟩
 ·refine aR<|wq<|wm Z<|wn Z<|aT [1] 99 cC Z ?_;refine⟨_,Z,?_⟩;rw[aVe G] at bc;subst bc;obtain rfl:=cm;exact⟨_,_,Z,Z⟩
theorem aNv {cs V:AH} {i:Int} (h0:0<=i) (hi:i<cs.length) (hl:V.length=cs.length) (hV: ∀j:Int,0<=j->j<cs.length->rd V j=if j<i then ps cs (j+1) else ps cs j):
  ∀j:Int,0<=j->j<cs.length->rd (upd V i (rd V i+rd cs i)) j=if j<i+1 then ps cs (j+1) else ps cs j:=by
 intro j j0 j1;have e1:rd (upd V i (rd V i+rd cs i)) j=if j=i then rd V i+rd cs i else rd V j:=gH h0 j0 G
 have e2:=hV i h0 hi;rw[df G] at e2;rw[e1,e2,hV j j0 j1];by_cases e:j=i
 ·subst e;rw[di rfl,di G,lY h0 hi]
 ·rw [df e];by_cases h:j<i
  ·rw[di h,di G]
  ·rw[df h,df G]
theorem aJp {s:AH} {k:Int} (hk:0<=k) (hs: ∀x∈s,0<=x/\x<k):(eF s k).sum=s.length:=by
 have h:=OA (order:=iota s.length) (keys:=s) (k:=k) hk λi hi=>hs _ (bI (aZ.1 hi).1 (aZ.1 hi).2);rwa[mO,bD] at h
theorem aNw {cs V:AH} (hl:V.length=cs.length) (hV: ∀j:Int,0<=j->j<cs.length->rd V j=if j<cs.length then ps cs (j+1) else ps cs j):V=rG cs:=
 bL (hl.trans (GK cs).symm) λj h1 h2=>by rw[ME h1 G,hV j h1 G,di G]
theorem aJb {B:Nat} {w0:World} {R:List Row} {xd:Nat} {dg zj n5 mv:AF} {dd zp n9 mw:Nat} {s:AH} {k:Int} (mm:RdC B w0 R (GG xd) 1 1 4 [sl dg s.length dd,sl zj s.length zp,sl n5 k.toNat n9,sl mv s.length mw]) (Nr:RdC B w0 R n5 k.toNat n9 1 (ints .i64 (eF s k))) (hk:0<=k/\k<=1048576) (hs: ∀x∈s,0<=x/\x<k) (hN:s.length<=1000000):
  CT 317 #[PG xd] B w0 (R) (λv R'=> ∃A c,v=sl A k.toNat c/\R'=(ri 3 A k.toNat c (rG (eF s k)))::R):=by
 refine fn1 Tryz.func317 Z Z Z ?_;have kt:(eF s k).length=k.toNat:=dY _ _;have Hi:(eF s k).sum=s.length:=aJp G hs;have Kq:(dD (eF s k)).length=k.toNat:=by rw[fH,kt]
 refine wq<|wn Z<|wq<|wm Z<|wy (aG Z)<|wy (yF 2 2 pg fV Z)<|wy (fM (RdC.right mm []) aa Z Z Z)<|wa (aC aJg Z (Ct.fresh (λw hw=>xZ ((RdC.right Nr []) w hw) (mP _ _) (by rw[Hi];omega) (by rw[kt];omega)))) ?_;rintro _ _⟨_,rfl,cg,ce,rfl,rfl⟩;refine wn Z<|aD<|wq<|wm Z<|wy (aG Z)<|wy (yF 2 2 pg fV Z)<|wy (fM (RdC.right mm [_]) aa Z Z Z)<|wy (aL aa Z)<|wm Z<|aA<|aH ?_;refine dI (λ(i:Int) (V:AH)=>[(3,sl cg ((dD (eF s k)).length) ce),(14,sl n5 k.toNat n9),(15,I (k.toNat:Int)),(16,I i)]) (λi V=>((ri 3 cg ((dD (eF s k)).length) ce V)::R)) (λi V=>(0<=i)/\(i<=(eF s k).length)/\(V.length=(eF s k).length)/\(∀j:Int,0<=j->j<(eF s k).length->rd V j=if j<i then ps (eF s k) (j+1) else ps (eF s k) j)) (λi V=>((eF s k).length-i).toNat) ?_ ?_
 ·exact⟨0,dD (eF s k),⟨G,G,(by rw[fH]),(λj h1 h2=>by rw[df G];exact oD h1 h2)⟩,KP⟩
 intro i V ⟨bb,gd,ld,hV⟩;refine wq<|wL Z Z<|aA<|aD<|bA Z (λba=> ?_) (λba=> ?_)
 ·have vl:=wM (mP s k) i;have g9:=wM (mP s k) (i+1);rw[Hi] at vl g9;have hvi:=hV i bb G;rw[df G] at hvi;have Ll:=lY (L:=eF s k) bb G;refine aI<|aD<|aH<|wq<|wm Z<|wy (aF aa sz3 Z Z (RdC.right Nr [_]))<|wy (aU au Z Z (RdC.right Nr [_]))<|wg Z<|wn Z<|aK<|wm Z<|wm Z<|wy (aF aa sz3 Z Z (rdr 0 Z)) ?_;refine wy (aU au Z Z (rdr 0 Z))<|wm Z<|wA Z Z<|wy (aF aa sz3 Z Z (rdr 0 Z))<|dC (bG 0 Z sz3 Z Z) ?_;rintro _ _ rfl;refine aA<|aK<|wA Z Z<|wm Z<|aA ?_;exact⟨i+1,upd V i ((rd V i)+(rd (eF s k) i)),⟨G,G,(by rw[aX];exact ld),(aNv bb G ld hV)⟩,G,KP⟩
 ·refine aR<|wq<|wm Z<|wn Z ?_;have Vw:k.toNat=(eF s k).length:=kt.symm;obtain rfl:V=rG (eF s k):=aNw ld λj h1 h2=>by rw[hV j h1 h2,di G,di G]
  refine bQ ?_;rw[fH,kt];exact⟨_,Z,_,_,Z,Z⟩
theorem lgC {s D:AH} {i:Int} (Ky:rd D i= -1\/(0<=rd D i/\rd D i<s.length)):(0<rd D i/\ ¬rdb (smL s) (rd D i-1)=true)↔(0<rd D i/\smB s (rd D i-1)=false):=by
 constructor
 ·rintro ⟨h1,h2⟩;rw[nC G G] at h2;exact⟨h1,by simpa using h2⟩
 ·rintro ⟨h1,h2⟩;rw[nC G G,h2];exact⟨h1,cD⟩
theorem smC {s D:AH} {i:Int} (Ky:rd D i= -1\/(0<=rd D i/\rd D i<s.length)):(0<rd D i/\rdb (smL s) (rd D i-1)=true)↔(0<rd D i/\smB s (rd D i-1)=true):=by
 constructor
 ·rintro ⟨h1,h2⟩;rw[nC G G] at h2;exact⟨h1,h2⟩
 ·rintro ⟨h1,h2⟩;rw[nC G G,h2];exact⟨h1,Z⟩
section
variable {s l D H:AH} {k i:Int} (hk:0<=k) (hs: ∀x∈s,0<=x/\x<k) (hp:l.Perm (bP s)) (hn:0<s.length)
include hk hs hp hn
theorem bHd (i0:0<=i) (hi:i<s.length) (hD:D=(itL s k l i.toNat).1) (hH:H=(itL s k l i.toNat).2):(rd D i= -1\/(0<=rd D i/\rd D i<s.length))/\(D.length=s.length/\H.length=k.toNat):=by
 have h:=fLe hk hs hp hn (i:=i.toNat) G hD hH;rwa[lm i0] at h
theorem fLZ (i0:0<=i) (hi:i<s.length) (hD:D=(itL s k l i.toNat).1) (hH:H=(itL s k l i.toNat).2) (hc:0<rd D i/\ ¬rdb (smL s) (rd D i-1)=true):
  rd D i<s.length/\(0<=rd s (rd D i-1)/\rd s (rd D i-1)<k)/\(0<=rd H (rd s (rd D i-1))/\rd H (rd s (rd D i-1))<s.length)/\upd D (rd H (rd s (rd D i-1))) (rd D i-1)=(itL s k l (i+1).toNat).1/\upd H (rd s (rd D i-1)) (rd H (rd s (rd D i-1))+1)=(itL s k l (i+1).toNat).2:=by
 have he:=(bHd hk hs hp hn i0 hi hD hH).1;have h:=fL hk hs hp hn (i:=i.toNat) G hD hH (by rw[lm i0];exact(lgC he).1 hc);rw[lm i0] at h;rwa[show(i+1).toNat=i.toNat+1 by omega]
theorem bNw (i0:0<=i) (hi:i<s.length) (hD:D=(itL s k l i.toNat).1) (hH:H=(itL s k l i.toNat).2) (hc: ¬(0<rd D i/\ ¬rdb (smL s) (rd D i-1)=true)):D=(itL s k l (i+1).toNat).1/\H=(itL s k l (i+1).toNat).2:=by
 have he:=(bHd hk hs hp hn i0 hi hD hH).1;have h:=fLs (i:=i.toNat) hD hH (by rw[lm i0];exact λh=>hc ((lgC he).2 h));rwa[show(i+1).toNat=i.toNat+1 by omega]
theorem bHc (i0:0<=i) (hi:i<s.length) (hD:D=(itS s k l (s.length-1-i).toNat).1) (hH:H=(itS s k l (s.length-1-i).toNat).2):(rd D i= -1\/(0<=rd D i/\rd D i<s.length))/\(D.length=s.length/\H.length=k.toNat):=
 fSe hk hs hp hn (m:=((s.length:Int)-1-i).toNat) G G hD hH
theorem fSZ (i0:0<=i) (hi:i<s.length) (hD:D=(itS s k l (s.length-1-i).toNat).1) (hH:H=(itS s k l (s.length-1-i).toNat).2) (hc:0<rd D i/\rdb (smL s) (rd D i-1)=true):
  rd D i<s.length/\(0<=rd s (rd D i-1)/\rd s (rd D i-1)<k)/\(0<=rd H (rd s (rd D i-1))-1/\rd H (rd s (rd D i-1))-1<s.length)/\upd D (rd H (rd s (rd D i-1))-1) (rd D i-1)=(itS s k l (s.length-1-(i-1)).toNat).1/\upd H (rd s (rd D i-1)) (rd H (rd s (rd D i-1))-1)=(itS s k l (s.length-1-(i-1)).toNat).2:=by
 have he:=(bHc hk hs hp hn i0 hi hD hH).1;have h:=fS hk hs hp hn (m:=((s.length:Int)-1-i).toNat) G G hD hH ((smC he).1 hc);rwa[show((s.length:Int)-1-(i-1)).toNat=((s.length:Int)-1-i).toNat+1 by omega]
theorem bNv (i0:0<=i) (hi:i<s.length) (hD:D=(itS s k l (s.length-1-i).toNat).1) (hH:H=(itS s k l (s.length-1-i).toNat).2) (hc: ¬(0<rd D i/\rdb (smL s) (rd D i-1)=true)):D=(itS s k l (s.length-1-(i-1)).toNat).1/\H=(itS s k l (s.length-1-(i-1)).toNat).2:=by
 have he:=(bHc hk hs hp hn i0 hi hD hH).1;have h:=fSs (m:=((s.length:Int)-1-i).toNat) (i:=i) G hD hH (λh=>hc ((smC he).2 h));rwa[show((s.length:Int)-1-(i-1)).toNat=((s.length:Int)-1-i).toNat+1 by omega]
end
theorem aUg {B:Nat} {w0:World} {R:List Row} {xd:Nat} {dg zj n5 mv:AF} {dd zp n9 mw:Nat} {s:AH} {k:Int} {Kf:AF} {Hx Kk:Nat} {row E:AH} {j:Int} (mm:RdC B w0 R (GG xd) 1 1 4 [sl dg s.length dd,sl zj s.length zp,sl n5 k.toNat n9,sl mv s.length mw]) (co:RdC B w0 R dg s.length dd 1 (ints .i64 s)) (hk:0<=k/\k<=1048576) (hN:s.length<=1000000) (hj:0<=j/\j<s.length) (hc:0<=rd s j/\rd s j<k) (hl:row.length=s.length/\E.length=k.toNat/\Hx=k.toNat) (hv:0<=(rd E (rd s j))-1/\(rd E (rd s j))-1<s.length):
  CT 318 #[PG xd,sl Kf Hx Kk,I j] B w0 ((ri 3 mv s.length mw row)::(ri 3 Kf Hx Kk E)::R) (λv R'=>v= .tuple #[]/\R'=(ri 3 mv s.length mw (upd row ((rd E (rd s j))-1) j))::(ri 3 Kf Hx Kk (upd E (rd s j) ((rd E (rd s j))-1)))::R):=by
 refine fn0 Tryz.func318 Z Z Z ?_;obtain⟨yd,un,a6⟩:=hl;have he:rd (upd E (rd s j) ((rd E (rd s j))-1)) (rd s j)=(rd E (rd s j))-1:=eX hc.1 G;refine wq<|wm Z<|wm Z<|wy (aG Z)<|wy (yF 0 0 pg fV Z)<|wy (fM (RdC.right mm [_,_]) aa Z Z Z)<|wm Z<|wy (aF aa sz3 Z Z (RdC.right co [_,_]))<|wy (aU au Z Z (RdC.right co [_,_]))<|wy (aF aa sz3 Z Z (rdr 1 Z))<|wy (aU au Z Z (rdr 1 Z))<|wS Z Z<|wy (aF aa sz3 Z Z (rdr 1 Z))<|dC (bG 1 Z sz3 Z Z) ?_;rintro _ _ rfl;refine gM (R1:=((ri 3 mv s.length mw row)::(ri 3 Kf Hx Kk (upd E (rd s j) ((rd E (rd s j))-1)))::R)) Z<|aA<|bF mixed<|wD 0 Z (aJ Z)<|wD 1 Z (aG Z)<|wD 2 Z (yF 3 3 pg fV Z)<|wD 3 Z (fM (RdC.right mm [_,_]) aa Z Z Z)<|wD 4 Z (aJ Z)<|wD 5 Z (aJ Z)<|wD 6 Z (aG Z)<|wD 7 Z (yF 0 0 pg fV Z)<|wD 8 Z (fM (RdC.right mm [_,_]) aa Z Z Z)<|wD 9 Z (aJ Z)<|wD 10 Z (aF aa sz3 Z Z (RdC.right co [_,_]))<|wD 11 Z (aU au Z Z (RdC.right co [_,_])) ?_;refine wD 12 Z (aF aa sz3 Z Z (rdr 1 Z))<|wD 13 Z (aU au Z Z (rdr 1 Z))<|wD 14 Z (aJ Z)<|wD 15 Z (aF aa sz3 Z Z (rdr 0 Z))<|qD 16 Z cA (bG 0 Z sz3 Z Z) ?_;rintro _ _ rfl;refine⟨.inl cA,?_⟩;refine qC (R1:=((ri 3 mv s.length mw (upd row (rd (upd E (rd s j) ((rd E (rd s j))-1)) (rd s j)) j))::(ri 3 Kf Hx Kk (upd E (rd s j) ((rd E (rd s j))-1)))::R)) Z<|wN ?_;exact⟨Z,by rw[he]⟩
theorem aIo {B:Nat} {w0:World} {R:List Row} {xd:Nat} {dg zj n5 mv:AF} {dd zp n9 mw:Nat} {s:AH} {k:Int} {Kf:AF} {Hx Kk:Nat} {row E:AH} {j:Int} (mm:RdC B w0 R (GG xd) 1 1 4 [sl dg s.length dd,sl zj s.length zp,sl n5 k.toNat n9,sl mv s.length mw]) (co:RdC B w0 R dg s.length dd 1 (ints .i64 s)) (hk:0<=k/\k<=1048576) (hN:s.length<=1000000) (hj:0<=j/\j<s.length) (hc:0<=rd s j/\rd s j<k) (hl:row.length=s.length/\E.length=k.toNat/\Hx=k.toNat) (hv:0<=rd E (rd s j)/\rd E (rd s j)<s.length):
  CT 347 #[PG xd,sl Kf Hx Kk,I j] B w0 ((ri 3 mv s.length mw row)::(ri 3 Kf Hx Kk E)::R) (λv R'=>v= .tuple #[]/\R'=(ri 3 mv s.length mw (upd row (rd E (rd s j)) j))::(ri 3 Kf Hx Kk (upd E (rd s j) ((rd E (rd s j))+1)))::R):=by
 refine fn0 Tryz.func347 Z Z Z ?_;obtain⟨yd,un,a6⟩:=hl;refine aD<|bF mixed<|wD 0 Z (aJ Z)<|wD 1 Z (aG Z)<|wD 2 Z (yF 3 3 pg fV Z)<|wD 3 Z (fM (RdC.right mm [_,_]) aa Z Z Z)<|wD 4 Z (aJ Z)<|wD 5 Z (aJ Z)<|wD 6 Z (aG Z)<|wD 7 Z (yF 0 0 pg fV Z)<|wD 8 Z (fM (RdC.right mm [_,_]) aa Z Z Z)<|wD 9 Z (aJ Z)<|wD 10 Z (aF aa sz3 Z Z (RdC.right co [_,_]))<|wD 11 Z (aU au Z Z (RdC.right co [_,_]))<|wD 12 Z (aF aa sz3 Z Z (rdr 1 Z)) ?_;refine wD 13 Z (aU au Z Z (rdr 1 Z))<|wD 14 Z (aJ Z)<|wD 15 Z (aF aa sz3 Z Z (rdr 0 Z))<|qD 16 Z cA (bG 0 Z sz3 Z Z) ?_;rintro _ _ rfl;refine⟨.inl cA,?_⟩;refine wN<|aK<|wm Z<|wm Z<|wy (aG Z)<|wy (yF 0 0 pg fV Z)<|wy (fM (RdC.right mm [_,_]) aa Z Z Z)<|wm Z<|wy (aF aa sz3 Z Z (RdC.right co [_,_]))<|wy (aU au Z Z (RdC.right co [_,_]))<|wy (aF aa sz3 Z Z (rdr 1 Z))<|wy (aU au Z Z (rdr 1 Z))<|wA Z Z<|wy (aF aa sz3 Z Z (rdr 1 Z))<|dC (bG 1 Z sz3 Z Z) ?_;rintro _ _ rfl;refine aA ?_;exact⟨Z,Z⟩
theorem aUh {B:Nat} {w0:World} {R:List Row} {xd:Nat} {dg zj n5 mv:AF} {dd zp n9 mw:Nat} {s l:AH} {k:Int} {row:AH} (mm:RdC B w0 R (GG xd) 1 1 4 [sl dg s.length dd,sl zj s.length zp,sl n5 k.toNat n9,sl mv s.length mw]) (co:RdC B w0 R dg s.length dd 1 (ints .i64 s)) (j7:RdC B w0 R zj s.length zp 1 (bools (smL s))) (Nr:RdC B w0 R n5 k.toNat n9 1 (ints .i64 (eF s k))) (hk:0<=k/\k<=1048576) (hs: ∀x∈s,0<=x/\x<k) (hN:s.length<=1000000) (hp:l.Perm (bP s)) (hn:0<s.length) (im:row=(itF s k l).1):
  CT 319 #[PG xd] B w0 ((ri 3 mv s.length mw row)::R) (λv R'=>v= .tuple #[]/\R'=(ri 3 mv s.length mw ((itL s k l s.length).1))::R):=by
 refine fn0 Tryz.func319 Z Z Z ?_;have kt:(eF s k).length=k.toNat:=dY _ _;have Hi:(eF s k).sum=s.length:=aJp hk.1 hs;have Kq:(dD (eF s k)).length=k.toNat:=by rw[fH,kt]
 obtain⟨f1,f2,f3,f4,f5,f6⟩:=fL0 hk.1 hs hp hn im (rfl:dD (eF s k)=_);refine wq<|wm Z<|wy (aG Z)<|wy (yF 2 2 pg fV Z)<|wy (fM (RdC.right mm [_]) aa Z Z Z)<|wa (aC aJg Z (Ct.fresh (λw hw=>xZ ((RdC.right Nr [_]) w hw) (mP _ _) (by rw[Hi];omega) (by rw[kt];omega)))) ?_;rintro _ _⟨_,rfl,cg,ce,rfl,rfl⟩;refine wn Z<|wq<|wm Z<|wm Z<|wm Z<|wy (aG Z)<|wy (yF 0 0 pg fV Z)<|wy (fM (RdC.right mm [_,_]) aa Z Z Z)<|wy (aL aa Z)<|wS Z Z<|bT (R1:=((ri 3 mv s.length mw row)::(ri 3 cg ((dD (eF s k)).length) ce (dD (eF s k)))::R)) (Sub.refl _) (λ_ h=>h.selR (F:=[_,_]) (F':=[_,_]) [1,0] cC Z)<|wa (aC bDz Z (aIo (row:=row) (E:=(dD (eF s k))) (j:=((s.length:Int)-1)) (RdC.right mm []) (RdC.right co []) hk hN ⟨G,G⟩ f1 ⟨f3.1,f3.2,by rw[fH,kt]⟩ f2)) ?_;rintro _ _⟨rfl,rfl⟩;refine aA<|wq<|wm Z<|wy (aG Z)<|wy (yF 3 3 pg fV Z)<|wy (fM (RdC.right mm [_,_]) aa Z Z Z)<|wy (aL aa Z)<|wm Z<|aA<|aH ?_;refine gN (λ(i:Int) (D:AH) (H:AH)=>[(0,PG xd),(2,sl cg ((dD (eF s k)).length) ce),(23,I (s.length:Int)),(24,I i)]) (λi D H=>((ri 3 mv s.length mw D)::(ri 3 cg ((dD (eF s k)).length) ce H)::R)) (λi D H=>(0<=i)/\(i<=s.length)/\(D=(itL s k l i.toNat).1)/\(H=(itL s k l i.toNat).2)) (λi D H=>(s.length-i).toNat) ?_ ?_
 ·exact⟨0,upd row (rd (dD (eF s k)) (rd s ((s.length:Int)-1))) ((s.length:Int)-1),upd (dD (eF s k)) (rd s ((s.length:Int)-1)) ((rd (dD (eF s k)) (rd s ((s.length:Int)-1)))+1),⟨G,G,(f4),(f5)⟩,KP⟩
 intro i D H ⟨bb,gd,hD,hH⟩;refine wq<|wL Z Z<|aA<|aD<|bA Z (λba=> ?_) (λba=> ?_)
 ·have hf:=bHd hk.1 hs hp hn bb G hD hH;have Vt:=hf.1;refine aI<|aD<|aH<|wq<|wm Z<|wn Z<|wq<|wm Z<|wy (aG Z)<|wy (yF 3 3 pg fV Z)<|wy (fM (RdC.right mm [_,_]) aa Z Z Z)<|wm Z ?_;refine wy (aF aa sz3 Z Z (rdr 0 Z))<|wy (aU au Z Z (rdr 0 Z))<|wn Z<|wq<|wm Z<|wy (dA Z Z)<|wm Z<|bV 10 [(0,PG xd),(2,sl cg ((dD (eF s k)).length) ce),(4,I (rd D i)),(23,I (s.length:Int)),(24,I i),(46, .bool (decide ((0<(rd D i))/\(¬(rdb (smL s) ((rd D i)-1)=true)))))] ((ri 3 mv s.length mw D)::(ri 3 cg ((dD (eF s k)).length) ce H)::R) ?_ ?_
  ·refine bN 36 Z (λcj=> ?_) (λcj=> ?_)
   ·refine aB Z Z<|wm Z<|aB Z Z<|wy (aG Z)<|aB Z Z<|wy (yF 1 1 pg aQr Z)<|aB Z Z<|wy (fM (RdC.right mm [_,_]) pz Z Z Z)<|aB Z Z<|wm Z<|aB Z Z<|wS Z Z<|aB Z Z<|wy (aF pz sz4 Z Z (RdC.right j7 [_,_]))<|aB Z Z ?_;refine wy (GY za Z Z (RdC.right j7 [_,_]))<|aB Z Z<|wy (uH Z)<|wy (aS Z Z)<|aA ?_;exact KP
   ·refine aM Z Z Z Z<|aM Z Z Z Z<|aM Z Z Z Z<|aM Z Z Z Z<|aM Z Z Z Z<|aM Z Z Z Z<|aM Z Z Z Z<|aM Z Z Z Z<|aM Z Z Z Z<|wy (aO Z Z)<|aA ?_;exact KP
  refine aA<|bA Z (λfh=> ?_) (λfh=> ?_)
  ·obtain ⟨g1,g2,g3,g4,g5⟩:=fLZ hk.1 hs hp hn bb G hD hH fh;refine aK<|wm Z<|wm Z<|wm Z<|wS Z Z<|wa (aC bDz Z (aIo (row:=D) (E:=H) (j:=((rd D i)-1)) (RdC.right mm []) (RdC.right co []) hk hN ⟨G,G⟩ g2 ⟨hf.2.1,hf.2.2,by rw[fH,kt]⟩ g3)) ?_;rintro _ _⟨rfl,rfl⟩;refine aA<|aK<|wA Z Z<|wm Z<|aA ?_;exact⟨i+1,upd D (rd H (rd s ((rd D i)-1))) ((rd D i)-1),upd H (rd s ((rd D i)-1)) ((rd H (rd s ((rd D i)-1)))+1),⟨G,G,(g4),(g5)⟩,G,KP⟩
  ·have g4:=bNw hk.1 hs hp hn bb G hD hH fh;refine aI<|aK<|wA Z Z<|wm Z<|aA ?_;exact⟨i+1,D,H,⟨G,G,(g4.1),(g4.2)⟩,G,KP⟩
 ·refine aHi (R1:=((ri 3 mv s.length mw D)::R)) (Sub.refl _) (λ_ h=>h.selR (F:=[_,_]) (F':=[_]) [0] cC Z) ?_;have Pv:i.toNat=s.length:=G
  rw[Pv] at hD;subst hD;refine aR ?_;exact⟨Z,Z⟩
theorem bNe {s D:AH} {q:Int} (Ky:rd D q= -1\/(0<=rd D q/\rd D q<s.length)):(0<=rd D q/\rdb (smL s) (rd D q)=true)↔(0<=rd D q/\smB s (rd D q)=true):=by
 constructor<;>rintro⟨h1,h2⟩<;>refine⟨h1,?_⟩
 ·rwa[nC h1 G] at h2
 ·rwa[nC h1 G]
theorem bCo {s l D:AH} {k q:Int} (hk:0<=k) (hs: ∀x∈s,0<=x/\x<k) (hp:l.Perm (bP s)) (hn:0<s.length) (q0:0<=q) (hq:q<s.length) (hD:D=rM s (itL s k l s.length).1 q):rd D q= -1\/(0<=rd D q/\rd D q<s.length):=by
 rw[hD,VF q0 (mf _) q0 (by rw[JZ hk hs hp hn];omega)];exact bCn hk hs hp hn q0 hq
theorem aXf {s l D:AH} {k q:Int} (hk:0<=k) (hs: ∀x∈s,0<=x/\x<k) (hp:l.Perm (bP s)) (hn:0<s.length) (hq:(s.length:Int)<=q) (hD:D=rM s (itL s k l s.length).1 q):D=(itS s k l 0).1:=by
 rw[hD,aXg (by rw[JZ hk hs hp hn];exact hq)];rfl
theorem aLc {B:Nat} {w0:World} {R:List Row} {xd:Nat} {dg zj n5 mv:AF} {dd zp n9 mw:Nat} {s l:AH} {k:Int} (mm:RdC B w0 R (GG xd) 1 1 4 [sl dg s.length dd,sl zj s.length zp,sl n5 k.toNat n9,sl mv s.length mw]) (co:RdC B w0 R dg s.length dd 1 (ints .i64 s)) (j7:RdC B w0 R zj s.length zp 1 (bools (smL s))) (Nr:RdC B w0 R n5 k.toNat n9 1 (ints .i64 (eF s k))) (hk:0<=k/\k<=1048576) (hs: ∀x∈s,0<=x/\x<k) (hN:s.length<=1000000) (hp:l.Perm (bP s)) (hn:0<s.length):
  CT 320 #[PG xd] B w0 ((ri 3 mv s.length mw ((itL s k l s.length).1))::R) (λv R'=>v= .tuple #[]/\R'=(ri 3 mv s.length mw (rE s k l))::R):=by
 refine fn0 Tryz.func320 Z Z Z ?_;have s8:=JZ hk.1 hs hp hn;refine aD<|wq<|wm Z<|wy (aG Z)<|wy (yF 3 3 pg fV Z)<|wy (fM (RdC.right mm [_]) aa Z Z Z)<|wy (aL aa Z)<|wm Z<|aA<|aH ?_;refine dI (λ(q:Int) (D:AH)=>[(0,PG xd),(10,sl mv s.length mw),(11,I (s.length:Int)),(12,I q)]) (λq D=>((ri 3 mv s.length mw D)::R)) (λq D=>(0<=q)/\(q<=s.length)/\(D=rM s (itL s k l s.length).1 q)) (λq D=>(s.length-q).toNat) ?_ ?_
 ·exact⟨0,(itL s k l s.length).1,⟨G,G,(aOt.symm)⟩,KP⟩
 intro q D ⟨js,xa,hD⟩;refine wq<|wL Z Z<|aA<|aD<|bA Z (λba=> ?_) (λba=> ?_)
 ·have Vt:=bCo hk.1 hs hp hn js G hD;have Rv:D.length=s.length:=by rw[hD,aBs,JZ hk.1 hs hp hn]
  refine aI<|aD<|aH<|wq<|wm Z<|wy (aF aa sz3 Z Z (rdr 0 Z))<|wy (aU au Z Z (rdr 0 Z))<|wg Z<|wn Z<|wq<|wm Z<|wy (iD Z Z) ?_;refine wm Z<|bV 8 [(0,PG xd),(2,I q),(10,sl mv s.length mw),(11,I (s.length:Int)),(12,I q),(27, .bool (decide ((0<=(rd D q))/\(rdb (smL s) (rd D q)=true))))] ((ri 3 mv s.length mw D)::R) ?_ ?_
  ·refine bN 19 Z (λcj=> ?_) (λcj=> ?_)
   ·refine aB Z Z<|wm Z<|aB Z Z<|wy (aG Z)<|aB Z Z<|wy (yF 1 1 pg aQr Z)<|aB Z Z<|wy (fM (RdC.right mm [_]) pz Z Z Z)<|aB Z Z<|wm Z<|aB Z Z<|wy (aF pz sz4 Z Z (RdC.right j7 [_]))<|aB Z Z<|wy (GY za Z Z (RdC.right j7 [_]))<|wy (aS Z Z) ?_;refine aA ?_;exact KP
   ·refine aM Z Z Z Z<|aM Z Z Z Z<|aM Z Z Z Z<|aM Z Z Z Z<|aM Z Z Z Z<|aM Z Z Z Z<|aM Z Z Z Z<|wy (aO Z Z)<|aA ?_;exact KP
  refine aA<|bA Z (λfh=> ?_) (λfh=> ?_)
  ·refine aK<|wm Z<|wy (aG Z)<|wy (yF 3 3 pg fV Z)<|wy (fM (RdC.right mm [_]) aa Z Z Z)<|wm Z<|wy (aF aa sz3 Z Z (rdr 0 Z))<|dC (bG 0 Z sz3 Z Z) ?_;rintro _ _ rfl;refine aA<|aK<|wA Z Z<|wm Z<|aA ?_;exact⟨q+1,upd D q (-1),⟨G,G,(by rw[hD];exact bCm js G (by rw[<-hD];exact(bNe Vt).1 fh))⟩,G,KP⟩
  ·refine aI<|aK<|wA Z Z<|wm Z<|aA ?_;exact⟨q+1,D,⟨G,G,(by rw[hD];exact bHo js G (by rw[<-hD];exact λh=>fh ((bNe Vt).2 h)))⟩,G,KP⟩
 ·have hD0:=aXf hk.1 hs hp hn G hD;refine aR<|wq<|wm Z<|wa (aC bEc Z (aJb (RdC.right mm [_]) (RdC.right Nr [_]) hk hs hN)) ?_;rintro _ _⟨cg,ce,rfl,rfl⟩;refine wn Z<|wq<|wm Z<|wy (aG Z)<|wy (yF 3 3 pg fV Z)<|wy (fM (RdC.right mm [_,_]) aa Z Z Z)<|wy (aL aa Z)<|wS Z Z<|wn Z<|aH ?_;refine gN (λ(i:Int) (D:AH) (H:AH)=>[(0,PG xd),(4,sl cg k.toNat ce),(5,I i)]) (λi D H=>((ri 3 cg k.toNat ce H)::(ri 3 mv s.length mw D)::R)) (λi D H=>(-1<=i)/\(i<s.length)/\(D=(itS s k l (s.length-1-i).toNat).1)/\(H=(itS s k l (s.length-1-i).toNat).2)) (λi D H=>(i+1).toNat) ?_ ?_
  ·exact⟨(s.length:Int)-1,D,rG (eF s k),⟨G,G,(by rw[show((s.length:Int)-1-((s.length:Int)-1)).toNat=0 by omega];exact hD0),(by rw[show((s.length:Int)-1-((s.length:Int)-1)).toNat=0 by omega];rfl)⟩,KP⟩
  intro i D H ⟨bb,gd,hD,hH⟩;refine aD<|wq<|wm Z<|wy (iD Z Z)<|aA<|bA Z (λjj=> ?_) (λjj=> ?_)
  ·have hf:=bHc hk.1 hs hp hn G G hD hH;have Vt:=hf.1;refine aI<|aD<|aH<|wq<|wm Z<|wy (aG Z)<|wy (yF 3 3 pg fV Z)<|wy (fM (RdC.right mm [_,_]) aa Z Z Z)<|wm Z<|wy (aF aa sz3 Z Z (rdr 1 Z))<|wy (aU au Z Z (rdr 1 Z))<|wn Z<|aD ?_;refine aK<|wm Z<|wy (dA Z Z)<|wm Z<|bV 9 [(0,PG xd),(4,sl cg k.toNat ce),(5,I i),(6,I (rd D i)),(65, .bool (decide ((0<(rd D i))/\(rdb (smL s) ((rd D i)-1)=true))))] ((ri 3 cg k.toNat ce H)::(ri 3 mv s.length mw D)::R) ?_ ?_
   ·refine bN 56 Z (λkb=> ?_) (λkb=> ?_)
    ·refine aB Z Z<|wm Z<|aB Z Z<|wy (aG Z)<|aB Z Z<|wy (yF 1 1 pg aQr Z)<|aB Z Z<|wy (fM (RdC.right mm [_,_]) pz Z Z Z)<|aB Z Z<|wm Z<|aB Z Z<|wS Z Z<|aB Z Z<|wy (aF pz sz4 Z Z (RdC.right j7 [_,_]))<|aB Z Z ?_;refine wy (GY za Z Z (RdC.right j7 [_,_]))<|wy (aS Z Z)<|aA ?_;exact KP
    ·refine aM Z Z Z Z<|aM Z Z Z Z<|aM Z Z Z Z<|aM Z Z Z Z<|aM Z Z Z Z<|aM Z Z Z Z<|aM Z Z Z Z<|aM Z Z Z Z<|wy (aO Z Z)<|aA ?_;exact KP
   refine aA<|bA Z (λwv=> ?_) (λwv=> ?_)
   ·obtain ⟨g1,g2,g3,g4,g5⟩:=fSZ hk.1 hs hp hn G G hD hH wv;refine aK<|wm Z<|wm Z<|wm Z<|wS Z Z<|bT (R1:=((ri 3 mv s.length mw D)::(ri 3 cg k.toNat ce H)::R)) (Sub.refl _) (λ_ h=>h.selR (F:=[_,_]) (F':=[_,_]) [1,0] cC Z)<|wa (aC bEb Z (aUg (row:=D) (E:=H) (j:=((rd D i)-1)) (RdC.right mm []) (RdC.right co []) hk hN ⟨G,G⟩ g2 ⟨hf.2.1,hf.2.2,rfl⟩ g3)) ?_;rintro _ _⟨rfl,rfl⟩;refine aA<|aK<|wm Z<|wS Z Z<|wn Z ?_;exact⟨i-1,upd D ((rd H (rd s ((rd D i)-1)))-1) ((rd D i)-1),upd H (rd s ((rd D i)-1)) ((rd H (rd s ((rd D i)-1)))-1),⟨G,G,(g4),(g5)⟩,G,SA,λ_ h=>h.selR (F:=[_,_]) (F':=[_,_]) [1,0] cC Z⟩
   ·have g4:=bNv hk.1 hs hp hn G G hD hH wv;refine aI<|aK<|wm Z<|wS Z Z<|wn Z ?_;exact⟨i-1,D,H,⟨G,G,(g4.1),(g4.2)⟩,G,KP⟩
  ·refine aHi (R1:=((ri 3 mv s.length mw D)::R)) (Sub.refl _) (λ_ h=>h.selR (F:=[_,_]) (F':=[_]) [1] cC Z) ?_;have Pv:((s.length:Int)-1-i).toNat=s.length:=G
   rw[Pv] at hD;subst hD;refine aR ?_;exact⟨Z,Z⟩
theorem aAi (s:AH):(bP s).Pairwise (· <= ·):=by
 unfold bP iota;exact((ik.2 (List.pairwise_lt_range.imp λh=>G)).sublist uj)
theorem aLa {s l:AH}:lK l=bP s↔l.Perm (bP s):=by
 constructor
 ·intro h;rw[<-h];exact(mH l).symm
 ·intro h;exact((mH l).trans h).eq_of_pairwise (λa b _ _ h1 h2=>Int.le_antisymm h1 h2) (BO l) (aAi s)
theorem fFZ {s l D H:AH} {k:Int} (hk:0<=k) (hs: ∀x∈s,0<=x/\x<k) (hp:l.Perm (bP s)) {m:Nat} (hm:m<l.length) (hr:D=(itF s k (l.drop (l.length-m))).1) (hE:H=(itF s k (l.drop (l.length-m))).2):
  (0<=rd l ((l.length-1-m:Nat):Int)/\rd l ((l.length-1-m:Nat):Int)<s.length)/\(0<=rd s (rd l ((l.length-1-m:Nat):Int))/\rd s (rd l ((l.length-1-m:Nat):Int))<k)/\(0<=rd H (rd s (rd l ((l.length-1-m:Nat):Int)))-1/\rd H (rd s (rd l ((l.length-1-m:Nat):Int)))-1<s.length)/\(D.length=s.length/\H.length=k.toNat)/\
  upd D (rd H (rd s (rd l ((l.length-1-m:Nat):Int)))-1) (rd l ((l.length-1-m:Nat):Int))=(itF s k (l.drop (l.length-(m+1)))).1/\upd H (rd s (rd l ((l.length-1-m:Nat):Int))) (rd H (rd s (rd l ((l.length-1-m:Nat):Int)))-1)=(itF s k (l.drop (l.length-(m+1)))).2:=by
 have e:l.length-1-m+1=l.length-m:=G
 have h:=fF (row:=D) (E:=H) hk hs hp (m:=l.length-1-m) G (by rw[e];exact hr) (by rw[e];exact hE);rwa[show l.length-(m+1)=l.length-1-m by omega]
theorem aFj {s l:AH} (hp:l.Perm (bP s)):l.length<=s.length:=by rw[hp.length_eq];exact NQ
theorem aHp {w:World} {dg:AF} {iz dd:Nat} {s:AH} {k:Int} {me:AF} {pk mn:Nat} {l:AH} (co:Rd w dg iz dd 1 (ints .i64 s)) (kp:Rd w me pk mn 1 (ints .i64 l)) (dr:(0<=k/\k<=1048576)/\ ∀x∈s,0<=x/\x<k) (hp:l.Perm (bP s)) (hN:s.length<=1000000):
  CF 291 #[sl dg iz dd,I k,sl me pk mn] w (λv R'=> ∃A c,v= .tuple #[sl A s.length c,bt]/\R'=[(ri 3 A s.length c (rE s k l))]):=by
 obtain rfl:=co.lenI;obtain rfl:=kp.lenI;refine fnV Tryz.func291 Z Z ?_;have b6:=co.max;have Pk:=kp.max;have hk:=dr.1;have hs:=dr.2;have ur:=aFj hp;have kt:(eF s k).length=k.toNat:=dY _ _;refine eP ?_;refine aK<|wg Z<|wn Z ?_;refine eP ?_;refine aK<|wm Z<|wm Z<|wa (aC aAz Z (Ct.fresh (λw hw=>pU ((co.c _) w hw) cE))) ?_;rintro _ _⟨_,rfl,cg,ce,rfl,rfl⟩;refine wm Z<|wX Z Z<|wX Z Z<|wg Z<|wn Z ?_;refine eP ?_;refine aK<|wm Z<|wa (aC bEd Z (QL)) ?_;rintro _ _⟨fi,rfl,rfl⟩;refine wa (aC bEe Z (Ct.fresh (λw hw=>QZ ((kp.c _) w hw) ((rdr 0 Z) w hw) G))) ?_;rintro _ _⟨_,rfl,fm,kx,rfl,rfl⟩;refine wn Z ?_;refine eP ?_;refine wq<|wm Z<|wy (dW Z)<|wm Z<|aB Z Z<|wm Z<|aB Z Z<|wm Z<|aB Z Z<|wa (aC bEi Z (Ct.fresh (λw hw=>aAk ((co.c _) w hw) cE))) ?_;rintro _ _⟨_,rfl,kd,mu,rfl,rfl⟩;refine aB Z Z<|wa (aC bJe Z (Ct.quiet (λw hw=>TB ((rdr 1 Z) w hw) ((rdr 0 Z) w hw) (by rw[(mH l).length_eq];omega)))) ?_;rintro _ _⟨rfl,rfl⟩;refine mW 30 Z (aLa.2 hp)<|aB Z Z<|wy (dW Z)<|wy (aO Z Z)<|aA<|aP Z<|aI ?_;refine eP ?_;refine wq<|wm Z<|wy (aL aa Z)<|wy (fD Z Z)<|aA<|bA Z (λba=> ?_) (λba=> ?_)
 ·refine wq<|wa (bH .i64 [] aa zs3 Z Z Z) ?_;rintro _ _⟨iu,rfl,rfl⟩;refine wg Z<|wn Z<|aT [0] 99 cC Z ?_;refine aNq Z Gd.refl ⟨_,_,Z,Z,?_⟩;have e:s=[]:=dw G;subst e;rw[aAd hp];exact⟨_,_,Z,Z⟩
 ·have hn:0<s.length:=G
  refine aI ?_;refine eP ?_;refine aK<|wm Z<|wm Z<|wa (aC bEf Z (Ct.fresh (λw hw=>YH ((co.c _) w hw) cE))) ?_;rintro _ _⟨_,rfl,fa,fc,rfl,rfl⟩;refine wm Z<|wa (bH .i64 [-1] aa zs3 Z Z Z) ?_;rintro _ _⟨j5,rfl,rfl⟩;refine wm Z<|wy (aL aa Z)<|wa (aC bJu Z (Ct.fresh (λw hw=>aDz ((rdr 0 Z) w hw) Z Z ⟨G,G⟩))) ?_;rintro _ _⟨_,rfl,dj,dp,rfl,rfl⟩;refine wy (gX (v:= .agg #[sl dg s.length dd,sl fa s.length fc,sl cg ((k).toNat) ce,sl dj s.length dp]) Z (λw=>cA))<|wa (cB (sz:=4) rfl rfl) ?_;rintro _ _⟨wj,rfl,rfl⟩;refine wa (kF (sz:=1) bIh Z) ?_;rintro _ _⟨gi,rfl,rfl⟩;refine dC (bE 0 Z Z Z bIw Z Z Z Z (ak Z)) ?_;rintro _ _ rfl;refine aA ?_;refine eP ?_;refine aK<|wy (yL 0 Ef Z Z Z)<|wa (aC bEc Z (aJb (rdr 1 Z) (rdr 8 Z) hk hs hN)) ?_;rintro _ _⟨gs,gw,rfl,rfl⟩;refine wa (kF (sz:=1) bNk Z) ?_;rintro _ _⟨wk,rfl,rfl⟩;refine dC (bE 0 Z Z Z fV Z Z Z Z (ak Z)) ?_;rintro _ _ rfl;refine aA ?_;refine XN ?_;refine eP ?_;refine aK<|wm Z<|wa (aC bEr Z (aCd)) ?_;rintro _ _⟨d4,rfl,rfl⟩;refine aA ?_;refine BF ?_;refine aQe Z bEl (OX (A:=me) (c:=mn) (zs:=l) G) Z (λ_=>Z) Gd.refl (λ(kr:Nat) (D:AH) (H:AH)=>[(rc 52 1 d4 [sl me l.length mn]),(rc 52 1 wk [sl gs k.toNat gw]),(ri 3 gs k.toNat gw H),(rc 350 1 gi [PG wj]),(rc 352 4 wj [sl dg s.length dd,sl fa s.length fc,sl cg ((k).toNat) ce,sl dj s.length dp]),(ri 3 dj s.length dp D),(ri 3 (GG j5) 1 1 ([-1])),⟨4,1,fa,s.length,fc,bools (smL s),false⟩,(ri 3 kd ((bP s).length) mu (bP s)),(ri 3 fm ((lK l).length) kx (lK l)),(rc 52 1 fi [sl me l.length mn]),(ri 3 cg ((k).toNat) ce (eF s k))]) (λkr D H=>(D=(itF s k (l.drop (l.length-kr))).1)/\(H=(itF s k (l.drop (l.length-kr))).2)) ?_ ?_ ?_ ?_
  ·exact⟨List.replicate s.length ((-1):Int),rG (eF s k),⟨(by rw[yz,Ib];rfl),(by rw[yz,Ib];rfl)⟩,λ_ h=>h⟩
  ·intro kr D H w ⟨hD,hH⟩ hw;exact⟨(rdr 0 Z) w hw,(kp.c _) w hw⟩
  ·intro lr kr D H WW2 Lc ⟨hD,hH⟩ Yc;obtain⟨f1,f2,f3,f4,f5,f6⟩:=fFZ hk.1 hs hp Lc hD hH;refine aK<|wn Z ?_;intro Ww l3;refine aH<|aK<|wy (yL 3 Ef Z Z Z)<|wy (yL 1 aa Z Z Z)<|wm Z<|bT (R1:=[(ri 3 dj s.length dp D),(ri 3 gs k.toNat gw H),(rc 52 1 d4 [sl me l.length mn]),(rc 52 1 wk [sl gs k.toNat gw]),(rc 350 1 gi [PG wj]),(rc 352 4 wj [sl dg s.length dd,sl fa s.length fc,sl cg ((k).toNat) ce,sl dj s.length dp]),(ri 3 (GG j5) 1 1 ([-1])),⟨4,1,fa,s.length,fc,bools (smL s),false⟩,(ri 3 kd ((bP s).length) mu (bP s)),(ri 3 fm ((lK l).length) kx (lK l)),(rc 52 1 fi [sl me l.length mn]),(ri 3 cg ((k).toNat) ce (eF s k))]) (Sub.refl _) (λ_ h=>h.sel [5,2,0,1,3,4,6,7,8,9,10,11] cC Z)<|wa (aC bEb Z (aUg (row:=D) (E:=H) (j:=(rd l ((l.length-1-kr:Nat):Int))) (rdr 3 Z) (co.cb l3 _) hk hN f1 f2 ⟨f4.1,f4.2,Z⟩ f3)) ?_;rintro _ _⟨rfl,rfl⟩;refine aA ?_;exact⟨upd D ((rd H (rd s (rd l ((l.length-1-kr:Nat):Int))))-1) (rd l ((l.length-1-kr:Nat):Int)),upd H (rd s (rd l ((l.length-1-kr:Nat):Int))) ((rd H (rd s (rd l ((l.length-1-kr:Nat):Int))))-1),⟨(f5),(f6)⟩,λ_=>λ_ h=>h.sel [2,3,1,4,5,0,6,7,8,9,10,11] cC Z⟩
  intro WW25 DW2 D H ⟨hD,hH⟩ Mc Rz;rw[Dj,Fx] at hD;refine XO ?_;refine aQf ?_;refine v_w ?_;refine wq<|wy (yL 3 Ef Z Z Z)<|bT (R1:=[(ri 3 dj s.length dp D),(rc 52 1 d4 [sl me l.length mn]),(rc 52 1 wk [sl gs k.toNat gw]),(ri 3 gs k.toNat gw H),(rc 350 1 gi [PG wj]),(rc 352 4 wj [sl dg s.length dd,sl fa s.length fc,sl cg ((k).toNat) ce,sl dj s.length dp]),(ri 3 (GG j5) 1 1 ([-1])),⟨4,1,fa,s.length,fc,bools (smL s),false⟩,(ri 3 kd ((bP s).length) mu (bP s)),(ri 3 fm ((lK l).length) kx (lK l)),(rc 52 1 fi [sl me l.length mn]),(ri 3 cg ((k).toNat) ce (eF s k))]) (Sub.refl _) (λ_ h=>h.sel [5,0,1,2,3,4,6,7,8,9,10,11] cC Z)<|wa (aC bJt Z (aUh (row:=D) (rdr 4 Z) (co.cb Mc _) (rdr 6 Z) (rdr 10 Z) hk hs hN hp hn hD)) ?_;rintro _ _⟨rfl,rfl⟩;refine aA<|wq<|wy (yL 4 Ef Z Z Z)<|wa (aC bJs Z (aLc (rdr 4 Z) (co.cb Mc _) (rdr 6 Z) (rdr 10 Z) hk hs hN hp hn)) ?_;rintro _ _⟨rfl,rfl⟩;refine aA<|wq<|wy (yL 4 Ef Z Z Z)<|wy (aG Z)<|wy (yF 3 3 pg fV Z)<|wy (yL 5 aa Z Z Z)<|wg Z<|wn Z<|aT [0] 99 cC Z ?_;refine aNq Z Rz ⟨_,_,Z,Z,?_⟩;exact⟨_,_,Z,Z⟩
end Go.Proofs.YtdbebmmhdefgdaaGreat
namespace Go.Eng
open Go Go.RowKit
section
variable {P:Program} {n:Nd} {B:Nat} {w0:World} {ops:Array Oper} {K:Env->List Row->Prop} {L:Env} {R Rc:List Row} {op:Op} {ty:TypeId} {pos:String} {ob:Array Edge}
def WDc (P:Program) (n:Nd) (B:Nat) (w0:World) (ops:Array Oper) (K:Env->List Row->Prop) (bm:Nat) (ab:AI) (L:Env) (R Rc:List Row):Prop:=
 ∀a w (Q:Exit->Act->World->Prop),Sat n L a->Hp B w0 w R->(∀w,Hp B w0 w R->Hp B w0 w Rc)->(∀c a w,¬Q (.panic c) a w)->(∀a' w' L' R',Sat n L' a'->Hp B w0 w' R'->K L' R'->Q .normal a' w')->vQ P ops Q bm (λw=>Hp B w0 w Rc) ab a w
def aCj (P:Program) (n:Nd) (B:Nat) (w0:World) (ops:Array Oper) (K:Env->List Row->Prop) (bm:Nat) (ab:AI) (L:Env) (R Rc:List Row) (i:Nat):Prop:=
 ∀a w (Q:Exit->Act->World->Prop),Sat n L a->Hp B w0 w R->(∀w,Hp B w0 w R->Hp B w0 w Rc)->(∀c a w,¬Q (.panic c) a w)->(∀a' w' L' R',Sat n L' a'->Hp B w0 w' R'->K L' R'->Q .normal a' w')->
  wpOp P ops Q i (λa' w'=> ∃S':World->Prop,S' w'/\(OW ops ab i=true\/ ∀x,S' x->Hp B w0 x Rc)/\vQ P ops Q bm S' (ab.setIfInBounds i true) a' w') a w
theorem bNo {bm:Nat} {ab:AI} (h:WDc P n B w0 ops K bm ab L R R):WD P n B w0 ops K bm ab L R:=
 λa w Q hs hp km hq=>h a w Q hs hp (λ_ h=>h) km hq
theorem jI {d:Nat} {v:Value} {bm:Nat} {ab:AI} (i:Nat) (hi:ops[i]? =some {dst:=some d,op:=op,type:=ty,pos:=pos,after:=ob,guard:=none}) (hc:chk ops ab i=true) (hn:Nat.blt d n=true)
  (hy:Yl P n B w0 op ty L Rc v) (h:WDc P n B w0 ops K bm (ab.setIfInBounds i true) ((d,v)::L) R Rc):WDc P n B w0 ops K (bm+1) ab L R Rc:=by
 intro a w Q hs hp vi km hq;simp only[chk,qi] at hc;obtain⟨⟨⟨h1,h2⟩,h3⟩,h4⟩:=hc;refine BB hi (Region.noSelect_spec h1) (λc a w hh=>(km c _ w hh).elim) bm _ ab a w h4 (Region.free_spec hi h2) (by simpa using h3) (.inl ⟨rfl,λw hw=>hy a w _ rfl rfl hs hw⟩) (vi w hp) ?_;exact h _ w Q (hs.put hn v) hp vi km hq
theorem xN {bm:Nat} {ab:AI} (hr:Region.ready .any ops ab=[]) (h:K L R):WDc P n B w0 ops K bm ab L R Rc:=by
 intro a w Q hs hp _ km hq;cases bm with
 |zero=>exact⟨hr,hq _ _ L R hs hp h⟩
 |succ bm=>exact⟨λ_=>hq _ _ L R hs hp h,by rw[hr];simp⟩
theorem qA {d:Nat} {Post:Value->List Row->Prop} {bm:Nat} {ab:AI} (i:Nat) (hi:ops[i]? =some {dst:=some d,op:=op,type:=ty,pos:=pos,after:=ob,guard:=none}) (hn:Nat.blt d n=true) (ha:Ac P n B w0 op ty L R Post)
  (h: ∀v R',Post v R'->(∀w,Hp B w0 w R'->Hp B w0 w Rc)/\WDc P n B w0 ops K bm (ab.setIfInBounds i true) ((d,v)::L) R' Rc):aCj P n B w0 ops K bm ab L R Rc i:=by
 intro a w Q hs hp vi km hq;unfold wpOp;simp only[hi];rw[di (by simp[Region.wanted])];refine .inl (ha a w _ _ Q rfl rfl hs hp λv w' R' da hv=> ?_);obtain⟨h1,h2⟩:=h v R' hv;exact⟨λw=>Hp B w0 w Rc,h1 w' da, .inr λ_ h=>h,h2 _ w' Q (hs.put hn v) da h1 km hq⟩
theorem bNg {Post:Value->List Row->Prop} {bm:Nat} {ab:AI} (i:Nat) (hi:ops[i]? =some {dst:=none,op:=op,type:=ty,pos:=pos,after:=ob,guard:=none}) (ha:Ac P n B w0 op ty L R Post)
  (h: ∀v R',Post v R'->(∀w,Hp B w0 w R'->Hp B w0 w Rc)/\WDc P n B w0 ops K bm (ab.setIfInBounds i true) L R' Rc):aCj P n B w0 ops K bm ab L R Rc i:=by
 intro a w Q hs hp vi km hq;unfold wpOp;simp only[hi];rw[di (by simp[Region.wanted])];refine .inl (ha a w _ _ Q rfl rfl hs hp λv w' R' da hv=> ?_);obtain⟨h1,h2⟩:=h v R' hv;exact⟨λw=>Hp B w0 w Rc,h1 w' da, .inr λ_ h=>h,h2 _ w' Q hs da h1 km hq⟩
theorem kD {bm:Nat} {ab:AI} (i:Nat) (hr:Region.ready .any ops ab=[i]) (hi:aCj P n B w0 ops K bm ab L R Rc i):WDc P n B w0 ops K (bm+1) ab L R Rc:=by
 intro a w Q hs hp vi km hq;refine⟨λh0=>absurd (hr▸h0) cD,λk hk=> ?_⟩;rw[hr] at hk;obtain rfl:=ic.1 hk;exact hi a w Q hs hp vi km hq
theorem WK {bm:Nat} {ab:AI} (i j:Nat) (hr:Region.ready .any ops ab=[i,j]) (hi:aCj P n B w0 ops K bm ab L R Rc i) (hj:aCj P n B w0 ops K bm ab L R Rc j):WDc P n B w0 ops K (bm+1) ab L R Rc:=by
 intro a w Q hs hp vi km hq;refine⟨λh0=>absurd (hr▸h0) cD,λk hk=> ?_⟩;rw[hr] at hk;rcases jc.1 hk with rfl|hk
 ·exact hi a w Q hs hp vi km hq
 ·obtain rfl:=ic.1 hk;exact hj a w Q hs hp vi km hq
theorem sI {bm:Nat} {ab:AI} {d:Nat} {u v:Value} (hu:u=v) (h:WDc P n B w0 ops K bm ab ((d,v)::L) R Rc):WDc P n B w0 ops K bm ab ((d,u)::L) R Rc:=by
 subst hu;exact h
end
end Go.Eng
namespace Go.Proofs.YtdbebmmhdefgdaaGreat
open Go Go.Eng Go.Pure
set_option maxRecDepth 100000
open Tryz
variable {w:World} {rp:AF} {vu rr:Nat} {a:AH}
theorem aUt (md:Rd w rp vu rr 1 (ints .i64 a)) (hp:a.Perm (iota a.length)) (hN:a.length<=1000000):
  CF 261 #[sl rp vu rr] w (λv R'=> ∃A c V,v= .tuple #[sl A a.length c,bt]/\R'=[(ri 3 A a.length c V)]):=by
 obtain rfl:=md.lenI;refine fn2 Tryz.func261 Z Z Z ?_;have Pj:=md.max;have hnd:a.Nodup:=hp.symm.nodup (eT _);refine wq<|wg Z<|wn Z<|wq<|wm Z<|wy (aL aa Z)<|wa (dM aa zb3 Z Z) ?_;rintro _ _⟨aq,rfl,rfl⟩;refine bC (v:=sl (GG aq) a.length a.length) Z<|wn Z<|aD<|wq<|wn Z<|aH ?_;refine dI (λ(q:Int) (D:AH)=>[(0,sl rp a.length rr),(4,sl (GG aq) a.length a.length),(5,I q)]) (λq D=>[(ri 3 (GG aq) a.length a.length D)]) (λq D=>(0<=q)/\(q<=a.length)/\(D.length=a.length)/\(∀j:Int,0<=j->j<q->rd D j= -1)) (λq D=>(a.length-q).toNat) ?_ ?_
 ·exact⟨0,List.replicate a.length (0:Int),⟨G,G,(by rw[dh]),(λj h1 h2=>G)⟩,KP⟩
 intro q D ⟨js,xa,Rv,hD⟩;refine aD<|wq<|wm Z<|wm Z<|wy (aL aa Z)<|wL Z Z<|aA<|bA Z (λba=> ?_) (λba=> ?_)
 ·refine aI<|aD<|aH<|aK<|wm Z<|wm Z<|wy (aF aa sz3 Z Z (rdr 0 Z))<|dC (bG 0 Z sz3 Z Z) ?_;rintro _ _ rfl;refine aA<|aK<|wm Z<|wA Z Z<|wn Z ?_;exact⟨q+1,upd D q (-1),⟨G,G,(by rw[aX];exact Rv),(fA (f:=λ_=> -1) js G hD Z)⟩,G,KP⟩
 ·refine aR<|aD<|wq<|wn Z<|aH ?_;refine dI (λ(i:Int) (D:AH)=>[(0,sl rp a.length rr),(4,sl (GG aq) a.length a.length),(6,I i)]) (λi D=>[(ri 3 (GG aq) a.length a.length D)]) (λi D=>(0<=i)/\(i<=a.length)/\(D.length=a.length)/\(∀x:Int,0<=x->x<a.length->0<=rd D x-> ∃q:Int,0<=q/\q<i/\rd a q=x)) (λi D=>(a.length-i).toNat) ?_ ?_
  ·exact⟨0,D,⟨G,G,(Rv),(λx h0 h1 h2=>by have:=hD x h0 G;omega)⟩,KP⟩
  intro i D ⟨bb,gd,Rv,hV⟩;refine aD<|wq<|wm Z<|wm Z<|wy (aL aa Z)<|wL Z Z<|aA<|bA Z (λcj=> ?_) (λcj=> ?_)
  ·have ha:=aZ.1 (hp.subset (bI (L:=a) bb G));refine aI<|aD<|aH<|aD<|wq<|wm Z<|wm Z<|wy (aF aa sz3 Z Z (md.c _))<|wy (aU au Z Z (md.c _))<|wy (Yl.f (eZ Z Z))<|wm Z<|aB Z Z<|wm Z<|aB Z Z ?_;refine wm Z<|aB Z Z<|wy (aF aa sz3 Z Z (md.c _))<|aB Z Z<|wy (aU au Z Z (md.c _))<|aB Z Z<|wm Z<|aB Z Z<|wy (aL aa Z)<|aB Z Z<|wy (Yl.f (iD Z Z))<|wy (aO Z Z)<|wm Z<|aB Z Z<|wm Z ?_
   refine aB Z Z<|wm Z<|aB Z Z<|wm Z<|aB Z Z<|wy (aF aa sz3 Z Z (md.c _))<|aB Z Z<|wy (aU au Z Z (md.c _))<|aB Z Z<|wy (aF aa sz3 Z Z (rdr 0 Z))<|aB Z Z<|wy (aU au Z Z (rdr 0 Z))<|aB Z Z<|wy (Yl.f (iD Z Z) (λh=>by
      obtain⟨q,q0,q1,e⟩:=hV _ ha.1 ha.2 h;have:=kK hnd q0 G bb G e
      omega)) ?_
   refine wy (aO Z Z)<|aA<|aP Z<|aI<|aK<|wm Z<|wm Z<|wm Z<|wy (aF aa sz3 Z Z (md.c _))<|wy (aU au Z Z (md.c _))<|wm Z<|wy (aF aa sz3 Z Z (rdr 0 Z))<|dC (bG 0 Z sz3 Z Z) ?_;rintro _ _ rfl;refine aA<|aK<|wm Z<|wA Z Z<|wn Z ?_
   exact⟨i+1,upd D (rd a i) i,⟨G,G,(by rw[aX];exact Rv),(λx x0 x1 hx=>by
     rw[gH ha.1 x0 G] at hx;by_cases e:x=rd a i
     ·exact⟨i,bb,G,e.symm⟩
     ·rw [df e] at hx;obtain⟨q,q0,q1,h⟩:=hV x x0 x1 hx
      exact⟨q,q0,G,h⟩)⟩,G,KP⟩
  ·refine aR<|wq<|wm Z<|wg Z<|wn Z<|aT [0] 99 cC Z ?_;refine⟨_,_,Z,Z,?_⟩;exact⟨_,_,_,Z,Z⟩
theorem bBk (md:Rd w rp vu rr 1 (ints .i64 a)) (hp:a.Perm (iota a.length)) (hN:a.length<=1000000):
  CF 215 #[sl rp vu rr] w (λv R'=>v=bt):=by
 obtain rfl:=md.lenI;refine fn1 Tryz.func215 Z Z Z ?_;have Pj:=md.max;refine wq<|wn Z<|wq<|wm Z<|wa (aC bKn Z (Ct.fresh (λw hw=>aUt ((md.c _) w hw) hp G))) ?_;rintro _ _⟨_,rfl,cg,ce,V_3,rfl,rfl⟩;refine wm Z<|wX Z Z<|wX Z Z<|wg Z<|wn Z<|wq<|wm Z<|wn Z<|aT [] 99 cC Z ?_;refine⟨_,Z,?_⟩;rfl
theorem yO {s l:AH} {k:Int} (hk:0<=k) (hs: ∀x∈s,0<=x/\x<k) (hp:l.Perm (bP s)):(rE s k l).length=s.length/\(rE s k l).Perm (iota s.length)/\(∀q:Int,0<=q->q+1<s.length->rd s (rd (rE s k l) q)<=rd s (rd (rE s k l) (q+1)))/\(l.Pairwise (bY s)->(rE s k l).Pairwise (bY s)):=by
 refine⟨aUx hk hs hp,?_⟩;rcases ek s.length with h|h
 ·have e:s=[]:=dw h;subst e;rw[aAd hp];exact⟨.refl _,λq h0 h1=>by simp at h1;omega,λ_=> .nil⟩
 ·exact aIu hk hs hp h
variable {w:World} {dg:AF} {iz dd:Nat} {s:AH} {k:Int}
theorem YZ {n7:AF} {Ka o0:Nat} {x:AH} {i:Int} (co:Rd w dg iz dd 1 (ints .i64 s)) (mm:Rd w n7 Ka o0 1 (ints .i64 x)) (hi:0<=i/\i<s.length) (hx:x.length=s.length) (u7:i<rd x i) (Ta:rd x i<=s.length) (hN:s.length<=1000000):
  CF 321 #[sl dg iz dd,sl n7 Ka o0,I i] w (λv R'=>v=sl (jH dg i.toNat dd 1) ((min (rd x i+1) (s.length:Int)).toNat-i.toNat) (dd-i.toNat)):=by
 obtain rfl:=co.lenI;obtain rfl:=mm.lenI;refine fn1 Tryz.func321 Z Z Z ?_;have b6:=co.max;have m_x:=mm.max;refine wq<|wn Z<|wq<|wm Z<|wm Z<|wm Z<|wm Z<|wy (aF aa sz3 Z Z (mm.c _))<|wy (aU au Z Z (mm.c _))<|wA Z Z<|wm Z<|wy (aL aa Z) ?_;refine wy (sW Z Z)<|wy (aHf aa sz3 Z Z Z (co.c _) G G G)<|wn Z<|bQ ?_;refine⟨_,Z,?_⟩;rfl
theorem aTo {Kg:AF} {n_f Kl:Nat} {f:AH} {b7:AF} {Pm b9:Nat} {o:AH} (co:Rd w dg iz dd 1 (ints .i64 s)) (Ma:Rd w Kg n_f Kl 1 (ints .i64 f)) (Vn:Rd w b7 Pm b9 1 (ints .i64 o)) (hs:Nn s) (hf:f=bP s) (To:o.Perm (iota s.length)) (hoo:o.Pairwise (pcS s)) (hN:s.length<=1000000):
  CF 292 #[sl dg iz dd,sl Kg n_f Kl,sl b7 Pm b9] w (λv R'=> ∃(nx nm:AH) (n la:Int) (A:AF) (c:Nat),v= .tuple #[sl A f.length c,I (n+1)]/\uE s nx (bP s).length/\AU s o nx s.length nm n la/\R'=[(ri 3 A f.length c (f.map (rd nm)))]):=by
 obtain rfl:=co.lenI;obtain rfl:=Ma.lenI;obtain rfl:=Vn.lenI;refine fn2 Tryz.func292 Z Z Z ?_;have b6:=co.max;have m_f:=Ma.max;have m_o:=Vn.max;have We:o.length=s.length:=by rw[To.length_eq,bD]
 have tx:f.length<=s.length:=by rw[hf];exact NQ
 refine wq<|wg Z<|wn Z<|wq<|wm Z<|wy (aL aa Z)<|wa (dM aa zb3 Z Z) ?_;rintro _ _⟨aq,rfl,rfl⟩;refine bC (v:=sl (GG aq) s.length s.length) Z<|wn Z<|aD<|wq<|wm Z<|wy (aL aa Z)<|wm Z<|aA<|aH ?_;refine dI (λ(i:Int) (V:AH)=>[(0,sl dg s.length dd),(1,sl Kg f.length Kl),(2,sl b7 o.length b9),(8,sl (GG aq) s.length s.length),(22,sl Kg f.length Kl),(23,I (f.length:Int)),(24,I i)]) (λi V=>[(ri 3 (GG aq) s.length s.length V)]) (λi V=>(0<=i)/\(i<=f.length)/\(uE s V i)) (λi V=>(f.length-i).toNat) ?_ ?_
 ·exact⟨0,List.replicate s.length (0:Int),⟨G,G,(bAo)⟩,KP⟩
 intro i V ⟨bb,gd,hV⟩;have ld:=hV.len;have hfi:i<f.length->0<=rd f i/\rd f i<s.length:=λh=>by subst hf;exact(pF bb h).1
 refine wq<|wL Z Z<|aA<|aD<|bA Z (λba=> ?_) (λba=> ?_)
 ·have hfi2:=hfi G;refine aI<|aD<|aH<|wq<|wm Z<|wy (aF aa sz3 Z Z (Ma.c _))<|wy (aU au Z Z (Ma.c _))<|wg Z<|wn Z<|wq<|wm Z<|wm Z ?_;refine wm Z<|wy (aL aa Z)<|wy (aF aa sz3 Z Z (rdr 0 Z))<|dC (bG 0 Z sz3 Z Z) ?_;rintro _ _ rfl;refine aA<|wq<|wm Z<|wA Z Z<|wm Z<|wy (aL aa Z)<|wL Z Z<|aA<|bA Z (λcj=> ?_) (λcj=> ?_)
  ·refine aK<|wm Z<|wm Z<|wm Z<|wm Z<|wA Z Z<|wy (aF aa sz3 Z Z (Ma.c _))<|wy (aU au Z Z (Ma.c _))<|wy (aF aa sz3 Z Z (rdr 0 Z))<|dC (bG 0 Z sz3 Z Z) ?_;rintro _ _ rfl;refine aA<|aK<|wA Z Z<|wm Z<|aA ?_;exact⟨i+1,upd (upd V (rd f i) (s.length:Int)) (rd f i) (rd f (i+1)),⟨G,G,(by subst hf;exact hV.step2 bb G G)⟩,G,KP⟩
  ·refine aI<|aK<|wA Z Z<|wm Z<|aA ?_;exact⟨i+1,upd V (rd f i) (s.length:Int),⟨G,G,(by subst hf;exact hV.step1 bb G G)⟩,G,KP⟩
 ·have Bk:uE s V (bP s).length:=by have e:i=(bP s).length:=(by rw[<-hf];omega);rw[<-e];exact hV
  refine aR<|wq<|wm Z<|wy (aL aa Z)<|wa (dM aa zb3 Z Z) ?_;rintro _ _⟨cy,rfl,rfl⟩;refine bC (v:=sl (GG cy) s.length s.length) Z<|wn Z<|wq<|wg Z<|wn Z<|aD<|wq<|wm Z<|wy (aL aa Z)<|wm Z<|aA ?_;refine aH ?_;refine JJ (λ(q:Int) (U:AH) (n:Int) (la:Int)=>[(0,sl dg s.length dd),(1,sl Kg f.length Kl),(8,sl (GG aq) s.length s.length),(11,sl (GG cy) s.length s.length),(12,I n),(13,I la),(51,sl b7 o.length b9),(52,I (o.length:Int)),(53,I q)]) (λq U n la=>[(ri 3 (GG cy) s.length s.length U),(ri 3 (GG aq) s.length s.length V)]) (λq U n la=>(0<=q)/\(q<=o.length)/\(AU s o V q U n la)) (λq U n la=>(o.length-q).toNat) ?_ ?_
  ·exact⟨0,List.replicate s.length (0:Int),0,-1,⟨G,G,(aTr)⟩,KP⟩
  intro q U n la ⟨js,xa,hM⟩;have Ax:=hM.len;have hMb:=hM.bd;have Fd:=hM.last_in To G
  have Vy:0<=la->la<s.length/\la<rd V la/\rd V la<=s.length:=λh=>by
   rcases Fd with e|⟨e,e2⟩
   ·omega
   ·have g:=Bk.nx e.1 e.2 e2;exact⟨e.2,g.gt,g.le⟩
  have Zl:q<o.length->0<=rd o q/\rd o q<s.length:=λh=>aZ.1 (To.subset (bI (L:=o) js h));have hoz:q<o.length->(rd V (rd o q)=0↔gL s (rd o q)=false):=λh=>Bk.zero (Zl h).1 (Zl h).2;refine wq<|wL Z Z<|aA<|aD<|bA Z (λfh=> ?_) (λfh=> ?_)
  ·have Li:=Zl G;have Tq:=hoz G;refine aI<|aD<|aH<|wq<|wy (aF aa sz3 Z Z (Vn.c _))<|wy (aU au Z Z (Vn.c _))<|wn Z<|aD<|wq<|wm Z<|wm Z<|wy (aF aa sz3 Z Z (rdr 1 Z)) ?_;refine wy (aU au Z Z (rdr 1 Z))<|wy (fD Z Z)<|aA<|bA Z (λjj=> ?_) (λjj=> ?_)
   ·have Ix:=Tq.1 jj;refine aR<|aK<|wA Z Z<|wm Z<|aA ?_;exact⟨q+1,U,n,la,⟨G,G,(hM.skip Ix)⟩,G,KP⟩
   ·have Ix:gL s (rd o q)=true:=by
     cases e:gL s (rd o q) with
     |true=>rfl
     |false=>exact absurd (Tq.2 e) jj
    have hgx:=Bk.nx Li.1 Li.2 Ix;have Ys:=hgx.gt;have Vu:=hgx.le;have hlm: -1<=la:=G
    refine aI<|aD<|wq<|wm Z<|wy (iD Z Z)<|wm Z<|bV 29 [(0,sl dg s.length dd),(1,sl Kg f.length Kl),(8,sl (GG aq) s.length s.length),(11,sl (GG cy) s.length s.length),(12,I n),(15,I (rd o q)),(51,sl b7 o.length b9),(52,I (o.length:Int)),(53,I q),(93, .bool (decide ((0<=la)/\((((rd V (rd o q))=(s.length:Int))\/((rd V la)=(s.length:Int)))\/(¬((((s).drop (la).toNat).take ((min (rd V la+1) (s.length:Int)).toNat-la.toNat))=(((s).drop (rd o q).toNat).take ((min (rd V (rd o q)+1) (s.length:Int)).toNat-(rd o q).toNat))))))))] [(ri 3 (GG cy) s.length s.length U),(ri 3 (GG aq) s.length s.length V)] ?_ ?_
    ·refine bN 64 Z (λkb=> ?_) (λkb=> ?_)
     ·refine aB Z Z<|wm Z<|aB Z Z<|wm Z<|aB Z Z<|wy (aF aa sz3 Z Z (rdr 1 Z))<|aB Z Z<|wy (aU au Z Z (rdr 1 Z))<|aB Z Z<|wm Z<|aB Z Z<|wy (aL aa Z)<|aB Z Z<|wy (fD Z Z)<|aB Z Z ?_;refine wm Z<|bV 8 [(0,sl dg s.length dd),(1,sl Kg f.length Kl),(8,sl (GG aq) s.length s.length),(11,sl (GG cy) s.length s.length),(12,I n),(13,I la),(15,I (rd o q)),(51,sl b7 o.length b9),(52,I (o.length:Int)),(53,I q),(64,bt),(80, .bool (decide (((rd V (rd o q))=(s.length:Int))\/((rd V la)=(s.length:Int)))))] [(ri 3 (GG cy) s.length s.length U),(ri 3 (GG aq) s.length s.length V)] ?_ ?_
      ·refine bN 72 Z (λwv=> ?_) (λwv=> ?_)
       ·refine aM Z Z Z Z<|aM Z Z Z Z<|aM Z Z Z Z<|aM Z Z Z Z<|aM Z Z Z Z<|aM Z Z Z Z<|aM Z Z Z Z<|aB Z Z<|wy (aS Z Z)<|aA ?_;exact KP
       ·refine aB Z Z<|wm Z<|aB Z Z<|wm Z<|aB Z Z<|wy (aF aa sz3 Z Z (rdr 1 Z))<|aB Z Z<|wy (aU au Z Z (rdr 1 Z))<|aB Z Z<|wm Z<|aB Z Z<|wy (aL aa Z)<|aB Z Z<|wy (fD Z Z)<|aB Z Z ?_;refine wy (aO Z Z)<|aA ?_;exact KP
      refine aB Z Z<|wm Z<|bV 11 [(0,sl dg s.length dd),(1,sl Kg f.length Kl),(8,sl (GG aq) s.length s.length),(11,sl (GG cy) s.length s.length),(12,I n),(15,I (rd o q)),(51,sl b7 o.length b9),(52,I (o.length:Int)),(53,I q),(64,bt),(92, .bool (decide ((((rd V (rd o q))=(s.length:Int))\/((rd V la)=(s.length:Int)))\/(¬((((s).drop (la).toNat).take ((min (rd V la+1) (s.length:Int)).toNat-la.toNat))=(((s).drop (rd o q).toNat).take ((min (rd V (rd o q)+1) (s.length:Int)).toNat-(rd o q).toNat)))))))] [(ri 3 (GG cy) s.length s.length U),(ri 3 (GG aq) s.length s.length V)] ?_ ?_
      ·refine bN 81 Z (λCl=> ?_) (λCl=> ?_)
       ·refine aM Z Z Z Z<|aM Z Z Z Z<|aM Z Z Z Z<|aM Z Z Z Z<|aM Z Z Z Z<|aM Z Z Z Z<|aM Z Z Z Z<|aM Z Z Z Z<|aM Z Z Z Z<|aM Z Z Z Z<|aB Z Z<|wy (aS Z Z)<|aA ?_;exact KP
       ·refine aB Z Z<|wm Z<|aB Z Z<|wm Z<|aB Z Z<|wm Z<|aB Z Z<|wa (aC bEa Z (Ct.quiet (λw hw=>YZ ((co.c _) w hw) ((rdr 1 Z) w hw) cE cE cE cE cE))) ?_;rintro _ _⟨rfl,rfl⟩;refine aB Z Z<|wm Z<|aB Z Z<|wm Z<|aB Z Z<|wm Z<|aB Z Z<|wa (aC bEa Z (Ct.quiet (λw hw=>YZ ((co.c _) w hw) ((rdr 1 Z) w hw) cE cE cE cE cE))) ?_;rintro _ _⟨rfl,rfl⟩;refine aB Z Z<|wa (aC bJe Z (Ct.quiet (λw hw=>TB ((RdC.cutI (co.c _) G G) w hw) ((RdC.cutI (co.c _) G G) w hw) (by rw[ax,az];omega)))) ?_;rintro _ _⟨rfl,rfl⟩;refine aB Z Z<|wy (uH Z)<|aB Z Z<|wy (aO Z Z)<|aA ?_;exact KP
      refine wy (aS Z Z)<|aA ?_;exact KP
     ·refine aM Z Z Z Z<|aM Z Z Z Z<|aM Z Z Z Z<|aM Z Z Z Z<|aM Z Z Z Z<|aM Z Z Z Z<|aM Z Z Z Z<|aM Z Z Z Z<|dQ Z Z Z<|dQ Z Z Z<|dQ Z Z Z<|dQ Z Z Z<|dQ Z Z Z<|dQ Z Z Z<|dQ Z Z Z ?_;refine aM Z Z Z Z<|aM Z Z Z Z<|dQ Z Z Z<|dQ Z Z Z<|dQ Z Z Z<|dQ Z Z Z<|dQ Z Z Z<|dQ Z Z Z<|dQ Z Z Z<|dQ Z Z Z<|dQ Z Z Z<|dQ Z Z Z<|aM Z Z Z Z<|wy (aO Z Z)<|aA ?_;exact KP
    refine aA<|bA Z (λSq=> ?_) (λSq=> ?_)
    ·have ge:=aTq (n:=n) Vy Li.1 Ys Vu Sq;refine aK<|wm Z<|wA Z Z<|wn Z<|aK<|wm Z<|wm Z<|wm Z<|wm Z<|wy (aF aa sz3 Z Z (rdr 0 Z))<|dC (bG 0 Z sz3 Z Z) ?_;rintro _ _ rfl;refine wn Z<|aK<|wA Z Z<|wm Z<|aA ?_;exact⟨q+1,upd U (rd o q) (n+1),n+1,rd o q,⟨G,G,(hM.step hs To hoo Bk js G Ix ge)⟩,G,KP⟩
    ·have ge:=aTp (n:=n) hlm Vy Li.1 Ys Vu Sq;refine aI<|aK<|wm Z<|wm Z<|wm Z<|wm Z<|wy (aF aa sz3 Z Z (rdr 0 Z))<|dC (bG 0 Z sz3 Z Z) ?_;rintro _ _ rfl;refine wn Z<|aK<|wA Z Z<|wm Z<|aA ?_;exact⟨q+1,upd U (rd o q) n,n,rd o q,⟨G,G,(hM.step hs To hoo Bk js G Ix ge)⟩,G,KP⟩
  ·refine aR<|wq<|bT (R1:=[(ri 3 none 0 0 ([])),(ri 3 (GG cy) s.length s.length U),(ri 3 (GG aq) s.length s.length V)]) (Sub.refl _) (λ_ h=>h.nil 3 1)<|wn Z<|aD<|wq<|wm Z<|wy (aL aa Z)<|wm Z<|aA<|aH ?_;refine eH (λ(A1:AF) (n1:Nat) (c1:Nat) (acc:AH) (j:Int)=>[(11,sl (GG cy) s.length s.length),(12,I n),(16,sl A1 n1 c1),(102,sl Kg f.length Kl),(103,I (f.length:Int)),(104,I j)]) (λA1 n1 c1 acc j=>[(ri 3 A1 n1 c1 acc),(ri 3 (GG cy) s.length s.length U),(ri 3 (GG aq) s.length s.length V)]) (λA1 n1 c1 acc j=>(n1=acc.length)/\(0<=j)/\(j<=f.length)/\(acc=(f.take j.toNat).map (rd U))) (λA1 n1 c1 acc j=>(f.length-j).toNat) ?_ ?_
   ·exact⟨none,0,0,[],0,⟨(Z),G,G,(Z)⟩,KP⟩
   intro A1 n1 c1 acc j ⟨cm,sf,l6,bc⟩;have qt:=bu List.length bc;rw[bq,ax] at qt;have hfj:j<f.length->0<=rd f j/\rd f j<s.length:=λh=>by subst hf;exact(pF sf h).1
   refine wq<|wL Z Z<|aA<|aD<|bA Z (λYk=> ?_) (λYk=> ?_)
   ·refine aI<|aD<|aH<|wq<|wy (aF aa sz3 Z Z (Ma.c _))<|wy (aU au Z Z (Ma.c _))<|wn Z<|aK<|wm Z<|wm Z<|wm Z<|wy (aF aa sz3 Z Z (rdr 1 Z))<|wy (aU au Z Z (rdr 1 Z)) ?_;refine wa (bH .i64 [rd U (rd f j)] aa zs3 Z Z Z) ?_;rintro _ _⟨fd,rfl,rfl⟩;refine wa (aQ 1 Z aa zb3 Z Z Z (rdr 0 Z)) ?_;rintro _ _⟨fm,kx,rfl,rfl⟩;refine bC (v:=sl fm (n1+1) kx) Z<|wn Z<|aK<|wA Z Z<|wm Z<|aA ?_;exact⟨fm,n1+1,kx,acc++([rd U (rd f j)]),j+1,⟨(by rw[ah,cm];try rfl),G,G,(by rw[dJ sf G,iv,bc];rfl)⟩,G,SA,λ_ h=>h.sel [1,2,3] cC Z⟩
   ·refine aR<|wq<|wm Z<|wm Z<|wA Z Z<|wg Z<|wn Z<|aT [0] 99 cC Z ?_;refine⟨_,_,Z,Z,?_⟩;have Sb:AU s o V s.length U n la:=by have e:q=s.length:=G;rw[<-e];exact hM
    rw[bi G] at bc;subst bc;obtain rfl:n1=f.length:=G
    exact⟨V,U,n,la,_,_,Z,Bk,Sb,Z⟩
theorem PN {w:World} {s:AH} (co:Rd w dg iz dd 1 (ints .i64 s)) (IH: ∀ {w:World} {nw:AF} {qu oe:Nat} {t:AH} {j:Int},Rd w nw qu oe 1 (ints .i64 t)->t.length<s.length->((0<=j/\j<=1048576)/\ ∀x∈t,0<=x/\x<j)->t.length<=1000000->CF 265 #[sl nw qu oe,I j] w (λv R'=> ∃(b:AH) (A:AF) (c:Nat),v=sl A t.length c/\b.Perm (iota t.length)/\b.Pairwise (bY t)/\R'=[(ri 3 A t.length c b)])) (dr:(0<=k/\k<=1048576)/\ ∀x∈s,0<=x/\x<k) (hN:s.length<=1000000):
  CF 265 #[sl dg iz dd,I k] w (λv R'=> ∃(b:AH) (A:AF) (c:Nat),v=sl A s.length c/\b.Perm (iota s.length)/\b.Pairwise (bY s)/\R'=[(ri 3 A s.length c b)]):=by
 obtain rfl:=co.lenI;refine fn1 Tryz.func265 Z Z Z ?_;have b6:=co.max;refine wq<|wn Z<|wq<|wm Z<|wa (aC bEi Z (Ct.fresh (λw hw=>aAk ((co.c _) w hw) cE))) ?_;rintro _ _⟨_,rfl,cg,ce,rfl,rfl⟩;refine wn Z<|wq<|wm Z<|wm Z<|wm Z<|wa (aC bEh Z (Ct.fresh (λw hw=>aHp ((co.c _) w hw) ((rdr 0 Z) w hw) dr (.refl _) hN))) ?_;rintro _ _⟨_,rfl,en,es,rfl,rfl⟩;refine wm Z<|wX Z Z<|wX Z Z<|wg Z<|wn Z<|aD<|wq<|wm Z<|wy (aL aa Z)<|wL Z Z<|aA<|bA Z (λba=> ?_) (λba=> ?_)
 ·refine wq<|wm Z<|wn Z<|aT [0] 99 cC Z ?_;exact⟨_,Z,_,_,_,Z,(yO dr.1.1 dr.2 (.refl _)).2.1,(yO dr.1.1 dr.2 (.refl _)).2.2.2 (aSp G),Z⟩
 ·have cm:0<s.length:=by have:=NQ (s:=s);omega
  have Tt:=aFg dr.1.1 dr.2 (l:=bP s) (.refl _) cm;have Mt:Nn s:=λx hx=>(dr.2 x hx).1;have Tk:=aNj cm;refine aI<|wq<|wm Z<|wm Z<|wm Z<|wa (aC bKa Z (Ct.fresh (λw hw=>aTo ((co.c _) w hw) ((rdr 1 Z) w hw) ((rdr 0 Z) w hw) Mt Z Tt.1 Tt.2 hN))) ?_;rintro _ _⟨_,rfl,nx,nm,n,la,gn,mj,rfl,hNx,Xt,rfl⟩;refine wm Z<|wX Z Z<|wX Z Z<|wg Z<|wn Z<|wq<|bT (R1:=[(ri 3 none 0 0 ([])),(ri 3 gn ((bP s).length) mj ((bP s).map (rd nm))),(ri 3 en ((s).length) es (rE s k (bP s))),(ri 3 cg ((bP s).length) ce (bP s))]) (Sub.refl _) (λ_ h=>h.nil 3 1)<|wn Z<|aD<|wq<|wm Z ?_;refine wm Z<|wa (aC bEk Z (Ct.fresh (λw hw=>IH ((rdr 1 Z) w hw) (by rw[bq];exact Tk) ⟨by have:=Xt.bd;omega,aTn Xt Tt.1⟩ (by rw[bq];omega)))) ?_;rintro _ _⟨_,rfl,b1,dv,br,rfl,dq,fg,rfl⟩;refine wy (aL aa Z)<|wm Z<|aA<|aH ?_;refine eH (λ(A1:AF) (n1:Nat) (c1:Nat) (acc:AH) (i:Int)=>[(0,sl dg s.length dd),(1,I k),(5,sl cg ((bP s).length) ce),(10,sl A1 n1 c1),(35,sl dv (((bP s).map (rd nm)).length) br),(36,I ((((bP s).map (rd nm)).length:Nat):Int)),(37,I i)]) (λA1 n1 c1 acc i=>[(ri 3 dv (((bP s).map (rd nm)).length) br b1),(ri 3 A1 n1 c1 acc),(ri 3 gn ((bP s).length) mj ((bP s).map (rd nm))),(ri 3 en ((s).length) es (rE s k (bP s))),(ri 3 cg ((bP s).length) ce (bP s))]) (λA1 n1 c1 acc i=>(n1=acc.length)/\(0<=i)/\(i<=b1.length)/\(acc=(b1.take i.toNat).map (rd (bP s)))) (λA1 n1 c1 acc i=>(b1.length-i).toNat) ?_ ?_
  ·exact⟨none,0,0,[],0,⟨(Z),G,G,(Z)⟩,KP⟩
  intro A1 n1 c1 acc i ⟨cm,bb,gd,bc⟩;have Vz:((bP s).map (rd nm)).length=(bP s).length:=bq _;have zr:b1.length=(bP s).length:=by rw[dq.length_eq,bD,bq]
  have qt:=bu List.length bc;rw[bq,ax] at qt
  have sv:i<b1.length->0<=rd b1 i/\rd b1 i<(bP s).length:=λh=>by
   have:=aZ.1 (dq.subset (bI (L:=b1) bb h));rwa[bq] at this
  refine wq<|wL Z Z<|aA<|aD<|bA Z (λcj=> ?_) (λcj=> ?_)
  ·refine aI<|aD<|aH<|wq<|wy (aF aa sz3 Z Z (rdr 0 Z))<|wy (aU au Z Z (rdr 0 Z))<|wn Z<|aK<|wm Z<|wm Z<|wm Z<|wy (aF aa sz3 Z Z (rdr 4 Z))<|wy (aU au Z Z (rdr 4 Z)) ?_;refine wa (bH .i64 [rd (bP s) (rd b1 i)] aa zs3 Z Z Z) ?_;rintro _ _⟨jn,rfl,rfl⟩;refine wa (aQ 2 Z aa zb3 Z Z Z (rdr 0 Z)) ?_;rintro _ _⟨dy,ee,rfl,rfl⟩;refine bC (v:=sl dy (n1+1) ee) Z<|wn Z<|aK<|wA Z Z<|wm Z<|aA ?_;exact⟨dy,n1+1,ee,acc++([rd (bP s) (rd b1 i)]),i+1,⟨(by rw[ah,cm];try rfl),G,G,(by rw[dJ bb G,iv,bc];rfl)⟩,G,SA,λ_ h=>h.sel [1,2,3,4,5] cC Z⟩
  ·have Si:acc=b1.map (rd (bP s)):=by rw[bc,bi G]
   have hr:=aRw Mt Xt Tt.1 Tt.2 hNx dq fg;have Pr:acc.Perm (bP s):=by rw[Si];exact hr.1
   have hao:acc.Pairwise (bY s):=by rw[Si];exact hr.2
   refine aR<|wq<|wm Z<|wm Z<|wm Z<|wa (aC bEh Z (Ct.fresh (λw hw=>aHp ((co.c _) w hw) ((rdr 1 Z) w hw) dr Pr hN))) ?_;rintro _ _⟨_,rfl,fk,sp,rfl,rfl⟩;refine wm Z<|wX Z Z<|wX Z Z<|wn Z<|wq<|wm Z<|wn Z<|aT [0] 99 cC Z ?_;exact⟨_,Z,_,_,_,Z,(yO dr.1.1 dr.2 Pr).2.1,(yO dr.1.1 dr.2 Pr).2.2.2 hao,Z⟩
theorem aKy (m:Nat): ∀ {w:World} {dg:AF} {iz dd:Nat} {s:AH} {k:Int},Rd w dg iz dd 1 (ints .i64 s)->s.length<m->((0<=k/\k<=1048576)/\ ∀x∈s,0<=x/\x<k)->s.length<=1000000->
  CF 265 #[sl dg iz dd,I k] w (λv R'=> ∃(b:AH) (A:AF) (c:Nat),v=sl A s.length c/\b.Perm (iota s.length)/\b.Pairwise (bY s)/\R'=[(ri 3 A s.length c b)]):=by
 induction m with
 |zero=>intro w A n c s k _ h;omega
 |succ m ih=>
  intro w A n c s k co hm dr hN;exact PN co (λh1 h2 h3 h4=>ih h1 G h3 h4) dr hN
theorem PR {s:AH} (co:Rd w dg iz dd 1 (ints .i64 s)) (dr:(0<=k/\k<=1048576)/\ ∀x∈s,0<=x/\x<k) (hN:s.length<=1000000):
  CF 265 #[sl dg iz dd,I k] w (λv R'=> ∃(b:AH) (A:AF) (c:Nat),v=sl A s.length c/\b.Perm (iota s.length)/\b.Pairwise (bY s)/\R'=[(ri 3 A s.length c b)]):=aKy (s.length+1) co G dr hN
theorem aQy {s:AH} (co:Rd w dg iz dd 1 (ints .i64 s)) (dr:(0<=k/\k<=1048576)/\ ∀x∈s,0<=x/\x<k) (hN:s.length<=100000):
  CF 219 #[sl dg iz dd,I k] w (λv R'=> ∃(b:AH) (A:AF) (c:Nat),v= .tuple #[sl A s.length c,I 0]/\b.Perm (iota s.length)/\b.Pairwise (bY s)/\R'=[(ri 3 A s.length c b)]):=by
 obtain rfl:=co.lenI;refine fn2 Tryz.func219 Z Z Z ?_;have b6:=co.max;refine wq<|wg Z<|wn Z<|aD<|wq<|wm Z<|wy (aL aa Z)<|wy (Yl.f (dA Z Z))<|aA<|aP Z<|aI<|aD ?_;refine wq<|wm Z<|wm Z<|wa (aC aAz Z (Ct.fresh (λw hw=>pU ((co.c _) w hw) cE))) ?_;rintro _ _⟨_,rfl,cg,ce,rfl,rfl⟩;refine wm Z<|wX Z Z<|wX Z Z<|wg Z<|wn Z<|wq<|wm Z<|wy (dW Z)<|aA<|aP Z<|aI<|wq ?_;refine wm Z<|wm Z<|wa (aC bEk Z (Ct.fresh (λw hw=>PR ((co.c _) w hw) dr G))) ?_;rintro _ _⟨_,rfl,b1,ns,pi,rfl,dq,fg,rfl⟩;refine wg Z<|wn Z<|aT [0] 99 cC Z ?_;refine⟨_,_,Z,Z,?_⟩;exact⟨b1,_,_,Z,dq,fg,Z⟩
theorem aLk {ap:AF} {bl an:Nat} {u:AH} (ac:Rd w ap bl an 1 (ints .u8 u)) (am:aN u) (hN:u.length<=100000):
  CF 146 #[sl ap bl an] w (λv R'=> ∃(b:AH) (A:AF) (c:Nat),v= .tuple #[sl A u.length c,I 0]/\b.Perm (iota u.length)/\b.Pairwise (bY u)/\R'=[(ri 3 A u.length c b)]):=by
 obtain rfl:=ac.lenI;refine fn2 Tryz.func146 Z Z Z ?_;have kc:=ac.max;refine wq<|wg Z<|wn Z<|wq<|bT (R1:=[(ri 3 none 0 0 ([]))]) (Sub.refl _) (λ_ h=>h.nil 3 1)<|wn Z<|aD<|wq<|wm Z<|wy (aL af Z) ?_;refine wy (Yl.t (qP Z Z) G)<|aA<|dS Z<|aD<|wq<|wm Z<|wy (aL af Z)<|wm Z<|aA<|aH ?_;refine eH (λ(A1:AF) (n1:Nat) (c1:Nat) (acc:AH) (i:Int)=>[(4,sl A1 n1 c1),(10,sl ap u.length an),(11,I (u.length:Int)),(12,I i)]) (λA1 n1 c1 acc i=>[(ri 3 A1 n1 c1 acc)]) (λA1 n1 c1 acc i=>(n1=acc.length)/\(0<=i)/\(i<=u.length)/\(acc=u.take i.toNat)) (λA1 n1 c1 acc i=>(u.length-i).toNat) ?_ ?_
 ·exact⟨none,0,0,[],0,⟨(Z),G,G,(Z)⟩,KP⟩
 intro A1 n1 c1 acc i ⟨cm,bb,gd,bc⟩;have qt:=bu List.length bc;rw[ax] at qt;refine wq<|wL Z Z<|aA<|aD<|bA Z (λba=> ?_) (λba=> ?_)
 ·have sv:=am.rd i;refine aI<|aD<|aH<|wq<|wy (aF af sz5 Z Z (ac.c _))<|wy (aU bn Z Z (ac.c _))<|wn Z<|aK<|wm Z<|wm Z<|wy (iR bn au Z)<|wa (bH .i64 [rd u i] aa zs3 Z Z Z) ?_;rintro _ _⟨cy,rfl,rfl⟩;refine wa (aQ 1 Z aa zb3 Z Z Z (rdr 0 Z)) ?_;rintro _ _⟨en,es,rfl,rfl⟩;refine bC (v:=sl en (n1+1) es) Z<|wn Z<|aK<|wA Z Z<|wm Z<|aA ?_;exact⟨en,n1+1,es,acc++([rd u i]),i+1,⟨(by rw[ah,cm];try rfl),G,G,(by rw[dJ bb G,bc])⟩,G,SA,λ_ h=>h.sel [1] cC Z⟩
 ·have hau:acc=u:=by rw[bc,bi G]
  refine aR<|wq<|wm Z<|wa (aC bLa Z (Ct.fresh (λw hw=>aQy ((rdr 0 Z) w hw) ⟨G,λx hx=>by rw[hau] at hx;have:=am x hx;omega⟩ G))) ?_;rintro _ _⟨_,rfl,b1,fm,kx,rfl,dq,fg,rfl⟩;refine wX Z Z<|wX Z Z<|wg Z<|wn Z<|aT [0] 99 cC Z ?_;refine⟨_,_,Z,Z,?_⟩;subst hau;exact⟨b1,_,_,Z,dq,fg,Z⟩
variable {B g bl an:Nat} {w0:World} {R:List Row} {a0 a1 a2:Int} {ap:AF} {u:AH}
theorem aHa (hr:0<=a0/\a0<1000000):
  CT 149 #[PG g,I 1] B w0 ((rc 138 3 g [I a0,I a1,I a2])::R) (λv R'=>v=I (a0+1)/\R'=(rc 138 3 g [I (a0+1),I a1,I a2])::R):=by
 refine fn1 Ip Z Z Z ?_;refine wq<|wn Z<|wq<|wm Z<|wy (aG Z)<|wy (yF 0 0 underlying135 sz2 Z)<|wm Z<|wa (aKd Z (λw hw=>⟨_,Fs (P:=Tryz.prog) Tryz.func222 cA cA cA .i64 cA (y:=1) (s:=a0+1) (hw.cellAt 0 (r:=(rc 138 3 g [I a0,I a1,I a2])) (j:=0) Z Z Z) (hw.openAt 0 (r:=(rc 138 3 g [I a0,I a1,I a2])) 0 Z Z Z) (by have:IntKind.i64.wrap (a0+1)=a0+1:=(by rw[Bn];omega);simp[Op.intArith,this]),hw.set1 0 (r:=(rc 138 3 g [I a0,I a1,I a2])) (j:=0) (v:=I (a0+1)) Z Z Z⟩)) ?_;rintro _ _⟨rfl,rfl⟩;refine wn Z<|bQ ?_;exact⟨_,Z,Z,Z⟩
theorem aGz (hr:0<=a1/\a1<1000000):
  CT 149 #[.pointer (some ⟨g,1,none⟩),I 1] B w0 ((rc 138 3 g [I a0,I a1,I a2])::R) (λv R'=>v=I (a1+1)/\R'=(rc 138 3 g [I a0,I (a1+1),I a2])::R):=by
 refine fn1 Ip Z Z Z ?_;refine wq<|wn Z<|wq<|wm Z<|wy (aG Z)<|wy (yF 0 1 underlying135 sz2 Z)<|wm Z<|wa (aKd Z (λw hw=>⟨_,Fs (P:=Tryz.prog) Tryz.func222 cA cA cA .i64 cA (y:=1) (s:=a1+1) (hw.cellAt 0 (r:=(rc 138 3 g [I a0,I a1,I a2])) (j:=1) Z Z Z) (hw.openAt 0 (r:=(rc 138 3 g [I a0,I a1,I a2])) 1 Z Z Z) (by have:IntKind.i64.wrap (a1+1)=a1+1:=(by rw[Bn];omega);simp[Op.intArith,this]),hw.set1 0 (r:=(rc 138 3 g [I a0,I a1,I a2])) (j:=1) (v:=I (a1+1)) Z Z Z⟩)) ?_;rintro _ _⟨rfl,rfl⟩;refine wn Z<|bQ ?_;exact⟨_,Z,Z,Z⟩
theorem aGy (hr:0<=a2/\a2<1000000):
  CT 149 #[.pointer (some ⟨g,2,none⟩),I 1] B w0 ((rc 138 3 g [I a0,I a1,I a2])::R) (λv R'=>v=I (a2+1)/\R'=(rc 138 3 g [I a0,I a1,I (a2+1)])::R):=by
 refine fn1 Ip Z Z Z ?_;refine wq<|wn Z<|wq<|wm Z<|wy (aG Z)<|wy (yF 0 2 underlying135 sz2 Z)<|wm Z<|wa (aKd Z (λw hw=>⟨_,Fs (P:=Tryz.prog) Tryz.func222 cA cA cA .i64 cA (y:=1) (s:=a2+1) (hw.cellAt 0 (r:=(rc 138 3 g [I a0,I a1,I a2])) (j:=2) Z Z Z) (hw.openAt 0 (r:=(rc 138 3 g [I a0,I a1,I a2])) 2 Z Z Z) (by have:IntKind.i64.wrap (a2+1)=a2+1:=(by rw[Bn];omega);simp[Op.intArith,this]),hw.set1 0 (r:=(rc 138 3 g [I a0,I a1,I a2])) (j:=2) (v:=I (a2+1)) Z Z Z⟩)) ?_;rintro _ _⟨rfl,rfl⟩;refine wn Z<|bQ ?_;exact⟨_,Z,Z,Z⟩
theorem aBh {w:World}:
  CF 47 #[] w (λv R'=> ∃g,v=PG g/\R'=[(rc 138 3 g [I 0,I 0,I 0])]):=by
 refine fn1 Tryz.func47 Z Z Z ?_;refine wq<|wn Z<|wq<|wy (gX (v:= .agg #[I 0,I 0,I 0]) Z (λw=>cA))<|wa (cB (sz:=3) rfl rfl) ?_;rintro _ _⟨aq,rfl,rfl⟩;refine wn Z<|aT [0] 99 cC Z ?_;exact⟨_,Z,_,Z,Z⟩
theorem QD (ac:RdC B w0 R ap bl an 1 (ints .u8 u)) (cr:bl=u.length) (am:aN u) (hN:u.length<=100000) (ha:0<=a0/\a0<1000000):
  CT 84 #[PG g,I 0,sl ap bl an] B w0 ((rc 138 3 g [I a0,I a1,I a2])::R) (λv R'=> ∃(b:AH) (A:AF) (c:Nat),v= .tuple #[sl A u.length c,I 0]/\b.Perm (iota u.length)/\b.Pairwise (bY u)/\R'=(ri 3 A u.length c b)::(rc 138 3 g [I (a0+1),I a1,I a2])::R):=by
 subst cr;refine fn2 Gz Z Z Z ?_;refine wq<|wg Z<|wn Z<|aD<|wq<|wm Z<|wy (kZ underlying76 Z Z)<|wm Z<|aB Z Z<|wm Z<|aB Z Z<|wy (Yl.f (eZ Z Z) cC) ?_;refine wy (aO Z Z)<|wm Z<|aB Z Z<|wm Z<|aB Z Z<|wy (Yl.f (iD Z Z) cC)<|wy (aO Z Z)<|aA<|aP Z<|aI<|wq<|wy (gX (v:= .agg #[.func (.func 146) #[] #[], .func (.func 147) #[] #[], .func (.func 148) #[] #[]]) Z (λw=>cA))<|wm rfl<|wy (bFh (v:= .func (.func 146) #[] #[]) rfl rfl (λw=>cA)) ?_;refine wn Z<|wq<|wm Z<|wm Z<|wa (AQ bMd Z Z (Ct.fresh (λw hw=>aLk ((RdC.right ac [_]) w hw) am hN))) ?_;rintro _ _⟨_,rfl,b1,cg,ce,rfl,dq,fg,rfl⟩;refine wm Z<|wX Z Z<|wX Z Z<|wg Z<|wn Z<|aD<|wq<|wm Z<|wR Z Z<|aA<|dS Z<|aK<|wm Z ?_;refine wm Z<|wy (aG Z)<|wy (yF 0 0 underlying138 aQt Z)<|wy (dK (q:=0) (rdr 1 Z) underlying136 aQu Z Z (ak Z) cC cC Z)<|wa (aC aWn Z (Ct.at 1 Z (aHa G))) ?_;rintro _ _⟨rfl,rfl⟩;refine aA<|wq<|wm Z<|wm Z<|wg Z<|wn Z<|bU (R1:=((ri 3 cg u.length ce b1)::(rc 138 3 g [I (a0+1),I a1,I a2])::R)) hiZ ?_;refine⟨_,_,Z,Z,?_⟩;exact⟨b1,_,_,Z,dq,fg,Z⟩
theorem QC (ac:RdC B w0 R ap bl an 1 (ints .u8 u)) (cr:bl=u.length) (am:aN u) (hN:u.length<=100000) (ha:0<=a1/\a1<1000000):
  CT 84 #[PG g,I 1,sl ap bl an] B w0 ((rc 138 3 g [I a0,I a1,I a2])::R) (λv R'=> ∃(b:AH) (A:AF) (c:Nat),v= .tuple #[sl A u.length c,I 0]/\b.Perm (iota u.length)/\b.Pairwise (bY u)/\R'=(ri 3 A u.length c b)::(rc 138 3 g [I a0,I (a1+1),I a2])::R):=by
 subst cr;refine fn2 Gz Z Z Z ?_;refine wq<|wg Z<|wn Z<|aD<|wq<|wm Z<|wy (kZ underlying76 Z Z)<|wm Z<|aB Z Z<|wm Z<|aB Z Z<|wy (Yl.f (eZ Z Z) cC) ?_;refine wy (aO Z Z)<|wm Z<|aB Z Z<|wm Z<|aB Z Z<|wy (Yl.f (iD Z Z) cC)<|wy (aO Z Z)<|aA<|aP Z<|aI<|wq<|wy (gX (v:= .agg #[.func (.func 146) #[] #[], .func (.func 147) #[] #[], .func (.func 148) #[] #[]]) Z (λw=>cA))<|wm rfl<|wy (bFh (v:= .func (.func 147) #[] #[]) rfl rfl (λw=>cA)) ?_;refine wn Z<|wq<|wm Z<|wm Z<|wa (AQ bMc Z Z (Ct.fresh (λw hw=>aMy ((RdC.right ac [_]) w hw) am hN))) ?_;rintro _ _⟨_,rfl,b1,cg,ce,rfl,dq,fg,rfl⟩;refine wm Z<|wX Z Z<|wX Z Z<|wg Z<|wn Z<|aD<|wq<|wm Z<|wR Z Z<|aA<|dS Z<|aK<|wm Z ?_;refine wm Z<|wy (aG Z)<|wy (yF 0 0 underlying138 aQt Z)<|wy (dK (q:=1) (rdr 1 Z) underlying136 aQu Z Z (ak Z) cC cC Z)<|wa (aC aWn Z (Ct.at 1 Z (aGz G))) ?_;rintro _ _⟨rfl,rfl⟩;refine aA<|wq<|wm Z<|wm Z<|wg Z<|wn Z<|bU (R1:=((ri 3 cg u.length ce b1)::(rc 138 3 g [I a0,I (a1+1),I a2])::R)) hiZ ?_;refine⟨_,_,Z,Z,?_⟩;exact⟨b1,_,_,Z,dq,fg,Z⟩
theorem QB (ac:RdC B w0 R ap bl an 1 (ints .u8 u)) (cr:bl=u.length) (am:aN u) (hN:u.length<=100000) (ha:0<=a2/\a2<1000000):
  CT 84 #[PG g,I 2,sl ap bl an] B w0 ((rc 138 3 g [I a0,I a1,I a2])::R) (λv R'=> ∃(b:AH) (A:AF) (c:Nat),v= .tuple #[sl A u.length c,I 0]/\b.Perm (iota u.length)/\b.Pairwise (bY u)/\R'=(ri 3 A u.length c b)::(rc 138 3 g [I a0,I a1,I (a2+1)])::R):=by
 subst cr;refine fn2 Gz Z Z Z ?_;refine wq<|wg Z<|wn Z<|aD<|wq<|wm Z<|wy (kZ underlying76 Z Z)<|wm Z<|aB Z Z<|wm Z<|aB Z Z<|wy (Yl.f (eZ Z Z) cC) ?_;refine wy (aO Z Z)<|wm Z<|aB Z Z<|wm Z<|aB Z Z<|wy (Yl.f (iD Z Z) cC)<|wy (aO Z Z)<|aA<|aP Z<|aI<|wq<|wy (gX (v:= .agg #[.func (.func 146) #[] #[], .func (.func 147) #[] #[], .func (.func 148) #[] #[]]) Z (λw=>cA))<|wm rfl<|wy (bFh (v:= .func (.func 148) #[] #[]) rfl rfl (λw=>cA)) ?_;refine wn Z<|wq<|wm Z<|wm Z<|wa (AQ bMb Z Z (Ct.fresh (λw hw=>aGl ((RdC.right ac [_]) w hw) am hN))) ?_;rintro _ _⟨_,rfl,o1,cg,ce,rfl,Fc,Fo,rfl⟩;refine wm Z<|wX Z Z<|wX Z Z<|wg Z<|wn Z<|aD<|wq<|wm Z<|wR Z Z<|aA<|dS Z<|aK<|wm Z ?_;refine wm Z<|wy (aG Z)<|wy (yF 0 0 underlying138 aQt Z)<|wy (dK (q:=2) (rdr 1 Z) underlying136 aQu Z Z (ak Z) cC cC Z)<|wa (aC aWn Z (Ct.at 1 Z (aGy G))) ?_;rintro _ _⟨rfl,rfl⟩;refine aA<|wq<|wm Z<|wm Z<|wg Z<|wn Z<|bU (R1:=((ri 3 cg u.length ce o1)::(rc 138 3 g [I a0,I a1,I (a2+1)])::R)) hiZ ?_;refine⟨_,_,Z,Z,?_⟩;obtain⟨b,hb,hs⟩:=qE u;obtain rfl:=places hb hs Fc Fo;exact⟨o1,_,_,Z,hb,hs,Z⟩
variable {B g bl an:Nat} {w0:World} {R:List Row} {a0 a1 a2 so:Int} {ap:AF} {u:AH}
theorem JD (ac:RdC B w0 R ap bl an 1 (ints .u8 u)) (cr:bl=u.length) (hb:so<0\/2<so):
  CT 84 #[PG g,I so,sl ap bl an] B w0 ((rc 138 3 g [I a0,I a1,I a2])::R) (λv R'=>v= .tuple #[sl none 0 0,I 1]/\R'=(rc 138 3 g [I a0,I a1,I a2])::R):=by
 subst cr;refine fn2 Gz Z Z Z ?_;refine wq<|wg Z<|wn Z<|aD<|wq<|wm Z<|wy (kZ underlying76 Z Z)<|wm Z<|aB Z Z<|wm Z<|aB Z Z<|wL Z Z ?_;refine wy (aO Z Z)<|wm Z<|bV 3 [(0,PG g),(1,I so),(2,sl ap u.length an),(20, .bool (decide ((so<0)\/(3<=so))))] ((rc 138 3 g [I a0,I a1,I a2])::R) ?_ ?_
 ·refine bN 17 Z (λba=> ?_) (λba=> ?_)
  ·refine aM Z Z Z Z<|aM Z Z Z Z<|wy (aS Z Z)<|aA ?_;exact KP
  ·refine aB Z Z<|wm Z<|aB Z Z<|wy (iD Z Z)<|wy (aO Z Z)<|aA ?_;exact KP
 refine mW 20 Z G<|aA<|dS Z<|wq<|wg Z<|wn Z<|bQ ?_;refine⟨_,_,Z,Z,?_⟩;exact⟨Z,Z⟩
theorem JE (ac:RdC B w0 R ap bl an 1 (ints .u8 u)) (cr:bl=u.length) (am:aN u) (hN:u.length<=100000) (ha:(0<=a0/\a0<1000000)/\(0<=a1/\a1<1000000)/\(0<=a2/\a2<1000000)):
  CT 84 #[PG g,I so,sl ap bl an] B w0 ((rc 138 3 g [I a0,I a1,I a2])::R) (λv R'=> ∃(b:AH) (A:AF) (c:Nat) (e d0 d1 d2:Int),v= .tuple #[sl A b.length c,I e]/\
   (((so<0\/2<so)/\e=1/\b=[]/\d0=a0/\d1=a1/\d2=a2)\/(¬(so<0\/2<so)/\e=0/\b.Perm (iota u.length)/\b.Pairwise (bY u)/\[d0,d1,d2]=upd [a0,a1,a2] so (rd [a0,a1,a2] so+1)/\(d0<=a0+1/\0<=d0)/\(d1<=a1+1/\0<=d1)/\(d2<=a2+1/\0<=d2)))/\R'=(ri 3 A b.length c b)::(rc 138 3 g [I d0,I d1,I d2])::R):=by
 by_cases hb:so<0\/2<so
 ·intro w hw;refine(JD (u:=u) ac cr hb w hw).mono ?_;rintro e w' ⟨v,R',he,hh,hv,hr⟩;subst hr;exact⟨v,_,he,hh.nil 3 1,[],none,0,1,a0,a1,a2,hv, .inl ⟨hb,Z,Z,Z,Z,Z⟩,Z⟩
 ·have hlen: ∀b:AH,b.Perm (iota u.length)->u.length=b.length:=λb h=>by rw[h.length_eq,bD]
  rcases(by omega:so=0\/so=1\/so=2) with rfl|rfl|rfl
  ·refine (QD ac cr am hN ha.1).mono ?_;rintro v R' ⟨b,A,c,hv,hp,hs,hr⟩;rw[hlen b hp] at hv hr;exact⟨b,A,c,0,a0+1,a1,a2,hv, .inr ⟨hb,Z,hp,hs,Z,G,G,G⟩,hr⟩
  ·refine (QC ac cr am hN ha.2.1).mono ?_;rintro v R' ⟨b,A,c,hv,hp,hs,hr⟩;rw[hlen b hp] at hv hr;exact⟨b,A,c,0,a0,a1+1,a2,hv, .inr ⟨hb,Z,hp,hs,Z,G,G,G⟩,hr⟩
  ·refine (QB ac cr am hN ha.2.2).mono ?_;rintro v R' ⟨b,A,c,hv,hp,hs,hr⟩;rw[hlen b hp] at hv hr;exact⟨b,A,c,0,a0,a1,a2+1,hv, .inr ⟨hb,Z,hp,hs,Z,G,G,G⟩,hr⟩
end Go.Proofs.YtdbebmmhdefgdaaGreat
namespace Go.Pure
open Go Go.Eng
section
variable {p:AH}
def gY (p:AH):Nat->List Bool->Int->AH × List Bool
 |0,E,_=>([],E)
 |f+1,E,k=>if rdb E k=true then([],E) else(k::(gY p f (qR E k true) (rd p k)).1,(gY p f (qR E k true) (rd p k)).2)
def cntF (E:List Bool):Nat:=E.countP λb=> !b
theorem aXb (n:Nat):cntF (List.replicate n false)=n:=by unfold cntF;rw[List.countP_replicate];simp
theorem ED {E:List Bool} {k:Int} (k0:0<=k) (hk:k<E.length) (h:rdb E k≠true):cntF (qR E k true)+1=cntF E:=by
 have bp:k.toNat<E.length:=G
 have e:E[k.toNat]=false:=by
  have h2:rdb E k=E[k.toNat]:=by unfold rdb;rw[ai,av bp];rfl
  rw[h2] at h;simpa using h
 unfold cntF qR;rw[List.countP_set bp,e];simp only[Eb,Bool.not_false,wu,xx,Jd,qp];have:0<E.countP λb=> !b:=List.countP_pos_iff.2 ⟨E[k.toNat],mg bp,by rw[e];rfl⟩;omega
theorem uK {f:Nat} {E:List Bool} {k:Int} (h:rdb E k=true):gY p f E k=([],E):=by
 cases f with
 |zero=>rfl
 |succ f=>rw[gY,di h]
theorem OC {E:List Bool} {k:Int} (k0:0<=k) (hk:k<E.length) (h:rdb E k≠true):0<cntF E:=by have:=ED k0 hk h;omega
theorem KL {f:Nat} {E:List Bool} {k:Int} (k0:0<=k) (hk:k<E.length) (hf:cntF E<=f) (h:rdb E k≠true):gY p f E k=(k::(gY p (f-1) (qR E k true) (rd p k)).1,(gY p (f-1) (qR E k true) (rd p k)).2):=by
 have:=OC k0 hk h;obtain⟨g,rfl⟩: ∃g,f=g+1:=⟨f-1,G⟩;rw[gY,df h];rfl
def jM (p:AH):Nat->List Bool × AD
 |0=>(List.replicate p.length false,[])
 |i+1=>((gY p p.length (jM p i).1 i).2,if (gY p p.length (jM p i).1 i).1=[] then(jM p i).2 else(jM p i).2++[(gY p p.length (jM p i).1 i).1])
def fQ (p:AH):AD:=(jM p p.length).2
theorem rV (hp:p.Perm (iota p.length)): ∀(f:Nat) (E:List Bool) (k:Int),E.length=p.length->0<=k->k<p.length->(gY p f E k).2.length=p.length/\(∀x∈(gY p f E k).1,0<=x/\x<p.length)/\(gY p f E k).1.length+cntF (gY p f E k).2=cntF E
 |0,E,k,hl,_,_=>And.intro hl (And.intro (λx hx=>absurd hx (vk (a:=x))) (og _))
 | f+1,E,k,hl,k0,hk=>by
  rw[gY];split
  ·exact And.intro hl (And.intro (λx hx=>absurd hx (vk (a:=x))) (og _))
  ·rename_i h;have hn:=aZ.1 (hp.subset (bI (L:=p) k0 hk));have ih:=rV hp f (qR E k true) (rd p k) (by rw[lU];exact hl) hn.1 hn.2;have hc:=ED k0 G h;refine⟨ih.1,λx hx=> ?_,?_⟩
   ·rcases jc.1 hx with rfl|hx
    ·exact⟨k0,hk⟩
    ·exact ih.2.1 x hx
   ·have:=ih.2.2;simp only[dn];omega
theorem mI (hp:p.Perm (iota p.length)): ∀i:Nat,i<=p.length->(jM p i).1.length=p.length/\(∀c∈(jM p i).2,∀x∈c,0<=x/\x<p.length)/\(jM p i).2.flatten.length+cntF (jM p i).1=p.length
 |0,_=>⟨by simp[jM],λc hc=>(by cases hc),by simp[jM,aXb]⟩
 | i +1,hi=>by
  have ih:=mI hp i G;have hw:=rV hp p.length (jM p i).1 i ih.1 G G;rw[jM];refine⟨hw.1,?_,?_⟩
  ·intro c hc x hx;split at hc
   ·exact ih.2.1 c hc x hx
   ·rcases dz.1 hc with hc|hc
    ·exact ih.2.1 c hc x hx
    ·obtain rfl:=ic.1 hc;exact hw.2.1 x hx
  ·split
   ·rename_i h;have h2:=hw.2.2;rw[h] at h2;have:=ih.2.2;simp only[jb] at h2;show(jM p i).2.flatten.length+cntF (gY p p.length (jM p i).1 i).2=p.length;omega
   ·rw [lq,ah];have h2:=hw.2.2;have:=ih.2.2;simp only[qj,Ic,jh];omega
theorem aJk (hp:p.Perm (iota p.length)): ∀c∈fQ p,∀x∈c,0<=x/\x<p.length:=(mI hp p.length (dx _)).2.1
theorem aWw (hp:p.Perm (iota p.length)):(fQ p).flatten.length<=p.length:=by have:=(mI hp p.length (dx _)).2.2;unfold fQ;omega
theorem NZ (p:AH): ∀i:Nat,(jM p i).2.length<=i
 |0=>by simp[jM]
 |i+1=>by
  have:=NZ p i;rw[jM];split
  ·exact Nat.le_succ_of_le this
  ·rw[ah];simp only[ib];omega
theorem bCf {i:Int} {E E2:List Bool} {ls:AD} {acc:AH} (i0:0<=i) (Kx:jM p i.toNat=(E,ls)) (Qp:gY p p.length E i=(acc,E2)) (cv:acc≠[]):jM p (i+1).toNat=(E2,ls++[acc]):=by
 rw[show(i+1).toNat=i.toNat+1 by omega,jM,Kx];simp only[show((i.toNat:Nat):Int)=i by omega,Qp,df cv]
theorem bHl {i:Int} {E E2:List Bool} {ls:AD} {acc:AH} (i0:0<=i) (Kx:jM p i.toNat=(E,ls)) (Qp:gY p p.length E i=(acc,E2)) (cv:acc=[]):jM p (i+1).toNat=(E2,ls):=by
 rw[show(i+1).toNat=i.toNat+1 by omega,jM,Kx];simp only[show((i.toNat:Nat):Int)=i by omega,Qp,di cv]
theorem aCv (hp:p.Perm (iota p.length)) {f:Nat} {E E2:List Bool} {acc:AH} {i k:Int} (hl:E.length=p.length) (i0:0<=i) (hi:i<p.length) (hw:(acc++(gY p f E2 k).1,(gY p f E2 k).2)=gY p p.length E i):acc.length<=p.length:=by
 have h:=(rV hp p.length E i hl i0 hi).2.2;rw[<-hw] at h;simp only[ah] at h;have:cntF E<=E.length:=List.countP_le_length;omega
def kN (l c:AH):AH:=c.reverse.map (rd l)
def backL (l:AH) (cs:AD):AH:=(cs.reverse.map (kN l)).flatten
theorem aGv {l:AH} {cs:AD} {k:Nat} (hk:k<cs.length):(((cs.reverse).take (k+1)).map (kN l)).flatten=(((cs.reverse).take k).map (kN l)).flatten++kN l (rdl cs (cs.length-1-k)):=by
 have bp:k<cs.reverse.length:=by rw[nk];exact hk
 rw[qm,av bp,iv,lq];congr 1;simp only[Am,ko,qx,qj,Ic,jh];congr 1;rw[El];unfold rdl;rw[ai,av G];simp only[oz];congr 1;omega
theorem aCt {l c:AH} {k:Nat} (hk:k<c.length):((c.reverse).take (k+1)).map (rd l)=((c.reverse).take k).map (rd l)++[rd l (rd c (c.length-1-k))]:=by
 have bp:k<c.reverse.length:=by rw[nk];exact hk
 rw[qm,av bp,iv];congr 1;simp only[Am,ko,qx];congr 2;rw[El,fE G G];congr 1;omega
theorem nU (l c:AH):(kN l c).length=c.length:=by simp[kN]
theorem aAj {cs:AD}: ∀ {k:Nat} {l:AH},(((cs.reverse).take k).map (kN l)).flatten.length<=cs.flatten.length:=by
 intro k l
 have h1:(((cs.reverse).take k).map (kN l)).flatten.length=(((cs.reverse).take k).map List.length).sum:=by
  rw[qc,qo];congr 2;funext c;exact nU l c
 have h2:cs.flatten.length=((cs.reverse).map List.length).sum:=by rw[qc,Du,List.sum_reverse]
 rw[h1,h2]
 conv=>rhs;rw[<-gy k cs.reverse]
 rw[iv,Ci];omega
end
end Go.Pure
namespace Go.Proofs.YtdbebmmhdefgdaaGreat
open Go Go.Eng Go.Pure
open Tryz
set_option maxRecDepth 100000
variable {a V l s P acc u:AH} {i:Int} {n vu rr:Nat} {w:World} {rp:AF}
theorem aMh (hd:a.Nodup) (i0:0<=i) (hi:i<a.length):rd a i∉a.take i.toNat:=λh=>by
 obtain⟨q,hq,e⟩:=gz.1 h;rw[ax] at hq;rw[xq] at e;have:=kK hd (i:=(q:Int)) (j:=i) G G i0 hi (by rw[fE (i:=(q:Int)) G G];simp only[cz];exact e);omega
theorem aLj {E:List Bool} (i0:0<=i) (hi:i<a.length) (hl:E.length=n) (ha:0<=rd a i/\rd a i<n) (h: ∀x:Int,0<=x->x<n->(rdb E x=true↔x∈a.take i.toNat)): ∀x:Int,0<=x->x<n->(rdb (qR E (rd a i) true) x=true↔x∈a.take (i+1).toNat):=by
 intro x x0 x1;rw[dJ i0 hi,yE ha.1 G x0,dz,ic];split
 ·rename_i e;exact⟨λ_=> .inr e,λ_=>rfl⟩
 ·rename_i e;rw[h x x0 x1];exact⟨.inl,λh=>h.resolve_right e⟩
theorem aUs (i0:0<=i) (hi:i<a.length) (hd:a.Nodup) (hl:V.length=n) (ha: ∀q:Int,0<=q->q<a.length->0<=rd a q/\rd a q<n) (h: ∀q:Int,0<=q->q<i->rd V (rd a q)=q): ∀q:Int,0<=q->q<i+1->rd (upd V (rd a i) i) (rd a q)=q:=by
 intro q q0 q1;have h1:=ha i i0 hi;have h2:=ha q q0 G;rw[gH h1.1 h2.1 G];split
 ·rename_i e;exact kK hd i0 hi q0 G e.symm
 ·rename_i e;refine h q q0 ?_;rcases bz q i with g|g
  ·exact g
  ·obtain rfl:q=i:=G
   exact absurd Z e
def fsL (l:AH):AH:=(iota l.length).map (lfC l)
theorem yP (l:AH):(fsL l).length=l.length:=by unfold fsL;rw[bq,bD]
theorem aEc (i0:0<=i) (hi:i<l.length):rd (fsL l) i=lfC l i:=by
 unfold fsL;rw[wJ i0 (by rw[bD];exact hi),uT i0 hi]
theorem FR (hl:aN l):(cZ (iota l.length) l (256:Int).toNat).length=l.length:=by
 have:=(kV (l:=l) hl).1.length_eq;rwa[bD] at this
theorem aIg (hl:aN l):(cZ (iota l.length) l (256:Int).toNat).Perm (iota (cZ (iota l.length) l (256:Int).toNat).length):=by
 rw[FR hl];exact(kV (l:=l) hl).1
theorem bDy (hl:aN l) (h1:V.length=(cZ (iota l.length) l (256:Int).toNat).length) (h2: ∀q:Int,0<=q->q<(cZ (iota l.length) l (256:Int).toNat).length->rd V (rd (cZ (iota l.length) l (256:Int).toNat) q)=q):V=fsL l:=by
 rw[FR hl] at h1 h2;refine bL (by rw[h1,yP]) λj j0 j1=> ?_;rw[aEc j0 G];obtain⟨q,q0,q1,e,f⟩:=ZV (l:=l) hl j0 G;rw[f,<-e];exact h2 q q0 q1
theorem VJ (i0:0<=i) (hi:i<a.length) (h:acc=P++ofT s (a.take i.toNat)) (h0:rd a i=0):acc=P++ofT s (a.take (i+1).toNat):=by
 rw[ZJ i0 hi,di h0,jh];exact h
theorem aEn (i0:0<=i) (hi:i<a.length) (h:acc=P++ofT s (a.take i.toNat)) (h0: ¬rd a i=0):acc++[rd s (rd a i-1)]=P++ofT s (a.take (i+1).toNat):=by
 rw[ZJ i0 hi,df h0,<-gq,h]
theorem UD (hd:a.Nodup) (i0:0<=i) (hi:i<a.length) (h0:rd a i=0):i+1=zat (a.take (i+1).toNat):=by rw[XF hd i0 hi,di h0]
theorem aCp {m:Int} (hd:a.Nodup) (i0:0<=i) (hi:i<a.length) (h:m=zat (a.take i.toNat)) (h0: ¬rd a i=0):m=zat (a.take (i+1).toNat):=by rw[XF hd i0 hi,df h0];exact h
theorem VK (s:AH) (l:AH):(ofT s l).length<=l.length:=by unfold ofT;rw[bq];exact yc _ _
theorem VC (md:Rd w rp vu rr 1 (ints .i64 a)) (hp:a.Perm (iota a.length)) (hN:a.length<=1000000):
  CF 150 #[sl rp vu rr] w (λv R'=> ∃A c V,v= .tuple #[sl A a.length c,bt]/\V.length=a.length/\(∀q:Int,0<=q->q<a.length->rd V (rd a q)=q)/\R'=[(ri 3 A a.length c V)]):=by
 obtain rfl:=md.lenI;refine fn2 Tryz.func150 Z Z Z ?_;have Pj:=md.max;have hnd:a.Nodup:=hp.symm.nodup (eT _);have ka: ∀q:Int,0<=q->q<a.length->0<=rd a q/\rd a q<a.length:=λq q0 q1=>aZ.1 (hp.subset (bI q0 q1));refine wq<|wg Z<|wn Z<|wq<|wm Z<|wy (aL aa Z)<|wa (dM aa zb3 Z Z) ?_;rintro _ _⟨aq,rfl,rfl⟩;refine bC (v:=sl (GG aq) a.length a.length) Z<|wn Z<|wq<|wm Z<|wy (aL aa Z)<|wa (WW pz zb4 Z Z G G G) ?_;rintro _ _⟨cy,rfl,rfl⟩;refine bC (v:=sl (GG cy) a.length a.length) Z<|wn Z<|aD<|wq<|wm Z<|wy (aL aa Z)<|wm Z<|aA<|aH ?_;refine gN (λ(i:Int) (V:AH) (E:List Bool)=>[(0,sl rp a.length rr),(4,sl (GG aq) a.length a.length),(5,sl (GG cy) a.length a.length),(14,sl rp a.length rr),(15,I (a.length:Int)),(16,I i)]) (λi V E=>[⟨4,1,(GG cy),a.length,a.length,bools E,false⟩,(ri 3 (GG aq) a.length a.length V)]) (λi V E=>(0<=i)/\(i<=a.length)/\(V.length=a.length)/\(E.length=a.length)/\(∀x:Int,0<=x->x<a.length->(rdb E x=true↔x∈a.take i.toNat))/\(∀q:Int,0<=q->q<i->rd V (rd a q)=q)) (λi V E=>(a.length-i).toNat) ?_ ?_
 ·exact⟨0,List.replicate a.length (0:Int),List.replicate a.length false,⟨G,G,(by rw[dh]),(by rw[dh]),(λx h0 h1=>by rw[JR];simp),(λq h0 h1=>G)⟩,KP⟩
 intro i V E ⟨bb,gd,ld,Ry,hE,hV⟩;refine wq<|wL Z Z<|aA<|aD<|bA Z (λba=> ?_) (λba=> ?_)
 ·have ha:=ka i bb G;have yp:=aMh hnd bb G;refine aI<|aD<|aH<|wq<|wm Z<|wy (aF aa sz3 Z Z (md.c _))<|wy (aU au Z Z (md.c _))<|wg Z<|wn Z<|aD<|wq<|wm Z ?_;refine wy (Yl.f (eZ Z Z))<|wm Z<|aB Z Z<|wm Z<|aB Z Z<|wm Z<|aB Z Z<|wy (aL aa Z)<|aB Z Z<|wy (Yl.f (iD Z Z))<|wy (aO Z Z)<|wm Z<|aB Z Z<|wm Z<|aB Z Z ?_;refine wm Z<|aB Z Z<|wy (aF pz sz4 Z Z (rdr 0 Z))<|aB Z Z<|wy (Yl.f (GY za Z Z (rdr 0 Z)) (λh=>yp ((hE _ ha.1 ha.2).1 h)))<|wy (aO Z Z)<|aA<|aP Z<|aI<|aK<|wm Z<|wm Z<|wm Z<|wm Z<|wm Z ?_;refine wy (aF aa sz3 Z Z (rdr 1 Z))<|dC (bG 1 Z sz3 Z Z) ?_;rintro _ _ rfl;refine wy (aF pz sz4 Z Z (rdr 0 Z))<|dC (xR 0 Z sz4 Z Z) ?_;rintro _ _ rfl;refine aA<|aK<|wA Z Z<|wm Z<|aA ?_;exact⟨i+1,upd V (rd a i) i,qR E (rd a i) true,⟨G,G,(by rw[aX];exact ld),(by rw[lU];exact Ry),(aLj bb G Ry ha hE),(aUs bb G hnd ld ka hV)⟩,G,KP⟩
 ·refine aR<|wq<|wm Z<|wg Z<|wn Z<|aT [1] 99 cC Z ?_;refine⟨_,_,Z,Z,?_⟩;exact⟨_,_,V,Z,ld,λq h0 h1=>hV q h0 G,Z⟩
theorem aRt (md:Rd w rp vu rr 1 (ints .i64 a)) (hp:a.Perm (iota a.length)) (hN:a.length<=1000000):
  CF 197 #[sl rp vu rr] w (λv R'=>v=bt):=by
 obtain rfl:=md.lenI;refine fn1 Tryz.func197 Z Z Z ?_;have Pj:=md.max;refine wq<|wn Z<|wq<|wm Z<|wa (aC aWm Z (Ct.fresh (λw hw=>VC ((md.c _) w hw) hp hN))) ?_;rintro _ _⟨_,rfl,cg,ce,inv,rfl,ye,yq,rfl⟩;refine wm Z<|wX Z Z<|wX Z Z<|wg Z<|wn Z<|wq<|wm Z<|wn Z<|aT [] 99 cC Z ?_;refine⟨_,Z,?_⟩;rfl
theorem bBf {ap:AF} {bl an:Nat} (ac:Rd w ap bl an 1 (ints .u8 u)) (am:aN u) (hN:u.length<=1000000):
  CF 184 #[sl ap bl an] w (λv R'=> ∃A c,v=sl A (fsL u).length c/\R'=[(ri 3 A ((fsL u).length) c (fsL u))]):=by
 obtain rfl:=ac.lenI;refine fn1 Tryz.func184 Z Z Z ?_;have kc:=ac.max;refine wq<|wn Z<|wq<|wm Z<|wy (aL af Z)<|wa (dM aa zb3 Z Z) ?_;rintro _ _⟨aq,rfl,rfl⟩;refine bC (v:=sl (GG aq) u.length u.length) Z<|wn Z<|wq<|wm Z<|wy (aL af Z)<|wa (dM aa zb3 Z Z) ?_;rintro _ _⟨cy,rfl,rfl⟩;refine bC (v:=sl (GG cy) u.length u.length) Z<|wn Z<|aD<|wq<|wm Z<|wy (aL af Z)<|wm Z<|aA<|aH ?_;refine gN (λ(i:Int) (V:AH) (K:AH)=>[(3,sl (GG aq) u.length u.length),(4,sl (GG cy) u.length u.length),(15,sl ap u.length an),(16,I (u.length:Int)),(17,I i)]) (λi V K=>[(ri 3 (GG cy) u.length u.length K),(ri 3 (GG aq) u.length u.length V)]) (λi V K=>(0<=i)/\(i<=u.length)/\(V.length=u.length)/\(K.length=u.length)/\(∀j:Int,0<=j->j<i->rd V j=j)/\(∀j:Int,0<=j->j<i->rd K j=rd u j)) (λi V K=>(u.length-i).toNat) ?_ ?_
 ·exact⟨0,List.replicate u.length (0:Int),List.replicate u.length (0:Int),⟨G,G,(by rw[dh]),(by rw[dh]),(λj h1 h2=>G),(λj h1 h2=>G)⟩,KP⟩
 intro i V K ⟨bb,gd,ld,Pq,hV,hK⟩;refine wq<|wL Z Z<|aA<|aD<|bA Z (λba=> ?_) (λba=> ?_)
 ·have sv:=am.rd i;refine aI<|aD<|aH<|wq<|wm Z<|wy (aF af sz5 Z Z (ac.c _))<|wy (aU bn Z Z (ac.c _))<|wg Z<|wn Z<|aK<|wm Z<|wm Z<|wm Z ?_;refine wm Z<|wm Z<|wm Z<|wy (iR bn au Z)<|wy (aF aa sz3 Z Z (rdr 1 Z))<|dC (bG 1 Z sz3 Z Z) ?_;rintro _ _ rfl;refine wy (aF aa sz3 Z Z (rdr 0 Z))<|dC (bG 0 Z sz3 Z Z) ?_;rintro _ _ rfl;refine aA<|aK<|wA Z Z<|wm Z<|aA ?_;exact⟨i+1,upd V i i,upd K i (rd u i),⟨G,G,(by rw[aX];exact ld),(by rw[aX];exact Pq),(fA (f:=λj=>j) bb G hV Z),(fA (f:=λj=>rd u j) bb G hK Z)⟩,G,KP⟩
 ·obtain rfl:V=iota u.length:=bL (by rw[bD];omega) λj h0 h1=>by rw[uT h0 G];exact hV j h0 G
  obtain rfl:u=K:=(bL G λj h0 h1=>hK j h0 G:K=u).symm;refine aR<|wq<|wm Z<|wm Z<|wa (aC NV Z (Ct.fresh (λw hw=>uW ((rdr 1 Z) w hw) ((rdr 0 Z) w hw) G am (λi hi=>aZ.1 hi) (by rw[bD];omega)))) ?_;rintro _ _⟨_,rfl,en,es,rfl,rfl⟩;refine wm Z<|wX Z Z<|wX Z Z<|wn Z<|wq<|wm Z<|wa (aC aWm Z (Ct.fresh (λw hw=>VC ((rdr 0 Z) w hw) (aIg am) (by rw[FR am];omega)))) ?_;rintro _ _⟨_,rfl,fm,kx,inv,rfl,ye,yq,rfl⟩;refine wm Z<|wX Z Z<|wX Z Z<|wg Z<|wn Z<|wq<|wm Z<|wn Z<|aT [0] 99 cC Z ?_;refine⟨_,Z,?_⟩;obtain rfl:inv=fsL u:=bDy am ye yq;have el:(cZ (iota u.length) u (256:Int).toNat).length=(fsL u).length:=by rw[FR am,yP]
  rw[el];exact⟨_,_,Z,Z⟩
theorem bAm (h:u.length=0) (ha:a.length=0):ofL u a=[]/\zat a=0:=by
 obtain rfl:u=[]:=dw h;obtain rfl:a=[]:=dw ha;exact⟨Z,Z⟩
theorem aVg (hu:aN u):(fsL u).Perm (iota (fsL u).length):=by
 rw[yP];exact EK (λx h0 h1=>ZW (l:=u) hu h0 h1) λx y x0 x1 y0 y1 e=>aUb (l:=u) hu x0 x1 y0 y1 e
theorem aOk {Vb:AF} {n_p Ve:Nat} {p:AH} (Iv:Rd w Vb n_p Ve 1 (ints .i64 p)) (hp:p.Perm (iota p.length)) (hN:p.length<=1000000):
  CF 183 #[sl Vb n_p Ve] w (λv R'=> ∃(A:AF) (c:Nat) (vals:AG) (Rs:List Row),v= .tuple #[sl A vals.length c,bt]/\SlR .i64 Rs vals (fQ p)/\R'=⟨52,1,A,vals.length,c,vals,false⟩::Rs):=by
 obtain rfl:=Iv.lenI;refine fn2 Tryz.func183 Z Z Z ?_;have m_p:=Iv.max;refine wq<|wg Z<|wn Z<|aD<|wq<|wm Z<|wa (aC bEp Z (Ct.quiet (λw hw=>aRt ((Iv.c _) w hw) hp hN))) ?_;rintro _ _⟨rfl,rfl⟩;refine wy (dW Z)<|aA<|aP Z<|aI<|wq<|wm Z<|wy (aL aa Z)<|wa (WW pz zb4 Z Z G G G) ?_;rintro _ _⟨aq,rfl,rfl⟩;refine bC (v:=sl (GG aq) p.length p.length) Z<|wn Z<|wq<|wa (iQ [] underlying232 bIk Z Z Z Z) ?_;rintro _ _⟨fi,rfl,rfl⟩;refine wn Z<|aD<|wq<|wm Z<|wy (aL aa Z)<|wm Z<|aA<|aH ?_;refine uL (λ(i:Int) (A1:AF) (n1:Nat) (c1:Nat) (vals:AG) (ls:AD) (E:List Bool) (Rs:List Row)=>[(0,sl Vb p.length Ve),(4,sl (GG aq) p.length p.length),(5,sl A1 n1 c1),(17,I (p.length:Int)),(18,I i)]) (λi A1 n1 c1 vals ls E Rs=>(⟨52,1,A1,n1,c1,vals,false⟩::⟨4,1,(GG aq),p.length,p.length,bools E,false⟩::Rs)) (λi A1 n1 c1 vals ls E Rs=>(0<=i)/\(i<=p.length)/\(n1=vals.length)/\(SlR .i64 Rs vals ls)/\(jM p i.toNat=(E,ls))) (λi A1 n1 c1 vals ls E Rs=>(p.length-i).toNat) ?_ ?_
 ·exact⟨0,GG fi,0,0,[],[],List.replicate p.length false,[],⟨G,G,(Z),(SlR.nil _),(Z)⟩,KP⟩
 intro i A1 n1 c1 vals ls E Rs ⟨bb,gd,cm,lf,Kx⟩;have Ry:E.length=p.length:=by have h:=(mI hp i.toNat G).1;rw[Kx] at h;exact h
 have Kz:vals.length<=i.toNat:=by have h:=NZ p i.toNat;rw[Kx] at h;rw[lf.1];exact h
 refine wq<|wL Z Z<|aA<|aD<|bA Z (λba=> ?_) (λba=> ?_)
 ·refine aI<|aD<|aH<|wq<|wm Z<|wn Z<|wq<|bT (R1:=((ri 3 none 0 0 ([]))::⟨52,1,A1,n1,c1,vals,false⟩::⟨4,1,(GG aq),p.length,p.length,bools E,false⟩::Rs)) (Sub.refl _) (λ_ h=>h.nil 3 1)<|wn Z<|aD<|aD ?_;refine aK<|wm Z<|wn Z<|aH ?_;refine JI (λ(k:Int) (A2:AF) (n2:Nat) (c2:Nat) (acc:AH) (E2:List Bool) (f:Nat)=>[(0,sl Vb p.length Ve),(4,sl (GG aq) p.length p.length),(5,sl A1 n1 c1),(7,sl A2 n2 c2),(8,I k),(17,I (p.length:Int)),(18,I i)]) (λk A2 n2 c2 acc E2 f=>((ri 3 A2 n2 c2 acc)::⟨52,1,A1,n1,c1,vals,false⟩::⟨4,1,(GG aq),p.length,p.length,bools E2,false⟩::Rs)) (λk A2 n2 c2 acc E2 f=>(0<=k)/\(k<p.length)/\(n2=acc.length)/\(E2.length=p.length)/\(cntF E2<=f)/\((acc++(gY p f E2 k).1,(gY p f E2 k).2)=gY p p.length E i)) (λk A2 n2 c2 acc E2 f=>f) ?_ ?_
  ·exact⟨i,none,0,0,[],E,p.length,⟨G,G,(Z),(Ry),(by have:cntF E<=E.length:=List.countP_le_length;omega),(Z)⟩,KP⟩
  intro k A2 n2 c2 acc E2 f ⟨ju,tz,pj,Xm,hf,hw⟩;have qt:=aCv hp Ry bb G hw;refine aD<|wq<|wm Z<|wm Z<|wy (aF pz sz4 Z Z (rdr 2 Z))<|wy (GY za Z Z (rdr 2 Z))<|wy (uH Z)<|aA<|bA Z (λcj=> ?_) (λcj=> ?_)
  ·have hgo:=KL (p:=p) ju G hf cj;have a8:=ED ju G cj;have ff:=OC ju G cj;have Fl:=aZ.1 (hp.subset (bI (L:=p) ju tz));refine aI<|aD<|aH<|wq<|wm Z<|wm Z<|wy (aF pz sz4 Z Z (rdr 2 Z))<|dC (xR 2 Z sz4 Z Z) ?_;rintro _ _ rfl;refine aA<|aK<|wm Z<|wm Z<|wa (bH .i64 [k] aa zs3 Z Z Z) ?_;rintro _ _⟨io,rfl,rfl⟩;refine wa (aQ 1 Z aa zb3 Z Z Z (rdr 0 Z)) ?_;rintro _ _⟨gg,ef,rfl,rfl⟩;refine bC (v:=sl gg (n2+1) ef) Z<|wn Z<|aK<|wm Z<|wm Z<|wy (aF aa sz3 Z Z (Iv.c _))<|wy (aU au Z Z (Iv.c _))<|wn Z ?_;exact⟨rd p k,gg,n2+1,ef,acc++([k]),qR E2 k true,(f-1),⟨G,G,(by rw[ah,pj];rfl),(by rw[lU];exact Xm),G,(by rw[<-hw,hgo];simp only[gq,oh])⟩,G,SA,λ_ h=>h.selR (F:=[_,_,_,_]) (F':=[_,_,_]) [1,2,3] cC Z⟩
  ·have Qp:gY p p.length E i=(acc,E2):=by rw[<-hw,uK (xh.1 cj),jh]
   refine aR<|wq<|wm Z<|wy (aL aa Z)<|wy (dA Z Z)<|aA<|bA Z (λfh=> ?_) (λfh=> ?_)
   ·refine aK<|wm Z<|wm Z<|wa (iQ [Value.slice A2 n2 c2] underlying232 bIk Z Z Z Z) ?_;rintro _ _⟨j4,rfl,rfl⟩;refine wa (fJ 2 Z Z underlying232 bNl Z Z Z Z Z (rdr 0 Z) (by simp[Value.oneCell']) (by dsimp only;omega)) ?_;rintro _ _⟨fz,ci,rfl,rfl⟩;refine bC (v:=sl fz (n1+1) ci) Z<|wn Z<|aK<|wA Z Z<|wm Z<|aA ?_;exact⟨i+1,fz,n1+1,ci,vals++([Value.slice A2 n2 c2]),(ls++[acc]),E2,((ri 3 A2 n2 c2 acc)::Rs),⟨G,G,(by rw[ah,cm];rfl),(lf.snoc pj),(bCf bb Kx Qp (λe=>by rw[e] at pj;simp at pj;omega))⟩,G,SA,λ_ h=>h.selR (F:=[_,_,_,_]) (F':=[_,_,_]) [2,3,1] cC rfl⟩
   ·refine aI<|aK<|wA Z Z<|wm Z<|aA ?_;exact⟨i+1,A1,n1,c1,vals,ls,E2,Rs,⟨G,G,(cm),(lf),(bHl bb Kx Qp (dw G))⟩,G,SA,λ_ h=>h.selR (F:=[_,_,_]) (F':=[_,_]) [1,2] cC Z⟩
 ·refine aR<|wq<|wm Z<|wg Z<|wn Z<|aT [0] 2 cC Z ?_;refine⟨_,_,Z,Z,?_⟩;obtain rfl:ls=fQ p:=by unfold fQ;rw[<-show i.toNat=p.length by omega,Kx]
  subst cm;exact⟨_,_,vals,Rs,Z,lf,Z⟩
end Go.Proofs.YtdbebmmhdefgdaaGreat
namespace Go.Proofs
open Go.Shelf
def Tryz.laysSlF06_f276_ren:Go.Shelf.Ren:=⟨λ|6=>276|15=>192|14=>304|28=>251|29=>252|20=>329|21=>330|22=>331|23=>332|24=>333|25=>334|26=>335|27=>336|46=>358|47=>282|48=>283|49=>359|50=>360|57=>366|n=>n,λ|22=>228|24=>230|25=>315|3=>3|39=>167|0=>0|53=>123|55=>112|4=>4|46=>289|45=>288|50=>97|5=>5|9=>9|66=>316|70=>320|76=>337|77=>338|n=>n,λ|n=>n⟩
theorem Tryz.laysSlF06_f276:Go.Proofs.SlLaysF0.n6 Tryz.prog Tryz.laysSlF06_f276_ren:= {
 mixed:=cA
 f6:=⟨Tryz.f276.name,cC,Tryz.func276.trans (bu some cA)⟩
 f14:=⟨Tryz.f304.name,cC,Tryz.func304.trans (bu some cA)⟩
 f15:=Tryz.func192.trans (bu some cA)
 f20:=⟨Tryz.f329.name,cC,Tryz.func329.trans (bu some cA)⟩
 f21:=⟨Tryz.f330.name,cC,Tryz.func330.trans (bu some cA)⟩
 f22:=⟨Tryz.f331.name,cC,Tryz.func331.trans (bu some cA)⟩
 f23:=⟨Tryz.f332.name,cC,Tryz.func332.trans (bu some cA)⟩
 f24:=⟨Tryz.f333.name,cC,Tryz.func333.trans (bu some cA)⟩
 f25:=⟨Tryz.f334.name,cC,Tryz.func334.trans (bu some cA)⟩
 f26:=⟨Tryz.f335.name,cC,Tryz.func335.trans (bu some cA)⟩
 f27:=⟨Tryz.f336.name,cC,Tryz.func336.trans (bu some cA)⟩
 f28:=Tryz.func251.trans (bu some cA)
 f29:=Tryz.func252.trans (bu some cA)
 f46:=⟨Tryz.f358.name,cC,Tryz.func358.trans (bu some cA)⟩
 f47:=Tryz.func282.trans (bu some cA)
 f48:=Tryz.func283.trans (bu some cA)
 f49:=⟨Tryz.f359.name,cC,Tryz.func359.trans (bu some cA)⟩
 f50:=⟨Tryz.f360.name,cC,Tryz.func360.trans (bu some cA)⟩
 f57:=⟨Tryz.f366.name,cC,Tryz.func366.trans (bu some cA)⟩
 t0:=Dx
 a0:=Jt
 z0:=Iz
 v0:=Ez
 t3:=Br
 a3:=Ha
 z3:=Fq
 v3:=Ck
 t4:=Dy
 a4:=Ju
 z4:=Ja
 v4:=Fa
 t5:=Dz
 a5:=Jv
 z5:=Jb
 v5:=Fb
 t9:=Ea
 a9:=Jw
 z9:=Jc
 v9:=Fe
 t22:=Tryz.underlying228
 a22:=Tryz.isAgg228
 z22:=Tryz.sizeOf228
 v22:=Tryz.zeroValue228
 t25:=Tryz.underlying315
 a25:=Tryz.isAgg315
 z25:=Tryz.sizeOf315
 v25:=Tryz.zeroValue315
 t39:=Ao
 a39:=Ed
 z39:=Dk
 v39:=Be
 t45:=Gc
 a45:=Tryz.isAgg288
 z45:=Tryz.sizeOf288
 v45:=He
 t46:=Gf
 a46:=Tryz.isAgg289
 z46:=Tryz.sizeOf289
 v46:=Hf
 t50:=Hd
 a50:=Tryz.isAgg97
 z50:=Tryz.sizeOf97
 v50:=Ie
 t53:=Cu
 a53:=Hw
 z53:=Gb
 v53:=Dm
 t55:=Cs
 a55:=Hu
 z55:=Ga
 v55:=Dl
 t66:=Gg
 a66:=Tryz.isAgg316
 z66:=Tryz.sizeOf316
 v66:=Hg
 t70:=Gh
 a70:=Tryz.isAgg320
 z70:=Tryz.sizeOf320
 v70:=Hl
 t76:=Gi
 a76:=Tryz.isAgg337
 z76:=Tryz.sizeOf337
 v76:=Hm
 t77:=Gj
 a77:=Tryz.isAgg338
 z77:=Tryz.sizeOf338
 v77:=Ho}
open Go.RowKit Go.Lib Go.Sort in
theorem Tryz.slices_SortFunc {α:Type} [Inhabited α] (k:Nat) (aE: ∀w,(isAgg 230).run Tryz.prog w= .ok true w) (zE: ∀w,(Go.sizeOf 230).run Tryz.prog w= .ok k w) (enc:α->AG) (hk: ∀x,(enc x).length=k) (h1: ∀x,∀v∈enc x,v.oneCell'=true) (cf:α->α->Int) (hO:SWO (ltOf cf)) (g:Nat) (cb:Array Value) (go off cap:Nat) (d:Array α) (w:World) (eg: ∀args w,(callFunc g args).run Tryz.prog w= .ok (.enter g args) w) (xv:CmpLays Tryz.prog g cb enc k cf go off d.size w) (hH:HoldsK enc k w go off d) (hblk:go<w.heap.size) (hsz:d.size<4611686018427387904):
  Calls Tryz.prog 276 #[.slice (some ⟨go,off,none⟩) d.size cap, .func (.func g) #[] cb] w λe w'=>
   e= .returned (.tuple #[])/\ ∃d' n os,PermIn 0 d.size d d'/\SortedIn (ltOf cf) 0 d.size d'/\w'=sortWorldK enc k w go off n d' os:=AnyQ.slices_SortFunc Tryz.laysSlF06_f276 k aE zE enc hk h1 cf hO g cb go off cap d w eg xv hH hblk hsz
end Go.Proofs
namespace Go.Proofs.YtdbebmmhdefgdaaGreat
open Go Go.Eng Go.Pure
open Tryz
set_option maxRecDepth 100000
variable {w:World} {o5 qu z6 oe kj mw:Nat} {w5 nw ki mv:AF} {qk:AG} {ws:AD} {bs rs:AH} {t1 t2 h:Int}
theorem aTg {me:AF} {pk mn:Nat} {l:AH} (kp:Rd w me pk mn 1 (ints .i64 l)):
  CF 119 #[sl me pk mn] w (λv R'=>v=I (orL l)):=by
 obtain rfl:=kp.lenI;refine fn1 Tryz.func119 Z Z Z ?_;have Pk:=kp.max;refine wq<|wn Z<|wq<|wn Z<|aD<|wq<|wm Z<|wy (aL aa Z)<|wm Z<|aA ?_;refine aH ?_;refine gZ (λ(k:Int)=>[(3,I 0),(6,sl me l.length mn),(7,I (l.length:Int)),(8,I k)]) (λk=>[]) (λk=>(0<=k)/\(k<=l.length)/\(orL l=orL (l.drop k.toNat))) (λk=>(l.length-k).toNat) ?_ ?_
 ·exact⟨0,⟨G,G,(Z)⟩,KP⟩
 intro k ⟨ju,tz,ho⟩;refine wq<|wL Z Z<|aA<|aD<|bA Z (λba=> ?_) (λba=> ?_)
 ·refine aI<|aD<|aH<|wq<|wy (aF aa sz3 Z Z (kp.c _))<|wy (aU au Z Z (kp.c _))<|wn Z<|wq<|wm Z<|wm Z<|wy (jP Z Z)<|aA ?_;refine bA Z (λcj=> ?_) (λcj=> ?_)
  ·refine wq<|wm Z<|wn Z<|bQ ?_;refine⟨_,Z,?_⟩;exact bu (Value.int .i64) (by rw[ho,bAh ju G G])
  ·refine aI<|aK<|wA Z Z<|wm Z<|aA ?_;exact⟨k+1,⟨G,G,(by rw[ho,bGh ju G G])⟩,G,KP⟩
 ·refine aR<|wq<|wm Z<|wn Z<|bQ ?_;refine⟨_,Z,?_⟩;exact bu (Value.int .i64) (by rw[ho,qd G];rfl)
theorem xQ (co:Rd w (GG o5) 1 1 4 [sl w5 ws.length z6,sl nw qu oe,sl ki bs.length kj,sl mv rs.length mw]) (t8:Rd w w5 ws.length z6 1 qk) (Na:SlW .u8 w qk ws) (ie:Rd w ki bs.length kj 1 (ints .i64 bs)) (t7:Rd w mv rs.length mw 1 (ints .i64 rs)) (Sh:0<=t1/\t1<ws.length/\t1<bs.length) (Sn:0<=t2/\t2<=1000000) (Sr:0<(rdl ws t1).length) (St:0<=rd bs t1/\rd bs t1+(rdl ws t1).length<=rs.length) (hh:0<=h/\h<=1000000):
  CF 279 #[PG o5, .agg #[I t1,I t2],I h] w (λv R'=>v=I (ahd ws bs rs (t1,t2) h)):=by
 refine fn1 Tryz.func279 Z Z Z ?_;have m_r:=t7.max;have v7:=ie.max;have m_w:=t8.max;have e1:=jv (t2+h) (show((rdl ws t1).length:Int)≠0 by omega);have e2:=iy (t2+h) (show(0:Int)<((rdl ws t1).length:Int) by omega);refine wq<|wa (cB (sz:=2) Z Z) ?_;rintro _ _⟨aq,rfl,rfl⟩;refine wn Z<|aD<|bF mixed<|wD 0 Z (aJ Z)<|wD 1 Z (aG Z)<|wD 2 Z (yF 3 3 ry fV Z)<|wD 3 Z (fM (co.c _) aa Z Z Z)<|wD 4 Z (aJ Z)<|wD 5 Z (aG Z)<|wD 6 Z (yF 2 2 ry fV Z)<|wD 7 Z (fM (co.c _) aa Z Z Z)<|wD 8 Z (dK (q:=0) (rdr 0 Z) jo sz3 Z Z (ak Z) cC cC Z)<|wD 9 Z (yL 0 au Z Z Z)<|wD 10 Z (aF aa sz3 Z Z (ie.c _)) ?_;refine wD 11 Z (aU au Z Z (ie.c _))<|wD 12 Z (dK (q:=1) (rdr 0 Z) jo sz3 Z Z (ak Z) cC cC Z)<|wD 13 Z (yL 0 au Z Z Z)<|wD 14 Z (aJ Z)<|wD 15 Z (cK Z Z)<|wD 16 Z (aJ Z)<|wD 17 Z (aG Z)<|wD 18 Z (yF 0 0 ry jC Z)<|wD 19 Z (fM (co.c _) ay Z Z Z)<|wD 20 Z (dK (q:=0) (rdr 0 Z) jo sz3 Z Z (ak Z) cC cC Z)<|wD 21 Z (yL 0 au Z Z Z)<|wD 22 Z (aF ay dH Z Z (t8.c _)) ?_;obtain⟨en,es,Pg,Fr,Yd,Ut⟩:=Na.at (i:=t1) G G;refine wD 23 Z (lC af Z Z Z (t8.c _) Pg)<|wD 24 Z (aL af Z)<|wD 25 Z (rR Z Z)<|wD 26 Z (cK Z Z)<|wD 27 Z (aF aa sz3 Z Z (t7.c _))<|wD 28 Z (aU au Z Z (t7.c _))<|wD 29 Z (bB Z)<|wN<|aT [] 99 cC Z ?_;refine⟨_,Z,?_⟩;rfl
theorem VI (co:Rd w (GG o5) 1 1 4 [sl w5 ws.length z6,sl nw qu oe,sl ki bs.length kj,sl mv rs.length mw]) (t8:Rd w w5 ws.length z6 1 qk) (Na:SlW .u8 w qk ws) (ie:Rd w ki bs.length kj 1 (ints .i64 bs)) (t7:Rd w mv rs.length mw 1 (ints .i64 rs)) (Sh:0<=t1/\t1<ws.length/\t1<bs.length) (Sn:0<=t2/\t2<=1000000) (Sr:0<(rdl ws t1).length) (St:0<=rd bs t1/\rd bs t1+(rdl ws t1).length<=rs.length):
  CF 278 #[PG o5, .agg #[I t1,I t2]] w (λv R'=>v=I (ahd ws bs rs (t1,t2) 0)):=by
 refine fn1 Tryz.func278 Z Z Z ?_;have m_r:=t7.max;have v7:=ie.max;have m_w:=t8.max;refine wq<|wa (cB (sz:=2) Z Z) ?_;rintro _ _⟨aq,rfl,rfl⟩;refine wn Z<|wq<|wm Z<|wy (bM (vs:=[I t1,I t2]) (rdr 0 Z) jo Z jQ Z Z (ak Z) Z)<|wa (aC aAy Z (Ct.quiet (λw hw=>xQ ((co.c _) w hw) ((t8.c _) w hw) (Na.c hw) ((ie.c _) w hw) ((t7.c _) w hw) cE cE cE cE cE))) ?_;rintro _ _⟨rfl,rfl⟩;refine wn Z<|aT [] 99 cC Z ?_;refine⟨_,Z,?_⟩;rfl
theorem aDc {u1 u2:Int} {g_p:Nat} {g_h:Nat} (co:Rd w (GG o5) 1 1 4 [sl w5 ws.length z6,sl nw qu oe,sl ki bs.length kj,sl mv rs.length mw]) (t8:Rd w w5 ws.length z6 1 qk) (Na:SlW .u8 w qk ws) (ie:Rd w ki bs.length kj 1 (ints .i64 bs)) (t7:Rd w mv rs.length mw 1 (ints .i64 rs)) (Iv:Rd w (GG g_p) 1 1 1 [PG o5]) (h_h:Rd w (GG g_h) 1 1 1 [I h]) (Sh:0<=t1/\t1<ws.length/\t1<bs.length) (Sn:0<=t2/\t2<=1000000) (Sr:0<(rdl ws t1).length) (St:0<=rd bs t1/\rd bs t1+(rdl ws t1).length<=rs.length) (ha_u:0<=u1/\u1<ws.length/\u1<bs.length) (hb_u:0<=u2/\u2<=1000000) (hc_u:0<(rdl ws u1).length) (hd_u:0<=rd bs u1/\rd bs u1+(rdl ws u1).length<=rs.length) (hh:0<=h/\h<=1000000):
  CF 277 #[.agg #[I t1,I t2], .agg #[I u1,I u2],PG g_p,PG g_h] w (λv R'=>v=I (aDe ws bs rs h (t1,t2) (u1,u2))):=by
 refine fn1 Tryz.func277 Z Z Z ?_;have m_r:=t7.max;have v7:=ie.max;have m_w:=t8.max;refine wq<|wa (cB (sz:=2) Z Z) ?_;rintro _ _⟨aq,rfl,rfl⟩;refine wa (cB (sz:=2) Z Z) ?_;rintro _ _⟨fi,rfl,rfl⟩;refine wn Z<|aD<|bF mixed<|wD 0 Z (fM (Iv.c _) uy Z Z Z)<|wD 1 Z (bM (vs:=[I t1,I t2]) (rdr 1 Z) jo Z jQ Z Z (ak Z) Z)<|wD 3 Z (fM (Iv.c _) uy Z Z Z)<|wD 4 Z (bM (vs:=[I u1,I u2]) (rdr 0 Z) jo Z jQ Z Z (ak Z) Z)<|wD 7 Z (fM (Iv.c _) uy Z Z Z)<|wD 8 Z (bM (vs:=[I t1,I t2]) (rdr 1 Z) jo Z jQ Z Z (ak Z) Z)<|wD 9 Z (fM (h_h.c _) au Z Z Z)<|wD 11 Z (fM (Iv.c _) uy Z Z Z)<|wD 12 Z (bM (vs:=[I u1,I u2]) (rdr 0 Z) jo Z jQ Z Z (ak Z) Z)<|wD 13 Z (fM (h_h.c _) au Z Z Z)<|wD 16 Z (dK (q:=0) (rdr 1 Z) jo sz3 Z Z (ak Z) cC cC Z) ?_;refine wD 17 Z (yL 1 au Z Z Z)<|wD 18 Z (dK (q:=0) (rdr 0 Z) jo sz3 Z Z (ak Z) cC cC Z)<|wD 19 Z (yL 0 au Z Z Z)<|wD 21 Z (dK (q:=1) (rdr 1 Z) jo sz3 Z Z (ak Z) cC cC Z)<|wD 22 Z (yL 1 au Z Z Z)<|wD 23 Z (dK (q:=1) (rdr 0 Z) jo sz3 Z Z (ak Z) cC cC Z)<|wD 24 Z (yL 0 au Z Z Z)<|wC 2 Z (aC aJh Z (Ct.quiet (λw hw=>VI ((co.c _) w hw) ((t8.c _) w hw) (Na.c hw) ((ie.c _) w hw) ((t7.c _) w hw) cE cE cE cE))) ?_;rintro _ _⟨rfl,rfl⟩;refine⟨.inr hiZ,?_⟩;refine wC 5 Z (aC aJh Z (Ct.quiet (λw hw=>VI ((co.c _) w hw) ((t8.c _) w hw) (Na.c hw) ((ie.c _) w hw) ((t7.c _) w hw) cE cE cE cE))) ?_;rintro _ _⟨rfl,rfl⟩;refine⟨.inr hiZ,?_⟩;refine wC 6 Z (aC aBa Z (Ct.quiet (λw hw=>pV))) ?_;rintro _ _⟨rfl,rfl⟩;refine⟨.inr hiZ,?_⟩;refine wC 10 Z (aC aAy Z (Ct.quiet (λw hw=>xQ ((co.c _) w hw) ((t8.c _) w hw) (Na.c hw) ((ie.c _) w hw) ((t7.c _) w hw) cE cE cE cE cE))) ?_;rintro _ _⟨rfl,rfl⟩;refine⟨.inr hiZ,?_⟩;refine wC 14 Z (aC aAy Z (Ct.quiet (λw hw=>xQ ((co.c _) w hw) ((t8.c _) w hw) (Na.c hw) ((ie.c _) w hw) ((t7.c _) w hw) cE cE cE cE cE))) ?_;rintro _ _⟨rfl,rfl⟩;refine⟨.inr hiZ,?_⟩;refine wC 15 Z (aC aBa Z (Ct.quiet (λw hw=>pV))) ?_;rintro _ _⟨rfl,rfl⟩;refine⟨.inr hiZ,?_⟩;refine wC 20 Z (aC aBa Z (Ct.quiet (λw hw=>pV))) ?_;rintro _ _⟨rfl,rfl⟩;refine⟨.inr hiZ,?_⟩;refine wC 25 Z (aC aBa Z (Ct.quiet (λw hw=>pV))) ?_;rintro _ _⟨rfl,rfl⟩;refine⟨.inr hiZ,?_⟩;refine wC 26 Z (bH .i64 [iG (ahd ws bs rs (t1,t2) 0) (ahd ws bs rs (u1,u2) 0),iG (ahd ws bs rs (t1,t2) h) (ahd ws bs rs (u1,u2) h),iG t1 u1,iG t2 u2] aa zs3 Z Z Z) ?_;rintro _ _⟨io,rfl,rfl⟩;refine⟨.inr hrZ,?_⟩;refine wC 27 Z (aC bEx Z (Ct.quiet (λw hw=>aTg ((rdr 0 Z) w hw)))) ?_;rintro _ _⟨rfl,rfl⟩;refine⟨.inr hiZ,?_⟩;refine wD 28 Z (bB Z)<|wN<|aT [] 99 cC Z ?_;refine⟨_,Z,?_⟩;rfl
theorem aDi (cb:Array Value):aKf Tryz.prog 276 277 cb:=λα _ enc hk h1 cf hO go off cap d w xv hH hblk hsz=>
 Tryz.slices_SortFunc 2 (λw=>cA) (λw=>cA) enc hk h1 cf hO 277 cb go off cap d w bKb xv hH hblk hsz
theorem aFx {B:Nat} {w0:World} {R:List Row} {b7:AF} {Pm qe Ux b9:Nat} {ts:AE} (yp:Pm=ts.length) (hnb:qe=bs.length) (hnr:Ux=rs.length) (u9:RdC B w0 R w5 ws.length z6 1 qk) (m4: ∀w,Hp B w0 w R->SlW .u8 w qk ws) (hv: ∀t∈ts,TOk ws bs rs.length t) (Oj: ∀t∈ts,∀u∈ts,iM bs t=iM bs u->t=u) (hnd:ts.Nodup) (cv:ts≠[]) (hN:rs.length<=1000000/\ts.length<=1000000) (hh:0<=h/\h<=1000000):
  CT 238 #[PG o5,sl b7 Pm b9,I h] B w0 ((rc 281 4 o5 [sl w5 ws.length z6,sl nw qu oe,sl ki qe kj,sl mv Ux mw])::⟨230,2,b7,Pm,b9,prs ts,false⟩::(ri 3 ki qe kj bs)::(ri 3 mv Ux mw rs)::R) (λv R'=> ∃(l1:AE) (rk:AH) (A':AF) (c':Nat),v=I (iU ws bs rs h l1 (l1.length-1))/\l1.Perm ts/\l1.Pairwise (λx y=> ¬aDe ws bs rs h y x<0)/\rk.length=rs.length/\(∀j:Nat,j<l1.length->rd rk (iM bs (rdp l1 j))=iU ws bs rs h l1 j)/\R'=(rc 281 4 o5 [sl w5 ws.length z6,sl nw qu oe,sl ki qe kj,sl A' Ux c'])::⟨230,2,b7,Pm,b9,prs l1,false⟩::(ri 3 ki qe kj bs)::(ri 3 A' Ux c' rk)::R):=by
 subst yp;subst hnb;subst hnr;refine fn1 Tryz.func238 Z Z Z ?_;have Tc: ∀t∈ts,0<=iM bs t:=λt ht=>by have:=hv t ht;unfold TOk at this;unfold iM;omega
 refine wq<|wa (cB (sz:=1) Z Z) ?_;rintro _ _⟨aq,rfl,rfl⟩;refine wa (cB (sz:=1) Z Z) ?_;rintro _ _⟨fi,rfl,rfl⟩;refine wn Z<|wq<|wm Z<|wy (mG Z Z)<|wa (aC bKc Z (aDk (aDi _) 3 Z cv G (aDe ws bs rs h) (aQl ws bs rs h) (λW hW x hx y hy=>aDc ((rdr 2 Z) W hW) ((RdC.right u9 [_,_,_,_,_]) W hW) (m4 W (Hp.right (R':=[_,_,_,_,_]) hW)) ((rdr 3 Z) W hW) ((rdr 4 Z) W hW) ((rdr 1 Z) W hW) ((rdr 0 Z) W hW) (hv x hx).1 (by have:=(hv x hx).2.1;omega) (hv x hx).2.2.1 (hv x hx).2.2.2 (hv y hy).1 (by have:=(hv y hy).2.1;omega) (hv y hy).2.2.1 (hv y hy).2.2.2 hh))) ?_;rintro _ _⟨rfl,l1,qv,vq,rfl⟩;have yd:=qv.length_eq;have Ul: ∀t∈l1,TOk ws bs rs.length t:=λt ht=>hv t (qv.mem_iff.1 ht);have Oo:=qv.nodup_iff.2 hnd;refine aA<|wq<|wy (yL 1 uy Z Z Z)<|wy (aG Z)<|wy (yF 3 3 ry fV Z)<|wy (yL 2 aa Z Z Z)<|wy (aL aa Z)<|wa (dM aa zb3 Z Z) ?_;rintro _ _⟨jt,rfl,rfl⟩;refine bC (v:=sl (GG jt) rs.length rs.length) Z<|wn Z<|wq<|wn Z<|aD<|wq<|wm Z<|wy (aL jg Z)<|wm Z<|aA<|aH ?_;refine gN (λ(i:Int) (n:Int) (rk:AH)=>[(1,sl b7 ts.length b9),(3,PG aq),(5,PG fi),(7,sl (GG jt) rs.length rs.length),(8,I n),(21,sl b7 ts.length b9),(22,I (ts.length:Int)),(23,I i)]) (λi n rk=>((ri 3 (GG jt) rs.length rs.length rk)::(rc 3 1 fi [I h])::(rc 279 1 aq [PG o5])::(rc 281 4 o5 [sl w5 ws.length z6,sl nw qu oe,sl ki bs.length kj,sl mv rs.length mw])::⟨230,2,b7,ts.length,b9,prs l1,false⟩::(ri 3 ki bs.length kj bs)::(ri 3 mv rs.length mw rs)::R)) (λi n rk=>(0<=i)/\(i<=l1.length)/\(0<=n/\n<=i)/\(n=iU ws bs rs h l1 (i-1).toNat)/\(rk.length=rs.length)/\(∀j:Nat,j<i->rd rk (iM bs (rdp l1 j))=iU ws bs rs h l1 j)) (λi n rk=>(l1.length-i).toNat) ?_ ?_
 ·exact⟨0,0,List.replicate rs.length (0:Int),⟨G,G,G,(Z),(by rw[dh]),(λj hj=>G)⟩,KP⟩
 intro i n rk ⟨bb,gd,Le,hn,Mk,l9⟩;refine wq<|wL Z Z<|aA<|aD<|bA Z (λba=> ?_) (λba=> ?_)
 ·have hq:=Ul _ (jY bb (show i<l1.length by omega));obtain⟨⟨q1,q2,q3⟩,⟨q4,q5,q6⟩,q7,q8,q9⟩:=hq;have Ll: ∀t∈l1,0<=iM bs t:=λt ht=>Tc t (qv.mem_iff.1 ht);have pn: ∀t∈l1,∀u∈l1,iM bs t=iM bs u->t=u:=λt ht u hu=>Oj t (qv.mem_iff.1 ht) u (qv.mem_iff.1 hu);refine aI<|aD<|aH<|wq<|wm Z<|wy (mU jg jQ Z Z (rdr 4 Z) Z)<|wy (aHh jo Z jQ Z (rdr 4 Z))<|wa (kF (sz:=2) aHe Z) ?_;rintro _ _⟨ir,rfl,rfl⟩;refine wg Z<|dC (jN (vs:=[I ((rdp l1 i).1),I ((rdp l1 i).2)]) 0 Z jQ Z Z Z (by intro v hv;simp at hv;rcases hv with rfl|rfl<;>rfl) Z) ?_;rintro _ _ rfl;refine aA<|aD<|wq<|wm Z<|wy (dA Z Z)<|aA<|bA Z (λcj=> ?_) (λcj=> ?_)
  ·have Ql:=Ul _ (jY (show 0<=i-1 by omega) (show i-1<l1.length by omega));obtain⟨⟨p1,p2,p3⟩,⟨p4,p5,p6⟩,p7,p8,p9⟩:=Ql;refine wq<|wm Z<|wm Z<|wS Z Z<|wy (mU jg jQ Z Z (rdr 5 Z) Z)<|wy (aHh jo Z jQ Z (rdr 5 Z))<|wa (kF (sz:=2) aHe Z) ?_;rintro _ _⟨ml,rfl,rfl⟩;refine dC (jN (vs:=[I ((rdp l1 (i-1)).1),I ((rdp l1 (i-1)).2)]) 0 Z jQ Z Z Z (by intro v hv;simp at hv;rcases hv with rfl|rfl<;>rfl) Z) ?_;rintro _ _ rfl;refine aA ?_;refine uM [(1,sl b7 ts.length b9),(3,PG aq),(5,PG fi),(7,sl (GG jt) rs.length rs.length),(8,I n),(10,PG ir),(21,sl b7 ts.length b9),(22,I (ts.length:Int)),(23,I i),(52, .bool (decide (((ahd ws bs rs (((rdp l1 (i-1)).1),((rdp l1 (i-1)).2)) 0)≠(ahd ws bs rs (((rdp l1 i).1),((rdp l1 i).2)) 0))\/((ahd ws bs rs (((rdp l1 (i-1)).1),((rdp l1 (i-1)).2)) h)≠(ahd ws bs rs (((rdp l1 i).1),((rdp l1 i).2)) h)))))] ((rc 230 2 ml [I ((rdp l1 (i-1)).1),I ((rdp l1 (i-1)).2)])::(rc 230 2 ir [I ((rdp l1 i).1),I ((rdp l1 i).2)])::(ri 3 (GG jt) rs.length rs.length rk)::(rc 3 1 fi [I h])::(rc 279 1 aq [PG o5])::(rc 281 4 o5 [sl w5 ws.length z6,sl nw qu oe,sl ki bs.length kj,sl mv rs.length mw])::⟨230,2,b7,ts.length,b9,prs l1,false⟩::(ri 3 ki bs.length kj bs)::(ri 3 mv rs.length mw rs)::R) ?_ ?_
   ·refine bF mixed<|wD 0 Z (yL 4 uy Z Z Z)<|wD 1 Z (bM (vs:=[I ((rdp l1 (i-1)).1),I ((rdp l1 (i-1)).2)]) (rdr 0 Z) jo Z jQ Z Z (ak Z) Z)<|wD 3 Z (yL 4 uy Z Z Z)<|wD 4 Z (bM (vs:=[I ((rdp l1 i).1),I ((rdp l1 i).2)]) (rdr 1 Z) jo Z jQ Z Z (ak Z) Z)<|wC 2 Z (aC aJh Z (Ct.quiet (λw hw=>VI ((rdr 5 Z) w hw) ((RdC.right u9 [_,_,_,_,_,_,_,_,_]) w hw) (m4 w (Hp.right (R':=[_,_,_,_,_,_,_,_,_]) hw)) ((rdr 7 Z) w hw) ((rdr 8 Z) w hw) cE cE cE cE))) ?_;rintro _ _⟨rfl,rfl⟩;refine⟨.inr hiZ,?_⟩;refine wC 5 Z (aC aJh Z (Ct.quiet (λw hw=>VI ((rdr 5 Z) w hw) ((RdC.right u9 [_,_,_,_,_,_,_,_,_]) w hw) (m4 w (Hp.right (R':=[_,_,_,_,_,_,_,_,_]) hw)) ((rdr 7 Z) w hw) ((rdr 8 Z) w hw) cE cE cE cE))) ?_;rintro _ _⟨rfl,rfl⟩;refine⟨.inr hiZ,?_⟩;refine wD 6 Z (jP Z Z)<|wD 7 Z (aJ Z)<|oZ 42 Z (λfh=> ?_) (λfh=> ?_)
    ·refine wO 8 Z Z Z<|wO 9 Z Z Z<|wO 10 Z Z Z<|wO 11 Z Z Z<|wO 12 Z Z Z<|wO 13 Z Z Z<|wO 14 Z Z Z<|wO 15 Z Z Z<|wO 16 Z Z Z<|wD 17 Z (aS Z Z)<|wN ?_;exact KP
    ·refine wG 8 Z Z Z (yL 4 uy Z Z Z)<|wG 9 Z Z Z (bM (vs:=[I ((rdp l1 (i-1)).1),I ((rdp l1 (i-1)).2)]) (rdr 0 Z) jo Z jQ Z Z (ak Z) Z)<|wG 10 Z Z Z (yL 3 au Z Z Z)<|wG 12 Z Z Z (yL 4 uy Z Z Z)<|wG 13 Z Z Z (bM (vs:=[I ((rdp l1 i).1),I ((rdp l1 i).2)]) (rdr 1 Z) jo Z jQ Z Z (ak Z) Z)<|wG 14 Z Z Z (yL 3 au Z Z Z)<|rU 11 Z cA Z Z Z (aC aAy Z (Ct.quiet (λw hw=>xQ ((rdr 5 Z) w hw) ((RdC.right u9 [_,_,_,_,_,_,_,_,_]) w hw) (m4 w (Hp.right (R':=[_,_,_,_,_,_,_,_,_]) hw)) ((rdr 7 Z) w hw) ((rdr 8 Z) w hw) cE cE cE cE cE))) ?_;rintro _ _⟨rfl,rfl⟩;refine⟨.inr hiZ,?_⟩;refine rU 15 Z cA Z Z Z (aC aAy Z (Ct.quiet (λw hw=>xQ ((rdr 5 Z) w hw) ((RdC.right u9 [_,_,_,_,_,_,_,_,_]) w hw) (m4 w (Hp.right (R':=[_,_,_,_,_,_,_,_,_]) hw)) ((rdr 7 Z) w hw) ((rdr 8 Z) w hw) cE cE cE cE cE))) ?_;rintro _ _⟨rfl,rfl⟩;refine⟨.inr hiZ,?_⟩;refine wG 16 Z Z Z (jP Z Z)<|wD 17 Z (aO Z Z)<|wN ?_;exact KP
   refine bA Z (λjj=> ?_) (λjj=> ?_)
   ·refine aK<|wm Z<|wA Z Z<|wn Z<|bF mixed<|wD 0 Z (aJ Z)<|wD 1 Z (yL 4 uy Z Z Z)<|wD 2 Z (aG Z)<|wD 3 Z (yF 2 2 ry fV Z)<|wD 4 Z (yL 5 aa Z Z Z)<|wD 5 Z (dK (q:=0) (rdr 1 Z) jo sz3 Z Z (ak Z) cC cC Z)<|wD 6 Z (yL 1 au Z Z Z)<|wD 7 Z (aF aa sz3 Z Z (rdr 7 Z))<|wD 8 Z (aU au Z Z (rdr 7 Z)) ?_;refine wD 9 Z (dK (q:=1) (rdr 1 Z) jo sz3 Z Z (ak Z) cC cC Z)<|wD 10 Z (yL 1 au Z Z Z)<|wD 11 Z (cK Z Z)<|wD 12 Z (aJ Z)<|wD 13 Z (aF aa sz3 Z Z (rdr 2 Z))<|qD 14 Z cA (bG 2 Z sz3 Z Z) ?_;rintro _ _ rfl;refine⟨.inl cA,?_⟩;refine wN<|aK<|wA Z Z<|wm Z<|aA ?_;exact⟨i+1,n+1,upd rk ((rd bs ((rdp l1 i).1))+((rdp l1 i).2)) (n+1),⟨G,G,G,(by rw[show i+1-1=i by omega,yT G,di cF,<-hn]),(by rw[upd,Ex];exact Mk),(zT Oo pn bb G Ll (by unfold iM;omega) l9 (by have e:(i+1-1)=i:=G;have hc:=(by rw[show i+1-1=i by omega,yT G,di cF,<-hn]:_=iU ws bs rs h l1 (i+1-1).toNat);rw[e] at hc;exact hc))⟩,G,SA,λ_ h=>h.selR (F:=[_,_,_,_,_,_,_,_,_]) (F':=[_,_,_,_,_,_,_]) [2,3,4,5,6,7,8] cC Z⟩
   ·refine aI<|bF mixed<|wD 0 Z (aJ Z)<|wD 1 Z (yL 4 uy Z Z Z)<|wD 2 Z (aG Z)<|wD 3 Z (yF 2 2 ry fV Z)<|wD 4 Z (yL 5 aa Z Z Z)<|wD 5 Z (dK (q:=0) (rdr 1 Z) jo sz3 Z Z (ak Z) cC cC Z)<|wD 6 Z (yL 1 au Z Z Z)<|wD 7 Z (aF aa sz3 Z Z (rdr 7 Z))<|wD 8 Z (aU au Z Z (rdr 7 Z))<|wD 9 Z (dK (q:=1) (rdr 1 Z) jo sz3 Z Z (ak Z) cC cC Z)<|wD 10 Z (yL 1 au Z Z Z)<|wD 11 Z (cK Z Z)<|wD 12 Z (aJ Z) ?_;refine wD 13 Z (aF aa sz3 Z Z (rdr 2 Z))<|qD 14 Z cA (bG 2 Z sz3 Z Z) ?_;rintro _ _ rfl;refine⟨.inl cA,?_⟩;refine wN<|aK<|wA Z Z<|wm Z<|aA ?_;exact⟨i+1,n,upd rk ((rd bs ((rdp l1 i).1))+((rdp l1 i).2)) n,⟨G,G,G,(by rw[show i+1-1=i by omega,yT G,df cF,<-hn,yj]),(by rw[upd,Ex];exact Mk),(zT Oo pn bb G Ll (by unfold iM;omega) l9 (by have e:(i+1-1)=i:=G;have hc:=(by rw[show i+1-1=i by omega,yT G,df cF,<-hn,yj]:_=iU ws bs rs h l1 (i+1-1).toNat);rw[e] at hc;exact hc))⟩,G,SA,λ_ h=>h.selR (F:=[_,_,_,_,_,_,_,_,_]) (F':=[_,_,_,_,_,_,_]) [2,3,4,5,6,7,8] cC Z⟩
  ·refine aI<|bF mixed<|wD 0 Z (aJ Z)<|wD 1 Z (yL 3 uy Z Z Z)<|wD 2 Z (aG Z)<|wD 3 Z (yF 2 2 ry fV Z)<|wD 4 Z (yL 4 aa Z Z Z)<|wD 5 Z (dK (q:=0) (rdr 0 Z) jo sz3 Z Z (ak Z) cC cC Z)<|wD 6 Z (yL 0 au Z Z Z)<|wD 7 Z (aF aa sz3 Z Z (rdr 6 Z))<|wD 8 Z (aU au Z Z (rdr 6 Z))<|wD 9 Z (dK (q:=1) (rdr 0 Z) jo sz3 Z Z (ak Z) cC cC Z)<|wD 10 Z (yL 0 au Z Z Z)<|wD 11 Z (cK Z Z)<|wD 12 Z (aJ Z) ?_;refine wD 13 Z (aF aa sz3 Z Z (rdr 1 Z))<|qD 14 Z cA (bG 1 Z sz3 Z Z) ?_;rintro _ _ rfl;refine⟨.inl cA,?_⟩;refine wN<|aK<|wA Z Z<|wm Z<|aA ?_;exact⟨i+1,n,upd rk ((rd bs ((rdp l1 i).1))+((rdp l1 i).2)) n,⟨G,G,G,(by have h0:i=0:=G;subst h0;exact hn),(by rw[upd,Ex];exact Mk),(zT Oo pn bb G Ll (by unfold iM;omega) l9 (by have e:(i+1-1)=i:=G;have hc:=(by have h0:i=0:=G;subst h0;exact hn:_=iU ws bs rs h l1 (i+1-1).toNat);rw[e] at hc;exact hc))⟩,G,SA,λ_ h=>h.selR (F:=[_,_,_,_,_,_,_,_]) (F':=[_,_,_,_,_,_,_]) [1,2,3,4,5,6,7] cC Z⟩
 ·refine aR<|wq<|wy (yL 2 uy Z Z Z)<|wm Z<|wy (aG Z)<|wy (yF 3 3 ry fV Z)<|dC (bE 3 Z Z Z fV Z Z Z Z (ak Z)) ?_;rintro _ _ rfl;refine aA<|wq<|wm Z<|wn Z<|aT [3,4,5,0] 7 cC Z ?_;refine⟨_,Z,?_⟩;obtain rfl:i=l1.length:=G
  refine⟨l1,rk,_,_,?_,qv,vq,Mk,λj hj=>l9 j G,Z⟩;rw[hn,show((l1.length:Int)-1).toNat=l1.length-1 by omega]
variable {w:World}
theorem aOu {me:AF} {pk mn:Nat} {l:AE} (kp:Rd w me pk mn 2 (prs l)) (hN:l.length<=1000000):
  CF 237 #[sl me pk mn] w (λv R'=> ∃A c,v=sl A l.length c/\R'=[⟨230,2,A,l.length,c,prs l,false⟩]):=by
 obtain rfl:pk=l.length:=by have:=kp.len;rw[jK] at this;omega
 refine fn1 Tryz.func237 Z Z Z ?_;refine wq<|wn Z<|aD<|wq<|wm Z<|wy (aHg jg Z Z)<|aA<|KM Z (λba=> ?_) (λba=> ?_)
 ·refine wq<|wn Z<|bU (R1:=[⟨230,2,none,0,0,prs [],false⟩]) (λ_ h=>h.nilP 230) ?_;refine⟨_,Z,?_⟩;have hA:me=none:=by simpa using ba
  subst hA;obtain rfl:=aSs kp;exact⟨none,0,Z,Z⟩
 ·refine aI<|wq<|wa (WX jg KE) ?_;rintro _ _⟨cy,rfl,rfl⟩;refine wm Z<|wa (jT 0 Z jg vN Z Z Z Z (kp.c _) G) ?_;rintro _ _⟨en,es,rfl,rfl⟩;refine bC (v:=sl en (0+l.length) es) Z<|wn Z<|bU (R1:=[⟨230,2,en,(0+l.length),es,prs (([])++l),false⟩]) hiZ ?_;refine⟨_,Z,?_⟩;simp only[og,jd];exact⟨_,_,Z,Z⟩
theorem XQ {ar:AF} {bo aw:Nat} {al:AG} {ws:AD} (ao:Rd w ar bo aw 1 al) (bh:SlW .u8 w al ws) (hN:ws.flatten.length<=400000/\ws.length<=1000000):
  CF 179 #[sl ar bo aw] w (λv R'=> ∃(l:AE) (A:AF) (c:Nat),v=sl A l.length c/\l.Perm (fG ws ws.length)/\l.Pairwise (jF ws)/\R'=[⟨230,2,A,l.length,c,prs l,false⟩]):=by
 obtain rfl:bo=ws.length:=by have:=ao.len;have:=bh.1;omega
 refine fn1 Tryz.func179 Z Z Z ?_;have kh:=ao.max;have tx:=hN.1;refine wq<|wn Z<|wq<|wm Z<|wy (gX (v:= .agg #[sl ar ws.length aw,sl none 0 0,sl none 0 0,sl none 0 0]) Z (λw=>cA))<|wa (cB (sz:=4) rfl rfl) ?_;rintro _ _⟨aq,rfl,rfl⟩;refine bT (R1:=[⟨230,2,none,0,0,prs ([]),false⟩,(ri 3 none 0 0 ([])),(ri 3 none 0 0 ([])),(rc 281 4 aq [sl ar ws.length aw,sl none 0 0,sl none 0 0,sl none 0 0])]) (Sub.refl _) (λ_ h=>((h.nil 3 1).nil 3 1).nilP 230)<|wn Z<|wq<|wn Z<|aD<|wq<|wm Z<|wy (aL ay Z)<|wm Z<|aA<|aH ?_;refine aQb (λ(k:Int) (lg:Int) (A1:AF) (n1:Nat) (c1:Nat) (T:AE) (A2:AF) (n2:Nat) (c2:Nat) (Bs:AH) (A3:AF) (n3:Nat) (c3:Nat) (Rs:AH)=>[(3,PG aq),(4,I lg),(16,sl ar ws.length aw),(17,I (ws.length:Int)),(18,I k)]) (λk lg A1 n1 c1 T A2 n2 c2 Bs A3 n3 c3 Rs=>[⟨230,2,A1,n1,c1,prs T,false⟩,(ri 3 A2 n2 c2 Bs),(ri 3 A3 n3 c3 Rs),(rc 281 4 aq [sl ar ws.length aw,sl A1 n1 c1,sl A2 n2 c2,sl A3 n3 c3])]) (λk lg A1 n1 c1 T A2 n2 c2 Bs A3 n3 c3 Rs=>(0<=k)/\(k<=ws.length)/\(0<=lg/\lg<=400000)/\(∀w:Int,0<=w->w<k->((rdl ws w).length:Int)<=lg)/\(lg=0/\oH ws k.toNat=0\/0<lg/\0<oH ws k.toNat)/\(T=fG ws k.toNat)/\(n1=oH ws k.toNat)/\(Bs=sJ ws k.toNat)/\(n2=k.toNat)/\(Rs=(ws.take k.toNat).flatten)/\(n3=oH ws k.toNat)) (λk lg A1 n1 c1 T A2 n2 c2 Bs A3 n3 c3 Rs=>(ws.length-k).toNat) ?_ ?_
 ·exact⟨0,0,none,0,0,[],none,0,0,[],none,0,0,[],⟨G,G,G,(λw h0 h1=>G),(.inl ⟨rfl,rfl⟩),(rfl),(rfl),(rfl),(rfl),(rfl),(rfl)⟩,KP⟩
 intro k lg A1 n1 c1 T A2 n2 c2 Bs A3 n3 c3 Rs ⟨ju,tz,hg0,Yy,Ds,hT,Ze,Pp,hnB,Nq,hnR⟩;refine wq<|wL Z Z<|aA<|aD<|bA Z (λba=> ?_) (λba=> ?_)
 ·have Zh:=kI ju (show k<ws.length by omega);have hole:=JV ws (k+1).toNat;refine aI<|aD<|aH<|wq<|wm Z<|wy (aF ay dH Z Z (ao.c _)) ?_;obtain⟨lz,mc,hv_4,Tz,hb_6,mhr_5⟩:=bh.at (i:=k) G G;refine wy (lC af Z Z Z (ao.c _) hv_4)<|wg Z<|wn Z<|aD<|bF mixed<|wD 0 Z (aJ Z)<|wD 1 Z (aJ Z)<|wD 2 Z (aG Z)<|wD 3 Z (yF 2 2 ry fV Z)<|wD 4 Z (yL 3 aa Z Z Z)<|wD 5 Z (aJ Z)<|wD 6 Z (aG Z)<|wD 7 Z (yF 1 1 ry XW Z)<|wD 8 Z (yL 3 jg Z Z Z) ?_;refine wD 9 Z (aL jg Z)<|wC 10 Z (bH .i64 [(n1:Int)] aa zs3 Z Z Z) ?_;rintro _ _⟨xr,rfl,rfl⟩;refine⟨.inr hrZ,?_⟩;refine wC 11 Z (aQ 2 Z aa zb3 Z Z Z (rdr 0 Z)) ?_;rintro _ _⟨dv,br,rfl,rfl⟩;refine⟨.inl cA,?_⟩;refine fO (v:=sl dv (n2+1) br) Z<|wD 12 Z (aG Z)<|wD 13 Z (yF 2 2 ry fV Z)<|qD 14 Z cA (bE 4 Z Z Z fV Z Z Z Z (ak Z)) ?_;rintro _ _ rfl;refine⟨.inl cA,?_⟩;refine wN<|wq<|wm Z<|wm Z<|wy (aL af Z)<|wy (aPr Z Z)<|wn Z<|wq<|wm Z<|wy (aL af Z)<|wm Z<|aA ?_;refine aH ?_;refine UI (λ(j:Int) (B1:AF) (m1:Nat) (d1:Nat) (U:AE) (B3:AF) (m3:Nat) (d3:Nat) (V:AH)=>[(3,PG aq),(4,I (max lg (((rdl ws k).length:Nat):Int))),(5,I k),(16,sl ar ws.length aw),(17,I (ws.length:Int)),(18,I k),(41,sl lz ((rdl ws k).length) mc),(42,I (((rdl ws k).length:Nat):Int)),(43,I j)]) (λj B1 m1 d1 U B3 m3 d3 V=>[(ri 3 (GG xr) 1 1 ([(n1:Int)])),⟨230,2,B1,m1,d1,prs U,false⟩,(ri 3 dv (n2+1) br (Bs++([(n1:Int)]))),(ri 3 B3 m3 d3 V),(rc 281 4 aq [sl ar ws.length aw,sl B1 m1 d1,sl dv (n2+1) br,sl B3 m3 d3])]) (λj B1 m1 d1 U B3 m3 d3 V=>(0<=j)/\(j<=(rdl ws k).length)/\(U=fG ws k.toNat++turnsOf k j.toNat)/\(m1=oH ws k.toNat+j.toNat)/\(V=(ws.take k.toNat).flatten++(rdl ws k).take j.toNat)/\(m3=oH ws k.toNat+j.toNat)) (λj B1 m1 d1 U B3 m3 d3 V=>((rdl ws k).length-j).toNat) ?_ ?_
  ·exact⟨0,A1,n1,c1,T,A3,n3,c3,Rs,⟨G,G,(by rw[hT];exact(jh _).symm),(Ze),(by rw[Nq];exact(jh _).symm),(hnR)⟩,KP⟩
  intro j B1 m1 d1 U B3 m3 d3 V ⟨sf,l6,hU,mt,hV,hm3⟩;refine wq<|wL Z Z<|aA<|aD<|bA Z (λcj=> ?_) (λcj=> ?_)
  ·refine aI<|aD<|aH<|wq<|wm Z<|wy (aF af sz5 Z Z (Tz.c _))<|wy (aU bn Z Z (Tz.c _))<|wg Z<|wn Z<|wq<|wm Z<|wm Z ?_;refine wy (aG Z)<|wy (yF 1 1 ry XW Z)<|wy (yL 4 jg Z Z Z)<|wm Z<|wm Z<|wy (gX (v:= .agg #[I k,I j]) Z (λw=>cA))<|wa (WY jg KE rfl) ?_;rintro _ _⟨iu,rfl,rfl⟩;refine wa (jT 2 Z jg vN Z Z Z Z (rdr 0 Z) G) ?_;rintro _ _⟨fa,fc,rfl,rfl⟩;refine bC (v:=sl fa (m1+1) fc) Z<|wy (aG Z)<|wy (yF 1 1 ry XW Z)<|dC (bE 5 Z Z Z XW Z Z Z Z (ak Z)) ?_;rintro _ _ rfl;refine aA<|aK<|wm Z<|wm Z<|wy (aG Z)<|wy (yF 3 3 ry fV Z)<|wy (yL 5 aa Z Z Z)<|wm Z<|wy (iR bn au Z (by have Nx:=(byteL_wf (by assumption: ∀x∈rdl ws k,(Lit.int .u8 x).wf=true)).rd j;omega)) ?_;refine wa (bH .i64 [rd (rdl ws k) j] aa zs3 Z Z Z) ?_;rintro _ _⟨j5,rfl,rfl⟩;refine wa (aQ 5 Z aa zb3 Z Z Z (rdr 0 Z)) ?_;rintro _ _⟨dj,dp,rfl,rfl⟩;refine bC (v:=sl dj (m3+1) dp) Z<|wy (aG Z)<|wy (yF 3 3 ry fV Z)<|dC (bE 6 Z Z Z fV Z Z Z Z (ak Z)) ?_;rintro _ _ rfl;refine aA<|aK<|wA Z Z<|wm Z<|aA ?_;exact⟨j+1,fa,(m1+1),fc,U++([(k,j)]),dj,(m3+1),dp,V++([rd (rdl ws k) j]),⟨G,G,(by rw[hU,BG k sf,gq]),G,(by rw[hV,gq,dJ sf G]),G⟩,G,SA,λ_ h=>h.sel [2,3,4,5,6] cC Z⟩
  ·refine aR<|aK<|wA Z Z<|wm Z<|aA ?_
   exact⟨k+1,max lg (((rdl ws k).length:Nat):Int),B1,m1,d1,U,dv,(n2+1),br,Bs++([(n1:Int)]),B3,m3,d3,V,⟨G,G,G,(λw h0 h1=>by
      by_cases hw:w=k
      ·rw[hw];omega
      ·have:=Yy w h0 G;omega),(by have Zh:=kI ju (show k<ws.length by omega);omega),(by have hj:j.toNat=(rdl ws k).length:=G;rw[hU,hj,KW ju]),(by rw[mt,kI ju G];omega),(by rw[Pp,aGr ju,Ze]),G,(by have hj:j.toNat=(rdl ws k).length:=G;rw[hV,hj,ow,fC ju G]),(by rw[hm3,kI ju G];omega)⟩,G,SA,λ_ h=>h.sel [1,2,3,4] cC rfl⟩
 ·have Vw:k=ws.length:=G
  have Pz:k.toNat=ws.length:=G
  rw[Pz] at hT Pp Nq Ze hnB hnR Ds;rw[ow] at Nq;have hoT:=xY ws ws.length (dx _);have hoB:=TU ws ws.length;have hoR:oH ws ws.length=ws.flatten.length:=by unfold oH;rw[ow]
  obtain rfl:n1=T.length:=by rw[hT];omega
  obtain rfl:n2=Bs.length:=by rw[Pp];omega
  obtain rfl:n3=Rs.length:=by rw[Nq];omega
  have Sc:T.length<=1000000:=by rw[hT];omega
  refine aR<|wq<|wm Z<|wy (aG Z)<|wy (yF 1 1 ry XW Z)<|wy (yL 3 jg Z Z Z)<|wa (aC bKt Z (Ct.fresh (λw hw=>aOu ((rdr 0 Z) w hw) Sc))) ?_;rintro _ _⟨_,rfl,vx,gv,rfl,rfl⟩;refine wn Z<|wq<|wn Z<|aD<|wq<|wn Z<|aH ?_;refine mX (λ(h:Int) (Po:Int) (l:AE) (A4:AF) (c4:Nat) (rs:AH)=>[(3,PG aq),(4,I lg),(9,sl vx T.length gv),(10,I Po),(11,I h)]) (λh Po l A4 c4 rs=>[⟨230,2,vx,T.length,gv,prs l,false⟩,⟨230,2,A1,T.length,c1,prs T,false⟩,(ri 3 A2 Bs.length c2 Bs),(ri 3 A4 Rs.length c4 rs),(rc 281 4 aq [sl ar ws.length aw,sl A1 T.length c1,sl A2 Bs.length c2,sl A4 Rs.length c4])]) (λh Po l A4 c4 rs=>(0<=h)/\(l.Perm T)/\(rs.length=Rs.length)/\(RK ws Bs (nH h) rs)/\(0<h->Sorted ws (nH h) l/\Go.Pure.Steps Bs rs l Po)) (λh Po l A4 c4 rs=>(2*lg-h).toNat) ?_ ?_
  ·exact⟨0,-1,T,A3,c3,Rs,⟨G,(.refl _),(Z),(by rw[Nq,Pp];exact aRo ws),(λh=>absurd h G)⟩,KP⟩
  intro h Po l A4 c4 rs ⟨Vv,Ld,Qo,Vm,ge⟩;have Qq: ∀t∈l,TV ws t:=λt ht=>sD.1 (by rw[<-hT];exact Ld.mem_iff.1 ht);have hvv: ∀t∈l,TOk ws Bs rs.length t:=λt ht=>by rw[Qo,Nq,Pp];exact bCy G (Qq t ht)
  have pn: ∀t∈l,∀u∈l,iM Bs t=iM Bs u->t=u:=λt ht u hu e=>aSu (Qq t ht) (Qq u hu) (by rw[<-Pp];exact e);have hnd:l.Nodup:=Ld.nodup_iff.2 (by rw[hT];exact vW ws _);have Ue:Rs.length=ws.flatten.length:=by rw[Nq]
  have ur:=Ld.length_eq;have hTo:T.length=oH ws ws.length:=by rw[hT];exact hoT
  refine aD<|wq<|wm Z<|wm Z<|wy (jJ Z Z)<|wL Z Z<|aA<|bA Z (λfh=> ?_) (λfh=> ?_)
  ·have cv:l≠[]:=λe=>by rw[e] at ur;simp only[jb] at ur;omega
   refine aI<|aD<|aH<|wq<|wm Z<|wm Z<|wm Z<|bT (R1:=[(rc 281 4 aq [sl ar ws.length aw,sl A1 T.length c1,sl A2 Bs.length c2,sl A4 Rs.length c4]),⟨230,2,vx,T.length,gv,prs l,false⟩,(ri 3 A2 Bs.length c2 Bs),(ri 3 A4 Rs.length c4 rs),⟨230,2,A1,T.length,c1,prs T,false⟩]) (Sub.refl _) (λ_ h=>h.sel [4,0,2,3,1] cC Z)<|wa (aC bKs Z (aFx (bs:=Bs) (rs:=rs) (ts:=l) ur.symm Z Qo.symm (ao.c _) (λw hw=>bh.c hw) hvv pn hnd cv ⟨G,G⟩ ⟨Vv,G⟩)) ?_;rintro _ _⟨ud,Mz,pf,ph,rfl,ln,Lp,Th,g6,rfl⟩;have Ft:Sorted ws (gV h) ud:=⟨λt ht=>Qq t (ln.mem_iff.1 ht),ln.nodup_iff.2 hnd,Lp.imp_of_mem λ{x y} hx hy hn ho=>hn ((aQm Vv Vm (Qq y (ln.mem_iff.1 hy)) (Qq x (ln.mem_iff.1 hx))).2 ho)⟩;have Mb: ∀t,TV ws t->t∈ud:=λt ht=>ln.mem_iff.2 (Ld.mem_iff.2 (by rw[hT];exact sD.2 ht));have Xv:=aZl Vv Vm Ft Mb g6;have Zz:=aDg Vv Vm Ft g6;have kt:=ln.length_eq;refine wn Z<|aD<|wq<|wm Z<|wm Z<|wy (fD Z Z)<|wm Z<|bV 3 [(3,PG aq),(4,I lg),(9,sl vx T.length gv),(11,I h),(12,I (iU ws Bs rs h ud (ud.length-1))),(95, .bool (decide (((iU ws Bs rs h ud (ud.length-1))=Po)/\(0<h))))] [(rc 281 4 aq [sl ar ws.length aw,sl A1 T.length c1,sl A2 Bs.length c2,sl pf Rs.length ph]),⟨230,2,vx,T.length,gv,prs ud,false⟩,(ri 3 A2 Bs.length c2 Bs),(ri 3 pf Rs.length ph Mz),⟨230,2,A1,T.length,c1,prs T,false⟩] ?_ ?_
   ·refine bN 92 Z (λjj=> ?_) (λjj=> ?_)
    ·refine aB Z Z<|wm Z<|aB Z Z<|wy (dA Z Z)<|wy (aS Z Z)<|aA ?_;exact KP
    ·refine aM Z Z Z Z<|aM Z Z Z Z<|wy (aO Z Z)<|aA ?_;exact KP
   refine aA<|bA Z (λkb=> ?_) (λkb=> ?_)
   ·refine aR<|wq<|wm Z<|wn Z<|aT [1] 99 cC Z ?_;refine⟨_,Z,?_⟩;have ox:T.length=ud.length:=G
    rw[ox];refine⟨ud,_,_,Z,?_,?_,Z⟩
    ·rw[<-hT];exact ln.trans Ld
    ·exact stay kb.2 Vm Ft Mb ln (ge kb.2).2 kb.1
   ·refine aI<|aK<|wm Z<|wn Z<|aK<|wm Z<|wy (jJ Z Z)<|wy (aPr Z Z)<|wn Z ?_;exact⟨max 1 (2*h),iU ws Bs rs h ud (ud.length-1),ud,pf,ph,Mz,⟨G,(ln.trans Ld),G,(by have e:nH (max 1 (2*h))=gV h:=(by unfold nH gV;split<;>omega);rw[e];exact Xv),(λ_=>by have e:nH (max 1 (2*h))=gV h:=(by unfold nH gV;split<;>omega);rw[e];exact⟨Ft,Zz⟩)⟩,G,SA,λ_ h=>h.sel [1,4,2,3,0] cC rfl⟩
  ·refine aR<|wq<|wm Z<|wn Z<|aT [0] 99 cC Z ?_;refine⟨_,Z,?_⟩;have ox:T.length=l.length:=G
   rw[ox];refine⟨l,_,_,Z,?_,?_,Z⟩
   ·rw[<-hT];exact Ld
   ·by_cases h0:0<h
    ·refine (ge h0).1.toO λt u ht hu e=>aAs ht hu ?_ e;have a:=Yy t.1 ht.1 (by rw[Vw];exact ht.2.1);have b:=Yy u.1 hu.1 (by rw[Vw];exact hu.2.1);unfold nH;omega
    ·have u6:l=[]:=dw G;rw[u6];exact .nil
variable {ws:AD}
theorem WA {k:Int} (h0:0<=k) (h:k<ws.length):(rdl ws k).length<=ws.flatten.length:=by
 have a:=kI h0 h;have b:=JV ws (k+1).toNat;omega
theorem aHl (u:AH) (i:Nat):(u.drop i++u.take i).length<=u.length:=by
 rw[ah,az,ax];omega
theorem aKp {w:World} {ar:AF} {bo aw:Nat} {al:AG} (ao:Rd w ar bo aw 1 al) (bh:SlW .u8 w al ws) (hN:ws.flatten.length<=400000/\ws.length<=1000000):
  CF 210 #[sl ar bo aw] w (λv R'=> ∃(l:AE) (A:AF) (c:Nat),v=sl A l.length c/\l.Perm (fG ws ws.length)/\l.Pairwise (jF ws)/\R'=[⟨230,2,A,l.length,c,prs l,false⟩]):=by
 obtain rfl:bo=ws.length:=by have:=ao.len;have:=bh.1;omega
 refine fn1 Tryz.func210 Z Z Z ?_;have kh:=ao.max;refine wq<|wn Z<|wq<|bT (R1:=[⟨230,2,none,0,0,prs ([]),false⟩]) (Sub.refl _) (λ_ h=>h.nilP 230)<|wn Z<|aD<|wq<|wn Z<|aH ?_;refine eH (λ(q:Int) (A1:AF) (n1:Nat) (c1:Nat) (T:AE)=>[(0,sl ar ws.length aw),(3,sl A1 n1 c1),(4,I q)]) (λq A1 n1 c1 T=>[⟨230,2,A1,n1,c1,prs T,false⟩]) (λq A1 n1 c1 T=>(0<=q)/\(q<=ws.length)/\(n1=T.length)/\(T.Perm (fG ws q.toNat))/\(T.Pairwise (jF ws))) (λq A1 n1 c1 T=>(ws.length-q).toNat) ?_ ?_
 ·exact⟨0,none,0,0,[],⟨G,G,(Z),(.refl _),(.nil)⟩,KP⟩
 intro q A1 n1 c1 T ⟨uc,hw1,cm,hp,hs⟩;refine aD<|wq<|wm Z<|wm Z<|wy (aL ay Z)<|wL Z Z<|aA<|bA Z (λba=> ?_) (λba=> ?_)
 ·refine aI<|aD<|aH<|wq<|wn Z<|aH ?_;refine eH (λ(k:Int) (B1:AF) (m1:Nat) (d1:Nat) (U:AE)=>[(0,sl ar ws.length aw),(3,sl B1 m1 d1),(4,I q),(5,I k)]) (λk B1 m1 d1 U=>[⟨230,2,B1,m1,d1,prs U,false⟩]) (λk B1 m1 d1 U=>(0<=k)/\(k<=(rdl ws q).length)/\(m1=U.length)/\(U.Perm (fG ws q.toNat++turnsOf q k.toNat))/\(U.Pairwise (jF ws))) (λk B1 m1 d1 U=>((rdl ws q).length-k).toNat) ?_ ?_
  ·exact⟨0,A1,n1,c1,T,⟨G,G,(cm),(by rw[show turnsOf q (0:Int).toNat=[] from rfl,jh];exact hp),(hs)⟩,KP⟩
  intro k B1 m1 d1 U ⟨ju,tz,mt,qv,vq⟩;refine aD<|wq<|wm Z<|wm Z<|wm Z<|wy (aF ay dH Z Z (ao.c _)) ?_;refine bh.elim (i:=q) G G (λcg ce py ub xt tk=> ?_);refine wy (lC af Z Z Z (ao.c _) py)<|wy (aL af Z)<|wL Z Z<|aA<|bA Z (λcj=> ?_) (λcj=> ?_)
  ·refine aI<|aD<|aH<|wq<|wm Z<|wm Z<|wy (aF ay dH Z Z (ao.c _)) ?_;refine bh.elim (i:=q) G G (λgn mj Hv f9 Md My=> ?_);refine wy (lC af Z Z Z (ao.c _) Hv)<|wm Z<|wa (aC aVt Z (Ct.fresh (λw hw=>vV ((f9.c _) w hw) G (by have:=WA (ws:=ws) (k:=q) uc G;omega)))) ?_;rintro _ _⟨_,rfl,fz,ci,rfl,rfl⟩;refine wn Z<|wq<|wm Z<|wy (aL jg Z)<|wn Z<|aD<|aH ?_;refine gZ (λ(j:Int)=>[(0,sl ar ws.length aw),(3,sl B1 m1 d1),(4,I q),(5,I k),(6,sl fz (((rdl ws q).drop (k).toNat++(rdl ws q).take (k).toNat).length) ci),(7,I j)]) (λj=>[(ru 5 fz (((rdl ws q).drop (k).toNat++(rdl ws q).take (k).toNat).length) ci ((rdl ws q).drop (k).toNat++(rdl ws q).take (k).toNat)),⟨230,2,B1,m1,d1,prs U,false⟩]) (λj=>(0<=j)/\(j<=U.length)/\(∀i:Int,j<=i->i<U.length->jF ws (q,k) (rdp U i))) (λj=>j.toNat) ?_ ?_
   ·exact⟨(m1:Int),⟨G,G,(λi h1 h2=>G)⟩,KP⟩
   intro j ⟨sf,l6,vn⟩;have Ax:U.length<=400000:=by rw[qv.length_eq,ah,xY ws _ G,HV];have a:=kI uc (show q<ws.length by omega);have b:=JV ws (q+1).toNat;omega
   have ft:=LZ (ws:=ws) uc G G qv;have Mn: ∀i:Int,0<=i->i<U.length->(rdl ws (rdp U i).1).length<=1000000:=λi h1 h2=>by have:=WA (ws:=ws) (ft i h1 h2).1.1 (ft i h1 h2).1.2.1;omega
   refine aD ?_;refine uM [(0,sl ar ws.length aw),(3,sl B1 m1 d1),(4,I q),(5,I k),(6,sl fz (((rdl ws q).drop (k).toNat++(rdl ws q).take (k).toNat).length) ci),(7,I j),(53, .bool (decide ((0<j)/\((OG ((rdl ws q).drop (k).toNat++(rdl ws q).take (k).toNat) ((rdl ws ((rdp U (j-1)).1)).drop (((rdp U (j-1)).2)).toNat++(rdl ws ((rdp U (j-1)).1)).take (((rdp U (j-1)).2)).toNat))<0))))] [(ru 5 fz (((rdl ws q).drop (k).toNat++(rdl ws q).take (k).toNat).length) ci ((rdl ws q).drop (k).toNat++(rdl ws q).take (k).toNat)),⟨230,2,B1,m1,d1,prs U,false⟩] ?_ ?_
   ·refine bF mixed<|wD 0 Z (aJ Z)<|wD 1 Z (dA Z Z)<|wD 2 Z (aJ Z)<|oZ 33 Z (λfh=> ?_) (λfh=> ?_)
    ·refine wG 3 Z Z Z (aJ Z)<|wG 4 Z Z Z (aJ Z)<|wG 5 Z Z Z (aJ Z)<|wG 6 Z Z Z (aJ Z)<|wG 7 Z Z Z (mE Z Z)<|wG 8 Z Z Z (mU jg jQ Z Z (rdr 1 Z) Z)<|wG 9 Z Z Z (AX (q:=0) jo sz3 Z Z (rdr 1 Z) G G Z cC cC)<|wG 10 Z Z Z (aPt au Z Z (rdr 1 Z))<|wG 11 Z Z Z (aF ay dH Z Z (ao.c _) (by first|exact(ft (j-1) G G).1.1|exact(ft (j-1) G G).1.2.1) (by first|exact(ft (j-1) G G).1.1|exact(ft (j-1) G G).1.2.1)) ?_;refine bh.elim (i:=(rdp U (j-1)).1) (by first|exact(ft (j-1) G G).1.1|exact(ft (j-1) G G).1.2.1) (by first|exact(ft (j-1) G G).1.1|exact(ft (j-1) G G).1.2.1) (λdy ee Hs xl Sm Pl=> ?_);refine wG 12 Z Z Z (lC af Z Z Z (ao.c _) Hs)<|wG 13 Z Z Z (aJ Z)<|wG 14 Z Z Z (aJ Z)<|wG 15 Z Z Z (mE Z Z)<|wG 16 Z Z Z (mU jg jQ Z Z (rdr 1 Z) Z)<|wG 17 Z Z Z (AX (q:=1) jo sz3 Z Z (rdr 1 Z) G G Z cC cC)<|wG 18 Z Z Z (aPs au Z Z (rdr 1 Z) G G)<|rU 19 Z cA Z Z Z (aC aVt Z (Ct.fresh (λw hw=>vV ((xl.c _) w hw) ⟨(ft (j-1) G G).1.2.2.1,Bj (ft (j-1) G G).1.2.2.2⟩ (Mn (j-1) G G)))) ?_;rintro _ _⟨_,rfl,vx,gv,rfl,rfl⟩;refine⟨.inr hrZ,?_⟩;refine rU 20 Z cA Z Z Z (aC bKp Z (Ct.quiet (λw hw=>WI ((rdr 1 Z) w hw) ((rdr 0 Z) w hw) (qy (aHl _ _) (qy (WA (ws:=ws) (k:=q) uc G) G)) (qy (aHl _ _) (Mn (j-1) G G))))) ?_;rintro _ _⟨rfl,rfl⟩;refine⟨.inr hiZ,?_⟩;refine wG 21 Z Z Z (eZ Z Z)<|wD 22 Z (aS Z Z)<|wN ?_;exact⟨SA,λ_ h=>h.sel [1,2] cC Z⟩
    ·refine wO 3 Z Z Z<|wO 4 Z Z Z<|wO 5 Z Z Z<|wO 6 Z Z Z<|wO 7 Z Z Z<|wO 8 Z Z Z<|wO 9 Z Z Z<|wO 10 Z Z Z<|wO 11 Z Z Z<|wO 12 Z Z Z<|wO 13 Z Z Z<|wO 14 Z Z Z<|wO 15 Z Z Z<|wO 16 Z Z Z<|wO 17 Z Z Z ?_;refine wO 18 Z Z Z<|wO 19 Z Z Z<|wO 20 Z Z Z<|wO 21 Z Z Z<|wD 22 Z (aO Z Z)<|wN ?_;exact KP
   refine bA Z (λjj=> ?_) (λjj=> ?_)
   ·have Sv:=aUv (ws:=ws) uc G ju G qv sf l6 vn jj;refine aI<|aH<|aK<|wm Z<|wS Z Z<|wn Z ?_;exact⟨j-1,⟨G,G,(Sv)⟩,G,KP⟩
   ·have tg:=bBl (ws:=ws) uc G ju G qv vq sf l6 vn jj;refine aR<|bF mixed<|wD 1 Z (aJ Z)<|wD 2 Z (aJ Z)<|wD 3 Z (dV jg jQ Z Z (rdr 1 Z))<|wD 5 Z (aJ Z)<|wD 6 Z (aJ Z)<|wD 7 Z (gX (v:= .agg #[I q,I k]) Z (λw=>cA))<|wD 10 rfl (aJ rfl)<|wD 11 rfl (aJ rfl)<|wD 12 rfl (dF jg jQ rfl rfl)<|EX 0 8 cA ?_ ?_
    ·refine IW 0 Z Z (WX jg KE) ?_;rintro _ _⟨c5,rfl,rfl⟩;refine⟨.inr hrZ,?_⟩;refine EX 4 8 cA ?_ ?_
     ·refine IW 4 Z Z (jT 0 Z jg vN Z Z Z Z (RdC.toP (h:=(j).toNat) (rdr 2 Z) cG) G) ?_;rintro _ _⟨jx,jz,rfl,rfl⟩;refine⟨.inl cA,?_⟩;refine fO (v:=sl jx (0+((j).toNat)) jz) Z<|wC 8 Z (WY jg KE Z) ?_;rintro _ _⟨Ko,rfl,rfl⟩;refine⟨.inr hrZ,?_⟩;refine wC 9 Z (jT 1 Z jg vN Z Z Z Z (rdr 0 Z) G) ?_;rintro _ _⟨nf,nj,rfl,rfl⟩;refine⟨.inl cA,?_⟩;refine fO (v:=sl nf ((0+((j).toNat))+1) nj) Z<|wC 13 Z (jT 1 Z jg vN Z Z Z Z (RdC.fromP (rdr 3 Z) cG) G) ?_;rintro _ _⟨rx,sd,rfl,rfl⟩;refine⟨.inl cA,?_⟩;refine fO (v:=sl rx (((0+((j).toNat))+1)+(m1-(j).toNat)) sd) Z<|wD 14 Z (bB Z)<|wN<|aK<|wm Z<|wA Z Z<|wn Z ?_;exact⟨k+1,rx,((0+((j).toNat))+1)+(m1-(j).toNat),sd,((([])++((U).take (j).toNat))++([(q,k)]))++((U).drop (j).toNat),⟨G,G,(by simp only[ah,ax,az,dn,jb];omega),(tg.1),(tg.2)⟩,G,SA,λ_ h=>h.sel [1] cC Z⟩
     ·refine IW 8 Z Z (WY jg KE Z) ?_;rintro _ _⟨Xf,rfl,rfl⟩;refine⟨.inr hrZ,?_⟩;refine wC 4 Z (jT 1 Z jg vN Z Z Z Z (RdC.toP (h:=(j).toNat) (rdr 3 Z) cG) G) ?_;rintro _ _⟨i7,i9,rfl,rfl⟩;refine⟨.inl cA,?_⟩;refine fO (v:=sl i7 (0+((j).toNat)) i9) Z<|wC 9 Z (jT 1 Z jg vN Z Z Z Z (rdr 0 Z) G) ?_;rintro _ _⟨Wo,Wz,rfl,rfl⟩;refine⟨.inl cA,?_⟩;refine fO (v:=sl Wo ((0+((j).toNat))+1) Wz) Z<|wC 13 Z (jT 1 Z jg vN Z Z Z Z (RdC.fromP (rdr 3 Z) cG) G) ?_;rintro _ _⟨Ra,Ro,rfl,rfl⟩;refine⟨.inl cA,?_⟩;refine fO (v:=sl Ra (((0+((j).toNat))+1)+(m1-(j).toNat)) Ro) Z<|wD 14 Z (bB Z)<|wN<|aK<|wm Z<|wA Z Z<|wn Z ?_;exact⟨k+1,Ra,((0+((j).toNat))+1)+(m1-(j).toNat),Ro,((([])++((U).take (j).toNat))++([(q,k)]))++((U).drop (j).toNat),⟨G,G,(by simp only[ah,ax,az,dn,jb];omega),(tg.1),(tg.2)⟩,G,SA,λ_ h=>h.sel [1] cC Z⟩
    ·refine IW 8 Z Z (WY jg KE Z) ?_;rintro _ _⟨g_43,rfl,rfl⟩;refine⟨.inr hrZ,?_⟩;refine wC 0 Z (WX jg KE) ?_;rintro _ _⟨g_45,rfl,rfl⟩;refine⟨.inr hrZ,?_⟩;refine wC 4 Z (jT 0 Z jg vN Z Z Z Z (RdC.toP (h:=(j).toNat) (rdr 3 Z) cG) G) ?_;rintro _ _⟨Ws,Xd,rfl,rfl⟩;refine⟨.inl cA,?_⟩;refine fO (v:=sl Ws (0+((j).toNat)) Xd) Z<|wC 9 Z (jT 0 Z jg vN Z Z Z Z (rdr 1 Z) G) ?_;rintro _ _⟨Wt,Xe,rfl,rfl⟩;refine⟨.inl cA,?_⟩;refine fO (v:=sl Wt ((0+((j).toNat))+1) Xe) Z<|wC 13 Z (jT 0 Z jg vN Z Z Z Z (RdC.fromP (rdr 3 Z) cG) G) ?_;rintro _ _⟨Re,Rq,rfl,rfl⟩;refine⟨.inl cA,?_⟩;refine fO (v:=sl Re (((0+((j).toNat))+1)+(m1-(j).toNat)) Rq) Z<|wD 14 Z (bB Z)<|wN<|aK<|wm Z<|wA Z Z<|wn Z ?_;exact⟨k+1,Re,((0+((j).toNat))+1)+(m1-(j).toNat),Rq,((([])++((U).take (j).toNat))++([(q,k)]))++((U).drop (j).toNat),⟨G,G,(by simp only[ah,ax,az,dn,jb];omega),(tg.1),(tg.2)⟩,G,SA,λ_ h=>h.sel [0] cC Z⟩
  ·refine aR<|aK<|wm Z<|wA Z Z<|wn Z ?_;exact⟨q+1,B1,m1,d1,U,⟨G,G,(mt),(by have e:k.toNat=(rdl ws q).length:=G;rw[KW uc,<-e];exact qv),(vq)⟩,G,KP⟩
 ·refine aR<|wq<|wm Z<|wn Z<|aT [0] 99 cC Z ?_;refine⟨_,Z,?_⟩;obtain rfl:=cm;exact⟨T,_,_,Z,by have e:q.toNat=ws.length:=G;rw[<-e];exact hp,hs,rfl⟩
variable {w:World} {ap:AF} {bl an:Nat} {u:AH}
theorem aAu {i:Int} {j:Int} (ac:Rd w ap bl an 1 (ints .u8 u)) (pn:0<=i/\i<=u.length/\0<=j/\j<=u.length):
  CF 263 #[sl ap bl an,I i,I j] w (λv R'=>v=I (cmpL (u.drop i.toNat) (u.drop j.toNat))):=by
 obtain rfl:=ac.lenI;refine fn1 Tryz.func263 Z Z Z ?_;have kc:=ac.max;refine wq<|wn Z<|aD<|wq<|wm Z<|wL Z Z<|wm Z<|bV 5 [(0,sl ap u.length an),(1,I i),(2,I j),(14, .bool (decide ((i<0)\/((u.length:Int)<i))))] [] ?_ ?_
 ·refine bN 9 Z (λba=> ?_) (λba=> ?_)
  ·refine aM Z Z Z Z<|aM Z Z Z Z<|aM Z Z Z Z<|aM Z Z Z Z<|wy (aS Z Z)<|aA ?_;exact KP
  ·refine aB Z Z<|wm Z<|aB Z Z<|wm Z<|aB Z Z<|wy (aL af Z)<|aB Z Z<|wy (dA Z Z)<|wy (aO Z Z)<|aA ?_;exact KP
 refine rT 14 Z G<|wm Z<|aB Z Z<|wm Z<|aB Z Z<|wL Z Z<|wy (aO Z Z)<|wm Z<|bV 5 [(0,sl ap u.length an),(1,I i),(2,I j),(24, .bool (decide ((j<0)\/((u.length:Int)<j))))] [] ?_ ?_
 ·refine bN 19 Z (λcj=> ?_) (λcj=> ?_)
  ·refine aM Z Z Z Z<|aM Z Z Z Z<|aM Z Z Z Z<|aM Z Z Z Z<|wy (aS Z Z)<|aA ?_;exact KP
  ·refine aB Z Z<|wm Z<|aB Z Z<|wm Z<|aB Z Z<|wy (aL af Z)<|aB Z Z<|wy (dA Z Z)<|wy (aO Z Z)<|aA ?_;exact KP
 refine rT 24 Z G<|aA<|aP Z<|aI<|aD<|bF mixed<|wD 0 Z (aJ Z)<|wD 1 Z (aJ Z)<|wD 2 Z (dF af sz5 Z Z)<|wD 3 Z (aJ Z)<|wD 4 Z (aJ Z)<|wD 5 Z (dF af sz5 Z Z)<|wC 6 Z (aC bBz Z (Ct.quiet (λw hw=>xX ((RdC.fromI (ac.c _) G) w hw) ((RdC.fromI (ac.c _) G) w hw)))) ?_;rintro _ _⟨rfl,rfl⟩;refine⟨.inr hiZ,?_⟩;refine wD 7 Z (bB Z)<|wN<|bQ ?_;refine⟨_,Z,?_⟩;rfl
theorem bGz (ac:Rd w ap bl an 1 (ints .u8 u)):
  CF 218 #[sl ap bl an] w (λv R'=>v= .bool (decide (pW u=true))):=by
 obtain rfl:=ac.lenI;refine fn1 Tryz.func218 Z Z Z ?_;have kc:=ac.max;refine wq<|wn Z<|aD<|wq<|wn Z<|aH ?_;refine gZ (λ(i:Int)=>[(0,sl ap u.length an),(3,I i)]) (λi=>[]) (λi=>(1<=i)/\(i<=u.length+1)/\(∀r:Nat,0<r->(r:Int)<i->r<u.length->cmpL u (u.drop r)<0)) (λi=>(u.length+1-i).toNat) ?_ ?_
 ·exact⟨1,⟨G,G,(λr h1 h2=>G)⟩,KP⟩
 intro i ⟨gd,Oi,ka⟩;refine aD<|wq<|wm Z<|wm Z<|wy (aL af Z)<|wL Z Z<|aA<|bA Z (λba=> ?_) (λba=> ?_)
 ·refine aI<|aD<|aH<|wq<|wm Z<|wm Z<|wa (aC bKl Z (Ct.quiet (λw hw=>aAu ((ac.c _) w hw) ⟨G,G,G,G⟩))) ?_;rintro _ _⟨rfl,rfl⟩;refine wy (iD Z Z)<|aA<|bA Z (λcj=> ?_) (λcj=> ?_)
  ·refine wq<|wn Z<|bQ ?_;refine⟨_,Z,?_⟩;exact bu Value.bool (qa λh=>by have:=((kY u).1 h).2 i.toNat G G;exact absurd cj (Int.not_le.2 this)).symm
  ·refine aI<|aK<|wm Z<|wA Z Z<|wn Z ?_
   exact⟨i+1,⟨G,G,(λr h1 h2 h3=>by
     rcases bz (r:Int) i with a|a
     ·exact ka r h1 a h3
     ·have e:r=i.toNat:=G
      rw[e];exact Int.not_le.1 cj)⟩,G,KP⟩
 ·refine aR<|wq<|wm Z<|wy (aL af Z)<|wy (dA Z Z)<|wn Z<|bQ ?_;refine⟨_,Z,?_⟩;exact bu Value.bool (sj.2 ⟨λh=>(kY u).2 ⟨G,λr h1 h2=>ka r h1 G h2⟩,λh=>by have:=((kY u).1 h).1;omega⟩)
theorem aAm (ac:Rd w ap bl an 1 (ints .u8 u)) (hN:u.length<=1000000):
  CF 145 #[sl ap bl an] w (λv R'=> ∃A c,v=sl A (dN u).length c/\R'=[(ri 3 A ((dN u).length) c (dN u))]):=by
 obtain rfl:=ac.lenI;refine fn1 Tryz.func145 Z Z Z ?_;have kc:=ac.max;refine wq<|wn Z<|wq<|bT (R1:=[(ri 3 none 0 0 ([]))]) (Sub.refl _) (λ_ h=>h.nil 3 1)<|wn Z<|aD<|aH ?_;refine uL (λ(A0:AF) (n0:Nat) (c0:Nat) (t:AH) (A1:AF) (n1:Nat) (c1:Nat) (acc:AH)=>[(0,sl A0 n0 c0),(3,sl A1 n1 c1)]) (λA0 n0 c0 t A1 n1 c1 acc=>[(ri 3 A1 n1 c1 acc)]) (λA0 n0 c0 t A1 n1 c1 acc=>(Rd w A0 n0 c0 1 (ints .u8 t))/\(n1=acc.length)/\(dN u=acc++dN t)/\(acc.length<=u.length)) (λA0 n0 c0 t A1 n1 c1 acc=>t.length) ?_ ?_
 ·exact⟨ap,u.length,an,u,none,0,0,[],⟨(ac),(Z),(Z),cD⟩,KP⟩
 intro A0 n0 c0 t A1 n1 c1 acc ⟨gr,cm,j8,Qc⟩;have Le:=gr.lenI;have rv:=gr.max;refine aD<|wq<|wm Z<|wy (aL af Z)<|wy (dA Z Z)<|aA<|bA Z (λba=> ?_) (λba=> ?_)
 ·refine aI<|aH<|wq<|wm Z<|wy (aL af Z)<|wn Z<|aD<|aH ?_;refine gZ (λ(n:Int)=>[(0,sl A0 n0 c0),(3,sl A1 n1 c1),(4,I n)]) (λn=>[(ri 3 A1 n1 c1 acc)]) (λn=>(1<=n)/\(n<=t.length)/\(iX t t.length=iX t n.toNat)) (λn=>n.toNat) ?_ ?_
  ·exact⟨(n0:Int),⟨G,G,(by rw[show(n0:Int).toNat=t.length by omega])⟩,KP⟩
  intro n ⟨xa,Wf,Qm⟩;refine aD<|wq<|wm Z<|wm Z<|wy (dV af sz5 Z Z (gr.c _))<|wa (aC bLb Z (Ct.quiet (λw hw=>bGz ((RdC.toI (gr.c _) G) w hw)))) ?_;rintro _ _⟨rfl,rfl⟩;refine wy (uH Z)<|aA<|bA Z (λcj=> ?_) (λcj=> ?_)
  ·have hsk:=ZQ xa Wf cj;refine aI<|aH<|aK<|wm Z<|wS Z Z<|wn Z ?_;exact⟨n-1,⟨G,G,(by rw[Qm];exact hsk.2.symm)⟩,G,KP⟩
  ·have Yu:=aEs xa (xh.1 cj);have d9:dN u=(acc++[n])++dN (t.drop n.toNat):=by rw[j8,GI G,Qm,Yu,show iX t n.toNat=n.toNat by omega,gq];rfl
   refine aR<|wq<|wm Z<|wm Z<|wa (bH .i64 [n] aa zs3 Z Z Z) ?_;rintro _ _⟨cy,rfl,rfl⟩;refine wa (aQ 1 Z aa zb3 Z Z Z (rdr 0 Z)) ?_;rintro _ _⟨en,es,rfl,rfl⟩;refine bC (v:=sl en (n1+1) es) Z<|wn Z<|aK<|wm Z<|wm Z<|wy (dF af sz5 Z Z)<|wn Z ?_;exact⟨jH A0 (n).toNat c0 1,n0-(n).toNat,c0-(n).toNat,t.drop n.toNat,en,n1+1,es,acc++([n]),⟨(gr.fromI G),(by rw[ah,cm];rfl),(d9),(by rw[ah,ib];have a:=bu List.length d9;have b:=DX u;rw[ah,ah,ib] at a;omega)⟩,(by rw[az];omega),SA,λ_ h=>h.sel [1] cC Z⟩
 ·refine aR<|wq<|wm Z<|wn Z<|aT [0] 99 cC Z ?_;refine⟨_,Z,?_⟩;have e:t.length=0:=G
  rw[NT e,jh] at j8;rw[j8];obtain rfl:=cm;exact⟨_,_,Z,Z⟩
theorem aFo (ac:Rd w ap bl an 1 (ints .u8 u)) (hN:u.length<=1000000):
  CF 178 #[sl ap bl an] w (λv R'=> ∃A c,v=sl A (dN u).length c/\R'=[(ri 3 A ((dN u).length) c (dN u))]):=by
 obtain rfl:=ac.lenI;refine fn1 Tryz.func178 Z Z Z ?_;have kc:=ac.max;refine wq<|wn Z<|wq<|bT (R1:=[(ri 3 none 0 0 ([]))]) (Sub.refl _) (λ_ h=>h.nil 3 1)<|wn Z<|aD<|wq<|wn Z<|aH ?_;refine eH (λ(a:Int) (A1:AF) (n1:Nat) (c1:Nat) (acc:AH)=>[(0,sl ap u.length an),(3,sl A1 n1 c1),(4,I a)]) (λa A1 n1 c1 acc=>[(ri 3 A1 n1 c1 acc)]) (λa A1 n1 c1 acc=>(0<=a)/\(a<=u.length)/\(n1=acc.length)/\(acc.length<=a)/\(dN u=acc++dN (u.drop a.toNat))) (λa A1 n1 c1 acc=>(u.length-a).toNat) ?_ ?_
 ·exact⟨0,none,0,0,[],⟨G,G,(Z),cD,(Z)⟩,KP⟩
 intro a A1 n1 c1 acc ⟨Vo,ha1,cm,Qc,j8⟩;refine aD<|wq<|wm Z<|wm Z<|wy (aL af Z)<|wL Z Z<|aA<|bA Z (λba=> ?_) (λba=> ?_)
 ·refine aI<|aH<|wq<|wm Z<|wm Z<|wA Z Z<|wg Z<|wn Z<|aD<|aH ?_;refine dI (λ(i:Int) (j:Int)=>[(0,sl ap u.length an),(3,sl A1 n1 c1),(4,I a),(5,I i),(6,I j)]) (λi j=>[(ri 3 A1 n1 c1 acc)]) (λi j=>(a<=i)/\(i<j)/\(j<=u.length)/\(uG u a (j-i))/\(uD u a (j-i) (j-a))) (λi j=>(u.length-j).toNat) ?_ ?_
  ·exact⟨a,a+1,⟨G,G,G,(IQ.1),(IQ.2)⟩,KP⟩
  intro i j ⟨u3,pn,hj,hL,hP⟩;refine aD ?_;refine uM [(0,sl ap u.length an),(3,sl A1 n1 c1),(4,I a),(5,I i),(6,I j),(28, .bool (decide ((j<(u.length:Int))/\((rd u i)<=(rd u j)))))] [(ri 3 A1 n1 c1 acc)] ?_ ?_
  ·refine bF mixed<|wD 0 Z (aJ Z)<|wD 1 Z (aJ Z)<|wD 2 Z (aL af Z)<|wD 3 Z (eZ Z Z)<|wD 4 Z (aJ Z)<|oZ 18 Z (λcj=> ?_) (λcj=> ?_)
   ·refine wG 5 Z Z Z (aJ Z)<|wG 6 Z Z Z (aJ Z)<|wG 7 Z Z Z (aF af sz5 Z Z (ac.c _))<|wG 8 Z Z Z (aU bn Z Z (ac.c _))<|wG 9 Z Z Z (aJ Z)<|wG 10 Z Z Z (aJ Z)<|wG 11 Z Z Z (aF af sz5 Z Z (ac.c _))<|wG 12 Z Z Z (aU bn Z Z (ac.c _))<|wG 13 Z Z Z (qP Z Z)<|wD 14 Z (aS Z Z)<|wN ?_;exact KP
   ·refine wO 5 Z Z Z<|wO 6 Z Z Z<|wO 7 Z Z Z<|wO 8 Z Z Z<|wO 9 Z Z Z<|wO 10 Z Z Z<|wO 11 Z Z Z<|wO 12 Z Z Z<|wO 13 Z Z Z<|wD 14 Z (aO Z Z)<|wN ?_;exact KP
  refine bA Z (λfh=> ?_) (λfh=> ?_)
  ·refine aI<|aH<|aD<|aD<|bF mixed<|wD 0 Z (aJ Z)<|wD 1 Z (aJ Z)<|wD 2 Z (aF af sz5 Z Z (ac.c _))<|wD 3 Z (aU bn Z Z (ac.c _))<|wD 4 Z (aJ Z)<|wD 5 Z (aJ Z)<|wD 6 Z (aF af sz5 Z Z (ac.c _))<|wD 7 Z (aU bn Z Z (ac.c _))<|wD 8 Z (eZ Z Z)<|wN ?_;refine bA Z (λjj=> ?_) (λjj=> ?_)
   ·refine aK<|wm Z<|wn Z<|aK<|wm Z<|wA Z Z<|wn Z ?_;exact⟨a,j+1,⟨G,G,G,((aBb Vo u3 pn hL hP jj).1),((aBb Vo u3 pn hL hP jj).2)⟩,G,KP⟩
   ·refine aK<|wm Z<|wA Z Z<|wn Z<|aK<|wm Z<|wA Z Z<|wn Z ?_;exact⟨i+1,j+1,⟨G,G,G,((aBc Vo u3 pn hL hP fh.2 jj).1),((aBc Vo u3 pn hL hP fh.2 jj).2)⟩,G,KP⟩
  ·refine aR<|aH ?_;refine eH (λ(b:Int) (A2:AF) (n2:Nat) (c2:Nat) (wd:AH)=>[(0,sl ap u.length an),(3,sl A2 n2 c2),(4,I b),(5,I i),(6,I j)]) (λb A2 n2 c2 wd=>[(ri 3 A2 n2 c2 wd)]) (λb A2 n2 c2 wd=>(a<=b)/\(b<=j)/\(n2=wd.length)/\(wd.length<=b)/\(dN u=wd++dN (u.drop b.toNat))/\(b<=i->uG u b (j-i)/\uD u b (j-i) (j-b))) (λb A2 n2 c2 wd=>(j-b).toNat) ?_ ?_
   ·exact⟨a,A1,n1,c1,acc,⟨G,G,(cm),(Qc),(j8),(λ_=>⟨hL,hP⟩)⟩,KP⟩
   intro b A2 n2 c2 wd ⟨o7,vl,pj,Yz,d9,Vj⟩;refine aD<|wq<|wm Z<|wm Z<|wy (qP Z Z)<|aA<|bA Z (λkb=> ?_) (λkb=> ?_)
   ·refine aI<|aH<|wq<|wm Z<|wm Z<|wm Z<|wS Z Z<|wa (bH .i64 [j-i] aa zs3 Z Z Z) ?_;rintro _ _⟨cy,rfl,rfl⟩;refine wa (aQ 1 Z aa zb3 Z Z Z (rdr 0 Z)) ?_;rintro _ _⟨en,es,rfl,rfl⟩;refine bC (v:=sl en (n2+1) es) Z<|wn Z<|aK<|wm Z<|wm Z<|wm Z<|wS Z Z<|wA Z Z<|wn Z ?_;exact⟨b+(j-i),en,n2+1,es,wd++([j-i]),⟨G,G,(by rw[ah,pj];rfl),(by rw[ah,ib];omega),(by rw[d9,aOh G kb pn hj (Vj kb).1 (Vj kb).2 fh,gq];rfl),(λh=>aFw G pn (Vj kb).1 (Vj kb).2 h)⟩,G,SA,λ_ h=>h.sel [1] cC Z⟩
   ·refine aR ?_;exact⟨b,A2,n2,c2,wd,⟨G,G,(pj),(Yz),(d9)⟩,G,KP⟩
 ·refine aR<|wq<|wm Z<|wn Z<|aT [0] 99 cC Z ?_;refine⟨_,Z,?_⟩;have e:(u.drop a.toNat).length=0:=by rw[az];omega
  rw[NT e,jh] at j8;rw[j8];obtain rfl:=cm;exact⟨_,_,Z,Z⟩
end Go.Proofs.YtdbebmmhdefgdaaGreat
namespace Go.Pure
open Go Go.Eng
section
variable {u m V:AH} {i:Int}
end
theorem aIa {l:AE} {f:Int × Int->Int} {i:Int} (h0:0<=i) (h:i<l.length):rd (l.map f) i=f (rdp l i):=by
 unfold rd rdp;rw[ai,ai,ol,av G];rfl
end Go.Pure
namespace Go.Proofs.YtdbebmmhdefgdaaGreat
open Go Go.Eng Go.Pure
open Tryz
set_option maxRecDepth 100000
variable {w:World} {ap:AF} {bl an:Nat} {u:AH}
theorem KH {s:AH} {k:Int} (h:k=(dN s).length):iC s (dN s) k=bws s:=by rw[h];rfl
theorem aGs (ac:Rd w ap bl an 1 (ints .u8 u)) (am:aN u) (hN:u.length<=100000):
  CF 104 #[sl ap bl an] w (λv R'=> ∃(lt:AE) (A:AF) (c:Nat),v= .tuple #[sl A lt.length c,I 0]/\lt.Perm (fG (bws u) (bws u).length)/\lt.Pairwise (jF (bws u))/\R'=[(ru 5 A lt.length c (lt.map (lastB (bws u))))]):=by
 obtain rfl:=ac.lenI;refine fn2 Tryz.func104 Z Z Z ?_;have kc:=ac.max;have tx:=DX u;refine wq<|wg Z<|wn Z<|aD<|wq<|wm Z<|wy (aL af Z)<|wy (Yl.f (dA Z Z))<|aA<|aP Z<|aI<|aD ?_;refine aK<|bT (R1:=[⟨22,1,none,0,0,[],false⟩]) (Sub.refl _) (λ_ h=>h.nil 22 1)<|wn Z<|wq<|wn Z<|aD<|wq<|wm Z<|wa (aC bLw Z (Ct.fresh (λw hw=>aFo ((ac.c _) w hw) G))) ?_;rintro _ _⟨_,rfl,cg,ce,rfl,rfl⟩;refine wy (aL aa Z)<|wm Z<|aA<|aH ?_;refine mX (λ(k:Int) (A1:AF) (n1:Nat) (c1:Nat) (vals:AG) (a:Int)=>[(0,sl ap u.length an),(4,sl A1 n1 c1),(5,I a),(16,sl cg ((dN (u)).length) ce),(17,I (((dN (u)).length:Nat):Int)),(18,I k)]) (λk A1 n1 c1 vals a=>[(ri 3 cg ((dN (u)).length) ce (dN (u))),⟨22,1,A1,n1,c1,vals,false⟩]) (λk A1 n1 c1 vals a=>(0<=k)/\(k<=(dN u).length)/\(n1=k.toNat)/\(SlW .u8 w vals (iC u (dN u) k))/\(a=ps (dN u) k)) (λk A1 n1 c1 vals a=>((dN u).length-k).toNat) ?_ ?_
 ·exact⟨0,none,0,0,[],0,⟨G,G,(Z),(gD _ _),(Z)⟩,KP⟩
 intro k A1 n1 c1 vals a ⟨ju,tz,cm,lf,ha⟩;refine wq<|wL Z Z<|aA<|aD<|bA Z (λba=> ?_) (λba=> ?_)
 ·have Ll:=lY (L:=dN u) ju G;have sk:=bDt u (k+1);have k6:=FP (rF u) k;have Ud:=rF u _ (bI (L:=dN u) ju G)
  have Oz:SlW .u8 w (vals++[sl (jH ap a.toNat an 1) ((a+rd (dN u) k).toNat-a.toNat) (an-a.toNat)]) (iC u (dN u) (k+1)):=by
   rw[vR ju,<-ha,show(rd (dN u) k).toNat=(a+rd (dN u) k).toNat-a.toNat by omega];exact lf.snoc (ac.cutI G G) (λx hx=>dR (am x (ny (lc hx)))) (by rw[ax,az];omega)
  refine aI<|aD<|aH<|wq<|wy (aF aa sz3 Z Z (rdr 0 Z))<|wy (aU au Z Z (rdr 0 Z))<|wn Z<|wq<|wm Z<|wm Z<|wm Z<|wm Z ?_;refine wm Z<|wA Z Z<|wy (aHf af sz5 Z Z Z (ac.c _) G G G)<|wa (iQ [Value.slice (jH ap (a).toNat an 1) ((a+(rd (dN (u)) k)).toNat-(a).toNat) (an-(a).toNat)] ay nS Z Z Z Z) ?_;rintro _ _⟨jt,rfl,rfl⟩;refine wa (fJ 2 Z Z ay yY Z Z Z Z Z (rdr 0 Z) (by simp[Value.oneCell']) (by dsimp only;omega)) ?_;rintro _ _⟨gn,mj,rfl,rfl⟩;refine bC (v:=sl gn (n1+1) mj) Z<|wn Z<|aK<|wm Z<|wm Z<|wA Z Z<|wn Z<|aK<|wA Z Z<|wm Z<|aA ?_;exact⟨k+1,gn,n1+1,mj,vals++([Value.slice (jH ap (a).toNat an 1) ((a+(rd (dN (u)) k)).toNat-(a).toNat) (an-(a).toNat)]),a+(rd (dN (u)) k),⟨G,G,G,(Oz),(by rw[Ll,ha])⟩,G,SA,λ_ h=>h.sel [1,2] cC Z⟩
 ·refine aR<|wq<|wa (bH .u8 [] af zs5 Z Z Z) ?_;rintro _ _⟨ml,rfl,rfl⟩;refine wn Z<|aD<|wq<|wm Z<|wa (aC bEs Z (Ct.fresh (λw hw=>XQ ((rdr 2 Z) w hw) (lf.c hw) (by rw[KH (show k=(dN u).length by omega),nK,aJv];have:=DX u;omega)))) ?_;rintro _ _⟨_,rfl,lt,fz,ci,rfl,a7,ge,rfl⟩;refine wy (aL jg Z)<|wm Z<|aA<|aH ?_;refine eH (λ(q:Int) (B1:AF) (m1:Nat) (d1:Nat) (acc:AH)=>[(4,sl A1 n1 c1),(8,sl B1 m1 d1),(37,sl fz lt.length ci),(38,I (lt.length:Int)),(39,I q)]) (λq B1 m1 d1 acc=>[⟨230,2,fz,lt.length,ci,prs lt,false⟩,(ru 5 B1 m1 d1 acc),(ri 3 cg ((dN (u)).length) ce (dN (u))),⟨22,1,A1,n1,c1,vals,false⟩]) (λq B1 m1 d1 acc=>(0<=q)/\(q<=lt.length)/\(m1=acc.length)/\(acc.length=q.toNat)/\(acc=(lt.take q.toNat).map (lastB (iC u (dN u) k)))) (λq B1 m1 d1 acc=>(lt.length-q).toNat) ?_ ?_
  ·exact⟨0,GG ml,0,0,[],⟨G,G,(Z),(Z),(Z)⟩,KP⟩
  intro q B1 m1 d1 acc ⟨js,xa,mt,Sk,bc⟩;have ur:lt.length=u.length:=by rw[KH (show k=(dN u).length by omega)] at a7;exact EJ a7
  refine wq<|wL Z Z<|aA<|aD<|bA Z (λcj=> ?_) (λcj=> ?_)
  ·have ht:=sD.1 (a7.subset (jY (l:=lt) js G));have yv:=ht.2.2;have he0:=jv ((rdp lt q).2+(rdl (iC u (dN u) k) (rdp lt q).1).length-1) (show((rdl (iC u (dN u) k) (rdp lt q).1).length:Int)≠0 by omega);have he1:=iy ((rdp lt q).2+(rdl (iC u (dN u) k) (rdp lt q).1).length-1) (show(0:Int)<(rdl (iC u (dN u) k) (rdp lt q).1).length by omega);refine aI<|aD<|aH<|wq<|wy (mU jg jQ Z Z (rdr 0 Z) Z)<|wy (aHh jo Z jQ Z (rdr 0 Z))<|wa (kF (sz:=2) aHe Z) ?_;rintro _ _⟨o3,rfl,rfl⟩;refine dC (jN (vs:=[I ((rdp lt q).1),I ((rdp lt q).2)]) 0 Z jQ Z Z Z (by intro v hv;simp at hv;rcases hv with rfl|rfl<;>rfl) Z) ?_;rintro _ _ rfl;refine aA<|wq<|wm Z<|wy (dK (q:=0) (rdr 0 Z) jo sz3 Z Z (ak Z) cC cC Z)<|wy (yL 0 au Z Z Z)<|wy (aF ay dH Z Z (rdr 4 Z) (by first|exact ht.1|(have:=ht.2.1;rw[uJ] at this;omega)) (by first|exact ht.1|(have:=ht.2.1;rw[uJ] at this;omega))) ?_;refine lf.elim (i:=(rdp lt q).1) (by first|exact ht.1|exact ht.2.1) (by first|exact ht.1|exact ht.2.1) (λfk sp Uo Mp hb_20 mhr_19=> ?_);refine wy (lC af Z Z Z (rdr 4 Z) Uo)<|wn Z<|aK<|wm Z<|wm Z<|wy (dK (q:=1) (rdr 0 Z) jo sz3 Z Z (ak Z) cC cC Z)<|wy (yL 0 au Z Z Z)<|wm Z<|wy (aL af Z)<|wA Z Z<|wS Z Z<|wm Z<|wy (aL af Z)<|wy (rR Z Z) ?_;refine wy (aF af sz5 Z Z (Mp.c _))<|wy (aU bn Z Z (Mp.c _))<|wa (bH .u8 [rd (rdl (iC u (dN u) k) ((rdp lt q).1)) (((((rdp lt q).2)+(((rdl (iC u (dN u) k) ((rdp lt q).1)).length:Nat):Int))-1)%(((rdl (iC u (dN u) k) ((rdp lt q).1)).length:Nat):Int))] af zs5 Z Z Z) ?_;rintro _ _⟨z7,rfl,rfl⟩;refine wa (aQ 3 Z af zb5 Z Z Z (rdr 0 Z)) ?_;rintro _ _⟨re,rh,rfl,rfl⟩;refine bC (v:=sl re (m1+1) rh) Z<|wn Z<|aK<|wA Z Z<|wm Z<|aA ?_;exact⟨q+1,re,m1+1,rh,acc++([rd (rdl (iC u (dN u) k) ((rdp lt q).1)) (((((rdp lt q).2)+(((rdl (iC u (dN u) k) ((rdp lt q).1)).length:Nat):Int))-1)%(((rdl (iC u (dN u) k) ((rdp lt q).1)).length:Nat):Int))]),⟨G,G,(by rw[ah,mt];rfl),(by rw[ah,Sk,ib];omega),(by rw[LB js G,iv,bc];rfl)⟩,G,SA,λ_ h=>h.sel [2,3,4,5] cC Z⟩
  ·refine aR<|wq<|wm Z<|wg Z<|wn Z<|aT [1] 99 cC Z ?_;refine⟨_,_,Z,Z,?_⟩;have e:k=(dN u).length:=G
   rw[KH e] at a7 ge bc;rw[bi G] at bc;subst bc;obtain rfl:m1=lt.length:=by rw[mt,bq]
   exact⟨lt,_,_,Z,a7,ge,Z⟩
theorem SH {ar:AF} {bo aw:Nat} {al:AG} {ws:AD} (ao:Rd w ar bo aw 1 al) (bh:SlW .u8 w al ws) (hN:ws.flatten.length<=400000/\ws.length<=1000000):
  CF 139 #[sl ar bo aw] w (λv R'=> ∃(lt:AE) (A:AF) (c:Nat),v=sl A lt.length c/\lt.Perm (fG ws ws.length)/\lt.Pairwise (jF ws)/\R'=[(ru 5 A lt.length c (lt.map (lastB ws)))]):=by
 obtain rfl:bo=ws.length:=by have:=ao.len;have:=bh.1;omega
 refine fn1 Tryz.func139 Z Z Z ?_;have kh:=ao.max;refine wq<|wn Z<|wq<|wm Z<|wa (aC bLi Z (Ct.fresh (λw hw=>aKp ((ao.c _) w hw) (bh.c hw) cE))) ?_;rintro _ _⟨_,rfl,l8,cg,ce,rfl,Zo,hs8,rfl⟩;refine wn Z<|wq<|bT (R1:=[(ru 5 none 0 0 ([])),⟨230,2,cg,l8.length,ce,prs l8,false⟩]) (Sub.refl _) (λ_ h=>h.nil 5 1)<|wn Z<|aD<|wq<|wn Z<|aH ?_;refine eH (λ(q:Int) (B1:AF) (m1:Nat) (d1:Nat) (acc:AH)=>[(0,sl ar ws.length aw),(3,sl cg l8.length ce),(4,sl B1 m1 d1),(5,I q)]) (λq B1 m1 d1 acc=>[(ru 5 B1 m1 d1 acc),⟨230,2,cg,l8.length,ce,prs l8,false⟩]) (λq B1 m1 d1 acc=>(0<=q)/\(q<=l8.length)/\(m1=acc.length)/\(acc.length=q.toNat)/\(acc=(l8.take q.toNat).map (lastB ws))) (λq B1 m1 d1 acc=>(l8.length-q).toNat) ?_ ?_
 ·exact⟨0,none,0,0,[],⟨G,G,(Z),(Z),(Z)⟩,KP⟩
 intro q B1 m1 d1 acc ⟨js,xa,mt,Sk,bc⟩;have ur:=EM Zo;refine aD<|wq<|wm Z<|wm Z<|wy (aL jg Z)<|wL Z Z<|aA<|bA Z (λba=> ?_) (λba=> ?_)
 ·have ht:=sD.1 (Zo.subset (jY (l:=l8) js G));have yv:=ht.2.2;have he0:=jv ((rdp l8 q).2+(rdl ws (rdp l8 q).1).length-1) (show((rdl ws (rdp l8 q).1).length:Int)≠0 by omega);have he1:=iy ((rdp l8 q).2+(rdl ws (rdp l8 q).1).length-1) (show(0:Int)<(rdl ws (rdp l8 q).1).length by omega);refine aI<|aD<|aH<|wq<|wm Z<|wm Z<|wm Z<|wy (mU jg jQ Z Z (rdr 1 Z) Z)<|wy (AX (q:=0) jo sz3 Z Z (rdr 1 Z) G G Z cC cC)<|wy (aPt au Z Z (rdr 1 Z))<|wy (aF ay dH Z Z (ao.c _) (by first|exact ht.1|exact ht.2.1) (by first|exact ht.1|exact ht.2.1)) ?_;refine bh.elim (i:=(rdp l8 q).1) (by first|exact ht.1|exact ht.2.1) (by first|exact ht.1|exact ht.2.1) (λns pi hv_6 Lm hb_8 mhr_7=> ?_);refine wy (lC af Z Z Z (ao.c _) hv_6)<|wn Z<|aK<|wm Z<|wm Z<|wm Z<|wm Z<|wy (mU jg jQ Z Z (rdr 1 Z) Z)<|wy (AX (q:=1) jo sz3 Z Z (rdr 1 Z) G G Z cC cC)<|wy (aPs au Z Z (rdr 1 Z) G G)<|wm Z<|wy (aL af Z)<|wA Z Z<|wS Z Z ?_;refine wm Z<|wy (aL af Z)<|wy (rR Z Z)<|wy (aF af sz5 Z Z (Lm.c _))<|wy (aU bn Z Z (Lm.c _))<|wa (bH .u8 [rd (rdl ws ((rdp l8 q).1)) (((((rdp l8 q).2)+(((rdl ws ((rdp l8 q).1)).length:Nat):Int))-1)%(((rdl ws ((rdp l8 q).1)).length:Nat):Int))] af zs5 Z Z Z) ?_;rintro _ _⟨j4,rfl,rfl⟩;refine wa (aQ 1 Z af zb5 Z Z Z (rdr 0 Z)) ?_;rintro _ _⟨fz,ci,rfl,rfl⟩;refine bC (v:=sl fz (m1+1) ci) Z<|wn Z<|aK<|wm Z<|wA Z Z<|wn Z ?_;exact⟨q+1,fz,m1+1,ci,acc++([rd (rdl ws ((rdp l8 q).1)) (((((rdp l8 q).2)+(((rdl ws ((rdp l8 q).1)).length:Nat):Int))-1)%(((rdl ws ((rdp l8 q).1)).length:Nat):Int))]),⟨G,G,(by rw[ah,mt];rfl),(by rw[ah,Sk,ib];omega),(by rw[LB js G,iv,bc];rfl)⟩,G,SA,λ_ h=>h.sel [1,2] cC Z⟩
 ·refine aR<|wq<|wm Z<|wn Z<|aT [0] 99 cC Z ?_;refine⟨_,Z,?_⟩;rw[bi G] at bc;subst bc;obtain rfl:m1=l8.length:=by rw[mt,bq]
  exact⟨l8,_,_,Z,Zo,hs8,Z⟩
theorem aKt (ac:Rd w ap bl an 1 (ints .u8 u)) (am:aN u) (hN:u.length<=100000):
  CF 83 #[sl ap bl an] w (λv R'=> ∃(lt:AE) (A:AF) (c:Nat),v=sl A lt.length c/\lt.Perm (fG (bws u) (bws u).length)/\lt.Pairwise (jF (bws u))/\R'=[(ru 5 A lt.length c (lt.map (lastB (bws u))))]):=by
 obtain rfl:=ac.lenI;refine fn1 Tryz.func83 Z Z Z ?_;have kc:=ac.max;have tx:=DX u;refine wq<|wn Z<|wq<|wm Z<|wa (aC bMe Z (Ct.fresh (λw hw=>aAm ((ac.c _) w hw) G))) ?_;rintro _ _⟨_,rfl,cg,ce,rfl,rfl⟩;refine wn Z<|wq<|bT (R1:=[⟨22,1,none,0,0,[],false⟩,(ri 3 cg ((dN (u)).length) ce (dN (u)))]) (Sub.refl _) (λ_ h=>h.nil 22 1)<|wn Z<|aD<|wq<|wn Z<|aH ?_;refine uL (λ(k:Int) (A1:AF) (n1:Nat) (c1:Nat) (vals:AG) (A0:AF) (n0:Nat) (c0:Nat)=>[(0,sl A0 n0 c0),(3,sl cg ((dN (u)).length) ce),(4,sl A1 n1 c1),(5,I k)]) (λk A1 n1 c1 vals A0 n0 c0=>[⟨22,1,A1,n1,c1,vals,false⟩,(ri 3 cg ((dN (u)).length) ce (dN (u)))]) (λk A1 n1 c1 vals A0 n0 c0=>(0<=k)/\(k<=(dN u).length)/\(n1=k.toNat)/\(SlW .u8 w vals (iC u (dN u) k))/\(Rd w A0 n0 c0 1 (ints .u8 (u.drop (ps (dN u) k).toNat)))) (λk A1 n1 c1 vals A0 n0 c0=>((dN u).length-k).toNat) ?_ ?_
 ·exact⟨0,none,0,0,[],ap,u.length,an,⟨G,G,(Z),(gD _ _),(ac)⟩,KP⟩
 intro k A1 n1 c1 vals A0 n0 c0 ⟨ju,tz,cm,lf,gr⟩;have Le:=gr.lenI;have rv:=gr.max;rw[az] at Le;refine aD<|wq<|wm Z<|wm Z<|wy (aL aa Z)<|wL Z Z<|aA<|bA Z (λba=> ?_) (λba=> ?_)
 ·have Ll:=lY (L:=dN u) ju G;have sk:=bDt u (k+1);have k6:=FP (rF u) k;have Ud:=rF u _ (bI (L:=dN u) ju G)
  have Oz:SlW .u8 w (vals++[sl A0 (rd (dN u) k).toNat c0]) (iC u (dN u) (k+1)):=by
   rw[vR ju];exact lf.snoc (gr.toI G) (λx hx=>dR (am x (ny (lc hx)))) (by rw[ax,az];omega)
  refine aI<|aD<|aH<|wq<|wm Z<|wm Z<|wm Z<|wm Z<|wy (aF aa sz3 Z Z (rdr 1 Z))<|wy (aU au Z Z (rdr 1 Z))<|wy (dV af sz5 Z Z (gr.c _))<|wa (iQ [Value.slice A0 ((rd (dN (u)) k).toNat) c0] ay nS Z Z Z Z) ?_;rintro _ _⟨jt,rfl,rfl⟩;refine wa (fJ 1 Z Z ay yY Z Z Z Z Z (rdr 0 Z) (by simp[Value.oneCell']) (by dsimp only;omega)) ?_;rintro _ _⟨gn,mj,rfl,rfl⟩;refine bC (v:=sl gn (n1+1) mj) Z<|wn Z<|aK<|wm Z<|wm Z<|wm Z<|wy (aF aa sz3 Z Z (rdr 2 Z))<|wy (aU au Z Z (rdr 2 Z))<|wy (dF af sz5 Z Z)<|wn Z<|aK<|wm Z<|wA Z Z ?_;refine wn Z ?_
  exact⟨k+1,gn,n1+1,mj,vals++([Value.slice A0 ((rd (dN (u)) k).toNat) c0]),jH A0 (rd (dN (u)) k).toNat c0 1,n0-(rd (dN (u)) k).toNat,c0-(rd (dN (u)) k).toNat,⟨G,G,G,(Oz),(by
    have h:=gr.fromI (l:=(rd (dN u) k).toNat) G;rw[Fv] at h;rw[Ll,show(ps (dN u) k+rd (dN u) k).toNat=(ps (dN u) k).toNat+(rd (dN u) k).toNat by omega]
    exact h)⟩,G,SA,λ_ h=>h.sel [1,2] cC Z⟩
 ·refine aR<|wq<|wm Z<|wa (aC bEt Z (Ct.fresh (λw hw=>SH ((rdr 0 Z) w hw) (lf.c hw) (by rw[KH (show k=(dN u).length by omega),nK,aJv];omega)))) ?_;rintro _ _⟨_,rfl,l2,kd,mu,rfl,pt,tj,rfl⟩;refine wn Z<|aT [0] 99 cC Z ?_;refine⟨_,Z,?_⟩;have e:k=(dN u).length:=G
  rw[KH e] at pt tj ⊢;exact⟨l2,_,_,Z,pt,tj,Z⟩
end Go.Proofs.YtdbebmmhdefgdaaGreat
namespace Go.Pure
open Go Go.Eng
section
variable {p:AH}
theorem vT {j:Int} (j0:0<=j): ∀(f:Nat) (E:List Bool) (k:Int),(hp:p.Perm (iota p.length))->E.length=p.length->0<=k->k<p.length->rdb E j=true->rdb (gY p f E k).2 j=true
 |0,E,k,_,_,_,_,h=>h
 | f+1,E,k,hp,hl,k0,hk,h=>by
  rw[gY];split
  ·exact h
  ·have hn:=aZ.1 (hp.subset (bI (L:=p) k0 hk));refine vT j0 f _ _ hp (by rw[lU];exact hl) hn.1 hn.2 ?_;rw[yE k0 G j0];split
   ·rfl
   ·exact h
theorem XJ (hp:p.Perm (iota p.length)) {f:Nat} {E:List Bool} {k:Int} (hl:E.length=p.length) (k0:0<=k) (hk:k<p.length) (hf:cntF E<=f):rdb (gY p f E k).2 k=true:=by
 by_cases h:rdb E k=true
 ·rw[uK h];exact h
 ·rw [KL k0 G hf h];have hn:=aZ.1 (hp.subset (bI (L:=p) k0 hk));exact vT k0 _ _ _ hp (by rw[lU];exact hl) hn.1 hn.2 (by rw[yE k0 G k0,di rfl])
theorem GN (hp:p.Perm (iota p.length)): ∀i:Nat,i<=p.length-> ∀j:Nat,j<i->rdb (jM p i).1 j=true
 |0,_,j,hj=>G
 | i+1,hi,j,hj=>by
  have hf:=mI hp i G;have hc:cntF (jM p i).1<=p.length:=by have:=hf.2.2;omega
  rw[jM];rcases gm j i with g|g
  ·exact vT G _ _ _ hp hf.1 G G (GN hp i G j g)
  ·obtain rfl:j=i:=G
   exact XJ hp hf.1 G G hc
theorem aOr {E:List Bool} (h: ∀j:Nat,j<E.length->rdb E j=true):cntF E=0:=by
 unfold cntF;rw[Bt];intro b hb;obtain⟨j,hj,rfl⟩:=gz.1 hb;have:=h j hj;have e:rdb E (j:Int)=E[j]:=by unfold rdb;rw[cz,ai,av hj];rfl
 rw[e] at this;rw[this];simp
theorem aBd (hp:p.Perm (iota p.length)):(fQ p).flatten.length=p.length:=by
 have hf:=mI hp p.length (dx _);have:=aOr (E:=(jM p p.length).1) λj hj=>GN hp p.length (dx _) j (by rw[hf.1] at hj;exact hj);unfold fQ;omega
theorem aPh (l:AH) (cs:AD):(backL l cs).length=cs.flatten.length:=by
 unfold backL;rw[qc,qo,qc,Du,List.sum_reverse];congr 2;funext c;exact nU l c
theorem aMk {l:AH} {cs:AD} {x:Int} (h:x∈backL l cs): ∃y,y∈cs.flatten/\x=rd l y:=by
 unfold backL at h;obtain⟨w,hw,hx⟩:=ug.1 h;obtain⟨c,hc,rfl⟩:=ii.1 hw;unfold kN at hx;obtain⟨y,hy,rfl⟩:=ii.1 hx;exact⟨y,ug.2 ⟨c,ze.1 hc,ze.1 hy⟩,rfl⟩
theorem aPi {l:AH} (hl:aN l) (cs:AD):aN (backL l cs):=λx hx=>by
 obtain⟨y,_,rfl⟩:=aMk hx;exact hl.rd _
theorem bCg {cs:AD} {k:Int} (k0:0<=k) (hk:k<cs.length):rdl cs k∈cs:=by
 unfold rdl;rw[ai,av G];exact mg _
theorem aGu {l acc qq:AH} {cs:AD} {m kr:Nat} (hm:m=cs.length) (Lc:kr<m) (bc:acc=(((cs.reverse).take kr).map (kN l)).flatten) (h2:qq=acc++(((rdl cs ((m-1-kr:Nat):Int)).reverse).take (rdl cs ((m-1-kr:Nat):Int)).length).map (rd l)):qq=(((cs.reverse).take (kr+1)).map (kN l)).flatten:=by
 rw[aGv G,h2,bc,bi (l:=(rdl cs ((m-1-kr:Nat):Int)).reverse) (by rw[nk];exact dx _),show((m-1-kr:Nat):Int)=(cs.length:Int)-1-kr by omega];rfl
theorem aCs {l acc qq c:AH} {kq:Nat} (hk:kq<c.length) (h:qq=acc++((c.reverse).take kq).map (rd l)):qq++[rd l (rd c ((c.length-1-kq:Nat):Int))]=acc++((c.reverse).take (kq+1)).map (rd l):=by
 rw[aCt hk,<-gq,<-h,show((c.length-1-kq:Nat):Int)=(c.length:Int)-1-kq by omega]
theorem aOl {p:AH}:(fQ p).length<=p.length:=NZ p p.length
end
end Go.Pure
namespace Go.Proofs.YtdbebmmhdefgdaaGreat
open Go Go.Eng Go.Pure
open Tryz
set_option maxRecDepth 100000
variable {B iz dd:Nat} {w0:World} {R:List Row} {dg:AF}
theorem aCe:
  CT 185 #[sl dg iz dd] B w0 R (λv R'=> ∃g,v= .func (.func 240) #[] #[PG g]/\R'=(rc 232 1 g [sl dg iz dd])::R):=by
 refine fn1 Tryz.func185 Z Z Z ?_;refine wq<|wa (cB (sz:=1) Z Z) ?_;rintro _ _⟨g,rfl,rfl⟩;refine wn Z<|wq<|wy (mG Z Z)<|wn Z<|bQ ?_;exact⟨_,Z,g,Z,Z⟩
theorem aCf:
  CT 186 #[sl dg iz dd] B w0 R (λv R'=> ∃g,v= .func (.func 241) #[] #[PG g]/\R'=(rc 52 1 g [sl dg iz dd])::R):=by
 refine fn1 Tryz.func186 Z Z Z ?_;refine wq<|wa (cB (sz:=1) Z Z) ?_;rintro _ _⟨g,rfl,rfl⟩;refine wn Z<|wq<|wy (mG Z Z)<|wn Z<|bQ ?_;exact⟨_,Z,g,Z,Z⟩
theorem aGt {w:World} {ap:AF} {bl an:Nat} {u:AH} (ac:Rd w ap bl an 1 (ints .u8 u)) (am:aN u) (hN:u.length<=100000):
  CF 110 #[sl ap bl an] w (λv R'=> ∃A c,v= .tuple #[sl A (backL u (fQ (fsL u))).length c,I 0]/\R'=[(ru 5 A ((backL u (fQ (fsL u))).length) c (backL u (fQ (fsL u))))]):=by
 obtain rfl:=ac.lenI;refine fnV Tryz.func110 Z Z ?_;have kc:=ac.max;have Yr:=aVg am;have tx:=yP u;have kt:=aWw Yr;have hcf:=aOl (p:=fsL u);refine eP ?_;refine aK<|wa (cB (sz:=1) Z Z) ?_;rintro _ _⟨aq,rfl,rfl⟩;refine wg Z<|wn Z ?_;refine eP ?_;refine wq<|wy (yL 0 af Z Z Z)<|wy (aL af Z)<|wy (Yl.f (dA Z Z))<|aA<|aP Z<|aI ?_;refine eP ?_;refine aK<|wy (yL 0 af Z Z Z)<|wa (aC bLt Z (Ct.fresh (λw hw=>bBf ((ac.c _) w hw) am G))) ?_;rintro _ _⟨_,rfl,en,es,rfl,rfl⟩;refine wa (aC bLu Z (Ct.fresh (λw hw=>aOk ((rdr 0 Z) w hw) Yr G))) ?_;rintro _ _⟨_,rfl,gn,mj,du,Nf,rfl,rj,rfl⟩;have Qf:=rj.1;refine bT (R1:=(⟨52,1,gn,du.length,mj,du,false⟩::(ri 3 en ((fsL u).length) es (fsL u))::(rc 22 1 aq [sl ap u.length an])::Nf)) (Sub.refl _) (λ_ h=>Hp.toTail0 (X:=[_]) (Y:=[_,_]) h)<|wm Z<|wX Z Z<|wX Z Z<|wg Z<|wn Z ?_;refine eP ?_;refine aK<|wa (bH .u8 [] af zs5 Z Z Z) ?_;rintro _ _⟨jn,rfl,rfl⟩;refine wa (kF (sz:=1) bFb Z) ?_;rintro _ _⟨jp,rfl,rfl⟩;refine dC (bE 0 Z Z Z dH Z Z Z Z (ak Z)) ?_;rintro _ _ rfl;refine aA ?_;refine XN ?_;refine eP ?_;refine aK<|wm Z<|wa (aC bLs Z (aCe)) ?_;rintro _ _⟨o3,rfl,rfl⟩;refine aA ?_;refine BF ?_;refine aKn Z bKr (aXt (A:=gn) (c:=mj) (xs:=du) (by have:=rj.1;omega)) Z (λ_=>Z) Gd.refl (λ(kr:Nat) (A1:AF) (n1:Nat) (c1:Nat) (acc:AH)=>((rc 232 1 o3 [sl gn du.length mj])::(rc 22 1 jp [sl A1 n1 c1])::(ru 5 A1 n1 c1 acc)::⟨52,1,gn,du.length,mj,du,false⟩::(ri 3 en ((fsL u).length) es (fsL u))::(rc 22 1 aq [sl ap u.length an])::Nf)) (λkr A1 n1 c1 acc=>(n1=acc.length)/\(acc=(((fQ (fsL u)).reverse.take kr).map (kN u)).flatten)) ?_ ?_ ?_ ?_
 ·exact⟨GG jn,0,0,[],⟨(Z),(Z)⟩,λ_ h=>h⟩
 ·intro kr A1 n1 c1 acc w ⟨cm,bc⟩ hw;exact⟨(rdr 0 Z) w hw,(rdr 3 Z) w hw⟩
 ·intro lr kr A1 n1 c1 acc Wv Lc ⟨cm,bc⟩ Nw;have qt:acc.length<=u.length:=by rw[bc];exact qy aAj G
  obtain⟨dj,dp,Mw,Ty⟩:=rj.at (i:=((du.length-1-kr:Nat):Int)) G (by have:=rj.1;omega)
  have Sz:du[du.length-1-kr]?.getD undef=sl dj (rdl (fQ (fsL u)) ((du.length-1-kr:Nat):Int)).length dp:=by
   rw[cz] at Mw;rw[Mw];rfl
  refine bNq (d:=24) (v:=sl dj (rdl (fQ (fsL u)) ((du.length-1-kr:Nat):Int)).length dp) (bu some Sz) ?_;have tc:rdl (fQ (fsL u)) ((du.length-1-kr:Nat):Int)∈fQ (fsL u):=bCg G (by have:=rj.1;omega);have hcl2:(rdl (fQ (fsL u)) ((du.length-1-kr:Nat):Int)).length<=u.length:=by have:=ve (rz tc);omega
  refine aK<|wn Z ?_;intro Ng vc Tg;refine aH<|wq<|wm Z<|wa (aC bEr Z (aCf)) ?_;rintro _ _⟨z7,rfl,rfl⟩;refine aA<|aH ?_;refine aQa Z bEl (OX (A:=dj) (c:=dp) (zs:=rdl (fQ (fsL u)) ((du.length-1-kr:Nat):Int)) G) Z (λ_=>Z) ⟨_,Tg.choose_spec⟩ (λ(kq:Nat) (A2:AF) (n2:Nat) (c2:Nat) (qq:AH)=>((rc 52 1 z7 [sl dj ((rdl (fQ (fsL u)) ((du.length-1-kr:Nat):Int)).length) dp])::(rc 232 1 o3 [sl gn du.length mj])::(rc 22 1 jp [sl A2 n2 c2])::(ru 5 A2 n2 c2 qq)::⟨52,1,gn,du.length,mj,du,false⟩::(ri 3 en ((fsL u).length) es (fsL u))::(rc 22 1 aq [sl ap u.length an])::Nf)) (λkq A2 n2 c2 qq=>(n2=qq.length)/\(qq=acc++((rdl (fQ (fsL u)) ((du.length-1-kr:Nat):Int)).reverse.take kq).map (rd u))) ?_ ?_ ?_ ?_
  ·exact⟨A1,n1,c1,acc,⟨(cm),(by rw[zh];simp)⟩,λ_ h=>h⟩
  ·intro kq A2 n2 c2 qq w ⟨pj,d5⟩ hw;exact⟨(rdr 0 Z) w hw,(λ_ h=>Ty _ _ _ (h.right (R':=[_,_,_,_,_,_,_]))) w hw⟩
  ·intro lr kq A2 n2 c2 qq WW2 hkq ⟨pj,d5⟩ Yc;have ue:=aJk Yr _ tc _ (bI (L:=rdl (fQ (fsL u)) ((du.length-1-kr:Nat):Int)) (k:=(((rdl (fQ (fsL u)) ((du.length-1-kr:Nat):Int)).length-1-kq:Nat):Int)) G G);have Nv:qq.length<=acc.length+(rdl (fQ (fsL u)) ((du.length-1-kr:Nat):Int)).length:=by rw[d5,ah,bq,ax,nk];omega
   refine aK<|wn Z ?_;intro Ww l3 hlW23;refine aH<|bF mixed<|wD 0 Z (yL 2 af Z Z Z)<|wD 1 Z (yL 6 af Z Z Z)<|wD 2 Z (aJ Z)<|wD 3 Z (aF af sz5 Z Z (ac.cb (vc.trans l3) _))<|wD 4 Z (aU bn Z Z (ac.cb (vc.trans l3) _))<|wC 5 Z (bH .u8 [rd u (rd (rdl (fQ (fsL u)) ((du.length-1-kr:Nat):Int)) (((rdl (fQ (fsL u)) ((du.length-1-kr:Nat):Int)).length-1-kq:Nat):Int))] af zs5 Z Z Z) ?_;rintro _ _⟨wk,rfl,rfl⟩;refine⟨.inr hrZ,?_⟩;refine wC 6 Z (aQ 4 Z af zb5 Z Z Z (rdr 0 Z)) ?_;rintro _ _⟨nd,nh,rfl,rfl⟩;refine⟨.inl cA,?_⟩;refine fO (v:=sl nd (n2+1) nh) Z<|qD 7 Z cA (bE 3 Z Z Z dH Z Z Z Z (ak Z)) ?_;rintro _ _ rfl;refine⟨.inl cA,?_⟩;refine wN ?_;exact⟨nd,n2+1,nh,qq++([rd u (rd (rdl (fQ (fsL u)) ((du.length-1-kr:Nat):Int)) (((rdl (fQ (fsL u)) ((du.length-1-kr:Nat):Int)).length-1-kq:Nat):Int))]),⟨(by rw[ah,pj];rfl),(aCs hkq d5)⟩,λ_=>λ_ h=>h.selR (F:=[_,_,_,_,_,_,_,_]) (F':=[_,_,_,_,_,_,_]) [1,2,3,4,5,6,7] cC Z⟩
  intro A2 n2 c2 qq ⟨pj,d5⟩;exact⟨A2,n2,c2,qq,⟨(pj),(aGu rj.1 Lc bc d5)⟩,λ_=>λ_ h=>h.selR (F:=[_,_,_,_,_,_,_]) (F':=[_,_,_,_,_,_]) [1,2,3,4,5,6] cC Z⟩
 intro Nh Wu A1 n1 c1 acc ⟨cm,bc⟩ Bx vb;have hvl:=rj.1;refine XO ?_;refine aQf ?_;refine v_w ?_;refine wq<|wy (yL 1 af Z Z Z)<|wg Z<|wn Z<|bU (R1:=[(ru 5 A1 n1 c1 acc)]) (λ_ h=>(h.selR (F:=[_,_,_,_,_,_]) (F':=[_]) [2] cC Z).left (X:=[_])) ?_;refine aNq Z vb ⟨_,_,Z,Z,?_⟩;rw[bi (by rw[nk];omega)] at bc;obtain rfl:acc=backL u (fQ (fsL u)):=bc;obtain rfl:=cm;exact⟨_,_,Z,Z⟩
variable {w:World} {ap:AF} {bl an:Nat} {u S:AH} {m k r:Int}
theorem bHr {rp:AF} {vu rr:Nat} {a:AH} (ac:Rd w ap bl an 1 (ints .u8 u)) (md:Rd w rp vu rr 1 (ints .i64 a)) (hp:a.Perm (iota u.length)) (hN:u.length<=1000000):
  CF 124 #[sl ap bl an,sl rp vu rr] w (λv R'=> ∃A c,v= .tuple #[sl A (ofL u a).length c,I (zat a),bt]/\R'=[(ru 5 A ((ofL u a).length) c (ofL u a))]):=by
 obtain rfl:=ac.lenI;obtain rfl:=md.lenI;refine fn3 Tryz.func124 Z Z Z ?_;have kc:=ac.max;have Pj:=md.max;have Nu:a.length=u.length:=by rw[hp.length_eq,bD]
 have hnd:a.Nodup:=hp.symm.nodup (eT _);have vf:a.Perm (iota a.length):=by rw[Nu];exact hp
 refine wq<|wg Z<|wg Z<|wn Z<|aD<|wq<|wm Z<|wy (aL aa Z)<|wm Z<|wy (aL af Z)<|wy (Yl.f (jP Z Z))<|wm Z ?_;refine aB Z Z<|wm Z<|aB Z Z<|wa (aC bEp Z (Ct.quiet (λw hw=>aRt ((md.c _) w hw) vf G))) ?_;rintro _ _⟨rfl,rfl⟩;refine aB Z Z<|wy (dW Z)<|wy (aO Z Z)<|aA<|aP Z<|aI<|wq<|wa (bH .u8 [] af zs5 Z Z Z) ?_;rintro _ _⟨cy,rfl,rfl⟩;refine wn Z<|aD<|wq<|wm Z<|wy (aL af Z)<|wy (dA Z Z)<|aA<|bA Z (λba=> ?_) (λba=> ?_)
 ·refine aK<|wm Z<|wm Z<|wm Z<|wy (aL af Z)<|wS Z Z<|wy (aF af sz5 Z Z (ac.c _))<|wy (aU bn Z Z (ac.c _))<|wa (bH .u8 [rd u ((u.length:Int)-1)] af zs5 Z Z Z) ?_;rintro _ _⟨jt,rfl,rfl⟩;refine wa (aQ 1 Z af zb5 Z Z Z (rdr 0 Z)) ?_;rintro _ _⟨gn,mj,rfl,rfl⟩;refine bC (v:=sl gn (0+1) mj) Z<|wn Z<|aD<|wq<|wm Z<|wy (aL aa Z)<|wm Z<|aA<|aH ?_;refine mX (λ(i:Int) (A1:AF) (n1:Nat) (c1:Nat) (acc:AH) (m:Int)=>[(0,sl ap u.length an),(4,sl A1 n1 c1),(5,I m),(32,sl rp a.length rr),(33,I (a.length:Int)),(34,I i)]) (λi A1 n1 c1 acc m=>[(ru 5 (GG jt) 1 1 ([rd u ((u.length:Int)-1)])),(ru 5 A1 n1 c1 acc)]) (λi A1 n1 c1 acc m=>(0<=i)/\(i<=a.length)/\(n1=acc.length)/\(acc=(if 0<u.length then [rd u (u.length-1)] else [])++ofT u (a.take i.toNat))/\(m=zat (a.take i.toNat))) (λi A1 n1 c1 acc m=>(a.length-i).toNat) ?_ ?_
  ·exact⟨0,gn,0+1,mj,([])++([rd u ((u.length:Int)-1)]),0,⟨G,G,(by first|rfl|simp),(by first|(rw[di G];rfl)|(rw[df G];rfl)),(Z)⟩,KP⟩
  intro i A1 n1 c1 acc m ⟨bb,gd,cm,bc,hm⟩
  have qt:acc.length<=i.toNat+1:=by
   have h1:=VK u (a.take i.toNat);rw[ax] at h1;rw[bc,ah];split<;>simp only[dn,jb]<;>omega
  have u3:i<a.length->0<=rd a i/\rd a i<u.length:=λh=>aZ.1 (hp.subset (bI bb h));refine wq<|wL Z Z<|aA<|aD<|bA Z (λcj=> ?_) (λcj=> ?_)
  ·have Sj:=u3 G;refine aI<|aD<|aH<|wq<|wm Z<|wy (aF aa sz3 Z Z (md.c _))<|wy (aU au Z Z (md.c _))<|wg Z<|wn Z<|aD<|wq<|wm Z ?_;refine wy (fD Z Z)<|aA<|bA Z (λfh=> ?_) (λfh=> ?_)
   ·refine wq<|wm Z<|wA Z Z<|wn Z<|aR<|aK<|wA Z Z<|wm Z<|aA ?_;exact⟨i+1,A1,n1,c1,acc,i+1,⟨G,G,(cm),(VJ bb G bc cF),(UD hnd bb G cF)⟩,G,KP⟩
   ·refine aI<|aK<|wm Z<|wm Z<|wm Z<|wS Z Z<|wy (aF af sz5 Z Z (ac.c _))<|wy (aU bn Z Z (ac.c _))<|wa (bH .u8 [rd u ((rd a i)-1)] af zs5 Z Z Z) ?_;rintro _ _⟨ml,rfl,rfl⟩;refine wa (aQ 2 Z af zb5 Z Z Z (rdr 0 Z)) ?_;rintro _ _⟨bw,bx,rfl,rfl⟩;refine bC (v:=sl bw (n1+1) bx) Z<|wn Z<|aK<|wA Z Z<|wm Z<|aA ?_;exact⟨i+1,bw,n1+1,bx,acc++([rd u ((rd a i)-1)]),m,⟨G,G,(by rw[ah,cm];rfl),(aEn bb G bc cF),(aCp hnd bb G hm cF)⟩,G,SA,λ_ h=>h.sel [1,2] cC Z⟩
  ·refine aR<|wq<|wm Z<|wm Z<|wg Z<|wg Z<|wn Z<|aT [1] 99 cC Z ?_;refine⟨_,_,_,Z,Z,Z,?_⟩;have Uj:a.take i.toNat=a:=bi G;rw[Uj] at bc hm;obtain rfl:acc=ofL u a:=bc;obtain rfl:=cm;subst hm;exact⟨_,_,Z,Z⟩
 ·refine aI<|aD<|wq<|wm Z<|wy (aL aa Z)<|wm Z<|aA<|aH ?_;refine mX (λ(i:Int) (A1:AF) (n1:Nat) (c1:Nat) (acc:AH) (m:Int)=>[(0,sl ap u.length an),(4,sl A1 n1 c1),(5,I m),(32,sl rp a.length rr),(33,I (a.length:Int)),(34,I i)]) (λi A1 n1 c1 acc m=>[(ru 5 A1 n1 c1 acc)]) (λi A1 n1 c1 acc m=>(0<=i)/\(i<=a.length)/\(n1=acc.length)/\(acc=(if 0<u.length then [rd u (u.length-1)] else [])++ofT u (a.take i.toNat))/\(m=zat (a.take i.toNat))) (λi A1 n1 c1 acc m=>(a.length-i).toNat) ?_ ?_
  ·exact⟨0,GG cy,0,0,[],0,⟨G,G,(by first|rfl|simp),(by first|(rw[di G];rfl)|(rw[df G];rfl)),(Z)⟩,KP⟩
  intro i A1 n1 c1 acc m ⟨bb,gd,cm,bc,hm⟩
  have qt:acc.length<=i.toNat+1:=by
   have h1:=VK u (a.take i.toNat);rw[ax] at h1;rw[bc,ah];split<;>simp only[dn,jb]<;>omega
  have u3:i<a.length->0<=rd a i/\rd a i<u.length:=λh=>aZ.1 (hp.subset (bI bb h));refine wq<|wL Z Z<|aA<|aD<|bA Z (λjj=> ?_) (λjj=> ?_)
  ·have Sj:=u3 G;refine aI<|aD<|aH<|wq<|wm Z<|wy (aF aa sz3 Z Z (md.c _))<|wy (aU au Z Z (md.c _))<|wg Z<|wn Z<|aD<|wq<|wm Z ?_;refine wy (fD Z Z)<|aA<|bA Z (λkb=> ?_) (λkb=> ?_)
   ·refine wq<|wm Z<|wA Z Z<|wn Z<|aR<|aK<|wA Z Z<|wm Z<|aA ?_;exact⟨i+1,A1,n1,c1,acc,i+1,⟨G,G,(cm),(VJ bb G bc cF),(UD hnd bb G cF)⟩,G,KP⟩
   ·refine aI<|aK<|wm Z<|wm Z<|wm Z<|wS Z Z<|wy (aF af sz5 Z Z (ac.c _))<|wy (aU bn Z Z (ac.c _))<|wa (bH .u8 [rd u ((rd a i)-1)] af zs5 Z Z Z) ?_;rintro _ _⟨jn,rfl,rfl⟩;refine wa (aQ 1 Z af zb5 Z Z Z (rdr 0 Z)) ?_;rintro _ _⟨dy,ee,rfl,rfl⟩;refine bC (v:=sl dy (n1+1) ee) Z<|wn Z<|aK<|wA Z Z<|wm Z<|aA ?_;exact⟨i+1,dy,n1+1,ee,acc++([rd u ((rd a i)-1)]),m,⟨G,G,(by rw[ah,cm];rfl),(aEn bb G bc cF),(aCp hnd bb G hm cF)⟩,G,SA,λ_ h=>h.sel [1] cC Z⟩
  ·refine aR<|wq<|wm Z<|wm Z<|wg Z<|wg Z<|wn Z<|aT [0] 99 cC Z ?_;refine⟨_,_,_,Z,Z,Z,?_⟩;have Uj:a.take i.toNat=a:=bi G;rw[Uj] at bc hm;obtain rfl:acc=ofL u a:=bc;obtain rfl:=cm;subst hm;exact⟨_,_,Z,Z⟩
theorem aNn (ac:Rd w ap bl an 1 (ints .u8 u)) (am:aN u) (hN:u.length<=1000000):
  CF 182 #[sl ap bl an] w (λv R'=> ∃A c,v=sl A (fsL u).length c/\R'=[(ri 3 A ((fsL u).length) c (fsL u))]):=by
 obtain rfl:=ac.lenI;refine fn1 Tryz.func182 Z Z Z ?_;have kc:=ac.max;refine wq<|wn Z<|wq<|wm Z<|wy (aL af Z)<|wa (dM aa zb3 Z Z) ?_;rintro _ _⟨aq,rfl,rfl⟩;refine bC (v:=sl (GG aq) u.length u.length) Z<|wn Z<|wq<|wm Z<|wy (aL af Z)<|wa (dM aa zb3 Z Z) ?_;rintro _ _⟨cy,rfl,rfl⟩;refine bC (v:=sl (GG cy) u.length u.length) Z<|wn Z<|aD<|wq<|wm Z<|wy (aL af Z)<|wm Z<|aA<|aH ?_;refine gN (λ(i:Int) (V:AH) (K:AH)=>[(3,sl (GG aq) u.length u.length),(4,sl (GG cy) u.length u.length),(15,sl ap u.length an),(16,I (u.length:Int)),(17,I i)]) (λi V K=>[(ri 3 (GG cy) u.length u.length K),(ri 3 (GG aq) u.length u.length V)]) (λi V K=>(0<=i)/\(i<=u.length)/\(V.length=u.length)/\(K.length=u.length)/\(∀j:Int,0<=j->j<i->rd V j=j)/\(∀j:Int,0<=j->j<i->rd K j=rd u j)) (λi V K=>(u.length-i).toNat) ?_ ?_
 ·exact⟨0,List.replicate u.length (0:Int),List.replicate u.length (0:Int),⟨G,G,(by rw[dh]),(by rw[dh]),(λj h1 h2=>G),(λj h1 h2=>G)⟩,KP⟩
 intro i V K ⟨bb,gd,ld,Pq,hV,hK⟩;refine wq<|wL Z Z<|aA<|aD<|bA Z (λba=> ?_) (λba=> ?_)
 ·have sv:=am.rd i;refine aI<|aD<|aH<|wq<|wm Z<|wy (aF af sz5 Z Z (ac.c _))<|wy (aU bn Z Z (ac.c _))<|wg Z<|wn Z<|aK<|wm Z<|wm Z<|wm Z ?_;refine wm Z<|wm Z<|wm Z<|wy (iR bn au Z)<|wy (aF aa sz3 Z Z (rdr 1 Z))<|dC (bG 1 Z sz3 Z Z) ?_;rintro _ _ rfl;refine wy (aF aa sz3 Z Z (rdr 0 Z))<|dC (bG 0 Z sz3 Z Z) ?_;rintro _ _ rfl;refine aA<|aK<|wA Z Z<|wm Z<|aA ?_;exact⟨i+1,upd V i i,upd K i (rd u i),⟨G,G,(by rw[aX];exact ld),(by rw[aX];exact Pq),(fA (f:=λj=>j) bb G hV Z),(fA (f:=λj=>rd u j) bb G hK Z)⟩,G,KP⟩
 ·obtain rfl:V=iota u.length:=bL (by rw[bD];omega) λj h0 h1=>by rw[uT h0 G];exact hV j h0 G
  obtain rfl:u=K:=(bL G λj h0 h1=>hK j h0 G:K=u).symm;refine aR<|wq<|wm Z<|wm Z<|wa (aC NV Z (Ct.fresh (λw hw=>uW ((rdr 1 Z) w hw) ((rdr 0 Z) w hw) G am (λi hi=>aZ.1 hi) (by rw[bD];omega)))) ?_;rintro _ _⟨_,rfl,en,es,rfl,rfl⟩;refine wm Z<|wX Z Z<|wX Z Z<|wn Z<|wq<|wm Z<|wa (aC aWm Z (Ct.fresh (λw hw=>VC ((rdr 0 Z) w hw) (aIg am) (by rw[FR am];omega)))) ?_;rintro _ _⟨_,rfl,fm,kx,inv,rfl,ye,yq,rfl⟩;refine wm Z<|wX Z Z<|wX Z Z<|wg Z<|wn Z<|wq<|wm Z<|wn Z<|aT [0] 99 cC Z ?_;refine⟨_,Z,?_⟩;obtain rfl:inv=fsL u:=bDy am ye yq;have el:(cZ (iota u.length) u (256:Int).toNat).length=(fsL u).length:=by rw[FR am,yP]
  rw[el];exact⟨_,_,Z,Z⟩
theorem aJx (k0:0<=k) (hk:k<u.length) (hl:S.length=u.length) (h: ∀j:Int,k<j->j<u.length->rd S j=rd (rP u m) j) {x:Int} (hx:x=rd u (ixr m (jX u m (u.length-1-k).toNat))): ∀j:Int,k-1<j->j<u.length->rd (upd S k x) j=rd (rP u m) j:=by
 intro j h1 h2;rw[gH k0 G G];split
 ·rename_i e;rw[e,YU k0 hk,hx]
 ·exact h j G h2
theorem aJy {i:Int} (k0:0<=k) (hk:k<u.length) (hr:r=jX u m (u.length-1-k).toNat) (hi:i=ixr m r):lfC u i+1=jX u m (u.length-1-(k-1)).toNat:=by
 rw[show((u.length:Int)-1-(k-1)).toNat=(u.length-1-k).toNat+1 by omega,jX,hi,hr]
theorem bCu (hl:S.length=u.length) (h: ∀j:Int,-1<j->j<u.length->rd S j=rd (rP u m) j):S=rP u m:=bL (by rw[hl,yV]) λj h0 h1=>h j G G
theorem aIj (k0:0<=k) (hk:k<u.length) (h: ∀t:Nat,(t:Int)<u.length-1-k->jX u m t≠m) (hr:r=jX u m (u.length-1-k).toNat) (cv:r≠m): ∀t:Nat,(t:Int)<u.length-1-(k-1)->jX u m t≠m:=by
 intro t ht;rcases bz t (u.length-1-k) with g|g
 ·exact h t g
 ·rw[show t=(u.length-1-k).toNat by omega,<-hr];exact cv
theorem aXr (ac:Rd w ap bl an 1 (ints .u8 u)) (am:aN u) (dr:bIg u m) (hN:u.length<=100000):
  CF 109 #[sl ap bl an,I m] w (λv R'=> ∃A c,v= .tuple #[sl A u.length c,I 0]/\R'=[(ru 5 A u.length c (rP u m))]):=by
 obtain rfl:=ac.lenI;refine fn2 Tryz.func109 Z Z Z ?_;have kc:=ac.max;have tx:=yP u;have Fm:=dr.1;have qv:=dr.1.1;have pe:=dr.1.2;have Zj:=dr.2.1;refine wq<|wg Z<|wn Z<|wq<|wm Z<|wy (aL af Z)<|wn Z<|aD<|wq<|wm Z ?_;refine wy (Yl.f (dA Z Z))<|wm Z<|aB Z Z<|wm Z<|aB Z Z<|wm Z<|aB Z Z<|wy (sW Z Z)<|aB Z Z<|wy (Yl.f (eZ Z Z))<|wy (aO Z Z)<|wm Z<|aB Z Z<|wm Z<|aB Z Z ?_;refine wm Z<|aB Z Z<|wy (Yl.f (dA Z Z))<|wy (aO Z Z)<|aA<|aP Z<|aI<|wq<|wm Z<|wa (aC bLv Z (Ct.fresh (λw hw=>aNn ((ac.c _) w hw) am G))) ?_;rintro _ _⟨_,rfl,cg,ce,rfl,rfl⟩;refine wn Z<|wq<|wm Z<|wa (dM af zb5 Z Z) ?_;rintro _ _⟨fi,rfl,rfl⟩;refine bC (v:=sl (GG fi) u.length u.length) Z<|wn Z<|wq<|wn Z<|aD<|wq<|wm Z<|wS Z Z<|wn Z<|aH ?_;refine gN (λ(k:Int) (r:Int) (S:AH)=>[(0,sl ap u.length an),(1,I m),(7,sl cg ((fsL u).length) ce),(8,sl (GG fi) u.length u.length),(9,I r),(10,I k)]) (λk r S=>[(ru 5 (GG fi) u.length u.length S),(ri 3 cg ((fsL u).length) ce (fsL u))]) (λk r S=>(-1<=k)/\(k<u.length)/\(S.length=u.length)/\(r=jX u m (u.length-1-k).toNat)/\(∀t:Nat,(t:Int)<u.length-1-k->jX u m t≠m)/\(∀j:Int,k<j->j<u.length->rd S j=rd (rP u m) j)) (λk r S=>(k+1).toNat) ?_ ?_
 ·exact⟨(u.length:Int)-1,0,List.replicate u.length (0:Int),⟨G,G,(by rw[dh]),(by rw[show((u.length:Int)-1-((u.length:Int)-1)).toNat=0 by omega];rfl),(λt h=>G),(λj h1 h2=>G)⟩,KP⟩
 intro k r S ⟨ju,tz,Kq,hr,Zi,hS⟩;refine aD<|wq<|wm Z<|wy (iD Z Z)<|aA<|bA Z (λba=> ?_) (λba=> ?_)
 ·have ov:0<=k:=G
  have By:=aCa (l:=u) am Fm (u.length-1-k).toNat (λt ht=>Zi t G) G;rw[<-hr] at By;have rv:0<=m:=by have:=Fm.1;omega
  have mt:=Fm.2;have cv:r≠m:=by rw[hr];exact Zj _ G
  refine aI<|aD<|aH<|wq<|wm Z<|wn Z<|aD<|aH<|wq<|wm Z<|wm Z<|wy (Yl.f (fD Z Z) (cv)) ?_;refine wn Z<|aP Z<|wq<|wm Z<|wm Z<|wy (dA Z Z)<|wn Z<|bA Z (λcj=> ?_) (λcj=> ?_)
  ·have i4:r-1=ixr m r:=by unfold ixr;split<;>omega
   have hxx:rd u (r-1)=rd u (ixr m (jX u m (u.length-1-k).toNat)):=by rw[i4,<-hr]
   have u5:=VS (n:=u.length) By.1 By.2 cv rv mt G;rw[<-i4] at u5;have Mh:=aEc (l:=u) u5.1 u5.2;have Tl:=ZW (l:=u) am u5.1 u5.2;have pd:rd (fsL u) (r-1)+1=jX u m (u.length-1-(k-1)).toNat:=by rw[Mh];exact aJy ov tz hr i4
   refine aK<|wm Z<|wS Z Z<|wn Z<|wq<|wm Z<|wm Z<|wm Z<|wm Z<|wy (aF af sz5 Z Z (ac.c _))<|wy (aU bn Z Z (ac.c _))<|wy (aF af sz5 Z Z (rdr 0 Z))<|dC (bG 0 Z sz5 Z Z) ?_;rintro _ _ rfl;refine aA<|aK<|wm Z<|wm Z<|wy (aF aa sz3 Z Z (rdr 1 Z))<|wy (aU au Z Z (rdr 1 Z))<|wA Z Z<|wn Z<|aK<|wm Z<|wS Z Z<|wn Z ?_;exact⟨k-1,(rd (fsL u) (r-1))+1,upd S k (rd u (r-1)),⟨G,G,(by rw[aX];exact Kq),(pd),(aIj ov tz Zi hr cv),(aJx ov tz Kq hS hxx)⟩,G,KP⟩
  ·have i4:r=ixr m r:=by unfold ixr;split<;>omega
   have hxx:rd u (r)=rd u (ixr m (jX u m (u.length-1-k).toNat)):=by rw[i4,<-hr]
   have u5:=VS (n:=u.length) By.1 By.2 cv rv mt G;rw[<-i4] at u5;have Mh:=aEc (l:=u) u5.1 u5.2;have Tl:=ZW (l:=u) am u5.1 u5.2;have pd:rd (fsL u) (r)+1=jX u m (u.length-1-(k-1)).toNat:=by rw[Mh];exact aJy ov tz hr i4
   refine aI<|wq<|wm Z<|wm Z<|wm Z<|wm Z<|wy (aF af sz5 Z Z (ac.c _))<|wy (aU bn Z Z (ac.c _))<|wy (aF af sz5 Z Z (rdr 0 Z))<|dC (bG 0 Z sz5 Z Z) ?_;rintro _ _ rfl;refine aA<|aK<|wm Z<|wm Z<|wy (aF aa sz3 Z Z (rdr 1 Z))<|wy (aU au Z Z (rdr 1 Z))<|wA Z Z<|wn Z<|aK<|wm Z<|wS Z Z<|wn Z ?_;exact⟨k-1,(rd (fsL u) r)+1,upd S k (rd u r),⟨G,G,(by rw[aX];exact Kq),(pd),(aIj ov tz Zi hr cv),(aJx ov tz Kq hS hxx)⟩,G,KP⟩
 ·refine aR<|aD<|wq<|wm Z<|wm Z<|wy (Yl.f (jP Z Z) (by
     have e:((u.length:Int)-1-k).toNat=u.length:=G
     rw[hr,e,dr.2.2]
     exact λh=>h Z)) ?_
  refine aA<|aP Z<|aI<|wq<|wm Z<|wg Z<|wn Z<|aT [0] 99 cC Z ?_;refine⟨_,_,Z,Z,?_⟩;obtain rfl:S=rP u m:=bCu Kq λj h1 h2=>hS j G h2;exact⟨_,_,Z,Z⟩
variable {w:World} {l b:AH} {k:Int} {ki:AF} {qe kj:Nat}
theorem YN:
  CF 105 #[] w (λv R'=> ∃A c,v=sl A 256 c/\R'=[(ru 5 A 256 c aY)]):=by
 refine fn1 Tryz.func105 Z Z Z ?_;refine wq<|wn Z<|wq<|wa (dM af zb5 Z Z) ?_;rintro _ _⟨aq,rfl,rfl⟩;refine bC (v:=sl (GG aq) ((256:Int).toNat) ((256:Int).toNat)) Z<|wn Z<|aD<|wq<|wm Z<|wy (aL af Z)<|wm Z<|aA<|aH ?_;refine dI (λ(i:Int) (V:AH)=>[(1,sl (GG aq) ((256:Int).toNat) ((256:Int).toNat)),(5,I (((256:Int).toNat:Nat):Int)),(6,I i)]) (λi V=>[(ru 5 (GG aq) ((256:Int).toNat) ((256:Int).toNat) V)]) (λi V=>(0<=i)/\(i<=256)/\(V.length=256)/\(∀j:Int,0<=j->j<i->rd V j=j)) (λi V=>(256-i).toNat) ?_ ?_
 ·exact⟨0,List.replicate ((256:Int).toNat) (0:Int),⟨G,G,(Z),(λj h1 h2=>G)⟩,KP⟩
 intro i V ⟨bb,gd,ld,hV⟩;refine wq<|wL Z Z<|aA<|aD<|bA Z (λba=> ?_) (λba=> ?_)
 ·refine aI<|aD<|aH<|wq<|wm Z<|wn Z<|aK<|wm Z<|wm Z<|wm Z<|wy (mV au bn Z)<|wy (aF af sz5 Z Z (rdr 0 Z))<|dC (bG 0 Z sz5 Z Z) ?_;rintro _ _ rfl;refine aA<|aK<|wA Z Z<|wm Z<|aA ?_;exact⟨i+1,upd V i (IntKind.u8.wrap i),⟨G,G,(by rw[aX];exact ld),(fA (f:=λj=>j) bb G hV (nT bb G))⟩,G,KP⟩
 ·refine aR<|wq<|wm Z<|wn Z<|aT [0] 99 cC Z ?_;refine⟨_,Z,?_⟩;obtain rfl:V=aY:=aIt ld (λj h1 h2=>hV j h1 G);exact⟨_,_,Z,Z⟩
theorem ZO {B:Nat} {w0:World} {R:List Row} {A:AF} {m c:Nat} (hm:m=l.length) (hk:0<=k/\k<l.length) (h2:1<l.length):
  CT 107 #[sl A m c,I k] B w0 ((ru 5 A m c l)::R) (λv R'=>v= .tuple #[]/\R'=(ru 5 A m c (mtf l k))::R):=by
 subst hm;refine fn0 Tryz.func107 Z Z Z ?_;refine wq<|wm Z<|wm Z<|wy (aF af sz5 Z Z (rdr 0 Z))<|wy (aU bn Z Z (rdr 0 Z))<|wn Z<|aD<|bF mixed<|wD 0 Z (aJ Z)<|wD 1 Z (dF af sz5 Z Z)<|wD 2 Z (aJ Z)<|wD 3 Z (aJ Z)<|wD 4 Z (dV af sz5 Z Z (rdr 0 Z)) ?_;refine wC 5 Z (XA (lo:=1) 0 Z af sz5 Z Z Z Z G (RdC.toI (h:=(k).toNat) (rdr 0 Z) cG)) ?_;rintro _ _⟨rfl,rfl⟩;refine⟨.inl cA,?_⟩;refine wN<|aK<|wm Z<|wm Z<|wy (aF af sz5 Z Z (rdr 0 Z))<|dC (bG 0 Z sz5 Z Z) ?_;rintro _ _ rfl;refine aA ?_
 skip
 rw[bGr hk.1 hk.2];exact⟨Z,Z⟩
theorem VW {ap:AF} {bl an:Nat} {u:AH} {c:Int} (ac:Rd w ap bl an 1 (ints .u8 u)) (am:aN u) (hc:0<=c/\c<256) (hm:c∈u):
  CF 106 #[sl ap bl an, .int .u8 c] w (λv R'=>v=I (idx u c)):=by
 obtain rfl:=ac.lenI;refine fn1 Tryz.func106 Z Z Z ?_;have kc:=ac.max;refine wq<|wn Z<|wq<|wm Z<|wm Z<|wa (aCi Tryz.func180 cA cA cA cA Z Z (ac.c _) am hc hm) ?_;rintro _ _⟨rfl,rfl⟩;refine wn Z<|bQ ?_;refine⟨_,Z,?_⟩;rfl
theorem aMi (ie:Rd w ki qe kj 1 (ints .u8 b)) (cx:aN b) (hN:b.length<=1000000):
  CF 60 #[sl ki qe kj] w (λv R'=> ∃A c,v=sl A (b.length) c/\R'=[(ru 5 A b.length c (bK aY b))]):=by
 obtain rfl:=ie.lenI;refine fn1 Tryz.func60 Z Z Z ?_;have v7:=ie.max;refine wq<|wn Z<|wq<|wa (aC bEz Z (Ct.fresh (λw hw=>YN))) ?_;rintro _ _⟨_,rfl,cg,ce,rfl,rfl⟩;refine wn Z<|wq<|wm Z<|wy (aL af Z)<|wa (dM af zb5 Z Z) ?_;rintro _ _⟨fi,rfl,rfl⟩;refine bC (v:=sl (GG fi) b.length b.length) Z<|wn Z<|aD<|wq<|wm Z<|wy (aL af Z)<|wm Z<|aA<|aH ?_;refine gN (λ(i:Int) (V:AH) (U:AH)=>[(3,sl cg 256 ce),(4,sl (GG fi) b.length b.length),(12,sl ki b.length kj),(13,I (b.length:Int)),(14,I i)]) (λi V U=>[(ru 5 (GG fi) b.length b.length U),(ru 5 cg 256 ce V)]) (λi V U=>(0<=i)/\(i<=b.length)/\(V=vL aY (b.take i.toNat))/\(U.length=b.length)/\(∀j:Int,0<=j->j<i->rd U j=rd (bK aY b) j)) (λi V U=>(b.length-i).toNat) ?_ ?_
 ·exact⟨0,aY,List.replicate b.length (0:Int),⟨G,G,(Z),(by rw[dh]),(λj h1 h2=>G)⟩,KP⟩
 intro i V U ⟨bb,gd,hV,Ax,hU⟩;have Up:V.Perm aY:=by rw[hV];exact YM cx _
 have Lq:=FK Up;have sv:=cx.rd i;have se:=Lq.2.2 _ sv.1 sv.2;refine wq<|wL Z Z<|aA<|aD<|bA Z (λba=> ?_) (λba=> ?_)
 ·refine aI<|aD<|aH<|wq<|wm Z<|wy (aF af sz5 Z Z (ie.c _))<|wy (aU bn Z Z (ie.c _))<|wg Z<|wn Z<|wq<|wm Z<|wm Z ?_;refine wa (aC bNa Z (Ct.quiet (λw hw=>VW ((rdr 1 Z) w hw) Lq.2.1 sv se.1))) ?_;rintro _ _⟨rfl,rfl⟩;refine wn Z<|wq<|wm Z<|wm Z<|wm Z<|wy (mV au bn Z)<|wy (aF af sz5 Z Z (rdr 0 Z))<|dC (bG 0 Z sz5 Z Z) ?_;rintro _ _ rfl;refine aA<|aK<|wm Z<|wm Z<|wa (aC bEy Z (Ct.at 1 Z (ZO Lq.1.symm G G))) ?_;rintro _ _⟨rfl,rfl⟩;refine aA<|aK<|wA Z Z<|wm Z<|aA ?_;exact⟨i+1,mtf V (idx V (rd b i)),upd U i (IntKind.u8.wrap (idx V (rd b i))),⟨G,G,(by rw[RI bb G,<-hV]),(by rw[aX];exact Ax),(fA (f:=λj=>rd (bK aY b) j) bb G hU (by rw[aSm bb G,<-hV];exact nT se.2.1 se.2.2))⟩,G,KP⟩
 ·refine aR<|wq<|wm Z<|wn Z<|aT [0] 99 cC Z ?_;refine⟨_,Z,?_⟩;obtain rfl:U=bK aY b:=bL (by rw[Ax,iJ]) (λj h1 h2=>hU j h1 G);exact⟨_,_,Z,Z⟩
theorem aPj (ie:Rd w ki qe kj 1 (ints .u8 b)) (cx:aN b) (hN:b.length<=1000000):
  CF 111 #[sl ki qe kj] w (λv R'=> ∃A c,v=sl A (b.length) c/\R'=[(ru 5 A b.length c (pG aY b))]):=by
 obtain rfl:=ie.lenI;refine fn1 Tryz.func111 Z Z Z ?_;have v7:=ie.max;refine wq<|wn Z<|wq<|wa (aC bEz Z (Ct.fresh (λw hw=>YN))) ?_;rintro _ _⟨_,rfl,cg,ce,rfl,rfl⟩;refine wn Z<|wq<|wm Z<|wy (aL af Z)<|wa (dM af zb5 Z Z) ?_;rintro _ _⟨fi,rfl,rfl⟩;refine bC (v:=sl (GG fi) b.length b.length) Z<|wn Z<|aD<|wq<|wm Z<|wy (aL af Z)<|wm Z<|aA<|aH ?_;refine gN (λ(i:Int) (V:AH) (U:AH)=>[(3,sl cg 256 ce),(4,sl (GG fi) b.length b.length),(11,sl ki b.length kj),(12,I (b.length:Int)),(13,I i)]) (λi V U=>[(ru 5 (GG fi) b.length b.length U),(ru 5 cg 256 ce V)]) (λi V U=>(0<=i)/\(i<=b.length)/\(V=IY aY (b.take i.toNat))/\(U.length=b.length)/\(∀j:Int,0<=j->j<i->rd U j=rd (pG aY b) j)) (λi V U=>(b.length-i).toNat) ?_ ?_
 ·exact⟨0,aY,List.replicate b.length (0:Int),⟨G,G,(Z),(by rw[dh]),(λj h1 h2=>G)⟩,KP⟩
 intro i V U ⟨bb,gd,hV,Ax,hU⟩;have Up:V.Perm aY:=by rw[hV];exact aRh cx _
 have Lq:=FK Up;have sv:=cx.rd i;have se:=Lq.2.2 _ sv.1 sv.2;refine wq<|wL Z Z<|aA<|aD<|bA Z (λba=> ?_) (λba=> ?_)
 ·refine aI<|aD<|aH<|wq<|wm Z<|wy (aF af sz5 Z Z (ie.c _))<|wy (aU bn Z Z (ie.c _))<|wg Z<|wn Z<|wq<|wm Z<|wm Z ?_;refine wm Z<|wm Z<|wy (aF af sz5 Z Z (rdr 1 Z))<|wy (aU bn Z Z (rdr 1 Z))<|wy (aF af sz5 Z Z (rdr 0 Z))<|dC (bG 0 Z sz5 Z Z) ?_;rintro _ _ rfl;refine aA<|aK<|wm Z<|wm Z<|wy (iR bn au Z)<|wa (aC bEy Z (Ct.at 1 Z (ZO Lq.1.symm G G))) ?_;rintro _ _⟨rfl,rfl⟩;refine aA<|aK<|wA Z Z<|wm Z<|aA ?_;exact⟨i+1,mtf V (rd b i),upd U i (rd V (rd b i)),⟨G,G,(by rw[aLq bb G,<-hV]),(by rw[aX];exact Ax),(fA (f:=λj=>rd (pG aY b) j) bb G hU (by rw[aSk bb G,<-hV]))⟩,G,KP⟩
 ·refine aR<|wq<|wm Z<|wn Z<|aT [0] 99 cC Z ?_;refine⟨_,Z,?_⟩;obtain rfl:U=pG aY b:=bL (by rw[Ax,EZ]) (λj h1 h2=>hU j h1 G);exact⟨_,_,Z,Z⟩
theorem aLp:
  CF 187 #[] w (λv R'=> ∃A c,v=sl A 256 c/\R'=[(ru 5 A 256 c aY)]):=by
 refine fn1 Tryz.func187 Z Z Z ?_;refine wq<|wn Z<|wq<|bT (R1:=[(ru 5 none 0 0 ([]))]) (Sub.refl _) (λ_ h=>h.nil 5 1)<|wn Z<|aD<|wq<|wn Z<|aH ?_;refine eH (λ(A1:AF) (n1:Nat) (c1:Nat) (acc:AH) (i:Int)=>[(1,sl A1 n1 c1),(2,I i)]) (λA1 n1 c1 acc i=>[(ru 5 A1 n1 c1 acc)]) (λA1 n1 c1 acc i=>(n1=acc.length)/\(0<=i)/\(i<=256)/\(acc=iota i.toNat)) (λA1 n1 c1 acc i=>(256-i).toNat) ?_ ?_
 ·exact⟨none,0,0,[],0,⟨(Z),G,G,(Z)⟩,KP⟩
 intro A1 n1 c1 acc i ⟨cm,bb,gd,bc⟩;have qt:=bu List.length bc;rw[bD] at qt;refine aD<|wq<|wm Z<|wL Z Z<|aA<|bA Z (λba=> ?_) (λba=> ?_)
 ·refine aI<|aD<|aH<|aK<|wm Z<|wm Z<|wy (mV au bn Z)<|wa (bH .u8 [IntKind.u8.wrap i] af zs5 Z Z Z) ?_;rintro _ _⟨cy,rfl,rfl⟩;refine wa (aQ 1 Z af zb5 Z Z Z (rdr 0 Z)) ?_;rintro _ _⟨en,es,rfl,rfl⟩;refine bC (v:=sl en (n1+1) es) Z<|wn Z<|aK<|wm Z<|wA Z Z<|wn Z ?_;exact⟨en,n1+1,es,acc++([IntKind.u8.wrap i]),i+1,⟨(by rw[ah,cm];rfl),G,G,(by rw[GC bb,<-bc,nT bb G])⟩,G,SA,λ_ h=>h.sel [1] cC Z⟩
 ·refine aR<|wq<|wm Z<|wn Z<|aT [0] 99 cC Z ?_;refine⟨_,Z,?_⟩;obtain rfl:i=256:=G
  subst bc;obtain rfl:n1=256:=by rw[cm,bD];rfl
  exact⟨_,_,Z,Z⟩
theorem aFn {me:AF} {pk mn:Nat} (kp:Rd w me pk mn 1 (ints .u8 l)) (hk:0<=k/\k<l.length) (hN:l.length<=1000000):
  CF 188 #[sl me pk mn,I k] w (λv R'=> ∃A c,v=sl A (l.length) c/\R'=[(ru 5 A l.length c (mtf l k))]):=by
 obtain rfl:=kp.lenI;refine fn1 Tryz.func188 Z Z Z ?_;have Pk:=kp.max;refine wq<|wn Z<|aD<|bF mixed<|bNo ?_;refine jI 0 Z cA Z (aJ Z) ?_;refine jI 1 Z cA Z (aJ Z) ?_;refine jI 2 Z cA Z (aF af sz5 Z Z (kp.c _)) ?_;refine jI 3 Z cA Z (aU bn Z Z (kp.c _)) ?_;refine jI 5 Z cA Z (aJ Z) ?_;refine jI 6 Z cA Z (aJ Z) ?_;refine jI 7 Z cA Z (dV af sz5 Z Z (kp.c _)) ?_;refine jI 9 Z cA Z (aJ Z) ?_;refine jI 10 Z cA Z (aJ Z) ?_;refine jI 11 Z cA Z (cK Z Z) ?_;refine jI 12 Z cA Z (dF af sz5 Z Z) ?_;refine kD 4 cA ?_;refine qA 4 Z Z (bH .u8 [rd l k] af zs5 Z Z Z) ?_;rintro _ _⟨cy,rfl,rfl⟩;refine⟨λ_ h=>h.sel [] cC Z,?_⟩;refine kD 8 cA ?_;refine qA 8 Z Z (aQ 0 Z af zb5 Z Z Z (RdC.toI (kp.c _) G)) ?_;rintro _ _⟨en,es,rfl,rfl⟩;refine⟨λ_ h=>h.sel [] cC Z,?_⟩;refine sI (v:=sl en (1+((k).toNat)) es) Z ?_;refine kD 13 cA ?_;refine qA 13 Z Z (aQ 0 Z af zb5 Z Z Z (RdC.fromI (kp.c _) G)) ?_;rintro _ _⟨fm,kx,rfl,rfl⟩;refine⟨λ_ h=>h.sel [] cC Z,?_⟩;refine sI (v:=sl fm ((1+((k).toNat))+(l.length-(k+1).toNat)) kx) Z ?_;refine jI 14 Z cA Z (bB Z) ?_;refine xN cA ?_;refine aT [0] 99 cC Z ?_;refine⟨_,Z,?_⟩;have e:([rd l k]++l.take k.toNat)++l.drop (k+1).toNat=mtf l k:=by unfold mtf;rw[show(k+1).toNat=k.toNat+1 by omega];rfl
 rw[e];rw[show 1+k.toNat+(l.length-(k+1).toNat)=l.length by omega];exact⟨_,_,Z,Z⟩
theorem aDt (ie:Rd w ki qe kj 1 (ints .u8 b)) (cx:aN b) (hN:b.length<=1000000):
  CF 113 #[sl ki qe kj] w (λv R'=> ∃A c,v=sl A (b.length) c/\R'=[(ru 5 A b.length c (bK aY b))]):=by
 obtain rfl:=ie.lenI;refine fn1 Tryz.func113 Z Z Z ?_;have v7:=ie.max;refine wq<|wn Z<|wq<|wa (aC bLr Z (Ct.fresh (λw hw=>aLp))) ?_;rintro _ _⟨_,rfl,cg,ce,rfl,rfl⟩;refine wn Z<|wq<|bT (R1:=((ru 5 none 0 0 ([]))::(ru 5 cg 256 ce aY)::[])) (Sub.refl _) (λ_ h=>h.nil 5 1)<|wn Z<|aD<|wq<|wn Z<|aH ?_;refine BC (λ(i:Int) (V:AH) (AV:AF) (nV:Nat) (cV:Nat) (A1:AF) (n1:Nat) (c1:Nat) (acc:AH) (Rs:List Row)=>[(0,sl ki b.length kj),(3,sl AV nV cV),(4,sl A1 n1 c1),(5,I i)]) (λi V AV nV cV A1 n1 c1 acc Rs=>((ru 5 A1 n1 c1 acc)::Rs)) (λi V AV nV cV A1 n1 c1 acc Rs=>(0<=i)/\(i<=b.length)/\(V=vL aY (b.take i.toNat))/\(nV=256)/\(∀(B:Nat) (w0 w:World),Hp B w0 w Rs->Rd w AV nV cV 1 (ints .u8 V))/\(n1=acc.length)/\(acc=bK aY (b.take i.toNat))) (λi V AV nV cV A1 n1 c1 acc Rs=>(b.length-i).toNat) ?_ ?_
 ·exact⟨0,aY,cg,256,ce,none,0,0,[],((ru 5 cg 256 ce aY)::[]),⟨G,G,(Z),(Z),(λB w0 w h=>rdr 0 Z w h),(Z),(Z)⟩,SA,λ_ h=>h.selR (F:=[_,_]) (F':=[_,_]) [0,1] cC Z⟩
 intro i V AV nV cV A1 n1 c1 acc Rs ⟨bb,gd,hV,hnV,Zx,cm,bc⟩;have Up:V.Perm aY:=by rw[hV];exact YM cx _
 have Lq:=FK Up;have sv:=cx.rd i;have se:=Lq.2.2 _ sv.1 sv.2;have qt:=bu List.length bc;rw[iJ,ax] at qt;refine aD<|wq<|wm Z<|wm Z<|wy (aL af Z)<|wL Z Z<|aA<|bA Z (λba=> ?_) (λba=> ?_)
 ·refine aI<|aD<|aH<|wq<|wn Z<|aD<|aH ?_;refine gZ (λ(k:Int)=>[(0,sl ki b.length kj),(3,sl AV nV cV),(4,sl A1 n1 c1),(5,I i),(6,I k)]) (λk=>((ru 5 A1 n1 c1 acc)::Rs)) (λk=>(0<=k)/\(k<=idx V (rd b i))) (λk=>(idx V (rd b i)-k).toNat) ?_ ?_
  ·exact⟨0,⟨G,(se.2.1)⟩,KP⟩
  intro k ⟨ju,tz⟩;refine aD<|aD<|bF mixed<|wD 0 Z (aJ Z)<|wD 1 Z (aJ Z)<|wD 2 Z (aF af sz5 Z Z (λ_ h=>Zx _ _ _ (h.right (R':=[_]))))<|wD 3 Z (aU bn Z Z (λ_ h=>Zx _ _ _ (h.right (R':=[_]))))<|wD 4 Z (aJ Z)<|wD 5 Z (aJ Z)<|wD 6 Z (aF af sz5 Z Z (ie.c _))<|wD 7 Z (aU bn Z Z (ie.c _))<|wD 8 Z (jP Z Z)<|wN<|bA Z (λcj=> ?_) (λcj=> ?_)
  ·refine aI<|aH<|aK<|wm Z<|wA Z Z<|wn Z ?_;exact⟨k+1,⟨G,(aAe se.1 tz cF)⟩,(by have:=aAe se.1 tz cF;omega),KP⟩
  ·have Vx:=aUy ju tz se.1 (xh.1 cF);refine aR<|wq<|wm Z<|wm Z<|wy (mV au bn Z)<|wa (bH .u8 [IntKind.u8.wrap k] af zs5 Z Z Z) ?_;rintro _ _⟨fd,rfl,rfl⟩;refine wa (aQ 1 Z af zb5 Z Z Z (rdr 0 Z)) ?_;rintro _ _⟨fm,kx,rfl,rfl⟩;refine bC (v:=sl fm (n1+1) kx) Z<|wn Z<|aK<|wm Z<|wm Z<|wa (aC bLq Z (Ct.fresh (λw hw=>aFn ((λ_ h=>Zx _ _ _ (h.right (R':=[_,_]))) w hw) G G))) ?_;rintro _ _⟨_,rfl,gg,ef,rfl,rfl⟩;refine wn Z<|aK<|wm Z<|wA Z Z<|wn Z ?_;exact⟨i+1,(mtf V k),gg,(V).length,ef,fm,n1+1,kx,acc++([IntKind.u8.wrap k]),((ru 5 gg ((V).length) ef (mtf V k))::Rs),⟨G,G,(by rw[RI bb G,<-hV,<-Vx]),(Lq.1),(λB w0 w h=>rdr 0 Z w h),(by rw[ah,cm];rfl),(by rw[aEr bb G,<-bc,<-hV,<-Vx,nT G G])⟩,G,SA,λ_ h=>h.selR (F:=[_,_,_]) (F':=[_,_]) [2,0] cC Z⟩
 ·refine aR<|wq<|wm Z<|wn Z<|bU (R1:=[(ru 5 A1 n1 c1 acc)]) (λ_ h=>(h.selR (F:=[_]) (F':=[_]) [0] cC Z).left (X:=[_])) ?_;refine⟨_,Z,?_⟩;rw[bi G] at bc;subst bc;obtain rfl:n1=b.length:=by rw[cm,iJ]
  exact⟨_,_,Z,Z⟩
end Go.Proofs.YtdbebmmhdefgdaaGreat
namespace Go.Eng
open Go Go.RowKit Go.Pure
section
variable {P:Program} {n:Nd} {B:Nat} {w0:World} {L:Env} {R:List Row} {ty:TypeId}
theorem RdC.toV {A:AF} {m h c:Nat} {xs:AG} (hr:RdC B w0 R A m c 1 xs) (h2:h<=m):RdC B w0 R A h c 1 (xs.take h):=by
 have:=hr.to h2;rwa[qf] at this
theorem RdC.fromV {A:AF} {m c l:Nat} {xs:AG} (hr:RdC B w0 R A m c 1 xs) (h1:l<=m):RdC B w0 R (jH A l c 1) (m-l) (c-l) 1 (xs.drop l):=λw hw=>by
 have h:=hr.cut h1 (dx m) w hw;have hl:=(hr w hw).len;rw[qf,qf,bi (by rw[az];omega)] at h;exact h
theorem UH {id:Nat} {l:List Oper} {Q:fK} {Rc:List Row} (hm:P.follows .mixedOrders=true) (hR: ∀w,Hp B w0 w R->Hp B w0 w Rc) (h:WDc P n B w0 l.toArray Q.nrm l.toArray.size (Array.replicate l.toArray.size false) L R Rc) (hd:DD n.rd l=true:=by exact rfl):W P n B w0 (.region id l.toArray true) Q L R:=by
 intro a w hs hp;refine wpIn_region_any hm (aCg aHc hd _ _ _ _<|zJ _ _ _ _ _ (h a _ _ hs (hp.drawn _ (Gu _)) hR (λ_ _ _ h=>h) λ_ _ L' R' fj da hk=>⟨L',R',fj,da,hk⟩))
theorem RgR.left {Rs:List Row} {l:List RC} (h:RgR Rs l) (T:List Row):RgR (Rs++T) l:=h.weak λ_ _ _ hw=>hw.left
theorem SlR.nilR (k:IntKind) (Rs:List Row):SlR k Rs [] []:=⟨rfl,λj hj=>by simp at hj⟩
theorem xO {ws:AD} (h:OkB ws):OkB (canon ws):=λc hc=>by
 obtain⟨w,h1,h2,rfl⟩:=SC hc;have h3:=h w h1;rw[kL];exact⟨aN.append (h3.1.drop _) (h3.1.take _),h3.2⟩
theorem OkB.app {a b:AD} (ha:OkB a) (hb:OkB b):OkB (a++b):=λl hl=>(dz.1 hl).elim (ha l) (hb l)
theorem TN (ws:AD):(canon ws).length<=ws.length:=by
 rw[TM];unfold dE;rw[bq];exact yc _ _
end
end Go.Eng
namespace Go.Proofs.YtdbebmmhdefgdaaGreat
open Go Go.Eng Go.Pure
open Tryz
set_option maxRecDepth 100000
variable {n i:Int} {acc b:AH} {w:World} {ki:AF} {qe kj:Nat}
theorem QR {m:Int} (h:eD n.toNat=acc++eD m.toNat) (hp:0<m) {d q:Int} (hd:d=(m-1)%2) (hq:q=(m-1)/2):eD n.toNat=(acc++[d])++eD q.toNat:=by
 rw[h,BI G,gq,oh];have e1:(((m.toNat-1)%2:Nat):Int)=d:=G
 have e2:(m.toNat-1)/2=q.toNat:=G
 rw[e1,e2]
theorem QU (h:acc++bS n.toNat (b.drop i.toNat)=bS 0 b) (i0:0<=i) (hi:i<b.length) (n0:0<=n) (hc:rd b i=0):acc++bS (n+1).toNat (b.drop (i+1).toNat)=bS 0 b:=by
 rw[iA i0 hi,bS,di hc] at h;rw[show(n+1).toNat=n.toNat+1 by omega];exact h
theorem BK (h:acc++bS n.toNat (b.drop i.toNat)=bS 0 b) (i0:0<=i) (hi:i<b.length) (hc: ¬rd b i=0):((acc++eD n.toNat)++[rd b i+1])++bS 0 (b.drop (i+1).toNat)=bS 0 b:=by
 rw[iA i0 hi,bS,df hc] at h;rw[<-h];simp
theorem KY (h:acc++bS n.toNat (b.drop i.toNat)=bS 0 b):acc.length<=b.length:=by
 have h1:=bu List.length h;have h2:=pI b 0;rw[ah] at h1;omega
theorem QQ (h0:0<=n):((eD n.toNat).length:Int)<=n:=by
 have:=BJ _ _ (dx n.toNat);omega
theorem QS (h0:0<=n/\n<=1000000):
  CF 201 #[I n] w (λv R'=> ∃A c,v=sl A ((eD n.toNat).length) c/\R'=[(ri 3 A ((eD n.toNat).length) c (eD n.toNat))]):=by
 refine fn1 Tryz.func201 Z Z Z ?_;refine wq<|wn Z<|wq<|bT (R1:=[(ri 3 none 0 0 ([]))]) (Sub.refl _) (λ_ h=>h.nil 3 1)<|wn Z<|aD<|aH ?_;refine eH (λ(A1:AF) (n1:Nat) (c1:Nat) (acc:AH) (m:Int)=>[(0,I m),(3,sl A1 n1 c1)]) (λA1 n1 c1 acc m=>[(ri 3 A1 n1 c1 acc)]) (λA1 n1 c1 acc m=>(n1=acc.length)/\(0<=m)/\(eD n.toNat=acc++eD m.toNat)/\(acc.length+m<=n)) (λA1 n1 c1 acc m=>m.toNat) ?_ ?_
 ·exact⟨none,0,0,[],n,⟨(Z),G,(Z),(by show((0:Nat):Int)+n<=n;omega)⟩,KP⟩
 intro A1 n1 c1 acc m ⟨cm,rv,hT,hL⟩;refine aD<|wq<|wm Z<|wy (dA Z Z)<|aA<|bA Z (λba=> ?_) (λba=> ?_)
 ·refine aI<|aD<|aH<|aK<|wm Z<|wm Z<|wS Z Z<|wy (rR Z Z)<|wa (bH .i64 [(m-1)%2] aa zs3 Z Z Z) ?_;rintro _ _⟨cy,rfl,rfl⟩;refine wa (aQ 1 Z aa zb3 Z Z Z (rdr 0 Z)) ?_;rintro _ _⟨en,es,rfl,rfl⟩;refine bC (v:=sl en (n1+1) es) Z<|wn Z<|aK<|wm Z<|wS Z Z<|wy (vP Z Z G G G)<|wn Z ?_;exact⟨en,n1+1,es,acc++([(m-1)%2]),(m-1)/2,⟨(by rw[ah,cm];try rfl),G,(QR hT G G G),(by rw[ah,ib];omega)⟩,G,SA,λ_ h=>h.sel [1] cC Z⟩
 ·refine aR<|wq<|wm Z<|wn Z<|aT [0] 99 cC Z ?_;refine⟨_,Z,?_⟩;obtain rfl:m=0:=G
  have e:eD n.toNat=acc:=by rw[hT];exact jh _
  rw[e];obtain rfl:=cm;exact⟨_,_,Z,Z⟩
theorem zN (h0:0<=n/\n<=1000000):
  CF 259 #[I n] w (λv R'=> ∃A c,v=sl A ((eD n.toNat).length) c/\R'=[(ri 3 A ((eD n.toNat).length) c (eD n.toNat))]):=by
 refine fn1 Tryz.func259 Z Z Z ?_;refine wq<|wn Z<|wq<|bT (R1:=[(ri 3 none 0 0 ([]))]) (Sub.refl _) (λ_ h=>h.nil 3 1)<|wn Z<|aD<|aH ?_;refine eH (λ(A1:AF) (n1:Nat) (c1:Nat) (acc:AH) (m:Int)=>[(0,I m),(3,sl A1 n1 c1)]) (λA1 n1 c1 acc m=>[(ri 3 A1 n1 c1 acc)]) (λA1 n1 c1 acc m=>(n1=acc.length)/\(0<=m)/\(eD n.toNat=acc++eD m.toNat)/\(acc.length+m<=n)) (λA1 n1 c1 acc m=>m.toNat) ?_ ?_
 ·exact⟨none,0,0,[],n,⟨(Z),G,(Z),(by show((0:Nat):Int)+n<=n;omega)⟩,KP⟩
 intro A1 n1 c1 acc m ⟨cm,rv,hT,hL⟩;refine aD<|wq<|wm Z<|wy (dA Z Z)<|aA<|bA Z (λba=> ?_) (λba=> ?_)
 ·refine aI<|aH<|wq<|wm Z<|wy (rR Z Z)<|wS Z Z<|wn Z<|wq<|wm Z<|wm Z<|wS Z Z<|wa (bH .i64 [(2-(m%2))-1] aa zs3 Z Z Z) ?_;rintro _ _⟨cy,rfl,rfl⟩;refine wa (aQ 1 Z aa zb3 Z Z Z (rdr 0 Z)) ?_;rintro _ _⟨en,es,rfl,rfl⟩;refine bC (v:=sl en (n1+1) es) Z<|wn Z<|aK<|wm Z<|wm Z<|wS Z Z<|wy (vP Z Z G G G)<|wn Z ?_;exact⟨en,n1+1,es,acc++([(2-(m%2))-1]),(m-(2-(m%2)))/2,⟨(by rw[ah,cm];try rfl),G,(QR hT G G G),(by rw[ah,ib];omega)⟩,G,SA,λ_ h=>h.sel [1] cC Z⟩
 ·refine aR<|wq<|wm Z<|wn Z<|aT [0] 99 cC Z ?_;refine⟨_,Z,?_⟩;obtain rfl:m=0:=G
  have e:eD n.toNat=acc:=by rw[hT];exact jh _
  rw[e];obtain rfl:=cm;exact⟨_,_,Z,Z⟩
theorem aKu (ie:Rd w ki qe kj 1 (ints .u8 b)) (cx:aN b) (hN:b.length<=1000000):
  CF 129 #[sl ki qe kj] w (λv R'=> ∃A c,v=sl A ((bS 0 b).length) c/\R'=[(ri 3 A ((bS 0 b).length) c (bS 0 b))]):=by
 obtain rfl:=ie.lenI;refine fn1 Tryz.func129 Z Z Z ?_;have v7:=ie.max;refine wq<|wn Z<|wq<|bT (R1:=[(ri 3 none 0 0 ([]))]) (Sub.refl _) (λ_ h=>h.nil 3 1)<|wn Z<|wq<|wn Z<|aD<|aD ?_;refine aK<|wm Z<|wy (aL af Z)<|wm Z<|aA<|aH ?_;refine mX (λ(A1:AF) (n1:Nat) (c1:Nat) (acc:AH) (i:Int) (m:Int)=>[(3,sl A1 n1 c1),(4,I m),(7,sl ki b.length kj),(8,I (b.length:Int)),(9,I i)]) (λA1 n1 c1 acc i m=>[(ri 3 A1 n1 c1 acc)]) (λA1 n1 c1 acc i m=>(n1=acc.length)/\(0<=i)/\(i<=b.length)/\(0<=m)/\(m<=i)/\(acc++bS m.toNat (b.drop i.toNat)=bS 0 b)) (λA1 n1 c1 acc i m=>(b.length-i).toNat) ?_ ?_
 ·exact⟨none,0,0,[],0,0,⟨(Z),G,G,G,G,(Z)⟩,KP⟩
 intro A1 n1 c1 acc i m ⟨cm,bb,gd,rv,mt,hT⟩;have vj:=KY hT;have v6:=QQ rv;refine wq<|wL Z Z<|aA<|aD<|bA Z (λba=> ?_) (λba=> ?_)
 ·have sv:=cx.rd i;refine aI<|aD<|aH<|wq<|wy (aF af sz5 Z Z (ie.c _))<|wy (aU bn Z Z (ie.c _))<|wn Z<|aD<|wq<|wm Z<|wy (fD Z Z)<|aA ?_;refine bA Z (λcj=> ?_) (λcj=> ?_)
  ·refine wq<|wm Z<|wA Z Z<|wn Z<|aR<|aK<|wA Z Z<|wm Z<|aA ?_;exact⟨A1,n1,c1,acc,i+1,m+1,⟨(by first|exact cm|simp[cm,mo]),G,G,G,G,(QU hT bb G rv cF)⟩,G,KP⟩
  ·refine aI<|wq<|wm Z<|wm Z<|wa (aC bEo Z (Ct.fresh (λw hw=>QS G))) ?_;rintro _ _⟨_,rfl,cg,ce,rfl,rfl⟩;refine wa (aQ 1 Z aa zb3 Z Z Z (rdr 0 Z)) ?_;rintro _ _⟨ns,pi,rfl,rfl⟩;refine bC (v:=sl ns (n1+((eD (m).toNat).length)) pi) Z<|wm Z<|wy (iR bn au Z)<|wA Z Z<|wa (bH .i64 [(rd b i)+1] aa zs3 Z Z Z) ?_;rintro _ _⟨ir,rfl,rfl⟩;refine wa (aQ 2 Z aa zb3 Z Z Z (rdr 0 Z)) ?_;rintro _ _⟨kd,mu,rfl,rfl⟩;refine bC (v:=sl kd ((n1+((eD (m).toNat).length))+1) mu) Z<|wn Z<|aK<|wn Z<|aK<|wA Z Z<|wm Z<|aA ?_;exact⟨kd,(n1+((eD (m).toNat).length))+1,mu,(acc++(eD (m).toNat))++([(rd b i)+1]),i+1,0,⟨(by first|exact cm|simp[cm,mo]),G,G,G,G,(BK hT bb G cF)⟩,G,SA,λ_ h=>h.sel [2] cC Z⟩
 ·refine aR<|wq<|wm Z<|wm Z<|wa (aC bEo Z (Ct.fresh (λw hw=>QS G))) ?_;rintro _ _⟨_,rfl,bw,bx,rfl,rfl⟩;refine wa (aQ 1 Z aa zb3 Z Z Z (rdr 0 Z)) ?_;rintro _ _⟨fa,fc,rfl,rfl⟩;refine bC (v:=sl fa (n1+((eD (m).toNat).length)) fc) Z<|wn Z<|aT [1] 99 cC Z ?_;refine⟨_,Z,?_⟩;rw[xk G] at hT;have e2:acc++eD m.toNat=bS 0 b:=hT;have e:n1+(eD m.toNat).length=(bS 0 b).length:=by rw[<-e2,ah,cm]
  rw[e,e2];exact⟨_,_,Z,Z⟩
theorem aDq (ie:Rd w ki qe kj 1 (ints .u8 b)) (cx:aN b) (hN:b.length<=1000000):
  CF 211 #[sl ki qe kj] w (λv R'=> ∃A c,v=sl A ((bS 0 b).length) c/\R'=[(ri 3 A ((bS 0 b).length) c (bS 0 b))]):=by
 obtain rfl:=ie.lenI;refine fn1 Tryz.func211 Z Z Z ?_;have v7:=ie.max;refine wq<|wn Z<|wq<|bT (R1:=[(ri 3 none 0 0 ([]))]) (Sub.refl _) (λ_ h=>h.nil 3 1)<|wn Z<|wq<|wn Z<|aD<|aD ?_;refine aK<|wn Z<|aH ?_;refine mX (λ(A1:AF) (n1:Nat) (c1:Nat) (acc:AH) (i:Int) (m:Int)=>[(0,sl ki b.length kj),(3,sl A1 n1 c1),(4,I m),(5,I i)]) (λA1 n1 c1 acc i m=>[(ri 3 A1 n1 c1 acc)]) (λA1 n1 c1 acc i m=>(n1=acc.length)/\(0<=i)/\(i<=b.length)/\(0<=m)/\(m<=i)/\(acc++bS m.toNat (b.drop i.toNat)=bS 0 b)) (λA1 n1 c1 acc i m=>(b.length-i).toNat) ?_ ?_
 ·exact⟨none,0,0,[],0,0,⟨(Z),G,G,G,G,(Z)⟩,KP⟩
 intro A1 n1 c1 acc i m ⟨cm,bb,gd,rv,mt,hT⟩;have vj:=KY hT;have v6:=QQ rv;refine aD<|wq<|wm Z<|wm Z<|wy (aL af Z)<|wL Z Z<|aA<|bA Z (λba=> ?_) (λba=> ?_)
 ·have sv:=cx.rd i;refine aI<|aD<|aH<|aD<|wq<|wm Z<|wm Z<|wy (aF af sz5 Z Z (ie.c _))<|wy (aU bn Z Z (ie.c _))<|wy (fD Z Z)<|aA<|bA Z (λcj=> ?_) (λcj=> ?_)
  ·refine wq<|wm Z<|wA Z Z<|wn Z<|aR<|aK<|wm Z<|wA Z Z<|wn Z ?_;exact⟨A1,n1,c1,acc,i+1,m+1,⟨(by first|exact cm|simp[cm,mo]),G,G,G,G,(QU hT bb G rv cF)⟩,G,KP⟩
  ·refine aI<|aD<|UH (Rc:=[]) mixed (λ_ h=>h.sel [] cC Z) ?_;refine jI 0 Z cA Z (aJ Z) ?_;refine jI 1 Z cA Z (aJ Z) ?_;refine jI 4 Z cA Z (aJ Z) ?_;refine jI 5 Z cA Z (aJ Z) ?_;refine jI 6 Z cA Z (aF af sz5 Z Z (ie.c _)) ?_;refine jI 7 Z cA Z (aU bn Z Z (ie.c _)) ?_;refine jI 8 Z cA Z (iR bn au Z) ?_;refine jI 9 Z cA Z (cK Z Z) ?_;refine WK 2 10 cA ?_ ?_
   ·refine qA 2 Z Z (aC aVy Z (Ct.fresh (λw hw=>zN G))) ?_;rintro _ _⟨_,rfl,cg,ce,rfl,rfl⟩;refine⟨λ_ h=>h.sel [] cC Z,?_⟩;refine WK 3 10 cA ?_ ?_
    ·refine qA 3 Z Z (aQ 1 Z aa zb3 Z Z Z (rdr 0 Z)) ?_;rintro _ _⟨ns,pi,rfl,rfl⟩;refine⟨λ_ h=>h.sel [] cC Z,?_⟩;refine sI (v:=sl ns (n1+((eD (m).toNat).length)) pi) Z ?_;refine kD 10 cA ?_;refine qA 10 Z Z (bH .i64 [(rd b i)+1] aa zs3 Z Z Z) ?_;rintro _ _⟨ir,rfl,rfl⟩;refine⟨λ_ h=>h.sel [] cC Z,?_⟩;refine kD 11 cA ?_;refine qA 11 Z Z (aQ 2 Z aa zb3 Z Z Z (rdr 0 Z)) ?_;rintro _ _⟨kd,mu,rfl,rfl⟩;refine⟨λ_ h=>h.sel [] cC Z,?_⟩;refine sI (v:=sl kd ((n1+((eD (m).toNat).length))+1) mu) Z ?_;refine jI 12 Z cA Z (bB Z) ?_;refine xN cA ?_;refine aK<|wn Z<|aK<|wm Z<|wA Z Z<|wn Z ?_;exact⟨kd,(n1+((eD (m).toNat).length))+1,mu,(acc++(eD (m).toNat))++([(rd b i)+1]),i+1,0,⟨(by first|exact cm|simp[cm,mo]),G,G,G,G,(BK hT bb G cF)⟩,G,SA,λ_ h=>h.sel [2] cC Z⟩
    ·refine qA 10 Z Z (bH .i64 [(rd b i)+1] aa zs3 Z Z Z) ?_;rintro _ _⟨ia,rfl,rfl⟩;refine⟨λ_ h=>h.sel [] cC Z,?_⟩;refine kD 3 cA ?_;refine qA 3 Z Z (aQ 2 Z aa zb3 Z Z Z (rdr 1 Z)) ?_;rintro _ _⟨na,db,rfl,rfl⟩;refine⟨λ_ h=>h.sel [] cC Z,?_⟩;refine sI (v:=sl na (n1+((eD (m).toNat).length)) db) Z ?_;refine kD 11 cA ?_;refine qA 11 Z Z (aQ 2 Z aa zb3 Z Z Z (rdr 0 Z)) ?_;rintro _ _⟨dy,ee,rfl,rfl⟩;refine⟨λ_ h=>h.sel [] cC Z,?_⟩;refine sI (v:=sl dy ((n1+((eD (m).toNat).length))+1) ee) Z ?_;refine jI 12 Z cA Z (bB Z) ?_;refine xN cA ?_;refine aK<|wn Z<|aK<|wm Z<|wA Z Z<|wn Z ?_;exact⟨dy,(n1+((eD (m).toNat).length))+1,ee,(acc++(eD (m).toNat))++([(rd b i)+1]),i+1,0,⟨(by first|exact cm|simp[cm,mo]),G,G,G,G,(BK hT bb G cF)⟩,G,SA,λ_ h=>h.sel [2] cC Z⟩
   ·refine qA 10 Z Z (bH .i64 [(rd b i)+1] aa zs3 Z Z Z) ?_;rintro _ _⟨o4,rfl,rfl⟩;refine⟨λ_ h=>h.sel [] cC Z,?_⟩;refine kD 2 cA ?_;refine qA 2 Z Z (aC aVy Z (Ct.fresh (λw hw=>zN G))) ?_;rintro _ _⟨_,rfl,uv,gh,rfl,rfl⟩;refine⟨λ_ h=>h.sel [] cC Z,?_⟩;refine kD 3 cA ?_;refine qA 3 Z Z (aQ 2 Z aa zb3 Z Z Z (rdr 0 Z)) ?_;rintro _ _⟨pf,ph,rfl,rfl⟩;refine⟨λ_ h=>h.sel [] cC Z,?_⟩;refine sI (v:=sl pf (n1+((eD (m).toNat).length)) ph) Z ?_;refine kD 11 cA ?_;refine qA 11 Z Z (aQ 2 Z aa zb3 Z Z Z (rdr 1 Z)) ?_;rintro _ _⟨re,rh,rfl,rfl⟩;refine⟨λ_ h=>h.sel [] cC Z,?_⟩;refine sI (v:=sl re ((n1+((eD (m).toNat).length))+1) rh) Z ?_;refine jI 12 Z cA Z (bB Z) ?_;refine xN cA ?_;refine aK<|wn Z<|aK<|wm Z<|wA Z Z<|wn Z ?_;exact⟨re,(n1+((eD (m).toNat).length))+1,rh,(acc++(eD (m).toNat))++([(rd b i)+1]),i+1,0,⟨(by first|exact cm|simp[cm,mo]),G,G,G,G,(BK hT bb G cF)⟩,G,SA,λ_ h=>h.sel [2] cC Z⟩
 ·refine aR<|wq<|wm Z<|wm Z<|wa (aC aVy Z (Ct.fresh (λw hw=>zN G))) ?_;rintro _ _⟨_,rfl,wb,wi,rfl,rfl⟩;refine wa (aQ 1 Z aa zb3 Z Z Z (rdr 0 Z)) ?_;rintro _ _⟨nf,nj,rfl,rfl⟩;refine bC (v:=sl nf (n1+((eD (m).toNat).length)) nj) Z<|wn Z<|aT [1] 99 cC Z ?_;refine⟨_,Z,?_⟩;rw[xk G] at hT;have e2:acc++eD m.toNat=bS 0 b:=hT;have e:n1+(eD m.toNat).length=(bS 0 b).length:=by rw[<-e2,ah,cm]
  rw[e,e2];exact⟨_,_,Z,Z⟩
variable {B g n c:Nat} {w0 w:World} {R:List Row} {A:AF} {C:AH} {ew:Int}
theorem ND (hn:n=C.length) (hs:0<=ew/\ew<C.length):
  CT 202 #[PG g,I ew] B w0 ((rc 256 2 g [sl A n c,I (aV C)])::(ri 3 A n c C)::R) (λv R'=>v=bt/\R'=(rc 256 2 g [sl A n c,I (aV C)])::(ri 3 A n c C)::R):=by
 subst hn;refine fn1 Tryz.func202 Z Z Z ?_;refine wq<|wn Z<|wq<|wm Z<|wy (aYj Ee Z Z)<|wm Z<|aB Z Z<|wm Z<|aB Z Z<|wy (Yl.t (iD Z Z) G)<|wy (aS Z Z)<|wm Z ?_;refine aB Z Z<|wm Z<|aB Z Z<|wm Z<|aB Z Z<|wy (aG Z)<|aB Z Z<|wy (yF 0 0 qh fV Z)<|aB Z Z<|wy (yL 0 aa Z Z Z)<|aB Z Z<|wy (aL aa Z)<|aB Z Z<|wy (Yl.t (eZ Z Z) G)<|wy (aS Z Z) ?_;refine wn Z<|bU (R1:=((rc 256 2 g [sl A C.length c,I (aV C)])::(ri 3 A C.length c C)::R)) hiZ ?_;exact⟨_,Z,Z,Z⟩
theorem jL:
  CT 133 #[PG g] B w0 ((rc 256 2 g [sl A n c,I (aV C)])::(ri 3 A n c C)::R) (λv R'=>v=I (aV C)/\R'=(rc 256 2 g [sl A n c,I (aV C)])::(ri 3 A n c C)::R):=by
 refine fn1 Tryz.func133 Z Z Z ?_;refine wq<|wn Z<|aD<|wq<|wm Z<|wy (kZ Ee Z Z)<|aA<|aP Z<|aI<|wq<|wm Z ?_;refine wy (aG Z)<|wy (yF 1 1 qh sz3 Z)<|wy (yL 0 au Z Z Z)<|wn Z<|bU (R1:=((rc 256 2 g [sl A n c,I (aV C)])::(ri 3 A n c C)::R)) hiZ ?_;exact⟨_,Z,Z,Z⟩
theorem lH (hn:n=C.length) (hs:0<=ew/\ew<C.length) (dr:lN C):
  CT 131 #[PG g,I ew] B w0 ((rc 256 2 g [sl A n c,I (aV C)])::(ri 3 A n c C)::R) (λv R'=>v= .tuple #[I (aV (C.take ew.toNat)),I (rd C ew),bt]/\R'=(rc 256 2 g [sl A n c,I (aV C)])::(ri 3 A n c C)::R):=by
 subst hn;refine fn3 Tryz.func131 Z Z Z ?_;refine wq<|wg Z<|wg Z<|wn Z<|aD<|wq<|wm Z<|wm Z<|wa (aC bEn Z ((ND Z G))) ?_;rintro _ _⟨rfl,rfl⟩;refine wy (dW Z)<|aA<|aP Z<|aI<|aD<|wq<|wm Z<|wy (aG Z)<|wy (yF 0 0 qh fV Z)<|wy (yL 0 aa Z Z Z)<|wm Z<|wy (dV aa sz3 Z Z (rdr 1 Z))<|wy (aL aa Z)<|wm Z ?_;refine aA<|aH ?_;refine dI (λ(i:Int) (low:Int)=>[(0,PG g),(1,I ew),(4,I low),(18,sl A ((ew).toNat) c),(19,I (((ew).toNat:Nat):Int)),(20,I i)]) (λi low=>((rc 256 2 g [sl A C.length c,I (aV C)])::(ri 3 A C.length c C)::R)) (λi low=>(0<=i)/\(i<=ew)/\(low=aV (C.take i.toNat))) (λi low=>(ew-i).toNat) ?_ ?_
 ·exact⟨0,0,⟨G,G,(Z)⟩,KP⟩
 intro i low ⟨bb,gd,j9⟩;have a7:=tC (i:=i) dr.2.1 bb G;have Om:=dr.2.2;have kt:=dr.1;have s6:=VD (l:=C) (k:=ew) (i:=i) bb;refine wq<|wL Z Z<|aA<|aD<|bA Z (λba=> ?_) (λba=> ?_)
 ·have s6:=s6 G;refine aI<|aD<|aH<|wq<|wy (aF aa sz3 Z Z (RdC.toI (h:=(ew).toNat) (rdr 1 Z) cG)) ?_;refine wy (aU au Z Z (RdC.toI (h:=(ew).toNat) (rdr 1 Z) cG)) ?_;refine wn Z<|aK<|wm Z<|wm Z<|wA Z Z<|wn Z<|aK<|wA Z Z<|wm Z<|aA ?_;exact⟨i+1,low+(rd ((C).take (ew).toNat) i),⟨G,G,(by rw[nX bb G,<-j9,VD bb G])⟩,G,KP⟩
 ·refine aR<|aD<|bF mixed<|wD 0 Z (aJ Z)<|wD 1 Z (aJ Z)<|wD 2 Z (aG Z)<|wD 3 Z (yF 0 0 qh fV Z)<|wD 4 Z (yL 0 aa Z Z Z)<|wD 5 Z (aJ Z)<|wD 6 Z (aF aa sz3 Z Z (rdr 1 Z))<|wD 7 Z (aU au Z Z (rdr 1 Z))<|wD 8 Z (bB Z)<|wD 9 Z (bB Z)<|wD 10 Z (bB Z)<|wN ?_;refine bU (R1:=((rc 256 2 g [sl A C.length c,I (aV C)])::(ri 3 A C.length c C)::R)) hiZ ?_;refine⟨_,_,_,Z,Z,Z,?_⟩;obtain rfl:i=ew:=G
  rw[<-j9];exact⟨Z,Z⟩
theorem wV:
  CF 200 #[I 258] w (λv R'=> ∃g A c,v=PG g/\R'=[(rc 256 2 g [sl A 258 c,I 258]),(ri 3 A 258 c uY)]):=by
 refine fn1 Tryz.func200 Z Z Z ?_;refine wq<|wn Z<|aD<|wq<|wm Z<|wy (Yl.f (eZ Z Z) cC)<|wm Z<|aB Z Z<|wm Z<|aB Z Z<|wy (Yl.f (dA Z Z) cC)<|wy (aO Z Z) ?_;refine aA<|aP Z<|aI<|wq<|wm Z<|wm Z<|wa (dM aa zb3 Z Z) ?_;rintro _ _⟨aq,rfl,rfl⟩;refine bC (v:=sl (GG aq) ((258:Int).toNat) ((258:Int).toNat)) Z<|wy (gX (v:= .agg #[sl (GG aq) ((258:Int).toNat) ((258:Int).toNat),I 258]) Z (λw=>cA))<|wa (cB (sz:=2) rfl rfl) ?_;rintro _ _⟨cy,rfl,rfl⟩;refine wn Z<|aD<|wq<|wm Z<|wy (aG Z)<|wy (yF 0 0 qh fV Z)<|wy (yL 0 aa Z Z Z)<|wy (aL aa Z)<|wm Z<|aA<|aH ?_;refine dI (λ(i:Int) (V:AH)=>[(3,PG cy),(20,I (((258:Int).toNat:Nat):Int)),(21,I i)]) (λi V=>[(rc 256 2 cy [sl (GG aq) ((258:Int).toNat) ((258:Int).toNat),I 258]),(ri 3 (GG aq) ((258:Int).toNat) ((258:Int).toNat) V)]) (λi V=>(0<=i)/\(i<=258)/\(V.length=258)/\(∀j:Int,0<=j->j<i->rd V j=1)) (λi V=>(258-i).toNat) ?_ ?_
 ·exact⟨0,List.replicate ((258:Int).toNat) (0:Int),⟨G,G,(dh),(λj h1 h2=>G)⟩,KP⟩
 intro i V ⟨bb,gd,ld,hV⟩;refine wq<|wL Z Z<|aA<|aD<|bA Z (λba=> ?_) (λba=> ?_)
 ·refine aI<|aD<|aH<|wq<|wm Z<|wn Z<|aK<|wm Z<|wy (aG Z)<|wy (yF 0 0 qh fV Z)<|wy (yL 0 aa Z Z Z)<|wm Z<|wy (aF aa sz3 Z Z (rdr 1 Z)) ?_;refine dC (bG 1 Z sz3 Z Z) ?_;rintro _ _ rfl;refine aA<|aK<|wA Z Z<|wm Z<|aA ?_;exact⟨i+1,upd V i 1,⟨G,G,(by rw[aX];exact ld),(fA (f:=λ_=>1) bb G hV Z)⟩,G,KP⟩
 ·refine aR<|wq<|wm Z<|wn Z<|bU (R1:=[(rc 256 2 cy [sl (GG aq) ((258:Int).toNat) ((258:Int).toNat),I 258]),(ri 3 (GG aq) ((258:Int).toNat) ((258:Int).toNat) V)]) hiZ ?_;refine⟨_,Z,?_⟩;obtain rfl:V=uY:=bGs ld (λj h1 h2=>hV j h1 G);exact⟨_,_,_,Z,Z⟩
theorem uQ:
  CF 231 #[I 258] w (λv R'=> ∃g A c,v=PG g/\R'=[(rc 277 1 g [sl A 258 c]),(ri 3 A 258 c uY)]):=by
 refine fn1 Tryz.func231 Z Z Z ?_;refine wq<|wn Z<|aD<|wq<|wm Z<|wy (Yl.f (eZ Z Z) cC)<|wm Z<|aB Z Z<|wm Z<|aB Z Z<|wy (Yl.f (dA Z Z) cC)<|wy (aO Z Z) ?_;refine aA<|aP Z<|aI<|wq<|wy (gX (v:= .agg #[sl none 0 0]) Z (λw=>cA))<|wa (cB (sz:=1) rfl rfl) ?_;rintro _ _⟨aq,rfl,rfl⟩;refine bT (R1:=[(ri 3 none 0 0 ([])),(rc 277 1 aq [sl none 0 0])]) (Sub.refl _) (λ_ h=>h.nil 3 1)<|wn Z<|aD<|wq<|wn Z<|aH ?_;refine eH (λ(i:Int) (A1:AF) (n1:Nat) (c1:Nat) (acc:AH)=>[(0,I 258),(3,PG aq),(4,I i)]) (λi A1 n1 c1 acc=>[(ri 3 A1 n1 c1 acc),(rc 277 1 aq [sl A1 n1 c1])]) (λi A1 n1 c1 acc=>(0<=i)/\(i<=258)/\(n1=acc.length)/\(acc=List.replicate i.toNat 1)) (λi A1 n1 c1 acc=>(258-i).toNat) ?_ ?_
 ·exact⟨0,none,0,0,[],⟨G,G,(Z),(Z)⟩,KP⟩
 intro i A1 n1 c1 acc ⟨bb,gd,cm,bc⟩;have qt:=bu List.length bc;rw[dh] at qt;refine aD<|wq<|wm Z<|wm Z<|wL Z Z<|aA<|bA Z (λba=> ?_) (λba=> ?_)
 ·refine aI<|aD<|aH<|aK<|wm Z<|wm Z<|wy (aG Z)<|wy (yF 0 0 uu fV Z)<|wy (yL 1 aa Z Z Z)<|wa (bH .i64 [1] aa zs3 Z Z Z) ?_;rintro _ _⟨fi,rfl,rfl⟩;refine wa (aQ 1 Z aa zb3 Z Z Z (rdr 0 Z)) ?_;rintro _ _⟨ns,pi,rfl,rfl⟩;refine bC (v:=sl ns (n1+1) pi) Z<|wy (aG Z)<|wy (yF 0 0 uu fV Z)<|dC (bE 2 Z Z Z fV Z Z Z Z (ak Z)) ?_;rintro _ _ rfl;refine aA<|aK<|wm Z<|wA Z Z<|wn Z ?_;exact⟨i+1,ns,(n1+1),pi,acc++([1]),⟨G,G,(by rw[ah,cm];rfl),(by rw[bc,show(i+1).toNat=i.toNat+1 by omega,Bg])⟩,G,SA,λ_ h=>h.sel [1,2] cC Z⟩
 ·refine aR<|wq<|wm Z<|wn Z<|aT [1,0] 99 cC Z ?_;refine⟨_,Z,?_⟩;obtain rfl:i=258:=G
  subst bc;obtain rfl:n1=258:=by rw[cm,dh];rfl
  exact⟨_,_,_,Z,Z⟩
theorem wU (hn:n=C.length) (hs:0<=ew/\ew<C.length) (dr:lN C):
  CT 205 #[PG g,I ew] B w0 ((rc 256 2 g [sl A n c,I (aV C)])::(ri 3 A n c C)::R) (λv R'=>v=bt/\R'=(rc 256 2 g [sl A n c,I (aV (kG C ew))])::(ri 3 A n c (kG C ew))::R):=by
 subst hn;have kt:=dr.1;have a7:=dr.le.part (i:=ew) hs.1 G;have a8:=dr.up (s:=ew) hs.1 G;have Om:=dr.2.2;have yy:=a8.1.1;have Mt:=rX dr.2.1;refine fn1 Tryz.func205 Z Z Z ?_;refine wq<|wn Z<|aD<|wq<|wm Z<|wm Z<|wa (aC bEn Z ((ND Z G))) ?_;rintro _ _⟨rfl,rfl⟩;refine wy (dW Z)<|aA<|aP Z<|aI<|wq<|wm Z<|wy (aG Z)<|wy (yF 0 0 qh fV Z)<|wy (yL 0 aa Z Z Z)<|wm Z<|wy (aF aa sz3 Z Z (rdr 1 Z))<|wy (aU au Z Z (rdr 1 Z))<|wA Z Z<|wy (aF aa sz3 Z Z (rdr 1 Z)) ?_;refine dC (bG 1 Z sz3 Z Z) ?_;rintro _ _ rfl;refine aA<|wq<|wm Z<|wy (aG Z)<|wy (yF 1 1 qh sz3 Z)<|wy (yL 0 au Z Z Z)<|wA Z Z<|wy (aG Z)<|wy (yF 1 1 qh sz3 Z)<|dC (bE 0 Z Z Z sz3 Z Z Z Z (ak Z)) ?_;rintro _ _ rfl;refine aA<|aD<|wq<|wm Z<|wy (aG Z)<|wy (yF 1 1 qh sz3 Z)<|wy (yL 0 au Z Z Z)<|wy (dA Z Z)<|aA<|bA Z (λba=> ?_) (λba=> ?_)
 ·refine wq<|wm Z<|wy (aG Z)<|wy (yF 1 1 qh sz3 Z)<|dC (bE 0 Z Z Z sz3 Z Z Z Z (ak Z)) ?_;rintro _ _ rfl;refine aA<|wq<|wm Z<|wy (aG Z)<|wy (yF 0 0 qh fV Z)<|wy (yL 0 aa Z Z Z)<|wy (aL aa Z)<|wm Z<|aA<|aH ?_;refine gN (λ(i:Int) (V:AH) (t:Int)=>[(0,PG g),(38,sl A C.length c),(39,I (C.length:Int)),(40,I i)]) (λi V t=>((rc 256 2 g [sl A C.length c,I t])::(ri 3 A C.length c V)::R)) (λi V t=>(0<=i)/\(i<=258)/\(IV (upd C ew (rd C ew+32)) V i t)) (λi V t=>(258-i).toNat) ?_ ?_
  ·exact⟨0,upd C ew ((rd C ew)+32),0,⟨G,G,(NM yy)⟩,KP⟩
  intro i V t ⟨bb,gd,hI⟩;have Tb:=a8.1.part (i:=i) bb;have Oh:=a8.1.half.le.part (i:=i) bb;have ld:=hI.len;have Jz:=hI.sum;refine wq<|wL Z Z<|aA<|aD<|bA Z (λcj=> ?_) (λcj=> ?_)
  ·have Tb:=Tb G;have Oh:=Oh G;have Tl:=hI.left i G G;have Ue:=eX (l:=V) (i:=i) (v:=(rd V i+1)/2) bb G;have hht:0<=t/\t<=65536:=by rw[Jz];exact Oh.1
   refine aI<|aD<|aH<|wq<|wm Z<|wy (aF aa sz3 Z Z (rdr 1 Z))<|wy (aU au Z Z (rdr 1 Z))<|wg Z<|wn Z<|wq<|wm Z<|wy (aG Z) ?_;refine wy (yF 0 0 qh fV Z)<|wy (yL 0 aa Z Z Z)<|wm Z<|wm Z<|wA Z Z<|wy (vP Z Z G G G)<|wy (aF aa sz3 Z Z (rdr 1 Z))<|dC (bG 1 Z sz3 Z Z) ?_;rintro _ _ rfl;refine aA<|bF mixed<|wD 0 Z (aJ Z)<|wD 1 Z (aG Z)<|wD 2 Z (yF 1 1 qh sz3 Z)<|wD 3 Z (yL 0 au Z Z Z)<|wD 4 Z (aJ Z)<|wD 5 Z (aG Z)<|wD 6 Z (yF 0 0 qh fV Z)<|wD 7 Z (yL 0 aa Z Z Z)<|wD 8 Z (aJ Z)<|wD 9 Z (aF aa sz3 Z Z (rdr 1 Z))<|wD 10 Z (aU au Z Z (rdr 1 Z))<|wD 11 Z (cK Z Z)<|wD 12 Z (aG Z) ?_;refine wD 13 Z (yF 1 1 qh sz3 Z)<|qD 14 Z cA (bE 0 Z Z Z sz3 Z Z Z Z (ak Z)) ?_;rintro _ _ rfl;refine⟨.inl cA,?_⟩;refine wN<|aK<|wA Z Z<|wm Z<|aA ?_;exact⟨i+1,upd V i (((rd V i)+1)/2),(t+rd (upd V i ((rd V i+1)/2)) i),⟨G,G,(hI.step yy bb G)⟩,G,KP⟩
  ·refine aR<|wq<|wn Z<|bU (R1:=((rc 256 2 g [sl A C.length c,I t])::(ri 3 A C.length c V)::R)) hiZ ?_;refine⟨_,Z,?_⟩;obtain rfl:i=258:=G
   obtain⟨e1,e2⟩:=hI.done_all yy;have e3:kG C ew=V:=by unfold kG;rw[di G,e1]
   rw[e3,e1,<-e2];exact⟨Z,Z⟩
 ·refine aI<|wq<|wn Z<|bU (R1:=((rc 256 2 g [sl A C.length c,I ((aV C)+32)])::(ri 3 A C.length c (upd C ew ((rd C ew)+32)))::R)) hiZ ?_;refine⟨_,Z,?_⟩;have e3:kG C ew=(upd C ew (rd C ew+32)):=by unfold kG;rw[df G]
  rw[e3,a8.2];exact⟨Z,Z⟩
theorem nA (hn:n=C.length) (We:PI C):
  CT 168 #[PG g] B w0 ((rc 277 1 g [sl A n c])::(ri 3 A n c C)::R) (λv R'=>v=I (aV C)/\R'=(rc 277 1 g [sl A n c])::(ri 3 A n c C)::R):=by
 subst hn;refine fn1 Tryz.func168 Z Z Z ?_;refine wq<|wn Z<|wq<|wn Z<|aD<|wq<|wn Z<|aH ?_;refine dI (λ(i:Int) (t:Int)=>[(0,PG g),(3,I t),(4,I i)]) (λi t=>((rc 277 1 g [sl A C.length c])::(ri 3 A C.length c C)::R)) (λi t=>(0<=i)/\(i<=C.length)/\(t=aV (C.take i.toNat))) (λi t=>(C.length-i).toNat) ?_ ?_
 ·exact⟨0,0,⟨G,G,(Z)⟩,KP⟩
 intro i t ⟨bb,gd,ht⟩;have kt:=We.1;have a7:=We.part (i:=i) bb;refine aD<|wq<|wm Z<|wm Z<|wy (aG Z)<|wy (yF 0 0 uu fV Z)<|wy (yL 0 aa Z Z Z)<|wy (aL aa Z)<|wL Z Z<|aA<|bA Z (λba=> ?_) (λba=> ?_)
 ·have a7:=a7 G;refine aI<|aD<|aH<|aK<|wm Z<|wm Z<|wy (aG Z)<|wy (yF 0 0 uu fV Z)<|wy (yL 0 aa Z Z Z)<|wm Z<|wy (aF aa sz3 Z Z (rdr 1 Z))<|wy (aU au Z Z (rdr 1 Z))<|wA Z Z<|wn Z ?_;refine aK<|wm Z<|wA Z Z<|wn Z ?_;exact⟨i+1,t+(rd C i),⟨G,G,(by rw[nX bb G,<-ht])⟩,G,KP⟩
 ·refine aR<|wq<|wm Z<|wn Z<|bU (R1:=((rc 277 1 g [sl A C.length c])::(ri 3 A C.length c C)::R)) hiZ ?_;refine⟨_,Z,?_⟩;rw[bi G] at ht;subst ht;exact⟨Z,Z⟩
theorem sN (hn:n=C.length) (hs:0<=ew/\ew<C.length) (dr:lN C):
  CT 170 #[PG g,I ew] B w0 ((rc 277 1 g [sl A n c])::(ri 3 A n c C)::R) (λv R'=>v= .tuple #[I (aV (C.take ew.toNat)),I (rd C ew),bt]/\R'=(rc 277 1 g [sl A n c])::(ri 3 A n c C)::R):=by
 subst hn;refine fn3 Tryz.func170 Z Z Z ?_;refine wq<|wg Z<|wg Z<|wn Z<|aD<|wq<|wm Z<|wy (Yl.f (eZ Z Z))<|wm Z<|aB Z Z<|wm Z<|aB Z Z ?_;refine wm Z<|aB Z Z<|wy (aG Z)<|aB Z Z<|wy (yF 0 0 uu fV Z)<|aB Z Z<|wy (yL 0 aa Z Z Z)<|aB Z Z<|wy (aL aa Z)<|aB Z Z<|wy (Yl.f (iD Z Z))<|wy (aO Z Z)<|aA<|aP Z<|aI ?_;refine wq<|wn Z<|aD<|wq<|wn Z<|aH ?_;refine dI (λ(i:Int) (low:Int)=>[(0,PG g),(1,I ew),(7,I low),(8,I i)]) (λi low=>((rc 277 1 g [sl A C.length c])::(ri 3 A C.length c C)::R)) (λi low=>(0<=i)/\(i<=ew)/\(low=aV (C.take i.toNat))) (λi low=>(ew-i).toNat) ?_ ?_
 ·exact⟨0,0,⟨G,G,(Z)⟩,KP⟩
 intro i low ⟨bb,gd,j9⟩;have kt:=dr.1;have a7:=dr.le.part (i:=i) bb G;refine aD<|wq<|wm Z<|wm Z<|wL Z Z<|aA<|bA Z (λba=> ?_) (λba=> ?_)
 ·refine aI<|aD<|aH<|aK<|wm Z<|wm Z<|wy (aG Z)<|wy (yF 0 0 uu fV Z)<|wy (yL 0 aa Z Z Z)<|wm Z<|wy (aF aa sz3 Z Z (rdr 1 Z))<|wy (aU au Z Z (rdr 1 Z))<|wA Z Z<|wn Z ?_;refine aK<|wm Z<|wA Z Z<|wn Z ?_;exact⟨i+1,low+(rd C i),⟨G,G,(by rw[nX bb G,<-j9])⟩,G,KP⟩
 ·refine aR<|aD<|bF mixed<|wD 0 Z (aJ Z)<|wD 1 Z (aJ Z)<|wD 2 Z (aG Z)<|wD 3 Z (yF 0 0 uu fV Z)<|wD 4 Z (yL 0 aa Z Z Z)<|wD 5 Z (aJ Z)<|wD 6 Z (aF aa sz3 Z Z (rdr 1 Z))<|wD 7 Z (aU au Z Z (rdr 1 Z))<|wD 8 Z (bB Z)<|wD 9 Z (bB Z)<|wD 10 Z (bB Z)<|wN ?_;refine bU (R1:=((rc 277 1 g [sl A C.length c])::(ri 3 A C.length c C)::R)) hiZ ?_;refine⟨_,_,_,Z,Z,Z,?_⟩;obtain rfl:i=ew:=G
  rw[<-j9];exact⟨Z,Z⟩
theorem uP (hn:n=C.length) (hs:0<=ew/\ew<C.length) (dr:lN C):
  CT 172 #[PG g,I ew] B w0 ((rc 277 1 g [sl A n c])::(ri 3 A n c C)::R) (λv R'=>v=bt/\R'=(rc 277 1 g [sl A n c])::(ri 3 A n c (kG C ew))::R):=by
 subst hn;have kt:=dr.1;have a7:=dr.le.part (i:=ew) hs.1 G;have a8:=dr.up (s:=ew) hs.1 G;have Om:=dr.2.2;have yy:=a8.1.1;have Mt:=rX dr.2.1;refine fn1 Tryz.func172 Z Z Z ?_;refine wq<|wn Z<|aD<|wq<|wm Z<|wy (Yl.f (eZ Z Z))<|wm Z<|aB Z Z<|wm Z<|aB Z Z<|wm Z<|aB Z Z ?_;refine wy (aG Z)<|aB Z Z<|wy (yF 0 0 uu fV Z)<|aB Z Z<|wy (yL 0 aa Z Z Z)<|aB Z Z<|wy (aL aa Z)<|aB Z Z<|wy (Yl.f (iD Z Z))<|wy (aO Z Z)<|aA<|aP Z<|aI<|aD<|bF mixed ?_;refine wD 0 Z (aJ Z)<|wD 1 Z (aG Z)<|wD 2 Z (yF 0 0 uu fV Z)<|wD 3 Z (yL 0 aa Z Z Z)<|wD 4 Z (aJ Z)<|wD 5 Z (aJ Z)<|wD 6 Z (aG Z)<|wD 7 Z (yF 0 0 uu fV Z)<|wD 8 Z (yL 0 aa Z Z Z)<|wD 9 Z (aJ Z)<|wD 10 Z (aF aa sz3 Z Z (rdr 1 Z))<|wD 11 Z (aU au Z Z (rdr 1 Z))<|wD 12 Z (cK Z Z)<|wD 13 Z (aF aa sz3 Z Z (rdr 1 Z))<|qD 14 Z cA (bG 1 Z sz3 Z Z) ?_;rintro _ _ rfl;refine⟨.inl cA,?_⟩;refine wN<|aD<|wq<|wm Z<|wa (aC aJi Z ((nA (by rw[yy,kt]) a8.1))) ?_;rintro _ _⟨rfl,rfl⟩;refine wy (dA Z Z)<|aA<|bA Z (λba=> ?_) (λba=> ?_)
 ·refine wq<|wn Z<|aH ?_;refine gN (λ(i:Int) (V:AH) (t:Int)=>[(0,PG g),(5,I i)]) (λi V t=>((rc 277 1 g [sl A C.length c])::(ri 3 A C.length c V)::R)) (λi V t=>(0<=i)/\(i<=258)/\(IV (upd C ew (rd C ew+32)) V i t)) (λi V t=>(258-i).toNat) ?_ ?_
  ·exact⟨0,upd C ew ((rd C ew)+32),0,⟨G,G,(NM yy)⟩,KP⟩
  intro i V t ⟨bb,gd,hI⟩;have Tb:=a8.1.part (i:=i) bb;have Oh:=a8.1.half.le.part (i:=i) bb;have ld:=hI.len;have Jz:=hI.sum;refine aD<|wq<|wm Z<|wm Z<|wy (aG Z)<|wy (yF 0 0 uu fV Z)<|wy (yL 0 aa Z Z Z)<|wy (aL aa Z)<|wL Z Z<|aA<|bA Z (λcj=> ?_) (λcj=> ?_)
  ·have Tb:=Tb G;have Oh:=Oh G;have Tl:=hI.left i G G;have Ue:=eX (l:=V) (i:=i) (v:=(rd V i+1)/2) bb G;have hht:0<=t/\t<=65536:=by rw[Jz];exact Oh.1
   refine aI<|aD<|aH<|bF mixed<|wD 0 Z (aJ Z)<|wD 1 Z (aG Z)<|wD 2 Z (yF 0 0 uu fV Z)<|wD 3 Z (yL 0 aa Z Z Z)<|wD 4 Z (aJ Z)<|wD 5 Z (aJ Z)<|wD 6 Z (aG Z)<|wD 7 Z (yF 0 0 uu fV Z)<|wD 8 Z (yL 0 aa Z Z Z)<|wD 9 Z (aJ Z)<|wD 10 Z (aF aa sz3 Z Z (rdr 1 Z)) ?_;refine wD 11 Z (aU au Z Z (rdr 1 Z))<|wD 12 Z (cK Z Z)<|wD 13 Z (vP Z Z G G G)<|wD 14 Z (aF aa sz3 Z Z (rdr 1 Z))<|qD 15 Z cA (bG 1 Z sz3 Z Z) ?_;rintro _ _ rfl;refine⟨.inl cA,?_⟩;refine wN<|aK<|wm Z<|wA Z Z<|wn Z ?_;exact⟨i+1,upd V i (((rd V i)+1)/2),(t+rd (upd V i ((rd V i+1)/2)) i),⟨G,G,(hI.step yy bb G)⟩,G,KP⟩
  ·refine aR<|wq<|wn Z<|bU (R1:=((rc 277 1 g [sl A C.length c])::(ri 3 A C.length c V)::R)) hiZ ?_;refine⟨_,Z,?_⟩;obtain rfl:i=258:=G
   obtain⟨e1,e2⟩:=hI.done_all yy;have e3:kG C ew=V:=by unfold kG;rw[di G,e1]
   rw[e3,e1];exact⟨Z,Z⟩
 ·refine aI<|wq<|wn Z<|bU (R1:=((rc 277 1 g [sl A C.length c])::(ri 3 A C.length c (upd C ew ((rd C ew)+32)))::R)) hiZ ?_;refine⟨_,Z,?_⟩;have e3:kG C ew=(upd C ew (rd C ew+32)):=by unfold kG;rw[df G]
  rw[e3];exact⟨Z,Z⟩
end Go.Proofs.YtdbebmmhdefgdaaGreat
