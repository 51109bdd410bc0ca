/- Own work. -/
import Derived.Tactics
import Derived.Tactics2
import Derived.Defers
import Derived.Laws.Pointers
import Derived.Laws.LoneSync
import Derived.RegionTactic
import Derived.RegionCalls
import Derived.ChangeAlike
import Derived.Lib.MakeNoZero
import Derived.Ground.SlsfProg
import Derived.Shelf.SlSortCmp.NoneTotal
import Derived.Test.YtdbebmmhdefgdaaGreatProg
import Derived.Lib.AppendZeros
import Derived.Maps.AppendAt
import Derived.Test.YtdbebmmhdefgdaaGreatZ4
set_option linter.unusedVariables false
set_option linter.unusedSimpArgs false
set_option maxHeartbeats 8000000
namespace Go.Proofs.YtdbebmmhdefgdaaGreat
open Go Go.Eng Go.Pure
open Tryz
set_option maxRecDepth 100000
variable {w w0:World} {low size total r:Int} {B g n c:Nat} {R:List Row} {A:AF} {b:AH}
theorem IM (yr:sV low size total):
  CF 203 #[I low,I size,I total] w (λv R'=>v=bt):=by
 refine fn1 Tryz.func203 Z Z Z ?_;obtain⟨s1,s2,s3,s4⟩:=yr;refine wq<|wn Z<|wq<|wm Z<|wy (Yl.t (qP Z Z) G)<|wm Z<|aB Z Z<|wm Z<|aB Z Z<|wy (Yl.t (iD Z Z) G)<|wy (aS Z Z)<|wm Z ?_;refine aB Z Z<|wm Z<|aB Z Z<|wy (Yl.t (iD Z Z) G)<|wy (aS Z Z)<|wm Z<|aB Z Z<|wm Z<|aB Z Z<|wm Z<|aB Z Z<|wy (Yl.t (qP Z Z) G)<|wy (aS Z Z)<|wm Z<|aB Z Z ?_;refine wm Z<|aB Z Z<|wm Z<|aB Z Z<|wm Z<|aB Z Z<|wS Z Z<|aB Z Z<|wy (Yl.t (qP Z Z) G)<|wy (aS Z Z)<|wn Z<|bQ ?_;refine⟨_,Z,?_⟩;rfl
theorem aLt (yr:sV low size total):
  CF 233 #[I low,I size,I total] w (λv R'=>v=bt):=by
 refine fn1 Tryz.func233 Z Z Z ?_;obtain⟨s1,s2,s3,s4⟩:=yr;refine wq<|wn Z<|wq<|wm Z<|wy (Yl.t (qP Z Z) G)<|wm Z<|aB Z Z<|wm Z<|aB Z Z<|wy (Yl.t (iD Z Z) G)<|wy (aS Z Z)<|wm Z ?_;refine aB Z Z<|wm Z<|aB Z Z<|wy (Yl.t (iD Z Z) G)<|wy (aS Z Z)<|wm Z<|aB Z Z<|wm Z<|aB Z Z<|wm Z<|aB Z Z<|wy (Yl.t (qP Z Z) G)<|wy (aS Z Z)<|wm Z<|aB Z Z ?_;refine wm Z<|aB Z Z<|wm Z<|aB Z Z<|wm Z<|aB Z Z<|wS Z Z<|aB Z Z<|wy (Yl.t (qP Z Z) G)<|wy (aS Z Z)<|wn Z<|bQ ?_;refine⟨_,Z,?_⟩;rfl
theorem NA:
  CF 128 #[] w (λv R'=> ∃g A c,v=PG g/\R'=[(rc 253 3 g [sl A cd0.k c, .int .u64 (cd0.N%4294967296), .int .u64 cd0.R]),(ru 5 A cd0.k c (beL cd0.k (cd0.N/4294967296)))]):=by
 refine fn1 Tryz.func128 Z Z Z ?_;refine wq<|wn Z<|wq<|wy (gX (v:= .agg #[sl none 0 0, .int .u64 0, .int .u64 4294967295]) Z (λw=>cA))<|wa (cB (sz:=3) rfl rfl) ?_;rintro _ _⟨aq,rfl,rfl⟩;refine bT (R1:=[(ru 5 none 0 0 ([])),(rc 253 3 aq [sl none 0 0, .int .u64 0, .int .u64 4294967295])]) (Sub.refl _) (λ_ h=>h.nil 5 1)<|wn Z<|aT [1,0] 99 cC Z ?_;exact⟨_,Z,_,_,_,Z,Z⟩
theorem WL {x:Int} (hn:n=b.length) (hb:aN b) (hL:b.length<=1000000):
  CT 204 #[PG g] B w0 ((rc 253 3 g [sl A n c, .int .u64 x, .int .u64 r])::(ru 5 A n c b)::R) (λv R'=>v= .tuple #[]/\R'=(rc 253 3 g [sl A n c, .int .u64 x, .int .u64 r])::(ru 5 A n c (EO b 1))::R):=by
 subst hn;refine fn0 Tryz.func204 Z Z Z ?_;refine wq<|wm Z<|wy (aG Z)<|wy (yF 0 0 jr dH Z)<|wy (yL 0 af Z Z Z)<|wy (aL af Z)<|wS Z Z<|wn Z<|aH ?_;refine dI (λ(i:Int) (V:AH)=>[(0,PG g),(2,I i)]) (λi V=>((rc 253 3 g [sl A b.length c, .int .u64 x, .int .u64 r])::(ru 5 A b.length c V)::R)) (λi V=>(-1<=i)/\(i<b.length)/\(aCo b 1 V i 1)) (λi V=>(i+1).toNat) ?_ ?_
 ·exact⟨(b.length:Int)-1,b,⟨G,G,(TZ hb Z)⟩,KP⟩
 intro i V ⟨bb,gd,hI⟩;have ld:=hI.1;have hVb:=hI.2.1.rd i;have Ue:=eX (l:=V) (i:=i) (v:=(rd V i+1)%256);refine aD<|wq<|wm Z<|wy (iD Z Z)<|aA<|bA Z (λba=> ?_) (λba=> ?_)
 ·have Ue:=Ue G G;refine aI<|aD<|aH<|wq<|wm Z<|wy (aG Z)<|wy (yF 0 0 jr dH Z)<|wy (yL 0 af Z Z Z)<|wm Z<|wy (aF af sz5 Z Z (rdr 1 Z))<|wy (aU bn Z Z (rdr 1 Z))<|wy (bFi Z Z)<|wy (aF af sz5 Z Z (rdr 1 Z))<|dC (bG 1 Z sz5 Z Z) ?_;rintro _ _ rfl;refine aA<|wq<|wm Z<|wy (aG Z)<|wy (yF 0 0 jr dH Z)<|wy (yL 0 af Z Z Z)<|wm Z<|wy (aF af sz5 Z Z (rdr 1 Z))<|wy (aU bn Z Z (rdr 1 Z))<|wy (jP Z Z)<|aA<|bA Z (λcj=> ?_) (λcj=> ?_)
  ·refine bU (R1:=((rc 253 3 g [sl A b.length c, .int .u64 x, .int .u64 r])::(ru 5 A b.length c (upd V i (((rd V i)+1)%256)))::R)) hiZ ?_
   skip
   have e:upd V i ((rd V i+1)%256)=EO b 1:=(hI.step (y:=0) (d:=(rd V i+1)%256) G G G G).stop (.inl rfl);rw[e];exact⟨Z,Z⟩
  ·refine aI<|aK<|wm Z<|wS Z Z<|wn Z ?_;exact⟨i-1,upd V i (((rd V i)+1)%256),⟨G,G,(hI.step G G G G)⟩,G,KP⟩
 ·refine aR ?_
  skip
  obtain rfl:=hI.stop (.inr G);exact⟨Z,Z⟩
theorem MJ {s:CdS} (hn:n=s.k) (hc:XE s) (yr:sV low size total) (hk:s.k<=1000000):
  CT 132 #[PG g,I low,I size,I total] B w0 ((rc 253 3 g [sl A n c, .int .u64 (s.N%4294967296), .int .u64 s.R])::(ru 5 A n c (beL s.k (s.N/4294967296)))::R) (λv R'=> ∃(A1:AF) (c1:Nat),v=bt/\R'=(rc 253 3 g [sl A1 ((fB s low size total).k) c1, .int .u64 ((fB s low size total).N%4294967296), .int .u64 ((fB s low size total).R)])::(ru 5 A1 ((fB s low size total).k) c1 (beL (fB s low size total).k ((fB s low size total).N/4294967296)))::R):=by
 subst hn;obtain⟨r0,r1,n0,nr⟩:=hc;have Hh:=yr;obtain⟨s1,s2,s3,s4⟩:=Hh;obtain⟨f1,f2,f3,f4,f5⟩:=nY yr ⟨r0,r1⟩;refine fn1 Tryz.func132 Z Z Z ?_;refine wq<|wn Z<|aD<|wq<|wm Z<|wy (kZ underlying181 Z Z)<|wm Z<|aB Z Z<|wm Z<|aB Z Z<|wm Z<|aB Z Z ?_;refine wm Z<|aB Z Z<|wa (aC bEm Z (Ct.quiet (λw hw=>IM yr))) ?_;rintro _ _⟨rfl,rfl⟩;refine aB Z Z<|wy (dW Z)<|wy (aO Z Z)<|aA<|aP Z<|aI<|wq<|wm Z<|wy (aG Z)<|wy (yF 2 2 jr dP Z)<|wy (yL 0 fe Z Z Z)<|wm Z<|wy (gW au fe Z)<|wy (ET Z Z G G) ?_;refine wn Z<|wq<|wm Z<|wy (aG Z)<|wy (yF 1 1 jr dP Z)<|wy (yL 0 fe Z Z Z)<|wm Z<|wm Z<|wy (gW au fe Z)<|wy (uI Z Z G)<|wy (aPx Z Z G)<|wy (aG Z)<|wy (yF 1 1 jr dP Z) ?_;refine dC (bE 0 Z Z Z dP Z Z Z Z (ak Z)) ?_;rintro _ _ rfl;refine aA<|aD<|wq<|wm Z<|wy (aG Z)<|wy (yF 1 1 jr dP Z)<|wy (yL 0 fe Z Z Z)<|wy (oW (k:=32) (m:=4294967296) Z Z Z G Z)<|wy (dA Z Z)<|aA<|bA Z (λba=> ?_) (λba=> ?_)
 ·refine wq<|wm Z<|wy (aG Z)<|wy (yF 1 1 jr dP Z)<|wy (yL 0 fe Z Z Z)<|wy (JG (m:=4294967296) 32 Z Z Z Z G Z)<|wy (aG Z)<|wy (yF 1 1 jr dP Z)<|dC (bE 0 Z Z Z dP Z Z Z Z (ak Z)) ?_;rintro _ _ rfl;refine aA<|aK<|wm Z<|wa (aC bLl Z ((WL (by rw[kE]) (yX _ _) (by rw[kE];omega)))) ?_;rintro _ _⟨rfl,rfl⟩;refine aA<|aD<|wq<|wm Z<|wm Z<|wm Z<|wy (gW au fe Z)<|wy (uI Z Z G)<|wy (aG Z)<|wy (yF 2 2 jr dP Z)<|dC (bE 0 Z Z Z dP Z Z Z Z (ak Z)) ?_;rintro _ _ rfl;refine aA<|aH ?_;refine uL (λ(j:Nat) (A1:AF) (n1:Nat) (c1:Nat) (V:AH) (x:Int) (r:Int) (M:Int)=>[(0,PG g)]) (λj A1 n1 c1 V x r M=>((rc 253 3 g [sl A1 n1 c1, .int .u64 x, .int .u64 r])::(ru 5 A1 n1 c1 V)::R)) (λj A1 n1 c1 V x r M=>(M=(s.N+s.R/total*low)*256^j)/\(r=(s.R/total*size)*256^j)/\(j<=shN (s.R/total*size))/\(V=beL (s.k+j) (M/4294967296))/\(x=M%4294967296)/\(n1=s.k+j)) (λj A1 n1 c1 V x r M=>(4-j)) ?_ ?_
  ·exact⟨0,A,s.k,c,EO (beL s.k (s.N/4294967296)) 1,((s.N%4294967296)+((s.R/total)*low))%4294967296,(s.R/total)*size,(s.N+s.R/total*low),⟨(by rw[uz,zq]),(by rw[uz,zq]),(qg _),(by first|(rw[KD,qp,show(s.N+s.R/total*low)/4294967296=s.N/4294967296+1 by omega])|(rw[qp,show(s.N+s.R/total*low)/4294967296=s.N/4294967296 by omega])),G,(Z)⟩,KP⟩
  intro j A1 n1 c1 V x r M ⟨hM,hr,hj,hV,hx,cm⟩;have lf:=FI (s.R/total*size);have Ud:1<=r:=by rw[hr];exact CK G
  refine aD<|wq<|wm Z<|wy (aG Z)<|wy (yF 2 2 jr dP Z)<|wy (yL 0 fe Z Z Z)<|wL Z Z<|aA<|bA Z (λcj=> ?_) (λcj=> ?_)
  ·refine aI<|aD<|aH<|aD<|bF mixed<|wD 0 Z (aJ Z)<|wD 1 Z (aJ Z)<|wD 2 Z (aG Z)<|wD 3 Z (yF 0 0 jr dH Z)<|wD 4 Z (yL 0 af Z Z Z)<|wD 5 Z (aJ Z)<|wD 6 Z (aG Z)<|wD 7 Z (yF 1 1 jr dP Z)<|wD 8 Z (yL 0 fe Z Z Z)<|wD 9 Z (oW (k:=24) (m:=16777216) Z Z Z G Z) ?_;refine wD 10 Z (dU fe bn Z)<|wC 11 Z (bH .u8 [(x/16777216)%256] af zs5 Z Z Z) ?_;rintro _ _⟨cy,rfl,rfl⟩;refine⟨.inr hrZ,?_⟩;refine wC 12 Z (aQ 2 Z af zb5 Z Z Z (rdr 0 Z)) ?_;rintro _ _⟨en,es,rfl,rfl⟩;refine⟨.inl cA,?_⟩;refine fO (v:=sl en (n1+1) es) Z<|wD 13 Z (aG Z)<|wD 14 Z (yF 0 0 jr dH Z)<|qD 15 Z cA (bE 1 Z Z Z dH Z Z Z Z (ak Z)) ?_;rintro _ _ rfl;refine⟨.inl cA,?_⟩;refine wN<|aK<|wm Z<|wm Z<|wy (aG Z)<|wy (yF 1 1 jr dP Z)<|wy (yL 1 fe Z Z Z)<|wy (vO (k:=8) (m:=256) Z Z Z G Z)<|wy (JG (m:=4294967296) 32 Z Z Z Z G Z)<|wy (aG Z)<|wy (yF 1 1 jr dP Z)<|dC (bE 1 Z Z Z dP Z Z Z Z (ak Z)) ?_;rintro _ _ rfl;refine aA<|aK<|wm Z<|wy (aG Z)<|wy (yF 2 2 jr dP Z)<|wy (yL 1 fe Z Z Z)<|wy (vO (k:=8) (m:=256) Z Z Z G Z)<|wy (aG Z)<|wy (yF 2 2 jr dP Z)<|dC (bE 1 Z Z Z dP Z Z Z Z (ak Z)) ?_;rintro _ _ rfl;refine aA ?_;exact⟨(j+1),en,n1+1,es,V++([(x/16777216)%256]),(x*256)%4294967296,r*256,(M*256),⟨(by rw[hM,su,<-wh]),(by rw[hr,su,<-wh]),(BQ G hj (by rw[<-hr];assumption)),(by rw[hV,hx];exact(aCc _ _).symm),G,(by rw[cm];rfl)⟩,G,SA,λ_ h=>h.selR (F:=[_,_,_]) (F':=[_,_]) [1,2] cC Z⟩
  ·refine aR<|wq<|wn Z<|bU (R1:=((rc 253 3 g [sl A1 n1 c1, .int .u64 x, .int .u64 r])::(ru 5 A1 n1 c1 V)::R)) hiZ ?_;refine⟨_,Z,?_⟩;obtain rfl:j=shN (s.R/total*size):=JP G hj (by rw[<-hr];omega);refine⟨A1,c1,Z,?_⟩;rw[hV,hx,hr,hM,cm];rfl
 ·refine aI<|aD<|wq<|wm Z<|wm Z<|wm Z<|wy (gW au fe Z)<|wy (uI Z Z G)<|wy (aG Z)<|wy (yF 2 2 jr dP Z)<|dC (bE 0 Z Z Z dP Z Z Z Z (ak Z)) ?_;rintro _ _ rfl;refine aA<|aH ?_;refine uL (λ(j:Nat) (A1:AF) (n1:Nat) (c1:Nat) (V:AH) (x:Int) (r:Int) (M:Int)=>[(0,PG g)]) (λj A1 n1 c1 V x r M=>((rc 253 3 g [sl A1 n1 c1, .int .u64 x, .int .u64 r])::(ru 5 A1 n1 c1 V)::R)) (λj A1 n1 c1 V x r M=>(M=(s.N+s.R/total*low)*256^j)/\(r=(s.R/total*size)*256^j)/\(j<=shN (s.R/total*size))/\(V=beL (s.k+j) (M/4294967296))/\(x=M%4294967296)/\(n1=s.k+j)) (λj A1 n1 c1 V x r M=>(4-j)) ?_ ?_
  ·exact⟨0,A,s.k,c,beL s.k (s.N/4294967296),(s.N%4294967296)+((s.R/total)*low),(s.R/total)*size,(s.N+s.R/total*low),⟨(by rw[uz,zq]),(by rw[uz,zq]),(qg _),(by first|(rw[KD,qp,show(s.N+s.R/total*low)/4294967296=s.N/4294967296+1 by omega])|(rw[qp,show(s.N+s.R/total*low)/4294967296=s.N/4294967296 by omega])),G,(Z)⟩,KP⟩
  intro j A1 n1 c1 V x r M ⟨hM,hr,hj,hV,hx,cm⟩;have lf:=FI (s.R/total*size);have Ud:1<=r:=by rw[hr];exact CK G
  refine aD<|wq<|wm Z<|wy (aG Z)<|wy (yF 2 2 jr dP Z)<|wy (yL 0 fe Z Z Z)<|wL Z Z<|aA<|bA Z (λfh=> ?_) (λfh=> ?_)
  ·refine aI<|aD<|aH<|aD<|bF mixed<|wD 0 Z (aJ Z)<|wD 1 Z (aJ Z)<|wD 2 Z (aG Z)<|wD 3 Z (yF 0 0 jr dH Z)<|wD 4 Z (yL 0 af Z Z Z)<|wD 5 Z (aJ Z)<|wD 6 Z (aG Z)<|wD 7 Z (yF 1 1 jr dP Z)<|wD 8 Z (yL 0 fe Z Z Z)<|wD 9 Z (oW (k:=24) (m:=16777216) Z Z Z G Z) ?_;refine wD 10 Z (dU fe bn Z)<|wC 11 Z (bH .u8 [(x/16777216)%256] af zs5 Z Z Z) ?_;rintro _ _⟨io,rfl,rfl⟩;refine⟨.inr hrZ,?_⟩;refine wC 12 Z (aQ 2 Z af zb5 Z Z Z (rdr 0 Z)) ?_;rintro _ _⟨gg,ef,rfl,rfl⟩;refine⟨.inl cA,?_⟩;refine fO (v:=sl gg (n1+1) ef) Z<|wD 13 Z (aG Z)<|wD 14 Z (yF 0 0 jr dH Z)<|qD 15 Z cA (bE 1 Z Z Z dH Z Z Z Z (ak Z)) ?_;rintro _ _ rfl;refine⟨.inl cA,?_⟩;refine wN<|aK<|wm Z<|wm Z<|wy (aG Z)<|wy (yF 1 1 jr dP Z)<|wy (yL 1 fe Z Z Z)<|wy (vO (k:=8) (m:=256) Z Z Z G Z)<|wy (JG (m:=4294967296) 32 Z Z Z Z G Z)<|wy (aG Z)<|wy (yF 1 1 jr dP Z)<|dC (bE 1 Z Z Z dP Z Z Z Z (ak Z)) ?_;rintro _ _ rfl;refine aA<|aK<|wm Z<|wy (aG Z)<|wy (yF 2 2 jr dP Z)<|wy (yL 1 fe Z Z Z)<|wy (vO (k:=8) (m:=256) Z Z Z G Z)<|wy (aG Z)<|wy (yF 2 2 jr dP Z)<|dC (bE 1 Z Z Z dP Z Z Z Z (ak Z)) ?_;rintro _ _ rfl;refine aA ?_;exact⟨(j+1),gg,n1+1,ef,V++([(x/16777216)%256]),(x*256)%4294967296,r*256,(M*256),⟨(by rw[hM,su,<-wh]),(by rw[hr,su,<-wh]),(BQ G hj (by rw[<-hr];assumption)),(by rw[hV,hx];exact(aCc _ _).symm),G,(by rw[cm];rfl)⟩,G,SA,λ_ h=>h.selR (F:=[_,_,_]) (F':=[_,_]) [1,2] cC Z⟩
  ·refine aR<|wq<|wn Z<|bU (R1:=((rc 253 3 g [sl A1 n1 c1, .int .u64 x, .int .u64 r])::(ru 5 A1 n1 c1 V)::R)) hiZ ?_;refine⟨_,Z,?_⟩;obtain rfl:j=shN (s.R/total*size):=JP G hj (by rw[<-hr];omega);refine⟨A1,c1,Z,?_⟩;rw[hV,hx,hr,hM,cm];rfl
theorem aVp {s:CdS} (hn:n=s.k) (hk:s.k<=1000000):
  CT 135 #[PG g] B w0 ((rc 253 3 g [sl A n c, .int .u64 (s.N%4294967296), .int .u64 s.R])::(ru 5 A n c (beL s.k (s.N/4294967296)))::R) (λv R'=> ∃(A1:AF) (c1:Nat),v=sl A1 (s.k+4) c1/\R'=(ru 5 A1 (s.k+4) c1 (beL (s.k+4) s.N))::(rc 253 3 g [sl A n c, .int .u64 (s.N%4294967296), .int .u64 s.R])::(ru 5 A n c (beL s.k (s.N/4294967296)))::R):=by
 subst hn;have zr:=kE s.k (s.N/4294967296);refine fn1 Tryz.func135 Z Z Z ?_;refine wq<|wn Z<|aD<|wq<|wm Z<|wy (kZ underlying181 Z Z)<|aA<|aP Z<|aI<|wq<|wm Z ?_;refine wy (aG Z)<|wy (yF 0 0 jr dH Z)<|wy (yL 0 af Z Z Z)<|wa (aC aOd Z (Ct.fresh (λw hw=>qN ((rdr 1 Z) w hw) (by rw[kE];exact hk)))) ?_;rintro _ _⟨_,rfl,cg,ce,rfl,rfl⟩;refine wn Z<|aD<|wq<|wm Z<|aA<|aH<|lT 5<|eB<|wq<|wy (Yl.t (eZ Z Z) cC)<|aA<|aD ?_;refine dS Z<|aI<|aD<|aH<|wq<|wm Z<|wn Z<|aK<|wm Z<|wm Z<|wy (aG Z)<|wy (yF 1 1 jr dP Z)<|wy (yL 1 fe Z Z Z) ?_;refine wm Z<|wy (Yl.is (cK Z Z) Z)<|wy (Yl.is (jJ Z Z) Z)<|wy (Yl.is (mE Z Z) Z)<|wy (oW (k:=24) (m:=16777216) Z Z Z G Z)<|wy (dU fe bn Z)<|wa (bH .u8 [((s.N%4294967296)/16777216)%256] af zs5 Z Z Z) ?_;rintro _ _⟨fd,rfl,rfl⟩;refine wa (aQ 1 Z af zb5 Z Z Z (rdr 0 Z)) ?_;rintro _ _⟨fm,kx,rfl,rfl⟩;refine bC (v:=sl fm (((beL s.k (s.N/4294967296)).length)+1) kx) Z<|wn Z<|aK<|wy (Yl.is (cK Z Z) Z)<|wm Z<|aA<|eB<|wq<|wy (Yl.t (eZ Z Z) cC)<|aA<|aD<|dS Z<|aI ?_;refine aD<|aH<|wq<|wm Z<|wn Z<|aK<|wm Z<|wm Z<|wy (aG Z)<|wy (yF 1 1 jr dP Z)<|wy (yL 2 fe Z Z Z)<|wm Z<|wy (Yl.is (cK Z Z) Z) ?_;refine wy (Yl.is (jJ Z Z) Z)<|wy (Yl.is (mE Z Z) Z)<|wy (oW (k:=16) (m:=65536) Z Z Z G Z)<|wy (dU fe bn Z)<|wa (bH .u8 [((s.N%4294967296)/65536)%256] af zs5 Z Z Z) ?_;rintro _ _⟨xr,rfl,rfl⟩;refine wa (aQ 2 Z af zb5 Z Z Z (rdr 0 Z)) ?_;rintro _ _⟨dv,br,rfl,rfl⟩;refine bC (v:=sl dv ((((beL s.k (s.N/4294967296)).length)+1)+1) br) Z<|wn Z<|aK<|wy (Yl.is (cK Z Z) Z)<|wm Z<|aA<|eB<|wq<|wy (Yl.t (eZ Z Z) cC)<|aA<|aD<|dS Z<|aI ?_;refine aD<|aH<|wq<|wm Z<|wn Z<|aK<|wm Z<|wm Z<|wy (aG Z)<|wy (yF 1 1 jr dP Z)<|wy (yL 3 fe Z Z Z)<|wm Z<|wy (Yl.is (cK Z Z) Z) ?_;refine wy (Yl.is (jJ Z Z) Z)<|wy (Yl.is (mE Z Z) Z)<|wy (oW (k:=8) (m:=256) Z Z Z G Z)<|wy (dU fe bn Z)<|wa (bH .u8 [((s.N%4294967296)/256)%256] af zs5 Z Z Z) ?_;rintro _ _⟨iu,rfl,rfl⟩;refine wa (aQ 3 Z af zb5 Z Z Z (rdr 0 Z)) ?_;rintro _ _⟨fa,fc,rfl,rfl⟩;refine bC (v:=sl fa (((((beL s.k (s.N/4294967296)).length)+1)+1)+1) fc) Z<|wn Z<|aK<|wy (Yl.is (cK Z Z) Z)<|wm Z<|aA<|eB<|wq<|wy (Yl.t (eZ Z Z) cC)<|aA<|aD<|dS Z<|aI ?_;refine aD<|aH<|wq<|wm Z<|wn Z<|aK<|wm Z<|wm Z<|wy (aG Z)<|wy (yF 1 1 jr dP Z)<|wy (yL 4 fe Z Z Z)<|wm Z<|wy (Yl.is (cK Z Z) Z) ?_;refine wy (Yl.is (jJ Z Z) Z)<|wy (Yl.is (mE Z Z) Z)<|wy (oW (k:=0) (m:=1) Z Z Z G Z)<|wy (dU fe bn Z)<|wa (bH .u8 [((s.N%4294967296)/1)%256] af zs5 Z Z Z) ?_;rintro _ _⟨j5,rfl,rfl⟩;refine wa (aQ 4 Z af zb5 Z Z Z (rdr 0 Z)) ?_;rintro _ _⟨dj,dp,rfl,rfl⟩;refine bC (v:=sl dj ((((((beL s.k (s.N/4294967296)).length)+1)+1)+1)+1) dp) Z<|wn Z<|aK<|wy (Yl.is (cK Z Z) Z)<|wm Z<|aA<|eB<|wq<|wy (Yl.f (eZ Z Z) cC)<|aA<|aD<|aP Z<|aR ?_;refine wq<|wm Z<|wn Z<|aT [4,5,6] 7 cC Z ?_;refine⟨_,Z,?_⟩;have e:(beL s.k (s.N/4294967296)).length+1+1+1+1=s.k+4:=G
 rw[e,<-bCw s.k s.N _ rfl];exact⟨_,_,Z,Z⟩
theorem IZ:
  CF 212 #[] w (λv R'=> ∃g A c,v=PG g/\R'=[(rc 262 2 g [sl A (cd0.k+4) c, .int .u64 cd0.R]),(ru 5 A (cd0.k+4) c (beL (cd0.k+4) cd0.N))]):=by
 refine fn1 Tryz.func212 Z Z Z ?_;refine wq<|wn Z<|wq<|wa (dM af zb5 Z Z) ?_;rintro _ _⟨aq,rfl,rfl⟩;refine bC (v:=sl (GG aq) ((4:Int).toNat) ((4:Int).toNat)) Z<|wy (gX (v:= .agg #[sl (GG aq) ((4:Int).toNat) ((4:Int).toNat), .int .u64 4294967295]) Z (λw=>cA))<|wa (cB (sz:=2) rfl rfl) ?_;rintro _ _⟨cy,rfl,rfl⟩;refine wn Z<|bU (R1:=[(rc 262 2 cy [sl (GG aq) ((4:Int).toNat) ((4:Int).toNat), .int .u64 4294967295]),(ru 5 (GG aq) ((4:Int).toNat) ((4:Int).toNat) (List.replicate ((4:Int).toNat) (0:Int)))]) hiZ ?_;exact⟨_,Z,_,_,_,Z,Z⟩
theorem aYb {x0:Int} (hn:n=b.length) (hb:aN b) (hL:b.length<=1000010) (hx:0<=x0/\x0<1099511627776):
  CT 260 #[PG g, .int .u64 x0] B w0 ((rc 262 2 g [sl A n c, .int .u64 r])::(ru 5 A n c b)::R) (λv R'=>v= .tuple #[]/\R'=(rc 262 2 g [sl A n c, .int .u64 r])::(ru 5 A n c (EO b x0))::R):=by
 subst hn;refine fn0 Tryz.func260 Z Z Z ?_;refine wq<|wm Z<|wy (aG Z)<|wy (yF 0 0 xg dH Z)<|wy (yL 0 af Z Z Z)<|wy (aL af Z)<|wS Z Z<|wn Z<|aH ?_;refine gN (λ(i:Int) (x:Int) (V:AH)=>[(0,PG g),(1, .int .u64 x),(4,I i)]) (λi x V=>((rc 262 2 g [sl A b.length c, .int .u64 r])::(ru 5 A b.length c V)::R)) (λi x V=>(-1<=i)/\(i<b.length)/\(0<=x/\x<1099511627776)/\(aCo b x0 V i x)) (λi x V=>(i+1).toNat) ?_ ?_
 ·exact⟨(b.length:Int)-1,x0,b,⟨G,G,G,(TZ hb Z)⟩,KP⟩
 intro i x V ⟨bb,gd,hx0,hI⟩;have ld:=hI.1;have hVb:=hI.2.1.rd i;refine aD<|wq<|wm Z<|wy (iD Z Z)<|wm Z<|bV 3 [(0,PG g),(1, .int .u64 x),(4,I i),(16, .bool (decide ((0<=i)/\(0<x))))] ((rc 262 2 g [sl A b.length c, .int .u64 r])::(ru 5 A b.length c V)::R) ?_ ?_
 ·refine bN 13 Z (λba=> ?_) (λba=> ?_)
  ·refine aB Z Z<|wm Z<|aB Z Z<|wy (dA Z Z)<|wy (aS Z Z)<|aA ?_;exact KP
  ·refine aM Z Z Z Z<|aM Z Z Z Z<|wy (aO Z Z)<|aA ?_;exact KP
 refine aA<|bA Z (λcj=> ?_) (λcj=> ?_)
 ·refine aI<|aD<|aH<|wq<|wm Z<|wm Z<|wy (aG Z)<|wy (yF 0 0 xg dH Z)<|wy (yL 0 af Z Z Z)<|wm Z<|wy (aF af sz5 Z Z (rdr 1 Z))<|wy (aU bn Z Z (rdr 1 Z))<|wy (gW bn fe Z)<|wy (aPx Z Z G) ?_;refine wn Z<|wq<|wm Z<|wy (aG Z)<|wy (yF 0 0 xg dH Z)<|wy (yL 0 af Z Z Z)<|wm Z<|wm Z<|wy (dU fe bn Z)<|wy (aF af sz5 Z Z (rdr 1 Z))<|dC (bG 1 Z sz5 Z Z) ?_;rintro _ _ rfl;refine aA<|aK<|wm Z<|wy (oW (k:=8) (m:=256) Z Z Z G Z)<|wn Z<|aK<|wm Z<|wS Z Z<|wn Z ?_;exact⟨i-1,(x+(rd V i))/256,upd V i ((x+(rd V i))%256),⟨G,G,G,(hI.step G G Z Z)⟩,G,KP⟩
 ·refine aR ?_
  skip
  obtain rfl:=hI.stop G;exact⟨Z,Z⟩
theorem FJ {s:CdS} (hn:n=s.k+4) (hc:XE s) (yr:sV low size total) (hk:s.k<=1000000):
  CT 213 #[PG g,I low,I size,I total] B w0 ((rc 262 2 g [sl A n c, .int .u64 s.R])::(ru 5 A n c (beL (s.k+4) s.N))::R) (λv R'=> ∃(A1:AF) (c1:Nat),v=bt/\R'=(rc 262 2 g [sl A1 ((fB s low size total).k+4) c1, .int .u64 ((fB s low size total).R)])::(ru 5 A1 ((fB s low size total).k+4) c1 (beL ((fB s low size total).k+4) (fB s low size total).N))::R):=by
 subst hn;obtain⟨r0,r1,n0,nr⟩:=hc;have Hh:=yr;obtain⟨s1,s2,s3,s4⟩:=Hh;obtain⟨f1,f2,f3,f4,f5⟩:=nY yr ⟨r0,r1⟩;refine fn1 Tryz.func213 Z Z Z ?_;refine wq<|wn Z<|aD<|wq<|wm Z<|wm Z<|wm Z<|wa (aC bKu Z (Ct.quiet (λw hw=>aLt yr))) ?_;rintro _ _⟨rfl,rfl⟩;refine wy (dW Z)<|aA<|aP Z<|aI<|wq<|wm Z<|wy (aG Z)<|wy (yF 1 1 xg dP Z)<|wy (yL 0 fe Z Z Z)<|wm Z<|wy (gW au fe Z)<|wy (ET Z Z G G)<|wn Z ?_;refine wq<|wm Z<|wm Z<|wm Z<|wy (gW au fe Z)<|wy (uI Z Z G)<|wa (aC bKo Z ((aYb (by rw[kE]) (yX _ _) (by rw[kE];omega) G))) ?_;rintro _ _⟨rfl,rfl⟩;refine aA<|wq<|wm Z<|wm Z<|wm Z<|wy (gW au fe Z)<|wy (uI Z Z G)<|wy (aG Z)<|wy (yF 1 1 xg dP Z)<|dC (bE 0 Z Z Z dP Z Z Z Z (ak Z)) ?_;rintro _ _ rfl;refine aA<|aD<|aH ?_;refine JI (λ(j:Nat) (A1:AF) (n1:Nat) (c1:Nat) (V:AH) (r:Int) (M:Int)=>[(0,PG g)]) (λj A1 n1 c1 V r M=>((rc 262 2 g [sl A1 n1 c1, .int .u64 r])::(ru 5 A1 n1 c1 V)::R)) (λj A1 n1 c1 V r M=>(M=(s.N+s.R/total*low)*256^j)/\(r=(s.R/total*size)*256^j)/\(j<=shN (s.R/total*size))/\(V=beL (s.k+j+4) M)/\(n1=s.k+j+4)) (λj A1 n1 c1 V r M=>(4-j)) ?_ ?_
 ·exact⟨0,A,s.k+4,c,EO (beL (s.k+4) s.N) ((s.R/total)*low),(s.R/total)*size,(s.N+s.R/total*low),⟨(by rw[uz,zq]),(by rw[uz,zq]),(qg _),(by rw[KD]),(Z)⟩,KP⟩
 intro j A1 n1 c1 V r M ⟨hM,hr,hj,hV,cm⟩;have lf:=FI (s.R/total*size);have Ud:1<=r:=by rw[hr];exact CK G
 refine aD<|wq<|wm Z<|wy (aG Z)<|wy (yF 1 1 xg dP Z)<|wy (yL 0 fe Z Z Z)<|wL Z Z<|aA<|bA Z (λba=> ?_) (λba=> ?_)
 ·refine aI<|aH<|wq<|wm Z<|wm Z<|wy (aG Z)<|wy (yF 0 0 xg dH Z)<|wy (yL 0 af Z Z Z)<|wa (bH .u8 [0] af zs5 Z Z Z) ?_;rintro _ _⟨cy,rfl,rfl⟩;refine wa (aQ 2 Z af zb5 Z Z Z (rdr 0 Z)) ?_;rintro _ _⟨en,es,rfl,rfl⟩;refine bC (v:=sl en (n1+1) es) Z<|wy (aG Z)<|wy (yF 0 0 xg dH Z)<|dC (bE 1 Z Z Z dH Z Z Z Z (ak Z)) ?_;rintro _ _ rfl;refine aA<|aK<|wm Z<|wm Z<|wy (aG Z)<|wy (yF 1 1 xg dP Z)<|wy (yL 1 fe Z Z Z)<|wy (vO (k:=8) (m:=256) Z Z Z G Z)<|wy (aG Z)<|wy (yF 1 1 xg dP Z)<|dC (bE 1 Z Z Z dP Z Z Z Z (ak Z)) ?_;rintro _ _ rfl;refine aA ?_;exact⟨(j+1),en,n1+1,es,V++([0]),r*256,(M*256),⟨(by rw[hM,su,<-wh]),(by rw[hr,su,<-wh]),(BQ G hj (by rw[<-hr];assumption)),(by rw[hV,show s.k+(j+1)+4=s.k+j+4+1 by omega,aPf]),(by rw[cm];omega)⟩,G,SA,λ_ h=>h.selR (F:=[_,_,_]) (F':=[_,_]) [1,2] cC Z⟩
 ·refine aR<|wq<|wn Z<|bU (R1:=((rc 262 2 g [sl A1 n1 c1, .int .u64 r])::(ru 5 A1 n1 c1 V)::R)) hiZ ?_;refine⟨_,Z,?_⟩;obtain rfl:j=shN (s.R/total*size):=JP G hj (by rw[<-hr];omega);refine⟨A1,c1,Z,?_⟩;rw[hV,hr,hM,cm];rfl
variable {w w0:World} {ew o cls x i:Int} {B g g0 g1 g2 c:Nat} {R:List Row} {A:AF} {C l:AH}
abbrev syb (b:AH):AH:=(bS 0 (bK aY b))++[257]
theorem AC:
  CF 206 #[I ew] w (λv R'=>v=I (iP ew)):=by
 refine fn1 Tryz.func206 Z Z Z ?_;refine wq<|wn Z<|aD<|aH<|wq<|wm Z<|wL Z Z<|wn Z<|bA Z (λba=> ?_) (λba=> ?_)
 ·refine wq<|wn Z<|bQ ?_;refine⟨_,Z,?_⟩;exact bu (Value.int .i64) (by unfold iP;rw[di cF])
 ·refine wq<|wm Z<|wL Z Z<|wn Z<|bA Z (λcj=> ?_) (λcj=> ?_)
  ·refine wq<|wn Z<|bQ ?_;refine⟨_,Z,?_⟩;exact bu (Value.int .i64) (by unfold iP;rw[df cF,di cF])
  ·refine aI<|wq<|wn Z<|bQ ?_;refine⟨_,Z,?_⟩;exact bu (Value.int .i64) (by unfold iP;rw[df cF,df cF])
theorem DK (ho:o=0\/o=1):
  CF 126 #[I o] w (λv R'=>v=bt):=by
 refine fn1 Tryz.func126 Z Z Z ?_;refine wq<|wn Z<|wq<|wm Z<|wy (fD Z Z)<|wm Z<|bV 3 [(8, .bool (decide ((o=0)\/(o=1))))] [] ?_ ?_
 ·refine bN 5 Z (λba=> ?_) (λba=> ?_)
  ·refine aM Z Z Z Z<|aM Z Z Z Z<|wy (aS Z Z)<|aA ?_;exact KP
  ·refine aB Z Z<|wm Z<|aB Z Z<|wy (fD Z Z)<|wy (aO Z Z)<|aA ?_;exact KP
 refine mW 8 Z (ho)<|wn Z<|bQ ?_;refine⟨_,Z,?_⟩;rfl
theorem SF:
  CF 127 #[I o] w (λv R'=> ∃(g g0 g1 g2:Nat) (A0 A1 A2:AF) (c0 c1 c2:Nat),v=PG g/\R'=[(rc 250 5 g [PG g0,PG g1,PG g2,I 0,I o]),(rc 256 2 g0 [sl A0 258 c0,I 258]),(ri 3 A0 258 c0 uY),(rc 256 2 g1 [sl A1 258 c1,I 258]),(ri 3 A1 258 c1 uY),(rc 256 2 g2 [sl A2 258 c2,I 258]),(ri 3 A2 258 c2 uY)]):=by
 refine fn1 Tryz.func127 Z Z Z ?_;refine wq<|wn Z<|wq<|wm Z<|wy (gX (v:= .agg #[.pointer none, .pointer none, .pointer none,I 0,I o]) Z (λw=>cA))<|wa (cB (sz:=5) rfl rfl) ?_;rintro _ _⟨aq,rfl,rfl⟩;refine wn Z<|aD<|wq<|wm Z<|aA<|aH<|lT 4<|eB<|wq<|wy (Yl.t (eZ Z Z) cC)<|aA<|aD ?_;refine dS Z<|aI<|aD<|aH<|wq<|wm Z<|wn Z<|bF mixed<|wD 0 Z (aJ Z)<|wD 1 Z (aJ Z)<|wD 3 Z (aG Z)<|wD 4 Z (yF 0 0 sw QV Z)<|wC 2 Z (aC aWe Z (Ct.fresh (λw hw=>wV))) ?_;rintro _ _⟨_,rfl,cy,en,es,rfl,rfl⟩;refine⟨.inr λ_ h=>h.right (R':=[_,_]),?_⟩;refine wD 5 Z (dK (q:=0) (rdr 2 Z) Cg BM Z Z (ak Z) cC cC Z)<|qD 6 Z cA (bE 2 Z Z Z BM Z Z Z Z (ak Z)) ?_;rintro _ _ rfl;refine⟨.inl cA,?_⟩;refine wN<|aK<|wy (Yl.is (cK Z Z) Z)<|wm Z<|aA<|eB<|wq<|wy (Yl.t (eZ Z Z) cC)<|aA<|aD<|dS Z<|aI<|aD<|aH ?_;refine wq<|wm Z<|wn Z<|bF mixed<|wD 0 Z (aJ Z)<|wD 1 Z (aJ Z)<|wD 3 Z (aG Z)<|wD 4 Z (yF 0 0 sw QV Z)<|wC 2 Z (aC aWe Z (Ct.fresh (λw hw=>wV))) ?_;rintro _ _⟨_,rfl,io,gg,ef,rfl,rfl⟩;refine⟨.inr λ_ h=>h.right (R':=[_,_]),?_⟩;refine wD 5 Z (dK (q:=1) (rdr 4 Z) Cg BM Z Z (ak Z) cC cC Z)<|qD 6 Z cA (bE 4 Z Z Z BM Z Z Z Z (ak Z)) ?_;rintro _ _ rfl;refine⟨.inl cA,?_⟩;refine wN<|aK<|wy (Yl.is (cK Z Z) Z)<|wm Z<|aA<|eB<|wq<|wy (Yl.t (eZ Z Z) cC)<|aA<|aD<|dS Z<|aI<|aD<|aH ?_;refine wq<|wm Z<|wn Z<|bF mixed<|wD 0 Z (aJ Z)<|wD 1 Z (aJ Z)<|wD 3 Z (aG Z)<|wD 4 Z (yF 0 0 sw QV Z)<|wC 2 Z (aC aWe Z (Ct.fresh (λw hw=>wV))) ?_;rintro _ _⟨_,rfl,j4,fz,ci,rfl,rfl⟩;refine⟨.inr λ_ h=>h.right (R':=[_,_]),?_⟩;refine wD 5 Z (dK (q:=2) (rdr 6 Z) Cg BM Z Z (ak Z) cC cC Z)<|qD 6 Z cA (bE 6 Z Z Z BM Z Z Z Z (ak Z)) ?_;rintro _ _ rfl;refine⟨.inl cA,?_⟩;refine wN<|aK<|wy (Yl.is (cK Z Z) Z)<|wm Z<|aA<|eB<|wq<|wy (Yl.f (eZ Z Z) cC)<|aA<|aD<|aP Z<|aR<|wq ?_;refine wm Z<|wn Z<|aT [6,4,5,2,3,0,1] 99 cC Z ?_;exact⟨_,Z,_,_,_,_,_,_,_,_,_,_,Z,Z⟩
theorem oL (hk:cls*o=0):
  CT 130 #[PG g] B w0 ((rc 250 5 g [PG g0,PG g1,PG g2,I cls,I o])::R) (λv R'=>v=PG g0/\R'=(rc 250 5 g [PG g0,PG g1,PG g2,I cls,I o])::R):=by
 refine fn1 Im Z Z Z ?_;refine wq<|wn Z<|aD<|bF mixed<|wD 0 Z (aJ Z)<|wD 1 Z (aJ Z)<|wD 2 Z (aG Z)<|wD 3 Z (yF 3 3 sw sz3 Z)<|wD 4 Z (yL 0 au Z Z Z)<|wD 5 Z (aJ Z)<|wD 6 Z (aG Z)<|wD 7 Z (yF 4 4 sw sz3 Z)<|wD 8 Z (yL 0 au Z Z Z) ?_;refine wD 9 Z (Yl.is (jJ Z Z) (by rw[hk])) ?_;refine wD 10 Z (aG Z)<|wD 11 Z (yF 0 0 sw QV Z)<|wD 12 Z (dK (q:=0) (rdr 0 Z) Cg BM Z Z (ak Z) cC cC Z)<|wD 13 Z (yL 0 Ee Z Z Z)<|wD 14 Z (bB Z)<|wN<|bU (R1:=((rc 250 5 g [PG g0,PG g1,PG g2,I cls,I o])::R)) hiZ ?_;exact⟨_,Z,Z,Z⟩
theorem oK (hk:cls*o=1):
  CT 130 #[PG g] B w0 ((rc 250 5 g [PG g0,PG g1,PG g2,I cls,I o])::R) (λv R'=>v=PG g1/\R'=(rc 250 5 g [PG g0,PG g1,PG g2,I cls,I o])::R):=by
 refine fn1 Im Z Z Z ?_;refine wq<|wn Z<|aD<|bF mixed<|wD 0 Z (aJ Z)<|wD 1 Z (aJ Z)<|wD 2 Z (aG Z)<|wD 3 Z (yF 3 3 sw sz3 Z)<|wD 4 Z (yL 0 au Z Z Z)<|wD 5 Z (aJ Z)<|wD 6 Z (aG Z)<|wD 7 Z (yF 4 4 sw sz3 Z)<|wD 8 Z (yL 0 au Z Z Z) ?_;refine wD 9 Z (Yl.is (jJ Z Z) (by rw[hk])) ?_;refine wD 10 Z (aG Z)<|wD 11 Z (yF 0 0 sw QV Z)<|wD 12 Z (dK (q:=1) (rdr 0 Z) Cg BM Z Z (ak Z) cC cC Z)<|wD 13 Z (yL 0 Ee Z Z Z)<|wD 14 Z (bB Z)<|wN<|bU (R1:=((rc 250 5 g [PG g0,PG g1,PG g2,I cls,I o])::R)) hiZ ?_;exact⟨_,Z,Z,Z⟩
theorem oJ (hk:cls*o=2):
  CT 130 #[PG g] B w0 ((rc 250 5 g [PG g0,PG g1,PG g2,I cls,I o])::R) (λv R'=>v=PG g2/\R'=(rc 250 5 g [PG g0,PG g1,PG g2,I cls,I o])::R):=by
 refine fn1 Im Z Z Z ?_;refine wq<|wn Z<|aD<|bF mixed<|wD 0 Z (aJ Z)<|wD 1 Z (aJ Z)<|wD 2 Z (aG Z)<|wD 3 Z (yF 3 3 sw sz3 Z)<|wD 4 Z (yL 0 au Z Z Z)<|wD 5 Z (aJ Z)<|wD 6 Z (aG Z)<|wD 7 Z (yF 4 4 sw sz3 Z)<|wD 8 Z (yL 0 au Z Z Z) ?_;refine wD 9 Z (Yl.is (jJ Z Z) (by rw[hk])) ?_;refine wD 10 Z (aG Z)<|wD 11 Z (yF 0 0 sw QV Z)<|wD 12 Z (dK (q:=2) (rdr 0 Z) Cg BM Z Z (ak Z) cC cC Z)<|wD 13 Z (yL 0 Ee Z Z Z)<|wD 14 Z (bB Z)<|wN<|bU (R1:=((rc 250 5 g [PG g0,PG g1,PG g2,I cls,I o])::R)) hiZ ?_;exact⟨_,Z,Z,Z⟩
theorem LK (hk:cls*o=0) (hs:0<=ew/\ew<C.length) (dr:lN C):
  CT 134 #[PG g,I ew] B w0 ((rc 250 5 g [PG g0,PG g1,PG g2,I cls,I o])::(rc 256 2 g0 [sl A 258 c,I (aV C)])::(ri 3 A 258 c C)::R) (λv R'=>v= .tuple #[]/\R'=(rc 250 5 g [PG g0,PG g1,PG g2,I (iP ew),I o])::(rc 256 2 g0 [sl A 258 c,I (aV (kG C ew))])::(ri 3 A 258 c (kG C ew))::R):=by
 have kt:=dr.1;refine fn0 Io Z Z Z ?_;refine wq<|wm Z<|wa (aC nR Z (Ct.at 0 Z (oL cF))) ?_;rintro _ _⟨rfl,rfl⟩;refine wm Z<|wa (aC aWd Z (Ct.pick [1,2,0] 3 cC Z (wU (by rw[kt]) hs dr))) ?_;rintro _ _⟨rfl,rfl⟩;refine bT (R1:=((rc 250 5 g [PG g0,PG g1,PG g2,I cls,I o])::(rc 256 2 g0 [sl A 258 c,I (aV (kG C ew))])::(ri 3 A 258 c (kG C ew))::R)) (Sub.refl _) (λ_ h=>h.selR (F:=[_,_,_]) (F':=[_,_,_]) [2,0,1] cC Z)<|aA<|aK<|wm Z<|wm Z<|wa (aC aWc Z (Ct.quiet (λw hw=>AC))) ?_;rintro _ _⟨rfl,rfl⟩;refine wy (aG Z)<|wy (yF 3 3 sw sz3 Z)<|dC (bE 0 Z Z Z sz3 Z Z Z Z (ak Z)) ?_;rintro _ _ rfl;refine aA ?_
 skip
 exact⟨Z,Z⟩
theorem LJ (hk:cls*o=1) (hs:0<=ew/\ew<C.length) (dr:lN C):
  CT 134 #[PG g,I ew] B w0 ((rc 250 5 g [PG g0,PG g1,PG g2,I cls,I o])::(rc 256 2 g1 [sl A 258 c,I (aV C)])::(ri 3 A 258 c C)::R) (λv R'=>v= .tuple #[]/\R'=(rc 250 5 g [PG g0,PG g1,PG g2,I (iP ew),I o])::(rc 256 2 g1 [sl A 258 c,I (aV (kG C ew))])::(ri 3 A 258 c (kG C ew))::R):=by
 have kt:=dr.1;refine fn0 Io Z Z Z ?_;refine wq<|wm Z<|wa (aC nR Z (Ct.at 0 Z (oK cF))) ?_;rintro _ _⟨rfl,rfl⟩;refine wm Z<|wa (aC aWd Z (Ct.pick [1,2,0] 3 cC Z (wU (by rw[kt]) hs dr))) ?_;rintro _ _⟨rfl,rfl⟩;refine bT (R1:=((rc 250 5 g [PG g0,PG g1,PG g2,I cls,I o])::(rc 256 2 g1 [sl A 258 c,I (aV (kG C ew))])::(ri 3 A 258 c (kG C ew))::R)) (Sub.refl _) (λ_ h=>h.selR (F:=[_,_,_]) (F':=[_,_,_]) [2,0,1] cC Z)<|aA<|aK<|wm Z<|wm Z<|wa (aC aWc Z (Ct.quiet (λw hw=>AC))) ?_;rintro _ _⟨rfl,rfl⟩;refine wy (aG Z)<|wy (yF 3 3 sw sz3 Z)<|dC (bE 0 Z Z Z sz3 Z Z Z Z (ak Z)) ?_;rintro _ _ rfl;refine aA ?_
 skip
 exact⟨Z,Z⟩
theorem LH (hk:cls*o=2) (hs:0<=ew/\ew<C.length) (dr:lN C):
  CT 134 #[PG g,I ew] B w0 ((rc 250 5 g [PG g0,PG g1,PG g2,I cls,I o])::(rc 256 2 g2 [sl A 258 c,I (aV C)])::(ri 3 A 258 c C)::R) (λv R'=>v= .tuple #[]/\R'=(rc 250 5 g [PG g0,PG g1,PG g2,I (iP ew),I o])::(rc 256 2 g2 [sl A 258 c,I (aV (kG C ew))])::(ri 3 A 258 c (kG C ew))::R):=by
 have kt:=dr.1;refine fn0 Io Z Z Z ?_;refine wq<|wm Z<|wa (aC nR Z (Ct.at 0 Z (oJ cF))) ?_;rintro _ _⟨rfl,rfl⟩;refine wm Z<|wa (aC aWd Z (Ct.pick [1,2,0] 3 cC Z (wU (by rw[kt]) hs dr))) ?_;rintro _ _⟨rfl,rfl⟩;refine bT (R1:=((rc 250 5 g [PG g0,PG g1,PG g2,I cls,I o])::(rc 256 2 g2 [sl A 258 c,I (aV (kG C ew))])::(ri 3 A 258 c (kG C ew))::R)) (Sub.refl _) (λ_ h=>h.selR (F:=[_,_,_]) (F':=[_,_,_]) [2,0,1] cC Z)<|aA<|aK<|wm Z<|wm Z<|wa (aC aWc Z (Ct.quiet (λw hw=>AC))) ?_;rintro _ _⟨rfl,rfl⟩;refine wy (aG Z)<|wy (yF 3 3 sw sz3 Z)<|dC (bE 0 Z Z Z sz3 Z Z Z Z (ak Z)) ?_;rintro _ _ rfl;refine aA ?_
 skip
 exact⟨Z,Z⟩
theorem UQ {s:PpS} (h:s.cls*o=0):lJ o s x=⟨kG s.c0 x,s.c1,s.c2,iP x,qV s.cd s.c0 x⟩:=by
 unfold lJ aLi wB;rw[di h,di h]
theorem UO {s:PpS} (h:s.cls*o=1):lJ o s x=⟨s.c0,kG s.c1 x,s.c2,iP x,qV s.cd s.c1 x⟩:=by
 unfold lJ aLi wB;rw[df G,di h,df G,di h]
theorem UN {s:PpS} (h:s.cls*o=2):lJ o s x=⟨s.c0,s.c1,kG s.c2 x,iP x,qV s.cd s.c2 x⟩:=by
 unfold lJ aLi wB;rw[df G,df G,df G,df G]
theorem mZ {s t:PpS} (h:s=encP o (l.take i.toNat)) (h0:0<=i) (hi:i<l.length) (ht:lJ o s (rd l i)=t):t=encP o (l.take (i+1).toNat):=by
 rw[dJ h0 hi,aOa,<-h,ht]
theorem WE {s:PpS} (hl:aHb l) (h:s=encP o (l.take i.toNat)):QG s/\s.cd.k<=2*l.length:=by
 have:=DZ (o:=o) (l:=l.take i.toNat) (λx hx=>hl x (lc hx));rw[<-h,ax] at this;exact⟨this.1,G⟩
theorem OJ {s:PpS} (h:QG s) (ho:o=0\/o=1):s.cls*o=0\/s.cls*o=1\/s.cls*o=2:=by
 have:=h.2.1;rcases ho with rfl|rfl<;>omega
theorem tL {ki:AF} {qe kj:Nat} {b:AH} (ie:Rd w ki qe kj 1 (ints .u8 b)) (cx:aN b) (ho:o=0\/o=1) (hN:b.length<=100000):
  CF 75 #[sl ki qe kj,I o] w (λv R'=> ∃A c,v= .tuple #[sl A (bR b o).length c,bt]/\R'=[(ru 5 A ((bR b o).length) c (bR b o))]):=by
 obtain rfl:=ie.lenI;refine fn2 Tryz.func75 Z Z Z ?_;have v7:=ie.max;have m5:=qU cx;have lf:=FH b;have Hj:=pI (bK aY b) 0;rw[iJ] at Hj;have vq:(bJ b).length=(bS 0 (bK aY b)).length+1:=by unfold bJ;rw[ah];rfl
 refine wq<|wg Z<|wn Z<|aD<|wq<|wm Z<|wa (aC bEv Z (Ct.quiet (λw hw=>DK ho))) ?_;rintro _ _⟨rfl,rfl⟩;refine wy (dW Z)<|wm Z<|aB Z Z<|wm Z<|aB Z Z<|wy (aL af Z)<|aB Z Z<|wy (Yl.f (dA Z Z))<|wy (aO Z Z)<|aA<|aP Z<|aI<|wq<|wm Z ?_;refine wa (aC bEu Z (Ct.fresh (λw hw=>SF))) ?_;rintro _ _⟨_,rfl,aq,cy,fi,fd,fm,gn,gg,ef,mu,br,rfl,rfl⟩;refine wn Z<|wq<|wa (aC bMo Z (Ct.fresh (λw hw=>NA))) ?_;rintro _ _⟨_,rfl,ia,na,db,rfl,rfl⟩;refine wn Z<|aD<|wq<|wm Z<|wa (aC bOk Z (Ct.fresh (λw hw=>aMi ((ie.c _) w hw) cx G))) ?_;rintro _ _⟨_,rfl,dy,ee,rfl,rfl⟩;refine wa (aC bMn Z (Ct.fresh (λw hw=>aKu ((rdr 0 Z) w hw) (oN cx) (by rw[iJ];omega)))) ?_;rintro _ _⟨_,rfl,dj,dp,rfl,rfl⟩;refine wa (bH .i64 [257] aa zs3 Z Z Z) ?_;rintro _ _⟨gi,rfl,rfl⟩;refine wa (aQ 1 Z aa zb3 Z Z Z (rdr 0 Z)) ?_;rintro _ _⟨gs,gw,rfl,rfl⟩;refine bC (v:=sl gs (((bS 0 (bK aY b)).length)+1) gw) Z<|wy (aL aa Z)<|wm Z<|aA<|aH ?_;refine JJ (λ(i:Int) (Aw:AF) (cw:Nat) (Sx:PpS)=>[(6,PG aq),(7,PG ia),(28,sl gs (((bS 0 (bK aY b)).length)+1) gw),(29,I ((((bS 0 (bK aY b)).length)+1:Nat):Int)),(30,I i)]) (λi Aw cw Sx=>[(ri 3 (GG gi) 1 1 ([257])),(ri 3 gs (((bS 0 (bK aY b)).length)+1) gw (syb b)),(ru 5 dy ((b).length) ee (bK aY b)),(rc 253 3 ia [sl Aw Sx.cd.k cw, .int .u64 (Sx.cd.N%4294967296), .int .u64 Sx.cd.R]),(ru 5 Aw Sx.cd.k cw (beL Sx.cd.k (Sx.cd.N/4294967296))),(rc 250 5 aq [PG cy,PG fi,PG fd,I Sx.cls,I o]),(rc 256 2 cy [sl fm 258 ef,I (aV Sx.c0)]),(ri 3 fm 258 ef Sx.c0),(rc 256 2 fi [sl gn 258 mu,I (aV Sx.c1)]),(ri 3 gn 258 mu Sx.c1),(rc 256 2 fd [sl gg 258 br,I (aV Sx.c2)]),(ri 3 gg 258 br Sx.c2)]) (λi Aw cw Sx=>(0<=i)/\(i<=(bJ b).length)/\(Sx=encP o ((bJ b).take i.toNat))) (λi Aw cw Sx=>((bJ b).length-i).toNat) ?_ ?_
 ·exact⟨0,na,db,pp0,⟨G,G,(Z)⟩,KP⟩
 intro i Aw cw Sx ⟨bb,gd,hS⟩;have de:=WE m5 hS;refine wq<|wL Z Z<|aA<|aD<|bA Z (λba=> ?_) (λba=> ?_)
 ·have hx:=m5 _ (bI (L:=bJ b) (k:=i) bb G);refine aI<|aD<|aH<|wq<|wy (aF aa sz3 Z Z (rdr 1 Z))<|wy (aU au Z Z (rdr 1 Z))<|wn Z<|wq ?_;rcases OJ de.1 ho with hk|hk|hk
  ·refine wm Z<|wa (aC nR Z (Ct.at 5 Z (oL hk))) ?_;rintro _ _⟨rfl,rfl⟩;refine wm Z<|wa (aC TF Z (Ct.sub (R1:=[(rc 256 2 cy [sl fm 258 ef,I (aV Sx.c0)]),(ri 3 fm 258 ef Sx.c0),(ri 3 (GG gi) 1 1 ([257])),(ri 3 gs (((bS 0 (bK aY b)).length)+1) gw (syb b)),(ru 5 dy ((b).length) ee (bK aY b)),(rc 253 3 ia [sl Aw Sx.cd.k cw, .int .u64 (Sx.cd.N%4294967296), .int .u64 Sx.cd.R]),(ru 5 Aw Sx.cd.k cw (beL Sx.cd.k (Sx.cd.N/4294967296))),(rc 250 5 aq [PG cy,PG fi,PG fd,I Sx.cls,I o]),(rc 256 2 fi [sl gn 258 mu,I (aV Sx.c1)]),(ri 3 gn 258 mu Sx.c1),(rc 256 2 fd [sl gg 258 br,I (aV Sx.c2)]),(ri 3 gg 258 br Sx.c2)]) (λ_ h=>h.sel [6,7,0,1,2,3,4,5,8,9,10,11] cC Z) (lH (by rw[de.1.1.1.1]) (by rw[de.1.1.1.1];exact hx) de.1.1.1))) ?_;rintro _ _⟨rfl,rfl⟩;refine wm Z<|wX Z Z<|wX Z Z<|wX Z Z<|wg Z<|wg Z<|wn Z<|wq<|wm Z<|wm Z<|wm Z<|wm Z<|wa (aC nR Z (Ct.at 7 Z (oL hk))) ?_;rintro _ _⟨rfl,rfl⟩;refine wa (aC NW Z (Ct.sub (R1:=[(rc 256 2 cy [sl fm 258 ef,I (aV Sx.c0)]),(ri 3 fm 258 ef Sx.c0),(ri 3 (GG gi) 1 1 ([257])),(ri 3 gs (((bS 0 (bK aY b)).length)+1) gw (syb b)),(ru 5 dy ((b).length) ee (bK aY b)),(rc 253 3 ia [sl Aw Sx.cd.k cw, .int .u64 (Sx.cd.N%4294967296), .int .u64 Sx.cd.R]),(ru 5 Aw Sx.cd.k cw (beL Sx.cd.k (Sx.cd.N/4294967296))),(rc 250 5 aq [PG cy,PG fi,PG fd,I Sx.cls,I o]),(rc 256 2 fi [sl gn 258 mu,I (aV Sx.c1)]),(ri 3 gn 258 mu Sx.c1),(rc 256 2 fd [sl gg 258 br,I (aV Sx.c2)]),(ri 3 gg 258 br Sx.c2)]) hiZ (jL))) ?_;rintro _ _⟨rfl,rfl⟩;refine wa (aC aWo Z (Ct.sub (R1:=[(rc 253 3 ia [sl Aw Sx.cd.k cw, .int .u64 (Sx.cd.N%4294967296), .int .u64 Sx.cd.R]),(ru 5 Aw Sx.cd.k cw (beL Sx.cd.k (Sx.cd.N/4294967296))),(rc 256 2 cy [sl fm 258 ef,I (aV Sx.c0)]),(ri 3 fm 258 ef Sx.c0),(ri 3 (GG gi) 1 1 ([257])),(ri 3 gs (((bS 0 (bK aY b)).length)+1) gw (syb b)),(ru 5 dy ((b).length) ee (bK aY b)),(rc 250 5 aq [PG cy,PG fi,PG fd,I Sx.cls,I o]),(rc 256 2 fi [sl gn 258 mu,I (aV Sx.c1)]),(ri 3 gn 258 mu Sx.c1),(rc 256 2 fd [sl gg 258 br,I (aV Sx.c2)]),(ri 3 gg 258 br Sx.c2)]) (λ_ h=>h.sel [5,6,0,1,2,3,4,7,8,9,10,11] cC Z) (MJ Z de.1.2.2 (kH de.1.1.1 hx.1 hx.2) G))) ?_;rintro _ _⟨jx,jz,rfl,rfl⟩;refine aA<|aK<|wm Z<|wm Z<|wa (aC TE Z (Ct.sub (R1:=[(rc 250 5 aq [PG cy,PG fi,PG fd,I Sx.cls,I o]),(rc 256 2 cy [sl fm 258 ef,I (aV Sx.c0)]),(ri 3 fm 258 ef Sx.c0),(rc 253 3 ia [sl jx ((fB Sx.cd (aV (Sx.c0.take (rd (syb b) i).toNat)) (rd Sx.c0 (rd (syb b) i)) (aV Sx.c0)).k) jz, .int .u64 ((fB Sx.cd (aV (Sx.c0.take (rd (syb b) i).toNat)) (rd Sx.c0 (rd (syb b) i)) (aV Sx.c0)).N%4294967296), .int .u64 ((fB Sx.cd (aV (Sx.c0.take (rd (syb b) i).toNat)) (rd Sx.c0 (rd (syb b) i)) (aV Sx.c0)).R)]),(ru 5 jx ((fB Sx.cd (aV (Sx.c0.take (rd (syb b) i).toNat)) (rd Sx.c0 (rd (syb b) i)) (aV Sx.c0)).k) jz (beL (fB Sx.cd (aV (Sx.c0.take (rd (syb b) i).toNat)) (rd Sx.c0 (rd (syb b) i)) (aV Sx.c0)).k ((fB Sx.cd (aV (Sx.c0.take (rd (syb b) i).toNat)) (rd Sx.c0 (rd (syb b) i)) (aV Sx.c0)).N/4294967296))),(ri 3 (GG gi) 1 1 ([257])),(ri 3 gs (((bS 0 (bK aY b)).length)+1) gw (syb b)),(ru 5 dy ((b).length) ee (bK aY b)),(rc 256 2 fi [sl gn 258 mu,I (aV Sx.c1)]),(ri 3 gn 258 mu Sx.c1),(rc 256 2 fd [sl gg 258 br,I (aV Sx.c2)]),(ri 3 gg 258 br Sx.c2)]) (λ_ h=>h.sel [7,2,3,0,1,4,5,6,8,9,10,11] cC Z) (LK hk (by rw[de.1.1.1.1];exact hx) de.1.1.1))) ?_;rintro _ _⟨rfl,rfl⟩;refine aA<|aK<|wA Z Z<|wm Z<|aA ?_;exact⟨i+1,jx,jz,(⟨kG Sx.c0 (rd (bJ b) i),Sx.c1,Sx.c2,iP (rd (bJ b) i),qV Sx.cd Sx.c0 (rd (bJ b) i)⟩:PpS),⟨G,G,(mZ hS bb G (UQ hk))⟩,G,SA,λ_ h=>h.sel [5,6,7,3,4,0,1,2,8,9,10,11] cC Z⟩
  ·refine wm Z<|wa (aC nR Z (Ct.at 5 Z (oK hk))) ?_;rintro _ _⟨rfl,rfl⟩;refine wm Z<|wa (aC TF Z (Ct.sub (R1:=[(rc 256 2 fi [sl gn 258 mu,I (aV Sx.c1)]),(ri 3 gn 258 mu Sx.c1),(ri 3 (GG gi) 1 1 ([257])),(ri 3 gs (((bS 0 (bK aY b)).length)+1) gw (syb b)),(ru 5 dy ((b).length) ee (bK aY b)),(rc 253 3 ia [sl Aw Sx.cd.k cw, .int .u64 (Sx.cd.N%4294967296), .int .u64 Sx.cd.R]),(ru 5 Aw Sx.cd.k cw (beL Sx.cd.k (Sx.cd.N/4294967296))),(rc 250 5 aq [PG cy,PG fi,PG fd,I Sx.cls,I o]),(rc 256 2 cy [sl fm 258 ef,I (aV Sx.c0)]),(ri 3 fm 258 ef Sx.c0),(rc 256 2 fd [sl gg 258 br,I (aV Sx.c2)]),(ri 3 gg 258 br Sx.c2)]) (λ_ h=>h.sel [8,9,0,1,2,3,4,5,6,7,10,11] cC Z) (lH (by rw[de.1.1.2.1.1]) (by rw[de.1.1.2.1.1];exact hx) de.1.1.2.1))) ?_;rintro _ _⟨rfl,rfl⟩;refine wm Z<|wX Z Z<|wX Z Z<|wX Z Z<|wg Z<|wg Z<|wn Z<|wq<|wm Z<|wm Z<|wm Z<|wm Z<|wa (aC nR Z (Ct.at 7 Z (oK hk))) ?_;rintro _ _⟨rfl,rfl⟩;refine wa (aC NW Z (Ct.sub (R1:=[(rc 256 2 fi [sl gn 258 mu,I (aV Sx.c1)]),(ri 3 gn 258 mu Sx.c1),(ri 3 (GG gi) 1 1 ([257])),(ri 3 gs (((bS 0 (bK aY b)).length)+1) gw (syb b)),(ru 5 dy ((b).length) ee (bK aY b)),(rc 253 3 ia [sl Aw Sx.cd.k cw, .int .u64 (Sx.cd.N%4294967296), .int .u64 Sx.cd.R]),(ru 5 Aw Sx.cd.k cw (beL Sx.cd.k (Sx.cd.N/4294967296))),(rc 250 5 aq [PG cy,PG fi,PG fd,I Sx.cls,I o]),(rc 256 2 cy [sl fm 258 ef,I (aV Sx.c0)]),(ri 3 fm 258 ef Sx.c0),(rc 256 2 fd [sl gg 258 br,I (aV Sx.c2)]),(ri 3 gg 258 br Sx.c2)]) hiZ (jL))) ?_;rintro _ _⟨rfl,rfl⟩;refine wa (aC aWo Z (Ct.sub (R1:=[(rc 253 3 ia [sl Aw Sx.cd.k cw, .int .u64 (Sx.cd.N%4294967296), .int .u64 Sx.cd.R]),(ru 5 Aw Sx.cd.k cw (beL Sx.cd.k (Sx.cd.N/4294967296))),(rc 256 2 fi [sl gn 258 mu,I (aV Sx.c1)]),(ri 3 gn 258 mu Sx.c1),(ri 3 (GG gi) 1 1 ([257])),(ri 3 gs (((bS 0 (bK aY b)).length)+1) gw (syb b)),(ru 5 dy ((b).length) ee (bK aY b)),(rc 250 5 aq [PG cy,PG fi,PG fd,I Sx.cls,I o]),(rc 256 2 cy [sl fm 258 ef,I (aV Sx.c0)]),(ri 3 fm 258 ef Sx.c0),(rc 256 2 fd [sl gg 258 br,I (aV Sx.c2)]),(ri 3 gg 258 br Sx.c2)]) (λ_ h=>h.sel [5,6,0,1,2,3,4,7,8,9,10,11] cC Z) (MJ Z de.1.2.2 (kH de.1.1.2.1 hx.1 hx.2) G))) ?_;rintro _ _⟨nd,nh,rfl,rfl⟩;refine aA<|aK<|wm Z<|wm Z<|wa (aC TE Z (Ct.sub (R1:=[(rc 250 5 aq [PG cy,PG fi,PG fd,I Sx.cls,I o]),(rc 256 2 fi [sl gn 258 mu,I (aV Sx.c1)]),(ri 3 gn 258 mu Sx.c1),(rc 253 3 ia [sl nd ((fB Sx.cd (aV (Sx.c1.take (rd (syb b) i).toNat)) (rd Sx.c1 (rd (syb b) i)) (aV Sx.c1)).k) nh, .int .u64 ((fB Sx.cd (aV (Sx.c1.take (rd (syb b) i).toNat)) (rd Sx.c1 (rd (syb b) i)) (aV Sx.c1)).N%4294967296), .int .u64 ((fB Sx.cd (aV (Sx.c1.take (rd (syb b) i).toNat)) (rd Sx.c1 (rd (syb b) i)) (aV Sx.c1)).R)]),(ru 5 nd ((fB Sx.cd (aV (Sx.c1.take (rd (syb b) i).toNat)) (rd Sx.c1 (rd (syb b) i)) (aV Sx.c1)).k) nh (beL (fB Sx.cd (aV (Sx.c1.take (rd (syb b) i).toNat)) (rd Sx.c1 (rd (syb b) i)) (aV Sx.c1)).k ((fB Sx.cd (aV (Sx.c1.take (rd (syb b) i).toNat)) (rd Sx.c1 (rd (syb b) i)) (aV Sx.c1)).N/4294967296))),(ri 3 (GG gi) 1 1 ([257])),(ri 3 gs (((bS 0 (bK aY b)).length)+1) gw (syb b)),(ru 5 dy ((b).length) ee (bK aY b)),(rc 256 2 cy [sl fm 258 ef,I (aV Sx.c0)]),(ri 3 fm 258 ef Sx.c0),(rc 256 2 fd [sl gg 258 br,I (aV Sx.c2)]),(ri 3 gg 258 br Sx.c2)]) (λ_ h=>h.sel [7,2,3,0,1,4,5,6,8,9,10,11] cC Z) (LJ hk (by rw[de.1.1.2.1.1];exact hx) de.1.1.2.1))) ?_;rintro _ _⟨rfl,rfl⟩;refine aA<|aK<|wA Z Z<|wm Z<|aA ?_;exact⟨i+1,nd,nh,(⟨Sx.c0,kG Sx.c1 (rd (bJ b) i),Sx.c2,iP (rd (bJ b) i),qV Sx.cd Sx.c1 (rd (bJ b) i)⟩:PpS),⟨G,G,(mZ hS bb G (UO hk))⟩,G,SA,λ_ h=>h.sel [5,6,7,3,4,0,8,9,1,2,10,11] cC Z⟩
  ·refine wm Z<|wa (aC nR Z (Ct.at 5 Z (oJ hk))) ?_;rintro _ _⟨rfl,rfl⟩;refine wm Z<|wa (aC TF Z (Ct.sub (R1:=[(rc 256 2 fd [sl gg 258 br,I (aV Sx.c2)]),(ri 3 gg 258 br Sx.c2),(ri 3 (GG gi) 1 1 ([257])),(ri 3 gs (((bS 0 (bK aY b)).length)+1) gw (syb b)),(ru 5 dy ((b).length) ee (bK aY b)),(rc 253 3 ia [sl Aw Sx.cd.k cw, .int .u64 (Sx.cd.N%4294967296), .int .u64 Sx.cd.R]),(ru 5 Aw Sx.cd.k cw (beL Sx.cd.k (Sx.cd.N/4294967296))),(rc 250 5 aq [PG cy,PG fi,PG fd,I Sx.cls,I o]),(rc 256 2 cy [sl fm 258 ef,I (aV Sx.c0)]),(ri 3 fm 258 ef Sx.c0),(rc 256 2 fi [sl gn 258 mu,I (aV Sx.c1)]),(ri 3 gn 258 mu Sx.c1)]) (λ_ h=>h.sel [10,11,0,1,2,3,4,5,6,7,8,9] cC Z) (lH (by rw[de.1.1.2.2.1]) (by rw[de.1.1.2.2.1];exact hx) de.1.1.2.2))) ?_;rintro _ _⟨rfl,rfl⟩;refine wm Z<|wX Z Z<|wX Z Z<|wX Z Z<|wg Z<|wg Z<|wn Z<|wq<|wm Z<|wm Z<|wm Z<|wm Z<|wa (aC nR Z (Ct.at 7 Z (oJ hk))) ?_;rintro _ _⟨rfl,rfl⟩;refine wa (aC NW Z (Ct.sub (R1:=[(rc 256 2 fd [sl gg 258 br,I (aV Sx.c2)]),(ri 3 gg 258 br Sx.c2),(ri 3 (GG gi) 1 1 ([257])),(ri 3 gs (((bS 0 (bK aY b)).length)+1) gw (syb b)),(ru 5 dy ((b).length) ee (bK aY b)),(rc 253 3 ia [sl Aw Sx.cd.k cw, .int .u64 (Sx.cd.N%4294967296), .int .u64 Sx.cd.R]),(ru 5 Aw Sx.cd.k cw (beL Sx.cd.k (Sx.cd.N/4294967296))),(rc 250 5 aq [PG cy,PG fi,PG fd,I Sx.cls,I o]),(rc 256 2 cy [sl fm 258 ef,I (aV Sx.c0)]),(ri 3 fm 258 ef Sx.c0),(rc 256 2 fi [sl gn 258 mu,I (aV Sx.c1)]),(ri 3 gn 258 mu Sx.c1)]) hiZ (jL))) ?_;rintro _ _⟨rfl,rfl⟩;refine wa (aC aWo Z (Ct.sub (R1:=[(rc 253 3 ia [sl Aw Sx.cd.k cw, .int .u64 (Sx.cd.N%4294967296), .int .u64 Sx.cd.R]),(ru 5 Aw Sx.cd.k cw (beL Sx.cd.k (Sx.cd.N/4294967296))),(rc 256 2 fd [sl gg 258 br,I (aV Sx.c2)]),(ri 3 gg 258 br Sx.c2),(ri 3 (GG gi) 1 1 ([257])),(ri 3 gs (((bS 0 (bK aY b)).length)+1) gw (syb b)),(ru 5 dy ((b).length) ee (bK aY b)),(rc 250 5 aq [PG cy,PG fi,PG fd,I Sx.cls,I o]),(rc 256 2 cy [sl fm 258 ef,I (aV Sx.c0)]),(ri 3 fm 258 ef Sx.c0),(rc 256 2 fi [sl gn 258 mu,I (aV Sx.c1)]),(ri 3 gn 258 mu Sx.c1)]) (λ_ h=>h.sel [5,6,0,1,2,3,4,7,8,9,10,11] cC Z) (MJ Z de.1.2.2 (kH de.1.1.2.2 hx.1 hx.2) G))) ?_;rintro _ _⟨nf,nj,rfl,rfl⟩;refine aA<|aK<|wm Z<|wm Z<|wa (aC TE Z (Ct.sub (R1:=[(rc 250 5 aq [PG cy,PG fi,PG fd,I Sx.cls,I o]),(rc 256 2 fd [sl gg 258 br,I (aV Sx.c2)]),(ri 3 gg 258 br Sx.c2),(rc 253 3 ia [sl nf ((fB Sx.cd (aV (Sx.c2.take (rd (syb b) i).toNat)) (rd Sx.c2 (rd (syb b) i)) (aV Sx.c2)).k) nj, .int .u64 ((fB Sx.cd (aV (Sx.c2.take (rd (syb b) i).toNat)) (rd Sx.c2 (rd (syb b) i)) (aV Sx.c2)).N%4294967296), .int .u64 ((fB Sx.cd (aV (Sx.c2.take (rd (syb b) i).toNat)) (rd Sx.c2 (rd (syb b) i)) (aV Sx.c2)).R)]),(ru 5 nf ((fB Sx.cd (aV (Sx.c2.take (rd (syb b) i).toNat)) (rd Sx.c2 (rd (syb b) i)) (aV Sx.c2)).k) nj (beL (fB Sx.cd (aV (Sx.c2.take (rd (syb b) i).toNat)) (rd Sx.c2 (rd (syb b) i)) (aV Sx.c2)).k ((fB Sx.cd (aV (Sx.c2.take (rd (syb b) i).toNat)) (rd Sx.c2 (rd (syb b) i)) (aV Sx.c2)).N/4294967296))),(ri 3 (GG gi) 1 1 ([257])),(ri 3 gs (((bS 0 (bK aY b)).length)+1) gw (syb b)),(ru 5 dy ((b).length) ee (bK aY b)),(rc 256 2 cy [sl fm 258 ef,I (aV Sx.c0)]),(ri 3 fm 258 ef Sx.c0),(rc 256 2 fi [sl gn 258 mu,I (aV Sx.c1)]),(ri 3 gn 258 mu Sx.c1)]) (λ_ h=>h.sel [7,2,3,0,1,4,5,6,8,9,10,11] cC Z) (LH hk (by rw[de.1.1.2.2.1];exact hx) de.1.1.2.2))) ?_;rintro _ _⟨rfl,rfl⟩;refine aA<|aK<|wA Z Z<|wm Z<|aA ?_;exact⟨i+1,nf,nj,(⟨Sx.c0,Sx.c1,kG Sx.c2 (rd (bJ b) i),iP (rd (bJ b) i),qV Sx.cd Sx.c2 (rd (bJ b) i)⟩:PpS),⟨G,G,(mZ hS bb G (UN hk))⟩,G,SA,λ_ h=>h.sel [5,6,7,3,4,0,8,9,10,11,1,2] cC Z⟩
 ·refine aR<|wq<|wm Z<|wa (aC bMm Z (Ct.sub (R1:=[(rc 253 3 ia [sl Aw Sx.cd.k cw, .int .u64 (Sx.cd.N%4294967296), .int .u64 Sx.cd.R]),(ru 5 Aw Sx.cd.k cw (beL Sx.cd.k (Sx.cd.N/4294967296))),(ri 3 (GG gi) 1 1 ([257])),(ri 3 gs (((bS 0 (bK aY b)).length)+1) gw (syb b)),(ru 5 dy ((b).length) ee (bK aY b)),(rc 250 5 aq [PG cy,PG fi,PG fd,I Sx.cls,I o]),(rc 256 2 cy [sl fm 258 ef,I (aV Sx.c0)]),(ri 3 fm 258 ef Sx.c0),(rc 256 2 fi [sl gn 258 mu,I (aV Sx.c1)]),(ri 3 gn 258 mu Sx.c1),(rc 256 2 fd [sl gg 258 br,I (aV Sx.c2)]),(ri 3 gg 258 br Sx.c2)]) (λ_ h=>h.sel [3,4,0,1,2,5,6,7,8,9,10,11] cC Z) (aVp Z G))) ?_;rintro _ _⟨rx,sd,rfl,rfl⟩;refine wg Z<|wn Z<|bU (R1:=[(ru 5 rx (Sx.cd.k+4) sd (beL (Sx.cd.k+4) Sx.cd.N))]) (λ_ h=>h.sel [0] cC Z) ?_;refine⟨_,_,Z,Z,?_⟩;rw[bi G] at hS;have e:(bR b o).length=Sx.cd.k+4:=by unfold bR;rw[kE,<-hS]
  have e2:bR b o=beL (Sx.cd.k+4) Sx.cd.N:=by unfold bR;rw[<-hS]
  rw[e,e2];exact⟨_,_,Z,Z⟩
end Go.Proofs.YtdbebmmhdefgdaaGreat
namespace Go.Pure
open Go Go.Eng
variable {k i b d s r x:Int} {t l:AH} {B:Nat} {w0:World} {R:List Row} {vals:AG} {ls:AD}
def TG (x:BitVec 32):BitVec 32:=if x &&& 1#32=1#32 then(x>>>1)^^^3988292384#32 else x>>>1
def GQ:Nat->BitVec 32->BitVec 32
 |0,x=>x
 |k+1,x=>GQ k (TG x)
def QE (x:BitVec 32):BitVec 32:=GQ 8 x
theorem yR {x:BitVec 32} (h:k<8):GQ (8-k).toNat x=GQ (8-(k+1)).toNat (TG x):=by
 have e:(8-k).toNat=(8-(k+1)).toNat+1:=G
 rw[e];rfl
def aBv (x:BitVec 32) (b:Int):BitVec 32:=(x &&& 255#32)^^^BitVec.ofInt 32 b
def bNd (x:BitVec 32) (b:Int):BitVec 32:=(x>>>8)^^^QE (aBv x b)
def EH (x:BitVec 32) (l:AH):BitVec 32:=l.foldl bNd x
def gQ (l:AH):BitVec 32:=EH 4294967295#32 l^^^4294967295#32
def sQ:AH:=(List.range 256).map λi=>bv (QE (BitVec.ofNat 32 i))
theorem xM:sQ.length=256:=by unfold sQ;rw[bq,yo]
theorem aJm {i:Nat} (h:i<256):sQ[i]? =some (bv (QE (BitVec.ofNat 32 i))):=by
 unfold sQ;rw[ol,yw h];rfl
theorem RY (i:Nat):BitVec.ofInt 32 (i:Int)=BitVec.ofNat 32 i:=rfl
theorem aBu {x:BitVec 32} (hb:0<=b/\b<256):(aBv x b).toNat=(x.toNat%256)^^^b.toNat:=by
 obtain⟨b,rfl⟩: ∃m:Nat,b=m:=⟨b.toNat,G⟩;unfold aBv;have e1:(255#32).toNat=2^8-1:=rfl;have e2:(BitVec.ofInt 32 (b:Int)).toNat=b:=by rw[RY,BitVec.toNat_ofNat];omega
 rw[BitVec.toNat_xor,BitVec.toNat_and,e1,e2,Dv,cz]
theorem KC {x:BitVec 32} (hb:0<=b/\b<256):0<=bv (aBv x b)/\bv (aBv x b)<256:=by
 have h:(aBv x b).toNat<2^8:=by
  rw[aBu hb];exact Nat.xor_lt_two_pow (by have:=yh x.toNat (show 0<256 by omega);omega) G
 unfold bv;omega
theorem bFa {x:BitVec 32} (hb:0<=b/\b<256):((BitVec.ofInt 8 (IntKind.u8.wrap (bv x))^^^BitVec.ofInt 8 b).toNat:Int)=bv (aBv x b):=by
 have h:=aBu (x:=x) hb;unfold bv;rw[h,BitVec.toNat_xor,zf,zf,Ch];have e1:(((x.toNat:Int)%256)%((2^8:Nat):Int)).toNat=x.toNat%256:=G
 have e2:(b%((2^8:Nat):Int)).toNat=b.toNat:=G
 rw[e1,e2]
def vJ (d s r:Int) (t:AH):AG:=[.int .u32 d, .int .i32 s, .int .u32 0, .int .i32 r]++ints .u32 t
def dO (T g:Nat) (d s r:Int) (t:AH):Row:=⟨T,260,some ⟨g,0,none⟩,1,1,vJ d s r t,false⟩
theorem GR (d s r:Int) (t:AH):(vJ d s r t).length=4+t.length:=by
 unfold vJ;rw[ah,bX];rfl
theorem aXa {i:Nat} (h:t[i]? =some x):(vJ d s r t)[4+i]? =some (.int .u32 x):=by
 unfold vJ;rw[ji cD];simp[ints,h]
theorem aOo {i:Nat}:(vJ d s r t).set (4+i) (.int .u32 x)=vJ d s r (t.set i x):=by
 unfold vJ ints;rw[Dr _ _ cD,List.map_set];simp
theorem aOn (ht:t.length=256) (h0:0<=k) (h1:k<256):(sQ.take k.toNat++t.drop k.toNat).set k.toNat (bv (QE (BitVec.ofInt 32 k)))=sQ.take (k+1).toNat++t.drop (k+1).toNat:=by
 obtain⟨k,rfl⟩: ∃m:Nat,k=m:=⟨k.toNat,G⟩;have e:((k:Int)+1).toNat=k+1:=G
 rw[e,cz,RY];have hk:k<sQ.length:=by rw[xM];omega
 have hl:(sQ.take k).length=k:=by rw[ax];omega
 rw[Dr _ _ G,hl,Dj,ll (by omega:k<t.length),Fy,qm,aJm G];simp
theorem bCh {x:BitVec 32} (h:bv x<256):sQ[(bv x).toNat]? =some (bv (QE x)):=by
 have e:(bv x).toNat=x.toNat:=by unfold bv;rw[cz]
 rw[e,aJm (by unfold bv at h;omega),BitVec.ofNat_toNat,BitVec.setWidth_eq]
def yZ (B:Nat) (w0:World) (R:List Row) (vals:AG) (ls:AD):Prop:=vals.length=ls.length/\ ∀(j:Nat) (v:Value),vals[j]? =some v-> ∃(A:AF) (c:Nat) (l:AH),v=Value.slice A l.length c/\ls[j]? =some l/\RdC B w0 R A l.length c 1 (ints .u8 l)/\aN l
theorem yZ.at (h:yZ B w0 R vals ls) (h0:0<=i) (h1:i<vals.length): ∃(A:AF) (c:Nat) (l:AH),vals[i.toNat]? =some (Value.slice A l.length c)/\ls[i.toNat]? =some l/\RdC B w0 R A l.length c 1 (ints .u8 l)/\aN l:=by
 have bp:i.toNat<vals.length:=G
 obtain⟨A,c,l,e,h2,h3,h4⟩:=h.2 i.toNat _ (av bp);exact⟨A,c,l,by rw[av bp,e],h2,h3,h4⟩
theorem yZ.one {A:AF} {c n:Nat} (h:RdC B w0 R A n c 1 (ints .u8 l)) (hb:aN l) (hn:n=l.length):yZ B w0 R [.slice A n c] [l]:=by
 subst hn
 exact⟨rfl,λj v hv=>by
  cases j with
  |zero=>exact⟨A,c,l,by simpa using hv.symm,rfl,h,hb⟩
  |succ j=>simp at hv⟩
theorem yZ.of {w:World} (h:SlW .u8 w vals ls):yZ w.heap.size w R vals ls:=
 ⟨h.1,λj v hv=>by
  have bp:j<ls.length:=by rw[<-h.1];exact(fw.1 hv).1
  obtain⟨A,c,h1,h2,h3,_⟩:=h.2 j bp;rw[h1] at hv;have e:ls.getD j []=ls[j]:=by simp[ai,av bp]
  rw[e] at hv h2 h3
  exact⟨A,c,ls[j],(je hv).symm,av bp,h2.c R,byteL_wf h3⟩⟩
def Big (ls:AD):Prop:=ls.length<=1000000/\ ∀(j:Nat) (l:AH),ls[j]? =some l->l.length<=1000000
theorem Big.one (h:l.length<=1000000):Big [l]:=⟨cD,λj q hq=>by
 cases j with
 |zero=>simp at hq;subst hq;exact h
 |succ j=>simp at hq⟩
theorem Big.nil:Big []:=⟨cD,λj q hq=>by simp at hq⟩
theorem Big.snoc {q:AH} (h:Big ls) (h1:ls.length<1000000) (h2:q.length<=1000000):Big (ls++[q]):=⟨cH,λj r hr=>by
 rw[List.getElem?_append] at hr;split at hr
 ·exact h.2 j r hr
 ·rename_i hj
  have hz:j-ls.length=0:=by
   rcases ek (j-ls.length) with e|e
   ·exact e
   ·rw[lu cH] at hr;cases hr
  rw[hz] at hr;simp at hr
  rw[<-hr];exact h2⟩
theorem yZ.nil:yZ B w0 R [] []:=⟨rfl,λj v hv=>by simp at hv⟩
theorem drop_flat (h0:0<=i) (h:ls[i.toNat]? =some l):(ls.drop i.toNat).flatten=l++(ls.drop (i+1).toNat).flatten:=by
 have bp:i.toNat<ls.length:=(fw.1 h).1;have e:(i+1).toNat=i.toNat+1:=G
 rw[ll bp,(fw.1 h).2,e];rfl
theorem OS {x:BitVec 32} {m:AH} (h0:0<=i) (h:i<l.length):EH x (l.drop i.toNat++m)=EH (bNd x (rd l i)) (l.drop (i+1).toNat++m):=by
 rw[jE h0 h];rfl
theorem NY {α:Type} {l:List α} (h:(l.length:Int)<=i):l.drop i.toNat=[]:=qd G
end Go.Pure
namespace Go.Proofs.YtdbebmmhdefgdaaGreat
open Go Go.Eng Go.Pure
theorem IG (w:World):(callFunc 306 #[]).run Tryz.prog w= .ok (.value (.tuple #[])) w:=run_call_mark0 Tryz.func306 cA cA cA .disable cA w
theorem MG (w:World):(callFunc 308 #[]).run Tryz.prog w= .ok (.value (.tuple #[])) w:=run_call_mark0 Tryz.func308 cA cA cA .enable cA w
theorem YV (a:Addr) (w:World):(callFunc 309 #[.pointer (some a)]).run Tryz.prog w= .ok (.value (.tuple #[])) w:=run_call_marked Tryz.func309 cA cA cA .acquire cA a w
theorem FO (a:Addr) (w:World):(callFunc 311 #[.pointer (some a)]).run Tryz.prog w= .ok (.value (.tuple #[])) w:=run_call_marked Tryz.func311 cA cA cA .releaseMerge cA a w
theorem PL (a:Addr) (x:Value) (u:FrameMode) (w:World) (hc:w.cell? a=some x) (hz:w.frozen? a=false):
  CallsD Tryz.prog 256 #[.pointer (some a), .bool true] u w λe u' w'=>u'=u/\(e= .returned (.tuple #[])/\w'=w.drew.setCell a (.int .u32 1)):=by
 have Yh:w.drew.cell? a=some x:=by go_simp
 have hz':w.drew.frozen? a=false:=by go_simp
 have ge:=run_call_store (P:=Tryz.prog) Tryz.func288 cA cA cA cA (k:= .u32) (y:=1) Yh hz'
 go_enter_d Tryz.func256,Tryz.ntmps256
 go_wp2
 go_region_calls
 all_goals (go_end0;exact⟨rfl,rfl⟩)
set_option maxRecDepth 100000 in
theorem KS (a:Addr) (u:FrameMode) (w:World) (hc:w.cell? a=some (.int .i32 1)) (hz:w.frozen? a=false):
  CallsD Tryz.prog 255 #[.pointer (some a)] u w λe u' w'=>u'=u/\(e= .returned (.tuple #[])/\w'=w.setCell a (.int .i32 0)):=by
 have hd:=IG;have he:=MG;have hr:=FO;have Ku:=Fs (P:=Tryz.prog) Tryz.func257 cA cA cA .i32 cA (y:= -1) (s:=0) hc hz (by simp[go_sem];rfl);have hcv:=run_convert_to_unsafe (P:=Tryz.prog) (src:=340) (dst:=343) Tryz.underlying340 Tryz.underlying343 cA hc
 go_enter_d Tryz.func255,Tryz.ntmps255
 go_wp2
 go_end0
 go_wp2
 go_end0
 exact⟨rfl,rfl⟩
set_option maxRecDepth 100000 in
theorem aTz (a:Addr) (w:World) (hc:w.cell? a=some (.int .i32 0)) (hz:w.frozen? a=false):
  Calls Tryz.prog 254 #[.pointer (some a)] w λe w'=>e= .returned (.tuple #[])/\w'=w.setCell a (.int .i32 1):=by
 have hd:=IG;have he:=MG;have ha:=YV;have hcas:=run_call_cas_hit (P:=Tryz.prog) Tryz.func307 cA cA cA .i32 cA (y:=1) hc hz;have Yh:(w.setCell a (.int .i32 1)).cell? a=some (.int .i32 1):=World.cell?_setCell_same w a _ hc;have hcv:=run_convert_to_unsafe (P:=Tryz.prog) (src:=340) (dst:=343) Tryz.underlying340 Tryz.underlying343 cA Yh
 go_enter Tryz.func254,Tryz.ntmps254
 go_wp2
 first|go_end0|(simp only[Exit.inBlock,Exit.then];refine bodyPost_ret (results_none rfl _ _ _) rfl ?_)|refine bodyPost_ret (results_none rfl _ _ _) rfl ?_
 go_wp2
 go_end0
 exact⟨rfl,rfl⟩
section
variable {B:Nat} {w0:World} {R:List Row} {T g:Nat} {r r':Int} {t t':AH}
theorem EA {w:World} {d s:Int} (h:Hp B w0 w (dO T g d s r t::R)) (j:Nat):w.frozen? ⟨g,j,none⟩=false:=h.openAt 0 j rfl rfl rfl
theorem EB {w:World} {d s:Int} (h:Hp B w0 w (dO T g d s r t::R)):w.cell? ⟨g,0,none⟩=some (.int .u32 d):=h.cellAt 0 (r:=dO T g d s r t) (j:=0) rfl rfl rfl
theorem aBk {w:World} {d s:Int} (h:Hp B w0 w (dO T g d s r t::R)):w.cell? ⟨g,1,none⟩=some (.int .i32 s):=h.cellAt 0 (r:=dO T g d s r t) (j:=1) rfl rfl rfl
theorem aWy {w:World} {d s:Int} (h:Hp B w0 w (dO T g d s r t::R)):w.cell? ⟨g,3,none⟩=some (.int .i32 r):=h.cellAt 0 (r:=dO T g d s r t) (j:=3) rfl rfl rfl
theorem aBj {w:World} {d s:Int} (h:Hp B w0 w (dO T g d s r t::R)) (x:Int):Hp B w0 (w.setCell ⟨g,0,none⟩ (.int .u32 x)) (dO T g x s r t::R):=h.set1 0 (r:=dO T g d s r t) (j:=0) (v:= .int .u32 x) rfl rfl rfl
theorem IR {w:World} {d s:Int} (h:Hp B w0 w (dO T g d s r t::R)) (x:Int):Hp B w0 (w.setCell ⟨g,1,none⟩ (.int .i32 x)) (dO T g d x r t::R):=h.set1 0 (r:=dO T g d s r t) (j:=1) (v:= .int .i32 x) rfl rfl rfl
theorem aBi {w:World} {d s:Int} (h:Hp B w0 w (dO T g d s r t::R)) (x:Int):Hp B w0 (w.setCell ⟨g,3,none⟩ (.int .i32 x)) (dO T g d s x t::R):=h.set1 0 (r:=dO T g d s r t) (j:=3) (v:= .int .i32 x) rfl rfl rfl
theorem aWz {w:World} {R:List Row} (h:Hp B w0 w R):Hp B w0 w.drew R:=h.drawn _ (Gu _)
set_option maxRecDepth 100000 in
theorem aTi {w:World} (hh:Hp B w0 w (dO T g 0 0 r t::R)) (hm: ∀w,Hp B w0 w (dO T g 0 1 r t::R)->Calls Tryz.prog 137 #[.pointer (some ⟨g,0,none⟩)] w λe w'=>e= .returned (.tuple #[])/\Hp B w0 w' (dO T g 0 1 r' t'::R)):
  Calls Tryz.prog 208 #[.pointer (some ⟨g,0,none⟩), .func (.func 137) #[.pointer (some ⟨g,0,none⟩)] #[]] w λe w'=>e= .returned (.tuple #[])/\Hp B w0 w' (dO T g 1 0 r' t'::R):=by
 have h1:=IR hh 1;have hl:=run_call_load (P:=Tryz.prog) Tryz.func253 cA cA cA .u32 cA (EB h1);have Lg: ∀(x:Bool) (w:World),(Op.unary .not (.bool x)).run Tryz.prog w= .ok (.bool (!x)) w:=λ_ _=>rfl;have k1:=aBk hh;have k2:=EA hh 1
 go_enter_defers Tryz.func208,Tryz.ntmps208
 go_wp2_with (first|(go_at_call 254;refine(aTz ⟨g,1,none⟩ _ (by go_simp) (by go_simp)).mono ?_;rintro e w' ⟨rfl,rfl⟩)|(go_at_call 137;refine(hm _ h1).mono ?_;rintro e w' ⟨rfl,h2⟩)|(go_at_call 207;go_in))
 refine leaves_cons (f:=256) (args:= #[.pointer (some ⟨g,0,none⟩), .bool true]) cD (by simp[go_sem]) ?_;refine(PL ⟨g,0,none⟩ _ .returning _ (EB h2) (EA h2 0)).mono ?_;rintro e u' Pn ⟨rfl,rfl,rfl⟩;have h3:=aBj (aWz h2) 1;refine leaves_cons (f:=255) (args:= #[.pointer (some ⟨g,1,none⟩)]) (by simp[settle]) (by simp[go_sem]) ?_;refine(KS ⟨g,1,none⟩ _ _ (aBk h3) (EA h3 1)).mono ?_;rintro e u' Pn ⟨rfl,rfl,rfl⟩;have h4:=IR h3 0;simp[Leaves,settle,results,Tryz.results208];exact h4
set_option maxRecDepth 100000 in
theorem aMf (hm: ∀w,Hp B w0 w (dO T g 0 1 r t::R)->Calls Tryz.prog 137 #[.pointer (some ⟨g,0,none⟩)] w λe w'=>e= .returned (.tuple #[])/\Hp B w0 w' (dO T g 0 1 r' t'::R)):
  Ct Tryz.prog 136 #[.pointer (some ⟨g,0,none⟩), .func (.func 137) #[.pointer (some ⟨g,0,none⟩)] #[]] B w0 (dO T g 0 0 r t::R) (λv R'=>v= .tuple #[]/\R'=dO T g 1 0 r' t'::R):=by
 intro w hh;have hl:=run_call_load (P:=Tryz.prog) Tryz.func253 cA cA cA .u32 cA (EB hh);have Lg: ∀(x:Bool) (w:World),(Op.unary .not (.bool x)).run Tryz.prog w= .ok (.bool (!x)) w:=λ_ _=>rfl
 go_enter Tryz.func136,Tryz.ntmps136
 go_wp2_with (first|(go_at_call 208;refine(aTi hh hm).mono ?_;rintro e w' ⟨rfl,h2⟩)|(go_at_call 207;go_in))
 go_end0
 exact⟨_,_,rfl,h2,rfl,rfl⟩
theorem aTj {fv:Value}:Ct Tryz.prog 136 #[.pointer (some ⟨g,0,none⟩),fv] B w0 (dO T g 1 0 r t::R) (λv R'=>v= .tuple #[]/\R'=dO T g 1 0 r t::R):=by
 intro w hh;have hl:=run_call_load (P:=Tryz.prog) Tryz.func253 cA cA cA .u32 cA (EB hh);have Lg: ∀(x:Bool) (w:World),(Op.unary .not (.bool x)).run Tryz.prog w= .ok (.bool (!x)) w:=λ_ _=>rfl
 go_enter Tryz.func136,Tryz.ntmps136
 go_wp2
 go_end0
 exact⟨_,_,rfl,hh,rfl,rfl⟩
theorem aZb (hr:0<=r/\r<1000000): ∀ {d s:Int} {w:World},Hp B w0 w (dO T g d s r t::R)-> ∃w',(callFunc 257 #[.pointer (some ⟨g,3,none⟩), .int .i32 1]).run Tryz.prog w= .ok (.value (.int .i32 (r+1))) w'/\Hp B w0 w' (dO T g d s (r+1) t::R):=by
 intro d s w hh;refine⟨_,Fs (P:=Tryz.prog) Tryz.func257 cA cA cA .i32 cA (y:=1) (s:=r+1) (aWy hh) (EA hh 3) ?_,aBi hh (r+1)⟩;have:IntKind.i32.wrap (r+1)=r+1:=by rw[IntKind.wrap_i32];omega
 simp[Op.intArith,this]
end
open Tryz
set_option maxRecDepth 100000
variable {w w0:World} {B T g:Nat} {R:List Row} {d s r r':Int} {t:AH}
theorem aEp {i:Int}:
  CF 214 #[I i] w (λv R'=>v= .int .u32 (bv (QE (BitVec.ofInt 32 i)))):=by
 refine fn1 Tryz.func214 Z Z Z ?_;refine wq<|wn Z<|wq<|wm Z<|wy (UF au qw Z)<|wn Z<|aD<|wq<|wn Z ?_;refine aH ?_;refine dI (λ(k:Int) (x:BitVec 32)=>[(3, .int .u32 (bv x)),(4,I k)]) (λk x=>[]) (λk x=>(0<=k)/\(k<=8)/\(QE (BitVec.ofInt 32 i)=GQ (8-k).toNat x)) (λk x=>(8-k).toNat) ?_ ?_
 ·exact⟨0,BitVec.ofInt 32 i,⟨G,G,(Z)⟩,KP⟩
 intro k x ⟨ju,hk8,hx⟩;refine aD<|wq<|wm Z<|wL Z Z<|aA<|bA Z (λba=> ?_) (λba=> ?_)
 ·refine aI<|aD<|aH<|wq<|wm Z<|wy (aCq (p:=x) (q:=1#32) Z Z)<|wy (bDm (p:=x &&& (1#32)) (q:=1#32) Z Z)<|aA<|bA Z (λcj=> ?_) (λcj=> ?_)
  ·refine aK<|wm Z<|wy (KF (k:=1) Z Z Z)<|wy (ES (p:=x>>>1) (q:=3988292384#32) Z Z)<|wn Z<|aK<|wm Z<|wA Z Z<|wn Z ?_;exact⟨k+1,(x>>>1)^^^(3988292384#32),⟨G,G,(by rw[hx,yR G];unfold TG;rw[di cF])⟩,G,KP⟩
  ·refine aK<|wm Z<|wy (KF (k:=1) Z Z Z)<|wn Z<|aK<|wm Z<|wA Z Z<|wn Z ?_;exact⟨k+1,x>>>1,⟨G,G,(by rw[hx,yR G];unfold TG;rw[df cF])⟩,G,KP⟩
 ·refine aR<|wq<|wm Z<|wn Z<|bQ ?_;refine⟨_,Z,?_⟩;obtain rfl:k=8:=G
  rw[hx];rfl
theorem aYr {ap:AF} {bl an:Nat} {u:AH} (ac:Rd w ap bl an 1 (ints .u8 u)) (am:aN u):
  CF 142 #[sl ap bl an] w (λv R'=>v= .int .u32 (bv (gQ u))):=by
 obtain rfl:=ac.lenI;refine fn1 Tryz.func142 Z Z Z ?_;have kc:=ac.max;refine wq<|wn Z<|wq<|wn Z<|aD<|wq<|wn Z<|aH ?_;refine dI (λ(k:Int) (x:BitVec 32)=>[(0,sl ap u.length an),(3, .int .u32 (bv x)),(4,I k)]) (λk x=>[]) (λk x=>(0<=k)/\(k<=u.length)/\(EH 4294967295#32 u=EH x (u.drop k.toNat++[]))) (λk x=>(u.length-k).toNat) ?_ ?_
 ·exact⟨0,4294967295#32,⟨G,G,(by rw[jh];rfl)⟩,KP⟩
 intro k x ⟨ju,tz,hx⟩;refine aD<|wq<|wm Z<|wm Z<|wy (aL af Z)<|wL Z Z<|aA<|bA Z (λba=> ?_) (λba=> ?_)
 ·refine aI<|aD<|aH<|aK<|wm Z<|wy (KF (k:=8) Z Z Z)<|wm Z<|wy (mV qw bn Z)<|wm Z<|wm Z<|wy (aF af sz5 Z Z (ac.c _))<|wy (aU bn Z Z (ac.c _))<|wy (bFc Z Z)<|wy (iR bn au Z (by have:=bFa (x:=x) (am.rd k);have:=KC (x:=x) (am.rd k);omega)) ?_;refine wa (aC bLf Z (Ct.quiet (λw hw=>aEp))) ?_;rintro _ _⟨rfl,rfl⟩;refine wy (ES Z Z)<|wn Z<|aK<|wm Z<|wA Z Z<|wn Z ?_;exact⟨k+1,(x>>>8)^^^(QE (BitVec.ofInt 32 ((BitVec.ofInt 8 (IntKind.u8.wrap (bv x))^^^BitVec.ofInt 8 (rd u k)).toNat:Int))),⟨G,G,(by rw[hx,OS ju G];have e:=bFa (x:=x) (am.rd k);rw[e,rA];rfl)⟩,G,KP⟩
 ·refine aR<|wq<|wm Z<|wy (bFf (p:=x) Z)<|wn Z<|bQ ?_;refine⟨_,Z,?_⟩;refine bu (Value.int .u32) (bu bv ?_);rw[NY G] at hx;unfold gQ;rw[hx,BitVec.xor_comm];rfl
theorem aXk (w:World):(Instr.build 203 #[]).run Tryz.prog w= .ok (.agg (vJ 0 0 0 (List.replicate 256 0)).toArray) w:=cA
theorem oU:
  CF 77 #[] w (λv R'=> ∃g,v=PG g/\R'=[dO 203 g 0 0 0 (List.replicate 256 0)]):=by
 refine fn1 Tryz.func77 Z Z Z ?_;refine wq<|wn Z<|wq<|wy (aPw aXk)<|wa (cB (sz:=260) Z cA) ?_;rintro _ _⟨aq,rfl,rfl⟩;refine wn Z<|aT [0] 99 cC Z ?_;exact⟨_,Z,_,Z,Z⟩
theorem aOp (hr:0<=r/\r<1000000):
  CT 209 #[.pointer (some ⟨g,3,none⟩), .int .i32 1] B w0 (dO T g d s r t::R) (λv R'=>v= .int .i32 (r+1)/\R'=dO T g d s (r+1) t::R):=by
 refine fn1 Tryz.func209 Z Z Z ?_;refine wq<|wn Z<|wq<|wm Z<|wy (aG Z)<|wy (yF 0 3 underlying200 bNr Z)<|wm Z<|wa (aKd Z (λw hw=>aZb hr hw)) ?_;rintro _ _⟨rfl,rfl⟩;refine wn Z<|bQ ?_;exact⟨_,Z,Z,Z⟩
theorem aBl (hr:0<=r/\r<1000000) (ht:t.length=256):
  CT 137 #[PG g] B w0 (dO T g d s r t::R) (λv R'=>v= .tuple #[]/\R'=dO T g d s (r+1) sQ::R):=by
 refine fn0 Tryz.func137 Z Z Z ?_;refine wq<|wm Z<|wy (aG Z)<|wy (yF 3 3 Hy bIx Z)<|wa (aC bLk Z (Ct.at 0 Z (aOp G))) ?_;rintro _ _⟨rfl,rfl⟩;refine aA<|wq<|wm Z<|aA<|aH ?_;refine gZ (λ(k:Int)=>[(0,PG g),(9,I k)]) (λk=>(dO T g d s (r+1) (sQ.take k.toNat++t.drop k.toNat)::R)) (λk=>(0<=k)/\(k<=256)) (λk=>(256-k).toNat) ?_ ?_
 ·exact⟨0,⟨G,G⟩,KP⟩
 intro k ⟨ju,tz⟩;refine wq<|wL Z Z<|aA<|aD<|bA Z (λba=> ?_) (λba=> ?_)
 ·refine aI<|aD<|aH<|wq<|wm Z<|wn Z<|wq<|wm Z<|wy (UF au qw Z)<|wn Z<|aD ?_;refine wq<|wm Z<|aA<|aH ?_;refine dI (λ(j:Int) (x:BitVec 32)=>[(0,PG g),(2,I k),(3, .int .u32 (bv x)),(9,I k),(14,I j)]) (λj x=>(dO T g d s (r+1) (sQ.take k.toNat++t.drop k.toNat)::R)) (λj x=>(0<=j)/\(j<=8)/\(QE (BitVec.ofInt 32 k)=GQ (8-j).toNat x)) (λj x=>(8-j).toNat) ?_ ?_
  ·exact⟨0,BitVec.ofInt 32 k,⟨G,G,(Z)⟩,KP⟩
  intro j x ⟨sf,hj8,hx⟩;refine wq<|wL Z Z<|aA<|aD<|bA Z (λcj=> ?_) (λcj=> ?_)
  ·refine aI<|aD<|aH<|wq<|wm Z<|wy (aCq (p:=x) (q:=1#32) Z Z)<|wn Z<|wq<|wm Z<|wy (KF (k:=1) Z Z Z)<|wn Z ?_;refine wq<|wm Z<|wy (bDm (p:=x &&& (1#32)) (q:=1#32) Z Z)<|aA<|bA Z (λfh=> ?_) (λfh=> ?_)
   ·refine aK<|wm Z<|wy (ES (p:=x>>>1) (q:=3988292384#32) Z Z)<|wn Z<|aK<|wA Z Z<|wm Z<|aA ?_;exact⟨j+1,(x>>>1)^^^(3988292384#32),⟨G,G,(by rw[hx,yR G];unfold TG;rw[di cF])⟩,G,KP⟩
   ·refine aI<|aK<|wA Z Z<|wm Z<|aA ?_;exact⟨j+1,x>>>1,⟨G,G,(by rw[hx,yR G];unfold TG;rw[df cF])⟩,G,KP⟩
  ·refine aR<|aK<|wm Z<|wm Z<|wm Z<|wy (aG Z)<|wy (yF 4 4 Hy bDs Z)<|wy (QH 0 Z Z underlying201 aQv Z Z (by show _<(vJ _ _ _ _).length;rw[GR,ah,ax,az,xM,ht];omega) G G) ?_;refine dC (bE 0 Z Z Z aQv Z Z Z Z (by show _<(vJ _ _ _ _).length;rw[GR,ah,ax,az,xM,ht];omega)) ?_;rintro _ _ rfl;refine gM (R1:=(dO T g d s (r+1) (sQ.take (k+1).toNat++t.drop (k+1).toNat)::R)) (by have hj:j=8:=G;subst hj;have hf:=aOn ht ju (show k<256 by omega);rw[hx] at hf;simp only[Fy,dO,aOo];rw[<-hf];rfl) ?_;refine aA<|aK<|wA Z Z<|wm Z<|aA ?_;exact⟨k+1,⟨G,G⟩,G,KP⟩
 ·refine aR ?_
  skip
  obtain rfl:k=256:=G
  refine⟨Z,?_⟩;have e:sQ.take (256:Int).toNat++t.drop (256:Int).toNat=sQ:=by rw[bi (by rw[xM];decide),qd (by rw[ht];decide),jh]
  rw[e]
theorem bAi {g:Nat} (ge:(d=0/\r'=r+1/\t.length=256/\0<=r/\r<1000000)\/(d=1/\r'=r/\t=sQ)):
  CT 136 #[PG g, .func (.func 137) #[PG g] #[]] B w0 (dO T g d 0 r t::R) (λv R'=>v= .tuple #[]/\R'=dO T g 1 0 r' sQ::R):=by
 rcases ge with⟨rfl,rfl,ht,hr⟩|⟨rfl,rfl,rfl⟩
 ·exact aMf (λw hw=>(aBl hr ht w hw).mono (by rintro e w' ⟨v,R',rfl,hh,rfl,rfl⟩;exact⟨rfl,hh⟩))
 ·exact aTj
theorem oQ {A:AF} {m c:Nat} {vals:AG} {ls:AD} (ge:(d=0/\r'=r+1/\t.length=256/\0<=r/\r<1000000)\/(d=1/\r'=r/\t=sQ)) (hA:RdC B w0 R A m c 1 vals) (hm:m=vals.length) (yi:yZ B w0 R vals ls) (Kw:Big ls):
  CT 78 #[PG g,sl A m c] B w0 (dO T g d 0 r t::R) (λv R'=>v= .int .u32 (bv (gQ ls.flatten))/\R'=dO T g 1 0 r' sQ::R):=by
 refine fn1 Tryz.func78 Z Z Z ?_;have ua:=Kw.1;have ox:=yi.1;refine wq<|wn Z<|aD<|wq<|wm Z<|wy (kZ underlying124 Z Z)<|aA<|aP Z<|aI<|wq<|wm Z ?_;refine wy (aG Z)<|wy (yF 0 0 Hy bIy Z)<|wm Z<|wy (mG Z Z)<|wa (aC bMl Z (Ct.at 0 Z (bAi ge))) ?_;rintro _ _⟨rfl,rfl⟩;refine aA<|wq<|wn Z<|aD<|wq<|wm Z<|wy (aL ay Z)<|wm Z<|aA<|aH ?_;refine dI (λ(k:Int) (x:BitVec 32)=>[(0,PG g),(5, .int .u32 (bv x)),(18,sl A m c),(19,I (m:Int)),(20,I k)]) (λk x=>(dO T g 1 0 r' sQ::R)) (λk x=>(0<=k)/\(k<=m)/\(EH 4294967295#32 ls.flatten=EH x (ls.drop k.toNat).flatten)) (λk x=>(m-k).toNat) ?_ ?_
 ·exact⟨0,4294967295#32,⟨G,G,(Z)⟩,KP⟩
 intro k x ⟨ju,tz,hx⟩;refine wq<|wL Z Z<|aA<|aD<|bA Z (λba=> ?_) (λba=> ?_)
 ·refine aI<|aD<|aH<|wq<|wy (aF ay dH Z Z (RdC.tail hA)) ?_;obtain⟨A1,c1,l1,Ul,yd,Ox,vl⟩:=yi.at ju (by have:=yi.1;omega);have zr:=Kw.2 _ _ yd;refine wy (lC af Z Z Z (RdC.tail hA) Ul)<|wn Z<|wq<|wm Z<|wy (aL af Z)<|wm Z<|aA<|aH ?_;refine dI (λ(j:Int) (y:BitVec 32)=>[(0,PG g),(5, .int .u32 (bv y)),(18,sl A m c),(19,I (m:Int)),(20,I k),(24,sl A1 l1.length c1),(25,I (l1.length:Int)),(26,I j)]) (λj y=>(dO T g 1 0 r' sQ::R)) (λj y=>(0<=j)/\(j<=l1.length)/\(EH 4294967295#32 ls.flatten=EH y (l1.drop j.toNat++(ls.drop (k+1).toNat).flatten))) (λj y=>(l1.length-j).toNat) ?_ ?_
  ·exact⟨0,x,⟨G,G,(by rw[hx,drop_flat ju yd];rfl)⟩,KP⟩
  intro j y ⟨sf,l6,hy⟩;refine wq<|wL Z Z<|aA<|aD<|bA Z (λcj=> ?_) (λcj=> ?_)
  ·refine aI<|aD<|aH<|wq<|wy (aF af sz5 Z Z (RdC.tail Ox))<|wy (aU bn Z Z (RdC.tail Ox))<|wn Z<|aK<|wm Z<|wy (KF (k:=8) Z Z Z)<|wm Z<|wm Z<|wy (aCq (p:=y) (q:=255#32) Z Z) ?_;refine wm Z<|wy (UF bn qw Z)<|wy (ES Z Z)<|wy (aG Z)<|wy (yF 4 4 Hy bDs Z)<|wy (QH 0 Z Z underlying201 aQv Z Z (by show _<(vJ _ _ _ _).length;rw[GR,xM];omega) (by exact(KC (x:=y) (vl.rd j)).1) (by exact(KC (x:=y) (vl.rd j)).2)) ?_;refine wy (bFg 0 Z Z qw Z Z (aXa (bCh (KC (x:=y) (vl.rd j)).2)))<|wy (ES Z Z)<|wn Z<|aK<|wA Z Z<|wm Z<|aA ?_;exact⟨j+1,(y>>>8)^^^(QE (aBv y (rd l1 j))),⟨G,G,(by rw[hy,OS sf G];rfl)⟩,G,KP⟩
  ·refine aR<|aK<|wA Z Z<|wm Z<|aA ?_;exact⟨k+1,y,⟨G,G,(by rw[hy,NY G];rfl)⟩,G,KP⟩
 ·refine aR<|wq<|wm Z<|wy (ES (p:=x) (q:=4294967295#32) Z Z)<|wn Z<|bQ ?_;refine⟨_,Z,?_⟩;refine⟨?_,Z⟩;rw[NY G] at hx;unfold gQ;rw[hx];rfl
end Go.Proofs.YtdbebmmhdefgdaaGreat
namespace Go.Eng
open Go Go.RowKit Go.Pure
section
variable {P:Program} {n:Nd} {B:Nat} {w0:World} {L:Env} {R:List Row} {ty:TypeId}
theorem aYd {f:FuncId} {fn:Func} {x:Operand} {ts:Array TypeId} {m:Nat} {ps:Array TypeId} {t e:TypeId} (hf:P.funcs[f]? =some fn) (f8:(fn.name== "runtime.NumGoroutine")=false) (hb:fn.body.isNone=true) (hn:Extern.findNext fn=none) (he:Extern.find fn=some (Extern.BytealgMakeNoZero.makeNoZero ps #[t]))
  (ht:P.underlying t=some (.slice e)) (hx:ev L x=some (.int .i64 (m:Int))) (hm:m<=1000000):
  Ac P n B w0 (.call {callee:= .value (.func f),args:=[x].toArray,argTypes:=ts}) ty L R (λv R'=> ∃g C,m<=C/\v= .slice (some ⟨g,0,none⟩) m C/\R'=⟨e,1,some ⟨g,0,none⟩,0,C,ints .u8 [],false⟩::R):=
 WZ (vs:=[.int .i64 (m:Int)]) (by simp[evs,hx]) λw hw=>by
  obtain⟨cs,hr,Ds,ox⟩:=Lib.run_makeNoZero (P:=P) w ps t e ht m G;have pe:=((hw.drawn (w.drawn+1+1) G).newC cs e m Ds (ox (by unfold maxLen;omega))).cut (k:=0) (qg _) cD;refine⟨_,_,_,?_,pe,w.heap.size,cs.size,Ds,rfl,by simp[ints]⟩;rw[Fg hf f8 hb hn he];rw[show [Value.int .i64 (m:Int)].toArray= #[.int .i64 m] from rfl,hr];rfl
theorem UB {x y:Operand} {t t2 e:TypeId} {pp:AF} {g p dl dc c m2 c2:Nat} {A2:AF} {k:IntKind} {D src:AH} (i:Nat) (hi:R[i]? =some ⟨e,1,some ⟨g,0,none⟩,p,c,ints k D,false⟩) (ht:P.underlying t=some (.slice e)) (ge:(P.info? e).map (·.size)=some 1)
  (hx:ev L x=some (.slice pp dl dc)) (hy:ev L y=some (.slice A2 m2 c2)) (Lk:pp=some ⟨g,p,none⟩) (hdl:p+dl<=c) (gr:RdC B w0 R A2 m2 c2 1 (ints k src)):
  Ac P n B w0 (.call {callee:= .builtin .copy,args:= #[x,y],argTypes:= #[t,t2]}) ty L R (λv R'=>v= .int .i64 ((min m2 dl:Nat):Int)/\R'=R.set i ⟨e,1,some ⟨g,0,none⟩,p+min m2 dl,c,ints k (D++src.take (min m2 dl)),false⟩):=by
 intro a w o K Q ho Hk hs hw hk;have ij:=Row.lies_w (hw.own _ (gu hi)) rfl;have i5:=gr w hw;have Qd:m2=src.length:=i5.lenI;have hl:p=D.length:=by have:=ij.1;rw[bX] at this;simp only at this;omega
 rcases ij.2 with⟨hv,_⟩|⟨g',cap,cur,hv,hb,hg,hnc,tc,ke,k8⟩
 ·simp at hv
 simp only[ku,mr,Az,Aj,Ak] at hv;obtain⟨rfl,rfl⟩:=hv;simp only at k8 ke hnc hg hb;rw[qf] at k8 ke;subst Lk;obtain⟨q,hq⟩: ∃q,min m2 dl=q:=⟨_,rfl⟩;rw[hq] at hk;have Ql:Nat.min m2 dl=q:=hq;have kt:(ints k (src.take q)).length=q:=by rw[bX,ax];omega
 rcases ek m2 with hz|ff
 ·have js:q=0:=G
  have oy:=run_copy_none (P:=P) w t t2 o.type e (some ⟨g,p,none⟩) A2 dl dc m2 c2 ht ge (by rw[hz];exact Nat.zero_min _);unfold Oper.wp execOp;simp only[ho,resolve,invoke,builtin,jq,ng,jm,uf,ko,qx,hs.ev hx,hs.ev hy,oy,Oper.upon];refine hk (.int .i64 ((0:Nat):Int)) w R hw ⟨by rw[js],?_⟩;rw[js];simp only[zh,jh,qp]
  exact(by
   apply ul;intro j;rw[xm];split
   ·rename_i e;subst e;rw[di (fw.1 hi).1,hi]
   ·rfl)
 ·obtain ⟨a2,rfl⟩: ∃a2,A2=some a2:=by
   obtain⟨a2,h,_⟩:=i5.at_ 0 _ (av (by rw[bX];omega));exact⟨a2,h⟩
  have oy:=run_copy_row P w t t2 o.type e g p dl dc a2 m2 c2 cur e (ints k (src.take q)) ht ge hg (by rw[kt];exact hq.symm) (λj v hv=>by
   obtain⟨b,h1,h2⟩:=i5.at_ j v (by
    rw[ints,Cb] at hv;rw[ou] at hv;split at hv
    ·exact hv
    ·cases hv)
   obtain rfl:=je h1
   exact h2) (by rw[kt,ke];omega) (DL k _)
  rw[kt] at oy;unfold Oper.wp execOp;simp only[ho,resolve,invoke,builtin,jq,ng,jm,uf,ko,qx,hs.ev hx,hs.ev hy,oy,Oper.upon];refine hk (.int .i64 (q:Int)) _ _ ?_ ⟨rfl,rfl⟩;refine hw.upd hi (row:=some g) ⟨rfl,rfl,rfl,cD,λj _ hj=>Je w g j _ (λe=>hj (by simp[e]))⟩ (dx _) (λj hj=>by cases hj;exact⟨_,rfl,rfl⟩) ?_ (λa' np=> .inl ⟨a',np,rfl⟩);unfold Row.lies;simp only;refine⟨?_, .inr ⟨g,c,_,rfl,hb,Jy w g cur _ e _ hg,G,tc,?_,?_⟩⟩
  ·simp only[bX,ah,ax];omega
  ·simp only[ql,ah,ax,az,jy,bX];omega
  ·simp only[qf];rw[sF,<-k8]
   have h1:(cur.toList.take p++ints k (src.take q)).length=p+q:=by
    rw[ah,kt,ax,jy];omega
   rw[List.take_append,h1,bi G,Dj,zh,jh]
theorem aPo {x y:Operand} {t e:TypeId} {A:AF} {m c sz:Nat} {k1:IntKind} {vh:Int} (ht:P.underlying t=some (.slice e)) (hi:(P.info? e).map (·.size)=some sz) (hx:ev L x=some (.slice A m c)) (hy:ev L y=some (.int k1 vh)) (h0:0<=vh) (hc:vh<=c):
  Yl P n B w0 (.slice t x none (some y) none) ty L R (.slice A vh.toNat c):=by
 intro a w o ho _ hs hp;obtain⟨i0,bb,hsz0⟩:=iw.1 hi;have ue:P.elem t=e:=by simp[Program.elem,ht]
 have rn:P.underlying t=some (.slice (P.elem t)):=by rw[ue];exact ht
 simp only[execOp,ho,kv,Ay,hs.ev hx,hs.ev hy,jq,Aa w t _ _ _ _ rn,run_slice_h w t A m c rn k1 vh h0 hc,ue]
 have:(if c=0 then A else Option.map (λx=>x.add 0) A)=A:=by
  split
  ·rfl
  ·exact CP A
 simp[sizeOf,typeInfo,bb,hsz0,sliced,this]
theorem aKi {x y z:Operand} {t e:TypeId} {A:AF} {m c h sz:Nat} {k1 k2:IntKind} {vh vm:Int} (ht:P.underlying t=some (.slice e)) (hi:(P.info? e).map (·.size)=some sz) (hx:ev L x=some (.slice A m c)) (hy:ev L y=some (.int k1 vh)) (hz:ev L z=some (.int k2 vm)) (e1:vh=(h:Int)) (e2:vm=(h:Int)) (hc:h<=c):
  Yl P n B w0 (.slice t x none (some y) (some z)) ty L R (.slice A h h):=by
 subst e1;subst e2;intro a w o ho _ hs hp;obtain⟨i0,bb,hsz0⟩:=iw.1 hi;have ue:P.elem t=e:=by simp[Program.elem,ht]
 have rn:P.underlying t=some (.slice (P.elem t)):=by rw[ue];exact ht
 simp only[execOp,ho,kv,Ay,hs.ev hx,hs.ev hy,hs.ev hz,jq,Aa w t _ _ _ _ rn,run_slice_hm w t A m c rn k1 k2 (h:Int) (h:Int) G G G,ue]
 have:(if h=0 then A else Option.map (λx=>x.add 0) A)=A:=by
  split
  ·rfl
  ·exact CP A
 simp[sizeOf,typeInfo,bb,hsz0,sliced,this]
theorem Row.lies_ro {w:World} {e sz m c c':Nat} {A:AF} {xs:AG} (h:Row.lies B w ⟨e,sz,A,m,c,xs,false⟩) (hA:A≠none) (hc:m<=c'):Row.lies B w ⟨e,sz,A,m,c',xs,true⟩:=by
 have h1:=Row.lies_w h rfl;unfold Row.lies;simp only;obtain⟨hl,h2⟩:=h1;simp only at hl h2;rcases h2 with⟨hv,_⟩|⟨g,cap,cur,hv,hb,hg,hnc,tc,ke,ht⟩
 ·simp only[ku] at hv;exact absurd hv.1 hA
 ·simp only[ku] at hv;obtain⟨rfl,_,rfl⟩:=hv;exact⟨g,cur,_,rfl,hb,hg,G,hc,hl,ht⟩
theorem Hp.toRo {w:World} {e sz m c c':Nat} {A:AF} {xs:AG} (h:Hp B w0 w (⟨e,sz,A,m,c,xs,false⟩::R)) (hA:A≠none) (hc:m<=c'):Hp B w0 w (⟨e,sz,A,m,c',xs,true⟩::R):=
 ⟨h.below,h.base,λr hr=>by
  rcases jc.1 hr with rfl|hr
  ·exact Row.lies_ro (h.own _ (.head _)) hA hc
  ·exact h.own r (.tail _ hr),by
  obtain⟨h1,h2⟩:=ja.1 h.apart
  exact ja.2 ⟨λr hr=>h1 r hr,h2⟩,h.late⟩
theorem RdC.capI {A:AF} {m c c':Nat} {k:IntKind} {l:AH} (h:RdC B w0 R A m c 1 (ints k l)) (hc:m<=c'):RdC B w0 R A m c' 1 (ints k l):=λw hw=>
 let q:=h w hw
 ⟨q.len,q.max,hc,q.at_⟩
structure XC (u D:AH) (N:Nat) (p:Int):Prop where
 p0:0<=p
 pN:p<=N
 up:(u.length:Int)<=p
 len:(D.length:Int)=p
 at_: ∀j:Nat,j<p->lt D j=om u j
 dvd:p=N\/(u.length:Int)∣p
theorem bGw {D E:AH} {j:Nat}:lt (D++E) j=if j<D.length then lt D j else lt E (j-D.length):=by
 unfold lt;rw[ai];split
 ·rw[jl G,ai]
 ·rw[ji G,ai]
theorem lt_take {D:AH} {j q:Nat} (h:j<q):lt (D.take q) j=lt D j:=by
 unfold lt;rw[ai,rf h,ai]
theorem XC.init {u:AH} {N:Nat} (hu:u.length<=N):XC u ([]++u.take (min u.length N)) N ((min u.length N:Nat):Int):=by
 have e:min u.length N=u.length:=G
 rw[e,jd,ow];exact⟨G,G,G,rfl,λj hj=>(pQ G).symm, .inr (Int.dvd_refl _)⟩
theorem XC.step {u D:AH} {N:Nat} {p:Int} (h:XC u D N p) (hu:0<u.length) (hp:p<N):
  XC u (D++(D.take (min p N).toNat).take (min (min p N).toNat (N-p.toNat))) N (p+((min (min p N).toNat (N-p.toNat):Nat):Int)):=by
 obtain⟨p0,pN,up,len,at_,dvd⟩:=h;have e:min p (N:Int)=p:=G
 rw[e];obtain⟨q,hq⟩: ∃q,min p.toNat (N-p.toNat)=q:=⟨_,rfl⟩;rw[hq];have hd:(u.length:Int)∣p:=dvd.resolve_left G;refine⟨G,G,G,by rw[ah,ax,ax];omega,λj hj=> ?_,?_⟩
 ·rw [bGw];split
  ·exact at_ j G
  ·rename_i hc;rw[lt_take G,lt_take G,at_ _ G];obtain⟨k,hk⟩:=hd
   have ju:0<=k:=by
    rcases bz k 0 with g|g
    ·have:=Af (show(0:Int)<=u.length by omega) (show 0<= -k by omega);rw[Int.mul_neg] at this;omega
    ·exact g
   have e3:D.length=u.length*k.toNat:=by
    have:(D.length:Int)=((u.length*k.toNat:Nat):Int):=by rw[len,hk,Av,lm ju]
    exact_mod_cast this
   have:=(pX u).mul k.toNat (j-D.length);rw[<-this,<-e3,rq G]
 ·rcases gm q p.toNat with g|g
  ·left;omega
  ·right;have:(q:Int)=p:=G
   rw[this];exact Int.dvd_add hd hd
theorem XC.done {u D:AH} {cn:Int} {N:Nat} {p:Int} (h:XC u D N p) (hp: ¬p<N) (hN:N=cn.toNat*u.length):D=rep u cn:=by
 have hl:=h.len;have hpN:=h.pN;refine bL (by rw[oC];omega) λj h0 h1=> ?_;have h2:=h.at_ j.toNat G;have h3:=LY u cn.toNat j.toNat G;rw[NI,h2,<-h3];unfold rd rep;rw[cz]
end
end Go.Eng
namespace Go.Proofs
open Go.Shelf
def Tryz.laysRing_ren:Go.Shelf.Ren:=⟨λ|6=>117|15=>192|14=>191|28=>251|29=>252|20=>243|21=>244|22=>245|23=>246|24=>247|25=>248|26=>249|27=>250|46=>281|47=>282|48=>283|49=>284|50=>285|57=>305|n=>n,λ|22=>114|24=>117|25=>171|3=>3|39=>167|0=>0|53=>123|55=>112|4=>4|46=>289|45=>288|50=>97|5=>5|9=>9|66=>316|70=>320|76=>337|77=>338|n=>n,λ|n=>n⟩
theorem Tryz.laysRing:Go.Proofs.SlLaysF0.n6 Tryz.prog Tryz.laysRing_ren:= {
 mixed:=cA
 f6:=⟨Tryz.f117.name,cC,Tryz.func117.trans (bu some cA)⟩
 f14:=⟨Tryz.f191.name,cC,Tryz.func191.trans (bu some cA)⟩
 f15:=Tryz.func192.trans (bu some cA)
 f20:=⟨Tryz.f243.name,cC,Tryz.func243.trans (bu some cA)⟩
 f21:=⟨Tryz.f244.name,cC,Tryz.func244.trans (bu some cA)⟩
 f22:=⟨Tryz.f245.name,cC,Tryz.func245.trans (bu some cA)⟩
 f23:=⟨Tryz.f246.name,cC,Tryz.func246.trans (bu some cA)⟩
 f24:=⟨Tryz.f247.name,cC,Tryz.func247.trans (bu some cA)⟩
 f25:=⟨Tryz.f248.name,cC,Tryz.func248.trans (bu some cA)⟩
 f26:=⟨Tryz.f249.name,cC,Tryz.func249.trans (bu some cA)⟩
 f27:=⟨Tryz.f250.name,cC,Tryz.func250.trans (bu some cA)⟩
 f28:=Tryz.func251.trans (bu some cA)
 f29:=Tryz.func252.trans (bu some cA)
 f46:=⟨Tryz.f281.name,cC,Tryz.func281.trans (bu some cA)⟩
 f47:=Tryz.func282.trans (bu some cA)
 f48:=Tryz.func283.trans (bu some cA)
 f49:=⟨Tryz.f284.name,cC,Tryz.func284.trans (bu some cA)⟩
 f50:=⟨Tryz.f285.name,cC,Tryz.func285.trans (bu some cA)⟩
 f57:=⟨Tryz.f305.name,cC,Tryz.func305.trans (bu some cA)⟩
 t0:=Dx
 a0:=Jt
 z0:=Iz
 v0:=Ez
 t3:=Br
 a3:=Ha
 z3:=Fq
 v3:=Ck
 t4:=Dy
 a4:=Ju
 z4:=Ja
 v4:=Fa
 t5:=Dz
 a5:=Jv
 z5:=Jb
 v5:=Fb
 t9:=Ea
 a9:=Jw
 z9:=Jc
 v9:=Fe
 t22:=Tryz.underlying114
 a22:=Tryz.isAgg114
 z22:=Tryz.sizeOf114
 v22:=Tryz.zeroValue114
 t25:=Tryz.underlying171
 a25:=Tryz.isAgg171
 z25:=Tryz.sizeOf171
 v25:=Tryz.zeroValue171
 t39:=Ao
 a39:=Ed
 z39:=Dk
 v39:=Be
 t45:=Gc
 a45:=Tryz.isAgg288
 z45:=Tryz.sizeOf288
 v45:=He
 t46:=Gf
 a46:=Tryz.isAgg289
 z46:=Tryz.sizeOf289
 v46:=Hf
 t50:=Hd
 a50:=Tryz.isAgg97
 z50:=Tryz.sizeOf97
 v50:=Ie
 t53:=Cu
 a53:=Hw
 z53:=Gb
 v53:=Dm
 t55:=Cs
 a55:=Hu
 z55:=Ga
 v55:=Dl
 t66:=Gg
 a66:=Tryz.isAgg316
 z66:=Tryz.sizeOf316
 v66:=Hg
 t70:=Gh
 a70:=Tryz.isAgg320
 z70:=Tryz.sizeOf320
 v70:=Hl
 t76:=Gi
 a76:=Tryz.isAgg337
 z76:=Tryz.sizeOf337
 v76:=Hm
 t77:=Gj
 a77:=Tryz.isAgg338
 z77:=Tryz.sizeOf338
 v77:=Ho}
end Go.Proofs
namespace Go.Proofs.YtdbebmmhdefgdaaGreat
open Go Go.Eng Go.Pure
open Tryz
set_option maxRecDepth 100000
variable {w:World} {u:AH} {ws:AD} {i:Int} {l lr:List RC}
theorem bAs {B:Nat} {w0:World} {R:List Row} (x y:Nat) (hx:x<=1000000) (hy:y<=1000000) (h:x*y<=1000000):CT 122 #[.int .u64 (x:Int), .int .u64 (y:Int)] B w0 R (λv R'=>v= .tuple #[.int .u64 0, .int .u64 ((x*y:Nat):Int)]/\R'=R):=by
 intro w hw;have hc:=Tryz.bits_Mul x y G G w;rw[Dw G,lh G] at hc;refine hc.mono ?_;rintro e w' ⟨rfl,rfl⟩;exact⟨_,R,Z,hw,Z,Z⟩
theorem QJ {p:Int} (h:0<=p/\p<=18446744073709551615):IntKind.u64.wrap p=p:=by rw[Ia];omega
theorem aEa {ap:AF} {bl an:Nat} {cn:Int} (ac:Rd w ap bl an 1 (ints .u8 u)) (hu:0<u.length) (hc:1<=cn) (hP:cn.toNat*u.length<=8000):
  CF 72 #[sl ap bl an,I cn] w (λv R'=> ∃A c,v=sl A (rep u cn).length c/\R'=[⟨5,1,A,(rep u cn).length,c,ints .u8 (rep u cn),true⟩]):=by
 obtain rfl:=ac.lenI;refine fn1 Tryz.func72 Z Z Z ?_;have kc:=ac.max;obtain⟨N,Xs⟩: ∃N:Nat,u.length*cn.toNat=N:=⟨_,rfl⟩;have hN2:cn.toNat*u.length=N:=by rw[zy];exact Xs
 have hN3:u.length<=N:=by rw[<-hN2];exact Di _ G
 have hN4:cn.toNat<=N:=by rw[<-Xs];exact Di _ hu
 refine wq<|wn Z<|aD<|wq<|wm Z<|wy (Yl.f (fD Z Z))<|aA<|aP Z<|aI<|aD<|wq ?_;refine wm Z<|wy (Yl.f (eZ Z Z))<|aA<|aP Z<|aI<|wq<|wm Z<|wy (aL af Z)<|wy (Yl.is (mV au Cf Z) (by rw[QJ G])) ?_;refine wm Z<|wy (Yl.is (mV au Cf Z) (show Value.int .u64 (IntKind.u64.wrap cn)=Value.int .u64 (cn.toNat:Int) from by rw[QJ G,lm G]))<|wa (aC bEw rfl (bAs u.length cn.toNat G G G)) ?_;rw[Xs];rintro _ _⟨rfl,rfl⟩;refine wm Z<|wX Z Z<|wX Z Z<|wg Z<|wn Z<|aD<|wq<|wm Z<|wy (Yl.f (dA Z Z))<|wm Z<|aB Z Z<|wm Z<|aB Z Z ?_;refine wy (Yl.f (dA Z Z))<|wy (aO Z Z)<|aA<|aP Z<|aI<|wq<|wm Z<|wy (iR Cf au Z)<|wn Z<|aD<|wq<|wm Z ?_;refine wy (aL af Z)<|wy (Yl.f (fD Z Z))<|aA<|aP Z<|aI<|wq<|wm Z<|wn Z<|aD<|wq<|wm Z<|wy (Yl.f (dA Z Z)) ?_;refine aA<|aP Z<|aI<|wq<|wm Z<|wa (aYd (m:=N) (ps:= #[3]) Tryz.func123 cA cA cA cA af Z G) ?_;rintro _ _⟨aq,C_2,hC,rfl,rfl⟩;refine wm Z<|wm Z<|wy (aKi (h:=N) af sz5 Z Z Z Z Z hC)<|wn Z<|wq<|wm Z<|wm Z<|wa (UB (dl:=N) 0 Z af sz5 Z Z (Z) G (ac.c _)) ?_;rintro _ _⟨rfl,rfl⟩;refine wn Z<|aD<|aH ?_;refine gN (λ(p:Int) (n1:Nat) (D:AH)=>[(7,I (N:Int)),(8,I (N:Int)),(9,sl (GG aq) N N),(10,I p)]) (λp n1 D=>[(ru 5 (GG aq) n1 C_2 D)]) (λp n1 D=>(n1=D.length)/\(XC u D N p)) (λp n1 D=>(N-p).toNat) ?_ ?_
 ·exact⟨((min u.length N:Nat):Int),(0+min u.length N),([])++List.take (min u.length N) u,⟨(by rw[jd,ax];omega),(XC.init hN3)⟩,KP⟩
 intro p n1 D ⟨cm,hI⟩;have hI1:=hI.p0;have hI2:=hI.pN;have hI3:=hI.len;have hI4:=hI.up;refine aD<|wq<|wm Z<|wm Z<|wL Z Z<|aA<|bA Z (λba=> ?_) (λba=> ?_)
 ·refine aI<|aH<|wq<|wm Z<|wm Z<|wy (sW Z Z)<|wn Z<|bF mixed<|wD 0 Z (aJ Z)<|wD 1 Z (aJ Z)<|wD 2 Z (aJ Z)<|wD 3 Z (dF af sz5 Z Z)<|wD 4 Z (aJ Z) ?_;refine wD 5 Z (aJ Z)<|wD 6 Z (aPo af sz5 Z Z G G)<|wC 7 Z (UB (dl:=(N-(p).toNat)) 0 Z af sz5 Z Z (by rw[aBe G,show p.toNat=n1 by omega]) G (RdC.capI (RdC.toI (rdr 0 Z) G) G)) ?_;rintro _ _⟨rfl,rfl⟩;refine⟨.inl cA,?_⟩;refine wD 8 Z (cK Z Z)<|wD 9 Z (bB Z)<|wN ?_;exact⟨p+((min ((min p (N:Int)).toNat) (N-(p).toNat):Nat):Int),(n1+min ((min p (N:Int)).toNat) (N-(p).toNat)),D++List.take (min ((min p (N:Int)).toNat) (N-(p).toNat)) ((D).take (min p (N:Int)).toNat),⟨(by rw[ah,ax,ax];omega),(hI.step hu G)⟩,G,KP⟩
 ·refine aR<|wq<|wm Z<|wn Z ?_;obtain rfl:=cm;obtain rfl:=hI.done G hN2.symm;have Qo:(rep u cn).length=N:=by rw[oC];omega
  refine bU (R1:=[⟨5,1,GG aq,(rep u cn).length,(rep u cn).length,ints .u8 (rep u cn),true⟩]) (λ_ h=>h.toRo cD (dx _)) ?_;rw[<-Qo];exact⟨_,Z,_,_,Z,Z⟩
theorem jD (h0:0<=i) (h1:i<ws.length):rdl ws i∈ws:=by
 unfold rdl;rw[ai,av G];exact mg _
theorem gT (h0:0<=i) (h1:i<ws.length):ws.take (i+1).toNat=ws.take i.toNat++[rdl ws i]:=by
 rw[show(i+1).toNat=i.toNat+1 by omega,qm,av G];unfold rdl;rw[ai,av G];rfl
theorem aTf (x y:AH) (a b:Int):orL [cmpL x y,iG a b]=kM (x,a) (y,b):=by
 unfold kM orL orL orL;simp only;split
 ·rfl
 ·split
  ·rfl
  ·omega
theorem aLu {A:AF} {c:Nat} (h0:0<=i) (h1:i<ws.length) (hl:l.map RC.rt=dE (ws.take i.toNat)) (ht:0<gB (lw (rdl ws i))):(l++[(⟨A,c,jR (lw (rdl ws i)),gB (lw (rdl ws i))⟩:RC)]).map RC.rt=dE (ws.take (i+1).toNat):=by
 have hp:0<(rdl ws i).length:=by
  rcases ek (rdl ws i).length with z|z
  ·rw [dw z] at ht;simp[bGu,gB] at ht
  ·exact z
 rw[iv,hl,gT h0 h1,kT];congr 1;unfold dE;simp[hp,RC.rt,lQ]
theorem aRu (h0:0<=i) (h1:i<ws.length) (hl:l.map RC.rt=dE (ws.take i.toNat)) (ht: ¬0<gB (lw (rdl ws i))):l.map RC.rt=dE (ws.take (i+1).toNat):=by
 have hp:(rdl ws i).length=0:=by
  rcases ek (rdl ws i).length with z|z
  ·exact z
  ·exact absurd (sZ (c:=lw (rdl ws i)) (by rw[kL];exact z)) ht
 rw[hl,gT h0 h1,kT];unfold dE;simp[hp]
theorem pM (ws:AD):(dE ws).length<=ws.length:=by
 unfold dE;rw[bq];exact yc _ _
theorem wY (h:aN u):aN (lw u):=aN.append (h.drop _) (h.take _)
theorem aUn:Go.Sort.SWO (Go.Proofs.ltOf λx y:RC=>kM x.rt y.rt):=by
 have e: ∀x y:RC,Go.Proofs.ltOf (λx y:RC=>kM x.rt y.rt) x y=true↔kM x.rt y.rt<0:=λx y=>by simp[Go.Proofs.ltOf]
 have e': ∀x y:RC,Go.Proofs.ltOf (λx y:RC=>kM x.rt y.rt) x y=false↔kM y.rt x.rt<=0:=λx y=>by
  rw[<-Bool.not_eq_true,e,qK x.rt y.rt];omega
 refine⟨λx=> ?_,λx y z h1 h2=> ?_,λx y z h1 h2=> ?_⟩
 ·rw[e',(VR x.rt x.rt).2 rfl];omega
 ·rw [e] at h1 h2 ⊢;have h3:=JY x.rt y.rt z.rt G G;rcases Cm h3 with g|g
  ·exact g
  ·have g2:=(VR _ _).1 g;rw[g2,qK y.rt z.rt] at h1;omega
 ·rw [e'] at h1 h2 ⊢;exact JY _ _ _ h2 h1
theorem aZo {ws:AD} {M:Nat} (hl:lr.map RC.rt=fI ws) (hM: ∀w∈ws,w.length<=M) {r:RC} (hr:r∈lr):0<r.root.length/\1<=r.times/\r.times.toNat*r.root.length<=M:=by
 have h1:r.rt∈fI ws:=by rw[<-hl];exact List.mem_map_of_mem hr
 obtain⟨w,hw,hp,e⟩:=tV h1;have da:0<(lw w).length:=by rw[kL];exact hp
 have e1:r.root=jR (lw w):=bu Prod.fst e;have e2:r.times=gB (lw w):=bu Prod.snd e;have h2:=LQ da;have h3:=pK da;have h4:=sZ da;have h5:=bu List.length (rW da);rw[oC,kL] at h5;rw[e1,e2];exact⟨G,G,by rw[h5];exact hM w hw⟩
theorem aGj (h0:0<=i) (h1:i<lr.length):(lr.take (i+1).toNat).map (λr=>rep r.root r.times)=(lr.take i.toNat).map (λr=>rep r.root r.times)++[rep (rdG lr i).root (rdG lr i).times]:=by
 rw[show(i+1).toNat=i.toNat+1 by omega,qm,av G,iv];unfold rdG;rw[ai,av G];rfl
theorem aGk (hl:lr.map RC.rt=fI ws) (hi:(lr.length:Int)<=i):(lr.take i.toNat).map (λr=>rep r.root r.times)=canon ws:=by
 rw[bi G];unfold canon;rw[<-hl,qo];rfl
theorem aDw {n7:AF} {o0:Nat} {x:AH} {Wl:Int} {A_y:AF} {c_y:Nat} {y:AH} {Wm:Int} (mm:Rd w n7 x.length o0 1 (ints .u8 x)) (h_y:Rd w A_y y.length c_y 1 (ints .u8 y)) (n8:aN x) (Wx:aN y):
  CF 118 #[.agg #[sl n7 x.length o0,I Wl], .agg #[sl A_y y.length c_y,I Wm]] w (λv R'=>v=I (kM (x,Wl) (y,Wm))):=by
 refine fn1 Tryz.func118 Z Z Z ?_;refine wq<|wa (cB (sz:=2) Z Z) ?_;rintro _ _⟨aq,rfl,rfl⟩;refine wa (cB (sz:=2) Z Z) ?_;rintro _ _⟨fi,rfl,rfl⟩;refine wn Z<|aD<|bF mixed<|wD 0 Z (yF 0 0 yl dH Z)<|wD 1 Z (yL 1 af Z Z Z)<|wD 2 Z (yF 0 0 yl dH Z)<|wD 3 Z (yL 0 af Z Z Z)<|wD 5 Z (yF 1 1 yl sz3 Z)<|wD 6 Z (yL 1 au Z Z Z)<|wD 7 Z (yF 1 1 yl sz3 Z)<|wD 8 Z (yL 0 au Z Z Z)<|wC 4 Z (aC bMr Z (Ct.quiet (λw hw=>WJ ((mm.c _) w hw) ((h_y.c _) w hw) n8 Wx))) ?_;rintro _ _⟨rfl,rfl⟩;refine⟨.inr hiZ,?_⟩;refine wC 9 Z (aC aBa Z (Ct.quiet (λw hw=>pV))) ?_;rintro _ _⟨rfl,rfl⟩;refine⟨.inr hiZ,?_⟩;refine wC 10 Z (bH .i64 [cmpL x y,iG Wl Wm] aa zs3 Z Z Z) ?_;rintro _ _⟨io,rfl,rfl⟩;refine⟨.inr hrZ,?_⟩;refine wC 11 Z (aC bEx Z (Ct.quiet (λw hw=>aTg ((rdr 0 Z) w hw)))) ?_;rintro _ _⟨rfl,rfl⟩;refine⟨.inr hiZ,?_⟩;refine wD 12 Z (bB Z)<|wN<|aT [] 99 cC Z ?_;refine⟨_,Z,?_⟩;exact bu (Value.int .i64) (aTf x y Wl Wm)
theorem aDj (cb:Array Value):aYf Tryz.prog 117 118 cb 2:=λα _ enc hk h1 cf hO go off cap d w xv hH hblk hsz=>
 AnyQ.slices_SortFunc Tryz.laysRing 2 (λw=>cA) (λw=>cA) enc hk h1 cf hO 118 cb go off cap d w bMs xv hH hblk hsz
theorem YC:UC Tryz.prog 117:=λp cap fv w=>AnyF.slices_SortFunc_none Tryz.laysRing p cap fv w
theorem YQ {w:World} {ar:AF} {bo aw:Nat} {al:AG} {ws:AD} (ao:Rd w ar bo aw 1 al) (bh:SlW .u8 w al ws) (hN:(∀w∈ws,w.length<=8000)/\ws.length<=100000):
  CF 71 #[sl ar bo aw] w (λv R'=> ∃(A:AF) (c:Nat) (l:List RC) (Rs:List Row),v=sl A l.length c/\RgR Rs l/\l.map RC.rt=fI ws/\R'=⟨117,2,A,l.length,c,rgs l,false⟩::Rs):=by
 obtain rfl:bo=ws.length:=by have:=ao.len;have:=bh.1;omega
 refine fn1 Tryz.func71 Z Z Z ?_;have kh:=ao.max;have Ji:=bh.okB;refine wq<|wn Z<|wq<|bT (R1:=(⟨117,2,none,0,0,rgs ([]),false⟩::[])) (Sub.refl _) (λ_ h=>h.nil 117 2)<|wn Z<|aD<|wq<|wm Z<|wy (aL ay Z)<|wm Z ?_;refine aA<|aH ?_;refine mX (λ(i:Int) (A1:AF) (n1:Nat) (c1:Nat) (l:List RC) (Rs:List Row)=>[(3,sl A1 n1 c1),(8,sl ar ws.length aw),(9,I (ws.length:Int)),(10,I i)]) (λi A1 n1 c1 l Rs=>(⟨117,2,A1,n1,c1,rgs l,false⟩::Rs)) (λi A1 n1 c1 l Rs=>(0<=i)/\(i<=ws.length)/\(n1=l.length)/\(RgR Rs l)/\(l.map RC.rt=dE (ws.take i.toNat))) (λi A1 n1 c1 l Rs=>(ws.length-i).toNat) ?_ ?_
 ·exact⟨0,none,0,0,[],[],⟨G,G,(Z),(RgR.nil _),(Z)⟩,KP⟩
 intro i A1 n1 c1 l Rs ⟨bb,gd,cm,Jx,hl⟩;have ur:=bu List.length hl;rw[bq] at ur;have Tl:=pM (ws.take i.toNat);rw[ax] at Tl;have b5:0<=i->i<ws.length->(rdl ws i).length<=8000:=λh h'=>hN.1 _ (jD h h');refine wq<|wL Z Z<|aA<|aD<|bA Z (λba=> ?_) (λba=> ?_)
 ·have Pi:=b5 bb G;refine aI<|aD<|aH<|wq<|wy (aF ay dH Z Z (ao.c _)) ?_;refine bh.elim (i:=i) G G (λcg ce py ub xt tk=> ?_);refine wy (lC af Z Z Z (ao.c _) py)<|wn Z<|wq<|wm Z<|wa (aC bMu Z (Ct.fresh (λw hw=>bGn ((ub.c _) w hw) (byteL_wf xt) G))) ?_;rintro _ _⟨_,rfl,gn,mj,rfl,rfl⟩;refine wa (aC bMv Z (Ct.fresh (λw hw=>aRn ((rdr 0 Z) w hw) (by rw[kL];omega)))) ?_;rintro _ _⟨_,rfl,dv,br,rfl,rfl⟩;refine wm Z<|wX Z Z<|wX Z Z<|wg Z<|wn Z<|wq<|wm Z<|wy (dA Z Z)<|aA<|bA Z (λcj=> ?_) (λcj=> ?_)
  ·refine aK<|wm Z<|wm Z<|wm Z<|wy (gX (v:= .agg #[sl dv ((jR (lw (rdl ws i))).length) br,I (gB (lw (rdl ws i)))]) Z (λw=>cA))<|wa (bHz ⟨dv,br,jR (lw (rdl ws i)),gB (lw (rdl ws i))⟩ Ce bIm rfl) ?_;rintro _ _⟨iu,rfl,rfl⟩;refine wa (aPm 3 Z Ce bIn Z Z Z Z (rdr 0 Z) G) ?_;rintro _ _⟨fa,fc,rfl,rfl⟩;refine bC (v:=sl fa (n1+1) fc) Z<|wn Z<|aK<|wA Z Z<|wm Z<|aA ?_;exact⟨i+1,fa,n1+1,fc,l++([⟨dv,br,jR (lw (rdl ws i)),gB (lw (rdl ws i))⟩]),((ru 5 dv ((jR (lw (rdl ws i))).length) br (jR (lw (rdl ws i))))::Rs),⟨G,G,(by rw[ah,cm];rfl),(Jx.snoc Z (aN.take (wY (Ji _ (jD bb G)).1) _)),(aLu bb G hl cF)⟩,G,SA,λ_ h=>h.selR (F:=[_,_,_,_]) (F':=[_,_]) [3,1] cC Z⟩
  ·refine aI<|aK<|wA Z Z<|wm Z<|aA ?_;exact⟨i+1,A1,n1,c1,l,Rs,⟨G,G,(cm),(Jx),(aRu bb G hl cF)⟩,G,SA,λ_ h=>h.selR (F:=[_,_,_]) (F':=[_]) [2] cC Z⟩
 ·obtain rfl:=cm;obtain rfl:i=ws.length:=G
  rw[cz,ow] at hl;refine aR<|wq<|wm Z<|wa (aC bMt Z (aDl (enc:=encR) (aDj _) YC (λ_=>Z) aVr (l:=l) 0 Z G (λx y=>kM x.rt y.rt) aUn (λW hW x hx y hy=>aDw ((Jx x hx).2 _ _ _ hW) ((Jx y hy).2 _ _ _ hW) (Jx x hx).1 (Jx y hy).1))) ?_;rintro _ _⟨rfl,l1,qv,vq,rfl⟩;rw[<-qv.length_eq];refine aA<|wq<|wm Z<|wn Z<|bU (R1:=(⟨117,2,A1,l1.length,c1,rgs l1,false⟩::Rs)) hiZ ?_;exact⟨_,Z,_,_,l1,Rs,Z,Jx.perm qv,FM ((qv.map RC.rt).trans (by rw[hl])) (ik.2 (vq.imp λ{a b} h=>by rw[qK a.rt b.rt] at h;omega)),rfl⟩
variable {w:World} {ar:AF} {bo aw:Nat} {al:AG} {ws:AD} {lr:List RC} {i:Int}
theorem TP {w:World} {ws:AD} (ao:Rd w ar bo aw 1 al) (bh:SlW .u8 w al ws) (hN:(∀w∈ws,w.length<=8000)/\ws.length<=100000):
  CF 39 #[sl ar bo aw] w (λv R'=> ∃(A:AF) (c:Nat) (vals:AG) (Rs:List Row),v=sl A vals.length c/\SlR .u8 Rs vals (canon ws)/\R'=⟨22,1,A,vals.length,c,vals,false⟩::Rs):=by
 obtain rfl:bo=ws.length:=by have:=ao.len;have:=bh.1;omega
 refine fn1 Tryz.func39 Z Z Z ?_;have kh:=ao.max;refine wq<|wn Z<|wq<|bT (R1:=(⟨22,1,none,0,0,[],false⟩::[])) (Sub.refl _) (λ_ h=>h.nil 22 1)<|wn Z<|aD<|wq<|wm Z<|wa (aC bJg Z (Ct.fresh (λw hw=>YQ ((ao.c _) w hw) (bh.c hw) cE))) ?_;rintro _ _⟨_,rfl,cg,ce,gl,sn,rfl,xo,xj,rfl⟩;refine bT (R1:=(⟨117,2,cg,gl.length,ce,rgs gl,false⟩::⟨22,1,none,0,0,[],false⟩::sn)) (Sub.refl _) (λ_ h=>Hp.toTail0 (X:=[_]) (Y:=[_]) h)<|wy (aL Ce Z)<|wm Z<|aA<|aH ?_;refine JI (λ(i:Int) (A1:AF) (n1:Nat) (c1:Nat) (vals:AG) (ls:AD) (Rs:List Row)=>[(3,sl A1 n1 c1),(7,sl cg gl.length ce),(8,I (gl.length:Int)),(9,I i)]) (λi A1 n1 c1 vals ls Rs=>(⟨117,2,cg,gl.length,ce,rgs gl,false⟩::⟨22,1,A1,n1,c1,vals,false⟩::Rs)) (λi A1 n1 c1 vals ls Rs=>(0<=i)/\(i<=gl.length)/\(n1=vals.length)/\(SlR .u8 Rs vals ls)/\(RgR Rs gl)/\(ls=(gl.take i.toNat).map (λr=>rep r.root r.times))) (λi A1 n1 c1 vals ls Rs=>(gl.length-i).toNat) ?_ ?_
 ·exact⟨0,none,0,0,[],[],sn,⟨G,G,(Z),(SlR.nilR _ _),(xo),(Z)⟩,KP⟩
 intro i A1 n1 c1 vals ls Rs ⟨bb,gd,cm,lf,Jx,yi⟩;have ur:=bu List.length yi;rw[bq,ax] at ur;have Mt:=lf.1;have nc:0<=i->i<gl.length->0<(rdG gl i).root.length/\1<=(rdG gl i).times/\(rdG gl i).times.toNat*(rdG gl i).root.length<=8000:=λh h'=>aZo xj hN.1 (yG h h');have Kz:gl.length<=ws.length:=by have h1:=bu List.length xj;rw[bq,(iK ws).length_eq] at h1;have h2:=pM ws;omega
 refine wq<|wL Z Z<|aA<|aD<|bA Z (λba=> ?_) (λba=> ?_)
 ·have Oy:=nc bb G;refine aI<|aD<|aH<|wq<|wy (mU Ce QW Z Z (rdr 0 Z) Z) ?_;have Ln:=(Jx _ (yG (l:=gl) (i:=i) G G)).2;refine wy (bDl yl Z QW Z (rdr 0 Z) G G)<|wa (kF (sz:=2) bDh Z) ?_;rintro _ _⟨j4,rfl,rfl⟩;refine dC (jN (vs:=[sl ((rdG gl i).A) ((rdG gl i).root.length) ((rdG gl i).c),I ((rdG gl i).times)]) 0 Z QW Z Z Z (by intro v hv;simp at hv;rcases hv with rfl|rfl<;>rfl) Z) ?_;rintro _ _ rfl;refine aA<|aK<|wm Z<|wy (yF 0 0 yl dH Z)<|wy (yL 0 af Z Z Z)<|wy (yF 1 1 yl sz3 Z)<|wy (yL 0 au Z Z Z)<|wa (aC bOg Z (Ct.fresh (λw hw=>aEa ((λ_ h=>Ln _ _ _ (h.right (R':=[_,_,_]))) w hw) Oy.1 Oy.2.1 Oy.2.2))) ?_;rintro _ _⟨_,rfl,fz,ci,rfl,rfl⟩;refine wa (iQ [Value.slice fz ((rep ((rdG gl i).root) ((rdG gl i).times)).length) ci] ay nS Z Z Z Z) ?_;rintro _ _⟨jp,rfl,rfl⟩;refine wa (fJ 4 Z Z ay yY Z Z Z Z Z (rdr 0 Z) (by simp[Value.oneCell']) (by dsimp only;omega)) ?_;rintro _ _⟨fb,pm,rfl,rfl⟩;refine bC (v:=sl fb (n1+1) pm) Z<|wn Z<|aK<|wA Z Z<|wm Z<|aA ?_;exact⟨i+1,fb,n1+1,pm,vals++([Value.slice fz ((rep ((rdG gl i).root) ((rdG gl i).times)).length) ci]),(ls++[rep (rdG gl i).root (rdG gl i).times]),(⟨5,1,fz,(rep ((rdG gl i).root) ((rdG gl i).times)).length,ci,ints .u8 (rep ((rdG gl i).root) ((rdG gl i).times)),true⟩::Rs),⟨G,G,(by rw[ah,cm];rfl),(lf.snoc Z),(Jx.right [_]),(by rw[aGj bb G,<-yi])⟩,G,SA,λ_ h=>h.selR (F:=[_,_,_,_,_]) (F':=[_,_,_]) [3,4,1] cC Z⟩
 ·refine aR<|wq<|wm Z<|wn Z ?_;obtain rfl:ls=canon ws:=by rw[yi];exact aGk xj G
  refine aT [1] 2 cC Z ?_;refine⟨_,Z,?_⟩;subst cm;exact⟨_,_,vals,Rs,Z,lf,Z⟩
theorem yA {β:Type} (f:RC->β) (h0:0<=i) (h1:i<lr.length):(lr.take (i+1).toNat).map f=(lr.take i.toNat).map f++[f (rdG lr i)]:=by
 rw[show(i+1).toNat=i.toNat+1 by omega,qm,av G,iv];unfold rdG;rw[ai,av G];rfl
theorem aZg (hl:lr.map RC.rt=fI ws) (hi:(lr.length:Int)<=i):(lr.take i.toNat).map RC.root=(fI ws).map Prod.fst/\(lr.take i.toNat).map RC.times=(fI ws).map Prod.snd:=by
 rw[bi G,<-hl,qo,qo];exact⟨Z,Z⟩
theorem aLr {w:World} {ws:AD} (ao:Rd w ar bo aw 1 al) (bh:SlW .u8 w al ws) (hN:(∀w∈ws,w.length<=8000)/\ws.length<=100000):
  CF 199 #[sl ar bo aw] w (λv R'=> ∃(A:AF) (c:Nat) (A2:AF) (c2:Nat) (vals:AG) (Rs:List Row),v= .tuple #[sl A vals.length c,sl A2 ((fI ws).map Prod.snd).length c2]/\SlR .u8 Rs vals ((fI ws).map Prod.fst)/\R'=⟨22,1,A,vals.length,c,vals,false⟩::(ri 3 A2 (((fI ws).map Prod.snd).length) c2 ((fI ws).map Prod.snd))::Rs):=by
 obtain rfl:bo=ws.length:=by have:=ao.len;have:=bh.1;omega
 refine fn2 Tryz.func199 Z Z Z ?_;have kh:=ao.max;refine wq<|bT (R1:=(⟨22,1,none,0,0,[],false⟩::[])) (Sub.refl _) (λ_ h=>h.nil 22 1)<|wg Z<|bT (R1:=((ri 3 none 0 0 ([]))::⟨22,1,none,0,0,[],false⟩::[])) (Sub.refl _) (λ_ h=>h.nil 3 1)<|wn Z<|aD<|wq<|wm Z<|wa (aC bJg Z (Ct.fresh (λw hw=>YQ ((ao.c _) w hw) (bh.c hw) cE))) ?_;rintro _ _⟨_,rfl,cg,ce,gl,sn,rfl,xo,xj,rfl⟩;refine bT (R1:=(⟨117,2,cg,gl.length,ce,rgs gl,false⟩::(ri 3 none 0 0 ([]))::⟨22,1,none,0,0,[],false⟩::sn)) (Sub.refl _) (λ_ h=>Hp.toTail0 (X:=[_]) (Y:=[_,_]) h)<|wy (aL Ce Z)<|wm Z<|aA<|aH ?_;refine BC (λ(i:Int) (A1:AF) (n1:Nat) (c1:Nat) (vals:AG) (ls:AD) (A2:AF) (n2:Nat) (c2:Nat) (ts:AH)=>[(2,sl A1 n1 c1),(3,sl A2 n2 c2),(7,sl cg gl.length ce),(8,I (gl.length:Int)),(9,I i)]) (λi A1 n1 c1 vals ls A2 n2 c2 ts=>(⟨117,2,cg,gl.length,ce,rgs gl,false⟩::(ri 3 A2 n2 c2 ts)::⟨22,1,A1,n1,c1,vals,false⟩::sn)) (λi A1 n1 c1 vals ls A2 n2 c2 ts=>(0<=i)/\(i<=gl.length)/\(n1=vals.length)/\(n2=ts.length)/\(SlR .u8 sn vals ls)/\(ls=(gl.take i.toNat).map RC.root)/\(ts=(gl.take i.toNat).map RC.times)) (λi A1 n1 c1 vals ls A2 n2 c2 ts=>(gl.length-i).toNat) ?_ ?_
 ·exact⟨0,none,0,0,[],[],none,0,0,[],⟨G,G,(Z),(Z),(SlR.nilR _ _),(Z),(Z)⟩,KP⟩
 intro i A1 n1 c1 vals ls A2 n2 c2 ts ⟨bb,gd,cm,pj,lf,yi,v6⟩;have ur:=bu List.length yi;rw[bq,ax] at ur;have bp:=bu List.length v6;rw[bq,ax] at bp;have Mt:=lf.1;have Kz:gl.length<=ws.length:=by have h1:=bu List.length xj;rw[bq,(iK ws).length_eq] at h1;have h2:=pM ws;omega
 refine wq<|wL Z Z<|aA<|aD<|bA Z (λba=> ?_) (λba=> ?_)
 ·refine aI<|aD<|aH<|wq<|wy (mU Ce QW Z Z (rdr 0 Z) Z) ?_;have Ln:=(xo _ (yG (l:=gl) (i:=i) G G)).2;refine wy (bDl yl Z QW Z (rdr 0 Z) G G)<|wa (kF (sz:=2) bDh Z) ?_;rintro _ _⟨j4,rfl,rfl⟩;refine dC (jN (vs:=[sl ((rdG gl i).A) ((rdG gl i).root.length) ((rdG gl i).c),I ((rdG gl i).times)]) 0 Z QW Z Z Z (by intro v hv;simp at hv;rcases hv with rfl|rfl<;>rfl) Z) ?_;rintro _ _ rfl;refine aA<|UH (Rc:=((rc 117 2 j4 [sl ((rdG gl i).A) ((rdG gl i).root.length) ((rdG gl i).c),I ((rdG gl i).times)])::sn)) mixed (λ_ h=>h.selR (F:=[_,_,_,_]) (F':=[_]) [0] cC Z) ?_;refine jI 0 Z cA Z (aJ Z) ?_;refine jI 1 Z cA Z (yF 0 0 yl dH Z) ?_;refine jI 2 Z cA Z (yL 0 af Z Z Z) ?_;refine jI 5 Z cA Z (aJ Z) ?_;refine jI 6 Z cA Z (yF 1 1 yl sz3 Z) ?_;refine jI 7 Z cA Z (yL 0 au Z Z Z) ?_;refine WK 3 8 cA ?_ ?_
  ·refine qA 3 Z Z (iQ [Value.slice ((rdG gl i).A) ((rdG gl i).root.length) ((rdG gl i).c)] ay nS Z Z Z Z) ?_;rintro _ _⟨iu,rfl,rfl⟩;refine⟨λ_ h=>h.selR (F:=[_,_,_,_,_]) (F':=[_]) [1] cC Z,?_⟩;refine WK 4 8 cA ?_ ?_
   ·refine qA 4 Z Z (fJ 4 Z Z ay yY Z Z Z Z Z (rdr 0 Z) (by simp[Value.oneCell']) (by dsimp only;omega)) ?_;rintro _ _⟨fa,fc,rfl,rfl⟩;refine⟨λ_ h=>h.selR (F:=[_,_,_,_,_]) (F':=[_]) [1] cC Z,?_⟩;refine sI (v:=sl fa (n1+1) fc) Z ?_;refine kD 8 cA ?_;refine qA 8 Z Z (bH .i64 [(rdG gl i).times] aa zs3 Z Z Z) ?_;rintro _ _⟨j5,rfl,rfl⟩;refine⟨λ_ h=>h.selR (F:=[_,_,_,_,_,_]) (F':=[_]) [2] cC Z,?_⟩;refine kD 9 cA ?_;refine qA 9 Z Z (aQ 4 Z aa zb3 Z Z Z (rdr 0 Z)) ?_;rintro _ _⟨dj,dp,rfl,rfl⟩;refine⟨λ_ h=>h.selR (F:=[_,_,_,_,_,_]) (F':=[_]) [2] cC Z,?_⟩;refine sI (v:=sl dj (n2+1) dp) Z ?_;refine jI 10 Z cA Z (bB Z) ?_;refine jI 11 Z cA Z (bB Z) ?_;refine xN cA ?_;refine aK<|wA Z Z<|wm Z<|aA ?_;exact⟨i+1,fa,n1+1,fc,vals++([Value.slice ((rdG gl i).A) ((rdG gl i).root.length) ((rdG gl i).c)]),(ls++[(rdG gl i).root]),dj,n2+1,dp,ts++([(rdG gl i).times]),⟨G,G,(by rw[ah,cm];rfl),(by rw[ah,pj];rfl),(lf.push Z (xo _ (yG bb G)).2),(by rw[yA RC.root bb G,<-yi]),(by rw[yA RC.times bb G,<-v6])⟩,G,SA,λ_ h=>h.selR (F:=[_,_,_,_,_,_]) (F':=[_,_,_]) [3,4,5] cC Z⟩
   ·refine qA 8 Z Z (bH .i64 [(rdG gl i).times] aa zs3 Z Z Z) ?_;rintro _ _⟨Nl,rfl,rfl⟩;refine⟨λ_ h=>h.selR (F:=[_,_,_,_,_,_]) (F':=[_]) [2] cC Z,?_⟩;refine kD 4 cA ?_;refine qA 4 Z Z (fJ 5 Z Z ay yY Z Z Z Z Z (rdr 1 Z) (by simp[Value.oneCell']) (by dsimp only;omega)) ?_;rintro _ _⟨pf,ph,rfl,rfl⟩;refine⟨λ_ h=>h.selR (F:=[_,_,_,_,_,_]) (F':=[_]) [2] cC Z,?_⟩;refine sI (v:=sl pf (n1+1) ph) Z ?_;refine kD 9 cA ?_;refine qA 9 Z Z (aQ 4 Z aa zb3 Z Z Z (rdr 0 Z)) ?_;rintro _ _⟨re,rh,rfl,rfl⟩;refine⟨λ_ h=>h.selR (F:=[_,_,_,_,_,_]) (F':=[_]) [2] cC Z,?_⟩;refine sI (v:=sl re (n2+1) rh) Z ?_;refine jI 10 Z cA Z (bB Z) ?_;refine jI 11 Z cA Z (bB Z) ?_;refine xN cA ?_;refine aK<|wA Z Z<|wm Z<|aA ?_;exact⟨i+1,pf,n1+1,ph,vals++([Value.slice ((rdG gl i).A) ((rdG gl i).root.length) ((rdG gl i).c)]),(ls++[(rdG gl i).root]),re,n2+1,rh,ts++([(rdG gl i).times]),⟨G,G,(by rw[ah,cm];rfl),(by rw[ah,pj];rfl),(lf.push Z (xo _ (yG bb G)).2),(by rw[yA RC.root bb G,<-yi]),(by rw[yA RC.times bb G,<-v6])⟩,G,SA,λ_ h=>h.selR (F:=[_,_,_,_,_,_]) (F':=[_,_,_]) [3,4,5] cC Z⟩
  ·refine qA 8 Z Z (bH .i64 [(rdG gl i).times] aa zs3 Z Z Z) ?_;rintro _ _⟨d4,rfl,rfl⟩;refine⟨λ_ h=>h.selR (F:=[_,_,_,_,_]) (F':=[_]) [1] cC Z,?_⟩;refine kD 3 cA ?_;refine qA 3 Z Z (iQ [Value.slice ((rdG gl i).A) ((rdG gl i).root.length) ((rdG gl i).c)] ay nS Z Z Z Z) ?_;rintro _ _⟨g_28,rfl,rfl⟩;refine⟨λ_ h=>h.selR (F:=[_,_,_,_,_,_]) (F':=[_]) [2] cC Z,?_⟩;refine kD 4 cA ?_;refine qA 4 Z Z (fJ 5 Z Z ay yY Z Z Z Z Z (rdr 0 Z) (by simp[Value.oneCell']) (by dsimp only;omega)) ?_;rintro _ _⟨i6,i8,rfl,rfl⟩;refine⟨λ_ h=>h.selR (F:=[_,_,_,_,_,_]) (F':=[_]) [2] cC Z,?_⟩;refine sI (v:=sl i6 (n1+1) i8) Z ?_;refine kD 9 cA ?_;refine qA 9 Z Z (aQ 4 Z aa zb3 Z Z Z (rdr 1 Z)) ?_;rintro _ _⟨v8,w8,rfl,rfl⟩;refine⟨λ_ h=>h.selR (F:=[_,_,_,_,_,_]) (F':=[_]) [2] cC Z,?_⟩;refine sI (v:=sl v8 (n2+1) w8) Z ?_;refine jI 10 Z cA Z (bB Z) ?_;refine jI 11 Z cA Z (bB Z) ?_;refine xN cA ?_;refine aK<|wA Z Z<|wm Z<|aA ?_;exact⟨i+1,i6,n1+1,i8,vals++([Value.slice ((rdG gl i).A) ((rdG gl i).root.length) ((rdG gl i).c)]),(ls++[(rdG gl i).root]),v8,n2+1,w8,ts++([(rdG gl i).times]),⟨G,G,(by rw[ah,cm];rfl),(by rw[ah,pj];rfl),(lf.push Z (xo _ (yG bb G)).2),(by rw[yA RC.root bb G,<-yi]),(by rw[yA RC.times bb G,<-v6])⟩,G,SA,λ_ h=>h.selR (F:=[_,_,_,_,_,_]) (F':=[_,_,_]) [3,4,5] cC Z⟩
 ·refine aR<|wq<|wm Z<|wm Z<|wg Z<|wn Z<|aT [2,1] 3 cC Z ?_;refine⟨_,_,Z,Z,?_⟩;have gr:=aZg xj (show(gl.length:Int)<=i by omega);obtain rfl:ls=(fI ws).map Prod.fst:=yi.trans gr.1;obtain rfl:ts=(fI ws).map Prod.snd:=v6.trans gr.2;subst cm;subst pj;exact⟨_,_,_,_,vals,_,Z,lf,Z⟩
theorem aNu {ap:AF} {bl an:Nat} {u:AH} {nw:AF} {qu oe:Nat} {t:AH} (ac:Rd w ap bl an 1 (ints .u8 u)) (qs:Rd w nw qu oe 1 (ints .u8 t)) (am:aN u) (w7:aN t):
  CF 274 #[sl ap bl an,sl nw qu oe] w (λv R'=>v= .bool (decide (u=t))):=by
 obtain rfl:=ac.lenI;obtain rfl:=qs.lenI;refine fn1 Tryz.func274 Z Z Z ?_;have kc:=ac.max;have Us:=qs.max;refine wq<|wn Z<|wq<|wm Z<|wy (lX af bn ym Z (ac.c _))<|wm Z<|wy (lX af bn ym Z (qs.c _))<|wy (QI Z Z am w7)<|wn Z<|bQ ?_;refine⟨_,Z,?_⟩;rfl
variable {w:World} {ap:AF} {bl an:Nat} {u:AH}
theorem aMv (ac:Rd w ap bl an 1 (ints .u8 u)) (am:aN u) (cv:0<u.length) (Qc:u.length<=1000000):
  CF 163 #[sl ap bl an] w (λv R'=>v=I (lp u)):=by
 obtain rfl:=ac.lenI;refine fn1 Tryz.func163 Z Z Z ?_;have kc:=ac.max;refine wq<|wn Z<|aD<|wq<|wn Z<|aH ?_;refine gZ (λ(p:Int)=>[(0,sl ap u.length an),(3,I p)]) (λp=>[]) (λp=>(1<=p)/\(p<=u.length+1)/\(lp u=lpF u ((u.length:Int)+1-p).toNat p)) (λp=>((u.length:Int)+1-p).toNat) ?_ ?_
 ·exact⟨1,⟨G,G,(by unfold lp;congr 1;omega)⟩,KP⟩
 intro p ⟨qv,pe,hl⟩;refine aD<|wq<|wm Z<|wm Z<|wy (aL af Z)<|wy (qP Z Z)<|aA<|bA Z (λba=> ?_) (λba=> ?_)
 ·refine aI<|aD<|aH<|aD<|bF mixed<|wD 0 Z (aJ Z)<|wD 1 Z (aJ Z)<|wD 2 Z (dF af sz5 Z Z)<|wD 3 Z (lX af bn ym Z (RdC.fromI (ac.c _) G))<|wD 4 Z (aJ Z)<|wD 5 Z (aJ Z)<|wD 6 Z (aL af Z)<|wD 7 Z (aJ Z)<|wD 8 Z (mE Z Z)<|wD 9 Z (dV af sz5 Z Z (ac.c _)) ?_;refine wD 10 Z (lX af bn ym Z (RdC.toI (ac.c _) G))<|wD 11 Z (QI Z Z (aN.drop am _) (aN.take am _))<|wN<|bA Z (λcj=> ?_) (λcj=> ?_)
  ·refine wq<|wm Z<|wn Z<|bQ ?_;refine⟨_,Z,?_⟩;exact bu (Value.int .i64) (by rw[hl,aIn G cF])
  ·refine aI<|aK<|wm Z<|wA Z Z<|wn Z ?_;exact⟨p+1,⟨G,G,(by rw[hl,aTy G cF];congr 1;omega)⟩,G,KP⟩
 ·refine aR<|wq<|wn Z<|bQ ?_;refine⟨_,Z,?_⟩;have:=NL cv;have e0:((u.length:Int)+1-p).toNat=0:=G
  rw[e0] at hl;unfold lpF at hl;omega
theorem LU (ac:Rd w ap bl an 1 (ints .u8 u)) (am:aN u) (cv:0<u.length) (Qc:u.length<=1000000):
  CF 95 #[sl ap bl an] w (λv R'=>v= .tuple #[sl ap (rl u).toNat an,I ((u.length:Int)/rl u)]):=by
 obtain rfl:=ac.lenI;refine fn2 Tryz.func95 Z Z Z ?_;have kc:=ac.max;have Ld:=NL cv;refine wq<|wg Z<|wn Z<|wq<|wm Z<|wa (aC bLy Z (Ct.quiet (λw hw=>aMv ((ac.c _) w hw) cE cE cE))) ?_;rintro _ _⟨rfl,rfl⟩;refine wn Z<|aD<|wq<|wm Z<|wy (fD Z Z)<|aA<|bA Z (λba=> ?_) (λba=> ?_)
 ·refine wq<|wg Z<|wn Z<|bQ ?_;refine⟨_,_,Z,Z,?_⟩;omega
 ·refine aI<|aD<|wq<|wm Z<|wy (aL af Z)<|wm Z<|wy (rR Z Z)<|wy (jP Z Z)<|aA<|bA Z (λcj=> ?_) (λcj=> ?_)
  ·refine aK<|wm Z<|wy (aL af Z)<|wn Z<|aD<|bF mixed<|wD 0 Z (aJ Z)<|wD 1 Z (aJ Z)<|wD 2 Z (dV af sz5 Z Z (ac.c _))<|wD 3 Z (aJ Z)<|wD 4 Z (aL af Z)<|wD 5 Z (aJ Z)<|wD 6 Z (vP Z Z G G G)<|wD 7 Z (bB Z) ?_;refine wD 8 Z (bB Z)<|wN<|bQ ?_;refine⟨_,_,Z,Z,?_⟩;have e:rl u=u.length:=by unfold rl;rw[di cF]
   rw[e]
  ·refine aI<|aD<|bF mixed<|wD 0 Z (aJ Z)<|wD 1 Z (aJ Z)<|wD 2 Z (dV af sz5 Z Z (ac.c _))<|wD 3 Z (aJ Z)<|wD 4 Z (aL af Z)<|wD 5 Z (aJ Z)<|wD 6 Z (vP Z Z G G G)<|wD 7 Z (bB Z)<|wD 8 Z (bB Z)<|wN<|bQ ?_;refine⟨_,_,Z,Z,?_⟩;have e:rl u=lp u:=by unfold rl;rw[df cF]
   rw[e]
variable {ws ls:AD} {w:AH}
theorem aUo {a b:RT}:kM a b<0↔cmpL a.1 b.1<0\/cmpL a.1 b.1=0/\a.2<b.2:=by
 unfold kM;have h2:iG a.2 b.2<0↔a.2<b.2:=by unfold iG;split<;>(try split)<;>omega
 split
 ·omega
 ·rw[h2];omega
def kw (c:AH):RT:=(jR c,gB c)
theorem bJb (u:AH):kw (lw u)=lQ u:=rfl
structure CI (ws:AD) (ls:AD):Prop where
 perm:(ls.map kw).Perm (dE ws)
 sorted:ls.Pairwise λa b=>kM (kw a) (kw b)<=0
theorem CI.nil:CI [] []:=⟨.refl _, .nil⟩
theorem CI.skip (h:CI ws ls) (hw:w.length=0):CI (ws++[w]) ls:=⟨by
 have e:dE [w]=[]:=by unfold dE;simp[hw]
 rw[kT,e,jh]
 exact h.perm,h.sorted⟩
theorem CI.put {j:Int} (h:CI ws ls) (hw:0<w.length) (h0:0<=j) (h1:j<=ls.length) (a8: ∀q:Int,j<=q->q<ls.length->kM (kw (lw w)) (kw (rdl ls q))<0) (u7: ¬(0<j/\kM (kw (lw w)) (kw (rdl ls (j-1)))<0)):CI (ws++[w]) (ls.take j.toNat++[lw w]++ls.drop j.toNat):=by
 refine⟨?_,?_⟩
 ·rw [kT];have e:dE [w]=[lQ w]:=by unfold dE;simp[hw]
  rw[e,iv,iv];refine List.Perm.trans ?_ (Da [lQ w] h.perm);rw[gq];refine(zl _ uk).trans ?_;rw[<-gq,<-iv,gy];exact .refl _
 ·have hs:=h.sorted;have Ft:=hs;rw[<-gy j.toNat ls,kg] at Ft;obtain⟨s1,s2,s3⟩:=Ft
  have Sv: ∀b∈ls.drop j.toNat,kM (kw (lw w)) (kw b)<0:=λb hb=>by
   obtain⟨k,hk,e⟩:=gz.1 hb;rw[az] at hk;have:=a8 (j+k) G G
   have e2:rdl ls (j+k)=b:=by
    rw[<-e,zx];unfold rdl;rw[show(j+(k:Int)).toNat=j.toNat+k by omega,ai,av G];rfl
   rwa[e2] at this
  have j9: ∀a∈ls.take j.toNat,kM (kw a) (kw (lw w))<=0:=λa ha=>by
   obtain⟨k,hk,e⟩:=gz.1 ha;rw[ax] at hk;have hj:0<j:=G
   have hl:kM (kw (rdl ls (j-1))) (kw (lw w))<=0:=by
    rw[qK (kw (lw w))];have:=λc=>u7 ⟨hj,c⟩;omega
   have e2:rdl ls (j-1)=ls[(j-1).toNat]' G:=by
    unfold rdl;rw[ai,av G];rfl
   rw[xq] at e;rcases gm k (j-1).toNat with g|g
   ·have:=ed.1 hs k (j-1).toNat G G g;rw[e,<-e2] at this;exact JY _ _ _ this hl
   ·obtain rfl:k=(j-1).toNat:=G
    rw[<-e,<-e2];exact hl
  rw[gq,kg];refine⟨s1,?_,?_⟩
  ·rw [oh,ja];exact⟨λb hb=>by have:=Sv b hb;omega,s2⟩
  ·intro a ha b hb;rw[oh,jc] at hb;rcases hb with rfl|hb
   ·exact j9 a ha
   ·exact s3 a ha b hb
theorem CI.done {ls:AD} (h:CI ws ls) (hp: ∀c∈ls,0<c.length):ls=canon ws:=by
 have:ls.map kw=fI ws:=FM h.perm (ik.2 h.sorted);unfold canon;rw[<-this,qo]
 conv=>lhs;rw[<-Jl ls]
 refine vv λc hc=> ?_;exact(rW (hp c hc)).symm
theorem YP (ws:AD):(canon ws).map jR=(fI ws).map Prod.fst/\(canon ws).map gB=(fI ws).map Prod.snd:=by
 have:(canon ws).map kw=fI ws:=by
  unfold canon;rw[qo]
  conv=>rhs;rw[<-Jl (fI ws)]
  refine vv λr hr=> ?_;obtain⟨w,_,hw,rfl⟩:=tV hr;show kw (KR (lQ w))=lQ w;rw[EY hw,bJb]
 rw[<-this,qo,qo];exact⟨Z,Z⟩
theorem aUd {w:World} {ap:AF} {bl an:Nat} {u:AH} {nw:AF} {qu oe:Nat} {t:AH} (ac:Rd w ap bl an 1 (ints .u8 u)) (qs:Rd w nw qu oe 1 (ints .u8 t)) (am:aN u) (w7:aN t) (hu:0<u.length/\u.length<=1000000) (ht:0<t.length/\t.length<=1000000):
  CF 53 #[sl ap bl an,sl nw qu oe] w (λv R'=>v= .bool (decide (kM (kw u) (kw t)<0))):=by
 obtain rfl:=ac.lenI;obtain rfl:=qs.lenI;refine fn1 Tryz.func53 Z Z Z ?_;have kc:=ac.max;have Us:=qs.max;refine wq<|wn Z<|wq<|wm Z<|wa (aC bHf Z (Ct.quiet (λw hw=>LU ((ac.c _) w hw) cE hu.1 hu.2))) ?_;rintro _ _⟨rfl,rfl⟩;have Qn:=pK (u:=u) G;refine wm Z<|wX Z Z<|wX Z Z<|wg Z<|wn Z<|wq<|wm Z<|wa (aC bHf Z (Ct.quiet (λw hw=>LU ((qs.c _) w hw) w7 ht.1 ht.2))) ?_;rintro _ _⟨rfl,rfl⟩;have Qn:=pK (u:=t) G;refine wm Z<|wX Z Z<|wX Z Z<|wg Z<|wn Z<|wq<|wm Z<|wm Z<|wa (aC bBz Z (Ct.quiet (λw hw=>xX ((RdC.toI (ac.c _) G) w hw) ((RdC.toI (qs.c _) G) w hw)))) ?_;rintro _ _⟨rfl,rfl⟩;refine wn Z<|wq<|wm Z<|wL Z Z<|wm Z<|bV 8 [(33, .bool (decide (((cmpL ((u).take (rl u).toNat) ((t).take (rl t).toNat))<0)\/(((cmpL ((u).take (rl u).toNat) ((t).take (rl t).toNat))=0)/\((((u).length:Int)/rl u)<(((t).length:Int)/rl t))))))] [] ?_ ?_
 ·refine bN 25 Z (λba=> ?_) (λba=> ?_)
  ·refine aM Z Z Z Z<|aM Z Z Z Z<|aM Z Z Z Z<|dQ Z Z Z<|dQ Z Z Z<|dQ Z Z Z<|aM Z Z Z Z<|wy (aS Z Z)<|aA ?_;exact KP
  ·refine aB Z Z<|wm Z<|aB Z Z<|wy (fD Z Z)<|aB Z Z<|wm Z<|bV 4 [(25,bf),(32, .bool (decide (((cmpL ((u).take (rl u).toNat) ((t).take (rl t).toNat))=0)/\((((u).length:Int)/rl u)<(((t).length:Int)/rl t)))))] [] ?_ ?_
   ·refine bN 28 Z (λcj=> ?_) (λcj=> ?_)
    ·refine aB Z Z<|wm Z<|aB Z Z<|wm Z<|aB Z Z<|wL Z Z<|aB Z Z<|wy (aS Z Z)<|aA ?_;exact KP
    ·refine aM Z Z Z Z<|aM Z Z Z Z<|aM Z Z Z Z<|aB Z Z<|wy (aO Z Z)<|aA ?_;exact KP
   refine wy (aO Z Z)<|aA ?_;exact KP
 refine wn Z<|bQ ?_;refine⟨_,Z,?_⟩;exact bu Value.bool (sj.2 (aUo (a:=kw u) (b:=kw t)).symm)
theorem aFf {ls:AD} {w:AH} {j:Nat} (h: ∀c∈ls,aN c/\0<c.length/\c.length<=8000) (hb:aN w) (hw:0<w.length/\w.length<=8000): ∀c∈ls.take j++[w]++ls.drop j,aN c/\0<c.length/\c.length<=8000:=λc hc=>by
 rcases dz.1 hc with hc|hc
 ·rcases dz.1 hc with hc|hc
  ·exact h c (lc hc)
  ·obtain rfl:=ic.1 hc;exact⟨hb,hw⟩
 ·exact h c (ny hc)
theorem TQ {w:World} {ar:AF} {bo aw:Nat} {al:AG} {ws:AD} (ao:Rd w ar bo aw 1 al) (bh:SlW .u8 w al ws) (hN:(∀w∈ws,w.length<=8000)/\ws.length<=100000):
  CF 21 #[sl ar bo aw] w (λv R'=> ∃(A:AF) (c:Nat) (vals:AG) (Rs:List Row),v=sl A vals.length c/\SlR .u8 Rs vals (canon ws)/\R'=⟨22,1,A,vals.length,c,vals,false⟩::Rs):=by
 obtain rfl:bo=ws.length:=by have:=ao.len;have:=bh.1;omega
 refine fn1 Tryz.func21 Z Z Z ?_;have kh:=ao.max;have Ji:=bh.okB;refine wq<|wn Z<|wq<|bT (R1:=(⟨22,1,none,0,0,[],false⟩::[])) (Sub.refl _) (λ_ h=>h.nil 22 1)<|wn Z<|aD<|wq<|wn Z<|aH ?_;refine JI (λ(i:Int) (A1:AF) (n1:Nat) (c1:Nat) (vals:AG) (ls:AD) (Rs:List Row)=>[(0,sl ar ws.length aw),(3,sl A1 n1 c1),(4,I i)]) (λi A1 n1 c1 vals ls Rs=>(⟨22,1,A1,n1,c1,vals,false⟩::Rs)) (λi A1 n1 c1 vals ls Rs=>(0<=i)/\(i<=ws.length)/\(n1=vals.length)/\(SlR .u8 Rs vals ls)/\(∀c∈ls,aN c/\0<c.length/\c.length<=8000)/\(CI (ws.take i.toNat) ls)) (λi A1 n1 c1 vals ls Rs=>(ws.length-i).toNat) ?_ ?_
 ·exact⟨0,none,0,0,[],[],[],⟨G,G,(Z),(SlR.nilR _ _),(λc hc=>by cases hc),(CI.nil)⟩,KP⟩
 intro i A1 n1 c1 vals ls Rs ⟨bb,gd,cm,lf,dr,Ny⟩;have Mt:=lf.1;have Kz:ls.length<=i.toNat:=by have h1:=Ny.perm.length_eq;rw[bq] at h1;have h2:=pM (ws.take i.toNat);rw[ax] at h2;omega
 have b5:0<=i->i<ws.length->(rdl ws i).length<=8000:=λh h'=>hN.1 _ (jD h h');refine aD<|wq<|wm Z<|wm Z<|wy (aL ay Z)<|wL Z Z<|aA<|bA Z (λba=> ?_) (λba=> ?_)
 ·have Pi:=b5 bb G;refine aI<|aD<|aH<|aD<|wq<|wm Z<|wm Z<|wy (aF ay dH Z Z (ao.c _)) ?_;refine bh.elim (i:=i) G G (λcg ce py ub xt tk=> ?_);refine wy (lC af Z Z Z (ao.c _) py)<|wy (aL af Z)<|wy (fD Z Z)<|aA<|bA Z (λcj=> ?_) (λcj=> ?_)
  ·refine aR<|aK<|wm Z<|wA Z Z<|wn Z ?_;exact⟨i+1,A1,n1,c1,vals,ls,Rs,⟨G,G,(cm),(lf),(dr),(by rw[gT bb G];exact Ny.skip G)⟩,G,KP⟩
  ·refine aI<|wq<|wm Z<|wm Z<|wy (aF ay dH Z Z (ao.c _)) ?_;refine bh.elim (i:=i) G G (λgn mj Hv f9 Md My=> ?_);refine wy (lC af Z Z Z (ao.c _) Hv)<|wa (aC bOm Z (Ct.fresh (λw hw=>bGo ((f9.c _) w hw) G))) ?_;rintro _ _⟨_,rfl,fz,ci,rfl,rfl⟩;refine wn Z<|wq<|wm Z<|wy (aL ay Z)<|wn Z<|aD<|aH ?_;refine gZ (λ(j:Int)=>[(0,sl ar ws.length aw),(3,sl A1 n1 c1),(4,I i),(5,sl fz ((lw (rdl ws i)).length) ci),(6,I j)]) (λj=>((ru 5 fz ((lw (rdl ws i)).length) ci (lw (rdl ws i)))::⟨22,1,A1,n1,c1,vals,false⟩::Rs)) (λj=>(0<=j)/\(j<=n1)/\(∀q:Int,j<=q->q<ls.length->kM (kw (lw (rdl ws i))) (kw (rdl ls q))<0)) (λj=>j.toNat) ?_ ?_
   ·exact⟨(n1:Int),⟨G,G,(λq h1 h2=>G)⟩,KP⟩
   intro j ⟨sf,l6,a8⟩;have Pw:0<j->aN (rdl ls (j-1))/\0<(rdl ls (j-1)).length/\(rdl ls (j-1)).length<=8000:=λh=>dr _ (jD G G);refine aD<|wq<|wm Z<|wy (dA Z Z)<|wm Z<|bV 8 [(0,sl ar ws.length aw),(3,sl A1 n1 c1),(4,I i),(5,sl fz ((lw (rdl ws i)).length) ci),(6,I j),(36, .bool (decide ((0<j)/\(kM (kw (lw (rdl ws i))) (kw (rdl ls (j-1)))<0))))] ((ru 5 fz ((lw (rdl ws i)).length) ci (lw (rdl ws i)))::⟨22,1,A1,n1,c1,vals,false⟩::Rs) ?_ ?_
   ·refine bN 28 Z (λfh=> ?_) (λfh=> ?_)
    ·refine aB Z Z<|wm Z<|aB Z Z<|wm Z<|aB Z Z<|wm Z<|aB Z Z<|wS Z Z<|aB Z Z<|wy (aF ay dH Z Z (rdr 1 Z))<|aB Z Z ?_;obtain⟨fa,fc,Un,Tx⟩:=lf.at (i:=j-1) G G;refine wy (lC af Z Z Z (rdr 1 Z) Un)<|aB Z Z<|wa (aC bOl Z (Ct.quiet (λw hw=>aUd ((rdr 0 Z) w hw) ((λ_ h=>Tx _ _ _ (h.right (R':=[_,_]))) w hw) (wY (Ji _ (jD bb G)).1) (Pw G).1 (by rw[kL];omega) ⟨(Pw G).2.1,by have:=(Pw G).2.2;omega⟩))) ?_;rintro _ _⟨rfl,rfl⟩;refine wy (aS Z Z)<|aA ?_;exact KP
    ·refine aM Z Z Z Z<|aM Z Z Z Z<|aM Z Z Z Z<|aM Z Z Z Z<|aM Z Z Z Z<|aM Z Z Z Z<|aM Z Z Z Z<|wy (aO Z Z)<|aA ?_;exact KP
   refine aA<|bA Z (λjj=> ?_) (λjj=> ?_)
   ·have ge:=jj;refine aI<|aH<|aK<|wm Z<|wS Z Z<|wn Z ?_
    exact⟨j-1,⟨G,G,(λq h1 h2=>by
      rcases bz q j with g|g
      ·obtain rfl:q=j-1:=G
       exact ge.2
      ·exact a8 q g h2)⟩,G,KP⟩
   ·have ge:=jj;refine aR<|bF mixed<|wD 1 Z (aJ Z)<|wD 2 Z (aJ Z)<|wD 3 Z (dV ay dH Z Z (rdr 1 Z))<|wD 5 Z (aJ Z)<|wD 8 Z (aJ Z)<|wD 9 Z (aJ Z)<|wD 10 Z (dF ay dH Z Z)<|EX 0 6 cA ?_ ?_
    ·refine IW 0 Z Z (iQ [] ay nS Z Z Z Z) ?_;rintro _ _⟨Rr,rfl,rfl⟩;refine⟨.inr hrZ,?_⟩;refine EX 4 6 cA ?_ ?_
     ·refine IW 4 Z Z (fJ 0 Z Z ay yY Z Z Z Z Z (RdC.toV (h:=(j).toNat) (rdr 2 Z) cG) (lf.take _).one (by dsimp only;omega)) ?_;rintro _ _⟨vx,gv,rfl,rfl⟩;refine⟨.inl cA,?_⟩;refine fO (v:=sl vx (0+((j).toNat)) gv) Z<|wC 6 Z (iQ [Value.slice fz ((lw (rdl ws i)).length) ci] ay nS Z Z Z Z) ?_;rintro _ _⟨z7,rfl,rfl⟩;refine⟨.inr hrZ,?_⟩;refine wC 7 Z (fJ 1 Z Z ay yY Z Z Z Z Z (rdr 0 Z) (by simp[Value.oneCell']) (by dsimp only;omega)) ?_;rintro _ _⟨re,rh,rfl,rfl⟩;refine⟨.inl cA,?_⟩;refine fO (v:=sl re ((0+((j).toNat))+1) rh) Z<|wC 11 Z (fJ 1 Z Z ay yY Z Z Z Z Z (RdC.fromV (rdr 3 Z) cG) (lf.drop _).one (by dsimp only;omega)) ?_;rintro _ _⟨wb,wi,rfl,rfl⟩;refine⟨.inl cA,?_⟩;refine fO (v:=sl wb (((0+((j).toNat))+1)+(n1-(j).toNat)) wi) Z<|wD 12 Z (bB Z)<|wN<|aK<|wm Z<|wA Z Z<|wn Z ?_;exact⟨i+1,wb,((0+((j).toNat))+1)+(n1-(j).toNat),wi,((([])++((vals).take (j).toNat))++([Value.slice fz ((lw (rdl ws i)).length) ci]))++((vals).drop (j).toNat),([]++ls.take j.toNat++[lw (rdl ws i)]++ls.drop j.toNat),((ru 5 fz ((lw (rdl ws i)).length) ci (lw (rdl ws i)))::Rs),⟨G,G,(by simp only[ah,ax,az,dn,jb];omega),(((((SlR.nilR _ _).app (lf.take _)).right [_]).push Z (λ_ _ _ h=>rdr 0 Z _ h)).app ((lf.drop _).right [_])),(aFf dr (wY (Ji _ (jD bb G)).1) (by rw[kL];omega)),(by rw[gT bb G];exact Ny.put G sf G a8 ge)⟩,G,SA,λ_ h=>h.selR (F:=[_,_,_,_]) (F':=[_,_]) [1,2] cC Z⟩
     ·refine IW 6 Z Z (iQ [Value.slice fz ((lw (rdl ws i)).length) ci] ay nS Z Z Z Z) ?_;rintro _ _⟨g_29,rfl,rfl⟩;refine⟨.inr hrZ,?_⟩;refine wC 4 Z (fJ 1 Z Z ay yY Z Z Z Z Z (RdC.toV (h:=(j).toNat) (rdr 3 Z) cG) (lf.take _).one (by dsimp only;omega)) ?_;rintro _ _⟨rx,sd,rfl,rfl⟩;refine⟨.inl cA,?_⟩;refine fO (v:=sl rx (0+((j).toNat)) sd) Z<|wC 7 Z (fJ 1 Z Z ay yY Z Z Z Z Z (rdr 0 Z) (by simp[Value.oneCell']) (by dsimp only;omega)) ?_;rintro _ _⟨Nb,Ni,rfl,rfl⟩;refine⟨.inl cA,?_⟩;refine fO (v:=sl Nb ((0+((j).toNat))+1) Ni) Z<|wC 11 Z (fJ 1 Z Z ay yY Z Z Z Z Z (RdC.fromV (rdr 3 Z) cG) (lf.drop _).one (by dsimp only;omega)) ?_;rintro _ _⟨Qy,Rl,rfl,rfl⟩;refine⟨.inl cA,?_⟩;refine fO (v:=sl Qy (((0+((j).toNat))+1)+(n1-(j).toNat)) Rl) Z<|wD 12 Z (bB Z)<|wN<|aK<|wm Z<|wA Z Z<|wn Z ?_;exact⟨i+1,Qy,((0+((j).toNat))+1)+(n1-(j).toNat),Rl,((([])++((vals).take (j).toNat))++([Value.slice fz ((lw (rdl ws i)).length) ci]))++((vals).drop (j).toNat),([]++ls.take j.toNat++[lw (rdl ws i)]++ls.drop j.toNat),((ru 5 fz ((lw (rdl ws i)).length) ci (lw (rdl ws i)))::Rs),⟨G,G,(by simp only[ah,ax,az,dn,jb];omega),(((((SlR.nilR _ _).app (lf.take _)).right [_]).push Z (λ_ _ _ h=>rdr 0 Z _ h)).app ((lf.drop _).right [_])),(aFf dr (wY (Ji _ (jD bb G)).1) (by rw[kL];omega)),(by rw[gT bb G];exact Ny.put G sf G a8 ge)⟩,G,SA,λ_ h=>h.selR (F:=[_,_,_,_]) (F':=[_,_]) [1,2] cC Z⟩
    ·refine IW 6 Z Z (iQ [Value.slice fz ((lw (rdl ws i)).length) ci] ay nS Z Z Z Z) ?_;rintro _ _⟨g_38,rfl,rfl⟩;refine⟨.inr hrZ,?_⟩;refine wC 0 Z (iQ [] ay nS Z Z Z Z) ?_;rintro _ _⟨g_40,rfl,rfl⟩;refine⟨.inr hrZ,?_⟩;refine wC 4 Z (fJ 0 Z Z ay yY Z Z Z Z Z (RdC.toV (h:=(j).toNat) (rdr 3 Z) cG) (lf.take _).one (by dsimp only;omega)) ?_;rintro _ _⟨Wq,Xb,rfl,rfl⟩;refine⟨.inl cA,?_⟩;refine fO (v:=sl Wq (0+((j).toNat)) Xb) Z<|wC 7 Z (fJ 0 Z Z ay yY Z Z Z Z Z (rdr 1 Z) (by simp[Value.oneCell']) (by dsimp only;omega)) ?_;rintro _ _⟨Wr,Xc,rfl,rfl⟩;refine⟨.inl cA,?_⟩;refine fO (v:=sl Wr ((0+((j).toNat))+1) Xc) Z<|wC 11 Z (fJ 0 Z Z ay yY Z Z Z Z Z (RdC.fromV (rdr 3 Z) cG) (lf.drop _).one (by dsimp only;omega)) ?_;rintro _ _⟨Rb,Rp,rfl,rfl⟩;refine⟨.inl cA,?_⟩;refine fO (v:=sl Rb (((0+((j).toNat))+1)+(n1-(j).toNat)) Rp) Z<|wD 12 Z (bB Z)<|wN<|aK<|wm Z<|wA Z Z<|wn Z ?_;exact⟨i+1,Rb,((0+((j).toNat))+1)+(n1-(j).toNat),Rp,((([])++((vals).take (j).toNat))++([Value.slice fz ((lw (rdl ws i)).length) ci]))++((vals).drop (j).toNat),([]++ls.take j.toNat++[lw (rdl ws i)]++ls.drop j.toNat),((ru 5 fz ((lw (rdl ws i)).length) ci (lw (rdl ws i)))::Rs),⟨G,G,(by simp only[ah,ax,az,dn,jb];omega),(((((SlR.nilR _ _).app (lf.take _)).right [_]).push Z (λ_ _ _ h=>rdr 0 Z _ h)).app ((lf.drop _).right [_])),(aFf dr (wY (Ji _ (jD bb G)).1) (by rw[kL];omega)),(by rw[gT bb G];exact Ny.put G sf G a8 ge)⟩,G,SA,λ_ h=>h.selR (F:=[_,_,_,_]) (F':=[_,_]) [0,2] cC Z⟩
 ·refine aR<|wq<|wm Z<|wn Z<|bU (R1:=(⟨22,1,A1,n1,c1,vals,false⟩::Rs)) hiZ ?_;refine⟨_,Z,?_⟩;obtain rfl:i=ws.length:=G
  rw[cz,ow] at Ny;obtain rfl:ls=canon ws:=Ny.done λc hc=>(dr c hc).2.1;subst cm;exact⟨_,_,vals,Rs,Z,lf,Z⟩
variable {ws:AD}
theorem aJl {β:Type} (f:AH->β) {ls:AD} {i:Int} (h0:0<=i) (h1:i<ls.length):(ls.take (i+1).toNat).map f=(ls.take i.toNat).map f++[f (rdl ls i)]:=by
 rw[gT h0 h1,iv];rfl
theorem bCp {ws:AD} {M:Nat} (hb:OkB ws) (h: ∀w∈ws,w.length<=M) {c:AH} (hc:c∈canon ws):aN c/\0<c.length/\c.length<=M:=by
 have h1:=xO hb c hc;obtain⟨w,h2,h3,rfl⟩:=SC hc;rw[kL] at*;exact⟨h1.1,h3,h w h2⟩
theorem aLs {w:World} {ar:AF} {bo aw:Nat} {al:AG} {ws:AD} (ao:Rd w ar bo aw 1 al) (bh:SlW .u8 w al ws) (hN:(∀w∈ws,w.length<=8000)/\ws.length<=100000):
  CF 138 #[sl ar bo aw] w (λv R'=> ∃(A:AF) (c:Nat) (A2:AF) (c2:Nat) (vals:AG) (Rs:List Row),v= .tuple #[sl A vals.length c,sl A2 ((fI ws).map Prod.snd).length c2]/\SlR .u8 Rs vals ((fI ws).map Prod.fst)/\R'=⟨22,1,A,vals.length,c,vals,false⟩::(ri 3 A2 (((fI ws).map Prod.snd).length) c2 ((fI ws).map Prod.snd))::Rs):=by
 obtain rfl:bo=ws.length:=by have:=ao.len;have:=bh.1;omega
 refine fn2 Tryz.func138 Z Z Z ?_;have kh:=ao.max;have Ji:=bh.okB;refine wq<|wg Z<|wn Z<|wq<|wm Z<|wa (aC bLj Z (Ct.fresh (λw hw=>TQ ((ao.c _) w hw) (bh.c hw) cE))) ?_;rintro _ _⟨_,rfl,cg,ce,pc,sn,rfl,Ms,rfl⟩;have Tm:=Ms.1;refine bT (R1:=(⟨22,1,cg,pc.length,ce,pc,false⟩::sn)) (Sub.refl _) (λ_ h=>Hp.toTail0 (X:=[_]) (Y:=[]) h)<|wn Z<|wq<|bT (R1:=(⟨22,1,none,0,0,[],false⟩::⟨22,1,cg,pc.length,ce,pc,false⟩::sn)) (Sub.refl _) (λ_ h=>h.nil 22 1)<|wn Z<|wq<|bT (R1:=((ri 3 none 0 0 ([]))::⟨22,1,none,0,0,[],false⟩::⟨22,1,cg,pc.length,ce,pc,false⟩::sn)) (Sub.refl _) (λ_ h=>h.nil 3 1)<|wn Z<|aD<|aD ?_;refine aK<|wn Z<|aH ?_;refine BC (λ(i:Int) (A1:AF) (n1:Nat) (c1:Nat) (vals:AG) (ls:AD) (A2:AF) (n2:Nat) (c2:Nat) (ts:AH)=>[(4,sl cg pc.length ce),(5,sl A1 n1 c1),(6,sl A2 n2 c2),(7,I i)]) (λi A1 n1 c1 vals ls A2 n2 c2 ts=>((ri 3 A2 n2 c2 ts)::⟨22,1,A1,n1,c1,vals,false⟩::⟨22,1,cg,pc.length,ce,pc,false⟩::sn)) (λi A1 n1 c1 vals ls A2 n2 c2 ts=>(0<=i)/\(i<=(canon ws).length)/\(n1=vals.length)/\(n2=ts.length)/\(SlR .u8 sn vals ls)/\(ls=((canon ws).take i.toNat).map jR)/\(ts=((canon ws).take i.toNat).map gB)) (λi A1 n1 c1 vals ls A2 n2 c2 ts=>((canon ws).length-i).toNat) ?_ ?_
 ·exact⟨0,none,0,0,[],[],none,0,0,[],⟨G,G,(Z),(Z),(SlR.nilR _ _),(Z),(Z)⟩,KP⟩
 intro i A1 n1 c1 vals ls A2 n2 c2 ts ⟨bb,gd,cm,pj,lf,yi,v6⟩;have ur:=bu List.length yi;rw[bq,ax] at ur;have bp:=bu List.length v6;rw[bq,ax] at bp;have Mt:=lf.1;have Kz:=TN ws;have hcw:0<=i->i<(canon ws).length->aN (rdl (canon ws) i)/\0<(rdl (canon ws) i).length/\(rdl (canon ws) i).length<=8000:=λh h'=>bCp Ji hN.1 (jD h h');refine aD<|wq<|wm Z<|wm Z<|wy (aL ay Z)<|wL Z Z<|aA<|bA Z (λba=> ?_) (λba=> ?_)
 ·have Ss:=hcw bb G;refine aI<|aD<|aH<|wq<|wm Z<|wm Z<|wy (aF ay dH Z Z (rdr 2 Z)) ?_;obtain⟨gg,ef,hv_9,Mo⟩:=Ms.at (i:=i) G G;refine wy (lC af Z Z Z (rdr 2 Z) hv_9)<|wa (aC bHf Z (Ct.quiet (λw hw=>LU ((λ_ h=>Mo _ _ _ (h.right (R':=[_,_,_]))) w hw) Ss.1 Ss.2.1 G))) ?_;rintro _ _⟨rfl,rfl⟩;have hr10:=pK (u:=(rdl (canon ws) i)) G;refine wm Z<|wX Z Z<|wX Z Z<|wg Z<|wn Z<|aK<|wm Z<|wm Z<|wa (iQ [Value.slice gg ((rl (rdl (canon ws) i)).toNat) ef] ay nS Z Z Z Z) ?_;rintro _ _⟨iu,rfl,rfl⟩;refine wa (fJ 2 Z Z ay yY Z Z Z Z Z (rdr 0 Z) (by simp[Value.oneCell']) (by dsimp only;omega)) ?_;rintro _ _⟨fa,fc,rfl,rfl⟩;refine bC (v:=sl fa (n1+1) fc) Z<|wm Z<|wm Z<|wa (bH .i64 [(((rdl (canon ws) i)).length:Int)/rl (rdl (canon ws) i)] aa zs3 Z Z Z) ?_;rintro _ _⟨j5,rfl,rfl⟩;refine wa (aQ 2 Z aa zb3 Z Z Z (rdr 0 Z)) ?_;rintro _ _⟨dj,dp,rfl,rfl⟩;refine bC (v:=sl dj (n2+1) dp) Z<|wg Z<|wn Z<|aK<|wm Z<|wA Z Z<|wn Z ?_;exact⟨i+1,fa,n1+1,fc,vals++([Value.slice gg ((rl (rdl (canon ws) i)).toNat) ef]),(ls++[(rdl (canon ws) i).take (rl (rdl (canon ws) i)).toNat]),dj,n2+1,dp,ts++([(((rdl (canon ws) i)).length:Int)/rl (rdl (canon ws) i)]),⟨G,G,(by rw[ah,cm];rfl),(by rw[ah,pj];rfl),(lf.push (by rw[ax];omega) (λB w0=>RdC.toI (Mo B w0) G)),(by rw[aJl jR bb G,<-yi];rfl),(by rw[aJl gB bb G,<-v6];rfl)⟩,G,SA,λ_ h=>h.selR (F:=[_,_,_,_,_]) (F':=[_,_,_]) [2,3,4] cC Z⟩
 ·refine aR<|wq<|wm Z<|wm Z<|wg Z<|wn Z<|aT [1,0] 3 cC Z ?_;refine⟨_,_,Z,Z,?_⟩;have gr:=YP ws;rw[bi G] at yi v6;obtain rfl:ls=(fI ws).map Prod.fst:=yi.trans gr.1;obtain rfl:ts=(fI ws).map Prod.snd:=v6.trans gr.2;subst cm;subst pj;exact⟨_,_,_,_,vals,_,Z,lf,Z⟩
end Go.Proofs.YtdbebmmhdefgdaaGreat
namespace Go.Pure
open Go Go.Eng
variable {t:Int} {u b:AH}
def EP (t:Int) (u:AH) (p:AH × AH):Prop:=
 (t=1/\ ∃b:AH,b.Perm (iota u.length)/\b.Pairwise (bY u)/\p=(aW (zat b),ofL u b))\/
 (t=2/\ ∃T:AE,T.Perm (fG (bws u) (bws u).length)/\T.Pairwise (jF (bws u))/\p=([],T.map (lastB (bws u))))\/
 (t≠1/\t≠2/\p=([],u))
theorem EP.uniq {p q:AH × AH} (h1:EP t u p) (h2:EP t u q):p=q:=by
 rcases h1 with⟨e1,b,hb,sb,rfl⟩|⟨e1,T,hT,sT,rfl⟩|⟨e1,e2,rfl⟩<;>rcases h2 with⟨f1,c,hc,sc,rfl⟩|⟨f1,U,hU,sU,rfl⟩|⟨f1,f2,rfl⟩
 ·rw[aEm hb hc sb sc]
 ·omega
 ·omega
 ·omega
 ·rw[FW aEl (hT.trans hU.symm) sT sU]
 ·omega
 ·omega
 ·omega
 ·rfl
open Classical in
noncomputable def mK (t:Int) (u:AH):AH × AH:=if h: ∃p,EP t u p then Classical.choose h else([],[])
theorem BH {p:AH × AH} (h:EP t u p):mK t u=p:=by
 have he: ∃p,EP t u p:=⟨p,h⟩;unfold mK;rw[dif_pos he];exact(Classical.choose_spec he).uniq h
theorem KT (h1:t≠1) (h2:t≠2):mK t u=([],u):=BH (.inr (.inr ⟨h1,h2,rfl⟩))
theorem KU (hp:b.Perm (iota u.length)) (hs:b.Pairwise (bY u)):mK 1 u=(aW (zat b),ofL u b):=BH (.inl ⟨rfl,b,hp,hs,rfl⟩)
theorem KV {T:AE} (hp:T.Perm (fG (bws u) (bws u).length)) (hs:T.Pairwise (jF (bws u))):mK 2 u=([],T.map (lastB (bws u))):=BH (.inr (.inl ⟨rfl,T,hp,hs,rfl⟩))
noncomputable def bZ (t o:Int) (b:AH):AH:=
 aW b.length++((mK t b).1++(aW (bR (mK t b).2 o).length++(eG (bv (gQ b))++bR (mK t b).2 o)))
theorem EP.facts {p:AH × AH} (h:EP t u p) (hu:aN u) (hN:u.length<=100000):(p.1.length<=3/\aN p.1)/\aN p.2/\p.2.length=u.length:=by
 rcases h with⟨_,b,hb,sb,rfl⟩|⟨_,T,hT,sT,rfl⟩|⟨_,_,rfl⟩
 ·have e1:=mR hb sb;have e2:=zO (s:=u) (k:=0) G;exact⟨⟨bW 2 _ G,dB G⟩,yJ hu hb,(CU hb sb).length_eq⟩
 ·exact⟨⟨cD,λ_ h=>nomatch h⟩,kW hT (by rw[nK];exact hu),by rw[bq,EJ hT]⟩
 ·exact⟨⟨cD,λ_ h=>nomatch h⟩,hu,rfl⟩
theorem XT (hu:aN u) (hN:u.length<=100000):((mK t u).1.length<=3/\aN (mK t u).1)/\aN (mK t u).2/\(mK t u).2.length<=u.length:=by
 by_cases h: ∃p,EP t u p
 ·obtain ⟨p,hp⟩:=h;rw[BH hp];have:=hp.facts hu hN;exact⟨this.1,this.2.1,G⟩
 ·unfold mK;rw[dif_neg h];exact⟨⟨cD,λ_ h=>nomatch h⟩,(λ_ h=>nomatch h),cD⟩
theorem AJ {o:Int} (hb:aN b) (hN:b.length<=100000):(bZ t o b).length<=2*b.length+22/\aN (bZ t o b):=by
 obtain⟨⟨h1,h0⟩,h2,h3⟩:=XT (t:=t) hb hN;have h4:=lG (o:=o) h2;have h5:=bW 2 (b.length:Int) G;have h6:=bW 2 ((bR (mK t b).2 o).length:Int) G;have h7:(eG (bv (gQ b))).length=4:=rfl;unfold bZ;refine⟨by simp only[ah];omega,?_⟩;intro x hx;simp only[dz] at hx;rcases hx with hx|hx|hx|hx|hx
 ·exact dB G x hx
 ·exact h0 x hx
 ·exact dB G x hx
 ·exact iI _ x hx
 ·exact fZ _ _ x hx
def chK (m n:Nat):Nat:=(m+n-1)/n
noncomputable def lI (t o:Int) (n:Nat) (u:AH) (k:Nat):AH:=((List.range k).map λj=>bZ t o ((u.drop (j*n)).take n)).flatten
theorem vG (t o:Int) (n:Nat) (u:AH):lI t o n u 0=[]:=rfl
theorem vH (t o:Int) (n:Nat) (u:AH) (k:Nat):lI t o n u (k+1)=lI t o n u k++bZ t o ((u.drop (k*n)).take n):=by
 unfold lI;rw[zm,iv,lq];simp
theorem mQ {t o:Int} {n:Nat} {u:AH} (hu:aN u) (hN:u.length<=100000): ∀k:Nat,(lI t o n u k).length<=(2*u.length+22)*k/\aN (lI t o n u k)
 |0=>by rw[vG];exact⟨cD,λ_ h=>nomatch h⟩
 |k+1=>by
  have h1:=mQ (t:=t) (o:=o) (n:=n) hu hN k;have h2:=AJ (t:=t) (o:=o) (b:=(u.drop (k*n)).take n) ((hu.drop _).take _) (by rw[ax,az];omega);have h3:((u.drop (k*n)).take n).length<=u.length:=by rw[ax,az];omega
  rw[vH,ah,Nat.mul_add];refine⟨G,λx hx=> ?_⟩;rcases dz.1 hx with hx|hx
  ·exact h1.2 x hx
  ·exact h2.2 x hx
theorem aGi {m n:Nat} (hn:1<=n):chK m n<=m:=by
 unfold chK;rcases ek m with h|h
 ·subst h;rw[Dw G];exact dx _
 ·refine Nat.le_of_lt_succ ((Nat.div_lt_iff_lt_mul G).2 ?_);have:(m+1)*1<=(m+1)*n:=Nat.mul_le_mul_left _ hn;have e:(m+1)*n=m*n+n:=by rw[xz,Bi]
  have e2:m*1<=m*n:=Nat.mul_le_mul_left _ hn;show m+n-1<(m+1)*n;omega
noncomputable def tZ (t so o size:Int) (u:AH):AH:=
 (([87,72,82,76]++[1,t,so,o])++aW size++lI t o size.toNat u (chK u.length size.toNat))++(aW 0++aW u.length)
end Go.Pure
namespace Go.Proofs.YtdbebmmhdefgdaaGreat
open Go Go.Eng Go.Pure
open Tryz
set_option maxRecDepth 100000
variable {B bl an cq:Nat} {w0:World} {R:List Row} {so od sz:Int} {ap Aq:AF} {u:AH}
theorem xP {tu:Int} (ht:0<=tu/\tu<=3) (hp:(0<=so/\so<=2)/\(od=0\/od=1)/\(1<=sz/\sz<=16777216)):
  CT 23 #[.agg #[I tu,I so,I od,I sz]] B w0 (R) (λv R'=>v=bt/\R'=R):=by
 refine fn1 Tryz.func23 Z Z Z ?_;refine wq<|wa (cB (sz:=4) Z Z) ?_;rintro _ _⟨aq,rfl,rfl⟩;refine wn Z<|wq<|wy (yF 0 0 bg sz3 Z)<|wy (yL 0 au Z Z Z)<|wy (Yl.t (iD Z Z) G)<|wm Z<|aB Z Z<|wy (yF 0 0 bg sz3 Z)<|aB Z Z<|wy (yL 0 au Z Z Z)<|aB Z Z<|wy (Yl.t (qP Z Z) G)<|wy (aS Z Z) ?_;refine wm Z<|aB Z Z<|wy (yF 1 1 bg sz3 Z)<|aB Z Z<|wy (yL 0 au Z Z Z)<|aB Z Z<|wy (Yl.t (iD Z Z) G)<|wy (aS Z Z)<|wm Z<|aB Z Z<|wy (yF 1 1 bg sz3 Z)<|aB Z Z<|wy (yL 0 au Z Z Z)<|aB Z Z<|wy (Yl.t (eZ Z Z) G) ?_;refine wy (aS Z Z)<|wm Z<|aB Z Z<|wy (yF 2 2 bg sz3 Z)<|aB Z Z<|wy (yL 0 au Z Z Z)<|aB Z Z<|wy (fD Z Z)<|aB Z Z<|wm Z<|bV 4 [(1,PG aq),(21,bt),(29, .bool (decide ((od=0)\/(od=1))))] ((rc 27 4 aq [I tu,I so,I od,I sz])::R) ?_ ?_
 ·refine bN 25 Z (λba=> ?_) (λba=> ?_)
  ·refine aM Z Z Z Z<|aM Z Z Z Z<|aM Z Z Z Z<|aB Z Z<|wy (aS Z Z)<|aA ?_;exact KP
  ·refine aB Z Z<|wy (yF 2 2 bg sz3 Z)<|aB Z Z<|wy (yL 0 au Z Z Z)<|aB Z Z<|wy (fD Z Z)<|aB Z Z<|wy (aO Z Z)<|aA ?_;exact KP
 refine mW 29 Z (hp.2.1)<|wy (aS Z Z)<|wm Z<|aB Z Z<|wy (yF 3 3 bg sz3 Z)<|aB Z Z<|wy (yL 0 au Z Z Z)<|aB Z Z<|wy (Yl.t (iD Z Z) G)<|wy (aS Z Z)<|wm Z<|aB Z Z<|wy (yF 3 3 bg sz3 Z)<|aB Z Z<|wy (yL 0 au Z Z Z) ?_;refine aB Z Z<|wy (Yl.t (qP Z Z) G)<|wy (aS Z Z)<|wn Z<|aT [] 1 cC Z ?_;exact⟨_,Z,Z,Z⟩
theorem zS {A:AF} {c sz:Nat}:RdC B w0 R A 0 c sz []:=λ_ _=>⟨cD,G,G,λj v hv=>by simp at hv⟩
theorem aDb (ac:RdC B w0 R ap bl an 1 (ints .u8 u)) (cr:bl=u.length) (am:aN u) (hN:u.length<=100000) (hp:(0<=so/\so<=2)/\(od=0\/od=1)/\(1<=sz/\sz<=16777216)):
  CT 74 #[sl ap bl an,sl Aq 0 cq, .agg #[I 0,I so,I od,I sz]] B w0 (R) (λv R'=>v= .tuple #[sl none 0 0,sl ap bl an]/\R'=R):=by
 subst cr;refine fn2 Gy Z Z Z ?_;refine wq<|wa (cB (sz:=4) Z Z) ?_;rintro _ _⟨aq,rfl,rfl⟩;refine wg Z<|wn Z<|aD<|wq<|wy (yF 0 0 bg sz3 Z)<|wy (yL 0 au Z Z Z)<|aA<|aH<|wq<|wQ Z Z<|wn Z ?_;refine aP Z<|wq<|wQ Z Z<|wn Z<|aP Z<|wq<|wQ Z Z<|wn Z<|aP Z<|aI<|aD ?_;refine aK<|wm Z<|wg Z<|wn Z<|aT [] 1 cC Z ?_;refine⟨_,_,Z,Z,?_⟩;exact⟨Z,Z⟩
theorem aDa (ac:RdC B w0 R ap bl an 1 (ints .u8 u)) (cr:bl=u.length) (am:aN u) (hN:u.length<=100000) (hp:(0<=so/\so<=2)/\(od=0\/od=1)/\(1<=sz/\sz<=16777216)):
  CT 74 #[sl ap bl an,sl Aq 0 cq, .agg #[I 1,I so,I od,I sz]] B w0 (R) (λv R'=> ∃(b1:AH) (A1:AF) (c1:Nat) (A2:AF) (c2:Nat),v= .tuple #[sl A1 (aW (zat b1)).length c1,sl A2 (ofL u b1).length c2]/\b1.Perm (iota u.length)/\b1.Pairwise (bY u)/\R'=(ru 5 A1 ((aW (zat b1)).length) c1 (aW (zat b1)))::(ru 5 A2 ((ofL u b1).length) c2 (ofL u b1))::R):=by
 subst cr;refine fn2 Gy Z Z Z ?_;refine wq<|wa (cB (sz:=4) Z Z) ?_;rintro _ _⟨aq,rfl,rfl⟩;refine wg Z<|wn Z<|aD<|wq<|wy (yF 0 0 bg sz3 Z)<|wy (yL 0 au Z Z Z)<|aA<|aH<|wq<|wR Z Z<|wn Z ?_;refine dS Z<|aD<|bF mixed<|wD 1 Z (yF 1 1 bg sz3 Z)<|wD 2 Z (yL 0 au Z Z Z)<|wD 3 Z (aJ Z)<|wC 0 Z (aC bOp Z (Ct.fresh (λw hw=>aBh))) ?_;rintro _ _⟨_,rfl,fi,rfl,rfl⟩;refine⟨.inr hrZ,?_⟩;refine wC 4 Z (aC bOb Z ((JE (RdC.right ac [_]) (by first|rfl|(simp;done)|omega) am hN cC))) ?_;rintro _ _⟨b1,ns,pi,e1,d0,d1,d2,rfl,hso,rfl⟩;obtain⟨_,Hb⟩:=hso.resolve_left (λh=>absurd h.1 G);refine⟨.inl cA,?_⟩;refine wD 5 Z (aJ Z)<|wD 6 Z (EU Z Z)<|wD 7 Z (EU Z Z)<|wD 8 Z (bB Z)<|wD 9 Z (bB Z)<|wN<|wq<|wm Z<|wm Z<|wa (aC bMq Z (Ct.fresh (λw hw=>bHr ((RdC.right ac [_,_,_]) w hw) ((rdr 0 Z) w hw) Hb.2.1 G))) ?_;rintro _ _⟨_,rfl,gg,ef,rfl,rfl⟩;refine wm Z<|wX Z Z<|wX Z Z<|wX Z Z<|wg Z<|wg Z<|wn Z<|wq<|wm Z<|wa (aC xJ Z (Ct.fresh (λw hw=>gU (by have e1:=mR Hb.2.1 Hb.2.2.1;have e2:=zO (s:=u) (k:=0) G;omega)))) ?_;rintro _ _⟨_,rfl,bw,bx,rfl,rfl⟩;refine wm Z<|wg Z<|wn Z<|aT [0,1] 5 cC Z ?_;refine⟨_,_,Z,Z,?_⟩;exact⟨b1,_,_,_,_,Z,Hb.2.1,Hb.2.2.1,Z⟩
theorem aCz (ac:RdC B w0 R ap bl an 1 (ints .u8 u)) (cr:bl=u.length) (am:aN u) (hN:u.length<=100000) (hp:(0<=so/\so<=2)/\(od=0\/od=1)/\(1<=sz/\sz<=16777216)):
  CT 74 #[sl ap bl an,sl Aq 0 cq, .agg #[I 2,I so,I od,I sz]] B w0 (R) (λv R'=> ∃(l1:AE) (A1:AF) (c1:Nat),v= .tuple #[sl none 0 0,sl A1 l1.length c1]/\l1.Perm (fG (bws u) (bws u).length)/\l1.Pairwise (jF (bws u))/\R'=(ru 5 A1 l1.length c1 (l1.map (lastB (bws u))))::R):=by
 subst cr;refine fn2 Gy Z Z Z ?_;refine wq<|wa (cB (sz:=4) Z Z) ?_;rintro _ _⟨aq,rfl,rfl⟩;refine wg Z<|wn Z<|aD<|wq<|wy (yF 0 0 bg sz3 Z)<|wy (yL 0 au Z Z Z)<|aA<|aH<|wq<|wQ Z Z<|wn Z ?_;refine aP Z<|wq<|wR Z Z<|wn Z<|dS Z<|wq<|wm Z<|wa (aC bNb Z (Ct.fresh (λw hw=>aGs ((RdC.right ac [_]) w hw) am hN))) ?_;rintro _ _⟨_,rfl,l1,en,es,rfl,th,k7,rfl⟩;refine wm Z<|wX Z Z<|wX Z Z<|wg Z<|wn Z<|wq<|wm Z<|wg Z<|wn Z<|aT [0] 2 cC Z ?_;refine⟨_,_,Z,Z,?_⟩;exact⟨l1,_,_,Z,th,k7,Z⟩
theorem aPd (ac:RdC B w0 R ap bl an 1 (ints .u8 u)) (cr:bl=u.length) (am:aN u) (hN:u.length<=100000) (hp:(0<=so/\so<=2)/\(od=0\/od=1)/\(1<=sz/\sz<=16777216)):
  CT 41 #[sl ap bl an,sl Aq 0 cq, .agg #[I 0,I so,I od,I sz]] B w0 (R) (λv R'=> ∃(A1:AF) (c1:Nat),v=sl A1 (bZ 0 od u).length c1/\R'=(ru 5 A1 ((bZ 0 od u).length) c1 (bZ 0 od u))::R):=by
 subst cr;refine fn1 Gx Z Z Z ?_;refine wq<|wa (cB (sz:=4) Z Z) ?_;rintro _ _⟨aq,rfl,rfl⟩;refine wn Z<|wq<|wm Z<|wm Z<|wy (bM (vs:=[I 0,I so,I od,I sz]) (rdr 0 Z) bg Z eQ Z Z (ak Z) Z)<|wa (aC bCc Z (aDb (RdC.right ac [_]) (by first|rfl|(simp;done)|omega) am hN hp)) ?_;rintro _ _⟨rfl,rfl⟩;have ox:(u).length=u.length:=rfl;have Fl:=lG (b:=u) (o:=od) am;have yd:=bW 2 (u.length:Int) G;have a6:=bW 2 ((bR u od).length:Int) G;refine wm Z<|wX Z Z<|wX Z Z<|wg Z<|wn Z<|wq<|wm Z<|wy (yF 2 2 bg sz3 Z)<|wy (yL 0 au Z Z Z)<|wa (aC aVu Z (Ct.fresh (λw hw=>tL ((RdC.right ac [_]) w hw) am hp.2.1 G))) ?_;rintro _ _⟨_,rfl,en,es,rfl,rfl⟩;refine wm Z<|wX Z Z<|wX Z Z<|wg Z<|wn Z<|wq<|wm Z<|wy (aL af Z)<|wa (aC xJ Z (Ct.fresh (λw hw=>gU G))) ?_;rintro _ _⟨_,rfl,gn,mj,rfl,rfl⟩;refine wm Z<|wm Z<|wy (aL af Z)<|wa (aC xJ Z (Ct.fresh (λw hw=>gU G))) ?_;rintro _ _⟨_,rfl,dv,br,rfl,rfl⟩;refine wa (aC aFu Z (Ct.fresh (λw hw=>oU))) ?_;rintro _ _⟨_,rfl,iu,rfl,rfl⟩;refine wm Z<|wa (iQ [Value.slice ap u.length an] ay nS Z Z Z Z) ?_;rintro _ _⟨jp,rfl,rfl⟩;refine wa (aC aFt Z (Ct.at 1 Z (oQ (ls:=[u]) (.inl ⟨Z,Z,dh ..,G⟩) (rdr 0 rfl) rfl (yZ.one (l:=u) (RdC.right ac [_,_,_,_,_]) am (by first|rfl|simp|(simp[upd];done))) (Big.one (by first|omega|decide|simp))))) ?_;rintro _ _⟨rfl,rfl⟩;refine wa (aC bCb Z (Ct.fresh (λw hw=>DU ⟨by unfold bv;omega,by unfold bv;have:=(gQ ([u]).flatten).isLt;omega⟩))) ?_;rintro _ _⟨_,rfl,fb,pm,rfl,rfl⟩;refine wm Z<|wa (iQ [Value.slice gn ((aW (u.length:Int)).length) mj,Value.slice none 0 0,Value.slice dv ((aW (((bR u od).length:Nat):Int)).length) br,Value.slice fb 4 pm,Value.slice en ((bR u od).length) es] ay nS Z Z Z Z) ?_;rintro _ _⟨wj,rfl,rfl⟩;refine wa (aC AB Z (Ct.fresh (λw hw=>iO ((rdr 0 Z) w hw) ((((((gD _ _).snoc ((rdr 5 Z) w hw) (λx hx=>dR ((dB G) x hx)) G).snoc ((zR _) w hw) (λx hx=>by cases hx) cC).snoc ((rdr 4 rfl) w hw) (λx hx=>dR ((dB G) x hx)) G).snoc ((rdr 1 rfl) w hw) (λx hx=>dR ((iI _) x hx)) (by show(4:Nat)<=_;decide)).snoc ((rdr 6 rfl) w hw) (λx hx=>dR ((fZ _ _) x hx)) G) ⟨by simp only[qc,jd,jf,oh,ko,qx,uh,Fj,jb];have h4:(eG (bv (gQ ([u]).flatten))).length=4:=rfl;omega,cD⟩))) ?_;rintro _ _⟨_,rfl,li,lj,rfl,rfl⟩;refine wn Z<|aT [0] 9 cC Z ?_;refine⟨_,Z,?_⟩
 have e:([aW (u.length:Int),[],aW (((bR (u) od).length:Nat):Int),eG (bv (gQ ([u]).flatten)),bR (u) od]).flatten=bZ 0 od u:=by
  unfold bZ;rw[KT (t:=0) (u:=u) cC cC];simp
 rw[<-e];exact⟨_,_,Z,Z⟩
theorem aPc (ac:RdC B w0 R ap bl an 1 (ints .u8 u)) (cr:bl=u.length) (am:aN u) (hN:u.length<=100000) (hp:(0<=so/\so<=2)/\(od=0\/od=1)/\(1<=sz/\sz<=16777216)):
  CT 41 #[sl ap bl an,sl Aq 0 cq, .agg #[I 1,I so,I od,I sz]] B w0 (R) (λv R'=> ∃(A1:AF) (c1:Nat),v=sl A1 (bZ 1 od u).length c1/\R'=(ru 5 A1 ((bZ 1 od u).length) c1 (bZ 1 od u))::R):=by
 subst cr;refine fn1 Gx Z Z Z ?_;refine wq<|wa (cB (sz:=4) Z Z) ?_;rintro _ _⟨aq,rfl,rfl⟩;refine wn Z<|wq<|wm Z<|wm Z<|wy (bM (vs:=[I 1,I so,I od,I sz]) (rdr 0 Z) bg Z eQ Z Z (ak Z) Z)<|wa (aC bCc Z (aDa (RdC.right ac [_]) (by first|rfl|(simp;done)|omega) am hN hp)) ?_;rintro _ _⟨b1,en,es,gn,mj,rfl,dq,fg,rfl⟩;have ox:(ofL u b1).length=u.length:=(by rw[(CU dq fg).length_eq]);have Fl:=lG (b:=ofL u b1) (o:=od) (yJ am dq);have yd:=bW 2 (u.length:Int) G;have a6:=bW 2 ((bR (ofL u b1) od).length:Int) G;have hz:0<=zat b1/\zat b1<=100000:=by have e1:=mR dq fg;have e2:=zO (s:=u) (k:=0) G;omega
 have un:=bW 2 (zat b1) G;refine wm Z<|wX Z Z<|wX Z Z<|wg Z<|wn Z<|wq<|wm Z<|wy (yF 2 2 bg sz3 Z)<|wy (yL 2 au Z Z Z)<|wa (aC aVu Z (Ct.fresh (λw hw=>tL ((rdr 1 Z) w hw) (yJ am dq) hp.2.1 G))) ?_;rintro _ _⟨_,rfl,dv,br,rfl,rfl⟩;refine wm Z<|wX Z Z<|wX Z Z<|wg Z<|wn Z<|wq<|wm Z<|wy (aL af Z)<|wa (aC xJ Z (Ct.fresh (λw hw=>gU G))) ?_;rintro _ _⟨_,rfl,na,db,rfl,rfl⟩;refine wm Z<|wm Z<|wy (aL af Z)<|wa (aC xJ Z (Ct.fresh (λw hw=>gU G))) ?_;rintro _ _⟨_,rfl,fb,pm,rfl,rfl⟩;refine wa (aC aFu Z (Ct.fresh (λw hw=>oU))) ?_;rintro _ _⟨_,rfl,Rr,rfl,rfl⟩;refine wm Z<|wa (iQ [Value.slice ap u.length an] ay nS Z Z Z Z) ?_;rintro _ _⟨Nl,rfl,rfl⟩;refine wa (aC aFt Z (Ct.at 1 Z (oQ (ls:=[u]) (.inl ⟨Z,Z,dh ..,G⟩) (rdr 0 rfl) rfl (yZ.one (l:=u) (RdC.right ac [_,_,_,_,_,_,_]) am (by first|rfl|simp|(simp[upd];done))) (Big.one (by first|omega|decide|simp))))) ?_;rintro _ _⟨rfl,rfl⟩;refine wa (aC bCb Z (Ct.fresh (λw hw=>DU ⟨by unfold bv;omega,by unfold bv;have:=(gQ ([u]).flatten).isLt;omega⟩))) ?_;rintro _ _⟨_,rfl,pf,ph,rfl,rfl⟩;refine wm Z<|wa (iQ [Value.slice na ((aW (u.length:Int)).length) db,Value.slice en ((aW (zat b1)).length) es,Value.slice fb ((aW (((bR (ofL u b1) od).length:Nat):Int)).length) pm,Value.slice pf 4 ph,Value.slice dv ((bR (ofL u b1) od).length) br] ay nS Z Z Z Z) ?_;rintro _ _⟨wk,rfl,rfl⟩;refine wa (aC AB Z (Ct.fresh (λw hw=>iO ((rdr 0 Z) w hw) ((((((gD _ _).snoc ((rdr 5 Z) w hw) (λx hx=>dR ((dB G) x hx)) G).snoc ((rdr 7 Z) w hw) (λx hx=>dR ((dB hz.1) x hx)) G).snoc ((rdr 4 Z) w hw) (λx hx=>dR ((dB G) x hx)) G).snoc ((rdr 1 Z) w hw) (λx hx=>dR ((iI _) x hx)) (by show(4:Nat)<=_;decide)).snoc ((rdr 6 Z) w hw) (λx hx=>dR ((fZ _ _) x hx)) G) ⟨by simp only[qc,jd,jf,oh,ko,qx,uh,Fj,jb];have h4:(eG (bv (gQ ([u]).flatten))).length=4:=rfl;omega,cD⟩))) ?_;rintro _ _⟨_,rfl,nd,nh,rfl,rfl⟩;refine wn Z<|aT [0] 11 cC Z ?_;refine⟨_,Z,?_⟩
 have e:([aW (u.length:Int),aW (zat b1),aW (((bR (ofL u b1) od).length:Nat):Int),eG (bv (gQ ([u]).flatten)),bR (ofL u b1) od]).flatten=bZ 1 od u:=by
  unfold bZ;rw[KU dq fg];simp
 rw[<-e];exact⟨_,_,Z,Z⟩
theorem aPb (ac:RdC B w0 R ap bl an 1 (ints .u8 u)) (cr:bl=u.length) (am:aN u) (hN:u.length<=100000) (hp:(0<=so/\so<=2)/\(od=0\/od=1)/\(1<=sz/\sz<=16777216)):
  CT 41 #[sl ap bl an,sl Aq 0 cq, .agg #[I 2,I so,I od,I sz]] B w0 (R) (λv R'=> ∃(A1:AF) (c1:Nat),v=sl A1 (bZ 2 od u).length c1/\R'=(ru 5 A1 ((bZ 2 od u).length) c1 (bZ 2 od u))::R):=by
 subst cr;refine fn1 Gx Z Z Z ?_;refine wq<|wa (cB (sz:=4) Z Z) ?_;rintro _ _⟨aq,rfl,rfl⟩;refine wn Z<|wq<|wm Z<|wm Z<|wy (bM (vs:=[I 2,I so,I od,I sz]) (rdr 0 Z) bg Z eQ Z Z (ak Z) Z)<|wa (aC bCc Z (aCz (RdC.right ac [_]) (by first|rfl|(simp;done)|omega) am hN hp)) ?_;rintro _ _⟨l1,en,es,rfl,th,k7,rfl⟩;have ox:(l1.map (lastB (bws u))).length=u.length:=(by rw[bq,EJ th]);have Fl:=lG (b:=l1.map (lastB (bws u))) (o:=od) (kW th (by rw[nK];exact am));have yd:=bW 2 (u.length:Int) G;have a6:=bW 2 ((bR (l1.map (lastB (bws u))) od).length:Int) G;refine wm Z<|wX Z Z<|wX Z Z<|wg Z<|wn Z<|wq<|wm Z<|wy (yF 2 2 bg sz3 Z)<|wy (yL 1 au Z Z Z)<|wa (aC aVu Z (Ct.fresh (λw hw=>tL ((rdr 0 Z) w hw) (kW th (by rw[nK];exact am)) hp.2.1 G))) ?_;rintro _ _⟨_,rfl,gn,mj,rfl,rfl⟩;refine wm Z<|wX Z Z<|wX Z Z<|wg Z<|wn Z<|wq<|wm Z<|wy (aL af Z)<|wa (aC xJ Z (Ct.fresh (λw hw=>gU G))) ?_;rintro _ _⟨_,rfl,dv,br,rfl,rfl⟩;refine wm Z<|wm Z<|wy (aL af Z)<|wa (aC xJ Z (Ct.fresh (λw hw=>gU G))) ?_;rintro _ _⟨_,rfl,na,db,rfl,rfl⟩;refine wa (aC aFu Z (Ct.fresh (λw hw=>oU))) ?_;rintro _ _⟨_,rfl,o3,rfl,rfl⟩;refine wm Z<|wa (iQ [Value.slice ap u.length an] ay nS Z Z Z Z) ?_;rintro _ _⟨o4,rfl,rfl⟩;refine wa (aC aFt Z (Ct.at 1 Z (oQ (ls:=[u]) (.inl ⟨Z,Z,dh ..,G⟩) (rdr 0 rfl) rfl (yZ.one (l:=u) (RdC.right ac [_,_,_,_,_,_]) am (by first|rfl|simp|(simp[upd];done))) (Big.one (by first|omega|decide|simp))))) ?_;rintro _ _⟨rfl,rfl⟩;refine wa (aC bCb Z (Ct.fresh (λw hw=>DU ⟨by unfold bv;omega,by unfold bv;have:=(gQ ([u]).flatten).isLt;omega⟩))) ?_;rintro _ _⟨_,rfl,uv,gh,rfl,rfl⟩;refine wm Z<|wa (iQ [Value.slice dv ((aW (u.length:Int)).length) br,Value.slice none 0 0,Value.slice na ((aW (((bR (l1.map (lastB (bws u))) od).length:Nat):Int)).length) db,Value.slice uv 4 gh,Value.slice gn ((bR (l1.map (lastB (bws u))) od).length) mj] ay nS Z Z Z Z) ?_;rintro _ _⟨z7,rfl,rfl⟩;refine wa (aC AB Z (Ct.fresh (λw hw=>iO ((rdr 0 Z) w hw) ((((((gD _ _).snoc ((rdr 5 Z) w hw) (λx hx=>dR ((dB G) x hx)) G).snoc ((zR _) w hw) (λx hx=>by cases hx) cC).snoc ((rdr 4 rfl) w hw) (λx hx=>dR ((dB G) x hx)) G).snoc ((rdr 1 rfl) w hw) (λx hx=>dR ((iI _) x hx)) (by show(4:Nat)<=_;decide)).snoc ((rdr 6 rfl) w hw) (λx hx=>dR ((fZ _ _) x hx)) G) ⟨by simp only[qc,jd,jf,oh,ko,qx,uh,Fj,jb];have h4:(eG (bv (gQ ([u]).flatten))).length=4:=rfl;omega,cD⟩))) ?_;rintro _ _⟨_,rfl,re,rh,rfl,rfl⟩;refine wn Z<|aT [0] 10 cC Z ?_;refine⟨_,Z,?_⟩
 have e:([aW (u.length:Int),[],aW (((bR (l1.map (lastB (bws u))) od).length:Nat):Int),eG (bv (gQ ([u]).flatten)),bR (l1.map (lastB (bws u))) od]).flatten=bZ 2 od u:=by
  unfold bZ;rw[KV th k7];simp
 rw[<-e];exact⟨_,_,Z,Z⟩
variable {B g bl an:Nat} {w0:World} {R:List Row} {ap:AF} {u:AH}
theorem aUe {k:Int} (ac:RdC B w0 R ap bl an 1 (ints .u8 u)) (cr:bl=u.length):
  CT 92 #[PG g] B w0 ((rc 146 1 g [sl ap bl an])::R) (λv R'=>v=I (u.length:Int)/\R'=(rc 146 1 g [sl ap bl an])::R):=by
 subst cr;refine fn1 Tryz.func92 Z Z Z ?_;refine wq<|wn Z<|aD<|wq<|wm Z<|wy (kZ Ab Z Z)<|aA<|aP Z<|aI<|wq<|wm Z ?_;refine wy (aG Z)<|wy (yF 0 0 Ae dH Z)<|wy (yL 0 af Z Z Z)<|wy (aL af Z)<|wn Z<|bU (R1:=((rc 146 1 g [sl ap u.length an])::R)) hiZ ?_;exact⟨_,Z,Z,Z⟩
theorem CW {gc:Nat} {At:AF} {nt ct:Nat} {p0 p1 p2 p3 ms tt ls V:Int} {m:Nat} (ac:RdC B w0 R ap bl an 1 (ints .u8 u)) (cr:bl=u.length) (hN:u.length<=1000000) (am:aN u) (hG:vM u V m) (hm:V<=9223372036854775807):
  CT 90 #[PG g] B w0 ((rc 87 10 g [PG gc,I p0,I p1,I p2,I p3,I ms,I tt,I ls,sl At nt ct,sl none 0 0])::(rc 146 1 gc [sl ap bl an])::R) (λv R'=>v= .tuple #[I V,bt]/\R'=(rc 87 10 g [PG gc,I p0,I p1,I p2,I p3,I ms,I tt,I ls,sl At nt ct,sl none 0 0])::(rc 146 1 gc [sl (jH ap m an 1) (bl-m) (an-m)])::R):=by
 subst cr;refine fn2 Tryz.func90 Z Z Z ?_;refine wq<|wg Z<|wn Z<|wq<|wm Z<|wy (aG Z)<|wy (yF 0 0 ig aKv Z)<|wy (yL 0 Ab Z Z Z)<|wa (aC bMa Z (Ct.pick [1,0] 2 cC Z (UJ (RdC.right ac [_]) Z hN am hG hm cC))) ?_;rintro _ _⟨rfl,rfl⟩;refine wX Z Z<|wX Z Z<|wg Z<|wn Z<|aT [1,0] 2 cC Z ?_;refine⟨_,_,Z,Z,?_⟩;exact⟨Z,Z⟩
theorem aFi {B:Nat} {w0:World} {R:List Row} {g gc:Nat} {ap At:AF} {bl an nt ct:Nat} {u:AH} {p0 p1 p2 p3 ms tt ls sz:Int} {b0 b1 b2:Int} {m:Nat} (ac:RdC B w0 R ap bl an 1 (ints .u8 u)) (cr:bl=u.length) (hN:u.length<=1000000) (am:aN u) (h5:u.take (5:Int).toNat=[87,72,82,76,1]) (h3:(u.drop (5:Int).toNat).take (3:Int).toNat=[b0,b1,b2]) (hl8:8<=u.length) (hG:vM ((u.drop (5:Int).toNat).drop (3:Int).toNat) sz m) (vf:0<=b0/\b0<=3) (Ts:(0<=b1/\b1<=2)/\(b2=0\/b2=1)/\(1<=sz/\sz<=16777216)):
  CT 89 #[PG g] B w0 ((rc 87 10 g [PG gc,I p0,I p1,I p2,I p3,I ms,I tt,I ls,sl At nt ct,sl none 0 0])::(rc 146 1 gc [sl ap bl an])::R) (λv R'=>v=bt/\R'=(rc 87 10 g [PG gc,I b0,I b1,I b2,I sz,I ms,I tt,I ls,sl At nt ct,sl none 0 0])::(rc 146 1 gc [.slice (jH (jH (jH ap (5:Int).toNat an 1) (3:Int).toNat (an-(5:Int).toNat) 1) m (an-(5:Int).toNat-(3:Int).toNat) 1) (bl-(5:Int).toNat-(3:Int).toNat-m) (an-(5:Int).toNat-(3:Int).toNat-m)])::R):=by
 subst cr;have Qn:rd ((u.drop (5:Int).toNat).take (3:Int).toNat) 0=b0:=by rw[h3];rfl
 have Ox:rd ((u.drop (5:Int).toNat).take (3:Int).toNat) 1=b1:=by rw[h3];rfl
 have i5:rd ((u.drop (5:Int).toNat).take (3:Int).toNat) 2=b2:=by rw[h3];rfl
 refine fn1 Tryz.func89 Z Z Z ?_;refine wq<|wn Z<|wq<|wm Z<|wy (aG Z)<|wy (yF 0 0 ig aKv Z)<|wy (yL 0 Ab Z Z Z)<|wa (aC aJj Z (Ct.pick [1,0] 2 cC Z (zK (RdC.right ac [_]) Z hN G))) ?_;rintro _ _⟨cg,ce,rfl,rfl⟩;refine wm Z<|wX Z Z<|wX Z Z<|wg Z<|wn Z<|aD<|wq<|wm Z<|wy (dW Z)<|wm Z<|aB Z Z<|wm Z<|aB Z Z ?_;refine wy (lX af bn ym Z (rdr 0 Z))<|aB Z Z<|wy (Yl.f (bIs (q:=[87,72,82,76,1]) Z Z (am.take _) (by unfold aN;decide)) (by rw[h5];decide)) ?_;refine wy (aO Z Z)<|aA<|aP Z<|aI<|wq<|wm Z<|wy (aG Z)<|wy (yF 0 0 ig aKv Z)<|wy (yL 2 Ab Z Z Z)<|wa (aC aJj Z (Ct.pick [1,0,2] 3 cC Z (zK (RdC.fromI (RdC.right ac [_,_]) G) (by rw[az]) (by rw[az];omega) (by rw[az];omega)))) ?_;rintro _ _⟨en,es,rfl,rfl⟩;refine wm Z<|wX Z Z<|wX Z Z<|wg Z<|wn Z<|wq<|wm Z<|wa (aC aOb Z (Ct.pick [3,1,0,2] 4 cC Z (CW (RdC.fromI (RdC.fromI (RdC.right ac [_,_]) G) G) (by rw[az,az]) (by rw[az,az];omega) ((am.drop _).drop _) hG G))) ?_;rintro _ _⟨rfl,rfl⟩;refine wm Z<|wX Z Z<|wX Z Z<|wg Z<|wn Z<|aD<|wq<|wm Z<|wy (dW Z)<|wm Z<|aB Z Z<|wm Z<|aB Z Z ?_;refine wy (dW Z)<|wy (aO Z Z)<|aA<|aP Z<|aI<|aD<|bF mixed<|wD 0 Z (aJ Z)<|wD 1 Z (aJ Z)<|wD 2 Z (aF af sz5 Z Z (rdr 2 Z))<|wD 3 Z (aU bn Z Z (rdr 2 Z))<|wD 4 Z (iR bn au Z)<|wD 5 Z (aJ Z)<|wD 6 Z (aF af sz5 Z Z (rdr 2 Z))<|wD 7 Z (aU bn Z Z (rdr 2 Z)) ?_;refine wD 8 Z (iR bn au Z)<|wD 9 Z (aJ Z)<|wD 10 Z (aF af sz5 Z Z (rdr 2 Z))<|wD 11 Z (aU bn Z Z (rdr 2 Z))<|wD 12 Z (iR bn au Z)<|wD 13 Z (aJ Z)<|wD 14 Z (gX (v:= .agg #[I (rd (((u).drop (5:Int).toNat).take (3:Int).toNat) 0),I (rd (((u).drop (5:Int).toNat).take (3:Int).toNat) 1),I (rd (((u).drop (5:Int).toNat).take (3:Int).toNat) 2),I sz]) Z (λw=>cA))<|wD 15 rfl (aG rfl)<|wD 16 rfl (yF 1 1 ig eQ rfl)<|qD 17 rfl cA (PD (j:=1) (r:=(rc 87 10 g [PG gc,I p0,I p1,I p2,I p3,I ms,I tt,I ls,sl At nt ct,sl none 0 0])) (vs:=[I (rd (((u).drop (5:Int).toNat).take (3:Int).toNat) 0),I (rd (((u).drop (5:Int).toNat).take (3:Int).toNat) 1),I (rd (((u).drop (5:Int).toNat).take (3:Int).toNat) 2),I sz]) 0 rfl rfl rfl eQ rfl (by simp[pat,Addr.add]) rfl rfl (by intro v hv;simp at hv;rcases hv with rfl|rfl|rfl|rfl<;>rfl) (ak rfl)) ?_;rintro _ _ rfl;refine⟨.inl cA,?_⟩;refine wN<|wq<|wm Z<|wy (aG Z)<|wy (yF 1 1 ig eQ Z)<|wy (bM (vs:=[I (rd (((u).drop (5:Int).toNat).take (3:Int).toNat) 0),I (rd (((u).drop (5:Int).toNat).take (3:Int).toNat) 1),I (rd (((u).drop (5:Int).toNat).take (3:Int).toNat) 2),I sz]) (rdr 0 Z) bg Z eQ Z Z (ak Z) Z)<|wa (aC WF Z (xP (by rw[Qn];exact vf) (by rw[Ox,i5];exact Ts))) ?_;rintro _ _⟨rfl,rfl⟩;refine wn Z<|aT [0,1] 4 cC Z ?_;refine⟨_,Z,?_⟩;rw[Qn,Ox,i5];exact⟨Z,Z⟩
end Go.Proofs.YtdbebmmhdefgdaaGreat
namespace Go.Pure
open Go Go.Eng
variable {x b l C:AH} {m:Nat} {low size total o y i:Int}
def tT (l:AH):Int:=l.foldl (λa d=>a*256+d) 0
theorem FX (l:AH) (d:Int):tT (l++[d])=tT l*256+d:=by unfold tT;rw[Gr];rfl
theorem aMg (h:m<x.length):tT (x.take (m+1))=tT (x.take m)*256+rd x (m:Int):=by
 have e:=dJ (j:=(m:Int)) (show(0:Int)<=m by omega) (show(m:Int)<x.length by omega);rw[show((m:Int)+1).toNat=m+1 by omega,cz] at e;rw[e,FX]
theorem ZM: ∀(k:Nat) (N:Int),0<=N->N<256^k->tT (beL k N)=N
 |0,N,h0,h1=>by rw[uz] at h1;show(0:Int)=N;omega
 |k+1,N,h0,h1=>by
  rw[wh] at h1;rw[beL,FX,ZM k (N/256) G (zk G h1)];omega
theorem aWq (N:Int) (m:Nat):N/256/256^m=N/256^(m+1):=by
 rw[wh,Cz,Int.ediv_ediv_of_nonneg G]
theorem aCb (a:Nat): ∀(m:Nat) (N:Int),(beL (a+m) N).take a=beL a (N/256^m)
 |0,N=>by rw[uz,Int.ediv_one,qp];exact bi (by rw[kE];exact dx _)
 |m+1,N=>by
  rw[show a+(m+1)=(a+m)+1 by omega,beL,Ep (by rw[kE];omega),aCb a m (N/256),aWq]
theorem CY: ∀(k:Nat) (l:AH),l.length=k->aN l->0<=tT l/\tT l<256^k
 |0,l,h,_=>by rw[dw h,uz];show(0:Int)<=0/\(0:Int)<1;omega
 | k+1,l,h,hb=>by
  have hl:(k:Int)<l.length:=G
  have e:l=l.take k++[rd l (k:Int)]:=by
   have e:=dJ (j:=(k:Int)) (show(0:Int)<=k by omega) hl;rw[show((k:Int)+1).toNat=k+1 by omega,cz,bi G] at e;exact e
  have ih:=CY k (l.take k) (by rw[ax];omega) (hb.take _);have hd:=hb.rd (k:Int);rw[e,FX,wh];omega
structure InC (s f:CdS):Prop where
 k:s.k<=f.k
 lo:s.N*256^(f.k-s.k)<=f.N
 hi:f.N+f.R<=(s.N+s.R)*256^(f.k-s.k)
theorem InC.refl (s:CdS):InC s s:=⟨dx _,by rw[Dj,uz,zq];exact mf _,by rw[Dj,uz,zq];exact mf _⟩
theorem InC.trans {a b c:CdS} (h:InC a b) (g:InC b c):InC a c:=by
 have hk:=h.k;have gk:=g.k;have e:c.k-a.k=(b.k-a.k)+(c.k-b.k):=G
 have hp:(0:Int)<=256^(c.k-b.k):=vz G;refine⟨G,?_,?_⟩
 ·rw [e,zt,<-su];exact Ig (oq h.lo hp) g.lo
 ·rw [e,zt,<-su];exact Ig g.hi (oq h.hi hp)
theorem aIf {s:CdS} (h:XE s) (hs:sV low size total):InC s (fB s low size total):=by
 obtain⟨r0,r1,n0,nr⟩:=h;obtain⟨f1,f2,f3,f4,f5⟩:=nY hs ⟨r0,r1⟩;unfold fB;generalize hq:s.R/total*size=R1 at*;generalize hl:s.R/total*low=x at*;generalize shN R1=j at*;have hp:(0:Int)<=256^j:=vz G;refine⟨by dsimp only;omega,?_,?_⟩
 ·show s.N*256^(s.k+j-s.k)<=(s.N+x)*256^j;rw[show s.k+j-s.k=j by omega];exact oq G hp
 ·show (s.N+x)*256^j+R1*256^j<=(s.N+s.R)*256^(s.k+j-s.k);rw[show s.k+j-s.k=j by omega,<-Jj];exact oq G hp
theorem YA (o:Int) (s:PpS) (x:Int):(lJ o s x).cd=qV s.cd (wB o s) x:=by unfold lJ aLi;split<;>(try split)<;>rfl
theorem aIx {o:Int}: ∀(l:AH) (s:PpS),aHb l->QG s->InC s.cd (l.foldl (lJ o) s).cd
 |[],s,_,_=>InC.refl _
 |x::l,s,hl,h=>by
  have hx:=hl x cD;have h1:=LF (o:=o) h hx.1 hx.2;have h2:=aIx (o:=o) l (lJ o s x) (λy hy=>hl y (fo _ hy)) h1.1;rw[List.foldl_cons];refine InC.trans ?_ h2;rw[YA];exact aIf h.2.2 (kH (JQ (o:=o) h) hx.1 hx.2)
theorem aYv {s f:CdS} (h:XE s) (hs:sV low size total) (hf:InC (fB s low size total) f) (hr:0<f.R):
  s.R/total*low<=f.N/256^(f.k-s.k)-s.N/\f.N/256^(f.k-s.k)-s.N<s.R/total*(low+size):=by
 obtain⟨hk,u7,Ta⟩:=hf;unfold fB at hk u7 Ta;dsimp only at hk u7 Ta;rw[Jk];generalize s.R/total*size=R1 at*;generalize s.R/total*low=x at*;generalize shN R1=j at*;have e:f.k-s.k=j+(f.k-(s.k+j)):=G
 have hp:(0:Int)<256^(f.k-s.k):=Ei G;rw[su,<-zt,<-e] at u7;rw[<-Jj,su,<-zt,<-e] at Ta;have h1:=(Al (a:=s.N+x) (b:=f.N) hp).2 u7;have h2:=zk (a:=f.N) (b:=s.N+x+R1) hp G;omega
theorem aVs (o:Int) (l m:AH):encP o (l++m)=m.foldl (lJ o) (encP o l):=by unfold encP;rw[Gr]
theorem aSy (h:aN b) {k:Nat} (hk:k<=(encP o (bJ b)).cd.k):tT ((bR b o).take (k+4))=(encP o (bJ b)).cd.N/256^((encP o (bJ b)).cd.k-k):=by
 have hc:=(DZ (o:=o) (qU h)).1.2.2;unfold bR;generalize (encP o (bJ b)).cd=f at*;obtain⟨r0,r1,n0,nr⟩:=hc;rw[show f.k+4=(k+4)+(f.k-k) by omega,aCb];refine ZM _ _ (Et n0 (vz G)) ?_;refine zk (Ei G) ?_;rw[<-zt,show k+4+(f.k-k)=f.k+4 by omega];omega
def cuC (x:AH) (s:CdS):Int:=tT (x.take (s.k+4))-s.N
theorem aWu {C q:Int} (hq:0<q) (h1:q*low<=C) (h2:C<q*(low+size)):low<=C/q/\C/q<low+size:=
 ⟨(Al hq).2 (by rw[Cz];exact h1),zk hq (by rw[Cz];exact h2)⟩
structure uF (x:AH) (cd:CdS) (C:AH) (y:Int):Prop where
 lo:cd.R/aV C*aV (C.take y.toNat)<=cuC x cd
 hi:cuC x cd<cd.R/aV C*(aV (C.take y.toNat)+rd C y)
 c0:0<=cuC x cd
 c1:cuC x cd<4294967296
 v0:aV (C.take y.toNat)<=cuC x cd/(cd.R/aV C)
 v1:cuC x cd/(cd.R/aV C)<aV (C.take y.toNat)+rd C y
 len:(qV cd C y).k+4<=x.length
theorem aWv {r:AH} (hb:aN b) (hl:bJ b=l++y::r):uF (bR b o) (encP o l).cd (wB o (encP o l)) y:=by
 have m5:=qU hb;have hy:=m5 y (by rw[hl];simp);have lf:aHb l:=λz hz=>m5 z (by rw[hl];exact Em _ hz);have hsr:aHb r:=λz hz=>m5 z (by rw[hl];exact List.mem_append_right _ (fo _ hz));have dr:=(DZ (o:=o) lf).1;have yr:=kH (JQ (o:=o) dr) hy.1 hy.2;have h1:=LF (o:=o) dr hy.1 hy.2;have de:=aIx (o:=o) r _ hsr h1.1;have hf:(encP o (bJ b)).cd=(r.foldl (lJ o) (lJ o (encP o l) y)).cd:=by rw[hl,aVs];rfl
 have Yq:=(DZ (o:=o) m5).1.2.2;rw[<-hf,YA] at de;have hc:=dr.2.2;have hs:=aYv hc yr de (by have:=Yq.1;omega);have hk:(encP o l).cd.k<=(encP o (bJ b)).cd.k:=((aIf hc yr).trans de).k;have Zf:=aSy (o:=o) hb hk;have hcu:cuC (bR b o) (encP o l).cd=(encP o (bJ b)).cd.N/256^((encP o (bJ b)).cd.k-(encP o l).cd.k)-(encP o l).cd.N:=by unfold cuC;rw[Zf]
 rw[<-hcu] at hs;have hfa:=nY yr ⟨hc.1,hc.2.1⟩;have hc0:0<=cuC (bR b o) (encP o l).cd:=G
 have hq:0<(encP o l).cd.R/aV (wB o (encP o l)):=G
 have hd:=aWu hq hs.1 hs.2;have Ft:=hs.2;rw[Jk] at Ft;exact⟨hs.1,hs.2,hc0,by have:=hc.2.1;omega,hd.1,hd.2,by unfold bR;rw[kE];have:=de.k;omega⟩
theorem QX {C:AH} (h: ∀c∈C,1<=c) {i:Int} (i0:0<=i): ∀k:Nat,i+k<=C.length->aV (C.take i.toNat)<=aV (C.take (i+k).toNat)
 |0,_=>by rw[show i+((0:Nat):Int)=i by omega];exact mf _
 |k+1,hk=>by
  have ih:=QX h i0 k G;have e:=nX (l:=C) (i:=i+k) G G;have:=h _ (bI (L:=C) (k:=i+k) G G);rw[show i+((k+1:Nat):Int)=i+k+1 by omega];omega
theorem aYu {C:AH} (h: ∀c∈C,1<=c) {v:Int} (i0:0<=i) (hi:i<=y) (hy:y<C.length) (g1:aV (C.take y.toNat)<=v) (hv:v<aV (C.take i.toNat)+rd C i):i=y:=by
 have e1:=nX (l:=C) i0 G;rcases Cm hi with c|c
 ·have:=QX h (i:=i+1) G (y-i-1).toNat G;rw[show i+1+((y-i-1).toNat:Int)=y by omega] at this;omega
 ·exact c
theorem aYp (hb:aN b) (i0:0<=i) (hi:i<(bJ b).length):rd (bJ b) i=257↔i=(bJ b).length-1:=by
 have hlen:((bJ b).length:Int)=(bS 0 (bK aY b)).length+1:=by unfold bJ;rw[ah,ib];omega
 constructor
 ·intro h;rcases bz i (bS 0 (bK aY b)).length with c|c
  ·exfalso;unfold bJ at h;rw[kU i0 c] at h;have:=JK (bK aY b) 0 (oN hb) _ (bI i0 c);omega
  ·omega
 ·intro h;unfold bJ;rw[iH G,show i-(bS 0 (bK aY b)).length=0 by omega];rfl
theorem FE (b:AH):(bJ b).take ((bJ b).length-1)=bS 0 (bK aY b):=by
 unfold bJ;rw[ah,ib,Fz,Dh]
theorem aDf (i0:0<=i) (hi:i<(bJ b).length):bJ b=(bJ b).take i.toNat++rd (bJ b) i::(bJ b).drop (i+1).toNat:=by
 conv=>lhs;rw[<-gy i.toNat (bJ b),iA i0 hi]
theorem bAr {s:PpS} (hb:aN b) (hx:x=bR b o) (hS:s=encP o ((bJ b).take i.toNat)) (i0:0<=i) (hi:i<(bJ b).length):uF x s.cd (wB o s) (rd (bJ b) i):=by
 subst hx;subst hS;exact aWv hb (aDf i0 hi)
theorem uF.w0 {s:PpS} (h:uF x s.cd (wB o s) y) (hk:s.cls*o=0):uF x s.cd s.c0 y:=by
 unfold wB at h;rwa[di hk] at h
theorem uF.w1 {s:PpS} (h:uF x s.cd (wB o s) y) (hk:s.cls*o=1):uF x s.cd s.c1 y:=by
 unfold wB at h;rwa[df G,di hk] at h
theorem uF.w2 {s:PpS} (h:uF x s.cd (wB o s) y) (hk:s.cls*o=2):uF x s.cd s.c2 y:=by
 unfold wB at h;rwa[df G,df G] at h
theorem uF.tot {cd:CdS} (h:uF x cd C y) (dr:lN C) (h0:0<=y) (hy:y<258):cuC x cd/(cd.R/aV C)<aV C/\1<=aV C/\aV C<=65536:=by
 have h1:=h.v1;have h2:=tC (i:=y) dr.2.1 h0 (by rw[dr.1];omega);have h3:=dr.2.2;omega
theorem bHv {eh p:Int} {acc q:AH} (h:bkL eh (l.drop i.toNat) acc p=some q) (i0:0<=i) (hi:i<l.length):(0<=rd l i/\rd l i<257)/\
    ((2<=rd l i/\(acc.length:Int)+1<=eh/\bkL eh (l.drop (i+1).toNat) (acc++[rd l i-1]) 1=some q)\/
     (rd l i<2/\p<=eh/\(rd l i+1)*p<=eh-acc.length/\bkL eh (l.drop (i+1).toNat) (acc++List.replicate ((rd l i+1)*p).toNat 0) (p*2)=some q)):=by
  rw[iA i0 hi,bkL] at h;split at h
  · cases h
  · split at h
    · split at h
      · cases h
      · exact⟨G, .inl ⟨G,G,h⟩⟩
    · split at h
      · cases h
      · exact⟨G, .inr ⟨G,G,G,h⟩⟩
theorem aBg {c M:Int} (hm:m<x.length) (h:c=tT (x.take m)-M):c*256+rd x (m:Int)=tT (x.take (m+1))-M*256:=by
 rw[aMg hm,h];omega
end Go.Pure
namespace Go.Eng
open Go Go.RowKit Go.Pure
section
variable {P:Program} {n:Nd} {B:Nat} {w0:World} {L:Env} {R:List Row} {ty:TypeId}
theorem wrap32 {x:Int} (h:0<=x/\x<4294967296):IntKind.u32.wrap x=x:=by
 simp[IntKind.wrap,IntKind.bits,IntKind.signed];omega
theorem zF {p:Int} (h:0<=p/\p<4294967296):(BitVec.ofInt 32 p).toNat=p.toNat:=by
 rw[zf];have e:((2^32:Nat):Int)=4294967296:=rfl;rw[e,ky h.1 h.2]
theorem AY {x:Operand} {s d:TypeId} {j:IntKind} {p:Int} {td:TypeDesc} (fj:P.underlying s=some td) (hd:P.underlying d=some (.int .u32)) (hx:ev L x=some (.int j p)) (h:0<=p/\p<4294967296):Yl P n B w0 (.convert s d x) ty L R (.int .u32 p):=by
 have:=mV (P:=P) (n:=n) (B:=B) (w0:=w0) (R:=R) (ty:=ty) fj hd hx;rwa[wrap32 h] at this
theorem aLm (x m:Int) (h:0<=x*m/\x*m<4294967296) (j:IntKind) (k:Nat) (hk:k<=32) (hm:(2:Int)^k=m) (w:World):(Op.shift .shl .u32 x j (k:Int)).run P w= .ok (.int .u32 (x*m)) w:=by
 have hn: ¬((k:Int)<0):=G
 have hb:min (k:Int).toNat (IntKind.bits .u32)=k:=by
  have:IntKind.bits .u32=32:=rfl;omega
 unfold Op.shift;simp only[hn,hb,xx,hm,wrap32 h];rfl
theorem JF {x y:Operand} {t u:TypeId} {a m:Int} {j:IntKind} {k:Nat} (hx:ev L x=some (.int .u32 a)) (hy:ev L y=some (.int j (k:Int))) (hm:(2:Int)^k=m) (h:0<=a*m/\a*m<4294967296) (hk:Nat.ble k 32=true):Yl P n B w0 (.binOp .shl t x y u) ty L R (.int .u32 (a*m)):=by
 intro a' w o ho _ hs _;simp[execOp,ho,hs.ev hx,hs.ev hy,binOp,eqGuard,aLm a m h j k (ak hk) hm]
theorem aRd (p q:Int) (k:Nat) (m:Int) (hm:(2:Int)^k=m) (h:0<=p/\p*m+q<4294967296) (hq:0<=q/\q<m) (w:World):(Op.intBits .or .u32 q (p*m)).run P w= .ok (.int .u32 (q+p*m)) w:=by
 show Result.ok (Value.int .u32 (IntKind.u32.wrap ((BitVec.ofInt 32 q|||BitVec.ofInt 32 (p*m)).toNat:Int))) w=_;have Zp:0<=p*m:=Af h.1 G;rw[BitVec.or_comm,Jg,zF G,zF G]
 have e1:(p*m).toNat=2^k*p.toNat:=by
  have:p*m=((2^k*p.toNat:Nat):Int):=by
   rw[Av,lm h.1,Ev,<-hm,Cz];rfl
  rw[this,cz]
 have e2:q.toNat<2^k:=by
  have:((2^k:Nat):Int)=m:=by rw[<-hm,Ev];rfl
  omega
 rw[e1,<-Fp e2,<-e1];rw[show(((p*m).toNat+q.toNat:Nat):Int)=q+p*m by omega,wrap32 G]
theorem UE {x y:Operand} {t u:TypeId} {p q m:Int} (k:Nat) (hx:ev L x=some (.int .u32 q)) (hy:ev L y=some (.int .u32 (p*m))) (hm:(2:Int)^k=m) (h:0<=p/\p*m+q<4294967296) (hq:0<=q/\q<m):Yl P n B w0 (.binOp .or t x y u) ty L R (.int .u32 (q+p*m)):=by
 intro a w o ho _ hs _;simp[execOp,ho,binOp,eqGuard,hs.ev hx,hs.ev hy,aRd p q k m hm h hq]
theorem wF {w:World} (base:Nat) (t tn ty e:TypeId) (kn:IntKind) (i:TypeInfo) (z:Value) (bytes:Nat) (ht:P.underlying t=some (.slice e)) (Pe:P.underlying tn=some (.int kn)) (hi:P.info? e=some i) (hz:i.zero=some z)
  (Mr:i.size=1) (Nx:i.bytes=bytes) (Qs:z.cells= #[z]) (xb:z.oneCell'=true) (v:Value) (n:Nat) (xs:AG) (ij:w.ownsRow base e 1 v n xs) (m:Nat) (h0:0<m) (Xk:n+m<=maxLen) (kl:(n+m)*bytes<=140737488355328) (So:base<=w.heap.size):
  ∃v' w',(Builtin.append_ #[t,tn] ty #[v, .int .i64 (m:Int)]).run P w= .ok v' w'/\w'.ownsRow base e 1 v' (n+m) (xs++List.replicate m z)/\w.grownBy w' v.ownBlock/\(v'.ownBlock=v.ownBlock\/v'.ownBlock=some w.heap.size):=by
 subst Nx;have rm:n+m<=9223372036854775807:=by simp only[maxLen] at Xk;omega
 have hl:(List.replicate m z).length=m:=dh;have hlen:(xs++List.replicate m z).length=(n+m)*1:=by rw[ah,ij.1,hl];omega
 have Wi: ∀q,(Builtin.zeroCells z.cells q).toList=List.replicate q z:=λq=>by
  rw[Qs];refine vg (by simp[Builtin.zeroCells]) λi h1 h2=> ?_;simp[Builtin.zeroCells,Nat.mod_one]
 have zd:Builtin.zeroCells z.cells m=(List.replicate m z).toArray:=by rw[<-Wi m]
 have rv:m≠0:=G
 have hw:IntKind.i64.wrap (m:Int)=m:=by rw[Bn];omega
 have Lf: ¬((m:Int)<0):=G
 have Qe:m*i.bytes<=(n+m)*i.bytes:=ut _ G
 have Ru: ¬(281474976710656<(m:Int)*(i.bytes:Int)):=by
  rw[<-Av];omega
 have grown: ∀(old:Nat),old<n+m-> ∀(row:Option Nat),
   (w.drew.alloc (.cells (xs.toArray++Builtin.zeroCells z.cells m++Builtin.zeroCells z.cells (grownCap w (n+m) old e-(n+m))) e)).ownsRow base e 1 (.slice (some ⟨w.heap.size,0,none⟩) (n+m) (grownCap w (n+m) old e)) (n+m) (xs++List.replicate m z)/\
   w.grownBy (w.drew.alloc (.cells (xs.toArray++Builtin.zeroCells z.cells m++Builtin.zeroCells z.cells (grownCap w (n+m) old e-(n+m))) e)) row:=by
  intro old ho row;have Ds:=grownCap_ge w (n+m) old e;have tc:grownCap w (n+m) old e<=maxLen:=Gl w (n+m) old e Xk;have xp:=ij.1;refine⟨⟨hlen, .inr ⟨w.heap.size,_,_,rfl,So,heap_alloc_new w.drew _,Ds,tc,?_,?_⟩⟩,⟨rfl,rfl,rfl,cD,λk hk _=>by first|exact heap_alloc_old w.drew _ k hk|exact heap_alloc_old w.drew _ hk⟩⟩
  ·rw [<-jy,vo,vo,ah,ah,Wi,Wi,dh,dh];show xs.length+m+_=_;omega
  ·rw [vo,vo,Wi,<-hlen];exact Dh
 rcases ij.2 with⟨rfl,rfl⟩|⟨g,cap,cur,rfl,hbg,hg,hnc,tc,ke,htake⟩
 ·have hx:xs=[]:=dw (by simpa using ij.1);subst hx;have hr:=Lib.run_append_nil_zeros (P:=P) w t tn ty e i z .i64 kn ht Pe hi hz m h0 G G G;have Pt:=grown 0 G (Value.ownBlock (.slice none 0 0));simp only[og,jd,Array.empty_append] at Pt ⊢;exact⟨_,_,hr,Pt.1,Pt.2,Or.inr rfl⟩
 ·by_cases px:n+m<=cap
  ·have e9:n*1+(List.replicate m z).length<=cur.size:=by rw[hl,ke];omega
   have ge:=run_storeCells_at P g (n*1) e (List.replicate m z) 0 cur w hg (by simpa using e9) (λu hu=>by rw[Bz hu];exact xb);simp only[qp] at ge
   have hr:(Builtin.append_ #[t,tn] ty #[.slice (some ⟨g,0,none⟩) n cap, .int .i64 (m:Int)]).run P w= .ok (.slice (some ⟨g,0,none⟩) (n+m) cap) (w.setRow g (cur.toList.take (n*1)++List.replicate m z++cur.toList.drop (n*1+(List.replicate m z).length)).toArray):=by
    simp only[qf] at ge;simp[Builtin.append_,mh ht,mh Pe,sizeOf,typeInfo,zeroValue,hi,hz,asInt,asIntOf,hw,rv,Lf,Ru,Mr,px,zd,Addr.add_lit,ge]
   refine⟨_,_,hr,⟨hlen, .inr ⟨g,cap,_,rfl,hbg,Jy w g cur _ e _ hg,px,tc,?_,?_⟩⟩,⟨rfl,rfl,rfl,cD,λk _ hk=>Je w g k _ (λe=>hk (by simp[Value.ownBlock,e]))⟩,Or.inl rfl⟩
   ·simp only[ql,ah,ax,az,jy];omega
   ·rw [htake,<-hlen];exact Dh
  ·have holds: ∀j u,xs[j]? =some u->w.cell? ((⟨g,0,none⟩:Addr).add j)=some u:=ij.cells (g:=g) rfl;have Yq:=run_firstCells_some (P:=P) w.drew 1 n ⟨g,0,none⟩ n cap xs ij.1 (by simpa using holds);have hn: ¬(n+m<=cap):=px;have Xl: ¬(9223372036854775807<((n:Int)+(m:Int))):=G
   have hfits:=growslice_fits (old:=cap) G kl;have Xj: ¬(281474976710656<Builtin.nextslicecap (n+m) cap*i.bytes):=G
   have hr:(Builtin.append_ #[t,tn] ty #[.slice (some ⟨g,0,none⟩) n cap, .int .i64 (m:Int)]).run P w= .ok (.slice (some ⟨w.heap.size,0,none⟩) (n+m) (grownCap w (n+m) cap e)) (w.drew.alloc (.cells (xs.toArray++Builtin.zeroCells z.cells m++Builtin.zeroCells z.cells (grownCap w (n+m) cap e-(n+m))) e)):=by
    simp[Builtin.append_,mh ht,mh Pe,sizeOf,typeInfo,zeroValue,hi,hz,asInt,asIntOf,hw,rv,Lf,Ru,Mr,hn,Xl,Xj,Question.forced,Yq,newRow,grownCap]
   have Pt:=grown cap G (Value.ownBlock (.slice (some ⟨g,0,none⟩) n cap));exact⟨_,_,hr,Pt.1,Pt.2,Or.inr rfl⟩
theorem aYc {s x:Operand} {t tn e:TypeId} {bytes m:Nat} {kn k:IntKind} {A:AF} {c q:Nat} {l:AH} (i:Nat) (hi:R[i]? =some ⟨e,1,A,q,c,ints k l,false⟩) (ht:P.underlying t=some (.slice e)) (Pe:P.underlying tn=some (.int kn)) (dt:(P.info? e).map (λi=>(i.zero,i.size,i.bytes))=some (some (.int k 0),1,bytes))
  (hs:ev L s=some (.slice A q c)) (hx:ev L x=some (.int .i64 (m:Int))) (h0:0<m) (Xk:q+m<=1000000) (kl:(q+m)*bytes<=140737488355328):
  Ac P n B w0 (.call {callee:= .builtin .append,args:= #[s,x],argTypes:= #[t,tn]}) ty L R (λv R'=> ∃A' c',v= .slice A' (q+m) c'/\R'=R.set i ⟨e,1,A',q+m,c',ints k (l++List.replicate m 0),false⟩):=by
 intro a w o K Q ho _ fj hp hk;obtain⟨i0,bb,zd⟩:=iw.1 dt;simp only[Ad] at zd;obtain⟨vt,xb,s7⟩:=zd;have hr:=hp.own _ (gu hi);have ij:=Row.lies_w hr rfl;obtain⟨v',w',h2,h3,h4,h5⟩:=wF (P:=P) B t tn o.type e kn i0 (.int k 0) bytes ht Pe bb vt xb s7 rfl rfl _ q (ints k l) ij m h0 (by unfold maxLen;omega) kl hp.base
 have Do: ∃A' c',v'= .slice A' (q+m) c':=by
  rcases h3.2 with⟨rfl,hn⟩|⟨g,cap,cur,rfl,_⟩
  ·exact⟨none,0,by rw[hn]⟩
  ·exact⟨_,cap,rfl⟩
 obtain⟨A',c',rfl⟩:=Do;have Zv:ints k l++List.replicate m (.int k 0)=ints k (l++List.replicate m 0):=by simp[ints]
 rw[Zv] at h3;unfold Oper.wp execOp;simp only[ho,resolve,invoke,builtin,jq,ng,jm,uf,ko,qx,fj.ev hs,fj.ev hx,h2,Oper.upon];refine hk _ w' _ ?_ ⟨A',c',rfl,rfl⟩;refine hp.upd hi h4 (LP _ _ _ _ h2) (λk hk=> ?_) ?_ (λa' np=> ?_)
 ·cases hA:A with
  |none=>rw[hA] at hk;simp[Value.ownBlock] at hk
  |some a1=>rw[hA] at hk;simp only[Value.ownBlock,mr] at hk;exact⟨a1,rfl,hk⟩
 ·exact h3
 ·have Kt:A'=some a':=np;subst Kt;rcases h5 with h5|h5
  ·cases hA:A with
   |none=>rw[hA] at h5;simp[Value.ownBlock] at h5
   |some a1=>rw[hA] at h5;simp only[Value.ownBlock,mr] at h5;exact .inl ⟨a1,rfl,h5.symm⟩
  ·simp only[Value.ownBlock,mr] at h5;exact .inr G
end
theorem bBs {x:Int} (h:0<=x/\x<4294967296):0+x/1%256*1+x/256%256*256+x/65536%256*65536+x/16777216%256*16777216=x:=G
end Go.Eng
namespace Go.Proofs.YtdbebmmhdefgdaaGreat
open Go Go.Eng Go.Pure
open Tryz
set_option maxRecDepth 100000
variable {B g n c:Nat} {w0:World} {R:List Row} {A:AF} {x:AH} {us cc r total:Int}
theorem uX {C:AH} {y v0:Int} (hn:n=C.length) (dr:lN C) (hy:0<=y/\y<258) (hv:aV (C.take y.toNat)<=v0/\v0<aV (C.take y.toNat)+rd C y):
  CT 301 #[PG g,I v0] B w0 ((rc 256 2 g [sl A n c,I (aV C)])::(ri 3 A n c C)::R) (λv R'=>v= .tuple #[I y,bt]/\R'=(rc 256 2 g [sl A n c,I (aV C)])::(ri 3 A n c C)::R):=by
 subst hn;have kt:=dr.1;have hpy:=dr.le.part hy.1 hy.2;have Ll:=tC (i:=y) dr.2.1 hy.1 G;refine fn2 Tryz.func301 Z Z Z ?_;refine wq<|wg Z<|wn Z<|aD<|wq<|wm Z<|wy (Yl.f (eZ Z Z))<|wm Z<|aB Z Z<|wm Z<|aB Z Z<|wm Z ?_;refine aB Z Z<|wa (aC NW Z ((jL))) ?_;rintro _ _⟨rfl,rfl⟩;refine aB Z Z<|wy (Yl.f (iD Z Z))<|wy (aO Z Z)<|aA<|aP Z<|aI<|aD<|aH ?_;refine dI (λ(i:Int) (x:Int)=>[(0,PG g),(1,I x),(4,I i)]) (λi x=>((rc 256 2 g [sl A C.length c,I (aV C)])::(ri 3 A C.length c C)::R)) (λi x=>(0<=i)/\(i<=y)/\(x=v0-aV (C.take i.toNat))) (λi x=>(y-i).toNat) ?_ ?_
 ·exact⟨0,v0,⟨G,G,(by rw[show aV (C.take (0:Int).toNat)=0 from rfl];omega)⟩,KP⟩
 intro i x ⟨bb,gd,hx⟩;have hp:=dr.le.part bb G;refine aD<|wq<|wm Z<|wm Z<|wy (aG Z)<|wy (yF 0 0 qh fV Z)<|wy (yL 0 aa Z Z Z)<|wm Z<|wy (aF aa sz3 Z Z (rdr 1 Z))<|wy (aU au Z Z (rdr 1 Z))<|wy (iD Z Z)<|aA<|bA Z (λba=> ?_) (λba=> ?_)
 ·have cv:i≠y:=by rintro rfl;omega
  refine aI<|aH<|wq<|wm Z<|wm Z<|wy (aG Z)<|wy (yF 0 0 qh fV Z)<|wy (yL 0 aa Z Z Z)<|wm Z<|wy (aF aa sz3 Z Z (rdr 1 Z))<|wy (aU au Z Z (rdr 1 Z))<|wS Z Z<|wn Z ?_;refine aK<|wm Z<|wA Z Z<|wn Z ?_;exact⟨i+1,x-(rd C i),⟨G,G,(by rw[nX bb G];omega)⟩,G,KP⟩
 ·refine aR<|wq<|wm Z<|wg Z<|wn Z<|bU (R1:=((rc 256 2 g [sl A C.length c,I (aV C)])::(ri 3 A C.length c C)::R)) hiZ ?_;refine⟨_,_,Z,Z,?_⟩;obtain rfl:i=y:=aYu dr.2.1 bb gd G hv.1 G;exact⟨Z,Z⟩
theorem qX {M:Int} {m:Nat} (hn:n=x.length) (n8:aN x) (hN:x.length<=1000000) (hu:us=(m:Int)) (hc:cc=tT (x.take m)-M) (hb:0<=cc/\cc<4294967296) (hm:m<x.length):
  CT 327 #[PG g] B w0 ((rc 360 4 g [sl A n c,I us, .int .u64 cc, .int .u64 r])::(ru 5 A n c x)::R) (λv R'=>v=bt/\R'=(rc 360 4 g [sl A n c,I ((m+1:Nat):Int), .int .u64 (tT (x.take (m+1))-M*256), .int .u64 r])::(ru 5 A n c x)::R):=by
 subst hn;subst hu;have hbx:=n8.rd (m:Int);refine fn1 Tryz.func327 Z Z Z ?_;refine wq<|wn Z<|aD<|aD<|bF mixed<|wD 0 Z (aJ Z)<|wD 1 Z (aG Z)<|wD 2 Z (yF 1 1 pq sz3 Z)<|wD 3 Z (yL 0 au Z Z Z)<|wD 4 Z (aJ Z)<|wD 5 Z (aG Z)<|wD 6 Z (yF 0 0 pq dH Z)<|wD 7 Z (yL 0 af Z Z Z) ?_;refine wD 8 Z (aL af Z)<|wD 9 Z (Yl.f (iD Z Z))<|wN<|aP Z<|aI<|aD<|bF mixed<|wD 0 Z (aJ Z)<|wD 1 Z (aJ Z)<|wD 2 Z (aG Z)<|wD 3 Z (yF 2 2 pq dP Z)<|wD 4 Z (yL 0 fe Z Z Z)<|wD 5 Z (vO (k:=8) (m:=256) Z Z Z G Z)<|wD 6 Z (aJ Z)<|wD 7 Z (aG Z) ?_;refine wD 8 Z (yF 0 0 pq dH Z)<|wD 9 Z (yL 0 af Z Z Z)<|wD 10 Z (aJ Z)<|wD 11 Z (aG Z)<|wD 12 Z (yF 1 1 pq sz3 Z)<|wD 13 Z (yL 0 au Z Z Z)<|wD 14 Z (aF af sz5 Z Z (rdr 1 Z))<|wD 15 Z (aU bn Z Z (rdr 1 Z))<|wD 16 Z (gW bn fe Z)<|wD 17 Z (bIo (p:=cc) (m:=256) 8 Z Z Z G G)<|wD 18 Z (aG Z)<|wD 19 Z (yF 2 2 pq dP Z)<|qD 20 Z cA (bE 0 Z Z Z dP Z Z Z Z (ak Z)) ?_;rintro _ _ rfl;refine⟨.inl cA,?_⟩;refine wN<|wq<|wm Z<|wy (aG Z)<|wy (yF 1 1 pq sz3 Z)<|wy (yL 0 au Z Z Z)<|wA Z Z<|wy (aG Z)<|wy (yF 1 1 pq sz3 Z)<|dC (bE 0 Z Z Z sz3 Z Z Z Z (ak Z)) ?_;rintro _ _ rfl;refine aA<|wq<|wn Z<|bU (R1:=((rc 360 4 g [sl A x.length c,I ((m:Int)+1), .int .u64 (cc*256+rd x (m:Int)), .int .u64 r])::(ru 5 A x.length c x)::R)) hiZ ?_;refine⟨_,Z,?_⟩;rw[aBg hm hc];exact⟨Z,Z⟩
theorem NB {w:World} {ap:AF} {bl an:Nat} {u:AH} (ac:Rd w ap bl an 1 (ints .u8 u)) (am:aN u) (hN:u.length<=1000000) (h4:4<=u.length):
  CF 299 #[sl ap bl an] w (λv R'=> ∃g A c,v= .tuple #[PG g,bt]/\R'=[(rc 360 4 g [sl A u.length c,I ((cd0.k+4:Nat):Int), .int .u64 (cuC u cd0), .int .u64 cd0.R]),(ru 5 A u.length c u)]):=by
 obtain rfl:=ac.lenI;refine fn2 Tryz.func299 Z Z Z ?_;have kc:=ac.max;have js:=CY 0 (u.take 0) (by rw[ax];omega) (am.take _);have xa:=CY 1 (u.take 1) (by rw[ax];omega) (am.take _);have Wf:=CY 2 (u.take 2) (by rw[ax];omega) (am.take _);have Qm:=CY 3 (u.take 3) (by rw[ax];omega) (am.take _);refine wq<|wg Z<|wn Z<|aD<|wq<|wm Z<|wy (aL af Z)<|wy (Yl.f (eZ Z Z))<|aA<|aP Z<|aI<|aD ?_;refine aK<|wm Z<|wa (aC aOd Z (Ct.fresh (λw hw=>qN ((ac.c _) w hw) hN))) ?_;rintro _ _⟨_,rfl,cg,ce,rfl,rfl⟩;refine wy (gX (v:= .agg #[sl cg u.length ce,I 0, .int .u64 0, .int .u64 4294967295]) Z (λw=>cA))<|wa (cB (sz:=4) rfl rfl) ?_;rintro _ _⟨fi,rfl,rfl⟩;refine wn Z<|aD<|wq<|wm Z<|aA<|aH<|lT 5<|eB<|wq<|wy (Yl.t (eZ Z Z) cC)<|aA<|aD ?_;refine dS Z<|aI<|aD<|aH<|aK<|wm Z<|wa (aC aAw Z ((qX (m:=0) (M:=0) Z am hN Z Z (by first|exact⟨cC,cC⟩|(simp only[og,Nat.reduceAdd,Ij,Ii];omega)) G))) ?_;rintro _ _⟨rfl,rfl⟩;refine aA<|aK<|wy (Yl.is (cK Z Z) Z)<|wm Z<|aA<|eB<|wq<|wy (Yl.t (eZ Z Z) cC)<|aA<|aD<|dS Z<|aI<|aD<|aH ?_;refine aK<|wm Z<|wa (aC aAw Z ((qX (m:=0+1) (M:=(0*256)) Z am hN Z Z (by first|exact⟨cC,cC⟩|(simp only[og,Nat.reduceAdd,Ij,Ii];omega)) G))) ?_;rintro _ _⟨rfl,rfl⟩;refine aA<|aK<|wy (Yl.is (cK Z Z) Z)<|wm Z<|aA<|eB<|wq<|wy (Yl.t (eZ Z Z) cC)<|aA<|aD<|dS Z<|aI<|aD<|aH ?_;refine aK<|wm Z<|wa (aC aAw Z ((qX (m:=0+1+1) (M:=(0*256*256)) Z am hN Z Z (by first|exact⟨cC,cC⟩|(simp only[og,Nat.reduceAdd,Ij,Ii];omega)) G))) ?_;rintro _ _⟨rfl,rfl⟩;refine aA<|aK<|wy (Yl.is (cK Z Z) Z)<|wm Z<|aA<|eB<|wq<|wy (Yl.t (eZ Z Z) cC)<|aA<|aD<|dS Z<|aI<|aD<|aH ?_;refine aK<|wm Z<|wa (aC aAw Z ((qX (m:=0+1+1+1) (M:=(0*256*256*256)) Z am hN Z Z (by first|exact⟨cC,cC⟩|(simp only[og,Nat.reduceAdd,Ij,Ii];omega)) G))) ?_;rintro _ _⟨rfl,rfl⟩;refine aA<|aK<|wy (Yl.is (cK Z Z) Z)<|wm Z<|aA<|eB<|wq<|wy (Yl.f (eZ Z Z) cC)<|aA<|aD<|aP Z<|aR<|wq ?_;refine wm Z<|wg Z<|wn Z<|bU (R1:=[(rc 360 4 fi [sl cg u.length ce,I ((0+1+1+1+1:Nat):Int), .int .u64 (tT (u.take (0+1+1+1+1))-(0*256*256*256)*256), .int .u64 4294967295]),(ru 5 cg u.length ce u)]) hiZ ?_;refine⟨_,_,Z,Z,?_⟩;exact⟨_,_,_,Z,Z⟩
theorem GH (hn:n=x.length) (ht:1<=total/\total<=65536) (hr:16777216<=r/\r<4294967296) (hc:0<=cc/\cc<4294967296) (hv:cc/(r/total)<total):
  CT 300 #[PG g,I total] B w0 ((rc 360 4 g [sl A n c,I us, .int .u64 cc, .int .u64 r])::(ru 5 A n c x)::R) (λv R'=>v= .tuple #[I (cc/(r/total)),bt]/\R'=(rc 360 4 g [sl A n c,I us, .int .u64 cc, .int .u64 r])::(ru 5 A n c x)::R):=by
 subst hn;have hq:256<=r/total:=(Al G).2 G;have Uk:0<=cc/(r/total):=Et hc.1 G;refine fn2 Tryz.func300 Z Z Z ?_;refine wq<|wg Z<|wn Z<|aD<|wq<|wm Z<|wy (kZ underlying332 Z Z)<|wm Z<|aB Z Z<|wm Z<|aB Z Z<|wy (Yl.f (eZ Z Z)) ?_;refine wy (aO Z Z)<|wm Z<|aB Z Z<|wm Z<|aB Z Z<|wy (Yl.f (dA Z Z))<|wy (aO Z Z)<|aA<|aP Z<|aI<|wq<|wm Z<|wy (aG Z)<|wy (yF 3 3 pq dP Z) ?_;refine wy (yL 0 fe Z Z Z)<|wm Z<|wy (gW au fe Z)<|wy (ET Z Z G G)<|wn Z<|aD<|wq<|wm Z<|wy (Yl.f (fD Z Z))<|wm Z<|aB Z Z<|wm Z<|aB Z Z ?_;refine wy (aG Z)<|aB Z Z<|wy (yF 2 2 pq dP Z)<|aB Z Z<|wy (yL 0 fe Z Z Z)<|aB Z Z<|wm Z<|aB Z Z<|wy (ET Z Z G G)<|aB Z Z<|wm Z<|aB Z Z<|wy (gW au fe Z)<|aB Z Z<|wy (Yl.f (iD Z Z)) ?_;refine wy (aO Z Z)<|aA<|aP Z<|aI<|wq<|wm Z<|wy (aG Z)<|wy (yF 2 2 pq dP Z)<|wy (yL 0 fe Z Z Z)<|wm Z<|wy (ET Z Z G G)<|wy (iR fe au Z)<|wg Z<|wg Z ?_;refine aA<|bU (R1:=((rc 360 4 g [sl A x.length c,I us, .int .u64 cc, .int .u64 r])::(ru 5 A x.length c x)::R)) hiZ ?_;refine⟨_,_,Z,Z,?_⟩;exact⟨Z,Z⟩
theorem FC {s:CdS} {low size:Int} (hn:n=x.length) (n8:aN x) (hN:x.length<=1000000) (hs:16777216<=s.R/\s.R<4294967296) (yr:sV low size total) (u7:s.R/total*low<=cuC x s) (Ta:cuC x s<s.R/total*(low+size)) (hlen:(fB s low size total).k+4<=x.length):
  CT 302 #[PG g,I low,I size,I total] B w0 ((rc 360 4 g [sl A n c,I ((s.k+4:Nat):Int), .int .u64 (cuC x s), .int .u64 s.R])::(ru 5 A n c x)::R) (λv R'=>v=bt/\R'=(rc 360 4 g [sl A n c,I (((fB s low size total).k+4:Nat):Int), .int .u64 (cuC x (fB s low size total)), .int .u64 ((fB s low size total).R)])::(ru 5 A n c x)::R):=by
 subst hn;have Hh:=yr;obtain⟨s1,s2,s3,s4⟩:=Hh;obtain⟨f1,f2,f3,f4,f5⟩:=nY yr hs;have hms:=Jk (s.R/total) low size;have hln:s.k+shN (s.R/total*size)+4<=x.length:=hlen;refine fn1 Tryz.func302 Z Z Z ?_;refine wq<|wn Z<|aD<|wq<|wm Z<|wy (kZ underlying332 Z Z)<|wm Z<|aB Z Z<|wm Z<|aB Z Z<|wm Z<|aB Z Z ?_;refine wm Z<|aB Z Z<|wa (aC bEm Z (Ct.quiet (λw hw=>IM yr))) ?_;rintro _ _⟨rfl,rfl⟩;refine aB Z Z<|wy (dW Z)<|wy (aO Z Z)<|aA<|aP Z<|aI<|wq<|wm Z<|wy (aG Z)<|wy (yF 3 3 pq dP Z)<|wy (yL 0 fe Z Z Z)<|wm Z<|wy (gW au fe Z)<|wy (ET Z Z G G) ?_;refine wn Z<|aD<|wq<|wm Z<|wy (aG Z)<|wy (yF 2 2 pq dP Z)<|wy (yL 0 fe Z Z Z)<|wm Z<|wm Z<|wy (gW au fe Z)<|wy (uI Z Z G)<|wy (Yl.f (eZ Z Z))<|wm Z ?_;refine aB Z Z<|wm Z<|aB Z Z<|wy (aG Z)<|aB Z Z<|wy (yF 2 2 pq dP Z)<|aB Z Z<|wy (yL 0 fe Z Z Z)<|aB Z Z<|wm Z<|aB Z Z<|wm Z<|aB Z Z<|wm Z<|aB Z Z ?_;refine wA Z Z<|aB Z Z<|wy (gW au fe Z)<|aB Z Z<|wy (uI Z Z G)<|aB Z Z<|wy (Yl.f (iD Z Z))<|wy (aO Z Z)<|aA<|aP Z<|aI<|wq<|wm Z<|wy (aG Z) ?_;refine wy (yF 2 2 pq dP Z)<|wy (yL 0 fe Z Z Z)<|wm Z<|wm Z<|wy (gW au fe Z)<|wy (uI Z Z G)<|wy (bFd Z Z G)<|wy (aG Z)<|wy (yF 2 2 pq dP Z)<|dC (bE 0 Z Z Z dP Z Z Z Z (ak Z)) ?_;rintro _ _ rfl;refine aA<|aD<|wq<|wm Z<|wm Z<|wm Z<|wy (gW au fe Z)<|wy (uI Z Z G)<|wy (aG Z)<|wy (yF 3 3 pq dP Z)<|dC (bE 0 Z Z Z dP Z Z Z Z (ak Z)) ?_;rintro _ _ rfl;refine aA<|aH ?_;refine JJ (λ(j:Nat) (cc:Int) (r:Int) (M:Int)=>[(0,PG g)]) (λj cc r M=>((rc 360 4 g [sl A x.length c,I ((s.k+j+4:Nat):Int), .int .u64 cc, .int .u64 r])::(ru 5 A x.length c x)::R)) (λj cc r M=>(M=(s.N+s.R/total*low)*256^j)/\(r=(s.R/total*size)*256^j)/\(j<=shN (s.R/total*size))/\(cc=tT (x.take (s.k+j+4))-M)/\(0<=cc/\cc<r)) (λj cc r M=>(4-j)) ?_ ?_
 ·exact⟨0,(cuC x s-s.R/total*low),(s.R/total)*size,(s.N+s.R/total*low),⟨(by rw[uz,zq]),(by rw[uz,zq]),(qg _),(by show cuC x s-s.R/total*low=tT (x.take (s.k+4))-_;unfold cuC;omega),G⟩,KP⟩
 intro j cc r M ⟨hM,hr,hj,hc,hb⟩;have lf:=FI (s.R/total*size);have Ud:1<=r:=by rw[hr];exact CK G
 refine aD<|wq<|wm Z<|wy (aG Z)<|wy (yF 3 3 pq dP Z)<|wy (yL 0 fe Z Z Z)<|wL Z Z<|aA<|bA Z (λba=> ?_) (λba=> ?_)
 ·have hj2:j+1<=shN (s.R/total*size):=BQ G hj (by rw[<-hr];assumption);have gr:=aBg (x:=x) (m:=s.k+j+4) G hc;have hbx:=n8.rd ((s.k+j+4:Nat):Int);have g9:0<=tT (x.take (s.k+j+4+1))-M*256/\tT (x.take (s.k+j+4+1))-M*256<r*256:=G
  refine aI<|aD<|aH<|wq<|wm Z<|wa (aC aAw Z ((qX (m:=(s.k+j+4)) (M:=M) Z n8 hN Z hc G G))) ?_;rintro _ _⟨rfl,rfl⟩;refine wy (dW Z)<|aA<|aP Z<|aI<|aK<|wm Z<|wy (aG Z)<|wy (yF 3 3 pq dP Z)<|wy (yL 0 fe Z Z Z)<|wy (vO (k:=8) (m:=256) Z Z Z G Z)<|wy (aG Z)<|wy (yF 3 3 pq dP Z)<|dC (bE 0 Z Z Z dP Z Z Z Z (ak Z)) ?_;rintro _ _ rfl;refine aA ?_;exact⟨(j+1),(tT (x.take (s.k+j+4+1))-M*256),r*256,(M*256),⟨(by rw[hM,su,<-wh]),(by rw[hr,su,<-wh]),(hj2),(Z),(g9)⟩,G,KP⟩
 ·refine aR<|wq<|wn Z<|bU (R1:=((rc 360 4 g [sl A x.length c,I ((s.k+j+4:Nat):Int), .int .u64 cc, .int .u64 r])::(ru 5 A x.length c x)::R)) hiZ ?_;refine⟨_,Z,?_⟩;obtain rfl:j=shN (s.R/total*size):=JP G hj (by rw[<-hr];omega);rw[hc,hr,hM];exact⟨Z,Z⟩
variable {w:World} {n7:AF} {Ka o0:Nat} {x b:AH} {o eh:Int}
theorem UM (mm:Rd w n7 Ka o0 1 (ints .u8 x)) (hx:x=bR b o) (cx:aN b) (ho:o=0\/o=1) (hN:b.length<=100000) (hm:(b.length:Int)<=eh):
  CF 272 #[sl n7 Ka o0,I o,I eh] w (λv R'=> ∃A c,v= .tuple #[sl A (bS 0 (bK aY b)).length c,bt]/\R'=[(ri 3 A ((bS 0 (bK aY b)).length) c (bS 0 (bK aY b)))]):=by
 obtain rfl:=mm.lenI;refine fn2 Tryz.func272 Z Z Z ?_;have m_x:=mm.max;have m5:=qU cx;have Ls:x.length<=2*b.length+6:=by rw[hx];exact lG cx
 have hx4:4<=x.length:=by rw[hx];unfold bR;rw[kE];omega
 have vq:(bJ b).length=(bS 0 (bK aY b)).length+1:=by unfold bJ;rw[ah];rfl
 have Hj:=pI (bK aY b) 0;rw[iJ] at Hj;refine wq<|wg Z<|wn Z<|wq<|wm Z<|wa (aC bJv Z (Ct.fresh (λw hw=>NB ((mm.c _) w hw) (by rw[hx];exact fZ _ _) G hx4))) ?_;rintro _ _⟨_,rfl,aq,lz,mc,rfl,rfl⟩;refine wm Z<|wX Z Z<|wX Z Z<|wg Z<|wn Z<|wq<|wm Z<|wa (aC bEu Z (Ct.fresh (λw hw=>SF))) ?_;rintro _ _⟨_,rfl,fd,jt,io,ir,kd,dv,bw,bx,ci,db,rfl,rfl⟩;refine wn Z<|wq<|bT (R1:=[(ri 3 none 0 0 ([])),(rc 250 5 fd [PG jt,PG io,PG ir,I 0,I o]),(rc 256 2 jt [sl kd 258 bx,I 258]),(ri 3 kd 258 bx uY),(rc 256 2 io [sl dv 258 ci,I 258]),(ri 3 dv 258 ci uY),(rc 256 2 ir [sl bw 258 db,I 258]),(ri 3 bw 258 db uY),(rc 360 4 aq [sl lz x.length mc,I ((cd0.k+4:Nat):Int), .int .u64 (cuC x cd0), .int .u64 cd0.R]),(ru 5 lz x.length mc x)]) (Sub.refl _) (λ_ h=>h.nil 3 1)<|wn Z<|aD<|aH ?_;refine mX (λ(i:Int) (A1:AF) (n1:Nat) (c1:Nat) (acc:AH) (Sx:PpS)=>[(2,I eh),(8,PG aq),(9,bt),(10,PG fd),(11,sl A1 n1 c1)]) (λi A1 n1 c1 acc Sx=>[(ri 3 A1 n1 c1 acc),(rc 250 5 fd [PG jt,PG io,PG ir,I Sx.cls,I o]),(rc 256 2 jt [sl kd 258 bx,I (aV Sx.c0)]),(ri 3 kd 258 bx Sx.c0),(rc 256 2 io [sl dv 258 ci,I (aV Sx.c1)]),(ri 3 dv 258 ci Sx.c1),(rc 256 2 ir [sl bw 258 db,I (aV Sx.c2)]),(ri 3 bw 258 db Sx.c2),(rc 360 4 aq [sl lz x.length mc,I ((Sx.cd.k+4:Nat):Int), .int .u64 (cuC x Sx.cd), .int .u64 Sx.cd.R]),(ru 5 lz x.length mc x)]) (λi A1 n1 c1 acc Sx=>(0<=i)/\(i<(bJ b).length)/\((n1:Int)=i)/\(acc=(bJ b).take i.toNat)/\(Sx=encP o ((bJ b).take i.toNat))) (λi A1 n1 c1 acc Sx=>((bJ b).length-i).toNat) ?_ ?_
 ·exact⟨0,none,0,0,[],pp0,⟨G,G,(Z),(Z),(Z)⟩,KP⟩
 intro i A1 n1 c1 acc Sx ⟨bb,gd,cm,bc,hS⟩;have de:=WE m5 hS;have pd:=bAr cx hx hS bb gd;have hy:=m5 _ (bI (L:=bJ b) (k:=i) bb G);have o8:=de.1.2.2;have o9:16777216<=Sx.cd.R/\Sx.cd.R<4294967296:=⟨o8.1,o8.2.1⟩;have Yo:=aYp cx bb gd;refine aD<|wq<|wm Z<|wm Z<|aB Z Z<|wm Z<|aB Z Z<|wy (aL aa Z)<|aB Z Z<|wm Z<|aB Z Z<|wy (Yl.t (qP Z Z) G)<|wy (aS Z Z)<|aA ?_;refine dS Z<|aI<|aH<|wq ?_;rcases OJ de.1 ho with hk|hk|hk
 ·refine wm Z<|wa (aC nR Z (Ct.at 1 Z (oL hk))) ?_;rintro _ _⟨rfl,rfl⟩;refine wa (aC NW Z (Ct.sub (R1:=[(rc 256 2 jt [sl kd 258 bx,I (aV Sx.c0)]),(ri 3 kd 258 bx Sx.c0),(ri 3 A1 n1 c1 acc),(rc 250 5 fd [PG jt,PG io,PG ir,I Sx.cls,I o]),(rc 256 2 io [sl dv 258 ci,I (aV Sx.c1)]),(ri 3 dv 258 ci Sx.c1),(rc 256 2 ir [sl bw 258 db,I (aV Sx.c2)]),(ri 3 bw 258 db Sx.c2),(rc 360 4 aq [sl lz x.length mc,I ((Sx.cd.k+4:Nat):Int), .int .u64 (cuC x Sx.cd), .int .u64 Sx.cd.R]),(ru 5 lz x.length mc x)]) (λ_ h=>h.sel [2,3,0,1,4,5,6,7,8,9] cC Z) (jL))) ?_;rintro _ _⟨rfl,rfl⟩;refine wn Z<|wq<|wm Z<|wm Z<|wa (aC aVx Z (Ct.sub (R1:=[(rc 360 4 aq [sl lz x.length mc,I ((Sx.cd.k+4:Nat):Int), .int .u64 (cuC x Sx.cd), .int .u64 Sx.cd.R]),(ru 5 lz x.length mc x),(rc 256 2 jt [sl kd 258 bx,I (aV Sx.c0)]),(ri 3 kd 258 bx Sx.c0),(ri 3 A1 n1 c1 acc),(rc 250 5 fd [PG jt,PG io,PG ir,I Sx.cls,I o]),(rc 256 2 io [sl dv 258 ci,I (aV Sx.c1)]),(ri 3 dv 258 ci Sx.c1),(rc 256 2 ir [sl bw 258 db,I (aV Sx.c2)]),(ri 3 bw 258 db Sx.c2)]) (λ_ h=>h.sel [8,9,0,1,2,3,4,5,6,7] cC Z) (GH Z ((pd.w0 hk).tot de.1.1.1 hy.1 hy.2).2 o9 ⟨(pd.w0 hk).c0,(pd.w0 hk).c1⟩ ((pd.w0 hk).tot de.1.1.1 hy.1 hy.2).1))) ?_;rintro _ _⟨rfl,rfl⟩;refine wm Z<|wX Z Z<|wX Z Z<|wg Z<|wn Z<|wq<|wm Z<|wa (aC nR Z (Ct.at 5 Z (oL hk))) ?_;rintro _ _⟨rfl,rfl⟩;refine wm Z<|wa (aC aVw Z (Ct.sub (R1:=[(rc 256 2 jt [sl kd 258 bx,I (aV Sx.c0)]),(ri 3 kd 258 bx Sx.c0),(rc 360 4 aq [sl lz x.length mc,I ((Sx.cd.k+4:Nat):Int), .int .u64 (cuC x Sx.cd), .int .u64 Sx.cd.R]),(ru 5 lz x.length mc x),(ri 3 A1 n1 c1 acc),(rc 250 5 fd [PG jt,PG io,PG ir,I Sx.cls,I o]),(rc 256 2 io [sl dv 258 ci,I (aV Sx.c1)]),(ri 3 dv 258 ci Sx.c1),(rc 256 2 ir [sl bw 258 db,I (aV Sx.c2)]),(ri 3 bw 258 db Sx.c2)]) (λ_ h=>h.sel [2,3,0,1,4,5,6,7,8,9] cC Z) (uX (by rw[de.1.1.1.1]) de.1.1.1 hy ⟨(pd.w0 hk).v0,(pd.w0 hk).v1⟩))) ?_;rintro _ _⟨rfl,rfl⟩;refine wm Z<|wX Z Z<|wX Z Z<|wg Z<|wn Z<|wq<|wm Z<|wa (aC nR Z (Ct.at 5 Z (oL hk))) ?_;rintro _ _⟨rfl,rfl⟩;refine wm Z<|wa (aC TF Z (Ct.sub (R1:=[(rc 256 2 jt [sl kd 258 bx,I (aV Sx.c0)]),(ri 3 kd 258 bx Sx.c0),(rc 360 4 aq [sl lz x.length mc,I ((Sx.cd.k+4:Nat):Int), .int .u64 (cuC x Sx.cd), .int .u64 Sx.cd.R]),(ru 5 lz x.length mc x),(ri 3 A1 n1 c1 acc),(rc 250 5 fd [PG jt,PG io,PG ir,I Sx.cls,I o]),(rc 256 2 io [sl dv 258 ci,I (aV Sx.c1)]),(ri 3 dv 258 ci Sx.c1),(rc 256 2 ir [sl bw 258 db,I (aV Sx.c2)]),(ri 3 bw 258 db Sx.c2)]) hiZ (lH (by rw[de.1.1.1.1]) (by rw[de.1.1.1.1];exact hy) de.1.1.1))) ?_;rintro _ _⟨rfl,rfl⟩;refine wm Z<|wX Z Z<|wX Z Z<|wX Z Z<|wg Z<|wg Z<|wn Z<|wq<|wm Z<|wm Z<|aB Z Z<|wm Z<|wy (aS Z Z) ?_;refine wm Z<|aB Z Z<|wm Z<|aB Z Z<|wm Z<|aB Z Z<|wm Z<|aB Z Z<|wm Z<|aB Z Z<|wa (aC aVv Z (Ct.sub (R1:=[(rc 360 4 aq [sl lz x.length mc,I ((Sx.cd.k+4:Nat):Int), .int .u64 (cuC x Sx.cd), .int .u64 Sx.cd.R]),(ru 5 lz x.length mc x),(rc 256 2 jt [sl kd 258 bx,I (aV Sx.c0)]),(ri 3 kd 258 bx Sx.c0),(ri 3 A1 n1 c1 acc),(rc 250 5 fd [PG jt,PG io,PG ir,I Sx.cls,I o]),(rc 256 2 io [sl dv 258 ci,I (aV Sx.c1)]),(ri 3 dv 258 ci Sx.c1),(rc 256 2 ir [sl bw 258 db,I (aV Sx.c2)]),(ri 3 bw 258 db Sx.c2)]) (λ_ h=>h.sel [2,3,0,1,4,5,6,7,8,9] cC Z) (FC Z (by rw[hx];exact fZ _ _) G o9 (kH de.1.1.1 hy.1 hy.2) (pd.w0 hk).lo (pd.w0 hk).hi (pd.w0 hk).len))) ?_;rintro _ _⟨rfl,rfl⟩;refine wy (aS Z Z)<|wn Z<|aD<|wq<|wm Z<|wm Z<|aB Z Z<|wm Z<|aB Z Z<|wy (fD Z Z)<|wy (aS Z Z)<|aA<|bA Z (λba=> ?_) (λba=> ?_)
  ·refine wq<|wm Z<|wg Z<|wn Z<|bU (R1:=[(ri 3 A1 n1 c1 acc)]) (λ_ h=>h.sel [4] cC Z) ?_;refine⟨_,_,Z,Z,?_⟩;have Pv:=Yo.1 cF;have Kt:acc=bS 0 (bK aY b):=by rw[bc,show i.toNat=(bJ b).length-1 by omega];exact FE b
   have pj:n1=(bS 0 (bK aY b)).length:=G
   rw[Kt,pj];exact⟨_,_,Z,Z⟩
  ·refine aI<|wq<|wm Z<|wm Z<|wa (bH .i64 [rd (bJ b) i] aa zs3 Z Z Z) ?_;rintro _ _⟨o3,rfl,rfl⟩;refine wa (aQ 5 Z aa zb3 Z Z Z (rdr 0 Z)) ?_;rintro _ _⟨fk,sp,rfl,rfl⟩;refine bC (v:=sl fk (n1+1) sp) Z<|wn Z<|aK<|wm Z<|wm Z<|wa (aC TE Z (Ct.sub (R1:=[(rc 250 5 fd [PG jt,PG io,PG ir,I Sx.cls,I o]),(rc 256 2 jt [sl kd 258 bx,I (aV Sx.c0)]),(ri 3 kd 258 bx Sx.c0),(ri 3 (GG o3) 1 1 ([rd (bJ b) i])),(rc 360 4 aq [sl lz x.length mc,I (((fB Sx.cd (aV (Sx.c0.take (rd (bJ b) i).toNat)) (rd Sx.c0 (rd (bJ b) i)) (aV Sx.c0)).k+4:Nat):Int), .int .u64 (cuC x (fB Sx.cd (aV (Sx.c0.take (rd (bJ b) i).toNat)) (rd Sx.c0 (rd (bJ b) i)) (aV Sx.c0))), .int .u64 ((fB Sx.cd (aV (Sx.c0.take (rd (bJ b) i).toNat)) (rd Sx.c0 (rd (bJ b) i)) (aV Sx.c0)).R)]),(ru 5 lz x.length mc x),(ri 3 fk (n1+1) sp (acc++([rd (bJ b) i]))),(rc 256 2 io [sl dv 258 ci,I (aV Sx.c1)]),(ri 3 dv 258 ci Sx.c1),(rc 256 2 ir [sl bw 258 db,I (aV Sx.c2)]),(ri 3 bw 258 db Sx.c2)]) (λ_ h=>h.sel [6,3,4,0,1,2,5,7,8,9,10] cC Z) (LK hk (by rw[de.1.1.1.1];exact hy) de.1.1.1))) ?_;rintro _ _⟨rfl,rfl⟩;refine aA ?_;exact⟨(i+1),fk,n1+1,sp,acc++([rd (bJ b) i]),(⟨kG Sx.c0 (rd (bJ b) i),Sx.c1,Sx.c2,iP (rd (bJ b) i),qV Sx.cd Sx.c0 (rd (bJ b) i)⟩:PpS),⟨G,G,G,(by rw[dJ bb G,<-bc]),(mZ hS bb G (UQ hk))⟩,G,SA,λ_ h=>h.sel [6,0,1,2,7,8,9,10,4,5] cC Z⟩
 ·refine wm Z<|wa (aC nR Z (Ct.at 1 Z (oK hk))) ?_;rintro _ _⟨rfl,rfl⟩;refine wa (aC NW Z (Ct.sub (R1:=[(rc 256 2 io [sl dv 258 ci,I (aV Sx.c1)]),(ri 3 dv 258 ci Sx.c1),(ri 3 A1 n1 c1 acc),(rc 250 5 fd [PG jt,PG io,PG ir,I Sx.cls,I o]),(rc 256 2 jt [sl kd 258 bx,I (aV Sx.c0)]),(ri 3 kd 258 bx Sx.c0),(rc 256 2 ir [sl bw 258 db,I (aV Sx.c2)]),(ri 3 bw 258 db Sx.c2),(rc 360 4 aq [sl lz x.length mc,I ((Sx.cd.k+4:Nat):Int), .int .u64 (cuC x Sx.cd), .int .u64 Sx.cd.R]),(ru 5 lz x.length mc x)]) (λ_ h=>h.sel [4,5,0,1,2,3,6,7,8,9] cC Z) (jL))) ?_;rintro _ _⟨rfl,rfl⟩;refine wn Z<|wq<|wm Z<|wm Z<|wa (aC aVx Z (Ct.sub (R1:=[(rc 360 4 aq [sl lz x.length mc,I ((Sx.cd.k+4:Nat):Int), .int .u64 (cuC x Sx.cd), .int .u64 Sx.cd.R]),(ru 5 lz x.length mc x),(rc 256 2 io [sl dv 258 ci,I (aV Sx.c1)]),(ri 3 dv 258 ci Sx.c1),(ri 3 A1 n1 c1 acc),(rc 250 5 fd [PG jt,PG io,PG ir,I Sx.cls,I o]),(rc 256 2 jt [sl kd 258 bx,I (aV Sx.c0)]),(ri 3 kd 258 bx Sx.c0),(rc 256 2 ir [sl bw 258 db,I (aV Sx.c2)]),(ri 3 bw 258 db Sx.c2)]) (λ_ h=>h.sel [8,9,0,1,2,3,4,5,6,7] cC Z) (GH Z ((pd.w1 hk).tot de.1.1.2.1 hy.1 hy.2).2 o9 ⟨(pd.w1 hk).c0,(pd.w1 hk).c1⟩ ((pd.w1 hk).tot de.1.1.2.1 hy.1 hy.2).1))) ?_;rintro _ _⟨rfl,rfl⟩;refine wm Z<|wX Z Z<|wX Z Z<|wg Z<|wn Z<|wq<|wm Z<|wa (aC nR Z (Ct.at 5 Z (oK hk))) ?_;rintro _ _⟨rfl,rfl⟩;refine wm Z<|wa (aC aVw Z (Ct.sub (R1:=[(rc 256 2 io [sl dv 258 ci,I (aV Sx.c1)]),(ri 3 dv 258 ci Sx.c1),(rc 360 4 aq [sl lz x.length mc,I ((Sx.cd.k+4:Nat):Int), .int .u64 (cuC x Sx.cd), .int .u64 Sx.cd.R]),(ru 5 lz x.length mc x),(ri 3 A1 n1 c1 acc),(rc 250 5 fd [PG jt,PG io,PG ir,I Sx.cls,I o]),(rc 256 2 jt [sl kd 258 bx,I (aV Sx.c0)]),(ri 3 kd 258 bx Sx.c0),(rc 256 2 ir [sl bw 258 db,I (aV Sx.c2)]),(ri 3 bw 258 db Sx.c2)]) (λ_ h=>h.sel [2,3,0,1,4,5,6,7,8,9] cC Z) (uX (by rw[de.1.1.2.1.1]) de.1.1.2.1 hy ⟨(pd.w1 hk).v0,(pd.w1 hk).v1⟩))) ?_;rintro _ _⟨rfl,rfl⟩;refine wm Z<|wX Z Z<|wX Z Z<|wg Z<|wn Z<|wq<|wm Z<|wa (aC nR Z (Ct.at 5 Z (oK hk))) ?_;rintro _ _⟨rfl,rfl⟩;refine wm Z<|wa (aC TF Z (Ct.sub (R1:=[(rc 256 2 io [sl dv 258 ci,I (aV Sx.c1)]),(ri 3 dv 258 ci Sx.c1),(rc 360 4 aq [sl lz x.length mc,I ((Sx.cd.k+4:Nat):Int), .int .u64 (cuC x Sx.cd), .int .u64 Sx.cd.R]),(ru 5 lz x.length mc x),(ri 3 A1 n1 c1 acc),(rc 250 5 fd [PG jt,PG io,PG ir,I Sx.cls,I o]),(rc 256 2 jt [sl kd 258 bx,I (aV Sx.c0)]),(ri 3 kd 258 bx Sx.c0),(rc 256 2 ir [sl bw 258 db,I (aV Sx.c2)]),(ri 3 bw 258 db Sx.c2)]) hiZ (lH (by rw[de.1.1.2.1.1]) (by rw[de.1.1.2.1.1];exact hy) de.1.1.2.1))) ?_;rintro _ _⟨rfl,rfl⟩;refine wm Z<|wX Z Z<|wX Z Z<|wX Z Z<|wg Z<|wg Z<|wn Z<|wq<|wm Z<|wm Z<|aB Z Z<|wm Z<|wy (aS Z Z) ?_;refine wm Z<|aB Z Z<|wm Z<|aB Z Z<|wm Z<|aB Z Z<|wm Z<|aB Z Z<|wm Z<|aB Z Z<|wa (aC aVv Z (Ct.sub (R1:=[(rc 360 4 aq [sl lz x.length mc,I ((Sx.cd.k+4:Nat):Int), .int .u64 (cuC x Sx.cd), .int .u64 Sx.cd.R]),(ru 5 lz x.length mc x),(rc 256 2 io [sl dv 258 ci,I (aV Sx.c1)]),(ri 3 dv 258 ci Sx.c1),(ri 3 A1 n1 c1 acc),(rc 250 5 fd [PG jt,PG io,PG ir,I Sx.cls,I o]),(rc 256 2 jt [sl kd 258 bx,I (aV Sx.c0)]),(ri 3 kd 258 bx Sx.c0),(rc 256 2 ir [sl bw 258 db,I (aV Sx.c2)]),(ri 3 bw 258 db Sx.c2)]) (λ_ h=>h.sel [2,3,0,1,4,5,6,7,8,9] cC Z) (FC Z (by rw[hx];exact fZ _ _) G o9 (kH de.1.1.2.1 hy.1 hy.2) (pd.w1 hk).lo (pd.w1 hk).hi (pd.w1 hk).len))) ?_;rintro _ _⟨rfl,rfl⟩;refine wy (aS Z Z)<|wn Z<|aD<|wq<|wm Z<|wm Z<|aB Z Z<|wm Z<|aB Z Z<|wy (fD Z Z)<|wy (aS Z Z)<|aA<|bA Z (λcj=> ?_) (λcj=> ?_)
  ·refine wq<|wm Z<|wg Z<|wn Z<|bU (R1:=[(ri 3 A1 n1 c1 acc)]) (λ_ h=>h.sel [4] cC Z) ?_;refine⟨_,_,Z,Z,?_⟩;have Pv:=Yo.1 cF;have Kt:acc=bS 0 (bK aY b):=by rw[bc,show i.toNat=(bJ b).length-1 by omega];exact FE b
   have pj:n1=(bS 0 (bK aY b)).length:=G
   rw[Kt,pj];exact⟨_,_,Z,Z⟩
  ·refine aI<|wq<|wm Z<|wm Z<|wa (bH .i64 [rd (bJ b) i] aa zs3 Z Z Z) ?_;rintro _ _⟨wj,rfl,rfl⟩;refine wa (aQ 5 Z aa zb3 Z Z Z (rdr 0 Z)) ?_;rintro _ _⟨li,lj,rfl,rfl⟩;refine bC (v:=sl li (n1+1) lj) Z<|wn Z<|aK<|wm Z<|wm Z<|wa (aC TE Z (Ct.sub (R1:=[(rc 250 5 fd [PG jt,PG io,PG ir,I Sx.cls,I o]),(rc 256 2 io [sl dv 258 ci,I (aV Sx.c1)]),(ri 3 dv 258 ci Sx.c1),(ri 3 (GG wj) 1 1 ([rd (bJ b) i])),(rc 360 4 aq [sl lz x.length mc,I (((fB Sx.cd (aV (Sx.c1.take (rd (bJ b) i).toNat)) (rd Sx.c1 (rd (bJ b) i)) (aV Sx.c1)).k+4:Nat):Int), .int .u64 (cuC x (fB Sx.cd (aV (Sx.c1.take (rd (bJ b) i).toNat)) (rd Sx.c1 (rd (bJ b) i)) (aV Sx.c1))), .int .u64 ((fB Sx.cd (aV (Sx.c1.take (rd (bJ b) i).toNat)) (rd Sx.c1 (rd (bJ b) i)) (aV Sx.c1)).R)]),(ru 5 lz x.length mc x),(ri 3 li (n1+1) lj (acc++([rd (bJ b) i]))),(rc 256 2 jt [sl kd 258 bx,I (aV Sx.c0)]),(ri 3 kd 258 bx Sx.c0),(rc 256 2 ir [sl bw 258 db,I (aV Sx.c2)]),(ri 3 bw 258 db Sx.c2)]) (λ_ h=>h.sel [6,3,4,0,1,2,5,7,8,9,10] cC Z) (LJ hk (by rw[de.1.1.2.1.1];exact hy) de.1.1.2.1))) ?_;rintro _ _⟨rfl,rfl⟩;refine aA ?_;exact⟨(i+1),li,n1+1,lj,acc++([rd (bJ b) i]),(⟨Sx.c0,kG Sx.c1 (rd (bJ b) i),Sx.c2,iP (rd (bJ b) i),qV Sx.cd Sx.c1 (rd (bJ b) i)⟩:PpS),⟨G,G,G,(by rw[dJ bb G,<-bc]),(mZ hS bb G (UO hk))⟩,G,SA,λ_ h=>h.sel [6,0,7,8,1,2,9,10,4,5] cC Z⟩
 ·refine wm Z<|wa (aC nR Z (Ct.at 1 Z (oJ hk))) ?_;rintro _ _⟨rfl,rfl⟩;refine wa (aC NW Z (Ct.sub (R1:=[(rc 256 2 ir [sl bw 258 db,I (aV Sx.c2)]),(ri 3 bw 258 db Sx.c2),(ri 3 A1 n1 c1 acc),(rc 250 5 fd [PG jt,PG io,PG ir,I Sx.cls,I o]),(rc 256 2 jt [sl kd 258 bx,I (aV Sx.c0)]),(ri 3 kd 258 bx Sx.c0),(rc 256 2 io [sl dv 258 ci,I (aV Sx.c1)]),(ri 3 dv 258 ci Sx.c1),(rc 360 4 aq [sl lz x.length mc,I ((Sx.cd.k+4:Nat):Int), .int .u64 (cuC x Sx.cd), .int .u64 Sx.cd.R]),(ru 5 lz x.length mc x)]) (λ_ h=>h.sel [6,7,0,1,2,3,4,5,8,9] cC Z) (jL))) ?_;rintro _ _⟨rfl,rfl⟩;refine wn Z<|wq<|wm Z<|wm Z<|wa (aC aVx Z (Ct.sub (R1:=[(rc 360 4 aq [sl lz x.length mc,I ((Sx.cd.k+4:Nat):Int), .int .u64 (cuC x Sx.cd), .int .u64 Sx.cd.R]),(ru 5 lz x.length mc x),(rc 256 2 ir [sl bw 258 db,I (aV Sx.c2)]),(ri 3 bw 258 db Sx.c2),(ri 3 A1 n1 c1 acc),(rc 250 5 fd [PG jt,PG io,PG ir,I Sx.cls,I o]),(rc 256 2 jt [sl kd 258 bx,I (aV Sx.c0)]),(ri 3 kd 258 bx Sx.c0),(rc 256 2 io [sl dv 258 ci,I (aV Sx.c1)]),(ri 3 dv 258 ci Sx.c1)]) (λ_ h=>h.sel [8,9,0,1,2,3,4,5,6,7] cC Z) (GH Z ((pd.w2 hk).tot de.1.1.2.2 hy.1 hy.2).2 o9 ⟨(pd.w2 hk).c0,(pd.w2 hk).c1⟩ ((pd.w2 hk).tot de.1.1.2.2 hy.1 hy.2).1))) ?_;rintro _ _⟨rfl,rfl⟩;refine wm Z<|wX Z Z<|wX Z Z<|wg Z<|wn Z<|wq<|wm Z<|wa (aC nR Z (Ct.at 5 Z (oJ hk))) ?_;rintro _ _⟨rfl,rfl⟩;refine wm Z<|wa (aC aVw Z (Ct.sub (R1:=[(rc 256 2 ir [sl bw 258 db,I (aV Sx.c2)]),(ri 3 bw 258 db Sx.c2),(rc 360 4 aq [sl lz x.length mc,I ((Sx.cd.k+4:Nat):Int), .int .u64 (cuC x Sx.cd), .int .u64 Sx.cd.R]),(ru 5 lz x.length mc x),(ri 3 A1 n1 c1 acc),(rc 250 5 fd [PG jt,PG io,PG ir,I Sx.cls,I o]),(rc 256 2 jt [sl kd 258 bx,I (aV Sx.c0)]),(ri 3 kd 258 bx Sx.c0),(rc 256 2 io [sl dv 258 ci,I (aV Sx.c1)]),(ri 3 dv 258 ci Sx.c1)]) (λ_ h=>h.sel [2,3,0,1,4,5,6,7,8,9] cC Z) (uX (by rw[de.1.1.2.2.1]) de.1.1.2.2 hy ⟨(pd.w2 hk).v0,(pd.w2 hk).v1⟩))) ?_;rintro _ _⟨rfl,rfl⟩;refine wm Z<|wX Z Z<|wX Z Z<|wg Z<|wn Z<|wq<|wm Z<|wa (aC nR Z (Ct.at 5 Z (oJ hk))) ?_;rintro _ _⟨rfl,rfl⟩;refine wm Z<|wa (aC TF Z (Ct.sub (R1:=[(rc 256 2 ir [sl bw 258 db,I (aV Sx.c2)]),(ri 3 bw 258 db Sx.c2),(rc 360 4 aq [sl lz x.length mc,I ((Sx.cd.k+4:Nat):Int), .int .u64 (cuC x Sx.cd), .int .u64 Sx.cd.R]),(ru 5 lz x.length mc x),(ri 3 A1 n1 c1 acc),(rc 250 5 fd [PG jt,PG io,PG ir,I Sx.cls,I o]),(rc 256 2 jt [sl kd 258 bx,I (aV Sx.c0)]),(ri 3 kd 258 bx Sx.c0),(rc 256 2 io [sl dv 258 ci,I (aV Sx.c1)]),(ri 3 dv 258 ci Sx.c1)]) hiZ (lH (by rw[de.1.1.2.2.1]) (by rw[de.1.1.2.2.1];exact hy) de.1.1.2.2))) ?_;rintro _ _⟨rfl,rfl⟩;refine wm Z<|wX Z Z<|wX Z Z<|wX Z Z<|wg Z<|wg Z<|wn Z<|wq<|wm Z<|wm Z<|aB Z Z<|wm Z<|wy (aS Z Z) ?_;refine wm Z<|aB Z Z<|wm Z<|aB Z Z<|wm Z<|aB Z Z<|wm Z<|aB Z Z<|wm Z<|aB Z Z<|wa (aC aVv Z (Ct.sub (R1:=[(rc 360 4 aq [sl lz x.length mc,I ((Sx.cd.k+4:Nat):Int), .int .u64 (cuC x Sx.cd), .int .u64 Sx.cd.R]),(ru 5 lz x.length mc x),(rc 256 2 ir [sl bw 258 db,I (aV Sx.c2)]),(ri 3 bw 258 db Sx.c2),(ri 3 A1 n1 c1 acc),(rc 250 5 fd [PG jt,PG io,PG ir,I Sx.cls,I o]),(rc 256 2 jt [sl kd 258 bx,I (aV Sx.c0)]),(ri 3 kd 258 bx Sx.c0),(rc 256 2 io [sl dv 258 ci,I (aV Sx.c1)]),(ri 3 dv 258 ci Sx.c1)]) (λ_ h=>h.sel [2,3,0,1,4,5,6,7,8,9] cC Z) (FC Z (by rw[hx];exact fZ _ _) G o9 (kH de.1.1.2.2 hy.1 hy.2) (pd.w2 hk).lo (pd.w2 hk).hi (pd.w2 hk).len))) ?_;rintro _ _⟨rfl,rfl⟩;refine wy (aS Z Z)<|wn Z<|aD<|wq<|wm Z<|wm Z<|aB Z Z<|wm Z<|aB Z Z<|wy (fD Z Z)<|wy (aS Z Z)<|aA<|bA Z (λfh=> ?_) (λfh=> ?_)
  ·refine wq<|wm Z<|wg Z<|wn Z<|bU (R1:=[(ri 3 A1 n1 c1 acc)]) (λ_ h=>h.sel [4] cC Z) ?_;refine⟨_,_,Z,Z,?_⟩;have Pv:=Yo.1 cF;have Kt:acc=bS 0 (bK aY b):=by rw[bc,show i.toNat=(bJ b).length-1 by omega];exact FE b
   have pj:n1=(bS 0 (bK aY b)).length:=G
   rw[Kt,pj];exact⟨_,_,Z,Z⟩
  ·refine aI<|wq<|wm Z<|wm Z<|wa (bH .i64 [rd (bJ b) i] aa zs3 Z Z Z) ?_;rintro _ _⟨c5,rfl,rfl⟩;refine wa (aQ 5 Z aa zb3 Z Z Z (rdr 0 Z)) ?_;rintro _ _⟨jx,jz,rfl,rfl⟩;refine bC (v:=sl jx (n1+1) jz) Z<|wn Z<|aK<|wm Z<|wm Z<|wa (aC TE Z (Ct.sub (R1:=[(rc 250 5 fd [PG jt,PG io,PG ir,I Sx.cls,I o]),(rc 256 2 ir [sl bw 258 db,I (aV Sx.c2)]),(ri 3 bw 258 db Sx.c2),(ri 3 (GG c5) 1 1 ([rd (bJ b) i])),(rc 360 4 aq [sl lz x.length mc,I (((fB Sx.cd (aV (Sx.c2.take (rd (bJ b) i).toNat)) (rd Sx.c2 (rd (bJ b) i)) (aV Sx.c2)).k+4:Nat):Int), .int .u64 (cuC x (fB Sx.cd (aV (Sx.c2.take (rd (bJ b) i).toNat)) (rd Sx.c2 (rd (bJ b) i)) (aV Sx.c2))), .int .u64 ((fB Sx.cd (aV (Sx.c2.take (rd (bJ b) i).toNat)) (rd Sx.c2 (rd (bJ b) i)) (aV Sx.c2)).R)]),(ru 5 lz x.length mc x),(ri 3 jx (n1+1) jz (acc++([rd (bJ b) i]))),(rc 256 2 jt [sl kd 258 bx,I (aV Sx.c0)]),(ri 3 kd 258 bx Sx.c0),(rc 256 2 io [sl dv 258 ci,I (aV Sx.c1)]),(ri 3 dv 258 ci Sx.c1)]) (λ_ h=>h.sel [6,3,4,0,1,2,5,7,8,9,10] cC Z) (LH hk (by rw[de.1.1.2.2.1];exact hy) de.1.1.2.2))) ?_;rintro _ _⟨rfl,rfl⟩;refine aA ?_;exact⟨(i+1),jx,n1+1,jz,acc++([rd (bJ b) i]),(⟨Sx.c0,Sx.c1,kG Sx.c2 (rd (bJ b) i),iP (rd (bJ b) i),qV Sx.cd Sx.c2 (rd (bJ b) i)⟩:PpS),⟨G,G,G,(by rw[dJ bb G,<-bc]),(mZ hS bb G (UN hk))⟩,G,SA,λ_ h=>h.sel [6,0,7,8,9,10,1,2,4,5] cC Z⟩
theorem PV {me:AF} {pk mn:Nat} {l:AH} {q:AH} (kp:Rd w me pk mn 1 (ints .i64 l)) (hb:bkL eh l [] 1=some q) (hm:0<=eh/\eh<=100000) (hN:l.length<=1000000):
  CF 273 #[sl me pk mn,I eh] w (λv R'=> ∃A c,v= .tuple #[sl A q.length c,bt]/\R'=[(ru 5 A q.length c q)]):=by
 obtain rfl:=kp.lenI;refine fn2 Tryz.func273 Z Z Z ?_;have Pk:=kp.max;refine wq<|wg Z<|wn Z<|aD<|wq<|wm Z<|wy (Yl.f (eZ Z Z))<|aA<|aP Z<|aI<|wq ?_;refine wa (bH .u8 [] af zs5 Z Z Z) ?_;rintro _ _⟨cy,rfl,rfl⟩;refine wn Z<|wq<|wn Z<|aD<|wq<|wm Z<|wy (aL aa Z)<|wm Z<|aA<|aH ?_;refine mX (λ(i:Int) (A1:AF) (n1:Nat) (c1:Nat) (acc:AH) (p:Int)=>[(1,I eh),(6,sl A1 n1 c1),(7,I p),(14,sl me l.length mn),(15,I (l.length:Int)),(16,I i)]) (λi A1 n1 c1 acc p=>[(ru 5 A1 n1 c1 acc)]) (λi A1 n1 c1 acc p=>(0<=i)/\(i<=l.length)/\(n1=acc.length)/\(1<=p/\p<=200000)/\((acc.length:Int)<=eh)/\(bkL eh (l.drop i.toNat) acc p=some q)) (λi A1 n1 c1 acc p=>(l.length-i).toNat) ?_ ?_
 ·exact⟨0,GG cy,0,0,[],1,⟨G,G,(Z),G,(by show(0:Int)<=eh;omega),(hb)⟩,KP⟩
 intro i A1 n1 c1 acc p ⟨bb,gd,cm,hp,qt,Cd⟩;refine wq<|wL Z Z<|aA<|aD<|bA Z (λba=> ?_) (λba=> ?_)
 ·have sv:=bHv Cd bb G;refine aI<|aD<|aH<|wq<|wy (aF aa sz3 Z Z (kp.c _))<|wy (aU au Z Z (kp.c _))<|wn Z<|aD<|aH<|wq<|wm Z<|wy (Yl.f (eZ Z Z)) ?_;refine wm Z<|aB Z Z<|wm Z<|aB Z Z<|wy (Yl.f (iD Z Z))<|wy (aO Z Z)<|wn Z<|aP Z<|wq<|wm Z<|wy (iD Z Z)<|wn Z ?_;refine bA Z (λcj=> ?_) (λcj=> ?_)
  ·obtain ⟨_,h3,h4⟩:=sv.2.resolve_right (λh=>G);refine wq<|wm Z<|wm Z<|wS Z Z<|wy (dU au bn Z)<|wa (bH .u8 [((rd l i)-1)%256] af zs5 Z Z Z) ?_;rintro _ _⟨jt,rfl,rfl⟩;refine wa (aQ 1 Z af zb5 Z Z Z (rdr 0 Z)) ?_;rintro _ _⟨gn,mj,rfl,rfl⟩;refine bC (v:=sl gn (n1+1) mj) Z<|wn Z<|aK<|wn Z<|wq<|wm Z<|wy (aL af Z)<|wm Z<|wy (Yl.f (dA Z Z))<|aA<|aP Z<|aI ?_;refine aK<|wA Z Z<|wm Z<|aA ?_;exact⟨i+1,gn,n1+1,mj,acc++([((rd l i)-1)%256]),1,⟨G,G,(by rw[ah,cm];simp),G,(by rw[ah,ib];omega),(by rw[ky G G];exact h4)⟩,G,SA,λ_ h=>h.sel [1] cC Z⟩
  ·obtain ⟨_,h3,hz,h5⟩:=sv.2.resolve_left (λh=>G)
   have hxp:(rd l i+1)*p=p\/(rd l i+1)*p=2*p:=by
    rcases(by omega:rd l i=0\/rd l i=1) with e|e<;>rw[e]<;>omega
   obtain⟨zn,hzn⟩: ∃zn:Nat,(rd l i+1)*p=(zn:Int):=⟨((rd l i+1)*p).toNat,G⟩;refine wq<|wm Z<|wA Z Z<|wm Z<|wy (Yl.is (jJ Z Z) (by rw[hzn])) ?_;refine wn Z<|aD<|wq<|wm Z<|wm Z<|wy (Yl.f (dA Z Z))<|wm Z<|aB Z Z<|wm Z<|aB Z Z<|wm Z<|aB Z Z<|wm Z ?_;refine aB Z Z<|wy (aL af Z)<|aB Z Z<|wS Z Z<|aB Z Z<|wy (Yl.f (dA Z Z))<|wy (aO Z Z)<|aA<|aP Z<|aI<|wq<|wm Z<|wm Z<|wa (aYc (m:=zn) 0 Z af au zb5 Z Z G G G) ?_;rintro _ _⟨kd,mu,rfl,rfl⟩;refine wn Z<|aK<|wm Z<|wy (jJ Z Z)<|wn Z<|wq<|wm Z<|wy (aL af Z)<|wm Z<|wy (Yl.f (dA Z Z))<|aA<|aP Z ?_;refine aI<|aK<|wA Z Z<|wm Z<|aA ?_;exact⟨i+1,kd,n1+zn,mu,acc++List.replicate zn 0,p*2,⟨G,G,(by rw[ah,cm];simp),G,(by rw[ah,dh];omega),(by rw[show zn=((rd l i+1)*p).toNat by omega];exact h5)⟩,G,KP⟩
 ·refine aR<|wq<|wm Z<|wg Z<|wn Z<|aT [0] 99 cC Z ?_;refine⟨_,_,Z,Z,?_⟩;have Vs:l.drop i.toNat=[]:=xk G;rw[Vs] at Cd;have hq:acc=q:=je Cd;subst hq;subst cm;exact⟨_,_,Z,Z⟩
theorem XP (mm:Rd w n7 Ka o0 1 (ints .u8 x)) (hx:x=bR b o) (cx:aN b) (ho:o=0\/o=1) (hN:b.length<=100000) (hm:(b.length:Int)<=eh):
  CF 229 #[sl n7 Ka o0,I o,I eh] w (λv R'=> ∃A c,v= .tuple #[sl A b.length c,bt]/\R'=[(ru 5 A b.length c b)]):=by
 obtain rfl:=mm.lenI;refine fn2 Tryz.func229 Z Z Z ?_;have m_x:=mm.max;have m5:=qU cx;have Ls:x.length<=2*b.length+6:=by rw[hx];exact lG cx
 have hx4:4<=x.length:=by rw[hx];unfold bR;rw[kE];omega
 have vq:(bJ b).length=(bS 0 (bK aY b)).length+1:=by unfold bJ;rw[ah];rfl
 have Hj:=pI (bK aY b) 0;rw[iJ] at Hj;have hmv:=iJ b aY;refine wq<|wg Z<|wn Z<|aD<|wq<|wm Z<|wa (aC bEv Z (Ct.quiet (λw hw=>DK ho))) ?_;rintro _ _⟨rfl,rfl⟩;refine wy (dW Z)<|wm Z<|aB Z Z<|wm Z<|aB Z Z<|wy (Yl.f (eZ Z Z))<|wy (aO Z Z)<|aA<|aP Z<|aI<|wq<|wm Z<|wy (sW Z Z)<|wg Z ?_;refine aA<|wq<|wm Z<|wm Z<|wm Z<|wa (aC bKf Z (Ct.fresh (λw hw=>UM ((mm.c _) w hw) hx cx ho hN G))) ?_;rintro _ _⟨_,rfl,cg,ce,rfl,rfl⟩;refine wm Z<|wX Z Z<|wX Z Z<|wg Z<|wn Z<|aD<|wq<|wm Z<|wy (dW Z)<|aA<|aP Z<|aI<|aD ?_;refine aK<|wm Z<|wm Z<|wa (aC bKe Z (Ct.fresh (λw hw=>PV ((rdr 0 Z) w hw) (bHu (oN cx) G) G G))) ?_;rintro _ _⟨_,rfl,ns,pi,rfl,rfl⟩;refine wm Z<|wX Z Z<|wX Z Z<|wg Z<|wn Z<|aD<|wq<|wm Z<|wy (dW Z)<|aA<|aP Z<|aI<|aD ?_;refine aK<|wm Z<|wa (aC bMx Z (Ct.fresh (λw hw=>aPj ((rdr 0 Z) w hw) (oN cx) G))) ?_;rintro _ _⟨_,rfl,gg,ef,rfl,rfl⟩;refine wn Z<|aD<|wq<|wm Z<|wm Z<|wa (aC aVu Z (Ct.fresh (λw hw=>tL ((rdr 0 Z) w hw) (by rw[uN cx];exact cx) ho (by rw[uN cx];exact hN)))) ?_;rintro _ _⟨_,rfl,bw,bx,rfl,rfl⟩;refine wm Z<|wX Z Z<|wX Z Z<|wg Z<|wn Z<|wq<|wm Z<|wm Z<|wa (aC bKd Z (Ct.quiet (λw hw=>aNu ((rdr 0 Z) w hw) ((mm.c _) w hw) (fZ _ _) (by rw[hx];exact fZ _ _)))) ?_;rintro _ _⟨rfl,rfl⟩;refine mW 50 Z (by rw[uN cx,hx]) ?_;refine wy (dW Z)<|aA<|aP Z<|aI<|wq<|wm Z<|wg Z<|wn Z<|bU (R1:=[(ru 5 gg (((bK aY b)).length) ef (pG aY (bK aY b)))]) (λ_ h=>h.sel [1] cC Z) ?_;refine⟨_,_,Z,Z,?_⟩;rw[hmv,uN cx];exact⟨_,_,Z,Z⟩
variable {B g gc bl an nt ct:Nat} {w0:World} {X R0 R:List Row} {ap At:AF} {u t:AH} {p0 p1 p2 p3 ms tt ls x n:Int}
theorem CX (V:Int) (t:AH) (ac:RdC B w0 R0 ap bl an 1 (ints .u8 u)) (cr:bl=u.length) (hN:u.length<=1000000) (am:aN u) (hV:0<=V/\V<=9223372036854775807) (hu:u=aW V++t):
  CT 90 #[PG g] B w0 ((rc 87 10 g [PG gc,I p0,I p1,I p2,I p3,I ms,I tt,I ls,sl At nt ct,sl none 0 0])::(rc 146 1 gc [sl ap bl an])::(X++R0)) (λv R'=> ∃(A9:AF) (c9:Nat),RdC B w0 R0 A9 (t).length c9 1 (ints .u8 (t))/\v= .tuple #[I V,bt]/\R'=(rc 87 10 g [PG gc,I p0,I p1,I p2,I p3,I ms,I tt,I ls,sl At nt ct,sl none 0 0])::(rc 146 1 gc [sl A9 ((t).length) c9])::(X++R0)):=
 (CW (R:=X++R0) (m:=(aW V).length) (RdC.right ac X) cr hN am (by rw[hu];exact vM.of ⟨hV.1,G⟩ t) hV.2).mono λv R' hv=>by
  obtain⟨rfl,rfl⟩:=hv;have e:=RdC.fromI (l:=(aW V).length) ac (by rw[cr,hu,ah];omega);have hl:bl-(aW V).length=t.length:=by rw[cr,hu,ah];omega
  have hd:u.drop (aW V).length=t:=by rw[hu];exact Fw
  rw[hl,hd] at e;rw[hl];exact⟨_,_,e,Z,Z⟩
theorem aHn {k:Int} (a t:AH) (ac:RdC B w0 R0 ap bl an 1 (ints .u8 u)) (cr:bl=u.length) (hN:u.length<=1000000) (hk:k=(a.length:Int)) (hu:u=a++t):
  CT 156 #[PG gc,I k] B w0 ((rc 146 1 gc [sl ap bl an])::(X++R0)) (λv R'=> ∃(A1:AF) (c1:Nat),∃(A9:AF) (c9:Nat),RdC B w0 R0 A9 (t).length c9 1 (ints .u8 (t))/\v= .tuple #[sl A1 a.length c1,bt]/\R'=(ru 5 A1 a.length c1 a)::(rc 146 1 gc [sl A9 ((t).length) c9])::(X++R0)):=
 (zK (R:=X++R0) (k:=k) (RdC.right ac X) cr hN (by rw[hu,ah];omega)).mono λv R' hv=>by
  obtain⟨A1,c1,rfl,rfl⟩:=hv;have Pz:k.toNat=a.length:=G
  have e:=RdC.fromI (l:=a.length) ac (by rw[cr,hu,ah];omega);have hl:bl-a.length=t.length:=by rw[cr,hu,ah];omega
  have hd:u.drop a.length=t:=by rw[hu];exact Fw
  have ht:u.take a.length=a:=by rw[hu];exact Dh
  rw[hl,hd] at e;rw[Pz,hl,ht];exact⟨_,_,_,_,e,Z,Z⟩
theorem aVh (ac:RdC B w0 R0 ap bl an 1 (ints .u8 u)) (cr:bl=u.length) (hN:u.length<=1000000) (hx:0<=x/\x<4294967296) (hu:u=eG x++t):
  CT 228 #[PG gc] B w0 ((rc 146 1 gc [sl ap bl an])::(X++R0)) (λv R'=> ∃(A9:AF) (c9:Nat),RdC B w0 R0 A9 (t).length c9 1 (ints .u8 (t))/\v= .tuple #[.int .u32 x,bt]/\R'=(rc 146 1 gc [sl A9 ((t).length) c9])::(X++R0)):=by
 subst cr;have o7:=(iI x).rd 0;have vl:=(iI x).rd 1;have g9:=(iI x).rd 2;have Kv:=(iI x).rd 3;refine fn2 Tryz.func228 Z Z Z ?_;refine wq<|wg Z<|wn Z<|wq<|wm Z<|wa (aC aJj Z ((aHn (X:=([]++X)) (R0:=R0) (eG x) (t) ac Z hN Z hu))) ?_;rintro _ _⟨ns,pi,cg,ce,ti,rfl,rfl⟩;refine gM (R1:=((ru 5 ns 4 pi (eG x))::(rc 146 1 gc [sl cg ((t).length) ce])::(X++R0))) Z<|bC (v:= .tuple #[sl ns 4 pi,bt]) Z<|wm Z<|wX Z Z<|wX Z Z<|wg Z<|wn Z<|aD<|wq<|wm Z<|wy (dW Z)<|aA<|aP Z ?_;refine aI<|wq<|wn Z<|aD<|wq<|wm Z<|wy (aL af Z)<|wm Z<|aA<|aH<|lT 5<|eB ?_;refine wq<|wy (Yl.t (eZ Z Z) cC)<|aA<|aD<|dS Z<|aI<|aD<|aH<|wq<|wm Z<|wy (aF af sz5 Z Z (rdr 0 Z))<|wy (aU bn Z Z (rdr 0 Z))<|wg Z ?_;refine wn Z<|aK<|wm Z<|wm Z<|wy (AY bn qw Z G)<|wm Z<|wy (Yl.is (jJ Z Z) (Z:_=Value.int .i64 0))<|wy (JF (k:=0) (m:=1) Z Z Z G Z)<|wy (UE (p:=(rd (eG x) 0)) (m:=1) 0 Z Z Z G G)<|wn Z<|aK<|wy (Yl.is (cK Z Z) (Z:_=Value.int .i64 1))<|wm Z ?_;refine aA<|eB<|wq<|wy (Yl.t (eZ Z Z) cC)<|aA<|aD<|dS Z<|aI<|aD<|aH<|wq<|wm Z<|wy (aF af sz5 Z Z (rdr 0 Z)) ?_;refine wy (aU bn Z Z (rdr 0 Z))<|wg Z<|wn Z<|aK<|wm Z<|wm Z<|wy (AY bn qw Z G)<|wm Z<|wy (Yl.is (jJ Z Z) (Z:_=Value.int .i64 8))<|wy (JF (k:=8) (m:=256) Z Z Z G Z)<|wy (UE (p:=(rd (eG x) 1)) (m:=256) 8 Z Z Z G G)<|wn Z<|aK ?_;refine wy (Yl.is (cK Z Z) (Z:_=Value.int .i64 2))<|wm Z<|aA<|eB<|wq<|wy (Yl.t (eZ Z Z) cC)<|aA<|aD<|dS Z<|aI<|aD<|aH<|wq ?_;refine wm Z<|wy (aF af sz5 Z Z (rdr 0 Z))<|wy (aU bn Z Z (rdr 0 Z))<|wg Z<|wn Z<|aK<|wm Z<|wm Z<|wy (AY bn qw Z G)<|wm Z<|wy (Yl.is (jJ Z Z) (Z:_=Value.int .i64 16))<|wy (JF (k:=16) (m:=65536) Z Z Z G Z)<|wy (UE (p:=(rd (eG x) 2)) (m:=65536) 16 Z Z Z G G)<|wg Z ?_;refine aA<|aK<|wy (Yl.is (cK Z Z) (Z:_=Value.int .i64 3))<|wm Z<|aA<|eB<|wq<|wy (Yl.t (eZ Z Z) cC)<|aA<|aD<|dS Z<|aI<|aD<|aH ?_;refine wq<|wm Z<|wy (aF af sz5 Z Z (rdr 0 Z))<|wy (aU bn Z Z (rdr 0 Z))<|wg Z<|wn Z<|aK<|wm Z<|wm Z<|wy (AY bn qw Z G)<|wm Z<|wy (Yl.is (jJ Z Z) (Z:_=Value.int .i64 24))<|wy (JF (k:=24) (m:=16777216) Z Z Z G Z) ?_;refine wy (UE (p:=(rd (eG x) 3)) (m:=16777216) 24 Z Z Z G G)<|wn Z<|aK<|wy (Yl.is (cK Z Z) (Z:_=Value.int .i64 4))<|wm Z<|aA<|eB<|wq<|wy (Yl.f (eZ Z Z) cC)<|aA<|aD<|aP Z<|aR ?_;refine wq<|wm Z<|wg Z<|wn Z ?_;have he:0+(rd (eG x) 0)*1+(rd (eG x) 1)*256+(rd (eG x) 2)*65536+(rd (eG x) 3)*16777216=x:=bBs hx;refine aT [1] 2 cC Z ?_;refine⟨_,_,Z,Z,?_⟩;rw[he];exact⟨_,_,ti,Z,Z⟩
theorem aEy (hn:n<=p3) (hb:(-1000000<=ms/\ms<=1000000)/\(0<=tt/\tt<=1000000)):
  CT 158 #[PG g,I n] B w0 ((rc 87 10 g [PG gc,I 0,I p1,I p2,I p3,I ms,I tt,I ls,sl At nt ct,sl none 0 0])::R) (λv R'=>v= .bool (decide (n<=ms-tt))/\R'=(rc 87 10 g [PG gc,I 0,I p1,I p2,I p3,I ms,I tt,I ls,sl At nt ct,sl none 0 0])::R):=by
 refine fn1 Iq Z Z Z ?_;refine wq<|wn Z<|aD<|wq<|wm Z<|wy (aG Z)<|wy (yF 1 1 ig eQ Z)<|wy (yF 0 1 bg sz3 Z)<|wy (yL 0 au Z Z Z)<|wQ Z Z<|wm Z<|aM Z Z Z Z ?_;refine aM Z Z Z Z<|aM Z Z Z Z<|aM Z Z Z Z<|aM Z Z Z Z<|wy (aO Z Z)<|wm Z<|aB Z Z<|wm Z<|aB Z Z<|wy (aG Z)<|aB Z Z<|wy (yF 1 1 ig eQ Z)<|aB Z Z<|wy (yF 0 1 bg sz3 Z)<|aB Z Z ?_;refine wy (yL 0 au Z Z Z)<|aB Z Z<|wy (Yl.t (jP Z Z) cC)<|aB Z Z<|wm Z<|aB Z Z<|wm Z<|aB Z Z<|wm Z<|aB Z Z<|wy (aG Z)<|aB Z Z<|wy (yF 1 1 ig eQ Z)<|aB Z Z<|wy (yF 3 4 bg sz3 Z) ?_;refine aB Z Z<|wy (yL 0 au Z Z Z)<|aB Z Z<|wy (Yl.f (dA Z Z))<|aB Z Z<|wy (aS Z Z)<|wy (aO Z Z)<|aA<|aP Z<|aI<|aD<|bF mixed<|wD 0 Z (aJ Z)<|wD 1 Z (aJ Z)<|wD 2 Z (aG Z) ?_;refine wD 3 Z (yF 5 5 ig sz3 Z)<|wD 4 Z (yL 0 au Z Z Z)<|wD 5 Z (aJ Z)<|wD 6 Z (aG Z)<|wD 7 Z (yF 6 6 ig sz3 Z)<|wD 8 Z (yL 0 au Z Z Z)<|wD 9 Z (mE Z Z)<|wD 10 Z (qP Z Z)<|wD 11 Z (bB Z)<|wN<|bU (R1:=((rc 87 10 g [PG gc,I 0,I p1,I p2,I p3,I ms,I tt,I ls,sl At nt ct,sl none 0 0])::R)) hiZ ?_;exact⟨_,Z,Z,Z⟩
theorem aEx (hn:n<=p3) (hb:(-1000000<=ms/\ms<=1000000)/\(0<=tt/\tt<=1000000)):
  CT 158 #[PG g,I n] B w0 ((rc 87 10 g [PG gc,I 1,I p1,I p2,I p3,I ms,I tt,I ls,sl At nt ct,sl none 0 0])::R) (λv R'=>v= .bool (decide (n<=ms-tt))/\R'=(rc 87 10 g [PG gc,I 1,I p1,I p2,I p3,I ms,I tt,I ls,sl At nt ct,sl none 0 0])::R):=by
 refine fn1 Iq Z Z Z ?_;refine wq<|wn Z<|aD<|wq<|wm Z<|wy (aG Z)<|wy (yF 1 1 ig eQ Z)<|wy (yF 0 1 bg sz3 Z)<|wy (yL 0 au Z Z Z)<|wQ Z Z<|wm Z<|aM Z Z Z Z ?_;refine aM Z Z Z Z<|aM Z Z Z Z<|aM Z Z Z Z<|aM Z Z Z Z<|wy (aO Z Z)<|wm Z<|aB Z Z<|wm Z<|aB Z Z<|wy (aG Z)<|aB Z Z<|wy (yF 1 1 ig eQ Z)<|aB Z Z<|wy (yF 0 1 bg sz3 Z)<|aB Z Z ?_;refine wy (yL 0 au Z Z Z)<|aB Z Z<|wy (Yl.t (jP Z Z) cC)<|aB Z Z<|wm Z<|aB Z Z<|wm Z<|aB Z Z<|wm Z<|aB Z Z<|wy (aG Z)<|aB Z Z<|wy (yF 1 1 ig eQ Z)<|aB Z Z<|wy (yF 3 4 bg sz3 Z) ?_;refine aB Z Z<|wy (yL 0 au Z Z Z)<|aB Z Z<|wy (Yl.f (dA Z Z))<|aB Z Z<|wy (aS Z Z)<|wy (aO Z Z)<|aA<|aP Z<|aI<|aD<|bF mixed<|wD 0 Z (aJ Z)<|wD 1 Z (aJ Z)<|wD 2 Z (aG Z) ?_;refine wD 3 Z (yF 5 5 ig sz3 Z)<|wD 4 Z (yL 0 au Z Z Z)<|wD 5 Z (aJ Z)<|wD 6 Z (aG Z)<|wD 7 Z (yF 6 6 ig sz3 Z)<|wD 8 Z (yL 0 au Z Z Z)<|wD 9 Z (mE Z Z)<|wD 10 Z (qP Z Z)<|wD 11 Z (bB Z)<|wN<|bU (R1:=((rc 87 10 g [PG gc,I 1,I p1,I p2,I p3,I ms,I tt,I ls,sl At nt ct,sl none 0 0])::R)) hiZ ?_;exact⟨_,Z,Z,Z⟩
theorem aEw (hn:n<=p3) (hb:(-1000000<=ms/\ms<=1000000)/\(0<=tt/\tt<=1000000)):
  CT 158 #[PG g,I n] B w0 ((rc 87 10 g [PG gc,I 2,I p1,I p2,I p3,I ms,I tt,I ls,sl At nt ct,sl none 0 0])::R) (λv R'=>v= .bool (decide (n<=ms-tt))/\R'=(rc 87 10 g [PG gc,I 2,I p1,I p2,I p3,I ms,I tt,I ls,sl At nt ct,sl none 0 0])::R):=by
 refine fn1 Iq Z Z Z ?_;refine wq<|wn Z<|aD<|wq<|wm Z<|wy (aG Z)<|wy (yF 1 1 ig eQ Z)<|wy (yF 0 1 bg sz3 Z)<|wy (yL 0 au Z Z Z)<|wQ Z Z<|wm Z<|aM Z Z Z Z ?_;refine aM Z Z Z Z<|aM Z Z Z Z<|aM Z Z Z Z<|aM Z Z Z Z<|wy (aO Z Z)<|wm Z<|aB Z Z<|wm Z<|aB Z Z<|wy (aG Z)<|aB Z Z<|wy (yF 1 1 ig eQ Z)<|aB Z Z<|wy (yF 0 1 bg sz3 Z)<|aB Z Z ?_;refine wy (yL 0 au Z Z Z)<|aB Z Z<|wy (Yl.t (jP Z Z) cC)<|aB Z Z<|wm Z<|aB Z Z<|wm Z<|aB Z Z<|wm Z<|aB Z Z<|wy (aG Z)<|aB Z Z<|wy (yF 1 1 ig eQ Z)<|aB Z Z<|wy (yF 3 4 bg sz3 Z) ?_;refine aB Z Z<|wy (yL 0 au Z Z Z)<|aB Z Z<|wy (Yl.f (dA Z Z))<|aB Z Z<|wy (aS Z Z)<|wy (aO Z Z)<|aA<|aP Z<|aI<|aD<|bF mixed<|wD 0 Z (aJ Z)<|wD 1 Z (aJ Z)<|wD 2 Z (aG Z) ?_;refine wD 3 Z (yF 5 5 ig sz3 Z)<|wD 4 Z (yL 0 au Z Z Z)<|wD 5 Z (aJ Z)<|wD 6 Z (aG Z)<|wD 7 Z (yF 6 6 ig sz3 Z)<|wD 8 Z (yL 0 au Z Z Z)<|wD 9 Z (mE Z Z)<|wD 10 Z (qP Z Z)<|wD 11 Z (bB Z)<|wN<|bU (R1:=((rc 87 10 g [PG gc,I 2,I p1,I p2,I p3,I ms,I tt,I ls,sl At nt ct,sl none 0 0])::R)) hiZ ?_;exact⟨_,Z,Z,Z⟩
theorem aMn:
  CT 159 #[PG g,I n] B w0 ((rc 87 10 g [PG gc,I 0,I p1,I p2,I p3,I ms,I tt,I ls,sl At nt ct,sl none 0 0])::R) (λv R'=>v= .tuple #[sl none 0 0,bt]/\R'=(rc 87 10 g [PG gc,I 0,I p1,I p2,I p3,I ms,I tt,I ls,sl At nt ct,sl none 0 0])::R):=by
 refine fn2 Ir Z Z Z ?_;refine wq<|wg Z<|wn Z<|aD<|wq<|wm Z<|wy (aG Z)<|wy (yF 1 1 ig eQ Z)<|wy (yF 0 1 bg sz3 Z)<|wy (yL 0 au Z Z Z)<|aA<|aH ?_;refine wq<|wQ Z Z<|wn Z<|aP Z<|wq<|wQ Z Z<|wn Z<|aP Z<|aI<|wq ?_;refine wg Z<|wn Z<|bU (R1:=((rc 87 10 g [PG gc,I 0,I p1,I p2,I p3,I ms,I tt,I ls,sl At nt ct,sl none 0 0])::R)) hiZ ?_;refine⟨_,_,Z,Z,?_⟩;exact⟨Z,Z⟩
theorem aMl:
  CT 159 #[PG g,I n] B w0 ((rc 87 10 g [PG gc,I 2,I p1,I p2,I p3,I ms,I tt,I ls,sl At nt ct,sl none 0 0])::R) (λv R'=>v= .tuple #[sl none 0 0,bt]/\R'=(rc 87 10 g [PG gc,I 2,I p1,I p2,I p3,I ms,I tt,I ls,sl At nt ct,sl none 0 0])::R):=by
 refine fn2 Ir Z Z Z ?_;refine wq<|wg Z<|wn Z<|aD<|wq<|wm Z<|wy (aG Z)<|wy (yF 1 1 ig eQ Z)<|wy (yF 0 1 bg sz3 Z)<|wy (yL 0 au Z Z Z)<|aA<|aH ?_;refine wq<|wQ Z Z<|wn Z<|aP Z<|wq<|wQ Z Z<|wn Z<|aP Z<|aI<|wq ?_;refine wg Z<|wn Z<|bU (R1:=((rc 87 10 g [PG gc,I 2,I p1,I p2,I p3,I ms,I tt,I ls,sl At nt ct,sl none 0 0])::R)) hiZ ?_;refine⟨_,_,Z,Z,?_⟩;exact⟨Z,Z⟩
theorem aMm {at_:Int} (ac:RdC B w0 R0 ap bl an 1 (ints .u8 u)) (cr:bl=u.length) (hN:u.length<=1000000) (am:aN u) (sr:0<=at_/\at_<=n/\n<=1000000) (hu:u=aW at_++t):
  CT 159 #[PG g,I n] B w0 ((rc 87 10 g [PG gc,I 1,I p1,I p2,I p3,I ms,I tt,I ls,sl At nt ct,sl none 0 0])::(rc 146 1 gc [sl ap bl an])::(X++R0)) (λv R'=> ∃(A8:AF),∃(A9:AF) (c9:Nat),RdC B w0 R0 A9 (t).length c9 1 (ints .u8 (t))/\v= .tuple #[sl A8 1 1,bt]/\R'=(ri 3 A8 1 1 ([at_]))::(rc 87 10 g [PG gc,I 1,I p1,I p2,I p3,I ms,I tt,I ls,sl At nt ct,sl none 0 0])::(rc 146 1 gc [sl A9 ((t).length) c9])::(X++R0)):=by
 subst cr;refine fn2 Ir Z Z Z ?_;refine wq<|wg Z<|wn Z<|aD<|wq<|wm Z<|wy (aG Z)<|wy (yF 1 1 ig eQ Z)<|wy (yF 0 1 bg sz3 Z)<|wy (yL 0 au Z Z Z)<|aA<|aH ?_;refine wq<|wR Z Z<|wn Z<|dS Z<|wq<|wm Z<|wa (aC aOb Z ((CX (X:=([]++X)) (R0:=R0) (at_) (t) ac Z G cF G hu))) ?_;rintro _ _⟨cg,ce,ti,rfl,rfl⟩;refine wm Z<|wX Z Z<|wX Z Z<|wg Z<|wn Z<|wq<|wm Z<|wa (bH .i64 [at_] aa zs3 Z Z Z) ?_;rintro _ _⟨jt,rfl,rfl⟩;refine wm Z<|wm Z<|aB Z Z<|wm Z<|aB Z Z<|wm Z<|aB Z Z<|wy (Yl.t (qP Z Z) G)<|wy (aS Z Z)<|wg Z<|wn Z<|bU (R1:=((ri 3 (GG jt) 1 1 ([at_]))::(rc 87 10 g [PG gc,I 1,I p1,I p2,I p3,I ms,I tt,I ls,sl At nt ct,sl none 0 0])::(rc 146 1 gc [sl cg ((t).length) ce])::(X++R0))) hiZ ?_;refine⟨_,_,Z,Z,?_⟩;exact⟨_,_,_,ti,Z,Z⟩
theorem FV {l:AH} (ac:RdC B w0 R0 ap bl an 1 (ints .u8 u)) (cr:bl=u.length) (hN:u.length<=1000000) (am:aN u) (hx:0<=x/\x<4294967296) (pe:p2=0\/p2=1) (b8:aN l) (hl:(l.length:Int)=n/\l.length<=100000) (hu:u=aW ((bR l p2).length:Int)++(eG x++(bR l p2++t))):
  CT 160 #[PG g,I n] B w0 ((rc 87 10 g [PG gc,I p0,I p1,I p2,I p3,I ms,I tt,I ls,sl At nt ct,sl none 0 0])::(rc 146 1 gc [sl ap bl an])::(X++R0)) (λv R'=> ∃(A8:AF) (c8:Nat),∃(A9:AF) (c9:Nat),RdC B w0 R0 A9 (t).length c9 1 (ints .u8 (t))/\v= .tuple #[.int .u32 x,sl A8 l.length c8,bt]/\R'=(ru 5 A8 l.length c8 l)::(rc 87 10 g [PG gc,I p0,I p1,I p2,I p3,I ms,I tt,I ls,sl At nt ct,sl none 0 0])::(rc 146 1 gc [sl A9 ((t).length) c9])::(X++R0)):=by
 subst cr;have yy:=bu List.length hu;simp only[ah] at yy;have tx:(eG x).length=4:=rfl;have Me:=am;rw[hu] at Me;refine fn3 Tryz.func160 Z Z Z ?_;refine wq<|wg Z<|wg Z<|wn Z<|wq<|wm Z<|wa (aC aOb Z ((CX (X:=([]++X)) (R0:=R0) (((bR l p2).length:Int)) (eG x++(bR l p2++t)) ac Z G cF G hu))) ?_;rintro _ _⟨cg,ce,ti,rfl,rfl⟩;refine wm Z<|wX Z Z<|wX Z Z<|wg Z<|wn Z<|wq<|wm Z<|wy (aG Z)<|wy (yF 0 0 ig aKv Z)<|wy (yL 0 Ab Z Z Z)<|wa (aC bKw Z (Ct.pick [1,0] 2 cC Z (aVh (X:=([(rc 87 10 g [PG gc,I p0,I p1,I p2,I p3,I ms,I tt,I ls,sl At nt ct,sl none 0 0])]++X)) (R0:=R0) (x:=x) (t:=bR l p2++t) ti Z (by simp only[ah];omega) hx Z))) ?_;rintro _ _⟨ns,pi,Fr,rfl,rfl⟩;refine wm Z<|wX Z Z<|wX Z Z<|wg Z<|wn Z<|wq<|wm Z<|wy (aG Z)<|wy (yF 0 0 ig aKv Z)<|wy (yL 1 Ab Z Z Z)<|wm Z<|wa (aC aJj Z ((aHn (X:=([(rc 87 10 g [PG gc,I p0,I p1,I p2,I p3,I ms,I tt,I ls,sl At nt ct,sl none 0 0])]++X)) (R0:=R0) (bR l p2) (t) Fr Z (by simp only[ah];omega) Z Z))) ?_;rintro _ _⟨bw,bx,gg,ef,f9,rfl,rfl⟩;refine wm Z<|wX Z Z<|wX Z Z<|wg Z<|wn Z<|aD<|wq<|wm Z<|wy (dW Z)<|wm Z<|aB Z Z<|wm Z<|aB Z Z ?_;refine wy (dW Z)<|wy (aO Z Z)<|wm Z<|aB Z Z<|wm Z<|aB Z Z<|wy (dW Z)<|wy (aO Z Z)<|aA<|aP Z<|aI<|wq<|wm Z<|wm Z ?_;refine wy (aG Z)<|wy (yF 1 1 ig eQ Z)<|wy (yF 2 3 bg sz3 Z)<|wy (yL 2 au Z Z Z)<|wm Z<|wa (aC bKv Z (Ct.fresh (λw hw=>XP ((rdr 0 Z) w hw) Z b8 pe hl.2 G))) ?_;rintro _ _⟨_,rfl,na,db,rfl,rfl⟩;refine wm Z<|wX Z Z<|wX Z Z<|wg Z<|wn Z<|wq<|wm Z<|wm Z<|wm Z<|wm Z<|aB Z Z<|wm Z<|aB Z Z ?_;refine wy (aL af Z)<|aB Z Z<|wm Z<|aB Z Z<|wy (Yl.t (fD Z Z) G)<|wy (aS Z Z)<|wg Z<|wg Z<|wn Z<|aT [0,3,2] 4 cC Z ?_;refine⟨_,_,_,Z,Z,Z,?_⟩;exact⟨_,_,_,_,f9,Z,Z⟩
end Go.Proofs.YtdbebmmhdefgdaaGreat
namespace Go.Pure
open Go Go.Eng
section
variable {p:AH}
def pit (p:AH):Nat->Int->Int
 |0,i=>i
 |b+1,i=>rd p (pit p b i)
theorem uU (hp:p.Perm (iota p.length)) {i:Int} (i0:0<=i) (hi:i<p.length): ∀b:Nat,0<=pit p b i/\pit p b i<p.length
 |0=>⟨i0,hi⟩
 |b+1=>by
  have ih:=uU hp i0 hi b;exact aZ.1 (hp.subset (bI (L:=p) ih.1 ih.2))
theorem aIh (p:AH) (a:Nat) (i:Int): ∀b:Nat,pit p (a+b) i=pit p b (pit p a i)
 |0=>rfl
 |b+1=>by rw[<-mo,pit,aIh p a i b,pit]
theorem bDu (hp:p.Perm (iota p.length)) {x y:Int} (x0:0<=x) (hx:x<p.length) (y0:0<=y) (hy:y<p.length) (h:rd p x=rd p y):x=y:=kK (hp.symm.nodup (eT _)) x0 hx y0 hy h
structure Ring (p:AH) (i:Int) (c:AH):Prop where
 pos:0<c.length
 at_: ∀b:Nat,b<c.length->rd c b=pit p b i
 close:pit p c.length i=i
 nodup:c.Nodup
 least: ∀x∈c,i<=x
structure ClE (p:AH) (E:List Bool):Prop where
 len:E.length=p.length
 back: ∀j:Int,0<=j->j<p.length->rdb E (rd p j)=true->rdb E j=true
theorem aYw {l:AH} {x:Int} {b:Nat} (h:b<(l++[x]).length):rd (l++[x]) b=if b<l.length then rd l b else x:=by
 split
 ·rename_i g;rw[kU G G]
 ·rename_i g;have:b=l.length:=by simp at h;omega
  subst this;rw[iH G,Ih];rfl
theorem QK (hp:p.Perm (iota p.length)) {E0:List Bool} {i:Int} (hE0:ClE p E0) (i0:0<=i) (hi:i<p.length) (Hn:rdb E0 i≠true) (ka: ∀j:Int,0<=j->j<i->rdb E0 j=true):
  ∀(f:Nat) (E:List Bool) (acc:AH),E.length=p.length->cntF E<=f->(∀b:Nat,b<acc.length->rd acc b=pit p b i)->acc.Nodup->(∀x∈acc,rdb E0 x≠true)->(∀j:Int,0<=j->j<p.length->(rdb E j=true↔rdb E0 j=true\/j∈acc))->
  Ring p i (acc++(gY p f E (pit p acc.length i)).1)/\(∀x∈acc++(gY p f E (pit p acc.length i)).1,rdb E0 x≠true)/\ ∀j:Int,0<=j->j<p.length->(rdb (gY p f E (pit p acc.length i)).2 j=true↔rdb E0 j=true\/j∈acc++(gY p f E (pit p acc.length i)).1)
 | f, E,acc,hl,hf,sr,hnd,La,hset=>by
  have hk:=uU hp i0 hi acc.length;have ft: ∀b:Nat,b<acc.length->pit p b i∈acc:=λb hb=>by rw[<-sr b hb];exact bI G G
  by_cases sm:rdb E (pit p acc.length i)=true
  ·rw [uK sm];simp only[jh]
   have cv:0<acc.length:=by
    rcases ek acc.length with z|z
    ·exfalso;have hz:acc=[]:=dw z;subst hz;rcases(hset i i0 hi).1 sm with a|a
     ·exact Hn a
     ·cases a
    ·exact z
   have Oa:pit p acc.length i=i:=by
    have hz:=uU hp i0 hi (acc.length-1)
    have Mu:pit p acc.length i=rd p (pit p (acc.length-1) i):=by
     obtain⟨m,hm⟩: ∃m,acc.length=m+1:=⟨acc.length-1,G⟩;rw[hm,pit];rfl
    rcases(hset _ hk.1 hk.2).1 sm with a|a
    ·rw [Mu] at a;exact absurd (hE0.back _ hz.1 hz.2 a) (La _ (ft _ G))
    ·obtain ⟨b,hb,e⟩:=gz.1 a;have e2:pit p acc.length i=pit p b i:=by rw[<-sr b hb,iW hb];exact e.symm
     rcases ek b with z|z
     ·rw[e2,z];rfl
     ·exfalso;have vl:=uU hp i0 hi (b-1)
      have Pc:pit p b i=rd p (pit p (b-1) i):=by
       obtain⟨m,rfl⟩: ∃m,b=m+1:=⟨b-1,G⟩;rw[pit];rfl
      have:=bDu hp hz.1 hz.2 vl.1 vl.2 (by rw[<-Mu,<-Pc,e2]);rw[<-sr _ G,<-sr _ G] at this;have:=kK hnd G G G G this;omega
   refine⟨⟨cv,sr,Oa,hnd,λx hx=> ?_⟩,La,hset⟩;obtain⟨b,hb,rfl⟩:=gz.1 hx;have hr:=uU hp i0 hi b;rw[<-sr b hb,iW hb] at hr;rcases bz acc[b] i with g|g
   ·exact absurd (ka _ hr.1 g) (La _ hx)
   ·exact g
  ·have ff:=OC hk.1 G sm;have a8:=ED hk.1 G sm;obtain⟨g,rfl⟩: ∃g,f=g+1:=⟨f-1,G⟩;rw[KL hk.1 G hf sm];have yp: ¬(rdb E0 (pit p acc.length i)=true\/pit p acc.length i∈acc):=λh=>sm ((hset _ hk.1 hk.2).2 h);have hlen:(acc++[pit p acc.length i]).length=acc.length+1:=cD
   have ih:=QK hp hE0 i0 hi Hn ka g (qR E (pit p acc.length i) true) (acc++[pit p acc.length i]) (by rw[lU];exact hl) G (λb hb=>by
    rw[aYw hb];split
    ·rename_i q;exact sr b q
    ·rename_i q;rw[show b=acc.length by rw[hlen] at hb;omega]) (xu.2 ⟨hnd,cD,λx hx y hy e=>by obtain rfl:=ic.1 hy;subst e;exact yp (.inr hx)⟩) (λx hx=>by
    rcases dz.1 hx with h|h
    ·exact La x h
    ·obtain rfl:=ic.1 h
     exact λe=>yp (.inl e)) (λj j0 hj=>by
    rw[yE hk.1 G j0,dz,ic];split
    ·rename_i e;exact⟨λ_=> .inr (.inr e),λ_=>rfl⟩
    ·rename_i e;rw[hset j j0 hj];exact⟨λh=>h.elim .inl λh=> .inr (.inl h),λh=>h.elim .inl λh=>h.elim .inr λh=>absurd h e⟩)
   rw[hlen,pit,gq] at ih;exact ih
structure bNj (p:AH) (i:Nat) (E:List Bool) (ls:AD):Prop where
 cl:ClE p E
 seen: ∀j:Int,0<=j->j<p.length->(rdb E j=true↔j∈ls.flatten)
 nodup:ls.flatten.Nodup
 ring: ∀c∈ls,∃i0:Int,(0<=i0/\i0<i)/\Ring p i0 c
 heads:ls.Pairwise λc d=>rd c 0<rd d 0
theorem bNc (hp:p.Perm (iota p.length)): ∀i:Nat,i<=p.length->bNj p i (jM p i).1 (jM p i).2
 |0,_=>⟨⟨by simp[jM],λj j0 hj h=>by rw[jM,JR] at h;cases h⟩,λj j0 hj=>by rw[jM,JR];simp,by simp[jM],λc hc=>(by cases hc), .nil⟩
 | i +1,hi=>by
  have ih:=bNc hp i G;have sm:=GN hp i G;have hf:=mI hp i G;have Ym:cntF (jM p i).1<=p.length:=by have:=hf.2.2;omega
  rw[jM];by_cases Hn:rdb (jM p i).1 i=true
  ·rw [uK Hn];simp only[Jd];exact⟨ih.cl,ih.seen,ih.nodup,λc hc=>by obtain⟨i0,h,r⟩:=ih.ring c hc;exact⟨i0,G,r⟩,ih.heads⟩
  ·obtain ⟨w1,w2,w3⟩:=QK hp ih.cl (i:=i) G G Hn (λj j0 hj=>by have:=sm j.toNat G;rwa[show((j.toNat:Nat):Int)=j by omega] at this) p.length (jM p i).1 [] hf.1 Ym (λb hb=>by simp at hb) .nil (λx hx=>by cases hx) (λj j0 hj=>cD);simp only[jd,jb,pit] at w1 w2 w3;have b5:=(rV hp p.length (jM p i).1 i hf.1 G G);generalize gY p p.length (jM p i).1 i=r at w1 w2 w3 b5;obtain⟨c,E'⟩:=r;simp only at w1 w2 w3 b5 ⊢;rw[df (λe=>by have:=w1.pos;rw[e] at this;simp at this)];have h0:rd c 0=i:=w1.at_ 0 w1.pos;refine⟨⟨b5.1,λj j0 hj h=> ?_⟩,λj j0 hj=> ?_,?_,λd hd=> ?_,?_⟩
   ·have xi:=aZ.1 (hp.subset (bI (L:=p) j0 hj));rcases(w3 _ xi.1 xi.2).1 h with a|a
    ·exact(w3 j j0 hj).2 (.inl (ih.cl.back j j0 hj a))
    ·refine (w3 j j0 hj).2 (.inr ?_);obtain⟨b,hb,e⟩:=gz.1 a;have e2:rd p j=pit p b i:=by rw[<-w1.at_ b hb,iW hb];exact e.symm
     have key: ∀m:Nat,m<c.length->rd p j=rd p (pit p m i)->j∈c:=λm hm e=>by
      have Jf:=uU hp (i:=i) G G m;have:=bDu hp j0 hj Jf.1 Jf.2 e;rw[this,<-w1.at_ m hm];exact bI G G
     rcases ek b with z|z
     ·refine key (c.length-1) (by have:=w1.pos;omega) ?_;have hc:=w1.close;obtain⟨m,hm⟩: ∃m,c.length=m+1:=⟨c.length-1,by have:=w1.pos;omega⟩;rw[hm,pit] at hc;rw[e2,z,hm];exact hc.symm
     ·obtain ⟨m,rfl⟩: ∃m,b=m+1:=⟨b-1,G⟩;exact key m G (by rw[e2,pit])
   ·rw [w3 j j0 hj,lq,dz,ih.seen j j0 hj];simp
   ·rw [lq];refine xu.2 ⟨ih.nodup,by simpa using w1.nodup,λx hx y hy e=> ?_⟩;subst e;have hy:x∈c:=by simpa using hy
    have zc:=b5.2.1 x hy;exact w2 x hy ((ih.seen x zc.1 zc.2).2 hx)
   ·rcases dz.1 hd with h|h
    ·obtain ⟨i0,h,r⟩:=ih.ring d h;exact⟨i0,G,r⟩
    ·obtain rfl:=ic.1 h;exact⟨i,G,w1⟩
   ·refine kg.2 ⟨ih.heads,pu _ _,λd hd e he=> ?_⟩;obtain rfl:=ic.1 he;obtain⟨i0,h,r⟩:=ih.ring d hd;rw[h0,show rd d 0=i0 from r.at_ 0 r.pos];omega
theorem aFy (hp:p.Perm (iota p.length)):bNj p p.length (jM p p.length).1 (fQ p):=bNc hp p.length (dx _)
theorem yQ (hp:p.Perm (iota p.length)):(fQ p).flatten.Perm (iota p.length):=qZ (aFy hp).nodup (λx hx=>by
 obtain⟨c,hc,hx⟩:=ug.1 hx
 exact aZ.2 (aJk hp c hc x hx)) (by rw[bD,aBd hp];exact dx _)
end
end Go.Pure
namespace Go.Pure
open Go Go.Eng
section
variable {l:AH}
def phi (l:AH) (q:Int):Int:=rd (cZ (iota l.length) l 256) q
theorem MO (hl:aN l) {q:Int} (q0:0<=q) (hq:q<l.length):0<=phi l q/\phi l q<l.length:=by
 have h:=kV (l:=l) hl;have hlen:=h.1.length_eq;rw[bD] at hlen;exact aZ.1 (h.1.subset (bI q0 G))
theorem bGe (hl:aN l) {i:Int} (i0:0<=i) (hi:i<l.length):phi l (lfC l i)=i:=by
 obtain⟨q,q0,q1,e,f⟩:=ZV (l:=l) hl i0 hi;rw[f];exact e
theorem aEh (hl:aN l) {i k:Int} (i0:0<=i) (h:i<k) (hk:k<l.length):tl l (phi l i) (phi l k):=by
 have hlen:=(kV (l:=l) hl).1.length_eq;rw[bD] at hlen;exact eY (kV (l:=l) hl).2 i0 h G
def uw (l:AH):Nat->Int->Int
 |0,i=>rd l (phi l i)
 |d+1,i=>uw l d (phi l i)
def U (l:AH) (i:Int) (d:Nat):Int:=uw l d i
theorem xS (i:Int):U l i 0=rd l (phi l i):=by unfold U;rw[uw]
theorem AR (i:Int) (d:Nat):U l i (d+1)=U l (phi l i) d:=by unfold U;rw[uw]
theorem aYe (hl:aN l): ∀(d:Nat) (i k:Int),0<=i->i<k->k<l.length->(∀e,e<d->U l i e=U l k e)->U l i d<=U l k d
 |0,i,k,i0,h,hk,_=>by
  have:=aEh hl i0 h hk;rw[xS,xS];unfold tl at this;omega
 |d+1,i,k,i0,h,hk,he=>by
  have h0:=he 0 G;rw[xS,xS] at h0;have ht:=aEh hl i0 h hk;unfold tl at ht;have Pu:=MO hl (q:=i) i0 G;have ov:=MO hl (q:=k) G hk;rw[AR,AR];refine aYe hl d _ _ Pu.1 G ov.2 λe he'=> ?_;have:=he (e+1) G;rwa[AR,AR] at this
theorem aPn (hl:aN l) {i k:Int} (i0:0<=i) (h:i<=k) (hk:k<l.length): ¬Lt (U l k) (U l i):=by
 rintro⟨d,h1,h2⟩;rcases bz i k with a|a
 ·have:=aYe hl d i k i0 a hk λe he=>(h1 e he).symm;omega
 ·obtain rfl:i=k:=G
  omega
theorem phi_mono (hl:aN l) {i k:Int} (i0:0<=i) (h:i<k) (hk:k<l.length) (he: ∀d,U l i d=U l k d):phi l i<phi l k/\ ∀d,U l (phi l i) d=U l (phi l k) d:=by
 have ht:=aEh hl i0 h hk;have h0:=he 0;rw[xS,xS] at h0;unfold tl at ht;refine⟨G,λd=> ?_⟩;have:=he (d+1);rwa[AR,AR] at this
def jS (l:AH):Nat->Int->Int
 |0,i=>i
 |b+1,i=>jS l b (phi l i)
theorem uV (hl:aN l): ∀(b:Nat) {i:Int},0<=i->i<l.length->0<=jS l b i/\jS l b i<l.length
 |0,i,i0,hi=>⟨i0,hi⟩
 |b+1,i,i0,hi=>by
  have h:=MO hl i0 hi;exact uV hl b h.1 h.2
theorem FT (hl:aN l): ∀(b:Nat) {i k:Int},0<=i->i<k->k<l.length->(∀d,U l i d=U l k d)->jS l b i<jS l b k/\ ∀d,U l (jS l b i) d=U l (jS l b k) d
 |0,i,k,_,h,_,he=>⟨h,he⟩
 |b+1,i,k,i0,h,hk,he=>by
  have h1:=phi_mono hl i0 h hk he;have Pu:=MO hl (q:=i) i0 G;have ov:=MO hl (q:=k) G hk;exact FT hl b Pu.1 h1.1 ov.2 h1.2
theorem xU (i:Int): ∀(b d:Nat),U l (jS l b i) d=U l i (b+d)
 |0,d=>by rw[og];rfl
 |b+1,d=>by
  rw[jS,xU (phi l i) b d,<-AR,show b+d+1=b+1+d by omega]
theorem pO (i:Int): ∀(a b:Nat),jS l (a+b) i=jS l b (jS l a i)
 |0,b=>by rw[og];rfl
 |a+1,b=>by rw[show a+1+b=(a+b)+1 by omega,jS,pO (phi l i) a b];rfl
theorem aIr (hl:aN l) {i:Int} (i0:0<=i) (hi:i<l.length) {b:Nat} (h:i<jS l b i) (he: ∀d,U l i d=U l (jS l b i) d): ∀t:Nat,i+t<=jS l (t*b) i
 |0=>by rw[Bq];show i+0<=i;omega
 |t+1=>by
  have ih:=aIr hl i0 hi h he t;have hk:=uV hl b i0 hi;have h1:=(FT hl (t*b) i0 h hk.2 he).1;rw[<-pO i b (t*b),show b+t*b=(t+1)*b by rw[Bp];omega] at h1;omega
theorem aIs (hl:aN l) {i:Int} (i0:0<=i) (hi:i<l.length) {b:Nat} (h:jS l b i<i) (he: ∀d,U l i d=U l (jS l b i) d): ∀t:Nat,jS l (t*b) i+t<=i
 |0=>by rw[Bq];show i+0<=i;omega
 |t+1=>by
  have ih:=aIs hl i0 hi h he t;have hk:=uV hl b i0 hi;have h1:=(FT hl (t*b) hk.1 h hi λd=>(he d).symm).1;rw[<-pO i b (t*b),show b+t*b=(t+1)*b by rw[Bp];omega] at h1;omega
theorem aRg (hl:aN l) {i:Int} (i0:0<=i) (hi:i<l.length) {b:Nat} (cv:jS l b i≠i): ¬ ∀d,U l i d=U l (jS l b i) d:=λhe=>by
 rcases bz i (jS l b i) with h|h
 ·have:=aIr hl i0 hi h he (l.length+1);have:=uV hl ((l.length+1)*b) i0 hi;omega
 ·have:=aIs hl i0 hi G he (l.length+1);have:=uV hl ((l.length+1)*b) i0 hi;omega
theorem bBq (hl:aN l):(((iota l.length).map (lfC l))).Perm (iota ((iota l.length).map (lfC l)).length):=by
 rw[bq,bD];exact EK (λx h0 h1=>ZW (l:=l) hl h0 h1) λx y x0 x1 y0 y1 e=>aUb (l:=l) hl x0 x1 y0 y1 e
def lfL (l:AH):AH:=(iota l.length).map (lfC l)
theorem nE (l:AH):(lfL l).length=l.length:=by unfold lfL;rw[bq,bD]
theorem bFz {i:Int} (i0:0<=i) (hi:i<l.length):rd (lfL l) i=lfC l i:=by
 unfold lfL;rw[wJ i0 (by rw[bD];exact hi),uT i0 hi]
theorem lW (hl:aN l):(lfL l).Perm (iota (lfL l).length):=bBq hl
theorem ZA (hl:aN l) {i:Int} (i0:0<=i) (hi:i<l.length): ∀b:Nat,jS l b (pit (lfL l) b i)=i
 |0=>rfl
 |b+1=>by
  have h:=uU (lW hl) i0 (by rw[nE];exact hi) b;rw[nE] at h;rw[jS,pit,bFz h.1 h.2,bGe hl h.1 h.2];exact ZA hl i0 hi b
section
variable {i:Int} {c:AH} (hl:aN l) (i0:0<=i) (hi:i<l.length) (hc:Ring (lfL l) i c)
include hl i0 hi hc
theorem yD {b:Nat} (hb:b<=c.length):jS l b i=pit (lfL l) (c.length-b) i:=by
 have h:=ZA hl (uU (lW hl) i0 (by rw[nE];exact hi) (c.length-b)).1 (by have:=(uU (lW hl) i0 (by rw[nE];exact hi) (c.length-b)).2;rw[nE] at this;exact this) b;rw[<-aIh,show c.length-b+b=c.length by omega,hc.close] at h;exact h
theorem LW:jS l c.length i=i:=by
 rw[yD hl i0 hi hc (dx _),Dj];rfl
theorem YR:Per (U l i) c.length:=λd=>by
 rw[um,<-xU,LW hl i0 hi hc]
theorem XI {d:Nat} (hd:d<c.length):rd (kN l c) d=U l i d:=by
 have h1:rd (kN l c) d=rd l (rd c ((c.length-1-d:Nat):Int)):=by
  unfold kN;rw[wJ G (by rw[nk];omega)];congr 1;rw[iW (by rw[nk];exact hd),El,iW G]
 have h2:U l i d=rd l (jS l (d+1) i):=by
  have:=xU (l:=l) i d 0;rw[qp,xS] at this;rw[<-this,pO i d 1];rfl
 rw[h1,h2,hc.at_ _ G,yD hl i0 hi hc G,show c.length-(d+1)=c.length-1-d by omega]
theorem KG:om (kN l c)=U l i:=by
 funext d;have hp:=hc.pos
 have h1:om (kN l c) d=rd (kN l c) ((d%c.length:Nat):Int):=by
  unfold om rd;rw[nU,cz]
 rw[h1,XI hl i0 hi hc (yh _ hp)];exact(YR hl i0 hi hc).mod d
theorem LX {r:Nat} (r0:0<r) (hr:r<c.length):i<jS l r i:=by
 rw[yD hl i0 hi hc G];have h1:=hc.least _ (bI (L:=c) (k:=((c.length-r:Nat):Int)) G G);rw[hc.at_ _ G] at h1;rcases bz i (pit (lfL l) (c.length-r) i) with g|g
 ·exact g
 ·exfalso
  have e:rd c ((c.length-r:Nat):Int)=rd c ((0:Nat):Int):=by
   rw[hc.at_ _ G,hc.at_ 0 hc.pos];show _=i;omega
  have:=kK hc.nodup G G G (by have:=hc.pos;omega) e;omega
theorem aRv:pW (kN l c)=true:=by
 rw[kY,nU];refine⟨hc.pos,λr r0 hr=> ?_⟩;have hot:=LX hl i0 hi hc r0 hr;have de:=uV hl r i0 hi;have hnl:=aPn hl i0 (Bj hot) de.2;have cv:=aRg hl i0 hi (b:=r) G
 have bp:Lt (U l i) (U l (jS l r i)):=by
  rcases wZ (U l i) (U l (jS l r i)) with a|a|a
  ·exact a
  ·exact absurd a cv
  ·exact absurd a hnl
 obtain⟨d,h1,h2⟩:=bp;have Ui: ∀e,U l (jS l r i) e=U l i (r+e):=λe=>xU i r e;rw[Ui] at h2
 have hdm:d<c.length-r:=by
  rcases gm d (c.length-r) with g|g
  ·exact g
  ·exfalso;have nb:=YR hl i0 hi hc;have Ov:=LX hl i0 hi hc (r:=c.length-r) G G;have Yv:=uV hl (c.length-r) i0 hi;refine aPn hl i0 (Bj Ov) Yv.2 ⟨d-(c.length-r),λe he=> ?_,?_⟩
   ·rw [xU];have:=h1 (c.length-r+e) G;rw[this,Ui,show r+(c.length-r+e)=e+c.length by omega,nb]
   ·rw [xU,show c.length-r+(d-(c.length-r))=d by omega];rw[show r+d=(d-(c.length-r))+c.length by omega,nb] at h2;exact h2
 rw[nI _ _ (by rw[az,nU];omega),az,nU]
 have bp: ∀e,e<c.length->lt (kN l c) e=U l i e:=λe he=>by
  rw[<-XI hl i0 hi hc he];unfold lt rd;rw[cz]
 refine⟨d,hdm,λe he=> ?_,?_⟩
 ·rw[jG,bp e G,bp (r+e) G,h1 e he,Ui]
 ·rw [jG,bp d G,bp (r+d) G];exact h2
end
end
end Go.Pure
namespace Go.Pure
open Go Go.Eng
theorem MZ {w:AH} {e:Nat} (h:e<w.length):om w e=lt w e:=pQ h
theorem aKg {v:AH} (h:pW v=true) {r:Nat} (r0:0<r) (hr:r<v.length): ∃d,d<v.length-r/\(∀e,e<d->lt v e=lt v (r+e))/\lt v d<lt v (r+d):=by
 have:=((kY v).1 h).2 r r0 hr;rw[nI _ _ (by rw[az];omega),az] at this;obtain⟨d,h1,h2,h3⟩:=this;refine⟨d,h1,λe he=> ?_,?_⟩
 ·rw[h2 e he,jG]
 ·rwa[jG] at h3
theorem longer {w v:AH} (hw:0<w.length) (hv:pW v=true) (hlen:w.length<v.length) (Fm: ∀e,e<w.length->lt v e=lt w e):Lt (om w) (om v):=by
 obtain⟨d,h1,h2,h3⟩:=aKg hv hw hlen;have nb:=pX w
 have agr: ∀e,e<w.length+d->lt v e=om w e:=by
  intro e
  induction e using Nat.strongRecOn with
  | ind e ih=>
   intro he;rcases gm e w.length with g|g
   ·rw[Fm e g,MZ g]
   ·have e1:=h2 (e-w.length) G;rw[show w.length+(e-w.length)=e by omega] at e1;have e2:=nb (e-w.length);rw[show e-w.length+w.length=e by omega] at e2;rw[<-e1,e2];exact ih (e-w.length) G G
 refine⟨w.length+d,λf hf=> ?_,?_⟩
 ·rw[MZ (w:=v) G,agr f hf]
 ·rw [MZ (w:=v) G];have e1:=nb d;rw[um d w.length] at e1;rw[e1,<-agr d G];exact h3
theorem aIv: ∀(ws:AD) (m:Nat),0<m->m<=ws.flatten.length-> ∃v∈ws,∃r,r<m/\m<=r+v.length/\ ∀e,e<v.length->lt ws.flatten (r+e)=lt v e
 |[],m,h0,h=>by simp at h;omega
 | w::ws,m,h0,h=>by
  rw[qj,ah] at h;rcases gm w.length m with g|g
  ·obtain ⟨v,hv,r,h1,h2,h3⟩:=aIv ws (m-w.length) G G;refine⟨v,fo _ hv,w.length+r,G,G,λe he=> ?_⟩;rw[qj,<-h3 e he];unfold lt;rw[ai,ai,ji G,show w.length+r+e-w.length=r+e by omega]
  ·refine ⟨w,cD,0,h0,G,λe he=> ?_⟩;rw[qj,og];unfold lt;rw[ai,ai,jl he]
theorem aNr {w:AH} {ws:AD} (hw:pW w=true) (hws: ∀v∈ws,pW v=true) (ox: ∀v∈ws,¬Lt (om w) (om v)):iX (w++ws.flatten) (w++ws.flatten).length=w.length:=by
 have ff:=((kY w).1 hw).1;refine FY (by rw[Ey];exact hw;rfl) _ cD λm h1 h2=> ?_;cases hb:pW ((w++ws.flatten).take m) with
 |false=>rfl
 | true=>
  exfalso;rw[ah] at h2;obtain⟨v,hv,r,r1,r2,r3⟩:=aIv ws (m-w.length) G G;have Vz:((w++ws.flatten).take m).length=m:=by rw[ax,ah];omega
  obtain⟨d,d1,d2,d3⟩:=aKg hb (r:=w.length+r) G G;rw[Vz] at d1;have hs: ∀e,e<m->lt ((w++ws.flatten).take m) e=lt (w++ws.flatten) e:=λe he=>lt_take he
  have m4: ∀e,e<w.length->lt (w++ws.flatten) e=lt w e:=λe he=>by
   unfold lt;rw[ai,ai,jl he]
  have hsv: ∀e,e<v.length->lt (w++ws.flatten) (w.length+r+e)=lt v e:=λe he=>by
   rw[<-r3 e he];unfold lt;rw[ai,ai,ji G,show w.length+r+e-w.length=r+e by omega]
  have hlv:=hws v hv
  have q2: ∀e,e<d->lt (w++ws.flatten) e=lt v e:=λe he=>by
   have:=d2 e he;rwa[hs _ G,hs _ G,hsv e G] at this
  have q3:lt (w++ws.flatten) d<lt v d:=by rwa[hs _ G,hs _ G,hsv d G] at d3
  rcases gm d w.length with g|g
  ·refine ox v hv ⟨d,λe he=> ?_,?_⟩
   ·rw[MZ (w:=w) G,MZ (w:=v) G,<-q2 e he,m4 e G]
   ·rw [MZ (w:=w) g,MZ (w:=v) G,<-m4 d g];exact q3
  ·exact ox v hv (longer ff hlv G λe he=>by rw[<-q2 e G,m4 e he])
theorem aIz: ∀ {ws:AD},(∀v∈ws,pW v=true)->ws.Pairwise (λa b=> ¬Lt (om a) (om b))->dN ws.flatten=ws.map λw=>(w.length:Int)
 |[],_,_=>NT rfl
 |w::ws,hl,hp=>by
  obtain⟨h1,h2⟩:=ja.1 hp;have hw:=hl w cD;have ff:=((kY w).1 hw).1;have hf:=aNr hw (λv hv=>hl v (fo _ hv)) h1;rw[qj,GI (by rw[ah];omega),hf,Jh,ko,aIz (λv hv=>hl v (fo _ hv)) h2];rfl
theorem aEf (ws:AD) (k:Nat):ps (ws.map λw=>(w.length:Int)) k=((ws.take k).flatten.length:Int):=by
 unfold ps;rw[cz,<-Cb]
 induction ws.take k with
 |nil=>rfl
 |cons w l ih=>rw[ko,uh,ih,qj,ah];omega
theorem aOm (ws:AD):iC ws.flatten (ws.map λw=>(w.length:Int)) ws.length=ws:=by
 refine vg (by rw[uJ];omega) λk h1 h2=> ?_;simp only[iC,yg,zg];rw[aEf,cz,iW (by rw[bq];exact h2),yg,cz]
 have e:ws.flatten=(ws.take k).flatten++(ws[k]++(ws.drop (k+1)).flatten):=by
  conv=>lhs;rw[<-gy k ws,ll h2]
  rw[lq,qj]
 rw[e,Jh rfl,Ey rfl]
theorem TR {ws:AD} (hl: ∀v∈ws,pW v=true) (hp:ws.Pairwise (λa b=> ¬Lt (om a) (om b))):bws ws.flatten=ws:=by
 unfold bws;rw[aIz hl hp,bq];exact aOm ws
end Go.Pure
namespace Go.Pure
open Go Go.Eng
section
variable {l:AH}
def gF (l:AH):AD:=((fQ (lfL l)).reverse).map (kN l)
theorem aGw (l:AH):backL l (fQ (lfL l))=(gF l).flatten:=rfl
theorem CB (hl:aN l) {c:AH} (hc:c∈fQ (lfL l)): ∃i:Int,(0<=i/\i<l.length)/\Ring (lfL l) i c/\rd c 0=i:=by
 obtain⟨i,h,r⟩:=(aFy (lW hl)).ring c hc;rw[nE] at h;exact⟨i,h,r,r.at_ 0 r.pos⟩
theorem aLv (hl:aN l): ∀v∈gF l,pW v=true:=λv hv=>by
 obtain⟨c,hc,rfl⟩:=ii.1 hv;obtain⟨i,h,r,_⟩:=CB hl (ze.1 hc);exact aRv hl h.1 h.2 r
theorem aDv (hl:aN l):(gF l).Pairwise (λa b=> ¬Lt (om a) (om b)):=by
 unfold gF;rw[Du];refine List.pairwise_reverse.2 (ik.2 ?_);refine lv (λ{c d} hc hd h=> ?_) (aFy (lW hl)).heads;obtain⟨i,hi,r,e⟩:=CB hl hc;obtain⟨k,hk,q,f⟩:=CB hl hd;rw[KG hl hi.1 hi.2 r,KG hl hk.1 hk.2 q];exact aPn hl hi.1 G hk.2
theorem EI (hl:aN l):bws (backL l (fQ (lfL l)))=gF l:=by
 rw[aGw];exact TR (aLv hl) (aDv hl)
theorem bDo {ws:AD} {w:Int} {j:Nat}:tw ws (w,(j:Int))=λd=>om (rdl ws w) (j+d):=by
 funext d;unfold tw om;simp only[cz]
theorem RN (hl:aN l) {i:Int} {c:AH} (i0:0<=i) (hi:i<l.length) (hc:Ring (lfL l) i c):((List.range c.length).map λj=>jS l j i).Perm c:=by
 have ff:=hc.pos
 have d6: ∀j,j<c.length->jS l j i=rd c (((c.length-j)%c.length:Nat):Int):=λj hj=>by
  rw[yD hl i0 hi hc G];rcases ek j with z|z
  ·subst z;rw[yz,hc.close,Nat.mod_self,hc.at_ 0 ff];rfl
  ·rw[lh G,hc.at_ _ G]
 refine qZ ?_ (λx hx=> ?_) cD
 ·refine ik.2 (lv (λ{a b} ha hb vj e=> ?_) xe);have ha:=jw.1 ha;have hb:=jw.1 hb;rw[d6 a ha,d6 b hb] at e;have h1:=yh (c.length-a) ff;have h2:=yh (c.length-b) ff;have:=kK hc.nodup G G G G e;have e3:(c.length-a)%c.length=(c.length-b)%c.length:=G
  refine vj ?_;rcases ek a with z|z
  ·rcases ek b with y|y
   ·omega
   ·rw[z,yz,Nat.mod_self,lh G] at e3;omega
  ·rcases ek b with y|y
   ·rw[y,yz,Nat.mod_self,lh G] at e3;omega
   ·rw[lh G,lh G] at e3;omega
 ·obtain ⟨j,hj,rfl⟩:=ii.1 hx;have hj:=jw.1 hj;have h1:=yh (c.length-j) ff;rw[d6 j hj];exact bI G G
theorem uO (hl:aN l): ∀k:Nat,k<=(fQ (lfL l)).length->((fG (gF l) k).map (tw (gF l))).Perm (((((fQ (lfL l)).reverse).take k).flatten).map (U l))
 |0,_=> .refl _
 | k+1,hk=>by
  have ih:=uO hl k G;have bp:k<(fQ (lfL l)).reverse.length:=by rw[nk];omega
  rw[fG,iv,qm,av bp,lq,iv];refine ih.append ?_;simp only[Am,qj,Ic,jh];have ft:(fQ (lfL l)).reverse[k]∈fQ (lfL l):=ze.1 (mg bp)
  have u9:rdl (gF l) (k:Int)=kN l (fQ (lfL l)).reverse[k]:=by
   unfold rdl gF;rw[cz,ai,ol,av bp];rfl
  generalize (fQ (lfL l)).reverse[k]=c at ft u9;obtain⟨i,hi,r,_⟩:=CB hl ft;have h1:=(RN hl hi.1 hi.2 r).map (U l);refine List.Perm.trans (.of_eq ?_) h1;rw[u9,nU];unfold turnsOf;rw[qo,qo];refine vv λj _=> ?_;show tw (gF l) ((k:Int),(j:Int))=U l (jS l j i);rw[bDo,u9,KG hl hi.1 hi.2 r];funext d;rw[xU]
theorem yB (hl:aN l) {q:Int} (q0:0<=q) (hq:q<l.length): ∃m:Nat,0<m/\jS l m q=q:=by
 have hp:=yQ (lW hl);obtain⟨c,hc,hqc⟩:=ug.1 (hp.symm.subset (aZ.2 ⟨q0,by rw[nE];exact hq⟩));obtain⟨i,hi,r,_⟩:=CB hl hc;obtain⟨j,hj,e⟩:=ii.1 ((RN hl hi.1 hi.2 r).symm.subset hqc);refine⟨c.length,r.pos,?_⟩;rw[<-e,<-pO,um,pO,LW hl hi.1 hi.2 r]
theorem ZB {q:Int} {m:Nat} (h:jS l m q=q): ∀t:Nat,jS l (t*m) q=q
 |0=>by rw[Bq];rfl
 |t+1=>by rw[Bp,pO,ZB h t,h]
theorem XB {q:Int} {m t:Nat} (hm:jS l m q=q) (m0:0<m) (t0:0<t):U l q (m*t-1)=rd l q:=by
 have h:=ZB hm t;rw[zy] at h;have ff:0<m*t:=Gv m0 t0;have h2:=xU (l:=l) q (m*t-1) 0;rw[qp,xS] at h2;rw[<-h2];have h3:=pO (l:=l) q (m*t-1) 1;rw[show m*t-1+1=m*t by omega,h] at h3;rw[show phi l (jS l (m*t-1) q)=jS l 1 (jS l (m*t-1) q) from rfl,<-h3]
theorem aKr (hl:aN l) {T:AE} (hp:T.Perm (fG (bws (backL l (fQ (lfL l)))) (bws (backL l (fQ (lfL l)))).length)) (ho:T.Pairwise (jF (bws (backL l (fQ (lfL l)))))):T.map (lastB (bws (backL l (fQ (lfL l)))))=l:=by
 rw[EI hl] at hp ho ⊢;have hlen:(gF l).length=(fQ (lfL l)).length:=by unfold gF;rw[bq,nk]
 have h1:(T.map (tw (gF l))).Perm ((iota l.length).map (U l)):=by
  refine(hp.map _).trans ?_;rw[hlen];refine(uO hl _ (dx _)).trans ?_;rw[bi (by rw[nk];exact dx _)];have hc:=yQ (lW hl);rw[nE] at hc;exact(((Dg _).flatten).trans hc).map _
 have s1:(T.map (tw (gF l))).Pairwise λa b=> ¬Lt b a:=ik.2 (ho.imp λ{t u} h bp=>by
  rcases h with h|h
  ·exact h.asymm bp
  ·exact bp.not_eq λi=>(h.1 i).symm)
 have s2:((iota l.length).map (U l)).Pairwise λa b=> ¬Lt b a:=ik.2 (lv (λ{i k} hi hk h=>by
  have hi:=aZ.1 hi;have hk:=aZ.1 hk
  exact aPn hl hi.1 (Bj h) hk.2) (xC l.length))
 have same:T.map (tw (gF l))=(iota l.length).map (U l):=h1.eq_of_pairwise (λa b _ _ x y=>by
  rcases wZ a b with z|z|z
  ·exact absurd z y
  ·exact funext z
  ·exact absurd z x) s1 s2
 have Sc:T.length=l.length:=by
  have:=bu List.length same;rwa[bq,bq,bD] at this
 refine bL (by rw[bq];exact Sc) λq q0 q1=> ?_;rw[bq] at q1;rw[aIa q0 q1];have hv:=sD.1 (hp.subset (jY (l:=T) q0 q1))
 have hU:tw (gF l) (rdp T q)=U l q:=by
  have e1:(T.map (tw (gF l)))[q.toNat]? =some (tw (gF l) (rdp T q)):=by
   rw[ol,av G];unfold rdp;rw[ai,av G];rfl
  have e2:((iota l.length).map (U l))[q.toNat]? =some (U l q):=by
   rw[ol,av (by rw[bD];omega)];have:=uT (n:=l.length) q0 G;rw[fE q0 (by rw[bD];omega)] at this;rw[this];rfl
  rw[same,e2] at e1;exact(je e1).symm
 obtain⟨m,m0,hm⟩:=yB hl q0 (by omega:q<l.length);obtain⟨a1,a2,a3,a4⟩:=hv;have uc:0<(rdl (gF l) (rdp T q).1).length:=G
 generalize b5:(rdl (gF l) (rdp T q).1).length=wl at uc a4;have po:U l q (m*wl-1)=rd l q:=XB hm m0 uc;rw[<-po,<-hU];have ff:0<m*wl:=Gv m0 uc;unfold lastB tw rd;rw[b5];congr 1;obtain⟨j,hj⟩: ∃j:Nat,(rdp T q).2=j:=⟨(rdp T q).2.toNat,G⟩;rw[hj,cz,show(j:Int)+(wl:Int)-1=((j+wl-1:Nat):Int) by omega,<-zb,cz]
 have e:j+(m*wl-1)=(j+wl-1)+wl*(m-1):=by
  obtain⟨m',rfl⟩: ∃m',m=m'+1:=⟨m-1,G⟩;rw[Bp,Fz,zy wl m'];omega
 rw[e,Nat.add_mul_mod_self_left]
end
def aJu:AH:=(List.range 256).map λc:Nat=>(c:Int)
theorem SE {x:Int}:x∈aJu↔0<=x/\x<256:=by
 unfold aJu;rw[ii];constructor
 ·rintro ⟨c,hc,rfl⟩;have:=jw.1 hc;omega
 ·intro h;exact⟨x.toNat,jw.2 G,G⟩
theorem aBy:aJu.Nodup:=ik.2 (List.Pairwise.imp (λh e=>h G) xe)
def WS:Nat->AD
 |0=>[[]]
 |n+1=>aJu.flatMap λc=>(WS n).map λw=>c::w
theorem pR: ∀ {n:Nat} {w:AH},w∈WS n↔w.length=n/\aN w
 |0,w=>by
  rw[WS,ic];exact⟨λh=>by subst h;exact⟨rfl,λx hx=>by cases hx⟩,λh=>dw h.1⟩
 | n+1,w=>by
  rw[WS,Ai];constructor
  ·rintro ⟨c,hc,hw⟩;obtain⟨v,hv,rfl⟩:=ii.1 hw;have hv:=pR.1 hv;refine⟨by simp[hv.1],λx hx=> ?_⟩;rcases jc.1 hx with rfl|hx
   ·exact SE.1 hc
   ·exact hv.2 x hx
  ·rintro ⟨hl,hb⟩;cases w with
   |nil=>simp at hl
   |cons c v=>exact⟨c,SE.2 (hb c cD),ii.2 ⟨v,pR.2 ⟨by simpa using hl,λx hx=>hb x (fo _ hx)⟩,rfl⟩⟩
theorem PC: ∀n:Nat,(WS n).Nodup
 |0=>by rw[WS];exact pu _ _
 |n+1=>by
  rw[WS];refine List.pairwise_flatMap.2 ⟨λc _=>ik.2 ((PC n).imp λh e=>h (List.cons.inj e).2),aBy.imp λ{c d} h x hx y hy e=> ?_⟩;obtain⟨v,_,rfl⟩:=ii.1 hx;obtain⟨w,_,rfl⟩:=ii.1 hy;exact h (List.cons.inj e).1
theorem aXs {l k:AH} (hl:aN l) (hk:aN k) (hlen:l.length=k.length) (h:backL l (fQ (lfL l))=backL k (fQ (lfL k))):l=k:=by
 have hw:gF l=gF k:=by rw[<-EI hl,<-EI hk,h]
 have all: ∀ {x:AH},aN x->((fG (gF x) (gF x).length).map (tw (gF x))).Perm ((iota x.length).map (U x)):=λ{x} hx=>by
  have Vy:(gF x).length=(fQ (lfL x)).length:=by unfold gF;rw[bq,nk]
  rw[Vy];refine(uO hx _ (dx _)).trans ?_;rw[bi (by rw[nk];exact dx _)];have hc:=yQ (lW hx);rw[nE] at hc;exact(((Dg _).flatten).trans hc).map _
 have srt: ∀ {x:AH},aN x->((iota x.length).map (U x)).Pairwise λa b=> ¬Lt b a:=λ{x} hx=>ik.2 (lv (λ{i k} hi hk h=>by
  have hi:=aZ.1 hi;have hk:=aZ.1 hk
  exact aPn hx hi.1 (Bj h) hk.2) (xC x.length))
 have h1:=all hl;rw[hw] at h1
 have same:(iota l.length).map (U l)=(iota k.length).map (U k):=(h1.symm.trans (all hk)).eq_of_pairwise (λa b _ _ x y=>by
  rcases wZ a b with z|z|z
  ·exact absurd z y
  ·exact funext z
  ·exact absurd z x) (srt hl) (srt hk)
 refine bL hlen λq q0 q1=> ?_
 have at_: ∀ {x:AH},q<x.length->((iota x.length).map (U x))[q.toNat]? =some (U x q):=λ{x} hx=>by
  rw[ol,av (by rw[bD];omega)];have:=uT (n:=x.length) q0 hx;rw[fE q0 (by rw[bD];omega)] at this;rw[this];rfl
 have e:=at_ q1;rw[same,at_ G] at e;have eU:U k q=U l q:=je e;obtain⟨m,m0,hm⟩:=yB hl q0 q1;obtain⟨m',m0',Jf⟩:=yB hk q0 (by omega:q<k.length);have a:=XB hm m0 m0';have b:=XB Jf m0' m0;rw[zy,eU,a] at b;exact b
theorem TW {s:AH} (hs:aN s): ∃l:AH,aN l/\l.length=s.length/\backL l (fQ (lfL l))=s:=by
 have hp:((WS s.length).map λl=>backL l (fQ (lfL l))).Perm (WS s.length):=by
  refine qZ ?_ (λx hx=> ?_) cD
  ·refine ik.2 (lv (λ{a b} ha hb vj e=> ?_) (PC _));have ha:=pR.1 ha;have hb:=pR.1 hb;exact vj (aXs ha.2 hb.2 G e)
  ·obtain ⟨l,hl,rfl⟩:=ii.1 hx;have hl:=pR.1 hl;exact pR.2 ⟨by rw[aPh,aBd (lW hl.2),nE,hl.1],aPi hl.2 _⟩
 obtain⟨l,hl,e⟩:=ii.1 (hp.symm.subset (pR.2 ⟨rfl,hs⟩));have hl:=pR.1 hl;exact⟨l,hl.2,hl.1,e⟩
theorem aPg {s:AH} (hs:aN s) {T:AE} (hp:T.Perm (fG (bws s) (bws s).length)) (ho:T.Pairwise (jF (bws s))):backL (T.map (lastB (bws s))) (fQ (lfL (T.map (lastB (bws s)))))=s:=by
 obtain⟨l,hl,_,e⟩:=TW hs;subst e;rw[aKr hl hp ho]
end Go.Pure
namespace Go.Pure
open Go Go.Eng
variable {t o:Int} {n k:Nat} {u w:AH}
noncomputable def lL (t o:Int) (n:Nat) (u:AH) (k:Nat):AH:=
 (((List.range (chK u.length n)).drop k).map λj=>bZ t o ((u.drop (j*n)).take n)).flatten++(aW 0++aW u.length)
theorem RP (h:chK u.length n<=k):lL t o n u k=aW 0++aW u.length:=by
 unfold lL;rw[xk (by rw[yo];exact h)];rfl
theorem aDx (h:k<chK u.length n):lL t o n u k=bZ t o ((u.drop (k*n)).take n)++lL t o n u (k+1):=by
 unfold lL;rw[ll (by rw[yo];exact h),ko,qj,zg,gq]
theorem TC (t so o sz:Int) (u:AH):tZ t so o sz u=[87,72,82,76,1]++([t,so,o]++(aW sz++lL t o sz.toNat u 0)):=by
 unfold tZ lL lI;rw[Fx];simp
theorem bHp {m:Nat} (hn:1<=n):k<chK m n↔k*n<m:=by
 unfold chK;rw[Nat.lt_iff_add_one_le,Nat.le_div_iff_mul_le hn,xz,Bi];omega
theorem aN.back {x y:AH} (h:aN (x++y)):aN y:=λz hz=>h z (List.mem_append_right _ hz)
theorem oP {so sz:Int} (hu:aN u) (hS:u.length<=400) (ht:0<=t/\t<256) (hs:0<=so/\so<256) (ho:0<=o/\o<256) (hz:1<=sz/\sz<=16777216):aN (tZ t so o sz u)/\(tZ t so o sz u).length<=400000:=by
 have e1:=mQ (t:=t) (o:=o) (n:=sz.toNat) hu G (chK u.length sz.toNat);have e2:chK u.length sz.toNat<=u.length:=aGi G;have e3:(2*u.length+22)*chK u.length sz.toNat<=822*400:=Bh G G;have e4:=bW 4 sz G;have e5:=bW 4 (u.length:Int) G;have e6:(aW 0).length=1:=rfl;unfold tZ;refine⟨λx hx=> ?_,by simp only[ah,dn,jb];omega⟩;rcases dz.1 hx with hx|hx
 ·rcases dz.1 hx with hx|hx
  ·rcases dz.1 hx with hx|hx
   ·simp only[jf,jd,jc,vk,Gm] at hx;omega
   ·exact dB G x hx
  ·exact e1.2 x hx
 ·rcases dz.1 hx with hx|hx
  ·exact dB G x hx
  ·exact dB G x hx
def rQ (w:AH) (n k:Nat):AH:=(w.drop (k*n)).take n
theorem aXi (w:AH) (n k:Nat):(rQ w n k).length=min n (w.length-k*n):=by unfold rQ;rw[ax,az]
theorem aOv (w:AH) (n k:Nat):w.take ((k+1)*n)=w.take (k*n)++rQ w n k:=by
 unfold rQ;rw[xz,Bi,Ht]
theorem aGh (h:aN w) (n k:Nat):aN (rQ w n k):=(h.drop _).take _
noncomputable def nN (t o:Int) (b r:AH):AH:=(mK t b).1++(aW (bR (mK t b).2 o).length++(eG (bv (gQ b))++(bR (mK t b).2 o++r)))
theorem aDy (h:k<chK w.length n):lL t o n w k=aW (rQ w n k).length++nN t o (rQ w n k) (lL t o n w (k+1)):=by
 rw[aDx h];unfold bZ nN rQ;simp only[gq]
theorem YE {α:Type} {r:α->α->Prop} (tr: ∀a b c,r a b->r b c->r a c) (a:α): ∀m:List α,m.Pairwise r->(∀b∈m,r a b\/r b a)-> ∃m':List α,m'.Perm (a::m)/\m'.Pairwise r
 |[],_,_=>⟨[a], .refl _,pu _ _⟩
 | b::m,hm,hr=>by
  obtain⟨h1,h2⟩:=ja.1 hm;rcases hr b cD with h|h
  ·exact⟨a::b::m, .refl _,ja.2 ⟨λc hc=>by
    rcases jc.1 hc with rfl|hc
    ·exact h
    ·exact tr _ _ _ h (h1 c hc),hm⟩⟩
  ·obtain ⟨m',hp,hs⟩:=YE tr a m h2 λc hc=>hr c (fo _ hc);refine⟨b::m',(hp.cons b).trans (.swap a b m),ja.2 ⟨λc hc=> ?_,hs⟩⟩;rcases jc.1 (hp.subset hc) with rfl|hc
   ·exact h
   ·exact h1 c hc
theorem YF {α:Type} {r:α->α->Prop} (tr: ∀a b c,r a b->r b c->r a c): ∀l:List α,(l.Pairwise λa b=>r a b\/r b a)-> ∃m:List α,m.Perm l/\m.Pairwise r
 |[],_=>⟨[], .refl _, .nil⟩
 |a::l,h=>by
  obtain⟨h1,h2⟩:=ja.1 h;obtain⟨m,hp,hs⟩:=YF tr l h2;obtain⟨m',da,fj⟩:=YE tr a m hs λb hb=>h1 b (hp.subset hb);exact⟨m',da.trans (hp.cons a),fj⟩
theorem aTd {ws:AD} {t u:Int × Int} (h:t≠u):jF ws t u\/jF ws u t:=by
 rcases wZ (tw ws t) (tw ws u) with a|a|a
 ·exact .inl (.inl a)
 ·have hd:t.1≠u.1\/t.2≠u.2:=by
   rcases Int.decEq t.1 u.1 with c|c
   ·exact .inl c
   ·exact .inr λe=>h (Prod.ext c e)
  have:ltI t u\/ltI u t:=by unfold ltI;omega
  rcases this with g|g
  ·exact .inl (.inr ⟨a,g⟩)
  ·exact .inr (.inr ⟨λi=>(a i).symm,g⟩)
 ·exact .inr (.inl a)
theorem zC (ws:AD): ∃T:AE,T.Perm (fG ws ws.length)/\T.Pairwise (jF ws):=
 YF (r:=jF ws) (λ_ _ _ h g=>MW h g) _ ((vW ws _).imp λh=>aTd h)
end Go.Pure
